/- apparatusSpec_holds, part F of the proof: what its theorems say holds without further conditions. -/
import Derived.Test.YtodakphagkommaaGreatDoorProg
import Derived.KernelRfl
import Derived.Lib.Hide
import Derived.Lib.SlicesCompact
import Derived.Lib.RowBridge
import Derived.Test.YtodakphagkommaaGreatDoorASE
namespace Go.Proofs.YtodakphagkommaaGreatDoor
section
open Go Go.Kn Go.Proofs
theorem za8:ElT Tryz.prog 29 74 3 40:=.of (by kernel_rfl)
theorem zcF:Q3 Tryz.prog 38 0 0:=.of (by kernel_rfl)
theorem zg7:Q3 Tryz.prog 38 1 1:=.of (by kernel_rfl)
theorem zgj:Q3 Tryz.prog 38 2 2:=.of (by kernel_rfl)
theorem XG:Q3 Tryz.prog 38 3 3:=.of (by kernel_rfl)
theorem zf6:Q3 Tryz.prog 74 0 0:=.of (by kernel_rfl)
theorem zgs:Q3 Tryz.prog 74 1 1:=.of (by kernel_rfl)
theorem XJ:Q3 Tryz.prog 74 2 2:=.of (by kernel_rfl)
theorem zg2:Q3 Tryz.prog 77 0 0:=.of (by kernel_rfl)
theorem zfj:Q3 Tryz.prog 77 1 1:=.of (by kernel_rfl)
theorem zuk:Fun Tryz.prog 34:=.of Tryz.func34 (by kernel_rfl) (by kernel_rfl)
theorem zwh:Fun Tryz.prog 35:=.of Tryz.func35 (by kernel_rfl) (by kernel_rfl)
theorem zlt:Fun Tryz.prog 43:=.of Tryz.func43 (by kernel_rfl) (by kernel_rfl)
theorem zjQ:PlT Tryz.prog 74 #[(0,1),(1,1),(2,1)] (.agg #[(.int .i64 0),(.int .i64 0),(.slice none 0 0)]):=⟨.of (by kernel_rfl),by kernel_rfl,fun w=>by kernel_rfl⟩
theorem zjs:ScT Tryz.prog 72:=.of (by kernel_rfl)
theorem We:SlT Tryz.prog 29 74 3:=.of (by kernel_rfl)
theorem XW:SlT Tryz.prog 72 77 2:=.of (by kernel_rfl)
theorem zzb {I:Qw}{bv:Option Addr}{n2 c2:Nat}{rows:List (List Int)}(hVn:SlN I bv n2 c2 rows)(hn2:n2≤100000){ea1:Option Addr}{en1 ec1:Nat}{ea2:Option Addr}{en2 ec2:Nat}{ea3:Option Addr}{en3 ec3:Nat}{xs:List Int}{es:List Em}{rd:List Int}(hX1:Sl I 1 QP ea1 en1 ec1 xs)(hX2:Sl I 3 Yo ea2 en2 ec2 es)(hX3:Sl I 1 QP ea3 en3 ec3 rd)(hm1:en1≤100000)(hm2:en2≤100000)(hm3:en3≤100000)(no:Int):Z4 Tryz.prog 12 [.slice bv n2 c2,.agg (ZT no ea1 en1 ec1 ea2 en2 ec2 ea3 en3 ec3).toArray] I [] (fun v I' L=>zxV (UA rows no xs es rd) (zoL (UA rows no xs es rd) rows rd) v I' L):=by
 intro g H w hw
 refine qe Tryz.func12 Tryz.ntmps12 hw ?_
 have hIc:=zAl I
 have hVl:=hVn.len
 refine zR ?_
 refine Q9 rfl rfl rfl (fun b_3=>?_)
 refine zA ?_
 refine zA ?_
 refine zN (zR ?_)
 refine zM ?_
 refine zV (Qq rfl ZW (fun hg=>by exact Cells.g0) rfl) ?_
 refine qc (vs:=[_,_]) rfl zxK (ziM hVn hn2 hX1 hX2 hX3 hm1 hm2 hm3 no) ?_
 refine zA (zN (Qk (zR ?_)))
 refine zM ?_
 refine zC (zN ?_)
 refine zI ?_ ?_<;>intro hc13
 ·
  have he0:UA rows no xs es rd≠0:=by simpa using hc13
  refine zR (zM ?_)
  refine zA ?_
  refine zA (zN (Qs (Qb ?_)))
  first
  | exact Zr rfl rfl rfl (fun w hw=>⟨_,I,[],rfl,hIc,hw.drop,rfl,_,_,_,rfl,by rw [zlD he0];exact zec.nil⟩)
 have he0:UA rows no xs es rd=0:=by simpa using hc13
 obtain ⟨hmk,hrd⟩:=zfs he0
 obtain ⟨hr1,hr6,hr64,hrr⟩:=JE (KS (zjI hmk))
 have hrdl:rd.length=(rows.getD 0 []).length:=by rw [hrd];exact Wz
 have hX3l:=hX3.len
 refine Qo (Qa (zR ?_))
 refine Qp (ps:=[]) (m:=[]) za8 rfl (.nil) rfl (by simp) (by decide) (by decide) rfl rfl (fun b_15=>?_)
 refine zA (zN (Qk (zR ?_)))
 refine zA (zN (Ql ?_))
 refine zU [(0,_),(3,_)] (fun T L0 mz E I' loc'=>∃ (k:Nat) (v7:Value) (os:List Eh) (us:List En) (L:Go.Kn.Loc),mz=en3-k∧E=(7,v7)::(8,.int .i64 k)::T∧HLe I I'∧L++[(b_3,.cells (ZT no ea1 en1 ec1 ea2 en2 ec2 ea3 en3 ec3).toArray 26 (0,0))]=loc'∧k≤en3∧OwnS 74 3 v7 os.length (os.flatMap zad) L∧zcq I' os us∧us=zfS rows rd k∧os.length≤k) ?_ (h:=⟨0,_,[],[],[(b_15,_)],rfl,rfl,zAl _,rfl,Nat.zero_le _,OwnS.new,zak.nil,rfl,Nat.le_refl _⟩)
 rintro mz E J1 loc' ⟨k,v7,os,us,L,rfl,rfl,hJ,rfl,hk,hO,hre,hsu,hbd⟩
 have hVn:=hVn.mono hJ;have hX3:=hX3.mono hJ;have hIc:=hIc.trans hJ
 have hB0:=hJ
 obtain ⟨va7,vc7,rfl⟩:=zaS hO
 refine Qk (zR (zM ?_))
 refine zF Yg ?_
 refine zV (Qd rfl QJ (fun hg=>by (repeat (first | exact zAg rfl | apply zAf | apply zAh)))) ?_
 refine zQ Qt ?_
 refine zC (zN ?_)
 refine zI ?_ ?_<;>intro hc20
 ·
  have hlt_k:k<en3:=by have h:=hc20;simp at h;omega
  have hgr:rd[k]? =some (rd.getD k 0):=QX rfl (by omega)
  refine Qo (Qa (Qk (Ql (zR (zM ?_)))))
  refine zM ?_
  refine zF Yg ?_
  refine zV (Qd rfl QJ (fun hg=>by (repeat (first | exact zAg rfl | apply zAf | apply zAh)))) ?_
  refine zM ?_
  refine zV (zX Qt hX3) ?_
  refine zV (Qd rfl Qr (fun hg=>by exact zAe (k:=k) hX3 hgr rfl)) ?_
  refine QA (cap:=[]) (vs:=[_,_,_]) rfl rfl zol .nil (zu0 hVn hn2 k (fun r hr=>by have:=(hrr r hr).1;omega) _) rfl rfl ?_
  rintro vv2 I2 L2 hI2 ⟨rfl,a8,c8,rfl,hH⟩
  have hVn:=hVn.mono hI2;have hX3:=hX3.mono hI2;have hre:=hre.mono hI2;have hB0:=hB0.trans hI2
  refine zQ Qt ?_
  refine zM ?_
  refine zQ Q0 ?_
  refine zC (zN ?_)
  refine zI ?_ ?_<;>intro hc34
  ·
   have hyes:(J9 rows k (rd.getD k 0)).length<rows.length:=by have h:=hc34;simp only [decide_eq_true_eq] at h;omega
   have hD:=zAl I2
   refine JH ?_
   refine Z7 I2 [(b_3,.cells (ZT no ea1 en1 ec1 ea2 en2 ec2 ea3 en3 ec3).toArray 26 (0,0))] mixed ?_
   refine zT 0 rfl (Qh rfl) hD ?_
   refine zT 1 rfl (Qh rfl) hD ?_
   refine zT 2 rfl (Qi rfl Yg) hD ?_
   refine zT 3 rfl (Qd rfl QJ (fun hg=>by exact QY.h0 rfl)) hD ?_
   refine zT 4 rfl (Qh rfl) hD ?_
   refine zT 5 rfl (zX Qt hX3) hD ?_
   refine zT 6 rfl (Qd rfl Qr (fun hg=>by exact zAe (k:=k) hX3 hgr rfl)) hD ?_
   refine zT 7 rfl (Qh rfl) hD ?_
   refine zT 8 rfl (Qh rfl) hD ?_
   refine qd 9 rfl ?_
   refine QA (cap:=[]) (vs:=[_,_]) rfl rfl zuk .nil (zvZ hVn hn2 k (fun r hr=>by have:=(hrr r hr).1;omega)) rfl rfl ?_
   rintro vv3 I3 L3 hI3 ⟨rfl,a9,m9,c9,rfl,hSV⟩
   have hre:=hre.mono hI3;have hB0:=hB0.trans hI3;have hD:=hD.trans hI3
   refine Qc ?_
   refine zD hD ?_
   refine zT 10 rfl (QQ (ps:=[(0,_),(1,_),(2,_)]) [_,_,_] zjQ rfl rfl) hD ?_
   refine qd 11 rfl ?_
   refine Qp (ps:=[(0,_)]) (m:=[zad (⟨(k:Int),(rd.getD k 0),⟨a9,m9,c9⟩⟩:Eh)]) za8 rfl (.cons rfl (.nil)) rfl (by simp [Zh]) (by decide) (by decide) rfl rfl (fun b_46=>?_)
   refine Qc ?_
   refine zD hD ?_
   refine qd 12 rfl ?_
   refine QU (v:=_) (ys:=[(⟨(k:Int),(rd.getD k 0),⟨a9,m9,c9⟩⟩:Eh)].flatMap zad) (L:=L) rfl rfl za8 hO (by repeat (first | exact .cons .here .nil | exact QD | exact Qy | apply QC | apply QB)) ⟨rfl,fun _=>rfl,by repeat (first | exact zAj | apply zAi | apply zAk)⟩ (zoK _) (by omega) rfl rfl ?_
   intro v9 L9 hO9 _;rw [←List.flatMap_append] at hO9
   refine Qc ?_
   refine zD hD ?_
   refine zT 13 rfl (ZM rfl) hD ?_
   refine QK (by kernel_rfl) ?_
   refine QW ?_
   refine Qg (Qa (Qf (zM ?_)))
   refine zB ?_
   refine zA (Qc ?_)
   first
   | exact zm (h:=⟨en3-(k+1),by omega,k+1,_,os++[(⟨(k:Int),(rd.getD k 0),⟨a9,m9,c9⟩⟩:Eh)],us++[(⟨(k:Int),(rd.getD k 0),zhU rows k⟩:En)],L9,rfl,rfl,hB0,rfl,by omega,by rw [List.length_append,List.length_singleton];exact hO9,hre.snoc (v:=(⟨(k:Int),(rd.getD k 0),zhU rows k⟩:En)) ⟨rfl,rfl,hSV⟩,by rw [zfV hyes,hsu],by rw [List.length_append,List.length_singleton];omega⟩)
  have hno:¬(J9 rows k (rd.getD k 0)).length<rows.length:=by have h:=hc34;simp only [decide_eq_false_iff_not] at h;omega
  refine Qo (Qg (Qa (Qf (zM ?_))))
  refine zB ?_
  refine zA (Qc ?_)
  first
  | exact zm (h:=⟨en3-(k+1),by omega,k+1,_,_,_,_,rfl,rfl,hB0,rfl,by omega,hO,hre,by rw [ziA hno];exact hsu,by omega⟩)
 have hge_k:en3≤k:=by have h:=hc20;simp at h;omega
 have hke:k=rd.length:=by omega
 subst hke
 refine QH (Qe (Qe (Qj (Qa (zR (zM ?_))))))
 refine zA ?_
 refine zA (zN (Qs ?_))
 first
 | exact Zr rfl rfl rfl (fun w hw=>by obtain ⟨I9,h91,h92,a,c,e9,h94⟩:=OwnS.freeze' hO Zh (by decide) (hw.subL (by exact Zg));exact ⟨_,I9,[],rfl,hIc.trans h91,h92,rfl,a,_,c,by rw [e9,he0],os,h94,by rw [zb7 he0,←hsu];exact hre.mono h91⟩)
theorem znS {I:Qw}{av:Option Addr}{n c:Nat}{xs:List Vt}(hS:SlV I av n c xs){bv:Option Addr}{n2 c2:Nat}{ys:List Vt}(hT:SlV I bv n2 c2 ys)(hn:n≤100000)(hlb:∀ v∈xs,v.ws.length≤100000):Zu Tryz.prog 35 [.slice av n c,.slice bv n2 c2] I (.bool (eqL vtE xs ys)):=by
 intro g H w hw
 refine qe Tryz.func35 Tryz.ntmps35 hw ?_
 have hl1:=hS.len
 have hl2:=hT.len
 obtain ⟨hs,hSh,hSr⟩:=hS
 obtain ⟨ht,hTh,hTr⟩:=hT
 refine zR (zA (zN (Qk (zR ?_))))
 refine zM ?_
 refine zQ XW ?_
 refine zM ?_
 refine zQ XW ?_
 refine zC (zN ?_)
 refine zI ?_ ?_<;>intro hc10
 ·
  have hne:xs.length≠ys.length:=by have h:=hc10;simp at h;omega
  refine zR (zA (zN (Qs (Qb ?_))))
  exact zr rfl rfl (by rw [zew hne])
 have hnn:n=n2:=by have h:=hc10;simp at h;omega
 refine Qo (Qa (Qk (zR (zA (zN (Ql ?_))))))
 refine zU [(0,_),(1,_)] (fun T L0 mz E I' loc'=>∃ (k:Nat),mz=n-k∧E=(5,.int .i64 k)::T∧I=I'∧L0=loc'∧k≤n∧eqL vtE (xs.take k) (ys.take k)=true) ?_ (h:=⟨0,rfl,rfl,rfl,rfl,Nat.zero_le _,rfl⟩)
 rintro mz E I' loc' ⟨k,rfl,rfl,rfl,rfl,hk,hall⟩
 refine Qk (zR (zM ?_))
 refine zM ?_
 refine zQ XW ?_
 refine zC (zN ?_)
 refine zI ?_ ?_<;>intro hc14
 ·
  have hlt_k:k<n:=by have h:=hc14;simp at h;omega
  obtain ⟨u,hu⟩:∃ u,xs[k]? =some u:=⟨_,List.getElem?_eq_getElem (by omega)⟩
  obtain ⟨v,hv⟩:∃ v,ys[k]? =some v:=⟨_,List.getElem?_eq_getElem (by omega)⟩
  obtain ⟨x,hx,rx⟩:=hSr.at hu
  obtain ⟨y,hy,ry⟩:=hTr.at hv
  have hub:=hlb u (List.mem_of_getElem? hu)
  refine Qo (Qa (Qk (Ql (Qk ?_))))
  refine Yq mixed (by kernel_rfl) ?_
  refine zq (Qh rfl) ?_
  refine zq (Qh rfl) ?_
  refine zq (zX XW hSh) ?_
  refine zq (Qi rfl zg2) ?_
  refine zq (Qd rfl Qr (fun hg=>by exact zAe hSh hx rfl)) ?_
  refine zq (Qh rfl) ?_
  refine zq (Qh rfl) ?_
  refine zq (zX XW hTh) ?_
  refine zq (Qi rfl zg2) ?_
  refine zq (Qd rfl Qr (fun hg=>by exact zAe hTh hy rfl)) ?_
  refine zq (QI rfl rfl rfl) ?_
  refine zq (Qh rfl) ?_
  refine YP 11 rfl rfl rfl ?_
  refine zj (Qh rfl) ?_
  refine zj (Qh rfl) ?_
  refine zj (zX XW hSh) ?_
  refine zj (Qi rfl zfj) ?_
  refine zj (Qd rfl QJ (fun hg=>by exact zAn (j:=1) hSh hx rfl)) ?_
  refine zj (Qh rfl) ?_
  refine zj (Qh rfl) ?_
  refine zj (zX XW hTh) ?_
  refine zj (Qi rfl zfj) ?_
  refine zj (Qd rfl QJ (fun hg=>by exact zAn (j:=1) hTh hy rfl)) ?_
  refine Ws (cap:=[]) (vs:=[_,_]) rfl rfl zlt (fun hg=>zbX rx.2 ry.2 (by rw [←rx.2.len];exact hub)) (.some rfl rfl rfl rfl gbf) rfl rfl ?_
  refine zj (Yw rfl) ?_
  refine Ke rfl rfl rfl rfl rfl ?_
  refine Yp ?_
  refine Qa ?_
  refine zI ?_ ?_<;>intro hc41
  ·
   have hxy:vtE u v=false:=by unfold vtE;rw [←rx.1,←ry.1];exact dm2 hc41
   refine zR (zA (zN (Qs (Qm (Qb (Qb (Qm ?_)))))))
   refine Qb ?_
   exact zr rfl rfl (by rw [zfd hu hv hxy])
  have hxy:vtE u v=true:=by unfold vtE;rw [←rx.1,←ry.1];exact dm2 hc41
  refine Qo (Qg (Qa (Qf (zM ?_))))
  refine zB ?_
  refine zA (Qc ?_)
  exact zm (h:=⟨n-(k+1),by omega,k+1,rfl,rfl,rfl,rfl,by omega,by rw [zcH hu hv,hall,hxy];rfl⟩)
 have hge_k:n≤k:=by have h:=hc14;simp at h;omega
 rw [List.take_of_length_le (by omega),List.take_of_length_le (by omega)] at hall
 refine QH (Qe (Qe (Qj (Qa (zR (zA (zN ?_)))))))
 refine Qs ?_
 exact zr rfl rfl (by rw [hall])
theorem zgS {I:Qw}{av:Option Addr}{n c:Nat}{xs:List En}(hS:zec I av n c xs){bv:Option Addr}{n2 c2:Nat}{ys:List En}(hT:zec I bv n2 c2 ys)(hn:n≤100000)(hlb:∀ v∈xs,v.vs.length≤100000∧∀ u∈v.vs,u.ws.length≤100000):Zu Tryz.prog 13 [.slice av n c,.slice bv n2 c2] I (.bool (eqL enE xs ys)):=by
 intro g H w hw
 refine qe Tryz.func13 Tryz.ntmps13 hw ?_
 have hl1:=hS.len
 have hl2:=hT.len
 obtain ⟨hs,hSh,hSr⟩:=hS
 obtain ⟨ht,hTh,hTr⟩:=hT
 refine zR (zA (zN (Qk (zR ?_))))
 refine zM ?_
 refine zQ We ?_
 refine zM ?_
 refine zQ We ?_
 refine zC (zN ?_)
 refine zI ?_ ?_<;>intro hc10
 ·
  have hne:xs.length≠ys.length:=by have h:=hc10;simp at h;omega
  refine zR (zA (zN (Qs (Qb ?_))))
  exact zr rfl rfl (by rw [zew hne])
 have hnn:n=n2:=by have h:=hc10;simp at h;omega
 refine Qo (Qa (Qk (zR (zA (zN (Ql ?_))))))
 refine zU [(0,_),(1,_)] (fun T L0 mz E I' loc'=>∃ (k:Nat),mz=n-k∧E=(5,.int .i64 k)::T∧I=I'∧L0=loc'∧k≤n∧eqL enE (xs.take k) (ys.take k)=true) ?_ (h:=⟨0,rfl,rfl,rfl,rfl,Nat.zero_le _,rfl⟩)
 rintro mz E I' loc' ⟨k,rfl,rfl,rfl,rfl,hk,hall⟩
 refine Qk (zR (zM ?_))
 refine zM ?_
 refine zQ We ?_
 refine zC (zN ?_)
 refine zI ?_ ?_<;>intro hc14
 ·
  have hlt_k:k<n:=by have h:=hc14;simp at h;omega
  obtain ⟨u,hu⟩:∃ u,xs[k]? =some u:=⟨_,List.getElem?_eq_getElem (by omega)⟩
  obtain ⟨v,hv⟩:∃ v,ys[k]? =some v:=⟨_,List.getElem?_eq_getElem (by omega)⟩
  obtain ⟨x,hx,rx⟩:=hSr.at hu
  obtain ⟨y,hy,ry⟩:=hTr.at hv
  have hub:=hlb u (List.mem_of_getElem? hu)
  refine Qo (Qa (Qk (Ql (Qk ?_))))
  refine Yq mixed (by kernel_rfl) ?_
  refine zq (Qh rfl) ?_
  refine zq (Qh rfl) ?_
  refine zq (zX We hSh) ?_
  refine zq (Qi rfl zf6) ?_
  refine zq (Qd rfl Qr (fun hg=>by exact zAe hSh hx rfl)) ?_
  refine zq (Qh rfl) ?_
  refine zq (Qh rfl) ?_
  refine zq (zX We hTh) ?_
  refine zq (Qi rfl zf6) ?_
  refine zq (Qd rfl Qr (fun hg=>by exact zAe hTh hy rfl)) ?_
  refine zq (QI rfl rfl rfl) ?_
  refine zq (Qh rfl) ?_
  refine YP 11 rfl rfl rfl ?_
  refine zj (Qh rfl) ?_
  refine zj (Qh rfl) ?_
  refine zj (zX We hSh) ?_
  refine zj (Qi rfl zgs) ?_
  refine zj (Qd rfl Qr (fun hg=>by exact zAn (j:=1) hSh hx rfl)) ?_
  refine zj (Qh rfl) ?_
  refine zj (Qh rfl) ?_
  refine zj (zX We hTh) ?_
  refine zj (Qi rfl zgs) ?_
  refine zj (Qd rfl Qr (fun hg=>by exact zAn (j:=1) hTh hy rfl)) ?_
  refine zj (QI rfl rfl rfl) ?_
  refine Ke rfl rfl rfl rfl rfl ?_
  refine zq (Qh rfl) ?_
  refine YP 24 rfl rfl rfl ?_
  refine zj (Qh rfl) ?_
  refine zj (Qh rfl) ?_
  refine zj (zX We hSh) ?_
  refine zj (Qi rfl XJ) ?_
  refine zj (Qd rfl zjs (fun hg=>by exact zAn (j:=2) hSh hx rfl)) ?_
  refine zj (Qh rfl) ?_
  refine zj (Qh rfl) ?_
  refine zj (zX We hTh) ?_
  refine zj (Qi rfl XJ) ?_
  refine zj (Qd rfl zjs (fun hg=>by exact zAn (j:=2) hTh hy rfl)) ?_
  refine Ws (cap:=[]) (vs:=[_,_]) rfl rfl zwh (fun hg=>znS rx.2.2 ry.2.2 (by rw [←rx.2.2.len];exact hub.1) hub.2) (.some rfl rfl rfl rfl gbf) rfl rfl ?_
  refine zj (Yw rfl) ?_
  refine Ke rfl rfl rfl rfl rfl ?_
  refine Yp ?_
  refine Qa ?_
  refine zI ?_ ?_<;>intro hc54
  ·
   have hxy:enE u v=false:=by unfold enE;rw [←rx.1,←ry.1,←rx.2.1,←ry.2.1];exact dm3 hc54
   refine zR (zA (zN (Qs (Qm (Qb (Qb (Qm ?_)))))))
   refine Qb ?_
   exact zr rfl rfl (by rw [zfd hu hv hxy])
  have hxy:enE u v=true:=by unfold enE;rw [←rx.1,←ry.1,←rx.2.1,←ry.2.1];exact dm3 hc54
  refine Qo (Qg (Qa (Qf (zM ?_))))
  refine zB ?_
  refine zA (Qc ?_)
  exact zm (h:=⟨n-(k+1),by omega,k+1,rfl,rfl,rfl,rfl,by omega,by rw [zcH hu hv,hall,hxy];rfl⟩)
 have hge_k:n≤k:=by have h:=hc14;simp at h;omega
 rw [List.take_of_length_le (by omega),List.take_of_length_le (by omega)] at hall
 refine QH (Qe (Qe (Qj (Qa (zR (zA (zN ?_)))))))
 refine Qs ?_
 exact zr rfl rfl (by rw [hall])
theorem zrx {I:Qw}{o1 o2:Og}{a1:Option Addr}{n1 c1:Nat}{a2:Option Addr}{n2 c2:Nat}(h1:Sl I 1 QP a1 n1 c1 o1.ws)(h2:Sl I 1 QP a2 n2 c2 o1.ps){a3:Option Addr}{n3 c3:Nat}{a4:Option Addr}{n4 c4:Nat}(h3:Sl I 1 QP a3 n3 c3 o2.ws)(h4:Sl I 1 QP a4 n4 c4 o2.ps)(hb1:n1≤100000)(hb2:n2≤100000):Zu Tryz.prog 18 [.agg #[.int .i64 o1.k,.int .i64 o1.r,.slice a1 n1 c1,.slice a2 n2 c2],.agg #[.int .i64 o2.k,.int .i64 o2.r,.slice a3 n3 c3,.slice a4 n4 c4]] I (.bool (ogE o1 o2)):=by
 intro g H w hw
 refine qe Tryz.func18 Tryz.ntmps18 hw ?_
 refine zR ?_
 refine Q9 rfl rfl rfl (fun b_2=>?_)
 refine Q9 rfl rfl rfl (fun b_3=>?_)
 refine zA ?_
 refine zN (zR ?_)
 refine zF zcF ?_
 refine zL Qr ?_
 refine zF zcF ?_
 refine zL Qr ?_
 refine zC ?_
 refine zM ?_
 refine QG 5 rfl rfl rfl ?_
 refine zK (Qi rfl zg7) ?_
 refine zK (Qd rfl Qr (fun hg=>by exact QY.h1 rfl)) ?_
 refine zK (Qi rfl zg7) ?_
 refine zK (Qd rfl Qr (fun hg=>by exact QY.h0 rfl)) ?_
 refine zK (QI rfl rfl rfl) ?_
 refine QL rfl rfl rfl rfl rfl ?_
 refine zM ?_
 refine QG 12 rfl rfl rfl ?_
 refine zK (Qi rfl zgj) ?_
 refine zK (Qd rfl QJ (fun hg=>by exact QY.h1 rfl)) ?_
 refine zK (Qi rfl zgj) ?_
 refine zK (Qd rfl QJ (fun hg=>by exact QY.h0 rfl)) ?_
 refine qg (vs:=[_,_]) rfl zlt (fun hg=>zbX h1 h3 hb1) ?_
 refine QL rfl rfl rfl rfl rfl ?_
 refine zM ?_
 refine QG 19 rfl rfl rfl ?_
 refine zK (Qi rfl XG) ?_
 refine zK (Qd rfl QJ (fun hg=>by exact QY.h1 rfl)) ?_
 refine zK (Qi rfl XG) ?_
 refine zK (Qd rfl QJ (fun hg=>by exact QY.h0 rfl)) ?_
 refine qg (vs:=[_,_]) rfl zlt (fun hg=>zbX h2 h4 hb2) ?_
 refine QL rfl rfl rfl rfl rfl ?_
 refine zA (zN (Qs ?_))
 exact zr rfl rfl (by unfold ogE;simp only [Bool.and_assoc])
theorem zrD {I:Qw}{av:Option Addr}{n c:Nat}{xs:List (Int×Int)}(hS:Sl I 2 V9 av n c xs){bv:Option Addr}{n2 c2:Nat}{ys:List (Int×Int)}(hT:Sl I 2 V9 bv n2 c2 ys)(hn:n≤100000):Zu Tryz.prog 19 [.slice av n c,.slice bv n2 c2] I (.bool (decide (xs=ys))):=by
 intro g H w hw
 refine qe Tryz.func19 Tryz.ntmps19 hw ?_
 have hl1:=hS.len
 have hl2:=hT.len
 refine zR (zA (zN (Qk (zR ?_))))
 refine zM ?_
 refine zQ Us ?_
 refine zM ?_
 refine zQ Us ?_
 refine zC (zN ?_)
 refine zI ?_ ?_<;>intro hc10
 ·
  have hne:xs≠ys:=fun e=>by have h:=hc10;subst e;simp at h;omega
  refine zR (zA (zN (Qs (Qb ?_))))
  exact zr rfl rfl (by rw [decide_eq_false hne])
 have hnn:n=n2:=by have h:=hc10;simp at h;omega
 refine Qo (Qa (Qk (zR (zA (zN (Ql ?_))))))
 refine zU [(0,_),(1,_)] (fun T L0 mz E I' loc'=>∃ (k:Nat),mz=n-k∧E=(5,.int .i64 k)::T∧I=I'∧L0=loc'∧k≤n∧xs.take k=ys.take k) ?_ (h:=⟨0,rfl,rfl,rfl,rfl,Nat.zero_le _,rfl⟩)
 rintro mz E I' loc' ⟨k,rfl,rfl,rfl,rfl,hk,hall⟩
 refine Qk (zR (zM ?_))
 refine zM ?_
 refine zQ Us ?_
 refine zC (zN ?_)
 refine zI ?_ ?_<;>intro hc14
 ·
  have hlt_k:k<n:=by have h:=hc14;simp at h;omega
  obtain ⟨x,hx⟩:=hS.at hlt_k
  obtain ⟨y,hy⟩:=hT.at (show k<n2 by omega)
  refine Qo (Qa (Qk (Ql (Qk ?_))))
  refine Yq mixed (by kernel_rfl) ?_
  refine zq (Qh rfl) ?_
  refine zq (Qh rfl) ?_
  refine zq (zX Us hS) ?_
  refine zq (Qq rfl za0 (fun hg=>by exact zAm hS hx) rfl) ?_
  refine zq (Qh rfl) ?_
  refine zq (Qh rfl) ?_
  refine zq (zX Us hT) ?_
  refine zq (Qq rfl za0 (fun hg=>by exact zAm hT hy) rfl) ?_
  refine zq (zrw rfl rfl zgh) ?_
  refine Yp ?_
  refine Qa ?_
  refine zI ?_ ?_<;>intro hc25
  ·
   have hne:xs≠ys:=fun e=>by subst e;rw [hx] at hy;cases hy;simp at hc25
   refine zR (zA (zN (Qs (Qm (Qb (Qb (Qm ?_)))))))
   refine Qb ?_
   exact zr rfl rfl (by rw [decide_eq_false hne])
  have hxy:x=y:=by have h:=hc25;simp at h;exact Prod.ext h.1 h.2
  refine Qo (Qg (Qa (Qf (zM ?_))))
  refine zB ?_
  refine zA (Qc ?_)
  exact zm (h:=⟨n-(k+1),by omega,k+1,rfl,rfl,rfl,rfl,by omega,by rw [List.take_add_one,List.take_add_one,hall,hx,hy,hxy]⟩)
 have hge_k:n≤k:=by have h:=hc14;simp at h;omega
 have heq:xs=ys:=by rw [List.take_of_length_le (by omega),List.take_of_length_le (by omega)] at hall;exact hall
 refine QH (Qe (Qe (Qj (Qa (zR (zA (zN ?_)))))))
 refine Qs ?_
 exact zr rfl rfl (by rw [decide_eq_true heq])
end
end Go.Proofs.YtodakphagkommaaGreatDoor
namespace Go.Proofs.YtodakphagkommaaGreatDoor.R
section
open Go Go.Kn Go.Proofs
theorem Vm:AgT Tryz.prog 159 4:=.of (by kernel_rfl)
theorem zty:AgT Tryz.prog 254 9:=.of (by kernel_rfl)
theorem YL:AgT Tryz.prog 57 19:=.of (by kernel_rfl)
theorem UJ:ArT Tryz.prog 254 9 253 1:=.of (by kernel_rfl)
theorem zh7:CvT Tryz.prog 186 3 .i64:=⟨by kernel_rfl,by kernel_rfl⟩
theorem WC:ElT Tryz.prog 36 57 19 168:=.of (by kernel_rfl)
theorem zc3:Q3 Tryz.prog 159 0 0:=.of (by kernel_rfl)
theorem zaw:Q3 Tryz.prog 159 1 1:=.of (by kernel_rfl)
theorem WD:Q3 Tryz.prog 159 2 2:=.of (by kernel_rfl)
theorem UW:Q3 Tryz.prog 159 3 3:=.of (by kernel_rfl)
theorem ZF:Q3 Tryz.prog 57 0 0:=.of (by kernel_rfl)
theorem Ue:Q3 Tryz.prog 57 1 1:=.of (by kernel_rfl)
theorem Yf:Q3 Tryz.prog 57 2 2:=.of (by kernel_rfl)
theorem JT:Q3 Tryz.prog 57 3 3:=.of (by kernel_rfl)
theorem Jt:Q3 Tryz.prog 57 4 4:=.of (by kernel_rfl)
theorem K9:Q3 Tryz.prog 57 5 18:=.of (by kernel_rfl)
theorem zkm:Fun Tryz.prog 116:=.of Tryz.func116 (by kernel_rfl) (by kernel_rfl)
theorem zra:Fun Tryz.prog 138:=.of Tryz.func138 (by kernel_rfl) (by kernel_rfl)
theorem zsv:Fun Tryz.prog 139:=.of Tryz.func139 (by kernel_rfl) (by kernel_rfl)
theorem zr2:Fun Tryz.prog 140:=.of Tryz.func140 (by kernel_rfl) (by kernel_rfl)
theorem zrd:Fun Tryz.prog 141:=.of Tryz.func141 (by kernel_rfl) (by kernel_rfl)
theorem zqQ:Fun Tryz.prog 143:=.of Tryz.func143 (by kernel_rfl) (by kernel_rfl)
theorem zrf:Fun Tryz.prog 144:=.of Tryz.func144 (by kernel_rfl) (by kernel_rfl)
theorem zsh:Fun Tryz.prog 145:=.of Tryz.func145 (by kernel_rfl) (by kernel_rfl)
theorem zjo:Fun Tryz.prog 146:=.of Tryz.func146 (by kernel_rfl) (by kernel_rfl)
theorem ziH:Fun Tryz.prog 147:=.of Tryz.func147 (by kernel_rfl) (by kernel_rfl)
theorem zru:Fun Tryz.prog 149:=.of Tryz.func149 (by kernel_rfl) (by kernel_rfl)
theorem zq8:Fun Tryz.prog 161:=.of Tryz.func161 (by kernel_rfl) (by kernel_rfl)
theorem zet:Fun Tryz.prog 169:=.of Tryz.func169 (by kernel_rfl) (by kernel_rfl)
theorem zky:Fun Tryz.prog 190:=.of Tryz.func190 (by kernel_rfl) (by kernel_rfl)
theorem zqE:Fun Tryz.prog 193:=.of Tryz.func193 (by kernel_rfl) (by kernel_rfl)
theorem zrl:Fun Tryz.prog 194:=.of Tryz.func194 (by kernel_rfl) (by kernel_rfl)
theorem zsM:Fun Tryz.prog 195:=.of Tryz.func195 (by kernel_rfl) (by kernel_rfl)
theorem zd2:Fun Tryz.prog 196:=.of Tryz.func196 (by kernel_rfl) (by kernel_rfl)
theorem zqp:Fun Tryz.prog 232:=.of Tryz.func232 (by kernel_rfl) (by kernel_rfl)
theorem zwG:Fun Tryz.prog 48:=.of Tryz.func48 (by kernel_rfl) (by kernel_rfl)
theorem zvw:Fun Tryz.prog 49:=.of Tryz.func49 (by kernel_rfl) (by kernel_rfl)
theorem zvY:Fun Tryz.prog 50:=.of Tryz.func50 (by kernel_rfl) (by kernel_rfl)
theorem zuZ:Fun Tryz.prog 83:=.of Tryz.func83 (by kernel_rfl) (by kernel_rfl)
theorem zvl:Fun Tryz.prog 84:=.of Tryz.func84 (by kernel_rfl) (by kernel_rfl)
theorem zvA:Fun Tryz.prog 86:=.of Tryz.func86 (by kernel_rfl) (by kernel_rfl)
theorem zxq:Fun Tryz.prog 88:=.of Tryz.func88 (by kernel_rfl) (by kernel_rfl)
theorem zh6:Fun Tryz.prog 89:=.of Tryz.func89 (by kernel_rfl) (by kernel_rfl)
theorem zvI:Fun Tryz.prog 90:=.of Tryz.func90 (by kernel_rfl) (by kernel_rfl)
theorem KY:MpT Tryz.prog 156 3 167 (.map none):=⟨by kernel_rfl,.of (by kernel_rfl)⟩
theorem ze6:MpT Tryz.prog 157 79 36 (.slice none 0 0):=⟨by kernel_rfl,.of (by kernel_rfl)⟩
theorem VO:MpT Tryz.prog 167 3 4 (.bool false):=⟨by kernel_rfl,.of (by kernel_rfl)⟩
theorem Vg:MpT Tryz.prog 91 3 23 (.slice none 0 0):=⟨by kernel_rfl,.of (by kernel_rfl)⟩
theorem zqq:PlT Tryz.prog 159 #[(0,1),(1,1),(2,1),(3,1)] (.agg #[(.map none),(.map none),(.map none),(.slice none 0 0)]):=⟨.of (by kernel_rfl),by kernel_rfl,fun w=>by kernel_rfl⟩
theorem zgQ:PlT Tryz.prog 52 #[(0,1),(1,1)] (.agg #[(.int .i64 0),(.int .i64 0)]):=⟨.of (by kernel_rfl),by kernel_rfl,fun w=>by kernel_rfl⟩
theorem zk9:ScT Tryz.prog 156:=.of (by kernel_rfl)
theorem zeu:ScT Tryz.prog 157:=.of (by kernel_rfl)
theorem zkK:ScT Tryz.prog 167:=.of (by kernel_rfl)
theorem WT:ScT Tryz.prog 253:=.of (by kernel_rfl)
theorem zdC:ScT Tryz.prog 48:=.of (by kernel_rfl)
theorem zfK:ScT Tryz.prog 91:=.of (by kernel_rfl)
theorem ZJ:SlT Tryz.prog 36 57 19:=.of (by kernel_rfl)
theorem UO:SzT Tryz.prog 159 4:=.of (by kernel_rfl)
theorem zrs:SzT Tryz.prog 167 1:=.of (by kernel_rfl)
theorem zqI:SzT Tryz.prog 254 9:=.of (by kernel_rfl)
theorem zoY:SzT Tryz.prog 48 1:=.of (by kernel_rfl)
theorem JD:SzT Tryz.prog 57 19:=.of (by kernel_rfl)
theorem zsJ:Tryz.prog.underlying 167=some (.map 3 4):=by kernel_rfl
theorem zyg:Tryz.prog.underlying 4=some .bool:=by kernel_rfl
theorem zpX:Yz Tryz.prog 159 (.agg #[(.map none),(.map none),(.map none),(.slice none 0 0)]):=.of (by kernel_rfl)
theorem zw3:Yz Tryz.prog 167 (.map none):=.of (by kernel_rfl)
theorem zpl:Yz Tryz.prog 254 (.agg #[(.pointer none),(.pointer none),(.pointer none),(.pointer none),(.pointer none),(.pointer none),(.pointer none),(.pointer none),(.pointer none)]):=.of (by kernel_rfl)
theorem UD:Yz Tryz.prog 57 (.agg #[(.int .i64 0),(.int .i64 0),(.int .i64 0),(.int .i64 0),(.int .i64 0),(.int .i64 0),(.int .i64 0),(.int .i64 0),(.int .i64 0),(.int .i64 0),(.int .i64 0),(.int .i64 0),(.int .i64 0),(.int .i64 0),(.int .i64 0),(.int .i64 0),(.int .i64 0),(.int .i64 0),(.slice none 0 0)]):=.of (by kernel_rfl)
end
section
open Go Go.Kn Go.Proofs
theorem zzF (xs:List Int):(xs.flatMap QP).length=xs.length:=by rw [ZD Qu,Nat.mul_one]
theorem zjC {α:Type}{xs:List α}{k:Nat}{x:α}{p:α→Bool}(hx:xs[k]? =some x)(h:(xs.take k).all p=true)(hp:p x=true):(xs.take (k+1)).all p=true:=by
 rw [List.take_add_one,hx,List.all_append,h];simpa using hp
theorem zk1 {α:Type}{xs:List α}{k:Nat}{x:α}{p:α→Bool}(hx:xs[k]? =some x)(hp:p x=false):xs.all p=false:=List.all_eq_false.2 ⟨x,List.mem_of_getElem? hx,by rw [hp];decide⟩
theorem zhM {α:Type}{xs:List α}{k:Nat}{x:α}{p:α→Bool}(h:(xs.take k).any p=false)(hx:xs[k]? =some x)(hp:p x=true):xs.findIdx p=k:=by
 have hk:=(List.getElem?_eq_some_iff.1 hx).1
 rw [List.findIdx_eq hk]
 refine ⟨by rw [(List.getElem?_eq_some_iff.1 hx).2];exact hp,fun j hj=>?_⟩
 have:=List.any_eq_false.1 h xs[j] (by rw [List.mem_take_iff_getElem];exact ⟨j,by omega,rfl⟩)
 simpa using this
theorem JJ {α:Type}{xs:List α}{k:Nat}{x:α}{p:α→Bool}(h:(xs.take k).any p=false)(hx:xs[k]? =some x)(hp:p x=true):Ur p xs=k:=by
 unfold Ur
 rw [YM hx hp,if_pos rfl,zhM h hx hp]
theorem zqz {α:Type}{xs:List α}{p:α→Bool}(h:xs.any p=true):∃ i x,Ur p xs=(i:Nat)∧xs[i]? =some x∧p x=true∧i<xs.length:=by
 obtain ⟨x,hx,hp⟩:=List.any_eq_true.1 h
 have hl:=List.findIdx_lt_length_of_exists ⟨x,hx,hp⟩
 exact ⟨xs.findIdx p,xs[xs.findIdx p],by unfold Ur;rw [h];rfl,List.getElem?_eq_getElem hl,List.findIdx_getElem,hl⟩
theorem zwq {α:Type}{p:α→Bool}:∀ {xs:List α} {k:Nat},(xs.take k).all p=true→k≤xs.length→(∀ y,xs[k]? =some y→p y=false)→xs.takeWhile p=xs.take k∧xs.dropWhile p=xs.drop k
 | [],k,_,hk,_=>by simp
 | x::xs,0,_,_,h=>by
  have:=h x rfl
  simp [this]
 | x::xs,k+1,h,hk,h2=>by
  rw [List.take_succ_cons,List.all_cons,Bool.and_eq_true] at h
  obtain ⟨h3,h4⟩:=zwq h.2 (by simpa using hk) (fun y hy=>h2 y (by simpa using hy))
  rw [List.takeWhile_cons,List.dropWhile_cons,if_pos h.1,if_pos h.1,h3,h4]
  exact ⟨rfl,rfl⟩
theorem WR:∀ {xs ys:List Int},xs.Pairwise (· < ·)→ys.Pairwise (· < ·)→(∀ a,a∈xs↔a∈ys)→xs=ys
 | [],[],_,_,_=>rfl
 | [],y::ys,_,_,h=>by have:=(h y).2 (List.mem_cons_self ..);cases this
 | x::xs,[],_,_,h=>by have:=(h x).1 (List.mem_cons_self ..);cases this
 | x::xs,y::ys,hx,hy,h=>by
  rw [List.pairwise_cons] at hx hy
  have e:x=y:=by
   rcases List.mem_cons.1 ((h x).1 (List.mem_cons_self ..)) with e | e
   ·
    exact e
   ·
    rcases List.mem_cons.1 ((h y).2 (List.mem_cons_self ..)) with e2 | e2
    ·
     exact e2.symm
    ·
     have h1:=hx.1 _ e2;have h2:=hy.1 _ e;omega
  subst e
  refine congrArg _ (WR hx.2 hy.2 fun a=>?_)
  constructor
  ·
   intro ha
   rcases List.mem_cons.1 ((h a).1 (List.mem_cons_of_mem _ ha)) with e | e
   ·
    subst e;have:=hx.1 _ ha;omega
   ·
    exact e
  ·
   intro ha
   rcases List.mem_cons.1 ((h a).2 (List.mem_cons_of_mem _ ha)) with e | e
   ·
    subst e;have:=hy.1 _ ha;omega
   ·
    exact e
theorem Xe:∀ {ys xs:List Int},xs.Pairwise (· < ·)→ys.Pairwise (· < ·)→(∀ a∈xs,a∈ys)→xs.length≤ys.length∧(ys.length≤xs.length→xs=ys)
 | [],[],_,_,_=>⟨Nat.le_refl _,fun _=>rfl⟩
 | [],x::xs,_,_,h=>by have:=h x (List.mem_cons_self ..);cases this
 | y::ys,[],_,_,_=>⟨Nat.zero_le _,fun h=>by simp at h⟩
 | y::ys,x::xs,hx,hy,h=>by
  have hx':=List.pairwise_cons.1 hx
  have hy':=List.pairwise_cons.1 hy
  by_cases e:x=y
  ·
   subst e
   have:=Xe hx'.2 hy'.2 fun a ha=>(List.mem_cons.1 (h a (List.mem_cons_of_mem _ ha))).elim (fun e=>by subst e;have:=hx'.1 _ ha;omega) id
   exact ⟨by simpa using this.1,fun hl=>by rw [this.2 (by simpa using hl)]⟩
  ·
   have hxy:y<x:=by
    rcases List.mem_cons.1 (h x (List.mem_cons_self ..)) with e2 | e2
    ·
     exact absurd e2 e
    ·
     exact hy'.1 _ e2
   have:=(Xe hx hy'.2 fun a ha=>(List.mem_cons.1 (h a ha)).elim (fun e2=>by
    subst e2
    rcases List.mem_cons.1 ha with e3 | e3
    ·
     omega
    ·
     have:=hx'.1 _ e3;omega) id).1
   simp only [List.length_cons] at this ⊢
   exact ⟨by omega,fun hl=>by omega⟩
end
section
open Go Go.Kn Go.Proofs
def Vw:Sg:=⟨0,0,0,0,0,0,0,0,0,0,0,0,0,0⟩
instance : DecidableEq Sg := fun a b => decidable_of_iff (zaT a b = true) zcn
structure Pt where
 id:Int
 kind:Int
 sign:Int
 field:Int
 nw:Sg
 a:Option Addr
 n:Nat
 c:Nat
 needs:List Int
def YK (p:Pt):List Value:=[.int .i64 p.id,.int .i64 p.kind,.int .i64 p.sign,.int .i64 p.field,.int .i64 p.nw.id,.int .i64 p.nw.role,.int .i64 p.nw.bar,.int .i64 p.nw.mark,.int .i64 p.nw.kind,.int .i64 p.nw.side,.int .i64 p.nw.dir,.int .i64 p.nw.level,.int .i64 p.nw.size,.int .i64 p.nw.wth,.int .i64 p.nw.fn,.int .i64 p.nw.fd,.int .i64 p.nw.tn,.int .i64 p.nw.td,.slice p.a p.n p.c]
def WW (p:Pt):Value:=.agg (YK p).toArray
theorem Q8 (x:Pt):(YK x).length=19:=rfl
theorem zme (xs:List Pt):YD (xs.flatMap YK)=true:=Yv (fun _=>rfl) xs
def Xx:Pt:=⟨0,0,0,0,Vw,none,0,0,[]⟩
def Nd (I:Qw)(p:Pt):Prop:=Sl I 1 QP p.a p.n p.c p.needs
theorem Nd.mono {I I':Qw}{p:Pt}(h:Nd I p)(hI:HLe I I'):Nd I' p:=Sl.mono h hI
def SlP (I:Qw)(av:Option Addr)(n c:Nat)(ps:List Pt):Prop:=Sl I 19 YK av n c ps∧∀ p∈ps,Nd I p
theorem SlP.mono {I I':Qw}{av:Option Addr}{n c:Nat}{ps:List Pt}(h:SlP I av n c ps)(hI:HLe I I'):SlP I' av n c ps:=⟨h.1.mono hI,fun p hp=>(h.2 p hp).mono hI⟩
theorem SlP.len {I:Qw}{av:Option Addr}{n c:Nat}{ps:List Pt}(h:SlP I av n c ps):ps.length=n:=h.1.len
theorem SlP.at {I:Qw}{av:Option Addr}{n c:Nat}{ps:List Pt}(h:SlP I av n c ps){k:Nat}(hk:k<n):∃ p,ps[k]? =some p∧Nd I p:=by
 obtain ⟨p,hp⟩:=h.1.at hk
 exact ⟨p,hp,h.2 p (List.mem_of_getElem? hp)⟩
def skP (xs:List Sg)(i:Nat):Bool:= !(!frm (xs.getD i Vw)||(decide ((i:Int)>0)&&decide ((xs.getD ((i:Int)-1).toNat Vw).id≥(xs.getD i Vw).id)))
def skB (xs:List Sg):Bool:=(List.range xs.length).all (skP xs)
def WM (xs:List Sg):Int:=if xs.length>4096 then 2 else if skB xs then 0 else 360
/-! ### Patches -/
def zaV (x:Sg)(f:Int)(y:Sg):Sg:=
 if f=1 then {x with role:=y.role} else if f=2 then {x with bar:=y.bar} else if f=3 then {x with mark:=y.mark} else if f=4 then {x with side:=y.side} else if f=5 then {x with dir:=y.dir}
 else if f=6 then {x with level:=y.level} else if f=7 then {x with size:=y.size} else if f=8 then {x with wth:=y.wth} else if f=9 then {x with fn:=y.fn,fd:=y.fd,tn:=y.tn,td:=y.td} else x
def zgm:Sg:=⟨0,0,0,3,9,0,0,0,0,0,0,1,1,2⟩
def ndP (id:Int)(v:List Int)(i:Nat):Bool:= !((decide (v.getD i 0<1)||decide (v.getD i 0≥id))||(decide ((i:Int)>0)&&decide (v.getD i 0≤v.getD ((i:Int)-1).toNat 0)))
def ndB (id:Int)(v:List Int):Bool:=(List.range v.length).all (ndP id v)
def idB (p:Pt):Bool:=(decide (p.id≥1)&&decide (p.id≤1048576))&&(decide (p.sign≥0)&&decide (p.sign≤1048576))
def UQ (p:Pt):Bool:=
 if p.kind=1 then ZO p.field 1 9&&(zaT (zaV p.nw p.field Vw) Vw&&frm (zaV zgm p.field p.nw))
 else if p.kind=2 then p.field==0&&(p.nw.id==p.sign&&frm p.nw)
 else if p.kind=3 then p.field==0&&zaT p.nw Vw else false
def Km (p:Pt):Int:=if p.needs.length>32 then 2 else if ndB p.id p.needs&&(idB p&&UQ p) then 0 else 370
end
section
open Go Go.Kn Go.Proofs
def orF:List Int→Int
 | []=>0
 | x::xs=>if x≠0 then x else orF xs
theorem Ku:∀ {xs:List Int},orF xs=0↔ ∀ x∈xs,x=0
 | []=>by simp [orF]
 | x::xs=>by
  unfold orF
  by_cases h:x=0
  ·
   rw [if_neg (by simpa using h),Ku];simp [h]
  ·
   rw [if_pos h];simp [h]
theorem zob {xs:List Int}{k:Nat}{x:Int}(hx:xs[k]? =some x)(h:orF (xs.take k)=0)(hne:x≠0):orF xs=x:=by
 induction xs generalizing k with
 | nil=>simp at hx
 | cons y ys ih=>
  cases k with
  | zero=>
   simp at hx;subst hx
   unfold orF;rw [if_pos hne]
  | succ k=>
   rw [List.take_succ_cons] at h
   unfold orF at h ⊢
   by_cases hy:y=0
   ·
    rw [if_neg (by simpa using hy)] at h ⊢
    exact ih (by simpa using hx) h
   ·
    rw [if_pos hy] at h;exact absurd h hy
def onS (f:Int→Int→Bool)(p:Pt):Int→Int→Bool:=fun a b=>if a=p.id then p.needs.any (fun n=>n==b||f n b) else f a b
def onF (ps:List Pt):Int→Int→Bool:=ps.foldl onS (fun _ _=>false)
def zaR (ps:List Pt)(n:Int):Bool:=ps.any (fun q=>q.id==n)
def lsP (ps:List Pt)(i:Nat):Bool:= !((decide ((i:Int)>0)&&decide ((ps.getD i Xx).id≤(ps.getD ((i:Int)-1).toNat Xx).id))||(ps.getD i Xx).needs.any (fun n=> !zaR ps n))
def lsB (ps:List Pt):Bool:=(List.range ps.length).all (lsP ps)
def zpE (p q:Pt)(on:Bool):Bool:=if p.sign≠q.sign then true else if q.kind=2 then p.kind != 2&&on else if q.kind=3 then !on else true
def zjh (ps:List Pt):Bool:=ps.all fun p=>ps.all fun q=>p.id==q.id||zpE p q (onF ps p.id q.id)
def Uc (ps:List Pt):Int:=if ps.length>512 then 2 else if orF (ps.map Km)≠0 then orF (ps.map Km) else if lsB ps&&zjh ps then 0 else 380
structure Lst (ps:List Pt):Prop where
 pos:∀ p∈ps,1≤p.id
 inc:ps.Pairwise (fun p q=>p.id<q.id)
 has:∀ p∈ps,∀ n∈p.needs,n<p.id∧∃ q∈ps,q.id=n
theorem Jf {ps:List Pt}{n:Int}:zaR ps n=true↔ ∃ q∈ps,q.id=n:=by
 unfold zaR
 rw [List.any_eq_true]
 simp
theorem Lst.uniq {ps:List Pt}(h:Lst ps){p q:Pt}(hp:p∈ps)(hq:q∈ps)(e:p.id=q.id):p=q:=by
 obtain ⟨i,hi⟩:=List.getElem?_of_mem hp
 obtain ⟨j,hj⟩:=List.getElem?_of_mem hq
 obtain ⟨hi1,hi2⟩:=List.getElem?_eq_some_iff.1 hi
 obtain ⟨hj1,hj2⟩:=List.getElem?_eq_some_iff.1 hj
 by_cases hij:i=j
 ·
  subst hij;rw [hi] at hj;exact Option.some.inj hj
 ·
  rcases Nat.lt_or_gt_of_ne hij with hlt | hlt
  ·
   have:=List.pairwise_iff_getElem.1 h.inc i j hi1 hj1 hlt;rw [hi2,hj2] at this;omega
  ·
   have:=List.pairwise_iff_getElem.1 h.inc j i hj1 hi1 hlt;rw [hi2,hj2] at this;omega
theorem zka {f:Int→Int→Bool}{p:Pt}{a b:Int}(h:a≠p.id):onS f p a b=f a b:=by unfold onS;rw [if_neg h]
theorem Uj:∀ (ps:List Pt) {f:Int→Int→Bool} {a b:Int},(∀ p∈ps,p.id≠a)→ps.foldl onS f a b=f a b
 | [],_,_,_,_=>rfl
 | p::ps,f,a,b,h=>by
  rw [List.foldl_cons,Uj ps (fun q hq=>h q (List.mem_cons_of_mem _ hq)),zka (fun e=>h p (List.mem_cons_self ..) e.symm)]
theorem znr {ps:List Pt}{a b:Int}(h:∀ p∈ps,p.id≠a):onF ps a b=false:=Uj ps h
theorem zdG {ps qs:List Pt}{p:Pt}{b:Int}(h:∀ q∈qs,q.id≠p.id):onF (ps++p::qs) p.id b=p.needs.any (fun n=>n==b||onF ps n b):=by
 unfold onF
 rw [List.foldl_append,List.foldl_cons,Uj qs h]
 unfold onS;rw [if_pos rfl]
theorem zgI {ps qs:List Pt}{a b:Int}(h:∀ q∈qs,q.id≠a):onF (ps++qs) a b=onF ps a b:=by
 unfold onF
 rw [List.foldl_append,Uj qs h]
theorem Lst.tail_ne {ps qs:List Pt}{p:Pt}(h:Lst (ps++p::qs)):(∀ q∈qs,p.id<q.id)∧(∀ q∈ps,q.id<p.id):=by
 have h1:=h.inc
 rw [List.pairwise_append] at h1
 exact ⟨(List.pairwise_cons.1 h1.2.1).1,fun q hq=>h1.2.2 q hq p (List.mem_cons_self ..)⟩
theorem zfr {α:Type}{xs:List α}{f g:α→Bool}(h:∀ x∈xs,f x=g x):xs.any f=xs.any g:=by
 induction xs with
 | nil=>rfl
 | cons x xs ih=>rw [List.any_cons,List.any_cons,h x (List.mem_cons_self ..),ih fun y hy=>h y (List.mem_cons_of_mem _ hy)]
theorem Lst.on {ps:List Pt}(h:Lst ps){p:Pt}(hp:p∈ps)(b:Int):onF ps p.id b=p.needs.any (fun n=>n==b||onF ps n b):=by
 obtain ⟨l,r,rfl⟩:=List.append_of_mem hp
 obtain ⟨h1,h2⟩:=h.tail_ne
 rw [zdG (fun q hq e=>by have:=h1 q hq;omega)]
 refine zfr fun n hn=>?_
 have hlt:=(h.has p hp n hn).1
 rw [zgI (ps:=l) (qs:=p::r)]
 intro q hq e
 rcases List.mem_cons.1 hq with rfl | hq
 ·
  omega
 ·
  have:=h1 q hq;omega
theorem Lst.on_iff {ps:List Pt}(h:Lst ps){p:Pt}(hp:p∈ps){b:Int}:onF ps p.id b=true↔ ∃ n∈p.needs,n=b∨onF ps n b=true:=by
 rw [h.on hp,List.any_eq_true]
 simp
theorem zeZ {ps:List Pt}{a b:Int}(h:onF ps a b=true):∃ p∈ps,p.id=a:=by
 by_cases hx:∃ p∈ps,p.id=a
 ·
  exact hx
 ·
  rw [znr (fun p hp e=>hx ⟨p,hp,e⟩)] at h;cases h
theorem Lst.ind {ps:List Pt}(h:Lst ps){M:Pt→Prop}(hs:∀ p∈ps,(∀ q∈ps,q.id<p.id→M q)→M p):∀ p∈ps,M p:=by
 have key:∀ (m:Nat) (q:Pt),q∈ps→q.id.toNat≤m→M q:=by
  intro m
  induction m with
  | zero=>
   intro q hq hm
   have:=h.pos q hq;omega
  | succ m ih=>
   intro q hq hm
   exact hs q hq fun r hr hlt=>ih r hr (by have:=h.pos r hr;omega)
 exact fun p hp=>key _ p hp (Nat.le_refl _)
theorem Lst.on_lt {ps:List Pt}(h:Lst ps){a b:Int}(hon:onF ps a b=true):b<a∧∃ q∈ps,q.id=b:=by
 obtain ⟨p,hp,rfl⟩:=zeZ hon
 revert hon
 refine h.ind (M:=fun p=>onF ps p.id b=true→b<p.id∧∃ q∈ps,q.id=b) (fun p hp ih hon=>?_) p hp
 obtain ⟨n,hn,e⟩:=(h.on_iff hp).1 hon
 obtain ⟨h1,q,hq,rfl⟩:=h.has p hp n hn
 rcases e with rfl | e
 ·
  exact ⟨h1,q,hq,rfl⟩
 ·
  have:=ih q hq h1 e
  exact ⟨by omega,this.2⟩
theorem Lst.on_irr {ps:List Pt}(h:Lst ps){a:Int}:onF ps a a=false:=by
 cases hon:onF ps a a with
 | false=>rfl
 | true=>have:=(h.on_lt hon).1;omega
theorem Lst.on_trans {ps:List Pt}(h:Lst ps){a b c:Int}(h1:onF ps a b=true)(h2:onF ps b c=true):onF ps a c=true:=by
 obtain ⟨p,hp,rfl⟩:=zeZ h1
 revert h1
 refine h.ind (M:=fun p=>onF ps p.id b=true→onF ps p.id c=true) (fun p hp ih hon=>?_) p hp
 obtain ⟨n,hn,e⟩:=(h.on_iff hp).1 hon
 obtain ⟨hlt,q,hq,rfl⟩:=h.has p hp n hn
 rcases e with rfl | e
 ·
  exact (h.on_iff hp).2 ⟨_,hn,.inr h2⟩
 ·
  exact (h.on_iff hp).2 ⟨_,hn,.inr (ih q hq hlt e)⟩
theorem Lst.on_need {ps:List Pt}(h:Lst ps){p:Pt}(hp:p∈ps){n:Int}(hn:n∈p.needs):onF ps p.id n=true:=(h.on_iff hp).2 ⟨n,hn,.inl rfl⟩
theorem Lst.part {ps:List Pt}(h:Lst ps){f:Pt→Bool}(hc:∀ p∈ps,f p=true→∀ q∈ps,q.id∈p.needs→f q=true):Lst (ps.filter f):=
 ⟨fun p hp=>h.pos p (List.mem_filter.1 hp).1,h.inc.filter f,fun p hp n hn=>by
  obtain ⟨hp1,hp2⟩:=List.mem_filter.1 hp
  obtain ⟨h1,q,hq,rfl⟩:=h.has p hp1 n hn
  exact ⟨h1,q,List.mem_filter.2 ⟨hq,hc p hp1 hp2 q hq hn⟩,rfl⟩⟩
theorem Lst.on_part {ps:List Pt}(h:Lst ps){f:Pt→Bool}(hc:∀ p∈ps,f p=true→∀ q∈ps,q.id∈p.needs→f q=true){b:Int}{p:Pt}(hp:p∈ps)(hf:f p=true):onF (ps.filter f) p.id b=onF ps p.id b:=by
 have hL:=h.part hc
 revert hf
 refine h.ind (M:=fun p=>f p=true→onF (ps.filter f) p.id b=onF ps p.id b) (fun p hp ih hf=>?_) p hp
 rw [hL.on (List.mem_filter.2 ⟨hp,hf⟩),h.on hp]
 refine zfr fun n hn=>?_
 obtain ⟨h1,q,hq,rfl⟩:=h.has p hp n hn
 rw [ih q hq h1 (hc p hp hf q hq hn)]
/-! ### Closures -/
def ztw (v:List Int):Bool:=(List.range v.length).all fun i=> !(decide ((i:Int)>0)&&decide (v.getD i 0≤v.getD ((i:Int)-1).toNat 0))
theorem zoj {v:List Int}:ztw v=true↔v.Pairwise (· < ·):=by
 unfold ztw
 constructor
 ·
  intro h
  refine K1 (R:=fun a b:Int=>a<b) (fun a b c h1 h2=>Int.lt_trans h1 h2) fun k hk=>?_
  rw [List.all_eq_true] at h
  have h1:=h (k+1) (List.mem_range.2 hk)
  rw [show (((k+1:Nat):Int)-1).toNat=k by omega,QN (List.getElem?_eq_getElem hk),QN (List.getElem?_eq_getElem (show k<v.length by omega))] at h1
  simp at h1;omega
 ·
  intro h
  rw [List.all_eq_true]
  intro k hk
  rw [List.mem_range] at hk
  cases k with
  | zero=>rfl
  | succ k=>
   rw [show (((k+1:Nat):Int)-1).toNat=k by omega,QN (List.getElem?_eq_getElem hk),QN (List.getElem?_eq_getElem (show k<v.length by omega))]
   have:=List.pairwise_iff_getElem.1 h k (k+1) (by omega) hk (by omega)
   simp;omega
def chB (ps:List Pt)(ids:List Int):Bool:=ztw ids&&ids.all (zaR ps)
def zeV (ps:List Pt)(ids:List Int):List Int:=(ps.filter fun p=>ids.any fun n=>n==p.id||onF ps n p.id).map (·.id)
def zlK (ps:List Pt)(v:List Int):Bool:=chB ps v&&zta (zeV ps v) v
end
section
open Go Go.Kn Go.Proofs
theorem zhE {ps:List Pt}(h:Lst ps)(f:Pt→Bool):((ps.filter f).map (·.id)).Pairwise (· < ·):=by
 rw [List.pairwise_map]
 exact h.inc.filter f
theorem zea {ps:List Pt}{f:Pt→Bool}{x:Int}:x∈(ps.filter f).map (·.id)↔ ∃ p∈ps,f p=true∧p.id=x:=by
 rw [List.mem_map]
 constructor
 ·
  rintro ⟨p,hp,e⟩
  exact ⟨p,(List.mem_filter.1 hp).1,(List.mem_filter.1 hp).2,e⟩
 ·
  rintro ⟨p,hp,hf,e⟩
  exact ⟨p,List.mem_filter.2 ⟨hp,hf⟩,e⟩
structure Ver (ps:List Pt)(v:List Int):Prop where
 inc:v.Pairwise (· < ·)
 sub:∀ x∈v,∃ p∈ps,p.id=x
 need:∀ p∈ps,p.id∈v→∀ n∈p.needs,n∈v
theorem Ver.on {ps:List Pt}{v:List Int}(h:Lst ps)(hv:Ver ps v){a b:Int}(ha:a∈v)(hon:onF ps a b=true):b∈v:=by
 obtain ⟨p,hp,rfl⟩:=zeZ hon
 revert hon ha
 refine h.ind (M:=fun p=>p.id∈v→onF ps p.id b=true→b∈v) (fun p hp ih ha hon=>?_) p hp
 obtain ⟨n,hn,e⟩:=(h.on_iff hp).1 hon
 have hnv:=hv.need p hp ha n hn
 rcases e with rfl | e
 ·
  exact hnv
 ·
  obtain ⟨hlt,q,hq,rfl⟩:=h.has p hp n hn
  exact ih q hq hlt hnv e
theorem WY {ps:List Pt}{ids:List Int}{x:Int}:x∈zeV ps ids↔(∃ p∈ps,p.id=x)∧∃ n∈ids,n=x∨onF ps n x=true:=by
 unfold zeV
 rw [zea]
 constructor
 ·
  rintro ⟨p,hp,hf,rfl⟩
  rw [List.any_eq_true] at hf
  obtain ⟨n,hn,e⟩:=hf
  exact ⟨⟨p,hp,rfl⟩,n,hn,by simpa using e⟩
 ·
  rintro ⟨⟨p,hp,rfl⟩,n,hn,e⟩
  exact ⟨p,hp,List.any_eq_true.2 ⟨n,hn,by simpa using e⟩,rfl⟩
theorem K8 {ps:List Pt}(h:Lst ps)(ids:List Int):(zeV ps ids).Pairwise (· < ·):=zhE h _
theorem zeb {ps:List Pt}{ids:List Int}:chB ps ids=true↔ids.Pairwise (· < ·)∧∀ x∈ids,∃ p∈ps,p.id=x:=by
 unfold chB
 rw [Bool.and_eq_true,zoj,List.all_eq_true]
 exact ⟨fun h=>⟨h.1,fun x hx=>Jf.1 (h.2 x hx)⟩,fun h=>⟨h.1,fun x hx=>Jf.2 (h.2 x hx)⟩⟩
theorem zsQ {ps:List Pt}(h:Lst ps)(ids:List Int):Ver ps (zeV ps ids) where
 inc:=K8 h ids
 sub:=fun x hx=>(WY.1 hx).1
 need:=fun p hp hpv m hm=>by
  obtain ⟨_,n,hn,e⟩:=WY.1 hpv
  obtain ⟨_,q,hq,rfl⟩:=h.has p hp m hm
  refine WY.2 ⟨⟨q,hq,rfl⟩,n,hn,.inr ?_⟩
  rcases e with rfl | e
  ·
   exact h.on_need hp hm
  ·
   exact h.on_trans e (h.on_need hp hm)
theorem zhx {ps:List Pt}(h:Lst ps){v:List Int}(hv:Ver ps v):zeV ps v=v:=
 WR (K8 h v) hv.inc fun a=>by
  rw [WY]
  constructor
  ·
   rintro ⟨_,n,hn,rfl | e⟩
   ·
    exact hn
   ·
    exact hv.on h hn e
  ·
   intro ha
   exact ⟨hv.sub a ha,a,ha,.inl rfl⟩
theorem zg4 {ps:List Pt}(h:Lst ps){v:List Int}:zlK ps v=true↔Ver ps v:=by
 unfold zlK
 rw [Bool.and_eq_true,zeb]
 constructor
 ·
  rintro ⟨⟨h1,h2⟩,h3⟩
  have e:zeV ps v=v:=of_decide_eq_true h3
  have:=zsQ h v
  rwa [e] at this
 ·
  intro hv
  exact ⟨⟨hv.inc,hv.sub⟩,decide_eq_true (zhx h hv)⟩
theorem zrK {ps:List Pt}(h:Lst ps){v:List Int}(hc:chB ps v=true):decide ((zeV ps v).length≠v.length)= !zlK ps v:=by
 have hsub:∀ x∈v,x∈zeV ps v:=fun x hx=>WY.2 ⟨(zeb.1 hc).2 x hx,x,hx,.inl rfl⟩
 have hnd:=(zeb.1 hc).1
 unfold zlK
 rw [hc,Bool.true_and]
 by_cases e:zeV ps v=v
 ·
  rw [show zta (zeV ps v) v=true from decide_eq_true e,e];simp
 ·
  rw [show zta (zeV ps v) v=false from decide_eq_false e]
  refine decide_eq_true fun hl=>e ?_
  exact ((Xe hnd (K8 h v) hsub).2 (by omega)).symm
theorem zkE {ps:List Pt}(h0:orF (ps.map Km)=0)(h:lsB ps=true):Lst ps:=by
 have hk:∀ p∈ps,ndB p.id p.needs=true∧idB p=true∧UQ p=true:=fun p hp=>by
  have h1:=Ku.1 h0 (Km p) (List.mem_map.2 ⟨p,hp,rfl⟩)
  unfold Km at h1
  split at h1
  ·
   cases h1
  ·
   split at h1
   ·
    rename_i h2
    simpa [Bool.and_eq_true] using h2
   ·
    cases h1
 unfold lsB at h
 rw [List.all_eq_true] at h
 refine ⟨fun p hp=>?_,?_,fun p hp n hn=>?_⟩
 ·
  have:=(hk p hp).2.1
  unfold idB at this
  simp at this
  omega
 ·
  refine K1 (R:=fun p q:Pt=>p.id<q.id) (fun a b c h1 h2=>Int.lt_trans h1 h2) fun k hk=>?_
  have h1:=h (k+1) (List.mem_range.2 hk)
  unfold lsP at h1
  rw [show (((k+1:Nat):Int)-1).toNat=k by omega,QN (List.getElem?_eq_getElem hk),QN (List.getElem?_eq_getElem (show k<ps.length by omega))] at h1
  simp at h1
  have:=h1.1
  omega
 ·
  obtain ⟨k,hk1,rfl⟩:=List.mem_iff_getElem.1 hp
  have h1:=h k (List.mem_range.2 hk1)
  unfold lsP at h1
  rw [QN (List.getElem?_eq_getElem hk1)] at h1
  simp at h1
  refine ⟨?_,Jf.1 (h1.2 n hn)⟩
  obtain ⟨j,hj,rfl⟩:=List.mem_iff_getElem.1 hn
  have h2:=(hk _ hp).1
  unfold ndB at h2
  rw [List.all_eq_true] at h2
  have h3:=h2 j (List.mem_range.2 hj)
  unfold ndP at h3
  rw [QN (List.getElem?_eq_getElem hj)] at h3
  simp at h3
  omega
theorem UH {ps:List Pt}(h:Uc ps=0):ps.length≤512∧orF (ps.map Km)=0∧lsB ps=true∧zjh ps=true:=by
 unfold Uc at h
 split at h
 ·
  cases h
 ·
  split at h
  ·
   contradiction
  ·
   split at h
   ·
    rename_i h1 h2 h3
    rw [Bool.and_eq_true] at h3
    exact ⟨by omega,by omega,h3⟩
   ·
    cases h
theorem zcB {ps:List Pt}(h:Uc ps=0):Lst ps:=zkE (UH h).2.1 (UH h).2.2.1
end
section
open Go Go.Kn Go.Proofs
/-! ### Lists by keys -/
def Srt (xs:List Sg):Prop:=xs.Pairwise fun a b=>a.id<b.id
def YB (xs:List Sg)(s:Int):Option Sg:=xs.find? fun x=>x.id==s
theorem zdP {x:Sg}{xs:List Sg}{s:Int}:YB (x::xs) s=if x.id=s then some x else YB xs s:=by
 unfold YB
 rw [List.find?_cons]
 by_cases h:x.id=s
 ·
  rw [if_pos h,show (x.id==s)=true by simpa using h]
 ·
  rw [if_neg h,show (x.id==s)=false by simpa using h]
theorem ztE {xs:List Sg}{s:Int}{x:Sg}(h:YB xs s=some x):x.id=s:=by
 have:=List.find?_some h
 simpa using this
theorem zgK {xs:List Sg}{s:Int}{x:Sg}(h:YB xs s=some x):x∈xs:=List.mem_of_find?_eq_some h
theorem zah {xs:List Sg}{s:Int}:YB xs s=none↔ ∀ x∈xs,x.id≠s:=by
 unfold YB
 rw [List.find?_eq_none]
 simp
theorem zlj {xs:List Sg}(h:Srt xs){x:Sg}(hx:x∈xs):YB xs x.id=some x:=by
 induction xs with
 | nil=>cases hx
 | cons y ys ih=>
  rw [zdP]
  have h':=List.pairwise_cons.1 h
  rcases List.mem_cons.1 hx with rfl | hx
  ·
   rw [if_pos rfl]
  ·
   rw [if_neg (by have:=h'.1 x hx;omega)]
   exact ih h'.2 hx
theorem zrT {xs ys:List Sg}(hx:Srt xs)(hy:Srt ys)(h:∀ s,YB xs s=YB ys s):xs=ys:=by
 have hm:∀ {xs ys:List Sg},Srt xs→(∀ s,YB xs s=YB ys s)→∀ a∈xs,a∈ys:=fun {xs ys} h1 h2 a ha=>zgK (by rw [←h2];exact zlj h1 ha)
 have h1:=hm hx h
 have h2:=hm hy (fun s=>(h s).symm)
 clear hm h
 induction xs generalizing ys with
 | nil=>
  cases ys with
  | nil=>rfl
  | cons y ys=>have:=h2 y (List.mem_cons_self ..);cases this
 | cons x xs ih=>
  cases ys with
  | nil=>have:=h1 x (List.mem_cons_self ..);cases this
  | cons y ys=>
   have hx':=List.pairwise_cons.1 hx
   have hy':=List.pairwise_cons.1 hy
   have e:x=y:=by
    rcases List.mem_cons.1 (h1 x (List.mem_cons_self ..)) with e | e
    ·
     exact e
    ·
     rcases List.mem_cons.1 (h2 y (List.mem_cons_self ..)) with e2 | e2
     ·
      exact e2.symm
     ·
      have h3:=hx'.1 _ e2;have h4:=hy'.1 _ e;omega
   subst e
   refine congrArg _ (ih hx'.2 hy'.2 (fun a ha=>?_) (fun a ha=>?_))
   ·
    rcases List.mem_cons.1 (h1 a (List.mem_cons_of_mem _ ha)) with e | e
    ·
     subst e;have:=hx'.1 _ ha;omega
    ·
     exact e
   ·
    rcases List.mem_cons.1 (h2 a (List.mem_cons_of_mem _ ha)) with e | e
    ·
     subst e;have:=hy'.1 _ ha;omega
    ·
     exact e
theorem ztu {xs:List Sg}(h:skB xs=true):Srt xs:=by
 unfold skB at h
 rw [List.all_eq_true] at h
 refine K1 (R:=fun p q:Sg=>p.id<q.id) (fun a b c h1 h2=>Int.lt_trans h1 h2) fun k hk=>?_
 have h1:=h (k+1) (List.mem_range.2 hk)
 unfold skP at h1
 rw [show (((k+1:Nat):Int)-1).toNat=k by omega,QN (List.getElem?_eq_getElem hk),QN (List.getElem?_eq_getElem (show k<xs.length by omega))] at h1
 simp at h1
 have:=h1.2
 omega
theorem ziJ {xs:List Sg}(h:WM xs=0):xs.length≤4096∧skB xs=true:=by
 unfold WM at h
 split at h
 ·
  cases h
 ·
  split at h
  ·
   rename_i h1 h2;exact ⟨by omega,h2⟩
  ·
   cases h
def zg9 (xs:List Sg)(k:Sg):List Sg:=xs.takeWhile (fun x=>decide (x.id<k.id))++k::xs.dropWhile (fun x=>decide (x.id<k.id))
theorem zfF {xs ys:List Sg}{s:Int}:YB (xs++ys) s=(YB xs s).or (YB ys s):=by unfold YB;rw [List.find?_append]
theorem zmZ {xs:List Sg}{k:Sg}{s:Int}(hn:YB xs k.id=none):YB (zg9 xs k) s=if k.id=s then some k else YB xs s:=by
 unfold zg9
 rw [zfF,zdP]
 by_cases h:k.id=s
 ·
  subst h
  have h1:YB (xs.takeWhile fun x=>decide (x.id<k.id)) k.id=none:=zah.2 fun x hx=>zah.1 hn x ((List.takeWhile_sublist _).mem hx)
  rw [h1,if_pos rfl,if_pos rfl];rfl
 ·
  rw [if_neg h,if_neg h,←zfF,List.takeWhile_append_dropWhile]
theorem zc5 {xs:List Sg}(h:Srt xs){k:Int}:∀ x∈xs.dropWhile (fun x=>decide (x.id<k)),k≤x.id:=by
 induction xs with
 | nil=>intro x hx;cases hx
 | cons y ys ih=>
  have h':=List.pairwise_cons.1 h
  intro x hx
  rw [List.dropWhile_cons] at hx
  split at hx
  ·
   exact ih h'.2 x hx
  ·
   rename_i hy
   have hy:k≤y.id:=by simpa using hy
   rcases List.mem_cons.1 hx with rfl | hx
   ·
    exact hy
   ·
    have:=h'.1 x hx;omega
theorem zdL {xs:List Sg}{k:Int}:∀ x∈xs.takeWhile (fun x=>decide (x.id<k)),x.id<k:=fun x hx=>by
 have:=List.all_eq_true.1 (List.all_takeWhile (l:=xs) (p:=fun x:Sg=>decide (x.id<k))) x hx
 simpa using this
theorem zq4 {xs:List Sg}(h:Srt xs){k:Sg}(hn:YB xs k.id=none):Srt (zg9 xs k):=by
 have h0:Srt (xs.takeWhile (fun x=>decide (x.id<k.id))++xs.dropWhile (fun x=>decide (x.id<k.id))):=by rw [List.takeWhile_append_dropWhile];exact h
 unfold Srt at h0
 rw [List.pairwise_append] at h0
 unfold Srt zg9
 rw [List.pairwise_append,List.pairwise_cons]
 refine ⟨h0.1,⟨fun x hx=>?_,h0.2.1⟩,fun x hx y hy=>?_⟩
 ·
  have h1:=zc5 h x hx
  have h2:=zah.1 hn x ((List.dropWhile_sublist _).mem hx)
  omega
 ·
  rcases List.mem_cons.1 hy with rfl | hy
  ·
   exact zdL x hx
  ·
   exact h0.2.2 x hx y hy
/-! ### One field of a sign -/
def isF (f:Int):Prop:=1≤f∧f≤9
theorem zwv {x y:Sg}{f:Int}:(zaV x f y).id=x.id:=by unfold zaV;(repeat' split)<;>rfl
theorem zm3 {x y:Sg}{f:Int}:(zaV x f y).kind=x.kind:=by unfold zaV;(repeat' split)<;>rfl
end
section
open Go Go.Kn Go.Proofs
def rmF (l:List Pt)(s:Int):List Int:=(l.filter fun p=>p.kind==3&&p.sign==s).map (·.id)
def stF (l:List Pt)(s f:Int):List Pt:=l.filter fun p=>p.kind==1&&(p.sign==s&&p.field==f)
def unB (on:Int→Int→Bool)(l:List Pt)(p:Pt):Bool:=p.kind==1&&(rmF l p.sign).any fun i=> !on i p.id
def unF (on:Int→Int→Bool)(l:List Pt)(s:Int):List Pt:=l.filter fun p=>p.sign==s&&unB on l p
def exB (on:Int→Int→Bool)(l:List Pt)(s:Int):Bool:=(rmF l s).isEmpty|| !(unF on l s).isEmpty
def zhV (on:Int→Int→Bool)(l:List Pt)(s f:Int):List Pt:=(stF l s f).filter fun p=> !(stF l s f).any fun q=>on q.id p.id
def zp1 (x:Sg)(f:Int):List Pt→Sg
 | []=>x
 | p::_=>zaV x f p.nw
def zhR (on:Int→Int→Bool)(l:List Pt)(x:Sg)(k:Nat):Sg:=(List.range k).foldl (fun y (j:Nat)=>zp1 y ((j:Int)+1) (zhV on l x.id ((j:Int)+1))) x
def zlN (on:Int→Int→Bool)(l:List Pt)(x:Sg):Sg:=zhR on l x 9
def Xj (base:List Sg)(l:List Pt):List Sg:=l.foldl (fun s p=>if p.kind=2 then zg9 s p.nw else s) base
def zdp (on:Int→Int→Bool)(base:List Sg)(l:List Pt):List Sg:=((Xj base l).filter fun x=>exB on l x.id).map (zlN on l)
def YZ (ps:List Pt)(v:List Int):List Pt:=ps.filter fun p=>v.any (· ==p.id)
def WH (xs:List Sg)(s:Int):Bool:=xs.any fun x=>x.id==s
def zhD (l:List Pt)(s:Int):Bool:=l.any fun q=>q.kind==2&&q.sign==s
def zt2 (base:List Sg)(l:List Pt)(p:Pt):Bool:= !((p.kind==2&&WH base p.sign)||(p.kind != 2&& !WH base p.sign)&& !zhD l p.sign)
def zhP (base:List Sg)(l:List Pt):Bool:=l.all (zt2 base l)
def X0 (ps:List Pt)(base:List Sg)(v:List Int):Int:=if Uc ps≠0 then Uc ps else if WM base≠0 then WM base else if v.length>512 then 2 else if zlK ps v&&zhP base (YZ ps v) then 0 else 380
def zga (ps:List Pt)(base:List Sg)(v:List Int):Int:=if X0 ps base v≠0 then X0 ps base v else if (zdp (onF ps) base (YZ ps v)).length>4096 then 2 else 0
def zf4 (ps:List Pt)(base:List Sg)(v:List Int):List Sg:=zmv (zga ps base v) (zdp (onF ps) base (YZ ps v))
/-! ### Conflicts -/
structure ztC (p:Pt):Prop where
 pos:1≤p.id∧p.id≤1048576
 sg:0≤p.sign∧p.sign≤1048576
 kind:p.kind=1∨p.kind=2∨p.kind=3
 set:p.kind=1→isF p.field∧zaV p.nw p.field Vw=Vw∧frm (zaV zgm p.field p.nw)=true
 ins:p.kind=2→p.nw.id=p.sign∧frm p.nw=true
theorem zs0 {p:Pt}(h:Km p=0):ztC p:=by
 unfold Km at h
 split at h
 ·
  cases h
 ·
  split at h
  ·
   rename_i h1 h2
   rw [Bool.and_eq_true,Bool.and_eq_true] at h2
   obtain ⟨h3,h4,h5⟩:=h2
   unfold idB at h4
   unfold UQ at h5
   simp only [Bool.and_eq_true,decide_eq_true_eq] at h4
   refine ⟨by omega,by omega,?_,fun hk=>?_,fun hk=>?_⟩
   ·
    split at h5
    ·
     omega
    ·
     split at h5
     ·
      omega
     ·
      split at h5
      ·
       omega
      ·
       cases h5
   ·
    rw [if_pos hk] at h5
    simp only [Bool.and_eq_true,ZO,decide_eq_true_eq] at h5
    exact ⟨⟨h5.1.1,h5.1.2⟩,zcn.1 h5.2.1,h5.2.2⟩
   ·
    rw [if_neg (by omega),if_pos hk] at h5
    simp only [Bool.and_eq_true,beq_iff_eq] at h5
    exact h5.2
  ·
   cases h
structure Sto (ps:List Pt):Prop where
 lst:Lst ps
 ok:∀ p∈ps,ztC p
 tog:∀ p∈ps,∀ q∈ps,p.id≠q.id→zpE p q (onF ps p.id q.id)=true
theorem zsW {ps:List Pt}(h:zjh ps=true){p q:Pt}(hp:p∈ps)(hq:q∈ps)(hne:p.id≠q.id):zpE p q (onF ps p.id q.id)=true:=by
 unfold zjh at h
 rw [List.all_eq_true] at h
 have h1:=h p hp
 rw [List.all_eq_true] at h1
 have h2:=h1 q hq
 rw [show (p.id==q.id)=false by simpa using hne,Bool.false_or] at h2
 exact h2
theorem zbV {ps:List Pt}(h:Uc ps=0):Sto ps:=
 ⟨zcB h,fun p hp=>zs0 (Ku.1 (UH h).2.1 _ (List.mem_map.2 ⟨p,hp,rfl⟩)),fun _p hp _q hq hne=>zsW (UH h).2.2.2 hp hq hne⟩
theorem Sto.ins {ps:List Pt}(h:Sto ps){p q:Pt}(hp:p∈ps)(hq:q∈ps)(hs:p.sign=q.sign)(hk:q.kind=2):p=q∨(p.kind≠2∧onF ps p.id q.id=true):=by
 by_cases e:p.id=q.id
 ·
  exact .inl (h.lst.uniq hp hq e)
 ·
  have:=h.tog p hp q hq e
  unfold zpE at this
  rw [if_neg (by simpa using hs),if_pos hk] at this
  simp at this
  exact .inr this
theorem Vp {ps:List Pt}{v:List Int}{p:Pt}:p∈YZ ps v↔p∈ps∧p.id∈v:=by
 unfold YZ
 rw [List.mem_filter]
 simp
theorem Ver.closed {ps:List Pt}{v:List Int}(hv:Ver ps v):∀ p∈ps,(v.any (· ==p.id))=true→∀ q∈ps,q.id∈p.needs→(v.any (· ==q.id))=true:=fun p hp h q _ hq=>by
 have:p.id∈v:=by simpa using h
 have:=hv.need p hp this _ hq
 simpa using this
theorem znb {ps:List Pt}{v:List Int}(h:Lst ps)(hv:Ver ps v):Lst (YZ ps v):=h.part hv.closed
theorem ztb {ps:List Pt}{v:List Int}(h:Lst ps)(hv:Ver ps v){p:Pt}(hp:p∈YZ ps v)(b:Int):onF (YZ ps v) p.id b=onF ps p.id b:=
 h.on_part hv.closed (Vp.1 hp).1 (List.mem_filter.1 hp).2
theorem zgP {ps:List Pt}{v:List Int}(h:Sto ps)(hv:Ver ps v):Sto (YZ ps v):=
 ⟨znb h.lst hv,fun p hp=>h.ok p (Vp.1 hp).1,fun p hp q hq hne=>by rw [ztb h.lst hv hp];exact h.tog p (Vp.1 hp).1 q (Vp.1 hq).1 hne⟩
/-! ### Standing matters ZO the version alone -/
theorem ztP {l:List Pt}{s i:Int}:i∈rmF l s↔ ∃ p∈l,p.kind=3∧p.sign=s∧p.id=i:=by
 unfold rmF
 rw [zea]
 simp [and_assoc]
theorem zas {l:List Pt}{s f:Int}{p:Pt}:p∈stF l s f↔p∈l∧p.kind=1∧p.sign=s∧p.field=f:=by
 unfold stF
 rw [List.mem_filter]
 simp
section
variable {l:List Pt} {on on':Int→Int→Bool}
end
end
section
open Go Go.Kn Go.Proofs
section
variable {ps:List Pt} {base:List Sg} {v:List Int}
end
/-! ### All signs of a base and of what is inserted -/
theorem ziN {xs:List Sg}{s:Int}:WH xs s=(YB xs s).isSome:=by
 unfold WH YB
 rw [Bool.eq_iff_iff,List.find?_isSome,List.any_eq_true]
def zhc (l:List Pt)(s:Int):Option Sg:=(l.find? fun q=>q.kind==2&&q.sign==s).map (·.nw)
theorem zdS {l:List Pt}{s:Int}{x:Sg}(h:zhc l s=some x):∃ q∈l,q.kind=2∧q.sign=s∧q.nw=x:=by
 unfold zhc at h
 rw [Option.map_eq_some_iff] at h
 obtain ⟨q,hq,rfl⟩:=h
 have:=List.find?_some hq
 simp at this
 exact ⟨q,List.mem_of_find?_eq_some hq,this.1,this.2,rfl⟩
theorem zkk {base:List Sg}{l:List Pt}(h:zhP base l=true){q:Pt}(hq:q∈l)(hk:q.kind=2):YB base q.sign=none:=by
 unfold zhP at h
 rw [List.all_eq_true] at h
 have:=h q hq
 unfold zt2 at this
 rw [ziN] at this
 simp [hk] at this
 exact this
theorem zgy {base:List Sg}{l:List Pt}{q:Pt}:Xj base (l++[q])=if q.kind=2 then zg9 (Xj base l) q.nw else Xj base l:=by
 unfold Xj
 rw [List.foldl_append];rfl
theorem zlz {base:List Sg}(hb:Srt base):∀ (l2 l1:List Pt),Sto (l1++l2)→zhP base (l1++l2)=true→Srt (Xj base l1)→(∀ s,YB (Xj base l1) s=(YB base s).or (zhc l1 s))→
  Srt (Xj base (l1++l2))∧∀ s,YB (Xj base (l1++l2)) s=(YB base s).or (zhc (l1++l2) s)
 | [],l1,_,_,h1,h2=>by rw [List.append_nil];exact ⟨h1,h2⟩
 | q::l2,l1,hs,hf,h1,h2=>by
  have e:l1++q::l2=(l1++[q])++l2:=by simp
  rw [e] at hs hf ⊢
  have hq:q∈l1++[q]++l2:=by simp
  have hins:∀ s,zhc (l1++[q]) s=(zhc l1 s).or (if q.kind=2∧q.sign=s then some q.nw else none):=by
   intro s
   unfold zhc
   rw [List.find?_append]
   by_cases hk:q.kind=2∧q.sign=s
   ·
    rw [if_pos hk,List.find?_cons,show (q.kind==2&&q.sign==s)=true by simpa using hk]
    cases l1.find? fun q=>q.kind==2&&q.sign==s<;>rfl
   ·
    rw [if_neg hk,List.find?_cons,show (q.kind==2&&q.sign==s)=false by simpa using hk]
    cases l1.find? fun q=>q.kind==2&&q.sign==s<;>rfl
  refine zlz hb l2 (l1++[q]) hs hf ?_ ?_
  ·
   rw [zgy]
   by_cases hk:q.kind=2
   ·
    rw [if_pos hk]
    have hid:=((hs.ok q hq).ins hk).1
    refine zq4 h1 ?_
    rw [h2,hid,zkk hf hq hk]
    cases hi:zhc l1 q.sign with
    | none=>rfl
    | some x=>
     exfalso
     obtain ⟨r,hr,hr1,hr2,_⟩:=zdS hi
     rcases hs.ins (p:=r) (q:=q) (by simp [hr]) hq hr2 hk with e2 | ⟨e2,_⟩
     ·
      subst e2
      have:=hs.lst.inc
      rw [List.append_assoc,List.pairwise_append] at this
      have:=this.2.2 r hr r (by simp)
      omega
     ·
      exact e2 hr1
   ·
    rw [if_neg hk];exact h1
  ·
   intro s
   rw [zgy,hins]
   by_cases hk:q.kind=2
   ·
    have hid:=((hs.ok q hq).ins hk).1
    have hnone:YB (Xj base l1) q.nw.id=none:=by
     rw [h2,hid,zkk hf hq hk]
     cases hi:zhc l1 q.sign with
     | none=>rfl
     | some x=>
      exfalso
      obtain ⟨r,hr,hr1,hr2,_⟩:=zdS hi
      rcases hs.ins (p:=r) (q:=q) (by simp [hr]) hq hr2 hk with e2 | ⟨e2,_⟩
      ·
       subst e2
       have:=hs.lst.inc
       rw [List.append_assoc,List.pairwise_append] at this
       have:=this.2.2 r hr r (by simp)
       omega
      ·
       exact e2 hr1
    rw [if_pos hk,zmZ hnone,hid,h2]
    have hn2:=hnone
    rw [h2,hid] at hn2
    by_cases hs2:q.sign=s
    ·
     subst hs2
     rw [if_pos rfl,if_pos ⟨hk,rfl⟩]
     cases h3:YB base q.sign with
     | some x=>rw [h3] at hn2;cases hn2
     | none=>
      rw [h3] at hn2
      cases h4:zhc l1 q.sign with
      | some x=>rw [h4] at hn2;cases hn2
      | none=>rfl
    ·
     rw [if_neg hs2,if_neg (fun h=>hs2 h.2),Option.or_none]
   ·
    rw [if_neg hk,if_neg (fun h=>hk h.1),Option.or_none,h2]
theorem zmL {base:List Sg}{l:List Pt}(hb:Srt base)(hs:Sto l)(hf:zhP base l=true):Srt (Xj base l)∧∀ s,YB (Xj base l) s=(YB base s).or (zhc l s):=by
 have:=zlz hb l [] hs hf hb (fun s=>by simp [zhc,Xj])
 simpa using this
end
section
open Go Go.Kn Go.Proofs
theorem zrX {x:Sg}{f:Int}{ps:List Pt}:(zp1 x f ps).id=x.id:=by
 cases ps with
 | nil=>rfl
 | cons p ps=>exact zwv
theorem zjS {x:Sg}{f:Int}{ps:List Pt}:(zp1 x f ps).kind=x.kind:=by
 cases ps with
 | nil=>rfl
 | cons p ps=>exact zm3
theorem zcR {on:Int→Int→Bool}{l:List Pt}{x:Sg}{k:Nat}:zhR on l x (k+1)=zp1 (zhR on l x k) ((k:Int)+1) (zhV on l x.id ((k:Int)+1)):=by
 unfold zhR
 rw [List.range_succ,List.foldl_append];rfl
theorem zez {on:Int→Int→Bool}{l:List Pt}{x:Sg}:∀ k:Nat,(zhR on l x k).id=x.id∧(zhR on l x k).kind=x.kind
 | 0=>⟨rfl,rfl⟩
 | k+1=>by
  rw [zcR,zrX,zjS]
  exact zez k
theorem zoU {on:Int→Int→Bool}{l:List Pt}{x:Sg}:(zlN on l x).id=x.id:=(zez 9).1
section
variable {l l':List Pt} {s:Int} {on:Int→Int→Bool}
end
end
section
open Go Go.Kn Go.Proofs
def zz9 (t:List Pt)(s:Int):Bool:=t.any fun p=>p.kind==3&&p.sign==s
def zzW (x:Sg)(t:List Pt)(s:Int):Sg:=t.foldl (fun y p=>if p.kind=1∧p.sign=s then zaV y p.field p.nw else y) x
def stS (base:List Sg)(t:List Pt)(s:Int):Option Sg:=if zz9 t s then none else ((YB base s).or (zhc t s)).map fun x=>zzW x t s
end
section
open Go Go.Kn Go.Proofs
def zlQ (x y:Int):Int:=if x<y then -1 else if x>y then 1 else 0
/-! ### Fields as cells -/
def foF (f:Int):Nat:=if f=1 then 1 else if f=2 then 2 else if f=3 then 3 else if f=4 then 5 else if f=5 then 6 else if f=6 then 7 else if f=7 then 8 else 9
def zvk (x:Sg)(f:Int):Int:=if f=1 then x.role else if f=2 then x.bar else if f=3 then x.mark else if f=4 then x.side else if f=5 then x.dir else if f=6 then x.level else if f=7 then x.size else x.wth
def zzP (b:Nat):List Value:=[.pointer none,.pointer (some ⟨b,0+1,none⟩),.pointer (some ⟨b,0+2,none⟩),.pointer (some ⟨b,0+3,none⟩),.pointer (some ⟨b,0+5,none⟩),.pointer (some ⟨b,0+6,none⟩),.pointer (some ⟨b,0+7,none⟩),.pointer (some ⟨b,0+8,none⟩),.pointer (some ⟨b,0+9,none⟩)]
theorem zaI {f:Int}(h:1≤f∧f≤8):f=1∨f=2∨f=3∨f=4∨f=5∨f=6∨f=7∨f=8:=by omega
theorem za5 {f:Int}(h:1≤f∧f≤8)(b:Nat):(zzP b)[f.toNat*1]? =some (.pointer (some ⟨b,foF f,none⟩)):=by
 rcases zaI h with rfl | rfl | rfl | rfl | rfl | rfl | rfl | rfl<;>rfl
theorem zed {f:Int}(h:1≤f∧f≤8)(x:Sg):zkY (Vy x) (foF f)=some (.int .i64 (zvk x f)):=by
 rcases zaI h with rfl | rfl | rfl | rfl | rfl | rfl | rfl | rfl<;>rfl
theorem zq2 {f:Int}:Nat.blt (foF f) 14=true:=by
 unfold foF
 repeat' split
 all_goals rfl
theorem zjW {f:Int}(h:1≤f∧f≤8)(x y:Sg):(Vy x).toArray.setIfInBounds (foF f) (.int .i64 (zvk y f))=(Vy (zaV x f y)).toArray:=by
 rcases zaI h with rfl | rfl | rfl | rfl | rfl | rfl | rfl | rfl<;>rfl
def zhJ (v:List Int)(k:Nat)(l:Int):Prop:=(k=0→l=0)∧∀ y,v[k-1]? =some y→k≠0→l=y
theorem zbi {v:List Int}{k:Nat}{x:Int}(hx:v[k]? =some x):zhJ v (k+1) x:=⟨fun h=>by omega,fun y hy _=>by simp at hy;rw [hx] at hy;cases hy;rfl⟩
theorem zvC {id:Int}{v:List Int}{k:Nat}{l x:Int}(hall:(List.range k).all (ndP id v)=true)(hl:zhJ v k l)(hx:v[k]? =some x):ndP id v k= !(decide (x≤l)||decide (x≥id)):=by
 unfold ndP
 rw [QN hx]
 cases k with
 | zero=>
  rw [hl.1 rfl]
  rw [Bool.eq_iff_iff];simp;omega
 | succ k=>
  have hk:=(List.getElem?_eq_some_iff.1 hx).1
  have hy:v[k]? =some (v[k]'(by omega)):=List.getElem?_eq_getElem _
  have e:=hl.2 _ (by rw [Nat.add_sub_cancel];exact hy) (by omega)
  rw [show (((k+1:Nat):Int)-1).toNat=k by omega,QN hy,←e]
  have h1:1≤l:=by
   rw [List.all_eq_true] at hall
   have:=hall k (List.mem_range.2 (by omega))
   unfold ndP at this
   rw [QN hy] at this
   simp at this
   omega
  rw [Bool.eq_iff_iff];simp;omega
theorem zxc {p:Pt}(h:p.needs.length>32):Km p=2:=by unfold Km;rw [if_pos h]
theorem zw8 {p:Pt}(h:¬p.needs.length>32)(h2:ndB p.id p.needs=false):Km p=370:=by unfold Km;rw [if_neg h,h2];rfl
theorem zcY {p:Pt}(h:¬p.needs.length>32)(h2:ndB p.id p.needs=true)(h3:(idB p&&UQ p)=false):Km p=370:=by unfold Km;rw [if_neg h,h2,h3];rfl
theorem zgD {p:Pt}(h:¬p.needs.length>32)(h2:ndB p.id p.needs=true)(h3:(idB p&&UQ p)=true):Km p=0:=by unfold Km;rw [if_neg h,h2,h3];rfl
theorem zwB {p:Pt}(h:p.kind=1)(h2:ZO p.field 1 9=true):UQ p=(zaT (zaV p.nw p.field Vw) Vw&&frm (zaV zgm p.field p.nw)):=by unfold UQ;rw [if_pos h,h2,Bool.true_and]
theorem zwc {p:Pt}(h:p.kind=1)(h2:ZO p.field 1 9=false):(idB p&&UQ p)=false:=by unfold UQ;rw [if_pos h,h2,Bool.false_and,Bool.and_false]
theorem zwr {p:Pt}(h:p.kind=2):UQ p=(p.field==0&&(p.nw.id==p.sign&&frm p.nw)):=by unfold UQ;rw [if_neg (by omega),if_pos h]
theorem zv1 {p:Pt}(h:p.kind=3):UQ p=(p.field==0&&zaT p.nw Vw):=by unfold UQ;rw [if_neg (by omega),if_neg (by omega),if_pos h]
theorem zyz {p:Pt}(h1:p.kind≠1)(h2:p.kind≠2)(h3:p.kind≠3):(idB p&&UQ p)=false:=by unfold UQ;rw [if_neg h1,if_neg h2,if_neg h3,Bool.and_false]
def zjz (an ad bn bd:Int):Int:=if UN an ad&&UN bn bd then zlQ (an*bd) (bn*ad) else 0
theorem zd8 {fn fd tn td:Int}:(((zlL fn fd tn td==0)&&decide (zjz fn fd tn td<0))&&decide (fn≥0)&&decide (tn≤td))=zeR fn fd tn td:=by
 unfold zlL zjz zeR zlQ
 cases h:(UN fn fd&&UN tn td) with
 | false=>rfl
 | true=>
  simp only [if_true,Bool.true_and]
  by_cases h2:fn*td<tn*fd
  ·
   simp [h2]
  ·
   by_cases h3:fn*td>tn*fd<;>simp [h2,h3]
theorem zdl {xs:List Sg}{k:Nat}{x:Sg}(hx:xs[k]? =some x):skP xs k= !(!frm x||(decide ((k:Int)>0)&&decide ((xs.getD ((k:Int)-1).toNat Vw).id≥x.id))):=by unfold skP;rw [QN hx]
end
section
open Go Go.Kn Go.Proofs
theorem znN (I:Qw)(x y:Int):Zu Tryz.prog 142 [.int .i64 x,.int .i64 y] I (.int .i64 (zlQ x y)):=by
 intro g H w hw
 refine qe Tryz.func142 Tryz.ntmps142 hw ?_
 refine zR (zA ?_)
 refine zN (zR ?_)
 refine zM ?_
 refine qc (vs:=[_]) rfl Xc (zhH I _) ?_
 refine zA ?_
 refine zN (zR ?_)
 refine zM ?_
 refine qc (vs:=[_]) rfl Xc (zhH I _) ?_
 refine zA (zN (Qk (zR ?_)))
 refine zM (zN ?_)
 refine zI ?_ ?_<;>intro hc11
 ·
  cases hc11
 refine Qo (Qa (Qk (zR (zM (zN ?_)))))
 refine zI ?_ ?_<;>intro hc13
 ·
  cases hc13
 refine Qo (Qa (Qk (zR (zM ?_))))
 refine zM ?_
 refine zC (zN ?_)
 refine zI ?_ ?_<;>intro hc16
 ·
  refine zR (zA (zN (Qs (Qb ?_))))
  exact zr rfl rfl (by unfold zlQ;first | (rw [if_pos (by simpa using hc16)]) | (rw [if_neg (by simpa using hc16),if_pos (by simpa using hc19)]) | (rw [if_neg (by simpa using hc16),if_neg (by simpa using hc19)]))
 refine Qo (Qa (Qk (zR (zM ?_))))
 refine zM ?_
 refine zC (zN ?_)
 refine zI ?_ ?_<;>intro hc19
 ·
  refine zR (zA (zN (Qs (Qb ?_))))
  exact zr rfl rfl (by unfold zlQ;first | (rw [if_pos (by simpa using hc16)]) | (rw [if_neg (by simpa using hc16),if_pos (by simpa using hc19)]) | (rw [if_neg (by simpa using hc16),if_neg (by simpa using hc19)]))
 refine Qo (Qa (zR (zA (zN (Qs ?_)))))
 exact zr rfl rfl (by unfold zlQ;first | (rw [if_pos (by simpa using hc16)]) | (rw [if_neg (by simpa using hc16),if_pos (by simpa using hc19)]) | (rw [if_neg (by simpa using hc16),if_neg (by simpa using hc19)]))
end
section
open Go Go.Kn Go.Proofs
theorem zkT (I:Qw)(an ad bn bd:Int):Zu Tryz.prog 237 [zb3 (an) (ad),zb3 (bn) (bd)] I (.tuple #[.int .i64 (zjz an ad bn bd),.int .i64 (zlL an ad bn bd)]):=by
 intro g H w hw
 refine qe Tryz.func237 Tryz.ntmps237 hw ?_
 refine zR ?_
 refine Q9 rfl rfl rfl (fun b_2=>?_)
 refine Q9 rfl rfl rfl (fun b_3=>?_)
 refine zA ?_
 refine zA (zN (Qk (zR ?_)))
 refine zV (Qq rfl VJ (fun hg=>by exact Cells.g1) rfl) ?_
 refine qc (vs:=[_]) rfl zb2 (Xz I _ _) ?_
 refine zC ?_
 refine zM ?_
 refine QV 3 rfl rfl rfl ?_
 refine zJ (Qq rfl VJ (fun hg=>by exact Cells.g0) rfl) ?_
 refine qf (vs:=[_]) rfl zb2 (fun hg=>Xz I _ _) ?_
 refine zJ (QI rfl rfl rfl) ?_
 refine Zs rfl rfl rfl rfl rfl ?_
 refine zN ?_
 refine zI ?_ ?_<;>intro hc13
 ·
  have hb:(UN an ad&&UN bn bd)=false:=by have h:=hc13;rw [zcC,Bool.not_eq_true'] at h;exact h
  refine zR (zA ?_)
  refine zA (zN (Qs (Qb ?_)))
  exact Zr rfl rfl rfl (fun w hw=>⟨by unfold zjz zlL;rw [hb];rfl,hw.drop⟩)
 have hb:(UN an ad&&UN bn bd)=true:=by have h:=hc13;rw [zcC,Bool.not_eq_false'] at h;exact h
 have ⟨ha1,ha2⟩:=zci (Bool.and_eq_true .. ▸ hb).1
 have ⟨hb1,hb2⟩:=zci (Bool.and_eq_true .. ▸ hb).2
 refine Qo (Qa (zR ?_))
 refine zF Vq ?_
 refine zL Qr ?_
 refine zF Jd ?_
 refine zL Qr ?_
 refine zV (ZA rfl rfl rfl (fun _=>by exact zmk (by omega) (by omega))) ?_
 refine zF Vq ?_
 refine zL Qr ?_
 refine zF Jd ?_
 refine zL Qr ?_
 refine zV (ZA rfl rfl rfl (fun _=>by exact zmk (by omega) (by omega))) ?_
 refine qc (vs:=[_,_]) rfl zd1 (znN I _ _) ?_
 refine zA ?_
 refine zA (zN (Qs ?_))
 exact Zr rfl rfl rfl (fun w hw=>⟨by unfold zjz zlL;rw [hb];rfl,hw.drop⟩)
theorem zjF (I:Qw)(an ad bn bd:Int):Zu Tryz.prog 203 [zb3 (an) (ad),zb3 (bn) (bd)] I (.bool (zeR an ad bn bd)):=by
 intro g H w hw
 refine qe Tryz.func203 Tryz.ntmps203 hw ?_
 refine zR ?_
 refine Q9 rfl rfl rfl (fun b_2=>?_)
 refine Q9 rfl rfl rfl (fun b_3=>?_)
 refine zA ?_
 refine zN (zR ?_)
 refine zV (Qq rfl VJ (fun hg=>by exact Cells.g1) rfl) ?_
 refine zV (Qq rfl VJ (fun hg=>by exact Cells.g0) rfl) ?_
 refine qc (vs:=[_,_]) rfl zlx (zkT I _ _ _ _) ?_
 refine zM ?_
 refine zE ?_
 refine zE ?_
 refine zA ?_
 refine zA ?_
 refine zN (zR ?_)
 refine zM ?_
 refine zC ?_
 refine zM ?_
 refine QG 2 rfl rfl rfl ?_
 refine zK (Qh rfl) ?_
 refine zK (QI rfl rfl rfl) ?_
 refine QL rfl rfl rfl rfl rfl ?_
 refine zM ?_
 refine QG 6 rfl rfl rfl ?_
 refine zK (Qi rfl Vq) ?_
 refine zK (Qd rfl Qr (fun hg=>by exact QY.h1 rfl)) ?_
 refine zK (QI rfl rfl rfl) ?_
 refine QL rfl rfl rfl rfl rfl ?_
 refine zM ?_
 refine QG 11 rfl rfl rfl ?_
 refine zK (Qi rfl Vq) ?_
 refine zK (Qd rfl Qr (fun hg=>by exact QY.h0 rfl)) ?_
 refine zK (Qi rfl Jd) ?_
 refine zK (Qd rfl Qr (fun hg=>by exact QY.h0 rfl)) ?_
 refine zK (QI rfl rfl rfl) ?_
 refine QL rfl rfl rfl rfl rfl ?_
 refine zA (zN (Qs ?_))
 exact zr rfl rfl (by rw [←zd8])
theorem zqx (I:Qw)(x:Sg):Zu Tryz.prog 154 [J0 x] I (.bool (frm x)):=by
 intro g H w hw
 refine qe Tryz.func154 Tryz.ntmps154 hw ?_
 refine zR ?_
 refine Q9 rfl rfl rfl (fun b_1=>?_)
 refine zA ?_
 refine zN (zR ?_)
 refine zF Z9 ?_
 refine zL Qr ?_
 refine qc (vs:=[_,_,_]) rfl Yj (ZY I _ _ _) ?_
 refine zM ?_
 refine QG 3 rfl rfl rfl ?_
 refine zK (Qi rfl Jm) ?_
 refine zK (Qd rfl Qr (fun hg=>by exact QY.h0 rfl)) ?_
 refine qg (vs:=[_,_,_]) rfl Yj (fun hg=>ZY I _ _ _) ?_
 refine QL rfl rfl rfl rfl rfl ?_
 refine zM ?_
 refine QG 8 rfl rfl rfl ?_
 refine zK (Qi rfl Kt) ?_
 refine zK (Qd rfl Qr (fun hg=>by exact QY.h0 rfl)) ?_
 refine qg (vs:=[_,_,_]) rfl Yj (fun hg=>ZY I _ _ _) ?_
 refine QL rfl rfl rfl rfl rfl ?_
 refine zM ?_
 refine QG 13 rfl rfl rfl ?_
 refine zK (Qi rfl Ub) ?_
 refine zK (Qd rfl Qr (fun hg=>by exact QY.h0 rfl)) ?_
 refine qg (vs:=[_,_,_]) rfl Yj (fun hg=>ZY I _ _ _) ?_
 refine QL rfl rfl rfl rfl rfl ?_
 refine zM ?_
 refine QG 18 rfl rfl rfl ?_
 refine zK (Qi rfl JX) ?_
 refine zK (Qd rfl Qr (fun hg=>by exact QY.h0 rfl)) ?_
 refine qg (vs:=[_,_,_]) rfl Yj (fun hg=>ZY I _ _ _) ?_
 refine QL rfl rfl rfl rfl rfl ?_
 refine zM ?_
 refine QG 23 rfl rfl rfl ?_
 refine zK (Qi rfl Jq) ?_
 refine zK (Qd rfl Qr (fun hg=>by exact QY.h0 rfl)) ?_
 refine qg (vs:=[_,_,_]) rfl Yj (fun hg=>ZY I _ _ _) ?_
 refine QL rfl rfl rfl rfl rfl ?_
 refine zM ?_
 refine QG 28 rfl rfl rfl ?_
 refine zK (Qi rfl Jh) ?_
 refine zK (Qd rfl Qr (fun hg=>by exact QY.h0 rfl)) ?_
 refine qg (vs:=[_,_,_]) rfl Yj (fun hg=>ZY I _ _ _) ?_
 refine QL rfl rfl rfl rfl rfl ?_
 refine zM ?_
 refine QG 33 rfl rfl rfl ?_
 refine zK (Qi rfl Ju) ?_
 refine zK (Qd rfl Qr (fun hg=>by exact QY.h0 rfl)) ?_
 refine qg (vs:=[_,_,_]) rfl Yj (fun hg=>ZY I _ _ _) ?_
 refine QL rfl rfl rfl rfl rfl ?_
 refine zM ?_
 refine QG 38 rfl rfl rfl ?_
 refine zK (Qi rfl Jk) ?_
 refine zK (Qd rfl Qr (fun hg=>by exact QY.h0 rfl)) ?_
 refine qg (vs:=[_,_,_]) rfl Yj (fun hg=>ZY I _ _ _) ?_
 refine QL rfl rfl rfl rfl rfl ?_
 refine zM ?_
 refine QG 43 rfl rfl rfl ?_
 refine zK (Qi rfl Jg) ?_
 refine zK (Qd rfl Qr (fun hg=>by exact QY.h0 rfl)) ?_
 refine qg (vs:=[_,_,_]) rfl Yj (fun hg=>ZY I _ _ _) ?_
 refine QL rfl rfl rfl rfl rfl ?_
 refine zM ?_
 refine QG 48 rfl rfl rfl ?_
 refine zK (Qi rfl VY) ?_
 refine zK (Qq rfl VJ (fun hg=>by exact Cells.s0 (vs:=[_,_]) rfl) rfl) ?_
 refine zK (Qi rfl V1) ?_
 refine zK (Qq rfl VJ (fun hg=>by exact Cells.s0 (vs:=[_,_]) rfl) rfl) ?_
 refine qg (vs:=[_,_]) rfl zjj (fun hg=>zjF I _ _ _ _) ?_
 refine QL rfl rfl rfl rfl rfl ?_
 refine zA (zN (Qs ?_))
 exact zr rfl rfl (by rfl)
theorem zfE {I:Qw}{av:Option Addr}{n c:Nat}{xs:List Sg}(hS:Sl I 14 Vy av n c xs)(hn:n≤100000):Zu Tryz.prog 102 [.slice av n c] I (.int .i64 (WM xs)):=by
 intro g H w hw
 refine qe Tryz.func102 Tryz.ntmps102 hw ?_
 refine zR (zA (zN (Qk (zR ?_))))
 refine zM ?_
 refine zQ VF ?_
 refine zC (zN ?_)
 refine zI ?_ ?_<;>intro hc7
 ·
  have h6:xs.length>4096:=by rw [hS.len];simp at hc7;omega
  refine zR (zA (zN (Qs (Qb ?_))))
  first
  | exact zr rfl rfl (by unfold WM;rw [if_pos h6])
 have h6:¬xs.length>4096:=by rw [hS.len];simp at hc7;omega
 refine Qo (Qa (Qk (zR (zM ?_))))
 refine zQ VF ?_
 refine zM (zN (Ql ?_))
 refine zU [(0,_),(8,_),(9,_)] (fun T L0 mz E I' loc'=>∃ (k:Nat),mz=n-k∧E=(10,.int .i64 k)::T∧I=I'∧L0=loc'∧k≤n∧(List.range k).all (skP xs)=true) ?_ (h:=⟨0,rfl,rfl,rfl,rfl,Nat.zero_le _,rfl⟩)
 rintro mz E I' loc' ⟨k,rfl,rfl,rfl,rfl,hk,hall⟩
 refine zR (zC (zN (Qk ?_)))
 refine zI ?_ ?_<;>intro hc11
 ·
  have hlt_k:k<n:=by have h:=hc11;simp at h;omega
  obtain ⟨x,hx⟩:=hS.at hlt_k
  refine Qo (Qa (Qk (Ql (zR (zM ?_)))))
  refine zV (Qz rfl rfl VF (by assumption) (fun hg=>by omega)) ?_
  refine zV (Qq rfl ZI (fun hg=>by exact zAm hS hx) rfl) ?_
  refine Qv Wg rfl rfl (fun b_4=>?_)
  refine zA ?_
  refine zh Y5 ?_
  refine zN (Qk ?_)
  refine Yq mixed (by kernel_rfl) ?_
  refine zq (Qq rfl ZI (fun hg=>by exact Cells.g0) rfl) ?_
  refine Vs (cap:=[]) (vs:=[_]) rfl rfl ziQ (zqx I _) rfl rfl ?_
  refine zq (Yw rfl) ?_
  refine zq (Qh rfl) ?_
  refine YP 3 rfl rfl rfl ?_
  refine zj (Qh rfl) ?_
  refine zj (QI rfl rfl rfl) ?_
  refine zj (Qh rfl) ?_
  refine U7 6 rfl rfl rfl ?_
  refine zk (Qh rfl) ?_
  refine zk (Qh rfl) ?_
  refine zk (ZA rfl rfl rfl (fun hg=>by omega)) ?_
  refine zk (Qz rfl rfl VF (by assumption) (fun hg=>by (simp [ZV] at hg;omega))) ?_
  refine zk (Qi rfl Z9) ?_
  refine zk (Qd rfl Qr (fun hg=>by exact zAe (k:=((k:Int)-1).toNat) hS (QX (d:=Vw) hS.len (by simp [ZV] at hg;omega)) rfl)) ?_
  refine zk (Qi rfl Z9) ?_
  refine zk (Qd rfl Qr (fun hg=>by exact QY.h0 rfl)) ?_
  refine zk (QI rfl rfl rfl) ?_
  refine zca rfl rfl rfl (.some rfl rfl rfl rfl gbf) rfl rfl ?_
  refine Ke rfl rfl rfl rfl rfl ?_
  refine Yp ?_
  refine Qa ?_
  refine zI ?_ ?_<;>intro hc32
  ·
   refine zR (zA (zN (Qs (Qm (Qb (Qb (Qm ?_)))))))
   refine Qb ?_
   first
   | exact zr rfl rfl (by unfold WM skB;rw [if_neg h6,JB (k:=k) (by rw [hS.len];exact hlt_k) (by rw [zdl hx,hc32];rfl)];rfl)
  refine Qo (Qg (Qa (Qf (zB ?_))))
  refine zM (Qc ?_)
  exact zm (h:=⟨n-(k+1),by omega,k+1,rfl,rfl,rfl,rfl,by omega,VP hall (by rw [zdl hx,hc32];rfl)⟩)
 have hge_k:n≤k:=by have h:=hc11;simp at h;omega
 refine QH (Qe (Qe (Qj (Qa (zR (zA (zN ?_)))))))
 refine Qs ?_
 first
 | exact zr rfl rfl (by unfold WM skB;rw [if_neg h6,hS.len,show n=k by omega,hall];rfl)
theorem zam (I:Qw)(b:Nat):Zu Tryz.prog 196 [Ze b] I (.agg (zzP b).toArray):=by
 intro g H w hw
 refine qe Tryz.func196 Tryz.ntmps196 hw ?_
 refine zR ?_
 refine Qv zpl rfl rfl (fun b_2=>?_)
 refine zN (Qk ?_)
 have hD:=zAl I
 refine JH ?_
 refine Z7 I [] mixed ?_
 refine zT 0 rfl (Qh rfl) hD ?_
 refine zT 1 rfl (Q5 rfl) hD ?_
 refine zT 2 rfl (Qi rfl Jm) hD ?_
 refine zT 3 rfl (Qh rfl) hD ?_
 refine zT 4 rfl (Q5 rfl) hD ?_
 refine zT 5 rfl (Qi rfl Kt) hD ?_
 refine zT 6 rfl (Qh rfl) hD ?_
 refine zT 7 rfl (Q5 rfl) hD ?_
 refine zT 8 rfl (Qi rfl JX) hD ?_
 refine zT 9 rfl (Qh rfl) hD ?_
 refine zT 10 rfl (Q5 rfl) hD ?_
 refine zT 11 rfl (Qi rfl Jq) hD ?_
 refine zT 12 rfl (Qh rfl) hD ?_
 refine zT 13 rfl (Q5 rfl) hD ?_
 refine zT 14 rfl (Qi rfl Jh) hD ?_
 refine zT 15 rfl (Qh rfl) hD ?_
 refine zT 16 rfl (Q5 rfl) hD ?_
 refine zT 17 rfl (Qi rfl Ju) hD ?_
 refine zT 18 rfl (Qh rfl) hD ?_
 refine zT 19 rfl (Q5 rfl) hD ?_
 refine zT 20 rfl (Qi rfl Jk) hD ?_
 refine zT 21 rfl (Qh rfl) hD ?_
 refine zT 22 rfl (Q5 rfl) hD ?_
 refine zT 23 rfl (Qi rfl Jg) hD ?_
 refine zT 24 rfl (ZC (ps:=[(1,_),(2,_),(3,_),(4,_),(5,_),(6,_),(7,_),(8,_)]) [_,_,_,_,_,_,_,_,_] UJ zpl rfl rfl) hD ?_
 refine qd 25 rfl ?_
 refine zh zqI ?_
 refine Qc ?_
 refine zD hD ?_
 refine QK (by kernel_rfl) ?_
 refine QW ?_
 refine Qa (Qs ?_)
 exact KG rfl rfl zty Cells.g0 rfl (fun w hw=>⟨rfl,hw.drop⟩)
theorem zus (I:Qw)(x:Sg)(f:Int)(y:Sg)(hf:isF f):Zu Tryz.prog 146 [J0 x,.int .i64 f,J0 y] I (J0 (zaV x f y)):=by
 intro g H w hw
 refine qe Tryz.func146 Tryz.ntmps146 hw ?_
 refine zR ?_
 refine Q9 rfl rfl rfl (fun b_3=>?_)
 refine Q9 rfl rfl rfl (fun b_5=>?_)
 refine Qv Wg rfl rfl (fun b_6=>?_)
 refine zN (Qk (zR (zM ?_)))
 refine zC (zN ?_)
 refine zI ?_ ?_<;>intro hc8
 ·
  have hf9:f=9:=by simpa using hc8
  refine zR ?_
  refine zF VY ?_
  refine zV (Qq rfl VJ (fun hg=>by exact Cells.s1 (vs:=[_,_]) rfl) rfl) ?_
  refine zF V1 ?_
  refine zV (Qq rfl VJ (fun hg=>by exact Cells.s1 (vs:=[_,_]) rfl) rfl) ?_
  refine zF VY ?_
  refine JG rfl rfl zbh rfl rfl rfl rfl (by repeat (first | exact Upd.here | apply Upd.there | apply QM)) ?_
  refine zF V1 ?_
  refine JG rfl rfl zbh rfl rfl rfl rfl (by repeat (first | exact Upd.here | apply Upd.there | apply QM)) ?_
  refine zN (zR ?_)
  refine zV (Qq rfl ZI (fun hg=>by exact Cells.g2) rfl) ?_
  refine zh Y5 ?_
  refine zN (Qs (Qb ?_))
  first
  | exact KG rfl rfl ZI Cells.g0 rfl (fun w hw=>⟨by rw [hf9];rfl,hw.drop⟩)
 have hf8:1≤f∧f≤8:=by have h:=hc8;unfold isF at hf;simp at h;omega
 refine Qo (Qa (Qk ?_))
 have hD:=zAl I
 refine JH ?_
 refine Z7 I [(b_5,.cells (J0 y).cells 54 (0,0))] mixed ?_
 refine zT 1 rfl (Qh rfl) hD ?_
 refine zT 4 rfl (Qh rfl) hD ?_
 refine qd 0 rfl ?_
 refine qc (vs:=[_]) rfl zd2 (zam I _) ?_
 refine Qc ?_
 refine zD hD ?_
 refine Zw 2 3 rfl rfl (by kernel_rfl) ?_ ?_
 ·
  refine zV (Kr rfl rfl UJ WT (fun hg=>by omega) (fun hg=>za5 hf8 b_3)) ?_
  refine Qc ?_
  refine zD hD ?_
  refine qd 3 rfl ?_
  refine qc (vs:=[_]) rfl zd2 (zam I _) ?_
  refine Qc ?_
  refine zD hD ?_
  refine qd 5 rfl ?_
  refine zV (Kr rfl rfl UJ WT (fun hg=>by omega) (fun hg=>za5 hf8 b_5)) ?_
  refine Qc ?_
  refine zD hD ?_
  refine zT 6 rfl (Q5 rfl) hD ?_
  refine zT 7 rfl (Qd rfl Qr (fun hg=>by exact QY.h0 (zed hf8 y))) hD ?_
  refine zT 8 rfl (Q5 rfl) hD ?_
  refine qd 9 rfl ?_
  refine ZE rfl rfl Yd rfl rfl Upd.u2 (by exact zq2) ?_
  rw [show (J0 x).cells.setIfInBounds (foF f) (.int .i64 (zvk y f))=(Vy (zaV x f y)).toArray from zjW hf8 x y]
  refine Qc ?_
  refine zD hD ?_
  refine QK (by kernel_rfl) ?_
  refine QW ?_
  refine Qa (zR ?_)
  refine zV (Qq rfl ZI (fun hg=>by exact Cells.g2) rfl) ?_
  refine zh Y5 ?_
  refine zN (Qs ?_)
  exact KG rfl rfl ZI Cells.g0 rfl (fun w hw=>⟨rfl,hw.drop⟩)
 refine qc (vs:=[_]) rfl zd2 (zam I _) ?_
 refine Qc ?_
 refine zD hD ?_
 refine Zw 2 5 rfl rfl (by kernel_rfl) ?_ ?_
 ·
  refine zV (Kr rfl rfl UJ WT (fun hg=>by omega) (fun hg=>za5 hf8 b_3)) ?_
  refine Qc ?_
  refine zD hD ?_
  refine qd 5 rfl ?_
  refine zV (Kr rfl rfl UJ WT (fun hg=>by omega) (fun hg=>za5 hf8 b_5)) ?_
  refine Qc ?_
  refine zD hD ?_
  refine zT 6 rfl (Q5 rfl) hD ?_
  refine zT 7 rfl (Qd rfl Qr (fun hg=>by exact QY.h0 (zed hf8 y))) hD ?_
  refine zT 8 rfl (Q5 rfl) hD ?_
  refine qd 9 rfl ?_
  refine ZE rfl rfl Yd rfl rfl Upd.u2 (by exact zq2) ?_
  rw [show (J0 x).cells.setIfInBounds (foF f) (.int .i64 (zvk y f))=(Vy (zaV x f y)).toArray from zjW hf8 x y]
  refine Qc ?_
  refine zD hD ?_
  refine QK (by kernel_rfl) ?_
  refine QW ?_
  refine Qa (zR ?_)
  refine zV (Qq rfl ZI (fun hg=>by exact Cells.g2) rfl) ?_
  refine zh Y5 ?_
  refine zN (Qs ?_)
  exact KG rfl rfl ZI Cells.g0 rfl (fun w hw=>⟨rfl,hw.drop⟩)
 refine zV (Kr rfl rfl UJ WT (fun hg=>by omega) (fun hg=>za5 hf8 b_5)) ?_
 refine Qc ?_
 refine zD hD ?_
 refine zT 6 rfl (Q5 rfl) hD ?_
 refine zT 7 rfl (Qd rfl Qr (fun hg=>by exact QY.h0 (zed hf8 y))) hD ?_
 refine qd 2 rfl ?_
 refine zV (Kr rfl rfl UJ WT (fun hg=>by omega) (fun hg=>za5 hf8 b_3)) ?_
 refine Qc ?_
 refine zD hD ?_
 refine zT 8 rfl (Q5 rfl) hD ?_
 refine qd 9 rfl ?_
 refine ZE rfl rfl Yd rfl rfl Upd.u2 (by exact zq2) ?_
 rw [show (J0 x).cells.setIfInBounds (foF f) (.int .i64 (zvk y f))=(Vy (zaV x f y)).toArray from zjW hf8 x y]
 refine Qc ?_
 refine zD hD ?_
 refine QK (by kernel_rfl) ?_
 refine QW ?_
 refine Qa (zR ?_)
 refine zV (Qq rfl ZI (fun hg=>by exact Cells.g2) rfl) ?_
 refine zh Y5 ?_
 refine zN (Qs ?_)
 exact KG rfl rfl ZI Cells.g0 rfl (fun w hw=>⟨rfl,hw.drop⟩)
end
section
open Go Go.Kn
theorem zgF (zs:List Int):zs.flatMap QP=zs.map (Value.int .i64):=by
 induction zs with
 | nil=>rfl
 | cons z zs ih=>rw [List.flatMap_cons,ih];rfl
theorem zdO {zs ys:List Int}(hy:ys.Pairwise (· < ·))(h:∀ x,x∈zs↔x∈ys):Lib.compact (YJ zs)=ys:=
 WR (KJ zs).1 hy fun a=>by rw [(KJ zs).2,h]
end
section
open Go Go.Kn Go.Proofs
theorem zrC (i j:Nat)(h:i+j≤1000000):IntKind.i64.wrap ((IntKind.u64.wrap ((i:Int)+(j:Int))).fdiv (2^1))=(((i+j) / 2:Nat):Int):=by
 have h1:IntKind.u64.wrap ((i:Int)+(j:Int))=((i+j:Nat):Int):=by
  rw [show ((i:Int)+(j:Int))=((i+j:Nat):Int) by omega]
  exact zkQ ⟨by omega,by omega⟩
 rw [h1,show ((2:Int)^1)=((2:Nat):Int) from rfl,Int.fdiv_eq_ediv_of_nonneg _ (by omega),←Int.natCast_ediv]
 exact zb5 ⟨by omega,by omega⟩
theorem zuO {x y:Int}:decide (zlQ x y<0)=decide (x<y):=by
 unfold zlQ
 by_cases h:x<y
 ·
  rw [if_pos h];simp [h]
 ·
  rw [if_neg h];split<;>simp [h]
section
variable {α:Type} {key:α→Int} {xs:List α} {t:Int}
theorem zy1 (hs:xs.Pairwise (fun a b=>key a<key b)){h:Nat}{y:α}(hy:xs[h]? =some y)(hlt:key y<t):∀ q z,q<h+1→xs[q]? =some z→key z<t:=fun q z hq hz=>by
 obtain ⟨h1,h2⟩:=List.getElem?_eq_some_iff.1 hz
 obtain ⟨h3,h4⟩:=List.getElem?_eq_some_iff.1 hy
 by_cases e:q=h
 ·
  subst e;rw [hy] at hz;cases hz;exact hlt
 ·
  have:=List.pairwise_iff_getElem.1 hs q h h1 h3 (by omega)
  rw [h2,h4] at this;omega
theorem zyK (hs:xs.Pairwise (fun a b=>key a<key b)){h:Nat}{y:α}(hy:xs[h]? =some y)(hlt:¬key y<t):∀ q z,h≤q→xs[q]? =some z→¬key z<t:=fun q z hq hz=>by
 obtain ⟨h1,h2⟩:=List.getElem?_eq_some_iff.1 hz
 obtain ⟨h3,h4⟩:=List.getElem?_eq_some_iff.1 hy
 by_cases e:q=h
 ·
  subst e;rw [hy] at hz;cases hz;exact hlt
 ·
  have:=List.pairwise_iff_getElem.1 hs h q h3 h1 (by omega)
  rw [h2,h4] at this;omega
def zyO (key:α→Int)(xs:List α)(t:Int):Nat:=(xs.takeWhile fun x=>decide (key x<t)).length
theorem zwg {i:Nat}(hi:i≤xs.length)(hlo:∀ q z,q<i→xs[q]? =some z→key z<t)(hhi:∀ q z,i≤q→xs[q]? =some z→¬key z<t):zyO key xs t=i:=by
 unfold zyO
 have h1:(xs.take i).all (fun x=>decide (key x<t))=true:=by
  rw [List.all_eq_true]
  intro z hz
  obtain ⟨q,hq⟩:=List.getElem?_of_mem hz
  have hq1:q<i:=by have:=(List.getElem?_eq_some_iff.1 hq).1;rw [List.length_take] at this;omega
  rw [List.getElem?_take_of_lt hq1] at hq
  exact decide_eq_true (hlo q z hq1 hq)
 rw [(zwq h1 hi (fun y hy=>decide_eq_false (hhi i y (Nat.le_refl _) hy))).1,List.length_take];omega
theorem znT {i n:Nat}{d:α}(hl:xs.length=n)(hlo:∀ q z,q<i→xs[q]? =some z→key z<t)(hhi:∀ q z,i≤q→xs[q]? =some z→¬key z<t)(hs:xs.Pairwise (fun a b=>key a<key b)):(decide ((i:Int)<(n:Int))&&(key (xs.getD i d)==t))=xs.any fun x=>key x==t:=by
 rw [Bool.eq_iff_iff,List.any_eq_true,Bool.and_eq_true]
 constructor
 ·
  rintro ⟨h1,h2⟩
  have hi:i<n:=by have:=of_decide_eq_true h1;omega
  exact ⟨_,List.mem_of_getElem? (QX hl hi),h2⟩
 ·
  rintro ⟨x,hx,e⟩
  have e:key x=t:=by simpa using e
  obtain ⟨q,hq⟩:=List.getElem?_of_mem hx
  have hqn:=(List.getElem?_eq_some_iff.1 hq).1
  have h1:i≤q:=by
   rcases Nat.lt_or_ge q i with h | h
   ·
    have:=hlo q x h hq;omega
   ·
    exact h
  have h2:q=i:=by
   by_cases e2:q=i
   ·
    exact e2
   ·
    have hy:=QX (d:=d) hl (show i<n by omega)
    obtain ⟨h3,h4⟩:=List.getElem?_eq_some_iff.1 hq
    obtain ⟨h5,h6⟩:=List.getElem?_eq_some_iff.1 hy
    have h7:=List.pairwise_iff_getElem.1 hs i q h5 h3 (by omega)
    rw [h4,h6] at h7
    have:=hhi i _ (Nat.le_refl _) hy
    omega
  subst h2
  refine ⟨decide_eq_true (by omega),?_⟩
  rw [QN hq,e];simp
end
instance : Inhabited Sg := ⟨Vw⟩
def zo2 (a b:Sg):Int:=zlQ a.id b.id
theorem ltG (a b:Sg):Go.Proofs.ltOf zo2 a b=decide (a.id<b.id):=by unfold Go.Proofs.ltOf zo2;exact zuO
theorem zzX:Go.Sort.SWO (Go.Proofs.ltOf zo2) where
 irrefl:=fun x=>by rw [ltG];simp
 trans:=fun x y z h1 h2=>by rw [ltG] at*;simp at*;omega
 ntrans:=fun x y z h1 h2=>by rw [ltG] at*;simp at*;omega
theorem znq {zs zs':List Sg}(hp:zs'.Perm zs)(hs:zs'.Pairwise (fun x y=>Go.Proofs.ltOf zo2 y x=false))(hn:(zs.map (·.id)).Nodup):Srt zs':=by
 have hn':(zs'.map (·.id)).Nodup:=(hp.map (·.id)).nodup_iff.2 hn
 unfold Srt
 have h2:zs'.Pairwise (fun a b=>a.id≠b.id):=List.pairwise_map.1 hn'
 refine (hs.and h2).imp fun {a b} h=>?_
 have:=h.1
 rw [ltG] at this
 simp at this
 have:=h.2
 omega
end
section
open Go Go.Kn Go.Proofs
def ztZ (v:List Int)(i:Nat):Bool:= !(decide ((i:Int)>0)&&decide (v.getD i 0≤v.getD ((i:Int)-1).toNat 0))
theorem ziv {v:List Int}:ztw v=(List.range v.length).all (ztZ v):=rfl
theorem zj3 (v:List Int):(List.range 1).all (ztZ v)=true:=by simp [ztZ]
theorem ziX {v:List Int}{k:Nat}{x:Int}(hx:v[k]? =some x)(h:1≤k):ztZ v k= !decide (x≤v.getD ((k:Int)-1).toNat 0):=by
 unfold ztZ
 rw [QN hx,decide_eq_true (show (k:Int)>0 by omega),Bool.true_and]
theorem zkP {p:Nat→Bool}{n k:Nat}(h:(List.range k).all p=true)(hn:n≤k):(List.range n).all p=true:=by
 rw [List.all_eq_true] at*
 intro i hi
 exact h i (List.mem_range.2 (Nat.lt_of_lt_of_le (List.mem_range.1 hi) hn))
end
section
open Go Go.Kn Go.Proofs
theorem zxI (e:Nat)(zs:List Int){v:Value}{n:Nat}{L:Go.Kn.Loc}(hO:OwnS e 1 v n (zs.map (Value.int .i64)) L)(hn:n≤1000000)(I:Qw):
  Z4 Tryz.prog 64 [v] I L (fun u I' L'=>u= .tuple #[]∧I'=I∧OwnS e 1 v n ((YJ zs).map (Value.int .i64)) L'):=
 zkj Tryz.slices_Sort_int Tryz.slices_Sort_int_none zs hO hn I
theorem zkS (e:Nat)(zs:List Int){v:Value}{n:Nat}{L:Go.Kn.Loc}(hO:OwnS e 1 v n (zs.map (Value.int .i64)) L)(hn:n≤1000000)(I:Qw):
  Z4 Tryz.prog 91 [v] I L (fun u I' L'=>I'=I∧OwnS e 1 u (Lib.compact zs).length ((Lib.compact zs).map (Value.int .i64)) L'):=
 zbn Lib.compact Lib.compact_length_le rfl Tryz.slices_Compact_int Tryz.slices_Compact_int_empty zs hO hn I
theorem zwE (I:Qw)(x y:Sg):Zu Tryz.prog 141 [J0 x,J0 y] I (.int .i64 (zo2 x y)):=by
 intro g H w hw
 refine qe Tryz.func141 Tryz.ntmps141 hw ?_
 refine zR ?_
 refine Q9 rfl rfl rfl (fun b_2=>?_)
 refine Q9 rfl rfl rfl (fun b_3=>?_)
 refine zA ?_
 refine zN (zR ?_)
 refine zF Z9 ?_
 refine zL Qr ?_
 refine zF Z9 ?_
 refine zL Qr ?_
 refine qc (vs:=[_,_]) rfl zd1 (znN I _ _) ?_
 refine zA (zN (Qs ?_))
 exact zr rfl rfl (by rfl)
theorem ztO (e:Nat)(zs:List Sg){v:Value}{n:Nat}{L:Go.Kn.Loc}(hO:OwnS e 14 v n (zs.flatMap Vy) L)(hn:n≤1000000)(I:Qw):
  Z4 Tryz.prog 140 [v,.func (.func 141) #[] #[]] I L (fun u I' L'=>u= .tuple #[]∧I'=I∧∃ zs':List Sg,zs'.Perm zs∧zs'.Pairwise (fun x y=>Go.Proofs.ltOf zo2 y x=false)∧OwnS e 14 v n (zs'.flatMap Vy) L'):=
 zmp Z8 (by decide) (fun blk off cap d w hC hH hb hs=>Tryz.slices_SortFunc 14 (fun w=>Ve ZI) (fun w=>by obtain ⟨i,hi,hz⟩:=Y5;rw [←hz];exact Go.Kn.run_sizeOf hi) Vy Z8 (fun x=>Jv (by rfl)) zo2 zzX 141 #[] blk off cap d w (fun args w=>V2 zrd args w) hC hH hb hs)
  (Tryz.slices_SortFunc_none (α:=Sg)) (fun I x y=>zwE I x y) zs hO hn I
theorem zoQ (I:Qw)(x:Int):Zu Tryz.prog 190 [.int .i64 x] I (.bool false):=by
 intro g H w hw
 refine qe Tryz.func190 Tryz.ntmps190 hw ?_
 refine zR (zA ?_)
 refine zN (zR ?_)
 refine zM ?_
 refine zM ?_
 refine zC ?_
 refine zA (zN (Qs ?_))
 exact zr rfl rfl (by simp)
theorem zuH (I:Qw)(x y:Int):Zu Tryz.prog 161 [.int .i64 x,.int .i64 y] I (.bool (decide (x<y))):=by
 intro g H w hw
 refine qe Tryz.func161 Tryz.ntmps161 hw ?_
 refine zR (zA ?_)
 refine zN (zR ?_)
 refine zM ?_
 refine qc (vs:=[_]) rfl Xc (zhH I _) ?_
 refine zM ?_
 refine QG 2 rfl rfl rfl ?_
 refine zK (Qh rfl) ?_
 refine qg (vs:=[_]) rfl Xc (fun hg=>zhH I _) ?_
 refine zK (Yw rfl) ?_
 refine QL rfl rfl rfl rfl rfl ?_
 refine zM ?_
 refine QV 7 rfl rfl rfl ?_
 refine zJ (Qh rfl) ?_
 refine zJ (Qh rfl) ?_
 refine zJ (QI rfl rfl rfl) ?_
 refine Zs rfl rfl rfl rfl rfl ?_
 refine zA (zN (Qs ?_))
 exact zr rfl rfl (by rfl)
theorem zx6 {I:Qw}{av:Option Addr}{n c:Nat}{xs:List Int}(hS:Sl I 1 QP av n c xs)(hn:n≤100000)(hs:xs.Pairwise (· < ·))(t:Int):Zu Tryz.prog 139 [.slice av n c,.int .i64 t] I (.tuple #[.int .i64 (zyO (fun x:Int=>x) xs t:Nat),.bool (xs.any fun x=>x==t)]):=by
 intro g H w hw
 refine qe Tryz.func139 Tryz.ntmps139 hw ?_
 refine zR (zA ?_)
 refine zA ?_
 refine zN (zR ?_)
 refine zM ?_
 refine zQ Qt ?_
 refine zA ?_
 refine zN (zR ?_)
 refine zM ?_
 refine zA ?_
 refine zA (zN (Qk (Ql ?_)))
 refine zU [(0,_),(1,_),(6,_)] (fun T L0 mz E I' loc'=>∃ (i j:Nat),mz=j-i∧E=(7,.int .i64 i)::(8,.int .i64 j)::T∧I=I'∧L0=loc'∧i≤j∧j≤n∧(∀ q z,q<i→xs[q]? =some z→z<t)∧∀ q z,j≤q→xs[q]? =some z→¬z<t) ?_ (h:=⟨0,n,rfl,rfl,rfl,rfl,Nat.zero_le _,Nat.le_refl _,fun q z h=>absurd h (by omega),fun q z h1 h2=>by have:=(List.getElem?_eq_some_iff.1 h2).1;rw [hS.len] at this;omega⟩)
 rintro mz E I' loc' ⟨i,j,rfl,rfl,rfl,rfl,hij,hjn,hlo,hhi⟩
 refine Qk (zR (zM ?_))
 refine zM ?_
 refine zC (zN ?_)
 refine zI ?_ ?_<;>intro hc15
 ·
  have hlt:i<j:=by have h:=hc15;simp at h;omega
  obtain ⟨y,hy⟩:=hS.at (k:=(i+j) / 2) (by omega)
  refine Qo (Qa (Ql (zR (zM ?_))))
  refine zM ?_
  refine zB ?_
  refine zV (Ky rfl KX) ?_
  refine zV (zj1 rfl rfl (by decide) (rfl:min _ _=1)) ?_
  refine zV (Ky rfl zh7) ?_
  refine zA (Qc ?_)
  rw [zrC i j (by omega)]
  refine Qa (zR (zM ?_))
  refine zM ?_
  refine zV (Qz rfl rfl Qt (by assumption) (fun hg=>by omega)) ?_
  refine zV (Qd rfl Qr (fun hg=>by exact zAe (k:=(i+j) / 2) hS hy rfl)) ?_
  refine zM ?_
  refine qc (vs:=[_,_]) rfl zq8 (zuH I _ _) ?_
  refine zN ?_
  refine zI ?_ ?_<;>intro hc27
  ·
   refine Qf (zM ?_)
   refine zB ?_
   refine zA (Qc (Qg ?_))
   exact zm (h:=⟨j-((i+j) / 2+1),by omega,(i+j) / 2+1,j,rfl,rfl,rfl,rfl,by omega,hjn,zy1 (key:=fun x:Int=>x) hs hy (by simpa using hc27),hhi⟩)
  refine Qf (zM ?_)
  refine zA (Qc (Qg ?_))
  exact zm (h:=⟨(i+j) / 2-i,by omega,i,(i+j) / 2,rfl,rfl,rfl,rfl,by omega,by omega,hlo,zyK (key:=fun x:Int=>x) hs hy (by simpa using hc27)⟩)
 have hge:j≤i:=by have h:=hc15;simp at h;omega
 have hje:j=i:=by omega
 subst hje
 refine QH (Qe (Qe (Qj (Qa (zR (zM ?_))))))
 refine zM ?_
 refine zM ?_
 refine zC ?_
 refine zM ?_
 refine QG 4 rfl rfl rfl ?_
 refine zK (Qh rfl) ?_
 refine zK (Qh rfl) ?_
 refine zK (Qz rfl rfl Qt (by assumption) (fun hg=>by (simp [ZV] at hg;omega))) ?_
 refine zK (Qd rfl Qr (fun hg=>by exact Sl.getD0 (k:=j) (d:=0) hS (by simp [ZV] at hg;omega) rfl)) ?_
 refine zK (Qh rfl) ?_
 refine zK (QI rfl rfl rfl) ?_
 refine zK (Qh rfl) ?_
 refine QV 11 rfl rfl rfl ?_
 refine zJ (Qh rfl) ?_
 refine zJ (Qh rfl) ?_
 refine zJ (Qz rfl rfl Qt (by assumption) (fun hg=>by (simp [ZV] at hg;omega))) ?_
 refine zJ (Qd rfl Qr (fun hg=>by exact Sl.getD0 (k:=j) (d:=0) hS (by simp [ZV] at hg;omega) rfl)) ?_
 refine qf (vs:=[_]) rfl zky (fun hg=>zoQ I _) ?_
 refine zJ (Qh rfl) ?_
 refine QG 17 rfl rfl rfl ?_
 refine zK (Qh rfl) ?_
 refine qg (vs:=[_]) rfl zky (fun hg=>zoQ I _) ?_
 refine zjZ rfl rfl rfl (.some rfl rfl rfl rfl gbf) rfl rfl ?_
 refine zjm rfl rfl rfl (.some rfl rfl rfl rfl gbt) rfl rfl ?_
 refine QL rfl rfl rfl rfl rfl ?_
 refine zA ?_
 refine zA (zN (Qs ?_))
 exact Zr rfl rfl rfl (fun w hw=>⟨by rw [←znT (key:=fun x:Int=>x) (d:=0) hS.len hlo hhi hs,zwg (key:=fun x:Int=>x) (by rw [hS.len];omega) hlo hhi];simp,hw.drop⟩)
theorem zvX {I:Qw}{av:Option Addr}{n c:Nat}{xs:List Int}(hS:Sl I 1 QP av n c xs)(hn:n≤100000):Zu Tryz.prog 149 [.slice av n c] I (.bool (ztw xs)):=by
 intro g H w hw
 refine qe Tryz.func149 Tryz.ntmps149 hw ?_
 refine zR (zA (zN (Qk (zR ?_))))
 refine zA (zN (Ql ?_))
 refine zU [(0,_)] (fun T L0 mz E I' loc'=>∃ (k:Nat),mz=(max n 1)-k∧E=(3,.int .i64 k)::T∧I=I'∧L0=loc'∧k≤(max n 1)∧1≤k∧(List.range k).all (ztZ xs)=true) ?_ (h:=⟨1,rfl,rfl,rfl,rfl,by omega,Nat.le_refl _,zj3 xs⟩)
 rintro mz E I' loc' ⟨k,rfl,rfl,rfl,rfl,hk,h1,hall⟩
 refine Qk (zR (zM ?_))
 refine zM ?_
 refine zQ Qt ?_
 refine zC (zN ?_)
 refine zI ?_ ?_<;>intro hc7
 ·
  have hlt_k:k<n:=by have h:=hc7;simp at h;omega
  obtain ⟨x,hx⟩:=hS.at hlt_k
  refine Qo (Qa (Qk (Ql (Qk ?_))))
  refine Yq mixed (by kernel_rfl) ?_
  refine zq (Qh rfl) ?_
  refine zq (Qh rfl) ?_
  refine zq (Qz rfl rfl Qt (by assumption) (fun hg=>by omega)) ?_
  refine zq (Qd rfl Qr (fun hg=>by exact zAe (k:=k) hS hx rfl)) ?_
  refine zq (Qh rfl) ?_
  refine zq (Qh rfl) ?_
  refine zq (ZA rfl rfl rfl (fun _=>by omega)) ?_
  refine zq (Qz rfl rfl Qt (by assumption) (fun hg=>by omega)) ?_
  refine zq (Qd rfl Qr (fun hg=>by exact Sl.getD0 (k:=((k:Int)-1).toNat) (d:=0) hS (by omega) rfl)) ?_
  refine zq (QI rfl rfl rfl) ?_
  refine Yp ?_
  refine Qa ?_
  refine zI ?_ ?_<;>intro hc19
  ·
   refine zR (zA (zN (Qs (Qm (Qb (Qb (Qm ?_)))))))
   refine Qb ?_
   first
   | exact zr rfl rfl (by rw [ziv,JB (k:=k) (by rw [hS.len];exact hlt_k) (by rw [ziX hx h1,hc19];rfl)])
  refine Qo (Qg (Qa (Qf (zM ?_))))
  refine zB ?_
  refine zA (Qc ?_)
  exact zm (h:=⟨(max n 1)-(k+1),by omega,k+1,rfl,rfl,rfl,rfl,by omega,by omega,VP hall (by rw [ziX hx h1,hc19];rfl)⟩)
 have hge_k:n≤k:=by have h:=hc7;simp at h;omega
 refine QH (Qe (Qe (Qj (Qa (zR (zA (zN ?_)))))))
 refine Qs ?_
 exact zr rfl rfl (by rw [ziv,hS.len,zkP hall (show n≤k from hge_k)])
theorem znm {I:Qw}{av:Option Addr}{n c:Nat}{xs:List Sg}(hS:Sl I 14 Vy av n c xs)(hn:n≤400000):Z4 Tryz.prog 138 [.slice av n c] I [] (fun v I' L=>I'=I∧OwnS 54 14 v n (xs.flatMap Vy) L):=by
 intro g H w hw
 refine qe Tryz.func138 Tryz.ntmps138 hw ?_
 refine zR (zA (zN (Qk (zR ?_))))
 refine zM ?_
 refine zV (XU rfl rfl VF) ?_
 refine zN ?_
 refine zI ?_ ?_<;>intro hc4
 ·
  have hn0:n=0:=Decidable.byContradiction fun h=>by have:=hS.base h;rw [this] at hc4;cases hc4
  have hl:=hS.len
  subst hn0
  have hx0:=List.eq_nil_of_length_eq_zero hl
  subst hx0
  refine zR (zA (zN (Qs (Qb ?_))))
  exact Zq rfl rfl (fun w hw=>⟨_,I,_,rfl,zAl _,hw,rfl,OwnS.nil⟩)
 refine Qo (Qa (zR ?_))
 refine Qp (ps:=[]) (m:=[]) Uw rfl (.nil) rfl (by simp) (by decide) (by decide) rfl rfl (fun b_5=>?_)
 refine zM ?_
 refine QU (v:=_) (ys:=xs.flatMap Vy) (L:=[(b_5,_)]) rfl rfl Uw OwnS.new (by repeat (first | exact .cons .here .nil | exact QD | exact Qy | apply QC | apply QB)) (hS.src Z8) (znJ _) (by omega) rfl rfl ?_
 intro v1 L1 hO1 _;rw [List.nil_append,Nat.zero_add] at hO1
 refine zA (zN (Qs ?_))
 exact Zq rfl rfl (fun w hw=>⟨_,I,_,rfl,zAl _,hw.subL Zg,rfl,hO1⟩)
theorem ztf {I:Qw}{av:Option Addr}{n c:Nat}{xs:List Int}(hS:Sl I 1 QP av n c xs)(hn:n≤400000){bv:Option Addr}{n2 c2:Nat}{ys:List Int}(hT:Sl I 1 QP bv n2 c2 ys)(hn2:n2≤100000):Z4 Tryz.prog 50 [.slice av n c,.slice bv n2 c2] I [] (KD 1 QP (Lib.compact (YJ (xs++ys)))):=by
 intro g H w hw
 refine qe Tryz.func50 Tryz.ntmps50 hw ?_
 have hIc:=zAl I
 refine zR (zA ?_)
 refine zN (zR ?_)
 refine zM ?_
 refine QA (cap:=[]) (vs:=[_]) rfl rfl zjx .nil (zcs hS hn) rfl rfl ?_
 rintro vv1 I1 L1 hI1 ⟨rfl,hO⟩
 have hT:=hT.mono hI1;have hIc:=hIc.trans hI1
 refine zM ?_
 refine QU (v:=_) (ys:=ys.flatMap QP) (L:=_) rfl rfl Za hO Qy (hT.src Qu) (V0 _) (by omega) rfl rfl ?_
 intro v2 L2 hO2 _;rw [←List.flatMap_append,zgF] at hO2
 refine zA ?_
 refine zN (zR ?_)
 refine zM ?_
 refine QA (cap:=[]) (vs:=[_]) rfl rfl zj6 Qy (zxI 3 (xs++ys) hO2 (by omega) _) rfl rfl ?_
 rintro vv2 I2 L2 hI2 ⟨rfl,rfl,hO3⟩
 have hIc:=hIc.trans hI2
 refine zN (zR ?_)
 refine zM ?_
 refine QA (cap:=[]) (vs:=[_]) rfl rfl zoF Qy (zkS 3 _ hO3 (by omega) _) rfl rfl ?_
 rintro vv3 I3 L3 hI3 ⟨rfl,hO4⟩
 have hIc:=hIc.trans hI3
 refine zA (zN (Qs ?_))
 rw [←zgF] at hO4
 exact Zq rfl rfl (fun w hw=>by obtain ⟨I9,h91,h92,h93⟩:=OwnS.res hO4 Qu (by decide) (hw.subL (by exact Zg));exact ⟨_,I9,[],rfl,hIc.trans h91,h92,h93⟩)
end
section
open Go Go.Kn Go.Proofs
def zcK (b:Nat):Value:=.map (some b)
structure zai (s:List (Int×Bool))(A:Int→Bool):Prop where
 nodup:(s.map (·.1)).Nodup
 all:∀ q∈s,q.2=true
 mem:∀ x,zgG s x=A x
theorem zai.nil:zai [] (fun _=>false):=⟨.nil,(fun q hq=>by cases hq),fun _=>rfl⟩
theorem zai.put {s:List (Int×Bool)}{A:Int→Bool}(h:zai s A)(a:Int):zai (YE s a true) (fun x=>decide (a=x)||A x) where
 nodup:=W8 a true h.nodup
 all:=by
  have key:∀ (s:List (Int×Bool)),(∀ q∈s,q.2=true)→∀ q∈YE s a true,q.2=true:=by
   intro s
   induction s with
   | nil=>intro _ q hq;simp [YE] at hq;rw [hq]
   | cons p s ih=>
    intro h q hq
    unfold YE at hq
    split at hq
    ·
     rcases List.mem_cons.1 hq with rfl | hq
     ·
      rfl
     ·
      exact h q (List.mem_cons_of_mem _ hq)
    ·
     rcases List.mem_cons.1 hq with rfl | hq
     ·
      exact h _ (List.mem_cons_self ..)
     ·
      exact ih (fun q hq=>h q (List.mem_cons_of_mem _ hq)) q hq
  exact key s h.all
 mem:=fun x=>by rw [XN,h.mem]
theorem zai.congr {s:List (Int×Bool)}{A B:Int→Bool}(h:zai s A)(e:∀ x,A x=B x):zai s B:=⟨h.nodup,h.all,fun x=>by rw [h.mem,e]⟩
theorem zai.key {s:List (Int×Bool)}{A:Int→Bool}(h:zai s A){x:Int}:A x=true↔x∈s.map (·.1):=by
 rw [←h.mem]
 unfold zgG
 constructor
 ·
  intro h1
  cases hg:ZH s x with
  | none=>rw [hg] at h1;cases h1
  | some b=>exact List.mem_map.2 ⟨_,Ua hg,rfl⟩
 ·
  intro h1
  obtain ⟨q,hq,rfl⟩:=List.mem_map.1 h1
  rw [zbz h.nodup hq,h.all q hq];rfl
def OnS (I:Qw)(ref:Nat)(A:Int→Bool):Prop:=∃ s:List (Int×Bool),I ref=some (Z0 (Value.int .i64) Value.bool s)∧zai s A
theorem OnS.mono {I I':Qw}{ref:Nat}{A:Int→Bool}(h:OnS I ref A)(hI:HLe I I'):OnS I' ref A:=by
 obtain ⟨s,h1,h2⟩:=h
 exact ⟨s,hI _ _ h1,h2⟩
def OnL (I:Qw)(m:List (Int×Nat))(ps:List Pt):Prop:=m.map (·.1)=ps.map (·.id)∧∀ q∈m,OnS I q.2 (onF ps q.1)
theorem OnL.mono {I I':Qw}{m:List (Int×Nat)}{ps:List Pt}(h:OnL I m ps)(hI:HLe I I'):OnL I' m ps:=⟨h.1,fun q hq=>(h.2 q hq).mono hI⟩
theorem OnL.nil {I:Qw}{ps:List Pt}:OnL I [] (ps.take 0):=⟨by simp,fun q hq=>by cases hq⟩
def OnM (I:Qw)(r:Nat)(ps:List Pt):Prop:=∃ m:List (Int×Nat),I r=some (Z0 (Value.int .i64) zcK m)∧OnL I m ps
theorem OnM.mono {I I':Qw}{r:Nat}{ps:List Pt}(h:OnM I r ps)(hI:HLe I I'):OnM I' r ps:=by
 obtain ⟨m,h1,h2⟩:=h
 exact ⟨m,hI _ _ h1,h2.mono hI⟩
theorem OnL.get {I:Qw}{m:List (Int×Nat)}{ps:List Pt}(h:OnL I m ps){a:Int}(ha:∃ q∈ps,q.id=a):∃ ref,ZH m a=some ref∧OnS I ref (onF ps a):=by
 cases hg:ZH m a with
 | none=>
  have:=U0.1 hg
  rw [h.1] at this
  obtain ⟨q,hq,rfl⟩:=ha
  exact absurd (List.mem_map.2 ⟨q,hq,rfl⟩) this
 | some ref=>exact ⟨ref,rfl,h.2 _ (Ua hg)⟩
theorem Lst.before {ps:List Pt}(h:Lst ps){k:Nat}{p:Pt}(hk:ps[k]? =some p){n:Int}(hn:n∈p.needs):∃ q∈ps.take k,q.id=n:=by
 obtain ⟨h1,q,hq,rfl⟩:=h.has p (List.mem_of_getElem? hk) n hn
 obtain ⟨j,hj⟩:=List.getElem?_of_mem hq
 obtain ⟨hj1,hj2⟩:=List.getElem?_eq_some_iff.1 hj
 obtain ⟨hk1,hk2⟩:=List.getElem?_eq_some_iff.1 hk
 have hjk:j<k:=by
  rcases Nat.lt_or_ge j k with h3 | h3
  ·
   exact h3
  ·
   exfalso
   by_cases e:k=j
   ·
    subst e;rw [hk] at hj;cases hj;omega
   ·
    have:=List.pairwise_iff_getElem.1 h.inc k j hk1 hj1 (by omega)
    rw [hj2,hk2] at this;omega
 refine ⟨q,?_,rfl⟩
 rw [List.mem_take_iff_getElem]
 exact ⟨j,by omega,hj2⟩
theorem Lst.fresh {ps:List Pt}(h:Lst ps){k:Nat}{p:Pt}(hk:ps[k]? =some p):∀ q∈ps.take k,q.id<p.id:=fun q hq=>by
 obtain ⟨j,hj,rfl⟩:=List.mem_take_iff_getElem.1 hq
 obtain ⟨hk1,hk2⟩:=List.getElem?_eq_some_iff.1 hk
 have:=List.pairwise_iff_getElem.1 h.inc j k (by omega) hk1 (by omega)
 rw [hk2] at this;exact this
theorem OnL.step {I:Qw}{m:List (Int×Nat)}{ps:List Pt}{k ref:Nat}{p:Pt}{s:List (Int×Bool)}(hL:Lst ps)(hk:ps[k]? =some p)(hm:OnL I m (ps.take k))(hb:I ref=some (Z0 (Value.int .i64) Value.bool s))
  (hs:zai s (fun x=>p.needs.any fun n=>n==x||onF (ps.take k) n x)):OnL I (YE m p.id ref) (ps.take (k+1)):=by
 have hfr:=hL.fresh hk
 have hnew:p.id∉m.map (·.1):=by
  rw [hm.1]
  intro h
  obtain ⟨q,hq,e⟩:=List.mem_map.1 h
  have:=hfr q hq;omega
 have hmi:YE m p.id ref=m++[(p.id,ref)]:=by
  refine XH m p.id ref 0 ?_
  have:=U0.2 hnew
  rw [←Kg m p.id 0] at this
  simpa using this
 rw [Z6 hk]
 refine ⟨by rw [KW,if_neg hnew,hm.1];simp,fun q hq=>?_⟩
 rw [hmi] at hq
 rcases List.mem_append.1 hq with hq | hq
 ·
  obtain ⟨s',h1,h2⟩:=hm.2 q hq
  refine ⟨s',h1,h2.congr fun x=>?_⟩
  have hne:q.1≠p.id:=fun e=>hnew (by rw [←e];exact List.mem_map.2 ⟨q,hq,rfl⟩)
  rw [zgI (fun z hz=>by simp at hz;subst hz;exact fun e=>hne e.symm)]
 ·
  simp at hq;subst hq
  refine ⟨s,hb,hs.congr fun x=>?_⟩
  exact (zdG (fun z hz=>by cases hz)).symm
def zoc (sn:List (Int×Bool))(seen:List Nat)(x:Int):Bool:=seen.any fun i=>(sn[i]?.map (·.1))==some x
theorem zbs (sn:List (Int×Bool))(x:Int):zoc sn [] x=false:=rfl
theorem XY {sn:List (Int×Bool)}{seen:List Nat}{i:Nat}{p:Int×Bool}(hp:sn[i]? =some p)(x:Int):zoc sn (seen++[i]) x=(decide (p.1=x)||zoc sn seen x):=by
 unfold zoc
 rw [List.any_append,Bool.eq_iff_iff]
 simp [hp,or_comm]
theorem zb0 {sn:List (Int×Bool)}{A:Int→Bool}(h:zai sn A){seen:List Nat}(hall:∀ i p,sn[i]? =some p→i∈seen)(x:Int):zoc sn seen x=A x:=by
 rw [Bool.eq_iff_iff,h.key]
 unfold zoc
 rw [List.any_eq_true]
 constructor
 ·
  rintro ⟨i,_,hi⟩
  cases hx:sn[i]? with
  | none=>rw [hx] at hi;simp at hi
  | some p=>rw [hx] at hi;simp at hi;exact List.mem_map.2 ⟨p,List.mem_of_getElem? hx,hi⟩
 ·
  intro hx
  obtain ⟨p,hp,rfl⟩:=List.mem_map.1 hx
  obtain ⟨i,hi⟩:=List.getElem?_of_mem hp
  exact ⟨i,hall i p hi,by rw [hi];simp⟩
end
section
open Go Go.Kn Go.Proofs
theorem zcx {I:Qw}{av:Option Addr}{n c:Nat}{ps:List Pt}(hP:SlP I av n c ps)(hn:n≤100000)(hL:Lst ps)(hnd:∀ p∈ps,p.n≤100000):Z4 Tryz.prog 89 [.slice av n c] I [] (fun v I' L=>L=[]∧∃ r,v= .map (some r)∧OnM I' r ps):=by
 intro g H w hw
 refine qe Tryz.func89 Tryz.ntmps89 hw ?_
 have hIc:=zAl I
 refine zR (zA ?_)
 refine zN (zR ?_)
 refine ZU rfl rfl (fun r_10=>?_)
 refine zA (zN (Qk (zR ?_)))
 refine zM ?_
 refine zQ ZJ ?_
 refine zM (zN (Ql ?_))
 refine zU [(3,_),(11,_),(12,_)] (fun T L0 mz E I' loc'=>∃ (k:Nat) (m:List (Int×Nat)),mz=n-k∧E=(13,.int .i64 k)::T∧HLe I I'∧[(r_10,Z0 (Value.int .i64) zcK m)]=loc'∧k≤n∧OnL I' m (ps.take k)) ?_ (h:=⟨0,[],rfl,rfl,zAl _,rfl,Nat.zero_le _,OnL.nil⟩)
 rintro mz E J1 loc' ⟨k,m,rfl,rfl,hJ,rfl,hk,hm⟩
 have hP:=hP.mono hJ;have hIc:=hIc.trans hJ
 have hB0:=hJ
 refine zR (zC (zN (Qk ?_)))
 refine zI ?_ ?_<;>intro hc14
 ·
  have hlt_k:k<n:=by have h:=hc14;simp at h;omega
  have hP1:=hP.1
  obtain ⟨p,hp,hN⟩:=hP.at hlt_k
  have hpm:=List.mem_of_getElem? hp
  have hN:Sl J1 1 QP p.a p.n p.c p.needs:=hN
  have hpn:=hnd p hpm
  refine Qo (Qa (Qk (Ql (zR ?_))))
  refine zV (Qz rfl rfl ZJ (by assumption) (fun hg=>by omega)) ?_
  refine zV (Qq rfl YL (fun hg=>by exact zAm hP.1 hp) rfl) ?_
  refine Qv UD rfl rfl (fun b_5=>?_)
  refine zh JD ?_
  refine zN (zR ?_)
  refine ZU rfl rfl (fun r_17=>?_)
  refine zA (zN (Qk (zR ?_)))
  refine zF K9 ?_
  refine zL QJ ?_
  refine zQ Qt ?_
  refine zM (zN (Ql ?_))
  refine zU [(3,_),(5,_),(6,_),(11,_),(12,_),(13,_),(19,_),(20,_)] (fun T L0 mz E I' loc'=>∃ (j:Nat) (s:List (Int×Bool)),mz=p.n-j∧E=(21,.int .i64 j)::T∧J1=I'∧[(r_17,Z0 (Value.int .i64) Value.bool s),(b_5,.cells (YK p).toArray 57 (0,0)),(r_10,Z0 (Value.int .i64) zcK m)]=loc'∧j≤p.n∧zai s (fun x=>(p.needs.take j).any fun n=>n==x||onF (ps.take k) n x)) ?_ (h:=⟨0,[],rfl,rfl,rfl,rfl,Nat.zero_le _,zai.nil⟩)
  rintro mz E I' loc' ⟨j,s,rfl,rfl,rfl,rfl,hj,hs⟩
  refine zR (zC (zN (Qk ?_)))
  refine zI ?_ ?_<;>intro hc22
  ·
   have hlt_j:j<p.n:=by have h:=hc22;simp at h;omega
   obtain ⟨y,hy⟩:=hN.at hlt_j
   obtain ⟨ref,hget,sn,hsn,hsq⟩:=hm.get (hL.before hp (List.mem_of_getElem? hy))
   refine Qo (Qa (Qk (Ql (zR ?_))))
   refine zV (Qz rfl rfl Qt (by assumption) (fun hg=>by omega)) ?_
   refine zV (Qd rfl Qr (fun hg=>by exact zAe hN hy rfl)) ?_
   refine zA ?_
   refine zN (zR ?_)
   refine zM ?_
   refine zM ?_
   refine Zd (m:=s) (ek:=Value.int .i64) (ev:=Value.bool) (a:=y) true VO ZQ rfl rfl rfl rfl (by repeat (first | exact Upd.here | apply Upd.there | apply QM)) ?_
   refine zN (zR ?_)
   refine zM ?_
   refine zM ?_
   refine zV (YO (m:=m) (ek:=Value.int .i64) (ev:=zcK) (a:=y) hget KY ZQ rfl rfl (fun _=>.inr (by simp))) ?_
   refine JY (ek:=Value.int .i64) (ev:=Value.bool) (m:=sn) rfl VO rfl rfl (.inl hsn) (fun b_30=>?_)
   refine zN (Ql ?_)
   refine zU [(3,_),(5,_),(6,_),(11,_),(12,_),(13,_),(19,_),(20,_),(21,_),(30,_)] (fun T L0 mz E I' loc'=>∃ (seen:List Nat) (s:List (Int×Bool)),mz=sn.length-seen.length∧E=T∧J1=I'∧[(b_30,YV ref sn.length seen),(r_17,Z0 (Value.int .i64) Value.bool s),(b_5,.cells (YK p).toArray 57 (0,0)),(r_10,Z0 (Value.int .i64) zcK m)]=loc'∧zai s (fun x=>zoc sn seen x||(decide (y=x)||(p.needs.take j).any fun n=>n==x||onF (ps.take k) n x))∧seen.Nodup∧∀ i∈seen,i<sn.length) ?_ (h:=⟨[],_,rfl,rfl,rfl,rfl,(hs.put y).congr (fun x=>by rw [zbs,Bool.false_or]),.nil,fun i h=>by cases h⟩)
   rintro mz E I' loc' ⟨seen,s,rfl,rfl,rfl,rfl,hs,hnd2,hlt⟩
   have hsl:=JF hnd2 hlt
   refine zR ?_
   refine JS (ek:=Value.int .i64) (ev:=Value.bool) (m:=sn) (fun s'=>[(b_30,YV ref sn.length s'),(r_17,Z0 (Value.int .i64) Value.bool s),(b_5,.cells (YK p).toArray 57 (0,0)),(r_10,Z0 (Value.int .i64) zcK m)]) rfl (fun s'=>.here) rfl rfl rfl rfl rfl (.inl hsn) (by simp) ?_
   intro t tv s' hno hyes
   refine zN (Qk ?_)
   refine zI ?_ ?_<;>intro hc32
   ·
    obtain ⟨i,q,hq,hns,rfl⟩:=hyes hc32
    refine Qo (Qa (Ql (zR ?_)))
    refine zV (JW (ek:=Value.int .i64) (ev:=Value.bool) (m:=sn) (p:=q) (seen:=seen) (i:=i) rfl (.inl hsn) (.inr (by simp)) hq) ?_
    refine zE ?_
    refine zA (zN (Qf ?_))
    refine zM ?_
    refine zM ?_
    refine Zd (m:=s) (ek:=Value.int .i64) (ev:=Value.bool) (a:=q.1) true VO ZQ rfl rfl rfl rfl (by repeat (first | exact Upd.here | apply Upd.there | apply QM)) ?_
    refine Qc (Qg ?_)
    have hnd3:(seen++[i]).Nodup:=List.nodup_append.2 ⟨hnd2,by simp,fun a ha b hb e=>hns (by simp at hb;subst hb;subst e;exact ha)⟩
    have hlt3:∀ j∈seen++[i],j<sn.length:=fun j hj=>(List.mem_append.1 hj).elim (hlt j) (fun h=>by simp at h;subst h;exact (List.getElem?_eq_some_iff.1 hq).1)
    have hsl2:=JF hnd3 hlt3
    rw [List.length_append,List.length_singleton] at hsl2
    exact zm (h:=⟨sn.length-(seen++[i]).length,by rw [List.length_append,List.length_singleton];omega,seen++[i],_,rfl,rfl,rfl,rfl,(hs.put q.1).congr (fun x=>by rw [XY hq,Bool.or_assoc]),hnd3,hlt3⟩)
   obtain ⟨rfl,hall⟩:=hno hc32
   refine QH (Qe (Qe (Qj (Qg (Qa (Qf (zB ?_)))))))
   refine zM (Qc ?_)
   exact zm (h:=⟨p.n-(j+1),by omega,j+1,_,rfl,rfl,rfl,rfl,by omega,hs.congr (fun x=>by rw [XR hy,zb0 hsq hall x];rw [Bool.eq_iff_iff];simp;grind)⟩)
  have hge_j:p.n≤j:=by have h:=hc22;simp at h;omega
  refine QH (Qe (Qe (Qj (Qa ?_))))
  refine Zn .here (fun I4 hI4 hb4=>?_)
  have hm:=hm.mono hI4;have hB0:=hB0.trans hI4
  have hbx:=hb4
  refine Qf (zM ?_)
  refine zF ZF ?_
  refine zL Qr ?_
  refine zM ?_
  refine Zd (m:=m) (ek:=Value.int .i64) (ev:=zcK) (a:=p.id) r_17 KY ZQ rfl rfl rfl rfl (by repeat (first | exact Upd.here | apply Upd.there | apply QM)) ?_
  refine Qc (Qg (Qa (Qf (zB ?_))))
  refine zM (Qc ?_)
  exact zm (h:=⟨n-(k+1),by omega,k+1,_,rfl,rfl,hB0,rfl,by omega,OnL.step hL hp hm hbx (by rw [Zo hN.len hge_j] at hs;exact hs)⟩)
 have hge_k:n≤k:=by have h:=hc14;simp at h;omega
 rw [Zo hP.len hge_k] at hm
 refine QH (Qe (Qe (Qj (Qa (zR (zM ?_))))))
 refine zA (zN (Qs ?_))
 exact Zq rfl rfl (fun w hw=>by obtain ⟨I9,h91,h92,h93⟩:=hw.freezeAll;exact ⟨_,I9,[],rfl,hIc.trans h91,h92,rfl,r_10,rfl,m,h93 _ _ (by simp),hm.mono h91⟩)
end
section
open Go Go.Kn Go.Proofs
theorem zp9 (x:Sg):(WM [x]==0)=frm x:=by
 unfold WM skB skP
 cases h:frm x<;>simp [h]
theorem zgw (a b c d x y:Bool):(((((a&&b)&&c)&&d)&&x)&&y)=(((a&&b)&&(c&&d))&&(x&&y)):=by simp only [Bool.and_assoc]
theorem zpF (a b c d x y z:Bool):((((((a&&b)&&c)&&d)&&x)&&y)&&z)=(((a&&b)&&(c&&d))&&(x&&(y&&z))):=by simp only [Bool.and_assoc]
theorem zoX (I:Qw)(x:Sg):Zu Tryz.prog 147 [J0 x] I (.bool (frm x)):=by
 intro g H w hw
 refine qe Tryz.func147 Tryz.ntmps147 hw ?_
 have hIc:=zAl I
 refine zR ?_
 refine Q9 rfl rfl rfl (fun b_1=>?_)
 refine zA ?_
 refine zN (zR ?_)
 refine zV (Qq rfl ZI (fun hg=>by exact Cells.g0) rfl) ?_
 refine Qp (ps:=[(0,_)]) (m:=[Vy x]) Uw rfl (.cons rfl (.nil)) rfl (by simp [Z8]) (by decide) (by decide) rfl rfl (fun b_4=>?_)
 refine Z1 .here (fun I1 hI1 hb1=>?_)
 have hIc:=hIc.trans hI1
 have hS:=Sl.lit [x] rfl Z8 (show _=some (Obj.cells (([x]:List Sg).flatMap Vy).toArray 54 (0,0)) from hb1)
 refine qc (vs:=[_]) rfl ze4 (zfE hS (by decide)) ?_
 refine zC ?_
 refine zA (zN (Qs ?_))
 exact zp hIc rfl rfl (by rw [zp9])
theorem zwX {I:Qw}(p:Pt)(hN:Nd I p):Zu Tryz.prog 86 [WW p] I (.int .i64 (Km p)):=by
 intro g H w hw
 refine qe Tryz.func86 Tryz.ntmps86 hw ?_
 have hN:Sl I 1 QP p.a p.n p.c p.needs:=hN
 refine zR ?_
 refine Q9 rfl rfl rfl (fun b_1=>?_)
 refine zA (zN (Qk (zR ?_)))
 refine zF K9 ?_
 refine zL QJ ?_
 refine zQ Qt ?_
 refine zC (zN ?_)
 refine zI ?_ ?_<;>intro hc11
 ·
  have hlen:p.needs.length>32:=by rw [hN.len];simp at hc11;omega
  refine zR (zA (zN (Qs (Qb ?_))))
  exact zr rfl rfl (by rw [zxc hlen])
 have hlen:¬p.needs.length>32:=by rw [hN.len];simp at hc11;omega
 have hpn:p.n≤100000:=by have:=hN.len;omega
 refine Qo (Qa (zR (zA (zN (Qk (zR ?_))))))
 refine zF K9 ?_
 refine zL QJ ?_
 refine zQ Qt ?_
 refine zM (zN (Ql ?_))
 refine zU [(1,_),(13,_),(14,_)] (fun T L0 mz E I' loc'=>∃ (k:Nat) (l:Int),mz=p.n-k∧E=(3,.int .i64 l)::(15,.int .i64 k)::T∧I=I'∧L0=loc'∧k≤p.n∧(List.range k).all (ndP p.id p.needs)=true∧zhJ p.needs k l) ?_ (h:=⟨0,0,rfl,rfl,rfl,rfl,Nat.zero_le _,rfl,⟨fun _=>rfl,fun y hy h=>absurd rfl h⟩⟩)
 rintro mz E I' loc' ⟨k,l,rfl,rfl,rfl,rfl,hk,hall,hl⟩
 refine zR (zC (zN (Qk ?_)))
 refine zI ?_ ?_<;>intro hc16
 ·
  have hlt_k:k<p.n:=by have h:=hc16;simp at h;omega
  obtain ⟨x,hx⟩:=hN.at hlt_k
  refine Qo (Qa (Qk (Ql (zR ?_))))
  refine zV (Qz rfl rfl Qt (by assumption) (fun hg=>by omega)) ?_
  refine zV (Qd rfl Qr (fun hg=>by exact zAe hN hx rfl)) ?_
  refine zA (zN (Qk (zR ?_)))
  refine zM ?_
  refine zM ?_
  refine zC ?_
  refine zM ?_
  refine QV 3 rfl rfl rfl ?_
  refine zJ (Qh rfl) ?_
  refine zJ (Qi rfl ZF) ?_
  refine zJ (Qd rfl Qr (fun hg=>by exact QY.h0 rfl)) ?_
  refine zJ (QI rfl rfl rfl) ?_
  refine Zs rfl rfl rfl rfl rfl ?_
  refine zN ?_
  refine zI ?_ ?_<;>intro hc27
  ·
   have hnd:ndB p.id p.needs=false:=by unfold ndB;exact JB (k:=k) (by rw [hN.len];exact hlt_k) (by rw [zvC hall hl hx,hc27];rfl)
   refine zR (zA (zN (Qs (Qb (Qm (Qb (Qb ?_)))))))
   refine Qm (Qb ?_)
   exact zr rfl rfl (by rw [zw8 hlen hnd])
  refine Qo (Qa (Qf (zM ?_)))
  refine zA (Qc (Qg (Qa (Qf ?_))))
  refine zB ?_
  refine zM (Qc ?_)
  exact zm (h:=⟨p.n-(k+1),by omega,k+1,_,rfl,rfl,rfl,rfl,by omega,VP hall (by rw [zvC hall hl hx,hc27];rfl),zbi hx⟩)
 have hge_k:p.n≤k:=by have h:=hc16;simp at h;omega
 have hnd:ndB p.id p.needs=true:=by unfold ndB;rw [hN.len,show p.n=k by omega];exact hall
 refine QH (Qe (Qe (Qj (Qa (zR ?_)))))
 refine zF ZF ?_
 refine zL Qr ?_
 refine zC ?_
 refine zM ?_
 refine QG 3 rfl rfl rfl ?_
 refine zK (Qi rfl ZF) ?_
 refine zK (Qd rfl Qr (fun hg=>by exact QY.h0 rfl)) ?_
 refine zK (QI rfl rfl rfl) ?_
 refine QL rfl rfl rfl rfl rfl ?_
 refine zM ?_
 refine QG 8 rfl rfl rfl ?_
 refine zK (Qi rfl Yf) ?_
 refine zK (Qd rfl Qr (fun hg=>by exact QY.h0 rfl)) ?_
 refine zK (QI rfl rfl rfl) ?_
 refine QL rfl rfl rfl rfl rfl ?_
 refine zM ?_
 refine QG 13 rfl rfl rfl ?_
 refine zK (Qi rfl Yf) ?_
 refine zK (Qd rfl Qr (fun hg=>by exact QY.h0 rfl)) ?_
 refine zK (QI rfl rfl rfl) ?_
 refine QL rfl rfl rfl rfl rfl ?_
 refine zA (zN (Qk (zR ?_)))
 refine zF Ue ?_
 refine zL Qr ?_
 refine zN (Ql (zR (zC ?_)))
 refine zA (zN ?_)
 refine zI ?_ ?_<;>intro hc50
 ·
  have hk:p.kind=1:=by simpa using hc50
  refine Qk (zR ?_)
  refine zF JT ?_
  refine zL Qr ?_
  refine zC ?_
  refine zM ?_
  refine QV 3 rfl rfl rfl ?_
  refine zJ (Qi rfl JT) ?_
  refine zJ (Qd rfl Qr (fun hg=>by exact QY.h0 rfl)) ?_
  refine zJ (QI rfl rfl rfl) ?_
  refine Zs rfl rfl rfl rfl rfl ?_
  refine zN ?_
  refine zI ?_ ?_<;>intro hc59
  ·
   have hb:(idB p&&UQ p)=false:=zwc hk (by unfold ZO;simp at hc59 ⊢;omega)
   refine zR (zA (zN (Qs (Qb (Qm (Qb ?_))))))
   exact zr rfl rfl (by rw [zcY hlen hnd hb])
  have hf:isF p.field:=by have h:=hc59;unfold isF;simp at h;omega
  have hw1:ZO p.field 1 9=true:=by have h:=hc59;unfold ZO;simp at h ⊢;omega
  refine Qo (Qa (zR ?_))
  refine zV (QQ (ps:=[(1,_)]) [_,_] zgQ rfl rfl) ?_
  refine zV (QQ (ps:=[(0,_),(1,_)]) [_,_] zgQ rfl rfl) ?_
  refine zV (QQ (ps:=[(3,_),(4,_),(10,_),(11,_)]) [_,_,_,_,_,_,_,_,_,_,_,_,_,_] KA rfl rfl) ?_
  refine Qv Wg rfl rfl (fun b_7=>?_)
  refine zh Y5 ?_
  refine zN (Qf (zM ?_))
  refine zM ?_
  refine QG 1 rfl rfl rfl ?_
  refine zK (Qi rfl Jt) ?_
  refine zK (Qq rfl ZI (fun hg=>by exact Cells.s1 (vs:=[_,_,_,_,_,_,_,_,_,_,_,_,_,_]) rfl) rfl) ?_
  refine zK (Qi rfl JT) ?_
  refine zK (Qd rfl Qr (fun hg=>by exact QY.h1 rfl)) ?_
  refine zK (QQ (ps:=[]) [_,_,_,_,_,_,_,_,_,_,_,_,_,_] KA rfl rfl) ?_
  refine qg (vs:=[_,_,_]) rfl zjo (fun hg=>zus I p.nw p.field Vw hf) ?_
  refine zK (QQ (ps:=[]) [_,_,_,_,_,_,_,_,_,_,_,_,_,_] KA rfl rfl) ?_
  refine zK (zek rfl rfl zaq rfl) ?_
  refine QL rfl rfl rfl rfl rfl ?_
  refine zM ?_
  refine QG 11 rfl rfl rfl ?_
  refine zK (Qq rfl ZI (fun hg=>by exact Cells.g0) rfl) ?_
  refine zK (Qi rfl JT) ?_
  refine zK (Qd rfl Qr (fun hg=>by exact QY.h1 rfl)) ?_
  refine zK (Qi rfl Jt) ?_
  refine zK (Qq rfl ZI (fun hg=>by exact Cells.s1 (vs:=[_,_,_,_,_,_,_,_,_,_,_,_,_,_]) rfl) rfl) ?_
  refine qg (vs:=[_,_,_]) rfl zjo (fun hg=>zus I zgm p.field p.nw hf) ?_
  refine qg (vs:=[_]) rfl ziH (fun hg=>zoX I _) ?_
  refine QL rfl rfl rfl rfl rfl ?_
  refine zA (Qc (Qg (Qa (Qk (zR ?_)))))
  refine zM ?_
  refine zO (zN ?_)
  refine zI ?_ ?_<;>intro hc119
  ·
   have hb:(idB p&&UQ p)=false:=by (exact (show (idB p&&UQ p)=false from by rw [zwB hk hw1];exact (zgw _ _ _ _ _ _).symm.trans ((Bool.not_eq_true' _).mp hc119)))
   refine zR (zA (zN (Qs (Qb ?_))))
   exact zr rfl rfl (by rw [zcY hlen hnd hb])
  have hb:(idB p&&UQ p)=true:=by (exact (show (idB p&&UQ p)=true from by rw [zwB hk hw1];exact (zgw _ _ _ _ _ _).symm.trans ((Bool.not_eq_false' _).mp hc119)))
  refine Qo (Qa (zR (zA (zN (Qs ?_)))))
  exact zr rfl rfl (by rw [zgD hlen hnd hb])
 have hk1:p.kind≠1:=by simpa using hc50
 refine zR (zC ?_)
 refine zA (zN ?_)
 refine zI ?_ ?_<;>intro hc83
 ·
  have hk:p.kind=2:=by simpa using hc83
  refine Qf (zM ?_)
  refine zM ?_
  refine QG 1 rfl rfl rfl ?_
  refine zK (Qi rfl JT) ?_
  refine zK (Qd rfl Qr (fun hg=>by exact QY.h0 rfl)) ?_
  refine zK (QI rfl rfl rfl) ?_
  refine QL rfl rfl rfl rfl rfl ?_
  refine zM ?_
  refine QG 6 rfl rfl rfl ?_
  refine zK (Qi rfl Jt) ?_
  refine zK (Qi rfl Z9) ?_
  refine zK (Qd rfl Qr (fun hg=>by exact QY.h0 rfl)) ?_
  refine zK (Qi rfl Yf) ?_
  refine zK (Qd rfl Qr (fun hg=>by exact QY.h0 rfl)) ?_
  refine zK (QI rfl rfl rfl) ?_
  refine QL rfl rfl rfl rfl rfl ?_
  refine zM ?_
  refine QG 14 rfl rfl rfl ?_
  refine zK (Qi rfl Jt) ?_
  refine zK (Qq rfl ZI (fun hg=>by exact Cells.s0 (vs:=[_,_,_,_,_,_,_,_,_,_,_,_,_,_]) rfl) rfl) ?_
  refine qg (vs:=[_]) rfl ziH (fun hg=>zoX I _) ?_
  refine QL rfl rfl rfl rfl rfl ?_
  refine zA (Qc (Qg (Qa (Qk (zR ?_)))))
  refine zM ?_
  refine zO (zN ?_)
  refine zI ?_ ?_<;>intro hc119
  ·
   have hb:(idB p&&UQ p)=false:=by (exact (show (idB p&&UQ p)=false from by rw [zwr hk];exact (zpF _ _ _ _ _ _ _).symm.trans ((Bool.not_eq_true' _).mp hc119)))
   refine zR (zA (zN (Qs (Qb ?_))))
   exact zr rfl rfl (by rw [zcY hlen hnd hb])
  have hb:(idB p&&UQ p)=true:=by (exact (show (idB p&&UQ p)=true from by rw [zwr hk];exact (zpF _ _ _ _ _ _ _).symm.trans ((Bool.not_eq_false' _).mp hc119)))
  refine Qo (Qa (zR (zA (zN (Qs ?_)))))
  exact zr rfl rfl (by rw [zgD hlen hnd hb])
 have hk2:p.kind≠2:=by simpa using hc83
 refine zR (zC ?_)
 refine zA (zN ?_)
 refine zI ?_ ?_<;>intro hc104
 ·
  have hk:p.kind=3:=by simpa using hc104
  refine Qf (zM ?_)
  refine zM ?_
  refine QG 1 rfl rfl rfl ?_
  refine zK (Qi rfl JT) ?_
  refine zK (Qd rfl Qr (fun hg=>by exact QY.h0 rfl)) ?_
  refine zK (QI rfl rfl rfl) ?_
  refine QL rfl rfl rfl rfl rfl ?_
  refine zM ?_
  refine QG 6 rfl rfl rfl ?_
  refine zK (Qi rfl Jt) ?_
  refine zK (Qq rfl ZI (fun hg=>by exact Cells.s0 (vs:=[_,_,_,_,_,_,_,_,_,_,_,_,_,_]) rfl) rfl) ?_
  refine zK (QQ (ps:=[]) [_,_,_,_,_,_,_,_,_,_,_,_,_,_] KA rfl rfl) ?_
  refine zK (zek rfl rfl zaq rfl) ?_
  refine QL rfl rfl rfl rfl rfl ?_
  refine zA (Qc (Qg (Qa (Qk (zR ?_)))))
  refine zM ?_
  refine zO (zN ?_)
  refine zI ?_ ?_<;>intro hc119
  ·
   have hb:(idB p&&UQ p)=false:=by (exact (show (idB p&&UQ p)=false from by rw [zv1 hk];exact (zgw _ _ _ _ _ _).symm.trans ((Bool.not_eq_true' _).mp hc119)))
   refine zR (zA (zN (Qs (Qb ?_))))
   exact zr rfl rfl (by rw [zcY hlen hnd hb])
  have hb:(idB p&&UQ p)=true:=by (exact (show (idB p&&UQ p)=true from by rw [zv1 hk];exact (zgw _ _ _ _ _ _).symm.trans ((Bool.not_eq_false' _).mp hc119)))
  refine Qo (Qa (zR (zA (zN (Qs ?_)))))
  exact zr rfl rfl (by rw [zgD hlen hnd hb])
 have hk3:p.kind≠3:=by simpa using hc104
 refine Qf (zA (Qc (Qg (Qa (Qk (zR ?_))))))
 refine zM ?_
 refine zO (zN ?_)
 refine zI ?_ ?_<;>intro hc119
 ·
  have hb:(idB p&&UQ p)=false:=by exact zyz hk1 hk2 hk3
  refine zR (zA (zN (Qs (Qb ?_))))
  exact zr rfl rfl (by rw [zcY hlen hnd hb])
 have hb:(idB p&&UQ p)=true:=by (exfalso;have h:=hc119;simp at h)
 refine Qo (Qa (zR (zA (zN (Qs ?_)))))
 exact zr rfl rfl (by rw [zgD hlen hnd hb])
theorem zzm {I:Qw}{av:Option Addr}{n c:Nat}{xs:List Int}(hS:Sl I 1 QP av n c xs)(hn:n≤100000){fid:Nat}{cap:List Value}{P:Int→Bool}(hF:Fun Tryz.prog fid)(hf:∀ x∈xs,Zu Tryz.prog fid ([.int .i64 x]++cap) I (.bool (P x))):Zu Tryz.prog 148 [.slice av n c,.func (.func fid) #[] cap.toArray] I (.int .i64 (Ur P xs)):=by
 intro g H w hw
 refine qe Tryz.func148 Tryz.ntmps148 hw ?_
 have hS:=hS
 refine zR (zA (zN (Qk (zR ?_))))
 refine zM ?_
 refine zQ Qt ?_
 refine zM (zN (Ql ?_))
 refine zU [(0,_),(1,_),(7,_)] (fun T L0 mz E I' loc'=>∃ (k:Nat),mz=n-k∧E=(8,.int .i64 k)::T∧I=I'∧L0=loc'∧k≤n∧(xs.take k).any P=false) ?_ (h:=⟨0,rfl,rfl,rfl,rfl,Nat.zero_le _,rfl⟩)
 rintro mz E I' loc' ⟨k,rfl,rfl,rfl,rfl,hk,hno⟩
 refine zR (zC (zN (Qk ?_)))
 refine zI ?_ ?_<;>intro hc9
 ·
  have hlt_k:k<n:=by have h:=hc9;simp at h;omega
  obtain ⟨x,hx⟩:=hS.at hlt_k
  refine Qo (Qa (Qk (Ql (zR (zM ?_)))))
  refine zA ?_
  refine zN (zR ?_)
  refine zM ?_
  refine zM ?_
  refine zM ?_
  refine zV (Qz rfl rfl Qt (by assumption) (fun hg=>by omega)) ?_
  refine zV (Qd rfl Qr (fun hg=>by exact zAe hS hx rfl)) ?_
  refine Y0 (cap:=cap) (vs:=[_]) rfl rfl hF (hf x (List.mem_of_getElem? hx)) rfl rfl ?_
  refine zN ?_
  refine zI ?_ ?_<;>intro hc16
  ·
   refine zR (zM ?_)
   refine zA (zN (Qs (Qm (Qb (Qb (Qm (Qb ?_)))))))
   exact zr rfl rfl (by rw [JJ hno hx hc16])
  refine Qo (Qg (Qa (Qf (zB ?_))))
  refine zM (Qc ?_)
  exact zm (h:=⟨n-(k+1),by omega,k+1,rfl,rfl,rfl,rfl,by omega,Ym hx hno hc16⟩)
 have hge_k:n≤k:=by have h:=hc9;simp at h;omega
 refine QH (Qe (Qe (Qj (Qa (zR (zA (zN ?_)))))))
 refine Qs ?_
 exact zr rfl rfl (by rw [VT hS.len hge_k hno])
theorem zvq {I:Qw}{av:Option Addr}{n c:Nat}{xs:List Int}(hS:Sl I 1 QP av n c xs)(hn:n≤100000){fid:Nat}{cap:List Value}{P:Int→Bool}(hF:Fun Tryz.prog fid)(hf:∀ x∈xs,Zu Tryz.prog fid ([.int .i64 x]++cap) I (.bool (P x))):Zu Tryz.prog 87 [.slice av n c,.func (.func fid) #[] cap.toArray] I (.bool (xs.any P)):=by
 intro g H w hw
 refine qe Tryz.func87 Tryz.ntmps87 hw ?_
 refine zR (zA ?_)
 refine zN (zR ?_)
 refine zM ?_
 refine zM ?_
 refine qc (vs:=[_,_]) rfl zi5 (zzm hS hn hF hf) ?_
 refine zC ?_
 refine zA (zN (Qs ?_))
 exact zr rfl rfl (by rw [←KH])
theorem zuV {I:Qw}{av:Option Addr}{n c:Nat}{ps:List Pt}(hP:SlP I av n c ps)(hn:n≤100000){fid:Nat}{cap:List Value}{P:Pt→Bool}(hF:Fun Tryz.prog fid)(hf:∀ x∈ps,Zu Tryz.prog fid ([WW x]++cap) I (.bool (P x))):Zu Tryz.prog 169 [.slice av n c,.func (.func fid) #[] cap.toArray] I (.int .i64 (Ur P ps)):=by
 intro g H w hw
 refine qe Tryz.func169 Tryz.ntmps169 hw ?_
 have hS:=hP.1
 refine zR (zA (zN (Qk (zR ?_))))
 refine zM ?_
 refine zQ ZJ ?_
 refine zM (zN (Ql ?_))
 refine zU [(0,_),(1,_),(7,_)] (fun T L0 mz E I' loc'=>∃ (k:Nat),mz=n-k∧E=(8,.int .i64 k)::T∧I=I'∧L0=loc'∧k≤n∧(ps.take k).any P=false) ?_ (h:=⟨0,rfl,rfl,rfl,rfl,Nat.zero_le _,rfl⟩)
 rintro mz E I' loc' ⟨k,rfl,rfl,rfl,rfl,hk,hno⟩
 refine zR (zC (zN (Qk ?_)))
 refine zI ?_ ?_<;>intro hc9
 ·
  have hlt_k:k<n:=by have h:=hc9;simp at h;omega
  obtain ⟨x,hx⟩:=hS.at hlt_k
  refine Qo (Qa (Qk (Ql (zR (zM ?_)))))
  refine zA ?_
  refine zN (zR ?_)
  refine zM ?_
  refine zM ?_
  refine zM ?_
  refine zV (Qz rfl rfl ZJ (by assumption) (fun hg=>by omega)) ?_
  refine zV (Qq rfl YL (fun hg=>by exact zAm hS hx) rfl) ?_
  refine Y0 (cap:=cap) (vs:=[_]) rfl rfl hF (hf x (List.mem_of_getElem? hx)) rfl rfl ?_
  refine zN ?_
  refine zI ?_ ?_<;>intro hc16
  ·
   refine zR (zM ?_)
   refine zA (zN (Qs (Qm (Qb (Qb (Qm (Qb ?_)))))))
   exact zr rfl rfl (by rw [JJ hno hx hc16])
  refine Qo (Qg (Qa (Qf (zB ?_))))
  refine zM (Qc ?_)
  exact zm (h:=⟨n-(k+1),by omega,k+1,rfl,rfl,rfl,rfl,by omega,Ym hx hno hc16⟩)
 have hge_k:n≤k:=by have h:=hc9;simp at h;omega
 refine QH (Qe (Qe (Qj (Qa (zR (zA (zN ?_)))))))
 refine Qs ?_
 exact zr rfl rfl (by rw [VT hS.len hge_k hno])
theorem zuN {I:Qw}{av:Option Addr}{n c:Nat}{ps:List Pt}(hP:SlP I av n c ps)(hn:n≤100000){fid:Nat}{cap:List Value}{P:Pt→Bool}(hF:Fun Tryz.prog fid)(hf:∀ x∈ps,Zu Tryz.prog fid ([WW x]++cap) I (.bool (P x))):Zu Tryz.prog 116 [.slice av n c,.func (.func fid) #[] cap.toArray] I (.bool (ps.any P)):=by
 intro g H w hw
 refine qe Tryz.func116 Tryz.ntmps116 hw ?_
 refine zR (zA ?_)
 refine zN (zR ?_)
 refine zM ?_
 refine zM ?_
 refine qc (vs:=[_,_]) rfl zet (zuV hP hn hF hf) ?_
 refine zC ?_
 refine zA (zN (Qs ?_))
 exact zr rfl rfl (by rw [←KH])
theorem zzl {I:Qw}{b r:Nat}{s:List (Int×Bool)}(hb:I b=some (.cells #[.map (some r)] 167 (0,0)))(hr:I r=some (Z0 (Value.int .i64) Value.bool s))(x:Int):Zu Tryz.prog 88 [.int .i64 x,.pointer (some ⟨b,0,none⟩)] I (.bool (!zgG s x)):=by
 intro g H w hw
 refine qe Tryz.func88 Tryz.ntmps88 hw ?_
 refine zR (zA ?_)
 refine zN (zR ?_)
 refine zV (Qd rfl zkK (fun hg=>by exact .imm hb rfl)) ?_
 refine zM ?_
 refine zV (Yt VO ZQ rfl rfl (fun _=>.inl hr)) ?_
 refine zO ?_
 refine zA (zN (Qs ?_))
 exact zr rfl rfl (by rfl)
end
section
open Go Go.Kn Go.Proofs
def zp2 (ps:List Pt):List Int:=ps.map (·.id)
def lsQ (ps:List Pt)(i:Nat):Bool:= !((decide ((i:Int)>0)&&decide ((ps.getD i Xx).id≤(ps.getD ((i:Int)-1).toNat Xx).id))||(ps.getD i Xx).needs.any (fun n=> !zaR (ps.take i) n))
theorem zpQ {ps:List Pt}{k:Nat}{p:Pt}{l:Int}{s:List (Int×Bool)}(hp:ps[k]? =some p)(h1:1≤p.id)(hl:zhJ (zp2 ps) k l)(hs:∀ x,zgG s x=zaR (ps.take k) x):lsQ ps k= !(decide (p.id≤l)||p.needs.any fun x=> !zgG s x):=by
 unfold lsQ
 rw [QN hp]
 simp only [hs]
 congr 2
 cases k with
 | zero=>
  rw [hl.1 rfl,Bool.eq_iff_iff];simp;omega
 | succ k=>
  have hk:=(List.getElem?_eq_some_iff.1 hp).1
  have hy:ps[k]? =some (ps[k]'(by omega)):=List.getElem?_eq_getElem _
  have e:=hl.2 (ps[k]'(by omega)).id (by rw [Nat.add_sub_cancel];simp [zp2,hy]) (by omega)
  rw [show (((k+1:Nat):Int)-1).toNat=k by omega,QN hy,←e,Bool.eq_iff_iff];simp
theorem zhG {ps:List Pt}{k:Nat}{p:Pt}(hp:ps[k]? =some p):zhJ (zp2 ps) (k+1) p.id:=zbi (by simp [zp2,hp])
theorem zlT {ps:List Pt}{k:Nat}{p:Pt}(hp:ps[k]? =some p)(x:Int):zaR (ps.take (k+1)) x=(decide (p.id=x)||zaR (ps.take k) x):=by
 unfold zaR
 rw [Z6 hp,List.any_append,Bool.eq_iff_iff]
 simp [or_comm]
theorem zmd {ps:List Pt}{k:Nat}{n:Int}(h:zaR (ps.take k) n=true):zaR ps n=true:=by
 obtain ⟨q,hq,e⟩:=Jf.1 h
 exact Jf.2 ⟨q,List.mem_of_mem_take hq,e⟩
theorem zi8 {ps:List Pt}(h0:orF (ps.map Km)=0):(List.range ps.length).all (lsQ ps)=lsB ps:=by
 rw [Bool.eq_iff_iff]
 constructor
 ·
  intro h
  unfold lsB
  rw [List.all_eq_true] at h ⊢
  intro i hi
  have:=h i hi
  unfold lsQ at this
  unfold lsP
  simp only [Bool.not_eq_true',Bool.or_eq_false_iff] at this ⊢
  refine ⟨this.1,?_⟩
  have h2:=this.2
  rw [List.any_eq_false] at h2 ⊢
  intro n hn hc
  refine h2 n hn ?_
  rw [Bool.not_eq_true'] at hc ⊢
  cases hh:zaR (ps.take i) n with
  | false=>rfl
  | true=>rw [zmd hh] at hc;cases hc
 ·
  intro h
  have hL:=zkE h0 h
  unfold lsB at h
  rw [List.all_eq_true] at h ⊢
  intro i hi
  have:=h i hi
  unfold lsP at this
  unfold lsQ
  simp only [Bool.not_eq_true',Bool.or_eq_false_iff] at this ⊢
  refine ⟨this.1,?_⟩
  rw [List.any_eq_false]
  intro n hn hc
  have hk:ps[i]? =some (ps.getD i Xx):=QX rfl (List.mem_range.1 hi)
  obtain ⟨q,hq,e⟩:=hL.before hk hn
  rw [Jf.2 ⟨q,hq,e⟩] at hc
  cases hc
/-! ### Inserts and removes of a sign -/
def Js (k:Int)(ps:List Pt)(s:Int):List Int:=(ps.filter fun q=>q.kind==k&&q.sign==s).map (·.id)
theorem Uk {c:Int}{ps:List Pt}{k:Nat}{p:Pt}(hp:ps[k]? =some p)(s:Int):Js c (ps.take (k+1)) s=Js c (ps.take k) s++(if p.kind=c∧p.sign=s then [p.id] else []):=by
 unfold Js
 rw [Z6 hp,List.filter_append,List.map_append]
 congr 1
 by_cases h:p.kind=c∧p.sign=s
 ·
  rw [if_pos h];simp [h.1,h.2]
 ·
  rw [if_neg h]
  have:(p.kind==c&&p.sign==s)=false:=by
   rw [Bool.eq_false_iff];intro hc;simp at hc;exact h hc
  simp [this]
theorem UZ {c:Int}{ps:List Pt}{s x:Int}:x∈Js c ps s↔ ∃ q∈ps,q.kind=c∧q.sign=s∧q.id=x:=by
 unfold Js
 rw [zea]
 simp [and_assoc]
def zhi (mi:List (Int×Int))(ps:List Pt):Prop:=∀ s,Js 2 ps s=(ZH mi s).toList
theorem zhi.nil {ps:List Pt}:zhi [] (ps.take 0):=fun s=>by simp [Js,ZH]
theorem zhi.put {mi:List (Int×Int)}{ps:List Pt}{k:Nat}{p:Pt}(h:zhi mi (ps.take k))(hp:ps[k]? =some p)(hk:p.kind=2)(hn:ZH mi p.sign=none):zhi (YE mi p.sign p.id) (ps.take (k+1)):=fun s=>by
 rw [Uk hp,h s,YI]
 by_cases e:p.sign=s
 ·
  subst e;rw [if_pos ⟨hk,rfl⟩,if_pos rfl,hn];rfl
 ·
  rw [if_neg (fun q=>e q.2),if_neg e,List.append_nil]
theorem zhi.skip {mi:List (Int×Int)}{ps:List Pt}{k:Nat}{p:Pt}(h:zhi mi (ps.take k))(hp:ps[k]? =some p)(hk:p.kind≠2):zhi mi (ps.take (k+1)):=fun s=>by
 rw [Uk hp,h s,if_neg (fun q=>hk q.1),List.append_nil]
def Xm (mr:List (Int×(Value×Nat×List Value)))(ps:List Pt):Prop:=∀ s,((ZH mr s).getD JA).2.2=(Js 3 ps s).flatMap QP
theorem Xm.nil {ps:List Pt}:Xm [] (ps.take 0):=fun s=>by simp [Js,ZH,JA]
theorem Xm.put {mr:List (Int×(Value×Nat×List Value))}{ps:List Pt}{k n:Nat}{p:Pt}{v:Value}(h:Xm mr (ps.take k))(hp:ps[k]? =some p)(hk:p.kind=3):Xm (YE mr p.sign (v,n,((ZH mr p.sign).getD JA).2.2++[p.id].flatMap QP)) (ps.take (k+1)):=fun s=>by
 rw [Uk hp,YI]
 by_cases e:p.sign=s
 ·
  subst e;rw [if_pos rfl,if_pos ⟨hk,rfl⟩,List.flatMap_append,←h];rfl
 ·
  rw [if_neg e,if_neg (fun q=>e q.2),List.append_nil,h s]
theorem Xm.skip {mr:List (Int×(Value×Nat×List Value))}{ps:List Pt}{k:Nat}{p:Pt}(h:Xm mr (ps.take k))(hp:ps[k]? =some p)(hk:p.kind≠3):Xm mr (ps.take (k+1)):=fun s=>by
 rw [Uk hp,h s,if_neg (fun q=>hk q.1),List.append_nil]
theorem zau {c:Int}{ps:List Pt}{s:Int}:(Js c ps s).length≤ps.length:=by
 unfold Js
 rw [List.length_map]
 exact List.length_filter_le _ _
theorem zps {I:Qw}{e:Nat}{mr:List (Int×(Value×Nat×List Value))}{ps:List Pt}{L:Go.Kn.Loc}(h:Xm mr ps)(hA:VH e 1 (mr.map (·.2)) L)(hI:∀ b o,(b,o)∈L→I b=some o)(s:Int):
  ∃ av c,((ZH mr s).getD JA).1= .slice av (Js 3 ps s).length c∧Sl I 1 QP av (Js 3 ps s).length c (Js 3 ps s):=by
 obtain ⟨A,Lt,B,rfl,hO,_⟩:=hA.at s
 rw [h s] at hO
 obtain ⟨av,c,e1,e2⟩:=hO.sl Qu (by decide) (fun b o hb=>hI b o (by simp [hb]))
 have hn:=e2.len
 rw [←hn] at e1 e2
 exact ⟨av,c,e1,e2⟩
theorem zoI {e:Nat}{mr:List (Int×(Value×Nat×List Value))}{ps:List Pt}{s:Int}{L:Go.Kn.Loc}(h:Xm mr ps)(hO:OwnS e 1 ((ZH mr s).getD JA).1 ((ZH mr s).getD JA).2.1 ((ZH mr s).getD JA).2.2 L):((ZH mr s).getD JA).2.1≤ps.length:=by
 have h1:=hO.1
 rw [h s,zzF] at h1
 have h2:=zau (c:=3) (ps:=ps) (s:=s)
 omega
theorem ziw {x y:Nat×Obj}{A L B:Go.Kn.Loc}:(x::y::(A++(L++B))).Perm (L++(x::y::(A++B))):=List.perm_append_comm_assoc (x::y::A) L B
def tgP (ps:List Pt)(p:Pt):Bool:= !(((Js 2 ps p.sign).any fun i=>p.id != i&& !onF ps p.id i)||(Js 3 ps p.sign).any (onF ps p.id))
theorem zir {ps:List Pt}(hL:Lst ps){mi:List (Int×Int)}(hi:zhi mi ps):zjh ps=ps.all (tgP ps):=by
 unfold zjh
 rw [Bool.eq_iff_iff,List.all_eq_true,List.all_eq_true]
 refine forall_congr' fun p=>forall_congr' fun hp=>?_
 unfold tgP
 rw [List.all_eq_true]
 simp only [Bool.not_eq_true',Bool.or_eq_false_iff,List.any_eq_false,UZ]
 constructor
 ·
  intro h
  constructor
  ·
   rintro x ⟨q,hq,h2,hs,rfl⟩ hc
   have:=h q hq
   unfold zpE at this
   rw [if_neg (by simpa using hs.symm),if_pos h2] at this
   simp at this hc
   rcases this with e | e
   ·
    exact hc.1 e
   ·
    rw [hc.2] at e;cases e.2
  ·
   rintro x ⟨q,hq,h3,hs,rfl⟩ hc
   have:=h q hq
   unfold zpE at this
   rw [if_neg (by simpa using hs.symm),if_neg (by omega),if_pos h3] at this
   simp at this
   rcases this with e | e
   ·
    rw [e,hL.on_irr] at hc;cases hc
   ·
    rw [e] at hc;cases hc
 ·
  rintro ⟨h1,h2⟩ q hq
  unfold zpE
  by_cases hs:p.sign=q.sign
  ·
   rw [if_neg (by simpa using hs)]
   by_cases e:p.id=q.id
   ·
    simp [e]
   ·
    by_cases k2:q.kind=2
    ·
     rw [if_pos k2]
     have:=h1 q.id ⟨q,hq,k2,hs.symm,rfl⟩
     have hk:p.kind≠2:=fun k=>e (by
      have hm1:=UZ.2 ⟨p,hp,k,rfl,rfl⟩
      have hm2:=UZ.2 ⟨q,hq,k2,hs.symm,rfl⟩
      rw [hi p.sign] at hm1 hm2
      cases hg:ZH mi p.sign with
      | none=>rw [hg] at hm1;cases hm1
      | some z=>rw [hg] at hm1 hm2;simp at hm1 hm2;rw [hm1,hm2])
     simp [e] at this
     simp [this,hk]
    ·
     rw [if_neg k2]
     by_cases k3:q.kind=3
     ·
      rw [if_pos k3]
      have:=h2 q.id ⟨q,hq,k3,hs.symm,rfl⟩
      simp at this
      simp [this]
     ·
      rw [if_neg k3];simp
  ·
   rw [if_pos hs];simp
theorem zqB {ps:List Pt}(hL:Lst ps){mi:List (Int×Int)}{k:Nat}{p:Pt}{id:Int}(h:zhi mi (ps.take k))(hp:ps[k]? =some p)(hk:p.kind=2)(hn:ZH mi p.sign=some id):zjh ps=false:=by
 have hm:id∈Js 2 (ps.take k) p.sign:=by rw [h,hn];simp
 obtain ⟨q,hq,k2,hs,rfl⟩:=UZ.1 hm
 have hlt:=hL.fresh hp q hq
 unfold zjh
 rw [Bool.eq_false_iff]
 intro hc
 rw [List.all_eq_true] at hc
 have h1:=hc p (List.mem_of_getElem? hp)
 rw [List.all_eq_true] at h1
 have h2:=h1 q (List.mem_of_mem_take hq)
 unfold zpE at h2
 rw [if_neg (by simpa using hs.symm),if_pos k2] at h2
 simp [hk] at h2
 omega
theorem zpf {ps:List Pt}{p:Pt}{mi:List (Int×Int)}(hi:zhi mi ps):((ZH mi p.sign).isSome&&(p.id != (ZH mi p.sign).getD 0)&& !onF ps p.id ((ZH mi p.sign).getD 0))=((Js 2 ps p.sign).any fun i=>p.id != i&& !onF ps p.id i):=by
 rw [hi p.sign]
 cases ZH mi p.sign with
 | none=>rfl
 | some x=>simp
theorem zxw {ps:List Pt}(h:ps.length>512):Uc ps=2:=by unfold Uc;rw [if_pos h]
theorem zxp {ps:List Pt}(h:¬ps.length>512){k:Nat}{p:Pt}(hp:ps[k]? =some p)(h0:orF ((ps.take k).map Km)=0)(h1:Km p≠0):Uc ps=Km p:=by
 have:orF (ps.map Km)=Km p:=zob (k:=k) (by simp [hp]) (by rw [←List.map_take];exact h0) h1
 unfold Uc;rw [if_neg h,this,if_pos h1]
theorem zxe {ps:List Pt}(h:¬ps.length>512)(h0:orF (ps.map Km)=0)(h1:lsB ps=false):Uc ps=380:=by unfold Uc;rw [if_neg h,if_neg (by omega),h1];rfl
theorem zih {ps:List Pt}(h:¬ps.length>512)(h0:orF (ps.map Km)=0)(h1:lsB ps=true)(h2:zjh ps=false):Uc ps=380:=by unfold Uc;rw [if_neg h,if_neg (by omega),h1,h2];rfl
theorem zuD {ps:List Pt}(h:¬ps.length>512)(h0:orF (ps.map Km)=0)(h1:lsB ps=true)(h2:zjh ps=true):Uc ps=0:=by unfold Uc;rw [if_neg h,if_neg (by omega),h1,h2];rfl
theorem zr1 {ps:List Pt}{k:Nat}{p:Pt}(hp:ps[k]? =some p)(h0:orF ((ps.take k).map Km)=0)(h1:Km p=0):orF ((ps.take (k+1)).map Km)=0:=by
 rw [Ku] at h0 ⊢
 intro x hx
 rw [Z6 hp,List.map_append,List.mem_append] at hx
 rcases hx with hx | hx
 ·
  exact h0 x hx
 ·
  simp at hx;rw [hx,h1]
theorem zlS {p:Pt}(h:Km p=0):1≤p.id∧p.id≤1048576∧0≤p.sign∧p.sign≤1048576∧p.needs.length≤32:=by
 unfold Km at h
 split at h
 ·
  cases h
 ·
  split at h
  ·
   rename_i h1 h2
   simp only [Bool.and_eq_true] at h2
   have h3:=h2.2.1
   unfold idB at h3
   simp at h3
   omega
  ·
   cases h
theorem zxl {I:Qw}{av:Option Addr}{n c:Nat}{ps:List Pt}(hP:SlP I av n c ps)(hz:∀ p∈ps,Km p=0):∀ p∈ps,p.n≤100000:=fun p hp=>by
 have h1:Sl I 1 QP p.a p.n p.c p.needs:=hP.2 p hp
 have h2:=hz p hp
 have h3:=h1.len
 unfold Km at h2
 split at h2
 ·
  cases h2
 ·
  omega
theorem zvf {I:Qw}{av:Option Addr}{n c:Nat}{ps:List Pt}(hP:SlP I av n c ps)(h:Uc ps=0):∀ p∈ps,p.n≤100000:=zxl hP fun p hp=>Ku.1 (UH h).2.1 _ (List.mem_map.2 ⟨p,hp,rfl⟩)
end
section
open Go Go.Kn Go.Proofs
theorem zuf {I:Qw}{av:Option Addr}{n c:Nat}{ps:List Pt}(hP:SlP I av n c ps)(hn:n≤100000):Zu Tryz.prog 48 [.slice av n c] I (.int .i64 (Uc ps)):=by
 intro g H w hw
 refine qe Tryz.func48 Tryz.ntmps48 hw ?_
 have hIc:=zAl I
 refine zR (zA (zN (Qk (zR ?_))))
 refine zM ?_
 refine zQ ZJ ?_
 refine zC (zN ?_)
 refine zI ?_ ?_<;>intro hc24
 ·
  have hlen:ps.length>512:=by rw [hP.len];simp at hc24;omega
  refine zR (zA (zN (Qs (Qb ?_))))
  exact zp hIc rfl rfl (by rw [zxw hlen])
 have hlen:¬ps.length>512:=by rw [hP.len];simp at hc24;omega
 refine Qo (Qa (Qk (zR (zM ?_))))
 refine zQ ZJ ?_
 refine zM (zN (Ql ?_))
 refine zU [(0,_),(25,_),(26,_)] (fun T L0 mz E I' loc'=>∃ (k:Nat) (e:Int),mz=n-k∧E=(27,.int .i64 k)::T∧I=I'∧L0=loc'∧k≤n∧e=0∧orF ((ps.take k).map Km)=0) ?_ (h:=⟨0,0,rfl,rfl,rfl,rfl,Nat.zero_le _,rfl,rfl⟩)
 rintro mz E I' loc' ⟨k,e,rfl,rfl,rfl,rfl,hk,he,h0⟩
 refine zR (zC (zN (Qk ?_)))
 refine zI ?_ ?_<;>intro hc28
 ·
  have hlt_k:k<n:=by have h:=hc28;simp at h;omega
  have hP1:=hP.1
  obtain ⟨p,hp,hN⟩:=hP.at hlt_k
  have hpm:=List.mem_of_getElem? hp
  have hN:Sl I 1 QP p.a p.n p.c p.needs:=hN
  refine Qo (Qa (Qk (Ql (zR ?_))))
  refine zV (Qz rfl rfl ZJ (by assumption) (fun hg=>by omega)) ?_
  refine zV (Qq rfl YL (fun hg=>by exact zAm hP1 hp) rfl) ?_
  refine Qv UD rfl rfl (fun b_4=>?_)
  refine zh JD ?_
  refine zN (zR ?_)
  refine zV (Qq rfl YL (fun hg=>by exact Cells.g0) rfl) ?_
  refine qc (vs:=[_]) rfl zvA (zwX p hN) ?_
  refine zA ?_
  refine zN (zR ?_)
  refine zM ?_
  refine zC (zN ?_)
  refine zI ?_ ?_<;>intro hc34
  ·
   have hbad:Uc ps=Km p:=zxp hlen hp h0 (by simpa using hc34)
   refine zR (zM ?_)
   refine zA (zN (Qs (Qm (Qb (Qb (Qm (Qb ?_)))))))
   exact zp hIc rfl rfl (by rw [hbad])
  have hpk:Km p=0:=by simpa using hc34
  refine Qo (Qg (Qa (Qf (zB ?_))))
  refine zM (Qc ?_)
  exact zm (h:=⟨n-(k+1),by omega,k+1,_,rfl,rfl,rfl,rfl,by omega,hpk,zr1 hp h0 hpk⟩)
 have hge_k:n≤k:=by have h:=hc28;simp at h;omega
 have h0:orF (ps.map Km)=0:=by rw [Zo hP.len hge_k] at h0;exact h0
 have hz:∀ p∈ps,Km p=0:=fun p hp=>Ku.1 h0 _ (List.mem_map.2 ⟨p,hp,rfl⟩)
 have hnd:=zxl hP hz
 refine QH (Qe (Qe (Qj (Qa (zR ?_)))))
 refine ZU rfl rfl (fun r_37=>?_)
 refine Qv zw3 rfl rfl (fun b_5=>?_)
 refine zS zrs ?_
 refine zA (zN (Qk (zR ?_)))
 refine zM ?_
 refine zQ ZJ ?_
 refine zM (zN (Ql ?_))
 refine zU [(0,_),(5,_),(38,_),(39,_)] (fun T L0 mz E I' loc'=>∃ (k:Nat) (l:Int) (s:List (Int×Bool)),mz=n-k∧E=(6,.int .i64 l)::(40,.int .i64 k)::T∧I=I'∧[(b_5,.cells #[.map (some r_37)] 167 (0,0)),(r_37,Z0 (Value.int .i64) Value.bool s)]=loc'∧k≤n∧(List.range k).all (lsQ ps)=true∧zhJ (zp2 ps) k l∧∀ x,zgG s x=zaR (ps.take k) x) ?_ (h:=⟨0,0,[],rfl,rfl,rfl,rfl,Nat.zero_le _,rfl,⟨fun _=>rfl,fun y hy h=>absurd rfl h⟩,fun x=>rfl⟩)
 rintro mz E I' loc' ⟨k,l,s,rfl,rfl,rfl,rfl,hk,hall,hl,hs⟩
 refine zR (zC (zN (Qk ?_)))
 refine zI ?_ ?_<;>intro hc41
 ·
  have hlt_k:k<n:=by have h:=hc41;simp at h;omega
  have hP1:=hP.1
  obtain ⟨p,hp,hN⟩:=hP.at hlt_k
  have hpm:=List.mem_of_getElem? hp
  have hN:Sl I 1 QP p.a p.n p.c p.needs:=hN
  have hpn:=hnd p hpm
  have hp1:=(zlS (hz p hpm)).1
  refine Qo (Qa (Qk (Ql (zR ?_))))
  refine zV (Qz rfl rfl ZJ (by assumption) (fun hg=>by omega)) ?_
  refine zV (Qq rfl YL (fun hg=>by exact zAm hP1 hp) rfl) ?_
  refine Qv UD rfl rfl (fun b_8=>?_)
  refine zh JD ?_
  refine zN (Qk (zR ?_))
  refine zF ZF ?_
  refine zL Qr ?_
  refine zM ?_
  refine zC ?_
  refine zM ?_
  refine QV 4 rfl rfl rfl ?_
  refine zJ (Qi rfl K9) ?_
  refine zJ (Qd rfl QJ (fun hg=>by exact QY.h0 rfl)) ?_
  refine zJ (Zf (us:=[]) (vs:=[_]) rfl rfl) ?_
  refine zh1 (cap:=[]) (vs:=[_,_]) rfl rfl zk5 QD (fun hg=>zlF.ofV fun I' hI' hL'=>zvq (cap:=[.pointer (some ⟨b_5,0,none⟩)]) (hN.mono hI') hpn zxq (fun x _=>zzl (b:=b_5) (r:=r_37) (s:=s) (hL' b_5 _ (by simp)) (hL' r_37 _ (by simp)) x)) (.some rfl rfl rfl rfl gbf) rfl rfl ?_
  refine Zs rfl rfl rfl rfl rfl ?_
  refine zN ?_
  refine zI ?_ ?_<;>intro hc53
  ·
   have hbad:Uc ps=380:=zxe hlen h0 (by rw [←zi8 h0];exact JB (k:=k) (by rw [hP.len];exact hlt_k) (by rw [zpQ hp hp1 hl hs];exact congrArg (! ·) hc53))
   refine zR (zA (zN (Qs (Qb (Qm (Qb (Qb ?_)))))))
   refine Qm (Qb ?_)
   exact zp hIc rfl rfl (by rw [hbad])
  refine Qo (Qa ?_)
  have hD:=zAl I
  refine JH ?_
  refine Z7 I [(b_8,.cells (YK p).toArray 57 (0,0)),(b_5,.cells #[.map (some r_37)] 167 (0,0))] mixed ?_
  refine zT 0 rfl (Qd rfl zkK (fun hg=>by exact QY.h1 rfl)) hD ?_
  refine zT 1 rfl (Qi rfl ZF) hD ?_
  refine zT 2 rfl (Qd rfl Qr (fun hg=>by exact QY.h0 rfl)) hD ?_
  refine zT 3 rfl (Qi rfl ZF) hD ?_
  refine zT 4 rfl (Qd rfl Qr (fun hg=>by exact QY.h0 rfl)) hD ?_
  refine qd 5 rfl ?_
  refine Zd (m:=s) (ek:=Value.int .i64) (ev:=Value.bool) (a:=p.id) true VO ZQ rfl rfl rfl rfl (by repeat (first | exact Upd.here | apply Upd.there | apply QM)) ?_
  refine Qc ?_
  refine zD hD ?_
  refine zT 6 rfl (ZM rfl) hD ?_
  refine QK (by kernel_rfl) ?_
  refine QW ?_
  refine Qg (Qa (Qf (zB ?_)))
  refine zM (Qc ?_)
  exact zm (h:=⟨n-(k+1),by omega,k+1,_,_,rfl,rfl,rfl,rfl,by omega,VP hall (by rw [zpQ hp hp1 hl hs];exact congrArg (! ·) hc53),zhG hp,fun x=>by rw [XN,hs,zlT hp]⟩)
 have hge_k:n≤k:=by have h:=hc41;simp at h;omega
 have hls:lsB ps=true:=by rw [←zi8 h0,hP.len,show n=k by omega];exact hall
 have hL:Lst ps:=zkE h0 hls
 refine QH (Qe (Qe (Qj (Qa (zR (zM ?_))))))
 refine QA (cap:=[]) (vs:=[_]) rfl rfl zh6 .nil (zcx hP hn hL hnd) rfl rfl ?_
 rintro vv3 I3 L3 hI3 ⟨rfl,r9,rfl,hOn⟩
 have hP:=hP.mono hI3;have hIc:=hIc.trans hI3
 refine zA ?_
 refine zN (zR ?_)
 refine ZU rfl rfl (fun r_62=>?_)
 refine ZU rfl rfl (fun r_63=>?_)
 refine zA ?_
 refine zA (zN (Qk (Qk ?_)))
 refine Wx [(r_63,Z0 (Value.int .i64) Xr []),(r_62,Z0 (Value.int .i64) (Value.int .i64) [])] (by repeat (first | exact Ui | exact .refl | refine .keep ?_ | refine .drop ?_)) ?_
 refine Qf (zM ?_)
 refine zQ ZJ ?_
 refine zM (zN (Ql ?_))
 refine zU [(0,_),(9,_),(10,_),(11,_),(64,_),(65,_)] (fun T L0 mz E I' loc'=>∃ (k:Nat) (mi:List (Int×Int)) (mr:List (Int×(Value×Nat×List Value))) (L:Go.Kn.Loc),mz=n-k∧E=(66,.int .i64 k)::T∧I3=I'∧(r_63,Z0 (Value.int .i64) Xr mr)::(r_62,Z0 (Value.int .i64) (Value.int .i64) mi)::L=loc'∧k≤n∧zhi mi (ps.take k)∧Xm mr (ps.take k)∧VH 3 1 (mr.map (·.2)) L) ?_ (h:=⟨0,[],[],[],rfl,rfl,rfl,rfl,Nat.zero_le _,zhi.nil,Xm.nil,VH.nil⟩)
 rintro mz E I' loc' ⟨k,mi,mr,L,rfl,rfl,rfl,rfl,hk,hmi,hmr,hAll⟩
 refine zR (zC (zN (Qk ?_)))
 refine zI ?_ ?_<;>intro hc67
 ·
  have hlt_k:k<n:=by have h:=hc67;simp at h;omega
  have hP1:=hP.1
  obtain ⟨p,hp,hN⟩:=hP.at hlt_k
  have hpm:=List.mem_of_getElem? hp
  have hN:Sl I3 1 QP p.a p.n p.c p.needs:=hN
  have hpn:=hnd p hpm
  refine Qo (Qa (Qk (Ql (zR ?_))))
  refine zV (Qz rfl rfl ZJ (by assumption) (fun hg=>by omega)) ?_
  refine zV (Qq rfl YL (fun hg=>by exact zAm hP1 hp) rfl) ?_
  refine Qv UD rfl rfl (fun b_13=>?_)
  refine zh JD ?_
  refine zN (zR ?_)
  refine zF Ue ?_
  refine zL Qr ?_
  refine zN (Ql (zR (zC ?_)))
  refine zA (zN ?_)
  refine zI ?_ ?_<;>intro hc72
  ·
   have hk2:p.kind=2:=by simpa using hc72
   refine Qk (zR (zM ?_))
   refine zF Yf ?_
   refine zL Qr ?_
   refine zV (KQ (m:=mi) (ek:=Value.int .i64) (a:=p.sign) Vl ZQ rfl rfl (fun _=>.inr (by simp))) ?_
   refine zM ?_
   refine zE ?_
   refine zE ?_
   refine zA ?_
   refine zA ?_
   refine zN (zR ?_)
   refine zM (zN ?_)
   refine zI ?_ ?_<;>intro hc81
   ·
    obtain ⟨id,hid⟩:=Option.isSome_iff_exists.1 hc81
    have hbad:Uc ps=380:=zih hlen h0 hls (zqB hL hmi hp hk2 hid)
    refine zR (zA (zN (Qs (Qb (Qm (Qm (Qb ?_)))))))
    refine Qb (Qm (Qb ?_))
    exact zp hIc rfl rfl (by rw [hbad])
   have hnone:ZH mi p.sign=none:=by simpa using hc81
   refine Qo (Qa (Qf (zM ?_)))
   refine zF Yf ?_
   refine zL Qr ?_
   refine zF ZF ?_
   refine zL Qr ?_
   refine Zd (m:=mi) (ek:=Value.int .i64) (ev:=Value.int .i64) (a:=p.sign) p.id Vl ZQ rfl rfl rfl rfl (by repeat (first | exact Upd.here | apply Upd.there | apply QM)) ?_
   refine Qc (Qg (Qg (Qa (Qf (zB ?_)))))
   refine zM (Qc ?_)
   exact zm (h:=⟨n-(k+1),by omega,k+1,_,_,_,rfl,rfl,rfl,rfl,by omega,hmi.put hp hk2 hnone,hmr.skip hp (by omega),hAll⟩)
  have hk2n:p.kind≠2:=by simpa using hc72
  refine zR (zC ?_)
  refine zA (zN ?_)
  refine zI ?_ ?_<;>intro hc87
  ·
   have hk3:p.kind=3:=by simpa using hc87
   obtain ⟨A,Lt,B,rfl,hOt,hset⟩:=hAll.at p.sign
   have hq:=zoI hmr hOt
   have hq2:=List.length_take_le k ps
   have hD:=zAl I3
   refine JH ?_
   refine Z7 I3 [(b_13,.cells (YK p).toArray 57 (0,0))] mixed ?_
   refine zT 0 rfl (Qh rfl) hD ?_
   refine zT 1 rfl (Qi rfl Yf) hD ?_
   refine zT 2 rfl (Qd rfl Qr (fun hg=>by exact QY.h0 rfl)) hD ?_
   refine zT 3 rfl (Qh rfl) hD ?_
   refine zT 4 rfl (Qi rfl Yf) hD ?_
   refine zT 5 rfl (Qd rfl Qr (fun hg=>by exact QY.h0 rfl)) hD ?_
   refine zT 7 rfl (Qi rfl ZF) hD ?_
   refine zT 8 rfl (Qd rfl Qr (fun hg=>by exact QY.h0 rfl)) hD ?_
   refine Zw 6 9 rfl rfl (by kernel_rfl) ?_ ?_
   ·
    refine zV (VK (m:=mr) (ek:=Value.int .i64) (a:=p.sign) Vg ZQ rfl rfl (fun _=>.inr (by simp))) ?_
    refine Qc ?_
    refine zD hD ?_
    refine qd 9 rfl ?_
    refine Qp (ps:=[(0,_)]) (m:=[QP p.id]) Za rfl (.cons rfl (.nil)) rfl (by simp [Qu]) (by decide) (by decide) rfl rfl (fun b_98=>?_)
    refine Qc ?_
    refine zD hD ?_
    refine qd 10 rfl ?_
    refine QU (v:=_) (ys:=[p.id].flatMap QP) (L:=Lt) rfl rfl Za hOt (by repeat (first | exact .cons .here .nil | exact QD | exact Qy | apply QC | apply QB)) ⟨rfl,fun _=>rfl,zAj⟩ (V0 [p.id]) (by omega) rfl rfl ?_
    intro v9 L9 hO9 _
    refine Qc ?_
    refine zD hD ?_
    refine qd 11 rfl ?_
    refine Zd (m:=mr) (ek:=Value.int .i64) (ev:=Xr) (a:=p.sign) (v9,((ZH mr p.sign).getD JA).2.1+1,((ZH mr p.sign).getD JA).2.2++[p.id].flatMap QP) Vg ZQ rfl rfl rfl rfl (by (repeat (first | exact Upd.here | apply Upd.there | apply QM))) ?_
    refine Qc ?_
    refine zD hD ?_
    refine QK (by kernel_rfl) ?_
    refine QW ?_
    refine Qg (Qg (Qa (Qf (zB ?_))))
    refine zM (Qc ?_)
    exact JI _ _ (L9++((r_63,_)::(r_62,_)::(A++B))) ⟨n-(k+1),by omega,k+1,_,_,A++(L9++B),rfl,rfl,rfl,rfl,by omega,hmi.skip hp hk2n,hmr.put hp hk3,hset (v9,_,_) L9 hO9⟩ (.cons rfl (.cons rfl (.cons rfl (.cons rfl (.cons rfl (.cons rfl (.cons rfl .nil))))))) ziw (by repeat (first | exact .refl | exact Zg | refine Yu ?_ | refine .drop ?_ | refine Ya ?_))
   refine Qp (ps:=[(0,_)]) (m:=[QP p.id]) Za rfl (.cons rfl (.nil)) rfl (by simp [Qu]) (by decide) (by decide) rfl rfl (fun b_98=>?_)
   refine Qc ?_
   refine zD hD ?_
   refine qd 6 rfl ?_
   refine zV (VK (m:=mr) (ek:=Value.int .i64) (a:=p.sign) Vg ZQ rfl rfl (fun _=>.inr (by simp))) ?_
   refine Qc ?_
   refine zD hD ?_
   refine qd 10 rfl ?_
   refine QU (v:=_) (ys:=[p.id].flatMap QP) (L:=Lt) rfl rfl Za hOt (by repeat (first | exact .cons .here .nil | exact QD | exact Qy | apply QC | apply QB)) ⟨rfl,fun _=>rfl,zAj⟩ (V0 [p.id]) (by omega) rfl rfl ?_
   intro v9 L9 hO9 _
   refine Qc ?_
   refine zD hD ?_
   refine qd 11 rfl ?_
   refine Zd (m:=mr) (ek:=Value.int .i64) (ev:=Xr) (a:=p.sign) (v9,((ZH mr p.sign).getD JA).2.1+1,((ZH mr p.sign).getD JA).2.2++[p.id].flatMap QP) Vg ZQ rfl rfl rfl rfl (by (repeat (first | exact Upd.here | apply Upd.there | apply QM))) ?_
   refine Qc ?_
   refine zD hD ?_
   refine QK (by kernel_rfl) ?_
   refine QW ?_
   refine Qg (Qg (Qa (Qf (zB ?_))))
   refine zM (Qc ?_)
   exact JI _ _ (L9++((r_63,_)::(r_62,_)::(A++B))) ⟨n-(k+1),by omega,k+1,_,_,A++(L9++B),rfl,rfl,rfl,rfl,by omega,hmi.skip hp hk2n,hmr.put hp hk3,hset (v9,_,_) L9 hO9⟩ (.cons rfl (.cons rfl (.cons rfl (.cons rfl (.cons rfl (.cons rfl (.cons rfl .nil))))))) ziw (by repeat (first | exact .refl | exact Zg | refine Yu ?_ | refine .drop ?_ | refine Ya ?_))
  have hk3n:p.kind≠3:=by simpa using hc87
  refine Qo (Qg (Qg (Qa (Qf (zB ?_)))))
  refine zM (Qc ?_)
  exact zm (h:=⟨n-(k+1),by omega,k+1,_,_,_,rfl,rfl,rfl,rfl,by omega,hmi.skip hp hk2n,hmr.skip hp hk3n,hAll⟩)
 have hge_k:n≤k:=by have h:=hc67;simp at h;omega
 rw [Zo hP.len hge_k] at hmi hmr
 refine QH (Qe (Qe (Qj (Qa (Qk (Qk ?_))))))
 refine VN (fun I5 hI5 hb5=>?_)
 have hP:=hP.mono hI5;have hOn:=hOn.mono hI5;have hIc:=hIc.trans hI5
 have hmiI:I5 r_62=some (Z0 (Value.int .i64) (Value.int .i64) mi):=hb5 _ _ (by simp)
 have hmrI:I5 r_63=some (Z0 (Value.int .i64) Xr mr):=hb5 _ _ (by simp)
 have hrem:=zps hmr hAll (fun b o h=>hb5 b o (by simp [h]))
 obtain ⟨m,hm1,hm2⟩:=hOn
 refine Qf (zM ?_)
 refine zQ ZJ ?_
 refine zM (zN (Ql ?_))
 refine zU [(9,_),(10,_),(11,_),(101,_),(102,_)] (fun T L0 mz E I' loc'=>∃ (k:Nat),mz=n-k∧E=(103,.int .i64 k)::T∧I5=I'∧[]=loc'∧k≤n∧(ps.take k).all (tgP ps)=true) ?_ (h:=⟨0,rfl,rfl,rfl,rfl,Nat.zero_le _,rfl⟩)
 rintro mz E I' loc' ⟨k,rfl,rfl,rfl,rfl,hk,htg⟩
 refine zR (zC (zN (Qk ?_)))
 refine zI ?_ ?_<;>intro hc104
 ·
  have hlt_k:k<n:=by have h:=hc104;simp at h;omega
  have hP1:=hP.1
  obtain ⟨p,hp,hN⟩:=hP.at hlt_k
  have hpm:=List.mem_of_getElem? hp
  have hN:Sl I5 1 QP p.a p.n p.c p.needs:=hN
  have hpn:=hnd p hpm
  obtain ⟨ref,hget,sn,hsn,hsq⟩:=hm2.get ⟨p,hpm,rfl⟩
  refine Qo (Qa (Qk (Ql (zR ?_))))
  refine zV (Qz rfl rfl ZJ (by assumption) (fun hg=>by omega)) ?_
  refine zV (Qq rfl YL (fun hg=>by exact zAm hP1 hp) rfl) ?_
  refine Qv UD rfl rfl (fun b_17=>?_)
  refine zh JD ?_
  refine zN (Qk (zR (zM ?_)))
  refine zF Yf ?_
  refine zL Qr ?_
  refine zV (KQ (m:=mi) (ek:=Value.int .i64) (a:=p.sign) Vl ZQ rfl rfl (fun _=>.inl hmiI)) ?_
  refine zM ?_
  refine zE ?_
  refine zE ?_
  refine zA ?_
  refine zA ?_
  refine zN (zR ?_)
  refine zM ?_
  refine zM ?_
  refine QG 1 rfl rfl rfl ?_
  refine zK (Qi rfl ZF) ?_
  refine zK (Qd rfl Qr (fun hg=>by exact QY.h0 rfl)) ?_
  refine zK (Qh rfl) ?_
  refine zK (QI rfl rfl rfl) ?_
  refine QL rfl rfl rfl rfl rfl ?_
  refine zM ?_
  refine QG 7 rfl rfl rfl ?_
  refine zK (Qh rfl) ?_
  refine zK (Qi rfl ZF) ?_
  refine zK (Qd rfl Qr (fun hg=>by exact QY.h0 rfl)) ?_
  refine zK (YO (m:=m) (ek:=Value.int .i64) (ev:=zcK) (a:=p.id) hget KY ZQ rfl rfl (fun _=>.inl hm1)) ?_
  refine zK (Qh rfl) ?_
  refine zK (Yt (m:=sn) VO ZQ rfl rfl (fun _=>.inl hsn)) ?_
  refine zK (Yw rfl) ?_
  refine QL rfl rfl rfl rfl rfl ?_
  refine zN ?_
  refine zI ?_ ?_<;>intro hc129
  ·
   have hA:=hc129
   simp only [show ∀ x,(ZH sn x).getD false=onF ps p.id x from fun x=>hsq.mem x] at hA
   have hbad:Uc ps=380:=zih hlen h0 hls (by rw [zir hL hmi];exact zk1 hp (by unfold tgP;rw [←zpf hmi,hA];rfl))
   refine zR (zA (zN (Qs (Qb (Qm (Qb (Qb ?_)))))))
   refine Qm (Qb ?_)
   exact zp hIc rfl rfl (by rw [hbad])
  have hA:=hc129
  simp only [show ∀ x,(ZH sn x).getD false=onF ps p.id x from fun x=>hsq.mem x] at hA
  refine Qo (Qa (Qk ?_))
  obtain ⟨av2,c2,hv2,hS2⟩:=hrem p.sign
  have hk3l:=zau (c:=3) (ps:=ps) (s:=p.sign)
  have hpl:=hP.len
  refine Qf (zM ?_)
  refine zF Yf ?_
  refine zL Qr ?_
  refine zV (YF (m:=mr) (ek:=Value.int .i64) (a:=p.sign) hv2 Vg ZQ rfl rfl (fun _=>.inl hmrI)) ?_
  refine zQ Qt ?_
  refine zM (zN (Ql ?_))
  refine zU [(9,_),(10,_),(11,_),(17,_),(101,_),(102,_),(103,_),(133,_),(134,_)] (fun T L0 mz E I' loc'=>∃ (j:Nat),mz=(Js 3 ps p.sign).length-j∧E=(135,.int .i64 j)::T∧I5=I'∧[(b_17,.cells (YK p).toArray 57 (0,0))]=loc'∧j≤(Js 3 ps p.sign).length∧((Js 3 ps p.sign).take j).any (onF ps p.id)=false) ?_ (h:=⟨0,rfl,rfl,rfl,rfl,Nat.zero_le _,rfl⟩)
  rintro mz E I' loc' ⟨j,rfl,rfl,rfl,rfl,hj,hno⟩
  refine zR (zC (zN (Qk ?_)))
  refine zI ?_ ?_<;>intro hc136
  ·
   have hlt_j:j<(Js 3 ps p.sign).length:=by have h:=hc136;simp at h;omega
   obtain ⟨y,hy⟩:=hS2.at hlt_j
   refine Qo (Qa (Qk (Ql (zR ?_))))
   refine zV (Qz rfl rfl Qt (by assumption) (fun hg=>by omega)) ?_
   refine zV (Qd rfl Qr (fun hg=>by exact zAe hS2 hy rfl)) ?_
   refine zA ?_
   refine zN (zR ?_)
   refine zM ?_
   refine zF ZF ?_
   refine zL Qr ?_
   refine zV (YO (m:=m) (ek:=Value.int .i64) (ev:=zcK) (a:=p.id) hget KY ZQ rfl rfl (fun _=>.inl hm1)) ?_
   refine zM ?_
   refine zV (Yt (m:=sn) VO ZQ rfl rfl (fun _=>.inl hsn)) ?_
   refine zN ?_
   refine zI ?_ ?_<;>intro hc144
   ·
    have hon:=hc144
    simp only [show ∀ x,(ZH sn x).getD false=onF ps p.id x from fun x=>hsq.mem x] at hon
    have hbad:Uc ps=380:=zih hlen h0 hls (by rw [zir hL hmi];exact zk1 hp (by unfold tgP;rw [YM hy hon,Bool.or_true];rfl))
    refine zR (zA (zN (Qs (Qm (Qb (Qb (Qm ?_)))))))
    refine Qm (Qb (Qb (Qm (Qb ?_))))
    exact zp hIc rfl rfl (by rw [hbad])
   have hon:=hc144
   simp only [show ∀ x,(ZH sn x).getD false=onF ps p.id x from fun x=>hsq.mem x] at hon
   refine Qo (Qg (Qa (Qf (zB ?_))))
   refine zM (Qc ?_)
   exact zm (h:=⟨(Js 3 ps p.sign).length-(j+1),by omega,j+1,rfl,rfl,rfl,rfl,by omega,Ym hy hno hon⟩)
  have hge_j:(Js 3 ps p.sign).length≤j:=by have h:=hc136;simp at h;omega
  rw [Zo rfl hge_j] at hno
  have htp:tgP ps p=true:=by unfold tgP;rw [←zpf hmi,hA,hno];rfl
  refine QH (Qe (Qe (Qj (Qg (Qa (Qf (zB ?_)))))))
  refine zM (Qc ?_)
  exact zm (h:=⟨n-(k+1),by omega,k+1,rfl,rfl,rfl,rfl,by omega,zjC hp htg htp⟩)
 have hge_k:n≤k:=by have h:=hc104;simp at h;omega
 have htog:zjh ps=true:=by rw [zir hL hmi];rw [Zo hP.len hge_k] at htg;exact htg
 refine QH (Qe (Qe (Qj (Qa (zR (zA (zN ?_)))))))
 refine Qs ?_
 exact zp hIc rfl rfl (by rw [zuD hlen h0 hls htog])
end
section
open Go Go.Kn Go.Proofs
def zm2 (e:Int)(xs:List Int):Value→Qw→Go.Kn.Loc→Prop:=fun v I' L=>L=[]∧∃ av c,v= .tuple #[.slice av xs.length c,.int .i64 e]∧Sl I' 1 QP av xs.length c xs
theorem zm2.empty {e:Int}{xs:List Int}{I:Qw}(h:xs=[]):zm2 e xs (.tuple #[.slice none 0 0,.int .i64 e]) I []:=by
 subst h
 exact ⟨rfl,none,0,rfl,.nil⟩
theorem zm2.good {e e':Int}{xs ys:List Int}{I:Qw}{av:Option Addr}{n c:Nat}(h:e=e')(hx:ys=xs)(hS:Sl I 1 QP av n c ys):zm2 e' xs (.tuple #[.slice av n c,.int .i64 e]) I []:=by
 subst h;subst hx
 have hn:=hS.len
 subst hn
 exact ⟨rfl,av,c,rfl,hS⟩
def clE (ps:List Pt)(ids:List Int):Int:=if ids.length>512 then 2 else if chB ps ids then 0 else 380
theorem zuK {ps:List Pt}{ids:List Int}(h:ids.length>512):clE ps ids=2:=by unfold clE;rw [if_pos h]
theorem ztJ {ps:List Pt}{ids:List Int}(h:¬ids.length>512)(h2:chB ps ids=false):clE ps ids=380:=by unfold clE;rw [if_neg h,h2];rfl
theorem zw4 {ps:List Pt}{ids:List Int}(h:¬ids.length>512)(h2:chB ps ids=true):clE ps ids=0:=by unfold clE;rw [if_neg h,h2];rfl
theorem zu5 {ps:List Pt}{ids:List Int}(h:ztw ids=false):chB ps ids=false:=by unfold chB;rw [h];rfl
theorem zwI {ps:List Pt}{ids:List Int}{k:Nat}{x:Int}(hx:ids[k]? =some x)(h:zaR ps x=false):chB ps ids=false:=by unfold chB;rw [zk1 hx h,Bool.and_false]
theorem zub {ps:List Pt}{ids:List Int}(h:ztw ids=true)(h2:ids.all (zaR ps)=true):chB ps ids=true:=by unfold chB;rw [h,h2];rfl
def zel (ps:List Pt)(ids:List Int)(k:Nat)(zs:List Int)(S:Int→Bool):Prop:=∀ x,x∈zs↔(x∈ids∨∃ n∈ids.take k,onF ps n x=true)∨S x=true
theorem zel.start {ps:List Pt}{ids:List Int}:zel ps ids 0 ids (fun _=>false):=fun x=>by simp
theorem zel.put {ps:List Pt}{ids zs:List Int}{k:Nat}{S S':Int→Bool}{a:Int}(h:zel ps ids k zs S)(e:∀ x,S' x=(decide (a=x)||S x)):zel ps ids k (zs++[a]) S':=fun x=>by
 rw [List.mem_append,h x,e x]
 simp only [List.mem_singleton,Bool.or_eq_true,decide_eq_true_eq]
 constructor
 ·
  rintro (h | h)
  ·
   rcases h with h | h
   ·
    exact .inl h
   ·
    exact .inr (.inr h)
  ·
   exact .inr (.inl h.symm)
 ·
  rintro (h | h | h)
  ·
   exact .inl (.inl h)
  ·
   exact .inr h.symm
  ·
   exact .inl (.inr h)
theorem zel.next {ps:List Pt}{ids zs:List Int}{k:Nat}{S:Int→Bool}{n:Int}(h:zel ps ids k zs S)(hn:ids[k]? =some n)(e:∀ x,S x=onF ps n x):zel ps ids (k+1) zs (fun _=>false):=fun x=>by
 rw [h x,e x,Z6 hn]
 simp only [List.mem_append,List.mem_singleton,Bool.false_eq_true,or_false]
 constructor
 ·
  rintro (h | h)
  ·
   rcases h with h | ⟨m,hm,h⟩
   ·
    exact .inl h
   ·
    exact .inr ⟨m,.inl hm,h⟩
  ·
   exact .inr ⟨n,.inr rfl,h⟩
 ·
  rintro (h | ⟨m,hm | rfl,h⟩)
  ·
   exact .inl (.inl h)
  ·
   exact .inl (.inr ⟨m,hm,h⟩)
  ·
   exact .inr h
theorem zel.congr {ps:List Pt}{ids zs:List Int}{k:Nat}{S S':Int→Bool}(h:zel ps ids k zs S)(e:∀ x,S x=S' x):zel ps ids k zs S':=fun x=>by rw [h x,e x]
theorem znd {ps:List Pt}{ids zs:List Int}{n:Nat}(hL:Lst ps)(h:zel ps ids n zs (fun _=>false))(hn:ids.length=n)(hall:ids.all (zaR ps)=true):Lib.compact (YJ (zs++[]))=zeV ps ids:=by
 rw [List.append_nil]
 refine zdO (K8 hL ids) fun x=>?_
 rw [h x,WY,←hn,List.take_length]
 simp only [Bool.false_eq_true,or_false]
 constructor
 ·
  rintro (hx | ⟨m,hm,ho⟩)
  ·
   exact ⟨Jf.1 (List.all_eq_true.1 hall x hx),x,hx,.inl rfl⟩
  ·
   exact ⟨(hL.on_lt ho).2,m,hm,.inr ho⟩
 ·
  rintro ⟨_,m,hm,rfl | ho⟩
  ·
   exact .inl hm
  ·
   exact .inr ⟨m,hm,ho⟩
theorem zvK {ps:List Pt}(hL:Lst ps){a:Int}{sn:List (Int×Bool)}(h:zai sn (onF ps a)):sn.length≤ps.length:=by
 have:=List.Nodup.length_le_of_subset h.nodup (l₂:=zp2 ps) (fun x hx=>by
  obtain ⟨_,q,hq,e⟩:=hL.on_lt (h.key.2 hx)
  exact List.mem_map.2 ⟨q,hq,e⟩)
 simpa [zp2] using this
theorem OnL.hit {I:Qw}{m:List (Int×Nat)}{ps:List Pt}(h:OnL I m ps){a:Int}{ref:Nat}(hg:ZH m a=some ref):zaR ps a=true∧OnS I ref (onF ps a):=by
 have hm:=Ua hg
 refine ⟨?_,h.2 _ hm⟩
 have hk:a∈m.map (·.1):=List.mem_map.2 ⟨_,hm,rfl⟩
 rw [h.1] at hk
 obtain ⟨q,hq,e⟩:=List.mem_map.1 hk
 exact Jf.2 ⟨q,hq,e⟩
theorem OnL.miss {I:Qw}{m:List (Int×Nat)}{ps:List Pt}(h:OnL I m ps){a:Int}(hg:ZH m a=none):zaR ps a=false:=by
 cases hh:zaR ps a with
 | false=>rfl
 | true=>
  obtain ⟨ref,h1,_⟩:=h.get (Jf.1 hh)
  rw [hg] at h1;cases h1
def vrE (ps:List Pt)(v:List Int):Int:=if v.length>512 then 2 else if zlK ps v then 0 else 380
theorem zws {ps:List Pt}(hL:Lst ps){v:List Int}{w:Int}(h:w=(zmv (clE ps v) (zeV ps v)).length):(if ((clE ps v==0)&&(w != (v.length:Int)))=true then 380 else clE ps v)=vrE ps v:=by
 unfold vrE
 by_cases h1:v.length>512
 ·
  rw [if_pos h1,zuK h1];rfl
 ·
  rw [if_neg h1]
  cases hc:chB ps v with
  | false=>
   rw [ztJ h1 hc]
   unfold zlK
   rw [hc];rfl
  | true=>
   rw [zw4 h1 hc,zkz rfl] at*
   have h2:=zrK hL hc
   subst h
   cases hv:zlK ps v with
   | true=>
    rw [hv] at h2
    simp at h2
    simp [h2]
   | false=>
    rw [hv] at h2
    simp at h2
    rw [if_pos]
    ·
     rfl
    ·
     simp;omega
theorem zpp {ps:List Pt}{v:List Int}(h:vrE ps v=0):zlK ps v=true:=by
 unfold vrE at h
 split at h
 ·
  cases h
 ·
  split at h
  ·
   assumption
  ·
   cases h
theorem zdN (x:Nat×Obj)(L:Go.Kn.Loc):(x::L).Perm (L++[x]):=(List.perm_append_comm (l₁:=L) (l₂:=[x])).symm
end
section
open Go Go.Kn Go.Proofs
theorem zjO {I:Qw}{av:Option Addr}{n c:Nat}{ps:List Pt}(hP:SlP I av n c ps)(hn:n≤512)(hL:Lst ps)(hnd:∀ p∈ps,p.n≤100000){bv:Option Addr}{n2 c2:Nat}{ys:List Int}(hT:Sl I 1 QP bv n2 c2 ys)(hn2:n2≤100000):Z4 Tryz.prog 90 [.slice av n c,.slice bv n2 c2] I [] (zm2 (clE ps ys) (zmv (clE ps ys) (zeV ps ys))):=by
 intro g H w hw
 refine qe Tryz.func90 Tryz.ntmps90 hw ?_
 have hIc:=zAl I
 refine zR (zA ?_)
 refine zA (zN (Qk (zR ?_)))
 refine zM ?_
 refine zQ Qt ?_
 refine zC (zN ?_)
 refine zI ?_ ?_<;>intro hc12
 ·
  have hlen:ys.length>512:=by rw [hT.len];simp at hc12;omega
  refine zR (zA ?_)
  refine zA (zN (Qs (Qb ?_)))
  first
  | exact Zr rfl rfl rfl (fun w hw=>⟨_,I,[],rfl,hIc,hw.drop,by rw [zuK hlen];exact zm2.empty rfl⟩)
 have hlen:¬ys.length>512:=by rw [hT.len];simp at hc12;omega
 refine Qo (Qa (zR (zM ?_)))
 refine QA (cap:=[]) (vs:=[_]) rfl rfl zh6 .nil (zcx hP (by omega) hL hnd) rfl rfl ?_
 rintro vv1 I1 L1 hI1 ⟨rfl,r9,rfl,hOn⟩
 have hP:=hP.mono hI1;have hT:=hT.mono hI1;have hIc:=hIc.trans hI1
 refine zA ?_
 refine zN (zR ?_)
 refine zM ?_
 refine QA (cap:=[]) (vs:=[_]) rfl rfl zjx .nil (zcs hT (by omega)) rfl rfl ?_
 rintro vv2 I2 L2 hI2 ⟨rfl,hO⟩
 have hP:=hP.mono hI2;have hT:=hT.mono hI2;have hOn:=hOn.mono hI2;have hIc:=hIc.trans hI2
 refine zA (zN (Qk (Qk ?_)))
 refine Wx _ Zg ?_
 refine Qf (zM ?_)
 refine zQ Qt ?_
 refine zM (zN (Ql ?_))
 refine zU [(1,_),(6,_),(17,_),(18,_)] (fun T L0 mz E I' loc'=>∃ (k:Nat) (zs:List Int) (v:Value) (q:Nat) (L:Go.Kn.Loc),mz=n2-k∧E=(4,v)::(19,.int .i64 k)::T∧I2=I'∧L=loc'∧k≤n2∧OwnS 3 1 v q (zs.flatMap QP) L∧q≤n2+512*k∧zel ps ys k zs (fun _=>false)∧(ys.take k).all (zaR ps)=true) ?_ (h:=⟨0,ys,_,n2,_,rfl,rfl,rfl,rfl,Nat.zero_le _,hO,by omega,zel.start,rfl⟩)
 rintro mz E I' loc' ⟨k,zs,v,q,L,rfl,rfl,rfl,rfl,hk,hO,hq5,hM,hall⟩
 refine zR (zC (zN (Qk ?_)))
 refine zI ?_ ?_<;>intro hc20
 ·
  have hlt_k:k<n2:=by have h:=hc20;simp at h;omega
  obtain ⟨y,hy⟩:=hT.at hlt_k
  refine Qo (Qa (Qk (Ql (zR ?_))))
  refine zV (Qz rfl rfl Qt (by assumption) (fun hg=>by omega)) ?_
  refine zV (Qd rfl Qr (fun hg=>by exact zAe hT hy rfl)) ?_
  refine zA (zN (Qk (Qk ?_)))
  obtain ⟨m,hm1,hm2⟩:=hOn
  refine Qf (zM ?_)
  refine zM ?_
  refine zV (za1 (m:=m) (ek:=Value.int .i64) KY ZQ rfl rfl (fun _=>.inl hm1)) ?_
  refine zV (zib rfl rfl zsJ) ?_
  refine zN ?_
  refine zI ?_ ?_<;>intro hc26
  ·
   have hmiss:zaR ps y=false:=hm2.miss (Option.isNone_iff_eq_none.1 hc26)
   have hbad:clE ps ys=380:=ztJ hlen (zwI hy hmiss)
   refine zR (zA ?_)
   refine zA (zN (Qs (Qb (Qm (Qb (Qb (Qm ?_)))))))
   refine Qb ?_
   first
   | exact Zr rfl rfl rfl (fun w hw=>⟨_,I2,[],rfl,hIc,hw.drop,by rw [hbad];exact zm2.empty rfl⟩)
  obtain ⟨ref,hget⟩:∃ ref,ZH m y=some ref:=by cases hg:ZH m y with | none=>rw [hg] at hc26;cases hc26 | some r=>exact ⟨r,rfl⟩
  obtain ⟨hhas,sn,hsn,hsq⟩:=hm2.hit hget
  have hfew:=zvK hL hsq
  have hpl:=hP.len
  refine Qo (Qa (zR (zM ?_)))
  refine zM ?_
  refine zV (za1 (m:=m) (ek:=Value.int .i64) KY ZQ rfl rfl (fun _=>.inl hm1)) ?_
  rw [hget]
  refine JY (ek:=Value.int .i64) (ev:=Value.bool) (m:=sn) rfl VO rfl rfl (.inl hsn) (fun b_30=>?_)
  refine zN (Ql ?_)
  refine zU [(1,_),(6,_),(17,_),(18,_),(19,_),(30,_)] (fun T L0 mz E I' loc'=>∃ (seen:List Nat) (zs:List Int) (v:Value) (q:Nat) (L:Go.Kn.Loc),mz=sn.length-seen.length∧E=(4,v)::T∧I2=I'∧(b_30,YV ref sn.length seen)::L=loc'∧OwnS 3 1 v q (zs.flatMap QP) L∧q≤n2+512*k+seen.length∧zel ps ys k zs (zoc sn seen)∧seen.Nodup∧∀ i∈seen,i<sn.length) ?_ (h:=⟨[],zs,v,q,L,rfl,rfl,rfl,rfl,hO,by simpa using hq5,hM.congr (fun x=>(zbs sn x).symm),.nil,fun i h=>by cases h⟩)
  rintro mz E I' loc' ⟨seen,zs,v,q,L,rfl,rfl,rfl,rfl,hO,hq5,hM,hnd2,hlt⟩
  have hsl:=JF hnd2 hlt
  refine zR ?_
  refine JS (ek:=Value.int .i64) (ev:=Value.bool) (m:=sn) (fun s'=>(b_30,YV ref sn.length s')::L) rfl (fun s'=>.here) rfl rfl rfl rfl rfl (.inl hsn) (by simp) ?_
  intro t tv s' hno hyes
  refine zN (Qk ?_)
  refine zI ?_ ?_<;>intro hc32
  ·
   obtain ⟨i,q,hq,hns,rfl⟩:=hyes hc32
   refine Qo (Qa (Ql (zR ?_)))
   refine zV (JW (ek:=Value.int .i64) (ev:=Value.bool) (m:=sn) (p:=q) (seen:=seen) (i:=i) rfl (.inl hsn) (.inr (by simp)) hq) ?_
   refine zE ?_
   refine zA (zN (Qf ?_))
   refine zM ?_
   refine zM ?_
   refine Qp (ps:=[(0,_)]) (m:=[QP q.1]) Za rfl (.cons rfl (.nil)) rfl (by simp [Qu]) (by decide) (by decide) rfl rfl (fun b_37=>?_)
   refine QU (v:=_) (ys:=[q.1].flatMap QP) (L:=L) rfl rfl Za hO (by repeat (first | exact .cons .here .nil | exact QD | exact Qy | apply QC | apply QB)) ⟨rfl,fun _=>rfl,zAj⟩ (V0 [q.1]) (by omega) rfl rfl ?_
   intro v9 L9 hO9 _;rw [←List.flatMap_append] at hO9
   refine zA (Qc (Qg ?_))
   have hnd3:(seen++[i]).Nodup:=List.nodup_append.2 ⟨hnd2,by simp,fun a ha b hb e=>hns (by simp at hb;subst hb;subst e;exact ha)⟩
   have hlt3:∀ j∈seen++[i],j<sn.length:=fun j hj=>(List.mem_append.1 hj).elim (hlt j) (fun h=>by simp at h;subst h;exact (List.getElem?_eq_some_iff.1 hq).1)
   have hsl2:=JF hnd3 hlt3
   rw [List.length_append,List.length_singleton] at hsl2
   exact JI _ _ (L9++[(b_30,_)]) ⟨sn.length-(seen++[i]).length,by rw [List.length_append,List.length_singleton];omega,seen++[i],zs++[q.1],v9,_,L9,rfl,rfl,rfl,rfl,hO9,by rw [List.length_append,List.length_singleton];omega,hM.put (fun x=>XY hq x),hnd3,hlt3⟩ (.cons rfl (.cons rfl (.cons rfl (.cons rfl (.cons rfl (.cons rfl (.cons rfl .nil))))))) (zdN _ _) (by repeat (first | exact .refl | exact Zg | refine Yu ?_ | refine .drop ?_ | refine Ya ?_))
  obtain ⟨rfl,hall2⟩:=hno hc32
  refine QH (Qe (Qe (Qj (Qg (Qa (Qf (zB ?_)))))))
  refine zM (Qc ?_)
  exact zm (h:=⟨n2-(k+1),by omega,k+1,zs,v,q,L,rfl,rfl,rfl,rfl,by omega,hO,by omega,(hM.next hy (fun x=>zb0 hsq hall2 x)),zjC hy hall hhas⟩)
 have hge_k:n2≤k:=by have h:=hc20;simp at h;omega
 rw [Zo hT.len hge_k] at hall
 have hk2:n2=k:=by omega
 refine QH (Qe (Qe (Qj (Qa (Qk (zR (zM ?_)))))))
 refine qc (vs:=[_]) rfl zru (zvX hT hn2) ?_
 refine zO (zN ?_)
 refine zI ?_ ?_<;>intro hc42
 ·
  have hbad:clE ps ys=380:=ztJ hlen (zu5 (by simpa using hc42))
  refine zR (zA ?_)
  refine zA (zN (Qs (Qb ?_)))
  first
  | exact Zr rfl rfl rfl (fun w hw=>⟨_,I2,[],rfl,hIc,hw.drop,by rw [hbad];exact zm2.empty rfl⟩)
 have hgood:clE ps ys=0:=zw4 hlen (zub (by simpa using hc42) hall)
 refine Qo (Qa (Qk ?_))
 refine Vn hO Qu (by decide) (by repeat (first | exact .cons .here .nil | exact QD | exact Qy | apply QC | apply QB)) (fun I5 hI5 af5 cf5 ef5 hZ=>?_)
 subst ef5
 have hT:=hT.mono hI5;have hIc:=hIc.trans hI5
 refine Qf (zM ?_)
 refine QA (cap:=[]) (vs:=[_,_]) rfl rfl zvY .nil (ztf hZ (by have:=hT.len;omega) .nil (by omega)) rfl rfl ?_
 rintro vv6 I6 L6 hI6 ⟨rfl,av9,c9,rfl,hR⟩
 have hT:=hT.mono hI6;have hIc:=hIc.trans hI6
 refine zA ?_
 refine zA (zN (Qs ?_))
 first
 | exact Zr rfl rfl rfl (fun w hw=>⟨_,I6,[],rfl,hIc,hw.drop,by rw [hgood];exact zm2.good rfl (by rw [zkz rfl];exact znd hL hM (by rw [hT.len];omega) hall) hR⟩)
theorem zk3 {I:Qw}{av:Option Addr}{n c:Nat}{ps:List Pt}(hP:SlP I av n c ps)(hn:n≤512)(hL:Lst ps)(hnd:∀ p∈ps,p.n≤100000){bv:Option Addr}{n2 c2:Nat}{ys:List Int}(hT:Sl I 1 QP bv n2 c2 ys)(hn2:n2≤100000):Zu Tryz.prog 49 [.slice av n c,.slice bv n2 c2] I (.int .i64 (vrE ps ys)):=by
 intro g H w hw
 refine qe Tryz.func49 Tryz.ntmps49 hw ?_
 have hIc:=zAl I
 refine zR (zA ?_)
 refine zN (zR ?_)
 refine zM ?_
 refine zM ?_
 refine QA (cap:=[]) (vs:=[_,_]) rfl rfl zvI .nil (zjO hP hn hL hnd hT hn2) rfl rfl ?_
 rintro vv1 I1 L1 hI1 ⟨rfl,av9,c9,rfl,hR⟩
 have hT:=hT.mono hI1;have hIc:=hIc.trans hI1
 refine zM ?_
 refine zE ?_
 refine zE ?_
 refine zA ?_
 refine zA (zN (Qk (zR ?_)))
 refine zM ?_
 refine zC ?_
 refine zM ?_
 refine QG 2 rfl rfl rfl ?_
 refine zK (Qh rfl) ?_
 refine zK (ZB rfl Qt) ?_
 refine zK (Qh rfl) ?_
 refine zK (ZB rfl Qt) ?_
 refine zK (QI rfl rfl rfl) ?_
 refine QL rfl rfl rfl rfl rfl ?_
 refine zN ?_
 refine zI ?_ ?_<;>intro hc20
 ·
  have hv:vrE ps ys=380:=by rw [←zws (v:=ys) hL rfl,hT.len,if_pos hc20]
  refine zR (zA (zN (Qs (Qb ?_))))
  exact zp hIc rfl rfl (by rw [hv]<;>rfl)
 have hv:vrE ps ys=clE ps ys:=by rw [←zws (v:=ys) hL rfl,hT.len,if_neg (by rw [hc20];exact Bool.false_ne_true)]
 refine Qo (Qa (zR (zM ?_)))
 refine zA (zN (Qs ?_))
 exact zp hIc rfl rfl (by rw [hv]<;>rfl)
end
section
open Go Go.Kn Go.Proofs
abbrev zh5:=Value×Nat×List Value
theorem zsj {ps:List Pt}{ws:List Int}{k:Nat}{p:Pt}(hp:ps[k]? =some p)(h:(ws.any fun x=>x==p.id)=false):YZ (ps.take (k+1)) ws=YZ (ps.take k) ws:=by
 unfold YZ
 rw [Z6 hp,List.filter_append,List.filter_cons,h];simp
theorem zmH {ps:List Pt}{ws:List Int}{k:Nat}{p:Pt}(hp:ps[k]? =some p)(h:(ws.any fun x=>x==p.id)=true):YZ (ps.take (k+1)) ws=YZ (ps.take k) ws++[p]:=by
 unfold YZ
 rw [Z6 hp,List.filter_append,List.filter_cons,h];rfl
/-! ### Removes -/
theorem Xm.start:Xm [] []:=fun _s=>rfl
theorem Xm.put' {mr:List (Int×zh5)}{l:List Pt}{n:Nat}{p:Pt}{v:Value}(h:Xm mr l)(hk:p.kind=3):Xm (YE mr p.sign (v,n,((ZH mr p.sign).getD JA).2.2++[p.id].flatMap QP)) (l++[p]):=by
 have h1:Xm mr ((l++[p]).take l.length):=by simpa using h
 have:=Xm.put (v:=v) (n:=n) h1 (show (l++[p])[l.length]? =some p by simp) hk
 rw [show (l++[p]).take (l.length+1)=l++[p] from List.take_of_length_le (by simp)] at this
 exact this
theorem Xm.skip' {mr:List (Int×zh5)}{l:List Pt}{p:Pt}(h:Xm mr l)(hk:p.kind≠3):Xm mr (l++[p]):=by
 have h1:Xm mr ((l++[p]).take l.length):=by simpa using h
 have:=Xm.skip h1 (show (l++[p])[l.length]? =some p by simp) hk
 rw [show (l++[p]).take (l.length+1)=l++[p] from List.take_of_length_le (by simp)] at this
 exact this
/-! ### Sets -/
def zhX (ms:List ((Int×Int)×zh5))(l:List Pt):Prop:=∀ q:Int×Int,((ZH ms q).getD JA).2.2=(stF l q.1 q.2).flatMap YK
theorem zhX.start:zhX [] []:=fun _q=>rfl
theorem zfJ (l:List Pt)(p:Pt)(s f:Int):stF (l++[p]) s f=stF l s f++(if p.kind=1∧p.sign=s∧p.field=f then [p] else []):=by
 unfold stF
 rw [List.filter_append]
 congr 1
 by_cases h:p.kind=1∧p.sign=s∧p.field=f
 ·
  rw [if_pos h];simp [h.1,h.2.1,h.2.2]
 ·
  rw [if_neg h]
  have:(p.kind==1&&(p.sign==s&&p.field==f))=false:=by
   rw [Bool.eq_false_iff];intro hc;simp at hc;exact h hc
  simp [this]
theorem zhX.put {ms:List ((Int×Int)×zh5)}{l:List Pt}{n:Nat}{p:Pt}{v:Value}(h:zhX ms l)(hk:p.kind=1):zhX (YE ms (p.sign,p.field) (v,n,((ZH ms (p.sign,p.field)).getD JA).2.2++[p].flatMap YK)) (l++[p]):=fun q=>by
 rw [zfJ,YI]
 by_cases e:(p.sign,p.field)=q
 ·
  subst e;rw [if_pos rfl,if_pos ⟨hk,rfl,rfl⟩,List.flatMap_append,←h];rfl
 ·
  rw [if_neg e,if_neg (fun h2=>e (Prod.ext h2.2.1 h2.2.2)),List.append_nil,h q]
theorem zhX.skip {ms:List ((Int×Int)×zh5)}{l:List Pt}{p:Pt}(h:zhX ms l)(hk:p.kind≠1):zhX ms (l++[p]):=fun q=>by
 rw [zfJ,if_neg (fun h2=>hk h2.1),List.append_nil,h q]
theorem zav {l:List Pt}{s f:Int}:(stF l s f).length≤l.length:=List.length_filter_le _ _
theorem zwx {e:Nat}{ms:List ((Int×Int)×zh5)}{l:List Pt}{q:Int×Int}{L:Go.Kn.Loc}(h:zhX ms l)(hO:OwnS e 19 ((ZH ms q).getD JA).1 ((ZH ms q).getD JA).2.1 ((ZH ms q).getD JA).2.2 L):((ZH ms q).getD JA).2.1≤l.length:=by
 have h1:=hO.1
 rw [h q,ZD Q8] at h1
 have h2:=zav (l:=l) (s:=q.1) (f:=q.2)
 omega
theorem zvm {I:Qw}{e:Nat}{ms:List ((Int×Int)×zh5)}{l:List Pt}{L:Go.Kn.Loc}(h:zhX ms l)(hA:VH e 19 (ms.map (·.2)) L)(hI:∀ b o,(b,o)∈L→I b=some o)(q:Int×Int):
  ∃ av c,((ZH ms q).getD JA).1= .slice av (stF l q.1 q.2).length c∧Sl I 19 YK av (stF l q.1 q.2).length c (stF l q.1 q.2):=by
 obtain ⟨A,Lt,B,rfl,hO,_⟩:=hA.at q
 rw [h q] at hO
 obtain ⟨av,c,e1,e2⟩:=hO.sl Q8 (by decide) (fun b o hb=>hI b o (by simp [hb]))
 have hn:=e2.len
 rw [←hn] at e1 e2
 exact ⟨av,c,e1,e2⟩
/-! ### Signs that are known -/
def zcS (s:List (Int×Bool))(bs:List Sg)(l:List Pt):Prop:=∀ x,zgG s x=(WH bs x||zhD l x)
theorem zk2 {bs:List Sg}{k:Nat}{b:Sg}(hb:bs[k]? =some b)(x:Int):WH (bs.take (k+1)) x=(decide (b.id=x)||WH (bs.take k) x):=by
 unfold WH
 rw [Z6 hb,List.any_append,Bool.eq_iff_iff]
 simp [or_comm]
theorem zcT (l:List Pt)(p:Pt)(x:Int):zhD (l++[p]) x=(zhD l x||(p.kind==2&&p.sign==x)):=by
 unfold zhD
 rw [List.any_append];simp
theorem zcS.put {s:List (Int×Bool)}{bs:List Sg}{l:List Pt}{p:Pt}(h:zcS s bs l)(hk:p.kind=2):zcS (YE s p.sign true) bs (l++[p]):=fun x=>by
 rw [XN,h x,zcT,hk,Bool.eq_iff_iff]
 simp only [Bool.or_eq_true,decide_eq_true_eq,Bool.and_eq_true,beq_iff_eq,true_and]
 constructor
 ·
  rintro (h | h | h)
  ·
   exact .inr (.inr h)
  ·
   exact .inl h
  ·
   exact .inr (.inl h)
 ·
  rintro (h | h | h)
  ·
   exact .inr (.inl h)
  ·
   exact .inr (.inr h)
  ·
   exact .inl h
theorem zcS.skip {s:List (Int×Bool)}{bs:List Sg}{l:List Pt}{p:Pt}(h:zcS s bs l)(hk:p.kind≠2):zcS s bs (l++[p]):=fun x=>by
 rw [h x,zcT,show (p.kind==2)=false by simpa using hk,Bool.false_and,Bool.or_false]
theorem zhg {s:List (Int×Bool)}{bs:List Sg}{n:Nat}(h:∀ x,zgG s x=WH (bs.take n) x)(hn:bs.length≤n):zcS s bs []:=fun x=>by
 rw [h x,List.take_of_length_le hn];simp [zhD]
theorem zrM {ps:List Pt}(hL:Lst ps){k:Nat}{p q:Pt}(hp:ps[k]? =some p)(hq:q∈ps)(h:q.id<p.id):q∈ps.take k:=by
 obtain ⟨j,hj⟩:=List.getElem?_of_mem hq
 obtain ⟨hj1,hj2⟩:=List.getElem?_eq_some_iff.1 hj
 obtain ⟨hk1,hk2⟩:=List.getElem?_eq_some_iff.1 hp
 rw [List.mem_take_iff_getElem]
 refine ⟨j,?_,hj2⟩
 have hjk:j<k:=by
  rcases Nat.lt_or_ge j k with h3 | h3
  ·
   exact h3
  ·
   exfalso
   by_cases e:k=j
   ·
    subst e;rw [hp] at hj;cases hj;omega
   ·
    have:=List.pairwise_iff_getElem.1 hL.inc k j hk1 hj1 (by omega)
    rw [hj2,hk2] at this;omega
 omega
theorem zbZ {l:List Pt}{s:Int}:zhD l s=true↔ ∃ q∈l,q.kind=2∧q.sign=s:=by
 unfold zhD
 rw [List.any_eq_true];simp
theorem zg0 {ps:List Pt}{ws:List Int}{bs:List Sg}{k:Nat}{p:Pt}{kn:Bool}(hS:Sto ps)(hp:ps[k]? =some p)(_hin:(ws.any fun x=>x==p.id)=true)(hkn:kn=(WH bs p.sign||zhD (YZ (ps.take k) ws) p.sign)):
  (kn==(p.kind==2))= !zt2 bs (YZ ps ws) p:=by
 subst hkn
 have hpm:=List.mem_of_getElem? hp
 unfold zt2
 by_cases hk:p.kind=2
 ·
  have h1:zhD (YZ (ps.take k) ws) p.sign=false:=by
   rw [Bool.eq_false_iff]
   intro hc
   obtain ⟨q,hq,hq2,hqs⟩:=zbZ.1 hc
   obtain ⟨hq1,_⟩:=Vp.1 hq
   have hlt:=hS.lst.fresh hp q hq1
   rcases hS.ins hpm (List.mem_of_mem_take hq1) hqs.symm hq2 with rfl | ⟨h,_⟩
   ·
    omega
   ·
    exact h hk
  rw [h1,hk];simp
 ·
  have h1:zhD (YZ (ps.take k) ws) p.sign=zhD (YZ ps ws) p.sign:=by
   rw [Bool.eq_iff_iff,zbZ,zbZ]
   constructor
   ·
    rintro ⟨q,hq,h⟩
    obtain ⟨hq1,hq2⟩:=Vp.1 hq
    exact ⟨q,Vp.2 ⟨List.mem_of_mem_take hq1,hq2⟩,h⟩
   ·
    rintro ⟨q,hq,h2,hs⟩
    obtain ⟨hq1,hq2⟩:=Vp.1 hq
    rcases hS.ins hpm hq1 hs.symm h2 with rfl | ⟨_,h⟩
    ·
     exact absurd h2 hk
    ·
     exact ⟨q,Vp.2 ⟨zrM hS.lst hp hq1 (hS.lst.on_lt h).1,hq2⟩,h2,hs⟩
  rw [h1,show (p.kind==2)=false by simpa using hk]
  have:(p.kind != 2)=true:=by simpa using hk
  rw [this]
  cases WH bs p.sign<;>cases zhD (YZ ps ws) p.sign<;>rfl
/-! ### Signs that are inserted -/
def zbS (l:List Pt):List Sg:=(l.filter fun p=>p.kind==2).map (·.nw)
theorem zlZ {l:List Pt}{p:Pt}(h:p.kind=2):zbS (l++[p])=zbS l++[p.nw]:=by
 unfold zbS;rw [List.filter_append];simp [h]
theorem zb9 {l:List Pt}{p:Pt}(h:p.kind≠2):zbS (l++[p])=zbS l:=by
 unfold zbS;rw [List.filter_append];simp [h]
theorem zlV (xs:List Sg)(k:Sg):(zg9 xs k).Perm (k::xs):=by
 unfold zg9
 refine List.perm_middle.trans (List.Perm.cons _ ?_)
 rw [List.takeWhile_append_dropWhile]
theorem zbY:∀ (l:List Pt) (bs:List Sg),(Xj bs l).Perm (bs++zbS l)
 | [],bs=>by unfold Xj zbS;simp
 | p::l,bs=>by
  have h:=zbY l (if p.kind=2 then zg9 bs p.nw else bs)
  have e:Xj bs (p::l)=Xj (if p.kind=2 then zg9 bs p.nw else bs) l:=rfl
  rw [e]
  refine h.trans ?_
  by_cases hk:p.kind=2
  ·
   rw [if_pos hk]
   have e2:zbS (p::l)=p.nw::zbS l:=by unfold zbS;simp [hk]
   rw [e2]
   exact ((zlV bs p.nw).append_right _).trans List.perm_middle.symm
  ·
   rw [if_neg hk]
   have e2:zbS (p::l)=zbS l:=by unfold zbS;simp [hk]
   rw [e2]
theorem zko {xs ys:List Sg}(h1:Srt xs)(h2:Srt ys)(hp:∀ a,a∈xs↔a∈ys):xs=ys:=by
 have key:∀ {xs ys:List Sg},Srt ys→(∀ a∈xs,a∈ys)→∀ s x,YB xs s=some x→YB ys s=some x:=fun h hm s x hx=>by
  have:=zlj h (hm x (zgK hx))
  rw [ztE hx] at this
  exact this
 refine zrT h1 h2 fun s=>?_
 cases hx:YB xs s with
 | some x=>exact (key h2 (fun a ha=>(hp a).1 ha) s x hx).symm
 | none=>
  cases hy:YB ys s with
  | none=>rfl
  | some y=>rw [key h1 (fun a ha=>(hp a).2 ha) s y hy] at hx;cases hx
theorem zmB {bs zs:List Sg}{l:List Pt}(hb:Srt bs)(hS:Sto l)(hf:zhP bs l=true)(hp:zs.Perm (bs++zbS l))(hs:zs.Pairwise (fun x y=>Go.Proofs.ltOf zo2 y x=false)):zs=Xj bs l:=by
 have h1:=(zmL hb hS hf).1
 have hp2:=zbY l bs
 have hnd:((Xj bs l).map (·.id)).Nodup:=by
  rw [List.nodup_iff_pairwise_ne,List.pairwise_map]
  exact List.Pairwise.imp (fun {a b} h=>by omega) h1
 have hnd2:((bs++zbS l).map (·.id)).Nodup:=(hp2.map (·.id)).nodup_iff.1 hnd
 exact zko (znq hp hs hnd2) h1 fun a=>(hp.trans hp2.symm).mem_iff
/-! ### The state -/
def zxS (I:Qw)(r:Nat)(l:List Pt):Prop:=∃ ms:List ((Int×Int)×zh5),I r=some (Z0 YR Xr ms)∧∀ q:Int×Int,∃ av c,((ZH ms q).getD JA).1= .slice av (stF l q.1 q.2).length c∧Sl I 19 YK av (stF l q.1 q.2).length c (stF l q.1 q.2)
theorem zxS.mono {I I':Qw}{r:Nat}{l:List Pt}(h:zxS I r l)(hI:HLe I I'):zxS I' r l:=by
 obtain ⟨ms,h1,h2⟩:=h
 exact ⟨ms,hI _ _ h1,fun q=>by obtain ⟨av,c,h3,h4⟩:=h2 q;exact ⟨av,c,h3,h4.mono hI⟩⟩
def zxZ (I:Qw)(r:Nat)(l:List Pt):Prop:=∃ mr:List (Int×zh5),I r=some (Z0 (Value.int .i64) Xr mr)∧∀ s,∃ av c,((ZH mr s).getD JA).1= .slice av (rmF l s).length c∧Sl I 1 QP av (rmF l s).length c (rmF l s)
theorem zxZ.mono {I I':Qw}{r:Nat}{l:List Pt}(h:zxZ I r l)(hI:HLe I I'):zxZ I' r l:=by
 obtain ⟨mr,h1,h2⟩:=h
 exact ⟨mr,hI _ _ h1,fun s=>by obtain ⟨av,c,h3,h4⟩:=h2 s;exact ⟨av,c,h3,h4.mono hI⟩⟩
structure StQ (I:Qw)(ps l:List Pt)(xs:List Sg)(r1 r2 r3:Nat)(av:Option Addr)(n c:Nat):Prop where
 on:OnM I r1 ps
 set:zxS I r2 l
 rem:zxZ I r3 l
 sg:Sl I 14 Vy av n c xs
 sub:∀ p∈l,p∈ps
 nd:∀ p∈ps,Nd I p
 lst:Lst ps
 few:ps.length≤512
 fewl:l.length≤512
theorem StQ.mono {I I':Qw}{ps l:List Pt}{xs:List Sg}{r1 r2 r3:Nat}{av:Option Addr}{n c:Nat}(h:StQ I ps l xs r1 r2 r3 av n c)(hI:HLe I I'):StQ I' ps l xs r1 r2 r3 av n c:=
 ⟨h.on.mono hI,h.set.mono hI,h.rem.mono hI,h.sg.mono hI,h.sub,fun p hp=>(h.nd p hp).mono hI,h.lst,h.few,h.fewl⟩
def stA (r1 r2 r3:Nat)(av:Option Addr)(n c:Nat):Value:=.agg #[.map (some r1),.map (some r2),.map (some r3),.slice av n c]
def RdQ (e:Int)(ps l:List Pt)(xs:List Sg):Value→Qw→Go.Kn.Loc→Prop:=fun v I' L=>L=[]∧∃ m1 m2 m3 av n c,v= .tuple #[.agg #[.map m1,.map m2,.map m3,.slice av n c],.int .i64 e]∧(e=0→∃ r1 r2 r3,m1=some r1∧m2=some r2∧m3=some r3∧StQ I' ps l xs r1 r2 r3 av n c)
theorem zrn {ps:List Pt}{bs:List Sg}{ws:List Int}(h:Uc ps≠0):X0 ps bs ws=Uc ps:=by unfold X0;rw [if_pos h]
theorem ztI {ps:List Pt}{bs:List Sg}{ws:List Int}(h:Uc ps=0)(h2:WM bs≠0):X0 ps bs ws=WM bs:=by unfold X0;rw [if_neg (by omega),if_pos h2]
theorem zxk {ps:List Pt}{bs:List Sg}{ws:List Int}(h:Uc ps=0)(h2:WM bs=0)(h3:vrE ps ws≠0):X0 ps bs ws=vrE ps ws:=by
 unfold X0;rw [if_neg (by omega),if_neg (by omega)]
 unfold vrE at*
 split
 ·
  rfl
 ·
  rename_i h4
  rw [if_neg h4] at h3
  cases hv:zlK ps ws with
  | true=>rw [hv] at h3;exact absurd rfl h3
  | false=>rfl
theorem zpN {ps:List Pt}{ws:List Int}(h:vrE ps ws=0):¬ws.length>512:=fun h2=>by unfold vrE at h;rw [if_pos h2] at h;cases h
theorem zwK {ps:List Pt}{bs:List Sg}{ws:List Int}(h:Uc ps=0)(h2:WM bs=0)(h3:vrE ps ws=0)(h4:zhP bs (YZ ps ws)=false):X0 ps bs ws=380:=by
 unfold X0;rw [if_neg (by omega),if_neg (by omega),if_neg (zpN h3),h4,Bool.and_false];rfl
theorem zzp {ps:List Pt}{bs:List Sg}{ws:List Int}(h:Uc ps=0)(h2:WM bs=0)(h3:vrE ps ws=0)(h4:zhP bs (YZ ps ws)=true):X0 ps bs ws=0:=by
 unfold X0;rw [if_neg (by omega),if_neg (by omega),if_neg (zpN h3),h4,zpp h3];rfl
theorem zri {ps:List Pt}{bs:List Sg}{ws:List Int}{p:Pt}(hp:p∈ps)(hin:(ws.any fun x=>x==p.id)=true)(h:zt2 bs (YZ ps ws) p=false):zhP bs (YZ ps ws)=false:=by
 unfold zhP
 exact List.all_eq_false.2 ⟨p,List.mem_filter.2 ⟨hp,hin⟩,by rw [h];exact Bool.false_ne_true⟩
theorem zu1 {x a b c:Nat×Obj}{Lg Ls Lr:Go.Kn.Loc}:(x::(Lg++(a::b::c::(Ls++Lr)))).Perm (Lg++(x::a::b::c::(Ls++Lr))):=List.perm_middle.symm
theorem zxC {x a b c:Nat×Obj}{Lg A L B Lr:Go.Kn.Loc}:(x::(Lg++(a::b::c::((A++(L++B))++Lr)))).Perm (L++(x::(Lg++(a::b::c::(A++(B++Lr)))))):=by
 have h1:((A++(L++B))++Lr).Perm (L++(A++(B++Lr))):=by
  rw [List.append_assoc,List.append_assoc];exact List.perm_append_comm_assoc A L _
 have h2:(x::(Lg++(a::b::c::((A++(L++B))++Lr)))).Perm (x::(Lg++(a::b::c::(L++(A++(B++Lr)))))):=((h1.cons c |>.cons b |>.cons a).append_left Lg).cons x
 refine h2.trans ?_
 have h3:(a::b::c::(L++(A++(B++Lr)))).Perm (L++(a::b::c::(A++(B++Lr)))):=List.perm_append_comm_assoc [a,b,c] L _
 refine ((h3.append_left Lg).cons x).trans ?_
 exact List.perm_append_comm_assoc (x::Lg) L _
theorem zph {x a b c:Nat×Obj}{Lg A L B Ls:Go.Kn.Loc}:(x::(Lg++(a::b::c::(Ls++(A++(L++B)))))).Perm (L++(x::(Lg++(a::b::c::(Ls++(A++B)))))):=by
 have h1:(Ls++(A++(L++B))).Perm (L++(Ls++(A++B))):=by
  refine ((List.perm_append_comm_assoc A L B).append_left Ls).trans (List.perm_append_comm_assoc Ls L _)
 have h2:=((h1.cons c |>.cons b |>.cons a).append_left Lg).cons x
 refine h2.trans ?_
 have h3:(a::b::c::(L++(Ls++(A++B)))).Perm (L++(a::b::c::(Ls++(A++B)))):=List.perm_append_comm_assoc [a,b,c] L _
 refine ((h3.append_left Lg).cons x).trans ?_
 exact List.perm_append_comm_assoc (x::Lg) L _
end
section
open Go Go.Kn Go.Proofs
theorem zxi {I:Qw}{av:Option Addr}{n c:Nat}{ps:List Pt}(hP:SlP I av n c ps)(hn:n≤100000){bv:Option Addr}{n2 c2:Nat}{bs:List Sg}(hB:Sl I 14 Vy bv n2 c2 bs)(hn2:n2≤100000){dv:Option Addr}{n3 c3:Nat}{ws:List Int}(hV:Sl I 1 QP dv n3 c3 ws)(hn3:n3≤100000):Z4 Tryz.prog 83 [.slice av n c,.slice bv n2 c2,.slice dv n3 c3] I [] (RdQ (X0 ps bs ws) ps (YZ ps ws) (Xj bs (YZ ps ws))):=by
 intro g H w hw
 refine qe Tryz.func83 Tryz.ntmps83 hw ?_
 have hIc:=zAl I
 refine zR ?_
 refine Qv zpX rfl rfl (fun b_6=>?_)
 refine zA (zN (Qk (zR ?_)))
 refine zM ?_
 refine qc (vs:=[_]) rfl zwG (zuf hP hn) ?_
 refine zA ?_
 refine zN (zR ?_)
 refine zM ?_
 refine zC (zN ?_)
 refine zI ?_ ?_<;>intro hc19
 ·
  have hck:Uc ps≠0:=by simpa using hc19
  refine zR ?_
  refine zV (Qq rfl Vm (fun hg=>by exact Cells.g0) rfl) ?_
  refine zM ?_
  refine zh UO ?_
  refine zA (zN (Qs (Qb ?_)))
  first
  | exact Zp rfl rfl rfl Vm (by repeat (first | exact zAj | apply zAi | apply zAk)) rfl (fun w hw=>⟨_,I,[],rfl,hIc,hw.drop,rfl,_,_,_,_,_,_,by rw [zrn hck],fun h0=>absurd h0 (by rw [zrn hck];exact hck)⟩)
 have hck:Uc ps=0:=by simpa using hc19
 have hn5:n≤512:=by have:=(UH hck).1;rw [hP.len] at this;omega
 have hL:=zcB hck
 have hnd:=zvf hP hck
 have hSto:=zbV hck
 refine Qo (Qa (Qk (zR (zM ?_))))
 refine qc (vs:=[_]) rfl ze4 (zfE hB hn2) ?_
 refine zA ?_
 refine zN (zR ?_)
 refine zM ?_
 refine zC (zN ?_)
 refine zI ?_ ?_<;>intro hc25
 ·
  have hcg:WM bs≠0:=by simpa using hc25
  refine zR ?_
  refine zV (Qq rfl Vm (fun hg=>by exact Cells.g0) rfl) ?_
  refine zM ?_
  refine zh UO ?_
  refine zA (zN (Qs (Qb ?_)))
  first
  | exact Zp rfl rfl rfl Vm (by repeat (first | exact zAj | apply zAi | apply zAk)) rfl (fun w hw=>⟨_,I,[],rfl,hIc,hw.drop,rfl,_,_,_,_,_,_,by rw [ztI hck hcg],fun h0=>absurd h0 (by rw [ztI hck hcg];exact hcg)⟩)
 have hcg:WM bs=0:=by simpa using hc25
 refine Qo (Qa (Qk (zR (zM ?_))))
 refine zM ?_
 refine qc (vs:=[_,_]) rfl zvw (zk3 hP hn5 hL hnd hV hn3) ?_
 refine zA ?_
 refine zN (zR ?_)
 refine zM ?_
 refine zC (zN ?_)
 refine zI ?_ ?_<;>intro hc32
 ·
  have hcv:vrE ps ws≠0:=by simpa using hc32
  refine zR ?_
  refine zV (Qq rfl Vm (fun hg=>by exact Cells.g0) rfl) ?_
  refine zM ?_
  refine zh UO ?_
  refine zA (zN (Qs (Qb ?_)))
  first
  | exact Zp rfl rfl rfl Vm (by repeat (first | exact zAj | apply zAi | apply zAk)) rfl (fun w hw=>⟨_,I,[],rfl,hIc,hw.drop,rfl,_,_,_,_,_,_,by rw [zxk hck hcg hcv],fun h0=>absurd h0 (by rw [zxk hck hcg hcv];exact hcv)⟩)
 have hcv:vrE ps ws=0:=by simpa using hc32
 have hVer:=(zg4 hL).1 (zpp hcv)
 refine Qo (Qa (zR (zM ?_)))
 refine QA (cap:=[]) (vs:=[_]) rfl rfl zh6 .nil (zcx hP hn hL hnd) rfl rfl ?_
 rintro vv1 I1 L1 hI1 ⟨rfl,r9,rfl,hOn⟩
 have hP:=hP.mono hI1;have hB:=hB.mono hI1;have hV:=hV.mono hI1;have hIc:=hIc.trans hI1
 refine ZU rfl rfl (fun r_37=>?_)
 refine ZU rfl rfl (fun r_38=>?_)
 refine zM ?_
 refine QA (cap:=[]) (vs:=[_]) rfl rfl zra .nil (znm hB (by omega)) rfl rfl ?_
 rintro vv2 I2 L2 hI2 ⟨rfl,hO⟩
 have hP:=hP.mono hI2;have hB:=hB.mono hI2;have hV:=hV.mono hI2;have hOn:=hOn.mono hI2;have hIc:=hIc.trans hI2
 obtain ⟨Lg,hLg⟩:∃ Lg,Lg=L2:=⟨_,rfl⟩
 subst hLg
 obtain ⟨vg,hvg⟩:∃ z,z=vv2:=⟨_,rfl⟩
 subst hvg
 obtain ⟨va,vn,vc,rfl⟩:=hO.val
 refine zV (QQ (ps:=[(0,_),(1,_),(2,_),(3,_)]) [_,_,_,_] zqq rfl rfl) ?_
 refine YG rfl rfl UO rfl rfl rfl rfl (by (repeat (first | exact Upd.here | apply Upd.there | apply QM))) ?_
 refine zN (zR ?_)
 refine ZU rfl rfl (fun r_42=>?_)
 refine zA (zN (Qk (zR ?_)))
 refine zM ?_
 refine zQ VF ?_
 refine zM (zN (Ql ?_))
 refine zU [(0,_),(2,_),(6,_),(8,_),(43,_),(44,_)] (fun T L0 mz E I' loc'=>∃ (k:Nat) (s:List (Int×Bool)),mz=n2-k∧E=(45,.int .i64 k)::T∧I2=I'∧(r_42,Z0 (Value.int .i64) Value.bool s)::(Lg++[(r_38,Z0 (Value.int .i64) Xr []),(r_37,Z0 YR Xr []),(b_6,.cells #[.map (some r9),.map (some r_37),.map (some r_38),.slice va vn vc] 159 (0,0))])=loc'∧k≤n2∧∀ x,zgG s x=WH (bs.take k) x) ?_ (h:=⟨0,[],rfl,rfl,rfl,rfl,Nat.zero_le _,fun x=>rfl⟩)
 rintro mz E I' loc' ⟨k,s,rfl,rfl,rfl,rfl,hk,hs⟩
 refine zR (zC (zN (Qk ?_)))
 refine zI ?_ ?_<;>intro hc46
 ·
  have hlt_k:k<n2:=by have h:=hc46;simp at h;omega
  obtain ⟨b,hb⟩:=hB.at hlt_k
  refine Qo (Qa (Qk (Ql (zR ?_))))
  refine zV (Qz rfl rfl VF (by assumption) (fun hg=>by omega)) ?_
  refine zV (Qq rfl ZI (fun hg=>by exact zAm hB hb) rfl) ?_
  refine Qv Wg rfl rfl (fun b_10=>?_)
  refine zh Y5 ?_
  refine zN (Qf (zM ?_))
  refine zF Z9 ?_
  refine zL Qr ?_
  refine Zd (m:=s) (ek:=Value.int .i64) (ev:=Value.bool) (a:=b.id) true VO ZQ rfl rfl rfl rfl (by repeat (first | exact Upd.here | apply Upd.there | apply QM)) ?_
  refine Qc (Qg (Qa (Qf (zB ?_))))
  refine zM (Qc ?_)
  exact zm (h:=⟨n2-(k+1),by omega,k+1,_,rfl,rfl,rfl,rfl,by omega,fun x=>by rw [XN,hs,zk2 hb]⟩)
 have hge_k:n2≤k:=by have h:=hc46;simp at h;omega
 have hkn:=zhg hs (by rw [hB.len];exact hge_k)
 refine QH (Qe (Qe (Qj (Qa (Qk (zR (zM ?_)))))))
 refine zQ ZJ ?_
 refine zM (zN (Ql ?_))
 refine zU [(2,_),(6,_),(8,_),(53,_),(54,_)] (fun T L0 mz E I' loc'=>∃ (k:Nat) (s:List (Int×Bool)) (vg:Value) (q:Nat) (Lg:Go.Kn.Loc) (ms:List ((Int×Int)×zh5)) (Ls:Go.Kn.Loc) (mr:List (Int×zh5)) (Lr:Go.Kn.Loc),mz=n-k∧E=(55,.int .i64 k)::T∧I2=I'∧(r_42,Z0 (Value.int .i64) Value.bool s)::(Lg++((r_38,Z0 (Value.int .i64) Xr mr)::(r_37,Z0 YR Xr ms)::(b_6,.cells #[.map (some r9),.map (some r_37),.map (some r_38),vg] 159 (0,0))::(Ls++Lr)))=loc'∧k≤n∧zcS s bs (YZ (ps.take k) ws)∧OwnS 54 14 vg q ((bs++zbS (YZ (ps.take k) ws)).flatMap Vy) Lg∧q≤n2+k∧zhX ms (YZ (ps.take k) ws)∧VH 57 19 (ms.map (·.2)) Ls∧Xm mr (YZ (ps.take k) ws)∧VH 3 1 (mr.map (·.2)) Lr∧(YZ (ps.take k) ws).all (zt2 bs (YZ ps ws))=true) ?_ (h:=⟨0,s,_,n2,Lg,[],[],[],[],rfl,rfl,rfl,rfl,Nat.zero_le _,hkn,by rw [show bs++zbS (YZ (ps.take 0) ws)=bs from List.append_nil _];exact hO,Nat.le_refl _,zhX.start,VH.nil,Xm.start,VH.nil,rfl⟩)
 rintro mz E I' loc' ⟨k,s,vg,q,Lg,ms,Ls,mr,Lr,rfl,rfl,rfl,rfl,hk,hkn,hO,hq,hsm,hAllS,hrm,hAllR,hfit⟩
 obtain ⟨va,vn,vc,rfl⟩:=hO.val
 refine zR (zC (zN (Qk ?_)))
 refine zI ?_ ?_<;>intro hc56
 ·
  have hlt_k:k<n:=by have h:=hc56;simp at h;omega
  have hP1:=hP.1
  obtain ⟨p,hp,hN⟩:=hP.at hlt_k
  have hpm:=List.mem_of_getElem? hp
  have hN:Sl I2 1 QP p.a p.n p.c p.needs:=hN
  have hpn:=hnd p hpm
  refine Qo (Qa (Qk (Ql (zR ?_))))
  refine zV (Qz rfl rfl ZJ (by assumption) (fun hg=>by omega)) ?_
  refine zV (Qq rfl YL (fun hg=>by exact zAm hP1 hp) rfl) ?_
  refine Qv UD rfl rfl (fun b_12=>?_)
  refine zh JD ?_
  refine zN (Qk (zR (zM ?_)))
  refine zF ZF ?_
  refine zL Qr ?_
  refine qc (vs:=[_,_]) rfl zsv (zx6 hV hn3 hVer.inc _) ?_
  refine zM ?_
  refine zE ?_
  refine zE ?_
  refine zA ?_
  refine zA ?_
  refine zN (zR ?_)
  refine zM ?_
  refine zO (zN ?_)
  refine zI ?_ ?_<;>intro hc67
  ·
   have hin:(ws.any fun x=>x==p.id)=false:=(Bool.not_eq_true' _).mp hc67
   have hT:=zsj hp hin
   refine QH (Qe (Qj (Qa (Qf (zB ?_)))))
   refine zM (Qc ?_)
   first
   | exact zm (h:=⟨n-(k+1),by omega,k+1,_,_,_,_,_,_,_,_,rfl,rfl,rfl,rfl,by omega,by rw [hT];exact hkn,by rw [hT];exact hO,by omega,by rw [hT];exact hsm,hAllS,by rw [hT];exact hrm,hAllR,by rw [hT];exact hfit⟩)
  have hin:(ws.any fun x=>x==p.id)=true:=(Bool.not_eq_false' _).mp hc67
  have hT:=zmH hp hin
  refine Qo (Qa (Qk (zR (zM ?_))))
  refine zF Yf ?_
  refine zL Qr ?_
  refine zV (Yt (m:=s) VO ZQ rfl rfl (fun _=>(by exact Mem.m1))) ?_
  refine zF Ue ?_
  refine zL Qr ?_
  refine zC ?_
  refine zV (znU rfl rfl zyg) ?_
  refine zN ?_
  refine zI ?_ ?_<;>intro hc75
  ·
   have h75:(zgG s p.sign==(p.kind==2))=true:=hc75
   rw [zg0 hSto hp hin (hkn p.sign)] at h75
   have hfp:=(Bool.not_eq_true' _).mp h75
   have hfb:=zri hpm hin hfp
   refine zR ?_
   refine zV (Qq rfl Vm (fun hg=>by (repeat (first | exact zAj | apply zAi | apply zAk))) rfl) ?_
   refine YG rfl rfl UO rfl rfl rfl rfl (by (repeat (first | exact Upd.here | apply Upd.there | apply QM))) ?_
   refine zA (zN (Qs (Qb (Qm (Qb (Qb (Qm ?_)))))))
   refine Qb ?_
   first
   | exact Zp rfl rfl rfl Vm (by repeat (first | exact zAj | apply zAi | apply zAk)) rfl (fun w hw=>⟨_,I2,[],rfl,hIc,hw.drop,rfl,_,_,_,_,_,_,by rw [zwK hck hcg hcv hfb],fun h0=>absurd h0 (by rw [zwK hck hcg hcv hfb];exact (by decide))⟩)
  have h75:(zgG s p.sign==(p.kind==2))=false:=hc75
  rw [zg0 hSto hp hin (hkn p.sign)] at h75
  have hfp:=(Bool.not_eq_false' _).mp h75
  refine Qo (Qa (zR ?_))
  refine zF Ue ?_
  refine zL Qr ?_
  refine zN (Ql (zR (zC ?_)))
  refine zA (zN ?_)
  refine zI ?_ ?_<;>intro hc79
  ·
   have hk2:p.kind=2:=by simpa using hc79
   refine zR (zM ?_)
   refine zF Yf ?_
   refine zL Qr ?_
   refine Zd (m:=s) (ek:=Value.int .i64) (ev:=Value.bool) (a:=p.sign) true VO ZQ rfl rfl rfl rfl (by repeat (first | exact Upd.here | apply Upd.there | apply QM)) ?_
   refine zN (Qf ?_)
   refine zF UW ?_
   refine zV (Qd rfl zdC (fun hg=>by (repeat (first | exact zAg rfl | apply zAf | apply zAh)))) ?_
   refine zF Jt ?_
   refine zV (Qq rfl ZI (fun hg=>by exact Cells.s0 (vs:=[_,_,_,_,_,_,_,_,_,_,_,_,_,_]) rfl) rfl) ?_
   refine Qp (ps:=[(0,_)]) (m:=[Vy p.nw]) Uw rfl (.cons rfl (.nil)) rfl (by simp [Z8]) (by decide) (by decide) rfl rfl (fun b_88=>?_)
   refine QU (v:=_) (ys:=[p.nw].flatMap Vy) (L:=Lg) rfl rfl Uw hO (by repeat (first | exact .cons .here .nil | exact QD | exact Qy | apply QC | apply QB)) ⟨rfl,fun _=>rfl,zAj⟩ (znJ [p.nw]) (by omega) rfl rfl ?_
   intro v9 L9 hO9 _;rw [←List.flatMap_append] at hO9;obtain ⟨va9,vn9,vc9,rfl⟩:=hO9.val
   refine zF UW ?_
   refine ZE rfl rfl zoY rfl rfl (by (repeat (first | exact Upd.here | apply Upd.there | apply QM))) rfl ?_
   refine Qc (Qg (Qg (Qa (Qf (zB ?_)))))
   refine zM (Qc ?_)
   first
   | exact JI _ _ (L9++((r_42,_)::(r_38,_)::(r_37,_)::(b_6,_)::(Ls++Lr))) ⟨n-(k+1),by omega,k+1,_,_,_,L9,ms,Ls,mr,Lr,rfl,rfl,rfl,rfl,by omega,by rw [hT];exact hkn.put hk2,by rw [hT,zlZ hk2,←List.append_assoc];exact hO9,by omega,by rw [hT];exact hsm.skip (by omega),hAllS,by rw [hT];exact hrm.skip' (by omega),hAllR,by rw [hT,List.all_append,hfit];simp [hfp]⟩ (.cons rfl (.cons rfl (.cons rfl (.cons rfl (.cons rfl (.cons rfl .nil)))))) zu1 (by repeat (first | exact .refl | exact Zg | refine Yu ?_ | refine .drop ?_ | refine Ya ?_))
  have hk2n:p.kind≠2:=by simpa using hc79
  refine zR (zC ?_)
  refine zA (zN ?_)
  refine zI ?_ ?_<;>intro hc91
  ·
   have hk1:p.kind=1:=by simpa using hc91
   refine zR ?_
   refine zF Yf ?_
   refine zL Qr ?_
   refine zF JT ?_
   refine zL Qr ?_
   refine zV (ZC (ps:=[(0,_),(1,_)]) [_,_] Y1 KI rfl rfl) ?_
   refine Qv KI rfl rfl (fun b_15=>?_)
   refine zh ziV ?_
   refine zN ?_
   obtain ⟨A,Lt,B,hLs,hOt,hset⟩:=hAllS.at (p.sign,p.field)
   subst hLs
   rw [List.append_assoc A,List.append_assoc Lt]
   have hq0:=zwx hsm hOt
   have hq2:(YZ (ps.take k) ws).length≤k:=Nat.le_trans (List.length_filter_le ..) (List.length_take_le k ps)
   refine Qf ?_
   refine zF zaw ?_
   refine zV (Qd rfl zeu (fun hg=>by (repeat (first | exact zAg rfl | apply zAf | apply zAh)))) ?_
   refine zV (Qq rfl za0 (fun hg=>by exact Cells.g0) rfl) ?_
   refine zV (Qq rfl YL (fun hg=>by exact Cells.g1) rfl) ?_
   refine Qp (ps:=[(0,_)]) (m:=[YK p]) WC rfl (.cons rfl (.nil)) rfl (by simp [Q8]) (by decide) (by decide) rfl rfl (fun b_103=>?_)
   refine zen (m:=ms) (ek:=YR) (ev:=Xr) (a:=(p.sign,p.field)) JA rfl ze6 zdk rfl rfl rfl rfl (by (repeat (first | exact Upd.here | apply Upd.there | apply QM))) ?_
   refine zE ?_
   refine QU (v:=_) (ys:=[p].flatMap YK) (L:=Lt) rfl rfl WC hOt (by repeat (first | exact .cons .here .nil | exact QD | exact Qy | apply QC | apply QB)) ⟨rfl,fun _=>rfl,zAj⟩ (zme [p]) (by omega) rfl rfl ?_
   intro v9 L9 hO9 _
   refine zE ?_
   refine zcg (ek:=YR) (ev:=Xr) (m:=YE ms (p.sign,p.field) ((ZH ms (p.sign,p.field)).getD JA)) (a:=(p.sign,p.field)) (v9,((ZH ms (p.sign,p.field)).getD JA).2.1+1,((ZH ms (p.sign,p.field)).getD JA).2.2++[p].flatMap YK) ((ZH ms (p.sign,p.field)).getD JA) (by rw [YI,if_pos rfl]) rfl (by rw [zkH];exact rfl) rfl rfl (by repeat (first | exact Upd.here | apply Upd.there | apply QM)) ?_
   rw [zdz]
   refine Qc (Qg (Qg (Qa (Qf (zB ?_)))))
   refine zM (Qc ?_)
   first
   | exact JI _ _ (L9++((r_42,_)::(Lg++((r_38,_)::(r_37,_)::(b_6,_)::(A++(B++Lr)))))) ⟨n-(k+1),by omega,k+1,s,_,q,Lg,_,A++(L9++B),mr,Lr,rfl,rfl,rfl,rfl,by omega,by rw [hT];exact hkn.skip (by omega),by rw [hT,zb9 (by omega)];exact hO,by omega,by rw [hT];exact hsm.put hk1,hset (v9,_,_) L9 hO9,by rw [hT];exact hrm.skip' (by omega),hAllR,by rw [hT,List.all_append,hfit];simp [hfp]⟩ (.cons rfl (.cons rfl (.cons rfl (.cons rfl (.cons rfl (.cons rfl .nil)))))) zxC (by repeat (first | exact .refl | exact Zg | refine Yu ?_ | refine .drop ?_ | refine Ya ?_))
  have hk1n:p.kind≠1:=by simpa using hc91
  refine zR (zC ?_)
  refine zA (zN ?_)
  refine zI ?_ ?_<;>intro hc107
  ·
   have hk3:p.kind=3:=by simpa using hc107
   obtain ⟨A,Lt,B,hLr,hOt,hset⟩:=hAllR.at p.sign
   subst hLr
   have hq0:=zoI hrm hOt
   have hq2:(YZ (ps.take k) ws).length≤k:=Nat.le_trans (List.length_filter_le ..) (List.length_take_le k ps)
   have hD:=zAl I2
   refine JH ?_
   refine Z7 I2 [(b_12,.cells (YK p).toArray 57 (0,0)),(b_6,.cells #[.map (some r9),.map (some r_37),.map (some r_38),.slice va vn vc] 159 (0,0))] mixed ?_
   refine zT 0 rfl (Qi rfl WD) hD ?_
   refine zT 1 rfl (Qd rfl zfK (fun hg=>by exact QY.h1 rfl)) hD ?_
   refine zT 2 rfl (Qi rfl Yf) hD ?_
   refine zT 3 rfl (Qd rfl Qr (fun hg=>by exact QY.h0 rfl)) hD ?_
   refine zT 4 rfl (Qi rfl WD) hD ?_
   refine zT 5 rfl (Qd rfl zfK (fun hg=>by exact QY.h1 rfl)) hD ?_
   refine zT 6 rfl (Qi rfl Yf) hD ?_
   refine zT 7 rfl (Qd rfl Qr (fun hg=>by exact QY.h0 rfl)) hD ?_
   refine zT 9 rfl (Qi rfl ZF) hD ?_
   refine zT 10 rfl (Qd rfl Qr (fun hg=>by exact QY.h0 rfl)) hD ?_
   refine Zw 8 11 rfl rfl (by kernel_rfl) ?_ ?_
   ·
    refine zV (VK (m:=mr) (ek:=Value.int .i64) (a:=p.sign) Vg ZQ rfl rfl (fun _=>.inr (by simp))) ?_
    refine Qc ?_
    refine zD hD ?_
    refine qd 11 rfl ?_
    refine Qp (ps:=[(0,_)]) (m:=[QP p.id]) Za rfl (.cons rfl (.nil)) rfl (by simp [Qu]) (by decide) (by decide) rfl rfl (fun b_120=>?_)
    refine Qc ?_
    refine zD hD ?_
    refine qd 12 rfl ?_
    refine QU (v:=_) (ys:=[p.id].flatMap QP) (L:=Lt) rfl rfl Za hOt (by repeat (first | exact .cons .here .nil | exact QD | exact Qy | apply QC | apply QB)) ⟨rfl,fun _=>rfl,zAj⟩ (V0 [p.id]) (by omega) rfl rfl ?_
    intro v9 L9 hO9 _
    refine Qc ?_
    refine zD hD ?_
    refine qd 13 rfl ?_
    refine Zd (m:=mr) (ek:=Value.int .i64) (ev:=Xr) (a:=p.sign) (v9,((ZH mr p.sign).getD JA).2.1+1,((ZH mr p.sign).getD JA).2.2++[p.id].flatMap QP) Vg ZQ rfl rfl rfl rfl (by (repeat (first | exact Upd.here | apply Upd.there | apply QM))) ?_
    refine Qc ?_
    refine zD hD ?_
    refine QK (by kernel_rfl) ?_
    refine QW ?_
    refine Qg (Qg (Qa (Qf (zB ?_))))
    refine zM (Qc ?_)
    first
    | exact JI _ _ (L9++((r_42,_)::(Lg++((r_38,_)::(r_37,_)::(b_6,_)::(Ls++(A++B)))))) ⟨n-(k+1),by omega,k+1,s,_,q,Lg,ms,Ls,_,A++(L9++B),rfl,rfl,rfl,rfl,by omega,by rw [hT];exact hkn.skip (by omega),by rw [hT,zb9 (by omega)];exact hO,by omega,by rw [hT];exact hsm.skip (by omega),hAllS,by rw [hT];exact hrm.put' hk3,hset (v9,_,_) L9 hO9,by rw [hT,List.all_append,hfit];simp [hfp]⟩ (.cons rfl (.cons rfl (.cons rfl (.cons rfl (.cons rfl (.cons rfl .nil)))))) zph (by repeat (first | exact .refl | exact Zg | refine Yu ?_ | refine .drop ?_ | refine Ya ?_))
   refine Qp (ps:=[(0,_)]) (m:=[QP p.id]) Za rfl (.cons rfl (.nil)) rfl (by simp [Qu]) (by decide) (by decide) rfl rfl (fun b_120=>?_)
   refine Qc ?_
   refine zD hD ?_
   refine qd 8 rfl ?_
   refine zV (VK (m:=mr) (ek:=Value.int .i64) (a:=p.sign) Vg ZQ rfl rfl (fun _=>.inr (by simp))) ?_
   refine Qc ?_
   refine zD hD ?_
   refine qd 12 rfl ?_
   refine QU (v:=_) (ys:=[p.id].flatMap QP) (L:=Lt) rfl rfl Za hOt (by repeat (first | exact .cons .here .nil | exact QD | exact Qy | apply QC | apply QB)) ⟨rfl,fun _=>rfl,zAj⟩ (V0 [p.id]) (by omega) rfl rfl ?_
   intro v9 L9 hO9 _
   refine Qc ?_
   refine zD hD ?_
   refine qd 13 rfl ?_
   refine Zd (m:=mr) (ek:=Value.int .i64) (ev:=Xr) (a:=p.sign) (v9,((ZH mr p.sign).getD JA).2.1+1,((ZH mr p.sign).getD JA).2.2++[p.id].flatMap QP) Vg ZQ rfl rfl rfl rfl (by (repeat (first | exact Upd.here | apply Upd.there | apply QM))) ?_
   refine Qc ?_
   refine zD hD ?_
   refine QK (by kernel_rfl) ?_
   refine QW ?_
   refine Qg (Qg (Qa (Qf (zB ?_))))
   refine zM (Qc ?_)
   first
   | exact JI _ _ (L9++((r_42,_)::(Lg++((r_38,_)::(r_37,_)::(b_6,_)::(Ls++(A++B)))))) ⟨n-(k+1),by omega,k+1,s,_,q,Lg,ms,Ls,_,A++(L9++B),rfl,rfl,rfl,rfl,by omega,by rw [hT];exact hkn.skip (by omega),by rw [hT,zb9 (by omega)];exact hO,by omega,by rw [hT];exact hsm.skip (by omega),hAllS,by rw [hT];exact hrm.put' hk3,hset (v9,_,_) L9 hO9,by rw [hT,List.all_append,hfit];simp [hfp]⟩ (.cons rfl (.cons rfl (.cons rfl (.cons rfl (.cons rfl (.cons rfl .nil)))))) zph (by repeat (first | exact .refl | exact Zg | refine Yu ?_ | refine .drop ?_ | refine Ya ?_))
  have hk3n:p.kind≠3:=by simpa using hc107
  refine Qo (Qg (Qg (Qa (Qf (zB ?_)))))
  refine zM (Qc ?_)
  first
  | exact zm (h:=⟨n-(k+1),by omega,k+1,_,_,_,_,_,_,_,_,rfl,rfl,rfl,rfl,by omega,by rw [hT];exact hkn.skip hk2n,by rw [hT,zb9 hk2n];exact hO,by omega,by rw [hT];exact hsm.skip hk1n,hAllS,by rw [hT];exact hrm.skip' hk3n,hAllR,by rw [hT,List.all_append,hfit];simp [hfp]⟩)
 have hge_k:n≤k:=by have h:=hc56;simp at h;omega
 have hTn:YZ (ps.take k) ws=YZ ps ws:=by rw [Zo hP.len hge_k]
 rw [hTn] at hkn hO hsm hrm hfit
 have hfitB:zhP bs (YZ ps ws)=true:=hfit
 refine QH (Qe (Qe (Qj (Qa (zR ?_)))))
 refine zF UW ?_
 refine zV (Qd rfl zdC (fun hg=>by (repeat (first | exact zAg rfl | apply zAf | apply zAh)))) ?_
 refine QA (cap:=[]) (vs:=[_,_]) rfl rfl zr2 (by repeat (first | exact .cons .here .nil | exact QD | exact Qy | apply QC | apply QB)) (ztO 54 _ hO (by omega) _) rfl rfl ?_
 rintro vv5 I5 L5 hI5 ⟨rfl,rfl,zs2,hperm,hsort,hO2⟩
 have hP:=hP.mono hI5;have hOn:=hOn.mono hI5;have hIc:=hIc.trans hI5
 refine Qc ?_
 have hz2:zs2=Xj bs (YZ ps ws):=zmB (ztu (ziJ hcg).2) (zgP hSto hVer) hfitB hperm hsort
 rw [hz2] at hO2
 refine Qa (zR ?_)
 refine zV (Qq rfl Vm (fun hg=>by (repeat (first | exact zAj | apply zAi | apply zAk))) rfl) ?_
 refine YG rfl rfl UO rfl rfl rfl rfl (by (repeat (first | exact Upd.here | apply Upd.there | apply QM))) ?_
 refine zA (zN (Qs ?_))
 first
 | exact Zp rfl rfl rfl Vm (by repeat (first | exact zAj | apply zAi | apply zAk)) rfl (fun w hw=>by obtain ⟨I9,h91,h92,h93⟩:=hw.freezeAll;obtain ⟨av9,c9,hv9,hS9⟩:=hO2.sl Z8 (by decide) (fun b o hb=>h93 b o (by simp [hb]));cases hv9;exact ⟨_,I9,[],rfl,hIc.trans h91,h92,rfl,_,_,_,_,_,_,by rw [zzp hck hcg hcv hfitB],fun _=>⟨_,_,_,rfl,rfl,rfl,⟨hOn.mono h91,⟨ms,h93 r_37 _ (by simp),zvm hsm hAllS (fun b o hb=>h93 b o (by simp [hb]))⟩,⟨mr,h93 r_38 _ (by simp),zps hrm hAllR (fun b o hb=>h93 b o (by simp [hb]))⟩,hS9,fun p hp=>(Vp.1 hp).1,fun p hp=>(hP.2 p hp).mono h91,hL,by rw [hP.len];exact hn5,Nat.le_trans (List.length_filter_le ..) (by rw [hP.len];exact hn5)⟩⟩⟩)
end
section
open Go Go.Kn Go.Proofs
def zeh (P:Pt→Bool)(xs:List Pt):List Int:=(xs.filter P).map (·.id)
theorem zkF {P:Pt→Bool}{xs:List Pt}:zeh P (xs.take 0)=[]:=by unfold zeh;simp
theorem zoe {P:Pt→Bool}{xs:List Pt}{k:Nat}{p:Pt}(hp:xs[k]? =some p)(h:P p=true):zeh P (xs.take (k+1))=zeh P (xs.take k)++[p.id]:=by
 unfold zeh
 rw [Z6 hp,List.filter_append,List.filter_cons,if_pos h];simp
theorem ztq {P:Pt→Bool}{xs:List Pt}{k:Nat}{p:Pt}(hp:xs[k]? =some p)(h:P p=false):zeh P (xs.take (k+1))=zeh P (xs.take k):=by
 unfold zeh
 rw [Z6 hp,List.filter_append,List.filter_cons,if_neg (by rw [h];exact Bool.false_ne_true)];simp
def zxQ (on:Int→Int→Bool)(l:List Pt)(s:Int)(p:Pt):Bool:=(rmF l s).any fun i=> !on i p.id
def unL (on:Int→Int→Bool)(l:List Pt)(s f:Int):List Int:=zeh (zxQ on l s) (stF l s f)
def unK (on:Int→Int→Bool)(l:List Pt)(s:Int)(k:Nat):List Int:=(List.range k).flatMap fun (j:Nat)=>unL on l s ((j:Int)+1)
theorem zgc (on:Int→Int→Bool)(l:List Pt)(s:Int)(k:Nat):unK on l s (k+1)=unK on l s k++unL on l s ((k:Int)+1):=by
 unfold unK
 rw [List.range_succ,List.flatMap_append];simp
theorem ztt {on:Int→Int→Bool}{l:List Pt}{s:Int}(k:Nat):(unK on l s k).length≤k*l.length:=by
 induction k with
 | zero=>simp [unK]
 | succ k ih=>
  rw [zgc,List.length_append,Nat.succ_mul]
  have h1:(unL on l s ((k:Int)+1)).length≤l.length:=by
   unfold unL zeh
   rw [List.length_map]
   exact Nat.le_trans (List.length_filter_le ..) zav
  omega
theorem zmn {on:Int→Int→Bool}{l xs:List Pt}{s:Int}{k j e q:Nat}{v:Value}{P:Pt→Bool}{L:Go.Kn.Loc}(hO:OwnS e 1 v q ((unK on l s k++zeh P (xs.take j)).flatMap QP) L)(hk:k≤9)(hl:l.length≤512)(hx:xs.length≤512):q≤10000:=by
 have h1:=hO.1
 rw [zzF,List.length_append] at h1
 have h2:(unK on l s k).length≤9*512:=Nat.le_trans (ztt k) (Nat.mul_le_mul hk hl)
 have h3:(zeh P (xs.take j)).length≤xs.length:=by
  unfold zeh
  rw [List.length_map]
  refine Nat.le_trans (List.length_filter_le ..) ?_
  rw [List.length_take];omega
 omega
theorem zia {on:Int→Int→Bool}{l:List Pt}{s:Int}(hok:∀ p∈l,ztC p){x:Int}:x∈unK on l s 9↔x∈(unF on l s).map (·.id):=by
 unfold unK unL zeh unF unB
 rw [List.mem_flatMap]
 simp only [List.mem_map,List.mem_filter,List.mem_range,zas,Bool.and_eq_true,beq_iff_eq]
 constructor
 ·
  rintro ⟨j,hj,p,⟨⟨hp,hk,hs,hf⟩,hu⟩,rfl⟩
  exact ⟨p,⟨hp,hs,hk,by rw [hs];exact hu⟩,rfl⟩
 ·
  rintro ⟨p,⟨hp,hs,hk,hu⟩,rfl⟩
  have hf:=((hok p hp).set hk).1
  unfold isF at hf
  refine ⟨(p.field-1).toNat,by omega,p,⟨⟨hp,hk,hs,by omega⟩,by rw [hs] at hu;exact hu⟩,rfl⟩
theorem zyY {on:Int→Int→Bool}{l:List Pt}{s:Int}(hok:∀ p∈l,ztC p):((((rmF l s).length:Int)==0)||decide (((unK on l s 9).length:Int)>0))=exB on l s:=by
 unfold exB
 have h1:(unK on l s 9).length=0↔unF on l s=[]:=by
  constructor
  ·
   intro h
   have h2:=List.length_eq_zero_iff.1 h
   cases hu:unF on l s with
   | nil=>rfl
   | cons p us=>
    have:p.id∈unK on l s 9:=(zia hok).2 (by rw [hu];simp)
    rw [h2] at this;cases this
  ·
   intro h
   cases hu:unK on l s 9 with
   | nil=>rfl
   | cons x us=>
    have:x∈(unF on l s).map (·.id):=(zia hok).1 (by rw [hu];simp)
    rw [h] at this;cases this
 congr 1
 ·
  cases rmF l s with
  | nil=>rfl
  | cons x us=>simp;omega
 ·
  cases hu:unF on l s with
  | nil=>rw [h1.2 hu];rfl
  | cons p us=>
   have:(unK on l s 9).length≠0:=fun h=>by rw [h1.1 h] at hu;cases hu
   simp;omega
theorem zvL {ps l:List Pt}(hsub:∀ p∈l,p∈ps){s i:Int}(h:i∈rmF l s):∃ q∈ps,q.id=i:=by
 obtain ⟨q,hq,_,_,e⟩:=ztP.1 h
 exact ⟨q,hsub q hq,e⟩
theorem zwd {l:List Pt}{s:Int}:(rmF l s).length≤l.length:=zau (c:=3)
def zc0 (on:Int→Int→Bool)(xs:List Pt)(p:Pt):Bool:= !xs.any fun q=>on q.id p.id
theorem zwe (on:Int→Int→Bool)(l:List Pt)(s f:Int):zhV on l s f=(stF l s f).filter (zc0 on (stF l s f)):=rfl
theorem Xa {P:Pt→Bool}{xs:List Pt}{k:Nat}{p:Pt}(hp:xs[k]? =some p)(h:P p=true):(xs.take (k+1)).filter P=(xs.take k).filter P++[p]:=by
 rw [Z6 hp,List.filter_append,List.filter_cons,if_pos h];simp
theorem za9 {P:Pt→Bool}{xs:List Pt}{k:Nat}{p:Pt}(hp:xs[k]? =some p)(h:P p=false):(xs.take (k+1)).filter P=(xs.take k).filter P:=by
 rw [Z6 hp,List.filter_append,List.filter_cons,if_neg (by rw [h];exact Bool.false_ne_true)];simp
theorem zjJ {P:Pt→Bool}{xs:List Pt}{k:Nat}{p:Pt}(hp:xs[k]? =some p)(h:P p=true):(xs.take k).filter P++[p]<+:xs.filter P:=by
 rw [←Xa hp h]
 exact ⟨(xs.drop (k+1)).filter P,by rw [←List.filter_append,List.take_append_drop]⟩
end
end Go.Proofs.YtodakphagkommaaGreatDoor.R
