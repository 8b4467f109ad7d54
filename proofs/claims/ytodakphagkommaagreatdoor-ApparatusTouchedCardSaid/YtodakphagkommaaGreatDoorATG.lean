/- apparatusTouched_holds, part G of the proof: what its theorems say holds without further conditions. -/
import Derived.KernelRfl
import Derived.ProofKit
import Derived.Deep.Slices
import Derived.Test.YtodakphagkommaaGreatDoorRows
import Derived.LaidMore
import Derived.MakeChecks
import Derived.Lib.LaidTab
import Derived.Test.YtodakphagkommaaGreatDoorCards
import Derived.Test.YtodakphagkommaaGreatDoorTie
import Derived.Stop.Joined
import Derived.SevenTiedAt
import Derived.Test.YtodakphagkommaaGreatDoorATF
namespace Go.Proofs.YtodakphagkommaaGreatDoor
section
open Go Go.Kn Go.Proofs
theorem zmX:AgT Tryz.prog 74 3:=.of (by kernel_rfl)
theorem znh:Fun Tryz.prog 31:=.of Tryz.func31 (by kernel_rfl) (by kernel_rfl)
theorem YY:MpT Tryz.prog 91 3 23 (.slice none 0 0):=⟨by kernel_rfl,.of (by kernel_rfl)⟩
theorem zmQ:SzT Tryz.prog 72 1:=.of (by kernel_rfl)
theorem zn9:SzT Tryz.prog 74 3:=.of (by kernel_rfl)
theorem ztF:Yp Tryz.prog 74 (.agg #[(.int .i64 0),(.int .i64 0),(.slice none 0 0)]):=.of (by kernel_rfl)
theorem zf2 {I:Qu}{r:Nat}{m:List (Int×Tri)}(hm:I r=some (ZR (Value.int .i64) WI m))(hml:m.length≤100000):Yg Tryz.prog 31 [.map (some r)] I [] (fun v I' L=>L=[]∧∃ av c ks,ks.Perm (m.map (·.1))∧v= .slice av (YC ks).length c∧Sl I' 1 QR av (YC ks).length c (YC ks)):=by
 intro g H w hw
 refine qe Tryz.func31 Tryz.ntmps31 hw ?_
 have hIc:=zye I
 refine zR (zA (zN (Ql (zR ?_))))
 refine zM ?_
 refine Jt (ek:=Value.int .i64) (ev:=WI) (m:=m) rfl YY rfl rfl (.inl hm) (fun b_5=>?_)
 refine zN (Qm ?_)
 refine zU [(5,_)] (fun T L0 mz E I' loc'=>∃ (seen:List Nat) (v:Value) (L:Go.Kn.Loc),mz=m.length-seen.length∧E=(2,v)::T∧I=I'∧L++[(b_5,YN r m.length seen)]=loc'∧seen.Nodup∧(∀ i∈seen,i<m.length)∧OwnS 3 1 v seen.length ((kyS (m.map (·.1)) seen).flatMap QR) L) ?_ (h:=⟨[],_,[],rfl,rfl,rfl,rfl,.nil,(fun i h=>by cases h),OwnS.nil⟩)
 rintro mz E I' loc' ⟨seen,v,L,rfl,rfl,rfl,rfl,hnd2,hlt,hO⟩
 have hsl:=Jh hnd2 hlt
 refine zR ?_
 refine Jv (ek:=Value.int .i64) (ev:=WI) (m:=m) (fun s'=>L++[(b_5,YN r m.length s')]) rfl (fun s'=>QJ .here) rfl rfl rfl rfl rfl (.inl hm) (by simp) ?_
 intro t tv s' hno hyes
 refine zN (Ql ?_)
 refine zI ?_ ?_<;>intro hc7
 ·
  obtain ⟨i,q,hq,hns,rfl⟩:=hyes hc7
  refine Qo (Qa (Qm (zR ?_)))
  refine zV (Jq (ek:=Value.int .i64) (ev:=WI) (m:=m) (p:=q) (seen:=seen) (i:=i) rfl (.inl hm) (.inr (by simp)) hq) ?_
  refine zE ?_
  refine zA (zN (Qg ?_))
  refine zM ?_
  refine zM ?_
  refine Qq (ps:=[(0,_)]) (m:=[QR q.1]) Zi rfl (.cons rfl (.nil)) rfl (by simp [Qv]) (by decide) (by decide) rfl rfl (fun b_12=>?_)
  refine QY (v:=_) (ys:=[q.1].flatMap QR) (L:=L) rfl rfl Zi hO (by repeat (first | exact .cons .here .nil | exact QD | exact Qw | apply QC | apply QB)) ⟨rfl,fun _=>rfl,by repeat (first | exact zyc | apply zyb | apply zyd)⟩ (JG _) (by omega) rfl rfl ?_
  intro v9 L9 hO9 _;rw [←List.flatMap_append] at hO9
  refine zA (Qb (Qh ?_))
  have hnd3:(seen++[i]).Nodup:=List.nodup_append.2 ⟨hnd2,by simp,fun a ha b hb e=>hns (by simp at hb;subst hb;subst e;exact ha)⟩
  have hlt3:∀ j∈seen++[i],j<m.length:=fun j hj=>(List.mem_append.1 hj).elim (hlt j) (fun h=>by simp at h;subst h;exact (List.getElem?_eq_some_iff.1 hq).1)
  have hsl2:=Jh hnd3 hlt3
  rw [List.length_append,List.length_singleton] at hsl2
  rw [←zlg (by rw [List.getElem?_map,hq];rfl)] at hO9
  exact zm (h:=⟨m.length-(seen++[i]).length,by rw [List.length_append,List.length_singleton];omega,seen++[i],_,L9,rfl,rfl,rfl,rfl,hnd3,hlt3,by rw [List.length_append,List.length_singleton];exact hO9⟩)
 obtain ⟨hs9,hall⟩:=hno hc7
 have hs9:=hs9.symm
 subst hs9
 have hpe:(kyS (m.map (·.1)) seen).Perm (m.map (·.1)):=zqd hnd2 (fun i hi=>by rw [List.length_map];exact hlt i hi) (fun i hi=>by rw [List.length_map] at hi;exact hall i _ (List.getElem?_eq_getElem hi))
 refine QI (Qf (Qf (Qk (Qa (zR (zM ?_))))))
 refine Qz (cap:=[]) (vs:=[_]) rfl rfl zhA (by repeat (first | exact .cons .here .nil | exact QD | exact Qw | apply QC | apply QB)) (zjM hO (by omega) _) rfl rfl ?_
 rintro vv2 I2 L2 hI2 ⟨rfl,rfl,hO2⟩
 have hIc:=hIc.trans hI2
 refine zN (zR ?_)
 refine zM ?_
 refine zA (zN (Qt ?_))
 exact Zv rfl rfl (fun w hw=>by obtain ⟨I9,h91,h92,a,c,e9,h94⟩:=OwnS.freeze' hO2 Qv (by decide) (hw.subL (by exact Zg));have hl9:=h94.len;rw [←hl9] at e9 h94;exact ⟨_,I9,[],rfl,hIc.trans h91,h92,rfl,a,c,_,hpe,e9,h94⟩)
theorem zcV {I:Qu}{bv:Option Addr}{n2 c2:Nat}{rows:List (List Int)}(hVn:SlN I bv n2 c2 rows)(hn2:n2≤100000){ea1:Option Addr}{en1 ec1:Nat}{ea2:Option Addr}{en2 ec2:Nat}{ea3:Option Addr}{en3 ec3:Nat}{xs:List Int}{es:List Em}{rd:List Int}(hX1:Sl I 1 QR ea1 en1 ec1 xs)(hX2:Sl I 3 Yy ea2 en2 ec2 es)(hX3:Sl I 1 QR ea3 en3 ec3 rd)(hm1:en1≤100000)(hm2:en2≤100000)(hm3:en3≤100000)(no:Int)(hDb:VI I):Yg Tryz.prog 11 [.slice bv n2 c2,.agg (Z1 no ea1 en1 ec1 ea2 en2 ec2 ea3 en3 ec3).toArray] I [] (fun v I' L=>zwx (WP rows no xs es rd) (zwf (WP rows no xs es rd) rows rd) v I' L):=by
 intro g H w hw
 refine qe Tryz.func11 Tryz.ntmps11 hw ?_
 have hIc:=zye I
 have hVl:=hVn.len
 refine zR ?_
 refine Q5 rfl rfl rfl (fun b_3=>?_)
 refine zA ?_
 refine zA (zN (Ql (zR ?_)))
 refine zM ?_
 refine zV (Qp rfl Z0 (fun hg=>by exact Cells.g0) rfl) ?_
 refine qc (vs:=[_,_]) rfl znF (zi6 hVn hn2 hX1 hX2 hX3 hm1 hm2 hm3 no hDb) ?_
 refine zA ?_
 refine zN (zR ?_)
 refine zM ?_
 refine zC (zN ?_)
 refine zI ?_ ?_<;>intro hc18
 ·
  have he0:WP rows no xs es rd≠0:=by simpa using hc18
  refine zR (zM ?_)
  refine zA ?_
  refine zA (zN (Qt (Qc ?_)))
  first
  | exact Zx rfl rfl rfl (fun w hw=>⟨_,I,[],rfl,hIc,hw.drop,rfl,_,_,_,rfl,by rw [zof he0];exact ze1.nil⟩)
 have he0:WP rows no xs es rd=0:=by simpa using hc18
 obtain ⟨hmk,hrd⟩:=zhv he0
 obtain ⟨hr1,hr6,hr64,hrr⟩:=We (zaa (zno hmk))
 have hrdl:rd.length=(rows.getD 0 []).length:=by rw [hrd];exact Xn
 have hX3l:=hX3.len
 have hc0:∀ k,k<rd.length→∀ r∈rows,0≤r.getD k 0:=fun k hk r hr=>by have h1:=hrr r hr;have h2:k<r.length:=(by omega);rw [Q1 (List.getElem?_eq_getElem h2)];exact (h1.2 _ (List.getElem_mem h2)).1
 refine Qo (Qa (Ql (zR ?_)))
 refine zF VT ?_
 refine zL QK ?_
 refine zQ Qy ?_
 refine zM (zN (Qm ?_))
 refine zU [(0,_),(21,_),(22,_)] (fun T L0 mz E I' loc'=>∃ (k:Nat) (v4:Value) (os:List Eh) (us:List En) (Lo:Go.Kn.Loc),mz=en3-k∧E=(4,v4)::(23,.int .i64 k)::T∧HLe I I'∧Lo++[(b_3,.cells (Z1 no ea1 en1 ec1 ea2 en2 ec2 ea3 en3 ec3).toArray 26 (0,0))]=loc'∧k≤en3∧OwnS 74 3 v4 os.length (os.flatMap zcx) Lo∧zcf I' os us∧us=zhb rows rd k∧os.length≤k) ?_ (h:=⟨0,_,[],[],[],rfl,rfl,zye _,rfl,Nat.zero_le _,OwnS.nil,zak.nil,rfl,Nat.le_refl _⟩)
 rintro mz E J1 loc' ⟨k,v4,os,us,Lo,rfl,rfl,hJ,rfl,hk,hO,hre,hsu,hbd⟩
 have hVn:=hVn.mono hJ;have hX3:=hX3.mono hJ;have hIc:=hIc.trans hJ
 have hB0:=hJ
 refine zR (zC (zN (Ql ?_)))
 refine zI ?_ ?_<;>intro hc24
 ·
  have hlt_k:k<en3:=by have h:=hc24;simp at h;omega
  have hgr:rd[k]? =some (rd.getD k 0):=Zk rfl (by omega)
  have hc0:=hc0 k (by omega)
  refine Qo (Qa (Ql (Qm (zR (zM ?_)))))
  refine zV (zX Qy hX3) ?_
  refine zV (Qd rfl Qs (fun hg=>by exact zx7 (k:=k) hX3 hgr rfl)) ?_
  refine zA ?_
  refine zA ?_
  refine zN (zR ?_)
  refine ZD rfl rfl (fun r_28=>?_)
  refine zA (zN (Ql (zR ?_)))
  refine zM ?_
  refine zQ Zo ?_
  refine zM (zN (Qm ?_))
  refine zU [(0,_),(4,_),(6,_),(7,_),(8,_),(21,_),(22,_),(23,_),(29,_),(30,_)] (fun T L0 mz E I' loc'=>∃ (i:Nat) (m:List (Int×Tri)) (Ls:Go.Kn.Loc),mz=n2-i∧E=(31,.int .i64 i)::T∧J1=I'∧(r_28,ZR (Value.int .i64) WI m)::(Ls++(Lo++[(b_3,.cells (Z1 no ea1 en1 ec1 ea2 en2 ec2 ea3 en3 ec3).toArray 26 (0,0))]))=loc'∧i≤n2∧zf4 rows k m i∧Vj 3 1 (m.map (·.2)) Ls) ?_ (h:=⟨0,[],[],rfl,rfl,rfl,rfl,Nat.zero_le _,zf4.start,Vj.nil⟩)
  rintro mz E I' loc' ⟨i,m,Ls,rfl,rfl,rfl,rfl,hi,hcm,hAll⟩
  refine zR (zC (zN (Ql ?_)))
  refine zI ?_ ?_<;>intro hc32
  ·
   have hlt_i:i<n2:=by have h:=hc32;simp at h;omega
   obtain ⟨hs,hVH⟩:=id hVn
   have hHH:=hVH.1
   obtain ⟨hx,rx,hhx,hrx,hQ⟩:=hVH.at hlt_i
   have hqk:=(hrr rx (List.mem_of_getElem? hrx)).1
   have hQl:=hQ.len
   have hgx:rx[k]? =some (rx.getD k 0):=Zk rfl (by omega)
   refine Qo (Qa (Ql (Qm (zR (zM ?_)))))
   refine zV (zX Zo hHH) ?_
   refine zV (Qd rfl QK (fun hg=>by exact zx7 hHH hhx rfl)) ?_
   refine zA ?_
   refine zA (zN ?_)
   obtain ⟨A,Lt,B,hLs,hOt,hset⟩:=hAll.at (rx.getD k 0)
   subst hLs
   rw [List.append_assoc A,List.append_assoc Lt]
   have hq0:=hcm.le hOt
   have hD:=zye J1
   refine Jo ?_
   refine Z7 J1 [] mixed ?_
   refine zT 0 rfl (Qi rfl) hD ?_
   refine zT 1 rfl (Qi rfl) hD ?_
   refine zT 2 rfl (Qi rfl) hD ?_
   refine zT 3 rfl (zX Qy hQ) hD ?_
   refine zT 4 rfl (Qd rfl Qs (fun hg=>by exact zx7 (k:=k) hQ hgx rfl)) hD ?_
   refine zT 5 rfl (Qi rfl) hD ?_
   refine zT 6 rfl (Qi rfl) hD ?_
   refine zT 7 rfl (Qi rfl) hD ?_
   refine zT 8 rfl (zX Qy hQ) hD ?_
   refine zT 9 rfl (Qd rfl Qs (fun hg=>by exact zx7 (k:=k) hQ hgx rfl)) hD ?_
   refine zT 11 rfl (Qi rfl) hD ?_
   refine Zr 10 12 rfl rfl (by kernel_rfl) ?_ ?_
   ·
    refine zV (Vp (m:=m) (ek:=Value.int .i64) (a:=(rx.getD k 0)) YY ZE rfl rfl (fun _=>.inr (by simp))) ?_
    refine Qb ?_
    refine zD hD ?_
    refine qd 12 rfl ?_
    refine Qq (ps:=[(0,_)]) (m:=[QR (i:Int)]) Zi rfl (.cons rfl (.nil)) rfl (by simp [Qv]) (by decide) (by decide) rfl rfl (fun b_48=>?_)
    refine Qb ?_
    refine zD hD ?_
    refine qd 13 rfl ?_
    refine QY (v:=_) (ys:=[(i:Int)].flatMap QR) (L:=Lt) rfl rfl Zi hOt (by repeat (first | exact .cons .here .nil | exact QD | exact Qw | apply QC | apply QB)) ⟨rfl,fun _=>rfl,by repeat (first | exact zyc | apply zyb | apply zyd)⟩ (JG _) (by omega) rfl rfl ?_
    intro v9 L9 hO9 _
    refine Qb ?_
    refine zD hD ?_
    refine qd 14 rfl ?_
    refine Q4 (m:=m) (ek:=Value.int .i64) (ev:=WI) (a:=(rx.getD k 0)) (v9,((Zy m (rx.getD k 0)).getD V7).2.1+1,((Zy m (rx.getD k 0)).getD V7).2.2++[(i:Int)].flatMap QR) YY ZE rfl rfl rfl rfl (by (repeat (first | exact Upd.here | apply Upd.there | apply QJ))) ?_
    refine Qb ?_
    refine zD hD ?_
    refine QG (by kernel_rfl) ?_
    refine QQ ?_
    refine Qh (Qa (Qg (zB ?_)))
    refine zM (Qb ?_)
    exact Ji _ _ (L9++((r_28,_)::(A++(B++(Lo++[(b_3,.cells (Z1 no ea1 en1 ec1 ea2 en2 ec2 ea3 en3 ec3).toArray 26 (0,0))]))))) ⟨n2-(i+1),by omega,i+1,_,A++(L9++B),rfl,rfl,rfl,rfl,by omega,hcm.put hrx,hset (v9,_,_) L9 hO9⟩ (.cons rfl (.cons rfl (.cons rfl (.cons rfl (.cons rfl (.cons rfl (.cons rfl (.cons rfl (.cons rfl (.cons rfl (.cons rfl .nil))))))))))) zmS (by repeat (first | exact .refl | exact Zg | refine Ym ?_ | refine .drop ?_ | refine Z4 ?_))
   refine Qq (ps:=[(0,_)]) (m:=[QR (i:Int)]) Zi rfl (.cons rfl (.nil)) rfl (by simp [Qv]) (by decide) (by decide) rfl rfl (fun b_48=>?_)
   refine Qb ?_
   refine zD hD ?_
   refine qd 10 rfl ?_
   refine zV (Vp (m:=m) (ek:=Value.int .i64) (a:=(rx.getD k 0)) YY ZE rfl rfl (fun _=>.inr (by simp))) ?_
   refine Qb ?_
   refine zD hD ?_
   refine qd 13 rfl ?_
   refine QY (v:=_) (ys:=[(i:Int)].flatMap QR) (L:=Lt) rfl rfl Zi hOt (by repeat (first | exact .cons .here .nil | exact QD | exact Qw | apply QC | apply QB)) ⟨rfl,fun _=>rfl,by repeat (first | exact zyc | apply zyb | apply zyd)⟩ (JG _) (by omega) rfl rfl ?_
   intro v9 L9 hO9 _
   refine Qb ?_
   refine zD hD ?_
   refine qd 14 rfl ?_
   refine Q4 (m:=m) (ek:=Value.int .i64) (ev:=WI) (a:=(rx.getD k 0)) (v9,((Zy m (rx.getD k 0)).getD V7).2.1+1,((Zy m (rx.getD k 0)).getD V7).2.2++[(i:Int)].flatMap QR) YY ZE rfl rfl rfl rfl (by (repeat (first | exact Upd.here | apply Upd.there | apply QJ))) ?_
   refine Qb ?_
   refine zD hD ?_
   refine QG (by kernel_rfl) ?_
   refine QQ ?_
   refine Qh (Qa (Qg (zB ?_)))
   refine zM (Qb ?_)
   exact Ji _ _ (L9++((r_28,_)::(A++(B++(Lo++[(b_3,.cells (Z1 no ea1 en1 ec1 ea2 en2 ec2 ea3 en3 ec3).toArray 26 (0,0))]))))) ⟨n2-(i+1),by omega,i+1,_,A++(L9++B),rfl,rfl,rfl,rfl,by omega,hcm.put hrx,hset (v9,_,_) L9 hO9⟩ (.cons rfl (.cons rfl (.cons rfl (.cons rfl (.cons rfl (.cons rfl (.cons rfl (.cons rfl (.cons rfl (.cons rfl (.cons rfl .nil))))))))))) zmS (by repeat (first | exact .refl | exact Zg | refine Ym ?_ | refine .drop ?_ | refine Z4 ?_))
  have hge_i:n2≤i:=by have h:=hc32;simp at h;omega
  refine QI (Qf (Qf (Qk (Qa (Ql (Ql ?_))))))
  have hcm:zf4 rows k m rows.length:=by rw [hVl,show n2=i by omega];exact hcm
  refine zc9 (L:=(r_28,ZR (Value.int .i64) WI m)::Ls) (R:=(Lo++[(b_3,.cells (Z1 no ea1 en1 ec1 ea2 en2 ec2 ea3 en3 ec3).toArray 26 (0,0))])) (Qw (A:=(r_28,ZR (Value.int .i64) WI m)::Ls) (B:=(Lo++[(b_3,.cells (Z1 no ea1 en1 ec1 ea2 en2 ec2 ea3 en3 ec3).toArray 26 (0,0))]))) (fun I3 hI3 h99=>?_)
  have hre:=hre.mono hI3;have hB0:=hB0.trans hI3
  have h28:=h99 r_28 _ (.head _)
  have hsl:=fun c=>hcm.sl hAll (fun b o hb=>h99 b o (.tail _ hb)) c
  obtain ⟨al,cl9,hvl,hSl⟩:=hsl (rd.getD k 0)
  have hhl:=zj9 (rows:=rows) (k:=k) (c:=(rd.getD k 0))
  refine Qg (zM ?_)
  refine zM ?_
  refine zV (YB (m:=m) (ek:=Value.int .i64) (a:=(rd.getD k 0)) hvl YY ZE rfl rfl (fun _=>.inl h28)) ?_
  refine zQ Qy ?_
  refine zM ?_
  refine zQ Zo ?_
  refine zC (zN ?_)
  refine zI ?_ ?_<;>intro hc57
  ·
   have hno:¬(KZ rows k (rd.getD k 0)).length<rows.length:=by have h:=hc57;rw [beq_iff_eq] at h;omega
   refine QI (Qf (Qk (Qa (Qg (zB ?_)))))
   refine zM (Qb ?_)
   first
   | exact zm (h:=⟨en3-(k+1),by omega,k+1,_,_,_,_,rfl,rfl,hB0,rfl,by omega,hO,hre,by rw [zps hno];exact hsu,by omega⟩)
  have hyes:(KZ rows k (rd.getD k 0)).length<rows.length:=by have h:=hc57;rw [beq_eq_false_iff_ne] at h;omega
  refine Qo (Qa (zR (zM ?_)))
  refine zM ?_
  refine zV (QS (ps:=[(0,_),(1,_)]) [_,_,_] zn3 rfl rfl) ?_
  refine Qr ztF rfl rfl (fun b_11=>?_)
  refine zh zn9 ?_
  refine zN (Ql (zR (zM ?_)))
  refine Qz (cap:=[]) (vs:=[_]) rfl rfl znh .nil (zf2 h28 (by have:=hcm.len;rw [List.length_map] at this;omega)) rfl rfl ?_
  rintro vv4 I4 L4 hI4 ⟨rfl,az,cz,ks,hpe,rfl,hSz⟩
  have hre:=hre.mono hI4;have hB0:=hB0.trans hI4
  obtain ⟨zs,hzs⟩:∃ zs,zs=YC ks:=⟨_,rfl⟩
  have hvar:zs.map (fun c=>(⟨c,KZ rows k c⟩:Vt))=znb rows k:=by rw [hzs];exact zmb hcm hc0 hpe
  have hzm:∀ c∈zs,∃ r∈rows,r.getD k 0=c:=fun c hc=>by rw [hzs,((JD ks).trans hpe).mem_iff,hcm.key c,List.take_length] at hc;exact hc
  have hzl:zs.length≤rows.length:=by rw [hzs,((JD ks).trans hpe).length_eq];exact hcm.len
  rw [←hzs]
  rw [←hzs] at hSz
  have h28:=hI4 _ _ h28
  have hsl:∀ c,∃ av cc,((Zy m c).getD V7).1= .slice av (KZ rows k c).length cc∧Sl I4 1 QR av (KZ rows k c).length cc (KZ rows k c):=fun c=>by obtain ⟨a,b,h1,h2⟩:=hsl c;exact ⟨a,b,h1,h2.mono hI4⟩
  refine zQ Qy ?_
  refine zM (zN (Qm ?_))
  refine zU [(0,_),(4,_),(8,_),(11,_),(21,_),(22,_),(23,_),(62,_),(63,_)] (fun T L0 mz E I' loc'=>∃ (j:Nat) (v5:Value) (o5:List Vh) (u5:List Vt) (L5:Go.Kn.Loc),mz=zs.length-j∧E=(64,.int .i64 j)::T∧I4=I'∧L5++((b_11,.cells #[.int .i64 k,.int .i64 (rd.getD k 0),v5] 74 (0,0))::(Lo++[(b_3,.cells (Z1 no ea1 en1 ec1 ea2 en2 ec2 ea3 en3 ec3).toArray 26 (0,0))]))=loc'∧j≤zs.length∧OwnS 77 2 v5 o5.length (o5.flatMap zbl) L5∧zcS I' o5 u5∧u5=(zs.take j).map (fun c=>(⟨c,KZ rows k c⟩:Vt))∧o5.length≤j) ?_ (h:=⟨0,_,[],[],[],rfl,rfl,rfl,rfl,Nat.zero_le _,OwnS.nil,zak.nil,rfl,Nat.le_refl _⟩)
  rintro mz E I' loc' ⟨j,v5,o5,u5,L5,rfl,rfl,rfl,rfl,hj,hO5,hrv,hu5,hb5⟩
  obtain ⟨va5,vc5,rfl⟩:=zdd hO5
  refine zR (zC (zN (Ql ?_)))
  refine zI ?_ ?_<;>intro hc65
  ·
   have hlt_j:j<zs.length:=by have h:=hc65;simp at h;omega
   obtain ⟨c,hcz⟩:=hSz.at hlt_j
   refine Qo (Qa (Ql (Qm (zR ?_))))
   refine zV (zX Qy hSz) ?_
   refine zV (Qd rfl Qs (fun hg=>by exact zx7 hSz hcz rfl)) ?_
   refine zA (zN (Ql ?_))
   obtain ⟨ac,cc,hvc,hSc⟩:=hsl c
   have hhp:=zoS (hzm c (List.mem_of_getElem? hcz))
   refine Qg (zM ?_)
   refine zM ?_
   refine zV (YB (m:=m) (ek:=Value.int .i64) (a:=c) hvc YY ZE rfl rfl (fun _=>.inl h28)) ?_
   refine zQ Qy ?_
   refine zC (zN ?_)
   refine zI ?_ ?_<;>intro hc72
   ·
    refine Qg ?_
    refine zF Xa ?_
    refine zV (Qd rfl zjA (fun hg=>by (repeat (first | exact zx9 rfl | apply zx8 | apply zya)))) ?_
    refine zM ?_
    refine zM ?_
    refine zM ?_
    refine zV (YB (m:=m) (ek:=Value.int .i64) (a:=c) hvc YY ZE rfl rfl (fun _=>.inl h28)) ?_
    refine zV (QS (ps:=[(0,_),(1,_)]) [_,_] zjL rfl rfl) ?_
    refine Qq (ps:=[(0,_)]) (m:=[zbl (⟨c,⟨ac,(KZ rows k c).length,cc⟩⟩:Vh)]) zhK rfl (.cons rfl (.nil)) rfl (by simp [Zm]) (by decide) (by decide) rfl rfl (fun b_80=>?_)
    refine QY (v:=_) (ys:=[(⟨c,⟨ac,(KZ rows k c).length,cc⟩⟩:Vh)].flatMap zbl) (L:=L5) rfl rfl zhK hO5 (by repeat (first | exact .cons .here .nil | exact QD | exact Qw | apply QC | apply QB)) ⟨rfl,fun _=>rfl,by repeat (first | exact zyc | apply zyb | apply zyd)⟩ (zvX _) (by omega) rfl rfl ?_
    intro v9 L9 hO9 _;obtain ⟨va9,vc9,rfl⟩:=zdd hO9;rw [←List.flatMap_append] at hO9
    refine zF Xa ?_
    refine ZI rfl rfl zmQ rfl rfl (by (repeat (first | exact Upd.here | apply Upd.there | apply QJ))) rfl ?_
    refine Qb (Qh (Qa (Qg (zB ?_))))
    refine zM (Qb ?_)
    exact zm (h:=⟨zs.length-(j+1),by omega,j+1,_,o5++[(⟨c,⟨ac,(KZ rows k c).length,cc⟩⟩:Vh)],u5++[⟨c,KZ rows k c⟩],L9,rfl,rfl,rfl,rfl,by omega,by rw [List.length_append,List.length_singleton];exact hO9,hrv.snoc (v:=⟨c,KZ rows k c⟩) ⟨rfl,hSc⟩,by rw [List.take_add_one,hcz,List.map_append,←hu5];rfl,by rw [List.length_append,List.length_singleton];omega⟩)
   exfalso;have h:=hc72;simp only [decide_eq_false_iff_not] at h;omega
  have hge_j:zs.length≤j:=by have h:=hc65;simp at h;omega
  rw [List.take_of_length_le hge_j,hvar] at hu5
  refine QI (Qf (Qf (Qk (Qa ?_))))
  refine Y9 hO5 Zm (by decide) (by repeat (first | exact .cons .here .nil | exact QD | exact Qw | apply QC | apply QB)) (fun I6 hI6 af5 cf5 ef6 hF5=>?_)
  cases ef6
  have hre:=hre.mono hI6;have hB0:=hB0.trans hI6
  have hSV:SlV I6 va5 o5.length vc5 (znb rows k):=⟨o5,hF5,by rw [←hu5];exact hrv.mono hI6⟩
  refine Qg (zM ?_)
  refine zV (Qp rfl zmX (fun hg=>by exact Cells.g0) rfl) ?_
  refine Qq (ps:=[(0,_)]) (m:=[zcx (⟨(k:Int),(rd.getD k 0),⟨va5,o5.length,vc5⟩⟩:Eh)]) zjk rfl (.cons rfl (.nil)) rfl (by simp [Zl]) (by decide) (by decide) rfl rfl (fun b_86=>?_)
  refine QY (v:=_) (ys:=[(⟨(k:Int),(rd.getD k 0),⟨va5,o5.length,vc5⟩⟩:Eh)].flatMap zcx) (L:=Lo) rfl rfl zjk hO (by repeat (first | exact .cons .here .nil | exact QD | exact Qw | apply QC | apply QB)) ⟨rfl,fun _=>rfl,by repeat (first | exact zyc | apply zyb | apply zyd)⟩ (zty _) (by omega) rfl rfl ?_
  intro v9 L9 hO9 _;rw [←List.flatMap_append] at hO9
  refine zA (Qb (Qh (Qa (Qg ?_))))
  refine zB ?_
  refine zM (Qb ?_)
  first
  | exact zm (h:=⟨en3-(k+1),by omega,k+1,_,os++[(⟨(k:Int),(rd.getD k 0),⟨va5,o5.length,vc5⟩⟩:Eh)],us++[(⟨(k:Int),(rd.getD k 0),znb rows k⟩:En)],L9,rfl,rfl,hB0,rfl,by omega,by rw [List.length_append,List.length_singleton];exact hO9,hre.snoc (v:=(⟨(k:Int),(rd.getD k 0),znb rows k⟩:En)) ⟨rfl,rfl,hSV⟩,by rw [zkr hyes,hsu],by rw [List.length_append,List.length_singleton];omega⟩)
 have hge_k:en3≤k:=by have h:=hc24;simp at h;omega
 have hke:k=rd.length:=by omega
 subst hke
 refine QI (Qf (Qf (Qk (Qa (zR (zM ?_))))))
 refine zA ?_
 refine zA (zN (Qt ?_))
 first
 | exact Zx rfl rfl rfl (fun w hw=>by obtain ⟨I9,h91,h92,a,c,e9,h94⟩:=OwnS.freeze' hO Zl (by decide) (hw.subL (by exact Zg));exact ⟨_,I9,[],rfl,hIc.trans h91,h92,rfl,a,_,c,by rw [e9,he0],os,h94,by rw [zfM he0,←hsu];exact hre.mono h91⟩)
end
end Go.Proofs.YtodakphagkommaaGreatDoor
namespace Go.Proofs.YtodakphagkommaaGreatDoor.R
section
open Go Go.Kn Go.Proofs
theorem zmX:AgT Tryz.prog 74 3:=.of (by kernel_rfl)
theorem znh:Fun Tryz.prog 31:=.of Tryz.func31 (by kernel_rfl) (by kernel_rfl)
theorem zmQ:SzT Tryz.prog 72 1:=.of (by kernel_rfl)
theorem zn9:SzT Tryz.prog 74 3:=.of (by kernel_rfl)
theorem ztF:Yp Tryz.prog 74 (.agg #[(.int .i64 0),(.int .i64 0),(.slice none 0 0)]):=.of (by kernel_rfl)
end
section
open Go Go.Kn Go.Proofs
def znv (p:Pt):Bool:=decide (p.needs.length>80)
def zso (a b:Bool)(n1 n2 n3 pn vn:Nat):Bool:=(((((!a|| !((b&&decide ((n1:Int)≤40))&&decide ((n2:Int)≤40)))||decide ((n3:Int)>300))||(decide ((pn:Int)>40)&&decide ((pn:Int)≤512)))||decide ((pn:Int)>600))||decide ((vn:Int)>600))
def zbn (ws:List Wr)(rows:List (List Int))(xs:List Int)(es:List Em)(rd:List Int)(ps:List Pt)(vs:List Int):Bool:= !zso (zvH ws) (zkj rows) xs.length es.length rd.length ps.length vs.length&& !ps.any znv
section
variable {I:Qu} {av:Option Addr} {n c:Nat} {ws:List Wr} {wt:List Wt} {rows:List (List Int)} {xs:List Int} {es:List Em} {rd:List Int} {ps:List Pt} {vs:List Int} {n1 n2 n3 pn vn:Nat}
theorem zoI (hW:zhf I av n c wt ws)(h1:xs.length=n1)(h2:es.length=n2)(h3:rd.length=n3)(h4:ps.length=pn)(h5:vs.length=vn)(h:zso (zm6 wt) (zkj rows) n1 n2 n3 pn vn=true):zbn ws rows xs es rd ps vs=false:=by
 subst h1;subst h2;subst h3;subst h4;subst h5
 rw [zvu hW] at h
 unfold zbn;rw [h];rfl
theorem zkq (hW:zhf I av n c wt ws)(h1:xs.length=n1)(h2:es.length=n2)(h3:rd.length=n3)(h4:ps.length=pn)(h5:vs.length=vn)(h:zso (zm6 wt) (zkj rows) n1 n2 n3 pn vn=false):zbn ws rows xs es rd ps vs=(!ps.any znv)∧pn≤600:=by
 subst h1;subst h2;subst h3;subst h4;subst h5
 have h6:=h
 rw [zvu hW] at h
 refine ⟨by unfold zbn;rw [h];rfl,?_⟩
 unfold zso at h6
 simp only [Bool.or_eq_false_iff,decide_eq_false_iff_not] at h6
 omega
theorem zjg (h:zbn ws rows xs es rd ps vs=true):ws.length≤5∧(∀ x∈ws,x.rs.length≤8)∧rows.length≤20∧xs.length≤40∧es.length≤40∧rd.length≤300∧(ps.length≤40∨512<ps.length)∧ps.length≤600∧vs.length≤600∧∀ p∈ps,p.needs.length≤80:=by
 unfold zbn at h
 rw [Bool.and_eq_true] at h
 obtain ⟨h1,h2⟩:=h
 have h1:=zrm h1
 unfold zso at h1
 simp only [Bool.or_eq_false_iff,Bool.and_eq_false_iff,decide_eq_false_iff_not] at h1
 obtain ⟨⟨⟨⟨⟨ha,hb⟩,h3⟩,h4⟩,h5⟩,h6⟩:=h1
 have ha:=zf3 ha
 have hb:=zf3 hb
 simp only [Bool.and_eq_true,decide_eq_true_eq] at hb
 unfold zvH at ha
 rw [Bool.and_eq_true,decide_eq_true_eq,List.all_eq_true] at ha
 have hr:rows.length≤20:=by
  have h9:=hb.1.1
  unfold zkj at h9
  split at h9
  ·
   simp only [decide_eq_true_eq] at h9;omega
  ·
   omega
 refine ⟨ha.1,fun x hx=>by simpa using ha.2 x hx,hr,by omega,by omega,by omega,by omega,by omega,by omega,fun p hp=>?_⟩
 have h8:=zrm h2
 rw [List.any_eq_false] at h8
 have h7:=h8 p hp
 unfold znv at h7
 simpa using h7
end
end
section
open Go Go.Kn Go.Proofs
theorem zul:Fun Tryz.prog 28:=.of Tryz.func28 (by kernel_rfl) (by kernel_rfl)
theorem zt3:Fun Tryz.prog 29:=.of Tryz.func29 (by kernel_rfl) (by kernel_rfl)
theorem zos {I:Qu}{av:Option Addr}{n c:Nat}{ws:List Wr}(hW0:SlW I av n c ws)(hn:n≤9223372036854775807){bv:Option Addr}{n2 c2:Nat}{rows:List (List Int)}(hVn:SlN I bv n2 c2 rows){ea1:Option Addr}{en1 ec1:Nat}{ea2:Option Addr}{en2 ec2:Nat}{ea3:Option Addr}{en3 ec3:Nat}{xs:List Int}{es:List Em}{rd:List Int}(hX1:Sl I 1 QR ea1 en1 ec1 xs)(hX2:Sl I 3 Yy ea2 en2 ec2 es)(hX3:Sl I 1 QR ea3 en3 ec3 rd)(no:Int){pv:Option Addr}{pn pc:Nat}{ps:List Pt}(hP:SlP I pv pn pc ps){dv:Option Addr}{n3 c3:Nat}{vs:List Int}(hVs:Sl I 1 QR dv n3 c3 vs):Zw Tryz.prog 10 [.slice av n c,.slice bv n2 c2,.agg (Z1 no ea1 en1 ec1 ea2 en2 ec2 ea3 en3 ec3).toArray,.slice pv pn pc,.slice dv n3 c3] I (.bool (zbn ws rows xs es rd ps vs)):=by
 intro g H w hw
 refine qe Tryz.func10 Tryz.ntmps10 hw ?_
 obtain ⟨wt,hWH⟩:=id hW0
 have hWl:=hWH.2.1
 have hX1l:=hX1.len
 have hX2l:=hX2.len
 have hX3l:=hX3.len
 have hPl:=hP.len
 have hVl:=hVs.len
 refine zR ?_
 refine Q5 rfl rfl rfl (fun b_7=>?_)
 refine zA ?_
 refine zN (zR ?_)
 refine zM ?_
 refine qc (vs:=[_]) rfl zul (ztq hWH.1 hn) ?_
 refine zA ?_
 refine zN (zR ?_)
 refine zM ?_
 refine zF zfg ?_
 refine zL QK ?_
 refine zF zaL ?_
 refine zL zjD ?_
 refine qc (vs:=[_,_,_]) rfl zt3 (zpB hVn _ _ _ _ _ _) ?_
 refine zA (zN (Ql (zR ?_)))
 refine zM ?_
 refine zO ?_
 refine zM ?_
 refine QX 2 rfl rfl rfl ?_
 refine zJ (Qi rfl) ?_
 refine zJ (Vy rfl) ?_
 refine ZA rfl rfl rfl rfl rfl ?_
 refine zM ?_
 refine QX 6 rfl rfl rfl ?_
 refine zJ (Qe rfl VT) ?_
 refine zJ (Qd rfl QK (fun hg=>by exact QU.h0 rfl)) ?_
 refine zJ (ZH rfl Qy) ?_
 refine zJ (QH rfl rfl rfl) ?_
 refine ZA rfl rfl rfl rfl rfl ?_
 refine zM ?_
 refine QX 12 rfl rfl rfl ?_
 refine zJ (Qi rfl) ?_
 refine zJ (ZH rfl Zz) ?_
 refine zJ (QH rfl rfl rfl) ?_
 refine zJ (Qi rfl) ?_
 refine QE 16 rfl rfl rfl ?_
 refine zK (Qi rfl) ?_
 refine zK (ZH rfl Zz) ?_
 refine zK (QH rfl rfl rfl) ?_
 refine XY rfl rfl rfl (.some rfl rfl rfl rfl gbf) rfl rfl ?_
 refine ZA rfl rfl rfl rfl rfl ?_
 refine zM ?_
 refine QX 22 rfl rfl rfl ?_
 refine zJ (Qi rfl) ?_
 refine zJ (ZH rfl Zz) ?_
 refine zJ (QH rfl rfl rfl) ?_
 refine ZA rfl rfl rfl rfl rfl ?_
 refine zM ?_
 refine QX 27 rfl rfl rfl ?_
 refine zJ (Qi rfl) ?_
 refine zJ (ZH rfl Qy) ?_
 refine zJ (QH rfl rfl rfl) ?_
 refine ZA rfl rfl rfl rfl rfl ?_
 refine zN ?_
 refine zI ?_ ?_<;>intro hc53
 ·
  have h53:=zoI hWH hX1l hX2l hX3l hPl hVl hc53
  refine zR (zA (zN (Qt (Qc ?_))))
  exact zr rfl rfl (by rw [h53])
 have h53:=zkq hWH hX1l hX2l hX3l hPl hVl hc53
 have hpn6:pn≤600:=h53.2
 refine Qo (Qa (Ql (zR (zA (zN (Qm ?_))))))
 refine zU [(3,_)] (fun T L0 mz E I' loc'=>∃ (k:Nat),mz=pn-k∧E=(13,.int .i64 k)::T∧I=I'∧L0=loc'∧k≤pn∧(ps.take k).any znv=false) ?_ (h:=⟨0,rfl,rfl,rfl,rfl,Nat.zero_le _,rfl⟩)
 rintro mz E I' loc' ⟨k,rfl,rfl,rfl,rfl,hk,hno⟩
 refine Ql (zR (zM ?_))
 refine zM ?_
 refine zQ Zz ?_
 refine zC (zN ?_)
 refine zI ?_ ?_<;>intro hc57
 ·
  have hlt_k:k<pn:=by have h:=hc57;simp at h;omega
  obtain ⟨p,hp,hN⟩:=hP.at hlt_k
  have hNl:p.needs.length=p.n:=hN.len
  refine Qo (Qa (Ql (Qm (zR (zM ?_)))))
  refine zM ?_
  refine zV (QF rfl rfl Zz hP.1 (fun hg=>by omega)) ?_
  refine zF KR ?_
  refine zV (Qd rfl QK (fun hg=>by exact zyg (j:=18) hP.1 hp rfl)) ?_
  refine zQ Qy ?_
  refine zC (zN ?_)
  refine zI ?_ ?_<;>intro hc66
  ·
   have hbg:znv p=true:=by have h:=hc66;unfold znv;simp only [decide_eq_true_eq] at h ⊢;omega
   refine zR (zA (zN (Qt (Qn (Qc (Qc (Qn ?_)))))))
   refine Qc ?_
   first
   | exact zr rfl rfl (by rw [h53.1,JY hp hbg];rfl)
  have hbg:znv p=false:=by have h:=hc66;unfold znv;simp only [decide_eq_false_iff_not] at h ⊢;omega
  refine Qo (Qh (Qa (Qg (zM ?_))))
  refine zB ?_
  refine zA (Qb ?_)
  exact zm (h:=⟨pn-(k+1),by omega,k+1,rfl,rfl,rfl,rfl,by omega,YX hp hno hbg⟩)
 have hge_k:pn≤k:=by have h:=hc57;simp at h;omega
 rw [ZF hPl hge_k] at hno
 refine QI (Qf (Qf (Qk (Qa (zR (zA (zN ?_)))))))
 refine Qt ?_
 first
 | exact zr rfl rfl (by rw [h53.1,hno];rfl)
end
section
open Go Go.Kn Go.Proofs
def zgA (d:Int):Sg:=⟨0,0,0,1,4,1,d,2,0,0,0,1,1,1⟩
def wK:List Wr:=[⟨1,0,[⟨false,zgA 3⟩]⟩,⟨2,0,[⟨false,zgA 4⟩]⟩]
def ptK:Pt:=⟨2,1,0,5,⟨0,0,0,0,0,0,5,0,0,0,0,0,0,0⟩,none,0,0,[]⟩
theorem zxR:zae wK=0:=by kernel_rfl
theorem zxD:Uz wK=[[36110336],[36241408]]:=by kernel_rfl
theorem mK:U9 [[36110336],[36241408]] 1 [3] []=0:=by kernel_rfl
theorem rK:VG [[36110336],[36241408]] [3] []=[36110336]:=by rw [zfy];kernel_rfl
theorem mK9:U9 [[7],[9],[7]] 1 [5,7] []=0:=by kernel_rfl
theorem rK9:VG [[7],[9],[7]] [5,7] []=[7]:=by rw [zfy];kernel_rfl
theorem eK9:WP [[7],[9],[7]] 1 [5,7] [] [7]=0:=zqC mK9 rK9.symm
theorem nK9:zhb [[7],[9],[7]] [7] 1=[⟨0,7,[⟨7,[0,2]⟩,⟨9,[1]⟩]⟩]:=by kernel_rfl
theorem eK0:WP [] 0 [] [] []=420:=by rw [zuB (by decide)];kernel_rfl
theorem gK:JO wK [[36110336],[36241408]] 1 [3] [] [36110336]=0∧YM wK [[36110336],[36241408]] 1 [3] [] [36110336]=[zgA 3]:=ztT zxR zxD (zqC mK rK.symm) (by kernel_rfl)
section
variable (vs:List Int)
def opK:Int:=zb1 (JO wK [[36110336],[36241408]] 1 [3] [] [36110336]) [ptK] (YM wK [[36110336],[36241408]] 1 [3] [] [36110336]) vs
def sgK:List Sg:=Ug (onF [ptK]) (YM wK [[36110336],[36241408]] 1 [3] [] [36110336]) (Yb [ptK] vs)
end
theorem zvI:opK [2]=0:=by unfold opK;rw [gK.1,gK.2];kernel_rfl
theorem zvS:opK []=0:=by unfold opK;rw [gK.1,gK.2];kernel_rfl
theorem zvZ:orE (opK [2]) (sgK [2]) 0 5=0:=by unfold sgK;rw [zvI,gK.2];kernel_rfl
theorem zxg:orE (opK [2]) (sgK [2]) 0 6=0:=by unfold sgK;rw [zvI,gK.2];kernel_rfl
theorem zwN:orE (opK []) (sgK []) 0 5=0:=by unfold sgK;rw [zvS,gK.2];kernel_rfl
theorem zxq:orE (opK []) (sgK []) 0 10=440:=by unfold sgK;rw [zvS,gK.2];kernel_rfl
def ogK (vs:List Int)(s f:Int):Og:=zah (onF [ptK]) [[36110336],[36241408]] [] [36110336] (Yb [ptK] vs) s f
theorem zwq:orO 0 (ogK [2] 0 5)=⟨3,0,[],[2]⟩:=by kernel_rfl
theorem zv4:orO 0 (ogK [2] 0 6)=⟨1,0,[0],[]⟩:=by kernel_rfl
theorem zwM:orO 0 (ogK [] 0 5)=⟨1,0,[0],[]⟩:=by kernel_rfl
theorem zwz:orO 440 (ogK [] 0 10)=zOg:=by kernel_rfl
theorem zxl:tcF (opK [2]) (ogK [2]) (sgK [2])=[(0,5)]:=by unfold sgK;rw [zvI,gK.2];kernel_rfl
theorem zxB:tcF (opK []) (ogK []) (sgK [])=[]:=by unfold sgK;rw [zvS,gK.2];kernel_rfl
end
section
open Go Go.Kn Go.Proofs
theorem ztl:ElT Tryz.prog 35 65 3 40:=.of (by kernel_rfl)
theorem znU:ElT Tryz.prog 63 60 15 120:=.of (by kernel_rfl)
theorem znz:Fun Tryz.prog 11:=.of Tryz.func11 (by kernel_rfl) (by kernel_rfl)
theorem zu0:Fun Tryz.prog 13:=.of Tryz.func13 (by kernel_rfl) (by kernel_rfl)
theorem zcO:Fun Tryz.prog 14:=.of Tryz.func14 (by kernel_rfl) (by kernel_rfl)
theorem zhZ:Fun Tryz.prog 16:=.of Tryz.func16 (by kernel_rfl) (by kernel_rfl)
theorem zi7:Fun Tryz.prog 18:=.of Tryz.func18 (by kernel_rfl) (by kernel_rfl)
theorem zuJ:Fun Tryz.prog 19:=.of Tryz.func19 (by kernel_rfl) (by kernel_rfl)
theorem znK:Fun Tryz.prog 26:=.of Tryz.func26 (by kernel_rfl) (by kernel_rfl)
theorem zs1:PlT Tryz.prog 57 #[(0,1),(1,1),(2,1),(3,1),(4,14),(18,1)] (.agg #[(.int .i64 0),(.int .i64 0),(.int .i64 0),(.int .i64 0),(.int .i64 0),(.int .i64 0),(.int .i64 0),(.int .i64 0),(.int .i64 0),(.int .i64 0),(.int .i64 0),(.int .i64 0),(.int .i64 0),(.int .i64 0),(.int .i64 0),(.int .i64 0),(.int .i64 0),(.int .i64 0),(.slice none 0 0)]):=⟨.of (by kernel_rfl),by kernel_rfl,fun w=>by kernel_rfl⟩
theorem zus:PlT Tryz.prog 60 #[(0,1),(1,14)] (.agg #[(.bool false),(.int .i64 0),(.int .i64 0),(.int .i64 0),(.int .i64 0),(.int .i64 0),(.int .i64 0),(.int .i64 0),(.int .i64 0),(.int .i64 0),(.int .i64 0),(.int .i64 0),(.int .i64 0),(.int .i64 0),(.int .i64 0)]):=⟨.of (by kernel_rfl),by kernel_rfl,fun w=>by kernel_rfl⟩
theorem zn7:PlT Tryz.prog 65 #[(0,1),(1,1),(2,1)] (.agg #[(.int .i64 0),(.int .i64 0),(.slice none 0 0)]):=⟨.of (by kernel_rfl),by kernel_rfl,fun w=>by kernel_rfl⟩
theorem ztX (I:Qu)(d:Int):Zw Tryz.prog 26 [.int .i64 d] I (.agg (JF ⟨false,zgA d⟩).toArray):=by
 intro g H w hw
 refine qe Tryz.func26 Tryz.ntmps26 hw ?_
 refine zR ?_
 refine Qr zme rfl rfl (fun b_2=>?_)
 refine zN (zR ?_)
 refine zM ?_
 refine zV (QS (ps:=[(1,_)]) [_,_] zfo rfl rfl) ?_
 refine zV (QS (ps:=[(0,_),(1,_)]) [_,_] zfo rfl rfl) ?_
 refine zV (QS (ps:=[(4,_),(3,_),(5,_),(6,_),(7,_),(10,_),(11,_)]) [_,_,_,_,_,_,_,_,_,_,_,_,_,_] UQ rfl rfl) ?_
 refine zV (QS (ps:=[(1,_)]) [_,_,_,_,_,_,_,_,_,_,_,_,_,_,_] zus rfl rfl) ?_
 refine zh ze6 ?_
 refine zN (Qt ?_)
 exact KH rfl rfl ze7 (by repeat (first | exact zyc | apply zyb)) rfl (fun w hw=>⟨rfl,hw.drop⟩)
theorem zl4 {I:Qu}{b t n:Nat}(hs:List Hd){vss:List (List Int)}(hn:hs.length=n)(h:I b=some (.cells (hs.flatMap W2).toArray t (0,0)))(r:zb8 I hs vss):SlN I (some ⟨b,0,none⟩) n n vss:=⟨hs,Sl.lit hs hn Za h,r⟩
theorem zfr {I:Qu}{bv av dv:Option Addr}{n2 c2 n c n3 c3:Nat}{rows:List (List Int)}{cl:List Int}{es:List Em}{no:Int}(hV:SlN I bv n2 c2 rows)(hS:Sl I 1 QR av n c cl)(hE:Sl I 3 Yy dv n3 c3 es)(hDb:VI I)(hn2:n2≤100000)(hn:n≤100000)(hn3:n3≤100000){rd:List Int}{k:Nat}
  (he:U9 rows no cl es=0)(hr:VG rows cl es=rd)(hk:rd.length=k):Yg Tryz.prog 25 [.slice bv n2 c2,.int .i64 no,.slice av n c,.slice dv n3 c3] I [] (fun v I' L=>L=[]∧∃ a1 c1 a2 c2 a3 c3,v= .tuple #[.agg (Z1 no a1 n c1 a2 n3 c2 a3 k c3).toArray,.int .i64 0]∧Sl I' 1 QR a1 n c1 cl∧Sl I' 3 Yy a2 n3 c2 es∧Sl I' 1 QR a3 k c3 rd):=by
 intro g H w hw
 refine (znV hS hV hn2 hE hn3 hn hDb no g H w hw).mono ?_
 rintro ed w' ⟨v,I',L',hed,hI,hs,hMQ⟩
 obtain ⟨rfl,no2,cl2,es2,rd2,a1,q1,c1,a2,q2,c9,a3,q3,c3,rfl,hM1,hM2,hM3,hMy, -⟩:=hMQ.opn
 obtain ⟨rfl,rfl,rfl,rfl⟩:=hMy he
 have l1:=hM1.len.symm.trans hS.len;have l2:=hM2.len.symm.trans hE.len
 subst l1;subst l2;subst hk
 rw [hr] at hM3
 have l3:=hM3.len
 subst l3
 exact ⟨_,I',[],hed,hI,hs,rfl,a1,c1,a2,c9,a3,c3,by rw [he],hM1,hM2,hM3⟩
theorem zxv {I:Qu}{bv a1 a2 a3:Option Addr}{c2 c1 c9 c3:Nat}(hV:SlN I bv 3 c2 [[7],[9],[7]])(h1:Sl I 1 QR a1 2 c1 [5,7])(h2:Sl I 3 Yy a2 0 c9 [])(h3:Sl I 1 QR a3 1 c3 [7])(hDb:VI I):Yg Tryz.prog 11 [.slice bv 3 c2,.agg (Z1 1 a1 2 c1 a2 0 c9 a3 1 c3).toArray] I [] (zwx 0 [⟨0,7,[⟨7,[0,2]⟩,⟨9,[1]⟩]⟩]):=by
 have h:=zcV hV (by decide) h1 h2 h3 (by decide) (by decide) (by decide) 1 hDb
 rw [eK9,(zfM rfl).trans nK9] at h
 exact h
theorem zve {I:Qu}(hDb:VI I):Yg Tryz.prog 11 [.slice none 0 0,.agg (Z1 0 none 0 0 none 0 0 none 0 0).toArray] I [] (zwx 420 []):=by
 have h:=zcV (I:=I) (ea1:=none) (ec1:=0) (ea2:=none) (ec2:=0) (ea3:=none) (ec3:=0) SlN.none (by decide) .nil .nil .nil (by decide) (by decide) (by decide) 0 hDb
 rw [eK0] at h
 exact h
theorem zw2 {I:Qu}{av:Option Addr}{c:Nat}(hW:SlW I av 2 c wK):Yg Tryz.prog 27 [.slice av 2 c] I [] (zaH 0 [[36110336],[36241408]]):=by
 have h:=zhy hW (by decide)
 rw [zxR,zxD] at h
 exact h
section
variable {I:Qu} {av bv a1 a2 a3 pv dv:Option Addr} {c c2 c1 c9 c3 pc vn vc:Nat} {vs:List Int} (hW:SlW I av 2 c wK) (hV:SlN I bv 2 c2 [[36110336],[36241408]]) (h1:Sl I 1 QR a1 1 c1 [3]) (h2:Sl I 3 Yy a2 0 c9 []) (h3:Sl I 1 QR a3 1 c3 [36110336]) (hP:SlP I pv 1 pc [ptK]) (hVs:Sl I 1 QR dv vn vc vs) (hvn:vn≤100000) (hDb:VI I)
include hW hV h1 h2 h3 hP hVs hvn hDb
theorem zvO {f e:Int}{o:Og}(he:orE (opK vs) (sgK vs) 0 f=e)(ho:orO e (ogK vs 0 f)=o):Yg Tryz.prog 14 [.slice av 2 c,.slice bv 2 c2,.agg (Z1 1 a1 1 c1 a2 0 c9 a3 1 c3).toArray,.slice pv 1 pc,.slice dv vn vc,.int .i64 0,.int .i64 f] I [] (OrQ e o):=by
 subst ho;subst he
 exact ze3 hW (by decide) hV (by decide) h1 h2 h3 (by decide) (by decide) (by decide) 1 hP (by decide) hVs hvn hDb 0 f
theorem zxG {e:Int}{l:List (Int×Int)}(he:opK vs=e)(ho:tcF (opK vs) (ogK vs) (sgK vs)=l):Yg Tryz.prog 16 [.slice av 2 c,.slice bv 2 c2,.agg (Z1 1 a1 1 c1 a2 0 c9 a3 1 c3).toArray,.slice pv 1 pc,.slice dv vn vc] I [] (zxO e l):=by
 subst ho;subst he
 exact zcq hW (by decide) hV (by decide) h1 h2 h3 (by decide) (by decide) (by decide) 1 hP (by decide) hVs hvn hDb
end
theorem zdS {I:Qu}{o:Og}{a1:Option Addr}{n1 c1:Nat}{a2:Option Addr}{n2 c2:Nat}(h1:Sl I 1 QR a1 n1 c1 o.ws)(h2:Sl I 1 QR a2 n2 c2 o.ps){a3:Option Addr}{n3 c3:Nat}{a4:Option Addr}{n4 c4:Nat}(h3:Sl I 1 QR a3 n3 c3 o.ws)(h4:Sl I 1 QR a4 n4 c4 o.ps)(hb1:n1≤100000)(hb2:n2≤100000):Zw Tryz.prog 18 [.agg #[.int .i64 o.k,.int .i64 o.r,.slice a1 n1 c1,.slice a2 n2 c2],.agg #[.int .i64 o.k,.int .i64 o.r,.slice a3 n3 c3,.slice a4 n4 c4]] I (.bool true):=by
 have h:=zoE h1 h2 h3 h4 hb1 hb2
 rw [zkv] at h
 exact h
theorem zox {I:Qu}{a b:Option Addr}{n c d:Nat}(h1:ze1 I a n c [⟨0,7,[⟨7,[0,2]⟩,⟨9,[1]⟩]⟩])(h2:ze1 I b 1 d [⟨0,7,[⟨7,[0,2]⟩,⟨9,[1]⟩]⟩]):Zw Tryz.prog 13 [.slice a n c,.slice b 1 d] I (.bool true):=by
 have h:=zk9 h1 h2 (by rw [←h1.len];decide) (by decide)
 rw [zbL zlT] at h
 exact h
theorem zoC {I:Qu}{b1 b2 b3 b4:Nat}(h1:I b1=some (.cells (([0,2]:List Int).flatMap QR).toArray 3 (0,0)))(h2:I b2=some (.cells (([1]:List Int).flatMap QR).toArray 3 (0,0)))(h3:I b3=some (.cells (([⟨7,⟨some ⟨b1,0,none⟩,2,2⟩⟩,⟨9,⟨some ⟨b2,0,none⟩,1,1⟩⟩]:List Vh).flatMap zbl).toArray 77 (0,0)))
  (h4:I b4=some (.cells (([⟨0,7,⟨some ⟨b3,0,none⟩,2,2⟩⟩]:List Eh).flatMap zcx).toArray 74 (0,0))):ze1 I (some ⟨b4,0,none⟩) 1 1 [⟨0,7,[⟨7,[0,2]⟩,⟨9,[1]⟩]⟩]:=
 ⟨_,Sl.lit _ rfl Zl h4,zak.nil.snoc ⟨rfl,rfl,_,Sl.lit _ rfl Zm h3,(zak.nil.snoc ⟨rfl,Sl.lit _ rfl Qv h1⟩).snoc ⟨rfl,Sl.lit _ rfl Qv h2⟩⟩⟩
set_option maxRecDepth 100000 in
theorem zsI {I:Qu} (hDb:VI I):Zw Tryz.prog 9 [] I (.bool true):=by
 intro g H w hw
 refine qe Tryz.func9 Tryz.ntmps9 hw ?_
 have hIc:=zye I
 refine zR (zA ?_)
 refine zN (zR ?_)
 refine Qq (ps:=[(0,_)]) (m:=[QR 7]) Zi rfl (.cons rfl (.nil)) rfl (by simp [Qv]) (by decide) (by decide) rfl rfl (fun b_26=>?_)
 refine Qq (ps:=[(0,_)]) (m:=[QR 9]) Zi rfl (.cons rfl (.nil)) rfl (by simp [Qv]) (by decide) (by decide) rfl rfl (fun b_27=>?_)
 refine Qq (ps:=[(0,_)]) (m:=[QR 7]) Zi rfl (.cons rfl (.nil)) rfl (by simp [Qv]) (by decide) (by decide) rfl rfl (fun b_28=>?_)
 refine Qq (ps:=[(0,_),(1,_),(2,_)]) (m:=[W2 ⟨some ⟨b_26,0,none⟩,1,1⟩,W2 ⟨some ⟨b_27,0,none⟩,1,1⟩,W2 ⟨some ⟨b_28,0,none⟩,1,1⟩]) zat rfl (.cons rfl (.cons rfl (.cons rfl (.nil)))) rfl (by simp [Za]) (by decide) (by decide) rfl rfl (fun b_29=>?_)
 refine zA ?_
 refine zN (zR ?_)
 refine zM ?_
 refine Qq (ps:=[(0,_),(1,_)]) (m:=[QR 5,QR 7]) Zi rfl (.cons rfl (.cons rfl (.nil))) rfl (by simp [Qv]) (by decide) (by decide) rfl rfl (fun b_32=>?_)
 refine KC (fun I1 hI1 hall1=>?_)
 have hDb:=hDb.mono hI1;have hIc:=hIc.trans hI1
 have h71:SlN I1 (some ⟨b_29,0,none⟩) 3 3 [[7],[9],[7]]:=zl4 (vss:=[[7],[9],[7]]) ([⟨some ⟨b_26,0,none⟩,1,1⟩,⟨some ⟨b_27,0,none⟩,1,1⟩,⟨some ⟨b_28,0,none⟩,1,1⟩]:List Hd) rfl (show _=some (Obj.cells (([⟨some ⟨b_26,0,none⟩,1,1⟩,⟨some ⟨b_27,0,none⟩,1,1⟩,⟨some ⟨b_28,0,none⟩,1,1⟩]:List Hd).flatMap W2).toArray 23 (0,0)) from hall1 _ _ (by repeat (first | exact List.mem_cons_self .. | apply List.mem_cons_of_mem))) (((zb8.nil.snoc (hd:=⟨some ⟨b_26,0,none⟩,1,1⟩) (Sl.lit ([7]:List Int) rfl Qv (show _=some (Obj.cells (([7]:List Int).flatMap QR).toArray 3 (0,0)) from hall1 _ _ (by repeat (first | exact List.mem_cons_self .. | apply List.mem_cons_of_mem))))).snoc (hd:=⟨some ⟨b_27,0,none⟩,1,1⟩) (Sl.lit ([9]:List Int) rfl Qv (show _=some (Obj.cells (([9]:List Int).flatMap QR).toArray 3 (0,0)) from hall1 _ _ (by repeat (first | exact List.mem_cons_self .. | apply List.mem_cons_of_mem))))).snoc (hd:=⟨some ⟨b_28,0,none⟩,1,1⟩) (Sl.lit ([7]:List Int) rfl Qv (show _=some (Obj.cells (([7]:List Int).flatMap QR).toArray 3 (0,0)) from hall1 _ _ (by repeat (first | exact List.mem_cons_self .. | apply List.mem_cons_of_mem)))))
 have hC2:Sl I1 1 QR (some ⟨b_32,0,none⟩) 2 2 [5,7]:=(Sl.lit ([5,7]:List Int) rfl Qv (show _=some (Obj.cells (([5,7]:List Int).flatMap QR).toArray 3 (0,0)) from hall1 _ _ (by repeat (first | exact List.mem_cons_self .. | apply List.mem_cons_of_mem))))
 refine Qz (cap:=[]) (vs:=[_,_,_,_]) rfl rfl ziR .nil (zfr (no:=1) (es:=[]) (rd:=[7]) (k:=1) h71 hC2 .nil hDb (by decide) (by decide) (by decide) mK9 rK9 rfl) rfl rfl ?_
 rintro vv2 I2 L2 hI2 ⟨rfl,x1,x2,x3,x4,x5,x6,rfl,hx1,hx2,hx3⟩
 have hDb:=hDb.mono hI2;have h71:=h71.mono hI2;have hIc:=hIc.trans hI2
 refine zM ?_
 refine zE ?_
 refine zE ?_
 refine Qr zlk rfl rfl (fun b_2=>?_)
 refine zh KN ?_
 refine zA ?_
 refine zN (zR ?_)
 refine zM ?_
 refine zV (Qp rfl Z0 (fun hg=>by exact Cells.g0) rfl) ?_
 refine Qz (cap:=[]) (vs:=[_,_]) rfl rfl znz .nil (zxv h71 hx1 hx2 hx3 hDb) rfl rfl ?_
 rintro vv3 I3 L3 hI3 ⟨rfl,ea,en,ec,rfl,hEn⟩
 have hDb:=hDb.mono hI3;have hIc:=hIc.trans hI3
 refine zM ?_
 refine zE ?_
 refine zE ?_
 refine zA ?_
 refine zA ?_
 refine zN (zR ?_)
 refine zV (QS (ps:=[]) [_,_,_,_] zmF rfl rfl) ?_
 refine Qz (cap:=[]) (vs:=[_,_]) rfl rfl znz .nil (zve hDb) rfl rfl ?_
 rintro vv4 I4 L4 hI4 ⟨rfl,e0a,e0n,e0c,rfl,_⟩
 have hDb:=hDb.mono hI4;have hEn:=hEn.mono hI4;have hIc:=hIc.trans hI4
 refine zM ?_
 refine zE ?_
 refine zE ?_
 refine zA ?_
 refine zA ?_
 refine zN (zR ?_)
 refine qc (vs:=[_]) rfl znK (ztX _ _) ?_
 refine Qq (ps:=[(0,_)]) (m:=[JF ⟨false,zgA 3⟩]) znU rfl (.cons rfl (.nil)) rfl (by simp [Zq]) (by decide) (by decide) rfl rfl (fun b_48=>?_)
 refine zV (QS (ps:=[(0,_),(2,_)]) [_,_,_] zn7 rfl rfl) ?_
 refine qc (vs:=[_]) rfl znK (ztX _ _) ?_
 refine Qq (ps:=[(0,_)]) (m:=[JF ⟨false,zgA 4⟩]) znU rfl (.cons rfl (.nil)) rfl (by simp [Zq]) (by decide) (by decide) rfl rfl (fun b_51=>?_)
 refine zV (QS (ps:=[(0,_),(2,_)]) [_,_,_] zn7 rfl rfl) ?_
 refine Qq (ps:=[(0,_),(1,_)]) (m:=[zki ⟨1,0,some ⟨b_48,0,none⟩,1,1⟩,zki ⟨2,0,some ⟨b_51,0,none⟩,1,1⟩]) ztl rfl (.cons rfl (.cons rfl (.nil))) rfl (by simp [ZK]) (by decide) (by decide) rfl rfl (fun b_53=>?_)
 refine zA ?_
 refine zN (zR ?_)
 refine zM ?_
 refine KC (fun I5 hI5 hall5=>?_)
 have hDb:=hDb.mono hI5;have hEn:=hEn.mono hI5;have hIc:=hIc.trans hI5
 have hq1:Sl I5 15 JF (some ⟨b_48,0,none⟩) 1 1 [⟨false,zgA 3⟩]:=Sl.lit ([⟨false,zgA 3⟩]:List Rd) rfl Zq (show _=some (Obj.cells (([⟨false,zgA 3⟩]:List Rd).flatMap JF).toArray 60 (0,0)) from hall5 _ _ (by repeat (first | exact List.mem_cons_self .. | apply List.mem_cons_of_mem)))
 have hq2:Sl I5 15 JF (some ⟨b_51,0,none⟩) 1 1 [⟨false,zgA 4⟩]:=Sl.lit ([⟨false,zgA 4⟩]:List Rd) rfl Zq (show _=some (Obj.cells (([⟨false,zgA 4⟩]:List Rd).flatMap JF).toArray 60 (0,0)) from hall5 _ _ (by repeat (first | exact List.mem_cons_self .. | apply List.mem_cons_of_mem)))
 have hWK:SlW I5 (some ⟨b_53,0,none⟩) 2 2 wK:=⟨[⟨1,0,some ⟨b_48,0,none⟩,1,1⟩,⟨2,0,some ⟨b_51,0,none⟩,1,1⟩],Sl.lit ([⟨1,0,some ⟨b_48,0,none⟩,1,1⟩,⟨2,0,some ⟨b_51,0,none⟩,1,1⟩]:List Wt) rfl ZK (show _=some (Obj.cells (([⟨1,0,some ⟨b_48,0,none⟩,1,1⟩,⟨2,0,some ⟨b_51,0,none⟩,1,1⟩]:List Wt).flatMap zki).toArray 65 (0,0)) from hall5 _ _ (by repeat (first | exact List.mem_cons_self .. | apply List.mem_cons_of_mem))),rfl,fun k w x h1 h2=>by
  rcases k with _ | _ | k
  ·
   cases h1;cases h2;exact ⟨rfl,rfl,hq1⟩
  ·
   cases h1;cases h2;exact ⟨rfl,rfl,hq2⟩
  simp at h1⟩
 refine Qz (cap:=[]) (vs:=[_]) rfl rfl zmU .nil (zw2 hWK) rfl rfl ?_
 rintro vv6 I6 L6 hI6 ⟨rfl,ta,tc,rfl,hT⟩
 have hDb:=hDb.mono hI6;have hEn:=hEn.mono hI6;have hWK:=hWK.mono hI6;have hIc:=hIc.trans hI6
 refine zM ?_
 refine zE ?_
 refine zE ?_
 refine zA ?_
 refine zA ?_
 refine zN (zR ?_)
 refine zM ?_
 refine Qq (ps:=[(0,_)]) (m:=[QR 3]) Zi rfl (.cons rfl (.nil)) rfl (by simp [Qv]) (by decide) (by decide) rfl rfl (fun b_61=>?_)
 refine KC (fun I7 hI7 hall7=>?_)
 have hDb:=hDb.mono hI7;have hEn:=hEn.mono hI7;have hWK:=hWK.mono hI7;have hT:=hT.mono hI7;have hIc:=hIc.trans hI7
 have hC3:Sl I7 1 QR (some ⟨b_61,0,none⟩) 1 1 [3]:=(Sl.lit ([3]:List Int) rfl Qv (show _=some (Obj.cells (([3]:List Int).flatMap QR).toArray 3 (0,0)) from hall7 _ _ (by repeat (first | exact List.mem_cons_self .. | apply List.mem_cons_of_mem))))
 refine Qz (cap:=[]) (vs:=[_,_,_,_]) rfl rfl ziR .nil (zfr (no:=1) (es:=[]) (rd:=[36110336]) (k:=1) hT hC3 .nil hDb (by decide) (by decide) (by decide) mK rK rfl) rfl rfl ?_
 rintro vv8 I8 L8 hI8 ⟨rfl,y1,y2,y3,y4,y5,y6,rfl,hy1,hy2,hy3⟩
 have hDb:=hDb.mono hI8;have hEn:=hEn.mono hI8;have hWK:=hWK.mono hI8;have hT:=hT.mono hI8;have hIc:=hIc.trans hI8
 refine zM ?_
 refine zE ?_
 refine zE ?_
 refine Qr zlk rfl rfl (fun b_11=>?_)
 refine zh KN ?_
 refine zA ?_
 refine zN (zR ?_)
 refine zV (QS (ps:=[(6,_)]) [_,_,_,_,_,_,_,_,_,_,_,_,_,_] UQ rfl rfl) ?_
 refine zV (QS (ps:=[(0,_),(1,_),(3,_),(4,_)]) [_,_,_,_,_,_,_,_,_,_,_,_,_,_,_,_,_,_,_] zs1 rfl rfl) ?_
 refine Qq (ps:=[(0,_)]) (m:=[Yz ptK]) US rfl (.cons rfl (.nil)) rfl (by simp [QZ]) (by decide) (by decide) rfl rfl (fun b_67=>?_)
 refine zA ?_
 refine zN (zR ?_)
 refine zM ?_
 refine zM ?_
 refine zV (Qp rfl Z0 (fun hg=>by exact Cells.g1) rfl) ?_
 refine zM ?_
 refine Qq (ps:=[(0,_)]) (m:=[QR 2]) Zi rfl (.cons rfl (.nil)) rfl (by simp [Qv]) (by decide) (by decide) rfl rfl (fun b_73=>?_)
 refine ZY (b:=b_67) (by repeat (first | exact Q7.here | apply Q7.there)) (fun I9 hI9 h_67=>?_)
 have hDb:=hDb.mono hI9;have hEn:=hEn.mono hI9;have hWK:=hWK.mono hI9;have hT:=hT.mono hI9;have hy1:=hy1.mono hI9;have hy2:=hy2.mono hI9;have hy3:=hy3.mono hI9;have hIc:=hIc.trans hI9
 refine ZY (b:=b_73) (by repeat (first | exact Q7.here | apply Q7.there)) (fun I10 hI10 h_73=>?_)
 have hDb:=hDb.mono hI10;have hEn:=hEn.mono hI10;have hWK:=hWK.mono hI10;have hT:=hT.mono hI10;have hy1:=hy1.mono hI10;have hy2:=hy2.mono hI10;have hy3:=hy3.mono hI10;have hIc:=hIc.trans hI10
 have h_67:=hI10 _ _ h_67
 have hPK:SlP I10 (some ⟨b_67,0,none⟩) 1 1 [ptK]:=⟨Sl.lit ([ptK]:List Pt) rfl QZ (show _=some (Obj.cells (([ptK]:List Pt).flatMap Yz).toArray 57 (0,0)) from h_67),fun p hp=>by rw [List.mem_singleton] at hp;subst hp;exact .nil⟩
 have hv1:Sl I10 1 QR (some ⟨b_73,0,none⟩) 1 1 [2]:=Sl.lit ([2]:List Int) rfl Qv (show _=some (Obj.cells (([2]:List Int).flatMap QR).toArray 3 (0,0)) from h_73)
 refine Qz (cap:=[]) (vs:=[_,_,_,_,_,_,_]) rfl rfl zcO .nil (zvO (vs:=[2]) hWK hT hy1 hy2 hy3 hPK hv1 (by decide) hDb zvZ zwq) rfl rfl ?_
 rintro vv11 I11 L11 hI11 ⟨rfl,_,rfl,oaA,onA,ocA,obA,omA,odA,rfl,hwA,hzA⟩
 have hDb:=hDb.mono hI11;have hEn:=hEn.mono hI11;have hWK:=hWK.mono hI11;have hT:=hT.mono hI11;have hy1:=hy1.mono hI11;have hy2:=hy2.mono hI11;have hy3:=hy3.mono hI11;have hPK:=hPK.mono hI11;have hIc:=hIc.trans hI11
 refine zM ?_
 refine zE ?_
 refine zE ?_
 refine Qr WC rfl rfl (fun b_14=>?_)
 refine zh VH ?_
 refine zA ?_
 refine zN (zR ?_)
 refine zM ?_
 refine zM ?_
 refine zV (Qp rfl Z0 (fun hg=>by exact Cells.g1) rfl) ?_
 refine zM ?_
 refine Qq (ps:=[(0,_)]) (m:=[QR 2]) Zi rfl (.cons rfl (.nil)) rfl (by simp [Qv]) (by decide) (by decide) rfl rfl (fun b_82=>?_)
 refine ZY (b:=b_82) (by repeat (first | exact Q7.here | apply Q7.there)) (fun I12 hI12 h_82=>?_)
 have hDb:=hDb.mono hI12;have hEn:=hEn.mono hI12;have hWK:=hWK.mono hI12;have hT:=hT.mono hI12;have hy1:=hy1.mono hI12;have hy2:=hy2.mono hI12;have hy3:=hy3.mono hI12;have hPK:=hPK.mono hI12;have hwA:=hwA.mono hI12;have hzA:=hzA.mono hI12;have hIc:=hIc.trans hI12
 have hv2:Sl I12 1 QR (some ⟨b_82,0,none⟩) 1 1 [2]:=Sl.lit ([2]:List Int) rfl Qv (show _=some (Obj.cells (([2]:List Int).flatMap QR).toArray 3 (0,0)) from h_82)
 refine Qz (cap:=[]) (vs:=[_,_,_,_,_,_,_]) rfl rfl zcO .nil (zvO (vs:=[2]) hWK hT hy1 hy2 hy3 hPK hv2 (by decide) hDb zxg zv4) rfl rfl ?_
 rintro vv13 I13 L13 hI13 ⟨rfl,_,rfl,oaB,onB,ocB,obB,omB,odB,rfl,hwB,hzB⟩
 have hDb:=hDb.mono hI13;have hEn:=hEn.mono hI13;have hWK:=hWK.mono hI13;have hT:=hT.mono hI13;have hy1:=hy1.mono hI13;have hy2:=hy2.mono hI13;have hy3:=hy3.mono hI13;have hPK:=hPK.mono hI13;have hwA:=hwA.mono hI13;have hzA:=hzA.mono hI13;have hIc:=hIc.trans hI13
 refine zM ?_
 refine zE ?_
 refine zE ?_
 refine Qr WC rfl rfl (fun b_16=>?_)
 refine zh VH ?_
 refine zA ?_
 refine zN (zR ?_)
 refine zM ?_
 refine zM ?_
 refine zV (Qp rfl Z0 (fun hg=>by exact Cells.g2) rfl) ?_
 refine zM ?_
 refine Qz (cap:=[]) (vs:=[_,_,_,_,_,_,_]) rfl rfl zcO .nil (zvO (vs:=[]) hWK hT hy1 hy2 hy3 hPK .nil (by decide) hDb zwN zwM) rfl rfl ?_
 rintro vv14 I14 L14 hI14 ⟨rfl,_,rfl,oaC,onC,ocC,obC,omC,odC,rfl,hwC,hzC⟩
 have hDb:=hDb.mono hI14;have hEn:=hEn.mono hI14;have hWK:=hWK.mono hI14;have hT:=hT.mono hI14;have hy1:=hy1.mono hI14;have hy2:=hy2.mono hI14;have hy3:=hy3.mono hI14;have hPK:=hPK.mono hI14;have hwA:=hwA.mono hI14;have hzA:=hzA.mono hI14;have hwB:=hwB.mono hI14;have hzB:=hzB.mono hI14
 have hIc:=hIc.trans hI14
 refine zM ?_
 refine zE ?_
 refine zE ?_
 refine Qr WC rfl rfl (fun b_18=>?_)
 refine zh VH ?_
 refine zA ?_
 refine zN (zR ?_)
 refine zM ?_
 refine zM ?_
 refine zV (Qp rfl Z0 (fun hg=>by exact Cells.g3) rfl) ?_
 refine zM ?_
 refine Qz (cap:=[]) (vs:=[_,_,_,_,_,_,_]) rfl rfl zcO .nil (zvO (vs:=[]) hWK hT hy1 hy2 hy3 hPK .nil (by decide) hDb zxq zwz) rfl rfl ?_
 rintro vv15 I15 L15 hI15 ⟨rfl,_,rfl,oaD,onD,ocD,obD,omD,odD,rfl,hwD,hzD⟩
 have hDb:=hDb.mono hI15;have hEn:=hEn.mono hI15;have hWK:=hWK.mono hI15;have hT:=hT.mono hI15;have hy1:=hy1.mono hI15;have hy2:=hy2.mono hI15;have hy3:=hy3.mono hI15;have hPK:=hPK.mono hI15;have hwA:=hwA.mono hI15;have hzA:=hzA.mono hI15;have hwB:=hwB.mono hI15;have hzB:=hzB.mono hI15
 have hwC:=hwC.mono hI15;have hzC:=hzC.mono hI15;have hIc:=hIc.trans hI15
 refine zM ?_
 refine zE ?_
 refine zE ?_
 refine Qr WC rfl rfl (fun b_20=>?_)
 refine zh VH ?_
 refine zA ?_
 refine zN (zR ?_)
 refine zM ?_
 refine zM ?_
 refine zV (Qp rfl Z0 (fun hg=>by exact Cells.g4) rfl) ?_
 refine zM ?_
 refine Qq (ps:=[(0,_)]) (m:=[QR 2]) Zi rfl (.cons rfl (.nil)) rfl (by simp [Qv]) (by decide) (by decide) rfl rfl (fun b_107=>?_)
 refine ZY (b:=b_107) (by repeat (first | exact Q7.here | apply Q7.there)) (fun I16 hI16 h_107=>?_)
 have hDb:=hDb.mono hI16;have hEn:=hEn.mono hI16;have hWK:=hWK.mono hI16;have hT:=hT.mono hI16;have hy1:=hy1.mono hI16;have hy2:=hy2.mono hI16;have hy3:=hy3.mono hI16;have hPK:=hPK.mono hI16;have hwA:=hwA.mono hI16;have hzA:=hzA.mono hI16;have hwB:=hwB.mono hI16;have hzB:=hzB.mono hI16
 have hwC:=hwC.mono hI16;have hzC:=hzC.mono hI16;have hIc:=hIc.trans hI16
 have hv3:Sl I16 1 QR (some ⟨b_107,0,none⟩) 1 1 [2]:=Sl.lit ([2]:List Int) rfl Qv (show _=some (Obj.cells (([2]:List Int).flatMap QR).toArray 3 (0,0)) from h_107)
 refine Qz (cap:=[]) (vs:=[_,_,_,_,_]) rfl rfl zhZ .nil (zxG (vs:=[2]) hWK hT hy1 hy2 hy3 hPK hv3 (by decide) hDb zvI zxl) rfl rfl ?_
 rintro vv17 I17 L17 hI17 ⟨rfl,taA,tcA,rfl,hprA⟩
 have hDb:=hDb.mono hI17;have hEn:=hEn.mono hI17;have hWK:=hWK.mono hI17;have hT:=hT.mono hI17;have hy1:=hy1.mono hI17;have hy2:=hy2.mono hI17;have hy3:=hy3.mono hI17;have hPK:=hPK.mono hI17;have hwA:=hwA.mono hI17;have hzA:=hzA.mono hI17;have hwB:=hwB.mono hI17;have hzB:=hzB.mono hI17
 have hwC:=hwC.mono hI17;have hzC:=hzC.mono hI17;have hIc:=hIc.trans hI17
 refine zM ?_
 refine zE ?_
 refine zE ?_
 refine zA ?_
 refine zA ?_
 refine zN (zR ?_)
 refine zM ?_
 refine zM ?_
 refine zV (Qp rfl Z0 (fun hg=>by exact Cells.g4) rfl) ?_
 refine zM ?_
 refine Qz (cap:=[]) (vs:=[_,_,_,_,_]) rfl rfl zhZ .nil (zxG (vs:=[]) hWK hT hy1 hy2 hy3 hPK .nil (by decide) hDb zvS zxB) rfl rfl ?_
 rintro vv18 I18 L18 hI18 ⟨rfl,taB,tcB,rfl,hprB⟩
 have hEn:=hEn.mono hI18;have hwA:=hwA.mono hI18;have hzA:=hzA.mono hI18;have hwB:=hwB.mono hI18;have hzB:=hzB.mono hI18;have hwC:=hwC.mono hI18;have hzC:=hzC.mono hI18;have hprA:=hprA.mono hI18;have hIc:=hIc.trans hI18
 refine zM ?_
 refine zE ?_
 refine zE ?_
 refine zA ?_
 refine zA (zN (Ql (zR ?_)))
 refine zM ?_
 refine zC ?_
 refine zM ?_
 refine QX 2 rfl rfl rfl ?_
 refine zJ (Qi rfl) ?_
 refine zJ (QH rfl rfl rfl) ?_
 refine ZA rfl rfl rfl rfl rfl ?_
 refine zM ?_
 refine QX 6 rfl rfl rfl ?_
 refine zJ (Qi rfl) ?_
 refine zJ (QH rfl rfl rfl) ?_
 refine ZA rfl rfl rfl rfl rfl ?_
 refine zM ?_
 refine QX 10 rfl rfl rfl ?_
 refine zJ (Qi rfl) ?_
 refine zJ (QH rfl rfl rfl) ?_
 refine ZA rfl rfl rfl rfl rfl ?_
 refine zM ?_
 refine QX 14 rfl rfl rfl ?_
 refine zJ (Qi rfl) ?_
 refine zJ (QH rfl rfl rfl) ?_
 refine ZA rfl rfl rfl rfl rfl ?_
 refine zM ?_
 refine QX 18 rfl rfl rfl ?_
 refine zJ (Qi rfl) ?_
 refine zJ (QH rfl rfl rfl) ?_
 refine ZA rfl rfl rfl rfl rfl ?_
 refine zM ?_
 refine QX 22 rfl rfl rfl ?_
 refine zJ (Qi rfl) ?_
 refine zJ (QH rfl rfl rfl) ?_
 refine ZA rfl rfl rfl rfl rfl ?_
 refine zM ?_
 refine QX 26 rfl rfl rfl ?_
 refine zJ (Qi rfl) ?_
 refine zJ (QH rfl rfl rfl) ?_
 refine ZA rfl rfl rfl rfl rfl ?_
 refine zM ?_
 refine QX 30 rfl rfl rfl ?_
 refine zJ (Qi rfl) ?_
 refine zJ (QH rfl rfl rfl) ?_
 refine ZA rfl rfl rfl rfl rfl ?_
 refine zM ?_
 refine QX 34 rfl rfl rfl ?_
 refine zJ (Qi rfl) ?_
 refine zJ (QH rfl rfl rfl) ?_
 refine ZA rfl rfl rfl rfl rfl ?_
 refine zM ?_
 refine QX 38 rfl rfl rfl ?_
 refine zJ (Qi rfl) ?_
 refine zJ (QH rfl rfl rfl) ?_
 refine ZA rfl rfl rfl rfl rfl ?_
 refine zM ?_
 refine QX 42 rfl rfl rfl ?_
 refine zJ (Qi rfl) ?_
 refine zJ (ZH rfl Jm) ?_
 refine zJ (QH rfl rfl rfl) ?_
 refine ZA rfl rfl rfl rfl rfl ?_
 refine zN ?_
 refine zI ?_ ?_<;>intro hc165
 ·
  exact absurd hc165 (by decide)
 refine Qo (Qa (Ql (zR (zM ?_))))
 refine Qq (ps:=[(0,_),(1,_)]) (m:=[QR 0,QR 2]) Zi rfl (.cons rfl (.cons rfl (.nil))) rfl (by simp [Qv]) (by decide) (by decide) rfl rfl (fun b_167=>?_)
 refine zV (QS (ps:=[(0,_),(1,_)]) [_,_] zjL rfl rfl) ?_
 refine Qq (ps:=[(0,_)]) (m:=[QR 1]) Zi rfl (.cons rfl (.nil)) rfl (by simp [Qv]) (by decide) (by decide) rfl rfl (fun b_169=>?_)
 refine zV (QS (ps:=[(0,_),(1,_)]) [_,_] zjL rfl rfl) ?_
 refine Qq (ps:=[(0,_),(1,_)]) (m:=[zbl ⟨7,⟨some ⟨b_167,0,none⟩,2,2⟩⟩,zbl ⟨9,⟨some ⟨b_169,0,none⟩,1,1⟩⟩]) zhK rfl (.cons rfl (.cons rfl (.nil))) rfl (by simp [Zm]) (by decide) (by decide) rfl rfl (fun b_171=>?_)
 refine zV (QS (ps:=[(1,_),(2,_)]) [_,_,_] zn3 rfl rfl) ?_
 refine Qq (ps:=[(0,_)]) (m:=[zcx ⟨0,7,⟨some ⟨b_171,0,none⟩,2,2⟩⟩]) zjk rfl (.cons rfl (.nil)) rfl (by simp [Zl]) (by decide) (by decide) rfl rfl (fun b_173=>?_)
 refine ZY (b:=b_167) (by repeat (first | exact Q7.here | apply Q7.there)) (fun I19 hI19 h_167=>?_)
 have hEn:=hEn.mono hI19;have hwA:=hwA.mono hI19;have hzA:=hzA.mono hI19;have hwB:=hwB.mono hI19;have hzB:=hzB.mono hI19;have hwC:=hwC.mono hI19;have hzC:=hzC.mono hI19;have hprA:=hprA.mono hI19;have hIc:=hIc.trans hI19
 refine ZY (b:=b_169) (by repeat (first | exact Q7.here | apply Q7.there)) (fun I20 hI20 h_169=>?_)
 have hEn:=hEn.mono hI20;have hwA:=hwA.mono hI20;have hzA:=hzA.mono hI20;have hwB:=hwB.mono hI20;have hzB:=hzB.mono hI20;have hwC:=hwC.mono hI20;have hzC:=hzC.mono hI20;have hprA:=hprA.mono hI20;have hIc:=hIc.trans hI20
 have h_167:=hI20 _ _ h_167
 refine ZY (b:=b_171) (by repeat (first | exact Q7.here | apply Q7.there)) (fun I21 hI21 h_171=>?_)
 have hEn:=hEn.mono hI21;have hwA:=hwA.mono hI21;have hzA:=hzA.mono hI21;have hwB:=hwB.mono hI21;have hzB:=hzB.mono hI21;have hwC:=hwC.mono hI21;have hzC:=hzC.mono hI21;have hprA:=hprA.mono hI21;have hIc:=hIc.trans hI21
 have h_167:=hI21 _ _ h_167
 have h_169:=hI21 _ _ h_169
 refine ZY (b:=b_173) (by repeat (first | exact Q7.here | apply Q7.there)) (fun I22 hI22 h_173=>?_)
 have hEn:=hEn.mono hI22;have hwA:=hwA.mono hI22;have hzA:=hzA.mono hI22;have hwB:=hwB.mono hI22;have hzB:=hzB.mono hI22;have hwC:=hwC.mono hI22;have hzC:=hzC.mono hI22;have hprA:=hprA.mono hI22;have hIc:=hIc.trans hI22
 have h_167:=hI22 _ _ h_167
 have h_169:=hI22 _ _ h_169
 have h_171:=hI22 _ _ h_171
 have hOE:=zoC h_167 h_169 h_171 h_173
 refine qc (vs:=[_,_]) rfl zu0 (zox hEn hOE) ?_
 refine zO ?_
 refine zM ?_
 refine QO (dj:=176) rfl rfl rfl ?_
 refine zM ?_
 refine QO (dj:=176) rfl rfl rfl ?_
 refine zV (Zp (ps:=[(0,_),(1,_)]) [_,_] Yc JJ rfl rfl) ?_
 refine QO (dj:=176) rfl rfl rfl ?_
 refine Qq (ps:=[(0,_)]) (m:=[VO ((0:Int),(5:Int))]) JE rfl (.cons rfl (.nil)) rfl (by simp [VO]) (by decide) (by decide) rfl rfl (fun b_179=>?_)
 refine ZY (b:=b_179) (by repeat (first | exact Q7.here | apply Q7.there)) (fun I23 hI23 h_179=>?_)
 have hwA:=hwA.mono hI23;have hzA:=hzA.mono hI23;have hwB:=hwB.mono hI23;have hzB:=hzB.mono hI23;have hwC:=hwC.mono hI23;have hzC:=hzC.mono hI23;have hprA:=hprA.mono hI23;have hIc:=hIc.trans hI23
 have hOP:Sl I23 2 VO (some ⟨b_179,0,none⟩) 1 1 [((0:Int),(5:Int))]:=Sl.lit _ rfl (fun _=>rfl) h_179
 refine QO (dj:=176) rfl rfl rfl ?_
 refine qc (vs:=[_,_]) rfl zuJ (zp1 hprA hOP (by decide)) ?_
 refine QO (dj:=176) rfl rfl rfl ?_
 refine zO ?_
 refine zV (ZM rfl rfl rfl) ?_
 refine zN ?_
 refine zI ?_ ?_<;>intro hc182
 ·
  exact absurd hc182 (by decide)
 refine Qo (Qa (zR ?_))
 refine zV (Qp rfl YW (fun hg=>by exact Cells.g3) rfl) ?_
 refine Qq (ps:=[(0,_)]) (m:=[QR 2]) Zi rfl (.cons rfl (.nil)) rfl (by simp [Qv]) (by decide) (by decide) rfl rfl (fun b_184=>?_)
 refine zV (QS (ps:=[(0,_),(3,_)]) [_,_,_,_] Xq rfl rfl) ?_
 refine ZY (b:=b_184) (by repeat (first | exact Q7.here | apply Q7.there)) (fun I24 hI24 h_184=>?_)
 have hwA:=hwA.mono hI24;have hzA:=hzA.mono hI24;have hwB:=hwB.mono hI24;have hzB:=hzB.mono hI24;have hwC:=hwC.mono hI24;have hzC:=hzC.mono hI24;have hIc:=hIc.trans hI24
 have hv4:Sl I24 1 QR (some ⟨b_184,0,none⟩) 1 1 [2]:=Sl.lit ([2]:List Int) rfl Qv (show _=some (Obj.cells (([2]:List Int).flatMap QR).toArray 3 (0,0)) from h_184)
 refine qc (vs:=[_,_]) rfl zi7 (zdS hwA hzA .nil hv4 (by rw [←hwA.len];decide) (by rw [←hzA.len];decide)) ?_
 refine zM ?_
 refine QO (dj:=187) rfl rfl rfl ?_
 refine zV (Qp rfl YW (fun hg=>by exact Cells.g2) rfl) ?_
 refine QO (dj:=187) rfl rfl rfl ?_
 refine Qq (ps:=[(0,_)]) (m:=[QR 0]) Zi rfl (.cons rfl (.nil)) rfl (by simp [Qv]) (by decide) (by decide) rfl rfl (fun b_189=>?_)
 refine QO (dj:=187) rfl rfl rfl ?_
 refine zV (QS (ps:=[(0,_),(2,_)]) [_,_,_,_] Xq rfl rfl) ?_
 refine ZY (b:=b_189) (by repeat (first | exact Q7.here | apply Q7.there)) (fun I25 hI25 h_189=>?_)
 have hwB:=hwB.mono hI25;have hzB:=hzB.mono hI25;have hwC:=hwC.mono hI25;have hzC:=hzC.mono hI25;have hIc:=hIc.trans hI25
 have hv5:Sl I25 1 QR (some ⟨b_189,0,none⟩) 1 1 [0]:=Sl.lit ([0]:List Int) rfl Qv (show _=some (Obj.cells (([0]:List Int).flatMap QR).toArray 3 (0,0)) from h_189)
 refine QO (dj:=187) rfl rfl rfl ?_
 refine qc (vs:=[_,_]) rfl zi7 (zdS hwB hzB hv5 .nil (by rw [←hwB.len];decide) (by rw [←hzB.len];decide)) ?_
 refine zV (ZM rfl rfl rfl) ?_
 refine zM ?_
 refine QO (dj:=193) rfl rfl rfl ?_
 refine zV (Qp rfl YW (fun hg=>by exact Cells.g1) rfl) ?_
 refine QO (dj:=193) rfl rfl rfl ?_
 refine Qq (ps:=[(0,_)]) (m:=[QR 0]) Zi rfl (.cons rfl (.nil)) rfl (by simp [Qv]) (by decide) (by decide) rfl rfl (fun b_195=>?_)
 refine QO (dj:=193) rfl rfl rfl ?_
 refine zV (QS (ps:=[(0,_),(2,_)]) [_,_,_,_] Xq rfl rfl) ?_
 refine ZY (b:=b_195) (by repeat (first | exact Q7.here | apply Q7.there)) (fun I26 hI26 h_195=>?_)
 have hwC:=hwC.mono hI26;have hzC:=hzC.mono hI26;have hIc:=hIc.trans hI26
 have hv6:Sl I26 1 QR (some ⟨b_195,0,none⟩) 1 1 [0]:=Sl.lit ([0]:List Int) rfl Qv (show _=some (Obj.cells (([0]:List Int).flatMap QR).toArray 3 (0,0)) from h_195)
 refine QO (dj:=193) rfl rfl rfl ?_
 refine qc (vs:=[_,_]) rfl zi7 (zdS hwC hzC hv6 .nil (by rw [←hwC.len];decide) (by rw [←hzC.len];decide)) ?_
 refine zV (ZM rfl rfl rfl) ?_
 refine zA (zN (Qt ?_))
 exact zp hIc rfl rfl (by rfl)
end
section
open Go Go.Kn Go.Proofs
theorem zgK {og:Int→Int→Og}{s:Int}:∀ j,(tcJ og s j).length≤j
 | 0=>Nat.le_refl _
 | j+1=>by
  have ih:=zgK (og:=og) (s:=s) j
  cases h:(og s ((j:Int)+1)).k==3 with
  | true=>rw [Wi h,List.length_append,List.length_singleton];omega
  | false=>rw [zap h];omega
theorem zo6 {e:Int}{og:Int→Int→Og}{s:List Sg}:(tcF e og s).length≤s.length*9:=by
 unfold tcF
 split
 ·
  exact Nat.zero_le _
 ·
  induction s with
  | nil=>exact Nat.zero_le _
  | cons x s ih=>
   rw [List.flatMap_cons,List.length_append,List.length_cons]
   have:=zgK (og:=og) (s:=x.id) 9
   omega
end
section
open Go Go.Kn Go.Proofs
theorem zu8:Fun Tryz.prog 10:=.of Tryz.func10 (by kernel_rfl) (by kernel_rfl)
theorem zw7:Fun Tryz.prog 9:=.of Tryz.func9 (by kernel_rfl) (by kernel_rfl)
end
section
open Go Go.Kn Go.Proofs
def LsQ (few:Bool)(e:Int)(s:List Sg)(v:Value)(I:Qu)(L:Go.Kn.Loc):Prop:=L=[]∧∃ a n c b,v= .tuple #[.slice a n c,.bool b]∧(b=true→few=true∧e=0∧Sl I 14 Y2 a n c s)
def znB (vs:List Int)(x:Int):Bool:=vs.any (· ==x)
theorem zjK {vs:List Int}{k:Nat}{y:Int}(h:vs[k]? =some y)(x:Int):znB (vs.take (k+1)) x=(decide (y=x)||znB (vs.take k) x):=by
 unfold znB
 rw [UV h,Bool.or_comm]
 congr 1
theorem zo2 {e0:Int}{s:List Sg}{sign f:Int}(h0:e0=0)(hf:isF f)(hs:∃ y∈s,y.id=sign):orE e0 s sign f=0:=by
 refine zsV h0 ?_
 unfold isF at hf
 obtain ⟨y,hy,e⟩:=hs
 rw [Bool.or_eq_false_iff,Bool.or_eq_false_iff]
 refine ⟨⟨by simpa using hf.1,by simpa using hf.2⟩,?_⟩
 rw [Bool.not_eq_false',List.any_eq_true]
 exact ⟨y,hy,by simpa using e⟩
theorem ztr {o:Og}:orO 0 o=o:=if_neg (by decide)
end
section
open Go Go.Kn Go.Proofs
theorem zs3:Fun Tryz.prog 20:=.of Tryz.func20 (by kernel_rfl) (by kernel_rfl)
theorem zxk {I:Qu}{av:Option Addr}{n c:Nat}{ws:List Wr}(hW0:SlW I av n c ws)(hnb:n≤9223372036854775807){bv:Option Addr}{n2 c2:Nat}{rows:List (List Int)}(hVn:SlN I bv n2 c2 rows){ea1:Option Addr}{en1 ec1:Nat}{ea2:Option Addr}{en2 ec2:Nat}{ea3:Option Addr}{en3 ec3:Nat}{xs:List Int}{es:List Em}{rd:List Int}(hX1:Sl I 1 QR ea1 en1 ec1 xs)(hX2:Sl I 3 Yy ea2 en2 ec2 es)(hX3:Sl I 1 QR ea3 en3 ec3 rd)(no:Int){pv:Option Addr}{pn pc:Nat}{ps:List Pt}(hP:SlP I pv pn pc ps){dv:Option Addr}{n3 c3:Nat}{vs:List Int}(hVs:Sl I 1 QR dv n3 c3 vs)(hDb:VI I):Yg Tryz.prog 20 [.slice av n c,.slice bv n2 c2,.agg (Z1 no ea1 en1 ec1 ea2 en2 ec2 ea3 en3 ec3).toArray,.slice pv pn pc,.slice dv n3 c3] I [] (LsQ (zbn ws rows xs es rd ps vs) (zb1 (JO ws rows no xs es rd) ps (YM ws rows no xs es rd) vs) (Ug (onF ps) (YM ws rows no xs es rd) (Yb ps vs))):=by
 intro g H w hw
 refine qe Tryz.func20 Tryz.ntmps20 hw ?_
 have hIc:=zye I
 have hVl:=hVn.len
 have hX1l:=hX1.len
 have hX2l:=hX2.len
 have hX3l:=hX3.len
 have hWl:=hW0.len
 have hPl:=hP.len
 have hVsl:=hVs.len
 refine zR ?_
 refine Q5 rfl rfl rfl (fun b_7=>?_)
 refine zA ?_
 refine zA (zN (Ql (zR ?_)))
 refine zM ?_
 refine zM ?_
 refine zV (Qp rfl Z0 (fun hg=>by exact Cells.g0) rfl) ?_
 refine zM ?_
 refine zM ?_
 refine qc (vs:=[_,_,_,_,_]) rfl zu8 (zos hW0 hnb hVn hX1 hX2 hX3 no hP hVs) ?_
 refine zO (zN ?_)
 refine zI ?_ ?_<;>intro hc20
 ·
  refine zR (zA ?_)
  refine zA (zN (Qt (Qc ?_)))
  exact Zx rfl rfl rfl (fun w hw=>⟨_,I,[],rfl,hIc,hw.drop,rfl,_,_,_,false,rfl,fun h=>by cases h⟩)
 have hfew:zbn ws rows xs es rd ps vs=true:=zf3 hc20
 obtain ⟨g1,g2,g3,g4,g5,g6,g7,g8,g9,g10⟩:=zjg hfew
 refine Qo (Qa (zR (zM ?_)))
 refine zM ?_
 refine zV (Qp rfl Z0 (fun hg=>by exact Cells.g0) rfl) ?_
 refine Qz (cap:=[]) (vs:=[_,_,_]) rfl rfl znA .nil (Go.Proofs.YtodakphagkommaaGreatDoor.w_Signs hW0 (by omega) hVn (by omega) hX1 hX2 hX3 (by omega) (by omega) (by omega) no hDb (fun e=>e ▸ zjJ)) rfl rfl ?_
 rintro vv1 I1 L1 hI1 ⟨rfl,as9,cs9,rfl,hSg⟩
 have hP:=hP.mono hI1;have hVs:=hVs.mono hI1;have hIc:=hIc.trans hI1
 have hSg:Sl I1 14 Y2 as9 (YM ws rows no xs es rd).length cs9 (YM ws rows no xs es rd):=hSg
 refine zM ?_
 refine zE ?_
 refine zE ?_
 refine zA ?_
 refine zA (zN (Ql (zR ?_)))
 refine zM ?_
 refine zC (zN ?_)
 refine zI ?_ ?_<;>intro hc29
 ·
  have he1:(JO ws rows no xs es rd)≠0:=by simpa using hc29
  refine zR (zA ?_)
  refine zA (zN (Qt (Qc ?_)))
  exact Zx rfl rfl rfl (fun w hw=>⟨_,I1,[],rfl,hIc,hw.drop,rfl,_,_,_,false,rfl,fun h=>by cases h⟩)
 have he1:(JO ws rows no xs es rd)=0:=by simpa using hc29
 refine Qo (Qa (zR (zM ?_)))
 refine zM ?_
 refine zM ?_
 refine Qz (cap:=[]) (vs:=[_,_,_]) rfl rfl zn1 .nil (w_Signs hP (by omega) hSg (by have:=zbO (ws:=ws) (rows:=rows) (no:=no) (cl:=xs) (es:=es) (rd:=rd);omega) hVs (by omega)) rfl rfl ?_
 rintro vv2 I2 L2 hI2 ⟨rfl,as8,cs8,rfl,hSs⟩
 have hIc:=hIc.trans hI2
 refine zM ?_
 refine zE ?_
 refine zE ?_
 refine zA ?_
 refine zA ?_
 refine zN (zR ?_)
 refine zM ?_
 refine zM ?_
 refine zC ?_
 refine zA ?_
 refine zA (zN (Qt ?_))
 first
 | exact Zx rfl rfl rfl (fun w hw=>⟨_,I2,[],rfl,hIc,hw.drop,rfl,_,_,_,_,rfl,fun h=>by have he2:zdf ps (YM ws rows no xs es rd) vs=0:=beq_iff_eq.1 h;exact ⟨hfew,by rw [zeC he1,he2],by rw [←(KJ he2).2.2.2.2.2.2.2.1];exact hSs⟩⟩)
end
end Go.Proofs.YtodakphagkommaaGreatDoor.R
namespace Go.Kn
section
open Go
section
variable {α β:Type} {ek:α→Value} {ev:β→Value}
theorem WN (d:TypeDesc)(v:Value):∀ (m:List (α×β)) (k k' i:Nat),Instr.findNow d v (QM ek ev k m) i=Instr.findNow d v (QM ek ev k' m) i
 | [],_,_,_=>rfl
 | p::m,k,k',i=>by simp only [QM,Instr.findNow,WN d v m (k+1) (k'+1) (i+1)]
theorem KL (t:TypeId)(v:Value):∀ (m:List (α×β)) (k k' i:Nat),Instr.findAsking t v (QM ek ev k m) i=Instr.findAsking t v (QM ek ev k' m) i
 | [],_,_,_=>rfl
 | p::m,k,k',i=>by simp only [QM,Instr.findAsking,KL t v m (k+1) (k'+1) (i+1)]
theorem Y7.findB [DecidableEq α]{P:Program}{kt:Nat}(h:Y7 P kt ek)(ev:β→Value)(m:List (α×β))(k:Nat)(a:α)(w:World):(Instr.findKey kt (ek a) (QM ek ev k m)).run P w= .ok ((K1 m a 0).map fun p=>(p.1,ev p.2)) w:=by
 rw [←h.find ev m a w]
 unfold Instr.findKey
 simp only [WN _ (ek a) m k 0,KL _ (ek a) m k 0]
def X8 (ek:α→Value)(ev:β→Value)(m:List (α×β))(q:Nat):Obj:=.map (QM ek ev q (m.drop q)).toArray m.length
end
section
variable {C:Cx} {Q:Exit→Act→World→Prop} {E E':Env} {I I':Qu} {loc loc' L R:Loc} {ops:Array Oper} {rest:List Oper} {S:GS}
variable {dst:Option Tmp} {d:Nat} {ty:TypeId} {pos:String} {af:Array Edge} {gd:Option (Nat×Bool)} {x y z:Operand}
variable {α β:Type} [DecidableEq α] {ek:α→Value} {ev:β→Value} {m:List (α×β)} {a:α} {q q':Nat}
theorem zcb {m:List (α×β)}{a:α}:∀ k,Zy m a=none→K1 m a k=none:=by
 intro k h
 have:=VD m a k
 rw [h] at this
 cases hi:K1 m a k with
 | none=>rfl
 | some p=>rw [hi] at this;cases this
theorem zfU {t k e r:Nat}{m:List (α×Bool)}(hT:MpT C.P t k e (.bool false))(hK:Y7 C.P k ek)(hx:QA S E x=some (.map (some r)))(hy:QA S E y=some (ek a))(hm:ZX S=true→Mem I loc r (X8 ek .bool m q)):
  QT C S E I loc ⟨dst,.lookup t x y false,ty,pos,af,gd⟩ (.bool (zaf (m.drop q) a)):=
 .of (by intro c e;cases e) fun a' w ha hg hc hw=>by
  have hr:(Instr.lookup t (.map (some r)) (ek a) false).run C.P w= .ok (.bool (zaf (m.drop q) a)) w:=by
   have hf:=hK.findB Value.bool (m.drop q) q a w
   have hg:=VD (m.drop q) a 0
   have hh:=(hm hc).heap hw
   unfold X8 at hh
   simp only [Instr.lookup,Sem.run_bind,run_underlying hT.1,Result.andThen,ZG hh,Sem.run_pure,hK.chk]
   rw [hf]
   unfold zaf
   cases hi:K1 (m.drop q) a 0 with
   | none=>rw [hi] at hg;rw [←hg];simp [ZQ hT.2]
   | some p=>rw [hi] at hg;rw [←hg];simp
  simp only [execOp,Qj ha hg hc hx,Qj ha hg hc hy,Sem.run_bind,hr,Result.andThen,Sem.run_pure]
omit [DecidableEq α] in
theorem zqU {t k e r:Nat} {zv:Value} (hx:QA S E x=some (.map (some r))) (hT:MpT C.P t k e zv) (hm:ZX S=true→Mem I loc r (X8 ek ev m q)):QT C S E I loc ⟨dst,.call ⟨.builtin .len, #[x], #[t]⟩,ty,pos,af,gd⟩ (.int .i64 (m.drop q).length):=
 .of (by intro c e;cases e) fun a w ha hg hc hw=>by
  have hh:=(hm hc).heap hw
  unfold X8 at hh
  simp only [execOp,resolve,List.map_toArray,List.map_cons,List.map_nil,Qj ha hg hc hx,Sem.run_bind,Sem.run_pure,Result.andThen,invoke,builtin,Builtin.len_,List.getElem?_toArray,List.getElem?_cons_zero,run_underlying hT.1,goInt,ZG hh,List.size_toArray,zc8]
theorem zob {t k e r:Nat}{zv:Value}(q':Nat)(hd:((m.drop q).head?.map (·.1)=some a∧q'=q+1)∨(Zy (m.drop q) a=none∧q'=q))(hT:MpT C.P t k e zv)(hK:Y7 C.P k ek)(hx:QA [] E x=some (.map (some r)))(hy:QA [] E y=some (ek a))(hG:gd=none)
  (hu:Upd loc r (X8 ek ev m q) (X8 ek ev m q') loc')(h:XO C Q ops rest [] E I loc'):XO C Q ops (⟨none,.call ⟨.builtin .delete, #[x,y], #[t,k]⟩,ty,pos,af,gd⟩::rest) [] E I loc:=
 Z9 hG (by intro c e;cases e) fun a' w ha hw=>by
  have hh:=hw.own _ _ hu.mem
  have hr:(Builtin.delete_ #[t,k] ty #[.map (some r),ek a]).run C.P w= .ok (.tuple #[]) (w.putObj r (X8 ek ev m q')):=by
   have hf:=hK.findB ev (m.drop q) q a w
   unfold X8 at hh ⊢
   simp only [Builtin.delete_,List.getElem?_toArray,List.getElem?_cons_zero,List.getElem?_cons_succ,Sem.run_bind,run_underlying hT.1,Result.andThen,ZG hh,hK.chk,hf]
   rcases hd with ⟨h1,rfl⟩ | ⟨h1,rfl⟩
   ·
    cases hm:m.drop q with
    | nil=>rw [hm] at h1;cases h1
    | cons p l=>
     rw [hm] at h1 hh
     simp only [List.head?_cons,Option.map_some,Option.some.injEq] at h1
     have h2:m.drop (q+1)=l:=by rw [←List.drop_drop,hm];rfl
     rw [h2]
     simp only [K1,if_pos h1,Option.map_some,Sem.run_bind]
     rw [Yf _ hh]
     simp only [Result.andThen,Sem.run_pure]
     congr 2
     simp [Array.eraseIdxIfInBounds,QM]
   ·
    rw [zcb 0 h1]
    simp only [Option.map_none]
    rw [Sem.run_bind,Yf _ hh];rfl
  simp only [execOp,resolve,List.map_toArray,List.map_cons,List.map_nil,Qj (S:=[]) ha trivial rfl hx,Qj (S:=[]) ha trivial rfl hy,Sem.run_bind,Sem.run_pure,Result.andThen,invoke,builtin,hr,Oper.uponIn_value]
  exact h _ _ ha trivial (hw.putObj hu)
end
end
end Go.Kn
namespace Go.Proofs.YtodakphagkommaaGreatDoor.R
section
open Go Go.Kn Go.Proofs
def znZ (vs:List Int)(s f:Int)(p:Pt):Bool:=znB vs p.id&&(p.sign==s&&((p.kind==1&&p.field==f)||p.kind==2))
def zrU (ps:List Pt)(vs:List Int)(s f:Int)(k:Nat):Bool:=(ps.take k).any (znZ vs s f)
theorem zkK {ps:List Pt}{vs:List Int}{s f:Int}{k:Nat}{p:Pt}(h:ps[k]? =some p):zrU ps vs s f (k+1)=(zrU ps vs s f k||znZ vs s f p):=by unfold zrU;rw [UV h]
theorem zqz {ps:List Pt}{vs:List Int}{s f:Int}{n k:Nat}(hn:ps.length=n)(hk:n≤k):zrU ps vs s f k=ps.any (znZ vs s f):=by unfold zrU;rw [List.take_of_length_le (by omega)]
theorem zkt {l0 l:List Pt}(hL:Lst l0)(hl:Lst l){s f:Int}{p:Pt}(hp:p∈stF l s f):0<(zc5 (onF l0) l s f).length:=by
 have hinc:(stF l s f).Pairwise (fun p q=>p.id<q.id):=hl.inc.filter _
 obtain ⟨z,hz⟩:∃ z,(stF l s f).getLast?=some z:=by
  cases h:(stF l s f).getLast? with
  | none=>rw [List.getLast?_eq_none_iff] at h;rw [h] at hp;cases hp
  | some z=>exact ⟨z,rfl⟩
 obtain ⟨ys,hys⟩:=List.getLast?_eq_some_iff.1 hz
 refine List.length_pos_of_mem (a:=z) ?_
 unfold zc5
 rw [List.mem_filter,Bool.not_eq_true',List.any_eq_false]
 refine ⟨by rw [hys];simp,fun q hq hon=>?_⟩
 have h1:=(hL.on_lt hon).1
 rw [hys] at hinc hq
 rw [List.pairwise_append] at hinc
 rcases List.mem_append.1 hq with h | h
 ·
  have:=hinc.2.2 q h z (by simp);omega
 ·
  simp at h;subst h;omega
theorem zsk {on:Int→Int→Bool}{rows:List (List Int)}{es:List Em}{rd:List Int}{l:List Pt}{s f:Int}:((zah on rows es rd l s f).k==3)=(decide (0<(zc5 on l s f).length)||l.any (inP s)):=by
 unfold zah
 by_cases h:(or1 on l s f).2=true
 ·
  rw [if_pos h]
  have h1:decide (0<(zc5 on l s f).length)=true:=h
  rw [h1];rfl
 ·
  rw [if_neg h]
  have h1:decide (0<(zc5 on l s f).length)=false:=by rw [Bool.not_eq_true] at h;exact h
  rw [h1,Bool.false_or]
  have h2:l.any (inP s)=(or2 l s).2:=by
   unfold or2
   cases hf:l.find? (inP s) with
   | none=>rw [List.find?_eq_none] at hf;rw [List.any_eq_false];exact hf
   | some q=>rw [List.any_eq_true];exact ⟨q,List.mem_of_find?_eq_some hf,List.find?_some hf⟩
  rw [h2]
  by_cases h3:(or2 l s).2=true
  ·
   rw [if_pos h3,h3]
   unfold or2 at h3 ⊢
   cases hf:l.find? (inP s) with
   | none=>rw [hf] at h3;cases h3
   | some q=>rfl
  ·
   rw [if_neg h3]
   rw [Bool.not_eq_true] at h3
   rw [h3]
   unfold or3
   cases isT f with
   | true=>rfl
   | false=>
    show ((if (or4 es s).2=true then (or4 es s).1 else (or5 rows rd s).1).k==3)=false
    unfold or4 or5
    split<;>rfl
theorem zrt {base:List Sg}{ps:List Pt}{vs:List Int}{rows:List (List Int)}{es:List Em}{rd:List Int}(h:zdf ps base vs=0)(s f:Int):ps.any (znZ vs s f)=((zah (onF ps) rows es rd (Yb ps vs) s f).k==3):=by
 obtain ⟨hsto,_,_,_,_,hver,_⟩:=KJ h
 have hL:=zeN hsto.lst hver
 rw [zsk,Bool.eq_iff_iff,Bool.or_eq_true,decide_eq_true_eq,List.any_eq_true,List.any_eq_true]
 have hv:∀ {p:Pt},znB vs p.id=true↔p.id∈vs:=fun {p}=>by unfold znB;simp
 constructor
 ·
  rintro ⟨p,hp,hb⟩
  unfold znZ at hb
  simp only [Bool.and_eq_true,Bool.or_eq_true,beq_iff_eq] at hb
  obtain ⟨h1,h2,h3⟩:=hb
  have hm:p∈Yb ps vs:=Yu.2 ⟨hp,hv.1 h1⟩
  rcases h3 with h3 | h3
  ·
   exact .inl (zkt hsto.lst hL (Ub.2 ⟨hm,h3.1,h2,h3.2⟩))
  ·
   exact .inr ⟨p,hm,by unfold inP;simp [h2,h3]⟩
 ·
  rintro (h1 | ⟨p,hm,hb⟩)
  ·
   obtain ⟨p,hp⟩:=List.exists_mem_of_length_pos h1
   obtain ⟨a,b,c,d⟩:=Ub.1 (List.mem_filter.1 hp).1
   obtain ⟨e1,e2⟩:=Yu.1 a
   exact ⟨p,e1,by unfold znZ;rw [hv.2 e2];simp [b,c,d]⟩
  ·
   obtain ⟨e1,e2⟩:=Yu.1 hm
   unfold inP at hb
   simp only [Bool.and_eq_true,beq_iff_eq] at hb
   exact ⟨p,e1,by unfold znZ;rw [hv.2 e2];simp [hb.1,hb.2]⟩
/-! The pairs rise; each is struck when its turn comes. -/
def ltP (a b:Int×Int):Prop:=a.1<b.1∨a.1=b.1∧a.2<b.2
theorem zp8 {a:Int×Int}:¬ltP a a:=by unfold ltP;omega
theorem zbE {og:Int→Int→Og}{s:Int}{j:Nat}{y:Int×Int}:y∈tcJ og s j↔y.1=s∧∃ i:Nat,i<j∧y.2=(i:Int)+1∧((og s ((i:Int)+1)).k==3)=true:=by
 unfold tcJ
 rw [List.mem_flatMap]
 constructor
 ·
  rintro ⟨i,hi,hy⟩
  split at hy
  ·
   rw [List.mem_singleton] at hy;subst hy;exact ⟨rfl,i,List.mem_range.1 hi,rfl,by assumption⟩
  ·
   cases hy
 ·
  rintro ⟨e,i,hi,e2,hk⟩
  refine ⟨i,List.mem_range.2 hi,?_⟩
  rw [if_pos hk,List.mem_singleton]
  obtain ⟨a,b⟩:=y
  simp at e e2;rw [e,e2]
theorem zee {og:Int→Int→Og}{s:Int}:∀ j:Nat,(tcJ og s j).Pairwise ltP
 | 0=>.nil
 | j+1=>by
  cases h:(og s ((j:Int)+1)).k==3 with
  | false=>rw [zap h];exact zee j
  | true=>
   rw [Wi h,List.pairwise_append]
   refine ⟨zee j,List.pairwise_singleton ..,fun a ha b hb=>?_⟩
   rw [List.mem_singleton] at hb;subst hb
   obtain ⟨e,i,hi,e2,_⟩:=zbE.1 ha
   exact .inr ⟨e,by rw [e2];show (i:Int)+1<(j:Int)+1;omega⟩
theorem zo4 {og:Int→Int→Og}{s:List Sg}(h:Srt s):(s.flatMap fun x=>tcJ og x.id 9).Pairwise ltP:=by
 unfold Srt at h
 induction s with
 | nil=>exact .nil
 | cons x s ih=>
  rw [List.pairwise_cons] at h
  rw [List.flatMap_cons,List.pairwise_append]
  refine ⟨zee 9,ih h.2,fun a ha b hb=>?_⟩
  obtain ⟨e,_⟩:=zbE.1 ha
  rw [List.mem_flatMap] at hb
  obtain ⟨y,hy,hb⟩:=hb
  obtain ⟨e2,_⟩:=zbE.1 hb
  exact .inl (by rw [e,e2];exact h.1 y hy)
theorem ziq {l:List (Int×Int)}(h:l.Pairwise ltP):l.Nodup:=h.imp fun {a b} h (e:a=b)=>zp8 (e ▸ h)
theorem zsR {l:List (Int×Int)}(h:l.Pairwise ltP){k:Nat}{x y:Int×Int}(hx:l[k]? =some x)(hy:l[k+1]? =some y):(decide (x.1>y.1)||(x.1==y.1&&decide (x.2≥y.2)))=false:=by
 obtain ⟨h1,e1⟩:=List.getElem?_eq_some_iff.1 hx
 obtain ⟨h2,e2⟩:=List.getElem?_eq_some_iff.1 hy
 have:=List.pairwise_iff_getElem.1 h k (k+1) h1 h2 (by omega)
 rw [e1,e2] at this
 unfold ltP at this
 rw [Bool.or_eq_false_iff,Bool.and_eq_false_iff]
 rcases this with h | ⟨h3,h4⟩
 ·
  exact ⟨by simp;omega,.inl (by rw [beq_eq_false_iff_ne];omega)⟩
 ·
  exact ⟨by simp;omega,.inr (by simp;omega)⟩
def Jg (l:List (Int×Int)):List ((Int×Int)×Bool):=l.map fun p=>(p,true)
theorem zbF {l:List (Int×Int)}(a:Int×Int):Zy (Jg l) a=if a∈l then some true else none:=by
 unfold Jg
 induction l with
 | nil=>rfl
 | cons p l ih=>
  rw [List.map_cons];unfold Zy
  by_cases e:p=a
  ·
   rw [if_pos e,if_pos (by rw [e];exact List.mem_cons_self ..)]
  ·
   rw [if_neg e,ih]
   by_cases h:a∈l
   ·
    rw [if_pos h,if_pos (List.mem_cons_of_mem _ h)]
   ·
    rw [if_neg h,if_neg (by rw [List.mem_cons];rintro (h2 | h2);exact e h2.symm;exact h h2)]
theorem zie {l:List (Int×Int)}(hn:l.Nodup){k:Nat}{y:Int×Int}(hy:l[k]? =some y):Ys (Jg (l.take k)) y true=Jg (l.take (k+1)):=by
 have hni:y∉l.take k:=by
  have h1:(l.take (k+1)).Nodup:=hn.sublist (List.take_sublist _ _)
  rw [List.take_add_one,hy,List.nodup_append] at h1
  exact fun h=>h1.2.2 y h y (by simp) rfl
 have hg:=zbF (l:=l.take k) y
 rw [if_neg hni] at hg
 rw [Uu _ _ _ 0 (zcb 0 hg),List.take_add_one,hy]
 unfold Jg;simp
theorem zcP {l:List (Int×Int)}{q:Nat}:(Jg l).drop q=Jg (l.drop q):=by unfold Jg;rw [List.map_drop]
section
variable {og:Int→Int→Og} {s:List Sg} {k j:Nat} {x:Sg}
def zc6 (og:Int→Int→Og)(s:List Sg)(k:Nat)(x:Sg)(j:Nat):Nat:=(tcK og s k).length+(tcJ og x.id j).length
theorem zv0:zc6 og s k x 0=(tcK og s k).length:=by unfold zc6 tcJ;simp
theorem zwQ (hx:s[k]? =some x):zc6 og s k x 9=(tcK og s (k+1)).length:=by unfold zc6;rw [zeI hx,List.length_append]
theorem ziC:∀ {i:Nat} (j:Nat),j≤i→∃ r,tcJ og x.id i=tcJ og x.id j++r∧∀ y∈r,(j:Int)+1≤y.2
 | 0,j,h=>⟨[],by rw [show j=0 by omega];simp,fun y hy=>by cases hy⟩
 | i+1,j,h=>by
  by_cases e:j=i+1
  ·
   subst e;exact ⟨[],by simp,fun y hy=>by cases hy⟩
  ·
   obtain ⟨r,e1,e2⟩:=ziC (i:=i) j (by omega)
   cases h3:(og x.id ((i:Int)+1)).k==3 with
   | false=>exact ⟨r,by rw [zap h3,e1],e2⟩
   | true=>
    refine ⟨r++[(x.id,(i:Int)+1)],by rw [Wi h3,e1,List.append_assoc],fun y hy=>?_⟩
    rcases List.mem_append.1 hy with hy | hy
    ·
     exact e2 y hy
    ·
     rw [List.mem_singleton] at hy;subst hy;show (j:Int)+1≤(i:Int)+1;omega
theorem zkI {α:Type}(a b:List α):(a++b).drop a.length=b:=by simp
theorem zjO (hs:Srt s)(hx:s[k]? =some x)(hj:j<9):∃ r,(s.flatMap fun x=>tcJ og x.id 9).drop (zc6 og s k x j)=(if (og x.id ((j:Int)+1)).k==3 then [(x.id,(j:Int)+1)] else [])++r∧(x.id,(j:Int)+1)∉r:=by
 have hsp:s=s.take k++x::s.drop (k+1):=by
  obtain ⟨h1,e1⟩:=List.getElem?_eq_some_iff.1 hx
  have h2:=List.drop_eq_getElem_cons h1
  rw [e1] at h2
  rw [←h2,List.take_append_drop]
 obtain ⟨r,e1,e2⟩:=ziC (og:=og) (x:=x) (i:=9) (j+1) (by omega)
 have hJ:tcJ og x.id (j+1)=tcJ og x.id j++if (og x.id ((j:Int)+1)).k==3 then [(x.id,(j:Int)+1)] else []:=by
  cases h3:(og x.id ((j:Int)+1)).k==3 with
  | false=>rw [zap h3];simp
  | true=>rw [Wi h3];simp
 refine ⟨r++(s.drop (k+1)).flatMap fun x=>tcJ og x.id 9,?_,?_⟩
 ·
  have:(s.flatMap fun x=>tcJ og x.id 9)=(tcK og s k++tcJ og x.id j)++((if (og x.id ((j:Int)+1)).k==3 then [(x.id,(j:Int)+1)] else [])++(r++(s.drop (k+1)).flatMap fun x=>tcJ og x.id 9)):=by
   have h0:(s.flatMap fun x=>tcJ og x.id 9)=(s.take k++x::s.drop (k+1)).flatMap fun x=>tcJ og x.id 9:=by rw [←hsp]
   rw [h0,List.flatMap_append,List.flatMap_cons,e1,hJ]
   unfold tcK
   simp only [List.append_assoc]
  rw [this]
  unfold zc6
  rw [←List.length_append,zkI]
 ·
  intro h
  rcases List.mem_append.1 h with h | h
  ·
   have:=e2 _ h
   simp at this;omega
  ·
   rw [List.mem_flatMap] at h
   obtain ⟨y,hy,hm⟩:=h
   obtain ⟨e,_⟩:=zbE.1 hm
   unfold Srt at hs
   rw [hsp,List.pairwise_append,List.pairwise_cons] at hs
   have:=hs.2.1.1 y hy
   simp at e
   omega
theorem zl0 (hs:Srt s)(hx:s[k]? =some x)(hj:j<9):zaf ((Jg (s.flatMap fun x=>tcJ og x.id 9)).drop (zc6 og s k x j)) (x.id,(j:Int)+1)=((og x.id ((j:Int)+1)).k==3):=by
 obtain ⟨r,e1,e2⟩:=zjO (og:=og) hs hx hj
 rw [zcP,e1]
 unfold zaf
 rw [zbF]
 cases h3:(og x.id ((j:Int)+1)).k==3 with
 | true=>rw [if_pos (by simp)];rfl
 | false=>rw [if_neg (by simpa using e2)];rfl
theorem zml (hs:Srt s)(hx:s[k]? =some x)(hj:j<9):(((Jg (s.flatMap fun x=>tcJ og x.id 9)).drop (zc6 og s k x j)).head?.map (·.1)=some (x.id,(j:Int)+1)∧zc6 og s k x (j+1)=zc6 og s k x j+1)∨
  (Zy ((Jg (s.flatMap fun x=>tcJ og x.id 9)).drop (zc6 og s k x j)) (x.id,(j:Int)+1)=none∧zc6 og s k x (j+1)=zc6 og s k x j):=by
 obtain ⟨r,e1,e2⟩:=zjO (og:=og) hs hx hj
 rw [zcP,e1]
 cases h3:(og x.id ((j:Int)+1)).k==3 with
 | true=>exact .inl ⟨rfl,by unfold zc6;rw [Wi h3,List.length_append];rfl⟩
 | false=>exact .inr ⟨by rw [zbF,if_neg (by simpa using e2)],by unfold zc6;rw [zap h3]⟩
theorem zlG {n:Nat}(hn:s.length=n)(hk:n≤k):((Jg (s.flatMap fun x=>tcJ og x.id 9)).drop (tcK og s k).length).length=0:=by
 rw [zhR hn hk,List.length_drop];unfold Jg;rw [List.length_map];omega
end
end
section
open Go Go.Kn Go.Proofs
theorem zeZ:MpT Tryz.prog 78 79 4 (.bool false):=⟨by kernel_rfl,.of (by kernel_rfl)⟩
theorem Uv:Y7 (α:=Int×Int) Tryz.prog 79 Ya:=zfe zcN
theorem w_lTouch {I:Qu}{av:Option Addr}{n c:Nat}{ws:List Wr}(hW0:SlW I av n c ws)(hnb:n≤9223372036854775807){bv:Option Addr}{n2 c2:Nat}{rows:List (List Int)}(hVn:SlN I bv n2 c2 rows){ea1:Option Addr}{en1 ec1:Nat}{ea2:Option Addr}{en2 ec2:Nat}{ea3:Option Addr}{en3 ec3:Nat}{xs:List Int}{es:List Em}{rd:List Int}(hX1:Sl I 1 QR ea1 en1 ec1 xs)(hX2:Sl I 3 Yy ea2 en2 ec2 es)(hX3:Sl I 1 QR ea3 en3 ec3 rd)(no:Int){pv:Option Addr}{pn pc:Nat}{ps:List Pt}(hP:SlP I pv pn pc ps){dv:Option Addr}{n3 c3:Nat}{vs:List Int}(hVs:Sl I 1 QR dv n3 c3 vs)(hDb:VI I):Zw Tryz.prog 7 [.slice av n c,.slice bv n2 c2,.agg (Z1 no ea1 en1 ec1 ea2 en2 ec2 ea3 en3 ec3).toArray,.slice pv pn pc,.slice dv n3 c3] I (.bool true):=by
 intro g H w hw
 refine qe Tryz.func7 Tryz.ntmps7 hw ?_
 have hIc:=zye I
 have hVl:=hVn.len
 have hX1l:=hX1.len
 have hX2l:=hX2.len
 have hX3l:=hX3.len
 have hWl:=hW0.len
 have hPl:=hP.len
 have hVsl:=hVs.len
 refine zR ?_
 refine Q5 rfl rfl rfl (fun b_7=>?_)
 refine zA (zN (Ql (zR ?_)))
 refine qc (vs:=[]) rfl zw7 (zsI hDb) ?_
 refine zO (zN ?_)
 refine zI ?_ ?_<;>intro hc30
 ·
  cases hc30
 refine Qo (Qa (zR (zM ?_)))
 refine zM ?_
 refine zV (Qp rfl Z0 (fun hg=>by exact Cells.g0) rfl) ?_
 refine zM ?_
 refine zM ?_
 refine Qz (cap:=[]) (vs:=[_,_,_,_,_]) rfl rfl zs3 .nil (zxk hW0 hnb hVn hX1 hX2 hX3 no hP hVs hDb) rfl rfl ?_
 rintro vv1 I1 L1 hI1 ⟨rfl,sa,sn,sc,b1,rfl,hb1⟩
 have hW0:=hW0.mono hI1;have hVn:=hVn.mono hI1;have hX1:=hX1.mono hI1;have hX2:=hX2.mono hI1;have hX3:=hX3.mono hI1;have hP:=hP.mono hI1;have hVs:=hVs.mono hI1;have hDb:=hDb.mono hI1;have hIc:=hIc.trans hI1
 refine zM ?_
 refine zE ?_
 refine zE ?_
 refine zA ?_
 refine zA (zN (Ql (zR ?_)))
 refine zM ?_
 refine zO (zN ?_)
 refine zI ?_ ?_<;>intro hc41
 ·
  refine zR (zA (zN (Qt (Qc ?_))))
  exact zp hIc rfl rfl (by rfl)
 obtain rfl:b1=true:=zf3 hc41
 obtain ⟨hf1,hs0,hSs⟩:=hb1 rfl
 obtain ⟨g1,g2,g3,g4,g5,g6,g7,g8,g9,g10⟩:=zjg hf1
 obtain ⟨hs1,hs2⟩:=zeg hs0
 have hsn:(Ug (onF ps) (YM ws rows no xs es rd) (Yb ps vs)).length=sn:=hSs.len
 have hsnb:sn≤2000:=by rw [←hsn];have h1:=zrj (on:=onF ps) (base:=(YM ws rows no xs es rd)) (l:=Yb ps vs);have h2:=zbO (ws:=ws) (rows:=rows) (no:=no) (cl:=xs) (es:=es) (rd:=rd);have h3:(Yb ps vs).length≤600:=Nat.le_trans (List.length_filter_le _ _) g8;omega
 have hsrt:Srt (YM ws rows no xs es rd):=zg9 (zem (KJ hs2).2.2.2.1).2
 refine Qo (Qa (zR (zM ?_)))
 refine zM ?_
 refine zV (Qp rfl Z0 (fun hg=>by exact Cells.g0) rfl) ?_
 refine zM ?_
 refine zM ?_
 refine Qz (cap:=[]) (vs:=[_,_,_,_,_]) rfl rfl zhZ .nil (zcq hW0 (by omega) hVn (by omega) hX1 hX2 hX3 (by omega) (by omega) (by omega) no hP (by omega) hVs (by omega) hDb) rfl rfl ?_
 rintro vv2 I2 L2 hI2 ⟨rfl,ta,tc,rfl,hT1⟩
 have hW0:=hW0.mono hI2;have hVn:=hVn.mono hI2;have hX1:=hX1.mono hI2;have hX2:=hX2.mono hI2;have hX3:=hX3.mono hI2;have hP:=hP.mono hI2;have hVs:=hVs.mono hI2;have hDb:=hDb.mono hI2;have hSs:=hSs.mono hI2;have hIc:=hIc.trans hI2
 have hTe:(tcF (zb1 (JO ws rows no xs es rd) ps (YM ws rows no xs es rd) vs) (fun s f=>zah (onF ps) rows es rd (Yb ps vs) s f) (Ug (onF ps) (YM ws rows no xs es rd) (Yb ps vs)))=(Ug (onF ps) (YM ws rows no xs es rd) (Yb ps vs)).flatMap (fun x=>tcJ (fun s f=>zah (onF ps) rows es rd (Yb ps vs) s f) x.id 9):=if_neg (by rw [hs0];decide)
 rw [hTe] at hT1
 rw [hTe,hs0]
 obtain ⟨TL,hTd⟩:∃ TL,TL=(Ug (onF ps) (YM ws rows no xs es rd) (Yb ps vs)).flatMap (fun x=>tcJ (fun s f=>zah (onF ps) rows es rd (Yb ps vs) s f) x.id 9):=⟨_,rfl⟩
 rw [←hTd] at hT1
 rw [←hTd]
 obtain ⟨tn,htn⟩:∃ z,z=TL.length:=⟨_,rfl⟩
 rw [←htn] at hT1
 rw [←htn]
 have hTl:=hT1.len
 have htnb:tn≤18000:=by have h:=zo6 (e:=(zb1 (JO ws rows no xs es rd) ps (YM ws rows no xs es rd) vs)) (og:=(fun s f=>zah (onF ps) rows es rd (Yb ps vs) s f)) (s:=(Ug (onF ps) (YM ws rows no xs es rd) (Yb ps vs)));rw [hTe,←hTd] at h;omega
 have hssr:Srt (Ug (onF ps) (YM ws rows no xs es rd) (Yb ps vs)):=zqn (zfc hsrt (zba (KJ hs2).1 (KJ hs2).2.2.2.2.2.1) (KJ hs2).2.2.2.2.2.2.1).1
 have hTs:TL.Pairwise ltP:=by rw [hTd];exact zo4 hssr
 refine zM ?_
 refine zE ?_
 refine zE ?_
 refine zA ?_
 refine zA (zN (Ql (zR ?_)))
 refine zM ?_
 refine zC (zN ?_)
 refine zI ?_ ?_<;>intro hc52
 ·
  cases hc52
 refine Qo (Qa (zR ?_))
 refine ZD rfl rfl (fun r_53=>?_)
 refine zA (zN (Ql (zR ?_)))
 refine zM ?_
 refine zQ Jm ?_
 refine zM (zN (Qm ?_))
 refine zU [(0,_),(1,_),(3,_),(4,_),(7,_),(11,_),(13,_),(15,_),(54,_),(55,_)] (fun T L0 mz E I' loc'=>∃ (k:Nat) (m:List ((Int×Int)×Bool)),mz=tn-k∧E=(56,.int .i64 k)::T∧I2=I'∧[(r_53,ZR Ya Value.bool m),(b_7,.cells (Z1 no ea1 en1 ec1 ea2 en2 ec2 ea3 en3 ec3).toArray 26 (0,0))]=loc'∧k≤tn∧m=Jg (TL.take k)) ?_ (h:=⟨0,[],rfl,rfl,rfl,rfl,Nat.zero_le _,rfl⟩)
 rintro mz E I' loc' ⟨k,m,rfl,rfl,rfl,rfl,hk,hm⟩
 refine zR (zC (zN (Ql ?_)))
 refine zI ?_ ?_<;>intro hc57
 ·
  have hlt_k:k<tn:=by have h:=hc57;simp at h;omega
  obtain ⟨y,hy⟩:=hT1.at hlt_k
  obtain ⟨xp,hxp⟩:∃ xp,TL[((k:Int)-1).toNat]? =some xp:=hT1.at (by omega)
  refine Qo (Qa (Ql (Qm (zR (zM ?_)))))
  refine zV (zX Jm hT1) ?_
  refine zV (Qp rfl WM (fun hg=>by exact zyf hT1 hy) rfl) ?_
  refine Qr JJ rfl rfl (fun b_17=>?_)
  refine zA ?_
  refine zh zer ?_
  refine zN (Ql (Ql ?_))
  refine YU mixed (by kernel_rfl) ?_
  refine zq (Qi rfl) ?_
  refine zq (QH rfl rfl rfl) ?_
  refine zq (Qi rfl) ?_
  refine W5 2 rfl rfl rfl ?_
  refine zk (Qi rfl) ?_
  refine zk (Qi rfl) ?_
  refine zk (ZO rfl rfl rfl (fun hg=>by omega)) ?_
  refine zk (zX Jm hT1) ?_
  refine zk (Q8 rfl rfl Yc (fun hg=>by decide)) ?_
  refine zk (Qd rfl Qs (fun hg=>by exact zx7 hT1 hxp rfl)) ?_
  refine zk (Q8 rfl rfl Yc (fun hg=>by decide)) ?_
  refine zk (Qd rfl Qs (fun hg=>by exact QU.h0 rfl)) ?_
  refine zk (QH rfl rfl rfl) ?_
  refine zk (Qi rfl) ?_
  refine Vu 12 rfl rfl rfl ?_
  refine zj (Qi rfl) ?_
  refine zj (Qi rfl) ?_
  refine zj (ZO rfl rfl rfl (fun hg=>by omega)) ?_
  refine zj (zX Jm hT1) ?_
  refine zj (Q8 rfl rfl Yc (fun hg=>by decide)) ?_
  refine zj (Qd rfl Qs (fun hg=>by exact zx7 hT1 hxp rfl)) ?_
  refine zj (Q8 rfl rfl Yc (fun hg=>by decide)) ?_
  refine zj (Qd rfl Qs (fun hg=>by exact QU.h0 rfl)) ?_
  refine zj (QH rfl rfl rfl) ?_
  refine zj (Qi rfl) ?_
  refine W5 22 rfl rfl rfl ?_
  refine zk (Qi rfl) ?_
  refine zk (Qi rfl) ?_
  refine zk (ZO rfl rfl rfl (fun hg=>by omega)) ?_
  refine zk (zX Jm hT1) ?_
  refine zk (Q8 rfl rfl Yc (fun hg=>by decide)) ?_
  refine zk (Qd rfl Qs (fun hg=>by exact zyg (j:=1) hT1 hxp rfl)) ?_
  refine zk (Q8 rfl rfl Yc (fun hg=>by decide)) ?_
  refine zk (Qd rfl Qs (fun hg=>by exact QU.h0 rfl)) ?_
  refine zk (QH rfl rfl rfl) ?_
  refine zek rfl rfl rfl (.some rfl rfl rfl rfl gbf) rfl rfl ?_
  refine zr4 rfl rfl rfl (.some rfl rfl rfl rfl gbt) rfl rfl ?_
  refine zqg rfl rfl rfl rfl rfl ?_
  refine YV ?_
  refine Qa ?_
  refine zI ?_ ?_<;>intro hc95
  ·
   have hk0:¬(k:Int)>0∨(k:Int)>0:=by omega
   rcases hk0 with hk0 | hk0
   ·
    rw [decide_eq_false hk0] at hc95;cases hc95
   have h:=zsR hTs hxp (show TL[((k:Int)-1).toNat+1]? =some y by rw [show ((k:Int)-1).toNat+1=k by omega];exact hy)
   rw [h,Bool.and_false] at hc95;cases hc95
  refine Qo (Qa (Qg (zM ?_)))
  refine zV (Qp rfl WM (fun hg=>by exact Cells.g0) rfl) ?_
  refine Q4 (m:=m) (ek:=Ya) (ev:=Value.bool) (a:=y) true zeZ Uv rfl rfl rfl rfl (by repeat (first | exact Upd.here | apply Upd.there | apply QJ)) ?_
  refine Qb (Qh (Qa (Qg (zB ?_))))
  refine zM (Qb ?_)
  exact zm (h:=⟨tn-(k+1),by omega,k+1,(Ys m y true),rfl,rfl,rfl,rfl,by omega,by rw [hm];exact zie (ziq hTs) hy⟩)
 have hge_k:tn≤k:=by have h:=hc57;simp at h;omega
 have hmT:m=Jg TL:=by rw [hm,List.take_of_length_le (by omega)]
 subst hmT
 refine QI (Qf (Qf (Qk (Qa (zR ?_)))))
 refine ZD rfl rfl (fun r_99=>?_)
 refine zA (zN (Ql (zR ?_)))
 refine zM ?_
 refine zQ Qy ?_
 refine zM (zN (Qm ?_))
 refine zU [(0,_),(1,_),(3,_),(4,_),(7,_),(11,_),(15,_),(18,_),(100,_),(101,_)] (fun T L0 mz E I' loc'=>∃ (k:Nat) (m2:List (Int×Bool)),mz=n3-k∧E=(102,.int .i64 k)::T∧I2=I'∧[(r_99,ZR (Value.int .i64) Value.bool m2),(r_53,ZR Ya Value.bool (Jg TL)),(b_7,.cells (Z1 no ea1 en1 ec1 ea2 en2 ec2 ea3 en3 ec3).toArray 26 (0,0))]=loc'∧k≤n3∧∀ x,zaf m2 x=znB (vs.take k) x) ?_ (h:=⟨0,[],rfl,rfl,rfl,rfl,Nat.zero_le _,fun x=>rfl⟩)
 rintro mz E I' loc' ⟨k,m2,rfl,rfl,rfl,rfl,hk,hm2⟩
 refine zR (zC (zN (Ql ?_)))
 refine zI ?_ ?_<;>intro hc103
 ·
  have hlt_k:k<n3:=by have h:=hc103;simp at h;omega
  obtain ⟨y,hy⟩:=hVs.at hlt_k
  refine Qo (Qa (Ql (Qm (zR ?_))))
  refine zV (zX Qy hVs) ?_
  refine zV (Qd rfl Qs (fun hg=>by exact zx7 hVs hy rfl)) ?_
  refine zA (zN (Qg ?_))
  refine zM ?_
  refine zM ?_
  refine Q4 (m:=m2) (ek:=Value.int .i64) (ev:=Value.bool) (a:=y) true zaC ZE rfl rfl rfl rfl (by repeat (first | exact Upd.here | apply Upd.there | apply QJ)) ?_
  refine Qb (Qh (Qa (Qg (zB ?_))))
  refine zM (Qb ?_)
  exact zm (h:=⟨n3-(k+1),by omega,k+1,_,rfl,rfl,rfl,rfl,by omega,fun x=>by rw [UC,hm2,zjK hy]⟩)
 have hge_k:n3≤k:=by have h:=hc103;simp at h;omega
 have hm2:∀ x,zaf m2 x=znB vs x:=fun x=>by rw [hm2,List.take_of_length_le (by omega)]
 refine QI (Qf (Qf (Qk (Qa (Ql (zR (zM ?_)))))))
 refine zQ YZ ?_
 refine zM (zN (Qm ?_))
 refine zU [(0,_),(1,_),(3,_),(4,_),(7,_),(15,_),(18,_),(109,_),(110,_)] (fun T L0 mz E I' loc'=>∃ (k:Nat) (q:Nat),mz=sn-k∧E=(111,.int .i64 k)::T∧HLe I2 I'∧[(r_99,ZR (Value.int .i64) Value.bool m2),(r_53,X8 Ya Value.bool (Jg TL) q),(b_7,.cells (Z1 no ea1 en1 ec1 ea2 en2 ec2 ea3 en3 ec3).toArray 26 (0,0))]=loc'∧k≤sn∧q=(tcK (fun s f=>zah (onF ps) rows es rd (Yb ps vs) s f) (Ug (onF ps) (YM ws rows no xs es rd) (Yb ps vs)) k).length) ?_ (h:=⟨0,0,rfl,rfl,zye _,rfl,Nat.zero_le _,rfl⟩)
 rintro mz E J5 loc' ⟨k,q,rfl,rfl,hJ,rfl,hk,hq⟩
 have hW0:=hW0.mono hJ;have hVn:=hVn.mono hJ;have hX1:=hX1.mono hJ;have hX2:=hX2.mono hJ;have hX3:=hX3.mono hJ;have hP:=hP.mono hJ;have hVs:=hVs.mono hJ;have hDb:=hDb.mono hJ;have hSs:=hSs.mono hJ;have hIc:=hIc.trans hJ
 have hB4:=hJ
 refine zR (zC (zN (Ql ?_)))
 refine zI ?_ ?_<;>intro hc112
 ·
  have hlt_k:k<sn:=by have h:=hc112;simp at h;omega
  obtain ⟨x,hx⟩:=hSs.at hlt_k
  refine Qo (Qa (Ql (Qm (zR ?_))))
  refine zV (zX YZ hSs) ?_
  refine zV (Qp rfl ZL (fun hg=>by exact zyf hSs hx) rfl) ?_
  refine Qr WX rfl rfl (fun b_22=>?_)
  refine zh Vx ?_
  refine zN (zR ?_)
  refine zA (zN (Qm ?_))
  refine zU [(0,_),(1,_),(3,_),(4,_),(7,_),(15,_),(18,_),(22,_),(109,_),(110,_),(111,_)] (fun T L0 mz E I' loc'=>∃ (j:Nat) (q2:Nat),mz=9-j∧E=(23,.int .i64 ((j:Int)+1))::T∧HLe J5 I'∧(b_22,.cells (Y2 x).toArray 54 (0,0))::[(r_99,ZR (Value.int .i64) Value.bool m2),(r_53,X8 Ya Value.bool (Jg TL) q2),(b_7,.cells (Z1 no ea1 en1 ec1 ea2 en2 ec2 ea3 en3 ec3).toArray 26 (0,0))]=loc'∧j≤9∧q2=zc6 (fun s f=>zah (onF ps) rows es rd (Yb ps vs) s f) (Ug (onF ps) (YM ws rows no xs es rd) (Yb ps vs)) k x j) ?_ (h:=⟨0,q,rfl,rfl,zye _,rfl,Nat.zero_le _,by rw [hq,zv0]⟩)
  rintro mz E J6 loc' ⟨j,q2,rfl,rfl,hJ,rfl,hj,hq2⟩
  have hW0:=hW0.mono hJ;have hVn:=hVn.mono hJ;have hX1:=hX1.mono hJ;have hX2:=hX2.mono hJ;have hX3:=hX3.mono hJ;have hP:=hP.mono hJ;have hVs:=hVs.mono hJ;have hDb:=hDb.mono hJ;have hB4:=hB4.trans hJ
  have hB6:=hJ
  refine Ql (zR (zM ?_))
  refine zC (zN ?_)
  refine zI ?_ ?_<;>intro hc116
  ·
   have hlt_j:j<9:=by have h:=hc116;simp only [decide_eq_true_eq] at h;omega
   have hjf:isF ((j:Int)+1):=by unfold isF;omega
   have hxm:=List.mem_of_getElem? hx
   have hoe1:=zo2 hs0 hjf ⟨x,hxm,rfl⟩
   refine Qo (Qa (Ql (Qm (zR (zA (zN (Ql ?_)))))))
   refine zR (zM ?_)
   refine zQ Zz ?_
   refine zM (zN (Qm ?_))
   refine zU [(0,_),(1,_),(3,_),(4,_),(7,_),(15,_),(18,_),(22,_),(23,_),(109,_),(110,_),(111,_),(119,_),(120,_)] (fun T L0 mz E I' loc'=>∃ (i:Nat) (w:Bool),mz=pn-i∧E=(24,.bool w)::(121,.int .i64 i)::T∧J6=I'∧(b_22,.cells (Y2 x).toArray 54 (0,0))::[(r_99,ZR (Value.int .i64) Value.bool m2),(r_53,X8 Ya Value.bool (Jg TL) q2),(b_7,.cells (Z1 no ea1 en1 ec1 ea2 en2 ec2 ea3 en3 ec3).toArray 26 (0,0))]=loc'∧i≤pn∧zrU ps vs x.id ((j:Int)+1) i=w) ?_ (h:=⟨0,false,rfl,rfl,rfl,rfl,Nat.zero_le _,rfl⟩)
   rintro mz E I' loc' ⟨i,w,rfl,rfl,rfl,rfl,hi,hw⟩
   refine zR (zC (zN (Ql ?_)))
   refine zI ?_ ?_<;>intro hc122
   ·
    have hlt_i:i<pn:=by have h:=hc122;simp at h;omega
    obtain ⟨p,hp⟩:=hP.1.at hlt_i
    refine Qo (Qa (Ql (Qm (zR ?_))))
    refine zV (QF rfl rfl Zz hP.1 (fun hg=>by omega)) ?_
    refine zV (Qp rfl Yw (fun hg=>by exact zyf hP.1 hp) rfl) ?_
    refine Qr K2 rfl rfl (fun b_26=>?_)
    refine zh VN ?_
    refine zN (Qg (zM ?_))
    refine zM ?_
    refine QX 1 rfl rfl rfl ?_
    refine zJ (Qi rfl) ?_
    refine zJ (Qe rfl Zt) ?_
    refine zJ (Qd rfl Qs (fun hg=>by exact QU.h0 rfl)) ?_
    refine zJ (Ye (m:=m2) zaC ZE rfl rfl (fun _=>.inr (by simp))) ?_
    refine zJ (Qi rfl) ?_
    refine QE 6 rfl rfl rfl ?_
    refine zK (Qe rfl Z8) ?_
    refine zK (Qd rfl Qs (fun hg=>by exact QU.h0 rfl)) ?_
    refine zK (Qe rfl ZN) ?_
    refine zK (Qd rfl Qs (fun hg=>by exact QU.h1 rfl)) ?_
    refine zK (QH rfl rfl rfl) ?_
    refine XY rfl rfl rfl (.some rfl rfl rfl rfl gbf) rfl rfl ?_
    refine zJ (Qi rfl) ?_
    refine QE 13 rfl rfl rfl ?_
    refine zK (Qe rfl Jw) ?_
    refine zK (Qd rfl Qs (fun hg=>by exact QU.h0 rfl)) ?_
    refine zK (QH rfl rfl rfl) ?_
    refine zK (Qi rfl) ?_
    refine QE 17 rfl rfl rfl ?_
    refine zK (Qe rfl VU) ?_
    refine zK (Qd rfl Qs (fun hg=>by exact QU.h0 rfl)) ?_
    refine zK (Qi rfl) ?_
    refine zK (QH rfl rfl rfl) ?_
    refine XY rfl rfl rfl (.some rfl rfl rfl rfl gbt) rfl rfl ?_
    refine zK (Qi rfl) ?_
    refine QX 23 rfl rfl rfl ?_
    refine zJ (Qe rfl Jw) ?_
    refine zJ (Qd rfl Qs (fun hg=>by exact QU.h0 rfl)) ?_
    refine zJ (QH rfl rfl rfl) ?_
    refine zha rfl rfl rfl (.some rfl rfl rfl rfl gbt) rfl rfl ?_
    refine XY rfl rfl rfl (.some rfl rfl rfl rfl gbf) rfl rfl ?_
    refine ZA rfl rfl rfl rfl rfl ?_
    refine zA (Qb (Qh (Qa (Qg ?_))))
    refine zB ?_
    refine zM (Qb ?_)
    exact zm (h:=⟨pn-(i+1),by omega,i+1,_,rfl,rfl,rfl,rfl,by omega,by rw [zkK hp,hw];unfold znZ;rw [←hm2 p.id];simp only [Bool.and_assoc];rfl⟩)
   have hge_i:pn≤i:=by have h:=hc122;simp at h;omega
   rw [zqz hPl hge_i,zrt (rows:=rows) (es:=es) (rd:=rd) hs2] at hw
   refine QI (Qf (Qf (Qk (Qa (zR (zM ?_))))))
   refine zM ?_
   refine zV (Qp rfl Z0 (fun hg=>by exact Cells.g3) rfl) ?_
   refine zM ?_
   refine zM ?_
   refine zF ZN ?_
   refine zL Qs ?_
   refine zM ?_
   refine Qz (cap:=[]) (vs:=[_,_,_,_,_,_,_]) rfl rfl zcO .nil (ze3 hW0 (by omega) hVn (by omega) hX1 hX2 hX3 (by omega) (by omega) (by omega) no hP (by omega) hVs (by omega) hDb x.id ((j:Int)+1)) rfl rfl ?_
   rintro vv8 I8 L8 hI8 ⟨rfl,_,rfl,a1,b1,d1,a2,b2,d2,rfl,hw1,hz1⟩
   have hB6:=hB6.trans hI8
   rw [hoe1,ztr]
   rw [hoe1,ztr] at hw1 hz1
   refine zM ?_
   refine zE ?_
   refine zE ?_
   refine Qr WC rfl rfl (fun b_27=>?_)
   refine zh VH ?_
   refine zA (zN (Ql (zR ?_)))
   refine zM ?_
   refine zC ?_
   refine zM ?_
   refine QX 2 rfl rfl rfl ?_
   refine zJ (Qi rfl) ?_
   refine zJ (Qe rfl ZN) ?_
   refine zJ (Qd rfl Qs (fun hg=>by exact QU.h1 rfl)) ?_
   refine zJ (Qi rfl) ?_
   refine zJ (Zp (ps:=[(0,_),(1,_)]) [_,_] Yc JJ rfl rfl) ?_
   refine zJ (zfU (m:=Jg TL) (ek:=Ya) (a:=(x.id,(j:Int)+1)) (q:=q2) zeZ Uv rfl rfl (fun _=>.inr (by simp))) ?_
   refine zJ (Qi rfl) ?_
   refine zJ (zeR rfl rfl zrB) ?_
   refine ZA rfl rfl rfl rfl rfl ?_
   refine zM ?_
   refine QX 12 rfl rfl rfl ?_
   refine zJ (Qe rfl W7) ?_
   refine zJ (Qd rfl Qs (fun hg=>by exact QU.h0 rfl)) ?_
   refine zJ (QH rfl rfl rfl) ?_
   refine zJ (Qi rfl) ?_
   refine zJ (zeR rfl rfl zrB) ?_
   refine ZA rfl rfl rfl rfl rfl ?_
   refine zN ?_
   refine zI ?_ ?_<;>intro hc186
   ·
    have hh:zaf ((Jg TL).drop q2) (x.id,(j:Int)+1)=w:=by rw [hq2,hTd,zl0 hssr hx hlt_j];exact hw
    rw [hh] at hc186
    simp [hw] at hc186
   refine Qo (Qa (Qg (zM ?_)))
   refine zF ZN ?_
   refine zL Qs ?_
   refine zM ?_
   refine zV (Zp (ps:=[(0,_),(1,_)]) [_,_] Yc JJ rfl rfl) ?_
   refine zob (ek:=Ya) (ev:=Value.bool) (m:=Jg TL) (a:=(x.id,(j:Int)+1)) (q:=q2) (zc6 (fun s f=>zah (onF ps) rows es rd (Yb ps vs) s f) (Ug (onF ps) (YM ws rows no xs es rd) (Yb ps vs)) k x (j+1)) (by rw [hq2,hTd];exact zml hssr hx hlt_j) zeZ Uv rfl rfl rfl (by repeat (first | exact Upd.here | apply Upd.there | apply QJ)) ?_
   refine Qb (Qh (Qa (Qg (zM ?_))))
   refine zB ?_
   refine zA (Qb ?_)
   exact zm (h:=⟨9-(j+1),by omega,j+1,_,rfl,rfl,hB6,rfl,by omega,rfl⟩)
  have hge_j:9≤j:=by have h:=hc116;simp only [decide_eq_false_iff_not] at h;omega
  refine QI (Qf (Qf (Qk (Qh (Qa (Qg (zB ?_)))))))
  refine zM (Qb ?_)
  exact zm (h:=⟨sn-(k+1),by omega,k+1,q2,rfl,rfl,hB4,rfl,by omega,by rw [hq2,show j=9 by omega,zwQ hx]⟩)
 have hge_k:sn≤k:=by have h:=hc112;simp at h;omega
 have hend:=zlG (og:=(fun s f=>zah (onF ps) rows es rd (Yb ps vs) s f)) (s:=(Ug (onF ps) (YM ws rows no xs es rd) (Yb ps vs))) (k:=k) hsn hge_k
 refine QI (Qf (Qf (Qk (Qa (zR (zM ?_))))))
 refine zV (zqU (ek:=Ya) (ev:=Value.bool) (m:=Jg TL) (q:=q) rfl zeZ (fun _=>.inr (by simp))) ?_
 refine zC ?_
 refine zA (zN (Qt ?_))
 first
 | exact zp hIc rfl rfl (by rw [hq,hTd,hend];rfl)
end
end Go.Proofs.YtodakphagkommaaGreatDoor.R
namespace Go.Kn
section
open Go Go.ChangeShapes Go.WideShapes Go.ChangeAt Go.RowKit
def Jp (W:World):Qu:=fun b=>W.heap[b]?
theorem St.start (W:World):St W (Jp W) (fun _=>none) [] W:=
 ⟨rfl,rfl,rfl,⟨Nat.le_refl _,Nat.le_refl _⟩,fun _ _ h=>h,(fun _ _ h=>by cases h),(fun _ _ h=>by cases h),fun _=>.inr rfl,(fun _ _ h=>by cases h),by simp⟩
theorem St.below {W w:World}{H:Qu}{loc:Loc}(h:St W (Jp W) H loc w):Below W.heap.size W w:=
 ⟨h.os,h.tape,h.out,h.size.1,fun k hk=>by
  have e:W.heap[k]? =some W.heap[k]:=Array.getElem?_eq_getElem hk
  rw [h.imm k _ e,e]⟩
theorem Zw.law {P:Program}{f:FuncId}{args:List Value}{W:World}{v:Value}(h:Zw P f args (Jp W) v):Calls P f args.toArray W fun e w'=>e= .returned v∧Below W.heap.size W w':=
 (h W _ W (St.start W)).mono fun _ _ ⟨he,hs⟩=>⟨he,hs.below⟩
theorem zbp {W w:World}{may:MemPlace→Prop}(h:Below W.heap.size W w):W.keptBut w may:=by
 refine ⟨h.os,h.output,fun i hi=>?_⟩
 rw [h.block i hi]
 rw [Array.getElem?_eq_getElem hi]
 cases W.heap[i]<;>simp
theorem UK {H:Type}{enc:TypeId×Value→H}{P:Program}{W W':World}(hl:laidOutB P=true)(hB:Below W.heap.size W W')(sp:Nat→Bool):∀ (ts:List TypeId) (vs:List Value) (ds:List (DataW H)) (ps:List MemPlace),(∀ t∈ts,P.readableRec t=true∧t<P.types.size)→
  DataW.TrodAll enc P W 0 (fun _=>true) true ts vs ds ps→(∀ x∈ps,x.block<W.heap.size∧sp x.block=true)→DataW.TrodAll enc P W' 0 sp true ts vs ds ps
 | [],[],[],ps,_,h,_=>h
 | t::ts,v::vs,d::ds,ps,hr,⟨p,q,h1,h2,e⟩,hlt=>by
  subst e
  exact ⟨p,q,WideElems.Trod_stays hl (hr t (List.mem_cons_self ..)).1 (hr t (List.mem_cons_self ..)).2 h1 (fun x hx=>hB.same (hlt x (List.mem_append_left _ hx)).1) (fun x hx=>(hlt x (List.mem_append_left _ hx)).2),
   UK hl hB sp ts vs ds q (fun t ht=>hr t (List.mem_cons_of_mem _ ht)) h2 (fun x hx=>hlt x (List.mem_append_right _ hx)),rfl⟩
theorem zlb {H:Type}{enc:TypeId×Value→H}{P:Program}{f:Func}{s:ChangeSpec}{again:Bool}{W W':World}{args:Array Value}{ds:List (DataW H)}{before:List MemPlace}{tb:TypeId}
  (hl:laidOutB P=true)(hr:f.resultTypes= #[tb])(hb:P.underlying tb=some .bool)(hv:s.vars=[])(hs:(s.fn H (ds++[]))= {results:=[.lit (.bool true)],args:=ds})(hrd:∀ t∈f.params.toList,P.readableRec t=true∧t<P.types.size)
  (hW:DataW.Whole enc P f.params.toList s.vars false W args.toList ds [] before)(hB:Below W.heap.size W W'):s.post enc P f false true false again W args (.bool true) W':=by
 have hlt:∀ x∈before,x.block<W.heap.size:=fun x hx=>by simpa using hW.lt x hx
 have hW0:=hW
 obtain ⟨p,q,hA,hV,rfl,hfz,_⟩:=hW
 rw [hv] at hV
 obtain ⟨_,rfl⟩:=trodVars_none hV
 rw [List.append_nil] at hlt hfz hW0
 have hres:∀ (b:Nat) (sp:Nat→Bool) (hd:Bool),DataW.TrodAll enc P W' b sp hd f.resultTypes.toList ((Value.bool true).resultList f.resultTypes.size) [.lit (.bool true)] []:=fun b sp hd=>by
  rw [hr];exact trodAll_mk1 (shut_bool hb true)
 have hargs:∀ sp:Nat→Bool,(∀ x∈p,sp x.block=true)→DataW.TrodAll enc P W' 0 sp true f.params.toList args.toList ds p:=fun sp h=>UK hl hB sp _ _ _ _ hrd hA (fun x hx=>⟨hlt x hx,h x hx⟩)
 have hnil:∀ sp:Nat→Bool,DataW.TrodVars enc P W' sp s.vars [] []:=fun sp=>by rw [hv];rfl
 refine ⟨ds,[],p,[],p,[],hW0,?_,?_,?_,zbp hB,fun _=>?_⟩
 ·
  rw [hs];exact hres _ _ _
 ·
  rw [hs];exact hargs _ (fun x hx=>by simpa using hlt x hx)
 ·
  rw [hs];exact hnil _
 ·
  refine ⟨fun j t r ht hr'=>?_,[.lit (.bool true)]++ds,[],[]++p,⟨[]++p,[],trodAll_append (hargs _ (fun _ _=>rfl)) (hres _ _ _),hnil _,by simp,?_,fun h=>by cases h⟩,fun x hx _=>by simpa using hx⟩
  ·
   rw [hr] at ht hr'
   cases j with
   | zero=>simp [Value.resultList] at ht hr';subst ht;subst hr';exact okWide_bool_mk hb _
   | succ j=>simp at ht
  ·
   intro b off hx
   rw [hB.frozen (hlt _ (by simpa using hx))]
   exact hfz b off (by simpa using hx)
theorem zc2 {W:World}{b o:Nat}{u:Value}(h:W.cell? ⟨b,o,none⟩=some u):QU (Jp W) [] b o u:=by
 unfold World.cell? at h
 split at h
 ·
  rename_i c t fz hb
  simp only [Option.isSome_none,Bool.false_eq_true,if_false] at h
  exact ⟨c,t,fz,.inl hb,h⟩
 ·
  cases h
theorem J9 {H:Type}{enc:TypeId×Value→H}{P:Program}{W:World}{t e:TypeId}{size fuel0:Nat}{cs:List Value}{x0:DataW H×List MemPlace}{α:Type}(enc':α→List Value)(ok:α→Prop)
  (ht:P.underlying t=some (.slice e))(hc:P.cellsOf e=size)(hpos:0<size)(hlen:∀ y,(enc' y).length=size)
  (hel:∀ fuel cs x,DataW.trod enc P W 0 (fun _=>true) true fuel e cs=some x→∃ y,ok y∧enc' y=cs)
  (hf':DataW.trod enc P W 0 (fun _=>true) true fuel0 t cs=some x0):∃ av n c xs,cs=[.slice av n c]∧Sl (Jp W) size enc' av n c xs∧(∀ x∈xs,ok x)∧c≤maxLen:=by
 rcases Go.Deep.open_slice ht hf' with ⟨e1,_⟩ | ⟨a,len0,cap0,m,n,D,Pl,e1,hb,hl,hm,hmm,_,hx⟩
 ·
  subst e1
  exact ⟨none,0,0,[],rfl,.nil,(fun x hx=>by cases hx),Nat.zero_le _⟩
 ·
  subst e1
  have hlm:len0≤m:=by rw [hmm];simp;exact hl
  have each:∀ i,i<len0→∃ y,ok y∧W.cells? 0 (a.add (i*size)) size=some (enc' y):=fun i hi=>by
   obtain ⟨cs',h1,h2⟩:=hx i (by omega)
   obtain ⟨y,hy,e⟩:=hel _ _ _ h2
   rw [hc] at h1
   exact ⟨y,hy,by rw [h1,e]⟩
  have all:∀ k,k≤len0→∃ xs:List α,xs.length=k∧∀ i x,xs[i]? =some x→ok x∧W.cells? 0 (a.add (i*size)) size=some (enc' x):=by
   intro k
   induction k with
   | zero=>intro _;exact ⟨[],rfl,fun i x h=>by simp at h⟩
   | succ k ih=>
    intro hk
    obtain ⟨xs,hl',hxs⟩:=ih (by omega)
    obtain ⟨y,hy,hcy⟩:=each k (by omega)
    refine ⟨xs++[y],by simp [hl'],fun i x h=>?_⟩
    by_cases hi:i<xs.length
    ·
     rw [List.getElem?_append_left hi] at h;exact hxs i x h
    ·
     rw [List.getElem?_append_right (by omega)] at h
     have:i=k:=by have:=(List.getElem?_eq_some_iff.1 h).1;simp at this;omega
     subst this
     rw [hl'] at h;simp at h;subst h
     exact ⟨hy,hcy⟩
  obtain ⟨xs,hl',hxs⟩:=all len0 (Nat.le_refl _)
  have add0:∀ (b o n:Nat),(⟨b,o,none⟩:Addr).add n=⟨b,o+n,none⟩:=fun b o n=>by
   unfold Addr.add
   split
   ·
    rename_i e;subst e;rfl
   ·
    rfl
  have hspot:0<xs.length→a.spot=none:=fun hx=>by
   have hx0:xs[0]? =some xs[0]:=List.getElem?_eq_getElem hx
   have hp0:0<(enc' xs[0]).length:=by rw [hlen];exact hpos
   obtain ⟨_,h1,h2⟩:=World.cells?_some (hxs 0 _ hx0).2
   have h3:=h2 0 hpos
   rw [List.getElem?_eq_getElem hp0] at h3
   simpa [Addr.add] using World.cell?_spot h3
  have cellat:∀ i x,xs[i]? =some x→∀ j u,(enc' x)[j]? =some u→W.cell? ⟨a.block,a.off+i*size+j,none⟩=some u:=fun i x hx j u hu=>by
   obtain ⟨_,h1,h2⟩:=World.cells?_some (hxs i x hx).2
   have hj:j<size:=by rw [←hlen x];exact (List.getElem?_eq_some_iff.1 hu).1
   have h3:=h2 j hj
   rw [hu] at h3
   have hsp:=hspot (by have:=(List.getElem?_eq_some_iff.1 hx).1;omega)
   obtain ⟨b,o,sp⟩:=a
   simp only at hsp
   subst hsp
   rw [add0,add0] at h3
   exact h3
  refine ⟨some a,len0,cap0,xs,rfl,⟨hl',hl,fun hn=>?_,fun k x hx j u hu=>?_⟩,fun x hx=>?_,hm⟩
  ·
   have:=hspot (by omega)
   obtain ⟨b,o,sp⟩:=a
   simp only at this
   subst this;rfl
  ·
   exact zc2 (cellat k x hx j u hu)
  ·
   obtain ⟨i,hi⟩:=List.getElem?_of_mem hx
   exact (hxs i x hi).1
theorem zbB {H:Type}{enc:TypeId×Value→H}{P:Program}{W:World}{base:Nat}{t e:TypeId}{size:Nat}{v:Value}{d:DataW H}{p:List MemPlace}{α:Type}(enc':α→List Value)(ok:α→Prop)
  (ht:P.underlying t=some (.slice e))(hc:P.cellsOf e=size)(hpos:0<size)(hlen:∀ y,(enc' y).length=size)
  (hel:∀ fuel cs x,DataW.trod enc P W 0 (fun _=>true) true fuel e cs=some x→∃ y,ok y∧enc' y=cs)
  (hv:Value.okWide P W .any base t v)(h:DataW.Trod enc P W 0 (fun _=>true) true t v d p):∃ av n c xs,v= .slice av n c∧Sl (Jp W) size enc' av n c xs∧(∀ x∈xs,ok x)∧c≤maxLen:=by
 obtain ⟨a0,len0,cap0,rfl⟩:=okWide_slice ht hv
 obtain ⟨fuel,hf⟩:=h
 obtain ⟨av,n,c,xs,e,h1,h2,h3⟩:=J9 enc' ok ht hc hpos hlen hel (cs:=[.slice a0 len0 cap0]) (by simpa [Value.cells] using hf)
 cases e
 exact ⟨_,_,_,xs,rfl,h1,h2,h3⟩
theorem zcA {H:Type}{enc:TypeId×Value→H}{P:Program}{W:World}{e:TypeId}{k:IntKind}(he:P.underlying e=some (.int k))(hk:k= .i64)(fuel:Nat)(cs:List Value)(x:DataW H×List MemPlace)(h:DataW.trod enc P W 0 (fun _=>true) true fuel e cs=some x):
  ∃ y:Int,(-9223372036854775808≤y∧y≤9223372036854775807)∧[Value.int .i64 y]=cs:=by
 subst hk
 obtain ⟨v,hv⟩:∃ v,cs=[v]:=by
  have:=h
  cases fuel with
  | zero=>simp [DataW.trod] at this
  | succ m=>unfold DataW.trod at this;rw [he] at this;split at this<;>simp_all
 subst hv
 obtain ⟨n,e,_,w⟩:=DataW.trod_int he h
 cases e
 simp only [Lit.wf,Bool.and_eq_true,decide_eq_true_eq] at w
 exact ⟨n,w,rfl⟩
end
section
open Go
theorem Vc {H:Type}{enc:TypeId×Value→H}{P:Program}{W:World}{base:Nat}{spare:Nat→Bool}{held:Bool}{t C:Nat}{fs:Array Field}{fuel:Nat}{cs:List Value}{x:DataW H×List MemPlace}(hs:P.underlying t=some (.struct fs))
  (hC:P.cellsOf t=C)(h:DataW.trod enc P W base spare held fuel t cs=some x):
  cs.length=C∧∃ n,∀ (i ty off k:Nat),((fs[i]?).map fun f=>(f.type,f.offset))=some (ty,off)→P.cellsOf ty=k→∃ y,DataW.trod enc P W base spare held n ty ((cs.drop off).take k)=some y:=by
 obtain ⟨xs,n,_,_,hl,hxl,hf⟩:=DataW.trod_struct hs h
 refine ⟨hl.trans hC,n,fun i ty off k hi hk=>?_⟩
 obtain ⟨f,hfi,e⟩:=Option.map_eq_some_iff.1 hi
 cases e
 have g:=hf i f hfi
 have hix:i<xs.length:=by rw [hxl];exact (Array.getElem?_eq_some_iff.1 hfi).1
 rw [hk,List.getElem?_eq_getElem hix] at g
 exact ⟨_,g⟩
end
end Go.Kn
namespace Go.Proofs.YtodakphagkommaaGreatDoor
section
open Go Go.Kn Go.Proofs
open Go.ChangeShapes Go.WideShapes Go.ChangeAt Go.RowKit
set_option maxRecDepth 100000
theorem ZB:Tryz.prog.underlying 3=some (.int .i64):=by kernel_rfl
theorem znl:Tryz.prog.underlying 4=some .bool:=by kernel_rfl
theorem zs4:Tryz.prog.underlying 5=some (.int .u8):=by kernel_rfl
theorem zi2 {H:Type}{enc:TypeId×Value→H}{W:World}{base:Nat}{v:Value}{d:DataW H}{p:List MemPlace}(hv:Value.okWide Tryz.prog W .any base 23 v)(h:DataW.Trod enc Tryz.prog W 0 (fun _=>true) true 23 v d p):
  ∃ av n c xs,v= .slice av n c∧Sl (Jp W) 1 QR av n c xs∧n≤9223372036854775807:=by
 obtain ⟨av,n,c,xs,e,hS,_,hm⟩:=zbB (e:=3) QR (fun _=>True) (by kernel_rfl) (by kernel_rfl) (by decide) Qv (fun fuel cs x h=>by
  obtain ⟨y,_,e⟩:=zcA ZB rfl fuel cs x h
  exact ⟨y,trivial,e⟩) hv h
 exact ⟨av,n,c,xs,e,hS,by have:=hS.cap;simp only [maxLen] at hm;omega⟩
theorem ztM {I:Qu}:∀ (hs:List Hd),(∀ h∈hs,∃ v,Sl I 1 QR h.a h.n h.c v)→∃ vss,zb8 I hs vss
 | [],_=>⟨[],zb8.nil⟩
 | x::hs,H=>by
  obtain ⟨vss,hl,hv⟩:=ztM hs fun h hh=>H h (List.mem_cons_of_mem _ hh)
  obtain ⟨v0,h0⟩:=H x (List.mem_cons_self ..)
  refine ⟨v0::vss,by simp [hl],fun k h v a b=>?_⟩
  cases k with
  | zero=>cases a;cases b;exact h0
  | succ k=>exact hv k h v a b
theorem zg3 {H:Type}{enc:TypeId×Value→H}{W:World}{base:Nat}{v:Value}{d:DataW H}{p:List MemPlace}(hv:Value.okWide Tryz.prog W .any base 22 v)(h:DataW.Trod enc Tryz.prog W 0 (fun _=>true) true 22 v d p):
  ∃ av n c vss,v= .slice av n c∧SlN (Jp W) av n c vss∧n≤9223372036854775807:=by
 obtain ⟨av,n,c,hs,e,hS,hok,hm⟩:=zbB (e:=23) W2 (fun h=>∃ v,Sl (Jp W) 1 QR h.a h.n h.c v) (by kernel_rfl) (by kernel_rfl) (by decide) Za (fun fuel cs x h=>by
  obtain ⟨a,m,q,ys,e,hT,_⟩:=J9 (t:=23) (e:=3) QR (fun _=>True) (by kernel_rfl) (by kernel_rfl) (by decide) Qv (fun fuel cs x h=>by
   obtain ⟨y,_,e⟩:=zcA ZB rfl fuel cs x h
   exact ⟨y,trivial,e⟩) h
  exact ⟨⟨a,m,q⟩,⟨ys,hT⟩,e.symm⟩) hv h
 obtain ⟨vss,hr⟩:=ztM hs hok
 exact ⟨av,n,c,vss,e,⟨hs,hS,hr⟩,by have:=hS.cap;simp only [maxLen] at hm;omega⟩
def zhL:List (String×DataW Unit):=[("math/bits.deBruijn32tab",Rows.laid_math_bits_deBruijn32tab),("math/bits.deBruijn64tab",Rows.laid_math_bits_deBruijn64tab)]
theorem zxU:Tryz.prog.globalNamed "math/bits.deBruijn64tab" =some 1:=by kernel_rfl
theorem zxX:(Tryz.prog.globals[1]?).map (·.type)=some 290:=by kernel_rfl
theorem zvb:(Rows.laid_math_bits_deBruijn64tab:DataW Unit)=Lib.tabData .u8 zoJ:=by rfl
theorem zsd {W:World}(h:laidMetH Tryz.prog zhL W):VI (Jp W):=by
 rw [MakeChecks.laidMetH_plain _ _ _ (by kernel_rfl)] at h
 obtain ⟨ps,⟨g0,t0,cs0,f0,p0,q0,hg0,ht0,hv0,hd0,⟨g1,t1,cs1,f1,p1,q1,hg1,ht1,hv1,hd1,_,_⟩,_⟩,_,_⟩:=h
 obtain rfl:=Option.some.inj (zxU.symm.trans hg1)
 obtain rfl:=Option.some.inj (zxX.symm.trans ht1)
 rw [zvb] at hd1
 have hcs:=Lib.cells_of_tab (n:=64) (e:=5) (by kernel_rfl) zs4 (by kernel_rfl) (by kernel_rfl) hd1
 intro i hi
 refine zc2 ?_
 have:=World.var?_cell hg1 hv1 i
 rw [this]
 have hl:i<zoJ.length:=hi
 have e:cs1=(zoJ.map fun z=>Value.int .u8 z).toArray:=Array.ext' hcs
 rw [e]
 simp [List.getD,hl]
theorem zl7 (os:Os)(args:Array Value):laidMetH Tryz.prog zhL ((World.doorLaid Tryz.prog 400 os).forCall (fun _ _=>0) ⟨#[],args,[]⟩).memory:=
 laidMetH_of_parts3 (fuel:=8) (laidMet_of_run' 8 (by kernel_rfl) (by kernel_rfl)) (by kernel_rfl) (by kernel_rfl)
end
section
open Go Go.Kn Go.Proofs
open Go.ChangeShapes Go.WideShapes Go.ChangeAt Go.RowKit
set_option maxRecDepth 100000
theorem zqq:Tryz.prog.underlying 67=some (.struct (Tryz.prog.fieldsOf 67)):=by kernel_rfl
theorem zqy:Tryz.prog.underlying 24=some (.slice 67):=by kernel_rfl
theorem zdJ:Tryz.prog.underlying 54=some (.struct (Tryz.prog.fieldsOf 54)):=by kernel_rfl
theorem XN:Tryz.prog.underlying 52=some (.struct (Tryz.prog.fieldsOf 52)):=by kernel_rfl
theorem zqD:Tryz.prog.underlying 60=some (.struct (Tryz.prog.fieldsOf 60)):=by kernel_rfl
theorem zoz:Tryz.prog.underlying 63=some (.slice 60):=by kernel_rfl
theorem zpe:Tryz.prog.underlying 65=some (.struct (Tryz.prog.fieldsOf 65)):=by kernel_rfl
theorem zqS:Tryz.prog.underlying 35=some (.slice 65):=by kernel_rfl
theorem zbc:Tryz.prog.underlying 23=some (.slice 3):=by kernel_rfl
theorem ziO:Tryz.prog.underlying 26=some (.struct (Tryz.prog.fieldsOf 26)):=by kernel_rfl
theorem zxx {H:Type}{enc:TypeId×Value→H}{W:World}(fuel:Nat)(cs:List Value)(x:DataW H×List MemPlace)(h:DataW.trod enc Tryz.prog W 0 (fun _=>true) true fuel 67 cs=some x):∃ y:Em,(fun _=>True) y∧Yy y=cs:=by
 obtain ⟨hl,n0_,f0⟩:=Vc (C:=3) zqq (by kernel_rfl) h
 match cs,hl with
 | [c0,c1,c2],_=>
  obtain ⟨_,g0_0⟩:=f0 0 3 0 1 (by kernel_rfl) (by kernel_rfl)
  obtain ⟨n0,e0,_,w0⟩:=DataW.trod_int ZB (show DataW.trod enc Tryz.prog W 0 (fun _=>true) true n0_ 3 [c0]=some _ from g0_0)
  obtain ⟨_,g0_1⟩:=f0 1 3 1 1 (by kernel_rfl) (by kernel_rfl)
  obtain ⟨n1,e1,_,w1⟩:=DataW.trod_int ZB (show DataW.trod enc Tryz.prog W 0 (fun _=>true) true n0_ 3 [c1]=some _ from g0_1)
  obtain ⟨_,g0_2⟩:=f0 2 3 2 1 (by kernel_rfl) (by kernel_rfl)
  obtain ⟨n2,e2,_,w2⟩:=DataW.trod_int ZB (show DataW.trod enc Tryz.prog W 0 (fun _=>true) true n0_ 3 [c2]=some _ from g0_2)
  cases e0;cases e1;cases e2
  exact ⟨⟨n0,n1,n2⟩,trivial,rfl⟩
theorem zwd {H:Type}{enc:TypeId×Value→H}{W:World}(fuel:Nat)(cs:List Value)(x:DataW H×List MemPlace)(h:DataW.trod enc Tryz.prog W 0 (fun _=>true) true fuel 60 cs=some x):∃ y:Rd,(fun _=>True) y∧JF y=cs:=by
 obtain ⟨hl,n0_,f0⟩:=Vc (C:=15) zqD (by kernel_rfl) h
 match cs,hl with
 | [c0,c1,c2,c3,c4,c5,c6,c7,c8,c9,c10,c11,c12,c13,c14],_=>
  obtain ⟨_,g0_0⟩:=f0 0 4 0 1 (by kernel_rfl) (by kernel_rfl)
  obtain ⟨n0,e0,_⟩:=DataW.trod_bool znl (show DataW.trod enc Tryz.prog W 0 (fun _=>true) true n0_ 4 [c0]=some _ from g0_0)
  obtain ⟨_,g0_1⟩:=f0 1 54 1 14 (by kernel_rfl) (by kernel_rfl)
  obtain ⟨_,n1_,f1⟩:=Vc (C:=14) zdJ (by kernel_rfl) (show DataW.trod enc Tryz.prog W 0 (fun _=>true) true n0_ 54 [c1,c2,c3,c4,c5,c6,c7,c8,c9,c10,c11,c12,c13,c14]=some _ from g0_1)
  obtain ⟨_,g1_0⟩:=f1 0 3 0 1 (by kernel_rfl) (by kernel_rfl)
  obtain ⟨n1,e1,_,w1⟩:=DataW.trod_int ZB (show DataW.trod enc Tryz.prog W 0 (fun _=>true) true n1_ 3 [c1]=some _ from g1_0)
  obtain ⟨_,g1_1⟩:=f1 1 3 1 1 (by kernel_rfl) (by kernel_rfl)
  obtain ⟨n2,e2,_,w2⟩:=DataW.trod_int ZB (show DataW.trod enc Tryz.prog W 0 (fun _=>true) true n1_ 3 [c2]=some _ from g1_1)
  obtain ⟨_,g1_2⟩:=f1 2 3 2 1 (by kernel_rfl) (by kernel_rfl)
  obtain ⟨n3,e3,_,w3⟩:=DataW.trod_int ZB (show DataW.trod enc Tryz.prog W 0 (fun _=>true) true n1_ 3 [c3]=some _ from g1_2)
  obtain ⟨_,g1_3⟩:=f1 3 3 3 1 (by kernel_rfl) (by kernel_rfl)
  obtain ⟨n4,e4,_,w4⟩:=DataW.trod_int ZB (show DataW.trod enc Tryz.prog W 0 (fun _=>true) true n1_ 3 [c4]=some _ from g1_3)
  obtain ⟨_,g1_4⟩:=f1 4 3 4 1 (by kernel_rfl) (by kernel_rfl)
  obtain ⟨n5,e5,_,w5⟩:=DataW.trod_int ZB (show DataW.trod enc Tryz.prog W 0 (fun _=>true) true n1_ 3 [c5]=some _ from g1_4)
  obtain ⟨_,g1_5⟩:=f1 5 3 5 1 (by kernel_rfl) (by kernel_rfl)
  obtain ⟨n6,e6,_,w6⟩:=DataW.trod_int ZB (show DataW.trod enc Tryz.prog W 0 (fun _=>true) true n1_ 3 [c6]=some _ from g1_5)
  obtain ⟨_,g1_6⟩:=f1 6 3 6 1 (by kernel_rfl) (by kernel_rfl)
  obtain ⟨n7,e7,_,w7⟩:=DataW.trod_int ZB (show DataW.trod enc Tryz.prog W 0 (fun _=>true) true n1_ 3 [c7]=some _ from g1_6)
  obtain ⟨_,g1_7⟩:=f1 7 3 7 1 (by kernel_rfl) (by kernel_rfl)
  obtain ⟨n8,e8,_,w8⟩:=DataW.trod_int ZB (show DataW.trod enc Tryz.prog W 0 (fun _=>true) true n1_ 3 [c8]=some _ from g1_7)
  obtain ⟨_,g1_8⟩:=f1 8 3 8 1 (by kernel_rfl) (by kernel_rfl)
  obtain ⟨n9,e9,_,w9⟩:=DataW.trod_int ZB (show DataW.trod enc Tryz.prog W 0 (fun _=>true) true n1_ 3 [c9]=some _ from g1_8)
  obtain ⟨_,g1_9⟩:=f1 9 3 9 1 (by kernel_rfl) (by kernel_rfl)
  obtain ⟨n10,e10,_,w10⟩:=DataW.trod_int ZB (show DataW.trod enc Tryz.prog W 0 (fun _=>true) true n1_ 3 [c10]=some _ from g1_9)
  obtain ⟨_,g1_10⟩:=f1 10 52 10 2 (by kernel_rfl) (by kernel_rfl)
  obtain ⟨_,n2_,f2⟩:=Vc (C:=2) XN (by kernel_rfl) (show DataW.trod enc Tryz.prog W 0 (fun _=>true) true n1_ 52 [c11,c12]=some _ from g1_10)
  obtain ⟨_,g2_0⟩:=f2 0 3 0 1 (by kernel_rfl) (by kernel_rfl)
  obtain ⟨n11,e11,_,w11⟩:=DataW.trod_int ZB (show DataW.trod enc Tryz.prog W 0 (fun _=>true) true n2_ 3 [c11]=some _ from g2_0)
  obtain ⟨_,g2_1⟩:=f2 1 3 1 1 (by kernel_rfl) (by kernel_rfl)
  obtain ⟨n12,e12,_,w12⟩:=DataW.trod_int ZB (show DataW.trod enc Tryz.prog W 0 (fun _=>true) true n2_ 3 [c12]=some _ from g2_1)
  obtain ⟨_,g1_11⟩:=f1 11 52 12 2 (by kernel_rfl) (by kernel_rfl)
  obtain ⟨_,n3_,f3⟩:=Vc (C:=2) XN (by kernel_rfl) (show DataW.trod enc Tryz.prog W 0 (fun _=>true) true n1_ 52 [c13,c14]=some _ from g1_11)
  obtain ⟨_,g3_0⟩:=f3 0 3 0 1 (by kernel_rfl) (by kernel_rfl)
  obtain ⟨n13,e13,_,w13⟩:=DataW.trod_int ZB (show DataW.trod enc Tryz.prog W 0 (fun _=>true) true n3_ 3 [c13]=some _ from g3_0)
  obtain ⟨_,g3_1⟩:=f3 1 3 1 1 (by kernel_rfl) (by kernel_rfl)
  obtain ⟨n14,e14,_,w14⟩:=DataW.trod_int ZB (show DataW.trod enc Tryz.prog W 0 (fun _=>true) true n3_ 3 [c14]=some _ from g3_1)
  cases e0;cases e1;cases e2;cases e3;cases e4;cases e5;cases e6;cases e7;cases e8;cases e9;cases e10;cases e11;cases e12;cases e13;cases e14
  exact ⟨⟨n0,⟨n1,n2,n3,n4,n5,n6,n7,n8,n9,n10,n11,n12,n13,n14⟩⟩,trivial,rfl⟩
theorem zwB {H:Type}{enc:TypeId×Value→H}{W:World}(fuel:Nat)(cs:List Value)(x:DataW H×List MemPlace)(h:DataW.trod enc Tryz.prog W 0 (fun _=>true) true fuel 65 cs=some x):∃ y:Wt,(fun w=>∃ rs,Sl (Jp W) 15 JF w.a w.n w.c rs) y∧zki y=cs:=by
 obtain ⟨hl,n0_,f0⟩:=Vc (C:=3) zpe (by kernel_rfl) h
 match cs,hl with
 | [c0,c1,c2],_=>
  obtain ⟨_,g0_0⟩:=f0 0 3 0 1 (by kernel_rfl) (by kernel_rfl)
  obtain ⟨n0,e0,_,w0⟩:=DataW.trod_int ZB (show DataW.trod enc Tryz.prog W 0 (fun _=>true) true n0_ 3 [c0]=some _ from g0_0)
  obtain ⟨_,g0_1⟩:=f0 1 3 1 1 (by kernel_rfl) (by kernel_rfl)
  obtain ⟨n1,e1,_,w1⟩:=DataW.trod_int ZB (show DataW.trod enc Tryz.prog W 0 (fun _=>true) true n0_ 3 [c1]=some _ from g0_1)
  obtain ⟨_,g0_2⟩:=f0 2 63 2 1 (by kernel_rfl) (by kernel_rfl)
  obtain ⟨a2,m2,q2,n2,e2,s2,o2,_⟩:=J9 (t:=63) (e:=60) JF (fun _:Rd=>True) zoz (by kernel_rfl) (by decide) Zq (fun fuel cs x h=>zwd fuel cs x h) (show DataW.trod enc Tryz.prog W 0 (fun _=>true) true n0_ 63 [c2]=some _ from g0_2)
  cases e0;cases e1;cases e2
  exact ⟨⟨n0,n1,a2,m2,q2⟩,⟨n2,s2⟩,rfl⟩
theorem zxC {I:Qu}:∀ (ws:List Wt),(∀ w∈ws,∃ rs,Sl I 15 JF w.a w.n w.c rs)→∃ xs:List Wr,ws.length=xs.length∧∀ (k:Nat) (w:Wt) (x:Wr),ws[k]? =some w→xs[k]? =some x→w.no=x.no∧w.yr=x.yr∧Sl I 15 JF w.a w.n w.c x.rs
 | [],_=>⟨[],rfl,fun k w x h=>by simp at h⟩
 | y::ws,H=>by
  obtain ⟨xs,hl,hv⟩:=zxC ws fun w hw=>H w (List.mem_cons_of_mem _ hw)
  obtain ⟨rs,h0⟩:=H y (List.mem_cons_self ..)
  refine ⟨⟨y.no,y.yr,rs⟩::xs,by simp [hl],fun k w x a b=>?_⟩
  cases k with
  | zero=>cases a;cases b;exact ⟨rfl,rfl,h0⟩
  | succ k=>exact hv k w x a b
structure EdS where
 no:Int
 a1:Option Addr
 n1:Nat
 c1:Nat
 a2:Option Addr
 n2:Nat
 c2:Nat
 a3:Option Addr
 n3:Nat
 c3:Nat
def ztG (e:EdS):List Value:=Z1 e.no e.a1 e.n1 e.c1 e.a2 e.n2 e.c2 e.a3 e.n3 e.c3
def ztK (e:EdS):Value:=.agg (ztG e).toArray
theorem zw1 {H:Type}{enc:TypeId×Value→H}{W:World}(fuel:Nat)(cs:List Value)(x:DataW H×List MemPlace)(h:DataW.trod enc Tryz.prog W 0 (fun _=>true) true fuel 26 cs=some x):∃ y:EdS,(fun e=>(∃ xs,Sl (Jp W) 1 QR e.a1 e.n1 e.c1 xs)∧(∃ es,Sl (Jp W) 3 Yy e.a2 e.n2 e.c2 es)∧∃ rd,Sl (Jp W) 1 QR e.a3 e.n3 e.c3 rd) y∧ztG y=cs:=by
 obtain ⟨hl,n0_,f0⟩:=Vc (C:=4) ziO (by kernel_rfl) h
 match cs,hl with
 | [c0,c1,c2,c3],_=>
  obtain ⟨_,g0_0⟩:=f0 0 3 0 1 (by kernel_rfl) (by kernel_rfl)
  obtain ⟨n0,e0,_,w0⟩:=DataW.trod_int ZB (show DataW.trod enc Tryz.prog W 0 (fun _=>true) true n0_ 3 [c0]=some _ from g0_0)
  obtain ⟨_,g0_1⟩:=f0 1 23 1 1 (by kernel_rfl) (by kernel_rfl)
  obtain ⟨a1,m1,q1,n1,e1,s1,o1,_⟩:=J9 (t:=23) (e:=3) QR (fun n:Int=> -9223372036854775808≤n∧n≤9223372036854775807) zbc (by kernel_rfl) (by decide) Qv (fun fuel cs x h=>zcA ZB rfl fuel cs x h) (show DataW.trod enc Tryz.prog W 0 (fun _=>true) true n0_ 23 [c1]=some _ from g0_1)
  obtain ⟨_,g0_2⟩:=f0 2 24 2 1 (by kernel_rfl) (by kernel_rfl)
  obtain ⟨a2,m2,q2,n2,e2,s2,o2,_⟩:=J9 (t:=24) (e:=67) Yy (fun _:Em=>True) zqy (by kernel_rfl) (by decide) XZ (fun fuel cs x h=>zxx fuel cs x h) (show DataW.trod enc Tryz.prog W 0 (fun _=>true) true n0_ 24 [c2]=some _ from g0_2)
  obtain ⟨_,g0_3⟩:=f0 3 23 3 1 (by kernel_rfl) (by kernel_rfl)
  obtain ⟨a3,m3,q3,n3,e3,s3,o3,_⟩:=J9 (t:=23) (e:=3) QR (fun n:Int=> -9223372036854775808≤n∧n≤9223372036854775807) zbc (by kernel_rfl) (by decide) Qv (fun fuel cs x h=>zcA ZB rfl fuel cs x h) (show DataW.trod enc Tryz.prog W 0 (fun _=>true) true n0_ 23 [c3]=some _ from g0_3)
  cases e0;cases e1;cases e2;cases e3
  exact ⟨⟨n0,a1,m1,q1,a2,m2,q2,a3,m3,q3⟩,⟨⟨n1,s1⟩,⟨n2,s2⟩,⟨n3,s3⟩⟩,rfl⟩
theorem zom {H:Type}{enc:TypeId×Value→H}{W:World}{base:Nat}{v:Value}{d:DataW H}{p:List MemPlace}(hv:Value.okWide Tryz.prog W .any base 26 v)(h:DataW.Trod enc Tryz.prog W 0 (fun _=>true) true 26 v d p):∃ y:EdS,v=ztK y∧(fun e=>(∃ xs,Sl (Jp W) 1 QR e.a1 e.n1 e.c1 xs)∧(∃ es,Sl (Jp W) 3 Yy e.a2 e.n2 e.c2 es)∧∃ rd,Sl (Jp W) 1 QR e.a3 e.n3 e.c3 rd) y:=by
 obtain ⟨cs,rfl,_⟩:=okWide_struct ziO hv
 obtain ⟨fuel,hf⟩:=h
 obtain ⟨l⟩:=cs
 obtain ⟨y,hy,e⟩:=zw1 fuel l _ hf
 exact ⟨y,by rw [←e];rfl,hy⟩
set_option maxRecDepth 100000 in
theorem zqF {H:Type} {enc:TypeId×Value→H} {W:World} {base:Nat} {v:Value} {d:DataW H} {p:List MemPlace} (hv:Value.okWide Tryz.prog W .any base 35 v) (h:DataW.Trod enc Tryz.prog W 0 (fun _=>true) true 35 v d p):
  ∃ av n c xs,v= .slice av n c∧SlW (Jp W) av n c xs∧n≤9223372036854775807:=by
 obtain ⟨av,n,c,ws,e,hS,hok,hm⟩:=zbB (e:=65) zki (fun w=>∃ rs,Sl (Jp W) 15 JF w.a w.n w.c rs) zqS (by kernel_rfl) (by decide) ZK (fun fuel cs x h=>zwB fuel cs x h) hv h
 obtain ⟨xs,hl,hx⟩:=zxC ws hok
 exact ⟨av,n,c,xs,e,⟨ws,hS,hl,hx⟩,Nat.le_trans hS.cap hm⟩
end
end Go.Proofs.YtodakphagkommaaGreatDoor
namespace Go.Proofs.YtodakphagkommaaGreatDoor.R
section
open Go Go.Kn Go.Proofs
open Go.ChangeShapes Go.WideShapes Go.ChangeAt Go.RowKit
set_option maxRecDepth 100000
theorem zdJ:Tryz.prog.underlying 54=some (.struct (Tryz.prog.fieldsOf 54)):=by kernel_rfl
theorem XN:Tryz.prog.underlying 52=some (.struct (Tryz.prog.fieldsOf 52)):=by kernel_rfl
theorem zbc:Tryz.prog.underlying 23=some (.slice 3):=by kernel_rfl
theorem zpN:Tryz.prog.underlying 57=some (.struct (Tryz.prog.fieldsOf 57)):=by kernel_rfl
theorem zrr:Tryz.prog.underlying 36=some (.slice 57):=by kernel_rfl
theorem zvU {H:Type}{enc:TypeId×Value→H}{W:World}(fuel:Nat)(cs:List Value)(x:DataW H×List MemPlace)(h:DataW.trod enc Tryz.prog W 0 (fun _=>true) true fuel 57 cs=some x):∃ y:Pt,(fun p=>Nd (Jp W) p) y∧Yz y=cs:=by
 obtain ⟨hl,n0_,f0⟩:=Vc (C:=19) zpN (by kernel_rfl) h
 match cs,hl with
 | [c0,c1,c2,c3,c4,c5,c6,c7,c8,c9,c10,c11,c12,c13,c14,c15,c16,c17,c18],_=>
  obtain ⟨_,g0_0⟩:=f0 0 3 0 1 (by kernel_rfl) (by kernel_rfl)
  obtain ⟨n0,e0,_,w0⟩:=DataW.trod_int ZB (show DataW.trod enc Tryz.prog W 0 (fun _=>true) true n0_ 3 [c0]=some _ from g0_0)
  obtain ⟨_,g0_1⟩:=f0 1 3 1 1 (by kernel_rfl) (by kernel_rfl)
  obtain ⟨n1,e1,_,w1⟩:=DataW.trod_int ZB (show DataW.trod enc Tryz.prog W 0 (fun _=>true) true n0_ 3 [c1]=some _ from g0_1)
  obtain ⟨_,g0_2⟩:=f0 2 3 2 1 (by kernel_rfl) (by kernel_rfl)
  obtain ⟨n2,e2,_,w2⟩:=DataW.trod_int ZB (show DataW.trod enc Tryz.prog W 0 (fun _=>true) true n0_ 3 [c2]=some _ from g0_2)
  obtain ⟨_,g0_3⟩:=f0 3 3 3 1 (by kernel_rfl) (by kernel_rfl)
  obtain ⟨n3,e3,_,w3⟩:=DataW.trod_int ZB (show DataW.trod enc Tryz.prog W 0 (fun _=>true) true n0_ 3 [c3]=some _ from g0_3)
  obtain ⟨_,g0_4⟩:=f0 4 54 4 14 (by kernel_rfl) (by kernel_rfl)
  obtain ⟨_,n1_,f1⟩:=Vc (C:=14) zdJ (by kernel_rfl) (show DataW.trod enc Tryz.prog W 0 (fun _=>true) true n0_ 54 [c4,c5,c6,c7,c8,c9,c10,c11,c12,c13,c14,c15,c16,c17]=some _ from g0_4)
  obtain ⟨_,g1_0⟩:=f1 0 3 0 1 (by kernel_rfl) (by kernel_rfl)
  obtain ⟨n4,e4,_,w4⟩:=DataW.trod_int ZB (show DataW.trod enc Tryz.prog W 0 (fun _=>true) true n1_ 3 [c4]=some _ from g1_0)
  obtain ⟨_,g1_1⟩:=f1 1 3 1 1 (by kernel_rfl) (by kernel_rfl)
  obtain ⟨n5,e5,_,w5⟩:=DataW.trod_int ZB (show DataW.trod enc Tryz.prog W 0 (fun _=>true) true n1_ 3 [c5]=some _ from g1_1)
  obtain ⟨_,g1_2⟩:=f1 2 3 2 1 (by kernel_rfl) (by kernel_rfl)
  obtain ⟨n6,e6,_,w6⟩:=DataW.trod_int ZB (show DataW.trod enc Tryz.prog W 0 (fun _=>true) true n1_ 3 [c6]=some _ from g1_2)
  obtain ⟨_,g1_3⟩:=f1 3 3 3 1 (by kernel_rfl) (by kernel_rfl)
  obtain ⟨n7,e7,_,w7⟩:=DataW.trod_int ZB (show DataW.trod enc Tryz.prog W 0 (fun _=>true) true n1_ 3 [c7]=some _ from g1_3)
  obtain ⟨_,g1_4⟩:=f1 4 3 4 1 (by kernel_rfl) (by kernel_rfl)
  obtain ⟨n8,e8,_,w8⟩:=DataW.trod_int ZB (show DataW.trod enc Tryz.prog W 0 (fun _=>true) true n1_ 3 [c8]=some _ from g1_4)
  obtain ⟨_,g1_5⟩:=f1 5 3 5 1 (by kernel_rfl) (by kernel_rfl)
  obtain ⟨n9,e9,_,w9⟩:=DataW.trod_int ZB (show DataW.trod enc Tryz.prog W 0 (fun _=>true) true n1_ 3 [c9]=some _ from g1_5)
  obtain ⟨_,g1_6⟩:=f1 6 3 6 1 (by kernel_rfl) (by kernel_rfl)
  obtain ⟨n10,e10,_,w10⟩:=DataW.trod_int ZB (show DataW.trod enc Tryz.prog W 0 (fun _=>true) true n1_ 3 [c10]=some _ from g1_6)
  obtain ⟨_,g1_7⟩:=f1 7 3 7 1 (by kernel_rfl) (by kernel_rfl)
  obtain ⟨n11,e11,_,w11⟩:=DataW.trod_int ZB (show DataW.trod enc Tryz.prog W 0 (fun _=>true) true n1_ 3 [c11]=some _ from g1_7)
  obtain ⟨_,g1_8⟩:=f1 8 3 8 1 (by kernel_rfl) (by kernel_rfl)
  obtain ⟨n12,e12,_,w12⟩:=DataW.trod_int ZB (show DataW.trod enc Tryz.prog W 0 (fun _=>true) true n1_ 3 [c12]=some _ from g1_8)
  obtain ⟨_,g1_9⟩:=f1 9 3 9 1 (by kernel_rfl) (by kernel_rfl)
  obtain ⟨n13,e13,_,w13⟩:=DataW.trod_int ZB (show DataW.trod enc Tryz.prog W 0 (fun _=>true) true n1_ 3 [c13]=some _ from g1_9)
  obtain ⟨_,g1_10⟩:=f1 10 52 10 2 (by kernel_rfl) (by kernel_rfl)
  obtain ⟨_,n2_,f2⟩:=Vc (C:=2) XN (by kernel_rfl) (show DataW.trod enc Tryz.prog W 0 (fun _=>true) true n1_ 52 [c14,c15]=some _ from g1_10)
  obtain ⟨_,g2_0⟩:=f2 0 3 0 1 (by kernel_rfl) (by kernel_rfl)
  obtain ⟨n14,e14,_,w14⟩:=DataW.trod_int ZB (show DataW.trod enc Tryz.prog W 0 (fun _=>true) true n2_ 3 [c14]=some _ from g2_0)
  obtain ⟨_,g2_1⟩:=f2 1 3 1 1 (by kernel_rfl) (by kernel_rfl)
  obtain ⟨n15,e15,_,w15⟩:=DataW.trod_int ZB (show DataW.trod enc Tryz.prog W 0 (fun _=>true) true n2_ 3 [c15]=some _ from g2_1)
  obtain ⟨_,g1_11⟩:=f1 11 52 12 2 (by kernel_rfl) (by kernel_rfl)
  obtain ⟨_,n3_,f3⟩:=Vc (C:=2) XN (by kernel_rfl) (show DataW.trod enc Tryz.prog W 0 (fun _=>true) true n1_ 52 [c16,c17]=some _ from g1_11)
  obtain ⟨_,g3_0⟩:=f3 0 3 0 1 (by kernel_rfl) (by kernel_rfl)
  obtain ⟨n16,e16,_,w16⟩:=DataW.trod_int ZB (show DataW.trod enc Tryz.prog W 0 (fun _=>true) true n3_ 3 [c16]=some _ from g3_0)
  obtain ⟨_,g3_1⟩:=f3 1 3 1 1 (by kernel_rfl) (by kernel_rfl)
  obtain ⟨n17,e17,_,w17⟩:=DataW.trod_int ZB (show DataW.trod enc Tryz.prog W 0 (fun _=>true) true n3_ 3 [c17]=some _ from g3_1)
  obtain ⟨_,g0_5⟩:=f0 5 23 18 1 (by kernel_rfl) (by kernel_rfl)
  obtain ⟨a18,m18,q18,n18,e18,s18,o18,_⟩:=J9 (t:=23) (e:=3) QR (fun n:Int=> -9223372036854775808≤n∧n≤9223372036854775807) zbc (by kernel_rfl) (by decide) Qv (fun fuel cs x h=>zcA ZB rfl fuel cs x h) (show DataW.trod enc Tryz.prog W 0 (fun _=>true) true n0_ 23 [c18]=some _ from g0_5)
  cases e0;cases e1;cases e2;cases e3;cases e4;cases e5;cases e6;cases e7;cases e8;cases e9;cases e10;cases e11;cases e12;cases e13;cases e14;cases e15;cases e16;cases e17;cases e18
  exact ⟨⟨n0,n1,n2,n3,⟨n4,n5,n6,n7,n8,n9,n10,n11,n12,n13,n14,n15,n16,n17⟩,a18,m18,q18,n18⟩,s18,rfl⟩
theorem open_ps {H:Type}{enc:TypeId×Value→H}{W:World}{base:Nat}{v:Value}{d:DataW H}{p:List MemPlace}(hv:Value.okWide Tryz.prog W .any base 36 v)(h:DataW.Trod enc Tryz.prog W 0 (fun _=>true) true 36 v d p):
  ∃ av n c xs,v= .slice av n c∧SlP (Jp W) av n c xs:=by
 obtain ⟨av,n,c,xs,e,hS,hok,_⟩:=zbB (e:=57) Yz (fun p=>Nd (Jp W) p) zrr (by kernel_rfl) (by decide) QZ (fun fuel cs x h=>zvU fuel cs x h) hv h
 exact ⟨av,n,c,xs,e,⟨hS,hok⟩⟩
end
end Go.Proofs.YtodakphagkommaaGreatDoor.R
