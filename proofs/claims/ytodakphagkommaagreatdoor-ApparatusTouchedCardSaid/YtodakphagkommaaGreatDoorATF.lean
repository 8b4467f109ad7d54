/- apparatusTouched_holds, part F of the proof: what its theorems say holds without further conditions. -/
import Derived.Test.YtodakphagkommaaGreatDoorATE
namespace Go.Proofs.YtodakphagkommaaGreatDoor.R
section
open Go Go.Kn Go.Proofs
theorem zjW {I:Qu}{av:Option Addr}{n c:Nat}{ps:List Pt}(hP:SlP I av n c ps)(hn:n≤512)(hL:Lst ps)(hnd:∀ p∈ps,p.n≤100000){bv:Option Addr}{n2 c2:Nat}{ys:List Int}(hT:Sl I 1 QR bv n2 c2 ys)(hn2:n2≤100000):Yg Tryz.prog 90 [.slice av n c,.slice bv n2 c2] I [] (zmu (clE ps ys) (zlY (clE ps ys) (zei ps ys))):=by
 intro g H w hw
 refine qe Tryz.func90 Tryz.ntmps90 hw ?_
 have hIc:=zye I
 refine zR (zA ?_)
 refine zA (zN (Ql (zR ?_)))
 refine zM ?_
 refine zQ Qy ?_
 refine zC (zN ?_)
 refine zI ?_ ?_<;>intro hc12
 ·
  have hlen:ys.length>512:=by rw [hT.len];simp at hc12;omega
  refine zR (zA ?_)
  refine zA (zN (Qt (Qc ?_)))
  first
  | exact Zx rfl rfl rfl (fun w hw=>⟨_,I,[],rfl,hIc,hw.drop,by rw [zt0 hlen];exact zmu.empty rfl⟩)
 have hlen:¬ys.length>512:=by rw [hT.len];simp at hc12;omega
 refine Qo (Qa (zR (zM ?_)))
 refine Qz (cap:=[]) (vs:=[_]) rfl rfl zgH .nil (zaW hP (by omega) hL hnd) rfl rfl ?_
 rintro vv1 I1 L1 hI1 ⟨rfl,r9,rfl,hOn⟩
 have hP:=hP.mono hI1;have hT:=hT.mono hI1;have hIc:=hIc.trans hI1
 refine zA ?_
 refine zN (zR ?_)
 refine zM ?_
 refine Qz (cap:=[]) (vs:=[_]) rfl rfl zhh .nil (zbS hT (by omega)) rfl rfl ?_
 rintro vv2 I2 L2 hI2 ⟨rfl,hO⟩
 have hP:=hP.mono hI2;have hT:=hT.mono hI2;have hOn:=hOn.mono hI2;have hIc:=hIc.trans hI2
 refine zA (zN (Ql (Ql ?_)))
 refine W0 _ Zg ?_
 refine Qg (zM ?_)
 refine zQ Qy ?_
 refine zM (zN (Qm ?_))
 refine zU [(1,_),(6,_),(17,_),(18,_)] (fun T L0 mz E I' loc'=>∃ (k:Nat) (zs:List Int) (v:Value) (q:Nat) (L:Go.Kn.Loc),mz=n2-k∧E=(4,v)::(19,.int .i64 k)::T∧I2=I'∧L=loc'∧k≤n2∧OwnS 3 1 v q (zs.flatMap QR) L∧q≤n2+512*k∧zd6 ps ys k zs (fun _=>false)∧(ys.take k).all (zal ps)=true) ?_ (h:=⟨0,ys,_,n2,_,rfl,rfl,rfl,rfl,Nat.zero_le _,hO,by omega,zd6.start,rfl⟩)
 rintro mz E I' loc' ⟨k,zs,v,q,L,rfl,rfl,rfl,rfl,hk,hO,hq5,hM,hall⟩
 refine zR (zC (zN (Ql ?_)))
 refine zI ?_ ?_<;>intro hc20
 ·
  have hlt_k:k<n2:=by have h:=hc20;simp at h;omega
  obtain ⟨y,hy⟩:=hT.at hlt_k
  refine Qo (Qa (Ql (Qm (zR ?_))))
  refine zV (QF rfl rfl Qy (by assumption) (fun hg=>by omega)) ?_
  refine zV (Qd rfl Qs (fun hg=>by exact zx7 hT hy rfl)) ?_
  refine zA (zN (Ql (Ql ?_)))
  obtain ⟨m,hm1,hm2⟩:=hOn
  refine Qg (zM ?_)
  refine zM ?_
  refine zV (zay (m:=m) (ek:=Value.int .i64) Ks ZE rfl rfl (fun _=>.inl hm1)) ?_
  refine zV (zif rfl rfl zqr) ?_
  refine zN ?_
  refine zI ?_ ?_<;>intro hc26
  ·
   have hmiss:zal ps y=false:=hm2.miss (Option.isNone_iff_eq_none.1 hc26)
   have hbad:clE ps ys=380:=zph hlen (ztc hy hmiss)
   refine zR (zA ?_)
   refine zA (zN (Qt (Qc (Qn (Qc (Qc (Qn ?_)))))))
   refine Qc ?_
   first
   | exact Zx rfl rfl rfl (fun w hw=>⟨_,I2,[],rfl,hIc,hw.drop,by rw [hbad];exact zmu.empty rfl⟩)
  obtain ⟨ref,hget⟩:∃ ref,Zy m y=some ref:=by cases hg:Zy m y with | none=>rw [hg] at hc26;cases hc26 | some r=>exact ⟨r,rfl⟩
  obtain ⟨hhas,sn,hsn,hsq⟩:=hm2.hit hget
  have hfew:=zuX hL hsq
  have hpl:=hP.len
  refine Qo (Qa (zR (zM ?_)))
  refine zM ?_
  refine zV (zay (m:=m) (ek:=Value.int .i64) Ks ZE rfl rfl (fun _=>.inl hm1)) ?_
  rw [hget]
  refine Jt (ek:=Value.int .i64) (ev:=Value.bool) (m:=sn) rfl Vs rfl rfl (.inl hsn) (fun b_30=>?_)
  refine zN (Qm ?_)
  refine zU [(1,_),(6,_),(17,_),(18,_),(19,_),(30,_)] (fun T L0 mz E I' loc'=>∃ (seen:List Nat) (zs:List Int) (v:Value) (q:Nat) (L:Go.Kn.Loc),mz=sn.length-seen.length∧E=(4,v)::T∧I2=I'∧(b_30,YN ref sn.length seen)::L=loc'∧OwnS 3 1 v q (zs.flatMap QR) L∧q≤n2+512*k+seen.length∧zd6 ps ys k zs (zkZ sn seen)∧seen.Nodup∧∀ i∈seen,i<sn.length) ?_ (h:=⟨[],zs,v,q,L,rfl,rfl,rfl,rfl,hO,by simpa using hq5,hM.congr (fun x=>(zbu sn x).symm),.nil,fun i h=>by cases h⟩)
  rintro mz E I' loc' ⟨seen,zs,v,q,L,rfl,rfl,rfl,rfl,hO,hq5,hM,hnd2,hlt⟩
  have hsl:=Jh hnd2 hlt
  refine zR ?_
  refine Jv (ek:=Value.int .i64) (ev:=Value.bool) (m:=sn) (fun s'=>(b_30,YN ref sn.length s')::L) rfl (fun s'=>.here) rfl rfl rfl rfl rfl (.inl hsn) (by simp) ?_
  intro t tv s' hno hyes
  refine zN (Ql ?_)
  refine zI ?_ ?_<;>intro hc32
  ·
   obtain ⟨i,q,hq,hns,rfl⟩:=hyes hc32
   refine Qo (Qa (Qm (zR ?_)))
   refine zV (Jq (ek:=Value.int .i64) (ev:=Value.bool) (m:=sn) (p:=q) (seen:=seen) (i:=i) rfl (.inl hsn) (.inr (by simp)) hq) ?_
   refine zE ?_
   refine zA (zN (Qg ?_))
   refine zM ?_
   refine zM ?_
   refine Qq (ps:=[(0,_)]) (m:=[QR q.1]) Zi rfl (.cons rfl (.nil)) rfl (by simp [Qv]) (by decide) (by decide) rfl rfl (fun b_37=>?_)
   refine QY (v:=_) (ys:=[q.1].flatMap QR) (L:=L) rfl rfl Zi hO (by repeat (first | exact .cons .here .nil | exact QD | exact Qw | apply QC | apply QB)) ⟨rfl,fun _=>rfl,zyc⟩ (JG [q.1]) (by omega) rfl rfl ?_
   intro v9 L9 hO9 _;rw [←List.flatMap_append] at hO9
   refine zA (Qb (Qh ?_))
   have hnd3:(seen++[i]).Nodup:=List.nodup_append.2 ⟨hnd2,by simp,fun a ha b hb e=>hns (by simp at hb;subst hb;subst e;exact ha)⟩
   have hlt3:∀ j∈seen++[i],j<sn.length:=fun j hj=>(List.mem_append.1 hj).elim (hlt j) (fun h=>by simp at h;subst h;exact (List.getElem?_eq_some_iff.1 hq).1)
   have hsl2:=Jh hnd3 hlt3
   rw [List.length_append,List.length_singleton] at hsl2
   exact Ji _ _ (L9++[(b_30,_)]) ⟨sn.length-(seen++[i]).length,by rw [List.length_append,List.length_singleton];omega,seen++[i],zs++[q.1],v9,_,L9,rfl,rfl,rfl,rfl,hO9,by rw [List.length_append,List.length_singleton];omega,hM.put (fun x=>zab hq x),hnd3,hlt3⟩ (.cons rfl (.cons rfl (.cons rfl (.cons rfl (.cons rfl (.cons rfl (.cons rfl .nil))))))) (zc7 _ _) (by repeat (first | exact .refl | exact Zg | refine Ym ?_ | refine .drop ?_ | refine Z4 ?_))
  obtain ⟨rfl,hall2⟩:=hno hc32
  refine QI (Qf (Qf (Qk (Qh (Qa (Qg (zB ?_)))))))
  refine zM (Qb ?_)
  exact zm (h:=⟨n2-(k+1),by omega,k+1,zs,v,q,L,rfl,rfl,rfl,rfl,by omega,hO,by omega,(hM.next hy (fun x=>zbW hsq hall2 x)),ziM hy hall hhas⟩)
 have hge_k:n2≤k:=by have h:=hc20;simp at h;omega
 rw [ZF hT.len hge_k] at hall
 have hk2:n2=k:=by omega
 refine QI (Qf (Qf (Qk (Qa (Ql (zR (zM ?_)))))))
 refine qc (vs:=[_]) rfl zo9 (zvr hT hn2) ?_
 refine zO (zN ?_)
 refine zI ?_ ?_<;>intro hc42
 ·
  have hbad:clE ps ys=380:=zph hlen (zuR (by simpa using hc42))
  refine zR (zA ?_)
  refine zA (zN (Qt (Qc ?_)))
  first
  | exact Zx rfl rfl rfl (fun w hw=>⟨_,I2,[],rfl,hIc,hw.drop,by rw [hbad];exact zmu.empty rfl⟩)
 have hgood:clE ps ys=0:=zvn hlen (zuD (by simpa using hc42) hall)
 refine Qo (Qa (Ql ?_))
 refine Y9 hO Qv (by decide) (by repeat (first | exact .cons .here .nil | exact QD | exact Qw | apply QC | apply QB)) (fun I5 hI5 af5 cf5 ef5 hZ=>?_)
 subst ef5
 have hT:=hT.mono hI5;have hIc:=hIc.trans hI5
 refine Qg (zM ?_)
 refine Qz (cap:=[]) (vs:=[_,_]) rfl rfl zsP .nil (zpu hZ (by have:=hT.len;omega) .nil (by omega)) rfl rfl ?_
 rintro vv6 I6 L6 hI6 ⟨rfl,av9,c9,rfl,hR⟩
 have hT:=hT.mono hI6;have hIc:=hIc.trans hI6
 refine zA ?_
 refine zA (zN (Qt ?_))
 first
 | exact Zx rfl rfl rfl (fun w hw=>⟨_,I6,[],rfl,hIc,hw.drop,by rw [hgood];exact zmu.good rfl (by rw [zj6 rfl];exact zlh hL hM (by rw [hT.len];omega) hall) hR⟩)
theorem ziD {I:Qu}{av:Option Addr}{n c:Nat}{ps:List Pt}(hP:SlP I av n c ps)(hn:n≤512)(hL:Lst ps)(hnd:∀ p∈ps,p.n≤100000){bv:Option Addr}{n2 c2:Nat}{ys:List Int}(hT:Sl I 1 QR bv n2 c2 ys)(hn2:n2≤100000):Zw Tryz.prog 49 [.slice av n c,.slice bv n2 c2] I (.int .i64 (vrE ps ys)):=by
 intro g H w hw
 refine qe Tryz.func49 Tryz.ntmps49 hw ?_
 have hIc:=zye I
 refine zR (zA ?_)
 refine zN (zR ?_)
 refine zM ?_
 refine zM ?_
 refine Qz (cap:=[]) (vs:=[_,_]) rfl rfl zu2 .nil (zjW hP hn hL hnd hT hn2) rfl rfl ?_
 rintro vv1 I1 L1 hI1 ⟨rfl,av9,c9,rfl,hR⟩
 have hT:=hT.mono hI1;have hIc:=hIc.trans hI1
 refine zM ?_
 refine zE ?_
 refine zE ?_
 refine zA ?_
 refine zA (zN (Ql (zR ?_)))
 refine zM ?_
 refine zC ?_
 refine zM ?_
 refine QE 2 rfl rfl rfl ?_
 refine zK (Qi rfl) ?_
 refine zK (ZH rfl Qy) ?_
 refine zK (Qi rfl) ?_
 refine zK (ZH rfl Qy) ?_
 refine zK (QH rfl rfl rfl) ?_
 refine QP rfl rfl rfl rfl rfl ?_
 refine zN ?_
 refine zI ?_ ?_<;>intro hc20
 ·
  have hv:vrE ps ys=380:=by rw [←ztn (v:=ys) hL rfl,hT.len,if_pos hc20]
  refine zR (zA (zN (Qt (Qc ?_))))
  exact zp hIc rfl rfl (by rw [hv]<;>rfl)
 have hv:vrE ps ys=clE ps ys:=by rw [←ztn (v:=ys) hL rfl,hT.len,if_neg (by rw [hc20];exact Bool.false_ne_true)]
 refine Qo (Qa (zR (zM ?_)))
 refine zA (zN (Qt ?_))
 exact zp hIc rfl rfl (by rw [hv]<;>rfl)
end
section
open Go Go.Kn Go.Proofs
abbrev ziy:=Value×Nat×List Value
theorem zpo {ps:List Pt}{ws:List Int}{k:Nat}{p:Pt}(hp:ps[k]? =some p)(h:(ws.any fun x=>x==p.id)=false):Yb (ps.take (k+1)) ws=Yb (ps.take k) ws:=by
 unfold Yb
 rw [Z3 hp,List.filter_append,List.filter_cons,h];simp
theorem zkG {ps:List Pt}{ws:List Int}{k:Nat}{p:Pt}(hp:ps[k]? =some p)(h:(ws.any fun x=>x==p.id)=true):Yb (ps.take (k+1)) ws=Yb (ps.take k) ws++[p]:=by
 unfold Yb
 rw [Z3 hp,List.filter_append,List.filter_cons,h];rfl
/-! ### Removes -/
theorem WH.start:WH [] []:=fun _s=>rfl
theorem WH.put' {mr:List (Int×ziy)}{l:List Pt}{n:Nat}{p:Pt}{v:Value}(h:WH mr l)(hk:p.kind=3):WH (Ys mr p.sign (v,n,((Zy mr p.sign).getD V7).2.2++[p.id].flatMap QR)) (l++[p]):=by
 have h1:WH mr ((l++[p]).take l.length):=by simpa using h
 have:=WH.put (v:=v) (n:=n) h1 (show (l++[p])[l.length]? =some p by simp) hk
 rw [show (l++[p]).take (l.length+1)=l++[p] from List.take_of_length_le (by simp)] at this
 exact this
theorem WH.skip' {mr:List (Int×ziy)}{l:List Pt}{p:Pt}(h:WH mr l)(hk:p.kind≠3):WH mr (l++[p]):=by
 have h1:WH mr ((l++[p]).take l.length):=by simpa using h
 have:=WH.skip h1 (show (l++[p])[l.length]? =some p by simp) hk
 rw [show (l++[p]).take (l.length+1)=l++[p] from List.take_of_length_le (by simp)] at this
 exact this
/-! ### Sets -/
def zgD (ms:List ((Int×Int)×ziy))(l:List Pt):Prop:=∀ q:Int×Int,((Zy ms q).getD V7).2.2=(stF l q.1 q.2).flatMap Yz
theorem zgD.start:zgD [] []:=fun _q=>rfl
theorem zep (l:List Pt)(p:Pt)(s f:Int):stF (l++[p]) s f=stF l s f++(if p.kind=1∧p.sign=s∧p.field=f then [p] else []):=by
 unfold stF
 rw [List.filter_append]
 congr 1
 by_cases h:p.kind=1∧p.sign=s∧p.field=f
 ·
  rw [if_pos h];simp [h.1,h.2.1,h.2.2]
 ·
  rw [if_neg h]
  have:(p.kind==1&&(p.sign==s&&p.field==f))=false:=by
   rw [Bool.eq_false_iff];intro hc;simp at hc;exact h hc
  simp [this]
theorem zgD.put {ms:List ((Int×Int)×ziy)}{l:List Pt}{n:Nat}{p:Pt}{v:Value}(h:zgD ms l)(hk:p.kind=1):zgD (Ys ms (p.sign,p.field) (v,n,((Zy ms (p.sign,p.field)).getD V7).2.2++[p].flatMap Yz)) (l++[p]):=fun q=>by
 rw [zep,YE]
 by_cases e:(p.sign,p.field)=q
 ·
  subst e;rw [if_pos rfl,if_pos ⟨hk,rfl,rfl⟩,List.flatMap_append,←h];rfl
 ·
  rw [if_neg e,if_neg (fun h2=>e (Prod.ext h2.2.1 h2.2.2)),List.append_nil,h q]
theorem zgD.skip {ms:List ((Int×Int)×ziy)}{l:List Pt}{p:Pt}(h:zgD ms l)(hk:p.kind≠1):zgD ms (l++[p]):=fun q=>by
 rw [zep,if_neg (fun h2=>hk h2.1),List.append_nil,h q]
theorem X3 {l:List Pt}{s f:Int}:(stF l s f).length≤l.length:=List.length_filter_le _ _
theorem ztA {e:Nat}{ms:List ((Int×Int)×ziy)}{l:List Pt}{q:Int×Int}{L:Go.Kn.Loc}(h:zgD ms l)(hO:OwnS e 19 ((Zy ms q).getD V7).1 ((Zy ms q).getD V7).2.1 ((Zy ms q).getD V7).2.2 L):((Zy ms q).getD V7).2.1≤l.length:=by
 have h1:=hO.1
 rw [h q,ZU QZ] at h1
 have h2:=X3 (l:=l) (s:=q.1) (f:=q.2)
 omega
theorem zvy {I:Qu}{e:Nat}{ms:List ((Int×Int)×ziy)}{l:List Pt}{L:Go.Kn.Loc}(h:zgD ms l)(hA:Vj e 19 (ms.map (·.2)) L)(hI:∀ b o,(b,o)∈L→I b=some o)(q:Int×Int):
  ∃ av c,((Zy ms q).getD V7).1= .slice av (stF l q.1 q.2).length c∧Sl I 19 Yz av (stF l q.1 q.2).length c (stF l q.1 q.2):=by
 obtain ⟨A,Lt,B,rfl,hO,_⟩:=hA.at q
 rw [h q] at hO
 obtain ⟨av,c,e1,e2⟩:=hO.sl QZ (by decide) (fun b o hb=>hI b o (by simp [hb]))
 have hn:=e2.len
 rw [←hn] at e1 e2
 exact ⟨av,c,e1,e2⟩
/-! ### Signs that are known -/
def zcc (s:List (Int×Bool))(bs:List Sg)(l:List Pt):Prop:=∀ x,zaf s x=(WV bs x||zf5 l x)
theorem zjd {bs:List Sg}{k:Nat}{b:Sg}(hb:bs[k]? =some b)(x:Int):WV (bs.take (k+1)) x=(decide (b.id=x)||WV (bs.take k) x):=by
 unfold WV
 rw [Z3 hb,List.any_append,Bool.eq_iff_iff]
 simp [or_comm]
theorem zcH (l:List Pt)(p:Pt)(x:Int):zf5 (l++[p]) x=(zf5 l x||(p.kind==2&&p.sign==x)):=by
 unfold zf5
 rw [List.any_append];simp
theorem zcc.put {s:List (Int×Bool)}{bs:List Sg}{l:List Pt}{p:Pt}(h:zcc s bs l)(hk:p.kind=2):zcc (Ys s p.sign true) bs (l++[p]):=fun x=>by
 rw [UC,h x,zcH,hk,Bool.eq_iff_iff]
 simp only [Bool.or_eq_true,decide_eq_true_eq,Bool.and_eq_true,beq_iff_eq,true_and]
 constructor
 ·
  rintro (h | h | h)
  ·
   exact .inr (.inr h)
  ·
   exact .inl h
  ·
   exact .inr (.inl h)
 ·
  rintro (h | h | h)
  ·
   exact .inr (.inl h)
  ·
   exact .inr (.inr h)
  ·
   exact .inl h
theorem zcc.skip {s:List (Int×Bool)}{bs:List Sg}{l:List Pt}{p:Pt}(h:zcc s bs l)(hk:p.kind≠2):zcc s bs (l++[p]):=fun x=>by
 rw [h x,zcH,show (p.kind==2)=false by simpa using hk,Bool.false_and,Bool.or_false]
theorem zgd {s:List (Int×Bool)}{bs:List Sg}{n:Nat}(h:∀ x,zaf s x=WV (bs.take n) x)(hn:bs.length≤n):zcc s bs []:=fun x=>by
 rw [h x,List.take_of_length_le hn];simp [zf5]
theorem zrH {ps:List Pt}(hL:Lst ps){k:Nat}{p q:Pt}(hp:ps[k]? =some p)(hq:q∈ps)(h:q.id<p.id):q∈ps.take k:=by
 obtain ⟨j,hj⟩:=List.getElem?_of_mem hq
 obtain ⟨hj1,hj2⟩:=List.getElem?_eq_some_iff.1 hj
 obtain ⟨hk1,hk2⟩:=List.getElem?_eq_some_iff.1 hp
 rw [List.mem_take_iff_getElem]
 refine ⟨j,?_,hj2⟩
 have hjk:j<k:=by
  rcases Nat.lt_or_ge j k with h3 | h3
  ·
   exact h3
  ·
   exfalso
   by_cases e:k=j
   ·
    subst e;rw [hp] at hj;cases hj;omega
   ·
    have:=List.pairwise_iff_getElem.1 hL.inc k j hk1 hj1 (by omega)
    rw [hj2,hk2] at this;omega
 omega
theorem zbR {l:List Pt}{s:Int}:zf5 l s=true↔ ∃ q∈l,q.kind=2∧q.sign=s:=by
 unfold zf5
 rw [List.any_eq_true];simp
theorem zez {ps:List Pt}{ws:List Int}{bs:List Sg}{k:Nat}{p:Pt}{kn:Bool}(hS:Sto ps)(hp:ps[k]? =some p)(_hin:(ws.any fun x=>x==p.id)=true)(hkn:kn=(WV bs p.sign||zf5 (Yb (ps.take k) ws) p.sign)):
  (kn==(p.kind==2))= !zrQ bs (Yb ps ws) p:=by
 subst hkn
 have hpm:=List.mem_of_getElem? hp
 unfold zrQ
 by_cases hk:p.kind=2
 ·
  have h1:zf5 (Yb (ps.take k) ws) p.sign=false:=by
   rw [Bool.eq_false_iff]
   intro hc
   obtain ⟨q,hq,hq2,hqs⟩:=zbR.1 hc
   obtain ⟨hq1,_⟩:=Yu.1 hq
   have hlt:=hS.lst.fresh hp q hq1
   rcases hS.ins hpm (List.mem_of_mem_take hq1) hqs.symm hq2 with rfl | ⟨h,_⟩
   ·
    omega
   ·
    exact h hk
  rw [h1,hk];simp
 ·
  have h1:zf5 (Yb (ps.take k) ws) p.sign=zf5 (Yb ps ws) p.sign:=by
   rw [Bool.eq_iff_iff,zbR,zbR]
   constructor
   ·
    rintro ⟨q,hq,h⟩
    obtain ⟨hq1,hq2⟩:=Yu.1 hq
    exact ⟨q,Yu.2 ⟨List.mem_of_mem_take hq1,hq2⟩,h⟩
   ·
    rintro ⟨q,hq,h2,hs⟩
    obtain ⟨hq1,hq2⟩:=Yu.1 hq
    rcases hS.ins hpm hq1 hs.symm h2 with rfl | ⟨_,h⟩
    ·
     exact absurd h2 hk
    ·
     exact ⟨q,Yu.2 ⟨zrH hS.lst hp hq1 (hS.lst.on_lt h).1,hq2⟩,h2,hs⟩
  rw [h1,show (p.kind==2)=false by simpa using hk]
  have:(p.kind != 2)=true:=by simpa using hk
  rw [this]
  cases WV bs p.sign<;>cases zf5 (Yb ps ws) p.sign<;>rfl
/-! ### Signs that are inserted -/
def za4 (l:List Pt):List Sg:=(l.filter fun p=>p.kind==2).map (·.nw)
theorem zlc {l:List Pt}{p:Pt}(h:p.kind=2):za4 (l++[p])=za4 l++[p.nw]:=by
 unfold za4;rw [List.filter_append];simp [h]
theorem za3 {l:List Pt}{p:Pt}(h:p.kind≠2):za4 (l++[p])=za4 l:=by
 unfold za4;rw [List.filter_append];simp [h]
theorem zmz (xs:List Sg)(k:Sg):(zde xs k).Perm (k::xs):=by
 unfold zde
 refine List.perm_middle.trans (List.Perm.cons _ ?_)
 rw [List.takeWhile_append_dropWhile]
theorem zbX:∀ (l:List Pt) (bs:List Sg),(Uq bs l).Perm (bs++za4 l)
 | [],bs=>by unfold Uq za4;simp
 | p::l,bs=>by
  have h:=zbX l (if p.kind=2 then zde bs p.nw else bs)
  have e:Uq bs (p::l)=Uq (if p.kind=2 then zde bs p.nw else bs) l:=rfl
  rw [e]
  refine h.trans ?_
  by_cases hk:p.kind=2
  ·
   rw [if_pos hk]
   have e2:za4 (p::l)=p.nw::za4 l:=by unfold za4;simp [hk]
   rw [e2]
   exact ((zmz bs p.nw).append_right _).trans List.perm_middle.symm
  ·
   rw [if_neg hk]
   have e2:za4 (p::l)=za4 l:=by unfold za4;simp [hk]
   rw [e2]
theorem ziQ {xs ys:List Sg}(h1:Srt xs)(h2:Srt ys)(hp:∀ a,a∈xs↔a∈ys):xs=ys:=by
 have key:∀ {xs ys:List Sg},Srt ys→(∀ a∈xs,a∈ys)→∀ s x,Yr xs s=some x→Yr ys s=some x:=fun h hm s x hx=>by
  have:=zjh h (hm x (zeK hx))
  rw [zpZ hx] at this
  exact this
 refine zq7 h1 h2 fun s=>?_
 cases hx:Yr xs s with
 | some x=>exact (key h2 (fun a ha=>(hp a).1 ha) s x hx).symm
 | none=>
  cases hy:Yr ys s with
  | none=>rfl
  | some y=>rw [key h1 (fun a ha=>(hp a).2 ha) s y hy] at hx;cases hx
theorem zkF {bs zs:List Sg}{l:List Pt}(hb:Srt bs)(hS:Sto l)(hf:zgB bs l=true)(hp:zs.Perm (bs++za4 l))(hs:zs.Pairwise (fun x y=>Go.Proofs.ltOf znR y x=false)):zs=Uq bs l:=by
 have h1:=(zfc hb hS hf).1
 have hp2:=zbX l bs
 have hnd:((Uq bs l).map (·.id)).Nodup:=by
  rw [List.nodup_iff_pairwise_ne,List.pairwise_map]
  exact List.Pairwise.imp (fun {a b} h=>by omega) h1
 have hnd2:((bs++za4 l).map (·.id)).Nodup:=(hp2.map (·.id)).nodup_iff.1 hnd
 exact ziQ (zl8 hp hs hnd2) h1 fun a=>(hp.trans hp2.symm).mem_iff
/-! ### The state -/
def zvJ (I:Qu)(r:Nat)(l:List Pt):Prop:=∃ ms:List ((Int×Int)×ziy),I r=some (ZR Ya WI ms)∧∀ q:Int×Int,∃ av c,((Zy ms q).getD V7).1= .slice av (stF l q.1 q.2).length c∧Sl I 19 Yz av (stF l q.1 q.2).length c (stF l q.1 q.2)
theorem zvJ.mono {I I':Qu}{r:Nat}{l:List Pt}(h:zvJ I r l)(hI:HLe I I'):zvJ I' r l:=by
 obtain ⟨ms,h1,h2⟩:=h
 exact ⟨ms,hI _ _ h1,fun q=>by obtain ⟨av,c,h3,h4⟩:=h2 q;exact ⟨av,c,h3,h4.mono hI⟩⟩
def zvQ (I:Qu)(r:Nat)(l:List Pt):Prop:=∃ mr:List (Int×ziy),I r=some (ZR (Value.int .i64) WI mr)∧∀ s,∃ av c,((Zy mr s).getD V7).1= .slice av (rmF l s).length c∧Sl I 1 QR av (rmF l s).length c (rmF l s)
theorem zvQ.mono {I I':Qu}{r:Nat}{l:List Pt}(h:zvQ I r l)(hI:HLe I I'):zvQ I' r l:=by
 obtain ⟨mr,h1,h2⟩:=h
 exact ⟨mr,hI _ _ h1,fun s=>by obtain ⟨av,c,h3,h4⟩:=h2 s;exact ⟨av,c,h3,h4.mono hI⟩⟩
structure StQ (I:Qu)(ps l:List Pt)(xs:List Sg)(r1 r2 r3:Nat)(av:Option Addr)(n c:Nat):Prop where
 on:OnM I r1 ps
 set:zvJ I r2 l
 rem:zvQ I r3 l
 sg:Sl I 14 Y2 av n c xs
 sub:∀ p∈l,p∈ps
 nd:∀ p∈ps,Nd I p
 lst:Lst ps
 few:ps.length≤512
 fewl:l.length≤512
theorem StQ.mono {I I':Qu}{ps l:List Pt}{xs:List Sg}{r1 r2 r3:Nat}{av:Option Addr}{n c:Nat}(h:StQ I ps l xs r1 r2 r3 av n c)(hI:HLe I I'):StQ I' ps l xs r1 r2 r3 av n c:=
 ⟨h.on.mono hI,h.set.mono hI,h.rem.mono hI,h.sg.mono hI,h.sub,fun p hp=>(h.nd p hp).mono hI,h.lst,h.few,h.fewl⟩
def stA (r1 r2 r3:Nat)(av:Option Addr)(n c:Nat):Value:=.agg #[.map (some r1),.map (some r2),.map (some r3),.slice av n c]
def RdQ (e:Int)(ps l:List Pt)(xs:List Sg):Value→Qu→Go.Kn.Loc→Prop:=fun v I' L=>L=[]∧∃ m1 m2 m3 av n c,v= .tuple #[.agg #[.map m1,.map m2,.map m3,.slice av n c],.int .i64 e]∧(e=0→∃ r1 r2 r3,m1=some r1∧m2=some r2∧m3=some r3∧StQ I' ps l xs r1 r2 r3 av n c)
theorem zpW {ps:List Pt}{bs:List Sg}{ws:List Int}(h:KV ps≠0):XT ps bs ws=KV ps:=by unfold XT;rw [if_pos h]
theorem zrb {ps:List Pt}{bs:List Sg}{ws:List Int}(h:KV ps=0)(h2:WA bs≠0):XT ps bs ws=WA bs:=by unfold XT;rw [if_neg (by omega),if_pos h2]
theorem zt4 {ps:List Pt}{bs:List Sg}{ws:List Int}(h:KV ps=0)(h2:WA bs=0)(h3:vrE ps ws≠0):XT ps bs ws=vrE ps ws:=by
 unfold XT;rw [if_neg (by omega),if_neg (by omega)]
 unfold vrE at*
 split
 ·
  rfl
 ·
  rename_i h4
  rw [if_neg h4] at h3
  cases hv:zkm ps ws with
  | true=>rw [hv] at h3;exact absurd rfl h3
  | false=>rfl
theorem zng {ps:List Pt}{ws:List Int}(h:vrE ps ws=0):¬ws.length>512:=fun h2=>by unfold vrE at h;rw [if_pos h2] at h;cases h
theorem zvk {ps:List Pt}{bs:List Sg}{ws:List Int}(h:KV ps=0)(h2:WA bs=0)(h3:vrE ps ws=0)(h4:zgB bs (Yb ps ws)=false):XT ps bs ws=380:=by
 unfold XT;rw [if_neg (by omega),if_neg (by omega),if_neg (zng h3),h4,Bool.and_false];rfl
theorem zwA {ps:List Pt}{bs:List Sg}{ws:List Int}(h:KV ps=0)(h2:WA bs=0)(h3:vrE ps ws=0)(h4:zgB bs (Yb ps ws)=true):XT ps bs ws=0:=by
 unfold XT;rw [if_neg (by omega),if_neg (by omega),if_neg (zng h3),h4,zmO h3];rfl
theorem zoF {ps:List Pt}{bs:List Sg}{ws:List Int}{p:Pt}(hp:p∈ps)(hin:(ws.any fun x=>x==p.id)=true)(h:zrQ bs (Yb ps ws) p=false):zgB bs (Yb ps ws)=false:=by
 unfold zgB
 exact List.all_eq_false.2 ⟨p,List.mem_filter.2 ⟨hp,hin⟩,by rw [h];exact Bool.false_ne_true⟩
theorem zuK {x a b c:Nat×Obj}{Lg Ls Lr:Go.Kn.Loc}:(x::(Lg++(a::b::c::(Ls++Lr)))).Perm (Lg++(x::a::b::c::(Ls++Lr))):=List.perm_middle.symm
theorem zue {x a b c:Nat×Obj}{Lg A L B Lr:Go.Kn.Loc}:(x::(Lg++(a::b::c::((A++(L++B))++Lr)))).Perm (L++(x::(Lg++(a::b::c::(A++(B++Lr)))))):=by
 have h1:((A++(L++B))++Lr).Perm (L++(A++(B++Lr))):=by
  rw [List.append_assoc,List.append_assoc];exact List.perm_append_comm_assoc A L _
 have h2:(x::(Lg++(a::b::c::((A++(L++B))++Lr)))).Perm (x::(Lg++(a::b::c::(L++(A++(B++Lr)))))):=((h1.cons c |>.cons b |>.cons a).append_left Lg).cons x
 refine h2.trans ?_
 have h3:(a::b::c::(L++(A++(B++Lr)))).Perm (L++(a::b::c::(A++(B++Lr)))):=List.perm_append_comm_assoc [a,b,c] L _
 refine ((h3.append_left Lg).cons x).trans ?_
 exact List.perm_append_comm_assoc (x::Lg) L _
theorem zmN {x a b c:Nat×Obj}{Lg A L B Ls:Go.Kn.Loc}:(x::(Lg++(a::b::c::(Ls++(A++(L++B)))))).Perm (L++(x::(Lg++(a::b::c::(Ls++(A++B)))))):=by
 have h1:(Ls++(A++(L++B))).Perm (L++(Ls++(A++B))):=by
  refine ((List.perm_append_comm_assoc A L B).append_left Ls).trans (List.perm_append_comm_assoc Ls L _)
 have h2:=((h1.cons c |>.cons b |>.cons a).append_left Lg).cons x
 refine h2.trans ?_
 have h3:(a::b::c::(L++(Ls++(A++B)))).Perm (L++(a::b::c::(Ls++(A++B)))):=List.perm_append_comm_assoc [a,b,c] L _
 refine ((h3.append_left Lg).cons x).trans ?_
 exact List.perm_append_comm_assoc (x::Lg) L _
end
section
open Go Go.Kn Go.Proofs
theorem zs6 {I:Qu}{av:Option Addr}{n c:Nat}{ps:List Pt}(hP:SlP I av n c ps)(hn:n≤100000){bv:Option Addr}{n2 c2:Nat}{bs:List Sg}(hB:Sl I 14 Y2 bv n2 c2 bs)(hn2:n2≤100000){dv:Option Addr}{n3 c3:Nat}{ws:List Int}(hV:Sl I 1 QR dv n3 c3 ws)(hn3:n3≤100000):Yg Tryz.prog 83 [.slice av n c,.slice bv n2 c2,.slice dv n3 c3] I [] (RdQ (XT ps bs ws) ps (Yb ps ws) (Uq bs (Yb ps ws))):=by
 intro g H w hw
 refine qe Tryz.func83 Tryz.ntmps83 hw ?_
 have hIc:=zye I
 refine zR ?_
 refine Qr znJ rfl rfl (fun b_6=>?_)
 refine zA (zN (Ql (zR ?_)))
 refine zM ?_
 refine qc (vs:=[_]) rfl zsw (zu5 hP hn) ?_
 refine zA ?_
 refine zN (zR ?_)
 refine zM ?_
 refine zC (zN ?_)
 refine zI ?_ ?_<;>intro hc19
 ·
  have hck:KV ps≠0:=by simpa using hc19
  refine zR ?_
  refine zV (Qp rfl Y4 (fun hg=>by exact Cells.g0) rfl) ?_
  refine zM ?_
  refine zh Uf ?_
  refine zA (zN (Qt (Qc ?_)))
  first
  | exact Zs rfl rfl rfl Y4 (by repeat (first | exact zyc | apply zyb | apply zyd)) rfl (fun w hw=>⟨_,I,[],rfl,hIc,hw.drop,rfl,_,_,_,_,_,_,by rw [zpW hck],fun h0=>absurd h0 (by rw [zpW hck];exact hck)⟩)
 have hck:KV ps=0:=by simpa using hc19
 have hn5:n≤512:=by have:=(Ui hck).1;rw [hP.len] at this;omega
 have hL:=zaK hck
 have hnd:=zu4 hP hck
 have hSto:=zbj hck
 refine Qo (Qa (Ql (zR (zM ?_))))
 refine qc (vs:=[_]) rfl zd3 (zfR hB hn2) ?_
 refine zA ?_
 refine zN (zR ?_)
 refine zM ?_
 refine zC (zN ?_)
 refine zI ?_ ?_<;>intro hc25
 ·
  have hcg:WA bs≠0:=by simpa using hc25
  refine zR ?_
  refine zV (Qp rfl Y4 (fun hg=>by exact Cells.g0) rfl) ?_
  refine zM ?_
  refine zh Uf ?_
  refine zA (zN (Qt (Qc ?_)))
  first
  | exact Zs rfl rfl rfl Y4 (by repeat (first | exact zyc | apply zyb | apply zyd)) rfl (fun w hw=>⟨_,I,[],rfl,hIc,hw.drop,rfl,_,_,_,_,_,_,by rw [zrb hck hcg],fun h0=>absurd h0 (by rw [zrb hck hcg];exact hcg)⟩)
 have hcg:WA bs=0:=by simpa using hc25
 refine Qo (Qa (Ql (zR (zM ?_))))
 refine zM ?_
 refine qc (vs:=[_,_]) rfl ztd (ziD hP hn5 hL hnd hV hn3) ?_
 refine zA ?_
 refine zN (zR ?_)
 refine zM ?_
 refine zC (zN ?_)
 refine zI ?_ ?_<;>intro hc32
 ·
  have hcv:vrE ps ws≠0:=by simpa using hc32
  refine zR ?_
  refine zV (Qp rfl Y4 (fun hg=>by exact Cells.g0) rfl) ?_
  refine zM ?_
  refine zh Uf ?_
  refine zA (zN (Qt (Qc ?_)))
  first
  | exact Zs rfl rfl rfl Y4 (by repeat (first | exact zyc | apply zyb | apply zyd)) rfl (fun w hw=>⟨_,I,[],rfl,hIc,hw.drop,rfl,_,_,_,_,_,_,by rw [zt4 hck hcg hcv],fun h0=>absurd h0 (by rw [zt4 hck hcg hcv];exact hcv)⟩)
 have hcv:vrE ps ws=0:=by simpa using hc32
 have hVer:=(zfO hL).1 (zmO hcv)
 refine Qo (Qa (zR (zM ?_)))
 refine Qz (cap:=[]) (vs:=[_]) rfl rfl zgH .nil (zaW hP hn hL hnd) rfl rfl ?_
 rintro vv1 I1 L1 hI1 ⟨rfl,r9,rfl,hOn⟩
 have hP:=hP.mono hI1;have hB:=hB.mono hI1;have hV:=hV.mono hI1;have hIc:=hIc.trans hI1
 refine ZD rfl rfl (fun r_37=>?_)
 refine ZD rfl rfl (fun r_38=>?_)
 refine zM ?_
 refine Qz (cap:=[]) (vs:=[_]) rfl rfl zpJ .nil (zmn hB (by omega)) rfl rfl ?_
 rintro vv2 I2 L2 hI2 ⟨rfl,hO⟩
 have hP:=hP.mono hI2;have hB:=hB.mono hI2;have hV:=hV.mono hI2;have hOn:=hOn.mono hI2;have hIc:=hIc.trans hI2
 obtain ⟨Lg,hLg⟩:∃ Lg,Lg=L2:=⟨_,rfl⟩
 subst hLg
 obtain ⟨vg,hvg⟩:∃ z,z=vv2:=⟨_,rfl⟩
 subst hvg
 obtain ⟨va,vn,vc,rfl⟩:=hO.val
 refine zV (QS (ps:=[(0,_),(1,_),(2,_),(3,_)]) [_,_,_,_] zp3 rfl rfl) ?_
 refine YO rfl rfl Uf rfl rfl rfl rfl (by (repeat (first | exact Upd.here | apply Upd.there | apply QJ))) ?_
 refine zN (zR ?_)
 refine ZD rfl rfl (fun r_42=>?_)
 refine zA (zN (Ql (zR ?_)))
 refine zM ?_
 refine zQ YZ ?_
 refine zM (zN (Qm ?_))
 refine zU [(0,_),(2,_),(6,_),(8,_),(43,_),(44,_)] (fun T L0 mz E I' loc'=>∃ (k:Nat) (s:List (Int×Bool)),mz=n2-k∧E=(45,.int .i64 k)::T∧I2=I'∧(r_42,ZR (Value.int .i64) Value.bool s)::(Lg++[(r_38,ZR (Value.int .i64) WI []),(r_37,ZR Ya WI []),(b_6,.cells #[.map (some r9),.map (some r_37),.map (some r_38),.slice va vn vc] 159 (0,0))])=loc'∧k≤n2∧∀ x,zaf s x=WV (bs.take k) x) ?_ (h:=⟨0,[],rfl,rfl,rfl,rfl,Nat.zero_le _,fun x=>rfl⟩)
 rintro mz E I' loc' ⟨k,s,rfl,rfl,rfl,rfl,hk,hs⟩
 refine zR (zC (zN (Ql ?_)))
 refine zI ?_ ?_<;>intro hc46
 ·
  have hlt_k:k<n2:=by have h:=hc46;simp at h;omega
  obtain ⟨b,hb⟩:=hB.at hlt_k
  refine Qo (Qa (Ql (Qm (zR ?_))))
  refine zV (QF rfl rfl YZ (by assumption) (fun hg=>by omega)) ?_
  refine zV (Qp rfl ZL (fun hg=>by exact zyf hB hb) rfl) ?_
  refine Qr WX rfl rfl (fun b_10=>?_)
  refine zh Vx ?_
  refine zN (Qg (zM ?_))
  refine zF ZN ?_
  refine zL Qs ?_
  refine Q4 (m:=s) (ek:=Value.int .i64) (ev:=Value.bool) (a:=b.id) true Vs ZE rfl rfl rfl rfl (by repeat (first | exact Upd.here | apply Upd.there | apply QJ)) ?_
  refine Qb (Qh (Qa (Qg (zB ?_))))
  refine zM (Qb ?_)
  exact zm (h:=⟨n2-(k+1),by omega,k+1,_,rfl,rfl,rfl,rfl,by omega,fun x=>by rw [UC,hs,zjd hb]⟩)
 have hge_k:n2≤k:=by have h:=hc46;simp at h;omega
 have hkn:=zgd hs (by rw [hB.len];exact hge_k)
 refine QI (Qf (Qf (Qk (Qa (Ql (zR (zM ?_)))))))
 refine zQ Zz ?_
 refine zM (zN (Qm ?_))
 refine zU [(2,_),(6,_),(8,_),(53,_),(54,_)] (fun T L0 mz E I' loc'=>∃ (k:Nat) (s:List (Int×Bool)) (vg:Value) (q:Nat) (Lg:Go.Kn.Loc) (ms:List ((Int×Int)×ziy)) (Ls:Go.Kn.Loc) (mr:List (Int×ziy)) (Lr:Go.Kn.Loc),mz=n-k∧E=(55,.int .i64 k)::T∧I2=I'∧(r_42,ZR (Value.int .i64) Value.bool s)::(Lg++((r_38,ZR (Value.int .i64) WI mr)::(r_37,ZR Ya WI ms)::(b_6,.cells #[.map (some r9),.map (some r_37),.map (some r_38),vg] 159 (0,0))::(Ls++Lr)))=loc'∧k≤n∧zcc s bs (Yb (ps.take k) ws)∧OwnS 54 14 vg q ((bs++za4 (Yb (ps.take k) ws)).flatMap Y2) Lg∧q≤n2+k∧zgD ms (Yb (ps.take k) ws)∧Vj 57 19 (ms.map (·.2)) Ls∧WH mr (Yb (ps.take k) ws)∧Vj 3 1 (mr.map (·.2)) Lr∧(Yb (ps.take k) ws).all (zrQ bs (Yb ps ws))=true) ?_ (h:=⟨0,s,_,n2,Lg,[],[],[],[],rfl,rfl,rfl,rfl,Nat.zero_le _,hkn,by rw [show bs++za4 (Yb (ps.take 0) ws)=bs from List.append_nil _];exact hO,Nat.le_refl _,zgD.start,Vj.nil,WH.start,Vj.nil,rfl⟩)
 rintro mz E I' loc' ⟨k,s,vg,q,Lg,ms,Ls,mr,Lr,rfl,rfl,rfl,rfl,hk,hkn,hO,hq,hsm,hAllS,hrm,hAllR,hfit⟩
 obtain ⟨va,vn,vc,rfl⟩:=hO.val
 refine zR (zC (zN (Ql ?_)))
 refine zI ?_ ?_<;>intro hc56
 ·
  have hlt_k:k<n:=by have h:=hc56;simp at h;omega
  have hP1:=hP.1
  obtain ⟨p,hp,hN⟩:=hP.at hlt_k
  have hpm:=List.mem_of_getElem? hp
  have hN:Sl I2 1 QR p.a p.n p.c p.needs:=hN
  have hpn:=hnd p hpm
  refine Qo (Qa (Ql (Qm (zR ?_))))
  refine zV (QF rfl rfl Zz (by assumption) (fun hg=>by omega)) ?_
  refine zV (Qp rfl Yw (fun hg=>by exact zyf hP1 hp) rfl) ?_
  refine Qr K2 rfl rfl (fun b_12=>?_)
  refine zh VN ?_
  refine zN (Ql (zR (zM ?_)))
  refine zF Zt ?_
  refine zL Qs ?_
  refine qc (vs:=[_,_]) rfl zoR (zw3 hV hn3 hVer.inc _) ?_
  refine zM ?_
  refine zE ?_
  refine zE ?_
  refine zA ?_
  refine zA ?_
  refine zN (zR ?_)
  refine zM ?_
  refine zO (zN ?_)
  refine zI ?_ ?_<;>intro hc67
  ·
   have hin:(ws.any fun x=>x==p.id)=false:=(Bool.not_eq_true' _).mp hc67
   have hT:=zpo hp hin
   refine QI (Qf (Qk (Qa (Qg (zB ?_)))))
   refine zM (Qb ?_)
   first
   | exact zm (h:=⟨n-(k+1),by omega,k+1,_,_,_,_,_,_,_,_,rfl,rfl,rfl,rfl,by omega,by rw [hT];exact hkn,by rw [hT];exact hO,by omega,by rw [hT];exact hsm,hAllS,by rw [hT];exact hrm,hAllR,by rw [hT];exact hfit⟩)
  have hin:(ws.any fun x=>x==p.id)=true:=(Bool.not_eq_false' _).mp hc67
  have hT:=zkG hp hin
  refine Qo (Qa (Ql (zR (zM ?_))))
  refine zF Z8 ?_
  refine zL Qs ?_
  refine zV (Ye (m:=s) Vs ZE rfl rfl (fun _=>(by exact Mem.m1))) ?_
  refine zF Jw ?_
  refine zL Qs ?_
  refine zC ?_
  refine zV (zlx rfl rfl zrB) ?_
  refine zN ?_
  refine zI ?_ ?_<;>intro hc75
  ·
   have h75:(zaf s p.sign==(p.kind==2))=true:=hc75
   rw [zez hSto hp hin (hkn p.sign)] at h75
   have hfp:=(Bool.not_eq_true' _).mp h75
   have hfb:=zoF hpm hin hfp
   refine zR ?_
   refine zV (Qp rfl Y4 (fun hg=>by (repeat (first | exact zyc | apply zyb | apply zyd))) rfl) ?_
   refine YO rfl rfl Uf rfl rfl rfl rfl (by (repeat (first | exact Upd.here | apply Upd.there | apply QJ))) ?_
   refine zA (zN (Qt (Qc (Qn (Qc (Qc (Qn ?_)))))))
   refine Qc ?_
   first
   | exact Zs rfl rfl rfl Y4 (by repeat (first | exact zyc | apply zyb | apply zyd)) rfl (fun w hw=>⟨_,I2,[],rfl,hIc,hw.drop,rfl,_,_,_,_,_,_,by rw [zvk hck hcg hcv hfb],fun h0=>absurd h0 (by rw [zvk hck hcg hcv hfb];exact (by decide))⟩)
  have h75:(zaf s p.sign==(p.kind==2))=false:=hc75
  rw [zez hSto hp hin (hkn p.sign)] at h75
  have hfp:=(Bool.not_eq_false' _).mp h75
  refine Qo (Qa (zR ?_))
  refine zF Jw ?_
  refine zL Qs ?_
  refine zN (Qm (zR (zC ?_)))
  refine zA (zN ?_)
  refine zI ?_ ?_<;>intro hc79
  ·
   have hk2:p.kind=2:=by simpa using hc79
   refine zR (zM ?_)
   refine zF Z8 ?_
   refine zL Qs ?_
   refine Q4 (m:=s) (ek:=Value.int .i64) (ev:=Value.bool) (a:=p.sign) true Vs ZE rfl rfl rfl rfl (by repeat (first | exact Upd.here | apply Upd.there | apply QJ)) ?_
   refine zN (Qg ?_)
   refine zF U1 ?_
   refine zV (Qd rfl zcQ (fun hg=>by (repeat (first | exact zx9 rfl | apply zx8 | apply zya)))) ?_
   refine zF VS ?_
   refine zV (Qp rfl ZL (fun hg=>by exact Cells.s0 (vs:=[_,_,_,_,_,_,_,_,_,_,_,_,_,_]) rfl) rfl) ?_
   refine Qq (ps:=[(0,_)]) (m:=[Y2 p.nw]) K7 rfl (.cons rfl (.nil)) rfl (by simp [Z5]) (by decide) (by decide) rfl rfl (fun b_88=>?_)
   refine QY (v:=_) (ys:=[p.nw].flatMap Y2) (L:=Lg) rfl rfl K7 hO (by repeat (first | exact .cons .here .nil | exact QD | exact Qw | apply QC | apply QB)) ⟨rfl,fun _=>rfl,zyc⟩ (zmq [p.nw]) (by omega) rfl rfl ?_
   intro v9 L9 hO9 _;rw [←List.flatMap_append] at hO9;obtain ⟨va9,vn9,vc9,rfl⟩:=hO9.val
   refine zF U1 ?_
   refine ZI rfl rfl zmB rfl rfl (by (repeat (first | exact Upd.here | apply Upd.there | apply QJ))) rfl ?_
   refine Qb (Qh (Qh (Qa (Qg (zB ?_)))))
   refine zM (Qb ?_)
   first
   | exact Ji _ _ (L9++((r_42,_)::(r_38,_)::(r_37,_)::(b_6,_)::(Ls++Lr))) ⟨n-(k+1),by omega,k+1,_,_,_,L9,ms,Ls,mr,Lr,rfl,rfl,rfl,rfl,by omega,by rw [hT];exact hkn.put hk2,by rw [hT,zlc hk2,←List.append_assoc];exact hO9,by omega,by rw [hT];exact hsm.skip (by omega),hAllS,by rw [hT];exact hrm.skip' (by omega),hAllR,by rw [hT,List.all_append,hfit];simp [hfp]⟩ (.cons rfl (.cons rfl (.cons rfl (.cons rfl (.cons rfl (.cons rfl .nil)))))) zuK (by repeat (first | exact .refl | exact Zg | refine Ym ?_ | refine .drop ?_ | refine Z4 ?_))
  have hk2n:p.kind≠2:=by simpa using hc79
  refine zR (zC ?_)
  refine zA (zN ?_)
  refine zI ?_ ?_<;>intro hc91
  ·
   have hk1:p.kind=1:=by simpa using hc91
   refine zR ?_
   refine zF Z8 ?_
   refine zL Qs ?_
   refine zF VU ?_
   refine zL Qs ?_
   refine zV (Zp (ps:=[(0,_),(1,_)]) [_,_] Yc JJ rfl rfl) ?_
   refine Qr JJ rfl rfl (fun b_15=>?_)
   refine zh zer ?_
   refine zN ?_
   obtain ⟨A,Lt,B,hLs,hOt,hset⟩:=hAllS.at (p.sign,p.field)
   subst hLs
   rw [List.append_assoc A,List.append_assoc Lt]
   have hq0:=ztA hsm hOt
   have hq2:(Yb (ps.take k) ws).length≤k:=Nat.le_trans (List.length_filter_le ..) (List.length_take_le k ps)
   refine Qg ?_
   refine zF XR ?_
   refine zV (Qd rfl zec (fun hg=>by (repeat (first | exact zx9 rfl | apply zx8 | apply zya)))) ?_
   refine zV (Qp rfl WM (fun hg=>by exact Cells.g0) rfl) ?_
   refine zV (Qp rfl Yw (fun hg=>by exact Cells.g1) rfl) ?_
   refine Qq (ps:=[(0,_)]) (m:=[Yz p]) US rfl (.cons rfl (.nil)) rfl (by simp [QZ]) (by decide) (by decide) rfl rfl (fun b_103=>?_)
   refine zdm (m:=ms) (ek:=Ya) (ev:=WI) (a:=(p.sign,p.field)) V7 rfl zdP Uv rfl rfl rfl rfl (by (repeat (first | exact Upd.here | apply Upd.there | apply QJ))) ?_
   refine zE ?_
   refine QY (v:=_) (ys:=[p].flatMap Yz) (L:=Lt) rfl rfl US hOt (by repeat (first | exact .cons .here .nil | exact QD | exact Qw | apply QC | apply QB)) ⟨rfl,fun _=>rfl,zyc⟩ (zks [p]) (by omega) rfl rfl ?_
   intro v9 L9 hO9 _
   refine zE ?_
   refine za2 (ek:=Ya) (ev:=WI) (m:=Ys ms (p.sign,p.field) ((Zy ms (p.sign,p.field)).getD V7)) (a:=(p.sign,p.field)) (v9,((Zy ms (p.sign,p.field)).getD V7).2.1+1,((Zy ms (p.sign,p.field)).getD V7).2.2++[p].flatMap Yz) ((Zy ms (p.sign,p.field)).getD V7) (by rw [YE,if_pos rfl]) rfl (by rw [zi8];exact rfl) rfl rfl (by repeat (first | exact Upd.here | apply Upd.there | apply QJ)) ?_
   rw [zcG]
   refine Qb (Qh (Qh (Qa (Qg (zB ?_)))))
   refine zM (Qb ?_)
   first
   | exact Ji _ _ (L9++((r_42,_)::(Lg++((r_38,_)::(r_37,_)::(b_6,_)::(A++(B++Lr)))))) ⟨n-(k+1),by omega,k+1,s,_,q,Lg,_,A++(L9++B),mr,Lr,rfl,rfl,rfl,rfl,by omega,by rw [hT];exact hkn.skip (by omega),by rw [hT,za3 (by omega)];exact hO,by omega,by rw [hT];exact hsm.put hk1,hset (v9,_,_) L9 hO9,by rw [hT];exact hrm.skip' (by omega),hAllR,by rw [hT,List.all_append,hfit];simp [hfp]⟩ (.cons rfl (.cons rfl (.cons rfl (.cons rfl (.cons rfl (.cons rfl .nil)))))) zue (by repeat (first | exact .refl | exact Zg | refine Ym ?_ | refine .drop ?_ | refine Z4 ?_))
  have hk1n:p.kind≠1:=by simpa using hc91
  refine zR (zC ?_)
  refine zA (zN ?_)
  refine zI ?_ ?_<;>intro hc107
  ·
   have hk3:p.kind=3:=by simpa using hc107
   obtain ⟨A,Lt,B,hLr,hOt,hset⟩:=hAllR.at p.sign
   subst hLr
   have hq0:=zna hrm hOt
   have hq2:(Yb (ps.take k) ws).length≤k:=Nat.le_trans (List.length_filter_le ..) (List.length_take_le k ps)
   have hD:=zye I2
   refine Jo ?_
   refine Z7 I2 [(b_12,.cells (Yz p).toArray 57 (0,0)),(b_6,.cells #[.map (some r9),.map (some r_37),.map (some r_38),.slice va vn vc] 159 (0,0))] mixed ?_
   refine zT 0 rfl (Qe rfl UJ) hD ?_
   refine zT 1 rfl (Qd rfl zes (fun hg=>by exact QU.h1 rfl)) hD ?_
   refine zT 2 rfl (Qe rfl Z8) hD ?_
   refine zT 3 rfl (Qd rfl Qs (fun hg=>by exact QU.h0 rfl)) hD ?_
   refine zT 4 rfl (Qe rfl UJ) hD ?_
   refine zT 5 rfl (Qd rfl zes (fun hg=>by exact QU.h1 rfl)) hD ?_
   refine zT 6 rfl (Qe rfl Z8) hD ?_
   refine zT 7 rfl (Qd rfl Qs (fun hg=>by exact QU.h0 rfl)) hD ?_
   refine zT 9 rfl (Qe rfl Zt) hD ?_
   refine zT 10 rfl (Qd rfl Qs (fun hg=>by exact QU.h0 rfl)) hD ?_
   refine Zr 8 11 rfl rfl (by kernel_rfl) ?_ ?_
   ·
    refine zV (Vp (m:=mr) (ek:=Value.int .i64) (a:=p.sign) YY ZE rfl rfl (fun _=>.inr (by simp))) ?_
    refine Qb ?_
    refine zD hD ?_
    refine qd 11 rfl ?_
    refine Qq (ps:=[(0,_)]) (m:=[QR p.id]) Zi rfl (.cons rfl (.nil)) rfl (by simp [Qv]) (by decide) (by decide) rfl rfl (fun b_120=>?_)
    refine Qb ?_
    refine zD hD ?_
    refine qd 12 rfl ?_
    refine QY (v:=_) (ys:=[p.id].flatMap QR) (L:=Lt) rfl rfl Zi hOt (by repeat (first | exact .cons .here .nil | exact QD | exact Qw | apply QC | apply QB)) ⟨rfl,fun _=>rfl,zyc⟩ (JG [p.id]) (by omega) rfl rfl ?_
    intro v9 L9 hO9 _
    refine Qb ?_
    refine zD hD ?_
    refine qd 13 rfl ?_
    refine Q4 (m:=mr) (ek:=Value.int .i64) (ev:=WI) (a:=p.sign) (v9,((Zy mr p.sign).getD V7).2.1+1,((Zy mr p.sign).getD V7).2.2++[p.id].flatMap QR) YY ZE rfl rfl rfl rfl (by (repeat (first | exact Upd.here | apply Upd.there | apply QJ))) ?_
    refine Qb ?_
    refine zD hD ?_
    refine QG (by kernel_rfl) ?_
    refine QQ ?_
    refine Qh (Qh (Qa (Qg (zB ?_))))
    refine zM (Qb ?_)
    first
    | exact Ji _ _ (L9++((r_42,_)::(Lg++((r_38,_)::(r_37,_)::(b_6,_)::(Ls++(A++B)))))) ⟨n-(k+1),by omega,k+1,s,_,q,Lg,ms,Ls,_,A++(L9++B),rfl,rfl,rfl,rfl,by omega,by rw [hT];exact hkn.skip (by omega),by rw [hT,za3 (by omega)];exact hO,by omega,by rw [hT];exact hsm.skip (by omega),hAllS,by rw [hT];exact hrm.put' hk3,hset (v9,_,_) L9 hO9,by rw [hT,List.all_append,hfit];simp [hfp]⟩ (.cons rfl (.cons rfl (.cons rfl (.cons rfl (.cons rfl (.cons rfl .nil)))))) zmN (by repeat (first | exact .refl | exact Zg | refine Ym ?_ | refine .drop ?_ | refine Z4 ?_))
   refine Qq (ps:=[(0,_)]) (m:=[QR p.id]) Zi rfl (.cons rfl (.nil)) rfl (by simp [Qv]) (by decide) (by decide) rfl rfl (fun b_120=>?_)
   refine Qb ?_
   refine zD hD ?_
   refine qd 8 rfl ?_
   refine zV (Vp (m:=mr) (ek:=Value.int .i64) (a:=p.sign) YY ZE rfl rfl (fun _=>.inr (by simp))) ?_
   refine Qb ?_
   refine zD hD ?_
   refine qd 12 rfl ?_
   refine QY (v:=_) (ys:=[p.id].flatMap QR) (L:=Lt) rfl rfl Zi hOt (by repeat (first | exact .cons .here .nil | exact QD | exact Qw | apply QC | apply QB)) ⟨rfl,fun _=>rfl,zyc⟩ (JG [p.id]) (by omega) rfl rfl ?_
   intro v9 L9 hO9 _
   refine Qb ?_
   refine zD hD ?_
   refine qd 13 rfl ?_
   refine Q4 (m:=mr) (ek:=Value.int .i64) (ev:=WI) (a:=p.sign) (v9,((Zy mr p.sign).getD V7).2.1+1,((Zy mr p.sign).getD V7).2.2++[p.id].flatMap QR) YY ZE rfl rfl rfl rfl (by (repeat (first | exact Upd.here | apply Upd.there | apply QJ))) ?_
   refine Qb ?_
   refine zD hD ?_
   refine QG (by kernel_rfl) ?_
   refine QQ ?_
   refine Qh (Qh (Qa (Qg (zB ?_))))
   refine zM (Qb ?_)
   first
   | exact Ji _ _ (L9++((r_42,_)::(Lg++((r_38,_)::(r_37,_)::(b_6,_)::(Ls++(A++B)))))) ⟨n-(k+1),by omega,k+1,s,_,q,Lg,ms,Ls,_,A++(L9++B),rfl,rfl,rfl,rfl,by omega,by rw [hT];exact hkn.skip (by omega),by rw [hT,za3 (by omega)];exact hO,by omega,by rw [hT];exact hsm.skip (by omega),hAllS,by rw [hT];exact hrm.put' hk3,hset (v9,_,_) L9 hO9,by rw [hT,List.all_append,hfit];simp [hfp]⟩ (.cons rfl (.cons rfl (.cons rfl (.cons rfl (.cons rfl (.cons rfl .nil)))))) zmN (by repeat (first | exact .refl | exact Zg | refine Ym ?_ | refine .drop ?_ | refine Z4 ?_))
  have hk3n:p.kind≠3:=by simpa using hc107
  refine Qo (Qh (Qh (Qa (Qg (zB ?_)))))
  refine zM (Qb ?_)
  first
  | exact zm (h:=⟨n-(k+1),by omega,k+1,_,_,_,_,_,_,_,_,rfl,rfl,rfl,rfl,by omega,by rw [hT];exact hkn.skip hk2n,by rw [hT,za3 hk2n];exact hO,by omega,by rw [hT];exact hsm.skip hk1n,hAllS,by rw [hT];exact hrm.skip' hk3n,hAllR,by rw [hT,List.all_append,hfit];simp [hfp]⟩)
 have hge_k:n≤k:=by have h:=hc56;simp at h;omega
 have hTn:Yb (ps.take k) ws=Yb ps ws:=by rw [ZF hP.len hge_k]
 rw [hTn] at hkn hO hsm hrm hfit
 have hfitB:zgB bs (Yb ps ws)=true:=hfit
 refine QI (Qf (Qf (Qk (Qa (zR ?_)))))
 refine zF U1 ?_
 refine zV (Qd rfl zcQ (fun hg=>by (repeat (first | exact zx9 rfl | apply zx8 | apply zya)))) ?_
 refine Qz (cap:=[]) (vs:=[_,_]) rfl rfl zor (by repeat (first | exact .cons .here .nil | exact QD | exact Qw | apply QC | apply QB)) (zrv 54 _ hO (by omega) _) rfl rfl ?_
 rintro vv5 I5 L5 hI5 ⟨rfl,rfl,zs2,hperm,hsort,hO2⟩
 have hP:=hP.mono hI5;have hOn:=hOn.mono hI5;have hIc:=hIc.trans hI5
 refine Qb ?_
 have hz2:zs2=Uq bs (Yb ps ws):=zkF (zg9 (zem hcg).2) (zba hSto hVer) hfitB hperm hsort
 rw [hz2] at hO2
 refine Qa (zR ?_)
 refine zV (Qp rfl Y4 (fun hg=>by (repeat (first | exact zyc | apply zyb | apply zyd))) rfl) ?_
 refine YO rfl rfl Uf rfl rfl rfl rfl (by (repeat (first | exact Upd.here | apply Upd.there | apply QJ))) ?_
 refine zA (zN (Qt ?_))
 first
 | exact Zs rfl rfl rfl Y4 (by repeat (first | exact zyc | apply zyb | apply zyd)) rfl (fun w hw=>by obtain ⟨I9,h91,h92,h93⟩:=hw.freezeAll;obtain ⟨av9,c9,hv9,hS9⟩:=hO2.sl Z5 (by decide) (fun b o hb=>h93 b o (by simp [hb]));cases hv9;exact ⟨_,I9,[],rfl,hIc.trans h91,h92,rfl,_,_,_,_,_,_,by rw [zwA hck hcg hcv hfitB],fun _=>⟨_,_,_,rfl,rfl,rfl,⟨hOn.mono h91,⟨ms,h93 r_37 _ (by simp),zvy hsm hAllS (fun b o hb=>h93 b o (by simp [hb]))⟩,⟨mr,h93 r_38 _ (by simp),znS hrm hAllR (fun b o hb=>h93 b o (by simp [hb]))⟩,hS9,fun p hp=>(Yu.1 hp).1,fun p hp=>(hP.2 p hp).mono h91,hL,by rw [hP.len];exact hn5,Nat.le_trans (List.length_filter_le ..) (by rw [hP.len];exact hn5)⟩⟩⟩)
end
section
open Go Go.Kn Go.Proofs
def zdr (P:Pt→Bool)(xs:List Pt):List Int:=(xs.filter P).map (·.id)
theorem zj8 {P:Pt→Bool}{xs:List Pt}:zdr P (xs.take 0)=[]:=by unfold zdr;simp
theorem zlC {P:Pt→Bool}{xs:List Pt}{k:Nat}{p:Pt}(hp:xs[k]? =some p)(h:P p=true):zdr P (xs.take (k+1))=zdr P (xs.take k)++[p.id]:=by
 unfold zdr
 rw [Z3 hp,List.filter_append,List.filter_cons,if_pos h];simp
theorem zoX {P:Pt→Bool}{xs:List Pt}{k:Nat}{p:Pt}(hp:xs[k]? =some p)(h:P p=false):zdr P (xs.take (k+1))=zdr P (xs.take k):=by
 unfold zdr
 rw [Z3 hp,List.filter_append,List.filter_cons,if_neg (by rw [h];exact Bool.false_ne_true)];simp
def zvP (on:Int→Int→Bool)(l:List Pt)(s:Int)(p:Pt):Bool:=(rmF l s).any fun i=> !on i p.id
def unL (on:Int→Int→Bool)(l:List Pt)(s f:Int):List Int:=zdr (zvP on l s) (stF l s f)
def unK (on:Int→Int→Bool)(l:List Pt)(s:Int)(k:Nat):List Int:=(List.range k).flatMap fun (j:Nat)=>unL on l s ((j:Int)+1)
theorem zfJ (on:Int→Int→Bool)(l:List Pt)(s:Int)(k:Nat):unK on l s (k+1)=unK on l s k++unL on l s ((k:Int)+1):=by
 unfold unK
 rw [List.range_succ,List.flatMap_append];simp
theorem zpO {on:Int→Int→Bool}{l:List Pt}{s:Int}(k:Nat):(unK on l s k).length≤k*l.length:=by
 induction k with
 | zero=>simp [unK]
 | succ k ih=>
  rw [zfJ,List.length_append,Nat.succ_mul]
  have h1:(unL on l s ((k:Int)+1)).length≤l.length:=by
   unfold unL zdr
   rw [List.length_map]
   exact Nat.le_trans (List.length_filter_le ..) X3
  omega
theorem zlp {on:Int→Int→Bool}{l xs:List Pt}{s:Int}{k j e q:Nat}{v:Value}{P:Pt→Bool}{L:Go.Kn.Loc}(hO:OwnS e 1 v q ((unK on l s k++zdr P (xs.take j)).flatMap QR) L)(hk:k≤9)(hl:l.length≤512)(hx:xs.length≤512):q≤10000:=by
 have h1:=hO.1
 rw [zxI,List.length_append] at h1
 have h2:(unK on l s k).length≤9*512:=Nat.le_trans (zpO k) (Nat.mul_le_mul hk hl)
 have h3:(zdr P (xs.take j)).length≤xs.length:=by
  unfold zdr
  rw [List.length_map]
  refine Nat.le_trans (List.length_filter_le ..) ?_
  rw [List.length_take];omega
 omega
theorem zg6 {on:Int→Int→Bool}{l:List Pt}{s:Int}(hok:∀ p∈l,zqY p){x:Int}:x∈unK on l s 9↔x∈(unF on l s).map (·.id):=by
 unfold unK unL zdr unF unB
 rw [List.mem_flatMap]
 simp only [List.mem_map,List.mem_filter,List.mem_range,Ub,Bool.and_eq_true,beq_iff_eq]
 constructor
 ·
  rintro ⟨j,hj,p,⟨⟨hp,hk,hs,hf⟩,hu⟩,rfl⟩
  exact ⟨p,⟨hp,hs,hk,by rw [hs];exact hu⟩,rfl⟩
 ·
  rintro ⟨p,⟨hp,hs,hk,hu⟩,rfl⟩
  have hf:=((hok p hp).set hk).1
  unfold isF at hf
  refine ⟨(p.field-1).toNat,by omega,p,⟨⟨hp,hk,hs,by omega⟩,by rw [hs] at hu;exact hu⟩,rfl⟩
theorem zww {on:Int→Int→Bool}{l:List Pt}{s:Int}(hok:∀ p∈l,zqY p):((((rmF l s).length:Int)==0)||decide (((unK on l s 9).length:Int)>0))=exB on l s:=by
 unfold exB
 have h1:(unK on l s 9).length=0↔unF on l s=[]:=by
  constructor
  ·
   intro h
   have h2:=List.length_eq_zero_iff.1 h
   cases hu:unF on l s with
   | nil=>rfl
   | cons p us=>
    have:p.id∈unK on l s 9:=(zg6 hok).2 (by rw [hu];simp)
    rw [h2] at this;cases this
  ·
   intro h
   cases hu:unK on l s 9 with
   | nil=>rfl
   | cons x us=>
    have:x∈(unF on l s).map (·.id):=(zg6 hok).1 (by rw [hu];simp)
    rw [h] at this;cases this
 congr 1
 ·
  cases rmF l s with
  | nil=>rfl
  | cons x us=>simp;omega
 ·
  cases hu:unF on l s with
  | nil=>rw [h1.2 hu];rfl
  | cons p us=>
   have:(unK on l s 9).length≠0:=fun h=>by rw [h1.1 h] at hu;cases hu
   simp;omega
theorem zu7 {ps l:List Pt}(hsub:∀ p∈l,p∈ps){s i:Int}(h:i∈rmF l s):∃ q∈ps,q.id=i:=by
 obtain ⟨q,hq,_,_,e⟩:=zqi.1 h
 exact ⟨q,hsub q hq,e⟩
theorem zuY {l:List Pt}{s:Int}:(rmF l s).length≤l.length:=XV (c:=3)
def zcg (on:Int→Int→Bool)(xs:List Pt)(p:Pt):Bool:= !xs.any fun q=>on q.id p.id
theorem zr3 (on:Int→Int→Bool)(l:List Pt)(s f:Int):zc5 on l s f=(stF l s f).filter (zcg on (stF l s f)):=rfl
theorem Wj {P:Pt→Bool}{xs:List Pt}{k:Nat}{p:Pt}(hp:xs[k]? =some p)(h:P p=true):(xs.take (k+1)).filter P=(xs.take k).filter P++[p]:=by
 rw [Z3 hp,List.filter_append,List.filter_cons,if_pos h];simp
theorem zaA {P:Pt→Bool}{xs:List Pt}{k:Nat}{p:Pt}(hp:xs[k]? =some p)(h:P p=false):(xs.take (k+1)).filter P=(xs.take k).filter P:=by
 rw [Z3 hp,List.filter_append,List.filter_cons,if_neg (by rw [h];exact Bool.false_ne_true)];simp
theorem zhI {P:Pt→Bool}{xs:List Pt}{k:Nat}{p:Pt}(hp:xs[k]? =some p)(h:P p=true):(xs.take k).filter P++[p]<+:xs.filter P:=by
 rw [←Wj hp h]
 exact ⟨(xs.drop (k+1)).filter P,by rw [←List.filter_append,List.take_append_drop]⟩
end
section
open Go Go.Kn Go.Proofs
theorem zwV {I:Qu}{b1 b2 r1 r2 r3:Nat}{av:Option Addr}{n c:Nat}{p:Pt}{ps:List Pt}(h1:I b1=some (.cells #[.map (some r1),.map (some r2),.map (some r3),.slice av n c] 159 (0,0)))(h2:I b2=some (.cells (Yz p).toArray 57 (0,0)))(hOn:OnM I r1 ps)(id:Int)(hid:∃ q∈ps,q.id=id):Zw Tryz.prog 232 [.int .i64 id,.pointer (some ⟨b1,0,none⟩),.pointer (some ⟨b2,0,none⟩)] I (.bool (!onF ps id p.id)):=by
 intro g H w hw
 refine qe Tryz.func232 Tryz.ntmps232 hw ?_
 obtain ⟨m,hm1,hm2⟩:=hOn
 obtain ⟨ref,hget,sn,hsn,hsq⟩:=hm2.get hid
 refine zR (zA ?_)
 refine zN (zR ?_)
 refine zF zcu ?_
 refine zV (Qd rfl ziT (fun hg=>by exact .imm h1 rfl)) ?_
 refine zM ?_
 refine zV (YG (m:=m) (ek:=Value.int .i64) (ev:=zb3) (a:=id) hget Ks ZE rfl rfl (fun _=>.inl hm1)) ?_
 refine zF Zt ?_
 refine zV (Qd rfl Qs (fun hg=>by exact .imm h2 rfl)) ?_
 refine zV (Ye (m:=sn) Vs ZE rfl rfl (fun _=>.inl hsn)) ?_
 refine zO ?_
 refine zA (zN (Qt ?_))
 exact zr rfl rfl (by rw [show (Zy sn p.id).getD false=onF ps id p.id from hsq.mem _])
theorem zlE {I:Qu}{ps l:List Pt}{xs:List Sg}{r1 r2 r3:Nat}{av:Option Addr}{n c:Nat}(hx:StQ I ps l xs r1 r2 r3 av n c)(s:Int):Yg Tryz.prog 193 [stA r1 r2 r3 av n c,.int .i64 s] I [] (zbT 1 QR (unK (onF ps) l s 9)):=by
 intro g H w hw
 refine qe Tryz.func193 Tryz.ntmps193 hw ?_
 have hIc:=zye I
 obtain ⟨ms,hms,hset⟩:=hx.set
 obtain ⟨mr,hmr,hrem⟩:=hx.rem
 obtain ⟨av3,c3,hv3,hS3⟩:=hrem s
 have hfl:=hx.fewl
 have hrl:=zuY (l:=l) (s:=s)
 refine zR ?_
 refine Q5 rfl rfl rfl (fun b_2=>?_)
 refine zA (zN (Ql (Ql ?_)))
 refine W0 ((b_2,.cells #[.map (some r1),.map (some r2),.map (some r3),.slice av n c] 159 (0,0))::[]) .refl ?_
 refine Qg (zA (zN (Qm ?_)))
 refine zU [(1,_),(2,_)] (fun T L0 mz E I' loc'=>∃ (k:Nat) (v:Value) (q:Nat) (L:Go.Kn.Loc),mz=9-k∧E=(4,v)::(5,.int .i64 ((k:Int)+1))::T∧I=I'∧(b_2,.cells #[.map (some r1),.map (some r2),.map (some r3),.slice av n c] 159 (0,0))::L=loc'∧k≤9∧OwnS 3 1 v q ((unK (onF ps) l s k).flatMap QR) L∧True) ?_ (h:=⟨0,_,0,[],rfl,rfl,rfl,rfl,Nat.zero_le _,OwnS.nil,trivial⟩)
 rintro mz E I' loc' ⟨k,v,q,L,rfl,rfl,rfl,rfl,hk,hO,_⟩
 refine Ql (zR (zM ?_))
 refine zC (zN ?_)
 refine zI ?_ ?_<;>intro hc9
 ·
  have hlt_k:k<9:=by have h:=hc9;simp at h;omega
  refine Qo (Qa (Ql (Qm (Ql ?_))))
  obtain ⟨av2,c2,hv2,hS2⟩:=hset (s,(k:Int)+1)
  dsimp only at hv2 hS2
  have hstl:=X3 (l:=l) (s:=s) (f:=(k:Int)+1)
  refine Qg ?_
  refine zF XR ?_
  refine zL zec ?_
  refine zM ?_
  refine zM ?_
  refine zV (Zp (ps:=[(0,_),(1,_)]) [_,_] Yc JJ rfl rfl) ?_
  refine zV (YB (m:=ms) (ek:=Ya) (a:=(s,(k:Int)+1)) hv2 zdP Uv rfl rfl (fun _=>.inl hms)) ?_
  refine zQ Zz ?_
  refine zM (zN (Qm ?_))
  refine zU [(1,_),(2,_),(5,_),(17,_),(18,_)] (fun T L0 mz E I' loc'=>∃ (j:Nat) (v:Value) (q:Nat) (L:Go.Kn.Loc),mz=(stF l s ((k:Int)+1)).length-j∧E=(4,v)::(19,.int .i64 j)::T∧I=I'∧(b_2,.cells #[.map (some r1),.map (some r2),.map (some r3),.slice av n c] 159 (0,0))::L=loc'∧j≤(stF l s ((k:Int)+1)).length∧OwnS 3 1 v q ((unK (onF ps) l s k++zdr (zvP (onF ps) l s) ((stF l s ((k:Int)+1)).take j)).flatMap QR) L∧True) ?_ (h:=⟨0,v,q,L,rfl,rfl,rfl,rfl,Nat.zero_le _,by rw [zj8,List.append_nil];exact hO,trivial⟩)
  rintro mz E I' loc' ⟨j,v,q,L,rfl,rfl,rfl,rfl,hj,hO,_⟩
  refine zR (zC (zN (Ql ?_)))
  refine zI ?_ ?_<;>intro hc20
  ·
   have hlt_j:j<(stF l s ((k:Int)+1)).length:=by have h:=hc20;simp at h;omega
   obtain ⟨p,hp⟩:=hS2.at hlt_j
   refine Qo (Qa (Ql (Qm (zR ?_))))
   refine zV (QF rfl rfl Zz (by assumption) (fun hg=>by omega)) ?_
   refine zV (Qp rfl Yw (fun hg=>by exact zyf hS2 hp) rfl) ?_
   refine Qr K2 rfl rfl (fun b_7=>?_)
   refine zh VN ?_
   refine zN (zR ?_)
   refine zF UJ ?_
   refine zL zes ?_
   refine zM ?_
   refine zV (YB (m:=mr) (ek:=Value.int .i64) (a:=s) hv3 YY ZE rfl rfl (fun _=>.inl hmr)) ?_
   refine zV (Zc (us:=[]) (vs:=[_,_]) rfl rfl) ?_
   refine UE (cap:=[]) (vs:=[_,_]) rfl rfl zil QD (zkl.ofV fun I' hI' hL'=>zuv (cap:=[.pointer (some ⟨b_2,0,none⟩),.pointer (some ⟨b_7,0,none⟩)]) (hS3.mono hI') (by omega) zpX (fun i hi=>zwV (b1:=b_2) (b2:=b_7) (r1:=r1) (r2:=r2) (r3:=r3) (av:=av) (n:=n) (c:=c) (p:=p) (hL' b_2 _ (by simp)) (hL' b_7 _ (by simp)) (hx.on.mono hI') i (zu7 hx.sub hi))) rfl rfl ?_
   refine zN ?_
   refine zI ?_ ?_<;>intro hc28
   ·
    have hq:=zlp hO (by omega) hfl (by omega)
    refine Qg (zM ?_)
    refine zF Zt ?_
    refine zL Qs ?_
    refine Qq (ps:=[(0,_)]) (m:=[QR p.id]) Zi rfl (.cons rfl (.nil)) rfl (by simp [Qv]) (by decide) (by decide) rfl rfl (fun b_32=>?_)
    refine QY (v:=_) (ys:=[p.id].flatMap QR) (L:=L) rfl rfl Zi hO (by repeat (first | exact .cons .here .nil | exact QD | exact Qw | apply QC | apply QB)) ⟨rfl,fun _=>rfl,zyc⟩ (JG [p.id]) (by omega) rfl rfl ?_
    intro v9 L9 hO9 _;rw [←List.flatMap_append,List.append_assoc] at hO9
    refine zA (Qb (Qh (Qa (Qg ?_))))
    refine zB ?_
    refine zM (Qb ?_)
    first
    | exact Ji _ _ (L9++[(b_2,_)]) ⟨(stF l s ((k:Int)+1)).length-(j+1),by omega,j+1,_,_,L9,rfl,rfl,rfl,rfl,by omega,by rw [zlC (P:=zvP (onF ps) l s) hp hc28];exact hO9,trivial⟩ (.cons rfl (.cons rfl (.cons rfl (.cons rfl (.cons rfl (.cons rfl (.cons rfl .nil))))))) (zc7 _ _) (by repeat (first | exact .refl | exact Zg | refine Ym ?_ | refine .drop ?_ | refine Z4 ?_))
   refine Qo (Qh (Qa (Qg (zB ?_))))
   refine zM (Qb ?_)
   first
   | exact zm (h:=⟨(stF l s ((k:Int)+1)).length-(j+1),by omega,j+1,_,_,_,rfl,rfl,rfl,rfl,by omega,by rw [zoX (P:=zvP (onF ps) l s) hp hc28];exact hO,trivial⟩)
  have hge_j:(stF l s ((k:Int)+1)).length≤j:=by have h:=hc20;simp at h;omega
  rw [ZF rfl hge_j] at hO
  refine QI (Qf (Qf (Qk (Qh (Qa (Qg (zM ?_)))))))
  refine zB ?_
  refine zA (Qb ?_)
  exact zm (h:=⟨9-(k+1),by omega,k+1,_,_,_,rfl,rfl,rfl,rfl,by omega,by rw [zfJ];exact hO,trivial⟩)
 have hge_k:9≤k:=by have h:=hc9;simp at h;omega
 have hk9:k=9:=by omega
 subst hk9
 refine QI (Qf (Qf (Qk (Qa (zR (zM ?_))))))
 refine zA (zN (Qt ?_))
 exact Zv rfl rfl (fun w hw=>by obtain ⟨I9,h91,h92,h93⟩:=OwnS.res hO Qv (by decide) (hw.subL (by repeat (first | exact .refl | refine .drop ?_)));exact ⟨_,I9,[],rfl,hIc.trans h91,h92,h93⟩)
theorem zka {I:Qu}{ps l:List Pt}{xs:List Sg}{r1 r2 r3:Nat}{av:Option Addr}{n c:Nat}(hx:StQ I ps l xs r1 r2 r3 av n c)(s:Int):Yg Tryz.prog 193 [stA r1 r2 r3 av n c,.int .i64 s] I [] (fun u _I9 L9=>L9=[]∧∃ a9 c9,u= .slice a9 (unK (onF ps) l s 9).length c9):=
 (zlE hx s).mono fun v I' L' _ h=>by
  obtain ⟨h1,a9,c9,h2,_⟩:=h
  exact ⟨h1,a9,c9,h2⟩
theorem zmt {I:Qu}{ps l:List Pt}{xs:List Sg}{r1 r2 r3:Nat}{av:Option Addr}{n c:Nat}(hx:StQ I ps l xs r1 r2 r3 av n c)(hok:∀ p∈l,zqY p)(s:Int):Zw Tryz.prog 143 [stA r1 r2 r3 av n c,.int .i64 s] I (.bool (exB (onF ps) l s)):=by
 intro g H w hw
 refine qe Tryz.func143 Tryz.ntmps143 hw ?_
 have hIc:=zye I
 obtain ⟨mr,hmr,hrem⟩:=hx.rem
 obtain ⟨av3,c3,hv3,hS3⟩:=hrem s
 refine zR ?_
 refine Q5 rfl rfl rfl (fun b_2=>?_)
 refine zA ?_
 refine zN (zR ?_)
 refine zF UJ ?_
 refine zL zes ?_
 refine zM ?_
 refine zV (YB (m:=mr) (ek:=Value.int .i64) (a:=s) hv3 YY ZE rfl rfl (fun _=>.inl hmr)) ?_
 refine zQ Qy ?_
 refine zC ?_
 refine zM ?_
 refine QX 6 rfl rfl rfl ?_
 refine zJ (Qp rfl Y4 (fun hg=>by exact Cells.g0) rfl) ?_
 refine zJ (Qi rfl) ?_
 refine zjp (cap:=[]) (vs:=[_,_]) rfl rfl zrI (fun hg=>zka hx s) ⟨_,rfl,none,0,rfl⟩ (.some rfl rfl rfl rfl gbf) rfl rfl ?_
 rintro vv I9 L9 hI9 ⟨rfl,a9,c9,rfl⟩
 have hIc:=hIc.trans hI9
 refine zJ (ZH rfl Qy) ?_
 refine zJ (QH rfl rfl rfl) ?_
 refine ZA rfl rfl rfl rfl rfl ?_
 refine zA (zN (Qt ?_))
 exact zp hIc rfl rfl (by rw [←zww hok])
end
section
open Go Go.Kn Go.Proofs
theorem zq0 {I:Qu}{b1 b2 r1 r2 r3:Nat}{av:Option Addr}{n c:Nat}{p:Pt}{ps:List Pt}(h1:I b1=some (.cells #[.map (some r1),.map (some r2),.map (some r3),.slice av n c] 159 (0,0)))(h2:I b2=some (.cells (Yz p).toArray 57 (0,0)))(hOn:OnM I r1 ps)(q:Pt)(hid:∃ z∈ps,z.id=q.id):Zw Tryz.prog 195 [Wl q,.pointer (some ⟨b1,0,none⟩),.pointer (some ⟨b2,0,none⟩)] I (.bool (onF ps q.id p.id)):=by
 intro g H w hw
 refine qe Tryz.func195 Tryz.ntmps195 hw ?_
 obtain ⟨m,hm1,hm2⟩:=hOn
 obtain ⟨ref,hget,sn,hsn,hsq⟩:=hm2.get hid
 refine zR ?_
 refine Q5 rfl rfl rfl (fun b_3=>?_)
 refine zA ?_
 refine zN (zR ?_)
 refine zF zcu ?_
 refine zV (Qd rfl ziT (fun hg=>by exact .imm h1 rfl)) ?_
 refine zF Zt ?_
 refine zL Qs ?_
 refine zV (YG (m:=m) (ek:=Value.int .i64) (ev:=zb3) (a:=q.id) hget Ks ZE rfl rfl (fun _=>.inl hm1)) ?_
 refine zF Zt ?_
 refine zV (Qd rfl Qs (fun hg=>by exact .imm h2 rfl)) ?_
 refine zV (Ye (m:=sn) Vs ZE rfl rfl (fun _=>.inl hsn)) ?_
 refine zA (zN (Qt ?_))
 exact zr rfl rfl (by rw [show (Zy sn p.id).getD false=onF ps q.id p.id from hsq.mem _])
def zxL (I:Qu)(r1 r2 r3:Nat)(av:Option Addr)(n c:Nat)(s f:Int)(b1 b2 b3:Nat):Prop:=I b1=some (.cells #[.map (some r1),.map (some r2),.map (some r3),.slice av n c] 159 (0,0))∧I b2=some (.cells #[.int .i64 s] 3 (0,0))∧I b3=some (.cells #[.int .i64 f] 3 (0,0))
theorem zlI (I:Qu)(r1 r2 r3:Nat)(av:Option Addr)(n c:Nat)(s f:Int):Yg Tryz.prog 144 [stA r1 r2 r3 av n c,.int .i64 s,.int .i64 f] I [] (fun v I' L=>L=[]∧∃ b1 b2 b3,v= .func (.func 194) #[] [Zb b1,Zb b2,Zb b3].toArray∧zxL I' r1 r2 r3 av n c s f b1 b2 b3):=by
 intro g H w hw
 refine qe Tryz.func144 Tryz.ntmps144 hw ?_
 have hIc:=zye I
 refine zR ?_
 refine Q5 rfl rfl rfl (fun b_3=>?_)
 refine Q5 rfl rfl rfl (fun b_4=>?_)
 refine Q5 rfl rfl rfl (fun b_5=>?_)
 refine zA (zN (Ql ?_))
 refine Zf .here (fun I1 hI1 hb1=>?_)
 have hIc:=hIc.trans hI1
 have h3:=hb1
 refine Zf .here (fun I2 hI2 hb2=>?_)
 have hIc:=hIc.trans hI2
 have h2:=hb2
 have h3:=hI2 _ _ h3
 refine Zf .here (fun I3 hI3 hb3=>?_)
 have hIc:=hIc.trans hI3
 have h1:=hb3
 have h3:=hI3 _ _ h3;have h2:=hI3 _ _ h2
 refine Qg ?_
 refine zV (Zc (us:=[]) (vs:=[_,_,_]) rfl rfl) ?_
 refine zA (zN (Qt ?_))
 exact Zv rfl rfl (fun w hw=>⟨_,I3,[],rfl,hIc,hw.drop,rfl,b_3,b_4,b_5,rfl,h1,h2,h3⟩)
theorem zoj {I : Qu} {ps l : List Pt} {xs : List Sg} {r1 r2 r3 : Nat} {av : Option Addr} {n c : Nat} (hx : StQ I ps l xs r1 r2 r3 av n c) {s f : Int} {b1 b2 b3 : Nat} (hcap : zxL I r1 r2 r3 av n c s f b1 b2 b3) : zxY Tryz.prog 194 [Zb b1, Zb b2, Zb b3] I Wl (zc5 (onF ps) l s f) := by
  rw [zr3]
  intro g y J Jx hY I0 H w h0 hJ hw
  obtain ⟨h1, h2, h3⟩ := hcap
  have hx := hx.mono h0
  have h1 := h0 _ _ h1; have h2 := h0 _ _ h2; have h3 := h0 _ _ h3
  refine qe Tryz.func194 Tryz.ntmps194 hw ?_
  obtain ⟨ms, hms, hset⟩ := hx.set
  obtain ⟨av2, c2, hv2, hS2⟩ := hset (s, f)
  dsimp only at hv2 hS2
  have hln := Nat.le_trans (X3 (l := l) (s := s) (f := f)) hx.fewl
  refine zR ?_
  refine zF XR ?_
  refine zV (Qd rfl zec (fun hg => by exact QU.imm h1 rfl)) ?_
  refine zV (Qd rfl Qs (fun hg => by exact QU.imm h2 rfl)) ?_
  refine zV (Qd rfl Qs (fun hg => by exact QU.imm h3 rfl)) ?_
  refine zV (Zp (ps := [(0, _), (1, _)]) [_, _] Yc JJ rfl rfl) ?_
  refine zV (YB (m := ms) (ek := Ya) (a := (s, f)) hv2 zdP Uv rfl rfl (fun _ => .inl hms)) ?_
  refine zA ?_
  refine zN (zR ?_)
  refine zM ?_
  refine zQ Zz ?_
  refine zM (zN (Qm ?_))
  refine zdh (fun m E I' H' loc' => ∃ (k : Nat), m = (stF l s f).length - k ∧ E = [(0, .func (.yield y) #[] #[]), (1, Zb b1), (5, .slice av2 (stF l s f).length c2), (14, .slice av2 (stF l s f).length c2), (15, .int .i64 (stF l s f).length), (16, .int .i64 k)] ∧ loc' = [] ∧ HLe I0 I' ∧ k ≤ (stF l s f).length ∧ J (((stF l s f).take k).filter (zcg (onF ps) (stF l s f))) I' H') _ _ _ ⟨0, rfl, rfl, rfl, zye _, Nat.zero_le _, hJ⟩ (.cons rfl (.cons rfl (.cons rfl (.cons rfl (.cons rfl (.cons rfl .nil)))))) rfl ?_
  rintro m E I' H' loc' ⟨k, rfl, rfl, rfl, hI1, hk, hJk⟩
  have hS2 := hS2.mono hI1
  have hx := hx.mono hI1
  have h1 := hI1 _ _ h1
  have hI0 := h0.trans hI1
  refine zR (zC (zN (Ql ?_)))
  refine zI ?_ ?_ <;> intro hc17
  · skip
    have hlt : k < (stF l s f).length := by simpa using hc17
    obtain ⟨p, hp⟩ := hS2.at hlt
    refine Qo (Qa (Ql (Qm (zR ?_))))
    refine zV (QF rfl rfl Zz (by assumption) (fun hg => by omega)) ?_
    refine zV (Qp rfl Yw (fun hg => by exact zyf hS2 hp) rfl) ?_
    refine Qr K2 rfl rfl (fun b_7 => ?_)
    refine zh VN ?_
    refine zN (Ql ?_)
    have hpc : ∀ {b : Bool} {G : Env}, ZX [(b, G)] = true → b = zcg (onF ps) (stF l s f) p → zcg (onF ps) (stF l s f) p = true := fun h e => by rw [← e]; simpa [ZX] using h
    refine Qg (zM ?_)
    refine zV (Zc (us := []) (vs := [_, _]) rfl rfl) ?_
    refine UE (cap := []) (vs := [_, _]) rfl rfl zig QD (zkl.ofV fun I' hI' hL' => ztW (cap := [.pointer (some ⟨b1, 0, none⟩), .pointer (some ⟨b_7, 0, none⟩)]) (SlP.mono ⟨hS2, fun p hp => hx.nd p (hx.sub p (Ub.1 hp).1)⟩ hI') (by omega) zpq (fun q hq => zq0 (b1 := b1) (b2 := b_7) (r1 := r1) (r2 := r2) (r3 := r3) (av := av) (n := n) (c := c) (p := p) (hI' _ _ h1) (hL' b_7 _ (by simp)) (hx.on.mono hI') q ⟨q, hx.sub q (Ub.1 hq).1, rfl⟩)) rfl rfl ?_
    refine zO ?_
    refine zM ?_
    refine QE 4 rfl rfl rfl ?_
    refine zK (Qi rfl) ?_
    refine zK (Qp rfl Yw (fun hg => by exact Cells.g0) rfl) ?_
    refine zco (vs := [_]) (Post := fun b I2 H2 => if b then J (((stF l s f).take k).filter (zcg (onF ps) (stF l s f)) ++ [p]) I2 H2 else Jx (((stF l s f).take k).filter (zcg (onF ps) (stF l s f)) ++ [p]) I2 H2) rfl rfl (.some rfl rfl rfl rfl gbt) rfl rfl (fun hcj => hY _ p _ _ (zhI hp (hpc hcj rfl)) hI0 hJk) ?_
    rintro b I2 H2 hI2 hyes hno
    refine zK (Vy rfl) ?_
    refine QP rfl rfl rfl rfl rfl ?_
    refine zN ?_
    refine zI ?_ ?_ <;> intro hc29
    · skip
      refine Qt (Qn (Qc (Qc (Qn ?_))))
      first
      | (exact YL rfl (fun w hw => ⟨_, I2, H2, rfl, hI1.trans hI2, hw.drop, .inr ⟨_, zhI hp (show zcg (onF ps) (stF l s f) p = true from ((Bool.and_eq_true _ _).mp (show (zcg (onF ps) (stF l s f) p && !b) = true from hc29)).1), by have hc : (zcg (onF ps) (stF l s f) p && !b) = true := hc29; rw [Bool.and_eq_true, Bool.not_eq_true'] at hc; have h9 := hyes (show ZX [(zcg (onF ps) (stF l s f) p, _)] = true from by rw [hc.1]; rfl); rw [hc.2] at h9; exact h9⟩⟩))
    · skip
      refine Qo (Qh (Qa (Qg (zB ?_))))
      refine zM (Qb ?_)
      have hyes := fun (e : zcg (onF ps) (stF l s f) p = true) => hyes (show ZX [(zcg (onF ps) (stF l s f) p, _)] = true from by rw [e]; rfl)
      have hno := fun (e : zcg (onF ps) (stF l s f) p = false) => hno (show ZX [(zcg (onF ps) (stF l s f) p, _)] = false from by rw [e]; rfl)
      have hc : (zcg (onF ps) (stF l s f) p && !b) = false := hc29
      have hJ2 : J (((stF l s f).take (k + 1)).filter (zcg (onF ps) (stF l s f))) I2 H2 := by
        cases hA : zcg (onF ps) (stF l s f) p with
        | true => rw [Wj hp hA]; rw [hA] at hc; have hb : b = true := by simpa using hc
                  subst hb; exact hyes hA
        | false => rw [zaA hp hA]; obtain ⟨e1, e2⟩ := hno hA; rw [e1, e2]; exact hJk
      exact Xi rfl rfl rfl _ [] ⟨(stF l s f).length - (k + 1), by omega, k + 1, rfl, rfl, rfl, hI1.trans hI2, by omega, hJ2⟩ (.cons rfl (.cons rfl (.cons rfl (.cons rfl (.cons rfl (.cons rfl .nil)))))) (.drop .refl)
  · skip
    have hge : (stF l s f).length ≤ k := by simpa using hc17
    refine QI (Qf (Qf (Qk ?_)))
    first
    | (exact Vl (YL rfl (fun w hw => ⟨_, I', H', rfl, hI1, hw, .inl (by rw [ZF rfl hge] at hJk; exact hJk)⟩)))
end
section
open Go Go.Kn Go.Proofs
theorem zai {α:Type}{C:Cx}{E:Env}{I:Qu}{loc loc':Go.Kn.Loc}{Jc:List α→Qu→Go.Kn.Loc→Prop}{Jx:Code→List α→Qu→Go.Kn.Loc→Prop}{pre:List α}{id:Nat}(h:Jx (.exit id) pre I loc')(hs:Kq loc' loc):At C (zaB C.g C.H Jc Jx pre) (.exit id) E I loc:=fun _ _ _ hw=>⟨I,loc',h,hw.subL hs⟩
theorem zwi (I:Qu)(b:Nat)(x:Sg)(f:Int)(y:Sg)(hf:isF f):Yg Tryz.prog 145 [Zb b,.int .i64 f,JX y] I [(b,.cells (Y2 x).toArray 54 (0,0))] (fun v I' L=>v= .tuple #[]∧I'=I∧L=[(b,.cells (Y2 (zam x f y)).toArray 54 (0,0))]):=by
 intro g H w hw
 refine qe Tryz.func145 Tryz.ntmps145 hw ?_
 refine zR ?_
 refine Q5 rfl rfl rfl (fun b_5=>?_)
 refine zN (zR ?_)
 refine zM (zN (Qm (zR ?_)))
 refine zC ?_
 refine zA (zN ?_)
 refine zI ?_ ?_<;>intro hc7
 ·
  have hfk:f=1:=by simpa using hc7
  subst hfk
  refine Qg (zM ?_)
  refine zF Ke ?_
  refine zL Qs ?_
  refine zV (Q0 rfl) ?_
  refine zF Ke ?_
  refine zS Yi ?_
  refine Qb (Qh ?_)
  exact Vl (YL rfl (fun w hw=>⟨_,I,_,rfl,zye _,hw.subL (.drop .refl),rfl,rfl,rfl⟩))
 have hg1:f≠1:=by simpa using hc7
 refine zR (zC ?_)
 refine zA (zN ?_)
 refine zI ?_ ?_<;>intro hc14
 ·
  have hfk:f=2:=by simpa using hc14
  subst hfk
  refine Qg (zM ?_)
  refine zF Kh ?_
  refine zL Qs ?_
  refine zV (Q0 rfl) ?_
  refine zF Kh ?_
  refine zS Yi ?_
  refine Qb (Qh ?_)
  exact Vl (YL rfl (fun w hw=>⟨_,I,_,rfl,zye _,hw.subL (.drop .refl),rfl,rfl,rfl⟩))
 have hg2:f≠2:=by simpa using hc14
 refine zR (zC ?_)
 refine zA (zN ?_)
 refine zI ?_ ?_<;>intro hc21
 ·
  have hfk:f=3:=by simpa using hc21
  subst hfk
  refine Qg (zM ?_)
  refine zF Jz ?_
  refine zL Qs ?_
  refine zV (Q0 rfl) ?_
  refine zF Jz ?_
  refine zS Yi ?_
  refine Qb (Qh ?_)
  exact Vl (YL rfl (fun w hw=>⟨_,I,_,rfl,zye _,hw.subL (.drop .refl),rfl,rfl,rfl⟩))
 have hg3:f≠3:=by simpa using hc21
 refine zR (zC ?_)
 refine zA (zN ?_)
 refine zI ?_ ?_<;>intro hc28
 ·
  have hfk:f=4:=by simpa using hc28
  subst hfk
  refine Qg (zM ?_)
  refine zF JW ?_
  refine zL Qs ?_
  refine zV (Q0 rfl) ?_
  refine zF JW ?_
  refine zS Yi ?_
  refine Qb (Qh ?_)
  exact Vl (YL rfl (fun w hw=>⟨_,I,_,rfl,zye _,hw.subL (.drop .refl),rfl,rfl,rfl⟩))
 have hg4:f≠4:=by simpa using hc28
 refine zR (zC ?_)
 refine zA (zN ?_)
 refine zI ?_ ?_<;>intro hc35
 ·
  have hfk:f=5:=by simpa using hc35
  subst hfk
  refine Qg (zM ?_)
  refine zF JV ?_
  refine zL Qs ?_
  refine zV (Q0 rfl) ?_
  refine zF JV ?_
  refine zS Yi ?_
  refine Qb (Qh ?_)
  exact Vl (YL rfl (fun w hw=>⟨_,I,_,rfl,zye _,hw.subL (.drop .refl),rfl,rfl,rfl⟩))
 have hg5:f≠5:=by simpa using hc35
 refine zR (zC ?_)
 refine zA (zN ?_)
 refine zI ?_ ?_<;>intro hc42
 ·
  have hfk:f=6:=by simpa using hc42
  subst hfk
  refine Qg (zM ?_)
  refine zF Kb ?_
  refine zL Qs ?_
  refine zV (Q0 rfl) ?_
  refine zF Kb ?_
  refine zS Yi ?_
  refine Qb (Qh ?_)
  exact Vl (YL rfl (fun w hw=>⟨_,I,_,rfl,zye _,hw.subL (.drop .refl),rfl,rfl,rfl⟩))
 have hg6:f≠6:=by simpa using hc42
 refine zR (zC ?_)
 refine zA (zN ?_)
 refine zI ?_ ?_<;>intro hc49
 ·
  have hfk:f=7:=by simpa using hc49
  subst hfk
  refine Qg (zM ?_)
  refine zF JR ?_
  refine zL Qs ?_
  refine zV (Q0 rfl) ?_
  refine zF JR ?_
  refine zS Yi ?_
  refine Qb (Qh ?_)
  exact Vl (YL rfl (fun w hw=>⟨_,I,_,rfl,zye _,hw.subL (.drop .refl),rfl,rfl,rfl⟩))
 have hg7:f≠7:=by simpa using hc49
 refine zR (zC ?_)
 refine zA (zN ?_)
 refine zI ?_ ?_<;>intro hc56
 ·
  have hfk:f=8:=by simpa using hc56
  subst hfk
  refine Qg (zM ?_)
  refine zF J0 ?_
  refine zL Qs ?_
  refine zV (Q0 rfl) ?_
  refine zF J0 ?_
  refine zS Yi ?_
  refine Qb (Qh ?_)
  exact Vl (YL rfl (fun w hw=>⟨_,I,_,rfl,zye _,hw.subL (.drop .refl),rfl,rfl,rfl⟩))
 have hg8:f≠8:=by simpa using hc56
 refine zR (zC ?_)
 refine zA (zN ?_)
 refine zI ?_ ?_<;>intro hc63
 ·
  have hfk:f=9:=by simpa using hc63
  subst hfk
  have hD:=zye I
  refine Jo ?_
  refine Z7 I [(b_5,.cells (JX y).cells 54 (0,0))] mixed ?_
  refine zT 0 rfl (Qi rfl) hD ?_
  refine zT 1 rfl (Qi rfl) hD ?_
  refine zT 2 rfl (Qe rfl VF) hD ?_
  refine zT 3 rfl (Qp rfl Vg (fun hg=>by exact Cells.s0 (vs:=[_,_]) rfl) rfl) hD ?_
  refine zT 4 rfl (Qe rfl Vw) hD ?_
  refine zT 5 rfl (Qp rfl Vg (fun hg=>by exact Cells.s0 (vs:=[_,_]) rfl) rfl) hD ?_
  refine zT 6 rfl (Q0 rfl) hD ?_
  refine zT 7 rfl (Qe rfl VF) hD ?_
  refine qd 8 rfl ?_
  refine Jf rfl rfl zas rfl rfl rfl rfl (by repeat (first | exact Upd.here | apply Upd.there | apply QJ)) ?_
  refine Qb ?_
  refine zD hD ?_
  refine zT 9 rfl (Q0 rfl) hD ?_
  refine zT 10 rfl (Qe rfl Vw) hD ?_
  refine qd 11 rfl ?_
  refine Jf rfl rfl zas rfl rfl rfl rfl (by repeat (first | exact Upd.here | apply Upd.there | apply QJ)) ?_
  refine Qb ?_
  refine zD hD ?_
  refine QG (by kernel_rfl) ?_
  refine QQ ?_
  refine Qh ?_
  exact Vl (YL rfl (fun w hw=>⟨_,I,_,rfl,zye _,hw.subL (.drop .refl),rfl,rfl,rfl⟩))
 have hg9:f≠9:=by simpa using hc63
 refine Qo (Qh ?_)
 first
 | (exfalso;unfold isF at hf;omega)
end
section
open Go Go.Kn Go.Proofs
def exL (on:Int→Int→Bool)(l:List Pt)(xs:List Sg):List Sg:=(xs.filter fun x=>exB on l x.id).map (zkk on l)
theorem zvm {on:Int→Int→Bool}{l:List Pt}{xs:List Sg}{k:Nat}{x:Sg}(hx:xs[k]? =some x)(h:exB on l x.id=true):exL on l (xs.take (k+1))=exL on l (xs.take k)++[zkk on l x]:=by
 unfold exL
 rw [Z3 hx,List.filter_append,List.filter_cons,if_pos h];simp
theorem zxc {on:Int→Int→Bool}{l:List Pt}{xs:List Sg}{k:Nat}{x:Sg}(hx:xs[k]? =some x)(h:exB on l x.id=false):exL on l (xs.take (k+1))=exL on l (xs.take k):=by
 unfold exL
 rw [Z3 hx,List.filter_append,List.filter_cons,if_neg (by rw [h];exact Bool.false_ne_true)];simp
theorem zoA {on:Int→Int→Bool}{l:List Pt}{xs:List Sg}:exL on l (xs.take 0)=[]:=by unfold exL;simp
def exE (on:Int→Int→Bool)(l:List Pt)(xs:List Sg):Int:=if (exL on l xs).length>4096 then 2 else 0
def zkh (e:Int)(xs:List Sg):Value→Qu→Go.Kn.Loc→Prop:=fun v I' L=>L=[]∧∃ av c,v= .tuple #[.slice av xs.length c,.int .i64 e]∧Sl I' 14 Y2 av xs.length c xs
theorem zkh.empty {e:Int}{xs:List Sg}{I:Qu}(h:xs=[]):zkh e xs (.tuple #[.slice none 0 0,.int .i64 e]) I []:=by
 subst h
 exact ⟨rfl,none,0,rfl,.nil⟩
theorem zkh.good {e e':Int}{xs ys:List Sg}{I:Qu}{av:Option Addr}{n c:Nat}(h:e=e')(hx:ys=xs)(hS:Sl I 14 Y2 av n c ys):zkh e' xs (.tuple #[.slice av n c,.int .i64 e]) I []:=by
 subst h;subst hx
 have hn:=hS.len
 subst hn
 exact ⟨rfl,av,c,rfl,hS⟩
theorem zmj {x:Sg}{f:Int}{l:List Pt}(h:l=[]):zpA x f l=x:=by subst h;rfl
theorem zmd {x:Sg}{f:Int}{l:List Pt}{p:Pt}(h:[p]<+:l):zpA x f l=zam x f p.nw:=by
 obtain ⟨t,rfl⟩:=h;rfl
theorem zfP {on:Int→Int→Bool}{l:List Pt}{x y:Sg}{k:Nat}(hy:y=zgt on l x k):zpA y ((k:Int)+1) (zc5 on l y.id ((k:Int)+1))=zgt on l x (k+1):=by
 subst hy
 rw [zcy,(zdZ k).1]
theorem zwR {k:Nat}(h:k<9):isF ((k:Int)+1):=by unfold isF;omega
theorem zit {on:Int→Int→Bool}{l:List Pt}{x:Sg}:x=zgt on l x 0:=rfl
theorem zo7 {ps:List Pt}{bs:List Sg}{ws:List Int}(h:XT ps bs ws≠0):zdf ps bs ws=XT ps bs ws:=by unfold zdf;rw [if_pos h]
theorem znQ {ps:List Pt}{bs:List Sg}{ws:List Int}(h:XT ps bs ws=0):zdf ps bs ws=exE (onF ps) (Yb ps ws) (Uq bs (Yb ps ws)):=by unfold zdf;rw [if_neg (by omega)];rfl
theorem zjV {ps:List Pt}{bs:List Sg}{ws:List Int}(h:XT ps bs ws=0):KV ps=0:=by
 by_cases h2:KV ps=0
 ·
  exact h2
 ·
  rw [zpW h2] at h;exact h
theorem zwm {ps:List Pt}{bs:List Sg}{ws:List Int}(h:XT ps bs ws=0):WA bs=0:=by
 by_cases h2:WA bs=0
 ·
  exact h2
 ·
  rw [zrb (zjV h) h2] at h;exact h
theorem zr1 {ps:List Pt}{bs:List Sg}{ws:List Int}(h:XT ps bs ws=0):∀ p∈Yb ps ws,zqY p:=fun p hp=>(zbj (zjV h)).ok p (Yu.1 hp).1
theorem zlU (bs:List Sg)(l:List Pt):(Uq bs l).length≤bs.length+l.length:=by
 have h:=(zbX l bs).length_eq
 rw [h,List.length_append]
 unfold za4
 rw [List.length_map]
 have:=List.length_filter_le (fun p:Pt=>p.kind==2) l
 omega
end
section
open Go Go.Kn Go.Proofs
theorem zhX {I:Qu}{ps l:List Pt}{xs:List Sg}{r1 r2 r3:Nat}{av:Option Addr}{n c:Nat}(hx:StQ I ps l xs r1 r2 r3 av n c)(hn:n≤100000)(hok:∀ p∈l,zqY p):Yg Tryz.prog 84 [stA r1 r2 r3 av n c] I [] (zkh (exE (onF ps) l xs) (zlY (exE (onF ps) l xs) (exL (onF ps) l xs))):=by
 intro g H w hw
 refine zdX Tryz.func84 rfl Tryz.ntmps84 rfl hw ?_
 have hIc:=zye I
 refine zR ?_
 refine Q5 rfl rfl rfl (fun b_1=>?_)
 refine zA ?_
 refine zA (zN (Ql (Ql ?_)))
 refine W0 ((b_1,.cells #[.map (some r1),.map (some r2),.map (some r3),.slice av n c] 159 (0,0))::([]++MB _)) .refl ?_
 refine Qg ?_
 refine zF U1 ?_
 refine zL zcQ ?_
 refine zQ YZ ?_
 refine zM (zN (Qm ?_))
 refine Uc [(1,_),(9,_),(10,_)] (.cons rfl (.cons rfl (.cons rfl .nil))) (fun T L0 mz ms E I' loc'=>∃ (j:Nat) (v:Value) (q:Nat) (L:Go.Kn.Loc),mz=n-j∧E=(2,v)::(11,.int .i64 j)::T∧HLe I I'∧(b_1,.cells #[.map (some r1),.map (some r2),.map (some r3),.slice av n c] 159 (0,0))::(L++MB ms)=loc'∧j≤n∧OwnS 54 14 v q ((exL (onF ps) l (xs.take j)).flatMap Y2) L∧q≤j) _ _ _ _ ⟨0,_,0,[],rfl,rfl,zye _,rfl,Nat.zero_le _,by rw [zoA];exact OwnS.nil,Nat.le_refl _⟩ (.cons rfl (.cons rfl (.cons rfl (.cons rfl (.cons rfl .nil))))) (zye _) rfl ?_
 rintro mz ms E J1 loc' ⟨j,v,q,L,rfl,rfl,hJ,rfl,hj,hO,hq⟩
 have hx:=hx.mono hJ;have hIc:=hIc.trans hJ
 have hB0:=hJ
 refine zR (zC (zN (Ql ?_)))
 refine zI ?_ ?_<;>intro hc12
 ·
  have hlt_j:j<n:=by have h:=hc12;simp at h;omega
  have hS:=hx.sg
  obtain ⟨x,hxx⟩:=hS.at hlt_j
  refine Qo (Qa (Ql (Qm (zR ?_))))
  refine zV (QF rfl rfl YZ (by assumption) (fun hg=>by omega)) ?_
  refine zV (Qp rfl ZL (fun hg=>by exact zyf hS hxx) rfl) ?_
  refine Qr WX rfl rfl (fun b_5=>?_)
  refine zh Vx ?_
  refine zN (Ql (zR ?_))
  refine zV (Qp rfl Y4 (fun hg=>by exact Cells.g1) rfl) ?_
  refine zF ZN ?_
  refine zL Qs ?_
  refine qc (vs:=[_,_]) rfl zoy (zmt hx hok _) ?_
  refine zO (zN ?_)
  refine zI ?_ ?_<;>intro hc19
  ·
   have hex:=(Bool.not_eq_true' _).mp hc19
   refine QI (Qf (Qk (Qa (Qg (zB ?_)))))
   refine zM (Qb ?_)
   first
   | exact zd (h:=⟨n-(j+1),by omega,j+1,_,_,_,rfl,rfl,hB0,rfl,by omega,by rw [zxc hxx hex];exact hO,by omega⟩)
  have hex:=(Bool.not_eq_false' _).mp hc19
  refine Qo (Qa (Ql (zR ?_)))
  refine Qr zsX rfl rfl (fun b_6=>?_)
  refine zS Yi ?_
  refine zN (Qm ?_)
  refine Uc [(1,_),(2,_),(5,_),(9,_),(10,_),(11,_)] (.cons rfl (.cons rfl (.cons rfl (.cons rfl (.cons rfl (.cons rfl .nil)))))) (fun T L0 mz ms E I' loc'=>∃ (k:Nat) (b6:Nat) (y:Sg),mz=9-k∧E=(6,Zb b6)::T∧HLe J1 I'∧(b6,.cells #[.int .i64 ((k:Int)+1)] 3 (0,0))::(b_5,.cells (Y2 y).toArray 54 (0,0))::(b_1,.cells #[.map (some r1),.map (some r2),.map (some r3),.slice av n c] 159 (0,0))::(L++MB ms)=loc'∧k≤9∧y=zgt (onF ps) l x k) _ _ _ _ ⟨0,b_6,x,rfl,rfl,zye _,rfl,Nat.zero_le _,zit⟩ (.cons rfl (.cons rfl (.cons rfl (.cons rfl (.cons rfl (.cons rfl (.cons rfl .nil))))))) (zye _) rfl ?_
  rintro mz ms E J2 loc' ⟨k,b6,y,rfl,rfl,hJ,rfl,hk,hy⟩
  have hx:=hx.mono hJ;have hB0:=hB0.trans hJ
  have hB2:=hJ
  refine Ql (zR ?_)
  refine zL Qs ?_
  refine zC (zN ?_)
  refine zI ?_ ?_<;>intro hc21
  ·
   have hlt_k:k<9:=by have h:=hc21;simp at h;omega
   refine Qo (Qa (Ql (Qm (zR ?_))))
   refine zV (Qp rfl Y4 (fun hg=>by exact Cells.g2) rfl) ?_
   refine zF ZN ?_
   refine zL Qs ?_
   refine zL Qs ?_
   refine Qz (cap:=[]) (vs:=[_,_,_]) rfl rfl zpg .nil (zlI _ _ _ _ _ _ _ _ _) rfl rfl ?_
   rintro vv3 I3 L3 hI3 ⟨rfl,c1,c2,c3,rfl,hcap⟩
   have hx:=hx.mono hI3;have hB2:=hB2.trans hI3
   refine zN (Qm ?_)
   refine WG (K:=[]) (L:=(b6,.cells #[.int .i64 ((k:Int)+1)] 3 (0,0))::(b_5,.cells (Y2 y).toArray 54 (0,0))::(b_1,.cells #[.map (some r1),.map (some r2),.map (some r3),.slice av n c] 159 (0,0))::L) (enc:=Wl) (xs:=zc5 (onF ps) l y.id ((k:Int)+1)) (fun pre I' loc'=>pre=[]∧loc'=(b6,.cells #[.int .i64 ((k:Int)+1)] 3 (0,0))::(b_5,.cells (Y2 y).toArray 54 (0,0))::(b_1,.cells #[.map (some r1),.map (some r2),.map (some r3),.slice av n c] 159 (0,0))::L) (fun cd pre I' loc'=>cd= .exit 4∧∃ p,pre=[p]∧loc'=(b_5,.cells (Y2 (zam y ((k:Int)+1) p.nw)).toArray 54 (0,0))::(b6,.cells #[.int .i64 ((k:Int)+1)] 3 (0,0))::(b_1,.cells #[.map (some r1),.map (some r2),.map (some r3),.slice av n c] 159 (0,0))::L) (fun pre p E2 I2 loc2=>∃ b7:Nat,E2=[(5,Zb b_5),(6,Zb b6),(7,Zb b7)]∧pre=[]∧loc2=(b7,.cells (Yz p).toArray 57 (0,0))::(b6,.cells #[.int .i64 ((k:Int)+1)] 3 (0,0))::(b_5,.cells (Y2 y).toArray 54 (0,0))::(b_1,.cells #[.map (some r1),.map (some r2),.map (some r3),.slice av n c] 159 (0,0))::L) rfl zoq (zoj hx hcap) rfl ⟨rfl,rfl⟩ ?_ ?_ ?_ ?_
   ·
    rintro l9 pre p I1 loc1 H1 hpre hI1 ⟨rfl,rfl⟩
    refine Qg ?_
    refine Qr K2 rfl rfl (fun b_7=>?_)
    refine zh VN ?_
    refine Qb ?_
    exact zbm _ ⟨zye _,b_7,rfl,rfl,rfl⟩ (.cons rfl (.cons rfl (.cons rfl .nil)))
   ·
    rintro l9 pre p E2 I2 loc2 H2 hpre hI2 ⟨b7,rfl,rfl,rfl⟩
    refine Qm (zR ?_)
    refine zL Qs ?_
    refine zF VS ?_
    refine zV (Qp rfl ZL (fun hg=>by exact Cells.s0 (vs:=[_,_,_,_,_,_,_,_,_,_,_,_,_,_]) rfl) rfl) ?_
    refine Qz (cap:=[]) (vs:=[_,_,_]) rfl rfl zrz (by repeat (first | exact .cons .here .nil | exact QD | exact Qw | apply QC | apply QB)) (zwi _ b_5 y _ p.nw (zwR hlt_k)) rfl rfl ?_
    rintro vv4 I4 L4 hI4 ⟨rfl,rfl,rfl⟩
    refine zN (QI ?_)
    refine za9 rfl ?_
    exact zai ⟨zye _,rfl,p,rfl,rfl⟩ (by repeat (first | exact .refl | refine .keep ?_ | refine .drop ?_))
   ·
    rintro bd I1 loc1 hI1 ⟨hnil,rfl⟩
    have hB2:=hB2.trans hI1
    have hy2:y=zgt (onF ps) l x (k+1):=by rw [←zfP hy,zmj hnil]
    refine Qh (Qh (Qa (Ql (zR ?_))))
    refine zL Qs ?_
    refine zN (Qg ?_)
    refine Qr zsX rfl rfl (fun b_6=>?_)
    refine zS Yi ?_
    refine zN (Qg ?_)
    refine zL Qs ?_
    refine zB ?_
    refine zS Yi ?_
    refine Qb ?_
    exact zn (h:=⟨9-(k+1),by omega,k+1,_,_,rfl,rfl,hB2,rfl,by omega,hy2⟩)
   rintro cd bd pre I1 loc1 hI1 hpre ⟨rfl,p,rfl,rfl⟩
   have hB2:=hB2.trans hI1
   have hy2:(zam y ((k:Int)+1) p.nw)=zgt (onF ps) l x (k+1):=by rw [←zfP hy,zmd hpre]
   refine QI (Qk (Qh (Qa (Ql (zR ?_)))))
   refine zL Qs ?_
   refine zN (Qg ?_)
   refine Qr zsX rfl rfl (fun b_6=>?_)
   refine zS Yi ?_
   refine zN (Qg ?_)
   refine zL Qs ?_
   refine zB ?_
   refine zS Yi ?_
   refine Qb ?_
   exact zn (h:=⟨9-(k+1),by omega,k+1,_,_,rfl,rfl,hB2,rfl,by omega,hy2⟩)
  have hge_k:9≤k:=by have h:=hc21;simp at h;omega
  have hk9:k=9:=by omega
  subst hk9
  have hy:y=zkk (onF ps) l x:=hy
  subst hy
  refine QI (Qf (Qf (Qk (Qa (Qg (zM ?_))))))
  refine zV (Qp rfl ZL (fun hg=>by exact Cells.g1) rfl) ?_
  refine Qq (ps:=[(0,_)]) (m:=[Y2 (zkk (onF ps) l x)]) K7 rfl (.cons rfl (.nil)) rfl (by simp [Z5]) (by decide) (by decide) rfl rfl (fun b_37=>?_)
  refine QY (v:=_) (ys:=[zkk (onF ps) l x].flatMap Y2) (L:=L) rfl rfl K7 hO (by repeat (first | exact .cons .here .nil | exact QD | exact Qw | apply QC | apply QB)) ⟨rfl,fun _=>rfl,zyc⟩ (zmq [zkk (onF ps) l x]) (by omega) rfl rfl ?_
  intro v9 L9 hO9 _;rw [←List.flatMap_append] at hO9
  refine zA (Qb (Qh (Qa (Qg ?_))))
  refine zB ?_
  refine zM (Qb ?_)
  first
  | exact zku rfl rfl rfl _ _ (L9++((b_1,_)::MB _)) ⟨n-(j+1),by omega,j+1,v9,_,L9,rfl,rfl,hB0,rfl,by omega,by rw [zvm hxx hex];exact hO9,by omega⟩ (.cons rfl (.cons rfl (.cons rfl (.cons rfl (.cons rfl .nil))))) List.perm_middle.symm (by repeat (first | exact .refl | exact Zg | refine Ym ?_ | refine .drop ?_ | refine Z4 ?_))
 have hge_j:n≤j:=by have h:=hc12;simp at h;omega
 obtain ⟨va,vc,rfl⟩:=zdd hO
 rw [List.take_of_length_le (by rw [hx.sg.len];exact hge_j)] at hO
 refine QI (Qf (Qf (Qk (Qa (Ql (zR (zM ?_)))))))
 refine zQ YZ ?_
 refine zC (zN ?_)
 refine zI ?_ ?_<;>intro hc42
 ·
  have hbig:exE (onF ps) l xs=2:=by unfold exE;rw [if_pos];have h1:=hO.1;rw [ZU Z5] at h1;simp at hc42;omega
  refine zR (zA ?_)
  refine zA (zN (Qt (Qc ?_)))
  first
  | exact KY (L:=_::L) (fun a ha w hw=>zvB rfl rfl rfl a ha w) (fun w hw=>⟨_,J1,[],rfl,hIc,hw.drop,by rw [hbig];exact zkh.empty rfl⟩)
 have hbig:exE (onF ps) l xs=0:=by unfold exE;rw [if_neg];have h1:=hO.1;rw [ZU Z5] at h1;simp at hc42;omega
 refine Qo (Qa (zR (zM ?_)))
 refine zA ?_
 refine zA (zN (Qt ?_))
 first
 | exact KY (L:=_::L) (fun a ha w hw=>zvB rfl rfl rfl a ha w) (fun w hw=>by obtain ⟨I9,h91,h92,h93⟩:=OwnS.res hO Z5 (by decide) (hw.subL (.drop .refl));obtain ⟨_,a9,c9,e9,h94⟩:=h93;cases e9;exact ⟨_,I9,[],rfl,hIc.trans h91,h92,by rw [hbig];exact zkh.good rfl rfl h94⟩)
end
section
open Go Go.Kn Go.Proofs
theorem w_Signs {I:Qu}{av:Option Addr}{n c:Nat}{ps:List Pt}(hP:SlP I av n c ps)(hn:n≤100000){bv:Option Addr}{n2 c2:Nat}{bs:List Sg}(hB:Sl I 14 Y2 bv n2 c2 bs)(hn2:n2≤100000){dv:Option Addr}{n3 c3:Nat}{ws:List Int}(hV:Sl I 1 QR dv n3 c3 ws)(hn3:n3≤100000):Yg Tryz.prog 45 [.slice av n c,.slice bv n2 c2,.slice dv n3 c3] I [] (zkh (zdf ps bs ws) (zfS ps bs ws)):=by
 intro g H w hw
 refine qe Tryz.func45 Tryz.ntmps45 hw ?_
 have hIc:=zye I
 refine zR (zA ?_)
 refine zA ?_
 refine zN (zR ?_)
 refine zM ?_
 refine zM ?_
 refine zM ?_
 refine Qz (cap:=[]) (vs:=[_,_,_]) rfl rfl zsq .nil (zs6 hP hn hB hn2 hV hn3) rfl rfl ?_
 rintro vv1 I1 L1 hI1 ⟨rfl,m1,m2,m3,a9,n9,c9,rfl,hst⟩
 have hIc:=hIc.trans hI1
 refine zM ?_
 refine zE ?_
 refine zE ?_
 refine Qr znJ rfl rfl (fun b_8=>?_)
 refine zh Uf ?_
 refine zA (zN (Ql (zR ?_)))
 refine zM ?_
 refine zC (zN ?_)
 refine zI ?_ ?_<;>intro hc17
 ·
  have he:XT ps bs ws≠0:=by simpa using hc17
  refine zR (zM ?_)
  refine zA ?_
  refine zA (zN (Qt (Qc ?_)))
  first
  | exact Zx rfl rfl rfl (fun w hw=>⟨_,I1,[],rfl,hIc,hw.drop,by unfold zfS;rw [zo7 he];exact zkh.empty (zmr he)⟩)
 have he:XT ps bs ws=0:=by simpa using hc17
 obtain ⟨r1,r2,r3,rfl,rfl,rfl,hx⟩:=hst he
 have hn9:n9≤5000:=by have h1:=hx.sg.len;have h2:=zlU bs (Yb ps ws);have h3:=hx.fewl;have h4:=(zem (zwm he)).1;omega
 refine Qo (Qa (zR ?_))
 refine zV (Qp rfl Y4 (fun hg=>by exact Cells.g0) rfl) ?_
 refine Qz (cap:=[]) (vs:=[_]) rfl rfl zsp .nil (zhX hx (by omega) (zr1 he)) rfl rfl ?_
 rintro vv2 I2 L2 hI2 ⟨rfl,av8,c8,rfl,hR⟩
 have hIc:=hIc.trans hI2
 refine zE ?_
 refine zE ?_
 refine zA ?_
 refine zA (zN (Qt ?_))
 first
 | exact Zx rfl rfl rfl (fun w hw=>⟨_,I2,[],rfl,hIc,hw.drop,zkh.good (znQ he).symm (by unfold zfS;rw [znQ he];rfl) hR⟩)
end
section
open Go Go.Kn Go.Proofs
def zoZ (ps:List Pt)(p:Pt):List Bool:=ps.map fun q=>onF ps p.id q.id
end
section
open Go Go.Kn Go.Proofs
end
end Go.Proofs.YtodakphagkommaaGreatDoor.R
namespace Go.Kn
section
open Go
section
variable {C:Cx} {Q:Exit→Act→World→Prop} {E:Env} {I:Qu} {loc:Loc} {ops:Array Oper} {rest:List Oper} {dst:Option Tmp} {ty:TypeId} {pos:String} {af:Array Edge} {gd:Option (Nat×Bool)} {x:Operand}
theorem zmw {t e n c b off t':Nat}{z:Value}{zc A:List Value}(F:List Value→Loc)(hx:QA [] E x=some (.slice (some ⟨b,off,none⟩) n c))(hT:C.P.underlying t=some (.slice e))(hz:Yp C.P e z)(hzc:z.cells=zc.toArray)(h1:Yx zc=true)
  (hle:off+n*zc.length≤A.length)(hG:gd=none)(hdst:dst=none)(hu:∀ zs:List Value,Upd loc b (.cells A.toArray t' (0,0)) (.cells (A.take off++(zs++A.drop (off+n*zc.length))).toArray t' (0,0)) (F zs))
  (h:∀ zs:List Value,zs.length=n*zc.length→XO C Q ops rest [] E I (F zs)):
  XO C Q ops (⟨dst,.call ⟨.builtin .clear, #[x], #[t]⟩,ty,pos,af,gd⟩::rest) [] E I loc:=
 Z9 hG (by intro c e;cases e) fun a w ha hw=>by
  subst hdst
  have hsz:(Builtin.zeroCells z.cells n).toList.length=n*zc.length:=by rw [Array.length_toList,KF,hzc];simp
  have hz1:∀ v∈(Builtin.zeroCells z.cells n).toList,v.oneCell'=true:=by
   intro v hv
   rw [Array.mem_toList_iff] at hv
   unfold Builtin.zeroCells at hv
   rw [hzc] at hv
   simp at hv
   obtain ⟨q,hq,h2⟩:=hv
   have hp:0<zc.length:=Nat.pos_of_ne_zero fun e=>by rw [e] at hq;simp at hq
   rw [List.getElem?_eq_getElem (Nat.mod_lt _ hp)] at h2
   exact V9 h1 v (by rw [←h2];exact List.getElem_mem _)
  have e:A=A.take off++((A.drop off).take (n*zc.length)++A.drop (off+n*zc.length)):=by
   have:(A.drop off).take (n*zc.length)++A.drop (off+n*zc.length)=A.drop off:=by rw [←List.drop_drop];exact List.take_append_drop _ _
   rw [this,List.take_append_drop]
  have hu2:=hu (Builtin.zeroCells z.cells n).toList
  have hu3:Upd loc b (.cells (A.take off++((A.drop off).take (n*zc.length)++A.drop (off+n*zc.length))).toArray t' (0,0)) (.cells (A.take off++((Builtin.zeroCells z.cells n).toList++A.drop (off+n*zc.length))).toArray t' (0,0)) (F (Builtin.zeroCells z.cells n).toList):=by rw [←e];exact hu2
  obtain ⟨w',hr,hs'⟩:=Y3 (P:=C.P) (off:=off) (Builtin.zeroCells z.cells n).toList (A.take off) w loc _ b t' ((A.drop off).take (n*zc.length)) 0 (by rw [List.length_take];omega) (by rw [hsz,List.length_take,List.length_drop];omega) hz1 hw hu3
  have hrun:(Builtin.clear_ #[t] ty #[.slice (some ⟨b,off,none⟩) n c]).run C.P w= .ok (.tuple #[]) w':=by
   have h0:n=0→w'=w:=by
    intro hn;subst hn
    have:(Builtin.zeroCells z.cells 0).toList=[]:=List.length_eq_zero_iff.1 (by rw [hsz];omega)
    rw [this] at hr
    simp [storeCells] at hr
    exact hr.symm
   cases n with
   | zero=>rw [h0 rfl];simp [Builtin.clear_,run_underlying hT,Result.andThen]
   | succ k=>simp [Builtin.clear_,Sem.run_bind,run_underlying hT,Result.andThen,ZQ hz,hr]
  simp only [execOp,resolve,List.map_toArray,List.map_cons,List.map_nil,Qj (S:=[]) ha trivial rfl hx,Sem.run_bind,Sem.run_pure,Result.andThen,invoke,builtin,hrun,Oper.uponIn_value]
  exact h _ hsz _ _ ha trivial hs'
end
end
section
open Go
section
variable {C:Cx} {Q:Exit→Act→World→Prop} {E:Env} {I:Qu} {loc L R:Loc} {ops:Array Oper} {rest:List Oper} {dst:Option Tmp} {d:Nat} {ty:TypeId} {pos:String} {af:Array Edge} {gd:Option (Nat×Bool)}
theorem zja {P:Program}{a:Act}{w:World}{f:FuncId}{pre cap:List Value}{l:List Operand}{vs:List Value}{tys:Array TypeId}{cal:Operand}
  (he:a.eval cal= .func (.func f) pre.toArray cap.toArray)(hl:l.map a.eval=vs)(hF:Fun P f):
  (execOp a.eval ⟨dst,.call ⟨.value cal,l.toArray,tys⟩,ty,pos,af,gd⟩).run P w= .ok (.enter f (pre++(vs++cap)).toArray) w:=by
 simp only [execOp,resolve,he,List.map_toArray,hl,Deferred.ofValue,Sem.run_bind,Sem.run_pure,Result.andThen,invoke,Vz hF]
 simp
theorem ziP {f:FuncId}{pre cap:List Value}{l:List Operand}{vs:List Value}{tys:Array TypeId}{cal:Operand}{K:Value→Qu→Loc→Prop}
  (he:QA [] E cal=some (.func (.func f) pre.toArray cap.toArray))(hl:l.map (QA [] E)=vs.map some)(hF:Fun C.P f)(hsp:YF loc L R)(hc:Yg C.P f (pre++(vs++cap)) I L K)
  (hG:gd=none)(hN:Nat.blt d C.N=true)(h:∀ v I' L',HLe I I'→K v I' L'→XO C Q ops rest [] ((d,v)::E) I' (L'++R)):
  XO C Q ops (⟨some d,.call ⟨.value cal,l.toArray,tys⟩,ty,pos,af,gd⟩::rest) [] E I loc:=by
 intro a w ha hg hw
 have hG':Zn ops [] E ⟨some d,.call ⟨.value cal,l.toArray,tys⟩,ty,pos,af,gd⟩:=.none hG
 simp only [wpListIn]
 rw [hG'.wanted ha hg]
 simp only [ZX,if_true,Oper.wpIn]
 refine ⟨fun _ _=>trivial,?_⟩
 rw [Oper.semAt_eq _ _ _ (by intro c e;cases e),zja (Qj ha hg rfl he) (Vq ha hg rfl hl) hF,Oper.uponIn_enter]
 refine ⟨by simp [FR],Wb.2 ((hc.frame hsp hw).mono ?_)⟩
 rintro e w' ⟨v,I',L',rfl,hI,hs,hk⟩
 have hp:=Yh ha hg hN rfl v
 exact h v I' L' hI hk _ _ hp.1 hp.2 hs
end
end
end Go.Kn
namespace Go.Proofs.YtodakphagkommaaGreatDoor.R
section
open Go Go.Kn Go.Proofs
structure Tx where
 bv:Option Addr
 n2:Nat
 c2:Nat
 no:Int
 a1:Option Addr
 n1:Nat
 d1:Nat
 a2:Option Addr
 n3:Nat
 d2:Nat
 a3:Option Addr
 n4:Nat
 d3:Nat
 r:Nat
 lv:Option Addr
 ln:Nat
 lc:Nat
 sv:Option Addr
 sn:Nat
 sc:Nat
def Kg (t:Tx):List Value:=[.slice t.bv t.n2 t.c2,.int .i64 t.no,.slice t.a1 t.n1 t.d1,.slice t.a2 t.n3 t.d2,.slice t.a3 t.n4 t.d3,.map (some t.r),.slice t.lv t.ln t.lc,.slice t.sv t.sn t.sc]
structure zgx (I:Qu)(t:Tx)(rows:List (List Int))(es:List Em)(rd:List Int)(ps l:List Pt)(s:List Sg):Prop where
 V:SlN I t.bv t.n2 t.c2 rows
 E:Sl I 3 Yy t.a2 t.n3 t.d2 es
 R:Sl I 1 QR t.a3 t.n4 t.d3 rd
 M:OnM I t.r ps
 L:SlP I t.lv t.ln t.lc l
 S:Sl I 14 Y2 t.sv t.sn t.sc s
 b2:t.n2≤100000
 b3:t.n3≤100000
 b4:t.n4≤100000
 bl:t.ln≤100000
 bs:t.sn≤100000
 sub:∀ q∈l,∃ z∈ps,z.id=q.id
theorem zgx.mono {I I':Qu}{t:Tx}{rows:List (List Int)}{es:List Em}{rd:List Int}{ps l:List Pt}{s:List Sg}(h:zgx I t rows es rd ps l s)(hI:HLe I I'):zgx I' t rows es rd ps l s:=
 ⟨h.V.mono hI,h.E.mono hI,h.R.mono hI,h.M.mono hI,h.L.mono hI,h.S.mono hI,h.b2,h.b3,h.b4,h.bl,h.bs,h.sub⟩
def zwp:List Pt→List Int
 | []=>[]
 | p::r=>((p::r).filter fun q=>zag q.nw p.nw).map (·.id)
def zOg:Og:=⟨0,0,[],[]⟩
def zpa (rows:List (List Int))(q:Nat)(c:Int):Int:=if K8 (fun r:List Int=>r.getD q 0==c) rows<0 then K8 (zwj q) rows else K8 (fun r:List Int=>r.getD q 0==c) rows
def or1 (on:Int→Int→Bool)(l:List Pt)(s f:Int):Og×Bool:=(⟨3,0,[],zwp (zc5 on l s f)⟩,decide (0<(zc5 on l s f).length))
def inP (s:Int)(q:Pt):Bool:=q.kind==2&&q.sign==s
def or2 (l:List Pt)(s:Int):Og×Bool:=match l.find? (inP s) with
 | some q=>(⟨3,0,[],[q.id]⟩,true)
 | none=>(zOg,false)
def isT (f:Int):Bool:=f==2||f==3||f==9
def or3 (rows:List (List Int))(rd:List Int)(s f:Int):Og×Bool:=if isT f then (⟨1,0,[zpa rows s.toNat (rd.getD s.toNat 0)],[]⟩,true) else (zOg,false)
def or4 (es:List Em)(s:Int):Og×Bool:=(⟨2,2,[],[]⟩,es.any (zxE s))
def or5 (rows:List (List Int))(rd:List Int)(s:Int):Og×Bool:=(⟨1,0,KZ rows s.toNat (rd.getD s.toNat 0),[]⟩,true)
def orK (on:Int→Int→Bool)(rows:List (List Int))(es:List Em)(rd:List Int)(l:List Pt)(s f:Int)(k:Nat):Og×Bool:=
 if k=0 then or1 on l s f else if k=1 then or2 l s else if k=2 then or3 rows rd s f else if k=3 then or4 es s else or5 rows rd s
def zah (on:Int→Int→Bool)(rows:List (List Int))(es:List Em)(rd:List Int)(l:List Pt)(s f:Int):Og:=
 if (or1 on l s f).2 then (or1 on l s f).1 else if (or2 l s).2 then (or2 l s).1 else if (or3 rows rd s f).2 then (or3 rows rd s f).1 else if (or4 es s).2 then (or4 es s).1 else (or5 rows rd s).1
theorem zju {on:Int→Int→Bool}{rows:List (List Int)}{es:List Em}{rd:List Int}{l:List Pt}{s f:Int}{k:Nat}(hk:k<5)(h:∀ j,j<k→(orK on rows es rd l s f j).2=false)(hy:(orK on rows es rd l s f k).2=true):(orK on rows es rd l s f k).1=zah on rows es rd l s f:=by
 have e0:0<k→(or1 on l s f).2=false:=h 0
 have e1:1<k→(or2 l s).2=false:=h 1
 have e2:2<k→(or3 rows rd s f).2=false:=h 2
 have e3:3<k→(or4 es s).2=false:=h 3
 unfold zah
 match k,hk with
 | 0,_=>rw [if_pos (show (or1 on l s f).2=true from hy)];rfl
 | 1,_=>rw [if_neg (by rw [e0 (by decide)];decide),if_pos (show (or2 l s).2=true from hy)];rfl
 | 2,_=>rw [if_neg (by rw [e0 (by decide)];decide),if_neg (by rw [e1 (by decide)];decide),if_pos (show (or3 rows rd s f).2=true from hy)];rfl
 | 3,_=>rw [if_neg (by rw [e0 (by decide)];decide),if_neg (by rw [e1 (by decide)];decide),if_neg (by rw [e2 (by decide)];decide),if_pos (show (or4 es s).2=true from hy)];rfl
 | 4,_=>rw [if_neg (by rw [e0 (by decide)];decide),if_neg (by rw [e1 (by decide)];decide),if_neg (by rw [e2 (by decide)];decide),if_neg (by rw [e3 (by decide)];decide)];rfl
def OgV (I:Qu)(o:Og)(vs:List Value):Prop:=∃ a n c b m d,vs=[.int .i64 o.k,.int .i64 o.r,.slice a n c,.slice b m d]∧Sl I 1 QR a n c o.ws∧Sl I 1 QR b m d o.ps
def FrQ (q:Og×Bool)(v:Value)(I:Qu)(L:Go.Kn.Loc):Prop:=L=[]∧∃ vs,v= .tuple #[.agg vs.toArray,.bool q.2]∧OgV I q.1 vs
theorem zm9 {I:Qu}{b n t:Nat}{A:List Value}{zs:List Pt}(hA:A.take (n*19)=zs.flatMap Yz){k:Nat}{p:Pt}(hp:zs[k]? =some p){loc:Go.Kn.Loc}:Cells I ((b,.cells A.toArray t (0,0))::loc) b (k*19) (Yz p):=by
 intro j u hu
 have hl:=XL QZ zs k p hp j u hu
 have:A[k*19+j]? =some u:=by
  rw [←hA,List.getElem?_take] at hl
  split at hl
  ·
   exact hl
  ·
   cases hl
 exact .here (by rw [Y8];simpa using this)
theorem zoi {B:List Value}{i n c:Nat}{p:Pt}(hl:B.length=c*19)(hn:n≤c)(hi:i<n):(Vr B (i*19) (Yz p)).length=c*19:=by
 rw [XW (n:=19) (by omega) (QZ p)]
 simp only [List.length_append,List.length_take,List.length_drop,QZ];omega
theorem zkz {B:List Value}{zs:List Pt}{i n c:Nat}{p:Pt}(hB:B.take (n*19)=zs.flatMap Yz)(hl:B.length=c*19)(hn:n≤c)(hz:zs.length=n)(hi:i<n):(Vr B (i*19) (Yz p)).take (n*19)=(zs.set i p).flatMap Yz:=by
 rw [XW (n:=19) (by omega) (QZ p)]
 have hz2:zs.set i p=zs.take i++p::zs.drop (i+1):=by rw [List.set_eq_take_append_cons_drop,if_pos (by omega)]
 have hf:∀ k,k≤n→(zs.take k).flatMap Yz=B.take (k*19):=by
  intro k hk
  have h1:zs.flatMap Yz=(zs.take k).flatMap Yz++(zs.drop k).flatMap Yz:=by rw [←List.flatMap_append,List.take_append_drop]
  have h2:((zs.take k).flatMap Yz).length=k*19:=by rw [ZU QZ,List.length_take];congr 1;omega
  have h3:=congrArg (List.take (k*19)) h1
  rw [←hB,List.take_take,Nat.min_eq_left (by omega),List.take_append_of_le_length (by omega),←h2,List.take_length] at h3
  rw [←h3,h2]
 have hd:(zs.drop (i+1)).flatMap Yz=(B.take (n*19)).drop ((i+1)*19):=by
  have h1:zs.flatMap Yz=(zs.take (i+1)).flatMap Yz++(zs.drop (i+1)).flatMap Yz:=by rw [←List.flatMap_append,List.take_append_drop]
  have h2:((zs.take (i+1)).flatMap Yz).length=(i+1)*19:=by rw [ZU QZ,List.length_take];congr 1;omega
  rw [hB,h1,←h2,List.drop_left]
 rw [hz2,List.flatMap_append,List.flatMap_cons,hf i (by omega),hd]
 have e1:(B.take (i*19)).length=i*19:=by rw [List.length_take];omega
 have t1:(B.take (i*19)).take (n*19)=B.take (i*19):=List.take_of_length_le (by rw [e1];omega)
 have t2:(Yz p).take (n*19-i*19)=Yz p:=List.take_of_length_le (by rw [QZ];omega)
 rw [List.take_append,e1,t1,List.take_append,t2,QZ,List.drop_take]
 rw [show (i+1)*19=i*19+19 by omega,show n*19-i*19-19=n*19-(i*19+19) by omega]
structure DlQ (P:Pt→Bool)(ps:List Pt)(n c i j:Nat)(zs:List Pt)(B:List Value):Prop where
 hB:B.take (n*19)=zs.flatMap Yz
 hz:zs.length=n
 hl:B.length=c*19
 hk:zs.take i=(ps.take j).filter fun p=> !P p
 hd:zs.drop j=ps.drop j
 hij:i<j
 hjn:j≤n
theorem DlQ.at {P:Pt→Bool}{ps:List Pt}{n c i j:Nat}{zs:List Pt}{B:List Value}(h:DlQ P ps n c i j zs B){p:Pt}(hp:ps[j]? =some p):zs[j]? =some p:=by
 have h1:=congrArg (fun l=>l[0]?) h.hd
 simp only [List.getElem?_drop,Nat.add_zero] at h1
 rw [h1];exact hp
theorem DlQ.keep {P:Pt→Bool}{ps:List Pt}{n c i j:Nat}{zs:List Pt}{B:List Value}(h:DlQ P ps n c i j zs B){p:Pt}(hp:ps[j]? =some p)(hP:P p=false)(hn:n≤c)(hjn:j<n):DlQ P ps n c (i+1) (j+1) (zs.set i p) (Vr B (i*19) (Yz p)):=
  ⟨zkz h.hB h.hl hn h.hz (by have:=h.hij;omega),by rw [List.length_set];exact h.hz,zoi h.hl hn (by have:=h.hij;omega),
   by rw [Wj (P:=fun p=> !P p) hp (by rw [hP];rfl),←h.hk,List.take_add_one,List.take_set_of_le (by omega),List.getElem?_set_self (by have:=h.hij;have:=h.hz;omega)];rfl,
   by rw [List.drop_set_of_lt (by have:=h.hij;omega)];have h1:=congrArg (List.drop 1) h.hd;rw [List.drop_drop,List.drop_drop] at h1;exact h1,by have:=h.hij;omega,by omega⟩
theorem DlQ.drop {P:Pt→Bool}{ps:List Pt}{n c i j:Nat}{zs:List Pt}{B:List Value}(h:DlQ P ps n c i j zs B){p:Pt}(hp:ps[j]? =some p)(hP:P p=true)(hjn:j<n):DlQ P ps n c i (j+1) zs B:=
 ⟨h.hB,h.hz,h.hl,by rw [zaA (P:=fun p=> !P p) hp (by rw [hP];rfl)];exact h.hk,by have h1:=congrArg (List.drop 1) h.hd;rw [List.drop_drop,List.drop_drop] at h1;exact h1,by have:=h.hij;omega,by omega⟩
theorem DlQ.new {P:Pt→Bool}{ps:List Pt}{n c i:Nat}{A:List Value}{p:Pt}(hA:A.take (n*19)=ps.flatMap Yz)(hz:ps.length=n)(hl:A.length=c*19)(hi:ps[i]? =some p)(hP:P p=true)(hno:(ps.take i).any P=false):DlQ P ps n c i (i+1) ps A:=
 ⟨hA,hz,hl,by
  rw [zaA (P:=fun p=> !P p) hi (by rw [hP];rfl),List.filter_eq_self.2]
  intro q hq;rw [List.any_eq_false] at hno;simpa using hno q hq,rfl,by omega,by have:=(List.getElem?_eq_some_iff.1 hi).1;omega⟩
theorem DlQ.own {P:Pt→Bool}{ps:List Pt}{n c i j:Nat}{zs:List Pt}{B zc:List Value}{b t:Nat}(h:DlQ P ps n c i j zs B)(hj:n≤j)(hps:ps.length=n)(hn:n≤c)(hc:c≤maxLen)(hzc:zc.length=(n-i)*19):
  OwnS t 19 (.slice (some ⟨b,0,none⟩) i c) i ((ps.filter fun p=> !P p).flatMap Yz) [(b,.cells (B.take (0+i*19)++(zc++B.drop (0+i*19+(n-i)*19))).toArray t (0,0))]:=by
 rw [Nat.zero_add]
 have hij:=h.hij
 have hjn:=h.hjn
 have hBl:=h.hl
 have e1:(B.take (i*19)).length=i*19:=by rw [List.length_take];omega
 have hf:ps.filter (fun p=> !P p)=zs.take i:=by rw [h.hk,List.take_of_length_le (by omega)]
 have hfl:(ps.filter fun p=> !P p).flatMap Yz=B.take (i*19):=by
  rw [hf]
  have h1:zs.flatMap Yz=(zs.take i).flatMap Yz++(zs.drop i).flatMap Yz:=by rw [←List.flatMap_append,List.take_append_drop]
  have h2:((zs.take i).flatMap Yz).length=i*19:=by rw [ZU QZ,List.length_take];have:=h.hz;congr 1;omega
  have h3:=congrArg (List.take (i*19)) h1
  rw [←h.hB,List.take_take,Nat.min_eq_left (by omega),List.take_append_of_le_length (by omega),←h2,List.take_length] at h3
  rw [←h3,h2]
 refine ⟨by rw [hfl,e1],.inr ⟨b,c,_,rfl,rfl,by omega,hc,?_,?_⟩⟩
 ·
  simp only [List.size_toArray,List.length_append,e1,hzc,List.length_drop];omega
 ·
  rw [hfl]
  show ((B.take (i*19)++(zc++B.drop (i*19+(n-i)*19)))).take (i*19)=_
  rw [List.take_append_of_le_length (by omega),List.take_of_length_le (by omega)]
theorem zwC {P:Pt→Bool}{ps:List Pt}{n c i j:Nat}{zs:List Pt}{B:List Value}(h:DlQ P ps n c i j zs B)(hn:n≤c)(hj:j<n):Nat.ble (i*19+19) (c*19)=true:=Nat.ble_eq_true_of_le (by have:=h.hij;omega)
theorem zvg {P:Pt→Bool}{ps:List Pt}{n c i j:Nat}{zs:List Pt}{B:List Value}(h:DlQ P ps n c i j zs B)(hn:n≤c):0+i*19+(n-i)*19≤c*19:=by have:=h.hij;have:=h.hjn;omega
theorem zwa {b n c t:Nat}{A:List Value}{ps:List Pt}(_hA:A.take (n*19)=ps.flatMap Yz)(hAl:A.length=c*19)(_hl:ps.length=n)(hnc:n≤c)(hc:c≤maxLen):OwnS t 19 (.slice (some ⟨b,0,none⟩) n c) n (A.take (n*19)) [(b,.cells A.toArray t (0,0))]:=
 ⟨by rw [List.length_take];omega,.inr ⟨b,c,_,rfl,rfl,hnc,hc,by simp [hAl],by simp⟩⟩
theorem zhc {α:Type}{xs:List α}{P:α→Bool}(h:xs.any P=true):∃ (i:Nat) (x:α),K8 P xs=(i:Nat)∧xs[i]? =some x∧P x=true∧(xs.take i).any P=false:=by
 obtain ⟨x,hx,hp⟩:=List.any_eq_true.1 h
 have hl:=List.findIdx_lt_length_of_exists ⟨x,hx,hp⟩
 refine ⟨xs.findIdx P,xs[xs.findIdx P],by unfold K8;rw [h];rfl,List.getElem?_eq_getElem hl,List.findIdx_getElem,?_⟩
 rw [List.any_eq_false]
 intro y hy
 obtain ⟨k,hk,rfl⟩:=List.getElem_of_mem hy
 rw [List.length_take] at hk
 rw [List.getElem_take]
 exact Bool.eq_false_iff.1 (List.not_of_lt_findIdx (Nat.lt_of_lt_of_le hk (Nat.min_le_left ..)))
def zj3 (ls:List Pt)(k:Nat):List Pt:=(ls.take k).filter fun q=>zag q.nw ((ls.getD 0 WR).nw)
theorem zxp {ls:List Pt}:((zj3 ls 0).map (·.id)).flatMap QR=[]:=by unfold zj3;rw [List.take_zero];rfl
theorem zp6 {ls:List Pt}{k:Nat}{p:Pt}(hp:ls[k]? =some p)(h:zag p.nw ((ls.getD 0 WR).nw)=true):(zj3 ls (k+1)).map (·.id)=(zj3 ls k).map (·.id)++[p.id]:=by
 unfold zj3;rw [Wj hp h,List.map_append];rfl
theorem zsZ {ls:List Pt}{k:Nat}{p:Pt}(hp:ls[k]? =some p)(h:zag p.nw ((ls.getD 0 WR).nw)=false):(zj3 ls (k+1)).map (·.id)=(zj3 ls k).map (·.id):=by
 unfold zj3;rw [zaA hp h]
theorem zqQ {ls:List Pt}{k m:Nat}(hm:ls.length=m)(hk:k=m):(zj3 ls k).map (·.id)=zwp ls:=by
 unfold zj3;rw [List.take_of_length_le (by omega)]
 cases ls with
 | nil=>rfl
 | cons p r=>rfl
theorem zrZ {on:Int→Int→Bool}{l:List Pt}{s f:Int}{m:Nat}(hm:(zc5 on l s f).length=m):(or1 on l s f).2=decide ((m:Int)>0):=by
 show decide (0<(zc5 on l s f).length)=_
 rw [hm];cases m<;>simp
theorem zbi {l:List Pt}{s:Int}{k:Nat}{p:Pt}(hno:(l.take k).any (inP s)=false)(hp:l[k]? =some p)(h:inP s p=true):or2 l s=(⟨3,0,[],[p.id]⟩,true):=by
 have:l.find? (inP s)=some p:=by
  have e:l=l.take k++p::l.drop (k+1):=by
   rw [←Z2 hp,List.take_append_drop]
  rw [e,List.find?_append,List.find?_eq_none.2 (by rw [List.any_eq_false] at hno;exact hno),List.find?_cons,h];rfl
 unfold or2;rw [this]
theorem zeL {l:List Pt}{s:Int}(hno:l.any (inP s)=false):or2 l s=(zOg,false):=by
 unfold or2;rw [List.find?_eq_none.2 (by rw [List.any_eq_false] at hno;exact hno)]
theorem zbZ {rows:List (List Int)}{rd:List Int}{q:Nat}{f:Int}(h:isT f=true):or3 rows rd (q:Int) f=(⟨1,0,[zpa rows q (rd.getD q 0)],[]⟩,true):=if_pos h
theorem zeD {rows:List (List Int)}{rd:List Int}{s:Int}{f:Int}(h:isT f=false):or3 rows rd s f=(zOg,false):=if_neg (by rw [h];decide)
theorem zv3 {rows:List (List Int)}{q:Nat}{c:Int}(h:decide (K8 (fun r:List Int=>r.getD q 0==c) rows<0)=true):K8 (zwj q) rows=zpa rows q c:=by unfold zpa;rw [if_pos (by simpa using h)]
theorem zwF {rows:List (List Int)}{q:Nat}{c:Int}(h:decide (K8 (fun r:List Int=>r.getD q 0==c) rows<0)=false):K8 (fun r:List Int=>r.getD q 0==c) rows=zpa rows q c:=by unfold zpa;rw [if_neg (by simpa using h)]
def zdL (f:Nat)(t:Tx)(k:Nat):List Value:=[.func (.func (f+k)) #[.agg (Kg t).toArray] #[]]
theorem zx3 {k:Nat}(h:k<5):([0,1,2,3,4]:List Nat)[k]? =some k:=by
 match k,h with
 | 0,_=>rfl
 | 1,_=>rfl
 | 2,_=>rfl
 | 3,_=>rfl
 | 4,_=>rfl
theorem ziG {f:Int}:([2,3,9]:List Int).any (fun y=>f==y)=isT f:=by simp only [List.any_cons,List.any_nil,Bool.or_false,isT,Bool.or_assoc]
theorem zrm {b:Bool}(h:(!b)=true):b=false:=by cases b<;>simp_all
theorem zf3 {b:Bool}(h:(!b)=false):b=true:=by cases b<;>simp_all
end
section
open Go Go.Kn Go.Proofs
theorem zq8:Fun Tryz.prog 170:=.of Tryz.func170 (by kernel_rfl) (by kernel_rfl)
theorem zr8:Fun Tryz.prog 69:=.of Tryz.func69 (by kernel_rfl) (by kernel_rfl)
theorem zaC:MpT Tryz.prog 55 3 4 (.bool false):=⟨by kernel_rfl,.of (by kernel_rfl)⟩
theorem zcZ:MpT Tryz.prog 96 3 55 (.map none):=⟨by kernel_rfl,.of (by kernel_rfl)⟩
theorem zuy:Tryz.prog.underlying 36=some (.slice 57):=by kernel_rfl
theorem zwt {I:Qu}{av:Option Addr}{n c:Nat}{xs:List Sg}(hS:Sl I 14 Y2 av n c xs)(hn:n≤100000){fid:Nat}{cap:List Value}{P:Sg→Bool}(hF:Fun Tryz.prog fid)(hf:∀ x∈xs,Zw Tryz.prog fid ([JX x]++cap) I (.bool (P x))):Zw Tryz.prog 69 [.slice av n c,.func (.func fid) #[] cap.toArray] I (.int .i64 (K8 P xs)):=by
 intro g H w hw
 refine qe Tryz.func69 Tryz.ntmps69 hw ?_
 have hS:=hS
 refine zR (zA (zN (Ql (zR ?_))))
 refine zM ?_
 refine zQ YZ ?_
 refine zM (zN (Qm ?_))
 refine zU [(0,_),(1,_),(7,_)] (fun T L0 mz E I' loc'=>∃ (k:Nat),mz=n-k∧E=(8,.int .i64 k)::T∧I=I'∧L0=loc'∧k≤n∧(xs.take k).any P=false) ?_ (h:=⟨0,rfl,rfl,rfl,rfl,Nat.zero_le _,rfl⟩)
 rintro mz E I' loc' ⟨k,rfl,rfl,rfl,rfl,hk,hno⟩
 refine zR (zC (zN (Ql ?_)))
 refine zI ?_ ?_<;>intro hc9
 ·
  have hlt_k:k<n:=by have h:=hc9;simp at h;omega
  obtain ⟨x,hx⟩:=hS.at hlt_k
  refine Qo (Qa (Ql (Qm (zR (zM ?_)))))
  refine zA ?_
  refine zN (zR ?_)
  refine zM ?_
  refine zM ?_
  refine zM ?_
  refine zV (QF rfl rfl YZ (by assumption) (fun hg=>by omega)) ?_
  refine zV (Qp rfl ZL (fun hg=>by exact zyf hS hx) rfl) ?_
  refine YQ (cap:=cap) (vs:=[_]) rfl rfl hF (hf x (List.mem_of_getElem? hx)) rfl rfl ?_
  refine zN ?_
  refine zI ?_ ?_<;>intro hc16
  ·
   refine zR (zM ?_)
   refine zA (zN (Qt (Qn (Qc (Qc (Qn (Qc ?_)))))))
   exact zr rfl rfl (by rw [Jd hno hx hc16])
  refine Qo (Qh (Qa (Qg (zB ?_))))
  refine zM (Qb ?_)
  exact zm (h:=⟨n-(k+1),by omega,k+1,rfl,rfl,rfl,rfl,by omega,YX hx hno hc16⟩)
 have hge_k:n≤k:=by have h:=hc9;simp at h;omega
 refine QI (Qf (Qf (Qk (Qa (zR (zA (zN ?_)))))))
 refine Qt ?_
 exact zr rfl rfl (by rw [Vv hS.len hge_k hno])
theorem zwr {I:Qu}{av:Option Addr}{n c:Nat}{xs:List Sg}(hS:Sl I 14 Y2 av n c xs)(hn:n≤100000){fid:Nat}{cap:List Value}{P:Sg→Bool}(hF:Fun Tryz.prog fid)(hf:∀ x∈xs,Zw Tryz.prog fid ([JX x]++cap) I (.bool (P x))):Zw Tryz.prog 37 [.slice av n c,.func (.func fid) #[] cap.toArray] I (.bool (xs.any P)):=by
 intro g H w hw
 refine qe Tryz.func37 Tryz.ntmps37 hw ?_
 refine zR (zA ?_)
 refine zN (zR ?_)
 refine zM ?_
 refine zM ?_
 refine qc (vs:=[_,_]) rfl zr8 (zwt hS hn hF hf) ?_
 refine zC ?_
 refine zA (zN (Qt ?_))
 exact zr rfl rfl (by rw [←KE])
theorem zv7 {I:Qu}{av:Option Addr}{n c:Nat}{xs:List Em}(hS:Sl I 3 Yy av n c xs)(hn:n≤100000){fid:Nat}{cap:List Value}{P:Em→Bool}(hF:Fun Tryz.prog fid)(hf:∀ x∈xs,Zw Tryz.prog fid ([.agg (Yy x).toArray]++cap) I (.bool (P x))):Zw Tryz.prog 170 [.slice av n c,.func (.func fid) #[] cap.toArray] I (.int .i64 (K8 P xs)):=by
 intro g H w hw
 refine qe Tryz.func170 Tryz.ntmps170 hw ?_
 have hS:=hS
 refine zR (zA (zN (Ql (zR ?_))))
 refine zM ?_
 refine zQ K5 ?_
 refine zM (zN (Qm ?_))
 refine zU [(0,_),(1,_),(7,_)] (fun T L0 mz E I' loc'=>∃ (k:Nat),mz=n-k∧E=(8,.int .i64 k)::T∧I=I'∧L0=loc'∧k≤n∧(xs.take k).any P=false) ?_ (h:=⟨0,rfl,rfl,rfl,rfl,Nat.zero_le _,rfl⟩)
 rintro mz E I' loc' ⟨k,rfl,rfl,rfl,rfl,hk,hno⟩
 refine zR (zC (zN (Ql ?_)))
 refine zI ?_ ?_<;>intro hc9
 ·
  have hlt_k:k<n:=by have h:=hc9;simp at h;omega
  obtain ⟨x,hx⟩:=hS.at hlt_k
  refine Qo (Qa (Ql (Qm (zR (zM ?_)))))
  refine zA ?_
  refine zN (zR ?_)
  refine zM ?_
  refine zM ?_
  refine zM ?_
  refine zV (QF rfl rfl K5 (by assumption) (fun hg=>by omega)) ?_
  refine zV (Qp rfl zmH (fun hg=>by exact zyf hS hx) rfl) ?_
  refine YQ (cap:=cap) (vs:=[_]) rfl rfl hF (hf x (List.mem_of_getElem? hx)) rfl rfl ?_
  refine zN ?_
  refine zI ?_ ?_<;>intro hc16
  ·
   refine zR (zM ?_)
   refine zA (zN (Qt (Qn (Qc (Qc (Qn (Qc ?_)))))))
   exact zr rfl rfl (by rw [Jd hno hx hc16])
  refine Qo (Qh (Qa (Qg (zB ?_))))
  refine zM (Qb ?_)
  exact zm (h:=⟨n-(k+1),by omega,k+1,rfl,rfl,rfl,rfl,by omega,YX hx hno hc16⟩)
 have hge_k:n≤k:=by have h:=hc9;simp at h;omega
 refine QI (Qf (Qf (Qk (Qa (zR (zA (zN ?_)))))))
 refine Qt ?_
 exact zr rfl rfl (by rw [Vv hS.len hge_k hno])
theorem zwE {I:Qu}{av:Option Addr}{n c:Nat}{xs:List Em}(hS:Sl I 3 Yy av n c xs)(hn:n≤100000){fid:Nat}{cap:List Value}{P:Em→Bool}(hF:Fun Tryz.prog fid)(hf:∀ x∈xs,Zw Tryz.prog fid ([.agg (Yy x).toArray]++cap) I (.bool (P x))):Zw Tryz.prog 121 [.slice av n c,.func (.func fid) #[] cap.toArray] I (.bool (xs.any P)):=by
 intro g H w hw
 refine qe Tryz.func121 Tryz.ntmps121 hw ?_
 refine zR (zA ?_)
 refine zN (zR ?_)
 refine zM ?_
 refine zM ?_
 refine qc (vs:=[_,_]) rfl zq8 (zv7 hS hn hF hf) ?_
 refine zC ?_
 refine zA (zN (Qt ?_))
 exact zr rfl rfl (by rw [←KE])
theorem zlJ {I:Qu}{av:Option Addr}{n c:Nat}{xs:List Pt}(hS:Sl I 19 Yz av n c xs)(hn:n≤400000):Yg Tryz.prog 114 [.slice av n c] I [] (fun v I' L=>I'=I∧OwnS 57 19 v n (xs.flatMap Yz) L):=by
 intro g H w hw
 refine qe Tryz.func114 Tryz.ntmps114 hw ?_
 refine zR (zA (zN (Ql (zR ?_))))
 refine zM ?_
 refine zV (Xl rfl rfl Zz) ?_
 refine zN ?_
 refine zI ?_ ?_<;>intro hc4
 ·
  have hn0:n=0:=Decidable.byContradiction fun h=>by have:=hS.base h;rw [this] at hc4;cases hc4
  have hl:=hS.len
  subst hn0
  have hx0:=List.eq_nil_of_length_eq_zero hl
  subst hx0
  refine zR (zA (zN (Qt (Qc ?_))))
  exact Zv rfl rfl (fun w hw=>⟨_,I,_,rfl,zye _,hw,rfl,OwnS.nil⟩)
 refine Qo (Qa (zR ?_))
 refine Qq (ps:=[]) (m:=[]) US rfl (.nil) rfl (by simp) (by decide) (by decide) rfl rfl (fun b_5=>?_)
 refine zM ?_
 refine QY (v:=_) (ys:=xs.flatMap Yz) (L:=[(b_5,_)]) rfl rfl US OwnS.new (by repeat (first | exact .cons .here .nil | exact QD | exact Qw | apply QC | apply QB)) (hS.src QZ) (zks _) (by omega) rfl rfl ?_
 intro v1 L1 hO1 _;rw [List.nil_append,Nat.zero_add] at hO1
 refine zA (zN (Qt ?_))
 exact Zv rfl rfl (fun w hw=>⟨_,I,_,rfl,zye _,hw.subL Zg,rfl,hO1⟩)
theorem ztu {I:Qu}{av:Option Addr}{n c:Nat}{rows:List (List Int)}(hV:SlN I av n c rows)(hn:n≤100000){fid:Nat}{cap:List Value}{P:List Int→Bool}(hF:Fun Tryz.prog fid)(hf:∀ (h:Hd) (r:List Int),r∈rows→Sl I 1 QR h.a h.n h.c r→Zw Tryz.prog fid ([.slice h.a h.n h.c]++cap) I (.bool (P r))):Zw Tryz.prog 100 [.slice av n c,.func (.func fid) #[] cap.toArray] I (.int .i64 (K8 P rows)):=by
 intro g H w hw
 refine qe Tryz.func100 Tryz.ntmps100 hw ?_
 have hVl:=hV.len
 obtain ⟨hs,hVH⟩:=id hV
 have hS:=hVH.1
 refine zR (zA (zN (Ql (zR ?_))))
 refine zM ?_
 refine zQ Zo ?_
 refine zM (zN (Qm ?_))
 refine zU [(0,_),(1,_),(7,_)] (fun T L0 mz E I' loc'=>∃ (k:Nat),mz=n-k∧E=(8,.int .i64 k)::T∧I=I'∧L0=loc'∧k≤n∧(rows.take k).any P=false) ?_ (h:=⟨0,rfl,rfl,rfl,rfl,Nat.zero_le _,rfl⟩)
 rintro mz E I' loc' ⟨k,rfl,rfl,rfl,rfl,hk,hno⟩
 refine zR (zC (zN (Ql ?_)))
 refine zI ?_ ?_<;>intro hc9
 ·
  have hlt_k:k<n:=by have h:=hc9;simp at h;omega
  obtain ⟨hx1,rx,hx,hrx,hQ⟩:=hVH.at hlt_k
  refine Qo (Qa (Ql (Qm (zR (zM ?_)))))
  refine zA ?_
  refine zN (zR ?_)
  refine zM ?_
  refine zM ?_
  refine zM ?_
  refine zV (QF rfl rfl Zo (by assumption) (fun hg=>by omega)) ?_
  refine zV (Qd rfl QK (fun hg=>by exact zx7 hS hx rfl)) ?_
  refine YQ (cap:=cap) (vs:=[_]) rfl rfl hF (hf hx1 rx (List.mem_of_getElem? hrx) hQ) rfl rfl ?_
  refine zN ?_
  refine zI ?_ ?_<;>intro hc16
  ·
   refine zR (zM ?_)
   refine zA (zN (Qt (Qn (Qc (Qc (Qn (Qc ?_)))))))
   exact zr rfl rfl (by rw [Jd hno hrx hc16])
  refine Qo (Qh (Qa (Qg (zB ?_))))
  refine zM (Qb ?_)
  exact zm (h:=⟨n-(k+1),by omega,k+1,rfl,rfl,rfl,rfl,by omega,YX hrx hno hc16⟩)
 have hge_k:n≤k:=by have h:=hc9;simp at h;omega
 refine QI (Qf (Qf (Qk (Qa (zR (zA (zN ?_)))))))
 refine Qt ?_
 exact zr rfl rfl (by rw [Vv hVl hge_k hno])
theorem zwK {I:Qu}{b n c:Nat}{A:List Value}{ps:List Pt}(hA:A.take (n*19)=ps.flatMap Yz)(hl:ps.length=n)(hn:n≤100000){fid:Nat}{cap:List Value}{P:Pt→Bool}(hF:Fun Tryz.prog fid)(hf:∀ x∈ps,Zw Tryz.prog fid ([Wl x]++cap) I (.bool (P x))):Yg Tryz.prog 169 [.slice (some ⟨b,0,none⟩) n c,.func (.func fid) #[] cap.toArray] I [(b,.cells A.toArray 57 (0,0))] (fun u I' L=>u= .int .i64 (K8 P ps)∧I'=I∧L=[(b,.cells A.toArray 57 (0,0))]):=by
 intro g H w hw
 refine qe Tryz.func169 Tryz.ntmps169 hw ?_
 refine zR (zA (zN (Ql (zR ?_))))
 refine zM ?_
 refine zQ Zz ?_
 refine zM (zN (Qm ?_))
 refine zU [(0,_),(1,_),(7,_)] (fun T L0 mz E I' loc'=>∃ (k:Nat),mz=n-k∧E=(8,.int .i64 k)::T∧I=I'∧L0=loc'∧k≤n∧(ps.take k).any P=false) ?_ (h:=⟨0,rfl,rfl,rfl,rfl,Nat.zero_le _,rfl⟩)
 rintro mz E I' loc' ⟨k,rfl,rfl,rfl,rfl,hk,hno⟩
 refine zR (zC (zN (Ql ?_)))
 refine zI ?_ ?_<;>intro hc9
 ·
  have hlt_k:k<n:=by have h:=hc9;simp at h;omega
  obtain ⟨x,hx⟩:∃ x,ps[k]? =some x:=⟨_,List.getElem?_eq_getElem (by omega)⟩
  refine Qo (Qa (Ql (Qm (zR (zM ?_)))))
  refine zA ?_
  refine zN (zR ?_)
  refine zM ?_
  refine zM ?_
  refine zM ?_
  refine zV (Q6 rfl rfl Zz (fun hg=>by omega)) ?_
  refine zV (Qp rfl Yw (fun hg=>by exact zm9 hA hx) rfl) ?_
  refine YQ (cap:=cap) (vs:=[_]) rfl rfl hF (hf x (List.mem_of_getElem? hx)) rfl rfl ?_
  refine zN ?_
  refine zI ?_ ?_<;>intro hc16
  ·
   refine zR (zM ?_)
   refine zA (zN (Qt (Qn (Qc (Qc (Qn (Qc ?_)))))))
   exact Zv rfl rfl (fun w hw=>⟨_,I,_,rfl,zye _,hw,by rw [Jd hno hx hc16],rfl,rfl⟩)
  refine Qo (Qh (Qa (Qg (zB ?_))))
  refine zM (Qb ?_)
  exact zm (h:=⟨n-(k+1),by omega,k+1,rfl,rfl,rfl,rfl,by omega,YX hx hno hc16⟩)
 have hge_k:n≤k:=by have h:=hc9;simp at h;omega
 refine QI (Qf (Qf (Qk (Qa (zR (zA (zN ?_)))))))
 refine Qt ?_
 exact Zv rfl rfl (fun w hw=>⟨_,I,_,rfl,zye _,hw,by rw [Vv hl hge_k hno],rfl,rfl⟩)
theorem zst {I:Qu}{b n c:Nat}{A:List Value}{ps:List Pt}(hA:A.take (n*19)=ps.flatMap Yz)(hAl:A.length=c*19)(hl:ps.length=n)(hnc:n≤c)(hc:c≤maxLen)(hn:n≤100000){fid:Nat}{cap:List Value}{P:Pt→Bool}(hF:Fun Tryz.prog fid)(hf:∀ x∈ps,Zw Tryz.prog fid ([Wl x]++cap) I (.bool (P x))):Yg Tryz.prog 113 [.slice (some ⟨b,0,none⟩) n c,.func (.func fid) #[] cap.toArray] I [(b,.cells A.toArray 57 (0,0))] (fun u I' L=>I'=I∧∃ m,OwnS 57 19 u m ((ps.filter fun p=> !P p).flatMap Yz) L):=by
 intro g H w hw
 refine qe Tryz.func113 Tryz.ntmps113 hw ?_
 refine zR (zA ?_)
 refine zN (zR ?_)
 refine zM ?_
 refine zM ?_
 refine Qz (cap:=[]) (vs:=[_,_]) rfl rfl zdM QD (zwK hA hl hn hF hf) rfl rfl ?_
 rintro vv1 I1 L1 hI1 ⟨rfl,rfl,rfl⟩
 refine zA (zN (Ql (zR ?_)))
 refine zM ?_
 refine zC (zN ?_)
 refine zI ?_ ?_<;>intro hc12
 ·
  have hno:ps.any P=false:=by cases h:ps.any P with | false=>rfl | true=>(obtain ⟨i,x,h1,h2,h3,h4⟩:=zqx h;rw [h1] at hc12;simp at hc12)
  refine zR (zM ?_)
  refine zA (zN (Qt (Qc ?_)))
  first
  | exact Zv rfl rfl (fun w hw=>⟨_,I1,_,rfl,zye _,hw,rfl,_,by rw [List.filter_eq_self.2 (fun q hq=>by rw [List.any_eq_false] at hno;simpa using hno q hq),←hA];exact zwa hA hAl hl hnc hc⟩)
 obtain ⟨i,x,hix,hi,hPi,hno⟩:∃ (i:Nat) (x:Pt),K8 P ps=(i:Nat)∧ps[i]? =some x∧P x=true∧(ps.take i).any P=false:=zhc (by cases h:ps.any P with | true=>rfl | false=>(unfold K8 at hc12;rw [h] at hc12;simp at hc12))
 have hil:=(List.getElem?_eq_some_iff.1 hi).1
 rw [hix]
 refine Qo (Qa (Ql (zR (zM ?_))))
 refine zB ?_
 refine zA (zN (Qm ?_))
 refine zU [(0,_),(1,_)] (fun T L0 mz E I' loc'=>∃ (i j:Nat) (zs:List Pt) (B:List Value),mz=n-j∧E=(5,.int .i64 i)::(6,.int .i64 j)::T∧I1=I'∧[(b,.cells B.toArray 57 (0,0))]=loc'∧DlQ P ps n c i j zs B) ?_ (h:=⟨i,i+1,ps,A,rfl,rfl,rfl,rfl,DlQ.new hA hl hAl hi hPi hno⟩)
 rintro mz E I' loc' ⟨i,j,zs,B,rfl,rfl,rfl,rfl,hD⟩
 have hij:=hD.hij
 have hjn:=hD.hjn
 refine Ql (zR (zM ?_))
 refine zM ?_
 refine zQ Zz ?_
 refine zC (zN ?_)
 refine zI ?_ ?_<;>intro hc19
 ·
  have hlt:j<n:=by have h:=hc19;simp at h;omega
  obtain ⟨x,hx⟩:∃ x,ps[j]? =some x:=⟨_,List.getElem?_eq_getElem (by omega)⟩
  have hz:=hD.at hx
  refine Qo (Qa (Ql (Qm (zR (zM ?_)))))
  refine zM ?_
  refine zV (Q6 rfl rfl Zz (fun hg=>by omega)) ?_
  refine zV (Qp rfl Yw (fun hg=>by exact zm9 hD.hB hz) rfl) ?_
  refine Qr K2 rfl rfl (fun b_7=>?_)
  refine zh VN ?_
  refine zN (zR ?_)
  refine zM ?_
  refine zV (Qp rfl Yw (fun hg=>by exact Cells.g0) rfl) ?_
  refine YQ (cap:=cap) (vs:=[_]) rfl rfl hF (hf x (List.mem_of_getElem? hx)) rfl rfl ?_
  refine zO (zN ?_)
  refine zI ?_ ?_<;>intro hc29
  ·
   refine zR (zM ?_)
   refine zM ?_
   refine zV (Qp rfl Yw (fun hg=>by exact Cells.g0) rfl) ?_
   refine zV (Q6 rfl rfl Zz (fun hg=>by omega)) ?_
   refine Jf (A:=B) rfl rfl VN rfl (by rw [hD.hl];exact zwC hD hnc hlt) rfl rfl (by repeat (first | exact Upd.here | apply Upd.there | apply QJ)) ?_
   refine zN (Qg (zM ?_))
   refine zB ?_
   refine zA (Qb (Qh (Qa (Qg ?_))))
   refine zM ?_
   refine zB ?_
   refine zA (Qb ?_)
   exact zm (h:=⟨n-(j+1),by omega,i+1,j+1,_,_,rfl,rfl,rfl,rfl,hD.keep hx (by simpa using hc29) hnc hlt⟩)
  refine Qo (Qh (Qa (Qg (zM ?_))))
  refine zB ?_
  refine zA (Qb ?_)
  exact zm (h:=⟨n-(j+1),by omega,i,j+1,_,_,rfl,rfl,rfl,rfl,hD.drop hx (by simpa using hc29) hlt⟩)
 have hge:n≤j:=by have h:=hc19;simp at h;omega
 refine QI (Qf (Qf (Qk (Qa (zR (zM ?_))))))
 refine zM ?_
 refine zV (zdI rfl rfl Zz (by omega)) ?_
 refine zmw (A:=B) (fun zs=>[(b,.cells (B.take (0+i*19)++(zs++B.drop (0+i*19+(n-i)*19))).toArray 57 (0,0))]) rfl zuy K2 rfl rfl (by rw [hD.hl];exact zvg hD hnc) rfl rfl (fun zs=>.here) (fun zc hzc=>?_)
 refine zN (zR ?_)
 refine zM ?_
 refine zM ?_
 refine zV (zfY rfl rfl Zz (fun hg=>by omega)) ?_
 refine zA (zN (Qt ?_))
 exact Zv rfl rfl (fun w hw=>⟨_,I1,_,rfl,zye _,hw,rfl,_,hD.own hge hl hnc hc hzc⟩)
end
section
open Go Go.Kn Go.Proofs
theorem zdQ:AgT Tryz.prog 104 2:=.of (by kernel_rfl)
theorem Je:AgT Tryz.prog 98 8:=.of (by kernel_rfl)
theorem zq3:Ar2 Tryz.prog 104 3 .i64:=⟨by kernel_rfl,by kernel_rfl,by kernel_rfl,by kernel_rfl,by kernel_rfl⟩
theorem VL:ArT Tryz.prog 104 2 3 1:=.of (by kernel_rfl)
theorem UZ:QW Tryz.prog 98 2 5:=.of (by kernel_rfl)
theorem Xh:QW Tryz.prog 98 3 6:=.of (by kernel_rfl)
theorem zoP:Fun Tryz.prog 112:=.of Tryz.func112 (by kernel_rfl) (by kernel_rfl)
theorem zpR:Fun Tryz.prog 113:=.of Tryz.func113 (by kernel_rfl) (by kernel_rfl)
theorem zrJ:Fun Tryz.prog 114:=.of Tryz.func114 (by kernel_rfl) (by kernel_rfl)
theorem zqf:Fun Tryz.prog 115:=.of Tryz.func115 (by kernel_rfl) (by kernel_rfl)
theorem zpI:Fun Tryz.prog 117:=.of Tryz.func117 (by kernel_rfl) (by kernel_rfl)
theorem zp7:Fun Tryz.prog 118:=.of Tryz.func118 (by kernel_rfl) (by kernel_rfl)
theorem zct:ScT Tryz.prog 36:=.of (by kernel_rfl)
theorem zb6:ScT Tryz.prog 96:=.of (by kernel_rfl)
theorem zmA:SzT Tryz.prog 36 1:=.of (by kernel_rfl)
theorem zgM:Yp Tryz.prog 104 (.agg #[(.int .i64 0),(.int .i64 0)]):=.of (by kernel_rfl)
theorem zwG:Yp Tryz.prog 36 (.slice none 0 0):=.of (by kernel_rfl)
theorem ztY {I:Qu}{fid:Nat}{cap:List Value}{P:Pt→Bool}(hF:Fun Tryz.prog fid)(hf:∀ x∈([]:List Pt),Zw Tryz.prog fid ([Wl x]++cap) I (.bool (P x))):Yg Tryz.prog 113 [.slice none 0 0,.func (.func fid) #[] cap.toArray] I [] (fun u I' L=>I'=I∧∃ m,OwnS 57 19 u m (([]:List Pt).flatMap Yz) L):=by
 intro g H w hw
 refine qe Tryz.func113 Tryz.ntmps113 hw ?_
 refine zR (zA ?_)
 refine zN (zR ?_)
 refine zM ?_
 refine zM ?_
 refine qc (vs:=[_,_]) rfl zdM (zvC (ps:=[]) ⟨.nil,fun x hx=>by cases hx⟩ (by omega) hF hf) ?_
 refine zA (zN (Ql (zR ?_)))
 refine zM ?_
 refine zC (zN ?_)
 refine zI ?_ ?_<;>intro hc12
 ·
  refine zR (zM ?_)
  refine zA (zN (Qt (Qc ?_)))
  exact Zv rfl rfl (fun w hw=>⟨_,I,[],rfl,zye _,hw.drop,rfl,0,OwnS.nil⟩)
 exact absurd hc12 (by simp [K8])
theorem zr5 {I:Qu}{v:Value}{n:Nat}{L0:Go.Kn.Loc}{ps:List Pt}(hO:OwnS 57 19 v n (ps.flatMap Yz) L0)(hn:n≤100000){fid:Nat}{cap:List Value}{P:Pt→Bool}(hF:Fun Tryz.prog fid)(hf:∀ x∈ps,Zw Tryz.prog fid ([Wl x]++cap) I (.bool (P x))):Yg Tryz.prog 113 [v,.func (.func fid) #[] cap.toArray] I L0 (fun u I' L=>I'=I∧∃ m,OwnS 57 19 u m ((ps.filter fun p=> !P p).flatMap Yz) L):=by
 obtain ⟨hlen,⟨rfl,rfl,rfl⟩ | ⟨b,c,cur,rfl,rfl,hnc,hcm,hsz,htk⟩⟩:=hO
 ·
  obtain rfl:ps=[]:=by
   rw [ZU QZ] at hlen
   exact List.length_eq_zero_iff.1 (by omega)
  exact ztY hF hf
 have hl:ps.length=n:=by rw [ZU QZ] at hlen;omega
 have h:=zst (b:=b) (A:=cur.toList) (c:=c) htk (by rw [Array.length_toList];exact hsz) hl hnc hcm hn hF hf
 rw [Array.toArray_toList] at h
 exact h
theorem zo0 {I:Qu}{t:Tx}{ps:List Pt}(hOn:OnM I t.r ps)(p:Pt)(hid:∃ z∈ps,z.id=p.id)(i:Int):Zw Tryz.prog 118 [.agg (Kg t).toArray,Wl p,.int .i64 i] I (.bool (onF ps p.id i)):=by
 intro g H w hw
 refine qe Tryz.func118 Tryz.ntmps118 hw ?_
 obtain ⟨m,hm1,hm2⟩:=hOn
 obtain ⟨ref,hget,sn,hsn,hsq⟩:=hm2.get hid
 refine zR ?_
 refine Q5 rfl rfl rfl (fun b_3=>?_)
 refine Q5 rfl rfl rfl (fun b_4=>?_)
 refine zA ?_
 refine zN (zR ?_)
 refine zF UZ ?_
 refine zL zb6 ?_
 refine zF Zt ?_
 refine zL Qs ?_
 refine zV (YG (m:=m) (ek:=Value.int .i64) (ev:=zb3) (a:=p.id) hget zcZ ZE rfl rfl (fun _=>.inl hm1)) ?_
 refine zM ?_
 refine zV (Ye (m:=sn) zaC ZE rfl rfl (fun _=>.inl hsn)) ?_
 refine zA (zN (Qt ?_))
 exact zr rfl rfl (by rw [show (Zy sn i).getD false=onF ps p.id i from hsq.mem _])
theorem zow {I:Qu}{b1 b2:Nat}{t:Tx}{p:Pt}{ps:List Pt}(h1:I b1=some (.cells (Kg t).toArray 98 (0,0)))(h2:I b2=some (.cells (Yz p).toArray 57 (0,0)))(hOn:OnM I t.r ps)(q:Pt)(hid:∃ z∈ps,z.id=q.id):Zw Tryz.prog 117 [Wl q,.pointer (some ⟨b1,0,none⟩),.pointer (some ⟨b2,0,none⟩)] I (.bool (onF ps q.id p.id)):=by
 intro g H w hw
 refine qe Tryz.func117 Tryz.ntmps117 hw ?_
 refine zR ?_
 refine Q5 rfl rfl rfl (fun b_3=>?_)
 refine zA ?_
 refine zN (zR ?_)
 refine zV (Qp rfl Je (fun hg=>by exact Cells.imm h1) rfl) ?_
 refine zV (Qp rfl Yw (fun hg=>by exact Cells.g0) rfl) ?_
 refine zF Zt ?_
 refine zV (Qd rfl Qs (fun hg=>by exact .imm h2 rfl)) ?_
 refine qc (vs:=[_,_,_]) rfl zp7 (zo0 hOn q hid _) ?_
 refine zA (zN (Qt ?_))
 exact zr rfl rfl (by rfl)
theorem zt8 {I:Qu}{b1 b2:Nat}{t:Tx}{ps:List Pt}{av:Option Addr}{n c:Nat}{xs:List Pt}(h1:I b1=some (.cells #[.slice av n c] 36 (0,0)))(h2:I b2=some (.cells (Kg t).toArray 98 (0,0)))(hOn:OnM I t.r ps)(hX:SlP I av n c xs)(hn:n≤100000)(hsub:∀ q∈xs,∃ z∈ps,z.id=q.id)(p:Pt):Zw Tryz.prog 115 [Wl p,.pointer (some ⟨b1,0,none⟩),.pointer (some ⟨b2,0,none⟩)] I (.bool (xs.any fun q=>onF ps q.id p.id)):=by
 intro g H w hw
 refine qe Tryz.func115 Tryz.ntmps115 hw ?_
 refine zR ?_
 refine Q5 rfl rfl rfl (fun b_3=>?_)
 refine zA ?_
 refine zN (zR ?_)
 refine zV (Qd rfl zct (fun hg=>by exact .imm h1 rfl)) ?_
 refine zV (Zc (us:=[]) (vs:=[_,_]) rfl rfl) ?_
 refine UE (cap:=[]) (vs:=[_,_]) rfl rfl zig QD (zkl.ofV fun I' hI' hL'=>ztW (cap:=[.pointer (some ⟨b2,0,none⟩),.pointer (some ⟨b_3,0,none⟩)]) (hX.mono hI') hn zpI (fun q hq=>zow (b1:=b2) (b2:=b_3) (t:=t) (p:=p) (hI' _ _ h2) (hL' b_3 _ (.head _)) (hOn.mono hI') q (hsub q hq))) rfl rfl ?_
 refine zA (zN (Qt ?_))
 exact zr rfl rfl (by rfl)
theorem zoK {I:Qu}{t:Tx}{rows:List (List Int)}{es:List Em}{rd:List Int}{ps l:List Pt}{sg:List Sg}(hT:zgx I t rows es rd ps l sg)(s f:Int):Yg Tryz.prog 112 [.agg (Kg t).toArray,.agg #[.int .i64 s,.int .i64 f]] I [] (zbT 19 Yz (stF l s f)):=by
 intro g H w hw
 refine qe Tryz.func112 Tryz.ntmps112 hw ?_
 have hIc:=zye I
 have hSl:=hT.L.1
 have hbl:=hT.bl
 refine zR ?_
 refine Q5 rfl rfl rfl (fun b_2=>?_)
 refine Q5 rfl rfl rfl (fun b_3=>?_)
 refine zA (zN (Ql (zR ?_)))
 refine zF Xh ?_
 refine zL zct ?_
 refine zQ Zz ?_
 refine zM (zN (Qm ?_))
 refine zU [(3,_),(8,_),(9,_)] (fun T L0 mz E I' loc'=>∃ (k:Nat) (v:Value) (q:Nat) (L:Go.Kn.Loc),mz=t.ln-k∧E=(4,v)::(10,.int .i64 k)::T∧I=I'∧L++[(b_3,.cells #[.int .i64 s,.int .i64 f] 104 (0,0)),(b_2,.cells (Kg t).toArray 98 (0,0))]=loc'∧k≤t.ln∧OwnS 57 19 v q ((stF (l.take k) s f).flatMap Yz) L∧q≤k) ?_ (h:=⟨0,_,0,[],rfl,rfl,rfl,rfl,Nat.zero_le _,by rw [List.take_zero];exact OwnS.nil,Nat.le_refl _⟩)
 rintro mz E I' loc' ⟨k,v,q,L,rfl,rfl,rfl,rfl,hk,hO,hq⟩
 refine zR (zC (zN (Ql ?_)))
 refine zI ?_ ?_<;>intro hc11
 ·
  have hlt_k:k<t.ln:=by have h:=hc11;simp at h;omega
  obtain ⟨p,hp⟩:=hSl.at hlt_k
  refine Qo (Qa (Ql (Qm (zR ?_))))
  refine zV (zX Zz hSl) ?_
  refine zV (Qp rfl Yw (fun hg=>by exact zyf hSl hp) rfl) ?_
  refine Qr K2 rfl rfl (fun b_6=>?_)
  refine zh VN ?_
  refine zN (zR ?_)
  refine zF Jw ?_
  refine zL Qs ?_
  refine zC ?_
  refine zM ?_
  refine QE 3 rfl rfl rfl ?_
  refine zK (Qe rfl Z8) ?_
  refine zK (Qd rfl Qs (fun hg=>by exact QU.h0 rfl)) ?_
  refine zK (Qe rfl VU) ?_
  refine zK (Qd rfl Qs (fun hg=>by exact QU.h0 rfl)) ?_
  refine zK (Zp (ps:=[(0,_),(1,_)]) [_,_] VL zgM rfl rfl) ?_
  refine zK (Qp rfl zdQ (fun hg=>by (repeat (first | exact zyc | apply zyb | apply zyd))) rfl) ?_
  refine zK (zpQ rfl rfl zq3) ?_
  refine QP rfl rfl rfl rfl rfl ?_
  refine zN ?_
  refine zI ?_ ?_<;>intro hc25
  ·
   have hst:(p.kind==1&&(p.sign==s&&p.field==f))=true:=by simpa using hc25
   refine Qg (zM ?_)
   refine zV (Qp rfl Yw (fun hg=>by exact Cells.g0) rfl) ?_
   refine Qq (ps:=[(0,_)]) (m:=[Yz p]) US rfl (.cons rfl (.nil)) rfl (by simp [QZ]) (by decide) (by decide) rfl rfl (fun b_28=>?_)
   refine QY (v:=_) (ys:=[p].flatMap Yz) (L:=L) rfl rfl US hO (by repeat (first | exact .cons .here .nil | exact QD | exact Qw | apply QC | apply QB)) ⟨rfl,fun _=>rfl,by repeat (first | exact zyc | apply zyb | apply zyd)⟩ (zks _) (by omega) rfl rfl ?_
   intro v9 L9 hO9 _;rw [←List.flatMap_append] at hO9
   refine zA (Qb (Qh (Qa (Qg ?_))))
   refine zB ?_
   refine zM (Qb ?_)
   first
   | exact zm (h:=⟨t.ln-(k+1),by omega,k+1,_,_,_,rfl,rfl,rfl,rfl,by omega,by rw [show stF (l.take (k+1)) s f=stF (l.take k) s f++[p] from Wj hp hst];exact hO9,by omega⟩)
  have hst:(p.kind==1&&(p.sign==s&&p.field==f))=false:=by simpa using hc25
  refine Qo (Qh (Qa (Qg (zB ?_))))
  refine zM (Qb ?_)
  first
  | exact zm (h:=⟨t.ln-(k+1),by omega,k+1,_,_,_,rfl,rfl,rfl,rfl,by omega,by rw [show stF (l.take (k+1)) s f=stF (l.take k) s f from zaA hp hst];exact hO,by omega⟩)
 have hge_k:t.ln≤k:=by have h:=hc11;simp at h;omega
 rw [ZF hSl.len hge_k] at hO
 refine QI (Qf (Qf (Qk (Qa (zR (zM ?_))))))
 refine zA (zN (Qt ?_))
 exact Zv rfl rfl (fun w hw=>by obtain ⟨I9,h91,h92,h93⟩:=OwnS.res hO QZ (by decide) (hw.subL (by exact Zg));exact ⟨_,I9,[],rfl,hIc.trans h91,h92,h93⟩)
theorem zt5 {I:Qu}{t:Tx}{rows:List (List Int)}{es:List Em}{rd:List Int}{ps l:List Pt}{sg:List Sg}(hT:zgx I t rows es rd ps l sg)(s f:Int):Yg Tryz.prog 70 [.agg (Kg t).toArray,.agg #[.int .i64 s,.int .i64 f]] I [] (FrQ (or1 (onF ps) l s f)):=by
 intro g H w hw
 refine qe Tryz.func70 Tryz.ntmps70 hw ?_
 have hIc:=zye I
 have hbl:=hT.bl
 refine zR ?_
 refine Q5 rfl rfl rfl (fun b_2=>?_)
 refine Q5 rfl rfl rfl (fun b_3=>?_)
 refine Qr WC rfl rfl (fun b_4=>?_)
 refine zA ?_
 refine zN (zR ?_)
 refine zV (Qp rfl Je (fun hg=>by exact Cells.g2) rfl) ?_
 refine zV (Qp rfl zdQ (fun hg=>by exact Cells.g1) rfl) ?_
 refine Qz (cap:=[]) (vs:=[_,_]) rfl rfl zoP .nil (zoK hT s f) rfl rfl ?_
 rintro vv1 I1 L1 hI1 ⟨rfl,a9,c9,rfl,hSA⟩
 have hT:=hT.mono hI1;have hIc:=hIc.trans hI1
 have hSA:Sl I1 19 Yz a9 (stF l s f).length c9 (stF l s f):=hSA
 have hsl:(stF l s f).length≤100000:=Nat.le_trans X3 (by rw [hT.L.1.len];exact hbl)
 refine Qr zwG rfl rfl (fun b_6=>?_)
 refine zS zmA ?_
 refine zN (Ql ?_)
 refine Zf (b:=b_2) (by repeat (first | exact Q7.here | apply Q7.there)) (fun I2 hI2 hb2=>?_)
 have hT:=hT.mono hI2;have hSA:=hSA.mono hI2;have hIc:=hIc.trans hI2
 have h2:=hb2
 refine Zf (b:=b_6) (by repeat (first | exact Q7.here | apply Q7.there)) (fun I3 hI3 hb3=>?_)
 have hT:=hT.mono hI3;have hSA:=hSA.mono hI3;have hIc:=hIc.trans hI3
 have h2:=hI3 _ _ h2
 have h6:=hb3
 refine Qg ?_
 refine zV (Qd rfl zct (fun hg=>by exact .imm h6 rfl)) ?_
 refine Qz (cap:=[]) (vs:=[_]) rfl rfl zrJ .nil (zlJ hSA (by omega)) rfl rfl ?_
 rintro vv4 I4 L4 hI4 ⟨rfl,hO⟩
 have hT:=hT.mono hI4;have hSA:=hSA.mono hI4;have hIc:=hIc.trans hI4
 refine zV (Zc (us:=[]) (vs:=[_,_]) rfl rfl) ?_
 refine Qz (cap:=[]) (vs:=[_,_]) rfl rfl zpR (by repeat (first | exact .cons .here .nil | exact QD | exact Qw | apply QC | apply QB)) (zr5 hO hsl zqf (cap:=[.pointer (some ⟨b_6,0,none⟩),.pointer (some ⟨b_2,0,none⟩)]) (fun x hx=>zt8 h6 h2 hT.M ⟨hSA,fun q hq=>hT.L.2 q (Ub.1 hq).1⟩ hsl (fun q hq=>hT.sub q (Ub.1 hq).1) x)) rfl rfl ?_
 rintro vv5 I5 L5 hI5 ⟨rfl,m,hO2⟩
 have hIc:=hIc.trans hI5
 refine zA (zN (Ql (Ql ?_)))
 refine Y9 hO2 QZ (by decide) (by repeat (first | exact .cons .here .nil | exact QD | exact Qw | apply QC | apply QB)) (fun I6 hI6 af6 cf6 ef6 hLt=>?_)
 subst ef6
 have hIc:=hIc.trans hI6
 have hLt:Sl I6 19 Yz _ m _ (zc5 (onF ps) l s f):=hLt
 have hm:=hLt.len
 have hml:m≤100000:=by rw [←hm];exact Nat.le_trans (List.length_filter_le ..) hsl
 refine Qg (zM ?_)
 refine zQ Zz ?_
 refine zM (zN (Qm ?_))
 refine zU [(4,_),(7,_),(17,_),(18,_)] (fun T L0 mz E I' loc'=>∃ (k:Nat) (v:Value) (q:Nat) (L:Go.Kn.Loc),mz=m-k∧E=(19,.int .i64 k)::T∧I6=I'∧L++[(b_4,.cells #[.int .i64 0,.int .i64 0,.slice none 0 0,v] 38 (0,0)),(b_3,.cells #[.int .i64 s,.int .i64 f] 104 (0,0))]=loc'∧k≤m∧OwnS 3 1 v q (((zj3 (zc5 (onF ps) l s f) k).map (·.id)).flatMap QR) L∧q≤k) ?_ (h:=⟨0,_,0,[],rfl,rfl,rfl,rfl,Nat.zero_le _,by rw [zxp];exact OwnS.nil,Nat.le_refl _⟩)
 rintro mz E I' loc' ⟨k,v,q,L,rfl,rfl,rfl,rfl,hk,hO,hq⟩
 obtain ⟨va4,vc4,rfl⟩:=zdd hO
 refine zR (zC (zN (Ql ?_)))
 refine zI ?_ ?_<;>intro hc20
 ·
  have hlt_k:k<m:=by have h:=hc20;simp at h;omega
  obtain ⟨p,hp⟩:=hLt.at hlt_k
  obtain ⟨p0,hp0⟩:=hLt.at (k:=0) (by omega)
  refine Qo (Qa (Ql (Qm (zR ?_))))
  refine zV (zX Zz hLt) ?_
  refine zV (Qp rfl Yw (fun hg=>by exact zyf hLt hp) rfl) ?_
  refine Qr K2 rfl rfl (fun b_9=>?_)
  refine zh VN ?_
  refine zN (Ql ?_)
  refine YU mixed (by kernel_rfl) ?_
  refine zq (Qe rfl VS) ?_
  refine zq (Qp rfl ZL (fun hg=>by exact Cells.s0 (vs:=[_,_,_,_,_,_,_,_,_,_,_,_,_,_]) rfl) rfl) ?_
  refine zq (Qi rfl) ?_
  refine zq (zX Zz hLt) ?_
  refine zq (Qe rfl VS) ?_
  refine zq (Qp rfl ZL (fun hg=>by exact Sl.seg (vs:=Y2 p0.nw) (o:=4) hLt hp0 rfl) rfl) ?_
  refine zq (zdW rfl rfl XX rfl) ?_
  refine YV ?_
  refine Qa ?_
  refine zI ?_ ?_<;>intro hc29
  ·
   have hq29:zag p.nw p0.nw=true:=hc29
   rw [←Q1 (d:=WR) hp0] at hq29
   refine Qg ?_
   refine zF Xf ?_
   refine zV (Qd rfl QK (fun hg=>by (repeat (first | exact zx9 rfl | apply zx8 | apply zya)))) ?_
   refine zF Zt ?_
   refine zL Qs ?_
   refine Qq (ps:=[(0,_)]) (m:=[QR p.id]) Zi rfl (.cons rfl (.nil)) rfl (by simp [Qv]) (by decide) (by decide) rfl rfl (fun b_34=>?_)
   refine QY (v:=_) (ys:=[p.id].flatMap QR) (L:=L) rfl rfl Zi hO (by repeat (first | exact .cons .here .nil | exact QD | exact Qw | apply QC | apply QB)) ⟨rfl,fun _=>rfl,by repeat (first | exact zyc | apply zyb | apply zyd)⟩ (JG _) (by omega) rfl rfl ?_
   intro v9 L9 hO9 _;obtain ⟨va9,vc9,rfl⟩:=zdd hO9;rw [←List.flatMap_append] at hO9
   refine zF Xf ?_
   refine ZI rfl rfl Zj rfl rfl (by (repeat (first | exact Upd.here | apply Upd.there | apply QJ))) rfl ?_
   refine Qb (Qh (Qa (Qg (zB ?_))))
   refine zM (Qb ?_)
   first
   | exact zm (h:=⟨m-(k+1),by omega,k+1,_,_,_,rfl,rfl,rfl,rfl,by omega,by rw [zp6 hp hq29];exact hO9,by omega⟩)
  have hq29:zag p.nw p0.nw=false:=hc29
  rw [←Q1 (d:=WR) hp0] at hq29
  refine Qo (Qh (Qa (Qg (zB ?_))))
  refine zM (Qb ?_)
  first
  | exact zm (h:=⟨m-(k+1),by omega,k+1,_,_,_,rfl,rfl,rfl,rfl,by omega,by rw [zsZ hp hq29];exact hO,by omega⟩)
 have hge_k:m≤k:=by have h:=hc20;simp at h;omega
 have hke:k=m:=by omega
 refine QI (Qf (Qf (Qk (Qa (zR ?_)))))
 refine zF W7 ?_
 refine ZI rfl rfl Yi rfl rfl (by (repeat (first | exact Upd.here | apply Upd.there | apply QJ))) rfl ?_
 refine zN (zR ?_)
 refine zV (Qp rfl YW (fun hg=>by (repeat (first | exact zyc | apply zyb | apply zyd))) rfl) ?_
 refine zM ?_
 refine zQ Zz ?_
 refine zC ?_
 refine YO rfl rfl VH rfl rfl rfl rfl (by (repeat (first | exact Upd.here | apply Upd.there | apply QJ))) ?_
 refine zA (zN (Qt ?_))
 exact Zs rfl rfl rfl YW (vs:=[.int .i64 3,.int .i64 0,.slice none 0 0,.slice va4 _ vc4]) (by repeat (first | exact zyc | apply zyb | apply zyd)) rfl (fun w hw=>by obtain ⟨I9,av9,c9,h1',h2',e9,h4'⟩:=OwnS.freeze (R:=[_,_]) hO Qv (by decide) hw;cases e9;exact ⟨_,I9,[],rfl,hIc.trans h1',h2'.drop,rfl,[.int .i64 3,.int .i64 0,.slice none 0 0,.slice va4 _ vc4],by rw [zrZ hm],_,_,_,_,_,_,rfl,.nil,by show Sl _ 1 QR _ _ _ (zwp _);rw [←zqQ hm hke];exact h4'⟩)
end
section
open Go Go.Kn Go.Proofs
theorem zqs:ElT Tryz.prog 146 145 1 8:=.of (by kernel_rfl)
theorem zbq:QW Tryz.prog 98 0 0:=.of (by kernel_rfl)
theorem zbr:QW Tryz.prog 98 1 1:=.of (by kernel_rfl)
theorem zou:Fun Tryz.prog 119:=.of Tryz.func119 (by kernel_rfl) (by kernel_rfl)
theorem zqv:Fun Tryz.prog 120:=.of Tryz.func120 (by kernel_rfl) (by kernel_rfl)
theorem zpr:Fun Tryz.prog 121:=.of Tryz.func121 (by kernel_rfl) (by kernel_rfl)
theorem zpt:Fun Tryz.prog 122:=.of Tryz.func122 (by kernel_rfl) (by kernel_rfl)
theorem zpm:Fun Tryz.prog 123:=.of Tryz.func123 (by kernel_rfl) (by kernel_rfl)
theorem zsY:Fun Tryz.prog 70:=.of Tryz.func70 (by kernel_rfl) (by kernel_rfl)
theorem ztH:Fun Tryz.prog 71:=.of Tryz.func71 (by kernel_rfl) (by kernel_rfl)
theorem zuS:Fun Tryz.prog 72:=.of Tryz.func72 (by kernel_rfl) (by kernel_rfl)
theorem zto:Fun Tryz.prog 73:=.of Tryz.func73 (by kernel_rfl) (by kernel_rfl)
theorem ztU:Fun Tryz.prog 74:=.of Tryz.func74 (by kernel_rfl) (by kernel_rfl)
theorem zpj:ScT Tryz.prog 145:=.of (by kernel_rfl)
theorem zgV:SlT Tryz.prog 146 145 1:=.of (by kernel_rfl)
theorem zv1 {I:Qu}{t:Tx}{rows:List (List Int)}{es:List Em}{rd:List Int}{ps l:List Pt}{sg:List Sg}(hT:zgx I t rows es rd ps l sg)(s f:Int):Yg Tryz.prog 71 [.agg (Kg t).toArray,.agg #[.int .i64 s,.int .i64 f]] I [] (FrQ (or2 l s)):=by
 intro g H w hw
 refine qe Tryz.func71 Tryz.ntmps71 hw ?_
 have hIc:=zye I
 have hSl:=hT.L.1
 have hbl:=hT.bl
 refine zR ?_
 refine Q5 rfl rfl rfl (fun b_2=>?_)
 refine Q5 rfl rfl rfl (fun b_3=>?_)
 refine Qr WC rfl rfl (fun b_4=>?_)
 refine zA (zN (Ql (zR ?_)))
 refine zF Xh ?_
 refine zL zct ?_
 refine zQ Zz ?_
 refine zM (zN (Qm ?_))
 refine zU [(3,_),(4,_),(9,_),(10,_)] (fun T L0 mz E I' loc'=>∃ (k:Nat),mz=t.ln-k∧E=(11,.int .i64 k)::T∧I=I'∧L0=loc'∧k≤t.ln∧(l.take k).any (inP s)=false) ?_ (h:=⟨0,rfl,rfl,rfl,rfl,Nat.zero_le _,rfl⟩)
 rintro mz E I' loc' ⟨k,rfl,rfl,rfl,rfl,hk,hno⟩
 refine zR (zC (zN (Ql ?_)))
 refine zI ?_ ?_<;>intro hc12
 ·
  have hlt_k:k<t.ln:=by have h:=hc12;simp at h;omega
  obtain ⟨p,hp⟩:=hSl.at hlt_k
  refine Qo (Qa (Ql (Qm (zR ?_))))
  refine zV (zX Zz hSl) ?_
  refine zV (Qp rfl Yw (fun hg=>by exact zyf hSl hp) rfl) ?_
  refine Qr K2 rfl rfl (fun b_7=>?_)
  refine zh VN ?_
  refine zN (zR ?_)
  refine zF Jw ?_
  refine zL Qs ?_
  refine zC ?_
  refine zM ?_
  refine QE 3 rfl rfl rfl ?_
  refine zK (Qe rfl Z8) ?_
  refine zK (Qd rfl Qs (fun hg=>by exact QU.h0 rfl)) ?_
  refine zK (Q8 rfl rfl VL (fun hg=>by decide)) ?_
  refine zK (Qd rfl Qs (fun hg=>by exact QU.h2 rfl)) ?_
  refine zK (QH rfl rfl rfl) ?_
  refine QP rfl rfl rfl rfl rfl ?_
  refine zN ?_
  refine zI ?_ ?_<;>intro hc24
  ·
   have hc24:inP s p=true:=hc24
   refine zR ?_
   refine zF Zt ?_
   refine zL Qs ?_
   refine Qq (ps:=[(0,_)]) (m:=[QR p.id]) Zi rfl (.cons rfl (.nil)) rfl (by simp [Qv]) (by decide) (by decide) rfl rfl (fun b_27=>?_)
   refine zV (QS (ps:=[(0,_),(3,_)]) [_,_,_,_] Xq rfl rfl) ?_
   refine zh VH ?_
   refine zA (zN (Qt (Qn (Qc (Qc (Qn (Qc ?_)))))))
   first
   | exact Zs rfl rfl rfl YW (vs:=[.int .i64 3,.int .i64 0,.slice none 0 0,.slice (some ⟨b_27,0,none⟩) 1 1]) (by repeat (first | exact zyc | apply zyb | apply zyd)) rfl (fun w hw=>by obtain ⟨I9,h91,h92,h93⟩:=hw.freezeAll;exact ⟨_,I9,[],rfl,hIc.trans h91,h92,rfl,[.int .i64 3,.int .i64 0,.slice none 0 0,.slice (some ⟨b_27,0,none⟩) 1 1],by rw [zbi hno hp hc24],none,0,0,_,_,_,by rw [zbi hno hp hc24],by rw [zbi hno hp hc24];exact .nil,by rw [zbi hno hp hc24];exact Sl.lit (t:=3) [_] rfl Qv (h93 b_27 _ (by simp [QR]))⟩)
  have hc24:inP s p=false:=hc24
  refine Qo (Qh (Qa (Qg (zB ?_))))
  refine zM (Qb ?_)
  exact zm (h:=⟨t.ln-(k+1),by omega,k+1,rfl,rfl,rfl,rfl,by omega,YX hp hno hc24⟩)
 have hge_k:t.ln≤k:=by have h:=hc12;simp at h;omega
 rw [ZF hSl.len hge_k] at hno
 refine QI (Qf (Qf (Qk (Qa (zR ?_)))))
 refine zV (Qp rfl YW (fun hg=>by exact Cells.g0) rfl) ?_
 refine zh VH ?_
 refine zA (zN (Qt ?_))
 first
 | exact Zs rfl rfl rfl YW (vs:=[.int .i64 0,.int .i64 0,.slice none 0 0,.slice none 0 0]) (by repeat (first | exact zyc | apply zyb | apply zyd)) rfl (fun w hw=>⟨_,I,[],rfl,zye _,hw.drop,rfl,[.int .i64 0,.int .i64 0,.slice none 0 0,.slice none 0 0],by rw [zeL hno],none,0,0,none,0,0,by rw [zeL hno];rfl,by rw [zeL hno];exact .nil,by rw [zeL hno];exact .nil⟩)
theorem zwo {I:Qu}{b1 b2:Nat}{t:Tx}{q:Nat}{f:Int}{h:Hd}{r rd:List Int}(h1:I b1=some (.cells #[.int .i64 (q:Nat),.int .i64 f] 104 (0,0)))(h2:I b2=some (.cells (Kg t).toArray 98 (0,0)))(hQ:Sl I 1 QR h.a h.n h.c r)(hR:Sl I 1 QR t.a3 t.n4 t.d3 rd)(hqr:q<r.length)(hqd:q<rd.length):Zw Tryz.prog 119 [.slice h.a h.n h.c,.pointer (some ⟨b1,0,none⟩),.pointer (some ⟨b2,0,none⟩)] I (.bool (r.getD q 0==rd.getD q 0)):=by
 intro g H w hw
 refine qe Tryz.func119 Tryz.ntmps119 hw ?_
 have hQl:=hQ.len
 have hRl:=hR.len
 refine zR (zA (zN (Ql ?_)))
 refine YU mixed (by kernel_rfl) ?_
 refine zq (Qi rfl) ?_
 refine zq (Q8 rfl rfl VL (fun hg=>by decide)) ?_
 refine zq (Qd rfl Qs (fun hg=>by exact QU.imm h1 rfl)) ?_
 refine zq (zX Qy hQ) ?_
 refine zq (Qd rfl Qs (fun hg=>by exact zx7 (k:=q) hQ (Zk (d:=0) rfl (by omega)) rfl)) ?_
 refine zq (Qe rfl zbr) ?_
 refine zq (Qe rfl VT) ?_
 refine zq (Qd rfl QK (fun hg=>by exact QU.imm h2 rfl)) ?_
 refine zq (Q8 rfl rfl VL (fun hg=>by decide)) ?_
 refine zq (Qd rfl Qs (fun hg=>by exact QU.imm h1 rfl)) ?_
 refine zq (zX Qy hR) ?_
 refine zq (Qd rfl Qs (fun hg=>by exact zx7 (k:=q) hR (Zk (d:=0) rfl (by omega)) rfl)) ?_
 refine zq (QH rfl rfl rfl) ?_
 refine zq (ZP rfl) ?_
 refine YV ?_
 refine Qa (Qt ?_)
 exact zr rfl rfl (by rfl)
theorem zw4 {I:Qu}{b1:Nat}{q:Nat}{f:Int}{h:Hd}{r:List Int}(h1:I b1=some (.cells #[.int .i64 (q:Nat),.int .i64 f] 104 (0,0)))(hQ:Sl I 1 QR h.a h.n h.c r)(hqr:q<r.length):Zw Tryz.prog 120 [.slice h.a h.n h.c,.pointer (some ⟨b1,0,none⟩)] I (.bool (zwj q r)):=by
 intro g H w hw
 refine qe Tryz.func120 Tryz.ntmps120 hw ?_
 have hQl:=hQ.len
 refine zR (zA ?_)
 refine zN (zR ?_)
 refine zM ?_
 refine zV (Q8 rfl rfl VL (fun hg=>by decide)) ?_
 refine zV (Qd rfl Qs (fun hg=>by exact QU.imm h1 rfl)) ?_
 refine zV (zX Qy hQ) ?_
 refine zV (Qd rfl Qs (fun hg=>by exact zx7 (k:=q) hQ (Zk (d:=0) rfl (by omega)) rfl)) ?_
 refine zC ?_
 refine zM ?_
 refine QE 6 rfl rfl rfl ?_
 refine zK (Qi rfl) ?_
 refine zK (Q8 rfl rfl VL (fun hg=>by decide)) ?_
 refine zK (Qd rfl Qs (fun hg=>by exact QU.imm h1 rfl)) ?_
 refine zK (zX Qy hQ) ?_
 refine zK (Qd rfl Qs (fun hg=>by exact zx7 (k:=q) hQ (Zk (d:=0) rfl (by omega)) rfl)) ?_
 refine zK (QH rfl rfl rfl) ?_
 refine QP rfl rfl rfl rfl rfl ?_
 refine zA (zN (Qt ?_))
 exact zr rfl rfl (by rfl)
theorem zwv {I:Qu}{b1:Nat}{q:Nat}{f:Int}(h1:I b1=some (.cells #[.int .i64 (q:Nat),.int .i64 f] 104 (0,0)))(e:Em):Zw Tryz.prog 122 [.agg (Yy e).toArray,.pointer (some ⟨b1,0,none⟩)] I (.bool (zxE (q:Int) e)):=by
 intro g H w hw
 refine qe Tryz.func122 Tryz.ntmps122 hw ?_
 refine zR ?_
 refine Q5 rfl rfl rfl (fun b_2=>?_)
 refine zA ?_
 refine zN (zR ?_)
 refine zF VX ?_
 refine zL Qs ?_
 refine zV (Q8 rfl rfl VL (fun hg=>by decide)) ?_
 refine zV (Qd rfl Qs (fun hg=>by exact QU.imm h1 rfl)) ?_
 refine zC ?_
 refine zM ?_
 refine QE 5 rfl rfl rfl ?_
 refine zK (Qe rfl zbG) ?_
 refine zK (Qd rfl Qs (fun hg=>by exact QU.h0 rfl)) ?_
 refine zK (QH rfl rfl rfl) ?_
 refine QP rfl rfl rfl rfl rfl ?_
 refine zA (zN (Qt ?_))
 exact zr rfl rfl (by rfl)
theorem zsc {I:Qu}{t:Tx}{rows:List (List Int)}{es:List Em}{rd:List Int}{ps l:List Pt}{sg:List Sg}(hT:zgx I t rows es rd ps l sg)(q:Nat)(f:Int)(hqd:q<rd.length)(hqr:∀ r∈rows,q<r.length):Yg Tryz.prog 72 [.agg (Kg t).toArray,.agg #[.int .i64 (q:Nat),.int .i64 f]] I [] (FrQ (or3 rows rd (q:Int) f)):=by
 intro g H w hw
 refine qe Tryz.func72 Tryz.ntmps72 hw ?_
 have hIc:=zye I
 refine zR ?_
 refine Q5 rfl rfl rfl (fun b_2=>?_)
 refine Q5 rfl rfl rfl (fun b_3=>?_)
 refine Qr WC rfl rfl (fun b_4=>?_)
 refine zA (zN (Ql (zR ?_)))
 refine Qq (ps:=[(0,_),(1,_),(2,_)]) (m:=[QR (2:Int),QR (3:Int),QR (9:Int)]) Zi rfl (.cons rfl (.cons rfl (.cons rfl (.nil)))) rfl (by simp [Qv]) (by decide) (by decide) rfl rfl (fun b_7=>?_)
 refine zV (Q8 rfl rfl VL (fun hg=>by decide)) ?_
 refine zL Qs ?_
 refine UE (cap:=[]) (vs:=[_,_]) rfl rfl zc1 QD (zkl.ofV fun I' hI' hL'=>JM (Sl.lit (t:=3) [2,3,9] rfl Qv (hL' b_7 _ (.head _))) (by decide) _) rfl rfl ?_
 refine zO (zN ?_)
 refine zI ?_ ?_<;>intro hc11
 ·
  have hf:isT f=false:=by rw [←ziG];exact zrm hc11
  refine zR ?_
  refine zV (Qp rfl YW (fun hg=>by exact Cells.g1) rfl) ?_
  refine zh VH ?_
  refine zA (zN (Qt (Qc ?_)))
  first
  | exact Zs rfl rfl rfl YW (vs:=[.int .i64 0,.int .i64 0,.slice none 0 0,.slice none 0 0]) (by repeat (first | exact zyc | apply zyb | apply zyd)) rfl (fun w hw=>⟨_,I,[],rfl,hIc,hw.drop,rfl,[.int .i64 0,.int .i64 0,.slice none 0 0,.slice none 0 0],by rw [zeD hf],none,0,0,none,0,0,by rw [zeD hf];rfl,by rw [zeD hf];exact .nil,by rw [zeD hf];exact .nil⟩)
 have hf:isT f=true:=by rw [←ziG];exact zf3 hc11
 refine Qo (Qa (Ql ?_))
 refine Zf (b:=b_2) (by repeat (first | exact Q7.here | apply Q7.there)) (fun I1 hI1 hb1=>?_)
 have hT:=hT.mono hI1;have hIc:=hIc.trans hI1
 have h2:=hb1
 refine Zf (b:=b_3) (by repeat (first | exact Q7.here | apply Q7.there)) (fun I2 hI2 hb2=>?_)
 have hT:=hT.mono hI2;have hIc:=hIc.trans hI2
 have h2:=hI2 _ _ h2
 have h3:=hb2
 refine Qg ?_
 refine zF zbq ?_
 refine zV (Qd rfl Kl (fun hg=>by exact .imm h2 rfl)) ?_
 refine zV (Zc (us:=[]) (vs:=[_,_]) rfl rfl) ?_
 refine qc (vs:=[_,_]) rfl zbM (ztu (cap:=[.pointer (some ⟨b_3,0,none⟩),.pointer (some ⟨b_2,0,none⟩)]) hT.V hT.b2 zou (fun h r hr hQ=>zwo h3 h2 hQ hT.R (hqr r hr) hqd)) ?_
 refine zA (zN ?_)
 refine zY [(4,_)] (fun T L0 E I' loc'=>∃ (i:Int),E=(6,.int .i64 i)::T∧I2=I'∧L0=loc'∧i=zpa rows q (rd.getD q 0)) ?_ ?_
 ·
  refine zR (zM ?_)
  refine zC (zN ?_)
  refine zI ?_ ?_<;>intro hc18
  ·
   refine Qg ?_
   refine zF zbq ?_
   refine zV (Qd rfl Kl (fun hg=>by exact .imm h2 rfl)) ?_
   refine zV (Zc (us:=[]) (vs:=[_]) rfl rfl) ?_
   refine qc (vs:=[_,_]) rfl zbM (ztu (cap:=[.pointer (some ⟨b_3,0,none⟩)]) hT.V hT.b2 zqv (fun h r hr hQ=>zw4 h3 hQ (hqr r hr))) ?_
   refine zA (Qb ?_)
   exact zm (h:=⟨_,rfl,rfl,rfl,zv3 hc18⟩)
  refine Qo ?_
  exact zm (h:=⟨_,rfl,rfl,rfl,zwF hc18⟩)
 rintro E I' loc' ⟨i,rfl,rfl,rfl,hi⟩
 refine zR (zM ?_)
 refine Qq (ps:=[(0,_)]) (m:=[QR i]) Zi rfl (.cons rfl (.nil)) rfl (by simp [Qv]) (by decide) (by decide) rfl rfl (fun b_24=>?_)
 refine zV (QS (ps:=[(0,_),(2,_)]) [_,_,_,_] Xq rfl rfl) ?_
 refine zh VH ?_
 refine zA (zN (Qt ?_))
 first
 | exact Zs rfl rfl rfl YW (vs:=[.int .i64 1,.int .i64 0,.slice (some ⟨b_24,0,none⟩) 1 1,.slice none 0 0]) (by repeat (first | exact zyc | apply zyb | apply zyd)) rfl (fun w hw=>by obtain ⟨I9,h91,h92,h93⟩:=hw.freezeAll;exact ⟨_,I9,[],rfl,hIc.trans h91,h92,rfl,[.int .i64 1,.int .i64 0,.slice (some ⟨b_24,0,none⟩) 1 1,.slice none 0 0],by rw [zbZ hf],_,_,_,none,0,0,by rw [zbZ hf],by rw [zbZ hf];exact Sl.lit (t:=3) [_] rfl Qv (by rw [←hi];exact h93 b_24 _ (by simp [QR])),by rw [zbZ hf];exact .nil⟩)
theorem zsn {I:Qu}{t:Tx}{rows:List (List Int)}{es:List Em}{rd:List Int}{ps l:List Pt}{sg:List Sg}(hT:zgx I t rows es rd ps l sg)(q:Nat)(f:Int):Yg Tryz.prog 73 [.agg (Kg t).toArray,.agg #[.int .i64 (q:Nat),.int .i64 f]] I [] (FrQ (or4 es (q:Int))):=by
 intro g H w hw
 refine qe Tryz.func73 Tryz.ntmps73 hw ?_
 have hIc:=zye I
 refine zR ?_
 refine Q5 rfl rfl rfl (fun b_2=>?_)
 refine Q5 rfl rfl rfl (fun b_3=>?_)
 refine Qr WC rfl rfl (fun b_4=>?_)
 refine zA (zN (Ql ?_))
 refine Zf (b:=b_2) (by repeat (first | exact Q7.here | apply Q7.there)) (fun I1 hI1 hb1=>?_)
 have hT:=hT.mono hI1;have hIc:=hIc.trans hI1
 have h2:=hb1
 refine Zf (b:=b_3) (by repeat (first | exact Q7.here | apply Q7.there)) (fun I2 hI2 hb2=>?_)
 have hT:=hT.mono hI2;have hIc:=hIc.trans hI2
 have h2:=hI2 _ _ h2
 have h3:=hb2
 refine Qg ?_
 refine zF zbr ?_
 refine zF zaL ?_
 refine zV (Qd rfl zjD (fun hg=>by exact .imm h2 rfl)) ?_
 refine zV (Zc (us:=[]) (vs:=[_]) rfl rfl) ?_
 refine qc (vs:=[_,_]) rfl zpr (zwE (cap:=[.pointer (some ⟨b_3,0,none⟩)]) hT.E hT.b3 zpt (fun e he=>zwv h3 e)) ?_
 refine zA ?_
 refine zN (zR ?_)
 refine zV (QS (ps:=[(0,_),(1,_)]) [_,_,_,_] Xq rfl rfl) ?_
 refine zM ?_
 refine zh VH ?_
 refine zA (zN (Qt ?_))
 exact Zs rfl rfl rfl YW (vs:=[.int .i64 2,.int .i64 2,.slice none 0 0,.slice none 0 0]) (by repeat (first | exact zyc | apply zyb | apply zyd)) rfl (fun w hw=>⟨_,I2,[],rfl,hIc,hw.drop,rfl,[.int .i64 2,.int .i64 2,.slice none 0 0,.slice none 0 0],rfl,none,0,0,none,0,0,rfl,.nil,.nil⟩)
theorem zq2 {I:Qu}{t:Tx}{rows:List (List Int)}{es:List Em}{rd:List Int}{ps l:List Pt}{sg:List Sg}(hT:zgx I t rows es rd ps l sg)(q:Nat)(f:Int)(hqd:q<rd.length)(hqr:∀ r∈rows,q<r.length):Yg Tryz.prog 74 [.agg (Kg t).toArray,.agg #[.int .i64 (q:Nat),.int .i64 f]] I [] (FrQ (or5 rows rd (q:Int))):=by
 intro g H w hw
 refine qe Tryz.func74 Tryz.ntmps74 hw ?_
 have hIc:=zye I
 have hRl:=hT.R.len
 refine zR ?_
 refine Q5 rfl rfl rfl (fun b_2=>?_)
 refine Q5 rfl rfl rfl (fun b_3=>?_)
 refine Qr WC rfl rfl (fun b_4=>?_)
 refine zA (zN (Ql ?_))
 have hD:=zye I
 refine Jo ?_
 refine Z7 I [(b_3,.cells #[.int .i64 (q:Nat),.int .i64 f] 104 (0,0)),(b_2,.cells (Kg t).toArray 98 (0,0))] mixed ?_
 refine zT 0 rfl (Qe rfl zbq) hD ?_
 refine zT 1 rfl (Qd rfl Kl (fun hg=>by exact QU.h1 rfl)) hD ?_
 refine zT 2 rfl (Q8 rfl rfl VL (fun hg=>by decide)) hD ?_
 refine zT 3 rfl (Qd rfl Qs (fun hg=>by exact QU.h0 rfl)) hD ?_
 refine zT 4 rfl (Qe rfl zbr) hD ?_
 refine zT 5 rfl (Qe rfl VT) hD ?_
 refine zT 6 rfl (Qd rfl QK (fun hg=>by exact QU.h1 rfl)) hD ?_
 refine zT 7 rfl (Q8 rfl rfl VL (fun hg=>by decide)) hD ?_
 refine zT 8 rfl (Qd rfl Qs (fun hg=>by exact QU.h0 rfl)) hD ?_
 refine zT 9 rfl (QF rfl rfl Qy hT.R (fun hg=>by omega)) hD ?_
 refine zT 10 rfl (Qd rfl Qs (fun hg=>by exact zx7 (k:=q) hT.R (Zk (d:=0) rfl (by omega)) rfl)) hD ?_
 refine qd 11 rfl ?_
 refine Qz (cap:=[]) (vs:=[_,_,_]) rfl rfl zpm .nil (zwL hT.V hT.b2 q hqr _) rfl rfl ?_
 rintro vv1 I1 L1 hI1 ⟨rfl,a9,c9,rfl,hH⟩
 have hIc:=hIc.trans hI1;have hD:=hD.trans hI1
 refine Qb ?_
 refine zD hD ?_
 refine zT 12 rfl (QS (ps:=[(0,_),(2,_)]) [_,_,_,_] Xq rfl rfl) hD ?_
 refine qd 13 rfl ?_
 refine zh VH ?_
 refine Qb ?_
 refine zD hD ?_
 refine zT 14 rfl (ZP rfl) hD ?_
 refine QG (by kernel_rfl) ?_
 refine QQ ?_
 refine Qa (Qt ?_)
 exact Zs rfl rfl rfl YW (vs:=[.int .i64 1,.int .i64 0,.slice a9 _ c9,.slice none 0 0]) (by repeat (first | exact zyc | apply zyb | apply zyd)) rfl (fun w hw=>⟨_,I1,[],rfl,hIc,hw.drop,rfl,[.int .i64 1,.int .i64 0,.slice a9 _ c9,.slice none 0 0],rfl,_,_,_,none,0,0,rfl,hH,.nil⟩)
theorem ztE {I:Qu}{t:Tx}{rows:List (List Int)}{es:List Em}{rd:List Int}{ps l:List Pt}{sg:List Sg}(hT:zgx I t rows es rd ps l sg)(s f:Int)(hrg:(or2 l s).2=false→∃ q:Nat,s=q∧q<rd.length∧∀ r∈rows,q<r.length){k:Nat}(hk:k<5)(hall:∀ j,j<k→(orK (onF ps) rows es rd l s f j).2=false):Yg Tryz.prog (70+k) [.agg (Kg t).toArray,.agg #[.int .i64 s,.int .i64 f]] I [] (FrQ (orK (onF ps) rows es rd l s f k)):=by
 match k,hk with
 | 0,_=>exact zt5 hT s f
 | 1,_=>exact zv1 hT s f
 | 2,_=>obtain ⟨q,rfl,h1,h2⟩:=hrg (hall 1 (by decide));exact zsc hT q f h1 h2
 | 3,_=>obtain ⟨q,rfl,h1,h2⟩:=hrg (hall 1 (by decide));exact zsn hT q f
 | 4,_=>obtain ⟨q,rfl,h1,h2⟩:=hrg (hall 1 (by decide));exact zq2 hT q f h1 h2
theorem zuH {k:Nat}(hk:k<5):Fun Tryz.prog (70+k):=by
 match k,hk with
 | 0,_=>exact zsY
 | 1,_=>exact ztH
 | 2,_=>exact zuS
 | 3,_=>exact zto
 | 4,_=>exact ztU
theorem zuZ {I:Qu}{t:Tx}{rows:List (List Int)}{es:List Em}{rd:List Int}{ps l:List Pt}{sg:List Sg}(hT:zgx I t rows es rd ps l sg)(s f:Int)(hrg:(or2 l s).2=false→∃ q:Nat,s=q∧q<rd.length∧∀ r∈rows,q<r.length):Yg Tryz.prog 39 [.agg (Kg t).toArray,.agg #[.int .i64 s,.int .i64 f]] I [] (OgQ (zah (onF ps) rows es rd l s f)):=by
 intro g H w hw
 refine qe Tryz.func39 Tryz.ntmps39 hw ?_
 have hIc:=zye I
 refine zR ?_
 refine Q5 rfl rfl rfl (fun b_2=>?_)
 refine Q5 rfl rfl rfl (fun b_3=>?_)
 refine Qr WC rfl rfl (fun b_4=>?_)
 refine zN (Ql (zR ?_))
 refine zV (Qp rfl Je (fun hg=>by exact Cells.g2) rfl) ?_
 refine zV (Zc (us:=[_]) (vs:=[]) rfl rfl) ?_
 refine zV (Qp rfl Je (fun hg=>by exact Cells.g2) rfl) ?_
 refine zV (Zc (us:=[_]) (vs:=[]) rfl rfl) ?_
 refine zV (Qp rfl Je (fun hg=>by exact Cells.g2) rfl) ?_
 refine zV (Zc (us:=[_]) (vs:=[]) rfl rfl) ?_
 refine zV (Qp rfl Je (fun hg=>by exact Cells.g2) rfl) ?_
 refine zV (Zc (us:=[_]) (vs:=[]) rfl rfl) ?_
 refine zV (Qp rfl Je (fun hg=>by exact Cells.g2) rfl) ?_
 refine zV (Zc (us:=[_]) (vs:=[]) rfl rfl) ?_
 refine Qq (ps:=[(0,_),(1,_),(2,_),(3,_),(4,_)]) (m:=[zdL 70 t 0,zdL 70 t 1,zdL 70 t 2,zdL 70 t 3,zdL 70 t 4]) zqs rfl (.cons rfl (.cons rfl (.cons rfl (.cons rfl (.cons rfl (.nil)))))) rfl (by simp [zdL]) (by decide) (by decide) rfl rfl (fun b_19=>?_)
 refine zQ zgV ?_
 refine zM (Qb ?_)
 refine Zf (b:=b_19) (by repeat (first | exact Q7.here | apply Q7.there)) (fun I1 hI1 hb1=>?_)
 have hT:=hT.mono hI1;have hIc:=hIc.trans hI1
 have h9:=hb1
 have hFn:=Sl.lit (enc:=zdL 70 t) (size:=1) (t:=145) [0,1,2,3,4] rfl (fun _=>rfl) h9
 refine Qa (Qm ?_)
 refine zU [(3,_),(4,_),(19,_),(20,_)] (fun T L0 mz E I' loc'=>∃ (k:Nat),mz=5-k∧E=(21,.int .i64 k)::T∧HLe I1 I'∧L0=loc'∧k≤5∧∀ j,j<k→(orK (onF ps) rows es rd l s f j).2=false) ?_ (h:=⟨0,rfl,rfl,zye _,rfl,Nat.zero_le _,fun j h=>absurd h (by omega)⟩)
 rintro mz E J2 loc' ⟨k,rfl,rfl,hJ,rfl,hk,hall⟩
 have hT:=hT.mono hJ;have hFn:=hFn.mono hJ;have hIc:=hIc.trans hJ
 have hB0:=hJ
 refine zR (zC (zN (Ql ?_)))
 refine zI ?_ ?_<;>intro hc22
 ·
  have hlt_k:k<5:=by have h:=hc22;simp at h;omega
  have hj:([0,1,2,3,4]:List Nat)[k]? =some k:=zx3 hlt_k
  refine Qo (Qa (Ql (Qm (zR ?_))))
  refine zV (zX zgV hFn (hb:=fun hg=>by simp only [List.length_cons,List.length_nil];omega)) ?_
  refine zV (Qd rfl zpj (fun hg=>by exact zx7 hFn hj rfl)) ?_
  refine zA ?_
  refine zN (zR ?_)
  refine zM ?_
  refine zV (Qp rfl zdQ (fun hg=>by exact Cells.g1) rfl) ?_
  refine ziP (pre:=[_]) (cap:=[]) (vs:=[_]) rfl rfl (zuH hlt_k) .nil (ztE hT s f hrg hlt_k hall) rfl rfl ?_
  rintro vv3 I3 L3 hI3 ⟨rfl,_,rfl,a1,n1,c1,a2,n2,c2,rfl,hw1,hw2⟩
  have hIc:=hIc.trans hI3;have hB0:=hB0.trans hI3
  refine zM ?_
  refine zE ?_
  refine zE ?_
  refine Qr WC rfl rfl (fun b_7=>?_)
  refine zh VH ?_
  refine zA ?_
  refine zN (zR ?_)
  refine zM (zN ?_)
  refine zI ?_ ?_<;>intro hc31
  ·
   refine zR ?_
   refine zV (Qp rfl YW (fun hg=>by exact Cells.g0) rfl) ?_
   refine zh VH ?_
   refine zN (Qt (Qn (Qc (Qc (Qn (Qc ?_))))))
   exact KH rfl rfl YW (vs:=[.int .i64 _,.int .i64 _,.slice a1 n1 c1,.slice a2 n2 c2]) (by repeat (first | exact zyc | apply zyb | apply zyd)) rfl (fun w hw=>⟨_,I3,[],rfl,hIc,hw.drop,rfl,_,_,_,_,_,_,by rw [←zju hlt_k hall hc31],by rw [←zju hlt_k hall hc31];exact hw1,by rw [←zju hlt_k hall hc31];exact hw2⟩)
  refine Qo (Qh (Qa (Qg (zB ?_))))
  refine zM (Qb ?_)
  exact zm (h:=⟨5-(k+1),by omega,k+1,rfl,rfl,hB0,rfl,by omega,fun j hj=>by rcases Nat.lt_succ_iff_lt_or_eq.1 hj with h | h;exact hall j h;rw [h];exact hc31⟩)
 exact absurd (hall 4 (by have h:=hc22;simp at h;omega)) (by simp [orK,or5])
end
section
open Go Go.Kn Go.Proofs
def zb1 (e1:Int)(ps:List Pt)(bs:List Sg)(vs:List Int):Int:=if e1≠0 then e1 else zdf ps bs vs
theorem znd {e1:Int}{ps:List Pt}{bs:List Sg}{vs:List Int}(h:e1≠0):zb1 e1 ps bs vs=e1:=if_pos h
theorem zeC {e1:Int}{ps:List Pt}{bs:List Sg}{vs:List Int}(h:e1=0):zb1 e1 ps bs vs=zdf ps bs vs:=if_neg (by omega)
theorem KJ {ps:List Pt}{bs:List Sg}{vs:List Int}(h:zdf ps bs vs=0):Sto ps∧ps.length≤512∧(∀ p∈ps,p.needs.length≤32)∧WA bs=0∧vs.length≤512∧Ver ps vs∧zgB bs (Yb ps vs)=true∧zfS ps bs vs=Ug (onF ps) bs (Yb ps vs)∧(Ug (onF ps) bs (Yb ps vs)).length≤4096:=by
 have hs:=h
 unfold zdf at h
 split at h
 ·
  exact absurd h (by assumption)
 ·
  split at h
  ·
   cases h
  ·
   rename_i hp hl
   have hp:XT ps bs vs=0:=by simpa using hp
   unfold XT at hp
   split at hp
   ·
    exact absurd hp (by assumption)
   ·
    rename_i hc
    have hc:KV ps=0:=by simpa using hc
    split at hp
    ·
     exact absurd hp (by assumption)
    ·
     rename_i hg
     split at hp
     ·
      cases hp
     ·
      rename_i hv
      split at hp
      ·
       rename_i hb
       rw [Bool.and_eq_true] at hb
       have hk:=Ui hc
       refine ⟨zbj hc,hk.1,fun p hm=>?_,by simpa using hg,by omega,(zfO (zaK hc)).1 hb.1,hb.2,?_,by omega⟩
       ·
        have h0:JN p=0:=Kc.1 hk.2.1 _ (List.mem_map.2 ⟨p,hm,rfl⟩)
        unfold JN at h0
        split at h0
        ·
         cases h0
        ·
         omega
       ·
        unfold zfS zlY;rw [if_neg (by rw [hs];simp)]
      ·
       cases hp
def OpQ (e:Int)(rows:List (List Int))(es:List Em)(rd:List Int)(ps l:List Pt)(s:List Sg)(v:Value)(I:Qu)(L:Go.Kn.Loc):Prop:=
 L=[]∧∃ vs,v= .tuple #[.agg vs.toArray,.int .i64 e]∧vs.length=8∧Yx vs=true∧(e=0→∃ t,vs=Kg t∧zgx I t rows es rd ps l s)
theorem zfk {α β:Type}[DecidableEq α]{m:List (α×β)}{a:α}{b:β}:Zy (Ys m a b) a=some b:=by rw [YE,if_pos rfl]
theorem zlP {α β:Type}[DecidableEq α]{m:List (α×β)}{a a':α}{b:β}(h:a≠a'):Zy (Ys m a b) a'=Zy m a':=by rw [YE,if_neg h]
theorem zfB {ws:List Wr}{rows:List (List Int)}{rd:List Int}:∀ {k:Nat} {l:List Sg},Wv ws rows rd k=some l→l.length≤k
 | 0,l,h=>by cases h;exact Nat.le_refl _
 | k+1,l,h=>by
  unfold Wv at h
  cases h1:Wv ws rows rd k with
  | none=>rw [h1] at h;cases h
  | some l1=>
   rw [h1] at h
   have h2:=zfB h1
   dsimp only at h
   split at h
   ·
    cases h
   ·
    cases h;omega
   ·
    cases h;rw [List.length_append,List.length_singleton];omega
theorem zbO {ws:List Wr}{rows:List (List Int)}{no:Int}{cl:List Int}{es:List Em}{rd:List Int}:(YM ws rows no cl es rd).length≤rd.length:=by
 by_cases h:JO ws rows no cl es rd=0
 ·
  unfold YM
  rw [if_neg (by omega)]
  cases h1:Wv ws rows rd rd.length with
  | none=>exact Nat.zero_le _
  | some l=>exact zfB h1
 ·
  rw [zir h];exact Nat.zero_le _
theorem zjT {vs:List Int}{a:Int}:vs.any (fun y=>a==y)=vs.any (· ==a):=by congr 1;funext y;rw [Bool.eq_iff_iff,beq_iff_eq,beq_iff_eq];exact eq_comm
theorem zoN {ps:List Pt}(hL:Lst ps){k:Nat}{p:Pt}(hp:ps[k]? =some p){n:Int}(hn:n∈p.needs):p.id≠n:=by
 have h1:=hL.on_lt (hL.on_need (List.mem_of_getElem? hp) hn)
 omega
end
section
open Go Go.Kn Go.Proofs
theorem zaU:QW Tryz.prog 98 4 7:=.of (by kernel_rfl)
theorem znA:Fun Tryz.prog 44:=.of Tryz.func44 (by kernel_rfl) (by kernel_rfl)
theorem zn1:Fun Tryz.prog 45:=.of Tryz.func45 (by kernel_rfl) (by kernel_rfl)
theorem zup:Fun Tryz.prog 68:=.of Tryz.func68 (by kernel_rfl) (by kernel_rfl)
theorem ztJ:PlT Tryz.prog 98 #[(0,1),(1,4),(5,1),(6,1),(7,1)] (.agg #[(.slice none 0 0),(.int .i64 0),(.slice none 0 0),(.slice none 0 0),(.slice none 0 0),(.map none),(.slice none 0 0),(.slice none 0 0)]):=⟨.of (by kernel_rfl),by kernel_rfl,fun w=>by kernel_rfl⟩
theorem zaq:SzT Tryz.prog 98 8:=.of (by kernel_rfl)
theorem zoh:Yp Tryz.prog 98 (.agg #[(.slice none 0 0),(.int .i64 0),(.slice none 0 0),(.slice none 0 0),(.slice none 0 0),(.map none),(.slice none 0 0),(.slice none 0 0)]):=.of (by kernel_rfl)
theorem zqL {I:Qu}{ref r:Nat}{sn s0:List (Int×Bool)}{A B:Int→Bool}(hsn:I ref=some (ZR (Value.int .i64) Value.bool sn))(hsq:X7 sn A)(hs0:X7 s0 B):Yg Tryz.prog 68 [.map (some r),.map (some ref)] I [(r,ZR (Value.int .i64) Value.bool s0)] (fun v I' L=>v= .tuple #[]∧I'=I∧∃ s,L=[(r,ZR (Value.int .i64) Value.bool s)]∧X7 s (fun x=>A x||B x)):=by
 intro g H w hw
 refine qe Tryz.func68 Tryz.ntmps68 hw ?_
 refine zR (zM ?_)
 refine Jt (ek:=Value.int .i64) (ev:=Value.bool) (m:=sn) rfl zaC rfl rfl (.inl hsn) (fun b_7=>?_)
 refine zN (Qm ?_)
 refine zU [(0,_),(7,_)] (fun T L0 mz E I' loc'=>∃ (seen:List Nat) (s:List (Int×Bool)),mz=sn.length-seen.length∧E=T∧I=I'∧[(b_7,YN ref sn.length seen),(r,ZR (Value.int .i64) Value.bool s)]=loc'∧X7 s (fun x=>zkZ sn seen x||B x)∧seen.Nodup∧∀ i∈seen,i<sn.length) ?_ (h:=⟨[],_,rfl,rfl,rfl,rfl,hs0.congr (fun x=>by rw [zbu,Bool.false_or]),.nil,fun i h=>by cases h⟩)
 rintro mz E I' loc' ⟨seen,s,rfl,rfl,rfl,rfl,hs,hnd2,hlt⟩
 have hsl:=Jh hnd2 hlt
 refine zR ?_
 refine Jv (ek:=Value.int .i64) (ev:=Value.bool) (m:=sn) (fun s'=>[(b_7,YN ref sn.length s'),(r,ZR (Value.int .i64) Value.bool s)]) rfl (fun s'=>.here) rfl rfl rfl rfl rfl (.inl hsn) (by simp) ?_
 intro t tv s' hno hyes
 refine zN (Ql ?_)
 refine zI ?_ ?_<;>intro hc9
 ·
  obtain ⟨i,q,hq,hns,rfl⟩:=hyes hc9
  refine Qo (Qa (Qm (zR ?_)))
  refine zV (Jq (ek:=Value.int .i64) (ev:=Value.bool) (m:=sn) (p:=q) (seen:=seen) (i:=i) rfl (.inl hsn) (.inr (by simp)) hq) ?_
  refine zE ?_
  refine zE ?_
  refine zA ?_
  refine zA (zN (Qg ?_))
  refine zM ?_
  refine zM ?_
  refine zM ?_
  refine Q4 (m:=s) (ek:=Value.int .i64) (ev:=Value.bool) (a:=q.1) q.2 zaC ZE rfl rfl rfl rfl (by repeat (first | exact Upd.here | apply Upd.there | apply QJ)) ?_
  refine Qb (Qh ?_)
  have hnd3:(seen++[i]).Nodup:=List.nodup_append.2 ⟨hnd2,by simp,fun a ha b hb e=>hns (by simp at hb;subst hb;subst e;exact ha)⟩
  have hlt3:∀ j∈seen++[i],j<sn.length:=fun j hj=>(List.mem_append.1 hj).elim (hlt j) (fun h=>by simp at h;subst h;exact (List.getElem?_eq_some_iff.1 hq).1)
  have hsl2:=Jh hnd3 hlt3
  rw [List.length_append,List.length_singleton] at hsl2
  exact zm (h:=⟨sn.length-(seen++[i]).length,by rw [List.length_append,List.length_singleton];omega,seen++[i],Ys s q.1 q.2,rfl,rfl,rfl,rfl,by rw [hsq.all q (List.mem_of_getElem? hq)];exact (hs.put q.1).congr (fun x=>by rw [zab hq,Bool.or_assoc]),hnd3,hlt3⟩)
 obtain ⟨rfl,hall⟩:=hno hc9
 refine QI (Qf (Qf (Qk ?_)))
 exact Vl (YL rfl (fun w hw=>⟨_,I,_,rfl,zye _,hw.subL (.drop .refl),rfl,rfl,s,rfl,hs.congr (fun x=>by rw [zbW hsq hall x])⟩))
theorem zns {I:Qu}{av:Option Addr}{n c:Nat}{ws:List Wr}(hW0:SlW I av n c ws)(hn:n≤100000){bv:Option Addr}{n2 c2:Nat}{rows:List (List Int)}(hVn:SlN I bv n2 c2 rows)(hn2:n2≤100000){ea1:Option Addr}{en1 ec1:Nat}{ea2:Option Addr}{en2 ec2:Nat}{ea3:Option Addr}{en3 ec3:Nat}{xs:List Int}{es:List Em}{rd:List Int}(hX1:Sl I 1 QR ea1 en1 ec1 xs)(hX2:Sl I 3 Yy ea2 en2 ec2 es)(hX3:Sl I 1 QR ea3 en3 ec3 rd)(hm1:en1≤100000)(hm2:en2≤100000)(hm3:en3≤100000)(no:Int){pv:Option Addr}{pn pc:Nat}{ps:List Pt}(hP:SlP I pv pn pc ps)(hpn:pn≤100000){dv:Option Addr}{n3 c3:Nat}{vs:List Int}(hVs:Sl I 1 QR dv n3 c3 vs)(hn3:n3≤100000)(hDb:VI I):Yg Tryz.prog 36 [.slice av n c,.slice bv n2 c2,.agg (Z1 no ea1 en1 ec1 ea2 en2 ec2 ea3 en3 ec3).toArray,.slice pv pn pc,.slice dv n3 c3] I [] (OpQ (zb1 (JO ws rows no xs es rd) ps (YM ws rows no xs es rd) vs) rows es rd ps (Yb ps vs) (Ug (onF ps) (YM ws rows no xs es rd) (Yb ps vs))):=by
 intro g H w hw
 refine qe Tryz.func36 Tryz.ntmps36 hw ?_
 have hIc:=zye I
 have hX3l:=hX3.len
 refine zR ?_
 refine Q5 rfl rfl rfl (fun b_7=>?_)
 refine Qr zoh rfl rfl (fun b_10=>?_)
 refine zA ?_
 refine zN (zR ?_)
 refine zM ?_
 refine zM ?_
 refine zV (Qp rfl Z0 (fun hg=>by exact Cells.g1) rfl) ?_
 refine Qz (cap:=[]) (vs:=[_,_,_]) rfl rfl znA .nil (Go.Proofs.YtodakphagkommaaGreatDoor.w_Signs hW0 hn hVn hn2 hX1 hX2 hX3 hm1 hm2 hm3 no hDb (fun e=>e ▸ zjJ)) rfl rfl ?_
 rintro vv1 I1 L1 hI1 ⟨rfl,as9,cs9,rfl,hSg⟩
 have hVn:=hVn.mono hI1;have hX2:=hX2.mono hI1;have hX3:=hX3.mono hI1;have hP:=hP.mono hI1;have hVs:=hVs.mono hI1;have hIc:=hIc.trans hI1
 have hSg:Sl I1 14 Y2 as9 (YM ws rows no xs es rd).length cs9 (YM ws rows no xs es rd):=hSg
 refine zM ?_
 refine zE ?_
 refine zE ?_
 refine zA ?_
 refine zA (zN (Ql (zR ?_)))
 refine zM ?_
 refine zC (zN ?_)
 refine zI ?_ ?_<;>intro hc25
 ·
  have he1:(JO ws rows no xs es rd)≠0:=by simpa using hc25
  refine zR ?_
  refine zV (Qp rfl Je (fun hg=>by exact Cells.g0) rfl) ?_
  refine zM ?_
  refine zh zaq ?_
  refine zA (zN (Qt (Qc ?_)))
  first
  | exact Zs rfl rfl rfl Je (vs:=[.slice none 0 0,.int .i64 0,.slice none 0 0,.slice none 0 0,.slice none 0 0,.map none,.slice none 0 0,.slice none 0 0]) (by repeat (first | exact zyc | apply zyb | apply zyd)) rfl (fun w hw=>⟨_,I1,[],rfl,hIc,hw.drop,rfl,[.slice none 0 0,.int .i64 0,.slice none 0 0,.slice none 0 0,.slice none 0 0,.map none,.slice none 0 0,.slice none 0 0],by rw [znd he1]<;>rfl,rfl,rfl,fun h=>absurd (znd he1 ▸ h) he1⟩)
 have he1:(JO ws rows no xs es rd)=0:=by simpa using hc25
 refine Qo (Qa (zR (zM ?_)))
 refine zV (Qp rfl Z0 (fun hg=>by exact Cells.g1) rfl) ?_
 refine ZD rfl rfl (fun r_30=>?_)
 refine zV (QS (ps:=[(0,_),(1,_),(2,_)]) [_,_,_,_,_,_,_,_] ztJ rfl rfl) ?_
 refine zh zaq ?_
 refine zN (Ql (zR (zM ?_)))
 refine zM ?_
 refine zM ?_
 refine Qz (cap:=[]) (vs:=[_,_,_]) rfl rfl zn1 .nil (w_Signs hP hpn hSg (by have:=zbO (ws:=ws) (rows:=rows) (no:=no) (cl:=xs) (es:=es) (rd:=rd);omega) hVs hn3) rfl rfl ?_
 rintro vv2 I2 L2 hI2 ⟨rfl,as8,cs8,rfl,hSs⟩
 have hVn:=hVn.mono hI2;have hX2:=hX2.mono hI2;have hX3:=hX3.mono hI2;have hP:=hP.mono hI2;have hVs:=hVs.mono hI2;have hIc:=hIc.trans hI2
 have hSs:Sl I2 14 Y2 as8 (zfS ps (YM ws rows no xs es rd) vs).length cs8 (zfS ps (YM ws rows no xs es rd) vs):=hSs
 refine zM ?_
 refine zE ?_
 refine zE ?_
 refine zF zaU ?_
 refine zS zmB ?_
 refine zA ?_
 refine zN (zR ?_)
 refine zM ?_
 refine zC (zN ?_)
 refine zI ?_ ?_<;>intro hc41
 ·
  have he2:zdf ps (YM ws rows no xs es rd) vs≠0:=by simpa using hc41
  have he3:(zb1 (JO ws rows no xs es rd) ps (YM ws rows no xs es rd) vs)≠0:=by rw [zeC he1];exact he2
  refine zR ?_
  refine zV (Qp rfl Je (fun hg=>by exact Cells.g1) rfl) ?_
  refine zM ?_
  refine zh zaq ?_
  refine zA (zN (Qt (Qc ?_)))
  first
  | exact Zs rfl rfl rfl Je (vs:=[.slice bv n2 c2,.int .i64 no,.slice ea1 en1 ec1,.slice ea2 en2 ec2,.slice ea3 en3 ec3,.map (some r_30),.slice none 0 0,.slice as8 (zfS ps (YM ws rows no xs es rd) vs).length cs8]) (by repeat (first | exact zyc | apply zyb | apply zyd)) rfl (fun w hw=>⟨_,I2,[],rfl,hIc,hw.drop,rfl,[.slice bv n2 c2,.int .i64 no,.slice ea1 en1 ec1,.slice ea2 en2 ec2,.slice ea3 en3 ec3,.map (some r_30),.slice none 0 0,.slice as8 (zfS ps (YM ws rows no xs es rd) vs).length cs8],by rw [zeC he1]<;>rfl,rfl,rfl,fun h=>absurd h he3⟩)
 have he2:zdf ps (YM ws rows no xs es rd) vs=0:=by simpa using hc41
 obtain ⟨hsto,hpl,hnd,hbg,hvl,hver,hfit,hsf,hsl⟩:=KJ he2
 have hL:=hsto.lst
 refine Qo (Qa (Ql (zR (zM ?_))))
 refine zQ Zz ?_
 refine zM (zN (Qm ?_))
 refine zU [(4,_),(10,_),(44,_),(45,_)] (fun T L0 mz E I' loc'=>∃ (k:Nat) (m:List (Int×Nat)) (v:Value) (q:Nat) (L:Go.Kn.Loc),mz=pn-k∧E=(46,.int .i64 k)::T∧HLe I2 I'∧L++[(r_30,ZR (Value.int .i64) zb3 m),(b_10,.cells #[.slice bv n2 c2,.int .i64 no,.slice ea1 en1 ec1,.slice ea2 en2 ec2,.slice ea3 en3 ec3,.map (some r_30),v,.slice as8 (zfS ps (YM ws rows no xs es rd) vs).length cs8] 98 (0,0)),(b_7,.cells (Z1 no ea1 en1 ec1 ea2 en2 ec2 ea3 en3 ec3).toArray 26 (0,0))]=loc'∧k≤pn∧OnL I' m (ps.take k)∧OwnS 57 19 v q (((ps.take k).filter (fun p=>vs.any (· ==p.id))).flatMap Yz) L∧q≤k) ?_ (h:=⟨0,[],_,0,[],rfl,rfl,zye _,rfl,Nat.zero_le _,OnL.nil,OwnS.nil,Nat.le_refl _⟩)
 rintro mz E J3 loc' ⟨k,m,v,q,L,rfl,rfl,hJ,rfl,hk,hm,hO,hq⟩
 have hVn:=hVn.mono hJ;have hX2:=hX2.mono hJ;have hX3:=hX3.mono hJ;have hP:=hP.mono hJ;have hVs:=hVs.mono hJ;have hSs:=hSs.mono hJ;have hIc:=hIc.trans hJ
 have hB0:=hJ
 obtain ⟨va6,vc6,rfl⟩:=zdd hO
 refine zR (zC (zN (Ql ?_)))
 refine zI ?_ ?_<;>intro hc47
 ·
  have hlt_k:k<pn:=by have h:=hc47;simp at h;omega
  obtain ⟨p,hp,hN⟩:=hP.at hlt_k
  have hpm:=List.mem_of_getElem? hp
  have hN:Sl J3 1 QR p.a p.n p.c p.needs:=hN
  have hpn2:=hnd p hpm
  have hNl:=hN.len
  refine Qo (Qa (Ql (Qm (zR ?_))))
  refine zV (QF rfl rfl Zz hP.1 (fun hg=>by omega)) ?_
  refine zV (Qp rfl Yw (fun hg=>by exact zyf hP.1 hp) rfl) ?_
  refine Qr K2 rfl rfl (fun b_14=>?_)
  refine zh VN ?_
  refine zN (zR ?_)
  refine zF UZ ?_
  refine zV (Qd rfl zb6 (fun hg=>by (repeat (first | exact zx9 rfl | apply zx8 | apply zya)))) ?_
  refine zF Zt ?_
  refine zL Qs ?_
  refine ZD rfl rfl (fun r_54=>?_)
  refine Q4 (m:=m) (ek:=Value.int .i64) (ev:=zb3) (a:=p.id) r_54 zcZ ZE rfl rfl rfl rfl (by (repeat (first | exact Upd.here | apply Upd.there | apply QJ))) ?_
  refine zN (Ql (zR ?_))
  refine zF KR ?_
  refine zL QK ?_
  refine zQ Qy ?_
  refine zM (zN (Qm ?_))
  refine zU [(4,_),(10,_),(14,_),(44,_),(45,_),(46,_),(56,_),(57,_)] (fun T L0 mz E I' loc'=>∃ (j:Nat) (s:List (Int×Bool)),mz=p.n-j∧E=(58,.int .i64 j)::T∧J3=I'∧(r_54,ZR (Value.int .i64) Value.bool s)::(b_14,.cells (Yz p).toArray 57 (0,0))::(L++[(r_30,ZR (Value.int .i64) zb3 (Ys m p.id r_54)),(b_10,.cells #[.slice bv n2 c2,.int .i64 no,.slice ea1 en1 ec1,.slice ea2 en2 ec2,.slice ea3 en3 ec3,.map (some r_30),.slice va6 q vc6,.slice as8 (zfS ps (YM ws rows no xs es rd) vs).length cs8] 98 (0,0)),(b_7,.cells (Z1 no ea1 en1 ec1 ea2 en2 ec2 ea3 en3 ec3).toArray 26 (0,0))])=loc'∧j≤p.n∧X7 s (fun x=>(p.needs.take j).any fun n=>n==x||onF (ps.take k) n x)) ?_ (h:=⟨0,[],rfl,rfl,rfl,rfl,Nat.zero_le _,X7.nil⟩)
  rintro mz E I' loc' ⟨j,s,rfl,rfl,rfl,rfl,hj,hs⟩
  refine zR (zC (zN (Ql ?_)))
  refine zI ?_ ?_<;>intro hc59
  ·
   have hlt_j:j<p.n:=by have h:=hc59;simp at h;omega
   obtain ⟨y,hy⟩:=hN.at hlt_j
   obtain ⟨ref,hget,sn,hsn,hsq⟩:=hm.get (hL.before hp (List.mem_of_getElem? hy))
   have hpy:p.id≠y:=zoN hL hp (List.mem_of_getElem? hy)
   refine Qo (Qa (Ql (Qm (zR ?_))))
   refine zV (zX Qy hN) ?_
   refine zV (Qd rfl Qs (fun hg=>by exact zx7 hN hy rfl)) ?_
   refine zA ?_
   refine zN (zR ?_)
   refine zF UZ ?_
   refine zV (Qd rfl zb6 (fun hg=>by (repeat (first | exact zx9 rfl | apply zx8 | apply zya)))) ?_
   refine zF Zt ?_
   refine zL Qs ?_
   refine zV (YG (m:=(Ys m p.id r_54)) (ek:=Value.int .i64) (ev:=zb3) (a:=p.id) zfk zcZ ZE rfl rfl (fun _=>.inr (by simp))) ?_
   refine zM ?_
   refine Q4 (m:=s) (ek:=Value.int .i64) (ev:=Value.bool) (a:=y) true zaC ZE rfl rfl rfl rfl (by repeat (first | exact Upd.here | apply Upd.there | apply QJ)) ?_
   refine zN (Qg ?_)
   refine zF UZ ?_
   refine zV (Qd rfl zb6 (fun hg=>by (repeat (first | exact zx9 rfl | apply zx8 | apply zya)))) ?_
   refine zF Zt ?_
   refine zL Qs ?_
   refine zV (YG (m:=(Ys m p.id r_54)) (ek:=Value.int .i64) (ev:=zb3) (a:=p.id) zfk zcZ ZE rfl rfl (fun _=>.inr (by simp))) ?_
   refine zF UZ ?_
   refine zV (Qd rfl zb6 (fun hg=>by (repeat (first | exact zx9 rfl | apply zx8 | apply zya)))) ?_
   refine zM ?_
   refine zV (YG (m:=(Ys m p.id r_54)) (ek:=Value.int .i64) (ev:=zb3) (a:=y) ((zlP hpy).trans hget) zcZ ZE rfl rfl (fun _=>.inr (by simp))) ?_
   refine Qz (cap:=[]) (vs:=[_,_]) rfl rfl zup (.cons .here .nil) (zqL hsn hsq (hs.put y)) rfl rfl ?_
   rintro vv5 I5 L5 hI5 ⟨rfl,rfl,s2,rfl,hs2⟩
   refine Qb (Qh (Qa (Qg (zB ?_))))
   refine zM (Qb ?_)
   exact zm (h:=⟨p.n-(j+1),by omega,j+1,_,rfl,rfl,rfl,rfl,by omega,hs2.congr (fun x=>by rw [UV hy];rw [Bool.eq_iff_iff];simp;grind)⟩)
  have hge_j:p.n≤j:=by have h:=hc59;simp at h;omega
  refine QI (Qf (Qf (Qk (Qa (Ql ?_)))))
  refine Zf .here (fun I6 hI6 hb6=>?_)
  have hVs:=hVs.mono hI6;have hm:=hm.mono hI6;have hB0:=hB0.trans hI6
  have hbx:=hb6
  have hst6:OnL I6 (Ys m p.id r_54) (ps.take (k+1)):=OnL.step hL hp hm hbx (by rw [ZF hN.len hge_j] at hs;exact hs)
  refine Qg (zM ?_)
  refine zF Zt ?_
  refine zL Qs ?_
  refine qc (vs:=[_,_]) rfl zc1 (JM hVs hn3 _) ?_
  refine zN ?_
  refine zI ?_ ?_<;>intro hc82
  ·
   have hin:vs.any (· ==p.id)=true:=by rw [←zjT];exact hc82
   refine Qg ?_
   refine zF Xh ?_
   refine zV (Qd rfl zct (fun hg=>by (repeat (first | exact zx9 rfl | apply zx8 | apply zya)))) ?_
   refine zV (Qp rfl Yw (fun hg=>by exact Cells.g0) rfl) ?_
   refine Qq (ps:=[(0,_)]) (m:=[Yz p]) US rfl (.cons rfl (.nil)) rfl (by simp [QZ]) (by decide) (by decide) rfl rfl (fun b_86=>?_)
   refine QY (v:=_) (ys:=[p].flatMap Yz) (L:=L) rfl rfl US hO (by repeat (first | exact .cons .here .nil | exact QD | exact Qw | apply QC | apply QB)) ⟨rfl,fun _=>rfl,by repeat (first | exact zyc | apply zyb | apply zyd)⟩ (zks _) (by omega) rfl rfl ?_
   intro v9 L9 hO9 _;obtain ⟨va9,vc9,rfl⟩:=zdd hO9;rw [←List.flatMap_append] at hO9
   refine zF Xh ?_
   refine ZI rfl rfl zmA rfl rfl (by (repeat (first | exact Upd.here | apply Upd.there | apply QJ))) rfl ?_
   refine Qb (Qh (Qa (Qg (zB ?_))))
   refine zM (Qb ?_)
   first
   | exact zm (h:=⟨pn-(k+1),by omega,k+1,_,_,_,_,rfl,rfl,hB0,rfl,by omega,hst6,by rw [Wj hp hin];exact hO9,by omega⟩)
  have hin:vs.any (· ==p.id)=false:=by rw [←zjT];exact hc82
  refine Qo (Qh (Qa (Qg (zB ?_))))
  refine zM (Qb ?_)
  first
  | exact zm (h:=⟨pn-(k+1),by omega,k+1,_,_,_,_,rfl,rfl,hB0,rfl,by omega,hst6,by rw [zaA hp hin];exact hO,by omega⟩)
 have hge_k:pn≤k:=by have h:=hc47;simp at h;omega
 rw [ZF hP.len hge_k] at hm hO
 refine QI (Qf (Qf (Qk (Qa (zR ?_)))))
 refine zV (Qp rfl Je (fun hg=>by (repeat (first | exact zyc | apply zyb | apply zyd))) rfl) ?_
 refine YO rfl rfl zaq rfl rfl rfl rfl (by (repeat (first | exact Upd.here | apply Upd.there | apply QJ))) ?_
 refine zA (zN (Qt ?_))
 first
 | exact Zs rfl rfl rfl Je (vs:=[.slice bv n2 c2,.int .i64 no,.slice ea1 en1 ec1,.slice ea2 en2 ec2,.slice ea3 en3 ec3,.map (some r_30),.slice va6 q vc6,.slice as8 (zfS ps (YM ws rows no xs es rd) vs).length cs8]) (by repeat (first | exact zyc | apply zyb | apply zyd)) rfl (fun w hw=>by obtain ⟨I9,av9,c9,h1',h2',e9,h4'⟩:=OwnS.freeze (R:=[_,_,_]) hO QZ (by decide) hw;cases e9;obtain ⟨I8,h81,h82,h83⟩:=h2'.freezeAll;exact ⟨_,I8,[],rfl,(hIc.trans h1').trans h81,h82,rfl,[.slice bv n2 c2,.int .i64 no,.slice ea1 en1 ec1,.slice ea2 en2 ec2,.slice ea3 en3 ec3,.map (some r_30),.slice va6 q vc6,.slice as8 (zfS ps (YM ws rows no xs es rd) vs).length cs8],by rw [zeC he1,he2],rfl,rfl,fun _=>⟨⟨bv,n2,c2,no,ea1,en1,ec1,ea2,en2,ec2,ea3,en3,ec3,r_30,va6,q,vc6,as8,_,cs8⟩,rfl,⟨(hVn.mono h1').mono h81,(hX2.mono h1').mono h81,(hX3.mono h1').mono h81,⟨m,h83 r_30 _ (by simp),(hm.mono h1').mono h81⟩,⟨h4'.mono h81,fun z hz=>((hP.2 z (List.mem_filter.1 hz).1).mono h1').mono h81⟩,by rw [←hsf];exact (hSs.mono h1').mono h81,hn2,hm2,hm3,by show q≤100000;omega,by show (zfS ps (YM ws rows no xs es rd) vs).length≤100000;rw [hsf];omega,fun z hz=>⟨z,(List.mem_filter.1 hz).1,rfl⟩⟩⟩⟩)
end
section
open Go Go.Kn Go.Proofs
section
variable {ws:List Wr} {rows:List (List Int)} {no:Int} {cl:List Int} {es:List Em} {rd:List Int}
theorem zsx (h:JO ws rows no cl es rd=0):zae ws=0∧Uz ws=rows∧WP rows no cl es rd=0∧Wv ws rows rd rd.length=some (YM ws rows no cl es rd):=by
 have h0:=h
 unfold JO at h
 split at h
 ·
  exact absurd h (by assumption)
 ·
  split at h
  ·
   cases h
  ·
   split at h
   ·
    exact absurd h (by assumption)
   ·
    split at h
    ·
     cases h
    ·
     rename_i h1 h2 h3 h4
     refine ⟨by simpa using h1,by simpa using h2,by simpa using h3,?_⟩
     unfold YM
     rw [if_neg (by rw [h0];simp)]
     cases hs:Wv ws rows rd rd.length with
     | none=>rw [hs] at h4;simp at h4
     | some l=>rfl
theorem zdj:∀ {k:Nat} {l:List Sg},Wv ws rows rd k=some l→∀ x∈l,∃ q:Nat,q<k∧x.id=(q:Int)∧zbs ws rows q (rd.getD q 0)= .sg x
 | 0,l,h,x,hx=>by cases h;cases hx
 | k+1,l,h,x,hx=>by
  unfold Wv at h
  cases h1:Wv ws rows rd k with
  | none=>rw [h1] at h;cases h
  | some l1=>
   rw [h1] at h
   dsimp only at h
   split at h
   ·
    cases h
   ·
    cases h
    obtain ⟨q,a,b,c⟩:=zdj h1 x hx
    exact ⟨q,by omega,b,c⟩
   ·
    rename_i y ho
    cases h
    rcases List.mem_append.1 hx with hx | hx
    ·
     obtain ⟨q,a,b,c⟩:=zdj h1 x hx
     exact ⟨q,by omega,b,c⟩
    ·
     rw [List.mem_singleton] at hx
     subst hx
     refine ⟨k,by omega,?_,ho⟩
     unfold zbs at ho
     split at ho
     ·
      cases ho
     ·
      split at ho
      ·
       cases ho
      ·
       split at ho
       ·
        cases ho
       ·
        cases ho;rfl
theorem zsz (h:JO ws rows no cl es rd=0){x:Sg}(hx:x∈YM ws rows no cl es rd):∃ q:Nat,x.id=(q:Int)∧q<rd.length∧(∀ r∈rows,q<r.length)∧zbs ws rows q (rd.getD q 0)= .sg x:=by
 obtain ⟨h1,h2,h3,h4⟩:=zsx h
 obtain ⟨q,a,b,c⟩:=zdj h4 x hx
 have hr:=(zqk h1 h2 h3).2.1
 exact ⟨q,b,a,fun r hm=>by rw [hr r hm];exact a,c⟩
end
theorem zkN {xs:List Sg}{k y:Sg}(h:y∈zde xs k):y=k∨y∈xs:=by
 unfold zde at h
 rcases List.mem_append.1 h with h | h
 ·
  exact .inr (List.takeWhile_sublist _ |>.subset h)
 ·
  rcases List.mem_cons.1 h with h | h
  ·
   exact .inl h
  ·
   exact .inr (List.dropWhile_sublist _ |>.subset h)
theorem zeE:∀ {l:List Pt} {base:List Sg} {y:Sg},y∈Uq base l→y∈base∨∃ p∈l,p.kind=2∧p.nw=y
 | [],base,y,h=>.inl h
 | p::l,base,y,h=>by
  have h':y∈Uq (if p.kind=2 then zde base p.nw else base) l:=h
  rcases zeE h' with h1 | ⟨q,h1,h2,h3⟩
  ·
   split at h1
   ·
    rename_i hk
    rcases zkN h1 with h1 | h1
    ·
     exact .inr ⟨p,List.mem_cons_self ..,hk,h1.symm⟩
    ·
     exact .inl h1
   ·
    exact .inl h1
  ·
   exact .inr ⟨q,List.mem_cons_of_mem _ h1,h2,h3⟩
theorem zly {on:Int→Int→Bool}{base:List Sg}{l:List Pt}{x:Sg}(h:x∈Ug on base l):∃ y,y∈Uq base l∧x=zkk on l y∧exB on l y.id=true:=by
 unfold Ug at h
 obtain ⟨y,h1,rfl⟩:=List.mem_map.1 h
 obtain ⟨h2,h3⟩:=List.mem_filter.1 h1
 exact ⟨y,h2,rfl,h3⟩
theorem zxn {l:List Pt}{s:Int}(h:(or2 l s).2=false):l.any (inP s)=false:=by
 unfold or2 at h
 cases hf:l.find? (inP s) with
 | none=>rw [List.find?_eq_none] at hf;rw [List.any_eq_false];exact hf
 | some p=>rw [hf] at h;cases h
theorem zkJ {on:Int→Int→Bool}{base:List Sg}{l:List Pt}(hs:Sto l){x:Sg}(h:x∈Ug on base l)(hn:(or2 l x.id).2=false):∃ y∈base,x=zkk on l y∧exB on l y.id=true:=by
 obtain ⟨y,h1,h2,h3⟩:=zly h
 rcases zeE h1 with h4 | ⟨p,hp,hk,hw⟩
 ·
  exact ⟨y,h4,h2,h3⟩
 ·
  have h5:=zxn hn
  rw [List.any_eq_false] at h5
  refine absurd ?_ (h5 p hp)
  unfold inP
  rw [h2,zhG,←hw,((hs.ok p hp).ins hk).1]
  simp [hk]
theorem znY {ws:List Wr}{rows:List (List Int)}{no:Int}{cl:List Int}{es:List Em}{rd:List Int}{ps:List Pt}{vs:List Int}(h1:JO ws rows no cl es rd=0)(h2:zdf ps (YM ws rows no cl es rd) vs=0){x:Sg}(hx:x∈Ug (onF ps) (YM ws rows no cl es rd) (Yb ps vs))
  (hn:(or2 (Yb ps vs) x.id).2=false):∃ q:Nat,x.id=q∧q<rd.length∧∀ r∈rows,q<r.length:=by
 obtain ⟨hsto,_,_,_,_,hver,_⟩:=KJ h2
 obtain ⟨y,hy,e,_⟩:=zkJ (zba hsto hver) hx hn
 obtain ⟨q,a,b,c,_⟩:=zsz h1 hy
 exact ⟨q,by rw [e,zhG,a],b,c⟩
theorem zeg {e1:Int}{ps:List Pt}{bs:List Sg}{vs:List Int}(h:zb1 e1 ps bs vs=0):e1=0∧zdf ps bs vs=0:=by
 unfold zb1 at h
 split at h
 ·
  exact absurd h (by assumption)
 ·
  rename_i h1;exact ⟨by simpa using h1,h⟩
def orE (e0:Int)(s:List Sg)(sign f:Int):Int:=if e0≠0 then e0 else if (decide (f<1)||decide (f>9))|| !(s.any fun x=>x.id==sign) then 440 else 0
def orO (e:Int)(o:Og):Og:=if e≠0 then zOg else o
def OrQ (e:Int)(o:Og)(v:Value)(I:Qu)(L:Go.Kn.Loc):Prop:=L=[]∧∃ vs,v= .tuple #[.agg vs.toArray,.int .i64 e]∧OgV I o vs
theorem zwb {e0:Int}{s:List Sg}{sign f:Int}(h:e0≠0):orE e0 s sign f=e0:=if_pos h
theorem zv6 {e0:Int}{s:List Sg}{sign f:Int}(h:e0=0)(h2:((decide (f<1)||decide (f>9))|| !(s.any fun x=>x.id==sign))=true):orE e0 s sign f=440:=by unfold orE;rw [if_neg (by omega),if_pos h2]
theorem zsV {e0:Int}{s:List Sg}{sign f:Int}(h:e0=0)(h2:((decide (f<1)||decide (f>9))|| !(s.any fun x=>x.id==sign))=false):orE e0 s sign f=0:=by unfold orE;rw [if_neg (by omega),if_neg (by rw [h2];decide)]
theorem OrQ.bad {I:Qu}{e:Int}{o:Og}(he:e≠0):OrQ e (orO e o) (.tuple #[.agg #[.int .i64 0,.int .i64 0,.slice none 0 0,.slice none 0 0],.int .i64 e]) I []:=by
 unfold orO;rw [if_pos he]
 exact ⟨rfl,[.int .i64 0,.int .i64 0,.slice none 0 0,.slice none 0 0],rfl,none,0,0,none,0,0,rfl,.nil,.nil⟩
def tcJ (og:Int→Int→Og)(s:Int)(j:Nat):List (Int×Int):=(List.range j).flatMap fun (i:Nat)=>if (og s ((i:Int)+1)).k==3 then [(s,(i:Int)+1)] else []
def tcK (og:Int→Int→Og)(s:List Sg)(k:Nat):List (Int×Int):=(s.take k).flatMap fun x=>tcJ og x.id 9
theorem Wi {og:Int→Int→Og}{s:Int}{j:Nat}(h:((og s ((j:Int)+1)).k==3)=true):tcJ og s (j+1)=tcJ og s j++[(s,(j:Int)+1)]:=by
 unfold tcJ;rw [List.range_succ,List.flatMap_append];simp only [List.flatMap_cons,List.flatMap_nil,List.append_nil];rw [if_pos h]
theorem zap {og:Int→Int→Og}{s:Int}{j:Nat}(h:((og s ((j:Int)+1)).k==3)=false):tcJ og s (j+1)=tcJ og s j:=by
 unfold tcJ;rw [List.range_succ,List.flatMap_append];simp only [List.flatMap_cons,List.flatMap_nil,List.append_nil];rw [if_neg (by rw [h];decide),List.append_nil]
theorem zeI {og:Int→Int→Og}{s:List Sg}{k:Nat}{x:Sg}(hx:s[k]? =some x):tcK og s (k+1)=tcK og s k++tcJ og x.id 9:=by
 unfold tcK;rw [List.take_add_one,hx,List.flatMap_append];simp
theorem zhR {og:Int→Int→Og}{s:List Sg}{k n:Nat}(hn:s.length=n)(hk:n≤k):tcK og s k=s.flatMap fun x=>tcJ og x.id 9:=by
 unfold tcK;rw [List.take_of_length_le (by omega)]
def tcF (e:Int)(og:Int→Int→Og)(s:List Sg):List (Int×Int):=if e≠0 then [] else s.flatMap fun x=>tcJ og x.id 9
def zxO (e:Int)(xs:List (Int×Int))(v:Value)(I:Qu)(L:Go.Kn.Loc):Prop:=L=[]∧∃ a c,v= .tuple #[.slice a xs.length c,.int .i64 e]∧Sl I 2 VO a xs.length c xs
theorem zxt {s:List Sg}{sign f:Int}(h:((decide (f<1)||decide (f>9))|| !(s.any fun x=>x.id==sign))=false):∃ x∈s,x.id=sign:=by
 rw [Bool.or_eq_false_iff] at h
 have h2:=zf3 h.2
 rw [List.any_eq_true] at h2
 obtain ⟨x,hx,he⟩:=h2
 exact ⟨x,hx,by simpa using he⟩
theorem zts {C:Cx}{Q:Exit→Act→World→Prop}{E:Env}{I:Qu}{loc:Go.Kn.Loc}(loc':Go.Kn.Loc){c:Code}(hp:loc'.Perm loc)(h:X C Q c E I loc'):X C Q c E I loc:=fun a w ha hw=>h a w ha (hw.permL hp)
end
section
open Go Go.Kn Go.Proofs
theorem zmD:Fun Tryz.prog 36:=.of Tryz.func36 (by kernel_rfl) (by kernel_rfl)
theorem ztk:Fun Tryz.prog 37:=.of Tryz.func37 (by kernel_rfl) (by kernel_rfl)
theorem zuL:Fun Tryz.prog 38:=.of Tryz.func38 (by kernel_rfl) (by kernel_rfl)
theorem znN:Fun Tryz.prog 39:=.of Tryz.func39 (by kernel_rfl) (by kernel_rfl)
theorem zmh:zff Tryz.prog 38 0 0:=.of (by kernel_rfl)
theorem zws {I:Qu}{b1:Nat}{sign:Int}(h1:I b1=some (.cells #[.int .i64 sign] 3 (0,0)))(x:Sg):Zw Tryz.prog 38 [JX x,.pointer (some ⟨b1,0,none⟩)] I (.bool (x.id==sign)):=by
 intro g H w hw
 refine qe Tryz.func38 Tryz.ntmps38 hw ?_
 refine zR ?_
 refine Q5 rfl rfl rfl (fun b_2=>?_)
 refine zA ?_
 refine zN (zR ?_)
 refine zF ZN ?_
 refine zL Qs ?_
 refine zV (Qd rfl Qs (fun hg=>by exact .imm h1 rfl)) ?_
 refine zC ?_
 refine zA (zN (Qt ?_))
 exact zr rfl rfl (by rfl)
theorem ze3 {I:Qu}{av:Option Addr}{n c:Nat}{ws:List Wr}(hW0:SlW I av n c ws)(hn:n≤100000){bv:Option Addr}{n2 c2:Nat}{rows:List (List Int)}(hVn:SlN I bv n2 c2 rows)(hn2:n2≤100000){ea1:Option Addr}{en1 ec1:Nat}{ea2:Option Addr}{en2 ec2:Nat}{ea3:Option Addr}{en3 ec3:Nat}{xs:List Int}{es:List Em}{rd:List Int}(hX1:Sl I 1 QR ea1 en1 ec1 xs)(hX2:Sl I 3 Yy ea2 en2 ec2 es)(hX3:Sl I 1 QR ea3 en3 ec3 rd)(hm1:en1≤100000)(hm2:en2≤100000)(hm3:en3≤100000)(no:Int){pv:Option Addr}{pn pc:Nat}{ps:List Pt}(hP:SlP I pv pn pc ps)(hpn:pn≤100000){dv:Option Addr}{n3 c3:Nat}{vs:List Int}(hVs:Sl I 1 QR dv n3 c3 vs)(hn3:n3≤100000)(hDb:VI I)(sign fld:Int):Yg Tryz.prog 14 [.slice av n c,.slice bv n2 c2,.agg (Z1 no ea1 en1 ec1 ea2 en2 ec2 ea3 en3 ec3).toArray,.slice pv pn pc,.slice dv n3 c3,.int .i64 sign,.int .i64 fld] I [] (OrQ (orE (zb1 (JO ws rows no xs es rd) ps (YM ws rows no xs es rd) vs) (Ug (onF ps) (YM ws rows no xs es rd) (Yb ps vs)) sign fld) (orO (orE (zb1 (JO ws rows no xs es rd) ps (YM ws rows no xs es rd) vs) (Ug (onF ps) (YM ws rows no xs es rd) (Yb ps vs)) sign fld) (zah (onF ps) rows es rd (Yb ps vs) sign fld))):=by
 intro g H w hw
 refine qe Tryz.func14 Tryz.ntmps14 hw ?_
 have hIc:=zye I
 refine zR ?_
 refine Q5 rfl rfl rfl (fun b_9=>?_)
 refine Q5 rfl rfl rfl (fun b_12=>?_)
 refine Qr WC rfl rfl (fun b_14=>?_)
 refine zA ?_
 refine zN (zR ?_)
 refine zM ?_
 refine zM ?_
 refine zV (Qp rfl Z0 (fun hg=>by exact Cells.g2) rfl) ?_
 refine zM ?_
 refine zM ?_
 refine Qz (cap:=[]) (vs:=[_,_,_,_,_]) rfl rfl zmD .nil (zns hW0 hn hVn hn2 hX1 hX2 hX3 hm1 hm2 hm3 no hP hpn hVs hn3 hDb) rfl rfl ?_
 rintro vv1 I1 L1 hI1 ⟨rfl,vx,rfl,hvl,hv1,hop⟩
 have hIc:=hIc.trans hI1
 refine zM ?_
 refine zE ?_
 refine zE ?_
 refine Qr zoh rfl rfl (fun b_16=>?_)
 refine YO rfl rfl zaq hvl rfl hv1 rfl (by repeat (first | exact Upd.here | apply Upd.there | apply QJ)) ?_
 refine zA (zN (Ql (zR ?_)))
 refine zM ?_
 refine zC (zN ?_)
 refine zI ?_ ?_<;>intro hc27
 ·
  have he0:(zb1 (JO ws rows no xs es rd) ps (YM ws rows no xs es rd) vs)≠0:=by simpa using hc27
  refine zR ?_
  refine zV (Qp rfl YW (fun hg=>by exact Cells.g1) rfl) ?_
  refine zM ?_
  refine zh VH ?_
  refine zA (zN (Qt (Qc ?_)))
  first
  | exact Zs rfl rfl rfl YW (vs:=[.int .i64 0,.int .i64 0,.slice none 0 0,.slice none 0 0]) (by repeat (first | exact zyc | apply zyb | apply zyd)) rfl (fun w hw=>⟨_,I1,[],rfl,hIc,hw.drop,by rw [zwb he0];exact OrQ.bad he0⟩)
 have he0:(zb1 (JO ws rows no xs es rd) ps (YM ws rows no xs es rd) vs)=0:=by simpa using hc27
 obtain ⟨t,rfl,hT⟩:=hop he0
 obtain ⟨hs1,hs2⟩:=zeg he0
 refine Qo (Qa (Ql (Ql ?_)))
 refine Zf (b:=b_12) (by repeat (first | exact Q7.here | apply Q7.there)) (fun I2 hI2 hb2=>?_)
 have hT:=hT.mono hI2;have hIc:=hIc.trans hI2
 have h12:=hb2
 refine Qg (zM ?_)
 refine zC ?_
 refine zM ?_
 refine QX 2 rfl rfl rfl ?_
 refine zJ (Qi rfl) ?_
 refine zJ (QH rfl rfl rfl) ?_
 refine ZA rfl rfl rfl rfl rfl ?_
 refine zM ?_
 refine QX 6 rfl rfl rfl ?_
 refine zJ (Qe rfl zaU) ?_
 refine zJ (Qd rfl zcQ (fun hg=>by exact QU.h0 rfl)) ?_
 refine zJ (Zc (us:=[]) (vs:=[_]) rfl rfl) ?_
 refine qf (vs:=[_,_]) rfl ztk (fun hg=>zwr (cap:=[.pointer (some ⟨b_12,0,none⟩)]) hT.S hT.bs zuL (fun x hx=>zws h12 x)) ?_
 refine zJ (Vy rfl) ?_
 refine ZA rfl rfl rfl rfl rfl ?_
 refine zN ?_
 refine zI ?_ ?_<;>intro hc42
 ·
  refine zR ?_
  refine zV (Qp rfl YW (fun hg=>by exact Cells.g1) rfl) ?_
  refine zh VH ?_
  refine zA (zN (Qt (Qc ?_)))
  first
  | exact Zs rfl rfl rfl YW (vs:=[.int .i64 0,.int .i64 0,.slice none 0 0,.slice none 0 0]) (by repeat (first | exact zyc | apply zyb | apply zyd)) rfl (fun w hw=>⟨_,I2,[],rfl,hIc,hw.drop,by rw [zv6 he0 hc42];exact OrQ.bad (by decide)⟩)
 obtain ⟨x,hx,hxi⟩:∃ x∈(Ug (onF ps) (YM ws rows no xs es rd) (Yb ps vs)),x.id=sign:=zxt hc42
 have hin:∃ x∈(Ug (onF ps) (YM ws rows no xs es rd) (Yb ps vs)),x.id=sign:=⟨x,hx,hxi⟩
 refine Qo (Qa (zR ?_))
 refine zV (Qp rfl Je (fun hg=>by exact Cells.g0) rfl) ?_
 refine zV (Qd rfl Qs (fun hg=>by exact .imm h12 rfl)) ?_
 refine zM ?_
 refine zV (Zp (ps:=[(0,_),(1,_)]) [_,_] VL zgM rfl rfl) ?_
 refine Qz (cap:=[]) (vs:=[_,_]) rfl rfl znN .nil (zuZ hT sign fld (fun h=>by obtain ⟨x,hx,hxi⟩:=hin;have h9:=znY hs1 hs2 hx (by rw [hxi];exact h);rw [hxi] at h9;exact h9)) rfl rfl ?_
 rintro vv3 I3 L3 hI3 ⟨rfl,a1,n1,c1,a2,n2,c2,rfl,hw1,hw2⟩
 have hIc:=hIc.trans hI3
 refine zh VH ?_
 refine zA (zN (Qt ?_))
 first
 | exact Zs rfl rfl rfl YW (vs:=[.int .i64 _,.int .i64 _,.slice a1 n1 c1,.slice a2 n2 c2]) (by repeat (first | exact zyc | apply zyb | apply zyd)) rfl (fun w hw=>⟨_,I3,[],rfl,hIc,hw.drop,by rw [zsV he0 hc42];exact ⟨rfl,_,rfl,_,_,_,_,_,_,rfl,hw1,hw2⟩⟩)
theorem zcq {I:Qu}{av:Option Addr}{n c:Nat}{ws:List Wr}(hW0:SlW I av n c ws)(hn:n≤100000){bv:Option Addr}{n2 c2:Nat}{rows:List (List Int)}(hVn:SlN I bv n2 c2 rows)(hn2:n2≤100000){ea1:Option Addr}{en1 ec1:Nat}{ea2:Option Addr}{en2 ec2:Nat}{ea3:Option Addr}{en3 ec3:Nat}{xs:List Int}{es:List Em}{rd:List Int}(hX1:Sl I 1 QR ea1 en1 ec1 xs)(hX2:Sl I 3 Yy ea2 en2 ec2 es)(hX3:Sl I 1 QR ea3 en3 ec3 rd)(hm1:en1≤100000)(hm2:en2≤100000)(hm3:en3≤100000)(no:Int){pv:Option Addr}{pn pc:Nat}{ps:List Pt}(hP:SlP I pv pn pc ps)(hpn:pn≤100000){dv:Option Addr}{n3 c3:Nat}{vs:List Int}(hVs:Sl I 1 QR dv n3 c3 vs)(hn3:n3≤100000)(hDb:VI I):Yg Tryz.prog 16 [.slice av n c,.slice bv n2 c2,.agg (Z1 no ea1 en1 ec1 ea2 en2 ec2 ea3 en3 ec3).toArray,.slice pv pn pc,.slice dv n3 c3] I [] (zxO (zb1 (JO ws rows no xs es rd) ps (YM ws rows no xs es rd) vs) (tcF (zb1 (JO ws rows no xs es rd) ps (YM ws rows no xs es rd) vs) (fun s f=>zah (onF ps) rows es rd (Yb ps vs) s f) (Ug (onF ps) (YM ws rows no xs es rd) (Yb ps vs)))):=by
 intro g H w hw
 refine qe Tryz.func16 Tryz.ntmps16 hw ?_
 have hIc:=zye I
 refine zR ?_
 refine Q5 rfl rfl rfl (fun b_7=>?_)
 refine zA ?_
 refine zA ?_
 refine zN (zR ?_)
 refine zM ?_
 refine zM ?_
 refine zV (Qp rfl Z0 (fun hg=>by exact Cells.g0) rfl) ?_
 refine zM ?_
 refine zM ?_
 refine Qz (cap:=[]) (vs:=[_,_,_,_,_]) rfl rfl zmD .nil (zns hW0 hn hVn hn2 hX1 hX2 hX3 hm1 hm2 hm3 no hP hpn hVs hn3 hDb) rfl rfl ?_
 rintro vv1 I1 L1 hI1 ⟨rfl,vx,rfl,hvl,hv1,hop⟩
 have hVn:=hVn.mono hI1;have hX1:=hX1.mono hI1;have hX2:=hX2.mono hI1;have hX3:=hX3.mono hI1;have hP:=hP.mono hI1;have hVs:=hVs.mono hI1;have hIc:=hIc.trans hI1
 refine zM ?_
 refine zE ?_
 refine zE ?_
 refine Qr zoh rfl rfl (fun b_12=>?_)
 refine YO rfl rfl zaq hvl rfl hv1 rfl (by repeat (first | exact Upd.here | apply Upd.there | apply QJ)) ?_
 refine zA (zN (Ql (zR ?_)))
 refine zM ?_
 refine zC (zN ?_)
 refine zI ?_ ?_<;>intro hc26
 ·
  have he0:(zb1 (JO ws rows no xs es rd) ps (YM ws rows no xs es rd) vs)≠0:=by simpa using hc26
  refine zR (zM ?_)
  refine zA ?_
  refine zA (zN (Qt (Qc ?_)))
  first
  | exact Zx rfl rfl rfl (fun w hw=>⟨_,I1,[],rfl,hIc,hw.drop,by unfold tcF;rw [if_pos he0];exact ⟨rfl,none,0,rfl,.nil⟩⟩)
 have he0:(zb1 (JO ws rows no xs es rd) ps (YM ws rows no xs es rd) vs)=0:=by simpa using hc26
 obtain ⟨t,rfl,hT⟩:=hop he0
 obtain ⟨hs1,hs2⟩:=zeg he0
 have htn:=hT.bs
 refine Qo (Qa (Ql (zR ?_)))
 refine zF zaU ?_
 refine zL zcQ ?_
 refine zQ YZ ?_
 refine zM (zN (Qm ?_))
 refine zU [(12,_),(29,_),(30,_)] (fun T L0 mz E I' loc'=>∃ (k:Nat) (v:Value) (q:Nat) (L:Go.Kn.Loc),mz=t.sn-k∧E=(10,v)::(31,.int .i64 k)::T∧HLe I1 I'∧L++[(b_12,.cells (Kg t).toArray 98 (0,0)),(b_7,.cells (Z1 no ea1 en1 ec1 ea2 en2 ec2 ea3 en3 ec3).toArray 26 (0,0))]=loc'∧k≤t.sn∧OwnS 79 2 v q ((tcK (fun s f=>zah (onF ps) rows es rd (Yb ps vs) s f) (Ug (onF ps) (YM ws rows no xs es rd) (Yb ps vs)) k).flatMap VO) L∧q≤k*9) ?_ (h:=⟨0,_,0,[],rfl,rfl,zye _,rfl,Nat.zero_le _,OwnS.nil,Nat.zero_le _⟩)
 rintro mz E J2 loc' ⟨k,v,q,L,rfl,rfl,hJ,rfl,hk,hO,hq⟩
 have hVn:=hVn.mono hJ;have hX1:=hX1.mono hJ;have hX2:=hX2.mono hJ;have hX3:=hX3.mono hJ;have hP:=hP.mono hJ;have hVs:=hVs.mono hJ;have hT:=hT.mono hJ;have hIc:=hIc.trans hJ
 have hB0:=hJ
 refine zR (zC (zN (Ql ?_)))
 refine zI ?_ ?_<;>intro hc32
 ·
  have hlt_k:k<t.sn:=by have h:=hc32;simp at h;omega
  obtain ⟨x,hx⟩:=hT.S.at hlt_k
  refine Qo (Qa (Ql (Qm (zR ?_))))
  refine zV (QF rfl rfl YZ hT.S (fun hg=>by omega)) ?_
  refine zV (Qp rfl ZL (fun hg=>by exact zyf hT.S hx) rfl) ?_
  refine Qr WX rfl rfl (fun b_14=>?_)
  refine zh Vx ?_
  refine zN (Ql ?_)
  refine zts (L++[(b_14,.cells (Y2 x).toArray 54 (0,0)),(b_12,.cells (Kg t).toArray 98 (0,0)),(b_7,.cells (Z1 no ea1 en1 ec1 ea2 en2 ec2 ea3 en3 ec3).toArray 26 (0,0))]) List.perm_middle ?_
  refine Qg (zA (zN (Qm ?_)))
  refine zU [(12,_),(14,_),(29,_),(30,_),(31,_)] (fun T L0 mz E I' loc'=>∃ (j:Nat) (v:Value) (q:Nat) (L:Go.Kn.Loc),mz=9-j∧E=(10,v)::(15,.int .i64 ((j:Int)+1))::T∧HLe J2 I'∧L++[(b_14,.cells (Y2 x).toArray 54 (0,0)),(b_12,.cells (Kg t).toArray 98 (0,0)),(b_7,.cells (Z1 no ea1 en1 ec1 ea2 en2 ec2 ea3 en3 ec3).toArray 26 (0,0))]=loc'∧j≤9∧OwnS 79 2 v q ((tcK (fun s f=>zah (onF ps) rows es rd (Yb ps vs) s f) (Ug (onF ps) (YM ws rows no xs es rd) (Yb ps vs)) k++tcJ (fun s f=>zah (onF ps) rows es rd (Yb ps vs) s f) x.id j).flatMap VO) L∧q≤k*9+j) ?_ (h:=⟨0,v,q,L,rfl,rfl,zye _,rfl,Nat.zero_le _,by rw [show tcJ (fun s f=>zah (onF ps) rows es rd (Yb ps vs) s f) x.id 0=[] from rfl,List.append_nil];exact hO,by omega⟩)
  rintro mz E J3 loc' ⟨j,v,q,L,rfl,rfl,hJ,rfl,hj,hO,hq⟩
  have hT:=hT.mono hJ;have hB0:=hB0.trans hJ
  have hB2:=hJ
  refine Ql (zR (zM ?_))
  refine zC (zN ?_)
  refine zI ?_ ?_<;>intro hc36
  ·
   have hlt_j:j<9:=by have h:=hc36;simp only [decide_eq_true_eq] at h;omega
   refine Qo (Qa (Ql (Qm (zR ?_))))
   refine zV (Qp rfl Je (fun hg=>by (repeat (first | exact zyc | apply zyb | apply zyd))) rfl) ?_
   refine zF ZN ?_
   refine zV (Qd rfl Qs (fun hg=>by (repeat (first | exact zx9 rfl | apply zx8 | apply zya)))) ?_
   refine zM ?_
   refine zV (Zp (ps:=[(0,_),(1,_)]) [_,_] VL zgM rfl rfl) ?_
   refine Qz (cap:=[]) (vs:=[_,_]) rfl rfl znN .nil (zuZ hT x.id ((j:Int)+1) (znY hs1 hs2 (List.mem_of_getElem? hx))) rfl rfl ?_
   rintro vv4 I4 L4 hI4 ⟨rfl,a1,n1,c1,a2,n2,c2,rfl,hw1,hw2⟩
   have hB2:=hB2.trans hI4
   refine zV (zkQ rfl zmh rfl) ?_
   refine zC (zN ?_)
   refine zI ?_ ?_<;>intro hc46
   ·
    refine Qg (zM ?_)
    refine zF ZN ?_
    refine zV (Qd rfl Qs (fun hg=>by (repeat (first | exact zx9 rfl | apply zx8 | apply zya)))) ?_
    refine zM ?_
    refine zV (Zp (ps:=[(0,_),(1,_)]) [_,_] Yc JJ rfl rfl) ?_
    refine Qq (ps:=[(0,_)]) (m:=[VO (x.id,(j:Int)+1)]) JE rfl (.cons rfl (.nil)) rfl (by simp [VO]) (by decide) (by decide) rfl rfl (fun b_52=>?_)
    refine QY (v:=_) (ys:=[(x.id,(j:Int)+1)].flatMap VO) (L:=L) rfl rfl JE hO (by repeat (first | exact .cons .here .nil | exact QD | exact Qw | apply QC | apply QB)) ⟨rfl,fun _=>rfl,by repeat (first | exact zyc | apply zyb | apply zyd)⟩ (zf9 [(x.id,(j:Int)+1)]) (by omega) rfl rfl ?_
    intro v9 L9 hO9 _;rw [←List.flatMap_append] at hO9
    refine zA (Qb (Qh (Qa (Qg ?_))))
    refine zM ?_
    refine zB ?_
    refine zA (Qb ?_)
    first
    | exact zm (h:=⟨9-(j+1),by omega,j+1,_,_,_,rfl,rfl,hB2,rfl,by omega,by rw [Wi hc46,←List.append_assoc];exact hO9,by omega⟩)
   refine Qo (Qh (Qa (Qg (zM ?_))))
   refine zB ?_
   refine zA (Qb ?_)
   first
   | exact zm (h:=⟨9-(j+1),by omega,j+1,_,_,_,rfl,rfl,hB2,rfl,by omega,by rw [zap hc46];exact hO,by omega⟩)
  have hge_j:9≤j:=by have h:=hc36;simp only [decide_eq_false_iff_not] at h;omega
  refine QI (Qf (Qf (Qk (Qh (Qa (Qg (zB ?_)))))))
  refine zM (Qb ?_)
  exact zm (h:=⟨t.sn-(k+1),by omega,k+1,_,_,_,rfl,rfl,hB0,rfl,by omega,by rw [zeI hx];rw [show j=9 by omega] at hO;exact hO,by omega⟩)
 have hge_k:t.sn≤k:=by have h:=hc32;simp at h;omega
 rw [zhR hT.S.len hge_k] at hO
 refine QI (Qf (Qf (Qk (Qa (zR (zM ?_))))))
 refine zA ?_
 refine zA (zN (Qt ?_))
 first
 | exact Zx rfl rfl rfl (fun w hw=>by obtain ⟨I9,h91,h92,a,c,e9,h94⟩:=OwnS.freeze' hO (fun _=>rfl) (by decide) (hw.subL (by exact Zg));exact ⟨_,I9,[],rfl,hIc.trans h91,h92,by rw [he0];unfold tcF;rw [if_neg (by simp)];have hq9:=h94.len;subst hq9;exact ⟨rfl,a,c,by rw [e9],h94⟩⟩)
end
end Go.Proofs.YtodakphagkommaaGreatDoor.R
namespace Go.Proofs.YtodakphagkommaaGreatDoor
section
open Go Go.Kn Go.Proofs
abbrev Tri:=Value×Nat×List Value
structure zf4 (rows:List (List Int))(k:Nat)(m:List (Int×Tri))(i:Nat):Prop where
 val:∀ c,((Zy m c).getD V7).2.2=(KZ (rows.take i) k c).flatMap QR
 nd:(m.map (·.1)).Nodup
 key:∀ c,c∈m.map (·.1)↔ ∃ r∈rows.take i,r.getD k 0=c
 len:(m.map (·.1)).length≤i
theorem zf4.start {rows:List (List Int)}{k:Nat}:zf4 rows k [] 0:=⟨fun c=>by rw [List.take_zero];rfl,.nil,(fun c=>by simp),Nat.le_refl _⟩
theorem zf4.put {rows:List (List Int)}{k i n:Nat}{m:List (Int×Tri)}(h:zf4 rows k m i){r:List Int}(hr:rows[i]? =some r){v:Value}:zf4 rows k (Ys m (r.getD k 0) (v,n,((Zy m (r.getD k 0)).getD V7).2.2++[(i:Int)].flatMap QR)) (i+1) where
 val:=fun c=>by
  rw [YE]
  by_cases e:r.getD k 0=c
  ·
   rw [if_pos e,show KZ (rows.take (i+1)) k c=KZ (rows.take i) k c++[(i:Int)] from zjb hr (by simpa using e),List.flatMap_append,←h.val c]
   subst e;rfl
  ·
   rw [if_neg e,show KZ (rows.take (i+1)) k c=KZ (rows.take i) k c from zqJ hr (by simpa using e)];exact h.val c
 nd:=Wu _ _ h.nd
 key:=fun c=>by
  rw [Ku,List.take_add_one,hr]
  split
  ·
   rename_i hin
   rw [h.key c]
   constructor
   ·
    rintro ⟨r',h1,h2⟩;exact ⟨r',List.mem_append_left _ h1,h2⟩
   ·
    rintro ⟨r',h1,h2⟩
    rcases List.mem_append.1 h1 with h1 | h1
    ·
     exact ⟨r',h1,h2⟩
    ·
     simp at h1;subst h1;subst h2;exact (h.key _).1 hin
  ·
   rw [List.mem_append,h.key c]
   constructor
   ·
    rintro (⟨r',h1,h2⟩ | h1)
    ·
     exact ⟨r',List.mem_append_left _ h1,h2⟩
    ·
     rw [List.mem_singleton] at h1;exact ⟨r,List.mem_append_right _ (by simp),h1.symm⟩
   ·
    rintro ⟨r',h1,h2⟩
    rcases List.mem_append.1 h1 with h1 | h1
    ·
     exact .inl ⟨r',h1,h2⟩
    ·
     simp at h1;subst h1;exact .inr (by rw [List.mem_singleton];exact h2.symm)
 len:=by
  have:=h.len
  rw [Ku]
  split
  ·
   omega
  ·
   rw [List.length_append,List.length_singleton];omega
theorem zj9 {rows:List (List Int)}{k:Nat}{c:Int}:(KZ rows k c).length≤rows.length:=by
 unfold KZ ixF;rw [List.length_map];exact Nat.le_trans (List.length_filter_le ..) (by rw [List.length_zipIdx];exact Nat.le_refl _)
theorem zf4.le {e:Nat}{rows:List (List Int)}{k i:Nat}{m:List (Int×Tri)}(h:zf4 rows k m i){c:Int}{L:Go.Kn.Loc}(hO:OwnS e 1 ((Zy m c).getD V7).1 ((Zy m c).getD V7).2.1 ((Zy m c).getD V7).2.2 L):((Zy m c).getD V7).2.1≤i:=by
 have h1:=hO.1
 rw [h.val c,ZU Qv] at h1
 have h2:=zj9 (rows:=rows.take i) (k:=k) (c:=c)
 rw [List.length_take] at h2
 omega
theorem zf4.sl {I:Qu}{e:Nat}{rows:List (List Int)}{k:Nat}{m:List (Int×Tri)}{L:Go.Kn.Loc}(h:zf4 rows k m rows.length)(hA:Vj e 1 (m.map (·.2)) L)(hI:∀ b o,(b,o)∈L→I b=some o)(c:Int):
  ∃ av cc,((Zy m c).getD V7).1= .slice av (KZ rows k c).length cc∧Sl I 1 QR av (KZ rows k c).length cc (KZ rows k c):=by
 obtain ⟨A,Lt,B,rfl,hO,_⟩:=hA.at c
 rw [h.val c,List.take_length] at hO
 obtain ⟨av,cc,e1,e2⟩:=hO.sl Qv (by decide) (fun b o hb=>hI b o (by simp [hb]))
 have hn:=e2.len
 rw [←hn] at e1 e2
 exact ⟨av,cc,e1,e2⟩
def kyS (ks:List Int)(seen:List Nat):List Int:=seen.map fun i=>ks.getD i 0
theorem zlg {ks:List Int}{seen:List Nat}{i:Nat}{a:Int}(h:ks[i]? =some a):kyS ks (seen++[i])=kyS ks seen++[a]:=by
 unfold kyS;rw [List.map_append,List.map_singleton,Q1 h]
theorem zaj (ks:List Int):((List.range ks.length).map fun i=>ks.getD i 0)=ks:=by
 apply List.ext_getElem?
 intro j
 rw [List.getElem?_map]
 by_cases h:j<ks.length
 ·
  rw [List.getElem?_range h,Option.map_some,List.getElem?_eq_getElem h,Q1 (List.getElem?_eq_getElem h)]
 ·
  rw [List.getElem?_eq_none (by simpa using Nat.le_of_not_lt h),List.getElem?_eq_none (by omega)];rfl
theorem zqd {ks:List Int}{seen:List Nat}(hn:seen.Nodup)(hl:∀ i∈seen,i<ks.length)(ha:∀ i,i<ks.length→i∈seen):(kyS ks seen).Perm ks:=by
 have h1:seen.Perm (List.range ks.length):=(List.perm_ext_iff_of_nodup hn List.nodup_range).2 fun i=>by rw [List.mem_range];exact ⟨hl i,ha i⟩
 have h2:=h1.map fun i=>ks.getD i 0
 rw [zaj] at h2
 exact h2
theorem zd0 {q:Nat}{n:Int}:∀ {rows:List (List Int)} {o:Option Int},(∀ b,o=some b→n<b)→(∀ r∈rows,n<r.getD q 0→∃ c,rows.foldl (zgy q n) o=some c∧c≤r.getD q 0)∧(∀ b,o=some b→∃ c,rows.foldl (zgy q n) o=some c∧c≤b)
 | [],o,_=>⟨(fun r hr=>by cases hr),fun b hb=>⟨b,hb,Int.le_refl _⟩⟩
 | r::rows,o,ho=>by
  cases hb:(decide (r.getD q 0>n)&&(!o.isSome||decide (r.getD q 0<o.getD 0))) with
  | true=>
   have hs:=zh3 hb
   simp only [Bool.and_eq_true,Bool.or_eq_true,decide_eq_true_eq] at hb
   have ih:=zd0 (q:=q) (n:=n) (rows:=rows) (o:=some (r.getD q 0)) (fun b e=>by cases e;exact hb.1)
   have e0:(r::rows).foldl (zgy q n) o=rows.foldl (zgy q n) (some (r.getD q 0)):=by rw [List.foldl_cons,hs]
   rw [e0]
   refine ⟨fun r' hr' hn=>?_,fun b e=>?_⟩
   ·
    rcases List.mem_cons.1 hr' with rfl | hr'
    ·
     exact ih.2 _ rfl
    ·
     exact ih.1 r' hr' hn
   ·
    obtain ⟨c,h1,h2⟩:=ih.2 _ rfl
    subst e
    rcases hb.2 with h3 | h3
    ·
     cases h3
    ·
     have h3:r.getD q 0<b:=h3
     exact ⟨c,h1,by omega⟩
  | false=>
   have hs:=znX hb
   have ih:=zd0 (q:=q) (n:=n) (rows:=rows) (o:=o) ho
   have e0:(r::rows).foldl (zgy q n) o=rows.foldl (zgy q n) o:=by rw [List.foldl_cons,hs]
   rw [e0]
   refine ⟨fun r' hr' hn=>?_,ih.2⟩
   rcases List.mem_cons.1 hr' with rfl | hr'
   ·
    cases o with
    | none=>
     cases h9:decide (r'.getD q 0>n) with
     | true=>rw [h9] at hb;cases hb
     | false=>simp only [decide_eq_false_iff_not] at h9;omega
    | some b=>
     cases h9:decide (r'.getD q 0>n) with
     | true=>
      rw [h9] at hb
      have h8:decide (r'.getD q 0<b)=false:=hb
      simp only [decide_eq_false_iff_not] at h8
      obtain ⟨c,h1,h2⟩:=ih.2 b rfl
      exact ⟨c,h1,by omega⟩
     | false=>simp only [decide_eq_false_iff_not] at h9;omega
   ·
    exact ih.1 r' hr' hn
theorem JD (ks:List Int):(YC ks).Perm ks:=List.mergeSort_perm ..
theorem zkC (ks:List Int):(YC ks).Pairwise (· ≤ ·):=
 (List.pairwise_mergeSort (le:=fun x y:Int=>decide (x≤y)) (fun a b c h1 h2=>by simp at*;omega) (fun a b=>by simp;omega) ks).imp fun h=>by simpa using h
theorem zh9 {rows:List (List Int)}{q:Nat}:∀ {ks:List Int} {n:Int} {m:Nat},ks.Pairwise (· < ·)→(∀ c,c∈ks↔n<c∧∃ r∈rows,r.getD q 0=c)→ks.length≤m→zrR rows q m (zni rows q n)=ks.map fun c=>⟨c,KZ rows q c⟩
 | [],n,m,_,hk,_=>by
  have:zni rows q n=none:=by
   cases h:zni rows q n with
   | none=>rfl
   | some c=>have h1:=(hk c).2 (zmT h);cases h1
  rw [this,zgY];rfl
 | c::ks,n,0,_,_,hm=>by simp at hm
 | c::ks,n,m+1,hs,hk,hm=>by
  obtain ⟨hn,r,hr,he⟩:=(hk c).1 (List.mem_cons_self ..)
  obtain ⟨d,hd,hdc⟩:=(zd0 (q:=q) (n:=n) (rows:=rows) (o:=none) (fun b e=>by cases e)).1 r hr (by omega)
  have hd':zni rows q n=some d:=hd
  have hdk:=(hk d).2 (zmT hd')
  have hcd:d=c:=by
   rcases List.mem_cons.1 hdk with h | h
   ·
    exact h
   ·
    have:=(List.pairwise_cons.1 hs).1 d h;omega
  rw [hd',hcd,zhM,List.map_cons]
  congr 1
  refine zh9 (List.pairwise_cons.1 hs).2 (fun x=>?_) (by simp at hm;omega)
  constructor
  ·
   intro hx
   exact ⟨(List.pairwise_cons.1 hs).1 x hx,((hk x).1 (List.mem_cons_of_mem _ hx)).2⟩
  ·
   rintro ⟨h1,h2⟩
   rcases List.mem_cons.1 ((hk x).2 ⟨by omega,h2⟩) with h3 | h3
   ·
    omega
   ·
    exact h3
theorem zmb {rows:List (List Int)}{k:Nat}{m:List (Int×Tri)}(h:zf4 rows k m rows.length)(h0:∀ r∈rows,0≤r.getD k 0){ks:List Int}(hp:ks.Perm (m.map (·.1))):(YC ks).map (fun c=>(⟨c,KZ rows k c⟩:Vt))=znb rows k:=by
 have hnd:(YC ks).Nodup:=((JD ks).trans hp).nodup_iff.2 h.nd
 have hs:(YC ks).Pairwise (· < ·):=by
  exact ((zkC ks).and hnd).imp fun {a b} ⟨h2,h3⟩=>by have:a≠b:=h3;omega
 have hmem:∀ c,c∈YC ks↔(-1:Int)<c∧∃ r∈rows,r.getD k 0=c:=fun c=>by
  rw [((JD ks).trans hp).mem_iff,h.key c,List.take_length]
  constructor
  ·
   rintro ⟨r,hr,rfl⟩;exact ⟨by have:=h0 r hr;omega,r,hr,rfl⟩
  ·
   exact fun h=>h.2
 have hl:(YC ks).length≤rows.length:=by rw [((JD ks).trans hp).length_eq];exact h.len
 unfold znb
 rw [zh9 hs hmem hl]
theorem zoS {rows:List (List Int)}{k:Nat}{c:Int}(h:∃ r∈rows,r.getD k 0=c):0<(KZ rows k c).length:=by
 obtain ⟨r,hr,he⟩:=h
 obtain ⟨i,hi⟩:=List.getElem?_of_mem hr
 unfold KZ ixF
 rw [List.length_map]
 refine List.length_pos_of_mem (a:=(r,i)) (List.mem_filter.2 ⟨?_,by simpa using he⟩)
 rw [List.mem_iff_getElem?]
 exact ⟨i,by simp [List.getElem?_zipIdx,hi]⟩
theorem zmS {x:Nat×Obj}{A L B R:Go.Kn.Loc}:(x::((A++(L++B))++R)).Perm (L++(x::(A++(B++R)))):=by
 have h:=List.perm_append_comm_assoc (x::A) L (B++R)
 simp only [List.cons_append,List.append_assoc] at h ⊢
 exact h
end
end Go.Proofs.YtodakphagkommaaGreatDoor
