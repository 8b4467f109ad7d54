/- apparatusValue_holds, part G of the proof: what its theorems say holds without further conditions. -/
import Derived.KernelRfl
import Derived.ProofKit
import Derived.Deep.Slices
import Derived.Test.YtodakphagkommaaGreatDoorAVF
namespace Go.Proofs.YtodakphagkommaaGreatDoor.R
section
open Go Go.Kn Go.Proofs
theorem zcC:QZ Tryz.prog 98 4 7:=.of (by kernel_rfl)
theorem zpD:Fun Tryz.prog 44:=.of Tryz.func44 (by kernel_rfl) (by kernel_rfl)
theorem zoF:Fun Tryz.prog 45:=.of Tryz.func45 (by kernel_rfl) (by kernel_rfl)
theorem zwK:Fun Tryz.prog 68:=.of Tryz.func68 (by kernel_rfl) (by kernel_rfl)
theorem zvG:PlT Tryz.prog 98 #[(0,1),(1,4),(5,1),(6,1),(7,1)] (.agg #[(.slice none 0 0),(.int .i64 0),(.slice none 0 0),(.slice none 0 0),(.slice none 0 0),(.map none),(.slice none 0 0),(.slice none 0 0)]):=⟨.of (by kernel_rfl),by kernel_rfl,fun w=>by kernel_rfl⟩
theorem zba:SzT Tryz.prog 98 8:=.of (by kernel_rfl)
theorem zsc:Yu Tryz.prog 98 (.agg #[(.slice none 0 0),(.int .i64 0),(.slice none 0 0),(.slice none 0 0),(.slice none 0 0),(.map none),(.slice none 0 0),(.slice none 0 0)]):=.of (by kernel_rfl)
theorem zr3 {I:Qu}{ref r:Nat}{sn s0:List (Int×Bool)}{A B:Int→Bool}(hsn:I ref=some (ZQ (Value.int .i64) Value.bool sn))(hsq:zaz sn A)(hs0:zaz s0 B):Yf Tryz.prog 68 [.map (some r),.map (some ref)] I [(r,ZQ (Value.int .i64) Value.bool s0)] (fun v I' L=>v= .tuple #[]∧I'=I∧∃ s,L=[(r,ZQ (Value.int .i64) Value.bool s)]∧zaz s (fun x=>A x||B x)):=by
 intro g H w hw
 refine qe Tryz.func68 Tryz.ntmps68 hw ?_
 refine zR (zM ?_)
 refine JU (ek:=Value.int .i64) (ev:=Value.bool) (m:=sn) rfl za3 rfl rfl (.inl hsn) (fun b_7=>?_)
 refine zN (Qm ?_)
 refine zU [(0,_),(7,_)] (fun T L0 mz E I' loc'=>∃ (seen:List Nat) (s:List (Int×Bool)),mz=sn.length-seen.length∧E=T∧I=I'∧[(b_7,YT ref sn.length seen),(r,ZQ (Value.int .i64) Value.bool s)]=loc'∧zaz s (fun x=>zlF sn seen x||B x)∧seen.Nodup∧∀ i∈seen,i<sn.length) ?_ (h:=⟨[],_,rfl,rfl,rfl,rfl,hs0.congr (fun x=>by rw [zbT,Bool.false_or]),.nil,fun i h=>by cases h⟩)
 rintro mz E I' loc' ⟨seen,s,rfl,rfl,rfl,rfl,hs,hnd2,hlt⟩
 have hsl:=JI hnd2 hlt
 refine zR ?_
 refine JT (ek:=Value.int .i64) (ev:=Value.bool) (m:=sn) (fun s'=>[(b_7,YT ref sn.length s'),(r,ZQ (Value.int .i64) Value.bool s)]) rfl (fun s'=>.here) rfl rfl rfl rfl rfl (.inl hsn) (by simp) ?_
 intro t tv s' hno hyes
 refine zN (Ql ?_)
 refine zI ?_ ?_<;>intro hc9
 ·
  obtain ⟨i,q,hq,hns,rfl⟩:=hyes hc9
  refine Qn (Qa (Qm (zR ?_)))
  refine zV (JV (ek:=Value.int .i64) (ev:=Value.bool) (m:=sn) (p:=q) (seen:=seen) (i:=i) rfl (.inl hsn) (.inr (by simp)) hq) ?_
  refine zE ?_
  refine zE ?_
  refine zA ?_
  refine zA (zN (Qg ?_))
  refine zM ?_
  refine zM ?_
  refine zM ?_
  refine Q7 (m:=s) (ek:=Value.int .i64) (ev:=Value.bool) (a:=q.1) q.2 za3 ZG rfl rfl rfl rfl (by repeat (first | exact Upd.here | apply Upd.there | apply QK)) ?_
  refine Qb (Qf ?_)
  have hnd3:(seen++[i]).Nodup:=List.nodup_append.2 ⟨hnd2,by simp,fun a ha b hb e=>hns (by simp at hb;subst hb;subst e;exact ha)⟩
  have hlt3:∀ j∈seen++[i],j<sn.length:=fun j hj=>(List.mem_append.1 hj).elim (hlt j) (fun h=>by simp at h;subst h;exact (List.getElem?_eq_some_iff.1 hq).1)
  have hsl2:=JI hnd3 hlt3
  rw [List.length_append,List.length_singleton] at hsl2
  exact zm (h:=⟨sn.length-(seen++[i]).length,by rw [List.length_append,List.length_singleton];omega,seen++[i],YA s q.1 q.2,rfl,rfl,rfl,rfl,by rw [hsq.all q (List.mem_of_getElem? hq)];exact (hs.put q.1).congr (fun x=>by rw [X6 hq,Bool.or_assoc]),hnd3,hlt3⟩)
 obtain ⟨rfl,hall⟩:=hno hc9
 refine QI (Qh (Qh (Qk ?_)))
 exact VI (YR rfl (fun w hw=>⟨_,I,_,rfl,zAh _,hw.subL (.drop .refl),rfl,rfl,s,rfl,hs.congr (fun x=>by rw [zbA hsq hall x])⟩))
theorem zoH {I:Qu}{av:Option Addr}{n c:Nat}{ws:List Wr}(hW0:SlW I av n c ws)(hn:n≤100000){bv:Option Addr}{n2 c2:Nat}{rows:List (List Int)}(hVn:SlN I bv n2 c2 rows)(hn2:n2≤100000){ea1:Option Addr}{en1 ec1:Nat}{ea2:Option Addr}{en2 ec2:Nat}{ea3:Option Addr}{en3 ec3:Nat}{xs:List Int}{es:List Em}{rd:List Int}(hX1:Sl I 1 QQ ea1 en1 ec1 xs)(hX2:Sl I 3 YB ea2 en2 ec2 es)(hX3:Sl I 1 QQ ea3 en3 ec3 rd)(hm1:en1≤100000)(hm2:en2≤100000)(hm3:en3≤100000)(no:Int){pv:Option Addr}{pn pc:Nat}{ps:List Pt}(hP:SlP I pv pn pc ps)(hpn:pn≤100000){dv:Option Addr}{n3 c3:Nat}{vs:List Int}(hVs:Sl I 1 QQ dv n3 c3 vs)(hn3:n3≤100000)(hDb:VT I):Yf Tryz.prog 36 [.slice av n c,.slice bv n2 c2,.agg (Z3 no ea1 en1 ec1 ea2 en2 ec2 ea3 en3 ec3).toArray,.slice pv pn pc,.slice dv n3 c3] I [] (OpQ (zd7 (Km ws rows no xs es rd) ps (Vk ws rows no xs es rd) vs) rows es rd ps (Z9 ps vs) (X5 (onF ps) (Vk ws rows no xs es rd) (Z9 ps vs))):=by
 intro g H w hw
 refine qe Tryz.func36 Tryz.ntmps36 hw ?_
 have hIc:=zAh I
 have hX3l:=hX3.len
 refine zR ?_
 refine Q2 rfl rfl rfl (fun b_7=>?_)
 refine Qs zsc rfl rfl (fun b_10=>?_)
 refine zA ?_
 refine zN (zR ?_)
 refine zM ?_
 refine zM ?_
 refine zV (Qo rfl Z5 (fun hg=>by exact Cells.g1) rfl) ?_
 refine Qz (cap:=[]) (vs:=[_,_,_]) rfl rfl zpD .nil (Go.Proofs.YtodakphagkommaaGreatDoor.w_Signs hW0 hn hVn hn2 hX1 hX2 hX3 hm1 hm2 hm3 no hDb (fun e=>e ▸ ziK)) rfl rfl ?_
 rintro vv1 I1 L1 hI1 ⟨rfl,as9,cs9,rfl,hSg⟩
 have hVn:=hVn.mono hI1;have hX2:=hX2.mono hI1;have hX3:=hX3.mono hI1;have hP:=hP.mono hI1;have hVs:=hVs.mono hI1;have hIc:=hIc.trans hI1
 have hSg:Sl I1 14 YU as9 (Vk ws rows no xs es rd).length cs9 (Vk ws rows no xs es rd):=hSg
 refine zM ?_
 refine zE ?_
 refine zE ?_
 refine zA ?_
 refine zA (zN (Ql (zR ?_)))
 refine zM ?_
 refine zC (zN ?_)
 refine zI ?_ ?_<;>intro hc25
 ·
  have he1:(Km ws rows no xs es rd)≠0:=by simpa using hc25
  refine zR ?_
  refine zV (Qo rfl JK (fun hg=>by exact Cells.g0) rfl) ?_
  refine zM ?_
  refine zh zba ?_
  refine zA (zN (Qt (Qc ?_)))
  first
  | exact Zu rfl rfl rfl JK (vs:=[.slice none 0 0,.int .i64 0,.slice none 0 0,.slice none 0 0,.slice none 0 0,.map none,.slice none 0 0,.slice none 0 0]) (by repeat (first | exact zAf | apply zAe | apply zAg)) rfl (fun w hw=>⟨_,I1,[],rfl,hIc,hw.drop,rfl,[.slice none 0 0,.int .i64 0,.slice none 0 0,.slice none 0 0,.slice none 0 0,.map none,.slice none 0 0,.slice none 0 0],by rw [zoj he1]<;>rfl,rfl,rfl,fun h=>absurd (zoj he1 ▸ h) he1⟩)
 have he1:(Km ws rows no xs es rd)=0:=by simpa using hc25
 refine Qn (Qa (zR (zM ?_)))
 refine zV (Qo rfl Z5 (fun hg=>by exact Cells.g1) rfl) ?_
 refine ZL rfl rfl (fun r_30=>?_)
 refine zV (QS (ps:=[(0,_),(1,_),(2,_)]) [_,_,_,_,_,_,_,_] zvG rfl rfl) ?_
 refine zh zba ?_
 refine zN (Ql (zR (zM ?_)))
 refine zM ?_
 refine zM ?_
 refine Qz (cap:=[]) (vs:=[_,_,_]) rfl rfl zoF .nil (w_Signs hP hpn hSg (by have:=zb3 (ws:=ws) (rows:=rows) (no:=no) (cl:=xs) (es:=es) (rd:=rd);omega) hVs hn3) rfl rfl ?_
 rintro vv2 I2 L2 hI2 ⟨rfl,as8,cs8,rfl,hSs⟩
 have hVn:=hVn.mono hI2;have hX2:=hX2.mono hI2;have hX3:=hX3.mono hI2;have hP:=hP.mono hI2;have hVs:=hVs.mono hI2;have hIc:=hIc.trans hI2
 have hSs:Sl I2 14 YU as8 (zge ps (Vk ws rows no xs es rd) vs).length cs8 (zge ps (Vk ws rows no xs es rd) vs):=hSs
 refine zM ?_
 refine zE ?_
 refine zE ?_
 refine zF zcC ?_
 refine zS zpv ?_
 refine zA ?_
 refine zN (zR ?_)
 refine zM ?_
 refine zC (zN ?_)
 refine zI ?_ ?_<;>intro hc41
 ·
  have he2:zdL ps (Vk ws rows no xs es rd) vs≠0:=by simpa using hc41
  have he3:(zd7 (Km ws rows no xs es rd) ps (Vk ws rows no xs es rd) vs)≠0:=by rw [zfq he1];exact he2
  refine zR ?_
  refine zV (Qo rfl JK (fun hg=>by exact Cells.g1) rfl) ?_
  refine zM ?_
  refine zh zba ?_
  refine zA (zN (Qt (Qc ?_)))
  first
  | exact Zu rfl rfl rfl JK (vs:=[.slice bv n2 c2,.int .i64 no,.slice ea1 en1 ec1,.slice ea2 en2 ec2,.slice ea3 en3 ec3,.map (some r_30),.slice none 0 0,.slice as8 (zge ps (Vk ws rows no xs es rd) vs).length cs8]) (by repeat (first | exact zAf | apply zAe | apply zAg)) rfl (fun w hw=>⟨_,I2,[],rfl,hIc,hw.drop,rfl,[.slice bv n2 c2,.int .i64 no,.slice ea1 en1 ec1,.slice ea2 en2 ec2,.slice ea3 en3 ec3,.map (some r_30),.slice none 0 0,.slice as8 (zge ps (Vk ws rows no xs es rd) vs).length cs8],by rw [zfq he1]<;>rfl,rfl,rfl,fun h=>absurd h he3⟩)
 have he2:zdL ps (Vk ws rows no xs es rd) vs=0:=by simpa using hc41
 obtain ⟨hsto,hpl,hnd,hbg,hvl,hver,hfit,hsf,hsl⟩:=UA he2
 have hL:=hsto.lst
 refine Qn (Qa (Ql (zR (zM ?_))))
 refine zQ ZB ?_
 refine zM (zN (Qm ?_))
 refine zU [(4,_),(10,_),(44,_),(45,_)] (fun T L0 mz E I' loc'=>∃ (k:Nat) (m:List (Int×Nat)) (v:Value) (q:Nat) (L:Go.Kn.Loc),mz=pn-k∧E=(46,.int .i64 k)::T∧HLe I2 I'∧L++[(r_30,ZQ (Value.int .i64) zcP m),(b_10,.cells #[.slice bv n2 c2,.int .i64 no,.slice ea1 en1 ec1,.slice ea2 en2 ec2,.slice ea3 en3 ec3,.map (some r_30),v,.slice as8 (zge ps (Vk ws rows no xs es rd) vs).length cs8] 98 (0,0)),(b_7,.cells (Z3 no ea1 en1 ec1 ea2 en2 ec2 ea3 en3 ec3).toArray 26 (0,0))]=loc'∧k≤pn∧OnL I' m (ps.take k)∧OwnS 57 19 v q (((ps.take k).filter (fun p=>vs.any (· ==p.id))).flatMap Yx) L∧q≤k) ?_ (h:=⟨0,[],_,0,[],rfl,rfl,zAh _,rfl,Nat.zero_le _,OnL.nil,OwnS.nil,Nat.le_refl _⟩)
 rintro mz E J3 loc' ⟨k,m,v,q,L,rfl,rfl,hJ,rfl,hk,hm,hO,hq⟩
 have hVn:=hVn.mono hJ;have hX2:=hX2.mono hJ;have hX3:=hX3.mono hJ;have hP:=hP.mono hJ;have hVs:=hVs.mono hJ;have hSs:=hSs.mono hJ;have hIc:=hIc.trans hJ
 have hB0:=hJ
 obtain ⟨va6,vc6,rfl⟩:=zd6 hO
 refine zR (zC (zN (Ql ?_)))
 refine zI ?_ ?_<;>intro hc47
 ·
  have hlt_k:k<pn:=by have h:=hc47;simp at h;omega
  obtain ⟨p,hp,hN⟩:=hP.at hlt_k
  have hpm:=List.mem_of_getElem? hp
  have hN:Sl J3 1 QQ p.a p.n p.c p.needs:=hN
  have hpn2:=hnd p hpm
  have hNl:=hN.len
  refine Qn (Qa (Ql (Qm (zR ?_))))
  refine zV (QE rfl rfl ZB hP.1 (fun hg=>by omega)) ?_
  refine zV (Qo rfl Yv (fun hg=>by exact zAi hP.1 hp) rfl) ?_
  refine Qs Uu rfl rfl (fun b_14=>?_)
  refine zh V9 ?_
  refine zN (zR ?_)
  refine zF Wo ?_
  refine zV (Qe rfl zdr (fun hg=>by (repeat (first | exact zAc rfl | apply zAb | apply zAd)))) ?_
  refine zF Zw ?_
  refine zL Qr ?_
  refine ZL rfl rfl (fun r_54=>?_)
  refine Q7 (m:=m) (ek:=Value.int .i64) (ev:=zcP) (a:=p.id) r_54 zc8 ZG rfl rfl rfl rfl (by (repeat (first | exact Upd.here | apply Upd.there | apply QK))) ?_
  refine zN (Ql (zR ?_))
  refine zF Ul ?_
  refine zL QJ ?_
  refine zQ Qw ?_
  refine zM (zN (Qm ?_))
  refine zU [(4,_),(10,_),(14,_),(44,_),(45,_),(46,_),(56,_),(57,_)] (fun T L0 mz E I' loc'=>∃ (j:Nat) (s:List (Int×Bool)),mz=p.n-j∧E=(58,.int .i64 j)::T∧J3=I'∧(r_54,ZQ (Value.int .i64) Value.bool s)::(b_14,.cells (Yx p).toArray 57 (0,0))::(L++[(r_30,ZQ (Value.int .i64) zcP (YA m p.id r_54)),(b_10,.cells #[.slice bv n2 c2,.int .i64 no,.slice ea1 en1 ec1,.slice ea2 en2 ec2,.slice ea3 en3 ec3,.map (some r_30),.slice va6 q vc6,.slice as8 (zge ps (Vk ws rows no xs es rd) vs).length cs8] 98 (0,0)),(b_7,.cells (Z3 no ea1 en1 ec1 ea2 en2 ec2 ea3 en3 ec3).toArray 26 (0,0))])=loc'∧j≤p.n∧zaz s (fun x=>(p.needs.take j).any fun n=>n==x||onF (ps.take k) n x)) ?_ (h:=⟨0,[],rfl,rfl,rfl,rfl,Nat.zero_le _,zaz.nil⟩)
  rintro mz E I' loc' ⟨j,s,rfl,rfl,rfl,rfl,hj,hs⟩
  refine zR (zC (zN (Ql ?_)))
  refine zI ?_ ?_<;>intro hc59
  ·
   have hlt_j:j<p.n:=by have h:=hc59;simp at h;omega
   obtain ⟨y,hy⟩:=hN.at hlt_j
   obtain ⟨ref,hget,sn,hsn,hsq⟩:=hm.get (hL.before hp (List.mem_of_getElem? hy))
   have hpy:p.id≠y:=zrs hL hp (List.mem_of_getElem? hy)
   refine Qn (Qa (Ql (Qm (zR ?_))))
   refine zV (zX Qw hN) ?_
   refine zV (Qe rfl Qr (fun hg=>by exact zAa hN hy rfl)) ?_
   refine zA ?_
   refine zN (zR ?_)
   refine zF Wo ?_
   refine zV (Qe rfl zdr (fun hg=>by (repeat (first | exact zAc rfl | apply zAb | apply zAd)))) ?_
   refine zF Zw ?_
   refine zL Qr ?_
   refine zV (YM (m:=(YA m p.id r_54)) (ek:=Value.int .i64) (ev:=zcP) (a:=p.id) zfu zc8 ZG rfl rfl (fun _=>.inr (by simp))) ?_
   refine zM ?_
   refine Q7 (m:=s) (ek:=Value.int .i64) (ev:=Value.bool) (a:=y) true za3 ZG rfl rfl rfl rfl (by repeat (first | exact Upd.here | apply Upd.there | apply QK)) ?_
   refine zN (Qg ?_)
   refine zF Wo ?_
   refine zV (Qe rfl zdr (fun hg=>by (repeat (first | exact zAc rfl | apply zAb | apply zAd)))) ?_
   refine zF Zw ?_
   refine zL Qr ?_
   refine zV (YM (m:=(YA m p.id r_54)) (ek:=Value.int .i64) (ev:=zcP) (a:=p.id) zfu zc8 ZG rfl rfl (fun _=>.inr (by simp))) ?_
   refine zF Wo ?_
   refine zV (Qe rfl zdr (fun hg=>by (repeat (first | exact zAc rfl | apply zAb | apply zAd)))) ?_
   refine zM ?_
   refine zV (YM (m:=(YA m p.id r_54)) (ek:=Value.int .i64) (ev:=zcP) (a:=y) ((znN hpy).trans hget) zc8 ZG rfl rfl (fun _=>.inr (by simp))) ?_
   refine Qz (cap:=[]) (vs:=[_,_]) rfl rfl zwK (.cons .here .nil) (zr3 hsn hsq (hs.put y)) rfl rfl ?_
   rintro vv5 I5 L5 hI5 ⟨rfl,rfl,s2,rfl,hs2⟩
   refine Qb (Qf (Qa (Qg (zB ?_))))
   refine zM (Qb ?_)
   exact zm (h:=⟨p.n-(j+1),by omega,j+1,_,rfl,rfl,rfl,rfl,by omega,hs2.congr (fun x=>by rw [UW hy];rw [Bool.eq_iff_iff];simp;grind)⟩)
  have hge_j:p.n≤j:=by have h:=hc59;simp at h;omega
  refine QI (Qh (Qh (Qk (Qa (Ql ?_)))))
  refine Zg .here (fun I6 hI6 hb6=>?_)
  have hVs:=hVs.mono hI6;have hm:=hm.mono hI6;have hB0:=hB0.trans hI6
  have hbx:=hb6
  have hst6:OnL I6 (YA m p.id r_54) (ps.take (k+1)):=OnL.step hL hp hm hbx (by rw [ZH hN.len hge_j] at hs;exact hs)
  refine Qg (zM ?_)
  refine zF Zw ?_
  refine zL Qr ?_
  refine qc (vs:=[_,_]) rfl zdA (Kf hVs hn3 _) ?_
  refine zN ?_
  refine zI ?_ ?_<;>intro hc82
  ·
   have hin:vs.any (· ==p.id)=true:=by rw [←zjq];exact hc82
   refine Qg ?_
   refine zF XE ?_
   refine zV (Qe rfl zdP (fun hg=>by (repeat (first | exact zAc rfl | apply zAb | apply zAd)))) ?_
   refine zV (Qo rfl Yv (fun hg=>by exact Cells.g0) rfl) ?_
   refine Qq (ps:=[(0,_)]) (m:=[Yx p]) Wd rfl (.cons rfl (.nil)) rfl (by simp [Q0]) (by decide) (by decide) rfl rfl (fun b_86=>?_)
   refine QY (v:=_) (ys:=[p].flatMap Yx) (L:=L) rfl rfl Wd hO (by repeat (first | exact .cons .here .nil | exact QD | exact Qx | apply QC | apply QB)) ⟨rfl,fun _=>rfl,by repeat (first | exact zAf | apply zAe | apply zAg)⟩ (zlC _) (by omega) rfl rfl ?_
   intro v9 L9 hO9 _;obtain ⟨va9,vc9,rfl⟩:=zd6 hO9;rw [←List.flatMap_append] at hO9
   refine zF XE ?_
   refine ZI rfl rfl zoV rfl rfl (by (repeat (first | exact Upd.here | apply Upd.there | apply QK))) rfl ?_
   refine Qb (Qf (Qa (Qg (zB ?_))))
   refine zM (Qb ?_)
   first
   | exact zm (h:=⟨pn-(k+1),by omega,k+1,_,_,_,_,rfl,rfl,hB0,rfl,by omega,hst6,by rw [Xe hp hin];exact hO9,by omega⟩)
  have hin:vs.any (· ==p.id)=false:=by rw [←zjq];exact hc82
  refine Qn (Qf (Qa (Qg (zB ?_))))
  refine zM (Qb ?_)
  first
  | exact zm (h:=⟨pn-(k+1),by omega,k+1,_,_,_,_,rfl,rfl,hB0,rfl,by omega,hst6,by rw [za4 hp hin];exact hO,by omega⟩)
 have hge_k:pn≤k:=by have h:=hc47;simp at h;omega
 rw [ZH hP.len hge_k] at hm hO
 refine QI (Qh (Qh (Qk (Qa (zR ?_)))))
 refine zV (Qo rfl JK (fun hg=>by (repeat (first | exact zAf | apply zAe | apply zAg))) rfl) ?_
 refine Y1 rfl rfl zba rfl rfl rfl rfl (by (repeat (first | exact Upd.here | apply Upd.there | apply QK))) ?_
 refine zA (zN (Qt ?_))
 first
 | exact Zu rfl rfl rfl JK (vs:=[.slice bv n2 c2,.int .i64 no,.slice ea1 en1 ec1,.slice ea2 en2 ec2,.slice ea3 en3 ec3,.map (some r_30),.slice va6 q vc6,.slice as8 (zge ps (Vk ws rows no xs es rd) vs).length cs8]) (by repeat (first | exact zAf | apply zAe | apply zAg)) rfl (fun w hw=>by obtain ⟨I9,av9,c9,h1',h2',e9,h4'⟩:=OwnS.freeze (R:=[_,_,_]) hO Q0 (by decide) hw;cases e9;obtain ⟨I8,h81,h82,h83⟩:=h2'.freezeAll;exact ⟨_,I8,[],rfl,(hIc.trans h1').trans h81,h82,rfl,[.slice bv n2 c2,.int .i64 no,.slice ea1 en1 ec1,.slice ea2 en2 ec2,.slice ea3 en3 ec3,.map (some r_30),.slice va6 q vc6,.slice as8 (zge ps (Vk ws rows no xs es rd) vs).length cs8],by rw [zfq he1,he2],rfl,rfl,fun _=>⟨⟨bv,n2,c2,no,ea1,en1,ec1,ea2,en2,ec2,ea3,en3,ec3,r_30,va6,q,vc6,as8,_,cs8⟩,rfl,⟨(hVn.mono h1').mono h81,(hX2.mono h1').mono h81,(hX3.mono h1').mono h81,⟨m,h83 r_30 _ (by simp),(hm.mono h1').mono h81⟩,⟨h4'.mono h81,fun z hz=>((hP.2 z (List.mem_filter.1 hz).1).mono h1').mono h81⟩,by rw [←hsf];exact (hSs.mono h1').mono h81,hn2,hm2,hm3,by show q≤100000;omega,by show (zge ps (Vk ws rows no xs es rd) vs).length≤100000;rw [hsf];omega,fun z hz=>⟨z,(List.mem_filter.1 hz).1,rfl⟩⟩⟩⟩)
end
section
open Go Go.Kn Go.Proofs
section
variable {ws:List Wr} {rows:List (List Int)} {no:Int} {cl:List Int} {es:List Em} {rd:List Int}
theorem zgY (h:Km ws rows no cl es rd=0):zai ws=0∧Uv ws=rows∧Wc rows no cl es rd=0∧W0 ws rows rd rd.length=some (Vk ws rows no cl es rd):=by
 have h0:=h
 unfold Km at h
 split at h
 ·
  exact absurd h (by assumption)
 ·
  split at h
  ·
   cases h
  ·
   split at h
   ·
    exact absurd h (by assumption)
   ·
    split at h
    ·
     cases h
    ·
     rename_i h1 h2 h3 h4
     refine ⟨by simpa using h1,by simpa using h2,by simpa using h3,?_⟩
     unfold Vk
     rw [if_neg (by rw [h0];simp)]
     cases hs:W0 ws rows rd rd.length with
     | none=>rw [hs] at h4;simp at h4
     | some l=>rfl
theorem zbJ:∀ {k:Nat} {l:List Sg},W0 ws rows rd k=some l→∀ x∈l,∃ q:Nat,q<k∧x.id=(q:Int)∧zaU ws rows q (rd.getD q 0)= .sg x
 | 0,l,h,x,hx=>by cases h;cases hx
 | k+1,l,h,x,hx=>by
  unfold W0 at h
  cases h1:W0 ws rows rd k with
  | none=>rw [h1] at h;cases h
  | some l1=>
   rw [h1] at h
   dsimp only at h
   split at h
   ·
    cases h
   ·
    cases h
    obtain ⟨q,a,b,c⟩:=zbJ h1 x hx
    exact ⟨q,by omega,b,c⟩
   ·
    rename_i y ho
    cases h
    rcases List.mem_append.1 hx with hx | hx
    ·
     obtain ⟨q,a,b,c⟩:=zbJ h1 x hx
     exact ⟨q,by omega,b,c⟩
    ·
     rw [List.mem_singleton] at hx
     subst hx
     refine ⟨k,by omega,?_,ho⟩
     unfold zaU at ho
     split at ho
     ·
      cases ho
     ·
      split at ho
      ·
       cases ho
      ·
       split at ho
       ·
        cases ho
       ·
        cases ho;rfl
theorem zuG (h:Km ws rows no cl es rd=0){x:Sg}(hx:x∈Vk ws rows no cl es rd):∃ q:Nat,x.id=(q:Int)∧q<rd.length∧(∀ r∈rows,q<r.length)∧zaU ws rows q (rd.getD q 0)= .sg x:=by
 obtain ⟨h1,h2,h3,h4⟩:=zgY h
 obtain ⟨q,a,b,c⟩:=zbJ h4 x hx
 have hr:=(zcq h1 h2 h3).2.1
 exact ⟨q,b,a,fun r hm=>by rw [hr r hm];exact a,c⟩
end
theorem zma {xs:List Sg}{k y:Sg}(h:y∈zd5 xs k):y=k∨y∈xs:=by
 unfold zd5 at h
 rcases List.mem_append.1 h with h | h
 ·
  exact .inr (List.takeWhile_sublist _ |>.subset h)
 ·
  rcases List.mem_cons.1 h with h | h
  ·
   exact .inl h
  ·
   exact .inr (List.dropWhile_sublist _ |>.subset h)
theorem zch:∀ {l:List Pt} {base:List Sg} {y:Sg},y∈Wk base l→y∈base∨∃ p∈l,p.kind=2∧p.nw=y
 | [],base,y,h=>.inl h
 | p::l,base,y,h=>by
  have h':y∈Wk (if p.kind=2 then zd5 base p.nw else base) l:=h
  rcases zch h' with h1 | ⟨q,h1,h2,h3⟩
  ·
   split at h1
   ·
    rename_i hk
    rcases zma h1 with h1 | h1
    ·
     exact .inr ⟨p,List.mem_cons_self ..,hk,h1.symm⟩
    ·
     exact .inl h1
   ·
    exact .inl h1
  ·
   exact .inr ⟨q,List.mem_cons_of_mem _ h1,h2,h3⟩
theorem zbN {on:Int→Int→Bool}{base:List Sg}{l:List Pt}{x:Sg}(h:x∈X5 on base l):∃ y,y∈Wk base l∧x=zhI on l y∧exB on l y.id=true:=by
 unfold X5 at h
 obtain ⟨y,h1,rfl⟩:=List.mem_map.1 h
 obtain ⟨h2,h3⟩:=List.mem_filter.1 h1
 exact ⟨y,h2,rfl,h3⟩
theorem zyM {l:List Pt}{s:Int}(h:(or2 l s).2=false):l.any (inP s)=false:=by
 unfold or2 at h
 cases hf:l.find? (inP s) with
 | none=>rw [List.find?_eq_none] at hf;rw [List.any_eq_false];exact hf
 | some p=>rw [hf] at h;cases h
theorem zgN {on:Int→Int→Bool}{base:List Sg}{l:List Pt}(hs:Sto l){x:Sg}(h:x∈X5 on base l)(hn:(or2 l x.id).2=false):∃ y∈base,x=zhI on l y∧exB on l y.id=true:=by
 obtain ⟨y,h1,h2,h3⟩:=zbN h
 rcases zch h1 with h4 | ⟨p,hp,hk,hw⟩
 ·
  exact ⟨y,h4,h2,h3⟩
 ·
  have h5:=zyM hn
  rw [List.any_eq_false] at h5
  refine absurd ?_ (h5 p hp)
  unfold inP
  rw [h2,zd0,←hw,((hs.ok p hp).ins hk).1]
  simp [hk]
theorem zpa {ws:List Wr}{rows:List (List Int)}{no:Int}{cl:List Int}{es:List Em}{rd:List Int}{ps:List Pt}{vs:List Int}(h1:Km ws rows no cl es rd=0)(h2:zdL ps (Vk ws rows no cl es rd) vs=0){x:Sg}(hx:x∈X5 (onF ps) (Vk ws rows no cl es rd) (Z9 ps vs))
  (hn:(or2 (Z9 ps vs) x.id).2=false):∃ q:Nat,x.id=q∧q<rd.length∧∀ r∈rows,q<r.length:=by
 obtain ⟨hsto,_,_,_,_,hver,_⟩:=UA h2
 obtain ⟨y,hy,e,_⟩:=zgN (XA hsto hver) hx hn
 obtain ⟨q,a,b,c,_⟩:=zuG h1 hy
 exact ⟨q,by rw [e,zd0,a],b,c⟩
theorem ze9 {e1:Int}{ps:List Pt}{bs:List Sg}{vs:List Int}(h:zd7 e1 ps bs vs=0):e1=0∧zdL ps bs vs=0:=by
 unfold zd7 at h
 split at h
 ·
  exact absurd h (by assumption)
 ·
  rename_i h1;exact ⟨by simpa using h1,h⟩
def orE (e0:Int)(s:List Sg)(sign f:Int):Int:=if e0≠0 then e0 else if (decide (f<1)||decide (f>9))|| !(s.any fun x=>x.id==sign) then 440 else 0
def orO (e:Int)(o:Og):Og:=if e≠0 then zOg else o
def OrQ (e:Int)(o:Og)(v:Value)(I:Qu)(L:Go.Kn.Loc):Prop:=L=[]∧∃ vs,v= .tuple #[.agg vs.toArray,.int .i64 e]∧OgV I o vs
theorem zzx {e0:Int}{s:List Sg}{sign f:Int}(h:e0≠0):orE e0 s sign f=e0:=if_pos h
theorem zzv {e0:Int}{s:List Sg}{sign f:Int}(h:e0=0)(h2:((decide (f<1)||decide (f>9))|| !(s.any fun x=>x.id==sign))=true):orE e0 s sign f=440:=by unfold orE;rw [if_neg (by omega),if_pos h2]
theorem zvx {e0:Int}{s:List Sg}{sign f:Int}(h:e0=0)(h2:((decide (f<1)||decide (f>9))|| !(s.any fun x=>x.id==sign))=false):orE e0 s sign f=0:=by unfold orE;rw [if_neg (by omega),if_neg (by rw [h2];decide)]
theorem OrQ.bad {I:Qu}{e:Int}{o:Og}(he:e≠0):OrQ e (orO e o) (.tuple #[.agg #[.int .i64 0,.int .i64 0,.slice none 0 0,.slice none 0 0],.int .i64 e]) I []:=by
 unfold orO;rw [if_pos he]
 exact ⟨rfl,[.int .i64 0,.int .i64 0,.slice none 0 0,.slice none 0 0],rfl,none,0,0,none,0,0,rfl,.nil,.nil⟩
def tcJ (og:Int→Int→Og)(s:Int)(j:Nat):List (Int×Int):=(List.range j).flatMap fun (i:Nat)=>if (og s ((i:Int)+1)).k==3 then [(s,(i:Int)+1)] else []
def tcK (og:Int→Int→Og)(s:List Sg)(k:Nat):List (Int×Int):=(s.take k).flatMap fun x=>tcJ og x.id 9
theorem zqp {og:Int→Int→Og}{s:Int}{j:Nat}(h:((og s ((j:Int)+1)).k==3)=true):tcJ og s (j+1)=tcJ og s j++[(s,(j:Int)+1)]:=by
 unfold tcJ;rw [List.range_succ,List.flatMap_append];simp only [List.flatMap_cons,List.flatMap_nil,List.append_nil];rw [if_pos h]
theorem zut {og:Int→Int→Og}{s:Int}{j:Nat}(h:((og s ((j:Int)+1)).k==3)=false):tcJ og s (j+1)=tcJ og s j:=by
 unfold tcJ;rw [List.range_succ,List.flatMap_append];simp only [List.flatMap_cons,List.flatMap_nil,List.append_nil];rw [if_neg (by rw [h];decide),List.append_nil]
theorem zmW {og:Int→Int→Og}{s:List Sg}{k:Nat}{x:Sg}(hx:s[k]? =some x):tcK og s (k+1)=tcK og s k++tcJ og x.id 9:=by
 unfold tcK;rw [List.take_add_one,hx,List.flatMap_append];simp
theorem zpV {og:Int→Int→Og}{s:List Sg}{k n:Nat}(hn:s.length=n)(hk:n≤k):tcK og s k=s.flatMap fun x=>tcJ og x.id 9:=by
 unfold tcK;rw [List.take_of_length_le (by omega)]
def tcF (e:Int)(og:Int→Int→Og)(s:List Sg):List (Int×Int):=if e≠0 then [] else s.flatMap fun x=>tcJ og x.id 9
def zzL (e:Int)(xs:List (Int×Int))(v:Value)(I:Qu)(L:Go.Kn.Loc):Prop:=L=[]∧∃ a c,v= .tuple #[.slice a xs.length c,.int .i64 e]∧Sl I 2 V8 a xs.length c xs
theorem zyT {s:List Sg}{sign f:Int}(h:((decide (f<1)||decide (f>9))|| !(s.any fun x=>x.id==sign))=false):∃ x∈s,x.id=sign:=by
 rw [Bool.or_eq_false_iff] at h
 have h2:=ziL h.2
 rw [List.any_eq_true] at h2
 obtain ⟨x,hx,he⟩:=h2
 exact ⟨x,hx,by simpa using he⟩
theorem zuq {C:Cx}{Q:Exit→Act→World→Prop}{E:Env}{I:Qu}{loc:Go.Kn.Loc}(loc':Go.Kn.Loc){c:Code}(hp:loc'.Perm loc)(h:X C Q c E I loc'):X C Q c E I loc:=fun a w ha hw=>h a w ha (hw.permL hp)
end
section
open Go Go.Kn Go.Proofs
theorem zpu:Fun Tryz.prog 36:=.of Tryz.func36 (by kernel_rfl) (by kernel_rfl)
theorem zwT:Fun Tryz.prog 37:=.of Tryz.func37 (by kernel_rfl) (by kernel_rfl)
theorem zv0:Fun Tryz.prog 38:=.of Tryz.func38 (by kernel_rfl) (by kernel_rfl)
theorem zo1:Fun Tryz.prog 39:=.of Tryz.func39 (by kernel_rfl) (by kernel_rfl)
theorem znl:zf5 Tryz.prog 38 0 0:=.of (by kernel_rfl)
theorem zyc {I:Qu}{b1:Nat}{sign:Int}(h1:I b1=some (.cells #[.int .i64 sign] 3 (0,0)))(x:Sg):Zy Tryz.prog 38 [JO x,.pointer (some ⟨b1,0,none⟩)] I (.bool (x.id==sign)):=by
 intro g H w hw
 refine qe Tryz.func38 Tryz.ntmps38 hw ?_
 refine zR ?_
 refine Q2 rfl rfl rfl (fun b_2=>?_)
 refine zA ?_
 refine zN (zR ?_)
 refine zF ZM ?_
 refine zL Qr ?_
 refine zV (Qe rfl Qr (fun hg=>by exact .imm h1 rfl)) ?_
 refine zC ?_
 refine zA (zN (Qt ?_))
 exact zr rfl rfl (by rfl)
theorem zfL {I:Qu}{av:Option Addr}{n c:Nat}{ws:List Wr}(hW0:SlW I av n c ws)(hn:n≤100000){bv:Option Addr}{n2 c2:Nat}{rows:List (List Int)}(hVn:SlN I bv n2 c2 rows)(hn2:n2≤100000){ea1:Option Addr}{en1 ec1:Nat}{ea2:Option Addr}{en2 ec2:Nat}{ea3:Option Addr}{en3 ec3:Nat}{xs:List Int}{es:List Em}{rd:List Int}(hX1:Sl I 1 QQ ea1 en1 ec1 xs)(hX2:Sl I 3 YB ea2 en2 ec2 es)(hX3:Sl I 1 QQ ea3 en3 ec3 rd)(hm1:en1≤100000)(hm2:en2≤100000)(hm3:en3≤100000)(no:Int){pv:Option Addr}{pn pc:Nat}{ps:List Pt}(hP:SlP I pv pn pc ps)(hpn:pn≤100000){dv:Option Addr}{n3 c3:Nat}{vs:List Int}(hVs:Sl I 1 QQ dv n3 c3 vs)(hn3:n3≤100000)(hDb:VT I)(sign fld:Int):Yf Tryz.prog 14 [.slice av n c,.slice bv n2 c2,.agg (Z3 no ea1 en1 ec1 ea2 en2 ec2 ea3 en3 ec3).toArray,.slice pv pn pc,.slice dv n3 c3,.int .i64 sign,.int .i64 fld] I [] (OrQ (orE (zd7 (Km ws rows no xs es rd) ps (Vk ws rows no xs es rd) vs) (X5 (onF ps) (Vk ws rows no xs es rd) (Z9 ps vs)) sign fld) (orO (orE (zd7 (Km ws rows no xs es rd) ps (Vk ws rows no xs es rd) vs) (X5 (onF ps) (Vk ws rows no xs es rd) (Z9 ps vs)) sign fld) (zaK (onF ps) rows es rd (Z9 ps vs) sign fld))):=by
 intro g H w hw
 refine qe Tryz.func14 Tryz.ntmps14 hw ?_
 have hIc:=zAh I
 refine zR ?_
 refine Q2 rfl rfl rfl (fun b_9=>?_)
 refine Q2 rfl rfl rfl (fun b_12=>?_)
 refine Qs W6 rfl rfl (fun b_14=>?_)
 refine zA ?_
 refine zN (zR ?_)
 refine zM ?_
 refine zM ?_
 refine zV (Qo rfl Z5 (fun hg=>by exact Cells.g2) rfl) ?_
 refine zM ?_
 refine zM ?_
 refine Qz (cap:=[]) (vs:=[_,_,_,_,_]) rfl rfl zpu .nil (zoH hW0 hn hVn hn2 hX1 hX2 hX3 hm1 hm2 hm3 no hP hpn hVs hn3 hDb) rfl rfl ?_
 rintro vv1 I1 L1 hI1 ⟨rfl,vx,rfl,hvl,hv1,hop⟩
 have hIc:=hIc.trans hI1
 refine zM ?_
 refine zE ?_
 refine zE ?_
 refine Qs zsc rfl rfl (fun b_16=>?_)
 refine Y1 rfl rfl zba hvl rfl hv1 rfl (by repeat (first | exact Upd.here | apply Upd.there | apply QK)) ?_
 refine zA (zN (Ql (zR ?_)))
 refine zM ?_
 refine zC (zN ?_)
 refine zI ?_ ?_<;>intro hc27
 ·
  have he0:(zd7 (Km ws rows no xs es rd) ps (Vk ws rows no xs es rd) vs)≠0:=by simpa using hc27
  refine zR ?_
  refine zV (Qo rfl Y6 (fun hg=>by exact Cells.g1) rfl) ?_
  refine zM ?_
  refine zh VY ?_
  refine zA (zN (Qt (Qc ?_)))
  first
  | exact Zu rfl rfl rfl Y6 (vs:=[.int .i64 0,.int .i64 0,.slice none 0 0,.slice none 0 0]) (by repeat (first | exact zAf | apply zAe | apply zAg)) rfl (fun w hw=>⟨_,I1,[],rfl,hIc,hw.drop,by rw [zzx he0];exact OrQ.bad he0⟩)
 have he0:(zd7 (Km ws rows no xs es rd) ps (Vk ws rows no xs es rd) vs)=0:=by simpa using hc27
 obtain ⟨t,rfl,hT⟩:=hop he0
 obtain ⟨hs1,hs2⟩:=ze9 he0
 refine Qn (Qa (Ql (Ql ?_)))
 refine Zg (b:=b_12) (by repeat (first | exact Q8.here | apply Q8.there)) (fun I2 hI2 hb2=>?_)
 have hT:=hT.mono hI2;have hIc:=hIc.trans hI2
 have h12:=hb2
 refine Qg (zM ?_)
 refine zC ?_
 refine zM ?_
 refine QR 2 rfl rfl rfl ?_
 refine zJ (Qi rfl) ?_
 refine zJ (QG rfl rfl rfl) ?_
 refine Zo rfl rfl rfl rfl rfl ?_
 refine zM ?_
 refine QR 6 rfl rfl rfl ?_
 refine zJ (Qd rfl zcC) ?_
 refine zJ (Qe rfl zd1 (fun hg=>by exact QT.h0 rfl)) ?_
 refine zJ (Zd (us:=[]) (vs:=[_]) rfl rfl) ?_
 refine qf (vs:=[_,_]) rfl zwT (fun hg=>zy0 (cap:=[.pointer (some ⟨b_12,0,none⟩)]) hT.S hT.bs zv0 (fun x hx=>zyc h12 x)) ?_
 refine zJ (Ve rfl) ?_
 refine Zo rfl rfl rfl rfl rfl ?_
 refine zN ?_
 refine zI ?_ ?_<;>intro hc42
 ·
  refine zR ?_
  refine zV (Qo rfl Y6 (fun hg=>by exact Cells.g1) rfl) ?_
  refine zh VY ?_
  refine zA (zN (Qt (Qc ?_)))
  first
  | exact Zu rfl rfl rfl Y6 (vs:=[.int .i64 0,.int .i64 0,.slice none 0 0,.slice none 0 0]) (by repeat (first | exact zAf | apply zAe | apply zAg)) rfl (fun w hw=>⟨_,I2,[],rfl,hIc,hw.drop,by rw [zzv he0 hc42];exact OrQ.bad (by decide)⟩)
 obtain ⟨x,hx,hxi⟩:∃ x∈(X5 (onF ps) (Vk ws rows no xs es rd) (Z9 ps vs)),x.id=sign:=zyT hc42
 have hin:∃ x∈(X5 (onF ps) (Vk ws rows no xs es rd) (Z9 ps vs)),x.id=sign:=⟨x,hx,hxi⟩
 refine Qn (Qa (zR ?_))
 refine zV (Qo rfl JK (fun hg=>by exact Cells.g0) rfl) ?_
 refine zV (Qe rfl Qr (fun hg=>by exact .imm h12 rfl)) ?_
 refine zM ?_
 refine zV (Zz (ps:=[(0,_),(1,_)]) [_,_] V3 zhP rfl rfl) ?_
 refine Qz (cap:=[]) (vs:=[_,_]) rfl rfl zo1 .nil (zxb hT sign fld (fun h=>by obtain ⟨x,hx,hxi⟩:=hin;have h9:=zpa hs1 hs2 hx (by rw [hxi];exact h);rw [hxi] at h9;exact h9)) rfl rfl ?_
 rintro vv3 I3 L3 hI3 ⟨rfl,a1,n1,c1,a2,n2,c2,rfl,hw1,hw2⟩
 have hIc:=hIc.trans hI3
 refine zh VY ?_
 refine zA (zN (Qt ?_))
 first
 | exact Zu rfl rfl rfl Y6 (vs:=[.int .i64 _,.int .i64 _,.slice a1 n1 c1,.slice a2 n2 c2]) (by repeat (first | exact zAf | apply zAe | apply zAg)) rfl (fun w hw=>⟨_,I3,[],rfl,hIc,hw.drop,by rw [zvx he0 hc42];exact ⟨rfl,_,rfl,_,_,_,_,_,_,rfl,hw1,hw2⟩⟩)
theorem zjk {I:Qu}{av:Option Addr}{n c:Nat}{ws:List Wr}(hW0:SlW I av n c ws)(hn:n≤100000){bv:Option Addr}{n2 c2:Nat}{rows:List (List Int)}(hVn:SlN I bv n2 c2 rows)(hn2:n2≤100000){ea1:Option Addr}{en1 ec1:Nat}{ea2:Option Addr}{en2 ec2:Nat}{ea3:Option Addr}{en3 ec3:Nat}{xs:List Int}{es:List Em}{rd:List Int}(hX1:Sl I 1 QQ ea1 en1 ec1 xs)(hX2:Sl I 3 YB ea2 en2 ec2 es)(hX3:Sl I 1 QQ ea3 en3 ec3 rd)(hm1:en1≤100000)(hm2:en2≤100000)(hm3:en3≤100000)(no:Int){pv:Option Addr}{pn pc:Nat}{ps:List Pt}(hP:SlP I pv pn pc ps)(hpn:pn≤100000){dv:Option Addr}{n3 c3:Nat}{vs:List Int}(hVs:Sl I 1 QQ dv n3 c3 vs)(hn3:n3≤100000)(hDb:VT I):Yf Tryz.prog 16 [.slice av n c,.slice bv n2 c2,.agg (Z3 no ea1 en1 ec1 ea2 en2 ec2 ea3 en3 ec3).toArray,.slice pv pn pc,.slice dv n3 c3] I [] (zzL (zd7 (Km ws rows no xs es rd) ps (Vk ws rows no xs es rd) vs) (tcF (zd7 (Km ws rows no xs es rd) ps (Vk ws rows no xs es rd) vs) (fun s f=>zaK (onF ps) rows es rd (Z9 ps vs) s f) (X5 (onF ps) (Vk ws rows no xs es rd) (Z9 ps vs)))):=by
 intro g H w hw
 refine qe Tryz.func16 Tryz.ntmps16 hw ?_
 have hIc:=zAh I
 refine zR ?_
 refine Q2 rfl rfl rfl (fun b_7=>?_)
 refine zA ?_
 refine zA ?_
 refine zN (zR ?_)
 refine zM ?_
 refine zM ?_
 refine zV (Qo rfl Z5 (fun hg=>by exact Cells.g0) rfl) ?_
 refine zM ?_
 refine zM ?_
 refine Qz (cap:=[]) (vs:=[_,_,_,_,_]) rfl rfl zpu .nil (zoH hW0 hn hVn hn2 hX1 hX2 hX3 hm1 hm2 hm3 no hP hpn hVs hn3 hDb) rfl rfl ?_
 rintro vv1 I1 L1 hI1 ⟨rfl,vx,rfl,hvl,hv1,hop⟩
 have hVn:=hVn.mono hI1;have hX1:=hX1.mono hI1;have hX2:=hX2.mono hI1;have hX3:=hX3.mono hI1;have hP:=hP.mono hI1;have hVs:=hVs.mono hI1;have hIc:=hIc.trans hI1
 refine zM ?_
 refine zE ?_
 refine zE ?_
 refine Qs zsc rfl rfl (fun b_12=>?_)
 refine Y1 rfl rfl zba hvl rfl hv1 rfl (by repeat (first | exact Upd.here | apply Upd.there | apply QK)) ?_
 refine zA (zN (Ql (zR ?_)))
 refine zM ?_
 refine zC (zN ?_)
 refine zI ?_ ?_<;>intro hc26
 ·
  have he0:(zd7 (Km ws rows no xs es rd) ps (Vk ws rows no xs es rd) vs)≠0:=by simpa using hc26
  refine zR (zM ?_)
  refine zA ?_
  refine zA (zN (Qt (Qc ?_)))
  first
  | exact ZA rfl rfl rfl (fun w hw=>⟨_,I1,[],rfl,hIc,hw.drop,by unfold tcF;rw [if_pos he0];exact ⟨rfl,none,0,rfl,.nil⟩⟩)
 have he0:(zd7 (Km ws rows no xs es rd) ps (Vk ws rows no xs es rd) vs)=0:=by simpa using hc26
 obtain ⟨t,rfl,hT⟩:=hop he0
 obtain ⟨hs1,hs2⟩:=ze9 he0
 have htn:=hT.bs
 refine Qn (Qa (Ql (zR ?_)))
 refine zF zcC ?_
 refine zL zd1 ?_
 refine zQ YW ?_
 refine zM (zN (Qm ?_))
 refine zU [(12,_),(29,_),(30,_)] (fun T L0 mz E I' loc'=>∃ (k:Nat) (v:Value) (q:Nat) (L:Go.Kn.Loc),mz=t.sn-k∧E=(10,v)::(31,.int .i64 k)::T∧HLe I1 I'∧L++[(b_12,.cells (Kw t).toArray 98 (0,0)),(b_7,.cells (Z3 no ea1 en1 ec1 ea2 en2 ec2 ea3 en3 ec3).toArray 26 (0,0))]=loc'∧k≤t.sn∧OwnS 79 2 v q ((tcK (fun s f=>zaK (onF ps) rows es rd (Z9 ps vs) s f) (X5 (onF ps) (Vk ws rows no xs es rd) (Z9 ps vs)) k).flatMap V8) L∧q≤k*9) ?_ (h:=⟨0,_,0,[],rfl,rfl,zAh _,rfl,Nat.zero_le _,OwnS.nil,Nat.zero_le _⟩)
 rintro mz E J2 loc' ⟨k,v,q,L,rfl,rfl,hJ,rfl,hk,hO,hq⟩
 have hVn:=hVn.mono hJ;have hX1:=hX1.mono hJ;have hX2:=hX2.mono hJ;have hX3:=hX3.mono hJ;have hP:=hP.mono hJ;have hVs:=hVs.mono hJ;have hT:=hT.mono hJ;have hIc:=hIc.trans hJ
 have hB0:=hJ
 refine zR (zC (zN (Ql ?_)))
 refine zI ?_ ?_<;>intro hc32
 ·
  have hlt_k:k<t.sn:=by have h:=hc32;simp at h;omega
  obtain ⟨x,hx⟩:=hT.S.at hlt_k
  refine Qn (Qa (Ql (Qm (zR ?_))))
  refine zV (QE rfl rfl YW hT.S (fun hg=>by omega)) ?_
  refine zV (Qo rfl Q9 (fun hg=>by exact zAi hT.S hx) rfl) ?_
  refine Qs Wv rfl rfl (fun b_14=>?_)
  refine zh Ye ?_
  refine zN (Ql ?_)
  refine zuq (L++[(b_14,.cells (YU x).toArray 54 (0,0)),(b_12,.cells (Kw t).toArray 98 (0,0)),(b_7,.cells (Z3 no ea1 en1 ec1 ea2 en2 ec2 ea3 en3 ec3).toArray 26 (0,0))]) List.perm_middle ?_
  refine Qg (zA (zN (Qm ?_)))
  refine zU [(12,_),(14,_),(29,_),(30,_),(31,_)] (fun T L0 mz E I' loc'=>∃ (j:Nat) (v:Value) (q:Nat) (L:Go.Kn.Loc),mz=9-j∧E=(10,v)::(15,.int .i64 ((j:Int)+1))::T∧HLe J2 I'∧L++[(b_14,.cells (YU x).toArray 54 (0,0)),(b_12,.cells (Kw t).toArray 98 (0,0)),(b_7,.cells (Z3 no ea1 en1 ec1 ea2 en2 ec2 ea3 en3 ec3).toArray 26 (0,0))]=loc'∧j≤9∧OwnS 79 2 v q ((tcK (fun s f=>zaK (onF ps) rows es rd (Z9 ps vs) s f) (X5 (onF ps) (Vk ws rows no xs es rd) (Z9 ps vs)) k++tcJ (fun s f=>zaK (onF ps) rows es rd (Z9 ps vs) s f) x.id j).flatMap V8) L∧q≤k*9+j) ?_ (h:=⟨0,v,q,L,rfl,rfl,zAh _,rfl,Nat.zero_le _,by rw [show tcJ (fun s f=>zaK (onF ps) rows es rd (Z9 ps vs) s f) x.id 0=[] from rfl,List.append_nil];exact hO,by omega⟩)
  rintro mz E J3 loc' ⟨j,v,q,L,rfl,rfl,hJ,rfl,hj,hO,hq⟩
  have hT:=hT.mono hJ;have hB0:=hB0.trans hJ
  have hB2:=hJ
  refine Ql (zR (zM ?_))
  refine zC (zN ?_)
  refine zI ?_ ?_<;>intro hc36
  ·
   have hlt_j:j<9:=by have h:=hc36;simp only [decide_eq_true_eq] at h;omega
   refine Qn (Qa (Ql (Qm (zR ?_))))
   refine zV (Qo rfl JK (fun hg=>by (repeat (first | exact zAf | apply zAe | apply zAg))) rfl) ?_
   refine zF ZM ?_
   refine zV (Qe rfl Qr (fun hg=>by (repeat (first | exact zAc rfl | apply zAb | apply zAd)))) ?_
   refine zM ?_
   refine zV (Zz (ps:=[(0,_),(1,_)]) [_,_] V3 zhP rfl rfl) ?_
   refine Qz (cap:=[]) (vs:=[_,_]) rfl rfl zo1 .nil (zxb hT x.id ((j:Int)+1) (zpa hs1 hs2 (List.mem_of_getElem? hx))) rfl rfl ?_
   rintro vv4 I4 L4 hI4 ⟨rfl,a1,n1,c1,a2,n2,c2,rfl,hw1,hw2⟩
   have hB2:=hB2.trans hI4
   refine zV (zm7 rfl znl rfl) ?_
   refine zC (zN ?_)
   refine zI ?_ ?_<;>intro hc46
   ·
    refine Qg (zM ?_)
    refine zF ZM ?_
    refine zV (Qe rfl Qr (fun hg=>by (repeat (first | exact zAc rfl | apply zAb | apply zAd)))) ?_
    refine zM ?_
    refine zV (Zz (ps:=[(0,_),(1,_)]) [_,_] Y0 Ub rfl rfl) ?_
    refine Qq (ps:=[(0,_)]) (m:=[V8 (x.id,(j:Int)+1)]) Kb rfl (.cons rfl (.nil)) rfl (by simp [V8]) (by decide) (by decide) rfl rfl (fun b_52=>?_)
    refine QY (v:=_) (ys:=[(x.id,(j:Int)+1)].flatMap V8) (L:=L) rfl rfl Kb hO (by repeat (first | exact .cons .here .nil | exact QD | exact Qx | apply QC | apply QB)) ⟨rfl,fun _=>rfl,by repeat (first | exact zAf | apply zAe | apply zAg)⟩ (zhf [(x.id,(j:Int)+1)]) (by omega) rfl rfl ?_
    intro v9 L9 hO9 _;rw [←List.flatMap_append] at hO9
    refine zA (Qb (Qf (Qa (Qg ?_))))
    refine zM ?_
    refine zB ?_
    refine zA (Qb ?_)
    first
    | exact zm (h:=⟨9-(j+1),by omega,j+1,_,_,_,rfl,rfl,hB2,rfl,by omega,by rw [zqp hc46,←List.append_assoc];exact hO9,by omega⟩)
   refine Qn (Qf (Qa (Qg (zM ?_))))
   refine zB ?_
   refine zA (Qb ?_)
   first
   | exact zm (h:=⟨9-(j+1),by omega,j+1,_,_,_,rfl,rfl,hB2,rfl,by omega,by rw [zut hc46];exact hO,by omega⟩)
  have hge_j:9≤j:=by have h:=hc36;simp only [decide_eq_false_iff_not] at h;omega
  refine QI (Qh (Qh (Qk (Qf (Qa (Qg (zB ?_)))))))
  refine zM (Qb ?_)
  exact zm (h:=⟨t.sn-(k+1),by omega,k+1,_,_,_,rfl,rfl,hB0,rfl,by omega,by rw [zmW hx];rw [show j=9 by omega] at hO;exact hO,by omega⟩)
 have hge_k:t.sn≤k:=by have h:=hc32;simp at h;omega
 rw [zpV hT.S.len hge_k] at hO
 refine QI (Qh (Qh (Qk (Qa (zR (zM ?_))))))
 refine zA ?_
 refine zA (zN (Qt ?_))
 first
 | exact ZA rfl rfl rfl (fun w hw=>by obtain ⟨I9,h91,h92,a,c,e9,h94⟩:=OwnS.freeze' hO (fun _=>rfl) (by decide) (hw.subL (by exact Zj));exact ⟨_,I9,[],rfl,hIc.trans h91,h92,by rw [he0];unfold tcF;rw [if_neg (by simp)];have hq9:=h94.len;subst hq9;exact ⟨rfl,a,c,by rw [e9],h94⟩⟩)
end
end Go.Proofs.YtodakphagkommaaGreatDoor.R
namespace Go.Proofs.YtodakphagkommaaGreatDoor
section
open Go Go.Kn Go.Proofs
abbrev Tri:=Value×Nat×List Value
structure zhi (rows:List (List Int))(k:Nat)(m:List (Int×Tri))(i:Nat):Prop where
 val:∀ c,((ZE m c).getD Jw).2.2=(Uc (rows.take i) k c).flatMap QQ
 nd:(m.map (·.1)).Nodup
 key:∀ c,c∈m.map (·.1)↔ ∃ r∈rows.take i,r.getD k 0=c
 len:(m.map (·.1)).length≤i
theorem zhi.start {rows:List (List Int)}{k:Nat}:zhi rows k [] 0:=⟨fun c=>by rw [List.take_zero];rfl,.nil,(fun c=>by simp),Nat.le_refl _⟩
theorem zhi.put {rows:List (List Int)}{k i n:Nat}{m:List (Int×Tri)}(h:zhi rows k m i){r:List Int}(hr:rows[i]? =some r){v:Value}:zhi rows k (YA m (r.getD k 0) (v,n,((ZE m (r.getD k 0)).getD Jw).2.2++[(i:Int)].flatMap QQ)) (i+1) where
 val:=fun c=>by
  rw [YE]
  by_cases e:r.getD k 0=c
  ·
   rw [if_pos e,show Uc (rows.take (i+1)) k c=Uc (rows.take i) k c++[(i:Int)] from zia hr (by simpa using e),List.flatMap_append,←h.val c]
   subst e;rfl
  ·
   rw [if_neg e,show Uc (rows.take (i+1)) k c=Uc (rows.take i) k c from zr1 hr (by simpa using e)];exact h.val c
 nd:=WV _ _ h.nd
 key:=fun c=>by
  rw [Ua,List.take_add_one,hr]
  split
  ·
   rename_i hin
   rw [h.key c]
   constructor
   ·
    rintro ⟨r',h1,h2⟩;exact ⟨r',List.mem_append_left _ h1,h2⟩
   ·
    rintro ⟨r',h1,h2⟩
    rcases List.mem_append.1 h1 with h1 | h1
    ·
     exact ⟨r',h1,h2⟩
    ·
     simp at h1;subst h1;subst h2;exact (h.key _).1 hin
  ·
   rw [List.mem_append,h.key c]
   constructor
   ·
    rintro (⟨r',h1,h2⟩ | h1)
    ·
     exact ⟨r',List.mem_append_left _ h1,h2⟩
    ·
     rw [List.mem_singleton] at h1;exact ⟨r,List.mem_append_right _ (by simp),h1.symm⟩
   ·
    rintro ⟨r',h1,h2⟩
    rcases List.mem_append.1 h1 with h1 | h1
    ·
     exact .inl ⟨r',h1,h2⟩
    ·
     simp at h1;subst h1;exact .inr (by rw [List.mem_singleton];exact h2.symm)
 len:=by
  have:=h.len
  rw [Ua]
  split
  ·
   omega
  ·
   rw [List.length_append,List.length_singleton];omega
theorem ze6 {rows:List (List Int)}{k:Nat}{c:Int}:(Uc rows k c).length≤rows.length:=by
 unfold Uc ixF;rw [List.length_map];exact Nat.le_trans (List.length_filter_le ..) (by rw [List.length_zipIdx];exact Nat.le_refl _)
theorem zhi.le {e:Nat}{rows:List (List Int)}{k i:Nat}{m:List (Int×Tri)}(h:zhi rows k m i){c:Int}{L:Go.Kn.Loc}(hO:OwnS e 1 ((ZE m c).getD Jw).1 ((ZE m c).getD Jw).2.1 ((ZE m c).getD Jw).2.2 L):((ZE m c).getD Jw).2.1≤i:=by
 have h1:=hO.1
 rw [h.val c,ZT Qv] at h1
 have h2:=ze6 (rows:=rows.take i) (k:=k) (c:=c)
 rw [List.length_take] at h2
 omega
theorem zhi.sl {I:Qu}{e:Nat}{rows:List (List Int)}{k:Nat}{m:List (Int×Tri)}{L:Go.Kn.Loc}(h:zhi rows k m rows.length)(hA:Vz e 1 (m.map (·.2)) L)(hI:∀ b o,(b,o)∈L→I b=some o)(c:Int):
  ∃ av cc,((ZE m c).getD Jw).1= .slice av (Uc rows k c).length cc∧Sl I 1 QQ av (Uc rows k c).length cc (Uc rows k c):=by
 obtain ⟨A,Lt,B,rfl,hO,_⟩:=hA.at c
 rw [h.val c,List.take_length] at hO
 obtain ⟨av,cc,e1,e2⟩:=hO.sl Qv (by decide) (fun b o hb=>hI b o (by simp [hb]))
 have hn:=e2.len
 rw [←hn] at e1 e2
 exact ⟨av,cc,e1,e2⟩
def kyS (ks:List Int)(seen:List Nat):List Int:=seen.map fun i=>ks.getD i 0
theorem zl4 {ks:List Int}{seen:List Nat}{i:Nat}{a:Int}(h:ks[i]? =some a):kyS ks (seen++[i])=kyS ks seen++[a]:=by
 unfold kyS;rw [List.map_append,List.map_singleton,QU h]
theorem zaY (ks:List Int):((List.range ks.length).map fun i=>ks.getD i 0)=ks:=by
 apply List.ext_getElem?
 intro j
 rw [List.getElem?_map]
 by_cases h:j<ks.length
 ·
  rw [List.getElem?_range h,Option.map_some,List.getElem?_eq_getElem h,QU (List.getElem?_eq_getElem h)]
 ·
  rw [List.getElem?_eq_none (by simpa using Nat.le_of_not_lt h),List.getElem?_eq_none (by omega)];rfl
theorem zsK {ks:List Int}{seen:List Nat}(hn:seen.Nodup)(hl:∀ i∈seen,i<ks.length)(ha:∀ i,i<ks.length→i∈seen):(kyS ks seen).Perm ks:=by
 have h1:seen.Perm (List.range ks.length):=(List.perm_ext_iff_of_nodup hn List.nodup_range).2 fun i=>by rw [List.mem_range];exact ⟨hl i,ha i⟩
 have h2:=h1.map fun i=>ks.getD i 0
 rw [zaY] at h2
 exact h2
theorem zeq {q:Nat}{n:Int}:∀ {rows:List (List Int)} {o:Option Int},(∀ b,o=some b→n<b)→(∀ r∈rows,n<r.getD q 0→∃ c,rows.foldl (zhC q n) o=some c∧c≤r.getD q 0)∧(∀ b,o=some b→∃ c,rows.foldl (zhC q n) o=some c∧c≤b)
 | [],o,_=>⟨(fun r hr=>by cases hr),fun b hb=>⟨b,hb,Int.le_refl _⟩⟩
 | r::rows,o,ho=>by
  cases hb:(decide (r.getD q 0>n)&&(!o.isSome||decide (r.getD q 0<o.getD 0))) with
  | true=>
   have hs:=zk4 hb
   simp only [Bool.and_eq_true,Bool.or_eq_true,decide_eq_true_eq] at hb
   have ih:=zeq (q:=q) (n:=n) (rows:=rows) (o:=some (r.getD q 0)) (fun b e=>by cases e;exact hb.1)
   have e0:(r::rows).foldl (zhC q n) o=rows.foldl (zhC q n) (some (r.getD q 0)):=by rw [List.foldl_cons,hs]
   rw [e0]
   refine ⟨fun r' hr' hn=>?_,fun b e=>?_⟩
   ·
    rcases List.mem_cons.1 hr' with rfl | hr'
    ·
     exact ih.2 _ rfl
    ·
     exact ih.1 r' hr' hn
   ·
    obtain ⟨c,h1,h2⟩:=ih.2 _ rfl
    subst e
    rcases hb.2 with h3 | h3
    ·
     cases h3
    ·
     have h3:r.getD q 0<b:=h3
     exact ⟨c,h1,by omega⟩
  | false=>
   have hs:=zoW hb
   have ih:=zeq (q:=q) (n:=n) (rows:=rows) (o:=o) ho
   have e0:(r::rows).foldl (zhC q n) o=rows.foldl (zhC q n) o:=by rw [List.foldl_cons,hs]
   rw [e0]
   refine ⟨fun r' hr' hn=>?_,ih.2⟩
   rcases List.mem_cons.1 hr' with rfl | hr'
   ·
    cases o with
    | none=>
     cases h9:decide (r'.getD q 0>n) with
     | true=>rw [h9] at hb;cases hb
     | false=>simp only [decide_eq_false_iff_not] at h9;omega
    | some b=>
     cases h9:decide (r'.getD q 0>n) with
     | true=>
      rw [h9] at hb
      have h8:decide (r'.getD q 0<b)=false:=hb
      simp only [decide_eq_false_iff_not] at h8
      obtain ⟨c,h1,h2⟩:=ih.2 b rfl
      exact ⟨c,h1,by omega⟩
     | false=>simp only [decide_eq_false_iff_not] at h9;omega
   ·
    exact ih.1 r' hr' hn
theorem Ki (ks:List Int):(YL ks).Perm ks:=List.mergeSort_perm ..
theorem zni (ks:List Int):(YL ks).Pairwise (· ≤ ·):=
 (List.pairwise_mergeSort (le:=fun x y:Int=>decide (x≤y)) (fun a b c h1 h2=>by simp at*;omega) (fun a b=>by simp;omega) ks).imp fun h=>by simpa using h
theorem zjW {rows:List (List Int)}{q:Nat}:∀ {ks:List Int} {n:Int} {m:Nat},ks.Pairwise (· < ·)→(∀ c,c∈ks↔n<c∧∃ r∈rows,r.getD q 0=c)→ks.length≤m→ztG rows q m (zpE rows q n)=ks.map fun c=>⟨c,Uc rows q c⟩
 | [],n,m,_,hk,_=>by
  have:zpE rows q n=none:=by
   cases h:zpE rows q n with
   | none=>rfl
   | some c=>have h1:=(hk c).2 (zok h);cases h1
  rw [this,zls];rfl
 | c::ks,n,0,_,_,hm=>by simp at hm
 | c::ks,n,m+1,hs,hk,hm=>by
  obtain ⟨hn,r,hr,he⟩:=(hk c).1 (List.mem_cons_self ..)
  obtain ⟨d,hd,hdc⟩:=(zeq (q:=q) (n:=n) (rows:=rows) (o:=none) (fun b e=>by cases e)).1 r hr (by omega)
  have hd':zpE rows q n=some d:=hd
  have hdk:=(hk d).2 (zok hd')
  have hcd:d=c:=by
   rcases List.mem_cons.1 hdk with h | h
   ·
    exact h
   ·
    have:=(List.pairwise_cons.1 hs).1 d h;omega
  rw [hd',hcd,zkp,List.map_cons]
  congr 1
  refine zjW (List.pairwise_cons.1 hs).2 (fun x=>?_) (by simp at hm;omega)
  constructor
  ·
   intro hx
   exact ⟨(List.pairwise_cons.1 hs).1 x hx,((hk x).1 (List.mem_cons_of_mem _ hx)).2⟩
  ·
   rintro ⟨h1,h2⟩
   rcases List.mem_cons.1 ((hk x).2 ⟨by omega,h2⟩) with h3 | h3
   ·
    omega
   ·
    exact h3
theorem zmt {rows:List (List Int)}{k:Nat}{m:List (Int×Tri)}(h:zhi rows k m rows.length)(h0:∀ r∈rows,0≤r.getD k 0){ks:List Int}(hp:ks.Perm (m.map (·.1))):(YL ks).map (fun c=>(⟨c,Uc rows k c⟩:Vt))=zpj rows k:=by
 have hnd:(YL ks).Nodup:=((Ki ks).trans hp).nodup_iff.2 h.nd
 have hs:(YL ks).Pairwise (· < ·):=by
  exact ((zni ks).and hnd).imp fun {a b} ⟨h2,h3⟩=>by have:a≠b:=h3;omega
 have hmem:∀ c,c∈YL ks↔(-1:Int)<c∧∃ r∈rows,r.getD k 0=c:=fun c=>by
  rw [((Ki ks).trans hp).mem_iff,h.key c,List.take_length]
  constructor
  ·
   rintro ⟨r,hr,rfl⟩;exact ⟨by have:=h0 r hr;omega,r,hr,rfl⟩
  ·
   exact fun h=>h.2
 have hl:(YL ks).length≤rows.length:=by rw [((Ki ks).trans hp).length_eq];exact h.len
 unfold zpj
 rw [zjW hs hmem hl]
theorem zjM {rows:List (List Int)}{k:Nat}{c:Int}(h:∃ r∈rows,r.getD k 0=c):0<(Uc rows k c).length:=by
 obtain ⟨r,hr,he⟩:=h
 obtain ⟨i,hi⟩:=List.getElem?_of_mem hr
 unfold Uc ixF
 rw [List.length_map]
 refine List.length_pos_of_mem (a:=(r,i)) (List.mem_filter.2 ⟨?_,by simpa using he⟩)
 rw [List.mem_iff_getElem?]
 exact ⟨i,by simp [List.getElem?_zipIdx,hi]⟩
theorem zoU {x:Nat×Obj}{A L B R:Go.Kn.Loc}:(x::((A++(L++B))++R)).Perm (L++(x::(A++(B++R)))):=by
 have h:=List.perm_append_comm_assoc (x::A) L (B++R)
 simp only [List.cons_append,List.append_assoc] at h ⊢
 exact h
end
section
open Go Go.Kn Go.Proofs
theorem zn8:AgT Tryz.prog 74 3:=.of (by kernel_rfl)
theorem zo2:Fun Tryz.prog 31:=.of Tryz.func31 (by kernel_rfl) (by kernel_rfl)
theorem Va:MpT Tryz.prog 91 3 23 (.slice none 0 0):=⟨by kernel_rfl,.of (by kernel_rfl)⟩
theorem zoG:SzT Tryz.prog 72 1:=.of (by kernel_rfl)
theorem zpc:SzT Tryz.prog 74 3:=.of (by kernel_rfl)
theorem zwy:Yu Tryz.prog 74 (.agg #[(.int .i64 0),(.int .i64 0),(.slice none 0 0)]):=.of (by kernel_rfl)
theorem zhg {I:Qu}{r:Nat}{m:List (Int×Tri)}(hm:I r=some (ZQ (Value.int .i64) Xp m))(hml:m.length≤100000):Yf Tryz.prog 31 [.map (some r)] I [] (fun v I' L=>L=[]∧∃ av c ks,ks.Perm (m.map (·.1))∧v= .slice av (YL ks).length c∧Sl I' 1 QQ av (YL ks).length c (YL ks)):=by
 intro g H w hw
 refine qe Tryz.func31 Tryz.ntmps31 hw ?_
 have hIc:=zAh I
 refine zR (zA (zN (Ql (zR ?_))))
 refine zM ?_
 refine JU (ek:=Value.int .i64) (ev:=Xp) (m:=m) rfl Va rfl rfl (.inl hm) (fun b_5=>?_)
 refine zN (Qm ?_)
 refine zU [(5,_)] (fun T L0 mz E I' loc'=>∃ (seen:List Nat) (v:Value) (L:Go.Kn.Loc),mz=m.length-seen.length∧E=(2,v)::T∧I=I'∧L++[(b_5,YT r m.length seen)]=loc'∧seen.Nodup∧(∀ i∈seen,i<m.length)∧OwnS 3 1 v seen.length ((kyS (m.map (·.1)) seen).flatMap QQ) L) ?_ (h:=⟨[],_,[],rfl,rfl,rfl,rfl,.nil,(fun i h=>by cases h),OwnS.nil⟩)
 rintro mz E I' loc' ⟨seen,v,L,rfl,rfl,rfl,rfl,hnd2,hlt,hO⟩
 have hsl:=JI hnd2 hlt
 refine zR ?_
 refine JT (ek:=Value.int .i64) (ev:=Xp) (m:=m) (fun s'=>L++[(b_5,YT r m.length s')]) rfl (fun s'=>QK .here) rfl rfl rfl rfl rfl (.inl hm) (by simp) ?_
 intro t tv s' hno hyes
 refine zN (Ql ?_)
 refine zI ?_ ?_<;>intro hc7
 ·
  obtain ⟨i,q,hq,hns,rfl⟩:=hyes hc7
  refine Qn (Qa (Qm (zR ?_)))
  refine zV (JV (ek:=Value.int .i64) (ev:=Xp) (m:=m) (p:=q) (seen:=seen) (i:=i) rfl (.inl hm) (.inr (by simp)) hq) ?_
  refine zE ?_
  refine zA (zN (Qg ?_))
  refine zM ?_
  refine zM ?_
  refine Qq (ps:=[(0,_)]) (m:=[QQ q.1]) Zh rfl (.cons rfl (.nil)) rfl (by simp [Qv]) (by decide) (by decide) rfl rfl (fun b_12=>?_)
  refine QY (v:=_) (ys:=[q.1].flatMap QQ) (L:=L) rfl rfl Zh hO (by repeat (first | exact .cons .here .nil | exact QD | exact Qx | apply QC | apply QB)) ⟨rfl,fun _=>rfl,by repeat (first | exact zAf | apply zAe | apply zAg)⟩ (Kk _) (by omega) rfl rfl ?_
  intro v9 L9 hO9 _;rw [←List.flatMap_append] at hO9
  refine zA (Qb (Qf ?_))
  have hnd3:(seen++[i]).Nodup:=List.nodup_append.2 ⟨hnd2,by simp,fun a ha b hb e=>hns (by simp at hb;subst hb;subst e;exact ha)⟩
  have hlt3:∀ j∈seen++[i],j<m.length:=fun j hj=>(List.mem_append.1 hj).elim (hlt j) (fun h=>by simp at h;subst h;exact (List.getElem?_eq_some_iff.1 hq).1)
  have hsl2:=JI hnd3 hlt3
  rw [List.length_append,List.length_singleton] at hsl2
  rw [←zl4 (by rw [List.getElem?_map,hq];rfl)] at hO9
  exact zm (h:=⟨m.length-(seen++[i]).length,by rw [List.length_append,List.length_singleton];omega,seen++[i],_,L9,rfl,rfl,rfl,rfl,hnd3,hlt3,by rw [List.length_append,List.length_singleton];exact hO9⟩)
 obtain ⟨hs9,hall⟩:=hno hc7
 have hs9:=hs9.symm
 subst hs9
 have hpe:(kyS (m.map (·.1)) seen).Perm (m.map (·.1)):=zsK hnd2 (fun i hi=>by rw [List.length_map];exact hlt i hi) (fun i hi=>by rw [List.length_map] at hi;exact hall i _ (List.getElem?_eq_getElem hi))
 refine QI (Qh (Qh (Qk (Qa (zR (zM ?_))))))
 refine Qz (cap:=[]) (vs:=[_]) rfl rfl ziX (by repeat (first | exact .cons .here .nil | exact QD | exact Qx | apply QC | apply QB)) (zi4 hO (by omega) _) rfl rfl ?_
 rintro vv2 I2 L2 hI2 ⟨rfl,rfl,hO2⟩
 have hIc:=hIc.trans hI2
 refine zN (zR ?_)
 refine zM ?_
 refine zA (zN (Qt ?_))
 exact Zx rfl rfl (fun w hw=>by obtain ⟨I9,h91,h92,a,c,e9,h94⟩:=OwnS.freeze' hO2 Qv (by decide) (hw.subL (by exact Zj));have hl9:=h94.len;rw [←hl9] at e9 h94;exact ⟨_,I9,[],rfl,hIc.trans h91,h92,rfl,a,c,_,hpe,e9,h94⟩)
theorem zc9 {I:Qu}{bv:Option Addr}{n2 c2:Nat}{rows:List (List Int)}(hVn:SlN I bv n2 c2 rows)(hn2:n2≤100000){ea1:Option Addr}{en1 ec1:Nat}{ea2:Option Addr}{en2 ec2:Nat}{ea3:Option Addr}{en3 ec3:Nat}{xs:List Int}{es:List Em}{rd:List Int}(hX1:Sl I 1 QQ ea1 en1 ec1 xs)(hX2:Sl I 3 YB ea2 en2 ec2 es)(hX3:Sl I 1 QQ ea3 en3 ec3 rd)(hm1:en1≤100000)(hm2:en2≤100000)(hm3:en3≤100000)(no:Int)(hDb:VT I):Yf Tryz.prog 11 [.slice bv n2 c2,.agg (Z3 no ea1 en1 ec1 ea2 en2 ec2 ea3 en3 ec3).toArray] I [] (fun v I' L=>zxW (Wc rows no xs es rd) (zyi (Wc rows no xs es rd) rows rd) v I' L):=by
 intro g H w hw
 refine qe Tryz.func11 Tryz.ntmps11 hw ?_
 have hIc:=zAh I
 have hVl:=hVn.len
 refine zR ?_
 refine Q2 rfl rfl rfl (fun b_3=>?_)
 refine zA ?_
 refine zA (zN (Ql (zR ?_)))
 refine zM ?_
 refine zV (Qo rfl Z5 (fun hg=>by exact Cells.g0) rfl) ?_
 refine qc (vs:=[_,_]) rfl zos (zic hVn hn2 hX1 hX2 hX3 hm1 hm2 hm3 no hDb) ?_
 refine zA ?_
 refine zN (zR ?_)
 refine zM ?_
 refine zC (zN ?_)
 refine zI ?_ ?_<;>intro hc18
 ·
  have he0:Wc rows no xs es rd≠0:=by simpa using hc18
  refine zR (zM ?_)
  refine zA ?_
  refine zA (zN (Qt (Qc ?_)))
  first
  | exact ZA rfl rfl rfl (fun w hw=>⟨_,I,[],rfl,hIc,hw.drop,rfl,_,_,_,rfl,by rw [zqs he0];exact zfP.nil⟩)
 have he0:Wc rows no xs es rd=0:=by simpa using hc18
 obtain ⟨hmk,hrd⟩:=zdf he0
 obtain ⟨hr1,hr6,hr64,hrr⟩:=KU (KQ (zoA hmk))
 have hrdl:rd.length=(rows.getD 0 []).length:=by rw [hrd];exact UX
 have hX3l:=hX3.len
 have hc0:∀ k,k<rd.length→∀ r∈rows,0≤r.getD k 0:=fun k hk r hr=>by have h1:=hrr r hr;have h2:k<r.length:=(by omega);rw [QU (List.getElem?_eq_getElem h2)];exact (h1.2 _ (List.getElem_mem h2)).1
 refine Qn (Qa (Ql (zR ?_)))
 refine zF Ji ?_
 refine zL QJ ?_
 refine zQ Qw ?_
 refine zM (zN (Qm ?_))
 refine zU [(0,_),(21,_),(22,_)] (fun T L0 mz E I' loc'=>∃ (k:Nat) (v4:Value) (os:List Eh) (us:List En) (Lo:Go.Kn.Loc),mz=en3-k∧E=(4,v4)::(23,.int .i64 k)::T∧HLe I I'∧Lo++[(b_3,.cells (Z3 no ea1 en1 ec1 ea2 en2 ec2 ea3 en3 ec3).toArray 26 (0,0))]=loc'∧k≤en3∧OwnS 74 3 v4 os.length (os.flatMap zdp) Lo∧zdJ I' os us∧us=zkr rows rd k∧os.length≤k) ?_ (h:=⟨0,_,[],[],[],rfl,rfl,zAh _,rfl,Nat.zero_le _,OwnS.nil,zaX.nil,rfl,Nat.le_refl _⟩)
 rintro mz E J1 loc' ⟨k,v4,os,us,Lo,rfl,rfl,hJ,rfl,hk,hO,hre,hsu,hbd⟩
 have hVn:=hVn.mono hJ;have hX3:=hX3.mono hJ;have hIc:=hIc.trans hJ
 have hB0:=hJ
 refine zR (zC (zN (Ql ?_)))
 refine zI ?_ ?_<;>intro hc24
 ·
  have hlt_k:k<en3:=by have h:=hc24;simp at h;omega
  have hgr:rd[k]? =some (rd.getD k 0):=Q4 rfl (by omega)
  have hc0:=hc0 k (by omega)
  refine Qn (Qa (Ql (Qm (zR (zM ?_)))))
  refine zV (zX Qw hX3) ?_
  refine zV (Qe rfl Qr (fun hg=>by exact zAa (k:=k) hX3 hgr rfl)) ?_
  refine zA ?_
  refine zA ?_
  refine zN (zR ?_)
  refine ZL rfl rfl (fun r_28=>?_)
  refine zA (zN (Ql (zR ?_)))
  refine zM ?_
  refine zQ Zp ?_
  refine zM (zN (Qm ?_))
  refine zU [(0,_),(4,_),(6,_),(7,_),(8,_),(21,_),(22,_),(23,_),(29,_),(30,_)] (fun T L0 mz E I' loc'=>∃ (i:Nat) (m:List (Int×Tri)) (Ls:Go.Kn.Loc),mz=n2-i∧E=(31,.int .i64 i)::T∧J1=I'∧(r_28,ZQ (Value.int .i64) Xp m)::(Ls++(Lo++[(b_3,.cells (Z3 no ea1 en1 ec1 ea2 en2 ec2 ea3 en3 ec3).toArray 26 (0,0))]))=loc'∧i≤n2∧zhi rows k m i∧Vz 3 1 (m.map (·.2)) Ls) ?_ (h:=⟨0,[],[],rfl,rfl,rfl,rfl,Nat.zero_le _,zhi.start,Vz.nil⟩)
  rintro mz E I' loc' ⟨i,m,Ls,rfl,rfl,rfl,rfl,hi,hcm,hAll⟩
  refine zR (zC (zN (Ql ?_)))
  refine zI ?_ ?_<;>intro hc32
  ·
   have hlt_i:i<n2:=by have h:=hc32;simp at h;omega
   obtain ⟨hs,hVH⟩:=id hVn
   have hHH:=hVH.1
   obtain ⟨hx,rx,hhx,hrx,hQ⟩:=hVH.at hlt_i
   have hqk:=(hrr rx (List.mem_of_getElem? hrx)).1
   have hQl:=hQ.len
   have hgx:rx[k]? =some (rx.getD k 0):=Q4 rfl (by omega)
   refine Qn (Qa (Ql (Qm (zR (zM ?_)))))
   refine zV (zX Zp hHH) ?_
   refine zV (Qe rfl QJ (fun hg=>by exact zAa hHH hhx rfl)) ?_
   refine zA ?_
   refine zA (zN ?_)
   obtain ⟨A,Lt,B,hLs,hOt,hset⟩:=hAll.at (rx.getD k 0)
   subst hLs
   rw [List.append_assoc A,List.append_assoc Lt]
   have hq0:=hcm.le hOt
   have hD:=zAh J1
   refine Jl ?_
   refine Z0 J1 [] mixed ?_
   refine zT 0 rfl (Qi rfl) hD ?_
   refine zT 1 rfl (Qi rfl) hD ?_
   refine zT 2 rfl (Qi rfl) hD ?_
   refine zT 3 rfl (zX Qw hQ) hD ?_
   refine zT 4 rfl (Qe rfl Qr (fun hg=>by exact zAa (k:=k) hQ hgx rfl)) hD ?_
   refine zT 5 rfl (Qi rfl) hD ?_
   refine zT 6 rfl (Qi rfl) hD ?_
   refine zT 7 rfl (Qi rfl) hD ?_
   refine zT 8 rfl (zX Qw hQ) hD ?_
   refine zT 9 rfl (Qe rfl Qr (fun hg=>by exact zAa (k:=k) hQ hgx rfl)) hD ?_
   refine zT 11 rfl (Qi rfl) hD ?_
   refine Zt 10 12 rfl rfl (by kernel_rfl) ?_ ?_
   ·
    refine zV (VH (m:=m) (ek:=Value.int .i64) (a:=(rx.getD k 0)) Va ZG rfl rfl (fun _=>.inr (by simp))) ?_
    refine Qb ?_
    refine zD hD ?_
    refine qd 12 rfl ?_
    refine Qq (ps:=[(0,_)]) (m:=[QQ (i:Int)]) Zh rfl (.cons rfl (.nil)) rfl (by simp [Qv]) (by decide) (by decide) rfl rfl (fun b_48=>?_)
    refine Qb ?_
    refine zD hD ?_
    refine qd 13 rfl ?_
    refine QY (v:=_) (ys:=[(i:Int)].flatMap QQ) (L:=Lt) rfl rfl Zh hOt (by repeat (first | exact .cons .here .nil | exact QD | exact Qx | apply QC | apply QB)) ⟨rfl,fun _=>rfl,by repeat (first | exact zAf | apply zAe | apply zAg)⟩ (Kk _) (by omega) rfl rfl ?_
    intro v9 L9 hO9 _
    refine Qb ?_
    refine zD hD ?_
    refine qd 14 rfl ?_
    refine Q7 (m:=m) (ek:=Value.int .i64) (ev:=Xp) (a:=(rx.getD k 0)) (v9,((ZE m (rx.getD k 0)).getD Jw).2.1+1,((ZE m (rx.getD k 0)).getD Jw).2.2++[(i:Int)].flatMap QQ) Va ZG rfl rfl rfl rfl (by (repeat (first | exact Upd.here | apply Upd.there | apply QK))) ?_
    refine Qb ?_
    refine zD hD ?_
    refine QF (by kernel_rfl) ?_
    refine QO ?_
    refine Qf (Qa (Qg (zB ?_)))
    refine zM (Qb ?_)
    exact JD _ _ (L9++((r_28,_)::(A++(B++(Lo++[(b_3,.cells (Z3 no ea1 en1 ec1 ea2 en2 ec2 ea3 en3 ec3).toArray 26 (0,0))]))))) ⟨n2-(i+1),by omega,i+1,_,A++(L9++B),rfl,rfl,rfl,rfl,by omega,hcm.put hrx,hset (v9,_,_) L9 hO9⟩ (.cons rfl (.cons rfl (.cons rfl (.cons rfl (.cons rfl (.cons rfl (.cons rfl (.cons rfl (.cons rfl (.cons rfl (.cons rfl .nil))))))))))) zoU (by repeat (first | exact .refl | exact Zj | refine Yk ?_ | refine .drop ?_ | refine Z7 ?_))
   refine Qq (ps:=[(0,_)]) (m:=[QQ (i:Int)]) Zh rfl (.cons rfl (.nil)) rfl (by simp [Qv]) (by decide) (by decide) rfl rfl (fun b_48=>?_)
   refine Qb ?_
   refine zD hD ?_
   refine qd 10 rfl ?_
   refine zV (VH (m:=m) (ek:=Value.int .i64) (a:=(rx.getD k 0)) Va ZG rfl rfl (fun _=>.inr (by simp))) ?_
   refine Qb ?_
   refine zD hD ?_
   refine qd 13 rfl ?_
   refine QY (v:=_) (ys:=[(i:Int)].flatMap QQ) (L:=Lt) rfl rfl Zh hOt (by repeat (first | exact .cons .here .nil | exact QD | exact Qx | apply QC | apply QB)) ⟨rfl,fun _=>rfl,by repeat (first | exact zAf | apply zAe | apply zAg)⟩ (Kk _) (by omega) rfl rfl ?_
   intro v9 L9 hO9 _
   refine Qb ?_
   refine zD hD ?_
   refine qd 14 rfl ?_
   refine Q7 (m:=m) (ek:=Value.int .i64) (ev:=Xp) (a:=(rx.getD k 0)) (v9,((ZE m (rx.getD k 0)).getD Jw).2.1+1,((ZE m (rx.getD k 0)).getD Jw).2.2++[(i:Int)].flatMap QQ) Va ZG rfl rfl rfl rfl (by (repeat (first | exact Upd.here | apply Upd.there | apply QK))) ?_
   refine Qb ?_
   refine zD hD ?_
   refine QF (by kernel_rfl) ?_
   refine QO ?_
   refine Qf (Qa (Qg (zB ?_)))
   refine zM (Qb ?_)
   exact JD _ _ (L9++((r_28,_)::(A++(B++(Lo++[(b_3,.cells (Z3 no ea1 en1 ec1 ea2 en2 ec2 ea3 en3 ec3).toArray 26 (0,0))]))))) ⟨n2-(i+1),by omega,i+1,_,A++(L9++B),rfl,rfl,rfl,rfl,by omega,hcm.put hrx,hset (v9,_,_) L9 hO9⟩ (.cons rfl (.cons rfl (.cons rfl (.cons rfl (.cons rfl (.cons rfl (.cons rfl (.cons rfl (.cons rfl (.cons rfl (.cons rfl .nil))))))))))) zoU (by repeat (first | exact .refl | exact Zj | refine Yk ?_ | refine .drop ?_ | refine Z7 ?_))
  have hge_i:n2≤i:=by have h:=hc32;simp at h;omega
  refine QI (Qh (Qh (Qk (Qa (Ql (Ql ?_))))))
  have hcm:zhi rows k m rows.length:=by rw [hVl,show n2=i by omega];exact hcm
  refine zdz (L:=(r_28,ZQ (Value.int .i64) Xp m)::Ls) (R:=(Lo++[(b_3,.cells (Z3 no ea1 en1 ec1 ea2 en2 ec2 ea3 en3 ec3).toArray 26 (0,0))])) (Qx (A:=(r_28,ZQ (Value.int .i64) Xp m)::Ls) (B:=(Lo++[(b_3,.cells (Z3 no ea1 en1 ec1 ea2 en2 ec2 ea3 en3 ec3).toArray 26 (0,0))]))) (fun I3 hI3 h99=>?_)
  have hre:=hre.mono hI3;have hB0:=hB0.trans hI3
  have h28:=h99 r_28 _ (.head _)
  have hsl:=fun c=>hcm.sl hAll (fun b o hb=>h99 b o (.tail _ hb)) c
  obtain ⟨al,cl9,hvl,hSl⟩:=hsl (rd.getD k 0)
  have hhl:=ze6 (rows:=rows) (k:=k) (c:=(rd.getD k 0))
  refine Qg (zM ?_)
  refine zM ?_
  refine zV (YG (m:=m) (ek:=Value.int .i64) (a:=(rd.getD k 0)) hvl Va ZG rfl rfl (fun _=>.inl h28)) ?_
  refine zQ Qw ?_
  refine zM ?_
  refine zQ Zp ?_
  refine zC (zN ?_)
  refine zI ?_ ?_<;>intro hc57
  ·
   have hno:¬(Uc rows k (rd.getD k 0)).length<rows.length:=by have h:=hc57;rw [beq_iff_eq] at h;omega
   refine QI (Qh (Qk (Qa (Qg (zB ?_)))))
   refine zM (Qb ?_)
   first
   | exact zm (h:=⟨en3-(k+1),by omega,k+1,_,_,_,_,rfl,rfl,hB0,rfl,by omega,hO,hre,by rw [zpT hno];exact hsu,by omega⟩)
  have hyes:(Uc rows k (rd.getD k 0)).length<rows.length:=by have h:=hc57;rw [beq_eq_false_iff_ne] at h;omega
  refine Qn (Qa (zR (zM ?_)))
  refine zM ?_
  refine zV (QS (ps:=[(0,_),(1,_)]) [_,_,_] zn4 rfl rfl) ?_
  refine Qs zwy rfl rfl (fun b_11=>?_)
  refine zh zpc ?_
  refine zN (Ql (zR (zM ?_)))
  refine Qz (cap:=[]) (vs:=[_]) rfl rfl zo2 .nil (zhg h28 (by have:=hcm.len;rw [List.length_map] at this;omega)) rfl rfl ?_
  rintro vv4 I4 L4 hI4 ⟨rfl,az,cz,ks,hpe,rfl,hSz⟩
  have hre:=hre.mono hI4;have hB0:=hB0.trans hI4
  obtain ⟨zs,hzs⟩:∃ zs,zs=YL ks:=⟨_,rfl⟩
  have hvar:zs.map (fun c=>(⟨c,Uc rows k c⟩:Vt))=zpj rows k:=by rw [hzs];exact zmt hcm hc0 hpe
  have hzm:∀ c∈zs,∃ r∈rows,r.getD k 0=c:=fun c hc=>by rw [hzs,((Ki ks).trans hpe).mem_iff,hcm.key c,List.take_length] at hc;exact hc
  have hzl:zs.length≤rows.length:=by rw [hzs,((Ki ks).trans hpe).length_eq];exact hcm.len
  rw [←hzs]
  rw [←hzs] at hSz
  have h28:=hI4 _ _ h28
  have hsl:∀ c,∃ av cc,((ZE m c).getD Jw).1= .slice av (Uc rows k c).length cc∧Sl I4 1 QQ av (Uc rows k c).length cc (Uc rows k c):=fun c=>by obtain ⟨a,b,h1,h2⟩:=hsl c;exact ⟨a,b,h1,h2.mono hI4⟩
  refine zQ Qw ?_
  refine zM (zN (Qm ?_))
  refine zU [(0,_),(4,_),(8,_),(11,_),(21,_),(22,_),(23,_),(62,_),(63,_)] (fun T L0 mz E I' loc'=>∃ (j:Nat) (v5:Value) (o5:List Vh) (u5:List Vt) (L5:Go.Kn.Loc),mz=zs.length-j∧E=(64,.int .i64 j)::T∧I4=I'∧L5++((b_11,.cells #[.int .i64 k,.int .i64 (rd.getD k 0),v5] 74 (0,0))::(Lo++[(b_3,.cells (Z3 no ea1 en1 ec1 ea2 en2 ec2 ea3 en3 ec3).toArray 26 (0,0))]))=loc'∧j≤zs.length∧OwnS 77 2 v5 o5.length (o5.flatMap zbX) L5∧zdN I' o5 u5∧u5=(zs.take j).map (fun c=>(⟨c,Uc rows k c⟩:Vt))∧o5.length≤j) ?_ (h:=⟨0,_,[],[],[],rfl,rfl,rfl,rfl,Nat.zero_le _,OwnS.nil,zaX.nil,rfl,Nat.le_refl _⟩)
  rintro mz E I' loc' ⟨j,v5,o5,u5,L5,rfl,rfl,rfl,rfl,hj,hO5,hrv,hu5,hb5⟩
  obtain ⟨va5,vc5,rfl⟩:=zd6 hO5
  refine zR (zC (zN (Ql ?_)))
  refine zI ?_ ?_<;>intro hc65
  ·
   have hlt_j:j<zs.length:=by have h:=hc65;simp at h;omega
   obtain ⟨c,hcz⟩:=hSz.at hlt_j
   refine Qn (Qa (Ql (Qm (zR ?_))))
   refine zV (zX Qw hSz) ?_
   refine zV (Qe rfl Qr (fun hg=>by exact zAa hSz hcz rfl)) ?_
   refine zA (zN (Ql ?_))
   obtain ⟨ac,cc,hvc,hSc⟩:=hsl c
   have hhp:=zjM (hzm c (List.mem_of_getElem? hcz))
   refine Qg (zM ?_)
   refine zM ?_
   refine zV (YG (m:=m) (ek:=Value.int .i64) (a:=c) hvc Va ZG rfl rfl (fun _=>.inl h28)) ?_
   refine zQ Qw ?_
   refine zC (zN ?_)
   refine zI ?_ ?_<;>intro hc72
   ·
    refine Qg ?_
    refine zF XV ?_
    refine zV (Qe rfl zlq (fun hg=>by (repeat (first | exact zAc rfl | apply zAb | apply zAd)))) ?_
    refine zM ?_
    refine zM ?_
    refine zM ?_
    refine zV (YG (m:=m) (ek:=Value.int .i64) (a:=c) hvc Va ZG rfl rfl (fun _=>.inl h28)) ?_
    refine zV (QS (ps:=[(0,_),(1,_)]) [_,_] zjf rfl rfl) ?_
    refine Qq (ps:=[(0,_)]) (m:=[zbX (⟨c,⟨ac,(Uc rows k c).length,cc⟩⟩:Vh)]) zkO rfl (.cons rfl (.nil)) rfl (by simp [Zm]) (by decide) (by decide) rfl rfl (fun b_80=>?_)
    refine QY (v:=_) (ys:=[(⟨c,⟨ac,(Uc rows k c).length,cc⟩⟩:Vh)].flatMap zbX) (L:=L5) rfl rfl zkO hO5 (by repeat (first | exact .cons .here .nil | exact QD | exact Qx | apply QC | apply QB)) ⟨rfl,fun _=>rfl,by repeat (first | exact zAf | apply zAe | apply zAg)⟩ (zyV _) (by omega) rfl rfl ?_
    intro v9 L9 hO9 _;obtain ⟨va9,vc9,rfl⟩:=zd6 hO9;rw [←List.flatMap_append] at hO9
    refine zF XV ?_
    refine ZI rfl rfl zoG rfl rfl (by (repeat (first | exact Upd.here | apply Upd.there | apply QK))) rfl ?_
    refine Qb (Qf (Qa (Qg (zB ?_))))
    refine zM (Qb ?_)
    exact zm (h:=⟨zs.length-(j+1),by omega,j+1,_,o5++[(⟨c,⟨ac,(Uc rows k c).length,cc⟩⟩:Vh)],u5++[⟨c,Uc rows k c⟩],L9,rfl,rfl,rfl,rfl,by omega,by rw [List.length_append,List.length_singleton];exact hO9,hrv.snoc (v:=⟨c,Uc rows k c⟩) ⟨rfl,hSc⟩,by rw [List.take_add_one,hcz,List.map_append,←hu5];rfl,by rw [List.length_append,List.length_singleton];omega⟩)
   exfalso;have h:=hc72;simp only [decide_eq_false_iff_not] at h;omega
  have hge_j:zs.length≤j:=by have h:=hc65;simp at h;omega
  rw [List.take_of_length_le hge_j,hvar] at hu5
  refine QI (Qh (Qh (Qk (Qa ?_))))
  refine Vr hO5 Zm (by decide) (by repeat (first | exact .cons .here .nil | exact QD | exact Qx | apply QC | apply QB)) (fun I6 hI6 af5 cf5 ef6 hF5=>?_)
  cases ef6
  have hre:=hre.mono hI6;have hB0:=hB0.trans hI6
  have hSV:SlV I6 va5 o5.length vc5 (zpj rows k):=⟨o5,hF5,by rw [←hu5];exact hrv.mono hI6⟩
  refine Qg (zM ?_)
  refine zV (Qo rfl zn8 (fun hg=>by exact Cells.g0) rfl) ?_
  refine Qq (ps:=[(0,_)]) (m:=[zdp (⟨(k:Int),(rd.getD k 0),⟨va5,o5.length,vc5⟩⟩:Eh)]) zll rfl (.cons rfl (.nil)) rfl (by simp [Zl]) (by decide) (by decide) rfl rfl (fun b_86=>?_)
  refine QY (v:=_) (ys:=[(⟨(k:Int),(rd.getD k 0),⟨va5,o5.length,vc5⟩⟩:Eh)].flatMap zdp) (L:=Lo) rfl rfl zll hO (by repeat (first | exact .cons .here .nil | exact QD | exact Qx | apply QC | apply QB)) ⟨rfl,fun _=>rfl,by repeat (first | exact zAf | apply zAe | apply zAg)⟩ (zwv _) (by omega) rfl rfl ?_
  intro v9 L9 hO9 _;rw [←List.flatMap_append] at hO9
  refine zA (Qb (Qf (Qa (Qg ?_))))
  refine zB ?_
  refine zM (Qb ?_)
  first
  | exact zm (h:=⟨en3-(k+1),by omega,k+1,_,os++[(⟨(k:Int),(rd.getD k 0),⟨va5,o5.length,vc5⟩⟩:Eh)],us++[(⟨(k:Int),(rd.getD k 0),zpj rows k⟩:En)],L9,rfl,rfl,hB0,rfl,by omega,by rw [List.length_append,List.length_singleton];exact hO9,hre.snoc (v:=(⟨(k:Int),(rd.getD k 0),zpj rows k⟩:En)) ⟨rfl,rfl,hSV⟩,by rw [zmn hyes,hsu],by rw [List.length_append,List.length_singleton];omega⟩)
 have hge_k:en3≤k:=by have h:=hc24;simp at h;omega
 have hke:k=rd.length:=by omega
 subst hke
 refine QI (Qh (Qh (Qk (Qa (zR (zM ?_))))))
 refine zA ?_
 refine zA (zN (Qt ?_))
 first
 | exact ZA rfl rfl rfl (fun w hw=>by obtain ⟨I9,h91,h92,a,c,e9,h94⟩:=OwnS.freeze' hO Zl (by decide) (hw.subL (by exact Zj));exact ⟨_,I9,[],rfl,hIc.trans h91,h92,rfl,a,_,c,by rw [e9,he0],os,h94,by rw [zgy he0,←hsu];exact hre.mono h91⟩)
end
end Go.Proofs.YtodakphagkommaaGreatDoor
namespace Go.Proofs.YtodakphagkommaaGreatDoor.R
section
open Go Go.Kn Go.Proofs
def U1 (x:Sg)(f:Int):Sg:=Ju YC f x
end
section
open Go Go.Kn Go.Proofs
theorem zn8:AgT Tryz.prog 74 3:=.of (by kernel_rfl)
theorem zo2:Fun Tryz.prog 31:=.of Tryz.func31 (by kernel_rfl) (by kernel_rfl)
theorem zoG:SzT Tryz.prog 72 1:=.of (by kernel_rfl)
theorem zpc:SzT Tryz.prog 74 3:=.of (by kernel_rfl)
theorem zwy:Yu Tryz.prog 74 (.agg #[(.int .i64 0),(.int .i64 0),(.slice none 0 0)]):=.of (by kernel_rfl)
end
end Go.Proofs.YtodakphagkommaaGreatDoor.R
namespace Go.Proofs.YtodakphagkommaaGreatDoor
section
open Go Go.Kn Go.Proofs
def nzl (l:List Int):List Int:=l.filter fun c=>c != 0
theorem V7 (a b:List Int):nzl (a++b)=nzl a++nzl b:=List.filter_append ..
theorem zcL (n:Nat):nzl (List.replicate n 0)=[]:=by
 unfold nzl;rw [List.filter_eq_nil_iff];intro a ha;rw [List.eq_of_mem_replicate ha];decide
theorem zlm {l:List Int}(h:∀ c∈l,c≠0):nzl l=l:=by
 unfold nzl;rw [List.filter_eq_self];intro a ha;simpa using h a ha
theorem JS {α:Type}(f g:α→List Int):∀ (l:List α),(∀ a∈l,nzl (f a)=nzl (g a))→nzl (l.flatMap f)=nzl (l.flatMap g)
 | [],_=>rfl
 | a::l,h=>by
  rw [List.flatMap_cons,List.flatMap_cons,V7,V7,h a (List.mem_cons_self ..),JS f g l fun b hb=>h b (List.mem_cons_of_mem _ hb)]
theorem zx0 {l:List Int}{k:Nat}{c:Int}(h:l[k]? =some c)(hc:c≠0):(nzl l)[nzF l k]? =some c:=by
 have hk:=(List.getElem?_eq_some_iff.1 h).1
 have e:l=l.take k++c::l.drop (k+1):=by rw [←ZO h,List.take_append_drop]
 have e2:nzl l=nzl (l.take k)++c::nzl (l.drop (k+1)):=by
  conv=>lhs;rw [e]
  rw [V7];congr 1
  unfold nzl;rw [List.filter_cons,if_pos (by simpa using hc)]
 rw [e2,show nzF l k=(nzl (l.take k)).length from rfl,List.getElem?_append_right (Nat.le_refl _),Nat.sub_self];rfl
def zak (N:Nat)(cs:List Int)(a:Nat)(ps:List (Int×Int))(q:Nat):List Int:=(((Kl (a:Int) ps).filter fun y=>y.1.toNat==q).map fun y=>cs.getD y.2.toNat 0)++(if q<N then [zcQ ps cs q] else [])
theorem zav {a b:List Int}:∀ (f i k:Nat),∀ y∈Kl (i:Int) (paF a b f i k),i≤y.1.toNat
 | 0,i,k,y,hy=>by cases hy
 | f+1,i,k,y,hy=>by
  unfold paF at hy
  split at hy
  ·
   split at hy
   ·
    unfold Kl at hy
    rw [if_pos (by omega)] at hy
    have:=zav f (i+1) (k+1) y hy;omega
   ·
    split at hy
    ·
     unfold Kl at hy
     rw [if_pos (by omega)] at hy
     have:=zav f (i+1) k y hy;omega
    ·
     unfold Kl at hy
     simp only [gt_iff_lt,Int.lt_irrefl,if_false] at hy
     rcases List.mem_cons.1 hy with rfl | hy
     ·
      simp
     ·
      exact zav f i (k+1) y hy
  ·
   cases hy
theorem XL {p:Int×Int}{ps:List (Int×Int)}{cs:List Int}{q:Nat}(h:(p.1==(q:Int)+1&&decide (p.2>0))=false):zcQ (p::ps) cs q=zcQ ps cs q:=by
 unfold zcQ;rw [List.find?_cons,h]
theorem zmH {p:Int×Int}{ps:List (Int×Int)}{cs:List Int}{q:Nat}(h:(p.1==(q:Int)+1&&decide (p.2>0))=true):zcQ (p::ps) cs q=cs.getD (p.2-1).toNat 0:=by
 unfold zcQ;rw [List.find?_cons,h]
theorem zmh {ps:List (Int×Int)}{cs:List Int}{q:Nat}(h:∀ p∈ps,p.1≠(q:Int)+1):zcQ ps cs q=0:=by
 refine zvF ?_
 rw [List.any_eq_false];intro p hp;simp;intro e;exact absurd e (h p hp)
theorem WO {a N:Nat}(h:a≤N):List.range' a (N+1-a)=a::List.range' (a+1) (N+1-(a+1)):=by
 rw [show N+1-a=(N+1-(a+1))+1 by omega];rfl
theorem zbM {T cs:List Int}(hcs:∀ c∈cs,c≠0):∀ (f a k:Nat),a≤T.length→k≤cs.length→T.length-a+(cs.length-k)≤f→nzl ((List.range' a (T.length+1-a)).flatMap (zak T.length cs a (paF T cs f a k)))=cs.drop k
 | 0,a,k,ha,hk,hf=>by
  have e1:cs.drop k=[]:=List.drop_eq_nil_of_le (by omega)
  rw [e1]
  have hz:∀ q∈List.range' a (T.length+1-a),nzl (zak T.length cs a (paF T cs 0 a k) q)=nzl ((fun _=>[]) q):=fun q _=>by
   unfold zak paF
   split<;>rfl
  rw [JS _ (fun _=>[]) _ hz];simp [nzl]
 | f+1,a,k,ha,hk,hf=>by
  unfold paF
  split
  ·
   rename_i hc
   split
   ·
    rename_i hb
    have h1:a<T.length∧k<cs.length:=by unfold WZ at hb;simp at hb;omega
    have ih:=zbM (T:=T) hcs f (a+1) (k+1) (by omega) (by omega) (by omega)
    have hck:cs[k]? =some (cs.getD k 0):=Q4 rfl h1.2
    rw [WO ha,List.flatMap_cons,V7]
    have hrest:∀ q∈List.range' (a+1) (T.length+1-(a+1)),nzl (zak T.length cs a ((((a+1:Nat):Int),((k+1:Nat):Int))::paF T cs f (a+1) (k+1)) q)=nzl (zak T.length cs (a+1) (paF T cs f (a+1) (k+1)) q):=fun q hq=>by
     have hq1:=(List.mem_range'_1.1 hq).1
     unfold zak
     rw [show Kl (a:Int) ((((a+1:Nat):Int),((k+1:Nat):Int))::paF T cs f (a+1) (k+1))=Kl ((a+1:Nat):Int) (paF T cs f (a+1) (k+1)) from if_pos (by show ((a+1:Nat):Int)>0;omega)]
     rw [XL (by simp;omega)]
    rw [JS _ _ _ hrest,ih,ZO hck]
    have hhead:nzl (zak T.length cs a ((((a+1:Nat):Int),((k+1:Nat):Int))::paF T cs f (a+1) (k+1)) a)=[cs.getD k 0]:=by
     unfold zak
     rw [show Kl (a:Int) ((((a+1:Nat):Int),((k+1:Nat):Int))::paF T cs f (a+1) (k+1))=Kl ((a+1:Nat):Int) (paF T cs f (a+1) (k+1)) from if_pos (by show ((a+1:Nat):Int)>0;omega)]
     rw [show (Kl ((a+1:Nat):Int) (paF T cs f (a+1) (k+1))).filter (fun y=>y.1.toNat==a)=[] from List.filter_eq_nil_iff.2 fun y hy=>by have:=zav f (a+1) (k+1) y hy;simp;omega]
     rw [if_pos h1.1,zmH (by simp),show (((((a+1:Nat):Int),((k+1:Nat):Int)):Int×Int).2-1).toNat=k by simp]
     exact zlm (l:=[cs.getD k 0]) fun c hc=>by rw [List.mem_singleton.1 hc];exact hcs _ (List.mem_of_getElem? hck)
    rw [hhead];rfl
   ·
    split
    ·
     rename_i ho
     have h1:a<T.length:=by unfold zgZ at ho;simp at ho;omega
     have ih:=zbM (T:=T) hcs f (a+1) k (by omega) hk (by omega)
     rw [WO ha,List.flatMap_cons,V7]
     have hrest:∀ q∈List.range' (a+1) (T.length+1-(a+1)),nzl (zak T.length cs a ((((a+1:Nat):Int),(0:Int))::paF T cs f (a+1) k) q)=nzl (zak T.length cs (a+1) (paF T cs f (a+1) k) q):=fun q hq=>by
      unfold zak
      rw [show Kl (a:Int) ((((a+1:Nat):Int),(0:Int))::paF T cs f (a+1) k)=Kl ((a+1:Nat):Int) (paF T cs f (a+1) k) from if_pos (by show ((a+1:Nat):Int)>0;omega)]
      rw [XL (by simp)]
     rw [JS _ _ _ hrest,ih]
     have hhead:nzl (zak T.length cs a ((((a+1:Nat):Int),(0:Int))::paF T cs f (a+1) k) a)=[]:=by
      unfold zak
      rw [show Kl (a:Int) ((((a+1:Nat):Int),(0:Int))::paF T cs f (a+1) k)=Kl ((a+1:Nat):Int) (paF T cs f (a+1) k) from if_pos (by show ((a+1:Nat):Int)>0;omega)]
      rw [show (Kl ((a+1:Nat):Int) (paF T cs f (a+1) k)).filter (fun y=>y.1.toNat==a)=[] from List.filter_eq_nil_iff.2 fun y hy=>by have:=zav f (a+1) k y hy;simp;omega]
      rw [if_pos h1,XL (by simp),zmh fun p hp e=>by rcases (zjA (a:=T) (b:=cs) f (a+1) k).1 p hp with h | h<;>omega]
      rfl
     rw [hhead];rfl
    ·
     rename_i hb ho
     have h2:k<cs.length:=zgE ha hk (by simpa using hc) (by simpa using hb) (by simpa using ho)
     have ih:=zbM (T:=T) hcs f a (k+1) ha (by omega) (by omega)
     have hck:cs[k]? =some (cs.getD k 0):=Q4 rfl h2
     rw [WO ha,List.flatMap_cons,V7] at ih ⊢
     have hal:Kl (a:Int) (((0:Int),((k+1:Nat):Int))::paF T cs f a (k+1))=((a:Int),(k:Int))::Kl (a:Int) (paF T cs f a (k+1)):=by
      show (if (0:Int)>0 then _ else ((a:Int),((k+1:Nat):Int)-1)::Kl (a:Int) (paF T cs f a (k+1)))=_
      rw [if_neg (by decide)];congr 2;omega
     have hbs:∀ q,zcQ (((0:Int),((k+1:Nat):Int))::paF T cs f a (k+1)) cs q=zcQ (paF T cs f a (k+1)) cs q:=fun q=>XL (by simp;omega)
     have hrest:∀ q∈List.range' (a+1) (T.length+1-(a+1)),nzl (zak T.length cs a (((0:Int),((k+1:Nat):Int))::paF T cs f a (k+1)) q)=nzl (zak T.length cs a (paF T cs f a (k+1)) q):=fun q hq=>by
      have hq1:=(List.mem_range'_1.1 hq).1
      unfold zak
      rw [hal,hbs,List.filter_cons,if_neg (by simp;omega)]
     rw [JS _ _ _ hrest]
     have hhead:nzl (zak T.length cs a (((0:Int),((k+1:Nat):Int))::paF T cs f a (k+1)) a)=cs.getD k 0::nzl (zak T.length cs a (paF T cs f a (k+1)) a):=by
      unfold zak
      rw [hal,hbs,List.filter_cons,if_pos (by simp),List.map_cons,List.cons_append]
      show nzl (cs.getD ((k:Int)).toNat 0::_)=_
      rw [show ((k:Int)).toNat=k from rfl]
      unfold nzl;rw [List.filter_cons,if_pos (by simpa using hcs _ (List.mem_of_getElem? hck))]
     rw [hhead,ZO hck,List.cons_append,ih]
  ·
   rename_i hc
   have hd:T.length≤a∧cs.length≤k:=by simp at hc;omega
   have e1:cs.drop k=[]:=List.drop_eq_nil_of_le (by omega)
   rw [e1]
   have hz:∀ q∈List.range' a (T.length+1-a),nzl (zak T.length cs a [] q)=nzl ((fun _=>[]) q):=fun q _=>by
    unfold zak
    split<;>rfl
   rw [JS _ (fun _=>[]) _ hz];simp [nzl]
end
section
open Go Go.Kn Go.Proofs
theorem zeC {xs:List Wr}(h:Ut xs=0){x:Wr}(hx:x∈xs):zkU x.rs:=fun r hr=>by
 obtain ⟨_,h1,_⟩:=zra h hx hr
 cases hl:r.lost
 ·
  exact .inr ⟨rfl,by unfold YJ;rw [if_neg (by rw [hl];decide)],zme (h1 hl).1⟩
 ·
  exact .inl ⟨rfl,by unfold YJ;rw [if_pos hl]⟩
theorem zkP {rs:List Rd}(h:zkU rs){r:Rd}(hr:r∈rs):(r.lost=true↔YJ r=8589934592)∧(r.lost=false→Vl (YJ r)=0):=by
 rcases h r hr with ⟨h1,h2⟩ | ⟨h1,h2,h3⟩
 ·
  exact ⟨⟨fun _=>h2,fun _=>h1⟩,fun h4=>by rw [h1] at h4;cases h4⟩
 ·
  obtain ⟨h5,_,_,h8⟩:=zaf h3
  exact ⟨⟨(fun h4=>by rw [h1] at h4;cases h4),fun h4=>by rw [h2] at h4;omega⟩,fun _=>by rw [h2];exact h5⟩
theorem zj6 {rs:List Rd}(h:zkU rs):(rs.map YJ).any zcR=false:=by
 rw [List.any_eq_false]
 intro c hc
 obtain ⟨r,hr,rfl⟩:=List.mem_map.1 hc
 obtain ⟨h1,h2⟩:=zkP h hr
 unfold zcR
 cases hl:r.lost
 ·
  rw [h2 hl];simp
 ·
  rw [h1.1 hl];simp
theorem zm6 (T:List Int):((List.range (T.length+1)).flatMap fun k=>if k<T.length then [T.getD k 0] else [])=T:=by
 rw [List.range_succ,List.flatMap_append]
 have h1:([T.length].flatMap fun k=>if k<T.length then [T.getD k 0] else [])=[]:=by simp
 rw [h1,List.append_nil]
 have h2:∀ (l:List Nat),(∀ k∈l,k<T.length)→(l.flatMap fun k=>if k<T.length then [T.getD k 0] else [])=l.map fun k=>T.getD k 0:=fun l hl=>by
  induction l with
  | nil=>rfl
  | cons a l ih=>rw [List.flatMap_cons,if_pos (hl a (List.mem_cons_self ..)),ih fun k hk=>hl k (List.mem_cons_of_mem _ hk)];rfl
 rw [h2 _ fun k hk=>List.mem_range.1 hk]
 refine List.ext_getElem? fun k=>?_
 rw [List.getElem?_map]
 by_cases hk:k<T.length
 ·
  rw [List.getElem?_range hk,Q4 (d:=0) rfl hk];rfl
 ·
  rw [List.getElem?_eq_none (by simpa using hk),List.getElem?_eq_none (by simpa using hk)];rfl
theorem zv6 {xs:List Wr}(hck:Ut xs=0){i:Nat}{x:Wr}(hv:xs[i]? =some x):nzl (zcN xs i)=x.rs.map YJ:=by
 have hi:=(List.getElem?_eq_some_iff.1 hv).1
 have hcs:csW xs i=x.rs.map YJ:=za9 hv
 obtain ⟨x0,hx0⟩:∃ x0,xs[0]? =some x0:=⟨_,List.getElem?_eq_getElem (by omega)⟩
 have hT:csW xs 0=x0.rs.map YJ:=za9 hx0
 have hR:=zeC hck (List.mem_of_getElem? hv)
 have hR0:=zeC hck (List.mem_of_getElem? hx0)
 have hnz:∀ rs:List Rd,zkU rs→∀ c∈rs.map YJ,c≠0:=fun rs h c hc=>by
  obtain ⟨r,hr,rfl⟩:=List.mem_map.1 hc;have:=(zsU h hr).1;omega
 have h64:∀ y∈xs,y.rs.length≤64:=fun y hy=>by
  unfold Ut at hck
  split at hck
  ·
   omega
  ·
   split at hck
   ·
    omega
   ·
    rename_i hq
    have hq2:∀ x∈xs,x.rs.length≤64:=by simpa using hq
    exact hq2 y hy
 rw [zrx hi]
 unfold ztv
 by_cases h0:i=0
 ·
  subst h0
  have e:x0=x:=by rw [hx0] at hv;exact Option.some.inj hv
  subst e
  rw [JS _ (fun k=>if k<(csW xs 0).length then [(csW xs 0).getD k 0] else []) _ fun k _=>?_,zm6,hT]
  ·
   exact zlm (hnz _ hR)
  ·
   by_cases hk:k<(csW xs 0).length
   ·
    rw [zx6 hk,if_pos hk,V7]
    have:nzl (zrD xs 0 k)=[]:=by
     unfold zrD thW;rw [V7,zcL,List.append_nil,zbu];rfl
    rw [this];rfl
   ·
    rw [zyt hk,if_neg hk]
    unfold zrD thW;rw [V7,zcL,List.append_nil,zbu];rfl
 ·
  have hE:Xv (csW xs 0) (csW xs i)=0:=zkg (by
   rw [hT,hcs,List.length_map,List.length_map]
   have a1:=h64 x0 (List.mem_of_getElem? hx0);have a2:=h64 x (List.mem_of_getElem? hv);omega) (by rw [hT,hcs,zj6 hR0,zj6 hR];rfl)
  have hps:pfW xs i=paF (csW xs 0) (csW xs i) ((csW xs 0).length+(csW xs i).length) 0 0:=by
   unfold pfW;rw [if_neg h0,zgi hE];rfl
  have hall:=zbM (T:=csW xs 0) (cs:=csW xs i) (by rw [hcs];exact hnz _ hR) ((csW xs 0).length+(csW xs i).length) 0 0 (Nat.zero_le _) (Nat.zero_le _) (by omega)
  rw [←hps,List.drop_zero,Nat.sub_zero,←List.range_eq_range'] at hall
  rw [JS _ (zak (csW xs 0).length (csW xs i) 0 (pfW xs i)) _ fun k _=>?_,hall,hcs]
  unfold zlZ ztD zak
  rw [V7,V7,zcL,List.append_nil,V7]
  congr 1
  split
  ·
   first | rfl | rw [if_neg h0]
  ·
   rfl
theorem zfY {xs:List Wr}(hck:Ut xs=0){i k:Nat}{x:Wr}{c:Int}(hv:xs[i]? =some x)(h:(zcN xs i)[k]? =some c)(hc:c≠0):∃ r,x.rs[nzF (zcN xs i) k]? =some r∧YJ r=c∧(r.lost=true↔c=8589934592)∧(r.lost=false→Vl c=0):=by
 have h1:=zx0 h hc
 rw [zv6 hck hv,List.getElem?_map] at h1
 obtain ⟨r,hr,e⟩:=Option.map_eq_some_iff.1 h1
 obtain ⟨h2,h3⟩:=zkP (zeC hck (List.mem_of_getElem? hv)) (List.mem_of_getElem? hr)
 rw [e] at h2 h3
 exact ⟨r,hr,e,h2,h3⟩
end
section
open Go Go.Kn Go.Proofs
theorem zob {p:Int→Bool}:∀ (l:List Int) (j:Nat),VU p j l= -1∨(j:Int)≤VU p j l
 | [],_=>.inl rfl
 | v::vs,j=>by
  unfold VU
  split
  ·
   exact .inr (Int.le_refl _)
  ·
   rcases zob vs (j+1) with h | h
   ·
    exact .inl h
   ·
    exact .inr (by omega)
theorem zh9 {p:Int→Bool}{v:Int}:∀ (l:List Int) (j:Nat),VU p j (l++[v])=if 0≤VU p j l then VU p j l else if p v=true then ((j+l.length:Nat):Int) else -1
 | [],j=>by
  show (if p v=true then (j:Int) else -1)=_
  rw [if_neg (show ¬0≤VU p j [] by unfold VU;omega)];rfl
 | u::l,j=>by
  rw [List.cons_append]
  unfold VU
  by_cases hu:p u=true
  ·
   rw [if_pos hu,if_pos hu,if_pos (by omega)]
  ·
   rw [if_neg hu,if_neg hu,zh9 l (j+1),List.length_cons,show j+1+l.length=j+(l.length+1) by omega]
theorem zcc {p:Int→Bool}{l:List Int}{i:Nat}{v:Int}(h:l[i]? =some v):VU p 0 (l.take (i+1))=if 0≤VU p 0 (l.take i) then VU p 0 (l.take i) else if p v=true then (i:Int) else -1:=by
 have hi:=(List.getElem?_eq_some_iff.1 h).1
 rw [List.take_add_one,h]
 show VU p 0 (l.take i++[v])=_
 rw [zh9,List.length_take,Nat.min_eq_left (by omega),Nat.zero_add]
theorem zfA {p:Int→Bool}{l:List Int}{i:Nat}{v:Int}(h:l[i]? =some v)(hp:p v=false):VU p 0 (l.take (i+1))=VU p 0 (l.take i):=by
 rw [zcc h]
 rcases zob (p:=p) (l.take i) 0 with h1 | h1
 ·
  rw [h1,if_neg (show ¬(0:Int)≤ -1 by decide),hp];rfl
 ·
  rw [if_pos (by omega)]
def atI (ws:List Wr)(rows:List (List Int))(k:Nat)(n:Int):Option Sg:=if 0≤n then some (ydF ws rows n.toNat k).sg else none
structure SgR (ws:List Wr)(rows:List (List Int))(k:Nat)(code:Int)(i:Nat):Prop where
 ex:(sgK ws rows k code i).ex=atI ws rows k (VU (exV code) 0 ((Jb rows k).take i))
 so:(sgK ws rows k code i).so=atI ws rows k (VU okV 0 ((Jb rows k).take i))
 many:(sgK ws rows k code i).many=zhA ((Jb rows k).take i)
 lost:(sgK ws rows k code i).lost=zhv ((Jb rows k).take i)
theorem zpI {ws:List Wr}{rows:List (List Int)}{k:Nat}{code:Int}(hr:∀ i r,rows[i]? =some r→r.getD k 0≠0→((ydF ws rows i k).lost=true↔r.getD k 0=8589934592)):∀ i,i≤rows.length→SgR ws rows k code i
 | 0,_=>⟨rfl,rfl,rfl,rfl⟩
 | i+1,hi=>by
  have ih:=zpI (code:=code) hr i (by omega)
  obtain ⟨r,hri⟩:∃ r,rows[i]? =some r:=⟨_,List.getElem?_eq_getElem (by omega)⟩
  have hcv:=zwE (k:=k) hri
  have hg:(rows.getD i []).getD k 0=r.getD k 0:=by rw [QU hri]
  have htk:(Jb rows k).take (i+1)=(Jb rows k).take i++[r.getD k 0]:=by rw [List.take_add_one,hcv];rfl
  have hmany:zhA ((Jb rows k).take (i+1))=zhA ((Jb rows k).take i)+if okV (r.getD k 0)=true then 1 else 0:=by
   rw [htk];unfold zhA;rw [List.filter_append,List.length_append,List.filter_cons]
   split<;>rfl
  have hlost:zhv ((Jb rows k).take (i+1))=(zhv ((Jb rows k).take i)||(r.getD k 0==8589934592)):=by
   rw [htk];unfold zhv;rw [List.any_append];simp
  have hstep:sgK ws rows k code (i+1)=zd8 code (sgK ws rows k code i) (r.getD k 0) (ydF ws rows i k):=by
   show zd8 code (sgK ws rows k code i) ((rows.getD i []).getD k 0) (ydF ws rows i k)=_
   rw [hg]
  by_cases h0:r.getD k 0=0
  ·
   have hs:sgK ws rows k code (i+1)=sgK ws rows k code i:=by rw [hstep];unfold zd8;rw [if_pos (by rw [h0];rfl)]
   have ho:okV (r.getD k 0)=false:=by rw [h0];rfl
   have he:exV code (r.getD k 0)=false:=by unfold exV;rw [ho];rfl
   have hf:∀ p:Int→Bool,p (r.getD k 0)=false→VU p 0 ((Jb rows k).take (i+1))=VU p 0 ((Jb rows k).take i):=fun p hp=>zfA hcv hp
   exact ⟨by rw [hs,hf _ he];exact ih.ex,by rw [hs,hf _ ho];exact ih.so,by rw [hs,hmany,ho];exact ih.many,by rw [hs,hlost,h0];rw [ih.lost];simp⟩
  ·
   have hc0:¬(r.getD k 0==0)=true:=by simpa using h0
   by_cases hl:(ydF ws rows i k).lost=true
   ·
    have h9:=(hr i r hri h0).1 hl
    have hs:sgK ws rows k code (i+1)= {sgK ws rows k code i with lost:=true}:=by rw [hstep];unfold zd8;rw [if_neg hc0,if_pos hl]
    have ho:okV (r.getD k 0)=false:=by rw [h9];rfl
    have he:exV code (r.getD k 0)=false:=by unfold exV;rw [ho];rfl
    have hf:∀ p:Int→Bool,p (r.getD k 0)=false→VU p 0 ((Jb rows k).take (i+1))=VU p 0 ((Jb rows k).take i):=fun p hp=>zfA hcv hp
    exact ⟨by rw [hs,hf _ he];exact ih.ex,by rw [hs,hf _ ho];exact ih.so,by rw [hs,hmany,ho];exact ih.many,by rw [hs,hlost,h9];simp⟩
   ·
    have h9:¬r.getD k 0=8589934592:=fun e=>hl ((hr i r hri h0).2 e)
    have ho:okV (r.getD k 0)=true:=by
     simp only [okV,bne,beq_false_of_ne h9,beq_false_of_ne h0];rfl
    have he:exV code (r.getD k 0)=(r.getD k 0==code):=by unfold exV;rw [ho];rfl
    have hs:sgK ws rows k code (i+1)=⟨if ((sgK ws rows k code i).ex.isNone&&r.getD k 0==code)=true then some (ydF ws rows i k).sg else (sgK ws rows k code i).ex,orS (sgK ws rows k code i).so (ydF ws rows i k).sg,(sgK ws rows k code i).many+1,(sgK ws rows k code i).lost⟩:=by rw [hstep];unfold zd8;rw [if_neg hc0,if_neg hl]
    refine ⟨?_,?_,?_,?_⟩
    ·
     rw [hs]
     show (if ((sgK ws rows k code i).ex.isNone&&r.getD k 0==code)=true then some (ydF ws rows i k).sg else (sgK ws rows k code i).ex)=_
     rw [ih.ex,zcc hcv,he]
     unfold atI
     by_cases hp:0≤VU (exV code) 0 ((Jb rows k).take i)
     ·
      rw [if_pos hp,if_pos hp,if_neg (by simp),if_pos hp]
     ·
      rw [if_neg hp,if_neg hp]
      by_cases hq:(r.getD k 0==code)=true
      ·
       rw [hq,if_pos rfl,if_pos (show ((none:Option Sg).isNone&&true)=true from rfl),if_pos (by omega)];rfl
      ·
       rw [if_neg hq,if_neg (by simpa using hq),if_neg (by omega)]
    ·
     rw [hs]
     show orS (sgK ws rows k code i).so (ydF ws rows i k).sg=_
     rw [ih.so,zcc hcv,ho,if_pos rfl]
     unfold atI
     by_cases hp:0≤VU okV 0 ((Jb rows k).take i)
     ·
      rw [if_pos hp,if_pos hp,if_pos hp];rfl
     ·
      rw [if_neg hp,if_neg hp,if_pos (by omega)];rfl
    ·
     rw [hs,hmany,ho,if_pos rfl,←ih.many]
    ·
     rw [hs,hlost]
     show (sgK ws rows k code i).lost=_
     rw [ih.lost,beq_false_of_ne h9,Bool.or_false]
theorem zqR {ws:List Wr}{rows:List (List Int)}{k:Nat}{code:Int}(hr:∀ i r,rows[i]? =some r→r.getD k 0≠0→((ydF ws rows i k).lost=true↔r.getD k 0=8589934592))(hc:¬code=0)(hs:¬VU okV 0 (Jb rows k)<0→Vl code=0):zaU ws rows k code=match zqB ws rows k code with | none=>.err | some x=>.sg x:=by
 have h:=zpI (code:=code) hr rows.length (Nat.le_refl _)
 have ht:(Jb rows k).take rows.length=Jb rows k:=List.take_of_length_le (by rw [zs5];exact Nat.le_refl _)
 have hex:=h.ex;have hso:=h.so;have hmn:=h.many;have hlo:=h.lost
 rw [ht] at hex hso hmn hlo
 unfold zaU
 rw [if_neg (by simpa using hc),hex,hso,hmn,hlo]
 unfold zqB
 by_cases h0:VU okV 0 (Jb rows k)<0
 ·
  have h1:=zt8 (code:=code) h0
  rw [if_pos h0]
  unfold atI
  rw [if_neg (by omega),if_neg (by omega)];rfl
 ·
  rw [if_neg h0]
  have hsg:=hs h0
  have hor:(atI ws rows k (VU (exV code) 0 (Jb rows k))).or (atI ws rows k (VU okV 0 (Jb rows k)))=some (ydF ws rows (zlx rows k code).toNat k).sg:=by
   unfold atI zlx
   by_cases h1:0≤VU (exV code) 0 (Jb rows k)
   ·
    rw [if_pos h1,if_pos h1];rfl
   ·
    rw [if_neg h1,if_neg h1,if_pos (by omega)];rfl
  rw [hor]
  show (if (Vl code != 0)=true then Out.err else Out.sg (Uw k code (ydF ws rows (zlx rows k code).toNat k).sg _))=Out.sg _
  rw [if_neg (by rw [hsg];decide)]
  have hm:((decide ((ws.length:Int)>1)&&((zhA (Jb rows k):Nat):Int)==1)&& !zhv (Jb rows k))=zxB ws rows k:=by
   unfold zxB
   rw [show decide ((ws.length:Int)>1)=decide ((ws.length:Int)≥2) from decide_eq_decide.2 (by omega)]
  rw [hm]
end
section
open Go Go.Kn Go.Proofs
theorem XH {rows:List (List Int)}{m:Nat}:∀ {es:List Em} {l:Int},J0 rows m l es=true→∀ e∈es,rsF e.reason e.code (Xo rows e)=true∧l<e.locus
 | e0::es,l,h,e,he=>by
  unfold J0 at h
  rw [Bool.and_eq_true,Bool.not_eq_true'] at h
  obtain ⟨h1,h2⟩:=h
  rw [zql,Bool.or_eq_false_iff,Bool.or_eq_false_iff,Bool.not_eq_false'] at h1
  have h3:l<e0.locus:=by have:=h1.1.1;simp at this;omega
  rcases List.mem_cons.1 he with rfl | he
  ·
   exact ⟨h1.2,h3⟩
  ·
   obtain ⟨a,b⟩:=XH h2 e he
   exact ⟨a,by omega⟩
theorem zlc {k:Nat}:∀ (es:List Em) (n:Int),es.foldl (emF k) n=n∨∃ e∈es,e.locus=(k:Int)∧es.foldl (emF k) n=e.code
 | [],n=>.inl rfl
 | e::es,n=>by
  rw [List.foldl_cons]
  rcases zlc es (emF k n e) with h | ⟨x,hx,h1,h2⟩
  ·
   rw [h]
   unfold emF
   split
   ·
    rename_i he;exact .inr ⟨e,List.mem_cons_self ..,he,rfl⟩
   ·
    exact .inl rfl
  ·
   exact .inr ⟨x,List.mem_cons_of_mem _ hx,h1,h2⟩
section
variable {ws:List Wr} {rows:List (List Int)} {no:Int} {cl:List Int} {es:List Em} {rd:List Int}
theorem zoe (h2:Uv ws=rows)(h0:0<rows.length):rows=(List.range ws.length).map (zcN ws):=by
 unfold Uv at h2
 split at h2
 ·
  subst h2;simp at h0
 ·
  exact h2.symm
theorem zfp (hck:Ut ws=0)(ht:rows=(List.range ws.length).map (zcN ws)){r:List Int}(hr:r∈rows){k:Nat}(h0:r.getD k 0≠0)(hl:r.getD k 0≠8589934592):Vl (r.getD k 0)=0:=by
 rw [ht] at hr
 obtain ⟨i,hi,rfl⟩:=List.mem_map.1 hr
 have hi2:=List.mem_range.1 hi
 obtain ⟨x,hx⟩:∃ x,ws[i]? =some x:=⟨_,List.getElem?_eq_getElem hi2⟩
 obtain ⟨c,hc⟩:∃ c,(zcN ws i)[k]? =some c:=by
  cases e:(zcN ws i)[k]? with
  | none=>rw [List.getD_eq_getElem?_getD,e] at h0;exact absurd rfl h0
  | some c=>exact ⟨c,rfl⟩
 rw [QU hc] at h0 hl ⊢
 obtain ⟨r0,_,_,h3,h4⟩:=zfY hck hx hc h0
 exact h4 (by cases hq:r0.lost;rfl;exact absurd (h3.1 hq) hl)
theorem zhQ (hck:Ut ws=0)(ht:rows=(List.range ws.length).map (zcN ws)){k:Nat}(h0:VM rows cl k≠0):Vl (VM rows cl k)=0:=by
 have hm:VM rows cl k∈JF rows cl k:=by
  unfold VM
  split
  ·
   rename_i h
   obtain ⟨y,hy,e⟩:=List.any_eq_true.1 h
   rw [beq_iff_eq] at e;rw [e];exact hy
  ·
   have:=zb7 (rows:=rows) (cl:=cl) (l:=k)
   exact List.mem_of_getElem? (Q4 (d:=0) rfl this)
 have h1:=zeX.1 (List.mem_filter.1 (show _∈(stE rows k).filter _ from hm)).1
 rcases zbh.1 h1 with h | ⟨⟨r,hr,e⟩,hl⟩
 ·
  exact absurd h h0
 ·
  rw [←e] at h0 hl ⊢;exact zfp hck ht hr h0 hl
theorem zjT (h1:zai ws=0)(h2:Uv ws=rows)(h3:Wc rows no cl es rd=0){k:Nat}{c:Int}(hc:rd[k]? =some c)(h0:c≠0):Vl c=0:=by
 obtain ⟨hlen,_,_,_,_,hcost,hrd⟩:=zcq h1 h2 h3
 obtain ⟨hm,_⟩:=zdf h3
 obtain ⟨hr1,_⟩:=KU (KQ hcost)
 have ht:=zoe h2 (by omega)
 have hck:=(zef h1 (by rw [h2];omega)).1
 have hg:=zfC hm
 rw [hrd] at hc
 unfold Vg at hc
 rw [List.getElem?_map] at hc
 obtain ⟨q,hq,e⟩:=Option.map_eq_some_iff.1 hc
 have hqk:q=k:=by rw [List.getElem?_eq_some_iff] at hq;obtain ⟨_,e⟩:=hq;simpa using e.symm
 subst hqk
 rw [←zc0 hg] at e
 rcases zlc (k:=q) es (VM rows cl q) with h | ⟨em,hem,hl,h⟩
 ·
  rw [h] at e;subst e;exact zhQ hck ht h0
 ·
  rw [h] at e
  obtain ⟨hrs,_⟩:=XH hg em hem
  by_cases e1:em.reason=1
  ·
   rw [zzP e1] at hrs
   simp only [Bool.and_eq_true,bne_iff_ne,ne_eq] at hrs
   obtain ⟨⟨hth,hc0⟩,hcl⟩:=hrs
   unfold Xo at hth
   obtain ⟨r,hr,hv⟩:=List.any_eq_true.1 hth
   rw [beq_iff_eq,hl] at hv
   have hv2:r.getD q 0=em.code:=hv
   rw [←e,←hv2];exact zfp hck ht hr (by rw [hv2];exact hc0) (by rw [hv2];exact hcl)
  ·
   by_cases e2:em.reason=2
   ·
    rw [zz0 e1 e2] at hrs
    simp only [Bool.and_eq_true,beq_iff_eq] at hrs
    rw [←e];exact hrs.2
   ·
    by_cases e3:em.reason=3
    ·
     rw [zzM e1 e2 e3,beq_iff_eq] at hrs
     rw [←e] at h0;exact absurd hrs h0
    ·
     rw [zzS e1 e2 e3] at hrs;cases hrs
end
end
end Go.Proofs.YtodakphagkommaaGreatDoor
namespace Go.Proofs.YtodakphagkommaaGreatDoor.R
section
open Go Go.Kn Go.Proofs
def zpC (p:Pt):Bool:=decide (p.needs.length>80)
def zwe (a b:Bool)(n1 n2 n3 pn vn:Nat):Bool:=(((((!a|| !((b&&decide ((n1:Int)≤40))&&decide ((n2:Int)≤40)))||decide ((n3:Int)>300))||(decide ((pn:Int)>40)&&decide ((pn:Int)≤512)))||decide ((pn:Int)>600))||decide ((vn:Int)>600))
def zbR (ws:List Wr)(rows:List (List Int))(xs:List Int)(es:List Em)(rd:List Int)(ps:List Pt)(vs:List Int):Bool:= !zwe (zxL ws) (zlA rows) xs.length es.length rd.length ps.length vs.length&& !ps.any zpC
section
variable {I:Qu} {av:Option Addr} {n c:Nat} {ws:List Wr} {wt:List Wt} {rows:List (List Int)} {xs:List Int} {es:List Em} {rd:List Int} {ps:List Pt} {vs:List Int} {n1 n2 n3 pn vn:Nat}
theorem ztn (hW:ziV I av n c wt ws)(h1:xs.length=n1)(h2:es.length=n2)(h3:rd.length=n3)(h4:ps.length=pn)(h5:vs.length=vn)(h:zwe (zps wt) (zlA rows) n1 n2 n3 pn vn=true):zbR ws rows xs es rd ps vs=false:=by
 subst h1;subst h2;subst h3;subst h4;subst h5
 rw [zww hW] at h
 unfold zbR;rw [h];rfl
theorem znU (hW:ziV I av n c wt ws)(h1:xs.length=n1)(h2:es.length=n2)(h3:rd.length=n3)(h4:ps.length=pn)(h5:vs.length=vn)(h:zwe (zps wt) (zlA rows) n1 n2 n3 pn vn=false):zbR ws rows xs es rd ps vs=(!ps.any zpC)∧pn≤600:=by
 subst h1;subst h2;subst h3;subst h4;subst h5
 have h6:=h
 rw [zww hW] at h
 refine ⟨by unfold zbR;rw [h];rfl,?_⟩
 unfold zwe at h6
 simp only [Bool.or_eq_false_iff,decide_eq_false_iff_not] at h6
 omega
theorem zkn (h:zbR ws rows xs es rd ps vs=true):ws.length≤5∧(∀ x∈ws,x.rs.length≤8)∧rows.length≤20∧xs.length≤40∧es.length≤40∧rd.length≤300∧(ps.length≤40∨512<ps.length)∧ps.length≤600∧vs.length≤600∧∀ p∈ps,p.needs.length≤80:=by
 unfold zbR at h
 rw [Bool.and_eq_true] at h
 obtain ⟨h1,h2⟩:=h
 have h1:=zrU h1
 unfold zwe at h1
 simp only [Bool.or_eq_false_iff,Bool.and_eq_false_iff,decide_eq_false_iff_not] at h1
 obtain ⟨⟨⟨⟨⟨ha,hb⟩,h3⟩,h4⟩,h5⟩,h6⟩:=h1
 have ha:=ziL ha
 have hb:=ziL hb
 simp only [Bool.and_eq_true,decide_eq_true_eq] at hb
 unfold zxL at ha
 rw [Bool.and_eq_true,decide_eq_true_eq,List.all_eq_true] at ha
 have hr:rows.length≤20:=by
  have h9:=hb.1.1
  unfold zlA at h9
  split at h9
  ·
   simp only [decide_eq_true_eq] at h9;omega
  ·
   omega
 refine ⟨ha.1,fun x hx=>by simpa using ha.2 x hx,hr,by omega,by omega,by omega,by omega,by omega,by omega,fun p hp=>?_⟩
 have h8:=zrU h2
 rw [List.any_eq_false] at h8
 have h7:=h8 p hp
 unfold zpC at h7
 simpa using h7
end
end
section
open Go Go.Kn Go.Proofs
theorem zuL:Fun Tryz.prog 28:=.of Tryz.func28 (by kernel_rfl) (by kernel_rfl)
theorem ztX:Fun Tryz.prog 29:=.of Tryz.func29 (by kernel_rfl) (by kernel_rfl)
theorem ztt {I:Qu}{av:Option Addr}{n c:Nat}{ws:List Wr}(hW0:SlW I av n c ws)(hn:n≤9223372036854775807){bv:Option Addr}{n2 c2:Nat}{rows:List (List Int)}(hVn:SlN I bv n2 c2 rows){ea1:Option Addr}{en1 ec1:Nat}{ea2:Option Addr}{en2 ec2:Nat}{ea3:Option Addr}{en3 ec3:Nat}{xs:List Int}{es:List Em}{rd:List Int}(hX1:Sl I 1 QQ ea1 en1 ec1 xs)(hX2:Sl I 3 YB ea2 en2 ec2 es)(hX3:Sl I 1 QQ ea3 en3 ec3 rd)(no:Int){pv:Option Addr}{pn pc:Nat}{ps:List Pt}(hP:SlP I pv pn pc ps){dv:Option Addr}{n3 c3:Nat}{vs:List Int}(hVs:Sl I 1 QQ dv n3 c3 vs):Zy Tryz.prog 10 [.slice av n c,.slice bv n2 c2,.agg (Z3 no ea1 en1 ec1 ea2 en2 ec2 ea3 en3 ec3).toArray,.slice pv pn pc,.slice dv n3 c3] I (.bool (zbR ws rows xs es rd ps vs)):=by
 intro g H w hw
 refine qe Tryz.func10 Tryz.ntmps10 hw ?_
 obtain ⟨wt,hWH⟩:=id hW0
 have hWl:=hWH.2.1
 have hX1l:=hX1.len
 have hX2l:=hX2.len
 have hX3l:=hX3.len
 have hPl:=hP.len
 have hVl:=hVs.len
 refine zR ?_
 refine Q2 rfl rfl rfl (fun b_7=>?_)
 refine zA ?_
 refine zN (zR ?_)
 refine zM ?_
 refine qc (vs:=[_]) rfl zuL (zu7 hWH.1 hn) ?_
 refine zA ?_
 refine zN (zR ?_)
 refine zM ?_
 refine zF zfE ?_
 refine zL QJ ?_
 refine zF XJ ?_
 refine zL zgM ?_
 refine qc (vs:=[_,_,_]) rfl ztX (zsC hVn _ _ _ _ _ _) ?_
 refine zA (zN (Ql (zR ?_)))
 refine zM ?_
 refine zO ?_
 refine zM ?_
 refine QR 2 rfl rfl rfl ?_
 refine zJ (Qi rfl) ?_
 refine zJ (Ve rfl) ?_
 refine Zo rfl rfl rfl rfl rfl ?_
 refine zM ?_
 refine QR 6 rfl rfl rfl ?_
 refine zJ (Qd rfl Ji) ?_
 refine zJ (Qe rfl QJ (fun hg=>by exact QT.h0 rfl)) ?_
 refine zJ (Zr rfl Qw) ?_
 refine zJ (QG rfl rfl rfl) ?_
 refine Zo rfl rfl rfl rfl rfl ?_
 refine zM ?_
 refine QR 12 rfl rfl rfl ?_
 refine zJ (Qi rfl) ?_
 refine zJ (Zr rfl ZB) ?_
 refine zJ (QG rfl rfl rfl) ?_
 refine zJ (Qi rfl) ?_
 refine QH 16 rfl rfl rfl ?_
 refine zK (Qi rfl) ?_
 refine zK (Zr rfl ZB) ?_
 refine zK (QG rfl rfl rfl) ?_
 refine zjI rfl rfl rfl (.some rfl rfl rfl rfl gbf) rfl rfl ?_
 refine Zo rfl rfl rfl rfl rfl ?_
 refine zM ?_
 refine QR 22 rfl rfl rfl ?_
 refine zJ (Qi rfl) ?_
 refine zJ (Zr rfl ZB) ?_
 refine zJ (QG rfl rfl rfl) ?_
 refine Zo rfl rfl rfl rfl rfl ?_
 refine zM ?_
 refine QR 27 rfl rfl rfl ?_
 refine zJ (Qi rfl) ?_
 refine zJ (Zr rfl Qw) ?_
 refine zJ (QG rfl rfl rfl) ?_
 refine Zo rfl rfl rfl rfl rfl ?_
 refine zN ?_
 refine zI ?_ ?_<;>intro hc53
 ·
  have h53:=ztn hWH hX1l hX2l hX3l hPl hVl hc53
  refine zR (zA (zN (Qt (Qc ?_))))
  exact zr rfl rfl (by rw [h53])
 have h53:=znU hWH hX1l hX2l hX3l hPl hVl hc53
 have hpn6:pn≤600:=h53.2
 refine Qn (Qa (Ql (zR (zA (zN (Qm ?_))))))
 refine zU [(3,_)] (fun T L0 mz E I' loc'=>∃ (k:Nat),mz=pn-k∧E=(13,.int .i64 k)::T∧I=I'∧L0=loc'∧k≤pn∧(ps.take k).any zpC=false) ?_ (h:=⟨0,rfl,rfl,rfl,rfl,Nat.zero_le _,rfl⟩)
 rintro mz E I' loc' ⟨k,rfl,rfl,rfl,rfl,hk,hno⟩
 refine Ql (zR (zM ?_))
 refine zM ?_
 refine zQ ZB ?_
 refine zC (zN ?_)
 refine zI ?_ ?_<;>intro hc57
 ·
  have hlt_k:k<pn:=by have h:=hc57;simp at h;omega
  obtain ⟨p,hp,hN⟩:=hP.at hlt_k
  have hNl:p.needs.length=p.n:=hN.len
  refine Qn (Qa (Ql (Qm (zR (zM ?_)))))
  refine zM ?_
  refine zV (QE rfl rfl ZB hP.1 (fun hg=>by omega)) ?_
  refine zF Ul ?_
  refine zV (Qe rfl QJ (fun hg=>by exact zAj (j:=18) hP.1 hp rfl)) ?_
  refine zQ Qw ?_
  refine zC (zN ?_)
  refine zI ?_ ?_<;>intro hc66
  ·
   have hbg:zpC p=true:=by have h:=hc66;unfold zpC;simp only [decide_eq_true_eq] at h ⊢;omega
   refine zR (zA (zN (Qt (Qp (Qc (Qc (Qp ?_)))))))
   refine Qc ?_
   first
   | exact zr rfl rfl (by rw [h53.1,Kt hp hbg];rfl)
  have hbg:zpC p=false:=by have h:=hc66;unfold zpC;simp only [decide_eq_false_iff_not] at h ⊢;omega
  refine Qn (Qf (Qa (Qg (zM ?_))))
  refine zB ?_
  refine zA (Qb ?_)
  exact zm (h:=⟨pn-(k+1),by omega,k+1,rfl,rfl,rfl,rfl,by omega,Vb hp hno hbg⟩)
 have hge_k:pn≤k:=by have h:=hc57;simp at h;omega
 rw [ZH hPl hge_k] at hno
 refine QI (Qh (Qh (Qk (Qa (zR (zA (zN ?_)))))))
 refine Qt ?_
 first
 | exact zr rfl rfl (by rw [h53.1,hno];rfl)
end
section
open Go Go.Kn Go.Proofs
def zhE (d:Int):Sg:=⟨0,0,0,1,4,1,d,2,0,0,0,1,1,1⟩
def wK:List Wr:=[⟨1,0,[⟨false,zhE 3⟩]⟩,⟨2,0,[⟨false,zhE 4⟩]⟩]
def ptK:Pt:=⟨2,1,0,5,⟨0,0,0,0,0,0,5,0,0,0,0,0,0,0⟩,none,0,0,[]⟩
theorem zzF:zai wK=0:=by kernel_rfl
theorem zzH:Uv wK=[[36110336],[36241408]]:=by kernel_rfl
theorem mK:UT [[36110336],[36241408]] 1 [3] []=0:=by kernel_rfl
theorem rK:Vg [[36110336],[36241408]] [3] []=[36110336]:=by rw [zgl];kernel_rfl
theorem mK9:UT [[7],[9],[7]] 1 [5,7] []=0:=by kernel_rfl
theorem rK9:Vg [[7],[9],[7]] [5,7] []=[7]:=by rw [zgl];kernel_rfl
theorem eK9:Wc [[7],[9],[7]] 1 [5,7] [] [7]=0:=zqE mK9 rK9.symm
theorem nK9:zkr [[7],[9],[7]] [7] 1=[⟨0,7,[⟨7,[0,2]⟩,⟨9,[1]⟩]⟩]:=by kernel_rfl
theorem eK0:Wc [] 0 [] [] []=420:=by rw [ztW (by decide)];kernel_rfl
theorem gK:Km wK [[36110336],[36241408]] 1 [3] [] [36110336]=0∧Vk wK [[36110336],[36241408]] 1 [3] [] [36110336]=[zhE 3]:=zvZ zzF zzH (zqE mK rK.symm) (by kernel_rfl)
section
variable (vs:List Int)
def opK:Int:=zd7 (Km wK [[36110336],[36241408]] 1 [3] [] [36110336]) [ptK] (Vk wK [[36110336],[36241408]] 1 [3] [] [36110336]) vs
def sgK:List Sg:=X5 (onF [ptK]) (Vk wK [[36110336],[36241408]] 1 [3] [] [36110336]) (Z9 [ptK] vs)
end
theorem zxG:opK [2]=0:=by unfold opK;rw [gK.1,gK.2];kernel_rfl
theorem zxN:opK []=0:=by unfold opK;rw [gK.1,gK.2];kernel_rfl
theorem zyZ:orE (opK [2]) (sgK [2]) 0 5=0:=by unfold sgK;rw [zxG,gK.2];kernel_rfl
theorem zxR:orE (opK [2]) (sgK [2]) 0 6=0:=by unfold sgK;rw [zxG,gK.2];kernel_rfl
theorem zyp:orE (opK []) (sgK []) 0 5=0:=by unfold sgK;rw [zxN,gK.2];kernel_rfl
theorem zxQ:orE (opK []) (sgK []) 0 10=440:=by unfold sgK;rw [zxN,gK.2];kernel_rfl
def ogK (vs:List Int)(s f:Int):Og:=zaK (onF [ptK]) [[36110336],[36241408]] [] [36110336] (Z9 [ptK] vs) s f
theorem zx2:orO 0 (ogK [2] 0 5)=⟨3,0,[],[2]⟩:=by kernel_rfl
theorem zyW:orO 0 (ogK [2] 0 6)=⟨1,0,[0],[]⟩:=by kernel_rfl
theorem zxX:orO 0 (ogK [] 0 5)=⟨1,0,[0],[]⟩:=by kernel_rfl
theorem zyO:orO 440 (ogK [] 0 10)=zOg:=by kernel_rfl
theorem zx8:tcF (opK [2]) (ogK [2]) (sgK [2])=[(0,5)]:=by unfold sgK;rw [zxG,gK.2];kernel_rfl
theorem zyk:tcF (opK []) (ogK []) (sgK [])=[]:=by unfold sgK;rw [zxN,gK.2];kernel_rfl
end
section
open Go Go.Kn Go.Proofs
theorem zwW:ElT Tryz.prog 35 65 3 40:=.of (by kernel_rfl)
theorem zo7:ElT Tryz.prog 63 60 15 120:=.of (by kernel_rfl)
theorem zoC:Fun Tryz.prog 11:=.of Tryz.func11 (by kernel_rfl) (by kernel_rfl)
theorem zxh:Fun Tryz.prog 13:=.of Tryz.func13 (by kernel_rfl) (by kernel_rfl)
theorem zcT:Fun Tryz.prog 14:=.of Tryz.func14 (by kernel_rfl) (by kernel_rfl)
theorem zo8:Fun Tryz.prog 16:=.of Tryz.func16 (by kernel_rfl) (by kernel_rfl)
theorem zi6:Fun Tryz.prog 18:=.of Tryz.func18 (by kernel_rfl) (by kernel_rfl)
theorem zt1:Fun Tryz.prog 19:=.of Tryz.func19 (by kernel_rfl) (by kernel_rfl)
theorem zpL:Fun Tryz.prog 26:=.of Tryz.func26 (by kernel_rfl) (by kernel_rfl)
theorem zwG:PlT Tryz.prog 57 #[(0,1),(1,1),(2,1),(3,1),(4,14),(18,1)] (.agg #[(.int .i64 0),(.int .i64 0),(.int .i64 0),(.int .i64 0),(.int .i64 0),(.int .i64 0),(.int .i64 0),(.int .i64 0),(.int .i64 0),(.int .i64 0),(.int .i64 0),(.int .i64 0),(.int .i64 0),(.int .i64 0),(.int .i64 0),(.int .i64 0),(.int .i64 0),(.int .i64 0),(.slice none 0 0)]):=⟨.of (by kernel_rfl),by kernel_rfl,fun w=>by kernel_rfl⟩
theorem zxy:PlT Tryz.prog 60 #[(0,1),(1,14)] (.agg #[(.bool false),(.int .i64 0),(.int .i64 0),(.int .i64 0),(.int .i64 0),(.int .i64 0),(.int .i64 0),(.int .i64 0),(.int .i64 0),(.int .i64 0),(.int .i64 0),(.int .i64 0),(.int .i64 0),(.int .i64 0),(.int .i64 0)]):=⟨.of (by kernel_rfl),by kernel_rfl,fun w=>by kernel_rfl⟩
theorem zpg:PlT Tryz.prog 65 #[(0,1),(1,1),(2,1)] (.agg #[(.int .i64 0),(.int .i64 0),(.slice none 0 0)]):=⟨.of (by kernel_rfl),by kernel_rfl,fun w=>by kernel_rfl⟩
theorem zwM (I:Qu)(d:Int):Zy Tryz.prog 26 [.int .i64 d] I (.agg (JJ ⟨false,zhE d⟩).toArray):=by
 intro g H w hw
 refine qe Tryz.func26 Tryz.ntmps26 hw ?_
 refine zR ?_
 refine Qs zfd rfl rfl (fun b_2=>?_)
 refine zN (zR ?_)
 refine zM ?_
 refine zV (QS (ps:=[(1,_)]) [_,_] zfH rfl rfl) ?_
 refine zV (QS (ps:=[(0,_),(1,_)]) [_,_] zfH rfl rfl) ?_
 refine zV (QS (ps:=[(4,_),(3,_),(5,_),(6,_),(7,_),(10,_),(11,_)]) [_,_,_,_,_,_,_,_,_,_,_,_,_,_] WD rfl rfl) ?_
 refine zV (QS (ps:=[(1,_)]) [_,_,_,_,_,_,_,_,_,_,_,_,_,_,_] zxy rfl rfl) ?_
 refine zh zaH ?_
 refine zN (Qt ?_)
 exact Ys rfl rfl zbb (by repeat (first | exact zAf | apply zAe)) rfl (fun w hw=>⟨rfl,hw.drop⟩)
theorem zlR {I:Qu}{b t n:Nat}(hs:List Hd){vss:List (List Int)}(hn:hs.length=n)(h:I b=some (.cells (hs.flatMap XI).toArray t (0,0)))(r:zdT I hs vss):SlN I (some ⟨b,0,none⟩) n n vss:=⟨hs,Sl.lit hs hn Zb h,r⟩
theorem zgs {I:Qu}{bv av dv:Option Addr}{n2 c2 n c n3 c3:Nat}{rows:List (List Int)}{cl:List Int}{es:List Em}{no:Int}(hV:SlN I bv n2 c2 rows)(hS:Sl I 1 QQ av n c cl)(hE:Sl I 3 YB dv n3 c3 es)(hDb:VT I)(hn2:n2≤100000)(hn:n≤100000)(hn3:n3≤100000){rd:List Int}{k:Nat}
  (he:UT rows no cl es=0)(hr:Vg rows cl es=rd)(hk:rd.length=k):Yf Tryz.prog 25 [.slice bv n2 c2,.int .i64 no,.slice av n c,.slice dv n3 c3] I [] (fun v I' L=>L=[]∧∃ a1 c1 a2 c2 a3 c3,v= .tuple #[.agg (Z3 no a1 n c1 a2 n3 c2 a3 k c3).toArray,.int .i64 0]∧Sl I' 1 QQ a1 n c1 cl∧Sl I' 3 YB a2 n3 c2 es∧Sl I' 1 QQ a3 k c3 rd):=by
 intro g H w hw
 refine (zpJ hS hV hn2 hE hn3 hn hDb no g H w hw).mono ?_
 rintro ed w' ⟨v,I',L',hed,hI,hs,hMQ⟩
 obtain ⟨rfl,no2,cl2,es2,rd2,a1,q1,c1,a2,q2,c9,a3,q3,c3,rfl,hM1,hM2,hM3,hMy, -⟩:=hMQ.opn
 obtain ⟨rfl,rfl,rfl,rfl⟩:=hMy he
 have l1:=hM1.len.symm.trans hS.len;have l2:=hM2.len.symm.trans hE.len
 subst l1;subst l2;subst hk
 rw [hr] at hM3
 have l3:=hM3.len
 subst l3
 exact ⟨_,I',[],hed,hI,hs,rfl,a1,c1,a2,c9,a3,c3,by rw [he],hM1,hM2,hM3⟩
theorem zyg {I:Qu}{bv a1 a2 a3:Option Addr}{c2 c1 c9 c3:Nat}(hV:SlN I bv 3 c2 [[7],[9],[7]])(h1:Sl I 1 QQ a1 2 c1 [5,7])(h2:Sl I 3 YB a2 0 c9 [])(h3:Sl I 1 QQ a3 1 c3 [7])(hDb:VT I):Yf Tryz.prog 11 [.slice bv 3 c2,.agg (Z3 1 a1 2 c1 a2 0 c9 a3 1 c3).toArray] I [] (zxW 0 [⟨0,7,[⟨7,[0,2]⟩,⟨9,[1]⟩]⟩]):=by
 have h:=zc9 hV (by decide) h1 h2 h3 (by decide) (by decide) (by decide) 1 hDb
 rw [eK9,(zgy rfl).trans nK9] at h
 exact h
theorem zuf {I:Qu}(hDb:VT I):Yf Tryz.prog 11 [.slice none 0 0,.agg (Z3 0 none 0 0 none 0 0 none 0 0).toArray] I [] (zxW 420 []):=by
 have h:=zc9 (I:=I) (ea1:=none) (ec1:=0) (ea2:=none) (ec2:=0) (ea3:=none) (ec3:=0) SlN.none (by decide) .nil .nil .nil (by decide) (by decide) (by decide) 0 hDb
 rw [eK0] at h
 exact h
theorem zyG {I:Qu}{av:Option Addr}{c:Nat}(hW:SlW I av 2 c wK):Yf Tryz.prog 27 [.slice av 2 c] I [] (zbg 0 [[36110336],[36241408]]):=by
 have h:=zli hW (by decide)
 rw [zzF,zzH] at h
 exact h
section
variable {I:Qu} {av bv a1 a2 a3 pv dv:Option Addr} {c c2 c1 c9 c3 pc vn vc:Nat} {vs:List Int} (hW:SlW I av 2 c wK) (hV:SlN I bv 2 c2 [[36110336],[36241408]]) (h1:Sl I 1 QQ a1 1 c1 [3]) (h2:Sl I 3 YB a2 0 c9 []) (h3:Sl I 1 QQ a3 1 c3 [36110336]) (hP:SlP I pv 1 pc [ptK]) (hVs:Sl I 1 QQ dv vn vc vs) (hvn:vn≤100000) (hDb:VT I)
include hW hV h1 h2 h3 hP hVs hvn hDb
theorem zxJ {f e:Int}{o:Og}(he:orE (opK vs) (sgK vs) 0 f=e)(ho:orO e (ogK vs 0 f)=o):Yf Tryz.prog 14 [.slice av 2 c,.slice bv 2 c2,.agg (Z3 1 a1 1 c1 a2 0 c9 a3 1 c3).toArray,.slice pv 1 pc,.slice dv vn vc,.int .i64 0,.int .i64 f] I [] (OrQ e o):=by
 subst ho;subst he
 exact zfL hW (by decide) hV (by decide) h1 h2 h3 (by decide) (by decide) (by decide) 1 hP (by decide) hVs hvn hDb 0 f
theorem zzO {e:Int}{l:List (Int×Int)}(he:opK vs=e)(ho:tcF (opK vs) (ogK vs) (sgK vs)=l):Yf Tryz.prog 16 [.slice av 2 c,.slice bv 2 c2,.agg (Z3 1 a1 1 c1 a2 0 c9 a3 1 c3).toArray,.slice pv 1 pc,.slice dv vn vc] I [] (zzL e l):=by
 subst ho;subst he
 exact zjk hW (by decide) hV (by decide) h1 h2 h3 (by decide) (by decide) (by decide) 1 hP (by decide) hVs hvn hDb
end
theorem zeV {I:Qu}{o:Og}{a1:Option Addr}{n1 c1:Nat}{a2:Option Addr}{n2 c2:Nat}(h1:Sl I 1 QQ a1 n1 c1 o.ws)(h2:Sl I 1 QQ a2 n2 c2 o.ps){a3:Option Addr}{n3 c3:Nat}{a4:Option Addr}{n4 c4:Nat}(h3:Sl I 1 QQ a3 n3 c3 o.ws)(h4:Sl I 1 QQ a4 n4 c4 o.ps)(hb1:n1≤100000)(hb2:n2≤100000):Zy Tryz.prog 18 [.agg #[.int .i64 o.k,.int .i64 o.r,.slice a1 n1 c1,.slice a2 n2 c2],.agg #[.int .i64 o.k,.int .i64 o.r,.slice a3 n3 c3,.slice a4 n4 c4]] I (.bool true):=by
 have h:=zsS h1 h2 h3 h4 hb1 hb2
 rw [zmP] at h
 exact h
theorem zqu {I:Qu}{a b:Option Addr}{n c d:Nat}(h1:zfP I a n c [⟨0,7,[⟨7,[0,2]⟩,⟨9,[1]⟩]⟩])(h2:zfP I b 1 d [⟨0,7,[⟨7,[0,2]⟩,⟨9,[1]⟩]⟩]):Zy Tryz.prog 13 [.slice a n c,.slice b 1 d] I (.bool true):=by
 have h:=zlI h1 h2 (by rw [←h1.len];decide) (by decide)
 rw [zcd zlT] at h
 exact h
theorem zsW {I:Qu}{b1 b2 b3 b4:Nat}(h1:I b1=some (.cells (([0,2]:List Int).flatMap QQ).toArray 3 (0,0)))(h2:I b2=some (.cells (([1]:List Int).flatMap QQ).toArray 3 (0,0)))(h3:I b3=some (.cells (([⟨7,⟨some ⟨b1,0,none⟩,2,2⟩⟩,⟨9,⟨some ⟨b2,0,none⟩,1,1⟩⟩]:List Vh).flatMap zbX).toArray 77 (0,0)))
  (h4:I b4=some (.cells (([⟨0,7,⟨some ⟨b3,0,none⟩,2,2⟩⟩]:List Eh).flatMap zdp).toArray 74 (0,0))):zfP I (some ⟨b4,0,none⟩) 1 1 [⟨0,7,[⟨7,[0,2]⟩,⟨9,[1]⟩]⟩]:=
 ⟨_,Sl.lit _ rfl Zl h4,zaX.nil.snoc ⟨rfl,rfl,_,Sl.lit _ rfl Zm h3,(zaX.nil.snoc ⟨rfl,Sl.lit _ rfl Qv h1⟩).snoc ⟨rfl,Sl.lit _ rfl Qv h2⟩⟩⟩
set_option maxRecDepth 100000 in
theorem zwh {I:Qu} (hDb:VT I):Zy Tryz.prog 9 [] I (.bool true):=by
 intro g H w hw
 refine qe Tryz.func9 Tryz.ntmps9 hw ?_
 have hIc:=zAh I
 refine zR (zA ?_)
 refine zN (zR ?_)
 refine Qq (ps:=[(0,_)]) (m:=[QQ 7]) Zh rfl (.cons rfl (.nil)) rfl (by simp [Qv]) (by decide) (by decide) rfl rfl (fun b_26=>?_)
 refine Qq (ps:=[(0,_)]) (m:=[QQ 9]) Zh rfl (.cons rfl (.nil)) rfl (by simp [Qv]) (by decide) (by decide) rfl rfl (fun b_27=>?_)
 refine Qq (ps:=[(0,_)]) (m:=[QQ 7]) Zh rfl (.cons rfl (.nil)) rfl (by simp [Qv]) (by decide) (by decide) rfl rfl (fun b_28=>?_)
 refine Qq (ps:=[(0,_),(1,_),(2,_)]) (m:=[XI ⟨some ⟨b_26,0,none⟩,1,1⟩,XI ⟨some ⟨b_27,0,none⟩,1,1⟩,XI ⟨some ⟨b_28,0,none⟩,1,1⟩]) zbl rfl (.cons rfl (.cons rfl (.cons rfl (.nil)))) rfl (by simp [Zb]) (by decide) (by decide) rfl rfl (fun b_29=>?_)
 refine zA ?_
 refine zN (zR ?_)
 refine zM ?_
 refine Qq (ps:=[(0,_),(1,_)]) (m:=[QQ 5,QQ 7]) Zh rfl (.cons rfl (.cons rfl (.nil))) rfl (by simp [Qv]) (by decide) (by decide) rfl rfl (fun b_32=>?_)
 refine K8 (fun I1 hI1 hall1=>?_)
 have hDb:=hDb.mono hI1;have hIc:=hIc.trans hI1
 have h71:SlN I1 (some ⟨b_29,0,none⟩) 3 3 [[7],[9],[7]]:=zlR (vss:=[[7],[9],[7]]) ([⟨some ⟨b_26,0,none⟩,1,1⟩,⟨some ⟨b_27,0,none⟩,1,1⟩,⟨some ⟨b_28,0,none⟩,1,1⟩]:List Hd) rfl (show _=some (Obj.cells (([⟨some ⟨b_26,0,none⟩,1,1⟩,⟨some ⟨b_27,0,none⟩,1,1⟩,⟨some ⟨b_28,0,none⟩,1,1⟩]:List Hd).flatMap XI).toArray 23 (0,0)) from hall1 _ _ (by repeat (first | exact List.mem_cons_self .. | apply List.mem_cons_of_mem))) (((zdT.nil.snoc (hd:=⟨some ⟨b_26,0,none⟩,1,1⟩) (Sl.lit ([7]:List Int) rfl Qv (show _=some (Obj.cells (([7]:List Int).flatMap QQ).toArray 3 (0,0)) from hall1 _ _ (by repeat (first | exact List.mem_cons_self .. | apply List.mem_cons_of_mem))))).snoc (hd:=⟨some ⟨b_27,0,none⟩,1,1⟩) (Sl.lit ([9]:List Int) rfl Qv (show _=some (Obj.cells (([9]:List Int).flatMap QQ).toArray 3 (0,0)) from hall1 _ _ (by repeat (first | exact List.mem_cons_self .. | apply List.mem_cons_of_mem))))).snoc (hd:=⟨some ⟨b_28,0,none⟩,1,1⟩) (Sl.lit ([7]:List Int) rfl Qv (show _=some (Obj.cells (([7]:List Int).flatMap QQ).toArray 3 (0,0)) from hall1 _ _ (by repeat (first | exact List.mem_cons_self .. | apply List.mem_cons_of_mem)))))
 have hC2:Sl I1 1 QQ (some ⟨b_32,0,none⟩) 2 2 [5,7]:=(Sl.lit ([5,7]:List Int) rfl Qv (show _=some (Obj.cells (([5,7]:List Int).flatMap QQ).toArray 3 (0,0)) from hall1 _ _ (by repeat (first | exact List.mem_cons_self .. | apply List.mem_cons_of_mem))))
 refine Qz (cap:=[]) (vs:=[_,_,_,_]) rfl rfl zjm .nil (zgs (no:=1) (es:=[]) (rd:=[7]) (k:=1) h71 hC2 .nil hDb (by decide) (by decide) (by decide) mK9 rK9 rfl) rfl rfl ?_
 rintro vv2 I2 L2 hI2 ⟨rfl,x1,x2,x3,x4,x5,x6,rfl,hx1,hx2,hx3⟩
 have hDb:=hDb.mono hI2;have h71:=h71.mono hI2;have hIc:=hIc.trans hI2
 refine zM ?_
 refine zE ?_
 refine zE ?_
 refine Qs zmc rfl rfl (fun b_2=>?_)
 refine zh KW ?_
 refine zA ?_
 refine zN (zR ?_)
 refine zM ?_
 refine zV (Qo rfl Z5 (fun hg=>by exact Cells.g0) rfl) ?_
 refine Qz (cap:=[]) (vs:=[_,_]) rfl rfl zoC .nil (zyg h71 hx1 hx2 hx3 hDb) rfl rfl ?_
 rintro vv3 I3 L3 hI3 ⟨rfl,ea,en,ec,rfl,hEn⟩
 have hDb:=hDb.mono hI3;have hIc:=hIc.trans hI3
 refine zM ?_
 refine zE ?_
 refine zE ?_
 refine zA ?_
 refine zA ?_
 refine zN (zR ?_)
 refine zV (QS (ps:=[]) [_,_,_,_] zo0 rfl rfl) ?_
 refine Qz (cap:=[]) (vs:=[_,_]) rfl rfl zoC .nil (zuf hDb) rfl rfl ?_
 rintro vv4 I4 L4 hI4 ⟨rfl,e0a,e0n,e0c,rfl,_⟩
 have hDb:=hDb.mono hI4;have hEn:=hEn.mono hI4;have hIc:=hIc.trans hI4
 refine zM ?_
 refine zE ?_
 refine zE ?_
 refine zA ?_
 refine zA ?_
 refine zN (zR ?_)
 refine qc (vs:=[_]) rfl zpL (zwM _ _) ?_
 refine Qq (ps:=[(0,_)]) (m:=[JJ ⟨false,zhE 3⟩]) zo7 rfl (.cons rfl (.nil)) rfl (by simp [Zs]) (by decide) (by decide) rfl rfl (fun b_48=>?_)
 refine zV (QS (ps:=[(0,_),(2,_)]) [_,_,_] zpg rfl rfl) ?_
 refine qc (vs:=[_]) rfl zpL (zwM _ _) ?_
 refine Qq (ps:=[(0,_)]) (m:=[JJ ⟨false,zhE 4⟩]) zo7 rfl (.cons rfl (.nil)) rfl (by simp [Zs]) (by decide) (by decide) rfl rfl (fun b_51=>?_)
 refine zV (QS (ps:=[(0,_),(2,_)]) [_,_,_] zpg rfl rfl) ?_
 refine Qq (ps:=[(0,_),(1,_)]) (m:=[zlt ⟨1,0,some ⟨b_48,0,none⟩,1,1⟩,zlt ⟨2,0,some ⟨b_51,0,none⟩,1,1⟩]) zwW rfl (.cons rfl (.cons rfl (.nil))) rfl (by simp [ZJ]) (by decide) (by decide) rfl rfl (fun b_53=>?_)
 refine zA ?_
 refine zN (zR ?_)
 refine zM ?_
 refine K8 (fun I5 hI5 hall5=>?_)
 have hDb:=hDb.mono hI5;have hEn:=hEn.mono hI5;have hIc:=hIc.trans hI5
 have hq1:Sl I5 15 JJ (some ⟨b_48,0,none⟩) 1 1 [⟨false,zhE 3⟩]:=Sl.lit ([⟨false,zhE 3⟩]:List Rd) rfl Zs (show _=some (Obj.cells (([⟨false,zhE 3⟩]:List Rd).flatMap JJ).toArray 60 (0,0)) from hall5 _ _ (by repeat (first | exact List.mem_cons_self .. | apply List.mem_cons_of_mem)))
 have hq2:Sl I5 15 JJ (some ⟨b_51,0,none⟩) 1 1 [⟨false,zhE 4⟩]:=Sl.lit ([⟨false,zhE 4⟩]:List Rd) rfl Zs (show _=some (Obj.cells (([⟨false,zhE 4⟩]:List Rd).flatMap JJ).toArray 60 (0,0)) from hall5 _ _ (by repeat (first | exact List.mem_cons_self .. | apply List.mem_cons_of_mem)))
 have hWK:SlW I5 (some ⟨b_53,0,none⟩) 2 2 wK:=⟨[⟨1,0,some ⟨b_48,0,none⟩,1,1⟩,⟨2,0,some ⟨b_51,0,none⟩,1,1⟩],Sl.lit ([⟨1,0,some ⟨b_48,0,none⟩,1,1⟩,⟨2,0,some ⟨b_51,0,none⟩,1,1⟩]:List Wt) rfl ZJ (show _=some (Obj.cells (([⟨1,0,some ⟨b_48,0,none⟩,1,1⟩,⟨2,0,some ⟨b_51,0,none⟩,1,1⟩]:List Wt).flatMap zlt).toArray 65 (0,0)) from hall5 _ _ (by repeat (first | exact List.mem_cons_self .. | apply List.mem_cons_of_mem))),rfl,fun k w x h1 h2=>by
  rcases k with _ | _ | k
  ·
   cases h1;cases h2;exact ⟨rfl,rfl,hq1⟩
  ·
   cases h1;cases h2;exact ⟨rfl,rfl,hq2⟩
  simp at h1⟩
 refine Qz (cap:=[]) (vs:=[_]) rfl rfl zoM .nil (zyG hWK) rfl rfl ?_
 rintro vv6 I6 L6 hI6 ⟨rfl,ta,tc,rfl,hT⟩
 have hDb:=hDb.mono hI6;have hEn:=hEn.mono hI6;have hWK:=hWK.mono hI6;have hIc:=hIc.trans hI6
 refine zM ?_
 refine zE ?_
 refine zE ?_
 refine zA ?_
 refine zA ?_
 refine zN (zR ?_)
 refine zM ?_
 refine Qq (ps:=[(0,_)]) (m:=[QQ 3]) Zh rfl (.cons rfl (.nil)) rfl (by simp [Qv]) (by decide) (by decide) rfl rfl (fun b_61=>?_)
 refine K8 (fun I7 hI7 hall7=>?_)
 have hDb:=hDb.mono hI7;have hEn:=hEn.mono hI7;have hWK:=hWK.mono hI7;have hT:=hT.mono hI7;have hIc:=hIc.trans hI7
 have hC3:Sl I7 1 QQ (some ⟨b_61,0,none⟩) 1 1 [3]:=(Sl.lit ([3]:List Int) rfl Qv (show _=some (Obj.cells (([3]:List Int).flatMap QQ).toArray 3 (0,0)) from hall7 _ _ (by repeat (first | exact List.mem_cons_self .. | apply List.mem_cons_of_mem))))
 refine Qz (cap:=[]) (vs:=[_,_,_,_]) rfl rfl zjm .nil (zgs (no:=1) (es:=[]) (rd:=[36110336]) (k:=1) hT hC3 .nil hDb (by decide) (by decide) (by decide) mK rK rfl) rfl rfl ?_
 rintro vv8 I8 L8 hI8 ⟨rfl,y1,y2,y3,y4,y5,y6,rfl,hy1,hy2,hy3⟩
 have hDb:=hDb.mono hI8;have hEn:=hEn.mono hI8;have hWK:=hWK.mono hI8;have hT:=hT.mono hI8;have hIc:=hIc.trans hI8
 refine zM ?_
 refine zE ?_
 refine zE ?_
 refine Qs zmc rfl rfl (fun b_11=>?_)
 refine zh KW ?_
 refine zA ?_
 refine zN (zR ?_)
 refine zV (QS (ps:=[(6,_)]) [_,_,_,_,_,_,_,_,_,_,_,_,_,_] WD rfl rfl) ?_
 refine zV (QS (ps:=[(0,_),(1,_),(3,_),(4,_)]) [_,_,_,_,_,_,_,_,_,_,_,_,_,_,_,_,_,_,_] zwG rfl rfl) ?_
 refine Qq (ps:=[(0,_)]) (m:=[Yx ptK]) Wd rfl (.cons rfl (.nil)) rfl (by simp [Q0]) (by decide) (by decide) rfl rfl (fun b_67=>?_)
 refine zA ?_
 refine zN (zR ?_)
 refine zM ?_
 refine zM ?_
 refine zV (Qo rfl Z5 (fun hg=>by exact Cells.g1) rfl) ?_
 refine zM ?_
 refine Qq (ps:=[(0,_)]) (m:=[QQ 2]) Zh rfl (.cons rfl (.nil)) rfl (by simp [Qv]) (by decide) (by decide) rfl rfl (fun b_73=>?_)
 refine ZW (b:=b_67) (by repeat (first | exact Q8.here | apply Q8.there)) (fun I9 hI9 h_67=>?_)
 have hDb:=hDb.mono hI9;have hEn:=hEn.mono hI9;have hWK:=hWK.mono hI9;have hT:=hT.mono hI9;have hy1:=hy1.mono hI9;have hy2:=hy2.mono hI9;have hy3:=hy3.mono hI9;have hIc:=hIc.trans hI9
 refine ZW (b:=b_73) (by repeat (first | exact Q8.here | apply Q8.there)) (fun I10 hI10 h_73=>?_)
 have hDb:=hDb.mono hI10;have hEn:=hEn.mono hI10;have hWK:=hWK.mono hI10;have hT:=hT.mono hI10;have hy1:=hy1.mono hI10;have hy2:=hy2.mono hI10;have hy3:=hy3.mono hI10;have hIc:=hIc.trans hI10
 have h_67:=hI10 _ _ h_67
 have hPK:SlP I10 (some ⟨b_67,0,none⟩) 1 1 [ptK]:=⟨Sl.lit ([ptK]:List Pt) rfl Q0 (show _=some (Obj.cells (([ptK]:List Pt).flatMap Yx).toArray 57 (0,0)) from h_67),fun p hp=>by rw [List.mem_singleton] at hp;subst hp;exact .nil⟩
 have hv1:Sl I10 1 QQ (some ⟨b_73,0,none⟩) 1 1 [2]:=Sl.lit ([2]:List Int) rfl Qv (show _=some (Obj.cells (([2]:List Int).flatMap QQ).toArray 3 (0,0)) from h_73)
 refine Qz (cap:=[]) (vs:=[_,_,_,_,_,_,_]) rfl rfl zcT .nil (zxJ (vs:=[2]) hWK hT hy1 hy2 hy3 hPK hv1 (by decide) hDb zyZ zx2) rfl rfl ?_
 rintro vv11 I11 L11 hI11 ⟨rfl,_,rfl,oaA,onA,ocA,obA,omA,odA,rfl,hwA,hzA⟩
 have hDb:=hDb.mono hI11;have hEn:=hEn.mono hI11;have hWK:=hWK.mono hI11;have hT:=hT.mono hI11;have hy1:=hy1.mono hI11;have hy2:=hy2.mono hI11;have hy3:=hy3.mono hI11;have hPK:=hPK.mono hI11;have hIc:=hIc.trans hI11
 refine zM ?_
 refine zE ?_
 refine zE ?_
 refine Qs W6 rfl rfl (fun b_14=>?_)
 refine zh VY ?_
 refine zA ?_
 refine zN (zR ?_)
 refine zM ?_
 refine zM ?_
 refine zV (Qo rfl Z5 (fun hg=>by exact Cells.g1) rfl) ?_
 refine zM ?_
 refine Qq (ps:=[(0,_)]) (m:=[QQ 2]) Zh rfl (.cons rfl (.nil)) rfl (by simp [Qv]) (by decide) (by decide) rfl rfl (fun b_82=>?_)
 refine ZW (b:=b_82) (by repeat (first | exact Q8.here | apply Q8.there)) (fun I12 hI12 h_82=>?_)
 have hDb:=hDb.mono hI12;have hEn:=hEn.mono hI12;have hWK:=hWK.mono hI12;have hT:=hT.mono hI12;have hy1:=hy1.mono hI12;have hy2:=hy2.mono hI12;have hy3:=hy3.mono hI12;have hPK:=hPK.mono hI12;have hwA:=hwA.mono hI12;have hzA:=hzA.mono hI12;have hIc:=hIc.trans hI12
 have hv2:Sl I12 1 QQ (some ⟨b_82,0,none⟩) 1 1 [2]:=Sl.lit ([2]:List Int) rfl Qv (show _=some (Obj.cells (([2]:List Int).flatMap QQ).toArray 3 (0,0)) from h_82)
 refine Qz (cap:=[]) (vs:=[_,_,_,_,_,_,_]) rfl rfl zcT .nil (zxJ (vs:=[2]) hWK hT hy1 hy2 hy3 hPK hv2 (by decide) hDb zxR zyW) rfl rfl ?_
 rintro vv13 I13 L13 hI13 ⟨rfl,_,rfl,oaB,onB,ocB,obB,omB,odB,rfl,hwB,hzB⟩
 have hDb:=hDb.mono hI13;have hEn:=hEn.mono hI13;have hWK:=hWK.mono hI13;have hT:=hT.mono hI13;have hy1:=hy1.mono hI13;have hy2:=hy2.mono hI13;have hy3:=hy3.mono hI13;have hPK:=hPK.mono hI13;have hwA:=hwA.mono hI13;have hzA:=hzA.mono hI13;have hIc:=hIc.trans hI13
 refine zM ?_
 refine zE ?_
 refine zE ?_
 refine Qs W6 rfl rfl (fun b_16=>?_)
 refine zh VY ?_
 refine zA ?_
 refine zN (zR ?_)
 refine zM ?_
 refine zM ?_
 refine zV (Qo rfl Z5 (fun hg=>by exact Cells.g2) rfl) ?_
 refine zM ?_
 refine Qz (cap:=[]) (vs:=[_,_,_,_,_,_,_]) rfl rfl zcT .nil (zxJ (vs:=[]) hWK hT hy1 hy2 hy3 hPK .nil (by decide) hDb zyp zxX) rfl rfl ?_
 rintro vv14 I14 L14 hI14 ⟨rfl,_,rfl,oaC,onC,ocC,obC,omC,odC,rfl,hwC,hzC⟩
 have hDb:=hDb.mono hI14;have hEn:=hEn.mono hI14;have hWK:=hWK.mono hI14;have hT:=hT.mono hI14;have hy1:=hy1.mono hI14;have hy2:=hy2.mono hI14;have hy3:=hy3.mono hI14;have hPK:=hPK.mono hI14;have hwA:=hwA.mono hI14;have hzA:=hzA.mono hI14;have hwB:=hwB.mono hI14;have hzB:=hzB.mono hI14
 have hIc:=hIc.trans hI14
 refine zM ?_
 refine zE ?_
 refine zE ?_
 refine Qs W6 rfl rfl (fun b_18=>?_)
 refine zh VY ?_
 refine zA ?_
 refine zN (zR ?_)
 refine zM ?_
 refine zM ?_
 refine zV (Qo rfl Z5 (fun hg=>by exact Cells.g3) rfl) ?_
 refine zM ?_
 refine Qz (cap:=[]) (vs:=[_,_,_,_,_,_,_]) rfl rfl zcT .nil (zxJ (vs:=[]) hWK hT hy1 hy2 hy3 hPK .nil (by decide) hDb zxQ zyO) rfl rfl ?_
 rintro vv15 I15 L15 hI15 ⟨rfl,_,rfl,oaD,onD,ocD,obD,omD,odD,rfl,hwD,hzD⟩
 have hDb:=hDb.mono hI15;have hEn:=hEn.mono hI15;have hWK:=hWK.mono hI15;have hT:=hT.mono hI15;have hy1:=hy1.mono hI15;have hy2:=hy2.mono hI15;have hy3:=hy3.mono hI15;have hPK:=hPK.mono hI15;have hwA:=hwA.mono hI15;have hzA:=hzA.mono hI15;have hwB:=hwB.mono hI15;have hzB:=hzB.mono hI15
 have hwC:=hwC.mono hI15;have hzC:=hzC.mono hI15;have hIc:=hIc.trans hI15
 refine zM ?_
 refine zE ?_
 refine zE ?_
 refine Qs W6 rfl rfl (fun b_20=>?_)
 refine zh VY ?_
 refine zA ?_
 refine zN (zR ?_)
 refine zM ?_
 refine zM ?_
 refine zV (Qo rfl Z5 (fun hg=>by exact Cells.g4) rfl) ?_
 refine zM ?_
 refine Qq (ps:=[(0,_)]) (m:=[QQ 2]) Zh rfl (.cons rfl (.nil)) rfl (by simp [Qv]) (by decide) (by decide) rfl rfl (fun b_107=>?_)
 refine ZW (b:=b_107) (by repeat (first | exact Q8.here | apply Q8.there)) (fun I16 hI16 h_107=>?_)
 have hDb:=hDb.mono hI16;have hEn:=hEn.mono hI16;have hWK:=hWK.mono hI16;have hT:=hT.mono hI16;have hy1:=hy1.mono hI16;have hy2:=hy2.mono hI16;have hy3:=hy3.mono hI16;have hPK:=hPK.mono hI16;have hwA:=hwA.mono hI16;have hzA:=hzA.mono hI16;have hwB:=hwB.mono hI16;have hzB:=hzB.mono hI16
 have hwC:=hwC.mono hI16;have hzC:=hzC.mono hI16;have hIc:=hIc.trans hI16
 have hv3:Sl I16 1 QQ (some ⟨b_107,0,none⟩) 1 1 [2]:=Sl.lit ([2]:List Int) rfl Qv (show _=some (Obj.cells (([2]:List Int).flatMap QQ).toArray 3 (0,0)) from h_107)
 refine Qz (cap:=[]) (vs:=[_,_,_,_,_]) rfl rfl zo8 .nil (zzO (vs:=[2]) hWK hT hy1 hy2 hy3 hPK hv3 (by decide) hDb zxG zx8) rfl rfl ?_
 rintro vv17 I17 L17 hI17 ⟨rfl,taA,tcA,rfl,hprA⟩
 have hDb:=hDb.mono hI17;have hEn:=hEn.mono hI17;have hWK:=hWK.mono hI17;have hT:=hT.mono hI17;have hy1:=hy1.mono hI17;have hy2:=hy2.mono hI17;have hy3:=hy3.mono hI17;have hPK:=hPK.mono hI17;have hwA:=hwA.mono hI17;have hzA:=hzA.mono hI17;have hwB:=hwB.mono hI17;have hzB:=hzB.mono hI17
 have hwC:=hwC.mono hI17;have hzC:=hzC.mono hI17;have hIc:=hIc.trans hI17
 refine zM ?_
 refine zE ?_
 refine zE ?_
 refine zA ?_
 refine zA ?_
 refine zN (zR ?_)
 refine zM ?_
 refine zM ?_
 refine zV (Qo rfl Z5 (fun hg=>by exact Cells.g4) rfl) ?_
 refine zM ?_
 refine Qz (cap:=[]) (vs:=[_,_,_,_,_]) rfl rfl zo8 .nil (zzO (vs:=[]) hWK hT hy1 hy2 hy3 hPK .nil (by decide) hDb zxN zyk) rfl rfl ?_
 rintro vv18 I18 L18 hI18 ⟨rfl,taB,tcB,rfl,hprB⟩
 have hEn:=hEn.mono hI18;have hwA:=hwA.mono hI18;have hzA:=hzA.mono hI18;have hwB:=hwB.mono hI18;have hzB:=hzB.mono hI18;have hwC:=hwC.mono hI18;have hzC:=hzC.mono hI18;have hprA:=hprA.mono hI18;have hIc:=hIc.trans hI18
 refine zM ?_
 refine zE ?_
 refine zE ?_
 refine zA ?_
 refine zA (zN (Ql (zR ?_)))
 refine zM ?_
 refine zC ?_
 refine zM ?_
 refine QR 2 rfl rfl rfl ?_
 refine zJ (Qi rfl) ?_
 refine zJ (QG rfl rfl rfl) ?_
 refine Zo rfl rfl rfl rfl rfl ?_
 refine zM ?_
 refine QR 6 rfl rfl rfl ?_
 refine zJ (Qi rfl) ?_
 refine zJ (QG rfl rfl rfl) ?_
 refine Zo rfl rfl rfl rfl rfl ?_
 refine zM ?_
 refine QR 10 rfl rfl rfl ?_
 refine zJ (Qi rfl) ?_
 refine zJ (QG rfl rfl rfl) ?_
 refine Zo rfl rfl rfl rfl rfl ?_
 refine zM ?_
 refine QR 14 rfl rfl rfl ?_
 refine zJ (Qi rfl) ?_
 refine zJ (QG rfl rfl rfl) ?_
 refine Zo rfl rfl rfl rfl rfl ?_
 refine zM ?_
 refine QR 18 rfl rfl rfl ?_
 refine zJ (Qi rfl) ?_
 refine zJ (QG rfl rfl rfl) ?_
 refine Zo rfl rfl rfl rfl rfl ?_
 refine zM ?_
 refine QR 22 rfl rfl rfl ?_
 refine zJ (Qi rfl) ?_
 refine zJ (QG rfl rfl rfl) ?_
 refine Zo rfl rfl rfl rfl rfl ?_
 refine zM ?_
 refine QR 26 rfl rfl rfl ?_
 refine zJ (Qi rfl) ?_
 refine zJ (QG rfl rfl rfl) ?_
 refine Zo rfl rfl rfl rfl rfl ?_
 refine zM ?_
 refine QR 30 rfl rfl rfl ?_
 refine zJ (Qi rfl) ?_
 refine zJ (QG rfl rfl rfl) ?_
 refine Zo rfl rfl rfl rfl rfl ?_
 refine zM ?_
 refine QR 34 rfl rfl rfl ?_
 refine zJ (Qi rfl) ?_
 refine zJ (QG rfl rfl rfl) ?_
 refine Zo rfl rfl rfl rfl rfl ?_
 refine zM ?_
 refine QR 38 rfl rfl rfl ?_
 refine zJ (Qi rfl) ?_
 refine zJ (QG rfl rfl rfl) ?_
 refine Zo rfl rfl rfl rfl rfl ?_
 refine zM ?_
 refine QR 42 rfl rfl rfl ?_
 refine zJ (Qi rfl) ?_
 refine zJ (Zr rfl Uy) ?_
 refine zJ (QG rfl rfl rfl) ?_
 refine Zo rfl rfl rfl rfl rfl ?_
 refine zN ?_
 refine zI ?_ ?_<;>intro hc165
 ·
  exact absurd hc165 (by decide)
 refine Qn (Qa (Ql (zR (zM ?_))))
 refine Qq (ps:=[(0,_),(1,_)]) (m:=[QQ 0,QQ 2]) Zh rfl (.cons rfl (.cons rfl (.nil))) rfl (by simp [Qv]) (by decide) (by decide) rfl rfl (fun b_167=>?_)
 refine zV (QS (ps:=[(0,_),(1,_)]) [_,_] zjf rfl rfl) ?_
 refine Qq (ps:=[(0,_)]) (m:=[QQ 1]) Zh rfl (.cons rfl (.nil)) rfl (by simp [Qv]) (by decide) (by decide) rfl rfl (fun b_169=>?_)
 refine zV (QS (ps:=[(0,_),(1,_)]) [_,_] zjf rfl rfl) ?_
 refine Qq (ps:=[(0,_),(1,_)]) (m:=[zbX ⟨7,⟨some ⟨b_167,0,none⟩,2,2⟩⟩,zbX ⟨9,⟨some ⟨b_169,0,none⟩,1,1⟩⟩]) zkO rfl (.cons rfl (.cons rfl (.nil))) rfl (by simp [Zm]) (by decide) (by decide) rfl rfl (fun b_171=>?_)
 refine zV (QS (ps:=[(1,_),(2,_)]) [_,_,_] zn4 rfl rfl) ?_
 refine Qq (ps:=[(0,_)]) (m:=[zdp ⟨0,7,⟨some ⟨b_171,0,none⟩,2,2⟩⟩]) zll rfl (.cons rfl (.nil)) rfl (by simp [Zl]) (by decide) (by decide) rfl rfl (fun b_173=>?_)
 refine ZW (b:=b_167) (by repeat (first | exact Q8.here | apply Q8.there)) (fun I19 hI19 h_167=>?_)
 have hEn:=hEn.mono hI19;have hwA:=hwA.mono hI19;have hzA:=hzA.mono hI19;have hwB:=hwB.mono hI19;have hzB:=hzB.mono hI19;have hwC:=hwC.mono hI19;have hzC:=hzC.mono hI19;have hprA:=hprA.mono hI19;have hIc:=hIc.trans hI19
 refine ZW (b:=b_169) (by repeat (first | exact Q8.here | apply Q8.there)) (fun I20 hI20 h_169=>?_)
 have hEn:=hEn.mono hI20;have hwA:=hwA.mono hI20;have hzA:=hzA.mono hI20;have hwB:=hwB.mono hI20;have hzB:=hzB.mono hI20;have hwC:=hwC.mono hI20;have hzC:=hzC.mono hI20;have hprA:=hprA.mono hI20;have hIc:=hIc.trans hI20
 have h_167:=hI20 _ _ h_167
 refine ZW (b:=b_171) (by repeat (first | exact Q8.here | apply Q8.there)) (fun I21 hI21 h_171=>?_)
 have hEn:=hEn.mono hI21;have hwA:=hwA.mono hI21;have hzA:=hzA.mono hI21;have hwB:=hwB.mono hI21;have hzB:=hzB.mono hI21;have hwC:=hwC.mono hI21;have hzC:=hzC.mono hI21;have hprA:=hprA.mono hI21;have hIc:=hIc.trans hI21
 have h_167:=hI21 _ _ h_167
 have h_169:=hI21 _ _ h_169
 refine ZW (b:=b_173) (by repeat (first | exact Q8.here | apply Q8.there)) (fun I22 hI22 h_173=>?_)
 have hEn:=hEn.mono hI22;have hwA:=hwA.mono hI22;have hzA:=hzA.mono hI22;have hwB:=hwB.mono hI22;have hzB:=hzB.mono hI22;have hwC:=hwC.mono hI22;have hzC:=hzC.mono hI22;have hprA:=hprA.mono hI22;have hIc:=hIc.trans hI22
 have h_167:=hI22 _ _ h_167
 have h_169:=hI22 _ _ h_169
 have h_171:=hI22 _ _ h_171
 have hOE:=zsW h_167 h_169 h_171 h_173
 refine qc (vs:=[_,_]) rfl zxh (zqu hEn hOE) ?_
 refine zO ?_
 refine zM ?_
 refine QN (dj:=176) rfl rfl rfl ?_
 refine zM ?_
 refine QN (dj:=176) rfl rfl rfl ?_
 refine zV (Zz (ps:=[(0,_),(1,_)]) [_,_] Y0 Ub rfl rfl) ?_
 refine QN (dj:=176) rfl rfl rfl ?_
 refine Qq (ps:=[(0,_)]) (m:=[V8 ((0:Int),(5:Int))]) Kb rfl (.cons rfl (.nil)) rfl (by simp [V8]) (by decide) (by decide) rfl rfl (fun b_179=>?_)
 refine ZW (b:=b_179) (by repeat (first | exact Q8.here | apply Q8.there)) (fun I23 hI23 h_179=>?_)
 have hwA:=hwA.mono hI23;have hzA:=hzA.mono hI23;have hwB:=hwB.mono hI23;have hzB:=hzB.mono hI23;have hwC:=hwC.mono hI23;have hzC:=hzC.mono hI23;have hprA:=hprA.mono hI23;have hIc:=hIc.trans hI23
 have hOP:Sl I23 2 V8 (some ⟨b_179,0,none⟩) 1 1 [((0:Int),(5:Int))]:=Sl.lit _ rfl (fun _=>rfl) h_179
 refine QN (dj:=176) rfl rfl rfl ?_
 refine qc (vs:=[_,_]) rfl zt1 (zrQ hprA hOP (by decide)) ?_
 refine QN (dj:=176) rfl rfl rfl ?_
 refine zO ?_
 refine zV (ZN rfl rfl rfl) ?_
 refine zN ?_
 refine zI ?_ ?_<;>intro hc182
 ·
  exact absurd hc182 (by decide)
 refine Qn (Qa (zR ?_))
 refine zV (Qo rfl Y6 (fun hg=>by exact Cells.g3) rfl) ?_
 refine Qq (ps:=[(0,_)]) (m:=[QQ 2]) Zh rfl (.cons rfl (.nil)) rfl (by simp [Qv]) (by decide) (by decide) rfl rfl (fun b_184=>?_)
 refine zV (QS (ps:=[(0,_),(3,_)]) [_,_,_,_] zaS rfl rfl) ?_
 refine ZW (b:=b_184) (by repeat (first | exact Q8.here | apply Q8.there)) (fun I24 hI24 h_184=>?_)
 have hwA:=hwA.mono hI24;have hzA:=hzA.mono hI24;have hwB:=hwB.mono hI24;have hzB:=hzB.mono hI24;have hwC:=hwC.mono hI24;have hzC:=hzC.mono hI24;have hIc:=hIc.trans hI24
 have hv4:Sl I24 1 QQ (some ⟨b_184,0,none⟩) 1 1 [2]:=Sl.lit ([2]:List Int) rfl Qv (show _=some (Obj.cells (([2]:List Int).flatMap QQ).toArray 3 (0,0)) from h_184)
 refine qc (vs:=[_,_]) rfl zi6 (zeV hwA hzA .nil hv4 (by rw [←hwA.len];decide) (by rw [←hzA.len];decide)) ?_
 refine zM ?_
 refine QN (dj:=187) rfl rfl rfl ?_
 refine zV (Qo rfl Y6 (fun hg=>by exact Cells.g2) rfl) ?_
 refine QN (dj:=187) rfl rfl rfl ?_
 refine Qq (ps:=[(0,_)]) (m:=[QQ 0]) Zh rfl (.cons rfl (.nil)) rfl (by simp [Qv]) (by decide) (by decide) rfl rfl (fun b_189=>?_)
 refine QN (dj:=187) rfl rfl rfl ?_
 refine zV (QS (ps:=[(0,_),(2,_)]) [_,_,_,_] zaS rfl rfl) ?_
 refine ZW (b:=b_189) (by repeat (first | exact Q8.here | apply Q8.there)) (fun I25 hI25 h_189=>?_)
 have hwB:=hwB.mono hI25;have hzB:=hzB.mono hI25;have hwC:=hwC.mono hI25;have hzC:=hzC.mono hI25;have hIc:=hIc.trans hI25
 have hv5:Sl I25 1 QQ (some ⟨b_189,0,none⟩) 1 1 [0]:=Sl.lit ([0]:List Int) rfl Qv (show _=some (Obj.cells (([0]:List Int).flatMap QQ).toArray 3 (0,0)) from h_189)
 refine QN (dj:=187) rfl rfl rfl ?_
 refine qc (vs:=[_,_]) rfl zi6 (zeV hwB hzB hv5 .nil (by rw [←hwB.len];decide) (by rw [←hzB.len];decide)) ?_
 refine zV (ZN rfl rfl rfl) ?_
 refine zM ?_
 refine QN (dj:=193) rfl rfl rfl ?_
 refine zV (Qo rfl Y6 (fun hg=>by exact Cells.g1) rfl) ?_
 refine QN (dj:=193) rfl rfl rfl ?_
 refine Qq (ps:=[(0,_)]) (m:=[QQ 0]) Zh rfl (.cons rfl (.nil)) rfl (by simp [Qv]) (by decide) (by decide) rfl rfl (fun b_195=>?_)
 refine QN (dj:=193) rfl rfl rfl ?_
 refine zV (QS (ps:=[(0,_),(2,_)]) [_,_,_,_] zaS rfl rfl) ?_
 refine ZW (b:=b_195) (by repeat (first | exact Q8.here | apply Q8.there)) (fun I26 hI26 h_195=>?_)
 have hwC:=hwC.mono hI26;have hzC:=hzC.mono hI26;have hIc:=hIc.trans hI26
 have hv6:Sl I26 1 QQ (some ⟨b_195,0,none⟩) 1 1 [0]:=Sl.lit ([0]:List Int) rfl Qv (show _=some (Obj.cells (([0]:List Int).flatMap QQ).toArray 3 (0,0)) from h_195)
 refine QN (dj:=193) rfl rfl rfl ?_
 refine qc (vs:=[_,_]) rfl zi6 (zeV hwC hzC hv6 .nil (by rw [←hwC.len];decide) (by rw [←hzC.len];decide)) ?_
 refine zV (ZN rfl rfl rfl) ?_
 refine zA (zN (Qt ?_))
 exact zp hIc rfl rfl (by rfl)
end
section
open Go Go.Kn Go.Proofs
theorem Wy {p:Int→Bool}:∀ (l:List Int) (j:Nat),VU p j l=match l.findIdx? p with | some i=>((j+i:Nat):Int) | none=> -1
 | [],j=>rfl
 | v::vs,j=>by
  unfold VU
  rw [List.findIdx?_cons]
  cases h:p v with
  | true=>simp
  | false=>
   simp only [Bool.false_eq_true,if_false]
   rw [Wy vs (j+1)]
   cases vs.findIdx? p with
   | none=>rfl
   | some i=>simp only [Option.map_some];congr 1;omega
theorem zfR {α:Type}{p:α→Bool}{xs:List α}:Uk p xs=match xs.findIdx? p with | some i=>(i:Int) | none=> -1:=by
 cases h:xs.any p with
 | false=>rw [zqe h];unfold Uk;rw [h];rfl
 | true=>
  obtain ⟨i,x,h1,h2,h3,h4⟩:=zc2 h
  rw [zoh h4 h2 h3,h1]
section
variable {ws:List Wr} {rows:List (List Int)} {no:Int} {cl:List Int} {es:List Em} {rd:List Int}
theorem Xz {q:Nat}{p:Int→Bool}:(Jb rows q).findIdx? p=rows.findIdx? fun r=>p (r.getD q 0):=by
 unfold Jb;rw [List.findIdx?_map];rfl
theorem zi9 {q:Nat}:(fun r:List Int=>okV (r.getD q 0))=zoB q:=by funext r;unfold okV zoB;rw [Bool.and_comm]
theorem zxt {c:Int}(h0:c≠0)(hl:c≠8589934592):exV c=fun v=>v==c:=by
 funext v
 unfold exV okV
 cases h:v==c with
 | false=>rw [Bool.and_false]
 | true=>rw [beq_iff_eq] at h;subst h;simp [h0,hl]
theorem zq9 {q:Nat}{c:Int}(h0:c≠0)(hl:c≠8589934592)(h:¬VU okV 0 (Jb rows q)<0):zlx rows q c=(ztH rows q c:Int):=by
 unfold zlx ztH
 rw [zxt h0 hl]
 rw [Wy,Wy,Xz,Xz,zi9]
 rw [Wy,Xz,zi9] at h
 cases h1:rows.findIdx? fun r=>r.getD q 0==c with
 | some i=>simp only;rw [if_pos (by omega)];simp
 | none=>
  simp only
  rw [if_neg (by decide)]
  cases h2:rows.findIdx? (zoB q) with
  | some i=>simp
  | none=>rw [h2] at h;exact absurd (by decide) h
theorem ztu {q:Nat}{c:Int}(h:¬VU okV 0 (Jb rows q)<0):zkF rows q c=(ztH rows q c:Int):=by
 unfold zkF ztH
 rw [zfR,zfR]
 rw [Wy,Xz,zi9] at h
 cases h1:rows.findIdx? fun r=>r.getD q 0==c with
 | some i=>simp only;rw [if_neg (by omega)]
 | none=>
  simp only
  rw [if_pos (by decide)]
  cases h2:rows.findIdx? (zoB q) with
  | some i=>simp
  | none=>rw [h2] at h;exact absurd (by decide) h
structure BsI (ws:List Wr)(rows:List (List Int))(rd:List Int)(x:Sg)(q:Nat):Prop where
 id:x.id=(q:Int)
 lt:q<rd.length
 len:∀ r∈rows,r.length=rd.length
 wl:rows.length=ws.length
 nz:rd.getD q 0≠0
 nl:rd.getD q 0≠8589934592
 se:Vl (rd.getD q 0)=0
 ok:¬VU okV 0 (Jb rows q)<0
 put:∃ (i:Nat) (w:Wr) (r:List Int) (y:Rd) (m:Bool),ztH rows q (rd.getD q 0)=i∧ws[i]? =some w∧rows[i]? =some r∧r.getD q 0≠0∧w.rs[nzF r q]? =some y∧y.lost=false∧x=Uw q (rd.getD q 0) y.sg m
 read:∀ (i:Nat) (w:Wr) (r:List Int),ws[i]? =some w→rows[i]? =some r→r.getD q 0≠0→∃ y,w.rs[nzF r q]? =some y∧YJ y=r.getD q 0∧(y.lost=true↔r.getD q 0=8589934592)
theorem zp7 (h:Km ws rows no cl es rd=0){x:Sg}(hx:x∈Vk ws rows no cl es rd):∃ q:Nat,BsI ws rows rd x q:=by
 obtain ⟨h1,h2,h3,h4⟩:=zgY h
 obtain ⟨q,a,b,c⟩:=zbJ h4 x hx
 obtain ⟨hlen,hrl,_,hnz,_,hcost,hrd⟩:=zcq h1 h2 h3
 obtain ⟨hr1,_⟩:=KU (KQ hcost)
 have ht:=zoe h2 (by omega)
 have hck:=(zef h1 (by rw [h2];omega)).1
 have h0:rd.getD q 0≠0:=by
  intro e
  unfold zaU at c
  rw [if_pos (by rw [e];rfl)] at c
  cases c
 have hc:rd[q]? =some (rd.getD q 0):=Q4 rfl a
 have hse:=zjT h1 h2 h3 hc h0
 have hnl:rd.getD q 0≠8589934592:=by have:=(zdK hse).2.2.2;omega
 have hread:∀ (i:Nat) (w:Wr) (r:List Int),ws[i]? =some w→rows[i]? =some r→r.getD q 0≠0→∃ y,w.rs[nzF r q]? =some y∧YJ y=r.getD q 0∧(y.lost=true↔r.getD q 0=8589934592):=fun i w r hw hr hn=>by
  have hi:=(List.getElem?_eq_some_iff.1 hr).1
  have hr2:r=zcN ws i:=by
   rw [ht,List.getElem?_map,List.getElem?_range (by omega)] at hr;exact (Option.some.inj hr).symm
  obtain ⟨c,hc⟩:∃ c,r[q]? =some c:=⟨_,Q4 (d:=0) rfl (by rw [hrl r (List.mem_of_getElem? hr)];exact a)⟩
  rw [QU hc] at hn ⊢
  rw [hr2] at hc ⊢
  obtain ⟨r0,e1,e2,e3,_⟩:=zfY hck hw hc hn
  exact ⟨r0,e1,e2,e3⟩
 have ho:=zqR (ws:=ws) (rows:=rows) (k:=q) (code:=rd.getD q 0) (fun i r hr hn=>by
  have hi:=(List.getElem?_eq_some_iff.1 hr).1
  obtain ⟨w,hw⟩:∃ w,ws[i]? =some w:=⟨_,List.getElem?_eq_getElem (by omega)⟩
  obtain ⟨y,e1,_,e3⟩:=hread i w r hw hr hn
  rw [zvN hw hr,QU e1];exact e3) h0 (fun _=>hse)
 rw [c] at ho
 cases hrs:zqB ws rows q (rd.getD q 0) with
 | none=>rw [hrs] at ho;cases ho
 | some x'=>
  rw [hrs] at ho
  simp only [Out.sg.injEq] at ho
  subst ho
  have hok:¬VU okV 0 (Jb rows q)<0:=fun e=>by rw [zuI e] at hrs;cases hrs
  obtain ⟨i,r,hwi,hr,hrz⟩:=zxm (code:=rd.getD q 0) hok
  have hi:=(List.getElem?_eq_some_iff.1 hr).1
  obtain ⟨w,hw⟩:∃ w,ws[i]? =some w:=⟨_,List.getElem?_eq_getElem (by omega)⟩
  obtain ⟨y,e1,e2,e3⟩:=hread i w r hw hr hrz
  have hyd:ydF ws rows i q=y:=by rw [zvN hw hr,QU e1]
  rw [zta hok hwi hyd rfl] at hrs
  have hu:=zq9 (rows:=rows) h0 hnl hok
  rw [hwi] at hu
  have hu2:ztH rows q (rd.getD q 0)=i:=by omega
  -- the witness taken has a sign there
  have hokr:okV (r.getD q 0)=true:=by
   have key:∀ p:Int→Bool,(∀ v,p v=true→okV v=true)→VU p 0 (Jb rows q)=(i:Int)→okV (r.getD q 0)=true:=fun p hp e=>by
    obtain ⟨i2,v,e1,e2,e3⟩:=ziU (show 0≤VU p 0 (Jb rows q) by rw [e];omega)
    have e4:i2=i:=by rw [e1] at e;omega
    subst e4
    unfold Jb at e2
    rw [List.getElem?_map,hr] at e2
    cases e2
    exact hp _ e3
   unfold zlx at hwi
   split at hwi
   ·
    exact key _ (fun v hv=>by unfold exV at hv;simp at hv;exact hv.1) hwi
   ·
    exact key _ (fun v hv=>hv) hwi
  have hlost:y.lost=false:=by
   cases e:y.lost with
   | false=>rfl
   | true=>
    rw [e3.1 e] at hokr
    exact absurd hokr (by decide)
  exact ⟨q,b,a,hrl,hlen,h0,hnl,hse,hok,⟨i,w,r,y,_,hu2,hw,hr,hrz,e1,hlost,(Option.some.inj hrs).symm⟩,hread⟩
end
end
section
open Go Go.Kn Go.Proofs
theorem ztS {n x:Sg}{f:Int}(hf:isF f)(h:Ju n f YC=YC)(he:YS n f=YS x f):n=U1 x f:=by
 obtain ⟨a1,a2,a3,a4,a5,a6,a7,a8,a9,a10,a11,a12,a13,a14⟩:=n
 obtain ⟨b1,b2,b3,b4,b5,b6,b7,b8,b9,b10,b11,b12,b13,b14⟩:=x
 rcases Wq hf with e | e | e | e | e | e | e | e | e<;>subst e<;>
  (simp [Ju,YC] at h;simp [YS] at he;simp [U1,Ju,YC,h,he])
theorem zvX {x:Sg}{f:Int}:YS (U1 x f) f=YS x f:=by
 unfold U1
 by_cases hf:isF f
 ·
  rw [zeG hf,if_pos rfl]
 ·
  have h:∀ y:Sg,YS y f=(0,0,0,0):=fun y=>by
   unfold isF at hf
   unfold YS
   rw [if_neg (by omega),if_neg (by omega),if_neg (by omega),if_neg (by omega),if_neg (by omega),if_neg (by omega),if_neg (by omega),if_neg (by omega),if_neg (by omega)]
  rw [h,h]
section
variable {ws:List Wr} {rows:List (List Int)} {no:Int} {cl:List Int} {es:List Em} {rd:List Int} {ps:List Pt} {vs:List Int}
theorem zvi {base:List Sg}(h2:zdL ps base vs=0){x:Sg}(hx:x∈X5 (onF ps) base (Z9 ps vs)){f:Int}(hf:isF f){p:Pt}{r:List Pt}(hl:XP (onF ps) (Z9 ps vs) x.id f=p::r):p.nw=U1 x f:=by
 obtain ⟨hsto,_,_,_,_,hver,_⟩:=UA h2
 have hm:p∈stF (Z9 ps vs) x.id f:=(List.mem_filter.1 (show p∈(stF (Z9 ps vs) x.id f).filter _ from by
  have:p∈XP (onF ps) (Z9 ps vs) x.id f:=by rw [hl];exact List.mem_cons_self ..
  exact this)).1
 obtain ⟨hp,hk,hs,hfd⟩:=UH.1 hm
 have hok:=(XA hsto hver).ok p hp
 obtain ⟨_,h3,_⟩:=hok.set hk
 rw [hfd] at h3
 refine ztS hf h3 ?_
 obtain ⟨y,_,hxy,_⟩:=zbN hx
 have hid:x.id=y.id:=by rw [hxy,zd0]
 rw [hxy,zei hf,←hid,hl];rfl
end
end
section
open Go Go.Kn Go.Proofs
theorem zlp (l:List Pt):(zku l).length≤l.length:=by
 cases l with
 | nil=>exact Nat.le_refl _
 | cons p r=>unfold zku;rw [List.length_map];exact List.length_filter_le _ _
theorem zmB {on:Int→Int→Bool}{rows:List (List Int)}{es:List Em}{rd:List Int}{l:List Pt}{s f:Int}:(zaK on rows es rd l s f).ws.length≤rows.length+1∧(zaK on rows es rd l s f).ps.length≤l.length+1:=by
 unfold zaK
 split
 ·
  refine ⟨Nat.zero_le _,?_⟩
  have h1:=zlp (XP on l s f)
  have h2:(XP on l s f).length≤l.length:=Nat.le_trans (List.length_filter_le _ _) WL
  show (zku (XP on l s f)).length≤_
  omega
 ·
  split
  ·
   unfold or2
   split
   ·
    exact ⟨Nat.zero_le _,by simp⟩
   ·
    exact ⟨Nat.zero_le _,Nat.zero_le _⟩
  ·
   split
   ·
    unfold or3
    split
    ·
     exact ⟨by simp,Nat.zero_le _⟩
    ·
     exact ⟨Nat.zero_le _,Nat.zero_le _⟩
   ·
    split
    ·
     exact ⟨Nat.zero_le _,Nat.zero_le _⟩
    ·
     exact ⟨Nat.le_trans ze6 (Nat.le_succ _),Nat.zero_le _⟩
end
section
open Go Go.Kn Go.Proofs
theorem zu6:Fun Tryz.prog 10:=.of Tryz.func10 (by kernel_rfl) (by kernel_rfl)
theorem zxY:Fun Tryz.prog 9:=.of Tryz.func9 (by kernel_rfl) (by kernel_rfl)
end
section
open Go Go.Kn Go.Proofs
def LsQ (few:Bool)(e:Int)(s:List Sg)(v:Value)(I:Qu)(L:Go.Kn.Loc):Prop:=L=[]∧∃ a n c b,v= .tuple #[.slice a n c,.bool b]∧(b=true→few=true∧e=0∧Sl I 14 YU a n c s)
def zpm (vs:List Int)(x:Int):Bool:=vs.any (· ==x)
theorem zkA {vs:List Int}{k:Nat}{y:Int}(h:vs[k]? =some y)(x:Int):zpm (vs.take (k+1)) x=(decide (y=x)||zpm (vs.take k) x):=by
 unfold zpm
 rw [UW h,Bool.or_comm]
 congr 1
theorem ztj {e0:Int}{s:List Sg}{sign f:Int}(h0:e0=0)(hf:isF f)(hs:∃ y∈s,y.id=sign):orE e0 s sign f=0:=by
 refine zvx h0 ?_
 unfold isF at hf
 obtain ⟨y,hy,e⟩:=hs
 rw [Bool.or_eq_false_iff,Bool.or_eq_false_iff]
 refine ⟨⟨by simpa using hf.1,by simpa using hf.2⟩,?_⟩
 rw [Bool.not_eq_false',List.any_eq_true]
 exact ⟨y,hy,by simpa using e⟩
theorem zt2 {o:Og}:orO 0 o=o:=if_neg (by decide)
end
section
open Go Go.Kn Go.Proofs
theorem zvB:Fun Tryz.prog 20:=.of Tryz.func20 (by kernel_rfl) (by kernel_rfl)
theorem zcX (I:Qu)(x:Sg)(f:Int):Zy Tryz.prog 21 [JO x,.int .i64 f] I (JO (U1 x f)):=by
 intro g H w hw
 refine qe Tryz.func21 Tryz.ntmps21 hw ?_
 refine zR ?_
 refine Q2 rfl rfl rfl (fun b_2=>?_)
 refine Qs Wv rfl rfl (fun b_4=>?_)
 refine zN (Ql (zR (zM (zN (Qm (zR ?_))))))
 refine zC ?_
 refine zA (zN ?_)
 refine zI ?_ ?_<;>intro hc6
 ·
  have hfk:f=1:=by simpa using hc6
  subst hfk
  refine Qg ?_
  refine zF Jo ?_
  refine zL Qr ?_
  refine zF Jo ?_
  refine zS Z2 ?_
  refine Qb (Qf (Qa (zR ?_)))
  refine zV (Qo rfl Q9 (fun hg=>by exact Cells.g0) rfl) ?_
  refine zh Ye ?_
  refine zN (Qt ?_)
  exact Ys rfl rfl Q9 Cells.g0 rfl (fun w hw=>⟨rfl,hw.drop⟩)
 have hg1:f≠1:=by simpa using hc6
 refine zR (zC ?_)
 refine zA (zN ?_)
 refine zI ?_ ?_<;>intro hc11
 ·
  have hfk:f=2:=by simpa using hc11
  subst hfk
  refine Qg ?_
  refine zF Je ?_
  refine zL Qr ?_
  refine zF Je ?_
  refine zS Z2 ?_
  refine Qb (Qf (Qa (zR ?_)))
  refine zV (Qo rfl Q9 (fun hg=>by exact Cells.g0) rfl) ?_
  refine zh Ye ?_
  refine zN (Qt ?_)
  exact Ys rfl rfl Q9 Cells.g0 rfl (fun w hw=>⟨rfl,hw.drop⟩)
 have hg2:f≠2:=by simpa using hc11
 refine zR (zC ?_)
 refine zA (zN ?_)
 refine zI ?_ ?_<;>intro hc16
 ·
  have hfk:f=3:=by simpa using hc16
  subst hfk
  refine Qg ?_
  refine zF Y4 ?_
  refine zL Qr ?_
  refine zF Y4 ?_
  refine zS Z2 ?_
  refine Qb (Qf (Qa (zR ?_)))
  refine zV (Qo rfl Q9 (fun hg=>by exact Cells.g0) rfl) ?_
  refine zh Ye ?_
  refine zN (Qt ?_)
  exact Ys rfl rfl Q9 Cells.g0 rfl (fun w hw=>⟨rfl,hw.drop⟩)
 have hg3:f≠3:=by simpa using hc16
 refine zR (zC ?_)
 refine zA (zN ?_)
 refine zI ?_ ?_<;>intro hc21
 ·
  have hfk:f=4:=by simpa using hc21
  subst hfk
  refine Qg ?_
  refine zF Jr ?_
  refine zL Qr ?_
  refine zF Jr ?_
  refine zS Z2 ?_
  refine Qb (Qf (Qa (zR ?_)))
  refine zV (Qo rfl Q9 (fun hg=>by exact Cells.g0) rfl) ?_
  refine zh Ye ?_
  refine zN (Qt ?_)
  exact Ys rfl rfl Q9 Cells.g0 rfl (fun w hw=>⟨rfl,hw.drop⟩)
 have hg4:f≠4:=by simpa using hc21
 refine zR (zC ?_)
 refine zA (zN ?_)
 refine zI ?_ ?_<;>intro hc26
 ·
  have hfk:f=5:=by simpa using hc26
  subst hfk
  refine Qg ?_
  refine zF Jj ?_
  refine zL Qr ?_
  refine zF Jj ?_
  refine zS Z2 ?_
  refine Qb (Qf (Qa (zR ?_)))
  refine zV (Qo rfl Q9 (fun hg=>by exact Cells.g0) rfl) ?_
  refine zh Ye ?_
  refine zN (Qt ?_)
  exact Ys rfl rfl Q9 Cells.g0 rfl (fun w hw=>⟨rfl,hw.drop⟩)
 have hg5:f≠5:=by simpa using hc26
 refine zR (zC ?_)
 refine zA (zN ?_)
 refine zI ?_ ?_<;>intro hc31
 ·
  have hfk:f=6:=by simpa using hc31
  subst hfk
  refine Qg ?_
  refine zF Jm ?_
  refine zL Qr ?_
  refine zF Jm ?_
  refine zS Z2 ?_
  refine Qb (Qf (Qa (zR ?_)))
  refine zV (Qo rfl Q9 (fun hg=>by exact Cells.g0) rfl) ?_
  refine zh Ye ?_
  refine zN (Qt ?_)
  exact Ys rfl rfl Q9 Cells.g0 rfl (fun w hw=>⟨rfl,hw.drop⟩)
 have hg6:f≠6:=by simpa using hc31
 refine zR (zC ?_)
 refine zA (zN ?_)
 refine zI ?_ ?_<;>intro hc36
 ·
  have hfk:f=7:=by simpa using hc36
  subst hfk
  refine Qg ?_
  refine zF Jf ?_
  refine zL Qr ?_
  refine zF Jf ?_
  refine zS Z2 ?_
  refine Qb (Qf (Qa (zR ?_)))
  refine zV (Qo rfl Q9 (fun hg=>by exact Cells.g0) rfl) ?_
  refine zh Ye ?_
  refine zN (Qt ?_)
  exact Ys rfl rfl Q9 Cells.g0 rfl (fun w hw=>⟨rfl,hw.drop⟩)
 have hg7:f≠7:=by simpa using hc36
 refine zR (zC ?_)
 refine zA (zN ?_)
 refine zI ?_ ?_<;>intro hc41
 ·
  have hfk:f=8:=by simpa using hc41
  subst hfk
  refine Qg ?_
  refine zF Jp ?_
  refine zL Qr ?_
  refine zF Jp ?_
  refine zS Z2 ?_
  refine Qb (Qf (Qa (zR ?_)))
  refine zV (Qo rfl Q9 (fun hg=>by exact Cells.g0) rfl) ?_
  refine zh Ye ?_
  refine zN (Qt ?_)
  exact Ys rfl rfl Q9 Cells.g0 rfl (fun w hw=>⟨rfl,hw.drop⟩)
 have hg8:f≠8:=by simpa using hc41
 refine zR (zC ?_)
 refine zA (zN ?_)
 refine zI ?_ ?_<;>intro hc46
 ·
  have hfk:f=9:=by simpa using hc46
  subst hfk
  have hD:=zAh I
  refine Jl ?_
  refine Z0 I [(b_2,.cells (JO x).cells 54 (0,0))] mixed ?_
  refine zT 0 rfl (Qd rfl YZ) hD ?_
  refine zT 1 rfl (Qo rfl Vf (fun hg=>by exact Cells.s0 (vs:=[_,_]) rfl) rfl) hD ?_
  refine zT 2 rfl (Qd rfl Y2) hD ?_
  refine zT 3 rfl (Qo rfl Vf (fun hg=>by exact Cells.s0 (vs:=[_,_]) rfl) rfl) hD ?_
  refine zT 4 rfl (Qd rfl YZ) hD ?_
  refine qd 5 rfl ?_
  refine Vm rfl rfl Xq rfl rfl rfl rfl (by repeat (first | exact Upd.here | apply Upd.there | apply QK)) ?_
  refine Qb ?_
  refine zD hD ?_
  refine zT 6 rfl (Qd rfl Y2) hD ?_
  refine qd 7 rfl ?_
  refine Vm rfl rfl Xq rfl rfl rfl rfl (by repeat (first | exact Upd.here | apply Upd.there | apply QK)) ?_
  refine Qb ?_
  refine zD hD ?_
  refine QF (by kernel_rfl) ?_
  refine QO ?_
  refine Qf (Qa (zR ?_))
  refine zV (Qo rfl Q9 (fun hg=>by exact Cells.g0) rfl) ?_
  refine zh Ye ?_
  refine zN (Qt ?_)
  exact Ys rfl rfl Q9 Cells.g0 rfl (fun w hw=>⟨rfl,hw.drop⟩)
 have hg9:f≠9:=by simpa using hc46
 refine Qn (Qf (Qa (zR ?_)))
 refine zV (Qo rfl Q9 (fun hg=>by exact Cells.g0) rfl) ?_
 refine zh Ye ?_
 refine zN (Qt ?_)
 first
 | exact Ys rfl rfl Q9 Cells.g0 rfl (fun w hw=>⟨by unfold U1 Ju;rw [if_neg hg1,if_neg hg2,if_neg hg3,if_neg hg4,if_neg hg5,if_neg hg6,if_neg hg7,if_neg hg8,if_neg hg9];rfl,hw.drop⟩)
theorem zw3 {I:Qu}{av:Option Addr}{n c:Nat}{rs:List Rd}(hR:Sl I 15 JJ av n c rs)(_hn:n≤100000){bv:Option Addr}{n2 c2:Nat}{row:List Int}(hQ:Sl I 1 QQ bv n2 c2 row)(hn2:n2≤100000)(no yr:Int)(q:Nat)(hq:q<n2)(h0:row.getD q 0≠0){y:Rd}(hy:rs[nzF row q]? =some y):Zy Tryz.prog 22 [.agg #[.int .i64 no,.int .i64 yr,.slice av n c],.slice bv n2 c2,.int .i64 (q:Nat)] I (.tuple #[.agg (JJ y).toArray,.bool true]):=by
 intro g H w hw
 refine qe Tryz.func22 Tryz.ntmps22 hw ?_
 have hRl:=hR.len
 have hQl:=hQ.len
 have hQc:=hQ.cap
 have hQ9:=hQ.take (k:=q) (by omega)
 have hnz:nzF row q<n:=by rw [←hRl];exact (List.getElem?_eq_some_iff.1 hy).1
 have hgq:row[q]? =some (row.getD q 0):=Q4 rfl (by omega)
 refine zR ?_
 refine Q2 rfl rfl rfl (fun b_3=>?_)
 refine Qs zfd rfl rfl (fun b_6=>?_)
 refine zA (zN (Ql (zR ?_)))
 refine zM ?_
 refine zC ?_
 refine zM ?_
 refine QR 2 rfl rfl rfl ?_
 refine zJ (Qi rfl) ?_
 refine zJ (Qi rfl) ?_
 refine zJ (Zr rfl Qw) ?_
 refine zJ (QG rfl rfl rfl) ?_
 refine Zo rfl rfl rfl rfl rfl ?_
 refine zM ?_
 refine QR 8 rfl rfl rfl ?_
 refine zJ (Qi rfl) ?_
 refine zJ (Qi rfl) ?_
 refine zJ (zX Qw hQ) ?_
 refine zJ (Qe rfl Qr (fun hg=>by exact zAa (k:=q) hQ hgq rfl)) ?_
 refine zJ (QG rfl rfl rfl) ?_
 refine Zo rfl rfl rfl rfl rfl ?_
 refine zN ?_
 refine zI ?_ ?_<;>intro hc25
 ·
  exfalso;have h:=hc25;simp only [Bool.or_eq_true,decide_eq_true_eq,beq_iff_eq] at h;omega
 refine Qn (Qa (zR (zA (zN (Ql (zR ?_))))))
 refine zM ?_
 refine zM ?_
 refine zV (za8 rfl rfl Qw (fun hg=>by omega)) ?_
 refine zQ Qw ?_
 refine zM (zN (Qm ?_))
 refine zU [(3,_),(6,_),(29,_),(30,_)] (fun T L0 mz E I' loc'=>∃ (i:Nat) (z:Int),mz=q-i∧E=(8,.int .i64 z)::(31,.int .i64 i)::T∧I=I'∧L0=loc'∧i≤q∧z=((nzF row i:Nat):Int)∧nzF row i≤i) ?_ (h:=⟨0,_,rfl,rfl,rfl,rfl,Nat.zero_le _,rfl,Nat.le_refl _⟩)
 rintro mz E I' loc' ⟨i,z,rfl,rfl,rfl,rfl,hi,hz,hzi⟩
 refine zR (zC (zN (Ql ?_)))
 refine zI ?_ ?_<;>intro hc32
 ·
  have hlt_i:i<q:=by have h:=hc32;simp at h;omega
  obtain ⟨cv,hc⟩:∃ cv,row[i]? =some cv:=hQ.at (by omega)
  refine Qn (Qa (Ql (Qm (zR ?_))))
  refine zV (zX Qw hQ9) ?_
  refine zV (Qe rfl Qr (fun hg=>by exact zAa hQ hc rfl)) ?_
  refine zA ?_
  refine zN (zR ?_)
  refine zM ?_
  refine zC (zN ?_)
  refine zI ?_ ?_<;>intro hc36
  ·
   refine Qg (zM ?_)
   refine zB ?_
   refine zA (Qb (Qf (Qa (Qg ?_))))
   refine zB ?_
   refine zM (Qb ?_)
   first
   | exact zm (h:=⟨q-(i+1),by omega,i+1,_,rfl,rfl,rfl,rfl,by omega,by rw [zcg hc (by simpa using hc36)];omega,by rw [zcg hc (by simpa using hc36)];omega⟩)
  refine Qn (Qf (Qa (Qg (zB ?_))))
  refine zM (Qb ?_)
  first
  | exact zm (h:=⟨q-(i+1),by omega,i+1,_,rfl,rfl,rfl,rfl,by omega,by rw [zfI hc (by simpa using hc36)];exact hz,by rw [zfI hc (by simpa using hc36)];omega⟩)
 have hge_i:q≤i:=by have h:=hc32;simp at h;omega
 have hik:i=q:=by omega
 rw [hik] at hz
 subst hz
 refine QI (Qh (Qh (Qk (Qa (Ql (zR (zM ?_)))))))
 refine zF Kr ?_
 refine zL X2 ?_
 refine zQ Ww ?_
 refine zC (zN ?_)
 refine zI ?_ ?_<;>intro hc44
 ·
  exfalso;have h:=hc44;simp only [decide_eq_true_eq] at h;omega
 refine Qn (Qa (zR ?_))
 refine zF Kr ?_
 refine zL X2 ?_
 refine zM ?_
 refine zV (zX Ww hR) ?_
 refine zV (Qo rfl zbb (fun hg=>by exact zAi (k:=nzF row q) hR hy) rfl) ?_
 refine zh zaH ?_
 refine zA (zN (Qt ?_))
 exact Zu rfl rfl rfl zbb (vs:=JJ y) (by repeat (first | exact zAf | apply zAe)) rfl (fun w hw=>⟨rfl,hw.drop⟩)
theorem zzr {I:Qu}{av:Option Addr}{n c:Nat}{ws:List Wr}(hW0:SlW I av n c ws)(hnb:n≤9223372036854775807){bv:Option Addr}{n2 c2:Nat}{rows:List (List Int)}(hVn:SlN I bv n2 c2 rows){ea1:Option Addr}{en1 ec1:Nat}{ea2:Option Addr}{en2 ec2:Nat}{ea3:Option Addr}{en3 ec3:Nat}{xs:List Int}{es:List Em}{rd:List Int}(hX1:Sl I 1 QQ ea1 en1 ec1 xs)(hX2:Sl I 3 YB ea2 en2 ec2 es)(hX3:Sl I 1 QQ ea3 en3 ec3 rd)(no:Int){pv:Option Addr}{pn pc:Nat}{ps:List Pt}(hP:SlP I pv pn pc ps){dv:Option Addr}{n3 c3:Nat}{vs:List Int}(hVs:Sl I 1 QQ dv n3 c3 vs)(hDb:VT I):Yf Tryz.prog 20 [.slice av n c,.slice bv n2 c2,.agg (Z3 no ea1 en1 ec1 ea2 en2 ec2 ea3 en3 ec3).toArray,.slice pv pn pc,.slice dv n3 c3] I [] (LsQ (zbR ws rows xs es rd ps vs) (zd7 (Km ws rows no xs es rd) ps (Vk ws rows no xs es rd) vs) (X5 (onF ps) (Vk ws rows no xs es rd) (Z9 ps vs))):=by
 intro g H w hw
 refine qe Tryz.func20 Tryz.ntmps20 hw ?_
 have hIc:=zAh I
 have hVl:=hVn.len
 have hX1l:=hX1.len
 have hX2l:=hX2.len
 have hX3l:=hX3.len
 have hWl:=hW0.len
 have hPl:=hP.len
 have hVsl:=hVs.len
 refine zR ?_
 refine Q2 rfl rfl rfl (fun b_7=>?_)
 refine zA ?_
 refine zA (zN (Ql (zR ?_)))
 refine zM ?_
 refine zM ?_
 refine zV (Qo rfl Z5 (fun hg=>by exact Cells.g0) rfl) ?_
 refine zM ?_
 refine zM ?_
 refine qc (vs:=[_,_,_,_,_]) rfl zu6 (ztt hW0 hnb hVn hX1 hX2 hX3 no hP hVs) ?_
 refine zO (zN ?_)
 refine zI ?_ ?_<;>intro hc20
 ·
  refine zR (zA ?_)
  refine zA (zN (Qt (Qc ?_)))
  exact ZA rfl rfl rfl (fun w hw=>⟨_,I,[],rfl,hIc,hw.drop,rfl,_,_,_,false,rfl,fun h=>by cases h⟩)
 have hfew:zbR ws rows xs es rd ps vs=true:=ziL hc20
 obtain ⟨g1,g2,g3,g4,g5,g6,g7,g8,g9,g10⟩:=zkn hfew
 refine Qn (Qa (zR (zM ?_)))
 refine zM ?_
 refine zV (Qo rfl Z5 (fun hg=>by exact Cells.g0) rfl) ?_
 refine Qz (cap:=[]) (vs:=[_,_,_]) rfl rfl zpD .nil (Go.Proofs.YtodakphagkommaaGreatDoor.w_Signs hW0 (by omega) hVn (by omega) hX1 hX2 hX3 (by omega) (by omega) (by omega) no hDb (fun e=>e ▸ ziK)) rfl rfl ?_
 rintro vv1 I1 L1 hI1 ⟨rfl,as9,cs9,rfl,hSg⟩
 have hP:=hP.mono hI1;have hVs:=hVs.mono hI1;have hIc:=hIc.trans hI1
 have hSg:Sl I1 14 YU as9 (Vk ws rows no xs es rd).length cs9 (Vk ws rows no xs es rd):=hSg
 refine zM ?_
 refine zE ?_
 refine zE ?_
 refine zA ?_
 refine zA (zN (Ql (zR ?_)))
 refine zM ?_
 refine zC (zN ?_)
 refine zI ?_ ?_<;>intro hc29
 ·
  have he1:(Km ws rows no xs es rd)≠0:=by simpa using hc29
  refine zR (zA ?_)
  refine zA (zN (Qt (Qc ?_)))
  exact ZA rfl rfl rfl (fun w hw=>⟨_,I1,[],rfl,hIc,hw.drop,rfl,_,_,_,false,rfl,fun h=>by cases h⟩)
 have he1:(Km ws rows no xs es rd)=0:=by simpa using hc29
 refine Qn (Qa (zR (zM ?_)))
 refine zM ?_
 refine zM ?_
 refine Qz (cap:=[]) (vs:=[_,_,_]) rfl rfl zoF .nil (w_Signs hP (by omega) hSg (by have:=zb3 (ws:=ws) (rows:=rows) (no:=no) (cl:=xs) (es:=es) (rd:=rd);omega) hVs (by omega)) rfl rfl ?_
 rintro vv2 I2 L2 hI2 ⟨rfl,as8,cs8,rfl,hSs⟩
 have hIc:=hIc.trans hI2
 refine zM ?_
 refine zE ?_
 refine zE ?_
 refine zA ?_
 refine zA ?_
 refine zN (zR ?_)
 refine zM ?_
 refine zM ?_
 refine zC ?_
 refine zA ?_
 refine zA (zN (Qt ?_))
 first
 | exact ZA rfl rfl rfl (fun w hw=>⟨_,I2,[],rfl,hIc,hw.drop,rfl,_,_,_,_,rfl,fun h=>by have he2:zdL ps (Vk ws rows no xs es rd) vs=0:=beq_iff_eq.1 h;exact ⟨hfew,by rw [zfq he1,he2],by rw [←(UA he2).2.2.2.2.2.2.2.1];exact hSs⟩⟩)
end
section
open Go Go.Kn Go.Proofs
theorem za7:V4 (α:=Int×Int) Tryz.prog 79 YD:=zfw zdi
end
end Go.Proofs.YtodakphagkommaaGreatDoor.R
section
namespace Go.Kn
open Go
section
variable {C:Cx} {E:Env} {I:Qu} {loc:Loc} {S:GS} {dst:Option Tmp} {ty:TypeId} {pos:String} {af:Array Edge} {gd:Option (Nat×Bool)} {x y:Operand}
variable {α β:Type} [DecidableEq α] {ek:α→Value} {ev:β→Value} {m:List (α×β)} {a:α}
end
end Go.Kn
namespace Go.Proofs.YtodakphagkommaaGreatDoor.R
open Go Go.Kn Go.Proofs
theorem zsd {rows:List (List Int)}{q:Nat}{c x:Int}:x∈Uc rows q c↔ ∃ (i:Nat) (r:List Int),x=(i:Int)∧rows[i]? =some r∧r.getD q 0=c:=by
 unfold Uc ixF
 rw [List.mem_map]
 constructor
 ·
  rintro ⟨⟨r,i⟩,h,e⟩
  obtain ⟨h1,h2⟩:=List.mem_filter.1 h
  rw [List.mem_iff_getElem?] at h1
  obtain ⟨j,hj⟩:=h1
  rw [List.getElem?_zipIdx] at hj
  cases hr:rows[j]? with
  | none=>rw [hr] at hj;cases hj
  | some r'=>
   rw [hr] at hj
   simp only [Option.map_some,Option.some.injEq,Prod.mk.injEq] at hj
   obtain ⟨rfl,rfl⟩:=hj
   exact ⟨j,r',by rw [←e];simp,hr,by simpa using h2⟩
 ·
  rintro ⟨i,r,rfl,hr,hc⟩
  refine ⟨(r,i),List.mem_filter.2 ⟨?_,by simpa using hc⟩,rfl⟩
  rw [List.mem_iff_getElem?]
  exact ⟨i,by simp [List.getElem?_zipIdx,hr]⟩
section
variable {rows:List (List Int)} {q:Nat} {n:Int} {V:List Vt} {b:Bool}
end
/-! The entries by their loci. -/
section
variable {I:Qu} {hs:List Eh} {rows:List (List Int)} {rd:List Int} {m:Nat}
end
end Go.Proofs.YtodakphagkommaaGreatDoor.R
end
section
namespace Go.Proofs.YtodakphagkommaaGreatDoor.R
open Go Go.Kn Go.Proofs
/-! What the edition reads comes from an emendation or from a row. -/
theorem zgG {rows:List (List Int)}{m q:Nat}:∀ {es:List Em} {l:Int} {n:Int},J0 rows m l es=true→∀ e∈es,e.locus=(q:Int)→es.foldl (emF q) n=e.code
 | e0::es,l,n,h,e,he,hl=>by
  unfold J0 at h
  rw [Bool.and_eq_true] at h
  rw [List.foldl_cons]
  rcases List.mem_cons.1 he with rfl | he
  ·
   have hr:∀ x∈es,¬x.locus=(q:Int):=fun x hx e2=>by
    have:=(XH h.2 x hx).2
    omega
   rw [U7 hr]
   unfold emF
   rw [if_pos hl]
  ·
   exact zgG h.2 e he hl
section
variable {ws:List Wr} {rows:List (List Int)} {no:Int} {cl:List Int} {es:List Em} {rd:List Int}
theorem zfN (h3:Wc rows no cl es rd=0){q:Nat}(hq:q<rd.length):J0 rows (rows.getD 0 []).length (-1) es=true∧es.foldl (emF q) (VM rows cl q)=rd.getD q 0:=by
 obtain ⟨hm,hr⟩:=zdf h3
 have hg:=zfC hm
 refine ⟨hg,?_⟩
 rw [zc0 hg]
 have hl:(Vg rows cl es).length=(rows.getD 0 []).length:=UX
 rw [hr] at hq ⊢
 refine (QU ?_).symm
 unfold Vg
 rw [List.getElem?_map,List.getElem?_range (by omega)]
 rfl
theorem zh4 (h3:Wc rows no cl es rd=0){q:Nat}(hq:q<rd.length){e:Em}(he:e∈es)(hl:e.locus=(q:Int)):rd.getD q 0=e.code:=by
 obtain ⟨hg,h⟩:=zfN h3 hq
 rw [←h];exact zgG hg e he hl
theorem zee (h3:Wc rows no cl es rd=0){q:Nat}(hq:q<rd.length)(h0:rd.getD q 0≠0)(hn:es.any (ztx (q:Int))=false):∃ r∈rows,r.getD q 0=rd.getD q 0:=by
 obtain ⟨hg,h⟩:=zfN h3 hq
 rcases zlc (k:=q) es (VM rows cl q) with h1 | ⟨em,hem,hl,h1⟩
 ·
  rw [←h,h1] at h0 ⊢
  have hm:VM rows cl q∈JF rows cl q:=by
   unfold VM
   split
   ·
    rename_i h
    obtain ⟨y,hy,e⟩:=List.any_eq_true.1 h
    rw [beq_iff_eq] at e;rw [e];exact hy
   ·
    have:=zb7 (rows:=rows) (cl:=cl) (l:=q)
    exact List.mem_of_getElem? (Q4 (d:=0) rfl this)
  have h2:=zeX.1 (List.mem_filter.1 (show _∈(stE rows q).filter _ from hm)).1
  rcases zbh.1 h2 with h | ⟨⟨r,hr,e⟩,_⟩
  ·
   exact absurd h h0
  ·
   exact ⟨r,hr,e⟩
 ·
  rw [←h,h1] at h0 ⊢
  obtain ⟨hrs,_⟩:=XH hg em hem
  have e2:¬em.reason=2:=fun e2=>by
   rw [List.any_eq_false] at hn
   refine hn em hem ?_
   unfold ztx;simp [hl,e2]
  by_cases e1:em.reason=1
  ·
   rw [zzP e1] at hrs
   simp only [Bool.and_eq_true] at hrs
   have hth:=hrs.1.1
   unfold Xo at hth
   obtain ⟨r,hr,hv⟩:=List.any_eq_true.1 hth
   rw [beq_iff_eq,hl] at hv
   exact ⟨r,hr,hv⟩
  ·
   by_cases e3:em.reason=3
   ·
    rw [zzM e1 e2 e3,beq_iff_eq] at hrs
    exact absurd hrs h0
   ·
    rw [zzS e1 e2 e3] at hrs;cases hrs
end
/-! Fields. -/
theorem Ke {a b:Sg}{f:Int}(hf:isF f)(h:YS a f=YS b f):U1 a f=U1 b f:=by
 obtain ⟨a1,a2,a3,a4,a5,a6,a7,a8,a9,a10,a11,a12,a13,a14⟩:=a
 obtain ⟨b1,b2,b3,b4,b5,b6,b7,b8,b9,b10,b11,b12,b13,b14⟩:=b
 rcases Wq hf with e | e | e | e | e | e | e | e | e<;>subst e<;>
  (simp [YS] at h;simp [U1,Ju,YC,h])
theorem zhV {x:Sg}{f:Int}(hf:isF f):U1 (U1 x f) f=U1 x f:=Ke hf zvX
/-! How often the ids of a list are those of patches. -/
def zss (O:List Int)(ps:List Pt)(i:Nat):Nat:=((ps.take i).map fun p=>O.count p.id).sum
theorem zlH {O:List Int}{ps:List Pt}{i:Nat}{p:Pt}(h:ps[i]? =some p):zss O ps (i+1)=zss O ps i+O.count p.id:=by
 unfold zss;rw [List.take_add_one,h,List.map_append,List.sum_append];simp
theorem zka {α:Type}{f g h:α→Nat}:∀ {l:List α},(∀ x∈l,f x=g x+h x)→(l.map f).sum=(l.map g).sum+(l.map h).sum
 | [],_=>rfl
 | x::l,e=>by
  rw [List.map_cons,List.map_cons,List.map_cons,List.sum_cons,List.sum_cons,List.sum_cons,e x (List.mem_cons_self ..),zka (l:=l) fun y hy=>e y (List.mem_cons_of_mem _ hy)]
  omega
theorem zbC {α:Type}{f:α→Nat}:∀ {l:List α},(∀ x∈l,f x=0)→(l.map f).sum=0
 | [],_=>rfl
 | x::l,e=>by rw [List.map_cons,List.sum_cons,e x (List.mem_cons_self ..),zbC (l:=l) fun y hy=>e y (List.mem_cons_of_mem _ hy)]
theorem ztb {ps:List Pt}(hL:ps.Pairwise fun p q=>p.id<q.id){a:Int}(h:∃ p∈ps,p.id=a):(ps.map fun p=>if a=p.id then 1 else 0).sum=1:=by
 induction ps with
 | nil=>obtain ⟨p,hp,_⟩:=h;cases hp
 | cons p ps ih=>
  rw [List.pairwise_cons] at hL
  rw [List.map_cons,List.sum_cons]
  obtain ⟨q,hq,e⟩:=h
  by_cases h1:a=p.id
  ·
   rw [if_pos h1,zbC fun x hx=>if_neg (by have:=hL.1 x hx;omega)]
  ·
   rw [if_neg h1]
   rcases List.mem_cons.1 hq with rfl | hq
   ·
    exact absurd e.symm h1
   ·
    rw [ih hL.2 ⟨q,hq,e⟩]
theorem zla {ps:List Pt}(hL:ps.Pairwise fun p q=>p.id<q.id):∀ {O:List Int},(∀ a∈O,∃ p∈ps,p.id=a)→(ps.map fun p=>O.count p.id).sum=O.length
 | [],_=>zbC fun _ _=>rfl
 | a::O,h=>by
  rw [zka (g:=fun p=>O.count p.id) (h:=fun p=>if a=p.id then 1 else 0) fun p _=>by
   rw [List.count_cons]
   by_cases e:a=p.id<;>simp [e],zla hL fun b hb=>h b (List.mem_cons_of_mem _ hb),ztb hL (h a (List.mem_cons_self ..)),List.length_cons]
theorem zr9 {O:List Int}{t:Nat}{x a:Int}(hx:O[t]? =some x)(h:a=x):(O.take (t+1)).count a=(O.take t).count a+1:=by
 rw [List.take_add_one,hx,List.count_append];simp [h]
theorem zuo {O:List Int}{t:Nat}{x a:Int}(hx:O[t]? =some x)(h:a≠x):(O.take (t+1)).count a=(O.take t).count a:=by
 rw [List.take_add_one,hx,List.count_append]
 have:¬x=a:=fun e=>h e.symm
 simp [this]
/-! The three kinds of origin. -/
structure zzp (ps:List Pt)(vs:List Int)(x:Sg)(f:Int)(o:Og):Prop where
 k:o.k=3
 r:o.r=0
 ws:o.ws=[]
 ne:0<o.ps.length
 len:o.ps.length≤ps.length
 mem:∀ a∈o.ps,∃ p∈ps,p.id=a
 ok:∀ p∈ps,p.id∈o.ps→zpm vs p.id=true∧p.sign=x.id∧p.kind≠3∧(p.kind=1→p.field=f)∧U1 p.nw f=U1 x f
structure zzB (ws:List Wr)(rows:List (List Int))(x:Sg)(f:Int)(o:Og):Prop where
 k:o.k=1
 r:o.r=0
 ps:o.ps=[]
 ne:0<o.ws.length
 ok:∃ q:Nat,x.id=(q:Int)∧∀ a∈o.ws,∃ (i:Nat) (w:Wr) (r:List Int) (y:Rd),a=(i:Int)∧ws[i]? =some w∧rows[i]? =some r∧q<r.length∧r.getD q 0≠0∧w.rs[nzF r q]? =some y∧y.lost=false∧(U1 y.sg f=U1 x f∨(f=3∧x.mark=3))
structure zye (es:List Em)(x:Sg)(f:Int)(o:Og):Prop where
 k:o.k=2
 r:o.r=2
 ws:o.ws=[]
 ps:o.ps=[]
 ok:∃ e∈es,e.locus=x.id∧e.reason=2∧Vl e.code=0∧U1 (UI e.code) f=U1 x f
section
variable {ws:List Wr} {rows:List (List Int)} {no:Int} {cl:List Int} {es:List Em} {rd:List Int} {ps:List Pt} {vs:List Int}
theorem zfz {s:Sg}{k:Nat}{c:Int}{y:Sg}{m:Bool}{f:Int}(hc:Wn s=c)(h0:c≠0)(hf:isF f)(ht:isT f=false):YS (Uw k c y m) f=YS s f:=by
 have he:KI s=0:=by
  unfold KI
  cases h:(Vj 0 (dgs s)).isSome with
  | true=>rfl
  | false=>exact absurd (hc.symm.trans (zlg h).1) h0
 obtain ⟨_,hs,_⟩:=zaf he
 rw [hc] at hs
 unfold Uw
 rw [hs]
 unfold isT at ht
 simp only [Bool.or_eq_false_iff,beq_eq_false_iff_ne] at ht
 rcases Wq hf with e | e | e | e | e | e | e | e | e<;>subst e<;>first | rfl | (exfalso;omega)
theorem zrd {k:Nat}{c:Int}{y:Sg}{m:Bool}{f:Int}(ht:isT f=true):YS (Uw k c y m) f=YS y f∨(f=3∧(Uw k c y m).mark=3):=by
 unfold isT at ht
 simp only [Bool.or_eq_true,beq_iff_eq] at ht
 rcases ht with (e | e) | e<;>subst e
 ·
  exact .inl rfl
 ·
  cases m with
  | true=>exact .inr ⟨rfl,rfl⟩
  | false=>exact .inl rfl
 ·
  exact .inl rfl
theorem zq7 (h1:Km ws rows no cl es rd=0)(h2:zdL ps (Vk ws rows no cl es rd) vs=0){x:Sg}(hx:x∈X5 (onF ps) (Vk ws rows no cl es rd) (Z9 ps vs)){f:Int}(hf:isF f):
  zzp ps vs x f (zaK (onF ps) rows es rd (Z9 ps vs) x.id f)∨zzB ws rows x f (zaK (onF ps) rows es rd (Z9 ps vs) x.id f)∨zye es x f (zaK (onF ps) rows es rd (Z9 ps vs) x.id f):=by
 obtain ⟨hsto,_,_,_,_,hver,hfit,_⟩:=UA h2
 have hvs:=XA hsto hver
 have hv:∀ {p:Pt},p∈Z9 ps vs→p∈ps∧zpm vs p.id=true:=fun {p} h=>by
  obtain ⟨a,b⟩:=Y3.1 h
  exact ⟨a,by unfold zpm;simpa using b⟩
 cases hl:XP (onF ps) (Z9 ps vs) x.id f with
 | cons p0 r=>
  refine .inl ?_
  have e:zaK (onF ps) rows es rd (Z9 ps vs) x.id f=⟨3,0,[],zku (p0::r)⟩:=by
   unfold zaK or1;rw [hl,if_pos (by simp)]
  rw [e]
  have hn:=zvi h2 hx hf hl
  have hin:∀ p,p∈p0::r→p∈Z9 ps vs∧p.kind=1∧p.sign=x.id∧p.field=f:=fun p hp=>by
   rw [←hl] at hp
   exact UH.1 (List.mem_filter.1 hp).1
  have hmem:∀ a,a∈zku (p0::r)→∃ p,p∈p0::r∧p.nw=p0.nw∧p.id=a:=fun a ha=>by
   unfold zku at ha
   obtain ⟨p,hp,e⟩:=List.mem_map.1 ha
   obtain ⟨a1,a2⟩:=List.mem_filter.1 hp
   exact ⟨p,a1,Uj.1 a2,e⟩
  refine ⟨rfl,rfl,rfl,?_,?_,fun a ha=>?_,fun p hp hid=>?_⟩
  ·
   refine List.length_pos_of_mem (a:=p0.id) ?_
   unfold zku
   exact List.mem_map.2 ⟨p0,List.mem_filter.2 ⟨List.mem_cons_self ..,KM _⟩,rfl⟩
  ·
   show (zku (p0::r)).length≤ps.length
   refine Nat.le_trans (zlp _) ?_
   rw [←hl]
   unfold XP stF Z9
   exact Nat.le_trans (List.length_filter_le ..) (Nat.le_trans (List.length_filter_le ..) (List.length_filter_le ..))
  ·
   obtain ⟨p,a1,_,a3⟩:=hmem a ha
   exact ⟨p,(hv (hin p a1).1).1,a3⟩
  ·
   obtain ⟨p',a1,a2,a3⟩:=hmem _ hid
   obtain ⟨b1,b2,b3,b4⟩:=hin p' a1
   obtain ⟨c1,c2⟩:=hv b1
   have:p'=p:=hsto.lst.uniq c1 hp a3
   subst this
   refine ⟨c2,b3,by omega,fun _=>b4,?_⟩
   rw [a2,hn,zhV hf]
 | nil=>
  have hlen:(or1 (onF ps) (Z9 ps vs) x.id f).2=false:=by unfold or1;rw [hl];rfl
  obtain ⟨y,hy,hxy,_⟩:=zbN hx
  have hid:x.id=y.id:=by rw [hxy,zd0]
  have hfy:YS x f=YS y f:=by rw [hxy,zei hf,←hid,hl];rfl
  cases hi:(Z9 ps vs).find? (inP x.id) with
  | some q=>
   refine .inl ?_
   have e:zaK (onF ps) rows es rd (Z9 ps vs) x.id f=⟨3,0,[],[q.id]⟩:=by
    unfold zaK
    rw [if_neg (by rw [hlen];simp)]
    unfold or2;rw [hi];rfl
   rw [e]
   have hq:=List.mem_of_find?_eq_some hi
   have hqi:=List.find?_some hi
   unfold inP at hqi
   simp only [Bool.and_eq_true,beq_iff_eq] at hqi
   obtain ⟨c1,c2⟩:=hv hq
   have hyq:q.nw=y:=by
    rcases zch hy with h4 | ⟨p,hp,hk,hw⟩
    ·
     exfalso
     unfold zhd at hfit
     rw [List.all_eq_true] at hfit
     have h5:=hfit q hq
     unfold zsF at h5
     rw [hqi.1] at h5
     have h6:WP (Vk ws rows no cl es rd) q.sign=true:=by
      unfold WP
      rw [List.any_eq_true]
      exact ⟨y,h4,by rw [hqi.2,hid];simp⟩
     rw [h6] at h5
     simp at h5
    ·
     have hps:p.sign=y.id:=by rw [←hw,((hvs.ok p hp).ins hk).1]
     rcases hvs.ins hp hq (by rw [hps,hqi.2,hid]) hqi.1 with e | ⟨e,_⟩
     ·
      rw [←e];exact hw
     ·
      exact absurd hk e
   refine ⟨rfl,rfl,rfl,Nat.zero_lt_succ _,List.length_pos_of_mem c1,fun a ha=>?_,fun p hp hm=>?_⟩
   ·
    rw [List.mem_singleton] at ha;exact ⟨q,c1,ha.symm⟩
   ·
    rw [List.mem_singleton] at hm
    have:p=q:=hsto.lst.uniq hp c1 hm
    subst this
    exact ⟨c2,hqi.2,by omega,fun e=>by omega,by rw [hyq];exact (Ke hf hfy).symm⟩
  | none=>
   have hor:(or2 (Z9 ps vs) x.id).2=false:=by unfold or2;rw [hi]
   obtain ⟨y',hy',hxy',_⟩:=zgN hvs hx hor
   obtain ⟨q,hB⟩:=zp7 h1 hy'
   have hid':x.id=(q:Int):=by rw [hxy',zd0,hB.id]
   have hfy':YS x f=YS y' f:=by rw [hxy',zei hf,hB.id,←hid',hl];rfl
   obtain ⟨s1,s2,s3,s4⟩:=zgY h1
   obtain ⟨i0,w0,r0,y0,m,p1,p2,p3,p4,p5,p6,p7⟩:=hB.put
   have e0:zaK (onF ps) rows es rd (Z9 ps vs) x.id f=if (or3 rows rd x.id f).2 then (or3 rows rd x.id f).1 else if (or4 es x.id).2 then (or4 es x.id).1 else (or5 rows rd x.id).1:=by
    unfold zaK
    rw [if_neg (by rw [hlen];simp),if_neg (by rw [hor];simp)]
   rw [e0,hid']
   cases ht:isT f with
   | true=>
    refine .inr (.inl ?_)
    unfold or3
    rw [ht]
    simp only [if_true]
    rw [show zkF rows ((q:Int)).toNat (rd.getD ((q:Int)).toNat 0)=zkF rows q (rd.getD q 0) from rfl,ztu hB.ok,p1]
    refine ⟨rfl,rfl,rfl,Nat.zero_lt_succ _,q,hid',fun a ha=>?_⟩
    rw [List.mem_singleton] at ha
    refine ⟨i0,w0,r0,y0,ha,p2,p3,by rw [hB.len r0 (List.mem_of_getElem? p3)];exact hB.lt,p4,p5,p6,?_⟩
    have hp:=zrd (k:=q) (c:=rd.getD q 0) (y:=y0.sg) (m:=m) ht
    rw [←p7] at hp
    rcases hp with hp | ⟨rfl,hp⟩
    ·
     exact .inl (Ke hf (hp.symm.trans hfy'.symm))
    ·
     refine .inr ⟨rfl,?_⟩
     have h9:∀ z:Sg,YS z 3=(z.mark,0,0,0):=fun z=>rfl
     rw [h9,h9] at hfy'
     have:=congrArg Prod.fst hfy'
     exact this.trans hp
   | false=>
    unfold or3
    rw [ht]
    simp only [Bool.false_eq_true,if_false]
    cases h4:es.any (ztx (q:Int)) with
    | true=>
     refine .inr (.inr ?_)
     unfold or4
     rw [h4]
     simp only [if_true]
     obtain ⟨e,he,hc⟩:=List.any_eq_true.1 h4
     unfold ztx at hc
     simp only [Bool.and_eq_true,beq_iff_eq] at hc
     have hcode:=zh4 s3 hB.lt he hc.1
     refine ⟨rfl,rfl,rfl,rfl,e,he,by rw [hid'];exact hc.1,hc.2,by rw [←hcode];exact hB.se,?_⟩
     rw [←hcode]
     refine Ke hf ?_
     rw [hfy',p7]
     exact (zfz (s:=UI (rd.getD q 0)) (zdK hB.se).1 hB.nz hf ht).symm
    | false=>
     refine .inr (.inl ?_)
     unfold or4 or5
     rw [h4]
     simp only [Bool.false_eq_true,if_false]
     refine ⟨rfl,rfl,rfl,?_,q,hid',fun a ha=>?_⟩
     ·
      exact zjM (zee s3 hB.lt hB.nz h4)
     ·
      obtain ⟨i,r,e1,e2,e3⟩:=zsd.1 ha
      have hi:=(List.getElem?_eq_some_iff.1 e2).1
      obtain ⟨w,hw⟩:∃ w,ws[i]? =some w:=⟨_,List.getElem?_eq_getElem (by have:=hB.wl;omega)⟩
      have e3:r.getD q 0=rd.getD q 0:=e3
      obtain ⟨z,g1,g2,g3⟩:=hB.read i w r hw e2 (by rw [e3];exact hB.nz)
      have hlz:z.lost=false:=by
       cases hz:z.lost with
       | false=>rfl
       | true=>exact absurd (e3.symm.trans (g3.1 hz)) hB.nl
      refine ⟨i,w,r,z,e1,hw,e2,by rw [hB.len r (List.mem_of_getElem? e2)];exact hB.lt,by rw [e3];exact hB.nz,g1,hlz,.inl (Ke hf ?_)⟩
      unfold YJ at g2
      rw [if_neg (by rw [hlz];simp),e3] at g2
      rw [hfy',p7]
      exact (zfz g2 hB.nz hf ht).symm
end
end Go.Proofs.YtodakphagkommaaGreatDoor.R
namespace Go.Proofs.YtodakphagkommaaGreatDoor.R
open Go Go.Kn Go.Proofs
theorem zsg {z:Int}{n:Nat}(h:0≤z∧z≤65535)(hn:n≠0):∃ w:Nat,(IntKind.i64.wrap z).tmod n=w∧w<n:=by
 have e:IntKind.i64.wrap z=z:=by unfold IntKind.wrap IntKind.signed IntKind.bits;simp;omega
 rw [e]
 have h0:(0:Int)<n:=by omega
 have h1:=Int.tmod_nonneg (n:Int) h.1
 have h2:=Int.tmod_lt_of_pos z h0
 exact ⟨(z.tmod n).toNat,by omega,by omega⟩
def smP (x:Sg)(f:Int)(e:Em):Bool:=(e.locus==x.id&&e.reason==2)&&Vl e.code==0&&WK (U1 (UI e.code) f) (U1 x f)
theorem zhR {x:Sg}{f:Int}{es:List Em}{k:Nat}{e:Em}(h:es[k]? =some e):(es.take (k+1)).any (smP x f)=((es.take k).any (smP x f)||smP x f e):=UW h _
theorem zt3 {x:Sg}{f:Int}{es:List Em}{o:Og}(h:zye es x f o){n k:Nat}(hn:es.length=n)(hk:n≤k):(es.take k).any (smP x f)=true:=by
 rw [List.take_of_length_le (by omega),List.any_eq_true]
 obtain ⟨e,he,a,b,c,d⟩:=h.ok
 refine ⟨e,he,?_⟩
 unfold smP
 rw [d,KM]
 simp [a,b,c]
theorem zqV {ps:List Pt}{vs:List Int}{x:Sg}{f:Int}{o:Og}(hL:Lst ps)(h:zzp ps vs x f o){n k:Nat}(hn:ps.length=n)(hk:n≤k):zss o.ps ps k=o.ps.length:=by
 unfold zss
 rw [List.take_of_length_le (by omega)]
 exact zla hL.inc h.mem
end Go.Proofs.YtodakphagkommaaGreatDoor.R
end
namespace Go.Proofs.YtodakphagkommaaGreatDoor.R
section
open Go Go.Kn Go.Proofs
theorem zlG:CvT Tryz.prog 47 3 .i64:=⟨by kernel_rfl,by kernel_rfl⟩
theorem Xl:Fun Tryz.prog 21:=.of Tryz.func21 (by kernel_rfl) (by kernel_rfl)
theorem zpe:Fun Tryz.prog 22:=.of Tryz.func22 (by kernel_rfl) (by kernel_rfl)
theorem w_lValue {I:Qu}{av:Option Addr}{n c:Nat}{ws:List Wr}(hW0:SlW I av n c ws)(hnb:n≤9223372036854775807){bv:Option Addr}{n2 c2:Nat}{rows:List (List Int)}(hVn:SlN I bv n2 c2 rows){ea1:Option Addr}{en1 ec1:Nat}{ea2:Option Addr}{en2 ec2:Nat}{ea3:Option Addr}{en3 ec3:Nat}{xs:List Int}{es:List Em}{rd:List Int}(hX1:Sl I 1 QQ ea1 en1 ec1 xs)(hX2:Sl I 3 YB ea2 en2 ec2 es)(hX3:Sl I 1 QQ ea3 en3 ec3 rd)(no:Int){pv:Option Addr}{pn pc:Nat}{ps:List Pt}(hP:SlP I pv pn pc ps){dv:Option Addr}{n3 c3:Nat}{vs:List Int}(hVs:Sl I 1 QQ dv n3 c3 vs)(hDb:VT I)(z:Int)(hz:0≤z∧z≤65535):Zy Tryz.prog 5 [.slice av n c,.slice bv n2 c2,.agg (Z3 no ea1 en1 ec1 ea2 en2 ec2 ea3 en3 ec3).toArray,.slice pv pn pc,.slice dv n3 c3,.int .u16 z] I (.bool true):=by
 intro g H w hw
 refine qe Tryz.func5 Tryz.ntmps5 hw ?_
 have hIc:=zAh I
 have hVl:=hVn.len
 have hX1l:=hX1.len
 have hX2l:=hX2.len
 have hX3l:=hX3.len
 have hWl:=hW0.len
 have hPl:=hP.len
 have hVsl:=hVs.len
 refine zR ?_
 refine Q2 rfl rfl rfl (fun b_8=>?_)
 refine zA (zN (Ql (zR ?_)))
 refine qc (vs:=[]) rfl zxY (zwh hDb) ?_
 refine zO (zN ?_)
 refine zI ?_ ?_<;>intro hc37
 ·
  cases hc37
 refine Qn (Qa (zR (zM ?_)))
 refine zM ?_
 refine zV (Qo rfl Z5 (fun hg=>by exact Cells.g0) rfl) ?_
 refine zM ?_
 refine zM ?_
 refine Qz (cap:=[]) (vs:=[_,_,_,_,_]) rfl rfl zvB .nil (zzr hW0 hnb hVn hX1 hX2 hX3 no hP hVs hDb) rfl rfl ?_
 rintro vv1 I1 L1 hI1 ⟨rfl,sa,sn,sc,b1,rfl,hb1⟩
 have hW0:=hW0.mono hI1;have hVn:=hVn.mono hI1;have hX1:=hX1.mono hI1;have hX2:=hX2.mono hI1;have hX3:=hX3.mono hI1;have hP:=hP.mono hI1;have hVs:=hVs.mono hI1;have hDb:=hDb.mono hI1;have hIc:=hIc.trans hI1
 refine zM ?_
 refine zE ?_
 refine zE ?_
 refine zA ?_
 refine zA (zN (Ql (zR ?_)))
 refine zM ?_
 refine zO ?_
 refine zM ?_
 refine QR 2 rfl rfl rfl ?_
 refine zJ (Qi rfl) ?_
 refine zJ (Zr rfl YW) ?_
 refine zJ (QG rfl rfl rfl) ?_
 refine Zo rfl rfl rfl rfl rfl ?_
 refine zN ?_
 refine zI ?_ ?_<;>intro hc53
 ·
  refine zR (zA (zN (Qt (Qc ?_))))
  first
  | exact zp hIc rfl rfl (by rfl)
 have hb1t:b1=true∧sn≠0:=by have h:=hc53;cases b1<;>simp at h ⊢;omega
 obtain ⟨rfl,hsn0⟩:=hb1t
 obtain ⟨hf1,hs0,hSs⟩:=hb1 rfl
 obtain ⟨g1,g2,g3,g4,g5,g6,g7,g8,g9,g10⟩:=zkn hf1
 obtain ⟨hs1,hs2⟩:=ze9 hs0
 have hsn:(X5 (onF ps) (Vk ws rows no xs es rd) (Z9 ps vs)).length=sn:=hSs.len
 have hsnb:sn≤2000:=by rw [←hsn];have h1:=zsX (on:=onF ps) (base:=(Vk ws rows no xs es rd)) (l:=Z9 ps vs);have h2:=zb3 (ws:=ws) (rows:=rows) (no:=no) (cl:=xs) (es:=es) (rd:=rd);have h3:(Z9 ps vs).length≤600:=Nat.le_trans (List.length_filter_le _ _) g8;omega
 have hsrt:Srt (Vk ws rows no xs es rd):=ziM (zeS (UA hs2).2.2.2.1).2
 obtain ⟨zi,hzw,hzn⟩:=zsg (n:=sn) hz hsn0
 obtain ⟨s1,s2,s3,s4⟩:=zgY hs1
 obtain ⟨_,hrl,hrd64,_⟩:=zcq s1 s2 s3
 obtain ⟨x,hx⟩:=hSs.at hzn
 have hxm:=List.mem_of_getElem? hx
 refine Qn (Qa (zR (zM ?_)))
 refine zM ?_
 refine zV (JW rfl zlG) ?_
 refine zM ?_
 refine zQ YW ?_
 refine zV (ZP rfl rfl (fun hg=>by omega)) ?_
 rw [hzw]
 refine zV (zX YW hSs) ?_
 refine zV (Qo rfl Q9 (fun hg=>by exact zAi hSs hx) rfl) ?_
 refine Qs Wv rfl rfl (fun b_15=>?_)
 refine zh Ye ?_
 refine zN (zR ?_)
 refine ZL rfl rfl (fun r_62=>?_)
 refine zA (zN (Ql (zR ?_)))
 refine zM ?_
 refine zQ Qw ?_
 refine zM (zN (Qm ?_))
 refine zU [(0,_),(1,_),(3,_),(4,_),(8,_),(15,_),(16,_),(63,_),(64,_)] (fun T L0 mz E I' loc'=>∃ (k:Nat) (m:List (Int×Bool)),mz=n3-k∧E=(65,.int .i64 k)::T∧I1=I'∧[(r_62,ZQ (Value.int .i64) Value.bool m),(b_15,.cells (YU x).toArray 54 (0,0)),(b_8,.cells (Z3 no ea1 en1 ec1 ea2 en2 ec2 ea3 en3 ec3).toArray 26 (0,0))]=loc'∧k≤n3∧∀ z,zdn m z=zpm (vs.take k) z) ?_ (h:=⟨0,[],rfl,rfl,rfl,rfl,Nat.zero_le _,fun z=>rfl⟩)
 rintro mz E I' loc' ⟨k,m,rfl,rfl,rfl,rfl,hk,hm⟩
 refine zR (zC (zN (Ql ?_)))
 refine zI ?_ ?_<;>intro hc66
 ·
  have hlt_k:k<n3:=by have h:=hc66;simp at h;omega
  obtain ⟨y,hy0⟩:=hVs.at hlt_k
  refine Qn (Qa (Ql (Qm (zR ?_))))
  refine zV (zX Qw hVs) ?_
  refine zV (Qe rfl Qr (fun hg=>by exact zAa hVs hy0 rfl)) ?_
  refine zA (zN (Qg ?_))
  refine zM ?_
  refine zM ?_
  refine Q7 (m:=m) (ek:=Value.int .i64) (ev:=Value.bool) (a:=y) true za3 ZG rfl rfl rfl rfl (by repeat (first | exact Upd.here | apply Upd.there | apply QK)) ?_
  refine Qb (Qf (Qa (Qg (zB ?_))))
  refine zM (Qb ?_)
  exact zm (h:=⟨n3-(k+1),by omega,k+1,_,rfl,rfl,rfl,rfl,by omega,fun z=>by rw [WG,hm,zkA hy0]⟩)
 have hge_k:n3≤k:=by have h:=hc66;simp at h;omega
 have hm:∀ z,zdn m z=zpm vs z:=fun z=>by rw [hm,List.take_of_length_le (by omega)]
 refine QI (Qh (Qh (Qk (Qa (Ql (zR (zA ?_)))))))
 refine zN (Qm ?_)
 refine zU [(0,_),(1,_),(3,_),(4,_),(8,_),(15,_),(16,_)] (fun T L0 mz E I' loc'=>∃ (j:Nat),mz=9-j∧E=(19,.int .i64 ((j:Int)+1))::T∧HLe I1 I'∧[(r_62,ZQ (Value.int .i64) Value.bool m),(b_15,.cells (YU x).toArray 54 (0,0)),(b_8,.cells (Z3 no ea1 en1 ec1 ea2 en2 ec2 ea3 en3 ec3).toArray 26 (0,0))]=loc'∧j≤9) ?_ (h:=⟨0,rfl,rfl,zAh _,rfl,Nat.zero_le _⟩)
 rintro mz E J3 loc' ⟨j,rfl,rfl,hJ,rfl,hj⟩
 have hW0:=hW0.mono hJ;have hVn:=hVn.mono hJ;have hX1:=hX1.mono hJ;have hX2:=hX2.mono hJ;have hX3:=hX3.mono hJ;have hP:=hP.mono hJ;have hVs:=hVs.mono hJ;have hDb:=hDb.mono hJ;have hSs:=hSs.mono hJ;have hIc:=hIc.trans hJ
 have hB2:=hJ
 refine Ql (zR (zM ?_))
 refine zC (zN ?_)
 refine zI ?_ ?_<;>intro hc73
 ·
  have hlt_j:j<9:=by have h:=hc73;simp only [decide_eq_true_eq] at h;omega
  have hjf:isF ((j:Int)+1):=by unfold isF;omega
  have hoe1:=ztj hs0 hjf ⟨x,hxm,rfl⟩
  refine Qn (Qa (Ql (Qm (zR (zM ?_)))))
  refine zM ?_
  refine zV (Qo rfl Z5 (fun hg=>by exact Cells.g2) rfl) ?_
  refine zM ?_
  refine zM ?_
  refine zF ZM ?_
  refine zL Qr ?_
  refine zM ?_
  refine Qz (cap:=[]) (vs:=[_,_,_,_,_,_,_]) rfl rfl zcT .nil (zfL hW0 (by omega) hVn (by omega) hX1 hX2 hX3 (by omega) (by omega) (by omega) no hP (by omega) hVs (by omega) hDb x.id ((j:Int)+1)) rfl rfl ?_
  rintro vv4 I4 L4 hI4 ⟨rfl,_,rfl,a1,b1q,d1,a2,b2q,d2,rfl,hw1,hz1⟩
  have hW0:=hW0.mono hI4;have hVn:=hVn.mono hI4;have hX1:=hX1.mono hI4;have hX2:=hX2.mono hI4;have hX3:=hX3.mono hI4;have hP:=hP.mono hI4;have hVs:=hVs.mono hI4;have hSs:=hSs.mono hI4;have hB2:=hB2.trans hI4
  rw [hoe1,zt2]
  rw [hoe1,zt2] at hw1 hz1
  have hval:=zq7 hs1 hs2 hxm hjf
  have hob:=zmB (on:=onF ps) (rows:=rows) (es:=es) (rd:=rd) (l:=Z9 ps vs) (s:=x.id) (f:=(j:Int)+1)
  obtain ⟨o,hod⟩:∃ o,o=(zaK (onF ps) rows es rd (Z9 ps vs) x.id ((j:Int)+1)):=⟨_,rfl⟩
  rw [←hod]
  rw [←hod] at hw1 hz1 hval hob
  have hwl:=hw1.len
  have hzl:=hz1.len
  refine zM ?_
  refine zE ?_
  refine zE ?_
  refine Qs W6 rfl rfl (fun b_20=>?_)
  refine zh VY ?_
  refine zA (zN (Ql (zR ?_)))
  refine zM ?_
  refine zC (zN ?_)
  refine zI ?_ ?_<;>intro hc89
  ·
   cases hc89
  refine Qn (Qa (zR ?_))
  refine zF XC ?_
  refine zL Qr ?_
  refine zN (Qm (zR (zC ?_)))
  refine zA (zN ?_)
  refine zI ?_ ?_<;>intro hc92
  ·
   have hA:zzp ps vs x ((j:Int)+1) o:=by rcases hval with h | h | h<;>first | exact h | (exfalso;rw [h.k] at hc92;revert hc92;decide)
   have hAl:=hA.len
   refine zR (zA (zN (Ql (zR ?_))))
   refine zM ?_
   refine zQ ZB ?_
   refine zM (zN (Qm ?_))
   refine zU [(0,_),(1,_),(3,_),(4,_),(8,_),(15,_),(16,_),(19,_),(20,_),(94,_),(95,_)] (fun T L0 mz E I' loc'=>∃ (k:Nat) (fd:Nat),mz=pn-k∧E=(22,.int .i64 fd)::(96,.int .i64 k)::T∧I4=I'∧[(b_20,.cells [.int .i64 o.k,.int .i64 o.r,.slice a1 b1q d1,.slice a2 b2q d2].toArray 38 (0,0)),(r_62,ZQ (Value.int .i64) Value.bool m),(b_15,.cells (YU x).toArray 54 (0,0)),(b_8,.cells (Z3 no ea1 en1 ec1 ea2 en2 ec2 ea3 en3 ec3).toArray 26 (0,0))]=loc'∧k≤pn∧fd=zss o.ps ps k∧fd≤k*600) ?_ (h:=⟨0,0,rfl,rfl,rfl,rfl,Nat.zero_le _,rfl,Nat.le_refl _⟩)
   rintro mz E I' loc' ⟨k,fd,rfl,rfl,rfl,rfl,hk,hfd,hfb⟩
   refine zR (zC (zN (Ql ?_)))
   refine zI ?_ ?_<;>intro hc97
   ·
    have hlt_k:k<pn:=by have h:=hc97;simp at h;omega
    obtain ⟨p,hp⟩:=hP.1.at hlt_k
    refine Qn (Qa (Ql (Qm (zR ?_))))
    refine zV (QE rfl rfl ZB hP.1 (fun hg=>by omega)) ?_
    refine zV (Qo rfl Yv (fun hg=>by exact zAi hP.1 hp) rfl) ?_
    refine Qs Uu rfl rfl (fun b_24=>?_)
    refine zh V9 ?_
    refine zN (zR ?_)
    refine zF JQ ?_
    refine zL QJ ?_
    refine zQ Qw ?_
    refine zM (zN (Qm ?_))
    refine zU [(0,_),(1,_),(3,_),(4,_),(8,_),(15,_),(16,_),(19,_),(20,_),(24,_),(94,_),(95,_),(96,_),(101,_),(102,_)] (fun T L0 mz E I' loc'=>∃ (t:Nat) (fd:Nat),mz=b2q-t∧E=(22,.int .i64 fd)::(103,.int .i64 t)::T∧I4=I'∧[(b_24,.cells (Yx p).toArray 57 (0,0)),(b_20,.cells [.int .i64 o.k,.int .i64 o.r,.slice a1 b1q d1,.slice a2 b2q d2].toArray 38 (0,0)),(r_62,ZQ (Value.int .i64) Value.bool m),(b_15,.cells (YU x).toArray 54 (0,0)),(b_8,.cells (Z3 no ea1 en1 ec1 ea2 en2 ec2 ea3 en3 ec3).toArray 26 (0,0))]=loc'∧t≤b2q∧fd=zss o.ps ps k+(o.ps.take t).count p.id∧fd≤k*600+t) ?_ (h:=⟨0,fd,rfl,rfl,rfl,rfl,Nat.zero_le _,by rw [List.take_zero,List.count_nil,Nat.add_zero];exact hfd,by rw [Nat.add_zero];exact hfb⟩)
    rintro mz E I' loc' ⟨t,fd,rfl,rfl,rfl,rfl,ht,hfd2,hfb2⟩
    refine zR (zC (zN (Ql ?_)))
    refine zI ?_ ?_<;>intro hc104
    ·
     have hlt_t:t<b2q:=by have h:=hc104;simp at h;omega
     obtain ⟨y,hy⟩:=hz1.at hlt_t
     refine Qn (Qa (Ql (Qm (zR ?_))))
     refine zV (zX Qw hz1) ?_
     refine zV (Qe rfl Qr (fun hg=>by exact zAa hz1 hy rfl)) ?_
     refine zA (zN (Ql (zR ?_)))
     refine zF Zw ?_
     refine zL Qr ?_
     refine zM ?_
     refine zC (zN ?_)
     refine zI ?_ ?_<;>intro hc110
     ·
      have hpy:p.id≠y:=by simpa using hc110
      refine QI (Qh (Qk (Qa (Qg (zB ?_)))))
      refine zM (Qb ?_)
      first
      | exact zm (h:=⟨b2q-(t+1),by omega,t+1,fd,rfl,rfl,rfl,rfl,by omega,by rw [zuo hy hpy];exact hfd2,by omega⟩)
     have hpy:p.id=y:=by simpa using hc110
     obtain ⟨v1,v2,v3,v4,v5⟩:=hA.ok p (List.mem_of_getElem? hp) (by rw [hpy];exact List.mem_of_getElem? hy)
     have v6:(p.kind==3)=false:=by simpa using v3
     have v7:(p.kind==1&&p.field != ((j:Int)+1))=false:=by by_cases e:p.kind=1<;>simp [e,v4]
     have v8:WK (U1 p.nw ((j:Int)+1)) (U1 x ((j:Int)+1))=true:=by rw [v5];exact KM _
     refine Qn (Qa (zR (zM ?_)))
     refine zB ?_
     refine zA (zN (Ql ?_))
     refine YF mixed (by kernel_rfl) ?_
     refine zq (Qi rfl) ?_
     refine zq (Qi rfl) ?_
     refine zq (Ya (m:=m) za3 ZG rfl rfl (fun _=>.inr (by simp))) ?_
     refine zq (Ve rfl) ?_
     refine zq (Qi rfl) ?_
     refine ZZ 4 rfl rfl rfl ?_
     refine zj (Qd rfl Yc) ?_
     refine zj (Qe rfl Qr (fun hg=>by exact QT.h0 rfl)) ?_
     refine zj (Qd rfl ZM) ?_
     refine zj (Qe rfl Qr (fun hg=>by exact QT.h3 rfl)) ?_
     refine zj (QG rfl rfl rfl) ?_
     refine VS rfl rfl rfl rfl rfl ?_
     refine zq (Qi rfl) ?_
     refine ZZ 11 rfl rfl rfl ?_
     refine zj (Qd rfl JY) ?_
     refine zj (Qe rfl Qr (fun hg=>by exact QT.h0 rfl)) ?_
     refine zj (QG rfl rfl rfl) ?_
     refine VS rfl rfl rfl rfl rfl ?_
     refine zq (Qi rfl) ?_
     refine ZZ 16 rfl rfl rfl ?_
     refine zj (Qd rfl JY) ?_
     refine zj (Qe rfl Qr (fun hg=>by exact QT.h0 rfl)) ?_
     refine zj (QG rfl rfl rfl) ?_
     refine zj (Qi rfl) ?_
     refine JX 20 rfl rfl rfl ?_
     refine zk (Qd rfl Jn) ?_
     refine zk (Qe rfl Qr (fun hg=>by exact QT.h0 rfl)) ?_
     refine zk (Qi rfl) ?_
     refine zk (QG rfl rfl rfl) ?_
     refine zaC rfl rfl rfl (.some rfl rfl rfl rfl gbf) rfl rfl ?_
     refine VS rfl rfl rfl rfl rfl ?_
     refine zq (Qi rfl) ?_
     refine ZZ 27 rfl rfl rfl ?_
     refine zj (Qd rfl VO) ?_
     refine zj (Qo rfl Q9 (fun hg=>by exact Cells.s0 (vs:=[_,_,_,_,_,_,_,_,_,_,_,_,_,_]) rfl) rfl) ?_
     refine zj (Qi rfl) ?_
     refine Yn (cap:=[]) (vs:=[_,_]) rfl rfl Xl (fun hg=>zcX _ p.nw _) (.some rfl rfl rfl rfl gbf) rfl rfl ?_
     refine zj (Qo rfl Q9 (fun hg=>by exact Cells.g3) rfl) ?_
     refine zj (Qi rfl) ?_
     refine Yn (cap:=[]) (vs:=[_,_]) rfl rfl Xl (fun hg=>zcX _ x _) (.some rfl rfl rfl rfl gbf) rfl rfl ?_
     refine zj (zaO rfl rfl Ks rfl) ?_
     refine VS rfl rfl rfl rfl rfl ?_
     refine YK ?_
     refine Qa ?_
     refine zI ?_ ?_<;>intro hc149
     ·
      exfalso
      have h:(((((!zdn m y||p.sign != x.id)||p.kind==3)||(p.kind==1&&p.field != ((j:Int)+1)))|| !WK (U1 p.nw ((j:Int)+1)) (U1 x ((j:Int)+1))))=true:=hc149
      rw [hm,←hpy,v1,v2,v6,v7,v8] at h
      simp at h
     refine Qn (Qf (Qa (Qg (zB ?_))))
     refine zM (Qb ?_)
     first
     | exact zm (h:=⟨b2q-(t+1),by omega,t+1,(fd+1),rfl,rfl,rfl,rfl,by omega,by rw [zr9 hy hpy];omega,by omega⟩)
    have hge_t:b2q≤t:=by have h:=hc104;simp at h;omega
    refine QI (Qh (Qh (Qk (Qf (Qa (Qg (zB ?_)))))))
    refine zM (Qb ?_)
    exact zm (h:=⟨pn-(k+1),by omega,k+1,_,rfl,rfl,rfl,rfl,by omega,by rw [zlH hp,hfd2,List.take_of_length_le (by omega)],by omega⟩)
   have hge_k:pn≤k:=by have h:=hc97;simp at h;omega
   have hfe:=zqV (UA hs2).1.lst hA hPl hge_k
   refine QI (Qh (Qh (Qk (Qa (zR (zM ?_))))))
   refine zC ?_
   refine zM ?_
   refine QR 2 rfl rfl rfl ?_
   refine zJ (Qi rfl) ?_
   refine zJ (Qd rfl JQ) ?_
   refine zJ (Qe rfl QJ (fun hg=>by exact QT.h0 rfl)) ?_
   refine zJ (Zr rfl Qw) ?_
   refine zJ (QG rfl rfl rfl) ?_
   refine Zo rfl rfl rfl rfl rfl ?_
   refine zM ?_
   refine QR 9 rfl rfl rfl ?_
   refine zJ (Qd rfl U6) ?_
   refine zJ (Qe rfl Qr (fun hg=>by exact QT.h0 rfl)) ?_
   refine zJ (QG rfl rfl rfl) ?_
   refine Zo rfl rfl rfl rfl rfl ?_
   refine zM ?_
   refine QR 14 rfl rfl rfl ?_
   refine zJ (Qd rfl Uq) ?_
   refine zJ (Qe rfl QJ (fun hg=>by exact QT.h0 rfl)) ?_
   refine zJ (Zr rfl Qw) ?_
   refine zJ (QG rfl rfl rfl) ?_
   refine Zo rfl rfl rfl rfl rfl ?_
   refine zN ?_
   refine zI ?_ ?_<;>intro hc171
   ·
    exfalso
    have h:=hc171
    have h1:=hA.ne
    have h2:=hA.r
    have h3:o.ws.length=0:=by rw [hA.ws];rfl
    simp only [Bool.or_eq_true,beq_iff_eq,bne_iff_ne,decide_eq_true_eq] at h
    omega
   refine Qn (Qf (Qf (Qa (Qg (zM ?_)))))
   refine zB ?_
   refine zA (Qb ?_)
   exact zm (h:=⟨9-(j+1),by omega,j+1,rfl,rfl,hB2,rfl,by omega⟩)
  refine zR (zC ?_)
  refine zA (zN ?_)
  refine zI ?_ ?_<;>intro hc172
  ·
   have hB:zzB ws rows x ((j:Int)+1) o:=by rcases hval with h | h | h<;>first | exact h | (exfalso;rw [h.k] at hc172;revert hc172;decide)
   obtain ⟨q,hxq,hBok⟩:=hB.ok
   refine Ql (zR ?_)
   refine zF Uq ?_
   refine zL QJ ?_
   refine zQ Qw ?_
   refine zC ?_
   refine zM ?_
   refine QR 4 rfl rfl rfl ?_
   refine zJ (Qd rfl U6) ?_
   refine zJ (Qe rfl Qr (fun hg=>by exact QT.h0 rfl)) ?_
   refine zJ (QG rfl rfl rfl) ?_
   refine Zo rfl rfl rfl rfl rfl ?_
   refine zM ?_
   refine QR 9 rfl rfl rfl ?_
   refine zJ (Qd rfl JQ) ?_
   refine zJ (Qe rfl QJ (fun hg=>by exact QT.h0 rfl)) ?_
   refine zJ (Zr rfl Qw) ?_
   refine zJ (QG rfl rfl rfl) ?_
   refine Zo rfl rfl rfl rfl rfl ?_
   refine zN ?_
   refine zI ?_ ?_<;>intro hc188
   ·
    exfalso
    have h:=hc188
    have h1:=hB.ne
    have h2:=hB.r
    have h3:o.ps.length=0:=by rw [hB.ps];rfl
    simp only [Bool.or_eq_true,beq_iff_eq,bne_iff_ne,decide_eq_true_eq] at h
    omega
   refine Qn (Qa (zR ?_))
   refine zF Uq ?_
   refine zL QJ ?_
   refine zQ Qw ?_
   refine zM (zN (Qm ?_))
   refine zU [(0,_),(1,_),(3,_),(4,_),(8,_),(15,_),(16,_),(19,_),(190,_),(191,_)] (fun T L0 mz E I' loc'=>∃ (t:Nat),mz=b1q-t∧E=(192,.int .i64 t)::T∧I4=I'∧[(b_20,.cells [.int .i64 o.k,.int .i64 o.r,.slice a1 b1q d1,.slice a2 b2q d2].toArray 38 (0,0)),(r_62,ZQ (Value.int .i64) Value.bool m),(b_15,.cells (YU x).toArray 54 (0,0)),(b_8,.cells (Z3 no ea1 en1 ec1 ea2 en2 ec2 ea3 en3 ec3).toArray 26 (0,0))]=loc'∧t≤b1q) ?_ (h:=⟨0,rfl,rfl,rfl,rfl,Nat.zero_le _⟩)
   rintro mz E I' loc' ⟨t,rfl,rfl,rfl,rfl,ht⟩
   refine zR (zC (zN (Ql ?_)))
   refine zI ?_ ?_<;>intro hc193
   ·
    have hlt_t:t<b1q:=by have h:=hc193;simp at h;omega
    obtain ⟨a,ha⟩:=hw1.at hlt_t
    obtain ⟨i,w,r,y,rfl,q1,q2,q3,q4,q5,q6,q7⟩:=hBok a (List.mem_of_getElem? ha)
    have hi9:=(List.getElem?_eq_some_iff.1 q1).1
    have hi8:=(List.getElem?_eq_some_iff.1 q2).1
    obtain ⟨wt,hWH⟩:=id hW0
    obtain ⟨wh,hwt⟩:∃ wh,wt[i]? =some wh:=hWH.1.at (by omega)
    have hWR:=(hWH.2.2 i wh w hwt q1).2.2
    have hWRl:=hWR.len
    have hWRb:=g2 w (List.mem_of_getElem? q1)
    obtain ⟨hs9,hVH⟩:=id hVn
    have hHH:=hVH.1
    obtain ⟨hh,rx,hhx,hrx,hQ⟩:=hVH.at (k:=i) (by omega)
    obtain rfl:rx=r:=Option.some.inj (hrx.symm.trans q2)
    have hQl:=hQ.len
    have hrl9:=hrl rx (List.mem_of_getElem? q2)
    have hread:=zw3 hWR (by omega) hQ (by omega) wh.no wh.yr q (by omega) q4 q5
    rw [←hxq] at hread
    refine Qn (Qa (Ql (Qm (zR ?_))))
    refine zV (zX Qw hw1) ?_
    refine zV (Qe rfl Qr (fun hg=>by exact zAa hw1 ha rfl)) ?_
    refine zA (zN (Ql (zR ?_)))
    refine zM ?_
    refine zC ?_
    refine zM ?_
    refine QR 2 rfl rfl rfl ?_
    refine zJ (Qi rfl) ?_
    refine zJ (Qi rfl) ?_
    refine zJ (Zr rfl Y9) ?_
    refine zJ (QG rfl rfl rfl) ?_
    refine Zo rfl rfl rfl rfl rfl ?_
    refine zN ?_
    refine zI ?_ ?_<;>intro hc203
    ·
     exfalso;have h:=hc203;simp only [Bool.or_eq_true,decide_eq_true_eq] at h;omega
    refine Qn (Qa (Ql ?_))
    have hD:=zAh I4
    refine Jl ?_
    refine Z0 I4 [(b_15,.cells (YU x).toArray 54 (0,0))] mixed ?_
    refine zT 0 rfl (Qi rfl) hD ?_
    refine zT 1 rfl (Qi rfl) hD ?_
    refine zT 2 rfl (QE rfl rfl Y9 hWH.1 (fun hg=>by omega)) hD ?_
    refine zT 3 rfl (Qo rfl zas (fun hg=>by exact zAi hWH.1 hwt) rfl) hD ?_
    refine zT 4 rfl (Qi rfl) hD ?_
    refine zT 5 rfl (Qi rfl) hD ?_
    refine zT 6 rfl (zX Zp hHH) hD ?_
    refine zT 7 rfl (Qe rfl QJ (fun hg=>by exact zAa hHH hhx rfl)) hD ?_
    refine zT 8 rfl (Qd rfl ZM) hD ?_
    refine zT 9 rfl (Qe rfl Qr (fun hg=>by exact QT.h0 rfl)) hD ?_
    refine Zt 10 14 rfl rfl (by kernel_rfl) ?_ ?_
    ·
     refine qc (vs:=[_,_,_]) rfl zpe (hread) ?_
     refine Qb ?_
     refine zD hD ?_
     refine zT 11 rfl (Qi rfl) hD ?_
     refine zT 12 rfl (VG rfl rfl) hD ?_
     refine zT 13 rfl (VG rfl rfl) hD ?_
     refine qd 14 rfl ?_
     refine Qs zfd rfl rfl (fun b_29=>?_)
     refine Qb ?_
     refine zD hD ?_
     refine qd 15 rfl ?_
     refine zh zaH ?_
     refine Qb ?_
     refine zD hD ?_
     refine zT 16 rfl (ZF rfl) hD ?_
     refine QF (by kernel_rfl) ?_
     refine QO ?_
     refine Qa (Ql ?_)
     refine YF mixed (by kernel_rfl) ?_
     refine zq (Qi rfl) ?_
     refine zq (Ve rfl) ?_
     refine zq (Qi rfl) ?_
     refine ZZ 2 rfl rfl rfl ?_
     refine zj (Qd rfl Vp) ?_
     refine zj (Qe rfl zax (fun hg=>by exact QT.h0 rfl)) ?_
     refine VS rfl rfl rfl rfl rfl ?_
     refine zq (Qi rfl) ?_
     refine ZZ 6 rfl rfl rfl ?_
     refine zj (Qd rfl VP) ?_
     refine zj (Qo rfl Q9 (fun hg=>by exact Cells.s0 (vs:=[_,_,_,_,_,_,_,_,_,_,_,_,_,_]) rfl) rfl) ?_
     refine zj (Qi rfl) ?_
     refine Yn (cap:=[]) (vs:=[_,_]) rfl rfl Xl (fun hg=>zcX _ y.sg _) (.some rfl rfl rfl rfl gbf) rfl rfl ?_
     refine zj (Qo rfl Q9 (fun hg=>by exact Cells.g3) rfl) ?_
     refine zj (Qi rfl) ?_
     refine Yn (cap:=[]) (vs:=[_,_]) rfl rfl Xl (fun hg=>zcX _ x _) (.some rfl rfl rfl rfl gbf) rfl rfl ?_
     refine zj (zaO rfl rfl Ks rfl) ?_
     refine zj (Qi rfl) ?_
     refine JX 15 rfl rfl rfl ?_
     refine zk (Qi rfl) ?_
     refine zk (QG rfl rfl rfl) ?_
     refine zk (Qi rfl) ?_
     refine ZZ 18 rfl rfl rfl ?_
     refine zj (Qd rfl Y4) ?_
     refine zj (Qe rfl Qr (fun hg=>by exact QT.h3 rfl)) ?_
     refine zj (QG rfl rfl rfl) ?_
     refine zo4 rfl rfl rfl (.some rfl rfl rfl rfl gbt) rfl rfl ?_
     refine zaC rfl rfl rfl (.some rfl rfl rfl rfl gbf) rfl rfl ?_
     refine VS rfl rfl rfl rfl rfl ?_
     refine YK ?_
     refine Qa ?_
     refine zI ?_ ?_<;>intro hc242
     ·
      exfalso
      have h:((!true||y.lost)||(!WK (U1 y.sg ((j:Int)+1)) (U1 x ((j:Int)+1))&&(((j:Int)+1) != 3||x.mark != 3)))=true:=hc242
      rw [q6] at h
      rcases q7 with e | ⟨e1,e2⟩
      ·
       rw [e,KM] at h;simp at h
      rw [e1,e2] at h;simp at h
     refine Qn (Qf (Qa (Qg (zB ?_))))
     refine zM (Qb ?_)
     exact zm (h:=⟨b1q-(t+1),by omega,t+1,rfl,rfl,rfl,rfl,by omega⟩)
    refine Qs zfd rfl rfl (fun b_29=>?_)
    refine Qb ?_
    refine zD hD ?_
    refine qd 10 rfl ?_
    refine qc (vs:=[_,_,_]) rfl zpe (hread) ?_
    refine Qb ?_
    refine zD hD ?_
    refine zT 11 rfl (Qi rfl) hD ?_
    refine zT 12 rfl (VG rfl rfl) hD ?_
    refine zT 13 rfl (VG rfl rfl) hD ?_
    refine qd 15 rfl ?_
    refine zh zaH ?_
    refine Qb ?_
    refine zD hD ?_
    refine zT 16 rfl (ZF rfl) hD ?_
    refine QF (by kernel_rfl) ?_
    refine QO ?_
    refine Qa (Ql ?_)
    refine YF mixed (by kernel_rfl) ?_
    refine zq (Qi rfl) ?_
    refine zq (Ve rfl) ?_
    refine zq (Qi rfl) ?_
    refine ZZ 2 rfl rfl rfl ?_
    refine zj (Qd rfl Vp) ?_
    refine zj (Qe rfl zax (fun hg=>by exact QT.h0 rfl)) ?_
    refine VS rfl rfl rfl rfl rfl ?_
    refine zq (Qi rfl) ?_
    refine ZZ 6 rfl rfl rfl ?_
    refine zj (Qd rfl VP) ?_
    refine zj (Qo rfl Q9 (fun hg=>by exact Cells.s0 (vs:=[_,_,_,_,_,_,_,_,_,_,_,_,_,_]) rfl) rfl) ?_
    refine zj (Qi rfl) ?_
    refine Yn (cap:=[]) (vs:=[_,_]) rfl rfl Xl (fun hg=>zcX _ y.sg _) (.some rfl rfl rfl rfl gbf) rfl rfl ?_
    refine zj (Qo rfl Q9 (fun hg=>by exact Cells.g3) rfl) ?_
    refine zj (Qi rfl) ?_
    refine Yn (cap:=[]) (vs:=[_,_]) rfl rfl Xl (fun hg=>zcX _ x _) (.some rfl rfl rfl rfl gbf) rfl rfl ?_
    refine zj (zaO rfl rfl Ks rfl) ?_
    refine zj (Qi rfl) ?_
    refine JX 15 rfl rfl rfl ?_
    refine zk (Qi rfl) ?_
    refine zk (QG rfl rfl rfl) ?_
    refine zk (Qi rfl) ?_
    refine ZZ 18 rfl rfl rfl ?_
    refine zj (Qd rfl Y4) ?_
    refine zj (Qe rfl Qr (fun hg=>by exact QT.h3 rfl)) ?_
    refine zj (QG rfl rfl rfl) ?_
    refine zo4 rfl rfl rfl (.some rfl rfl rfl rfl gbt) rfl rfl ?_
    refine zaC rfl rfl rfl (.some rfl rfl rfl rfl gbf) rfl rfl ?_
    refine VS rfl rfl rfl rfl rfl ?_
    refine YK ?_
    refine Qa ?_
    refine zI ?_ ?_<;>intro hc242
    ·
     exfalso
     have h:((!true||y.lost)||(!WK (U1 y.sg ((j:Int)+1)) (U1 x ((j:Int)+1))&&(((j:Int)+1) != 3||x.mark != 3)))=true:=hc242
     rw [q6] at h
     rcases q7 with e | ⟨e1,e2⟩
     ·
      rw [e,KM] at h;simp at h
     rw [e1,e2] at h;simp at h
    refine Qn (Qf (Qa (Qg (zB ?_))))
    refine zM (Qb ?_)
    exact zm (h:=⟨b1q-(t+1),by omega,t+1,rfl,rfl,rfl,rfl,by omega⟩)
   have hge_t:b1q≤t:=by have h:=hc193;simp at h;omega
   refine QI (Qh (Qh (Qk (Qf (Qf (Qa (Qg ?_)))))))
   refine zM ?_
   refine zB ?_
   refine zA (Qb ?_)
   exact zm (h:=⟨9-(j+1),by omega,j+1,rfl,rfl,hB2,rfl,by omega⟩)
  refine zR (zC ?_)
  refine zA (zN ?_)
  refine zI ?_ ?_<;>intro hc244
  ·
   have hC:zye es x ((j:Int)+1) o:=by rcases hval with h | h | h<;>first | exact h | (exfalso;rw [h.k] at hc244;revert hc244;decide)
   have hCw:o.ws.length=0:=by rw [hC.ws];rfl
   have hCp:o.ps.length=0:=by rw [hC.ps];rfl
   refine Ql (zR ?_)
   refine zF U6 ?_
   refine zL Qr ?_
   refine zC ?_
   refine zM ?_
   refine QR 3 rfl rfl rfl ?_
   refine zJ (Qd rfl Uq) ?_
   refine zJ (Qe rfl QJ (fun hg=>by exact QT.h0 rfl)) ?_
   refine zJ (Zr rfl Qw) ?_
   refine zJ (Qd rfl JQ) ?_
   refine zJ (Qe rfl QJ (fun hg=>by exact QT.h0 rfl)) ?_
   refine zJ (Zr rfl Qw) ?_
   refine zJ (ZR rfl rfl rfl (fun hg=>by omega)) ?_
   refine zJ (QG rfl rfl rfl) ?_
   refine Zo rfl rfl rfl rfl rfl ?_
   refine zN ?_
   refine zI ?_ ?_<;>intro hc258
   ·
    exfalso
    have h:=hc258
    have h2:=hC.r
    have h3:o.ps.length=0:=by rw [hC.ps];rfl
    have h4:o.ws.length=0:=by rw [hC.ws];rfl
    simp only [Bool.or_eq_true,bne_iff_ne,decide_eq_true_eq] at h
    omega
   refine Qn (Qa (zR (zA (zN (Ql (zR ?_))))))
   refine zF XJ ?_
   refine zL zgM ?_
   refine zQ KC ?_
   refine zM (zN (Qm ?_))
   refine zU [(0,_),(1,_),(3,_),(4,_),(8,_),(15,_),(16,_),(19,_),(260,_),(261,_)] (fun T L0 mz E I' loc'=>∃ (t:Nat) (sm:Bool),mz=en2-t∧E=(31,.bool sm)::(262,.int .i64 t)::T∧I4=I'∧[(b_20,.cells [.int .i64 o.k,.int .i64 o.r,.slice a1 b1q d1,.slice a2 b2q d2].toArray 38 (0,0)),(r_62,ZQ (Value.int .i64) Value.bool m),(b_15,.cells (YU x).toArray 54 (0,0)),(b_8,.cells (Z3 no ea1 en1 ec1 ea2 en2 ec2 ea3 en3 ec3).toArray 26 (0,0))]=loc'∧t≤en2∧(es.take t).any (smP x ((j:Int)+1))=sm) ?_ (h:=⟨0,false,rfl,rfl,rfl,rfl,Nat.zero_le _,rfl⟩)
   rintro mz E I' loc' ⟨t,sm,rfl,rfl,rfl,rfl,ht,hsm⟩
   refine zR (zC (zN (Ql ?_)))
   refine zI ?_ ?_<;>intro hc263
   ·
    have hlt_t:t<en2:=by have h:=hc263;simp at h;omega
    obtain ⟨e,he⟩:=hX2.at hlt_t
    refine Qn (Qa (Ql (Qm (zR ?_))))
    refine zV (zX KC hX2) ?_
    refine zV (Qo rfl zjD (fun hg=>by exact zAi hX2 he) rfl) ?_
    refine Qs zuC rfl rfl (fun b_33=>?_)
    refine zh zoJ ?_
    refine zN (zR ?_)
    refine zF X0 ?_
    refine zL Qr ?_
    refine qc (vs:=[_]) rfl zfr (zga _ _) ?_
    refine zM ?_
    refine zE ?_
    refine zE ?_
    refine Qs Wv rfl rfl (fun b_34=>?_)
    refine zh Ye ?_
    refine zA (zN (Ql ?_))
    refine YF mixed (by kernel_rfl) ?_
    refine zq (Qd rfl VR) ?_
    refine zq (Qe rfl Qr (fun hg=>by exact QT.h1 rfl)) ?_
    refine zq (Qd rfl ZM) ?_
    refine zq (Qe rfl Qr (fun hg=>by exact QT.h4 rfl)) ?_
    refine zq (QG rfl rfl rfl) ?_
    refine zq (Qi rfl) ?_
    refine JX 5 rfl rfl rfl ?_
    refine zk (Qd rfl XY) ?_
    refine zk (Qe rfl Qr (fun hg=>by exact QT.h1 rfl)) ?_
    refine zk (QG rfl rfl rfl) ?_
    refine ze1 rfl rfl rfl rfl rfl ?_
    refine zq (Qi rfl) ?_
    refine JX 10 rfl rfl rfl ?_
    refine zk (Qi rfl) ?_
    refine zk (QG rfl rfl rfl) ?_
    refine ze1 rfl rfl rfl rfl rfl ?_
    refine zq (Qi rfl) ?_
    refine JX 14 rfl rfl rfl ?_
    refine zk (Qo rfl Q9 (fun hg=>by exact Cells.g0) rfl) ?_
    refine zk (Qi rfl) ?_
    refine Yn (cap:=[]) (vs:=[_,_]) rfl rfl Xl (fun hg=>zcX _ (UI e.code) _) (.some rfl rfl rfl rfl gbt) rfl rfl ?_
    refine zk (Qo rfl Q9 (fun hg=>by exact Cells.g4) rfl) ?_
    refine zk (Qi rfl) ?_
    refine Yn (cap:=[]) (vs:=[_,_]) rfl rfl Xl (fun hg=>zcX _ x _) (.some rfl rfl rfl rfl gbt) rfl rfl ?_
    refine zk (zbq rfl rfl Ks rfl) ?_
    refine ze1 rfl rfl rfl rfl rfl ?_
    refine YK ?_
    refine Qa ?_
    refine zI ?_ ?_<;>intro hc294
    ·
     have hsp:smP x ((j:Int)+1) e=true:=hc294
     refine Qg (zA (Qb (Qf (Qa (Qg ?_)))))
     refine zB ?_
     refine zM (Qb ?_)
     exact zm (h:=⟨en2-(t+1),by omega,t+1,_,rfl,rfl,rfl,rfl,by omega,by rw [zhR he,hsp,Bool.or_true]⟩)
    have hsp:smP x ((j:Int)+1) e=false:=hc294
    refine Qn (Qf (Qa (Qg (zB ?_))))
    refine zM (Qb ?_)
    first
    | exact zm (h:=⟨en2-(t+1),by omega,t+1,_,rfl,rfl,rfl,rfl,by omega,by rw [zhR he,hsp,Bool.or_false];exact hsm⟩)
   have hge_t:en2≤t:=by have h:=hc263;simp at h;omega
   rw [zt3 hC hX2l hge_t] at hsm
   subst hsm
   refine QI (Qh (Qh (Qk (Qa (zR (zM ?_))))))
   refine zO (zN ?_)
   refine zI ?_ ?_<;>intro hc297
   ·
    cases hc297
   refine Qn (Qf (Qf (Qa (Qg (zM ?_)))))
   refine zB ?_
   refine zA (Qb ?_)
   exact zm (h:=⟨9-(j+1),by omega,j+1,rfl,rfl,hB2,rfl,by omega⟩)
  exfalso
  rcases hval with h | h | h
  ·
   rw [h.k] at hc92;revert hc92;decide
  ·
   rw [h.k] at hc172;revert hc172;decide
  rw [h.k] at hc244;revert hc244;decide
 have hge_j:9≤j:=by have h:=hc73;simp only [decide_eq_false_iff_not] at h;omega
 refine QI (Qh (Qh (Qk (Qa (zR (zA (zN ?_)))))))
 refine Qt ?_
 first
 | exact zp hIc rfl rfl (by rfl)
end
end Go.Proofs.YtodakphagkommaaGreatDoor.R
namespace Go.Kn
section
open Go Go.ChangeShapes Go.WideShapes Go.ChangeAt Go.RowKit
def JP (W:World):Qu:=fun b=>W.heap[b]?
theorem St.start (W:World):St W (JP W) (fun _=>none) [] W:=
 ⟨rfl,rfl,rfl,⟨Nat.le_refl _,Nat.le_refl _⟩,fun _ _ h=>h,(fun _ _ h=>by cases h),(fun _ _ h=>by cases h),fun _=>.inr rfl,(fun _ _ h=>by cases h),by simp⟩
theorem St.below {W w:World}{H:Qu}{loc:Loc}(h:St W (JP W) H loc w):Below W.heap.size W w:=
 ⟨h.os,h.tape,h.out,h.size.1,fun k hk=>by
  have e:W.heap[k]? =some W.heap[k]:=Array.getElem?_eq_getElem hk
  rw [h.imm k _ e,e]⟩
theorem Zy.law {P:Program}{f:FuncId}{args:List Value}{W:World}{v:Value}(h:Zy P f args (JP W) v):Calls P f args.toArray W fun e w'=>e= .returned v∧Below W.heap.size W w':=
 (h W _ W (St.start W)).mono fun _ _ ⟨he,hs⟩=>⟨he,hs.below⟩
theorem zbV {W w:World}{may:MemPlace→Prop}(h:Below W.heap.size W w):W.keptBut w may:=by
 refine ⟨h.os,h.output,fun i hi=>?_⟩
 rw [h.block i hi]
 rw [Array.getElem?_eq_getElem hi]
 cases W.heap[i]<;>simp
theorem Wm {H:Type}{enc:TypeId×Value→H}{P:Program}{W W':World}(hl:laidOutB P=true)(hB:Below W.heap.size W W')(sp:Nat→Bool):∀ (ts:List TypeId) (vs:List Value) (ds:List (DataW H)) (ps:List MemPlace),(∀ t∈ts,P.readableRec t=true∧t<P.types.size)→
  DataW.TrodAll enc P W 0 (fun _=>true) true ts vs ds ps→(∀ x∈ps,x.block<W.heap.size∧sp x.block=true)→DataW.TrodAll enc P W' 0 sp true ts vs ds ps
 | [],[],[],ps,_,h,_=>h
 | t::ts,v::vs,d::ds,ps,hr,⟨p,q,h1,h2,e⟩,hlt=>by
  subst e
  exact ⟨p,q,WideElems.Trod_stays hl (hr t (List.mem_cons_self ..)).1 (hr t (List.mem_cons_self ..)).2 h1 (fun x hx=>hB.same (hlt x (List.mem_append_left _ hx)).1) (fun x hx=>(hlt x (List.mem_append_left _ hx)).2),
   Wm hl hB sp ts vs ds q (fun t ht=>hr t (List.mem_cons_of_mem _ ht)) h2 (fun x hx=>hlt x (List.mem_append_right _ hx)),rfl⟩
theorem zmy {H:Type}{enc:TypeId×Value→H}{P:Program}{f:Func}{s:ChangeSpec}{again:Bool}{W W':World}{args:Array Value}{ds:List (DataW H)}{before:List MemPlace}{tb:TypeId}
  (hl:laidOutB P=true)(hr:f.resultTypes= #[tb])(hb:P.underlying tb=some .bool)(hv:s.vars=[])(hs:(s.fn H (ds++[]))= {results:=[.lit (.bool true)],args:=ds})(hrd:∀ t∈f.params.toList,P.readableRec t=true∧t<P.types.size)
  (hW:DataW.Whole enc P f.params.toList s.vars false W args.toList ds [] before)(hB:Below W.heap.size W W'):s.post enc P f false true false again W args (.bool true) W':=by
 have hlt:∀ x∈before,x.block<W.heap.size:=fun x hx=>by simpa using hW.lt x hx
 have hW0:=hW
 obtain ⟨p,q,hA,hV,rfl,hfz,_⟩:=hW
 rw [hv] at hV
 obtain ⟨_,rfl⟩:=trodVars_none hV
 rw [List.append_nil] at hlt hfz hW0
 have hres:∀ (b:Nat) (sp:Nat→Bool) (hd:Bool),DataW.TrodAll enc P W' b sp hd f.resultTypes.toList ((Value.bool true).resultList f.resultTypes.size) [.lit (.bool true)] []:=fun b sp hd=>by
  rw [hr];exact trodAll_mk1 (shut_bool hb true)
 have hargs:∀ sp:Nat→Bool,(∀ x∈p,sp x.block=true)→DataW.TrodAll enc P W' 0 sp true f.params.toList args.toList ds p:=fun sp h=>Wm hl hB sp _ _ _ _ hrd hA (fun x hx=>⟨hlt x hx,h x hx⟩)
 have hnil:∀ sp:Nat→Bool,DataW.TrodVars enc P W' sp s.vars [] []:=fun sp=>by rw [hv];rfl
 refine ⟨ds,[],p,[],p,[],hW0,?_,?_,?_,zbV hB,fun _=>?_⟩
 ·
  rw [hs];exact hres _ _ _
 ·
  rw [hs];exact hargs _ (fun x hx=>by simpa using hlt x hx)
 ·
  rw [hs];exact hnil _
 ·
  refine ⟨fun j t r ht hr'=>?_,[.lit (.bool true)]++ds,[],[]++p,⟨[]++p,[],trodAll_append (hargs _ (fun _ _=>rfl)) (hres _ _ _),hnil _,by simp,?_,fun h=>by cases h⟩,fun x hx _=>by simpa using hx⟩
  ·
   rw [hr] at ht hr'
   cases j with
   | zero=>simp [Value.resultList] at ht hr';subst ht;subst hr';exact okWide_bool_mk hb _
   | succ j=>simp at ht
  ·
   intro b off hx
   rw [hB.frozen (hlt _ (by simpa using hx))]
   exact hfz b off (by simpa using hx)
theorem zdH {W:World}{b o:Nat}{u:Value}(h:W.cell? ⟨b,o,none⟩=some u):QT (JP W) [] b o u:=by
 unfold World.cell? at h
 split at h
 ·
  rename_i c t fz hb
  simp only [Option.isSome_none,Bool.false_eq_true,if_false] at h
  exact ⟨c,t,fz,.inl hb,h⟩
 ·
  cases h
theorem KB {H:Type}{enc:TypeId×Value→H}{P:Program}{W:World}{t e:TypeId}{size fuel0:Nat}{cs:List Value}{x0:DataW H×List MemPlace}{α:Type}(enc':α→List Value)(ok:α→Prop)
  (ht:P.underlying t=some (.slice e))(hc:P.cellsOf e=size)(hpos:0<size)(hlen:∀ y,(enc' y).length=size)
  (hel:∀ fuel cs x,DataW.trod enc P W 0 (fun _=>true) true fuel e cs=some x→∃ y,ok y∧enc' y=cs)
  (hf':DataW.trod enc P W 0 (fun _=>true) true fuel0 t cs=some x0):∃ av n c xs,cs=[.slice av n c]∧Sl (JP W) size enc' av n c xs∧(∀ x∈xs,ok x)∧c≤maxLen:=by
 rcases Go.Deep.open_slice ht hf' with ⟨e1,_⟩ | ⟨a,len0,cap0,m,n,D,Pl,e1,hb,hl,hm,hmm,_,hx⟩
 ·
  subst e1
  exact ⟨none,0,0,[],rfl,.nil,(fun x hx=>by cases hx),Nat.zero_le _⟩
 ·
  subst e1
  have hlm:len0≤m:=by rw [hmm];simp;exact hl
  have each:∀ i,i<len0→∃ y,ok y∧W.cells? 0 (a.add (i*size)) size=some (enc' y):=fun i hi=>by
   obtain ⟨cs',h1,h2⟩:=hx i (by omega)
   obtain ⟨y,hy,e⟩:=hel _ _ _ h2
   rw [hc] at h1
   exact ⟨y,hy,by rw [h1,e]⟩
  have all:∀ k,k≤len0→∃ xs:List α,xs.length=k∧∀ i x,xs[i]? =some x→ok x∧W.cells? 0 (a.add (i*size)) size=some (enc' x):=by
   intro k
   induction k with
   | zero=>intro _;exact ⟨[],rfl,fun i x h=>by simp at h⟩
   | succ k ih=>
    intro hk
    obtain ⟨xs,hl',hxs⟩:=ih (by omega)
    obtain ⟨y,hy,hcy⟩:=each k (by omega)
    refine ⟨xs++[y],by simp [hl'],fun i x h=>?_⟩
    by_cases hi:i<xs.length
    ·
     rw [List.getElem?_append_left hi] at h;exact hxs i x h
    ·
     rw [List.getElem?_append_right (by omega)] at h
     have:i=k:=by have:=(List.getElem?_eq_some_iff.1 h).1;simp at this;omega
     subst this
     rw [hl'] at h;simp at h;subst h
     exact ⟨hy,hcy⟩
  obtain ⟨xs,hl',hxs⟩:=all len0 (Nat.le_refl _)
  have add0:∀ (b o n:Nat),(⟨b,o,none⟩:Addr).add n=⟨b,o+n,none⟩:=fun b o n=>by
   unfold Addr.add
   split
   ·
    rename_i e;subst e;rfl
   ·
    rfl
  have hspot:0<xs.length→a.spot=none:=fun hx=>by
   have hx0:xs[0]? =some xs[0]:=List.getElem?_eq_getElem hx
   have hp0:0<(enc' xs[0]).length:=by rw [hlen];exact hpos
   obtain ⟨_,h1,h2⟩:=World.cells?_some (hxs 0 _ hx0).2
   have h3:=h2 0 hpos
   rw [List.getElem?_eq_getElem hp0] at h3
   simpa [Addr.add] using World.cell?_spot h3
  have cellat:∀ i x,xs[i]? =some x→∀ j u,(enc' x)[j]? =some u→W.cell? ⟨a.block,a.off+i*size+j,none⟩=some u:=fun i x hx j u hu=>by
   obtain ⟨_,h1,h2⟩:=World.cells?_some (hxs i x hx).2
   have hj:j<size:=by rw [←hlen x];exact (List.getElem?_eq_some_iff.1 hu).1
   have h3:=h2 j hj
   rw [hu] at h3
   have hsp:=hspot (by have:=(List.getElem?_eq_some_iff.1 hx).1;omega)
   obtain ⟨b,o,sp⟩:=a
   simp only at hsp
   subst hsp
   rw [add0,add0] at h3
   exact h3
  refine ⟨some a,len0,cap0,xs,rfl,⟨hl',hl,fun hn=>?_,fun k x hx j u hu=>?_⟩,fun x hx=>?_,hm⟩
  ·
   have:=hspot (by omega)
   obtain ⟨b,o,sp⟩:=a
   simp only at this
   subst this;rfl
  ·
   exact zdH (cellat k x hx j u hu)
  ·
   obtain ⟨i,hi⟩:=List.getElem?_of_mem hx
   exact (hxs i x hi).1
theorem zb4 {H:Type}{enc:TypeId×Value→H}{P:Program}{W:World}{base:Nat}{t e:TypeId}{size:Nat}{v:Value}{d:DataW H}{p:List MemPlace}{α:Type}(enc':α→List Value)(ok:α→Prop)
  (ht:P.underlying t=some (.slice e))(hc:P.cellsOf e=size)(hpos:0<size)(hlen:∀ y,(enc' y).length=size)
  (hel:∀ fuel cs x,DataW.trod enc P W 0 (fun _=>true) true fuel e cs=some x→∃ y,ok y∧enc' y=cs)
  (hv:Value.okWide P W .any base t v)(h:DataW.Trod enc P W 0 (fun _=>true) true t v d p):∃ av n c xs,v= .slice av n c∧Sl (JP W) size enc' av n c xs∧(∀ x∈xs,ok x)∧c≤maxLen:=by
 obtain ⟨a0,len0,cap0,rfl⟩:=okWide_slice ht hv
 obtain ⟨fuel,hf⟩:=h
 obtain ⟨av,n,c,xs,e,h1,h2,h3⟩:=KB enc' ok ht hc hpos hlen hel (cs:=[.slice a0 len0 cap0]) (by simpa [Value.cells] using hf)
 cases e
 exact ⟨_,_,_,xs,rfl,h1,h2,h3⟩
theorem zdG {H:Type}{enc:TypeId×Value→H}{P:Program}{W:World}{e:TypeId}{k:IntKind}(he:P.underlying e=some (.int k))(hk:k= .i64)(fuel:Nat)(cs:List Value)(x:DataW H×List MemPlace)(h:DataW.trod enc P W 0 (fun _=>true) true fuel e cs=some x):
  ∃ y:Int,(-9223372036854775808≤y∧y≤9223372036854775807)∧[Value.int .i64 y]=cs:=by
 subst hk
 obtain ⟨v,hv⟩:∃ v,cs=[v]:=by
  have:=h
  cases fuel with
  | zero=>simp [DataW.trod] at this
  | succ m=>unfold DataW.trod at this;rw [he] at this;split at this<;>simp_all
 subst hv
 obtain ⟨n,e,_,w⟩:=DataW.trod_int he h
 cases e
 simp only [Lit.wf,Bool.and_eq_true,decide_eq_true_eq] at w
 exact ⟨n,w,rfl⟩
end
section
open Go
theorem Vo {H:Type}{enc:TypeId×Value→H}{P:Program}{W:World}{base:Nat}{spare:Nat→Bool}{held:Bool}{t C:Nat}{fs:Array Field}{fuel:Nat}{cs:List Value}{x:DataW H×List MemPlace}(hs:P.underlying t=some (.struct fs))
  (hC:P.cellsOf t=C)(h:DataW.trod enc P W base spare held fuel t cs=some x):
  cs.length=C∧∃ n,∀ (i ty off k:Nat),((fs[i]?).map fun f=>(f.type,f.offset))=some (ty,off)→P.cellsOf ty=k→∃ y,DataW.trod enc P W base spare held n ty ((cs.drop off).take k)=some y:=by
 obtain ⟨xs,n,_,_,hl,hxl,hf⟩:=DataW.trod_struct hs h
 refine ⟨hl.trans hC,n,fun i ty off k hi hk=>?_⟩
 obtain ⟨f,hfi,e⟩:=Option.map_eq_some_iff.1 hi
 cases e
 have g:=hf i f hfi
 have hix:i<xs.length:=by rw [hxl];exact (Array.getElem?_eq_some_iff.1 hfi).1
 rw [hk,List.getElem?_eq_getElem hix] at g
 exact ⟨_,g⟩
end
end Go.Kn
