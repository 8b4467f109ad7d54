/- apparatusValue_holds, part E of the proof: what its theorems say holds without further conditions. -/
import Derived.Test.YtodakphagkommaaGreatDoorProg
import Derived.KernelRfl
import Derived.Lib.Hide
import Derived.Lib.SlicesCompact
import Derived.Lib.RowBridge
import Derived.Test.YtodakphagkommaaGreatDoorAVD
namespace Go.Proofs.YtodakphagkommaaGreatDoor
section
open Go Go.Kn Go.Proofs
theorem zoM:Fun Tryz.prog 27:=.of Tryz.func27 (by kernel_rfl) (by kernel_rfl)
theorem zos:Fun Tryz.prog 30:=.of Tryz.func30 (by kernel_rfl) (by kernel_rfl)
theorem zu9:Fun Tryz.prog 82:=.of Tryz.func82 (by kernel_rfl) (by kernel_rfl)
theorem Xq:SzT Tryz.prog 52 2:=.of (by kernel_rfl)
theorem zb2:Tryz.prog.underlying 155=some (.pointer 54):=by kernel_rfl
def zoO (ws:List Wr)(rows:List (List Int))(no:Int)(cl:List Int)(es:List Em)(rd:List Int):Value→Qu→Go.Kn.Loc→Prop:=fun v I' L=>L=[]∧∃ av c,v= .tuple #[.slice av (Vk ws rows no cl es rd).length c,.int .i64 (Km ws rows no cl es rd)]∧Sl I' 14 YU av (Vk ws rows no cl es rd).length c (Vk ws rows no cl es rd)
theorem zoO.bad {ws:List Wr}{rows:List (List Int)}{no:Int}{cl:List Int}{es:List Em}{rd:List Int}{I':Qu}{e:Int}(h:Km ws rows no cl es rd=e)(he:e≠0):zoO ws rows no cl es rd (.tuple #[.slice none 0 0,.int .i64 e]) I' []:=by
 have h0:=zkZ (show Km ws rows no cl es rd≠0 by rw [h];exact he)
 exact ⟨rfl,none,0,by rw [h0,h];rfl,by rw [h0];exact .nil⟩
set_option maxHeartbeats 40000000 in
theorem w_Signs {I:Qu} {av:Option Addr} {n c:Nat} {ws:List Wr} (hW0:SlW I av n c ws) (hn:n≤100000) {bv:Option Addr} {n2 c2:Nat} {rows:List (List Int)} (hVn:SlN I bv n2 c2 rows) (hn2:n2≤100000) {ea1:Option Addr} {en1 ec1:Nat} {ea2:Option Addr} {en2 ec2:Nat} {ea3:Option Addr} {en3 ec3:Nat} {xs:List Int} {es:List Em} {rd:List Int} (hX1:Sl I 1 QQ ea1 en1 ec1 xs) (hX2:Sl I 3 YB ea2 en2 ec2 es) (hX3:Sl I 1 QQ ea3 en3 ec3 rd) (hm1:en1≤100000) (hm2:en2≤100000) (hm3:en3≤100000) (no:Int) (hDb:VT I) (hnz:Uv ws=rows→zyE ws rows):Yf Tryz.prog 44 [.slice av n c,.slice bv n2 c2,.agg (Z3 no ea1 en1 ec1 ea2 en2 ec2 ea3 en3 ec3).toArray] I [] (zoO ws rows no xs es rd):=by
 intro g H w hw
 refine qe Tryz.func44 Tryz.ntmps44 hw ?_
 have hIc:=zAh I
 obtain ⟨hds,hW⟩:=id hW0
 have hH:=hW.1
 have hlW:=hW.len
 subst hlW
 have hlV:=hVn.len
 subst hlV
 have hlX3:=hX3.len
 subst hlX3
 refine zR ?_
 refine Q2 rfl rfl rfl (fun b_5=>?_)
 refine zA ?_
 refine zA (zN ?_)
 refine zr0 ?_
 refine zR (zM ?_)
 refine Qz (cap:=[]) (vs:=[_]) rfl rfl zoM .nil (zli hW0 hn) rfl rfl ?_
 rintro vv1 I1 L1 hI1 ⟨rfl,av8,c8,rfl,hTb⟩
 have hW:=hW.mono hI1;have hH:=hH.mono hI1;have hVn:=hVn.mono hI1;have hX1:=hX1.mono hI1;have hX2:=hX2.mono hI1;have hX3:=hX3.mono hI1;have hDb:=hDb.mono hI1;have hIc:=hIc.trans hI1
 refine zM ?_
 refine zE ?_
 refine zE ?_
 refine zA ?_
 refine zA (zN (Ql (zR ?_)))
 refine zM ?_
 refine zC (zN ?_)
 refine zI ?_ ?_<;>intro hc28
 ·
  have hcT:zai ws≠0:=by have h:=hc28;simpa using h
  refine zR (zM ?_)
  refine zA ?_
  refine zA (zN (Qt (Qc ?_)))
  refine Jz ?_
  exact ZA rfl rfl rfl (fun w hw=>⟨_,_,[],rfl,hIc,hw.drop,zoO.bad (zzy hcT) hcT⟩)
 have hcT:zai ws=0:=by have h:=hc28;simpa using h
 refine Qn (Qa (Ql (zR (zM ?_))))
 refine zM ?_
 refine qc (vs:=[_,_,_]) rfl zu9 (znE hTb hVn (by have:=(zfh (ws:=ws)).1;omega) (fun x hx=>Nat.le_trans (zfh.2 x hx) (by decide))) ?_
 refine zO (zN ?_)
 refine zI ?_ ?_<;>intro hc33
 ·
  have hne:Uv ws≠rows:=fun e=>by have h:=hc33;rw [decide_eq_true e] at h;cases h
  refine zR (zA ?_)
  refine zA (zN (Qt (Qc ?_)))
  refine Jz ?_
  exact ZA rfl rfl rfl (fun w hw=>⟨_,_,[],rfl,hIc,hw.drop,zoO.bad (zyz hcT hne) (by decide)⟩)
 have heq:Uv ws=rows:=Decidable.byContradiction fun e=>by have h:=hc33;rw [decide_eq_false e] at h;cases h
 refine Qn (Qa (Ql (zR (zM ?_))))
 refine zV (Qo rfl Z5 (fun hg=>by exact Cells.g0) rfl) ?_
 refine qc (vs:=[_,_]) rfl zos (zic hVn hn2 hX1 hX2 hX3 hm1 hm2 hm3 no hDb) ?_
 refine zA ?_
 refine zN (zR ?_)
 refine zM ?_
 refine zC (zN ?_)
 refine zI ?_ ?_<;>intro hc38
 ·
  have hcE:Wc rows no xs es rd≠0:=by have h:=hc38;simpa using h
  refine zR (zM ?_)
  refine zA ?_
  refine zA (zN (Qt (Qc ?_)))
  refine Jz ?_
  exact ZA rfl rfl rfl (fun w hw=>⟨_,_,[],rfl,hIc,hw.drop,zoO.bad (zx7 hcT heq hcE) hcE⟩)
 have hcE:Wc rows no xs es rd=0:=by have h:=hc38;simpa using h
 obtain ⟨hm0,hrd⟩:=zdf hcE
 have hco:=zoA hm0
 obtain ⟨hr1,hr6,hr64,hrr⟩:=KU (KQ hco)
 have hlen:=zgz heq (by omega)
 have hrdl:rd.length=(rows.getD 0 []).length:=by rw [hrd];exact UX
 have hnz:=hnz heq
 obtain ⟨vhs,hV⟩:=id hVn
 have hVh:=hV.1
 refine Qn (Qa (Ql ?_))
 refine Zg (b:=b_5) (by repeat (first | exact Q8.here | apply Q8.there)) (fun I2 hI2 hb2=>?_)
 have hW:=hW.mono hI2;have hH:=hH.mono hI2;have hX3:=hX3.mono hI2;have hV:=hV.mono hI2;have hVh:=hVh.mono hI2;have hIc:=hIc.trans hI2
 have hC5:QT I2 [] b_5 3 (.slice ea3 rd.length ec3):=.imm hb2 rfl
 refine Qg (zM ?_)
 refine zQ Y9 ?_
 refine Q5 YQ rfl rfl (by omega) (by decide) rfl rfl (fun b_42=>?_)
 refine zA (Qb ?_)
 rw [show ((ws.length:Nat):Int).toNat=ws.length from rfl,Q3,Zf,Wj,znF (rows:=rows)]
 refine Qa (Ql ?_)
 refine zsM ?_
 refine Qa (Ql (Ql ?_))
 refine J9 (loc':=[]++[(b_42,.cells (Zi (Vd ws.length (YI (atN rows 0 0)))) 3 (0,0))]) rfl ?_
 refine Qg ?_
 refine zF Ji ?_
 refine zV (Qe rfl QJ (fun hg=>by exact hC5.any)) ?_
 refine zQ Qw ?_
 refine zM (zN (Qm ?_))
 refine zU [(0,_),(1,_),(10,_),(44,_),(45,_)] (fun T L0 mz E I' loc'=>∃ (k:Nat) (l:List Sg) (v6:Value) (L:Go.Kn.Loc),mz=rd.length-k∧E=(6,v6)::(46,.int .i64 k)::T∧HLe I2 I'∧L++[(b_42,.cells (Zi (Vd ws.length (YI (atN rows k 0)))) 3 (0,0))]=loc'∧k≤rd.length∧W0 ws rows rd k=some l∧OwnS 54 14 v6 l.length (l.flatMap YU) L∧l.length≤k) ?_ (h:=⟨0,[],_,[],rfl,rfl,zAh _,rfl,Nat.zero_le _,rfl,OwnS.nil,Nat.le_refl _⟩)
 rintro mz E J3 loc' ⟨k,l,v6,L,rfl,rfl,hJ,rfl,hk,hsg,hO,hlk⟩
 have hW:=hW.mono hJ;have hH:=hH.mono hJ;have hX3:=hX3.mono hJ;have hV:=hV.mono hJ;have hVh:=hVh.mono hJ;have hIc:=hIc.trans hJ
 have hB0:=hJ
 refine zR (zC (zN (Ql ?_)))
 refine zI ?_ ?_<;>intro hc47
 ·
  have hlt_k:k<rd.length:=by have h:=hc47;simp at h;omega
  obtain ⟨code,hk⟩:=hX3.at hlt_k
  refine Qn (Qa (Ql (Qm (zR (zM ?_)))))
  refine zV (zX Qw hX3) ?_
  refine zV (Qe rfl Qr (fun hg=>by exact zAa hX3 hk rfl)) ?_
  refine zA ?_
  refine zA ?_
  refine zN (zR ?_)
  refine zA ?_
  refine zA ?_
  refine zN (zR ?_)
  refine zA ?_
  refine zA (zN (Ql (zR ?_)))
  refine zM ?_
  refine zQ Zp ?_
  refine zM (zN (Qm ?_))
  refine zU [(0,_),(1,_),(6,_),(10,_),(11,_),(12,_),(44,_),(45,_),(46,_),(51,_),(52,_)] (fun T L0 mz E I' loc'=>∃ (i:Nat) (s:SgS) (p13:Option Addr) (p14:Option Addr),mz=rows.length-i∧E=(13,.pointer p13)::(14,.pointer p14)::(15,.int .i64 ((s.many:Nat):Int))::(16,.bool s.lost)::(53,.int .i64 i)::T∧HLe J3 I'∧L++[(b_42,.cells (Zi (Vd ws.length (YI (atN rows k i)))) 3 (0,0))]=loc'∧i≤rows.length∧s=sgK ws rows k code i∧Vi 60 I' p13 s.ex∧Vi 60 I' p14 s.so) ?_ (h:=⟨0,⟨none,none,0,false⟩,none,none,rfl,rfl,zAh _,rfl,Nat.zero_le _,rfl,rfl,rfl⟩)
  rintro mz E J4 loc' ⟨i,s,p13,p14,rfl,rfl,hJ,rfl,hi,hs,hp13,hp14⟩
  have hW:=hW.mono hJ;have hH:=hH.mono hJ;have hV:=hV.mono hJ;have hVh:=hVh.mono hJ;have hIc:=hIc.trans hJ;have hB0:=hB0.trans hJ
  have hB2:=hJ
  refine zR (zC (zN (Ql ?_)))
  refine zI ?_ ?_<;>intro hc54
  ·
   have hlt_i:i<rows.length:=by have h:=hc54;simp at h;omega
   obtain ⟨vx,row,hvx,hvr,hQ⟩:=hV.at hlt_i
   obtain ⟨wx,xw,hwx,hxw,e1,e2,hR⟩:=hW.at (show i<ws.length by omega)
   have hrl:=(hrr row (List.mem_of_getElem? hvr)).1
   have hQl:=hQ.len
   have hRl:=hR.len
   have hrk:row[k]? =some (row.getD k 0):=Q4 rfl (by omega)
   have hrk0:=hrk
   have hrg2:rows.getD i []=row:=QU hvr
   have hrg:(rows.getD i []).getD k 0=row.getD k 0:=by rw [hrg2]
   have hnzk:=zzl (row:=rows.getD i []) (k:=k)
   have hms:=zk7 (ws:=ws) (rows:=rows) (k:=k) (code:=code) i
   rw [←hs] at hms
   refine Qn (Qa (Ql (Qm (zR (zM ?_)))))
   refine zV (zX Zp hVh) ?_
   refine zV (Qe rfl QJ (fun hg=>by exact zAa hVh hvx rfl)) ?_
   refine zA ?_
   refine zA (zN (Ql (zR ?_)))
   refine zM ?_
   refine zM ?_
   refine zV (zX Qw hQ) ?_
   refine zV (Qe rfl Qr (fun hg=>by exact zAa hQ hrk0 rfl)) ?_
   refine zC (zN ?_)
   refine zI ?_ ?_<;>intro hc62
   ·
    have hc62:(row.getD k 0==0)=true:=hc62
    refine J9 (loc':=L++[(b_42,.cells (Zi (Vd ws.length (YI (atN rows k (i+1))))) 3 (0,0))]) (by rw [zvq (by rw [hrg2];exact zfI hrk hc62)]) ?_
    refine QI (Qh (Qk (Qa (Qg (zB ?_)))))
    refine zM (Qb ?_)
    first
    | exact zm (h:=⟨rows.length-(i+1),by omega,i+1,s,p13,p14,rfl,rfl,hB2,rfl,by omega,by rw [hs];exact zrT (by rw [hrg];exact hc62),hp13,hp14⟩)
   have hc62:(row.getD k 0==0)=false:=hc62
   have hnzi:=hnz i xw row hxw hvr k (by omega) (by have h:=hc62;simpa using h)
   obtain ⟨y,hy⟩:∃ y,xw.rs[nzF (rows.getD i []) k]? =some y:=⟨_,List.getElem?_eq_getElem (by rw [hrg2];exact hnzi)⟩
   have hyd:ydF ws rows i k=y:=zvj hxw hy
   have hnzi2:nzF (rows.getD i []) k<xw.rs.length:=by rw [hrg2];exact hnzi
   refine Qn (Qa (Ql ?_))
   have hD:=zAh J4
   refine K4 mixed ?_
   refine zT 0 rfl (Qi rfl) hD ?_
   refine zT 1 rfl (Qi rfl) hD ?_
   refine zT 2 rfl (zX Y9 hH) hD ?_
   refine zT 3 rfl (Qd rfl Kr) hD ?_
   refine zT 4 rfl (Qe rfl X2 (fun hg=>by exact zAj hH hwx rfl)) hD ?_
   refine zT 5 rfl (Qi rfl) hD ?_
   refine zT 6 rfl (Qi rfl) hD ?_
   refine zT 7 rfl (Q6 rfl rfl Qw (fun hg=>by omega)) hD ?_
   refine zT 8 rfl (Qe rfl Qr (fun hg=>by exact zAd (Jh (k:=i) (YH (show i<_ by omega))))) hD ?_
   rw [zf9]
   refine zT 9 rfl (zX Ww hR) hD ?_
   refine zT 10 rfl (Qo rfl zbb (fun hg=>by exact zAi hR hy) rfl) hD ?_
   refine qd 11 rfl ?_
   refine Qs zfd rfl rfl (fun b_19=>?_)
   refine Qb ?_
   refine zD hD ?_
   refine qd 12 rfl ?_
   refine zh zaH ?_
   refine Qb ?_
   refine zD hD ?_
   refine QF (by kernel_rfl) ?_
   refine QO ?_
   refine Qa (zR (zM ?_))
   refine zM ?_
   refine zV (Q6 rfl rfl Qw (fun hg=>by omega)) ?_
   refine zV (Qe rfl Qr (fun hg=>by exact zAb (zAd (Jh (k:=i) (YH (show i<_ by omega)))))) ?_
   rw [zf9]
   refine zB ?_
   refine zV (Q6 rfl rfl Qw (fun hg=>by omega)) ?_
   refine ZI rfl rfl Z2 rfl rfl (by (repeat (first | exact Upd.here | apply Upd.there | apply QK))) (zvf (by rw [Yb];omega)) ?_
   refine Qb ?_
   rw [VN,JZ,show ((nzF (rows.getD i []) k:Nat):Int)+1=((nzF (rows.getD i []) k+1:Nat):Int) from rfl,zaJ,zp2 (by rw [hrg2];exact zcg hrk hc62)]
   refine Qa (Ql (Ql ?_))
   refine Zg (b:=b_19) (by repeat (first | exact Q8.here | apply Q8.there)) (fun I5 hI5 hb19=>?_)
   have hp13:=hp13.mono hI5;have hp14:=hp14.mono hI5;have hQ:=hQ.mono hI5;have hB2:=hB2.trans hI5
   have hp19:=Vi.new hb19
   refine Qg ?_
   refine zF Vp ?_
   refine zV (Qe rfl zax (fun hg=>by exact .imm hb19 rfl)) ?_
   refine zN ?_
   refine zI ?_ ?_<;>intro hc81
   ·
    refine zR (zA (zN (QI (Qh (Qk (Qa (Qg ?_)))))))
    refine zB ?_
    refine zM (Qb ?_)
    first
    | exact zm (h:=⟨rows.length-(i+1),by omega,i+1,{s with lost:=true},p13,p14,rfl,rfl,hB2,rfl,by omega,zts hs (by rw [hrg];exact hc62) (by rw [hyd];exact hc81),hp13,hp14⟩)
   refine Qn (Qa (zR (zM ?_)))
   refine zB ?_
   refine zA (zN ?_)
   refine zY [(0,_),(1,_),(6,_),(10,_),(11,_),(12,_),(13,_),(15,_),(16,_),(18,_),(19,_),(44,_),(45,_),(46,_),(51,_),(52,_),(53,_)] (fun T L0 E I' loc'=>∃ (q14:Option Addr),E=(14,.pointer q14)::T∧HLe I5 I'∧L++[(b_42,.cells (Zi (Vd ws.length (YI (atN rows k (i+1))))) 3 (0,0))]=loc'∧Vi 60 I' q14 (orS s.so y.sg)) ?_ ?_
   ·
    have hKc24:=zAh I5
    refine zR (zM ?_)
    refine zV (WF rfl rfl zb2) ?_
    refine zN ?_
    refine zI ?_ ?_<;>intro hc85
    ·
     refine Qg ?_
     refine zF VP ?_
     refine zA (Qb ?_)
     exact JH _ _ ⟨_,rfl,hKc24,rfl,hp14.orN hc85 hp19⟩ (.cons rfl (.cons rfl (.cons rfl (.cons rfl (.cons rfl (.cons rfl (.cons rfl (.cons rfl (.cons rfl (.cons rfl (.cons rfl (.cons rfl (.cons rfl (.cons rfl (.cons rfl (.cons rfl (.cons rfl (.cons rfl .nil)))))))))))))))))) .refl
    refine Qn ?_
    exact JH _ _ ⟨_,rfl,hKc24,rfl,hp14.orS hc85⟩ (.cons rfl (.cons rfl (.cons rfl (.cons rfl (.cons rfl (.cons rfl (.cons rfl (.cons rfl (.cons rfl (.cons rfl (.cons rfl (.cons rfl (.cons rfl (.cons rfl (.cons rfl (.cons rfl (.cons rfl (.cons rfl .nil)))))))))))))))))) .refl
   rintro E J6 loc' ⟨q14,rfl,hJ85,rfl,hq14⟩
   have hp13:=hp13.mono hJ85;have hQ:=hQ.mono hJ85;have hp19:=hp19.mono hJ85;have hB2:=hB2.trans hJ85
   refine zR (zM ?_)
   refine zV (WF rfl rfl zb2) ?_
   refine zM ?_
   refine QH 2 rfl rfl rfl ?_
   refine zK (Qi rfl) ?_
   refine zK (Qi rfl) ?_
   refine zK (zX Qw hQ) ?_
   refine zK (Qe rfl Qr (fun hg=>by exact zAa hQ hrk0 rfl)) ?_
   refine zK (Qi rfl) ?_
   refine zK (QG rfl rfl rfl) ?_
   refine QP rfl rfl rfl rfl rfl ?_
   refine zN ?_
   refine zI ?_ ?_<;>intro hc96
   ·
    refine Qg ?_
    refine zF VP ?_
    refine zA (Qb (Qf (Qa (Qg ?_))))
    refine zB ?_
    refine zM (Qb ?_)
    first
    | exact zm (h:=⟨rows.length-(i+1),by omega,i+1,⟨some y.sg,orS s.so y.sg,s.many+1,s.lost⟩,_,q14,rfl,rfl,hB2,rfl,by omega,zxn hs (by rw [hrg];exact hc62) hyd hc81 (by rw [hrg,←hp13.isNone];exact hc96),hp19,hq14⟩)
   refine Qn (Qf (Qa (Qg (zB ?_))))
   refine zM (Qb ?_)
   first
   | exact zm (h:=⟨rows.length-(i+1),by omega,i+1,⟨s.ex,orS s.so y.sg,s.many+1,s.lost⟩,p13,q14,rfl,rfl,hB2,rfl,by omega,zzd hs (by rw [hrg];exact hc62) hyd hc81 (by rw [hrg,←hp13.isNone];exact hc96),hp13,hq14⟩)
  have hge_i:rows.length≤i:=by have h:=hc54;simp at h;omega
  obtain rfl:i=rows.length:=by omega
  refine QI (Qh (Qh (Qk (Qa (Ql (Ql ?_))))))
  refine J9 (loc':=L++[(b_42,.cells (Zi (Vd ws.length (YI (atN rows (k+1) 0)))) 3 (0,0))]) (by rw [hlen,znO]) ?_
  refine Qg (zM ?_)
  refine zC (zN ?_)
  refine zI ?_ ?_<;>intro hc100
  ·
   refine QI (Qh (Qk (Qa (Qg (zB ?_)))))
   refine zM (Qb ?_)
   first
   | exact zm (h:=⟨rd.length-(k+1),by omega,k+1,_,_,_,rfl,rfl,hB0,rfl,by omega,zlJ hsg (by rw [QU hk];exact zmk hc100),hO,by omega⟩)
  refine Qn (Qa ?_)
  refine zY [(0,_),(1,_),(6,_),(10,_),(11,_),(12,_),(15,_),(16,_),(44,_),(45,_),(46,_)] (fun T L0 E I' loc'=>∃ (q13:Option Addr),E=(13,.pointer q13)::T∧HLe J4 I'∧L++[(b_42,.cells (Zi (Vd ws.length (YI (atN rows (k+1) 0)))) 3 (0,0))]=loc'∧Vi 60 I' q13 (s.ex.or s.so)) ?_ ?_
  ·
   have hKc30:=zAh J4
   refine zR (zM ?_)
   refine zV (WF rfl rfl zb2) ?_
   refine zN ?_
   refine zI ?_ ?_<;>intro hc102
   ·
    refine Qg (zM ?_)
    refine zA (Qb ?_)
    exact JH _ _ ⟨_,rfl,hKc30,rfl,hp13.orY hc102 hp14⟩ (.cons rfl (.cons rfl (.cons rfl (.cons rfl (.cons rfl (.cons rfl (.cons rfl (.cons rfl (.cons rfl (.cons rfl (.cons rfl (.cons rfl .nil)))))))))))) .refl
   refine Qn ?_
   exact JH _ _ ⟨_,rfl,hKc30,rfl,hp13.orX hc102⟩ (.cons rfl (.cons rfl (.cons rfl (.cons rfl (.cons rfl (.cons rfl (.cons rfl (.cons rfl (.cons rfl (.cons rfl (.cons rfl (.cons rfl .nil)))))))))))) .refl
  rintro E J7 loc' ⟨q13,rfl,hJ102,rfl,hq13⟩
  have hIc:=hIc.trans hJ102;have hB0:=hB0.trans hJ102
  refine Ql (zR (zM ?_))
  refine zV (WF rfl rfl zb2) ?_
  refine zN ?_
  refine zI ?_ ?_<;>intro hc105
  ·
   have hso:=hq13.none hc105
   refine zR (zA ?_)
   refine zA (zN (Qt (Qc (Qp (Qc (Qc (Qp ?_)))))))
   refine Qc ?_
   refine Jz ?_
   first
   | exact ZA rfl rfl rfl (fun w hw=>⟨_,_,[],rfl,hIc,hw.drop,zoO.bad (zw0 hcT heq hcE (zjv hsg (by rw [QU hk];exact zna hc100 hs hso) hlt_k)) (by decide)⟩)
  obtain ⟨sy,spb,spl,hso,rfl,hsp⟩:=hq13.at hc105
  refine Qn (Qa (zR (zM ?_)))
  refine qc (vs:=[_]) rfl zfr (zga _ _) ?_
  refine zM ?_
  refine zE ?_
  refine zE ?_
  refine Qs Wv rfl rfl (fun b_20=>?_)
  refine zh Ye ?_
  refine zA (zN (Ql (zR ?_)))
  refine zM ?_
  refine zC (zN ?_)
  refine zI ?_ ?_<;>intro hc112
  ·
   have he1:(Vl code != 0)=true:=hc112
   refine zR (zA ?_)
   refine zA (zN (Qt (Qc (Qp (Qc (Qc (Qp ?_)))))))
   refine Qc ?_
   refine Jz ?_
   first
   | exact ZA rfl rfl rfl (fun w hw=>⟨_,_,[],rfl,hIc,hw.drop,zoO.bad (zw0 hcT heq hcE (zjv hsg (by rw [QU hk];exact zrH hc100 hs hso he1) hlt_k)) (by decide)⟩)
  have he0:(Vl code != 0)=false:=hc112
  refine Qn (Qa (Ql ?_))
  have hD:=zAh J7
  refine Jl ?_
  refine Z0 J7 [] mixed ?_
  refine zT 0 rfl (Qi rfl) hD ?_
  refine zT 1 rfl (Qi rfl) hD ?_
  refine zT 2 rfl (Q1 rfl) hD ?_
  refine zT 3 rfl (Qd rfl Je) hD ?_
  refine zT 4 rfl (Qe rfl Qr (fun hg=>by exact .imm hsp rfl)) hD ?_
  refine zT 5 rfl (Qi rfl) hD ?_
  refine zT 6 rfl (Q1 rfl) hD ?_
  refine zT 7 rfl (Qd rfl Y4) hD ?_
  refine zT 8 rfl (Qe rfl Qr (fun hg=>by exact .imm hsp rfl)) hD ?_
  refine zT 9 rfl (Qi rfl) hD ?_
  refine zT 10 rfl (Q1 rfl) hD ?_
  refine zT 11 rfl (Qd rfl YZ) hD ?_
  refine zT 12 rfl (Qo rfl Vf (fun hg=>by exact Cells.two hsp rfl rfl) rfl) hD ?_
  refine zT 13 rfl (Qi rfl) hD ?_
  refine zT 14 rfl (Q1 rfl) hD ?_
  refine zT 15 rfl (Qd rfl Y2) hD ?_
  refine zT 16 rfl (Qo rfl Vf (fun hg=>by exact Cells.two hsp rfl rfl) rfl) hD ?_
  refine zT 17 rfl (Qd rfl ZM) hD ?_
  refine qd 18 rfl ?_
  refine zS Z2 ?_
  refine Qb ?_
  refine zD hD ?_
  refine zT 19 rfl (Qd rfl Je) hD ?_
  refine qd 20 rfl ?_
  refine zS Z2 ?_
  refine Qb ?_
  refine zD hD ?_
  refine zT 21 rfl (Qd rfl Y4) hD ?_
  refine qd 22 rfl ?_
  refine zS Z2 ?_
  refine Qb ?_
  refine zD hD ?_
  refine zT 23 rfl (Qd rfl YZ) hD ?_
  refine qd 24 rfl ?_
  refine Vm rfl rfl Xq rfl rfl rfl rfl (by repeat (first | exact Upd.here | apply Upd.there | apply QK)) ?_
  refine Qb ?_
  refine zD hD ?_
  refine zT 25 rfl (Qd rfl Y2) hD ?_
  refine qd 26 rfl ?_
  refine Vm rfl rfl Xq rfl rfl rfl rfl (by repeat (first | exact Upd.here | apply Upd.there | apply QK)) ?_
  refine Qb ?_
  refine zD hD ?_
  refine QF (by kernel_rfl) ?_
  refine QO ?_
  refine zgc (loc':=(b_20,.cells (YU ({UI code with id:=(k:Int),bar:=sy.bar,mark:=sy.mark,fn:=sy.fn,fd:=sy.fd,tn:=sy.tn,td:=sy.td}:Sg)).toArray 54 (0,0))::(L++[(b_42,.cells (Zi (Vd ws.length (YI (atN rows (k+1) 0)))) 3 (0,0))])) rfl ?_
  refine Qa ?_
  refine zY [(0,_),(1,_),(6,_),(10,_),(20,_),(44,_),(45,_),(46,_)] (fun T L0 E I' loc'=>E=T∧HLe J7 I'∧(b_20,.cells (YU (Uw k code sy ((decide ((ws.length:Int)>1)&&(s.many:Int)==1)&& !s.lost))).toArray 54 (0,0))::(L++[(b_42,.cells (Zi (Vd ws.length (YI (atN rows (k+1) 0)))) 3 (0,0))])=loc') ?_ ?_
  ·
   have hKc38:=zAh J7
   refine zR (zM ?_)
   refine zQ Y9 ?_
   refine zC ?_
   refine zM ?_
   refine QH 3 rfl rfl rfl ?_
   refine zK (Qi rfl) ?_
   refine zK (QG rfl rfl rfl) ?_
   refine QP rfl rfl rfl rfl rfl ?_
   refine zM ?_
   refine QH 7 rfl rfl rfl ?_
   refine zK (Qi rfl) ?_
   refine zK (Ve rfl) ?_
   refine QP rfl rfl rfl rfl rfl ?_
   refine zN ?_
   refine zI ?_ ?_<;>intro hc145
   ·
    refine Qg ?_
    refine zF Y4 ?_
    refine zS Z2 ?_
    refine Qb ?_
    refine zgc (loc':=(b_20,.cells (YU (Uw k code sy ((decide ((ws.length:Int)>1)&&(s.many:Int)==1)&& !s.lost))).toArray 54 (0,0))::(L++[(b_42,.cells (Zi (Vd ws.length (YI (atN rows (k+1) 0)))) 3 (0,0))])) (by rw [hc145];rfl) ?_
    exact JH _ _ ⟨rfl,hKc38,rfl⟩ (.cons rfl (.cons rfl (.cons rfl (.cons rfl (.cons rfl (.cons rfl (.cons rfl (.cons rfl .nil)))))))) .refl
   refine J9 (loc':=(b_20,.cells (YU (Uw k code sy ((decide ((ws.length:Int)>1)&&(s.many:Int)==1)&& !s.lost))).toArray 54 (0,0))::(L++[(b_42,.cells (Zi (Vd ws.length (YI (atN rows (k+1) 0)))) 3 (0,0))])) (by rw [hc145];rfl) ?_
   refine Qn ?_
   exact JH _ _ ⟨rfl,hKc38,rfl⟩ (.cons rfl (.cons rfl (.cons rfl (.cons rfl (.cons rfl (.cons rfl (.cons rfl (.cons rfl .nil)))))))) .refl
  rintro E J8 loc' ⟨rfl,hJ145,rfl⟩
  have hB0:=hB0.trans hJ145
  refine Qg (zM ?_)
  refine zV (Qo rfl Q9 (fun hg=>by exact Cells.g0) rfl) ?_
  refine Qq (ps:=[(0,_)]) (m:=[YU (Uw k code sy ((decide ((ws.length:Int)>1)&&(s.many:Int)==1)&& !s.lost))]) Uz rfl (.cons rfl (.nil)) rfl (by simp [Z6]) (by decide) (by decide) rfl rfl (fun b_149=>?_)
  refine QY (v:=_) (ys:=[Uw k code sy ((decide ((ws.length:Int)>1)&&(s.many:Int)==1)&& !s.lost)].flatMap YU) (L:=L) rfl rfl Uz hO (by repeat (first | exact .cons .here .nil | exact QD | exact Qx | apply QC | apply QB)) ⟨rfl,fun _=>rfl,by repeat (first | exact zAf | apply zAe | apply zAg)⟩ (znb [Uw k code sy ((decide ((ws.length:Int)>1)&&(s.many:Int)==1)&& !s.lost)]) (by omega) rfl rfl ?_
  intro v9 L9 hO9 _;rw [←List.flatMap_append] at hO9
  refine zA (Qb (Qf (Qa (Qg ?_))))
  refine zB ?_
  refine zM (Qb ?_)
  first
  | exact zm (h:=⟨rd.length-(k+1),by omega,k+1,_,_,_,rfl,rfl,hB0,rfl,by omega,zwF hsg (by rw [QU hk];exact zwi hc100 hs hso he0),by rw [List.length_append];exact hO9,by rw [List.length_append,List.length_singleton];omega⟩)
 have hge_k:rd.length≤k:=by have h:=hc47;simp at h;omega
 obtain rfl:k=rd.length:=by omega
 obtain ⟨t1,t2⟩:=zvZ hcT heq hcE hsg
 refine QI (Qh (Qh (Qk (Qa (zR (zM ?_))))))
 refine zA ?_
 refine zA (zN (Qt ?_))
 refine Jz ?_
 first
 | exact ZA rfl rfl rfl (fun w hw=>by obtain ⟨I9,av9,c9,h1',h2',e9,h4'⟩:=OwnS.freeze (R:=[_]) hO Z6 (by decide) hw;subst e9;exact ⟨_,I9,[],rfl,hIc.trans h1',h2'.drop,rfl,av9,c9,by rw [t1,t2],by rw [t2];exact h4'⟩)
end
section
open Go Go.Kn Go.Proofs
def zlz (x:Int):List Int→List Int
 | []=>[x]
 | y::ys=>if x<y then x::y::ys else if x=y then y::ys else y::zlz x ys
theorem zcf {x z:Int}:∀ {l:List Int},z∈zlz x l↔z=x∨z∈l
 | []=>by simp [zlz]
 | y::ys=>by
  unfold zlz
  split
  ·
   simp
  ·
   split
   ·
    rename_i h;subst h;simp
   ·
    rw [List.mem_cons,zcf,List.mem_cons]
    constructor
    ·
     rintro (h | h | h)
     ·
      exact .inr (.inl h)
     ·
      exact .inl h
     ·
      exact .inr (.inr h)
    ·
     rintro (h | h | h)
     ·
      exact .inr (.inl h)
     ·
      exact .inl h
     ·
      exact .inr (.inr h)
theorem zil {x:Int}:∀ {l:List Int},l.Pairwise (· < ·)→(zlz x l).Pairwise (· < ·)
 | [],_=>by simp [zlz]
 | y::ys,h=>by
  rw [List.pairwise_cons] at h
  unfold zlz
  split
  ·
   rename_i hxy
   rw [List.pairwise_cons,List.pairwise_cons]
   refine ⟨fun z hz=>?_,h⟩
   rcases List.mem_cons.1 hz with e | hz
   ·
    rw [e];exact hxy
   ·
    exact Int.lt_trans hxy (h.1 z hz)
  ·
   split
   ·
    rw [List.pairwise_cons];exact h
   ·
    rw [List.pairwise_cons]
    refine ⟨fun z hz=>?_,zil h.2⟩
    rcases zcf.1 hz with rfl | hz
    ·
     omega
    ·
     exact h.1 z hz
def stU (rows:List (List Int))(l:Nat):List Int:=(stL rows l rows.length).foldr zlz []
theorem zxl (xs:List Int):(xs.foldr zlz []).Pairwise (· < ·)∧∀ z,z∈xs.foldr zlz []↔z∈xs:=by
 induction xs with
 | nil=>simp
 | cons x xs ih=>
  rw [List.foldr_cons]
  exact ⟨zil ih.1,fun z=>by rw [zcf,ih.2,List.mem_cons]⟩
theorem zy5 {a b:List Int}(ha:a.Pairwise (· < ·))(hb:b.Pairwise (· < ·))(h:∀ z,z∈a↔z∈b):a=b:=by
 have hp:a.Perm b:=(List.perm_ext_iff_of_nodup (ha.imp (by intro x y h e;omega)) (hb.imp (by intro x y h e;omega))).2 h
 exact hp.eq_of_pairwise (le:=(· < ·)) (by intro x y _ _ h1 h2;omega) ha hb
theorem zy7 {rows:List (List Int)}{l:Nat}:stE rows l=stU rows l:=by
 refine zy5 zwL (zxl _).1 fun z=>?_
 unfold stU
 rw [(zxl _).2]
 unfold stE;rw [(KY _).2]
def znu (rows:List (List Int))(cl:List Int)(l:Nat):List Int:=(stU rows l).filter fun x=>rcV (stU rows l) (uF rows l) cl 63 (Vs rows.length) x==Yo (rcF (stU rows l) (uF rows l) cl 64 (Vs rows.length))
theorem znP:JF=znu:=by
 funext rows cl l
 unfold JF znu zlj zoP
 rw [zy7]
def znt (rows:List (List Int))(cl:List Int)(k:Nat):Int:=if (znu rows cl k).any (fun y=>(rows.getD 0 []).getD k 0==y)=true then (rows.getD 0 []).getD k 0 else (znu rows cl k).getD 0 0
def zqy (rows:List (List Int))(cl:List Int)(es:List Em)(k:Nat):Int:=match lfK es k with
 | []=>znt rows cl k
 | e::_=>if e.locus=(k:Int) then e.code else znt rows cl k
theorem zmC:UV=zqy:=by
 funext rows cl es k
 have hb:VM rows cl k=znt rows cl k:=by unfold VM znt;rw [znP]
 unfold UV zqy
 rw [hb]<;>(cases lfK es k<;>rfl)
theorem zgl {rows:List (List Int)}{cl:List Int}{es:List Em}:Vg rows cl es=(List.range (rows.getD 0 []).length).map (zqy rows cl es):=by unfold Vg;rw [zmC]
end
section
open Go Go.Kn Go.Proofs
def ztE (m:Nat):Int→List Em→Prop
 | _,[]=>True
 | l,e::es=>l<e.locus∧e.locus<(m:Int)∧ztE m e.locus es
theorem zfK {rows:List (List Int)}{m:Nat}:∀ {l:Int} {es:List Em},J0 rows m l es=true→ztE m l es
 | _,[],_=>trivial
 | l,e::es,h=>by
  have h:(!zd4 rows m l e&&J0 rows m e.locus es)=true:=h
  rw [Bool.and_eq_true] at h
  obtain ⟨h1,h2⟩:=h
  unfold zd4 at h1
  simp only [Bool.not_or,Bool.and_eq_true,Bool.not_eq_true',decide_eq_false_iff_not] at h1
  exact ⟨by omega,by omega,zfK h2⟩
theorem zcm {m:Nat}:∀ {l:Int} {es:List Em},ztE m l es→∀ e∈es,l<e.locus∧e.locus<(m:Int)
 | _,[],_,e,h=>by cases h
 | l,x::es,hi,e,h=>by
  rcases List.mem_cons.1 h with rfl | h
  ·
   exact ⟨hi.1,hi.2.1⟩
  ·
   have:=zcm hi.2.2 e h
   have:=hi.1
   exact ⟨by omega,by omega⟩
theorem zjt {m:Nat}:∀ (k:Nat) {es:List Em},ztE m (-1) es→∃ pre,es=pre++lfK es k∧(∀ e∈pre,e.locus<(k:Int))∧(∀ e∈lfK es k,(k:Int)≤e.locus)∧ztE m ((k:Int)-1) (lfK es k)
 | 0,es,h=>⟨[],rfl,(fun e he=>by cases he),(fun e he=>by have:=(zcm h e he).1;omega),by simpa [lfK] using h⟩
 | k+1,es,h=>by
  obtain ⟨pre,h1,h2,h3,h4⟩:=zjt k h
  cases hl:lfK es k with
  | nil=>
   rw [zot hl]
   rw [hl] at h1
   exact ⟨pre,h1,(fun e he=>by have:=h2 e he;omega),(fun e he=>by cases he),trivial⟩
  | cons x r=>
   rw [hl] at h1 h3 h4
   obtain ⟨i1,i2,i3⟩:=h4
   by_cases hx:x.locus=(k:Int)
   ·
    rw [zop hl hx]
    refine ⟨pre++[x],by rw [List.append_assoc];exact h1,fun e he=>?_,fun e he=>?_,?_⟩
    ·
     rcases List.mem_append.1 he with he | he
     ·
      have:=h2 e he;omega
     ·
      rw [List.mem_singleton.1 he,hx];omega
    ·
     have:=(zcm i3 e he).1;omega
    ·
     rw [hx] at i3
     rw [show ((k+1:Nat):Int)-1=(k:Int) by omega];exact i3
   ·
    rw [zxj hl hx]
    have h3x:=h3 x (List.mem_cons_self ..)
    refine ⟨pre,h1,(fun e he=>by have:=h2 e he;omega),fun e he=>?_,⟨by omega,i2,i3⟩⟩
    rcases List.mem_cons.1 he with rfl | he
    ·
     omega
    ·
     have:=(zcm i3 e he).1;omega
theorem zfC {rows:List (List Int)}{no:Int}{cl:List Int}{es:List Em}(h:UT rows no cl es=0):J0 rows (rows.getD 0 []).length (-1) es=true:=by
 unfold UT at h
 split at h
 ·
  rename_i h1;exact absurd h h1
 ·
  split at h
  ·
   cases h
  ·
   split at h
   ·
    rename_i h3;exact h3
   ·
    cases h
end
section
open Go Go.Kn Go.Proofs
theorem zbY {n:Int}(h:0≤n∧n≤9223372036854775807):IntKind.i64.wrap n=n:=by
 unfold IntKind.wrap IntKind.signed IntKind.bits;simp;omega
theorem zgw {a:Nat}(h:a<18446744073709551616):(BitVec.ofInt 64 (a:Int)).toNat=a:=by
 rw [BitVec.toNat_ofInt]
 omega
theorem zq1 {a b:Nat}(ha:a<9223372036854775808)(hb:b<9223372036854775808):orI (a:Int) (b:Int)=((a||| b:Nat):Int):=by
 unfold orI
 rw [BitVec.toNat_or,zgw (by omega),zgw (by omega)]
 have:a||| b<2^63:=Nat.or_lt_two_pow (by omega) (by omega)
 exact zbY (by omega)
theorem zmu {a b:Nat}(ha:a<9223372036854775808)(hb:b<9223372036854775808):K3 (a:Int) (b:Int)=((a&&& b:Nat):Int):=by
 unfold K3
 rw [BitVec.toNat_and,zgw (by omega),zgw (by omega)]
 have:a&&& b≤a:=Nat.and_le_left
 exact zbY (by omega)
theorem zzV {c n b:Nat}(hb:b≤8)(hn:n<2^b)(hc:c<2^40):orI (IntKind.i64.wrap ((c:Int)*2^(min (b:Int).toNat IntKind.i64.bits))) (n:Int)=((c*2^b+n:Nat):Int):=by
 have e1:min (b:Int).toNat IntKind.i64.bits=b:=by
  show min b 64=b
  omega
 have h2:2^b≤2^8:=Nat.pow_le_pow_right (by decide) hb
 have h3:c*2^b<2^40*2^8:=Nat.mul_lt_mul_of_lt_of_le hc h2 (by decide)
 have e2:(c:Int)*2^b=((c*2^b:Nat):Int):=by simp
 rw [e1,e2,zbY (by omega),zq1 (by omega) (by omega)]
 have:=Nat.two_pow_add_eq_or_of_lt hn c
 rw [Nat.mul_comm c]
 rw [this]
theorem zza {b:Nat}(hb:b≤8):IntKind.i64.wrap (1*2^(min (b:Int).toNat IntKind.i64.bits))-1=((2^b-1:Nat):Int):=by
 have e1:min (b:Int).toNat IntKind.i64.bits=b:=by
  show min b 64=b
  omega
 have h1:0<2^b:=Nat.pow_pos (by decide)
 have h2:2^b≤2^8:=Nat.pow_le_pow_right (by decide) hb
 have e2:(1:Int)*2^b=((2^b:Nat):Int):=by simp
 rw [e1,e2,zbY (by omega)]
 omega
theorem WY {b c:Nat}(hb:b≤8)(hc:c<2^62):lbN b (c:Int)=((c % 2^b:Nat):Int):=by
 unfold lbN
 have h2:2^b≤2^8:=Nat.pow_le_pow_right (by decide) hb
 rw [zza hb,zmu (by omega) (by omega),Nat.and_two_pow_sub_one_eq_mod]
theorem Xa {b c:Nat}(hb:b≤8):shN b (c:Int)=((c / 2^b:Nat):Int):=by
 unfold shN
 have e1:min (b:Int).toNat IntKind.i64.bits=b:=by
  show min b 64=b
  omega
 rw [e1]
 have e2:(2:Int)^b=((2^b:Nat):Int):=by simp
 rw [e2]
 rw [Int.fdiv_eq_ediv_of_nonneg _ (Int.natCast_nonneg _)]
 first | exact (Int.natCast_ediv _ _).symm | exact (Int.ofNat_ediv _ _).symm | rfl
structure zl5 (r k s d l z w:Nat):Prop where
 r:r≤63
 k1:1≤k
 k:k≤9
 s:s≤2
 d:d≤8
 l:l≤3
 z:z≤255
 w:w≤64
def zaR (r k s d l z w:Nat):Nat:=(((((r*16+k)*4+s)*16+d)*4+l)*256+z)*128+w
theorem zxT {r k s d l z w:Nat}(h:zl5 r k s d l z w):Vj 0 [⟨r,0,63,6⟩,⟨k,1,9,4⟩,⟨s,0,2,2⟩,⟨d,0,8,4⟩,⟨l,0,3,2⟩,⟨z,0,255,8⟩,⟨w,0,64,7⟩]=some ((zaR r k s d l z w:Nat):Int):=by
 obtain ⟨h1,h2,h3,h4,h5,h6,h7,h8⟩:=h
 have g:∀ {c:Int} {x:Dg} {ds:List Dg},zhh x=false→Vj c (x::ds)=Vj (zl0 c x) ds:=fun {c x ds} hb=>by
  show (if zhh x=true then none else Vj (zl0 c x) ds)=_
  rw [if_neg (by rw [hb];decide)]
 have q:∀ {c n b:Nat} {lo hi:Int},b≤8→n<2^b→c<2^40→zl0 (c:Int) ⟨(n:Int),lo,hi,(b:Int)⟩=((c*2^b+n:Nat):Int):=fun hb hn hc=>zzV hb hn hc
 have bd:∀ {n lo hi b:Int},lo≤n→n≤hi→zhh ⟨n,lo,hi,b⟩=false:=fun a b=>by unfold zhh;simp;omega
 rw [g (bd (by omega) (by omega)),show (0:Int)=((0:Nat):Int) from rfl,show (6:Int)=((6:Nat):Int) from rfl,q (by decide) (by omega) (by decide)]
 rw [g (bd (by omega) (by omega)),show (4:Int)=((4:Nat):Int) from rfl,q (b:=4) (by decide) (by omega) (by omega)]
 rw [g (bd (by omega) (by omega)),show (2:Int)=((2:Nat):Int) from rfl,q (b:=2) (by decide) (by omega) (by omega)]
 rw [g (bd (by omega) (by omega)),q (b:=4) (by decide) (by omega) (by omega)]
 rw [g (bd (by omega) (by omega)),q (b:=2) (by decide) (by omega) (by omega)]
 rw [g (bd (by omega) (by omega)),show (8:Int)=((8:Nat):Int) from rfl,q (b:=8) (by decide) (by omega) (by omega)]
 rw [g (bd (by omega) (by omega)),show (7:Int)=((7:Nat):Int) from rfl,q (b:=7) (by decide) (by omega) (by omega)]
 show some _=some _
 unfold zaR
 simp
theorem zgL (c:Nat)(hc:c<2^33):zkv (c:Int)=⟨0,((c / 128 / 256 / 4 / 16 / 4 / 16:Nat):Int),0,0,((c / 128 / 256 / 4 / 16 / 4 % 16:Nat):Int),((c / 128 / 256 / 4 / 16 % 4:Nat):Int),((c / 128 / 256 / 4 % 16:Nat):Int),((c / 128 / 256 % 4:Nat):Int),((c / 128 % 256:Nat):Int),((c % 128:Nat):Int),0,0,0,0⟩:=by
 have s7:shN 7 (c:Int)=((c / 128:Nat):Int):=Xa (by decide)
 have s8:shN 8 ((c / 128:Nat):Int)=((c / 128 / 256:Nat):Int):=Xa (by decide)
 have s2:shN 2 ((c / 128 / 256:Nat):Int)=((c / 128 / 256 / 4:Nat):Int):=Xa (by decide)
 have s4:shN 4 ((c / 128 / 256 / 4:Nat):Int)=((c / 128 / 256 / 4 / 16:Nat):Int):=Xa (by decide)
 have t2:shN 2 ((c / 128 / 256 / 4 / 16:Nat):Int)=((c / 128 / 256 / 4 / 16 / 4:Nat):Int):=Xa (by decide)
 have t4:shN 4 ((c / 128 / 256 / 4 / 16 / 4:Nat):Int)=((c / 128 / 256 / 4 / 16 / 4 / 16:Nat):Int):=Xa (by decide)
 unfold zkv
 rw [s7,s8,s2,s4,t2,t4]
 rw [WY (b:=4) (c:=c / 128 / 256 / 4 / 16 / 4) (by decide) (by omega),WY (b:=2) (c:=c / 128 / 256 / 4 / 16) (by decide) (by omega),WY (b:=4) (c:=c / 128 / 256 / 4) (by decide) (by omega),WY (b:=2) (c:=c / 128 / 256) (by decide) (by omega),WY (b:=8) (c:=c / 128) (by decide) (by omega),WY (b:=7) (c:=c) (by decide) (by omega)]
theorem zj1 {r k s d l z w:Nat}(h:zl5 r k s d l z w):zkv ((zaR r k s d l z w:Nat):Int)=⟨0,r,0,0,k,s,d,l,z,w,0,0,0,0⟩:=by
 obtain ⟨h1,h2,h3,h4,h5,h6,h7,h8⟩:=h
 rw [zgL _ (by unfold zaR;omega)]
 unfold zaR
 congr 1<;>(congr 1;omega)
end
section
open Go Go.Kn Go.Proofs
theorem zoa {x:Sg}(h:(Vj 0 (dgs x)).isSome=true):∃ r k s d l z w:Nat,zl5 r k s d l z w∧x.role=r∧x.kind=k∧x.side=s∧x.dir=d∧x.level=l∧x.size=z∧x.wth=w:=by
 have g:∀ {c:Int} {y:Dg} {ds:List Dg},(Vj c (y::ds)).isSome=true→zhh y=false∧(Vj (zl0 c y) ds).isSome=true:=fun {c y ds} hs=>by
  have hs:(if zhh y=true then none else Vj (zl0 c y) ds).isSome=true:=hs
  cases hb:zhh y with
  | true=>rw [hb] at hs;cases hs
  | false=>rw [hb] at hs;exact ⟨rfl,hs⟩
 have u:∀ {n lo hi b:Int},zhh ⟨n,lo,hi,b⟩=false→lo≤n∧n≤hi:=fun hb=>by unfold zhh at hb;simp at hb;omega
 unfold dgs at h
 obtain ⟨b1,h⟩:=g h
 obtain ⟨b2,h⟩:=g h
 obtain ⟨b3,h⟩:=g h
 obtain ⟨b4,h⟩:=g h
 obtain ⟨b5,h⟩:=g h
 obtain ⟨b6,h⟩:=g h
 obtain ⟨b7,_⟩:=g h
 have b1:=u b1;have b2:=u b2;have b3:=u b3;have b4:=u b4;have b5:=u b5;have b6:=u b6;have b7:=u b7
 exact ⟨x.role.toNat,x.kind.toNat,x.side.toNat,x.dir.toNat,x.level.toNat,x.size.toNat,x.wth.toNat,⟨by omega,by omega,by omega,by omega,by omega,by omega,by omega,by omega⟩,by omega,by omega,by omega,by omega,by omega,by omega,by omega⟩
theorem XX {x:Sg}{r k s d l z w:Nat}(h:zl5 r k s d l z w)(e:x.role=r∧x.kind=k∧x.side=s∧x.dir=d∧x.level=l∧x.size=z∧x.wth=w):Wn x=((zaR r k s d l z w:Nat):Int)∧KI x=0:=by
 obtain ⟨e1,e2,e3,e4,e5,e6,e7⟩:=e
 have hp:Vj 0 (dgs x)=some ((zaR r k s d l z w:Nat):Int):=by
  unfold dgs
  rw [e1,e2,e3,e4,e5,e6,e7]
  exact zxT h
 unfold Wn KI
 rw [hp];exact ⟨rfl,rfl⟩
theorem zgQ {x:Sg}(h:KI x=0):(Vj 0 (dgs x)).isSome=true:=by
 unfold KI at h
 split at h
 ·
  assumption
 ·
  cases h
theorem zaf {x:Sg}(h:KI x=0):Vl (Wn x)=0∧UI (Wn x)=⟨0,x.role,0,0,x.kind,x.side,x.dir,x.level,x.size,x.wth,0,0,0,0⟩∧0<Wn x∧Wn x<8589934592:=by
 obtain ⟨r,k,s,d,l,z,w,hd,e⟩:=zoa (zgQ h)
 obtain ⟨c1,_⟩:=XX hd e
 have hr:=zj1 hd
 have he:Vl ((zaR r k s d l z w:Nat):Int)=0:=by
  unfold Vl
  rw [hr]
  exact (XX hd ⟨rfl,rfl,rfl,rfl,rfl,rfl,rfl⟩).2
 rw [c1]
 obtain ⟨e1,e2,e3,e4,e5,e6,e7⟩:=e
 obtain ⟨h1,h2,h3,h4,h5,h6,h7,h8⟩:=hd
 refine ⟨he,?_,by unfold zaR;omega,by unfold zaR;omega⟩
 unfold UI
 rw [if_neg (by omega),hr,e1,e2,e3,e4,e5,e6,e7]
theorem zdK {c:Int}(h:Vl c=0):Wn (UI c)=c∧KI (UI c)=0∧0<c∧c<8589934592:=by
 have hs:UI c=zkv c:=by unfold UI;rw [if_neg (by omega)]
 have hraw:KI (zkv c)=0:=h
 obtain ⟨r,k,s,d,l,z,w,hd,e⟩:=zoa (zgQ hraw)
 have hrole:(zkv c).role=shN 4 (shN 2 (shN 4 (shN 2 (shN 8 (shN 7 c))))):=rfl
 have hc:0≤c∧c<2^33:=by
  have e1:=e.1
  rw [hrole] at e1
  have hr:=hd.r
  have u:∀ (b:Nat) (x:Int),b≤8→shN b x=x.fdiv (2^b):=fun b x hb=>by
   unfold shN
   have:min (b:Int).toNat IntKind.i64.bits=b:=by
    show min b 64=b
    omega
   rw [this]
  rw [u 4 _ (by decide),u 2 _ (by decide),u 4 _ (by decide),u 2 _ (by decide),u 8 _ (by decide),u 7 _ (by decide)] at e1
  have v:∀ (x:Int) (m:Int),0<m→x.fdiv m=x / m:=fun x m hm=>Int.fdiv_eq_ediv_of_nonneg _ (by omega)
  rw [v _ _ (by decide),v _ _ (by decide),v _ _ (by decide),v _ _ (by decide),v _ _ (by decide),v _ _ (by decide)] at e1
  have e1:c / 128 / 256 / 4 / 16 / 4 / 16=(r:Int):=e1
  omega
 obtain ⟨n,rfl⟩:∃ n:Nat,c=(n:Int):=⟨c.toNat,by omega⟩
 have hn:=zgL n (by omega)
 obtain ⟨c1,c2⟩:=XX hd e
 rw [hs]
 refine ⟨?_,c2,?_,by omega⟩
 ·
  rw [c1]
  rw [hn] at e
  obtain ⟨e1,e2,e3,e4,e5,e6,e7⟩:=e
  simp only at e1 e2 e3 e4 e5 e6 e7
  unfold zaR
  omega
 ·
  rw [hn] at e
  have e2:((n / 128 / 256 / 4 / 16 / 4 % 16:Nat):Int)=(k:Int):=e.2.1
  have:=hd.k1
  omega
end
section
open Go Go.Kn Go.Proofs
def cz:Nat→(Nat→Int)→Nat
 | 0,_=>0
 | n+1,f=>cz n f+(if f n=0 then 0 else 1)
theorem ze7:∀ n,cz n (fun _=>0)=0
 | 0=>rfl
 | n+1=>by unfold cz;rw [ze7 n];rfl
theorem zoZ {f:Nat→Int}{a:Nat}{v:Int}:∀ n,cz n (KZ f a v)≤cz n f+(if a<n then 1 else 0)
 | 0=>Nat.zero_le _
 | n+1=>by
  have ih:=zoZ (f:=f) (a:=a) (v:=v) n
  unfold cz
  by_cases e:n=a
  ·
   subst e
   rw [V0,if_pos (show n<n+1 by omega)]
   rw [if_neg (show ¬n<n by omega)] at ih
   split<;>split<;>omega
  ·
   rw [JM e]
   by_cases h:a<n
   ·
    rw [if_pos h] at ih
    rw [if_pos (show a<n+1 by omega)]
    split<;>omega
   ·
    rw [if_neg h] at ih
    rw [if_neg (show ¬a<n+1 by omega)]
    split<;>omega
theorem zkC {f:Nat→Int}{a n:Nat}{v:Int}:cz n (KZ f a v)≤cz n f+1:=by
 have:=zoZ (f:=f) (a:=a) (v:=v) n
 split at this<;>omega
theorem zt9 {w:Nat→Nat}{T:List Int}{n:Nat}:∀ k,cz n (txF w T k)≤k
 | 0=>by show cz n (fun _=>0)≤0;rw [ze7];exact Nat.le_refl _
 | k+1=>by
  have ih:=zt9 (w:=w) (T:=T) (n:=n) k
  have:=zkC (f:=txF w T k) (a:=Ym w k+w k) (n:=n) (v:=T.getD k 0)
  show cz n (KZ (txF w T k) (Ym w k+w k) (T.getD k 0))≤k+1
  omega
def both (y:Int×Int):Bool:=decide (y.1>0)&&decide (y.2>0)
theorem zx1 {w:Nat→Nat}{l:List Int}{n:Nat}(ps:List (Int×Int)):∀ (f:Nat→Int),cz n (ps.foldl (prF w l) f)≤cz n f+(ps.filter both).length:=by
 induction ps with
 | nil=>intro f;exact Nat.le_refl _
 | cons y ps ih=>
  intro f
  rw [List.foldl_cons]
  have h:=ih (prF w l f y)
  cases hb:(decide (y.1>0)&&decide (y.2>0)) with
  | true=>
   rw [zh5 hb] at h ⊢
   have h2:=zkC (f:=f) (a:=Ym w (y.1-1).toNat+w (y.1-1).toNat) (n:=n) (v:=l.getD (y.2-1).toNat 0)
   rw [List.filter_cons_of_pos (show both y=true from hb),List.length_cons];omega
  | false=>
   rw [zpb hb] at h ⊢
   rw [List.filter_cons_of_neg (show ¬both y=true by unfold both;rw [hb];decide)];exact h
theorem zyP {w:Nat→Nat}{l:List Int}{n:Nat}(qs:List (Int×Int)):∀ (s:(Nat→Int)×(Nat→Nat)),cz n (qs.foldl (alS w l) s).1≤cz n s.1+qs.length:=by
 induction qs with
 | nil=>intro s;exact Nat.le_refl _
 | cons q qs ih=>
  intro s
  rw [List.foldl_cons]
  have h:=ih (alS w l s q)
  have h2:=zkC (f:=s.1) (a:=Ym w q.1.toNat+s.2 q.1.toNat) (n:=n) (v:=l.getD q.2.toNat 0)
  have h3:cz n (alS w l s q).1≤cz n s.1+1:=h2
  rw [List.length_cons];omega
def sec (y:Int×Int):Bool:=decide (y.2>0)
theorem ze0 {m n:Nat}:∀ (ps:List (Int×Int)) (a:Int),(∀ p∈ps,QOK m n p)→(ps.filter both).length+(Kl a ps).length≤(ps.filter sec).length
 | [],_,_=>Nat.le_refl _
 | p::ps,a,h=>by
  obtain ⟨i,k,rfl,_,_,h0⟩:=h p (List.mem_cons_self ..)
  have hr:=fun q hq=>h q (List.mem_cons_of_mem _ hq)
  unfold Kl
  split
  ·
   rename_i hi
   have ih:=ze0 ps (i:Int) hr
   by_cases hk:0<k
   ·
    rw [List.filter_cons_of_pos (show both ((i:Int),(k:Int))=true by unfold both;simp at hi ⊢;omega),List.filter_cons_of_pos (show sec ((i:Int),(k:Int))=true by unfold sec;simp;omega),List.length_cons,List.length_cons]
    have ih:(ps.filter both).length+(Kl ((i:Int),(k:Int)).1 ps).length≤(ps.filter sec).length:=ih
    omega
   ·
    rw [List.filter_cons_of_neg (show ¬both ((i:Int),(k:Int))=true by unfold both;simp;omega),List.filter_cons_of_neg (show ¬sec ((i:Int),(k:Int))=true by unfold sec;simp;omega)]
    exact ih
  ·
   rename_i hi
   have ih:=ze0 ps a hr
   have hi0:i=0:=by simp at hi;omega
   rw [List.filter_cons_of_neg (show ¬both ((i:Int),(k:Int))=true by unfold both;simp;omega),List.filter_cons_of_pos (show sec ((i:Int),(k:Int))=true by unfold sec;simp;omega),List.length_cons,List.length_cons]
   omega
theorem zgm {a b:List Int}:∀ (f i k:Nat),i≤a.length→k≤b.length→((paF a b f i k).filter sec).length+k≤b.length
 | 0,_,k,_,hk=>by show 0+k≤_;omega
 | f+1,i,k,hi,hk=>by
  unfold paF
  split
  ·
   rename_i hg
   split
   ·
    rename_i hb
    have h1:i<a.length∧k<b.length:=by unfold WZ at hb;simp at hb;omega
    have ih:=zgm f (i+1) (k+1) h1.1 h1.2
    rw [List.filter_cons_of_pos (show sec (((i+1:Nat):Int),((k+1:Nat):Int))=true by unfold sec;simp<;>omega),List.length_cons];omega
   ·
    rename_i hb
    split
    ·
     rename_i ho
     have h1:i<a.length:=by unfold zgZ at ho;simp at ho;omega
     have ih:=zgm f (i+1) k h1 hk
     rw [List.filter_cons_of_neg (show ¬sec (((i+1:Nat):Int),(0:Int))=true by unfold sec;simp)];exact ih
    ·
     rename_i ho
     have h1:k<b.length:=zgE hi hk (by simp at hg;omega) (by simpa using hb) (by simpa using ho)
     have ih:=zgm f i (k+1) hi h1
     rw [List.filter_cons_of_pos (show sec ((0:Int),((k+1:Nat):Int))=true by unfold sec;simp<;>omega),List.length_cons];omega
  ·
   show 0+k≤_;omega
theorem zsT {xs:List Wr}{i:Nat}:((pfW xs i).filter both).length+(alW xs i).length≤(csW xs i).length:=by
 have h1:=ze0 (pfW xs i) 0 (Xu (xs:=xs) (i:=i)).1
 have h2:((pfW xs i).filter sec).length≤(csW xs i).length:=by
  unfold pfW
  split
  ·
   exact Nat.zero_le _
  ·
   unfold V6
   split
   ·
    exact Nat.zero_le _
   ·
    have:=zgm (a:=csW xs 0) (b:=csW xs i) ((csW xs 0).length+(csW xs i).length) 0 0 (Nat.zero_le _) (Nat.zero_le _)
    unfold znW;omega
 exact Nat.le_trans h1 h2
theorem zvr {xs:List Wr}{i n:Nat}:cz n (zfj (wdW xs) (csW xs 0) (csW xs i) i (pfW xs i))≤(csW xs i).length:=by
 unfold zfj alP
 have h1:=zyP (w:=wdW xs) (l:=csW xs i) (n:=n) (zg0 (pfW xs i)) ((pfW xs i).foldl (prF (wdW xs) (csW xs i)) (if i=0 then txF (wdW xs) (csW xs 0) (csW xs 0).length else fun _=>0),fun _=>0)
 have h2:=zx1 (w:=wdW xs) (l:=csW xs i) (n:=n) (pfW xs i) (if i=0 then txF (wdW xs) (csW xs 0) (csW xs 0).length else fun _=>0)
 have h3:=zsT (xs:=xs) (i:=i)
 by_cases h0:i=0
 ·
  subst h0
  have h4:=zt9 (w:=wdW xs) (T:=csW xs 0) (n:=n) (csW xs 0).length
  have e1:pfW xs 0=[]:=rfl
  rw [e1] at h1 h2 ⊢
  simp only [if_true] at h1 h2 ⊢
  have e2:zg0 []=[]:=rfl
  rw [e2] at h1 ⊢
  simp only [List.filter_nil,List.length_nil,Nat.add_zero] at h1 h2
  omega
 ·
  rw [if_neg h0] at h1 h2 ⊢
  rw [ze7] at h2
  have e3:(alW xs i).length=(zg0 (pfW xs i)).length:=rfl
  simp only at h1
  omega
theorem zn9 {n:Nat}{f:Nat→Int}:∀ k,k≤n→nzF (Vd n f) k=cz k f
 | 0,_=>rfl
 | k+1,hk=>by
  have ih:=zn9 (n:=n) (f:=f) k (by omega)
  have hx:(Vd n f)[k]? =some (f k):=YH (by omega)
  unfold cz
  by_cases h:f k=0
  ·
   rw [zfI hx (by simp [h]),ih,if_pos h];rfl
  ·
   rw [zcg hx (by simp [h]),ih,if_neg h]
theorem ziK {xs:List Wr}:zyE xs (Uv xs):=by
 intro i x row hx hr k hk h0
 have hil:(Uv xs).length≤xs.length:=zfh.1
 unfold Uv at hr
 split at hr
 ·
  simp at hr
 ·
  rw [List.getElem?_map] at hr
  have hi:=(List.getElem?_eq_some_iff.1 hx).1
  rw [List.getElem?_range hi,Option.map_some] at hr
  have hr:=(Option.some.inj hr).symm
  subst hr
  unfold zcN at hk h0 ⊢
  rw [Yb] at hk
  have hg:=QU (d:=0) (YH (f:=zfj (wdW xs) (csW xs 0) (csW xs i) i (pfW xs i)) hk)
  rw [hg] at h0
  rw [zn9 k (by omega)]
  have h1:=zvr (xs:=xs) (i:=i) (n:=k+1)
  have h2:cz (k+1) (zfj (wdW xs) (csW xs 0) (csW xs i) i (pfW xs i))=cz k (zfj (wdW xs) (csW xs 0) (csW xs i) i (pfW xs i))+1:=by
   show _+(if _ then 0 else 1)=_
   rw [if_neg h0]
  have h3:(csW xs i).length=x.rs.length:=by rw [za9 hx,List.length_map]
  omega
end
section
open Go Go.Kn Go.Proofs
theorem zpS {y:Sg}(h:We [y]=0):frm y=true:=by
 unfold We at h
 rw [if_neg (show ¬ [y].length>4096 from by simp)] at h
 split at h
 ·
  rename_i h2
  unfold skB at h2
  have h3:=List.all_eq_true.1 h2 0 (by simp)
  unfold skP at h3
  simp at h3
  exact h3
 ·
  cases h
theorem zsq {xs:List Wr}:∀ {l:Int},K9 l xs=true→∀ x∈xs,∀ r∈x.rs,zdD r=false:=by
 induction xs with
 | nil=>intro l _ x hx;cases hx
 | cons z xs ih=>
  intro l h x hx r hr
  have h:(!zl6 l z&&(!z.rs.any zdD&&K9 z.no xs))=true:=h
  simp only [Bool.and_eq_true,Bool.not_eq_true'] at h
  rcases List.mem_cons.1 hx with rfl | hx
  ·
   have:=List.any_eq_false.1 h.2.1 r hr
   simpa using this
  ·
   exact ih h.2.2 x hx r hr
theorem zra {xs:List Wr}(h:Ut xs=0){x:Wr}(hx:x∈xs){r:Rd}(hr:r∈x.rs):zdD r=false∧(r.lost=false→frm r.sg=true∧r.sg.id=0)∧(r.lost=true→r.sg=YC):=by
 have hg:K9 0 xs=true:=by
  unfold Ut at h
  split at h
  ·
   cases h
  ·
   split at h
   ·
    cases h
   ·
    split at h
    ·
     assumption
    ·
     cases h
 have hb:=zsq hg x hx r hr
 refine ⟨hb,fun hl=>?_,fun hl=>?_⟩
 ·
  unfold zdD at hb
  rw [hl] at hb
  simp only [Bool.false_and,Bool.not_false,Bool.true_and,Bool.false_or,Bool.or_eq_false_iff,bne_eq_false_iff_eq] at hb
  exact ⟨zpS hb.2,hb.1⟩
 ·
  unfold zdD at hb
  rw [hl] at hb
  simp only [Bool.true_and,Bool.not_true,Bool.false_and,Bool.or_false,Bool.not_eq_false'] at hb
  exact Uj.1 hb
end
section
open Go Go.Kn Go.Proofs
theorem zef {ws:List Wr}(h:zai ws=0)(h0:0<(Uv ws).length):Ut ws=0∧(Uv ws).length=ws.length:=by
 rcases zqt h with h1 | h1
 ·
  exact ⟨(zkq h1).1,zgz rfl h0⟩
 ·
  rw [h1] at h0;simp at h0
end
section
open Go Go.Kn Go.Proofs
theorem zme {x:Sg}(h:frm x=true):KI x=0:=by
 unfold frm zzC at h
 simp only [Bool.and_eq_true] at h
 obtain ⟨⟨⟨⟨⟨⟨⟨⟨⟨⟨_,y2⟩,_⟩,y4⟩,_⟩,y6⟩,y7⟩,y8⟩,y9⟩,y10⟩,_⟩:=h
 have u:∀ {n lo hi:Int},Yy n lo hi=true→lo≤n∧n≤hi:=fun h=>by unfold Yy at h;simp at h;omega
 have y2:=u y2;have y4:=u y4;have y6:=u y6;have y7:=u y7;have y8:=u y8;have y9:=u y9;have y10:=u y10
 exact (XX (r:=x.role.toNat) (k:=x.kind.toNat) (s:=x.side.toNat) (d:=x.dir.toNat) (l:=x.level.toNat) (z:=x.size.toNat) (w:=x.wth.toNat) ⟨by omega,by omega,by omega,by omega,by omega,by omega,by omega,by omega⟩ ⟨by omega,by omega,by omega,by omega,by omega,by omega,by omega⟩).2
def zkU (rs:List Rd):Prop:=∀ r∈rs,(r.lost=true∧YJ r=8589934592)∨(r.lost=false∧YJ r=Wn r.sg∧KI r.sg=0)
theorem zsU {rs:List Rd}(h:zkU rs){r:Rd}(hr:r∈rs):0<YJ r∧YJ r≤8589934592:=by
 rcases h r hr with ⟨_,e⟩ | ⟨_,e,e2⟩
 ·
  omega
 ·
  have:=zaf e2;omega
end
section
open Go Go.Kn Go.Proofs
/-! ### Pairs go up -/
def Up (ps:List (Int×Int)):Prop:=ps.Pairwise fun p q=>0<q.1→p.1<q.1
theorem zjA {a b:List Int}:∀ (f i k:Nat),(∀ p∈paF a b f i k,p.1=0∨(i:Int)<p.1)∧Up (paF a b f i k)
 | 0,_,_=>⟨(fun p hp=>by cases hp),.nil⟩
 | f+1,i,k=>by
  unfold paF
  split
  ·
   split
   ·
    have ih:=zjA (a:=a) (b:=b) f (i+1) (k+1)
    refine ⟨fun p hp=>?_,List.pairwise_cons.2 ⟨fun q hq hq0=>?_,ih.2⟩⟩
    ·
     rcases List.mem_cons.1 hp with rfl | hp
     ·
      exact .inr (by simp only;omega)
     ·
      rcases ih.1 p hp with h | h
      ·
       exact .inl h
      ·
       exact .inr (by omega)
    ·
     rcases ih.1 q hq with h | h
     ·
      omega
     ·
      simpa using h
   ·
    split
    ·
     have ih:=zjA (a:=a) (b:=b) f (i+1) k
     refine ⟨fun p hp=>?_,List.pairwise_cons.2 ⟨fun q hq hq0=>?_,ih.2⟩⟩
     ·
      rcases List.mem_cons.1 hp with rfl | hp
      ·
       exact .inr (by simp only;omega)
      ·
       rcases ih.1 p hp with h | h
       ·
        exact .inl h
       ·
        exact .inr (by omega)
     ·
      rcases ih.1 q hq with h | h
      ·
       omega
      ·
       simpa using h
    ·
     have ih:=zjA (a:=a) (b:=b) f i (k+1)
     refine ⟨fun p hp=>?_,List.pairwise_cons.2 ⟨fun q hq hq0=>by simpa using hq0,ih.2⟩⟩
     rcases List.mem_cons.1 hp with rfl | hp
     ·
      exact .inl rfl
     ·
      exact ih.1 p hp
  ·
   exact ⟨(fun p hp=>by cases hp),.nil⟩
theorem zvh {xs:List Wr}{i:Nat}:Up (pfW xs i):=by
 unfold pfW
 split
 ·
  exact .nil
 ·
  unfold V6
  split
  ·
   exact .nil
  ·
   exact (zjA _ 0 0).2
/-! ### The reading beside a place -/
def zcQ (ps:List (Int×Int))(l:List Int)(k:Nat):Int:=match ps.find? (fun y=>y.1==(k:Int)+1&&decide (y.2>0)) with
 | none=>0
 | some y=>l.getD (y.2-1).toNat 0
theorem W7 {w:Nat→Nat}{a b c d:Nat}(hc:c≤w a)(hd:d≤w b)(h:Ym w a+c=Ym w b+d):a=b∧c=d:=by
 rcases Nat.lt_trichotomy a b with g | g | g
 ·
  have:=W2 (w:=w) g;omega
 ·
  subst g;omega
 ·
  have:=W2 (w:=w) g;omega
theorem zvy {w:Nat→Nat}{l:List Int}{m n:Nat}:∀ (qs pre:List (Int×Int)) (f:Nat→Int),Up (pre++qs)→(∀ p∈pre++qs,QOK m n p)→(∀ k,f (Ym w k+w k)=zcQ pre l k)→(∀ k c,c<w k→f (Ym w k+c)=0)→
  (∀ k,(qs.foldl (prF w l) f) (Ym w k+w k)=zcQ (pre++qs) l k)∧∀ k c,c<w k→(qs.foldl (prF w l) f) (Ym w k+c)=0
 | [],pre,f,_,_,h1,h2=>by rw [List.append_nil];exact ⟨h1,h2⟩
 | y::qs,pre,f,hu,hq,h1,h2=>by
  have e:pre++y::qs=(pre++[y])++qs:=by simp
  rw [e] at hu hq ⊢
  rw [List.foldl_cons]
  obtain ⟨i,j,rfl,hi,hj,h0⟩:=hq y (by simp)
  have hno:∀ p∈pre,0<(i:Int)→p.1<(i:Int):=fun p hp hi0=>by
   have:=(List.pairwise_append.1 (List.pairwise_append.1 hu).1).2.2 p hp ((i:Int),(j:Int)) (by simp)
   exact this hi0
  have hfind:∀ k:Nat,zcQ (pre++[((i:Int),(j:Int))]) l k=if (0<i∧0<j)∧i=k+1 then l.getD ((j:Int)-1).toNat 0 else zcQ pre l k:=fun k=>by
   unfold zcQ
   rw [List.find?_append]
   by_cases hm:(0<i∧0<j)∧i=k+1
   ·
    rw [if_pos hm]
    have hnone:pre.find? (fun y=>y.1==(k:Int)+1&&decide (y.2>0))=none:=by
     rw [List.find?_eq_none]
     intro p hp hc
     have h3:=hno p hp (by omega)
     simp only [Bool.and_eq_true,beq_iff_eq] at hc
     omega
    rw [hnone,Option.none_or]
    rw [List.find?_cons_of_pos (by simp;omega)]
   ·
    rw [if_neg hm]
    have:([((i:Int),(j:Int))]:List (Int×Int)).find? (fun y=>y.1==(k:Int)+1&&decide (y.2>0))=none:=by
     rw [List.find?_eq_none]
     intro p hp hc
     simp only [List.mem_singleton] at hp
     subst hp
     simp only [Bool.and_eq_true,beq_iff_eq,decide_eq_true_eq] at hc
     exact hm (by omega)
    rw [this,Option.or_none]
  refine zvy qs (pre++[((i:Int),(j:Int))]) (prF w l f ((i:Int),(j:Int))) hu hq (fun k=>?_) (fun k c hc=>?_)
  ·
   rw [hfind k]
   unfold prF
   by_cases hb:(decide ((i:Int)>0)&&decide ((j:Int)>0))=true
   ·
    rw [if_pos hb]
    have hb2:0<i∧0<j:=by simp at hb;omega
    have e1:((i:Int)-1).toNat=i-1:=by omega
    show KZ f (Ym w ((i:Int)-1).toNat+w ((i:Int)-1).toNat) _ _=_
    rw [e1]
    by_cases hk:i=k+1
    ·
     rw [if_pos ⟨hb2,hk⟩,show i-1=k by omega,V0]
    ·
     rw [if_neg (by omega),JM,h1 k]
     intro h
     have:=(W7 (w:=w) (Nat.le_refl _) (Nat.le_refl _) h).1
     omega
   ·
    rw [if_neg hb,h1 k,if_neg]
    intro h
    apply hb
    simp;omega
  ·
   unfold prF
   split
   ·
    show KZ f _ _ _=0
    rw [JM,h2 k c hc]
    intro h
    have h3:=W7 (w:=w) (Nat.le_of_lt hc) (Nat.le_refl _) h
    obtain ⟨h4,h5⟩:=h3
    subst h4
    omega
   ·
    exact h2 k c hc
/-! ### The readings that are alone behind a place -/
def zem (al:List (Int×Int))(l:List Int)(k:Nat):List Int:=(al.filter fun q=>q.1.toNat==k).map fun q=>l.getD q.2.toNat 0
theorem zcs (al:List (Int×Int))(l:List Int)(k:Nat):(zem al l k).length=cnt al k:=by
 unfold zem
 rw [List.length_map]
 have key:∀ (qs pre:List (Int×Int)),(pre.filter fun q=>q.1.toNat==k).length=cnt pre k→((pre++qs).filter fun q=>q.1.toNat==k).length=cnt (pre++qs) k:=by
  intro qs
  induction qs with
  | nil=>intro pre h;rw [List.append_nil];exact h
  | cons q qs ih=>
   intro pre h
   have e:pre++q::qs=(pre++[q])++qs:=by simp
   rw [e]
   refine ih (pre++[q]) ?_
   rw [List.filter_append,List.length_append,Ue,h]
   unfold KZ
   by_cases hq:q.1.toNat=k
   ·
    rw [if_pos hq.symm,List.filter_cons_of_pos (by simpa using hq),hq];simp
   ·
    rw [if_neg (Ne.symm hq),List.filter_cons_of_neg (by simpa using hq)];simp
 have:=key al [] rfl
 simpa using this
theorem ziy (al:List (Int×Int))(l:List Int)(q:Int×Int)(k:Nat):zem (al++[q]) l k=zem al l k++(if q.1.toNat=k then [l.getD q.2.toNat 0] else []):=by
 unfold zem
 rw [List.filter_append,List.map_append]
 congr 1
 by_cases h:q.1.toNat=k
 ·
  rw [if_pos h,List.filter_cons_of_pos (by simpa using h)];rfl
 ·
  rw [if_neg h,List.filter_cons_of_neg (by simpa using h)];rfl
theorem zt7 {w:Nat→Nat}{l:List Int}{f0:Nat→Int}(hf:∀ k c,c<w k→f0 (Ym w k+c)=0):∀ (qs pre:List (Int×Int)),(∀ k,cnt (pre++qs) k≤w k)→
  (∀ k,(alP w l f0 pre).1 (Ym w k+w k)=f0 (Ym w k+w k))→(∀ k c,c<w k→(alP w l f0 pre).1 (Ym w k+c)=(zem pre l k).getD c 0)→
  (∀ k,(alP w l f0 (pre++qs)).1 (Ym w k+w k)=f0 (Ym w k+w k))∧∀ k c,c<w k→(alP w l f0 (pre++qs)).1 (Ym w k+c)=(zem (pre++qs) l k).getD c 0
 | [],pre,_,h1,h2=>by rw [List.append_nil];exact ⟨h1,h2⟩
 | q::qs,pre,hw,h1,h2=>by
  have e:pre++q::qs=(pre++[q])++qs:=by simp
  rw [e] at hw ⊢
  have hlt:cnt pre q.1.toNat<w q.1.toNat:=by
   have h3:=hw q.1.toNat
   have h4:=zko (pre++[q]) q.1.toNat qs.length qs (Nat.le_refl _)
   rw [zb6 rfl] at h4
   omega
  refine zt7 hf qs (pre++[q]) hw (fun k=>?_) (fun k c hc=>?_)
  ·
   rw [zbZ,JM,h1 k]
   intro h
   obtain ⟨h3,h4⟩:=W7 (w:=w) (Nat.le_refl _) (Nat.le_of_lt hlt) h
   subst h3
   omega
  ·
   rw [zbZ,ziy]
   by_cases h:Ym w k+c=Ym w q.1.toNat+cnt pre q.1.toNat
   ·
    obtain ⟨h3,h4⟩:=W7 (w:=w) (Nat.le_of_lt hc) (Nat.le_of_lt hlt) h
    rw [h,V0,if_pos h3.symm,h4,←zcs pre l,←h3]
    simp
   ·
    rw [JM h,h2 k c hc]
    by_cases hk:q.1.toNat=k
    ·
     subst hk
     rw [if_pos rfl,List.getD_eq_getElem?_getD,List.getD_eq_getElem?_getD,List.getElem?_append]
     split
     ·
      rfl
     ·
      rename_i hlen
      have hne:c≠(zem pre l q.1.toNat).length:=by rw [zcs];intro h5;exact h (by rw [h5])
      rw [List.getElem?_eq_none (by omega),List.getElem?_eq_none (by simp;omega)]
    ·
     rw [if_neg hk,List.append_nil]
/-! ### Rows by blocks -/
def ztD (w:Nat→Nat)(T l:List Int)(i:Nat)(ps:List (Int×Int))(k:Nat):List Int:=
 (zem (zg0 ps) l k++List.replicate (w k-(zem (zg0 ps) l k).length) 0)++(if k<T.length then [if i=0 then T.getD k 0 else zcQ ps l k] else [])
def zlZ (xs:List Wr)(i k:Nat):List Int:=ztD (wdW xs) (csW xs 0) (csW xs i) i (pfW xs i) k
def ztv (xs:List Wr)(i k:Nat):List Int:=(List.range k).flatMap (zlZ xs i)
theorem zdv (xs:List Wr)(i k:Nat):ztv xs i (k+1)=ztv xs i k++zlZ xs i k:=by
 unfold ztv;rw [List.range_succ,List.flatMap_append];simp
theorem ztf {L:List Int}{m:Nat}(h:L.length≤m):(List.range m).map (fun c=>L.getD c 0)=L++List.replicate (m-L.length) 0:=by
 apply List.ext_getElem?
 intro c
 rw [List.getElem?_map,List.getElem?_append]
 by_cases hc:c<m
 ·
  rw [List.getElem?_range hc]
  split
  ·
   rename_i h1
   rw [Option.map_some,List.getD_eq_getElem?_getD,List.getElem?_eq_getElem h1];rfl
  ·
   rename_i h1
   rw [Option.map_some,List.getD_eq_getElem?_getD,List.getElem?_eq_none (by omega),List.getElem?_replicate,if_pos (by omega)];rfl
 ·
  rw [List.getElem?_eq_none (by simp;omega),if_neg (by omega),List.getElem?_replicate,if_neg (by omega)];rfl
theorem zgx (f:Nat→Int)(a b:Nat):Vd (a+b) f=Vd a f++(List.range b).map fun c=>f (a+c):=by
 unfold Vd
 rw [List.range_add,List.map_append,List.map_map];rfl
theorem zvo {w:Nat→Nat}{T:List Int}:∀ m,(∀ k,txF w T m (Ym w k+w k)=if k<m then T.getD k 0 else 0)∧∀ k c,c<w k→txF w T m (Ym w k+c)=0
 | 0=>⟨fun k=>rfl,fun k c _=>rfl⟩
 | m+1=>by
  have ih:=zvo (w:=w) (T:=T) m
  refine ⟨fun k=>?_,fun k c hc=>?_⟩
  ·
   show KZ (txF w T m) (Ym w m+w m) (T.getD m 0) _=_
   by_cases e:k=m
   ·
    subst e;rw [V0,if_pos (by omega)]
   ·
    rw [JM (fun h=>e (W7 (w:=w) (Nat.le_refl _) (Nat.le_refl _) h).1),ih.1 k]
    by_cases h:k<m
    ·
     rw [if_pos h,if_pos (by omega)]
    ·
     rw [if_neg h,if_neg (by omega)]
  ·
   show KZ (txF w T m) (Ym w m+w m) (T.getD m 0) _=_
   rw [JM,ih.2 k c hc]
   intro h
   obtain ⟨h1,h2⟩:=W7 (w:=w) (Nat.le_of_lt hc) (Nat.le_refl _) h
   subst h1;omega
theorem zxp {xs:List Wr}{i:Nat}(hi:i<xs.length):(∀ k,k<(csW xs 0).length→zfj (wdW xs) (csW xs 0) (csW xs i) i (pfW xs i) (Ym (wdW xs) k+wdW xs k)=if i=0 then (csW xs 0).getD k 0 else zcQ (pfW xs i) (csW xs i) k)∧
  ∀ k c,c<wdW xs k→zfj (wdW xs) (csW xs 0) (csW xs i) i (pfW xs i) (Ym (wdW xs) k+c)=(zem (alW xs i) (csW xs i) k).getD c 0:=by
 have hw:∀ k,cnt ([]++alW xs i) k≤wdW xs k:=fun k=>zf0 (al:=alW xs) hi
 by_cases h0:i=0
 ·
  subst h0
  have e1:zfj (wdW xs) (csW xs 0) (csW xs 0) 0 (pfW xs 0)=txF (wdW xs) (csW xs 0) (csW xs 0).length:=rfl
  have ht:=zvo (w:=wdW xs) (T:=csW xs 0) (csW xs 0).length
  rw [e1]
  refine ⟨fun k hk=>by rw [ht.1 k,if_pos hk,if_pos rfl],fun k c hc=>by rw [ht.2 k c hc];rfl⟩
 ·
  have hp:=zvy (w:=wdW xs) (l:=csW xs i) (pfW xs i) [] (fun _=>0) (by rw [List.nil_append];exact zvh) (by rw [List.nil_append];exact (Xu (xs:=xs) (i:=i)).1) (fun k=>rfl) (fun k c _=>rfl)
  rw [List.nil_append] at hp
  have ha:=zt7 (l:=csW xs i) (f0:=(pfW xs i).foldl (prF (wdW xs) (csW xs i)) (fun _=>0)) hp.2 (alW xs i) [] hw (fun k=>rfl) (fun k c hc=>by
   show (pfW xs i).foldl (prF (wdW xs) (csW xs i)) (fun _=>0) (Ym (wdW xs) k+c)=_
   rw [hp.2 k c hc];rfl)
  rw [List.nil_append] at ha
  have e1:zfj (wdW xs) (csW xs 0) (csW xs i) i (pfW xs i)=(alP (wdW xs) (csW xs i) ((pfW xs i).foldl (prF (wdW xs) (csW xs i)) (fun _=>0)) (alW xs i)).1:=by unfold zfj;rw [if_neg h0];rfl
  rw [e1]
  exact ⟨fun k _=>by rw [ha.1 k,hp.1 k,if_neg h0],ha.2⟩
theorem zrx {xs:List Wr}{i:Nat}(hi:i<xs.length):zcN xs i=ztv xs i ((csW xs 0).length+1):=by
 obtain ⟨h1,h2⟩:=zxp hi
 have hle:∀ k,(zem (alW xs i) (csW xs i) k).length≤wdW xs k:=fun k=>by rw [zcs];exact zf0 (al:=alW xs) hi
 have hpart:∀ k,(List.range (wdW xs k)).map (fun c=>zfj (wdW xs) (csW xs 0) (csW xs i) i (pfW xs i) (Ym (wdW xs) k+c))=zem (alW xs i) (csW xs i) k++List.replicate (wdW xs k-(zem (alW xs i) (csW xs i) k).length) 0:=fun k=>by
  rw [←ztf (hle k)]
  refine List.map_congr_left fun c hc=>?_
  exact h2 k c (List.mem_range.1 hc)
 have key:∀ k,k≤(csW xs 0).length→Vd (Ym (wdW xs) k) (zfj (wdW xs) (csW xs 0) (csW xs i) i (pfW xs i))=ztv xs i k:=by
  intro k
  induction k with
  | zero=>intro _;rfl
  | succ k ih=>
   intro hk
   rw [zdv,←ih (by omega)]
   show Vd (Ym (wdW xs) k+(wdW xs k+1)) _=_
   rw [zgx]
   congr 1
   rw [List.range_succ,List.map_append,hpart k]
   unfold zlZ ztD
   rw [if_pos (by omega)]
   congr 1
   simp only [List.map_cons,List.map_nil]
   rw [h1 k (by omega)]
 have hlo:loW xs=Ym (wdW xs) (csW xs 0).length+wdW xs (csW xs 0).length:=by unfold loW;show Ym _ _+(_+1)-1=_;omega
 unfold zcN
 rw [hlo,zgx,key _ (Nat.le_refl _),hpart,zdv]
 congr 1
 unfold zlZ ztD
 rw [if_neg (by omega),List.append_nil]
 rfl
end
section
open Go Go.Kn Go.Proofs
theorem zvF {ps:List (Int×Int)}{l:List Int}{m:Nat}(h:ps.any (fun y=>y.1==(m:Int)+1&&decide (y.2>0))=false):zcQ ps l m=0:=by
 unfold zcQ
 have:ps.find? (fun y=>y.1==(m:Int)+1&&decide (y.2>0))=none:=by
  rw [List.find?_eq_none];intro y hy2 h3
  exact List.any_eq_false.1 h y hy2 h3
 rw [this]
end
end Go.Proofs.YtodakphagkommaaGreatDoor
section
namespace Go.Kn
open Go
end Go.Kn
namespace Go.Proofs.YtodakphagkommaaGreatDoor
open Go Go.Kn Go.Proofs
def thW (xs:List Wr)(i k:Nat):List Int:=zem (alW xs i) (csW xs i) k
def zrD (xs:List Wr)(i k:Nat):List Int:=thW xs i k++List.replicate (wdW xs k-(thW xs i k).length) 0
theorem zyt {xs:List Wr}{i k:Nat}(h:¬k<(csW xs 0).length):zlZ xs i k=zrD xs i k:=by
 unfold zlZ ztD zrD thW alW;rw [if_neg h,List.append_nil]
theorem zx6 {xs:List Wr}{k:Nat}(h:k<(csW xs 0).length):zlZ xs 0 k=zrD xs 0 k++[(csW xs 0).getD k 0]:=by
 unfold zlZ ztD zrD thW alW;rw [if_pos h,if_pos rfl]
end Go.Proofs.YtodakphagkommaaGreatDoor
end
namespace Go.Proofs.YtodakphagkommaaGreatDoor
section
open Go Go.Kn Go.Proofs
theorem zql {rows:List (List Int)}{m:Nat}{l:Int}{e:Em}:zd4 rows m l e=((decide (e.locus≤l)||decide (e.locus≥(m:Int)))|| !rsF e.reason e.code (Xo rows e)):=by unfold zd4;rw [Bool.or_assoc]
theorem zzP {r c:Int}{b:Bool}(h:r=1):rsF r c b=((b&&c != 0)&&c != 8589934592):=by unfold rsF;rw [if_pos h];rfl
theorem zz0 {r c:Int}{b:Bool}(h1:¬r=1)(h:r=2):rsF r c b=(!b&&Vl c==0):=by unfold rsF;rw [if_neg h1,if_pos h];unfold r2F;rw [Bool.and_comm]
theorem zzM {r c:Int}{b:Bool}(h1:¬r=1)(h2:¬r=2)(h:r=3):rsF r c b=(c==0):=by unfold rsF;rw [if_neg h1,if_neg h2,if_pos h];rfl
theorem zzS {r c:Int}{b:Bool}(h1:¬r=1)(h2:¬r=2)(h:¬r=3):rsF r c b=false:=by unfold rsF;rw [if_neg h1,if_neg h2,if_neg h]
def emF (k:Nat)(n:Int)(e:Em):Int:=if e.locus=(k:Int) then e.code else n
theorem U7 {k:Nat}:∀ {es:List Em} {n:Int},(∀ e∈es,¬e.locus=(k:Int))→es.foldl (emF k) n=n
 | [],_,_=>rfl
 | e::es,n,h=>by
  rw [List.foldl_cons,show emF k n e=n from if_neg (h e (List.mem_cons_self ..))]
  exact U7 fun x hx=>h x (List.mem_cons_of_mem _ hx)
theorem zpw {m:Nat}:∀ {l:Int} {es:List Em},ztE m l es→∀ e∈es,l<e.locus
 | l,e::es,⟨h1,h2,h3⟩,x,hx=>by
  rcases List.mem_cons.1 hx with rfl | hx
  ·
   exact h1
  ·
   have:=zpw h3 x hx;omega
theorem zc0 {rows:List (List Int)}{cl:List Int}{es:List Em}{k:Nat}(h:J0 rows (rows.getD 0 []).length (-1) es=true):es.foldl (emF k) (VM rows cl k)=UV rows cl es k:=by
 obtain ⟨pre,e1,h1,h2,h3⟩:=zjt k (zfK h)
 have h0:es.foldl (emF k) (VM rows cl k)=(lfK es k).foldl (emF k) (VM rows cl k):=by
  conv=>lhs;rw [e1]
  rw [List.foldl_append,U7 (es:=pre) fun e he=>by have:=h1 e he;omega]
 rw [h0]
 cases hl:lfK es k with
 | nil=>rw [zn5 hl];rfl
 | cons e r=>
  rw [hl] at h3
  have hr:∀ x∈r,¬x.locus=(k:Int):=fun x hx=>by have h4:=zpw h3.2.2 x hx;have h5:=h2 e (by rw [hl];exact List.mem_cons_self ..);omega
  rw [List.foldl_cons]
  by_cases he:e.locus=(k:Int)
  ·
   rw [show emF k (VM rows cl k) e=e.code from if_pos he,U7 hr,zod hl he]
  ·
   rw [show emF k (VM rows cl k) e=VM rows cl k from if_neg he,U7 hr,ztV hl he]
end
section
open Go Go.Kn Go.Proofs
def VU (p:Int→Bool):Nat→List Int→Int
 | _,[]=> -1
 | j,v::vs=>if p v=true then (j:Int) else VU p (j+1) vs
def okV (v:Int):Bool:=v != 8589934592&&v != 0
def exV (code v:Int):Bool:=okV v&&v==code
def Jb (rows:List (List Int))(k:Nat):List Int:=rows.map fun r=>r.getD k 0
theorem zwE {rows:List (List Int)}{k i:Nat}{r:List Int}(h:rows[i]? =some r):(Jb rows k)[i]? =some (r.getD k 0):=by unfold Jb;rw [List.getElem?_map,h];rfl
theorem zs5 {rows:List (List Int)}{k:Nat}:(Jb rows k).length=rows.length:=by unfold Jb;simp
theorem ziU {p:Int→Bool}:∀ {l:List Int} {j:Nat},0≤VU p j l→∃ i v,VU p j l=((j+i:Nat):Int)∧l[i]? =some v∧p v=true
 | [],j,h=>by unfold VU at h;omega
 | v::vs,j,h=>by
  unfold VU at h ⊢
  by_cases hp:p v=true
  ·
   rw [if_pos hp];exact ⟨0,v,by simp,rfl,hp⟩
  ·
   rw [if_neg hp] at h ⊢
   obtain ⟨i,u,e1,e2,e3⟩:=ziU h
   exact ⟨i+1,u,by rw [e1];omega,by simpa using e2,e3⟩
def zhA (l:List Int):Nat:=(l.filter okV).length
def zhv (l:List Int):Bool:=l.any fun v=>v==8589934592
def zlx (rows:List (List Int))(k:Nat)(code:Int):Int:=if VU (exV code) 0 (Jb rows k)≥0 then VU (exV code) 0 (Jb rows k) else VU okV 0 (Jb rows k)
def zxB (ws:List Wr)(rows:List (List Int))(k:Nat):Bool:=(decide ((ws.length:Int)≥2)&&((zhA (Jb rows k):Nat):Int)==1)&& !zhv (Jb rows k)
def zqB (ws:List Wr)(rows:List (List Int))(k:Nat)(code:Int):Option Sg:=
 if VU okV 0 (Jb rows k)<0 then none else some (Uw k code (ydF ws rows (zlx rows k code).toNat k).sg (zxB ws rows k))
theorem zt8 {code:Int}{l:List Int}{j:Nat}(h:VU okV j l<0):VU (exV code) j l<0:=by
 induction l generalizing j with
 | nil=>exact h
 | cons v vs ih=>
  unfold VU at h ⊢
  by_cases hp:okV v=true
  ·
   rw [if_pos hp] at h;omega
  ·
   rw [if_neg hp] at h
   rw [if_neg (by unfold exV;simp [hp])]
   exact ih h
theorem zxm {rows:List (List Int)}{k:Nat}{code:Int}(h:¬VU okV 0 (Jb rows k)<0):∃ (i:Nat) (r:List Int),zlx rows k code=(i:Int)∧rows[i]? =some r∧r.getD k 0≠0:=by
 have key:∀ p:Int→Bool,(∀ v,p v=true→v≠0)→0≤VU p 0 (Jb rows k)→∃ (i:Nat) (r:List Int),VU p 0 (Jb rows k)=(i:Int)∧rows[i]? =some r∧r.getD k 0≠0:=fun p hp h0=>by
  obtain ⟨i,v,e1,e2,e3⟩:=ziU h0
  unfold Jb at e2
  rw [List.getElem?_map] at e2
  obtain ⟨r,hr,e⟩:=Option.map_eq_some_iff.1 e2
  exact ⟨i,r,by rw [e1];simp,hr,by rw [e];exact hp v e3⟩
 have ho:∀ v,okV v=true→v≠0:=fun v hv=>by unfold okV at hv;simp at hv;exact hv.2
 unfold zlx
 split
 ·
  rename_i h1
  exact key _ (fun v hv=>ho v (by unfold exV at hv;simp at hv;exact hv.1)) h1
 ·
  exact key _ ho (by omega)
theorem zvN {ws:List Wr}{rows:List (List Int)}{i k:Nat}{x:Wr}{r:List Int}(hv:ws[i]? =some x)(hr:rows[i]? =some r):ydF ws rows i k=x.rs.getD (nzF r k) zpz:=by
 unfold ydF
 rw [hv,QU hr];rfl
theorem zuI {ws:List Wr}{rows:List (List Int)}{k:Nat}{code:Int}(h:VU okV 0 (Jb rows k)<0):zqB ws rows k code=none:=by unfold zqB;rw [if_pos h]
theorem zta {ws:List Wr}{rows:List (List Int)}{k:Nat}{code:Int}{i:Nat}{y:Rd}{m:Bool}(h:¬VU okV 0 (Jb rows k)<0)(hi:zlx rows k code=(i:Int))(hy:ydF ws rows i k=y)(hm:zxB ws rows k=m):zqB ws rows k code=some (Uw k code y.sg m):=by
 unfold zqB;rw [if_neg h,hi,hm,←hy];rfl
end
section
open Go Go.Kn Go.Proofs
section
variable {ws:List Wr} {rows:List (List Int)} {no:Int} {cl:List Int} {es:List Em} {rd:List Int}
theorem zcq (h1:zai ws=0)(h2:Uv ws=rows)(h3:Wc rows no cl es rd=0):rows.length=ws.length∧(∀ r∈rows,r.length=rd.length)∧rd.length≤64∧zyE ws rows∧(∀ x∈ws,x.rs.length≤64)∧YO rows cl=0∧rd=Vg rows cl es:=by
 obtain ⟨hm,hr⟩:=zdf h3
 have hc:YO rows cl=0:=by
  cases Decidable.em (YO rows cl=0) with
  | inl h=>exact h
  | inr h=>rw [ziP h] at hm;exact absurd hm h
 obtain ⟨hr1,hr6,hr64,hrr⟩:=KU (KQ hc)
 have hl:rd.length=(rows.getD 0 []).length:=by rw [hr,UX]
 obtain ⟨hk,hlen⟩:=zef h1 (by rw [h2];omega)
 rw [h2] at hlen
 have h64:∀ x∈ws,x.rs.length≤64:=fun x hx=>by
  unfold Ut at hk
  split at hk
  ·
   omega
  ·
   split at hk
   ·
    omega
   ·
    rename_i hq
    have hq2:∀ x∈ws,x.rs.length≤64:=by simpa using hq
    exact hq2 x hx
 exact ⟨hlen,fun r hr'=>by rw [(hrr r hr').1,hl],by omega,by rw [←h2];exact ziK,h64,hc,hr⟩
end
end
section
open Go Go.Kn Go.Proofs
def ixF {α:Type}(P:α→Bool)(xs:List α):List Int:=(xs.zipIdx.filter fun q=>P q.1).map fun q=>(q.2:Int)
theorem zjQ {α:Type}{P:α→Bool}{xs:List α}{k:Nat}{x:α}(hx:xs[k]? =some x):ixF P (xs.take (k+1))=ixF P (xs.take k)++(if P x then [(k:Int)] else []):=by
 obtain ⟨hk,hk2⟩:=List.getElem?_eq_some_iff.1 hx
 have e:xs.take (k+1)=xs.take k++[x]:=by rw [List.take_add_one,hx];rfl
 unfold ixF
 rw [e,List.zipIdx_append,List.filter_append,List.map_append]
 have hl:(xs.take k).length=k:=by rw [List.length_take];omega
 cases h:P x<;>simp [h,hl]
theorem zia {α:Type}{P:α→Bool}{xs:List α}{k:Nat}{x:α}(hx:xs[k]? =some x)(h:P x=true):ixF P (xs.take (k+1))=ixF P (xs.take k)++[(k:Int)]:=by rw [zjQ hx,if_pos h]
theorem zr1 {α:Type}{P:α→Bool}{xs:List α}{k:Nat}{x:α}(hx:xs[k]? =some x)(h:P x=false):ixF P (xs.take (k+1))=ixF P (xs.take k):=by rw [zjQ hx,if_neg (by rw [h];decide),List.append_nil]
def Uc (rows:List (List Int))(k:Nat)(c:Int):List Int:=ixF (fun r=>r.getD k 0==c) rows
def zhC (k:Nat)(n:Int):Option Int→List Int→Option Int
 | o,r=>if decide (r.getD k 0>n)&&(match o with | none=>true | some b=>decide (r.getD k 0<b)) then some (r.getD k 0) else o
def zpE (rows:List (List Int))(k:Nat)(n:Int):Option Int:=rows.foldl (zhC k n) none
theorem zk4 {k:Nat}{n:Int}{o:Option Int}{r:List Int}(h:(decide (r.getD k 0>n)&&(!o.isSome||decide (r.getD k 0<o.getD 0)))=true):zhC k n o r=some (r.getD k 0):=by
 cases o<;>simp_all [zhC]
theorem zoW {k:Nat}{n:Int}{o:Option Int}{r:List Int}(h:(decide (r.getD k 0>n)&&(!o.isSome||decide (r.getD k 0<o.getD 0)))=false):zhC k n o r=o:=by
 cases o<;>simp_all [zhC]<;>omega
structure Vt where
 code:Int
 ws:List Int
structure En where
 loc:Int
 lem:Int
 vs:List Vt
structure Og where
 k:Int
 r:Int
 ws:List Int
 ps:List Int
deriving DecidableEq
theorem zoh {α:Type}{P:α→Bool}:∀ {xs:List α} {k:Nat} {x:α},(xs.take k).any P=false→xs[k]? =some x→P x=true→xs.findIdx? P=some k
 | [],k,x,_,h,_=>by simp at h
 | y::xs,0,x,_,h,hP=>by simp at h;subst h;simp [List.findIdx?_cons,hP]
 | y::xs,k+1,x,hn,h,hP=>by
  simp only [List.take_succ_cons,List.any_cons,Bool.or_eq_false_iff] at hn
  simp only [List.getElem?_cons_succ] at h
  rw [List.findIdx?_cons,if_neg (by rw [hn.1];decide),zoh hn.2 h hP];rfl
theorem zqe {α:Type}{P:α→Bool}{xs:List α}(h:xs.any P=false):xs.findIdx? P=none:=by
 rw [List.findIdx?_eq_none_iff];intro x hx;exact Bool.eq_false_iff.2 fun hP=>by rw [List.any_eq_false] at h;exact h x hx hP
def zoB (q:Nat)(r:List Int):Bool:=r.getD q 0 != 0&&r.getD q 0 != 8589934592
def ztH (rows:List (List Int))(q:Nat)(c:Int):Nat:=match rows.findIdx? (fun r=>r.getD q 0==c) with
 | some i=>i
 | none=>(rows.findIdx? (zoB q)).getD 0
def ztx (q:Int)(e:Em):Bool:=e.locus==q&&e.reason==2
def OgQ (o:Og)(v:Value)(I:Qu)(L:Go.Kn.Loc):Prop:=L=[]∧∃ a n c b m d,v= .agg #[.int .i64 o.k,.int .i64 o.r,.slice a n c,.slice b m d]∧Sl I 1 QQ a n c o.ws∧Sl I 1 QQ b m d o.ps
def ztG (rows:List (List Int))(q:Nat):Nat→Option Int→List Vt
 | _,none=>[]
 | 0,some _=>[]
 | m+1,some c=>⟨c,Uc rows q c⟩::ztG rows q m (zpE rows q c)
def zpj (rows:List (List Int))(q:Nat):List Vt:=ztG rows q rows.length (zpE rows q (-1))
theorem zj0 {q:Nat}{n:Int}:∀ {rows:List (List Int)} {o:Option Int} {c:Int},rows.foldl (zhC q n) o=some c→o=some c∨(n<c∧∃ r∈rows,r.getD q 0=c)
 | [],o,c,h=>.inl h
 | r::rows,o,c,h=>by
  rcases zj0 (rows:=rows) h with h1 | ⟨h1,r',h2,h3⟩
  ·
   cases hb:(decide (r.getD q 0>n)&&(!o.isSome||decide (r.getD q 0<o.getD 0))) with
   | true=>
    rw [zk4 hb] at h1
    cases h1
    simp only [Bool.and_eq_true,decide_eq_true_eq] at hb
    exact .inr ⟨hb.1,r,List.mem_cons_self ..,rfl⟩
   | false=>rw [zoW hb] at h1;exact .inl h1
  ·
   exact .inr ⟨h1,r',List.mem_cons_of_mem _ h2,h3⟩
theorem zok {rows:List (List Int)}{q:Nat}{n c:Int}(h:zpE rows q n=some c):n<c∧∃ r∈rows,r.getD q 0=c:=(zj0 h).resolve_left (by simp)
theorem zkp {rows:List (List Int)}{q m:Nat}{c:Int}:ztG rows q (m+1) (some c)=⟨c,Uc rows q c⟩::ztG rows q m (zpE rows q c):=rfl
theorem zls {rows:List (List Int)}{q m:Nat}:ztG rows q m none=[]:=by cases m<;>rfl
def zaX {α β:Type}(R:α→β→Prop)(hs:List α)(vs:List β):Prop:=hs.length=vs.length∧∀ (k:Nat) (h:α) (v:β),hs[k]? =some h→vs[k]? =some v→R h v
theorem zaX.nil {α β:Type}{R:α→β→Prop}:zaX R [] []:=⟨rfl,fun k h v a=>by simp at a⟩
theorem zaX.imp {α β:Type}{R R':α→β→Prop}{hs:List α}{vs:List β}(h:zaX R hs vs)(hi:∀ a b,R a b→R' a b):zaX R' hs vs:=⟨h.1,fun k x v a b=>hi _ _ (h.2 k x v a b)⟩
theorem zaX.snoc {α β:Type}{R:α→β→Prop}{hs:List α}{vs:List β}(h:zaX R hs vs){x:α}{v:β}(hV:R x v):zaX R (hs++[x]) (vs++[v]):=by
 refine ⟨by simp [h.1],fun k y z a b=>?_⟩
 rw [List.getElem?_append] at a b
 rw [h.1] at a
 split at a
 ·
  next hk=>rw [if_pos hk] at b;exact h.2 k y z a b
 ·
  next hk=>
  rw [if_neg hk] at b
  cases hk2:k-vs.length with
  | zero=>rw [hk2] at a b;simp at a b;subst a b;exact hV
  | succ j=>rw [hk2] at a;simp at a
theorem zaX.at {α β:Type}{R:α→β→Prop}{hs:List α}{vs:List β}(h:zaX R hs vs){k:Nat}{v:β}(hv:vs[k]? =some v):∃ x,hs[k]? =some x∧R x v:=by
 obtain ⟨hk,_⟩:=List.getElem?_eq_some_iff.1 hv
 have hk2:k<hs.length:=by rw [h.1];exact hk
 exact ⟨hs[k],List.getElem?_eq_getElem hk2,h.2 k _ _ (List.getElem?_eq_getElem hk2) hv⟩
structure Vh where
 code:Int
 h:Hd
def zbX (x:Vh):List Value:=[.int .i64 x.code,.slice x.h.a x.h.n x.h.c]
theorem Zm (x:Vh):(zbX x).length=2:=rfl
def zvb (I:Qu)(x:Vh)(v:Vt):Prop:=x.code=v.code∧Sl I 1 QQ x.h.a x.h.n x.h.c v.ws
theorem zvb.mono {I I':Qu}{x:Vh}{v:Vt}(h:zvb I x v)(hI:HLe I I'):zvb I' x v:=⟨h.1,h.2.mono hI⟩
def zdN (I:Qu)(hs:List Vh)(vs:List Vt):Prop:=zaX (zvb I) hs vs
theorem zdN.mono {I I':Qu}{hs:List Vh}{vs:List Vt}(h:zdN I hs vs)(hI:HLe I I'):zdN I' hs vs:=zaX.imp h fun _ _ q=>q.mono hI
theorem zdN.snoc {I:Qu}{hs:List Vh}{vs:List Vt}(h:zdN I hs vs){x:Vh}{v:Vt}(hV:zvb I x v):zdN I (hs++[x]) (vs++[v]):=zaX.snoc h hV
def SlV (I:Qu)(a:Option Addr)(n c:Nat)(vs:List Vt):Prop:=∃ hs,Sl I 2 zbX a n c hs∧zdN I hs vs
theorem SlV.mono {I I':Qu}{a:Option Addr}{n c:Nat}{vs:List Vt}(h:SlV I a n c vs)(hI:HLe I I'):SlV I' a n c vs:=⟨_,h.choose_spec.1.mono hI,h.choose_spec.2.mono hI⟩
structure Eh where
 loc:Int
 lem:Int
 h:Hd
def zdp (x:Eh):List Value:=[.int .i64 x.loc,.int .i64 x.lem,.slice x.h.a x.h.n x.h.c]
theorem Zl (x:Eh):(zdp x).length=3:=rfl
def zwc (I:Qu)(x:Eh)(v:En):Prop:=x.loc=v.loc∧x.lem=v.lem∧SlV I x.h.a x.h.n x.h.c v.vs
theorem zwc.mono {I I':Qu}{x:Eh}{v:En}(h:zwc I x v)(hI:HLe I I'):zwc I' x v:=⟨h.1,h.2.1,h.2.2.mono hI⟩
def zdJ (I:Qu)(hs:List Eh)(vs:List En):Prop:=zaX (zwc I) hs vs
theorem zdJ.mono {I I':Qu}{hs:List Eh}{vs:List En}(h:zdJ I hs vs)(hI:HLe I I'):zdJ I' hs vs:=zaX.imp h fun _ _ q=>q.mono hI
theorem zdJ.snoc {I:Qu}{hs:List Eh}{vs:List En}(h:zdJ I hs vs){x:Eh}{v:En}(hV:zwc I x v):zdJ I (hs++[x]) (vs++[v]):=zaX.snoc h hV
def zfP (I:Qu)(a:Option Addr)(n c:Nat)(vs:List En):Prop:=∃ hs,Sl I 3 zdp a n c hs∧zdJ I hs vs
theorem zfP.mono {I I':Qu}{a:Option Addr}{n c:Nat}{vs:List En}(h:zfP I a n c vs)(hI:HLe I I'):zfP I' a n c vs:=⟨_,h.choose_spec.1.mono hI,h.choose_spec.2.mono hI⟩
theorem zyV (xs:List Vh):Yz (xs.flatMap zbX)=true:=Yl (fun _=>rfl) xs
theorem zwv (xs:List Eh):Yz (xs.flatMap zdp)=true:=Yl (fun _=>rfl) xs
end
section
open Go Go.Kn Go.Proofs
theorem Y6:AgT Tryz.prog 38 4:=.of (by kernel_rfl)
theorem zaS:PlT Tryz.prog 38 #[(0,1),(1,1),(2,1),(3,1)] (.agg #[(.int .i64 0),(.int .i64 0),(.slice none 0 0),(.slice none 0 0)]):=⟨.of (by kernel_rfl),by kernel_rfl,fun w=>by kernel_rfl⟩
theorem VY:SzT Tryz.prog 38 4:=.of (by kernel_rfl)
theorem W6:Yu Tryz.prog 38 (.agg #[(.int .i64 0),(.int .i64 0),(.slice none 0 0),(.slice none 0 0)]):=.of (by kernel_rfl)
theorem zzw {I:Qu}{bv:Option Addr}{n2 c2:Nat}{rows:List (List Int)}(hV:SlN I bv n2 c2 rows)(hn2:n2≤100000)(q:Nat)(hq:∀ r∈rows,q<r.length)(c:Int):Yf Tryz.prog 123 [.slice bv n2 c2,.int .i64 (q:Nat),.int .i64 c] I [] (zbv 1 QQ (Uc rows q c)):=by
 intro g H w hw
 refine qe Tryz.func123 Tryz.ntmps123 hw ?_
 have hIc:=zAh I
 have hVl:=hV.len
 obtain ⟨hs,hVH⟩:=id hV
 have hHH:=hVH.1
 refine zR (zA (zN (Ql (zR ?_))))
 refine zM ?_
 refine zQ Zp ?_
 refine zM (zN (Qm ?_))
 refine zU [(1,_),(2,_),(9,_),(10,_)] (fun T L0 mz E I' loc'=>∃ (k:Nat) (v:Value) (m:Nat) (L:Go.Kn.Loc),mz=n2-k∧E=(6,v)::(11,.int .i64 k)::T∧I=I'∧L=loc'∧k≤n2∧OwnS 3 1 v m ((ixF (fun r=>r.getD q 0==c) (rows.take k)).flatMap QQ) L∧m≤k) ?_ (h:=⟨0,_,0,[],rfl,rfl,rfl,rfl,Nat.zero_le _,by rw [List.take_zero];exact OwnS.nil,Nat.le_refl _⟩)
 rintro mz E I' loc' ⟨k,v,m,L,rfl,rfl,rfl,rfl,hk,hO,hm⟩
 refine zR (zC (zN (Ql ?_)))
 refine zI ?_ ?_<;>intro hc12
 ·
  have hlt_k:k<n2:=by have h:=hc12;simp at h;omega
  obtain ⟨hx,rx,hhx,hrx,hQ⟩:=hVH.at hlt_k
  have hqk:=hq rx (List.mem_of_getElem? hrx)
  have hQl:=hQ.len
  have hgx:rx[q]? =some (rx.getD q 0):=Q4 rfl (by omega)
  refine Qn (Qa (Ql (Qm (zR (zM ?_)))))
  refine zV (zX Zp hHH) ?_
  refine zV (Qe rfl QJ (fun hg=>by exact zAa hHH hhx rfl)) ?_
  refine zA ?_
  refine zA ?_
  refine zN (zR ?_)
  refine zM ?_
  refine zM ?_
  refine zV (zX Qw hQ) ?_
  refine zV (Qe rfl Qr (fun hg=>by exact zAa (k:=q) hQ hgx rfl)) ?_
  refine zM ?_
  refine zC (zN ?_)
  refine zI ?_ ?_<;>intro hc21
  ·
   have hy:(rx.getD q 0==c)=true:=by simpa using hc21
   refine Qg (zM ?_)
   refine zM ?_
   refine Qq (ps:=[(0,_)]) (m:=[QQ (k:Int)]) Zh rfl (.cons rfl (.nil)) rfl (by simp [Qv]) (by decide) (by decide) rfl rfl (fun b_24=>?_)
   refine QY (v:=_) (ys:=[(k:Int)].flatMap QQ) (L:=L) rfl rfl Zh hO (by repeat (first | exact .cons .here .nil | exact QD | exact Qx | apply QC | apply QB)) ⟨rfl,fun _=>rfl,by repeat (first | exact zAf | apply zAe | apply zAg)⟩ (Kk _) (by omega) rfl rfl ?_
   intro v9 L9 hO9 _;rw [←List.flatMap_append] at hO9
   refine zA (Qb (Qf (Qa (Qg ?_))))
   refine zB ?_
   refine zM (Qb ?_)
   first
   | exact zm (h:=⟨n2-(k+1),by omega,k+1,_,_,_,rfl,rfl,rfl,rfl,by omega,by rw [zia hrx hy];exact hO9,by omega⟩)
  have hy:(rx.getD q 0==c)=false:=by simpa using hc21
  refine Qn (Qf (Qa (Qg (zB ?_))))
  refine zM (Qb ?_)
  first
  | exact zm (h:=⟨n2-(k+1),by omega,k+1,_,_,_,rfl,rfl,rfl,rfl,by omega,by rw [zr1 hrx hy];exact hO,by omega⟩)
 have hge_k:n2≤k:=by have h:=hc12;simp at h;omega
 rw [ZH hVl hge_k] at hO
 refine QI (Qh (Qh (Qk (Qa (zR (zM ?_))))))
 refine zA (zN (Qt ?_))
 exact Zx rfl rfl (fun w hw=>by obtain ⟨I9,h91,h92,h93⟩:=OwnS.res hO Qv (by decide) hw;exact ⟨_,I9,[],rfl,hIc.trans h91,h92,h93⟩)
theorem zbS {I:Qu}{av:Option Addr}{n c:Nat}{xs:List Int}(hS:Sl I 1 QQ av n c xs){bv:Option Addr}{n2 c2:Nat}{ys:List Int}(hT:Sl I 1 QQ bv n2 c2 ys)(hn:n≤100000):Zy Tryz.prog 43 [.slice av n c,.slice bv n2 c2] I (.bool (decide (xs=ys))):=by
 intro g H w hw
 refine qe Tryz.func43 Tryz.ntmps43 hw ?_
 have hl1:=hS.len
 have hl2:=hT.len
 refine zR (zA (zN (Ql (zR ?_))))
 refine zM ?_
 refine zQ Qw ?_
 refine zM ?_
 refine zQ Qw ?_
 refine zC (zN ?_)
 refine zI ?_ ?_<;>intro hc10
 ·
  have hne:xs≠ys:=fun e=>by have h:=hc10;subst e;simp at h;omega
  refine zR (zA (zN (Qt (Qc ?_))))
  exact zr rfl rfl (by rw [decide_eq_false hne])
 have hnn:n=n2:=by have h:=hc10;simp at h;omega
 refine Qn (Qa (Ql (zR (zA (zN (Qm ?_))))))
 refine zU [(0,_),(1,_)] (fun T L0 mz E I' loc'=>∃ (k:Nat),mz=n-k∧E=(5,.int .i64 k)::T∧I=I'∧L0=loc'∧k≤n∧xs.take k=ys.take k) ?_ (h:=⟨0,rfl,rfl,rfl,rfl,Nat.zero_le _,rfl⟩)
 rintro mz E I' loc' ⟨k,rfl,rfl,rfl,rfl,hk,hall⟩
 refine Ql (zR (zM ?_))
 refine zM ?_
 refine zQ Qw ?_
 refine zC (zN ?_)
 refine zI ?_ ?_<;>intro hc14
 ·
  have hlt_k:k<n:=by have h:=hc14;simp at h;omega
  obtain ⟨x,hx⟩:=hS.at hlt_k
  obtain ⟨y,hy⟩:=hT.at (show k<n2 by omega)
  refine Qn (Qa (Ql (Qm (Ql ?_))))
  refine YF mixed (by kernel_rfl) ?_
  refine zq (Qi rfl) ?_
  refine zq (Qi rfl) ?_
  refine zq (zX Qw hS) ?_
  refine zq (Qe rfl Qr (fun hg=>by exact zAa hS hx rfl)) ?_
  refine zq (Qi rfl) ?_
  refine zq (Qi rfl) ?_
  refine zq (zX Qw hT) ?_
  refine zq (Qe rfl Qr (fun hg=>by exact zAa hT hy rfl)) ?_
  refine zq (QG rfl rfl rfl) ?_
  refine YK ?_
  refine Qa ?_
  refine zI ?_ ?_<;>intro hc25
  ·
   have hne:xs≠ys:=fun e=>by subst e;rw [hx] at hy;cases hy;simp at hc25
   refine zR (zA (zN (Qt (Qp (Qc (Qc (Qp ?_)))))))
   refine Qc ?_
   exact zr rfl rfl (by rw [decide_eq_false hne])
  have hxy:x=y:=by simpa using hc25
  refine Qn (Qf (Qa (Qg (zM ?_))))
  refine zB ?_
  refine zA (Qb ?_)
  exact zm (h:=⟨n-(k+1),by omega,k+1,rfl,rfl,rfl,rfl,by omega,by rw [List.take_add_one,List.take_add_one,hall,hx,hy,hxy]⟩)
 have hge_k:n≤k:=by have h:=hc14;simp at h;omega
 have heq:xs=ys:=by rw [List.take_of_length_le (by omega),List.take_of_length_le (by omega)] at hall;exact hall
 refine QI (Qh (Qh (Qk (Qa (zR (zA (zN ?_)))))))
 refine Qt ?_
 exact zr rfl rfl (by rw [decide_eq_true heq])
end
section
open Go Go.Kn Go.Proofs
theorem zkO:ElT Tryz.prog 72 77 2 32:=.of (by kernel_rfl)
theorem zjf:PlT Tryz.prog 77 #[(0,1),(1,1)] (.agg #[(.int .i64 0),(.slice none 0 0)]):=⟨.of (by kernel_rfl),by kernel_rfl,fun w=>by kernel_rfl⟩
end
section
open Go Go.Kn Go.Proofs
def zxI (rows:List (List Int))(rd:List Int)(k:Nat):List En:=if (Uc rows k (rd.getD k 0)).length<rows.length then [⟨(k:Int),rd.getD k 0,zpj rows k⟩] else []
def zkr (rows:List (List Int))(rd:List Int)(k:Nat):List En:=(List.range k).flatMap (zxI rows rd)
theorem zc5 {rows:List (List Int)}{rd:List Int}{k:Nat}:zkr rows rd (k+1)=zkr rows rd k++zxI rows rd k:=by
 unfold zkr;rw [List.range_succ,List.flatMap_append];simp
theorem zmn {rows:List (List Int)}{rd:List Int}{k:Nat}(h:(Uc rows k (rd.getD k 0)).length<rows.length):zkr rows rd (k+1)=zkr rows rd k++[⟨(k:Int),rd.getD k 0,zpj rows k⟩]:=by rw [zc5];unfold zxI;rw [if_pos h]
theorem zpT {rows:List (List Int)}{rd:List Int}{k:Nat}(h:¬(Uc rows k (rd.getD k 0)).length<rows.length):zkr rows rd (k+1)=zkr rows rd k:=by rw [zc5];unfold zxI;rw [if_neg h,List.append_nil]
def zyi (e:Int)(rows:List (List Int))(rd:List Int):List En:=if e≠0 then [] else zkr rows rd rd.length
theorem zqs {e:Int}{rows:List (List Int)}{rd:List Int}(h:e≠0):zyi e rows rd=[]:=if_pos h
theorem zgy {e:Int}{rows:List (List Int)}{rd:List Int}(h:e=0):zyi e rows rd=zkr rows rd rd.length:=if_neg (by omega)
def zxW (e:Int)(xs:List En)(v:Value)(I:Qu)(L:Go.Kn.Loc):Prop:=L=[]∧∃ a n c,v= .tuple #[.slice a n c,.int .i64 e]∧zfP I a n c xs
theorem zfP.nil {I:Qu}:zfP I none 0 0 []:=⟨[],.nil,zaX.nil⟩
theorem SlV.len {I:Qu}{a:Option Addr}{n c:Nat}{vs:List Vt}(h:SlV I a n c vs):vs.length=n:=by obtain ⟨hs,h1,h2⟩:=h;rw [←h2.1];exact h1.len
theorem zfP.len {I:Qu}{a:Option Addr}{n c:Nat}{vs:List En}(h:zfP I a n c vs):vs.length=n:=by obtain ⟨hs,h1,h2⟩:=h;rw [←h2.1];exact h1.len
def eqL {α:Type}(P:α→α→Bool):List α→List α→Bool
 | [],[]=>true
 | a::as1,b::bs=>P a b&&eqL P as1 bs
 | _,_=>false
theorem zfc {α:Type}{P:α→α→Bool}:∀ {xs ys:List α},xs.length≠ys.length→eqL P xs ys=false
 | [],[],h=>absurd rfl h
 | _::_,[],_=>rfl
 | [],_::_,_=>rfl
 | a::xs,b::ys,h=>by
  unfold eqL;rw [zfc (xs:=xs) (ys:=ys) (fun e=>h (by simp [e])),Bool.and_false]
theorem zcK {α:Type}{P:α→α→Bool}:∀ {xs ys:List α} {k:Nat} {x y:α},xs[k]? =some x→ys[k]? =some y→eqL P (xs.take (k+1)) (ys.take (k+1))=(eqL P (xs.take k) (ys.take k)&&P x y)
 | [],_,k,x,y,h,_=>by simp at h
 | _::_,[],k,x,y,_,h=>by simp at h
 | a::xs,b::ys,0,x,y,h1,h2=>by simp at h1 h2;subst h1;subst h2;simp [eqL]
 | a::xs,b::ys,k+1,x,y,h1,h2=>by
  simp only [List.getElem?_cons_succ] at h1 h2
  simp only [List.take_succ_cons,eqL]
  rw [zcK h1 h2,Bool.and_assoc]
theorem zeA {α:Type}{P:α→α→Bool}:∀ {xs ys:List α} {k:Nat} {x y:α},xs[k]? =some x→ys[k]? =some y→P x y=false→eqL P xs ys=false
 | [],_,k,x,y,h,_,_=>by simp at h
 | _::_,[],k,x,y,_,h,_=>by simp at h
 | a::xs,b::ys,0,x,y,h1,h2,h=>by simp at h1 h2;subst h1;subst h2;unfold eqL;rw [h];rfl
 | a::xs,b::ys,k+1,x,y,h1,h2,h=>by
  simp only [List.getElem?_cons_succ] at h1 h2
  unfold eqL;rw [zeA h1 h2 h,Bool.and_false]
theorem zcd {α:Type}{P:α→α→Bool}(h:∀ a,P a a=true):∀ xs:List α,eqL P xs xs=true
 | []=>rfl
 | a::xs=>by unfold eqL;rw [h a,zcd h xs];rfl
theorem dm2 {p q c:Bool}(h:(!p|| !q)=c):(p&&q)= !c:=by cases p<;>cases q<;>simp_all
theorem dm3 {p q r c:Bool}(h:((!p|| !q)|| !r)=c):((p&&q)&&r)= !c:=by cases p<;>cases q<;>cases r<;>simp_all
def vtE (x y:Vt):Bool:=x.code==y.code&&decide (x.ws=y.ws)
def enE (x y:En):Bool:=(x.loc==y.loc&&x.lem==y.lem)&&eqL vtE x.vs y.vs
theorem znS (x:Vt):vtE x x=true:=by simp [vtE]
theorem zlT (x:En):enE x x=true:=by unfold enE;rw [zcd znS];simp
def ogE (x y:Og):Bool:=x.k==y.k&&(x.r==y.r&&(decide (x.ws=y.ws)&&decide (x.ps=y.ps)))
theorem zmP (x:Og):ogE x x=true:=by simp [ogE]
end
section
open Go Go.Kn Go.Proofs
theorem zll:ElT Tryz.prog 29 74 3 40:=.of (by kernel_rfl)
theorem XC:QZ Tryz.prog 38 0 0:=.of (by kernel_rfl)
theorem U6:QZ Tryz.prog 38 1 1:=.of (by kernel_rfl)
theorem Uq:QZ Tryz.prog 38 2 2:=.of (by kernel_rfl)
theorem JQ:QZ Tryz.prog 38 3 3:=.of (by kernel_rfl)
theorem zfk:QZ Tryz.prog 74 0 0:=.of (by kernel_rfl)
theorem zgK:QZ Tryz.prog 74 1 1:=.of (by kernel_rfl)
theorem XV:QZ Tryz.prog 74 2 2:=.of (by kernel_rfl)
theorem zgk:QZ Tryz.prog 77 0 0:=.of (by kernel_rfl)
theorem zfx:QZ Tryz.prog 77 1 1:=.of (by kernel_rfl)
theorem zup:Fun Tryz.prog 35:=.of Tryz.func35 (by kernel_rfl) (by kernel_rfl)
theorem zjr:Fun Tryz.prog 43:=.of Tryz.func43 (by kernel_rfl) (by kernel_rfl)
theorem zn4:PlT Tryz.prog 74 #[(0,1),(1,1),(2,1)] (.agg #[(.int .i64 0),(.int .i64 0),(.slice none 0 0)]):=⟨.of (by kernel_rfl),by kernel_rfl,fun w=>by kernel_rfl⟩
theorem zlq:ScT Tryz.prog 72:=.of (by kernel_rfl)
theorem U3:SlT Tryz.prog 29 74 3:=.of (by kernel_rfl)
theorem zaI:SlT Tryz.prog 72 77 2:=.of (by kernel_rfl)
theorem znn {I:Qu}{av:Option Addr}{n c:Nat}{xs:List Vt}(hS:SlV I av n c xs){bv:Option Addr}{n2 c2:Nat}{ys:List Vt}(hT:SlV I bv n2 c2 ys)(hn:n≤100000)(hlb:∀ v∈xs,v.ws.length≤100000):Zy Tryz.prog 35 [.slice av n c,.slice bv n2 c2] I (.bool (eqL vtE xs ys)):=by
 intro g H w hw
 refine qe Tryz.func35 Tryz.ntmps35 hw ?_
 have hl1:=hS.len
 have hl2:=hT.len
 obtain ⟨hs,hSh,hSr⟩:=hS
 obtain ⟨ht,hTh,hTr⟩:=hT
 refine zR (zA (zN (Ql (zR ?_))))
 refine zM ?_
 refine zQ zaI ?_
 refine zM ?_
 refine zQ zaI ?_
 refine zC (zN ?_)
 refine zI ?_ ?_<;>intro hc10
 ·
  have hne:xs.length≠ys.length:=by have h:=hc10;simp at h;omega
  refine zR (zA (zN (Qt (Qc ?_))))
  exact zr rfl rfl (by rw [zfc hne])
 have hnn:n=n2:=by have h:=hc10;simp at h;omega
 refine Qn (Qa (Ql (zR (zA (zN (Qm ?_))))))
 refine zU [(0,_),(1,_)] (fun T L0 mz E I' loc'=>∃ (k:Nat),mz=n-k∧E=(5,.int .i64 k)::T∧I=I'∧L0=loc'∧k≤n∧eqL vtE (xs.take k) (ys.take k)=true) ?_ (h:=⟨0,rfl,rfl,rfl,rfl,Nat.zero_le _,rfl⟩)
 rintro mz E I' loc' ⟨k,rfl,rfl,rfl,rfl,hk,hall⟩
 refine Ql (zR (zM ?_))
 refine zM ?_
 refine zQ zaI ?_
 refine zC (zN ?_)
 refine zI ?_ ?_<;>intro hc14
 ·
  have hlt_k:k<n:=by have h:=hc14;simp at h;omega
  obtain ⟨u,hu⟩:∃ u,xs[k]? =some u:=⟨_,List.getElem?_eq_getElem (by omega)⟩
  obtain ⟨v,hv⟩:∃ v,ys[k]? =some v:=⟨_,List.getElem?_eq_getElem (by omega)⟩
  obtain ⟨x,hx,rx⟩:=hSr.at hu
  obtain ⟨y,hy,ry⟩:=hTr.at hv
  have hub:=hlb u (List.mem_of_getElem? hu)
  refine Qn (Qa (Ql (Qm (Ql ?_))))
  refine YF mixed (by kernel_rfl) ?_
  refine zq (Qi rfl) ?_
  refine zq (Qi rfl) ?_
  refine zq (zX zaI hSh) ?_
  refine zq (Qd rfl zgk) ?_
  refine zq (Qe rfl Qr (fun hg=>by exact zAa hSh hx rfl)) ?_
  refine zq (Qi rfl) ?_
  refine zq (Qi rfl) ?_
  refine zq (zX zaI hTh) ?_
  refine zq (Qd rfl zgk) ?_
  refine zq (Qe rfl Qr (fun hg=>by exact zAa hTh hy rfl)) ?_
  refine zq (QG rfl rfl rfl) ?_
  refine zq (Qi rfl) ?_
  refine ZZ 11 rfl rfl rfl ?_
  refine zj (Qi rfl) ?_
  refine zj (Qi rfl) ?_
  refine zj (zX zaI hSh) ?_
  refine zj (Qd rfl zfx) ?_
  refine zj (Qe rfl QJ (fun hg=>by exact zAj (j:=1) hSh hx rfl)) ?_
  refine zj (Qi rfl) ?_
  refine zj (Qi rfl) ?_
  refine zj (zX zaI hTh) ?_
  refine zj (Qd rfl zfx) ?_
  refine zj (Qe rfl QJ (fun hg=>by exact zAj (j:=1) hTh hy rfl)) ?_
  refine Yn (cap:=[]) (vs:=[_,_]) rfl rfl zjr (fun hg=>zbS rx.2 ry.2 (by rw [←rx.2.len];exact hub)) (.some rfl rfl rfl rfl gbf) rfl rfl ?_
  refine zj (Ve rfl) ?_
  refine VS rfl rfl rfl rfl rfl ?_
  refine YK ?_
  refine Qa ?_
  refine zI ?_ ?_<;>intro hc41
  ·
   have hxy:vtE u v=false:=by unfold vtE;rw [←rx.1,←ry.1];exact dm2 hc41
   refine zR (zA (zN (Qt (Qp (Qc (Qc (Qp ?_)))))))
   refine Qc ?_
   exact zr rfl rfl (by rw [zeA hu hv hxy])
  have hxy:vtE u v=true:=by unfold vtE;rw [←rx.1,←ry.1];exact dm2 hc41
  refine Qn (Qf (Qa (Qg (zM ?_))))
  refine zB ?_
  refine zA (Qb ?_)
  exact zm (h:=⟨n-(k+1),by omega,k+1,rfl,rfl,rfl,rfl,by omega,by rw [zcK hu hv,hall,hxy];rfl⟩)
 have hge_k:n≤k:=by have h:=hc14;simp at h;omega
 rw [List.take_of_length_le (by omega),List.take_of_length_le (by omega)] at hall
 refine QI (Qh (Qh (Qk (Qa (zR (zA (zN ?_)))))))
 refine Qt ?_
 exact zr rfl rfl (by rw [hall])
theorem zlI {I:Qu}{av:Option Addr}{n c:Nat}{xs:List En}(hS:zfP I av n c xs){bv:Option Addr}{n2 c2:Nat}{ys:List En}(hT:zfP I bv n2 c2 ys)(hn:n≤100000)(hlb:∀ v∈xs,v.vs.length≤100000∧∀ u∈v.vs,u.ws.length≤100000):Zy Tryz.prog 13 [.slice av n c,.slice bv n2 c2] I (.bool (eqL enE xs ys)):=by
 intro g H w hw
 refine qe Tryz.func13 Tryz.ntmps13 hw ?_
 have hl1:=hS.len
 have hl2:=hT.len
 obtain ⟨hs,hSh,hSr⟩:=hS
 obtain ⟨ht,hTh,hTr⟩:=hT
 refine zR (zA (zN (Ql (zR ?_))))
 refine zM ?_
 refine zQ U3 ?_
 refine zM ?_
 refine zQ U3 ?_
 refine zC (zN ?_)
 refine zI ?_ ?_<;>intro hc10
 ·
  have hne:xs.length≠ys.length:=by have h:=hc10;simp at h;omega
  refine zR (zA (zN (Qt (Qc ?_))))
  exact zr rfl rfl (by rw [zfc hne])
 have hnn:n=n2:=by have h:=hc10;simp at h;omega
 refine Qn (Qa (Ql (zR (zA (zN (Qm ?_))))))
 refine zU [(0,_),(1,_)] (fun T L0 mz E I' loc'=>∃ (k:Nat),mz=n-k∧E=(5,.int .i64 k)::T∧I=I'∧L0=loc'∧k≤n∧eqL enE (xs.take k) (ys.take k)=true) ?_ (h:=⟨0,rfl,rfl,rfl,rfl,Nat.zero_le _,rfl⟩)
 rintro mz E I' loc' ⟨k,rfl,rfl,rfl,rfl,hk,hall⟩
 refine Ql (zR (zM ?_))
 refine zM ?_
 refine zQ U3 ?_
 refine zC (zN ?_)
 refine zI ?_ ?_<;>intro hc14
 ·
  have hlt_k:k<n:=by have h:=hc14;simp at h;omega
  obtain ⟨u,hu⟩:∃ u,xs[k]? =some u:=⟨_,List.getElem?_eq_getElem (by omega)⟩
  obtain ⟨v,hv⟩:∃ v,ys[k]? =some v:=⟨_,List.getElem?_eq_getElem (by omega)⟩
  obtain ⟨x,hx,rx⟩:=hSr.at hu
  obtain ⟨y,hy,ry⟩:=hTr.at hv
  have hub:=hlb u (List.mem_of_getElem? hu)
  refine Qn (Qa (Ql (Qm (Ql ?_))))
  refine YF mixed (by kernel_rfl) ?_
  refine zq (Qi rfl) ?_
  refine zq (Qi rfl) ?_
  refine zq (zX U3 hSh) ?_
  refine zq (Qd rfl zfk) ?_
  refine zq (Qe rfl Qr (fun hg=>by exact zAa hSh hx rfl)) ?_
  refine zq (Qi rfl) ?_
  refine zq (Qi rfl) ?_
  refine zq (zX U3 hTh) ?_
  refine zq (Qd rfl zfk) ?_
  refine zq (Qe rfl Qr (fun hg=>by exact zAa hTh hy rfl)) ?_
  refine zq (QG rfl rfl rfl) ?_
  refine zq (Qi rfl) ?_
  refine ZZ 11 rfl rfl rfl ?_
  refine zj (Qi rfl) ?_
  refine zj (Qi rfl) ?_
  refine zj (zX U3 hSh) ?_
  refine zj (Qd rfl zgK) ?_
  refine zj (Qe rfl Qr (fun hg=>by exact zAj (j:=1) hSh hx rfl)) ?_
  refine zj (Qi rfl) ?_
  refine zj (Qi rfl) ?_
  refine zj (zX U3 hTh) ?_
  refine zj (Qd rfl zgK) ?_
  refine zj (Qe rfl Qr (fun hg=>by exact zAj (j:=1) hTh hy rfl)) ?_
  refine zj (QG rfl rfl rfl) ?_
  refine VS rfl rfl rfl rfl rfl ?_
  refine zq (Qi rfl) ?_
  refine ZZ 24 rfl rfl rfl ?_
  refine zj (Qi rfl) ?_
  refine zj (Qi rfl) ?_
  refine zj (zX U3 hSh) ?_
  refine zj (Qd rfl XV) ?_
  refine zj (Qe rfl zlq (fun hg=>by exact zAj (j:=2) hSh hx rfl)) ?_
  refine zj (Qi rfl) ?_
  refine zj (Qi rfl) ?_
  refine zj (zX U3 hTh) ?_
  refine zj (Qd rfl XV) ?_
  refine zj (Qe rfl zlq (fun hg=>by exact zAj (j:=2) hTh hy rfl)) ?_
  refine Yn (cap:=[]) (vs:=[_,_]) rfl rfl zup (fun hg=>znn rx.2.2 ry.2.2 (by rw [←rx.2.2.len];exact hub.1) hub.2) (.some rfl rfl rfl rfl gbf) rfl rfl ?_
  refine zj (Ve rfl) ?_
  refine VS rfl rfl rfl rfl rfl ?_
  refine YK ?_
  refine Qa ?_
  refine zI ?_ ?_<;>intro hc54
  ·
   have hxy:enE u v=false:=by unfold enE;rw [←rx.1,←ry.1,←rx.2.1,←ry.2.1];exact dm3 hc54
   refine zR (zA (zN (Qt (Qp (Qc (Qc (Qp ?_)))))))
   refine Qc ?_
   exact zr rfl rfl (by rw [zeA hu hv hxy])
  have hxy:enE u v=true:=by unfold enE;rw [←rx.1,←ry.1,←rx.2.1,←ry.2.1];exact dm3 hc54
  refine Qn (Qf (Qa (Qg (zM ?_))))
  refine zB ?_
  refine zA (Qb ?_)
  exact zm (h:=⟨n-(k+1),by omega,k+1,rfl,rfl,rfl,rfl,by omega,by rw [zcK hu hv,hall,hxy];rfl⟩)
 have hge_k:n≤k:=by have h:=hc14;simp at h;omega
 rw [List.take_of_length_le (by omega),List.take_of_length_le (by omega)] at hall
 refine QI (Qh (Qh (Qk (Qa (zR (zA (zN ?_)))))))
 refine Qt ?_
 exact zr rfl rfl (by rw [hall])
theorem zsS {I:Qu}{o1 o2:Og}{a1:Option Addr}{n1 c1:Nat}{a2:Option Addr}{n2 c2:Nat}(h1:Sl I 1 QQ a1 n1 c1 o1.ws)(h2:Sl I 1 QQ a2 n2 c2 o1.ps){a3:Option Addr}{n3 c3:Nat}{a4:Option Addr}{n4 c4:Nat}(h3:Sl I 1 QQ a3 n3 c3 o2.ws)(h4:Sl I 1 QQ a4 n4 c4 o2.ps)(hb1:n1≤100000)(hb2:n2≤100000):Zy Tryz.prog 18 [.agg #[.int .i64 o1.k,.int .i64 o1.r,.slice a1 n1 c1,.slice a2 n2 c2],.agg #[.int .i64 o2.k,.int .i64 o2.r,.slice a3 n3 c3,.slice a4 n4 c4]] I (.bool (ogE o1 o2)):=by
 intro g H w hw
 refine qe Tryz.func18 Tryz.ntmps18 hw ?_
 refine zR ?_
 refine Q2 rfl rfl rfl (fun b_2=>?_)
 refine Q2 rfl rfl rfl (fun b_3=>?_)
 refine zA ?_
 refine zN (zR ?_)
 refine zF XC ?_
 refine zL Qr ?_
 refine zF XC ?_
 refine zL Qr ?_
 refine zC ?_
 refine zM ?_
 refine QH 5 rfl rfl rfl ?_
 refine zK (Qd rfl U6) ?_
 refine zK (Qe rfl Qr (fun hg=>by exact QT.h1 rfl)) ?_
 refine zK (Qd rfl U6) ?_
 refine zK (Qe rfl Qr (fun hg=>by exact QT.h0 rfl)) ?_
 refine zK (QG rfl rfl rfl) ?_
 refine QP rfl rfl rfl rfl rfl ?_
 refine zM ?_
 refine QH 12 rfl rfl rfl ?_
 refine zK (Qd rfl Uq) ?_
 refine zK (Qe rfl QJ (fun hg=>by exact QT.h1 rfl)) ?_
 refine zK (Qd rfl Uq) ?_
 refine zK (Qe rfl QJ (fun hg=>by exact QT.h0 rfl)) ?_
 refine qg (vs:=[_,_]) rfl zjr (fun hg=>zbS h1 h3 hb1) ?_
 refine QP rfl rfl rfl rfl rfl ?_
 refine zM ?_
 refine QH 19 rfl rfl rfl ?_
 refine zK (Qd rfl JQ) ?_
 refine zK (Qe rfl QJ (fun hg=>by exact QT.h1 rfl)) ?_
 refine zK (Qd rfl JQ) ?_
 refine zK (Qe rfl QJ (fun hg=>by exact QT.h0 rfl)) ?_
 refine qg (vs:=[_,_]) rfl zjr (fun hg=>zbS h2 h4 hb2) ?_
 refine QP rfl rfl rfl rfl rfl ?_
 refine zA (zN (Qt ?_))
 exact zr rfl rfl (by unfold ogE;simp only [Bool.and_assoc])
theorem zrQ {I:Qu}{av:Option Addr}{n c:Nat}{xs:List (Int×Int)}(hS:Sl I 2 V8 av n c xs){bv:Option Addr}{n2 c2:Nat}{ys:List (Int×Int)}(hT:Sl I 2 V8 bv n2 c2 ys)(hn:n≤100000):Zy Tryz.prog 19 [.slice av n c,.slice bv n2 c2] I (.bool (decide (xs=ys))):=by
 intro g H w hw
 refine qe Tryz.func19 Tryz.ntmps19 hw ?_
 have hl1:=hS.len
 have hl2:=hT.len
 refine zR (zA (zN (Ql (zR ?_))))
 refine zM ?_
 refine zQ Uy ?_
 refine zM ?_
 refine zQ Uy ?_
 refine zC (zN ?_)
 refine zI ?_ ?_<;>intro hc10
 ·
  have hne:xs≠ys:=fun e=>by have h:=hc10;subst e;simp at h;omega
  refine zR (zA (zN (Qt (Qc ?_))))
  exact zr rfl rfl (by rw [decide_eq_false hne])
 have hnn:n=n2:=by have h:=hc10;simp at h;omega
 refine Qn (Qa (Ql (zR (zA (zN (Qm ?_))))))
 refine zU [(0,_),(1,_)] (fun T L0 mz E I' loc'=>∃ (k:Nat),mz=n-k∧E=(5,.int .i64 k)::T∧I=I'∧L0=loc'∧k≤n∧xs.take k=ys.take k) ?_ (h:=⟨0,rfl,rfl,rfl,rfl,Nat.zero_le _,rfl⟩)
 rintro mz E I' loc' ⟨k,rfl,rfl,rfl,rfl,hk,hall⟩
 refine Ql (zR (zM ?_))
 refine zM ?_
 refine zQ Uy ?_
 refine zC (zN ?_)
 refine zI ?_ ?_<;>intro hc14
 ·
  have hlt_k:k<n:=by have h:=hc14;simp at h;omega
  obtain ⟨x,hx⟩:=hS.at hlt_k
  obtain ⟨y,hy⟩:=hT.at (show k<n2 by omega)
  refine Qn (Qa (Ql (Qm (Ql ?_))))
  refine YF mixed (by kernel_rfl) ?_
  refine zq (Qi rfl) ?_
  refine zq (Qi rfl) ?_
  refine zq (zX Uy hS) ?_
  refine zq (Qo rfl zbi (fun hg=>by exact zAi hS hx) rfl) ?_
  refine zq (Qi rfl) ?_
  refine zq (Qi rfl) ?_
  refine zq (zX Uy hT) ?_
  refine zq (Qo rfl zbi (fun hg=>by exact zAi hT hy) rfl) ?_
  refine zq (zqx rfl rfl zdi) ?_
  refine YK ?_
  refine Qa ?_
  refine zI ?_ ?_<;>intro hc25
  ·
   have hne:xs≠ys:=fun e=>by subst e;rw [hx] at hy;cases hy;simp at hc25
   refine zR (zA (zN (Qt (Qp (Qc (Qc (Qp ?_)))))))
   refine Qc ?_
   exact zr rfl rfl (by rw [decide_eq_false hne])
  have hxy:x=y:=by have h:=hc25;simp at h;exact Prod.ext h.1 h.2
  refine Qn (Qf (Qa (Qg (zM ?_))))
  refine zB ?_
  refine zA (Qb ?_)
  exact zm (h:=⟨n-(k+1),by omega,k+1,rfl,rfl,rfl,rfl,by omega,by rw [List.take_add_one,List.take_add_one,hall,hx,hy,hxy]⟩)
 have hge_k:n≤k:=by have h:=hc14;simp at h;omega
 have heq:xs=ys:=by rw [List.take_of_length_le (by omega),List.take_of_length_le (by omega)] at hall;exact hall
 refine QI (Qh (Qh (Qk (Qa (zR (zA (zN ?_)))))))
 refine Qt ?_
 exact zr rfl rfl (by rw [decide_eq_true heq])
end
end Go.Proofs.YtodakphagkommaaGreatDoor
namespace Go.Proofs.YtodakphagkommaaGreatDoor.R
section
open Go Go.Kn Go.Proofs
theorem Vx:AgT Tryz.prog 159 4:=.of (by kernel_rfl)
theorem zqN:AgT Tryz.prog 254 9:=.of (by kernel_rfl)
theorem Yv:AgT Tryz.prog 57 19:=.of (by kernel_rfl)
theorem UG:ArT Tryz.prog 254 9 253 1:=.of (by kernel_rfl)
theorem zjN:CvT Tryz.prog 186 3 .i64:=⟨by kernel_rfl,by kernel_rfl⟩
theorem Wd:ElT Tryz.prog 36 57 19 168:=.of (by kernel_rfl)
theorem zdx:QZ Tryz.prog 159 0 0:=.of (by kernel_rfl)
theorem zaF:QZ Tryz.prog 159 1 1:=.of (by kernel_rfl)
theorem U4:QZ Tryz.prog 159 2 2:=.of (by kernel_rfl)
theorem Wf:QZ Tryz.prog 159 3 3:=.of (by kernel_rfl)
theorem Zw:QZ Tryz.prog 57 0 0:=.of (by kernel_rfl)
theorem JY:QZ Tryz.prog 57 1 1:=.of (by kernel_rfl)
theorem Yc:QZ Tryz.prog 57 2 2:=.of (by kernel_rfl)
theorem Jn:QZ Tryz.prog 57 3 3:=.of (by kernel_rfl)
theorem VO:QZ Tryz.prog 57 4 4:=.of (by kernel_rfl)
theorem Ul:QZ Tryz.prog 57 5 18:=.of (by kernel_rfl)
theorem zk8:Fun Tryz.prog 116:=.of Tryz.func116 (by kernel_rfl) (by kernel_rfl)
theorem zqm:Fun Tryz.prog 138:=.of Tryz.func138 (by kernel_rfl) (by kernel_rfl)
theorem zqG:Fun Tryz.prog 139:=.of Tryz.func139 (by kernel_rfl) (by kernel_rfl)
theorem zr8:Fun Tryz.prog 140:=.of Tryz.func140 (by kernel_rfl) (by kernel_rfl)
theorem zr6:Fun Tryz.prog 141:=.of Tryz.func141 (by kernel_rfl) (by kernel_rfl)
theorem zsa:Fun Tryz.prog 143:=.of Tryz.func143 (by kernel_rfl) (by kernel_rfl)
theorem zrS:Fun Tryz.prog 144:=.of Tryz.func144 (by kernel_rfl) (by kernel_rfl)
theorem zse:Fun Tryz.prog 145:=.of Tryz.func145 (by kernel_rfl) (by kernel_rfl)
theorem zjR:Fun Tryz.prog 146:=.of Tryz.func146 (by kernel_rfl) (by kernel_rfl)
theorem zjG:Fun Tryz.prog 147:=.of Tryz.func147 (by kernel_rfl) (by kernel_rfl)
theorem zsl:Fun Tryz.prog 149:=.of Tryz.func149 (by kernel_rfl) (by kernel_rfl)
theorem ztr:Fun Tryz.prog 161:=.of Tryz.func161 (by kernel_rfl) (by kernel_rfl)
theorem zev:Fun Tryz.prog 169:=.of Tryz.func169 (by kernel_rfl) (by kernel_rfl)
theorem zhN:Fun Tryz.prog 190:=.of Tryz.func190 (by kernel_rfl) (by kernel_rfl)
theorem zsL:Fun Tryz.prog 193:=.of Tryz.func193 (by kernel_rfl) (by kernel_rfl)
theorem ztk:Fun Tryz.prog 194:=.of Tryz.func194 (by kernel_rfl) (by kernel_rfl)
theorem zqZ:Fun Tryz.prog 195:=.of Tryz.func195 (by kernel_rfl) (by kernel_rfl)
theorem zes:Fun Tryz.prog 196:=.of Tryz.func196 (by kernel_rfl) (by kernel_rfl)
theorem zsV:Fun Tryz.prog 232:=.of Tryz.func232 (by kernel_rfl) (by kernel_rfl)
theorem zxi:Fun Tryz.prog 48:=.of Tryz.func48 (by kernel_rfl) (by kernel_rfl)
theorem zvC:Fun Tryz.prog 49:=.of Tryz.func49 (by kernel_rfl) (by kernel_rfl)
theorem zw9:Fun Tryz.prog 50:=.of Tryz.func50 (by kernel_rfl) (by kernel_rfl)
theorem zxs:Fun Tryz.prog 83:=.of Tryz.func83 (by kernel_rfl) (by kernel_rfl)
theorem ztK:Fun Tryz.prog 84:=.of Tryz.func84 (by kernel_rfl) (by kernel_rfl)
theorem zwX:Fun Tryz.prog 86:=.of Tryz.func86 (by kernel_rfl) (by kernel_rfl)
theorem zvg:Fun Tryz.prog 88:=.of Tryz.func88 (by kernel_rfl) (by kernel_rfl)
theorem zj9:Fun Tryz.prog 89:=.of Tryz.func89 (by kernel_rfl) (by kernel_rfl)
theorem zvR:Fun Tryz.prog 90:=.of Tryz.func90 (by kernel_rfl) (by kernel_rfl)
theorem KP:MpT Tryz.prog 156 3 167 (.map none):=⟨by kernel_rfl,.of (by kernel_rfl)⟩
theorem zej:MpT Tryz.prog 157 79 36 (.slice none 0 0):=⟨by kernel_rfl,.of (by kernel_rfl)⟩
theorem VK:MpT Tryz.prog 167 3 4 (.bool false):=⟨by kernel_rfl,.of (by kernel_rfl)⟩
theorem Va:MpT Tryz.prog 91 3 23 (.slice none 0 0):=⟨by kernel_rfl,.of (by kernel_rfl)⟩
theorem zq3:PlT Tryz.prog 159 #[(0,1),(1,1),(2,1),(3,1)] (.agg #[(.map none),(.map none),(.map none),(.slice none 0 0)]):=⟨.of (by kernel_rfl),by kernel_rfl,fun w=>by kernel_rfl⟩
theorem zfH:PlT Tryz.prog 52 #[(0,1),(1,1)] (.agg #[(.int .i64 0),(.int .i64 0)]):=⟨.of (by kernel_rfl),by kernel_rfl,fun w=>by kernel_rfl⟩
theorem zh3:ScT Tryz.prog 156:=.of (by kernel_rfl)
theorem zfg:ScT Tryz.prog 157:=.of (by kernel_rfl)
theorem zju:ScT Tryz.prog 167:=.of (by kernel_rfl)
theorem W9:ScT Tryz.prog 253:=.of (by kernel_rfl)
theorem zd1:ScT Tryz.prog 48:=.of (by kernel_rfl)
theorem zgd:ScT Tryz.prog 91:=.of (by kernel_rfl)
theorem ZB:SlT Tryz.prog 36 57 19:=.of (by kernel_rfl)
theorem UB:SzT Tryz.prog 159 4:=.of (by kernel_rfl)
theorem ztq:SzT Tryz.prog 167 1:=.of (by kernel_rfl)
theorem zqF:SzT Tryz.prog 254 9:=.of (by kernel_rfl)
theorem zpv:SzT Tryz.prog 48 1:=.of (by kernel_rfl)
theorem V9:SzT Tryz.prog 57 19:=.of (by kernel_rfl)
theorem zqd:Tryz.prog.underlying 167=some (.map 3 4):=by kernel_rfl
theorem zyR:Tryz.prog.underlying 4=some .bool:=by kernel_rfl
theorem zpK:Yu Tryz.prog 159 (.agg #[(.map none),(.map none),(.map none),(.slice none 0 0)]):=.of (by kernel_rfl)
theorem zvJ:Yu Tryz.prog 167 (.map none):=.of (by kernel_rfl)
theorem zoo:Yu Tryz.prog 254 (.agg #[(.pointer none),(.pointer none),(.pointer none),(.pointer none),(.pointer none),(.pointer none),(.pointer none),(.pointer none),(.pointer none)]):=.of (by kernel_rfl)
theorem Uu:Yu Tryz.prog 57 (.agg #[(.int .i64 0),(.int .i64 0),(.int .i64 0),(.int .i64 0),(.int .i64 0),(.int .i64 0),(.int .i64 0),(.int .i64 0),(.int .i64 0),(.int .i64 0),(.int .i64 0),(.int .i64 0),(.int .i64 0),(.int .i64 0),(.int .i64 0),(.int .i64 0),(.int .i64 0),(.int .i64 0),(.slice none 0 0)]):=.of (by kernel_rfl)
end
section
open Go Go.Kn Go.Proofs
theorem zzQ (xs:List Int):(xs.flatMap QQ).length=xs.length:=by rw [ZT Qv,Nat.mul_one]
theorem zii {α:Type}{xs:List α}{k:Nat}{x:α}{p:α→Bool}(hx:xs[k]? =some x)(h:(xs.take k).all p=true)(hp:p x=true):(xs.take (k+1)).all p=true:=by
 rw [List.take_add_one,hx,List.all_append,h];simpa using hp
theorem ziq {α:Type}{xs:List α}{k:Nat}{x:α}{p:α→Bool}(hx:xs[k]? =some x)(hp:p x=false):xs.all p=false:=List.all_eq_false.2 ⟨x,List.mem_of_getElem? hx,by rw [hp];decide⟩
theorem zhl {α:Type}{xs:List α}{k:Nat}{x:α}{p:α→Bool}(h:(xs.take k).any p=false)(hx:xs[k]? =some x)(hp:p x=true):xs.findIdx p=k:=by
 have hk:=(List.getElem?_eq_some_iff.1 hx).1
 rw [List.findIdx_eq hk]
 refine ⟨by rw [(List.getElem?_eq_some_iff.1 hx).2];exact hp,fun j hj=>?_⟩
 have:=List.any_eq_false.1 h xs[j] (by rw [List.mem_take_iff_getElem];exact ⟨j,by omega,rfl⟩)
 simpa using this
theorem JE {α:Type}{xs:List α}{k:Nat}{x:α}{p:α→Bool}(h:(xs.take k).any p=false)(hx:xs[k]? =some x)(hp:p x=true):Uk p xs=k:=by
 unfold Uk
 rw [Kt hx hp,if_pos rfl,zhl h hx hp]
theorem zsG {α:Type}{xs:List α}{p:α→Bool}(h:xs.any p=true):∃ i x,Uk p xs=(i:Nat)∧xs[i]? =some x∧p x=true∧i<xs.length:=by
 obtain ⟨x,hx,hp⟩:=List.any_eq_true.1 h
 have hl:=List.findIdx_lt_length_of_exists ⟨x,hx,hp⟩
 exact ⟨xs.findIdx p,xs[xs.findIdx p],by unfold Uk;rw [h];rfl,List.getElem?_eq_getElem hl,List.findIdx_getElem,hl⟩
theorem zuK {α:Type}{p:α→Bool}:∀ {xs:List α} {k:Nat},(xs.take k).all p=true→k≤xs.length→(∀ y,xs[k]? =some y→p y=false)→xs.takeWhile p=xs.take k∧xs.dropWhile p=xs.drop k
 | [],k,_,hk,_=>by simp
 | x::xs,0,_,_,h=>by
  have:=h x rfl
  simp [this]
 | x::xs,k+1,h,hk,h2=>by
  rw [List.take_succ_cons,List.all_cons,Bool.and_eq_true] at h
  obtain ⟨h3,h4⟩:=zuK h.2 (by simpa using hk) (fun y hy=>h2 y (by simpa using hy))
  rw [List.takeWhile_cons,List.dropWhile_cons,if_pos h.1,if_pos h.1,h3,h4]
  exact ⟨rfl,rfl⟩
theorem Xf:∀ {xs ys:List Int},xs.Pairwise (· < ·)→ys.Pairwise (· < ·)→(∀ a,a∈xs↔a∈ys)→xs=ys
 | [],[],_,_,_=>rfl
 | [],y::ys,_,_,h=>by have:=(h y).2 (List.mem_cons_self ..);cases this
 | x::xs,[],_,_,h=>by have:=(h x).1 (List.mem_cons_self ..);cases this
 | x::xs,y::ys,hx,hy,h=>by
  rw [List.pairwise_cons] at hx hy
  have e:x=y:=by
   rcases List.mem_cons.1 ((h x).1 (List.mem_cons_self ..)) with e | e
   ·
    exact e
   ·
    rcases List.mem_cons.1 ((h y).2 (List.mem_cons_self ..)) with e2 | e2
    ·
     exact e2.symm
    ·
     have h1:=hx.1 _ e2;have h2:=hy.1 _ e;omega
  subst e
  refine congrArg _ (Xf hx.2 hy.2 fun a=>?_)
  constructor
  ·
   intro ha
   rcases List.mem_cons.1 ((h a).1 (List.mem_cons_of_mem _ ha)) with e | e
   ·
    subst e;have:=hx.1 _ ha;omega
   ·
    exact e
  ·
   intro ha
   rcases List.mem_cons.1 ((h a).2 (List.mem_cons_of_mem _ ha)) with e | e
   ·
    subst e;have:=hy.1 _ ha;omega
   ·
    exact e
theorem WU:∀ {ys xs:List Int},xs.Pairwise (· < ·)→ys.Pairwise (· < ·)→(∀ a∈xs,a∈ys)→xs.length≤ys.length∧(ys.length≤xs.length→xs=ys)
 | [],[],_,_,_=>⟨Nat.le_refl _,fun _=>rfl⟩
 | [],x::xs,_,_,h=>by have:=h x (List.mem_cons_self ..);cases this
 | y::ys,[],_,_,_=>⟨Nat.zero_le _,fun h=>by simp at h⟩
 | y::ys,x::xs,hx,hy,h=>by
  have hx':=List.pairwise_cons.1 hx
  have hy':=List.pairwise_cons.1 hy
  by_cases e:x=y
  ·
   subst e
   have:=WU hx'.2 hy'.2 fun a ha=>(List.mem_cons.1 (h a (List.mem_cons_of_mem _ ha))).elim (fun e=>by subst e;have:=hx'.1 _ ha;omega) id
   exact ⟨by simpa using this.1,fun hl=>by rw [this.2 (by simpa using hl)]⟩
  ·
   have hxy:y<x:=by
    rcases List.mem_cons.1 (h x (List.mem_cons_self ..)) with e2 | e2
    ·
     exact absurd e2 e
    ·
     exact hy'.1 _ e2
   have:=(WU hx hy'.2 fun a ha=>(List.mem_cons.1 (h a ha)).elim (fun e2=>by
    subst e2
    rcases List.mem_cons.1 ha with e3 | e3
    ·
     omega
    ·
     have:=hx'.1 _ e3;omega) id).1
   simp only [List.length_cons] at this ⊢
   exact ⟨by omega,fun hl=>by omega⟩
end
section
open Go Go.Kn Go.Proofs
def YC:Sg:=⟨0,0,0,0,0,0,0,0,0,0,0,0,0,0⟩
instance : DecidableEq Sg := fun a b => decidable_of_iff (WK a b = true) Uj
theorem KM (x:Sg):WK x x=true:=Uj.2 rfl
structure Pt where
 id:Int
 kind:Int
 sign:Int
 field:Int
 nw:Sg
 a:Option Addr
 n:Nat
 c:Nat
 needs:List Int
def Yx (p:Pt):List Value:=[.int .i64 p.id,.int .i64 p.kind,.int .i64 p.sign,.int .i64 p.field,.int .i64 p.nw.id,.int .i64 p.nw.role,.int .i64 p.nw.bar,.int .i64 p.nw.mark,.int .i64 p.nw.kind,.int .i64 p.nw.side,.int .i64 p.nw.dir,.int .i64 p.nw.level,.int .i64 p.nw.size,.int .i64 p.nw.wth,.int .i64 p.nw.fn,.int .i64 p.nw.fd,.int .i64 p.nw.tn,.int .i64 p.nw.td,.slice p.a p.n p.c]
def WJ (p:Pt):Value:=.agg (Yx p).toArray
theorem Q0 (x:Pt):(Yx x).length=19:=rfl
theorem zlC (xs:List Pt):Yz (xs.flatMap Yx)=true:=Yl (fun _=>rfl) xs
def WS:Pt:=⟨0,0,0,0,YC,none,0,0,[]⟩
def Nd (I:Qu)(p:Pt):Prop:=Sl I 1 QQ p.a p.n p.c p.needs
theorem Nd.mono {I I':Qu}{p:Pt}(h:Nd I p)(hI:HLe I I'):Nd I' p:=Sl.mono h hI
def SlP (I:Qu)(av:Option Addr)(n c:Nat)(ps:List Pt):Prop:=Sl I 19 Yx av n c ps∧∀ p∈ps,Nd I p
theorem SlP.mono {I I':Qu}{av:Option Addr}{n c:Nat}{ps:List Pt}(h:SlP I av n c ps)(hI:HLe I I'):SlP I' av n c ps:=⟨h.1.mono hI,fun p hp=>(h.2 p hp).mono hI⟩
theorem SlP.len {I:Qu}{av:Option Addr}{n c:Nat}{ps:List Pt}(h:SlP I av n c ps):ps.length=n:=h.1.len
theorem SlP.at {I:Qu}{av:Option Addr}{n c:Nat}{ps:List Pt}(h:SlP I av n c ps){k:Nat}(hk:k<n):∃ p,ps[k]? =some p∧Nd I p:=by
 obtain ⟨p,hp⟩:=h.1.at hk
 exact ⟨p,hp,h.2 p (List.mem_of_getElem? hp)⟩
def skP (xs:List Sg)(i:Nat):Bool:= !(!frm (xs.getD i YC)||(decide ((i:Int)>0)&&decide ((xs.getD ((i:Int)-1).toNat YC).id≥(xs.getD i YC).id)))
def skB (xs:List Sg):Bool:=(List.range xs.length).all (skP xs)
def We (xs:List Sg):Int:=if xs.length>4096 then 2 else if skB xs then 0 else 360
/-! ### Patches -/
def Ju (x:Sg)(f:Int)(y:Sg):Sg:=
 if f=1 then {x with role:=y.role} else if f=2 then {x with bar:=y.bar} else if f=3 then {x with mark:=y.mark} else if f=4 then {x with side:=y.side} else if f=5 then {x with dir:=y.dir}
 else if f=6 then {x with level:=y.level} else if f=7 then {x with size:=y.size} else if f=8 then {x with wth:=y.wth} else if f=9 then {x with fn:=y.fn,fd:=y.fd,tn:=y.tn,td:=y.td} else x
def zgD:Sg:=⟨0,0,0,3,9,0,0,0,0,0,0,1,1,2⟩
def ndP (id:Int)(v:List Int)(i:Nat):Bool:= !((decide (v.getD i 0<1)||decide (v.getD i 0≥id))||(decide ((i:Int)>0)&&decide (v.getD i 0≤v.getD ((i:Int)-1).toNat 0)))
def ndB (id:Int)(v:List Int):Bool:=(List.range v.length).all (ndP id v)
def idB (p:Pt):Bool:=(decide (p.id≥1)&&decide (p.id≤1048576))&&(decide (p.sign≥0)&&decide (p.sign≤1048576))
def UU (p:Pt):Bool:=
 if p.kind=1 then Yy p.field 1 9&&(WK (Ju p.nw p.field YC) YC&&frm (Ju zgD p.field p.nw))
 else if p.kind=2 then p.field==0&&(p.nw.id==p.sign&&frm p.nw)
 else if p.kind=3 then p.field==0&&WK p.nw YC else false
def Ko (p:Pt):Int:=if p.needs.length>32 then 2 else if ndB p.id p.needs&&(idB p&&UU p) then 0 else 370
end
section
open Go Go.Kn Go.Proofs
def orF:List Int→Int
 | []=>0
 | x::xs=>if x≠0 then x else orF xs
theorem Kv:∀ {xs:List Int},orF xs=0↔ ∀ x∈xs,x=0
 | []=>by simp [orF]
 | x::xs=>by
  unfold orF
  by_cases h:x=0
  ·
   rw [if_neg (by simpa using h),Kv];simp [h]
  ·
   rw [if_pos h];simp [h]
theorem zlY {xs:List Int}{k:Nat}{x:Int}(hx:xs[k]? =some x)(h:orF (xs.take k)=0)(hne:x≠0):orF xs=x:=by
 induction xs generalizing k with
 | nil=>simp at hx
 | cons y ys ih=>
  cases k with
  | zero=>
   simp at hx;subst hx
   unfold orF;rw [if_pos hne]
  | succ k=>
   rw [List.take_succ_cons] at h
   unfold orF at h ⊢
   by_cases hy:y=0
   ·
    rw [if_neg (by simpa using hy)] at h ⊢
    exact ih (by simpa using hx) h
   ·
    rw [if_pos hy] at h;exact absurd h hy
def onS (f:Int→Int→Bool)(p:Pt):Int→Int→Bool:=fun a b=>if a=p.id then p.needs.any (fun n=>n==b||f n b) else f a b
def onF (ps:List Pt):Int→Int→Bool:=ps.foldl onS (fun _ _=>false)
def zaW (ps:List Pt)(n:Int):Bool:=ps.any (fun q=>q.id==n)
def lsP (ps:List Pt)(i:Nat):Bool:= !((decide ((i:Int)>0)&&decide ((ps.getD i WS).id≤(ps.getD ((i:Int)-1).toNat WS).id))||(ps.getD i WS).needs.any (fun n=> !zaW ps n))
def lsB (ps:List Pt):Bool:=(List.range ps.length).all (lsP ps)
def zoK (p q:Pt)(on:Bool):Bool:=if p.sign≠q.sign then true else if q.kind=2 then p.kind != 2&&on else if q.kind=3 then !on else true
def zkN (ps:List Pt):Bool:=ps.all fun p=>ps.all fun q=>p.id==q.id||zoK p q (onF ps p.id q.id)
def Uf (ps:List Pt):Int:=if ps.length>512 then 2 else if orF (ps.map Ko)≠0 then orF (ps.map Ko) else if lsB ps&&zkN ps then 0 else 380
structure Lst (ps:List Pt):Prop where
 pos:∀ p∈ps,1≤p.id
 inc:ps.Pairwise (fun p q=>p.id<q.id)
 has:∀ p∈ps,∀ n∈p.needs,n<p.id∧∃ q∈ps,q.id=n
theorem Jt {ps:List Pt}{n:Int}:zaW ps n=true↔ ∃ q∈ps,q.id=n:=by
 unfold zaW
 rw [List.any_eq_true]
 simp
theorem Lst.uniq {ps:List Pt}(h:Lst ps){p q:Pt}(hp:p∈ps)(hq:q∈ps)(e:p.id=q.id):p=q:=by
 obtain ⟨i,hi⟩:=List.getElem?_of_mem hp
 obtain ⟨j,hj⟩:=List.getElem?_of_mem hq
 obtain ⟨hi1,hi2⟩:=List.getElem?_eq_some_iff.1 hi
 obtain ⟨hj1,hj2⟩:=List.getElem?_eq_some_iff.1 hj
 by_cases hij:i=j
 ·
  subst hij;rw [hi] at hj;exact Option.some.inj hj
 ·
  rcases Nat.lt_or_gt_of_ne hij with hlt | hlt
  ·
   have:=List.pairwise_iff_getElem.1 h.inc i j hi1 hj1 hlt;rw [hi2,hj2] at this;omega
  ·
   have:=List.pairwise_iff_getElem.1 h.inc j i hj1 hi1 hlt;rw [hi2,hj2] at this;omega
theorem zki {f:Int→Int→Bool}{p:Pt}{a b:Int}(h:a≠p.id):onS f p a b=f a b:=by unfold onS;rw [if_neg h]
theorem Us:∀ (ps:List Pt) {f:Int→Int→Bool} {a b:Int},(∀ p∈ps,p.id≠a)→ps.foldl onS f a b=f a b
 | [],_,_,_,_=>rfl
 | p::ps,f,a,b,h=>by
  rw [List.foldl_cons,Us ps (fun q hq=>h q (List.mem_cons_of_mem _ hq)),zki (fun e=>h p (List.mem_cons_self ..) e.symm)]
theorem znJ {ps:List Pt}{a b:Int}(h:∀ p∈ps,p.id≠a):onF ps a b=false:=Us ps h
theorem zdg {ps qs:List Pt}{p:Pt}{b:Int}(h:∀ q∈qs,q.id≠p.id):onF (ps++p::qs) p.id b=p.needs.any (fun n=>n==b||onF ps n b):=by
 unfold onF
 rw [List.foldl_append,List.foldl_cons,Us qs h]
 unfold onS;rw [if_pos rfl]
theorem zf1 {ps qs:List Pt}{a b:Int}(h:∀ q∈qs,q.id≠a):onF (ps++qs) a b=onF ps a b:=by
 unfold onF
 rw [List.foldl_append,Us qs h]
theorem Lst.tail_ne {ps qs:List Pt}{p:Pt}(h:Lst (ps++p::qs)):(∀ q∈qs,p.id<q.id)∧(∀ q∈ps,q.id<p.id):=by
 have h1:=h.inc
 rw [List.pairwise_append] at h1
 exact ⟨(List.pairwise_cons.1 h1.2.1).1,fun q hq=>h1.2.2 q hq p (List.mem_cons_self ..)⟩
theorem zf4 {α:Type}{xs:List α}{f g:α→Bool}(h:∀ x∈xs,f x=g x):xs.any f=xs.any g:=by
 induction xs with
 | nil=>rfl
 | cons x xs ih=>rw [List.any_cons,List.any_cons,h x (List.mem_cons_self ..),ih fun y hy=>h y (List.mem_cons_of_mem _ hy)]
theorem Lst.on {ps:List Pt}(h:Lst ps){p:Pt}(hp:p∈ps)(b:Int):onF ps p.id b=p.needs.any (fun n=>n==b||onF ps n b):=by
 obtain ⟨l,r,rfl⟩:=List.append_of_mem hp
 obtain ⟨h1,h2⟩:=h.tail_ne
 rw [zdg (fun q hq e=>by have:=h1 q hq;omega)]
 refine zf4 fun n hn=>?_
 have hlt:=(h.has p hp n hn).1
 rw [zf1 (ps:=l) (qs:=p::r)]
 intro q hq e
 rcases List.mem_cons.1 hq with rfl | hq
 ·
  omega
 ·
  have:=h1 q hq;omega
theorem Lst.on_iff {ps:List Pt}(h:Lst ps){p:Pt}(hp:p∈ps){b:Int}:onF ps p.id b=true↔ ∃ n∈p.needs,n=b∨onF ps n b=true:=by
 rw [h.on hp,List.any_eq_true]
 simp
theorem zeP {ps:List Pt}{a b:Int}(h:onF ps a b=true):∃ p∈ps,p.id=a:=by
 by_cases hx:∃ p∈ps,p.id=a
 ·
  exact hx
 ·
  rw [znJ (fun p hp e=>hx ⟨p,hp,e⟩)] at h;cases h
theorem Lst.ind {ps:List Pt}(h:Lst ps){M:Pt→Prop}(hs:∀ p∈ps,(∀ q∈ps,q.id<p.id→M q)→M p):∀ p∈ps,M p:=by
 have key:∀ (m:Nat) (q:Pt),q∈ps→q.id.toNat≤m→M q:=by
  intro m
  induction m with
  | zero=>
   intro q hq hm
   have:=h.pos q hq;omega
  | succ m ih=>
   intro q hq hm
   exact hs q hq fun r hr hlt=>ih r hr (by have:=h.pos r hr;omega)
 exact fun p hp=>key _ p hp (Nat.le_refl _)
theorem Lst.on_lt {ps:List Pt}(h:Lst ps){a b:Int}(hon:onF ps a b=true):b<a∧∃ q∈ps,q.id=b:=by
 obtain ⟨p,hp,rfl⟩:=zeP hon
 revert hon
 refine h.ind (M:=fun p=>onF ps p.id b=true→b<p.id∧∃ q∈ps,q.id=b) (fun p hp ih hon=>?_) p hp
 obtain ⟨n,hn,e⟩:=(h.on_iff hp).1 hon
 obtain ⟨h1,q,hq,rfl⟩:=h.has p hp n hn
 rcases e with rfl | e
 ·
  exact ⟨h1,q,hq,rfl⟩
 ·
  have:=ih q hq h1 e
  exact ⟨by omega,this.2⟩
theorem Lst.on_irr {ps:List Pt}(h:Lst ps){a:Int}:onF ps a a=false:=by
 cases hon:onF ps a a with
 | false=>rfl
 | true=>have:=(h.on_lt hon).1;omega
theorem Lst.on_trans {ps:List Pt}(h:Lst ps){a b c:Int}(h1:onF ps a b=true)(h2:onF ps b c=true):onF ps a c=true:=by
 obtain ⟨p,hp,rfl⟩:=zeP h1
 revert h1
 refine h.ind (M:=fun p=>onF ps p.id b=true→onF ps p.id c=true) (fun p hp ih hon=>?_) p hp
 obtain ⟨n,hn,e⟩:=(h.on_iff hp).1 hon
 obtain ⟨hlt,q,hq,rfl⟩:=h.has p hp n hn
 rcases e with rfl | e
 ·
  exact (h.on_iff hp).2 ⟨_,hn,.inr h2⟩
 ·
  exact (h.on_iff hp).2 ⟨_,hn,.inr (ih q hq hlt e)⟩
theorem Lst.on_need {ps:List Pt}(h:Lst ps){p:Pt}(hp:p∈ps){n:Int}(hn:n∈p.needs):onF ps p.id n=true:=(h.on_iff hp).2 ⟨n,hn,.inl rfl⟩
theorem Lst.part {ps:List Pt}(h:Lst ps){f:Pt→Bool}(hc:∀ p∈ps,f p=true→∀ q∈ps,q.id∈p.needs→f q=true):Lst (ps.filter f):=
 ⟨fun p hp=>h.pos p (List.mem_filter.1 hp).1,h.inc.filter f,fun p hp n hn=>by
  obtain ⟨hp1,hp2⟩:=List.mem_filter.1 hp
  obtain ⟨h1,q,hq,rfl⟩:=h.has p hp1 n hn
  exact ⟨h1,q,List.mem_filter.2 ⟨hq,hc p hp1 hp2 q hq hn⟩,rfl⟩⟩
theorem Lst.on_part {ps:List Pt}(h:Lst ps){f:Pt→Bool}(hc:∀ p∈ps,f p=true→∀ q∈ps,q.id∈p.needs→f q=true){b:Int}{p:Pt}(hp:p∈ps)(hf:f p=true):onF (ps.filter f) p.id b=onF ps p.id b:=by
 have hL:=h.part hc
 revert hf
 refine h.ind (M:=fun p=>f p=true→onF (ps.filter f) p.id b=onF ps p.id b) (fun p hp ih hf=>?_) p hp
 rw [hL.on (List.mem_filter.2 ⟨hp,hf⟩),h.on hp]
 refine zf4 fun n hn=>?_
 obtain ⟨h1,q,hq,rfl⟩:=h.has p hp n hn
 rw [ih q hq h1 (hc p hp hf q hq hn)]
/-! ### Closures -/
def zqh (v:List Int):Bool:=(List.range v.length).all fun i=> !(decide ((i:Int)>0)&&decide (v.getD i 0≤v.getD ((i:Int)-1).toNat 0))
theorem zlQ {v:List Int}:zqh v=true↔v.Pairwise (· < ·):=by
 unfold zqh
 constructor
 ·
  intro h
  refine KO (R:=fun a b:Int=>a<b) (fun a b c h1 h2=>Int.lt_trans h1 h2) fun k hk=>?_
  rw [List.all_eq_true] at h
  have h1:=h (k+1) (List.mem_range.2 hk)
  rw [show (((k+1:Nat):Int)-1).toNat=k by omega,QU (List.getElem?_eq_getElem hk),QU (List.getElem?_eq_getElem (show k<v.length by omega))] at h1
  simp at h1;omega
 ·
  intro h
  rw [List.all_eq_true]
  intro k hk
  rw [List.mem_range] at hk
  cases k with
  | zero=>rfl
  | succ k=>
   rw [show (((k+1:Nat):Int)-1).toNat=k by omega,QU (List.getElem?_eq_getElem hk),QU (List.getElem?_eq_getElem (show k<v.length by omega))]
   have:=List.pairwise_iff_getElem.1 h k (k+1) (by omega) hk (by omega)
   simp;omega
def chB (ps:List Pt)(ids:List Int):Bool:=zqh ids&&ids.all (zaW ps)
def ze8 (ps:List Pt)(ids:List Int):List Int:=(ps.filter fun p=>ids.any fun n=>n==p.id||onF ps n p.id).map (·.id)
def zlu (ps:List Pt)(v:List Int):Bool:=chB ps v&&zsI (ze8 ps v) v
end
section
open Go Go.Kn Go.Proofs
theorem zhp {ps:List Pt}(h:Lst ps)(f:Pt→Bool):((ps.filter f).map (·.id)).Pairwise (· < ·):=by
 rw [List.pairwise_map]
 exact h.inc.filter f
theorem zeI {ps:List Pt}{f:Pt→Bool}{x:Int}:x∈(ps.filter f).map (·.id)↔ ∃ p∈ps,f p=true∧p.id=x:=by
 rw [List.mem_map]
 constructor
 ·
  rintro ⟨p,hp,e⟩
  exact ⟨p,(List.mem_filter.1 hp).1,(List.mem_filter.1 hp).2,e⟩
 ·
  rintro ⟨p,hp,hf,e⟩
  exact ⟨p,List.mem_filter.2 ⟨hp,hf⟩,e⟩
structure Ver (ps:List Pt)(v:List Int):Prop where
 inc:v.Pairwise (· < ·)
 sub:∀ x∈v,∃ p∈ps,p.id=x
 need:∀ p∈ps,p.id∈v→∀ n∈p.needs,n∈v
theorem Ver.on {ps:List Pt}{v:List Int}(h:Lst ps)(hv:Ver ps v){a b:Int}(ha:a∈v)(hon:onF ps a b=true):b∈v:=by
 obtain ⟨p,hp,rfl⟩:=zeP hon
 revert hon ha
 refine h.ind (M:=fun p=>p.id∈v→onF ps p.id b=true→b∈v) (fun p hp ih ha hon=>?_) p hp
 obtain ⟨n,hn,e⟩:=(h.on_iff hp).1 hon
 have hnv:=hv.need p hp ha n hn
 rcases e with rfl | e
 ·
  exact hnv
 ·
  obtain ⟨hlt,q,hq,rfl⟩:=h.has p hp n hn
  exact ih q hq hlt hnv e
theorem WT {ps:List Pt}{ids:List Int}{x:Int}:x∈ze8 ps ids↔(∃ p∈ps,p.id=x)∧∃ n∈ids,n=x∨onF ps n x=true:=by
 unfold ze8
 rw [zeI]
 constructor
 ·
  rintro ⟨p,hp,hf,rfl⟩
  rw [List.any_eq_true] at hf
  obtain ⟨n,hn,e⟩:=hf
  exact ⟨⟨p,hp,rfl⟩,n,hn,by simpa using e⟩
 ·
  rintro ⟨⟨p,hp,rfl⟩,n,hn,e⟩
  exact ⟨p,hp,List.any_eq_true.2 ⟨n,hn,by simpa using e⟩,rfl⟩
theorem Um {ps:List Pt}(h:Lst ps)(ids:List Int):(ze8 ps ids).Pairwise (· < ·):=zhp h _
theorem zfi {ps:List Pt}{ids:List Int}:chB ps ids=true↔ids.Pairwise (· < ·)∧∀ x∈ids,∃ p∈ps,p.id=x:=by
 unfold chB
 rw [Bool.and_eq_true,zlQ,List.all_eq_true]
 exact ⟨fun h=>⟨h.1,fun x hx=>Jt.1 (h.2 x hx)⟩,fun h=>⟨h.1,fun x hx=>Jt.2 (h.2 x hx)⟩⟩
theorem zsj {ps:List Pt}(h:Lst ps)(ids:List Int):Ver ps (ze8 ps ids) where
 inc:=Um h ids
 sub:=fun x hx=>(WT.1 hx).1
 need:=fun p hp hpv m hm=>by
  obtain ⟨_,n,hn,e⟩:=WT.1 hpv
  obtain ⟨_,q,hq,rfl⟩:=h.has p hp m hm
  refine WT.2 ⟨⟨q,hq,rfl⟩,n,hn,.inr ?_⟩
  rcases e with rfl | e
  ·
   exact h.on_need hp hm
  ·
   exact h.on_trans e (h.on_need hp hm)
theorem zhy {ps:List Pt}(h:Lst ps){v:List Int}(hv:Ver ps v):ze8 ps v=v:=
 Xf (Um h v) hv.inc fun a=>by
  rw [WT]
  constructor
  ·
   rintro ⟨_,n,hn,rfl | e⟩
   ·
    exact hn
   ·
    exact hv.on h hn e
  ·
   intro ha
   exact ⟨hv.sub a ha,a,ha,.inl rfl⟩
theorem zgt {ps:List Pt}(h:Lst ps){v:List Int}:zlu ps v=true↔Ver ps v:=by
 unfold zlu
 rw [Bool.and_eq_true,zfi]
 constructor
 ·
  rintro ⟨⟨h1,h2⟩,h3⟩
  have e:ze8 ps v=v:=of_decide_eq_true h3
  have:=zsj h v
  rwa [e] at this
 ·
  intro hv
  exact ⟨⟨hv.inc,hv.sub⟩,decide_eq_true (zhy h hv)⟩
theorem zs7 {ps:List Pt}(h:Lst ps){v:List Int}(hc:chB ps v=true):decide ((ze8 ps v).length≠v.length)= !zlu ps v:=by
 have hsub:∀ x∈v,x∈ze8 ps v:=fun x hx=>WT.2 ⟨(zfi.1 hc).2 x hx,x,hx,.inl rfl⟩
 have hnd:=(zfi.1 hc).1
 unfold zlu
 rw [hc,Bool.true_and]
 by_cases e:ze8 ps v=v
 ·
  rw [show zsI (ze8 ps v) v=true from decide_eq_true e,e];simp
 ·
  rw [show zsI (ze8 ps v) v=false from decide_eq_false e]
  refine decide_eq_true fun hl=>e ?_
  exact ((WU hnd (Um h v) hsub).2 (by omega)).symm
theorem zhT {ps:List Pt}(h0:orF (ps.map Ko)=0)(h:lsB ps=true):Lst ps:=by
 have hk:∀ p∈ps,ndB p.id p.needs=true∧idB p=true∧UU p=true:=fun p hp=>by
  have h1:=Kv.1 h0 (Ko p) (List.mem_map.2 ⟨p,hp,rfl⟩)
  unfold Ko at h1
  split at h1
  ·
   cases h1
  ·
   split at h1
   ·
    rename_i h2
    simpa [Bool.and_eq_true] using h2
   ·
    cases h1
 unfold lsB at h
 rw [List.all_eq_true] at h
 refine ⟨fun p hp=>?_,?_,fun p hp n hn=>?_⟩
 ·
  have:=(hk p hp).2.1
  unfold idB at this
  simp at this
  omega
 ·
  refine KO (R:=fun p q:Pt=>p.id<q.id) (fun a b c h1 h2=>Int.lt_trans h1 h2) fun k hk=>?_
  have h1:=h (k+1) (List.mem_range.2 hk)
  unfold lsP at h1
  rw [show (((k+1:Nat):Int)-1).toNat=k by omega,QU (List.getElem?_eq_getElem hk),QU (List.getElem?_eq_getElem (show k<ps.length by omega))] at h1
  simp at h1
  have:=h1.1
  omega
 ·
  obtain ⟨k,hk1,rfl⟩:=List.mem_iff_getElem.1 hp
  have h1:=h k (List.mem_range.2 hk1)
  unfold lsP at h1
  rw [QU (List.getElem?_eq_getElem hk1)] at h1
  simp at h1
  refine ⟨?_,Jt.1 (h1.2 n hn)⟩
  obtain ⟨j,hj,rfl⟩:=List.mem_iff_getElem.1 hn
  have h2:=(hk _ hp).1
  unfold ndB at h2
  rw [List.all_eq_true] at h2
  have h3:=h2 j (List.mem_range.2 hj)
  unfold ndP at h3
  rw [QU (List.getElem?_eq_getElem hj)] at h3
  simp at h3
  omega
theorem UP {ps:List Pt}(h:Uf ps=0):ps.length≤512∧orF (ps.map Ko)=0∧lsB ps=true∧zkN ps=true:=by
 unfold Uf at h
 split at h
 ·
  cases h
 ·
  split at h
  ·
   contradiction
  ·
   split at h
   ·
    rename_i h1 h2 h3
    rw [Bool.and_eq_true] at h3
    exact ⟨by omega,by omega,h3⟩
   ·
    cases h
theorem zb5 {ps:List Pt}(h:Uf ps=0):Lst ps:=zhT (UP h).2.1 (UP h).2.2.1
end
section
open Go Go.Kn Go.Proofs
/-! ### Lists by keys -/
def Srt (xs:List Sg):Prop:=xs.Pairwise fun a b=>a.id<b.id
def Yr (xs:List Sg)(s:Int):Option Sg:=xs.find? fun x=>x.id==s
theorem zdO {x:Sg}{xs:List Sg}{s:Int}:Yr (x::xs) s=if x.id=s then some x else Yr xs s:=by
 unfold Yr
 rw [List.find?_cons]
 by_cases h:x.id=s
 ·
  rw [if_pos h,show (x.id==s)=true by simpa using h]
 ·
  rw [if_neg h,show (x.id==s)=false by simpa using h]
theorem zsw {xs:List Sg}{s:Int}{x:Sg}(h:Yr xs s=some x):x.id=s:=by
 have:=List.find?_some h
 simpa using this
theorem zf8 {xs:List Sg}{s:Int}{x:Sg}(h:Yr xs s=some x):x∈xs:=List.mem_of_find?_eq_some h
theorem X7 {xs:List Sg}{s:Int}:Yr xs s=none↔ ∀ x∈xs,x.id≠s:=by
 unfold Yr
 rw [List.find?_eq_none]
 simp
theorem zis {xs:List Sg}(h:Srt xs){x:Sg}(hx:x∈xs):Yr xs x.id=some x:=by
 induction xs with
 | nil=>cases hx
 | cons y ys ih=>
  rw [zdO]
  have h':=List.pairwise_cons.1 h
  rcases List.mem_cons.1 hx with rfl | hx
  ·
   rw [if_pos rfl]
  ·
   rw [if_neg (by have:=h'.1 x hx;omega)]
   exact ih h'.2 hx
theorem zqf {xs ys:List Sg}(hx:Srt xs)(hy:Srt ys)(h:∀ s,Yr xs s=Yr ys s):xs=ys:=by
 have hm:∀ {xs ys:List Sg},Srt xs→(∀ s,Yr xs s=Yr ys s)→∀ a∈xs,a∈ys:=fun {xs ys} h1 h2 a ha=>zf8 (by rw [←h2];exact zis h1 ha)
 have h1:=hm hx h
 have h2:=hm hy (fun s=>(h s).symm)
 clear hm h
 induction xs generalizing ys with
 | nil=>
  cases ys with
  | nil=>rfl
  | cons y ys=>have:=h2 y (List.mem_cons_self ..);cases this
 | cons x xs ih=>
  cases ys with
  | nil=>have:=h1 x (List.mem_cons_self ..);cases this
  | cons y ys=>
   have hx':=List.pairwise_cons.1 hx
   have hy':=List.pairwise_cons.1 hy
   have e:x=y:=by
    rcases List.mem_cons.1 (h1 x (List.mem_cons_self ..)) with e | e
    ·
     exact e
    ·
     rcases List.mem_cons.1 (h2 y (List.mem_cons_self ..)) with e2 | e2
     ·
      exact e2.symm
     ·
      have h3:=hx'.1 _ e2;have h4:=hy'.1 _ e;omega
   subst e
   refine congrArg _ (ih hx'.2 hy'.2 (fun a ha=>?_) (fun a ha=>?_))
   ·
    rcases List.mem_cons.1 (h1 a (List.mem_cons_of_mem _ ha)) with e | e
    ·
     subst e;have:=hx'.1 _ ha;omega
    ·
     exact e
   ·
    rcases List.mem_cons.1 (h2 a (List.mem_cons_of_mem _ ha)) with e | e
    ·
     subst e;have:=hy'.1 _ ha;omega
    ·
     exact e
theorem ziM {xs:List Sg}(h:skB xs=true):Srt xs:=by
 unfold skB at h
 rw [List.all_eq_true] at h
 refine KO (R:=fun p q:Sg=>p.id<q.id) (fun a b c h1 h2=>Int.lt_trans h1 h2) fun k hk=>?_
 have h1:=h (k+1) (List.mem_range.2 hk)
 unfold skP at h1
 rw [show (((k+1:Nat):Int)-1).toNat=k by omega,QU (List.getElem?_eq_getElem hk),QU (List.getElem?_eq_getElem (show k<xs.length by omega))] at h1
 simp at h1
 have:=h1.2
 omega
theorem zeS {xs:List Sg}(h:We xs=0):xs.length≤4096∧skB xs=true:=by
 unfold We at h
 split at h
 ·
  cases h
 ·
  split at h
  ·
   rename_i h1 h2;exact ⟨by omega,h2⟩
  ·
   cases h
def zd5 (xs:List Sg)(k:Sg):List Sg:=xs.takeWhile (fun x=>decide (x.id<k.id))++k::xs.dropWhile (fun x=>decide (x.id<k.id))
theorem zfB {xs ys:List Sg}{s:Int}:Yr (xs++ys) s=(Yr xs s).or (Yr ys s):=by unfold Yr;rw [List.find?_append]
theorem zmQ {xs:List Sg}{k:Sg}{s:Int}(hn:Yr xs k.id=none):Yr (zd5 xs k) s=if k.id=s then some k else Yr xs s:=by
 unfold zd5
 rw [zfB,zdO]
 by_cases h:k.id=s
 ·
  subst h
  have h1:Yr (xs.takeWhile fun x=>decide (x.id<k.id)) k.id=none:=X7.2 fun x hx=>X7.1 hn x ((List.takeWhile_sublist _).mem hx)
  rw [h1,if_pos rfl,if_pos rfl];rfl
 ·
  rw [if_neg h,if_neg h,←zfB,List.takeWhile_append_dropWhile]
theorem zcZ {xs:List Sg}(h:Srt xs){k:Int}:∀ x∈xs.dropWhile (fun x=>decide (x.id<k)),k≤x.id:=by
 induction xs with
 | nil=>intro x hx;cases hx
 | cons y ys ih=>
  have h':=List.pairwise_cons.1 h
  intro x hx
  rw [List.dropWhile_cons] at hx
  split at hx
  ·
   exact ih h'.2 x hx
  ·
   rename_i hy
   have hy:k≤y.id:=by simpa using hy
   rcases List.mem_cons.1 hx with rfl | hx
   ·
    exact hy
   ·
    have:=h'.1 x hx;omega
theorem zdZ {xs:List Sg}{k:Int}:∀ x∈xs.takeWhile (fun x=>decide (x.id<k)),x.id<k:=fun x hx=>by
 have:=List.all_eq_true.1 (List.all_takeWhile (l:=xs) (p:=fun x:Sg=>decide (x.id<k))) x hx
 simpa using this
theorem zsr {xs:List Sg}(h:Srt xs){k:Sg}(hn:Yr xs k.id=none):Srt (zd5 xs k):=by
 have h0:Srt (xs.takeWhile (fun x=>decide (x.id<k.id))++xs.dropWhile (fun x=>decide (x.id<k.id))):=by rw [List.takeWhile_append_dropWhile];exact h
 unfold Srt at h0
 rw [List.pairwise_append] at h0
 unfold Srt zd5
 rw [List.pairwise_append,List.pairwise_cons]
 refine ⟨h0.1,⟨fun x hx=>?_,h0.2.1⟩,fun x hx y hy=>?_⟩
 ·
  have h1:=zcZ h x hx
  have h2:=X7.1 hn x ((List.dropWhile_sublist _).mem hx)
  omega
 ·
  rcases List.mem_cons.1 hy with rfl | hy
  ·
   exact zdZ x hx
  ·
   exact h0.2.2 x hx y hy
/-! ### One field of a sign -/
def YS (x:Sg)(f:Int):Int×Int×Int×Int:=
 if f=1 then (x.role,0,0,0) else if f=2 then (x.bar,0,0,0) else if f=3 then (x.mark,0,0,0) else if f=4 then (x.side,0,0,0) else if f=5 then (x.dir,0,0,0)
 else if f=6 then (x.level,0,0,0) else if f=7 then (x.size,0,0,0) else if f=8 then (x.wth,0,0,0) else if f=9 then (x.fn,x.fd,x.tn,x.td) else (0,0,0,0)
def isF (f:Int):Prop:=1≤f∧f≤9
theorem Wq {f:Int}(h:isF f):f=1∨f=2∨f=3∨f=4∨f=5∨f=6∨f=7∨f=8∨f=9:=by unfold isF at h;omega
theorem ztN {x y:Sg}{f:Int}:(Ju x f y).id=x.id:=by unfold Ju;(repeat' split)<;>rfl
theorem znI {x y:Sg}{f:Int}:(Ju x f y).kind=x.kind:=by unfold Ju;(repeat' split)<;>rfl
theorem zmZ {x y:Sg}{g:Int}:YS (Ju x 1 y) g=if g=1 then YS y g else YS x g:=by
 rw [show Ju x 1 y= {x with role:=y.role} from rfl]
 by_cases hg:g=1
 ·
  subst hg;rfl
 ·
  rw [if_neg hg]
  unfold YS
  simp only [if_neg hg]
theorem znL {x y:Sg}{g:Int}:YS (Ju x 2 y) g=if g=2 then YS y g else YS x g:=by
 rw [show Ju x 2 y= {x with bar:=y.bar} from rfl]
 by_cases hg:g=2
 ·
  subst hg;rfl
 ·
  rw [if_neg hg]
  unfold YS
  simp only [if_neg hg]
theorem zlO {x y:Sg}{g:Int}:YS (Ju x 3 y) g=if g=3 then YS y g else YS x g:=by
 rw [show Ju x 3 y= {x with mark:=y.mark} from rfl]
 by_cases hg:g=3
 ·
  subst hg;rfl
 ·
  rw [if_neg hg]
  unfold YS
  simp only [if_neg hg]
theorem zns {x y:Sg}{g:Int}:YS (Ju x 4 y) g=if g=4 then YS y g else YS x g:=by
 rw [show Ju x 4 y= {x with side:=y.side} from rfl]
 by_cases hg:g=4
 ·
  subst hg;rfl
 ·
  rw [if_neg hg]
  unfold YS
  simp only [if_neg hg]
theorem znK {x y:Sg}{g:Int}:YS (Ju x 5 y) g=if g=5 then YS y g else YS x g:=by
 rw [show Ju x 5 y= {x with dir:=y.dir} from rfl]
 by_cases hg:g=5
 ·
  subst hg;rfl
 ·
  rw [if_neg hg]
  unfold YS
  simp only [if_neg hg]
theorem zl8 {x y:Sg}{g:Int}:YS (Ju x 6 y) g=if g=6 then YS y g else YS x g:=by
 rw [show Ju x 6 y= {x with level:=y.level} from rfl]
 by_cases hg:g=6
 ·
  subst hg;rfl
 ·
  rw [if_neg hg]
  unfold YS
  simp only [if_neg hg]
theorem zl1 {x y:Sg}{g:Int}:YS (Ju x 7 y) g=if g=7 then YS y g else YS x g:=by
 rw [show Ju x 7 y= {x with size:=y.size} from rfl]
 by_cases hg:g=7
 ·
  subst hg;rfl
 ·
  rw [if_neg hg]
  unfold YS
  simp only [if_neg hg]
theorem zmi {x y:Sg}{g:Int}:YS (Ju x 8 y) g=if g=8 then YS y g else YS x g:=by
 rw [show Ju x 8 y= {x with wth:=y.wth} from rfl]
 by_cases hg:g=8
 ·
  subst hg;rfl
 ·
  rw [if_neg hg]
  unfold YS
  simp only [if_neg hg]
theorem zlN {x y:Sg}{g:Int}:YS (Ju x 9 y) g=if g=9 then YS y g else YS x g:=by
 rw [show Ju x 9 y= {x with fn:=y.fn,fd:=y.fd,tn:=y.tn,td:=y.td} from rfl]
 by_cases hg:g=9
 ·
  subst hg;rfl
 ·
  rw [if_neg hg]
  unfold YS
  simp only [if_neg hg]
theorem zeG {x y:Sg}{f g:Int}(hf:isF f):YS (Ju x f y) g=if g=f then YS y g else YS x g:=by
 rcases Wq hf with rfl | rfl | rfl | rfl | rfl | rfl | rfl | rfl | rfl
 ·
  exact zmZ
 ·
  exact znL
 ·
  exact zlO
 ·
  exact zns
 ·
  exact znK
 ·
  exact zl8
 ·
  exact zl1
 ·
  exact zmi
 ·
  exact zlN
end
section
open Go Go.Kn Go.Proofs
def rmF (l:List Pt)(s:Int):List Int:=(l.filter fun p=>p.kind==3&&p.sign==s).map (·.id)
def stF (l:List Pt)(s f:Int):List Pt:=l.filter fun p=>p.kind==1&&(p.sign==s&&p.field==f)
def unB (on:Int→Int→Bool)(l:List Pt)(p:Pt):Bool:=p.kind==1&&(rmF l p.sign).any fun i=> !on i p.id
def unF (on:Int→Int→Bool)(l:List Pt)(s:Int):List Pt:=l.filter fun p=>p.sign==s&&unB on l p
def exB (on:Int→Int→Bool)(l:List Pt)(s:Int):Bool:=(rmF l s).isEmpty|| !(unF on l s).isEmpty
def XP (on:Int→Int→Bool)(l:List Pt)(s f:Int):List Pt:=(stF l s f).filter fun p=> !(stF l s f).any fun q=>on q.id p.id
def zn0 (x:Sg)(f:Int):List Pt→Sg
 | []=>x
 | p::_=>Ju x f p.nw
def zep (on:Int→Int→Bool)(l:List Pt)(x:Sg)(k:Nat):Sg:=(List.range k).foldl (fun y (j:Nat)=>zn0 y ((j:Int)+1) (XP on l x.id ((j:Int)+1))) x
def zhI (on:Int→Int→Bool)(l:List Pt)(x:Sg):Sg:=zep on l x 9
def Wk (base:List Sg)(l:List Pt):List Sg:=l.foldl (fun s p=>if p.kind=2 then zd5 s p.nw else s) base
def X5 (on:Int→Int→Bool)(base:List Sg)(l:List Pt):List Sg:=((Wk base l).filter fun x=>exB on l x.id).map (zhI on l)
def Z9 (ps:List Pt)(v:List Int):List Pt:=ps.filter fun p=>v.any (· ==p.id)
def WP (xs:List Sg)(s:Int):Bool:=xs.any fun x=>x.id==s
def zhw (l:List Pt)(s:Int):Bool:=l.any fun q=>q.kind==2&&q.sign==s
def zsF (base:List Sg)(l:List Pt)(p:Pt):Bool:= !((p.kind==2&&WP base p.sign)||(p.kind != 2&& !WP base p.sign)&& !zhw l p.sign)
def zhd (base:List Sg)(l:List Pt):Bool:=l.all (zsF base l)
def zaL (ps:List Pt)(base:List Sg)(v:List Int):Int:=if Uf ps≠0 then Uf ps else if We base≠0 then We base else if v.length>512 then 2 else if zlu ps v&&zhd base (Z9 ps v) then 0 else 380
def zdL (ps:List Pt)(base:List Sg)(v:List Int):Int:=if zaL ps base v≠0 then zaL ps base v else if (X5 (onF ps) base (Z9 ps v)).length>4096 then 2 else 0
def zge (ps:List Pt)(base:List Sg)(v:List Int):List Sg:=zm0 (zdL ps base v) (X5 (onF ps) base (Z9 ps v))
/-! ### Conflicts -/
structure zsY (p:Pt):Prop where
 pos:1≤p.id∧p.id≤1048576
 sg:0≤p.sign∧p.sign≤1048576
 kind:p.kind=1∨p.kind=2∨p.kind=3
 set:p.kind=1→isF p.field∧Ju p.nw p.field YC=YC∧frm (Ju zgD p.field p.nw)=true
 ins:p.kind=2→p.nw.id=p.sign∧frm p.nw=true
theorem zrw {p:Pt}(h:Ko p=0):zsY p:=by
 unfold Ko at h
 split at h
 ·
  cases h
 ·
  split at h
  ·
   rename_i h1 h2
   rw [Bool.and_eq_true,Bool.and_eq_true] at h2
   obtain ⟨h3,h4,h5⟩:=h2
   unfold idB at h4
   unfold UU at h5
   simp only [Bool.and_eq_true,decide_eq_true_eq] at h4
   refine ⟨by omega,by omega,?_,fun hk=>?_,fun hk=>?_⟩
   ·
    split at h5
    ·
     omega
    ·
     split at h5
     ·
      omega
     ·
      split at h5
      ·
       omega
      ·
       cases h5
   ·
    rw [if_pos hk] at h5
    simp only [Bool.and_eq_true,Yy,decide_eq_true_eq] at h5
    exact ⟨⟨h5.1.1,h5.1.2⟩,Uj.1 h5.2.1,h5.2.2⟩
   ·
    rw [if_neg (by omega),if_pos hk] at h5
    simp only [Bool.and_eq_true,beq_iff_eq] at h5
    exact h5.2
  ·
   cases h
structure Sto (ps:List Pt):Prop where
 lst:Lst ps
 ok:∀ p∈ps,zsY p
 tog:∀ p∈ps,∀ q∈ps,p.id≠q.id→zoK p q (onF ps p.id q.id)=true
theorem zte {ps:List Pt}(h:zkN ps=true){p q:Pt}(hp:p∈ps)(hq:q∈ps)(hne:p.id≠q.id):zoK p q (onF ps p.id q.id)=true:=by
 unfold zkN at h
 rw [List.all_eq_true] at h
 have h1:=h p hp
 rw [List.all_eq_true] at h1
 have h2:=h1 q hq
 rw [show (p.id==q.id)=false by simpa using hne,Bool.false_or] at h2
 exact h2
theorem zbz {ps:List Pt}(h:Uf ps=0):Sto ps:=
 ⟨zb5 h,fun p hp=>zrw (Kv.1 (UP h).2.1 _ (List.mem_map.2 ⟨p,hp,rfl⟩)),fun _p hp _q hq hne=>zte (UP h).2.2.2 hp hq hne⟩
theorem Sto.ins {ps:List Pt}(h:Sto ps){p q:Pt}(hp:p∈ps)(hq:q∈ps)(hs:p.sign=q.sign)(hk:q.kind=2):p=q∨(p.kind≠2∧onF ps p.id q.id=true):=by
 by_cases e:p.id=q.id
 ·
  exact .inl (h.lst.uniq hp hq e)
 ·
  have:=h.tog p hp q hq e
  unfold zoK at this
  rw [if_neg (by simpa using hs),if_pos hk] at this
  simp at this
  exact .inr this
theorem Y3 {ps:List Pt}{v:List Int}{p:Pt}:p∈Z9 ps v↔p∈ps∧p.id∈v:=by
 unfold Z9
 rw [List.mem_filter]
 simp
theorem Ver.closed {ps:List Pt}{v:List Int}(hv:Ver ps v):∀ p∈ps,(v.any (· ==p.id))=true→∀ q∈ps,q.id∈p.needs→(v.any (· ==q.id))=true:=fun p hp h q _ hq=>by
 have:p.id∈v:=by simpa using h
 have:=hv.need p hp this _ hq
 simpa using this
theorem znD {ps:List Pt}{v:List Int}(h:Lst ps)(hv:Ver ps v):Lst (Z9 ps v):=h.part hv.closed
theorem zsD {ps:List Pt}{v:List Int}(h:Lst ps)(hv:Ver ps v){p:Pt}(hp:p∈Z9 ps v)(b:Int):onF (Z9 ps v) p.id b=onF ps p.id b:=
 h.on_part hv.closed (Y3.1 hp).1 (List.mem_filter.1 hp).2
theorem XA {ps:List Pt}{v:List Int}(h:Sto ps)(hv:Ver ps v):Sto (Z9 ps v):=
 ⟨znD h.lst hv,fun p hp=>h.ok p (Y3.1 hp).1,fun p hp q hq hne=>by rw [zsD h.lst hv hp];exact h.tog p (Y3.1 hp).1 q (Y3.1 hq).1 hne⟩
/-! ### Standing matters Yy the version alone -/
theorem ztp {l:List Pt}{s i:Int}:i∈rmF l s↔ ∃ p∈l,p.kind=3∧p.sign=s∧p.id=i:=by
 unfold rmF
 rw [zeI]
 simp [and_assoc]
theorem UH {l:List Pt}{s f:Int}{p:Pt}:p∈stF l s f↔p∈l∧p.kind=1∧p.sign=s∧p.field=f:=by
 unfold stF
 rw [List.mem_filter]
 simp
section
variable {l:List Pt} {on on':Int→Int→Bool}
end
end
section
open Go Go.Kn Go.Proofs
section
variable {ps:List Pt} {base:List Sg} {v:List Int}
end
/-! ### All signs of a base and of what is inserted -/
theorem zlb {xs:List Sg}{s:Int}:WP xs s=(Yr xs s).isSome:=by
 unfold WP Yr
 rw [Bool.eq_iff_iff,List.find?_isSome,List.any_eq_true]
def zhk (l:List Pt)(s:Int):Option Sg:=(l.find? fun q=>q.kind==2&&q.sign==s).map (·.nw)
theorem zda {l:List Pt}{s:Int}{x:Sg}(h:zhk l s=some x):∃ q∈l,q.kind=2∧q.sign=s∧q.nw=x:=by
 unfold zhk at h
 rw [Option.map_eq_some_iff] at h
 obtain ⟨q,hq,rfl⟩:=h
 have:=List.find?_some hq
 simp at this
 exact ⟨q,List.mem_of_find?_eq_some hq,this.1,this.2,rfl⟩
theorem zie {base:List Sg}{l:List Pt}(h:zhd base l=true){q:Pt}(hq:q∈l)(hk:q.kind=2):Yr base q.sign=none:=by
 unfold zhd at h
 rw [List.all_eq_true] at h
 have:=h q hq
 unfold zsF at this
 rw [zlb] at this
 simp [hk] at this
 exact this
theorem zfS {base:List Sg}{l:List Pt}{q:Pt}:Wk base (l++[q])=if q.kind=2 then zd5 (Wk base l) q.nw else Wk base l:=by
 unfold Wk
 rw [List.foldl_append];rfl
theorem zky {base:List Sg}(hb:Srt base):∀ (l2 l1:List Pt),Sto (l1++l2)→zhd base (l1++l2)=true→Srt (Wk base l1)→(∀ s,Yr (Wk base l1) s=(Yr base s).or (zhk l1 s))→
  Srt (Wk base (l1++l2))∧∀ s,Yr (Wk base (l1++l2)) s=(Yr base s).or (zhk (l1++l2) s)
 | [],l1,_,_,h1,h2=>by rw [List.append_nil];exact ⟨h1,h2⟩
 | q::l2,l1,hs,hf,h1,h2=>by
  have e:l1++q::l2=(l1++[q])++l2:=by simp
  rw [e] at hs hf ⊢
  have hq:q∈l1++[q]++l2:=by simp
  have hins:∀ s,zhk (l1++[q]) s=(zhk l1 s).or (if q.kind=2∧q.sign=s then some q.nw else none):=by
   intro s
   unfold zhk
   rw [List.find?_append]
   by_cases hk:q.kind=2∧q.sign=s
   ·
    rw [if_pos hk,List.find?_cons,show (q.kind==2&&q.sign==s)=true by simpa using hk]
    cases l1.find? fun q=>q.kind==2&&q.sign==s<;>rfl
   ·
    rw [if_neg hk,List.find?_cons,show (q.kind==2&&q.sign==s)=false by simpa using hk]
    cases l1.find? fun q=>q.kind==2&&q.sign==s<;>rfl
  refine zky hb l2 (l1++[q]) hs hf ?_ ?_
  ·
   rw [zfS]
   by_cases hk:q.kind=2
   ·
    rw [if_pos hk]
    have hid:=((hs.ok q hq).ins hk).1
    refine zsr h1 ?_
    rw [h2,hid,zie hf hq hk]
    cases hi:zhk l1 q.sign with
    | none=>rfl
    | some x=>
     exfalso
     obtain ⟨r,hr,hr1,hr2,_⟩:=zda hi
     rcases hs.ins (p:=r) (q:=q) (by simp [hr]) hq hr2 hk with e2 | ⟨e2,_⟩
     ·
      subst e2
      have:=hs.lst.inc
      rw [List.append_assoc,List.pairwise_append] at this
      have:=this.2.2 r hr r (by simp)
      omega
     ·
      exact e2 hr1
   ·
    rw [if_neg hk];exact h1
  ·
   intro s
   rw [zfS,hins]
   by_cases hk:q.kind=2
   ·
    have hid:=((hs.ok q hq).ins hk).1
    have hnone:Yr (Wk base l1) q.nw.id=none:=by
     rw [h2,hid,zie hf hq hk]
     cases hi:zhk l1 q.sign with
     | none=>rfl
     | some x=>
      exfalso
      obtain ⟨r,hr,hr1,hr2,_⟩:=zda hi
      rcases hs.ins (p:=r) (q:=q) (by simp [hr]) hq hr2 hk with e2 | ⟨e2,_⟩
      ·
       subst e2
       have:=hs.lst.inc
       rw [List.append_assoc,List.pairwise_append] at this
       have:=this.2.2 r hr r (by simp)
       omega
      ·
       exact e2 hr1
    rw [if_pos hk,zmQ hnone,hid,h2]
    have hn2:=hnone
    rw [h2,hid] at hn2
    by_cases hs2:q.sign=s
    ·
     subst hs2
     rw [if_pos rfl,if_pos ⟨hk,rfl⟩]
     cases h3:Yr base q.sign with
     | some x=>rw [h3] at hn2;cases hn2
     | none=>
      rw [h3] at hn2
      cases h4:zhk l1 q.sign with
      | some x=>rw [h4] at hn2;cases hn2
      | none=>rfl
    ·
     rw [if_neg hs2,if_neg (fun h=>hs2 h.2),Option.or_none]
   ·
    rw [if_neg hk,if_neg (fun h=>hk h.1),Option.or_none,h2]
theorem zmN {base:List Sg}{l:List Pt}(hb:Srt base)(hs:Sto l)(hf:zhd base l=true):Srt (Wk base l)∧∀ s,Yr (Wk base l) s=(Yr base s).or (zhk l s):=by
 have:=zky hb l [] hs hf hb (fun s=>by simp [zhk,Wk])
 simpa using this
end
section
open Go Go.Kn Go.Proofs
theorem zrK {x:Sg}{f:Int}{ps:List Pt}:(zn0 x f ps).id=x.id:=by
 cases ps with
 | nil=>rfl
 | cons p ps=>exact ztN
theorem ziE {x:Sg}{f:Int}{ps:List Pt}:(zn0 x f ps).kind=x.kind:=by
 cases ps with
 | nil=>rfl
 | cons p ps=>exact znI
theorem zaP {on:Int→Int→Bool}{l:List Pt}{x:Sg}{k:Nat}:zep on l x (k+1)=zn0 (zep on l x k) ((k:Int)+1) (XP on l x.id ((k:Int)+1)):=by
 unfold zep
 rw [List.range_succ,List.foldl_append];rfl
theorem zeb {on:Int→Int→Bool}{l:List Pt}{x:Sg}:∀ k:Nat,(zep on l x k).id=x.id∧(zep on l x k).kind=x.kind
 | 0=>⟨rfl,rfl⟩
 | k+1=>by
  rw [zaP,zrK,ziE]
  exact zeb k
def zzG (x:Sg)(f:Int):List Pt→Int×Int×Int×Int
 | []=>YS x f
 | p::_=>YS p.nw f
theorem zft {on:Int→Int→Bool}{l:List Pt}{x:Sg}{f:Int}(hf:isF f):∀ k:Nat,k≤9→YS (zep on l x k) f=if f≤k then zzG x f (XP on l x.id f) else YS x f
 | 0,_=>by rw [if_neg (by unfold isF at hf;omega)];rfl
 | k+1,hk=>by
  rw [zaP]
  have ih:=zft (on:=on) (l:=l) (x:=x) hf k (by omega)
  by_cases e:f=(k:Int)+1
  ·
   subst e
   rw [if_pos (by omega)]
   rw [if_neg (by omega)] at ih
   cases hl:XP on l x.id ((k:Int)+1) with
   | nil=>exact ih
   | cons p ps=>show YS (Ju _ _ _) _=_;rw [zeG hf,if_pos rfl];rfl
  ·
   have:YS (zn0 (zep on l x k) ((k:Int)+1) (XP on l x.id ((k:Int)+1))) f=YS (zep on l x k) f:=by
    cases XP on l x.id ((k:Int)+1) with
    | nil=>rfl
    | cons p ps=>show YS (Ju _ _ _) _=_;rw [zeG (by unfold isF;omega),if_neg e]
   rw [this,ih]
   by_cases h2:f≤(k:Int)
   ·
    rw [if_pos h2,if_pos (by omega)]
   ·
    rw [if_neg h2,if_neg (by omega)]
theorem zei {on:Int→Int→Bool}{l:List Pt}{x:Sg}{f:Int}(hf:isF f):YS (zhI on l x) f=zzG x f (XP on l x.id f):=by
 unfold zhI
 rw [zft hf 9 (Nat.le_refl _),if_pos (by unfold isF at hf;omega)]
theorem zd0 {on:Int→Int→Bool}{l:List Pt}{x:Sg}:(zhI on l x).id=x.id:=(zeb 9).1
section
variable {l l':List Pt} {s:Int} {on:Int→Int→Bool}
end
theorem zsB {xs:List Sg}{k:Sg}:(zd5 xs k).length=xs.length+1:=by
 have:=congrArg List.length (List.takeWhile_append_dropWhile (p:=fun x:Sg=>decide (x.id<k.id)) (l:=xs))
 rw [List.length_append] at this
 unfold zd5
 rw [List.length_append,List.length_cons]
 omega
theorem zkE:∀ {l:List Pt} {base:List Sg},(Wk base l).length≤base.length+l.length
 | [],base=>by simp [Wk]
 | q::l,base=>by
  show (Wk (if q.kind=2 then zd5 base q.nw else base) l).length≤_
  refine Nat.le_trans zkE ?_
  split
  ·
   rw [zsB,List.length_cons];omega
  ·
   rw [List.length_cons];omega
theorem zsX {on:Int→Int→Bool}{base:List Sg}{l:List Pt}:(X5 on base l).length≤base.length+l.length:=by
 unfold X5
 rw [List.length_map]
 exact Nat.le_trans (List.length_filter_le ..) zkE
end
section
open Go Go.Kn Go.Proofs
def zzU (t:List Pt)(s:Int):Bool:=t.any fun p=>p.kind==3&&p.sign==s
def zz5 (x:Sg)(t:List Pt)(s:Int):Sg:=t.foldl (fun y p=>if p.kind=1∧p.sign=s then Ju y p.field p.nw else y) x
def stS (base:List Sg)(t:List Pt)(s:Int):Option Sg:=if zzU t s then none else ((Yr base s).or (zhk t s)).map fun x=>zz5 x t s
end
section
open Go Go.Kn Go.Proofs
def znf (x y:Int):Int:=if x<y then -1 else if x>y then 1 else 0
/-! ### Fields as cells -/
def foF (f:Int):Nat:=if f=1 then 1 else if f=2 then 2 else if f=3 then 3 else if f=4 then 5 else if f=5 then 6 else if f=6 then 7 else if f=7 then 8 else 9
def zxk (x:Sg)(f:Int):Int:=if f=1 then x.role else if f=2 then x.bar else if f=3 then x.mark else if f=4 then x.side else if f=5 then x.dir else if f=6 then x.level else if f=7 then x.size else x.wth
def zzJ (b:Nat):List Value:=[.pointer none,.pointer (some ⟨b,0+1,none⟩),.pointer (some ⟨b,0+2,none⟩),.pointer (some ⟨b,0+3,none⟩),.pointer (some ⟨b,0+5,none⟩),.pointer (some ⟨b,0+6,none⟩),.pointer (some ⟨b,0+7,none⟩),.pointer (some ⟨b,0+8,none⟩),.pointer (some ⟨b,0+9,none⟩)]
theorem zab {f:Int}(h:1≤f∧f≤8):f=1∨f=2∨f=3∨f=4∨f=5∨f=6∨f=7∨f=8:=by omega
theorem zbe {f:Int}(h:1≤f∧f≤8)(b:Nat):(zzJ b)[f.toNat*1]? =some (.pointer (some ⟨b,foF f,none⟩)):=by
 rcases zab h with rfl | rfl | rfl | rfl | rfl | rfl | rfl | rfl<;>rfl
theorem zeR {f:Int}(h:1≤f∧f≤8)(x:Sg):zhH (YU x) (foF f)=some (.int .i64 (zxk x f)):=by
 rcases zab h with rfl | rfl | rfl | rfl | rfl | rfl | rfl | rfl<;>rfl
theorem zpU {f:Int}:Nat.blt (foF f) 14=true:=by
 unfold foF
 repeat' split
 all_goals rfl
theorem ziR {f:Int}(h:1≤f∧f≤8)(x y:Sg):(YU x).toArray.setIfInBounds (foF f) (.int .i64 (zxk y f))=(YU (Ju x f y)).toArray:=by
 rcases zab h with rfl | rfl | rfl | rfl | rfl | rfl | rfl | rfl<;>rfl
def zhe (v:List Int)(k:Nat)(l:Int):Prop:=(k=0→l=0)∧∀ y,v[k-1]? =some y→k≠0→l=y
theorem za2 {v:List Int}{k:Nat}{x:Int}(hx:v[k]? =some x):zhe v (k+1) x:=⟨fun h=>by omega,fun y hy _=>by simp at hy;rw [hx] at hy;cases hy;rfl⟩
theorem zv5 {id:Int}{v:List Int}{k:Nat}{l x:Int}(hall:(List.range k).all (ndP id v)=true)(hl:zhe v k l)(hx:v[k]? =some x):ndP id v k= !(decide (x≤l)||decide (x≥id)):=by
 unfold ndP
 rw [QU hx]
 cases k with
 | zero=>
  rw [hl.1 rfl]
  rw [Bool.eq_iff_iff];simp;omega
 | succ k=>
  have hk:=(List.getElem?_eq_some_iff.1 hx).1
  have hy:v[k]? =some (v[k]'(by omega)):=List.getElem?_eq_getElem _
  have e:=hl.2 _ (by rw [Nat.add_sub_cancel];exact hy) (by omega)
  rw [show (((k+1:Nat):Int)-1).toNat=k by omega,QU hy,←e]
  have h1:1≤l:=by
   rw [List.all_eq_true] at hall
   have:=hall k (List.mem_range.2 (by omega))
   unfold ndP at this
   rw [QU hy] at this
   simp at this
   omega
  rw [Bool.eq_iff_iff];simp;omega
theorem zwb {p:Pt}(h:p.needs.length>32):Ko p=2:=by unfold Ko;rw [if_pos h]
theorem zvE {p:Pt}(h:¬p.needs.length>32)(h2:ndB p.id p.needs=false):Ko p=370:=by unfold Ko;rw [if_neg h,h2];rfl
theorem zdb {p:Pt}(h:¬p.needs.length>32)(h2:ndB p.id p.needs=true)(h3:(idB p&&UU p)=false):Ko p=370:=by unfold Ko;rw [if_neg h,h2,h3];rfl
theorem zgf {p:Pt}(h:¬p.needs.length>32)(h2:ndB p.id p.needs=true)(h3:(idB p&&UU p)=true):Ko p=0:=by unfold Ko;rw [if_neg h,h2,h3];rfl
theorem zuU {p:Pt}(h:p.kind=1)(h2:Yy p.field 1 9=true):UU p=(WK (Ju p.nw p.field YC) YC&&frm (Ju zgD p.field p.nw)):=by unfold UU;rw [if_pos h,h2,Bool.true_and]
theorem zub {p:Pt}(h:p.kind=1)(h2:Yy p.field 1 9=false):(idB p&&UU p)=false:=by unfold UU;rw [if_pos h,h2,Bool.false_and,Bool.and_false]
theorem zwm {p:Pt}(h:p.kind=2):UU p=(p.field==0&&(p.nw.id==p.sign&&frm p.nw)):=by unfold UU;rw [if_neg (by omega),if_pos h]
theorem zwo {p:Pt}(h:p.kind=3):UU p=(p.field==0&&WK p.nw YC):=by unfold UU;rw [if_neg (by omega),if_neg (by omega),if_pos h]
theorem zyf {p:Pt}(h1:p.kind≠1)(h2:p.kind≠2)(h3:p.kind≠3):(idB p&&UU p)=false:=by unfold UU;rw [if_neg h1,if_neg h2,if_neg h3,Bool.and_false]
def zi7 (an ad bn bd:Int):Int:=if UO an ad&&UO bn bd then znf (an*bd) (bn*ad) else 0
theorem zel {fn fd tn td:Int}:(((zlw fn fd tn td==0)&&decide (zi7 fn fd tn td<0))&&decide (fn≥0)&&decide (tn≤td))=zet fn fd tn td:=by
 unfold zlw zi7 zet znf
 cases h:(UO fn fd&&UO tn td) with
 | false=>rfl
 | true=>
  simp only [if_true,Bool.true_and]
  by_cases h2:fn*td<tn*fd
  ·
   simp [h2]
  ·
   by_cases h3:fn*td>tn*fd<;>simp [h2,h3]
theorem zdV {xs:List Sg}{k:Nat}{x:Sg}(hx:xs[k]? =some x):skP xs k= !(!frm x||(decide ((k:Int)>0)&&decide ((xs.getD ((k:Int)-1).toNat YC).id≥x.id))):=by unfold skP;rw [QU hx]
end
section
open Go Go.Kn Go.Proofs
theorem znv (I:Qu)(x y:Int):Zy Tryz.prog 142 [.int .i64 x,.int .i64 y] I (.int .i64 (znf x y)):=by
 intro g H w hw
 refine qe Tryz.func142 Tryz.ntmps142 hw ?_
 refine zR (zA ?_)
 refine zN (zR ?_)
 refine zM ?_
 refine qc (vs:=[_]) rfl WW (zg5 I _) ?_
 refine zA ?_
 refine zN (zR ?_)
 refine zM ?_
 refine qc (vs:=[_]) rfl WW (zg5 I _) ?_
 refine zA (zN (Ql (zR ?_)))
 refine zM (zN ?_)
 refine zI ?_ ?_<;>intro hc11
 ·
  cases hc11
 refine Qn (Qa (Ql (zR (zM (zN ?_)))))
 refine zI ?_ ?_<;>intro hc13
 ·
  cases hc13
 refine Qn (Qa (Ql (zR (zM ?_))))
 refine zM ?_
 refine zC (zN ?_)
 refine zI ?_ ?_<;>intro hc16
 ·
  refine zR (zA (zN (Qt (Qc ?_))))
  exact zr rfl rfl (by unfold znf;first | (rw [if_pos (by simpa using hc16)]) | (rw [if_neg (by simpa using hc16),if_pos (by simpa using hc19)]) | (rw [if_neg (by simpa using hc16),if_neg (by simpa using hc19)]))
 refine Qn (Qa (Ql (zR (zM ?_))))
 refine zM ?_
 refine zC (zN ?_)
 refine zI ?_ ?_<;>intro hc19
 ·
  refine zR (zA (zN (Qt (Qc ?_))))
  exact zr rfl rfl (by unfold znf;first | (rw [if_pos (by simpa using hc16)]) | (rw [if_neg (by simpa using hc16),if_pos (by simpa using hc19)]) | (rw [if_neg (by simpa using hc16),if_neg (by simpa using hc19)]))
 refine Qn (Qa (zR (zA (zN (Qt ?_)))))
 exact zr rfl rfl (by unfold znf;first | (rw [if_pos (by simpa using hc16)]) | (rw [if_neg (by simpa using hc16),if_pos (by simpa using hc19)]) | (rw [if_neg (by simpa using hc16),if_neg (by simpa using hc19)]))
end
section
open Go Go.Kn Go.Proofs
theorem zkw (I:Qu)(an ad bn bd:Int):Zy Tryz.prog 237 [zbp (an) (ad),zbp (bn) (bd)] I (.tuple #[.int .i64 (zi7 an ad bn bd),.int .i64 (zlw an ad bn bd)]):=by
 intro g H w hw
 refine qe Tryz.func237 Tryz.ntmps237 hw ?_
 refine zR ?_
 refine Q2 rfl rfl rfl (fun b_2=>?_)
 refine Q2 rfl rfl rfl (fun b_3=>?_)
 refine zA ?_
 refine zA (zN (Ql (zR ?_)))
 refine zV (Qo rfl Vf (fun hg=>by exact Cells.g1) rfl) ?_
 refine qc (vs:=[_]) rfl zbI (XZ I _ _) ?_
 refine zC ?_
 refine zM ?_
 refine QR 3 rfl rfl rfl ?_
 refine zJ (Qo rfl Vf (fun hg=>by exact Cells.g0) rfl) ?_
 refine qf (vs:=[_]) rfl zbI (fun hg=>XZ I _ _) ?_
 refine zJ (QG rfl rfl rfl) ?_
 refine Zo rfl rfl rfl rfl rfl ?_
 refine zN ?_
 refine zI ?_ ?_<;>intro hc13
 ·
  have hb:(UO an ad&&UO bn bd)=false:=by have h:=hc13;rw [zcn,Bool.not_eq_true'] at h;exact h
  refine zR (zA ?_)
  refine zA (zN (Qt (Qc ?_)))
  exact ZA rfl rfl rfl (fun w hw=>⟨by unfold zi7 zlw;rw [hb];rfl,hw.drop⟩)
 have hb:(UO an ad&&UO bn bd)=true:=by have h:=hc13;rw [zcn,Bool.not_eq_false'] at h;exact h
 have ⟨ha1,ha2⟩:=zcy (Bool.and_eq_true .. ▸ hb).1
 have ⟨hb1,hb2⟩:=zcy (Bool.and_eq_true .. ▸ hb).2
 refine Qn (Qa (zR ?_))
 refine zF Vw ?_
 refine zL Qr ?_
 refine zF Jd ?_
 refine zL Qr ?_
 refine zV (ZR rfl rfl rfl (fun _=>by exact znH (by omega) (by omega))) ?_
 refine zF Vw ?_
 refine zL Qr ?_
 refine zF Jd ?_
 refine zL Qr ?_
 refine zV (ZR rfl rfl rfl (fun _=>by exact znH (by omega) (by omega))) ?_
 refine qc (vs:=[_,_]) rfl zeK (znv I _ _) ?_
 refine zA ?_
 refine zA (zN (Qt ?_))
 exact ZA rfl rfl rfl (fun w hw=>⟨by unfold zi7 zlw;rw [hb];rfl,hw.drop⟩)
theorem zjO (I:Qu)(an ad bn bd:Int):Zy Tryz.prog 203 [zbp (an) (ad),zbp (bn) (bd)] I (.bool (zet an ad bn bd)):=by
 intro g H w hw
 refine qe Tryz.func203 Tryz.ntmps203 hw ?_
 refine zR ?_
 refine Q2 rfl rfl rfl (fun b_2=>?_)
 refine Q2 rfl rfl rfl (fun b_3=>?_)
 refine zA ?_
 refine zN (zR ?_)
 refine zV (Qo rfl Vf (fun hg=>by exact Cells.g1) rfl) ?_
 refine zV (Qo rfl Vf (fun hg=>by exact Cells.g0) rfl) ?_
 refine qc (vs:=[_,_]) rfl zjF (zkw I _ _ _ _) ?_
 refine zM ?_
 refine zE ?_
 refine zE ?_
 refine zA ?_
 refine zA ?_
 refine zN (zR ?_)
 refine zM ?_
 refine zC ?_
 refine zM ?_
 refine QH 2 rfl rfl rfl ?_
 refine zK (Qi rfl) ?_
 refine zK (QG rfl rfl rfl) ?_
 refine QP rfl rfl rfl rfl rfl ?_
 refine zM ?_
 refine QH 6 rfl rfl rfl ?_
 refine zK (Qd rfl Vw) ?_
 refine zK (Qe rfl Qr (fun hg=>by exact QT.h1 rfl)) ?_
 refine zK (QG rfl rfl rfl) ?_
 refine QP rfl rfl rfl rfl rfl ?_
 refine zM ?_
 refine QH 11 rfl rfl rfl ?_
 refine zK (Qd rfl Vw) ?_
 refine zK (Qe rfl Qr (fun hg=>by exact QT.h0 rfl)) ?_
 refine zK (Qd rfl Jd) ?_
 refine zK (Qe rfl Qr (fun hg=>by exact QT.h0 rfl)) ?_
 refine zK (QG rfl rfl rfl) ?_
 refine QP rfl rfl rfl rfl rfl ?_
 refine zA (zN (Qt ?_))
 exact zr rfl rfl (by rw [←zel])
theorem zr4 (I:Qu)(x:Sg):Zy Tryz.prog 154 [JO x] I (.bool (frm x)):=by
 intro g H w hw
 refine qe Tryz.func154 Tryz.ntmps154 hw ?_
 refine zR ?_
 refine Q2 rfl rfl rfl (fun b_1=>?_)
 refine zA ?_
 refine zN (zR ?_)
 refine zF ZM ?_
 refine zL Qr ?_
 refine qc (vs:=[_,_,_]) rfl Yi (ZU I _ _ _) ?_
 refine zM ?_
 refine QH 3 rfl rfl rfl ?_
 refine zK (Qd rfl Jo) ?_
 refine zK (Qe rfl Qr (fun hg=>by exact QT.h0 rfl)) ?_
 refine qg (vs:=[_,_,_]) rfl Yi (fun hg=>ZU I _ _ _) ?_
 refine QP rfl rfl rfl rfl rfl ?_
 refine zM ?_
 refine QH 8 rfl rfl rfl ?_
 refine zK (Qd rfl Je) ?_
 refine zK (Qe rfl Qr (fun hg=>by exact QT.h0 rfl)) ?_
 refine qg (vs:=[_,_,_]) rfl Yi (fun hg=>ZU I _ _ _) ?_
 refine QP rfl rfl rfl rfl rfl ?_
 refine zM ?_
 refine QH 13 rfl rfl rfl ?_
 refine zK (Qd rfl XS) ?_
 refine zK (Qe rfl Qr (fun hg=>by exact QT.h0 rfl)) ?_
 refine qg (vs:=[_,_,_]) rfl Yi (fun hg=>ZU I _ _ _) ?_
 refine QP rfl rfl rfl rfl rfl ?_
 refine zM ?_
 refine QH 18 rfl rfl rfl ?_
 refine zK (Qd rfl Y4) ?_
 refine zK (Qe rfl Qr (fun hg=>by exact QT.h0 rfl)) ?_
 refine qg (vs:=[_,_,_]) rfl Yi (fun hg=>ZU I _ _ _) ?_
 refine QP rfl rfl rfl rfl rfl ?_
 refine zM ?_
 refine QH 23 rfl rfl rfl ?_
 refine zK (Qd rfl Jr) ?_
 refine zK (Qe rfl Qr (fun hg=>by exact QT.h0 rfl)) ?_
 refine qg (vs:=[_,_,_]) rfl Yi (fun hg=>ZU I _ _ _) ?_
 refine QP rfl rfl rfl rfl rfl ?_
 refine zM ?_
 refine QH 28 rfl rfl rfl ?_
 refine zK (Qd rfl Jj) ?_
 refine zK (Qe rfl Qr (fun hg=>by exact QT.h0 rfl)) ?_
 refine qg (vs:=[_,_,_]) rfl Yi (fun hg=>ZU I _ _ _) ?_
 refine QP rfl rfl rfl rfl rfl ?_
 refine zM ?_
 refine QH 33 rfl rfl rfl ?_
 refine zK (Qd rfl Jm) ?_
 refine zK (Qe rfl Qr (fun hg=>by exact QT.h0 rfl)) ?_
 refine qg (vs:=[_,_,_]) rfl Yi (fun hg=>ZU I _ _ _) ?_
 refine QP rfl rfl rfl rfl rfl ?_
 refine zM ?_
 refine QH 38 rfl rfl rfl ?_
 refine zK (Qd rfl Jf) ?_
 refine zK (Qe rfl Qr (fun hg=>by exact QT.h0 rfl)) ?_
 refine qg (vs:=[_,_,_]) rfl Yi (fun hg=>ZU I _ _ _) ?_
 refine QP rfl rfl rfl rfl rfl ?_
 refine zM ?_
 refine QH 43 rfl rfl rfl ?_
 refine zK (Qd rfl Jp) ?_
 refine zK (Qe rfl Qr (fun hg=>by exact QT.h0 rfl)) ?_
 refine qg (vs:=[_,_,_]) rfl Yi (fun hg=>ZU I _ _ _) ?_
 refine QP rfl rfl rfl rfl rfl ?_
 refine zM ?_
 refine QH 48 rfl rfl rfl ?_
 refine zK (Qd rfl YZ) ?_
 refine zK (Qo rfl Vf (fun hg=>by exact Cells.s0 (vs:=[_,_]) rfl) rfl) ?_
 refine zK (Qd rfl Y2) ?_
 refine zK (Qo rfl Vf (fun hg=>by exact Cells.s0 (vs:=[_,_]) rfl) rfl) ?_
 refine qg (vs:=[_,_]) rfl zkR (fun hg=>zjO I _ _ _ _) ?_
 refine QP rfl rfl rfl rfl rfl ?_
 refine zA (zN (Qt ?_))
 exact zr rfl rfl (by rfl)
theorem zfD {I:Qu}{av:Option Addr}{n c:Nat}{xs:List Sg}(hS:Sl I 14 YU av n c xs)(hn:n≤100000):Zy Tryz.prog 102 [.slice av n c] I (.int .i64 (We xs)):=by
 intro g H w hw
 refine qe Tryz.func102 Tryz.ntmps102 hw ?_
 refine zR (zA (zN (Ql (zR ?_))))
 refine zM ?_
 refine zQ YW ?_
 refine zC (zN ?_)
 refine zI ?_ ?_<;>intro hc7
 ·
  have h6:xs.length>4096:=by rw [hS.len];simp at hc7;omega
  refine zR (zA (zN (Qt (Qc ?_))))
  first
  | exact zr rfl rfl (by unfold We;rw [if_pos h6])
 have h6:¬xs.length>4096:=by rw [hS.len];simp at hc7;omega
 refine Qn (Qa (Ql (zR (zM ?_))))
 refine zQ YW ?_
 refine zM (zN (Qm ?_))
 refine zU [(0,_),(8,_),(9,_)] (fun T L0 mz E I' loc'=>∃ (k:Nat),mz=n-k∧E=(10,.int .i64 k)::T∧I=I'∧L0=loc'∧k≤n∧(List.range k).all (skP xs)=true) ?_ (h:=⟨0,rfl,rfl,rfl,rfl,Nat.zero_le _,rfl⟩)
 rintro mz E I' loc' ⟨k,rfl,rfl,rfl,rfl,hk,hall⟩
 refine zR (zC (zN (Ql ?_)))
 refine zI ?_ ?_<;>intro hc11
 ·
  have hlt_k:k<n:=by have h:=hc11;simp at h;omega
  obtain ⟨x,hx⟩:=hS.at hlt_k
  refine Qn (Qa (Ql (Qm (zR (zM ?_)))))
  refine zV (QE rfl rfl YW (by assumption) (fun hg=>by omega)) ?_
  refine zV (Qo rfl Q9 (fun hg=>by exact zAi hS hx) rfl) ?_
  refine Qs Wv rfl rfl (fun b_4=>?_)
  refine zA ?_
  refine zh Ye ?_
  refine zN (Ql ?_)
  refine YF mixed (by kernel_rfl) ?_
  refine zq (Qo rfl Q9 (fun hg=>by exact Cells.g0) rfl) ?_
  refine JC (cap:=[]) (vs:=[_]) rfl rfl zjH (zr4 I _) rfl rfl ?_
  refine zq (Ve rfl) ?_
  refine zq (Qi rfl) ?_
  refine ZZ 3 rfl rfl rfl ?_
  refine zj (Qi rfl) ?_
  refine zj (QG rfl rfl rfl) ?_
  refine zj (Qi rfl) ?_
  refine JX 6 rfl rfl rfl ?_
  refine zk (Qi rfl) ?_
  refine zk (Qi rfl) ?_
  refine zk (ZR rfl rfl rfl (fun hg=>by omega)) ?_
  refine zk (QE rfl rfl YW (by assumption) (fun hg=>by (simp [ZY] at hg;omega))) ?_
  refine zk (Qd rfl ZM) ?_
  refine zk (Qe rfl Qr (fun hg=>by exact zAa (k:=((k:Int)-1).toNat) hS (Q4 (d:=YC) hS.len (by simp [ZY] at hg;omega)) rfl)) ?_
  refine zk (Qd rfl ZM) ?_
  refine zk (Qe rfl Qr (fun hg=>by exact QT.h0 rfl)) ?_
  refine zk (QG rfl rfl rfl) ?_
  refine zaC rfl rfl rfl (.some rfl rfl rfl rfl gbf) rfl rfl ?_
  refine VS rfl rfl rfl rfl rfl ?_
  refine YK ?_
  refine Qa ?_
  refine zI ?_ ?_<;>intro hc32
  ·
   refine zR (zA (zN (Qt (Qp (Qc (Qc (Qp ?_)))))))
   refine Qc ?_
   first
   | exact zr rfl rfl (by unfold We skB;rw [if_neg h6,Kd (k:=k) (by rw [hS.len];exact hlt_k) (by rw [zdV hx,hc32];rfl)];rfl)
  refine Qn (Qf (Qa (Qg (zB ?_))))
  refine zM (Qb ?_)
  exact zm (h:=⟨n-(k+1),by omega,k+1,rfl,rfl,rfl,rfl,by omega,Jv hall (by rw [zdV hx,hc32];rfl)⟩)
 have hge_k:n≤k:=by have h:=hc11;simp at h;omega
 refine QI (Qh (Qh (Qk (Qa (zR (zA (zN ?_)))))))
 refine Qt ?_
 first
 | exact zr rfl rfl (by unfold We skB;rw [if_neg h6,hS.len,show n=k by omega,hall];rfl)
theorem zaQ (I:Qu)(b:Nat):Zy Tryz.prog 196 [Zc b] I (.agg (zzJ b).toArray):=by
 intro g H w hw
 refine qe Tryz.func196 Tryz.ntmps196 hw ?_
 refine zR ?_
 refine Qs zoo rfl rfl (fun b_2=>?_)
 refine zN (Ql ?_)
 have hD:=zAh I
 refine Jl ?_
 refine Z0 I [] mixed ?_
 refine zT 0 rfl (Qi rfl) hD ?_
 refine zT 1 rfl (Q1 rfl) hD ?_
 refine zT 2 rfl (Qd rfl Jo) hD ?_
 refine zT 3 rfl (Qi rfl) hD ?_
 refine zT 4 rfl (Q1 rfl) hD ?_
 refine zT 5 rfl (Qd rfl Je) hD ?_
 refine zT 6 rfl (Qi rfl) hD ?_
 refine zT 7 rfl (Q1 rfl) hD ?_
 refine zT 8 rfl (Qd rfl Y4) hD ?_
 refine zT 9 rfl (Qi rfl) hD ?_
 refine zT 10 rfl (Q1 rfl) hD ?_
 refine zT 11 rfl (Qd rfl Jr) hD ?_
 refine zT 12 rfl (Qi rfl) hD ?_
 refine zT 13 rfl (Q1 rfl) hD ?_
 refine zT 14 rfl (Qd rfl Jj) hD ?_
 refine zT 15 rfl (Qi rfl) hD ?_
 refine zT 16 rfl (Q1 rfl) hD ?_
 refine zT 17 rfl (Qd rfl Jm) hD ?_
 refine zT 18 rfl (Qi rfl) hD ?_
 refine zT 19 rfl (Q1 rfl) hD ?_
 refine zT 20 rfl (Qd rfl Jf) hD ?_
 refine zT 21 rfl (Qi rfl) hD ?_
 refine zT 22 rfl (Q1 rfl) hD ?_
 refine zT 23 rfl (Qd rfl Jp) hD ?_
 refine zT 24 rfl (Zz (ps:=[(1,_),(2,_),(3,_),(4,_),(5,_),(6,_),(7,_),(8,_)]) [_,_,_,_,_,_,_,_,_] UG zoo rfl rfl) hD ?_
 refine qd 25 rfl ?_
 refine zh zqF ?_
 refine Qb ?_
 refine zD hD ?_
 refine QF (by kernel_rfl) ?_
 refine QO ?_
 refine Qa (Qt ?_)
 exact Ys rfl rfl zqN Cells.g0 rfl (fun w hw=>⟨rfl,hw.drop⟩)
theorem zuN (I:Qu)(x:Sg)(f:Int)(y:Sg)(hf:isF f):Zy Tryz.prog 146 [JO x,.int .i64 f,JO y] I (JO (Ju x f y)):=by
 intro g H w hw
 refine qe Tryz.func146 Tryz.ntmps146 hw ?_
 refine zR ?_
 refine Q2 rfl rfl rfl (fun b_3=>?_)
 refine Q2 rfl rfl rfl (fun b_5=>?_)
 refine Qs Wv rfl rfl (fun b_6=>?_)
 refine zN (Ql (zR (zM ?_)))
 refine zC (zN ?_)
 refine zI ?_ ?_<;>intro hc8
 ·
  have hf9:f=9:=by simpa using hc8
  refine zR ?_
  refine zF YZ ?_
  refine zV (Qo rfl Vf (fun hg=>by exact Cells.s1 (vs:=[_,_]) rfl) rfl) ?_
  refine zF Y2 ?_
  refine zV (Qo rfl Vf (fun hg=>by exact Cells.s1 (vs:=[_,_]) rfl) rfl) ?_
  refine zF YZ ?_
  refine Vm rfl rfl Xq rfl rfl rfl rfl (by repeat (first | exact Upd.here | apply Upd.there | apply QK)) ?_
  refine zF Y2 ?_
  refine Vm rfl rfl Xq rfl rfl rfl rfl (by repeat (first | exact Upd.here | apply Upd.there | apply QK)) ?_
  refine zN (zR ?_)
  refine zV (Qo rfl Q9 (fun hg=>by exact Cells.g2) rfl) ?_
  refine zh Ye ?_
  refine zN (Qt (Qc ?_))
  first
  | exact Ys rfl rfl Q9 Cells.g0 rfl (fun w hw=>⟨by rw [hf9];rfl,hw.drop⟩)
 have hf8:1≤f∧f≤8:=by have h:=hc8;unfold isF at hf;simp at h;omega
 refine Qn (Qa (Ql ?_))
 have hD:=zAh I
 refine Jl ?_
 refine Z0 I [(b_5,.cells (JO y).cells 54 (0,0))] mixed ?_
 refine zT 1 rfl (Qi rfl) hD ?_
 refine zT 4 rfl (Qi rfl) hD ?_
 refine qd 0 rfl ?_
 refine qc (vs:=[_]) rfl zes (zaQ I _) ?_
 refine Qb ?_
 refine zD hD ?_
 refine Zt 2 3 rfl rfl (by kernel_rfl) ?_ ?_
 ·
  refine zV (KA rfl rfl UG W9 (fun hg=>by omega) (fun hg=>zbe hf8 b_3)) ?_
  refine Qb ?_
  refine zD hD ?_
  refine qd 3 rfl ?_
  refine qc (vs:=[_]) rfl zes (zaQ I _) ?_
  refine Qb ?_
  refine zD hD ?_
  refine qd 5 rfl ?_
  refine zV (KA rfl rfl UG W9 (fun hg=>by omega) (fun hg=>zbe hf8 b_5)) ?_
  refine Qb ?_
  refine zD hD ?_
  refine zT 6 rfl (Q1 rfl) hD ?_
  refine zT 7 rfl (Qe rfl Qr (fun hg=>by exact QT.h0 (zeR hf8 y))) hD ?_
  refine zT 8 rfl (Q1 rfl) hD ?_
  refine qd 9 rfl ?_
  refine ZI rfl rfl Z2 rfl rfl Upd.u2 (by exact zpU) ?_
  rw [show (JO x).cells.setIfInBounds (foF f) (.int .i64 (zxk y f))=(YU (Ju x f y)).toArray from ziR hf8 x y]
  refine Qb ?_
  refine zD hD ?_
  refine QF (by kernel_rfl) ?_
  refine QO ?_
  refine Qa (zR ?_)
  refine zV (Qo rfl Q9 (fun hg=>by exact Cells.g2) rfl) ?_
  refine zh Ye ?_
  refine zN (Qt ?_)
  exact Ys rfl rfl Q9 Cells.g0 rfl (fun w hw=>⟨rfl,hw.drop⟩)
 refine qc (vs:=[_]) rfl zes (zaQ I _) ?_
 refine Qb ?_
 refine zD hD ?_
 refine Zt 2 5 rfl rfl (by kernel_rfl) ?_ ?_
 ·
  refine zV (KA rfl rfl UG W9 (fun hg=>by omega) (fun hg=>zbe hf8 b_3)) ?_
  refine Qb ?_
  refine zD hD ?_
  refine qd 5 rfl ?_
  refine zV (KA rfl rfl UG W9 (fun hg=>by omega) (fun hg=>zbe hf8 b_5)) ?_
  refine Qb ?_
  refine zD hD ?_
  refine zT 6 rfl (Q1 rfl) hD ?_
  refine zT 7 rfl (Qe rfl Qr (fun hg=>by exact QT.h0 (zeR hf8 y))) hD ?_
  refine zT 8 rfl (Q1 rfl) hD ?_
  refine qd 9 rfl ?_
  refine ZI rfl rfl Z2 rfl rfl Upd.u2 (by exact zpU) ?_
  rw [show (JO x).cells.setIfInBounds (foF f) (.int .i64 (zxk y f))=(YU (Ju x f y)).toArray from ziR hf8 x y]
  refine Qb ?_
  refine zD hD ?_
  refine QF (by kernel_rfl) ?_
  refine QO ?_
  refine Qa (zR ?_)
  refine zV (Qo rfl Q9 (fun hg=>by exact Cells.g2) rfl) ?_
  refine zh Ye ?_
  refine zN (Qt ?_)
  exact Ys rfl rfl Q9 Cells.g0 rfl (fun w hw=>⟨rfl,hw.drop⟩)
 refine zV (KA rfl rfl UG W9 (fun hg=>by omega) (fun hg=>zbe hf8 b_5)) ?_
 refine Qb ?_
 refine zD hD ?_
 refine zT 6 rfl (Q1 rfl) hD ?_
 refine zT 7 rfl (Qe rfl Qr (fun hg=>by exact QT.h0 (zeR hf8 y))) hD ?_
 refine qd 2 rfl ?_
 refine zV (KA rfl rfl UG W9 (fun hg=>by omega) (fun hg=>zbe hf8 b_3)) ?_
 refine Qb ?_
 refine zD hD ?_
 refine zT 8 rfl (Q1 rfl) hD ?_
 refine qd 9 rfl ?_
 refine ZI rfl rfl Z2 rfl rfl Upd.u2 (by exact zpU) ?_
 rw [show (JO x).cells.setIfInBounds (foF f) (.int .i64 (zxk y f))=(YU (Ju x f y)).toArray from ziR hf8 x y]
 refine Qb ?_
 refine zD hD ?_
 refine QF (by kernel_rfl) ?_
 refine QO ?_
 refine Qa (zR ?_)
 refine zV (Qo rfl Q9 (fun hg=>by exact Cells.g2) rfl) ?_
 refine zh Ye ?_
 refine zN (Qt ?_)
 exact Ys rfl rfl Q9 Cells.g0 rfl (fun w hw=>⟨rfl,hw.drop⟩)
end
section
open Go Go.Kn
theorem zgA (zs:List Int):zs.flatMap QQ=zs.map (Value.int .i64):=by
 induction zs with
 | nil=>rfl
 | cons z zs ih=>rw [List.flatMap_cons,ih];rfl
theorem zdW {zs ys:List Int}(hy:ys.Pairwise (· < ·))(h:∀ x,x∈zs↔x∈ys):Lib.compact (YL zs)=ys:=
 Xf (KY zs).1 hy fun a=>by rw [(KY zs).2,h]
end
section
open Go Go.Kn Go.Proofs
theorem zsz (i j:Nat)(h:i+j≤1000000):IntKind.i64.wrap ((IntKind.u64.wrap ((i:Int)+(j:Int))).fdiv (2^1))=(((i+j) / 2:Nat):Int):=by
 have h1:IntKind.u64.wrap ((i:Int)+(j:Int))=((i+j:Nat):Int):=by
  rw [show ((i:Int)+(j:Int))=((i+j:Nat):Int) by omega]
  exact zlf ⟨by omega,by omega⟩
 rw [h1,show ((2:Int)^1)=((2:Nat):Int) from rfl,Int.fdiv_eq_ediv_of_nonneg _ (by omega),←Int.natCast_ediv]
 exact zcz ⟨by omega,by omega⟩
theorem zvc {x y:Int}:decide (znf x y<0)=decide (x<y):=by
 unfold znf
 by_cases h:x<y
 ·
  rw [if_pos h];simp [h]
 ·
  rw [if_neg h];split<;>simp [h]
section
variable {α:Type} {key:α→Int} {xs:List α} {t:Int}
theorem zx3 (hs:xs.Pairwise (fun a b=>key a<key b)){h:Nat}{y:α}(hy:xs[h]? =some y)(hlt:key y<t):∀ q z,q<h+1→xs[q]? =some z→key z<t:=fun q z hq hz=>by
 obtain ⟨h1,h2⟩:=List.getElem?_eq_some_iff.1 hz
 obtain ⟨h3,h4⟩:=List.getElem?_eq_some_iff.1 hy
 by_cases e:q=h
 ·
  subst e;rw [hy] at hz;cases hz;exact hlt
 ·
  have:=List.pairwise_iff_getElem.1 hs q h h1 h3 (by omega)
  rw [h2,h4] at this;omega
theorem zyI (hs:xs.Pairwise (fun a b=>key a<key b)){h:Nat}{y:α}(hy:xs[h]? =some y)(hlt:¬key y<t):∀ q z,h≤q→xs[q]? =some z→¬key z<t:=fun q z hq hz=>by
 obtain ⟨h1,h2⟩:=List.getElem?_eq_some_iff.1 hz
 obtain ⟨h3,h4⟩:=List.getElem?_eq_some_iff.1 hy
 by_cases e:q=h
 ·
  subst e;rw [hy] at hz;cases hz;exact hlt
 ·
  have:=List.pairwise_iff_getElem.1 hs h q h3 h1 (by omega)
  rw [h2,h4] at this;omega
def zy8 (key:α→Int)(xs:List α)(t:Int):Nat:=(xs.takeWhile fun x=>decide (key x<t)).length
theorem zwR {i:Nat}(hi:i≤xs.length)(hlo:∀ q z,q<i→xs[q]? =some z→key z<t)(hhi:∀ q z,i≤q→xs[q]? =some z→¬key z<t):zy8 key xs t=i:=by
 unfold zy8
 have h1:(xs.take i).all (fun x=>decide (key x<t))=true:=by
  rw [List.all_eq_true]
  intro z hz
  obtain ⟨q,hq⟩:=List.getElem?_of_mem hz
  have hq1:q<i:=by have:=(List.getElem?_eq_some_iff.1 hq).1;rw [List.length_take] at this;omega
  rw [List.getElem?_take_of_lt hq1] at hq
  exact decide_eq_true (hlo q z hq1 hq)
 rw [(zuK h1 hi (fun y hy=>decide_eq_false (hhi i y (Nat.le_refl _) hy))).1,List.length_take];omega
theorem zmG {i n:Nat}{d:α}(hl:xs.length=n)(hlo:∀ q z,q<i→xs[q]? =some z→key z<t)(hhi:∀ q z,i≤q→xs[q]? =some z→¬key z<t)(hs:xs.Pairwise (fun a b=>key a<key b)):(decide ((i:Int)<(n:Int))&&(key (xs.getD i d)==t))=xs.any fun x=>key x==t:=by
 rw [Bool.eq_iff_iff,List.any_eq_true,Bool.and_eq_true]
 constructor
 ·
  rintro ⟨h1,h2⟩
  have hi:i<n:=by have:=of_decide_eq_true h1;omega
  exact ⟨_,List.mem_of_getElem? (Q4 hl hi),h2⟩
 ·
  rintro ⟨x,hx,e⟩
  have e:key x=t:=by simpa using e
  obtain ⟨q,hq⟩:=List.getElem?_of_mem hx
  have hqn:=(List.getElem?_eq_some_iff.1 hq).1
  have h1:i≤q:=by
   rcases Nat.lt_or_ge q i with h | h
   ·
    have:=hlo q x h hq;omega
   ·
    exact h
  have h2:q=i:=by
   by_cases e2:q=i
   ·
    exact e2
   ·
    have hy:=Q4 (d:=d) hl (show i<n by omega)
    obtain ⟨h3,h4⟩:=List.getElem?_eq_some_iff.1 hq
    obtain ⟨h5,h6⟩:=List.getElem?_eq_some_iff.1 hy
    have h7:=List.pairwise_iff_getElem.1 hs i q h5 h3 (by omega)
    rw [h4,h6] at h7
    have:=hhi i _ (Nat.le_refl _) hy
    omega
  subst h2
  refine ⟨decide_eq_true (by omega),?_⟩
  rw [QU hq,e];simp
end
instance : Inhabited Sg := ⟨YC⟩
def zpo (a b:Sg):Int:=znf a.id b.id
theorem ltG (a b:Sg):Go.Proofs.ltOf zpo a b=decide (a.id<b.id):=by unfold Go.Proofs.ltOf zpo;exact zvc
theorem zz2:Go.Sort.SWO (Go.Proofs.ltOf zpo) where
 irrefl:=fun x=>by rw [ltG];simp
 trans:=fun x y z h1 h2=>by rw [ltG] at*;simp at*;omega
 ntrans:=fun x y z h1 h2=>by rw [ltG] at*;simp at*;omega
theorem zmM {zs zs':List Sg}(hp:zs'.Perm zs)(hs:zs'.Pairwise (fun x y=>Go.Proofs.ltOf zpo y x=false))(hn:(zs.map (·.id)).Nodup):Srt zs':=by
 have hn':(zs'.map (·.id)).Nodup:=(hp.map (·.id)).nodup_iff.2 hn
 unfold Srt
 have h2:zs'.Pairwise (fun a b=>a.id≠b.id):=List.pairwise_map.1 hn'
 refine (hs.and h2).imp fun {a b} h=>?_
 have:=h.1
 rw [ltG] at this
 simp at this
 have:=h.2
 omega
end
section
open Go Go.Kn Go.Proofs
def ztC (v:List Int)(i:Nat):Bool:= !(decide ((i:Int)>0)&&decide (v.getD i 0≤v.getD ((i:Int)-1).toNat 0))
theorem zlk {v:List Int}:zqh v=(List.range v.length).all (ztC v):=rfl
theorem zkx (v:List Int):(List.range 1).all (ztC v)=true:=by simp [ztC]
theorem zlr {v:List Int}{k:Nat}{x:Int}(hx:v[k]? =some x)(h:1≤k):ztC v k= !decide (x≤v.getD ((k:Int)-1).toNat 0):=by
 unfold ztC
 rw [QU hx,decide_eq_true (show (k:Int)>0 by omega),Bool.true_and]
theorem zjc {p:Nat→Bool}{n k:Nat}(h:(List.range k).all p=true)(hn:n≤k):(List.range n).all p=true:=by
 rw [List.all_eq_true] at*
 intro i hi
 exact h i (List.mem_range.2 (Nat.lt_of_lt_of_le (List.mem_range.1 hi) hn))
end
section
open Go Go.Kn Go.Proofs
theorem zwn (e:Nat)(zs:List Int){v:Value}{n:Nat}{L:Go.Kn.Loc}(hO:OwnS e 1 v n (zs.map (Value.int .i64)) L)(hn:n≤1000000)(I:Qu):
  Yf Tryz.prog 64 [v] I L (fun u I' L'=>u= .tuple #[]∧I'=I∧OwnS e 1 v n ((YL zs).map (Value.int .i64)) L'):=
 zji Tryz.slices_Sort_int Tryz.slices_Sort_int_none zs hO hn I
theorem zib (e:Nat)(zs:List Int){v:Value}{n:Nat}{L:Go.Kn.Loc}(hO:OwnS e 1 v n (zs.map (Value.int .i64)) L)(hn:n≤1000000)(I:Qu):
  Yf Tryz.prog 91 [v] I L (fun u I' L'=>I'=I∧OwnS e 1 u (Lib.compact zs).length ((Lib.compact zs).map (Value.int .i64)) L'):=
 zbc Lib.compact Lib.compact_length_le rfl Tryz.slices_Compact_int Tryz.slices_Compact_int_empty zs hO hn I
theorem zum (I:Qu)(x y:Sg):Zy Tryz.prog 141 [JO x,JO y] I (.int .i64 (zpo x y)):=by
 intro g H w hw
 refine qe Tryz.func141 Tryz.ntmps141 hw ?_
 refine zR ?_
 refine Q2 rfl rfl rfl (fun b_2=>?_)
 refine Q2 rfl rfl rfl (fun b_3=>?_)
 refine zA ?_
 refine zN (zR ?_)
 refine zF ZM ?_
 refine zL Qr ?_
 refine zF ZM ?_
 refine zL Qr ?_
 refine qc (vs:=[_,_]) rfl zeK (znv I _ _) ?_
 refine zA (zN (Qt ?_))
 exact zr rfl rfl (by rfl)
theorem zrl (e:Nat)(zs:List Sg){v:Value}{n:Nat}{L:Go.Kn.Loc}(hO:OwnS e 14 v n (zs.flatMap YU) L)(hn:n≤1000000)(I:Qu):
  Yf Tryz.prog 140 [v,.func (.func 141) #[] #[]] I L (fun u I' L'=>u= .tuple #[]∧I'=I∧∃ zs':List Sg,zs'.Perm zs∧zs'.Pairwise (fun x y=>Go.Proofs.ltOf zpo y x=false)∧OwnS e 14 v n (zs'.flatMap YU) L'):=
 zmd Z6 (by decide) (fun blk off cap d w hC hH hb hs=>Tryz.slices_SortFunc 14 (fun w=>Y7 Q9) (fun w=>by obtain ⟨i,hi,hz⟩:=Ye;rw [←hz];exact Go.Kn.run_sizeOf hi) YU Z6 (fun x=>JB (by rfl)) zpo zz2 141 #[] blk off cap d w (fun args w=>VW zr6 args w) hC hH hb hs)
  (Tryz.slices_SortFunc_none (α:=Sg)) (fun I x y=>zum I x y) zs hO hn I
theorem zpl (I:Qu)(x:Int):Zy Tryz.prog 190 [.int .i64 x] I (.bool false):=by
 intro g H w hw
 refine qe Tryz.func190 Tryz.ntmps190 hw ?_
 refine zR (zA ?_)
 refine zN (zR ?_)
 refine zM ?_
 refine zM ?_
 refine zC ?_
 refine zA (zN (Qt ?_))
 exact zr rfl rfl (by simp)
theorem zwB (I:Qu)(x y:Int):Zy Tryz.prog 161 [.int .i64 x,.int .i64 y] I (.bool (decide (x<y))):=by
 intro g H w hw
 refine qe Tryz.func161 Tryz.ntmps161 hw ?_
 refine zR (zA ?_)
 refine zN (zR ?_)
 refine zM ?_
 refine qc (vs:=[_]) rfl WW (zg5 I _) ?_
 refine zM ?_
 refine QH 2 rfl rfl rfl ?_
 refine zK (Qi rfl) ?_
 refine qg (vs:=[_]) rfl WW (fun hg=>zg5 I _) ?_
 refine zK (Ve rfl) ?_
 refine QP rfl rfl rfl rfl rfl ?_
 refine zM ?_
 refine QR 7 rfl rfl rfl ?_
 refine zJ (Qi rfl) ?_
 refine zJ (Qi rfl) ?_
 refine zJ (QG rfl rfl rfl) ?_
 refine Zo rfl rfl rfl rfl rfl ?_
 refine zA (zN (Qt ?_))
 exact zr rfl rfl (by rfl)
theorem zyw {I:Qu}{av:Option Addr}{n c:Nat}{xs:List Int}(hS:Sl I 1 QQ av n c xs)(hn:n≤100000)(hs:xs.Pairwise (· < ·))(t:Int):Zy Tryz.prog 139 [.slice av n c,.int .i64 t] I (.tuple #[.int .i64 (zy8 (fun x:Int=>x) xs t:Nat),.bool (xs.any fun x=>x==t)]):=by
 intro g H w hw
 refine qe Tryz.func139 Tryz.ntmps139 hw ?_
 refine zR (zA ?_)
 refine zA ?_
 refine zN (zR ?_)
 refine zM ?_
 refine zQ Qw ?_
 refine zA ?_
 refine zN (zR ?_)
 refine zM ?_
 refine zA ?_
 refine zA (zN (Ql (Qm ?_)))
 refine zU [(0,_),(1,_),(6,_)] (fun T L0 mz E I' loc'=>∃ (i j:Nat),mz=j-i∧E=(7,.int .i64 i)::(8,.int .i64 j)::T∧I=I'∧L0=loc'∧i≤j∧j≤n∧(∀ q z,q<i→xs[q]? =some z→z<t)∧∀ q z,j≤q→xs[q]? =some z→¬z<t) ?_ (h:=⟨0,n,rfl,rfl,rfl,rfl,Nat.zero_le _,Nat.le_refl _,fun q z h=>absurd h (by omega),fun q z h1 h2=>by have:=(List.getElem?_eq_some_iff.1 h2).1;rw [hS.len] at this;omega⟩)
 rintro mz E I' loc' ⟨i,j,rfl,rfl,rfl,rfl,hij,hjn,hlo,hhi⟩
 refine Ql (zR (zM ?_))
 refine zM ?_
 refine zC (zN ?_)
 refine zI ?_ ?_<;>intro hc15
 ·
  have hlt:i<j:=by have h:=hc15;simp at h;omega
  obtain ⟨y,hy⟩:=hS.at (k:=(i+j) / 2) (by omega)
  refine Qn (Qa (Qm (zR (zM ?_))))
  refine zM ?_
  refine zB ?_
  refine zV (JW rfl K6) ?_
  refine zV (zj3 rfl rfl (by decide) (rfl:min _ _=1)) ?_
  refine zV (JW rfl zjN) ?_
  refine zA (Qb ?_)
  rw [zsz i j (by omega)]
  refine Qa (zR (zM ?_))
  refine zM ?_
  refine zV (QE rfl rfl Qw (by assumption) (fun hg=>by omega)) ?_
  refine zV (Qe rfl Qr (fun hg=>by exact zAa (k:=(i+j) / 2) hS hy rfl)) ?_
  refine zM ?_
  refine qc (vs:=[_,_]) rfl ztr (zwB I _ _) ?_
  refine zN ?_
  refine zI ?_ ?_<;>intro hc27
  ·
   refine Qg (zM ?_)
   refine zB ?_
   refine zA (Qb (Qf ?_))
   exact zm (h:=⟨j-((i+j) / 2+1),by omega,(i+j) / 2+1,j,rfl,rfl,rfl,rfl,by omega,hjn,zx3 (key:=fun x:Int=>x) hs hy (by simpa using hc27),hhi⟩)
  refine Qg (zM ?_)
  refine zA (Qb (Qf ?_))
  exact zm (h:=⟨(i+j) / 2-i,by omega,i,(i+j) / 2,rfl,rfl,rfl,rfl,by omega,by omega,hlo,zyI (key:=fun x:Int=>x) hs hy (by simpa using hc27)⟩)
 have hge:j≤i:=by have h:=hc15;simp at h;omega
 have hje:j=i:=by omega
 subst hje
 refine QI (Qh (Qh (Qk (Qa (zR (zM ?_))))))
 refine zM ?_
 refine zM ?_
 refine zC ?_
 refine zM ?_
 refine QH 4 rfl rfl rfl ?_
 refine zK (Qi rfl) ?_
 refine zK (Qi rfl) ?_
 refine zK (QE rfl rfl Qw (by assumption) (fun hg=>by (simp [ZY] at hg;omega))) ?_
 refine zK (Qe rfl Qr (fun hg=>by exact Sl.getD0 (k:=j) (d:=0) hS (by simp [ZY] at hg;omega) rfl)) ?_
 refine zK (Qi rfl) ?_
 refine zK (QG rfl rfl rfl) ?_
 refine zK (Qi rfl) ?_
 refine QR 11 rfl rfl rfl ?_
 refine zJ (Qi rfl) ?_
 refine zJ (Qi rfl) ?_
 refine zJ (QE rfl rfl Qw (by assumption) (fun hg=>by (simp [ZY] at hg;omega))) ?_
 refine zJ (Qe rfl Qr (fun hg=>by exact Sl.getD0 (k:=j) (d:=0) hS (by simp [ZY] at hg;omega) rfl)) ?_
 refine qf (vs:=[_]) rfl zhN (fun hg=>zpl I _) ?_
 refine zJ (Qi rfl) ?_
 refine QH 17 rfl rfl rfl ?_
 refine zK (Qi rfl) ?_
 refine qg (vs:=[_]) rfl zhN (fun hg=>zpl I _) ?_
 refine zjI rfl rfl rfl (.some rfl rfl rfl rfl gbf) rfl rfl ?_
 refine zph rfl rfl rfl (.some rfl rfl rfl rfl gbt) rfl rfl ?_
 refine QP rfl rfl rfl rfl rfl ?_
 refine zA ?_
 refine zA (zN (Qt ?_))
 exact ZA rfl rfl rfl (fun w hw=>⟨by rw [←zmG (key:=fun x:Int=>x) (d:=0) hS.len hlo hhi hs,zwR (key:=fun x:Int=>x) (by rw [hS.len];omega) hlo hhi];simp,hw.drop⟩)
theorem zwY {I:Qu}{av:Option Addr}{n c:Nat}{xs:List Int}(hS:Sl I 1 QQ av n c xs)(hn:n≤100000):Zy Tryz.prog 149 [.slice av n c] I (.bool (zqh xs)):=by
 intro g H w hw
 refine qe Tryz.func149 Tryz.ntmps149 hw ?_
 refine zR (zA (zN (Ql (zR ?_))))
 refine zA (zN (Qm ?_))
 refine zU [(0,_)] (fun T L0 mz E I' loc'=>∃ (k:Nat),mz=(max n 1)-k∧E=(3,.int .i64 k)::T∧I=I'∧L0=loc'∧k≤(max n 1)∧1≤k∧(List.range k).all (ztC xs)=true) ?_ (h:=⟨1,rfl,rfl,rfl,rfl,by omega,Nat.le_refl _,zkx xs⟩)
 rintro mz E I' loc' ⟨k,rfl,rfl,rfl,rfl,hk,h1,hall⟩
 refine Ql (zR (zM ?_))
 refine zM ?_
 refine zQ Qw ?_
 refine zC (zN ?_)
 refine zI ?_ ?_<;>intro hc7
 ·
  have hlt_k:k<n:=by have h:=hc7;simp at h;omega
  obtain ⟨x,hx⟩:=hS.at hlt_k
  refine Qn (Qa (Ql (Qm (Ql ?_))))
  refine YF mixed (by kernel_rfl) ?_
  refine zq (Qi rfl) ?_
  refine zq (Qi rfl) ?_
  refine zq (QE rfl rfl Qw (by assumption) (fun hg=>by omega)) ?_
  refine zq (Qe rfl Qr (fun hg=>by exact zAa (k:=k) hS hx rfl)) ?_
  refine zq (Qi rfl) ?_
  refine zq (Qi rfl) ?_
  refine zq (ZR rfl rfl rfl (fun _=>by omega)) ?_
  refine zq (QE rfl rfl Qw (by assumption) (fun hg=>by omega)) ?_
  refine zq (Qe rfl Qr (fun hg=>by exact Sl.getD0 (k:=((k:Int)-1).toNat) (d:=0) hS (by omega) rfl)) ?_
  refine zq (QG rfl rfl rfl) ?_
  refine YK ?_
  refine Qa ?_
  refine zI ?_ ?_<;>intro hc19
  ·
   refine zR (zA (zN (Qt (Qp (Qc (Qc (Qp ?_)))))))
   refine Qc ?_
   first
   | exact zr rfl rfl (by rw [zlk,Kd (k:=k) (by rw [hS.len];exact hlt_k) (by rw [zlr hx h1,hc19];rfl)])
  refine Qn (Qf (Qa (Qg (zM ?_))))
  refine zB ?_
  refine zA (Qb ?_)
  exact zm (h:=⟨(max n 1)-(k+1),by omega,k+1,rfl,rfl,rfl,rfl,by omega,by omega,Jv hall (by rw [zlr hx h1,hc19];rfl)⟩)
 have hge_k:n≤k:=by have h:=hc7;simp at h;omega
 refine QI (Qh (Qh (Qk (Qa (zR (zA (zN ?_)))))))
 refine Qt ?_
 exact zr rfl rfl (by rw [zlk,hS.len,zjc hall (show n≤k from hge_k)])
theorem zmo {I:Qu}{av:Option Addr}{n c:Nat}{xs:List Sg}(hS:Sl I 14 YU av n c xs)(hn:n≤400000):Yf Tryz.prog 138 [.slice av n c] I [] (fun v I' L=>I'=I∧OwnS 54 14 v n (xs.flatMap YU) L):=by
 intro g H w hw
 refine qe Tryz.func138 Tryz.ntmps138 hw ?_
 refine zR (zA (zN (Ql (zR ?_))))
 refine zM ?_
 refine zV (X1 rfl rfl YW) ?_
 refine zN ?_
 refine zI ?_ ?_<;>intro hc4
 ·
  have hn0:n=0:=Decidable.byContradiction fun h=>by have:=hS.base h;rw [this] at hc4;cases hc4
  have hl:=hS.len
  subst hn0
  have hx0:=List.eq_nil_of_length_eq_zero hl
  subst hx0
  refine zR (zA (zN (Qt (Qc ?_))))
  exact Zx rfl rfl (fun w hw=>⟨_,I,_,rfl,zAh _,hw,rfl,OwnS.nil⟩)
 refine Qn (Qa (zR ?_))
 refine Qq (ps:=[]) (m:=[]) Uz rfl (.nil) rfl (by simp) (by decide) (by decide) rfl rfl (fun b_5=>?_)
 refine zM ?_
 refine QY (v:=_) (ys:=xs.flatMap YU) (L:=[(b_5,_)]) rfl rfl Uz OwnS.new (by repeat (first | exact .cons .here .nil | exact QD | exact Qx | apply QC | apply QB)) (hS.src Z6) (znb _) (by omega) rfl rfl ?_
 intro v1 L1 hO1 _;rw [List.nil_append,Nat.zero_add] at hO1
 refine zA (zN (Qt ?_))
 exact Zx rfl rfl (fun w hw=>⟨_,I,_,rfl,zAh _,hw.subL Zj,rfl,hO1⟩)
theorem zqw {I:Qu}{av:Option Addr}{n c:Nat}{xs:List Int}(hS:Sl I 1 QQ av n c xs)(hn:n≤400000){bv:Option Addr}{n2 c2:Nat}{ys:List Int}(hT:Sl I 1 QQ bv n2 c2 ys)(hn2:n2≤100000):Yf Tryz.prog 50 [.slice av n c,.slice bv n2 c2] I [] (zbv 1 QQ (Lib.compact (YL (xs++ys)))):=by
 intro g H w hw
 refine qe Tryz.func50 Tryz.ntmps50 hw ?_
 have hIc:=zAh I
 refine zR (zA ?_)
 refine zN (zR ?_)
 refine zM ?_
 refine Qz (cap:=[]) (vs:=[_]) rfl rfl zld .nil (zbw hS hn) rfl rfl ?_
 rintro vv1 I1 L1 hI1 ⟨rfl,hO⟩
 have hT:=hT.mono hI1;have hIc:=hIc.trans hI1
 refine zM ?_
 refine QY (v:=_) (ys:=ys.flatMap QQ) (L:=_) rfl rfl Zh hO Qx (hT.src Qv) (Kk _) (by omega) rfl rfl ?_
 intro v2 L2 hO2 _;rw [←List.flatMap_append,zgA] at hO2
 refine zA ?_
 refine zN (zR ?_)
 refine zM ?_
 refine Qz (cap:=[]) (vs:=[_]) rfl rfl ziX Qx (zwn 3 (xs++ys) hO2 (by omega) _) rfl rfl ?_
 rintro vv2 I2 L2 hI2 ⟨rfl,rfl,hO3⟩
 have hIc:=hIc.trans hI2
 refine zN (zR ?_)
 refine zM ?_
 refine Qz (cap:=[]) (vs:=[_]) rfl rfl zpk Qx (zib 3 _ hO3 (by omega) _) rfl rfl ?_
 rintro vv3 I3 L3 hI3 ⟨rfl,hO4⟩
 have hIc:=hIc.trans hI3
 refine zA (zN (Qt ?_))
 rw [←zgA] at hO4
 exact Zx rfl rfl (fun w hw=>by obtain ⟨I9,h91,h92,h93⟩:=OwnS.res hO4 Qv (by decide) (hw.subL (by exact Zj));exact ⟨_,I9,[],rfl,hIc.trans h91,h92,h93⟩)
end
section
open Go Go.Kn Go.Proofs
def zcP (b:Nat):Value:=.map (some b)
structure zaz (s:List (Int×Bool))(A:Int→Bool):Prop where
 nodup:(s.map (·.1)).Nodup
 all:∀ q∈s,q.2=true
 mem:∀ x,zdn s x=A x
theorem zaz.nil:zaz [] (fun _=>false):=⟨.nil,(fun q hq=>by cases hq),fun _=>rfl⟩
theorem zaz.put {s:List (Int×Bool)}{A:Int→Bool}(h:zaz s A)(a:Int):zaz (YA s a true) (fun x=>decide (a=x)||A x) where
 nodup:=WV a true h.nodup
 all:=by
  have key:∀ (s:List (Int×Bool)),(∀ q∈s,q.2=true)→∀ q∈YA s a true,q.2=true:=by
   intro s
   induction s with
   | nil=>intro _ q hq;simp [YA] at hq;rw [hq]
   | cons p s ih=>
    intro h q hq
    unfold YA at hq
    split at hq
    ·
     rcases List.mem_cons.1 hq with rfl | hq
     ·
      rfl
     ·
      exact h q (List.mem_cons_of_mem _ hq)
    ·
     rcases List.mem_cons.1 hq with rfl | hq
     ·
      exact h _ (List.mem_cons_self ..)
     ·
      exact ih (fun q hq=>h q (List.mem_cons_of_mem _ hq)) q hq
  exact key s h.all
 mem:=fun x=>by rw [WG,h.mem]
theorem zaz.congr {s:List (Int×Bool)}{A B:Int→Bool}(h:zaz s A)(e:∀ x,A x=B x):zaz s B:=⟨h.nodup,h.all,fun x=>by rw [h.mem,e]⟩
theorem zaz.key {s:List (Int×Bool)}{A:Int→Bool}(h:zaz s A){x:Int}:A x=true↔x∈s.map (·.1):=by
 rw [←h.mem]
 unfold zdn
 constructor
 ·
  intro h1
  cases hg:ZE s x with
  | none=>rw [hg] at h1;cases h1
  | some b=>exact List.mem_map.2 ⟨_,Ur hg,rfl⟩
 ·
  intro h1
  obtain ⟨q,hq,rfl⟩:=List.mem_map.1 h1
  rw [zcr h.nodup hq,h.all q hq];rfl
def OnS (I:Qu)(ref:Nat)(A:Int→Bool):Prop:=∃ s:List (Int×Bool),I ref=some (ZQ (Value.int .i64) Value.bool s)∧zaz s A
theorem OnS.mono {I I':Qu}{ref:Nat}{A:Int→Bool}(h:OnS I ref A)(hI:HLe I I'):OnS I' ref A:=by
 obtain ⟨s,h1,h2⟩:=h
 exact ⟨s,hI _ _ h1,h2⟩
def OnL (I:Qu)(m:List (Int×Nat))(ps:List Pt):Prop:=m.map (·.1)=ps.map (·.id)∧∀ q∈m,OnS I q.2 (onF ps q.1)
theorem OnL.mono {I I':Qu}{m:List (Int×Nat)}{ps:List Pt}(h:OnL I m ps)(hI:HLe I I'):OnL I' m ps:=⟨h.1,fun q hq=>(h.2 q hq).mono hI⟩
theorem OnL.nil {I:Qu}{ps:List Pt}:OnL I [] (ps.take 0):=⟨by simp,fun q hq=>by cases hq⟩
def OnM (I:Qu)(r:Nat)(ps:List Pt):Prop:=∃ m:List (Int×Nat),I r=some (ZQ (Value.int .i64) zcP m)∧OnL I m ps
theorem OnM.mono {I I':Qu}{r:Nat}{ps:List Pt}(h:OnM I r ps)(hI:HLe I I'):OnM I' r ps:=by
 obtain ⟨m,h1,h2⟩:=h
 exact ⟨m,hI _ _ h1,h2.mono hI⟩
theorem OnL.get {I:Qu}{m:List (Int×Nat)}{ps:List Pt}(h:OnL I m ps){a:Int}(ha:∃ q∈ps,q.id=a):∃ ref,ZE m a=some ref∧OnS I ref (onF ps a):=by
 cases hg:ZE m a with
 | none=>
  have:=Wl.1 hg
  rw [h.1] at this
  obtain ⟨q,hq,rfl⟩:=ha
  exact absurd (List.mem_map.2 ⟨q,hq,rfl⟩) this
 | some ref=>exact ⟨ref,rfl,h.2 _ (Ur hg)⟩
theorem Lst.before {ps:List Pt}(h:Lst ps){k:Nat}{p:Pt}(hk:ps[k]? =some p){n:Int}(hn:n∈p.needs):∃ q∈ps.take k,q.id=n:=by
 obtain ⟨h1,q,hq,rfl⟩:=h.has p (List.mem_of_getElem? hk) n hn
 obtain ⟨j,hj⟩:=List.getElem?_of_mem hq
 obtain ⟨hj1,hj2⟩:=List.getElem?_eq_some_iff.1 hj
 obtain ⟨hk1,hk2⟩:=List.getElem?_eq_some_iff.1 hk
 have hjk:j<k:=by
  rcases Nat.lt_or_ge j k with h3 | h3
  ·
   exact h3
  ·
   exfalso
   by_cases e:k=j
   ·
    subst e;rw [hk] at hj;cases hj;omega
   ·
    have:=List.pairwise_iff_getElem.1 h.inc k j hk1 hj1 (by omega)
    rw [hj2,hk2] at this;omega
 refine ⟨q,?_,rfl⟩
 rw [List.mem_take_iff_getElem]
 exact ⟨j,by omega,hj2⟩
theorem Lst.fresh {ps:List Pt}(h:Lst ps){k:Nat}{p:Pt}(hk:ps[k]? =some p):∀ q∈ps.take k,q.id<p.id:=fun q hq=>by
 obtain ⟨j,hj,rfl⟩:=List.mem_take_iff_getElem.1 hq
 obtain ⟨hk1,hk2⟩:=List.getElem?_eq_some_iff.1 hk
 have:=List.pairwise_iff_getElem.1 h.inc j k (by omega) hk1 (by omega)
 rw [hk2] at this;exact this
theorem OnL.step {I:Qu}{m:List (Int×Nat)}{ps:List Pt}{k ref:Nat}{p:Pt}{s:List (Int×Bool)}(hL:Lst ps)(hk:ps[k]? =some p)(hm:OnL I m (ps.take k))(hb:I ref=some (ZQ (Value.int .i64) Value.bool s))
  (hs:zaz s (fun x=>p.needs.any fun n=>n==x||onF (ps.take k) n x)):OnL I (YA m p.id ref) (ps.take (k+1)):=by
 have hfr:=hL.fresh hk
 have hnew:p.id∉m.map (·.1):=by
  rw [hm.1]
  intro h
  obtain ⟨q,hq,e⟩:=List.mem_map.1 h
  have:=hfr q hq;omega
 have hmi:YA m p.id ref=m++[(p.id,ref)]:=by
  refine XK m p.id ref 0 ?_
  have:=Wl.2 hnew
  rw [←Kg m p.id 0] at this
  simpa using this
 rw [Z4 hk]
 refine ⟨by rw [Ua,if_neg hnew,hm.1];simp,fun q hq=>?_⟩
 rw [hmi] at hq
 rcases List.mem_append.1 hq with hq | hq
 ·
  obtain ⟨s',h1,h2⟩:=hm.2 q hq
  refine ⟨s',h1,h2.congr fun x=>?_⟩
  have hne:q.1≠p.id:=fun e=>hnew (by rw [←e];exact List.mem_map.2 ⟨q,hq,rfl⟩)
  rw [zf1 (fun z hz=>by simp at hz;subst hz;exact fun e=>hne e.symm)]
 ·
  simp at hq;subst hq
  refine ⟨s,hb,hs.congr fun x=>?_⟩
  exact (zdg (fun z hz=>by cases hz)).symm
def zlF (sn:List (Int×Bool))(seen:List Nat)(x:Int):Bool:=seen.any fun i=>(sn[i]?.map (·.1))==some x
theorem zbT (sn:List (Int×Bool))(x:Int):zlF sn [] x=false:=rfl
theorem X6 {sn:List (Int×Bool)}{seen:List Nat}{i:Nat}{p:Int×Bool}(hp:sn[i]? =some p)(x:Int):zlF sn (seen++[i]) x=(decide (p.1=x)||zlF sn seen x):=by
 unfold zlF
 rw [List.any_append,Bool.eq_iff_iff]
 simp [hp,or_comm]
theorem zbA {sn:List (Int×Bool)}{A:Int→Bool}(h:zaz sn A){seen:List Nat}(hall:∀ i p,sn[i]? =some p→i∈seen)(x:Int):zlF sn seen x=A x:=by
 rw [Bool.eq_iff_iff,h.key]
 unfold zlF
 rw [List.any_eq_true]
 constructor
 ·
  rintro ⟨i,_,hi⟩
  cases hx:sn[i]? with
  | none=>rw [hx] at hi;simp at hi
  | some p=>rw [hx] at hi;simp at hi;exact List.mem_map.2 ⟨p,List.mem_of_getElem? hx,hi⟩
 ·
  intro hx
  obtain ⟨p,hp,rfl⟩:=List.mem_map.1 hx
  obtain ⟨i,hi⟩:=List.getElem?_of_mem hp
  exact ⟨i,hall i p hi,by rw [hi];simp⟩
end
section
open Go Go.Kn Go.Proofs
theorem zb1 {I:Qu}{av:Option Addr}{n c:Nat}{ps:List Pt}(hP:SlP I av n c ps)(hn:n≤100000)(hL:Lst ps)(hnd:∀ p∈ps,p.n≤100000):Yf Tryz.prog 89 [.slice av n c] I [] (fun v I' L=>L=[]∧∃ r,v= .map (some r)∧OnM I' r ps):=by
 intro g H w hw
 refine qe Tryz.func89 Tryz.ntmps89 hw ?_
 have hIc:=zAh I
 refine zR (zA ?_)
 refine zN (zR ?_)
 refine ZL rfl rfl (fun r_10=>?_)
 refine zA (zN (Ql (zR ?_)))
 refine zM ?_
 refine zQ ZB ?_
 refine zM (zN (Qm ?_))
 refine zU [(3,_),(11,_),(12,_)] (fun T L0 mz E I' loc'=>∃ (k:Nat) (m:List (Int×Nat)),mz=n-k∧E=(13,.int .i64 k)::T∧HLe I I'∧[(r_10,ZQ (Value.int .i64) zcP m)]=loc'∧k≤n∧OnL I' m (ps.take k)) ?_ (h:=⟨0,[],rfl,rfl,zAh _,rfl,Nat.zero_le _,OnL.nil⟩)
 rintro mz E J1 loc' ⟨k,m,rfl,rfl,hJ,rfl,hk,hm⟩
 have hP:=hP.mono hJ;have hIc:=hIc.trans hJ
 have hB0:=hJ
 refine zR (zC (zN (Ql ?_)))
 refine zI ?_ ?_<;>intro hc14
 ·
  have hlt_k:k<n:=by have h:=hc14;simp at h;omega
  have hP1:=hP.1
  obtain ⟨p,hp,hN⟩:=hP.at hlt_k
  have hpm:=List.mem_of_getElem? hp
  have hN:Sl J1 1 QQ p.a p.n p.c p.needs:=hN
  have hpn:=hnd p hpm
  refine Qn (Qa (Ql (Qm (zR ?_))))
  refine zV (QE rfl rfl ZB (by assumption) (fun hg=>by omega)) ?_
  refine zV (Qo rfl Yv (fun hg=>by exact zAi hP.1 hp) rfl) ?_
  refine Qs Uu rfl rfl (fun b_5=>?_)
  refine zh V9 ?_
  refine zN (zR ?_)
  refine ZL rfl rfl (fun r_17=>?_)
  refine zA (zN (Ql (zR ?_)))
  refine zF Ul ?_
  refine zL QJ ?_
  refine zQ Qw ?_
  refine zM (zN (Qm ?_))
  refine zU [(3,_),(5,_),(6,_),(11,_),(12,_),(13,_),(19,_),(20,_)] (fun T L0 mz E I' loc'=>∃ (j:Nat) (s:List (Int×Bool)),mz=p.n-j∧E=(21,.int .i64 j)::T∧J1=I'∧[(r_17,ZQ (Value.int .i64) Value.bool s),(b_5,.cells (Yx p).toArray 57 (0,0)),(r_10,ZQ (Value.int .i64) zcP m)]=loc'∧j≤p.n∧zaz s (fun x=>(p.needs.take j).any fun n=>n==x||onF (ps.take k) n x)) ?_ (h:=⟨0,[],rfl,rfl,rfl,rfl,Nat.zero_le _,zaz.nil⟩)
  rintro mz E I' loc' ⟨j,s,rfl,rfl,rfl,rfl,hj,hs⟩
  refine zR (zC (zN (Ql ?_)))
  refine zI ?_ ?_<;>intro hc22
  ·
   have hlt_j:j<p.n:=by have h:=hc22;simp at h;omega
   obtain ⟨y,hy⟩:=hN.at hlt_j
   obtain ⟨ref,hget,sn,hsn,hsq⟩:=hm.get (hL.before hp (List.mem_of_getElem? hy))
   refine Qn (Qa (Ql (Qm (zR ?_))))
   refine zV (QE rfl rfl Qw (by assumption) (fun hg=>by omega)) ?_
   refine zV (Qe rfl Qr (fun hg=>by exact zAa hN hy rfl)) ?_
   refine zA ?_
   refine zN (zR ?_)
   refine zM ?_
   refine zM ?_
   refine Q7 (m:=s) (ek:=Value.int .i64) (ev:=Value.bool) (a:=y) true VK ZG rfl rfl rfl rfl (by repeat (first | exact Upd.here | apply Upd.there | apply QK)) ?_
   refine zN (zR ?_)
   refine zM ?_
   refine zM ?_
   refine zV (YM (m:=m) (ek:=Value.int .i64) (ev:=zcP) (a:=y) hget KP ZG rfl rfl (fun _=>.inr (by simp))) ?_
   refine JU (ek:=Value.int .i64) (ev:=Value.bool) (m:=sn) rfl VK rfl rfl (.inl hsn) (fun b_30=>?_)
   refine zN (Qm ?_)
   refine zU [(3,_),(5,_),(6,_),(11,_),(12,_),(13,_),(19,_),(20,_),(21,_),(30,_)] (fun T L0 mz E I' loc'=>∃ (seen:List Nat) (s:List (Int×Bool)),mz=sn.length-seen.length∧E=T∧J1=I'∧[(b_30,YT ref sn.length seen),(r_17,ZQ (Value.int .i64) Value.bool s),(b_5,.cells (Yx p).toArray 57 (0,0)),(r_10,ZQ (Value.int .i64) zcP m)]=loc'∧zaz s (fun x=>zlF sn seen x||(decide (y=x)||(p.needs.take j).any fun n=>n==x||onF (ps.take k) n x))∧seen.Nodup∧∀ i∈seen,i<sn.length) ?_ (h:=⟨[],_,rfl,rfl,rfl,rfl,(hs.put y).congr (fun x=>by rw [zbT,Bool.false_or]),.nil,fun i h=>by cases h⟩)
   rintro mz E I' loc' ⟨seen,s,rfl,rfl,rfl,rfl,hs,hnd2,hlt⟩
   have hsl:=JI hnd2 hlt
   refine zR ?_
   refine JT (ek:=Value.int .i64) (ev:=Value.bool) (m:=sn) (fun s'=>[(b_30,YT ref sn.length s'),(r_17,ZQ (Value.int .i64) Value.bool s),(b_5,.cells (Yx p).toArray 57 (0,0)),(r_10,ZQ (Value.int .i64) zcP m)]) rfl (fun s'=>.here) rfl rfl rfl rfl rfl (.inl hsn) (by simp) ?_
   intro t tv s' hno hyes
   refine zN (Ql ?_)
   refine zI ?_ ?_<;>intro hc32
   ·
    obtain ⟨i,q,hq,hns,rfl⟩:=hyes hc32
    refine Qn (Qa (Qm (zR ?_)))
    refine zV (JV (ek:=Value.int .i64) (ev:=Value.bool) (m:=sn) (p:=q) (seen:=seen) (i:=i) rfl (.inl hsn) (.inr (by simp)) hq) ?_
    refine zE ?_
    refine zA (zN (Qg ?_))
    refine zM ?_
    refine zM ?_
    refine Q7 (m:=s) (ek:=Value.int .i64) (ev:=Value.bool) (a:=q.1) true VK ZG rfl rfl rfl rfl (by repeat (first | exact Upd.here | apply Upd.there | apply QK)) ?_
    refine Qb (Qf ?_)
    have hnd3:(seen++[i]).Nodup:=List.nodup_append.2 ⟨hnd2,by simp,fun a ha b hb e=>hns (by simp at hb;subst hb;subst e;exact ha)⟩
    have hlt3:∀ j∈seen++[i],j<sn.length:=fun j hj=>(List.mem_append.1 hj).elim (hlt j) (fun h=>by simp at h;subst h;exact (List.getElem?_eq_some_iff.1 hq).1)
    have hsl2:=JI hnd3 hlt3
    rw [List.length_append,List.length_singleton] at hsl2
    exact zm (h:=⟨sn.length-(seen++[i]).length,by rw [List.length_append,List.length_singleton];omega,seen++[i],_,rfl,rfl,rfl,rfl,(hs.put q.1).congr (fun x=>by rw [X6 hq,Bool.or_assoc]),hnd3,hlt3⟩)
   obtain ⟨rfl,hall⟩:=hno hc32
   refine QI (Qh (Qh (Qk (Qf (Qa (Qg (zB ?_)))))))
   refine zM (Qb ?_)
   exact zm (h:=⟨p.n-(j+1),by omega,j+1,_,rfl,rfl,rfl,rfl,by omega,hs.congr (fun x=>by rw [UW hy,zbA hsq hall x];rw [Bool.eq_iff_iff];simp;grind)⟩)
  have hge_j:p.n≤j:=by have h:=hc22;simp at h;omega
  refine QI (Qh (Qh (Qk (Qa ?_))))
  refine Zg .here (fun I4 hI4 hb4=>?_)
  have hm:=hm.mono hI4;have hB0:=hB0.trans hI4
  have hbx:=hb4
  refine Qg (zM ?_)
  refine zF Zw ?_
  refine zL Qr ?_
  refine zM ?_
  refine Q7 (m:=m) (ek:=Value.int .i64) (ev:=zcP) (a:=p.id) r_17 KP ZG rfl rfl rfl rfl (by repeat (first | exact Upd.here | apply Upd.there | apply QK)) ?_
  refine Qb (Qf (Qa (Qg (zB ?_))))
  refine zM (Qb ?_)
  exact zm (h:=⟨n-(k+1),by omega,k+1,_,rfl,rfl,hB0,rfl,by omega,OnL.step hL hp hm hbx (by rw [ZH hN.len hge_j] at hs;exact hs)⟩)
 have hge_k:n≤k:=by have h:=hc14;simp at h;omega
 rw [ZH hP.len hge_k] at hm
 refine QI (Qh (Qh (Qk (Qa (zR (zM ?_))))))
 refine zA (zN (Qt ?_))
 exact Zx rfl rfl (fun w hw=>by obtain ⟨I9,h91,h92,h93⟩:=hw.freezeAll;exact ⟨_,I9,[],rfl,hIc.trans h91,h92,rfl,r_10,rfl,m,h93 _ _ (by simp),hm.mono h91⟩)
end
end Go.Proofs.YtodakphagkommaaGreatDoor.R
