/- apparatusTouched_holds, part E of the proof: what its theorems say holds without further conditions. -/
import Derived.Test.YtodakphagkommaaGreatDoorProg
import Derived.KernelRfl
import Derived.Lib.Hide
import Derived.Lib.SlicesCompact
import Derived.Lib.RowBridge
import Derived.Test.YtodakphagkommaaGreatDoorATD
namespace Go.Proofs.YtodakphagkommaaGreatDoor
section
open Go Go.Kn Go.Proofs
theorem zmU:Fun Tryz.prog 27:=.of Tryz.func27 (by kernel_rfl) (by kernel_rfl)
theorem znF:Fun Tryz.prog 30:=.of Tryz.func30 (by kernel_rfl) (by kernel_rfl)
theorem zsl:Fun Tryz.prog 82:=.of Tryz.func82 (by kernel_rfl) (by kernel_rfl)
theorem zas:SzT Tryz.prog 52 2:=.of (by kernel_rfl)
theorem zbU:Tryz.prog.underlying 155=some (.pointer 54):=by kernel_rfl
def znO (ws:List Wr)(rows:List (List Int))(no:Int)(cl:List Int)(es:List Em)(rd:List Int):Value→Qu→Go.Kn.Loc→Prop:=fun v I' L=>L=[]∧∃ av c,v= .tuple #[.slice av (YM ws rows no cl es rd).length c,.int .i64 (JO ws rows no cl es rd)]∧Sl I' 14 Y2 av (YM ws rows no cl es rd).length c (YM ws rows no cl es rd)
theorem znO.bad {ws:List Wr}{rows:List (List Int)}{no:Int}{cl:List Int}{es:List Em}{rd:List Int}{I':Qu}{e:Int}(h:JO ws rows no cl es rd=e)(he:e≠0):znO ws rows no cl es rd (.tuple #[.slice none 0 0,.int .i64 e]) I' []:=by
 have h0:=zir (show JO ws rows no cl es rd≠0 by rw [h];exact he)
 exact ⟨rfl,none,0,by rw [h0,h];rfl,by rw [h0];exact .nil⟩
set_option maxHeartbeats 40000000 in
theorem w_Signs {I:Qu} {av:Option Addr} {n c:Nat} {ws:List Wr} (hW0:SlW I av n c ws) (hn:n≤100000) {bv:Option Addr} {n2 c2:Nat} {rows:List (List Int)} (hVn:SlN I bv n2 c2 rows) (hn2:n2≤100000) {ea1:Option Addr} {en1 ec1:Nat} {ea2:Option Addr} {en2 ec2:Nat} {ea3:Option Addr} {en3 ec3:Nat} {xs:List Int} {es:List Em} {rd:List Int} (hX1:Sl I 1 QR ea1 en1 ec1 xs) (hX2:Sl I 3 Yy ea2 en2 ec2 es) (hX3:Sl I 1 QR ea3 en3 ec3 rd) (hm1:en1≤100000) (hm2:en2≤100000) (hm3:en3≤100000) (no:Int) (hDb:VI I) (hnz:Uz ws=rows→zwg ws rows):Yg Tryz.prog 44 [.slice av n c,.slice bv n2 c2,.agg (Z1 no ea1 en1 ec1 ea2 en2 ec2 ea3 en3 ec3).toArray] I [] (znO ws rows no xs es rd):=by
 intro g H w hw
 refine qe Tryz.func44 Tryz.ntmps44 hw ?_
 have hIc:=zye I
 obtain ⟨hds,hW⟩:=id hW0
 have hH:=hW.1
 have hlW:=hW.len
 subst hlW
 have hlV:=hVn.len
 subst hlV
 have hlX3:=hX3.len
 subst hlX3
 refine zR ?_
 refine Q5 rfl rfl rfl (fun b_5=>?_)
 refine zA ?_
 refine zA (zN ?_)
 refine zpp ?_
 refine zR (zM ?_)
 refine Qz (cap:=[]) (vs:=[_]) rfl rfl zmU .nil (zhy hW0 hn) rfl rfl ?_
 rintro vv1 I1 L1 hI1 ⟨rfl,av8,c8,rfl,hTb⟩
 have hW:=hW.mono hI1;have hH:=hH.mono hI1;have hVn:=hVn.mono hI1;have hX1:=hX1.mono hI1;have hX2:=hX2.mono hI1;have hX3:=hX3.mono hI1;have hDb:=hDb.mono hI1;have hIc:=hIc.trans hI1
 refine zM ?_
 refine zE ?_
 refine zE ?_
 refine zA ?_
 refine zA (zN (Ql (zR ?_)))
 refine zM ?_
 refine zC (zN ?_)
 refine zI ?_ ?_<;>intro hc28
 ·
  have hcT:zae ws≠0:=by have h:=hc28;simpa using h
  refine zR (zM ?_)
  refine zA ?_
  refine zA (zN (Qt (Qc ?_)))
  refine V6 ?_
  exact Zx rfl rfl rfl (fun w hw=>⟨_,_,[],rfl,hIc,hw.drop,znO.bad (zxm hcT) hcT⟩)
 have hcT:zae ws=0:=by have h:=hc28;simpa using h
 refine Qo (Qa (Ql (zR (zM ?_))))
 refine zM ?_
 refine qc (vs:=[_,_,_]) rfl zsl (zkP hTb hVn (by have:=(zdU (ws:=ws)).1;omega) (fun x hx=>Nat.le_trans (zdU.2 x hx) (by decide))) ?_
 refine zO (zN ?_)
 refine zI ?_ ?_<;>intro hc33
 ·
  have hne:Uz ws≠rows:=fun e=>by have h:=hc33;rw [decide_eq_true e] at h;cases h
  refine zR (zA ?_)
  refine zA (zN (Qt (Qc ?_)))
  refine V6 ?_
  exact Zx rfl rfl rfl (fun w hw=>⟨_,_,[],rfl,hIc,hw.drop,znO.bad (zwy hcT hne) (by decide)⟩)
 have heq:Uz ws=rows:=Decidable.byContradiction fun e=>by have h:=hc33;rw [decide_eq_false e] at h;cases h
 refine Qo (Qa (Ql (zR (zM ?_))))
 refine zV (Qp rfl Z0 (fun hg=>by exact Cells.g0) rfl) ?_
 refine qc (vs:=[_,_]) rfl znF (zi6 hVn hn2 hX1 hX2 hX3 hm1 hm2 hm3 no hDb) ?_
 refine zA ?_
 refine zN (zR ?_)
 refine zM ?_
 refine zC (zN ?_)
 refine zI ?_ ?_<;>intro hc38
 ·
  have hcE:WP rows no xs es rd≠0:=by have h:=hc38;simpa using h
  refine zR (zM ?_)
  refine zA ?_
  refine zA (zN (Qt (Qc ?_)))
  refine V6 ?_
  exact Zx rfl rfl rfl (fun w hw=>⟨_,_,[],rfl,hIc,hw.drop,znO.bad (zxd hcT heq hcE) hcE⟩)
 have hcE:WP rows no xs es rd=0:=by have h:=hc38;simpa using h
 obtain ⟨hm0,hrd⟩:=zhv hcE
 have hco:=zno hm0
 obtain ⟨hr1,hr6,hr64,hrr⟩:=We (zaa hco)
 have hlen:=zfN heq (by omega)
 have hrdl:rd.length=(rows.getD 0 []).length:=by rw [hrd];exact Xn
 have hnz:=hnz heq
 obtain ⟨vhs,hV⟩:=id hVn
 have hVh:=hV.1
 refine Qo (Qa (Ql ?_))
 refine Zf (b:=b_5) (by repeat (first | exact Q7.here | apply Q7.there)) (fun I2 hI2 hb2=>?_)
 have hW:=hW.mono hI2;have hH:=hH.mono hI2;have hX3:=hX3.mono hI2;have hV:=hV.mono hI2;have hVh:=hVh.mono hI2;have hIc:=hIc.trans hI2
 have hC5:QU I2 [] b_5 3 (.slice ea3 rd.length ec3):=.imm hb2 rfl
 refine Qg (zM ?_)
 refine zQ Vf ?_
 refine Q3 YI rfl rfl (by omega) (by decide) rfl rfl (fun b_42=>?_)
 refine zA (Qb ?_)
 rw [show ((ws.length:Nat):Int).toNat=ws.length from rfl,Q2,Ze,UT,zkY (rows:=rows)]
 refine Qa (Ql ?_)
 refine zoO ?_
 refine Qa (Ql (Ql ?_))
 refine JA (loc':=[]++[(b_42,.cells (Zh (Ve ws.length (YA (atN rows 0 0)))) 3 (0,0))]) rfl ?_
 refine Qg ?_
 refine zF VT ?_
 refine zV (Qd rfl QK (fun hg=>by exact hC5.any)) ?_
 refine zQ Qy ?_
 refine zM (zN (Qm ?_))
 refine zU [(0,_),(1,_),(10,_),(44,_),(45,_)] (fun T L0 mz E I' loc'=>∃ (k:Nat) (l:List Sg) (v6:Value) (L:Go.Kn.Loc),mz=rd.length-k∧E=(6,v6)::(46,.int .i64 k)::T∧HLe I2 I'∧L++[(b_42,.cells (Zh (Ve ws.length (YA (atN rows k 0)))) 3 (0,0))]=loc'∧k≤rd.length∧Wv ws rows rd k=some l∧OwnS 54 14 v6 l.length (l.flatMap Y2) L∧l.length≤k) ?_ (h:=⟨0,[],_,[],rfl,rfl,zye _,rfl,Nat.zero_le _,rfl,OwnS.nil,Nat.le_refl _⟩)
 rintro mz E J3 loc' ⟨k,l,v6,L,rfl,rfl,hJ,rfl,hk,hsg,hO,hlk⟩
 have hW:=hW.mono hJ;have hH:=hH.mono hJ;have hX3:=hX3.mono hJ;have hV:=hV.mono hJ;have hVh:=hVh.mono hJ;have hIc:=hIc.trans hJ
 have hB0:=hJ
 refine zR (zC (zN (Ql ?_)))
 refine zI ?_ ?_<;>intro hc47
 ·
  have hlt_k:k<rd.length:=by have h:=hc47;simp at h;omega
  obtain ⟨code,hk⟩:=hX3.at hlt_k
  refine Qo (Qa (Ql (Qm (zR (zM ?_)))))
  refine zV (zX Qy hX3) ?_
  refine zV (Qd rfl Qs (fun hg=>by exact zx7 hX3 hk rfl)) ?_
  refine zA ?_
  refine zA ?_
  refine zN (zR ?_)
  refine zA ?_
  refine zA ?_
  refine zN (zR ?_)
  refine zA ?_
  refine zA (zN (Ql (zR ?_)))
  refine zM ?_
  refine zQ Zo ?_
  refine zM (zN (Qm ?_))
  refine zU [(0,_),(1,_),(6,_),(10,_),(11,_),(12,_),(44,_),(45,_),(46,_),(51,_),(52,_)] (fun T L0 mz E I' loc'=>∃ (i:Nat) (s:SgS) (p13:Option Addr) (p14:Option Addr),mz=rows.length-i∧E=(13,.pointer p13)::(14,.pointer p14)::(15,.int .i64 ((s.many:Nat):Int))::(16,.bool s.lost)::(53,.int .i64 i)::T∧HLe J3 I'∧L++[(b_42,.cells (Zh (Ve ws.length (YA (atN rows k i)))) 3 (0,0))]=loc'∧i≤rows.length∧s=sgK ws rows k code i∧Y1 60 I' p13 s.ex∧Y1 60 I' p14 s.so) ?_ (h:=⟨0,⟨none,none,0,false⟩,none,none,rfl,rfl,zye _,rfl,Nat.zero_le _,rfl,rfl,rfl⟩)
  rintro mz E J4 loc' ⟨i,s,p13,p14,rfl,rfl,hJ,rfl,hi,hs,hp13,hp14⟩
  have hW:=hW.mono hJ;have hH:=hH.mono hJ;have hV:=hV.mono hJ;have hVh:=hVh.mono hJ;have hIc:=hIc.trans hJ;have hB0:=hB0.trans hJ
  have hB2:=hJ
  refine zR (zC (zN (Ql ?_)))
  refine zI ?_ ?_<;>intro hc54
  ·
   have hlt_i:i<rows.length:=by have h:=hc54;simp at h;omega
   obtain ⟨vx,row,hvx,hvr,hQ⟩:=hV.at hlt_i
   obtain ⟨wx,xw,hwx,hxw,e1,e2,hR⟩:=hW.at (show i<ws.length by omega)
   have hrl:=(hrr row (List.mem_of_getElem? hvr)).1
   have hQl:=hQ.len
   have hRl:=hR.len
   have hrk:row[k]? =some (row.getD k 0):=Zk rfl (by omega)
   have hrk0:=hrk
   have hrg2:rows.getD i []=row:=Q1 hvr
   have hrg:(rows.getD i []).getD k 0=row.getD k 0:=by rw [hrg2]
   have hnzk:=zxb (row:=rows.getD i []) (k:=k)
   have hms:=zhU (ws:=ws) (rows:=rows) (k:=k) (code:=code) i
   rw [←hs] at hms
   refine Qo (Qa (Ql (Qm (zR (zM ?_)))))
   refine zV (zX Zo hVh) ?_
   refine zV (Qd rfl QK (fun hg=>by exact zx7 hVh hvx rfl)) ?_
   refine zA ?_
   refine zA (zN (Ql (zR ?_)))
   refine zM ?_
   refine zM ?_
   refine zV (zX Qy hQ) ?_
   refine zV (Qd rfl Qs (fun hg=>by exact zx7 hQ hrk0 rfl)) ?_
   refine zC (zN ?_)
   refine zI ?_ ?_<;>intro hc62
   ·
    have hc62:(row.getD k 0==0)=true:=hc62
    refine JA (loc':=L++[(b_42,.cells (Zh (Ve ws.length (YA (atN rows k (i+1))))) 3 (0,0))]) (by rw [zs9 (by rw [hrg2];exact zm4 hrk hc62)]) ?_
    refine QI (Qf (Qk (Qa (Qg (zB ?_)))))
    refine zM (Qb ?_)
    first
    | exact zm (h:=⟨rows.length-(i+1),by omega,i+1,s,p13,p14,rfl,rfl,hB2,rfl,by omega,by rw [hs];exact zpF (by rw [hrg];exact hc62),hp13,hp14⟩)
   have hc62:(row.getD k 0==0)=false:=hc62
   have hnzi:=hnz i xw row hxw hvr k (by omega) (by have h:=hc62;simpa using h)
   obtain ⟨y,hy⟩:∃ y,xw.rs[nzF (rows.getD i []) k]? =some y:=⟨_,List.getElem?_eq_getElem (by rw [hrg2];exact hnzi)⟩
   have hyd:ydF ws rows i k=y:=ztb hxw hy
   have hnzi2:nzF (rows.getD i []) k<xw.rs.length:=by rw [hrg2];exact hnzi
   refine Qo (Qa (Ql ?_))
   have hD:=zye J4
   refine Kw mixed ?_
   refine zT 0 rfl (Qi rfl) hD ?_
   refine zT 1 rfl (Qi rfl) hD ?_
   refine zT 2 rfl (zX Vf hH) hD ?_
   refine zT 3 rfl (Qe rfl UR) hD ?_
   refine zT 4 rfl (Qd rfl zck (fun hg=>by exact zyg hH hwx rfl)) hD ?_
   refine zT 5 rfl (Qi rfl) hD ?_
   refine zT 6 rfl (Qi rfl) hD ?_
   refine zT 7 rfl (Q6 rfl rfl Qy (fun hg=>by omega)) hD ?_
   refine zT 8 rfl (Qd rfl Qs (fun hg=>by exact zya (V0 (k:=i) (YD (show i<_ by omega))))) hD ?_
   rw [zfC]
   refine zT 9 rfl (zX Xp hR) hD ?_
   refine zT 10 rfl (Qp rfl ze7 (fun hg=>by exact zyf hR hy) rfl) hD ?_
   refine qd 11 rfl ?_
   refine Qr zme rfl rfl (fun b_19=>?_)
   refine Qb ?_
   refine zD hD ?_
   refine qd 12 rfl ?_
   refine zh ze6 ?_
   refine Qb ?_
   refine zD hD ?_
   refine QG (by kernel_rfl) ?_
   refine QQ ?_
   refine Qa (zR (zM ?_))
   refine zM ?_
   refine zV (Q6 rfl rfl Qy (fun hg=>by omega)) ?_
   refine zV (Qd rfl Qs (fun hg=>by exact zx8 (zya (V0 (k:=i) (YD (show i<_ by omega)))))) ?_
   rw [zfC]
   refine zB ?_
   refine zV (Q6 rfl rfl Qy (fun hg=>by omega)) ?_
   refine ZI rfl rfl Yi rfl rfl (by (repeat (first | exact Upd.here | apply Upd.there | apply QJ))) (zuI (by rw [Yd];omega)) ?_
   refine Qb ?_
   rw [Vm,Js,show ((nzF (rows.getD i []) k:Nat):Int)+1=((nzF (rows.getD i []) k+1:Nat):Int) from rfl,Xr,zrf (by rw [hrg2];exact zib hrk hc62)]
   refine Qa (Ql (Ql ?_))
   refine Zf (b:=b_19) (by repeat (first | exact Q7.here | apply Q7.there)) (fun I5 hI5 hb19=>?_)
   have hp13:=hp13.mono hI5;have hp14:=hp14.mono hI5;have hQ:=hQ.mono hI5;have hB2:=hB2.trans hI5
   have hp19:=Y1.new hb19
   refine Qg ?_
   refine zF V3 ?_
   refine zV (Qd rfl za7 (fun hg=>by exact .imm hb19 rfl)) ?_
   refine zN ?_
   refine zI ?_ ?_<;>intro hc81
   ·
    refine zR (zA (zN (QI (Qf (Qk (Qa (Qg ?_)))))))
    refine zB ?_
    refine zM (Qb ?_)
    first
    | exact zm (h:=⟨rows.length-(i+1),by omega,i+1,{s with lost:=true},p13,p14,rfl,rfl,hB2,rfl,by omega,zpv hs (by rw [hrg];exact hc62) (by rw [hyd];exact hc81),hp13,hp14⟩)
   refine Qo (Qa (zR (zM ?_)))
   refine zB ?_
   refine zA (zN ?_)
   refine zY [(0,_),(1,_),(6,_),(10,_),(11,_),(12,_),(13,_),(15,_),(16,_),(18,_),(19,_),(44,_),(45,_),(46,_),(51,_),(52,_),(53,_)] (fun T L0 E I' loc'=>∃ (q14:Option Addr),E=(14,.pointer q14)::T∧HLe I5 I'∧L++[(b_42,.cells (Zh (Ve ws.length (YA (atN rows k (i+1))))) 3 (0,0))]=loc'∧Y1 60 I' q14 (orS s.so y.sg)) ?_ ?_
   ·
    have hKc24:=zye I5
    refine zR (zM ?_)
    refine zV (UA rfl rfl zbU) ?_
    refine zN ?_
    refine zI ?_ ?_<;>intro hc85
    ·
     refine Qg ?_
     refine zF Jr ?_
     refine zA (Qb ?_)
     exact Jl _ _ ⟨_,rfl,hKc24,rfl,hp14.orN hc85 hp19⟩ (.cons rfl (.cons rfl (.cons rfl (.cons rfl (.cons rfl (.cons rfl (.cons rfl (.cons rfl (.cons rfl (.cons rfl (.cons rfl (.cons rfl (.cons rfl (.cons rfl (.cons rfl (.cons rfl (.cons rfl (.cons rfl .nil)))))))))))))))))) .refl
    refine Qo ?_
    exact Jl _ _ ⟨_,rfl,hKc24,rfl,hp14.orS hc85⟩ (.cons rfl (.cons rfl (.cons rfl (.cons rfl (.cons rfl (.cons rfl (.cons rfl (.cons rfl (.cons rfl (.cons rfl (.cons rfl (.cons rfl (.cons rfl (.cons rfl (.cons rfl (.cons rfl (.cons rfl (.cons rfl .nil)))))))))))))))))) .refl
   rintro E J6 loc' ⟨q14,rfl,hJ85,rfl,hq14⟩
   have hp13:=hp13.mono hJ85;have hQ:=hQ.mono hJ85;have hp19:=hp19.mono hJ85;have hB2:=hB2.trans hJ85
   refine zR (zM ?_)
   refine zV (UA rfl rfl zbU) ?_
   refine zM ?_
   refine QE 2 rfl rfl rfl ?_
   refine zK (Qi rfl) ?_
   refine zK (Qi rfl) ?_
   refine zK (zX Qy hQ) ?_
   refine zK (Qd rfl Qs (fun hg=>by exact zx7 hQ hrk0 rfl)) ?_
   refine zK (Qi rfl) ?_
   refine zK (QH rfl rfl rfl) ?_
   refine QP rfl rfl rfl rfl rfl ?_
   refine zN ?_
   refine zI ?_ ?_<;>intro hc96
   ·
    refine Qg ?_
    refine zF Jr ?_
    refine zA (Qb (Qh (Qa (Qg ?_))))
    refine zB ?_
    refine zM (Qb ?_)
    first
    | exact zm (h:=⟨rows.length-(i+1),by omega,i+1,⟨some y.sg,orS s.so y.sg,s.many+1,s.lost⟩,_,q14,rfl,rfl,hB2,rfl,by omega,zuO hs (by rw [hrg];exact hc62) hyd hc81 (by rw [hrg,←hp13.isNone];exact hc96),hp19,hq14⟩)
   refine Qo (Qh (Qa (Qg (zB ?_))))
   refine zM (Qb ?_)
   first
   | exact zm (h:=⟨rows.length-(i+1),by omega,i+1,⟨s.ex,orS s.so y.sg,s.many+1,s.lost⟩,p13,q14,rfl,rfl,hB2,rfl,by omega,zxa hs (by rw [hrg];exact hc62) hyd hc81 (by rw [hrg,←hp13.isNone];exact hc96),hp13,hq14⟩)
  have hge_i:rows.length≤i:=by have h:=hc54;simp at h;omega
  obtain rfl:i=rows.length:=by omega
  refine QI (Qf (Qf (Qk (Qa (Ql (Ql ?_))))))
  refine JA (loc':=L++[(b_42,.cells (Zh (Ve ws.length (YA (atN rows (k+1) 0)))) 3 (0,0))]) (by rw [hlen,zk1]) ?_
  refine Qg (zM ?_)
  refine zC (zN ?_)
  refine zI ?_ ?_<;>intro hc100
  ·
   refine QI (Qf (Qk (Qa (Qg (zB ?_)))))
   refine zM (Qb ?_)
   first
   | exact zm (h:=⟨rd.length-(k+1),by omega,k+1,_,_,_,rfl,rfl,hB0,rfl,by omega,zlR hsg (by rw [Q1 hk];exact zkX hc100),hO,by omega⟩)
  refine Qo (Qa ?_)
  refine zY [(0,_),(1,_),(6,_),(10,_),(11,_),(12,_),(15,_),(16,_),(44,_),(45,_),(46,_)] (fun T L0 E I' loc'=>∃ (q13:Option Addr),E=(13,.pointer q13)::T∧HLe J4 I'∧L++[(b_42,.cells (Zh (Ve ws.length (YA (atN rows (k+1) 0)))) 3 (0,0))]=loc'∧Y1 60 I' q13 (s.ex.or s.so)) ?_ ?_
  ·
   have hKc30:=zye J4
   refine zR (zM ?_)
   refine zV (UA rfl rfl zbU) ?_
   refine zN ?_
   refine zI ?_ ?_<;>intro hc102
   ·
    refine Qg (zM ?_)
    refine zA (Qb ?_)
    exact Jl _ _ ⟨_,rfl,hKc30,rfl,hp13.orY hc102 hp14⟩ (.cons rfl (.cons rfl (.cons rfl (.cons rfl (.cons rfl (.cons rfl (.cons rfl (.cons rfl (.cons rfl (.cons rfl (.cons rfl (.cons rfl .nil)))))))))))) .refl
   refine Qo ?_
   exact Jl _ _ ⟨_,rfl,hKc30,rfl,hp13.orX hc102⟩ (.cons rfl (.cons rfl (.cons rfl (.cons rfl (.cons rfl (.cons rfl (.cons rfl (.cons rfl (.cons rfl (.cons rfl (.cons rfl (.cons rfl .nil)))))))))))) .refl
  rintro E J7 loc' ⟨q13,rfl,hJ102,rfl,hq13⟩
  have hIc:=hIc.trans hJ102;have hB0:=hB0.trans hJ102
  refine Ql (zR (zM ?_))
  refine zV (UA rfl rfl zbU) ?_
  refine zN ?_
  refine zI ?_ ?_<;>intro hc105
  ·
   have hso:=hq13.none hc105
   refine zR (zA ?_)
   refine zA (zN (Qt (Qc (Qn (Qc (Qc (Qn ?_)))))))
   refine Qc ?_
   refine V6 ?_
   first
   | exact Zx rfl rfl rfl (fun w hw=>⟨_,_,[],rfl,hIc,hw.drop,znO.bad (zun hcT heq hcE (zg4 hsg (by rw [Q1 hk];exact zln hc100 hs hso) hlt_k)) (by decide)⟩)
  obtain ⟨sy,spb,spl,hso,rfl,hsp⟩:=hq13.at hc105
  refine Qo (Qa (zR (zM ?_)))
  refine qc (vs:=[_]) rfl zjX (zgN _ _) ?_
  refine zM ?_
  refine zE ?_
  refine zE ?_
  refine Qr WX rfl rfl (fun b_20=>?_)
  refine zh Vx ?_
  refine zA (zN (Ql (zR ?_)))
  refine zM ?_
  refine zC (zN ?_)
  refine zI ?_ ?_<;>intro hc112
  ·
   have he1:(UG code != 0)=true:=hc112
   refine zR (zA ?_)
   refine zA (zN (Qt (Qc (Qn (Qc (Qc (Qn ?_)))))))
   refine Qc ?_
   refine V6 ?_
   first
   | exact Zx rfl rfl rfl (fun w hw=>⟨_,_,[],rfl,hIc,hw.drop,znO.bad (zun hcT heq hcE (zg4 hsg (by rw [Q1 hk];exact zoU hc100 hs hso he1) hlt_k)) (by decide)⟩)
  have he0:(UG code != 0)=false:=hc112
  refine Qo (Qa (Ql ?_))
  have hD:=zye J7
  refine Jo ?_
  refine Z7 J7 [] mixed ?_
  refine zT 0 rfl (Qi rfl) hD ?_
  refine zT 1 rfl (Qi rfl) hD ?_
  refine zT 2 rfl (Q0 rfl) hD ?_
  refine zT 3 rfl (Qe rfl Kh) hD ?_
  refine zT 4 rfl (Qd rfl Qs (fun hg=>by exact .imm hsp rfl)) hD ?_
  refine zT 5 rfl (Qi rfl) hD ?_
  refine zT 6 rfl (Q0 rfl) hD ?_
  refine zT 7 rfl (Qe rfl Jz) hD ?_
  refine zT 8 rfl (Qd rfl Qs (fun hg=>by exact .imm hsp rfl)) hD ?_
  refine zT 9 rfl (Qi rfl) hD ?_
  refine zT 10 rfl (Q0 rfl) hD ?_
  refine zT 11 rfl (Qe rfl VF) hD ?_
  refine zT 12 rfl (Qp rfl Vg (fun hg=>by exact Cells.two hsp rfl rfl) rfl) hD ?_
  refine zT 13 rfl (Qi rfl) hD ?_
  refine zT 14 rfl (Q0 rfl) hD ?_
  refine zT 15 rfl (Qe rfl Vw) hD ?_
  refine zT 16 rfl (Qp rfl Vg (fun hg=>by exact Cells.two hsp rfl rfl) rfl) hD ?_
  refine zT 17 rfl (Qe rfl ZN) hD ?_
  refine qd 18 rfl ?_
  refine zS Yi ?_
  refine Qb ?_
  refine zD hD ?_
  refine zT 19 rfl (Qe rfl Kh) hD ?_
  refine qd 20 rfl ?_
  refine zS Yi ?_
  refine Qb ?_
  refine zD hD ?_
  refine zT 21 rfl (Qe rfl Jz) hD ?_
  refine qd 22 rfl ?_
  refine zS Yi ?_
  refine Qb ?_
  refine zD hD ?_
  refine zT 23 rfl (Qe rfl VF) hD ?_
  refine qd 24 rfl ?_
  refine Jf rfl rfl zas rfl rfl rfl rfl (by repeat (first | exact Upd.here | apply Upd.there | apply QJ)) ?_
  refine Qb ?_
  refine zD hD ?_
  refine zT 25 rfl (Qe rfl Vw) hD ?_
  refine qd 26 rfl ?_
  refine Jf rfl rfl zas rfl rfl rfl rfl (by repeat (first | exact Upd.here | apply Upd.there | apply QJ)) ?_
  refine Qb ?_
  refine zD hD ?_
  refine QG (by kernel_rfl) ?_
  refine QQ ?_
  refine ze5 (loc':=(b_20,.cells (Y2 ({zjc code with id:=(k:Int),bar:=sy.bar,mark:=sy.mark,fn:=sy.fn,fd:=sy.fd,tn:=sy.tn,td:=sy.td}:Sg)).toArray 54 (0,0))::(L++[(b_42,.cells (Zh (Ve ws.length (YA (atN rows (k+1) 0)))) 3 (0,0))])) rfl ?_
  refine Qa ?_
  refine zY [(0,_),(1,_),(6,_),(10,_),(20,_),(44,_),(45,_),(46,_)] (fun T L0 E I' loc'=>E=T∧HLe J7 I'∧(b_20,.cells (Y2 (W8 k code sy ((decide ((ws.length:Int)>1)&&(s.many:Int)==1)&& !s.lost))).toArray 54 (0,0))::(L++[(b_42,.cells (Zh (Ve ws.length (YA (atN rows (k+1) 0)))) 3 (0,0))])=loc') ?_ ?_
  ·
   have hKc38:=zye J7
   refine zR (zM ?_)
   refine zQ Vf ?_
   refine zC ?_
   refine zM ?_
   refine QE 3 rfl rfl rfl ?_
   refine zK (Qi rfl) ?_
   refine zK (QH rfl rfl rfl) ?_
   refine QP rfl rfl rfl rfl rfl ?_
   refine zM ?_
   refine QE 7 rfl rfl rfl ?_
   refine zK (Qi rfl) ?_
   refine zK (Vy rfl) ?_
   refine QP rfl rfl rfl rfl rfl ?_
   refine zN ?_
   refine zI ?_ ?_<;>intro hc145
   ·
    refine Qg ?_
    refine zF Jz ?_
    refine zS Yi ?_
    refine Qb ?_
    refine ze5 (loc':=(b_20,.cells (Y2 (W8 k code sy ((decide ((ws.length:Int)>1)&&(s.many:Int)==1)&& !s.lost))).toArray 54 (0,0))::(L++[(b_42,.cells (Zh (Ve ws.length (YA (atN rows (k+1) 0)))) 3 (0,0))])) (by rw [hc145];rfl) ?_
    exact Jl _ _ ⟨rfl,hKc38,rfl⟩ (.cons rfl (.cons rfl (.cons rfl (.cons rfl (.cons rfl (.cons rfl (.cons rfl (.cons rfl .nil)))))))) .refl
   refine JA (loc':=(b_20,.cells (Y2 (W8 k code sy ((decide ((ws.length:Int)>1)&&(s.many:Int)==1)&& !s.lost))).toArray 54 (0,0))::(L++[(b_42,.cells (Zh (Ve ws.length (YA (atN rows (k+1) 0)))) 3 (0,0))])) (by rw [hc145];rfl) ?_
   refine Qo ?_
   exact Jl _ _ ⟨rfl,hKc38,rfl⟩ (.cons rfl (.cons rfl (.cons rfl (.cons rfl (.cons rfl (.cons rfl (.cons rfl (.cons rfl .nil)))))))) .refl
  rintro E J8 loc' ⟨rfl,hJ145,rfl⟩
  have hB0:=hB0.trans hJ145
  refine Qg (zM ?_)
  refine zV (Qp rfl ZL (fun hg=>by exact Cells.g0) rfl) ?_
  refine Qq (ps:=[(0,_)]) (m:=[Y2 (W8 k code sy ((decide ((ws.length:Int)>1)&&(s.many:Int)==1)&& !s.lost))]) K7 rfl (.cons rfl (.nil)) rfl (by simp [Z5]) (by decide) (by decide) rfl rfl (fun b_149=>?_)
  refine QY (v:=_) (ys:=[W8 k code sy ((decide ((ws.length:Int)>1)&&(s.many:Int)==1)&& !s.lost)].flatMap Y2) (L:=L) rfl rfl K7 hO (by repeat (first | exact .cons .here .nil | exact QD | exact Qw | apply QC | apply QB)) ⟨rfl,fun _=>rfl,by repeat (first | exact zyc | apply zyb | apply zyd)⟩ (zmq [W8 k code sy ((decide ((ws.length:Int)>1)&&(s.many:Int)==1)&& !s.lost)]) (by omega) rfl rfl ?_
  intro v9 L9 hO9 _;rw [←List.flatMap_append] at hO9
  refine zA (Qb (Qh (Qa (Qg ?_))))
  refine zB ?_
  refine zM (Qb ?_)
  first
  | exact zm (h:=⟨rd.length-(k+1),by omega,k+1,_,_,_,rfl,rfl,hB0,rfl,by omega,zt9 hsg (by rw [Q1 hk];exact zuu hc100 hs hso he0),by rw [List.length_append];exact hO9,by rw [List.length_append,List.length_singleton];omega⟩)
 have hge_k:rd.length≤k:=by have h:=hc47;simp at h;omega
 obtain rfl:k=rd.length:=by omega
 obtain ⟨t1,t2⟩:=ztT hcT heq hcE hsg
 refine QI (Qf (Qf (Qk (Qa (zR (zM ?_))))))
 refine zA ?_
 refine zA (zN (Qt ?_))
 refine V6 ?_
 first
 | exact Zx rfl rfl rfl (fun w hw=>by obtain ⟨I9,av9,c9,h1',h2',e9,h4'⟩:=OwnS.freeze (R:=[_]) hO Z5 (by decide) hw;subst e9;exact ⟨_,I9,[],rfl,hIc.trans h1',h2'.drop,rfl,av9,c9,by rw [t1,t2],by rw [t2];exact h4'⟩)
end
section
open Go Go.Kn Go.Proofs
def zkf (x:Int):List Int→List Int
 | []=>[x]
 | y::ys=>if x<y then x::y::ys else if x=y then y::ys else y::zkf x ys
theorem zaP {x z:Int}:∀ {l:List Int},z∈zkf x l↔z=x∨z∈l
 | []=>by simp [zkf]
 | y::ys=>by
  unfold zkf
  split
  ·
   simp
  ·
   split
   ·
    rename_i h;subst h;simp
   ·
    rw [List.mem_cons,zaP,List.mem_cons]
    constructor
    ·
     rintro (h | h | h)
     ·
      exact .inr (.inl h)
     ·
      exact .inl h
     ·
      exact .inr (.inr h)
    ·
     rintro (h | h | h)
     ·
      exact .inr (.inl h)
     ·
      exact .inl h
     ·
      exact .inr (.inr h)
theorem zje {x:Int}:∀ {l:List Int},l.Pairwise (· < ·)→(zkf x l).Pairwise (· < ·)
 | [],_=>by simp [zkf]
 | y::ys,h=>by
  rw [List.pairwise_cons] at h
  unfold zkf
  split
  ·
   rename_i hxy
   rw [List.pairwise_cons,List.pairwise_cons]
   refine ⟨fun z hz=>?_,h⟩
   rcases List.mem_cons.1 hz with e | hz
   ·
    rw [e];exact hxy
   ·
    exact Int.lt_trans hxy (h.1 z hz)
  ·
   split
   ·
    rw [List.pairwise_cons];exact h
   ·
    rw [List.pairwise_cons]
    refine ⟨fun z hz=>?_,zje h.2⟩
    rcases zaP.1 hz with rfl | hz
    ·
     omega
    ·
     exact h.1 z hz
def stU (rows:List (List Int))(l:Nat):List Int:=(stL rows l rows.length).foldr zkf []
theorem zr6 (xs:List Int):(xs.foldr zkf []).Pairwise (· < ·)∧∀ z,z∈xs.foldr zkf []↔z∈xs:=by
 induction xs with
 | nil=>simp
 | cons x xs ih=>
  rw [List.foldr_cons]
  exact ⟨zje ih.1,fun z=>by rw [zaP,ih.2,List.mem_cons]⟩
theorem zvW {a b:List Int}(ha:a.Pairwise (· < ·))(hb:b.Pairwise (· < ·))(h:∀ z,z∈a↔z∈b):a=b:=by
 have hp:a.Perm b:=(List.perm_ext_iff_of_nodup (ha.imp (by intro x y h e;omega)) (hb.imp (by intro x y h e;omega))).2 h
 exact hp.eq_of_pairwise (le:=(· < ·)) (by intro x y _ _ h1 h2;omega) ha hb
theorem zwT {rows:List (List Int)}{l:Nat}:stE rows l=stU rows l:=by
 refine zvW zux (zr6 _).1 fun z=>?_
 unfold stU
 rw [(zr6 _).2]
 unfold stE;rw [(Kv _).2]
def zlW (rows:List (List Int))(cl:List Int)(l:Nat):List Int:=(stU rows l).filter fun x=>rcV (stU rows l) (uF rows l) cl 63 (Vd rows.length) x==Yn (rcF (stU rows l) (uF rows l) cl 64 (Vd rows.length))
theorem zko:JB=zlW:=by
 funext rows cl l
 unfold JB zlW zhg znL
 rw [zwT]
def zlu (rows:List (List Int))(cl:List Int)(k:Nat):Int:=if (zlW rows cl k).any (fun y=>(rows.getD 0 []).getD k 0==y)=true then (rows.getD 0 []).getD k 0 else (zlW rows cl k).getD 0 0
def zrx (rows:List (List Int))(cl:List Int)(es:List Em)(k:Nat):Int:=match lfK es k with
 | []=>zlu rows cl k
 | e::_=>if e.locus=(k:Int) then e.code else zlu rows cl k
theorem zlQ:Wo=zrx:=by
 funext rows cl es k
 have hb:WU rows cl k=zlu rows cl k:=by unfold WU zlu;rw [zko]
 unfold Wo zrx
 rw [hb]<;>(cases lfK es k<;>rfl)
theorem zfy {rows:List (List Int)}{cl:List Int}{es:List Em}:VG rows cl es=(List.range (rows.getD 0 []).length).map (zrx rows cl es):=by unfold VG;rw [zlQ]
end
section
open Go Go.Kn Go.Proofs
def cz:Nat→(Nat→Int)→Nat
 | 0,_=>0
 | n+1,f=>cz n f+(if f n=0 then 0 else 1)
theorem zdn:∀ n,cz n (fun _=>0)=0
 | 0=>rfl
 | n+1=>by unfold cz;rw [zdn n];rfl
theorem zmE {f:Nat→Int}{a:Nat}{v:Int}:∀ n,cz n (Ur f a v)≤cz n f+(if a<n then 1 else 0)
 | 0=>Nat.zero_le _
 | n+1=>by
  have ih:=zmE (f:=f) (a:=a) (v:=v) n
  unfold cz
  by_cases e:n=a
  ·
   subst e
   rw [KM,if_pos (show n<n+1 by omega)]
   rw [if_neg (show ¬n<n by omega)] at ih
   split<;>split<;>omega
  ·
   rw [X9 e]
   by_cases h:a<n
   ·
    rw [if_pos h] at ih
    rw [if_pos (show a<n+1 by omega)]
    split<;>omega
   ·
    rw [if_neg h] at ih
    rw [if_neg (show ¬a<n+1 by omega)]
    split<;>omega
theorem zgU {f:Nat→Int}{a n:Nat}{v:Int}:cz n (Ur f a v)≤cz n f+1:=by
 have:=zmE (f:=f) (a:=a) (v:=v) n
 split at this<;>omega
theorem zut {w:Nat→Nat}{T:List Int}{n:Nat}:∀ k,cz n (txF w T k)≤k
 | 0=>by show cz n (fun _=>0)≤0;rw [zdn];exact Nat.le_refl _
 | k+1=>by
  have ih:=zut (w:=w) (T:=T) (n:=n) k
  have:=zgU (f:=txF w T k) (a:=VP w k+w k) (n:=n) (v:=T.getD k 0)
  show cz n (Ur (txF w T k) (VP w k+w k) (T.getD k 0))≤k+1
  omega
def both (y:Int×Int):Bool:=decide (y.1>0)&&decide (y.2>0)
theorem zxz {w:Nat→Nat}{l:List Int}{n:Nat}(ps:List (Int×Int)):∀ (f:Nat→Int),cz n (ps.foldl (prF w l) f)≤cz n f+(ps.filter both).length:=by
 induction ps with
 | nil=>intro f;exact Nat.le_refl _
 | cons y ps ih=>
  intro f
  rw [List.foldl_cons]
  have h:=ih (prF w l f y)
  cases hb:(decide (y.1>0)&&decide (y.2>0)) with
  | true=>
   rw [ziz hb] at h ⊢
   have h2:=zgU (f:=f) (a:=VP w (y.1-1).toNat+w (y.1-1).toNat) (n:=n) (v:=l.getD (y.2-1).toNat 0)
   rw [List.filter_cons_of_pos (show both y=true from hb),List.length_cons];omega
  | false=>
   rw [znw hb] at h ⊢
   rw [List.filter_cons_of_neg (show ¬both y=true by unfold both;rw [hb];decide)];exact h
theorem zv8 {w:Nat→Nat}{l:List Int}{n:Nat}(qs:List (Int×Int)):∀ (s:(Nat→Int)×(Nat→Nat)),cz n (qs.foldl (alS w l) s).1≤cz n s.1+qs.length:=by
 induction qs with
 | nil=>intro s;exact Nat.le_refl _
 | cons q qs ih=>
  intro s
  rw [List.foldl_cons]
  have h:=ih (alS w l s q)
  have h2:=zgU (f:=s.1) (a:=VP w q.1.toNat+s.2 q.1.toNat) (n:=n) (v:=l.getD q.2.toNat 0)
  have h3:cz n (alS w l s q).1≤cz n s.1+1:=h2
  rw [List.length_cons];omega
def sec (y:Int×Int):Bool:=decide (y.2>0)
theorem zdo {m n:Nat}:∀ (ps:List (Int×Int)) (a:Int),(∀ p∈ps,QOK m n p)→(ps.filter both).length+(zad a ps).length≤(ps.filter sec).length
 | [],_,_=>Nat.le_refl _
 | p::ps,a,h=>by
  obtain ⟨i,k,rfl,_,_,h0⟩:=h p (List.mem_cons_self ..)
  have hr:=fun q hq=>h q (List.mem_cons_of_mem _ hq)
  unfold zad
  split
  ·
   rename_i hi
   have ih:=zdo ps (i:Int) hr
   by_cases hk:0<k
   ·
    rw [List.filter_cons_of_pos (show both ((i:Int),(k:Int))=true by unfold both;simp at hi ⊢;omega),List.filter_cons_of_pos (show sec ((i:Int),(k:Int))=true by unfold sec;simp;omega),List.length_cons,List.length_cons]
    have ih:(ps.filter both).length+(zad ((i:Int),(k:Int)).1 ps).length≤(ps.filter sec).length:=ih
    omega
   ·
    rw [List.filter_cons_of_neg (show ¬both ((i:Int),(k:Int))=true by unfold both;simp;omega),List.filter_cons_of_neg (show ¬sec ((i:Int),(k:Int))=true by unfold sec;simp;omega)]
    exact ih
  ·
   rename_i hi
   have ih:=zdo ps a hr
   have hi0:i=0:=by simp at hi;omega
   rw [List.filter_cons_of_neg (show ¬both ((i:Int),(k:Int))=true by unfold both;simp;omega),List.filter_cons_of_pos (show sec ((i:Int),(k:Int))=true by unfold sec;simp;omega),List.length_cons,List.length_cons]
   omega
theorem zeV {a b:List Int}:∀ (f i k:Nat),i≤a.length→k≤b.length→((paF a b f i k).filter sec).length+k≤b.length
 | 0,_,k,_,hk=>by show 0+k≤_;omega
 | f+1,i,k,hi,hk=>by
  unfold paF
  split
  ·
   rename_i hg
   split
   ·
    rename_i hb
    have h1:i<a.length∧k<b.length:=by unfold WW at hb;simp at hb;omega
    have ih:=zeV f (i+1) (k+1) h1.1 h1.2
    rw [List.filter_cons_of_pos (show sec (((i+1:Nat):Int),((k+1:Nat):Int))=true by unfold sec;simp<;>omega),List.length_cons];omega
   ·
    rename_i hb
    split
    ·
     rename_i ho
     have h1:i<a.length:=by unfold zgC at ho;simp at ho;omega
     have ih:=zeV f (i+1) k h1 hk
     rw [List.filter_cons_of_neg (show ¬sec (((i+1:Nat):Int),(0:Int))=true by unfold sec;simp)];exact ih
    ·
     rename_i ho
     have h1:k<b.length:=zhO hi hk (by simp at hg;omega) (by simpa using hb) (by simpa using ho)
     have ih:=zeV f i (k+1) hi h1
     rw [List.filter_cons_of_pos (show sec ((0:Int),((k+1:Nat):Int))=true by unfold sec;simp<;>omega),List.length_cons];omega
  ·
   show 0+k≤_;omega
theorem zpL {xs:List Wr}{i:Nat}:((pfW xs i).filter both).length+(alW xs i).length≤(csW xs i).length:=by
 have h1:=zdo (pfW xs i) 0 (XU (xs:=xs) (i:=i)).1
 have h2:((pfW xs i).filter sec).length≤(csW xs i).length:=by
  unfold pfW
  split
  ·
   exact Nat.zero_le _
  ·
   unfold V1
   split
   ·
    exact Nat.zero_le _
   ·
    have:=zeV (a:=csW xs 0) (b:=csW xs i) ((csW xs 0).length+(csW xs i).length) 0 0 (Nat.zero_le _) (Nat.zero_le _)
    unfold zl1;omega
 exact Nat.le_trans h1 h2
theorem zt2 {xs:List Wr}{i n:Nat}:cz n (zoZ (wdW xs) (csW xs 0) (csW xs i) i (pfW xs i))≤(csW xs i).length:=by
 unfold zoZ alP
 have h1:=zv8 (w:=wdW xs) (l:=csW xs i) (n:=n) (zg1 (pfW xs i)) ((pfW xs i).foldl (prF (wdW xs) (csW xs i)) (if i=0 then txF (wdW xs) (csW xs 0) (csW xs 0).length else fun _=>0),fun _=>0)
 have h2:=zxz (w:=wdW xs) (l:=csW xs i) (n:=n) (pfW xs i) (if i=0 then txF (wdW xs) (csW xs 0) (csW xs 0).length else fun _=>0)
 have h3:=zpL (xs:=xs) (i:=i)
 by_cases h0:i=0
 ·
  subst h0
  have h4:=zut (w:=wdW xs) (T:=csW xs 0) (n:=n) (csW xs 0).length
  have e1:pfW xs 0=[]:=rfl
  rw [e1] at h1 h2 ⊢
  simp only [if_true] at h1 h2 ⊢
  have e2:zg1 []=[]:=rfl
  rw [e2] at h1 ⊢
  simp only [List.filter_nil,List.length_nil,Nat.add_zero] at h1 h2
  omega
 ·
  rw [if_neg h0] at h1 h2 ⊢
  rw [zdn] at h2
  have e3:(alW xs i).length=(zg1 (pfW xs i)).length:=rfl
  simp only at h1
  omega
theorem zmM {n:Nat}{f:Nat→Int}:∀ k,k≤n→nzF (Ve n f) k=cz k f
 | 0,_=>rfl
 | k+1,hk=>by
  have ih:=zmM (n:=n) (f:=f) k (by omega)
  have hx:(Ve n f)[k]? =some (f k):=YD (by omega)
  unfold cz
  by_cases h:f k=0
  ·
   rw [zm4 hx (by simp [h]),ih,if_pos h];rfl
  ·
   rw [zib hx (by simp [h]),ih,if_neg h]
theorem zjJ {xs:List Wr}:zwg xs (Uz xs):=by
 intro i x row hx hr k hk h0
 have hil:(Uz xs).length≤xs.length:=zdU.1
 unfold Uz at hr
 split at hr
 ·
  simp at hr
 ·
  rw [List.getElem?_map] at hr
  have hi:=(List.getElem?_eq_some_iff.1 hx).1
  rw [List.getElem?_range hi,Option.map_some] at hr
  have hr:=(Option.some.inj hr).symm
  subst hr
  unfold zqw at hk h0 ⊢
  rw [Yd] at hk
  have hg:=Q1 (d:=0) (YD (f:=zoZ (wdW xs) (csW xs 0) (csW xs i) i (pfW xs i)) hk)
  rw [hg] at h0
  rw [zmM k (by omega)]
  have h1:=zt2 (xs:=xs) (i:=i) (n:=k+1)
  have h2:cz (k+1) (zoZ (wdW xs) (csW xs 0) (csW xs i) i (pfW xs i))=cz k (zoZ (wdW xs) (csW xs 0) (csW xs i) i (pfW xs i))+1:=by
   show _+(if _ then 0 else 1)=_
   rw [if_neg h0]
  have h3:(csW xs i).length=x.rs.length:=by rw [zeB hx,List.length_map]
  omega
end
section
open Go Go.Kn Go.Proofs
theorem zoY {ws:List Wr}(h:zae ws=0)(h0:0<(Uz ws).length):WZ ws=0∧(Uz ws).length=ws.length:=by
 rcases zpw h with h1 | h1
 ·
  exact ⟨(zhQ h1).1,zfN rfl h0⟩
 ·
  rw [h1] at h0;simp at h0
end
section
open Go Go.Kn Go.Proofs
section
variable {ws:List Wr} {rows:List (List Int)} {no:Int} {cl:List Int} {es:List Em} {rd:List Int}
theorem zqk (h1:zae ws=0)(h2:Uz ws=rows)(h3:WP rows no cl es rd=0):rows.length=ws.length∧(∀ r∈rows,r.length=rd.length)∧rd.length≤64∧zwg ws rows∧(∀ x∈ws,x.rs.length≤64)∧YH rows cl=0∧rd=VG rows cl es:=by
 obtain ⟨hm,hr⟩:=zhv h3
 have hc:YH rows cl=0:=by
  cases Decidable.em (YH rows cl=0) with
  | inl h=>exact h
  | inr h=>rw [zh5 h] at hm;exact absurd hm h
 obtain ⟨hr1,hr6,hr64,hrr⟩:=We (zaa hc)
 have hl:rd.length=(rows.getD 0 []).length:=by rw [hr,Xn]
 obtain ⟨hk,hlen⟩:=zoY h1 (by rw [h2];omega)
 rw [h2] at hlen
 have h64:∀ x∈ws,x.rs.length≤64:=fun x hx=>by
  unfold WZ at hk
  split at hk
  ·
   omega
  ·
   split at hk
   ·
    omega
   ·
    rename_i hq
    have hq2:∀ x∈ws,x.rs.length≤64:=by simpa using hq
    exact hq2 x hx
 exact ⟨hlen,fun r hr'=>by rw [(hrr r hr').1,hl],by omega,by rw [←h2];exact zjJ,h64,hc,hr⟩
end
end
section
open Go Go.Kn Go.Proofs
def ixF {α:Type}(P:α→Bool)(xs:List α):List Int:=(xs.zipIdx.filter fun q=>P q.1).map fun q=>(q.2:Int)
theorem zkd {α:Type}{P:α→Bool}{xs:List α}{k:Nat}{x:α}(hx:xs[k]? =some x):ixF P (xs.take (k+1))=ixF P (xs.take k)++(if P x then [(k:Int)] else []):=by
 obtain ⟨hk,hk2⟩:=List.getElem?_eq_some_iff.1 hx
 have e:xs.take (k+1)=xs.take k++[x]:=by rw [List.take_add_one,hx];rfl
 unfold ixF
 rw [e,List.zipIdx_append,List.filter_append,List.map_append]
 have hl:(xs.take k).length=k:=by rw [List.length_take];omega
 cases h:P x<;>simp [h,hl]
theorem zjb {α:Type}{P:α→Bool}{xs:List α}{k:Nat}{x:α}(hx:xs[k]? =some x)(h:P x=true):ixF P (xs.take (k+1))=ixF P (xs.take k)++[(k:Int)]:=by rw [zkd hx,if_pos h]
theorem zqJ {α:Type}{P:α→Bool}{xs:List α}{k:Nat}{x:α}(hx:xs[k]? =some x)(h:P x=false):ixF P (xs.take (k+1))=ixF P (xs.take k):=by rw [zkd hx,if_neg (by rw [h];decide),List.append_nil]
def KZ (rows:List (List Int))(k:Nat)(c:Int):List Int:=ixF (fun r=>r.getD k 0==c) rows
def zgy (k:Nat)(n:Int):Option Int→List Int→Option Int
 | o,r=>if decide (r.getD k 0>n)&&(match o with | none=>true | some b=>decide (r.getD k 0<b)) then some (r.getD k 0) else o
def zni (rows:List (List Int))(k:Nat)(n:Int):Option Int:=rows.foldl (zgy k n) none
theorem zh3 {k:Nat}{n:Int}{o:Option Int}{r:List Int}(h:(decide (r.getD k 0>n)&&(!o.isSome||decide (r.getD k 0<o.getD 0)))=true):zgy k n o r=some (r.getD k 0):=by
 cases o<;>simp_all [zgy]
theorem znX {k:Nat}{n:Int}{o:Option Int}{r:List Int}(h:(decide (r.getD k 0>n)&&(!o.isSome||decide (r.getD k 0<o.getD 0)))=false):zgy k n o r=o:=by
 cases o<;>simp_all [zgy]<;>omega
structure Vt where
 code:Int
 ws:List Int
structure En where
 loc:Int
 lem:Int
 vs:List Vt
structure Og where
 k:Int
 r:Int
 ws:List Int
 ps:List Int
deriving DecidableEq
def zwj (q:Nat)(r:List Int):Bool:=r.getD q 0 != 0&&r.getD q 0 != 8589934592
def zxE (q:Int)(e:Em):Bool:=e.locus==q&&e.reason==2
def OgQ (o:Og)(v:Value)(I:Qu)(L:Go.Kn.Loc):Prop:=L=[]∧∃ a n c b m d,v= .agg #[.int .i64 o.k,.int .i64 o.r,.slice a n c,.slice b m d]∧Sl I 1 QR a n c o.ws∧Sl I 1 QR b m d o.ps
def zrR (rows:List (List Int))(q:Nat):Nat→Option Int→List Vt
 | _,none=>[]
 | 0,some _=>[]
 | m+1,some c=>⟨c,KZ rows q c⟩::zrR rows q m (zni rows q c)
def znb (rows:List (List Int))(q:Nat):List Vt:=zrR rows q rows.length (zni rows q (-1))
theorem zhN {q:Nat}{n:Int}:∀ {rows:List (List Int)} {o:Option Int} {c:Int},rows.foldl (zgy q n) o=some c→o=some c∨(n<c∧∃ r∈rows,r.getD q 0=c)
 | [],o,c,h=>.inl h
 | r::rows,o,c,h=>by
  rcases zhN (rows:=rows) h with h1 | ⟨h1,r',h2,h3⟩
  ·
   cases hb:(decide (r.getD q 0>n)&&(!o.isSome||decide (r.getD q 0<o.getD 0))) with
   | true=>
    rw [zh3 hb] at h1
    cases h1
    simp only [Bool.and_eq_true,decide_eq_true_eq] at hb
    exact .inr ⟨hb.1,r,List.mem_cons_self ..,rfl⟩
   | false=>rw [znX hb] at h1;exact .inl h1
  ·
   exact .inr ⟨h1,r',List.mem_cons_of_mem _ h2,h3⟩
theorem zmT {rows:List (List Int)}{q:Nat}{n c:Int}(h:zni rows q n=some c):n<c∧∃ r∈rows,r.getD q 0=c:=(zhN h).resolve_left (by simp)
theorem zhM {rows:List (List Int)}{q m:Nat}{c:Int}:zrR rows q (m+1) (some c)=⟨c,KZ rows q c⟩::zrR rows q m (zni rows q c):=rfl
theorem zgY {rows:List (List Int)}{q m:Nat}:zrR rows q m none=[]:=by cases m<;>rfl
def zak {α β:Type}(R:α→β→Prop)(hs:List α)(vs:List β):Prop:=hs.length=vs.length∧∀ (k:Nat) (h:α) (v:β),hs[k]? =some h→vs[k]? =some v→R h v
theorem zak.nil {α β:Type}{R:α→β→Prop}:zak R [] []:=⟨rfl,fun k h v a=>by simp at a⟩
theorem zak.imp {α β:Type}{R R':α→β→Prop}{hs:List α}{vs:List β}(h:zak R hs vs)(hi:∀ a b,R a b→R' a b):zak R' hs vs:=⟨h.1,fun k x v a b=>hi _ _ (h.2 k x v a b)⟩
theorem zak.snoc {α β:Type}{R:α→β→Prop}{hs:List α}{vs:List β}(h:zak R hs vs){x:α}{v:β}(hV:R x v):zak R (hs++[x]) (vs++[v]):=by
 refine ⟨by simp [h.1],fun k y z a b=>?_⟩
 rw [List.getElem?_append] at a b
 rw [h.1] at a
 split at a
 ·
  next hk=>rw [if_pos hk] at b;exact h.2 k y z a b
 ·
  next hk=>
  rw [if_neg hk] at b
  cases hk2:k-vs.length with
  | zero=>rw [hk2] at a b;simp at a b;subst a b;exact hV
  | succ j=>rw [hk2] at a;simp at a
theorem zak.at {α β:Type}{R:α→β→Prop}{hs:List α}{vs:List β}(h:zak R hs vs){k:Nat}{v:β}(hv:vs[k]? =some v):∃ x,hs[k]? =some x∧R x v:=by
 obtain ⟨hk,_⟩:=List.getElem?_eq_some_iff.1 hv
 have hk2:k<hs.length:=by rw [h.1];exact hk
 exact ⟨hs[k],List.getElem?_eq_getElem hk2,h.2 k _ _ (List.getElem?_eq_getElem hk2) hv⟩
structure Vh where
 code:Int
 h:Hd
def zbl (x:Vh):List Value:=[.int .i64 x.code,.slice x.h.a x.h.n x.h.c]
theorem Zm (x:Vh):(zbl x).length=2:=rfl
def zuV (I:Qu)(x:Vh)(v:Vt):Prop:=x.code=v.code∧Sl I 1 QR x.h.a x.h.n x.h.c v.ws
theorem zuV.mono {I I':Qu}{x:Vh}{v:Vt}(h:zuV I x v)(hI:HLe I I'):zuV I' x v:=⟨h.1,h.2.mono hI⟩
def zcS (I:Qu)(hs:List Vh)(vs:List Vt):Prop:=zak (zuV I) hs vs
theorem zcS.mono {I I':Qu}{hs:List Vh}{vs:List Vt}(h:zcS I hs vs)(hI:HLe I I'):zcS I' hs vs:=zak.imp h fun _ _ q=>q.mono hI
theorem zcS.snoc {I:Qu}{hs:List Vh}{vs:List Vt}(h:zcS I hs vs){x:Vh}{v:Vt}(hV:zuV I x v):zcS I (hs++[x]) (vs++[v]):=zak.snoc h hV
def SlV (I:Qu)(a:Option Addr)(n c:Nat)(vs:List Vt):Prop:=∃ hs,Sl I 2 zbl a n c hs∧zcS I hs vs
theorem SlV.mono {I I':Qu}{a:Option Addr}{n c:Nat}{vs:List Vt}(h:SlV I a n c vs)(hI:HLe I I'):SlV I' a n c vs:=⟨_,h.choose_spec.1.mono hI,h.choose_spec.2.mono hI⟩
structure Eh where
 loc:Int
 lem:Int
 h:Hd
def zcx (x:Eh):List Value:=[.int .i64 x.loc,.int .i64 x.lem,.slice x.h.a x.h.n x.h.c]
theorem Zl (x:Eh):(zcx x).length=3:=rfl
def zsK (I:Qu)(x:Eh)(v:En):Prop:=x.loc=v.loc∧x.lem=v.lem∧SlV I x.h.a x.h.n x.h.c v.vs
theorem zsK.mono {I I':Qu}{x:Eh}{v:En}(h:zsK I x v)(hI:HLe I I'):zsK I' x v:=⟨h.1,h.2.1,h.2.2.mono hI⟩
def zcf (I:Qu)(hs:List Eh)(vs:List En):Prop:=zak (zsK I) hs vs
theorem zcf.mono {I I':Qu}{hs:List Eh}{vs:List En}(h:zcf I hs vs)(hI:HLe I I'):zcf I' hs vs:=zak.imp h fun _ _ q=>q.mono hI
theorem zcf.snoc {I:Qu}{hs:List Eh}{vs:List En}(h:zcf I hs vs){x:Eh}{v:En}(hV:zsK I x v):zcf I (hs++[x]) (vs++[v]):=zak.snoc h hV
def ze1 (I:Qu)(a:Option Addr)(n c:Nat)(vs:List En):Prop:=∃ hs,Sl I 3 zcx a n c hs∧zcf I hs vs
theorem ze1.mono {I I':Qu}{a:Option Addr}{n c:Nat}{vs:List En}(h:ze1 I a n c vs)(hI:HLe I I'):ze1 I' a n c vs:=⟨_,h.choose_spec.1.mono hI,h.choose_spec.2.mono hI⟩
theorem zvX (xs:List Vh):Yx (xs.flatMap zbl)=true:=Yl (fun _=>rfl) xs
theorem zty (xs:List Eh):Yx (xs.flatMap zcx)=true:=Yl (fun _=>rfl) xs
end
section
open Go Go.Kn Go.Proofs
theorem YW:AgT Tryz.prog 38 4:=.of (by kernel_rfl)
theorem Xq:PlT Tryz.prog 38 #[(0,1),(1,1),(2,1),(3,1)] (.agg #[(.int .i64 0),(.int .i64 0),(.slice none 0 0),(.slice none 0 0)]):=⟨.of (by kernel_rfl),by kernel_rfl,fun w=>by kernel_rfl⟩
theorem VH:SzT Tryz.prog 38 4:=.of (by kernel_rfl)
theorem WC:Yp Tryz.prog 38 (.agg #[(.int .i64 0),(.int .i64 0),(.slice none 0 0),(.slice none 0 0)]):=.of (by kernel_rfl)
theorem zwL {I:Qu}{bv:Option Addr}{n2 c2:Nat}{rows:List (List Int)}(hV:SlN I bv n2 c2 rows)(hn2:n2≤100000)(q:Nat)(hq:∀ r∈rows,q<r.length)(c:Int):Yg Tryz.prog 123 [.slice bv n2 c2,.int .i64 (q:Nat),.int .i64 c] I [] (zbT 1 QR (KZ rows q c)):=by
 intro g H w hw
 refine qe Tryz.func123 Tryz.ntmps123 hw ?_
 have hIc:=zye I
 have hVl:=hV.len
 obtain ⟨hs,hVH⟩:=id hV
 have hHH:=hVH.1
 refine zR (zA (zN (Ql (zR ?_))))
 refine zM ?_
 refine zQ Zo ?_
 refine zM (zN (Qm ?_))
 refine zU [(1,_),(2,_),(9,_),(10,_)] (fun T L0 mz E I' loc'=>∃ (k:Nat) (v:Value) (m:Nat) (L:Go.Kn.Loc),mz=n2-k∧E=(6,v)::(11,.int .i64 k)::T∧I=I'∧L=loc'∧k≤n2∧OwnS 3 1 v m ((ixF (fun r=>r.getD q 0==c) (rows.take k)).flatMap QR) L∧m≤k) ?_ (h:=⟨0,_,0,[],rfl,rfl,rfl,rfl,Nat.zero_le _,by rw [List.take_zero];exact OwnS.nil,Nat.le_refl _⟩)
 rintro mz E I' loc' ⟨k,v,m,L,rfl,rfl,rfl,rfl,hk,hO,hm⟩
 refine zR (zC (zN (Ql ?_)))
 refine zI ?_ ?_<;>intro hc12
 ·
  have hlt_k:k<n2:=by have h:=hc12;simp at h;omega
  obtain ⟨hx,rx,hhx,hrx,hQ⟩:=hVH.at hlt_k
  have hqk:=hq rx (List.mem_of_getElem? hrx)
  have hQl:=hQ.len
  have hgx:rx[q]? =some (rx.getD q 0):=Zk rfl (by omega)
  refine Qo (Qa (Ql (Qm (zR (zM ?_)))))
  refine zV (zX Zo hHH) ?_
  refine zV (Qd rfl QK (fun hg=>by exact zx7 hHH hhx rfl)) ?_
  refine zA ?_
  refine zA ?_
  refine zN (zR ?_)
  refine zM ?_
  refine zM ?_
  refine zV (zX Qy hQ) ?_
  refine zV (Qd rfl Qs (fun hg=>by exact zx7 (k:=q) hQ hgx rfl)) ?_
  refine zM ?_
  refine zC (zN ?_)
  refine zI ?_ ?_<;>intro hc21
  ·
   have hy:(rx.getD q 0==c)=true:=by simpa using hc21
   refine Qg (zM ?_)
   refine zM ?_
   refine Qq (ps:=[(0,_)]) (m:=[QR (k:Int)]) Zi rfl (.cons rfl (.nil)) rfl (by simp [Qv]) (by decide) (by decide) rfl rfl (fun b_24=>?_)
   refine QY (v:=_) (ys:=[(k:Int)].flatMap QR) (L:=L) rfl rfl Zi hO (by repeat (first | exact .cons .here .nil | exact QD | exact Qw | apply QC | apply QB)) ⟨rfl,fun _=>rfl,by repeat (first | exact zyc | apply zyb | apply zyd)⟩ (JG _) (by omega) rfl rfl ?_
   intro v9 L9 hO9 _;rw [←List.flatMap_append] at hO9
   refine zA (Qb (Qh (Qa (Qg ?_))))
   refine zB ?_
   refine zM (Qb ?_)
   first
   | exact zm (h:=⟨n2-(k+1),by omega,k+1,_,_,_,rfl,rfl,rfl,rfl,by omega,by rw [zjb hrx hy];exact hO9,by omega⟩)
  have hy:(rx.getD q 0==c)=false:=by simpa using hc21
  refine Qo (Qh (Qa (Qg (zB ?_))))
  refine zM (Qb ?_)
  first
  | exact zm (h:=⟨n2-(k+1),by omega,k+1,_,_,_,rfl,rfl,rfl,rfl,by omega,by rw [zqJ hrx hy];exact hO,by omega⟩)
 have hge_k:n2≤k:=by have h:=hc12;simp at h;omega
 rw [ZF hVl hge_k] at hO
 refine QI (Qf (Qf (Qk (Qa (zR (zM ?_))))))
 refine zA (zN (Qt ?_))
 exact Zv rfl rfl (fun w hw=>by obtain ⟨I9,h91,h92,h93⟩:=OwnS.res hO Qv (by decide) hw;exact ⟨_,I9,[],rfl,hIc.trans h91,h92,h93⟩)
theorem zbP {I:Qu}{av:Option Addr}{n c:Nat}{xs:List Int}(hS:Sl I 1 QR av n c xs){bv:Option Addr}{n2 c2:Nat}{ys:List Int}(hT:Sl I 1 QR bv n2 c2 ys)(hn:n≤100000):Zw Tryz.prog 43 [.slice av n c,.slice bv n2 c2] I (.bool (decide (xs=ys))):=by
 intro g H w hw
 refine qe Tryz.func43 Tryz.ntmps43 hw ?_
 have hl1:=hS.len
 have hl2:=hT.len
 refine zR (zA (zN (Ql (zR ?_))))
 refine zM ?_
 refine zQ Qy ?_
 refine zM ?_
 refine zQ Qy ?_
 refine zC (zN ?_)
 refine zI ?_ ?_<;>intro hc10
 ·
  have hne:xs≠ys:=fun e=>by have h:=hc10;subst e;simp at h;omega
  refine zR (zA (zN (Qt (Qc ?_))))
  exact zr rfl rfl (by rw [decide_eq_false hne])
 have hnn:n=n2:=by have h:=hc10;simp at h;omega
 refine Qo (Qa (Ql (zR (zA (zN (Qm ?_))))))
 refine zU [(0,_),(1,_)] (fun T L0 mz E I' loc'=>∃ (k:Nat),mz=n-k∧E=(5,.int .i64 k)::T∧I=I'∧L0=loc'∧k≤n∧xs.take k=ys.take k) ?_ (h:=⟨0,rfl,rfl,rfl,rfl,Nat.zero_le _,rfl⟩)
 rintro mz E I' loc' ⟨k,rfl,rfl,rfl,rfl,hk,hall⟩
 refine Ql (zR (zM ?_))
 refine zM ?_
 refine zQ Qy ?_
 refine zC (zN ?_)
 refine zI ?_ ?_<;>intro hc14
 ·
  have hlt_k:k<n:=by have h:=hc14;simp at h;omega
  obtain ⟨x,hx⟩:=hS.at hlt_k
  obtain ⟨y,hy⟩:=hT.at (show k<n2 by omega)
  refine Qo (Qa (Ql (Qm (Ql ?_))))
  refine YU mixed (by kernel_rfl) ?_
  refine zq (Qi rfl) ?_
  refine zq (Qi rfl) ?_
  refine zq (zX Qy hS) ?_
  refine zq (Qd rfl Qs (fun hg=>by exact zx7 hS hx rfl)) ?_
  refine zq (Qi rfl) ?_
  refine zq (Qi rfl) ?_
  refine zq (zX Qy hT) ?_
  refine zq (Qd rfl Qs (fun hg=>by exact zx7 hT hy rfl)) ?_
  refine zq (QH rfl rfl rfl) ?_
  refine YV ?_
  refine Qa ?_
  refine zI ?_ ?_<;>intro hc25
  ·
   have hne:xs≠ys:=fun e=>by subst e;rw [hx] at hy;cases hy;simp at hc25
   refine zR (zA (zN (Qt (Qn (Qc (Qc (Qn ?_)))))))
   refine Qc ?_
   exact zr rfl rfl (by rw [decide_eq_false hne])
  have hxy:x=y:=by simpa using hc25
  refine Qo (Qh (Qa (Qg (zM ?_))))
  refine zB ?_
  refine zA (Qb ?_)
  exact zm (h:=⟨n-(k+1),by omega,k+1,rfl,rfl,rfl,rfl,by omega,by rw [List.take_add_one,List.take_add_one,hall,hx,hy,hxy]⟩)
 have hge_k:n≤k:=by have h:=hc14;simp at h;omega
 have heq:xs=ys:=by rw [List.take_of_length_le (by omega),List.take_of_length_le (by omega)] at hall;exact hall
 refine QI (Qf (Qf (Qk (Qa (zR (zA (zN ?_)))))))
 refine Qt ?_
 exact zr rfl rfl (by rw [decide_eq_true heq])
end
section
open Go Go.Kn Go.Proofs
theorem zhK:ElT Tryz.prog 72 77 2 32:=.of (by kernel_rfl)
theorem zjL:PlT Tryz.prog 77 #[(0,1),(1,1)] (.agg #[(.int .i64 0),(.slice none 0 0)]):=⟨.of (by kernel_rfl),by kernel_rfl,fun w=>by kernel_rfl⟩
end
section
open Go Go.Kn Go.Proofs
def zvN (rows:List (List Int))(rd:List Int)(k:Nat):List En:=if (KZ rows k (rd.getD k 0)).length<rows.length then [⟨(k:Int),rd.getD k 0,znb rows k⟩] else []
def zhb (rows:List (List Int))(rd:List Int)(k:Nat):List En:=(List.range k).flatMap (zvN rows rd)
theorem zb9 {rows:List (List Int)}{rd:List Int}{k:Nat}:zhb rows rd (k+1)=zhb rows rd k++zvN rows rd k:=by
 unfold zhb;rw [List.range_succ,List.flatMap_append];simp
theorem zkr {rows:List (List Int)}{rd:List Int}{k:Nat}(h:(KZ rows k (rd.getD k 0)).length<rows.length):zhb rows rd (k+1)=zhb rows rd k++[⟨(k:Int),rd.getD k 0,znb rows k⟩]:=by rw [zb9];unfold zvN;rw [if_pos h]
theorem zps {rows:List (List Int)}{rd:List Int}{k:Nat}(h:¬(KZ rows k (rd.getD k 0)).length<rows.length):zhb rows rd (k+1)=zhb rows rd k:=by rw [zb9];unfold zvN;rw [if_neg h,List.append_nil]
def zwf (e:Int)(rows:List (List Int))(rd:List Int):List En:=if e≠0 then [] else zhb rows rd rd.length
theorem zof {e:Int}{rows:List (List Int)}{rd:List Int}(h:e≠0):zwf e rows rd=[]:=if_pos h
theorem zfM {e:Int}{rows:List (List Int)}{rd:List Int}(h:e=0):zwf e rows rd=zhb rows rd rd.length:=if_neg (by omega)
def zwx (e:Int)(xs:List En)(v:Value)(I:Qu)(L:Go.Kn.Loc):Prop:=L=[]∧∃ a n c,v= .tuple #[.slice a n c,.int .i64 e]∧ze1 I a n c xs
theorem ze1.nil {I:Qu}:ze1 I none 0 0 []:=⟨[],.nil,zak.nil⟩
theorem SlV.len {I:Qu}{a:Option Addr}{n c:Nat}{vs:List Vt}(h:SlV I a n c vs):vs.length=n:=by obtain ⟨hs,h1,h2⟩:=h;rw [←h2.1];exact h1.len
theorem ze1.len {I:Qu}{a:Option Addr}{n c:Nat}{vs:List En}(h:ze1 I a n c vs):vs.length=n:=by obtain ⟨hs,h1,h2⟩:=h;rw [←h2.1];exact h1.len
def eqL {α:Type}(P:α→α→Bool):List α→List α→Bool
 | [],[]=>true
 | a::as1,b::bs=>P a b&&eqL P as1 bs
 | _,_=>false
theorem zej {α:Type}{P:α→α→Bool}:∀ {xs ys:List α},xs.length≠ys.length→eqL P xs ys=false
 | [],[],h=>absurd rfl h
 | _::_,[],_=>rfl
 | [],_::_,_=>rfl
 | a::xs,b::ys,h=>by
  unfold eqL;rw [zej (xs:=xs) (ys:=ys) (fun e=>h (by simp [e])),Bool.and_false]
theorem zbJ {α:Type}{P:α→α→Bool}:∀ {xs ys:List α} {k:Nat} {x y:α},xs[k]? =some x→ys[k]? =some y→eqL P (xs.take (k+1)) (ys.take (k+1))=(eqL P (xs.take k) (ys.take k)&&P x y)
 | [],_,k,x,y,h,_=>by simp at h
 | _::_,[],k,x,y,_,h=>by simp at h
 | a::xs,b::ys,0,x,y,h1,h2=>by simp at h1 h2;subst h1;subst h2;simp [eqL]
 | a::xs,b::ys,k+1,x,y,h1,h2=>by
  simp only [List.getElem?_cons_succ] at h1 h2
  simp only [List.take_succ_cons,eqL]
  rw [zbJ h1 h2,Bool.and_assoc]
theorem zdN {α:Type}{P:α→α→Bool}:∀ {xs ys:List α} {k:Nat} {x y:α},xs[k]? =some x→ys[k]? =some y→P x y=false→eqL P xs ys=false
 | [],_,k,x,y,h,_,_=>by simp at h
 | _::_,[],k,x,y,_,h,_=>by simp at h
 | a::xs,b::ys,0,x,y,h1,h2,h=>by simp at h1 h2;subst h1;subst h2;unfold eqL;rw [h];rfl
 | a::xs,b::ys,k+1,x,y,h1,h2,h=>by
  simp only [List.getElem?_cons_succ] at h1 h2
  unfold eqL;rw [zdN h1 h2 h,Bool.and_false]
theorem zbL {α:Type}{P:α→α→Bool}(h:∀ a,P a a=true):∀ xs:List α,eqL P xs xs=true
 | []=>rfl
 | a::xs=>by unfold eqL;rw [h a,zbL h xs];rfl
theorem dm2 {p q c:Bool}(h:(!p|| !q)=c):(p&&q)= !c:=by cases p<;>cases q<;>simp_all
theorem dm3 {p q r c:Bool}(h:((!p|| !q)|| !r)=c):((p&&q)&&r)= !c:=by cases p<;>cases q<;>cases r<;>simp_all
def vtE (x y:Vt):Bool:=x.code==y.code&&decide (x.ws=y.ws)
def enE (x y:En):Bool:=(x.loc==y.loc&&x.lem==y.lem)&&eqL vtE x.vs y.vs
theorem zlz (x:Vt):vtE x x=true:=by simp [vtE]
theorem zlT (x:En):enE x x=true:=by unfold enE;rw [zbL zlz];simp
def ogE (x y:Og):Bool:=x.k==y.k&&(x.r==y.r&&(decide (x.ws=y.ws)&&decide (x.ps=y.ps)))
theorem zkv (x:Og):ogE x x=true:=by simp [ogE]
end
section
open Go Go.Kn Go.Proofs
theorem zjk:ElT Tryz.prog 29 74 3 40:=.of (by kernel_rfl)
theorem W7:QW Tryz.prog 38 0 0:=.of (by kernel_rfl)
theorem zew:QW Tryz.prog 38 1 1:=.of (by kernel_rfl)
theorem zfl:QW Tryz.prog 38 2 2:=.of (by kernel_rfl)
theorem Xf:QW Tryz.prog 38 3 3:=.of (by kernel_rfl)
theorem zfQ:QW Tryz.prog 74 0 0:=.of (by kernel_rfl)
theorem zeX:QW Tryz.prog 74 1 1:=.of (by kernel_rfl)
theorem Xa:QW Tryz.prog 74 2 2:=.of (by kernel_rfl)
theorem zfw:QW Tryz.prog 77 0 0:=.of (by kernel_rfl)
theorem zeM:QW Tryz.prog 77 1 1:=.of (by kernel_rfl)
theorem zrY:Fun Tryz.prog 35:=.of Tryz.func35 (by kernel_rfl) (by kernel_rfl)
theorem zkb:Fun Tryz.prog 43:=.of Tryz.func43 (by kernel_rfl) (by kernel_rfl)
theorem zn3:PlT Tryz.prog 74 #[(0,1),(1,1),(2,1)] (.agg #[(.int .i64 0),(.int .i64 0),(.slice none 0 0)]):=⟨.of (by kernel_rfl),by kernel_rfl,fun w=>by kernel_rfl⟩
theorem zjA:ScT Tryz.prog 72:=.of (by kernel_rfl)
theorem UL:SlT Tryz.prog 29 74 3:=.of (by kernel_rfl)
theorem Xs:SlT Tryz.prog 72 77 2:=.of (by kernel_rfl)
theorem zli {I:Qu}{av:Option Addr}{n c:Nat}{xs:List Vt}(hS:SlV I av n c xs){bv:Option Addr}{n2 c2:Nat}{ys:List Vt}(hT:SlV I bv n2 c2 ys)(hn:n≤100000)(hlb:∀ v∈xs,v.ws.length≤100000):Zw Tryz.prog 35 [.slice av n c,.slice bv n2 c2] I (.bool (eqL vtE xs ys)):=by
 intro g H w hw
 refine qe Tryz.func35 Tryz.ntmps35 hw ?_
 have hl1:=hS.len
 have hl2:=hT.len
 obtain ⟨hs,hSh,hSr⟩:=hS
 obtain ⟨ht,hTh,hTr⟩:=hT
 refine zR (zA (zN (Ql (zR ?_))))
 refine zM ?_
 refine zQ Xs ?_
 refine zM ?_
 refine zQ Xs ?_
 refine zC (zN ?_)
 refine zI ?_ ?_<;>intro hc10
 ·
  have hne:xs.length≠ys.length:=by have h:=hc10;simp at h;omega
  refine zR (zA (zN (Qt (Qc ?_))))
  exact zr rfl rfl (by rw [zej hne])
 have hnn:n=n2:=by have h:=hc10;simp at h;omega
 refine Qo (Qa (Ql (zR (zA (zN (Qm ?_))))))
 refine zU [(0,_),(1,_)] (fun T L0 mz E I' loc'=>∃ (k:Nat),mz=n-k∧E=(5,.int .i64 k)::T∧I=I'∧L0=loc'∧k≤n∧eqL vtE (xs.take k) (ys.take k)=true) ?_ (h:=⟨0,rfl,rfl,rfl,rfl,Nat.zero_le _,rfl⟩)
 rintro mz E I' loc' ⟨k,rfl,rfl,rfl,rfl,hk,hall⟩
 refine Ql (zR (zM ?_))
 refine zM ?_
 refine zQ Xs ?_
 refine zC (zN ?_)
 refine zI ?_ ?_<;>intro hc14
 ·
  have hlt_k:k<n:=by have h:=hc14;simp at h;omega
  obtain ⟨u,hu⟩:∃ u,xs[k]? =some u:=⟨_,List.getElem?_eq_getElem (by omega)⟩
  obtain ⟨v,hv⟩:∃ v,ys[k]? =some v:=⟨_,List.getElem?_eq_getElem (by omega)⟩
  obtain ⟨x,hx,rx⟩:=hSr.at hu
  obtain ⟨y,hy,ry⟩:=hTr.at hv
  have hub:=hlb u (List.mem_of_getElem? hu)
  refine Qo (Qa (Ql (Qm (Ql ?_))))
  refine YU mixed (by kernel_rfl) ?_
  refine zq (Qi rfl) ?_
  refine zq (Qi rfl) ?_
  refine zq (zX Xs hSh) ?_
  refine zq (Qe rfl zfw) ?_
  refine zq (Qd rfl Qs (fun hg=>by exact zx7 hSh hx rfl)) ?_
  refine zq (Qi rfl) ?_
  refine zq (Qi rfl) ?_
  refine zq (zX Xs hTh) ?_
  refine zq (Qe rfl zfw) ?_
  refine zq (Qd rfl Qs (fun hg=>by exact zx7 hTh hy rfl)) ?_
  refine zq (QH rfl rfl rfl) ?_
  refine zq (Qi rfl) ?_
  refine Vu 11 rfl rfl rfl ?_
  refine zj (Qi rfl) ?_
  refine zj (Qi rfl) ?_
  refine zj (zX Xs hSh) ?_
  refine zj (Qe rfl zeM) ?_
  refine zj (Qd rfl QK (fun hg=>by exact zyg (j:=1) hSh hx rfl)) ?_
  refine zj (Qi rfl) ?_
  refine zj (Qi rfl) ?_
  refine zj (zX Xs hTh) ?_
  refine zj (Qe rfl zeM) ?_
  refine zj (Qd rfl QK (fun hg=>by exact zyg (j:=1) hTh hy rfl)) ?_
  refine Ux (cap:=[]) (vs:=[_,_]) rfl rfl zkb (fun hg=>zbP rx.2 ry.2 (by rw [←rx.2.len];exact hub)) (.some rfl rfl rfl rfl gbf) rfl rfl ?_
  refine zj (Vy rfl) ?_
  refine U7 rfl rfl rfl rfl rfl ?_
  refine YV ?_
  refine Qa ?_
  refine zI ?_ ?_<;>intro hc41
  ·
   have hxy:vtE u v=false:=by unfold vtE;rw [←rx.1,←ry.1];exact dm2 hc41
   refine zR (zA (zN (Qt (Qn (Qc (Qc (Qn ?_)))))))
   refine Qc ?_
   exact zr rfl rfl (by rw [zdN hu hv hxy])
  have hxy:vtE u v=true:=by unfold vtE;rw [←rx.1,←ry.1];exact dm2 hc41
  refine Qo (Qh (Qa (Qg (zM ?_))))
  refine zB ?_
  refine zA (Qb ?_)
  exact zm (h:=⟨n-(k+1),by omega,k+1,rfl,rfl,rfl,rfl,by omega,by rw [zbJ hu hv,hall,hxy];rfl⟩)
 have hge_k:n≤k:=by have h:=hc14;simp at h;omega
 rw [List.take_of_length_le (by omega),List.take_of_length_le (by omega)] at hall
 refine QI (Qf (Qf (Qk (Qa (zR (zA (zN ?_)))))))
 refine Qt ?_
 exact zr rfl rfl (by rw [hall])
theorem zk9 {I:Qu}{av:Option Addr}{n c:Nat}{xs:List En}(hS:ze1 I av n c xs){bv:Option Addr}{n2 c2:Nat}{ys:List En}(hT:ze1 I bv n2 c2 ys)(hn:n≤100000)(hlb:∀ v∈xs,v.vs.length≤100000∧∀ u∈v.vs,u.ws.length≤100000):Zw Tryz.prog 13 [.slice av n c,.slice bv n2 c2] I (.bool (eqL enE xs ys)):=by
 intro g H w hw
 refine qe Tryz.func13 Tryz.ntmps13 hw ?_
 have hl1:=hS.len
 have hl2:=hT.len
 obtain ⟨hs,hSh,hSr⟩:=hS
 obtain ⟨ht,hTh,hTr⟩:=hT
 refine zR (zA (zN (Ql (zR ?_))))
 refine zM ?_
 refine zQ UL ?_
 refine zM ?_
 refine zQ UL ?_
 refine zC (zN ?_)
 refine zI ?_ ?_<;>intro hc10
 ·
  have hne:xs.length≠ys.length:=by have h:=hc10;simp at h;omega
  refine zR (zA (zN (Qt (Qc ?_))))
  exact zr rfl rfl (by rw [zej hne])
 have hnn:n=n2:=by have h:=hc10;simp at h;omega
 refine Qo (Qa (Ql (zR (zA (zN (Qm ?_))))))
 refine zU [(0,_),(1,_)] (fun T L0 mz E I' loc'=>∃ (k:Nat),mz=n-k∧E=(5,.int .i64 k)::T∧I=I'∧L0=loc'∧k≤n∧eqL enE (xs.take k) (ys.take k)=true) ?_ (h:=⟨0,rfl,rfl,rfl,rfl,Nat.zero_le _,rfl⟩)
 rintro mz E I' loc' ⟨k,rfl,rfl,rfl,rfl,hk,hall⟩
 refine Ql (zR (zM ?_))
 refine zM ?_
 refine zQ UL ?_
 refine zC (zN ?_)
 refine zI ?_ ?_<;>intro hc14
 ·
  have hlt_k:k<n:=by have h:=hc14;simp at h;omega
  obtain ⟨u,hu⟩:∃ u,xs[k]? =some u:=⟨_,List.getElem?_eq_getElem (by omega)⟩
  obtain ⟨v,hv⟩:∃ v,ys[k]? =some v:=⟨_,List.getElem?_eq_getElem (by omega)⟩
  obtain ⟨x,hx,rx⟩:=hSr.at hu
  obtain ⟨y,hy,ry⟩:=hTr.at hv
  have hub:=hlb u (List.mem_of_getElem? hu)
  refine Qo (Qa (Ql (Qm (Ql ?_))))
  refine YU mixed (by kernel_rfl) ?_
  refine zq (Qi rfl) ?_
  refine zq (Qi rfl) ?_
  refine zq (zX UL hSh) ?_
  refine zq (Qe rfl zfQ) ?_
  refine zq (Qd rfl Qs (fun hg=>by exact zx7 hSh hx rfl)) ?_
  refine zq (Qi rfl) ?_
  refine zq (Qi rfl) ?_
  refine zq (zX UL hTh) ?_
  refine zq (Qe rfl zfQ) ?_
  refine zq (Qd rfl Qs (fun hg=>by exact zx7 hTh hy rfl)) ?_
  refine zq (QH rfl rfl rfl) ?_
  refine zq (Qi rfl) ?_
  refine Vu 11 rfl rfl rfl ?_
  refine zj (Qi rfl) ?_
  refine zj (Qi rfl) ?_
  refine zj (zX UL hSh) ?_
  refine zj (Qe rfl zeX) ?_
  refine zj (Qd rfl Qs (fun hg=>by exact zyg (j:=1) hSh hx rfl)) ?_
  refine zj (Qi rfl) ?_
  refine zj (Qi rfl) ?_
  refine zj (zX UL hTh) ?_
  refine zj (Qe rfl zeX) ?_
  refine zj (Qd rfl Qs (fun hg=>by exact zyg (j:=1) hTh hy rfl)) ?_
  refine zj (QH rfl rfl rfl) ?_
  refine U7 rfl rfl rfl rfl rfl ?_
  refine zq (Qi rfl) ?_
  refine Vu 24 rfl rfl rfl ?_
  refine zj (Qi rfl) ?_
  refine zj (Qi rfl) ?_
  refine zj (zX UL hSh) ?_
  refine zj (Qe rfl Xa) ?_
  refine zj (Qd rfl zjA (fun hg=>by exact zyg (j:=2) hSh hx rfl)) ?_
  refine zj (Qi rfl) ?_
  refine zj (Qi rfl) ?_
  refine zj (zX UL hTh) ?_
  refine zj (Qe rfl Xa) ?_
  refine zj (Qd rfl zjA (fun hg=>by exact zyg (j:=2) hTh hy rfl)) ?_
  refine Ux (cap:=[]) (vs:=[_,_]) rfl rfl zrY (fun hg=>zli rx.2.2 ry.2.2 (by rw [←rx.2.2.len];exact hub.1) hub.2) (.some rfl rfl rfl rfl gbf) rfl rfl ?_
  refine zj (Vy rfl) ?_
  refine U7 rfl rfl rfl rfl rfl ?_
  refine YV ?_
  refine Qa ?_
  refine zI ?_ ?_<;>intro hc54
  ·
   have hxy:enE u v=false:=by unfold enE;rw [←rx.1,←ry.1,←rx.2.1,←ry.2.1];exact dm3 hc54
   refine zR (zA (zN (Qt (Qn (Qc (Qc (Qn ?_)))))))
   refine Qc ?_
   exact zr rfl rfl (by rw [zdN hu hv hxy])
  have hxy:enE u v=true:=by unfold enE;rw [←rx.1,←ry.1,←rx.2.1,←ry.2.1];exact dm3 hc54
  refine Qo (Qh (Qa (Qg (zM ?_))))
  refine zB ?_
  refine zA (Qb ?_)
  exact zm (h:=⟨n-(k+1),by omega,k+1,rfl,rfl,rfl,rfl,by omega,by rw [zbJ hu hv,hall,hxy];rfl⟩)
 have hge_k:n≤k:=by have h:=hc14;simp at h;omega
 rw [List.take_of_length_le (by omega),List.take_of_length_le (by omega)] at hall
 refine QI (Qf (Qf (Qk (Qa (zR (zA (zN ?_)))))))
 refine Qt ?_
 exact zr rfl rfl (by rw [hall])
theorem zoE {I:Qu}{o1 o2:Og}{a1:Option Addr}{n1 c1:Nat}{a2:Option Addr}{n2 c2:Nat}(h1:Sl I 1 QR a1 n1 c1 o1.ws)(h2:Sl I 1 QR a2 n2 c2 o1.ps){a3:Option Addr}{n3 c3:Nat}{a4:Option Addr}{n4 c4:Nat}(h3:Sl I 1 QR a3 n3 c3 o2.ws)(h4:Sl I 1 QR a4 n4 c4 o2.ps)(hb1:n1≤100000)(hb2:n2≤100000):Zw Tryz.prog 18 [.agg #[.int .i64 o1.k,.int .i64 o1.r,.slice a1 n1 c1,.slice a2 n2 c2],.agg #[.int .i64 o2.k,.int .i64 o2.r,.slice a3 n3 c3,.slice a4 n4 c4]] I (.bool (ogE o1 o2)):=by
 intro g H w hw
 refine qe Tryz.func18 Tryz.ntmps18 hw ?_
 refine zR ?_
 refine Q5 rfl rfl rfl (fun b_2=>?_)
 refine Q5 rfl rfl rfl (fun b_3=>?_)
 refine zA ?_
 refine zN (zR ?_)
 refine zF W7 ?_
 refine zL Qs ?_
 refine zF W7 ?_
 refine zL Qs ?_
 refine zC ?_
 refine zM ?_
 refine QE 5 rfl rfl rfl ?_
 refine zK (Qe rfl zew) ?_
 refine zK (Qd rfl Qs (fun hg=>by exact QU.h1 rfl)) ?_
 refine zK (Qe rfl zew) ?_
 refine zK (Qd rfl Qs (fun hg=>by exact QU.h0 rfl)) ?_
 refine zK (QH rfl rfl rfl) ?_
 refine QP rfl rfl rfl rfl rfl ?_
 refine zM ?_
 refine QE 12 rfl rfl rfl ?_
 refine zK (Qe rfl zfl) ?_
 refine zK (Qd rfl QK (fun hg=>by exact QU.h1 rfl)) ?_
 refine zK (Qe rfl zfl) ?_
 refine zK (Qd rfl QK (fun hg=>by exact QU.h0 rfl)) ?_
 refine qg (vs:=[_,_]) rfl zkb (fun hg=>zbP h1 h3 hb1) ?_
 refine QP rfl rfl rfl rfl rfl ?_
 refine zM ?_
 refine QE 19 rfl rfl rfl ?_
 refine zK (Qe rfl Xf) ?_
 refine zK (Qd rfl QK (fun hg=>by exact QU.h1 rfl)) ?_
 refine zK (Qe rfl Xf) ?_
 refine zK (Qd rfl QK (fun hg=>by exact QU.h0 rfl)) ?_
 refine qg (vs:=[_,_]) rfl zkb (fun hg=>zbP h2 h4 hb2) ?_
 refine QP rfl rfl rfl rfl rfl ?_
 refine zA (zN (Qt ?_))
 exact zr rfl rfl (by unfold ogE;simp only [Bool.and_assoc])
theorem zp1 {I:Qu}{av:Option Addr}{n c:Nat}{xs:List (Int×Int)}(hS:Sl I 2 VO av n c xs){bv:Option Addr}{n2 c2:Nat}{ys:List (Int×Int)}(hT:Sl I 2 VO bv n2 c2 ys)(hn:n≤100000):Zw Tryz.prog 19 [.slice av n c,.slice bv n2 c2] I (.bool (decide (xs=ys))):=by
 intro g H w hw
 refine qe Tryz.func19 Tryz.ntmps19 hw ?_
 have hl1:=hS.len
 have hl2:=hT.len
 refine zR (zA (zN (Ql (zR ?_))))
 refine zM ?_
 refine zQ Jm ?_
 refine zM ?_
 refine zQ Jm ?_
 refine zC (zN ?_)
 refine zI ?_ ?_<;>intro hc10
 ·
  have hne:xs≠ys:=fun e=>by have h:=hc10;subst e;simp at h;omega
  refine zR (zA (zN (Qt (Qc ?_))))
  exact zr rfl rfl (by rw [decide_eq_false hne])
 have hnn:n=n2:=by have h:=hc10;simp at h;omega
 refine Qo (Qa (Ql (zR (zA (zN (Qm ?_))))))
 refine zU [(0,_),(1,_)] (fun T L0 mz E I' loc'=>∃ (k:Nat),mz=n-k∧E=(5,.int .i64 k)::T∧I=I'∧L0=loc'∧k≤n∧xs.take k=ys.take k) ?_ (h:=⟨0,rfl,rfl,rfl,rfl,Nat.zero_le _,rfl⟩)
 rintro mz E I' loc' ⟨k,rfl,rfl,rfl,rfl,hk,hall⟩
 refine Ql (zR (zM ?_))
 refine zM ?_
 refine zQ Jm ?_
 refine zC (zN ?_)
 refine zI ?_ ?_<;>intro hc14
 ·
  have hlt_k:k<n:=by have h:=hc14;simp at h;omega
  obtain ⟨x,hx⟩:=hS.at hlt_k
  obtain ⟨y,hy⟩:=hT.at (show k<n2 by omega)
  refine Qo (Qa (Ql (Qm (Ql ?_))))
  refine YU mixed (by kernel_rfl) ?_
  refine zq (Qi rfl) ?_
  refine zq (Qi rfl) ?_
  refine zq (zX Jm hS) ?_
  refine zq (Qp rfl WM (fun hg=>by exact zyf hS hx) rfl) ?_
  refine zq (Qi rfl) ?_
  refine zq (Qi rfl) ?_
  refine zq (zX Jm hT) ?_
  refine zq (Qp rfl WM (fun hg=>by exact zyf hT hy) rfl) ?_
  refine zq (zpf rfl rfl zcN) ?_
  refine YV ?_
  refine Qa ?_
  refine zI ?_ ?_<;>intro hc25
  ·
   have hne:xs≠ys:=fun e=>by subst e;rw [hx] at hy;cases hy;simp at hc25
   refine zR (zA (zN (Qt (Qn (Qc (Qc (Qn ?_)))))))
   refine Qc ?_
   exact zr rfl rfl (by rw [decide_eq_false hne])
  have hxy:x=y:=by have h:=hc25;simp at h;exact Prod.ext h.1 h.2
  refine Qo (Qh (Qa (Qg (zM ?_))))
  refine zB ?_
  refine zA (Qb ?_)
  exact zm (h:=⟨n-(k+1),by omega,k+1,rfl,rfl,rfl,rfl,by omega,by rw [List.take_add_one,List.take_add_one,hall,hx,hy,hxy]⟩)
 have hge_k:n≤k:=by have h:=hc14;simp at h;omega
 have heq:xs=ys:=by rw [List.take_of_length_le (by omega),List.take_of_length_le (by omega)] at hall;exact hall
 refine QI (Qf (Qf (Qk (Qa (zR (zA (zN ?_)))))))
 refine Qt ?_
 exact zr rfl rfl (by rw [decide_eq_true heq])
end
end Go.Proofs.YtodakphagkommaaGreatDoor
namespace Go.Proofs.YtodakphagkommaaGreatDoor.R
section
open Go Go.Kn Go.Proofs
theorem Y4:AgT Tryz.prog 159 4:=.of (by kernel_rfl)
theorem zoe:AgT Tryz.prog 254 9:=.of (by kernel_rfl)
theorem Yw:AgT Tryz.prog 57 19:=.of (by kernel_rfl)
theorem Ua:ArT Tryz.prog 254 9 253 1:=.of (by kernel_rfl)
theorem ziN:CvT Tryz.prog 186 3 .i64:=⟨by kernel_rfl,by kernel_rfl⟩
theorem US:ElT Tryz.prog 36 57 19 168:=.of (by kernel_rfl)
theorem zcu:QW Tryz.prog 159 0 0:=.of (by kernel_rfl)
theorem XR:QW Tryz.prog 159 1 1:=.of (by kernel_rfl)
theorem UJ:QW Tryz.prog 159 2 2:=.of (by kernel_rfl)
theorem U1:QW Tryz.prog 159 3 3:=.of (by kernel_rfl)
theorem Zt:QW Tryz.prog 57 0 0:=.of (by kernel_rfl)
theorem Jw:QW Tryz.prog 57 1 1:=.of (by kernel_rfl)
theorem Z8:QW Tryz.prog 57 2 2:=.of (by kernel_rfl)
theorem VU:QW Tryz.prog 57 3 3:=.of (by kernel_rfl)
theorem VS:QW Tryz.prog 57 4 4:=.of (by kernel_rfl)
theorem KR:QW Tryz.prog 57 5 18:=.of (by kernel_rfl)
theorem zig:Fun Tryz.prog 116:=.of Tryz.func116 (by kernel_rfl) (by kernel_rfl)
theorem zpJ:Fun Tryz.prog 138:=.of Tryz.func138 (by kernel_rfl) (by kernel_rfl)
theorem zoR:Fun Tryz.prog 139:=.of Tryz.func139 (by kernel_rfl) (by kernel_rfl)
theorem zor:Fun Tryz.prog 140:=.of Tryz.func140 (by kernel_rfl) (by kernel_rfl)
theorem zrq:Fun Tryz.prog 141:=.of Tryz.func141 (by kernel_rfl) (by kernel_rfl)
theorem zoy:Fun Tryz.prog 143:=.of Tryz.func143 (by kernel_rfl) (by kernel_rfl)
theorem zpg:Fun Tryz.prog 144:=.of Tryz.func144 (by kernel_rfl) (by kernel_rfl)
theorem zrz:Fun Tryz.prog 145:=.of Tryz.func145 (by kernel_rfl) (by kernel_rfl)
theorem zii:Fun Tryz.prog 146:=.of Tryz.func146 (by kernel_rfl) (by kernel_rfl)
theorem zj4:Fun Tryz.prog 147:=.of Tryz.func147 (by kernel_rfl) (by kernel_rfl)
theorem zo9:Fun Tryz.prog 149:=.of Tryz.func149 (by kernel_rfl) (by kernel_rfl)
theorem zp9:Fun Tryz.prog 161:=.of Tryz.func161 (by kernel_rfl) (by kernel_rfl)
theorem zdM:Fun Tryz.prog 169:=.of Tryz.func169 (by kernel_rfl) (by kernel_rfl)
theorem ziB:Fun Tryz.prog 190:=.of Tryz.func190 (by kernel_rfl) (by kernel_rfl)
theorem zrI:Fun Tryz.prog 193:=.of Tryz.func193 (by kernel_rfl) (by kernel_rfl)
theorem zoq:Fun Tryz.prog 194:=.of Tryz.func194 (by kernel_rfl) (by kernel_rfl)
theorem zpq:Fun Tryz.prog 195:=.of Tryz.func195 (by kernel_rfl) (by kernel_rfl)
theorem zeh:Fun Tryz.prog 196:=.of Tryz.func196 (by kernel_rfl) (by kernel_rfl)
theorem zpX:Fun Tryz.prog 232:=.of Tryz.func232 (by kernel_rfl) (by kernel_rfl)
theorem zsw:Fun Tryz.prog 48:=.of Tryz.func48 (by kernel_rfl) (by kernel_rfl)
theorem ztd:Fun Tryz.prog 49:=.of Tryz.func49 (by kernel_rfl) (by kernel_rfl)
theorem zsP:Fun Tryz.prog 50:=.of Tryz.func50 (by kernel_rfl) (by kernel_rfl)
theorem zsq:Fun Tryz.prog 83:=.of Tryz.func83 (by kernel_rfl) (by kernel_rfl)
theorem zsp:Fun Tryz.prog 84:=.of Tryz.func84 (by kernel_rfl) (by kernel_rfl)
theorem zuh:Fun Tryz.prog 86:=.of Tryz.func86 (by kernel_rfl) (by kernel_rfl)
theorem zuq:Fun Tryz.prog 88:=.of Tryz.func88 (by kernel_rfl) (by kernel_rfl)
theorem zgH:Fun Tryz.prog 89:=.of Tryz.func89 (by kernel_rfl) (by kernel_rfl)
theorem zu2:Fun Tryz.prog 90:=.of Tryz.func90 (by kernel_rfl) (by kernel_rfl)
theorem Ks:MpT Tryz.prog 156 3 167 (.map none):=⟨by kernel_rfl,.of (by kernel_rfl)⟩
theorem zdP:MpT Tryz.prog 157 79 36 (.slice none 0 0):=⟨by kernel_rfl,.of (by kernel_rfl)⟩
theorem Vs:MpT Tryz.prog 167 3 4 (.bool false):=⟨by kernel_rfl,.of (by kernel_rfl)⟩
theorem YY:MpT Tryz.prog 91 3 23 (.slice none 0 0):=⟨by kernel_rfl,.of (by kernel_rfl)⟩
theorem zp3:PlT Tryz.prog 159 #[(0,1),(1,1),(2,1),(3,1)] (.agg #[(.map none),(.map none),(.map none),(.slice none 0 0)]):=⟨.of (by kernel_rfl),by kernel_rfl,fun w=>by kernel_rfl⟩
theorem zfo:PlT Tryz.prog 52 #[(0,1),(1,1)] (.agg #[(.int .i64 0),(.int .i64 0)]):=⟨.of (by kernel_rfl),by kernel_rfl,fun w=>by kernel_rfl⟩
theorem ziT:ScT Tryz.prog 156:=.of (by kernel_rfl)
theorem zec:ScT Tryz.prog 157:=.of (by kernel_rfl)
theorem zh7:ScT Tryz.prog 167:=.of (by kernel_rfl)
theorem Wm:ScT Tryz.prog 253:=.of (by kernel_rfl)
theorem zcQ:ScT Tryz.prog 48:=.of (by kernel_rfl)
theorem zes:ScT Tryz.prog 91:=.of (by kernel_rfl)
theorem Zz:SlT Tryz.prog 36 57 19:=.of (by kernel_rfl)
theorem Uf:SzT Tryz.prog 159 4:=.of (by kernel_rfl)
theorem zq5:SzT Tryz.prog 167 1:=.of (by kernel_rfl)
theorem zqA:SzT Tryz.prog 254 9:=.of (by kernel_rfl)
theorem zmB:SzT Tryz.prog 48 1:=.of (by kernel_rfl)
theorem VN:SzT Tryz.prog 57 19:=.of (by kernel_rfl)
theorem zqr:Tryz.prog.underlying 167=some (.map 3 4):=by kernel_rfl
theorem zrB:Tryz.prog.underlying 4=some .bool:=by kernel_rfl
theorem znJ:Yp Tryz.prog 159 (.agg #[(.map none),(.map none),(.map none),(.slice none 0 0)]):=.of (by kernel_rfl)
theorem zuf:Yp Tryz.prog 167 (.map none):=.of (by kernel_rfl)
theorem znn:Yp Tryz.prog 254 (.agg #[(.pointer none),(.pointer none),(.pointer none),(.pointer none),(.pointer none),(.pointer none),(.pointer none),(.pointer none),(.pointer none)]):=.of (by kernel_rfl)
theorem K2:Yp Tryz.prog 57 (.agg #[(.int .i64 0),(.int .i64 0),(.int .i64 0),(.int .i64 0),(.int .i64 0),(.int .i64 0),(.int .i64 0),(.int .i64 0),(.int .i64 0),(.int .i64 0),(.int .i64 0),(.int .i64 0),(.int .i64 0),(.int .i64 0),(.int .i64 0),(.int .i64 0),(.int .i64 0),(.int .i64 0),(.slice none 0 0)]):=.of (by kernel_rfl)
end
section
open Go Go.Kn Go.Proofs
theorem zxI (xs:List Int):(xs.flatMap QR).length=xs.length:=by rw [ZU Qv,Nat.mul_one]
theorem ziM {α:Type}{xs:List α}{k:Nat}{x:α}{p:α→Bool}(hx:xs[k]? =some x)(h:(xs.take k).all p=true)(hp:p x=true):(xs.take (k+1)).all p=true:=by
 rw [List.take_add_one,hx,List.all_append,h];simpa using hp
theorem zjv {α:Type}{xs:List α}{k:Nat}{x:α}{p:α→Bool}(hx:xs[k]? =some x)(hp:p x=false):xs.all p=false:=List.all_eq_false.2 ⟨x,List.mem_of_getElem? hx,by rw [hp];decide⟩
theorem zga {α:Type}{xs:List α}{k:Nat}{x:α}{p:α→Bool}(h:(xs.take k).any p=false)(hx:xs[k]? =some x)(hp:p x=true):xs.findIdx p=k:=by
 have hk:=(List.getElem?_eq_some_iff.1 hx).1
 rw [List.findIdx_eq hk]
 refine ⟨by rw [(List.getElem?_eq_some_iff.1 hx).2];exact hp,fun j hj=>?_⟩
 have:=List.any_eq_false.1 h xs[j] (by rw [List.mem_take_iff_getElem];exact ⟨j,by omega,rfl⟩)
 simpa using this
theorem Jd {α:Type}{xs:List α}{k:Nat}{x:α}{p:α→Bool}(h:(xs.take k).any p=false)(hx:xs[k]? =some x)(hp:p x=true):K8 p xs=k:=by
 unfold K8
 rw [JY hx hp,if_pos rfl,zga h hx hp]
theorem zqx {α:Type}{xs:List α}{p:α→Bool}(h:xs.any p=true):∃ i x,K8 p xs=(i:Nat)∧xs[i]? =some x∧p x=true∧i<xs.length:=by
 obtain ⟨x,hx,hp⟩:=List.any_eq_true.1 h
 have hl:=List.findIdx_lt_length_of_exists ⟨x,hx,hp⟩
 exact ⟨xs.findIdx p,xs[xs.findIdx p],by unfold K8;rw [h];rfl,List.getElem?_eq_getElem hl,List.findIdx_getElem,hl⟩
theorem ztS {α:Type}{p:α→Bool}:∀ {xs:List α} {k:Nat},(xs.take k).all p=true→k≤xs.length→(∀ y,xs[k]? =some y→p y=false)→xs.takeWhile p=xs.take k∧xs.dropWhile p=xs.drop k
 | [],k,_,hk,_=>by simp
 | x::xs,0,_,_,h=>by
  have:=h x rfl
  simp [this]
 | x::xs,k+1,h,hk,h2=>by
  rw [List.take_succ_cons,List.all_cons,Bool.and_eq_true] at h
  obtain ⟨h3,h4⟩:=ztS h.2 (by simpa using hk) (fun y hy=>h2 y (by simpa using hy))
  rw [List.takeWhile_cons,List.dropWhile_cons,if_pos h.1,if_pos h.1,h3,h4]
  exact ⟨rfl,rfl⟩
theorem Wc:∀ {xs ys:List Int},xs.Pairwise (· < ·)→ys.Pairwise (· < ·)→(∀ a,a∈xs↔a∈ys)→xs=ys
 | [],[],_,_,_=>rfl
 | [],y::ys,_,_,h=>by have:=(h y).2 (List.mem_cons_self ..);cases this
 | x::xs,[],_,_,h=>by have:=(h x).1 (List.mem_cons_self ..);cases this
 | x::xs,y::ys,hx,hy,h=>by
  rw [List.pairwise_cons] at hx hy
  have e:x=y:=by
   rcases List.mem_cons.1 ((h x).1 (List.mem_cons_self ..)) with e | e
   ·
    exact e
   ·
    rcases List.mem_cons.1 ((h y).2 (List.mem_cons_self ..)) with e2 | e2
    ·
     exact e2.symm
    ·
     have h1:=hx.1 _ e2;have h2:=hy.1 _ e;omega
  subst e
  refine congrArg _ (Wc hx.2 hy.2 fun a=>?_)
  constructor
  ·
   intro ha
   rcases List.mem_cons.1 ((h a).1 (List.mem_cons_of_mem _ ha)) with e | e
   ·
    subst e;have:=hx.1 _ ha;omega
   ·
    exact e
  ·
   intro ha
   rcases List.mem_cons.1 ((h a).2 (List.mem_cons_of_mem _ ha)) with e | e
   ·
    subst e;have:=hy.1 _ ha;omega
   ·
    exact e
theorem Ws:∀ {ys xs:List Int},xs.Pairwise (· < ·)→ys.Pairwise (· < ·)→(∀ a∈xs,a∈ys)→xs.length≤ys.length∧(ys.length≤xs.length→xs=ys)
 | [],[],_,_,_=>⟨Nat.le_refl _,fun _=>rfl⟩
 | [],x::xs,_,_,h=>by have:=h x (List.mem_cons_self ..);cases this
 | y::ys,[],_,_,_=>⟨Nat.zero_le _,fun h=>by simp at h⟩
 | y::ys,x::xs,hx,hy,h=>by
  have hx':=List.pairwise_cons.1 hx
  have hy':=List.pairwise_cons.1 hy
  by_cases e:x=y
  ·
   subst e
   have:=Ws hx'.2 hy'.2 fun a ha=>(List.mem_cons.1 (h a (List.mem_cons_of_mem _ ha))).elim (fun e=>by subst e;have:=hx'.1 _ ha;omega) id
   exact ⟨by simpa using this.1,fun hl=>by rw [this.2 (by simpa using hl)]⟩
  ·
   have hxy:y<x:=by
    rcases List.mem_cons.1 (h x (List.mem_cons_self ..)) with e2 | e2
    ·
     exact absurd e2 e
    ·
     exact hy'.1 _ e2
   have:=(Ws hx hy'.2 fun a ha=>(List.mem_cons.1 (h a ha)).elim (fun e2=>by
    subst e2
    rcases List.mem_cons.1 ha with e3 | e3
    ·
     omega
    ·
     have:=hx'.1 _ e3;omega) id).1
   simp only [List.length_cons] at this ⊢
   exact ⟨by omega,fun hl=>by omega⟩
end
section
open Go Go.Kn Go.Proofs
def Y6:Sg:=⟨0,0,0,0,0,0,0,0,0,0,0,0,0,0⟩
instance : DecidableEq Sg := fun a b => decidable_of_iff (zag a b = true) zaT
structure Pt where
 id:Int
 kind:Int
 sign:Int
 field:Int
 nw:Sg
 a:Option Addr
 n:Nat
 c:Nat
 needs:List Int
def Yz (p:Pt):List Value:=[.int .i64 p.id,.int .i64 p.kind,.int .i64 p.sign,.int .i64 p.field,.int .i64 p.nw.id,.int .i64 p.nw.role,.int .i64 p.nw.bar,.int .i64 p.nw.mark,.int .i64 p.nw.kind,.int .i64 p.nw.side,.int .i64 p.nw.dir,.int .i64 p.nw.level,.int .i64 p.nw.size,.int .i64 p.nw.wth,.int .i64 p.nw.fn,.int .i64 p.nw.fd,.int .i64 p.nw.tn,.int .i64 p.nw.td,.slice p.a p.n p.c]
def Wl (p:Pt):Value:=.agg (Yz p).toArray
theorem QZ (x:Pt):(Yz x).length=19:=rfl
theorem zks (xs:List Pt):Yx (xs.flatMap Yz)=true:=Yl (fun _=>rfl) xs
def WR:Pt:=⟨0,0,0,0,Y6,none,0,0,[]⟩
def Nd (I:Qu)(p:Pt):Prop:=Sl I 1 QR p.a p.n p.c p.needs
theorem Nd.mono {I I':Qu}{p:Pt}(h:Nd I p)(hI:HLe I I'):Nd I' p:=Sl.mono h hI
def SlP (I:Qu)(av:Option Addr)(n c:Nat)(ps:List Pt):Prop:=Sl I 19 Yz av n c ps∧∀ p∈ps,Nd I p
theorem SlP.mono {I I':Qu}{av:Option Addr}{n c:Nat}{ps:List Pt}(h:SlP I av n c ps)(hI:HLe I I'):SlP I' av n c ps:=⟨h.1.mono hI,fun p hp=>(h.2 p hp).mono hI⟩
theorem SlP.len {I:Qu}{av:Option Addr}{n c:Nat}{ps:List Pt}(h:SlP I av n c ps):ps.length=n:=h.1.len
theorem SlP.at {I:Qu}{av:Option Addr}{n c:Nat}{ps:List Pt}(h:SlP I av n c ps){k:Nat}(hk:k<n):∃ p,ps[k]? =some p∧Nd I p:=by
 obtain ⟨p,hp⟩:=h.1.at hk
 exact ⟨p,hp,h.2 p (List.mem_of_getElem? hp)⟩
def skP (xs:List Sg)(i:Nat):Bool:= !(!frm (xs.getD i Y6)||(decide ((i:Int)>0)&&decide ((xs.getD ((i:Int)-1).toNat Y6).id≥(xs.getD i Y6).id)))
def skB (xs:List Sg):Bool:=(List.range xs.length).all (skP xs)
def WA (xs:List Sg):Int:=if xs.length>4096 then 2 else if skB xs then 0 else 360
/-! ### Patches -/
def zam (x:Sg)(f:Int)(y:Sg):Sg:=
 if f=1 then {x with role:=y.role} else if f=2 then {x with bar:=y.bar} else if f=3 then {x with mark:=y.mark} else if f=4 then {x with side:=y.side} else if f=5 then {x with dir:=y.dir}
 else if f=6 then {x with level:=y.level} else if f=7 then {x with size:=y.size} else if f=8 then {x with wth:=y.wth} else if f=9 then {x with fn:=y.fn,fd:=y.fd,tn:=y.tn,td:=y.td} else x
def zfp:Sg:=⟨0,0,0,3,9,0,0,0,0,0,0,1,1,2⟩
def ndP (id:Int)(v:List Int)(i:Nat):Bool:= !((decide (v.getD i 0<1)||decide (v.getD i 0≥id))||(decide ((i:Int)>0)&&decide (v.getD i 0≤v.getD ((i:Int)-1).toNat 0)))
def ndB (id:Int)(v:List Int):Bool:=(List.range v.length).all (ndP id v)
def idB (p:Pt):Bool:=(decide (p.id≥1)&&decide (p.id≤1048576))&&(decide (p.sign≥0)&&decide (p.sign≤1048576))
def Us (p:Pt):Bool:=
 if p.kind=1 then YK p.field 1 9&&(zag (zam p.nw p.field Y6) Y6&&frm (zam zfp p.field p.nw))
 else if p.kind=2 then p.field==0&&(p.nw.id==p.sign&&frm p.nw)
 else if p.kind=3 then p.field==0&&zag p.nw Y6 else false
def JN (p:Pt):Int:=if p.needs.length>32 then 2 else if ndB p.id p.needs&&(idB p&&Us p) then 0 else 370
end
section
open Go Go.Kn Go.Proofs
def orF:List Int→Int
 | []=>0
 | x::xs=>if x≠0 then x else orF xs
theorem Kc:∀ {xs:List Int},orF xs=0↔ ∀ x∈xs,x=0
 | []=>by simp [orF]
 | x::xs=>by
  unfold orF
  by_cases h:x=0
  ·
   rw [if_neg (by simpa using h),Kc];simp [h]
  ·
   rw [if_pos h];simp [h]
theorem zmg {xs:List Int}{k:Nat}{x:Int}(hx:xs[k]? =some x)(h:orF (xs.take k)=0)(hne:x≠0):orF xs=x:=by
 induction xs generalizing k with
 | nil=>simp at hx
 | cons y ys ih=>
  cases k with
  | zero=>
   simp at hx;subst hx
   unfold orF;rw [if_pos hne]
  | succ k=>
   rw [List.take_succ_cons] at h
   unfold orF at h ⊢
   by_cases hy:y=0
   ·
    rw [if_neg (by simpa using hy)] at h ⊢
    exact ih (by simpa using hx) h
   ·
    rw [if_pos hy] at h;exact absurd h hy
def onS (f:Int→Int→Bool)(p:Pt):Int→Int→Bool:=fun a b=>if a=p.id then p.needs.any (fun n=>n==b||f n b) else f a b
def onF (ps:List Pt):Int→Int→Bool:=ps.foldl onS (fun _ _=>false)
def zal (ps:List Pt)(n:Int):Bool:=ps.any (fun q=>q.id==n)
def lsP (ps:List Pt)(i:Nat):Bool:= !((decide ((i:Int)>0)&&decide ((ps.getD i WR).id≤(ps.getD ((i:Int)-1).toNat WR).id))||(ps.getD i WR).needs.any (fun n=> !zal ps n))
def lsB (ps:List Pt):Bool:=(List.range ps.length).all (lsP ps)
def znc (p q:Pt)(on:Bool):Bool:=if p.sign≠q.sign then true else if q.kind=2 then p.kind != 2&&on else if q.kind=3 then !on else true
def zjr (ps:List Pt):Bool:=ps.all fun p=>ps.all fun q=>p.id==q.id||znc p q (onF ps p.id q.id)
def KV (ps:List Pt):Int:=if ps.length>512 then 2 else if orF (ps.map JN)≠0 then orF (ps.map JN) else if lsB ps&&zjr ps then 0 else 380
structure Lst (ps:List Pt):Prop where
 pos:∀ p∈ps,1≤p.id
 inc:ps.Pairwise (fun p q=>p.id<q.id)
 has:∀ p∈ps,∀ n∈p.needs,n<p.id∧∃ q∈ps,q.id=n
theorem VR {ps:List Pt}{n:Int}:zal ps n=true↔ ∃ q∈ps,q.id=n:=by
 unfold zal
 rw [List.any_eq_true]
 simp
theorem Lst.uniq {ps:List Pt}(h:Lst ps){p q:Pt}(hp:p∈ps)(hq:q∈ps)(e:p.id=q.id):p=q:=by
 obtain ⟨i,hi⟩:=List.getElem?_of_mem hp
 obtain ⟨j,hj⟩:=List.getElem?_of_mem hq
 obtain ⟨hi1,hi2⟩:=List.getElem?_eq_some_iff.1 hi
 obtain ⟨hj1,hj2⟩:=List.getElem?_eq_some_iff.1 hj
 by_cases hij:i=j
 ·
  subst hij;rw [hi] at hj;exact Option.some.inj hj
 ·
  rcases Nat.lt_or_gt_of_ne hij with hlt | hlt
  ·
   have:=List.pairwise_iff_getElem.1 h.inc i j hi1 hj1 hlt;rw [hi2,hj2] at this;omega
  ·
   have:=List.pairwise_iff_getElem.1 h.inc j i hj1 hi1 hlt;rw [hi2,hj2] at this;omega
theorem zjP {f:Int→Int→Bool}{p:Pt}{a b:Int}(h:a≠p.id):onS f p a b=f a b:=by unfold onS;rw [if_neg h]
theorem KQ:∀ (ps:List Pt) {f:Int→Int→Bool} {a b:Int},(∀ p∈ps,p.id≠a)→ps.foldl onS f a b=f a b
 | [],_,_,_,_=>rfl
 | p::ps,f,a,b,h=>by
  rw [List.foldl_cons,KQ ps (fun q hq=>h q (List.mem_cons_of_mem _ hq)),zjP (fun e=>h p (List.mem_cons_self ..) e.symm)]
theorem zmf {ps:List Pt}{a b:Int}(h:∀ p∈ps,p.id≠a):onF ps a b=false:=KQ ps h
theorem zcX {ps qs:List Pt}{p:Pt}{b:Int}(h:∀ q∈qs,q.id≠p.id):onF (ps++p::qs) p.id b=p.needs.any (fun n=>n==b||onF ps n b):=by
 unfold onF
 rw [List.foldl_append,List.foldl_cons,KQ qs h]
 unfold onS;rw [if_pos rfl]
theorem zfa {ps qs:List Pt}{a b:Int}(h:∀ q∈qs,q.id≠a):onF (ps++qs) a b=onF ps a b:=by
 unfold onF
 rw [List.foldl_append,KQ qs h]
theorem Lst.tail_ne {ps qs:List Pt}{p:Pt}(h:Lst (ps++p::qs)):(∀ q∈qs,p.id<q.id)∧(∀ q∈ps,q.id<p.id):=by
 have h1:=h.inc
 rw [List.pairwise_append] at h1
 exact ⟨(List.pairwise_cons.1 h1.2.1).1,fun q hq=>h1.2.2 q hq p (List.mem_cons_self ..)⟩
theorem zeq {α:Type}{xs:List α}{f g:α→Bool}(h:∀ x∈xs,f x=g x):xs.any f=xs.any g:=by
 induction xs with
 | nil=>rfl
 | cons x xs ih=>rw [List.any_cons,List.any_cons,h x (List.mem_cons_self ..),ih fun y hy=>h y (List.mem_cons_of_mem _ hy)]
theorem Lst.on {ps:List Pt}(h:Lst ps){p:Pt}(hp:p∈ps)(b:Int):onF ps p.id b=p.needs.any (fun n=>n==b||onF ps n b):=by
 obtain ⟨l,r,rfl⟩:=List.append_of_mem hp
 obtain ⟨h1,h2⟩:=h.tail_ne
 rw [zcX (fun q hq e=>by have:=h1 q hq;omega)]
 refine zeq fun n hn=>?_
 have hlt:=(h.has p hp n hn).1
 rw [zfa (ps:=l) (qs:=p::r)]
 intro q hq e
 rcases List.mem_cons.1 hq with rfl | hq
 ·
  omega
 ·
  have:=h1 q hq;omega
theorem Lst.on_iff {ps:List Pt}(h:Lst ps){p:Pt}(hp:p∈ps){b:Int}:onF ps p.id b=true↔ ∃ n∈p.needs,n=b∨onF ps n b=true:=by
 rw [h.on hp,List.any_eq_true]
 simp
theorem zdG {ps:List Pt}{a b:Int}(h:onF ps a b=true):∃ p∈ps,p.id=a:=by
 by_cases hx:∃ p∈ps,p.id=a
 ·
  exact hx
 ·
  rw [zmf (fun p hp e=>hx ⟨p,hp,e⟩)] at h;cases h
theorem Lst.ind {ps:List Pt}(h:Lst ps){M:Pt→Prop}(hs:∀ p∈ps,(∀ q∈ps,q.id<p.id→M q)→M p):∀ p∈ps,M p:=by
 have key:∀ (m:Nat) (q:Pt),q∈ps→q.id.toNat≤m→M q:=by
  intro m
  induction m with
  | zero=>
   intro q hq hm
   have:=h.pos q hq;omega
  | succ m ih=>
   intro q hq hm
   exact hs q hq fun r hr hlt=>ih r hr (by have:=h.pos r hr;omega)
 exact fun p hp=>key _ p hp (Nat.le_refl _)
theorem Lst.on_lt {ps:List Pt}(h:Lst ps){a b:Int}(hon:onF ps a b=true):b<a∧∃ q∈ps,q.id=b:=by
 obtain ⟨p,hp,rfl⟩:=zdG hon
 revert hon
 refine h.ind (M:=fun p=>onF ps p.id b=true→b<p.id∧∃ q∈ps,q.id=b) (fun p hp ih hon=>?_) p hp
 obtain ⟨n,hn,e⟩:=(h.on_iff hp).1 hon
 obtain ⟨h1,q,hq,rfl⟩:=h.has p hp n hn
 rcases e with rfl | e
 ·
  exact ⟨h1,q,hq,rfl⟩
 ·
  have:=ih q hq h1 e
  exact ⟨by omega,this.2⟩
theorem Lst.on_irr {ps:List Pt}(h:Lst ps){a:Int}:onF ps a a=false:=by
 cases hon:onF ps a a with
 | false=>rfl
 | true=>have:=(h.on_lt hon).1;omega
theorem Lst.on_trans {ps:List Pt}(h:Lst ps){a b c:Int}(h1:onF ps a b=true)(h2:onF ps b c=true):onF ps a c=true:=by
 obtain ⟨p,hp,rfl⟩:=zdG h1
 revert h1
 refine h.ind (M:=fun p=>onF ps p.id b=true→onF ps p.id c=true) (fun p hp ih hon=>?_) p hp
 obtain ⟨n,hn,e⟩:=(h.on_iff hp).1 hon
 obtain ⟨hlt,q,hq,rfl⟩:=h.has p hp n hn
 rcases e with rfl | e
 ·
  exact (h.on_iff hp).2 ⟨_,hn,.inr h2⟩
 ·
  exact (h.on_iff hp).2 ⟨_,hn,.inr (ih q hq hlt e)⟩
theorem Lst.on_need {ps:List Pt}(h:Lst ps){p:Pt}(hp:p∈ps){n:Int}(hn:n∈p.needs):onF ps p.id n=true:=(h.on_iff hp).2 ⟨n,hn,.inl rfl⟩
theorem Lst.part {ps:List Pt}(h:Lst ps){f:Pt→Bool}(hc:∀ p∈ps,f p=true→∀ q∈ps,q.id∈p.needs→f q=true):Lst (ps.filter f):=
 ⟨fun p hp=>h.pos p (List.mem_filter.1 hp).1,h.inc.filter f,fun p hp n hn=>by
  obtain ⟨hp1,hp2⟩:=List.mem_filter.1 hp
  obtain ⟨h1,q,hq,rfl⟩:=h.has p hp1 n hn
  exact ⟨h1,q,List.mem_filter.2 ⟨hq,hc p hp1 hp2 q hq hn⟩,rfl⟩⟩
theorem Lst.on_part {ps:List Pt}(h:Lst ps){f:Pt→Bool}(hc:∀ p∈ps,f p=true→∀ q∈ps,q.id∈p.needs→f q=true){b:Int}{p:Pt}(hp:p∈ps)(hf:f p=true):onF (ps.filter f) p.id b=onF ps p.id b:=by
 have hL:=h.part hc
 revert hf
 refine h.ind (M:=fun p=>f p=true→onF (ps.filter f) p.id b=onF ps p.id b) (fun p hp ih hf=>?_) p hp
 rw [hL.on (List.mem_filter.2 ⟨hp,hf⟩),h.on hp]
 refine zeq fun n hn=>?_
 obtain ⟨h1,q,hq,rfl⟩:=h.has p hp n hn
 rw [ih q hq h1 (hc p hp hf q hq hn)]
/-! ### Closures -/
def zo8 (v:List Int):Bool:=(List.range v.length).all fun i=> !(decide ((i:Int)>0)&&decide (v.getD i 0≤v.getD ((i:Int)-1).toNat 0))
theorem zkR {v:List Int}:zo8 v=true↔v.Pairwise (· < ·):=by
 unfold zo8
 constructor
 ·
  intro h
  refine Kt (R:=fun a b:Int=>a<b) (fun a b c h1 h2=>Int.lt_trans h1 h2) fun k hk=>?_
  rw [List.all_eq_true] at h
  have h1:=h (k+1) (List.mem_range.2 hk)
  rw [show (((k+1:Nat):Int)-1).toNat=k by omega,Q1 (List.getElem?_eq_getElem hk),Q1 (List.getElem?_eq_getElem (show k<v.length by omega))] at h1
  simp at h1;omega
 ·
  intro h
  rw [List.all_eq_true]
  intro k hk
  rw [List.mem_range] at hk
  cases k with
  | zero=>rfl
  | succ k=>
   rw [show (((k+1:Nat):Int)-1).toNat=k by omega,Q1 (List.getElem?_eq_getElem hk),Q1 (List.getElem?_eq_getElem (show k<v.length by omega))]
   have:=List.pairwise_iff_getElem.1 h k (k+1) (by omega) hk (by omega)
   simp;omega
def chB (ps:List Pt)(ids:List Int):Bool:=zo8 ids&&ids.all (zal ps)
def zei (ps:List Pt)(ids:List Int):List Int:=(ps.filter fun p=>ids.any fun n=>n==p.id||onF ps n p.id).map (·.id)
def zkm (ps:List Pt)(v:List Int):Bool:=chB ps v&&zqo (zei ps v) v
end
section
open Go Go.Kn Go.Proofs
theorem zgs {ps:List Pt}(h:Lst ps)(f:Pt→Bool):((ps.filter f).map (·.id)).Pairwise (· < ·):=by
 rw [List.pairwise_map]
 exact h.inc.filter f
theorem zdl {ps:List Pt}{f:Pt→Bool}{x:Int}:x∈(ps.filter f).map (·.id)↔ ∃ p∈ps,f p=true∧p.id=x:=by
 rw [List.mem_map]
 constructor
 ·
  rintro ⟨p,hp,e⟩
  exact ⟨p,(List.mem_filter.1 hp).1,(List.mem_filter.1 hp).2,e⟩
 ·
  rintro ⟨p,hp,hf,e⟩
  exact ⟨p,List.mem_filter.2 ⟨hp,hf⟩,e⟩
structure Ver (ps:List Pt)(v:List Int):Prop where
 inc:v.Pairwise (· < ·)
 sub:∀ x∈v,∃ p∈ps,p.id=x
 need:∀ p∈ps,p.id∈v→∀ n∈p.needs,n∈v
theorem Ver.on {ps:List Pt}{v:List Int}(h:Lst ps)(hv:Ver ps v){a b:Int}(ha:a∈v)(hon:onF ps a b=true):b∈v:=by
 obtain ⟨p,hp,rfl⟩:=zdG hon
 revert hon ha
 refine h.ind (M:=fun p=>p.id∈v→onF ps p.id b=true→b∈v) (fun p hp ih ha hon=>?_) p hp
 obtain ⟨n,hn,e⟩:=(h.on_iff hp).1 hon
 have hnv:=hv.need p hp ha n hn
 rcases e with rfl | e
 ·
  exact hnv
 ·
  obtain ⟨hlt,q,hq,rfl⟩:=h.has p hp n hn
  exact ih q hq hlt hnv e
theorem Wy {ps:List Pt}{ids:List Int}{x:Int}:x∈zei ps ids↔(∃ p∈ps,p.id=x)∧∃ n∈ids,n=x∨onF ps n x=true:=by
 unfold zei
 rw [zdl]
 constructor
 ·
  rintro ⟨p,hp,hf,rfl⟩
  rw [List.any_eq_true] at hf
  obtain ⟨n,hn,e⟩:=hf
  exact ⟨⟨p,hp,rfl⟩,n,hn,by simpa using e⟩
 ·
  rintro ⟨⟨p,hp,rfl⟩,n,hn,e⟩
  exact ⟨p,hp,List.any_eq_true.2 ⟨n,hn,by simpa using e⟩,rfl⟩
theorem KX {ps:List Pt}(h:Lst ps)(ids:List Int):(zei ps ids).Pairwise (· < ·):=zgs h _
theorem zdE {ps:List Pt}{ids:List Int}:chB ps ids=true↔ids.Pairwise (· < ·)∧∀ x∈ids,∃ p∈ps,p.id=x:=by
 unfold chB
 rw [Bool.and_eq_true,zkR,List.all_eq_true]
 exact ⟨fun h=>⟨h.1,fun x hx=>VR.1 (h.2 x hx)⟩,fun h=>⟨h.1,fun x hx=>VR.2 (h.2 x hx)⟩⟩
theorem zoa {ps:List Pt}(h:Lst ps)(ids:List Int):Ver ps (zei ps ids) where
 inc:=KX h ids
 sub:=fun x hx=>(Wy.1 hx).1
 need:=fun p hp hpv m hm=>by
  obtain ⟨_,n,hn,e⟩:=Wy.1 hpv
  obtain ⟨_,q,hq,rfl⟩:=h.has p hp m hm
  refine Wy.2 ⟨⟨q,hq,rfl⟩,n,hn,.inr ?_⟩
  rcases e with rfl | e
  ·
   exact h.on_need hp hm
  ·
   exact h.on_trans e (h.on_need hp hm)
theorem zgl {ps:List Pt}(h:Lst ps){v:List Int}(hv:Ver ps v):zei ps v=v:=
 Wc (KX h v) hv.inc fun a=>by
  rw [Wy]
  constructor
  ·
   rintro ⟨_,n,hn,rfl | e⟩
   ·
    exact hn
   ·
    exact hv.on h hn e
  ·
   intro ha
   exact ⟨hv.sub a ha,a,ha,.inl rfl⟩
theorem zfO {ps:List Pt}(h:Lst ps){v:List Int}:zkm ps v=true↔Ver ps v:=by
 unfold zkm
 rw [Bool.and_eq_true,zdE]
 constructor
 ·
  rintro ⟨⟨h1,h2⟩,h3⟩
  have e:zei ps v=v:=of_decide_eq_true h3
  have:=zoa h v
  rwa [e] at this
 ·
  intro hv
  exact ⟨⟨hv.inc,hv.sub⟩,decide_eq_true (zgl h hv)⟩
theorem zpc {ps:List Pt}(h:Lst ps){v:List Int}(hc:chB ps v=true):decide ((zei ps v).length≠v.length)= !zkm ps v:=by
 have hsub:∀ x∈v,x∈zei ps v:=fun x hx=>Wy.2 ⟨(zdE.1 hc).2 x hx,x,hx,.inl rfl⟩
 have hnd:=(zdE.1 hc).1
 unfold zkm
 rw [hc,Bool.true_and]
 by_cases e:zei ps v=v
 ·
  rw [show zqo (zei ps v) v=true from decide_eq_true e,e];simp
 ·
  rw [show zqo (zei ps v) v=false from decide_eq_false e]
  refine decide_eq_true fun hl=>e ?_
  exact ((Ws hnd (KX h v) hsub).2 (by omega)).symm
theorem zjn {ps:List Pt}(h0:orF (ps.map JN)=0)(h:lsB ps=true):Lst ps:=by
 have hk:∀ p∈ps,ndB p.id p.needs=true∧idB p=true∧Us p=true:=fun p hp=>by
  have h1:=Kc.1 h0 (JN p) (List.mem_map.2 ⟨p,hp,rfl⟩)
  unfold JN at h1
  split at h1
  ·
   cases h1
  ·
   split at h1
   ·
    rename_i h2
    simpa [Bool.and_eq_true] using h2
   ·
    cases h1
 unfold lsB at h
 rw [List.all_eq_true] at h
 refine ⟨fun p hp=>?_,?_,fun p hp n hn=>?_⟩
 ·
  have:=(hk p hp).2.1
  unfold idB at this
  simp at this
  omega
 ·
  refine Kt (R:=fun p q:Pt=>p.id<q.id) (fun a b c h1 h2=>Int.lt_trans h1 h2) fun k hk=>?_
  have h1:=h (k+1) (List.mem_range.2 hk)
  unfold lsP at h1
  rw [show (((k+1:Nat):Int)-1).toNat=k by omega,Q1 (List.getElem?_eq_getElem hk),Q1 (List.getElem?_eq_getElem (show k<ps.length by omega))] at h1
  simp at h1
  have:=h1.1
  omega
 ·
  obtain ⟨k,hk1,rfl⟩:=List.mem_iff_getElem.1 hp
  have h1:=h k (List.mem_range.2 hk1)
  unfold lsP at h1
  rw [Q1 (List.getElem?_eq_getElem hk1)] at h1
  simp at h1
  refine ⟨?_,VR.1 (h1.2 n hn)⟩
  obtain ⟨j,hj,rfl⟩:=List.mem_iff_getElem.1 hn
  have h2:=(hk _ hp).1
  unfold ndB at h2
  rw [List.all_eq_true] at h2
  have h3:=h2 j (List.mem_range.2 hj)
  unfold ndP at h3
  rw [Q1 (List.getElem?_eq_getElem hj)] at h3
  simp at h3
  omega
theorem Ui {ps:List Pt}(h:KV ps=0):ps.length≤512∧orF (ps.map JN)=0∧lsB ps=true∧zjr ps=true:=by
 unfold KV at h
 split at h
 ·
  cases h
 ·
  split at h
  ·
   contradiction
  ·
   split at h
   ·
    rename_i h1 h2 h3
    rw [Bool.and_eq_true] at h3
    exact ⟨by omega,by omega,h3⟩
   ·
    cases h
theorem zaK {ps:List Pt}(h:KV ps=0):Lst ps:=zjn (Ui h).2.1 (Ui h).2.2.1
end
section
open Go Go.Kn Go.Proofs
/-! ### Lists by keys -/
def Srt (xs:List Sg):Prop:=xs.Pairwise fun a b=>a.id<b.id
def Yr (xs:List Sg)(s:Int):Option Sg:=xs.find? fun x=>x.id==s
theorem zcr {x:Sg}{xs:List Sg}{s:Int}:Yr (x::xs) s=if x.id=s then some x else Yr xs s:=by
 unfold Yr
 rw [List.find?_cons]
 by_cases h:x.id=s
 ·
  rw [if_pos h,show (x.id==s)=true by simpa using h]
 ·
  rw [if_neg h,show (x.id==s)=false by simpa using h]
theorem zpZ {xs:List Sg}{s:Int}{x:Sg}(h:Yr xs s=some x):x.id=s:=by
 have:=List.find?_some h
 simpa using this
theorem zeK {xs:List Sg}{s:Int}{x:Sg}(h:Yr xs s=some x):x∈xs:=List.mem_of_find?_eq_some h
theorem XC {xs:List Sg}{s:Int}:Yr xs s=none↔ ∀ x∈xs,x.id≠s:=by
 unfold Yr
 rw [List.find?_eq_none]
 simp
theorem zjh {xs:List Sg}(h:Srt xs){x:Sg}(hx:x∈xs):Yr xs x.id=some x:=by
 induction xs with
 | nil=>cases hx
 | cons y ys ih=>
  rw [zcr]
  have h':=List.pairwise_cons.1 h
  rcases List.mem_cons.1 hx with rfl | hx
  ·
   rw [if_pos rfl]
  ·
   rw [if_neg (by have:=h'.1 x hx;omega)]
   exact ih h'.2 hx
theorem zq7 {xs ys:List Sg}(hx:Srt xs)(hy:Srt ys)(h:∀ s,Yr xs s=Yr ys s):xs=ys:=by
 have hm:∀ {xs ys:List Sg},Srt xs→(∀ s,Yr xs s=Yr ys s)→∀ a∈xs,a∈ys:=fun {xs ys} h1 h2 a ha=>zeK (by rw [←h2];exact zjh h1 ha)
 have h1:=hm hx h
 have h2:=hm hy (fun s=>(h s).symm)
 clear hm h
 induction xs generalizing ys with
 | nil=>
  cases ys with
  | nil=>rfl
  | cons y ys=>have:=h2 y (List.mem_cons_self ..);cases this
 | cons x xs ih=>
  cases ys with
  | nil=>have:=h1 x (List.mem_cons_self ..);cases this
  | cons y ys=>
   have hx':=List.pairwise_cons.1 hx
   have hy':=List.pairwise_cons.1 hy
   have e:x=y:=by
    rcases List.mem_cons.1 (h1 x (List.mem_cons_self ..)) with e | e
    ·
     exact e
    ·
     rcases List.mem_cons.1 (h2 y (List.mem_cons_self ..)) with e2 | e2
     ·
      exact e2.symm
     ·
      have h3:=hx'.1 _ e2;have h4:=hy'.1 _ e;omega
   subst e
   refine congrArg _ (ih hx'.2 hy'.2 (fun a ha=>?_) (fun a ha=>?_))
   ·
    rcases List.mem_cons.1 (h1 a (List.mem_cons_of_mem _ ha)) with e | e
    ·
     subst e;have:=hx'.1 _ ha;omega
    ·
     exact e
   ·
    rcases List.mem_cons.1 (h2 a (List.mem_cons_of_mem _ ha)) with e | e
    ·
     subst e;have:=hy'.1 _ ha;omega
    ·
     exact e
theorem zg9 {xs:List Sg}(h:skB xs=true):Srt xs:=by
 unfold skB at h
 rw [List.all_eq_true] at h
 refine Kt (R:=fun p q:Sg=>p.id<q.id) (fun a b c h1 h2=>Int.lt_trans h1 h2) fun k hk=>?_
 have h1:=h (k+1) (List.mem_range.2 hk)
 unfold skP at h1
 rw [show (((k+1:Nat):Int)-1).toNat=k by omega,Q1 (List.getElem?_eq_getElem hk),Q1 (List.getElem?_eq_getElem (show k<xs.length by omega))] at h1
 simp at h1
 have:=h1.2
 omega
theorem zem {xs:List Sg}(h:WA xs=0):xs.length≤4096∧skB xs=true:=by
 unfold WA at h
 split at h
 ·
  cases h
 ·
  split at h
  ·
   rename_i h1 h2;exact ⟨by omega,h2⟩
  ·
   cases h
def zde (xs:List Sg)(k:Sg):List Sg:=xs.takeWhile (fun x=>decide (x.id<k.id))++k::xs.dropWhile (fun x=>decide (x.id<k.id))
theorem zeT {xs ys:List Sg}{s:Int}:Yr (xs++ys) s=(Yr xs s).or (Yr ys s):=by unfold Yr;rw [List.find?_append]
theorem zlV {xs:List Sg}{k:Sg}{s:Int}(hn:Yr xs k.id=none):Yr (zde xs k) s=if k.id=s then some k else Yr xs s:=by
 unfold zde
 rw [zeT,zcr]
 by_cases h:k.id=s
 ·
  subst h
  have h1:Yr (xs.takeWhile fun x=>decide (x.id<k.id)) k.id=none:=XC.2 fun x hx=>XC.1 hn x ((List.takeWhile_sublist _).mem hx)
  rw [h1,if_pos rfl,if_pos rfl];rfl
 ·
  rw [if_neg h,if_neg h,←zeT,List.takeWhile_append_dropWhile]
theorem zcz {xs:List Sg}(h:Srt xs){k:Int}:∀ x∈xs.dropWhile (fun x=>decide (x.id<k)),k≤x.id:=by
 induction xs with
 | nil=>intro x hx;cases hx
 | cons y ys ih=>
  have h':=List.pairwise_cons.1 h
  intro x hx
  rw [List.dropWhile_cons] at hx
  split at hx
  ·
   exact ih h'.2 x hx
  ·
   rename_i hy
   have hy:k≤y.id:=by simpa using hy
   rcases List.mem_cons.1 hx with rfl | hx
   ·
    exact hy
   ·
    have:=h'.1 x hx;omega
theorem zcT {xs:List Sg}{k:Int}:∀ x∈xs.takeWhile (fun x=>decide (x.id<k)),x.id<k:=fun x hx=>by
 have:=List.all_eq_true.1 (List.all_takeWhile (l:=xs) (p:=fun x:Sg=>decide (x.id<k))) x hx
 simpa using this
theorem zqP {xs:List Sg}(h:Srt xs){k:Sg}(hn:Yr xs k.id=none):Srt (zde xs k):=by
 have h0:Srt (xs.takeWhile (fun x=>decide (x.id<k.id))++xs.dropWhile (fun x=>decide (x.id<k.id))):=by rw [List.takeWhile_append_dropWhile];exact h
 unfold Srt at h0
 rw [List.pairwise_append] at h0
 unfold Srt zde
 rw [List.pairwise_append,List.pairwise_cons]
 refine ⟨h0.1,⟨fun x hx=>?_,h0.2.1⟩,fun x hx y hy=>?_⟩
 ·
  have h1:=zcz h x hx
  have h2:=XC.1 hn x ((List.dropWhile_sublist _).mem hx)
  omega
 ·
  rcases List.mem_cons.1 hy with rfl | hy
  ·
   exact zcT x hx
  ·
   exact h0.2.2 x hx y hy
/-! ### One field of a sign -/
def isF (f:Int):Prop:=1≤f∧f≤9
theorem zug {x y:Sg}{f:Int}:(zam x f y).id=x.id:=by unfold zam;(repeat' split)<;>rfl
theorem zmy {x y:Sg}{f:Int}:(zam x f y).kind=x.kind:=by unfold zam;(repeat' split)<;>rfl
end
section
open Go Go.Kn Go.Proofs
def rmF (l:List Pt)(s:Int):List Int:=(l.filter fun p=>p.kind==3&&p.sign==s).map (·.id)
def stF (l:List Pt)(s f:Int):List Pt:=l.filter fun p=>p.kind==1&&(p.sign==s&&p.field==f)
def unB (on:Int→Int→Bool)(l:List Pt)(p:Pt):Bool:=p.kind==1&&(rmF l p.sign).any fun i=> !on i p.id
def unF (on:Int→Int→Bool)(l:List Pt)(s:Int):List Pt:=l.filter fun p=>p.sign==s&&unB on l p
def exB (on:Int→Int→Bool)(l:List Pt)(s:Int):Bool:=(rmF l s).isEmpty|| !(unF on l s).isEmpty
def zc5 (on:Int→Int→Bool)(l:List Pt)(s f:Int):List Pt:=(stF l s f).filter fun p=> !(stF l s f).any fun q=>on q.id p.id
def zpA (x:Sg)(f:Int):List Pt→Sg
 | []=>x
 | p::_=>zam x f p.nw
def zgt (on:Int→Int→Bool)(l:List Pt)(x:Sg)(k:Nat):Sg:=(List.range k).foldl (fun y (j:Nat)=>zpA y ((j:Int)+1) (zc5 on l x.id ((j:Int)+1))) x
def zkk (on:Int→Int→Bool)(l:List Pt)(x:Sg):Sg:=zgt on l x 9
def Uq (base:List Sg)(l:List Pt):List Sg:=l.foldl (fun s p=>if p.kind=2 then zde s p.nw else s) base
def Ug (on:Int→Int→Bool)(base:List Sg)(l:List Pt):List Sg:=((Uq base l).filter fun x=>exB on l x.id).map (zkk on l)
def Yb (ps:List Pt)(v:List Int):List Pt:=ps.filter fun p=>v.any (· ==p.id)
def WV (xs:List Sg)(s:Int):Bool:=xs.any fun x=>x.id==s
def zf5 (l:List Pt)(s:Int):Bool:=l.any fun q=>q.kind==2&&q.sign==s
def zrQ (base:List Sg)(l:List Pt)(p:Pt):Bool:= !((p.kind==2&&WV base p.sign)||(p.kind != 2&& !WV base p.sign)&& !zf5 l p.sign)
def zgB (base:List Sg)(l:List Pt):Bool:=l.all (zrQ base l)
def XT (ps:List Pt)(base:List Sg)(v:List Int):Int:=if KV ps≠0 then KV ps else if WA base≠0 then WA base else if v.length>512 then 2 else if zkm ps v&&zgB base (Yb ps v) then 0 else 380
def zdf (ps:List Pt)(base:List Sg)(v:List Int):Int:=if XT ps base v≠0 then XT ps base v else if (Ug (onF ps) base (Yb ps v)).length>4096 then 2 else 0
def zfS (ps:List Pt)(base:List Sg)(v:List Int):List Sg:=zlY (zdf ps base v) (Ug (onF ps) base (Yb ps v))
/-! ### Conflicts -/
structure zqY (p:Pt):Prop where
 pos:1≤p.id∧p.id≤1048576
 sg:0≤p.sign∧p.sign≤1048576
 kind:p.kind=1∨p.kind=2∨p.kind=3
 set:p.kind=1→isF p.field∧zam p.nw p.field Y6=Y6∧frm (zam zfp p.field p.nw)=true
 ins:p.kind=2→p.nw.id=p.sign∧frm p.nw=true
theorem zpM {p:Pt}(h:JN p=0):zqY p:=by
 unfold JN at h
 split at h
 ·
  cases h
 ·
  split at h
  ·
   rename_i h1 h2
   rw [Bool.and_eq_true,Bool.and_eq_true] at h2
   obtain ⟨h3,h4,h5⟩:=h2
   unfold idB at h4
   unfold Us at h5
   simp only [Bool.and_eq_true,decide_eq_true_eq] at h4
   refine ⟨by omega,by omega,?_,fun hk=>?_,fun hk=>?_⟩
   ·
    split at h5
    ·
     omega
    ·
     split at h5
     ·
      omega
     ·
      split at h5
      ·
       omega
      ·
       cases h5
   ·
    rw [if_pos hk] at h5
    simp only [Bool.and_eq_true,YK,decide_eq_true_eq] at h5
    exact ⟨⟨h5.1.1,h5.1.2⟩,zaT.1 h5.2.1,h5.2.2⟩
   ·
    rw [if_neg (by omega),if_pos hk] at h5
    simp only [Bool.and_eq_true,beq_iff_eq] at h5
    exact h5.2
  ·
   cases h
structure Sto (ps:List Pt):Prop where
 lst:Lst ps
 ok:∀ p∈ps,zqY p
 tog:∀ p∈ps,∀ q∈ps,p.id≠q.id→znc p q (onF ps p.id q.id)=true
theorem zqp {ps:List Pt}(h:zjr ps=true){p q:Pt}(hp:p∈ps)(hq:q∈ps)(hne:p.id≠q.id):znc p q (onF ps p.id q.id)=true:=by
 unfold zjr at h
 rw [List.all_eq_true] at h
 have h1:=h p hp
 rw [List.all_eq_true] at h1
 have h2:=h1 q hq
 rw [show (p.id==q.id)=false by simpa using hne,Bool.false_or] at h2
 exact h2
theorem zbj {ps:List Pt}(h:KV ps=0):Sto ps:=
 ⟨zaK h,fun p hp=>zpM (Kc.1 (Ui h).2.1 _ (List.mem_map.2 ⟨p,hp,rfl⟩)),fun _p hp _q hq hne=>zqp (Ui h).2.2.2 hp hq hne⟩
theorem Sto.ins {ps:List Pt}(h:Sto ps){p q:Pt}(hp:p∈ps)(hq:q∈ps)(hs:p.sign=q.sign)(hk:q.kind=2):p=q∨(p.kind≠2∧onF ps p.id q.id=true):=by
 by_cases e:p.id=q.id
 ·
  exact .inl (h.lst.uniq hp hq e)
 ·
  have:=h.tog p hp q hq e
  unfold znc at this
  rw [if_neg (by simpa using hs),if_pos hk] at this
  simp at this
  exact .inr this
theorem Yu {ps:List Pt}{v:List Int}{p:Pt}:p∈Yb ps v↔p∈ps∧p.id∈v:=by
 unfold Yb
 rw [List.mem_filter]
 simp
theorem Ver.closed {ps:List Pt}{v:List Int}(hv:Ver ps v):∀ p∈ps,(v.any (· ==p.id))=true→∀ q∈ps,q.id∈p.needs→(v.any (· ==q.id))=true:=fun p hp h q _ hq=>by
 have:p.id∈v:=by simpa using h
 have:=hv.need p hp this _ hq
 simpa using this
theorem zeN {ps:List Pt}{v:List Int}(h:Lst ps)(hv:Ver ps v):Lst (Yb ps v):=h.part hv.closed
theorem zqI {ps:List Pt}{v:List Int}(h:Lst ps)(hv:Ver ps v){p:Pt}(hp:p∈Yb ps v)(b:Int):onF (Yb ps v) p.id b=onF ps p.id b:=
 h.on_part hv.closed (Yu.1 hp).1 (List.mem_filter.1 hp).2
theorem zba {ps:List Pt}{v:List Int}(h:Sto ps)(hv:Ver ps v):Sto (Yb ps v):=
 ⟨zeN h.lst hv,fun p hp=>h.ok p (Yu.1 hp).1,fun p hp q hq hne=>by rw [zqI h.lst hv hp];exact h.tog p (Yu.1 hp).1 q (Yu.1 hq).1 hne⟩
/-! ### Standing matters YK the version alone -/
theorem zqi {l:List Pt}{s i:Int}:i∈rmF l s↔ ∃ p∈l,p.kind=3∧p.sign=s∧p.id=i:=by
 unfold rmF
 rw [zdl]
 simp [and_assoc]
theorem Ub {l:List Pt}{s f:Int}{p:Pt}:p∈stF l s f↔p∈l∧p.kind=1∧p.sign=s∧p.field=f:=by
 unfold stF
 rw [List.mem_filter]
 simp
section
variable {l:List Pt} {on on':Int→Int→Bool}
end
end
section
open Go Go.Kn Go.Proofs
section
variable {ps:List Pt} {base:List Sg} {v:List Int}
end
/-! ### All signs of a base and of what is inserted -/
theorem ziZ {xs:List Sg}{s:Int}:WV xs s=(Yr xs s).isSome:=by
 unfold WV Yr
 rw [Bool.eq_iff_iff,List.find?_isSome,List.any_eq_true]
def zgc (l:List Pt)(s:Int):Option Sg:=(l.find? fun q=>q.kind==2&&q.sign==s).map (·.nw)
theorem zcM {l:List Pt}{s:Int}{x:Sg}(h:zgc l s=some x):∃ q∈l,q.kind=2∧q.sign=s∧q.nw=x:=by
 unfold zgc at h
 rw [Option.map_eq_some_iff] at h
 obtain ⟨q,hq,rfl⟩:=h
 have:=List.find?_some hq
 simp at this
 exact ⟨q,List.mem_of_find?_eq_some hq,this.1,this.2,rfl⟩
theorem zhF {base:List Sg}{l:List Pt}(h:zgB base l=true){q:Pt}(hq:q∈l)(hk:q.kind=2):Yr base q.sign=none:=by
 unfold zgB at h
 rw [List.all_eq_true] at h
 have:=h q hq
 unfold zrQ at this
 rw [ziZ] at this
 simp [hk] at this
 exact this
theorem zfK {base:List Sg}{l:List Pt}{q:Pt}:Uq base (l++[q])=if q.kind=2 then zde (Uq base l) q.nw else Uq base l:=by
 unfold Uq
 rw [List.foldl_append];rfl
theorem zhu {base:List Sg}(hb:Srt base):∀ (l2 l1:List Pt),Sto (l1++l2)→zgB base (l1++l2)=true→Srt (Uq base l1)→(∀ s,Yr (Uq base l1) s=(Yr base s).or (zgc l1 s))→
  Srt (Uq base (l1++l2))∧∀ s,Yr (Uq base (l1++l2)) s=(Yr base s).or (zgc (l1++l2) s)
 | [],l1,_,_,h1,h2=>by rw [List.append_nil];exact ⟨h1,h2⟩
 | q::l2,l1,hs,hf,h1,h2=>by
  have e:l1++q::l2=(l1++[q])++l2:=by simp
  rw [e] at hs hf ⊢
  have hq:q∈l1++[q]++l2:=by simp
  have hins:∀ s,zgc (l1++[q]) s=(zgc l1 s).or (if q.kind=2∧q.sign=s then some q.nw else none):=by
   intro s
   unfold zgc
   rw [List.find?_append]
   by_cases hk:q.kind=2∧q.sign=s
   ·
    rw [if_pos hk,List.find?_cons,show (q.kind==2&&q.sign==s)=true by simpa using hk]
    cases l1.find? fun q=>q.kind==2&&q.sign==s<;>rfl
   ·
    rw [if_neg hk,List.find?_cons,show (q.kind==2&&q.sign==s)=false by simpa using hk]
    cases l1.find? fun q=>q.kind==2&&q.sign==s<;>rfl
  refine zhu hb l2 (l1++[q]) hs hf ?_ ?_
  ·
   rw [zfK]
   by_cases hk:q.kind=2
   ·
    rw [if_pos hk]
    have hid:=((hs.ok q hq).ins hk).1
    refine zqP h1 ?_
    rw [h2,hid,zhF hf hq hk]
    cases hi:zgc l1 q.sign with
    | none=>rfl
    | some x=>
     exfalso
     obtain ⟨r,hr,hr1,hr2,_⟩:=zcM hi
     rcases hs.ins (p:=r) (q:=q) (by simp [hr]) hq hr2 hk with e2 | ⟨e2,_⟩
     ·
      subst e2
      have:=hs.lst.inc
      rw [List.append_assoc,List.pairwise_append] at this
      have:=this.2.2 r hr r (by simp)
      omega
     ·
      exact e2 hr1
   ·
    rw [if_neg hk];exact h1
  ·
   intro s
   rw [zfK,hins]
   by_cases hk:q.kind=2
   ·
    have hid:=((hs.ok q hq).ins hk).1
    have hnone:Yr (Uq base l1) q.nw.id=none:=by
     rw [h2,hid,zhF hf hq hk]
     cases hi:zgc l1 q.sign with
     | none=>rfl
     | some x=>
      exfalso
      obtain ⟨r,hr,hr1,hr2,_⟩:=zcM hi
      rcases hs.ins (p:=r) (q:=q) (by simp [hr]) hq hr2 hk with e2 | ⟨e2,_⟩
      ·
       subst e2
       have:=hs.lst.inc
       rw [List.append_assoc,List.pairwise_append] at this
       have:=this.2.2 r hr r (by simp)
       omega
      ·
       exact e2 hr1
    rw [if_pos hk,zlV hnone,hid,h2]
    have hn2:=hnone
    rw [h2,hid] at hn2
    by_cases hs2:q.sign=s
    ·
     subst hs2
     rw [if_pos rfl,if_pos ⟨hk,rfl⟩]
     cases h3:Yr base q.sign with
     | some x=>rw [h3] at hn2;cases hn2
     | none=>
      rw [h3] at hn2
      cases h4:zgc l1 q.sign with
      | some x=>rw [h4] at hn2;cases hn2
      | none=>rfl
    ·
     rw [if_neg hs2,if_neg (fun h=>hs2 h.2),Option.or_none]
   ·
    rw [if_neg hk,if_neg (fun h=>hk h.1),Option.or_none,h2]
theorem zfc {base:List Sg}{l:List Pt}(hb:Srt base)(hs:Sto l)(hf:zgB base l=true):Srt (Uq base l)∧∀ s,Yr (Uq base l) s=(Yr base s).or (zgc l s):=by
 have:=zhu hb l [] hs hf hb (fun s=>by simp [zgc,Uq])
 simpa using this
end
section
open Go Go.Kn Go.Proofs
theorem zoo {x:Sg}{f:Int}{ps:List Pt}:(zpA x f ps).id=x.id:=by
 cases ps with
 | nil=>rfl
 | cons p ps=>exact zug
theorem ziv {x:Sg}{f:Int}{ps:List Pt}:(zpA x f ps).kind=x.kind:=by
 cases ps with
 | nil=>rfl
 | cons p ps=>exact zmy
theorem zcy {on:Int→Int→Bool}{l:List Pt}{x:Sg}{k:Nat}:zgt on l x (k+1)=zpA (zgt on l x k) ((k:Int)+1) (zc5 on l x.id ((k:Int)+1)):=by
 unfold zgt
 rw [List.range_succ,List.foldl_append];rfl
theorem zdZ {on:Int→Int→Bool}{l:List Pt}{x:Sg}:∀ k:Nat,(zgt on l x k).id=x.id∧(zgt on l x k).kind=x.kind
 | 0=>⟨rfl,rfl⟩
 | k+1=>by
  rw [zcy,zoo,ziv]
  exact zdZ k
theorem zhG {on:Int→Int→Bool}{l:List Pt}{x:Sg}:(zkk on l x).id=x.id:=(zdZ 9).1
theorem zf6 {xs:List Sg}(h:Srt xs)(p:Sg→Bool):Srt (xs.filter p):=List.Pairwise.filter p h
theorem zqa {xs:List Sg}(h:Srt xs){f:Sg→Sg}(hf:∀ x,(f x).id=x.id):Srt (xs.map f):=by
 unfold Srt
 rw [List.pairwise_map]
 simp only [hf]
 exact h
theorem zqn {on:Int→Int→Bool}{base:List Sg}{l:List Pt}(h:Srt (Uq base l)):Srt (Ug on base l):=zqa (zf6 h _) fun _=>zhG
section
variable {l l':List Pt} {s:Int} {on:Int→Int→Bool}
end
theorem zoM {xs:List Sg}{k:Sg}:(zde xs k).length=xs.length+1:=by
 have:=congrArg List.length (List.takeWhile_append_dropWhile (p:=fun x:Sg=>decide (x.id<k.id)) (l:=xs))
 rw [List.length_append] at this
 unfold zde
 rw [List.length_append,List.length_cons]
 omega
theorem zke:∀ {l:List Pt} {base:List Sg},(Uq base l).length≤base.length+l.length
 | [],base=>by simp [Uq]
 | q::l,base=>by
  show (Uq (if q.kind=2 then zde base q.nw else base) l).length≤_
  refine Nat.le_trans zke ?_
  split
  ·
   rw [zoM,List.length_cons];omega
  ·
   rw [List.length_cons];omega
theorem zrj {on:Int→Int→Bool}{base:List Sg}{l:List Pt}:(Ug on base l).length≤base.length+l.length:=by
 unfold Ug
 rw [List.length_map]
 exact Nat.le_trans (List.length_filter_le ..) zke
end
section
open Go Go.Kn Go.Proofs
def zxW (t:List Pt)(s:Int):Bool:=t.any fun p=>p.kind==3&&p.sign==s
def zx0 (x:Sg)(t:List Pt)(s:Int):Sg:=t.foldl (fun y p=>if p.kind=1∧p.sign=s then zam y p.field p.nw else y) x
def stS (base:List Sg)(t:List Pt)(s:Int):Option Sg:=if zxW t s then none else ((Yr base s).or (zgc t s)).map fun x=>zx0 x t s
end
section
open Go Go.Kn Go.Proofs
def zk7 (x y:Int):Int:=if x<y then -1 else if x>y then 1 else 0
/-! ### Fields as cells -/
def foF (f:Int):Nat:=if f=1 then 1 else if f=2 then 2 else if f=3 then 3 else if f=4 then 5 else if f=5 then 6 else if f=6 then 7 else if f=7 then 8 else 9
def zu6 (x:Sg)(f:Int):Int:=if f=1 then x.role else if f=2 then x.bar else if f=3 then x.mark else if f=4 then x.side else if f=5 then x.dir else if f=6 then x.level else if f=7 then x.size else x.wth
def zxM (b:Nat):List Value:=[.pointer none,.pointer (some ⟨b,0+1,none⟩),.pointer (some ⟨b,0+2,none⟩),.pointer (some ⟨b,0+3,none⟩),.pointer (some ⟨b,0+5,none⟩),.pointer (some ⟨b,0+6,none⟩),.pointer (some ⟨b,0+7,none⟩),.pointer (some ⟨b,0+8,none⟩),.pointer (some ⟨b,0+9,none⟩)]
theorem Xv {f:Int}(h:1≤f∧f≤8):f=1∨f=2∨f=3∨f=4∨f=5∨f=6∨f=7∨f=8:=by omega
theorem zao {f:Int}(h:1≤f∧f≤8)(b:Nat):(zxM b)[f.toNat*1]? =some (.pointer (some ⟨b,foF f,none⟩)):=by
 rcases Xv h with rfl | rfl | rfl | rfl | rfl | rfl | rfl | rfl<;>rfl
theorem zdk {f:Int}(h:1≤f∧f≤8)(x:Sg):ziH (Y2 x) (foF f)=some (.int .i64 (zu6 x f)):=by
 rcases Xv h with rfl | rfl | rfl | rfl | rfl | rfl | rfl | rfl<;>rfl
theorem zq6 {f:Int}:Nat.blt (foF f) 14=true:=by
 unfold foF
 repeat' split
 all_goals rfl
theorem zg7 {f:Int}(h:1≤f∧f≤8)(x y:Sg):(Y2 x).toArray.setIfInBounds (foF f) (.int .i64 (zu6 y f))=(Y2 (zam x f y)).toArray:=by
 rcases Xv h with rfl | rfl | rfl | rfl | rfl | rfl | rfl | rfl<;>rfl
def zfV (v:List Int)(k:Nat)(l:Int):Prop:=(k=0→l=0)∧∀ y,v[k-1]? =some y→k≠0→l=y
theorem zar {v:List Int}{k:Nat}{x:Int}(hx:v[k]? =some x):zfV v (k+1) x:=⟨fun h=>by omega,fun y hy _=>by simp at hy;rw [hx] at hy;cases hy;rfl⟩
theorem zvo {id:Int}{v:List Int}{k:Nat}{l x:Int}(hall:(List.range k).all (ndP id v)=true)(hl:zfV v k l)(hx:v[k]? =some x):ndP id v k= !(decide (x≤l)||decide (x≥id)):=by
 unfold ndP
 rw [Q1 hx]
 cases k with
 | zero=>
  rw [hl.1 rfl]
  rw [Bool.eq_iff_iff];simp;omega
 | succ k=>
  have hk:=(List.getElem?_eq_some_iff.1 hx).1
  have hy:v[k]? =some (v[k]'(by omega)):=List.getElem?_eq_getElem _
  have e:=hl.2 _ (by rw [Nat.add_sub_cancel];exact hy) (by omega)
  rw [show (((k+1:Nat):Int)-1).toNat=k by omega,Q1 hy,←e]
  have h1:1≤l:=by
   rw [List.all_eq_true] at hall
   have:=hall k (List.mem_range.2 (by omega))
   unfold ndP at this
   rw [Q1 hy] at this
   simp at this
   omega
  rw [Bool.eq_iff_iff];simp;omega
theorem zuG {p:Pt}(h:p.needs.length>32):JN p=2:=by unfold JN;rw [if_pos h]
theorem zua {p:Pt}(h:¬p.needs.length>32)(h2:ndB p.id p.needs=false):JN p=370:=by unfold JN;rw [if_neg h,h2];rfl
theorem zcv {p:Pt}(h:¬p.needs.length>32)(h2:ndB p.id p.needs=true)(h3:(idB p&&Us p)=false):JN p=370:=by unfold JN;rw [if_neg h,h2,h3];rfl
theorem zfh {p:Pt}(h:¬p.needs.length>32)(h2:ndB p.id p.needs=true)(h3:(idB p&&Us p)=true):JN p=0:=by unfold JN;rw [if_neg h,h2,h3];rfl
theorem ztj {p:Pt}(h:p.kind=1)(h2:YK p.field 1 9=true):Us p=(zag (zam p.nw p.field Y6) Y6&&frm (zam zfp p.field p.nw)):=by unfold Us;rw [if_pos h,h2,Bool.true_and]
theorem zvx {p:Pt}(h:p.kind=1)(h2:YK p.field 1 9=false):(idB p&&Us p)=false:=by unfold Us;rw [if_pos h,h2,Bool.false_and,Bool.and_false]
theorem ztZ {p:Pt}(h:p.kind=2):Us p=(p.field==0&&(p.nw.id==p.sign&&frm p.nw)):=by unfold Us;rw [if_neg (by omega),if_pos h]
theorem zsH {p:Pt}(h:p.kind=3):Us p=(p.field==0&&zag p.nw Y6):=by unfold Us;rw [if_neg (by omega),if_neg (by omega),if_pos h]
theorem zwU {p:Pt}(h1:p.kind≠1)(h2:p.kind≠2)(h3:p.kind≠3):(idB p&&Us p)=false:=by unfold Us;rw [if_neg h1,if_neg h2,if_neg h3,Bool.and_false]
def zjw (an ad bn bd:Int):Int:=if Um an ad&&Um bn bd then zk7 (an*bd) (bn*ad) else 0
theorem zdA {fn fd tn td:Int}:(((zkg fn fd tn td==0)&&decide (zjw fn fd tn td<0))&&decide (fn≥0)&&decide (tn≤td))=zdi fn fd tn td:=by
 unfold zkg zjw zdi zk7
 cases h:(Um fn fd&&Um tn td) with
 | false=>rfl
 | true=>
  simp only [if_true,Bool.true_and]
  by_cases h2:fn*td<tn*fd
  ·
   simp [h2]
  ·
   by_cases h3:fn*td>tn*fd<;>simp [h2,h3]
theorem zcn {xs:List Sg}{k:Nat}{x:Sg}(hx:xs[k]? =some x):skP xs k= !(!frm x||(decide ((k:Int)>0)&&decide ((xs.getD ((k:Int)-1).toNat Y6).id≥x.id))):=by unfold skP;rw [Q1 hx]
end
section
open Go Go.Kn Go.Proofs
theorem zlB (I:Qu)(x y:Int):Zw Tryz.prog 142 [.int .i64 x,.int .i64 y] I (.int .i64 (zk7 x y)):=by
 intro g H w hw
 refine qe Tryz.func142 Tryz.ntmps142 hw ?_
 refine zR (zA ?_)
 refine zN (zR ?_)
 refine zM ?_
 refine qc (vs:=[_]) rfl Wz (zge I _) ?_
 refine zA ?_
 refine zN (zR ?_)
 refine zM ?_
 refine qc (vs:=[_]) rfl Wz (zge I _) ?_
 refine zA (zN (Ql (zR ?_)))
 refine zM (zN ?_)
 refine zI ?_ ?_<;>intro hc11
 ·
  cases hc11
 refine Qo (Qa (Ql (zR (zM (zN ?_)))))
 refine zI ?_ ?_<;>intro hc13
 ·
  cases hc13
 refine Qo (Qa (Ql (zR (zM ?_))))
 refine zM ?_
 refine zC (zN ?_)
 refine zI ?_ ?_<;>intro hc16
 ·
  refine zR (zA (zN (Qt (Qc ?_))))
  exact zr rfl rfl (by unfold zk7;first | (rw [if_pos (by simpa using hc16)]) | (rw [if_neg (by simpa using hc16),if_pos (by simpa using hc19)]) | (rw [if_neg (by simpa using hc16),if_neg (by simpa using hc19)]))
 refine Qo (Qa (Ql (zR (zM ?_))))
 refine zM ?_
 refine zC (zN ?_)
 refine zI ?_ ?_<;>intro hc19
 ·
  refine zR (zA (zN (Qt (Qc ?_))))
  exact zr rfl rfl (by unfold zk7;first | (rw [if_pos (by simpa using hc16)]) | (rw [if_neg (by simpa using hc16),if_pos (by simpa using hc19)]) | (rw [if_neg (by simpa using hc16),if_neg (by simpa using hc19)]))
 refine Qo (Qa (zR (zA (zN (Qt ?_)))))
 exact zr rfl rfl (by unfold zk7;first | (rw [if_pos (by simpa using hc16)]) | (rw [if_neg (by simpa using hc16),if_pos (by simpa using hc19)]) | (rw [if_neg (by simpa using hc16),if_neg (by simpa using hc19)]))
end
section
open Go Go.Kn Go.Proofs
theorem zh0 (I:Qu)(an ad bn bd:Int):Zw Tryz.prog 237 [zbD (an) (ad),zbD (bn) (bd)] I (.tuple #[.int .i64 (zjw an ad bn bd),.int .i64 (zkg an ad bn bd)]):=by
 intro g H w hw
 refine qe Tryz.func237 Tryz.ntmps237 hw ?_
 refine zR ?_
 refine Q5 rfl rfl rfl (fun b_2=>?_)
 refine Q5 rfl rfl rfl (fun b_3=>?_)
 refine zA ?_
 refine zA (zN (Ql (zR ?_)))
 refine zV (Qp rfl Vg (fun hg=>by exact Cells.g1) rfl) ?_
 refine qc (vs:=[_]) rfl zaS (Xe I _ _) ?_
 refine zC ?_
 refine zM ?_
 refine QX 3 rfl rfl rfl ?_
 refine zJ (Qp rfl Vg (fun hg=>by exact Cells.g0) rfl) ?_
 refine qf (vs:=[_]) rfl zaS (fun hg=>Xe I _ _) ?_
 refine zJ (QH rfl rfl rfl) ?_
 refine ZA rfl rfl rfl rfl rfl ?_
 refine zN ?_
 refine zI ?_ ?_<;>intro hc13
 ·
  have hb:(Um an ad&&Um bn bd)=false:=by have h:=hc13;rw [zbH,Bool.not_eq_true'] at h;exact h
  refine zR (zA ?_)
  refine zA (zN (Qt (Qc ?_)))
  exact Zx rfl rfl rfl (fun w hw=>⟨by unfold zjw zkg;rw [hb];rfl,hw.drop⟩)
 have hb:(Um an ad&&Um bn bd)=true:=by have h:=hc13;rw [zbH,Bool.not_eq_false'] at h;exact h
 have ⟨ha1,ha2⟩:=zbe (Bool.and_eq_true .. ▸ hb).1
 have ⟨hb1,hb2⟩:=zbe (Bool.and_eq_true .. ▸ hb).2
 refine Qo (Qa (zR ?_))
 refine zF Vb ?_
 refine zL Qs ?_
 refine zF VW ?_
 refine zL Qs ?_
 refine zV (ZO rfl rfl rfl (fun _=>by exact zmx (by omega) (by omega))) ?_
 refine zF Vb ?_
 refine zL Qs ?_
 refine zF VW ?_
 refine zL Qs ?_
 refine zV (ZO rfl rfl rfl (fun _=>by exact zmx (by omega) (by omega))) ?_
 refine qc (vs:=[_,_]) rfl zdu (zlB I _ _) ?_
 refine zA ?_
 refine zA (zN (Qt ?_))
 exact Zx rfl rfl rfl (fun w hw=>⟨by unfold zjw zkg;rw [hb];rfl,hw.drop⟩)
theorem zjm (I:Qu)(an ad bn bd:Int):Zw Tryz.prog 203 [zbD (an) (ad),zbD (bn) (bd)] I (.bool (zdi an ad bn bd)):=by
 intro g H w hw
 refine qe Tryz.func203 Tryz.ntmps203 hw ?_
 refine zR ?_
 refine Q5 rfl rfl rfl (fun b_2=>?_)
 refine Q5 rfl rfl rfl (fun b_3=>?_)
 refine zA ?_
 refine zN (zR ?_)
 refine zV (Qp rfl Vg (fun hg=>by exact Cells.g1) rfl) ?_
 refine zV (Qp rfl Vg (fun hg=>by exact Cells.g0) rfl) ?_
 refine qc (vs:=[_,_]) rfl zjE (zh0 I _ _ _ _) ?_
 refine zM ?_
 refine zE ?_
 refine zE ?_
 refine zA ?_
 refine zA ?_
 refine zN (zR ?_)
 refine zM ?_
 refine zC ?_
 refine zM ?_
 refine QE 2 rfl rfl rfl ?_
 refine zK (Qi rfl) ?_
 refine zK (QH rfl rfl rfl) ?_
 refine QP rfl rfl rfl rfl rfl ?_
 refine zM ?_
 refine QE 6 rfl rfl rfl ?_
 refine zK (Qe rfl Vb) ?_
 refine zK (Qd rfl Qs (fun hg=>by exact QU.h1 rfl)) ?_
 refine zK (QH rfl rfl rfl) ?_
 refine QP rfl rfl rfl rfl rfl ?_
 refine zM ?_
 refine QE 11 rfl rfl rfl ?_
 refine zK (Qe rfl Vb) ?_
 refine zK (Qd rfl Qs (fun hg=>by exact QU.h0 rfl)) ?_
 refine zK (Qe rfl VW) ?_
 refine zK (Qd rfl Qs (fun hg=>by exact QU.h0 rfl)) ?_
 refine zK (QH rfl rfl rfl) ?_
 refine QP rfl rfl rfl rfl rfl ?_
 refine zA (zN (Qt ?_))
 exact zr rfl rfl (by rw [←zdA])
theorem zol (I:Qu)(x:Sg):Zw Tryz.prog 154 [JX x] I (.bool (frm x)):=by
 intro g H w hw
 refine qe Tryz.func154 Tryz.ntmps154 hw ?_
 refine zR ?_
 refine Q5 rfl rfl rfl (fun b_1=>?_)
 refine zA ?_
 refine zN (zR ?_)
 refine zF ZN ?_
 refine zL Qs ?_
 refine qc (vs:=[_,_,_]) rfl Yj (ZV I _ _ _) ?_
 refine zM ?_
 refine QE 3 rfl rfl rfl ?_
 refine zK (Qe rfl Ke) ?_
 refine zK (Qd rfl Qs (fun hg=>by exact QU.h0 rfl)) ?_
 refine qg (vs:=[_,_,_]) rfl Yj (fun hg=>ZV I _ _ _) ?_
 refine QP rfl rfl rfl rfl rfl ?_
 refine zM ?_
 refine QE 8 rfl rfl rfl ?_
 refine zK (Qe rfl Kh) ?_
 refine zK (Qd rfl Qs (fun hg=>by exact QU.h0 rfl)) ?_
 refine qg (vs:=[_,_,_]) rfl Yj (fun hg=>ZV I _ _ _) ?_
 refine QP rfl rfl rfl rfl rfl ?_
 refine zM ?_
 refine QE 13 rfl rfl rfl ?_
 refine zK (Qe rfl W6) ?_
 refine zK (Qd rfl Qs (fun hg=>by exact QU.h0 rfl)) ?_
 refine qg (vs:=[_,_,_]) rfl Yj (fun hg=>ZV I _ _ _) ?_
 refine QP rfl rfl rfl rfl rfl ?_
 refine zM ?_
 refine QE 18 rfl rfl rfl ?_
 refine zK (Qe rfl Jz) ?_
 refine zK (Qd rfl Qs (fun hg=>by exact QU.h0 rfl)) ?_
 refine qg (vs:=[_,_,_]) rfl Yj (fun hg=>ZV I _ _ _) ?_
 refine QP rfl rfl rfl rfl rfl ?_
 refine zM ?_
 refine QE 23 rfl rfl rfl ?_
 refine zK (Qe rfl JW) ?_
 refine zK (Qd rfl Qs (fun hg=>by exact QU.h0 rfl)) ?_
 refine qg (vs:=[_,_,_]) rfl Yj (fun hg=>ZV I _ _ _) ?_
 refine QP rfl rfl rfl rfl rfl ?_
 refine zM ?_
 refine QE 28 rfl rfl rfl ?_
 refine zK (Qe rfl JV) ?_
 refine zK (Qd rfl Qs (fun hg=>by exact QU.h0 rfl)) ?_
 refine qg (vs:=[_,_,_]) rfl Yj (fun hg=>ZV I _ _ _) ?_
 refine QP rfl rfl rfl rfl rfl ?_
 refine zM ?_
 refine QE 33 rfl rfl rfl ?_
 refine zK (Qe rfl Kb) ?_
 refine zK (Qd rfl Qs (fun hg=>by exact QU.h0 rfl)) ?_
 refine qg (vs:=[_,_,_]) rfl Yj (fun hg=>ZV I _ _ _) ?_
 refine QP rfl rfl rfl rfl rfl ?_
 refine zM ?_
 refine QE 38 rfl rfl rfl ?_
 refine zK (Qe rfl JR) ?_
 refine zK (Qd rfl Qs (fun hg=>by exact QU.h0 rfl)) ?_
 refine qg (vs:=[_,_,_]) rfl Yj (fun hg=>ZV I _ _ _) ?_
 refine QP rfl rfl rfl rfl rfl ?_
 refine zM ?_
 refine QE 43 rfl rfl rfl ?_
 refine zK (Qe rfl J0) ?_
 refine zK (Qd rfl Qs (fun hg=>by exact QU.h0 rfl)) ?_
 refine qg (vs:=[_,_,_]) rfl Yj (fun hg=>ZV I _ _ _) ?_
 refine QP rfl rfl rfl rfl rfl ?_
 refine zM ?_
 refine QE 48 rfl rfl rfl ?_
 refine zK (Qe rfl VF) ?_
 refine zK (Qp rfl Vg (fun hg=>by exact Cells.s0 (vs:=[_,_]) rfl) rfl) ?_
 refine zK (Qe rfl Vw) ?_
 refine zK (Qp rfl Vg (fun hg=>by exact Cells.s0 (vs:=[_,_]) rfl) rfl) ?_
 refine qg (vs:=[_,_]) rfl zhV (fun hg=>zjm I _ _ _ _) ?_
 refine QP rfl rfl rfl rfl rfl ?_
 refine zA (zN (Qt ?_))
 exact zr rfl rfl (by rfl)
theorem zfR {I:Qu}{av:Option Addr}{n c:Nat}{xs:List Sg}(hS:Sl I 14 Y2 av n c xs)(hn:n≤100000):Zw Tryz.prog 102 [.slice av n c] I (.int .i64 (WA xs)):=by
 intro g H w hw
 refine qe Tryz.func102 Tryz.ntmps102 hw ?_
 refine zR (zA (zN (Ql (zR ?_))))
 refine zM ?_
 refine zQ YZ ?_
 refine zC (zN ?_)
 refine zI ?_ ?_<;>intro hc7
 ·
  have h6:xs.length>4096:=by rw [hS.len];simp at hc7;omega
  refine zR (zA (zN (Qt (Qc ?_))))
  first
  | exact zr rfl rfl (by unfold WA;rw [if_pos h6])
 have h6:¬xs.length>4096:=by rw [hS.len];simp at hc7;omega
 refine Qo (Qa (Ql (zR (zM ?_))))
 refine zQ YZ ?_
 refine zM (zN (Qm ?_))
 refine zU [(0,_),(8,_),(9,_)] (fun T L0 mz E I' loc'=>∃ (k:Nat),mz=n-k∧E=(10,.int .i64 k)::T∧I=I'∧L0=loc'∧k≤n∧(List.range k).all (skP xs)=true) ?_ (h:=⟨0,rfl,rfl,rfl,rfl,Nat.zero_le _,rfl⟩)
 rintro mz E I' loc' ⟨k,rfl,rfl,rfl,rfl,hk,hall⟩
 refine zR (zC (zN (Ql ?_)))
 refine zI ?_ ?_<;>intro hc11
 ·
  have hlt_k:k<n:=by have h:=hc11;simp at h;omega
  obtain ⟨x,hx⟩:=hS.at hlt_k
  refine Qo (Qa (Ql (Qm (zR (zM ?_)))))
  refine zV (QF rfl rfl YZ (by assumption) (fun hg=>by omega)) ?_
  refine zV (Qp rfl ZL (fun hg=>by exact zyf hS hx) rfl) ?_
  refine Qr WX rfl rfl (fun b_4=>?_)
  refine zA ?_
  refine zh Vx ?_
  refine zN (Ql ?_)
  refine YU mixed (by kernel_rfl) ?_
  refine zq (Qp rfl ZL (fun hg=>by exact Cells.g0) rfl) ?_
  refine Jj (cap:=[]) (vs:=[_]) rfl rfl zgI (zol I _) rfl rfl ?_
  refine zq (Vy rfl) ?_
  refine zq (Qi rfl) ?_
  refine Vu 3 rfl rfl rfl ?_
  refine zj (Qi rfl) ?_
  refine zj (QH rfl rfl rfl) ?_
  refine zj (Qi rfl) ?_
  refine W5 6 rfl rfl rfl ?_
  refine zk (Qi rfl) ?_
  refine zk (Qi rfl) ?_
  refine zk (ZO rfl rfl rfl (fun hg=>by omega)) ?_
  refine zk (QF rfl rfl YZ (by assumption) (fun hg=>by (simp [ZX] at hg;omega))) ?_
  refine zk (Qe rfl ZN) ?_
  refine zk (Qd rfl Qs (fun hg=>by exact zx7 (k:=((k:Int)-1).toNat) hS (Zk (d:=Y6) hS.len (by simp [ZX] at hg;omega)) rfl)) ?_
  refine zk (Qe rfl ZN) ?_
  refine zk (Qd rfl Qs (fun hg=>by exact QU.h0 rfl)) ?_
  refine zk (QH rfl rfl rfl) ?_
  refine zek rfl rfl rfl (.some rfl rfl rfl rfl gbf) rfl rfl ?_
  refine U7 rfl rfl rfl rfl rfl ?_
  refine YV ?_
  refine Qa ?_
  refine zI ?_ ?_<;>intro hc32
  ·
   refine zR (zA (zN (Qt (Qn (Qc (Qc (Qn ?_)))))))
   refine Qc ?_
   first
   | exact zr rfl rfl (by unfold WA skB;rw [if_neg h6,JK (k:=k) (by rw [hS.len];exact hlt_k) (by rw [zcn hx,hc32];rfl)];rfl)
  refine Qo (Qh (Qa (Qg (zB ?_))))
  refine zM (Qb ?_)
  exact zm (h:=⟨n-(k+1),by omega,k+1,rfl,rfl,rfl,rfl,by omega,V8 hall (by rw [zcn hx,hc32];rfl)⟩)
 have hge_k:n≤k:=by have h:=hc11;simp at h;omega
 refine QI (Qf (Qf (Qk (Qa (zR (zA (zN ?_)))))))
 refine Qt ?_
 first
 | exact zr rfl rfl (by unfold WA skB;rw [if_neg h6,hS.len,show n=k by omega,hall];rfl)
theorem Xz (I:Qu)(b:Nat):Zw Tryz.prog 196 [Zb b] I (.agg (zxM b).toArray):=by
 intro g H w hw
 refine qe Tryz.func196 Tryz.ntmps196 hw ?_
 refine zR ?_
 refine Qr znn rfl rfl (fun b_2=>?_)
 refine zN (Ql ?_)
 have hD:=zye I
 refine Jo ?_
 refine Z7 I [] mixed ?_
 refine zT 0 rfl (Qi rfl) hD ?_
 refine zT 1 rfl (Q0 rfl) hD ?_
 refine zT 2 rfl (Qe rfl Ke) hD ?_
 refine zT 3 rfl (Qi rfl) hD ?_
 refine zT 4 rfl (Q0 rfl) hD ?_
 refine zT 5 rfl (Qe rfl Kh) hD ?_
 refine zT 6 rfl (Qi rfl) hD ?_
 refine zT 7 rfl (Q0 rfl) hD ?_
 refine zT 8 rfl (Qe rfl Jz) hD ?_
 refine zT 9 rfl (Qi rfl) hD ?_
 refine zT 10 rfl (Q0 rfl) hD ?_
 refine zT 11 rfl (Qe rfl JW) hD ?_
 refine zT 12 rfl (Qi rfl) hD ?_
 refine zT 13 rfl (Q0 rfl) hD ?_
 refine zT 14 rfl (Qe rfl JV) hD ?_
 refine zT 15 rfl (Qi rfl) hD ?_
 refine zT 16 rfl (Q0 rfl) hD ?_
 refine zT 17 rfl (Qe rfl Kb) hD ?_
 refine zT 18 rfl (Qi rfl) hD ?_
 refine zT 19 rfl (Q0 rfl) hD ?_
 refine zT 20 rfl (Qe rfl JR) hD ?_
 refine zT 21 rfl (Qi rfl) hD ?_
 refine zT 22 rfl (Q0 rfl) hD ?_
 refine zT 23 rfl (Qe rfl J0) hD ?_
 refine zT 24 rfl (Zp (ps:=[(1,_),(2,_),(3,_),(4,_),(5,_),(6,_),(7,_),(8,_)]) [_,_,_,_,_,_,_,_,_] Ua znn rfl rfl) hD ?_
 refine qd 25 rfl ?_
 refine zh zqA ?_
 refine Qb ?_
 refine zD hD ?_
 refine QG (by kernel_rfl) ?_
 refine QQ ?_
 refine Qa (Qt ?_)
 exact KH rfl rfl zoe Cells.g0 rfl (fun w hw=>⟨rfl,hw.drop⟩)
theorem zuo (I:Qu)(x:Sg)(f:Int)(y:Sg)(hf:isF f):Zw Tryz.prog 146 [JX x,.int .i64 f,JX y] I (JX (zam x f y)):=by
 intro g H w hw
 refine qe Tryz.func146 Tryz.ntmps146 hw ?_
 refine zR ?_
 refine Q5 rfl rfl rfl (fun b_3=>?_)
 refine Q5 rfl rfl rfl (fun b_5=>?_)
 refine Qr WX rfl rfl (fun b_6=>?_)
 refine zN (Ql (zR (zM ?_)))
 refine zC (zN ?_)
 refine zI ?_ ?_<;>intro hc8
 ·
  have hf9:f=9:=by simpa using hc8
  refine zR ?_
  refine zF VF ?_
  refine zV (Qp rfl Vg (fun hg=>by exact Cells.s1 (vs:=[_,_]) rfl) rfl) ?_
  refine zF Vw ?_
  refine zV (Qp rfl Vg (fun hg=>by exact Cells.s1 (vs:=[_,_]) rfl) rfl) ?_
  refine zF VF ?_
  refine Jf rfl rfl zas rfl rfl rfl rfl (by repeat (first | exact Upd.here | apply Upd.there | apply QJ)) ?_
  refine zF Vw ?_
  refine Jf rfl rfl zas rfl rfl rfl rfl (by repeat (first | exact Upd.here | apply Upd.there | apply QJ)) ?_
  refine zN (zR ?_)
  refine zV (Qp rfl ZL (fun hg=>by exact Cells.g2) rfl) ?_
  refine zh Vx ?_
  refine zN (Qt (Qc ?_))
  first
  | exact KH rfl rfl ZL Cells.g0 rfl (fun w hw=>⟨by rw [hf9];rfl,hw.drop⟩)
 have hf8:1≤f∧f≤8:=by have h:=hc8;unfold isF at hf;simp at h;omega
 refine Qo (Qa (Ql ?_))
 have hD:=zye I
 refine Jo ?_
 refine Z7 I [(b_5,.cells (JX y).cells 54 (0,0))] mixed ?_
 refine zT 1 rfl (Qi rfl) hD ?_
 refine zT 4 rfl (Qi rfl) hD ?_
 refine qd 0 rfl ?_
 refine qc (vs:=[_]) rfl zeh (Xz I _) ?_
 refine Qb ?_
 refine zD hD ?_
 refine Zr 2 3 rfl rfl (by kernel_rfl) ?_ ?_
 ·
  refine zV (JP rfl rfl Ua Wm (fun hg=>by omega) (fun hg=>zao hf8 b_3)) ?_
  refine Qb ?_
  refine zD hD ?_
  refine qd 3 rfl ?_
  refine qc (vs:=[_]) rfl zeh (Xz I _) ?_
  refine Qb ?_
  refine zD hD ?_
  refine qd 5 rfl ?_
  refine zV (JP rfl rfl Ua Wm (fun hg=>by omega) (fun hg=>zao hf8 b_5)) ?_
  refine Qb ?_
  refine zD hD ?_
  refine zT 6 rfl (Q0 rfl) hD ?_
  refine zT 7 rfl (Qd rfl Qs (fun hg=>by exact QU.h0 (zdk hf8 y))) hD ?_
  refine zT 8 rfl (Q0 rfl) hD ?_
  refine qd 9 rfl ?_
  refine ZI rfl rfl Yi rfl rfl Upd.u2 (by exact zq6) ?_
  rw [show (JX x).cells.setIfInBounds (foF f) (.int .i64 (zu6 y f))=(Y2 (zam x f y)).toArray from zg7 hf8 x y]
  refine Qb ?_
  refine zD hD ?_
  refine QG (by kernel_rfl) ?_
  refine QQ ?_
  refine Qa (zR ?_)
  refine zV (Qp rfl ZL (fun hg=>by exact Cells.g2) rfl) ?_
  refine zh Vx ?_
  refine zN (Qt ?_)
  exact KH rfl rfl ZL Cells.g0 rfl (fun w hw=>⟨rfl,hw.drop⟩)
 refine qc (vs:=[_]) rfl zeh (Xz I _) ?_
 refine Qb ?_
 refine zD hD ?_
 refine Zr 2 5 rfl rfl (by kernel_rfl) ?_ ?_
 ·
  refine zV (JP rfl rfl Ua Wm (fun hg=>by omega) (fun hg=>zao hf8 b_3)) ?_
  refine Qb ?_
  refine zD hD ?_
  refine qd 5 rfl ?_
  refine zV (JP rfl rfl Ua Wm (fun hg=>by omega) (fun hg=>zao hf8 b_5)) ?_
  refine Qb ?_
  refine zD hD ?_
  refine zT 6 rfl (Q0 rfl) hD ?_
  refine zT 7 rfl (Qd rfl Qs (fun hg=>by exact QU.h0 (zdk hf8 y))) hD ?_
  refine zT 8 rfl (Q0 rfl) hD ?_
  refine qd 9 rfl ?_
  refine ZI rfl rfl Yi rfl rfl Upd.u2 (by exact zq6) ?_
  rw [show (JX x).cells.setIfInBounds (foF f) (.int .i64 (zu6 y f))=(Y2 (zam x f y)).toArray from zg7 hf8 x y]
  refine Qb ?_
  refine zD hD ?_
  refine QG (by kernel_rfl) ?_
  refine QQ ?_
  refine Qa (zR ?_)
  refine zV (Qp rfl ZL (fun hg=>by exact Cells.g2) rfl) ?_
  refine zh Vx ?_
  refine zN (Qt ?_)
  exact KH rfl rfl ZL Cells.g0 rfl (fun w hw=>⟨rfl,hw.drop⟩)
 refine zV (JP rfl rfl Ua Wm (fun hg=>by omega) (fun hg=>zao hf8 b_5)) ?_
 refine Qb ?_
 refine zD hD ?_
 refine zT 6 rfl (Q0 rfl) hD ?_
 refine zT 7 rfl (Qd rfl Qs (fun hg=>by exact QU.h0 (zdk hf8 y))) hD ?_
 refine qd 2 rfl ?_
 refine zV (JP rfl rfl Ua Wm (fun hg=>by omega) (fun hg=>zao hf8 b_3)) ?_
 refine Qb ?_
 refine zD hD ?_
 refine zT 8 rfl (Q0 rfl) hD ?_
 refine qd 9 rfl ?_
 refine ZI rfl rfl Yi rfl rfl Upd.u2 (by exact zq6) ?_
 rw [show (JX x).cells.setIfInBounds (foF f) (.int .i64 (zu6 y f))=(Y2 (zam x f y)).toArray from zg7 hf8 x y]
 refine Qb ?_
 refine zD hD ?_
 refine QG (by kernel_rfl) ?_
 refine QQ ?_
 refine Qa (zR ?_)
 refine zV (Qp rfl ZL (fun hg=>by exact Cells.g2) rfl) ?_
 refine zh Vx ?_
 refine zN (Qt ?_)
 exact KH rfl rfl ZL Cells.g0 rfl (fun w hw=>⟨rfl,hw.drop⟩)
end
section
open Go Go.Kn
theorem zeU (zs:List Int):zs.flatMap QR=zs.map (Value.int .i64):=by
 induction zs with
 | nil=>rfl
 | cons z zs ih=>rw [List.flatMap_cons,ih];rfl
theorem zce {zs ys:List Int}(hy:ys.Pairwise (· < ·))(h:∀ x,x∈zs↔x∈ys):Lib.compact (YC zs)=ys:=
 Wc (Kv zs).1 hy fun a=>by rw [(Kv zs).2,h]
end
section
open Go Go.Kn Go.Proofs
theorem zoB (i j:Nat)(h:i+j≤1000000):IntKind.i64.wrap ((IntKind.u64.wrap ((i:Int)+(j:Int))).fdiv (2^1))=(((i+j) / 2:Nat):Int):=by
 have h1:IntKind.u64.wrap ((i:Int)+(j:Int))=((i+j:Nat):Int):=by
  rw [show ((i:Int)+(j:Int))=((i+j:Nat):Int) by omega]
  exact zih ⟨by omega,by omega⟩
 rw [h1,show ((2:Int)^1)=((2:Nat):Int) from rfl,Int.fdiv_eq_ediv_of_nonneg _ (by omega),←Int.natCast_ediv]
 exact zbg ⟨by omega,by omega⟩
theorem zuc {x y:Int}:decide (zk7 x y<0)=decide (x<y):=by
 unfold zk7
 by_cases h:x<y
 ·
  rw [if_pos h];simp [h]
 ·
  rw [if_neg h];split<;>simp [h]
section
variable {α:Type} {key:α→Int} {xs:List α} {t:Int}
theorem zxr (hs:xs.Pairwise (fun a b=>key a<key b)){h:Nat}{y:α}(hy:xs[h]? =some y)(hlt:key y<t):∀ q z,q<h+1→xs[q]? =some z→key z<t:=fun q z hq hz=>by
 obtain ⟨h1,h2⟩:=List.getElem?_eq_some_iff.1 hz
 obtain ⟨h3,h4⟩:=List.getElem?_eq_some_iff.1 hy
 by_cases e:q=h
 ·
  subst e;rw [hy] at hz;cases hz;exact hlt
 ·
  have:=List.pairwise_iff_getElem.1 hs q h h1 h3 (by omega)
  rw [h2,h4] at this;omega
theorem zwS (hs:xs.Pairwise (fun a b=>key a<key b)){h:Nat}{y:α}(hy:xs[h]? =some y)(hlt:¬key y<t):∀ q z,h≤q→xs[q]? =some z→¬key z<t:=fun q z hq hz=>by
 obtain ⟨h1,h2⟩:=List.getElem?_eq_some_iff.1 hz
 obtain ⟨h3,h4⟩:=List.getElem?_eq_some_iff.1 hy
 by_cases e:q=h
 ·
  subst e;rw [hy] at hz;cases hz;exact hlt
 ·
  have:=List.pairwise_iff_getElem.1 hs h q h3 h1 (by omega)
  rw [h2,h4] at this;omega
def zxA (key:α→Int)(xs:List α)(t:Int):Nat:=(xs.takeWhile fun x=>decide (key x<t)).length
theorem zvs {i:Nat}(hi:i≤xs.length)(hlo:∀ q z,q<i→xs[q]? =some z→key z<t)(hhi:∀ q z,i≤q→xs[q]? =some z→¬key z<t):zxA key xs t=i:=by
 unfold zxA
 have h1:(xs.take i).all (fun x=>decide (key x<t))=true:=by
  rw [List.all_eq_true]
  intro z hz
  obtain ⟨q,hq⟩:=List.getElem?_of_mem hz
  have hq1:q<i:=by have:=(List.getElem?_eq_some_iff.1 hq).1;rw [List.length_take] at this;omega
  rw [List.getElem?_take_of_lt hq1] at hq
  exact decide_eq_true (hlo q z hq1 hq)
 rw [(ztS h1 hi (fun y hy=>decide_eq_false (hhi i y (Nat.le_refl _) hy))).1,List.length_take];omega
theorem zlt {i n:Nat}{d:α}(hl:xs.length=n)(hlo:∀ q z,q<i→xs[q]? =some z→key z<t)(hhi:∀ q z,i≤q→xs[q]? =some z→¬key z<t)(hs:xs.Pairwise (fun a b=>key a<key b)):(decide ((i:Int)<(n:Int))&&(key (xs.getD i d)==t))=xs.any fun x=>key x==t:=by
 rw [Bool.eq_iff_iff,List.any_eq_true,Bool.and_eq_true]
 constructor
 ·
  rintro ⟨h1,h2⟩
  have hi:i<n:=by have:=of_decide_eq_true h1;omega
  exact ⟨_,List.mem_of_getElem? (Zk hl hi),h2⟩
 ·
  rintro ⟨x,hx,e⟩
  have e:key x=t:=by simpa using e
  obtain ⟨q,hq⟩:=List.getElem?_of_mem hx
  have hqn:=(List.getElem?_eq_some_iff.1 hq).1
  have h1:i≤q:=by
   rcases Nat.lt_or_ge q i with h | h
   ·
    have:=hlo q x h hq;omega
   ·
    exact h
  have h2:q=i:=by
   by_cases e2:q=i
   ·
    exact e2
   ·
    have hy:=Zk (d:=d) hl (show i<n by omega)
    obtain ⟨h3,h4⟩:=List.getElem?_eq_some_iff.1 hq
    obtain ⟨h5,h6⟩:=List.getElem?_eq_some_iff.1 hy
    have h7:=List.pairwise_iff_getElem.1 hs i q h5 h3 (by omega)
    rw [h4,h6] at h7
    have:=hhi i _ (Nat.le_refl _) hy
    omega
  subst h2
  refine ⟨decide_eq_true (by omega),?_⟩
  rw [Q1 hq,e];simp
end
instance : Inhabited Sg := ⟨Y6⟩
def znR (a b:Sg):Int:=zk7 a.id b.id
theorem ltG (a b:Sg):Go.Proofs.ltOf znR a b=decide (a.id<b.id):=by unfold Go.Proofs.ltOf znR;exact zuc
theorem zxZ:Go.Sort.SWO (Go.Proofs.ltOf znR) where
 irrefl:=fun x=>by rw [ltG];simp
 trans:=fun x y z h1 h2=>by rw [ltG] at*;simp at*;omega
 ntrans:=fun x y z h1 h2=>by rw [ltG] at*;simp at*;omega
theorem zl8 {zs zs':List Sg}(hp:zs'.Perm zs)(hs:zs'.Pairwise (fun x y=>Go.Proofs.ltOf znR y x=false))(hn:(zs.map (·.id)).Nodup):Srt zs':=by
 have hn':(zs'.map (·.id)).Nodup:=(hp.map (·.id)).nodup_iff.2 hn
 unfold Srt
 have h2:zs'.Pairwise (fun a b=>a.id≠b.id):=List.pairwise_map.1 hn'
 refine (hs.and h2).imp fun {a b} h=>?_
 have:=h.1
 rw [ltG] at this
 simp at this
 have:=h.2
 omega
end
section
open Go Go.Kn Go.Proofs
def zrV (v:List Int)(i:Nat):Bool:= !(decide ((i:Int)>0)&&decide (v.getD i 0≤v.getD ((i:Int)-1).toNat 0))
theorem zij {v:List Int}:zo8 v=(List.range v.length).all (zrV v):=rfl
theorem zix (v:List Int):(List.range 1).all (zrV v)=true:=by simp [zrV]
theorem zjt {v:List Int}{k:Nat}{x:Int}(hx:v[k]? =some x)(h:1≤k):zrV v k= !decide (x≤v.getD ((k:Int)-1).toNat 0):=by
 unfold zrV
 rw [Q1 hx,decide_eq_true (show (k:Int)>0 by omega),Bool.true_and]
theorem zgE {p:Nat→Bool}{n k:Nat}(h:(List.range k).all p=true)(hn:n≤k):(List.range n).all p=true:=by
 rw [List.all_eq_true] at*
 intro i hi
 exact h i (List.mem_range.2 (Nat.lt_of_lt_of_le (List.mem_range.1 hi) hn))
end
section
open Go Go.Kn Go.Proofs
theorem zuF (e:Nat)(zs:List Int){v:Value}{n:Nat}{L:Go.Kn.Loc}(hO:OwnS e 1 v n (zs.map (Value.int .i64)) L)(hn:n≤1000000)(I:Qu):
  Yg Tryz.prog 64 [v] I L (fun u I' L'=>u= .tuple #[]∧I'=I∧OwnS e 1 v n ((YC zs).map (Value.int .i64)) L'):=
 zhn Tryz.slices_Sort_int Tryz.slices_Sort_int_none zs hO hn I
theorem zgS (e:Nat)(zs:List Int){v:Value}{n:Nat}{L:Go.Kn.Loc}(hO:OwnS e 1 v n (zs.map (Value.int .i64)) L)(hn:n≤1000000)(I:Qu):
  Yg Tryz.prog 91 [v] I L (fun u I' L'=>I'=I∧OwnS e 1 u (Lib.compact zs).length ((Lib.compact zs).map (Value.int .i64)) L'):=
 zaw Lib.compact Lib.compact_length_le rfl Tryz.slices_Compact_int Tryz.slices_Compact_int_empty zs hO hn I
theorem zu9 (I:Qu)(x y:Sg):Zw Tryz.prog 141 [JX x,JX y] I (.int .i64 (znR x y)):=by
 intro g H w hw
 refine qe Tryz.func141 Tryz.ntmps141 hw ?_
 refine zR ?_
 refine Q5 rfl rfl rfl (fun b_2=>?_)
 refine Q5 rfl rfl rfl (fun b_3=>?_)
 refine zA ?_
 refine zN (zR ?_)
 refine zF ZN ?_
 refine zL Qs ?_
 refine zF ZN ?_
 refine zL Qs ?_
 refine qc (vs:=[_,_]) rfl zdu (zlB I _ _) ?_
 refine zA (zN (Qt ?_))
 exact zr rfl rfl (by rfl)
theorem zrv (e:Nat)(zs:List Sg){v:Value}{n:Nat}{L:Go.Kn.Loc}(hO:OwnS e 14 v n (zs.flatMap Y2) L)(hn:n≤1000000)(I:Qu):
  Yg Tryz.prog 140 [v,.func (.func 141) #[] #[]] I L (fun u I' L'=>u= .tuple #[]∧I'=I∧∃ zs':List Sg,zs'.Perm zs∧zs'.Pairwise (fun x y=>Go.Proofs.ltOf znR y x=false)∧OwnS e 14 v n (zs'.flatMap Y2) L'):=
 zl3 Z5 (by decide) (fun blk off cap d w hC hH hb hs=>Tryz.slices_SortFunc 14 (fun w=>YT ZL) (fun w=>by obtain ⟨i,hi,hz⟩:=Vx;rw [←hz];exact Go.Kn.run_sizeOf hi) Y2 Z5 (fun x=>V9 (by rfl)) znR zxZ 141 #[] blk off cap d w (fun args w=>Vz zrq args w) hC hH hb hs)
  (Tryz.slices_SortFunc_none (α:=Sg)) (fun I x y=>zu9 I x y) zs hO hn I
theorem zmJ (I:Qu)(x:Int):Zw Tryz.prog 190 [.int .i64 x] I (.bool false):=by
 intro g H w hw
 refine qe Tryz.func190 Tryz.ntmps190 hw ?_
 refine zR (zA ?_)
 refine zN (zR ?_)
 refine zM ?_
 refine zM ?_
 refine zC ?_
 refine zA (zN (Qt ?_))
 exact zr rfl rfl (by simp)
theorem zsu (I:Qu)(x y:Int):Zw Tryz.prog 161 [.int .i64 x,.int .i64 y] I (.bool (decide (x<y))):=by
 intro g H w hw
 refine qe Tryz.func161 Tryz.ntmps161 hw ?_
 refine zR (zA ?_)
 refine zN (zR ?_)
 refine zM ?_
 refine qc (vs:=[_]) rfl Wz (zge I _) ?_
 refine zM ?_
 refine QE 2 rfl rfl rfl ?_
 refine zK (Qi rfl) ?_
 refine qg (vs:=[_]) rfl Wz (fun hg=>zge I _) ?_
 refine zK (Vy rfl) ?_
 refine QP rfl rfl rfl rfl rfl ?_
 refine zM ?_
 refine QX 7 rfl rfl rfl ?_
 refine zJ (Qi rfl) ?_
 refine zJ (Qi rfl) ?_
 refine zJ (QH rfl rfl rfl) ?_
 refine ZA rfl rfl rfl rfl rfl ?_
 refine zA (zN (Qt ?_))
 exact zr rfl rfl (by rfl)
theorem zw3 {I:Qu}{av:Option Addr}{n c:Nat}{xs:List Int}(hS:Sl I 1 QR av n c xs)(hn:n≤100000)(hs:xs.Pairwise (· < ·))(t:Int):Zw Tryz.prog 139 [.slice av n c,.int .i64 t] I (.tuple #[.int .i64 (zxA (fun x:Int=>x) xs t:Nat),.bool (xs.any fun x=>x==t)]):=by
 intro g H w hw
 refine qe Tryz.func139 Tryz.ntmps139 hw ?_
 refine zR (zA ?_)
 refine zA ?_
 refine zN (zR ?_)
 refine zM ?_
 refine zQ Qy ?_
 refine zA ?_
 refine zN (zR ?_)
 refine zM ?_
 refine zA ?_
 refine zA (zN (Ql (Qm ?_)))
 refine zU [(0,_),(1,_),(6,_)] (fun T L0 mz E I' loc'=>∃ (i j:Nat),mz=j-i∧E=(7,.int .i64 i)::(8,.int .i64 j)::T∧I=I'∧L0=loc'∧i≤j∧j≤n∧(∀ q z,q<i→xs[q]? =some z→z<t)∧∀ q z,j≤q→xs[q]? =some z→¬z<t) ?_ (h:=⟨0,n,rfl,rfl,rfl,rfl,Nat.zero_le _,Nat.le_refl _,fun q z h=>absurd h (by omega),fun q z h1 h2=>by have:=(List.getElem?_eq_some_iff.1 h2).1;rw [hS.len] at this;omega⟩)
 rintro mz E I' loc' ⟨i,j,rfl,rfl,rfl,rfl,hij,hjn,hlo,hhi⟩
 refine Ql (zR (zM ?_))
 refine zM ?_
 refine zC (zN ?_)
 refine zI ?_ ?_<;>intro hc15
 ·
  have hlt:i<j:=by have h:=hc15;simp at h;omega
  obtain ⟨y,hy⟩:=hS.at (k:=(i+j) / 2) (by omega)
  refine Qo (Qa (Qm (zR (zM ?_))))
  refine zM ?_
  refine zB ?_
  refine zV (JU rfl KB) ?_
  refine zV (zjl rfl rfl (by decide) (rfl:min _ _=1)) ?_
  refine zV (JU rfl ziN) ?_
  refine zA (Qb ?_)
  rw [zoB i j (by omega)]
  refine Qa (zR (zM ?_))
  refine zM ?_
  refine zV (QF rfl rfl Qy (by assumption) (fun hg=>by omega)) ?_
  refine zV (Qd rfl Qs (fun hg=>by exact zx7 (k:=(i+j) / 2) hS hy rfl)) ?_
  refine zM ?_
  refine qc (vs:=[_,_]) rfl zp9 (zsu I _ _) ?_
  refine zN ?_
  refine zI ?_ ?_<;>intro hc27
  ·
   refine Qg (zM ?_)
   refine zB ?_
   refine zA (Qb (Qh ?_))
   exact zm (h:=⟨j-((i+j) / 2+1),by omega,(i+j) / 2+1,j,rfl,rfl,rfl,rfl,by omega,hjn,zxr (key:=fun x:Int=>x) hs hy (by simpa using hc27),hhi⟩)
  refine Qg (zM ?_)
  refine zA (Qb (Qh ?_))
  exact zm (h:=⟨(i+j) / 2-i,by omega,i,(i+j) / 2,rfl,rfl,rfl,rfl,by omega,by omega,hlo,zwS (key:=fun x:Int=>x) hs hy (by simpa using hc27)⟩)
 have hge:j≤i:=by have h:=hc15;simp at h;omega
 have hje:j=i:=by omega
 subst hje
 refine QI (Qf (Qf (Qk (Qa (zR (zM ?_))))))
 refine zM ?_
 refine zM ?_
 refine zC ?_
 refine zM ?_
 refine QE 4 rfl rfl rfl ?_
 refine zK (Qi rfl) ?_
 refine zK (Qi rfl) ?_
 refine zK (QF rfl rfl Qy (by assumption) (fun hg=>by (simp [ZX] at hg;omega))) ?_
 refine zK (Qd rfl Qs (fun hg=>by exact Sl.getD0 (k:=j) (d:=0) hS (by simp [ZX] at hg;omega) rfl)) ?_
 refine zK (Qi rfl) ?_
 refine zK (QH rfl rfl rfl) ?_
 refine zK (Qi rfl) ?_
 refine QX 11 rfl rfl rfl ?_
 refine zJ (Qi rfl) ?_
 refine zJ (Qi rfl) ?_
 refine zJ (QF rfl rfl Qy (by assumption) (fun hg=>by (simp [ZX] at hg;omega))) ?_
 refine zJ (Qd rfl Qs (fun hg=>by exact Sl.getD0 (k:=j) (d:=0) hS (by simp [ZX] at hg;omega) rfl)) ?_
 refine qf (vs:=[_]) rfl ziB (fun hg=>zmJ I _) ?_
 refine zJ (Qi rfl) ?_
 refine QE 17 rfl rfl rfl ?_
 refine zK (Qi rfl) ?_
 refine qg (vs:=[_]) rfl ziB (fun hg=>zmJ I _) ?_
 refine XY rfl rfl rfl (.some rfl rfl rfl rfl gbf) rfl rfl ?_
 refine zha rfl rfl rfl (.some rfl rfl rfl rfl gbt) rfl rfl ?_
 refine QP rfl rfl rfl rfl rfl ?_
 refine zA ?_
 refine zA (zN (Qt ?_))
 exact Zx rfl rfl rfl (fun w hw=>⟨by rw [←zlt (key:=fun x:Int=>x) (d:=0) hS.len hlo hhi hs,zvs (key:=fun x:Int=>x) (by rw [hS.len];omega) hlo hhi];simp,hw.drop⟩)
theorem zvr {I:Qu}{av:Option Addr}{n c:Nat}{xs:List Int}(hS:Sl I 1 QR av n c xs)(hn:n≤100000):Zw Tryz.prog 149 [.slice av n c] I (.bool (zo8 xs)):=by
 intro g H w hw
 refine qe Tryz.func149 Tryz.ntmps149 hw ?_
 refine zR (zA (zN (Ql (zR ?_))))
 refine zA (zN (Qm ?_))
 refine zU [(0,_)] (fun T L0 mz E I' loc'=>∃ (k:Nat),mz=(max n 1)-k∧E=(3,.int .i64 k)::T∧I=I'∧L0=loc'∧k≤(max n 1)∧1≤k∧(List.range k).all (zrV xs)=true) ?_ (h:=⟨1,rfl,rfl,rfl,rfl,by omega,Nat.le_refl _,zix xs⟩)
 rintro mz E I' loc' ⟨k,rfl,rfl,rfl,rfl,hk,h1,hall⟩
 refine Ql (zR (zM ?_))
 refine zM ?_
 refine zQ Qy ?_
 refine zC (zN ?_)
 refine zI ?_ ?_<;>intro hc7
 ·
  have hlt_k:k<n:=by have h:=hc7;simp at h;omega
  obtain ⟨x,hx⟩:=hS.at hlt_k
  refine Qo (Qa (Ql (Qm (Ql ?_))))
  refine YU mixed (by kernel_rfl) ?_
  refine zq (Qi rfl) ?_
  refine zq (Qi rfl) ?_
  refine zq (QF rfl rfl Qy (by assumption) (fun hg=>by omega)) ?_
  refine zq (Qd rfl Qs (fun hg=>by exact zx7 (k:=k) hS hx rfl)) ?_
  refine zq (Qi rfl) ?_
  refine zq (Qi rfl) ?_
  refine zq (ZO rfl rfl rfl (fun _=>by omega)) ?_
  refine zq (QF rfl rfl Qy (by assumption) (fun hg=>by omega)) ?_
  refine zq (Qd rfl Qs (fun hg=>by exact Sl.getD0 (k:=((k:Int)-1).toNat) (d:=0) hS (by omega) rfl)) ?_
  refine zq (QH rfl rfl rfl) ?_
  refine YV ?_
  refine Qa ?_
  refine zI ?_ ?_<;>intro hc19
  ·
   refine zR (zA (zN (Qt (Qn (Qc (Qc (Qn ?_)))))))
   refine Qc ?_
   first
   | exact zr rfl rfl (by rw [zij,JK (k:=k) (by rw [hS.len];exact hlt_k) (by rw [zjt hx h1,hc19];rfl)])
  refine Qo (Qh (Qa (Qg (zM ?_))))
  refine zB ?_
  refine zA (Qb ?_)
  exact zm (h:=⟨(max n 1)-(k+1),by omega,k+1,rfl,rfl,rfl,rfl,by omega,by omega,V8 hall (by rw [zjt hx h1,hc19];rfl)⟩)
 have hge_k:n≤k:=by have h:=hc7;simp at h;omega
 refine QI (Qf (Qf (Qk (Qa (zR (zA (zN ?_)))))))
 refine Qt ?_
 exact zr rfl rfl (by rw [zij,hS.len,zgE hall (show n≤k from hge_k)])
theorem zmn {I:Qu}{av:Option Addr}{n c:Nat}{xs:List Sg}(hS:Sl I 14 Y2 av n c xs)(hn:n≤400000):Yg Tryz.prog 138 [.slice av n c] I [] (fun v I' L=>I'=I∧OwnS 54 14 v n (xs.flatMap Y2) L):=by
 intro g H w hw
 refine qe Tryz.func138 Tryz.ntmps138 hw ?_
 refine zR (zA (zN (Ql (zR ?_))))
 refine zM ?_
 refine zV (Xl rfl rfl YZ) ?_
 refine zN ?_
 refine zI ?_ ?_<;>intro hc4
 ·
  have hn0:n=0:=Decidable.byContradiction fun h=>by have:=hS.base h;rw [this] at hc4;cases hc4
  have hl:=hS.len
  subst hn0
  have hx0:=List.eq_nil_of_length_eq_zero hl
  subst hx0
  refine zR (zA (zN (Qt (Qc ?_))))
  exact Zv rfl rfl (fun w hw=>⟨_,I,_,rfl,zye _,hw,rfl,OwnS.nil⟩)
 refine Qo (Qa (zR ?_))
 refine Qq (ps:=[]) (m:=[]) K7 rfl (.nil) rfl (by simp) (by decide) (by decide) rfl rfl (fun b_5=>?_)
 refine zM ?_
 refine QY (v:=_) (ys:=xs.flatMap Y2) (L:=[(b_5,_)]) rfl rfl K7 OwnS.new (by repeat (first | exact .cons .here .nil | exact QD | exact Qw | apply QC | apply QB)) (hS.src Z5) (zmq _) (by omega) rfl rfl ?_
 intro v1 L1 hO1 _;rw [List.nil_append,Nat.zero_add] at hO1
 refine zA (zN (Qt ?_))
 exact Zv rfl rfl (fun w hw=>⟨_,I,_,rfl,zye _,hw.subL Zg,rfl,hO1⟩)
theorem zpu {I:Qu}{av:Option Addr}{n c:Nat}{xs:List Int}(hS:Sl I 1 QR av n c xs)(hn:n≤400000){bv:Option Addr}{n2 c2:Nat}{ys:List Int}(hT:Sl I 1 QR bv n2 c2 ys)(hn2:n2≤100000):Yg Tryz.prog 50 [.slice av n c,.slice bv n2 c2] I [] (zbT 1 QR (Lib.compact (YC (xs++ys)))):=by
 intro g H w hw
 refine qe Tryz.func50 Tryz.ntmps50 hw ?_
 have hIc:=zye I
 refine zR (zA ?_)
 refine zN (zR ?_)
 refine zM ?_
 refine Qz (cap:=[]) (vs:=[_]) rfl rfl zhh .nil (zbS hS hn) rfl rfl ?_
 rintro vv1 I1 L1 hI1 ⟨rfl,hO⟩
 have hT:=hT.mono hI1;have hIc:=hIc.trans hI1
 refine zM ?_
 refine QY (v:=_) (ys:=ys.flatMap QR) (L:=_) rfl rfl Zi hO Qw (hT.src Qv) (JG _) (by omega) rfl rfl ?_
 intro v2 L2 hO2 _;rw [←List.flatMap_append,zeU] at hO2
 refine zA ?_
 refine zN (zR ?_)
 refine zM ?_
 refine Qz (cap:=[]) (vs:=[_]) rfl rfl zhA Qw (zuF 3 (xs++ys) hO2 (by omega) _) rfl rfl ?_
 rintro vv2 I2 L2 hI2 ⟨rfl,rfl,hO3⟩
 have hIc:=hIc.trans hI2
 refine zN (zR ?_)
 refine zM ?_
 refine Qz (cap:=[]) (vs:=[_]) rfl rfl zny Qw (zgS 3 _ hO3 (by omega) _) rfl rfl ?_
 rintro vv3 I3 L3 hI3 ⟨rfl,hO4⟩
 have hIc:=hIc.trans hI3
 refine zA (zN (Qt ?_))
 rw [←zeU] at hO4
 exact Zv rfl rfl (fun w hw=>by obtain ⟨I9,h91,h92,h93⟩:=OwnS.res hO4 Qv (by decide) (hw.subL (by exact Zg));exact ⟨_,I9,[],rfl,hIc.trans h91,h92,h93⟩)
end
section
open Go Go.Kn Go.Proofs
def zb3 (b:Nat):Value:=.map (some b)
structure X7 (s:List (Int×Bool))(A:Int→Bool):Prop where
 nodup:(s.map (·.1)).Nodup
 all:∀ q∈s,q.2=true
 mem:∀ x,zaf s x=A x
theorem X7.nil:X7 [] (fun _=>false):=⟨.nil,(fun q hq=>by cases hq),fun _=>rfl⟩
theorem X7.put {s:List (Int×Bool)}{A:Int→Bool}(h:X7 s A)(a:Int):X7 (Ys s a true) (fun x=>decide (a=x)||A x) where
 nodup:=Wu a true h.nodup
 all:=by
  have key:∀ (s:List (Int×Bool)),(∀ q∈s,q.2=true)→∀ q∈Ys s a true,q.2=true:=by
   intro s
   induction s with
   | nil=>intro _ q hq;simp [Ys] at hq;rw [hq]
   | cons p s ih=>
    intro h q hq
    unfold Ys at hq
    split at hq
    ·
     rcases List.mem_cons.1 hq with rfl | hq
     ·
      rfl
     ·
      exact h q (List.mem_cons_of_mem _ hq)
    ·
     rcases List.mem_cons.1 hq with rfl | hq
     ·
      exact h _ (List.mem_cons_self ..)
     ·
      exact ih (fun q hq=>h q (List.mem_cons_of_mem _ hq)) q hq
  exact key s h.all
 mem:=fun x=>by rw [UC,h.mem]
theorem X7.congr {s:List (Int×Bool)}{A B:Int→Bool}(h:X7 s A)(e:∀ x,A x=B x):X7 s B:=⟨h.nodup,h.all,fun x=>by rw [h.mem,e]⟩
theorem X7.key {s:List (Int×Bool)}{A:Int→Bool}(h:X7 s A){x:Int}:A x=true↔x∈s.map (·.1):=by
 rw [←h.mem]
 unfold zaf
 constructor
 ·
  intro h1
  cases hg:Zy s x with
  | none=>rw [hg] at h1;cases h1
  | some b=>exact List.mem_map.2 ⟨_,KT hg,rfl⟩
 ·
  intro h1
  obtain ⟨q,hq,rfl⟩:=List.mem_map.1 h1
  rw [zbK h.nodup hq,h.all q hq];rfl
def OnS (I:Qu)(ref:Nat)(A:Int→Bool):Prop:=∃ s:List (Int×Bool),I ref=some (ZR (Value.int .i64) Value.bool s)∧X7 s A
theorem OnS.mono {I I':Qu}{ref:Nat}{A:Int→Bool}(h:OnS I ref A)(hI:HLe I I'):OnS I' ref A:=by
 obtain ⟨s,h1,h2⟩:=h
 exact ⟨s,hI _ _ h1,h2⟩
def OnL (I:Qu)(m:List (Int×Nat))(ps:List Pt):Prop:=m.map (·.1)=ps.map (·.id)∧∀ q∈m,OnS I q.2 (onF ps q.1)
theorem OnL.mono {I I':Qu}{m:List (Int×Nat)}{ps:List Pt}(h:OnL I m ps)(hI:HLe I I'):OnL I' m ps:=⟨h.1,fun q hq=>(h.2 q hq).mono hI⟩
theorem OnL.nil {I:Qu}{ps:List Pt}:OnL I [] (ps.take 0):=⟨by simp,fun q hq=>by cases hq⟩
def OnM (I:Qu)(r:Nat)(ps:List Pt):Prop:=∃ m:List (Int×Nat),I r=some (ZR (Value.int .i64) zb3 m)∧OnL I m ps
theorem OnM.mono {I I':Qu}{r:Nat}{ps:List Pt}(h:OnM I r ps)(hI:HLe I I'):OnM I' r ps:=by
 obtain ⟨m,h1,h2⟩:=h
 exact ⟨m,hI _ _ h1,h2.mono hI⟩
theorem OnL.get {I:Qu}{m:List (Int×Nat)}{ps:List Pt}(h:OnL I m ps){a:Int}(ha:∃ q∈ps,q.id=a):∃ ref,Zy m a=some ref∧OnS I ref (onF ps a):=by
 cases hg:Zy m a with
 | none=>
  have:=U0.1 hg
  rw [h.1] at this
  obtain ⟨q,hq,rfl⟩:=ha
  exact absurd (List.mem_map.2 ⟨q,hq,rfl⟩) this
 | some ref=>exact ⟨ref,rfl,h.2 _ (KT hg)⟩
theorem Lst.before {ps:List Pt}(h:Lst ps){k:Nat}{p:Pt}(hk:ps[k]? =some p){n:Int}(hn:n∈p.needs):∃ q∈ps.take k,q.id=n:=by
 obtain ⟨h1,q,hq,rfl⟩:=h.has p (List.mem_of_getElem? hk) n hn
 obtain ⟨j,hj⟩:=List.getElem?_of_mem hq
 obtain ⟨hj1,hj2⟩:=List.getElem?_eq_some_iff.1 hj
 obtain ⟨hk1,hk2⟩:=List.getElem?_eq_some_iff.1 hk
 have hjk:j<k:=by
  rcases Nat.lt_or_ge j k with h3 | h3
  ·
   exact h3
  ·
   exfalso
   by_cases e:k=j
   ·
    subst e;rw [hk] at hj;cases hj;omega
   ·
    have:=List.pairwise_iff_getElem.1 h.inc k j hk1 hj1 (by omega)
    rw [hj2,hk2] at this;omega
 refine ⟨q,?_,rfl⟩
 rw [List.mem_take_iff_getElem]
 exact ⟨j,by omega,hj2⟩
theorem Lst.fresh {ps:List Pt}(h:Lst ps){k:Nat}{p:Pt}(hk:ps[k]? =some p):∀ q∈ps.take k,q.id<p.id:=fun q hq=>by
 obtain ⟨j,hj,rfl⟩:=List.mem_take_iff_getElem.1 hq
 obtain ⟨hk1,hk2⟩:=List.getElem?_eq_some_iff.1 hk
 have:=List.pairwise_iff_getElem.1 h.inc j k (by omega) hk1 (by omega)
 rw [hk2] at this;exact this
theorem OnL.step {I:Qu}{m:List (Int×Nat)}{ps:List Pt}{k ref:Nat}{p:Pt}{s:List (Int×Bool)}(hL:Lst ps)(hk:ps[k]? =some p)(hm:OnL I m (ps.take k))(hb:I ref=some (ZR (Value.int .i64) Value.bool s))
  (hs:X7 s (fun x=>p.needs.any fun n=>n==x||onF (ps.take k) n x)):OnL I (Ys m p.id ref) (ps.take (k+1)):=by
 have hfr:=hL.fresh hk
 have hnew:p.id∉m.map (·.1):=by
  rw [hm.1]
  intro h
  obtain ⟨q,hq,e⟩:=List.mem_map.1 h
  have:=hfr q hq;omega
 have hmi:Ys m p.id ref=m++[(p.id,ref)]:=by
  refine Uu m p.id ref 0 ?_
  have:=U0.2 hnew
  rw [←VD m p.id 0] at this
  simpa using this
 rw [Z3 hk]
 refine ⟨by rw [Ku,if_neg hnew,hm.1];simp,fun q hq=>?_⟩
 rw [hmi] at hq
 rcases List.mem_append.1 hq with hq | hq
 ·
  obtain ⟨s',h1,h2⟩:=hm.2 q hq
  refine ⟨s',h1,h2.congr fun x=>?_⟩
  have hne:q.1≠p.id:=fun e=>hnew (by rw [←e];exact List.mem_map.2 ⟨q,hq,rfl⟩)
  rw [zfa (fun z hz=>by simp at hz;subst hz;exact fun e=>hne e.symm)]
 ·
  simp at hq;subst hq
  refine ⟨s,hb,hs.congr fun x=>?_⟩
  exact (zcX (fun z hz=>by cases hz)).symm
def zkZ (sn:List (Int×Bool))(seen:List Nat)(x:Int):Bool:=seen.any fun i=>(sn[i]?.map (·.1))==some x
theorem zbu (sn:List (Int×Bool))(x:Int):zkZ sn [] x=false:=rfl
theorem zab {sn:List (Int×Bool)}{seen:List Nat}{i:Nat}{p:Int×Bool}(hp:sn[i]? =some p)(x:Int):zkZ sn (seen++[i]) x=(decide (p.1=x)||zkZ sn seen x):=by
 unfold zkZ
 rw [List.any_append,Bool.eq_iff_iff]
 simp [hp,or_comm]
theorem zbW {sn:List (Int×Bool)}{A:Int→Bool}(h:X7 sn A){seen:List Nat}(hall:∀ i p,sn[i]? =some p→i∈seen)(x:Int):zkZ sn seen x=A x:=by
 rw [Bool.eq_iff_iff,h.key]
 unfold zkZ
 rw [List.any_eq_true]
 constructor
 ·
  rintro ⟨i,_,hi⟩
  cases hx:sn[i]? with
  | none=>rw [hx] at hi;simp at hi
  | some p=>rw [hx] at hi;simp at hi;exact List.mem_map.2 ⟨p,List.mem_of_getElem? hx,hi⟩
 ·
  intro hx
  obtain ⟨p,hp,rfl⟩:=List.mem_map.1 hx
  obtain ⟨i,hi⟩:=List.getElem?_of_mem hp
  exact ⟨i,hall i p hi,by rw [hi];simp⟩
end
section
open Go Go.Kn Go.Proofs
theorem zaW {I:Qu}{av:Option Addr}{n c:Nat}{ps:List Pt}(hP:SlP I av n c ps)(hn:n≤100000)(hL:Lst ps)(hnd:∀ p∈ps,p.n≤100000):Yg Tryz.prog 89 [.slice av n c] I [] (fun v I' L=>L=[]∧∃ r,v= .map (some r)∧OnM I' r ps):=by
 intro g H w hw
 refine qe Tryz.func89 Tryz.ntmps89 hw ?_
 have hIc:=zye I
 refine zR (zA ?_)
 refine zN (zR ?_)
 refine ZD rfl rfl (fun r_10=>?_)
 refine zA (zN (Ql (zR ?_)))
 refine zM ?_
 refine zQ Zz ?_
 refine zM (zN (Qm ?_))
 refine zU [(3,_),(11,_),(12,_)] (fun T L0 mz E I' loc'=>∃ (k:Nat) (m:List (Int×Nat)),mz=n-k∧E=(13,.int .i64 k)::T∧HLe I I'∧[(r_10,ZR (Value.int .i64) zb3 m)]=loc'∧k≤n∧OnL I' m (ps.take k)) ?_ (h:=⟨0,[],rfl,rfl,zye _,rfl,Nat.zero_le _,OnL.nil⟩)
 rintro mz E J1 loc' ⟨k,m,rfl,rfl,hJ,rfl,hk,hm⟩
 have hP:=hP.mono hJ;have hIc:=hIc.trans hJ
 have hB0:=hJ
 refine zR (zC (zN (Ql ?_)))
 refine zI ?_ ?_<;>intro hc14
 ·
  have hlt_k:k<n:=by have h:=hc14;simp at h;omega
  have hP1:=hP.1
  obtain ⟨p,hp,hN⟩:=hP.at hlt_k
  have hpm:=List.mem_of_getElem? hp
  have hN:Sl J1 1 QR p.a p.n p.c p.needs:=hN
  have hpn:=hnd p hpm
  refine Qo (Qa (Ql (Qm (zR ?_))))
  refine zV (QF rfl rfl Zz (by assumption) (fun hg=>by omega)) ?_
  refine zV (Qp rfl Yw (fun hg=>by exact zyf hP.1 hp) rfl) ?_
  refine Qr K2 rfl rfl (fun b_5=>?_)
  refine zh VN ?_
  refine zN (zR ?_)
  refine ZD rfl rfl (fun r_17=>?_)
  refine zA (zN (Ql (zR ?_)))
  refine zF KR ?_
  refine zL QK ?_
  refine zQ Qy ?_
  refine zM (zN (Qm ?_))
  refine zU [(3,_),(5,_),(6,_),(11,_),(12,_),(13,_),(19,_),(20,_)] (fun T L0 mz E I' loc'=>∃ (j:Nat) (s:List (Int×Bool)),mz=p.n-j∧E=(21,.int .i64 j)::T∧J1=I'∧[(r_17,ZR (Value.int .i64) Value.bool s),(b_5,.cells (Yz p).toArray 57 (0,0)),(r_10,ZR (Value.int .i64) zb3 m)]=loc'∧j≤p.n∧X7 s (fun x=>(p.needs.take j).any fun n=>n==x||onF (ps.take k) n x)) ?_ (h:=⟨0,[],rfl,rfl,rfl,rfl,Nat.zero_le _,X7.nil⟩)
  rintro mz E I' loc' ⟨j,s,rfl,rfl,rfl,rfl,hj,hs⟩
  refine zR (zC (zN (Ql ?_)))
  refine zI ?_ ?_<;>intro hc22
  ·
   have hlt_j:j<p.n:=by have h:=hc22;simp at h;omega
   obtain ⟨y,hy⟩:=hN.at hlt_j
   obtain ⟨ref,hget,sn,hsn,hsq⟩:=hm.get (hL.before hp (List.mem_of_getElem? hy))
   refine Qo (Qa (Ql (Qm (zR ?_))))
   refine zV (QF rfl rfl Qy (by assumption) (fun hg=>by omega)) ?_
   refine zV (Qd rfl Qs (fun hg=>by exact zx7 hN hy rfl)) ?_
   refine zA ?_
   refine zN (zR ?_)
   refine zM ?_
   refine zM ?_
   refine Q4 (m:=s) (ek:=Value.int .i64) (ev:=Value.bool) (a:=y) true Vs ZE rfl rfl rfl rfl (by repeat (first | exact Upd.here | apply Upd.there | apply QJ)) ?_
   refine zN (zR ?_)
   refine zM ?_
   refine zM ?_
   refine zV (YG (m:=m) (ek:=Value.int .i64) (ev:=zb3) (a:=y) hget Ks ZE rfl rfl (fun _=>.inr (by simp))) ?_
   refine Jt (ek:=Value.int .i64) (ev:=Value.bool) (m:=sn) rfl Vs rfl rfl (.inl hsn) (fun b_30=>?_)
   refine zN (Qm ?_)
   refine zU [(3,_),(5,_),(6,_),(11,_),(12,_),(13,_),(19,_),(20,_),(21,_),(30,_)] (fun T L0 mz E I' loc'=>∃ (seen:List Nat) (s:List (Int×Bool)),mz=sn.length-seen.length∧E=T∧J1=I'∧[(b_30,YN ref sn.length seen),(r_17,ZR (Value.int .i64) Value.bool s),(b_5,.cells (Yz p).toArray 57 (0,0)),(r_10,ZR (Value.int .i64) zb3 m)]=loc'∧X7 s (fun x=>zkZ sn seen x||(decide (y=x)||(p.needs.take j).any fun n=>n==x||onF (ps.take k) n x))∧seen.Nodup∧∀ i∈seen,i<sn.length) ?_ (h:=⟨[],_,rfl,rfl,rfl,rfl,(hs.put y).congr (fun x=>by rw [zbu,Bool.false_or]),.nil,fun i h=>by cases h⟩)
   rintro mz E I' loc' ⟨seen,s,rfl,rfl,rfl,rfl,hs,hnd2,hlt⟩
   have hsl:=Jh hnd2 hlt
   refine zR ?_
   refine Jv (ek:=Value.int .i64) (ev:=Value.bool) (m:=sn) (fun s'=>[(b_30,YN ref sn.length s'),(r_17,ZR (Value.int .i64) Value.bool s),(b_5,.cells (Yz p).toArray 57 (0,0)),(r_10,ZR (Value.int .i64) zb3 m)]) rfl (fun s'=>.here) rfl rfl rfl rfl rfl (.inl hsn) (by simp) ?_
   intro t tv s' hno hyes
   refine zN (Ql ?_)
   refine zI ?_ ?_<;>intro hc32
   ·
    obtain ⟨i,q,hq,hns,rfl⟩:=hyes hc32
    refine Qo (Qa (Qm (zR ?_)))
    refine zV (Jq (ek:=Value.int .i64) (ev:=Value.bool) (m:=sn) (p:=q) (seen:=seen) (i:=i) rfl (.inl hsn) (.inr (by simp)) hq) ?_
    refine zE ?_
    refine zA (zN (Qg ?_))
    refine zM ?_
    refine zM ?_
    refine Q4 (m:=s) (ek:=Value.int .i64) (ev:=Value.bool) (a:=q.1) true Vs ZE rfl rfl rfl rfl (by repeat (first | exact Upd.here | apply Upd.there | apply QJ)) ?_
    refine Qb (Qh ?_)
    have hnd3:(seen++[i]).Nodup:=List.nodup_append.2 ⟨hnd2,by simp,fun a ha b hb e=>hns (by simp at hb;subst hb;subst e;exact ha)⟩
    have hlt3:∀ j∈seen++[i],j<sn.length:=fun j hj=>(List.mem_append.1 hj).elim (hlt j) (fun h=>by simp at h;subst h;exact (List.getElem?_eq_some_iff.1 hq).1)
    have hsl2:=Jh hnd3 hlt3
    rw [List.length_append,List.length_singleton] at hsl2
    exact zm (h:=⟨sn.length-(seen++[i]).length,by rw [List.length_append,List.length_singleton];omega,seen++[i],_,rfl,rfl,rfl,rfl,(hs.put q.1).congr (fun x=>by rw [zab hq,Bool.or_assoc]),hnd3,hlt3⟩)
   obtain ⟨rfl,hall⟩:=hno hc32
   refine QI (Qf (Qf (Qk (Qh (Qa (Qg (zB ?_)))))))
   refine zM (Qb ?_)
   exact zm (h:=⟨p.n-(j+1),by omega,j+1,_,rfl,rfl,rfl,rfl,by omega,hs.congr (fun x=>by rw [UV hy,zbW hsq hall x];rw [Bool.eq_iff_iff];simp;grind)⟩)
  have hge_j:p.n≤j:=by have h:=hc22;simp at h;omega
  refine QI (Qf (Qf (Qk (Qa ?_))))
  refine Zf .here (fun I4 hI4 hb4=>?_)
  have hm:=hm.mono hI4;have hB0:=hB0.trans hI4
  have hbx:=hb4
  refine Qg (zM ?_)
  refine zF Zt ?_
  refine zL Qs ?_
  refine zM ?_
  refine Q4 (m:=m) (ek:=Value.int .i64) (ev:=zb3) (a:=p.id) r_17 Ks ZE rfl rfl rfl rfl (by repeat (first | exact Upd.here | apply Upd.there | apply QJ)) ?_
  refine Qb (Qh (Qa (Qg (zB ?_))))
  refine zM (Qb ?_)
  exact zm (h:=⟨n-(k+1),by omega,k+1,_,rfl,rfl,hB0,rfl,by omega,OnL.step hL hp hm hbx (by rw [ZF hN.len hge_j] at hs;exact hs)⟩)
 have hge_k:n≤k:=by have h:=hc14;simp at h;omega
 rw [ZF hP.len hge_k] at hm
 refine QI (Qf (Qf (Qk (Qa (zR (zM ?_))))))
 refine zA (zN (Qt ?_))
 exact Zv rfl rfl (fun w hw=>by obtain ⟨I9,h91,h92,h93⟩:=hw.freezeAll;exact ⟨_,I9,[],rfl,hIc.trans h91,h92,rfl,r_10,rfl,m,h93 _ _ (by simp),hm.mono h91⟩)
end
section
open Go Go.Kn Go.Proofs
theorem zqE (x:Sg):(WA [x]==0)=frm x:=by
 unfold WA skB skP
 cases h:frm x<;>simp [h]
theorem zfz (a b c d x y:Bool):(((((a&&b)&&c)&&d)&&x)&&y)=(((a&&b)&&(c&&d))&&(x&&y)):=by simp only [Bool.and_assoc]
theorem zn6 (a b c d x y z:Bool):((((((a&&b)&&c)&&d)&&x)&&y)&&z)=(((a&&b)&&(c&&d))&&(x&&(y&&z))):=by simp only [Bool.and_assoc]
theorem zm5 (I:Qu)(x:Sg):Zw Tryz.prog 147 [JX x] I (.bool (frm x)):=by
 intro g H w hw
 refine qe Tryz.func147 Tryz.ntmps147 hw ?_
 have hIc:=zye I
 refine zR ?_
 refine Q5 rfl rfl rfl (fun b_1=>?_)
 refine zA ?_
 refine zN (zR ?_)
 refine zV (Qp rfl ZL (fun hg=>by exact Cells.g0) rfl) ?_
 refine Qq (ps:=[(0,_)]) (m:=[Y2 x]) K7 rfl (.cons rfl (.nil)) rfl (by simp [Z5]) (by decide) (by decide) rfl rfl (fun b_4=>?_)
 refine ZY .here (fun I1 hI1 hb1=>?_)
 have hIc:=hIc.trans hI1
 have hS:=Sl.lit [x] rfl Z5 (show _=some (Obj.cells (([x]:List Sg).flatMap Y2).toArray 54 (0,0)) from hb1)
 refine qc (vs:=[_]) rfl zd3 (zfR hS (by decide)) ?_
 refine zC ?_
 refine zA (zN (Qt ?_))
 exact zp hIc rfl rfl (by rw [zqE])
theorem ztf {I:Qu}(p:Pt)(hN:Nd I p):Zw Tryz.prog 86 [Wl p] I (.int .i64 (JN p)):=by
 intro g H w hw
 refine qe Tryz.func86 Tryz.ntmps86 hw ?_
 have hN:Sl I 1 QR p.a p.n p.c p.needs:=hN
 refine zR ?_
 refine Q5 rfl rfl rfl (fun b_1=>?_)
 refine zA (zN (Ql (zR ?_)))
 refine zF KR ?_
 refine zL QK ?_
 refine zQ Qy ?_
 refine zC (zN ?_)
 refine zI ?_ ?_<;>intro hc11
 ·
  have hlen:p.needs.length>32:=by rw [hN.len];simp at hc11;omega
  refine zR (zA (zN (Qt (Qc ?_))))
  exact zr rfl rfl (by rw [zuG hlen])
 have hlen:¬p.needs.length>32:=by rw [hN.len];simp at hc11;omega
 have hpn:p.n≤100000:=by have:=hN.len;omega
 refine Qo (Qa (zR (zA (zN (Ql (zR ?_))))))
 refine zF KR ?_
 refine zL QK ?_
 refine zQ Qy ?_
 refine zM (zN (Qm ?_))
 refine zU [(1,_),(13,_),(14,_)] (fun T L0 mz E I' loc'=>∃ (k:Nat) (l:Int),mz=p.n-k∧E=(3,.int .i64 l)::(15,.int .i64 k)::T∧I=I'∧L0=loc'∧k≤p.n∧(List.range k).all (ndP p.id p.needs)=true∧zfV p.needs k l) ?_ (h:=⟨0,0,rfl,rfl,rfl,rfl,Nat.zero_le _,rfl,⟨fun _=>rfl,fun y hy h=>absurd rfl h⟩⟩)
 rintro mz E I' loc' ⟨k,l,rfl,rfl,rfl,rfl,hk,hall,hl⟩
 refine zR (zC (zN (Ql ?_)))
 refine zI ?_ ?_<;>intro hc16
 ·
  have hlt_k:k<p.n:=by have h:=hc16;simp at h;omega
  obtain ⟨x,hx⟩:=hN.at hlt_k
  refine Qo (Qa (Ql (Qm (zR ?_))))
  refine zV (QF rfl rfl Qy (by assumption) (fun hg=>by omega)) ?_
  refine zV (Qd rfl Qs (fun hg=>by exact zx7 hN hx rfl)) ?_
  refine zA (zN (Ql (zR ?_)))
  refine zM ?_
  refine zM ?_
  refine zC ?_
  refine zM ?_
  refine QX 3 rfl rfl rfl ?_
  refine zJ (Qi rfl) ?_
  refine zJ (Qe rfl Zt) ?_
  refine zJ (Qd rfl Qs (fun hg=>by exact QU.h0 rfl)) ?_
  refine zJ (QH rfl rfl rfl) ?_
  refine ZA rfl rfl rfl rfl rfl ?_
  refine zN ?_
  refine zI ?_ ?_<;>intro hc27
  ·
   have hnd:ndB p.id p.needs=false:=by unfold ndB;exact JK (k:=k) (by rw [hN.len];exact hlt_k) (by rw [zvo hall hl hx,hc27];rfl)
   refine zR (zA (zN (Qt (Qc (Qn (Qc (Qc ?_)))))))
   refine Qn (Qc ?_)
   exact zr rfl rfl (by rw [zua hlen hnd])
  refine Qo (Qa (Qg (zM ?_)))
  refine zA (Qb (Qh (Qa (Qg ?_))))
  refine zB ?_
  refine zM (Qb ?_)
  exact zm (h:=⟨p.n-(k+1),by omega,k+1,_,rfl,rfl,rfl,rfl,by omega,V8 hall (by rw [zvo hall hl hx,hc27];rfl),zar hx⟩)
 have hge_k:p.n≤k:=by have h:=hc16;simp at h;omega
 have hnd:ndB p.id p.needs=true:=by unfold ndB;rw [hN.len,show p.n=k by omega];exact hall
 refine QI (Qf (Qf (Qk (Qa (zR ?_)))))
 refine zF Zt ?_
 refine zL Qs ?_
 refine zC ?_
 refine zM ?_
 refine QE 3 rfl rfl rfl ?_
 refine zK (Qe rfl Zt) ?_
 refine zK (Qd rfl Qs (fun hg=>by exact QU.h0 rfl)) ?_
 refine zK (QH rfl rfl rfl) ?_
 refine QP rfl rfl rfl rfl rfl ?_
 refine zM ?_
 refine QE 8 rfl rfl rfl ?_
 refine zK (Qe rfl Z8) ?_
 refine zK (Qd rfl Qs (fun hg=>by exact QU.h0 rfl)) ?_
 refine zK (QH rfl rfl rfl) ?_
 refine QP rfl rfl rfl rfl rfl ?_
 refine zM ?_
 refine QE 13 rfl rfl rfl ?_
 refine zK (Qe rfl Z8) ?_
 refine zK (Qd rfl Qs (fun hg=>by exact QU.h0 rfl)) ?_
 refine zK (QH rfl rfl rfl) ?_
 refine QP rfl rfl rfl rfl rfl ?_
 refine zA (zN (Ql (zR ?_)))
 refine zF Jw ?_
 refine zL Qs ?_
 refine zN (Qm (zR (zC ?_)))
 refine zA (zN ?_)
 refine zI ?_ ?_<;>intro hc50
 ·
  have hk:p.kind=1:=by simpa using hc50
  refine Ql (zR ?_)
  refine zF VU ?_
  refine zL Qs ?_
  refine zC ?_
  refine zM ?_
  refine QX 3 rfl rfl rfl ?_
  refine zJ (Qe rfl VU) ?_
  refine zJ (Qd rfl Qs (fun hg=>by exact QU.h0 rfl)) ?_
  refine zJ (QH rfl rfl rfl) ?_
  refine ZA rfl rfl rfl rfl rfl ?_
  refine zN ?_
  refine zI ?_ ?_<;>intro hc59
  ·
   have hb:(idB p&&Us p)=false:=zvx hk (by unfold YK;simp at hc59 ⊢;omega)
   refine zR (zA (zN (Qt (Qc (Qn (Qc ?_))))))
   exact zr rfl rfl (by rw [zcv hlen hnd hb])
  have hf:isF p.field:=by have h:=hc59;unfold isF;simp at h;omega
  have hw1:YK p.field 1 9=true:=by have h:=hc59;unfold YK;simp at h ⊢;omega
  refine Qo (Qa (zR ?_))
  refine zV (QS (ps:=[(1,_)]) [_,_] zfo rfl rfl) ?_
  refine zV (QS (ps:=[(0,_),(1,_)]) [_,_] zfo rfl rfl) ?_
  refine zV (QS (ps:=[(3,_),(4,_),(10,_),(11,_)]) [_,_,_,_,_,_,_,_,_,_,_,_,_,_] UQ rfl rfl) ?_
  refine Qr WX rfl rfl (fun b_7=>?_)
  refine zh Vx ?_
  refine zN (Qg (zM ?_))
  refine zM ?_
  refine QE 1 rfl rfl rfl ?_
  refine zK (Qe rfl VS) ?_
  refine zK (Qp rfl ZL (fun hg=>by exact Cells.s1 (vs:=[_,_,_,_,_,_,_,_,_,_,_,_,_,_]) rfl) rfl) ?_
  refine zK (Qe rfl VU) ?_
  refine zK (Qd rfl Qs (fun hg=>by exact QU.h1 rfl)) ?_
  refine zK (QS (ps:=[]) [_,_,_,_,_,_,_,_,_,_,_,_,_,_] UQ rfl rfl) ?_
  refine qg (vs:=[_,_,_]) rfl zii (fun hg=>zuo I p.nw p.field Y6 hf) ?_
  refine zK (QS (ps:=[]) [_,_,_,_,_,_,_,_,_,_,_,_,_,_] UQ rfl rfl) ?_
  refine zK (zdW rfl rfl XX rfl) ?_
  refine QP rfl rfl rfl rfl rfl ?_
  refine zM ?_
  refine QE 11 rfl rfl rfl ?_
  refine zK (Qp rfl ZL (fun hg=>by exact Cells.g0) rfl) ?_
  refine zK (Qe rfl VU) ?_
  refine zK (Qd rfl Qs (fun hg=>by exact QU.h1 rfl)) ?_
  refine zK (Qe rfl VS) ?_
  refine zK (Qp rfl ZL (fun hg=>by exact Cells.s1 (vs:=[_,_,_,_,_,_,_,_,_,_,_,_,_,_]) rfl) rfl) ?_
  refine qg (vs:=[_,_,_]) rfl zii (fun hg=>zuo I zfp p.field p.nw hf) ?_
  refine qg (vs:=[_]) rfl zj4 (fun hg=>zm5 I _) ?_
  refine QP rfl rfl rfl rfl rfl ?_
  refine zA (Qb (Qh (Qa (Ql (zR ?_)))))
  refine zM ?_
  refine zO (zN ?_)
  refine zI ?_ ?_<;>intro hc119
  ·
   have hb:(idB p&&Us p)=false:=by (exact (show (idB p&&Us p)=false from by rw [ztj hk hw1];exact (zfz _ _ _ _ _ _).symm.trans ((Bool.not_eq_true' _).mp hc119)))
   refine zR (zA (zN (Qt (Qc ?_))))
   exact zr rfl rfl (by rw [zcv hlen hnd hb])
  have hb:(idB p&&Us p)=true:=by (exact (show (idB p&&Us p)=true from by rw [ztj hk hw1];exact (zfz _ _ _ _ _ _).symm.trans ((Bool.not_eq_false' _).mp hc119)))
  refine Qo (Qa (zR (zA (zN (Qt ?_)))))
  exact zr rfl rfl (by rw [zfh hlen hnd hb])
 have hk1:p.kind≠1:=by simpa using hc50
 refine zR (zC ?_)
 refine zA (zN ?_)
 refine zI ?_ ?_<;>intro hc83
 ·
  have hk:p.kind=2:=by simpa using hc83
  refine Qg (zM ?_)
  refine zM ?_
  refine QE 1 rfl rfl rfl ?_
  refine zK (Qe rfl VU) ?_
  refine zK (Qd rfl Qs (fun hg=>by exact QU.h0 rfl)) ?_
  refine zK (QH rfl rfl rfl) ?_
  refine QP rfl rfl rfl rfl rfl ?_
  refine zM ?_
  refine QE 6 rfl rfl rfl ?_
  refine zK (Qe rfl VS) ?_
  refine zK (Qe rfl ZN) ?_
  refine zK (Qd rfl Qs (fun hg=>by exact QU.h0 rfl)) ?_
  refine zK (Qe rfl Z8) ?_
  refine zK (Qd rfl Qs (fun hg=>by exact QU.h0 rfl)) ?_
  refine zK (QH rfl rfl rfl) ?_
  refine QP rfl rfl rfl rfl rfl ?_
  refine zM ?_
  refine QE 14 rfl rfl rfl ?_
  refine zK (Qe rfl VS) ?_
  refine zK (Qp rfl ZL (fun hg=>by exact Cells.s0 (vs:=[_,_,_,_,_,_,_,_,_,_,_,_,_,_]) rfl) rfl) ?_
  refine qg (vs:=[_]) rfl zj4 (fun hg=>zm5 I _) ?_
  refine QP rfl rfl rfl rfl rfl ?_
  refine zA (Qb (Qh (Qa (Ql (zR ?_)))))
  refine zM ?_
  refine zO (zN ?_)
  refine zI ?_ ?_<;>intro hc119
  ·
   have hb:(idB p&&Us p)=false:=by (exact (show (idB p&&Us p)=false from by rw [ztZ hk];exact (zn6 _ _ _ _ _ _ _).symm.trans ((Bool.not_eq_true' _).mp hc119)))
   refine zR (zA (zN (Qt (Qc ?_))))
   exact zr rfl rfl (by rw [zcv hlen hnd hb])
  have hb:(idB p&&Us p)=true:=by (exact (show (idB p&&Us p)=true from by rw [ztZ hk];exact (zn6 _ _ _ _ _ _ _).symm.trans ((Bool.not_eq_false' _).mp hc119)))
  refine Qo (Qa (zR (zA (zN (Qt ?_)))))
  exact zr rfl rfl (by rw [zfh hlen hnd hb])
 have hk2:p.kind≠2:=by simpa using hc83
 refine zR (zC ?_)
 refine zA (zN ?_)
 refine zI ?_ ?_<;>intro hc104
 ·
  have hk:p.kind=3:=by simpa using hc104
  refine Qg (zM ?_)
  refine zM ?_
  refine QE 1 rfl rfl rfl ?_
  refine zK (Qe rfl VU) ?_
  refine zK (Qd rfl Qs (fun hg=>by exact QU.h0 rfl)) ?_
  refine zK (QH rfl rfl rfl) ?_
  refine QP rfl rfl rfl rfl rfl ?_
  refine zM ?_
  refine QE 6 rfl rfl rfl ?_
  refine zK (Qe rfl VS) ?_
  refine zK (Qp rfl ZL (fun hg=>by exact Cells.s0 (vs:=[_,_,_,_,_,_,_,_,_,_,_,_,_,_]) rfl) rfl) ?_
  refine zK (QS (ps:=[]) [_,_,_,_,_,_,_,_,_,_,_,_,_,_] UQ rfl rfl) ?_
  refine zK (zdW rfl rfl XX rfl) ?_
  refine QP rfl rfl rfl rfl rfl ?_
  refine zA (Qb (Qh (Qa (Ql (zR ?_)))))
  refine zM ?_
  refine zO (zN ?_)
  refine zI ?_ ?_<;>intro hc119
  ·
   have hb:(idB p&&Us p)=false:=by (exact (show (idB p&&Us p)=false from by rw [zsH hk];exact (zfz _ _ _ _ _ _).symm.trans ((Bool.not_eq_true' _).mp hc119)))
   refine zR (zA (zN (Qt (Qc ?_))))
   exact zr rfl rfl (by rw [zcv hlen hnd hb])
  have hb:(idB p&&Us p)=true:=by (exact (show (idB p&&Us p)=true from by rw [zsH hk];exact (zfz _ _ _ _ _ _).symm.trans ((Bool.not_eq_false' _).mp hc119)))
  refine Qo (Qa (zR (zA (zN (Qt ?_)))))
  exact zr rfl rfl (by rw [zfh hlen hnd hb])
 have hk3:p.kind≠3:=by simpa using hc104
 refine Qg (zA (Qb (Qh (Qa (Ql (zR ?_))))))
 refine zM ?_
 refine zO (zN ?_)
 refine zI ?_ ?_<;>intro hc119
 ·
  have hb:(idB p&&Us p)=false:=by exact zwU hk1 hk2 hk3
  refine zR (zA (zN (Qt (Qc ?_))))
  exact zr rfl rfl (by rw [zcv hlen hnd hb])
 have hb:(idB p&&Us p)=true:=by (exfalso;have h:=hc119;simp at h)
 refine Qo (Qa (zR (zA (zN (Qt ?_)))))
 exact zr rfl rfl (by rw [zfh hlen hnd hb])
theorem zwY {I:Qu}{av:Option Addr}{n c:Nat}{xs:List Int}(hS:Sl I 1 QR av n c xs)(hn:n≤100000){fid:Nat}{cap:List Value}{P:Int→Bool}(hF:Fun Tryz.prog fid)(hf:∀ x∈xs,Zw Tryz.prog fid ([.int .i64 x]++cap) I (.bool (P x))):Zw Tryz.prog 148 [.slice av n c,.func (.func fid) #[] cap.toArray] I (.int .i64 (K8 P xs)):=by
 intro g H w hw
 refine qe Tryz.func148 Tryz.ntmps148 hw ?_
 have hS:=hS
 refine zR (zA (zN (Ql (zR ?_))))
 refine zM ?_
 refine zQ Qy ?_
 refine zM (zN (Qm ?_))
 refine zU [(0,_),(1,_),(7,_)] (fun T L0 mz E I' loc'=>∃ (k:Nat),mz=n-k∧E=(8,.int .i64 k)::T∧I=I'∧L0=loc'∧k≤n∧(xs.take k).any P=false) ?_ (h:=⟨0,rfl,rfl,rfl,rfl,Nat.zero_le _,rfl⟩)
 rintro mz E I' loc' ⟨k,rfl,rfl,rfl,rfl,hk,hno⟩
 refine zR (zC (zN (Ql ?_)))
 refine zI ?_ ?_<;>intro hc9
 ·
  have hlt_k:k<n:=by have h:=hc9;simp at h;omega
  obtain ⟨x,hx⟩:=hS.at hlt_k
  refine Qo (Qa (Ql (Qm (zR (zM ?_)))))
  refine zA ?_
  refine zN (zR ?_)
  refine zM ?_
  refine zM ?_
  refine zM ?_
  refine zV (QF rfl rfl Qy (by assumption) (fun hg=>by omega)) ?_
  refine zV (Qd rfl Qs (fun hg=>by exact zx7 hS hx rfl)) ?_
  refine YQ (cap:=cap) (vs:=[_]) rfl rfl hF (hf x (List.mem_of_getElem? hx)) rfl rfl ?_
  refine zN ?_
  refine zI ?_ ?_<;>intro hc16
  ·
   refine zR (zM ?_)
   refine zA (zN (Qt (Qn (Qc (Qc (Qn (Qc ?_)))))))
   exact zr rfl rfl (by rw [Jd hno hx hc16])
  refine Qo (Qh (Qa (Qg (zB ?_))))
  refine zM (Qb ?_)
  exact zm (h:=⟨n-(k+1),by omega,k+1,rfl,rfl,rfl,rfl,by omega,YX hx hno hc16⟩)
 have hge_k:n≤k:=by have h:=hc9;simp at h;omega
 refine QI (Qf (Qf (Qk (Qa (zR (zA (zN ?_)))))))
 refine Qt ?_
 exact zr rfl rfl (by rw [Vv hS.len hge_k hno])
theorem zuv {I:Qu}{av:Option Addr}{n c:Nat}{xs:List Int}(hS:Sl I 1 QR av n c xs)(hn:n≤100000){fid:Nat}{cap:List Value}{P:Int→Bool}(hF:Fun Tryz.prog fid)(hf:∀ x∈xs,Zw Tryz.prog fid ([.int .i64 x]++cap) I (.bool (P x))):Zw Tryz.prog 87 [.slice av n c,.func (.func fid) #[] cap.toArray] I (.bool (xs.any P)):=by
 intro g H w hw
 refine qe Tryz.func87 Tryz.ntmps87 hw ?_
 refine zR (zA ?_)
 refine zN (zR ?_)
 refine zM ?_
 refine zM ?_
 refine qc (vs:=[_,_]) rfl zgT (zwY hS hn hF hf) ?_
 refine zC ?_
 refine zA (zN (Qt ?_))
 exact zr rfl rfl (by rw [←KE])
theorem zvC {I:Qu}{av:Option Addr}{n c:Nat}{ps:List Pt}(hP:SlP I av n c ps)(hn:n≤100000){fid:Nat}{cap:List Value}{P:Pt→Bool}(hF:Fun Tryz.prog fid)(hf:∀ x∈ps,Zw Tryz.prog fid ([Wl x]++cap) I (.bool (P x))):Zw Tryz.prog 169 [.slice av n c,.func (.func fid) #[] cap.toArray] I (.int .i64 (K8 P ps)):=by
 intro g H w hw
 refine qe Tryz.func169 Tryz.ntmps169 hw ?_
 have hS:=hP.1
 refine zR (zA (zN (Ql (zR ?_))))
 refine zM ?_
 refine zQ Zz ?_
 refine zM (zN (Qm ?_))
 refine zU [(0,_),(1,_),(7,_)] (fun T L0 mz E I' loc'=>∃ (k:Nat),mz=n-k∧E=(8,.int .i64 k)::T∧I=I'∧L0=loc'∧k≤n∧(ps.take k).any P=false) ?_ (h:=⟨0,rfl,rfl,rfl,rfl,Nat.zero_le _,rfl⟩)
 rintro mz E I' loc' ⟨k,rfl,rfl,rfl,rfl,hk,hno⟩
 refine zR (zC (zN (Ql ?_)))
 refine zI ?_ ?_<;>intro hc9
 ·
  have hlt_k:k<n:=by have h:=hc9;simp at h;omega
  obtain ⟨x,hx⟩:=hS.at hlt_k
  refine Qo (Qa (Ql (Qm (zR (zM ?_)))))
  refine zA ?_
  refine zN (zR ?_)
  refine zM ?_
  refine zM ?_
  refine zM ?_
  refine zV (QF rfl rfl Zz (by assumption) (fun hg=>by omega)) ?_
  refine zV (Qp rfl Yw (fun hg=>by exact zyf hS hx) rfl) ?_
  refine YQ (cap:=cap) (vs:=[_]) rfl rfl hF (hf x (List.mem_of_getElem? hx)) rfl rfl ?_
  refine zN ?_
  refine zI ?_ ?_<;>intro hc16
  ·
   refine zR (zM ?_)
   refine zA (zN (Qt (Qn (Qc (Qc (Qn (Qc ?_)))))))
   exact zr rfl rfl (by rw [Jd hno hx hc16])
  refine Qo (Qh (Qa (Qg (zB ?_))))
  refine zM (Qb ?_)
  exact zm (h:=⟨n-(k+1),by omega,k+1,rfl,rfl,rfl,rfl,by omega,YX hx hno hc16⟩)
 have hge_k:n≤k:=by have h:=hc9;simp at h;omega
 refine QI (Qf (Qf (Qk (Qa (zR (zA (zN ?_)))))))
 refine Qt ?_
 exact zr rfl rfl (by rw [Vv hS.len hge_k hno])
theorem ztW {I:Qu}{av:Option Addr}{n c:Nat}{ps:List Pt}(hP:SlP I av n c ps)(hn:n≤100000){fid:Nat}{cap:List Value}{P:Pt→Bool}(hF:Fun Tryz.prog fid)(hf:∀ x∈ps,Zw Tryz.prog fid ([Wl x]++cap) I (.bool (P x))):Zw Tryz.prog 116 [.slice av n c,.func (.func fid) #[] cap.toArray] I (.bool (ps.any P)):=by
 intro g H w hw
 refine qe Tryz.func116 Tryz.ntmps116 hw ?_
 refine zR (zA ?_)
 refine zN (zR ?_)
 refine zM ?_
 refine zM ?_
 refine qc (vs:=[_,_]) rfl zdM (zvC hP hn hF hf) ?_
 refine zC ?_
 refine zA (zN (Qt ?_))
 exact zr rfl rfl (by rw [←KE])
theorem zvY {I:Qu}{b r:Nat}{s:List (Int×Bool)}(hb:I b=some (.cells #[.map (some r)] 167 (0,0)))(hr:I r=some (ZR (Value.int .i64) Value.bool s))(x:Int):Zw Tryz.prog 88 [.int .i64 x,.pointer (some ⟨b,0,none⟩)] I (.bool (!zaf s x)):=by
 intro g H w hw
 refine qe Tryz.func88 Tryz.ntmps88 hw ?_
 refine zR (zA ?_)
 refine zN (zR ?_)
 refine zV (Qd rfl zh7 (fun hg=>by exact .imm hb rfl)) ?_
 refine zM ?_
 refine zV (Ye Vs ZE rfl rfl (fun _=>.inl hr)) ?_
 refine zO ?_
 refine zA (zN (Qt ?_))
 exact zr rfl rfl (by rfl)
end
section
open Go Go.Kn Go.Proofs
def zpd (ps:List Pt):List Int:=ps.map (·.id)
def lsQ (ps:List Pt)(i:Nat):Bool:= !((decide ((i:Int)>0)&&decide ((ps.getD i WR).id≤(ps.getD ((i:Int)-1).toNat WR).id))||(ps.getD i WR).needs.any (fun n=> !zal (ps.take i) n))
theorem zn0 {ps:List Pt}{k:Nat}{p:Pt}{l:Int}{s:List (Int×Bool)}(hp:ps[k]? =some p)(h1:1≤p.id)(hl:zfV (zpd ps) k l)(hs:∀ x,zaf s x=zal (ps.take k) x):lsQ ps k= !(decide (p.id≤l)||p.needs.any fun x=> !zaf s x):=by
 unfold lsQ
 rw [Q1 hp]
 simp only [hs]
 congr 2
 cases k with
 | zero=>
  rw [hl.1 rfl,Bool.eq_iff_iff];simp;omega
 | succ k=>
  have hk:=(List.getElem?_eq_some_iff.1 hp).1
  have hy:ps[k]? =some (ps[k]'(by omega)):=List.getElem?_eq_getElem _
  have e:=hl.2 (ps[k]'(by omega)).id (by rw [Nat.add_sub_cancel];simp [zpd,hy]) (by omega)
  rw [show (((k+1:Nat):Int)-1).toNat=k by omega,Q1 hy,←e,Bool.eq_iff_iff];simp
theorem zgb {ps:List Pt}{k:Nat}{p:Pt}(hp:ps[k]? =some p):zfV (zpd ps) (k+1) p.id:=zar (by simp [zpd,hp])
theorem zkW {ps:List Pt}{k:Nat}{p:Pt}(hp:ps[k]? =some p)(x:Int):zal (ps.take (k+1)) x=(decide (p.id=x)||zal (ps.take k) x):=by
 unfold zal
 rw [Z3 hp,List.any_append,Bool.eq_iff_iff]
 simp [or_comm]
theorem zk5 {ps:List Pt}{k:Nat}{n:Int}(h:zal (ps.take k) n=true):zal ps n=true:=by
 obtain ⟨q,hq,e⟩:=VR.1 h
 exact VR.2 ⟨q,List.mem_of_mem_take hq,e⟩
theorem ziV {ps:List Pt}(h0:orF (ps.map JN)=0):(List.range ps.length).all (lsQ ps)=lsB ps:=by
 rw [Bool.eq_iff_iff]
 constructor
 ·
  intro h
  unfold lsB
  rw [List.all_eq_true] at h ⊢
  intro i hi
  have:=h i hi
  unfold lsQ at this
  unfold lsP
  simp only [Bool.not_eq_true',Bool.or_eq_false_iff] at this ⊢
  refine ⟨this.1,?_⟩
  have h2:=this.2
  rw [List.any_eq_false] at h2 ⊢
  intro n hn hc
  refine h2 n hn ?_
  rw [Bool.not_eq_true'] at hc ⊢
  cases hh:zal (ps.take i) n with
  | false=>rfl
  | true=>rw [zk5 hh] at hc;cases hc
 ·
  intro h
  have hL:=zjn h0 h
  unfold lsB at h
  rw [List.all_eq_true] at h ⊢
  intro i hi
  have:=h i hi
  unfold lsP at this
  unfold lsQ
  simp only [Bool.not_eq_true',Bool.or_eq_false_iff] at this ⊢
  refine ⟨this.1,?_⟩
  rw [List.any_eq_false]
  intro n hn hc
  have hk:ps[i]? =some (ps.getD i WR):=Zk rfl (List.mem_range.1 hi)
  obtain ⟨q,hq,e⟩:=hL.before hk hn
  rw [VR.2 ⟨q,hq,e⟩] at hc
  cases hc
/-! ### Inserts and removes of a sign -/
def V2 (k:Int)(ps:List Pt)(s:Int):List Int:=(ps.filter fun q=>q.kind==k&&q.sign==s).map (·.id)
theorem KO {c:Int}{ps:List Pt}{k:Nat}{p:Pt}(hp:ps[k]? =some p)(s:Int):V2 c (ps.take (k+1)) s=V2 c (ps.take k) s++(if p.kind=c∧p.sign=s then [p.id] else []):=by
 unfold V2
 rw [Z3 hp,List.filter_append,List.map_append]
 congr 1
 by_cases h:p.kind=c∧p.sign=s
 ·
  rw [if_pos h];simp [h.1,h.2]
 ·
  rw [if_neg h]
  have:(p.kind==c&&p.sign==s)=false:=by
   rw [Bool.eq_false_iff];intro hc;simp at hc;exact h hc
  simp [this]
theorem U8 {c:Int}{ps:List Pt}{s x:Int}:x∈V2 c ps s↔ ∃ q∈ps,q.kind=c∧q.sign=s∧q.id=x:=by
 unfold V2
 rw [zdl]
 simp [and_assoc]
def zf8 (mi:List (Int×Int))(ps:List Pt):Prop:=∀ s,V2 2 ps s=(Zy mi s).toList
theorem zf8.nil {ps:List Pt}:zf8 [] (ps.take 0):=fun s=>by simp [V2,Zy]
theorem zf8.put {mi:List (Int×Int)}{ps:List Pt}{k:Nat}{p:Pt}(h:zf8 mi (ps.take k))(hp:ps[k]? =some p)(hk:p.kind=2)(hn:Zy mi p.sign=none):zf8 (Ys mi p.sign p.id) (ps.take (k+1)):=fun s=>by
 rw [KO hp,h s,YE]
 by_cases e:p.sign=s
 ·
  subst e;rw [if_pos ⟨hk,rfl⟩,if_pos rfl,hn];rfl
 ·
  rw [if_neg (fun q=>e q.2),if_neg e,List.append_nil]
theorem zf8.skip {mi:List (Int×Int)}{ps:List Pt}{k:Nat}{p:Pt}(h:zf8 mi (ps.take k))(hp:ps[k]? =some p)(hk:p.kind≠2):zf8 mi (ps.take (k+1)):=fun s=>by
 rw [KO hp,h s,if_neg (fun q=>hk q.1),List.append_nil]
def WH (mr:List (Int×(Value×Nat×List Value)))(ps:List Pt):Prop:=∀ s,((Zy mr s).getD V7).2.2=(V2 3 ps s).flatMap QR
theorem WH.nil {ps:List Pt}:WH [] (ps.take 0):=fun s=>by simp [V2,Zy,V7]
theorem WH.put {mr:List (Int×(Value×Nat×List Value))}{ps:List Pt}{k n:Nat}{p:Pt}{v:Value}(h:WH mr (ps.take k))(hp:ps[k]? =some p)(hk:p.kind=3):WH (Ys mr p.sign (v,n,((Zy mr p.sign).getD V7).2.2++[p.id].flatMap QR)) (ps.take (k+1)):=fun s=>by
 rw [KO hp,YE]
 by_cases e:p.sign=s
 ·
  subst e;rw [if_pos rfl,if_pos ⟨hk,rfl⟩,List.flatMap_append,←h];rfl
 ·
  rw [if_neg e,if_neg (fun q=>e q.2),List.append_nil,h s]
theorem WH.skip {mr:List (Int×(Value×Nat×List Value))}{ps:List Pt}{k:Nat}{p:Pt}(h:WH mr (ps.take k))(hp:ps[k]? =some p)(hk:p.kind≠3):WH mr (ps.take (k+1)):=fun s=>by
 rw [KO hp,h s,if_neg (fun q=>hk q.1),List.append_nil]
theorem XV {c:Int}{ps:List Pt}{s:Int}:(V2 c ps s).length≤ps.length:=by
 unfold V2
 rw [List.length_map]
 exact List.length_filter_le _ _
theorem znS {I:Qu}{e:Nat}{mr:List (Int×(Value×Nat×List Value))}{ps:List Pt}{L:Go.Kn.Loc}(h:WH mr ps)(hA:Vj e 1 (mr.map (·.2)) L)(hI:∀ b o,(b,o)∈L→I b=some o)(s:Int):
  ∃ av c,((Zy mr s).getD V7).1= .slice av (V2 3 ps s).length c∧Sl I 1 QR av (V2 3 ps s).length c (V2 3 ps s):=by
 obtain ⟨A,Lt,B,rfl,hO,_⟩:=hA.at s
 rw [h s] at hO
 obtain ⟨av,c,e1,e2⟩:=hO.sl Qv (by decide) (fun b o hb=>hI b o (by simp [hb]))
 have hn:=e2.len
 rw [←hn] at e1 e2
 exact ⟨av,c,e1,e2⟩
theorem zna {e:Nat}{mr:List (Int×(Value×Nat×List Value))}{ps:List Pt}{s:Int}{L:Go.Kn.Loc}(h:WH mr ps)(hO:OwnS e 1 ((Zy mr s).getD V7).1 ((Zy mr s).getD V7).2.1 ((Zy mr s).getD V7).2.2 L):((Zy mr s).getD V7).2.1≤ps.length:=by
 have h1:=hO.1
 rw [h s,zxI] at h1
 have h2:=XV (c:=3) (ps:=ps) (s:=s)
 omega
theorem zhw {x y:Nat×Obj}{A L B:Go.Kn.Loc}:(x::y::(A++(L++B))).Perm (L++(x::y::(A++B))):=List.perm_append_comm_assoc (x::y::A) L B
def tgP (ps:List Pt)(p:Pt):Bool:= !(((V2 2 ps p.sign).any fun i=>p.id != i&& !onF ps p.id i)||(V2 3 ps p.sign).any (onF ps p.id))
theorem zj2 {ps:List Pt}(hL:Lst ps){mi:List (Int×Int)}(hi:zf8 mi ps):zjr ps=ps.all (tgP ps):=by
 unfold zjr
 rw [Bool.eq_iff_iff,List.all_eq_true,List.all_eq_true]
 refine forall_congr' fun p=>forall_congr' fun hp=>?_
 unfold tgP
 rw [List.all_eq_true]
 simp only [Bool.not_eq_true',Bool.or_eq_false_iff,List.any_eq_false,U8]
 constructor
 ·
  intro h
  constructor
  ·
   rintro x ⟨q,hq,h2,hs,rfl⟩ hc
   have:=h q hq
   unfold znc at this
   rw [if_neg (by simpa using hs.symm),if_pos h2] at this
   simp at this hc
   rcases this with e | e
   ·
    exact hc.1 e
   ·
    rw [hc.2] at e;cases e.2
  ·
   rintro x ⟨q,hq,h3,hs,rfl⟩ hc
   have:=h q hq
   unfold znc at this
   rw [if_neg (by simpa using hs.symm),if_neg (by omega),if_pos h3] at this
   simp at this
   rcases this with e | e
   ·
    rw [e,hL.on_irr] at hc;cases hc
   ·
    rw [e] at hc;cases hc
 ·
  rintro ⟨h1,h2⟩ q hq
  unfold znc
  by_cases hs:p.sign=q.sign
  ·
   rw [if_neg (by simpa using hs)]
   by_cases e:p.id=q.id
   ·
    simp [e]
   ·
    by_cases k2:q.kind=2
    ·
     rw [if_pos k2]
     have:=h1 q.id ⟨q,hq,k2,hs.symm,rfl⟩
     have hk:p.kind≠2:=fun k=>e (by
      have hm1:=U8.2 ⟨p,hp,k,rfl,rfl⟩
      have hm2:=U8.2 ⟨q,hq,k2,hs.symm,rfl⟩
      rw [hi p.sign] at hm1 hm2
      cases hg:Zy mi p.sign with
      | none=>rw [hg] at hm1;cases hm1
      | some z=>rw [hg] at hm1 hm2;simp at hm1 hm2;rw [hm1,hm2])
     simp [e] at this
     simp [this,hk]
    ·
     rw [if_neg k2]
     by_cases k3:q.kind=3
     ·
      rw [if_pos k3]
      have:=h2 q.id ⟨q,hq,k3,hs.symm,rfl⟩
      simp at this
      simp [this]
     ·
      rw [if_neg k3];simp
  ·
   rw [if_pos hs];simp
theorem zoV {ps:List Pt}(hL:Lst ps){mi:List (Int×Int)}{k:Nat}{p:Pt}{id:Int}(h:zf8 mi (ps.take k))(hp:ps[k]? =some p)(hk:p.kind=2)(hn:Zy mi p.sign=some id):zjr ps=false:=by
 have hm:id∈V2 2 (ps.take k) p.sign:=by rw [h,hn];simp
 obtain ⟨q,hq,k2,hs,rfl⟩:=U8.1 hm
 have hlt:=hL.fresh hp q hq
 unfold zjr
 rw [Bool.eq_false_iff]
 intro hc
 rw [List.all_eq_true] at hc
 have h1:=hc p (List.mem_of_getElem? hp)
 rw [List.all_eq_true] at h1
 have h2:=h1 q (List.mem_of_mem_take hq)
 unfold znc at h2
 rw [if_neg (by simpa using hs.symm),if_pos k2] at h2
 simp [hk] at h2
 omega
theorem zn8 {ps:List Pt}{p:Pt}{mi:List (Int×Int)}(hi:zf8 mi ps):((Zy mi p.sign).isSome&&(p.id != (Zy mi p.sign).getD 0)&& !onF ps p.id ((Zy mi p.sign).getD 0))=((V2 2 ps p.sign).any fun i=>p.id != i&& !onF ps p.id i):=by
 rw [hi p.sign]
 cases Zy mi p.sign with
 | none=>rfl
 | some x=>simp
theorem zuU {ps:List Pt}(h:ps.length>512):KV ps=2:=by unfold KV;rw [if_pos h]
theorem zvw {ps:List Pt}(h:¬ps.length>512){k:Nat}{p:Pt}(hp:ps[k]? =some p)(h0:orF ((ps.take k).map JN)=0)(h1:JN p≠0):KV ps=JN p:=by
 have:orF (ps.map JN)=JN p:=zmg (k:=k) (by simp [hp]) (by rw [←List.map_take];exact h0) h1
 unfold KV;rw [if_neg h,this,if_pos h1]
theorem zsW {ps:List Pt}(h:¬ps.length>512)(h0:orF (ps.map JN)=0)(h1:lsB ps=false):KV ps=380:=by unfold KV;rw [if_neg h,if_neg (by omega),h1];rfl
theorem zgF {ps:List Pt}(h:¬ps.length>512)(h0:orF (ps.map JN)=0)(h1:lsB ps=true)(h2:zjr ps=false):KV ps=380:=by unfold KV;rw [if_neg h,if_neg (by omega),h1,h2];rfl
theorem zvi {ps:List Pt}(h:¬ps.length>512)(h0:orF (ps.map JN)=0)(h1:lsB ps=true)(h2:zjr ps=true):KV ps=0:=by unfold KV;rw [if_neg h,if_neg (by omega),h1,h2];rfl
theorem zon {ps:List Pt}{k:Nat}{p:Pt}(hp:ps[k]? =some p)(h0:orF ((ps.take k).map JN)=0)(h1:JN p=0):orF ((ps.take (k+1)).map JN)=0:=by
 rw [Kc] at h0 ⊢
 intro x hx
 rw [Z3 hp,List.map_append,List.mem_append] at hx
 rcases hx with hx | hx
 ·
  exact h0 x hx
 ·
  simp at hx;rw [hx,h1]
theorem zlr {p:Pt}(h:JN p=0):1≤p.id∧p.id≤1048576∧0≤p.sign∧p.sign≤1048576∧p.needs.length≤32:=by
 unfold JN at h
 split at h
 ·
  cases h
 ·
  split at h
  ·
   rename_i h1 h2
   simp only [Bool.and_eq_true] at h2
   have h3:=h2.2.1
   unfold idB at h3
   simp at h3
   omega
  ·
   cases h
theorem zuN {I:Qu}{av:Option Addr}{n c:Nat}{ps:List Pt}(hP:SlP I av n c ps)(hz:∀ p∈ps,JN p=0):∀ p∈ps,p.n≤100000:=fun p hp=>by
 have h1:Sl I 1 QR p.a p.n p.c p.needs:=hP.2 p hp
 have h2:=hz p hp
 have h3:=h1.len
 unfold JN at h2
 split at h2
 ·
  cases h2
 ·
  omega
theorem zu4 {I:Qu}{av:Option Addr}{n c:Nat}{ps:List Pt}(hP:SlP I av n c ps)(h:KV ps=0):∀ p∈ps,p.n≤100000:=zuN hP fun p hp=>Kc.1 (Ui h).2.1 _ (List.mem_map.2 ⟨p,hp,rfl⟩)
end
section
open Go Go.Kn Go.Proofs
theorem zu5 {I:Qu}{av:Option Addr}{n c:Nat}{ps:List Pt}(hP:SlP I av n c ps)(hn:n≤100000):Zw Tryz.prog 48 [.slice av n c] I (.int .i64 (KV ps)):=by
 intro g H w hw
 refine qe Tryz.func48 Tryz.ntmps48 hw ?_
 have hIc:=zye I
 refine zR (zA (zN (Ql (zR ?_))))
 refine zM ?_
 refine zQ Zz ?_
 refine zC (zN ?_)
 refine zI ?_ ?_<;>intro hc24
 ·
  have hlen:ps.length>512:=by rw [hP.len];simp at hc24;omega
  refine zR (zA (zN (Qt (Qc ?_))))
  exact zp hIc rfl rfl (by rw [zuU hlen])
 have hlen:¬ps.length>512:=by rw [hP.len];simp at hc24;omega
 refine Qo (Qa (Ql (zR (zM ?_))))
 refine zQ Zz ?_
 refine zM (zN (Qm ?_))
 refine zU [(0,_),(25,_),(26,_)] (fun T L0 mz E I' loc'=>∃ (k:Nat) (e:Int),mz=n-k∧E=(27,.int .i64 k)::T∧I=I'∧L0=loc'∧k≤n∧e=0∧orF ((ps.take k).map JN)=0) ?_ (h:=⟨0,0,rfl,rfl,rfl,rfl,Nat.zero_le _,rfl,rfl⟩)
 rintro mz E I' loc' ⟨k,e,rfl,rfl,rfl,rfl,hk,he,h0⟩
 refine zR (zC (zN (Ql ?_)))
 refine zI ?_ ?_<;>intro hc28
 ·
  have hlt_k:k<n:=by have h:=hc28;simp at h;omega
  have hP1:=hP.1
  obtain ⟨p,hp,hN⟩:=hP.at hlt_k
  have hpm:=List.mem_of_getElem? hp
  have hN:Sl I 1 QR p.a p.n p.c p.needs:=hN
  refine Qo (Qa (Ql (Qm (zR ?_))))
  refine zV (QF rfl rfl Zz (by assumption) (fun hg=>by omega)) ?_
  refine zV (Qp rfl Yw (fun hg=>by exact zyf hP1 hp) rfl) ?_
  refine Qr K2 rfl rfl (fun b_4=>?_)
  refine zh VN ?_
  refine zN (zR ?_)
  refine zV (Qp rfl Yw (fun hg=>by exact Cells.g0) rfl) ?_
  refine qc (vs:=[_]) rfl zuh (ztf p hN) ?_
  refine zA ?_
  refine zN (zR ?_)
  refine zM ?_
  refine zC (zN ?_)
  refine zI ?_ ?_<;>intro hc34
  ·
   have hbad:KV ps=JN p:=zvw hlen hp h0 (by simpa using hc34)
   refine zR (zM ?_)
   refine zA (zN (Qt (Qn (Qc (Qc (Qn (Qc ?_)))))))
   exact zp hIc rfl rfl (by rw [hbad])
  have hpk:JN p=0:=by simpa using hc34
  refine Qo (Qh (Qa (Qg (zB ?_))))
  refine zM (Qb ?_)
  exact zm (h:=⟨n-(k+1),by omega,k+1,_,rfl,rfl,rfl,rfl,by omega,hpk,zon hp h0 hpk⟩)
 have hge_k:n≤k:=by have h:=hc28;simp at h;omega
 have h0:orF (ps.map JN)=0:=by rw [ZF hP.len hge_k] at h0;exact h0
 have hz:∀ p∈ps,JN p=0:=fun p hp=>Kc.1 h0 _ (List.mem_map.2 ⟨p,hp,rfl⟩)
 have hnd:=zuN hP hz
 refine QI (Qf (Qf (Qk (Qa (zR ?_)))))
 refine ZD rfl rfl (fun r_37=>?_)
 refine Qr zuf rfl rfl (fun b_5=>?_)
 refine zS zq5 ?_
 refine zA (zN (Ql (zR ?_)))
 refine zM ?_
 refine zQ Zz ?_
 refine zM (zN (Qm ?_))
 refine zU [(0,_),(5,_),(38,_),(39,_)] (fun T L0 mz E I' loc'=>∃ (k:Nat) (l:Int) (s:List (Int×Bool)),mz=n-k∧E=(6,.int .i64 l)::(40,.int .i64 k)::T∧I=I'∧[(b_5,.cells #[.map (some r_37)] 167 (0,0)),(r_37,ZR (Value.int .i64) Value.bool s)]=loc'∧k≤n∧(List.range k).all (lsQ ps)=true∧zfV (zpd ps) k l∧∀ x,zaf s x=zal (ps.take k) x) ?_ (h:=⟨0,0,[],rfl,rfl,rfl,rfl,Nat.zero_le _,rfl,⟨fun _=>rfl,fun y hy h=>absurd rfl h⟩,fun x=>rfl⟩)
 rintro mz E I' loc' ⟨k,l,s,rfl,rfl,rfl,rfl,hk,hall,hl,hs⟩
 refine zR (zC (zN (Ql ?_)))
 refine zI ?_ ?_<;>intro hc41
 ·
  have hlt_k:k<n:=by have h:=hc41;simp at h;omega
  have hP1:=hP.1
  obtain ⟨p,hp,hN⟩:=hP.at hlt_k
  have hpm:=List.mem_of_getElem? hp
  have hN:Sl I 1 QR p.a p.n p.c p.needs:=hN
  have hpn:=hnd p hpm
  have hp1:=(zlr (hz p hpm)).1
  refine Qo (Qa (Ql (Qm (zR ?_))))
  refine zV (QF rfl rfl Zz (by assumption) (fun hg=>by omega)) ?_
  refine zV (Qp rfl Yw (fun hg=>by exact zyf hP1 hp) rfl) ?_
  refine Qr K2 rfl rfl (fun b_8=>?_)
  refine zh VN ?_
  refine zN (Ql (zR ?_))
  refine zF Zt ?_
  refine zL Qs ?_
  refine zM ?_
  refine zC ?_
  refine zM ?_
  refine QX 4 rfl rfl rfl ?_
  refine zJ (Qe rfl KR) ?_
  refine zJ (Qd rfl QK (fun hg=>by exact QU.h0 rfl)) ?_
  refine zJ (Zc (us:=[]) (vs:=[_]) rfl rfl) ?_
  refine zjZ (cap:=[]) (vs:=[_,_]) rfl rfl zil QD (fun hg=>zkl.ofV fun I' hI' hL'=>zuv (cap:=[.pointer (some ⟨b_5,0,none⟩)]) (hN.mono hI') hpn zuq (fun x _=>zvY (b:=b_5) (r:=r_37) (s:=s) (hL' b_5 _ (by simp)) (hL' r_37 _ (by simp)) x)) (.some rfl rfl rfl rfl gbf) rfl rfl ?_
  refine ZA rfl rfl rfl rfl rfl ?_
  refine zN ?_
  refine zI ?_ ?_<;>intro hc53
  ·
   have hbad:KV ps=380:=zsW hlen h0 (by rw [←ziV h0];exact JK (k:=k) (by rw [hP.len];exact hlt_k) (by rw [zn0 hp hp1 hl hs];exact congrArg (! ·) hc53))
   refine zR (zA (zN (Qt (Qc (Qn (Qc (Qc ?_)))))))
   refine Qn (Qc ?_)
   exact zp hIc rfl rfl (by rw [hbad])
  refine Qo (Qa ?_)
  have hD:=zye I
  refine Jo ?_
  refine Z7 I [(b_8,.cells (Yz p).toArray 57 (0,0)),(b_5,.cells #[.map (some r_37)] 167 (0,0))] mixed ?_
  refine zT 0 rfl (Qd rfl zh7 (fun hg=>by exact QU.h1 rfl)) hD ?_
  refine zT 1 rfl (Qe rfl Zt) hD ?_
  refine zT 2 rfl (Qd rfl Qs (fun hg=>by exact QU.h0 rfl)) hD ?_
  refine zT 3 rfl (Qe rfl Zt) hD ?_
  refine zT 4 rfl (Qd rfl Qs (fun hg=>by exact QU.h0 rfl)) hD ?_
  refine qd 5 rfl ?_
  refine Q4 (m:=s) (ek:=Value.int .i64) (ev:=Value.bool) (a:=p.id) true Vs ZE rfl rfl rfl rfl (by repeat (first | exact Upd.here | apply Upd.there | apply QJ)) ?_
  refine Qb ?_
  refine zD hD ?_
  refine zT 6 rfl (ZP rfl) hD ?_
  refine QG (by kernel_rfl) ?_
  refine QQ ?_
  refine Qh (Qa (Qg (zB ?_)))
  refine zM (Qb ?_)
  exact zm (h:=⟨n-(k+1),by omega,k+1,_,_,rfl,rfl,rfl,rfl,by omega,V8 hall (by rw [zn0 hp hp1 hl hs];exact congrArg (! ·) hc53),zgb hp,fun x=>by rw [UC,hs,zkW hp]⟩)
 have hge_k:n≤k:=by have h:=hc41;simp at h;omega
 have hls:lsB ps=true:=by rw [←ziV h0,hP.len,show n=k by omega];exact hall
 have hL:Lst ps:=zjn h0 hls
 refine QI (Qf (Qf (Qk (Qa (zR (zM ?_))))))
 refine Qz (cap:=[]) (vs:=[_]) rfl rfl zgH .nil (zaW hP hn hL hnd) rfl rfl ?_
 rintro vv3 I3 L3 hI3 ⟨rfl,r9,rfl,hOn⟩
 have hP:=hP.mono hI3;have hIc:=hIc.trans hI3
 refine zA ?_
 refine zN (zR ?_)
 refine ZD rfl rfl (fun r_62=>?_)
 refine ZD rfl rfl (fun r_63=>?_)
 refine zA ?_
 refine zA (zN (Ql (Ql ?_)))
 refine W0 [(r_63,ZR (Value.int .i64) WI []),(r_62,ZR (Value.int .i64) (Value.int .i64) [])] (by repeat (first | exact U5 | exact .refl | refine .keep ?_ | refine .drop ?_)) ?_
 refine Qg (zM ?_)
 refine zQ Zz ?_
 refine zM (zN (Qm ?_))
 refine zU [(0,_),(9,_),(10,_),(11,_),(64,_),(65,_)] (fun T L0 mz E I' loc'=>∃ (k:Nat) (mi:List (Int×Int)) (mr:List (Int×(Value×Nat×List Value))) (L:Go.Kn.Loc),mz=n-k∧E=(66,.int .i64 k)::T∧I3=I'∧(r_63,ZR (Value.int .i64) WI mr)::(r_62,ZR (Value.int .i64) (Value.int .i64) mi)::L=loc'∧k≤n∧zf8 mi (ps.take k)∧WH mr (ps.take k)∧Vj 3 1 (mr.map (·.2)) L) ?_ (h:=⟨0,[],[],[],rfl,rfl,rfl,rfl,Nat.zero_le _,zf8.nil,WH.nil,Vj.nil⟩)
 rintro mz E I' loc' ⟨k,mi,mr,L,rfl,rfl,rfl,rfl,hk,hmi,hmr,hAll⟩
 refine zR (zC (zN (Ql ?_)))
 refine zI ?_ ?_<;>intro hc67
 ·
  have hlt_k:k<n:=by have h:=hc67;simp at h;omega
  have hP1:=hP.1
  obtain ⟨p,hp,hN⟩:=hP.at hlt_k
  have hpm:=List.mem_of_getElem? hp
  have hN:Sl I3 1 QR p.a p.n p.c p.needs:=hN
  have hpn:=hnd p hpm
  refine Qo (Qa (Ql (Qm (zR ?_))))
  refine zV (QF rfl rfl Zz (by assumption) (fun hg=>by omega)) ?_
  refine zV (Qp rfl Yw (fun hg=>by exact zyf hP1 hp) rfl) ?_
  refine Qr K2 rfl rfl (fun b_13=>?_)
  refine zh VN ?_
  refine zN (zR ?_)
  refine zF Jw ?_
  refine zL Qs ?_
  refine zN (Qm (zR (zC ?_)))
  refine zA (zN ?_)
  refine zI ?_ ?_<;>intro hc72
  ·
   have hk2:p.kind=2:=by simpa using hc72
   refine Ql (zR (zM ?_))
   refine zF Z8 ?_
   refine zL Qs ?_
   refine zV (Kx (m:=mi) (ek:=Value.int .i64) (a:=p.sign) Y5 ZE rfl rfl (fun _=>.inr (by simp))) ?_
   refine zM ?_
   refine zE ?_
   refine zE ?_
   refine zA ?_
   refine zA ?_
   refine zN (zR ?_)
   refine zM (zN ?_)
   refine zI ?_ ?_<;>intro hc81
   ·
    obtain ⟨id,hid⟩:=Option.isSome_iff_exists.1 hc81
    have hbad:KV ps=380:=zgF hlen h0 hls (zoV hL hmi hp hk2 hid)
    refine zR (zA (zN (Qt (Qc (Qn (Qn (Qc ?_)))))))
    refine Qc (Qn (Qc ?_))
    exact zp hIc rfl rfl (by rw [hbad])
   have hnone:Zy mi p.sign=none:=by simpa using hc81
   refine Qo (Qa (Qg (zM ?_)))
   refine zF Z8 ?_
   refine zL Qs ?_
   refine zF Zt ?_
   refine zL Qs ?_
   refine Q4 (m:=mi) (ek:=Value.int .i64) (ev:=Value.int .i64) (a:=p.sign) p.id Y5 ZE rfl rfl rfl rfl (by repeat (first | exact Upd.here | apply Upd.there | apply QJ)) ?_
   refine Qb (Qh (Qh (Qa (Qg (zB ?_)))))
   refine zM (Qb ?_)
   exact zm (h:=⟨n-(k+1),by omega,k+1,_,_,_,rfl,rfl,rfl,rfl,by omega,hmi.put hp hk2 hnone,hmr.skip hp (by omega),hAll⟩)
  have hk2n:p.kind≠2:=by simpa using hc72
  refine zR (zC ?_)
  refine zA (zN ?_)
  refine zI ?_ ?_<;>intro hc87
  ·
   have hk3:p.kind=3:=by simpa using hc87
   obtain ⟨A,Lt,B,rfl,hOt,hset⟩:=hAll.at p.sign
   have hq:=zna hmr hOt
   have hq2:=List.length_take_le k ps
   have hD:=zye I3
   refine Jo ?_
   refine Z7 I3 [(b_13,.cells (Yz p).toArray 57 (0,0))] mixed ?_
   refine zT 0 rfl (Qi rfl) hD ?_
   refine zT 1 rfl (Qe rfl Z8) hD ?_
   refine zT 2 rfl (Qd rfl Qs (fun hg=>by exact QU.h0 rfl)) hD ?_
   refine zT 3 rfl (Qi rfl) hD ?_
   refine zT 4 rfl (Qe rfl Z8) hD ?_
   refine zT 5 rfl (Qd rfl Qs (fun hg=>by exact QU.h0 rfl)) hD ?_
   refine zT 7 rfl (Qe rfl Zt) hD ?_
   refine zT 8 rfl (Qd rfl Qs (fun hg=>by exact QU.h0 rfl)) hD ?_
   refine Zr 6 9 rfl rfl (by kernel_rfl) ?_ ?_
   ·
    refine zV (Vp (m:=mr) (ek:=Value.int .i64) (a:=p.sign) YY ZE rfl rfl (fun _=>.inr (by simp))) ?_
    refine Qb ?_
    refine zD hD ?_
    refine qd 9 rfl ?_
    refine Qq (ps:=[(0,_)]) (m:=[QR p.id]) Zi rfl (.cons rfl (.nil)) rfl (by simp [Qv]) (by decide) (by decide) rfl rfl (fun b_98=>?_)
    refine Qb ?_
    refine zD hD ?_
    refine qd 10 rfl ?_
    refine QY (v:=_) (ys:=[p.id].flatMap QR) (L:=Lt) rfl rfl Zi hOt (by repeat (first | exact .cons .here .nil | exact QD | exact Qw | apply QC | apply QB)) ⟨rfl,fun _=>rfl,zyc⟩ (JG [p.id]) (by omega) rfl rfl ?_
    intro v9 L9 hO9 _
    refine Qb ?_
    refine zD hD ?_
    refine qd 11 rfl ?_
    refine Q4 (m:=mr) (ek:=Value.int .i64) (ev:=WI) (a:=p.sign) (v9,((Zy mr p.sign).getD V7).2.1+1,((Zy mr p.sign).getD V7).2.2++[p.id].flatMap QR) YY ZE rfl rfl rfl rfl (by (repeat (first | exact Upd.here | apply Upd.there | apply QJ))) ?_
    refine Qb ?_
    refine zD hD ?_
    refine QG (by kernel_rfl) ?_
    refine QQ ?_
    refine Qh (Qh (Qa (Qg (zB ?_))))
    refine zM (Qb ?_)
    exact Ji _ _ (L9++((r_63,_)::(r_62,_)::(A++B))) ⟨n-(k+1),by omega,k+1,_,_,A++(L9++B),rfl,rfl,rfl,rfl,by omega,hmi.skip hp hk2n,hmr.put hp hk3,hset (v9,_,_) L9 hO9⟩ (.cons rfl (.cons rfl (.cons rfl (.cons rfl (.cons rfl (.cons rfl (.cons rfl .nil))))))) zhw (by repeat (first | exact .refl | exact Zg | refine Ym ?_ | refine .drop ?_ | refine Z4 ?_))
   refine Qq (ps:=[(0,_)]) (m:=[QR p.id]) Zi rfl (.cons rfl (.nil)) rfl (by simp [Qv]) (by decide) (by decide) rfl rfl (fun b_98=>?_)
   refine Qb ?_
   refine zD hD ?_
   refine qd 6 rfl ?_
   refine zV (Vp (m:=mr) (ek:=Value.int .i64) (a:=p.sign) YY ZE rfl rfl (fun _=>.inr (by simp))) ?_
   refine Qb ?_
   refine zD hD ?_
   refine qd 10 rfl ?_
   refine QY (v:=_) (ys:=[p.id].flatMap QR) (L:=Lt) rfl rfl Zi hOt (by repeat (first | exact .cons .here .nil | exact QD | exact Qw | apply QC | apply QB)) ⟨rfl,fun _=>rfl,zyc⟩ (JG [p.id]) (by omega) rfl rfl ?_
   intro v9 L9 hO9 _
   refine Qb ?_
   refine zD hD ?_
   refine qd 11 rfl ?_
   refine Q4 (m:=mr) (ek:=Value.int .i64) (ev:=WI) (a:=p.sign) (v9,((Zy mr p.sign).getD V7).2.1+1,((Zy mr p.sign).getD V7).2.2++[p.id].flatMap QR) YY ZE rfl rfl rfl rfl (by (repeat (first | exact Upd.here | apply Upd.there | apply QJ))) ?_
   refine Qb ?_
   refine zD hD ?_
   refine QG (by kernel_rfl) ?_
   refine QQ ?_
   refine Qh (Qh (Qa (Qg (zB ?_))))
   refine zM (Qb ?_)
   exact Ji _ _ (L9++((r_63,_)::(r_62,_)::(A++B))) ⟨n-(k+1),by omega,k+1,_,_,A++(L9++B),rfl,rfl,rfl,rfl,by omega,hmi.skip hp hk2n,hmr.put hp hk3,hset (v9,_,_) L9 hO9⟩ (.cons rfl (.cons rfl (.cons rfl (.cons rfl (.cons rfl (.cons rfl (.cons rfl .nil))))))) zhw (by repeat (first | exact .refl | exact Zg | refine Ym ?_ | refine .drop ?_ | refine Z4 ?_))
  have hk3n:p.kind≠3:=by simpa using hc87
  refine Qo (Qh (Qh (Qa (Qg (zB ?_)))))
  refine zM (Qb ?_)
  exact zm (h:=⟨n-(k+1),by omega,k+1,_,_,_,rfl,rfl,rfl,rfl,by omega,hmi.skip hp hk2n,hmr.skip hp hk3n,hAll⟩)
 have hge_k:n≤k:=by have h:=hc67;simp at h;omega
 rw [ZF hP.len hge_k] at hmi hmr
 refine QI (Qf (Qf (Qk (Qa (Ql (Ql ?_))))))
 refine Vo (fun I5 hI5 hb5=>?_)
 have hP:=hP.mono hI5;have hOn:=hOn.mono hI5;have hIc:=hIc.trans hI5
 have hmiI:I5 r_62=some (ZR (Value.int .i64) (Value.int .i64) mi):=hb5 _ _ (by simp)
 have hmrI:I5 r_63=some (ZR (Value.int .i64) WI mr):=hb5 _ _ (by simp)
 have hrem:=znS hmr hAll (fun b o h=>hb5 b o (by simp [h]))
 obtain ⟨m,hm1,hm2⟩:=hOn
 refine Qg (zM ?_)
 refine zQ Zz ?_
 refine zM (zN (Qm ?_))
 refine zU [(9,_),(10,_),(11,_),(101,_),(102,_)] (fun T L0 mz E I' loc'=>∃ (k:Nat),mz=n-k∧E=(103,.int .i64 k)::T∧I5=I'∧[]=loc'∧k≤n∧(ps.take k).all (tgP ps)=true) ?_ (h:=⟨0,rfl,rfl,rfl,rfl,Nat.zero_le _,rfl⟩)
 rintro mz E I' loc' ⟨k,rfl,rfl,rfl,rfl,hk,htg⟩
 refine zR (zC (zN (Ql ?_)))
 refine zI ?_ ?_<;>intro hc104
 ·
  have hlt_k:k<n:=by have h:=hc104;simp at h;omega
  have hP1:=hP.1
  obtain ⟨p,hp,hN⟩:=hP.at hlt_k
  have hpm:=List.mem_of_getElem? hp
  have hN:Sl I5 1 QR p.a p.n p.c p.needs:=hN
  have hpn:=hnd p hpm
  obtain ⟨ref,hget,sn,hsn,hsq⟩:=hm2.get ⟨p,hpm,rfl⟩
  refine Qo (Qa (Ql (Qm (zR ?_))))
  refine zV (QF rfl rfl Zz (by assumption) (fun hg=>by omega)) ?_
  refine zV (Qp rfl Yw (fun hg=>by exact zyf hP1 hp) rfl) ?_
  refine Qr K2 rfl rfl (fun b_17=>?_)
  refine zh VN ?_
  refine zN (Ql (zR (zM ?_)))
  refine zF Z8 ?_
  refine zL Qs ?_
  refine zV (Kx (m:=mi) (ek:=Value.int .i64) (a:=p.sign) Y5 ZE rfl rfl (fun _=>.inl hmiI)) ?_
  refine zM ?_
  refine zE ?_
  refine zE ?_
  refine zA ?_
  refine zA ?_
  refine zN (zR ?_)
  refine zM ?_
  refine zM ?_
  refine QE 1 rfl rfl rfl ?_
  refine zK (Qe rfl Zt) ?_
  refine zK (Qd rfl Qs (fun hg=>by exact QU.h0 rfl)) ?_
  refine zK (Qi rfl) ?_
  refine zK (QH rfl rfl rfl) ?_
  refine QP rfl rfl rfl rfl rfl ?_
  refine zM ?_
  refine QE 7 rfl rfl rfl ?_
  refine zK (Qi rfl) ?_
  refine zK (Qe rfl Zt) ?_
  refine zK (Qd rfl Qs (fun hg=>by exact QU.h0 rfl)) ?_
  refine zK (YG (m:=m) (ek:=Value.int .i64) (ev:=zb3) (a:=p.id) hget Ks ZE rfl rfl (fun _=>.inl hm1)) ?_
  refine zK (Qi rfl) ?_
  refine zK (Ye (m:=sn) Vs ZE rfl rfl (fun _=>.inl hsn)) ?_
  refine zK (Vy rfl) ?_
  refine QP rfl rfl rfl rfl rfl ?_
  refine zN ?_
  refine zI ?_ ?_<;>intro hc129
  ·
   have hA:=hc129
   simp only [show ∀ x,(Zy sn x).getD false=onF ps p.id x from fun x=>hsq.mem x] at hA
   have hbad:KV ps=380:=zgF hlen h0 hls (by rw [zj2 hL hmi];exact zjv hp (by unfold tgP;rw [←zn8 hmi,hA];rfl))
   refine zR (zA (zN (Qt (Qc (Qn (Qc (Qc ?_)))))))
   refine Qn (Qc ?_)
   exact zp hIc rfl rfl (by rw [hbad])
  have hA:=hc129
  simp only [show ∀ x,(Zy sn x).getD false=onF ps p.id x from fun x=>hsq.mem x] at hA
  refine Qo (Qa (Ql ?_))
  obtain ⟨av2,c2,hv2,hS2⟩:=hrem p.sign
  have hk3l:=XV (c:=3) (ps:=ps) (s:=p.sign)
  have hpl:=hP.len
  refine Qg (zM ?_)
  refine zF Z8 ?_
  refine zL Qs ?_
  refine zV (YB (m:=mr) (ek:=Value.int .i64) (a:=p.sign) hv2 YY ZE rfl rfl (fun _=>.inl hmrI)) ?_
  refine zQ Qy ?_
  refine zM (zN (Qm ?_))
  refine zU [(9,_),(10,_),(11,_),(17,_),(101,_),(102,_),(103,_),(133,_),(134,_)] (fun T L0 mz E I' loc'=>∃ (j:Nat),mz=(V2 3 ps p.sign).length-j∧E=(135,.int .i64 j)::T∧I5=I'∧[(b_17,.cells (Yz p).toArray 57 (0,0))]=loc'∧j≤(V2 3 ps p.sign).length∧((V2 3 ps p.sign).take j).any (onF ps p.id)=false) ?_ (h:=⟨0,rfl,rfl,rfl,rfl,Nat.zero_le _,rfl⟩)
  rintro mz E I' loc' ⟨j,rfl,rfl,rfl,rfl,hj,hno⟩
  refine zR (zC (zN (Ql ?_)))
  refine zI ?_ ?_<;>intro hc136
  ·
   have hlt_j:j<(V2 3 ps p.sign).length:=by have h:=hc136;simp at h;omega
   obtain ⟨y,hy⟩:=hS2.at hlt_j
   refine Qo (Qa (Ql (Qm (zR ?_))))
   refine zV (QF rfl rfl Qy (by assumption) (fun hg=>by omega)) ?_
   refine zV (Qd rfl Qs (fun hg=>by exact zx7 hS2 hy rfl)) ?_
   refine zA ?_
   refine zN (zR ?_)
   refine zM ?_
   refine zF Zt ?_
   refine zL Qs ?_
   refine zV (YG (m:=m) (ek:=Value.int .i64) (ev:=zb3) (a:=p.id) hget Ks ZE rfl rfl (fun _=>.inl hm1)) ?_
   refine zM ?_
   refine zV (Ye (m:=sn) Vs ZE rfl rfl (fun _=>.inl hsn)) ?_
   refine zN ?_
   refine zI ?_ ?_<;>intro hc144
   ·
    have hon:=hc144
    simp only [show ∀ x,(Zy sn x).getD false=onF ps p.id x from fun x=>hsq.mem x] at hon
    have hbad:KV ps=380:=zgF hlen h0 hls (by rw [zj2 hL hmi];exact zjv hp (by unfold tgP;rw [JY hy hon,Bool.or_true];rfl))
    refine zR (zA (zN (Qt (Qn (Qc (Qc (Qn ?_)))))))
    refine Qn (Qc (Qc (Qn (Qc ?_))))
    exact zp hIc rfl rfl (by rw [hbad])
   have hon:=hc144
   simp only [show ∀ x,(Zy sn x).getD false=onF ps p.id x from fun x=>hsq.mem x] at hon
   refine Qo (Qh (Qa (Qg (zB ?_))))
   refine zM (Qb ?_)
   exact zm (h:=⟨(V2 3 ps p.sign).length-(j+1),by omega,j+1,rfl,rfl,rfl,rfl,by omega,YX hy hno hon⟩)
  have hge_j:(V2 3 ps p.sign).length≤j:=by have h:=hc136;simp at h;omega
  rw [ZF rfl hge_j] at hno
  have htp:tgP ps p=true:=by unfold tgP;rw [←zn8 hmi,hA,hno];rfl
  refine QI (Qf (Qf (Qk (Qh (Qa (Qg (zB ?_)))))))
  refine zM (Qb ?_)
  exact zm (h:=⟨n-(k+1),by omega,k+1,rfl,rfl,rfl,rfl,by omega,ziM hp htg htp⟩)
 have hge_k:n≤k:=by have h:=hc104;simp at h;omega
 have htog:zjr ps=true:=by rw [zj2 hL hmi];rw [ZF hP.len hge_k] at htg;exact htg
 refine QI (Qf (Qf (Qk (Qa (zR (zA (zN ?_)))))))
 refine Qt ?_
 exact zp hIc rfl rfl (by rw [zvi hlen h0 hls htog])
end
section
open Go Go.Kn Go.Proofs
def zmu (e:Int)(xs:List Int):Value→Qu→Go.Kn.Loc→Prop:=fun v I' L=>L=[]∧∃ av c,v= .tuple #[.slice av xs.length c,.int .i64 e]∧Sl I' 1 QR av xs.length c xs
theorem zmu.empty {e:Int}{xs:List Int}{I:Qu}(h:xs=[]):zmu e xs (.tuple #[.slice none 0 0,.int .i64 e]) I []:=by
 subst h
 exact ⟨rfl,none,0,rfl,.nil⟩
theorem zmu.good {e e':Int}{xs ys:List Int}{I:Qu}{av:Option Addr}{n c:Nat}(h:e=e')(hx:ys=xs)(hS:Sl I 1 QR av n c ys):zmu e' xs (.tuple #[.slice av n c,.int .i64 e]) I []:=by
 subst h;subst hx
 have hn:=hS.len
 subst hn
 exact ⟨rfl,av,c,rfl,hS⟩
def clE (ps:List Pt)(ids:List Int):Int:=if ids.length>512 then 2 else if chB ps ids then 0 else 380
theorem zt0 {ps:List Pt}{ids:List Int}(h:ids.length>512):clE ps ids=2:=by unfold clE;rw [if_pos h]
theorem zph {ps:List Pt}{ids:List Int}(h:¬ids.length>512)(h2:chB ps ids=false):clE ps ids=380:=by unfold clE;rw [if_neg h,h2];rfl
theorem zvn {ps:List Pt}{ids:List Int}(h:¬ids.length>512)(h2:chB ps ids=true):clE ps ids=0:=by unfold clE;rw [if_neg h,h2];rfl
theorem zuR {ps:List Pt}{ids:List Int}(h:zo8 ids=false):chB ps ids=false:=by unfold chB;rw [h];rfl
theorem ztc {ps:List Pt}{ids:List Int}{k:Nat}{x:Int}(hx:ids[k]? =some x)(h:zal ps x=false):chB ps ids=false:=by unfold chB;rw [zjv hx h,Bool.and_false]
theorem zuD {ps:List Pt}{ids:List Int}(h:zo8 ids=true)(h2:ids.all (zal ps)=true):chB ps ids=true:=by unfold chB;rw [h,h2];rfl
def zd6 (ps:List Pt)(ids:List Int)(k:Nat)(zs:List Int)(S:Int→Bool):Prop:=∀ x,x∈zs↔(x∈ids∨∃ n∈ids.take k,onF ps n x=true)∨S x=true
theorem zd6.start {ps:List Pt}{ids:List Int}:zd6 ps ids 0 ids (fun _=>false):=fun x=>by simp
theorem zd6.put {ps:List Pt}{ids zs:List Int}{k:Nat}{S S':Int→Bool}{a:Int}(h:zd6 ps ids k zs S)(e:∀ x,S' x=(decide (a=x)||S x)):zd6 ps ids k (zs++[a]) S':=fun x=>by
 rw [List.mem_append,h x,e x]
 simp only [List.mem_singleton,Bool.or_eq_true,decide_eq_true_eq]
 constructor
 ·
  rintro (h | h)
  ·
   rcases h with h | h
   ·
    exact .inl h
   ·
    exact .inr (.inr h)
  ·
   exact .inr (.inl h.symm)
 ·
  rintro (h | h | h)
  ·
   exact .inl (.inl h)
  ·
   exact .inr h.symm
  ·
   exact .inl (.inr h)
theorem zd6.next {ps:List Pt}{ids zs:List Int}{k:Nat}{S:Int→Bool}{n:Int}(h:zd6 ps ids k zs S)(hn:ids[k]? =some n)(e:∀ x,S x=onF ps n x):zd6 ps ids (k+1) zs (fun _=>false):=fun x=>by
 rw [h x,e x,Z3 hn]
 simp only [List.mem_append,List.mem_singleton,Bool.false_eq_true,or_false]
 constructor
 ·
  rintro (h | h)
  ·
   rcases h with h | ⟨m,hm,h⟩
   ·
    exact .inl h
   ·
    exact .inr ⟨m,.inl hm,h⟩
  ·
   exact .inr ⟨n,.inr rfl,h⟩
 ·
  rintro (h | ⟨m,hm | rfl,h⟩)
  ·
   exact .inl (.inl h)
  ·
   exact .inl (.inr ⟨m,hm,h⟩)
  ·
   exact .inr h
theorem zd6.congr {ps:List Pt}{ids zs:List Int}{k:Nat}{S S':Int→Bool}(h:zd6 ps ids k zs S)(e:∀ x,S x=S' x):zd6 ps ids k zs S':=fun x=>by rw [h x,e x]
theorem zlh {ps:List Pt}{ids zs:List Int}{n:Nat}(hL:Lst ps)(h:zd6 ps ids n zs (fun _=>false))(hn:ids.length=n)(hall:ids.all (zal ps)=true):Lib.compact (YC (zs++[]))=zei ps ids:=by
 rw [List.append_nil]
 refine zce (KX hL ids) fun x=>?_
 rw [h x,Wy,←hn,List.take_length]
 simp only [Bool.false_eq_true,or_false]
 constructor
 ·
  rintro (hx | ⟨m,hm,ho⟩)
  ·
   exact ⟨VR.1 (List.all_eq_true.1 hall x hx),x,hx,.inl rfl⟩
  ·
   exact ⟨(hL.on_lt ho).2,m,hm,.inr ho⟩
 ·
  rintro ⟨_,m,hm,rfl | ho⟩
  ·
   exact .inl hm
  ·
   exact .inr ⟨m,hm,ho⟩
theorem zuX {ps:List Pt}(hL:Lst ps){a:Int}{sn:List (Int×Bool)}(h:X7 sn (onF ps a)):sn.length≤ps.length:=by
 have:=List.Nodup.length_le_of_subset h.nodup (l₂:=zpd ps) (fun x hx=>by
  obtain ⟨_,q,hq,e⟩:=hL.on_lt (h.key.2 hx)
  exact List.mem_map.2 ⟨q,hq,e⟩)
 simpa [zpd] using this
theorem OnL.hit {I:Qu}{m:List (Int×Nat)}{ps:List Pt}(h:OnL I m ps){a:Int}{ref:Nat}(hg:Zy m a=some ref):zal ps a=true∧OnS I ref (onF ps a):=by
 have hm:=KT hg
 refine ⟨?_,h.2 _ hm⟩
 have hk:a∈m.map (·.1):=List.mem_map.2 ⟨_,hm,rfl⟩
 rw [h.1] at hk
 obtain ⟨q,hq,e⟩:=List.mem_map.1 hk
 exact VR.2 ⟨q,hq,e⟩
theorem OnL.miss {I:Qu}{m:List (Int×Nat)}{ps:List Pt}(h:OnL I m ps){a:Int}(hg:Zy m a=none):zal ps a=false:=by
 cases hh:zal ps a with
 | false=>rfl
 | true=>
  obtain ⟨ref,h1,_⟩:=h.get (VR.1 hh)
  rw [hg] at h1;cases h1
def vrE (ps:List Pt)(v:List Int):Int:=if v.length>512 then 2 else if zkm ps v then 0 else 380
theorem ztn {ps:List Pt}(hL:Lst ps){v:List Int}{w:Int}(h:w=(zlY (clE ps v) (zei ps v)).length):(if ((clE ps v==0)&&(w != (v.length:Int)))=true then 380 else clE ps v)=vrE ps v:=by
 unfold vrE
 by_cases h1:v.length>512
 ·
  rw [if_pos h1,zt0 h1];rfl
 ·
  rw [if_neg h1]
  cases hc:chB ps v with
  | false=>
   rw [zph h1 hc]
   unfold zkm
   rw [hc];rfl
  | true=>
   rw [zvn h1 hc,zj6 rfl] at*
   have h2:=zpc hL hc
   subst h
   cases hv:zkm ps v with
   | true=>
    rw [hv] at h2
    simp at h2
    simp [h2]
   | false=>
    rw [hv] at h2
    simp at h2
    rw [if_pos]
    ·
     rfl
    ·
     simp;omega
theorem zmO {ps:List Pt}{v:List Int}(h:vrE ps v=0):zkm ps v=true:=by
 unfold vrE at h
 split at h
 ·
  cases h
 ·
  split at h
  ·
   assumption
  ·
   cases h
theorem zc7 (x:Nat×Obj)(L:Go.Kn.Loc):(x::L).Perm (L++[x]):=(List.perm_append_comm (l₁:=L) (l₂:=[x])).symm
end
end Go.Proofs.YtodakphagkommaaGreatDoor.R
