/- partiesWorld_holds, part G of the proof: what its theorems say holds without further conditions. -/
import Derived.Lib.Bytealg
import Derived.Test.YtjblkbkmblkgoaaGreatPXF
namespace Go.Proofs.YtjblkbkmblkgoaaGreat
section
open Go Go.Kn Go.Proofs
set_option maxRecDepth 100000 in
theorem zuO (I:Qu) (x:Nt):Vs Tryz.prog 102 [Ke x] I [] (fun v I' L'=>L'=[]∧∃ a c,v= .slice a 42 c∧Sl I' 1 Z5 a 42 c (YS x)):=by
 intro g H w hw
 refine qe Tryz.func102 Tryz.ntmps102 hw ?_
 have hIc:=zz4 I
 refine zR ?_
 refine QO rfl rfl rfl (fun b_1=>?_)
 refine zA (Qb ?_)
 refine QF .here (fun I1 hI1 hb1=>?_)
 have hIc:=hIc.trans hI1
 have h1:=BxI.of hb1
 refine Qd (zR ?_)
 refine zF YD ?_
 refine zV (Qg rfl V7 (fun hg=>by exact zbw (BxI.cells (vs:=Q4 x) h1)) rfl) ?_
 refine Qr ze2 rfl rfl (fun b_3=>?_)
 refine zh zad ?_
 refine Qb ?_
 refine QF .here (fun I2 hI2 hb2=>?_)
 have h1:=h1.mono hI2;have hIc:=hIc.trans hI2
 have h3:=BxI.of hb2
 refine Qd (zR ?_)
 refine zF ZZ ?_
 refine zV (Qg rfl Y3 (fun hg=>by exact XG (BxI.cells (vs:=Q4 x) h1)) rfl) ?_
 refine Qr zcb rfl rfl (fun b_4=>?_)
 refine zh UI ?_
 refine Qb ?_
 refine QF .here (fun I3 hI3 hb3=>?_)
 have h1:=h1.mono hI3;have h3:=h3.mono hI3;have hIc:=hIc.trans hI3
 have h4:=BxI.of hb3
 refine Qd (zR ?_)
 refine zF YC ?_
 refine zV (Qg rfl ZC (fun hg=>by exact ziY (BxI.cells (vs:=KY x.pt) h4)) rfl) ?_
 refine Qr ziN rfl rfl (fun b_5=>?_)
 refine zh Jj ?_
 refine Qb ?_
 refine QF .here (fun I4 hI4 hb4=>?_)
 have h1:=h1.mono hI4;have h3:=h3.mono hI4;have h4:=h4.mono hI4;have hIc:=hIc.trans hI4
 have h5:=BxI.of hb4
 refine Qd (zR ?_)
 refine zF Y7 ?_
 refine zV (Qg rfl VX (fun hg=>by exact zcc (BxI.cells (vs:=Q4 x) h1)) rfl) ?_
 refine Qr zgs rfl rfl (fun b_6=>?_)
 refine zh zbP ?_
 refine Qb ?_
 refine QF .here (fun I5 hI5 hb5=>?_)
 have h1:=h1.mono hI5;have h3:=h3.mono hI5;have h4:=h4.mono hI5;have h5:=h5.mono hI5;have hIc:=hIc.trans hI5
 have h6:=BxI.of hb5
 refine Qd (zR ?_)
 refine zF Z0 ?_
 refine zV (Qg rfl Ys (fun hg=>by exact zbs (BxI.cells (vs:=Q4 x) h1)) rfl) ?_
 refine Qr zaw rfl rfl (fun b_7=>?_)
 refine zh UC ?_
 refine Qb ?_
 refine QF .here (fun I6 hI6 hb6=>?_)
 have h1:=h1.mono hI6;have h3:=h3.mono hI6;have h4:=h4.mono hI6;have h5:=h5.mono hI6;have h6:=h6.mono hI6;have hIc:=hIc.trans hI6
 have h7:=BxI.of hb6
 refine Qd (zR ?_)
 refine zF Yg ?_
 refine zV (Qc rfl Qm (fun hg=>by exact QA.imm h1.out rfl)) ?_
 refine zF Ye ?_
 refine zV (Qc rfl Qm (fun hg=>by exact QA.imm h3.out rfl)) ?_
 refine zF V2 ?_
 refine zV (Qc rfl Qm (fun hg=>by exact QA.imm h3.out rfl)) ?_
 refine zF YM ?_
 refine zV (Qc rfl Qm (fun hg=>by exact QA.imm h3.out rfl)) ?_
 refine zF Wd ?_
 refine zV (Qc rfl Qm (fun hg=>by exact QA.imm h3.out rfl)) ?_
 refine zF KK ?_
 refine zV (Qc rfl Qm (fun hg=>by exact QA.imm h3.out rfl)) ?_
 refine zF Kb ?_
 refine zV (Qc rfl Qm (fun hg=>by exact QA.imm h3.out rfl)) ?_
 refine zF JF ?_
 refine zF Xf ?_
 refine zV (Qc rfl Qm (fun hg=>by exact QA.imm h3.out rfl)) ?_
 refine zF JF ?_
 refine zF JC ?_
 refine zV (Qc rfl Qm (fun hg=>by exact QA.imm h3.out rfl)) ?_
 refine zF JF ?_
 refine zF J6 ?_
 refine zV (Qc rfl Qm (fun hg=>by exact QA.imm h3.out rfl)) ?_
 refine zpb [(0,_),(1,_),(2,_),(3,_),(4,_),(5,_),(6,_),(7,_),(8,_),(9,_)] [Z5 x.kind,Z5 x.lm.no,Z5 x.lm.person,Z5 x.lm.ends,Z5 x.lm.lo,Z5 x.lm.hi,Z5 x.lm.known,Z5 x.lm.ck,Z5 x.lm.cl,Z5 x.lm.cn] Vb (fun b_42=>?_)
 refine zA ?_
 refine zN (zR ?_)
 refine zM ?_
 refine zF ZJ ?_
 refine zV (Qc rfl Qm (fun hg=>by exact QA.imm h4.out rfl)) ?_
 refine zF JH ?_
 refine zV (Qc rfl Qm (fun hg=>by exact QA.imm h4.out rfl)) ?_
 refine zF Yq ?_
 refine zV (Qc rfl Qm (fun hg=>by exact QA.imm h4.out rfl)) ?_
 refine zF Yr ?_
 refine zV (Qc rfl Qm (fun hg=>by exact QA.imm h4.out rfl)) ?_
 refine zF Jv ?_
 refine zV (Qc rfl Qm (fun hg=>by exact QA.imm h5.out rfl)) ?_
 refine zF Uy ?_
 refine zV (Qc rfl Qm (fun hg=>by exact QA.imm h5.out rfl)) ?_
 refine zF Ux ?_
 refine zV (Qc rfl Qm (fun hg=>by exact QA.imm h5.out rfl)) ?_
 refine zF Uk ?_
 refine zV (Qc rfl Qm (fun hg=>by exact QA.imm h5.out rfl)) ?_
 refine zF zaE ?_
 refine zV (Qc rfl Qm (fun hg=>by exact QA.imm h5.out rfl)) ?_
 refine zF Ul ?_
 refine zV (Qc rfl Qm (fun hg=>by exact QA.imm h5.out rfl)) ?_
 refine zF Um ?_
 refine zV (Qc rfl Qm (fun hg=>by exact QA.imm h5.out rfl)) ?_
 refine zF Ur ?_
 refine zV (Qc rfl Qm (fun hg=>by exact QA.imm h5.out rfl)) ?_
 refine zF UA ?_
 refine zV (Qc rfl Qm (fun hg=>by exact QA.imm h5.out rfl)) ?_
 refine zF Up ?_
 refine zV (Qc rfl Qm (fun hg=>by exact QA.imm h5.out rfl)) ?_
 refine zF V8 ?_
 refine zF YP ?_
 refine zV (Qc rfl Qm (fun hg=>by exact QA.imm h5.out rfl)) ?_
 refine zF V8 ?_
 refine zF Y6 ?_
 refine zV (Qc rfl Qm (fun hg=>by exact QA.imm h5.out rfl)) ?_
 refine zF Je ?_
 refine zF YP ?_
 refine zV (Qc rfl Qm (fun hg=>by exact QA.imm h5.out rfl)) ?_
 refine zF Je ?_
 refine zF Y6 ?_
 refine zV (Qc rfl Qm (fun hg=>by exact QA.imm h5.out rfl)) ?_
 refine zpb [(0,_),(1,_),(2,_),(3,_),(4,_),(5,_),(6,_),(7,_),(8,_),(9,_),(10,_),(11,_),(12,_),(13,_),(14,_),(15,_),(16,_),(17,_)] [Z5 x.pt.id,Z5 x.pt.kind,Z5 x.pt.sign,Z5 x.pt.field,Z5 x.pt.nw.id,Z5 x.pt.nw.role,Z5 x.pt.nw.bar,Z5 x.pt.nw.mark,Z5 x.pt.nw.kind,Z5 x.pt.nw.side,Z5 x.pt.nw.dir,Z5 x.pt.nw.level,Z5 x.pt.nw.size,Z5 x.pt.nw.wth,Z5 x.pt.nw.fn,Z5 x.pt.nw.fd,Z5 x.pt.nw.tn,Z5 x.pt.nw.td] Vb (fun b_84=>?_)
 refine zpa (_) (([x.pt.id,x.pt.kind,x.pt.sign,x.pt.field,x.pt.nw.id,x.pt.nw.role,x.pt.nw.bar,x.pt.nw.mark,x.pt.nw.kind,x.pt.nw.side,x.pt.nw.dir,x.pt.nw.level,x.pt.nw.size,x.pt.nw.wth,x.pt.nw.fn,x.pt.nw.fd,x.pt.nw.tn,x.pt.nw.td]:List Int).flatMap Z5) ([(b_42,_)]) rfl rfl Vb (zzv [x.kind,x.lm.no,x.lm.person,x.lm.ends,x.lm.lo,x.lm.hi,x.lm.known,x.lm.ck,x.lm.cl,x.lm.cn] rfl rfl kD) ⟨rfl,fun _=>rfl,by repeat (first | exact zz2 | apply zz1 | apply zz3)⟩ (zbn [x.pt.id,x.pt.kind,x.pt.sign,x.pt.field,x.pt.nw.id,x.pt.nw.role,x.pt.nw.bar,x.pt.nw.mark,x.pt.nw.kind,x.pt.nw.side,x.pt.nw.dir,x.pt.nw.level,x.pt.nw.size,x.pt.nw.wth,x.pt.nw.fn,x.pt.nw.fd,x.pt.nw.tn,x.pt.nw.td]) ?_
 intro v2 L2 hO2 _;rw [←List.flatMap_append] at hO2
 refine zA ?_
 refine zN (zR ?_)
 refine zM ?_
 refine zF VP ?_
 refine zV (Qc rfl Qm (fun hg=>by exact QA.imm h6.out rfl)) ?_
 refine zF za5 ?_
 refine zV (Qc rfl Qm (fun hg=>by exact QA.imm h6.out rfl)) ?_
 refine zF za7 ?_
 refine zV (Qc rfl Qm (fun hg=>by exact QA.imm h6.out rfl)) ?_
 refine zF zaR ?_
 refine zV (Qc rfl Qm (fun hg=>by exact QA.imm h6.out rfl)) ?_
 refine zF zaO ?_
 refine zV (Qc rfl Qm (fun hg=>by exact QA.imm h6.out rfl)) ?_
 refine zpb [(0,_),(1,_),(2,_),(3,_),(4,_)] [Z5 x.ls.no,Z5 x.ls.person,Z5 x.ls.version,Z5 x.ls.at_,Z5 x.ls.known] Vb (fun b_97=>?_)
 refine zpa (_) (([x.ls.no,x.ls.person,x.ls.version,x.ls.at_,x.ls.known]:List Int).flatMap Z5) (L2) rfl rfl Vb hO2 ⟨rfl,fun _=>rfl,by repeat (first | exact zz2 | apply zz1 | apply zz3)⟩ (zbn [x.ls.no,x.ls.person,x.ls.version,x.ls.at_,x.ls.known]) ?_
 intro v3 L3 hO3 _;rw [←List.flatMap_append] at hO3
 refine zA ?_
 refine zN (zR ?_)
 refine zM ?_
 refine zF Yp ?_
 refine zV (Qc rfl Qm (fun hg=>by exact QA.imm h7.out rfl)) ?_
 refine zF VJ ?_
 refine zV (Qc rfl Qm (fun hg=>by exact QA.imm h7.out rfl)) ?_
 refine zF Jw ?_
 refine zV (Qc rfl Qm (fun hg=>by exact QA.imm h7.out rfl)) ?_
 refine zF Kd ?_
 refine zV (Qc rfl Qm (fun hg=>by exact QA.imm h7.out rfl)) ?_
 refine zF Kc ?_
 refine zV (Qc rfl Qm (fun hg=>by exact QA.imm h7.out rfl)) ?_
 refine zF Y5 ?_
 refine zV (Qc rfl Qm (fun hg=>by exact QA.imm h7.out rfl)) ?_
 refine zF Ka ?_
 refine zV (Qc rfl Qm (fun hg=>by exact QA.imm h7.out rfl)) ?_
 refine zF JG ?_
 refine zV (Qc rfl Qm (fun hg=>by exact QA.imm h7.out rfl)) ?_
 refine zF YA ?_
 refine zV (Qc rfl Qm (fun hg=>by exact QA.imm h7.out rfl)) ?_
 refine zpb [(0,_),(1,_),(2,_),(3,_),(4,_),(5,_),(6,_),(7,_),(8,_)] [Z5 x.rt.no,Z5 x.rt.kind,Z5 x.rt.edition,Z5 x.rt.holder,Z5 x.rt.sign,Z5 x.rt.ends,Z5 x.rt.lo,Z5 x.rt.hi,Z5 x.rt.known] Vb (fun b_118=>?_)
 refine zpa (_) (([x.rt.no,x.rt.kind,x.rt.edition,x.rt.holder,x.rt.sign,x.rt.ends,x.rt.lo,x.rt.hi,x.rt.known]:List Int).flatMap Z5) (L3) rfl rfl Vb hO3 ⟨rfl,fun _=>rfl,by repeat (first | exact zz2 | apply zz1 | apply zz3)⟩ (zbn [x.rt.no,x.rt.kind,x.rt.edition,x.rt.holder,x.rt.sign,x.rt.ends,x.rt.lo,x.rt.hi,x.rt.known]) ?_
 intro v4 L4 hO4 _;rw [←List.flatMap_append] at hO4
 refine zA (Qb ?_)
 refine zx4 hO4 YJ (fun I7 hI7 af7 cf7 ef7 hZ=>?_)
 subst ef7
 have hIc:=hIc.trans hI7
 refine Qd (Qs ?_)
 exact Qy rfl rfl (fun w hw=>⟨_,I7,[],rfl,hIc,hw.subL QC,rfl,_,_,rfl,hZ⟩)
end
section
open Go Go.Kn Go.Proofs
theorem zs7:Fun Tryz.prog 102:=.of Tryz.func102 kA kA
theorem zdw:Fun Tryz.prog 103:=.of Tryz.func103 kA kA
theorem zbt:Fun Tryz.prog 104:=.of Tryz.func104 kA kA
theorem zdB:Fun Tryz.prog 105:=.of Tryz.func105 kA kA
set_option maxRecDepth 100000 in
theorem zas {I:Qu} (x:Nt) (hN:Nd I x.pt) (hnn:x.pt.n≤100000) (hok:Va.ok (KF x)) (hb:(KA x).length≤900000):Vs Tryz.prog 43 [Ke x] I [] (YQ (KA x)):=by
 intro g H w hw
 refine qe Tryz.func43 Tryz.ntmps43 hw ?_
 have hIc:=zz4 I
 have hnl:x.pt.needs.length=x.pt.n:=hN.len
 refine zR ?_
 refine QO rfl rfl rfl (fun b_1=>?_)
 refine zA (Qb ?_)
 refine QF .here (fun I1 hI1 hb1=>?_)
 have hN:=hN.mono hI1;have hIc:=hIc.trans hI1
 have h1:=BxI.of hb1
 refine Qd (zR ?_)
 refine zV (QI (ps:=[(0,_)]) [_,_,_,_] KV rfl rfl) ?_
 refine Qr YR rfl rfl (fun b_3=>?_)
 refine zh ZD ?_
 refine zN (zR ?_)
 refine zV (Qg rfl Q7 (fun hg=>by exact BxI.cells (vs:=Q4 x) h1) rfl) ?_
 refine zpc [_] rfl zs7 .nil (zuO _ x) ?_
 rintro vv2 I2 L2 hI2 ⟨rfl,an,cn,rfl,hNu⟩
 have hN:=hN.mono hI2;have h1:=h1.mono hI2;have hIc:=hIc.trans hI2
 refine zA (zN (Qo (zR ?_)))
 refine zA (zN (Qx ?_))
 refine zU [(1,_),(3,_),(4,_)] (fun T L0 mz E I' loc'=>∃ (k:Nat) (v:Value) (L:Go.Kn.Loc),mz=42-k∧E=(5,.int .i64 k)::T∧I2=I'∧L++[(b_3,.cells #[.int .i64 3,.int .i64 0,.string ⟨#[]⟩,v] 158 (0,0))]=loc'∧k≤42∧ZW 158 4 v k ((((YS x).take k).map vcI).flatMap Za) L) ?_ (h:=⟨0,_,[],rfl,rfl,rfl,rfl,Nat.zero_le _,ZW.nil⟩)
 rintro mz E I' loc' ⟨k,v,L,rfl,rfl,rfl,rfl,hk,hO⟩
 refine Qo (zR (zM ?_))
 refine zM ?_
 refine zQ ZF ?_
 refine zC (zN ?_)
 refine zI ?_ ?_<;>intro hc16
 ·
  have hlt_k:k<42:=by have h:=hc16;simp at h;omega
  obtain ⟨y,hy⟩:∃ y,(YS x)[k]? =some y:=⟨_,List.getElem?_eq_getElem (by rw [YK];omega)⟩
  refine Qp (Qd (Qo (Qx ?_)))
  have hD:=zz4 I2
  refine Zn ?_
  refine QL I2 [] mixed ?_
  refine zT 0 rfl (Qa rfl QV) hD ?_
  refine zT 2 rfl (Qe rfl) hD ?_
  refine zT 3 rfl (Qe rfl) hD ?_
  refine zT 4 rfl (zX ZF hNu) hD ?_
  refine zT 5 rfl (Qc rfl Qm (fun hg=>by exact zzX hNu hy rfl)) hD ?_
  refine QS 1 6 rfl rfl kA ?_ ?_
  ·
   refine zV (Qc rfl Zr (fun hg=>by exact zz0 (QA.h0 rfl))) ?_
   refine Qb ?_
   refine zD hD ?_
   refine qd 6 rfl ?_
   refine qcV (vs:=[_]) rfl zdw (zgN _ _) ?_
   refine Qb ?_
   refine zD hD ?_
   refine qd 7 rfl ?_
   refine zpb [(0,_)] [Za (vcI y)] Zy (fun b_26=>?_)
   refine Qb ?_
   refine zD hD ?_
   refine qd 8 rfl ?_
   refine zpa (_) (([vcI y]:List Vc).flatMap Za) (L) rfl rfl Zy hO ⟨rfl,fun _=>rfl,by repeat (first | exact zz2 | apply zz1 | apply zz3)⟩ (Jb [vcI y]) ?_
   intro v2 L2 hO2 _;rw [←List.flatMap_append] at hO2;obtain ⟨a2,c2,rfl⟩:=hO2.shape
   refine Qb ?_
   refine zD hD ?_
   refine zT 9 rfl (Qa rfl QV) hD ?_
   refine qd 10 rfl ?_
   refine zS Y8 ?_
   refine Qb ?_
   refine zD hD ?_
   refine Ql kA ?_
   refine Qt ?_
   refine Qj (Qd (Qi (zM ?_)))
   refine zB ?_
   refine zA (Qb ?_)
   exact zm (h:=⟨42-(k+1),kB,k+1,_,_,rfl,rfl,rfl,rfl,kB,by rw [Zd hy,List.map_append];exact hO2⟩)
  refine qcV (vs:=[_]) rfl zdw (zgN _ _) ?_
  refine Qb ?_
  refine zD hD ?_
  refine QS 1 7 rfl rfl kA ?_ ?_
  ·
   refine zV (Qc rfl Zr (fun hg=>by exact zz0 (QA.h0 rfl))) ?_
   refine Qb ?_
   refine zD hD ?_
   refine qd 7 rfl ?_
   refine zpb [(0,_)] [Za (vcI y)] Zy (fun b_26=>?_)
   refine Qb ?_
   refine zD hD ?_
   refine qd 8 rfl ?_
   refine zpa (_) (([vcI y]:List Vc).flatMap Za) (L) rfl rfl Zy hO ⟨rfl,fun _=>rfl,by repeat (first | exact zz2 | apply zz1 | apply zz3)⟩ (Jb [vcI y]) ?_
   intro v2 L2 hO2 _;rw [←List.flatMap_append] at hO2;obtain ⟨a2,c2,rfl⟩:=hO2.shape
   refine Qb ?_
   refine zD hD ?_
   refine zT 9 rfl (Qa rfl QV) hD ?_
   refine qd 10 rfl ?_
   refine zS Y8 ?_
   refine Qb ?_
   refine zD hD ?_
   refine Ql kA ?_
   refine Qt ?_
   refine Qj (Qd (Qi (zM ?_)))
   refine zB ?_
   refine zA (Qb ?_)
   exact zm (h:=⟨42-(k+1),kB,k+1,_,_,rfl,rfl,rfl,rfl,kB,by rw [Zd hy,List.map_append];exact hO2⟩)
  refine zpb [(0,_)] [Za (vcI y)] Zy (fun b_26=>?_)
  refine Qb ?_
  refine zD hD ?_
  refine qd 1 rfl ?_
  refine zV (Qc rfl Zr (fun hg=>by (repeat (first | exact zzZ rfl | apply zzY | apply zz0)))) ?_
  refine Qb ?_
  refine zD hD ?_
  refine qd 8 rfl ?_
  refine zpa (_) (([vcI y]:List Vc).flatMap Za) (L) rfl rfl Zy hO ⟨rfl,fun _=>rfl,by repeat (first | exact zz2 | apply zz1 | apply zz3)⟩ (Jb [vcI y]) ?_
  intro v2 L2 hO2 _;rw [←List.flatMap_append] at hO2;obtain ⟨a2,c2,rfl⟩:=hO2.shape
  refine Qb ?_
  refine zD hD ?_
  refine zT 9 rfl (Qa rfl QV) hD ?_
  refine qd 10 rfl ?_
  refine zS Y8 ?_
  refine Qb ?_
  refine zD hD ?_
  refine Ql kA ?_
  refine Qt ?_
  refine Qj (Qd (Qi (zM ?_)))
  refine zB ?_
  refine zA (Qb ?_)
  exact zm (h:=⟨42-(k+1),kB,k+1,_,_,rfl,rfl,rfl,rfl,kB,by rw [Zd hy,List.map_append];exact hO2⟩)
 have hge_k:42≤k:=by have h:=hc16;simp at h;omega
 obtain rfl:k=42:=kB
 have hke:(YS x).take 42=YS x:=rfl
 rw [hke] at hO
 refine Q6 (Qn (Qn (Qw (Qd (zR ?_)))))
 refine zV (QI (ps:=[(0,_)]) [_,_,_,_] KV rfl rfl) ?_
 refine Qr YR rfl rfl (fun b_6=>?_)
 refine zh ZD ?_
 refine zN (Qo (zR (zA (zN (Qx ?_)))))
 refine zU [(1,_),(3,_),(6,_)] (fun T L0 mz E I' loc'=>∃ (j:Nat) (vq:Value) (Lq:Go.Kn.Loc),mz=x.pt.n-j∧E=(7,.int .i64 j)::T∧I2=I'∧Lq++((b_6,.cells #[.int .i64 3,.int .i64 0,.string ⟨#[]⟩,vq] 158 (0,0))::(L++[(b_3,.cells #[.int .i64 3,.int .i64 0,.string ⟨#[]⟩,v] 158 (0,0))]))=loc'∧j≤x.pt.n∧ZW 158 4 vq j (((x.pt.needs.take j).map vcI).flatMap Za) Lq) ?_ (h:=⟨0,_,[],rfl,rfl,rfl,rfl,Nat.zero_le _,ZW.nil⟩)
 rintro mz E I' loc' ⟨j,vq,Lq,rfl,rfl,rfl,rfl,hj,hOq⟩
 refine Qo (zR (zM ?_))
 refine zF ZZ ?_
 refine zF ZK ?_
 refine zV (Qc rfl Vi (fun hg=>by exact QA.imm h1.out rfl)) ?_
 refine zQ ZF ?_
 refine zC (zN ?_)
 refine zI ?_ ?_<;>intro hc35
 ·
  have hlt_j:j<x.pt.n:=by have h:=hc35;simp at h;omega
  obtain ⟨z,hz⟩:∃ y,x.pt.needs[j]? =some y:=⟨_,List.getElem?_eq_getElem kB⟩
  refine Qp (Qd (Qo (Qx ?_)))
  have hD:=zz4 I2
  refine Zn ?_
  refine QL I2 [] mixed ?_
  refine zT 0 rfl (Qa rfl QV) hD ?_
  refine zT 2 rfl (Qa rfl ZZ) hD ?_
  refine zT 3 rfl (Qa rfl ZK) hD ?_
  refine zT 4 rfl (Qc rfl Vi (fun hg=>by exact QA.imm h1.out rfl)) hD ?_
  refine zT 5 rfl (Qe rfl) hD ?_
  refine zT 6 rfl (zX ZF hN) hD ?_
  refine zT 7 rfl (Qc rfl Qm (fun hg=>by exact zzX hN hz rfl)) hD ?_
  refine QS 1 8 rfl rfl kA ?_ ?_
  ·
   refine zV (Qc rfl Zr (fun hg=>by exact zz0 (QA.h0 rfl))) ?_
   refine Qb ?_
   refine zD hD ?_
   refine qd 8 rfl ?_
   refine qcV (vs:=[_]) rfl zdw (zgN _ _) ?_
   refine Qb ?_
   refine zD hD ?_
   refine qd 9 rfl ?_
   refine zpb [(0,_)] [Za (vcI z)] Zy (fun b_47=>?_)
   refine Qb ?_
   refine zD hD ?_
   refine qd 10 rfl ?_
   refine zpa (_) (([vcI z]:List Vc).flatMap Za) (Lq) rfl rfl Zy hOq ⟨rfl,fun _=>rfl,by repeat (first | exact zz2 | apply zz1 | apply zz3)⟩ (Jb [vcI z]) ?_
   intro v2 L2 hO2 _;rw [←List.flatMap_append] at hO2;obtain ⟨a2,c2,rfl⟩:=hO2.shape
   refine Qb ?_
   refine zD hD ?_
   refine zT 11 rfl (Qa rfl QV) hD ?_
   refine qd 12 rfl ?_
   refine zS Y8 ?_
   refine Qb ?_
   refine zD hD ?_
   refine Ql kA ?_
   refine Qt ?_
   refine Qj (Qd (Qi (zM ?_)))
   refine zB ?_
   refine zA (Qb ?_)
   exact zm (h:=⟨x.pt.n-(j+1),kB,j+1,_,_,rfl,rfl,rfl,rfl,kB,by rw [Zd hz,List.map_append];exact hO2⟩)
  refine qcV (vs:=[_]) rfl zdw (zgN _ _) ?_
  refine Qb ?_
  refine zD hD ?_
  refine QS 1 9 rfl rfl kA ?_ ?_
  ·
   refine zV (Qc rfl Zr (fun hg=>by exact zz0 (QA.h0 rfl))) ?_
   refine Qb ?_
   refine zD hD ?_
   refine qd 9 rfl ?_
   refine zpb [(0,_)] [Za (vcI z)] Zy (fun b_47=>?_)
   refine Qb ?_
   refine zD hD ?_
   refine qd 10 rfl ?_
   refine zpa (_) (([vcI z]:List Vc).flatMap Za) (Lq) rfl rfl Zy hOq ⟨rfl,fun _=>rfl,by repeat (first | exact zz2 | apply zz1 | apply zz3)⟩ (Jb [vcI z]) ?_
   intro v2 L2 hO2 _;rw [←List.flatMap_append] at hO2;obtain ⟨a2,c2,rfl⟩:=hO2.shape
   refine Qb ?_
   refine zD hD ?_
   refine zT 11 rfl (Qa rfl QV) hD ?_
   refine qd 12 rfl ?_
   refine zS Y8 ?_
   refine Qb ?_
   refine zD hD ?_
   refine Ql kA ?_
   refine Qt ?_
   refine Qj (Qd (Qi (zM ?_)))
   refine zB ?_
   refine zA (Qb ?_)
   exact zm (h:=⟨x.pt.n-(j+1),kB,j+1,_,_,rfl,rfl,rfl,rfl,kB,by rw [Zd hz,List.map_append];exact hO2⟩)
  refine zpb [(0,_)] [Za (vcI z)] Zy (fun b_47=>?_)
  refine Qb ?_
  refine zD hD ?_
  refine qd 1 rfl ?_
  refine zV (Qc rfl Zr (fun hg=>by (repeat (first | exact zzZ rfl | apply zzY | apply zz0)))) ?_
  refine Qb ?_
  refine zD hD ?_
  refine qd 10 rfl ?_
  refine zpa (_) (([vcI z]:List Vc).flatMap Za) (Lq) rfl rfl Zy hOq ⟨rfl,fun _=>rfl,by repeat (first | exact zz2 | apply zz1 | apply zz3)⟩ (Jb [vcI z]) ?_
  intro v2 L2 hO2 _;rw [←List.flatMap_append] at hO2;obtain ⟨a2,c2,rfl⟩:=hO2.shape
  refine Qb ?_
  refine zD hD ?_
  refine zT 11 rfl (Qa rfl QV) hD ?_
  refine qd 12 rfl ?_
  refine zS Y8 ?_
  refine Qb ?_
  refine zD hD ?_
  refine Ql kA ?_
  refine Qt ?_
  refine Qj (Qd (Qi (zM ?_)))
  refine zB ?_
  refine zA (Qb ?_)
  exact zm (h:=⟨x.pt.n-(j+1),kB,j+1,_,_,rfl,rfl,rfl,rfl,kB,by rw [Zd hz,List.map_append];exact hO2⟩)
 have hge_j:x.pt.n≤j:=by have h:=hc35;simp at h;omega
 obtain rfl:j=x.pt.n:=kB
 have hke2:x.pt.needs.take x.pt.n=x.pt.needs:=List.take_of_length_le kB
 rw [hke2] at hOq
 refine Q6 (Qn (Qn (Qw (Qd (Qo ?_)))))
 obtain ⟨a7,c7,rfl⟩:=hOq.shape
 refine zx4 hOq Vg (fun I5 hI5 a6 c6 ef5 hM6=>?_)
 cases ef5
 have h1:=h1.mono hI5;have hIc:=hIc.trans hI5
 refine QF (b:=b_6) (by repeat (first | exact ZQ.here | apply ZQ.there)) (fun I6 hI6 hb6=>?_)
 have h1:=h1.mono hI6;have hM6:=hM6.mono hI6;have hIc:=hIc.trans hI6
 have h6:=BxI.of hb6
 have hD:=zz4 I6
 refine Zn ?_
 refine QL I6 [] mixed ?_
 refine zT 0 rfl (Qa rfl QV) hD ?_
 refine zT 2 rfl (Qg rfl Zq (fun hg=>by exact BxI.cells (vs:=[_,_,_,_]) h6) rfl) hD ?_
 refine zT 3 rfl (Qa rfl Z0) hD ?_
 refine zT 4 rfl (Qa rfl Ju) hD ?_
 refine zT 5 rfl (Qc rfl VS (fun hg=>by exact QA.imm h1.out rfl)) hD ?_
 refine zT 7 rfl (Qa rfl Z0) hD ?_
 refine zT 8 rfl (Qa rfl JE) hD ?_
 refine zT 9 rfl (Qc rfl VS (fun hg=>by exact QA.imm h1.out rfl)) hD ?_
 refine QS 1 6 rfl rfl kA ?_ ?_
 ·
  refine zV (Qc rfl Zr (fun hg=>by exact zz0 (QA.h0 rfl))) ?_
  refine Qb ?_
  refine zD hD ?_
  refine qd 6 rfl ?_
  refine qcV (vs:=[_]) rfl zbt (zbA _ _) ?_
  refine Qb ?_
  refine zD hD ?_
  refine qd 10 rfl ?_
  refine qcV (vs:=[_]) rfl zbt (zbA _ _) ?_
  refine Qb ?_
  refine zD hD ?_
  refine qd 11 rfl ?_
  refine zpb [(0,_),(1,_),(2,_)] [Za ⟨3,0,⟨#[]⟩,a7,x.pt.n,c7⟩,Za (vcT x.rt.name),Za (vcT x.rt.town)] Zy (fun b_61=>?_)
  refine Qb ?_
  refine zD hD ?_
  refine qd 12 rfl ?_
  refine zpa (_) (([⟨3,0,⟨#[]⟩,a7,x.pt.n,c7⟩,vcT x.rt.name,vcT x.rt.town]:List Vc).flatMap Za) (L) rfl rfl Zy hO ⟨rfl,fun _=>rfl,by repeat (first | exact zz2 | apply zz1 | apply zz3)⟩ (Jb [⟨3,0,⟨#[]⟩,a7,x.pt.n,c7⟩,vcT x.rt.name,vcT x.rt.town]) ?_
  intro v8 L8 hO8 _;rw [←List.flatMap_append] at hO8;obtain ⟨a8,c8,rfl⟩:=hO8.shape
  refine Qb ?_
  refine zD hD ?_
  refine zT 13 rfl (Qa rfl QV) hD ?_
  refine qd 14 rfl ?_
  refine zS Y8 ?_
  refine Qb ?_
  refine zD hD ?_
  refine Ql kA ?_
  refine Qt ?_
  refine Qd (Qo ?_)
  refine zx4 hO8 Vg (fun I7 hI7 a9 c9 ef7 hM8=>?_)
  cases ef7
  have hM6:=hM6.mono hI7;have hIc:=hIc.trans hI7
  refine Qi ?_
  refine zV (Qg rfl Zq (fun hg=>by exact Cells.g1) rfl) ?_
  refine zpc [_] rfl zdB .nil (XJ (x:=KF x) (cv:=⟨3,0,⟨#[]⟩,_,45,_⟩) (WS hM6 hM8) (JB x) hok hb) ?_
  rintro vv8 I8 L8 hI8 ⟨rfl,ae,ce,rfl,hS9⟩
  have hIc:=hIc.trans hI8
  refine zM ?_
  refine zE ?_
  refine zE ?_
  refine zA ?_
  refine zA ?_
  refine zN (zR ?_)
  refine zM ?_
  refine zA (zN (Qs ?_))
  exact Qy rfl rfl (fun w hw=>⟨_,I8,[],rfl,hIc,hw.subL QC,zcy hS9 rfl⟩)
 refine qcV (vs:=[_]) rfl zbt (zbA _ _) ?_
 refine Qb ?_
 refine zD hD ?_
 refine QS 1 10 rfl rfl kA ?_ ?_
 ·
  refine zV (Qc rfl Zr (fun hg=>by exact zz0 (QA.h0 rfl))) ?_
  refine Qb ?_
  refine zD hD ?_
  refine qd 10 rfl ?_
  refine qcV (vs:=[_]) rfl zbt (zbA _ _) ?_
  refine Qb ?_
  refine zD hD ?_
  refine qd 11 rfl ?_
  refine zpb [(0,_),(1,_),(2,_)] [Za ⟨3,0,⟨#[]⟩,a7,x.pt.n,c7⟩,Za (vcT x.rt.name),Za (vcT x.rt.town)] Zy (fun b_61=>?_)
  refine Qb ?_
  refine zD hD ?_
  refine qd 12 rfl ?_
  refine zpa (_) (([⟨3,0,⟨#[]⟩,a7,x.pt.n,c7⟩,vcT x.rt.name,vcT x.rt.town]:List Vc).flatMap Za) (L) rfl rfl Zy hO ⟨rfl,fun _=>rfl,by repeat (first | exact zz2 | apply zz1 | apply zz3)⟩ (Jb [⟨3,0,⟨#[]⟩,a7,x.pt.n,c7⟩,vcT x.rt.name,vcT x.rt.town]) ?_
  intro v8 L8 hO8 _;rw [←List.flatMap_append] at hO8;obtain ⟨a8,c8,rfl⟩:=hO8.shape
  refine Qb ?_
  refine zD hD ?_
  refine zT 13 rfl (Qa rfl QV) hD ?_
  refine qd 14 rfl ?_
  refine zS Y8 ?_
  refine Qb ?_
  refine zD hD ?_
  refine Ql kA ?_
  refine Qt ?_
  refine Qd (Qo ?_)
  refine zx4 hO8 Vg (fun I9 hI9 a9 c9 ef9 hM8=>?_)
  cases ef9
  have hM6:=hM6.mono hI9;have hIc:=hIc.trans hI9
  refine Qi ?_
  refine zV (Qg rfl Zq (fun hg=>by exact Cells.g1) rfl) ?_
  refine zpc [_] rfl zdB .nil (XJ (x:=KF x) (cv:=⟨3,0,⟨#[]⟩,_,45,_⟩) (WS hM6 hM8) (JB x) hok hb) ?_
  rintro vv10 I10 L10 hI10 ⟨rfl,ae,ce,rfl,hS9⟩
  have hIc:=hIc.trans hI10
  refine zM ?_
  refine zE ?_
  refine zE ?_
  refine zA ?_
  refine zA ?_
  refine zN (zR ?_)
  refine zM ?_
  refine zA (zN (Qs ?_))
  exact Qy rfl rfl (fun w hw=>⟨_,I10,[],rfl,hIc,hw.subL QC,zcy hS9 rfl⟩)
 refine qcV (vs:=[_]) rfl zbt (zbA _ _) ?_
 refine Qb ?_
 refine zD hD ?_
 refine QS 1 11 rfl rfl kA ?_ ?_
 ·
  refine zV (Qc rfl Zr (fun hg=>by exact zz0 (QA.h0 rfl))) ?_
  refine Qb ?_
  refine zD hD ?_
  refine qd 11 rfl ?_
  refine zpb [(0,_),(1,_),(2,_)] [Za ⟨3,0,⟨#[]⟩,a7,x.pt.n,c7⟩,Za (vcT x.rt.name),Za (vcT x.rt.town)] Zy (fun b_61=>?_)
  refine Qb ?_
  refine zD hD ?_
  refine qd 12 rfl ?_
  refine zpa (_) (([⟨3,0,⟨#[]⟩,a7,x.pt.n,c7⟩,vcT x.rt.name,vcT x.rt.town]:List Vc).flatMap Za) (L) rfl rfl Zy hO ⟨rfl,fun _=>rfl,by repeat (first | exact zz2 | apply zz1 | apply zz3)⟩ (Jb [⟨3,0,⟨#[]⟩,a7,x.pt.n,c7⟩,vcT x.rt.name,vcT x.rt.town]) ?_
  intro v8 L8 hO8 _;rw [←List.flatMap_append] at hO8;obtain ⟨a8,c8,rfl⟩:=hO8.shape
  refine Qb ?_
  refine zD hD ?_
  refine zT 13 rfl (Qa rfl QV) hD ?_
  refine qd 14 rfl ?_
  refine zS Y8 ?_
  refine Qb ?_
  refine zD hD ?_
  refine Ql kA ?_
  refine Qt ?_
  refine Qd (Qo ?_)
  refine zx4 hO8 Vg (fun I11 hI11 a9 c9 ef11 hM8=>?_)
  cases ef11
  have hM6:=hM6.mono hI11;have hIc:=hIc.trans hI11
  refine Qi ?_
  refine zV (Qg rfl Zq (fun hg=>by exact Cells.g1) rfl) ?_
  refine zpc [_] rfl zdB .nil (XJ (x:=KF x) (cv:=⟨3,0,⟨#[]⟩,_,45,_⟩) (WS hM6 hM8) (JB x) hok hb) ?_
  rintro vv12 I12 L12 hI12 ⟨rfl,ae,ce,rfl,hS9⟩
  have hIc:=hIc.trans hI12
  refine zM ?_
  refine zE ?_
  refine zE ?_
  refine zA ?_
  refine zA ?_
  refine zN (zR ?_)
  refine zM ?_
  refine zA (zN (Qs ?_))
  exact Qy rfl rfl (fun w hw=>⟨_,I12,[],rfl,hIc,hw.subL QC,zcy hS9 rfl⟩)
 refine zpb [(0,_),(1,_),(2,_)] [Za ⟨3,0,⟨#[]⟩,a7,x.pt.n,c7⟩,Za (vcT x.rt.name),Za (vcT x.rt.town)] Zy (fun b_61=>?_)
 refine Qb ?_
 refine zD hD ?_
 refine qd 1 rfl ?_
 refine zV (Qc rfl Zr (fun hg=>by (repeat (first | exact zzZ rfl | apply zzY | apply zz0)))) ?_
 refine Qb ?_
 refine zD hD ?_
 refine qd 12 rfl ?_
 refine zpa (_) (([⟨3,0,⟨#[]⟩,a7,x.pt.n,c7⟩,vcT x.rt.name,vcT x.rt.town]:List Vc).flatMap Za) (L) rfl rfl Zy hO ⟨rfl,fun _=>rfl,by repeat (first | exact zz2 | apply zz1 | apply zz3)⟩ (Jb [⟨3,0,⟨#[]⟩,a7,x.pt.n,c7⟩,vcT x.rt.name,vcT x.rt.town]) ?_
 intro v8 L8 hO8 _;rw [←List.flatMap_append] at hO8;obtain ⟨a8,c8,rfl⟩:=hO8.shape
 refine Qb ?_
 refine zD hD ?_
 refine zT 13 rfl (Qa rfl QV) hD ?_
 refine qd 14 rfl ?_
 refine zS Y8 ?_
 refine Qb ?_
 refine zD hD ?_
 refine Ql kA ?_
 refine Qt ?_
 refine Qd (Qo ?_)
 refine zx4 hO8 Vg (fun I13 hI13 a9 c9 ef13 hM8=>?_)
 cases ef13
 have hM6:=hM6.mono hI13;have hIc:=hIc.trans hI13
 refine Qi ?_
 refine zV (Qg rfl Zq (fun hg=>by exact Cells.g1) rfl) ?_
 refine zpc [_] rfl zdB .nil (XJ (x:=KF x) (cv:=⟨3,0,⟨#[]⟩,_,45,_⟩) (WS hM6 hM8) (JB x) hok hb) ?_
 rintro vv14 I14 L14 hI14 ⟨rfl,ae,ce,rfl,hS9⟩
 have hIc:=hIc.trans hI14
 refine zM ?_
 refine zE ?_
 refine zE ?_
 refine zA ?_
 refine zA ?_
 refine zN (zR ?_)
 refine zM ?_
 refine zA (zN (Qs ?_))
 exact Qy rfl rfl (fun w hw=>⟨_,I14,[],rfl,hIc,hw.subL QC,zcy hS9 rfl⟩)
end
section
open Go Go.Kn Go.Proofs
def zqI (no ver:Int):Nt:=⟨3,Vk,V5,⟨no,2,ver,40,8⟩,S.zeroR⟩
def Ym (no of:Int):Nt:=⟨1,⟨no,1,of,0,9,0,4,0,0⟩,V5,L.zeroL,S.zeroR⟩
abbrev n35:Nt:=zqI 3 5
def zfy (m:Nat):Rd:=⟨List.replicate m [],[],[]⟩
theorem zmb {m:Nat}(hm:1≤m∧m≤24):Kn m (zfy m) []:=
 ⟨hm,by simp [zfy],rfl,fun xs hx=>(by rw [List.eq_of_mem_replicate hx];rfl),fun xs hx y hy=>(by rw [List.eq_of_mem_replicate hx] at hy;cases hy),fun p hp=>(by cases hp),fun t ht=>(by cases ht)⟩
theorem zlx {x:Nt}(h:(YS x).all (fun y=>decide (-1000≤y)&&decide (y≤1000))=true)(hn:x.pt.needs=[]):NtW x:=by
 refine ⟨fun y hy=>?_,fun y hy=>by rw [hn] at hy;cases hy⟩
 have:=List.all_eq_true.1 h y hy
 rw [Bool.and_eq_true,decide_eq_true_eq,decide_eq_true_eq] at this
 omega
theorem znU:NtW n35:=zlx kD rfl
theorem zhh (I:Qu):Nd I n35.pt:=Sl.nil
theorem zog:QM n35=true:=kA
theorem zac:TkN n35:=by
 obtain ⟨h1,h2⟩:=zhJ znU rfl zog
 exact ⟨h1,zog,h2⟩
def e35:Ev:=⟨1,1,0,0,n35⟩
def eT0:Ev:=⟨1,0,0,0,zcA⟩
def eD0:Ev:=⟨3,0,0,0,zcA⟩
def rr1:Rd:=⟨[[],[n35]],[pkN 1 0 n35],[]⟩
def rr2:Rd:=⟨[[n35],[n35]],[],[]⟩
theorem zdW:zeL (zfy 2)=0:=(zmb (m:=2) kD).chk kD
theorem zxY:doF (zfy 2) (YU e35)=(0,rr1):=by
 rw [zcj zdW,zs0 rfl]
 have h:QM (YU e35).note=true:=zog
 unfold UD
 rw [if_pos kA,if_pos h]
 rfl
theorem zzy:doF (zfy 2) (YU eT0)=(570,zeroR):=by
 rw [zcj zdW,zs0 rfl]
 have h:QM (YU eT0).note=false:=kA
 unfold UD
 rw [if_pos kA,h]
 rfl
theorem zzq:doF (zfy 2) (YU eD0)=(1,zeroR):=by
 rw [zcj zdW,zrZ rfl]
 have h:atE (zfy 2).qs (zfy 2).ks (YU eD0).at_=1:=kA
 unfold zco
 rw [h,if_pos kD]
theorem zkE:Kn 2 rr1 [n35]:=by
 have h:=((zmb (m:=2) kD).step (x:=e35) kD (fun _ _=>zac) zxY).1
 exact h
theorem zzb:doF rr1 (YU eD0)=(0,rr2):=by
 have hn:=zkE.net kD
 rw [zcj (zkE.chk kD),zrZ rfl]
 obtain ⟨h1,h2⟩:=zzj (qs:=rr1.qs) (ks:=rr1.ks) (i:=0) (x:=pkN 1 0 n35) (by rw [hn];rfl) kA rfl
 have e1:atE rr1.qs rr1.ks (YU eD0).at_=0:=h1
 have e2:Jn rr1.qs rr1.ks (YU eD0).at_=pkN 1 0 n35:=(zgX (qs:=rr1.qs)).trans h2
 have e3:okN (pkN 1 0 n35).data=some n35:=zdZ zac
 unfold zco
 rw [e1,e2,if_neg kD,if_neg kD,e3]
 rfl
theorem zvQ:Kn 2 rr2 [n35]:=(zkE.step (x:=eD0) kD (fun h=>absurd h kD) zzb).1
theorem zsN:zeL rr2=0:=zvQ.chk kD
/-! ### Notes that are the same but for their heads -/
theorem zjk {I:Qu}{x y:Nt}(hx:Nd I x.pt)(hy:Nd I y.pt):smN x y=true↔YN x=YN y:=by
 have l1:x.pt.needs.length=x.pt.n:=hx.len
 have l2:y.pt.needs.length=y.pt.n:=hy.len
 obtain ⟨k,lm,⟨i,kd,s,fd,nw,a,n,c,nd⟩,ls,rt⟩:=x
 obtain ⟨k',lm',⟨i',kd',s',fd',nw',a',n',c',nd'⟩,ls',rt'⟩:=y
 dsimp only at l1 l2
 subst l1;subst l2
 unfold smN smP smC YN
 simp only [Bool.and_eq_true,beq_iff_eq,Vh,L.lsEq_iff,S.rtEq_iff,Bool.not_eq_true',Bool.or_eq_false_iff,bne_eq_false_iff_eq,decide_eq_true_eq,Bool.not_eq_false',Wc,Nt.mk.injEq,Pt.mk.injEq]
 constructor
 ·
  rintro ⟨⟨⟨⟨h1,h2⟩,⟨⟨⟨⟨⟨h3,h4⟩,h5⟩,h6⟩,h7⟩,_⟩,h9⟩,h10⟩,h11⟩
  subst h9
  exact ⟨h1,h2,⟨h3,h4,h5,h6,h7,trivial,rfl,trivial,rfl⟩,h10,h11⟩
 ·
  rintro ⟨h1,h2,⟨h3,h4,h5,h6,h7,_,_,_,h9⟩,h10,h11⟩
  subst h9
  exact ⟨⟨⟨⟨h1,h2⟩,⟨⟨⟨⟨⟨h3,h4⟩,h5⟩,h6⟩,h7⟩,rfl⟩,rfl⟩,h10⟩,h11⟩
theorem zm3 {I:Qu}:∀ {xs ys:List Nt},(∀ x∈xs,Nd I x.pt)→(∀ y∈ys,Nd I y.pt)→(smL xs ys=true↔xs.map YN=ys.map YN)
 | [],[],_,_=>by simp [smL]
 | [],_::_,_,_=>by simp [smL]
 | _::_,[],_,_=>by simp [smL]
 | x::xs,y::ys,hx,hy=>by
  rw [smL,Bool.and_eq_true,zjk (hx x (List.mem_cons_self ..)) (hy y (List.mem_cons_self ..)),zm3 (fun z hz=>hx z (List.mem_cons_of_mem _ hz)) (fun z hz=>hy z (List.mem_cons_of_mem _ hz))]
  simp
theorem zoF {α:Type}{num:Nt→Int}{prt:Nt→α}{kind:Int}{chk:List α→Int}{d:α}(h1:∀ x,num (YN x)=num x)(h2:∀ x,prt (YN x)=prt x)(xs:List Nt):Wo num prt kind chk d (xs.map YN)=Wo num prt kind chk d xs:=by
 have e:ZY num prt kind (xs.map YN)=ZY num prt kind xs:=by
  unfold ZY
  rw [List.foldl_map]
  congr 1
  funext m x
  unfold WR
  rw [h1,h2];rfl
 unfold Wo
 rw [e]
theorem ztH {xs:List Nt}(h:xs.map YN=[n35]):wLs xs=[n35.ls]:=by
 have e:=zoF (num:=fun x=>x.ls.no) (prt:=fun x=>x.ls) (kind:=3) (chk:=L.chk) (d:=L.zeroL) (fun _=>rfl) (fun _=>rfl) xs
 unfold wLs
 rw [←e,h]
 unfold Wo
 have e1:ZY (fun x=>x.ls.no) (fun x=>x.ls) 3 [n35]=[(3,n35.ls)]:=kA
 rw [e1]
 have e2:KU (([(3,n35.ls)]:List (Int×L.Ls)).map (·.1))=[3]:=by simp [KU]
 rw [e2]
 rfl
/-! ### A world of limits -/
def hL:List Nt:=[Ym 2 0,Ym 4 4,Ym 5 3]
theorem zng {no of:Int}(h1:0≤no∧no≤100)(h2:0≤of∧of≤100):NtW (Ym no of):=by
 refine ⟨fun y hy=>?_,fun y hy=>by cases hy⟩
 simp only [YS,Ym,V5,L.zeroL,S.zeroR,JP,List.mem_cons,List.not_mem_nil,or_false] at hy
 omega
theorem zmH (I:Qu){x:Nt}(hx:x∈hL):NtM I x∧QM x=true:=by
 simp only [hL,List.mem_cons,List.not_mem_nil,or_false] at hx
 rcases hx with rfl | rfl | rfl
 ·
  have h:QM (Ym 2 0)=true:=kA
  exact ⟨zeC (zng kD kD) Sl.nil h,h⟩
 ·
  have h:QM (Ym 4 4)=true:=kA
  exact ⟨zeC (zng kD kD) Sl.nil h,h⟩
 ·
  have h:QM (Ym 5 3)=true:=kA
  exact ⟨zeC (zng kD kD) Sl.nil h,h⟩
theorem zwJ:wLm hL=[(Ym 2 0).lm,(Ym 5 3).lm]:=by
 unfold wLm Wo
 have e1:ZY (fun x=>x.lm.no) (fun x=>x.lm) 1 hL=[(2,(Ym 2 0).lm),(4,(Ym 4 4).lm),(5,(Ym 5 3).lm)]:=kA
 rw [e1]
 have e2:KU (([(2,(Ym 2 0).lm),(4,(Ym 4 4).lm),(5,(Ym 5 3).lm)]:List (Int×Lm)).map (·.1))=[2,4,5]:=by
  unfold KU
  exact List.mergeSort_of_pairwise kH
 rw [e2]
 rfl
end
section
open Go Go.Kn Go.Proofs
theorem zcH (x y:Nt):Vv x y=Lib.compareBytes ((KA x).map UInt8.ofNat) ((KA y).map UInt8.ofNat):=by
 unfold Vv zxW zaB Wl
 simp
def hB (a b:Nat):List Nat:=[3,45,1,2,1,a,1,2,1,b,1,0,1,18,1,0,1,8,1,0,1,0]++(List.replicate 32 [1,0]).flatten++[3,0,2,0,2,0]
theorem zaP (no of:Nat)(h1:no<64)(h2:of<64):KA (Ym no of)=hB (2*no) (2*of):=by
 have e1:zz (no:Int)=2*no:=by unfold zz;rw [if_pos kB];omega
 have e2:zz (of:Int)=2*of:=by unfold zz;rw [if_pos kB];omega
 have z0:zz 0=0:=by decide
 have z1:zz 1=2:=by decide
 have z4:zz 4=8:=by decide
 have z9:zz 9=18:=by decide
 have n0:JU 0=[0]:=Vj kD
 have n2:JU 2=[2]:=Vj kD
 have n8:JU 8=[8]:=Vj kD
 have n18:JU 18=[18]:=Vj kD
 have n45:JU 45=[45]:=Vj kD
 have na:JU (2*no)=[2*no]:=Vj kB
 have nb:JU (2*of)=[2*of]:=Vj kB
 have hbt:K9 (⟨#[]⟩:ByteArray)=[]:=rfl
 unfold KA KF
 simp only [YS,Ym,V5,JP,L.zeroL,S.zeroR,hbt,List.map_cons,List.map_nil,List.cons_append,List.nil_append,Va.enc,Va.encL,List.length_cons,List.length_nil,Nat.zero_add,Nat.reduceAdd,e1,e2,z0,z1,z4,z9,n0,n2,n8,n18,n45,na,nb,List.append_nil]
 rfl
theorem zq6:Vv (Ym 2 0) (Ym 4 4)<0:=by
 rw [zcH,show Ym 2 0=Ym ((2:Nat):Int) ((0:Nat):Int) from rfl,show Ym 4 4=Ym ((4:Nat):Int) ((4:Nat):Int) from rfl,zaP 2 0 kD kD,zaP 4 4 kD kD]
 decide
theorem zqf:Vv (Ym 4 4) (Ym 5 3)<0:=by
 rw [zcH,show Ym 4 4=Ym ((4:Nat):Int) ((4:Nat):Int) from rfl,show Ym 5 3=Ym ((5:Nat):Int) ((3:Nat):Int) from rfl,zaP 4 4 kD kD,zaP 5 3 kD kD]
 decide
theorem zaQ {x:Nt}{xs:List Nt}(h:zi3 xs)(hx:∀ y∈xs,Vv x y<0):zi3 (x::xs):=by
 intro k l u v hkl hu hv
 cases l with
 | zero=>omega
 | succ l=>
  cases k with
  | zero=>
   simp only [List.getElem?_cons_zero,Option.some.injEq] at hu
   subst hu
   exact hx v (List.mem_of_getElem? (by simpa using hv))
  | succ k=>exact h k l u v kB (by simpa using hu) (by simpa using hv)
theorem zlQ:zi3 []:=fun k l x y _ hx=>by simp at hx
theorem zpw:ZL hL=true:=by
 have h3:zi3 hL:=zaQ (zaQ (zaQ zlQ (fun y hy=>by cases hy)) (fun y hy=>by rw [List.mem_singleton.1 hy];exact zqf)) fun y hy=>by
  simp only [List.mem_cons,List.not_mem_nil,or_false] at hy
  rcases hy with rfl | rfl
  ·
   exact zq6
  ·
   exact Jq zq6 zqf
 exact Xl h3 (fun x hx=>(zmH (fun _=>none) hx).2) kD
theorem zgd {xs:List Nt}{y:Nt}(h:xs.map YN=[y]):∃ x,xs=[x]∧YN x=y:=by
 cases xs with
 | nil=>cases h
 | cons x l=>
  cases l with
  | nil=>exact ⟨x,rfl,List.head_eq_of_cons_eq h⟩
  | cons z l=>
   have:=congrArg List.length h
   simp at this
theorem zeG {xs:List Nt}(h:xs.map YN=[n35]){I:Qu}(hN:∀ x∈xs,Nd I x.pt):ZL xs=true:=by
 obtain ⟨x,rfl,e⟩:=zgd h
 have hn:Sl I 1 Z5 x.pt.a x.pt.n x.pt.c x.pt.needs:=hN x (List.mem_singleton.2 rfl)
 have hf:QM x=true:=by rw [←Jt hn.len.symm,e];exact zog
 exact Xl (zaQ zlQ fun y hy=>by cases hy) (fun y hy=>by rw [List.mem_singleton.1 hy];exact hf) kH
theorem zrT:okN []=none:=kA
theorem zxt {I:Qu}{rs:List Hy}{a:Option Addr}{m c:Nat}{zs:List Nt}(h:LdZ I rs a m c zs)(hr:rs≠[])(hb:∀ r∈rs,r.bytes=KA n35):zs.map YN=[n35]:=by
 have hz:∀ x∈zs,YN x=n35:=fun x hx=>by
  obtain ⟨_,r,hr2,e⟩:=h.frm x hx
  rw [hb r hr2,zdZ zac] at e
  exact (Option.some.inj e).symm
 match zs,h,hz with
 | [],h,_=>
  obtain ⟨r,l,rfl⟩:=List.exists_cons_of_ne_nil hr
  obtain ⟨x,hx,_⟩:=h.mem r (List.mem_cons_self ..)
  cases hx
 | [x],_,hz=>rw [List.map_singleton,hz x (List.mem_singleton.2 rfl)]
 | x::y::l,h,hz=>
  have h1:=h.srt 0 1 x y kD rfl rfl
  have e1:=hz x (List.mem_cons_self ..)
  have e2:=hz y kH
  rw [←zaX,e1,e2,UN] at h1
  omega
def zzs (n:Int)(v:Value)(I':Qu)(L':Go.Kn.Loc):Prop:=L'=[]∧∃ vr,v= .tuple #[vr,.int .i64 (if (decide (n<1)||decide (n>24))=true then 1 else 0)]∧RmV I' vr (if (decide (n<1)||decide (n>24))=true then zeroR else zfy n.toNat)
theorem zrQ {I:Qu}{b m t:Nat}(hm:m≤maxLen)(hb:I b=some (.cells (List.replicate m (Value.slice none 0 0)).toArray t (0,0))):RmV I (.agg #[.slice (some ⟨b,0,none⟩) m m,.slice none 0 0,.slice none 0 0]) (zfy m):=by
 refine ⟨_,_,_,_,_,_,_,_,_,List.replicate m ⟨none,0,0,[]⟩,[],rfl,⟨⟨by simp,Nat.le_refl _,fun _=>rfl,fun k x hx j u hu=>?_⟩,fun x hx=>?_,.nil,fun _ h=>(by cases h),.nil⟩,?_⟩
 ·
  have hj:j=0:=by have:=(List.getElem?_eq_some_iff.1 hu).1;simp [Xd] at this;omega
  subst hj
  have hk:=(List.getElem?_eq_some_iff.1 hx).1
  rw [List.length_replicate] at hk
  have ex:x=⟨none,0,0,[]⟩:=List.eq_of_mem_replicate (List.mem_of_getElem? hx)
  subst ex
  have hu:u= .slice none 0 0:=by simpa [Xd] using hu.symm
  subst hu
  refine QA.imm hb ?_
  show zi2 _ (0+k*1+0)=_
  rw [Nat.zero_add,Nat.mul_one,Nat.add_zero,Jp]
  simp [hk]
 ·
  rw [List.eq_of_mem_replicate hx]
  exact ⟨.nil,fun _ h=>(by cases h),fun _ h=>(by cases h)⟩
 ·
  simp [VV,zfy,dtP]
theorem ztc {I:Qu}{pa qa aa:Option Addr}{pn pc qn qc an ac:Nat}{ps:List Pe}{qs:List Pk}{ks:List (Int×Int)}{r:Rd}(_hR:RmP I pa pn pc qa qn qc aa an ac ps qs ks)(e:VV ps qs ks=r){i:Nat}{xs:List Nt}(hi:r.ps[i]? =some xs):∃ pe,ps[i]? =some pe∧pe.notes.map YN=xs:=by
 subst e
 simp only [VV,dtP,List.getElem?_map] at hi
 cases h:ps[i]? with
 | none=>rw [h] at hi;cases hi
 | some pe=>rw [h] at hi;exact ⟨pe,rfl,Option.some.inj hi⟩
theorem WH {I:Qu}{pa qa aa:Option Addr}{pn pc qn qc an ac:Nat}{ps:List Pe}{qs:List Pk}{ks:List (Int×Int)}{r:Rd}(hR:RmP I pa pn pc qa qn qc aa an ac ps qs ks)(e:VV ps qs ks=r):pn=r.ps.length∧qn=r.qs.length∧ks=r.ks:=by
 subst e
 exact ⟨by rw [←hR.pe.len];exact (zdv ps).symm,by rw [←hR.q.len];simp [VV],rfl⟩
theorem zyu {I:Qu}{pa qa aa:Option Addr}{pn pc qn qc an ac:Nat}{ps:List Pe}{qs:List Pk}{ks:List (Int×Int)}{r:Rd}(_hR:RmP I pa pn pc qa qn qc aa an ac ps qs ks)(e:VV ps qs ks=r){i:Nat}{p:Pk}(hi:r.qs[i]? =some p):∃ q,qs[i]? =some q∧VD q=p:=by
 subst e
 simp only [VV,List.getElem?_map] at hi
 cases h:qs[i]? with
 | none=>rw [h] at hi;cases hi
 | some q=>rw [h] at hi;exact ⟨q,rfl,Option.some.inj hi⟩
structure SmR (r:Rd):Prop where
 p:r.ps.length≤24
 nn:∀ xs∈r.ps,xs.length≤1000
 q:r.qs.length≤3000
 dl:∀ p∈r.qs,p.data.length≤2000
 k:r.ks.length≤100
theorem SmR.use {I:Qu}{pa qa aa:Option Addr}{pn pc qn qc an ac:Nat}{ps:List Pe}{qs:List Pk}{ks:List (Int×Int)}(hR:RmP I pa pn pc qa qn qc aa an ac ps qs ks)(h:SmR (VV ps qs ks)):pn≤100000∧qn≤100000∧an≤100000∧(∀ x∈ps,x.n≤100000)∧(∀ q∈qs,q.n≤100000)∧(qn+24≤4096∧∀ pe∈ps,qn+pe.n≤4096):=by
 obtain ⟨h1,h2,_⟩:=WH hR rfl
 have hp:=h.p;have hq:=h.q;have hk:=h.k
 have hkl:=hR.k.len
 have hn:∀ x∈ps,x.n≤1000:=fun x hx=>by
  have h3:=h.nn (x.notes.map YN) (List.mem_map.2 ⟨x,hx,rfl⟩)
  have:=(hR.nt x hx).sl.len
  rw [List.length_map] at h3;omega
 refine ⟨kB,kB,?_,fun x hx=>by have:=hn x hx;omega,fun q hq2=>?_,kB,fun pe hpe=>by have:=hn pe hpe;omega⟩
 ·
  have:(VV ps qs ks).ks.length=ks.length:=rfl
  omega
 ·
  have h3:=h.dl (VD q) (List.mem_map.2 ⟨q,hq2,rfl⟩)
  have:=(hR.pk q hq2).sl.len
  have e:(VD q).data=q.data:=rfl
  rw [e] at h3;omega
theorem zbu {m:Nat}(hm:m≤24):SmR (zfy m):=⟨by simp [zfy];exact hm,fun xs hx=>(by rw [List.eq_of_mem_replicate hx];exact Nat.zero_le _),by simp [zfy],fun p hp=>(by cases hp),by simp [zfy]⟩
theorem zwv:SmR rr1:=⟨by decide,fun xs hx=>by
  simp only [rr1,List.mem_cons,List.not_mem_nil,or_false] at hx
  rcases hx with rfl | rfl<;>simp,by decide,fun p hp=>(by
  rw [List.mem_singleton.1 (show p∈[pkN 1 0 n35] from hp)];exact zac.2.2),by decide⟩
theorem zwl:SmR rr2:=⟨by decide,fun xs hx=>by
  simp only [rr2,List.mem_cons,List.not_mem_nil,or_false] at hx
  rcases hx with rfl | rfl<;>simp,by decide,fun p hp=>(by cases hp),by decide⟩
theorem zsf:SmR zeroR:=⟨by decide,fun xs hx=>(by cases hx),by decide,fun p hp=>(by cases hp),by decide⟩
theorem zgp {xs:List Nt}{v:Value}{I':Qu}{L':Go.Kn.Loc}(h:zzc xs v I' L')(hv:ZL xs=true):L'=[]∧∃ a1 n1 c1 a2 n2 c2 a3 n3 c3 a4 n4 c4,v= .tuple #[.slice a1 n1 c1,.slice a2 n2 c2,.slice a3 n3 c3,.slice a4 n4 c4,.int .i64 0]∧Sl I' 9 Zh a1 n1 c1 (wLm xs)∧Sl I' 5 L.encL a2 n2 c2 (wLs xs)∧SlP I' a3 n3 c3 (wPt xs)∧Sl I' 11 S.encR a4 n4 c4 (wRt xs):=by
 rcases h.2 with ⟨_,h2⟩ | ⟨h1,_⟩
 ·
  exact ⟨h.1,h2⟩
 ·
  rw [hv] at h1;cases h1
theorem zud {xs:List Nt}{v:Value}{I':Qu}{L':Go.Kn.Loc}(h:zza xs v I' L')(hv:ZL xs=true):L'=[]∧∃ a n c rs,v= .tuple #[.slice a n c,.int .i64 0]∧zsY I' a n c rs∧rs.map (·.bytes)=xs.map KA:=by
 rcases h.2 with ⟨_,h2⟩ | ⟨h1,_⟩
 ·
  exact ⟨h.1,h2⟩
 ·
  rw [hv] at h1;cases h1
theorem zvF {rs:List Hy}{v:Value}{I':Qu}{L':Go.Kn.Loc}(h:LdQ rs v I' L')(hl:rs.length≤4096)(hn:∀ r∈rs,okN r.bytes≠none):L'=[]∧∃ a m c zs,v= .tuple #[.agg #[.slice a m c],.int .i64 0]∧LdZ I' rs a m c zs:=by
 rcases h.2 with ⟨h1,_⟩ | ⟨_,⟨r,h1,h2⟩,_⟩ | ⟨_,h2⟩
 ·
  omega
 ·
  exact absurd h2 (hn r h1)
 ·
  exact ⟨h.1,h2⟩
theorem zyY {rs:List Hy}{v:Value}{I':Qu}{L':Go.Kn.Loc}(h:LdQ rs v I' L')(hl:rs.length≤4096)(hn:∃ r∈rs,okN r.bytes=none):L'=[]∧v= .tuple #[.agg #[.slice none 0 0],.int .i64 570]:=by
 rcases h.2 with ⟨h1,_⟩ | ⟨_,_,h2⟩ | ⟨_,a,m,c,zs,_,h2⟩
 ·
  omega
 ·
  exact ⟨h.1,h2⟩
 ·
  obtain ⟨r,hr,e⟩:=hn
  obtain ⟨x,_,e2⟩:=h2.mem r hr
  rw [e] at e2;cases e2
theorem ziZ (s:ByteArray):KB s s=true:=zbm.2 rfl
theorem zp6 {I:Qu}:RmP I none 0 0 none 0 0 none 0 0 [] [] []:=⟨.nil,fun _ h=>(by cases h),.nil,fun _ h=>(by cases h),.nil⟩
theorem zoR:zeL zeroR=570:=kA
theorem zu0 {I:Qu}{a:Option Addr}{n c:Nat}{xs:List Nt}(h:zbd I a n c xs)(e:xs.map YN=[]):n=0:=by
 have:=h.sl.len
 have h2:=congrArg List.length e
 rw [List.length_map] at h2
 rw [←this,h2];rfl
theorem zrg {I:Qu}{xs:List Nt}(hN:∀ x∈xs,Nd I x.pt)(e:xs.map YN=[n35]):smL xs [n35]=true:=
 (zm3 hN (fun y hy=>by rw [List.mem_singleton.1 hy];exact Sl.nil)).2 e
theorem zmZ {I:Qu}{xs:List Nt}(hN:∀ x∈xs,Nd I x.pt)(e:xs.map YN=[n35]):∀ x∈xs,x.pt.n≤100000:=fun x hx=>by
 obtain ⟨y,rfl,e2⟩:=zgd e
 rw [List.mem_singleton.1 hx]
 have h:Sl I 1 Z5 y.pt.a y.pt.n y.pt.c y.pt.needs:=hN y (List.mem_singleton.2 rfl)
 have h3:y.pt.needs.length=(YN y).pt.n:=rfl
 rw [e2] at h3
 have:=h.len
 have:(n35.pt.n:Nat)=0:=rfl
 omega
theorem zsz {I:Qu}{a:Option Addr}{n c:Nat}{rs:List Hy}{xs:List Nt}(h:zsY I a n c rs)(hb:rs.map (·.bytes)=xs.map KA)(hx:xs.map YN=[n35]):rs.length=1∧(∀ r∈rs,r.bytes=KA n35)∧∀ r∈rs,r.n≤100000:=by
 obtain ⟨x,rfl,e⟩:=zgd hx
 have em:KA x=KA n35:=by rw [←e];rfl
 have hl:=congrArg List.length hb
 rw [List.length_map,List.length_map] at hl
 have hr:∀ r∈rs,r.bytes=KA n35:=fun r hr=>by
  have h1:r.bytes∈rs.map (·.bytes):=List.mem_map.2 ⟨r,hr,rfl⟩
  rw [hb,List.map_singleton,List.mem_singleton,em] at h1;exact h1
 refine ⟨hl,hr,fun r h2=>?_⟩
 have h3:=(h.m r h2).sl.len
 rw [hr r h2] at h3
 have:=zac.2.2
 omega
end
section
open Go Go.Kn Go.Proofs
theorem zq9:PlT Tryz.prog 45 #[(0,1),(1,9),(10,19),(29,5),(34,11)] (.agg #[(.int .i64 0),(.int .i64 0),(.int .i64 0),(.int .i64 0),(.int .i64 0),(.int .i64 0),(.int .i64 0),(.int .i64 0),(.int .i64 0),(.int .i64 0),(.int .i64 0),(.int .i64 0),(.int .i64 0),(.int .i64 0),(.int .i64 0),(.int .i64 0),(.int .i64 0),(.int .i64 0),(.int .i64 0),(.int .i64 0),(.int .i64 0),(.int .i64 0),(.int .i64 0),(.int .i64 0),(.int .i64 0),(.int .i64 0),(.int .i64 0),(.int .i64 0),(.slice none 0 0),(.int .i64 0),(.int .i64 0),(.int .i64 0),(.int .i64 0),(.int .i64 0),(.int .i64 0),(.int .i64 0),(.int .i64 0),(.int .i64 0),(.int .i64 0),(.int .i64 0),(.string ⟨#[]⟩),(.string ⟨#[]⟩),(.int .i64 0),(.int .i64 0),(.int .i64 0)]):=⟨.of kA,kA,fun w=>kA⟩
theorem zec (I:Qu)(no ver:Int):ZA Tryz.prog 42 [.int .i64 no,.int .i64 ver] I (Ke (zqI no ver)):=by
 intro g H w hw
 refine qe Tryz.func42 Tryz.ntmps42 hw ?_
 refine zR ?_
 refine Qr Wn rfl rfl (fun b_4=>?_)
 refine zN (zR ?_)
 refine zM ?_
 refine zM ?_
 refine zV (QI (ps:=[(0,_),(1,_),(2,_),(3,_),(4,_)]) [_,_,_,_,_] zjj rfl rfl) ?_
 refine zV (QI (ps:=[(0,_),(3,_)]) [_,_,_,_,_,_,_,_,_,_,_,_,_,_,_,_,_,_,_,_,_,_,_,_,_,_,_,_,_,_,_,_,_,_,_,_,_,_,_,_,_,_,_,_,_] zq9 rfl rfl) ?_
 refine zh VG ?_
 refine zN (Qs ?_)
 exact ZX rfl rfl Q7 zz2 rfl (fun w hw=>⟨by rfl,hw.drop⟩)
theorem zc6 (I:Qu)(no of:Int):ZA Tryz.prog 44 [.int .i64 no,.int .i64 of] I (Ke (Ym no of)):=by
 intro g H w hw
 refine qe Tryz.func44 Tryz.ntmps44 hw ?_
 refine zR ?_
 refine Qr Wn rfl rfl (fun b_4=>?_)
 refine zN (zR ?_)
 refine zM ?_
 refine zM ?_
 refine zV (QI (ps:=[(0,_)]) [_,_,_] zcS rfl rfl) ?_
 refine zV (QI (ps:=[(0,_),(1,_),(2,_),(4,_),(6,_)]) [_,_,_,_,_,_,_,_,_] zeX rfl rfl) ?_
 refine zV (QI (ps:=[(0,_),(1,_)]) [_,_,_,_,_,_,_,_,_,_,_,_,_,_,_,_,_,_,_,_,_,_,_,_,_,_,_,_,_,_,_,_,_,_,_,_,_,_,_,_,_,_,_,_,_] zq9 rfl rfl) ?_
 refine zh VG ?_
 refine zN (Qs ?_)
 exact ZX rfl rfl Q7 zz2 rfl (fun w hw=>⟨by rfl,hw.drop⟩)
theorem zqe (I:Qu)(n:Int):Vs Tryz.prog 14 [.int .i64 n] I [] (zzs n):=by
 have h:=zyw I n
 by_cases hb:(decide (n<1)||decide (n>24))=true
 ·
  intro g H w hw
  refine (h g H w hw).mono ?_
  rintro e w' ⟨v,I',L',h1,h2,h3,rfl,⟨_,rfl,rfl⟩ | ⟨h4,_⟩⟩
  ·
   exact ⟨_,_,_,h1,h2,h3,rfl,_,by rw [if_pos hb],by rw [if_pos hb];exact zhs⟩
  rw [hb] at h4;cases h4
 have hb2:(decide (n<1)||decide (n>24))=false:=by simpa using hb
 refine Ug.m (Bad:=fun _=>False) (Ug.frz (h.p (Bad:=fun _=>False)) fun v I' L' hI hq=>?_) (fun v hv=>hv)
 obtain ⟨rfl,⟨h4,_⟩ | ⟨_,b,rfl,rfl⟩⟩:=hq
 ·
  rw [hb2] at h4;cases h4
 refine ⟨[],b,_,.here,fun I2 h2 hb3=>⟨rfl,_,by rw [if_neg hb],?_⟩⟩
 rw [if_neg hb]
 have hn:1≤n∧n≤24:=by simpa using hb2
 exact zrQ (Nat.le_trans (show n.toNat≤24 by omega) kD) hb3
theorem ziP {I:Qu}{pa qa aa:Option Addr}{pn pc qn qc an ac:Nat}{ps:List Pe}{qs:List Pk}{ks:List (Int×Int)}(hR:RmP I pa pn pc qa qn qc aa an ac ps qs ks){r:Rd}(he:VV ps qs ks=r)(hs:SmR r)(x:Ev)(hE:EvM I x){R:Int×Rd}(e:doF r (YU x)=R):Vs Tryz.prog 12 [.agg #[.slice pa pn pc,.slice qa qn qc,.slice aa an ac],.agg (zeV x).toArray] I [] (DoQ R):=by
 subst he;subst e
 obtain ⟨h1,h2,h3,h4,h5,h6⟩:=SmR.use hR hs
 exact zzn hR h1 h2 h3 h4 h5 (fun _=>h6) x hE
theorem zgZ {I:Qu}{pa qa aa:Option Addr}{pn pc qn qc an ac:Nat}{ps:List Pe}{qs:List Pk}{ks:List (Int×Int)}(hR:RmP I pa pn pc qa qn qc aa an ac ps qs ks){r:Rd}(he:VV ps qs ks=r)(hs:SmR r){e:Int}(hc:zeL r=e):Vs Tryz.prog 16 [.agg #[.slice pa pn pc,.slice qa qn qc,.slice aa an ac]] I [] (fun v I' L'=>L'=[]∧v= .int .i64 e):=by
 subst he;subst hc
 obtain ⟨h1,h2,h3,h4,h5,_⟩:=SmR.use hR hs
 exact zlw hR h1 h2 h3 h4 h5
end
section
open Go Go.Kn Go.Proofs
theorem zo8:zhW Tryz.prog 45 3 29 5:=.of kA
theorem zcK:Fun Tryz.prog 12:=.of Tryz.func12 kA kA
theorem zq2:Fun Tryz.prog 14:=.of Tryz.func14 kA kA
theorem zmp:Fun Tryz.prog 20:=.of Tryz.func20 kA kA
theorem zuI:Fun Tryz.prog 22:=.of Tryz.func22 kA kA
theorem zra:Fun Tryz.prog 24:=.of Tryz.func24 kA kA
theorem zke:Fun Tryz.prog 31:=.of Tryz.func31 kA kA
theorem zfr:Fun Tryz.prog 42:=.of Tryz.func42 kA kA
theorem zar:Fun Tryz.prog 43:=.of Tryz.func43 kA kA
theorem zlz:Fun Tryz.prog 44:=.of Tryz.func44 kA kA
theorem zeI:PlT Tryz.prog 47 #[(0,1),(1,1),(2,1),(3,1),(4,45)] (.agg #[(.int .i64 0),(.int .i64 0),(.int .i64 0),(.int .i64 0),(.int .i64 0),(.int .i64 0),(.int .i64 0),(.int .i64 0),(.int .i64 0),(.int .i64 0),(.int .i64 0),(.int .i64 0),(.int .i64 0),(.int .i64 0),(.int .i64 0),(.int .i64 0),(.int .i64 0),(.int .i64 0),(.int .i64 0),(.int .i64 0),(.int .i64 0),(.int .i64 0),(.int .i64 0),(.int .i64 0),(.int .i64 0),(.int .i64 0),(.int .i64 0),(.int .i64 0),(.int .i64 0),(.int .i64 0),(.int .i64 0),(.int .i64 0),(.slice none 0 0),(.int .i64 0),(.int .i64 0),(.int .i64 0),(.int .i64 0),(.int .i64 0),(.int .i64 0),(.int .i64 0),(.int .i64 0),(.int .i64 0),(.int .i64 0),(.int .i64 0),(.string ⟨#[]⟩),(.string ⟨#[]⟩),(.int .i64 0),(.int .i64 0),(.int .i64 0)]):=⟨.of kA,kA,fun w=>kA⟩
theorem zxi:PlT Tryz.prog 59 #[(0,1)] (.agg #[(.slice none 0 0)]):=⟨.of kA,kA,fun w=>kA⟩
theorem ztX {I:Qu}{av:Option Addr}{n c:Nat}{bv:Option Addr}{n2 c2:Nat}{xs:List Nt}(hS:zbd I av n c xs)(hT:Sl I 45 Q4 bv n2 c2 [n35])(hd:xs.map YN=[n35])(hn:n≤100000):ZA Tryz.prog 31 [.slice av n c,.slice bv n2 c2] I (.bool true):=by
 have h:=zyz hS.sl hT hS.nd (fun y hy=>by rw [List.mem_singleton.1 hy];exact Sl.nil) (zmZ hS.nd hd) hn
 rw [zrg hS.nd hd] at h;exact h
set_option maxRecDepth 100000 in
set_option maxHeartbeats 4000000 in
theorem zvp (I:Qu):ZA Tryz.prog 10 [] I (.bool true):=by
 intro g H w hw
 refine qe Tryz.func10 Tryz.ntmps10 hw ?_
 have hIc:=zz4 I
 refine zR (zA ?_)
 refine zN (zR ?_)
 refine zpc [_] rfl zq2 .nil (zqe _ 2) ?_
 rintro vv1 I1 L1 hI1 ⟨rfl,vr1,rfl,hV1⟩
 have hIc:=hIc.trans hI1
 obtain ⟨pa1,pn1,pc1,qa1,qn1,qc1,aa1,an1,ac1,ps1,qs1,rfl,hR1,he1⟩:=(show RmV _ vr1 (zfy 2) from hV1)
 obtain rfl:pn1=2:=(WH hR1 he1).1
 obtain rfl:qn1=0:=(WH hR1 he1).2.1
 refine zM ?_
 refine zE ?_
 refine zE ?_
 refine Qr zct rfl rfl (fun b_1=>?_)
 refine zh Ku ?_
 refine zA (Qb ?_)
 refine QF .here (fun I2 hI2 hb2=>?_)
 have hR1:=hR1.mono hI2;have hIc:=hIc.trans hI2
 have h1:=BxI.of hb2
 refine Qd (zR ?_)
 refine zpc [_] rfl zq2 .nil (zqe _ 0) ?_
 rintro vv3 I3 L3 hI3 ⟨rfl,vr3,rfl,hV3⟩
 have hR1:=hR1.mono hI3;have h1:=h1.mono hI3;have hIc:=hIc.trans hI3
 obtain ⟨pa3,pn3,pc3,qa3,qn3,qc3,aa3,an3,ac3,ps3,qs3,rfl,hR3,he3⟩:=(show RmV _ vr3 (zeroR) from hV3)
 refine zM ?_
 refine zE ?_
 refine zE ?_
 refine Qr zct rfl rfl (fun b_3=>?_)
 refine zh Ku ?_
 refine zA (Qb ?_)
 refine QF .here (fun I4 hI4 hb4=>?_)
 have hR1:=hR1.mono hI4;have h1:=h1.mono hI4;have hIc:=hIc.trans hI4
 have h3:=BxI.of hb4
 refine Qd ?_
 refine zY [(1,_),(2,_),(4,_)] (fun T L0 E I' loc'=>∃ (b5:Nat) (pa5:Option Addr) (pn5:Nat) (pc5:Nat) (qa5:Option Addr) (qn5:Nat) (qc5:Nat) (aa5:Option Addr) (an5:Nat) (ac5:Nat) (ps5:List Pe) (qs5:List Pk),E=(5,Zw b5)::(6,.int .i64 0)::T∧HLe I4 I'∧[]=loc'∧BxI I' b5 (.cells #[.slice pa5 pn5 pc5,.slice qa5 qn5 qc5,.slice aa5 an5 ac5] 28 (0,0))∧RmP I' pa5 pn5 pc5 qa5 qn5 qc5 aa5 an5 ac5 ps5 qs5 []∧VV ps5 qs5 []=rr1) ?_ ?_
 ·
  have hKc3:=zz4 I4
  have hD:=zz4 I4
  refine Zn ?_
  refine QL I4 [] mixed ?_
  refine zT 0 rfl (Qg rfl Jm (fun hg=>by exact BxI.cells (vs:=[_,_,_]) h1) rfl) hD ?_
  refine QS 1 7 rfl rfl kA ?_ ?_
  ·
   refine qcV (vs:=[_,_]) rfl zfr (zec _ 3 5) ?_
   refine Qb ?_
   refine zD hD ?_
   refine zT 2 rfl (QI (ps:=[(0,_),(1,_),(4,_)]) [_,_,_,_,_,_,_,_,_,_,_,_,_,_,_,_,_,_,_,_,_,_,_,_,_,_,_,_,_,_,_,_,_,_,_,_,_,_,_,_,_,_,_,_,_,_,_,_,_] zeI rfl rfl) hD ?_
   refine QS 3 7 rfl rfl kA ?_ ?_
   ·
    refine zpc [_,_] rfl zcK .nil (ziP hR1 he1 (zbu kD) e35 ⟨zhh _,znU⟩ zxY) ?_
    rintro vv5 I5 L5 hI5 ⟨rfl,vr5,rfl,hV5⟩
    have hKc3:=hKc3.trans hI5;have hD:=hD.trans hI5
    obtain ⟨pa5,pn5,pc5,qa5,qn5,qc5,aa5,an5,ac5,ps5,qs5,rfl,hR5,he5⟩:=(show RmV _ vr5 (rr1) from hV5)
    refine Qb ?_
    refine zD hD ?_
    refine zT 4 rfl (Qe rfl) hD ?_
    refine zT 5 rfl (Q2 rfl rfl) hD ?_
    refine zT 6 rfl (Q2 rfl rfl) hD ?_
    refine qd 7 rfl ?_
    refine Qr zct rfl rfl (fun b_5=>?_)
    refine Qb ?_
    refine zD hD ?_
    refine qd 8 rfl ?_
    refine zh Ku ?_
    refine QQ (b:=b_5) (by repeat (first | exact ZQ.here | apply ZQ.there)) (fun I6 hI6 hb6=>?_)
    have hR5:=hR5.mono hI6;have hKc3:=hKc3.trans hI6;have hD:=hD.trans hI6
    have h5:=BxI.of hb6
    refine Qb ?_
    refine zD hD ?_
    refine zT 9 rfl (Qv rfl) hD ?_
    refine Ql kA ?_
    refine Qt ?_
    exact zm (h:=⟨_,_,_,_,_,_,_,_,_,_,_,_,rfl,hKc3,rfl,h5,hR5,he5⟩)
   refine Qr zct rfl rfl (fun b_5=>?_)
   refine Qb ?_
   refine zD hD ?_
   refine qd 3 rfl ?_
   refine zpc [_,_] rfl zcK .nil (ziP hR1 he1 (zbu kD) e35 ⟨zhh _,znU⟩ zxY) ?_
   rintro vv7 I7 L7 hI7 ⟨rfl,vr5,rfl,hV5⟩
   have hKc3:=hKc3.trans hI7;have hD:=hD.trans hI7
   obtain ⟨pa5,pn5,pc5,qa5,qn5,qc5,aa5,an5,ac5,ps5,qs5,rfl,hR5,he5⟩:=(show RmV _ vr5 (rr1) from hV5)
   refine Qb ?_
   refine zD hD ?_
   refine zT 4 rfl (Qe rfl) hD ?_
   refine zT 5 rfl (Q2 rfl rfl) hD ?_
   refine zT 6 rfl (Q2 rfl rfl) hD ?_
   refine qd 8 rfl ?_
   refine zh Ku ?_
   refine QQ (b:=b_5) (by repeat (first | exact ZQ.here | apply ZQ.there)) (fun I8 hI8 hb8=>?_)
   have hR5:=hR5.mono hI8;have hKc3:=hKc3.trans hI8;have hD:=hD.trans hI8
   have h5:=BxI.of hb8
   refine Qb ?_
   refine zD hD ?_
   refine zT 9 rfl (Qv rfl) hD ?_
   refine Ql kA ?_
   refine Qt ?_
   exact zm (h:=⟨_,_,_,_,_,_,_,_,_,_,_,_,rfl,hKc3,rfl,h5,hR5,he5⟩)
  refine Qr zct rfl rfl (fun b_5=>?_)
  refine Qb ?_
  refine zD hD ?_
  refine qd 1 rfl ?_
  refine qcV (vs:=[_,_]) rfl zfr (zec _ 3 5) ?_
  refine Qb ?_
  refine zD hD ?_
  refine zT 2 rfl (QI (ps:=[(0,_),(1,_),(4,_)]) [_,_,_,_,_,_,_,_,_,_,_,_,_,_,_,_,_,_,_,_,_,_,_,_,_,_,_,_,_,_,_,_,_,_,_,_,_,_,_,_,_,_,_,_,_,_,_,_,_] zeI rfl rfl) hD ?_
  refine qd 3 rfl ?_
  refine zpc [_,_] rfl zcK .nil (ziP hR1 he1 (zbu kD) e35 ⟨zhh _,znU⟩ zxY) ?_
  rintro vv9 I9 L9 hI9 ⟨rfl,vr5,rfl,hV5⟩
  have hKc3:=hKc3.trans hI9;have hD:=hD.trans hI9
  obtain ⟨pa5,pn5,pc5,qa5,qn5,qc5,aa5,an5,ac5,ps5,qs5,rfl,hR5,he5⟩:=(show RmV _ vr5 (rr1) from hV5)
  refine Qb ?_
  refine zD hD ?_
  refine zT 4 rfl (Qe rfl) hD ?_
  refine zT 5 rfl (Q2 rfl rfl) hD ?_
  refine zT 6 rfl (Q2 rfl rfl) hD ?_
  refine qd 8 rfl ?_
  refine zh Ku ?_
  refine QQ (b:=b_5) (by repeat (first | exact ZQ.here | apply ZQ.there)) (fun I10 hI10 hb10=>?_)
  have hR5:=hR5.mono hI10;have hKc3:=hKc3.trans hI10;have hD:=hD.trans hI10
  have h5:=BxI.of hb10
  refine Qb ?_
  refine zD hD ?_
  refine zT 9 rfl (Qv rfl) hD ?_
  refine Ql kA ?_
  refine Qt ?_
  exact zm (h:=⟨_,_,_,_,_,_,_,_,_,_,_,_,rfl,hKc3,rfl,h5,hR5,he5⟩)
 rintro E J11 loc' ⟨b5,pa5,pn5,pc5,qa5,qn5,qc5,aa5,an5,ac5,ps5,qs5,rfl,hJ3,rfl,h5,hR5,he5⟩
 have hR1:=hR1.mono hJ3;have h1:=h1.mono hJ3;have hIc:=hIc.trans hJ3
 obtain rfl:pn5=2:=(WH hR5 he5).1
 obtain rfl:qn5=1:=(WH hR5 he5).2.1
 refine zR ?_
 refine zV (Qg rfl Jm (fun hg=>by exact BxI.cells (vs:=[_,_,_]) h1) rfl) ?_
 refine zV (QI (ps:=[(0,_)]) [_,_,_,_,_,_,_,_,_,_,_,_,_,_,_,_,_,_,_,_,_,_,_,_,_,_,_,_,_,_,_,_,_,_,_,_,_,_,_,_,_,_,_,_,_,_,_,_,_] zeI rfl rfl) ?_
 refine zpc [_,_] rfl zcK .nil (ziP hR1 he1 (zbu kD) eT0 ⟨Sl.nil,zaJ⟩ zzy) ?_
 rintro vv12 I12 L12 hI12 ⟨rfl,vr7,rfl,hV7⟩
 have hR1:=hR1.mono hI12;have h1:=h1.mono hI12;have h5:=h5.mono hI12;have hR5:=hR5.mono hI12;have hIc:=hIc.trans hI12
 obtain ⟨pa7,pn7,pc7,qa7,qn7,qc7,aa7,an7,ac7,ps7,qs7,rfl,hR7,he7⟩:=(show RmV _ vr7 (zeroR) from hV7)
 refine zM ?_
 refine zE ?_
 refine zE ?_
 refine Qr zct rfl rfl (fun b_7=>?_)
 refine zh Ku ?_
 refine zA (Qb ?_)
 refine QF .here (fun I13 hI13 hb13=>?_)
 have hR1:=hR1.mono hI13;have h1:=h1.mono hI13;have h5:=h5.mono hI13;have hR5:=hR5.mono hI13;have hIc:=hIc.trans hI13
 have h7:=BxI.of hb13
 refine Qd (zR ?_)
 refine zV (Qg rfl Jm (fun hg=>by exact BxI.cells (vs:=[_,_,_]) h1) rfl) ?_
 refine zV (QI (ps:=[(0,_)]) [_,_,_,_,_,_,_,_,_,_,_,_,_,_,_,_,_,_,_,_,_,_,_,_,_,_,_,_,_,_,_,_,_,_,_,_,_,_,_,_,_,_,_,_,_,_,_,_,_] zeI rfl rfl) ?_
 refine zpc [_,_] rfl zcK .nil (ziP hR1 he1 (zbu kD) eD0 ⟨Sl.nil,zaJ⟩ zzq) ?_
 rintro vv14 I14 L14 hI14 ⟨rfl,vr9,rfl,hV9⟩
 have h1:=h1.mono hI14;have h5:=h5.mono hI14;have hR5:=hR5.mono hI14;have hIc:=hIc.trans hI14
 obtain ⟨pa9,pn9,pc9,qa9,qn9,qc9,aa9,an9,ac9,ps9,qs9,rfl,hR9,he9⟩:=(show RmV _ vr9 (zeroR) from hV9)
 refine zM ?_
 refine zE ?_
 refine zE ?_
 refine Qr zct rfl rfl (fun b_9=>?_)
 refine zh Ku ?_
 refine zA (Qb ?_)
 refine QF .here (fun I15 hI15 hb15=>?_)
 have h1:=h1.mono hI15;have h5:=h5.mono hI15;have hR5:=hR5.mono hI15;have hIc:=hIc.trans hI15
 have h9:=BxI.of hb15
 refine Qd (zR ?_)
 refine zV (Qg rfl Jm (fun hg=>by exact BxI.cells (vs:=[_,_,_]) h5) rfl) ?_
 refine zV (QI (ps:=[(0,_)]) [_,_,_,_,_,_,_,_,_,_,_,_,_,_,_,_,_,_,_,_,_,_,_,_,_,_,_,_,_,_,_,_,_,_,_,_,_,_,_,_,_,_,_,_,_,_,_,_,_] zeI rfl rfl) ?_
 refine zpc [_,_] rfl zcK .nil (ziP hR5 he5 zwv eD0 ⟨Sl.nil,zaJ⟩ zzb) ?_
 rintro vv16 I16 L16 hI16 ⟨rfl,vr11,rfl,hV11⟩
 have h1:=h1.mono hI16;have h5:=h5.mono hI16;have hR5:=hR5.mono hI16;have hIc:=hIc.trans hI16
 obtain ⟨pa11,pn11,pc11,qa11,qn11,qc11,aa11,an11,ac11,ps11,qs11,rfl,hR11,he11⟩:=(show RmV _ vr11 (rr2) from hV11)
 obtain rfl:pn11=2:=(WH hR11 he11).1
 obtain rfl:qn11=0:=(WH hR11 he11).2.1
 refine zM ?_
 refine zE ?_
 refine zE ?_
 refine Qr zct rfl rfl (fun b_11=>?_)
 refine zh Ku ?_
 refine zA (Qb ?_)
 refine QF .here (fun I17 hI17 hb17=>?_)
 have h1:=h1.mono hI17;have h5:=h5.mono hI17;have hR5:=hR5.mono hI17;have hR11:=hR11.mono hI17;have hIc:=hIc.trans hI17
 have h11:=BxI.of hb17
 refine Qd (Qo (zR (zM ?_)))
 refine zC ?_
 refine zM ?_
 refine QK 2 rfl rfl rfl ?_
 refine zJ (Qa rfl YB) ?_
 refine zJ (Qc rfl JM (fun hg=>by exact QA.imm h1.out rfl)) ?_
 refine zJ (QU rfl Jk) ?_
 refine zJ (Qz rfl rfl rfl) ?_
 refine Zg rfl rfl rfl rfl rfl ?_
 refine zM ?_
 refine QK 8 rfl rfl rfl ?_
 refine zJ (Qe rfl) ?_
 refine zJ (Qz rfl rfl rfl) ?_
 refine Zg rfl rfl rfl rfl rfl ?_
 refine zM ?_
 refine QK 12 rfl rfl rfl ?_
 refine zJ (Qe rfl) ?_
 refine zJ (Qz rfl rfl rfl) ?_
 refine Zg rfl rfl rfl rfl rfl ?_
 refine zM ?_
 refine QK 16 rfl rfl rfl ?_
 refine zJ (Qa rfl YB) ?_
 refine zJ (Qc rfl JM (fun hg=>by exact QA.imm h5.out rfl)) ?_
 refine zJ (QU rfl Jk) ?_
 refine zJ (Qz rfl rfl rfl) ?_
 refine Zg rfl rfl rfl rfl rfl ?_
 refine zM ?_
 refine QK 22 rfl rfl rfl ?_
 refine zJ (Qe rfl) ?_
 refine zJ (Qz rfl rfl rfl) ?_
 refine Zg rfl rfl rfl rfl rfl ?_
 refine zM ?_
 refine QK 26 rfl rfl rfl ?_
 refine zJ (Qe rfl) ?_
 refine zJ (Qz rfl rfl rfl) ?_
 refine Zg rfl rfl rfl rfl rfl ?_
 refine zM ?_
 refine QK 30 rfl rfl rfl ?_
 refine zJ (Qe rfl) ?_
 refine zJ (Qz rfl rfl rfl) ?_
 refine Zg rfl rfl rfl rfl rfl ?_
 refine zM ?_
 refine QK 34 rfl rfl rfl ?_
 refine zJ (Qa rfl YB) ?_
 refine zJ (Qc rfl JM (fun hg=>by exact QA.imm h11.out rfl)) ?_
 refine zJ (QU rfl Jk) ?_
 refine zJ (Qz rfl rfl rfl) ?_
 refine Zg rfl rfl rfl rfl rfl ?_
 refine zN ?_
 refine zI ?_ ?_<;>intro hc103
 ·
  exact absurd hc103 kD
 refine Qp (Qd (zR ?_))
 refine qcV (vs:=[_,_]) rfl zfr (zec _ 3 5) ?_
 refine zpb [(0,_)] [Q4 n35] U1 (fun b_105=>?_)
 refine zA (Qb ?_)
 refine QF .here (fun I18 hI18 hb18=>?_)
 have h1:=h1.mono hI18;have h5:=h5.mono hI18;have hR5:=hR5.mono hI18;have hR11:=hR11.mono hI18;have h11:=h11.mono hI18;have hIc:=hIc.trans hI18
 have h13:=Sl.lit (enc:=Q4) [n35] rfl YV hb18
 refine Qd (Qo ?_)
 obtain ⟨q5,hq5,hq5e⟩:=zyu hR5 he5 (i:=0) rfl
 have hq5M:=hR5.pk q5 (List.mem_of_getElem? hq5)
 have hdq5:Wl q5.data=Wl (KA n35):=congrArg (fun p:Pk=>Wl p.data) hq5e
 obtain ⟨pb,hppb,hdpb⟩:=ztc hR5 he5 (i:=1) (xs:=[n35]) rfl
 have hnpb:=hR5.nt pb (List.mem_of_getElem? hppb)
 obtain ⟨pa,hppa,hdpa⟩:=ztc hR5 he5 (i:=0) (xs:=[]) rfl
 have hnpa:=hR5.nt pa (List.mem_of_getElem? hppa)
 have hpa0:(((pa.n:Nat):Int)==0)=true:=by rw [zu0 hnpa hdpa];rfl
 have hpbl:pb.n≤100000:=by have h1:=hnpb.sl.len;have h2:=congrArg List.length hdpb;rw [List.length_map] at h2;simp at h2;omega
 have hD:=zz4 I18
 refine Zn ?_
 refine QL I18 [] mixed ?_
 refine zT 0 rfl (Qa rfl YT) hD ?_
 refine zT 1 rfl (Qa rfl Zi) hD ?_
 refine zT 2 rfl (Qc rfl Zo (fun hg=>by exact QA.imm h5.out rfl)) hD ?_
 refine zT 3 rfl (QU rfl Zf) hD ?_
 refine zT 4 rfl (Qz rfl rfl rfl) hD ?_
 refine zT 5 rfl (Qe rfl) hD ?_
 refine zw 6 111 rfl (Qa rfl YT) hD ?_
 refine zw 7 111 rfl (Qa rfl Zi) hD ?_
 refine zw 8 111 rfl (Qc rfl Zo (fun hg=>by exact QA.imm h5.out rfl)) hD ?_
 refine zw 9 111 rfl (QE rfl rfl Zf hR5.q (fun hg=>kB)) hD ?_
 refine zw 10 111 rfl (Qa rfl zaD) hD ?_
 refine zw 11 111 rfl (Qc rfl Ww (fun hg=>by exact zz6 hR5.q hq5 (j:=2) rfl)) hD ?_
 refine zw 12 111 rfl (Zv rfl bst (fun hg=>hq5M.sl)) hD ?_
 refine qd 13 rfl ?_
 refine QP (dj:=111) rfl rfl rfl ?_
 refine qcV (vs:=[_,_]) rfl zfr (zec _ 3 5) ?_
 refine Qb ?_
 refine zD hD ?_
 refine qd 14 rfl ?_
 refine QP (dj:=111) rfl rfl rfl ?_
 refine zpc [_] rfl zar .nil (zas n35 (zhh _) kD zac.1 (Nat.le_trans zac.2.2 kD)) ?_
 rintro vv19 I19 L19 hI19 ⟨rfl,am,cm,rfl,hSm⟩
 have h1:=h1.mono hI19;have h5:=h5.mono hI19;have hR5:=hR5.mono hI19;have hR11:=hR11.mono hI19;have h11:=h11.mono hI19;have h13:=h13.mono hI19;have hnpb:=hnpb.mono hI19;have hIc:=hIc.trans hI19;have hD:=hD.trans hI19
 refine Qb ?_
 refine zD hD ?_
 refine qd 15 rfl ?_
 refine QP (dj:=111) rfl rfl rfl ?_
 refine zV (Zv rfl bst (fun hg=>hSm)) ?_
 refine Qb ?_
 refine zD hD ?_
 refine zw 16 111 rfl (Ky rfl rfl rfl) hD ?_
 rw [hdq5,ziZ]
 refine zT 17 rfl (QW rfl rfl rfl) hD ?_
 refine zT 18 rfl (Qe rfl) hD ?_
 refine zw 19 124 rfl (Qa rfl YB) hD ?_
 refine zw 24 124 rfl (Qe rfl) hD ?_
 refine qd 20 rfl ?_
 refine QP (dj:=124) rfl rfl rfl ?_
 refine zV (Qc rfl JM (fun hg=>by exact QA.imm h5.out rfl)) ?_
 refine Qb ?_
 refine zD hD ?_
 refine qd 21 rfl ?_
 refine QP (dj:=124) rfl rfl rfl ?_
 refine zV (QE rfl rfl Jk hR5.pe (fun hg=>kB)) ?_
 refine Qb ?_
 refine zD hD ?_
 refine zw 22 124 rfl (Qa rfl ZB) hD ?_
 refine qd 23 rfl ?_
 refine QP (dj:=124) rfl rfl rfl ?_
 refine zV (Qc rfl YY (fun hg=>by exact zzX hR5.pe hppb rfl)) ?_
 refine Qb ?_
 refine zD hD ?_
 refine qd 25 rfl ?_
 refine QP (dj:=124) rfl rfl rfl ?_
 refine qcV (vs:=[_,_]) rfl zke (ztX hnpb h13 hdpb kB) ?_
 refine Qb ?_
 refine zD hD ?_
 refine zT 26 rfl (QW rfl rfl rfl) hD ?_
 refine zT 27 rfl (Qe rfl) hD ?_
 refine zw 28 133 rfl (Qa rfl YB) hD ?_
 refine qd 29 rfl ?_
 refine QP (dj:=133) rfl rfl rfl ?_
 refine zV (Qc rfl JM (fun hg=>by exact QA.imm h5.out rfl)) ?_
 refine Qb ?_
 refine zD hD ?_
 refine qd 30 rfl ?_
 refine QP (dj:=133) rfl rfl rfl ?_
 refine zV (QE rfl rfl Jk hR5.pe (fun hg=>kB)) ?_
 refine Qb ?_
 refine zD hD ?_
 refine zw 31 133 rfl (Qa rfl ZB) hD ?_
 refine qd 32 rfl ?_
 refine QP (dj:=133) rfl rfl rfl ?_
 refine zV (Qc rfl YY (fun hg=>by exact zzX hR5.pe hppa rfl)) ?_
 refine Qb ?_
 refine zD hD ?_
 refine zw 33 133 rfl (QU rfl Q8) hD ?_
 refine zw 34 133 rfl (Qz rfl rfl rfl) hD ?_
 rw [hpa0]
 refine zT 35 rfl (QW rfl rfl rfl) hD ?_
 refine zT 36 rfl (Qv rfl) hD ?_
 refine Ql kA ?_
 refine Qt ?_
 refine Qd (Qo ?_)
 obtain ⟨pf,hppf,hdpf⟩:=ztc hR11 he11 (i:=0) (xs:=[n35]) rfl
 have hnpf:=hR11.nt pf (List.mem_of_getElem? hppf)
 have hpfl:pf.n≤100000:=by have h1:=hnpf.sl.len;have h2:=congrArg List.length hdpf;rw [List.length_map] at h2;simp at h2;omega
 refine Qi ?_
 refine zF YB ?_
 refine zV (Qc rfl JM (fun hg=>by exact QA.imm h11.out rfl)) ?_
 refine zV (QE rfl rfl Jk hR11.pe (fun hg=>kB)) ?_
 refine zV (Qg rfl KH (fun hg=>by exact zz5 hR11.pe hppf) rfl) ?_
 refine zpc [_] rfl zmp .nil (zfM hnpf kB) ?_
 rintro vv20 I20 L20 hI20 hW0
 have h1:=h1.mono hI20;have hR11:=hR11.mono hI20;have h11:=h11.mono hI20;have h13:=h13.mono hI20;have hnpf:=hnpf.mono hI20;have hIc:=hIc.trans hI20
 obtain ⟨rfl,a15,n15,c15,a16,n16,c16,a17,n17,c17,a18,n18,c18,rfl,hS15,hS16,_,_⟩:=zgp hW0 (zeG hdpf hnpf.nd)
 rw [ztH hdpf] at hS16
 obtain rfl:n16=1:=hS16.len.symm
 refine zM ?_
 refine zE ?_
 refine zE ?_
 refine zE ?_
 refine zE ?_
 refine zE ?_
 refine zA ?_
 refine zA ?_
 refine zA ?_
 refine zA ?_
 refine zA ?_
 refine zN (zR ?_)
 refine qcV (vs:=[_,_]) rfl zlz (zc6 _ 2 0) ?_
 refine qcV (vs:=[_,_]) rfl zlz (zc6 _ 4 4) ?_
 refine qcV (vs:=[_,_]) rfl zlz (zc6 _ 5 3) ?_
 refine zpb [(0,_),(1,_),(2,_)] [Q4 (Ym 2 0),Q4 (Ym 4 4),Q4 (Ym 5 3)] U1 (fun b_157=>?_)
 refine zV (QI (ps:=[(0,_)]) [_] zxi rfl rfl) ?_
 refine QQ (by repeat (first | exact ZQ.here | apply ZQ.there)) (fun I21 hI21 hb21=>?_)
 have h1:=h1.mono hI21;have hR11:=hR11.mono hI21;have h11:=h11.mono hI21;have h13:=h13.mono hI21;have hnpf:=hnpf.mono hI21;have hS16:=hS16.mono hI21;have hIc:=hIc.trans hI21
 have hLl:=Sl.lit (enc:=Q4) hL rfl YV hb21
 refine zpc [_] rfl zmp .nil (zfM ⟨hLl,fun x hx=>(zmH _ hx).1.nd,fun x hx _=>(zmH _ hx).1⟩ kD) ?_
 rintro vv22 I22 L22 hI22 hW0
 have h1:=h1.mono hI22;have hR11:=hR11.mono hI22;have h11:=h11.mono hI22;have h13:=h13.mono hI22;have hnpf:=hnpf.mono hI22;have hS16:=hS16.mono hI22;have hIc:=hIc.trans hI22
 obtain ⟨rfl,a20,n20,c20,a21,n21,c21,a22,n22,c22,a23,n23,c23,rfl,hS20,_,_,_⟩:=zgp hW0 zpw
 rw [zwJ] at hS20
 obtain rfl:n20=2:=hS20.len.symm
 refine zM ?_
 refine zE ?_
 refine zE ?_
 refine zE ?_
 refine zE ?_
 refine zE ?_
 refine zA ?_
 refine zA ?_
 refine zA ?_
 refine zA ?_
 refine zA ?_
 refine zN (zR ?_)
 refine zF YB ?_
 refine zV (Qc rfl JM (fun hg=>by exact QA.imm h11.out rfl)) ?_
 refine zV (QE rfl rfl Jk hR11.pe (fun hg=>kB)) ?_
 refine zV (Qg rfl KH (fun hg=>by exact zz5 hR11.pe hppf) rfl) ?_
 refine zpc [_] rfl zuI .nil (zkH hnpf kB) ?_
 rintro vv23 I23 L23 hI23 hW0
 have h1:=h1.mono hI23;have hR11:=hR11.mono hI23;have h11:=h11.mono hI23;have h13:=h13.mono hI23;have hnpf:=hnpf.mono hI23;have hS16:=hS16.mono hI23;have hS20:=hS20.mono hI23;have hIc:=hIc.trans hI23
 obtain ⟨rfl,a25,n25,c25,rs0,rfl,hRc,hrb⟩:=zud hW0 (zeG hdpf hnpf.nd)
 obtain ⟨rsl,rsb,rsn⟩:=zsz hRc hrb hdpf
 obtain rfl:n25=1:=by have h:=hRc.sl.len;omega
 refine zM ?_
 refine zE ?_
 refine zE ?_
 refine zA ?_
 refine zA ?_
 refine zN (zR ?_)
 refine zpb [] [] zc5 (fun b_174=>?_)
 refine zM ?_
 refine zpa (_) (rs0.flatMap zcx) ([(b_174,_)]) rfl rfl zc5 ZW.new (hRc.sl.src UU) (zll _) ?_
 intro v8 L8 hO8 _;rw [List.nil_append,Nat.zero_add] at hO8
 refine zM ?_
 refine zpa (_) (rs0.flatMap zcx) (L8) rfl rfl zc5 hO8 (hRc.sl.src UU) (zll _) ?_
 intro v9 L9 hO9 _;rw [←List.flatMap_append] at hO9
 refine zx7 hO9 UU (fun I24 hI24 af24 cf24 ef24 hZr=>?_)
 subst ef24
 have h1:=h1.mono hI24;have hR11:=hR11.mono hI24;have h11:=h11.mono hI24;have h13:=h13.mono hI24;have hnpf:=hnpf.mono hI24;have hS16:=hS16.mono hI24;have hS20:=hS20.mono hI24;have hRc:=hRc.mono hI24;have hIc:=hIc.trans hI24
 refine zpc [_] rfl zra .nil (zqz (rs:=rs0++rs0) ⟨hZr,fun r hr=>(List.mem_append.1 hr).elim (hRc.m r) (hRc.m r)⟩ kB (fun r hr=>rsn r ((List.mem_append.1 hr).elim id id))) ?_
 rintro vv25 I25 L25 hI25 hLd0
 have h1:=h1.mono hI25;have hR11:=hR11.mono hI25;have h11:=h11.mono hI25;have h13:=h13.mono hI25;have hnpf:=hnpf.mono hI25;have hS16:=hS16.mono hI25;have hS20:=hS20.mono hI25;have hIc:=hIc.trans hI25
 obtain ⟨rfl,a27,m27,c27,zs27,rfl,hLz⟩:=zvF hLd0 (by rw [List.length_append,rsl];decide) (fun r hr=>by rw [rsb r ((List.mem_append.1 hr).elim id id),zdZ zac];simp)
 have hLn:=hLz.nt
 have hdz:=zxt hLz (by intro h;rw [List.append_eq_nil_iff] at h;rw [h.1] at rsl;cases rsl) (fun r hr=>rsb r ((List.mem_append.1 hr).elim id id))
 refine zM ?_
 refine zE ?_
 refine zE ?_
 refine Qr zoa rfl rfl (fun b_27=>?_)
 refine zh zc2 ?_
 refine zA (Qb ?_)
 refine QF .here (fun I26 hI26 hb26=>?_)
 have h1:=h1.mono hI26;have hR11:=hR11.mono hI26;have h11:=h11.mono hI26;have h13:=h13.mono hI26;have hnpf:=hnpf.mono hI26;have hS16:=hS16.mono hI26;have hS20:=hS20.mono hI26;have hLn:=hLn.mono hI26;have hIc:=hIc.trans hI26
 have h27:=BxI.of hb26
 refine Qd (zR ?_)
 refine zpb [(0,_)] [zcx ⟨none,0,0,[]⟩] zc5 (fun b_183=>?_)
 refine QQ (by repeat (first | exact ZQ.here | apply ZQ.there)) (fun I27 hI27 hb27=>?_)
 have h1:=h1.mono hI27;have hR11:=hR11.mono hI27;have h11:=h11.mono hI27;have h13:=h13.mono hI27;have hnpf:=hnpf.mono hI27;have hS16:=hS16.mono hI27;have hS20:=hS20.mono hI27;have hLn:=hLn.mono hI27;have h27:=h27.mono hI27;have hIc:=hIc.trans hI27
 have hNl:=Sl.lit (enc:=zcx) [(⟨none,0,0,[]⟩:Hy)] rfl UU hb27
 refine zpc [_] rfl zra .nil (zqz (rs:=[⟨none,0,0,[]⟩]) ⟨hNl,fun r hr=>by rw [List.mem_singleton.1 hr];exact ⟨.nil,fun _ h=>(by cases h)⟩⟩ kD (fun r hr=>by rw [List.mem_singleton.1 hr];decide)) ?_
 rintro vv28 I28 L28 hI28 hLd0
 have h1:=h1.mono hI28;have hR11:=hR11.mono hI28;have h11:=h11.mono hI28;have h13:=h13.mono hI28;have hnpf:=hnpf.mono hI28;have hS16:=hS16.mono hI28;have hS20:=hS20.mono hI28;have hLn:=hLn.mono hI28;have h27:=h27.mono hI28;have hIc:=hIc.trans hI28
 obtain ⟨rfl,rfl⟩:=zyY hLd0 kD ⟨_,List.mem_singleton.2 rfl,zrT⟩
 refine zM ?_
 refine zE ?_
 refine zE ?_
 refine Qr zoa rfl rfl (fun b_29=>?_)
 refine zh zc2 ?_
 refine zA (Qb ?_)
 refine QF .here (fun I29 hI29 hb29=>?_)
 have h1:=h1.mono hI29;have hR11:=hR11.mono hI29;have h11:=h11.mono hI29;have h13:=h13.mono hI29;have hnpf:=hnpf.mono hI29;have hS16:=hS16.mono hI29;have hS20:=hS20.mono hI29;have hLn:=hLn.mono hI29;have h27:=h27.mono hI29;have hIc:=hIc.trans hI29
 have h29:=BxI.of hb29
 refine Qd (zR (zM ?_))
 refine zM ?_
 refine QP (dj:=188) rfl rfl rfl ?_
 refine zF YB ?_
 refine QP (dj:=188) rfl rfl rfl ?_
 refine zV (Qc rfl JM (fun hg=>by exact QA.imm h11.out rfl)) ?_
 refine QP (dj:=188) rfl rfl rfl ?_
 refine zV (QE rfl rfl Jk hR11.pe (fun hg=>kB)) ?_
 refine QP (dj:=188) rfl rfl rfl ?_
 refine zF ZB ?_
 refine QP (dj:=188) rfl rfl rfl ?_
 refine zV (Qc rfl YY (fun hg=>by exact zzX hR11.pe hppf rfl)) ?_
 refine QP (dj:=188) rfl rfl rfl ?_
 refine zM ?_
 refine QP (dj:=188) rfl rfl rfl ?_
 refine qcV (vs:=[_,_]) rfl zke (ztX hnpf h13 hdpf kB) ?_
 refine zV (QW rfl rfl rfl) ?_
 refine zM ?_
 refine QP (dj:=197) rfl rfl rfl ?_
 refine zF YT ?_
 refine QP (dj:=197) rfl rfl rfl ?_
 refine zF Zi ?_
 refine QP (dj:=197) rfl rfl rfl ?_
 refine zV (Qc rfl Zo (fun hg=>by exact QA.imm h11.out rfl)) ?_
 refine QP (dj:=197) rfl rfl rfl ?_
 refine zQ Zf ?_
 refine QP (dj:=197) rfl rfl rfl ?_
 refine zC ?_
 refine zV (QW rfl rfl rfl) ?_
 refine zM ?_
 refine QP (dj:=204) rfl rfl rfl ?_
 refine zV (QI (ps:=[]) [_,_,_] zhr rfl rfl) ?_
 refine QP (dj:=204) rfl rfl rfl ?_
 refine zpc [_] rfl zl8 .nil (zgZ zp6 (r:=zeroR) rfl zsf zoR) ?_
 rintro vv30 I30 L30 hI30 ⟨rfl,rfl⟩
 have h1:=h1.mono hI30;have hR11:=hR11.mono hI30;have h11:=h11.mono hI30;have h13:=h13.mono hI30;have hS16:=hS16.mono hI30;have hS20:=hS20.mono hI30;have hLn:=hLn.mono hI30;have h27:=h27.mono hI30;have hIc:=hIc.trans hI30
 refine QP (dj:=204) rfl rfl rfl ?_
 refine zC ?_
 refine zV (QW rfl rfl rfl) ?_
 refine zM ?_
 refine QP (dj:=209) rfl rfl rfl ?_
 refine zV (Qg rfl Jm (fun hg=>by exact BxI.cells (vs:=[_,_,_]) h11) rfl) ?_
 refine QP (dj:=209) rfl rfl rfl ?_
 refine zpc [_] rfl zl8 .nil (zgZ hR11 he11 zwl zsN) ?_
 rintro vv31 I31 L31 hI31 ⟨rfl,rfl⟩
 have h1:=h1.mono hI31;have h13:=h13.mono hI31;have hS16:=hS16.mono hI31;have hS20:=hS20.mono hI31;have hLn:=hLn.mono hI31;have h27:=h27.mono hI31;have hIc:=hIc.trans hI31
 refine QP (dj:=209) rfl rfl rfl ?_
 refine zC ?_
 refine zV (QW rfl rfl rfl) ?_
 refine zA (zN (Qo ?_))
 have hzl:m27≤100000:=by have h1:=hLn.sl.len;have h2:=congrArg List.length hdz;rw [List.length_map] at h2;simp at h2;omega
 have hD:=zz4 I31
 refine Zn ?_
 refine QL I31 [] mixed ?_
 refine zT 0 rfl (Qe rfl) hD ?_
 refine zT 1 rfl (Qe rfl) hD ?_
 refine zw 2 215 rfl (Qe rfl) hD ?_
 refine zw 3 215 rfl (Qz rfl rfl rfl) hD ?_
 refine zT 4 rfl (QW rfl rfl rfl) hD ?_
 refine zT 5 rfl (Qe rfl) hD ?_
 refine zw 6 219 rfl (Qe rfl) hD ?_
 refine zw 7 219 rfl (Qz rfl rfl rfl) hD ?_
 refine zT 8 rfl (QW rfl rfl rfl) hD ?_
 refine zT 9 rfl (Qe rfl) hD ?_
 refine zw 10 223 rfl (Qe rfl) hD ?_
 refine zw 11 223 rfl (Qz rfl rfl rfl) hD ?_
 refine zT 12 rfl (QW rfl rfl rfl) hD ?_
 refine zT 13 rfl (Qe rfl) hD ?_
 refine zw 14 227 rfl (Qe rfl) hD ?_
 refine zw 15 227 rfl (Qz rfl rfl rfl) hD ?_
 refine zT 16 rfl (QW rfl rfl rfl) hD ?_
 refine zT 17 rfl (Qe rfl) hD ?_
 refine zw 18 231 rfl (Qe rfl) hD ?_
 refine zw 19 231 rfl (Qz rfl rfl rfl) hD ?_
 refine zT 20 rfl (QW rfl rfl rfl) hD ?_
 refine zT 21 rfl (Qe rfl) hD ?_
 refine zw 22 235 rfl (Qe rfl) hD ?_
 refine zw 23 235 rfl (QU rfl Zx) hD ?_
 refine zw 24 235 rfl (Qz rfl rfl rfl) hD ?_
 refine zT 25 rfl (QW rfl rfl rfl) hD ?_
 refine zT 26 rfl (Qe rfl) hD ?_
 refine zw 27 240 rfl (Qe rfl) hD ?_
 refine zw 28 240 rfl (zX Zx hS20) hD ?_
 refine zw 29 240 rfl (Qa rfl Ye) hD ?_
 refine zw 30 240 rfl (Qc rfl Qm (fun hg=>by exact zzX hS20 (k:=0) rfl rfl)) hD ?_
 refine zw 31 240 rfl (Qz rfl rfl rfl) hD ?_
 refine zT 32 rfl (QW rfl rfl rfl) hD ?_
 refine zT 33 rfl (Qe rfl) hD ?_
 refine zw 34 247 rfl (Qe rfl) hD ?_
 refine zw 35 247 rfl (zX Zx hS20) hD ?_
 refine zw 36 247 rfl (Qa rfl Ye) hD ?_
 refine zw 37 247 rfl (Qc rfl Qm (fun hg=>by exact zzX hS20 (k:=1) rfl rfl)) hD ?_
 refine zw 38 247 rfl (Qz rfl rfl rfl) hD ?_
 refine zT 39 rfl (QW rfl rfl rfl) hD ?_
 refine zT 40 rfl (Qe rfl) hD ?_
 refine zw 41 254 rfl (Qe rfl) hD ?_
 refine zw 42 254 rfl (QU rfl Vz) hD ?_
 refine zw 43 254 rfl (Qz rfl rfl rfl) hD ?_
 refine zT 44 rfl (QW rfl rfl rfl) hD ?_
 refine zT 45 rfl (Qe rfl) hD ?_
 refine zw 46 259 rfl (Qe rfl) hD ?_
 refine zw 47 259 rfl (zX Vz hS16) hD ?_
 refine zw 48 259 rfl (Qg rfl VX (fun hg=>by exact zz5 hS16 (k:=0) rfl) rfl) hD ?_
 refine qd 49 rfl ?_
 refine QP (dj:=259) rfl rfl rfl ?_
 refine qcV (vs:=[_,_]) rfl zfr (zec _ 3 5) ?_
 refine Qb ?_
 refine zD hD ?_
 refine qd 50 rfl ?_
 refine QP (dj:=259) rfl rfl rfl ?_
 refine zV (ziO [_,_,_,_,_] rfl zo8 rfl) ?_
 refine Qb ?_
 refine zD hD ?_
 refine zw 51 259 rfl (Ue rfl rfl ze7 rfl) hD ?_
 refine zT 52 rfl (QW rfl rfl rfl) hD ?_
 refine zT 53 rfl (Qe rfl) hD ?_
 refine zw 54 267 rfl (Qe rfl) hD ?_
 refine zw 55 267 rfl (QU rfl zg7) hD ?_
 refine zw 56 267 rfl (Qz rfl rfl rfl) hD ?_
 refine zT 57 rfl (QW rfl rfl rfl) hD ?_
 refine zT 58 rfl (Qe rfl) hD ?_
 refine zw 59 272 rfl (Qa rfl ZB) hD ?_
 refine zw 60 272 rfl (Qc rfl YY (fun hg=>by exact QA.imm h27.out rfl)) hD ?_
 refine zw 61 272 rfl (Qe rfl) hD ?_
 refine qd 62 rfl ?_
 refine QP (dj:=272) rfl rfl rfl ?_
 refine qcV (vs:=[_,_]) rfl zke (ztX hLn h13 hdz kB) ?_
 refine Qb ?_
 refine zD hD ?_
 refine zT 63 rfl (QW rfl rfl rfl) hD ?_
 refine zT 64 rfl (Qv rfl) hD ?_
 refine Ql kA ?_
 refine Qt ?_
 refine Qd (Qs ?_)
 exact Qy rfl rfl (fun w hw=>⟨by rfl,(hw.mono hIc).subL QC⟩)
end
section
open Go Go.Kn Go.Proofs
section
variable {I:Qu} {pa qa aa:Option Addr} {pn pc qn qc an ac m k:Nat} {ps:List Pe} {qs:List Pk} {ks:List (Int×Int)} {r:Rd} {ts:List Nt}
theorem zpz {x:Nt}(hN:Nd I x.pt)(hf:QM (YN x)=true):x.pt.n≤100000:=by
 have hl:x.pt.needs.length=x.pt.n:=hN.len
 have:=(XL hl (by rw [←Jt hl.symm];exact hf)).1
 omega
end
end
section
open Go Go.Kn Go.Proofs
theorem zwZ:Fun Tryz.prog 10:=.of Tryz.func10 kA kA
end
end Go.Proofs.YtjblkbkmblkgoaaGreat
namespace Go.Kn
section
open Go Go.Proofs
theorem zaq:∀ (a b:List UInt8),Op.bytesLess a b=decide (Lib.compareBytes a b<0)
 | [],[]=>rfl
 | [],_::_=>rfl
 | _::_,[]=>rfl
 | x::a,y::b=>by
  unfold Op.bytesLess Lib.compareBytes
  rw [zaq a b]
  by_cases h:x<y
  ·
   simp [h]
  ·
   by_cases h2:y<x
   ·
    have:(x==y)=false:=by
     rw [beq_eq_false_iff_ne];rintro rfl;exact h h2
    simp [h,h2,this]
   ·
    have e:x=y:=UInt8.le_antisymm (UInt8.not_lt.1 h2) (UInt8.not_lt.1 h)
    subst e;simp [h]
section
variable {C:Cx} {E:Env} {I:Qu} {loc:Loc} {S:GS} {dst:Option Tmp} {pos:String} {af:Array Edge} {gd:Option (Nat×Bool)} {x y:Operand}
theorem WA {t t' ty:TypeId}{s1 s2:ByteArray}(hx:QD S E x=some (.string s1))(hy:QD S E y=some (.string s2)):QT C S E I loc ⟨dst,.binOp .lss t x y t',ty,pos,af,gd⟩ (.bool (decide (Lib.compareBytes s1.data.toList s2.data.toList<0))):=
 .of kE fun a w ha hg hc _=>by
  have e1:∀ op x y t (a b:ByteArray),(eqGuard op t x y (.string a) (.string b)).run C.P w= .ok () w:=by intros;unfold eqGuard;rename_i op _ _ _ _ _;cases op<;>rfl
  have e3:decide (Lib.compareBytes s1.data.toList s2.data.toList<0)=Op.bytesLess s1.toList s2.toList:=by rw [ByteArray.toList_eq,ByteArray.toList_eq,zaq]
  rw [e3]
  simp only [execOp,Qh ha hg hc hx,Qh ha hg hc hy,Sem.run_bind,e1,Result.andThen]
  rfl
end
end
end Go.Kn
namespace Go.Proofs.YtjblkbkmblkgoaaGreat
section
open Go Go.Kn Go.Proofs
theorem zwX:Fun Tryz.prog 88:=.of Tryz.func88 kA kA
theorem zok {I:Qu}(x y:Nt)(hX:NtM I x)(hY:NtM I y):Vs Tryz.prog 88 [Ke x,Ke y] I [] (fun v I' L'=>L'=[]∧v= .bool (decide (Vv x y<0))):=by
 intro g H w hw
 refine qe Tryz.func88 Tryz.ntmps88 hw ?_
 have hIc:=zz4 I
 refine zR ?_
 refine QO rfl rfl rfl (fun b_2=>?_)
 refine QO rfl rfl rfl (fun b_3=>?_)
 refine zA (Qb ?_)
 refine QF .here (fun I1 hI1 hb1=>?_)
 have hX:=hX.mono hI1;have hY:=hY.mono hI1;have hIc:=hIc.trans hI1
 have h3:=BxI.of hb1
 refine QF .here (fun I2 hI2 hb2=>?_)
 have hX:=hX.mono hI2;have hY:=hY.mono hI2;have h3:=h3.mono hI2;have hIc:=hIc.trans hI2
 have h2:=BxI.of hb2
 refine Qd (Qo ?_)
 have hD:=zz4 I2
 refine Zn ?_
 refine QL I2 [] mixed ?_
 refine zT 0 rfl (Qg rfl Q7 (fun hg=>by exact BxI.cells (vs:=Q4 x) h2) rfl) hD ?_
 refine QS 1 3 rfl rfl kA ?_ ?_
 ·
  refine zpc [_] rfl zar .nil (zas x hX.nd hX.nn hX.ok hX.len) ?_
  rintro vv3 I3 L3 hI3 ⟨rfl,a1,c1,rfl,hS1⟩
  have hY:=hY.mono hI3;have h3:=h3.mono hI3;have hIc:=hIc.trans hI3;have hD:=hD.trans hI3
  refine Qb ?_
  refine zD hD ?_
  refine QS 2 3 rfl rfl kA ?_ ?_
  ·
   refine zV (Zv rfl bst (fun hg=>hS1)) ?_
   refine Qb ?_
   refine zD hD ?_
   refine qd 3 rfl ?_
   refine zV (Qg rfl Q7 (fun hg=>by exact BxI.cells (vs:=Q4 y) h3) rfl) ?_
   refine Qb ?_
   refine zD hD ?_
   refine qd 4 rfl ?_
   refine zpc [_] rfl zar .nil (zas y hY.nd hY.nn hY.ok hY.len) ?_
   rintro vv4 I4 L4 hI4 ⟨rfl,a2,c2,rfl,hS2⟩
   have hIc:=hIc.trans hI4;have hD:=hD.trans hI4
   refine Qb ?_
   refine zD hD ?_
   refine qd 5 rfl ?_
   refine zV (Zv rfl bst (fun hg=>hS2)) ?_
   refine Qb ?_
   refine zD hD ?_
   refine zT 6 rfl (WA rfl rfl) hD ?_
   refine zT 7 rfl (Qv rfl) hD ?_
   refine Ql kA ?_
   refine Qt ?_
   refine Qd (Qs ?_)
   exact Qy rfl rfl (fun w hw=>⟨_,I4,[],rfl,hIc,hw.subL QC,rfl,rfl⟩)
  refine zV (Qg rfl Q7 (fun hg=>by exact BxI.cells (vs:=Q4 y) h3) rfl) ?_
  refine Qb ?_
  refine zD hD ?_
  refine QS 2 4 rfl rfl kA ?_ ?_
  ·
   refine zV (Zv rfl bst (fun hg=>hS1)) ?_
   refine Qb ?_
   refine zD hD ?_
   refine qd 4 rfl ?_
   refine zpc [_] rfl zar .nil (zas y hY.nd hY.nn hY.ok hY.len) ?_
   rintro vv5 I5 L5 hI5 ⟨rfl,a2,c2,rfl,hS2⟩
   have hIc:=hIc.trans hI5;have hD:=hD.trans hI5
   refine Qb ?_
   refine zD hD ?_
   refine qd 5 rfl ?_
   refine zV (Zv rfl bst (fun hg=>hS2)) ?_
   refine Qb ?_
   refine zD hD ?_
   refine zT 6 rfl (WA rfl rfl) hD ?_
   refine zT 7 rfl (Qv rfl) hD ?_
   refine Ql kA ?_
   refine Qt ?_
   refine Qd (Qs ?_)
   exact Qy rfl rfl (fun w hw=>⟨_,I5,[],rfl,hIc,hw.subL QC,rfl,rfl⟩)
  refine zpc [_] rfl zar .nil (zas y hY.nd hY.nn hY.ok hY.len) ?_
  rintro vv6 I6 L6 hI6 ⟨rfl,a2,c2,rfl,hS2⟩
  have hS1:=hS1.mono hI6;have hIc:=hIc.trans hI6;have hD:=hD.trans hI6
  refine Qb ?_
  refine zD hD ?_
  refine QS 2 5 rfl rfl kA ?_ ?_
  ·
   refine zV (Zv rfl bst (fun hg=>hS1)) ?_
   refine Qb ?_
   refine zD hD ?_
   refine qd 5 rfl ?_
   refine zV (Zv rfl bst (fun hg=>hS2)) ?_
   refine Qb ?_
   refine zD hD ?_
   refine zT 6 rfl (WA rfl rfl) hD ?_
   refine zT 7 rfl (Qv rfl) hD ?_
   refine Ql kA ?_
   refine Qt ?_
   refine Qd (Qs ?_)
   exact Qy rfl rfl (fun w hw=>⟨_,I6,[],rfl,hIc,hw.subL QC,rfl,rfl⟩)
  refine zV (Zv rfl bst (fun hg=>hS2)) ?_
  refine Qb ?_
  refine zD hD ?_
  refine qd 2 rfl ?_
  refine zV (Zv rfl bst (fun hg=>hS1)) ?_
  refine Qb ?_
  refine zD hD ?_
  refine zT 6 rfl (WA rfl rfl) hD ?_
  refine zT 7 rfl (Qv rfl) hD ?_
  refine Ql kA ?_
  refine Qt ?_
  refine Qd (Qs ?_)
  exact Qy rfl rfl (fun w hw=>⟨_,I6,[],rfl,hIc,hw.subL QC,rfl,rfl⟩)
 refine zV (Qg rfl Q7 (fun hg=>by exact BxI.cells (vs:=Q4 y) h3) rfl) ?_
 refine Qb ?_
 refine zD hD ?_
 refine qd 1 rfl ?_
 refine zpc [_] rfl zar .nil (zas x hX.nd hX.nn hX.ok hX.len) ?_
 rintro vv7 I7 L7 hI7 ⟨rfl,a1,c1,rfl,hS1⟩
 have hY:=hY.mono hI7;have hIc:=hIc.trans hI7;have hD:=hD.trans hI7
 refine Qb ?_
 refine zD hD ?_
 refine QS 2 4 rfl rfl kA ?_ ?_
 ·
  refine zV (Zv rfl bst (fun hg=>hS1)) ?_
  refine Qb ?_
  refine zD hD ?_
  refine qd 4 rfl ?_
  refine zpc [_] rfl zar .nil (zas y hY.nd hY.nn hY.ok hY.len) ?_
  rintro vv8 I8 L8 hI8 ⟨rfl,a2,c2,rfl,hS2⟩
  have hIc:=hIc.trans hI8;have hD:=hD.trans hI8
  refine Qb ?_
  refine zD hD ?_
  refine qd 5 rfl ?_
  refine zV (Zv rfl bst (fun hg=>hS2)) ?_
  refine Qb ?_
  refine zD hD ?_
  refine zT 6 rfl (WA rfl rfl) hD ?_
  refine zT 7 rfl (Qv rfl) hD ?_
  refine Ql kA ?_
  refine Qt ?_
  refine Qd (Qs ?_)
  exact Qy rfl rfl (fun w hw=>⟨_,I8,[],rfl,hIc,hw.subL QC,rfl,rfl⟩)
 refine zpc [_] rfl zar .nil (zas y hY.nd hY.nn hY.ok hY.len) ?_
 rintro vv9 I9 L9 hI9 ⟨rfl,a2,c2,rfl,hS2⟩
 have hS1:=hS1.mono hI9;have hIc:=hIc.trans hI9;have hD:=hD.trans hI9
 refine Qb ?_
 refine zD hD ?_
 refine QS 2 5 rfl rfl kA ?_ ?_
 ·
  refine zV (Zv rfl bst (fun hg=>hS1)) ?_
  refine Qb ?_
  refine zD hD ?_
  refine qd 5 rfl ?_
  refine zV (Zv rfl bst (fun hg=>hS2)) ?_
  refine Qb ?_
  refine zD hD ?_
  refine zT 6 rfl (WA rfl rfl) hD ?_
  refine zT 7 rfl (Qv rfl) hD ?_
  refine Ql kA ?_
  refine Qt ?_
  refine Qd (Qs ?_)
  exact Qy rfl rfl (fun w hw=>⟨_,I9,[],rfl,hIc,hw.subL QC,rfl,rfl⟩)
 refine zV (Zv rfl bst (fun hg=>hS2)) ?_
 refine Qb ?_
 refine zD hD ?_
 refine qd 2 rfl ?_
 refine zV (Zv rfl bst (fun hg=>hS1)) ?_
 refine Qb ?_
 refine zD hD ?_
 refine zT 6 rfl (WA rfl rfl) hD ?_
 refine zT 7 rfl (Qv rfl) hD ?_
 refine Ql kA ?_
 refine Qt ?_
 refine Qd (Qs ?_)
 exact Qy rfl rfl (fun w hw=>⟨_,I9,[],rfl,hIc,hw.subL QC,rfl,rfl⟩)
end
section
open Go Go.Kn Go.Proofs
section
variable {α:Type} {num:Nt→Int} {prt:Nt→α} {kind:Int} {chk:List α→Int} {d:α} {f:α→α}
theorem zpv (xs:List Nt):(Wo num prt kind chk d xs).length≤xs.length:=by
 have k1:∀ (xs:List Nt) (m:List (Int×α)),(xs.foldl (WR num prt kind) m).length≤m.length+xs.length:=by
  intro xs
  induction xs with
  | nil=>intro m;simp
  | cons x xs ih=>
   intro m
   rw [List.foldl_cons]
   have h1:(WR num prt kind m x).length≤m.length+1:=by unfold WR;split<;>simp
   have:=ih (WR num prt kind m x)
   simp only [List.length_cons];omega
 have k2:∀ (ns:List Int) (m:List (Int×α)) (l:List α),(ns.foldl (zbW chk d m) l).length≤l.length+ns.length:=by
  intro ns m
  induction ns with
  | nil=>intro l;simp
  | cons n ns ih=>
   intro l
   rw [List.foldl_cons]
   have h1:(zbW chk d m l n).length≤l.length+1:=by unfold zbW;split<;>simp
   have:=ih (zbW chk d m l n)
   simp only [List.length_cons];omega
 unfold Wo zfB
 have h1:=k2 (KU ((ZY num prt kind xs).map (·.1))) (ZY num prt kind xs) []
 have h2:=k1 xs []
 rw [zkw,List.length_map] at h1
 simp only [List.length_nil,Nat.zero_add] at h1 h2
 unfold ZY at h1
 exact Nat.le_trans h1 h2
end
theorem zme {xs:List Nt}(h:∀ x∈xs,x.pt.n≤100000):∀ p∈wPt xs,p.n≤100000:=fun p hp=>by
 rcases zd2 p hp with rfl | ⟨x,hx,rfl⟩
 ·
  exact Nat.zero_le _
 ·
  exact h x hx
end
section
open Go Go.Kn Go.Proofs
theorem zvv:Fun Tryz.prog 28:=.of Tryz.func28 kA kA
end
section
open Go Go.Kn Go.Proofs
theorem zw6 (cl cn:Int):zfA 1 cl cn=(Vw cl 0 2&&Vw cn 1 3):=by
 show (if Vw cl 0 2 then Vw cn 1 3 else false)=_
 cases Vw cl 0 2<;>rfl
theorem zvM (cl cn:Int):zfA 2 cl cn=(Vw cl 0 2&&Vw cn 1 1048576):=by
 show (if Vw cl 0 2 then Vw cn 1 1048576 else false)=_
 cases Vw cl 0 2<;>rfl
theorem zdJ (cl:Int):Vw cl 0 0=(cl==0):=by
 rw [Bool.eq_iff_iff];simp [Vw];omega
theorem zvm (cl cn:Int):zfA 3 cl cn=((cl==0)&&Vw cn 1 16):=by
 rw [←zdJ]
 show (if Vw cl 0 0 then Vw cn 1 16 else false)=_
 cases Vw cl 0 0<;>rfl
theorem zxb (cl cn:Int):zfA 4 cl cn=((cl==0)&&Vw cn 0 16):=by
 rw [←zdJ]
 show (if Vw cl 0 0 then Vw cn 0 16 else false)=_
 cases Vw cl 0 0<;>rfl
theorem zw9 (cl cn:Int):zfA 5 cl cn=((cl==0)&&Vw cn 0 500):=by
 rw [←zdJ]
 show (if Vw cl 0 0 then Vw cn 0 500 else false)=_
 cases Vw cl 0 0<;>rfl
theorem zw4 (cl cn:Int):zfA 6 cl cn=((cl==0)&&Vw cn 0 1048576):=by
 rw [←zdJ]
 show (if Vw cl 0 0 then Vw cn 0 1048576 else false)=_
 cases Vw cl 0 0<;>rfl
theorem zlo {ck cl cn:Int}(h1:ck≠1)(h2:ck≠2)(h3:ck≠3)(h4:ck≠4)(h5:ck≠5)(h6:ck≠6):zfA ck cl cn=false:=
 znd (by simp [Vw];omega)
def okL (y x:Lm):Bool:=((y.no+1==x.ends)&&(y.person==x.person))&&decide (y.known≤x.known)
def ziJ (pre:List Lm)(x:Lm):Bool:=if x.ends=0 then true else if pre.any (fun y=>y.ends==x.ends) then false else pre.any (okL · x)
def rA (pre:List Lm)(x:Lm):Bool:=(!Vw x.no 0 1048576||(match pre.getLast? with | none=>false | some y=>decide (x.no≤y.no)))|| !Vw x.person 0 63
structure zxv (pre:List Lm):Prop where
 rng:∀ y∈pre,0≤y.no∧y.no≤1048576
 inc:pre.Pairwise (fun a b=>a.no<b.no)
 last:∀ y∈pre,y.no≤WL pre
theorem zlN {xs:List Lm}:∀ {k:Nat},(∀ j y,j<k→xs[j]? =some y→zcq (xs.take j) y=false)→k≤xs.length→zxv (xs.take k)
 | 0,_,_=>⟨fun y hy=>(by simp at hy),by simp,fun y hy=>(by simp at hy)⟩
 | k+1,h,hk=>by
  have ih:=zlN (k:=k) (fun j y hj hy=>h j y kB hy) kB
  have hx:xs[k]? =some xs[k]:=List.getElem?_eq_getElem kB
  have hb:=h k _ kB hx
  have ha:zp1 (WL (xs.take k)) xs[k]=false:=by
   unfold zcq at hb;simp only [Bool.or_eq_false_iff] at hb;exact hb.1.1.1
  unfold zp1 at ha
  simp only [Bool.or_eq_false_iff,decide_eq_false_iff_not] at ha
  have hl: -1≤WL (xs.take k):=by
   unfold WL
   cases hg:(xs.take k).getLast? with
   | none=>simp
   | some y=>
    have:=ih.rng y (List.mem_of_getLast? hg)
    simp;omega
  have hno:WL (xs.take k)<xs[k].no:=kB
  rw [Zd hx]
  refine ⟨fun y hy=>?_,List.pairwise_append.2 ⟨ih.inc,by simp,fun a ha b hb=>?_⟩,fun y hy=>?_⟩
  ·
   rcases List.mem_append.1 hy with hy | hy
   ·
    exact ih.rng y hy
   ·
    rw [List.mem_singleton.1 hy];omega
  ·
   rw [List.mem_singleton.1 hb]
   have:=ih.last a ha;omega
  ·
   rw [Ko]
   rcases List.mem_append.1 hy with hy | hy
   ·
    have:=ih.last y hy;omega
   ·
    rw [List.mem_singleton.1 hy];omega
theorem zyO {pre:List Lm}{x:Lm}(h:zxv pre):zp1 (WL pre) x=rA pre x:=by
 unfold zp1 rA WL
 cases hg:pre.getLast? with
 | none=>
  simp only [Bool.or_false]
  congr 1
  rw [Bool.eq_iff_iff];simp [Vw];omega
 | some y=>
  have:=h.rng y (List.mem_of_getLast? hg)
  simp only
  congr 1
  rw [Bool.eq_iff_iff];simp [Vw];omega
theorem zdR {pre:List Lm}(h:pre.Pairwise (fun a b=>a.no<b.no))(n:Int)(y:Lm):Zt (knM pre) n=some y↔y∈pre∧y.no=n:=by
 have key:∀ (l pre:List Lm),(∀ n y,Zt (knM pre) n=some y↔y∈pre∧y.no=n)→(pre++l).Pairwise (fun a b=>a.no<b.no)→∀ n y,Zt (knM (pre++l)) n=some y↔y∈pre++l∧y.no=n:=by
  intro l
  induction l with
  | nil=>intro pre h _;simpa using h
  | cons x l ih=>
   intro pre h hp
   rw [show pre++x::l=(pre++[x])++l by simp] at hp ⊢
   refine ih (pre++[x]) (fun n y=>?_) hp
   rw [U8,VZ]
   have hlt:∀ z∈pre,z.no<x.no:=fun z hz=>(List.pairwise_append.1 (List.pairwise_append.1 hp).1).2.2 z hz x (List.mem_singleton.2 rfl)
   split
   ·
    rename_i e
    subst e
    constructor
    ·
     intro e;cases e;simp
    ·
     rintro ⟨hm,e⟩
     rcases List.mem_append.1 hm with hm | hm
     ·
      have:=hlt y hm;omega
     ·
      rw [List.mem_singleton.1 hm]
   ·
    rename_i e
    rw [h n y]
    constructor
    ·
     rintro ⟨a,b⟩;exact ⟨List.mem_append_left _ a,b⟩
    ·
     rintro ⟨a,b⟩
     rcases List.mem_append.1 a with a | a
     ·
      exact ⟨a,b⟩
     ·
      rw [List.mem_singleton.1 a] at b;exact absurd b e
 have:=key pre [] (fun n y=>by simp [knM,Zt]) (by simpa using h)
 simpa using this n y
theorem zuf (pre:List Lm)(n:Int):(Zt (rpM pre) n).getD false=pre.any (fun y=>y.ends==n):=by
 have key:∀ (l pre:List Lm),(Zt (rpM pre) n).getD false=pre.any (fun y=>y.ends==n)→(Zt (rpM (pre++l)) n).getD false=(pre++l).any (fun y=>y.ends==n):=by
  intro l
  induction l with
  | nil=>intro pre h;simpa using h
  | cons x l ih=>
   intro pre h
   rw [show pre++x::l=(pre++[x])++l by simp]
   refine ih (pre++[x]) ?_
   rw [U4,VZ,List.any_append]
   split
   ·
    rename_i e;simp [e]
   ·
    rename_i e;rw [h];simp [e]
 have:=key pre [] (by simp [rpM,Zt])
 simpa using this
theorem zrs {pre:List Lm}{x:Lm}(h:zxv pre)(hx: -9223372036854775808≤x.ends∧x.ends≤9223372036854775807):zrV (zhG pre x).isSome ((Zt (rpM pre) x.ends).getD false) ((zhG pre x).getD Vk) x= !ziJ pre x:=by
 unfold zrV ziJ
 rw [zuf]
 by_cases he:x.ends=0
 ·
  simp [he]
 ·
  rw [if_neg he]
  have hne:(x.ends != 0)=true:=by simpa using he
  rw [hne,Bool.true_and]
  cases hr:pre.any (fun y=>y.ends==x.ends) with
  | true=>simp
  | false=>
   rw [if_neg kH]
   cases ho:zhG pre x with
   | none=>
    have hno:pre.any (okL · x)=false:=by
     rw [List.any_eq_false]
     intro y hy
     have h1:=h.rng y hy
     unfold okL
     simp only [Bool.and_eq_true,beq_iff_eq,decide_eq_true_eq,not_and]
     intro h2 _
     exfalso
     have:zhG pre x=some y:=(zdR h.inc _ _).2 ⟨hy,by rw [Vl kB];omega⟩
     rw [ho] at this;cases this
    rw [hno];simp
   | some y=>
    obtain ⟨hy,e⟩:=(zdR h.inc _ _).1 ho
    have h1:=h.rng y hy
    have e2:y.no+1=x.ends:=by
     by_cases hm:x.ends= -9223372036854775808
     ·
      rw [hm] at e
      have:IntKind.i64.wrap (-9223372036854775808-1)=9223372036854775807:=by decide
      omega
     ·
      rw [Vl kB] at e;omega
    have hall:pre.any (okL · x)=((y.person==x.person)&&decide (y.known≤x.known)):=by
     rw [Bool.eq_iff_iff,List.any_eq_true]
     constructor
     ·
      rintro ⟨z,hz,hz2⟩
      unfold okL at hz2
      simp only [Bool.and_eq_true,beq_iff_eq,decide_eq_true_eq] at hz2
      have:z=y:=by
       have h3:=(zdR h.inc z.no z).2 ⟨hz,rfl⟩
       have h4:=(zdR h.inc y.no y).2 ⟨hy,rfl⟩
       rw [show z.no=y.no by omega,h4] at h3;cases h3;rfl
      subst this
      simp [hz2.1.2,hz2.2]
     ·
      intro h3
      refine ⟨y,hy,?_⟩
      unfold okL
      simp only [Bool.and_eq_true,beq_iff_eq,decide_eq_true_eq] at h3 ⊢
      exact ⟨⟨e2,h3.1⟩,h3.2⟩
    rw [hall]
    simp only [Option.isSome_some,Option.getD_some,Bool.not_true,Bool.false_or]
    rw [Bool.eq_iff_iff]
    simp
theorem zmq {pre:List Lm}{x:Lm}(h:x.ends=0):ziJ pre x=true:=if_pos h
theorem zn2 {pre:List Lm}{x y:Lm}(h:¬x.ends=0)(hy:y∈pre)(e:(y.ends==x.ends)=true):ziJ pre x=false:=by
 unfold ziJ
 rw [if_neg h,if_pos (List.any_eq_true.2 ⟨y,hy,e⟩)]
theorem znD {pre:List Lm}{x:Lm}(h:¬x.ends=0)(hn:pre.any (fun y=>y.ends==x.ends)=false):ziJ pre x=pre.any (okL · x):=by
 unfold ziJ
 rw [if_neg h,if_neg (by rw [hn];simp)]
theorem zaM {α:Type}{xs:List α}{k:Nat}{y:α}{b:Bool}{p:α→Bool}(hy:xs[k]? =some y)(hb:b=(xs.take k).any p):(b||p y)=(xs.take (k+1)).any p:=by rw [za3 hy,hb]
theorem zux {xs:List Lm}{k:Nat}{x:Lm}(hk:k≤xs.length):((!Vw x.no 0 1048576||(decide ((k:Int)>0)&&decide (x.no≤(xs.getD ((k:Int)-1).toNat Vk).no)))|| !Vw x.person 0 63)=rA (xs.take k) x:=by
 unfold rA
 cases k with
 | zero=>simp
 | succ k=>
  have hx:xs[k]? =some xs[k]:=List.getElem?_eq_getElem kB
  have e1:(((k+1:Nat):Int)-1).toNat=k:=kB
  rw [e1,Zd hx,List.getLast?_append]
  simp [List.getD_eq_getElem?_getD,hx]
theorem zjN {xs:List Lm}{k:Nat}{x:Lm}(hk:k<xs.length):
  (Vw x.no 0 1048576=false∧rA (xs.take k) x=true)∨(Vw x.no 0 1048576=true∧decide ((k:Int)>0)=false∧rA (xs.take k) x= !Vw x.person 0 63)∨
  (∃ y,Vw x.no 0 1048576=true∧decide ((k:Int)>0)=true∧xs[((k:Int)-1).toNat]? =some y∧decide (x.no≤y.no)=true∧rA (xs.take k) x=true)∨
  (∃ y,Vw x.no 0 1048576=true∧decide ((k:Int)>0)=true∧xs[((k:Int)-1).toNat]? =some y∧decide (x.no≤y.no)=false∧rA (xs.take k) x= !Vw x.person 0 63):=by
 have e:=zux (xs:=xs) (x:=x) (Nat.le_of_lt hk)
 cases hA:Vw x.no 0 1048576 with
 | false=>exact .inl ⟨rfl,by rw [←e,hA];simp⟩
 | true=>
  cases hB:decide ((k:Int)>0) with
  | false=>exact .inr (.inl ⟨rfl,rfl,by rw [←e,hA,hB];simp⟩)
  | true=>
   have hl:((k:Int)-1).toNat<xs.length:=kB
   have hy:xs[((k:Int)-1).toNat]? =some (xs[((k:Int)-1).toNat]'hl):=List.getElem?_eq_getElem hl
   have hd:xs.getD ((k:Int)-1).toNat Vk=xs[((k:Int)-1).toNat]'hl:=by rw [List.getD_eq_getElem?_getD,hy];rfl
   rcases Bool.eq_false_or_eq_true (decide (x.no≤(xs[((k:Int)-1).toNat]'hl).no)) with hC | hC
   ·
    exact .inr (.inr (.inl ⟨_,rfl,rfl,hy,hC,by rw [←e,hA,hB,hd,hC];simp⟩))
   ·
    exact .inr (.inr (.inr ⟨_,rfl,rfl,hy,hC,by rw [←e,hA,hB,hd,hC];simp⟩))
theorem zox (x:Lm):((!Vw x.lo 0 x.hi||decide (x.hi>73048))|| !Vw x.known 0 134217727)=zno x:=by
 unfold zno
 congr 2
 rw [Bool.eq_iff_iff];simp [Vw]
theorem zwV {pre:List Lm}{x:Lm}(h:zxv pre)(hx: -9223372036854775808≤x.ends∧x.ends≤9223372036854775807):zcq pre x=(((rA pre x||zno x)||znj x)|| !ziJ pre x):=by
 unfold zcq
 rw [zyO h,zrs h hx]
end
section
open Go Go.Kn Go.Proofs
theorem KP:Fun Tryz.prog 141:=.of Tryz.func141 kA kA
theorem zlK:Fun Tryz.prog 142:=.of Tryz.func142 kA kA
theorem zjM:Fun Tryz.prog 143:=.of Tryz.func143 kA kA
theorem UJ:Fun Tryz.prog 189:=.of Tryz.func189 kA kA
theorem zrc:SzT Tryz.prog 30 3:=.of kA
theorem zxo:Y9 Tryz.prog 30 (.agg #[(.int .i64 0),(.int .i64 0),(.int .i64 0)]):=.of kA
theorem KS (I:Qu)(n lo hi:Int):ZA Tryz.prog 141 [.int .i64 n,.int .i64 lo,.int .i64 hi] I (.bool (Vw n lo hi)):=by
 intro g H w hw
 refine qe Tryz.func141 Tryz.ntmps141 hw ?_
 refine zR (zA ?_)
 refine zN (zR ?_)
 refine zM ?_
 refine zM ?_
 refine zC ?_
 refine zM ?_
 refine Qq 3 rfl rfl rfl ?_
 refine zK (Qe rfl) ?_
 refine zK (Qe rfl) ?_
 refine zK (Qz rfl rfl rfl) ?_
 refine QB rfl rfl rfl rfl rfl ?_
 refine zA (zN (Qs ?_))
 exact Qy rfl rfl (fun w hw=>⟨by rfl,hw⟩)
theorem zev (I:Qu)(n lo hi:Int):ZA Tryz.prog 189 [.int .i64 n,.int .i64 lo,.int .i64 hi] I (.bool (Vw n lo hi)):=by
 intro g H w hw
 refine qe Tryz.func189 Tryz.ntmps189 hw ?_
 refine zR (zA ?_)
 refine zN (zR ?_)
 refine zM ?_
 refine zM ?_
 refine zC ?_
 refine zM ?_
 refine Qq 3 rfl rfl rfl ?_
 refine zK (Qe rfl) ?_
 refine zK (Qe rfl) ?_
 refine zK (Qz rfl rfl rfl) ?_
 refine QB rfl rfl rfl rfl rfl ?_
 refine zA (zN (Qs ?_))
 exact Qy rfl rfl (fun w hw=>⟨by rfl,hw⟩)
theorem zqP (I:Qu)(ck cl cn:Int):ZA Tryz.prog 142 [.agg #[.int .i64 ck,.int .i64 cl,.int .i64 cn]] I (.bool (zfA ck cl cn)):=by
 intro g H w hw
 refine qe Tryz.func142 Tryz.ntmps142 hw ?_
 have hIc:=zz4 I
 refine zR ?_
 refine QO rfl rfl rfl (fun b_1=>?_)
 refine zA (Qb ?_)
 refine QF .here (fun I1 hI1 hb1=>?_)
 have hIc:=hIc.trans hI1
 have h1:=BxI.of hb1
 refine Qd (Qo (zR ?_))
 refine zF Xf ?_
 refine zV (Qc rfl Qm (fun hg=>by exact QA.imm h1.out rfl)) ?_
 refine zN (Qx (zR (zC ?_)))
 refine zA (zN ?_)
 refine zI ?_ ?_<;>intro hc5
 ·
  refine zR ?_
  refine zF JC ?_
  refine zV (Qc rfl Qm (fun hg=>by exact QA.imm h1.out rfl)) ?_
  refine qcV (vs:=[_,_,_]) rfl UJ (zev _ _ _ _) ?_
  refine zM ?_
  refine Qq 3 rfl rfl rfl ?_
  refine zK (Qa rfl J6) ?_
  refine zK (Qc rfl Qm (fun hg=>by exact QA.imm h1.out rfl)) ?_
  refine qg (vs:=[_,_,_]) rfl UJ (fun hg=>zev _ _ _ _) ?_
  refine QB rfl rfl rfl rfl rfl ?_
  refine zA (zN (Qs (Qk (Qf ?_))))
  exact Qy rfl rfl (fun w hw=>⟨by rw [show ck=1 by simpa using hc5,zw6],(hw.mono hIc).subL QC⟩)
 have hk1:ck≠1:=by simpa using hc5
 refine zR (zC ?_)
 refine zA (zN ?_)
 refine zI ?_ ?_<;>intro hc15
 ·
  refine zR ?_
  refine zF JC ?_
  refine zV (Qc rfl Qm (fun hg=>by exact QA.imm h1.out rfl)) ?_
  refine qcV (vs:=[_,_,_]) rfl UJ (zev _ _ _ _) ?_
  refine zM ?_
  refine Qq 3 rfl rfl rfl ?_
  refine zK (Qa rfl J6) ?_
  refine zK (Qc rfl Qm (fun hg=>by exact QA.imm h1.out rfl)) ?_
  refine qg (vs:=[_,_,_]) rfl UJ (fun hg=>zev _ _ _ _) ?_
  refine QB rfl rfl rfl rfl rfl ?_
  refine zA (zN (Qs (Qk (Qf ?_))))
  exact Qy rfl rfl (fun w hw=>⟨by rw [show ck=2 by simpa using hc15,zvM],(hw.mono hIc).subL QC⟩)
 have hk2:ck≠2:=by simpa using hc15
 refine zR (zC ?_)
 refine zA (zN ?_)
 refine zI ?_ ?_<;>intro hc25
 ·
  refine zR ?_
  refine zF JC ?_
  refine zV (Qc rfl Qm (fun hg=>by exact QA.imm h1.out rfl)) ?_
  refine zC ?_
  refine zM ?_
  refine Qq 3 rfl rfl rfl ?_
  refine zK (Qa rfl J6) ?_
  refine zK (Qc rfl Qm (fun hg=>by exact QA.imm h1.out rfl)) ?_
  refine qg (vs:=[_,_,_]) rfl UJ (fun hg=>zev _ _ _ _) ?_
  refine QB rfl rfl rfl rfl rfl ?_
  refine zA (zN (Qs (Qk (Qf ?_))))
  exact Qy rfl rfl (fun w hw=>⟨by rw [show ck=3 by simpa using hc25,zvm],(hw.mono hIc).subL QC⟩)
 have hk3:ck≠3:=by simpa using hc25
 refine zR (zC ?_)
 refine zA (zN ?_)
 refine zI ?_ ?_<;>intro hc35
 ·
  refine zR ?_
  refine zF JC ?_
  refine zV (Qc rfl Qm (fun hg=>by exact QA.imm h1.out rfl)) ?_
  refine zC ?_
  refine zM ?_
  refine Qq 3 rfl rfl rfl ?_
  refine zK (Qa rfl J6) ?_
  refine zK (Qc rfl Qm (fun hg=>by exact QA.imm h1.out rfl)) ?_
  refine qg (vs:=[_,_,_]) rfl UJ (fun hg=>zev _ _ _ _) ?_
  refine QB rfl rfl rfl rfl rfl ?_
  refine zA (zN (Qs (Qk (Qf ?_))))
  exact Qy rfl rfl (fun w hw=>⟨by rw [show ck=4 by simpa using hc35,zxb],(hw.mono hIc).subL QC⟩)
 have hk4:ck≠4:=by simpa using hc35
 refine zR (zC ?_)
 refine zA (zN ?_)
 refine zI ?_ ?_<;>intro hc45
 ·
  refine zR ?_
  refine zF JC ?_
  refine zV (Qc rfl Qm (fun hg=>by exact QA.imm h1.out rfl)) ?_
  refine zC ?_
  refine zM ?_
  refine Qq 3 rfl rfl rfl ?_
  refine zK (Qa rfl J6) ?_
  refine zK (Qc rfl Qm (fun hg=>by exact QA.imm h1.out rfl)) ?_
  refine qg (vs:=[_,_,_]) rfl UJ (fun hg=>zev _ _ _ _) ?_
  refine QB rfl rfl rfl rfl rfl ?_
  refine zA (zN (Qs (Qk (Qf ?_))))
  exact Qy rfl rfl (fun w hw=>⟨by rw [show ck=5 by simpa using hc45,zw9],(hw.mono hIc).subL QC⟩)
 have hk5:ck≠5:=by simpa using hc45
 refine zR (zC ?_)
 refine zA (zN ?_)
 refine zI ?_ ?_<;>intro hc55
 ·
  refine zR ?_
  refine zF JC ?_
  refine zV (Qc rfl Qm (fun hg=>by exact QA.imm h1.out rfl)) ?_
  refine zC ?_
  refine zM ?_
  refine Qq 3 rfl rfl rfl ?_
  refine zK (Qa rfl J6) ?_
  refine zK (Qc rfl Qm (fun hg=>by exact QA.imm h1.out rfl)) ?_
  refine qg (vs:=[_,_,_]) rfl UJ (fun hg=>zev _ _ _ _) ?_
  refine QB rfl rfl rfl rfl rfl ?_
  refine zA (zN (Qs (Qk (Qf ?_))))
  exact Qy rfl rfl (fun w hw=>⟨by rw [show ck=6 by simpa using hc55,zw4],(hw.mono hIc).subL QC⟩)
 have hk6:ck≠6:=by simpa using hc55
 refine Qp (Qj (Qd (zR (zA (zN (Qs ?_))))))
 exact Qy rfl rfl (fun w hw=>⟨by rw [zlo hk1 hk2 hk3 hk4 hk5 hk6],(hw.mono hIc).subL QC⟩)
theorem zgW {I:Qu}{av:Option Addr}{n c:Nat}{xs:List Lm}(hS:Sl I 9 Zh av n c xs){k:Nat}{x:Lm}(hx:xs[k]? =some x)(hn:n≤100000)(hL:zxv (xs.take k)):ZA Tryz.prog 143 [.slice av n c,.int .i64 k] I (.bool (ziJ (xs.take k) x)):=by
 intro g H w hw
 refine qe Tryz.func143 Tryz.ntmps143 hw ?_
 have hln:=hS.len
 have hkn:=(List.getElem?_eq_some_iff.1 hx).1
 refine zR (zA (zN (Qo (zR ?_))))
 refine zM ?_
 refine zM ?_
 refine zV (zX Zx hS) ?_
 refine zF YM ?_
 refine zV (Qc rfl Qm (fun hg=>by exact zz6 hS hx (j:=2) rfl)) ?_
 refine zC (zN ?_)
 refine zI ?_ ?_<;>intro hc12
 ·
  have he0:x.ends=0:=by simpa using hc12
  refine zR (zA (zN (Qs (Qf ?_))))
  exact Qy rfl rfl (fun w hw=>⟨by rw [zmq he0],hw⟩)
 have he0:¬x.ends=0:=by simpa using hc12
 refine Qp (Qd (zR (zA (zN (Qo (zR ?_))))))
 refine zA (zN (Qx ?_))
 refine zU [(0,_),(1,_)] (fun T L0 mz E I' loc'=>∃ (i:Nat) (b:Bool),mz=k-i∧E=(5,.bool b)::(6,.int .i64 i)::T∧I=I'∧L0=loc'∧i≤k∧(xs.take i).any (fun y=>y.ends==x.ends)=false∧b=(xs.take i).any (okL · x)) ?_ (h:=⟨0,false,rfl,rfl,rfl,rfl,Nat.zero_le _,rfl,rfl⟩)
 rintro mz E I' loc' ⟨i,b,rfl,rfl,rfl,rfl,hi,hno,hb⟩
 refine Qo (zR (zM ?_))
 refine zM ?_
 refine zC (zN ?_)
 refine zI ?_ ?_<;>intro hc15
 ·
  have hlt_i:i<k:=by have h:=hc15;simp at h;omega
  obtain ⟨y,hy⟩:∃ y,xs[i]? =some y:=⟨_,List.getElem?_eq_getElem kB⟩
  have hyt:y∈xs.take k:=List.mem_of_getElem? (by rw [List.getElem?_take_of_lt hlt_i];exact hy)
  have hyr:=hL.rng y hyt
  refine Qp (Qd (Qo (Qx (Qo (Qo ?_)))))
  have hD:=zz4 I
  refine Vq mixed ?_
  refine zT 0 rfl (Qe rfl) hD ?_
  refine zT 1 rfl (Qe rfl) hD ?_
  refine zT 2 rfl (zX Zx hS) hD ?_
  refine zT 3 rfl (Qa rfl YM) hD ?_
  refine zT 4 rfl (Qc rfl Qm (fun hg=>by exact zz6 hS hy (j:=2) rfl)) hD ?_
  refine zT 5 rfl (Qe rfl) hD ?_
  refine zT 6 rfl (Qe rfl) hD ?_
  refine zT 7 rfl (zX Zx hS) hD ?_
  refine zT 8 rfl (Qa rfl YM) hD ?_
  refine zT 9 rfl (Qc rfl Qm (fun hg=>by exact zz6 hS hx (j:=2) rfl)) hD ?_
  refine zT 10 rfl (Qz rfl rfl rfl) hD ?_
  refine Ql kA ?_
  refine Qt ?_
  refine Qd ?_
  refine zI ?_ ?_<;>intro hc28
  ·
   refine zR (zA (zN (Qs (Qf (Qk (Qf (Qf ?_)))))))
   refine Qk (Qf ?_)
   exact Qy rfl rfl (fun w hw=>⟨by rw [zn2 he0 hyt hc28],hw⟩)
  have hno9:(xs.take (i+1)).any (fun y=>y.ends==x.ends)=false:=by rw [za3 hy,hno,hc28];rfl
  refine Qp (Qd (Qo ?_))
  have hD:=zz4 I
  refine Vq mixed ?_
  refine zT 0 rfl (Qe rfl) hD ?_
  refine zT 1 rfl (Qe rfl) hD ?_
  refine zT 2 rfl (zX Zx hS) hD ?_
  refine zT 3 rfl (Qa rfl Ye) hD ?_
  refine zT 4 rfl (Qc rfl Qm (fun hg=>by exact zzX hS hy rfl)) hD ?_
  refine zT 5 rfl (YE rfl rfl rfl (fun hg=>kB)) hD ?_
  refine zT 6 rfl (Qe rfl) hD ?_
  refine zT 7 rfl (Qe rfl) hD ?_
  refine zT 8 rfl (zX Zx hS) hD ?_
  refine zT 9 rfl (Qa rfl YM) hD ?_
  refine zT 10 rfl (Qc rfl Qm (fun hg=>by exact zz6 hS hx (j:=2) rfl)) hD ?_
  refine zT 11 rfl (Qz rfl rfl rfl) hD ?_
  refine zT 12 rfl (Qe rfl) hD ?_
  refine Uz 12 rfl rfl rfl ?_
  refine zt1 13 rfl (Qe rfl) hD ?_
  refine zt1 14 rfl (Qe rfl) hD ?_
  refine zt1 15 rfl (zX Zx hS) hD ?_
  refine zt1 16 rfl (Qa rfl V2) hD ?_
  refine zt1 17 rfl (Qc rfl Qm (fun hg=>by exact zz6 hS hy (j:=1) rfl)) hD ?_
  refine zt1 18 rfl (Qe rfl) hD ?_
  refine zt1 19 rfl (Qe rfl) hD ?_
  refine zt1 20 rfl (zX Zx hS) hD ?_
  refine zt1 21 rfl (Qa rfl V2) hD ?_
  refine zt1 22 rfl (Qc rfl Qm (fun hg=>by exact zz6 hS hx (j:=1) rfl)) hD ?_
  refine zt1 23 rfl (Qz rfl rfl rfl) hD ?_
  refine zta 24 rfl rfl rfl rfl hD ?_
  refine zT 25 rfl (Qe rfl) hD ?_
  refine Uz 25 rfl rfl rfl ?_
  refine zt1 26 rfl (Qe rfl) hD ?_
  refine zt1 27 rfl (Qe rfl) hD ?_
  refine zt1 28 rfl (zX Zx hS) hD ?_
  refine zt1 29 rfl (Qa rfl Kb) hD ?_
  refine zt1 30 rfl (Qc rfl Qm (fun hg=>by exact zz6 hS hy (j:=5) rfl)) hD ?_
  refine zt1 31 rfl (Qe rfl) hD ?_
  refine zt1 32 rfl (Qe rfl) hD ?_
  refine zt1 33 rfl (zX Zx hS) hD ?_
  refine zt1 34 rfl (Qa rfl Kb) hD ?_
  refine zt1 35 rfl (Qc rfl Qm (fun hg=>by exact zz6 hS hx (j:=5) rfl)) hD ?_
  refine zt1 36 rfl (Qz rfl rfl rfl) hD ?_
  refine zta 37 rfl rfl rfl rfl hD ?_
  refine Ql kA ?_
  refine Qt ?_
  refine Qd ?_
  refine zI ?_ ?_<;>intro hc66
  ·
   have hb9:true=(xs.take (i+1)).any (okL · x):=by rw [←zaM hy hb,show okL y x=true from hc66,Bool.or_true]
   refine Qi (zA (Qb (Qj (Qd (Qi ?_)))))
   refine zM ?_
   refine zB ?_
   refine zA (Qb ?_)
   exact zm (h:=⟨k-(i+1),kB,i+1,_,rfl,rfl,rfl,rfl,kB,hno9,hb9⟩)
  have hb9:b=(xs.take (i+1)).any (okL · x):=by rw [←zaM hy hb,show okL y x=false from hc66,Bool.or_false]
  refine Qp (Qj (Qd (Qi (zM ?_))))
  refine zB ?_
  refine zA (Qb ?_)
  exact zm (h:=⟨k-(i+1),kB,i+1,_,rfl,rfl,rfl,rfl,kB,hno9,hb9⟩)
 have hge_i:k≤i:=by have h:=hc15;simp at h;omega
 obtain rfl:k=i:=kB
 refine Q6 (Qn (Qn (Qw (Qd (zR (zM ?_))))))
 refine zA (zN (Qs ?_))
 exact Qy rfl rfl (fun w hw=>⟨by rw [znD he0 hno,hb],hw⟩)
theorem zqk {I:Qu}{av:Option Addr}{n c:Nat}{xs:List Lm}(hS:Sl I 9 Zh av n c xs)(hn:n≤100000)(hw8:∀ y∈xs, -9223372036854775808≤y.ends∧y.ends≤9223372036854775807):ZA Tryz.prog 75 [.slice av n c] I (.int .i64 (zcX xs)):=by
 intro g H w hw
 refine qe Tryz.func75 Tryz.ntmps75 hw ?_
 have hIc:=zz4 I
 have hln:=hS.len
 refine zR (zA (zN (Qo (zR ?_))))
 refine zM ?_
 refine zQ Zx ?_
 refine zC (zN ?_)
 refine zI ?_ ?_<;>intro hc8
 ·
  have h5:xs.length>512:=by have h:=hc8;simp at h;omega
  refine zR (zA (zN (Qs (Qf ?_))))
  exact Qy rfl rfl (fun w hw=>⟨by rw [zhb h5],(hw.mono hIc).subL QC⟩)
 have h5:¬xs.length>512:=by have h:=hc8;simp at h;omega
 refine Qp (Qd (Qo (zR (zA (zN (Qx ?_))))))
 refine zU [(0,_)] (fun T L0 mz E I' loc'=>∃ (k:Nat),mz=n-k∧E=(3,.int .i64 k)::T∧HLe I I'∧L0=loc'∧k≤n∧(∀ j y,j<k→xs[j]? =some y→zcq (xs.take j) y=false)) ?_ (h:=⟨0,rfl,rfl,zz4 _,rfl,Nat.zero_le _,fun j y h=>absurd h (Nat.not_lt_zero _)⟩)
 rintro mz E J1 loc' ⟨k,rfl,rfl,hJ,rfl,hk,hall⟩
 have hS:=hS.mono hJ;have hIc:=hIc.trans hJ
 have hB0:=hJ
 refine Qo (zR (zM ?_))
 refine zM ?_
 refine zQ Zx ?_
 refine zC (zN ?_)
 refine zI ?_ ?_<;>intro hc12
 ·
  have hlt_k:k<n:=by have h:=hc12;simp at h;omega
  obtain ⟨x,hx⟩:∃ x,xs[k]? =some x:=⟨_,List.getElem?_eq_getElem kB⟩
  have hL:=zlN hall kB
  have hxw:=hw8 x (List.mem_of_getElem? hx)
  have hbr:=zwV hL hxw
  refine Qp (Qd (Qo (Qx (zR (zM ?_)))))
  refine zM ?_
  refine zV (zX Zx hS) ?_
  refine zV (Qg rfl V7 (fun hg=>by exact zz5 hS hx) rfl) ?_
  refine Qr ze2 rfl rfl (fun b_4=>?_)
  refine zh zad ?_
  refine Qb ?_
  refine QF .here (fun I2 hI2 hb2=>?_)
  have hS:=hS.mono hI2;have hIc:=hIc.trans hI2;have hB0:=hB0.trans hI2
  have h4:=BxI.of hb2
  refine Qd (Qo (Qo ?_))
  rcases zjN (x:=x) (show k<xs.length by omega) with ⟨hA,hra⟩ | ⟨hA,hB,hra⟩ | ⟨y,hA,hB,hy,hC,hra⟩ | ⟨y,hA,hB,hy,hC,hra⟩
  ·
   have hD:=zz4 I2
   refine Zn ?_
   refine QL I2 [] mixed ?_
   refine zT 0 rfl (Qa rfl Ye) hD ?_
   refine zT 1 rfl (Qc rfl Qm (fun hg=>by exact QA.imm h4.out rfl)) hD ?_
   refine qd 2 rfl ?_
   refine qcV (vs:=[_,_,_]) rfl KP (KS _ _ _ _) ?_
   refine Qb ?_
   refine zD hD ?_
   refine zT 3 rfl (Zs rfl) hD ?_
   rw [hA]
   refine zT 4 rfl (Qe rfl) hD ?_
   refine zW 5 23 hD ?_
   refine zW 6 23 hD ?_
   refine zW 7 23 hD ?_
   refine zW 8 26 hD ?_
   refine zW 9 26 hD ?_
   refine zW 10 26 hD ?_
   refine zW 11 26 hD ?_
   refine zW 12 26 hD ?_
   refine zW 13 26 hD ?_
   refine zW 14 26 hD ?_
   refine zW 15 26 hD ?_
   refine zW 16 26 hD ?_
   refine zW 17 23 hD ?_
   refine zT 18 rfl (Z6 rfl rfl rfl) hD ?_
   refine zT 19 rfl (Qe rfl) hD ?_
   refine zW 20 38 hD ?_
   refine zW 21 38 hD ?_
   refine zW 22 38 hD ?_
   refine zW 23 38 hD ?_
   refine zT 24 rfl (Z6 rfl rfl rfl) hD ?_
   refine Ql kA ?_
   refine Qt ?_
   refine Qd ?_
   refine zI ?_ ?_<;>intro hc43
   ·
    refine zR (zA (zN (Qs (Qf (Qk (Qf (Qf ?_)))))))
    refine Qk (Qf ?_)
    exact Qy rfl rfl (fun w hw=>⟨by rw [VO h5 hx (by rw [hbr,hra];rfl)],(hw.mono hIc).subL QC⟩)
   cases hc43
  ·
   have hD:=zz4 I2
   refine Zn ?_
   refine QL I2 [] mixed ?_
   refine zT 0 rfl (Qa rfl Ye) hD ?_
   refine zT 1 rfl (Qc rfl Qm (fun hg=>by exact QA.imm h4.out rfl)) hD ?_
   refine qd 2 rfl ?_
   refine qcV (vs:=[_,_,_]) rfl KP (KS _ _ _ _) ?_
   refine Qb ?_
   refine zD hD ?_
   refine zT 3 rfl (Zs rfl) hD ?_
   rw [hA]
   refine zT 4 rfl (Qe rfl) hD ?_
   refine zw 5 23 rfl (Qe rfl) hD ?_
   refine zw 6 23 rfl (Qz rfl rfl rfl) hD ?_
   rw [hB]
   refine zw 7 23 rfl (Qe rfl) hD ?_
   refine zW 8 26 hD ?_
   refine zW 9 26 hD ?_
   refine zW 10 26 hD ?_
   refine zW 11 26 hD ?_
   refine zW 12 26 hD ?_
   refine zW 13 26 hD ?_
   refine zW 14 26 hD ?_
   refine zW 15 26 hD ?_
   refine zW 16 26 hD ?_
   refine zw 17 23 rfl (Z6 rfl rfl rfl) hD ?_
   refine zT 18 rfl (QW rfl rfl rfl) hD ?_
   refine zT 19 rfl (Qe rfl) hD ?_
   refine zw 20 38 rfl (Qa rfl V2) hD ?_
   refine zw 21 38 rfl (Qc rfl Qm (fun hg=>by exact QA.imm h4.out rfl)) hD ?_
   refine qd 22 rfl ?_
   refine QP (dj:=38) rfl rfl rfl ?_
   refine qcV (vs:=[_,_,_]) rfl KP (KS _ _ _ _) ?_
   refine Qb ?_
   refine zD hD ?_
   refine zw 23 38 rfl (Zs rfl) hD ?_
   refine zT 24 rfl (QW rfl rfl rfl) hD ?_
   refine Ql kA ?_
   refine Qt ?_
   refine Qd ?_
   refine zI ?_ ?_<;>intro hc43
   ·
    refine zR (zA (zN (Qs (Qf (Qk (Qf (Qf ?_)))))))
    refine Qk (Qf ?_)
    exact Qy rfl rfl (fun w hw=>⟨by rw [VO h5 hx (by rw [hbr,hra,show (!Vw x.person 0 63)=true from hc43];rfl)],(hw.mono hIc).subL QC⟩)
   have q1:rA (xs.take k) x=false:=by rw [hra];exact hc43
   refine Qp (Qd (Qo (zR ?_)))
   refine zF Wd ?_
   refine zV (Qc rfl Qm (fun hg=>by exact QA.imm h4.out rfl)) ?_
   refine zF KK ?_
   refine zV (Qc rfl Qm (fun hg=>by exact QA.imm h4.out rfl)) ?_
   refine qcV (vs:=[_,_,_]) rfl KP (KS _ _ _ _) ?_
   refine zO ?_
   refine zM ?_
   refine QK 6 rfl rfl rfl ?_
   refine zJ (Qa rfl KK) ?_
   refine zJ (Qc rfl Qm (fun hg=>by exact QA.imm h4.out rfl)) ?_
   refine zJ (Qz rfl rfl rfl) ?_
   refine Zg rfl rfl rfl rfl rfl ?_
   refine zM ?_
   refine QK 11 rfl rfl rfl ?_
   refine zJ (Qa rfl Kb) ?_
   refine zJ (Qc rfl Qm (fun hg=>by exact QA.imm h4.out rfl)) ?_
   refine qf (vs:=[_,_,_]) rfl KP (fun hg=>KS _ _ _ _) ?_
   refine zJ (Zs rfl) ?_
   refine Zg rfl rfl rfl rfl rfl ?_
   refine zN ?_
   refine zI ?_ ?_<;>intro hc60
   ·
    refine zR (zA (zN (Qs (Qf (Qk (Qf (Qf ?_)))))))
    refine Qk (Qf ?_)
    exact Qy rfl rfl (fun w hw=>⟨by rw [VO h5 hx (by rw [hbr,←zox,hc60];simp)],(hw.mono hIc).subL QC⟩)
   have q2:zno x=false:=by rw [←zox];exact hc60
   refine Qp (Qd (zR ?_))
   refine zV (QI (ps:=[]) [_,_,_] zcS rfl rfl) ?_
   refine Qr zxo rfl rfl (fun b_5=>?_)
   refine zh zrc ?_
   refine Qb ?_
   refine QF .here (fun I3 hI3 hb3=>?_)
   have hS:=hS.mono hI3;have h4:=h4.mono hI3;have hIc:=hIc.trans hI3;have hB0:=hB0.trans hI3
   have h5z:=BxI.of hb3
   refine Qd (zR ?_)
   refine zF JF ?_
   refine zV (Qg rfl zal (fun hg=>by exact Cells.part (pre:=[_,_,_,_,_,_]) (vs:=[_,_,_]) (post:=[]) (BxI.cells (vs:=Zh x) h4) rfl) rfl) ?_
   refine qcV (vs:=[_]) rfl zlK (zqP _ _ _ _) ?_
   refine zO ?_
   refine zM ?_
   refine Qq 4 rfl rfl rfl ?_
   refine zK (Qa rfl JF) ?_
   refine zK (Qg rfl zal (fun hg=>by exact Cells.part (pre:=[_,_,_,_,_,_]) (vs:=[_,_,_]) (post:=[]) (BxI.cells (vs:=Zh x) h4) rfl) rfl) ?_
   refine zK (Qg rfl zal (fun hg=>by exact BxI.cells (vs:=[_,_,_]) h5z) rfl) ?_
   refine zK (zm7 rfl rfl zmB rfl) ?_
   refine zK (Qe rfl) ?_
   refine QK 9 rfl rfl rfl ?_
   refine zJ (Qa rfl YM) ?_
   refine zJ (Qc rfl Qm (fun hg=>by exact QA.imm h4.out rfl)) ?_
   refine zJ (Qz rfl rfl rfl) ?_
   refine zbi rfl rfl rfl (.some rfl rfl rfl rfl gbt) rfl rfl ?_
   refine QB rfl rfl rfl rfl rfl ?_
   refine zM ?_
   refine QK 15 rfl rfl rfl ?_
   refine zJ (Qe rfl) ?_
   refine zJ (Qe rfl) ?_
   refine qf (vs:=[_,_]) rfl zjM (fun hg=>zgW hS hx hn hL) ?_
   refine zJ (Zs rfl) ?_
   refine Zg rfl rfl rfl rfl rfl ?_
   refine zN ?_
   refine zI ?_ ?_<;>intro hc82
   ·
    refine zR (zA (zN (Qs (Qk (Qf (Qf (Qk ?_)))))))
    refine Qf ?_
    exact Qy rfl rfl (fun w hw=>⟨by rw [VO h5 hx (by rw [hbr,Bool.or_assoc,show (znj x|| !ziJ (xs.take k) x)=true from hc82];simp)],(hw.mono hIc).subL QC⟩)
   have hbad:zcq (xs.take k) x=false:=by rw [hbr,Bool.or_assoc,show (znj x|| !ziJ (xs.take k) x)=false from hc82,q1,q2];rfl
   refine Qp (Qj (Qd (Qi (zM ?_))))
   refine zB ?_
   refine zA (Qb ?_)
   exact zm (h:=⟨n-(k+1),kB,k+1,rfl,rfl,hB0,rfl,kB,V4 hx hall hbad⟩)
  ·
   have hk0:0<k:=by simpa using hB
   have hD:=zz4 I2
   refine Zn ?_
   refine QL I2 [] mixed ?_
   refine zT 0 rfl (Qa rfl Ye) hD ?_
   refine zT 1 rfl (Qc rfl Qm (fun hg=>by exact QA.imm h4.out rfl)) hD ?_
   refine qd 2 rfl ?_
   refine qcV (vs:=[_,_,_]) rfl KP (KS _ _ _ _) ?_
   refine Qb ?_
   refine zD hD ?_
   refine zT 3 rfl (Zs rfl) hD ?_
   rw [hA]
   refine zT 4 rfl (Qe rfl) hD ?_
   refine zw 5 23 rfl (Qe rfl) hD ?_
   refine zw 6 23 rfl (Qz rfl rfl rfl) hD ?_
   rw [hB]
   refine zw 7 23 rfl (Qe rfl) hD ?_
   refine zw 8 26 rfl (Qa rfl Ye) hD ?_
   refine zw 9 26 rfl (Qc rfl Qm (fun hg=>by exact QA.imm h4.out rfl)) hD ?_
   refine zw 10 26 rfl (Qe rfl) hD ?_
   refine zw 11 26 rfl (Qe rfl) hD ?_
   refine zw 12 26 rfl (YE rfl rfl rfl (fun hg=>kB)) hD ?_
   refine zw 13 26 rfl (zX Zx hS) hD ?_
   refine zw 14 26 rfl (Qa rfl Ye) hD ?_
   refine zw 15 26 rfl (Qc rfl Qm (fun hg=>by exact zzX hS hy rfl)) hD ?_
   refine zw 16 26 rfl (Qz rfl rfl rfl) hD ?_
   rw [hC]
   refine zw 17 23 rfl (QW rfl rfl rfl) hD ?_
   refine zT 18 rfl (QW rfl rfl rfl) hD ?_
   refine zT 19 rfl (Qe rfl) hD ?_
   refine zW 20 38 hD ?_
   refine zW 21 38 hD ?_
   refine zW 22 38 hD ?_
   refine zW 23 38 hD ?_
   refine zT 24 rfl (Z6 rfl rfl rfl) hD ?_
   refine Ql kA ?_
   refine Qt ?_
   refine Qd ?_
   refine zI ?_ ?_<;>intro hc43
   ·
    refine zR (zA (zN (Qs (Qf (Qk (Qf (Qf ?_)))))))
    refine Qk (Qf ?_)
    exact Qy rfl rfl (fun w hw=>⟨by rw [VO h5 hx (by rw [hbr,hra];rfl)],(hw.mono hIc).subL QC⟩)
   cases hc43
  have hk0:0<k:=by simpa using hB
  have hD:=zz4 I2
  refine Zn ?_
  refine QL I2 [] mixed ?_
  refine zT 0 rfl (Qa rfl Ye) hD ?_
  refine zT 1 rfl (Qc rfl Qm (fun hg=>by exact QA.imm h4.out rfl)) hD ?_
  refine qd 2 rfl ?_
  refine qcV (vs:=[_,_,_]) rfl KP (KS _ _ _ _) ?_
  refine Qb ?_
  refine zD hD ?_
  refine zT 3 rfl (Zs rfl) hD ?_
  rw [hA]
  refine zT 4 rfl (Qe rfl) hD ?_
  refine zw 5 23 rfl (Qe rfl) hD ?_
  refine zw 6 23 rfl (Qz rfl rfl rfl) hD ?_
  rw [hB]
  refine zw 7 23 rfl (Qe rfl) hD ?_
  refine zw 8 26 rfl (Qa rfl Ye) hD ?_
  refine zw 9 26 rfl (Qc rfl Qm (fun hg=>by exact QA.imm h4.out rfl)) hD ?_
  refine zw 10 26 rfl (Qe rfl) hD ?_
  refine zw 11 26 rfl (Qe rfl) hD ?_
  refine zw 12 26 rfl (YE rfl rfl rfl (fun hg=>kB)) hD ?_
  refine zw 13 26 rfl (zX Zx hS) hD ?_
  refine zw 14 26 rfl (Qa rfl Ye) hD ?_
  refine zw 15 26 rfl (Qc rfl Qm (fun hg=>by exact zzX hS hy rfl)) hD ?_
  refine zw 16 26 rfl (Qz rfl rfl rfl) hD ?_
  rw [hC]
  refine zw 17 23 rfl (QW rfl rfl rfl) hD ?_
  refine zT 18 rfl (QW rfl rfl rfl) hD ?_
  refine zT 19 rfl (Qe rfl) hD ?_
  refine zw 20 38 rfl (Qa rfl V2) hD ?_
  refine zw 21 38 rfl (Qc rfl Qm (fun hg=>by exact QA.imm h4.out rfl)) hD ?_
  refine qd 22 rfl ?_
  refine QP (dj:=38) rfl rfl rfl ?_
  refine qcV (vs:=[_,_,_]) rfl KP (KS _ _ _ _) ?_
  refine Qb ?_
  refine zD hD ?_
  refine zw 23 38 rfl (Zs rfl) hD ?_
  refine zT 24 rfl (QW rfl rfl rfl) hD ?_
  refine Ql kA ?_
  refine Qt ?_
  refine Qd ?_
  refine zI ?_ ?_<;>intro hc43
  ·
   refine zR (zA (zN (Qs (Qf (Qk (Qf (Qf ?_)))))))
   refine Qk (Qf ?_)
   exact Qy rfl rfl (fun w hw=>⟨by rw [VO h5 hx (by rw [hbr,hra,show (!Vw x.person 0 63)=true from hc43];rfl)],(hw.mono hIc).subL QC⟩)
  have q1:rA (xs.take k) x=false:=by rw [hra];exact hc43
  refine Qp (Qd (Qo (zR ?_)))
  refine zF Wd ?_
  refine zV (Qc rfl Qm (fun hg=>by exact QA.imm h4.out rfl)) ?_
  refine zF KK ?_
  refine zV (Qc rfl Qm (fun hg=>by exact QA.imm h4.out rfl)) ?_
  refine qcV (vs:=[_,_,_]) rfl KP (KS _ _ _ _) ?_
  refine zO ?_
  refine zM ?_
  refine QK 6 rfl rfl rfl ?_
  refine zJ (Qa rfl KK) ?_
  refine zJ (Qc rfl Qm (fun hg=>by exact QA.imm h4.out rfl)) ?_
  refine zJ (Qz rfl rfl rfl) ?_
  refine Zg rfl rfl rfl rfl rfl ?_
  refine zM ?_
  refine QK 11 rfl rfl rfl ?_
  refine zJ (Qa rfl Kb) ?_
  refine zJ (Qc rfl Qm (fun hg=>by exact QA.imm h4.out rfl)) ?_
  refine qf (vs:=[_,_,_]) rfl KP (fun hg=>KS _ _ _ _) ?_
  refine zJ (Zs rfl) ?_
  refine Zg rfl rfl rfl rfl rfl ?_
  refine zN ?_
  refine zI ?_ ?_<;>intro hc60
  ·
   refine zR (zA (zN (Qs (Qf (Qk (Qf (Qf ?_)))))))
   refine Qk (Qf ?_)
   exact Qy rfl rfl (fun w hw=>⟨by rw [VO h5 hx (by rw [hbr,←zox,hc60];simp)],(hw.mono hIc).subL QC⟩)
  have q2:zno x=false:=by rw [←zox];exact hc60
  refine Qp (Qd (zR ?_))
  refine zV (QI (ps:=[]) [_,_,_] zcS rfl rfl) ?_
  refine Qr zxo rfl rfl (fun b_5=>?_)
  refine zh zrc ?_
  refine Qb ?_
  refine QF .here (fun I4 hI4 hb4=>?_)
  have hS:=hS.mono hI4;have h4:=h4.mono hI4;have hIc:=hIc.trans hI4;have hB0:=hB0.trans hI4
  have h5z:=BxI.of hb4
  refine Qd (zR ?_)
  refine zF JF ?_
  refine zV (Qg rfl zal (fun hg=>by exact Cells.part (pre:=[_,_,_,_,_,_]) (vs:=[_,_,_]) (post:=[]) (BxI.cells (vs:=Zh x) h4) rfl) rfl) ?_
  refine qcV (vs:=[_]) rfl zlK (zqP _ _ _ _) ?_
  refine zO ?_
  refine zM ?_
  refine Qq 4 rfl rfl rfl ?_
  refine zK (Qa rfl JF) ?_
  refine zK (Qg rfl zal (fun hg=>by exact Cells.part (pre:=[_,_,_,_,_,_]) (vs:=[_,_,_]) (post:=[]) (BxI.cells (vs:=Zh x) h4) rfl) rfl) ?_
  refine zK (Qg rfl zal (fun hg=>by exact BxI.cells (vs:=[_,_,_]) h5z) rfl) ?_
  refine zK (zm7 rfl rfl zmB rfl) ?_
  refine zK (Qe rfl) ?_
  refine QK 9 rfl rfl rfl ?_
  refine zJ (Qa rfl YM) ?_
  refine zJ (Qc rfl Qm (fun hg=>by exact QA.imm h4.out rfl)) ?_
  refine zJ (Qz rfl rfl rfl) ?_
  refine zbi rfl rfl rfl (.some rfl rfl rfl rfl gbt) rfl rfl ?_
  refine QB rfl rfl rfl rfl rfl ?_
  refine zM ?_
  refine QK 15 rfl rfl rfl ?_
  refine zJ (Qe rfl) ?_
  refine zJ (Qe rfl) ?_
  refine qf (vs:=[_,_]) rfl zjM (fun hg=>zgW hS hx hn hL) ?_
  refine zJ (Zs rfl) ?_
  refine Zg rfl rfl rfl rfl rfl ?_
  refine zN ?_
  refine zI ?_ ?_<;>intro hc82
  ·
   refine zR (zA (zN (Qs (Qk (Qf (Qf (Qk ?_)))))))
   refine Qf ?_
   exact Qy rfl rfl (fun w hw=>⟨by rw [VO h5 hx (by rw [hbr,Bool.or_assoc,show (znj x|| !ziJ (xs.take k) x)=true from hc82];simp)],(hw.mono hIc).subL QC⟩)
  have hbad:zcq (xs.take k) x=false:=by rw [hbr,Bool.or_assoc,show (znj x|| !ziJ (xs.take k) x)=false from hc82,q1,q2];rfl
  refine Qp (Qj (Qd (Qi (zM ?_))))
  refine zB ?_
  refine zA (Qb ?_)
  exact zm (h:=⟨n-(k+1),kB,k+1,rfl,rfl,hB0,rfl,kB,V4 hx hall hbad⟩)
 have hge_k:n≤k:=by have h:=hc12;simp at h;omega
 refine Q6 (Qn (Qn (Qw (Qd (zR (zA (zN ?_)))))))
 refine Qs ?_
 exact Qy rfl rfl (fun w hw=>⟨by rw [zjs h5 (fun j y hj hy=>hall j y kB hy)],(hw.mono hIc).subL QC⟩)
end
end Go.Proofs.YtjblkbkmblkgoaaGreat
namespace Go.Proofs.YtjblkbkmblkgoaaGreat.S
section
open Go Go.Kn
def i64 (n:Int):Prop:= -9223372036854775808≤n∧n≤9223372036854775807
structure okR (x:Rt):Prop where
 no:i64 x.no
 kind:i64 x.kind
 edition:i64 x.edition
 holder:i64 x.holder
 sign:i64 x.sign
 ends:i64 x.ends
 lo:i64 x.lo
 hi:i64 x.hi
 known:i64 x.known
theorem zqh {n:Int}(h:i64 n):w64 n=n:=by
 unfold w64 IntKind.wrap
 simp only [IntKind.signed,IntKind.bits]
 obtain ⟨h1,h2⟩:=h
 first | omega | (simp;omega) | (rw [Int.emod_emod_of_dvd];omega)
theorem ztJ (x:Rt):billF x=(ziL x&&within x.edition 0 1048576&&ziF x.name&&ziF x.town&&(x.holder==0)&&(x.sign==0)&&(x.ends==0)):=by
 cases x
 simp only [billF,rtEq,zkr,ziL,ziF,within,zcZ,beq_self_eq_true,Bool.true_and,Bool.and_true]
 rw [Bool.eq_iff_iff]
 simp only [Bool.and_eq_true,decide_eq_true_eq,beq_iff_eq]
 constructor
 ·
  rintro ⟨⟨⟨⟨a,b,c⟩,d⟩,e⟩,f⟩;refine ⟨⟨⟨⟨⟨⟨⟨⟨?_,?_⟩,?_⟩,?_⟩,e⟩,f⟩,?_⟩,?_⟩,?_⟩<;>(try simp_all)<;>omega
 ·
  rintro ⟨⟨⟨⟨⟨⟨a,b⟩,c⟩,d⟩,e⟩,f⟩,g⟩;simp_all
theorem zk4 (x:Rt):heldF x=Wk x:=by
 cases x
 simp only [heldF,Wk,rtEq,zkr,ziL,within,zcw,zcZ,beq_self_eq_true,Bool.true_and,Bool.and_true]
 rw [Bool.eq_iff_iff]
 simp only [Bool.and_eq_true,decide_eq_true_eq,beq_iff_eq]
 constructor
 ·
  intro h;simp_all
 ·
  intro h;simp_all
theorem zlc {α:Type}{xs:List α}{p q:α→Bool}(h:∀ x∈xs,p x=q x):xs.any p=xs.any q:=by
 induction xs with
 | nil=>rfl
 | cons x xs ih=>rw [List.any_cons,List.any_cons,h x (List.mem_cons_self ..),ih (fun y hy=>h y (List.mem_cons_of_mem _ hy))]
def zgk (pre:List Rt)(bs:List (Int×Rt)):Prop:=∀ k,Zt bs k=pre.find? fun y=>y.no==k
theorem zpx {n:Int}(h:0≤n∧n≤1048576):w64 (n+1)=n+1:=zqh ⟨kB,kB⟩
theorem zpH {n m:Int}(hn:i64 n)(hm:0≤m∧m≤1048576):(m=w64 (n-1))↔m+1=n:=by
 by_cases h:n= -9223372036854775808
 ·
  subst h
  have:w64 (-9223372036854775808-1)=9223372036854775807:=by decide
  rw [this];omega
 ·
  rw [zqh (n:=n-1) ⟨by have:=hn.1;omega,by have:=hn.2;omega⟩];omega
theorem zpj {pre:List Rt}{p q:Rt→Bool}(huniq:∀ y∈pre,∀ z∈pre,p y=true→p z=true→y=z):(match pre.find? p with | none=>false | some y=>q y)=pre.any (fun y=>p y&&q y):=by
 cases h:pre.find? p with
 | none=>
  rw [List.find?_eq_none] at h
  symm
  rw [List.any_eq_false]
  intro y hy
  have:=h y hy
  simp [this]
 | some y=>
  have hp:=List.find?_some h
  have hm:=List.mem_of_find?_eq_some h
  show q y=_
  cases hq:q y with
  | true=>exact (List.any_eq_true.2 ⟨y,hm,show (p y&&q y)=true by rw [hp,hq];rfl⟩).symm
  | false=>
   symm
   rw [List.any_eq_false]
   intro z hz hpz
   rw [Bool.and_eq_true] at hpz
   have:=huniq y hm z hz hp hpz.1
   subst this
   rw [hq] at hpz
   exact absurd hpz.2 kD
def zqd (pre:List Rt):Prop:=pre.Pairwise fun y z=>y.no<z.no
theorem zqd.uniq {pre:List Rt}(h:zqd pre){y z:Rt}(hy:y∈pre)(hz:z∈pre)(e:y.no=z.no):y=z:=by
 induction pre with
 | nil=>cases hy
 | cons p pre ih=>
  rw [zqd,List.pairwise_cons] at h
  rcases List.mem_cons.1 hy with e1 | hy<;>rcases List.mem_cons.1 hz with e2 | hz
  ·
   rw [e1,e2]
  ·
   have:=h.1 z hz;rw [e1] at e;omega
  ·
   have:=h.1 y hy;rw [e2] at e;omega
  ·
   exact ih h.2 hy hz
theorem zuv {pre:List Rt}{bs:List (Int×Rt)}{x:Rt}(hm:zgk pre bs)(hr:zqd pre)(hb:∀ y∈pre,0≤y.no∧y.no≤1048576)(hx:okR x):
  voidF x bs=(zgg pre x&&(x.edition==0)&&(x.holder==0)&&(x.sign==0)&&KB x.name zcw&&KB x.town zcw&&(x.lo==0)&&(x.hi==0)):=by
 have e1:voidF x bs=((match pre.find? (fun y=>y.no==w64 (x.ends-1)) with | none=>false | some old=>(old.kind != 4)&&decide (old.known≤x.known))&&rtEq x {zeroR with no:=x.no,kind:=x.kind,ends:=x.ends,known:=x.known}):=by
  unfold voidF
  rw [hm]
  cases pre.find? (fun y=>y.no==w64 (x.ends-1))<;>rfl
 have e2:zgg pre x=pre.any (fun y=>(y.no==w64 (x.ends-1))&&((y.kind != 4)&&decide (y.known≤x.known))):=by
  unfold zgg
  apply zlc
  intro y hy
  have h1:=hb y hy
  have h2:(w64 (y.no+1)==x.ends)=(y.no==w64 (x.ends-1)):=by
   rw [Bool.eq_iff_iff,beq_iff_eq,beq_iff_eq,zpx h1,zpH hx.ends h1]
  rw [h2,Bool.and_assoc]
 rw [e1,zpj (fun y hy z hz h1 h2=>hr.uniq hy hz (by rw [beq_iff_eq] at h1 h2;rw [h1,h2])),e2]
 have e3:rtEq x {zeroR with no:=x.no,kind:=x.kind,ends:=x.ends,known:=x.known}=((x.edition==0)&&(x.holder==0)&&(x.sign==0)&&KB x.name zcw&&KB x.town zcw&&(x.lo==0)&&(x.hi==0)):=by
  cases x
  simp only [rtEq,zeroR,zcw,beq_self_eq_true,Bool.true_and,Bool.and_true,Bool.and_assoc]
 rw [e3]
 simp only [Bool.and_assoc]
theorem zvY {pre:List Rt}{bs:List (Int×Rt)}{x:Rt}(hm:zgk pre bs)(hr:zqd pre)(hb:∀ y∈pre,0≤y.no∧y.no≤1048576)(hx:okR x):
  (zcY x.kind&&askF x.kind x bs)=WJ pre x:=by
 unfold zcY askF WJ
 by_cases h1:x.kind=1
 ·
  rw [h1];simp only [if_true,beq_self_eq_true,Bool.true_or,Bool.true_and,ztJ]
 ·
  by_cases h2:x.kind=2
  ·
   rw [h2];simp [zk4]
  ·
   by_cases h3:x.kind=3
   ·
    rw [h3];simp [zk4]
   ·
    by_cases h4:x.kind=4
    ·
     rw [h4];simp [zuv hm hr hb hx]
    ·
     simp [h1,h2,h3,h4]
theorem zxP {pre:List Rt}{bs:List (Int×Rt)}{x y:Rt}{i:Nat}{last:Int}(hm:zgk pre bs)(hr:zqd pre)(hb:∀ y∈pre,0≤y.no∧y.no≤1048576)(hx:okR x)
  (h0:i=0→last= -1)(h1:0<i→last=y.no∧0≤last):rBad x bs last= !VW i pre y x:=by
 have ha:=zvY hm hr hb hx
 unfold rBad VW
 by_cases hA:(!within x.no 0 1048576||(decide ((i:Int)>0)&&decide (x.no≤y.no))|| !within x.known 0 134217727)=true
 ·
  rw [if_pos hA]
  simp only [Bool.not_false,Bool.or_eq_true,Bool.and_eq_true,within,Bool.not_eq_true',Bool.and_eq_false_iff,decide_eq_true_eq,decide_eq_false_iff_not] at hA ⊢
  rcases Nat.eq_zero_or_pos i with hi | hi
  ·
   have:=h0 hi;subst hi;omega
  ·
   have:=h1 hi;omega
 ·
  rw [if_neg hA]
  rw [←ha]
  simp only [Bool.or_eq_true,Bool.and_eq_true,within,Bool.not_eq_true',Bool.and_eq_false_iff,decide_eq_true_eq,decide_eq_false_iff_not] at hA
  have e1:decide (x.no≤last)=false:=by
   rcases Nat.eq_zero_or_pos i with hi | hi
   ·
    have:=h0 hi;subst hi;exact decide_eq_false kB
   ·
    have:=h1 hi;exact decide_eq_false kB
  have e2:decide (x.no>1048576)=false:=decide_eq_false kB
  have e3:within x.known 0 134217727=true:=by simp only [within,Bool.and_eq_true,decide_eq_true_eq];omega
  rw [e1,e2,e3]
  cases zcY x.kind<;>cases askF x.kind x bs<;>rfl
theorem zhA (pre:List Rt)(x:Rt)(rest:List Rt):Wr (pre++x::rest) pre.length=VW pre.length pre (zcQ (pre++x::rest) pre.length) x:=by
 unfold Wr
 rw [List.take_left' rfl]
 simp
theorem zm8 (pre rest:List Rt)(h:0<pre.length):∃ y,pre[pre.length-1]? =some y∧zcQ (pre++rest) pre.length=y:=by
 have h1:pre.length-1<pre.length:=kB
 refine ⟨pre[pre.length-1],List.getElem?_eq_getElem h1,?_⟩
 unfold zcQ
 rw [show ((pre.length:Int)-1).toNat=pre.length-1 from by omega,List.getElem?_append_left h1,List.getElem?_eq_getElem h1];rfl
theorem zp7 {i:Nat}{pre:List Rt}{x y:Rt}(h:VW i pre y x=true):0≤x.no∧x.no≤1048576∧(0<i→y.no<x.no):=by
 unfold VW at h
 split at h
 ·
  cases h
 ·
  rename_i hb
  simp only [Bool.or_eq_true,Bool.and_eq_true,within,Bool.not_eq_true',Bool.and_eq_false_iff,decide_eq_true_eq,decide_eq_false_iff_not] at hb
  refine ⟨kB,kB,fun hi=>kB⟩
theorem zgk.step {pre:List Rt}{bs:List (Int×Rt)}{x:Rt}(hm:zgk pre bs)(hlt:∀ y∈pre,y.no<x.no):zgk (pre++[x]) (Jr bs x.no x):=by
 intro k
 rw [VZ,List.find?_append,hm]
 by_cases h:x.no=k
 ·
  have:pre.find? (fun y=>y.no==k)=none:=List.find?_eq_none.2 fun y hy=>by have:=hlt y hy;simp;omega
  rw [if_pos h,this];simp [h]
 ·
  rw [if_neg h]
  have:([x]:List Rt).find? (fun y=>y.no==k)=none:=by simp [h]
  rw [this];simp
theorem zvE:∀ (rest pre:List Rt) (bs:List (Int×Rt)) (last:Int),zgk pre bs→zqd pre→(∀ y∈pre,0≤y.no∧y.no≤1048576∧y.no≤last)→(pre=[]→last= -1)→(∀ y,pre[pre.length-1]? =some y→last=y.no)→(∀ x∈rest,okR x)→
  rGo rest bs last=if (List.range' pre.length rest.length).all (Wr (pre++rest)) then 0 else 460
 | [],pre,bs,last,_,_,_,_,_,_=>by simp [rGo]
 | x::rest,pre,bs,last,hm,hr,hb,h0,h1,hx=>by
  have hbad:=zxP (x:=x) (y:=zcQ (pre++x::rest) pre.length) (i:=pre.length) (last:=last) hm hr (fun y hy=>⟨(hb y hy).1,(hb y hy).2.1⟩) (hx x (List.mem_cons_self ..))
   (fun h=>h0 (List.length_eq_zero_iff.1 h)) (fun h=>by
    obtain ⟨y,hy,hp⟩:=zm8 pre (x::rest) h
    rw [hp]
    have:=h1 y hy
    exact ⟨this,by rw [this];exact (hb y (List.mem_of_getElem? hy)).1⟩)
  rw [←zhA] at hbad
  rw [List.length_cons,List.range'_succ,List.all_cons,rGo,hbad]
  cases hg:Wr (pre++x::rest) pre.length with
  | false=>rfl
  | true=>
   rw [zhA] at hg
   obtain ⟨a,b,c⟩:=zp7 hg
   have hlast:∀ y∈pre,y.no<x.no:=fun y hy=>by
    have hl:0<pre.length:=List.length_pos_of_mem hy
    obtain ⟨z,hz,hp⟩:=zm8 pre (x::rest) hl
    have h2:=c hl
    rw [hp] at h2
    have h3:=h1 z hz
    have h4:=(hb y hy).2.2
    omega
   have ih:=zvE rest (pre++[x]) (Jr bs x.no x) x.no (hm.step hlast) (by
     unfold zqd
     rw [List.pairwise_append]
     exact ⟨hr,List.pairwise_singleton ..,fun y hy z hz=>by rw [List.mem_singleton] at hz;subst hz;exact hlast y hy⟩)
    (fun y hy=>by
     rcases List.mem_append.1 hy with hy | hy
     ·
      have:=hb y hy;have:=hlast y hy;omega
     ·
      rw [List.mem_singleton] at hy;subst hy;omega)
    (fun h=>by simp at h) (fun y hy=>by
     have:(pre++[x])[(pre++[x]).length-1]? =some x:=by simp
     rw [this] at hy;cases hy;rfl) (fun y hy=>hx y (List.mem_cons_of_mem _ hy))
   simp only [Bool.not_true,Bool.false_eq_true,if_false,Bool.true_and]
   rw [ih]
   simp only [List.length_append,List.length_singleton,List.append_assoc,List.singleton_append]
theorem check_eq {xs:List Rt}(hx:∀ x∈xs,okR x):rCheck xs=fCheck xs:=by
 unfold rCheck fCheck
 split
 ·
  rfl
 ·
  have:=zvE xs [] [] (-1) (fun k=>rfl) .nil (fun y h=>by cases h) (fun _=>rfl) (fun y h=>by simp at h) hx
  rw [this,List.range_eq_range'];rfl
end
end Go.Proofs.YtjblkbkmblkgoaaGreat.S
namespace Go.Proofs.YtjblkbkmblkgoaaGreat
section
open Go Go.Kn Go.Proofs
theorem zyy {x:Lm}(h:x.ends=0):lmC x=[x]:=if_pos h
theorem zy1 {x:Lm}(h:¬x.ends=0):lmC x=[⟨IntKind.i64.wrap (x.ends-1),x.person,0,0,0,0,3,0,1⟩,x]:=if_neg h
theorem zyK {x:S.Rt}(h:x.ends=0):rtC x=[x]:=if_pos h
theorem zyn {x:S.Rt}(h:¬x.ends=0):rtC x=[⟨IntKind.i64.wrap (x.ends-1),1,0,0,0,0,⟨#[97]⟩,⟨#[97]⟩,0,0,0⟩,x]:=if_neg h
theorem zv6 {x:Lm}(h: -9223372036854775808≤x.ends∧x.ends≤9223372036854775807):∀ y∈lmC x, -9223372036854775808≤y.ends∧y.ends≤9223372036854775807:=fun y hy=>by
 unfold lmC at hy
 split at hy
 ·
  rw [List.mem_singleton.1 hy];exact h
 ·
  simp only [List.mem_cons,List.not_mem_nil,or_false] at hy
  rcases hy with rfl | rfl
  ·
   simp
  ·
   exact h
theorem zpn (n:Int): -9223372036854775808≤IntKind.i64.wrap n∧IntKind.i64.wrap n≤9223372036854775807:=by
 unfold IntKind.wrap
 simp only [IntKind.signed,IntKind.bits]
 simp
 omega
theorem zyC {x:S.Rt}(h:S.okR x):∀ y∈rtC x,S.okR y:=fun y hy=>by
 unfold rtC at hy
 split at hy
 ·
  rw [List.mem_singleton.1 hy];exact h
 ·
  simp only [List.mem_cons,List.not_mem_nil,or_false] at hy
  rcases hy with rfl | rfl
  ·
   refine ⟨zpn _,?_,?_,?_,?_,?_,?_,?_,?_⟩<;>simp [S.i64]
  ·
   exact h
theorem NtW.lm {x:Nt}(h:NtW x): -9223372036854775808≤x.lm.ends∧x.lm.ends≤9223372036854775807:=h.ints _ kX
theorem NtW.rt {x:Nt}(h:NtW x):S.okR x.rt:=
 ⟨h.ints _ kX,h.ints _ kX,h.ints _ kX,h.ints _ kX,h.ints _ kX,h.ints _ kX,h.ints _ kX,h.ints _ kX,h.ints _ kX⟩
theorem zjC {x:S.Rt}(h:S.okR x):S.fCheck (rtC x)=S.rCheck (rtC x):=(S.check_eq (zyC h)).symm
theorem zyi {I:Qu}{x:Nt}(hN:Nd I x.pt):smP x.pt V5=z2 x:=by
 have hl:x.pt.needs.length=x.pt.n:=hN.len
 have e:(decide (x.pt.needs=V5.needs))=((x.pt.n:Int)==0):=by
  rw [Bool.eq_iff_iff,decide_eq_true_eq,beq_iff_eq,←hl]
  show x.pt.needs=[]↔_
  rw [←List.length_eq_zero_iff];omega
 unfold smP smC z2
 rw [e]
 rw [Bool.eq_iff_iff]
 simp only [Bool.and_eq_true,Bool.not_eq_true',Bool.or_eq_false_iff,bne_eq_false_iff_eq,beq_iff_eq,Bool.not_eq_false']
 constructor
 ·
  rintro ⟨⟨⟨⟨⟨⟨h1,h2⟩,h3⟩,h4⟩,h5⟩,h6⟩,h7⟩
  exact ⟨⟨⟨⟨⟨h1,h2⟩,h3⟩,h4⟩,h5⟩,h7⟩
 ·
  rintro ⟨⟨⟨⟨⟨h1,h2⟩,h3⟩,h4⟩,h5⟩,h7⟩
  exact ⟨⟨⟨⟨⟨⟨h1,h2⟩,h3⟩,h4⟩,h5⟩,h7⟩,h7⟩
theorem zu3 {x:Nt}(h:x.kind=1):QM x=(((zcX (lmC x.lm)==0&&z2 x)&&z3 x)&&z4 x):=by
 unfold QM Wm Xo
 rw [h,if_pos rfl]
 simp [Bool.and_assoc]
theorem zxe {x:Nt}(h:x.kind=2):QM x=(((z1 x&&(K1 x.pt==0))&&z3 x)&&z4 x):=by
 unfold QM Wm Xo
 rw [h,if_neg kD,if_pos rfl]
 simp only [show ((2:Int)==1)=false by rfl,show ((2:Int)==2)=true by rfl,show ((2:Int)==3)=false by rfl,show ((2:Int)==4)=false by rfl,Bool.false_or,Bool.true_or,Bool.and_true]
 cases K1 x.pt==0<;>cases z1 x<;>rfl
theorem zhV {x:Nt}(h:x.kind=3):QM x=(((z1 x&&z2 x)&&(L.chk [x.ls]==0))&&z4 x):=by
 unfold QM Wm Xo
 rw [h,if_neg kD,if_neg kD,if_pos rfl]
 simp only [show ((3:Int)==1)=false by rfl,show ((3:Int)==2)=false by rfl,show ((3:Int)==3)=true by rfl,show ((3:Int)==4)=false by rfl,Bool.false_or,Bool.true_or,Bool.and_true]
 cases L.chk [x.ls]==0<;>cases z1 x<;>cases z2 x<;>rfl
theorem zu2 {x:Nt}(h:x.kind=4):QM x=(((z1 x&&z2 x)&&z3 x)&&(S.rCheck (rtC x.rt)==0)):=by
 unfold QM Wm Xo
 rw [h,if_neg kD,if_neg kD,if_neg kD,if_pos rfl]
 simp only [show ((4:Int)==1)=false by rfl,show ((4:Int)==2)=false by rfl,show ((4:Int)==3)=false by rfl,show ((4:Int)==4)=true by rfl,Bool.false_or,Bool.true_or,Bool.and_true]
 cases S.rCheck (rtC x.rt)==0<;>cases z1 x<;>cases z2 x<;>cases z3 x<;>rfl
theorem zrw {x:Nt}(h1:¬x.kind=1)(h2:¬x.kind=2)(h3:¬x.kind=3)(h4:¬x.kind=4):QM x=false:=by
 unfold QM Wm
 rw [if_neg h1,if_neg h2,if_neg h3,if_neg h4];rfl
theorem zeg (a:Int):(!decide (a<0))=decide (a≥0):=by
 rw [Bool.eq_iff_iff];simp
end
section
open Go Go.Kn Go.Proofs
theorem znu {a b a0 b0:Nat}(h:Nat.gcd a b=Nat.gcd a0 b0):Nat.gcd b (a % b)=Nat.gcd a0 b0:=
 (Nat.gcd_comm b (a % b)).trans ((Nat.gcd_rec b a).symm.trans ((Nat.gcd_comm b a).trans h))
theorem zn7 {a b:Int}(ha:0≤a)(hb:0≤b):((Nat.gcd a.toNat b.toNat:Nat):Int)=zjf a b:=by
 unfold zjf Int.gcd
 congr 2<;>omega
theorem zpM (n d:Int):zjf (zcs n) d=zjf n d:=by
 unfold zjf Int.gcd
 have:(zcs n).natAbs=n.natAbs:=by unfold zcs;split<;>omega
 rw [this]
theorem zru {n:Int}(h: -1073741824≤n∧n≤1073741824):0≤zcs n∧zcs n≤1073741824:=by unfold zcs;split<;>omega
theorem zof (n d:Int):(((((decide (d≥1)&&decide (d≤1073741824))&&decide (n≥ -1073741824))&&decide (n≤1073741824))&&(zjf (zcs n) d==1)))=U6 n d:=by
 unfold U6
 rw [zpM,Bool.eq_iff_iff]
 simp only [Bool.and_eq_true,decide_eq_true_eq,beq_iff_eq,Bool.not_eq_true',Bool.or_eq_false_iff,decide_eq_false_iff_not,bne_eq_false_iff_eq]
 omega
theorem zoU (fn fd tn td:Int):((((U6 fn fd&&U6 tn td)&&decide (fn≥0))&&decide (fn*td<tn*fd))&&decide (tn≤td))=zb4 fn fd tn td:=by
 unfold zb4
 generalize (U6 fn fd&&U6 tn td)=a
 generalize decide (fn≥0)=b
 generalize decide (fn*td<tn*fd)=c
 generalize decide (tn≤td)=d
 cases a<;>cases b<;>cases c<;>cases d<;>rfl
def frA (x:Sg):Bool:=(((!within x.id 0 1048576|| !within x.role 0 63)|| !within x.bar 0 4095)|| !within x.kind 1 9)|| !within x.mark 1 3
def frB (x:Sg):Bool:=(((!within x.side 0 2|| !within x.dir 0 8)|| !within x.level 0 3)|| !within x.size 0 255)|| !within x.wth 0 64
theorem zkx (x:Sg):frm x=((!frA x&& !frB x)&&zb4 x.fn x.fd x.tn x.td):=by
 unfold frm zyj frA frB
 generalize within x.id 0 1048576=b1
 generalize within x.role 0 63=b2
 generalize within x.bar 0 4095=b3
 generalize within x.kind 1 9=b4
 generalize within x.mark 1 3=b5
 generalize within x.side 0 2=b6
 generalize within x.dir 0 8=b7
 generalize within x.level 0 3=b8
 generalize within x.size 0 255=b9
 generalize within x.wth 0 64=b10
 cases b1<;>cases b2<;>cases b3<;>cases b4<;>cases b5<;>first | rfl | (cases b6<;>cases b7<;>cases b8<;>cases b9<;>cases b10<;>rfl)
theorem zyh {x:Sg}(h:frA x=true):frm x=false:=by rw [zkx,h];rfl
theorem zyL {x:Sg}(h:frB x=true):frm x=false:=by rw [zkx,h];simp
theorem zyg {x:Sg}(h:frA x=false)(h2:frB x=false):frm x=zb4 x.fn x.fd x.tn x.td:=by rw [zkx,h,h2];rfl
theorem zuY {xs:List Sg}(h:xs.length>4096):zis xs=2:=by unfold zis;rw [if_pos h]
theorem zvV {xs:List Sg}(h:¬xs.length>4096)(h2:skB xs=false):zis xs=360:=by unfold zis;rw [if_neg h,h2];rfl
theorem zve {xs:List Sg}(h:¬xs.length>4096)(h2:skB xs=true):zis xs=0:=by unfold zis;rw [if_neg h,h2];rfl
theorem zq3 (p:Pt):(((decide (p.id<1)||decide (p.id>1048576))||decide (p.sign<0))||decide (p.sign>1048576))= !idB p:=by
 unfold idB
 rw [Bool.eq_iff_iff]
 simp only [Bool.or_eq_true,decide_eq_true_eq,Bool.not_eq_true',Bool.and_eq_false_iff,decide_eq_false_iff_not]
 omega
def zpQ (p:Pt):Bool:=idB p&&(ndB p.id p.needs&&UF p)
theorem zvi {p:Pt}(h:idB p=false):zpQ p=false:=by unfold zpQ;rw [h];rfl
theorem zu6 {p:Pt}(h:ndB p.id p.needs=false):zpQ p=false:=by unfold zpQ;rw [h,Bool.false_and,Bool.and_false]
theorem zlk {p:Pt}(h:idB p=true)(h2:ndB p.id p.needs=true):zpQ p=UF p:=by unfold zpQ;rw [h,h2];rfl
theorem zlZ {p:Pt}(h:¬p.needs.length>32):(if zpQ p=true then (0:Int) else 370)=K1 p:=by
 unfold K1 zpQ
 rw [if_neg h]
 cases idB p<;>cases ndB p.id p.needs<;>cases UF p<;>rfl
theorem zmK {f:Int}(h:(decide (f<1)||decide (f>9))=false):within f 1 9=true∧isF f:=by
 simp only [Bool.or_eq_false_iff,decide_eq_false_iff_not] at h
 unfold within isF
 simp;omega
theorem ziG {f:Int}(h:(decide (f<1)||decide (f>9))=true):within f 1 9=false:=by
 simp only [Bool.or_eq_true,decide_eq_true_eq] at h
 unfold within
 simp;omega
theorem zsc {p:Pt}(hk:p.kind=1)(h:(decide (p.field<1)||decide (p.field>9))=false):(ziB (KZ JP p.field p.nw) p.nw&&frm (KZ zeZ p.field p.nw))=UF p:=by
 obtain ⟨h1,h2⟩:=zmK h
 rw [zsT hk h1,zp0 h2,zkQ h2]
theorem zyB {p:Pt}(hk:p.kind=1)(h:(decide (p.field<1)||decide (p.field>9))=true):UF p=false:=by
 unfold UF;rw [if_pos hk,ziG h];rfl
end
section
open Go Go.Kn Go.Proofs
theorem zyk (I:Qu)(a0 b0:Nat)(ha:a0≤1073741824)(hb:b0≤1073741824):ZA Tryz.prog 288 [.int .i64 a0,.int .i64 b0] I (.int .i64 (Nat.gcd a0 b0:Nat)):=by
 intro g H w hw
 refine qe Tryz.func288 Tryz.ntmps288 hw ?_
 refine zR (zA (zN (Qo (Qx ?_))))
 refine zc8 [] .nil (fun T L0 mz E I' loc'=>∃ (a b:Nat),mz=(b+1)∧E=(0,.int .i64 a)::(1,.int .i64 b)::T∧I=I'∧L0=loc'∧Nat.gcd a b=Nat.gcd a0 b0) _ _ _ _ ⟨a0,b0,rfl,rfl,rfl,rfl,rfl⟩ (.cons rfl (.cons rfl .nil)) (zz4 _) rfl ?_
 rintro mz E I' loc' ⟨a,b,rfl,rfl,rfl,rfl,hgc⟩
 refine Qo (zR (zM ?_))
 refine zC (zN ?_)
 refine zI ?_ ?_<;>intro hc7
 ·
  have hbp:0<b:=by have h:=hc7;simp at h;omega
  refine Qp (Qd (Qx (zR (zM ?_))))
  refine zM ?_
  refine zV (Yb rfl rfl (fun hg=>kB)) ?_
  rw [zib]
  refine zA ?_
  refine zN (zR ?_)
  refine zM ?_
  refine zA (zN (Qi ?_))
  refine zM ?_
  refine zA (Qb (Qj ?_))
  exact zm (h:=⟨a % b+1,Nat.succ_lt_succ (Nat.mod_lt _ hbp),b,a % b,rfl,rfl,rfl,rfl,znu hgc⟩)
 have hb0:b=0:=by have h:=hc7;simp at h;omega
 refine Q6 (Qn (Qn (Qw (Qd (zR (zM ?_))))))
 refine zA (zN (Qs ?_))
 exact zr rfl rfl (by rw [←hgc,hb0,Nat.gcd_zero_right])
theorem zvG (I:Qu)(a b:Int)(ha:0≤a∧a≤1073741824)(hb:0≤b∧b≤1073741824):ZA Tryz.prog 288 [.int .i64 a,.int .i64 b] I (.int .i64 (zjf a b)):=by
 have h:=zyk I a.toNat b.toNat kB kB
 rw [Int.toNat_of_nonneg ha.1,Int.toNat_of_nonneg hb.1,zn7 ha.1 hb.1] at h
 exact h
theorem zvP (I:Qu)(n:Int)(hn: -1073741824≤n∧n≤1073741824):ZA Tryz.prog 289 [.int .i64 n] I (.int .i64 (zcs n)):=by
 intro g H w hw
 refine qe Tryz.func289 Tryz.ntmps289 hw ?_
 refine zR (zA (zN (Qo (zR ?_))))
 refine zM ?_
 refine zC (zN ?_)
 refine zI ?_ ?_<;>intro hc4
 ·
  refine zR (zM ?_)
  refine zV (zky rfl) ?_
  refine zA (zN (Qs (Qf ?_)))
  first
  | exact zr rfl rfl (by unfold zcs;rw [if_pos (by simpa using hc4),zdL kB])
 refine Qp (Qd (zR (zM ?_)))
 refine zA (zN (Qs ?_))
 first
 | exact zr rfl rfl (by unfold zcs;rw [if_neg (by simpa using hc4)])
theorem zkv (I:Qu)(n d:Int):ZA Tryz.prog 286 [zaz (n) (d)] I (.bool (U6 n d)):=by
 intro g H w hw
 refine qe Tryz.func286 Tryz.ntmps286 hw ?_
 refine zR ?_
 refine QO rfl rfl rfl (fun b_1=>?_)
 refine zA (zN (Qo ?_))
 refine Xt mixed kA ?_
 refine zq (Qa rfl Y6) ?_
 refine zq (Qc rfl Qm (fun hg=>by exact QA.h0 rfl)) ?_
 refine zq (Qz rfl rfl rfl) ?_
 refine zq (Qe rfl) ?_
 refine VM 3 rfl rfl rfl ?_
 refine zk (Qa rfl Y6) ?_
 refine zk (Qc rfl Qm (fun hg=>by exact QA.h0 rfl)) ?_
 refine zk (Qz rfl rfl rfl) ?_
 refine WU rfl rfl rfl rfl rfl ?_
 refine zq (Qe rfl) ?_
 refine VM 8 rfl rfl rfl ?_
 refine zk (Qa rfl YP) ?_
 refine zk (Qc rfl Qm (fun hg=>by exact QA.h0 rfl)) ?_
 refine zk (Qz rfl rfl rfl) ?_
 refine WU rfl rfl rfl rfl rfl ?_
 refine zq (Qe rfl) ?_
 refine VM 13 rfl rfl rfl ?_
 refine zk (Qa rfl YP) ?_
 refine zk (Qc rfl Qm (fun hg=>by exact QA.h0 rfl)) ?_
 refine zk (Qz rfl rfl rfl) ?_
 refine WU rfl rfl rfl rfl rfl ?_
 refine zq (Qe rfl) ?_
 refine VM 18 rfl rfl rfl ?_
 refine zk (Qa rfl YP) ?_
 refine zk (Qc rfl Qm (fun hg=>by exact QA.h0 rfl)) ?_
 refine JL (cap:=[]) (vs:=[_]) rfl rfl ztF (fun hg=>zvP I n (by simp [Yf] at hg;omega)) (.some rfl rfl rfl rfl gbt) rfl rfl ?_
 refine zk (Qa rfl Y6) ?_
 refine zk (Qc rfl Qm (fun hg=>by exact QA.h0 rfl)) ?_
 refine JL (cap:=[]) (vs:=[_,_]) rfl rfl ztK (fun hg=>zvG I _ d (zru (by simp [Yf] at hg;omega)) (by simp [Yf] at hg;omega)) (.some rfl rfl rfl rfl gbt) rfl rfl ?_
 refine zk (Qz rfl rfl rfl) ?_
 refine WU rfl rfl rfl rfl rfl ?_
 refine zq (Qv rfl) ?_
 refine Xw ?_
 refine Qd (Qs ?_)
 exact zr rfl rfl (by rw [←zof])
theorem zwh (I:Qu)(an ad bn bd:Int):ZA Tryz.prog 283 [zaz (an) (ad),zaz (bn) (bd)] I (.bool (U6 an ad&&U6 bn bd)):=by
 intro g H w hw
 refine qe Tryz.func283 Tryz.ntmps283 hw ?_
 refine zR ?_
 refine QO rfl rfl rfl (fun b_2=>?_)
 refine QO rfl rfl rfl (fun b_3=>?_)
 refine zA ?_
 refine zN (zR ?_)
 refine zV (Qg rfl Jh (fun hg=>by exact Cells.g1) rfl) ?_
 refine qcV (vs:=[_]) rfl zmC (zkv I _ _) ?_
 refine zM ?_
 refine Qq 2 rfl rfl rfl ?_
 refine zK (Qg rfl Jh (fun hg=>by exact Cells.g0) rfl) ?_
 refine qg (vs:=[_]) rfl zmC (fun hg=>zkv I _ _) ?_
 refine QB rfl rfl rfl rfl rfl ?_
 refine zA (zN (Qs ?_))
 exact zr rfl rfl kU
theorem zw1 (I:Qu)(an ad bn bd:Int)(ha:U6 an ad=true)(hb:U6 bn bd=true):ZA Tryz.prog 284 [zaz (an) (ad),zaz (bn) (bd)] I (.bool (decide (an*bd<bn*ad))):=by
 intro g H w hw
 refine qe Tryz.func284 Tryz.ntmps284 hw ?_
 have ⟨ha1,ha2⟩:=zdl ha
 have ⟨hb1,hb2⟩:=zdl hb
 refine zR ?_
 refine QO rfl rfl rfl (fun b_2=>?_)
 refine QO rfl rfl rfl (fun b_3=>?_)
 refine zA ?_
 refine zN (zR ?_)
 refine zF YP ?_
 refine zL Qm ?_
 refine zF Y6 ?_
 refine zL Qm ?_
 refine zV (YE rfl rfl rfl (fun _=>by exact zph kB kB)) ?_
 refine zF YP ?_
 refine zL Qm ?_
 refine zF Y6 ?_
 refine zL Qm ?_
 refine zV (YE rfl rfl rfl (fun _=>by exact zph kB kB)) ?_
 refine zC ?_
 refine zA (zN (Qs ?_))
 exact zr rfl rfl kU
theorem JD (I:Qu)(n lo hi:Int):ZA Tryz.prog 279 [.int .i64 n,.int .i64 lo,.int .i64 hi] I (.bool (within n lo hi)):=by
 intro g H w hw
 refine qe Tryz.func279 Tryz.ntmps279 hw ?_
 refine zR (zA ?_)
 refine zN (zR ?_)
 refine zM ?_
 refine zM ?_
 refine zC ?_
 refine zM ?_
 refine Qq 3 rfl rfl rfl ?_
 refine zK (Qe rfl) ?_
 refine zK (Qe rfl) ?_
 refine zK (Qz rfl rfl rfl) ?_
 refine QB rfl rfl rfl rfl rfl ?_
 refine zA (zN (Qs ?_))
 exact zr rfl rfl kU
theorem zvC (I:Qu)(an ad bn bd:Int):ZA Tryz.prog 280 [zaz (an) (ad),zaz (bn) (bd)] I (.bool (zb4 an ad bn bd)):=by
 intro g H w hw
 refine qe Tryz.func280 Tryz.ntmps280 hw ?_
 refine zR ?_
 refine QO rfl rfl rfl (fun b_2=>?_)
 refine QO rfl rfl rfl (fun b_3=>?_)
 refine zA ?_
 refine zN (zR ?_)
 refine zV (Qg rfl Jh (fun hg=>by exact Cells.g1) rfl) ?_
 refine zV (Qg rfl Jh (fun hg=>by exact Cells.g0) rfl) ?_
 refine qcV (vs:=[_,_]) rfl zsd (zwh I _ _ _ _) ?_
 refine zA ?_
 refine zN (zR ?_)
 refine zM ?_
 refine zM ?_
 refine Qq 1 rfl rfl rfl ?_
 refine zK (Qa rfl YP) ?_
 refine zK (Qc rfl Qm (fun hg=>by exact QA.h1 rfl)) ?_
 refine zK (Qz rfl rfl rfl) ?_
 refine QB rfl rfl rfl rfl rfl ?_
 refine zM ?_
 refine Qq 6 rfl rfl rfl ?_
 refine zK (Qg rfl Jh (fun hg=>by exact Cells.g1) rfl) ?_
 refine zK (Qg rfl Jh (fun hg=>by exact Cells.g0) rfl) ?_
 refine qg (vs:=[_,_]) rfl zrC (fun hg=>zw1 I _ _ _ _ (by simp [Yf] at hg;exact hg.1.1) (by simp [Yf] at hg;exact hg.1.2)) ?_
 refine QB rfl rfl rfl rfl rfl ?_
 refine zM ?_
 refine Qq 11 rfl rfl rfl ?_
 refine zK (Qa rfl YP) ?_
 refine zK (Qc rfl Qm (fun hg=>by exact QA.h0 rfl)) ?_
 refine zK (Qa rfl Y6) ?_
 refine zK (Qc rfl Qm (fun hg=>by exact QA.h0 rfl)) ?_
 refine zK (Qz rfl rfl rfl) ?_
 refine QB rfl rfl rfl rfl rfl ?_
 refine zA (zN (Qs ?_))
 exact zr rfl rfl (by rw [←zoU])
theorem zyx (I:Qu)(x:Sg):ZA Tryz.prog 277 [WD x] I (.bool (frm x)):=by
 intro g H w hw
 refine qe Tryz.func277 Tryz.ntmps277 hw ?_
 refine zR ?_
 refine QO rfl rfl rfl (fun b_1=>?_)
 refine zA (zN (Qo (zR ?_)))
 refine zF Jv ?_
 refine zL Qm ?_
 refine qcV (vs:=[_,_,_]) rfl KQ (JD I _ _ _) ?_
 refine zO ?_
 refine zM ?_
 refine QK 4 rfl rfl rfl ?_
 refine zJ (Qa rfl Uy) ?_
 refine zJ (Qc rfl Qm (fun hg=>by exact QA.h0 rfl)) ?_
 refine qf (vs:=[_,_,_]) rfl KQ (fun hg=>JD I _ _ _) ?_
 refine zJ (Zs rfl) ?_
 refine Zg rfl rfl rfl rfl rfl ?_
 refine zM ?_
 refine QK 10 rfl rfl rfl ?_
 refine zJ (Qa rfl Ux) ?_
 refine zJ (Qc rfl Qm (fun hg=>by exact QA.h0 rfl)) ?_
 refine qf (vs:=[_,_,_]) rfl KQ (fun hg=>JD I _ _ _) ?_
 refine zJ (Zs rfl) ?_
 refine Zg rfl rfl rfl rfl rfl ?_
 refine zM ?_
 refine QK 16 rfl rfl rfl ?_
 refine zJ (Qa rfl zaE) ?_
 refine zJ (Qc rfl Qm (fun hg=>by exact QA.h0 rfl)) ?_
 refine qf (vs:=[_,_,_]) rfl KQ (fun hg=>JD I _ _ _) ?_
 refine zJ (Zs rfl) ?_
 refine Zg rfl rfl rfl rfl rfl ?_
 refine zM ?_
 refine QK 22 rfl rfl rfl ?_
 refine zJ (Qa rfl Uk) ?_
 refine zJ (Qc rfl Qm (fun hg=>by exact QA.h0 rfl)) ?_
 refine qf (vs:=[_,_,_]) rfl KQ (fun hg=>JD I _ _ _) ?_
 refine zJ (Zs rfl) ?_
 refine Zg rfl rfl rfl rfl rfl ?_
 refine zN ?_
 refine zI ?_ ?_<;>intro hc30
 ·
  refine zR (zA (zN (Qs (Qf ?_))))
  exact zr rfl rfl (by exact congrArg (fun b=>Ending.returned (Value.bool b)) (zyh hc30).symm)
 refine Qp (Qd (Qo (zR ?_)))
 refine zF Ul ?_
 refine zL Qm ?_
 refine qcV (vs:=[_,_,_]) rfl KQ (JD I _ _ _) ?_
 refine zO ?_
 refine zM ?_
 refine QK 4 rfl rfl rfl ?_
 refine zJ (Qa rfl Um) ?_
 refine zJ (Qc rfl Qm (fun hg=>by exact QA.h0 rfl)) ?_
 refine qf (vs:=[_,_,_]) rfl KQ (fun hg=>JD I _ _ _) ?_
 refine zJ (Zs rfl) ?_
 refine Zg rfl rfl rfl rfl rfl ?_
 refine zM ?_
 refine QK 10 rfl rfl rfl ?_
 refine zJ (Qa rfl Ur) ?_
 refine zJ (Qc rfl Qm (fun hg=>by exact QA.h0 rfl)) ?_
 refine qf (vs:=[_,_,_]) rfl KQ (fun hg=>JD I _ _ _) ?_
 refine zJ (Zs rfl) ?_
 refine Zg rfl rfl rfl rfl rfl ?_
 refine zM ?_
 refine QK 16 rfl rfl rfl ?_
 refine zJ (Qa rfl UA) ?_
 refine zJ (Qc rfl Qm (fun hg=>by exact QA.h0 rfl)) ?_
 refine qf (vs:=[_,_,_]) rfl KQ (fun hg=>JD I _ _ _) ?_
 refine zJ (Zs rfl) ?_
 refine Zg rfl rfl rfl rfl rfl ?_
 refine zM ?_
 refine QK 22 rfl rfl rfl ?_
 refine zJ (Qa rfl Up) ?_
 refine zJ (Qc rfl Qm (fun hg=>by exact QA.h0 rfl)) ?_
 refine qf (vs:=[_,_,_]) rfl KQ (fun hg=>JD I _ _ _) ?_
 refine zJ (Zs rfl) ?_
 refine Zg rfl rfl rfl rfl rfl ?_
 refine zN ?_
 refine zI ?_ ?_<;>intro hc58
 ·
  refine zR (zA (zN (Qs (Qf ?_))))
  exact zr rfl rfl (by exact congrArg (fun b=>Ending.returned (Value.bool b)) (zyL hc58).symm)
 refine Qp (Qd (zR ?_))
 refine zF V8 ?_
 refine zV (Qg rfl Jh (fun hg=>by exact Cells.s0 (vs:=[_,_]) rfl) rfl) ?_
 refine zF Je ?_
 refine zV (Qg rfl Jh (fun hg=>by exact Cells.s0 (vs:=[_,_]) rfl) rfl) ?_
 refine qcV (vs:=[_,_]) rfl zr0 (zvC I _ _ _ _) ?_
 refine zA (zN (Qs ?_))
 exact zr rfl rfl (by exact congrArg (fun b=>Ending.returned (Value.bool b)) (zyg hc30 hc58).symm)
theorem zsv {I:Qu}{av:Option Addr}{n c:Nat}{xs:List Sg}(hS:Sl I 14 zfC av n c xs)(hn:n≤100000):ZA Tryz.prog 275 [.slice av n c] I (.bool (skB xs)):=by
 intro g H w hw
 refine qe Tryz.func275 Tryz.ntmps275 hw ?_
 refine zR (zA (zN (Qo (zR ?_))))
 refine zA (zN (Qx ?_))
 refine zU [(0,_)] (fun T L0 mz E I' loc'=>∃ (k:Nat),mz=n-k∧E=(3,.int .i64 k)::T∧I=I'∧L0=loc'∧k≤n∧(List.range k).all (skP xs)=true) ?_ (h:=⟨0,rfl,rfl,rfl,rfl,Nat.zero_le _,rfl⟩)
 rintro mz E I' loc' ⟨k,rfl,rfl,rfl,rfl,hk,hall⟩
 refine Qo (zR (zM ?_))
 refine zM ?_
 refine zQ Un ?_
 refine zC (zN ?_)
 refine zI ?_ ?_<;>intro hc7
 ·
  have hlt_k:k<n:=by have h:=hc7;simp at h;omega
  obtain ⟨x,hx⟩:=hS.at hlt_k
  refine Qp (Qd (Qo (Qx (Qo ?_))))
  refine Xt mixed kA ?_
  refine zq (Qe rfl) ?_
  refine zq (Qe rfl) ?_
  refine zq (QE rfl rfl Un kJ (fun hg=>kB)) ?_
  refine zq (Qg rfl ZC (fun hg=>by exact zz5 hS hx) rfl) ?_
  refine UO (cap:=[]) (vs:=[_]) rfl rfl zuh (zyx I _) rfl rfl ?_
  refine zq (Zs rfl) ?_
  refine zq (Qe rfl) ?_
  refine V1 6 rfl rfl rfl ?_
  refine zj (Qe rfl) ?_
  refine zj (Qz rfl rfl rfl) ?_
  refine zj (Qe rfl) ?_
  refine VM 9 rfl rfl rfl ?_
  refine zk (Qe rfl) ?_
  refine zk (Qe rfl) ?_
  refine zk (QE rfl rfl Un kJ (fun hg=>kB)) ?_
  refine zk (Qa rfl Jv) ?_
  refine zk (Qc rfl Qm (fun hg=>by exact zzX hS hx rfl)) ?_
  refine zk (Qe rfl) ?_
  refine zk (Qe rfl) ?_
  refine zk (YE rfl rfl rfl (fun hg=>kB)) ?_
  refine zk (QE rfl rfl Un kJ (fun hg=>by (simp [Yf] at hg;omega))) ?_
  refine zk (Qa rfl Jv) ?_
  refine zk (Qc rfl Qm (fun hg=>by exact zzX (k:=((k:Int)-1).toNat) hS (K7 (d:=JP) hS.len (by simp [Yf] at hg;omega)) rfl)) ?_
  refine zk (Qz rfl rfl rfl) ?_
  refine zby rfl rfl rfl (.some rfl rfl rfl rfl gbf) rfl rfl ?_
  refine UX rfl rfl rfl rfl rfl ?_
  refine Xw ?_
  refine Qd ?_
  refine zI ?_ ?_<;>intro hc33
  ·
   refine zR (zA (zN (Qs (Qk (Qf (Qf (Qk ?_)))))))
   refine Qf ?_
   first
   | exact zr rfl rfl (by unfold skB;rw [JN (k:=k) (by rw [hS.len];exact hlt_k) (by rw [zhx hx];exact congrArg (! ·) hc33)])
  refine Qp (Qj (Qd (Qi (zM ?_))))
  refine zB ?_
  refine zA (Qb ?_)
  exact zm (h:=⟨n-(k+1),kB,k+1,rfl,rfl,rfl,rfl,kB,VU hall (by rw [zhx hx];exact congrArg (! ·) hc33)⟩)
 have hge_k:n≤k:=by have h:=hc7;simp at h;omega
 refine Q6 (Qn (Qn (Qw (Qd (zR (zA (zN ?_)))))))
 refine Qs ?_
 first
 | exact zr rfl rfl (by unfold skB;rw [hS.len,show n=k by omega,hall])
theorem zw8 {I:Qu}{av:Option Addr}{n c:Nat}{xs:List Sg}(hS:Sl I 14 zfC av n c xs)(hn:n≤100000):ZA Tryz.prog 267 [.slice av n c] I (.int .i64 (zis xs)):=by
 intro g H w hw
 refine qe Tryz.func267 Tryz.ntmps267 hw ?_
 refine zR (zA (zN (Qo (zR ?_))))
 refine zM ?_
 refine zQ Un ?_
 refine zC (zN ?_)
 refine zI ?_ ?_<;>intro hc5
 ·
  have h6:xs.length>4096:=by rw [hS.len];simp at hc5;omega
  refine zR (zA (zN (Qs (Qf ?_))))
  exact zr rfl rfl (by rw [zuY h6])
 have h6:¬xs.length>4096:=by rw [hS.len];simp at hc5;omega
 refine Qp (Qd (Qo (zR (zM ?_))))
 refine qcV (vs:=[_]) rfl ztw (zsv hS hn) ?_
 refine zO (zN ?_)
 refine zI ?_ ?_<;>intro hc8
 ·
  refine zR (zA (zN (Qs (Qf ?_))))
  exact zr rfl rfl (by rw [zvV h6 (by simpa using hc8)])
 refine Qp (Qd (zR (zA (zN (Qs ?_)))))
 exact zr rfl rfl (by rw [zve h6 (by simpa using hc8)])
theorem zqE (I:Qu)(x:Sg):ZA Tryz.prog 246 [WD x] I (.bool (frm x)):=by
 intro g H w hw
 refine qe Tryz.func246 Tryz.ntmps246 hw ?_
 have hIc:=zz4 I
 refine zR ?_
 refine QO rfl rfl rfl (fun b_1=>?_)
 refine zA ?_
 refine zN (zR ?_)
 refine zV (Qg rfl ZC (fun hg=>by exact Cells.g0) rfl) ?_
 refine zpb [(0,_)] [zfC x] zmr (fun b_5=>?_)
 refine QQ .here (fun I1 hI1 hb1=>?_)
 have hIc:=hIc.trans hI1
 have hS:=Sl.lit [x] rfl zg9 (show _=some (Obj.cells (([x]:List Sg).flatMap zfC).toArray 36 (0,0)) from hb1)
 refine qcV (vs:=[_]) rfl ztg (zw8 hS kD) ?_
 refine zA ?_
 refine zN (zR ?_)
 refine zM ?_
 refine zC ?_
 refine zA (zN (Qs ?_))
 exact zp hIc rfl rfl (by rw [zkn])
theorem zxw (I:Qu)(x:Sg)(f:Int)(y:Sg):ZA Tryz.prog 245 [WD x,.int .i64 f,WD y] I (WD (KZ x f y)):=by
 intro g H w hw
 refine qe Tryz.func245 Tryz.ntmps245 hw ?_
 refine zR ?_
 refine QO rfl rfl rfl (fun b_3=>?_)
 refine QO rfl rfl rfl (fun b_5=>?_)
 refine Qr ziN rfl rfl (fun b_6=>?_)
 refine zN (Qo (zR (zM (zN (Qx (zR ?_))))))
 refine zC ?_
 refine zA (zN ?_)
 refine zI ?_ ?_<;>intro hc8
 ·
  have hfk:f=1:=by simpa using hc8
  subst hfk
  refine Qi ?_
  refine zF Uy ?_
  refine zL Qm ?_
  refine zF Uy ?_
  refine zS Wj ?_
  refine Qb (Qj (Qd (zR ?_)))
  refine zV (Qg rfl ZC (fun hg=>by exact Cells.g2) rfl) ?_
  refine zh Jj ?_
  refine zN (Qs ?_)
  exact ZX rfl rfl ZC Cells.g0 rfl (fun w hw=>⟨rfl,hw.drop⟩)
 have hg1:f≠1:=by simpa using hc8
 refine zR (zC ?_)
 refine zA (zN ?_)
 refine zI ?_ ?_<;>intro hc13
 ·
  have hfk:f=2:=by simpa using hc13
  subst hfk
  refine Qi ?_
  refine zF Ux ?_
  refine zL Qm ?_
  refine zF Ux ?_
  refine zS Wj ?_
  refine Qb (Qj (Qd (zR ?_)))
  refine zV (Qg rfl ZC (fun hg=>by exact Cells.g2) rfl) ?_
  refine zh Jj ?_
  refine zN (Qs ?_)
  exact ZX rfl rfl ZC Cells.g0 rfl (fun w hw=>⟨rfl,hw.drop⟩)
 have hg2:f≠2:=by simpa using hc13
 refine zR (zC ?_)
 refine zA (zN ?_)
 refine zI ?_ ?_<;>intro hc18
 ·
  have hfk:f=3:=by simpa using hc18
  subst hfk
  refine Qi ?_
  refine zF Uk ?_
  refine zL Qm ?_
  refine zF Uk ?_
  refine zS Wj ?_
  refine Qb (Qj (Qd (zR ?_)))
  refine zV (Qg rfl ZC (fun hg=>by exact Cells.g2) rfl) ?_
  refine zh Jj ?_
  refine zN (Qs ?_)
  exact ZX rfl rfl ZC Cells.g0 rfl (fun w hw=>⟨rfl,hw.drop⟩)
 have hg3:f≠3:=by simpa using hc18
 refine zR (zC ?_)
 refine zA (zN ?_)
 refine zI ?_ ?_<;>intro hc23
 ·
  have hfk:f=4:=by simpa using hc23
  subst hfk
  refine Qi ?_
  refine zF Ul ?_
  refine zL Qm ?_
  refine zF Ul ?_
  refine zS Wj ?_
  refine Qb (Qj (Qd (zR ?_)))
  refine zV (Qg rfl ZC (fun hg=>by exact Cells.g2) rfl) ?_
  refine zh Jj ?_
  refine zN (Qs ?_)
  exact ZX rfl rfl ZC Cells.g0 rfl (fun w hw=>⟨rfl,hw.drop⟩)
 have hg4:f≠4:=by simpa using hc23
 refine zR (zC ?_)
 refine zA (zN ?_)
 refine zI ?_ ?_<;>intro hc28
 ·
  have hfk:f=5:=by simpa using hc28
  subst hfk
  refine Qi ?_
  refine zF Um ?_
  refine zL Qm ?_
  refine zF Um ?_
  refine zS Wj ?_
  refine Qb (Qj (Qd (zR ?_)))
  refine zV (Qg rfl ZC (fun hg=>by exact Cells.g2) rfl) ?_
  refine zh Jj ?_
  refine zN (Qs ?_)
  exact ZX rfl rfl ZC Cells.g0 rfl (fun w hw=>⟨rfl,hw.drop⟩)
 have hg5:f≠5:=by simpa using hc28
 refine zR (zC ?_)
 refine zA (zN ?_)
 refine zI ?_ ?_<;>intro hc33
 ·
  have hfk:f=6:=by simpa using hc33
  subst hfk
  refine Qi ?_
  refine zF Ur ?_
  refine zL Qm ?_
  refine zF Ur ?_
  refine zS Wj ?_
  refine Qb (Qj (Qd (zR ?_)))
  refine zV (Qg rfl ZC (fun hg=>by exact Cells.g2) rfl) ?_
  refine zh Jj ?_
  refine zN (Qs ?_)
  exact ZX rfl rfl ZC Cells.g0 rfl (fun w hw=>⟨rfl,hw.drop⟩)
 have hg6:f≠6:=by simpa using hc33
 refine zR (zC ?_)
 refine zA (zN ?_)
 refine zI ?_ ?_<;>intro hc38
 ·
  have hfk:f=7:=by simpa using hc38
  subst hfk
  refine Qi ?_
  refine zF UA ?_
  refine zL Qm ?_
  refine zF UA ?_
  refine zS Wj ?_
  refine Qb (Qj (Qd (zR ?_)))
  refine zV (Qg rfl ZC (fun hg=>by exact Cells.g2) rfl) ?_
  refine zh Jj ?_
  refine zN (Qs ?_)
  exact ZX rfl rfl ZC Cells.g0 rfl (fun w hw=>⟨rfl,hw.drop⟩)
 have hg7:f≠7:=by simpa using hc38
 refine zR (zC ?_)
 refine zA (zN ?_)
 refine zI ?_ ?_<;>intro hc43
 ·
  have hfk:f=8:=by simpa using hc43
  subst hfk
  refine Qi ?_
  refine zF Up ?_
  refine zL Qm ?_
  refine zF Up ?_
  refine zS Wj ?_
  refine Qb (Qj (Qd (zR ?_)))
  refine zV (Qg rfl ZC (fun hg=>by exact Cells.g2) rfl) ?_
  refine zh Jj ?_
  refine zN (Qs ?_)
  exact ZX rfl rfl ZC Cells.g0 rfl (fun w hw=>⟨rfl,hw.drop⟩)
 have hg8:f≠8:=by simpa using hc43
 refine zR (zC ?_)
 refine zA (zN ?_)
 refine zI ?_ ?_<;>intro hc48
 ·
  have hfk:f=9:=by simpa using hc48
  subst hfk
  refine zR ?_
  refine zF V8 ?_
  refine zV (Qg rfl Jh (fun hg=>by exact Cells.s1 (vs:=[_,_]) rfl) rfl) ?_
  refine zF V8 ?_
  refine Vd rfl rfl zic rfl rfl rfl rfl (by repeat (first | exact Upd.here | apply Upd.there | apply ZE)) ?_
  refine zN (Qi ?_)
  refine zF Je ?_
  refine zV (Qg rfl Jh (fun hg=>by exact Cells.s1 (vs:=[_,_]) rfl) rfl) ?_
  refine zF Je ?_
  refine Vd rfl rfl zic rfl rfl rfl rfl (by repeat (first | exact Upd.here | apply Upd.there | apply ZE)) ?_
  refine Qb (Qj (Qd (zR ?_)))
  refine zV (Qg rfl ZC (fun hg=>by exact Cells.g2) rfl) ?_
  refine zh Jj ?_
  refine zN (Qs ?_)
  exact ZX rfl rfl ZC Cells.g0 rfl (fun w hw=>⟨rfl,hw.drop⟩)
 have hg9:f≠9:=by simpa using hc48
 refine Qp (Qj (Qd (zR ?_)))
 refine zV (Qg rfl ZC (fun hg=>by exact Cells.g2) rfl) ?_
 refine zh Jj ?_
 refine zN (Qs ?_)
 first
 | exact ZX rfl rfl ZC Cells.g0 rfl (fun w hw=>⟨by unfold KZ;rw [if_neg hg1,if_neg hg2,if_neg hg3,if_neg hg4,if_neg hg5,if_neg hg6,if_neg hg7,if_neg hg8,if_neg hg9];rfl,hw.drop⟩)
theorem zum (I:Qu):ZA Tryz.prog 247 [] I (WD zeZ):=by
 intro g H w hw
 refine qe Tryz.func247 Tryz.ntmps247 hw ?_
 refine zR ?_
 refine Qr ziN rfl rfl (fun b_0=>?_)
 refine zN (zR ?_)
 refine zV (QI (ps:=[(1,_)]) [_,_] zgH rfl rfl) ?_
 refine zV (QI (ps:=[(0,_),(1,_)]) [_,_] zgH rfl rfl) ?_
 refine zV (QI (ps:=[(3,_),(4,_),(10,_),(11,_)]) [_,_,_,_,_,_,_,_,_,_,_,_,_,_] zaa rfl rfl) ?_
 refine zh Jj ?_
 refine zN (Qs ?_)
 exact ZX rfl rfl ZC Cells.g0 rfl (fun w hw=>⟨rfl,hw.drop⟩)
end
section
open Go Go.Kn Go.Proofs
theorem zqA {id:Int}{v:List Int}{k:Nat}{x:Int}(hx:v[k]? =some x):ndP id v k= !((decide (x<1)||decide (x≥id))||(decide ((k:Int)>0)&&decide (x≤v.getD ((k:Int)-1).toNat 0))):=by unfold ndP;rw [Vo hx]
end
section
open Go Go.Kn Go.Proofs
theorem zyT {I:Qu}(p:Pt)(hN:Nd I p)(hpn:p.n≤100000):ZA Tryz.prog 191 [KR p] I (.bool (zpQ p)):=by
 intro g H w hw
 refine qe Tryz.func191 Tryz.ntmps191 hw ?_
 have hN:Sl I 1 Z5 p.a p.n p.c p.needs:=hN
 refine zR ?_
 refine QO rfl rfl rfl (fun b_1=>?_)
 refine zA (zN (Qo (zR ?_)))
 refine zF ZJ ?_
 refine zL Qm ?_
 refine zC ?_
 refine zM ?_
 refine QK 3 rfl rfl rfl ?_
 refine zJ (Qa rfl ZJ) ?_
 refine zJ (Qc rfl Qm (fun hg=>by exact QA.h0 rfl)) ?_
 refine zJ (Qz rfl rfl rfl) ?_
 refine Zg rfl rfl rfl rfl rfl ?_
 refine zM ?_
 refine QK 8 rfl rfl rfl ?_
 refine zJ (Qa rfl Yq) ?_
 refine zJ (Qc rfl Qm (fun hg=>by exact QA.h0 rfl)) ?_
 refine zJ (Qz rfl rfl rfl) ?_
 refine Zg rfl rfl rfl rfl rfl ?_
 refine zM ?_
 refine QK 13 rfl rfl rfl ?_
 refine zJ (Qa rfl Yq) ?_
 refine zJ (Qc rfl Qm (fun hg=>by exact QA.h0 rfl)) ?_
 refine zJ (Qz rfl rfl rfl) ?_
 refine Zg rfl rfl rfl rfl rfl ?_
 refine zN ?_
 refine zI ?_ ?_<;>intro hc21
 ·
  have hi:idB p=false:=by have h:=hc21;rw [zq3] at h;simpa using h
  refine zR (zA (zN (Qs (Qf ?_))))
  exact zr rfl rfl (by rw [zvi hi])
 have hi:idB p=true:=by have h:=hc21;rw [zq3] at h;simpa using h
 refine Qp (Qd (Qo (zR (zA (zN (Qx ?_))))))
 refine zU [(1,_)] (fun T L0 mz E I' loc'=>∃ (k:Nat),mz=p.n-k∧E=(3,.int .i64 k)::T∧I=I'∧L0=loc'∧k≤p.n∧(List.range k).all (ndP p.id p.needs)=true) ?_ (h:=⟨0,rfl,rfl,rfl,rfl,Nat.zero_le _,rfl⟩)
 rintro mz E I' loc' ⟨k,rfl,rfl,rfl,rfl,hk,hall⟩
 refine Qo (zR (zM ?_))
 refine zF ZK ?_
 refine zL Vi ?_
 refine zQ ZF ?_
 refine zC (zN ?_)
 refine zI ?_ ?_<;>intro hc26
 ·
  have hlt_k:k<p.n:=by have h:=hc26;simp at h;omega
  obtain ⟨x,hx⟩:=hN.at hlt_k
  refine Qp (Qd (Qo (Qx (Qo ?_))))
  refine Xt mixed kA ?_
  refine zq (Qa rfl ZK) ?_
  refine zq (Qc rfl Vi (fun hg=>by exact QA.h0 rfl)) ?_
  refine zq (Qe rfl) ?_
  refine zq (QE rfl rfl ZF kJ (fun hg=>kB)) ?_
  refine zq (Qc rfl Qm (fun hg=>by exact zzX hN hx rfl)) ?_
  refine zq (Qz rfl rfl rfl) ?_
  refine zq (Qe rfl) ?_
  refine V1 6 rfl rfl rfl ?_
  refine zj (Qa rfl ZK) ?_
  refine zj (Qc rfl Vi (fun hg=>by exact QA.h0 rfl)) ?_
  refine zj (Qe rfl) ?_
  refine zj (QE rfl rfl ZF kJ (fun hg=>kB)) ?_
  refine zj (Qc rfl Qm (fun hg=>by exact zzX hN hx rfl)) ?_
  refine zj (Qa rfl ZJ) ?_
  refine zj (Qc rfl Qm (fun hg=>by exact QA.h0 rfl)) ?_
  refine zj (Qz rfl rfl rfl) ?_
  refine UX rfl rfl rfl rfl rfl ?_
  refine zq (Qe rfl) ?_
  refine V1 16 rfl rfl rfl ?_
  refine zj (Qe rfl) ?_
  refine zj (Qz rfl rfl rfl) ?_
  refine zj (Qe rfl) ?_
  refine VM 19 rfl rfl rfl ?_
  refine zk (Qa rfl ZK) ?_
  refine zk (Qc rfl Vi (fun hg=>by exact QA.h0 rfl)) ?_
  refine zk (Qe rfl) ?_
  refine zk (QE rfl rfl ZF kJ (fun hg=>kB)) ?_
  refine zk (Qc rfl Qm (fun hg=>by exact zzX hN hx rfl)) ?_
  refine zk (Qa rfl ZK) ?_
  refine zk (Qc rfl Vi (fun hg=>by exact QA.h0 rfl)) ?_
  refine zk (Qe rfl) ?_
  refine zk (YE rfl rfl rfl (fun hg=>kB)) ?_
  refine zk (QE rfl rfl ZF kJ (fun hg=>by (simp [Yf] at hg;omega))) ?_
  refine zk (Qc rfl Qm (fun hg=>by exact zzX (k:=((k:Int)-1).toNat) hN (K7 (d:=0) hN.len (by simp [Yf] at hg;omega)) rfl)) ?_
  refine zk (Qz rfl rfl rfl) ?_
  refine zby rfl rfl rfl (.some rfl rfl rfl rfl gbf) rfl rfl ?_
  refine UX rfl rfl rfl rfl rfl ?_
  refine Xw ?_
  refine Qd ?_
  refine zI ?_ ?_<;>intro hc62
  ·
   have hnd:ndB p.id p.needs=false:=by unfold ndB;exact JN (k:=k) (by rw [hN.len];exact hlt_k) (by rw [zqA hx,hc62];rfl)
   refine zR (zA (zN (Qs (Qk (Qf (Qf (Qk ?_)))))))
   refine Qf ?_
   exact zr rfl rfl (by rw [zu6 hnd])
  refine Qp (Qj (Qd (Qi (zM ?_))))
  refine zB ?_
  refine zA (Qb ?_)
  exact zm (h:=⟨p.n-(k+1),kB,k+1,rfl,rfl,rfl,rfl,kB,VU hall (by rw [zqA hx,hc62];rfl)⟩)
 have hge_k:p.n≤k:=by have h:=hc26;simp at h;omega
 have hnd:ndB p.id p.needs=true:=by unfold ndB;rw [hN.len,show p.n=k by omega];exact hall
 refine Q6 (Qn (Qn (Qw (Qd (Qo (zR ?_))))))
 refine zF JH ?_
 refine zL Qm ?_
 refine zN (Qx (zR (zC ?_)))
 refine zA (zN ?_)
 refine zI ?_ ?_<;>intro hc65
 ·
  have hk:p.kind=1:=by simpa using hc65
  refine Qo (zR ?_)
  refine zF Yr ?_
  refine zL Qm ?_
  refine zC ?_
  refine zM ?_
  refine QK 3 rfl rfl rfl ?_
  refine zJ (Qa rfl Yr) ?_
  refine zJ (Qc rfl Qm (fun hg=>by exact QA.h0 rfl)) ?_
  refine zJ (Qz rfl rfl rfl) ?_
  refine Zg rfl rfl rfl rfl rfl ?_
  refine zN ?_
  refine zI ?_ ?_<;>intro hc74
  ·
   refine zR (zA (zN (Qs (Qf (Qk (Qf ?_))))))
   exact zr rfl rfl (by rw [zlk hi hnd,zyB hk hc74])
  refine Qp (Qd (Qo ?_))
  refine Xt mixed kA ?_
  refine zq (QI (ps:=[]) [_,_,_,_,_,_,_,_,_,_,_,_,_,_] zaa rfl rfl) ?_
  refine zq (Qa rfl Yr) ?_
  refine zq (Qc rfl Qm (fun hg=>by exact QA.h0 rfl)) ?_
  refine zq (Qa rfl YC) ?_
  refine zq (Qg rfl ZC (fun hg=>by exact Cells.s0 (vs:=[_,_,_,_,_,_,_,_,_,_,_,_,_,_]) rfl) rfl) ?_
  refine UO (cap:=[]) (vs:=[_,_,_]) rfl rfl zjY (zxw I JP p.field p.nw) rfl rfl ?_
  refine zq (Qa rfl YC) ?_
  refine zq (Qg rfl ZC (fun hg=>by exact Cells.s0 (vs:=[_,_,_,_,_,_,_,_,_,_,_,_,_,_]) rfl) rfl) ?_
  refine zq (Ut rfl rfl WO rfl) ?_
  refine zq (Qe rfl) ?_
  refine VM 9 rfl rfl rfl ?_
  refine JL (cap:=[]) (vs:=[]) rfl rfl zs5 (fun hg=>zum I) (.some rfl rfl rfl rfl gbt) rfl rfl ?_
  refine zk (Qa rfl Yr) ?_
  refine zk (Qc rfl Qm (fun hg=>by exact QA.h0 rfl)) ?_
  refine zk (Qa rfl YC) ?_
  refine zk (Qg rfl ZC (fun hg=>by exact Cells.s0 (vs:=[_,_,_,_,_,_,_,_,_,_,_,_,_,_]) rfl) rfl) ?_
  refine JL (cap:=[]) (vs:=[_,_,_]) rfl rfl zjY (fun hg=>zxw I zeZ p.field p.nw) (.some rfl rfl rfl rfl gbt) rfl rfl ?_
  refine JL (cap:=[]) (vs:=[_]) rfl rfl zkg (fun hg=>zqE I _) (.some rfl rfl rfl rfl gbt) rfl rfl ?_
  refine WU rfl rfl rfl rfl rfl ?_
  refine zq (Qv rfl) ?_
  refine Xw ?_
  refine Qd (Qs (Qk (Qf ?_)))
  first
  | exact zr rfl rfl (by rw [zlk hi hnd,←zsc hk hc74];rfl)
 have hk1:p.kind≠1:=by simpa using hc65
 refine zR (zC ?_)
 refine zA (zN ?_)
 refine zI ?_ ?_<;>intro hc93
 ·
  have hk:p.kind=2:=by simpa using hc93
  refine zR ?_
  refine zF Yr ?_
  refine zL Qm ?_
  refine zC ?_
  refine zM ?_
  refine Qq 3 rfl rfl rfl ?_
  refine zK (Qa rfl YC) ?_
  refine zK (Qa rfl Jv) ?_
  refine zK (Qc rfl Qm (fun hg=>by exact QA.h0 rfl)) ?_
  refine zK (Qa rfl Yq) ?_
  refine zK (Qc rfl Qm (fun hg=>by exact QA.h0 rfl)) ?_
  refine zK (Qz rfl rfl rfl) ?_
  refine QB rfl rfl rfl rfl rfl ?_
  refine zM ?_
  refine Qq 11 rfl rfl rfl ?_
  refine zK (Qa rfl YC) ?_
  refine zK (Qg rfl ZC (fun hg=>by exact Cells.s0 (vs:=[_,_,_,_,_,_,_,_,_,_,_,_,_,_]) rfl) rfl) ?_
  refine qg (vs:=[_]) rfl zkg (fun hg=>zqE I _) ?_
  refine QB rfl rfl rfl rfl rfl ?_
  refine zA (zN (Qs (Qk (Qf ?_))))
  exact zr rfl rfl (by rw [zlk hi hnd,zsy hk,←Bool.and_assoc])
 have hk2:p.kind≠2:=by simpa using hc93
 refine zR (zC ?_)
 refine zA (zN ?_)
 refine zI ?_ ?_<;>intro hc111
 ·
  have hk:p.kind=3:=by simpa using hc111
  refine zR ?_
  refine zF Yr ?_
  refine zL Qm ?_
  refine zC ?_
  refine zM ?_
  refine Qq 3 rfl rfl rfl ?_
  refine zK (Qa rfl YC) ?_
  refine zK (Qg rfl ZC (fun hg=>by exact Cells.s0 (vs:=[_,_,_,_,_,_,_,_,_,_,_,_,_,_]) rfl) rfl) ?_
  refine zK (QI (ps:=[]) [_,_,_,_,_,_,_,_,_,_,_,_,_,_] zaa rfl rfl) ?_
  refine zK (Ut rfl rfl WO rfl) ?_
  refine QB rfl rfl rfl rfl rfl ?_
  refine zA (zN (Qs (Qk (Qf ?_))))
  first
  | exact zr rfl rfl (by rw [zlk hi hnd,zte hk];rfl)
 have hk3:p.kind≠3:=by simpa using hc111
 refine Qp (Qj (Qd (zR (zA (zN (Qs ?_))))))
 first
 | exact zr rfl rfl (by rw [zlk hi hnd];unfold UF;rw [if_neg hk1,if_neg hk2,if_neg hk3])
theorem zvz {I:Qu}(p:Pt)(hN:Nd I p):ZA Tryz.prog 145 [KR p] I (.int .i64 (K1 p)):=by
 intro g H w hw
 refine qe Tryz.func145 Tryz.ntmps145 hw ?_
 refine zR ?_
 refine QO rfl rfl rfl (fun b_1=>?_)
 refine zA (zN (Qo (zR ?_)))
 refine zF ZK ?_
 refine zL Vi ?_
 refine zQ ZF ?_
 refine zC (zN ?_)
 refine zI ?_ ?_<;>intro hc7
 ·
  have hlen:p.needs.length>32:=by rw [(show Sl _ 1 Z5 p.a p.n p.c p.needs from hN).len];simp at hc7;omega
  refine zR (zA (zN (Qs (Qf ?_))))
  exact zr rfl rfl (by rw [zqx hlen])
 have hlen:¬p.needs.length>32:=by rw [(show Sl _ 1 Z5 p.a p.n p.c p.needs from hN).len];simp at hc7;omega
 refine Qp (Qd (zR ?_))
 refine zV (Qg rfl Y3 (fun hg=>by exact Cells.g0) rfl) ?_
 refine qcV (vs:=[_]) rfl zsD (zyT p hN (by have:=(show Sl _ 1 Z5 p.a p.n p.c p.needs from hN).len;omega)) ?_
 refine zA (zN (Qo (zR ?_)))
 refine zM ?_
 refine zO (zN ?_)
 refine zI ?_ ?_<;>intro hc11
 ·
  refine zR (zA (zN (Qs (Qf ?_))))
  exact zr rfl rfl (by rw [←zlZ hlen,if_neg (by simpa using hc11)])
 refine Qp (Qd (zR (zA (zN (Qs ?_)))))
 exact zr rfl rfl (by rw [←zlZ hlen,if_pos (by simpa using hc11)])
end
section
open Go Go.Kn Go.Proofs
theorem zs3:Fun Tryz.prog 155:=.of Tryz.func155 kA kA
theorem zbQ:Fun Tryz.prog 156:=.of Tryz.func156 kA kA
theorem zrB:Fun Tryz.prog 157:=.of Tryz.func157 kA kA
theorem zqm:Fun Tryz.prog 75:=.of Tryz.func75 kA kA
theorem zqo:Fun Tryz.prog 76:=.of Tryz.func76 kA kA
theorem zq7:Fun Tryz.prog 78:=.of Tryz.func78 kA kA
theorem zwR:PlT Tryz.prog 39 #[(0,1),(1,1),(2,1),(3,1),(4,14),(18,1)] (.agg #[(.int .i64 0),(.int .i64 0),(.int .i64 0),(.int .i64 0),(.int .i64 0),(.int .i64 0),(.int .i64 0),(.int .i64 0),(.int .i64 0),(.int .i64 0),(.int .i64 0),(.int .i64 0),(.int .i64 0),(.int .i64 0),(.int .i64 0),(.int .i64 0),(.int .i64 0),(.int .i64 0),(.slice none 0 0)]):=⟨.of kA,kA,fun w=>kA⟩
theorem zwG {I:Qu}{p q:Pt}(hP:Nd I p)(hQ:Nd I q)(hn:q.n≤100000):ZA Tryz.prog 85 [KR p,KR q] I (.bool (smP p q)):=by
 intro g H w hw
 refine qe Tryz.func85 Tryz.ntmps85 hw ?_
 have hIc:=zz4 I
 have hl1:p.needs.length=p.n:=hP.len
 have hl2:q.needs.length=q.n:=hQ.len
 refine zR ?_
 refine QO rfl rfl rfl (fun b_2=>?_)
 refine QO rfl rfl rfl (fun b_3=>?_)
 refine zA (Qb ?_)
 refine QF .here (fun I1 hI1 hb1=>?_)
 have hP:=hP.mono hI1;have hQ:=hQ.mono hI1;have hIc:=hIc.trans hI1
 have h3:=BxI.of hb1
 refine QF .here (fun I2 hI2 hb2=>?_)
 have hP:=hP.mono hI2;have hQ:=hQ.mono hI2;have h3:=h3.mono hI2;have hIc:=hIc.trans hI2
 have h2:=BxI.of hb2
 refine Qd (Qo (zR ?_))
 refine zF ZJ ?_
 refine zV (Qc rfl Qm (fun hg=>by exact QA.imm h2.out rfl)) ?_
 refine zF ZJ ?_
 refine zV (Qc rfl Qm (fun hg=>by exact QA.imm h3.out rfl)) ?_
 refine zC ?_
 refine zM ?_
 refine QK 5 rfl rfl rfl ?_
 refine zJ (Qa rfl JH) ?_
 refine zJ (Qc rfl Qm (fun hg=>by exact QA.imm h2.out rfl)) ?_
 refine zJ (Qa rfl JH) ?_
 refine zJ (Qc rfl Qm (fun hg=>by exact QA.imm h3.out rfl)) ?_
 refine zJ (Qz rfl rfl rfl) ?_
 refine Zg rfl rfl rfl rfl rfl ?_
 refine zM ?_
 refine QK 12 rfl rfl rfl ?_
 refine zJ (Qa rfl Yq) ?_
 refine zJ (Qc rfl Qm (fun hg=>by exact QA.imm h2.out rfl)) ?_
 refine zJ (Qa rfl Yq) ?_
 refine zJ (Qc rfl Qm (fun hg=>by exact QA.imm h3.out rfl)) ?_
 refine zJ (Qz rfl rfl rfl) ?_
 refine Zg rfl rfl rfl rfl rfl ?_
 refine zM ?_
 refine QK 19 rfl rfl rfl ?_
 refine zJ (Qa rfl Yr) ?_
 refine zJ (Qc rfl Qm (fun hg=>by exact QA.imm h2.out rfl)) ?_
 refine zJ (Qa rfl Yr) ?_
 refine zJ (Qc rfl Qm (fun hg=>by exact QA.imm h3.out rfl)) ?_
 refine zJ (Qz rfl rfl rfl) ?_
 refine Zg rfl rfl rfl rfl rfl ?_
 refine zM ?_
 refine QK 26 rfl rfl rfl ?_
 refine zJ (Qa rfl YC) ?_
 refine zJ (Qg rfl ZC (fun hg=>by exact ziY (BxI.cells (vs:=KY p) h2)) rfl) ?_
 refine zJ (Qa rfl YC) ?_
 refine zJ (Qg rfl ZC (fun hg=>by exact ziY (BxI.cells (vs:=KY q) h3)) rfl) ?_
 refine zJ (zj5 rfl rfl WO rfl) ?_
 refine Zg rfl rfl rfl rfl rfl ?_
 refine zM ?_
 refine QK 33 rfl rfl rfl ?_
 refine zJ (Qa rfl ZK) ?_
 refine zJ (Qc rfl Vi (fun hg=>by exact QA.imm h2.out rfl)) ?_
 refine zJ (QU rfl ZF) ?_
 refine zJ (Qa rfl ZK) ?_
 refine zJ (Qc rfl Vi (fun hg=>by exact QA.imm h3.out rfl)) ?_
 refine zJ (QU rfl ZF) ?_
 refine zJ (Qz rfl rfl rfl) ?_
 refine Zg rfl rfl rfl rfl rfl ?_
 refine zN ?_
 refine zI ?_ ?_<;>intro hc47
 ·
  have hcc:smC p q=true:=hc47
  refine zR (zA (zN (Qs (Qf ?_))))
  exact Qy rfl rfl (fun w hw=>⟨by rw [zxz hcc],(hw.mono hIc).subL QC⟩)
 have hcc:smC p q=false:=hc47
 have hnn:=zxH hcc
 refine Qp (Qd (Qo (zR (zA (zN (Qx ?_))))))
 refine zU [(2,_),(3,_)] (fun T L0 mz E I' loc'=>∃ (k:Nat),mz=p.n-k∧E=(5,.int .i64 k)::T∧I2=I'∧L0=loc'∧k≤p.n∧p.needs.take k=q.needs.take k) ?_ (h:=⟨0,rfl,rfl,rfl,rfl,Nat.zero_le _,rfl⟩)
 rintro mz E I' loc' ⟨k,rfl,rfl,rfl,rfl,hk,htk⟩
 refine Qo (zR (zM ?_))
 refine zF ZK ?_
 refine zV (Qc rfl Vi (fun hg=>by exact QA.imm h2.out rfl)) ?_
 refine zQ ZF ?_
 refine zC (zN ?_)
 refine zI ?_ ?_<;>intro hc52
 ·
  have hlt_k:k<p.n:=by have h:=hc52;simp at h;omega
  obtain ⟨x,hx⟩:∃ y,p.needs[k]? =some y:=⟨_,List.getElem?_eq_getElem kB⟩
  obtain ⟨y,hy⟩:∃ y,q.needs[k]? =some y:=⟨_,List.getElem?_eq_getElem kB⟩
  refine Qp (Qd (Qo (Qx (Qo ?_))))
  have hD:=zz4 I2
  refine Zn ?_
  refine QL I2 [] mixed ?_
  refine zT 0 rfl (Qa rfl ZK) hD ?_
  refine zT 1 rfl (Qc rfl Vi (fun hg=>by exact QA.imm h2.out rfl)) hD ?_
  refine zT 2 rfl (Qe rfl) hD ?_
  refine zT 3 rfl (zX ZF hP) hD ?_
  refine zT 4 rfl (Qc rfl Qm (fun hg=>by exact zzX hP hx rfl)) hD ?_
  refine zT 5 rfl (Qa rfl ZK) hD ?_
  refine zT 6 rfl (Qc rfl Vi (fun hg=>by exact QA.imm h3.out rfl)) hD ?_
  refine zT 7 rfl (Qe rfl) hD ?_
  refine zT 8 rfl (zX ZF hQ) hD ?_
  refine zT 9 rfl (Qc rfl Qm (fun hg=>by exact zzX hQ hy rfl)) hD ?_
  refine zT 10 rfl (Qz rfl rfl rfl) hD ?_
  refine Ql kA ?_
  refine Qt ?_
  refine Qd ?_
  refine zI ?_ ?_<;>intro hc65
  ·
   have hxy:x≠y:=by simpa using hc65
   refine zR (zA (zN (Qs (Qk (Qf (Qf (Qk ?_)))))))
   refine Qf ?_
   exact Qy rfl rfl (fun w hw=>⟨by rw [ziM hcc,decide_eq_false (zxy hx hy hxy)],(hw.mono hIc).subL QC⟩)
  have hxy:x=y:=by simpa using hc65
  refine Qp (Qj (Qd (Qi (zM ?_))))
  refine zB ?_
  refine zA (Qb ?_)
  exact zm (h:=⟨p.n-(k+1),kB,k+1,rfl,rfl,rfl,rfl,kB,zae htk hx hy hxy⟩)
 have hge_k:p.n≤k:=by have h:=hc52;simp at h;omega
 rw [ZV hl1 hge_k,ZV hl2 kB] at htk
 refine Q6 (Qn (Qn (Qw (Qd (zR (zA (zN ?_)))))))
 refine Qs ?_
 exact Qy rfl rfl (fun w hw=>⟨by rw [ziM hcc,htk];simp,(hw.mono hIc).subL QC⟩)
theorem zcd {I:Qu}{x:Nt}(hN:Nd I x.pt):ZA Tryz.prog 156 [KR x.pt] I (.bool (z2 x)):=by
 intro g H w hw
 refine qe Tryz.func156 Tryz.ntmps156 hw ?_
 have hIc:=zz4 I
 refine zR ?_
 refine QO rfl rfl rfl (fun b_1=>?_)
 refine zA (Qb ?_)
 refine QF .here (fun I1 hI1 hb1=>?_)
 have hN:=hN.mono hI1;have hIc:=hIc.trans hI1
 have h1:=BxI.of hb1
 refine Qd (zR ?_)
 refine zV (Qg rfl Y3 (fun hg=>by exact BxI.cells (vs:=KY x.pt) h1) rfl) ?_
 refine zV (QI (ps:=[]) [_,_,_,_,_,_,_,_,_,_,_,_,_,_,_,_,_,_,_] zwR rfl rfl) ?_
 refine qcV (vs:=[_,_]) rfl zjZ (zwG (q:=V5) hN (show Nd _ V5 from Sl.nil) kD) ?_
 refine zA (zN (Qs ?_))
 exact Qy rfl rfl (fun w hw=>⟨by rw [zyi hN],(hw.mono hIc).subL QC⟩)
theorem zoD {I:Qu}(x:Lm)(hw8: -9223372036854775808≤x.ends∧x.ends≤9223372036854775807):ZA Tryz.prog 155 [Ji x] I (.bool (zcX (lmC x)==0)):=by
 intro g H w hw
 refine qe Tryz.func155 Tryz.ntmps155 hw ?_
 have hIc:=zz4 I
 refine zR ?_
 refine QO rfl rfl rfl (fun b_1=>?_)
 refine zA (Qb ?_)
 refine QF .here (fun I1 hI1 hb1=>?_)
 have hIc:=hIc.trans hI1
 have h1:=BxI.of hb1
 refine Qd (zR ?_)
 refine zV (Qg rfl V7 (fun hg=>by exact BxI.cells (vs:=Zh x) h1) rfl) ?_
 refine zpb [(0,_)] [Zh x] VB (fun b_6=>?_)
 refine QQ (by repeat (first | exact ZQ.here | apply ZQ.there)) (fun I2 hI2 hb2=>?_)
 have h1:=h1.mono hI2;have hIc:=hIc.trans hI2
 have hF:=Sl.lit [x] rfl Yx (show I2 b_6=some (Obj.cells ([x].flatMap Zh).toArray 32 (0,0)) from hb2)
 refine zA (zN (Qo (zR ?_)))
 refine zF YM ?_
 refine zV (Qc rfl Qm (fun hg=>by exact QA.imm h1.out rfl)) ?_
 refine zC (zN ?_)
 refine zI ?_ ?_<;>intro hc9
 ·
  have hlC:=zy1 (x:=x) (by simpa using hc9)
  refine Qi ?_
  refine zF YM ?_
  refine zV (Qc rfl Qm (fun hg=>by exact QA.imm h1.out rfl)) ?_
  refine zV (WZ rfl rfl rfl) ?_
  refine zF V2 ?_
  refine zV (Qc rfl Qm (fun hg=>by exact QA.imm h1.out rfl)) ?_
  refine zV (QI (ps:=[(0,_),(2,_)]) [_,_,_] zcS rfl rfl) ?_
  refine zV (QI (ps:=[(0,_),(1,_),(6,_)]) [_,_,_,_,_,_,_,_,_] zeX rfl rfl) ?_
  refine zV (Qg rfl V7 (fun hg=>by exact BxI.cells (vs:=Zh x) h1) rfl) ?_
  refine zpb [(0,_),(1,_)] [Zh (⟨IntKind.i64.wrap (x.ends-1),x.person,0,0,0,0,3,0,1⟩),Zh x] VB (fun b_18=>?_)
  refine QQ (by repeat (first | exact ZQ.here | apply ZQ.there)) (fun I3 hI3 hb3=>?_)
  have hF:=hF.mono hI3;have hIc:=hIc.trans hI3
  have hF:=Sl.lit ([⟨IntKind.i64.wrap (x.ends-1),x.person,0,0,0,0,3,0,1⟩,x]:List Lm) rfl Yx (show I3 b_18=some (Obj.cells (([⟨IntKind.i64.wrap (x.ends-1),x.person,0,0,0,0,3,0,1⟩,x]:List Lm).flatMap Zh).toArray 32 (0,0)) from hb3)
  refine zA ?_
  refine zN (zR ?_)
  refine zM ?_
  refine qcV (vs:=[_]) rfl zqm (zqk hF kD (by rw [←hlC];exact zv6 hw8)) ?_
  refine zA ?_
  refine zN (zR ?_)
  refine zM ?_
  refine zC ?_
  refine zA (zN (Qs ?_))
  exact Qy rfl rfl (fun w hw=>⟨by rw [hlC],(hw.mono hIc).subL QC⟩)
 have hlC:=zyy (x:=x) (by simpa using hc9)
 refine Qp (Qd (zR (zM ?_)))
 refine qcV (vs:=[_]) rfl zqm (zqk hF kD (by rw [←hlC];exact zv6 hw8)) ?_
 refine zA ?_
 refine zN (zR ?_)
 refine zM ?_
 refine zC ?_
 refine zA (zN (Qs ?_))
 exact Qy rfl rfl (fun w hw=>⟨by rw [hlC],(hw.mono hIc).subL QC⟩)
theorem zdo {I:Qu}(x:S.Rt)(hw8:S.okR x):ZA Tryz.prog 157 [S.encA x] I (.bool (S.rCheck (rtC x)==0)):=by
 intro g H w hw
 refine qe Tryz.func157 Tryz.ntmps157 hw ?_
 have hIc:=zz4 I
 refine zR ?_
 refine QO rfl rfl rfl (fun b_1=>?_)
 refine zA (Qb ?_)
 refine QF .here (fun I1 hI1 hb1=>?_)
 have hIc:=hIc.trans hI1
 have h1:=BxI.of hb1
 refine Qd (zR ?_)
 refine zV (Qg rfl Ys (fun hg=>by exact BxI.cells (vs:=S.encR x) h1) rfl) ?_
 refine zpb [(0,_)] [S.encR x] VA (fun b_6=>?_)
 refine QQ (by repeat (first | exact ZQ.here | apply ZQ.there)) (fun I2 hI2 hb2=>?_)
 have h1:=h1.mono hI2;have hIc:=hIc.trans hI2
 have hF:=Sl.lit [x] rfl S.encR_len (show I2 b_6=some (Obj.cells ([x].flatMap S.encR).toArray 43 (0,0)) from hb2)
 refine zA (zN (Qo (zR ?_)))
 refine zF Y5 ?_
 refine zV (Qc rfl Qm (fun hg=>by exact QA.imm h1.out rfl)) ?_
 refine zC (zN ?_)
 refine zI ?_ ?_<;>intro hc9
 ·
  have hlC:=zyn (x:=x) (by simpa using hc9)
  refine Qi ?_
  refine zF Y5 ?_
  refine zV (Qc rfl Qm (fun hg=>by exact QA.imm h1.out rfl)) ?_
  refine zV (WZ rfl rfl rfl) ?_
  refine zV (QI (ps:=[(0,_),(1,_),(6,_),(7,_)]) [_,_,_,_,_,_,_,_,_,_,_] W6 rfl rfl) ?_
  refine zV (Qg rfl Ys (fun hg=>by exact BxI.cells (vs:=S.encR x) h1) rfl) ?_
  refine zpb [(0,_),(1,_)] [S.encR (⟨IntKind.i64.wrap (x.ends-1),1,0,0,0,0,⟨#[97]⟩,⟨#[97]⟩,0,0,0⟩),S.encR x] VA (fun b_15=>?_)
  refine QQ (by repeat (first | exact ZQ.here | apply ZQ.there)) (fun I3 hI3 hb3=>?_)
  have hF:=hF.mono hI3;have hIc:=hIc.trans hI3
  have hF:=Sl.lit ([⟨IntKind.i64.wrap (x.ends-1),1,0,0,0,0,⟨#[97]⟩,⟨#[97]⟩,0,0,0⟩,x]:List S.Rt) rfl S.encR_len (show I3 b_15=some (Obj.cells (([⟨IntKind.i64.wrap (x.ends-1),1,0,0,0,0,⟨#[97]⟩,⟨#[97]⟩,0,0,0⟩,x]:List S.Rt).flatMap S.encR).toArray 43 (0,0)) from hb3)
  refine zA ?_
  refine zN (zR ?_)
  refine zM ?_
  refine qcV (vs:=[_]) rfl zq7 (S.w_rcheck hF kD) ?_
  refine zA ?_
  refine zN (zR ?_)
  refine zM ?_
  refine zC ?_
  refine zA (zN (Qs ?_))
  exact Qy rfl rfl (fun w hw=>⟨by rw [←zjC hw8,hlC],(hw.mono hIc).subL QC⟩)
 have hlC:=zyK (x:=x) (by simpa using hc9)
 refine Qp (Qd (zR (zM ?_)))
 refine qcV (vs:=[_]) rfl zq7 (S.w_rcheck hF kD) ?_
 refine zA ?_
 refine zN (zR ?_)
 refine zM ?_
 refine zC ?_
 refine zA (zN (Qs ?_))
 exact Qy rfl rfl (fun w hw=>⟨by rw [←zjC hw8,hlC],(hw.mono hIc).subL QC⟩)
theorem zb3 {I:Qu}(x:Nt)(hN:Nd I x.pt)(hW:NtW x):ZA Tryz.prog 87 [Ke x] I (.bool (QM x)):=by
 intro g H w hw
 refine qe Tryz.func87 Tryz.ntmps87 hw ?_
 have hIc:=zz4 I
 refine zR ?_
 refine QO rfl rfl rfl (fun b_1=>?_)
 refine zA (Qb ?_)
 refine QF .here (fun I1 hI1 hb1=>?_)
 have hN:=hN.mono hI1;have hIc:=hIc.trans hI1
 have h1:=BxI.of hb1
 refine Qd (zR ?_)
 refine zF YD ?_
 refine zV (Qg rfl V7 (fun hg=>by exact zbw (BxI.cells (vs:=Q4 x) h1)) rfl) ?_
 refine zV (QI (ps:=[]) [_,_,_,_,_,_,_,_,_] zeX rfl rfl) ?_
 refine zV (Ut rfl rfl zdh rfl) ?_
 rw [show (x.lm.no==0&&(x.lm.person==0&&(x.lm.ends==0&&(x.lm.lo==0&&(x.lm.hi==0&&(x.lm.known==0&&(x.lm.ck==0&&(x.lm.cl==0&&(x.lm.cn==0&&true)))))))))=z1 x from rfl]
 refine zA ?_
 refine zN (zR ?_)
 refine zF Y7 ?_
 refine zV (Qg rfl VX (fun hg=>by exact zcc (BxI.cells (vs:=Q4 x) h1)) rfl) ?_
 refine zV (QI (ps:=[]) [_,_,_,_,_] zjj rfl rfl) ?_
 refine zV (Ue rfl rfl ze7 rfl) ?_
 refine zA ?_
 refine zN (zR ?_)
 refine zF Z0 ?_
 refine zV (Qg rfl Ys (fun hg=>by exact zbs (BxI.cells (vs:=Q4 x) h1)) rfl) ?_
 refine zV (QI (ps:=[]) [_,_,_,_,_,_,_,_,_,_,_] W6 rfl rfl) ?_
 refine zV (Ue rfl rfl XA rfl) ?_
 refine zA (zN (Qo (zR ?_)))
 refine zF Yg ?_
 refine zV (Qc rfl Qm (fun hg=>by exact QA.imm h1.out rfl)) ?_
 refine zN (Qx (zR (zC ?_)))
 refine zA (zN ?_)
 refine zI ?_ ?_<;>intro hc20
 ·
  have k1:x.kind=1:=by simpa using hc20
  refine zR ?_
  refine zF YD ?_
  refine zV (Qg rfl V7 (fun hg=>by exact zbw (BxI.cells (vs:=Q4 x) h1)) rfl) ?_
  refine qcV (vs:=[_]) rfl zs3 (zoD x.lm hW.lm) ?_
  refine zM ?_
  refine Qq 3 rfl rfl rfl ?_
  refine zK (Qa rfl ZZ) ?_
  refine zK (Qg rfl Y3 (fun hg=>by exact XG (BxI.cells (vs:=Q4 x) h1)) rfl) ?_
  refine qg (vs:=[_]) rfl zbQ (fun hg=>zcd hN) ?_
  refine QB rfl rfl rfl rfl rfl ?_
  refine zM ?_
  refine Qq 8 rfl rfl rfl ?_
  refine zK (Qe rfl) ?_
  refine QB rfl rfl rfl rfl rfl ?_
  refine zM ?_
  refine Qq 11 rfl rfl rfl ?_
  refine zK (Qe rfl) ?_
  refine QB rfl rfl rfl rfl rfl ?_
  refine zA (zN (Qs (Qk (Qf ?_))))
  exact Qy rfl rfl (fun w hw=>⟨by rw [zu3 k1];rfl,(hw.mono hIc).subL QC⟩)
 have k1:¬x.kind=1:=by simpa using hc20
 refine zR (zC ?_)
 refine zA (zN ?_)
 refine zI ?_ ?_<;>intro hc36
 ·
  have k2:x.kind=2:=by simpa using hc36
  refine zR (zM ?_)
  refine zM ?_
  refine Qq 1 rfl rfl rfl ?_
  refine zK (Qa rfl ZZ) ?_
  refine zK (Qg rfl Y3 (fun hg=>by exact XG (BxI.cells (vs:=Q4 x) h1)) rfl) ?_
  refine qg (vs:=[_]) rfl ztM (fun hg=>zvz x.pt hN) ?_
  refine zK (Qz rfl rfl rfl) ?_
  refine QB rfl rfl rfl rfl rfl ?_
  refine zM ?_
  refine Qq 7 rfl rfl rfl ?_
  refine zK (Qe rfl) ?_
  refine QB rfl rfl rfl rfl rfl ?_
  refine zM ?_
  refine Qq 10 rfl rfl rfl ?_
  refine zK (Qe rfl) ?_
  refine QB rfl rfl rfl rfl rfl ?_
  refine zA (zN (Qs (Qk (Qf ?_))))
  exact Qy rfl rfl (fun w hw=>⟨by rw [zxe k2];rfl,(hw.mono hIc).subL QC⟩)
 have k2:¬x.kind=2:=by simpa using hc36
 refine zR (zC ?_)
 refine zA (zN ?_)
 refine zI ?_ ?_<;>intro hc51
 ·
  have k3:x.kind=3:=by simpa using hc51
  refine Qo ?_
  rcases (show (z1 x=true∧z2 x=true∧(L.chk [x.ls]==0)=true)∨(z1 x=true∧z2 x=true∧(L.chk [x.ls]==0)=false)∨(z1 x=true∧z2 x=false)∨z1 x=false by cases z1 x<;>cases z2 x<;>cases (L.chk [x.ls]==0)<;>simp) with ⟨h1z,h2z,hlz⟩ | ⟨h1z,h2z,hlz⟩ | ⟨h1z,h2z⟩ | h1z
  ·
   refine Qi (zM ?_)
   refine zM ?_
   rw [h1z]
   refine QP (dj:=54) rfl rfl rfl ?_
   refine zF ZZ ?_
   refine QP (dj:=54) rfl rfl rfl ?_
   refine zV (Qg rfl Y3 (fun hg=>by exact XG (BxI.cells (vs:=Q4 x) h1)) rfl) ?_
   refine QP (dj:=54) rfl rfl rfl ?_
   refine qcV (vs:=[_]) rfl zbQ (zcd hN) ?_
   refine zV (QW rfl rfl rfl) ?_
   rw [h2z]
   refine zM ?_
   refine QP (dj:=59) rfl rfl rfl ?_
   refine zF Y7 ?_
   refine QP (dj:=59) rfl rfl rfl ?_
   refine zV (Qg rfl VX (fun hg=>by exact zcc (BxI.cells (vs:=Q4 x) h1)) rfl) ?_
   refine QP (dj:=59) rfl rfl rfl ?_
   refine zpb [(0,_)] [_] Jl (fun b_62=>?_)
   refine QQ (by repeat (first | exact ZQ.here | apply ZQ.there)) (fun I2 hI2 hb2=>?_)
   have hIc:=hIc.trans hI2
   have hF:=Sl.lit [x.ls] rfl L.encL_len (show I2 b_62=some (Obj.cells ([x.ls].flatMap L.encL).toArray 41 (0,0)) from hb2)
   refine QP (dj:=59) rfl rfl rfl ?_
   refine qcV (vs:=[_]) rfl zqo (L.w_rcheck hF kD) ?_
   refine QP (dj:=59) rfl rfl rfl ?_
   refine zC ?_
   rw [hlz]
   refine zV (QW rfl rfl rfl) ?_
   refine zM ?_
   refine QP (dj:=66) rfl rfl rfl ?_
   refine zM ?_
   refine zV (QW rfl rfl rfl) ?_
   refine zA (zN (Qs (Qk (Qf ?_))))
   exact Qy rfl rfl (fun w hw=>⟨by rw [zhV k3,h1z,h2z,hlz];rfl,(hw.mono hIc).subL QC⟩)
  ·
   refine Qi (zM ?_)
   refine zM ?_
   rw [h1z]
   refine QP (dj:=54) rfl rfl rfl ?_
   refine zF ZZ ?_
   refine QP (dj:=54) rfl rfl rfl ?_
   refine zV (Qg rfl Y3 (fun hg=>by exact XG (BxI.cells (vs:=Q4 x) h1)) rfl) ?_
   refine QP (dj:=54) rfl rfl rfl ?_
   refine qcV (vs:=[_]) rfl zbQ (zcd hN) ?_
   refine zV (QW rfl rfl rfl) ?_
   rw [h2z]
   refine zM ?_
   refine QP (dj:=59) rfl rfl rfl ?_
   refine zF Y7 ?_
   refine QP (dj:=59) rfl rfl rfl ?_
   refine zV (Qg rfl VX (fun hg=>by exact zcc (BxI.cells (vs:=Q4 x) h1)) rfl) ?_
   refine QP (dj:=59) rfl rfl rfl ?_
   refine zpb [(0,_)] [_] Jl (fun b_62=>?_)
   refine QQ (by repeat (first | exact ZQ.here | apply ZQ.there)) (fun I3 hI3 hb3=>?_)
   have hIc:=hIc.trans hI3
   have hF:=Sl.lit [x.ls] rfl L.encL_len (show I3 b_62=some (Obj.cells ([x.ls].flatMap L.encL).toArray 41 (0,0)) from hb3)
   refine QP (dj:=59) rfl rfl rfl ?_
   refine qcV (vs:=[_]) rfl zqo (L.w_rcheck hF kD) ?_
   refine QP (dj:=59) rfl rfl rfl ?_
   refine zC ?_
   rw [hlz]
   refine zV (QW rfl rfl rfl) ?_
   refine zM ?_
   refine ZU (dj:=66) rfl rfl rfl rfl rfl ?_
   refine zV (Z6 rfl rfl rfl) ?_
   refine zA (zN (Qs (Qk (Qf ?_))))
   exact Qy rfl rfl (fun w hw=>⟨by rw [zhV k3,h1z,h2z,hlz];rfl,(hw.mono hIc).subL QC⟩)
  ·
   refine Qi (zM ?_)
   refine zM ?_
   rw [h1z]
   refine QP (dj:=54) rfl rfl rfl ?_
   refine zF ZZ ?_
   refine QP (dj:=54) rfl rfl rfl ?_
   refine zV (Qg rfl Y3 (fun hg=>by exact XG (BxI.cells (vs:=Q4 x) h1)) rfl) ?_
   refine QP (dj:=54) rfl rfl rfl ?_
   refine qcV (vs:=[_]) rfl zbQ (zcd hN) ?_
   refine zV (QW rfl rfl rfl) ?_
   rw [h2z]
   refine zM ?_
   refine ZU (dj:=59) rfl rfl rfl rfl rfl ?_
   refine ZU (dj:=59) rfl rfl rfl rfl rfl ?_
   refine ZU (dj:=59) rfl rfl rfl rfl rfl ?_
   refine ZU (dj:=59) rfl rfl rfl rfl rfl ?_
   refine ZU (dj:=59) rfl rfl rfl rfl rfl ?_
   refine zV (Z6 rfl rfl rfl) ?_
   refine zM ?_
   refine ZU (dj:=66) rfl rfl rfl rfl rfl ?_
   refine zV (Z6 rfl rfl rfl) ?_
   refine zA (zN (Qs (Qk (Qf ?_))))
   exact Qy rfl rfl (fun w hw=>⟨by rw [zhV k3,h1z,h2z];rfl,(hw.mono hIc).subL QC⟩)
  refine Qi (zM ?_)
  refine zM ?_
  rw [h1z]
  refine ZU (dj:=54) rfl rfl rfl rfl rfl ?_
  refine ZU (dj:=54) rfl rfl rfl rfl rfl ?_
  refine ZU (dj:=54) rfl rfl rfl rfl rfl ?_
  refine zV (Z6 rfl rfl rfl) ?_
  refine zM ?_
  refine ZU (dj:=59) rfl rfl rfl rfl rfl ?_
  refine ZU (dj:=59) rfl rfl rfl rfl rfl ?_
  refine ZU (dj:=59) rfl rfl rfl rfl rfl ?_
  refine ZU (dj:=59) rfl rfl rfl rfl rfl ?_
  refine ZU (dj:=59) rfl rfl rfl rfl rfl ?_
  refine zV (Z6 rfl rfl rfl) ?_
  refine zM ?_
  refine ZU (dj:=66) rfl rfl rfl rfl rfl ?_
  refine zV (Z6 rfl rfl rfl) ?_
  refine zA (zN (Qs (Qk (Qf ?_))))
  exact Qy rfl rfl (fun w hw=>⟨by rw [zhV k3,h1z];rfl,(hw.mono hIc).subL QC⟩)
 have k3:¬x.kind=3:=by simpa using hc51
 refine zR (zC ?_)
 refine zA (zN ?_)
 refine zI ?_ ?_<;>intro hc69
 ·
  have k4:x.kind=4:=by simpa using hc69
  refine zR (zM ?_)
  refine zM ?_
  refine Qq 1 rfl rfl rfl ?_
  refine zK (Qa rfl ZZ) ?_
  refine zK (Qg rfl Y3 (fun hg=>by exact XG (BxI.cells (vs:=Q4 x) h1)) rfl) ?_
  refine qg (vs:=[_]) rfl zbQ (fun hg=>zcd hN) ?_
  refine QB rfl rfl rfl rfl rfl ?_
  refine zM ?_
  refine Qq 6 rfl rfl rfl ?_
  refine zK (Qe rfl) ?_
  refine QB rfl rfl rfl rfl rfl ?_
  refine zM ?_
  refine Qq 9 rfl rfl rfl ?_
  refine zK (Qa rfl Z0) ?_
  refine zK (Qg rfl Ys (fun hg=>by exact zbs (BxI.cells (vs:=Q4 x) h1)) rfl) ?_
  refine qg (vs:=[_]) rfl zrB (fun hg=>zdo x.rt hW.rt) ?_
  refine QB rfl rfl rfl rfl rfl ?_
  refine zA (zN (Qs (Qk (Qf ?_))))
  exact Qy rfl rfl (fun w hw=>⟨by rw [zu2 k4];rfl,(hw.mono hIc).subL QC⟩)
 have k4:¬x.kind=4:=by simpa using hc69
 refine Qp (Qj (Qd (zR (zA (zN (Qs ?_))))))
 exact Qy rfl rfl (fun w hw=>⟨by rw [zrw k1 k2 k3 k4],(hw.mono hIc).subL QC⟩)
end
section
open Go Go.Kn Go.Proofs
theorem zks:Fun Tryz.prog 87:=.of Tryz.func87 kA kA
theorem zp4 {I:Qu}{av:Option Addr}{n c:Nat}{xs:List Nt}(hP:zbd I av n c xs)(hW:∀ x∈xs,NtW x)(hn:n≤100000):ZA Tryz.prog 36 [.agg #[.slice av n c]] I (.bool (ZL xs)):=by
 intro g H w hw
 refine qe Tryz.func36 Tryz.ntmps36 hw ?_
 have hIc:=zz4 I
 have hln:=hP.sl.len
 refine zR ?_
 refine QO rfl rfl rfl (fun b_1=>?_)
 refine zA (Qb ?_)
 refine QF .here (fun I1 hI1 hb1=>?_)
 have hP:=hP.mono hI1;have hIc:=hIc.trans hI1
 have h1:=BxI.of hb1
 refine Qd (Qo (zR (zA (zN (Qx ?_)))))
 refine zU [(1,_)] (fun T L0 mz E I' loc'=>∃ (k:Nat),mz=n-k∧E=(3,.int .i64 k)::T∧HLe I1 I'∧L0=loc'∧k≤n∧(∀ j y,j<k→xs[j]? =some y→zcp (xs.take j) y=false)) ?_ (h:=⟨0,rfl,rfl,zz4 _,rfl,Nat.zero_le _,fun j y h=>absurd h (Nat.not_lt_zero _)⟩)
 rintro mz E J2 loc' ⟨k,rfl,rfl,hJ,rfl,hk,hall⟩
 have hP:=hP.mono hJ;have h1:=h1.mono hJ;have hIc:=hIc.trans hJ
 have hB0:=hJ
 refine Qo (zR (zM ?_))
 refine zF ZB ?_
 refine zV (Qc rfl YY (fun hg=>by exact QA.imm h1.out rfl)) ?_
 refine zQ Q8 ?_
 refine zC (zN ?_)
 refine zI ?_ ?_<;>intro hc8
 ·
  have hlt_k:k<n:=by have h:=hc8;simp at h;omega
  obtain ⟨x,hx⟩:∃ x,xs[k]? =some x:=⟨_,List.getElem?_eq_getElem kB⟩
  have hxm:x∈xs:=List.mem_of_getElem? hx
  refine Qp (Qd (Qo (Qx (Qo ?_))))
  rcases (show QM x=false∨(QM x=true∧k=0)∨(QM x=true∧0<k) by cases QM x<;>simp<;>omega) with hf | ⟨hf,hk⟩ | ⟨hf,hk⟩
  ·
   have hD:=zz4 J2
   refine Zn ?_
   refine QL J2 [] mixed ?_
   refine zT 0 rfl (Qa rfl ZB) hD ?_
   refine zT 1 rfl (Qc rfl YY (fun hg=>by exact QA.imm h1.out rfl)) hD ?_
   refine zT 2 rfl (Qe rfl) hD ?_
   refine zT 3 rfl (QE rfl rfl Q8 hP.sl (fun hg=>kB)) hD ?_
   refine zT 4 rfl (Qg rfl Q7 (fun hg=>by exact zz5 hP.sl hx) rfl) hD ?_
   refine qd 5 rfl ?_
   refine qcV (vs:=[_]) rfl zks (zb3 x (hP.nd x hxm) (hW x hxm)) ?_
   refine Qb ?_
   refine zD hD ?_
   refine zT 6 rfl (Zs rfl) hD ?_
   rw [hf]
   refine zT 7 rfl (Qe rfl) hD ?_
   refine zW 8 18 hD ?_
   refine zW 9 18 hD ?_
   refine zW 10 18 hD ?_
   refine zW 11 21 hD ?_
   refine zW 12 21 hD ?_
   refine zW 13 21 hD ?_
   refine zW 14 21 hD ?_
   refine zW 15 21 hD ?_
   refine zW 16 21 hD ?_
   refine zW 17 21 hD ?_
   refine zW 18 21 hD ?_
   refine zW 19 21 hD ?_
   refine zW 20 21 hD ?_
   refine zW 21 21 hD ?_
   refine zW 22 21 hD ?_
   refine zW 23 21 hD ?_
   refine zW 24 18 hD ?_
   refine zT 25 rfl (Z6 rfl rfl rfl) hD ?_
   refine Ql kA ?_
   refine Qt ?_
   refine Qd ?_
   refine zI ?_ ?_<;>intro hc36
   ·
    refine zR (zA (zN (Qs (Qk (Qf (Qf (Qk ?_)))))))
    refine Qf ?_
    exact Qy rfl rfl (fun w hw=>⟨by rw [Xv hx (zel (pre:=xs.take k) hf)],(hw.mono hIc).subL QC⟩)
   cases hc36
  ·
   have hk0:decide ((k:Int)>0)=false:=by simp;omega
   have hD:=zz4 J2
   refine Zn ?_
   refine QL J2 [] mixed ?_
   refine zT 0 rfl (Qa rfl ZB) hD ?_
   refine zT 1 rfl (Qc rfl YY (fun hg=>by exact QA.imm h1.out rfl)) hD ?_
   refine zT 2 rfl (Qe rfl) hD ?_
   refine zT 3 rfl (QE rfl rfl Q8 hP.sl (fun hg=>kB)) hD ?_
   refine zT 4 rfl (Qg rfl Q7 (fun hg=>by exact zz5 hP.sl hx) rfl) hD ?_
   refine qd 5 rfl ?_
   refine qcV (vs:=[_]) rfl zks (zb3 x (hP.nd x hxm) (hW x hxm)) ?_
   refine Qb ?_
   refine zD hD ?_
   refine zT 6 rfl (Zs rfl) hD ?_
   rw [hf]
   refine zT 7 rfl (Qe rfl) hD ?_
   refine zw 8 18 rfl (Qe rfl) hD ?_
   refine zw 9 18 rfl (Qz rfl rfl rfl) hD ?_
   rw [hk0]
   refine zw 10 18 rfl (Qe rfl) hD ?_
   refine zW 11 21 hD ?_
   refine zW 12 21 hD ?_
   refine zW 13 21 hD ?_
   refine zW 14 21 hD ?_
   refine zW 15 21 hD ?_
   refine zW 16 21 hD ?_
   refine zW 17 21 hD ?_
   refine zW 18 21 hD ?_
   refine zW 19 21 hD ?_
   refine zW 20 21 hD ?_
   refine zW 21 21 hD ?_
   refine zW 22 21 hD ?_
   refine zW 23 21 hD ?_
   refine zw 24 18 rfl (Z6 rfl rfl rfl) hD ?_
   refine zT 25 rfl (QW rfl rfl rfl) hD ?_
   refine Ql kA ?_
   refine Qt ?_
   refine Qd ?_
   refine zI ?_ ?_<;>intro hc36
   ·
    cases hc36
   have hbad:zcp (xs.take k) x=false:=by rw [hk];exact zdu hf
   refine Qp (Qj (Qd (Qi (zM ?_))))
   refine zB ?_
   refine zA (Qb ?_)
   exact zm (h:=⟨n-(k+1),kB,k+1,rfl,rfl,hB0,rfl,kB,V4 hx hall hbad⟩)
  have hk0:decide ((k:Int)>0)=true:=by simp;omega
  obtain ⟨y,hy⟩:∃ y,xs[((k:Int)-1).toNat]? =some y:=⟨_,List.getElem?_eq_getElem kB⟩
  have hym:y∈xs:=List.mem_of_getElem? hy
  have hfy:=zcl (hall _ y kB hy)
  have hD:=zz4 J2
  refine Zn ?_
  refine QL J2 [] mixed ?_
  refine zT 0 rfl (Qa rfl ZB) hD ?_
  refine zT 1 rfl (Qc rfl YY (fun hg=>by exact QA.imm h1.out rfl)) hD ?_
  refine zT 2 rfl (Qe rfl) hD ?_
  refine zT 3 rfl (QE rfl rfl Q8 hP.sl (fun hg=>kB)) hD ?_
  refine zT 4 rfl (Qg rfl Q7 (fun hg=>by exact zz5 hP.sl hx) rfl) hD ?_
  refine qd 5 rfl ?_
  refine qcV (vs:=[_]) rfl zks (zb3 x (hP.nd x hxm) (hW x hxm)) ?_
  refine Qb ?_
  refine zD hD ?_
  refine zT 6 rfl (Zs rfl) hD ?_
  rw [hf]
  refine zT 7 rfl (Qe rfl) hD ?_
  refine zw 8 18 rfl (Qe rfl) hD ?_
  refine zw 9 18 rfl (Qz rfl rfl rfl) hD ?_
  rw [hk0]
  refine zw 10 18 rfl (Qe rfl) hD ?_
  refine zw 11 21 rfl (Qa rfl ZB) hD ?_
  refine zw 12 21 rfl (Qc rfl YY (fun hg=>by exact QA.imm h1.out rfl)) hD ?_
  refine zw 13 21 rfl (Qe rfl) hD ?_
  refine zw 14 21 rfl (YE rfl rfl rfl (fun hg=>kB)) hD ?_
  refine zw 15 21 rfl (QE rfl rfl Q8 hP.sl (fun hg=>kB)) hD ?_
  refine zw 16 21 rfl (Qg rfl Q7 (fun hg=>by exact zz5 hP.sl hy) rfl) hD ?_
  refine zw 17 21 rfl (Qa rfl ZB) hD ?_
  refine zw 18 21 rfl (Qc rfl YY (fun hg=>by exact QA.imm h1.out rfl)) hD ?_
  refine zw 19 21 rfl (Qe rfl) hD ?_
  refine zw 20 21 rfl (QE rfl rfl Q8 hP.sl (fun hg=>kB)) hD ?_
  refine zw 21 21 rfl (Qg rfl Q7 (fun hg=>by exact zz5 hP.sl hx) rfl) hD ?_
  refine qd 22 rfl ?_
  refine QP (dj:=21) rfl rfl rfl ?_
  refine zpc [_,_] rfl zwX .nil (zok y x (hP.m y hym hfy) (hP.m x hxm hf)) ?_
  rintro vv3 I3 L3 hI3 ⟨rfl,rfl⟩
  have hIc:=hIc.trans hI3;have hB0:=hB0.trans hI3;have hD:=hD.trans hI3
  refine Qb ?_
  refine zD hD ?_
  refine zw 23 21 rfl (Zs rfl) hD ?_
  refine zw 24 18 rfl (QW rfl rfl rfl) hD ?_
  refine zT 25 rfl (QW rfl rfl rfl) hD ?_
  refine Ql kA ?_
  refine Qt ?_
  refine Qd ?_
  refine zI ?_ ?_<;>intro hc36
  ·
   refine zR (zA (zN (Qs (Qk (Qf (Qf (Qk ?_)))))))
   refine Qf ?_
   exact Qy rfl rfl (fun w hw=>⟨by rw [Xv hx ((Ub hf hk hy).trans (by rw [←zeg];exact hc36))],(hw.mono hIc).subL QC⟩)
  have hbad:zcp (xs.take k) x=false:=(Ub hf hk hy).trans (by rw [←zeg];exact hc36)
  refine Qp (Qj (Qd (Qi (zM ?_))))
  refine zB ?_
  refine zA (Qb ?_)
  exact zm (h:=⟨n-(k+1),kB,k+1,rfl,rfl,hB0,rfl,kB,V4 hx hall hbad⟩)
 have hge_k:n≤k:=by have h:=hc8;simp at h;omega
 refine Q6 (Qn (Qn (Qw (Qd (zR ?_)))))
 refine zF ZB ?_
 refine zV (Qc rfl YY (fun hg=>by exact QA.imm h1.out rfl)) ?_
 refine zQ Q8 ?_
 refine zC ?_
 refine zA (zN (Qs ?_))
 exact Qy rfl rfl (fun w hw=>⟨by rw [zdY (fun j y hj hy=>hall j y kB hy),hln],(hw.mono hIc).subL QC⟩)
end
section
open Go Go.Kn Go.Proofs
theorem zxQ:Fun Tryz.prog 36:=.of Tryz.func36 kA kA
end
end Go.Proofs.YtjblkbkmblkgoaaGreat
