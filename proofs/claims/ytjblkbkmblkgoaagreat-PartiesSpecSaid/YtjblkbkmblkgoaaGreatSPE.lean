/- partiesSpec_holds, part E of the proof: what its theorems say holds without further conditions. -/
import Derived.Test.YtjblkbkmblkgoaaGreatSPD
namespace Go.Proofs.YtjblkbkmblkgoaaGreat
section
open Go Go.Kn Go.Proofs
variable{I:Qu}{qa aa:Option Addr}{qn qc an ac:Nat}{qs:List Pk}{ks:List (Int×Int)}
theorem zoh (hQ:Sl I 3 Q6 qa qn qc qs)(hqn:qn≤100000)(hA:Sl I 2 VI aa an ac ks)(han:an≤100000)(x:Pk):YE Tryz.prog 176 [.agg #[.slice qa qn qc,.slice aa an ac],KW x] I [] (fun v I' L'=>∃ a m c a2 m2 c2,v= .tuple #[.agg #[.slice a m c,.slice a2 m2 c2],.int .i64 (KH qs ks x)]∧L'=[]∧zdC I' (KH qs ks x) a m c a2 m2 c2 (qs++[x]) aa an ac∧(KH qs ks x=0→m=qn+1)):=by
 intro g H w hw;refine qe Tryz.func176 Tryz.ntmps176 hw ?_;have hIc:=zB6 I;have hlq:=hQ.len;have hcq:=hQ.cap;refine zR<|QK rfl rfl rfl (fun b_2=>QK rfl rfl rfl (fun b_3=>Qp JC rfl rfl (fun b_4=>zA (Qb<|QF (.there .here) (fun I1 hI1 hb1=>?_)))))
 have hQ:=hQ.mono hI1;have hA:=hA.mono hI1;have hIc:=hIc.trans hI1;have h3:=BxI.of hb1;refine Qd (Qm (zR<|zV (Qg rfl Zl (fun hg=>by exact Cells.g1) rfl)<|qcV (vs:=[_]) rfl ziI (zi7 hQ hqn hA han)<|zC ?_));refine zM ?_;refine QI 3 rfl rfl rfl ?_;refine zJ (Qg rfl YO (fun hg=>by exact BxI.cells (vs:=Q6 x) h3) rfl) ?_;refine qf (vs:=[_]) rfl zl9 (fun hg=>zij _ x) ?_;refine zJ (ZB rfl) ?_;refine Q9 rfl rfl rfl rfl rfl ?_;refine zN ?_;refine zI ?_ ?_<;>intro hc13
 ·
  have hs1:=zsL hc13;refine zR<|zV (Qg rfl Zl (fun hg=>by exact Cells.g0) rfl) ?_
  refine zh ZO<|zA (zN (Qs (Qf ?_)))
  first
  | exact Q2 rfl rfl rfl Zl zB4 rfl (fun w hw=>⟨_,I1,[],rfl,hIc,hw.drop.drop,_,_,_,_,_,_,by rw [hs1]<;>rfl,rfl,KK (by rw [hs1];decide),fun h=>by rw [hs1] at h;cases h⟩)
 refine Qr (Qd (Qm (zR<|zF QP ?_)));refine zL Q5<|zQ Q0<|zC (zN ?_)
 refine zI ?_ ?_<;>intro hc18
 ·
  have hs2:=zst hc13 (by rw [hlq];exact hc18);refine zR<|zV (Qg rfl Zl (fun hg=>by exact Cells.g0) rfl) ?_
  refine zh ZO<|zA (zN (Qs (Qf ?_)))
  first
  | exact Q2 rfl rfl rfl Zl zB4 rfl (fun w hw=>⟨_,I1,[],rfl,hIc,hw.drop.drop,_,_,_,_,_,_,by rw [hs2]<;>rfl,rfl,KK (by rw [hs2];decide),fun h=>by rw [hs2] at h;cases h⟩)
 have hs3:=ziJ hc13 (by rw [hlq];exact hc18);refine Qr (Qd ?_);refine zY [(2,_),(4,_)] (fun T L0 E I' loc'=>∃ (v:Value) (L:Go.Kn.Loc),E=T∧I1=I'∧L++[(b_4,.cells #[.slice none 0 0,.slice none 0 0] 26 (0,0)),(b_2,.cells #[v,.slice aa an ac] 26 (0,0))]=loc'∧ZU 99 3 v (qn+1) ((qs++[x]).flatMap Q6) L) ?_ ?_
 ·
  have hD:=zB6 I1;refine Zn<|QJ I1 [] mixed<|zT 0 rfl (Qa rfl QP) hD<|zT 2 rfl (Qa rfl QP) hD<|zT 5 rfl (Qa rfl QP) hD<|zT 9 rfl (Qg rfl YO (fun hg=>by exact BxI.cells (vs:=Q6 x) h3) rfl) hD ?_
  refine zoV 1 3 6 10 rfl rfl rfl rfl kA ?_ ?_ ?_ ?_
  ·
   refine zL Q5 ?_;refine Qb<|zD hD ?_
   refine VD 3 6 10 rfl rfl rfl kA ?_ ?_ ?_
   ·
    refine zL Q5 ?_;refine Qb<|zD hD<|zT 4 rfl (QT rfl Q0) hD ?_
    refine QU 6 10 rfl rfl kA ?_ ?_
    focus
     refine zL Q5 ?_;refine Qb<|zD hD<|zT 7 rfl (QT rfl Q0) hD<|zT 8 rfl (ZA rfl rfl rfl Q0 (fun hg=>kB)) hD<|qd 10 rfl<|zpb [(0,_)] [Q6 x] Za (fun b_30=>Qb<|zD hD ?_)
    rotate_left
    refine zpb [(0,_)] [Q6 x] Za (fun b_30=>Qb<|zD hD<|qd 6 rfl ?_);refine zL Q5 ?_;refine Qb<|zD hD<|zT 7 rfl (QT rfl Q0) hD<|zT 8 rfl (ZA rfl rfl rfl Q0 (fun hg=>kB)) hD ?_
    all_goals
     refine qd 11 rfl<|QW (ys:=[x].flatMap Q6) QX rfl rfl Za hQ.cut ⟨rfl,fun _=>rfl,zB4⟩ kC kB rfl rfl ?_
     intro v1 L1 hO1;rw [←List.flatMap_append] at hO1;obtain ⟨a1,c1,rfl⟩:=hO1.shape;refine Qb<|zD hD<|zT 12 rfl (Qa rfl QP) hD<|qd 13 rfl ?_
     refine zS Z3 ?_;exact Qb<|zD hD<|Qn kA<|Qv<|zm (h:=⟨_,_,rfl,rfl,rfl,hO1⟩)
   ·
    refine zL Q5 ?_;refine Qb<|zD hD<|zT 7 rfl (QT rfl Q0) hD ?_
    refine QU 3 10 rfl rfl kA ?_ ?_
    focus
     refine zL Q5 ?_;refine Qb<|zD hD<|zT 4 rfl (QT rfl Q0) hD<|zT 8 rfl (ZA rfl rfl rfl Q0 (fun hg=>kB)) hD<|qd 10 rfl<|zpb [(0,_)] [Q6 x] Za (fun b_30=>Qb<|zD hD ?_)
    rotate_left
    refine zpb [(0,_)] [Q6 x] Za (fun b_30=>Qb<|zD hD<|qd 3 rfl ?_);refine zL Q5 ?_;refine Qb<|zD hD<|zT 4 rfl (QT rfl Q0) hD<|zT 8 rfl (ZA rfl rfl rfl Q0 (fun hg=>kB)) hD ?_
    all_goals
     refine qd 11 rfl<|QW (ys:=[x].flatMap Q6) QX rfl rfl Za hQ.cut ⟨rfl,fun _=>rfl,zB4⟩ kC kB rfl rfl ?_
     intro v1 L1 hO1;rw [←List.flatMap_append] at hO1;obtain ⟨a1,c1,rfl⟩:=hO1.shape;refine Qb<|zD hD<|zT 12 rfl (Qa rfl QP) hD<|qd 13 rfl ?_
     refine zS Z3 ?_;exact Qb<|zD hD<|Qn kA<|Qv<|zm (h:=⟨_,_,rfl,rfl,rfl,hO1⟩)
   refine zpb [(0,_)] [Q6 x] Za (fun b_30=>Qb<|zD hD ?_);refine QU 3 6 rfl rfl kA ?_ ?_
   focus
    refine zL Q5 ?_;refine Qb<|zD hD<|zT 4 rfl (QT rfl Q0) hD<|qd 6 rfl ?_
    refine zL Q5 ?_;refine Qb<|zD hD<|zT 7 rfl (QT rfl Q0) hD ?_
   rotate_left
   refine zL Q5 ?_;refine Qb<|zD hD<|zT 7 rfl (QT rfl Q0) hD<|qd 3 rfl ?_
   refine zL Q5 ?_;refine Qb<|zD hD<|zT 4 rfl (QT rfl Q0) hD ?_
   all_goals
    refine zT 8 rfl (ZA rfl rfl rfl Q0 (fun hg=>kB)) hD<|qd 11 rfl<|QW (ys:=[x].flatMap Q6) QX rfl rfl Za hQ.cut ⟨rfl,fun _=>rfl,zB4⟩ kC kB rfl rfl ?_
    intro v1 L1 hO1;rw [←List.flatMap_append] at hO1;obtain ⟨a1,c1,rfl⟩:=hO1.shape;refine Qb<|zD hD<|zT 12 rfl (Qa rfl QP) hD<|qd 13 rfl ?_
    refine zS Z3 ?_;exact Qb<|zD hD<|Qn kA<|Qv<|zm (h:=⟨_,_,rfl,rfl,rfl,hO1⟩)
  ·
   refine zL Q5 ?_;refine Qb<|zD hD<|zT 4 rfl (QT rfl Q0) hD ?_
   refine VD 1 6 10 rfl rfl rfl kA ?_ ?_ ?_
   ·
    refine zL Q5 ?_;refine Qb<|zD hD ?_
    refine QU 6 10 rfl rfl kA ?_ ?_
    focus
     refine zL Q5 ?_;refine Qb<|zD hD<|zT 7 rfl (QT rfl Q0) hD<|zT 8 rfl (ZA rfl rfl rfl Q0 (fun hg=>kB)) hD<|qd 10 rfl<|zpb [(0,_)] [Q6 x] Za (fun b_30=>Qb<|zD hD ?_)
    rotate_left
    refine zpb [(0,_)] [Q6 x] Za (fun b_30=>Qb<|zD hD<|qd 6 rfl ?_);refine zL Q5 ?_;refine Qb<|zD hD<|zT 7 rfl (QT rfl Q0) hD<|zT 8 rfl (ZA rfl rfl rfl Q0 (fun hg=>kB)) hD ?_
    all_goals
     refine qd 11 rfl<|QW (ys:=[x].flatMap Q6) QX rfl rfl Za hQ.cut ⟨rfl,fun _=>rfl,zB4⟩ kC kB rfl rfl ?_
     intro v1 L1 hO1;rw [←List.flatMap_append] at hO1;obtain ⟨a1,c1,rfl⟩:=hO1.shape;refine Qb<|zD hD<|zT 12 rfl (Qa rfl QP) hD<|qd 13 rfl ?_
     refine zS Z3 ?_;exact Qb<|zD hD<|Qn kA<|Qv<|zm (h:=⟨_,_,rfl,rfl,rfl,hO1⟩)
   ·
    refine zL Q5 ?_;refine Qb<|zD hD<|zT 7 rfl (QT rfl Q0) hD ?_
    refine QU 1 10 rfl rfl kA ?_ ?_
    focus
     refine zL Q5 ?_;refine Qb<|zD hD ?_
     refine zT 8 rfl (ZA rfl rfl rfl Q0 (fun hg=>kB)) hD<|qd 10 rfl<|zpb [(0,_)] [Q6 x] Za (fun b_30=>Qb<|zD hD ?_)
    rotate_left
    refine zpb [(0,_)] [Q6 x] Za (fun b_30=>Qb<|zD hD<|qd 1 rfl ?_);refine zL Q5 ?_;refine Qb<|zD hD ?_
    refine zT 8 rfl (ZA rfl rfl rfl Q0 (fun hg=>kB)) hD ?_
    all_goals
     refine qd 11 rfl<|QW (ys:=[x].flatMap Q6) QX rfl rfl Za hQ.cut ⟨rfl,fun _=>rfl,zB4⟩ kC kB rfl rfl ?_
     intro v1 L1 hO1;rw [←List.flatMap_append] at hO1;obtain ⟨a1,c1,rfl⟩:=hO1.shape;refine Qb<|zD hD<|zT 12 rfl (Qa rfl QP) hD<|qd 13 rfl ?_
     refine zS Z3 ?_;exact Qb<|zD hD<|Qn kA<|Qv<|zm (h:=⟨_,_,rfl,rfl,rfl,hO1⟩)
   refine zpb [(0,_)] [Q6 x] Za (fun b_30=>Qb<|zD hD ?_);refine QU 1 6 rfl rfl kA ?_ ?_
   focus
    refine zL Q5 ?_;refine Qb<|zD hD<|qd 6 rfl ?_
    refine zL Q5 ?_;refine Qb<|zD hD<|zT 7 rfl (QT rfl Q0) hD ?_
   rotate_left
   refine zL Q5 ?_;refine Qb<|zD hD<|zT 7 rfl (QT rfl Q0) hD<|qd 1 rfl ?_
   refine zL Q5 ?_;refine Qb<|zD hD ?_
   all_goals
    refine zT 8 rfl (ZA rfl rfl rfl Q0 (fun hg=>kB)) hD<|qd 11 rfl<|QW (ys:=[x].flatMap Q6) QX rfl rfl Za hQ.cut ⟨rfl,fun _=>rfl,zB4⟩ kC kB rfl rfl ?_
    intro v1 L1 hO1;rw [←List.flatMap_append] at hO1;obtain ⟨a1,c1,rfl⟩:=hO1.shape;refine Qb<|zD hD<|zT 12 rfl (Qa rfl QP) hD<|qd 13 rfl ?_
    refine zS Z3 ?_;exact Qb<|zD hD<|Qn kA<|Qv<|zm (h:=⟨_,_,rfl,rfl,rfl,hO1⟩)
  ·
   refine zL Q5 ?_;refine Qb<|zD hD<|zT 7 rfl (QT rfl Q0) hD ?_
   refine VD 1 3 10 rfl rfl rfl kA ?_ ?_ ?_
   ·
    refine zL Q5 ?_;refine Qb<|zD hD ?_
    refine QU 3 10 rfl rfl kA ?_ ?_
    focus
     refine zL Q5 ?_;refine Qb<|zD hD<|zT 4 rfl (QT rfl Q0) hD<|zT 8 rfl (ZA rfl rfl rfl Q0 (fun hg=>kB)) hD<|qd 10 rfl<|zpb [(0,_)] [Q6 x] Za (fun b_30=>Qb<|zD hD ?_)
    rotate_left
    refine zpb [(0,_)] [Q6 x] Za (fun b_30=>Qb<|zD hD<|qd 3 rfl ?_);refine zL Q5 ?_;refine Qb<|zD hD<|zT 4 rfl (QT rfl Q0) hD<|zT 8 rfl (ZA rfl rfl rfl Q0 (fun hg=>kB)) hD ?_
    all_goals
     refine qd 11 rfl<|QW (ys:=[x].flatMap Q6) QX rfl rfl Za hQ.cut ⟨rfl,fun _=>rfl,zB4⟩ kC kB rfl rfl ?_
     intro v1 L1 hO1;rw [←List.flatMap_append] at hO1;obtain ⟨a1,c1,rfl⟩:=hO1.shape;refine Qb<|zD hD<|zT 12 rfl (Qa rfl QP) hD<|qd 13 rfl ?_
     refine zS Z3 ?_;exact Qb<|zD hD<|Qn kA<|Qv<|zm (h:=⟨_,_,rfl,rfl,rfl,hO1⟩)
   ·
    refine zL Q5 ?_;refine Qb<|zD hD<|zT 4 rfl (QT rfl Q0) hD ?_
    refine QU 1 10 rfl rfl kA ?_ ?_
    focus
     refine zL Q5 ?_;refine Qb<|zD hD ?_
     refine zT 8 rfl (ZA rfl rfl rfl Q0 (fun hg=>kB)) hD<|qd 10 rfl<|zpb [(0,_)] [Q6 x] Za (fun b_30=>Qb<|zD hD ?_)
    rotate_left
    refine zpb [(0,_)] [Q6 x] Za (fun b_30=>Qb<|zD hD<|qd 1 rfl ?_);refine zL Q5 ?_;refine Qb<|zD hD ?_
    refine zT 8 rfl (ZA rfl rfl rfl Q0 (fun hg=>kB)) hD ?_
    all_goals
     refine qd 11 rfl<|QW (ys:=[x].flatMap Q6) QX rfl rfl Za hQ.cut ⟨rfl,fun _=>rfl,zB4⟩ kC kB rfl rfl ?_
     intro v1 L1 hO1;rw [←List.flatMap_append] at hO1;obtain ⟨a1,c1,rfl⟩:=hO1.shape;refine Qb<|zD hD<|zT 12 rfl (Qa rfl QP) hD<|qd 13 rfl ?_
     refine zS Z3 ?_;exact Qb<|zD hD<|Qn kA<|Qv<|zm (h:=⟨_,_,rfl,rfl,rfl,hO1⟩)
   refine zpb [(0,_)] [Q6 x] Za (fun b_30=>Qb<|zD hD ?_);refine QU 1 3 rfl rfl kA ?_ ?_
   focus
    refine zL Q5 ?_;refine Qb<|zD hD<|qd 3 rfl ?_
    refine zL Q5 ?_;refine Qb<|zD hD<|zT 4 rfl (QT rfl Q0) hD ?_
   rotate_left
   refine zL Q5 ?_;refine Qb<|zD hD<|zT 4 rfl (QT rfl Q0) hD<|qd 1 rfl ?_
   refine zL Q5 ?_;refine Qb<|zD hD ?_
   all_goals
    refine zT 8 rfl (ZA rfl rfl rfl Q0 (fun hg=>kB)) hD<|qd 11 rfl<|QW (ys:=[x].flatMap Q6) QX rfl rfl Za hQ.cut ⟨rfl,fun _=>rfl,zB4⟩ kC kB rfl rfl ?_
    intro v1 L1 hO1;rw [←List.flatMap_append] at hO1;obtain ⟨a1,c1,rfl⟩:=hO1.shape;refine Qb<|zD hD<|zT 12 rfl (Qa rfl QP) hD<|qd 13 rfl ?_
    refine zS Z3 ?_;exact Qb<|zD hD<|Qn kA<|Qv<|zm (h:=⟨_,_,rfl,rfl,rfl,hO1⟩)
  refine zpb [(0,_)] [Q6 x] Za (fun b_30=>Qb<|zD hD ?_);refine VD 1 3 6 rfl rfl rfl kA ?_ ?_ ?_
  ·
   refine zL Q5 ?_;refine Qb<|zD hD ?_
   refine QU 3 6 rfl rfl kA ?_ ?_
   focus
    refine zL Q5 ?_;refine Qb<|zD hD<|zT 4 rfl (QT rfl Q0) hD<|qd 6 rfl ?_
    refine zL Q5 ?_;refine Qb<|zD hD<|zT 7 rfl (QT rfl Q0) hD ?_
   rotate_left
   refine zL Q5 ?_;refine Qb<|zD hD<|zT 7 rfl (QT rfl Q0) hD<|qd 3 rfl ?_
   refine zL Q5 ?_;refine Qb<|zD hD<|zT 4 rfl (QT rfl Q0) hD ?_
   all_goals
    refine zT 8 rfl (ZA rfl rfl rfl Q0 (fun hg=>kB)) hD<|qd 11 rfl<|QW (ys:=[x].flatMap Q6) QX rfl rfl Za hQ.cut ⟨rfl,fun _=>rfl,zB4⟩ kC kB rfl rfl ?_
    intro v1 L1 hO1;rw [←List.flatMap_append] at hO1;obtain ⟨a1,c1,rfl⟩:=hO1.shape;refine Qb<|zD hD<|zT 12 rfl (Qa rfl QP) hD<|qd 13 rfl ?_
    refine zS Z3 ?_;exact Qb<|zD hD<|Qn kA<|Qv<|zm (h:=⟨_,_,rfl,rfl,rfl,hO1⟩)
  ·
   refine zL Q5 ?_;refine Qb<|zD hD<|zT 4 rfl (QT rfl Q0) hD ?_
   refine QU 1 6 rfl rfl kA ?_ ?_
   focus
    refine zL Q5 ?_;refine Qb<|zD hD<|qd 6 rfl ?_
    refine zL Q5 ?_;refine Qb<|zD hD<|zT 7 rfl (QT rfl Q0) hD ?_
   rotate_left
   refine zL Q5 ?_;refine Qb<|zD hD<|zT 7 rfl (QT rfl Q0) hD<|qd 1 rfl ?_
   refine zL Q5 ?_;refine Qb<|zD hD ?_
   all_goals
    refine zT 8 rfl (ZA rfl rfl rfl Q0 (fun hg=>kB)) hD<|qd 11 rfl<|QW (ys:=[x].flatMap Q6) QX rfl rfl Za hQ.cut ⟨rfl,fun _=>rfl,zB4⟩ kC kB rfl rfl ?_
    intro v1 L1 hO1;rw [←List.flatMap_append] at hO1;obtain ⟨a1,c1,rfl⟩:=hO1.shape;refine Qb<|zD hD<|zT 12 rfl (Qa rfl QP) hD<|qd 13 rfl ?_
    refine zS Z3 ?_;exact Qb<|zD hD<|Qn kA<|Qv<|zm (h:=⟨_,_,rfl,rfl,rfl,hO1⟩)
  refine zL Q5 ?_;refine Qb<|zD hD<|zT 7 rfl (QT rfl Q0) hD ?_
  refine QU 1 3 rfl rfl kA ?_ ?_
  focus
   refine zL Q5 ?_;refine Qb<|zD hD<|qd 3 rfl ?_
   refine zL Q5 ?_;refine Qb<|zD hD<|zT 4 rfl (QT rfl Q0) hD ?_
  rotate_left
  refine zL Q5 ?_;refine Qb<|zD hD<|zT 4 rfl (QT rfl Q0) hD<|qd 1 rfl ?_
  refine zL Q5 ?_;refine Qb<|zD hD ?_
  all_goals
   refine zT 8 rfl (ZA rfl rfl rfl Q0 (fun hg=>kB)) hD<|qd 11 rfl<|QW (ys:=[x].flatMap Q6) QX rfl rfl Za hQ.cut ⟨rfl,fun _=>rfl,zB4⟩ kC kB rfl rfl ?_
   intro v1 L1 hO1;rw [←List.flatMap_append] at hO1;obtain ⟨a1,c1,rfl⟩:=hO1.shape;refine Qb<|zD hD<|zT 12 rfl (Qa rfl QP) hD<|qd 13 rfl ?_
   refine zS Z3 ?_;exact Qb<|zD hD<|Qn kA<|Qv<|zm (h:=⟨_,_,rfl,rfl,rfl,hO1⟩)
 rintro E I' loc' ⟨v,L,rfl,rfl,rfl,hO⟩;refine Qm<|zx4 hO QX (fun I3 hI3 af3 cf3 ef3 hZ=>?_)
 subst ef3;have hIc:=hIc.trans hI3;refine Qh<|zV (Qg rfl Zl (fun hg=>by exact Cells.g1) rfl) ?_
 refine zh ZO<|zA (zN (Qs ?_))
 first
 | exact Q2 rfl rfl rfl Zl zB4 rfl (fun w hw=>⟨_,I3,[],rfl,hIc,hw.drop.drop,_,_,_,_,_,_,by rw [hs3]<;>rfl,rfl,Wc hs3 hZ,fun _=>rfl⟩)
theorem zgO:Fun Tryz.prog 176:=.of Tryz.func176 kA kA
theorem zhS (hQ:Sl I 3 Q6 qa qn qc qs)(hqn:qn≤100000)(hA:Sl I 2 VI aa an ac ks)(han:an≤100000)(i:Int):YE Tryz.prog 115 [.agg #[.slice qa qn qc,.slice aa an ac],.int .i64 i] I [] (fun v I' L'=>∃ a m c a2 m2 c2,v= .tuple #[.agg #[.slice a m c,.slice a2 m2 c2],.int .i64 (UE qs ks i)]∧L'=[]∧zdC I' (UE qs ks i) a m c a2 m2 c2 (qs++[atP qs ks i]) aa an ac):=by
 intro g H w hw;refine qe Tryz.func115 Tryz.ntmps115 hw ?_;have hIc:=zB6 I;refine zR<|QK rfl rfl rfl (fun b_2=>Qp JC rfl rfl (fun b_4=>?_))
 refine zA<|zN (zR<|zV (Qg rfl Zl (fun hg=>by exact Cells.g1) rfl)<|zM ?_)
 refine qcV (vs:=[_,_]) rfl zgE (zz0 hQ hqn hA han i)<|zM ?_
 refine zE<|zE<|Qp XM rfl rfl (fun b_6=>?_)
 refine zh VE<|zA (zN (Qm (zR<|zM<|zC (zN ?_))))
 refine zI ?_ ?_<;>intro hc14
 ·
  have he:atE qs ks i≠0:=(by simpa using hc14);have hrp:UE qs ks i=atE qs ks i:=if_neg he;refine zR<|zV (Qg rfl Zl (fun hg=>by exact Cells.g1) rfl)<|zM<|zh ZO<|zA (zN (Qs (Qf ?_)))
  first
  | exact Q2 rfl rfl rfl Zl (.there .here) rfl (fun w hw=>⟨_,I,[],rfl,hIc,hw.drop.drop.drop,_,_,_,_,_,_,by rw [hrp]<;>rfl,rfl,by rw [hrp];first | exact KK he | exact hZ⟩)
 have he:atE qs ks i=0:=(by simpa using hc14);have hrp:UE qs ks i=KH qs ks (atP qs ks i):=if_pos he;refine Qr (Qd (zR<|zV (Qg rfl Zl (fun hg=>by exact Cells.g2) rfl)<|zV (Qg rfl YO (fun hg=>by exact Cells.g0) rfl)<|zpc [_,_] rfl zgO .nil (zoh hQ hqn hA han (atP qs ks i)) ?_));rintro vv1 I1 L1 hI1 ⟨a4,m4,c4,a5,m5,c5,rfl,rfl,hZ,hm⟩;have hIc:=hIc.trans hI1;refine zE<|zE ?_
 refine zh ZO<|zA (zN (Qs ?_))
 first
 | exact Q2 rfl rfl rfl Zl (.there .here) rfl (fun w hw=>⟨_,I1,[],rfl,hIc,hw.drop.drop.drop,_,_,_,_,_,_,by rw [hrp]<;>rfl,rfl,by rw [hrp];first | exact KK he | exact hZ⟩)
end
end Go.Proofs.YtjblkbkmblkgoaaGreat
namespace Go.Kn
section
open Go
def LdV (P:Program)(I:Qu)(loc:Loc)(tt b:Nat)(v:Value):Prop:=∀ (g:World) (H:Qu) (w:World),St g I H loc w→(loadVar tt ⟨b,0,none⟩).run P w= .ok v w
theorem LdV.ag {P:Program}{I:Qu}{loc:Loc}{tt b n:Nat}{vs:List Value}(hA:AgT P tt n)(hc:Cells I loc b 0 vs)(hn:vs.length=n):LdV P I loc tt b (.agg vs.toArray):=fun g H w hw=>by
 have h1:(loadCells ⟨b,0,none⟩ n).run P w= .ok vs.toArray w:=by
  rw [←hn];exact run_loadCells_list w _ _ fun j v hj=>by rw [Z8];exact (hc j v hj).get hw
 have hA':=hA;obtain ⟨_,i,h2,h3⟩:=hA';simp only [loadVar,Sem.run_bind,Sem.run_pure,Vn hA,Result.andThen,if_true,run_sizeOf h2,h3,h1]
section
variable {P:Program} {fn:Func} {R:Ending→World→Prop} {N:Nat} {g:World} {I H:Qu} {loc:Loc} {E:Env} {r:Option Nat}
theorem Ut {t u s tt tt' b b':Nat}{v v' v'':Value}(hr:fn.results= #[.cell t tt,.cell u tt',.tmp s])(hv:VT E t=some (.pointer (some ⟨b,0,none⟩)))(hv':VT E u=some (.pointer (some ⟨b',0,none⟩)))(hv'':VT E s=some v'')(hl:LdV P I loc tt b v)(hl':LdV P I loc tt' b' v')
  (h:∀ w,St g I H loc w→R (.returned (.tuple #[v,v',v''])) w):At ⟨P,r,N,[],g,H⟩ (bodyPost P fn R) .ret E I loc:=fun a w ha hw=>
 ⟨ha.defers,.tuple #[v,v',v''],by
  have e1:=ha.env _ _ hv;have e2:=ha.env _ _ hv';have e3:=ha.env _ _ hv'';rw [Array.getD_eq_getD_getElem?] at e1 e2 e3;have l1:=hl _ _ _ hw;have l2:=hl' _ _ _ hw;simp only [results,hr]
  simp [List.mapM_cons,e1,e2,e3,asAddr,l1,l2],h w hw⟩
end
end
end Go.Kn
namespace Go.Proofs.YtjblkbkmblkgoaaGreat
section
open Go Go.Kn Go.Proofs
theorem zuQ:Fun Tryz.prog 178:=.of Tryz.func178 kA kA
theorem zbP:PlT Tryz.prog 99 #[(0,1),(1,1),(2,1)] (.agg #[(.int .i64 0),(.int .i64 0),(.slice none 0 0)]):=⟨.of kA,kA,fun w=>kA⟩
variable{I:Qu}{qa aa:Option Addr}{qn qc an ac:Nat}{ks:List (Int×Int)}
theorem Wl {qs:List Pk}(hQ:Sl I 3 Q6 qa qn qc qs)(hqn:qn≤100000)(hA:Sl I 2 VI aa an ac ks)(han:an≤100000)(i:Int):YE Tryz.prog 113 [.agg #[.slice qa qn qc,.slice aa an ac],.int .i64 i] I [] (fun v I' L'=>∃ pk a m c a2 m2 c2,v= .tuple #[KW pk,.agg #[.slice a m c,.slice a2 m2 c2],.int .i64 (atE qs ks i)]∧L'=[]∧(atE qs ks i=0→pk=VN qs ks i)∧zdC I' (atE qs ks i) a m c a2 m2 c2 (qs.eraseIdx i.toNat) aa an ac):=by
 intro g H w hw;refine qe Tryz.func113 Tryz.ntmps113 hw ?_;have hIc:=zB6 I;refine zR<|QK rfl rfl rfl (fun b_2=>Qp XM rfl rfl (fun b_4=>Qp JC rfl rfl (fun b_5=>?_)))
 refine zA (zN (Qm (zR<|zV (Qg rfl Zl (fun hg=>by exact Cells.g2) rfl)<|zM ?_)));refine qcV (vs:=[_,_]) rfl zgE (zz0 hQ hqn hA han i)<|zM ?_
 refine zE<|zE ?_
 refine zh VE<|zA<|zN (zR ?_)
 refine zM<|zC (zN ?_)
 refine zI ?_ ?_<;>intro hc14
 ·
  have he:atE qs ks i≠0:=(by simpa using hc14);refine Qm ?_;have hD:=zB6 I;refine Zn<|QJ I [(b_5,.cells #[.slice none 0 0,.slice none 0 0] 26 (0,0)),(b_4,.cells (Q6 (atP qs ks i)).toArray 99 (0,0))] mixed<|zT 0 rfl (Qg rfl YO (fun hg=>by exact Cells.g1) rfl) hD<|zT 1 rfl (Qg rfl Zl (fun hg=>by exact Cells.g0) rfl) hD<|zT 2 rfl (Qe rfl) hD<|qd 3 rfl ?_
  refine zh VE ?_;refine Qb<|zD hD<|qd 4 rfl ?_
  refine zh ZO ?_;exact Qb<|zD hD<|zT 5 rfl (QB rfl) hD<|Qn kA<|Qv<|Qd (Qs (Qf<|Ut rfl rfl rfl rfl (.ag YO (.there .here) rfl) (.ag Zl .here rfl) (fun w hw=>⟨_,I,[],rfl,hIc,hw.drop.drop.drop,_,_,_,_,_,_,_,rfl,rfl,fun h=>absurd h he,KK he⟩)))
 have he:atE qs ks i=0:=(by simpa using hc14);have hr:0≤i∧i<(qn:Int):=(by have h:=WL he;rw [hQ.len] at h;exact h);refine Qr (Qd (Qm (Qm ?_)));have hD:=zB6 I;refine Zn<|QJ I [(b_4,.cells (Q6 (atP qs ks i)).toArray 99 (0,0)),(b_2,.cells #[.slice qa qn qc,.slice aa an ac] 26 (0,0))] mixed<|zT 0 rfl (Qa rfl Yx) hD<|zT 1 rfl (Qc rfl Jj (fun hg=>by exact Qy.h1 rfl)) hD<|zT 2 rfl (Qa rfl Jw) hD<|zT 3 rfl (Qc rfl Ql (fun hg=>by exact Qy.h0 rfl)) hD<|zT 4 rfl (Qa rfl VO) hD<|zT 5 rfl (Qc rfl Ql (fun hg=>by exact Qy.h0 rfl)) hD<|qd 6 rfl<|qcV (vs:=[_,_]) rfl zkS (ze5 _ _ _)<|Qb<|zD hD ?_
 refine qd 7 rfl<|qcV (vs:=[_,_]) rfl zuQ (zAj hA han (_,_))<|Qb<|zD hD<|Qn kA<|Qv<|Qd ?_
 refine zI ?_ ?_<;>intro hc25
 focus
  have hcut:zjC ks (atP qs ks i)=true:=hc25;refine Qh<|zV (QD (ps:=[]) [_,_,_] zbP rfl rfl) ?_
  refine zh VE<|zN (Qm ?_)
  refine zaD (loc':=[(b_5,.cells #[.slice none 0 0,.slice none 0 0] 26 (0,0)),(b_4,.cells (Q6 (VN qs ks i)).toArray 99 (0,0)),(b_2,.cells #[.slice qa qn qc,.slice aa an ac] 26 (0,0))]) (by (rw [ziO hcut];rfl)) ?_
 rotate_left
 have hcut:zjC ks (atP qs ks i)=false:=hc25;refine Qr (Qd (Qm ?_));refine zaD (loc':=[(b_5,.cells #[.slice none 0 0,.slice none 0 0] 26 (0,0)),(b_4,.cells (Q6 (VN qs ks i)).toArray 99 (0,0)),(b_2,.cells #[.slice qa qn qc,.slice aa an ac] 26 (0,0))]) (by (rw [zkP hcut]<;>rfl)) ?_
 all_goals
  have hD:=zB6 I;refine Zn<|QJ I [(b_4,.cells (Q6 (VN qs ks i)).toArray 99 (0,0)),(b_2,.cells #[.slice qa qn qc,.slice aa an ac] 26 (0,0))] mixed<|zT 0 rfl (Qg rfl YO (fun hg=>by exact Cells.g0) rfl) hD<|zT 1 rfl (Qg rfl Zl (fun hg=>by exact Cells.g1) rfl) hD<|zT 2 rfl (Qe rfl) hD<|qd 3 rfl<|zpc [_,_] rfl zgU .nil (zbQ hQ hqn hA han hr) ?_
  rintro vv2 I2 L2 hI2 ⟨a4,m4,c4,rfl,hm4,hZ,rfl⟩;have hIc:=hIc.trans hI2;have hD:=hD.trans hI2;refine Qb<|zD hD<|qd 4 rfl ?_
  refine zh VE ?_;refine Qb<|zD hD<|qd 5 rfl ?_
  refine zh ZO ?_;refine Qb<|zD hD<|zT 6 rfl (QB rfl) hD<|Qn kA<|Qv<|Qd (Qs ?_)
  first
  | exact Ut rfl rfl rfl rfl (.ag YO (.there .here) rfl) (.ag Zl .here rfl) (fun w hw=>⟨_,I2,[],rfl,hIc,hw.drop.drop.drop,_,_,_,_,_,_,_,by rw [he]<;>rfl,rfl,fun _=>rfl,Wc he hZ⟩)
theorem Yt:QM Tryz.prog 108 0 0:=.of kA
theorem Zp:QM Tryz.prog 28 0 0:=.of kA
theorem KF:Fun Tryz.prog 107:=.of Tryz.func107 kA kA
theorem Z6:ScT Tryz.prog 22:=.of kA
theorem Z4:SlT Tryz.prog 22 59 1:=.of kA
theorem Wp (I:Qu)(b:Bool)(e:Int):Ui Tryz.prog 107 [.bool b,.int .i64 e] I [] (fun v I' L'=>v= .tuple #[]∧I'=I∧L'=[]∧b=true) (fun v=>v= .iface 50 (.int .i64 e)∧b=false):=by
 intro g H w hw;refine qe Tryz.func107 Tryz.ntmps107 hw ?_;have hIc:=zB6 I;refine zR (zM<|zO (zN ?_));refine zI ?_ ?_<;>intro hc5
 ·
  refine Qh (zM<|zV (zc7 rfl kA)<|zgb rfl ?_)
  repeat (first | apply UD | apply KD)
  exact zct hIc ⟨rfl,by simpa using hc5⟩
 exact Qr<|YX (Yu rfl (fun w hw=>.inl ⟨_,I,[],rfl,hIc,hw.drop,rfl,rfl,rfl,by simpa using hc5⟩))
variable{bc pn pc:Nat}{pa:Option Addr}
theorem zgG (i:Int):Ui Tryz.prog 106 [ZI bc,.int .i64 i] I [(bc,.cells #[.slice pa pn pc,.slice qa qn qc,.slice aa an ac] 108 (0,0))] (fun v I' L'=>v= .tuple #[]∧I'=I∧L'=[(bc,.cells #[.slice pa pn pc,.slice qa qn qc,.slice aa an ac] 108 (0,0))]∧0≤i∧i<(pn:Int)) (fun v=>v= .iface 50 (.int .i64 1)∧¬(0≤i∧i<(pn:Int))):=by
 intro g H w hw;refine qe Tryz.func106 Tryz.ntmps106 hw ?_;have hIc:=zB6 I;refine Qh (zM<|zC ?_);refine zM<|Qt 2 rfl rfl rfl ?_
 refine zK (Qe rfl) ?_;refine zK (Qe rfl)<|zK (QC rfl)<|zK (Qa rfl Yt)<|zK (Qa rfl Zp) ?_
 refine zK (Qc rfl Z6 (fun hg=>by exact Qy.h0 rfl)) ?_;refine zK (QT rfl Z4) ?_;refine zK (QA rfl rfl rfl) ?_;refine QE rfl rfl rfl rfl rfl ?_;refine zx5 [_,_] rfl KF .nil (Wp I (decide (i≥0)&&decide (i<(pn:Int))) 1) ?_ (fun pv hpv=>by refine zx6 ?_;exact (⟨hpv.1,by have h:=hpv.2;simp at h;omega⟩));rintro vv1 I1 L1 hI1 ⟨rfl,rfl,rfl,hok⟩;have hIc:=hIc.trans hI1;have hok2:0≤i∧i<(pn:Int):=(by simpa using hok);exact Qb<|YX (Yu rfl (fun w hw=>.inl ⟨_,I1,_,rfl,hIc,hw,rfl,rfl,rfl,hok2.1,hok2.2⟩))
theorem ZH:QM Tryz.prog 28 1 1:=.of kA
theorem WK:QM Tryz.prog 47 3 3:=.of kA
theorem zmp:Fun Tryz.prog 114:=.of Tryz.func114 kA kA
theorem znb:Fun Tryz.prog 115:=.of Tryz.func115 kA kA
theorem zy5 {qs:List Pk}(hQ:Sl I 3 Q6 qa qn qc qs)(hqn:qn≤100000)(hA:Sl I 2 VI aa an ac ks)(han:an≤100000)(x:Ev):Ui Tryz.prog 49 [ZI bc,.agg (U3 x).toArray] I [(bc,.cells #[.slice pa pn pc,.slice qa qn qc,.slice aa an ac] 108 (0,0))] (fun v I' L'=>v= .tuple #[]∧atE qs ks x.at_=0∧∃ a m c,L'=[(bc,.cells #[.slice pa pn pc,.slice a m c,.slice aa an ac] 108 (0,0))]∧Sl I' 3 Q6 a m c (qs.eraseIdx x.at_.toNat)) (fun v=>v= .iface 50 (.int .i64 (atE qs ks x.at_))∧atE qs ks x.at_≠0):=by
 intro g H w hw;refine qe Tryz.func49 Tryz.ntmps49 hw ?_;have hIc:=zB6 I;refine zR<|QK rfl rfl rfl (fun b_3=>Qb<|QF .here (fun I1 hI1 hb1=>?_))
 have hQ:=hQ.mono hI1;have hA:=hA.mono hI1;have hIc:=hIc.trans hI1;have h3:=BxI.of hb1;refine Qd (Qm ?_);have hD:=zB6 I1;refine QJ I1 [(bc,.cells #[.slice pa pn pc,.slice qa qn qc,.slice aa an ac] 108 (0,0))] mixed<|zT 0 rfl (Qe rfl) hD<|zT 1 rfl (QC rfl) hD<|zT 2 rfl (Qa rfl Yt) hD<|zT 3 rfl (Qa rfl ZH) hD<|zT 4 rfl (Qg rfl Zl (fun hg=>by exact Cells.s0 (vs:=[_,_]) rfl) rfl) hD<|zT 5 rfl (Qa rfl WK) hD<|zT 6 rfl (Qc rfl Ql (fun hg=>by exact Qy.imm h3.out rfl)) hD ?_
 refine QU 7 11 rfl rfl kA ?_ ?_
 focus
  refine zpc [_,_] rfl zmp .nil (zrR hQ hqn hA han x.at_) ?_;rintro vv2 I4 L2 hI2 ⟨a4,m4,c4,a5,m5,c5,rfl,rfl,hZ⟩;have hIc:=hIc.trans hI2;have hD:=hD.trans hI2;refine Qb<|zD hD<|zT 8 rfl (Qe rfl) hD<|zT 9 rfl (QS rfl rfl) hD<|zT 10 rfl (QS rfl rfl) hD<|qd 11 rfl<|Qp JC rfl rfl (fun b_4=>Qb<|zD hD ?_)
 rotate_left
 refine Qp JC rfl rfl (fun b_4=>Qb<|zD hD<|qd 7 rfl<|zpc [_,_] rfl zmp .nil (zrR hQ hqn hA han x.at_) ?_);rintro vv4 I4 L4 hI4 ⟨a4,m4,c4,a5,m5,c5,rfl,rfl,hZ⟩;have hIc:=hIc.trans hI4;have hD:=hD.trans hI4;refine Qb<|zD hD<|zT 8 rfl (Qe rfl) hD<|zT 9 rfl (QS rfl rfl) hD<|zT 10 rfl (QS rfl rfl) hD ?_
 all_goals
  refine qd 12 rfl ?_;refine zh ZO ?_;refine Qb<|zD hD<|zT 13 rfl (QB rfl) hD<|Qn kA<|Qd (zR (zM<|zC ?_))
  refine zM ?_;refine zx5 [_,_] rfl KF .nil (Wp I4 (atE qs ks x.at_==0) (atE qs ks x.at_)) ?_ (fun pv hpv=>by refine zx6 ?_;exact (⟨hpv.1,by simpa using hpv.2⟩));rintro vv5 I5 L5 hI5 ⟨rfl,rfl,rfl,hok⟩;have hZ:=hZ.mono hI5;have hIc:=hIc.trans hI5;have he:atE qs ks x.at_=0:=(by simpa using hok);obtain ⟨rfl,rfl,rfl,hS9⟩:=hZ.ok he;refine zN (Qh (zM ?_));refine zV (Qg rfl Zl (fun hg=>by exact Cells.g0) rfl)<|zV (QC rfl) ?_
  refine zF Yt<|zF ZH ?_
  refine Z0 rfl rfl ZO rfl rfl rfl rfl (by repeat (first | exact Upd.here | apply Upd.there | apply ZD))<|Qb ?_
  exact YX (Yu rfl (fun w hw=>.inl ⟨_,I5,_,rfl,hIc,by exact hw.subL kO,rfl,he,_,_,_,rfl,hS9⟩))
theorem zpr {qs:List Pk}(hQ:Sl I 3 Q6 qa qn qc qs)(hqn:qn≤100000)(hA:Sl I 2 VI aa an ac ks)(han:an≤100000)(x:Ev):Ui Tryz.prog 50 [ZI bc,.agg (U3 x).toArray] I [(bc,.cells #[.slice pa pn pc,.slice qa qn qc,.slice aa an ac] 108 (0,0))] (fun v I' L'=>v= .tuple #[]∧UE qs ks x.at_=0∧∃ a m c,L'=[(bc,.cells #[.slice pa pn pc,.slice a m c,.slice aa an ac] 108 (0,0))]∧Sl I' 3 Q6 a m c (qs++[atP qs ks x.at_])) (fun v=>v= .iface 50 (.int .i64 (UE qs ks x.at_))∧UE qs ks x.at_≠0):=by
 intro g H w hw;refine qe Tryz.func50 Tryz.ntmps50 hw ?_;have hIc:=zB6 I;refine zR<|QK rfl rfl rfl (fun b_3=>Qb<|QF .here (fun I1 hI1 hb1=>?_))
 have hQ:=hQ.mono hI1;have hA:=hA.mono hI1;have hIc:=hIc.trans hI1;have h3:=BxI.of hb1;refine Qd (Qm ?_);have hD:=zB6 I1;refine QJ I1 [(bc,.cells #[.slice pa pn pc,.slice qa qn qc,.slice aa an ac] 108 (0,0))] mixed<|zT 0 rfl (Qe rfl) hD<|zT 1 rfl (QC rfl) hD<|zT 2 rfl (Qa rfl Yt) hD<|zT 3 rfl (Qa rfl ZH) hD<|zT 4 rfl (Qg rfl Zl (fun hg=>by exact Cells.s0 (vs:=[_,_]) rfl) rfl) hD<|zT 5 rfl (Qa rfl WK) hD<|zT 6 rfl (Qc rfl Ql (fun hg=>by exact Qy.imm h3.out rfl)) hD ?_
 refine QU 7 11 rfl rfl kA ?_ ?_
 focus
  refine zpc [_,_] rfl znb .nil (zhS hQ hqn hA han x.at_) ?_;rintro vv2 I4 L2 hI2 ⟨a4,m4,c4,a5,m5,c5,rfl,rfl,hZ⟩;have hIc:=hIc.trans hI2;have hD:=hD.trans hI2;refine Qb<|zD hD<|zT 8 rfl (Qe rfl) hD<|zT 9 rfl (QS rfl rfl) hD<|zT 10 rfl (QS rfl rfl) hD<|qd 11 rfl<|Qp JC rfl rfl (fun b_4=>Qb<|zD hD ?_)
 rotate_left
 refine Qp JC rfl rfl (fun b_4=>Qb<|zD hD<|qd 7 rfl<|zpc [_,_] rfl znb .nil (zhS hQ hqn hA han x.at_) ?_);rintro vv4 I4 L4 hI4 ⟨a4,m4,c4,a5,m5,c5,rfl,rfl,hZ⟩;have hIc:=hIc.trans hI4;have hD:=hD.trans hI4;refine Qb<|zD hD<|zT 8 rfl (Qe rfl) hD<|zT 9 rfl (QS rfl rfl) hD<|zT 10 rfl (QS rfl rfl) hD ?_
 all_goals
  refine qd 12 rfl ?_;refine zh ZO ?_;refine Qb<|zD hD<|zT 13 rfl (QB rfl) hD<|Qn kA<|Qd (zR (zM<|zC ?_))
  refine zM ?_;refine zx5 [_,_] rfl KF .nil (Wp I4 (UE qs ks x.at_==0) (UE qs ks x.at_)) ?_ (fun pv hpv=>by refine zx6 ?_;exact (⟨hpv.1,by simpa using hpv.2⟩));rintro vv5 I5 L5 hI5 ⟨rfl,rfl,rfl,hok⟩;have hZ:=hZ.mono hI5;have hIc:=hIc.trans hI5;have he:UE qs ks x.at_=0:=(by simpa using hok);obtain ⟨rfl,rfl,rfl,hS9⟩:=hZ.ok he;refine zN (Qh (zM ?_));refine zV (Qg rfl Zl (fun hg=>by exact Cells.g0) rfl)<|zV (QC rfl) ?_
  refine zF Yt<|zF ZH ?_
  refine Z0 rfl rfl ZO rfl rfl rfl rfl (by repeat (first | exact Upd.here | apply Upd.there | apply ZD))<|Qb ?_
  exact YX (Yu rfl (fun w hw=>.inl ⟨_,I5,_,rfl,hIc,by exact hw.subL kO,rfl,he,_,_,_,rfl,hS9⟩))
def Uv (f:Nat→Int)(a:Option Addr)(n c:Nat)(needs:List Int)(name town:ByteArray):Nt:=
 ⟨f 0,⟨f 1,f 2,f 3,f 4,f 5,f 6,f 7,f 8,f 9⟩,⟨f 10,f 11,f 12,f 13,⟨f 14,f 15,f 16,f 17,f 18,f 19,f 20,f 21,f 22,f 23,f 24,f 25,f 26,f 27⟩,a,n,c,needs⟩,⟨f 28,f 29,f 30,f 31,f 32⟩,⟨f 33,f 34,f 35,f 36,f 37,f 38,name,town,f 39,f 40,f 41⟩⟩
def zdf (hs:List Vc)(k j:Nat):Int:=if j<k then (hs.getD j Um).n else 0
def zoy (hs:List Vc)(k:Nat):Nt:=Uv (zdf hs k) none 0 0 [] ⟨#[]⟩ ⟨#[]⟩
theorem zuT:∀ k,k<42→(zkr.getD k 0).blt 45=true:=by decide
theorem JZ (hs:List Vc):∀ k,k<42→(Zf (zoy hs k)).toArray.setIfInBounds (zkr.getD k 0) (.int .i64 (hs.getD k Um).n)=(Zf (zoy hs (k+1))).toArray
 | 0,_=>kA
 | 1,_=>kA
 | 2,_=>kA
 | 3,_=>kA
 | 4,_=>kA
 | 5,_=>kA
 | 6,_=>kA
 | 7,_=>kA
 | 8,_=>kA
 | 9,_=>kA
 | 10,_=>kA
 | 11,_=>kA
 | 12,_=>kA
 | 13,_=>kA
 | 14,_=>kA
 | 15,_=>kA
 | 16,_=>kA
 | 17,_=>kA
 | 18,_=>kA
 | 19,_=>kA
 | 20,_=>kA
 | 21,_=>kA
 | 22,_=>kA
 | 23,_=>kA
 | 24,_=>kA
 | 25,_=>kA
 | 26,_=>kA
 | 27,_=>kA
 | 28,_=>kA
 | 29,_=>kA
 | 30,_=>kA
 | 31,_=>kA
 | 32,_=>kA
 | 33,_=>kA
 | 34,_=>kA
 | 35,_=>kA
 | 36,_=>kA
 | 37,_=>kA
 | 38,_=>kA
 | 39,_=>kA
 | 40,_=>kA
 | 41,_=>kA
 | k+42,h=>absurd h kB
def isI:Va→Bool
 | .int _=>true
 | _=>false
def zjb:Va→Int
 | .int n=>n
 | _=>0
def zar:Va→Option Nt
 | .list l=>if l.length=45∧(l.take 42).all isI=true then match l.drop 42 with
   | [.list q,.text a,.text b]=>if q.all isI=true then some (Uv (fun j=>zjb (l.getD j (.int 0))) none q.length 0 (q.map zjb) (UY a) (UY b)) else none
   | _=>none
  else none
 | _=>none
def YF (x:Nt):Nt:={x with pt:={x.pt with a:=none,n:=x.pt.needs.length,c:=0}}
def okN (bs:List Nat):Option Nt:=(zad bs).bind fun v=>(zar v).bind fun y=>if QN y=true then some y else none
variable{x:Nt}
theorem KB (h:x.pt.n=x.pt.needs.length):QN (YF x)=QN x:=by
 obtain ⟨k,lm,⟨i,kd,s,fd,nw,a,n,c,nd⟩,ls,rt⟩:=x;simp only at h;subst h;rfl
theorem zjc (xs:List Int):(xs.map Va.int).all isI=true:=by
 induction xs with
 | nil=>rfl
 | cons a l ih=>simp [isI,ih]
theorem zqY (xs:List Int):(xs.map Va.int).map zjb=xs:=by
 induction xs with
 | nil=>rfl
 | cons a l ih=>simp only [List.map_cons,zjb,ih]
theorem zgw (x:Nt):zar (KQ x)=some (YF x):=by
 unfold KQ zar;have h1:((Y9 x).map Va.int++[Va.list (x.pt.needs.map .int),.text (Ur x.rt.name),.text (Ur x.rt.town)]).length=45:=(by simp [Y8]);have h2:((Y9 x).map Va.int++[Va.list (x.pt.needs.map .int),.text (Ur x.rt.name),.text (Ur x.rt.town)]).take 42=(Y9 x).map Va.int:=List.take_left' (by rw [List.length_map,Y8]);have h3:((Y9 x).map Va.int++[Va.list (x.pt.needs.map .int),.text (Ur x.rt.name),.text (Ur x.rt.town)]).drop 42=[Va.list (x.pt.needs.map .int),.text (Ur x.rt.name),.text (Ur x.rt.town)]:=List.drop_left' (by rw [List.length_map,Y8]);simp only [h2,h3];rw [if_pos ⟨h1,zjc _⟩,if_pos (zjc _),zqY,XV,XV,List.length_map];congr 1
def zwp (I:Qu)(bs:List Nat)(cv:Vc)(e:Int):Prop:=(e=0∧∃ x,zad bs=some x∧VaR I x cv)∨(e=10∧zad bs=none∧cv=Um)
variable{I':Qu}{bs:List Nat}{cv:Vc}{e:Int}
theorem zwp.mono (h:zwp I bs cv e)(hI:HLe I I'):zwp I' bs cv e:=h.imp (fun ⟨h1,x,h2,h3⟩=>⟨h1,x,h2,h3.mono hI⟩) id
variable{v:Value}{L':Go.Kn.Loc}
theorem zdr (h:zkb bs v I' L'):L'=[]∧∃ cv e,v= .tuple #[.agg (Zg cv).toArray,.int .i64 e]∧zwp I' bs cv e:=by
 obtain ⟨h1,h2⟩:=h;refine ⟨h1,?_⟩
 cases hd:zad bs with
 | none=>rw [hd] at h2;exact ⟨Um,10,h2,.inr ⟨rfl,hd,rfl⟩⟩
 | some x=>rw [hd] at h2;obtain ⟨cv,e1,e2⟩:=h2;exact ⟨cv,0,e1,.inl ⟨rfl,x,hd,e2⟩⟩
structure RdP (I:Qu)(bs:List Nat)(cv:Vc)(l:List Va)(hs:List Vc):Prop where
 dec:zad bs=some (.list l)
 sl:Sl I 4 Zg cv.a cv.m cv.c hs
 m:cv.m=45
 len:l.length=45
 rel:∀ (k:Nat) (x:Va) (y:Vc),l[k]? =some x→hs[k]? =some y→VaR I x y
variable{l:List Va}{hs:List Vc}
theorem RdP.mono (h:RdP I bs cv l hs)(hI:HLe I I'):RdP I' bs cv l hs:=⟨h.dec,h.sl.mono hI,h.m,h.len,fun k x y hx hy=>(h.rel k x y hx hy).mono hI⟩
theorem RdP.hlen (h:RdP I bs cv l hs):hs.length=45:=by rw [h.sl.len,h.m]
theorem zao {x:Va}{y:Vc}(h:VaR I x y):isI x=(y.k==1):=by cases h<;>rfl
theorem zdL {x:Va}{y:Vc}(h:VaR I x y)(hk:isI x=true):zjb x=y.n:=by cases h<;>first | rfl | cases hk
theorem zdj (h:¬(l.length=45∧(l.take 42).all isI=true)):zar (.list l)=none:=by
 unfold zar;simp only [if_neg h]
theorem zbn (h:zad bs=some (.list l))(hr:zar (.list l)=none):okN bs=none:=by unfold okN;rw [h,Option.bind_some,hr];rfl
theorem zsw (h:zwp I bs cv e)(hc:((e != 0||cv.k != 3)||(cv.m:Int) != 45)=true):okN bs=none:=by
 rcases h with ⟨he,x,hd,hx⟩ | ⟨he,hd,hz⟩
 ·
  subst he
  cases hx with
  | int n=>unfold okN;rw [hd];rfl
  | text s=>unfold okN;rw [hd];rfl
  | list hS hl hr=>
   rename_i l hs a m c;refine zbn hd ?_;have hm:=hS.len
   have:¬(l.length=45):=fun e45=>by
    rw [hl,hm] at e45;simp [e45] at hc
   exact zdj (fun h2=>this h2.1)
 ·
  unfold okN;rw [hd];rfl
theorem zoS (h:zwp I bs cv e)(hc:((e != 0||cv.k != 3)||(cv.m:Int) != 45)=false):∃ l hs,RdP I bs cv l hs:=by
 simp only [Bool.or_eq_false_iff,bne_eq_false_iff_eq] at hc;obtain ⟨⟨he,hk⟩,hm⟩:=hc;rcases h with ⟨_,x,hd,hx⟩ | ⟨he2,_,_⟩
 ·
  cases hx with
  | int n=>simp at hk
  | text s=>simp at hk
  | list hS hl hr=>
   rename_i l hs a m c;have hm2:(m:Int)=45:=hm;have hm3:m=45:=kB;exact ⟨l,hs,hd,hS,hm3,by rw [hl,hS.len];exact hm3,hr⟩
 ·
  omega
variable{k:Nat}
theorem zsh (h:RdP I bs cv l hs){y:Vc}(hk:k<42)(hy:hs[k]? =some y)(hne:(y.k != 1)=true):okN bs=none:=by
 refine zbn h.dec ?_;obtain ⟨x,hx⟩:∃ x,l[k]? =some x:=⟨_,List.getElem?_eq_getElem (by rw [h.len];omega)⟩;have hi:=zao (h.rel k x y hx hy);have hf:isI x=false:=(by rw [hi];simpa using hne);refine zdj ?_;rintro ⟨_,ha⟩;have hm:x∈l.take 42:=List.mem_iff_getElem?.2 ⟨k,by rw [List.getElem?_take,if_pos hk];exact hx⟩;have:=List.all_eq_true.1 ha x hm;rw [hf] at this;cases this
variable{a:Option Addr}{n c:Nat}{needs:List Int}
theorem zhz {f g:Nat→Int}(h:∀ j,j<42→f j=g j){name town:ByteArray}:Uv f a n c needs name town=Uv g a n c needs name town:=by
 unfold Uv;simp only [h 0 kC,h 1 kC,h 2 kC,h 3 kC,h 4 kC,h 5 kC,h 6 kC,h 7 kC,h 8 kC,h 9 kC,h 10 kC,h 11 kC,h 12 kC,h 13 kC,h 14 kC,h 15 kC,h 16 kC,h 17 kC,h 18 kC,h 19 kC,h 20 kC,h 21 kC,h 22 kC,h 23 kC,h 24 kC,h 25 kC,h 26 kC,h 27 kC,h 28 kC,h 29 kC,h 30 kC,h 31 kC,h 32 kC,h 33 kC,h 34 kC,h 35 kC,h 36 kC,h 37 kC,h 38 kC,h 39 kC,h 40 kC,h 41 kC]
theorem ztg (h:RdP I bs cv l hs)(hall:∀ j y,j<42→hs[j]? =some y→(y.k != 1)=false):(l.take 42).all isI=true:=by
 rw [List.all_eq_true];intro x hx;obtain ⟨j,hj⟩:=List.mem_iff_getElem?.1 hx;rw [List.getElem?_take] at hj;split at hj
 ·
  rename_i hlt;obtain ⟨y,hy⟩:∃ y,hs[j]? =some y:=⟨_,List.getElem?_eq_getElem (by rw [h.hlen];omega)⟩;rw [zao (h.rel j x y hj hy)];have:=hall j y hlt hy;simpa using this
 ·
  cases hj
theorem zw7 (h:l.length=45){x y z:Va}(hx:l[42]? =some x)(hy:l[43]? =some y)(hz:l[44]? =some z):l.drop 42=[x,y,z]:=by
 apply List.ext_getElem?;intro i;rw [List.getElem?_drop]
 match i with
 | 0=>exact hx
 | 1=>exact hy
 | 2=>exact hz
 | i+3=>rw [List.getElem?_eq_none kB];rfl
structure RtP (I:Qu)(bs:List Nat)(l:List Va)(hs:List Vc)(u v w:Vc)(q:List Va)(qs:List Vc):Prop where
 dec:zad bs=some (.list l)
 len:l.length=45
 ints:(l.take 42).all isI=true
 nums:∀ j,j<42→zjb (l.getD j (.int 0))=zdf hs 42 j
 drop:∃ a b,l.drop 42=[.list q,.text a,.text b]∧v.s=UY a∧w.s=UY b
 sl:Sl I 4 Zg u.a u.m u.c qs
 qlen:q.length=qs.length
 rel:∀ (k:Nat) (x:Va) (y:Vc),q[k]? =some x→qs[k]? =some y→VaR I x y
variable{u w:Vc}{q:List Va}{qs:List Vc}
theorem RtP.mono {v:Vc}(h:RtP I bs l hs u v w q qs)(hI:HLe I I'):RtP I' bs l hs u v w q qs:=⟨h.dec,h.len,h.ints,h.nums,h.drop,h.sl.mono hI,h.qlen,fun k x y hx hy=>(h.rel k x y hx hy).mono hI⟩
theorem ztI (h:RdP I bs cv l hs)(hall:∀ j y,j<42→hs[j]? =some y→(y.k != 1)=false):∀ j,j<42→zjb (l.getD j (.int 0))=zdf hs 42 j:=by
 intro j hj;obtain ⟨x,hx⟩:∃ x,l[j]? =some x:=⟨_,List.getElem?_eq_getElem (by rw [h.len];omega)⟩;obtain ⟨y,hy⟩:∃ y,hs[j]? =some y:=⟨_,List.getElem?_eq_getElem (by rw [h.hlen];omega)⟩;have hr:=h.rel j x y hx hy;have hi:isI x=true:=(by rw [zao hr];simpa using hall j y hj hy);unfold zdf;rw [if_pos hj,List.getD_eq_getElem?_getD,List.getD_eq_getElem?_getD,hx,hy];exact zdL hr hi
theorem zhC (h:RdP I bs cv l hs)(hall:∀ j y,j<42→hs[j]? =some y→(y.k != 1)=false){v:Vc}(hu:hs[42]? =some u)(hv:hs[43]? =some v)(hw:hs[44]? =some w):
  (((u.k != 3||v.k != 2)||w.k != 2)=true→okN bs=none)∧(((u.k != 3||v.k != 2)||w.k != 2)=false→∃ q qs,RtP I bs l hs u v w q qs):=by
 obtain ⟨x,hx⟩:∃ x,l[42]? =some x:=⟨_,List.getElem?_eq_getElem (by rw [h.len];omega)⟩;obtain ⟨y,hy⟩:∃ x,l[43]? =some x:=⟨_,List.getElem?_eq_getElem (by rw [h.len];omega)⟩;obtain ⟨z,hz⟩:∃ x,l[44]? =some x:=⟨_,List.getElem?_eq_getElem (by rw [h.len];omega)⟩;have hd:=zw7 h.len hx hy hz;have r1:=h.rel 42 x u hx hu;have r2:=h.rel 43 y v hy hv;have r3:=h.rel 44 z w hz hw;have hn:=ztI h hall;have hi:=ztg h hall
 have hno:(∀ q a b,[x,y,z]≠[.list q,.text a,.text b])→okN bs=none:=fun hne=>zbn h.dec (by
  unfold zar
  simp only [if_pos (show l.length=45∧(l.take 42).all isI=true from ⟨h.len,hi⟩),hd])
 cases r1 with
 | int n=>exact ⟨fun _=>hno kU,fun hc=>by simp at hc⟩
 | text s=>exact ⟨fun _=>hno kU,fun hc=>by simp at hc⟩
 | list hS hl hr=>
  cases r2 with
  | int n=>exact ⟨fun _=>hno kU,fun hc=>by simp at hc⟩
  | list hS2 hl2 hr2=>exact ⟨fun _=>hno kU,fun hc=>by simp at hc⟩
  | text s=>
   cases r3 with
   | int n=>exact ⟨fun _=>hno kU,fun hc=>by simp at hc⟩
   | list hS2 hl2 hr2=>exact ⟨fun _=>hno kU,fun hc=>by simp at hc⟩
   | text s2=>exact ⟨fun hc=>by simp at hc,fun _=>⟨_,_,h.dec,h.len,hi,hn,⟨s,s2,hd,rfl,rfl⟩,hS,hl,hr⟩⟩
theorem znP {v:Vc}(h:RtP I bs l hs u v w q qs){y:Vc}(hy:qs[k]? =some y)(hne:(y.k != 1)=true):okN bs=none:=by
 refine zbn h.dec ?_;obtain ⟨a,b,hd,_,_⟩:=h.drop;have hk:=(List.getElem?_eq_some_iff.1 hy).1;obtain ⟨x,hx⟩:∃ x,q[k]? =some x:=⟨_,List.getElem?_eq_getElem (by rw [h.qlen];exact hk)⟩;have hf:isI x=false:=by rw [zao (h.rel k x y hx hy)];simpa using hne
 have hq:¬(q.all isI=true):=fun e=>by
  have:=List.all_eq_true.1 e x (List.mem_of_getElem? hx);rw [hf] at this;cases this
 unfold zar;simp only [if_pos (show l.length=45∧(l.take 42).all isI=true from ⟨h.len,h.ints⟩),hd,if_neg hq]
theorem zuu {v:Vc}(h:RtP I bs l hs u v w q qs)(hall:∀ j y,j<qs.length→qs[j]? =some y→(y.k != 1)=false)(a:Option Addr)(c:Nat):
  zar (.list l)=some (YF (Uv (zdf hs 42) a qs.length c (qs.map (·.n)) v.s w.s)):=by
 obtain ⟨s,s2,hd,e1,e2⟩:=h.drop
 have hq:q.all isI=true:=by
  rw [List.all_eq_true];intro x hx;obtain ⟨j,hj⟩:=List.mem_iff_getElem?.1 hx;have hjl:=(List.getElem?_eq_some_iff.1 hj).1;obtain ⟨y,hy⟩:∃ y,qs[j]? =some y:=⟨_,List.getElem?_eq_getElem (by rw [←h.qlen];exact hjl)⟩;rw [zao (h.rel j x y hj hy)];simpa using hall j y (by rw [←h.qlen];exact hjl) hy
 have hm:q.map zjb=qs.map (·.n):=by
  apply List.ext_getElem?;intro j;rw [List.getElem?_map,List.getElem?_map]
  cases hx:q[j]? with
  | none=>rw [List.getElem?_eq_none (by rw [←h.qlen];exact List.getElem?_eq_none_iff.1 hx)];rfl
  | some x=>
   have hjl:=(List.getElem?_eq_some_iff.1 hx).1;obtain ⟨y,hy⟩:∃ y,qs[j]? =some y:=⟨_,List.getElem?_eq_getElem (by rw [←h.qlen];exact hjl)⟩;rw [hy];have hi:isI x=true:=List.all_eq_true.1 hq x (List.mem_of_getElem? hx);simp only [Option.map_some];rw [zdL (h.rel j x y hx hy) hi]
 unfold zar;simp only [if_pos (show l.length=45∧(l.take 42).all isI=true from ⟨h.len,h.ints⟩),hd,if_pos hq];rw [zhz h.nums,hm,e1,e2];simp [YF,Uv,h.qlen]
def fl2 (hs:List Vc)(v:Value):List Value:=(Zf (zoy hs 42)).set 28 v
theorem zs3 {v:Vc}(h:RtP I bs l hs u v w q qs)(hall:∀ j y,j<qs.length→qs[j]? =some y→(y.k != 1)=false)(hn:qs.length=n):
  okN bs=if QN (Uv (zdf hs 42) a n c (qs.map (·.n)) v.s w.s)=true then some (YF (Uv (zdf hs 42) a n c (qs.map (·.n)) v.s w.s)) else none:=by
 have h2:=zuu h hall a c;rw [hn] at h2;unfold okN;rw [h.dec,Option.bind_some,h2,Option.bind_some,KB (by simp [Uv,hn])]
def zwo (bs:List Nat)(I:Qu)(cs:List Value)(b:Bool):Prop:=(cs.length=45∧Y4 cs=true)∧((b=false∧okN bs=none)∨(b=true∧∃ x,cs=Zf x∧Nd I x.pt∧okN bs=some (YF x)))
variable{cs:List Value}
theorem zcg (hl:cs.length=45)(ha:Y4 cs=true)(h:okN bs=none):zwo bs I cs false:=⟨⟨hl,ha⟩,.inl ⟨rfl,h⟩⟩
theorem znm (h:okN bs=if QN x=true then some (YF x) else none)(hN:Nd I x.pt):zwo bs I (Zf x) (QN x):=by
 refine ⟨⟨rfl,rfl⟩,?_⟩
 cases hf:QN x with
 | false=>rw [hf] at h;exact .inl ⟨rfl,h⟩
 | true=>rw [hf] at h;exact .inr ⟨rfl,x,rfl,hN,h⟩
theorem ztd {v:Va}(hb:∀ c∈bs,c<256)(hl:bs.length<2^63)(h:zad bs=some v):(Va.enc v).length≤bs.length:=by
 unfold zad at h;split at h
 ·
  rename_i x e;cases h;have:=(zbo hb hl e).1;rw [this];simp
 ·
  cases h
theorem zse {v:Vc}(h:RtP I bs l hs u v w q qs)(hb:∀ c∈bs,c<256)(hl:bs.length<2^63):qs.length≤bs.length:=by
 have h1:=ztd hb hl h.dec;obtain ⟨a,b,hd,_,_⟩:=h.drop;have h2:Va.encL l=Va.encL (l.take 42)++Va.encL (l.drop 42):=(by rw [←Va.encL_append,List.take_append_drop]);have h3:=Va.encL_len q;have h4:=h.qlen;rw [hd] at h2;have h5:(Va.encL l).length≤(Va.enc (.list l)).length:=by simp [Va.enc];omega
 have h6:(Va.encL q).length≤(Va.encL l).length:=by
  rw [h2];simp only [Va.encL,Va.enc,List.length_append,List.length_cons];omega
 omega
theorem zwk {x:Va}(h:isI x=true):x= .int (zjb x):=by cases x<;>first | rfl | cases h
theorem zeT (h:q.all isI=true):(q.map zjb).map Va.int=q:=by
 induction q with
 | nil=>rfl
 | cons a l ih=>
  rw [List.all_cons,Bool.and_eq_true] at h;simp only [List.map_cons];rw [ih h.2,←zwk h.1]
theorem zgM (f:Nat→Int)(a:Option Addr)(n c:Nat)(needs:List Int)(name town:ByteArray):Y9 (Uv f a n c needs name town)=(List.range 42).map f:=rfl
theorem znd (hl:l.length=45)(h:(l.take 42).all isI=true):((List.range 42).map fun j=>zjb (l.getD j (.int 0))).map Va.int=l.take 42:=by
 rw [←zeT h];congr 1;apply List.ext_getElem?;intro j;rw [List.getElem?_map,List.getElem?_map,List.getElem?_take];by_cases hj:j<42
 ·
  rw [if_pos hj,List.getElem?_range hj,List.getElem?_eq_getElem kB,Option.map_some,Option.map_some,List.getD_eq_getElem?_getD,List.getElem?_eq_getElem kB];rfl
 ·
  rw [if_neg hj,List.getElem?_eq_none kV];rfl
variable{y:Nt}
theorem znv {v:Va}(hok:Va.ok v)(h:zar v=some y):KQ y=v:=by
 cases v with
 | int n=>cases h
 | text s=>cases h
 | list l=>
  unfold zar at h;simp only at h;split at h
  ·
   rename_i hc;split at h
   ·
    rename_i q a b hd;split at h
    ·
     rename_i hq;cases h;have hl:l=l.take 42++l.drop 42:=(List.take_append_drop ..).symm
     have hm:∀ x∈l,Va.ok x:=fun x hx=>by
      obtain ⟨k,hk⟩:=List.mem_iff_getElem?.1 hx;exact zaE hok.2 hk
     have ha:Va.ok (.text a):=hm _ (by rw [hl,hd];simp);have hb:Va.ok (.text b):=hm _ (by rw [hl,hd];simp);unfold KQ;rw [zgM,znd hc.1 hc.2];show Va.list (l.take 42++[.list ((q.map zjb).map .int),.text (Ur (UY a)),.text (Ur (UY b))])=_;rw [zeT hq,Jp ha.1,Jp hb.1,←hd,←hl]
    ·
     cases h
   ·
    cases h
  ·
   cases h
theorem zik (x:Nt):KQ (YF x)=KQ x:=rfl
theorem zei (hb:∀ c∈bs,c<256)(hl:bs.length<2^63)(h:okN bs=some y):V1 y=bs∧Va.ok (KQ y)∧QN y=true:=by
 unfold okN at h
 cases hd:zad bs with
 | none=>rw [hd] at h;cases h
 | some v=>
  rw [hd,Option.bind_some] at h
  cases hr:zar v with
  | none=>rw [hr] at h;cases h
  | some z=>
   rw [hr,Option.bind_some] at h;split at h
   ·
    rename_i hf;cases h;unfold zad at hd;split at hd
    ·
     rename_i x e;cases hd;obtain ⟨e1,_,e3⟩:=zbo hb hl e;have e4:=znv e3 hr;refine ⟨?_,by rw [e4];exact e3,hf⟩;unfold V1;rw [e4,e1,List.append_nil]
    ·
     cases hd
   ·
    cases h
theorem zqu (x:Nt):x.pt.needs.length≤(V1 x).length:=by
 unfold V1 KQ;have h1:=Va.encL_len (x.pt.needs.map Va.int);rw [List.length_map] at h1
 have h2:(Va.encL (x.pt.needs.map Va.int)).length≤(Va.enc (.list ((Y9 x).map .int++[.list (x.pt.needs.map .int),.text (Ur x.rt.name),.text (Ur x.rt.town)]))).length:=by
  simp only [Va.enc,Va.encL_append,Va.encL,List.length_append,List.length_cons];omega
 omega
theorem zdZ (hb:∀ c∈bs,c<256)(hn:bs.length≤100000)(h:okN bs=some (YF x))(hN:Nd I x.pt):NtM I x:=by
 obtain ⟨h1,h2,_⟩:=zei hb kB h;have e:V1 x=bs:=h1;have hl:=zqu x;have hN2:Sl I 1 Z5 x.pt.a x.pt.n x.pt.c x.pt.needs:=hN;have:=hN2.len;exact ⟨hN,by rw [e] at hl;omega,h2,by rw [e];omega⟩
theorem ztG:Fun Tryz.prog 128:=.of Tryz.func128 kA kA
theorem zyq:SzT Tryz.prog 37 1:=.of kA
variable{av:Option Addr}
set_option maxRecDepth 100000 in
theorem znL     (hS:Sl I 1 VY av n c bs) (hb:∀ x∈bs,x<256) (hn:n≤100000):YE Tryz.prog 62 [.slice av n c] I [] (fun v I' L'=>L'=[]∧∃ (cs:List Value) (b:Bool),v= .tuple #[.agg cs.toArray,.bool b]∧zwo bs I' cs b):=by
 intro g H w hw;refine qe Tryz.func62 Tryz.ntmps62 hw ?_;have hIc:=zB6 I;have hbl:=hS.len;refine zR<|Qp U2 rfl rfl (fun b_2=>?_)
 refine zA<|zN (zR ?_)
 refine zM<|zpc [_] rfl ztG .nil (zpe hS hb hn) ?_
 rintro vv1 I1 L1 hI1 hq0;have hIc:=hIc.trans hI1;obtain ⟨rfl,cv,e,rfl,hq⟩:=zdr hq0;refine zM ?_;refine zE<|zE<|Qp YG rfl rfl (fun b_4=>?_)
 refine zh Zx<|zA (Qb<|QF .here (fun I2 hI2 hb2=>?_))
 have hq:=hq.mono hI2;have hIc:=hIc.trans hI2;have h4:=BxI.of hb2;refine Qd (zR<|qcV (vs:=[_]) rfl zm6 (zji _ _)<|Qp zlg rfl rfl (fun b_6=>?_));refine zh zlJ ?_;refine Qb<|QF .here (fun I3 hI3 hb3=>?_)
 have hq:=hq.mono hI3;have h4:=h4.mono hI3;have hIc:=hIc.trans hI3;have h6:=BxI.of hb3;refine Qd (Qm (zR (zM<|zC ?_)));refine zM ?_;refine QI 2 rfl rfl rfl ?_;refine zJ (Qa rfl Zh)<|zJ (Qc rfl Ql (fun hg=>by exact Qy.imm h4.out rfl))<|zJ (QA rfl rfl rfl)<|Q9 rfl rfl rfl rfl rfl<|zM ?_
 refine QI 7 rfl rfl rfl ?_;refine zJ (Qa rfl QO)<|zJ (Qc rfl Zo (fun hg=>by exact Qy.imm h4.out rfl))<|zJ (QT rfl ZN)<|zJ (QA rfl rfl rfl)<|Q9 rfl rfl rfl rfl rfl ?_
 refine zN ?_;refine zI ?_ ?_<;>intro hc32
 ·
  have hno:=zsw hq hc32;refine zR<|zV (Qg rfl Zc (fun hg=>by exact zB5 .here) rfl) ?_
  exact zh Vk<|zA (zN (Qs (Qf<|Q2 rfl rfl rfl Zc zB4 rfl (fun w hw=>⟨_,I3,[],rfl,hIc,by repeat (first | exact hw.drop | exact hw.subL Qq | exact hw.drop.drop),rfl,_,_,rfl,zcg rfl rfl hno⟩))))
 obtain ⟨l,hs,hR⟩:=zoS hq hc32;have hm45:=hR.m;have hl45:=hR.hlen;refine Qr (Qd (Qm (zR<|zV (Qg rfl zmx (fun hg=>by exact BxI.cells (vs:=zvo b_2) h6) rfl)<|zM (zN (Qw ?_)))));refine zU [(2,_),(4,_),(34,_)] (fun T L0 mz E I' loc'=>∃ (k:Nat),mz=42-k∧E=(35,.int .i64 k)::T∧I3=I'∧[(b_2,.cells (Zf (zoy hs k)).toArray 45 (0,0))]=loc'∧k≤42∧(∀ j y,j<k→hs[j]? =some y→(y.k != 1)=false)) ?_ (h:=⟨0,rfl,rfl,rfl,rfl,Nat.zero_le _,fun j y h=>absurd h (Nat.not_lt_zero _)⟩);rintro mz E I' loc' ⟨k,rfl,rfl,rfl,rfl,hk,hall⟩;refine zR (zC (zN (Qm ?_)));refine zI ?_ ?_<;>intro hc36
 ·
  have hlt_k:k<42:=(by have h:=hc36;simp at h;omega);obtain ⟨y,hy⟩:∃ y,hs[k]? =some y:=⟨_,List.getElem?_eq_getElem kB⟩;have hgd:hs.getD k Um=y:=(by rw [List.getD_eq_getElem?_getD,hy];rfl);refine Qr (Qd (Qm (Qw (zR (zM<|zV (K1 rfl rfl zgK Wj (fun hg=>kB) (fun hg=>show (zvo b_2)[((k:Int)).toNat*1]? =some (.pointer (some ⟨b_2,zkr.getD k 0,none⟩)) by rw [Nat.mul_one,Int.toNat_natCast];exact zm8 kB))<|zA<|zA (zN (Qm (zR<|zF QO ?_))))))));refine zV (Qc rfl Zo (fun hg=>by exact Qy.imm h4.out rfl)) ?_;refine zM ?_;refine zV (QG rfl rfl ZN hR.sl (fun hg=>kB))<|zF Zh ?_
  refine zV (Qc rfl Ql (fun hg=>by exact zBZ hR.sl hy rfl))<|zC (zN ?_)
  refine zI ?_ ?_<;>intro hc45
  ·
   have hno:=zsh hR kB hy hc45;refine zR<|zV (Qg rfl Zc (fun hg=>by exact Cells.g0) rfl) ?_
   exact zh Vk<|zA (zN (Qs (Qf (Qi (Qf (Qf (Qi<|Qf<|Q2 rfl rfl rfl Zc zB4 rfl (fun w hw=>⟨_,I3,[],rfl,hIc,by repeat (first | exact hw.drop | exact hw.subL Qq | exact hw.drop.drop),rfl,_,_,rfl,zcg rfl rfl hno⟩))))))))
  refine Qr (Qd (Qh (zM<|zF QO ?_)));refine zV (Qc rfl Zo (fun hg=>by exact Qy.imm h4.out rfl)) ?_;refine zM ?_;refine zV (QG rfl rfl ZN hR.sl (fun hg=>kB))<|zF Y3 ?_
  refine zV (Qc rfl Ql (fun hg=>by exact zB8 hR.sl hy (j:=1) rfl))<|zV (QC rfl)<|Ks rfl rfl U5 rfl rfl Upd.u0 (zuT _ kB)<|Qb (Qk (Qd (Qh (zB<|zM (Qb ?_)))))
  exact Zr _ _ ⟨42-(k+1),kB,k+1,rfl,rfl,rfl,rfl,kB,Vo hy hall hc45⟩ (.cons rfl (.cons rfl (.cons rfl (.cons rfl .nil)))) (by (try rw [←JZ hs k kB,hgd]);repeat (first | exact .refl | exact QL | refine Q7 ?_ | refine .drop ?_ | refine QR ?_))
 have hge_k:42≤k:=(by have h:=hc36;simp at h;omega);obtain rfl:k=42:=kB;obtain ⟨u,hu⟩:∃ y,hs[42]? =some y:=⟨_,List.getElem?_eq_getElem kB⟩;obtain ⟨v3,hv⟩:∃ y,hs[43]? =some y:=⟨_,List.getElem?_eq_getElem kB⟩;obtain ⟨w4,hw4⟩:∃ y,hs[44]? =some y:=⟨_,List.getElem?_eq_getElem kB⟩;refine Zk (Qo (Qo (Qz (Qd ?_))));refine zY [(2,_)] (fun T L0 E I' loc'=>∃ (p9 p10 p11:Nat),E=(9,ZI p9)::(10,ZI p10)::(11,ZI p11)::T∧HLe I3 I'∧[(b_2,.cells (Zf (zoy hs 42)).toArray 45 (0,0))]=loc'∧BxI I' p9 (.cells (Zg u).toArray 158 (0,0))∧BxI I' p10 (.cells (Zg v3).toArray 158 (0,0))∧BxI I' p11 (.cells (Zg w4).toArray 158 (0,0))) ?_ ?_
 ·
  have hKc12:=zB6 I3;have hD:=zB6 I3;refine Zn<|QJ I3 [] mixed<|zT 0 rfl (Qa rfl QO) hD<|zT 1 rfl (Qc rfl Zo (fun hg=>by exact Qy.imm h4.out rfl)) hD<|zT 2 rfl (QG rfl rfl ZN hR.sl (fun hg=>kB)) hD<|zT 3 rfl (Qg rfl Zm (fun hg=>by exact zB7 hR.sl hu) rfl) hD<|zT 4 rfl (Qa rfl QO) hD<|zT 5 rfl (Qc rfl Zo (fun hg=>by exact Qy.imm h4.out rfl)) hD<|zT 6 rfl (QG rfl rfl ZN hR.sl (fun hg=>kB)) hD<|zT 7 rfl (Qg rfl Zm (fun hg=>by exact zB7 hR.sl hv) rfl) hD<|zT 8 rfl (Qa rfl QO) hD<|zT 9 rfl (Qc rfl Zo (fun hg=>by exact Qy.imm h4.out rfl)) hD ?_
  refine zT 10 rfl (QG rfl rfl ZN hR.sl (fun hg=>kB)) hD<|zT 11 rfl (Qg rfl Zm (fun hg=>by exact zB7 hR.sl hw4) rfl) hD ?_
  refine VD 12 13 14 rfl rfl rfl kA ?_ ?_ ?_
  ·
   refine Qp YG rfl rfl (fun b_9=>Qb<|zD hD ?_);refine QU 13 14 rfl rfl kA ?_ ?_
   focus
    refine Qp YG rfl rfl (fun b_10=>Qb<|zD hD<|qd 14 rfl<|Qp YG rfl rfl (fun b_11=>?_))
   rotate_left
   refine Qp YG rfl rfl (fun b_11=>Qb<|zD hD<|qd 13 rfl<|Qp YG rfl rfl (fun b_10=>?_))
   all_goals
    refine Qb<|zD hD<|qd 15 rfl ?_
    refine zh Zx ?_;refine QV (b:=b_9) (by repeat (first | exact Z1.here | apply Z1.there)) (fun I8 hI8 hb8=>?_);have hKc12:=hKc12.trans hI8;have hD:=hD.trans hI8;have h9:=BxI.of hb8;refine Qb<|zD hD<|qd 16 rfl ?_
    refine zh Zx ?_;refine QV (b:=b_10) (by repeat (first | exact Z1.here | apply Z1.there)) (fun I9 hI9 hb9=>?_);have h9:=h9.mono hI9;have hKc12:=hKc12.trans hI9;have hD:=hD.trans hI9;have h10:=BxI.of hb9;refine Qb<|zD hD<|qd 17 rfl ?_
    refine zh Zx ?_;refine QV (b:=b_11) (by repeat (first | exact Z1.here | apply Z1.there)) (fun I10 hI10 hb10=>?_);have h9:=h9.mono hI10;have h10:=h10.mono hI10;have hKc12:=hKc12.trans hI10;have hD:=hD.trans hI10;have h11:=BxI.of hb10;refine Qb<|zD hD<|Qn kA<|Qv ?_
    exact Zr _ _ ⟨_,_,_,rfl,hKc12,rfl,h9,h10,h11⟩ (.cons rfl (.cons rfl (.cons rfl (.cons rfl .nil)))) (by (try rw [←JZ hs k kB,hgd]);repeat (first | exact .refl | exact QL | refine Q7 ?_ | refine .drop ?_ | refine QR ?_))
  ·
   refine Qp YG rfl rfl (fun b_10=>Qb<|zD hD ?_);refine QU 12 14 rfl rfl kA ?_ ?_
   focus
    refine Qp YG rfl rfl (fun b_9=>Qb<|zD hD<|qd 14 rfl<|Qp YG rfl rfl (fun b_11=>?_))
   rotate_left
   refine Qp YG rfl rfl (fun b_11=>Qb<|zD hD<|qd 12 rfl<|Qp YG rfl rfl (fun b_9=>?_))
   all_goals
    refine Qb<|zD hD<|qd 15 rfl ?_
    refine zh Zx ?_;refine QV (b:=b_9) (by repeat (first | exact Z1.here | apply Z1.there)) (fun I14 hI14 hb14=>?_);have hKc12:=hKc12.trans hI14;have hD:=hD.trans hI14;have h9:=BxI.of hb14;refine Qb<|zD hD<|qd 16 rfl ?_
    refine zh Zx ?_;refine QV (b:=b_10) (by repeat (first | exact Z1.here | apply Z1.there)) (fun I15 hI15 hb15=>?_);have h9:=h9.mono hI15;have hKc12:=hKc12.trans hI15;have hD:=hD.trans hI15;have h10:=BxI.of hb15;refine Qb<|zD hD<|qd 17 rfl ?_
    refine zh Zx ?_;refine QV (b:=b_11) (by repeat (first | exact Z1.here | apply Z1.there)) (fun I16 hI16 hb16=>?_);have h9:=h9.mono hI16;have h10:=h10.mono hI16;have hKc12:=hKc12.trans hI16;have hD:=hD.trans hI16;have h11:=BxI.of hb16;refine Qb<|zD hD<|Qn kA<|Qv ?_
    exact Zr _ _ ⟨_,_,_,rfl,hKc12,rfl,h9,h10,h11⟩ (.cons rfl (.cons rfl (.cons rfl (.cons rfl .nil)))) (by (try rw [←JZ hs k kB,hgd]);repeat (first | exact .refl | exact QL | refine Q7 ?_ | refine .drop ?_ | refine QR ?_))
  refine Qp YG rfl rfl (fun b_11=>Qb<|zD hD ?_);refine QU 12 13 rfl rfl kA ?_ ?_
  focus
   refine Qp YG rfl rfl (fun b_9=>Qb<|zD hD<|qd 13 rfl<|Qp YG rfl rfl (fun b_10=>?_))
  rotate_left
  refine Qp YG rfl rfl (fun b_10=>Qb<|zD hD<|qd 12 rfl<|Qp YG rfl rfl (fun b_9=>?_))
  all_goals
   refine Qb<|zD hD<|qd 15 rfl ?_
   refine zh Zx ?_;refine QV (b:=b_9) (by repeat (first | exact Z1.here | apply Z1.there)) (fun I20 hI20 hb20=>?_);have hKc12:=hKc12.trans hI20;have hD:=hD.trans hI20;have h9:=BxI.of hb20;refine Qb<|zD hD<|qd 16 rfl ?_
   refine zh Zx ?_;refine QV (b:=b_10) (by repeat (first | exact Z1.here | apply Z1.there)) (fun I21 hI21 hb21=>?_);have h9:=h9.mono hI21;have hKc12:=hKc12.trans hI21;have hD:=hD.trans hI21;have h10:=BxI.of hb21;refine Qb<|zD hD<|qd 17 rfl ?_
   refine zh Zx ?_;refine QV (b:=b_11) (by repeat (first | exact Z1.here | apply Z1.there)) (fun I22 hI22 hb22=>?_);have h9:=h9.mono hI22;have h10:=h10.mono hI22;have hKc12:=hKc12.trans hI22;have hD:=hD.trans hI22;have h11:=BxI.of hb22;refine Qb<|zD hD<|Qn kA<|Qv ?_
   exact Zr _ _ ⟨_,_,_,rfl,hKc12,rfl,h9,h10,h11⟩ (.cons rfl (.cons rfl (.cons rfl (.cons rfl .nil)))) (by (try rw [←JZ hs k kB,hgd]);repeat (first | exact .refl | exact QL | refine Q7 ?_ | refine .drop ?_ | refine QR ?_))
 rintro E J23 loc' ⟨p9,p10,p11,rfl,hJ,rfl,h9,h10,h11⟩;have hR:=hR.mono hJ;have hIc:=hIc.trans hJ;refine Qm (zR<|zF Zh ?_);refine zV (Qc rfl Ql (fun hg=>by exact Qy.imm h9.out rfl))<|zC ?_
 refine zM ?_;refine QI 3 rfl rfl rfl ?_;refine zJ (Qa rfl Zh)<|zJ (Qc rfl Ql (fun hg=>by exact Qy.imm h10.out rfl))<|zJ (QA rfl rfl rfl)<|Q9 rfl rfl rfl rfl rfl<|zM ?_
 refine QI 8 rfl rfl rfl ?_;refine zJ (Qa rfl Zh)<|zJ (Qc rfl Ql (fun hg=>by exact Qy.imm h11.out rfl))<|zJ (QA rfl rfl rfl)<|Q9 rfl rfl rfl rfl rfl ?_
 refine zN ?_;refine zI ?_ ?_<;>intro hc80
 ·
  have hno:=(zhC hR hall hu hv hw4).1 hc80;refine zR<|zV (Qg rfl Zc (fun hg=>by exact Cells.g0) rfl) ?_
  exact zh Vk<|zA (zN (Qs (Qf<|Q2 rfl rfl rfl Zc zB4 rfl (fun w hw=>⟨_,J23,[],rfl,hIc,by repeat (first | exact hw.drop | exact hw.subL Qq | exact hw.drop.drop),rfl,_,_,rfl,zcg rfl rfl hno⟩))))
 obtain ⟨q,qs,hT⟩:=(zhC hR hall hu hv hw4).2 hc80;have hql:=hT.sl.len;have hum:u.m≤100000:=(by have h:=zse hT hb kB;omega);refine Qr (Qd (Qm (zR<|zF QO ?_)));refine zV (Qc rfl Zo (fun hg=>by exact Qy.imm h9.out rfl))<|zQ ZN<|zM (zN (Qw ?_))
 refine zU [(2,_),(10,_),(11,_),(83,_),(84,_)] (fun T L0 mz E I' loc'=>∃ (j:Nat) (v:Value) (L:Go.Kn.Loc),mz=u.m-j∧E=(85,.int .i64 j)::T∧HLe J23 I'∧L++[(b_2,.cells (fl2 hs v).toArray 45 (0,0))]=loc'∧j≤u.m∧ZU 3 1 v j (((qs.take j).map (·.n)).flatMap Z5) L∧(∀ i y,i<j→qs[i]? =some y→(y.k != 1)=false)) ?_ (h:=⟨0,_,[],rfl,rfl,zB6 _,rfl,Nat.zero_le _,ZU.nil,fun j y h=>absurd h (Nat.not_lt_zero _)⟩);rintro mz E J24 loc' ⟨j,v,L,rfl,rfl,hJ,rfl,hj,hO,hall2⟩;have h10:=h10.mono hJ;have h11:=h11.mono hJ;have hT:=hT.mono hJ;have hIc:=hIc.trans hJ;have hB2:=hJ;refine zR (zC (zN (Qm ?_)));refine zI ?_ ?_<;>intro hc86
 ·
  have hlt_j:j<u.m:=(by have h:=hc86;simp at h;omega);obtain ⟨z,hz⟩:∃ y,qs[j]? =some y:=⟨_,List.getElem?_eq_getElem kB⟩;refine Qr (Qd (Qm (Qw (zR<|zV (QG rfl rfl ZN hT.sl (fun hg=>kB))<|zV (Qg rfl Zm (fun hg=>by exact zB7 hT.sl hz) rfl)<|Qp YG rfl rfl (fun b_13=>?_)))));refine zh Zx ?_;refine Qb<|QF .here (fun I25 hI25 hb25=>?_)
  have hT:=hT.mono hI25;have hIc:=hIc.trans hI25;have hB2:=hB2.trans hI25;have h13:=BxI.of hb25;refine Qd (Qm (zR<|zF Zh ?_));refine zV (Qc rfl Ql (fun hg=>by exact Qy.imm h13.out rfl))<|zC (zN ?_)
  refine zI ?_ ?_<;>intro hc91
  ·
   have hno:=znP hT hz hc91;obtain ⟨a0,c0,rfl⟩:=hO.shape;refine zR<|zV (Qg rfl Zc (fun hg=>by exact zB5 .here) rfl) ?_
   exact zh Vk<|zA (zN (Qs (Qf (Qi (Qf (Qf (Qi<|Qf<|Q2 rfl rfl rfl Zc (.app .here) rfl (fun w hw=>⟨_,I25,[],rfl,hIc,by repeat (first | exact hw.drop | exact hw.subL Qq | exact hw.drop.drop),rfl,_,_,rfl,zcg rfl rfl hno⟩))))))))
  refine Qr (Qd (Qh<|zF YA<|zF ZZ ?_));refine zV (Qc rfl Vy (fun hg=>by exact zB2 (Qy.h0 rfl)))<|zF Y3 ?_
  refine zV (Qc rfl Ql (fun hg=>by exact Qy.imm h13.out rfl))<|zpb [(0,_)] [Z5 z.n] Vh (fun b_98=>zpa (_) (([z.n]:List Int).flatMap Z5) (L) rfl rfl Vh hO ⟨rfl,fun _=>rfl,by repeat (first | exact zB4 | apply zB3 | apply zB5)⟩ (za5 [z.n]) ?_)
  intro v2 L2 hO2 _;rw [←List.flatMap_append] at hO2;obtain ⟨a2,c2,rfl⟩:=hO2.shape;refine zF YA ?_;refine zF ZZ ?_;refine zS zyq<|Qb (Qk (Qd (Qh (zB<|zM (Qb ?_)))))
  exact Zr _ _ ⟨u.m-(j+1),kB,j+1,_,_,rfl,rfl,hB2,rfl,kB,by rw [Zs hz,List.map_append];exact hO2,Vo hz hall2 hc91⟩ (.cons rfl (.cons rfl (.cons rfl (.cons rfl (.cons rfl (.cons rfl .nil)))))) (by (try rw [←JZ hs k kB,hgd]);repeat (first | exact .refl | exact QL | refine Q7 ?_ | refine .drop ?_ | refine QR ?_))
 have hge_j:u.m≤j:=(by have h:=hc86;simp at h;omega);obtain rfl:j=u.m:=kB;have hke:qs.take u.m=qs:=List.take_of_length_le kB;rw [hke] at hO;have hall2:∀ j y,j<qs.length→qs[j]? =some y→(y.k != 1)=false:=fun j y hj hy=>hall2 j y kB hy;refine Zk (Qo (Qo (Qz (Qd (Qm ?_)))));have hD:=zB6 J24;refine Zn<|QJ J24 [] mixed<|zT 0 rfl (Qa rfl Yv) hD<|zT 1 rfl (Qc rfl VZ (fun hg=>by exact Qy.imm h10.out rfl)) hD<|zT 2 rfl (Qa rfl Yv) hD<|zT 3 rfl (Qc rfl VZ (fun hg=>by exact Qy.imm h11.out rfl)) hD<|zT 4 rfl (Qa rfl YB) hD<|zT 5 rfl (Qa rfl JN) hD<|qd 6 rfl ?_
 refine zS zvr ?_;refine Qb<|zD hD<|zT 7 rfl (Qa rfl YB) hD<|zT 8 rfl (Qa rfl JO) hD<|qd 9 rfl ?_
 refine zS zvr ?_;refine Qb<|zD hD<|Qn kA<|Qv<|Qd (Qm<|zx4 hO YL (fun I26 hI26 af26 cf26 ef26 hNd=>?_))
 subst ef26;have hT:=hT.mono hI26;have hIc:=hIc.trans hI26;refine zaD (loc':=[(b_2,.cells (Zf (Uv (zdf hs 42) af26 u.m cf26 (qs.map (·.n)) v3.s w4.s)).toArray 45 (0,0))]) kW ?_;have hF:=zs3 (a:=af26) (c:=cf26) hT hall2 hT.sl.len;have hNd2:Nd I26 (Uv (zdf hs 42) af26 u.m cf26 (qs.map (·.n)) v3.s w4.s).pt:=hNd;have hD:=zB6 I26;refine Zn<|QJ I26 [(b_2,.cells (Zf (Uv (zdf hs 42) af26 u.m cf26 (qs.map (·.n)) v3.s w4.s)).toArray 45 (0,0))] mixed<|zT 0 rfl (Qg rfl Zc (fun hg=>by exact Cells.g0) rfl) hD<|zT 1 rfl (Qg rfl Zc (fun hg=>by exact Cells.g0) rfl) hD<|qd 2 rfl<|qcV (vs:=[_]) rfl zbM (UB _ hNd2)<|Qb<|zD hD<|qd 3 rfl ?_
 refine zh Vk ?_;exact Qb<|zD hD<|zT 4 rfl (QB rfl) hD<|Qn kA<|Qv<|Qd (Qs<|Q2 rfl rfl rfl Zc zB4 rfl (fun w hw=>⟨_,I26,[],rfl,hIc,hw.drop,rfl,_,_,rfl,znm hF hNd2⟩))
def WS (xs:List Nt)(t:Nt):Nat:=(xs.takeWhile fun x=>decide (Vm x t<0)).length
def zeM (xs:List Nt)(t:Nt):Prop:=∀ (k l:Nat) (x y:Nt),k≤l→xs[k]? =some x→xs[l]? =some y→Vm y t<0→Vm x t<0
variable{xs:List Nt}{t:Nt}{i:Nat}
theorem zlK (hi:i≤xs.length)(h1:∀ k x,k<i→xs[k]? =some x→Vm x t<0)(h2:∀ k x,i≤k→xs[k]? =some x→¬Vm x t<0):WS xs t=i:=by
 unfold WS
 have e:xs.takeWhile (fun x=>decide (Vm x t<0))=xs.take i:=by
  induction xs generalizing i with
  | nil=>simp
  | cons a l ih=>
   cases i with
   | zero=>
    have:=h2 0 a (Nat.le_refl _) rfl;simp [List.takeWhile,this]
   | succ i=>
    have h:=h1 0 a kB rfl;simp only [List.takeWhile,h,decide_true,List.take_succ_cons];rw [ih (i:=i) (by simpa using hi) (fun k x hk hx=>h1 (k+1) x kB hx) (fun k x hk hx=>h2 (k+1) x kB hx)]
 rw [e,List.length_take];omega
variable{m:Nat}
theorem zvY (hm:zeM xs t){i:Nat}(hy:xs[m]? =some y)(hc:Vm y t<0):∀ k x,k<m+1→xs[k]? =some x→Vm x t<0:=fun k x hk hx=>hm k m x y kB hx hy hc
theorem zoU (hm:zeM xs t)(hy:xs[m]? =some y)(hc:¬Vm y t<0):∀ k x,m≤k→xs[k]? =some x→¬Vm x t<0:=fun k x hk hx h=>hc (hm m k y x hk hy hx h)
def zd0 (xs:List Nt)(t:Nt):Bool:=match xs[WS xs t]? with | some y=>Vm y t==0 | none=>false
theorem zoM (hp:WS xs t=i)(hy:xs[i]? =some y):zd0 xs t=(Vm y t==0):=by unfold zd0;rw [hp,hy]
theorem zwE (hp:WS xs t=i)(hi:xs.length≤i):zd0 xs t=false:=by unfold zd0;rw [hp,List.getElem?_eq_none hi]
structure Pe where
 a:Option Addr
 n:Nat
 c:Nat
 notes:List Nt
def U4 (x:Pe):List Value:=[.slice x.a x.n x.c]
theorem Uz (x:Pe):(U4 x).length=1:=rfl
theorem zrD (xs:List Pe):Y4 (xs.flatMap U4)=true:=YR (fun _=>rfl) xs
def zgs (xs:List Nt)(t:Nt):List Nt:=xs.take (WS xs t)++t::xs.drop (WS xs t)
theorem zgS (xs:List Nt)(t:Nt):WS xs t≤xs.length:=by
 unfold WS;exact (List.takeWhile_sublist _).length_le
variable{fz:Nat×Nat}{cur:List Value}
theorem zdR {l:Go.Kn.Loc}{b t:Nat}(h:cur[i]? =some v):Qy I ((b,.cells cur.toArray t fz)::l) b ((i:Int).toNat*1+0) v:=by
 rw [Nat.add_zero,Nat.mul_one,Int.toNat_natCast];exact zB1 (by simpa [JG] using h)
theorem zhd (h:cur[i]? =some v):((i:Int).toNat*1+0).blt cur.toArray.size=true:=by
 rw [Nat.add_zero,Nat.mul_one,Int.toNat_natCast,List.size_toArray];have:=(List.getElem?_eq_some_iff.1 h).1;exact Nat.ble_eq_true_of_le this
theorem zlr :cur.toArray.setIfInBounds ((i:Int).toNat*1+0) v=(cur.set i v).toArray:=by
 rw [Nat.add_zero,Nat.mul_one,Int.toNat_natCast];simp
theorem znX:CvT Tryz.prog 216 3 .i64:=⟨kA,kA⟩
theorem zz1 (hP:WB I av n c xs)(hf:∀ x∈xs,QN x=true)(hT:NtM I t)(hm:zeM xs t)(hn:n≤100000):ZJ Tryz.prog 173 [.slice av n c,J0 t,.func (.func 81) #[] #[]] I (.tuple #[.int .i64 (WS xs t:Nat),.bool (zd0 xs t)]):=by
 intro g H w hw;refine qe Tryz.func173 Tryz.ntmps173 hw ?_;have hIc:=zB6 I;have hln:=hP.sl.len;refine zR<|QK rfl rfl rfl (fun b_4=>zA<|zA (Qb<|QF .here (fun I1 hI1 hb1=>?_)))
 have hP:=hP.mono hI1;have hT:=hT.mono hI1;have hIc:=hIc.trans hI1;have h4:=BxI.of hb1;refine Qd (zR (zM<|zQ Zj<|zA<|zN (zR ?_)));refine zM<|zA<|zA (zN (Qm (Qw ?_)))
 refine zU [(0,_),(2,_),(4,_),(8,_)] (fun T L0 mz E I' loc'=>∃ (i j:Nat),mz=j-i∧E=(9,.int .i64 i)::(10,.int .i64 j)::T∧I1=I'∧L0=loc'∧i≤j∧j≤n∧(∀ k x,k<i→xs[k]? =some x→Vm x t<0)∧(∀ k x,j≤k→xs[k]? =some x→¬Vm x t<0)) ?_ (h:=⟨0,n,rfl,rfl,rfl,rfl,Nat.zero_le _,Nat.le_refl _,fun k x h=>absurd h (Nat.not_lt_zero _),fun k x hk hx=>by rw [List.getElem?_eq_none kB] at hx;cases hx⟩);rintro mz E I' loc' ⟨i,j,rfl,rfl,rfl,rfl,hij,hjn,hlo,hup⟩;refine Qm (zR (zM<|zM<|zC (zN ?_)));refine zI ?_ ?_<;>intro hc17
 ·
  have hlt:i<j:=(by have h:=hc17;simp at h;omega);obtain ⟨y,hy⟩:∃ y,xs[(i+j) / 2]? =some y:=⟨_,List.getElem?_eq_getElem kB⟩;have hym:y∈xs:=List.mem_of_getElem? hy;refine Qr (Qd (Qw (zR (zM ?_))));refine zM ?_;refine zB<|zV (ZS rfl XZ)<|zV (zhO rfl rfl kC (rfl:min _ _=1))<|zV (ZS rfl znX)<|zA (Qb ?_)
  rw [zvI i j kB];refine Qd (Qm ?_);have hD:=zB6 I1;refine Zn<|QJ I1 [] mixed<|zT 0 rfl (Qe rfl) hD<|zT 1 rfl (Qe rfl) hD<|zT 2 rfl (Qe rfl) hD<|zT 3 rfl (QG rfl rfl Zj hP.sl (fun hg=>kB)) hD<|zT 4 rfl (Qg rfl Zc (fun hg=>by exact zB7 (k:=(i+j) / 2) hP.sl hy) rfl) hD<|zT 5 rfl (Qg rfl Zc (fun hg=>by exact BxI.cells (vs:=Zf t) h4) rfl) hD<|qd 6 rfl<|qcV (vs:=[_,_]) rfl ze0 (zgo (hP.m y hym (hf y hym)) hT)<|Qb<|zD hD ?_
  refine zT 7 rfl (QA rfl rfl rfl) hD<|Qn kA<|Qv<|Qd ?_
  refine zI ?_ ?_<;>intro hc31
  ·
   refine Qh (zM ?_);exact zB<|zA (Qb (Qk<|zm (h:=⟨j-((i+j) / 2+1),kB,(i+j) / 2+1,j,rfl,rfl,rfl,rfl,kB,hjn,zvY (i:=i) hm hy (by simpa using hc31),hup⟩)))
  exact Qh (zM<|zA (Qb (Qk<|zm (h:=⟨(i+j) / 2-i,kB,i,(i+j) / 2,rfl,rfl,rfl,rfl,kB,kB,hlo,zoU hm hy (by simpa using hc31)⟩))))
 have hge:j≤i:=(by have h:=hc17;simp at h;omega);have hje:j=i:=kB;subst hje;have hpos:=zlK kB hlo hup;refine Zk (Qo (Qo (Qz (Qd (Qm ?_)))));rcases (show j<n∨n≤j by omega) with hjl | hjl
 ·
  have hk0:decide ((j:Int)<(n:Int))=true:=(by simp;omega);obtain ⟨y,hy⟩:∃ y,xs[j]? =some y:=⟨_,List.getElem?_eq_getElem kB⟩;have hym:y∈xs:=List.mem_of_getElem? hy;have hD:=zB6 I1;refine Zn<|QJ I1 [] mixed<|zT 0 rfl (Qe rfl) hD<|zT 1 rfl (Qe rfl) hD<|zT 2 rfl (Qe rfl) hD<|zT 3 rfl (QA rfl rfl rfl) hD ?_
  rw [hk0];refine zT 4 rfl (Qe rfl) hD<|zw 5 39 rfl (Qe rfl) hD<|zw 6 39 rfl (Qe rfl) hD<|zw 7 39 rfl (Qe rfl) hD<|zw 8 39 rfl (QG rfl rfl Zj hP.sl (fun hg=>kB)) hD<|zw 9 39 rfl (Qg rfl Zc (fun hg=>by exact zB7 (k:=j) hP.sl hy) rfl) hD<|zw 10 39 rfl (Qg rfl Zc (fun hg=>by exact BxI.cells (vs:=Zf t) h4) rfl) hD<|qd 11 rfl<|QQ (dj:=39) rfl rfl rfl<|qcV (vs:=[_,_]) rfl ze0 (zgo (hP.m y hym (hf y hym)) hT)<|Qb<|zD hD ?_
  refine zw 12 39 rfl (QA rfl rfl rfl) hD<|zT 13 rfl (QY rfl rfl rfl) hD<|zT 14 rfl (QB rfl) hD<|zT 15 rfl (QB rfl) hD<|Qn kA<|Qv<|Qd (Qs ?_)
  exact Vq rfl rfl rfl (fun w hw=>⟨by rw [hpos,zoM hpos hy]<;>rfl,(hw.mono hIc).drop⟩)
 have hk0:decide ((j:Int)<(n:Int))=false:=(by simp;omega);have hD:=zB6 I1;refine Zn<|QJ I1 [] mixed<|zT 0 rfl (Qe rfl) hD<|zT 1 rfl (Qe rfl) hD<|zT 2 rfl (Qe rfl) hD<|zT 3 rfl (QA rfl rfl rfl) hD ?_
 rw [hk0];refine zT 4 rfl (Qe rfl) hD<|zW 5 39 hD ?_
 refine zW 6 39 hD ?_;refine zW 7 39 hD ?_;refine zW 8 39 hD ?_;refine zW 9 39 hD ?_;refine zW 10 39 hD ?_;refine zW 11 39 hD ?_;refine zW 12 39 hD<|zT 13 rfl (Ye rfl rfl rfl) hD<|zT 14 rfl (QB rfl) hD<|zT 15 rfl (QB rfl) hD<|Qn kA<|Qv<|Qd (Qs ?_)
 exact Vq rfl rfl rfl (fun w hw=>⟨by rw [hpos,zwE hpos kB]<;>rfl,(hw.mono hIc).drop⟩)
theorem zh6:ElT Tryz.prog 22 59 1 24:=.of kA
theorem zdV (hS:Sl I 45 Zf av n c xs)(hn:n≤400000):YE Tryz.prog 175 [.slice av n c] I [] (fun v I' L=>I'=I∧ZU 45 45 v n (xs.flatMap Zf) L):=by
 intro g H w hw;refine qe Tryz.func175 Tryz.ntmps175 hw ?_;refine zR (zA (zN (Qm (zR ?_))));refine zM<|zV (zjk rfl rfl Zj)<|zN ?_
 refine zI ?_ ?_<;>intro hc4
 ·
  have hn0:n=0:=Decidable.byContradiction fun h=>(by have:=hS.base h;rw [this] at hc4;cases hc4);have hl:=hS.len;subst hn0;have hx0:=List.eq_nil_of_length_eq_zero hl;subst hx0;exact zR (zA (zN (Qs (Qf<|Qx rfl rfl (fun w hw=>⟨_,I,_,rfl,zB6 _,hw,rfl,ZU.nil⟩)))))
 refine Qr (Qd (zR<|zpb [] [] Vx (fun b_5=>zM<|zpa (_) (xs.flatMap Zf) ([(b_5,_)]) rfl rfl Vx ZU.new (hS.src Z2) (zan _) ?_)));intro v1 L1 hO1 _;rw [List.nil_append,Nat.zero_add] at hO1;exact zA (zN (Qs<|Qx rfl rfl (fun w hw=>⟨_,I,_,rfl,zB6 _,hw.subL QL,rfl,hO1⟩)))
theorem zoW {xs:List Pe}(hS:Sl I 1 U4 av n c xs)(hn:n≤400000):YE Tryz.prog 52 [.slice av n c] I [] (fun v I' L=>I'=I∧ZU 59 1 v n (xs.flatMap U4) L):=by
 intro g H w hw;refine qe Tryz.func52 Tryz.ntmps52 hw ?_;refine zR (zA (zN (Qm (zR ?_))));refine zM<|zV (zjk rfl rfl Z4)<|zN ?_
 refine zI ?_ ?_<;>intro hc4
 ·
  have hn0:n=0:=Decidable.byContradiction fun h=>(by have:=hS.base h;rw [this] at hc4;cases hc4);have hl:=hS.len;subst hn0;have hx0:=List.eq_nil_of_length_eq_zero hl;subst hx0;exact zR (zA (zN (Qs (Qf<|Qx rfl rfl (fun w hw=>⟨_,I,_,rfl,zB6 _,hw,rfl,ZU.nil⟩)))))
 refine Qr (Qd (zR<|zpb [] [] zh6 (fun b_5=>zM<|zpa (_) (xs.flatMap U4) ([(b_5,_)]) rfl rfl zh6 ZU.new (hS.src Uz) (zrD _) ?_)));intro v1 L1 hO1 _;rw [List.nil_append,Nat.zero_add] at hO1;exact zA (zN (Qs<|Qx rfl rfl (fun w hw=>⟨_,I,_,rfl,zB6 _,hw.subL QL,rfl,hO1⟩)))
theorem zu6:Fun Tryz.prog 173:=.of Tryz.func173 kA kA
theorem zg2:Fun Tryz.prog 174:=.of Tryz.func174 kA kA
theorem zhA:Fun Tryz.prog 175:=.of Tryz.func175 kA kA
theorem zh5:SzT Tryz.prog 57 1:=.of kA
variable{pe:Pe}
theorem ztA {bp:Nat}(hci:cur[i]? =some (.slice pe.a pe.n pe.c))(hi:i<pn)(_hpn:pn≤100000)(hP:WB I pe.a pe.n pe.c pe.notes)(hf:∀ x∈pe.notes,QN x=true)(hT:NtM I t)(hm:zeM pe.notes t)(hn:pe.n≤4096):Ui Tryz.prog 109 [ZI bc,.int .i64 i,J0 t] I [(bc,.cells #[.slice (some ⟨bp,0,none⟩) pn pc,.slice qa qn qc,.slice aa an ac] 108 (0,0)),(bp,.cells (cur).toArray 59 (0,0))] (fun v I' L'=>v= .tuple #[]∧((zd0 pe.notes t=true∧L'=[(bc,.cells #[.slice (some ⟨bp,0,none⟩) pn pc,.slice qa qn qc,.slice aa an ac] 108 (0,0)),(bp,.cells (cur).toArray 59 (0,0))])∨(zd0 pe.notes t=false∧pe.n<4096∧∃ a c,L'=[(bc,.cells #[.slice (some ⟨bp,0,none⟩) pn pc,.slice qa qn qc,.slice aa an ac] 108 (0,0)),(bp,.cells (cur.set i (.slice a (pe.n+1) c)).toArray 59 (0,0))]∧Sl I' 45 Zf a (pe.n+1) c (zgs pe.notes t)))) (fun v=>v= .iface 50 (.int .i64 2)∧zd0 pe.notes t=false∧¬pe.n<4096):=by
 intro g H w hw;refine qe Tryz.func109 Tryz.ntmps109 hw ?_;have hIc:=zB6 I;have hln:=hP.sl.len;have hpl:=zgS pe.notes t;refine zR<|QK rfl rfl rfl (fun b_5=>Qb<|QF .here (fun I1 hI1 hb1=>?_))
 have hP:=hP.mono hI1;have hT:=hT.mono hI1;have hIc:=hIc.trans hI1;have h5:=BxI.of hb1;refine Qd (zR (zM<|zV (QC rfl) ?_));refine zF Yt<|zF Zp ?_
 refine zL Z6 ?_;refine zM ?_;refine zV (KE rfl rfl Z4 (fun hg=>kB))<|zA (zN (Qm ?_))
 have hD:=zB6 I1;refine QJ I1 [(bc,.cells #[.slice (some ⟨bp,0,none⟩) pn pc,.slice qa qn qc,.slice aa an ac] 108 (0,0)),(bp,.cells (cur).toArray 59 (0,0))] mixed<|zT 0 rfl (Qe rfl) hD<|zT 1 rfl (QC rfl) hD<|zT 2 rfl (Qa rfl ZK) hD<|zT 3 rfl (Qc rfl Y1 (fun hg=>by exact zB0 (zdR hci))) hD<|zT 4 rfl (Qg rfl Zc (fun hg=>by exact BxI.cells (vs:=Zf t) h5) rfl) hD<|qd 5 rfl<|qcV (vs:=[_,_,_]) rfl zu6 (zz1 hP hf hT hm kB)<|Qb<|zD hD<|zT 6 rfl (Qe rfl) hD<|zT 7 rfl (QS rfl rfl) hD ?_
 refine zT 8 rfl (QS rfl rfl) hD<|zT 9 rfl (QB rfl) hD<|zT 10 rfl (QB rfl) hD<|Qn kA<|Qd (Qm (zR (zM (zN ?_))))
 refine zI ?_ ?_<;>intro hc25
 ·
  exact Qs (Qf<|Yu rfl (fun w hw=>.inl ⟨_,I1,_,rfl,hIc,hw,rfl,.inl ⟨hc25,rfl⟩⟩))
 refine Qr (Qd (zR (zM<|zV (QC rfl) ?_)));refine zF ZK ?_;refine zV (Qc rfl Y1 (fun hg=>by exact zB0 (zdR hci)))<|zQ Zj<|zC ?_
 refine zx5 [_,_] rfl KF .nil (Wp I1 (decide ((pe.n:Int)<4096)) 2) ?_ (fun pv hpv=>by refine zx6 ?_;exact (⟨hpv.1,hc25,by have h:=hpv.2;simp at h;omega⟩));rintro vv2 I2 L2 hI2 ⟨rfl,rfl,rfl,hok⟩;have hP:=hP.mono hI2;have h5:=h5.mono hI2;have hIc:=hIc.trans hI2;have hok2:pe.n<4096:=(by have h:=hok;simp at h;omega);refine zN ?_;have hD:=zB6 I2;refine QJ I2 [] mixed<|zT 0 rfl (Qe rfl) hD<|zT 1 rfl (Qe rfl) hD<|zT 2 rfl (QC rfl) hD<|zT 3 rfl (Qa rfl ZK) hD<|zT 6 rfl (Qe rfl) hD<|zT 7 rfl (Qg rfl Zc (fun hg=>by exact BxI.cells (vs:=Zf t) h5) rfl) hD ?_
 refine QU 4 8 rfl rfl kA ?_ ?_
 ·
  refine zV (Qc rfl Y1 (fun hg=>by exact zB0 (zdR hci)))<|Qb<|zD hD ?_
  refine QU 5 8 rfl rfl kA ?_ ?_
  focus
   refine zpc [_] rfl zhA .nil (zdV hP.sl kB) ?_;rintro vv3 I3 L3 hI3 ⟨rfl,hOc⟩;have hP:=hP.mono hI3;have hIc:=hIc.trans hI3;have hD:=hD.trans hI3;refine Qb<|zD hD<|qd 8 rfl<|zpb [(0,_)] [Zf t] Vx (fun b_41=>Qb<|zD hD<|qd 9 rfl<|zpc [_,_,_] rfl zg2 (by exact zhf) (zb1 hOc kB hP.sl.len (i:=WS pe.notes t) kB b_41 t) ?_)
  rotate_left
  refine zpb [(0,_)] [Zf t] Vx (fun b_41=>Qb<|zD hD<|qd 5 rfl<|zpc [_] rfl zhA .nil (zdV hP.sl kB) ?_);rintro vv6 I6 L6 hI6 ⟨rfl,hOc⟩;have hP:=hP.mono hI6;have hIc:=hIc.trans hI6;have hD:=hD.trans hI6;refine Qb<|zD hD<|qd 9 rfl<|zpc [_,_,_] rfl zg2 (by exact zbD) (zb1 hOc kB hP.sl.len (i:=WS pe.notes t) kB b_41 t) ?_
  all_goals
   rintro vv7 I7 L7 hI7 ⟨rfl,hOi⟩;have hIc:=hIc.trans hI7;have hD:=hD.trans hI7;refine Qb<|zD hD<|zT 10 rfl (QC rfl) hD<|zT 11 rfl (Qa rfl ZK) hD<|qd 12 rfl<|zx7 hOi Z2 (fun I8 hI8 af8 cf8 ef8 hZ=>?_)
   subst ef8;have hIc:=hIc.trans hI8;have hD:=hD.trans hI8;exact Ks rfl rfl zh5 rfl rfl Upd.u1 (zhd hci)<|Qb<|zD hD<|Qn kA<|YX (Yu rfl (fun w hw=>.inl ⟨_,I8,_,rfl,hIc,hw,rfl,.inr ⟨hc25,hok2,_,_,by rw [zlr],hZ⟩⟩))
 refine zpb [(0,_)] [Zf t] Vx (fun b_41=>Qb<|zD hD<|qd 4 rfl<|zV (Qc rfl Y1 (fun hg=>by exact zB0 (zB0 (zdR hci))))<|Qb<|zD hD<|qd 5 rfl<|zpc [_] rfl zhA .nil (zdV hP.sl kB) ?_);rintro vv9 I9 L9 hI9 ⟨rfl,hOc⟩;have hP:=hP.mono hI9;have hIc:=hIc.trans hI9;have hD:=hD.trans hI9;refine Qb<|zD hD<|qd 9 rfl<|zpc [_,_,_] rfl zg2 (by exact zbD) (zb1 hOc kB hP.sl.len (i:=WS pe.notes t) kB b_41 t) ?_
 rintro vv10 I10 L10 hI10 ⟨rfl,hOi⟩;have hIc:=hIc.trans hI10;have hD:=hD.trans hI10;refine Qb<|zD hD<|zT 10 rfl (QC rfl) hD<|zT 11 rfl (Qa rfl ZK) hD<|qd 12 rfl<|zx7 hOi Z2 (fun I11 hI11 af11 cf11 ef11 hZ=>?_)
 subst ef11;have hIc:=hIc.trans hI11;have hD:=hD.trans hI11;exact Ks rfl rfl zh5 rfl rfl Upd.u1 (zhd hci)<|Qb<|zD hD<|Qn kA<|YX (Yu rfl (fun w hw=>.inl ⟨_,I11,_,rfl,hIc,hw,rfl,.inr ⟨hc25,hok2,_,_,by rw [zlr],hZ⟩⟩))
theorem Zu:AgT Tryz.prog 28 3:=.of kA
theorem zrM:Fun Tryz.prog 58:=.of Tryz.func58 kA kA
theorem KT:PlT Tryz.prog 28 #[(0,1),(1,2)] (.agg #[(.slice none 0 0),(.slice none 0 0),(.slice none 0 0)]):=⟨.of kA,kA,fun w=>kA⟩
theorem ZX:SzT Tryz.prog 28 3:=.of kA
theorem JY:Vv Tryz.prog 28 (.agg #[(.slice none 0 0),(.slice none 0 0),(.slice none 0 0)]):=.of kA
theorem ziA:zBg Tryz.prog 22 59 24 (.agg #[.slice none 0 0]) (.slice none 0 0):=⟨kA,kA,by rfl⟩
theorem zi1 (I:Qu):ZJ Tryz.prog 58 [] I (znk):=by
 intro g H w hw;refine qe Tryz.func58 Tryz.ntmps58 hw ?_;refine zR<|Qp JC rfl rfl (fun b_0=>zN (zR<|zV (Qg rfl Zl (fun hg=>by exact Cells.g0) rfl) ?_))
 exact zh ZO<|zN (Qs<|ZM rfl rfl Zl zB4 rfl (fun w hw=>⟨by rfl,hw.drop⟩))
theorem zAL (I:Qu)(n:Int):YE Tryz.prog 14 [.int .i64 n] I [] (fun v I' L'=>I'=I∧(((decide (n<1)||decide (n>24))=true∧L'=[]∧v= .tuple #[.agg #[.slice none 0 0,.slice none 0 0,.slice none 0 0],.int .i64 1])∨((decide (n<1)||decide (n>24))=false∧∃ b,L'=[(b,.cells (List.replicate n.toNat (Value.slice none 0 0)).toArray 59 (0,0))]∧v= .tuple #[.agg #[.slice (some ⟨b,0,none⟩) n.toNat n.toNat,.slice none 0 0,.slice none 0 0],.int .i64 0]))):=by
 intro g H w hw;refine qe Tryz.func14 Tryz.ntmps14 hw ?_;refine zR<|Qp JY rfl rfl (fun b_2=>?_)
 refine zA (zN (Qm (zR<|zM<|zC ?_)));refine zM ?_;refine QI 2 rfl rfl rfl ?_;refine zJ (Qe rfl) ?_;refine zJ (QA rfl rfl rfl) ?_;refine Q9 rfl rfl rfl rfl rfl ?_;refine zN ?_;refine zI ?_ ?_<;>intro hc9
 ·
  refine zR<|zV (Qg rfl Zu (fun hg=>by exact Cells.g0) rfl) ?_
  exact zh ZX<|zA (zN (Qs (Qf<|Q2 rfl rfl rfl Zu zB4 rfl (fun w hw=>⟨_,I,_,rfl,zB6 _,hw.drop,rfl,.inl ⟨hc9,rfl,rfl⟩⟩))))
 have h9:1≤n∧n≤24:=(by have h:=hc9;simp at h;omega);refine Qr (Qd (Qm ?_));have hD:=zB6 I;refine Zn<|QJ I [] mixed<|zT 0 rfl (Qe rfl) hD ?_
 refine QU 1 2 rfl rfl kA ?_ ?_
 focus
  refine Kx ziA rfl rfl kB kC rfl rfl (fun b_12=>Qb<|zD hD<|qd 2 rfl<|qcV (vs:=[]) rfl zrM (zi1 _) ?_)
 rotate_left
 refine qcV (vs:=[]) rfl zrM (zi1 _)<|Qb<|zD hD<|qd 1 rfl<|Kx ziA rfl rfl kB kC rfl rfl (fun b_12=>?_)
 all_goals
  refine Qb<|zD hD<|zT 3 rfl (QD (ps:=[(0,_),(1,_)]) [_,_,_] KT rfl rfl) hD<|qd 4 rfl ?_
  refine zh ZX ?_;exact Qb<|zD hD<|zT 5 rfl (QB rfl) hD<|Qn kA<|Qv<|Qd (Qs<|Q2 rfl rfl rfl Zu (.there .here) rfl (fun w hw=>⟨_,I,_,rfl,zB6 _,hw.subL (.keep (.drop .refl)),rfl,.inr ⟨hc9,_,rfl,rfl⟩⟩))
theorem zoF:∀ a:List UInt8,Lib.compareBytes a a=0
 | []=>rfl
 | x::l=>by simp only [Lib.compareBytes,if_neg (UInt8.lt_irrefl x)];exact zoF l
theorem zva:∀ {a b:List UInt8},Lib.compareBytes a b=0→a=b
 | [],[],_=>rfl
 | [],_::_,h=>by simp [Lib.compareBytes] at h
 | _::_,[],h=>by simp [Lib.compareBytes] at h
 | x::a,y::b,h=>by
  unfold Lib.compareBytes at h;split at h
  ·
   cases h
  ·
   rename_i h1;split at h
   ·
    cases h
   ·
    rename_i h2;have e:x=y:=UInt8.le_antisymm (UInt8.not_lt.1 h2) (UInt8.not_lt.1 h1);rw [e,zva h]
theorem zhT:∀ {a b c:List UInt8},Lib.compareBytes a b<0→Lib.compareBytes b c<0→Lib.compareBytes a c<0
 | [],[],_,h,_=>by simp [Lib.compareBytes] at h
 | _::_,[],_,h,_=>by simp [Lib.compareBytes] at h
 | _,_::_,[],_,h=>by simp [Lib.compareBytes] at h
 | [],_::_,_::_,_,_=>by simp [Lib.compareBytes]
 | x::a,y::b,z::c,h1,h2=>by
  unfold Lib.compareBytes at h1 h2 ⊢;by_cases hxy:x<y
  ·
   by_cases hyz:y<z
   ·
    rw [if_pos (UInt8.lt_trans hxy hyz)];decide
   ·
    rw [if_neg hyz] at h2;by_cases hzy:z<y
    ·
     rw [if_pos hzy] at h2;simp at h2
    ·
     have e:y=z:=UInt8.le_antisymm (UInt8.not_lt.1 hzy) (UInt8.not_lt.1 hyz);rw [←e,if_pos hxy];decide
  ·
   rw [if_neg hxy] at h1;by_cases hyx:y<x
   ·
    rw [if_pos hyx] at h1;simp at h1
   ·
    rw [if_neg hyx] at h1;have e:x=y:=UInt8.le_antisymm (UInt8.not_lt.1 hyx) (UInt8.not_lt.1 hxy);rw [e];by_cases hyz:y<z
    ·
     rw [if_pos hyz];decide
    ·
     rw [if_neg hyz] at h2 ⊢;by_cases hzy:z<y
     ·
      rw [if_pos hzy] at h2;simp at h2
     ·
      rw [if_neg hzy] at h2 ⊢;exact zhT h1 h2
theorem zmr:∀ (a b:List UInt8),Lib.compareBytes a b= - Lib.compareBytes b a
 | [],[]=>rfl
 | [],_::_=>rfl
 | _::_,[]=>rfl
 | x::a,y::b=>by
  unfold Lib.compareBytes;by_cases hxy:x<y
  ·
   rw [if_pos hxy,if_neg (UInt8.lt_asymm hxy),if_pos hxy]
  ·
   rw [if_neg hxy];by_cases hyx:y<x
   ·
    rw [if_pos hyx,if_pos hyx];rfl
   ·
    rw [if_neg hyx,if_neg hyx,if_neg hxy];exact zmr a b
theorem JF {z:Nt}(h1:Vm x y<0)(h2:Vm y z<0):Vm x z<0:=zhT h1 h2
theorem Ws (x:Nt):Vm x x=0:=zoF _
theorem XK (x y:Nt):Vm x y= - Vm y x:=zmr _ _
def zkn (xs:List Nt):Prop:=∀ (k l:Nat) (x y:Nt),k<l→xs[k]? =some x→xs[l]? =some y→Vm x y<0
theorem zkn.mono (h:zkn xs)(t:Nt):zeM xs t:=fun k l x y hkl hx hy hc=>by
 rcases Nat.lt_or_ge k l with h1 | h1
 ·
  exact JF (h k l x y h1 hx hy) hc
 ·
  obtain rfl:k=l:=kB;rw [hx] at hy;cases hy;exact hc
theorem V2 (h:ZT xs=true):zkn xs∧(∀ x∈xs,QN x=true)∧xs.length≤4096:=by
 unfold ZT at h;rw [Bool.and_eq_true,decide_eq_true_eq] at h;obtain ⟨hg,hl⟩:=h;have hall:=(zaa xs []).1 hg
 have hf:∀ x∈xs,QN x=true:=fun x hx=>by
  obtain ⟨k,hk⟩:=List.mem_iff_getElem?.1 hx;exact zcO (hall k x hk)
 have hstep:∀ (k:Nat) (x y:Nt),xs[k]? =some x→xs[k+1]? =some y→Vm x y<0:=fun k x y hx hy=>by
  have h1:=hall (k+1) y hy;rw [List.nil_append] at h1;have e:(((k+1:Nat):Int)-1).toNat=k:=kB;rw [UA (hf y (List.mem_of_getElem? hy)) (Nat.succ_pos k) (by rw [e];exact hx)] at h1;simpa using h1
 refine ⟨?_,hf,hl⟩;intro k l x y hkl hx hy
 induction l generalizing y with
 | zero=>omega
 | succ l ih=>
  rcases Nat.lt_or_ge k l with h1 | h1
  ·
   obtain ⟨z,hz⟩:∃ z,xs[l]? =some z:=⟨_,List.getElem?_eq_getElem (by have:=(List.getElem?_eq_some_iff.1 hy).1;omega)⟩;exact JF (ih z h1 hz) (hstep l z y hz hy)
  ·
   obtain rfl:k=l:=kB;exact hstep k x y hx hy
theorem zv3 :∀ k x,k<WS xs t→xs[k]? =some x→Vm x t<0:=by
 unfold WS
 induction xs with
 | nil=>intro k x h;simp at h
 | cons a l ih=>
  intro k x hk hx;by_cases h:Vm a t<0
  ·
   simp only [List.takeWhile,h,decide_true] at hk
   cases k with
   | zero=>cases hx;exact h
   | succ k=>exact ih k x (by simpa using hk) hx
  ·
   simp [List.takeWhile,h] at hk
theorem zu9 (hx:xs[WS xs t]? =some x):¬Vm x t<0:=by
 unfold WS at hx
 induction xs with
 | nil=>cases hx
 | cons a l ih=>
  by_cases h:Vm a t<0
  ·
   simp only [List.takeWhile,h,decide_true,List.length_cons,List.getElem?_cons_succ] at hx;exact ih hx
  ·
   simp only [List.takeWhile,h,decide_false,List.length_nil,List.getElem?_cons_zero,Option.some.injEq] at hx;subst hx;exact h
theorem zvy (k:Nat):(zgs xs t)[k]? =if k<WS xs t then xs[k]? else if k=WS xs t then some t else xs[k-1]? :=by
 have hp:=zgS xs t;unfold zgs;by_cases h1:k<WS xs t
 ·
  rw [if_pos h1,List.getElem?_append_left kQ,List.getElem?_take,if_pos h1]
 ·
  rw [if_neg h1,List.getElem?_append_right kQ,List.length_take,Nat.min_eq_left hp];by_cases h2:k=WS xs t
  ·
   rw [if_pos h2,h2,Nat.sub_self];rfl
  ·
   rw [if_neg h2,show k-WS xs t=(k-1-WS xs t)+1 by omega,List.getElem?_cons_succ,List.getElem?_drop];congr 1;omega
theorem zoe (h:zkn xs)(hh:zd0 xs t=false):zkn (zgs xs t):=by
 have hgt:∀ k x,WS xs t≤k→xs[k]? =some x→Vm t x<0:=fun k x hk hx=>by
  obtain ⟨y,hy⟩:∃ y,xs[WS xs t]? =some y:=⟨_,List.getElem?_eq_getElem (by have:=(List.getElem?_eq_some_iff.1 hx).1;omega)⟩;have h1:=zu9 hy
  have h2:Vm y t≠0:=by
   have:=zoM rfl hy;rw [hh] at this;simpa using this.symm
  have h3:Vm t y<0:=(by rw [XK];omega);rcases Nat.lt_or_ge (WS xs t) k with h4 | h4
  ·
   exact JF h3 (h _ _ _ _ h4 hy hx)
  ·
   obtain rfl:k=WS xs t:=kB;rw [hy] at hx;cases hx;exact h3
 intro k l x y hkl hx hy;rw [zvy] at hx hy;split at hx
 ·
  rename_i hk;split at hy
  ·
   exact h k l x y hkl hx hy
  ·
   split at hy
   ·
    cases hy;exact zv3 k x hk hx
   ·
    rename_i h2 h3;exact h k (l-1) x y kB hx hy
 ·
  rename_i hk;split at hx
  ·
   rename_i hk2;cases hx;rw [if_neg kB,if_neg kB] at hy;exact hgt (l-1) y kB hy
  ·
   rename_i hk2;rw [if_neg kB,if_neg kB] at hy;exact h (k-1) (l-1) x y kB hx hy
theorem zaw :x∈zgs xs t↔x=t∨x∈xs:=by
 unfold zgs;rw [List.mem_append,List.mem_cons]
 conv=>rhs;rw [←List.take_append_drop (WS xs t) xs,List.mem_append]
 constructor
 ·
  rintro (h | h | h)
  ·
   exact .inr (.inl h)
  ·
   exact .inl h
  ·
   exact .inr (.inr h)
 ·
  rintro (h | h | h)
  ·
   exact .inr (.inl h)
  ·
   exact .inl h
  ·
   exact .inr (.inr h)
theorem zha :(zgs xs t).length=xs.length+1:=by
 have:=zgS xs t;unfold zgs;rw [List.length_append,List.length_cons,List.length_take,List.length_drop];omega
mutual
theorem KX:∀ (v:Va),Va.ok v→∀ c∈Va.enc v,c<256
 | .int n,h,c,hc=>by
  simp only [Va.enc,List.mem_cons] at hc;rcases hc with rfl | hc
  ·
   decide
  ·
   exact zcd c hc
 | .text s,h,c,hc=>by
  simp only [Va.enc,List.mem_cons,List.mem_append] at hc;rcases hc with rfl | hc | hc
  ·
   decide
  ·
   exact zcd c hc
  ·
   exact h.1 c hc
 | .list l,h,c,hc=>by
  simp only [Va.enc,List.mem_cons,List.mem_append] at hc;rcases hc with rfl | hc | hc
  ·
   decide
  ·
   exact zcd c hc
  ·
   exact zfN l h.2 c hc
theorem zfN:∀ (l:List Va),Va.okL l→∀ c∈Va.encL l,c<256
 | [],_,c,hc=>by cases hc
 | x::l,h,c,hc=>by
  simp only [Va.encL,List.mem_append] at hc;rcases hc with hc | hc
  ·
   exact KX x h.1 c hc
  ·
   exact zfN l h.2 c hc
end
theorem zpw {a b:List Nat}(ha:∀ c∈a,c<256)(hb:∀ c∈b,c<256)(h:UY a=UY b):a=b:=by
 rw [←Jp ha,←Jp hb,h]
theorem zk0 {x y:Nt}(hx:Va.ok (KQ x))(hy:Va.ok (KQ y))(h:Vm x y=0):YF x=YF y:=by
 have h1:(za7 x).data.toList=(za7 y).data.toList:=zva h
 have h2:za7 x=za7 y:=by
  have e:(za7 x).data=(za7 y).data:=Array.toList_inj.1 h1;have:∀ a b:ByteArray,a.data=b.data→a=b:=fun a b e=>by cases a;cases b;simp_all
  exact this _ _ e
 have h3:V1 x=V1 y:=zpw (KX _ hx) (KX _ hy) h2;have d1:=zec (KQ x) (d:=16) (r:=[]) hx (JK x);have d2:=zec (KQ y) (d:=16) (r:=[]) hy (JK y);have h4:Va.enc (KQ x)=Va.enc (KQ y):=h3;rw [h4,d2] at d1;have h5:KQ y=KQ x:=(by simpa using d1);have r1:=zgw x;rw [←h5,zgw y] at r1;exact (Option.some.inj r1).symm
end
section
open Go Go.Kn Go.Proofs
structure PkM (I:Qu)(p:Pk):Prop where
 sl:Sl I 1 VY p.a p.n p.c p.data
 byte:∀ c∈p.data,c<256
variable{I I':Qu}{p:Pk}
theorem PkM.mono (h:PkM I p)(hI:HLe I I'):PkM I' p:=⟨h.sl.mono hI,h.byte⟩
structure zko (I:Qu)(cur:List Value)(ps:List Pe):Prop where
 at_:∀ (i:Nat) (pe:Pe),ps[i]? =some pe→cur[i]? =some (.slice pe.a pe.n pe.c)
 nt:∀ pe∈ps,WB I pe.a pe.n pe.c pe.notes
 ok:∀ pe∈ps,ZT pe.notes=true
variable{cur:List Value}{ps:List Pe}
theorem zko.mono (h:zko I cur ps)(hI:HLe I I'):zko I' cur ps:=⟨h.at_,fun p hp=>(h.nt p hp).mono hI,h.ok⟩
variable{xs:List Nt}
theorem XG (hs:zkn xs)(hf:∀ x∈xs,QN x=true)(hl:xs.length≤4096):ZT xs=true:=by
 rw [zea (fun j y hj hy=>?_)]
 ·
  simp only [decide_eq_true_eq];omega
 ·
  have hfy:=hf y (List.mem_of_getElem? hy)
  cases j with
  | zero=>exact zeH hfy
  | succ j=>
   obtain ⟨z,hz⟩:∃ z,xs[j]? =some z:=⟨_,List.getElem?_eq_getElem kB⟩;rw [UA (k:=j+1) hfy (Nat.succ_pos j) (y:=z) (by rw [show (((j+1:Nat):Int)-1).toNat=j by omega];exact hz)];have:=hs j (j+1) z y kB hz hy;simp;omega
/-! ### Notes without their heads -/
theorem zbb (x y:Nt):Vm (YF x) (YF y)=Vm x y:=rfl
theorem ziq (t:Nt):∀ xs:List Nt,WS (xs.map YF) (YF t)=WS xs t:=by
 intro xs;unfold WS
 induction xs with
 | nil=>rfl
 | cons a l ih=>
  simp only [List.map_cons,List.takeWhile];rw [zbb];split
  ·
   simp only [List.length_cons];rw [ih]
  ·
   rfl
theorem zeN (xs:List Nt)(t:Nt):zd0 (xs.map YF) (YF t)=zd0 xs t:=by
 unfold zd0;rw [ziq,List.getElem?_map];cases xs[WS xs t]? <;>rfl
theorem zrh (xs:List Nt)(t:Nt):zgs (xs.map YF) (YF t)=(zgs xs t).map YF:=by
 unfold zgs;rw [ziq,List.map_append,List.map_cons,List.map_take,List.map_drop]
def dtP (ps:List Pe):List (List Nt):=ps.map fun pe=>pe.notes.map YF
theorem zeI (ps:List Pe):(dtP ps).length=ps.length:=by simp [dtP]
variable{i:Nat}{pe:Pe}
theorem zaA (h:ps[i]? =some pe):(dtP ps)[i]? =some (pe.notes.map YF):=by simp [dtP,h]
def zo9 (xs:List Nt)(t:Nt):Option (List Nt):=if zd0 xs t=true then some xs else if xs.length<4096 then some (zgs xs t) else none
def zbz (P:List (List Nt))(i:Nat)(t:Nt):Option (List (List Nt)):=(P[i]?).bind fun xs=>(zo9 xs t).map fun ys=>P.set i ys
variable{α:Type}{l:List α}
theorem ziH {x:α}(h:l[i]? =some x):l.set i x=l:=by
 obtain ⟨h1,h2⟩:=List.getElem?_eq_some_iff.1 h;rw [←h2,List.set_getElem_self]
variable{t:Nt}
theorem zh4 (h:ps[i]? =some pe)(hh:zd0 pe.notes t=true):zbz (dtP ps) i (YF t)=some (dtP ps):=by
 unfold zbz zo9;rw [zaA h,Option.bind_some,zeN,if_pos hh,Option.map_some,ziH (zaA h)]
theorem ziP (h:ps[i]? =some pe)(hh:zd0 pe.notes t=false)(hl:pe.notes.length<4096)(a:Option Addr)(n c:Nat):zbz (dtP ps) i (YF t)=some (dtP (ps.set i ⟨a,n,c,zgs pe.notes t⟩)):=by
 unfold zbz zo9;rw [zaA h,Option.bind_some,zeN,if_neg (by rw [hh];simp),if_pos (by simpa using hl),Option.map_some,zrh];simp [dtP,List.map_set]
theorem zop (h:ps[i]? =some pe)(hh:zd0 pe.notes t=false)(hl:¬pe.notes.length<4096):zbz (dtP ps) i (YF t)=none:=by
 unfold zbz zo9;rw [zaA h,Option.bind_some,zeN,if_neg (by rw [hh];simp),if_neg (by simpa using hl)];rfl
theorem zqW (h:ZT xs=true):zeM xs t:=(V2 h).1.mono t
variable{a:Option Addr}{c:Nat}
theorem zko.lrn (h:zko I cur ps)(hI:HLe I I')(hx:ps[i]? =some pe)(hT:NtM I t)(ht:QN t=true)(hh:zd0 pe.notes t=false)
  (hl:pe.n<4096)(hS:Sl I' 45 Zf a (pe.n+1) c (zgs pe.notes t)):zko I' (cur.set i (.slice a (pe.n+1) c)) (ps.set i ⟨a,pe.n+1,c,zgs pe.notes t⟩):=by
 have hm:=List.mem_of_getElem? hx;have hP:=h.nt pe hm;obtain ⟨v1,v2,v3⟩:=V2 (h.ok pe hm);have hlen:=hP.sl.len;refine ⟨fun j q hq=>?_,fun q hq=>?_,fun q hq=>?_⟩
 ·
  rw [List.getElem?_set] at hq;split at hq
  ·
   rename_i e;subst e;split at hq
   ·
    cases hq
    rw [List.getElem?_set_self (by
     have:=(List.getElem?_eq_some_iff.1 (h.at_ i pe hx)).1
     exact this)]
   ·
    cases hq
  ·
   rename_i e;rw [List.getElem?_set_ne e];exact h.at_ j q hq
 ·
  rcases List.mem_or_eq_of_mem_set hq with hq | rfl
  ·
   exact (h.nt q hq).mono hI
  ·
   refine ⟨hS,fun x hx=>?_,fun x hx hf=>?_⟩
   ·
    rcases zaw.1 hx with rfl | hx
    ·
     exact hT.nd.mono hI
    ·
     exact (hP.nd x hx).mono hI
   ·
    rcases zaw.1 hx with rfl | hx
    ·
     exact hT.mono hI
    ·
     exact (hP.m x hx hf).mono hI
 ·
  rcases List.mem_or_eq_of_mem_set hq with hq | rfl
  ·
   exact h.ok q hq
  ·
   refine XG (zoe v1 hh) (fun x hx=>?_) (by rw [zha];omega);rcases zaw.1 hx with rfl | hx
   ·
    exact ht
   ·
    exact v2 x hx
def Vi (p:Pk):Pk:={p with a:=none,n:=p.data.length,c:=0}
structure Rd where
 ps:List (List Nt)
 qs:List Pk
 ks:List (Int×Int)
def zeroR:Rd:=⟨[],[],[]⟩
def KJ (m:Nat)(p:Pk):Bool:= !(okN p.data).isSome||decide (zcU p.frm p.to_≥(m:Int))
def WQ (r:Rd):Int:=
 if ((decide ((r.ps.length:Int)<1)||decide ((r.ps.length:Int)>24))||Ud r.qs r.ks != 0)=true then 570
 else if r.ps.any (fun xs=> !ZT xs)=true then 570
 else if r.qs.any (KJ r.ps.length)=true then 570 else 0
def pkN (i k:Int)(t:Nt):Pk:=⟨i,k,none,(V1 t).length,0,V1 t⟩
def Jh (m:Nat)(i:Int)(t:Nt):List Pk:=((List.range m).filter fun (k:Nat)=>(k:Int) != i).map fun (k:Nat)=>pkN i k t
def isP (r:Rd)(i:Int):Bool:=decide (i≥0)&&decide (i<(r.ps.length:Int))
def Ua (r:Rd)(x:Ev):Int×Rd:=
 if isP r x.peer=true then
  if QN x.note=true then (match zbz r.ps x.peer.toNat x.note with
   | none=>(2,zeroR)
   | some P=>(0,⟨P,r.qs++Jh r.ps.length x.peer x.note,r.ks⟩))
  else (570,zeroR)
 else (1,zeroR)
def Xk (r:Rd)(x:Ev):Int×Rd:=
 if (isP r x.peer&&isP r x.to_&&x.peer != x.to_)=true then (0,⟨r.ps,r.qs++(r.ps.getD x.peer.toNat []).map (pkN x.peer x.to_),r.ks⟩) else (1,zeroR)
def za1 (r:Rd)(x:Ev):Int×Rd:=
 if atE r.qs r.ks x.at_≠0 then (atE r.qs r.ks x.at_,zeroR)
 else if (VN r.qs r.ks x.at_).frm=(VN r.qs r.ks x.at_).to_ then (0,⟨r.ps,r.qs.eraseIdx x.at_.toNat,r.ks⟩)
 else match (okN (VN r.qs r.ks x.at_).data).bind (zbz r.ps (VN r.qs r.ks x.at_).to_.toNat) with
  | none=>(2,zeroR)
  | some P=>(0,⟨P,r.qs.eraseIdx x.at_.toNat,r.ks⟩)
def zaZ (r:Rd)(x:Ev):Int×Rd:=if atE r.qs r.ks x.at_≠0 then (atE r.qs r.ks x.at_,zeroR) else (0,⟨r.ps,r.qs.eraseIdx x.at_.toNat,r.ks⟩)
def za8 (r:Rd)(x:Ev):Int×Rd:=if UE r.qs r.ks x.at_≠0 then (UE r.qs r.ks x.at_,zeroR) else (0,⟨r.ps,r.qs++[atP r.qs r.ks x.at_],r.ks⟩)
def zab (r:Rd)(x:Ev):Int×Rd:=
 if x.kind=1 then Ua r x else if x.kind=2 then Xk r x else if x.kind=3 then za1 r x else if x.kind=4 then zaZ r x else if x.kind=5 then za8 r x else (1,zeroR)
def doF (r:Rd)(x:Ev):Int×Rd:=if WQ r≠0 then (WQ r,zeroR) else zab r x
def Yz (x:Ev):Ev:={x with note:=YF x.note}
structure RmP (I:Qu)(pa:Option Addr)(pn pc:Nat)(qa:Option Addr)(qn qc:Nat)(aa:Option Addr)(an ac:Nat)(ps:List Pe)(qs:List Pk)(ks:List (Int×Int)):Prop where
 pe:Sl I 1 U4 pa pn pc ps
 nt:∀ x∈ps,WB I x.a x.n x.c x.notes
 q:Sl I 3 Q6 qa qn qc qs
 pk:∀ x∈qs,PkM I x
 k:Sl I 2 VI aa an ac ks
variable{pa qa aa:Option Addr}{pn pc qn qc an ac:Nat}{qs:List Pk}{ks:List (Int×Int)}
theorem RmP.mono (h:RmP I pa pn pc qa qn qc aa an ac ps qs ks)(hI:HLe I I'):RmP I' pa pn pc qa qn qc aa an ac ps qs ks:=
 ⟨h.pe.mono hI,fun x hx=>(h.nt x hx).mono hI,h.q.mono hI,fun x hx=>(h.pk x hx).mono hI,h.k.mono hI⟩
def YD (ps:List Pe)(qs:List Pk)(ks:List (Int×Int)):Rd:=⟨dtP ps,qs.map Vi,ks⟩
def RmV (I:Qu)(v:Value)(r:Rd):Prop:=∃ pa pn pc qa qn qc aa an ac ps qs,v= .agg #[.slice pa pn pc,.slice qa qn qc,.slice aa an ac]∧RmP I pa pn pc qa qn qc aa an ac ps qs r.ks∧YD ps qs r.ks=r
theorem ze1 {n:Nat}(h:WB I a n c xs):ZT (xs.map YF)=ZT xs:=by
 have hf:∀ x∈xs,QN (YF x)=QN x:=fun x hx=>KB (by
  have h1:Sl I 1 Z5 x.pt.a x.pt.n x.pt.c x.pt.needs:=h.nd x hx
  exact h1.len.symm)
 have hb:∀ (pre:List Nt) (x:Nt),x∈xs→zcQ (pre.map YF) (YF x)=zcQ pre x:=fun pre x hx=>by
  unfold zcQ;rw [hf x hx,List.getLast?_map]
  cases pre.getLast? with
  | none=>rfl
  | some y=>simp only [Option.map_some,zbb];rfl
 have hg:∀ (ys pre:List Nt),(∀ y∈ys,y∈xs)→zb8 (pre.map YF) (ys.map YF)=zb8 pre ys:=by
  intro ys
  induction ys with
  | nil=>intro pre _;rfl
  | cons y ys ih=>
   intro pre hys;rw [List.map_cons,zb8,zb8,hb pre y (hys y (List.mem_cons_self ..)),←ih (pre++[y]) (fun z hz=>hys z (List.mem_cons_of_mem _ hz))];simp
 unfold ZT;rw [←hg xs [] (fun _ h=>h)];simp
variable{β:Type}{q:α→Bool}{f:α→β}
theorem zhy {p:β→Bool}{xs:List α}(h:∀ x∈xs,p (f x)=q x):(xs.map f).any p=xs.any q:=by
 rw [List.any_map];exact zim h
theorem zlk (h:PkM I p):pkV (Vi p)=pkV p:=by
 have:=h.sl.len;unfold pkV Vi;simp only [this]
theorem UR (h:∀ x∈qs,PkM I x)(ks:List (Int×Int)):Ud (qs.map Vi) ks=Ud qs ks:=by
 unfold Ud;rw [zhy (q:=fun x=> !pkV x) (fun x hx=>by simp only [zlk (h x hx)]),List.length_map]
theorem Xh (h:∀ x∈qs,PkM I x)(ks:List (Int×Int))(i:Int):atE (qs.map Vi) ks i=atE qs ks i:=by
 unfold atE;rw [UR h,List.length_map]
theorem zho (h:∀ x∈qs,PkM I x)(ks:List (Int×Int))(i:Int):atP (qs.map Vi) ks i=Vi (atP qs ks i):=by
 unfold atP;rw [Xh h];split
 ·
  rw [List.getD_eq_getElem?_getD,List.getD_eq_getElem?_getD,List.getElem?_map];cases qs[i.toNat]? <;>rfl
 ·
  rfl
theorem zis (h:∀ x∈qs,PkM I x)(ks:List (Int×Int))(i:Int):VN (qs.map Vi) ks i=Vi (VN qs ks i):=by
 unfold VN;rw [zho h];have e:zjC ks (Vi (atP qs ks i))=zjC ks (atP qs ks i):=rfl;rw [e];split<;>rfl
theorem ziC :PkM I Wf:=⟨.nil,fun _ h=>by cases h⟩
theorem zoK (h:∀ x∈qs,PkM I x)(ks:List (Int×Int))(i:Int):PkM I (atP qs ks i):=by
 unfold atP;split
 ·
  rw [List.getD_eq_getElem?_getD]
  cases hx:qs[i.toNat]? with
  | none=>exact ziC
  | some x=>exact h x (List.mem_of_getElem? hx)
 ·
  exact ziC
theorem zfo (h:∀ x∈qs,PkM I x)(ks:List (Int×Int))(hp:PkM I p):KH (qs.map Vi) ks (Vi p)=KH qs ks p:=by
 unfold KH;rw [UR h,zlk hp,List.length_map]
theorem ziN (h:∀ x∈qs,PkM I x)(ks:List (Int×Int))(i:Int):UE (qs.map Vi) ks i=UE qs ks i:=by
 unfold UE;rw [Xh h,zho h,zfo h _ (zoK h ks i)]
theorem XL (f:α→β):∀ (l:List α) (j:Nat),(l.map f).eraseIdx j=(l.eraseIdx j).map f
 | [],_=>rfl
 | _::_,0=>rfl
 | x::l,j+1=>by simp [XL f l j]
structure NtW (x:Nt):Prop where
 ints:∀ y∈Y9 x, -9223372036854775808≤y∧y≤9223372036854775807
 needs:∀ y∈x.pt.needs, -9223372036854775808≤y∧y≤9223372036854775807
theorem zrj {xs:List S.Rt}{x:S.Rt}:∀ {bs:List (Int×S.Rt)} {last:Int},S.rGo (xs++[x]) bs last=0→∃ bs' last',S.rBad x bs' last'=false:=by
 induction xs with
 | nil=>
  intro bs last h;simp only [List.nil_append,S.rGo] at h;split at h
  ·
   cases h
  ·
   rename_i hb;exact ⟨bs,last,by simpa using hb⟩
 | cons y ys ih=>
  intro bs last h;simp only [List.cons_append,S.rGo] at h;split at h
  ·
   cases h
  ·
   exact ih h
theorem zqH {x:S.Rt}(h:S.rCheck (rtC x)=0):x.name.size≤32∧x.town.size≤32:=by
 obtain ⟨xs,hxs⟩:∃ xs,rtC x=xs++[x]:=by
  unfold rtC;split
  ·
   exact ⟨[],rfl⟩
  ·
   exact ⟨[_],rfl⟩
 rw [hxs] at h;unfold S.rCheck at h;split at h
 ·
  cases h
 ·
  obtain ⟨bs,last,hb⟩:=zrj h;unfold S.rBad at hb;simp only [Bool.or_eq_false_iff,Bool.not_eq_false'] at hb;have ha:=hb.2
  have hheld:S.heldF x=true→x.name.size≤32∧x.town.size≤32:=fun h=>by
   unfold S.heldF at h;simp only [Bool.and_eq_true] at h;have e:=S.rtEq_iff.1 h.1.1.1;have e1:x.name=⟨#[]⟩:=congrArg S.Rt.name e;have e2:x.town=⟨#[]⟩:=congrArg S.Rt.town e;rw [e1,e2];exact ⟨by decide,by decide⟩
  unfold S.askF at ha;split at ha
  ·
   unfold S.billF S.within at ha;simp only [Bool.and_eq_true,decide_eq_true_eq] at ha;omega
  ·
   split at ha
   ·
    exact hheld ha
   ·
    split at ha
    ·
     exact hheld ha
    ·
     unfold S.voidF at ha;split at ha
     ·
      cases ha
     ·
      simp only [Bool.and_eq_true] at ha;have e:=S.rtEq_iff.1 ha.2;have e1:x.name=⟨#[]⟩:=congrArg S.Rt.name e;have e2:x.town=⟨#[]⟩:=congrArg S.Rt.town e;rw [e1,e2];exact ⟨by decide,by decide⟩
variable{x:Nt}
theorem zal (hl:x.pt.needs.length=x.pt.n)(h:QN x=true):x.pt.needs.length≤32∧x.rt.name.size≤32∧x.rt.town.size≤32:=by
 unfold QN at h;simp only [Bool.and_eq_true,beq_iff_eq] at h;obtain ⟨h1,h2⟩:=h;unfold zaJ at h2;simp only [Bool.and_eq_true,Bool.or_eq_true,beq_iff_eq] at h2;obtain ⟨⟨⟨_,h3⟩,_⟩,h5⟩:=h2;constructor
 ·
  rcases h3 with hk | hz
  ·
   unfold W7 at h1;rw [if_neg kB,if_pos hk] at h1;unfold Uk at h1;split at h1
   ·
    cases h1
   ·
    omega
  ·
   unfold z2 at hz;simp only [Bool.and_eq_true,beq_iff_eq] at hz;omega
 ·
  rcases h5 with hk | hz
  ·
   unfold W7 at h1;rw [if_neg kB,if_neg kB,if_neg kB,if_pos hk] at h1;exact zqH h1
  ·
   have e:=S.rtEq_iff.1 hz;rw [e];exact ⟨by decide,by decide⟩
theorem zeX:∀ {l:List Va},(∀ v∈l,Va.ok v)→Va.okL l
 | [],_=>trivial
 | x::_l,h=>⟨h x (List.mem_cons_self ..),zeX fun v hv=>h v (List.mem_cons_of_mem _ hv)⟩
theorem Ux {b:Nat}:∀ {l:List Va},(∀ v∈l,(Va.enc v).length≤b)→(Va.encL l).length≤l.length*b
 | [],_=>by simp [Va.encL]
 | x::l,h=>by
  have h1:=h x (List.mem_cons_self ..);have h2:=Ux (l:=l) fun v hv=>h v (List.mem_cons_of_mem _ hv);simp only [Va.encL,List.length_append,List.length_cons,Nat.succ_mul];omega
variable{n:Int}
theorem UF (h: -9223372036854775808≤n∧n≤9223372036854775807):(Va.enc (.int n)).length≤11:=by
 have:=UI (zkW h);simp only [Va.enc,List.length_cons];omega
theorem JM (s:ByteArray):(Ur s).length=s.size:=by
 unfold Ur;rw [List.length_map,Array.length_toList];rfl
theorem zd8 (s:ByteArray):∀ c∈Ur s,c<256:=by
 intro c hc;unfold Ur at hc;obtain ⟨u,_,rfl⟩:=List.mem_map.1 hc;exact u.toNat_lt
variable{s:List Nat}
theorem K5 (h:s.length≤32):(Va.enc (.text s)).length≤34:=by
 rw [Va.enc,VC kB];simp only [List.length_cons,List.length_append,List.length_nil];omega
theorem zdJ (hw:NtW x)(hl:x.pt.needs.length=x.pt.n)(h:QN x=true):Va.ok (KQ x)∧(V1 x).length≤2000:=by
 obtain ⟨s1,s2,s3⟩:=zal hl h
 have hok:∀ v∈(Y9 x).map Va.int,Va.ok v:=fun v hv=>by
  obtain ⟨y,hy,rfl⟩:=List.mem_map.1 hv;exact hw.ints y hy
 have hon:∀ v∈x.pt.needs.map Va.int,Va.ok v:=fun v hv=>by
  obtain ⟨y,hy,rfl⟩:=List.mem_map.1 hv;exact hw.needs y hy
 have hb:(Va.encL ((Y9 x).map Va.int)).length≤462:=by
  have:=Ux (b:=11) (l:=(Y9 x).map Va.int) fun v hv=>by
   obtain ⟨y,hy,rfl⟩:=List.mem_map.1 hv;exact UF (hw.ints y hy)
  rw [List.length_map,Y8] at this;omega
 have hn:(Va.encL (x.pt.needs.map Va.int)).length≤352:=by
  have:=Ux (b:=11) (l:=x.pt.needs.map Va.int) fun v hv=>by
   obtain ⟨y,hy,rfl⟩:=List.mem_map.1 hv;exact UF (hw.needs y hy)
  rw [List.length_map] at this;have h2:=Nat.mul_le_mul_right 11 s1;omega
 constructor
 ·
  refine ⟨by simp [Y8],zeX fun v hv=>?_⟩;rw [List.mem_append] at hv;rcases hv with hv | hv
  ·
   exact hok v hv
  ·
   simp only [List.mem_cons,List.not_mem_nil,or_false] at hv;rcases hv with rfl | rfl | rfl
   ·
    exact ⟨by rw [List.length_map];omega,zeX hon⟩
   ·
    exact ⟨zd8 _,by rw [JM];omega⟩
   ·
    exact ⟨zd8 _,by rw [JM];omega⟩
 ·
  have e1:=K5 (s:=Ur x.rt.name) (by rw [JM];exact s2);have e2:=K5 (s:=Ur x.rt.town) (by rw [JM];exact s3)
  have e3:(Va.enc (.list (x.pt.needs.map Va.int))).length≤354:=by
   rw [Va.enc,List.length_map,VC kB];simp only [List.length_cons,List.length_append,List.length_nil];omega
  unfold V1 KQ;rw [Va.enc,VC (by simp [Y8])];simp only [List.length_cons,List.length_append,List.length_nil,Va.encL_append,Va.encL];omega
theorem zf5 (hw:NtW x)(hN:Nd I x.pt)(h:QN x=true):NtM I x:=by
 have hl:Sl I 1 Z5 x.pt.a x.pt.n x.pt.c x.pt.needs:=hN;obtain ⟨h1,h2⟩:=zdJ hw hl.len h;have:=(zal hl.len h).1;have:=hl.len;exact ⟨hN,kB,h1,kB⟩
theorem zwZ (hok:Va.ok (KQ x))(h:QN (YF x)=true):okN (V1 x)=some (YF x):=by
 have d:=zec (KQ x) (d:=16) (r:=[]) hok (JK x);rw [List.append_nil] at d;unfold okN zad;show (match Kl 16 (Va.enc (KQ x)) with | some (x,[])=>some x | _=>none).bind _=_;rw [d];simp only [Option.bind_some];rw [zgw,Option.bind_some,if_pos h]
def TkN (t:Nt):Prop:=Va.ok (KQ t)∧QN (YF t)=true∧(V1 t).length≤2000
structure PkG (m:Nat)(told:List Nt)(p:Pk):Prop where
 frm:0≤p.frm∧p.frm<(m:Int)
 to_:0≤p.to_∧p.to_<(m:Int)
 ne:p.frm≠p.to_
 n:p.n=p.data.length
 data:∃ t∈told,p.data=V1 t
structure Kn (m:Nat)(r:Rd)(told:List Nt):Prop where
 m0:1≤m∧m≤24
 len:r.ps.length=m
 ks:r.ks=[]
 val:∀ xs∈r.ps,ZT xs=true
 mem:∀ xs∈r.ps,∀ y∈xs,∃ t∈told,YF t=y
 pk:∀ p∈r.qs,PkG m told p
 tok:∀ t∈told,TkN t
theorem zd3 (h:TkN t):okN (V1 t)=some (YF t):=zwZ h.1 h.2.1
variable{m:Nat}{told:List Nt}
theorem PkG.read (h:PkG m told p)(ht:∀ t∈told,TkN t):∃ t∈told,okN p.data=some (YF t):=by
 obtain ⟨t,h1,h2⟩:=h.data;exact ⟨t,h1,by rw [h2];exact zd3 (ht t h1)⟩
theorem PkG.more (h:PkG m told p)(l:List Nt):PkG m (told++l) p:=
 ⟨h.frm,h.to_,h.ne,h.n,let ⟨t,h1,h2⟩:=h.data;⟨t,List.mem_append_left _ h1,h2⟩⟩
theorem PkG.ok (h:PkG m told p)(hm:m≤24)(ht:∀ t∈told,TkN t):pkV p=true:=by
 obtain ⟨t,h1,h2⟩:=h.data;have h3:=(ht t h1).2.2;have h4:=h.n;have h5:=h.frm;have h6:=h.to_;have h7:=h.ne;rw [h2] at h4;unfold pkV lkV zk8 zcU;simp only [Bool.and_eq_true,decide_eq_true_eq];split<;>split<;>omega
theorem zpG (hl:qs.length≤4096)(h:∀ p∈qs,pkV p=true):Ud qs []=0:=by
 refine zgz ?_ (fun j y hj=>by simp at hj);rw [Bool.or_eq_false_iff];refine ⟨by simp only [decide_eq_false_iff_not];omega,?_⟩;rw [List.any_eq_false];intro p hp;simp [h p hp]
variable{r:Rd}
theorem Kn.net (h:Kn m r told)(hq:r.qs.length≤4096):Ud r.qs r.ks=0:=by
 rw [h.ks];exact zpG hq fun p hp=>(h.pk p hp).ok h.m0.2 h.tok
theorem Kn.chk (h:Kn m r told)(hq:r.qs.length≤4096):WQ r=0:=by
 have hm:=h.m0;have hl:=h.len;unfold WQ;rw [if_neg,if_neg,if_neg]
 ·
  rw [Bool.not_eq_true,List.any_eq_false];intro p hp;obtain ⟨t,h1,h2⟩:=(h.pk p hp).read h.tok;have h3:=(h.pk p hp).frm;have h4:=(h.pk p hp).to_;have h5:zcU p.frm p.to_<(m:Int):=(by unfold zcU;split<;>omega);unfold KJ;rw [h2,hl];simp only [Option.isSome_some,Bool.not_true,Bool.false_or,decide_eq_true_eq];omega
 ·
  rw [Bool.not_eq_true,List.any_eq_false];intro xs hx;simp [h.val xs hx]
 ·
  rw [h.net hq];simp;omega
variable{ys:List Nt}
/-! ### Learning -/
theorem zh1 (h:zo9 xs t=some ys):(∀ y∈ys,y∈xs∨y=t)∧(∀ y∈xs,y∈ys)∧ys.length≤xs.length+1:=by
 unfold zo9 at h;split at h
 ·
  cases h;exact ⟨fun y hy=>.inl hy,fun y hy=>hy,kB⟩
 ·
  split at h
  ·
   cases h;exact ⟨fun y hy=>(zaw.1 hy).symm,fun y hy=>zaw.2 (.inr hy),by rw [zha];omega⟩
  ·
   cases h
theorem zdz (h:zo9 xs t=some ys)(hv:ZT xs=true)(ht:QN t=true):ZT ys=true:=by
 unfold zo9 at h;split at h
 ·
  cases h;exact hv
 ·
  rename_i hh;split at h
  ·
   cases h;obtain ⟨v1,v2,v3⟩:=V2 hv;refine XG (zoe v1 (by simpa using hh)) (fun x hx=>?_) (by rw [zha];omega);rcases zaw.1 hx with rfl | hx
   ·
    exact ht
   ·
    exact v2 x hx
  ·
   cases h
variable{P P':List (List Nt)}
theorem ze9 (h:zbz P i t=some P'):∃ xs ys,P[i]? =some xs∧zo9 xs t=some ys∧P'=P.set i ys:=by
 unfold zbz at h
 cases hx:P[i]? with
 | none=>rw [hx] at h;cases h
 | some xs=>
  rw [hx,Option.bind_some] at h
  cases hy:zo9 xs t with
  | none=>rw [hy] at h;cases h
  | some ys=>rw [hy] at h;cases h;exact ⟨xs,ys,rfl,hy,rfl⟩
def Grow (P P':List (List Nt)):Prop:=∀ (i:Nat) (xs ys:List Nt),P[i]? =some xs→P'[i]? =some ys→∀ y∈xs,y∈ys
theorem XE (P:List (List Nt)):Grow P P:=fun i xs ys h1 h2 y hy=>by rw [h1] at h2;cases h2;exact hy
theorem zmW (h:zbz P i (YF t)=some P')(ht:t∈told)(hf:QN (YF t)=true)(hv:∀ xs∈P,ZT xs=true)(hm:∀ xs∈P,∀ y∈xs,∃ t∈told,YF t=y):
  P'.length=P.length∧(∀ xs∈P',ZT xs=true)∧(∀ xs∈P',∀ y∈xs,∃ t∈told,YF t=y)∧Grow P P':=by
 obtain ⟨xs,ys,h1,h2,rfl⟩:=ze9 h;have hx:=List.mem_of_getElem? h1;obtain ⟨m1,m2,_⟩:=zh1 h2;refine ⟨by simp,fun zs hz=>?_,fun zs hz y hy=>?_,fun j us vs hu hw y hy=>?_⟩
 ·
  rcases List.mem_or_eq_of_mem_set hz with hz | rfl
  ·
   exact hv zs hz
  ·
   exact zdz h2 (hv xs hx) hf
 ·
  rcases List.mem_or_eq_of_mem_set hz with hz | rfl
  ·
   exact hm zs hz y hy
  ·
   rcases m1 y hy with hy | rfl
   ·
    exact hm xs hx y hy
   ·
    exact ⟨t,ht,rfl⟩
 ·
  rw [List.getElem?_set] at hw;split at hw
  ·
   rename_i e;subst e;rw [h1] at hu;cases hu;split at hw
   ·
    cases hw;exact m2 y hy
   ·
    cases hw
  ·
   rw [hu] at hw;cases hw;exact hy
theorem Kn.more (h:Kn m r told)(ht:TkN t):Kn m r (told++[t]):=
 ⟨h.m0,h.len,h.ks,h.val,fun xs hx y hy=>let ⟨u,h1,h2⟩:=h.mem xs hx y hy;⟨u,List.mem_append_left _ h1,h2⟩,fun p hp=>(h.pk p hp).more _,fun u hu=>by
  rcases List.mem_append.1 hu with hu | hu
  ·
   exact h.tok u hu
  ·
   rw [List.mem_singleton] at hu;subst hu;exact ht⟩
/-! ### Events -/
theorem zbf {i:Int}(h:p∈Jh m i t):∃ k:Nat,k<m∧(k:Int)≠i∧p=pkN i k t:=by
 unfold Jh at h;obtain ⟨k,hk,rfl⟩:=List.mem_map.1 h;rw [List.mem_filter,List.mem_range] at hk;exact ⟨k,hk.1,by simpa using hk.2,rfl⟩
theorem zbv (m:Nat)(i:Int)(t:Nt):(Jh m i t).length≤m:=by
 unfold Jh;rw [List.length_map];exact Nat.le_trans (List.length_filter_le ..) kJ
variable{u:Nt}
theorem zjo {i k:Int}(hi:0≤i∧i<(m:Int))(hk:0≤k∧k<(m:Int))(hne:i≠k)(hu:u∈told)(e:YF u=YF t):PkG m told (pkN i k t):=
 ⟨hi,hk,hne,rfl,u,hu,by
  show V1 t=V1 u;have e2:KQ t=KQ u:=by rw [←zik t,←e,zik]
  unfold V1;rw [e2]⟩
theorem zgP {i:Int}:isP r i=true↔0≤i∧i<(r.ps.length:Int):=by simp [isP]
theorem zdI {i:Int}(h:atE qs ks i=0):atP qs ks i∈qs:=by
 have hr:=WL h;unfold atP;rw [if_pos h,List.getD_eq_getElem?_getD,List.getElem?_eq_getElem kB,Option.getD_some];exact List.getElem_mem _
theorem zh2 {i:Int}:VN qs [] i=atP qs [] i:=if_neg (by simp [zjC])
theorem Kn.step {r':Rd}{x:Ev}(h:Kn m r told)(hq:r.qs.length≤4096)(hx:x.kind=1→QN (YF x.note)=true→TkN x.note)(hd:doF r (Yz x)=(0,r')):
  Kn m r' (if x.kind=1 then told++[x.note] else told)∧Grow r.ps r'.ps∧r'.qs.length≤r.qs.length+max m (max 1 ((r.ps.map List.length).foldl max 0)):=by
 have hc:=h.chk hq;unfold doF at hd;rw [if_neg (by rw [hc];simp)] at hd;unfold zab at hd
 have hmx:∀ (l:List Nat) (a:Nat),a≤l.foldl max a∧∀ b∈l,b≤l.foldl max a:=by
  intro l
  induction l with
  | nil=>intro a;exact ⟨Nat.le_refl _,fun b hb=>by cases hb⟩
  | cons c l ih=>
   intro a;rw [List.foldl_cons];obtain ⟨h1,h2⟩:=ih (max a c);refine ⟨kB,fun b hb=>?_⟩;rcases List.mem_cons.1 hb with rfl | hb
   ·
    omega
   ·
    exact h2 b hb
 split at hd
 ·
  -- told
  rename_i hk;have hk:x.kind=1:=hk;rw [if_pos hk];unfold Ua at hd;split at hd
  ·
   rename_i hi;have hi:=zgP.1 hi;split at hd
   ·
    rename_i hf;have hf:QN (YF x.note)=true:=hf;split at hd
    ·
     cases hd
    ·
     rename_i P hP;have hP:zbz r.ps x.peer.toNat (YF x.note)=some P:=hP;cases hd;have ht:=hx hk hf;have h2:=h.more ht;obtain ⟨l1,l2,l3,l4⟩:=zmW hP (told:=told++[x.note]) kJ hf h2.val h2.mem;refine ⟨⟨h.m0,by rw [←h.len];exact l1,h.ks,l2,l3,fun p hp=>?_,h2.tok⟩,l4,?_⟩
     ·
      rcases List.mem_append.1 hp with hp | hp
      ·
       exact h2.pk p hp
      ·
       obtain ⟨k,hk,hne,rfl⟩:=zbf hp;rw [h.len] at hk hi;exact zjo hi ⟨kB,kB⟩ (fun e=>hne e.symm) (u:=x.note) kJ rfl
     ·
      have:=zbv r.ps.length x.peer (YF x.note);have hl:=h.len;show (r.qs++Jh r.ps.length x.peer (YF x.note)).length≤_;rw [List.length_append];omega
   ·
    cases hd
  ·
   cases hd
 ·
  rename_i hk;have hk:¬x.kind=1:=hk;rw [if_neg hk];split at hd
  ·
   unfold Xk at hd;split at hd
   ·
    rename_i hi;simp only [Bool.and_eq_true,zgP] at hi;obtain ⟨⟨i1,i2⟩,i3⟩:=hi;have i1:0≤x.peer∧x.peer<(r.ps.length:Int):=i1;have i2:0≤x.to_∧x.to_<(r.ps.length:Int):=i2;have i3:x.peer≠x.to_:=bne_iff_ne.1 i3;cases hd;obtain ⟨xs,hxs⟩:∃ xs,r.ps[x.peer.toNat]? =some xs:=⟨_,List.getElem?_eq_getElem kB⟩
    have e:r.ps.getD (Yz x).peer.toNat []=xs:=by
     show r.ps.getD x.peer.toNat []=xs;rw [List.getD_eq_getElem?_getD,hxs];rfl
    have hm:=List.mem_of_getElem? hxs;simp only [e];refine ⟨⟨h.m0,h.len,h.ks,h.val,h.mem,fun p hp=>?_,h.tok⟩,XE _,?_⟩
    ·
     rcases List.mem_append.1 hp with hp | hp
     ·
      exact h.pk p hp
     ·
      obtain ⟨y,hy,rfl⟩:=List.mem_map.1 hp;obtain ⟨t,ht,e⟩:=h.mem xs hm y hy;rw [h.len] at i1 i2;exact zjo i1 i2 i3 ht (by rw [←e];rfl)
    ·
     rw [List.length_append,List.length_map];have:=(hmx (r.ps.map List.length) 0).2 xs.length (List.mem_map.2 ⟨xs,hm,rfl⟩);omega
   ·
    cases hd
  ·
   split at hd
   ·
    unfold za1 at hd;split at hd
    ·
     rename_i hz;exact absurd (congrArg Prod.fst hd) hz
    ·
     rename_i hz;have hz:atE r.qs r.ks x.at_=0:=Decidable.not_not.1 hz;have hmem:=zdI hz;have hdl:VN r.qs r.ks x.at_=atP r.qs r.ks x.at_:=(by rw [h.ks];exact zh2);have hg:=h.pk _ hmem;have hle:(r.qs.eraseIdx x.at_.toNat).length≤r.qs.length:=(List.eraseIdx_sublist ..).length_le;have hsub:∀ p∈r.qs.eraseIdx x.at_.toNat,p∈r.qs:=fun p hp=>(List.eraseIdx_sublist ..).mem hp;split at hd
     ·
      cases hd;exact ⟨⟨h.m0,h.len,h.ks,h.val,h.mem,fun p hp=>h.pk p (hsub p hp),h.tok⟩,XE _,Nat.le_trans hle kB⟩
     ·
      split at hd
      ·
       cases hd
      ·
       rename_i P hP;cases hd;obtain ⟨t,ht,e⟩:=hg.read h.tok;have hP:(okN (VN r.qs r.ks x.at_).data).bind (zbz r.ps (VN r.qs r.ks x.at_).to_.toNat)=some P:=hP;rw [hdl,e,Option.bind_some] at hP;obtain ⟨l1,l2,l3,l4⟩:=zmW hP ht (h.tok t ht).2.1 h.val h.mem;exact ⟨⟨h.m0,by rw [←h.len];exact l1,h.ks,l2,l3,fun p hp=>h.pk p (hsub p hp),h.tok⟩,l4,Nat.le_trans hle kB⟩
   ·
    split at hd
    ·
     unfold zaZ at hd;split at hd
     ·
      rename_i hz;exact absurd (congrArg Prod.fst hd) hz
     ·
      cases hd;have hle:(r.qs.eraseIdx x.at_.toNat).length≤r.qs.length:=(List.eraseIdx_sublist ..).length_le;exact ⟨⟨h.m0,h.len,h.ks,h.val,h.mem,fun p hp=>h.pk p ((List.eraseIdx_sublist ..).mem hp),h.tok⟩,XE _,Nat.le_trans hle kB⟩
    ·
     split at hd
     ·
      unfold za8 at hd;split at hd
      ·
       rename_i hz;exact absurd (congrArg Prod.fst hd) hz
      ·
       rename_i hz;cases hd;have hz:UE r.qs r.ks x.at_=0:=Decidable.not_not.1 hz
       have ha:atE r.qs r.ks x.at_=0:=by
        unfold UE at hz;split at hz
        ·
         assumption
        ·
         exact hz
       refine ⟨⟨h.m0,h.len,h.ks,h.val,h.mem,fun p hp=>?_,h.tok⟩,XE _,?_⟩
       ·
        rcases List.mem_append.1 hp with hp | hp
        ·
         exact h.pk p hp
        ·
         rw [List.mem_singleton] at hp;subst hp;exact h.pk _ (zdI ha)
       ·
        rw [List.length_append,List.length_singleton];omega
     ·
      cases hd
variable{bs:List Nat}{cs:List Value}{b:Bool}
theorem zez (h:zwo bs I cs b)(hs:(okN bs).isSome=true):∃ x,b=true∧cs=Zf x∧Nd I x.pt∧okN bs=some (YF x):=by
 rcases h.2 with ⟨_,h2⟩ | ⟨h1,x,h2,h3,h4⟩
 ·
  rw [h2] at hs;cases hs
 ·
  exact ⟨x,h1,h2,h3,h4⟩
theorem zfh (hb:∀ c∈bs,c<256)(hn:bs.length≤100000)(h:okN bs=some (YF x))(hN:Nd I x.pt):QN x=true:=by
 obtain ⟨_,_,h3⟩:=zei hb kB h;have hN2:Sl I 1 Z5 x.pt.a x.pt.n x.pt.c x.pt.needs:=hN;rw [KB hN2.len.symm] at h3;exact h3
theorem zhw {i:Int}(he:atE qs ks i=0)(hne:(VN qs ks i).frm≠(VN qs ks i).to_):VN qs ks i∈qs:=by
 unfold VN at hne ⊢;split at hne
 ·
  exact absurd rfl hne
 ·
  rename_i h;rw [if_neg h];exact zdI he
theorem zhN (h:KJ m p=false):(okN p.data).isSome=true∧p.frm<(m:Int)∧p.to_<(m:Int):=by
 unfold KJ at h;rw [Bool.or_eq_false_iff] at h;obtain ⟨h1,h2⟩:=h;refine ⟨by simpa using h1,?_⟩;simp only [decide_eq_false_iff_not] at h2;unfold zcU at h2;split at h2<;>omega
section
variable {I:Qu} {P:List (List Nt)} {qs:List Pk} {ks:List (Int×Int)} {x:Ev}
theorem zkA (hpk:∀ q∈qs,PkM I q)(ne:atE qs ks x.at_≠0):za1 ⟨P,qs.map Vi,ks⟩ (Yz x)=(atE qs ks x.at_,zeroR):=by
 unfold za1;have e:atE (qs.map Vi) ks (Yz x).at_=atE qs ks x.at_:=Xh hpk ks x.at_;simp only [e,if_pos ne]
theorem zlB (hpk:∀ q∈qs,PkM I q)(he:atE qs ks x.at_=0)(h:(VN qs ks x.at_).frm=(VN qs ks x.at_).to_):za1 ⟨P,qs.map Vi,ks⟩ (Yz x)=(0,⟨P,(qs.eraseIdx x.at_.toNat).map Vi,ks⟩):=by
 unfold za1;have e:atE (qs.map Vi) ks (Yz x).at_=0:=(by rw [←he];exact Xh hpk ks x.at_);have e2:VN (qs.map Vi) ks (Yz x).at_=Vi (VN qs ks x.at_):=zis hpk ks x.at_;have e3:(Vi (VN qs ks x.at_)).frm=(Vi (VN qs ks x.at_)).to_:=h;simp only [e,e2,if_pos e3,ne_eq,not_true_eq_false,if_false];rw [XL];rfl
theorem zsC (hpk:∀ q∈qs,PkM I q)(he:atE qs ks x.at_=0)(h:(VN qs ks x.at_).frm≠(VN qs ks x.at_).to_){t:Nt}(hok:okN (VN qs ks x.at_).data=some t):za1 ⟨P,qs.map Vi,ks⟩ (Yz x)=(match zbz P (VN qs ks x.at_).to_.toNat t with
  | none=>(2,zeroR)
  | some P'=>(0,⟨P',(qs.eraseIdx x.at_.toNat).map Vi,ks⟩)):=by
 unfold za1;have e:atE (qs.map Vi) ks (Yz x).at_=0:=(by rw [←he];exact Xh hpk ks x.at_);have e2:VN (qs.map Vi) ks (Yz x).at_=Vi (VN qs ks x.at_):=zis hpk ks x.at_;have e3:¬(Vi (VN qs ks x.at_)).frm=(Vi (VN qs ks x.at_)).to_:=h;have e4:okN (Vi (VN qs ks x.at_)).data=some t:=hok;simp only [e,e2,if_neg e3,ne_eq,not_true_eq_false,if_false,e4,Option.bind_some];have e5:(Vi (VN qs ks x.at_)).to_=(VN qs ks x.at_).to_:=rfl;rw [e5,XL];rfl
theorem zmM (hpk:∀ q∈qs,PkM I q)(he:atE qs ks x.at_=0)(h:(VN qs ks x.at_).frm≠(VN qs ks x.at_).to_){t:Nt}(hok:okN (VN qs ks x.at_).data=some t)(hl:zbz P (VN qs ks x.at_).to_.toNat t=none):za1 ⟨P,qs.map Vi,ks⟩ (Yz x)=(2,zeroR):=by
 rw [zsC hpk he h hok,hl]
theorem zhE (hpk:∀ q∈qs,PkM I q)(he:atE qs ks x.at_=0)(h:(VN qs ks x.at_).frm≠(VN qs ks x.at_).to_){t:Nt}(hok:okN (VN qs ks x.at_).data=some t){P':List (List Nt)}(hl:zbz P (VN qs ks x.at_).to_.toNat t=some P'):za1 ⟨P,qs.map Vi,ks⟩ (Yz x)=(0,⟨P',(qs.eraseIdx x.at_.toNat).map Vi,ks⟩):=by
 rw [zsC hpk he h hok,hl]
end
variable{j:Nat}
theorem UC :∀ q∈l.eraseIdx j,q∈l:=fun _ hq=>(List.eraseIdx_sublist ..).mem hq
theorem zkv:Fun Tryz.prog 109:=.of Tryz.func109 kA kA
theorem zcG:Fun Tryz.prog 113:=.of Tryz.func113 kA kA
theorem zk3:Fun Tryz.prog 62:=.of Tryz.func62 kA kA
variable{bc bp:Nat}
theorem zie {j:Int}(hj:j=(i:Int))(hP:zko I cur ps)(hpl:ps.length=pn)(hi:i<pn)(hpn:pn≤100000)(hT:NtM I t)(ht:QN t=true):Ui Tryz.prog 109 [ZI bc,.int .i64 j,J0 t] I [(bc,.cells #[.slice (some ⟨bp,0,none⟩) pn pc,.slice qa qn qc,.slice aa an ac] 108 (0,0)),(bp,.cells (cur).toArray 59 (0,0))] (fun v I' L'=>v= .tuple #[]∧∃ cur' ps',L'=[(bc,.cells #[.slice (some ⟨bp,0,none⟩) pn pc,.slice qa qn qc,.slice aa an ac] 108 (0,0)),(bp,.cells (cur').toArray 59 (0,0))]∧zko I' cur' ps'∧ps'.length=pn∧zbz (dtP ps) i (YF t)=some (dtP ps')) (fun v=>v= .iface 50 (.int .i64 2)∧zbz (dtP ps) i (YF t)=none):=by
 subst hj;obtain ⟨pe,hx⟩:∃ pe,ps[i]? =some pe:=⟨_,List.getElem?_eq_getElem kB⟩;have hm:=List.mem_of_getElem? hx;obtain ⟨v1,v2,v3⟩:=V2 (hP.ok pe hm);have hlen:=(hP.nt pe hm).sl.len;refine (ztA (hP.at_ i pe hx) hi hpn (hP.nt pe hm) v2 hT (v1.mono t) kB).mono (fun v I' L' hI ⟨hv,h⟩=>⟨hv,?_⟩) (fun v ⟨hv,hh,hn⟩=>⟨hv,zop hx hh kB⟩);rcases h with ⟨hh,rfl⟩ | ⟨hh,hl,a,c,rfl,hS⟩
 ·
  exact ⟨cur,ps,rfl,hP.mono hI,hpl,zh4 hx hh⟩
 exact ⟨_,_,rfl,hP.lrn hI hx hT ht hh hl hS,by simpa using hpl,ziP hx hh kB _ _ _⟩
theorem zkF (hP:zko I cur ps)(hpl:ps.length=pn)(hpn:pn≤100000)(hQ:Sl I 3 Q6 qa qn qc qs)(hqn:qn≤100000)(hpk:∀ q∈qs,PkM I q)(hA:Sl I 2 VI aa an ac ks)(han:an≤100000)(x:Ev)(hg:∀ q∈qs,KJ pn q=false)(hdl:∀ q∈qs,q.n≤100000)(hz0:∀ q∈qs,0≤q.frm∧0≤q.to_):Ui Tryz.prog 48 [ZI bc,.agg (U3 x).toArray] I [(bc,.cells #[.slice (some ⟨bp,0,none⟩) pn pc,.slice qa qn qc,.slice aa an ac] 108 (0,0)),(bp,.cells (cur).toArray 59 (0,0))] (fun v I' L'=>v= .tuple #[]∧(za1 ⟨dtP ps,qs.map Vi,ks⟩ (Yz x)).1=0∧∃ cur' ps' a m c qs',L'=[(bc,.cells #[.slice (some ⟨bp,0,none⟩) pn pc,.slice a m c,.slice aa an ac] 108 (0,0)),(bp,.cells (cur').toArray 59 (0,0))]∧zko I' cur' ps'∧ps'.length=pn∧Sl I' 3 Q6 a m c qs'∧(∀ q∈qs',q∈qs)∧(za1 ⟨dtP ps,qs.map Vi,ks⟩ (Yz x)).2=⟨dtP ps',qs'.map Vi,ks⟩) (fun v=>v= .iface 50 (.int .i64 (za1 ⟨dtP ps,qs.map Vi,ks⟩ (Yz x)).1)∧(za1 ⟨dtP ps,qs.map Vi,ks⟩ (Yz x)).1≠0):=by
 intro g H w hw;refine qe Tryz.func48 Tryz.ntmps48 hw ?_;have hIc:=zB6 I;refine zR<|QK rfl rfl rfl (fun b_3=>Qb<|QF .here (fun I1 hI1 hb1=>?_))
 have hP:=hP.mono hI1;have hQ:=hQ.mono hI1;have hA:=hA.mono hI1;have hIc:=hIc.trans hI1;have h3:=BxI.of hb1;refine Qd ?_;refine zY [(0,_)] (fun T L0 E I' loc'=>∃ (p4 p5:Nat) (pk:Pk) (a5:Option Addr) (m5 c5:Nat) (a6:Option Addr) (m6 c6:Nat),E=(4,ZI p4)::(5,ZI p5)::(6,.int .i64 (atE qs ks x.at_))::T∧HLe I1 I'∧[(bc,.cells #[.slice (some ⟨bp,0,none⟩) pn pc,.slice qa qn qc,.slice aa an ac] 108 (0,0)),(bp,.cells (cur).toArray 59 (0,0))]=loc'∧BxI I' p4 (.cells (Q6 pk).toArray 99 (0,0))∧BxI I' p5 (.cells #[.slice a5 m5 c5,.slice a6 m6 c6] 26 (0,0))∧(atE qs ks x.at_=0→pk=VN qs ks x.at_)∧zdC I' (atE qs ks x.at_) a5 m5 c5 a6 m6 c6 (qs.eraseIdx x.at_.toNat) aa an ac) ?_ ?_
 ·
  have hKc1:=zB6 I1;have hD:=zB6 I1;refine QJ I1 [(bc,.cells #[.slice (some ⟨bp,0,none⟩) pn pc,.slice qa qn qc,.slice aa an ac] 108 (0,0)),(bp,.cells (cur).toArray 59 (0,0))] mixed<|zT 0 rfl (Qe rfl) hD<|zT 1 rfl (QC rfl) hD<|zT 2 rfl (Qa rfl Yt) hD<|zT 3 rfl (Qa rfl ZH) hD<|zT 4 rfl (Qg rfl Zl (fun hg=>by exact Cells.s0 (vs:=[_,_]) rfl) rfl) hD<|zT 5 rfl (Qa rfl WK) hD<|zT 6 rfl (Qc rfl Ql (fun hg=>by exact Qy.imm h3.out rfl)) hD ?_
  refine VD 7 12 13 rfl rfl rfl kA ?_ ?_ ?_
  ·
   refine zpc [_,_] rfl zcG .nil (Wl hQ hqn hA han x.at_) ?_;rintro vv2 I2 L2 hI2 ⟨pk,a5,m5,c5,a6,m6,c6,rfl,rfl,hpe,hZ⟩;have hKc1:=hKc1.trans hI2;have hD:=hD.trans hI2;refine Qb<|zD hD<|zT 8 rfl (Qe rfl) hD<|zT 9 rfl (QS rfl rfl) hD<|zT 10 rfl (QS rfl rfl) hD<|zT 11 rfl (QS rfl rfl) hD ?_
   refine QU 12 13 rfl rfl kA ?_ ?_
   focus
    refine Qp XM rfl rfl (fun b_4=>Qb<|zD hD<|qd 13 rfl<|Qp JC rfl rfl (fun b_5=>?_))
   rotate_left
   refine Qp JC rfl rfl (fun b_5=>Qb<|zD hD<|qd 12 rfl<|Qp XM rfl rfl (fun b_4=>?_))
   all_goals
    refine Qb<|zD hD<|qd 14 rfl ?_
    refine zh VE ?_;refine QV (b:=b_4) (by repeat (first | exact Z1.here | apply Z1.there)) (fun I5 hI5 hb5=>?_);have hZ:=hZ.mono hI5;have hKc1:=hKc1.trans hI5;have hD:=hD.trans hI5;have h4:=BxI.of hb5;refine Qb<|zD hD<|qd 15 rfl ?_
    refine zh ZO ?_;refine QV (b:=b_5) (by repeat (first | exact Z1.here | apply Z1.there)) (fun I6 hI6 hb6=>?_);have hZ:=hZ.mono hI6;have h4:=h4.mono hI6;have hKc1:=hKc1.trans hI6;have hD:=hD.trans hI6;have h5:=BxI.of hb6;exact Qb<|zD hD<|zT 16 rfl (QB rfl) hD<|Qn kA<|zm (h:=⟨_,_,_,_,_,_,_,_,_,rfl,hKc1,rfl,h4,h5,hpe,hZ⟩)
  ·
   refine Qp XM rfl rfl (fun b_4=>Qb<|zD hD ?_);refine QU 7 13 rfl rfl kA ?_ ?_
   focus
    refine zpc [_,_] rfl zcG .nil (Wl hQ hqn hA han x.at_) ?_;rintro vv7 I7 L7 hI7 ⟨pk,a5,m5,c5,a6,m6,c6,rfl,rfl,hpe,hZ⟩;have hKc1:=hKc1.trans hI7;have hD:=hD.trans hI7;refine Qb<|zD hD<|zT 8 rfl (Qe rfl) hD<|zT 9 rfl (QS rfl rfl) hD<|zT 10 rfl (QS rfl rfl) hD<|zT 11 rfl (QS rfl rfl) hD<|qd 13 rfl<|Qp JC rfl rfl (fun b_5=>Qb<|zD hD ?_)
   rotate_left
   refine Qp JC rfl rfl (fun b_5=>Qb<|zD hD<|qd 7 rfl<|zpc [_,_] rfl zcG .nil (Wl hQ hqn hA han x.at_) ?_);rintro vv10 I10 L10 hI10 ⟨pk,a5,m5,c5,a6,m6,c6,rfl,rfl,hpe,hZ⟩;have hKc1:=hKc1.trans hI10;have hD:=hD.trans hI10;refine Qb<|zD hD<|zT 8 rfl (Qe rfl) hD<|zT 9 rfl (QS rfl rfl) hD<|zT 10 rfl (QS rfl rfl) hD<|zT 11 rfl (QS rfl rfl) hD ?_
   all_goals
    refine qd 14 rfl ?_;refine zh VE ?_;refine QV (b:=b_4) (by repeat (first | exact Z1.here | apply Z1.there)) (fun I11 hI11 hb11=>?_);have hZ:=hZ.mono hI11;have hKc1:=hKc1.trans hI11;have hD:=hD.trans hI11;have h4:=BxI.of hb11;refine Qb<|zD hD<|qd 15 rfl ?_
    refine zh ZO ?_;refine QV (b:=b_5) (by repeat (first | exact Z1.here | apply Z1.there)) (fun I12 hI12 hb12=>?_);have hZ:=hZ.mono hI12;have h4:=h4.mono hI12;have hKc1:=hKc1.trans hI12;have hD:=hD.trans hI12;have h5:=BxI.of hb12;exact Qb<|zD hD<|zT 16 rfl (QB rfl) hD<|Qn kA<|zm (h:=⟨_,_,_,_,_,_,_,_,_,rfl,hKc1,rfl,h4,h5,hpe,hZ⟩)
  refine Qp JC rfl rfl (fun b_5=>Qb<|zD hD ?_);refine QU 7 12 rfl rfl kA ?_ ?_
  focus
   refine zpc [_,_] rfl zcG .nil (Wl hQ hqn hA han x.at_) ?_;rintro vv13 I13 L13 hI13 ⟨pk,a5,m5,c5,a6,m6,c6,rfl,rfl,hpe,hZ⟩;have hKc1:=hKc1.trans hI13;have hD:=hD.trans hI13;refine Qb<|zD hD<|zT 8 rfl (Qe rfl) hD<|zT 9 rfl (QS rfl rfl) hD<|zT 10 rfl (QS rfl rfl) hD<|zT 11 rfl (QS rfl rfl) hD<|qd 12 rfl<|Qp XM rfl rfl (fun b_4=>Qb<|zD hD ?_)
  rotate_left
  refine Qp XM rfl rfl (fun b_4=>Qb<|zD hD<|qd 7 rfl<|zpc [_,_] rfl zcG .nil (Wl hQ hqn hA han x.at_) ?_);rintro vv16 I16 L16 hI16 ⟨pk,a5,m5,c5,a6,m6,c6,rfl,rfl,hpe,hZ⟩;have hKc1:=hKc1.trans hI16;have hD:=hD.trans hI16;refine Qb<|zD hD<|zT 8 rfl (Qe rfl) hD<|zT 9 rfl (QS rfl rfl) hD<|zT 10 rfl (QS rfl rfl) hD<|zT 11 rfl (QS rfl rfl) hD ?_
  all_goals
   refine qd 14 rfl ?_;refine zh VE ?_;refine QV (b:=b_4) (by repeat (first | exact Z1.here | apply Z1.there)) (fun I17 hI17 hb17=>?_);have hZ:=hZ.mono hI17;have hKc1:=hKc1.trans hI17;have hD:=hD.trans hI17;have h4:=BxI.of hb17;refine Qb<|zD hD<|qd 15 rfl ?_
   refine zh ZO ?_;refine QV (b:=b_5) (by repeat (first | exact Z1.here | apply Z1.there)) (fun I18 hI18 hb18=>?_);have hZ:=hZ.mono hI18;have h4:=h4.mono hI18;have hKc1:=hKc1.trans hI18;have hD:=hD.trans hI18;have h5:=BxI.of hb18;exact Qb<|zD hD<|zT 16 rfl (QB rfl) hD<|Qn kA<|zm (h:=⟨_,_,_,_,_,_,_,_,_,rfl,hKc1,rfl,h4,h5,hpe,hZ⟩)
 rintro E J19 loc' ⟨p4,p5,pk,a5,m5,c5,a6,m6,c6,rfl,hJ,rfl,h4,h5,hpe,hZ⟩;have hP:=hP.mono hJ;have hIc:=hIc.trans hJ;refine zR (zM<|zC ?_);refine zM ?_;refine zx5 [_,_] rfl KF .nil (Wp J19 (atE qs ks x.at_==0) (atE qs ks x.at_)) ?_ (fun pv hpv=>by refine zx6 ?_;exact (have hn9:atE qs ks x.at_≠0:=(by simpa using hpv.2);⟨by rw [zkA hpk hn9];exact hpv.1,by rw [zkA hpk hn9];exact hn9⟩));rintro vv20 I20 L20 hI20 ⟨rfl,rfl,rfl,hok⟩;have hP:=hP.mono hI20;have h4:=h4.mono hI20;have h5:=h5.mono hI20;have hZ:=hZ.mono hI20;have hIc:=hIc.trans hI20;have he:atE qs ks x.at_=0:=(by simpa using hok);obtain ⟨rfl,rfl,rfl,hS9⟩:=hZ.ok he;obtain rfl:=hpe he;refine zN (zR ?_);refine zM<|zV (Qg rfl Zl (fun hg=>by exact BxI.cells (vs:=[_,_]) h5) rfl)<|zV (QC rfl) ?_
 refine zF Yt<|zF ZH ?_
 refine Z0 rfl rfl ZO rfl rfl rfl rfl (by repeat (first | exact Upd.here | apply Upd.there | apply ZD))<|zN (zR<|zF Jw ?_)
 refine zV (Qc rfl Ql (fun hg=>by exact Qy.imm h4.out rfl))<|zF VO ?_
 refine zV (Qc rfl Ql (fun hg=>by exact Qy.imm h4.out rfl))<|zC (zN ?_)
 refine zI ?_ ?_<;>intro hc34
 ·
  have hne:(VN qs ks x.at_).frm≠(VN qs ks x.at_).to_:=(by simpa using hc34);have hin:=zhw he hne;have hPk:=(hpk _ hin).mono hIc;have hdn:=hdl _ hin;obtain ⟨hsm,_,hto9⟩:=zhN (hg _ hin);have hz9:=(hz0 _ hin).2;have hto:(VN qs ks x.at_).to_.toNat<pn:=kB;have hti:(VN qs ks x.at_).to_=(((VN qs ks x.at_).to_.toNat:Nat):Int):=(Int.toNat_of_nonneg hz9).symm;refine zR<|zF JR ?_
  refine zV (Qc rfl V5 (fun hg=>by exact Qy.imm h4.out rfl))<|zpc [_] rfl zk3 .nil (znL hPk.sl hPk.byte hdn) ?_
  rintro vv21 I21 L21 hI21 ⟨rfl,cs,bb,rfl,hrd⟩;have hP:=hP.mono hI21;have h4:=h4.mono hI21;have hS9:=hS9.mono hI21;have hIc:=hIc.trans hI21;obtain ⟨t9,rfl,rfl,hNd9,hok9⟩:=zez hrd hsm;have hPk:=hPk.mono hI21;have hTM:=zdZ hPk.byte (by have h:=hPk.sl.len;omega) hok9 hNd9;have hTf:=zfh hPk.byte (by have h:=hPk.sl.len;omega) hok9 hNd9;refine zM ?_;refine zE<|zE<|Qp U2 rfl rfl (fun b_7=>?_)
  refine zh Vk<|zA (zN (Qh<|zM<|zF VO ?_))
  refine zV (Qc rfl Ql (fun hg=>by exact Qy.imm h4.out rfl))<|zV (Qg rfl Zc (fun hg=>by exact Cells.g0) rfl) ?_
  refine zx5 [_,_,_] rfl zkv (by repeat (first | exact .cons .here .nil | exact ZL | exact Zi | apply ZF | apply ZC)) (zie hti hP hpl hto hpn hTM hTf) ?_ (fun pv hpv=>by refine zx6 ?_;exact (⟨by rw [zmM hpk he hne hok9 hpv.2];exact hpv.1,by rw [zmM hpk he hne hok9 hpv.2];decide⟩));rintro vv22 I22 L22 hI22 ⟨rfl,cur2,ps2,rfl,hP2,hpl2,hlr⟩;have hS9:=hS9.mono hI22;have hIc:=hIc.trans hI22;refine Qb ?_;exact YX (Yu rfl (fun w hw=>.inl ⟨_,I22,_,rfl,hIc,by exact hw.subL (by repeat (first | exact .refl | exact QL | refine .drop ?_ | refine .keep ?_)),rfl,by rw [zhE hpk he hne hok9 hlr],cur2,ps2,_,_,_,_,rfl,hP2,hpl2,hS9,UC,by rw [zhE hpk he hne hok9 hlr]⟩))
 have heq:(VN qs ks x.at_).frm=(VN qs ks x.at_).to_:=(by simpa using hc34);exact Qr<|YX (Yu rfl (fun w hw=>.inl ⟨_,I20,_,rfl,hIc,by exact hw,rfl,by rw [zlB hpk he heq],cur,ps,_,_,_,_,rfl,hP,hpl,hS9,UC,by rw [zlB hpk he heq]⟩))
theorem zdd (h:zwo bs I cs b):(okN bs).isSome=b:=by
 rcases h.2 with ⟨h1,h2⟩ | ⟨h1,x,h2,h3,h4⟩
 ·
  rw [h2,h1];rfl
 ·
  rw [h4,h1];rfl
def zkq (pn:Nat)(ps:List Pe)(qs:List Pk)(ks:List (Int×Int)):Int:=
 if ((decide ((pn:Int)<1)||decide ((pn:Int)>24))||Ud qs ks != 0)=true then 570 else if ps.any (fun x=> !ZT x.notes)=true then 570 else if qs.any (KJ pn)=true then 570 else 0
section
variable {pn:Nat} {ps:List Pe} {qs:List Pk} {ks:List (Int×Int)}
theorem zoC (h:((decide ((pn:Int)<1)||decide ((pn:Int)>24))||Ud qs ks != 0)=true):zkq pn ps qs ks=570:=if_pos h
theorem zsq (h:((decide ((pn:Int)<1)||decide ((pn:Int)>24))||Ud qs ks != 0)=false){k:Nat}{x:Pe}(hx:ps[k]? =some x)(hc:(!ZT x.notes)=true):zkq pn ps qs ks=570:=by
 unfold zkq;rw [h,if_neg kJ,if_pos (List.any_eq_true.2 ⟨x,List.mem_of_getElem? hx,hc⟩)]
theorem zr5 (h:((decide ((pn:Int)<1)||decide ((pn:Int)>24))||Ud qs ks != 0)=false)(h1:ps.any (fun x=> !ZT x.notes)=false){k:Nat}{x:Pk}(hx:qs[k]? =some x)(hc:KJ pn x=true):zkq pn ps qs ks=570:=by
 unfold zkq;rw [h,if_neg kJ,h1,if_neg kJ,if_pos (List.any_eq_true.2 ⟨x,List.mem_of_getElem? hx,hc⟩)]
theorem zsv (h:((decide ((pn:Int)<1)||decide ((pn:Int)>24))||Ud qs ks != 0)=false)(h1:ps.any (fun x=> !ZT x.notes)=false)(h2:qs.any (KJ pn)=false):zkq pn ps qs ks=0:=by
 unfold zkq;rw [h,if_neg kJ,h1,if_neg kJ,h2,if_neg kJ]
theorem KI {I:Qu}{pa qa aa:Option Addr}{pc qn qc an ac:Nat}(hR:RmP I pa pn pc qa qn qc aa an ac ps qs ks):WQ (YD ps qs ks)=zkq pn ps qs ks:=by
 have hl:(YD ps qs ks).ps.length=pn:=(by rw [←hR.pe.len];exact zeI ps);have e1:(dtP ps).any (fun xs=> !ZT xs)=ps.any (fun x=> !ZT x.notes):=zhy fun x hx=>(by simp only [ze1 (hR.nt x hx)]);have e2:(qs.map Vi).any (KJ pn)=qs.any (KJ pn):=zhy fun x _=>rfl;unfold WQ zkq;rw [hl];simp only [YD,UR hR.pk,e1,e2]
theorem zg0 (h:zkq pn ps qs ks=0):(1≤pn∧pn≤24)∧Ud qs ks=0∧(∀ x∈ps,ZT x.notes=true)∧∀ q∈qs,KJ pn q=false:=by
 unfold zkq at h;split at h
 ·
  cases h
 ·
  rename_i h1;split at h
  ·
   cases h
  ·
   rename_i h2;split at h
   ·
    cases h
   ·
    rename_i h3;simp only [Bool.or_eq_true,decide_eq_true_eq,bne_iff_ne,not_or,ne_eq,Decidable.not_not] at h1;refine ⟨kB,h1.2,fun x hx=>?_,fun q hq=>?_⟩
    ·
     rw [Bool.not_eq_true,List.any_eq_false] at h2;simpa using h2 x hx
    ·
     rw [Bool.not_eq_true,List.any_eq_false] at h3;simpa using h3 q hq
end
theorem Up:AgT Tryz.prog 59 1:=.of kA
theorem zkD:Fun Tryz.prog 61:=.of Tryz.func61 kA kA
theorem zb2:SzT Tryz.prog 59 1:=.of kA
theorem zqt:Vv Tryz.prog 59 (.agg #[(.slice none 0 0)]):=.of kA
theorem zhL (hR:RmP I pa pn pc qa qn qc aa an ac ps qs ks)(hpn:pn≤100000)(hqn:qn≤100000)(han:an≤100000)(hnn:∀ x∈ps,x.n≤100000)(hdl:∀ q∈qs,q.n≤100000):YE Tryz.prog 16 [.agg #[.slice pa pn pc,.slice qa qn qc,.slice aa an ac]] I [] (fun v _I' L'=>L'=[]∧v= .int .i64 (WQ (YD ps qs ks))):=by
 intro g H w hw;refine qe Tryz.func16 Tryz.ntmps16 hw ?_;have hIc:=zB6 I;have hlp:=hR.pe.len;have hlq:=hR.q.len;refine zR<|QK rfl rfl rfl (fun b_1=>zA (Qb<|QF .here (fun I1 hI1 hb1=>?_)))
 have hR:=hR.mono hI1;have hIc:=hIc.trans hI1;have h1:=BxI.of hb1;refine Qd (Qm (zR<|zF Zp ?_));refine zV (Qc rfl Z6 (fun hg=>by exact Qy.imm h1.out rfl))<|zQ Z4<|zC ?_
 refine zM ?_;refine QI 4 rfl rfl rfl ?_;refine zJ (Qa rfl Zp)<|zJ (Qc rfl Z6 (fun hg=>by exact Qy.imm h1.out rfl))<|zJ (QT rfl Z4)<|zJ (QA rfl rfl rfl)<|Q9 rfl rfl rfl rfl rfl<|zM ?_
 refine QI 10 rfl rfl rfl ?_;refine zJ (Qa rfl ZH)<|zJ (Qg rfl Zl (fun hg=>by exact Cells.part (pre:=[.slice pa pn pc]) (vs:=[.slice qa qn qc,.slice aa an ac]) (post:=[]) (BxI.cells (vs:=[_,_,_]) h1) rfl) rfl)<|qf (vs:=[_]) rfl ziI (fun hg=>zi7 hR.q hqn hR.k han)<|zJ (QA rfl rfl rfl)<|Q9 rfl rfl rfl rfl rfl ?_
 refine zN ?_;refine zI ?_ ?_<;>intro hc24
 ·
  have h24:=hc24;exact zR (zA (zN (Qs (Qf<|Qx rfl rfl (fun w hw=>⟨_,I1,[],rfl,hIc,by exact hw.drop,rfl,by rw [KI hR,zoC h24]⟩)))))
 have h24:=hc24;refine Qr (Qd (Qm (zR<|zF Zp ?_)));refine zV (Qc rfl Z6 (fun hg=>by exact Qy.imm h1.out rfl))<|zQ Z4<|zM (zN (Qw ?_))
 refine zU [(1,_),(26,_),(27,_)] (fun T L0 mz E I' loc'=>∃ (k:Nat),mz=pn-k∧E=(28,.int .i64 k)::T∧I1=I'∧L0=loc'∧k≤pn∧(ps.take k).any (fun x=> !ZT x.notes)=false) ?_ (h:=⟨0,rfl,rfl,rfl,rfl,Nat.zero_le _,rfl⟩);rintro mz E I' loc' ⟨k,rfl,rfl,rfl,rfl,hk,hno⟩;refine zR (zC (zN (Qm ?_)));refine zI ?_ ?_<;>intro hc29
 ·
  have hlt_k:k<pn:=(by have h:=hc29;simp at h;omega);obtain ⟨x,hx⟩:∃ y,ps[k]? =some y:=⟨_,List.getElem?_eq_getElem kB⟩;have hxm:=List.mem_of_getElem? hx;refine Qr (Qd (Qm (Qw (zR<|zV (QG rfl rfl Z4 hR.pe (fun hg=>kB))<|zV (Qg rfl Up (fun hg=>by exact zB7 hR.pe hx) rfl)<|Qp zqt rfl rfl (fun b_4=>?_)))));refine zh zb2 ?_;refine zN (zR ?_);refine zV (Qg rfl Up (fun hg=>by exact Cells.g0) rfl) ?_;refine qcV (vs:=[_]) rfl zkD (zgC (hR.nt x hxm) (hnn x hxm)) ?_;refine zO (zN ?_);refine zI ?_ ?_<;>intro hc34
  ·
   exact zR (zA (zN (Qs (Qi (Qf (Qf (Qi<|Qf<|Qx rfl rfl (fun w hw=>⟨_,I1,[],rfl,hIc,by exact hw.drop,rfl,by rw [KI hR,zsq h24 hx hc34]⟩))))))))
  exact Qr (Qk (Qd (Qh (zB<|zM (Qb<|zm (h:=⟨pn-(k+1),kB,k+1,rfl,rfl,rfl,rfl,kB,U1 hx hno hc34⟩))))))
 have hge_k:pn≤k:=(by have h:=hc29;simp at h;omega);rw [ZR hlp hge_k] at hno;refine Zk (Qo (Qo (Qz (Qd (Qm (zR<|zF ZH<|zF QP ?_))))));refine zV (Qc rfl Q5 (fun hg=>by exact Qy.imm h1.out rfl))<|zQ Q0<|zM (zN (Qw ?_))
 refine zU [(1,_),(38,_),(39,_)] (fun T L0 mz E I' loc'=>∃ (j:Nat),mz=qn-j∧E=(40,.int .i64 j)::T∧HLe I1 I'∧L0=loc'∧j≤qn∧(qs.take j).any (KJ pn)=false) ?_ (h:=⟨0,rfl,rfl,zB6 _,rfl,Nat.zero_le _,rfl⟩);rintro mz E J3 loc' ⟨j,rfl,rfl,hJ,rfl,hj,hno2⟩;have hR:=hR.mono hJ;have h1:=h1.mono hJ;have hIc:=hIc.trans hJ;have hB2:=hJ;refine zR (zC (zN (Qm ?_)));refine zI ?_ ?_<;>intro hc41
 ·
  have hlt_j:j<qn:=(by have h:=hc41;simp at h;omega);obtain ⟨y,hy⟩:∃ y,qs[j]? =some y:=⟨_,List.getElem?_eq_getElem kB⟩;have hym:=List.mem_of_getElem? hy;refine Qr (Qd (Qm (Qw (zR<|zV (QG rfl rfl Q0 hR.q (fun hg=>kB))<|zV (Qg rfl YO (fun hg=>by exact zB7 hR.q hy) rfl)<|Qp XM rfl rfl (fun b_6=>?_)))));refine zh VE<|zN (zR<|zF JR ?_)
  refine zL V5<|zpc [_] rfl zk3 .nil (znL (hR.pk y hym).sl (hR.pk y hym).byte (hdl y hym)) ?_
  rintro vv4 I4 L4 hI4 ⟨rfl,cs,bb,rfl,hrd⟩;have hR:=hR.mono hI4;have h1:=h1.mono hI4;have hIc:=hIc.trans hI4;have hB2:=hB2.trans hI4;refine zM ?_;refine zE<|zE<|Qp U2 rfl rfl (fun b_7=>V6 (old:=Zf zcy) rfl rfl Vk hrd.1.1 rfl hrd.1.2 rfl (by repeat (first | exact Upd.here | apply Upd.there | apply ZD)) ?_)
  refine zA<|zN (zR ?_)
  refine zM<|zO<|zM ?_
  refine QI 2 rfl rfl rfl ?_;refine zJ (Qa rfl Jw)<|zJ (Qc rfl Ql (fun hg=>by exact Qy.h1 rfl))<|zJ (Qa rfl VO)<|zJ (Qc rfl Ql (fun hg=>by exact Qy.h1 rfl))<|zJ (VG rfl rfl)<|zJ (Qa rfl Zp)<|zJ (Qc rfl Z6 (fun hg=>by exact Qy.imm h1.out rfl))<|zJ (QT rfl Z4)<|zJ (QA rfl rfl rfl)<|Q9 rfl rfl rfl rfl rfl ?_
  refine zN ?_;refine zI ?_ ?_<;>intro hc62
  ·
   have hbk:KJ pn y=true:=(by unfold KJ;rw [zdd hrd];exact hc62);exact zR (zA (zN (Qs (Qi (Qf (Qf (Qi<|Qf<|Qx rfl rfl (fun w hw=>⟨_,I4,[],rfl,hIc,by exact hw.drop,rfl,by rw [KI hR,zr5 h24 hno hy hbk]⟩))))))))
  have hbk:KJ pn y=false:=(by unfold KJ;rw [zdd hrd];exact hc62);exact Qr (Qk (Qd (Qh (zB<|zM (Qb<|zm (h:=⟨qn-(j+1),kB,j+1,rfl,rfl,hB2,rfl,kB,U1 hy hno2 hbk⟩))))))
 have hge_j:qn≤j:=(by have h:=hc41;simp at h;omega);rw [ZR hlq hge_j] at hno2;refine Zk (Qo (Qo (Qz (Qd (zR (zA (zN<|Qs ?_)))))));exact Qx rfl rfl (fun w hw=>⟨_,J3,[],rfl,hIc,by exact hw.drop,rfl,by rw [KI hR,zsv h24 hno hno2]⟩)
end
end Go.Proofs.YtjblkbkmblkgoaaGreat
namespace Go.Kn
section
open Go
def zfD {α:Type}(P:Program)(f:FuncId)(cap:List Value)(I:Qu)(Lb:Loc)(rel:Value→α→Qu→Prop)(xs:List α):Prop:=
 ∀ g l (J Jx:List α→Qu→Qu→Prop),(∀ pre I1 I2 H',HLe I1 I2→J pre I1 H'→J pre I2 H')→
  (∀ pre x v I' H',pre++[x]<+:xs→HLe I I'→rel v x I'→J pre I' H'→zcm P g l [v] I' H' fun b I2 H2=>if b then J (pre++[x]) I2 H2 else Jx (pre++[x]) I2 H2)→
  ∀ I0 H w,HLe I I0→J [] I0 H→(∀ p∈Lb,H p.1=some p.2)→St g I0 H [] w→Calls P f ((.func (.yield l) #[] #[]:Value)::cap).toArray w fun e w'=>∃ v I' H',e= .returned v∧HLe I0 I'∧St g I' H' [] w'∧(J xs I' H'∨∃ pre,pre<+:xs∧Jx pre I' H')
theorem zfD.mono {α:Type}{P:Program}{f:FuncId}{cap:List Value}{I I':Qu}{Lb:Loc}{rel:Value→α→Qu→Prop}{xs:List α}(h:zfD P f cap I Lb rel xs)(hI:HLe I I'):zfD P f cap I' Lb rel xs:=
 fun g l J Jx hm hY I0 H w h0 hJ hb hw=>h g l (fun pre I1 H1=>HLe I' I1∧J pre I1 H1) (fun pre I1 H1=>HLe I' I1∧Jx pre I1 H1)
  (fun pre I1 I2 H' h12 ⟨h1,h2⟩=>⟨h1.trans h12,hm pre I1 I2 H' h12 h2⟩)
  (fun pre x v I1 H1 hp _ hv ⟨h2,h3⟩ loc W hW=>by
   obtain ⟨fn,tmps,asg,bd,hy,hR⟩:=hY pre x v I1 H1 hp h2 hv h3 loc W hW;refine ⟨fn,tmps,asg,bd,hy,hR.mono ?_⟩;rintro e W' ⟨b,I2,H2,he,h4,h5,h6⟩;refine ⟨b,I2,H2,he,h4,h5,?_⟩
   cases b with
   | true=>exact ⟨h2.trans h4,h6⟩
   | false=>exact ⟨h2.trans h4,h6⟩) I0 H w (hI.trans h0) ⟨h0,hJ⟩ hb hw |>.mono fun e w' ⟨v,I1,H1,he,h1,h2,h3⟩=>⟨v,I1,H1,he,h1,h2,h3.elim (fun h=>.inl h.2) (fun ⟨pre,hp,h⟩=>.inr ⟨pre,hp,h.2⟩)⟩
def zqP (H:Qu)(b:Nat):Qu:=fun x=>if x=b then none else H x
theorem zmf {H:Qu}{b:Nat}{o:Obj}(hb:H b=some o):Kh (zqP H b) [(b,o)]=H:=by
 funext x;simp only [Kh,zqP];split
 ·
  rename_i e;rw [e,hb]
 ·
  rfl
section
variable {g:World} {I H:Qu} {loc A B:Loc} {w:World} {b:Nat} {o:Obj}
theorem St.peek (h:St g I H [] w)(hb:H b=some o):St g I (zqP H b) [(b,o)] w:=by
 have hd:∀ x p,zqP H b x=some p→H x=some p:=fun x p e=>by
  unfold zqP at e;split at e
  ·
   cases e
  ·
   exact e
 refine ⟨h.os,h.tape,h.out,h.size,h.imm,fun x p e=>h.frm x p (hd x p e),?_,?_,?_,by simp⟩
 ·
  intro x p hm;obtain ⟨rfl,rfl⟩:=Prod.mk.inj (List.mem_singleton.1 hm);exact h.frm _ _ hb
 ·
  intro x;rcases h.sepIH x with e | e
  ·
   exact .inl e
  ·
   refine .inr ?_;unfold zqP;split
   ·
    rfl
   ·
    exact e
 ·
  intro x p hm;obtain ⟨rfl,rfl⟩:=Prod.mk.inj (List.mem_singleton.1 hm);refine ⟨?_,by simp [zqP]⟩;rcases h.sepIH x with e | e
  ·
   exact e
  ·
   rw [hb] at e;cases e
end
section
variable {α:Type} {P:Program} {N:Nat} {g:World} {p:Nat} {assign body:Code} {f:FuncId} {cap:List Value} {rel:Value→α→Qu→Prop} {xs:List α} {E:Env} {I H:Qu} {L B:Loc}
theorem znR {fn:FuncId}{tmps:Array Value}{l df:Nat}{w2:World}(Jc:List α→Qu→Qu→Loc→Prop)(Jx:Code→List α→Qu→Qu→Loc→Prop)(Ja:List α→α→Env→Qu→Qu→Loc→Prop)
    (hm:∀ pre I1 I2 H' L',HLe I1 I2→Jc pre I1 H' L'→Jc pre I2 H' L'){Lb:Loc}(hst:∀ p∈Lb,p∈L)(hseq:zfD P f cap I Lb rel xs)(hfit0:∀ v,Uh N [] ((p,v)::E) {tmps:=tmps.setIfInBounds p v,defers:=[]})(h0:Jc [] I H L)
    (hass:∀ l Z pre x v I' H' L',pre++[x]<+:xs→HLe I I'→rel v x I'→Jc pre I' H' L'→X ⟨P,some l,N,[],g,H'⟩ (Exit.then (Met ⟨P,some l,N,[],g,H'⟩ fun E2 I2 loc2=>HLe I' I2∧∃ L2,loc2=L2++Z∧Ja pre x E2 I2 H' L2) (fun _ _ _=>False)) assign ((p,v)::E) I' (L'++Z))
    (hbody:∀ l Z pre x E2 I2 H2 L2,(∃ r0,(l,Obj.loop r0)∈Z)→pre++[x]<+:xs→HLe I I2→Ja pre x E2 I2 H2 L2→X ⟨P,some l,N,[],g,H2⟩ (zlR g Z (fun q I3 H3 L3=>HLe I2 I3∧Jc q I3 H3 L3) (fun c q I3 H3 L3=>HLe I2 I3∧Jx c q I3 H3 L3) (pre++[x])) body E2 I2 (L2++Z))
    (hw2:St g I H (L++((l,zx0 fn tmps p assign body df .ready none)::B)) w2):
    Calls P f ((.func (.yield l) #[] #[]:Value)::cap).toArray w2 fun e w'=>∃ v,e= .returned v∧
      ((∃ I' H' L',HLe I I'∧Jc xs I' H' L'∧St g I' H' (L'++((l,zx0 fn tmps p assign body df .ready none)::B)) w')∨
       (∃ c pre I' H' L',HLe I I'∧pre<+:xs∧Jx c pre I' H' L'∧St g I' H' (L'++((l,zx0 fn tmps p assign body df .done (some c))::B)) w')):=by
  let rc:=zx0 fn tmps p assign body df;let Lr:LoopState→Option Code→Loc→Loc:=fun st pd L'=>L'++((l,rc st pd)::B);let J:List α→Qu→Qu→Prop:=fun pre I' H'=>∃ H0 L',Jc pre I' H0 L'∧HLe I I'∧H'=Kh H0 (Lr .ready none L')∧((Lr .ready none L').map (·.1)).Nodup∧∀ b o,(b,o)∈Lr .ready none L'→H0 b=none;let Jy:List α→Qu→Qu→Prop:=fun pre I' H'=>∃ c H0 L',Jx c pre I' H0 L'∧HLe I I'∧H'=Kh H0 (Lr .done (some c) L')∧((Lr .done (some c) L').map (·.1)).Nodup∧∀ b o,(b,o)∈Lr .done (some c) L'→H0 b=none;have hJ0:J [] I (Kh H (Lr .ready none L)):=⟨H,L,h0,zB6 I,rfl,hw2.nodup,fun b o hm=>(hw2.sepIL b o hm).2⟩;refine (hseq g l J Jy (fun pre I1 I2 H' h12 ⟨H0,L',h1,h2,h3,h4,h5⟩=>⟨H0,L',hm pre I1 I2 H0 L' h12 h1,h2.trans h12,h3,h4,h5⟩) ?_ I _ _ (zB6 I) hJ0 (fun p hp=>zdT hw2.nodup (List.mem_append_left _ (hst p hp))) hw2.hide).mono ?_
  · intro pre x v I' H' hpre hI hrel ⟨H0,L',hJc,_,hH,hnd,hdj⟩ lit W hW
    subst hH;have hS0:=hW.join2 hnd hdj
    -- own blocks first, the record, the rest, the iterator's blocks
    have hS1:St g I' H0 (L'++((l,rc .ready none)::(B++lit))) W:=hS0.permL (by
      have:(L'++((l,rc .ready none)::(B++lit)))=(L'++((l,rc .ready none)::B))++lit:=by simp
      rw [this];exact List.perm_append_comm)
    have hrec:W.heap[l]? =some (rc .ready none):=hS1.own _ _ kJ;refine ⟨fn,_,assign,body,run_yield (P:=P) hrec kJ,?_⟩;refine roundIn_of_wpIn (F:=Fence.wide) trivial ?_;have htm:((#[p]:Array Tmp).zip #[v]).foldl (fun tmps (t,v)=>tmps.setIfInBounds t v) tmps=tmps.setIfInBounds p v:=(by simp);show Code.wpIn _ _ _ _ _ {tmps:=((#[p]:Array Tmp).zip #[v]).foldl (fun tmps (t,v)=>tmps.setIfInBounds t v) tmps,defers:=[]} _;rw [htm];have hA:=hass l ((l,rc .ready none)::(B++lit)) pre x v I' H0 L' hpre hI hrel hJc _ W (hfit0 v) hS1;refine wpIn_mono (F:=Fence.wide.inRound l) (n:=0) (P:=P) (show assign.wpIn (Fence.wide.inRound l) 0 P _ _ _ from hA) ?_;intro e a1 W1 hq
    cases e with
    | normal=>
      obtain ⟨E2,I2,loc2,⟨hI2,L2,rfl,hJa⟩,hf2,hs2⟩:=hq;have hrec1:W1.heap[l]? =some (rc .ready none):=hs2.own _ _ kJ;have hs4:=hs2.putObj (o':=rc .busy none) (b:=l) (ZD .here);refine ⟨_,run_beginRound (P:=P) hrec1 rfl,?_⟩;have hB:=hbody l ((l,rc .busy none)::(B++lit)) pre x E2 I2 H0 L2 ⟨_,List.mem_cons_self ..⟩ hpre (hI.trans hI2) hJa a1 _ hf2 hs4;refine wpIn_mono (F:=Fence.wide.inRound l) (n:=0) (P:=P) (show body.wpIn (Fence.wide.inRound l) 0 P _ _ _ from hB) ?_
      have fin:∀ (W3:World) (I3 H3:Qu) (L3:Loc) (jump:Option Code) (st:LoopState),St g I3 H3 (L3++((l,rc .busy none)::(B++lit))) W3→(st=if jump.isNone then .ready else .done)→
          ∃ W4,(Instr.endRound l jump).run P W3= .ok (.bool jump.isNone) W4∧St g I3 (Kh H3 (Lr st jump L3)) lit W4∧((Lr st jump L3).map (·.1)).Nodup∧∀ b o,(b,o)∈Lr st jump L3→H3 b=none:=by
        intro W3 I3 H3 L3 jump st hs hst;have hrec3:W3.heap[l]? =some (rc .busy none):=hs.own _ _ kJ;have hs6:=hs.putObj (o':=rc st jump) (b:=l) (ZD .here)
        have hs7:St g I3 H3 (lit++Lr st jump L3) (W3.putObj l (rc st jump)):=hs6.permL (by
          have:(L3++((l,rc st jump)::(B++lit)))=Lr st jump L3++lit:=by simp [Lr]
          rw [this];exact List.perm_append_comm)
        have hs8:=hs7.rest Zi;refine ⟨_,run_endRound (P:=P) jump hrec3,?_,hs8.nodup,fun b o hm=>(hs8.sepIL b o hm).2⟩;rw [←hst];exact hs7.hideR
      intro e a3 W3 hq
      cases e with
      | normal=>
        obtain ⟨I3,H3,L3,⟨hI3,hJ3⟩,hs⟩:=hq;obtain ⟨W4,h1,h2,h3,h4⟩:=fin W3 I3 H3 L3 none .ready hs rfl;exact ⟨_,W4,h1,true,I3,_,rfl,hI2.trans hI3,h2,H3,L3,hJ3,(hI.trans hI2).trans hI3,rfl,h3,h4⟩
      | ret=>
        obtain ⟨I3,H3,L3,⟨hI3,hJ3⟩,hs⟩:=hq;obtain ⟨W4,h1,h2,h3,h4⟩:=fin W3 I3 H3 L3 (some .ret) .done hs rfl;exact ⟨_,W4,h1,false,I3,_,rfl,hI2.trans hI3,h2,.ret,H3,L3,hJ3,(hI.trans hI2).trans hI3,rfl,h3,h4⟩
      | exit id=>
        obtain ⟨I3,H3,L3,⟨hI3,hJ3⟩,hs⟩:=hq;obtain ⟨W4,h1,h2,h3,h4⟩:=fin W3 I3 H3 L3 (some (.exit id)) .done hs rfl;exact ⟨_,W4,h1,false,I3,_,rfl,hI2.trans hI3,h2,.exit id,H3,L3,hJ3,(hI.trans hI2).trans hI3,rfl,h3,h4⟩
      | goto t=>exact hq.elim
      | panic c=>exact hq.elim
      | outgrown=>exact hq.elim
    | _=>exact hq.elim
  · rintro e w' ⟨v,I',H',rfl,hI,hs,hJ | ⟨pre,hpre,hJ⟩⟩
    · obtain ⟨H0,L',hJc,hI1,rfl,hnd,hdj⟩:=hJ
      have hs1:=hs.join2 hnd hdj;exact ⟨v,rfl,.inl ⟨I',H0,L',hI1,hJc,by simpa using hs1⟩⟩
    · obtain ⟨c,H0,L',hJc,hI1,rfl,hnd,hdj⟩:=hJ
      have hs1:=hs.join2 hnd hdj;exact ⟨v,rfl,.inr ⟨c,pre,I',H0,L',hI1,hpre,hJc,by simpa using hs1⟩⟩
end
section
variable {α:Type} {P:Program} {N:Nat} {g:World} {H:Qu} {Q:Exit→Act→World→Prop} {gop:Operand} {p:Nat} {assign body:Code} {f:FuncId} {cap:List Value} {rel:Value→α→Qu→Prop} {xs:List α} {E:Env} {I:Qu} {L:Loc}
theorem zeh {ms:List Nat}(Jc:List α→Qu→Qu→Loc→Prop)(Jx:Code→List α→Qu→Qu→Loc→Prop)(Ja:List α→α→Env→Qu→Qu→Loc→Prop)
  (hm:∀ pre I1 I2 H' L',HLe I1 I2→Jc pre I1 H' L'→Jc pre I2 H' L')(hg:QH [] E gop=some (.func (.func f) #[] cap.toArray))(hF:Fun P f){Lb:Loc}(hst:∀ p∈Lb,p∈L)(hseq:zfD P f cap I Lb rel xs)(hp:Nat.blt p N=true)(h0:Jc [] I H L)
  (hass:∀ l Z pre x v I' H' L',pre++[x]<+:xs→HLe I I'→rel v x I'→Jc pre I' H' L'→X ⟨P,some l,N,[],g,H'⟩ (Exit.then (Met ⟨P,some l,N,[],g,H'⟩ fun E2 I2 loc2=>HLe I' I2∧∃ L2,loc2=L2++Z∧Ja pre x E2 I2 H' L2) (fun _ _ _=>False)) assign ((p,v)::E) I' (L'++Z))
  (hbody:∀ l Z pre x E2 I2 H2 L2,(∃ r0,(l,Obj.loop r0)∈Z)→pre++[x]<+:xs→HLe I I2→Ja pre x E2 I2 H2 L2→X ⟨P,some l,N,[],g,H2⟩ (zlR g Z (fun q I3 H3 L3=>HLe I2 I3∧Jc q I3 H3 L3) (fun c q I3 H3 L3=>HLe I2 I3∧Jx c q I3 H3 L3) (pre++[x])) body E2 I2 (L2++Z))
  (hdone:∀ bd I' H' L',HLe I I'→Jc xs I' H' L'→At ⟨P,none,N,mk (bd::ms),g,H'⟩ Q .normal E I' (L'++MB (bd::ms)))
  (hstop:∀ c bd pre I' H' L',HLe I I'→pre<+:xs→Jx c pre I' H' L'→X ⟨P,none,N,mk (bd::ms),g,H'⟩ Q c E I' (L'++MB (bd::ms))):
  X ⟨P,none,N,mk ms,g,H⟩ Q (.rangeFunc gop #[p] assign body) E I (L++MB ms):=by
 intro a w ha hw;refine wpIn_rangeFunc fun fn _=>?_;have hen:=run_enterLoop_outer (P:=P) (w:=w) fn a.tmps #[p] assign body;generalize hbd:w.heap.size=bd at hen;let rc:=zx0 fn a.tmps p assign body bd
 have hw1:St g I H ((bd+1,rc .ready none)::(bd,.deferred (some []))::(L++MB ms)) ((w.alloc (.deferred (some []))).alloc (rc .ready none)):=by
  have h1:=hw.alloc (.deferred (some []));have h2:=h1.alloc (rc .ready none);rw [World.size_alloc,hbd] at h2;exact h2
 have hw2:St g I H (L++((bd+1,rc .ready none)::MB (bd::ms))) ((w.alloc (.deferred (some []))).alloc (rc .ready none)):=hw1.permL (by
  have e:L++((bd+1,rc .ready none)::MB (bd::ms))=(L++(bd+1,rc .ready none)::MB ms)++[(bd,.deferred (some []))]:=(by simp [MB]);rw [e];refine List.perm_append_comm.trans ?_;have h1:(L++(bd+1,rc .ready none)::MB ms).Perm ((bd+1,rc .ready none)::(L++MB ms)):=List.perm_middle
  exact (h1.cons _).trans (List.Perm.swap ..))
 have hev:=Qj (S:=[]) ha trivial rfl hg;refine ⟨bd+1,[{target:=.collected bd,args:= #[]}],_,{target:=.fn (.func f) cap.toArray,args:= #[.func (.yield (bd+1)) #[] #[]]},(w.alloc (.deferred (some []))).alloc (rc .ready none),f,((.func (.yield (bd+1)) #[] #[]:Value)::cap).toArray,(w.alloc (.deferred (some []))).alloc (rc .ready none),hen,?_,fun _ _=>trivial,?_,by simp [FR],Xo.2 ?_⟩
 ·
  have e2:a.eval (.const (.func (.yield (bd+1)) #[] #[]))= .func (.yield (bd+1)) #[] #[]:=rfl;simp only [resolve,List.map_toArray,List.map_cons,List.map_nil,e2,hev,Deferred.ofValue];rfl
 ·
  simp only [invoke,JT hF];simp
 have hfit:∀ v,Uh N [] ((p,v)::E) {tmps:=a.tmps.setIfInBounds p v,defers:=[]}:=fun v=>by
  have h1:=ha.put hp v;exact ⟨h1.size,rfl,h1.env⟩
 refine (znR (l:=bd+1) (df:=bd) Jc Jx Ja hm hst hseq hfit h0 hass hbody hw2).mono ?_;rintro e w' ⟨v,rfl,⟨I',H',L',hI,hJ,hs⟩ | ⟨c,pre,I',H',L',hI,hpre,hJ,hs⟩⟩
 ·
  have hrec:w'.heap[bd+1]? =some (rc .ready none):=hs.own _ _ (by simp [rc]);have hs2:=hs.putObj (o':=rc .exhausted none) (b:=bd+1) (ZD .here);refine ⟨none,_,run_endLoop (P:=P) hrec kJ,?_⟩;exact hdone bd I' H' L' hI hJ _ _ ⟨ha.size,by simp [ha.defers,mk],ha.env⟩<|hs2.subL (zc4 (.drop .refl))
 ·
  have hrec:w'.heap[bd+1]? =some (rc .done (some c)):=hs.own _ _ (by simp [rc]);have hs2:=hs.putObj (o':=rc .exhausted (some c)) (b:=bd+1) (ZD .here);refine ⟨some c,_,run_endLoop (P:=P) hrec kJ,?_⟩;exact hstop c bd pre I' H' L' hI hpre hJ _ _ ⟨ha.size,by simp [ha.defers,mk],ha.env⟩<|hs2.subL (zc4 (.drop .refl))
end
end
end Go.Kn
namespace Go.Proofs.YtjblkbkmblkgoaaGreat
section
open Go Go.Kn Go.Proofs
structure zav (I:Qu)(a:Option Addr)(m c:Nat)(qs D:List Pk):Prop where
 sl:Sl I 3 Q6 a m c qs
 pk:∀ q∈qs,PkM I q
 dat:qs.map Vi=D
variable{I I':Qu}{a:Option Addr}{m c:Nat}{qs D:List Pk}
theorem zav.mono (h:zav I a m c qs D)(hI:HLe I I'):zav I' a m c qs D:=⟨h.sl.mono hI,fun q hq=>(h.pk q hq).mono hI,h.dat⟩
theorem zav.len (h:zav I a m c qs D):m=D.length:=by
 rw [←h.dat,List.length_map];exact h.sl.len.symm
def zyS (v:Value)(x:Pk)(I:Qu):Prop:=∃ y:Pk,v=KW y∧PkM I y∧Vi y=x
variable{ks:List (Int×Int)}
theorem zgp (h:Ud qs ks=0):qs.length≤4096∧(∀ p∈qs,pkV p=true)∧zgD [] ks=true:=by
 unfold Ud at h;split at h
 ·
  cases h
 ·
  rename_i h1;split at h
  ·
   rename_i h2;rw [Bool.not_eq_true,Bool.or_eq_false_iff,List.any_eq_false] at h1;have h3:=h1.1;simp only [decide_eq_false_iff_not] at h3;exact ⟨kB,fun p hp=>by simpa using h1.2 p hp,h2⟩
  ·
   cases h
theorem ziB {l:List Pk}(h:Ud qs ks=0)(hv:∀ p∈l,pkV p=true)(hl:qs.length+l.length≤4096):Ud (qs++l) ks=0:=by
 obtain ⟨h1,h2,h3⟩:=zgp h;unfold Ud;rw [h3,if_pos rfl,if_neg];rw [Bool.not_eq_true,Bool.or_eq_false_iff,List.any_eq_false];refine ⟨by rw [List.length_append];simp only [decide_eq_false_iff_not];omega,fun p hp=>?_⟩;rcases List.mem_append.1 hp with hp | hp
 ·
  simp [h2 p hp]
 ·
  simp [hv p hp]
variable{pre xs:List Pk}{x y:Pk}
theorem zqX (h:zav I a m c qs (D++pre))(hok:Ud D ks=0)(hv:∀ p∈xs,pkV p=true)(hl:D.length+xs.length≤4096)(hpre:pre++[x]<+:xs)(hy:PkM I y)(e:Vi y=x):KH qs ks y=0:=by
 have hle:=hpre.length_le;rw [List.length_append,List.length_singleton] at hle;have hmem:∀ p∈pre++[x],p∈xs:=fun p hp=>hpre.subset hp;have h1:Ud (D++pre) ks=0:=ziB hok (fun p hp=>hv p (hmem p (List.mem_append_left _ hp))) kB;have h2:pkV x=true:=hv x (hmem x kJ);rw [←zfo h.pk ks hy,h.dat,e];refine ziJ (by rw [h1,h2];rfl) ?_;rw [List.length_append];simp only [beq_eq_false_iff_ne,ne_eq];omega
theorem zav.snoc {b:Option Addr}{n d:Nat}(h:zav I a m c qs (D++pre))(hI:HLe I I')(hS:Sl I' 3 Q6 b n d (qs++[y]))(hy:PkM I' y)(e:Vi y=x):zav I' b n d (qs++[y]) (D++(pre++[x])):=
 ⟨hS,fun q hq=>by
  rcases List.mem_append.1 hq with hq | hq
  ·
   exact (h.pk q hq).mono hI
  ·
   rw [List.mem_singleton] at hq;subst hq;exact hy,by rw [List.map_append,h.dat,List.map_singleton,e,List.append_assoc]⟩
theorem KN:ScT Tryz.prog 105:=.of kA
variable{bc f:Nat}{cap:List Value}
theorem zrV {pa qa aa:Option Addr}{pn pc qn qc an ac:Nat}(hS:zav I qa qn qc qs D)(hA:Sl I 2 VI aa an ac ks)(han:an≤100000)(hF:Fun Tryz.prog f)(hseq:zfD Tryz.prog f cap I [(bc,.cells #[.slice pa pn pc,.slice qa qn qc,.slice aa an ac] 108 (0,0))] zyS xs)(hok:Ud D ks=0)(hv:∀ p∈xs,pkV p=true)(hl:D.length+xs.length≤4096):YE Tryz.prog 110 [ZI bc,.func (.func f) #[] cap.toArray] I [(bc,.cells #[.slice pa pn pc,.slice qa qn qc,.slice aa an ac] 108 (0,0))] (fun v I' L'=>v= .tuple #[]∧∃ a m c qs2,L'=[(bc,.cells #[.slice pa pn pc,.slice a m c,.slice aa an ac] 108 (0,0))]∧zav I' a m c qs2 (D++xs)):=by
 intro g H w hw;refine zl0 Tryz.func110 rfl Tryz.ntmps110 rfl hw ?_;have hIc:=zB6 I;refine zR<|QK rfl rfl rfl (fun b_2=>Qb<|QF .here (fun I1 hI1 hb1=>?_))
 have hS:=hS.mono hI1;have hA:=hA.mono hI1;have hIc:=hIc.trans hI1;have h2:=BxI.of hb1;refine Qd (zR (zM (zN (Qw ?_))));refine zeh (ms:=[]) (rel:=zyS) (L:=[(bc,.cells #[.slice pa pn pc,.slice qa qn qc,.slice aa an ac] 108 (0,0))]) (fun pre I' H' L'=>∃ (a:Option Addr) (m c:Nat) (qs2:List Pk),L'=[(bc,.cells #[.slice pa pn pc,.slice a m c,.slice aa an ac] 108 (0,0))]∧H'=H∧HLe I1 I'∧zav I' a m c qs2 (D++pre)) (fun _ _ _ _ _=>False) (fun pre x E2 I2 H2 L2=>∃ (y:Pk) (b4:Nat) (a:Option Addr) (m c:Nat) (qs2:List Pk),E2=[(2,ZI b_2),(4,ZI b4)]∧L2=[(b4,.cells (Q6 y).toArray 99 (0,0)),(bc,.cells #[.slice pa pn pc,.slice a m c,.slice aa an ac] 108 (0,0))]∧H2=H∧HLe I1 I2∧PkM I2 y∧Vi y=x∧zav I2 a m c qs2 (D++pre)) (fun pre I1 I2 H' L' h12 ⟨a,m,c,qs2,e1,e2,e3,e4⟩=>⟨a,m,c,qs2,e1,e2,e3.trans h12,e4.mono h12⟩) rfl hF (fun p hp=>hp) (hseq.mono hIc) rfl ⟨_,_,_,qs,rfl,rfl,zB6 _,by rw [List.append_nil];exact hS⟩ ?_ ?_ ?_ ?_
 ·
  rintro l9 Z pre x v0 I1 H1 L1 hpre hI1 ⟨y,rfl,hyM,hyD⟩ ⟨a,m,c,qs2,rfl,rfl,hI01,hQ⟩;refine Qh<|Qp XM rfl rfl (fun b_4=>?_)
  refine zh VE ?_;exact Qb<|Xa _ ⟨zB6 _,_,rfl,y,b_4,a,m,c,qs2,rfl,rfl,rfl,hI01,hyM,hyD,hQ⟩ (.cons rfl (.cons rfl .nil))
 ·
  rintro l9 Z pre x E2 I2 H2 L2 hl9 hpre hI2 ⟨y,b4,a,m,c,qs2,rfl,rfl,rfl,hI02,hyM,hyD,hQ⟩;have hA:=hA.mono hI02;have h2:=h2.mono hI02;have hz:=zqX hQ hok hv hl hpre hyM hyD;have hle:=hpre.length_le;have hml:=hQ.len;rw [List.length_append,List.length_singleton] at hle;rw [List.length_append] at hml;have hC:=zB6 I2;refine Qw (Qm ?_);have hD:=zB6 I2;refine Zn<|QJ I2 [(b4,.cells (Q6 y).toArray 99 (0,0)),(bc,.cells #[.slice pa pn pc,.slice a m c,.slice aa an ac] 108 (0,0))] mixed<|zT 0 rfl (Qc rfl KN (fun hg=>by exact Qy.imm h2.out rfl)) hD<|zT 1 rfl (QC rfl) hD<|zT 2 rfl (Qa rfl Yt) hD<|zT 3 rfl (Qa rfl ZH) hD<|zT 4 rfl (Qg rfl Zl (fun hg=>by exact Cells.s1 (vs:=[_,_]) rfl) rfl) hD<|zT 5 rfl (Qg rfl YO (fun hg=>by exact Cells.g0) rfl) hD ?_
  refine QU 6 10 rfl rfl kA ?_ ?_
  focus
   refine zpc [_,_] rfl zgO .nil (zoh hQ.sl kB hA han y) ?_;rintro vv2 I4 L2 hI2 ⟨a6,m6,c6,a7,m7,c7,rfl,rfl,hN,hm⟩;have hQ:=hQ.mono hI2;have h2:=h2.mono hI2;have hyM:=hyM.mono hI2;have hI02:=hI02.trans hI2;have hC:=hC.trans hI2;have hD:=hD.trans hI2;refine Qb<|zD hD<|zT 7 rfl (Qe rfl) hD<|zT 8 rfl (QS rfl rfl) hD<|zT 9 rfl (QS rfl rfl) hD<|qd 10 rfl<|Qp JC rfl rfl (fun b_5=>Qb<|zD hD ?_)
  rotate_left
  refine Qp JC rfl rfl (fun b_5=>Qb<|zD hD<|qd 6 rfl<|zpc [_,_] rfl zgO .nil (zoh hQ.sl kB hA han y) ?_);rintro vv4 I4 L4 hI4 ⟨a6,m6,c6,a7,m7,c7,rfl,rfl,hN,hm⟩;have hQ:=hQ.mono hI4;have h2:=h2.mono hI4;have hyM:=hyM.mono hI4;have hI02:=hI02.trans hI4;have hC:=hC.trans hI4;have hD:=hD.trans hI4;refine Qb<|zD hD<|zT 7 rfl (Qe rfl) hD<|zT 8 rfl (QS rfl rfl) hD<|zT 9 rfl (QS rfl rfl) hD ?_
  all_goals
   refine qd 11 rfl ?_;refine zh ZO ?_;refine Qb<|zD hD<|zT 12 rfl (QB rfl) hD<|Qn kA<|Qv<|Qd (zR (zM<|zC ?_))
   refine zM<|zpc [_,_] rfl KF .nil ((Wp I4 (KH qs2 ks y==0) (KH qs2 ks y)).m (fun v hv=>by have h9:=hv.2;simp [hz] at h9)) ?_
   rintro vv5 I5 L5 hI5 ⟨rfl,rfl,rfl,_⟩;have hQ:=hQ.mono hI5;have h2:=h2.mono hI5;have hyM:=hyM.mono hI5;have hN:=hN.mono hI5;have hI02:=hI02.trans hI5;have hC:=hC.trans hI5;obtain ⟨e7,e8,e9,hS9⟩:=hN.ok hz;subst a7 m7 c7;have hQ3:=zav.snoc hQ (zB6 _) hS9 hyM hyD;refine zN (Qh<|zV (Qc rfl KN (fun hg=>by exact Qy.imm h2.out rfl))<|zV (Qg rfl Zl (fun hg=>by exact Cells.g0) rfl)<|zV (QC rfl) ?_);refine zF Yt<|zF ZH ?_
   refine Z0 rfl rfl ZO rfl rfl rfl rfl (by repeat (first | exact Upd.here | apply Upd.there | apply ZD))<|Qb (Qk ?_)
   exact zgf (L:=[(bc,.cells #[.slice pa pn pc,.slice _ _ _,.slice aa an ac] 108 (0,0))]) ⟨hC,_,_,_,_,rfl,rfl,hI02,hQ3⟩ (by repeat (first | exact .refl | refine .keep ?_ | refine .drop ?_))
 ·
  rintro bd I1 H1 L1 hI1 ⟨a,m,c,qs2,rfl,rfl,hI01,hQ⟩;have hIc:=hIc.trans hI1;exact Qk<|ziv (L:=[(bc,.cells #[.slice pa pn pc,.slice _ _ _,.slice aa an ac] 108 (0,0))]) (ms:=[bd]) (fun a ha w hw=>zBF rfl a w) (fun w hw=>⟨_,I1,_,rfl,hIc,hw,rfl,_,_,_,_,rfl,hQ⟩)
 rintro cd bd pre I1 H1 L1 hI1 hpre hF;exact hF.elim
variable{k:Nat}{i:Int}{t:Nt}
theorem zf6 (h:(k:Int)=i):Jh (k+1) i t=Jh k i t:=by
 unfold Jh;rw [List.range_succ,List.filter_append,List.map_append];simp [h]
theorem zcI (h:(k:Int)≠i):Jh (k+1) i t=Jh k i t++[pkN i k t]:=by
 unfold Jh;rw [List.range_succ,List.filter_append,List.map_append];simp [h]
theorem zh9 (i : Int) (t : Nt) : ∀ {m k : Nat}, k ≤ m → Jh k i t <+: Jh m i t
  | 0, k, h => by obtain rfl : k = 0 := by omega
                  exact List.prefix_rfl
  | m + 1, k, h => by
    by_cases e : k = m + 1
    · subst e; exact List.prefix_rfl
    · have h1 := zh9 i t (m := m) (k := k) kB
      by_cases hi : (m : Int) = i
      · rw [zf6 hi]; exact h1
      · rw [zcI hi]; exact h1.trans (List.prefix_append ..)
theorem ze8 (h:(k:Int)≠i)(hk:k<m):Jh k i t++[pkN i k t]<+:Jh m i t:=by
 rw [←zcI h];exact zh9 i t hk
theorem zky {k:Int}{b:Nat}(hok:Va.ok (KQ t))(hS:Sl I 1 VY (some ⟨b,0,none⟩) (za7 t).size c (Ur (za7 t))):zyS (KW ⟨i,k,some ⟨b,0,none⟩,(za7 t).size,c,V1 t⟩) (pkN i k t) I:=by
 have e:Ur (za7 t)=V1 t:=Jp (KX _ hok);rw [e] at hS;exact ⟨_,rfl,⟨hS,KX _ hok⟩,rfl⟩
theorem zjd {α β:Type}(f:α→β){l:List α}{x:α}(h:l[k]? =some x):(l.take k).map f++[f x]<+:l.map f:=by
 have h1:(l.take k).map f++[f x]=(l.take (k+1)).map f:=(by rw [Zs h,List.map_append];rfl);rw [h1];exact (List.take_prefix _ _).map f
end
end Go.Proofs.YtjblkbkmblkgoaaGreat
namespace Go.Kn
section
open Go
section
variable {g:World} {H H':Qu} {P:Program} {r:Option Nat} {N:Nat} {D:List Deferred} {Q:Exit→Act→World→Prop} {E:Env} {I:Qu} {b:Nat} {o:Obj} {e:Exit}
theorem zfj (hb:H b=some o)(h:At ⟨P,r,N,D,g,H⟩ Q e E I []):At ⟨P,r,N,D,g,zqP H b⟩ Q e E I [(b,o)]:=fun a w ha hw=>by
 have h1:St g I (Kh (zqP H b) [(b,o)]) [] w:=St.hide hw;rw [zmf hb] at h1;exact h a w ha h1
end
section
variable {C:Cx} {Q:Exit→Act→World→Prop} {E E':Env} {I I' I0:Qu} {loc loc' loc0 L R:Loc} {ops:Array Oper} {rest:List Oper} {S:GS}
variable {d:Nat} {ty:TypeId} {pos:String} {af:Array Edge}
def zxU (g:World)(I0:Qu)(loc0:Loc):World→Prop:=fun w=>∃ H,St g I0 H loc0 w
def XH (C:Cx)(Q:Exit→Act→World→Prop)(ops:Array Oper)(I0:Qu)(loc0:Loc)(fuel:Nat)(listed:Array Bool)(S:GS)(E:Env)(I:Qu)(loc:Loc):Prop:=
 ∀ a w,Uh C.N C.D E a→KM S a→St C.g I C.H loc w→Vj C.r C.P .any ops Q (zxU C.g I0 loc0) fuel listed a w
theorem zbt {id:Nat}{l:List Oper}(I0:Qu)(loc0:Loc)(hm:C.P.follows .mixedOrders=true)(h:XH C Q l.toArray I0 loc0 l.length (Array.replicate l.length false) [] E I loc):X C Q (.region id l.toArray true) E I loc:=fun a w ha hw=>
 wpIn_region_any hm (Wm _ _ _ _ (by simpa using h a _ ha trivial hw.drew))
theorem zt7 (i:Nat){oi:Oper}{d:Nat}{v:Value}{fuel:Nat}{listed:Array Bool}(hi:ops[i]? =some oi)(hv:∀ H,QZ {C with H:=H} S E I0 loc0 oi v)(hG:Zw ops S E oi)(hd:oi.dst=some d)(hN:Nat.blt d C.N=true)(hf:Yg S E d=true)
  (hs:Region.noSelect ops=true)(hfr:Region.free .any ops listed i=true)(hr:(Region.ready .any ops listed).contains i=true)(hQ:Yo Q)(hI:HLe I0 I)(hl:Kk loc0 loc)
  (h:XH C Q ops I0 loc0 fuel (listed.setIfInBounds i true) (zd6 S E d v) (zet S E d v) I loc):XH C Q ops I0 loc0 (fuel+1) listed S E I loc:=by
 intro a w ha hg hw;have hp:=YS ha hg hN hf v;refine Vl (v:=bif Yq S then v else undef) hi (hv C.H).1 (Region.noSelect_spec hs) (fun c a w=>by rw [hd];exact hQ c a d _ w) fuel listed a w (Region.free_spec hi hfr) (by simpa using hr) ?_ ⟨C.H,(hw.mono hI).subL hl⟩ (by rw [hd];exact h _ _ hp.1 hp.2 hw);have hwt:=hG.wanted ha hg
 cases hc:Yq S with
 | true=>exact .inl ⟨by rw [hwt,hc],fun w' ⟨H,hw'⟩=>(hv H).2 a w' ha hg hc hw'⟩
 | false=>exact .inr ⟨by rw [hwt,hc],rfl⟩
theorem zx1 (i:Nat){op:Op}{ty:TypeId}{pos:String}{af:Array Edge}{gd:Option (Nat×Bool)}{d:Nat}{v:Value}{fuel:Nat}{listed:Array Bool}(hi:ops[i]? =some ⟨some d,op,ty,pos,af,gd⟩)(hv:∀ H,QZ {C with H:=H} S E I0 loc0 ⟨some d,op,ty,pos,af,gd⟩ v)(hI:HLe I0 I)(h:XH C Q ops I0 loc0 fuel (listed.setIfInBounds i true) (zd6 S E d v) (zet S E d v) I loc)(hG:Zw ops S E ⟨some d,op,ty,pos,af,gd⟩:=by exact .none rfl)(hN:Nat.blt d C.N=true:=by exact rfl)(hf:Yg S E d=true:=by exact rfl)
  (hs:Region.noSelect ops=true:=by kernel_rfl)(hfr:Region.free .any ops listed i=true:=by kernel_rfl)(hr:(Region.ready .any ops listed).contains i=true:=by kernel_rfl)(hQ:Yo Q:=by first | exact JW | (repeat (first | exact UX | with_reducible refine UV ?_ | with_reducible refine Kv ?_)))(hl:Kk loc0 loc:=by repeat (first | exact .refl | exact Qq | refine .keep ?_ | refine .drop ?_ | refine QR ?_)):XH C Q ops I0 loc0 (fuel+1) listed S E I loc:=zt7 i hi hv hG rfl hN hf hs hfr hr hQ hI hl h
theorem zql (i:Nat){v:Value}{fuel j dj:Nat}{want:Bool}{oj:Oper}{listed:Array Bool}{op:Op}(hi:ops[i]? =some ⟨some d,op,ty,pos,af,some (j,want)⟩)(hj:ops[j]? =some oj)(hd:oj.dst=some dj)(hlk:VT E dj=some (.bool want))
  (hv:∀ H,QZ {C with H:=H} [] E I0 loc0 ⟨some d,op,ty,pos,af,none⟩ v)(hN:Nat.blt d C.N=true)
  (hs:Region.noSelect ops=true)(hfr:Region.free .any ops listed i=true)(hr:(Region.ready .any ops listed).contains i=true)(hQ:Yo Q)(hI:HLe I0 I)(hl:Kk loc0 loc)
  (h:XH C Q ops I0 loc0 fuel (listed.setIfInBounds i true) [] ((d,v)::E) I loc):XH C Q ops I0 loc0 (fuel+1) listed [] E I loc:=by
 intro a w ha hg hw;have hp:=ha.put hN v;refine Vl (v:=v) hi (fun c e=>(hv C.H).1 c e) (Region.noSelect_spec hs) (fun c a w=>hQ c a d _ w) fuel listed a w (Region.free_spec hi hfr) (by simpa using hr) ?_ ⟨C.H,(hw.mono hI).subL hl⟩ (h _ _ hp trivial hw);have hG:Zw ops [(true,[])] E ⟨some d,op,ty,pos,af,some (j,want)⟩:=.some rfl hj hd (by simpa [US,zeW] using hlk) kJ;have hwt:=hG.wanted ha (show KM [(true,[])] a from ⟨(fun _ _ e=>by cases e),trivial⟩);exact .inl ⟨by rw [hwt];rfl,fun w' ⟨H,hw'⟩=>(hv H).2 a w' ha trivial rfl hw'⟩
theorem zx2 (i dj:Nat){d:Nat}{v:Value}{fuel j:Nat}{want:Bool}{oj:Oper}{listed:Array Bool}{op:Op}(hi:ops[i]? =some ⟨some d,op,ty,pos,af,some (j,want)⟩)(hv:∀ H,QZ {C with H:=H} [] E I0 loc0 ⟨some d,op,ty,pos,af,none⟩ v)(hI:HLe I0 I)(h:XH C Q ops I0 loc0 fuel (listed.setIfInBounds i true) [] ((d,v)::E) I loc)(hj:ops[j]? =some oj:=by exact rfl)(hd:oj.dst=some dj:=by exact rfl)(hlk:VT E dj=some (.bool want):=by exact rfl)(hN:Nat.blt d C.N=true:=by exact rfl)
  (hs:Region.noSelect ops=true:=by kernel_rfl)(hfr:Region.free .any ops listed i=true:=by kernel_rfl)(hr:(Region.ready .any ops listed).contains i=true:=by kernel_rfl)(hQ:Yo Q:=by first | exact JW | (repeat (first | exact UX | with_reducible refine UV ?_ | with_reducible refine Kv ?_)))(hl:Kk loc0 loc:=by repeat (first | exact .refl | exact Qq | refine .keep ?_ | refine .drop ?_ | refine QR ?_)):XH C Q ops I0 loc0 (fuel+1) listed [] E I loc:=zql i hi hj hd hlk hv hN hs hfr hr hQ hI hl h
theorem zrg (i:Nat){j dj fuel:Nat}{want:Bool}{oj:Oper}{listed:Array Bool}{op:Op}{u:Value}(hi:ops[i]? =some ⟨some d,op,ty,pos,af,some (j,want)⟩)(hj:ops[j]? =some oj)(hd:oj.dst=some dj)(hlk:VT E dj=some u)(hu:zj2 u want=true)
  (hdf:∀ c,op≠ .defer c)(hN:Nat.blt d C.N=true)
  (hs:Region.noSelect ops=true)(hfr:Region.free .any ops listed i=true)(hr:(Region.ready .any ops listed).contains i=true)(hQ:Yo Q)(hI:HLe I0 I)(hl:Kk loc0 loc)
  (h:XH C Q ops I0 loc0 fuel (listed.setIfInBounds i true) [] ((d,undef)::E) I loc):XH C Q ops I0 loc0 (fuel+1) listed [] E I loc:=by
 intro a w ha hg hw;have hp:=ha.put hN undef;exact Vl (v:=undef) hi hdf (Region.noSelect_spec hs) (fun c a w=>hQ c a d _ w) fuel listed a w (Region.free_spec hi hfr) (by simpa using hr) (.inr ⟨by rw [zbT (o:=⟨some d,op,ty,pos,af,some (j,want)⟩) rfl hj hd ha hlk hu],rfl⟩) ⟨C.H,(hw.mono hI).subL hl⟩ (h _ _ hp trivial hw)
theorem zx3 (i dj:Nat){d j fuel:Nat}{want:Bool}{oj:Oper}{listed:Array Bool}{op:Op}{u:Value}(hI:HLe I0 I)(h:XH C Q ops I0 loc0 fuel (listed.setIfInBounds i true) [] ((d,undef)::E) I loc)(hi:ops[i]? =some ⟨some d,op,ty,pos,af,some (j,want)⟩:=by exact rfl)(hj:ops[j]? =some oj:=by exact rfl)(hd:oj.dst=some dj:=by exact rfl)(hlk:VT E dj=some u:=by exact rfl)(hu:zj2 u want=true:=by exact rfl)
  (hdf:∀ c,op≠ .defer c:=by (intro c e;cases e))(hN:Nat.blt d C.N=true:=by exact rfl)(hs:Region.noSelect ops=true:=by kernel_rfl)(hfr:Region.free .any ops listed i=true:=by kernel_rfl)(hr:(Region.ready .any ops listed).contains i=true:=by kernel_rfl)(hQ:Yo Q:=by first | exact JW | (repeat (first | exact UX | with_reducible refine UV ?_ | with_reducible refine Kv ?_)))(hl:Kk loc0 loc:=by repeat (first | exact .refl | exact Qq | refine .keep ?_ | refine .drop ?_ | refine QR ?_)):XH C Q ops I0 loc0 (fuel+1) listed [] E I loc:=zrg i hi hj hd hlk hu hdf hN hs hfr hr hQ hI hl h
theorem zc1 (i:Nat){oi:Oper}{fuel:Nat}{listed:Array Bool}(hi:ops[i]? =some oi)(hr:Region.ready .any ops listed=[i])
  (h:XO C (fun e a w=>match e with | .normal=>zxU C.g I0 loc0 w∧Vj C.r C.P .any ops Q (zxU C.g I0 loc0) fuel (listed.setIfInBounds i true) a w | e=>Q e a w) ops [oi] S E I loc):XH C Q ops I0 loc0 (fuel+1) listed S E I loc:=by
 intro a w ha hg hw;refine ⟨(fun h0=>by rw [hr] at h0;cases h0),fun j hj=>?_⟩;rw [hr] at hj;obtain rfl:=List.mem_singleton.1 hj;have:=h a w ha hg hw;simp only [wpListIn] at this;unfold wpOpIn;simp only [hi];split
 ·
  rename_i hwt;simp only [hwt,if_true] at this;unfold Oper.wpIn at*;refine ⟨fun _ _=>trivial,?_⟩;have h2:=this.2;generalize (oi.semAt (FR C.r).round a.eval).run C.P w=q at*
  cases q with
  | ok n w'=>cases n<;>exact h2
  | halt x w'=>cases x<;>exact h2
 ·
  rename_i hwt;simp only [hwt] at this;exact this
theorem zjF {i fuel:Nat}{listed:Array Bool}(hI:HLe I0 I)(hl:Kk loc0 loc)(h:XH C Q ops I0 loc0 fuel (listed.setIfInBounds i true) [] E I loc):
  At C (fun e a w=>match e with | .normal=>zxU C.g I0 loc0 w∧Vj C.r C.P .any ops Q (zxU C.g I0 loc0) fuel (listed.setIfInBounds i true) a w | e=>Q e a w) .normal E I loc:=
 fun a w ha hw=>⟨⟨C.H,(hw.mono hI).subL hl⟩,h a w ha trivial hw⟩
theorem zek {fuel:Nat}{listed:Array Bool}(hr:Region.ready .any ops listed=[])(h:At C Q .normal E I loc):XH C Q ops I0 loc0 fuel listed S E I loc:=fun a w ha hg hw=>by
 cases fuel with
 | zero=>exact ⟨hr,h a w ha hw⟩
 | succ n=>exact ⟨fun _=>h a w ha hw,by rw [hr];simp⟩
end
end
end Go.Kn
namespace Go.Proofs.YtjblkbkmblkgoaaGreat
section
open Go Go.Kn Go.Proofs
theorem zmu:BsT Tryz.prog 80 5 9:=⟨kA,kA,kA⟩
theorem Y5:QM Tryz.prog 47 1 1:=.of kA
theorem WA:QM Tryz.prog 47 4 4:=.of kA
theorem zvU:Fun Tryz.prog 111:=.of Tryz.func111 kA kA
theorem zvH {I:Qu}{bc b2 b3:Nat}{pa qa aa:Option Addr}{pn pc qn qc an ac:Nat}(x:Ev)(h2:BxI I b2 (.cells #[ZI bc] 105 (0,0)))(h3:BxI I b3 (.cells (U3 x).toArray 47 (0,0)))(hT:NtM I x.note)(hok9:Va.ok (KQ x.note))(hpn:pn≤100000):zfD Tryz.prog 111 [ZI b2,ZI b3] I [(bc,.cells #[.slice pa pn pc,.slice qa qn qc,.slice aa an ac] 108 (0,0))] zyS (Jh pn x.peer x.note):=by
 intro g l J Jx hJm hY I0 H w h0 hJ hb hw;have hbc:=hb _ (List.mem_singleton.2 rfl);have hw:=hw.peek hbc;have hI0:=zB6 I0;have hCI:=zB6 I0;have h2:=h2.mono h0;have h3:=h3.mono h0;have hT:=hT.mono h0;refine qe Tryz.func111 Tryz.ntmps111 hw ?_;refine zR<|zV (Qc rfl KN (fun hg=>by exact Qy.imm h2.out rfl))<|zV (QC rfl) ?_
 refine zF Yt<|zF Zp ?_
 refine zL Z6<|zQ Z4<|zM (Qb<|zfj hbc<|Qd (Qw<|zgB (fun m E I' H' loc'=>∃ k:Nat,m=pn-k∧E=[(0,.func (.yield l) #[] #[]),(1,ZI b2),(2,ZI b3),(10,.int .i64 pn),(11,.int .i64 k)]∧loc'=[]∧HLe I0 I'∧k≤pn∧J (Jh k x.peer x.note) I' H') _ _ _ ⟨0,rfl,rfl,rfl,zB6 _,Nat.zero_le _,hJ⟩ (.cons rfl (.cons rfl (.cons rfl (.cons rfl (.cons rfl .nil))))) rfl ?_))
 rintro m E J9 H' loc' ⟨k,rfl,rfl,rfl,hI1,hk,hJk⟩;have h3:=h3.mono hI1;have hT:=hT.mono hI1;have hI0:=hI1;have hCI:=zB6 J9;refine zR (zC (zN (Qm ?_)));refine zI ?_ ?_<;>intro hc12
 ·
  have hlt:k<pn:=(by have h:=hc12;simp at h;omega);refine Qr (Qd (Qm (Qw (zR (zM<|zA (zN (Qm ?_)))))));by_cases hne:(k:Int)=x.peer
  ·
   have hk0:((k:Int) != x.peer)=false:=(by simp [hne]);have hD:=zB6 J9;refine Zn<|zbt J9 [] mixed<|zx1 0 rfl (fun _=>Qe rfl) hD<|zx1 1 rfl (fun _=>Qa rfl Y5) hD<|zx1 2 rfl (fun _=>Qc rfl Ql (fun hg=>by exact Qy.imm h3.out rfl)) hD<|zx1 3 rfl (fun _=>QA rfl rfl rfl) hD ?_
   rw [hk0];refine zx1 4 rfl (fun _=>Qe rfl) hD<|zx3 5 18 hD ?_
   refine zx3 6 18 hD ?_;refine zx3 7 18 hD ?_;refine zx3 8 18 hD ?_;refine zx3 9 18 hD ?_;refine zx3 10 18 hD ?_;refine zx3 11 18 hD ?_;refine zx3 12 18 hD ?_;refine zx3 13 18 hD ?_;refine zx3 14 18 hD ?_;refine zx3 15 18 hD<|zx1 16 rfl (fun _=>Ye rfl rfl rfl) hD<|zek kA<|Qv<|Qd ?_
   refine zI ?_ ?_<;>intro hc30
   ·
    cases hc30
   refine Qr (Qk (Qd (Qh (zB<|zM (Qb ?_)))))
   first
   | exact zbx rfl rfl rfl _ [] ⟨pn-(k+1),kB,k+1,rfl,rfl,rfl,hI0,kB,by rw [zf6 hne];exact hJm _ _ _ _ hCI hJk⟩ (.cons rfl (.cons rfl (.cons rfl (.cons rfl (.cons rfl .nil))))) kO
  have hk0:((k:Int) != x.peer)=true:=(by simp [hne]);have hD:=zB6 J9;refine Zn<|zbt J9 [] mixed<|zx1 0 rfl (fun _=>Qe rfl) hD<|zx1 1 rfl (fun _=>Qa rfl Y5) hD<|zx1 2 rfl (fun _=>Qc rfl Ql (fun hg=>by exact Qy.imm h3.out rfl)) hD<|zx1 3 rfl (fun _=>QA rfl rfl rfl) hD ?_
  rw [hk0];refine zx1 4 rfl (fun _=>Qe rfl) hD<|zx2 5 18 rfl (fun _=>Qe rfl) hD<|zx2 6 18 rfl (fun _=>Qa rfl Y5) hD<|zx2 7 18 rfl (fun _=>Qc rfl Ql (fun hg=>by exact Qy.imm h3.out rfl)) hD<|zx2 8 18 rfl (fun _=>Qe rfl) hD<|zx2 9 18 rfl (fun _=>Qa rfl WA) hD<|zx2 10 18 rfl (fun _=>Qg rfl Zc (fun hg=>by exact Cells.part (pre:=[_,_,_,_]) (vs:=Zf x.note) (post:=[]) (BxI.cells (vs:=U3 x) h3) rfl) rfl) hD<|zc1 11 rfl kA<|QQ (dj:=18) rfl rfl rfl<|qcV (vs:=[_]) rfl zeY (zmc x.note hT.nd hT.nn hT.ok hT.len)<|Qb ?_
  refine zjF hD kH ?_;refine zc1 12 rfl kA<|QQ (dj:=18) rfl rfl rfl<|Xf (s:=za7 x.note) rfl zmu rfl rfl (fun b9 c9 I1 hI1 hB=>?_)
  have hI0:=hI0.trans hI1;have hCI:=hCI.trans hI1;have hD:=hD.trans hI1;refine Qb ?_;refine zjF hD kH ?_;refine zx2 13 18 rfl (fun _=>QD (ps:=[(0,_),(1,_),(2,_)]) [_,_,_] zbP rfl rfl) hD<|zc1 14 rfl kA<|QQ (dj:=18) rfl rfl rfl<|zbH (vs:=[_]) (Post:=fun b I2 H2=>if b then J ((Jh k x.peer x.note)++[pkN x.peer k x.note]) I2 H2 else Jx ((Jh k x.peer x.note)++[pkN x.peer k x.note]) I2 H2) rfl rfl rfl rfl (hY _ _ _ _ _ (ze8 hne hlt) (h0.trans hI0) (zky hok9 hB) (hJm _ _ _ _ hCI hJk)) ?_
  rintro t9 I2 H9 hI2 hP9;have hI0:=hI0.trans hI2;have hD:=hD.trans hI2;refine Qb ?_;refine zjF hD kH ?_;refine zx2 15 18 rfl (fun _=>ZB rfl) hD<|zx1 16 rfl (fun _=>QY rfl rfl rfl) hD<|zek kA<|Qv<|Qd ?_
  refine zI ?_ ?_<;>intro hc30
  ·
   have ht:t9=false:=(by simpa using hc30);subst ht;have hJ2:Jx ((Jh k x.peer x.note)++[pkN x.peer k x.note]) _ H9:=hP9;exact Qs (Qi (Qf (Qf (Qi<|Yu rfl (fun w hw=>⟨_,_,H9,rfl,hI0,by exact hw,.inr ⟨_,ze8 hne hlt,hJ2⟩⟩)))))
  have ht:t9=true:=(by simpa using hc30);subst ht;have hJ2:J ((Jh k x.peer x.note)++[pkN x.peer k x.note]) _ H9:=hP9;refine Qr (Qk (Qd (Qh (zB<|zM (Qb ?_)))))
  first
  | exact zbx rfl rfl rfl _ [] ⟨pn-(k+1),kB,k+1,rfl,rfl,rfl,hI0,kB,by rw [zcI hne];exact hJ2⟩ (.cons rfl (.cons rfl (.cons rfl (.cons rfl (.cons rfl .nil))))) kO
 have hge:pn≤k:=(by have h:=hc12;simp at h;omega);obtain rfl:k=pn:=kB;exact Zk (Qo (Qo (Qz<|YX (Yu rfl (fun w hw=>⟨_,_,_,rfl,hI1,hw,.inl hJk⟩)))))
end
end Go.Proofs.YtjblkbkmblkgoaaGreat
