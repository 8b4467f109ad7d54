/- partiesWorldSpec_holds, part E of the proof: what its theorems say holds without further conditions. -/
import Derived.Test.YtjblkbkmblkgoaaGreatWSD
namespace Go.Proofs.YtjblkbkmblkgoaaGreat
section
open Go Go.Kn Go.Proofs
variable{I:Qv}{qa aa:Option Addr}{qn qc an ac:Nat}{qs:List Pk}{ks:List (Int×Int)}
theorem zor (hQ:Sl I 3 ZK qa qn qc qs)(hqn:qn≤100000)(hA:Sl I 2 Um aa an ac ks)(han:an≤100000)(x:Pk):Y7 Tryz.prog 176 [.agg #[.slice qa qn qc,.slice aa an ac],Xp x] I [] (fun v I' L'=>∃ a m c a2 m2 c2,v= .tuple #[.agg #[.slice a m c,.slice a2 m2 c2],.int .i64 (UX qs ks x)]∧L'=[]∧zkn I' (UX qs ks x) a m c a2 m2 c2 (qs++[x]) aa an ac∧(UX qs ks x=0→m=qn+1)):=by
 intro g H w hw;refine qe Tryz.func176 Tryz.ntmps176 hw ?_;have hIc:=zCA I;have hlq:=hQ.len;have hcq:=hQ.cap;refine zR<|QQ rfl rfl rfl (fun b_2=>QQ rfl rfl rfl (fun b_3=>Qt Wk rfl rfl (fun b_4=>zA (Qb<|QH (.there .here) (fun I1 hI1 hb1=>?_)))))
 have hQ:=hQ.mono hI1;have hA:=hA.mono hI1;have hIc:=hIc.trans hI1;have h3:=BxI.of hb1;refine Qc (Qm (zR<|zV (Qg rfl ZW (fun hg=>by exact Cells.g1) rfl)<|qcV (vs:=[_]) rfl zmb (znX hQ hqn hA han)<|zC ?_));refine zM ?_;refine QK 3 rfl rfl rfl ?_;refine zJ (Qg rfl Jg (fun hg=>by exact BxI.cells (vs:=ZK x) h3) rfl) ?_;refine qf (vs:=[_]) rfl znr (fun hg=>zjj _ x) ?_;refine zJ (Zy rfl) ?_;refine Zf rfl rfl rfl rfl rfl ?_;refine zN ?_;refine zI ?_ ?_<;>intro hc13
 ·
  have hs1:=zwP hc13;refine zR<|zV (Qg rfl ZW (fun hg=>by exact Cells.g0) rfl)<|zh YB<|zA (zN (Qs (Qf ?_)))
  first
  | exact Zz rfl rfl rfl ZW zCy rfl (fun w hw=>⟨_,I1,[],rfl,hIc,hw.drop.drop,_,_,_,_,_,_,by rw [hs1]<;>rfl,rfl,zae (by rw [hs1];decide),fun h=>by rw [hs1] at h;cases h⟩)
 refine Qp (Qc (Qm (zR<|zF Zq ?_)));refine zL Zv<|zQ Zn<|zC (zN ?_)
 refine zI ?_ ?_<;>intro hc18
 ·
  have hs2:=zz1 hc13 (by rw [hlq];exact hc18);refine zR<|zV (Qg rfl ZW (fun hg=>by exact Cells.g0) rfl)<|zh YB<|zA (zN (Qs (Qf ?_)))
  first
  | exact Zz rfl rfl rfl ZW zCy rfl (fun w hw=>⟨_,I1,[],rfl,hIc,hw.drop.drop,_,_,_,_,_,_,by rw [hs2]<;>rfl,rfl,zae (by rw [hs2];decide),fun h=>by rw [hs2] at h;cases h⟩)
 have hs3:=zrP hc13 (by rw [hlq];exact hc18);refine Qp (Qc ?_);refine zY [(2,_),(4,_)] (fun T L0 E I' loc'=>∃ (v:Value) (L:Go.Kn.Loc),E=T∧I1=I'∧L++[(b_4,.cells #[.slice none 0 0,.slice none 0 0] 26 (0,0)),(b_2,.cells #[v,.slice aa an ac] 26 (0,0))]=loc'∧ZP 99 3 v (qn+1) ((qs++[x]).flatMap ZK) L) ?_ ?_
 ·
  have hD:=zCA I1;refine Zm<|QI I1 [] mixed<|zT 0 rfl (Qa rfl Zq) hD<|zT 2 rfl (Qa rfl Zq) hD<|zT 5 rfl (Qa rfl Zq) hD<|zT 9 rfl (Qg rfl Jg (fun hg=>by exact BxI.cells (vs:=ZK x) h3) rfl) hD ?_
  refine zlD 1 3 6 10 rfl rfl rfl rfl kA ?_ ?_ ?_ ?_
  ·
   refine zL Zv<|Qb<|zD hD ?_
   refine V0 3 6 10 rfl rfl rfl kA ?_ ?_ ?_
   ·
    refine zL Zv<|Qb<|zD hD<|zT 4 rfl (QV rfl Zn) hD ?_
    refine QS 6 10 rfl rfl kA ?_ ?_
    ·
     refine zL Zv<|Qb<|zD hD<|zT 7 rfl (QV rfl Zn) hD ?_
     refine zT 8 rfl (Zu rfl rfl rfl Zn (fun hg=>kB)) hD<|qd 10 rfl<|zpb [(0,_)] [ZK x] ZY (fun b_30=>Qb<|zD hD<|qd 11 rfl<|QT (ys:=[x].flatMap ZK) ZG rfl rfl ZY hQ.cut ⟨rfl,fun _=>rfl,zCy⟩ kD kB rfl rfl ?_)
     intro v1 L1 hO1;rw [←List.flatMap_append] at hO1;obtain ⟨a1,c1,rfl⟩:=hO1.shape;refine Qb<|zD hD<|zT 12 rfl (Qa rfl Zq) hD<|qd 13 rfl ?_
     refine zS Vi ?_;exact Qb<|zD hD<|Qo kA<|Qw<|zm (h:=⟨_,_,rfl,rfl,rfl,hO1⟩)
    refine zpb [(0,_)] [ZK x] ZY (fun b_30=>Qb<|zD hD<|qd 6 rfl ?_);refine zL Zv<|Qb<|zD hD<|zT 7 rfl (QV rfl Zn) hD ?_
    refine zT 8 rfl (Zu rfl rfl rfl Zn (fun hg=>kB)) hD<|qd 11 rfl<|QT (ys:=[x].flatMap ZK) ZG rfl rfl ZY hQ.cut ⟨rfl,fun _=>rfl,zCy⟩ kD kB rfl rfl ?_
    intro v1 L1 hO1;rw [←List.flatMap_append] at hO1;obtain ⟨a1,c1,rfl⟩:=hO1.shape;refine Qb<|zD hD<|zT 12 rfl (Qa rfl Zq) hD<|qd 13 rfl ?_
    refine zS Vi ?_;exact Qb<|zD hD<|Qo kA<|Qw<|zm (h:=⟨_,_,rfl,rfl,rfl,hO1⟩)
   ·
    refine zL Zv<|Qb<|zD hD<|zT 7 rfl (QV rfl Zn) hD ?_
    refine QS 3 10 rfl rfl kA ?_ ?_
    ·
     refine zL Zv<|Qb<|zD hD<|zT 4 rfl (QV rfl Zn) hD ?_
     refine zT 8 rfl (Zu rfl rfl rfl Zn (fun hg=>kB)) hD<|qd 10 rfl<|zpb [(0,_)] [ZK x] ZY (fun b_30=>Qb<|zD hD<|qd 11 rfl<|QT (ys:=[x].flatMap ZK) ZG rfl rfl ZY hQ.cut ⟨rfl,fun _=>rfl,zCy⟩ kD kB rfl rfl ?_)
     intro v1 L1 hO1;rw [←List.flatMap_append] at hO1;obtain ⟨a1,c1,rfl⟩:=hO1.shape;refine Qb<|zD hD<|zT 12 rfl (Qa rfl Zq) hD<|qd 13 rfl ?_
     refine zS Vi ?_;exact Qb<|zD hD<|Qo kA<|Qw<|zm (h:=⟨_,_,rfl,rfl,rfl,hO1⟩)
    refine zpb [(0,_)] [ZK x] ZY (fun b_30=>Qb<|zD hD<|qd 3 rfl ?_);refine zL Zv<|Qb<|zD hD<|zT 4 rfl (QV rfl Zn) hD ?_
    refine zT 8 rfl (Zu rfl rfl rfl Zn (fun hg=>kB)) hD<|qd 11 rfl<|QT (ys:=[x].flatMap ZK) ZG rfl rfl ZY hQ.cut ⟨rfl,fun _=>rfl,zCy⟩ kD kB rfl rfl ?_
    intro v1 L1 hO1;rw [←List.flatMap_append] at hO1;obtain ⟨a1,c1,rfl⟩:=hO1.shape;refine Qb<|zD hD<|zT 12 rfl (Qa rfl Zq) hD<|qd 13 rfl ?_
    refine zS Vi ?_;exact Qb<|zD hD<|Qo kA<|Qw<|zm (h:=⟨_,_,rfl,rfl,rfl,hO1⟩)
   refine zpb [(0,_)] [ZK x] ZY (fun b_30=>Qb<|zD hD ?_);refine QS 3 6 rfl rfl kA ?_ ?_
   ·
    refine zL Zv<|Qb<|zD hD<|zT 4 rfl (QV rfl Zn) hD<|qd 6 rfl ?_
    refine zL Zv<|Qb<|zD hD<|zT 7 rfl (QV rfl Zn) hD ?_
    refine zT 8 rfl (Zu rfl rfl rfl Zn (fun hg=>kB)) hD<|qd 11 rfl<|QT (ys:=[x].flatMap ZK) ZG rfl rfl ZY hQ.cut ⟨rfl,fun _=>rfl,zCy⟩ kD kB rfl rfl ?_
    intro v1 L1 hO1;rw [←List.flatMap_append] at hO1;obtain ⟨a1,c1,rfl⟩:=hO1.shape;refine Qb<|zD hD<|zT 12 rfl (Qa rfl Zq) hD<|qd 13 rfl ?_
    refine zS Vi ?_;exact Qb<|zD hD<|Qo kA<|Qw<|zm (h:=⟨_,_,rfl,rfl,rfl,hO1⟩)
   refine zL Zv<|Qb<|zD hD<|zT 7 rfl (QV rfl Zn) hD<|qd 3 rfl ?_
   refine zL Zv<|Qb<|zD hD<|zT 4 rfl (QV rfl Zn) hD ?_
   refine zT 8 rfl (Zu rfl rfl rfl Zn (fun hg=>kB)) hD<|qd 11 rfl<|QT (ys:=[x].flatMap ZK) ZG rfl rfl ZY hQ.cut ⟨rfl,fun _=>rfl,zCy⟩ kD kB rfl rfl ?_
   intro v1 L1 hO1;rw [←List.flatMap_append] at hO1;obtain ⟨a1,c1,rfl⟩:=hO1.shape;refine Qb<|zD hD<|zT 12 rfl (Qa rfl Zq) hD<|qd 13 rfl ?_
   refine zS Vi ?_;exact Qb<|zD hD<|Qo kA<|Qw<|zm (h:=⟨_,_,rfl,rfl,rfl,hO1⟩)
  ·
   refine zL Zv<|Qb<|zD hD<|zT 4 rfl (QV rfl Zn) hD ?_
   refine V0 1 6 10 rfl rfl rfl kA ?_ ?_ ?_
   ·
    refine zL Zv<|Qb<|zD hD ?_
    refine QS 6 10 rfl rfl kA ?_ ?_
    ·
     refine zL Zv<|Qb<|zD hD<|zT 7 rfl (QV rfl Zn) hD ?_
     refine zT 8 rfl (Zu rfl rfl rfl Zn (fun hg=>kB)) hD<|qd 10 rfl<|zpb [(0,_)] [ZK x] ZY (fun b_30=>Qb<|zD hD<|qd 11 rfl<|QT (ys:=[x].flatMap ZK) ZG rfl rfl ZY hQ.cut ⟨rfl,fun _=>rfl,zCy⟩ kD kB rfl rfl ?_)
     intro v1 L1 hO1;rw [←List.flatMap_append] at hO1;obtain ⟨a1,c1,rfl⟩:=hO1.shape;refine Qb<|zD hD<|zT 12 rfl (Qa rfl Zq) hD<|qd 13 rfl ?_
     refine zS Vi ?_;exact Qb<|zD hD<|Qo kA<|Qw<|zm (h:=⟨_,_,rfl,rfl,rfl,hO1⟩)
    refine zpb [(0,_)] [ZK x] ZY (fun b_30=>Qb<|zD hD<|qd 6 rfl ?_);refine zL Zv<|Qb<|zD hD<|zT 7 rfl (QV rfl Zn) hD ?_
    refine zT 8 rfl (Zu rfl rfl rfl Zn (fun hg=>kB)) hD<|qd 11 rfl<|QT (ys:=[x].flatMap ZK) ZG rfl rfl ZY hQ.cut ⟨rfl,fun _=>rfl,zCy⟩ kD kB rfl rfl ?_
    intro v1 L1 hO1;rw [←List.flatMap_append] at hO1;obtain ⟨a1,c1,rfl⟩:=hO1.shape;refine Qb<|zD hD<|zT 12 rfl (Qa rfl Zq) hD<|qd 13 rfl ?_
    refine zS Vi ?_;exact Qb<|zD hD<|Qo kA<|Qw<|zm (h:=⟨_,_,rfl,rfl,rfl,hO1⟩)
   ·
    refine zL Zv<|Qb<|zD hD<|zT 7 rfl (QV rfl Zn) hD ?_
    refine QS 1 10 rfl rfl kA ?_ ?_
    ·
     refine zL Zv ?_;refine Qb<|zD hD ?_
     refine zT 8 rfl (Zu rfl rfl rfl Zn (fun hg=>kB)) hD<|qd 10 rfl<|zpb [(0,_)] [ZK x] ZY (fun b_30=>Qb<|zD hD<|qd 11 rfl<|QT (ys:=[x].flatMap ZK) ZG rfl rfl ZY hQ.cut ⟨rfl,fun _=>rfl,zCy⟩ kD kB rfl rfl ?_)
     intro v1 L1 hO1;rw [←List.flatMap_append] at hO1;obtain ⟨a1,c1,rfl⟩:=hO1.shape;refine Qb<|zD hD<|zT 12 rfl (Qa rfl Zq) hD<|qd 13 rfl ?_
     refine zS Vi ?_;exact Qb<|zD hD<|Qo kA<|Qw<|zm (h:=⟨_,_,rfl,rfl,rfl,hO1⟩)
    refine zpb [(0,_)] [ZK x] ZY (fun b_30=>Qb<|zD hD<|qd 1 rfl ?_);refine zL Zv<|Qb<|zD hD ?_
    refine zT 8 rfl (Zu rfl rfl rfl Zn (fun hg=>kB)) hD<|qd 11 rfl<|QT (ys:=[x].flatMap ZK) ZG rfl rfl ZY hQ.cut ⟨rfl,fun _=>rfl,zCy⟩ kD kB rfl rfl ?_
    intro v1 L1 hO1;rw [←List.flatMap_append] at hO1;obtain ⟨a1,c1,rfl⟩:=hO1.shape;refine Qb<|zD hD<|zT 12 rfl (Qa rfl Zq) hD<|qd 13 rfl ?_
    refine zS Vi ?_;exact Qb<|zD hD<|Qo kA<|Qw<|zm (h:=⟨_,_,rfl,rfl,rfl,hO1⟩)
   refine zpb [(0,_)] [ZK x] ZY (fun b_30=>Qb<|zD hD ?_);refine QS 1 6 rfl rfl kA ?_ ?_
   ·
    refine zL Zv ?_;refine Qb<|zD hD<|qd 6 rfl ?_
    refine zL Zv<|Qb<|zD hD<|zT 7 rfl (QV rfl Zn) hD ?_
    refine zT 8 rfl (Zu rfl rfl rfl Zn (fun hg=>kB)) hD<|qd 11 rfl<|QT (ys:=[x].flatMap ZK) ZG rfl rfl ZY hQ.cut ⟨rfl,fun _=>rfl,zCy⟩ kD kB rfl rfl ?_
    intro v1 L1 hO1;rw [←List.flatMap_append] at hO1;obtain ⟨a1,c1,rfl⟩:=hO1.shape;refine Qb<|zD hD<|zT 12 rfl (Qa rfl Zq) hD<|qd 13 rfl ?_
    refine zS Vi ?_;exact Qb<|zD hD<|Qo kA<|Qw<|zm (h:=⟨_,_,rfl,rfl,rfl,hO1⟩)
   refine zL Zv<|Qb<|zD hD<|zT 7 rfl (QV rfl Zn) hD<|qd 1 rfl ?_
   refine zL Zv<|Qb<|zD hD ?_
   refine zT 8 rfl (Zu rfl rfl rfl Zn (fun hg=>kB)) hD<|qd 11 rfl<|QT (ys:=[x].flatMap ZK) ZG rfl rfl ZY hQ.cut ⟨rfl,fun _=>rfl,zCy⟩ kD kB rfl rfl ?_
   intro v1 L1 hO1;rw [←List.flatMap_append] at hO1;obtain ⟨a1,c1,rfl⟩:=hO1.shape;refine Qb<|zD hD<|zT 12 rfl (Qa rfl Zq) hD<|qd 13 rfl ?_
   refine zS Vi ?_;exact Qb<|zD hD<|Qo kA<|Qw<|zm (h:=⟨_,_,rfl,rfl,rfl,hO1⟩)
  ·
   refine zL Zv<|Qb<|zD hD<|zT 7 rfl (QV rfl Zn) hD ?_
   refine V0 1 3 10 rfl rfl rfl kA ?_ ?_ ?_
   ·
    refine zL Zv<|Qb<|zD hD ?_
    refine QS 3 10 rfl rfl kA ?_ ?_
    ·
     refine zL Zv<|Qb<|zD hD<|zT 4 rfl (QV rfl Zn) hD ?_
     refine zT 8 rfl (Zu rfl rfl rfl Zn (fun hg=>kB)) hD<|qd 10 rfl<|zpb [(0,_)] [ZK x] ZY (fun b_30=>Qb<|zD hD<|qd 11 rfl<|QT (ys:=[x].flatMap ZK) ZG rfl rfl ZY hQ.cut ⟨rfl,fun _=>rfl,zCy⟩ kD kB rfl rfl ?_)
     intro v1 L1 hO1;rw [←List.flatMap_append] at hO1;obtain ⟨a1,c1,rfl⟩:=hO1.shape;refine Qb<|zD hD<|zT 12 rfl (Qa rfl Zq) hD<|qd 13 rfl ?_
     refine zS Vi ?_;exact Qb<|zD hD<|Qo kA<|Qw<|zm (h:=⟨_,_,rfl,rfl,rfl,hO1⟩)
    refine zpb [(0,_)] [ZK x] ZY (fun b_30=>Qb<|zD hD<|qd 3 rfl ?_);refine zL Zv<|Qb<|zD hD<|zT 4 rfl (QV rfl Zn) hD ?_
    refine zT 8 rfl (Zu rfl rfl rfl Zn (fun hg=>kB)) hD<|qd 11 rfl<|QT (ys:=[x].flatMap ZK) ZG rfl rfl ZY hQ.cut ⟨rfl,fun _=>rfl,zCy⟩ kD kB rfl rfl ?_
    intro v1 L1 hO1;rw [←List.flatMap_append] at hO1;obtain ⟨a1,c1,rfl⟩:=hO1.shape;refine Qb<|zD hD<|zT 12 rfl (Qa rfl Zq) hD<|qd 13 rfl ?_
    refine zS Vi ?_;exact Qb<|zD hD<|Qo kA<|Qw<|zm (h:=⟨_,_,rfl,rfl,rfl,hO1⟩)
   ·
    refine zL Zv<|Qb<|zD hD<|zT 4 rfl (QV rfl Zn) hD ?_
    refine QS 1 10 rfl rfl kA ?_ ?_
    ·
     refine zL Zv ?_;refine Qb<|zD hD ?_
     refine zT 8 rfl (Zu rfl rfl rfl Zn (fun hg=>kB)) hD<|qd 10 rfl<|zpb [(0,_)] [ZK x] ZY (fun b_30=>Qb<|zD hD<|qd 11 rfl<|QT (ys:=[x].flatMap ZK) ZG rfl rfl ZY hQ.cut ⟨rfl,fun _=>rfl,zCy⟩ kD kB rfl rfl ?_)
     intro v1 L1 hO1;rw [←List.flatMap_append] at hO1;obtain ⟨a1,c1,rfl⟩:=hO1.shape;refine Qb<|zD hD<|zT 12 rfl (Qa rfl Zq) hD<|qd 13 rfl ?_
     refine zS Vi ?_;exact Qb<|zD hD<|Qo kA<|Qw<|zm (h:=⟨_,_,rfl,rfl,rfl,hO1⟩)
    refine zpb [(0,_)] [ZK x] ZY (fun b_30=>Qb<|zD hD<|qd 1 rfl ?_);refine zL Zv<|Qb<|zD hD ?_
    refine zT 8 rfl (Zu rfl rfl rfl Zn (fun hg=>kB)) hD<|qd 11 rfl<|QT (ys:=[x].flatMap ZK) ZG rfl rfl ZY hQ.cut ⟨rfl,fun _=>rfl,zCy⟩ kD kB rfl rfl ?_
    intro v1 L1 hO1;rw [←List.flatMap_append] at hO1;obtain ⟨a1,c1,rfl⟩:=hO1.shape;refine Qb<|zD hD<|zT 12 rfl (Qa rfl Zq) hD<|qd 13 rfl ?_
    refine zS Vi ?_;exact Qb<|zD hD<|Qo kA<|Qw<|zm (h:=⟨_,_,rfl,rfl,rfl,hO1⟩)
   refine zpb [(0,_)] [ZK x] ZY (fun b_30=>Qb<|zD hD ?_);refine QS 1 3 rfl rfl kA ?_ ?_
   ·
    refine zL Zv ?_;refine Qb<|zD hD<|qd 3 rfl ?_
    refine zL Zv<|Qb<|zD hD<|zT 4 rfl (QV rfl Zn) hD ?_
    refine zT 8 rfl (Zu rfl rfl rfl Zn (fun hg=>kB)) hD<|qd 11 rfl<|QT (ys:=[x].flatMap ZK) ZG rfl rfl ZY hQ.cut ⟨rfl,fun _=>rfl,zCy⟩ kD kB rfl rfl ?_
    intro v1 L1 hO1;rw [←List.flatMap_append] at hO1;obtain ⟨a1,c1,rfl⟩:=hO1.shape;refine Qb<|zD hD<|zT 12 rfl (Qa rfl Zq) hD<|qd 13 rfl ?_
    refine zS Vi ?_;exact Qb<|zD hD<|Qo kA<|Qw<|zm (h:=⟨_,_,rfl,rfl,rfl,hO1⟩)
   refine zL Zv<|Qb<|zD hD<|zT 4 rfl (QV rfl Zn) hD<|qd 1 rfl ?_
   refine zL Zv<|Qb<|zD hD ?_
   refine zT 8 rfl (Zu rfl rfl rfl Zn (fun hg=>kB)) hD<|qd 11 rfl<|QT (ys:=[x].flatMap ZK) ZG rfl rfl ZY hQ.cut ⟨rfl,fun _=>rfl,zCy⟩ kD kB rfl rfl ?_
   intro v1 L1 hO1;rw [←List.flatMap_append] at hO1;obtain ⟨a1,c1,rfl⟩:=hO1.shape;refine Qb<|zD hD<|zT 12 rfl (Qa rfl Zq) hD<|qd 13 rfl ?_
   refine zS Vi ?_;exact Qb<|zD hD<|Qo kA<|Qw<|zm (h:=⟨_,_,rfl,rfl,rfl,hO1⟩)
  refine zpb [(0,_)] [ZK x] ZY (fun b_30=>Qb<|zD hD ?_);refine V0 1 3 6 rfl rfl rfl kA ?_ ?_ ?_
  ·
   refine zL Zv<|Qb<|zD hD ?_
   refine QS 3 6 rfl rfl kA ?_ ?_
   ·
    refine zL Zv<|Qb<|zD hD<|zT 4 rfl (QV rfl Zn) hD<|qd 6 rfl ?_
    refine zL Zv<|Qb<|zD hD<|zT 7 rfl (QV rfl Zn) hD ?_
    refine zT 8 rfl (Zu rfl rfl rfl Zn (fun hg=>kB)) hD<|qd 11 rfl<|QT (ys:=[x].flatMap ZK) ZG rfl rfl ZY hQ.cut ⟨rfl,fun _=>rfl,zCy⟩ kD kB rfl rfl ?_
    intro v1 L1 hO1;rw [←List.flatMap_append] at hO1;obtain ⟨a1,c1,rfl⟩:=hO1.shape;refine Qb<|zD hD<|zT 12 rfl (Qa rfl Zq) hD<|qd 13 rfl ?_
    refine zS Vi ?_;exact Qb<|zD hD<|Qo kA<|Qw<|zm (h:=⟨_,_,rfl,rfl,rfl,hO1⟩)
   refine zL Zv<|Qb<|zD hD<|zT 7 rfl (QV rfl Zn) hD<|qd 3 rfl ?_
   refine zL Zv<|Qb<|zD hD<|zT 4 rfl (QV rfl Zn) hD ?_
   refine zT 8 rfl (Zu rfl rfl rfl Zn (fun hg=>kB)) hD<|qd 11 rfl<|QT (ys:=[x].flatMap ZK) ZG rfl rfl ZY hQ.cut ⟨rfl,fun _=>rfl,zCy⟩ kD kB rfl rfl ?_
   intro v1 L1 hO1;rw [←List.flatMap_append] at hO1;obtain ⟨a1,c1,rfl⟩:=hO1.shape;refine Qb<|zD hD<|zT 12 rfl (Qa rfl Zq) hD<|qd 13 rfl ?_
   refine zS Vi ?_;exact Qb<|zD hD<|Qo kA<|Qw<|zm (h:=⟨_,_,rfl,rfl,rfl,hO1⟩)
  ·
   refine zL Zv<|Qb<|zD hD<|zT 4 rfl (QV rfl Zn) hD ?_
   refine QS 1 6 rfl rfl kA ?_ ?_
   ·
    refine zL Zv<|Qb<|zD hD<|qd 6 rfl ?_
    refine zL Zv<|Qb<|zD hD<|zT 7 rfl (QV rfl Zn) hD ?_
    refine zT 8 rfl (Zu rfl rfl rfl Zn (fun hg=>kB)) hD<|qd 11 rfl<|QT (ys:=[x].flatMap ZK) ZG rfl rfl ZY hQ.cut ⟨rfl,fun _=>rfl,zCy⟩ kD kB rfl rfl ?_
    intro v1 L1 hO1;rw [←List.flatMap_append] at hO1;obtain ⟨a1,c1,rfl⟩:=hO1.shape;refine Qb<|zD hD<|zT 12 rfl (Qa rfl Zq) hD<|qd 13 rfl ?_
    refine zS Vi ?_;exact Qb<|zD hD<|Qo kA<|Qw<|zm (h:=⟨_,_,rfl,rfl,rfl,hO1⟩)
   refine zL Zv<|Qb<|zD hD<|zT 7 rfl (QV rfl Zn) hD<|qd 1 rfl ?_
   refine zL Zv<|Qb<|zD hD ?_
   refine zT 8 rfl (Zu rfl rfl rfl Zn (fun hg=>kB)) hD<|qd 11 rfl<|QT (ys:=[x].flatMap ZK) ZG rfl rfl ZY hQ.cut ⟨rfl,fun _=>rfl,zCy⟩ kD kB rfl rfl ?_
   intro v1 L1 hO1;rw [←List.flatMap_append] at hO1;obtain ⟨a1,c1,rfl⟩:=hO1.shape;refine Qb<|zD hD<|zT 12 rfl (Qa rfl Zq) hD<|qd 13 rfl ?_
   refine zS Vi ?_;exact Qb<|zD hD<|Qo kA<|Qw<|zm (h:=⟨_,_,rfl,rfl,rfl,hO1⟩)
  refine zL Zv<|Qb<|zD hD<|zT 7 rfl (QV rfl Zn) hD ?_
  refine QS 1 3 rfl rfl kA ?_ ?_
  ·
   refine zL Zv<|Qb<|zD hD<|qd 3 rfl ?_
   refine zL Zv<|Qb<|zD hD<|zT 4 rfl (QV rfl Zn) hD ?_
   refine zT 8 rfl (Zu rfl rfl rfl Zn (fun hg=>kB)) hD<|qd 11 rfl<|QT (ys:=[x].flatMap ZK) ZG rfl rfl ZY hQ.cut ⟨rfl,fun _=>rfl,zCy⟩ kD kB rfl rfl ?_
   intro v1 L1 hO1;rw [←List.flatMap_append] at hO1;obtain ⟨a1,c1,rfl⟩:=hO1.shape;refine Qb<|zD hD<|zT 12 rfl (Qa rfl Zq) hD<|qd 13 rfl ?_
   refine zS Vi ?_;exact Qb<|zD hD<|Qo kA<|Qw<|zm (h:=⟨_,_,rfl,rfl,rfl,hO1⟩)
  refine zL Zv<|Qb<|zD hD<|zT 4 rfl (QV rfl Zn) hD<|qd 1 rfl ?_
  refine zL Zv<|Qb<|zD hD ?_
  refine zT 8 rfl (Zu rfl rfl rfl Zn (fun hg=>kB)) hD<|qd 11 rfl<|QT (ys:=[x].flatMap ZK) ZG rfl rfl ZY hQ.cut ⟨rfl,fun _=>rfl,zCy⟩ kD kB rfl rfl ?_
  intro v1 L1 hO1;rw [←List.flatMap_append] at hO1;obtain ⟨a1,c1,rfl⟩:=hO1.shape;refine Qb<|zD hD<|zT 12 rfl (Qa rfl Zq) hD<|qd 13 rfl ?_
  refine zS Vi ?_;exact Qb<|zD hD<|Qo kA<|Qw<|zm (h:=⟨_,_,rfl,rfl,rfl,hO1⟩)
 rintro E I' loc' ⟨v,L,rfl,rfl,rfl,hO⟩;refine Qm<|zx4 hO ZG (fun I3 hI3 af3 cf3 ef3 hZ=>?_)
 subst ef3;have hIc:=hIc.trans hI3;refine Qh<|zV (Qg rfl ZW (fun hg=>by exact Cells.g1) rfl)<|zh YB<|zA (zN (Qs ?_))
 first
 | exact Zz rfl rfl rfl ZW zCy rfl (fun w hw=>⟨_,I3,[],rfl,hIc,hw.drop.drop,_,_,_,_,_,_,by rw [hs3]<;>rfl,rfl,zdG hs3 hZ,fun _=>rfl⟩)
theorem zgU:Fun Tryz.prog 176:=.of Tryz.func176 kA kA
theorem ziA (hQ:Sl I 3 ZK qa qn qc qs)(hqn:qn≤100000)(hA:Sl I 2 Um aa an ac ks)(han:an≤100000)(i:Int):Y7 Tryz.prog 115 [.agg #[.slice qa qn qc,.slice aa an ac],.int .i64 i] I [] (fun v I' L'=>∃ a m c a2 m2 c2,v= .tuple #[.agg #[.slice a m c,.slice a2 m2 c2],.int .i64 (WY qs ks i)]∧L'=[]∧zkn I' (WY qs ks i) a m c a2 m2 c2 (qs++[atP qs ks i]) aa an ac):=by
 intro g H w hw;refine qe Tryz.func115 Tryz.ntmps115 hw ?_;have hIc:=zCA I;refine zR<|QQ rfl rfl rfl (fun b_2=>Qt Wk rfl rfl (fun b_4=>?_))
 refine zA<|zN (zR<|zV (Qg rfl ZW (fun hg=>by exact Cells.g1) rfl)<|zM<|qcV (vs:=[_,_]) rfl zhK (zAy hQ hqn hA han i)<|zM ?_)
 refine zE ?_;refine zE ?_;refine Qt zcS rfl rfl (fun b_6=>zh Ka<|zA (zN (Qm (zR<|zM<|zC (zN ?_)))));refine zI ?_ ?_<;>intro hc14
 ·
  have he:atE qs ks i≠0:=(by simpa using hc14);have hrp:WY qs ks i=atE qs ks i:=if_neg he;refine zR<|zV (Qg rfl ZW (fun hg=>by exact Cells.g1) rfl)<|zM<|zh YB<|zA (zN (Qs (Qf ?_)))
  first
  | exact Zz rfl rfl rfl ZW (.there .here) rfl (fun w hw=>⟨_,I,[],rfl,hIc,hw.drop.drop.drop,_,_,_,_,_,_,by rw [hrp]<;>rfl,rfl,by rw [hrp];first | exact zae he | exact hZ⟩)
 have he:atE qs ks i=0:=(by simpa using hc14);have hrp:WY qs ks i=UX qs ks (atP qs ks i):=if_pos he;refine Qp (Qc (zR<|zV (Qg rfl ZW (fun hg=>by exact Cells.g2) rfl)<|zV (Qg rfl Jg (fun hg=>by exact Cells.g0) rfl)<|zpc [_,_] rfl zgU .nil (zor hQ hqn hA han (atP qs ks i)) ?_));rintro vv1 I1 L1 hI1 ⟨a4,m4,c4,a5,m5,c5,rfl,rfl,hZ,hm⟩;have hIc:=hIc.trans hI1;refine zE ?_;refine zE<|zh YB<|zA (zN (Qs ?_))
 first
 | exact Zz rfl rfl rfl ZW (.there .here) rfl (fun w hw=>⟨_,I1,[],rfl,hIc,hw.drop.drop.drop,_,_,_,_,_,_,by rw [hrp]<;>rfl,rfl,by rw [hrp];first | exact zae he | exact hZ⟩)
end
end Go.Proofs.YtjblkbkmblkgoaaGreat
namespace Go.Kn
section
open Go
def LdV (P:Program)(I:Qv)(loc:Loc)(tt b:Nat)(v:Value):Prop:=∀ (g:World) (H:Qv) (w:World),St g I H loc w→(loadVar tt ⟨b,0,none⟩).run P w= .ok v w
theorem LdV.ag {P:Program}{I:Qv}{loc:Loc}{tt b n:Nat}{vs:List Value}(hA:AgT P tt n)(hc:Cells I loc b 0 vs)(hn:vs.length=n):LdV P I loc tt b (.agg vs.toArray):=fun g H w hw=>by
 have h1:(loadCells ⟨b,0,none⟩ n).run P w= .ok vs.toArray w:=by
  rw [←hn];exact run_loadCells_list w _ _ fun j v hj=>by rw [Z2];exact (hc j v hj).get hw
 have hA':=hA;obtain ⟨_,i,h2,h3⟩:=hA';simp only [loadVar,Sem.run_bind,Sem.run_pure,Vg hA,Result.andThen,if_true,run_sizeOf h2,h3,h1]
section
variable {P:Program} {fn:Func} {R:Ending→World→Prop} {N:Nat} {g:World} {I H:Qv} {loc:Loc} {E:Env} {r:Option Nat}
theorem zb8 {t u s tt tt' b b':Nat}{v v' v'':Value}(hr:fn.results= #[.cell t tt,.cell u tt',.tmp s])(hv:VN E t=some (.pointer (some ⟨b,0,none⟩)))(hv':VN E u=some (.pointer (some ⟨b',0,none⟩)))(hv'':VN E s=some v'')(hl:LdV P I loc tt b v)(hl':LdV P I loc tt' b' v')
  (h:∀ w,St g I H loc w→R (.returned (.tuple #[v,v',v''])) w):At ⟨P,r,N,[],g,H⟩ (bodyPost P fn R) .ret E I loc:=fun a w ha hw=>
 ⟨ha.defers,.tuple #[v,v',v''],by
  have e1:=ha.env _ _ hv;have e2:=ha.env _ _ hv';have e3:=ha.env _ _ hv'';rw [Array.getD_eq_getD_getElem?] at e1 e2 e3;have l1:=hl _ _ _ hw;have l2:=hl' _ _ _ hw;simp only [results,hr]
  simp [List.mapM_cons,e1,e2,e3,asAddr,l1,l2],h w hw⟩
end
end
end Go.Kn
namespace Go.Proofs.YtjblkbkmblkgoaaGreat
section
open Go Go.Kn Go.Proofs
theorem zuT:Fun Tryz.prog 178:=.of Tryz.func178 kA kA
theorem zlC:PlT Tryz.prog 99 #[(0,1),(1,1),(2,1)] (.agg #[(.int .i64 0),(.int .i64 0),(.slice none 0 0)]):=⟨.of kA,kA,fun w=>kA⟩
variable{I:Qv}{qa aa:Option Addr}{qn qc an ac:Nat}{ks:List (Int×Int)}
theorem U3 {qs:List Pk}(hQ:Sl I 3 ZK qa qn qc qs)(hqn:qn≤100000)(hA:Sl I 2 Um aa an ac ks)(han:an≤100000)(i:Int):Y7 Tryz.prog 113 [.agg #[.slice qa qn qc,.slice aa an ac],.int .i64 i] I [] (fun v I' L'=>∃ pk a m c a2 m2 c2,v= .tuple #[Xp pk,.agg #[.slice a m c,.slice a2 m2 c2],.int .i64 (atE qs ks i)]∧L'=[]∧(atE qs ks i=0→pk=JE qs ks i)∧zkn I' (atE qs ks i) a m c a2 m2 c2 (qs.eraseIdx i.toNat) aa an ac):=by
 intro g H w hw;refine qe Tryz.func113 Tryz.ntmps113 hw ?_;have hIc:=zCA I;refine zR<|QQ rfl rfl rfl (fun b_2=>Qt zcS rfl rfl (fun b_4=>Qt Wk rfl rfl (fun b_5=>?_)))
 refine zA (zN (Qm (zR<|zV (Qg rfl ZW (fun hg=>by exact Cells.g2) rfl)<|zM<|qcV (vs:=[_,_]) rfl zhK (zAy hQ hqn hA han i)<|zM ?_)));refine zE ?_;refine zE<|zh Ka<|zA<|zN (zR ?_)
 refine zM<|zC (zN ?_)
 refine zI ?_ ?_<;>intro hc14
 ·
  have he:atE qs ks i≠0:=(by simpa using hc14);refine Qm ?_;have hD:=zCA I;refine Zm<|QI I [(b_5,.cells #[.slice none 0 0,.slice none 0 0] 26 (0,0)),(b_4,.cells (ZK (atP qs ks i)).toArray 99 (0,0))] mixed<|zT 0 rfl (Qg rfl Jg (fun hg=>by exact Cells.g1) rfl) hD<|zT 1 rfl (Qg rfl ZW (fun hg=>by exact Cells.g0) rfl) hD<|zT 2 rfl (Qe rfl) hD<|qd 3 rfl ?_
  refine zh Ka ?_;refine Qb<|zD hD<|qd 4 rfl ?_
  refine zh YB ?_;exact Qb<|zD hD<|zT 5 rfl (Qy rfl) hD<|Qo kA<|Qw<|Qc (Qs (Qf<|zb8 rfl rfl rfl rfl (.ag Jg (.there .here) rfl) (.ag ZW .here rfl) (fun w hw=>⟨_,I,[],rfl,hIc,hw.drop.drop.drop,_,_,_,_,_,_,_,rfl,rfl,fun h=>absurd h he,zae he⟩)))
 have he:atE qs ks i=0:=(by simpa using hc14);have hr:0≤i∧i<(qn:Int):=(by have h:=zeQ he;rw [hQ.len] at h;exact h);refine Qp (Qc (Qm (Qm ?_)));have hD:=zCA I;refine Zm<|QI I [(b_4,.cells (ZK (atP qs ks i)).toArray 99 (0,0)),(b_2,.cells #[.slice qa qn qc,.slice aa an ac] 26 (0,0))] mixed<|zT 0 rfl (Qa rfl zef) hD<|zT 1 rfl (Qd rfl zkF (fun hg=>by exact Qz.h1 rfl)) hD<|zT 2 rfl (Qa rfl zbg) hD<|zT 3 rfl (Qd rfl Qn (fun hg=>by exact Qz.h0 rfl)) hD<|zT 4 rfl (Qa rfl XU) hD<|zT 5 rfl (Qd rfl Qn (fun hg=>by exact Qz.h0 rfl)) hD<|qd 6 rfl<|qcV (vs:=[_,_]) rfl zkY (zgu _ _ _)<|Qb<|zD hD ?_
 refine qd 7 rfl<|qcV (vs:=[_,_]) rfl zuT (zBa hA han (_,_))<|Qb<|zD hD<|Qo kA<|Qw<|Qc ?_
 refine zI ?_ ?_<;>intro hc25
 ·
  have hcut:zrE ks (atP qs ks i)=true:=hc25;refine Qh<|zV (QF (ps:=[]) [_,_,_] zlC rfl rfl)<|zh Ka<|zN (Qm ?_)
  refine zeK (loc':=[(b_5,.cells #[.slice none 0 0,.slice none 0 0] 26 (0,0)),(b_4,.cells (ZK (JE qs ks i)).toArray 99 (0,0)),(b_2,.cells #[.slice qa qn qc,.slice aa an ac] 26 (0,0))]) (by (rw [zpf hcut];rfl)) ?_;have hD:=zCA I;refine Zm<|QI I [(b_4,.cells (ZK (JE qs ks i)).toArray 99 (0,0)),(b_2,.cells #[.slice qa qn qc,.slice aa an ac] 26 (0,0))] mixed<|zT 0 rfl (Qg rfl Jg (fun hg=>by exact Cells.g0) rfl) hD<|zT 1 rfl (Qg rfl ZW (fun hg=>by exact Cells.g1) rfl) hD<|zT 2 rfl (Qe rfl) hD<|qd 3 rfl<|zpc [_,_] rfl zhc .nil (zcz hQ hqn hA han hr) ?_
  rintro vv1 I1 L1 hI1 ⟨a4,m4,c4,rfl,hm4,hZ,rfl⟩;have hIc:=hIc.trans hI1;have hD:=hD.trans hI1;refine Qb<|zD hD<|qd 4 rfl ?_
  refine zh Ka ?_;refine Qb<|zD hD<|qd 5 rfl ?_
  refine zh YB ?_;refine Qb<|zD hD<|zT 6 rfl (Qy rfl) hD<|Qo kA<|Qw<|Qc (Qs ?_)
  first
  | exact zb8 rfl rfl rfl rfl (.ag Jg (.there .here) rfl) (.ag ZW .here rfl) (fun w hw=>⟨_,I1,[],rfl,hIc,hw.drop.drop.drop,_,_,_,_,_,_,_,by rw [he]<;>rfl,rfl,fun _=>rfl,zdG he hZ⟩)
 have hcut:zrE ks (atP qs ks i)=false:=hc25;refine Qp (Qc (Qm ?_));refine zeK (loc':=[(b_5,.cells #[.slice none 0 0,.slice none 0 0] 26 (0,0)),(b_4,.cells (ZK (JE qs ks i)).toArray 99 (0,0)),(b_2,.cells #[.slice qa qn qc,.slice aa an ac] 26 (0,0))]) (by (rw [zvt hcut]<;>rfl)) ?_;have hD:=zCA I;refine Zm<|QI I [(b_4,.cells (ZK (JE qs ks i)).toArray 99 (0,0)),(b_2,.cells #[.slice qa qn qc,.slice aa an ac] 26 (0,0))] mixed<|zT 0 rfl (Qg rfl Jg (fun hg=>by exact Cells.g0) rfl) hD<|zT 1 rfl (Qg rfl ZW (fun hg=>by exact Cells.g1) rfl) hD<|zT 2 rfl (Qe rfl) hD<|qd 3 rfl<|zpc [_,_] rfl zhc .nil (zcz hQ hqn hA han hr) ?_
 rintro vv2 I2 L2 hI2 ⟨a4,m4,c4,rfl,hm4,hZ,rfl⟩;have hIc:=hIc.trans hI2;have hD:=hD.trans hI2;refine Qb<|zD hD<|qd 4 rfl ?_
 refine zh Ka ?_;refine Qb<|zD hD<|qd 5 rfl ?_
 refine zh YB ?_;refine Qb<|zD hD<|zT 6 rfl (Qy rfl) hD<|Qo kA<|Qw<|Qc (Qs ?_)
 first
 | exact zb8 rfl rfl rfl rfl (.ag Jg (.there .here) rfl) (.ag ZW .here rfl) (fun w hw=>⟨_,I2,[],rfl,hIc,hw.drop.drop.drop,_,_,_,_,_,_,_,by rw [he]<;>rfl,rfl,fun _=>rfl,zdG he hZ⟩)
theorem Yo:QL Tryz.prog 108 0 0:=.of kA
theorem YK:QL Tryz.prog 28 0 0:=.of kA
theorem KN:Fun Tryz.prog 107:=.of Tryz.func107 kA kA
theorem J6:ScT Tryz.prog 22:=.of kA
theorem JC:SlT Tryz.prog 22 59 1:=.of kA
theorem Wd (I:Qv)(b:Bool)(e:Int):Uu Tryz.prog 107 [.bool b,.int .i64 e] I [] (fun v I' L'=>v= .tuple #[]∧I'=I∧L'=[]∧b=true) (fun v=>v= .iface 50 (.int .i64 e)∧b=false):=by
 intro g H w hw;refine qe Tryz.func107 Tryz.ntmps107 hw ?_;have hIc:=zCA I;refine zR (zM<|zO (zN ?_));refine zI ?_ ?_<;>intro hc5
 ·
  refine Qh (zM<|zV (zdg rfl kA)<|zfZ rfl ?_)
  repeat (first | apply Uk | apply KF)
  exact zbY hIc ⟨rfl,by simpa using hc5⟩
 exact Qp<|YP (Ys rfl (fun w hw=>.inl ⟨_,I,[],rfl,hIc,hw.drop,rfl,rfl,rfl,by simpa using hc5⟩))
variable{bc pn pc:Nat}{pa:Option Addr}
theorem zgJ (i:Int):Uu Tryz.prog 106 [ZE bc,.int .i64 i] I [(bc,.cells #[.slice pa pn pc,.slice qa qn qc,.slice aa an ac] 108 (0,0))] (fun v I' L'=>v= .tuple #[]∧I'=I∧L'=[(bc,.cells #[.slice pa pn pc,.slice qa qn qc,.slice aa an ac] 108 (0,0))]∧0≤i∧i<(pn:Int)) (fun v=>v= .iface 50 (.int .i64 1)∧¬(0≤i∧i<(pn:Int))):=by
 intro g H w hw;refine qe Tryz.func106 Tryz.ntmps106 hw ?_;have hIc:=zCA I;refine Qh (zM<|zC<|zM<|Qu 2 rfl rfl rfl ?_);refine zK (Qe rfl) ?_;refine zK (Qe rfl)<|zK (QB rfl)<|zK (Qa rfl Yo)<|zK (Qa rfl YK) ?_
 refine zK (Qd rfl J6 (fun hg=>by exact Qz.h0 rfl)) ?_;refine zK (QV rfl JC) ?_;refine zK (QE rfl rfl rfl) ?_;refine QD rfl rfl rfl rfl rfl ?_;refine zx5 [_,_] rfl KN .nil (Wd I (decide (i≥0)&&decide (i<(pn:Int))) 1) ?_ (fun pv hpv=>by refine zx6 ?_;exact (⟨hpv.1,by have h:=hpv.2;simp at h;omega⟩));rintro vv1 I1 L1 hI1 ⟨rfl,rfl,rfl,hok⟩;have hIc:=hIc.trans hI1;have hok2:0≤i∧i<(pn:Int):=(by simpa using hok);exact Qb<|YP (Ys rfl (fun w hw=>.inl ⟨_,I1,_,rfl,hIc,hw,rfl,rfl,rfl,hok2.1,hok2.2⟩))
theorem Vb:QL Tryz.prog 28 1 1:=.of kA
theorem zeO:QL Tryz.prog 47 3 3:=.of kA
theorem zmW:Fun Tryz.prog 114:=.of Tryz.func114 kA kA
theorem zlY:Fun Tryz.prog 115:=.of Tryz.func115 kA kA
theorem zyg {qs:List Pk}(hQ:Sl I 3 ZK qa qn qc qs)(hqn:qn≤100000)(hA:Sl I 2 Um aa an ac ks)(han:an≤100000)(x:Ev):Uu Tryz.prog 49 [ZE bc,.agg (zfz x).toArray] I [(bc,.cells #[.slice pa pn pc,.slice qa qn qc,.slice aa an ac] 108 (0,0))] (fun v I' L'=>v= .tuple #[]∧atE qs ks x.at_=0∧∃ a m c,L'=[(bc,.cells #[.slice pa pn pc,.slice a m c,.slice aa an ac] 108 (0,0))]∧Sl I' 3 ZK a m c (qs.eraseIdx x.at_.toNat)) (fun v=>v= .iface 50 (.int .i64 (atE qs ks x.at_))∧atE qs ks x.at_≠0):=by
 intro g H w hw;refine qe Tryz.func49 Tryz.ntmps49 hw ?_;have hIc:=zCA I;refine zR<|QQ rfl rfl rfl (fun b_3=>Qb<|QH .here (fun I1 hI1 hb1=>?_))
 have hQ:=hQ.mono hI1;have hA:=hA.mono hI1;have hIc:=hIc.trans hI1;have h3:=BxI.of hb1;refine Qc (Qm ?_);have hD:=zCA I1;refine QI I1 [(bc,.cells #[.slice pa pn pc,.slice qa qn qc,.slice aa an ac] 108 (0,0))] mixed<|zT 0 rfl (Qe rfl) hD<|zT 1 rfl (QB rfl) hD<|zT 2 rfl (Qa rfl Yo) hD<|zT 3 rfl (Qa rfl Vb) hD<|zT 4 rfl (Qg rfl ZW (fun hg=>by exact Cells.s0 (vs:=[_,_]) rfl) rfl) hD<|zT 5 rfl (Qa rfl zeO) hD<|zT 6 rfl (Qd rfl Qn (fun hg=>by exact Qz.imm h3.out rfl)) hD ?_
 refine QS 7 11 rfl rfl kA ?_ ?_
 ·
  refine zpc [_,_] rfl zmW .nil (zrG hQ hqn hA han x.at_) ?_;rintro vv2 I2 L2 hI2 ⟨a4,m4,c4,a5,m5,c5,rfl,rfl,hZ⟩;have hIc:=hIc.trans hI2;have hD:=hD.trans hI2;refine Qb<|zD hD<|zT 8 rfl (Qe rfl) hD<|zT 9 rfl (Q9 rfl rfl) hD<|zT 10 rfl (Q9 rfl rfl) hD<|qd 11 rfl<|Qt Wk rfl rfl (fun b_4=>Qb<|zD hD<|qd 12 rfl ?_)
  refine zh YB ?_;refine Qb<|zD hD<|zT 13 rfl (Qy rfl) hD<|Qo kA<|Qc (zR (zM<|zC<|zM ?_))
  refine zx5 [_,_] rfl KN .nil (Wd I2 (atE qs ks x.at_==0) (atE qs ks x.at_)) ?_ (fun pv hpv=>by refine zx6 ?_;exact (⟨hpv.1,by simpa using hpv.2⟩));rintro vv3 I3 L3 hI3 ⟨rfl,rfl,rfl,hok⟩;have hZ:=hZ.mono hI3;have hIc:=hIc.trans hI3;have he:atE qs ks x.at_=0:=(by simpa using hok);obtain ⟨rfl,rfl,rfl,hS9⟩:=hZ.ok he;refine zN (Qh (zM ?_));refine zV (Qg rfl ZW (fun hg=>by exact Cells.g0) rfl)<|zV (QB rfl) ?_
  refine zF Yo<|zF Vb ?_
  refine Yu rfl rfl YB rfl rfl rfl rfl (by repeat (first | exact Upd.here | apply Upd.there | apply ZC))<|Qb ?_
  exact YP (Ys rfl (fun w hw=>.inl ⟨_,I3,_,rfl,hIc,by exact hw.subL kN,rfl,he,_,_,_,rfl,hS9⟩))
 refine Qt Wk rfl rfl (fun b_4=>Qb<|zD hD<|qd 7 rfl<|zpc [_,_] rfl zmW .nil (zrG hQ hqn hA han x.at_) ?_);rintro vv4 I4 L4 hI4 ⟨a4,m4,c4,a5,m5,c5,rfl,rfl,hZ⟩;have hIc:=hIc.trans hI4;have hD:=hD.trans hI4;refine Qb<|zD hD<|zT 8 rfl (Qe rfl) hD<|zT 9 rfl (Q9 rfl rfl) hD<|zT 10 rfl (Q9 rfl rfl) hD<|qd 12 rfl ?_
 refine zh YB ?_;refine Qb<|zD hD<|zT 13 rfl (Qy rfl) hD<|Qo kA<|Qc (zR (zM<|zC<|zM ?_))
 refine zx5 [_,_] rfl KN .nil (Wd I4 (atE qs ks x.at_==0) (atE qs ks x.at_)) ?_ (fun pv hpv=>by refine zx6 ?_;exact (⟨hpv.1,by simpa using hpv.2⟩));rintro vv5 I5 L5 hI5 ⟨rfl,rfl,rfl,hok⟩;have hZ:=hZ.mono hI5;have hIc:=hIc.trans hI5;have he:atE qs ks x.at_=0:=(by simpa using hok);obtain ⟨rfl,rfl,rfl,hS9⟩:=hZ.ok he;refine zN (Qh (zM ?_));refine zV (Qg rfl ZW (fun hg=>by exact Cells.g0) rfl)<|zV (QB rfl) ?_
 refine zF Yo<|zF Vb ?_
 refine Yu rfl rfl YB rfl rfl rfl rfl (by repeat (first | exact Upd.here | apply Upd.there | apply ZC))<|Qb ?_
 exact YP (Ys rfl (fun w hw=>.inl ⟨_,I5,_,rfl,hIc,by exact hw.subL kN,rfl,he,_,_,_,rfl,hS9⟩))
theorem zqS {qs:List Pk}(hQ:Sl I 3 ZK qa qn qc qs)(hqn:qn≤100000)(hA:Sl I 2 Um aa an ac ks)(han:an≤100000)(x:Ev):Uu Tryz.prog 50 [ZE bc,.agg (zfz x).toArray] I [(bc,.cells #[.slice pa pn pc,.slice qa qn qc,.slice aa an ac] 108 (0,0))] (fun v I' L'=>v= .tuple #[]∧WY qs ks x.at_=0∧∃ a m c,L'=[(bc,.cells #[.slice pa pn pc,.slice a m c,.slice aa an ac] 108 (0,0))]∧Sl I' 3 ZK a m c (qs++[atP qs ks x.at_])) (fun v=>v= .iface 50 (.int .i64 (WY qs ks x.at_))∧WY qs ks x.at_≠0):=by
 intro g H w hw;refine qe Tryz.func50 Tryz.ntmps50 hw ?_;have hIc:=zCA I;refine zR<|QQ rfl rfl rfl (fun b_3=>Qb<|QH .here (fun I1 hI1 hb1=>?_))
 have hQ:=hQ.mono hI1;have hA:=hA.mono hI1;have hIc:=hIc.trans hI1;have h3:=BxI.of hb1;refine Qc (Qm ?_);have hD:=zCA I1;refine QI I1 [(bc,.cells #[.slice pa pn pc,.slice qa qn qc,.slice aa an ac] 108 (0,0))] mixed<|zT 0 rfl (Qe rfl) hD<|zT 1 rfl (QB rfl) hD<|zT 2 rfl (Qa rfl Yo) hD<|zT 3 rfl (Qa rfl Vb) hD<|zT 4 rfl (Qg rfl ZW (fun hg=>by exact Cells.s0 (vs:=[_,_]) rfl) rfl) hD<|zT 5 rfl (Qa rfl zeO) hD<|zT 6 rfl (Qd rfl Qn (fun hg=>by exact Qz.imm h3.out rfl)) hD ?_
 refine QS 7 11 rfl rfl kA ?_ ?_
 ·
  refine zpc [_,_] rfl zlY .nil (ziA hQ hqn hA han x.at_) ?_;rintro vv2 I2 L2 hI2 ⟨a4,m4,c4,a5,m5,c5,rfl,rfl,hZ⟩;have hIc:=hIc.trans hI2;have hD:=hD.trans hI2;refine Qb<|zD hD<|zT 8 rfl (Qe rfl) hD<|zT 9 rfl (Q9 rfl rfl) hD<|zT 10 rfl (Q9 rfl rfl) hD<|qd 11 rfl<|Qt Wk rfl rfl (fun b_4=>Qb<|zD hD<|qd 12 rfl ?_)
  refine zh YB ?_;refine Qb<|zD hD<|zT 13 rfl (Qy rfl) hD<|Qo kA<|Qc (zR (zM<|zC<|zM ?_))
  refine zx5 [_,_] rfl KN .nil (Wd I2 (WY qs ks x.at_==0) (WY qs ks x.at_)) ?_ (fun pv hpv=>by refine zx6 ?_;exact (⟨hpv.1,by simpa using hpv.2⟩));rintro vv3 I3 L3 hI3 ⟨rfl,rfl,rfl,hok⟩;have hZ:=hZ.mono hI3;have hIc:=hIc.trans hI3;have he:WY qs ks x.at_=0:=(by simpa using hok);obtain ⟨rfl,rfl,rfl,hS9⟩:=hZ.ok he;refine zN (Qh (zM ?_));refine zV (Qg rfl ZW (fun hg=>by exact Cells.g0) rfl)<|zV (QB rfl) ?_
  refine zF Yo<|zF Vb ?_
  refine Yu rfl rfl YB rfl rfl rfl rfl (by repeat (first | exact Upd.here | apply Upd.there | apply ZC))<|Qb ?_
  exact YP (Ys rfl (fun w hw=>.inl ⟨_,I3,_,rfl,hIc,by exact hw.subL kN,rfl,he,_,_,_,rfl,hS9⟩))
 refine Qt Wk rfl rfl (fun b_4=>Qb<|zD hD<|qd 7 rfl<|zpc [_,_] rfl zlY .nil (ziA hQ hqn hA han x.at_) ?_);rintro vv4 I4 L4 hI4 ⟨a4,m4,c4,a5,m5,c5,rfl,rfl,hZ⟩;have hIc:=hIc.trans hI4;have hD:=hD.trans hI4;refine Qb<|zD hD<|zT 8 rfl (Qe rfl) hD<|zT 9 rfl (Q9 rfl rfl) hD<|zT 10 rfl (Q9 rfl rfl) hD<|qd 12 rfl ?_
 refine zh YB ?_;refine Qb<|zD hD<|zT 13 rfl (Qy rfl) hD<|Qo kA<|Qc (zR (zM<|zC<|zM ?_))
 refine zx5 [_,_] rfl KN .nil (Wd I4 (WY qs ks x.at_==0) (WY qs ks x.at_)) ?_ (fun pv hpv=>by refine zx6 ?_;exact (⟨hpv.1,by simpa using hpv.2⟩));rintro vv5 I5 L5 hI5 ⟨rfl,rfl,rfl,hok⟩;have hZ:=hZ.mono hI5;have hIc:=hIc.trans hI5;have he:WY qs ks x.at_=0:=(by simpa using hok);obtain ⟨rfl,rfl,rfl,hS9⟩:=hZ.ok he;refine zN (Qh (zM ?_));refine zV (Qg rfl ZW (fun hg=>by exact Cells.g0) rfl)<|zV (QB rfl) ?_
 refine zF Yo<|zF Vb ?_
 refine Yu rfl rfl YB rfl rfl rfl rfl (by repeat (first | exact Upd.here | apply Upd.there | apply ZC))<|Qb ?_
 exact YP (Ys rfl (fun w hw=>.inl ⟨_,I5,_,rfl,hIc,by exact hw.subL kN,rfl,he,_,_,_,rfl,hS9⟩))
def Up (f:Nat→Int)(a:Option Addr)(n c:Nat)(needs:List Int)(name town:ByteArray):Nt:=
 ⟨f 0,⟨f 1,f 2,f 3,f 4,f 5,f 6,f 7,f 8,f 9⟩,⟨f 10,f 11,f 12,f 13,⟨f 14,f 15,f 16,f 17,f 18,f 19,f 20,f 21,f 22,f 23,f 24,f 25,f 26,f 27⟩,a,n,c,needs⟩,⟨f 28,f 29,f 30,f 31,f 32⟩,⟨f 33,f 34,f 35,f 36,f 37,f 38,name,town,f 39,f 40,f 41⟩⟩
def zdA (hs:List Vc)(k j:Nat):Int:=if j<k then (hs.getD j Ul).n else 0
def zk7 (hs:List Vc)(k:Nat):Nt:=Up (zdA hs k) none 0 0 [] ⟨#[]⟩ ⟨#[]⟩
theorem zvP:∀ k,k<42→(zkk.getD k 0).blt 45=true:=by decide
theorem Kd (hs:List Vc):∀ k,k<42→(Q7 (zk7 hs k)).toArray.setIfInBounds (zkk.getD k 0) (.int .i64 (hs.getD k Ul).n)=(Q7 (zk7 hs (k+1))).toArray
 | 0,_=>kA
 | 1,_=>kA
 | 2,_=>kA
 | 3,_=>kA
 | 4,_=>kA
 | 5,_=>kA
 | 6,_=>kA
 | 7,_=>kA
 | 8,_=>kA
 | 9,_=>kA
 | 10,_=>kA
 | 11,_=>kA
 | 12,_=>kA
 | 13,_=>kA
 | 14,_=>kA
 | 15,_=>kA
 | 16,_=>kA
 | 17,_=>kA
 | 18,_=>kA
 | 19,_=>kA
 | 20,_=>kA
 | 21,_=>kA
 | 22,_=>kA
 | 23,_=>kA
 | 24,_=>kA
 | 25,_=>kA
 | 26,_=>kA
 | 27,_=>kA
 | 28,_=>kA
 | 29,_=>kA
 | 30,_=>kA
 | 31,_=>kA
 | 32,_=>kA
 | 33,_=>kA
 | 34,_=>kA
 | 35,_=>kA
 | 36,_=>kA
 | 37,_=>kA
 | 38,_=>kA
 | 39,_=>kA
 | 40,_=>kA
 | 41,_=>kA
 | k+42,h=>absurd h kB
def isI:Va→Bool
 | .int _=>true
 | _=>false
def zis:Va→Int
 | .int n=>n
 | _=>0
def zac:Va→Option Nt
 | .list l=>if l.length=45∧(l.take 42).all isI=true then match l.drop 42 with
   | [.list q,.text a,.text b]=>if q.all isI=true then some (Up (fun j=>zis (l.getD j (.int 0))) none q.length 0 (q.map zis) (UR a) (UR b)) else none
   | _=>none
  else none
 | _=>none
def Yx (x:Nt):Nt:={x with pt:={x.pt with a:=none,n:=x.pt.needs.length,c:=0}}
def okN (bs:List Nat):Option Nt:=(zaf bs).bind fun v=>(zac v).bind fun y=>if QO y=true then some y else none
variable{x:Nt}
theorem JH (h:x.pt.n=x.pt.needs.length):QO (Yx x)=QO x:=by
 obtain ⟨k,lm,⟨i,kd,s,fd,nw,a,n,c,nd⟩,ls,rt⟩:=x;simp only at h;subst h;rfl
theorem zhR (xs:List Int):(xs.map Va.int).all isI=true:=by
 induction xs with
 | nil=>rfl
 | cons a l ih=>simp [isI,ih]
theorem zry (xs:List Int):(xs.map Va.int).map zis=xs:=by
 induction xs with
 | nil=>rfl
 | cons a l ih=>simp only [List.map_cons,zis,ih]
theorem zg3 (x:Nt):zac (KU x)=some (Yx x):=by
 unfold KU zac;have h1:((Y3 x).map Va.int++[Va.list (x.pt.needs.map .int),.text (Ug x.rt.name),.text (Ug x.rt.town)]).length=45:=(by simp [Y1]);have h2:((Y3 x).map Va.int++[Va.list (x.pt.needs.map .int),.text (Ug x.rt.name),.text (Ug x.rt.town)]).take 42=(Y3 x).map Va.int:=List.take_left' (by rw [List.length_map,Y1]);have h3:((Y3 x).map Va.int++[Va.list (x.pt.needs.map .int),.text (Ug x.rt.name),.text (Ug x.rt.town)]).drop 42=[Va.list (x.pt.needs.map .int),.text (Ug x.rt.name),.text (Ug x.rt.town)]:=List.drop_left' (by rw [List.length_map,Y1]);simp only [h2,h3];rw [if_pos ⟨h1,zhR _⟩,if_pos (zhR _),zry,XX,XX,List.length_map];congr 1
def zwE (I:Qv)(bs:List Nat)(cv:Vc)(e:Int):Prop:=(e=0∧∃ x,zaf bs=some x∧VaR I x cv)∨(e=10∧zaf bs=none∧cv=Ul)
variable{I':Qv}{bs:List Nat}{cv:Vc}{e:Int}
theorem zwE.mono (h:zwE I bs cv e)(hI:HLe I I'):zwE I' bs cv e:=h.imp (fun ⟨h1,x,h2,h3⟩=>⟨h1,x,h2,h3.mono hI⟩) id
variable{v:Value}{L':Go.Kn.Loc}
theorem zdk (h:zjH bs v I' L'):L'=[]∧∃ cv e,v= .tuple #[.agg (Zd cv).toArray,.int .i64 e]∧zwE I' bs cv e:=by
 obtain ⟨h1,h2⟩:=h;refine ⟨h1,?_⟩
 cases hd:zaf bs with
 | none=>rw [hd] at h2;exact ⟨Ul,10,h2,.inr ⟨rfl,hd,rfl⟩⟩
 | some x=>rw [hd] at h2;obtain ⟨cv,e1,e2⟩:=h2;exact ⟨cv,0,e1,.inl ⟨rfl,x,hd,e2⟩⟩
structure RdP (I:Qv)(bs:List Nat)(cv:Vc)(l:List Va)(hs:List Vc):Prop where
 dec:zaf bs=some (.list l)
 sl:Sl I 4 Zd cv.a cv.m cv.c hs
 m:cv.m=45
 len:l.length=45
 rel:∀ (k:Nat) (x:Va) (y:Vc),l[k]? =some x→hs[k]? =some y→VaR I x y
variable{l:List Va}{hs:List Vc}
theorem RdP.mono (h:RdP I bs cv l hs)(hI:HLe I I'):RdP I' bs cv l hs:=⟨h.dec,h.sl.mono hI,h.m,h.len,fun k x y hx hy=>(h.rel k x y hx hy).mono hI⟩
theorem RdP.hlen (h:RdP I bs cv l hs):hs.length=45:=by rw [h.sl.len,h.m]
theorem zag {x:Va}{y:Vc}(h:VaR I x y):isI x=(y.k==1):=by cases h<;>rfl
theorem zd2 {x:Va}{y:Vc}(h:VaR I x y)(hk:isI x=true):zis x=y.n:=by cases h<;>first | rfl | cases hk
theorem zdw (h:¬(l.length=45∧(l.take 42).all isI=true)):zac (.list l)=none:=by
 unfold zac;simp only [if_neg h]
theorem zbn (h:zaf bs=some (.list l))(hr:zac (.list l)=none):okN bs=none:=by unfold okN;rw [h,Option.bind_some,hr];rfl
theorem zsJ (h:zwE I bs cv e)(hc:((e != 0||cv.k != 3)||(cv.m:Int) != 45)=true):okN bs=none:=by
 rcases h with ⟨he,x,hd,hx⟩ | ⟨he,hd,hz⟩
 ·
  subst he
  cases hx with
  | int n=>unfold okN;rw [hd];rfl
  | text s=>unfold okN;rw [hd];rfl
  | list hS hl hr=>
   rename_i l hs a m c;refine zbn hd ?_;have hm:=hS.len
   have:¬(l.length=45):=fun e45=>by
    rw [hl,hm] at e45;simp [e45] at hc
   exact zdw (fun h2=>this h2.1)
 ·
  unfold okN;rw [hd];rfl
theorem zkJ (h:zwE I bs cv e)(hc:((e != 0||cv.k != 3)||(cv.m:Int) != 45)=false):∃ l hs,RdP I bs cv l hs:=by
 simp only [Bool.or_eq_false_iff,bne_eq_false_iff_eq] at hc;obtain ⟨⟨he,hk⟩,hm⟩:=hc;rcases h with ⟨_,x,hd,hx⟩ | ⟨he2,_,_⟩
 ·
  cases hx with
  | int n=>simp at hk
  | text s=>simp at hk
  | list hS hl hr=>
   rename_i l hs a m c;have hm2:(m:Int)=45:=hm;have hm3:m=45:=kB;exact ⟨l,hs,hd,hS,hm3,by rw [hl,hS.len];exact hm3,hr⟩
 ·
  omega
variable{k:Nat}
theorem zr1 (h:RdP I bs cv l hs){y:Vc}(hk:k<42)(hy:hs[k]? =some y)(hne:(y.k != 1)=true):okN bs=none:=by
 refine zbn h.dec ?_;obtain ⟨x,hx⟩:∃ x,l[k]? =some x:=⟨_,List.getElem?_eq_getElem (by rw [h.len];omega)⟩;have hi:=zag (h.rel k x y hx hy);have hf:isI x=false:=(by rw [hi];simpa using hne);refine zdw ?_;rintro ⟨_,ha⟩;have hm:x∈l.take 42:=List.mem_iff_getElem?.2 ⟨k,by rw [List.getElem?_take,if_pos hk];exact hx⟩;have:=List.all_eq_true.1 ha x hm;rw [hf] at this;cases this
variable{a:Option Addr}{n c:Nat}{needs:List Int}
theorem zhy {f g:Nat→Int}(h:∀ j,j<42→f j=g j){name town:ByteArray}:Up f a n c needs name town=Up g a n c needs name town:=by
 unfold Up;simp only [h 0 kD,h 1 kD,h 2 kD,h 3 kD,h 4 kD,h 5 kD,h 6 kD,h 7 kD,h 8 kD,h 9 kD,h 10 kD,h 11 kD,h 12 kD,h 13 kD,h 14 kD,h 15 kD,h 16 kD,h 17 kD,h 18 kD,h 19 kD,h 20 kD,h 21 kD,h 22 kD,h 23 kD,h 24 kD,h 25 kD,h 26 kD,h 27 kD,h 28 kD,h 29 kD,h 30 kD,h 31 kD,h 32 kD,h 33 kD,h 34 kD,h 35 kD,h 36 kD,h 37 kD,h 38 kD,h 39 kD,h 40 kD,h 41 kD]
theorem ztx (h:RdP I bs cv l hs)(hall:∀ j y,j<42→hs[j]? =some y→(y.k != 1)=false):(l.take 42).all isI=true:=by
 rw [List.all_eq_true];intro x hx;obtain ⟨j,hj⟩:=List.mem_iff_getElem?.1 hx;rw [List.getElem?_take] at hj;split at hj
 ·
  rename_i hlt;obtain ⟨y,hy⟩:∃ y,hs[j]? =some y:=⟨_,List.getElem?_eq_getElem (by rw [h.hlen];omega)⟩;rw [zag (h.rel j x y hj hy)];have:=hall j y hlt hy;simpa using this
 ·
  cases hj
theorem zzM (h:l.length=45){x y z:Va}(hx:l[42]? =some x)(hy:l[43]? =some y)(hz:l[44]? =some z):l.drop 42=[x,y,z]:=by
 apply List.ext_getElem?;intro i;rw [List.getElem?_drop]
 match i with
 | 0=>exact hx
 | 1=>exact hy
 | 2=>exact hz
 | i+3=>rw [List.getElem?_eq_none kB];rfl
structure RtP (I:Qv)(bs:List Nat)(l:List Va)(hs:List Vc)(u v w:Vc)(q:List Va)(qs:List Vc):Prop where
 dec:zaf bs=some (.list l)
 len:l.length=45
 ints:(l.take 42).all isI=true
 nums:∀ j,j<42→zis (l.getD j (.int 0))=zdA hs 42 j
 drop:∃ a b,l.drop 42=[.list q,.text a,.text b]∧v.s=UR a∧w.s=UR b
 sl:Sl I 4 Zd u.a u.m u.c qs
 qlen:q.length=qs.length
 rel:∀ (k:Nat) (x:Va) (y:Vc),q[k]? =some x→qs[k]? =some y→VaR I x y
variable{u w:Vc}{q:List Va}{qs:List Vc}
theorem RtP.mono {v:Vc}(h:RtP I bs l hs u v w q qs)(hI:HLe I I'):RtP I' bs l hs u v w q qs:=⟨h.dec,h.len,h.ints,h.nums,h.drop,h.sl.mono hI,h.qlen,fun k x y hx hy=>(h.rel k x y hx hy).mono hI⟩
theorem zva (h:RdP I bs cv l hs)(hall:∀ j y,j<42→hs[j]? =some y→(y.k != 1)=false):∀ j,j<42→zis (l.getD j (.int 0))=zdA hs 42 j:=by
 intro j hj;obtain ⟨x,hx⟩:∃ x,l[j]? =some x:=⟨_,List.getElem?_eq_getElem (by rw [h.len];omega)⟩;obtain ⟨y,hy⟩:∃ y,hs[j]? =some y:=⟨_,List.getElem?_eq_getElem (by rw [h.hlen];omega)⟩;have hr:=h.rel j x y hx hy;have hi:isI x=true:=(by rw [zag hr];simpa using hall j y hj hy);unfold zdA;rw [if_pos hj,List.getD_eq_getElem?_getD,List.getD_eq_getElem?_getD,hx,hy];exact zd2 hr hi
theorem zhv (h:RdP I bs cv l hs)(hall:∀ j y,j<42→hs[j]? =some y→(y.k != 1)=false){v:Vc}(hu:hs[42]? =some u)(hv:hs[43]? =some v)(hw:hs[44]? =some w):
  (((u.k != 3||v.k != 2)||w.k != 2)=true→okN bs=none)∧(((u.k != 3||v.k != 2)||w.k != 2)=false→∃ q qs,RtP I bs l hs u v w q qs):=by
 obtain ⟨x,hx⟩:∃ x,l[42]? =some x:=⟨_,List.getElem?_eq_getElem (by rw [h.len];omega)⟩;obtain ⟨y,hy⟩:∃ x,l[43]? =some x:=⟨_,List.getElem?_eq_getElem (by rw [h.len];omega)⟩;obtain ⟨z,hz⟩:∃ x,l[44]? =some x:=⟨_,List.getElem?_eq_getElem (by rw [h.len];omega)⟩;have hd:=zzM h.len hx hy hz;have r1:=h.rel 42 x u hx hu;have r2:=h.rel 43 y v hy hv;have r3:=h.rel 44 z w hz hw;have hn:=zva h hall;have hi:=ztx h hall
 have hno:(∀ q a b,[x,y,z]≠[.list q,.text a,.text b])→okN bs=none:=fun hne=>zbn h.dec (by
  unfold zac
  simp only [if_pos (show l.length=45∧(l.take 42).all isI=true from ⟨h.len,hi⟩),hd])
 cases r1 with
 | int n=>exact ⟨fun _=>hno kX,fun hc=>by simp at hc⟩
 | text s=>exact ⟨fun _=>hno kX,fun hc=>by simp at hc⟩
 | list hS hl hr=>
  cases r2 with
  | int n=>exact ⟨fun _=>hno kX,fun hc=>by simp at hc⟩
  | list hS2 hl2 hr2=>exact ⟨fun _=>hno kX,fun hc=>by simp at hc⟩
  | text s=>
   cases r3 with
   | int n=>exact ⟨fun _=>hno kX,fun hc=>by simp at hc⟩
   | list hS2 hl2 hr2=>exact ⟨fun _=>hno kX,fun hc=>by simp at hc⟩
   | text s2=>exact ⟨fun hc=>by simp at hc,fun _=>⟨_,_,h.dec,h.len,hi,hn,⟨s,s2,hd,rfl,rfl⟩,hS,hl,hr⟩⟩
theorem zml {v:Vc}(h:RtP I bs l hs u v w q qs){y:Vc}(hy:qs[k]? =some y)(hne:(y.k != 1)=true):okN bs=none:=by
 refine zbn h.dec ?_;obtain ⟨a,b,hd,_,_⟩:=h.drop;have hk:=(List.getElem?_eq_some_iff.1 hy).1;obtain ⟨x,hx⟩:∃ x,q[k]? =some x:=⟨_,List.getElem?_eq_getElem (by rw [h.qlen];exact hk)⟩;have hf:isI x=false:=by rw [zag (h.rel k x y hx hy)];simpa using hne
 have hq:¬(q.all isI=true):=fun e=>by
  have:=List.all_eq_true.1 e x (List.mem_of_getElem? hx);rw [hf] at this;cases this
 unfold zac;simp only [if_pos (show l.length=45∧(l.take 42).all isI=true from ⟨h.len,h.ints⟩),hd,if_neg hq]
theorem zuG {v:Vc}(h:RtP I bs l hs u v w q qs)(hall:∀ j y,j<qs.length→qs[j]? =some y→(y.k != 1)=false)(a:Option Addr)(c:Nat):
  zac (.list l)=some (Yx (Up (zdA hs 42) a qs.length c (qs.map (·.n)) v.s w.s)):=by
 obtain ⟨s,s2,hd,e1,e2⟩:=h.drop
 have hq:q.all isI=true:=by
  rw [List.all_eq_true];intro x hx;obtain ⟨j,hj⟩:=List.mem_iff_getElem?.1 hx;have hjl:=(List.getElem?_eq_some_iff.1 hj).1;obtain ⟨y,hy⟩:∃ y,qs[j]? =some y:=⟨_,List.getElem?_eq_getElem (by rw [←h.qlen];exact hjl)⟩;rw [zag (h.rel j x y hj hy)];simpa using hall j y (by rw [←h.qlen];exact hjl) hy
 have hm:q.map zis=qs.map (·.n):=by
  apply List.ext_getElem?;intro j;rw [List.getElem?_map,List.getElem?_map]
  cases hx:q[j]? with
  | none=>rw [List.getElem?_eq_none (by rw [←h.qlen];exact List.getElem?_eq_none_iff.1 hx)];rfl
  | some x=>
   have hjl:=(List.getElem?_eq_some_iff.1 hx).1;obtain ⟨y,hy⟩:∃ y,qs[j]? =some y:=⟨_,List.getElem?_eq_getElem (by rw [←h.qlen];exact hjl)⟩;rw [hy];have hi:isI x=true:=List.all_eq_true.1 hq x (List.mem_of_getElem? hx);simp only [Option.map_some];rw [zd2 (h.rel j x y hx hy) hi]
 unfold zac;simp only [if_pos (show l.length=45∧(l.take 42).all isI=true from ⟨h.len,h.ints⟩),hd,if_pos hq];rw [zhy h.nums,hm,e1,e2];simp [Yx,Up,h.qlen]
def fl2 (hs:List Vc)(v:Value):List Value:=(Q7 (zk7 hs 42)).set 28 v
theorem zsO {v:Vc}(h:RtP I bs l hs u v w q qs)(hall:∀ j y,j<qs.length→qs[j]? =some y→(y.k != 1)=false)(hn:qs.length=n):
  okN bs=if QO (Up (zdA hs 42) a n c (qs.map (·.n)) v.s w.s)=true then some (Yx (Up (zdA hs 42) a n c (qs.map (·.n)) v.s w.s)) else none:=by
 have h2:=zuG h hall a c;rw [hn] at h2;unfold okN;rw [h.dec,Option.bind_some,h2,Option.bind_some,JH (by simp [Up,hn])]
def zqZ (bs:List Nat)(I:Qv)(cs:List Value)(b:Bool):Prop:=(cs.length=45∧YF cs=true)∧((b=false∧okN bs=none)∨(b=true∧∃ x,cs=Q7 x∧Nd I x.pt∧okN bs=some (Yx x)))
variable{cs:List Value}{b:Bool}
theorem zqZ.mono (h:zqZ bs I cs b)(hI:HLe I I'):zqZ bs I' cs b:=⟨h.1,h.2.imp id fun ⟨h1,x,h2,h3,h4⟩=>⟨h1,x,h2,h3.mono hI,h4⟩⟩
theorem zbW (hl:cs.length=45)(ha:YF cs=true)(h:okN bs=none):zqZ bs I cs false:=⟨⟨hl,ha⟩,.inl ⟨rfl,h⟩⟩
theorem zly (h:okN bs=if QO x=true then some (Yx x) else none)(hN:Nd I x.pt):zqZ bs I (Q7 x) (QO x):=by
 refine ⟨⟨rfl,rfl⟩,?_⟩
 cases hf:QO x with
 | false=>rw [hf] at h;exact .inl ⟨rfl,h⟩
 | true=>rw [hf] at h;exact .inr ⟨rfl,x,rfl,hN,h⟩
theorem zwo {v:Va}(hb:∀ c∈bs,c<256)(hl:bs.length<2^63)(h:zaf bs=some v):(Va.enc v).length≤bs.length:=by
 unfold zaf at h;split at h
 ·
  rename_i x e;cases h;have:=(zbw hb hl e).1;rw [this];simp
 ·
  cases h
theorem zsV {v:Vc}(h:RtP I bs l hs u v w q qs)(hb:∀ c∈bs,c<256)(hl:bs.length<2^63):qs.length≤bs.length:=by
 have h1:=zwo hb hl h.dec;obtain ⟨a,b,hd,_,_⟩:=h.drop;have h2:Va.encL l=Va.encL (l.take 42)++Va.encL (l.drop 42):=(by rw [←Va.encL_append,List.take_append_drop]);have h3:=Va.encL_len q;have h4:=h.qlen;rw [hd] at h2;have h5:(Va.encL l).length≤(Va.enc (.list l)).length:=by simp [Va.enc];omega
 have h6:(Va.encL q).length≤(Va.encL l).length:=by
  rw [h2];simp only [Va.encL,Va.enc,List.length_append,List.length_cons];omega
 omega
theorem zuN {x:Va}(h:isI x=true):x= .int (zis x):=by cases x<;>first | rfl | cases h
theorem zf3 (h:q.all isI=true):(q.map zis).map Va.int=q:=by
 induction q with
 | nil=>rfl
 | cons a l ih=>
  rw [List.all_cons,Bool.and_eq_true] at h;simp only [List.map_cons];rw [ih h.2,←zuN h.1]
theorem zhn (f:Nat→Int)(a:Option Addr)(n c:Nat)(needs:List Int)(name town:ByteArray):Y3 (Up f a n c needs name town)=(List.range 42).map f:=rfl
theorem zoR (hl:l.length=45)(h:(l.take 42).all isI=true):((List.range 42).map fun j=>zis (l.getD j (.int 0))).map Va.int=l.take 42:=by
 rw [←zf3 h];congr 1;apply List.ext_getElem?;intro j;rw [List.getElem?_map,List.getElem?_map,List.getElem?_take];by_cases hj:j<42
 ·
  rw [if_pos hj,List.getElem?_range hj,List.getElem?_eq_getElem kB,Option.map_some,Option.map_some,List.getD_eq_getElem?_getD,List.getElem?_eq_getElem kB];rfl
 ·
  rw [if_neg hj,List.getElem?_eq_none kY];rfl
variable{y:Nt}
theorem zmX {v:Va}(hok:Va.ok v)(h:zac v=some y):KU y=v:=by
 cases v with
 | int n=>cases h
 | text s=>cases h
 | list l=>
  unfold zac at h;simp only at h;split at h
  ·
   rename_i hc;split at h
   ·
    rename_i q a b hd;split at h
    ·
     rename_i hq;cases h;have hl:l=l.take 42++l.drop 42:=(List.take_append_drop ..).symm
     have hm:∀ x∈l,Va.ok x:=fun x hx=>by
      obtain ⟨k,hk⟩:=List.mem_iff_getElem?.1 hx;exact zaw hok.2 hk
     have ha:Va.ok (.text a):=hm _ (by rw [hl,hd];simp);have hb:Va.ok (.text b):=hm _ (by rw [hl,hd];simp);unfold KU;rw [zhn,zoR hc.1 hc.2];show Va.list (l.take 42++[.list ((q.map zis).map .int),.text (Ug (UR a)),.text (Ug (UR b))])=_;rw [zf3 hq,Je ha.1,Je hb.1,←hd,←hl]
    ·
     cases h
   ·
    cases h
  ·
   cases h
theorem ziW (x:Nt):KU (Yx x)=KU x:=rfl
theorem zih (hb:∀ c∈bs,c<256)(hl:bs.length<2^63)(h:okN bs=some y):Jw y=bs∧Va.ok (KU y)∧QO y=true:=by
 unfold okN at h
 cases hd:zaf bs with
 | none=>rw [hd] at h;cases h
 | some v=>
  rw [hd,Option.bind_some] at h
  cases hr:zac v with
  | none=>rw [hr] at h;cases h
  | some z=>
   rw [hr,Option.bind_some] at h;split at h
   ·
    rename_i hf;cases h;unfold zaf at hd;split at hd
    ·
     rename_i x e;cases hd;obtain ⟨e1,_,e3⟩:=zbw hb hl e;have e4:=zmX e3 hr;refine ⟨?_,by rw [e4];exact e3,hf⟩;unfold Jw;rw [e4,e1,List.append_nil]
    ·
     cases hd
   ·
    cases h
theorem zqF (x:Nt):x.pt.needs.length≤(Jw x).length:=by
 unfold Jw KU;have h1:=Va.encL_len (x.pt.needs.map Va.int);rw [List.length_map] at h1
 have h2:(Va.encL (x.pt.needs.map Va.int)).length≤(Va.enc (.list ((Y3 x).map .int++[.list (x.pt.needs.map .int),.text (Ug x.rt.name),.text (Ug x.rt.town)]))).length:=by
  simp only [Va.enc,Va.encL_append,Va.encL,List.length_append,List.length_cons];omega
 omega
theorem zdU (hb:∀ c∈bs,c<256)(hn:bs.length≤100000)(h:okN bs=some (Yx x))(hN:Nd I x.pt):NtM I x:=by
 obtain ⟨h1,h2,_⟩:=zih hb kB h;have e:Jw x=bs:=h1;have hl:=zqF x;have hN2:Sl I 1 ZX x.pt.a x.pt.n x.pt.c x.pt.needs:=hN;have:=hN2.len;exact ⟨hN,by rw [e] at hl;omega,h2,by rw [e];omega⟩
theorem ztW:Fun Tryz.prog 128:=.of Tryz.func128 kA kA
theorem zzW:SzT Tryz.prog 37 1:=.of kA
variable{av:Option Addr}
set_option maxRecDepth 100000 in
theorem zoI     (hS:Sl I 1 VT av n c bs) (hb:∀ x∈bs,x<256) (hn:n≤100000):Y7 Tryz.prog 62 [.slice av n c] I [] (fun v I' L'=>L'=[]∧∃ (cs:List Value) (b:Bool),v= .tuple #[.agg cs.toArray,.bool b]∧zqZ bs I' cs b):=by
 intro g H w hw;refine qe Tryz.func62 Tryz.ntmps62 hw ?_;have hIc:=zCA I;have hbl:=hS.len;refine zR<|Qt UW rfl rfl (fun b_2=>?_)
 refine zA<|zN (zR ?_)
 refine zM<|zpc [_] rfl ztW .nil (zpt hS hb hn) ?_
 rintro vv1 I1 L1 hI1 hq0;have hIc:=hIc.trans hI1;obtain ⟨rfl,cv,e,rfl,hq⟩:=zdk hq0;refine zM ?_;refine zE ?_;refine zE ?_;refine Qt Yv rfl rfl (fun b_4=>zh Zs<|zA (Qb<|QH .here (fun I2 hI2 hb2=>?_)));have hq:=hq.mono hI2;have hIc:=hIc.trans hI2;have h4:=BxI.of hb2;refine Qc (zR<|qcV (vs:=[_]) rfl zkC (ziP _ _)<|Qt zoo rfl rfl (fun b_6=>zh zkz ?_));refine Qb<|QH .here (fun I3 hI3 hb3=>?_)
 have hq:=hq.mono hI3;have h4:=h4.mono hI3;have hIc:=hIc.trans hI3;have h6:=BxI.of hb3;refine Qc (Qm (zR (zM<|zC<|zM<|QK 2 rfl rfl rfl ?_)));refine zJ (Qa rfl Ze)<|zJ (Qd rfl Qn (fun hg=>by exact Qz.imm h4.out rfl))<|zJ (QE rfl rfl rfl)<|Zf rfl rfl rfl rfl rfl<|zM<|QK 7 rfl rfl rfl ?_
 refine zJ (Qa rfl QN)<|zJ (Qd rfl Zh (fun hg=>by exact Qz.imm h4.out rfl))<|zJ (QV rfl ZI)<|zJ (QE rfl rfl rfl)<|Zf rfl rfl rfl rfl rfl<|zN ?_
 refine zI ?_ ?_<;>intro hc32
 ·
  have hno:=zsJ hq hc32;exact zR<|zV (Qg rfl Q8 (fun hg=>by exact zCz .here) rfl)<|zh Vk<|zA (zN (Qs (Qf<|Zz rfl rfl rfl Q8 zCy rfl (fun w hw=>⟨_,I3,[],rfl,hIc,by repeat (first | exact hw.drop | exact hw.subL Qx | exact hw.drop.drop),rfl,_,_,rfl,zbW rfl rfl hno⟩))))
 obtain ⟨l,hs,hR⟩:=zkJ hq hc32;have hm45:=hR.m;have hl45:=hR.hlen;refine Qp (Qc (Qm (zR<|zV (Qg rfl znH (fun hg=>by exact BxI.cells (vs:=zup b_2) h6) rfl)<|zM (zN (Qr ?_)))));refine zU [(2,_),(4,_),(34,_)] (fun T L0 mz E I' loc'=>∃ (k:Nat),mz=42-k∧E=(35,.int .i64 k)::T∧I3=I'∧[(b_2,.cells (Q7 (zk7 hs k)).toArray 45 (0,0))]=loc'∧k≤42∧(∀ j y,j<k→hs[j]? =some y→(y.k != 1)=false)) ?_ (h:=⟨0,rfl,rfl,rfl,rfl,Nat.zero_le _,fun j y h=>absurd h (Nat.not_lt_zero _)⟩);rintro mz E I' loc' ⟨k,rfl,rfl,rfl,rfl,hk,hall⟩;refine zR (zC (zN (Qm ?_)));refine zI ?_ ?_<;>intro hc36
 ·
  have hlt_k:k<42:=(by have h:=hc36;simp at h;omega);obtain ⟨y,hy⟩:∃ y,hs[k]? =some y:=⟨_,List.getElem?_eq_getElem kB⟩;have hgd:hs.getD k Ul=y:=(by rw [List.getD_eq_getElem?_getD,hy];rfl);refine Qp (Qc (Qm (Qr (zR (zM<|zV (KV rfl rfl zgK U1 (fun hg=>kB) (fun hg=>show (zup b_2)[((k:Int)).toNat*1]? =some (.pointer (some ⟨b_2,zkk.getD k 0,none⟩)) by rw [Nat.mul_one,Int.toNat_natCast];exact zn0 kB))<|zA<|zA (zN (Qm (zR<|zF QN ?_))))))));refine zV (Qd rfl Zh (fun hg=>by exact Qz.imm h4.out rfl)) ?_;refine zM ?_;refine zV (QC rfl rfl ZI hR.sl (fun hg=>kB))<|zF Ze ?_
  refine zV (Qd rfl Qn (fun hg=>by exact zCt hR.sl hy rfl))<|zC (zN ?_)
  refine zI ?_ ?_<;>intro hc45
  ·
   have hno:=zr1 hR kB hy hc45;exact zR<|zV (Qg rfl Q8 (fun hg=>by exact Cells.g0) rfl)<|zh Vk<|zA (zN (Qs (Qf (Qj (Qf (Qf (Qj<|Qf<|Zz rfl rfl rfl Q8 zCy rfl (fun w hw=>⟨_,I3,[],rfl,hIc,by repeat (first | exact hw.drop | exact hw.subL Qx | exact hw.drop.drop),rfl,_,_,rfl,zbW rfl rfl hno⟩))))))))
  refine Qp (Qc (Qh (zM<|zF QN ?_)));refine zV (Qd rfl Zh (fun hg=>by exact Qz.imm h4.out rfl)) ?_;refine zM ?_;refine zV (QC rfl rfl ZI hR.sl (fun hg=>kB))<|zF YU ?_
  refine zV (Qd rfl Qn (fun hg=>by exact zCC hR.sl hy (j:=1) rfl))<|zV (QB rfl)<|Jv rfl rfl UT rfl rfl Upd.u0 (zvP _ kB)<|Qb (Qi (Qc (Qh (zB<|zM (Qb ?_)))))
  exact Zk _ _ ⟨42-(k+1),kB,k+1,rfl,rfl,rfl,rfl,kB,VK hy hall hc45⟩ (.cons rfl (.cons rfl (.cons rfl (.cons rfl .nil)))) (by (try rw [←Kd hs k kB,hgd]);repeat (first | exact .refl | exact QJ | refine Q5 ?_ | refine .drop ?_ | refine QP ?_))
 have hge_k:42≤k:=(by have h:=hc36;simp at h;omega);obtain rfl:k=42:=kB;obtain ⟨u,hu⟩:∃ y,hs[42]? =some y:=⟨_,List.getElem?_eq_getElem kB⟩;obtain ⟨v3,hv⟩:∃ y,hs[43]? =some y:=⟨_,List.getElem?_eq_getElem kB⟩;obtain ⟨w4,hw4⟩:∃ y,hs[44]? =some y:=⟨_,List.getElem?_eq_getElem kB⟩;refine Q6 (Ql (Ql (Qq (Qc ?_))));refine zY [(2,_)] (fun T L0 E I' loc'=>∃ (p9 p10 p11:Nat),E=(9,ZE p9)::(10,ZE p10)::(11,ZE p11)::T∧HLe I3 I'∧[(b_2,.cells (Q7 (zk7 hs 42)).toArray 45 (0,0))]=loc'∧BxI I' p9 (.cells (Zd u).toArray 158 (0,0))∧BxI I' p10 (.cells (Zd v3).toArray 158 (0,0))∧BxI I' p11 (.cells (Zd w4).toArray 158 (0,0))) ?_ ?_
 ·
  have hKc12:=zCA I3;have hD:=zCA I3;refine Zm<|QI I3 [] mixed<|zT 0 rfl (Qa rfl QN) hD<|zT 1 rfl (Qd rfl Zh (fun hg=>by exact Qz.imm h4.out rfl)) hD<|zT 2 rfl (QC rfl rfl ZI hR.sl (fun hg=>kB)) hD<|zT 3 rfl (Qg rfl Zg (fun hg=>by exact zCB hR.sl hu) rfl) hD<|zT 4 rfl (Qa rfl QN) hD<|zT 5 rfl (Qd rfl Zh (fun hg=>by exact Qz.imm h4.out rfl)) hD<|zT 6 rfl (QC rfl rfl ZI hR.sl (fun hg=>kB)) hD<|zT 7 rfl (Qg rfl Zg (fun hg=>by exact zCB hR.sl hv) rfl) hD<|zT 8 rfl (Qa rfl QN) hD<|zT 9 rfl (Qd rfl Zh (fun hg=>by exact Qz.imm h4.out rfl)) hD ?_
  refine zT 10 rfl (QC rfl rfl ZI hR.sl (fun hg=>kB)) hD<|zT 11 rfl (Qg rfl Zg (fun hg=>by exact zCB hR.sl hw4) rfl) hD ?_
  refine V0 12 13 14 rfl rfl rfl kA ?_ ?_ ?_
  ·
   refine Qt Yv rfl rfl (fun b_9=>Qb<|zD hD ?_);refine QS 13 14 rfl rfl kA ?_ ?_
   ·
    refine Qt Yv rfl rfl (fun b_10=>Qb<|zD hD<|qd 14 rfl<|Qt Yv rfl rfl (fun b_11=>Qb<|zD hD<|qd 15 rfl ?_));refine zh Zs ?_;refine QU (b:=b_9) (by repeat (first | exact Z3.here | apply Z3.there)) (fun I5 hI5 hb5=>?_);have hKc12:=hKc12.trans hI5;have hD:=hD.trans hI5;have h9:=BxI.of hb5;refine Qb<|zD hD<|qd 16 rfl ?_
    refine zh Zs ?_;refine QU (b:=b_10) (by repeat (first | exact Z3.here | apply Z3.there)) (fun I6 hI6 hb6=>?_);have h9:=h9.mono hI6;have hKc12:=hKc12.trans hI6;have hD:=hD.trans hI6;have h10:=BxI.of hb6;refine Qb<|zD hD<|qd 17 rfl ?_
    refine zh Zs ?_;refine QU (b:=b_11) (by repeat (first | exact Z3.here | apply Z3.there)) (fun I7 hI7 hb7=>?_);have h9:=h9.mono hI7;have h10:=h10.mono hI7;have hKc12:=hKc12.trans hI7;have hD:=hD.trans hI7;have h11:=BxI.of hb7;refine Qb<|zD hD<|Qo kA<|Qw ?_
    exact Zk _ _ ⟨_,_,_,rfl,hKc12,rfl,h9,h10,h11⟩ (.cons rfl (.cons rfl (.cons rfl (.cons rfl .nil)))) (by (try rw [←Kd hs k kB,hgd]);repeat (first | exact .refl | exact QJ | refine Q5 ?_ | refine .drop ?_ | refine QP ?_))
   refine Qt Yv rfl rfl (fun b_11=>Qb<|zD hD<|qd 13 rfl<|Qt Yv rfl rfl (fun b_10=>Qb<|zD hD<|qd 15 rfl ?_));refine zh Zs ?_;refine QU (b:=b_9) (by repeat (first | exact Z3.here | apply Z3.there)) (fun I8 hI8 hb8=>?_);have hKc12:=hKc12.trans hI8;have hD:=hD.trans hI8;have h9:=BxI.of hb8;refine Qb<|zD hD<|qd 16 rfl ?_
   refine zh Zs ?_;refine QU (b:=b_10) (by repeat (first | exact Z3.here | apply Z3.there)) (fun I9 hI9 hb9=>?_);have h9:=h9.mono hI9;have hKc12:=hKc12.trans hI9;have hD:=hD.trans hI9;have h10:=BxI.of hb9;refine Qb<|zD hD<|qd 17 rfl ?_
   refine zh Zs ?_;refine QU (b:=b_11) (by repeat (first | exact Z3.here | apply Z3.there)) (fun I10 hI10 hb10=>?_);have h9:=h9.mono hI10;have h10:=h10.mono hI10;have hKc12:=hKc12.trans hI10;have hD:=hD.trans hI10;have h11:=BxI.of hb10;refine Qb<|zD hD<|Qo kA<|Qw ?_
   exact Zk _ _ ⟨_,_,_,rfl,hKc12,rfl,h9,h10,h11⟩ (.cons rfl (.cons rfl (.cons rfl (.cons rfl .nil)))) (by (try rw [←Kd hs k kB,hgd]);repeat (first | exact .refl | exact QJ | refine Q5 ?_ | refine .drop ?_ | refine QP ?_))
  ·
   refine Qt Yv rfl rfl (fun b_10=>Qb<|zD hD ?_);refine QS 12 14 rfl rfl kA ?_ ?_
   ·
    refine Qt Yv rfl rfl (fun b_9=>Qb<|zD hD<|qd 14 rfl<|Qt Yv rfl rfl (fun b_11=>Qb<|zD hD<|qd 15 rfl ?_));refine zh Zs ?_;refine QU (b:=b_9) (by repeat (first | exact Z3.here | apply Z3.there)) (fun I11 hI11 hb11=>?_);have hKc12:=hKc12.trans hI11;have hD:=hD.trans hI11;have h9:=BxI.of hb11;refine Qb<|zD hD<|qd 16 rfl ?_
    refine zh Zs ?_;refine QU (b:=b_10) (by repeat (first | exact Z3.here | apply Z3.there)) (fun I12 hI12 hb12=>?_);have h9:=h9.mono hI12;have hKc12:=hKc12.trans hI12;have hD:=hD.trans hI12;have h10:=BxI.of hb12;refine Qb<|zD hD<|qd 17 rfl ?_
    refine zh Zs ?_;refine QU (b:=b_11) (by repeat (first | exact Z3.here | apply Z3.there)) (fun I13 hI13 hb13=>?_);have h9:=h9.mono hI13;have h10:=h10.mono hI13;have hKc12:=hKc12.trans hI13;have hD:=hD.trans hI13;have h11:=BxI.of hb13;refine Qb<|zD hD<|Qo kA<|Qw ?_
    exact Zk _ _ ⟨_,_,_,rfl,hKc12,rfl,h9,h10,h11⟩ (.cons rfl (.cons rfl (.cons rfl (.cons rfl .nil)))) (by (try rw [←Kd hs k kB,hgd]);repeat (first | exact .refl | exact QJ | refine Q5 ?_ | refine .drop ?_ | refine QP ?_))
   refine Qt Yv rfl rfl (fun b_11=>Qb<|zD hD<|qd 12 rfl<|Qt Yv rfl rfl (fun b_9=>Qb<|zD hD<|qd 15 rfl ?_));refine zh Zs ?_;refine QU (b:=b_9) (by repeat (first | exact Z3.here | apply Z3.there)) (fun I14 hI14 hb14=>?_);have hKc12:=hKc12.trans hI14;have hD:=hD.trans hI14;have h9:=BxI.of hb14;refine Qb<|zD hD<|qd 16 rfl ?_
   refine zh Zs ?_;refine QU (b:=b_10) (by repeat (first | exact Z3.here | apply Z3.there)) (fun I15 hI15 hb15=>?_);have h9:=h9.mono hI15;have hKc12:=hKc12.trans hI15;have hD:=hD.trans hI15;have h10:=BxI.of hb15;refine Qb<|zD hD<|qd 17 rfl ?_
   refine zh Zs ?_;refine QU (b:=b_11) (by repeat (first | exact Z3.here | apply Z3.there)) (fun I16 hI16 hb16=>?_);have h9:=h9.mono hI16;have h10:=h10.mono hI16;have hKc12:=hKc12.trans hI16;have hD:=hD.trans hI16;have h11:=BxI.of hb16;refine Qb<|zD hD<|Qo kA<|Qw ?_
   exact Zk _ _ ⟨_,_,_,rfl,hKc12,rfl,h9,h10,h11⟩ (.cons rfl (.cons rfl (.cons rfl (.cons rfl .nil)))) (by (try rw [←Kd hs k kB,hgd]);repeat (first | exact .refl | exact QJ | refine Q5 ?_ | refine .drop ?_ | refine QP ?_))
  refine Qt Yv rfl rfl (fun b_11=>Qb<|zD hD ?_);refine QS 12 13 rfl rfl kA ?_ ?_
  ·
   refine Qt Yv rfl rfl (fun b_9=>Qb<|zD hD<|qd 13 rfl<|Qt Yv rfl rfl (fun b_10=>Qb<|zD hD<|qd 15 rfl ?_));refine zh Zs ?_;refine QU (b:=b_9) (by repeat (first | exact Z3.here | apply Z3.there)) (fun I17 hI17 hb17=>?_);have hKc12:=hKc12.trans hI17;have hD:=hD.trans hI17;have h9:=BxI.of hb17;refine Qb<|zD hD<|qd 16 rfl ?_
   refine zh Zs ?_;refine QU (b:=b_10) (by repeat (first | exact Z3.here | apply Z3.there)) (fun I18 hI18 hb18=>?_);have h9:=h9.mono hI18;have hKc12:=hKc12.trans hI18;have hD:=hD.trans hI18;have h10:=BxI.of hb18;refine Qb<|zD hD<|qd 17 rfl ?_
   refine zh Zs ?_;refine QU (b:=b_11) (by repeat (first | exact Z3.here | apply Z3.there)) (fun I19 hI19 hb19=>?_);have h9:=h9.mono hI19;have h10:=h10.mono hI19;have hKc12:=hKc12.trans hI19;have hD:=hD.trans hI19;have h11:=BxI.of hb19;refine Qb<|zD hD<|Qo kA<|Qw ?_
   exact Zk _ _ ⟨_,_,_,rfl,hKc12,rfl,h9,h10,h11⟩ (.cons rfl (.cons rfl (.cons rfl (.cons rfl .nil)))) (by (try rw [←Kd hs k kB,hgd]);repeat (first | exact .refl | exact QJ | refine Q5 ?_ | refine .drop ?_ | refine QP ?_))
  refine Qt Yv rfl rfl (fun b_10=>Qb<|zD hD<|qd 12 rfl<|Qt Yv rfl rfl (fun b_9=>Qb<|zD hD<|qd 15 rfl ?_));refine zh Zs ?_;refine QU (b:=b_9) (by repeat (first | exact Z3.here | apply Z3.there)) (fun I20 hI20 hb20=>?_);have hKc12:=hKc12.trans hI20;have hD:=hD.trans hI20;have h9:=BxI.of hb20;refine Qb<|zD hD<|qd 16 rfl ?_
  refine zh Zs ?_;refine QU (b:=b_10) (by repeat (first | exact Z3.here | apply Z3.there)) (fun I21 hI21 hb21=>?_);have h9:=h9.mono hI21;have hKc12:=hKc12.trans hI21;have hD:=hD.trans hI21;have h10:=BxI.of hb21;refine Qb<|zD hD<|qd 17 rfl ?_
  refine zh Zs ?_;refine QU (b:=b_11) (by repeat (first | exact Z3.here | apply Z3.there)) (fun I22 hI22 hb22=>?_);have h9:=h9.mono hI22;have h10:=h10.mono hI22;have hKc12:=hKc12.trans hI22;have hD:=hD.trans hI22;have h11:=BxI.of hb22;refine Qb<|zD hD<|Qo kA<|Qw ?_
  exact Zk _ _ ⟨_,_,_,rfl,hKc12,rfl,h9,h10,h11⟩ (.cons rfl (.cons rfl (.cons rfl (.cons rfl .nil)))) (by (try rw [←Kd hs k kB,hgd]);repeat (first | exact .refl | exact QJ | refine Q5 ?_ | refine .drop ?_ | refine QP ?_))
 rintro E J23 loc' ⟨p9,p10,p11,rfl,hJ,rfl,h9,h10,h11⟩;have hR:=hR.mono hJ;have hIc:=hIc.trans hJ;refine Qm (zR<|zF Ze ?_);refine zV (Qd rfl Qn (fun hg=>by exact Qz.imm h9.out rfl))<|zC<|zM<|QK 3 rfl rfl rfl ?_
 refine zJ (Qa rfl Ze)<|zJ (Qd rfl Qn (fun hg=>by exact Qz.imm h10.out rfl))<|zJ (QE rfl rfl rfl)<|Zf rfl rfl rfl rfl rfl<|zM<|QK 8 rfl rfl rfl ?_
 refine zJ (Qa rfl Ze)<|zJ (Qd rfl Qn (fun hg=>by exact Qz.imm h11.out rfl))<|zJ (QE rfl rfl rfl)<|Zf rfl rfl rfl rfl rfl<|zN ?_
 refine zI ?_ ?_<;>intro hc80
 ·
  have hno:=(zhv hR hall hu hv hw4).1 hc80;exact zR<|zV (Qg rfl Q8 (fun hg=>by exact Cells.g0) rfl)<|zh Vk<|zA (zN (Qs (Qf<|Zz rfl rfl rfl Q8 zCy rfl (fun w hw=>⟨_,J23,[],rfl,hIc,by repeat (first | exact hw.drop | exact hw.subL Qx | exact hw.drop.drop),rfl,_,_,rfl,zbW rfl rfl hno⟩))))
 obtain ⟨q,qs,hT⟩:=(zhv hR hall hu hv hw4).2 hc80;have hql:=hT.sl.len;have hum:u.m≤100000:=(by have h:=zsV hT hb kB;omega);refine Qp (Qc (Qm (zR<|zF QN ?_)));refine zV (Qd rfl Zh (fun hg=>by exact Qz.imm h9.out rfl))<|zQ ZI ?_
 refine zM (zN (Qr ?_));refine zU [(2,_),(10,_),(11,_),(83,_),(84,_)] (fun T L0 mz E I' loc'=>∃ (j:Nat) (v:Value) (L:Go.Kn.Loc),mz=u.m-j∧E=(85,.int .i64 j)::T∧HLe J23 I'∧L++[(b_2,.cells (fl2 hs v).toArray 45 (0,0))]=loc'∧j≤u.m∧ZP 3 1 v j (((qs.take j).map (·.n)).flatMap ZX) L∧(∀ i y,i<j→qs[i]? =some y→(y.k != 1)=false)) ?_ (h:=⟨0,_,[],rfl,rfl,zCA _,rfl,Nat.zero_le _,ZP.nil,fun j y h=>absurd h (Nat.not_lt_zero _)⟩);rintro mz E J24 loc' ⟨j,v,L,rfl,rfl,hJ,rfl,hj,hO,hall2⟩;have h10:=h10.mono hJ;have h11:=h11.mono hJ;have hT:=hT.mono hJ;have hIc:=hIc.trans hJ;have hB2:=hJ;refine zR (zC (zN (Qm ?_)));refine zI ?_ ?_<;>intro hc86
 ·
  have hlt_j:j<u.m:=(by have h:=hc86;simp at h;omega);obtain ⟨z,hz⟩:∃ y,qs[j]? =some y:=⟨_,List.getElem?_eq_getElem kB⟩;refine Qp (Qc (Qm (Qr (zR<|zV (QC rfl rfl ZI hT.sl (fun hg=>kB))<|zV (Qg rfl Zg (fun hg=>by exact zCB hT.sl hz) rfl)<|Qt Yv rfl rfl (fun b_13=>zh Zs ?_)))));refine Qb<|QH .here (fun I25 hI25 hb25=>?_)
  have hT:=hT.mono hI25;have hIc:=hIc.trans hI25;have hB2:=hB2.trans hI25;have h13:=BxI.of hb25;refine Qc (Qm (zR<|zF Ze ?_));refine zV (Qd rfl Qn (fun hg=>by exact Qz.imm h13.out rfl))<|zC (zN ?_)
  refine zI ?_ ?_<;>intro hc91
  ·
   have hno:=zml hT hz hc91;obtain ⟨a0,c0,rfl⟩:=hO.shape;exact zR<|zV (Qg rfl Q8 (fun hg=>by exact zCz .here) rfl)<|zh Vk<|zA (zN (Qs (Qf (Qj (Qf (Qf (Qj<|Qf<|Zz rfl rfl rfl Q8 (.app .here) rfl (fun w hw=>⟨_,I25,[],rfl,hIc,by repeat (first | exact hw.drop | exact hw.subL Qx | exact hw.drop.drop),rfl,_,_,rfl,zbW rfl rfl hno⟩))))))))
  refine Qp (Qc (Qh<|zF Yi<|zF ZL ?_));refine zV (Qd rfl YW (fun hg=>by exact zCw (Qz.h0 rfl)))<|zF YU ?_
  refine zV (Qd rfl Qn (fun hg=>by exact Qz.imm h13.out rfl))<|zpb [(0,_)] [ZX z.n] Ve (fun b_98=>zpa (_) (([z.n]:List Int).flatMap ZX) (L) rfl rfl Ve hO ⟨rfl,fun _=>rfl,by repeat (first | exact zCy | apply zCx | apply zCz)⟩ (zaY [z.n]) ?_)
  intro v2 L2 hO2 _;rw [←List.flatMap_append] at hO2;obtain ⟨a2,c2,rfl⟩:=hO2.shape;refine zF Yi ?_;refine zF ZL ?_;refine zS zzW<|Qb (Qi (Qc (Qh (zB<|zM (Qb ?_)))))
  exact Zk _ _ ⟨u.m-(j+1),kB,j+1,_,_,rfl,rfl,hB2,rfl,kB,by rw [Za hz,List.map_append];exact hO2,VK hz hall2 hc91⟩ (.cons rfl (.cons rfl (.cons rfl (.cons rfl (.cons rfl (.cons rfl .nil)))))) (by (try rw [←Kd hs k kB,hgd]);repeat (first | exact .refl | exact QJ | refine Q5 ?_ | refine .drop ?_ | refine QP ?_))
 have hge_j:u.m≤j:=(by have h:=hc86;simp at h;omega);obtain rfl:j=u.m:=kB;have hke:qs.take u.m=qs:=List.take_of_length_le kB;rw [hke] at hO;have hall2:∀ j y,j<qs.length→qs[j]? =some y→(y.k != 1)=false:=fun j y hj hy=>hall2 j y kB hy;refine Q6 (Ql (Ql (Qq (Qc (Qm ?_)))));have hD:=zCA J24;refine Zm<|QI J24 [] mixed<|zT 0 rfl (Qa rfl Yq) hD<|zT 1 rfl (Qd rfl VS (fun hg=>by exact Qz.imm h10.out rfl)) hD<|zT 2 rfl (Qa rfl Yq) hD<|zT 3 rfl (Qd rfl VS (fun hg=>by exact Qz.imm h11.out rfl)) hD<|zT 4 rfl (Qa rfl Yj) hD<|zT 5 rfl (Qa rfl JO) hD<|qd 6 rfl ?_
 refine zS zue ?_;refine Qb<|zD hD<|zT 7 rfl (Qa rfl Yj) hD<|zT 8 rfl (Qa rfl JU) hD<|qd 9 rfl ?_
 refine zS zue ?_;refine Qb<|zD hD<|Qo kA<|Qw<|Qc (Qm<|zx4 hO YM (fun I26 hI26 af26 cf26 ef26 hNd=>?_))
 subst ef26;have hT:=hT.mono hI26;have hIc:=hIc.trans hI26;refine zeK (loc':=[(b_2,.cells (Q7 (Up (zdA hs 42) af26 u.m cf26 (qs.map (·.n)) v3.s w4.s)).toArray 45 (0,0))]) kU ?_;have hF:=zsO (a:=af26) (c:=cf26) hT hall2 hT.sl.len;have hNd2:Nd I26 (Up (zdA hs 42) af26 u.m cf26 (qs.map (·.n)) v3.s w4.s).pt:=hNd;have hD:=zCA I26;refine Zm<|QI I26 [(b_2,.cells (Q7 (Up (zdA hs 42) af26 u.m cf26 (qs.map (·.n)) v3.s w4.s)).toArray 45 (0,0))] mixed<|zT 0 rfl (Qg rfl Q8 (fun hg=>by exact Cells.g0) rfl) hD<|zT 1 rfl (Qg rfl Q8 (fun hg=>by exact Cells.g0) rfl) hD<|qd 2 rfl<|qcV (vs:=[_]) rfl zbZ (Ur _ hNd2)<|Qb<|zD hD<|qd 3 rfl ?_
 refine zh Vk ?_;exact Qb<|zD hD<|zT 4 rfl (Qy rfl) hD<|Qo kA<|Qw<|Qc (Qs<|Zz rfl rfl rfl Q8 zCy rfl (fun w hw=>⟨_,I26,[],rfl,hIc,hw.drop,rfl,_,_,rfl,zly hF hNd2⟩))
def WK (xs:List Nt)(t:Nt):Nat:=(xs.takeWhile fun x=>decide (Y5 x t<0)).length
def zm0 (xs:List Nt)(t:Nt):Prop:=∀ (k l:Nat) (x y:Nt),k≤l→xs[k]? =some x→xs[l]? =some y→Y5 y t<0→Y5 x t<0
variable{xs:List Nt}{t:Nt}{i:Nat}
theorem zwk (hi:i≤xs.length)(h1:∀ k x,k<i→xs[k]? =some x→Y5 x t<0)(h2:∀ k x,i≤k→xs[k]? =some x→¬Y5 x t<0):WK xs t=i:=by
 unfold WK
 have e:xs.takeWhile (fun x=>decide (Y5 x t<0))=xs.take i:=by
  induction xs generalizing i with
  | nil=>simp
  | cons a l ih=>
   cases i with
   | zero=>
    have:=h2 0 a (Nat.le_refl _) rfl;simp [List.takeWhile,this]
   | succ i=>
    have h:=h1 0 a kB rfl;simp only [List.takeWhile,h,decide_true,List.take_succ_cons];rw [ih (i:=i) (by simpa using hi) (fun k x hk hx=>h1 (k+1) x kB hx) (fun k x hk hx=>h2 (k+1) x kB hx)]
 rw [e,List.length_take];omega
variable{m:Nat}
theorem zwv (hm:zm0 xs t){i:Nat}(hy:xs[m]? =some y)(hc:Y5 y t<0):∀ k x,k<m+1→xs[k]? =some x→Y5 x t<0:=fun k x hk hx=>hm k m x y kB hx hy hc
theorem zoi (hm:zm0 xs t)(hy:xs[m]? =some y)(hc:¬Y5 y t<0):∀ k x,m≤k→xs[k]? =some x→¬Y5 x t<0:=fun k x hk hx h=>hc (hm m k y x hk hy hx h)
def zfE (xs:List Nt)(t:Nt):Bool:=match xs[WK xs t]? with | some y=>Y5 y t==0 | none=>false
theorem zkw (hp:WK xs t=i)(hy:xs[i]? =some y):zfE xs t=(Y5 y t==0):=by unfold zfE;rw [hp,hy]
theorem zzs (hp:WK xs t=i)(hi:xs.length≤i):zfE xs t=false:=by unfold zfE;rw [hp,List.getElem?_eq_none hi]
structure Pe where
 a:Option Addr
 n:Nat
 c:Nat
 notes:List Nt
def Xy (x:Pe):List Value:=[.slice x.a x.n x.c]
theorem zf1 (x:Pe):(Xy x).length=1:=rfl
theorem zwZ (xs:List Pe):YF (xs.flatMap Xy)=true:=Z8 (fun _=>rfl) xs
def zg7 (xs:List Nt)(t:Nt):List Nt:=xs.take (WK xs t)++t::xs.drop (WK xs t)
theorem zhf (xs:List Nt)(t:Nt):WK xs t≤xs.length:=by
 unfold WK;exact (List.takeWhile_sublist _).length_le
variable{fz:Nat×Nat}{cur:List Value}
theorem zdP {l:Go.Kn.Loc}{b t:Nat}(h:cur[i]? =some v):Qz I ((b,.cells cur.toArray t fz)::l) b ((i:Int).toNat*1+0) v:=by
 rw [Nat.add_zero,Nat.mul_one,Int.toNat_natCast];exact zCv (by simpa [V7] using h)
theorem zhd (h:cur[i]? =some v):((i:Int).toNat*1+0).blt cur.toArray.size=true:=by
 rw [Nat.add_zero,Nat.mul_one,Int.toNat_natCast,List.size_toArray];have:=(List.getElem?_eq_some_iff.1 h).1;exact Nat.ble_eq_true_of_le this
theorem zkL :cur.toArray.setIfInBounds ((i:Int).toNat*1+0) v=(cur.set i v).toArray:=by
 rw [Nat.add_zero,Nat.mul_one,Int.toNat_natCast];simp
theorem znc:CvT Tryz.prog 216 3 .i64:=⟨kA,kA⟩
theorem zAL (hP:UV I av n c xs)(hf:∀ x∈xs,QO x=true)(hT:NtM I t)(hm:zm0 xs t)(hn:n≤100000):ZF Tryz.prog 173 [.slice av n c,Kj t,.func (.func 81) #[] #[]] I (.tuple #[.int .i64 (WK xs t:Nat),.bool (zfE xs t)]):=by
 intro g H w hw;refine qe Tryz.func173 Tryz.ntmps173 hw ?_;have hIc:=zCA I;have hln:=hP.sl.len;refine zR<|QQ rfl rfl rfl (fun b_4=>zA<|zA (Qb<|QH .here (fun I1 hI1 hb1=>?_)))
 have hP:=hP.mono hI1;have hT:=hT.mono hI1;have hIc:=hIc.trans hI1;have h4:=BxI.of hb1;refine Qc (zR (zM<|zQ QZ<|zA<|zN (zR ?_)));refine zM<|zA<|zA (zN (Qm (Qr ?_)))
 refine zU [(0,_),(2,_),(4,_),(8,_)] (fun T L0 mz E I' loc'=>∃ (i j:Nat),mz=j-i∧E=(9,.int .i64 i)::(10,.int .i64 j)::T∧I1=I'∧L0=loc'∧i≤j∧j≤n∧(∀ k x,k<i→xs[k]? =some x→Y5 x t<0)∧(∀ k x,j≤k→xs[k]? =some x→¬Y5 x t<0)) ?_ (h:=⟨0,n,rfl,rfl,rfl,rfl,Nat.zero_le _,Nat.le_refl _,fun k x h=>absurd h (Nat.not_lt_zero _),fun k x hk hx=>by rw [List.getElem?_eq_none kB] at hx;cases hx⟩);rintro mz E I' loc' ⟨i,j,rfl,rfl,rfl,rfl,hij,hjn,hlo,hup⟩;refine Qm (zR (zM<|zM<|zC (zN ?_)));refine zI ?_ ?_<;>intro hc17
 ·
  have hlt:i<j:=(by have h:=hc17;simp at h;omega);obtain ⟨y,hy⟩:∃ y,xs[(i+j) / 2]? =some y:=⟨_,List.getElem?_eq_getElem kB⟩;have hym:y∈xs:=List.mem_of_getElem? hy;refine Qp (Qc (Qr (zR (zM ?_))));refine zM ?_;refine zB<|zV (ZM rfl Xn)<|zV (zia rfl rfl kD (rfl:min _ _=1))<|zV (ZM rfl znc)<|zA (Qb ?_)
  rw [zvo i j kB];refine Qc (Qm ?_);have hD:=zCA I1;refine Zm<|QI I1 [] mixed<|zT 0 rfl (Qe rfl) hD<|zT 1 rfl (Qe rfl) hD<|zT 2 rfl (Qe rfl) hD<|zT 3 rfl (QC rfl rfl QZ hP.sl (fun hg=>kB)) hD<|zT 4 rfl (Qg rfl Q8 (fun hg=>by exact zCB (k:=(i+j) / 2) hP.sl hy) rfl) hD<|zT 5 rfl (Qg rfl Q8 (fun hg=>by exact BxI.cells (vs:=Q7 t) h4) rfl) hD<|qd 6 rfl<|qcV (vs:=[_,_]) rfl zgs (zfV (hP.m y hym (hf y hym)) hT)<|Qb<|zD hD ?_
  refine zT 7 rfl (QE rfl rfl rfl) hD<|Qo kA<|Qw<|Qc ?_
  refine zI ?_ ?_<;>intro hc31
  ·
   refine Qh (zM ?_);exact zB<|zA (Qb (Qi<|zm (h:=⟨j-((i+j) / 2+1),kB,(i+j) / 2+1,j,rfl,rfl,rfl,rfl,kB,hjn,zwv (i:=i) hm hy (by simpa using hc31),hup⟩)))
  exact Qh (zM<|zA (Qb (Qi<|zm (h:=⟨(i+j) / 2-i,kB,i,(i+j) / 2,rfl,rfl,rfl,rfl,kB,kB,hlo,zoi hm hy (by simpa using hc31)⟩))))
 have hge:j≤i:=(by have h:=hc17;simp at h;omega);have hje:j=i:=kB;subst hje;have hpos:=zwk kB hlo hup;refine Q6 (Ql (Ql (Qq (Qc (Qm ?_)))));rcases (show j<n∨n≤j by omega) with hjl | hjl
 ·
  have hk0:decide ((j:Int)<(n:Int))=true:=(by simp;omega);obtain ⟨y,hy⟩:∃ y,xs[j]? =some y:=⟨_,List.getElem?_eq_getElem kB⟩;have hym:y∈xs:=List.mem_of_getElem? hy;have hD:=zCA I1;refine Zm<|QI I1 [] mixed<|zT 0 rfl (Qe rfl) hD<|zT 1 rfl (Qe rfl) hD<|zT 2 rfl (Qe rfl) hD<|zT 3 rfl (QE rfl rfl rfl) hD ?_
  rw [hk0];refine zT 4 rfl (Qe rfl) hD<|zw 5 39 rfl (Qe rfl) hD<|zw 6 39 rfl (Qe rfl) hD<|zw 7 39 rfl (Qe rfl) hD<|zw 8 39 rfl (QC rfl rfl QZ hP.sl (fun hg=>kB)) hD<|zw 9 39 rfl (Qg rfl Q8 (fun hg=>by exact zCB (k:=j) hP.sl hy) rfl) hD<|zw 10 39 rfl (Qg rfl Q8 (fun hg=>by exact BxI.cells (vs:=Q7 t) h4) rfl) hD<|qd 11 rfl<|QM (dj:=39) rfl rfl rfl<|qcV (vs:=[_,_]) rfl zgs (zfV (hP.m y hym (hf y hym)) hT)<|Qb<|zD hD ?_
  refine zw 12 39 rfl (QE rfl rfl rfl) hD<|zT 13 rfl (QY rfl rfl rfl) hD<|zT 14 rfl (Qy rfl) hD<|zT 15 rfl (Qy rfl) hD<|Qo kA<|Qw<|Qc (Qs ?_)
  exact Y2 rfl rfl rfl (fun w hw=>⟨by rw [hpos,zkw hpos hy]<;>rfl,(hw.mono hIc).drop⟩)
 have hk0:decide ((j:Int)<(n:Int))=false:=(by simp;omega);have hD:=zCA I1;refine Zm<|QI I1 [] mixed<|zT 0 rfl (Qe rfl) hD<|zT 1 rfl (Qe rfl) hD<|zT 2 rfl (Qe rfl) hD<|zT 3 rfl (QE rfl rfl rfl) hD ?_
 rw [hk0];refine zT 4 rfl (Qe rfl) hD<|zW 5 39 hD ?_
 refine zW 6 39 hD ?_;refine zW 7 39 hD ?_;refine zW 8 39 hD ?_;refine zW 9 39 hD ?_;refine zW 10 39 hD ?_;refine zW 11 39 hD ?_;refine zW 12 39 hD<|zT 13 rfl (Yg rfl rfl rfl) hD<|zT 14 rfl (Qy rfl) hD<|zT 15 rfl (Qy rfl) hD<|Qo kA<|Qw<|Qc (Qs ?_)
 exact Y2 rfl rfl rfl (fun w hw=>⟨by rw [hpos,zzs hpos kB]<;>rfl,(hw.mono hIc).drop⟩)
theorem zsN:ElT Tryz.prog 22 59 1 24:=.of kA
theorem zeG (hS:Sl I 45 Q7 av n c xs)(hn:n≤400000):Y7 Tryz.prog 175 [.slice av n c] I [] (fun v I' L=>I'=I∧ZP 45 45 v n (xs.flatMap Q7) L):=by
 intro g H w hw;refine qe Tryz.func175 Tryz.ntmps175 hw ?_;refine zR (zA (zN (Qm (zR ?_))));refine zM<|zV (zi3 rfl rfl QZ)<|zN ?_
 refine zI ?_ ?_<;>intro hc4
 ·
  have hn0:n=0:=Decidable.byContradiction fun h=>(by have:=hS.base h;rw [this] at hc4;cases hc4);have hl:=hS.len;subst hn0;have hx0:=List.eq_nil_of_length_eq_zero hl;subst hx0;exact zR (zA (zN (Qs (Qf<|QA rfl rfl (fun w hw=>⟨_,I,_,rfl,zCA _,hw,rfl,ZP.nil⟩)))))
 refine Qp (Qc (zR<|zpb [] [] ZH (fun b_5=>zM<|zpa (_) (xs.flatMap Q7) ([(b_5,_)]) rfl rfl ZH ZP.new (hS.src Zl) (V8 _) ?_)));intro v1 L1 hO1 _;rw [List.nil_append,Nat.zero_add] at hO1;exact zA (zN (Qs<|QA rfl rfl (fun w hw=>⟨_,I,_,rfl,zCA _,hw.subL QJ,rfl,hO1⟩)))
theorem zlA {xs:List Pe}(hS:Sl I 1 Xy av n c xs)(hn:n≤400000):Y7 Tryz.prog 52 [.slice av n c] I [] (fun v I' L=>I'=I∧ZP 59 1 v n (xs.flatMap Xy) L):=by
 intro g H w hw;refine qe Tryz.func52 Tryz.ntmps52 hw ?_;refine zR (zA (zN (Qm (zR ?_))));refine zM<|zV (zi3 rfl rfl JC)<|zN ?_
 refine zI ?_ ?_<;>intro hc4
 ·
  have hn0:n=0:=Decidable.byContradiction fun h=>(by have:=hS.base h;rw [this] at hc4;cases hc4);have hl:=hS.len;subst hn0;have hx0:=List.eq_nil_of_length_eq_zero hl;subst hx0;exact zR (zA (zN (Qs (Qf<|QA rfl rfl (fun w hw=>⟨_,I,_,rfl,zCA _,hw,rfl,ZP.nil⟩)))))
 refine Qp (Qc (zR<|zpb [] [] zsN (fun b_5=>zM<|zpa (_) (xs.flatMap Xy) ([(b_5,_)]) rfl rfl zsN ZP.new (hS.src zf1) (zwZ _) ?_)));intro v1 L1 hO1 _;rw [List.nil_append,Nat.zero_add] at hO1;exact zA (zN (Qs<|QA rfl rfl (fun w hw=>⟨_,I,_,rfl,zCA _,hw.subL QJ,rfl,hO1⟩)))
theorem zvF:Fun Tryz.prog 173:=.of Tryz.func173 kA kA
theorem zhq:Fun Tryz.prog 174:=.of Tryz.func174 kA kA
theorem zgL:Fun Tryz.prog 175:=.of Tryz.func175 kA kA
theorem zfl:SzT Tryz.prog 57 1:=.of kA
variable{pe:Pe}
theorem zuS {bp:Nat}(hci:cur[i]? =some (.slice pe.a pe.n pe.c))(hi:i<pn)(_hpn:pn≤100000)(hP:UV I pe.a pe.n pe.c pe.notes)(hf:∀ x∈pe.notes,QO x=true)(hT:NtM I t)(hm:zm0 pe.notes t)(hn:pe.n≤4096):Uu Tryz.prog 109 [ZE bc,.int .i64 i,Kj t] I [(bc,.cells #[.slice (some ⟨bp,0,none⟩) pn pc,.slice qa qn qc,.slice aa an ac] 108 (0,0)),(bp,.cells (cur).toArray 59 (0,0))] (fun v I' L'=>v= .tuple #[]∧((zfE pe.notes t=true∧L'=[(bc,.cells #[.slice (some ⟨bp,0,none⟩) pn pc,.slice qa qn qc,.slice aa an ac] 108 (0,0)),(bp,.cells (cur).toArray 59 (0,0))])∨(zfE pe.notes t=false∧pe.n<4096∧∃ a c,L'=[(bc,.cells #[.slice (some ⟨bp,0,none⟩) pn pc,.slice qa qn qc,.slice aa an ac] 108 (0,0)),(bp,.cells (cur.set i (.slice a (pe.n+1) c)).toArray 59 (0,0))]∧Sl I' 45 Q7 a (pe.n+1) c (zg7 pe.notes t)))) (fun v=>v= .iface 50 (.int .i64 2)∧zfE pe.notes t=false∧¬pe.n<4096):=by
 intro g H w hw;refine qe Tryz.func109 Tryz.ntmps109 hw ?_;have hIc:=zCA I;have hln:=hP.sl.len;have hpl:=zhf pe.notes t;refine zR<|QQ rfl rfl rfl (fun b_5=>Qb<|QH .here (fun I1 hI1 hb1=>?_))
 have hP:=hP.mono hI1;have hT:=hT.mono hI1;have hIc:=hIc.trans hI1;have h5:=BxI.of hb1;refine Qc (zR (zM<|zV (QB rfl) ?_));refine zF Yo<|zF YK ?_
 refine zL J6 ?_;refine zM ?_;refine zV (VB rfl rfl JC (fun hg=>kB))<|zA (zN (Qm ?_))
 have hD:=zCA I1;refine QI I1 [(bc,.cells #[.slice (some ⟨bp,0,none⟩) pn pc,.slice qa qn qc,.slice aa an ac] 108 (0,0)),(bp,.cells (cur).toArray 59 (0,0))] mixed<|zT 0 rfl (Qe rfl) hD<|zT 1 rfl (QB rfl) hD<|zT 2 rfl (Qa rfl Zx) hD<|zT 3 rfl (Qd rfl YD (fun hg=>by exact zCu (zdP hci))) hD<|zT 4 rfl (Qg rfl Q8 (fun hg=>by exact BxI.cells (vs:=Q7 t) h5) rfl) hD<|qd 5 rfl<|qcV (vs:=[_,_,_]) rfl zvF (zAL hP hf hT hm kB)<|Qb<|zD hD<|zT 6 rfl (Qe rfl) hD<|zT 7 rfl (Q9 rfl rfl) hD ?_
 refine zT 8 rfl (Q9 rfl rfl) hD<|zT 9 rfl (Qy rfl) hD<|zT 10 rfl (Qy rfl) hD<|Qo kA<|Qc (Qm (zR (zM (zN ?_))))
 refine zI ?_ ?_<;>intro hc25
 ·
  exact Qs (Qf<|Ys rfl (fun w hw=>.inl ⟨_,I1,_,rfl,hIc,hw,rfl,.inl ⟨hc25,rfl⟩⟩))
 refine Qp (Qc (zR (zM<|zV (QB rfl) ?_)));refine zF Zx ?_;refine zV (Qd rfl YD (fun hg=>by exact zCu (zdP hci)))<|zQ QZ<|zC ?_
 refine zx5 [_,_] rfl KN .nil (Wd I1 (decide ((pe.n:Int)<4096)) 2) ?_ (fun pv hpv=>by refine zx6 ?_;exact (⟨hpv.1,hc25,by have h:=hpv.2;simp at h;omega⟩));rintro vv2 I2 L2 hI2 ⟨rfl,rfl,rfl,hok⟩;have hP:=hP.mono hI2;have h5:=h5.mono hI2;have hIc:=hIc.trans hI2;have hok2:pe.n<4096:=(by have h:=hok;simp at h;omega);refine zN ?_;have hD:=zCA I2;refine QI I2 [] mixed<|zT 0 rfl (Qe rfl) hD<|zT 1 rfl (Qe rfl) hD<|zT 2 rfl (QB rfl) hD<|zT 3 rfl (Qa rfl Zx) hD<|zT 6 rfl (Qe rfl) hD<|zT 7 rfl (Qg rfl Q8 (fun hg=>by exact BxI.cells (vs:=Q7 t) h5) rfl) hD ?_
 refine QS 4 8 rfl rfl kA ?_ ?_
 ·
  refine zV (Qd rfl YD (fun hg=>by exact zCu (zdP hci)))<|Qb<|zD hD ?_
  refine QS 5 8 rfl rfl kA ?_ ?_
  ·
   refine zpc [_] rfl zgL .nil (zeG hP.sl kB) ?_;rintro vv3 I3 L3 hI3 ⟨rfl,hOc⟩;have hP:=hP.mono hI3;have hIc:=hIc.trans hI3;have hD:=hD.trans hI3;refine Qb<|zD hD<|qd 8 rfl<|zpb [(0,_)] [Q7 t] ZH (fun b_41=>Qb<|zD hD<|qd 9 rfl<|zpc [_,_,_] rfl zhq (by exact zgP) (zbG hOc kB hP.sl.len (i:=WK pe.notes t) kB b_41 t) ?_)
   rintro vv4 I4 L4 hI4 ⟨rfl,hOi⟩;have hIc:=hIc.trans hI4;have hD:=hD.trans hI4;refine Qb<|zD hD<|zT 10 rfl (QB rfl) hD<|zT 11 rfl (Qa rfl Zx) hD<|qd 12 rfl<|zx7 hOi Zl (fun I5 hI5 af5 cf5 ef5 hZ=>?_)
   subst ef5;have hIc:=hIc.trans hI5;have hD:=hD.trans hI5;exact Jv rfl rfl zfl rfl rfl Upd.u1 (zhd hci)<|Qb<|zD hD<|Qo kA<|YP (Ys rfl (fun w hw=>.inl ⟨_,I5,_,rfl,hIc,hw,rfl,.inr ⟨hc25,hok2,_,_,by rw [zkL],hZ⟩⟩))
  refine zpb [(0,_)] [Q7 t] ZH (fun b_41=>Qb<|zD hD<|qd 5 rfl<|zpc [_] rfl zgL .nil (zeG hP.sl kB) ?_);rintro vv6 I6 L6 hI6 ⟨rfl,hOc⟩;have hP:=hP.mono hI6;have hIc:=hIc.trans hI6;have hD:=hD.trans hI6;refine Qb<|zD hD<|qd 9 rfl<|zpc [_,_,_] rfl zhq (by exact zbB) (zbG hOc kB hP.sl.len (i:=WK pe.notes t) kB b_41 t) ?_
  rintro vv7 I7 L7 hI7 ⟨rfl,hOi⟩;have hIc:=hIc.trans hI7;have hD:=hD.trans hI7;refine Qb<|zD hD<|zT 10 rfl (QB rfl) hD<|zT 11 rfl (Qa rfl Zx) hD<|qd 12 rfl<|zx7 hOi Zl (fun I8 hI8 af8 cf8 ef8 hZ=>?_)
  subst ef8;have hIc:=hIc.trans hI8;have hD:=hD.trans hI8;exact Jv rfl rfl zfl rfl rfl Upd.u1 (zhd hci)<|Qb<|zD hD<|Qo kA<|YP (Ys rfl (fun w hw=>.inl ⟨_,I8,_,rfl,hIc,hw,rfl,.inr ⟨hc25,hok2,_,_,by rw [zkL],hZ⟩⟩))
 refine zpb [(0,_)] [Q7 t] ZH (fun b_41=>Qb<|zD hD<|qd 4 rfl<|zV (Qd rfl YD (fun hg=>by exact zCu (zCu (zdP hci))))<|Qb<|zD hD<|qd 5 rfl<|zpc [_] rfl zgL .nil (zeG hP.sl kB) ?_);rintro vv9 I9 L9 hI9 ⟨rfl,hOc⟩;have hP:=hP.mono hI9;have hIc:=hIc.trans hI9;have hD:=hD.trans hI9;refine Qb<|zD hD<|qd 9 rfl<|zpc [_,_,_] rfl zhq (by exact zbB) (zbG hOc kB hP.sl.len (i:=WK pe.notes t) kB b_41 t) ?_
 rintro vv10 I10 L10 hI10 ⟨rfl,hOi⟩;have hIc:=hIc.trans hI10;have hD:=hD.trans hI10;refine Qb<|zD hD<|zT 10 rfl (QB rfl) hD<|zT 11 rfl (Qa rfl Zx) hD<|qd 12 rfl<|zx7 hOi Zl (fun I11 hI11 af11 cf11 ef11 hZ=>?_)
 subst ef11;have hIc:=hIc.trans hI11;have hD:=hD.trans hI11;exact Jv rfl rfl zfl rfl rfl Upd.u1 (zhd hci)<|Qb<|zD hD<|Qo kA<|YP (Ys rfl (fun w hw=>.inl ⟨_,I11,_,rfl,hIc,hw,rfl,.inr ⟨hc25,hok2,_,_,by rw [zkL],hZ⟩⟩))
theorem JA:AgT Tryz.prog 28 3:=.of kA
theorem zsc:Fun Tryz.prog 58:=.of Tryz.func58 kA kA
theorem zhV:PlT Tryz.prog 28 #[(0,1),(1,2)] (.agg #[(.slice none 0 0),(.slice none 0 0),(.slice none 0 0)]):=⟨.of kA,kA,fun w=>kA⟩
theorem KM:SzT Tryz.prog 28 3:=.of kA
theorem zc0:Vp Tryz.prog 28 (.agg #[(.slice none 0 0),(.slice none 0 0),(.slice none 0 0)]):=.of kA
theorem zsv:zBy Tryz.prog 22 59 24 (.agg #[.slice none 0 0]) (.slice none 0 0):=⟨kA,kA,by rfl⟩
theorem zi0 (I:Qv):ZF Tryz.prog 58 [] I (zug):=by
 intro g H w hw;refine qe Tryz.func58 Tryz.ntmps58 hw ?_;exact zR<|Qt Wk rfl rfl (fun b_0=>zN (zR<|zV (Qg rfl ZW (fun hg=>by exact Cells.g0) rfl)<|zh YB<|zN (Qs<|ZN rfl rfl ZW zCy rfl (fun w hw=>⟨by rfl,hw.drop⟩))))
theorem zAX (I:Qv)(n:Int):Y7 Tryz.prog 14 [.int .i64 n] I [] (fun v I' L'=>I'=I∧(((decide (n<1)||decide (n>24))=true∧L'=[]∧v= .tuple #[.agg #[.slice none 0 0,.slice none 0 0,.slice none 0 0],.int .i64 1])∨((decide (n<1)||decide (n>24))=false∧∃ b,L'=[(b,.cells (List.replicate n.toNat (Value.slice none 0 0)).toArray 59 (0,0))]∧v= .tuple #[.agg #[.slice (some ⟨b,0,none⟩) n.toNat n.toNat,.slice none 0 0,.slice none 0 0],.int .i64 0]))):=by
 intro g H w hw;refine qe Tryz.func14 Tryz.ntmps14 hw ?_;refine zR<|Qt zc0 rfl rfl (fun b_2=>?_)
 refine zA (zN (Qm (zR<|zM<|zC ?_)));refine zM ?_;refine QK 2 rfl rfl rfl ?_;refine zJ (Qe rfl) ?_;refine zJ (QE rfl rfl rfl) ?_;refine Zf rfl rfl rfl rfl rfl ?_;refine zN ?_;refine zI ?_ ?_<;>intro hc9
 ·
  exact zR<|zV (Qg rfl JA (fun hg=>by exact Cells.g0) rfl)<|zh KM<|zA (zN (Qs (Qf<|Zz rfl rfl rfl JA zCy rfl (fun w hw=>⟨_,I,_,rfl,zCA _,hw.drop,rfl,.inl ⟨hc9,rfl,rfl⟩⟩))))
 have h9:1≤n∧n≤24:=(by have h:=hc9;simp at h;omega);refine Qp (Qc (Qm ?_));have hD:=zCA I;refine Zm<|QI I [] mixed<|zT 0 rfl (Qe rfl) hD ?_
 refine QS 1 2 rfl rfl kA ?_ ?_
 ·
  refine X1 zsv rfl rfl kB kD rfl rfl (fun b_12=>Qb<|zD hD<|qd 2 rfl<|qcV (vs:=[]) rfl zsc (zi0 _)<|Qb<|zD hD<|zT 3 rfl (QF (ps:=[(0,_),(1,_)]) [_,_,_] zhV rfl rfl) hD<|qd 4 rfl ?_);refine zh KM ?_;exact Qb<|zD hD<|zT 5 rfl (Qy rfl) hD<|Qo kA<|Qw<|Qc (Qs<|Zz rfl rfl rfl JA (.there .here) rfl (fun w hw=>⟨_,I,_,rfl,zCA _,hw.subL (.keep (.drop .refl)),rfl,.inr ⟨hc9,_,rfl,rfl⟩⟩))
 refine qcV (vs:=[]) rfl zsc (zi0 _)<|Qb<|zD hD<|qd 1 rfl<|X1 zsv rfl rfl kB kD rfl rfl (fun b_12=>Qb<|zD hD<|zT 3 rfl (QF (ps:=[(0,_),(1,_)]) [_,_,_] zhV rfl rfl) hD<|qd 4 rfl ?_)
 refine zh KM ?_;exact Qb<|zD hD<|zT 5 rfl (Qy rfl) hD<|Qo kA<|Qw<|Qc (Qs<|Zz rfl rfl rfl JA (.there .here) rfl (fun w hw=>⟨_,I,_,rfl,zCA _,hw.subL (.keep (.drop .refl)),rfl,.inr ⟨hc9,_,rfl,rfl⟩⟩))
theorem zoQ:∀ a:List UInt8,Lib.compareBytes a a=0
 | []=>rfl
 | x::l=>by simp only [Lib.compareBytes,if_neg (UInt8.lt_irrefl x)];exact zoQ l
theorem zus:∀ {a b:List UInt8},Lib.compareBytes a b=0→a=b
 | [],[],_=>rfl
 | [],_::_,h=>by simp [Lib.compareBytes] at h
 | _::_,[],h=>by simp [Lib.compareBytes] at h
 | x::a,y::b,h=>by
  unfold Lib.compareBytes at h;split at h
  ·
   cases h
  ·
   rename_i h1;split at h
   ·
    cases h
   ·
    rename_i h2;have e:x=y:=UInt8.le_antisymm (UInt8.not_lt.1 h2) (UInt8.not_lt.1 h1);rw [e,zus h]
theorem ziD:∀ {a b c:List UInt8},Lib.compareBytes a b<0→Lib.compareBytes b c<0→Lib.compareBytes a c<0
 | [],[],_,h,_=>by simp [Lib.compareBytes] at h
 | _::_,[],_,h,_=>by simp [Lib.compareBytes] at h
 | _,_::_,[],_,h=>by simp [Lib.compareBytes] at h
 | [],_::_,_::_,_,_=>by simp [Lib.compareBytes]
 | x::a,y::b,z::c,h1,h2=>by
  unfold Lib.compareBytes at h1 h2 ⊢;by_cases hxy:x<y
  ·
   by_cases hyz:y<z
   ·
    rw [if_pos (UInt8.lt_trans hxy hyz)];decide
   ·
    rw [if_neg hyz] at h2;by_cases hzy:z<y
    ·
     rw [if_pos hzy] at h2;simp at h2
    ·
     have e:y=z:=UInt8.le_antisymm (UInt8.not_lt.1 hzy) (UInt8.not_lt.1 hyz);rw [←e,if_pos hxy];decide
  ·
   rw [if_neg hxy] at h1;by_cases hyx:y<x
   ·
    rw [if_pos hyx] at h1;simp at h1
   ·
    rw [if_neg hyx] at h1;have e:x=y:=UInt8.le_antisymm (UInt8.not_lt.1 hyx) (UInt8.not_lt.1 hxy);rw [e];by_cases hyz:y<z
    ·
     rw [if_pos hyz];decide
    ·
     rw [if_neg hyz] at h2 ⊢;by_cases hzy:z<y
     ·
      rw [if_pos hzy] at h2;simp at h2
     ·
      rw [if_neg hzy] at h2 ⊢;exact ziD h1 h2
theorem zlR:∀ (a b:List UInt8),Lib.compareBytes a b= - Lib.compareBytes b a
 | [],[]=>rfl
 | [],_::_=>rfl
 | _::_,[]=>rfl
 | x::a,y::b=>by
  unfold Lib.compareBytes;by_cases hxy:x<y
  ·
   rw [if_pos hxy,if_neg (UInt8.lt_asymm hxy),if_pos hxy]
  ·
   rw [if_neg hxy];by_cases hyx:y<x
   ·
    rw [if_pos hyx,if_pos hyx];rfl
   ·
    rw [if_neg hyx,if_neg hyx,if_neg hxy];exact zlR a b
theorem VI {z:Nt}(h1:Y5 x y<0)(h2:Y5 y z<0):Y5 x z<0:=ziD h1 h2
theorem Ut (x:Nt):Y5 x x=0:=zoQ _
theorem Uq (x y:Nt):Y5 x y= - Y5 y x:=zlR _ _
def zdh (xs:List Nt):Prop:=∀ (k l:Nat) (x y:Nt),k<l→xs[k]? =some x→xs[l]? =some y→Y5 x y<0
theorem zdh.mono (h:zdh xs)(t:Nt):zm0 xs t:=fun k l x y hkl hx hy hc=>by
 rcases Nat.lt_or_ge k l with h1 | h1
 ·
  exact VI (h k l x y h1 hx hy) hc
 ·
  obtain rfl:k=l:=kB;rw [hx] at hy;cases hy;exact hc
theorem Kf (h:ZQ xs=true):zdh xs∧(∀ x∈xs,QO x=true)∧xs.length≤4096:=by
 unfold ZQ at h;rw [Bool.and_eq_true,decide_eq_true_eq] at h;obtain ⟨hg,hl⟩:=h;have hall:=(Xw xs []).1 hg
 have hf:∀ x∈xs,QO x=true:=fun x hx=>by
  obtain ⟨k,hk⟩:=List.mem_iff_getElem?.1 hx;exact zcb (hall k x hk)
 have hstep:∀ (k:Nat) (x y:Nt),xs[k]? =some x→xs[k+1]? =some y→Y5 x y<0:=fun k x y hx hy=>by
  have h1:=hall (k+1) y hy;rw [List.nil_append] at h1;have e:(((k+1:Nat):Int)-1).toNat=k:=kB;rw [Un (hf y (List.mem_of_getElem? hy)) (Nat.succ_pos k) (by rw [e];exact hx)] at h1;simpa using h1
 refine ⟨?_,hf,hl⟩;intro k l x y hkl hx hy
 induction l generalizing y with
 | zero=>omega
 | succ l ih=>
  rcases Nat.lt_or_ge k l with h1 | h1
  ·
   obtain ⟨z,hz⟩:∃ z,xs[l]? =some z:=⟨_,List.getElem?_eq_getElem (by have:=(List.getElem?_eq_some_iff.1 hy).1;omega)⟩;exact VI (ih z h1 hz) (hstep l z y hz hy)
  ·
   obtain rfl:k=l:=kB;exact hstep k x y hx hy
theorem zuc :∀ k x,k<WK xs t→xs[k]? =some x→Y5 x t<0:=by
 unfold WK
 induction xs with
 | nil=>intro k x h;simp at h
 | cons a l ih=>
  intro k x hk hx;by_cases h:Y5 a t<0
  ·
   simp only [List.takeWhile,h,decide_true] at hk
   cases k with
   | zero=>cases hx;exact h
   | succ k=>exact ih k x (by simpa using hk) hx
  ·
   simp [List.takeWhile,h] at hk
theorem zvc (hx:xs[WK xs t]? =some x):¬Y5 x t<0:=by
 unfold WK at hx
 induction xs with
 | nil=>cases hx
 | cons a l ih=>
  by_cases h:Y5 a t<0
  ·
   simp only [List.takeWhile,h,decide_true,List.length_cons,List.getElem?_cons_succ] at hx;exact ih hx
  ·
   simp only [List.takeWhile,h,decide_false,List.length_nil,List.getElem?_cons_zero,Option.some.injEq] at hx;subst hx;exact h
theorem zvK (k:Nat):(zg7 xs t)[k]? =if k<WK xs t then xs[k]? else if k=WK xs t then some t else xs[k-1]? :=by
 have hp:=zhf xs t;unfold zg7;by_cases h1:k<WK xs t
 ·
  rw [if_pos h1,List.getElem?_append_left kR,List.getElem?_take,if_pos h1]
 ·
  rw [if_neg h1,List.getElem?_append_right kR,List.length_take,Nat.min_eq_left hp];by_cases h2:k=WK xs t
  ·
   rw [if_pos h2,h2,Nat.sub_self];rfl
  ·
   rw [if_neg h2,show k-WK xs t=(k-1-WK xs t)+1 by omega,List.getElem?_cons_succ,List.getElem?_drop];congr 1;omega
theorem znl (h:zdh xs)(hh:zfE xs t=false):zdh (zg7 xs t):=by
 have hgt:∀ k x,WK xs t≤k→xs[k]? =some x→Y5 t x<0:=fun k x hk hx=>by
  obtain ⟨y,hy⟩:∃ y,xs[WK xs t]? =some y:=⟨_,List.getElem?_eq_getElem (by have:=(List.getElem?_eq_some_iff.1 hx).1;omega)⟩;have h1:=zvc hy
  have h2:Y5 y t≠0:=by
   have:=zkw rfl hy;rw [hh] at this;simpa using this.symm
  have h3:Y5 t y<0:=(by rw [Uq];omega);rcases Nat.lt_or_ge (WK xs t) k with h4 | h4
  ·
   exact VI h3 (h _ _ _ _ h4 hy hx)
  ·
   obtain rfl:k=WK xs t:=kB;rw [hy] at hx;cases hx;exact h3
 intro k l x y hkl hx hy;rw [zvK] at hx hy;split at hx
 ·
  rename_i hk;split at hy
  ·
   exact h k l x y hkl hx hy
  ·
   split at hy
   ·
    cases hy;exact zuc k x hk hx
   ·
    rename_i h2 h3;exact h k (l-1) x y kB hx hy
 ·
  rename_i hk;split at hx
  ·
   rename_i hk2;cases hx;rw [if_neg kB,if_neg kB] at hy;exact hgt (l-1) y kB hy
  ·
   rename_i hk2;rw [if_neg kB,if_neg kB] at hy;exact h (k-1) (l-1) x y kB hx hy
theorem zam :x∈zg7 xs t↔x=t∨x∈xs:=by
 unfold zg7;rw [List.mem_append,List.mem_cons]
 conv=>rhs;rw [←List.take_append_drop (WK xs t) xs,List.mem_append]
 constructor
 ·
  rintro (h | h | h)
  ·
   exact .inr (.inl h)
  ·
   exact .inl h
  ·
   exact .inr (.inr h)
 ·
  rintro (h | h | h)
  ·
   exact .inr (.inl h)
  ·
   exact .inl h
  ·
   exact .inr (.inr h)
theorem zgX :(zg7 xs t).length=xs.length+1:=by
 have:=zhf xs t;unfold zg7;rw [List.length_append,List.length_cons,List.length_take,List.length_drop];omega
mutual
theorem K5:∀ (v:Va),Va.ok v→∀ c∈Va.enc v,c<256
 | .int n,h,c,hc=>by
  simp only [Va.enc,List.mem_cons] at hc;rcases hc with rfl | hc
  ·
   decide
  ·
   exact zb1 c hc
 | .text s,h,c,hc=>by
  simp only [Va.enc,List.mem_cons,List.mem_append] at hc;rcases hc with rfl | hc | hc
  ·
   decide
  ·
   exact zb1 c hc
  ·
   exact h.1 c hc
 | .list l,h,c,hc=>by
  simp only [Va.enc,List.mem_cons,List.mem_append] at hc;rcases hc with rfl | hc | hc
  ·
   decide
  ·
   exact zb1 c hc
  ·
   exact zf8 l h.2 c hc
theorem zf8:∀ (l:List Va),Va.okL l→∀ c∈Va.encL l,c<256
 | [],_,c,hc=>by cases hc
 | x::l,h,c,hc=>by
  simp only [Va.encL,List.mem_append] at hc;rcases hc with hc | hc
  ·
   exact K5 x h.1 c hc
  ·
   exact zf8 l h.2 c hc
end
theorem zpm {a b:List Nat}(ha:∀ c∈a,c<256)(hb:∀ c∈b,c<256)(h:UR a=UR b):a=b:=by
 rw [←Je ha,←Je hb,h]
theorem znb {x y:Nt}(hx:Va.ok (KU x))(hy:Va.ok (KU y))(h:Y5 x y=0):Yx x=Yx y:=by
 have h1:(zaX x).data.toList=(zaX y).data.toList:=zus h
 have h2:zaX x=zaX y:=by
  have e:(zaX x).data=(zaX y).data:=Array.toList_inj.1 h1;have:∀ a b:ByteArray,a.data=b.data→a=b:=fun a b e=>by cases a;cases b;simp_all
  exact this _ _ e
 have h3:Jw x=Jw y:=zpm (K5 _ hx) (K5 _ hy) h2;have d1:=zdO (KU x) (d:=16) (r:=[]) hx (JP x);have d2:=zdO (KU y) (d:=16) (r:=[]) hy (JP y);have h4:Va.enc (KU x)=Va.enc (KU y):=h3;rw [h4,d2] at d1;have h5:KU y=KU x:=(by simpa using d1);have r1:=zg3 x;rw [←h5,zg3 y] at r1;exact (Option.some.inj r1).symm
end
section
open Go Go.Kn Go.Proofs
structure PkM (I:Qv)(p:Pk):Prop where
 sl:Sl I 1 VT p.a p.n p.c p.data
 byte:∀ c∈p.data,c<256
variable{I I':Qv}{p:Pk}
theorem PkM.mono (h:PkM I p)(hI:HLe I I'):PkM I' p:=⟨h.sl.mono hI,h.byte⟩
structure zkq (I:Qv)(cur:List Value)(ps:List Pe):Prop where
 at_:∀ (i:Nat) (pe:Pe),ps[i]? =some pe→cur[i]? =some (.slice pe.a pe.n pe.c)
 nt:∀ pe∈ps,UV I pe.a pe.n pe.c pe.notes
 ok:∀ pe∈ps,ZQ pe.notes=true
variable{cur:List Value}{ps:List Pe}
theorem zkq.mono (h:zkq I cur ps)(hI:HLe I I'):zkq I' cur ps:=⟨h.at_,fun p hp=>(h.nt p hp).mono hI,h.ok⟩
variable{xs:List Nt}
theorem Xj (hs:zdh xs)(hf:∀ x∈xs,QO x=true)(hl:xs.length≤4096):ZQ xs=true:=by
 rw [zeg (fun j y hj hy=>?_)]
 ·
  simp only [decide_eq_true_eq];omega
 ·
  have hfy:=hf y (List.mem_of_getElem? hy)
  cases j with
  | zero=>exact zdN hfy
  | succ j=>
   obtain ⟨z,hz⟩:∃ z,xs[j]? =some z:=⟨_,List.getElem?_eq_getElem kB⟩;rw [Un (k:=j+1) hfy (Nat.succ_pos j) (y:=z) (by rw [show (((j+1:Nat):Int)-1).toNat=j by omega];exact hz)];have:=hs j (j+1) z y kB hz hy;simp;omega
/-! ### Notes without their heads -/
theorem zbi (x y:Nt):Y5 (Yx x) (Yx y)=Y5 x y:=rfl
theorem zic (t:Nt):∀ xs:List Nt,WK (xs.map Yx) (Yx t)=WK xs t:=by
 intro xs;unfold WK
 induction xs with
 | nil=>rfl
 | cons a l ih=>
  simp only [List.map_cons,List.takeWhile];rw [zbi];split
  ·
   simp only [List.length_cons];rw [ih]
  ·
   rfl
theorem zeM (xs:List Nt)(t:Nt):zfE (xs.map Yx) (Yx t)=zfE xs t:=by
 unfold zfE;rw [zic,List.getElem?_map];cases xs[WK xs t]? <;>rfl
theorem zqL (xs:List Nt)(t:Nt):zg7 (xs.map Yx) (Yx t)=(zg7 xs t).map Yx:=by
 unfold zg7;rw [zic,List.map_append,List.map_cons,List.map_take,List.map_drop]
def dtP (ps:List Pe):List (List Nt):=ps.map fun pe=>pe.notes.map Yx
theorem zeu (ps:List Pe):(dtP ps).length=ps.length:=by simp [dtP]
variable{i:Nat}{pe:Pe}
theorem zbL (h:ps[i]? =some pe):(dtP ps)[i]? =some (pe.notes.map Yx):=by simp [dtP,h]
def zo2 (xs:List Nt)(t:Nt):Option (List Nt):=if zfE xs t=true then some xs else if xs.length<4096 then some (zg7 xs t) else none
def zcP (P:List (List Nt))(i:Nat)(t:Nt):Option (List (List Nt)):=(P[i]?).bind fun xs=>(zo2 xs t).map fun ys=>P.set i ys
variable{α:Type}{l:List α}
theorem zqH {x:α}(h:l[i]? =some x):l.set i x=l:=by
 obtain ⟨h1,h2⟩:=List.getElem?_eq_some_iff.1 h;rw [←h2,List.set_getElem_self]
variable{t:Nt}
theorem zpL (h:ps[i]? =some pe)(hh:zfE pe.notes t=true):zcP (dtP ps) i (Yx t)=some (dtP ps):=by
 unfold zcP zo2;rw [zbL h,Option.bind_some,zeM,if_pos hh,Option.map_some,zqH (zbL h)]
theorem zp5 (h:ps[i]? =some pe)(hh:zfE pe.notes t=false)(hl:pe.notes.length<4096)(a:Option Addr)(n c:Nat):zcP (dtP ps) i (Yx t)=some (dtP (ps.set i ⟨a,n,c,zg7 pe.notes t⟩)):=by
 unfold zcP zo2;rw [zbL h,Option.bind_some,zeM,if_neg (by rw [hh];simp),if_pos (by simpa using hl),Option.map_some,zqL];simp [dtP,List.map_set]
theorem zl9 (h:ps[i]? =some pe)(hh:zfE pe.notes t=false)(hl:¬pe.notes.length<4096):zcP (dtP ps) i (Yx t)=none:=by
 unfold zcP zo2;rw [zbL h,Option.bind_some,zeM,if_neg (by rw [hh];simp),if_neg (by simpa using hl)];rfl
variable{a:Option Addr}{c:Nat}
theorem zkq.lrn (h:zkq I cur ps)(hI:HLe I I')(hx:ps[i]? =some pe)(hT:NtM I t)(ht:QO t=true)(hh:zfE pe.notes t=false)
  (hl:pe.n<4096)(hS:Sl I' 45 Q7 a (pe.n+1) c (zg7 pe.notes t)):zkq I' (cur.set i (.slice a (pe.n+1) c)) (ps.set i ⟨a,pe.n+1,c,zg7 pe.notes t⟩):=by
 have hm:=List.mem_of_getElem? hx;have hP:=h.nt pe hm;obtain ⟨v1,v2,v3⟩:=Kf (h.ok pe hm);have hlen:=hP.sl.len;refine ⟨fun j q hq=>?_,fun q hq=>?_,fun q hq=>?_⟩
 ·
  rw [List.getElem?_set] at hq;split at hq
  ·
   rename_i e;subst e;split at hq
   ·
    cases hq
    rw [List.getElem?_set_self (by
     have:=(List.getElem?_eq_some_iff.1 (h.at_ i pe hx)).1
     exact this)]
   ·
    cases hq
  ·
   rename_i e;rw [List.getElem?_set_ne e];exact h.at_ j q hq
 ·
  rcases List.mem_or_eq_of_mem_set hq with hq | rfl
  ·
   exact (h.nt q hq).mono hI
  ·
   refine ⟨hS,fun x hx=>?_,fun x hx hf=>?_⟩
   ·
    rcases zam.1 hx with rfl | hx
    ·
     exact hT.nd.mono hI
    ·
     exact (hP.nd x hx).mono hI
   ·
    rcases zam.1 hx with rfl | hx
    ·
     exact hT.mono hI
    ·
     exact (hP.m x hx hf).mono hI
 ·
  rcases List.mem_or_eq_of_mem_set hq with hq | rfl
  ·
   exact h.ok q hq
  ·
   refine Xj (znl v1 hh) (fun x hx=>?_) (by rw [zgX];omega);rcases zam.1 hx with rfl | hx
   ·
    exact ht
   ·
    exact v2 x hx
def VR (p:Pk):Pk:={p with a:=none,n:=p.data.length,c:=0}
structure Rd where
 ps:List (List Nt)
 qs:List Pk
 ks:List (Int×Int)
def zeroR:Rd:=⟨[],[],[]⟩
def U5 (m:Nat)(p:Pk):Bool:= !(okN p.data).isSome||decide (zgq p.frm p.to_≥(m:Int))
def zfA (r:Rd):Int:=
 if ((decide ((r.ps.length:Int)<1)||decide ((r.ps.length:Int)>24))||UZ r.qs r.ks != 0)=true then 570
 else if r.ps.any (fun xs=> !ZQ xs)=true then 570
 else if r.qs.any (U5 r.ps.length)=true then 570 else 0
def pkN (i k:Int)(t:Nt):Pk:=⟨i,k,none,(Jw t).length,0,Jw t⟩
def KI (m:Nat)(i:Int)(t:Nt):List Pk:=((List.range m).filter fun (k:Nat)=>(k:Int) != i).map fun (k:Nat)=>pkN i k t
def isP (r:Rd)(i:Int):Bool:=decide (i≥0)&&decide (i<(r.ps.length:Int))
def UY (r:Rd)(x:Ev):Int×Rd:=
 if isP r x.peer=true then
  if QO x.note=true then (match zcP r.ps x.peer.toNat x.note with
   | none=>(2,zeroR)
   | some P=>(0,⟨P,r.qs++KI r.ps.length x.peer x.note,r.ks⟩))
  else (570,zeroR)
 else (1,zeroR)
def zaS (r:Rd)(x:Ev):Int×Rd:=
 if (isP r x.peer&&isP r x.to_&&x.peer != x.to_)=true then (0,⟨r.ps,r.qs++(r.ps.getD x.peer.toNat []).map (pkN x.peer x.to_),r.ks⟩) else (1,zeroR)
def zcN (r:Rd)(x:Ev):Int×Rd:=
 if atE r.qs r.ks x.at_≠0 then (atE r.qs r.ks x.at_,zeroR)
 else if (JE r.qs r.ks x.at_).frm=(JE r.qs r.ks x.at_).to_ then (0,⟨r.ps,r.qs.eraseIdx x.at_.toNat,r.ks⟩)
 else match (okN (JE r.qs r.ks x.at_).data).bind (zcP r.ps (JE r.qs r.ks x.at_).to_.toNat) with
  | none=>(2,zeroR)
  | some P=>(0,⟨P,r.qs.eraseIdx x.at_.toNat,r.ks⟩)
def zcT (r:Rd)(x:Ev):Int×Rd:=if atE r.qs r.ks x.at_≠0 then (atE r.qs r.ks x.at_,zeroR) else (0,⟨r.ps,r.qs.eraseIdx x.at_.toNat,r.ks⟩)
def zcZ (r:Rd)(x:Ev):Int×Rd:=if WY r.qs r.ks x.at_≠0 then (WY r.qs r.ks x.at_,zeroR) else (0,⟨r.ps,r.qs++[atP r.qs r.ks x.at_],r.ks⟩)
def zcW (r:Rd)(x:Ev):Int×Rd:=
 if x.kind=1 then UY r x else if x.kind=2 then zaS r x else if x.kind=3 then zcN r x else if x.kind=4 then zcT r x else if x.kind=5 then zcZ r x else (1,zeroR)
def doF (r:Rd)(x:Ev):Int×Rd:=if zfA r≠0 then (zfA r,zeroR) else zcW r x
def Y9 (x:Ev):Ev:={x with note:=Yx x.note}
structure RmP (I:Qv)(pa:Option Addr)(pn pc:Nat)(qa:Option Addr)(qn qc:Nat)(aa:Option Addr)(an ac:Nat)(ps:List Pe)(qs:List Pk)(ks:List (Int×Int)):Prop where
 pe:Sl I 1 Xy pa pn pc ps
 nt:∀ x∈ps,UV I x.a x.n x.c x.notes
 q:Sl I 3 ZK qa qn qc qs
 pk:∀ x∈qs,PkM I x
 k:Sl I 2 Um aa an ac ks
variable{pa qa aa:Option Addr}{pn pc qn qc an ac:Nat}{qs:List Pk}{ks:List (Int×Int)}
theorem RmP.mono (h:RmP I pa pn pc qa qn qc aa an ac ps qs ks)(hI:HLe I I'):RmP I' pa pn pc qa qn qc aa an ac ps qs ks:=
 ⟨h.pe.mono hI,fun x hx=>(h.nt x hx).mono hI,h.q.mono hI,fun x hx=>(h.pk x hx).mono hI,h.k.mono hI⟩
def Jd (ps:List Pe)(qs:List Pk)(ks:List (Int×Int)):Rd:=⟨dtP ps,qs.map VR,ks⟩
def RmV (I:Qv)(v:Value)(r:Rd):Prop:=∃ pa pn pc qa qn qc aa an ac ps qs,v= .agg #[.slice pa pn pc,.slice qa qn qc,.slice aa an ac]∧RmP I pa pn pc qa qn qc aa an ac ps qs r.ks∧Jd ps qs r.ks=r
theorem znx {n:Nat}(h:UV I a n c xs):ZQ (xs.map Yx)=ZQ xs:=by
 have hf:∀ x∈xs,QO (Yx x)=QO x:=fun x hx=>JH (by
  have h1:Sl I 1 ZX x.pt.a x.pt.n x.pt.c x.pt.needs:=h.nd x hx
  exact h1.len.symm)
 have hb:∀ (pre:List Nt) (x:Nt),x∈xs→zcO (pre.map Yx) (Yx x)=zcO pre x:=fun pre x hx=>by
  unfold zcO;rw [hf x hx,List.getLast?_map]
  cases pre.getLast? with
  | none=>rfl
  | some y=>simp only [Option.map_some,zbi];rfl
 have hg:∀ (ys pre:List Nt),(∀ y∈ys,y∈xs)→zbT (pre.map Yx) (ys.map Yx)=zbT pre ys:=by
  intro ys
  induction ys with
  | nil=>intro pre _;rfl
  | cons y ys ih=>
   intro pre hys;rw [List.map_cons,zbT,zbT,hb pre y (hys y (List.mem_cons_self ..)),←ih (pre++[y]) (fun z hz=>hys z (List.mem_cons_of_mem _ hz))];simp
 unfold ZQ;rw [←hg xs [] (fun _ h=>h)];simp
variable{β:Type}{q:α→Bool}{f:α→β}
theorem zgR {p:β→Bool}{xs:List α}(h:∀ x∈xs,p (f x)=q x):(xs.map f).any p=xs.any q:=by
 rw [List.any_map];exact zii h
theorem zls (h:PkM I p):pkV (VR p)=pkV p:=by
 have:=h.sl.len;unfold pkV VR;simp only [this]
theorem Xs (h:∀ x∈qs,PkM I x)(ks:List (Int×Int)):UZ (qs.map VR) ks=UZ qs ks:=by
 unfold UZ;rw [zgR (q:=fun x=> !pkV x) (fun x hx=>by simp only [zls (h x hx)]),List.length_map]
theorem WS (h:∀ x∈qs,PkM I x)(ks:List (Int×Int))(i:Int):atE (qs.map VR) ks i=atE qs ks i:=by
 unfold atE;rw [Xs h,List.length_map]
theorem zhj (h:∀ x∈qs,PkM I x)(ks:List (Int×Int))(i:Int):atP (qs.map VR) ks i=VR (atP qs ks i):=by
 unfold atP;rw [WS h];split
 ·
  rw [List.getD_eq_getElem?_getD,List.getD_eq_getElem?_getD,List.getElem?_map];cases qs[i.toNat]? <;>rfl
 ·
  rfl
theorem ziZ (h:∀ x∈qs,PkM I x)(ks:List (Int×Int))(i:Int):JE (qs.map VR) ks i=VR (JE qs ks i):=by
 unfold JE;rw [zhj h];have e:zrE ks (VR (atP qs ks i))=zrE ks (atP qs ks i):=rfl;rw [e];split<;>rfl
theorem zij :PkM I zcD:=⟨.nil,fun _ h=>by cases h⟩
theorem zrW (h:∀ x∈qs,PkM I x)(ks:List (Int×Int))(i:Int):PkM I (atP qs ks i):=by
 unfold atP;split
 ·
  rw [List.getD_eq_getElem?_getD]
  cases hx:qs[i.toNat]? with
  | none=>exact zij
  | some x=>exact h x (List.mem_of_getElem? hx)
 ·
  exact zij
theorem zgt (h:∀ x∈qs,PkM I x)(ks:List (Int×Int))(hp:PkM I p):UX (qs.map VR) ks (VR p)=UX qs ks p:=by
 unfold UX;rw [Xs h,zls hp,List.length_map]
theorem ziI (h:∀ x∈qs,PkM I x)(ks:List (Int×Int))(i:Int):WY (qs.map VR) ks i=WY qs ks i:=by
 unfold WY;rw [WS h,zhj h,zgt h _ (zrW h ks i)]
theorem XP (f:α→β):∀ (l:List α) (j:Nat),(l.map f).eraseIdx j=(l.eraseIdx j).map f
 | [],_=>rfl
 | _::_,0=>rfl
 | x::l,j+1=>by simp [XP f l j]
structure NtW (x:Nt):Prop where
 ints:∀ y∈Y3 x, -9223372036854775808≤y∧y≤9223372036854775807
 needs:∀ y∈x.pt.needs, -9223372036854775808≤y∧y≤9223372036854775807
theorem zqf {xs:List S.Rt}{x:S.Rt}:∀ {bs:List (Int×S.Rt)} {last:Int},S.rGo (xs++[x]) bs last=0→∃ bs' last',S.rBad x bs' last'=false:=by
 induction xs with
 | nil=>
  intro bs last h;simp only [List.nil_append,S.rGo] at h;split at h
  ·
   cases h
  ·
   rename_i hb;exact ⟨bs,last,by simpa using hb⟩
 | cons y ys ih=>
  intro bs last h;simp only [List.cons_append,S.rGo] at h;split at h
  ·
   cases h
  ·
   exact ih h
theorem zqg {x:S.Rt}(h:S.rCheck (rtC x)=0):x.name.size≤32∧x.town.size≤32:=by
 obtain ⟨xs,hxs⟩:∃ xs,rtC x=xs++[x]:=by
  unfold rtC;split
  ·
   exact ⟨[],rfl⟩
  ·
   exact ⟨[_],rfl⟩
 rw [hxs] at h;unfold S.rCheck at h;split at h
 ·
  cases h
 ·
  obtain ⟨bs,last,hb⟩:=zqf h;unfold S.rBad at hb;simp only [Bool.or_eq_false_iff,Bool.not_eq_false'] at hb;have ha:=hb.2
  have hheld:S.heldF x=true→x.name.size≤32∧x.town.size≤32:=fun h=>by
   unfold S.heldF at h;simp only [Bool.and_eq_true] at h;have e:=S.rtEq_iff.1 h.1.1.1;have e1:x.name=⟨#[]⟩:=congrArg S.Rt.name e;have e2:x.town=⟨#[]⟩:=congrArg S.Rt.town e;rw [e1,e2];exact ⟨by decide,by decide⟩
  unfold S.askF at ha;split at ha
  ·
   unfold S.billF S.within at ha;simp only [Bool.and_eq_true,decide_eq_true_eq] at ha;omega
  ·
   split at ha
   ·
    exact hheld ha
   ·
    split at ha
    ·
     exact hheld ha
    ·
     unfold S.voidF at ha;split at ha
     ·
      cases ha
     ·
      simp only [Bool.and_eq_true] at ha;have e:=S.rtEq_iff.1 ha.2;have e1:x.name=⟨#[]⟩:=congrArg S.Rt.name e;have e2:x.town=⟨#[]⟩:=congrArg S.Rt.town e;rw [e1,e2];exact ⟨by decide,by decide⟩
variable{x:Nt}
theorem zao (hl:x.pt.needs.length=x.pt.n)(h:QO x=true):x.pt.needs.length≤32∧x.rt.name.size≤32∧x.rt.town.size≤32:=by
 unfold QO at h;simp only [Bool.and_eq_true,beq_iff_eq] at h;obtain ⟨h1,h2⟩:=h;unfold zaP at h2;simp only [Bool.and_eq_true,Bool.or_eq_true,beq_iff_eq] at h2;obtain ⟨⟨⟨_,h3⟩,_⟩,h5⟩:=h2;constructor
 ·
  rcases h3 with hk | hz
  ·
   unfold WV at h1;rw [if_neg kB,if_pos hk] at h1;unfold KJ at h1;split at h1
   ·
    cases h1
   ·
    omega
  ·
   unfold z2 at hz;simp only [Bool.and_eq_true,beq_iff_eq] at hz;omega
 ·
  rcases h5 with hk | hz
  ·
   unfold WV at h1;rw [if_neg kB,if_neg kB,if_neg kB,if_pos hk] at h1;exact zqg h1
  ·
   have e:=S.rtEq_iff.1 hz;rw [e];exact ⟨by decide,by decide⟩
theorem ze0:∀ {l:List Va},(∀ v∈l,Va.ok v)→Va.okL l
 | [],_=>trivial
 | x::_l,h=>⟨h x (List.mem_cons_self ..),ze0 fun v hv=>h v (List.mem_cons_of_mem _ hv)⟩
theorem Us {b:Nat}:∀ {l:List Va},(∀ v∈l,(Va.enc v).length≤b)→(Va.encL l).length≤l.length*b
 | [],_=>by simp [Va.encL]
 | x::l,h=>by
  have h1:=h x (List.mem_cons_self ..);have h2:=Us (l:=l) fun v hv=>h v (List.mem_cons_of_mem _ hv);simp only [Va.encL,List.length_append,List.length_cons,Nat.succ_mul];omega
variable{n:Int}
theorem UN (h: -9223372036854775808≤n∧n≤9223372036854775807):(Va.enc (.int n)).length≤11:=by
 have:=UJ (zoq h);simp only [Va.enc,List.length_cons];omega
theorem JJ (s:ByteArray):(Ug s).length=s.size:=by
 unfold Ug;rw [List.length_map,Array.length_toList];rfl
theorem zd3 (s:ByteArray):∀ c∈Ug s,c<256:=by
 intro c hc;unfold Ug at hc;obtain ⟨u,_,rfl⟩:=List.mem_map.1 hc;exact u.toNat_lt
variable{s:List Nat}
theorem K4 (h:s.length≤32):(Va.enc (.text s)).length≤34:=by
 rw [Va.enc,Vv kB];simp only [List.length_cons,List.length_append,List.length_nil];omega
theorem zi2 (hw:NtW x)(hl:x.pt.needs.length=x.pt.n)(h:QO x=true):Va.ok (KU x)∧(Jw x).length≤2000:=by
 obtain ⟨s1,s2,s3⟩:=zao hl h
 have hok:∀ v∈(Y3 x).map Va.int,Va.ok v:=fun v hv=>by
  obtain ⟨y,hy,rfl⟩:=List.mem_map.1 hv;exact hw.ints y hy
 have hon:∀ v∈x.pt.needs.map Va.int,Va.ok v:=fun v hv=>by
  obtain ⟨y,hy,rfl⟩:=List.mem_map.1 hv;exact hw.needs y hy
 have hb:(Va.encL ((Y3 x).map Va.int)).length≤462:=by
  have:=Us (b:=11) (l:=(Y3 x).map Va.int) fun v hv=>by
   obtain ⟨y,hy,rfl⟩:=List.mem_map.1 hv;exact UN (hw.ints y hy)
  rw [List.length_map,Y1] at this;omega
 have hn:(Va.encL (x.pt.needs.map Va.int)).length≤352:=by
  have:=Us (b:=11) (l:=x.pt.needs.map Va.int) fun v hv=>by
   obtain ⟨y,hy,rfl⟩:=List.mem_map.1 hv;exact UN (hw.needs y hy)
  rw [List.length_map] at this;have h2:=Nat.mul_le_mul_right 11 s1;omega
 constructor
 ·
  refine ⟨by simp [Y1],ze0 fun v hv=>?_⟩;rw [List.mem_append] at hv;rcases hv with hv | hv
  ·
   exact hok v hv
  ·
   simp only [List.mem_cons,List.not_mem_nil,or_false] at hv;rcases hv with rfl | rfl | rfl
   ·
    exact ⟨by rw [List.length_map];omega,ze0 hon⟩
   ·
    exact ⟨zd3 _,by rw [JJ];omega⟩
   ·
    exact ⟨zd3 _,by rw [JJ];omega⟩
 ·
  have e1:=K4 (s:=Ug x.rt.name) (by rw [JJ];exact s2);have e2:=K4 (s:=Ug x.rt.town) (by rw [JJ];exact s3)
  have e3:(Va.enc (.list (x.pt.needs.map Va.int))).length≤354:=by
   rw [Va.enc,List.length_map,Vv kB];simp only [List.length_cons,List.length_append,List.length_nil];omega
  unfold Jw KU;rw [Va.enc,Vv (by simp [Y1])];simp only [List.length_cons,List.length_append,List.length_nil,Va.encL_append,Va.encL];omega
theorem zgh (hw:NtW x)(hN:Nd I x.pt)(h:QO x=true):NtM I x:=by
 have hl:Sl I 1 ZX x.pt.a x.pt.n x.pt.c x.pt.needs:=hN;obtain ⟨h1,h2⟩:=zi2 hw hl.len h;have:=(zao hl.len h).1;have:=hl.len;exact ⟨hN,kB,h1,kB⟩
theorem zAc (hok:Va.ok (KU x))(h:QO (Yx x)=true):okN (Jw x)=some (Yx x):=by
 have d:=zdO (KU x) (d:=16) (r:=[]) hok (JP x);rw [List.append_nil] at d;unfold okN zaf;show (match Ku 16 (Va.enc (KU x)) with | some (x,[])=>some x | _=>none).bind _=_;rw [d];simp only [Option.bind_some];rw [zg3,Option.bind_some,if_pos h]
def TkN (t:Nt):Prop:=Va.ok (KU t)∧QO (Yx t)=true∧(Jw t).length≤2000
structure PkG (m:Nat)(told:List Nt)(p:Pk):Prop where
 frm:0≤p.frm∧p.frm<(m:Int)
 to_:0≤p.to_∧p.to_<(m:Int)
 ne:p.frm≠p.to_
 n:p.n=p.data.length
 data:∃ t∈told,p.data=Jw t
structure Kn (m:Nat)(r:Rd)(told:List Nt):Prop where
 m0:1≤m∧m≤24
 len:r.ps.length=m
 ks:r.ks=[]
 val:∀ xs∈r.ps,ZQ xs=true
 mem:∀ xs∈r.ps,∀ y∈xs,∃ t∈told,Yx t=y
 pk:∀ p∈r.qs,PkG m told p
 tok:∀ t∈told,TkN t
theorem zd5 (h:TkN t):okN (Jw t)=some (Yx t):=zAc h.1 h.2.1
variable{m:Nat}{told:List Nt}
theorem PkG.read (h:PkG m told p)(ht:∀ t∈told,TkN t):∃ t∈told,okN p.data=some (Yx t):=by
 obtain ⟨t,h1,h2⟩:=h.data;exact ⟨t,h1,by rw [h2];exact zd5 (ht t h1)⟩
theorem PkG.more (h:PkG m told p)(l:List Nt):PkG m (told++l) p:=
 ⟨h.frm,h.to_,h.ne,h.n,let ⟨t,h1,h2⟩:=h.data;⟨t,List.mem_append_left _ h1,h2⟩⟩
theorem PkG.ok (h:PkG m told p)(hm:m≤24)(ht:∀ t∈told,TkN t):pkV p=true:=by
 obtain ⟨t,h1,h2⟩:=h.data;have h3:=(ht t h1).2.2;have h4:=h.n;have h5:=h.frm;have h6:=h.to_;have h7:=h.ne;rw [h2] at h4;unfold pkV lkV zr9 zgq;simp only [Bool.and_eq_true,decide_eq_true_eq];split<;>split<;>omega
theorem zrx (hl:qs.length≤4096)(h:∀ p∈qs,pkV p=true):UZ qs []=0:=by
 refine zoV ?_ (fun j y hj=>by simp at hj);rw [Bool.or_eq_false_iff];refine ⟨by simp only [decide_eq_false_iff_not];omega,?_⟩;rw [List.any_eq_false];intro p hp;simp [h p hp]
variable{r:Rd}
theorem Kn.net (h:Kn m r told)(hq:r.qs.length≤4096):UZ r.qs r.ks=0:=by
 rw [h.ks];exact zrx hq fun p hp=>(h.pk p hp).ok h.m0.2 h.tok
theorem Kn.chk (h:Kn m r told)(hq:r.qs.length≤4096):zfA r=0:=by
 have hm:=h.m0;have hl:=h.len;unfold zfA;rw [if_neg,if_neg,if_neg]
 ·
  rw [Bool.not_eq_true,List.any_eq_false];intro p hp;obtain ⟨t,h1,h2⟩:=(h.pk p hp).read h.tok;have h3:=(h.pk p hp).frm;have h4:=(h.pk p hp).to_;have h5:zgq p.frm p.to_<(m:Int):=(by unfold zgq;split<;>omega);unfold U5;rw [h2,hl];simp only [Option.isSome_some,Bool.not_true,Bool.false_or,decide_eq_true_eq];omega
 ·
  rw [Bool.not_eq_true,List.any_eq_false];intro xs hx;simp [h.val xs hx]
 ·
  rw [h.net hq];simp;omega
variable{ys:List Nt}
/-! ### Learning -/
theorem zpy (h:zo2 xs t=some ys):(∀ y∈ys,y∈xs∨y=t)∧(∀ y∈xs,y∈ys)∧ys.length≤xs.length+1:=by
 unfold zo2 at h;split at h
 ·
  cases h;exact ⟨fun y hy=>.inl hy,fun y hy=>hy,kB⟩
 ·
  split at h
  ·
   cases h;exact ⟨fun y hy=>(zam.1 hy).symm,fun y hy=>zam.2 (.inr hy),by rw [zgX];omega⟩
  ·
   cases h
theorem zjJ (h:zo2 xs t=some ys)(hv:ZQ xs=true)(ht:QO t=true):ZQ ys=true:=by
 unfold zo2 at h;split at h
 ·
  cases h;exact hv
 ·
  rename_i hh;split at h
  ·
   cases h;obtain ⟨v1,v2,v3⟩:=Kf hv;refine Xj (znl v1 (by simpa using hh)) (fun x hx=>?_) (by rw [zgX];omega);rcases zam.1 hx with rfl | hx
   ·
    exact ht
   ·
    exact v2 x hx
  ·
   cases h
variable{P P':List (List Nt)}
theorem znz (h:zcP P i t=some P'):∃ xs ys,P[i]? =some xs∧zo2 xs t=some ys∧P'=P.set i ys:=by
 unfold zcP at h
 cases hx:P[i]? with
 | none=>rw [hx] at h;cases h
 | some xs=>
  rw [hx,Option.bind_some] at h
  cases hy:zo2 xs t with
  | none=>rw [hy] at h;cases h
  | some ys=>rw [hy] at h;cases h;exact ⟨xs,ys,rfl,hy,rfl⟩
def Grow (P P':List (List Nt)):Prop:=∀ (i:Nat) (xs ys:List Nt),P[i]? =some xs→P'[i]? =some ys→∀ y∈xs,y∈ys
theorem XW (P:List (List Nt)):Grow P P:=fun i xs ys h1 h2 y hy=>by rw [h1] at h2;cases h2;exact hy
theorem zmK (h:zcP P i (Yx t)=some P')(ht:t∈told)(hf:QO (Yx t)=true)(hv:∀ xs∈P,ZQ xs=true)(hm:∀ xs∈P,∀ y∈xs,∃ t∈told,Yx t=y):
  P'.length=P.length∧(∀ xs∈P',ZQ xs=true)∧(∀ xs∈P',∀ y∈xs,∃ t∈told,Yx t=y)∧Grow P P':=by
 obtain ⟨xs,ys,h1,h2,rfl⟩:=znz h;have hx:=List.mem_of_getElem? h1;obtain ⟨m1,m2,_⟩:=zpy h2;refine ⟨by simp,fun zs hz=>?_,fun zs hz y hy=>?_,fun j us vs hu hw y hy=>?_⟩
 ·
  rcases List.mem_or_eq_of_mem_set hz with hz | rfl
  ·
   exact hv zs hz
  ·
   exact zjJ h2 (hv xs hx) hf
 ·
  rcases List.mem_or_eq_of_mem_set hz with hz | rfl
  ·
   exact hm zs hz y hy
  ·
   rcases m1 y hy with hy | rfl
   ·
    exact hm xs hx y hy
   ·
    exact ⟨t,ht,rfl⟩
 ·
  rw [List.getElem?_set] at hw;split at hw
  ·
   rename_i e;subst e;rw [h1] at hu;cases hu;split at hw
   ·
    cases hw;exact m2 y hy
   ·
    cases hw
  ·
   rw [hu] at hw;cases hw;exact hy
theorem Kn.more (h:Kn m r told)(ht:TkN t):Kn m r (told++[t]):=
 ⟨h.m0,h.len,h.ks,h.val,fun xs hx y hy=>let ⟨u,h1,h2⟩:=h.mem xs hx y hy;⟨u,List.mem_append_left _ h1,h2⟩,fun p hp=>(h.pk p hp).more _,fun u hu=>by
  rcases List.mem_append.1 hu with hu | hu
  ·
   exact h.tok u hu
  ·
   rw [List.mem_singleton] at hu;subst hu;exact ht⟩
/-! ### Events -/
theorem ziM {i:Int}(h:p∈KI m i t):∃ k:Nat,k<m∧(k:Int)≠i∧p=pkN i k t:=by
 unfold KI at h;obtain ⟨k,hk,rfl⟩:=List.mem_map.1 h;rw [List.mem_filter,List.mem_range] at hk;exact ⟨k,hk.1,by simpa using hk.2,rfl⟩
theorem zjr (m:Nat)(i:Int)(t:Nt):(KI m i t).length≤m:=by
 unfold KI;rw [List.length_map];exact Nat.le_trans (List.length_filter_le ..) kJ
variable{u:Nt}
theorem zh9 {i k:Int}(hi:0≤i∧i<(m:Int))(hk:0≤k∧k<(m:Int))(hne:i≠k)(hu:u∈told)(e:Yx u=Yx t):PkG m told (pkN i k t):=
 ⟨hi,hk,hne,rfl,u,hu,by
  show Jw t=Jw u;have e2:KU t=KU u:=by rw [←ziW t,←e,ziW]
  unfold Jw;rw [e2]⟩
theorem zgE {i:Int}:isP r i=true↔0≤i∧i<(r.ps.length:Int):=by simp [isP]
theorem zha {i:Int}(h:atE qs ks i=0):atP qs ks i∈qs:=by
 have hr:=zeQ h;unfold atP;rw [if_pos h,List.getD_eq_getElem?_getD,List.getElem?_eq_getElem kB,Option.getD_some];exact List.getElem_mem _
theorem ziB {i:Int}:JE qs [] i=atP qs [] i:=if_neg (by simp [zrE])
theorem Kn.step {r':Rd}{x:Ev}(h:Kn m r told)(hq:r.qs.length≤4096)(hx:x.kind=1→QO (Yx x.note)=true→TkN x.note)(hd:doF r (Y9 x)=(0,r')):
  Kn m r' (if x.kind=1 then told++[x.note] else told)∧Grow r.ps r'.ps∧r'.qs.length≤r.qs.length+max m (max 1 ((r.ps.map List.length).foldl max 0)):=by
 have hc:=h.chk hq;unfold doF at hd;rw [if_neg (by rw [hc];simp)] at hd;unfold zcW at hd
 have hmx:∀ (l:List Nat) (a:Nat),a≤l.foldl max a∧∀ b∈l,b≤l.foldl max a:=by
  intro l
  induction l with
  | nil=>intro a;exact ⟨Nat.le_refl _,fun b hb=>by cases hb⟩
  | cons c l ih=>
   intro a;rw [List.foldl_cons];obtain ⟨h1,h2⟩:=ih (max a c);refine ⟨kB,fun b hb=>?_⟩;rcases List.mem_cons.1 hb with rfl | hb
   ·
    omega
   ·
    exact h2 b hb
 split at hd
 ·
  -- told
  rename_i hk;have hk:x.kind=1:=hk;rw [if_pos hk];unfold UY at hd;split at hd
  ·
   rename_i hi;have hi:=zgE.1 hi;split at hd
   ·
    rename_i hf;have hf:QO (Yx x.note)=true:=hf;split at hd
    ·
     cases hd
    ·
     rename_i P hP;have hP:zcP r.ps x.peer.toNat (Yx x.note)=some P:=hP;cases hd;have ht:=hx hk hf;have h2:=h.more ht;obtain ⟨l1,l2,l3,l4⟩:=zmK hP (told:=told++[x.note]) kJ hf h2.val h2.mem;refine ⟨⟨h.m0,by rw [←h.len];exact l1,h.ks,l2,l3,fun p hp=>?_,h2.tok⟩,l4,?_⟩
     ·
      rcases List.mem_append.1 hp with hp | hp
      ·
       exact h2.pk p hp
      ·
       obtain ⟨k,hk,hne,rfl⟩:=ziM hp;rw [h.len] at hk hi;exact zh9 hi ⟨kB,kB⟩ (fun e=>hne e.symm) (u:=x.note) kJ rfl
     ·
      have:=zjr r.ps.length x.peer (Yx x.note);have hl:=h.len;show (r.qs++KI r.ps.length x.peer (Yx x.note)).length≤_;rw [List.length_append];omega
   ·
    cases hd
  ·
   cases hd
 ·
  rename_i hk;have hk:¬x.kind=1:=hk;rw [if_neg hk];split at hd
  ·
   unfold zaS at hd;split at hd
   ·
    rename_i hi;simp only [Bool.and_eq_true,zgE] at hi;obtain ⟨⟨i1,i2⟩,i3⟩:=hi;have i1:0≤x.peer∧x.peer<(r.ps.length:Int):=i1;have i2:0≤x.to_∧x.to_<(r.ps.length:Int):=i2;have i3:x.peer≠x.to_:=bne_iff_ne.1 i3;cases hd;obtain ⟨xs,hxs⟩:∃ xs,r.ps[x.peer.toNat]? =some xs:=⟨_,List.getElem?_eq_getElem kB⟩
    have e:r.ps.getD (Y9 x).peer.toNat []=xs:=by
     show r.ps.getD x.peer.toNat []=xs;rw [List.getD_eq_getElem?_getD,hxs];rfl
    have hm:=List.mem_of_getElem? hxs;simp only [e];refine ⟨⟨h.m0,h.len,h.ks,h.val,h.mem,fun p hp=>?_,h.tok⟩,XW _,?_⟩
    ·
     rcases List.mem_append.1 hp with hp | hp
     ·
      exact h.pk p hp
     ·
      obtain ⟨y,hy,rfl⟩:=List.mem_map.1 hp;obtain ⟨t,ht,e⟩:=h.mem xs hm y hy;rw [h.len] at i1 i2;exact zh9 i1 i2 i3 ht (by rw [←e];rfl)
    ·
     rw [List.length_append,List.length_map];have:=(hmx (r.ps.map List.length) 0).2 xs.length (List.mem_map.2 ⟨xs,hm,rfl⟩);omega
   ·
    cases hd
  ·
   split at hd
   ·
    unfold zcN at hd;split at hd
    ·
     rename_i hz;exact absurd (congrArg Prod.fst hd) hz
    ·
     rename_i hz;have hz:atE r.qs r.ks x.at_=0:=Decidable.not_not.1 hz;have hmem:=zha hz;have hdl:JE r.qs r.ks x.at_=atP r.qs r.ks x.at_:=(by rw [h.ks];exact ziB);have hg:=h.pk _ hmem;have hle:(r.qs.eraseIdx x.at_.toNat).length≤r.qs.length:=(List.eraseIdx_sublist ..).length_le;have hsub:∀ p∈r.qs.eraseIdx x.at_.toNat,p∈r.qs:=fun p hp=>(List.eraseIdx_sublist ..).mem hp;split at hd
     ·
      cases hd;exact ⟨⟨h.m0,h.len,h.ks,h.val,h.mem,fun p hp=>h.pk p (hsub p hp),h.tok⟩,XW _,Nat.le_trans hle kB⟩
     ·
      split at hd
      ·
       cases hd
      ·
       rename_i P hP;cases hd;obtain ⟨t,ht,e⟩:=hg.read h.tok;have hP:(okN (JE r.qs r.ks x.at_).data).bind (zcP r.ps (JE r.qs r.ks x.at_).to_.toNat)=some P:=hP;rw [hdl,e,Option.bind_some] at hP;obtain ⟨l1,l2,l3,l4⟩:=zmK hP ht (h.tok t ht).2.1 h.val h.mem;exact ⟨⟨h.m0,by rw [←h.len];exact l1,h.ks,l2,l3,fun p hp=>h.pk p (hsub p hp),h.tok⟩,l4,Nat.le_trans hle kB⟩
   ·
    split at hd
    ·
     unfold zcT at hd;split at hd
     ·
      rename_i hz;exact absurd (congrArg Prod.fst hd) hz
     ·
      cases hd;have hle:(r.qs.eraseIdx x.at_.toNat).length≤r.qs.length:=(List.eraseIdx_sublist ..).length_le;exact ⟨⟨h.m0,h.len,h.ks,h.val,h.mem,fun p hp=>h.pk p ((List.eraseIdx_sublist ..).mem hp),h.tok⟩,XW _,Nat.le_trans hle kB⟩
    ·
     split at hd
     ·
      unfold zcZ at hd;split at hd
      ·
       rename_i hz;exact absurd (congrArg Prod.fst hd) hz
      ·
       rename_i hz;cases hd;have hz:WY r.qs r.ks x.at_=0:=Decidable.not_not.1 hz
       have ha:atE r.qs r.ks x.at_=0:=by
        unfold WY at hz;split at hz
        ·
         assumption
        ·
         exact hz
       refine ⟨⟨h.m0,h.len,h.ks,h.val,h.mem,fun p hp=>?_,h.tok⟩,XW _,?_⟩
       ·
        rcases List.mem_append.1 hp with hp | hp
        ·
         exact h.pk p hp
        ·
         rw [List.mem_singleton] at hp;subst hp;exact h.pk _ (zha ha)
       ·
        rw [List.length_append,List.length_singleton];omega
     ·
      cases hd
variable{bs:List Nat}{cs:List Value}{b:Bool}
theorem zet (h:zqZ bs I cs b)(hs:(okN bs).isSome=true):∃ x,b=true∧cs=Q7 x∧Nd I x.pt∧okN bs=some (Yx x):=by
 rcases h.2 with ⟨_,h2⟩ | ⟨h1,x,h2,h3,h4⟩
 ·
  rw [h2] at hs;cases hs
 ·
  exact ⟨x,h1,h2,h3,h4⟩
theorem zcv (hb:∀ c∈bs,c<256)(hn:bs.length≤100000)(h:okN bs=some (Yx x))(hN:Nd I x.pt):QO x=true:=by
 obtain ⟨_,_,h3⟩:=zih hb kB h;have hN2:Sl I 1 ZX x.pt.a x.pt.n x.pt.c x.pt.needs:=hN;rw [JH hN2.len.symm] at h3;exact h3
theorem zuz {i:Int}(he:atE qs ks i=0)(hne:(JE qs ks i).frm≠(JE qs ks i).to_):JE qs ks i∈qs:=by
 unfold JE at hne ⊢;split at hne
 ·
  exact absurd rfl hne
 ·
  rename_i h;rw [if_neg h];exact zha he
theorem zqs (h:U5 m p=false):(okN p.data).isSome=true∧p.frm<(m:Int)∧p.to_<(m:Int):=by
 unfold U5 at h;rw [Bool.or_eq_false_iff] at h;obtain ⟨h1,h2⟩:=h;refine ⟨by simpa using h1,?_⟩;simp only [decide_eq_false_iff_not] at h2;unfold zgq at h2;split at h2<;>omega
section
variable {I:Qv} {P:List (List Nt)} {qs:List Pk} {ks:List (Int×Int)} {x:Ev}
theorem zsW (hpk:∀ q∈qs,PkM I q)(ne:atE qs ks x.at_≠0):zcN ⟨P,qs.map VR,ks⟩ (Y9 x)=(atE qs ks x.at_,zeroR):=by
 unfold zcN;have e:atE (qs.map VR) ks (Y9 x).at_=atE qs ks x.at_:=WS hpk ks x.at_;simp only [e,if_pos ne]
theorem zs0 (hpk:∀ q∈qs,PkM I q)(he:atE qs ks x.at_=0)(h:(JE qs ks x.at_).frm=(JE qs ks x.at_).to_):zcN ⟨P,qs.map VR,ks⟩ (Y9 x)=(0,⟨P,(qs.eraseIdx x.at_.toNat).map VR,ks⟩):=by
 unfold zcN;have e:atE (qs.map VR) ks (Y9 x).at_=0:=(by rw [←he];exact WS hpk ks x.at_);have e2:JE (qs.map VR) ks (Y9 x).at_=VR (JE qs ks x.at_):=ziZ hpk ks x.at_;have e3:(VR (JE qs ks x.at_)).frm=(VR (JE qs ks x.at_)).to_:=h;simp only [e,e2,if_pos e3,ne_eq,not_true_eq_false,if_false];rw [XP];rfl
theorem zsX (hpk:∀ q∈qs,PkM I q)(he:atE qs ks x.at_=0)(h:(JE qs ks x.at_).frm≠(JE qs ks x.at_).to_){t:Nt}(hok:okN (JE qs ks x.at_).data=some t):zcN ⟨P,qs.map VR,ks⟩ (Y9 x)=(match zcP P (JE qs ks x.at_).to_.toNat t with
  | none=>(2,zeroR)
  | some P'=>(0,⟨P',(qs.eraseIdx x.at_.toNat).map VR,ks⟩)):=by
 unfold zcN;have e:atE (qs.map VR) ks (Y9 x).at_=0:=(by rw [←he];exact WS hpk ks x.at_);have e2:JE (qs.map VR) ks (Y9 x).at_=VR (JE qs ks x.at_):=ziZ hpk ks x.at_;have e3:¬(VR (JE qs ks x.at_)).frm=(VR (JE qs ks x.at_)).to_:=h;have e4:okN (VR (JE qs ks x.at_)).data=some t:=hok;simp only [e,e2,if_neg e3,ne_eq,not_true_eq_false,if_false,e4,Option.bind_some];have e5:(VR (JE qs ks x.at_)).to_=(JE qs ks x.at_).to_:=rfl;rw [e5,XP];rfl
theorem zl1 (hpk:∀ q∈qs,PkM I q)(he:atE qs ks x.at_=0)(h:(JE qs ks x.at_).frm≠(JE qs ks x.at_).to_){t:Nt}(hok:okN (JE qs ks x.at_).data=some t)(hl:zcP P (JE qs ks x.at_).to_.toNat t=none):zcN ⟨P,qs.map VR,ks⟩ (Y9 x)=(2,zeroR):=by
 rw [zsX hpk he h hok,hl]
theorem zmT (hpk:∀ q∈qs,PkM I q)(he:atE qs ks x.at_=0)(h:(JE qs ks x.at_).frm≠(JE qs ks x.at_).to_){t:Nt}(hok:okN (JE qs ks x.at_).data=some t){P':List (List Nt)}(hl:zcP P (JE qs ks x.at_).to_.toNat t=some P'):zcN ⟨P,qs.map VR,ks⟩ (Y9 x)=(0,⟨P',(qs.eraseIdx x.at_.toNat).map VR,ks⟩):=by
 rw [zsX hpk he h hok,hl]
end
variable{j:Nat}
theorem zca :∀ q∈l.eraseIdx j,q∈l:=fun _ hq=>(List.eraseIdx_sublist ..).mem hq
theorem zop:Fun Tryz.prog 109:=.of Tryz.func109 kA kA
theorem zb4:Fun Tryz.prog 113:=.of Tryz.func113 kA kA
theorem zlE:Fun Tryz.prog 62:=.of Tryz.func62 kA kA
variable{bc bp:Nat}
theorem zig {j:Int}(hj:j=(i:Int))(hP:zkq I cur ps)(hpl:ps.length=pn)(hi:i<pn)(hpn:pn≤100000)(hT:NtM I t)(ht:QO t=true):Uu Tryz.prog 109 [ZE bc,.int .i64 j,Kj t] I [(bc,.cells #[.slice (some ⟨bp,0,none⟩) pn pc,.slice qa qn qc,.slice aa an ac] 108 (0,0)),(bp,.cells (cur).toArray 59 (0,0))] (fun v I' L'=>v= .tuple #[]∧∃ cur' ps',L'=[(bc,.cells #[.slice (some ⟨bp,0,none⟩) pn pc,.slice qa qn qc,.slice aa an ac] 108 (0,0)),(bp,.cells (cur').toArray 59 (0,0))]∧zkq I' cur' ps'∧ps'.length=pn∧zcP (dtP ps) i (Yx t)=some (dtP ps')) (fun v=>v= .iface 50 (.int .i64 2)∧zcP (dtP ps) i (Yx t)=none):=by
 subst hj;obtain ⟨pe,hx⟩:∃ pe,ps[i]? =some pe:=⟨_,List.getElem?_eq_getElem kB⟩;have hm:=List.mem_of_getElem? hx;obtain ⟨v1,v2,v3⟩:=Kf (hP.ok pe hm);have hlen:=(hP.nt pe hm).sl.len;refine (zuS (hP.at_ i pe hx) hi hpn (hP.nt pe hm) v2 hT (v1.mono t) kB).mono (fun v I' L' hI ⟨hv,h⟩=>⟨hv,?_⟩) (fun v ⟨hv,hh,hn⟩=>⟨hv,zl9 hx hh kB⟩);rcases h with ⟨hh,rfl⟩ | ⟨hh,hl,a,c,rfl,hS⟩
 ·
  exact ⟨cur,ps,rfl,hP.mono hI,hpl,zpL hx hh⟩
 exact ⟨_,_,rfl,hP.lrn hI hx hT ht hh hl hS,by simpa using hpl,zp5 hx hh kB _ _ _⟩
theorem zou (hP:zkq I cur ps)(hpl:ps.length=pn)(hpn:pn≤100000)(hQ:Sl I 3 ZK qa qn qc qs)(hqn:qn≤100000)(hpk:∀ q∈qs,PkM I q)(hA:Sl I 2 Um aa an ac ks)(han:an≤100000)(x:Ev)(hg:∀ q∈qs,U5 pn q=false)(hdl:∀ q∈qs,q.n≤100000)(hz0:∀ q∈qs,0≤q.frm∧0≤q.to_):Uu Tryz.prog 48 [ZE bc,.agg (zfz x).toArray] I [(bc,.cells #[.slice (some ⟨bp,0,none⟩) pn pc,.slice qa qn qc,.slice aa an ac] 108 (0,0)),(bp,.cells (cur).toArray 59 (0,0))] (fun v I' L'=>v= .tuple #[]∧(zcN ⟨dtP ps,qs.map VR,ks⟩ (Y9 x)).1=0∧∃ cur' ps' a m c qs',L'=[(bc,.cells #[.slice (some ⟨bp,0,none⟩) pn pc,.slice a m c,.slice aa an ac] 108 (0,0)),(bp,.cells (cur').toArray 59 (0,0))]∧zkq I' cur' ps'∧ps'.length=pn∧Sl I' 3 ZK a m c qs'∧(∀ q∈qs',q∈qs)∧(zcN ⟨dtP ps,qs.map VR,ks⟩ (Y9 x)).2=⟨dtP ps',qs'.map VR,ks⟩) (fun v=>v= .iface 50 (.int .i64 (zcN ⟨dtP ps,qs.map VR,ks⟩ (Y9 x)).1)∧(zcN ⟨dtP ps,qs.map VR,ks⟩ (Y9 x)).1≠0):=by
 intro g H w hw;refine qe Tryz.func48 Tryz.ntmps48 hw ?_;have hIc:=zCA I;refine zR<|QQ rfl rfl rfl (fun b_3=>Qb<|QH .here (fun I1 hI1 hb1=>?_))
 have hP:=hP.mono hI1;have hQ:=hQ.mono hI1;have hA:=hA.mono hI1;have hIc:=hIc.trans hI1;have h3:=BxI.of hb1;refine Qc ?_;refine zY [(0,_)] (fun T L0 E I' loc'=>∃ (p4 p5:Nat) (pk:Pk) (a5:Option Addr) (m5 c5:Nat) (a6:Option Addr) (m6 c6:Nat),E=(4,ZE p4)::(5,ZE p5)::(6,.int .i64 (atE qs ks x.at_))::T∧HLe I1 I'∧[(bc,.cells #[.slice (some ⟨bp,0,none⟩) pn pc,.slice qa qn qc,.slice aa an ac] 108 (0,0)),(bp,.cells (cur).toArray 59 (0,0))]=loc'∧BxI I' p4 (.cells (ZK pk).toArray 99 (0,0))∧BxI I' p5 (.cells #[.slice a5 m5 c5,.slice a6 m6 c6] 26 (0,0))∧(atE qs ks x.at_=0→pk=JE qs ks x.at_)∧zkn I' (atE qs ks x.at_) a5 m5 c5 a6 m6 c6 (qs.eraseIdx x.at_.toNat) aa an ac) ?_ ?_
 ·
  have hKc1:=zCA I1;have hD:=zCA I1;refine QI I1 [(bc,.cells #[.slice (some ⟨bp,0,none⟩) pn pc,.slice qa qn qc,.slice aa an ac] 108 (0,0)),(bp,.cells (cur).toArray 59 (0,0))] mixed<|zT 0 rfl (Qe rfl) hD<|zT 1 rfl (QB rfl) hD<|zT 2 rfl (Qa rfl Yo) hD<|zT 3 rfl (Qa rfl Vb) hD<|zT 4 rfl (Qg rfl ZW (fun hg=>by exact Cells.s0 (vs:=[_,_]) rfl) rfl) hD<|zT 5 rfl (Qa rfl zeO) hD<|zT 6 rfl (Qd rfl Qn (fun hg=>by exact Qz.imm h3.out rfl)) hD ?_
  refine V0 7 12 13 rfl rfl rfl kA ?_ ?_ ?_
  ·
   refine zpc [_,_] rfl zb4 .nil (U3 hQ hqn hA han x.at_) ?_;rintro vv2 I2 L2 hI2 ⟨pk,a5,m5,c5,a6,m6,c6,rfl,rfl,hpe,hZ⟩;have hKc1:=hKc1.trans hI2;have hD:=hD.trans hI2;refine Qb<|zD hD<|zT 8 rfl (Qe rfl) hD<|zT 9 rfl (Q9 rfl rfl) hD<|zT 10 rfl (Q9 rfl rfl) hD<|zT 11 rfl (Q9 rfl rfl) hD ?_
   refine QS 12 13 rfl rfl kA ?_ ?_
   ·
    refine Qt zcS rfl rfl (fun b_4=>Qb<|zD hD<|qd 13 rfl<|Qt Wk rfl rfl (fun b_5=>Qb<|zD hD<|qd 14 rfl ?_));refine zh Ka ?_;refine QU (b:=b_4) (by repeat (first | exact Z3.here | apply Z3.there)) (fun I3 hI3 hb3=>?_);have hZ:=hZ.mono hI3;have hKc1:=hKc1.trans hI3;have hD:=hD.trans hI3;have h4:=BxI.of hb3;refine Qb<|zD hD<|qd 15 rfl ?_
    refine zh YB ?_;refine QU (b:=b_5) (by repeat (first | exact Z3.here | apply Z3.there)) (fun I4 hI4 hb4=>?_);have hZ:=hZ.mono hI4;have h4:=h4.mono hI4;have hKc1:=hKc1.trans hI4;have hD:=hD.trans hI4;have h5:=BxI.of hb4;exact Qb<|zD hD<|zT 16 rfl (Qy rfl) hD<|Qo kA<|zm (h:=⟨_,_,_,_,_,_,_,_,_,rfl,hKc1,rfl,h4,h5,hpe,hZ⟩)
   refine Qt Wk rfl rfl (fun b_5=>Qb<|zD hD<|qd 12 rfl<|Qt zcS rfl rfl (fun b_4=>Qb<|zD hD<|qd 14 rfl ?_));refine zh Ka ?_;refine QU (b:=b_4) (by repeat (first | exact Z3.here | apply Z3.there)) (fun I5 hI5 hb5=>?_);have hZ:=hZ.mono hI5;have hKc1:=hKc1.trans hI5;have hD:=hD.trans hI5;have h4:=BxI.of hb5;refine Qb<|zD hD<|qd 15 rfl ?_
   refine zh YB ?_;refine QU (b:=b_5) (by repeat (first | exact Z3.here | apply Z3.there)) (fun I6 hI6 hb6=>?_);have hZ:=hZ.mono hI6;have h4:=h4.mono hI6;have hKc1:=hKc1.trans hI6;have hD:=hD.trans hI6;have h5:=BxI.of hb6;exact Qb<|zD hD<|zT 16 rfl (Qy rfl) hD<|Qo kA<|zm (h:=⟨_,_,_,_,_,_,_,_,_,rfl,hKc1,rfl,h4,h5,hpe,hZ⟩)
  ·
   refine Qt zcS rfl rfl (fun b_4=>Qb<|zD hD ?_);refine QS 7 13 rfl rfl kA ?_ ?_
   ·
    refine zpc [_,_] rfl zb4 .nil (U3 hQ hqn hA han x.at_) ?_;rintro vv7 I7 L7 hI7 ⟨pk,a5,m5,c5,a6,m6,c6,rfl,rfl,hpe,hZ⟩;have hKc1:=hKc1.trans hI7;have hD:=hD.trans hI7;refine Qb<|zD hD<|zT 8 rfl (Qe rfl) hD<|zT 9 rfl (Q9 rfl rfl) hD<|zT 10 rfl (Q9 rfl rfl) hD<|zT 11 rfl (Q9 rfl rfl) hD<|qd 13 rfl<|Qt Wk rfl rfl (fun b_5=>Qb<|zD hD<|qd 14 rfl ?_)
    refine zh Ka ?_;refine QU (b:=b_4) (by repeat (first | exact Z3.here | apply Z3.there)) (fun I8 hI8 hb8=>?_);have hZ:=hZ.mono hI8;have hKc1:=hKc1.trans hI8;have hD:=hD.trans hI8;have h4:=BxI.of hb8;refine Qb<|zD hD<|qd 15 rfl ?_
    refine zh YB ?_;refine QU (b:=b_5) (by repeat (first | exact Z3.here | apply Z3.there)) (fun I9 hI9 hb9=>?_);have hZ:=hZ.mono hI9;have h4:=h4.mono hI9;have hKc1:=hKc1.trans hI9;have hD:=hD.trans hI9;have h5:=BxI.of hb9;exact Qb<|zD hD<|zT 16 rfl (Qy rfl) hD<|Qo kA<|zm (h:=⟨_,_,_,_,_,_,_,_,_,rfl,hKc1,rfl,h4,h5,hpe,hZ⟩)
   refine Qt Wk rfl rfl (fun b_5=>Qb<|zD hD<|qd 7 rfl<|zpc [_,_] rfl zb4 .nil (U3 hQ hqn hA han x.at_) ?_);rintro vv10 I10 L10 hI10 ⟨pk,a5,m5,c5,a6,m6,c6,rfl,rfl,hpe,hZ⟩;have hKc1:=hKc1.trans hI10;have hD:=hD.trans hI10;refine Qb<|zD hD<|zT 8 rfl (Qe rfl) hD<|zT 9 rfl (Q9 rfl rfl) hD<|zT 10 rfl (Q9 rfl rfl) hD<|zT 11 rfl (Q9 rfl rfl) hD<|qd 14 rfl ?_
   refine zh Ka ?_;refine QU (b:=b_4) (by repeat (first | exact Z3.here | apply Z3.there)) (fun I11 hI11 hb11=>?_);have hZ:=hZ.mono hI11;have hKc1:=hKc1.trans hI11;have hD:=hD.trans hI11;have h4:=BxI.of hb11;refine Qb<|zD hD<|qd 15 rfl ?_
   refine zh YB ?_;refine QU (b:=b_5) (by repeat (first | exact Z3.here | apply Z3.there)) (fun I12 hI12 hb12=>?_);have hZ:=hZ.mono hI12;have h4:=h4.mono hI12;have hKc1:=hKc1.trans hI12;have hD:=hD.trans hI12;have h5:=BxI.of hb12;exact Qb<|zD hD<|zT 16 rfl (Qy rfl) hD<|Qo kA<|zm (h:=⟨_,_,_,_,_,_,_,_,_,rfl,hKc1,rfl,h4,h5,hpe,hZ⟩)
  refine Qt Wk rfl rfl (fun b_5=>Qb<|zD hD ?_);refine QS 7 12 rfl rfl kA ?_ ?_
  ·
   refine zpc [_,_] rfl zb4 .nil (U3 hQ hqn hA han x.at_) ?_;rintro vv13 I13 L13 hI13 ⟨pk,a5,m5,c5,a6,m6,c6,rfl,rfl,hpe,hZ⟩;have hKc1:=hKc1.trans hI13;have hD:=hD.trans hI13;refine Qb<|zD hD<|zT 8 rfl (Qe rfl) hD<|zT 9 rfl (Q9 rfl rfl) hD<|zT 10 rfl (Q9 rfl rfl) hD<|zT 11 rfl (Q9 rfl rfl) hD<|qd 12 rfl<|Qt zcS rfl rfl (fun b_4=>Qb<|zD hD<|qd 14 rfl ?_)
   refine zh Ka ?_;refine QU (b:=b_4) (by repeat (first | exact Z3.here | apply Z3.there)) (fun I14 hI14 hb14=>?_);have hZ:=hZ.mono hI14;have hKc1:=hKc1.trans hI14;have hD:=hD.trans hI14;have h4:=BxI.of hb14;refine Qb<|zD hD<|qd 15 rfl ?_
   refine zh YB ?_;refine QU (b:=b_5) (by repeat (first | exact Z3.here | apply Z3.there)) (fun I15 hI15 hb15=>?_);have hZ:=hZ.mono hI15;have h4:=h4.mono hI15;have hKc1:=hKc1.trans hI15;have hD:=hD.trans hI15;have h5:=BxI.of hb15;exact Qb<|zD hD<|zT 16 rfl (Qy rfl) hD<|Qo kA<|zm (h:=⟨_,_,_,_,_,_,_,_,_,rfl,hKc1,rfl,h4,h5,hpe,hZ⟩)
  refine Qt zcS rfl rfl (fun b_4=>Qb<|zD hD<|qd 7 rfl<|zpc [_,_] rfl zb4 .nil (U3 hQ hqn hA han x.at_) ?_);rintro vv16 I16 L16 hI16 ⟨pk,a5,m5,c5,a6,m6,c6,rfl,rfl,hpe,hZ⟩;have hKc1:=hKc1.trans hI16;have hD:=hD.trans hI16;refine Qb<|zD hD<|zT 8 rfl (Qe rfl) hD<|zT 9 rfl (Q9 rfl rfl) hD<|zT 10 rfl (Q9 rfl rfl) hD<|zT 11 rfl (Q9 rfl rfl) hD<|qd 14 rfl ?_
  refine zh Ka ?_;refine QU (b:=b_4) (by repeat (first | exact Z3.here | apply Z3.there)) (fun I17 hI17 hb17=>?_);have hZ:=hZ.mono hI17;have hKc1:=hKc1.trans hI17;have hD:=hD.trans hI17;have h4:=BxI.of hb17;refine Qb<|zD hD<|qd 15 rfl ?_
  refine zh YB ?_;refine QU (b:=b_5) (by repeat (first | exact Z3.here | apply Z3.there)) (fun I18 hI18 hb18=>?_);have hZ:=hZ.mono hI18;have h4:=h4.mono hI18;have hKc1:=hKc1.trans hI18;have hD:=hD.trans hI18;have h5:=BxI.of hb18;exact Qb<|zD hD<|zT 16 rfl (Qy rfl) hD<|Qo kA<|zm (h:=⟨_,_,_,_,_,_,_,_,_,rfl,hKc1,rfl,h4,h5,hpe,hZ⟩)
 rintro E J19 loc' ⟨p4,p5,pk,a5,m5,c5,a6,m6,c6,rfl,hJ,rfl,h4,h5,hpe,hZ⟩;have hP:=hP.mono hJ;have hIc:=hIc.trans hJ;refine zR (zM<|zC<|zM ?_);refine zx5 [_,_] rfl KN .nil (Wd J19 (atE qs ks x.at_==0) (atE qs ks x.at_)) ?_ (fun pv hpv=>by refine zx6 ?_;exact (have hn9:atE qs ks x.at_≠0:=(by simpa using hpv.2);⟨by rw [zsW hpk hn9];exact hpv.1,by rw [zsW hpk hn9];exact hn9⟩));rintro vv20 I20 L20 hI20 ⟨rfl,rfl,rfl,hok⟩;have hP:=hP.mono hI20;have h4:=h4.mono hI20;have h5:=h5.mono hI20;have hZ:=hZ.mono hI20;have hIc:=hIc.trans hI20;have he:atE qs ks x.at_=0:=(by simpa using hok);obtain ⟨rfl,rfl,rfl,hS9⟩:=hZ.ok he;obtain rfl:=hpe he;refine zN (zR ?_);refine zM<|zV (Qg rfl ZW (fun hg=>by exact BxI.cells (vs:=[_,_]) h5) rfl)<|zV (QB rfl) ?_
 refine zF Yo<|zF Vb ?_
 refine Yu rfl rfl YB rfl rfl rfl rfl (by repeat (first | exact Upd.here | apply Upd.there | apply ZC))<|zN (zR ?_)
 refine zF zbg ?_;refine zV (Qd rfl Qn (fun hg=>by exact Qz.imm h4.out rfl))<|zF XU ?_
 refine zV (Qd rfl Qn (fun hg=>by exact Qz.imm h4.out rfl))<|zC (zN ?_)
 refine zI ?_ ?_<;>intro hc34
 ·
  have hne:(JE qs ks x.at_).frm≠(JE qs ks x.at_).to_:=(by simpa using hc34);have hin:=zuz he hne;have hPk:=(hpk _ hin).mono hIc;have hdn:=hdl _ hin;obtain ⟨hsm,_,hto9⟩:=zqs (hg _ hin);have hz9:=(hz0 _ hin).2;have hto:(JE qs ks x.at_).to_.toNat<pn:=kB;have hti:(JE qs ks x.at_).to_=(((JE qs ks x.at_).to_.toNat:Nat):Int):=(Int.toNat_of_nonneg hz9).symm;refine zR<|zF zbv ?_
  refine zV (Qd rfl Jm (fun hg=>by exact Qz.imm h4.out rfl))<|zpc [_] rfl zlE .nil (zoI hPk.sl hPk.byte hdn) ?_
  rintro vv21 I21 L21 hI21 ⟨rfl,cs,bb,rfl,hrd⟩;have hP:=hP.mono hI21;have h4:=h4.mono hI21;have hS9:=hS9.mono hI21;have hIc:=hIc.trans hI21;obtain ⟨t9,rfl,rfl,hNd9,hok9⟩:=zet hrd hsm;have hPk:=hPk.mono hI21;have hTM:=zdU hPk.byte (by have h:=hPk.sl.len;omega) hok9 hNd9;have hTf:=zcv hPk.byte (by have h:=hPk.sl.len;omega) hok9 hNd9;refine zM ?_;refine zE ?_;refine zE ?_;refine Qt UW rfl rfl (fun b_7=>zh Vk<|zA (zN (Qh<|zM<|zF XU ?_)));refine zV (Qd rfl Qn (fun hg=>by exact Qz.imm h4.out rfl))<|zV (Qg rfl Q8 (fun hg=>by exact Cells.g0) rfl) ?_
  refine zx5 [_,_,_] rfl zop (by repeat (first | exact .cons .here .nil | exact Zb | exact QR | apply Q0 | apply QX)) (zig hti hP hpl hto hpn hTM hTf) ?_ (fun pv hpv=>by refine zx6 ?_;exact (⟨by rw [zl1 hpk he hne hok9 hpv.2];exact hpv.1,by rw [zl1 hpk he hne hok9 hpv.2];decide⟩));rintro vv22 I22 L22 hI22 ⟨rfl,cur2,ps2,rfl,hP2,hpl2,hlr⟩;have hS9:=hS9.mono hI22;have hIc:=hIc.trans hI22;refine Qb ?_;exact YP (Ys rfl (fun w hw=>.inl ⟨_,I22,_,rfl,hIc,by exact hw.subL (by repeat (first | exact .refl | exact QJ | refine .drop ?_ | refine .keep ?_)),rfl,by rw [zmT hpk he hne hok9 hlr],cur2,ps2,_,_,_,_,rfl,hP2,hpl2,hS9,zca,by rw [zmT hpk he hne hok9 hlr]⟩))
 have heq:(JE qs ks x.at_).frm=(JE qs ks x.at_).to_:=(by simpa using hc34);exact Qp<|YP (Ys rfl (fun w hw=>.inl ⟨_,I20,_,rfl,hIc,by exact hw,rfl,by rw [zs0 hpk he heq],cur,ps,_,_,_,_,rfl,hP,hpl,hS9,zca,by rw [zs0 hpk he heq]⟩))
theorem zdo (h:zqZ bs I cs b):(okN bs).isSome=b:=by
 rcases h.2 with ⟨h1,h2⟩ | ⟨h1,x,h2,h3,h4⟩
 ·
  rw [h2,h1];rfl
 ·
  rw [h4,h1];rfl
def znL (pn:Nat)(ps:List Pe)(qs:List Pk)(ks:List (Int×Int)):Int:=
 if ((decide ((pn:Int)<1)||decide ((pn:Int)>24))||UZ qs ks != 0)=true then 570 else if ps.any (fun x=> !ZQ x.notes)=true then 570 else if qs.any (U5 pn)=true then 570 else 0
section
variable {pn:Nat} {ps:List Pe} {qs:List Pk} {ks:List (Int×Int)}
theorem zz8 (h:((decide ((pn:Int)<1)||decide ((pn:Int)>24))||UZ qs ks != 0)=true):znL pn ps qs ks=570:=if_pos h
theorem zxY (h:((decide ((pn:Int)<1)||decide ((pn:Int)>24))||UZ qs ks != 0)=false){k:Nat}{x:Pe}(hx:ps[k]? =some x)(hc:(!ZQ x.notes)=true):znL pn ps qs ks=570:=by
 unfold znL;rw [h,if_neg kJ,if_pos (List.any_eq_true.2 ⟨x,List.mem_of_getElem? hx,hc⟩)]
theorem zyY (h:((decide ((pn:Int)<1)||decide ((pn:Int)>24))||UZ qs ks != 0)=false)(h1:ps.any (fun x=> !ZQ x.notes)=false){k:Nat}{x:Pk}(hx:qs[k]? =some x)(hc:U5 pn x=true):znL pn ps qs ks=570:=by
 unfold znL;rw [h,if_neg kJ,h1,if_neg kJ,if_pos (List.any_eq_true.2 ⟨x,List.mem_of_getElem? hx,hc⟩)]
theorem zy2 (h:((decide ((pn:Int)<1)||decide ((pn:Int)>24))||UZ qs ks != 0)=false)(h1:ps.any (fun x=> !ZQ x.notes)=false)(h2:qs.any (U5 pn)=false):znL pn ps qs ks=0:=by
 unfold znL;rw [h,if_neg kJ,h1,if_neg kJ,h2,if_neg kJ]
theorem zf5 {I:Qv}{pa qa aa:Option Addr}{pc qn qc an ac:Nat}(hR:RmP I pa pn pc qa qn qc aa an ac ps qs ks):zfA (Jd ps qs ks)=znL pn ps qs ks:=by
 have hl:(Jd ps qs ks).ps.length=pn:=(by rw [←hR.pe.len];exact zeu ps);have e1:(dtP ps).any (fun xs=> !ZQ xs)=ps.any (fun x=> !ZQ x.notes):=zgR fun x hx=>(by simp only [znx (hR.nt x hx)]);have e2:(qs.map VR).any (U5 pn)=qs.any (U5 pn):=zgR fun x _=>rfl;unfold zfA znL;rw [hl];simp only [Jd,Xs hR.pk,e1,e2]
theorem ztF (h:znL pn ps qs ks=0):(1≤pn∧pn≤24)∧UZ qs ks=0∧(∀ x∈ps,ZQ x.notes=true)∧∀ q∈qs,U5 pn q=false:=by
 unfold znL at h;split at h
 ·
  cases h
 ·
  rename_i h1;split at h
  ·
   cases h
  ·
   rename_i h2;split at h
   ·
    cases h
   ·
    rename_i h3;simp only [Bool.or_eq_true,decide_eq_true_eq,bne_iff_ne,not_or,ne_eq,Decidable.not_not] at h1;refine ⟨kB,h1.2,fun x hx=>?_,fun q hq=>?_⟩
    ·
     rw [Bool.not_eq_true,List.any_eq_false] at h2;simpa using h2 x hx
    ·
     rw [Bool.not_eq_true,List.any_eq_false] at h3;simpa using h3 q hq
end
theorem Vj:AgT Tryz.prog 59 1:=.of kA
theorem zot:Fun Tryz.prog 61:=.of Tryz.func61 kA kA
theorem US:SzT Tryz.prog 59 1:=.of kA
theorem zgl:Vp Tryz.prog 59 (.agg #[(.slice none 0 0)]):=.of kA
theorem zmP (hR:RmP I pa pn pc qa qn qc aa an ac ps qs ks)(hpn:pn≤100000)(hqn:qn≤100000)(han:an≤100000)(hnn:∀ x∈ps,x.n≤100000)(hdl:∀ q∈qs,q.n≤100000):Y7 Tryz.prog 16 [.agg #[.slice pa pn pc,.slice qa qn qc,.slice aa an ac]] I [] (fun v _I' L'=>L'=[]∧v= .int .i64 (zfA (Jd ps qs ks))):=by
 intro g H w hw;refine qe Tryz.func16 Tryz.ntmps16 hw ?_;have hIc:=zCA I;have hlp:=hR.pe.len;have hlq:=hR.q.len;refine zR<|QQ rfl rfl rfl (fun b_1=>zA (Qb<|QH .here (fun I1 hI1 hb1=>?_)))
 have hR:=hR.mono hI1;have hIc:=hIc.trans hI1;have h1:=BxI.of hb1;refine Qc (Qm (zR<|zF YK ?_));refine zV (Qd rfl J6 (fun hg=>by exact Qz.imm h1.out rfl))<|zQ JC<|zC<|zM<|QK 4 rfl rfl rfl ?_
 refine zJ (Qa rfl YK)<|zJ (Qd rfl J6 (fun hg=>by exact Qz.imm h1.out rfl))<|zJ (QV rfl JC)<|zJ (QE rfl rfl rfl)<|Zf rfl rfl rfl rfl rfl<|zM<|QK 10 rfl rfl rfl ?_
 refine zJ (Qa rfl Vb)<|zJ (Qg rfl ZW (fun hg=>by exact Cells.part (pre:=[.slice pa pn pc]) (vs:=[.slice qa qn qc,.slice aa an ac]) (post:=[]) (BxI.cells (vs:=[_,_,_]) h1) rfl) rfl)<|qf (vs:=[_]) rfl zmb (fun hg=>znX hR.q hqn hR.k han)<|zJ (QE rfl rfl rfl)<|Zf rfl rfl rfl rfl rfl<|zN ?_
 refine zI ?_ ?_<;>intro hc24
 ·
  have h24:=hc24;exact zR (zA (zN (Qs (Qf<|QA rfl rfl (fun w hw=>⟨_,I1,[],rfl,hIc,by exact hw.drop,rfl,by rw [zf5 hR,zz8 h24]⟩)))))
 have h24:=hc24;refine Qp (Qc (Qm (zR<|zF YK ?_)));refine zV (Qd rfl J6 (fun hg=>by exact Qz.imm h1.out rfl))<|zQ JC ?_
 refine zM (zN (Qr ?_));refine zU [(1,_),(26,_),(27,_)] (fun T L0 mz E I' loc'=>∃ (k:Nat),mz=pn-k∧E=(28,.int .i64 k)::T∧I1=I'∧L0=loc'∧k≤pn∧(ps.take k).any (fun x=> !ZQ x.notes)=false) ?_ (h:=⟨0,rfl,rfl,rfl,rfl,Nat.zero_le _,rfl⟩);rintro mz E I' loc' ⟨k,rfl,rfl,rfl,rfl,hk,hno⟩;refine zR (zC (zN (Qm ?_)));refine zI ?_ ?_<;>intro hc29
 ·
  have hlt_k:k<pn:=(by have h:=hc29;simp at h;omega);obtain ⟨x,hx⟩:∃ y,ps[k]? =some y:=⟨_,List.getElem?_eq_getElem kB⟩;have hxm:=List.mem_of_getElem? hx;refine Qp (Qc (Qm (Qr (zR<|zV (QC rfl rfl JC hR.pe (fun hg=>kB))<|zV (Qg rfl Vj (fun hg=>by exact zCB hR.pe hx) rfl)<|Qt zgl rfl rfl (fun b_4=>?_)))));refine zh US ?_;refine zN (zR ?_);refine zV (Qg rfl Vj (fun hg=>by exact Cells.g0) rfl) ?_;refine qcV (vs:=[_]) rfl zot (zhC (hR.nt x hxm) (hnn x hxm)) ?_;refine zO (zN ?_);refine zI ?_ ?_<;>intro hc34
  ·
   exact zR (zA (zN (Qs (Qj (Qf (Qf (Qj<|Qf<|QA rfl rfl (fun w hw=>⟨_,I1,[],rfl,hIc,by exact hw.drop,rfl,by rw [zf5 hR,zxY h24 hx hc34]⟩))))))))
  exact Qp (Qi (Qc (Qh (zB<|zM (Qb<|zm (h:=⟨pn-(k+1),kB,k+1,rfl,rfl,rfl,rfl,kB,zav hx hno hc34⟩))))))
 have hge_k:pn≤k:=(by have h:=hc29;simp at h;omega);rw [ZB hlp hge_k] at hno;refine Q6 (Ql (Ql (Qq (Qc (Qm (zR<|zF Vb<|zF Zq ?_))))));refine zV (Qd rfl Zv (fun hg=>by exact Qz.imm h1.out rfl))<|zQ Zn ?_
 refine zM (zN (Qr ?_));refine zU [(1,_),(38,_),(39,_)] (fun T L0 mz E I' loc'=>∃ (j:Nat),mz=qn-j∧E=(40,.int .i64 j)::T∧HLe I1 I'∧L0=loc'∧j≤qn∧(qs.take j).any (U5 pn)=false) ?_ (h:=⟨0,rfl,rfl,zCA _,rfl,Nat.zero_le _,rfl⟩);rintro mz E J3 loc' ⟨j,rfl,rfl,hJ,rfl,hj,hno2⟩;have hR:=hR.mono hJ;have h1:=h1.mono hJ;have hIc:=hIc.trans hJ;have hB2:=hJ;refine zR (zC (zN (Qm ?_)));refine zI ?_ ?_<;>intro hc41
 ·
  have hlt_j:j<qn:=(by have h:=hc41;simp at h;omega);obtain ⟨y,hy⟩:∃ y,qs[j]? =some y:=⟨_,List.getElem?_eq_getElem kB⟩;have hym:=List.mem_of_getElem? hy;refine Qp (Qc (Qm (Qr (zR<|zV (QC rfl rfl Zn hR.q (fun hg=>kB))<|zV (Qg rfl Jg (fun hg=>by exact zCB hR.q hy) rfl)<|Qt zcS rfl rfl (fun b_6=>zh Ka<|zN (zR ?_))))));refine zF zbv ?_;refine zL Jm<|zpc [_] rfl zlE .nil (zoI (hR.pk y hym).sl (hR.pk y hym).byte (hdl y hym)) ?_
  rintro vv4 I4 L4 hI4 ⟨rfl,cs,bb,rfl,hrd⟩;have hR:=hR.mono hI4;have h1:=h1.mono hI4;have hIc:=hIc.trans hI4;have hB2:=hB2.trans hI4;refine zM ?_;refine zE ?_;refine zE ?_;refine Qt UW rfl rfl (fun b_7=>?_);refine VV (old:=Q7 zcX) rfl rfl Vk hrd.1.1 rfl hrd.1.2 rfl (by repeat (first | exact Upd.here | apply Upd.there | apply ZC)) ?_;refine zA<|zN (zR ?_)
  refine zM<|zO<|zM<|QK 2 rfl rfl rfl ?_
  refine zJ (Qa rfl zbg)<|zJ (Qd rfl Qn (fun hg=>by exact Qz.h1 rfl))<|zJ (Qa rfl XU)<|zJ (Qd rfl Qn (fun hg=>by exact Qz.h1 rfl))<|zJ (VE rfl rfl)<|zJ (Qa rfl YK)<|zJ (Qd rfl J6 (fun hg=>by exact Qz.imm h1.out rfl))<|zJ (QV rfl JC)<|zJ (QE rfl rfl rfl)<|Zf rfl rfl rfl rfl rfl<|zN ?_
  refine zI ?_ ?_<;>intro hc62
  ·
   have hbk:U5 pn y=true:=(by unfold U5;rw [zdo hrd];exact hc62);exact zR (zA (zN (Qs (Qj (Qf (Qf (Qj<|Qf<|QA rfl rfl (fun w hw=>⟨_,I4,[],rfl,hIc,by exact hw.drop,rfl,by rw [zf5 hR,zyY h24 hno hy hbk]⟩))))))))
  have hbk:U5 pn y=false:=(by unfold U5;rw [zdo hrd];exact hc62);exact Qp (Qi (Qc (Qh (zB<|zM (Qb<|zm (h:=⟨qn-(j+1),kB,j+1,rfl,rfl,hB2,rfl,kB,zav hy hno2 hbk⟩))))))
 have hge_j:qn≤j:=(by have h:=hc41;simp at h;omega);rw [ZB hlq hge_j] at hno2;refine Q6 (Ql (Ql (Qq (Qc (zR (zA (zN<|Qs ?_)))))));exact QA rfl rfl (fun w hw=>⟨_,J3,[],rfl,hIc,by exact hw.drop,rfl,by rw [zf5 hR,zy2 h24 hno hno2]⟩)
end
end Go.Proofs.YtjblkbkmblkgoaaGreat
namespace Go.Kn
section
open Go
def zfN {α:Type}(P:Program)(f:FuncId)(cap:List Value)(I:Qv)(Lb:Loc)(rel:Value→α→Qv→Prop)(xs:List α):Prop:=
 ∀ g l (J Jx:List α→Qv→Qv→Prop),(∀ pre I1 I2 H',HLe I1 I2→J pre I1 H'→J pre I2 H')→
  (∀ pre x v I' H',pre++[x]<+:xs→HLe I I'→rel v x I'→J pre I' H'→zby P g l [v] I' H' fun b I2 H2=>if b then J (pre++[x]) I2 H2 else Jx (pre++[x]) I2 H2)→
  ∀ I0 H w,HLe I I0→J [] I0 H→(∀ p∈Lb,H p.1=some p.2)→St g I0 H [] w→Calls P f ((.func (.yield l) #[] #[]:Value)::cap).toArray w fun e w'=>∃ v I' H',e= .returned v∧HLe I0 I'∧St g I' H' [] w'∧(J xs I' H'∨∃ pre,pre<+:xs∧Jx pre I' H')
theorem zfN.mono {α:Type}{P:Program}{f:FuncId}{cap:List Value}{I I':Qv}{Lb:Loc}{rel:Value→α→Qv→Prop}{xs:List α}(h:zfN P f cap I Lb rel xs)(hI:HLe I I'):zfN P f cap I' Lb rel xs:=
 fun g l J Jx hm hY I0 H w h0 hJ hb hw=>h g l (fun pre I1 H1=>HLe I' I1∧J pre I1 H1) (fun pre I1 H1=>HLe I' I1∧Jx pre I1 H1)
  (fun pre I1 I2 H' h12 ⟨h1,h2⟩=>⟨h1.trans h12,hm pre I1 I2 H' h12 h2⟩)
  (fun pre x v I1 H1 hp _ hv ⟨h2,h3⟩ loc W hW=>by
   obtain ⟨fn,tmps,asg,bd,hy,hR⟩:=hY pre x v I1 H1 hp h2 hv h3 loc W hW;refine ⟨fn,tmps,asg,bd,hy,hR.mono ?_⟩;rintro e W' ⟨b,I2,H2,he,h4,h5,h6⟩;refine ⟨b,I2,H2,he,h4,h5,?_⟩
   cases b with
   | true=>exact ⟨h2.trans h4,h6⟩
   | false=>exact ⟨h2.trans h4,h6⟩) I0 H w (hI.trans h0) ⟨h0,hJ⟩ hb hw |>.mono fun e w' ⟨v,I1,H1,he,h1,h2,h3⟩=>⟨v,I1,H1,he,h1,h2,h3.elim (fun h=>.inl h.2) (fun ⟨pre,hp,h⟩=>.inr ⟨pre,hp,h.2⟩)⟩
def zpr (H:Qv)(b:Nat):Qv:=fun x=>if x=b then none else H x
theorem zlS {H:Qv}{b:Nat}{o:Obj}(hb:H b=some o):Kh (zpr H b) [(b,o)]=H:=by
 funext x;simp only [Kh,zpr];split
 ·
  rename_i e;rw [e,hb]
 ·
  rfl
section
variable {g:World} {I H:Qv} {loc A B:Loc} {w:World} {b:Nat} {o:Obj}
theorem St.peek (h:St g I H [] w)(hb:H b=some o):St g I (zpr H b) [(b,o)] w:=by
 have hd:∀ x p,zpr H b x=some p→H x=some p:=fun x p e=>by
  unfold zpr at e;split at e
  ·
   cases e
  ·
   exact e
 refine ⟨h.os,h.tape,h.out,h.size,h.imm,fun x p e=>h.frm x p (hd x p e),?_,?_,?_,by simp⟩
 ·
  intro x p hm;obtain ⟨rfl,rfl⟩:=Prod.mk.inj (List.mem_singleton.1 hm);exact h.frm _ _ hb
 ·
  intro x;rcases h.sepIH x with e | e
  ·
   exact .inl e
  ·
   refine .inr ?_;unfold zpr;split
   ·
    rfl
   ·
    exact e
 ·
  intro x p hm;obtain ⟨rfl,rfl⟩:=Prod.mk.inj (List.mem_singleton.1 hm);refine ⟨?_,by simp [zpr]⟩;rcases h.sepIH x with e | e
  ·
   exact e
  ·
   rw [hb] at e;cases e
end
section
variable {α:Type} {P:Program} {N:Nat} {g:World} {p:Nat} {assign body:Code} {f:FuncId} {cap:List Value} {rel:Value→α→Qv→Prop} {xs:List α} {E:Env} {I H:Qv} {L B:Loc}
theorem zkE {fn:FuncId}{tmps:Array Value}{l df:Nat}{w2:World}(Jc:List α→Qv→Qv→Loc→Prop)(Jx:Code→List α→Qv→Qv→Loc→Prop)(Ja:List α→α→Env→Qv→Qv→Loc→Prop)
    (hm:∀ pre I1 I2 H' L',HLe I1 I2→Jc pre I1 H' L'→Jc pre I2 H' L'){Lb:Loc}(hst:∀ p∈Lb,p∈L)(hseq:zfN P f cap I Lb rel xs)(hfit0:∀ v,Uf N [] ((p,v)::E) {tmps:=tmps.setIfInBounds p v,defers:=[]})(h0:Jc [] I H L)
    (hass:∀ l Z pre x v I' H' L',pre++[x]<+:xs→HLe I I'→rel v x I'→Jc pre I' H' L'→X ⟨P,some l,N,[],g,H'⟩ (Exit.then (Met ⟨P,some l,N,[],g,H'⟩ fun E2 I2 loc2=>HLe I' I2∧∃ L2,loc2=L2++Z∧Ja pre x E2 I2 H' L2) (fun _ _ _=>False)) assign ((p,v)::E) I' (L'++Z))
    (hbody:∀ l Z pre x E2 I2 H2 L2,(∃ r0,(l,Obj.loop r0)∈Z)→pre++[x]<+:xs→HLe I I2→Ja pre x E2 I2 H2 L2→X ⟨P,some l,N,[],g,H2⟩ (zmt g Z (fun q I3 H3 L3=>HLe I2 I3∧Jc q I3 H3 L3) (fun c q I3 H3 L3=>HLe I2 I3∧Jx c q I3 H3 L3) (pre++[x])) body E2 I2 (L2++Z))
    (hw2:St g I H (L++((l,zzq fn tmps p assign body df .ready none)::B)) w2):
    Calls P f ((.func (.yield l) #[] #[]:Value)::cap).toArray w2 fun e w'=>∃ v,e= .returned v∧
      ((∃ I' H' L',HLe I I'∧Jc xs I' H' L'∧St g I' H' (L'++((l,zzq fn tmps p assign body df .ready none)::B)) w')∨
       (∃ c pre I' H' L',HLe I I'∧pre<+:xs∧Jx c pre I' H' L'∧St g I' H' (L'++((l,zzq fn tmps p assign body df .done (some c))::B)) w')):=by
  let rc:=zzq fn tmps p assign body df;let Lr:LoopState→Option Code→Loc→Loc:=fun st pd L'=>L'++((l,rc st pd)::B);let J:List α→Qv→Qv→Prop:=fun pre I' H'=>∃ H0 L',Jc pre I' H0 L'∧HLe I I'∧H'=Kh H0 (Lr .ready none L')∧((Lr .ready none L').map (·.1)).Nodup∧∀ b o,(b,o)∈Lr .ready none L'→H0 b=none;let Jy:List α→Qv→Qv→Prop:=fun pre I' H'=>∃ c H0 L',Jx c pre I' H0 L'∧HLe I I'∧H'=Kh H0 (Lr .done (some c) L')∧((Lr .done (some c) L').map (·.1)).Nodup∧∀ b o,(b,o)∈Lr .done (some c) L'→H0 b=none;have hJ0:J [] I (Kh H (Lr .ready none L)):=⟨H,L,h0,zCA I,rfl,hw2.nodup,fun b o hm=>(hw2.sepIL b o hm).2⟩;refine (hseq g l J Jy (fun pre I1 I2 H' h12 ⟨H0,L',h1,h2,h3,h4,h5⟩=>⟨H0,L',hm pre I1 I2 H0 L' h12 h1,h2.trans h12,h3,h4,h5⟩) ?_ I _ _ (zCA I) hJ0 (fun p hp=>zdC hw2.nodup (List.mem_append_left _ (hst p hp))) hw2.hide).mono ?_
  · intro pre x v I' H' hpre hI hrel ⟨H0,L',hJc,_,hH,hnd,hdj⟩ lit W hW
    subst hH;have hS0:=hW.join2 hnd hdj
    -- own blocks first, the record, the rest, the iterator's blocks
    have hS1:St g I' H0 (L'++((l,rc .ready none)::(B++lit))) W:=hS0.permL (by
      have:(L'++((l,rc .ready none)::(B++lit)))=(L'++((l,rc .ready none)::B))++lit:=by simp
      rw [this];exact List.perm_append_comm)
    have hrec:W.heap[l]? =some (rc .ready none):=hS1.own _ _ kJ;refine ⟨fn,_,assign,body,run_yield (P:=P) hrec kJ,?_⟩;refine roundIn_of_wpIn (F:=Fence.wide) trivial ?_;have htm:((#[p]:Array Tmp).zip #[v]).foldl (fun tmps (t,v)=>tmps.setIfInBounds t v) tmps=tmps.setIfInBounds p v:=(by simp);show Code.wpIn _ _ _ _ _ {tmps:=((#[p]:Array Tmp).zip #[v]).foldl (fun tmps (t,v)=>tmps.setIfInBounds t v) tmps,defers:=[]} _;rw [htm];have hA:=hass l ((l,rc .ready none)::(B++lit)) pre x v I' H0 L' hpre hI hrel hJc _ W (hfit0 v) hS1;refine wpIn_mono (F:=Fence.wide.inRound l) (n:=0) (P:=P) (show assign.wpIn (Fence.wide.inRound l) 0 P _ _ _ from hA) ?_;intro e a1 W1 hq
    cases e with
    | normal=>
      obtain ⟨E2,I2,loc2,⟨hI2,L2,rfl,hJa⟩,hf2,hs2⟩:=hq;have hrec1:W1.heap[l]? =some (rc .ready none):=hs2.own _ _ kJ;have hs4:=hs2.putObj (o':=rc .busy none) (b:=l) (ZC .here);refine ⟨_,run_beginRound (P:=P) hrec1 rfl,?_⟩;have hB:=hbody l ((l,rc .busy none)::(B++lit)) pre x E2 I2 H0 L2 ⟨_,List.mem_cons_self ..⟩ hpre (hI.trans hI2) hJa a1 _ hf2 hs4;refine wpIn_mono (F:=Fence.wide.inRound l) (n:=0) (P:=P) (show body.wpIn (Fence.wide.inRound l) 0 P _ _ _ from hB) ?_
      have fin:∀ (W3:World) (I3 H3:Qv) (L3:Loc) (jump:Option Code) (st:LoopState),St g I3 H3 (L3++((l,rc .busy none)::(B++lit))) W3→(st=if jump.isNone then .ready else .done)→
          ∃ W4,(Instr.endRound l jump).run P W3= .ok (.bool jump.isNone) W4∧St g I3 (Kh H3 (Lr st jump L3)) lit W4∧((Lr st jump L3).map (·.1)).Nodup∧∀ b o,(b,o)∈Lr st jump L3→H3 b=none:=by
        intro W3 I3 H3 L3 jump st hs hst;have hrec3:W3.heap[l]? =some (rc .busy none):=hs.own _ _ kJ;have hs6:=hs.putObj (o':=rc st jump) (b:=l) (ZC .here)
        have hs7:St g I3 H3 (lit++Lr st jump L3) (W3.putObj l (rc st jump)):=hs6.permL (by
          have:(L3++((l,rc st jump)::(B++lit)))=Lr st jump L3++lit:=by simp [Lr]
          rw [this];exact List.perm_append_comm)
        have hs8:=hs7.rest QR;refine ⟨_,run_endRound (P:=P) jump hrec3,?_,hs8.nodup,fun b o hm=>(hs8.sepIL b o hm).2⟩;rw [←hst];exact hs7.hideR
      intro e a3 W3 hq
      cases e with
      | normal=>
        obtain ⟨I3,H3,L3,⟨hI3,hJ3⟩,hs⟩:=hq;obtain ⟨W4,h1,h2,h3,h4⟩:=fin W3 I3 H3 L3 none .ready hs rfl;exact ⟨_,W4,h1,true,I3,_,rfl,hI2.trans hI3,h2,H3,L3,hJ3,(hI.trans hI2).trans hI3,rfl,h3,h4⟩
      | ret=>
        obtain ⟨I3,H3,L3,⟨hI3,hJ3⟩,hs⟩:=hq;obtain ⟨W4,h1,h2,h3,h4⟩:=fin W3 I3 H3 L3 (some .ret) .done hs rfl;exact ⟨_,W4,h1,false,I3,_,rfl,hI2.trans hI3,h2,.ret,H3,L3,hJ3,(hI.trans hI2).trans hI3,rfl,h3,h4⟩
      | exit id=>
        obtain ⟨I3,H3,L3,⟨hI3,hJ3⟩,hs⟩:=hq;obtain ⟨W4,h1,h2,h3,h4⟩:=fin W3 I3 H3 L3 (some (.exit id)) .done hs rfl;exact ⟨_,W4,h1,false,I3,_,rfl,hI2.trans hI3,h2,.exit id,H3,L3,hJ3,(hI.trans hI2).trans hI3,rfl,h3,h4⟩
      | goto t=>exact hq.elim
      | panic c=>exact hq.elim
      | outgrown=>exact hq.elim
    | _=>exact hq.elim
  · rintro e w' ⟨v,I',H',rfl,hI,hs,hJ | ⟨pre,hpre,hJ⟩⟩
    · obtain ⟨H0,L',hJc,hI1,rfl,hnd,hdj⟩:=hJ
      have hs1:=hs.join2 hnd hdj;exact ⟨v,rfl,.inl ⟨I',H0,L',hI1,hJc,by simpa using hs1⟩⟩
    · obtain ⟨c,H0,L',hJc,hI1,rfl,hnd,hdj⟩:=hJ
      have hs1:=hs.join2 hnd hdj;exact ⟨v,rfl,.inr ⟨c,pre,I',H0,L',hI1,hpre,hJc,by simpa using hs1⟩⟩
end
section
variable {α:Type} {P:Program} {N:Nat} {g:World} {H:Qv} {Q:Exit→Act→World→Prop} {gop:Operand} {p:Nat} {assign body:Code} {f:FuncId} {cap:List Value} {rel:Value→α→Qv→Prop} {xs:List α} {E:Env} {I:Qv} {L:Loc}
theorem zeE {ms:List Nat}(Jc:List α→Qv→Qv→Loc→Prop)(Jx:Code→List α→Qv→Qv→Loc→Prop)(Ja:List α→α→Env→Qv→Qv→Loc→Prop)
  (hm:∀ pre I1 I2 H' L',HLe I1 I2→Jc pre I1 H' L'→Jc pre I2 H' L')(hg:QG [] E gop=some (.func (.func f) #[] cap.toArray))(hF:Fun P f){Lb:Loc}(hst:∀ p∈Lb,p∈L)(hseq:zfN P f cap I Lb rel xs)(hp:Nat.blt p N=true)(h0:Jc [] I H L)
  (hass:∀ l Z pre x v I' H' L',pre++[x]<+:xs→HLe I I'→rel v x I'→Jc pre I' H' L'→X ⟨P,some l,N,[],g,H'⟩ (Exit.then (Met ⟨P,some l,N,[],g,H'⟩ fun E2 I2 loc2=>HLe I' I2∧∃ L2,loc2=L2++Z∧Ja pre x E2 I2 H' L2) (fun _ _ _=>False)) assign ((p,v)::E) I' (L'++Z))
  (hbody:∀ l Z pre x E2 I2 H2 L2,(∃ r0,(l,Obj.loop r0)∈Z)→pre++[x]<+:xs→HLe I I2→Ja pre x E2 I2 H2 L2→X ⟨P,some l,N,[],g,H2⟩ (zmt g Z (fun q I3 H3 L3=>HLe I2 I3∧Jc q I3 H3 L3) (fun c q I3 H3 L3=>HLe I2 I3∧Jx c q I3 H3 L3) (pre++[x])) body E2 I2 (L2++Z))
  (hdone:∀ bd I' H' L',HLe I I'→Jc xs I' H' L'→At ⟨P,none,N,mk (bd::ms),g,H'⟩ Q .normal E I' (L'++MB (bd::ms)))
  (hstop:∀ c bd pre I' H' L',HLe I I'→pre<+:xs→Jx c pre I' H' L'→X ⟨P,none,N,mk (bd::ms),g,H'⟩ Q c E I' (L'++MB (bd::ms))):
  X ⟨P,none,N,mk ms,g,H⟩ Q (.rangeFunc gop #[p] assign body) E I (L++MB ms):=by
 intro a w ha hw;refine wpIn_rangeFunc fun fn _=>?_;have hen:=run_enterLoop_outer (P:=P) (w:=w) fn a.tmps #[p] assign body;generalize hbd:w.heap.size=bd at hen;let rc:=zzq fn a.tmps p assign body bd
 have hw1:St g I H ((bd+1,rc .ready none)::(bd,.deferred (some []))::(L++MB ms)) ((w.alloc (.deferred (some []))).alloc (rc .ready none)):=by
  have h1:=hw.alloc (.deferred (some []));have h2:=h1.alloc (rc .ready none);rw [World.size_alloc,hbd] at h2;exact h2
 have hw2:St g I H (L++((bd+1,rc .ready none)::MB (bd::ms))) ((w.alloc (.deferred (some []))).alloc (rc .ready none)):=hw1.permL (by
  have e:L++((bd+1,rc .ready none)::MB (bd::ms))=(L++(bd+1,rc .ready none)::MB ms)++[(bd,.deferred (some []))]:=(by simp [MB]);rw [e];refine List.perm_append_comm.trans ?_;have h1:(L++(bd+1,rc .ready none)::MB ms).Perm ((bd+1,rc .ready none)::(L++MB ms)):=List.perm_middle
  exact (h1.cons _).trans (List.Perm.swap ..))
 have hev:=Qk (S:=[]) ha trivial rfl hg;refine ⟨bd+1,[{target:=.collected bd,args:= #[]}],_,{target:=.fn (.func f) cap.toArray,args:= #[.func (.yield (bd+1)) #[] #[]]},(w.alloc (.deferred (some []))).alloc (rc .ready none),f,((.func (.yield (bd+1)) #[] #[]:Value)::cap).toArray,(w.alloc (.deferred (some []))).alloc (rc .ready none),hen,?_,fun _ _=>trivial,?_,by simp [FR],WW.2 ?_⟩
 ·
  have e2:a.eval (.const (.func (.yield (bd+1)) #[] #[]))= .func (.yield (bd+1)) #[] #[]:=rfl;simp only [resolve,List.map_toArray,List.map_cons,List.map_nil,e2,hev,Deferred.ofValue];rfl
 ·
  simp only [invoke,JW hF];simp
 have hfit:∀ v,Uf N [] ((p,v)::E) {tmps:=a.tmps.setIfInBounds p v,defers:=[]}:=fun v=>by
  have h1:=ha.put hp v;exact ⟨h1.size,rfl,h1.env⟩
 refine (zkE (l:=bd+1) (df:=bd) Jc Jx Ja hm hst hseq hfit h0 hass hbody hw2).mono ?_;rintro e w' ⟨v,rfl,⟨I',H',L',hI,hJ,hs⟩ | ⟨c,pre,I',H',L',hI,hpre,hJ,hs⟩⟩
 ·
  have hrec:w'.heap[bd+1]? =some (rc .ready none):=hs.own _ _ (by simp [rc]);have hs2:=hs.putObj (o':=rc .exhausted none) (b:=bd+1) (ZC .here);refine ⟨none,_,run_endLoop (P:=P) hrec kJ,?_⟩;exact hdone bd I' H' L' hI hJ _ _ ⟨ha.size,by simp [ha.defers,mk],ha.env⟩<|hs2.subL (zdx (.drop .refl))
 ·
  have hrec:w'.heap[bd+1]? =some (rc .done (some c)):=hs.own _ _ (by simp [rc]);have hs2:=hs.putObj (o':=rc .exhausted (some c)) (b:=bd+1) (ZC .here);refine ⟨some c,_,run_endLoop (P:=P) hrec kJ,?_⟩;exact hstop c bd pre I' H' L' hI hpre hJ _ _ ⟨ha.size,by simp [ha.defers,mk],ha.env⟩<|hs2.subL (zdx (.drop .refl))
end
end
end Go.Kn
namespace Go.Proofs.YtjblkbkmblkgoaaGreat
section
open Go Go.Kn Go.Proofs
structure zeT (I:Qv)(a:Option Addr)(m c:Nat)(qs D:List Pk):Prop where
 sl:Sl I 3 ZK a m c qs
 pk:∀ q∈qs,PkM I q
 dat:qs.map VR=D
variable{I I':Qv}{a:Option Addr}{m c:Nat}{qs D:List Pk}
theorem zeT.mono (h:zeT I a m c qs D)(hI:HLe I I'):zeT I' a m c qs D:=⟨h.sl.mono hI,fun q hq=>(h.pk q hq).mono hI,h.dat⟩
theorem zeT.len (h:zeT I a m c qs D):m=D.length:=by
 rw [←h.dat,List.length_map];exact h.sl.len.symm
def zyp (v:Value)(x:Pk)(I:Qv):Prop:=∃ y:Pk,v=Xp y∧PkM I y∧VR y=x
variable{ks:List (Int×Int)}
theorem ze3 (h:UZ qs ks=0):qs.length≤4096∧(∀ p∈qs,pkV p=true)∧zhw [] ks=true:=by
 unfold UZ at h;split at h
 ·
  cases h
 ·
  rename_i h1;split at h
  ·
   rename_i h2;rw [Bool.not_eq_true,Bool.or_eq_false_iff,List.any_eq_false] at h1;have h3:=h1.1;simp only [decide_eq_false_iff_not] at h3;exact ⟨kB,fun p hp=>by simpa using h1.2 p hp,h2⟩
  ·
   cases h
theorem zpQ {l:List Pk}(h:UZ qs ks=0)(hv:∀ p∈l,pkV p=true)(hl:qs.length+l.length≤4096):UZ (qs++l) ks=0:=by
 obtain ⟨h1,h2,h3⟩:=ze3 h;unfold UZ;rw [h3,if_pos rfl,if_neg];rw [Bool.not_eq_true,Bool.or_eq_false_iff,List.any_eq_false];refine ⟨by rw [List.length_append];simp only [decide_eq_false_iff_not];omega,fun p hp=>?_⟩;rcases List.mem_append.1 hp with hp | hp
 ·
  simp [h2 p hp]
 ·
  simp [hv p hp]
variable{pre xs:List Pk}{x y:Pk}
theorem zqr (h:zeT I a m c qs (D++pre))(hok:UZ D ks=0)(hv:∀ p∈xs,pkV p=true)(hl:D.length+xs.length≤4096)(hpre:pre++[x]<+:xs)(hy:PkM I y)(e:VR y=x):UX qs ks y=0:=by
 have hle:=hpre.length_le;rw [List.length_append,List.length_singleton] at hle;have hmem:∀ p∈pre++[x],p∈xs:=fun p hp=>hpre.subset hp;have h1:UZ (D++pre) ks=0:=zpQ hok (fun p hp=>hv p (hmem p (List.mem_append_left _ hp))) kB;have h2:pkV x=true:=hv x (hmem x kJ);rw [←zgt h.pk ks hy,h.dat,e];refine zrP (by rw [h1,h2];rfl) ?_;rw [List.length_append];simp only [beq_eq_false_iff_ne,ne_eq];omega
theorem zeT.snoc {b:Option Addr}{n d:Nat}(h:zeT I a m c qs (D++pre))(hI:HLe I I')(hS:Sl I' 3 ZK b n d (qs++[y]))(hy:PkM I' y)(e:VR y=x):zeT I' b n d (qs++[y]) (D++(pre++[x])):=
 ⟨hS,fun q hq=>by
  rcases List.mem_append.1 hq with hq | hq
  ·
   exact (h.pk q hq).mono hI
  ·
   rw [List.mem_singleton] at hq;subst hq;exact hy,by rw [List.map_append,h.dat,List.map_singleton,e,List.append_assoc]⟩
theorem KT:ScT Tryz.prog 105:=.of kA
variable{bc f:Nat}{cap:List Value}
theorem zsw {pa qa aa:Option Addr}{pn pc qn qc an ac:Nat}(hS:zeT I qa qn qc qs D)(hA:Sl I 2 Um aa an ac ks)(han:an≤100000)(hF:Fun Tryz.prog f)(hseq:zfN Tryz.prog f cap I [(bc,.cells #[.slice pa pn pc,.slice qa qn qc,.slice aa an ac] 108 (0,0))] zyp xs)(hok:UZ D ks=0)(hv:∀ p∈xs,pkV p=true)(hl:D.length+xs.length≤4096):Y7 Tryz.prog 110 [ZE bc,.func (.func f) #[] cap.toArray] I [(bc,.cells #[.slice pa pn pc,.slice qa qn qc,.slice aa an ac] 108 (0,0))] (fun v I' L'=>v= .tuple #[]∧∃ a m c qs2,L'=[(bc,.cells #[.slice pa pn pc,.slice a m c,.slice aa an ac] 108 (0,0))]∧zeT I' a m c qs2 (D++xs)):=by
 intro g H w hw;refine zlF Tryz.func110 rfl Tryz.ntmps110 rfl hw ?_;have hIc:=zCA I;refine zR<|QQ rfl rfl rfl (fun b_2=>Qb<|QH .here (fun I1 hI1 hb1=>?_))
 have hS:=hS.mono hI1;have hA:=hA.mono hI1;have hIc:=hIc.trans hI1;have h2:=BxI.of hb1;refine Qc (zR (zM (zN (Qr ?_))));refine zeE (ms:=[]) (rel:=zyp) (L:=[(bc,.cells #[.slice pa pn pc,.slice qa qn qc,.slice aa an ac] 108 (0,0))]) (fun pre I' H' L'=>∃ (a:Option Addr) (m c:Nat) (qs2:List Pk),L'=[(bc,.cells #[.slice pa pn pc,.slice a m c,.slice aa an ac] 108 (0,0))]∧H'=H∧HLe I1 I'∧zeT I' a m c qs2 (D++pre)) (fun _ _ _ _ _=>False) (fun pre x E2 I2 H2 L2=>∃ (y:Pk) (b4:Nat) (a:Option Addr) (m c:Nat) (qs2:List Pk),E2=[(2,ZE b_2),(4,ZE b4)]∧L2=[(b4,.cells (ZK y).toArray 99 (0,0)),(bc,.cells #[.slice pa pn pc,.slice a m c,.slice aa an ac] 108 (0,0))]∧H2=H∧HLe I1 I2∧PkM I2 y∧VR y=x∧zeT I2 a m c qs2 (D++pre)) (fun pre I1 I2 H' L' h12 ⟨a,m,c,qs2,e1,e2,e3,e4⟩=>⟨a,m,c,qs2,e1,e2,e3.trans h12,e4.mono h12⟩) rfl hF (fun p hp=>hp) (hseq.mono hIc) rfl ⟨_,_,_,qs,rfl,rfl,zCA _,by rw [List.append_nil];exact hS⟩ ?_ ?_ ?_ ?_
 ·
  rintro l9 Z pre x v0 I1 H1 L1 hpre hI1 ⟨y,rfl,hyM,hyD⟩ ⟨a,m,c,qs2,rfl,rfl,hI01,hQ⟩;refine Qh<|Qt zcS rfl rfl (fun b_4=>zh Ka ?_)
  exact Qb<|W5 _ ⟨zCA _,_,rfl,y,b_4,a,m,c,qs2,rfl,rfl,rfl,hI01,hyM,hyD,hQ⟩ (.cons rfl (.cons rfl .nil))
 ·
  rintro l9 Z pre x E2 I2 H2 L2 hl9 hpre hI2 ⟨y,b4,a,m,c,qs2,rfl,rfl,rfl,hI02,hyM,hyD,hQ⟩;have hA:=hA.mono hI02;have h2:=h2.mono hI02;have hz:=zqr hQ hok hv hl hpre hyM hyD;have hle:=hpre.length_le;have hml:=hQ.len;rw [List.length_append,List.length_singleton] at hle;rw [List.length_append] at hml;have hC:=zCA I2;refine Qr (Qm ?_);have hD:=zCA I2;refine Zm<|QI I2 [(b4,.cells (ZK y).toArray 99 (0,0)),(bc,.cells #[.slice pa pn pc,.slice a m c,.slice aa an ac] 108 (0,0))] mixed<|zT 0 rfl (Qd rfl KT (fun hg=>by exact Qz.imm h2.out rfl)) hD<|zT 1 rfl (QB rfl) hD<|zT 2 rfl (Qa rfl Yo) hD<|zT 3 rfl (Qa rfl Vb) hD<|zT 4 rfl (Qg rfl ZW (fun hg=>by exact Cells.s1 (vs:=[_,_]) rfl) rfl) hD<|zT 5 rfl (Qg rfl Jg (fun hg=>by exact Cells.g0) rfl) hD ?_
  refine QS 6 10 rfl rfl kA ?_ ?_
  ·
   refine zpc [_,_] rfl zgU .nil (zor hQ.sl kB hA han y) ?_;rintro vv2 I2 L2 hI2 ⟨a6,m6,c6,a7,m7,c7,rfl,rfl,hN,hm⟩;have hQ:=hQ.mono hI2;have h2:=h2.mono hI2;have hyM:=hyM.mono hI2;have hI02:=hI02.trans hI2;have hC:=hC.trans hI2;have hD:=hD.trans hI2;refine Qb<|zD hD<|zT 7 rfl (Qe rfl) hD<|zT 8 rfl (Q9 rfl rfl) hD<|zT 9 rfl (Q9 rfl rfl) hD<|qd 10 rfl<|Qt Wk rfl rfl (fun b_5=>Qb<|zD hD<|qd 11 rfl ?_)
   refine zh YB ?_;refine Qb<|zD hD<|zT 12 rfl (Qy rfl) hD<|Qo kA<|Qw<|Qc (zR (zM<|zC<|zM<|zpc [_,_] rfl KN .nil ((Wd I2 (UX qs2 ks y==0) (UX qs2 ks y)).m (fun v hv=>by have h9:=hv.2;simp [hz] at h9)) ?_))
   rintro vv3 I3 L3 hI3 ⟨rfl,rfl,rfl,_⟩;have hQ:=hQ.mono hI3;have h2:=h2.mono hI3;have hyM:=hyM.mono hI3;have hN:=hN.mono hI3;have hI02:=hI02.trans hI3;have hC:=hC.trans hI3;obtain ⟨e7,e8,e9,hS9⟩:=hN.ok hz;subst a7 m7 c7;have hQ3:=zeT.snoc hQ (zCA _) hS9 hyM hyD;refine zN (Qh<|zV (Qd rfl KT (fun hg=>by exact Qz.imm h2.out rfl))<|zV (Qg rfl ZW (fun hg=>by exact Cells.g0) rfl)<|zV (QB rfl) ?_);refine zF Yo<|zF Vb ?_
   refine Yu rfl rfl YB rfl rfl rfl rfl (by repeat (first | exact Upd.here | apply Upd.there | apply ZC))<|Qb (Qi ?_)
   exact zfe (L:=[(bc,.cells #[.slice pa pn pc,.slice _ _ _,.slice aa an ac] 108 (0,0))]) ⟨hC,_,_,_,_,rfl,rfl,hI02,hQ3⟩ (by repeat (first | exact .refl | refine .keep ?_ | refine .drop ?_))
  refine Qt Wk rfl rfl (fun b_5=>Qb<|zD hD<|qd 6 rfl<|zpc [_,_] rfl zgU .nil (zor hQ.sl kB hA han y) ?_);rintro vv4 I4 L4 hI4 ⟨a6,m6,c6,a7,m7,c7,rfl,rfl,hN,hm⟩;have hQ:=hQ.mono hI4;have h2:=h2.mono hI4;have hyM:=hyM.mono hI4;have hI02:=hI02.trans hI4;have hC:=hC.trans hI4;have hD:=hD.trans hI4;refine Qb<|zD hD<|zT 7 rfl (Qe rfl) hD<|zT 8 rfl (Q9 rfl rfl) hD<|zT 9 rfl (Q9 rfl rfl) hD<|qd 11 rfl ?_
  refine zh YB ?_;refine Qb<|zD hD<|zT 12 rfl (Qy rfl) hD<|Qo kA<|Qw<|Qc (zR (zM<|zC<|zM<|zpc [_,_] rfl KN .nil ((Wd I4 (UX qs2 ks y==0) (UX qs2 ks y)).m (fun v hv=>by have h9:=hv.2;simp [hz] at h9)) ?_))
  rintro vv5 I5 L5 hI5 ⟨rfl,rfl,rfl,_⟩;have hQ:=hQ.mono hI5;have h2:=h2.mono hI5;have hyM:=hyM.mono hI5;have hN:=hN.mono hI5;have hI02:=hI02.trans hI5;have hC:=hC.trans hI5;obtain ⟨e7,e8,e9,hS9⟩:=hN.ok hz;subst a7 m7 c7;have hQ3:=zeT.snoc hQ (zCA _) hS9 hyM hyD;refine zN (Qh<|zV (Qd rfl KT (fun hg=>by exact Qz.imm h2.out rfl))<|zV (Qg rfl ZW (fun hg=>by exact Cells.g0) rfl)<|zV (QB rfl) ?_);refine zF Yo<|zF Vb ?_
  refine Yu rfl rfl YB rfl rfl rfl rfl (by repeat (first | exact Upd.here | apply Upd.there | apply ZC))<|Qb (Qi ?_)
  exact zfe (L:=[(bc,.cells #[.slice pa pn pc,.slice _ _ _,.slice aa an ac] 108 (0,0))]) ⟨hC,_,_,_,_,rfl,rfl,hI02,hQ3⟩ (by repeat (first | exact .refl | refine .keep ?_ | refine .drop ?_))
 ·
  rintro bd I1 H1 L1 hI1 ⟨a,m,c,qs2,rfl,rfl,hI01,hQ⟩;have hIc:=hIc.trans hI1;exact Qi<|ziq (L:=[(bc,.cells #[.slice pa pn pc,.slice _ _ _,.slice aa an ac] 108 (0,0))]) (ms:=[bd]) (fun a ha w hw=>zCf rfl a w) (fun w hw=>⟨_,I1,_,rfl,hIc,hw,rfl,_,_,_,_,rfl,hQ⟩)
 rintro cd bd pre I1 H1 L1 hI1 hpre hF;exact hF.elim
variable{k:Nat}{i:Int}{t:Nt}
theorem zf7 (h:(k:Int)=i):KI (k+1) i t=KI k i t:=by
 unfold KI;rw [List.range_succ,List.filter_append,List.map_append];simp [h]
theorem zcs (h:(k:Int)≠i):KI (k+1) i t=KI k i t++[pkN i k t]:=by
 unfold KI;rw [List.range_succ,List.filter_append,List.map_append];simp [h]
theorem zh8 (i : Int) (t : Nt) : ∀ {m k : Nat}, k ≤ m → KI k i t <+: KI m i t
  | 0, k, h => by obtain rfl : k = 0 := by omega
                  exact List.prefix_rfl
  | m + 1, k, h => by
    by_cases e : k = m + 1
    · subst e; exact List.prefix_rfl
    · have h1 := zh8 i t (m := m) (k := k) kB
      by_cases hi : (m : Int) = i
      · rw [zf7 hi]; exact h1
      · rw [zcs hi]; exact h1.trans (List.prefix_append ..)
theorem zgc (h:(k:Int)≠i)(hk:k<m):KI k i t++[pkN i k t]<+:KI m i t:=by
 rw [←zcs h];exact zh8 i t hk
theorem zn3 {k:Int}{b:Nat}(hok:Va.ok (KU t))(hS:Sl I 1 VT (some ⟨b,0,none⟩) (zaX t).size c (Ug (zaX t))):zyp (Xp ⟨i,k,some ⟨b,0,none⟩,(zaX t).size,c,Jw t⟩) (pkN i k t) I:=by
 have e:Ug (zaX t)=Jw t:=Je (K5 _ hok);rw [e] at hS;exact ⟨_,rfl,⟨hS,K5 _ hok⟩,rfl⟩
theorem zjf {α β:Type}(f:α→β){l:List α}{x:α}(h:l[k]? =some x):(l.take k).map f++[f x]<+:l.map f:=by
 have h1:(l.take k).map f++[f x]=(l.take (k+1)).map f:=(by rw [Za h,List.map_append];rfl);rw [h1];exact (List.take_prefix _ _).map f
end
end Go.Proofs.YtjblkbkmblkgoaaGreat
namespace Go.Kn
section
open Go
section
variable {g:World} {H H':Qv} {P:Program} {r:Option Nat} {N:Nat} {D:List Deferred} {Q:Exit→Act→World→Prop} {E:Env} {I:Qv} {b:Nat} {o:Obj} {e:Exit}
theorem zfh (hb:H b=some o)(h:At ⟨P,r,N,D,g,H⟩ Q e E I []):At ⟨P,r,N,D,g,zpr H b⟩ Q e E I [(b,o)]:=fun a w ha hw=>by
 have h1:St g I (Kh (zpr H b) [(b,o)]) [] w:=St.hide hw;rw [zlS hb] at h1;exact h a w ha h1
end
section
variable {C:Cx} {Q:Exit→Act→World→Prop} {E E':Env} {I I' I0:Qv} {loc loc' loc0 L R:Loc} {ops:Array Oper} {rest:List Oper} {S:GS}
variable {d:Nat} {ty:TypeId} {pos:String} {af:Array Edge}
def zx0 (g:World)(I0:Qv)(loc0:Loc):World→Prop:=fun w=>∃ H,St g I0 H loc0 w
def XH (C:Cx)(Q:Exit→Act→World→Prop)(ops:Array Oper)(I0:Qv)(loc0:Loc)(fuel:Nat)(listed:Array Bool)(S:GS)(E:Env)(I:Qv)(loc:Loc):Prop:=
 ∀ a w,Uf C.N C.D E a→KP S a→St C.g I C.H loc w→Vl C.r C.P .any ops Q (zx0 C.g I0 loc0) fuel listed a w
theorem zbu {id:Nat}{l:List Oper}(I0:Qv)(loc0:Loc)(hm:C.P.follows .mixedOrders=true)(h:XH C Q l.toArray I0 loc0 l.length (Array.replicate l.length false) [] E I loc):X C Q (.region id l.toArray true) E I loc:=fun a w ha hw=>
 wpIn_region_any hm (Wf _ _ _ _ (by simpa using h a _ ha trivial hw.drew))
theorem zs5 (i:Nat){oi:Oper}{d:Nat}{v:Value}{fuel:Nat}{listed:Array Bool}(hi:ops[i]? =some oi)(hv:∀ H,QW {C with H:=H} S E I0 loc0 oi v)(hG:Zt ops S E oi)(hd:oi.dst=some d)(hN:Nat.blt d C.N=true)(hf:Yb S E d=true)
  (hs:Region.noSelect ops=true)(hfr:Region.free .any ops listed i=true)(hr:(Region.ready .any ops listed).contains i=true)(hQ:Yl Q)(hI:HLe I0 I)(hl:Kr loc0 loc)
  (h:XH C Q ops I0 loc0 fuel (listed.setIfInBounds i true) (zex S E d v) (zeH S E d v) I loc):XH C Q ops I0 loc0 (fuel+1) listed S E I loc:=by
 intro a w ha hg hw;have hp:=YH ha hg hN hf v;refine Vh (v:=bif Z6 S then v else undef) hi (hv C.H).1 (Region.noSelect_spec hs) (fun c a w=>by rw [hd];exact hQ c a d _ w) fuel listed a w (Region.free_spec hi hfr) (by simpa using hr) ?_ ⟨C.H,(hw.mono hI).subL hl⟩ (by rw [hd];exact h _ _ hp.1 hp.2 hw);have hwt:=hG.wanted ha hg
 cases hc:Z6 S with
 | true=>exact .inl ⟨by rw [hwt,hc],fun w' ⟨H,hw'⟩=>(hv H).2 a w' ha hg hc hw'⟩
 | false=>exact .inr ⟨by rw [hwt,hc],rfl⟩
theorem zx1 (i:Nat){op:Op}{ty:TypeId}{pos:String}{af:Array Edge}{gd:Option (Nat×Bool)}{d:Nat}{v:Value}{fuel:Nat}{listed:Array Bool}(hi:ops[i]? =some ⟨some d,op,ty,pos,af,gd⟩)(hv:∀ H,QW {C with H:=H} S E I0 loc0 ⟨some d,op,ty,pos,af,gd⟩ v)(hI:HLe I0 I)(h:XH C Q ops I0 loc0 fuel (listed.setIfInBounds i true) (zex S E d v) (zeH S E d v) I loc)(hG:Zt ops S E ⟨some d,op,ty,pos,af,gd⟩:=by exact .none rfl)(hN:Nat.blt d C.N=true:=by exact rfl)(hf:Yb S E d=true:=by exact rfl)
  (hs:Region.noSelect ops=true:=by kernel_rfl)(hfr:Region.free .any ops listed i=true:=by kernel_rfl)(hr:(Region.ready .any ops listed).contains i=true:=by kernel_rfl)(hQ:Yl Q:=by first | exact JV | (repeat (first | exact Uy | with_reducible refine UB ?_ | with_reducible refine Ky ?_)))(hl:Kr loc0 loc:=by repeat (first | exact .refl | exact Qx | refine .keep ?_ | refine .drop ?_ | refine QP ?_)):XH C Q ops I0 loc0 (fuel+1) listed S E I loc:=zs5 i hi hv hG rfl hN hf hs hfr hr hQ hI hl h
theorem zql (i:Nat){v:Value}{fuel j dj:Nat}{want:Bool}{oj:Oper}{listed:Array Bool}{op:Op}(hi:ops[i]? =some ⟨some d,op,ty,pos,af,some (j,want)⟩)(hj:ops[j]? =some oj)(hd:oj.dst=some dj)(hlk:VN E dj=some (.bool want))
  (hv:∀ H,QW {C with H:=H} [] E I0 loc0 ⟨some d,op,ty,pos,af,none⟩ v)(hN:Nat.blt d C.N=true)
  (hs:Region.noSelect ops=true)(hfr:Region.free .any ops listed i=true)(hr:(Region.ready .any ops listed).contains i=true)(hQ:Yl Q)(hI:HLe I0 I)(hl:Kr loc0 loc)
  (h:XH C Q ops I0 loc0 fuel (listed.setIfInBounds i true) [] ((d,v)::E) I loc):XH C Q ops I0 loc0 (fuel+1) listed [] E I loc:=by
 intro a w ha hg hw;have hp:=ha.put hN v;refine Vh (v:=v) hi (fun c e=>(hv C.H).1 c e) (Region.noSelect_spec hs) (fun c a w=>hQ c a d _ w) fuel listed a w (Region.free_spec hi hfr) (by simpa using hr) ?_ ⟨C.H,(hw.mono hI).subL hl⟩ (h _ _ hp trivial hw);have hG:Zt ops [(true,[])] E ⟨some d,op,ty,pos,af,some (j,want)⟩:=.some rfl hj hd (by simpa [Uz,zfa] using hlk) kJ;have hwt:=hG.wanted ha (show KP [(true,[])] a from ⟨(fun _ _ e=>by cases e),trivial⟩);exact .inl ⟨by rw [hwt];rfl,fun w' ⟨H,hw'⟩=>(hv H).2 a w' ha trivial rfl hw'⟩
theorem zx2 (i dj:Nat){d:Nat}{v:Value}{fuel j:Nat}{want:Bool}{oj:Oper}{listed:Array Bool}{op:Op}(hi:ops[i]? =some ⟨some d,op,ty,pos,af,some (j,want)⟩)(hv:∀ H,QW {C with H:=H} [] E I0 loc0 ⟨some d,op,ty,pos,af,none⟩ v)(hI:HLe I0 I)(h:XH C Q ops I0 loc0 fuel (listed.setIfInBounds i true) [] ((d,v)::E) I loc)(hj:ops[j]? =some oj:=by exact rfl)(hd:oj.dst=some dj:=by exact rfl)(hlk:VN E dj=some (.bool want):=by exact rfl)(hN:Nat.blt d C.N=true:=by exact rfl)
  (hs:Region.noSelect ops=true:=by kernel_rfl)(hfr:Region.free .any ops listed i=true:=by kernel_rfl)(hr:(Region.ready .any ops listed).contains i=true:=by kernel_rfl)(hQ:Yl Q:=by first | exact JV | (repeat (first | exact Uy | with_reducible refine UB ?_ | with_reducible refine Ky ?_)))(hl:Kr loc0 loc:=by repeat (first | exact .refl | exact Qx | refine .keep ?_ | refine .drop ?_ | refine QP ?_)):XH C Q ops I0 loc0 (fuel+1) listed [] E I loc:=zql i hi hj hd hlk hv hN hs hfr hr hQ hI hl h
theorem zpn (i:Nat){j dj fuel:Nat}{want:Bool}{oj:Oper}{listed:Array Bool}{op:Op}{u:Value}(hi:ops[i]? =some ⟨some d,op,ty,pos,af,some (j,want)⟩)(hj:ops[j]? =some oj)(hd:oj.dst=some dj)(hlk:VN E dj=some u)(hu:zj8 u want=true)
  (hdf:∀ c,op≠ .defer c)(hN:Nat.blt d C.N=true)
  (hs:Region.noSelect ops=true)(hfr:Region.free .any ops listed i=true)(hr:(Region.ready .any ops listed).contains i=true)(hQ:Yl Q)(hI:HLe I0 I)(hl:Kr loc0 loc)
  (h:XH C Q ops I0 loc0 fuel (listed.setIfInBounds i true) [] ((d,undef)::E) I loc):XH C Q ops I0 loc0 (fuel+1) listed [] E I loc:=by
 intro a w ha hg hw;have hp:=ha.put hN undef;exact Vh (v:=undef) hi hdf (Region.noSelect_spec hs) (fun c a w=>hQ c a d _ w) fuel listed a w (Region.free_spec hi hfr) (by simpa using hr) (.inr ⟨by rw [zcJ (o:=⟨some d,op,ty,pos,af,some (j,want)⟩) rfl hj hd ha hlk hu],rfl⟩) ⟨C.H,(hw.mono hI).subL hl⟩ (h _ _ hp trivial hw)
theorem zx3 (i dj:Nat){d j fuel:Nat}{want:Bool}{oj:Oper}{listed:Array Bool}{op:Op}{u:Value}(hI:HLe I0 I)(h:XH C Q ops I0 loc0 fuel (listed.setIfInBounds i true) [] ((d,undef)::E) I loc)(hi:ops[i]? =some ⟨some d,op,ty,pos,af,some (j,want)⟩:=by exact rfl)(hj:ops[j]? =some oj:=by exact rfl)(hd:oj.dst=some dj:=by exact rfl)(hlk:VN E dj=some u:=by exact rfl)(hu:zj8 u want=true:=by exact rfl)
  (hdf:∀ c,op≠ .defer c:=by (intro c e;cases e))(hN:Nat.blt d C.N=true:=by exact rfl)(hs:Region.noSelect ops=true:=by kernel_rfl)(hfr:Region.free .any ops listed i=true:=by kernel_rfl)(hr:(Region.ready .any ops listed).contains i=true:=by kernel_rfl)(hQ:Yl Q:=by first | exact JV | (repeat (first | exact Uy | with_reducible refine UB ?_ | with_reducible refine Ky ?_)))(hl:Kr loc0 loc:=by repeat (first | exact .refl | exact Qx | refine .keep ?_ | refine .drop ?_ | refine QP ?_)):XH C Q ops I0 loc0 (fuel+1) listed [] E I loc:=zpn i hi hj hd hlk hu hdf hN hs hfr hr hQ hI hl h
theorem zdn (i:Nat){oi:Oper}{fuel:Nat}{listed:Array Bool}(hi:ops[i]? =some oi)(hr:Region.ready .any ops listed=[i])
  (h:XO C (fun e a w=>match e with | .normal=>zx0 C.g I0 loc0 w∧Vl C.r C.P .any ops Q (zx0 C.g I0 loc0) fuel (listed.setIfInBounds i true) a w | e=>Q e a w) ops [oi] S E I loc):XH C Q ops I0 loc0 (fuel+1) listed S E I loc:=by
 intro a w ha hg hw;refine ⟨(fun h0=>by rw [hr] at h0;cases h0),fun j hj=>?_⟩;rw [hr] at hj;obtain rfl:=List.mem_singleton.1 hj;have:=h a w ha hg hw;simp only [wpListIn] at this;unfold wpOpIn;simp only [hi];split
 ·
  rename_i hwt;simp only [hwt,if_true] at this;unfold Oper.wpIn at*;refine ⟨fun _ _=>trivial,?_⟩;have h2:=this.2;generalize (oi.semAt (FR C.r).round a.eval).run C.P w=q at*
  cases q with
  | ok n w'=>cases n<;>exact h2
  | halt x w'=>cases x<;>exact h2
 ·
  rename_i hwt;simp only [hwt] at this;exact this
theorem zke {i fuel:Nat}{listed:Array Bool}(hI:HLe I0 I)(hl:Kr loc0 loc)(h:XH C Q ops I0 loc0 fuel (listed.setIfInBounds i true) [] E I loc):
  At C (fun e a w=>match e with | .normal=>zx0 C.g I0 loc0 w∧Vl C.r C.P .any ops Q (zx0 C.g I0 loc0) fuel (listed.setIfInBounds i true) a w | e=>Q e a w) .normal E I loc:=
 fun a w ha hw=>⟨⟨C.H,(hw.mono hI).subL hl⟩,h a w ha trivial hw⟩
theorem zeL {fuel:Nat}{listed:Array Bool}(hr:Region.ready .any ops listed=[])(h:At C Q .normal E I loc):XH C Q ops I0 loc0 fuel listed S E I loc:=fun a w ha hg hw=>by
 cases fuel with
 | zero=>exact ⟨hr,h a w ha hw⟩
 | succ n=>exact ⟨fun _=>h a w ha hw,by rw [hr];simp⟩
end
end
end Go.Kn
namespace Go.Proofs.YtjblkbkmblkgoaaGreat
section
open Go Go.Kn Go.Proofs
theorem znd:BsT Tryz.prog 80 5 9:=⟨kA,kA,kA⟩
theorem Kx:QL Tryz.prog 47 1 1:=.of kA
theorem zdM:QL Tryz.prog 47 4 4:=.of kA
theorem zty:Fun Tryz.prog 111:=.of Tryz.func111 kA kA
theorem ztb {I:Qv}{bc b2 b3:Nat}{pa qa aa:Option Addr}{pn pc qn qc an ac:Nat}(x:Ev)(h2:BxI I b2 (.cells #[ZE bc] 105 (0,0)))(h3:BxI I b3 (.cells (zfz x).toArray 47 (0,0)))(hT:NtM I x.note)(hok9:Va.ok (KU x.note))(hpn:pn≤100000):zfN Tryz.prog 111 [ZE b2,ZE b3] I [(bc,.cells #[.slice pa pn pc,.slice qa qn qc,.slice aa an ac] 108 (0,0))] zyp (KI pn x.peer x.note):=by
 intro g l J Jx hJm hY I0 H w h0 hJ hb hw;have hbc:=hb _ (List.mem_singleton.2 rfl);have hw:=hw.peek hbc;have hI0:=zCA I0;have hCI:=zCA I0;have h2:=h2.mono h0;have h3:=h3.mono h0;have hT:=hT.mono h0;refine qe Tryz.func111 Tryz.ntmps111 hw ?_;refine zR<|zV (Qd rfl KT (fun hg=>by exact Qz.imm h2.out rfl))<|zV (QB rfl) ?_
 refine zF Yo<|zF YK ?_
 refine zL J6<|zQ JC<|zM (Qb<|zfh hbc<|Qc (Qr<|zgZ (fun m E I' H' loc'=>∃ k:Nat,m=pn-k∧E=[(0,.func (.yield l) #[] #[]),(1,ZE b2),(2,ZE b3),(10,.int .i64 pn),(11,.int .i64 k)]∧loc'=[]∧HLe I0 I'∧k≤pn∧J (KI k x.peer x.note) I' H') _ _ _ ⟨0,rfl,rfl,rfl,zCA _,Nat.zero_le _,hJ⟩ (.cons rfl (.cons rfl (.cons rfl (.cons rfl (.cons rfl .nil))))) rfl ?_))
 rintro m E J9 H' loc' ⟨k,rfl,rfl,rfl,hI1,hk,hJk⟩;have h3:=h3.mono hI1;have hT:=hT.mono hI1;have hI0:=hI1;have hCI:=zCA J9;refine zR (zC (zN (Qm ?_)));refine zI ?_ ?_<;>intro hc12
 ·
  have hlt:k<pn:=(by have h:=hc12;simp at h;omega);refine Qp (Qc (Qm (Qr (zR (zM<|zA (zN (Qm ?_)))))));by_cases hne:(k:Int)=x.peer
  ·
   have hk0:((k:Int) != x.peer)=false:=(by simp [hne]);have hD:=zCA J9;refine Zm<|zbu J9 [] mixed<|zx1 0 rfl (fun _=>Qe rfl) hD<|zx1 1 rfl (fun _=>Qa rfl Kx) hD<|zx1 2 rfl (fun _=>Qd rfl Qn (fun hg=>by exact Qz.imm h3.out rfl)) hD<|zx1 3 rfl (fun _=>QE rfl rfl rfl) hD ?_
   rw [hk0];refine zx1 4 rfl (fun _=>Qe rfl) hD<|zx3 5 18 hD ?_
   refine zx3 6 18 hD ?_;refine zx3 7 18 hD ?_;refine zx3 8 18 hD ?_;refine zx3 9 18 hD ?_;refine zx3 10 18 hD ?_;refine zx3 11 18 hD ?_;refine zx3 12 18 hD ?_;refine zx3 13 18 hD ?_;refine zx3 14 18 hD ?_;refine zx3 15 18 hD<|zx1 16 rfl (fun _=>Yg rfl rfl rfl) hD<|zeL kA<|Qw<|Qc ?_
   refine zI ?_ ?_<;>intro hc30
   ·
    cases hc30
   refine Qp (Qi (Qc (Qh (zB<|zM (Qb ?_)))))
   first
   | exact zbl rfl rfl rfl _ [] ⟨pn-(k+1),kB,k+1,rfl,rfl,rfl,hI0,kB,by rw [zf7 hne];exact hJm _ _ _ _ hCI hJk⟩ (.cons rfl (.cons rfl (.cons rfl (.cons rfl (.cons rfl .nil))))) kN
  have hk0:((k:Int) != x.peer)=true:=(by simp [hne]);have hD:=zCA J9;refine Zm<|zbu J9 [] mixed<|zx1 0 rfl (fun _=>Qe rfl) hD<|zx1 1 rfl (fun _=>Qa rfl Kx) hD<|zx1 2 rfl (fun _=>Qd rfl Qn (fun hg=>by exact Qz.imm h3.out rfl)) hD<|zx1 3 rfl (fun _=>QE rfl rfl rfl) hD ?_
  rw [hk0];refine zx1 4 rfl (fun _=>Qe rfl) hD<|zx2 5 18 rfl (fun _=>Qe rfl) hD<|zx2 6 18 rfl (fun _=>Qa rfl Kx) hD<|zx2 7 18 rfl (fun _=>Qd rfl Qn (fun hg=>by exact Qz.imm h3.out rfl)) hD<|zx2 8 18 rfl (fun _=>Qe rfl) hD<|zx2 9 18 rfl (fun _=>Qa rfl zdM) hD<|zx2 10 18 rfl (fun _=>Qg rfl Q8 (fun hg=>by exact Cells.part (pre:=[_,_,_,_]) (vs:=Q7 x.note) (post:=[]) (BxI.cells (vs:=zfz x) h3) rfl) rfl) hD<|zdn 11 rfl kA<|QM (dj:=18) rfl rfl rfl<|qcV (vs:=[_]) rfl zfc (zoC x.note hT.nd hT.nn hT.ok hT.len)<|Qb ?_
  refine zke hD kG ?_;refine zdn 12 rfl kA<|QM (dj:=18) rfl rfl rfl<|Xi (s:=zaX x.note) rfl znd rfl rfl (fun b9 c9 I1 hI1 hB=>?_)
  have hI0:=hI0.trans hI1;have hCI:=hCI.trans hI1;have hD:=hD.trans hI1;refine Qb ?_;refine zke hD kG ?_;refine zx2 13 18 rfl (fun _=>QF (ps:=[(0,_),(1,_),(2,_)]) [_,_,_] zlC rfl rfl) hD<|zdn 14 rfl kA<|QM (dj:=18) rfl rfl rfl<|zbN (vs:=[_]) (Post:=fun b I2 H2=>if b then J ((KI k x.peer x.note)++[pkN x.peer k x.note]) I2 H2 else Jx ((KI k x.peer x.note)++[pkN x.peer k x.note]) I2 H2) rfl rfl rfl rfl (hY _ _ _ _ _ (zgc hne hlt) (h0.trans hI0) (zn3 hok9 hB) (hJm _ _ _ _ hCI hJk)) ?_
  rintro t9 I2 H9 hI2 hP9;have hI0:=hI0.trans hI2;have hD:=hD.trans hI2;refine Qb ?_;refine zke hD kG ?_;refine zx2 15 18 rfl (fun _=>Zy rfl) hD<|zx1 16 rfl (fun _=>QY rfl rfl rfl) hD<|zeL kA<|Qw<|Qc ?_
  refine zI ?_ ?_<;>intro hc30
  ·
   have ht:t9=false:=(by simpa using hc30);subst ht;have hJ2:Jx ((KI k x.peer x.note)++[pkN x.peer k x.note]) _ H9:=hP9;exact Qs (Qj (Qf (Qf (Qj<|Ys rfl (fun w hw=>⟨_,_,H9,rfl,hI0,by exact hw,.inr ⟨_,zgc hne hlt,hJ2⟩⟩)))))
  have ht:t9=true:=(by simpa using hc30);subst ht;have hJ2:J ((KI k x.peer x.note)++[pkN x.peer k x.note]) _ H9:=hP9;refine Qp (Qi (Qc (Qh (zB<|zM (Qb ?_)))))
  first
  | exact zbl rfl rfl rfl _ [] ⟨pn-(k+1),kB,k+1,rfl,rfl,rfl,hI0,kB,by rw [zcs hne];exact hJ2⟩ (.cons rfl (.cons rfl (.cons rfl (.cons rfl (.cons rfl .nil))))) kN
 have hge:pn≤k:=(by have h:=hc12;simp at h;omega);obtain rfl:k=pn:=kB;exact Q6 (Ql (Ql (Qq<|YP (Ys rfl (fun w hw=>⟨_,_,_,rfl,hI1,hw,.inl hJk⟩)))))
end
end Go.Proofs.YtjblkbkmblkgoaaGreat
