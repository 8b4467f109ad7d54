/- partiesKept_holds, part E of the proof: what its theorems say holds without further conditions. -/
import Derived.Test.YtjblkbkmblkgoaaGreatPTD
namespace Go.Proofs.YtjblkbkmblkgoaaGreat
section
open Go Go.Kn Go.Proofs
theorem zkQ {I:Qt}{qa aa:Option Addr}{qn qc an ac:Nat}{qs:List Pk}{ks:List (Int×Int)}(hQ:Sl I 3 Zz qa qn qc qs)(hqn:qn≤100000)(hA:Sl I 2 KY aa an ac ks)(han:an≤100000)(x:Pk):Vl Tryz.prog 176 [.agg #[.slice qa qn qc,.slice aa an ac],Xk x] I [] (fun v I' L'=>∃ a m c a2 m2 c2,v= .tuple #[.agg #[.slice a m c,.slice a2 m2 c2],.int .i64 (Up qs ks x)]∧L'=[]∧ziE I' (Up qs ks x) a m c a2 m2 c2 (qs++[x]) aa an ac∧(Up qs ks x=0→m=qn+1)):=by
 intro g H w hw
 refine qe Tryz.func176 Tryz.ntmps176 hw ?_
 have hIc:=zzm I
 have hlq:=hQ.len
 have hcq:=hQ.cap
 refine zR ?_
 refine QR rfl rfl rfl (fun b_2=>?_)
 refine QR rfl rfl rfl (fun b_3=>?_)
 refine Qq UI rfl rfl (fun b_4=>?_)
 refine zA (Qb ?_)
 refine QH (.there .here) (fun I1 hI1 hb1=>?_)
 have hQ:=hQ.mono hI1;have hA:=hA.mono hI1;have hIc:=hIc.trans hI1
 have h3:=BxI.of hb1
 refine Qd (Qm (zR ?_))
 refine zV (Qg rfl ZM (fun hg=>by exact Cells.g1) rfl) ?_
 refine qcV (vs:=[_]) rfl zlg (zjM hQ hqn hA han) ?_
 refine zC ?_
 refine zM ?_
 refine QM 3 rfl rfl rfl ?_
 refine zJ (Qg rfl VT (fun hg=>by exact BxI.cells (vs:=Zz x) h3) rfl) ?_
 refine qf (vs:=[_]) rfl zlA (fun hg=>zhs _ x) ?_
 refine zJ (Zs rfl) ?_
 refine Zb rfl rfl rfl rfl rfl ?_
 refine zN ?_
 refine zI ?_ ?_<;>intro hc13
 ·
  have hs1:=zuk hc13
  refine zR ?_
  refine zV (Qg rfl ZM (fun hg=>by exact Cells.g0) rfl) ?_
  refine zh Yp ?_
  refine zA (zN (Qs (Qe ?_)))
  first
  | exact ZN rfl rfl rfl ZM zzk rfl (fun w hw=>⟨_,I1,[],rfl,hIc,hw.drop.drop,_,_,_,_,_,_,by rw [hs1]<;>rfl,rfl,Xt (by rw [hs1];decide),fun h=>by rw [hs1] at h;cases h⟩)
 refine Qr (Qd (Qm (zR ?_)))
 refine zF Zg ?_
 refine zL Zn ?_
 refine zQ Ze ?_
 refine zC (zN ?_)
 refine zI ?_ ?_<;>intro hc18
 ·
  have hs2:=zv1 hc13 (by rw [hlq];exact hc18)
  refine zR ?_
  refine zV (Qg rfl ZM (fun hg=>by exact Cells.g0) rfl) ?_
  refine zh Yp ?_
  refine zA (zN (Qs (Qe ?_)))
  first
  | exact ZN rfl rfl rfl ZM zzk rfl (fun w hw=>⟨_,I1,[],rfl,hIc,hw.drop.drop,_,_,_,_,_,_,by rw [hs2]<;>rfl,rfl,Xt (by rw [hs2];decide),fun h=>by rw [hs2] at h;cases h⟩)
 have hs3:=zqi hc13 (by rw [hlq];exact hc18)
 refine Qr (Qd ?_)
 refine zY [(2,_),(4,_)] (fun T L0 E I' loc'=>∃ (v:Value) (L:Go.Kn.Loc),E=T∧I1=I'∧L++[(b_4,.cells #[.slice none 0 0,.slice none 0 0] 26 (0,0)),(b_2,.cells #[v,.slice aa an ac] 26 (0,0))]=loc'∧Ya 99 3 v (qn+1) ((qs++[x]).flatMap Zz) L) ?_ ?_
 ·
  have hD:=zzm I1
  refine Zt ?_
  refine QQ I1 [] mixed ?_
  refine zT 0 rfl (Qa rfl Zg) hD ?_
  refine zT 2 rfl (Qa rfl Zg) hD ?_
  refine zT 5 rfl (Qa rfl Zg) hD ?_
  refine zT 9 rfl (Qg rfl VT (fun hg=>by exact BxI.cells (vs:=Zz x) h3) rfl) hD ?_
  refine zjx 1 3 6 10 rfl rfl rfl rfl (by kernel_rfl) ?_ ?_ ?_ ?_
  ·
   refine zL Zn ?_
   refine Qb ?_
   refine zD hD ?_
   refine VD 3 6 10 rfl rfl rfl (by kernel_rfl) ?_ ?_ ?_
   ·
    refine zL Zn ?_
    refine Qb ?_
    refine zD hD ?_
    refine zT 4 rfl (Q4 rfl Ze) hD ?_
    refine QW 6 10 rfl rfl (by kernel_rfl) ?_ ?_
    ·
     refine zL Zn ?_
     refine Qb ?_
     refine zD hD ?_
     refine zT 7 rfl (Q4 rfl Ze) hD ?_
     refine zT 8 rfl (Zm rfl rfl rfl Ze (fun hg=>by omega)) hD ?_
     refine qd 10 rfl ?_
     refine zpb [(0,_)] [Zz x] ZO (fun b_30=>?_)
     refine Qb ?_
     refine zD hD ?_
     refine qd 11 rfl ?_
     refine QS (ys:=[x].flatMap Zz) Zu rfl rfl ZO hQ.cut ⟨rfl,fun _=>rfl,zzk⟩ (by decide) (by omega) rfl rfl ?_
     intro v1 L1 hO1
     rw [←List.flatMap_append] at hO1
     obtain ⟨a1,c1,rfl⟩:=hO1.shape
     refine Qb ?_
     refine zD hD ?_
     refine zT 12 rfl (Qa rfl Zg) hD ?_
     refine qd 13 rfl ?_
     refine Q0 rfl rfl YW rfl rfl (by (repeat (first | exact Upd.here | apply Upd.there | apply Qu))) rfl ?_
     refine Qb ?_
     refine zD hD ?_
     refine Qn (by kernel_rfl) ?_
     refine Qx ?_
     exact zm (h:=⟨_,_,rfl,rfl,rfl,hO1⟩)
    refine zpb [(0,_)] [Zz x] ZO (fun b_30=>?_)
    refine Qb ?_
    refine zD hD ?_
    refine qd 6 rfl ?_
    refine zL Zn ?_
    refine Qb ?_
    refine zD hD ?_
    refine zT 7 rfl (Q4 rfl Ze) hD ?_
    refine zT 8 rfl (Zm rfl rfl rfl Ze (fun hg=>by omega)) hD ?_
    refine qd 11 rfl ?_
    refine QS (ys:=[x].flatMap Zz) Zu rfl rfl ZO hQ.cut ⟨rfl,fun _=>rfl,zzk⟩ (by decide) (by omega) rfl rfl ?_
    intro v1 L1 hO1
    rw [←List.flatMap_append] at hO1
    obtain ⟨a1,c1,rfl⟩:=hO1.shape
    refine Qb ?_
    refine zD hD ?_
    refine zT 12 rfl (Qa rfl Zg) hD ?_
    refine qd 13 rfl ?_
    refine Q0 rfl rfl YW rfl rfl (by (repeat (first | exact Upd.here | apply Upd.there | apply Qu))) rfl ?_
    refine Qb ?_
    refine zD hD ?_
    refine Qn (by kernel_rfl) ?_
    refine Qx ?_
    exact zm (h:=⟨_,_,rfl,rfl,rfl,hO1⟩)
   ·
    refine zL Zn ?_
    refine Qb ?_
    refine zD hD ?_
    refine zT 7 rfl (Q4 rfl Ze) hD ?_
    refine QW 3 10 rfl rfl (by kernel_rfl) ?_ ?_
    ·
     refine zL Zn ?_
     refine Qb ?_
     refine zD hD ?_
     refine zT 4 rfl (Q4 rfl Ze) hD ?_
     refine zT 8 rfl (Zm rfl rfl rfl Ze (fun hg=>by omega)) hD ?_
     refine qd 10 rfl ?_
     refine zpb [(0,_)] [Zz x] ZO (fun b_30=>?_)
     refine Qb ?_
     refine zD hD ?_
     refine qd 11 rfl ?_
     refine QS (ys:=[x].flatMap Zz) Zu rfl rfl ZO hQ.cut ⟨rfl,fun _=>rfl,zzk⟩ (by decide) (by omega) rfl rfl ?_
     intro v1 L1 hO1
     rw [←List.flatMap_append] at hO1
     obtain ⟨a1,c1,rfl⟩:=hO1.shape
     refine Qb ?_
     refine zD hD ?_
     refine zT 12 rfl (Qa rfl Zg) hD ?_
     refine qd 13 rfl ?_
     refine Q0 rfl rfl YW rfl rfl (by (repeat (first | exact Upd.here | apply Upd.there | apply Qu))) rfl ?_
     refine Qb ?_
     refine zD hD ?_
     refine Qn (by kernel_rfl) ?_
     refine Qx ?_
     exact zm (h:=⟨_,_,rfl,rfl,rfl,hO1⟩)
    refine zpb [(0,_)] [Zz x] ZO (fun b_30=>?_)
    refine Qb ?_
    refine zD hD ?_
    refine qd 3 rfl ?_
    refine zL Zn ?_
    refine Qb ?_
    refine zD hD ?_
    refine zT 4 rfl (Q4 rfl Ze) hD ?_
    refine zT 8 rfl (Zm rfl rfl rfl Ze (fun hg=>by omega)) hD ?_
    refine qd 11 rfl ?_
    refine QS (ys:=[x].flatMap Zz) Zu rfl rfl ZO hQ.cut ⟨rfl,fun _=>rfl,zzk⟩ (by decide) (by omega) rfl rfl ?_
    intro v1 L1 hO1
    rw [←List.flatMap_append] at hO1
    obtain ⟨a1,c1,rfl⟩:=hO1.shape
    refine Qb ?_
    refine zD hD ?_
    refine zT 12 rfl (Qa rfl Zg) hD ?_
    refine qd 13 rfl ?_
    refine Q0 rfl rfl YW rfl rfl (by (repeat (first | exact Upd.here | apply Upd.there | apply Qu))) rfl ?_
    refine Qb ?_
    refine zD hD ?_
    refine Qn (by kernel_rfl) ?_
    refine Qx ?_
    exact zm (h:=⟨_,_,rfl,rfl,rfl,hO1⟩)
   refine zpb [(0,_)] [Zz x] ZO (fun b_30=>?_)
   refine Qb ?_
   refine zD hD ?_
   refine QW 3 6 rfl rfl (by kernel_rfl) ?_ ?_
   ·
    refine zL Zn ?_
    refine Qb ?_
    refine zD hD ?_
    refine zT 4 rfl (Q4 rfl Ze) hD ?_
    refine qd 6 rfl ?_
    refine zL Zn ?_
    refine Qb ?_
    refine zD hD ?_
    refine zT 7 rfl (Q4 rfl Ze) hD ?_
    refine zT 8 rfl (Zm rfl rfl rfl Ze (fun hg=>by omega)) hD ?_
    refine qd 11 rfl ?_
    refine QS (ys:=[x].flatMap Zz) Zu rfl rfl ZO hQ.cut ⟨rfl,fun _=>rfl,zzk⟩ (by decide) (by omega) rfl rfl ?_
    intro v1 L1 hO1
    rw [←List.flatMap_append] at hO1
    obtain ⟨a1,c1,rfl⟩:=hO1.shape
    refine Qb ?_
    refine zD hD ?_
    refine zT 12 rfl (Qa rfl Zg) hD ?_
    refine qd 13 rfl ?_
    refine Q0 rfl rfl YW rfl rfl (by (repeat (first | exact Upd.here | apply Upd.there | apply Qu))) rfl ?_
    refine Qb ?_
    refine zD hD ?_
    refine Qn (by kernel_rfl) ?_
    refine Qx ?_
    exact zm (h:=⟨_,_,rfl,rfl,rfl,hO1⟩)
   refine zL Zn ?_
   refine Qb ?_
   refine zD hD ?_
   refine zT 7 rfl (Q4 rfl Ze) hD ?_
   refine qd 3 rfl ?_
   refine zL Zn ?_
   refine Qb ?_
   refine zD hD ?_
   refine zT 4 rfl (Q4 rfl Ze) hD ?_
   refine zT 8 rfl (Zm rfl rfl rfl Ze (fun hg=>by omega)) hD ?_
   refine qd 11 rfl ?_
   refine QS (ys:=[x].flatMap Zz) Zu rfl rfl ZO hQ.cut ⟨rfl,fun _=>rfl,zzk⟩ (by decide) (by omega) rfl rfl ?_
   intro v1 L1 hO1
   rw [←List.flatMap_append] at hO1
   obtain ⟨a1,c1,rfl⟩:=hO1.shape
   refine Qb ?_
   refine zD hD ?_
   refine zT 12 rfl (Qa rfl Zg) hD ?_
   refine qd 13 rfl ?_
   refine Q0 rfl rfl YW rfl rfl (by (repeat (first | exact Upd.here | apply Upd.there | apply Qu))) rfl ?_
   refine Qb ?_
   refine zD hD ?_
   refine Qn (by kernel_rfl) ?_
   refine Qx ?_
   exact zm (h:=⟨_,_,rfl,rfl,rfl,hO1⟩)
  ·
   refine zL Zn ?_
   refine Qb ?_
   refine zD hD ?_
   refine zT 4 rfl (Q4 rfl Ze) hD ?_
   refine VD 1 6 10 rfl rfl rfl (by kernel_rfl) ?_ ?_ ?_
   ·
    refine zL Zn ?_
    refine Qb ?_
    refine zD hD ?_
    refine QW 6 10 rfl rfl (by kernel_rfl) ?_ ?_
    ·
     refine zL Zn ?_
     refine Qb ?_
     refine zD hD ?_
     refine zT 7 rfl (Q4 rfl Ze) hD ?_
     refine zT 8 rfl (Zm rfl rfl rfl Ze (fun hg=>by omega)) hD ?_
     refine qd 10 rfl ?_
     refine zpb [(0,_)] [Zz x] ZO (fun b_30=>?_)
     refine Qb ?_
     refine zD hD ?_
     refine qd 11 rfl ?_
     refine QS (ys:=[x].flatMap Zz) Zu rfl rfl ZO hQ.cut ⟨rfl,fun _=>rfl,zzk⟩ (by decide) (by omega) rfl rfl ?_
     intro v1 L1 hO1
     rw [←List.flatMap_append] at hO1
     obtain ⟨a1,c1,rfl⟩:=hO1.shape
     refine Qb ?_
     refine zD hD ?_
     refine zT 12 rfl (Qa rfl Zg) hD ?_
     refine qd 13 rfl ?_
     refine Q0 rfl rfl YW rfl rfl (by (repeat (first | exact Upd.here | apply Upd.there | apply Qu))) rfl ?_
     refine Qb ?_
     refine zD hD ?_
     refine Qn (by kernel_rfl) ?_
     refine Qx ?_
     exact zm (h:=⟨_,_,rfl,rfl,rfl,hO1⟩)
    refine zpb [(0,_)] [Zz x] ZO (fun b_30=>?_)
    refine Qb ?_
    refine zD hD ?_
    refine qd 6 rfl ?_
    refine zL Zn ?_
    refine Qb ?_
    refine zD hD ?_
    refine zT 7 rfl (Q4 rfl Ze) hD ?_
    refine zT 8 rfl (Zm rfl rfl rfl Ze (fun hg=>by omega)) hD ?_
    refine qd 11 rfl ?_
    refine QS (ys:=[x].flatMap Zz) Zu rfl rfl ZO hQ.cut ⟨rfl,fun _=>rfl,zzk⟩ (by decide) (by omega) rfl rfl ?_
    intro v1 L1 hO1
    rw [←List.flatMap_append] at hO1
    obtain ⟨a1,c1,rfl⟩:=hO1.shape
    refine Qb ?_
    refine zD hD ?_
    refine zT 12 rfl (Qa rfl Zg) hD ?_
    refine qd 13 rfl ?_
    refine Q0 rfl rfl YW rfl rfl (by (repeat (first | exact Upd.here | apply Upd.there | apply Qu))) rfl ?_
    refine Qb ?_
    refine zD hD ?_
    refine Qn (by kernel_rfl) ?_
    refine Qx ?_
    exact zm (h:=⟨_,_,rfl,rfl,rfl,hO1⟩)
   ·
    refine zL Zn ?_
    refine Qb ?_
    refine zD hD ?_
    refine zT 7 rfl (Q4 rfl Ze) hD ?_
    refine QW 1 10 rfl rfl (by kernel_rfl) ?_ ?_
    ·
     refine zL Zn ?_
     refine Qb ?_
     refine zD hD ?_
     refine zT 8 rfl (Zm rfl rfl rfl Ze (fun hg=>by omega)) hD ?_
     refine qd 10 rfl ?_
     refine zpb [(0,_)] [Zz x] ZO (fun b_30=>?_)
     refine Qb ?_
     refine zD hD ?_
     refine qd 11 rfl ?_
     refine QS (ys:=[x].flatMap Zz) Zu rfl rfl ZO hQ.cut ⟨rfl,fun _=>rfl,zzk⟩ (by decide) (by omega) rfl rfl ?_
     intro v1 L1 hO1
     rw [←List.flatMap_append] at hO1
     obtain ⟨a1,c1,rfl⟩:=hO1.shape
     refine Qb ?_
     refine zD hD ?_
     refine zT 12 rfl (Qa rfl Zg) hD ?_
     refine qd 13 rfl ?_
     refine Q0 rfl rfl YW rfl rfl (by (repeat (first | exact Upd.here | apply Upd.there | apply Qu))) rfl ?_
     refine Qb ?_
     refine zD hD ?_
     refine Qn (by kernel_rfl) ?_
     refine Qx ?_
     exact zm (h:=⟨_,_,rfl,rfl,rfl,hO1⟩)
    refine zpb [(0,_)] [Zz x] ZO (fun b_30=>?_)
    refine Qb ?_
    refine zD hD ?_
    refine qd 1 rfl ?_
    refine zL Zn ?_
    refine Qb ?_
    refine zD hD ?_
    refine zT 8 rfl (Zm rfl rfl rfl Ze (fun hg=>by omega)) hD ?_
    refine qd 11 rfl ?_
    refine QS (ys:=[x].flatMap Zz) Zu rfl rfl ZO hQ.cut ⟨rfl,fun _=>rfl,zzk⟩ (by decide) (by omega) rfl rfl ?_
    intro v1 L1 hO1
    rw [←List.flatMap_append] at hO1
    obtain ⟨a1,c1,rfl⟩:=hO1.shape
    refine Qb ?_
    refine zD hD ?_
    refine zT 12 rfl (Qa rfl Zg) hD ?_
    refine qd 13 rfl ?_
    refine Q0 rfl rfl YW rfl rfl (by (repeat (first | exact Upd.here | apply Upd.there | apply Qu))) rfl ?_
    refine Qb ?_
    refine zD hD ?_
    refine Qn (by kernel_rfl) ?_
    refine Qx ?_
    exact zm (h:=⟨_,_,rfl,rfl,rfl,hO1⟩)
   refine zpb [(0,_)] [Zz x] ZO (fun b_30=>?_)
   refine Qb ?_
   refine zD hD ?_
   refine QW 1 6 rfl rfl (by kernel_rfl) ?_ ?_
   ·
    refine zL Zn ?_
    refine Qb ?_
    refine zD hD ?_
    refine qd 6 rfl ?_
    refine zL Zn ?_
    refine Qb ?_
    refine zD hD ?_
    refine zT 7 rfl (Q4 rfl Ze) hD ?_
    refine zT 8 rfl (Zm rfl rfl rfl Ze (fun hg=>by omega)) hD ?_
    refine qd 11 rfl ?_
    refine QS (ys:=[x].flatMap Zz) Zu rfl rfl ZO hQ.cut ⟨rfl,fun _=>rfl,zzk⟩ (by decide) (by omega) rfl rfl ?_
    intro v1 L1 hO1
    rw [←List.flatMap_append] at hO1
    obtain ⟨a1,c1,rfl⟩:=hO1.shape
    refine Qb ?_
    refine zD hD ?_
    refine zT 12 rfl (Qa rfl Zg) hD ?_
    refine qd 13 rfl ?_
    refine Q0 rfl rfl YW rfl rfl (by (repeat (first | exact Upd.here | apply Upd.there | apply Qu))) rfl ?_
    refine Qb ?_
    refine zD hD ?_
    refine Qn (by kernel_rfl) ?_
    refine Qx ?_
    exact zm (h:=⟨_,_,rfl,rfl,rfl,hO1⟩)
   refine zL Zn ?_
   refine Qb ?_
   refine zD hD ?_
   refine zT 7 rfl (Q4 rfl Ze) hD ?_
   refine qd 1 rfl ?_
   refine zL Zn ?_
   refine Qb ?_
   refine zD hD ?_
   refine zT 8 rfl (Zm rfl rfl rfl Ze (fun hg=>by omega)) hD ?_
   refine qd 11 rfl ?_
   refine QS (ys:=[x].flatMap Zz) Zu rfl rfl ZO hQ.cut ⟨rfl,fun _=>rfl,zzk⟩ (by decide) (by omega) rfl rfl ?_
   intro v1 L1 hO1
   rw [←List.flatMap_append] at hO1
   obtain ⟨a1,c1,rfl⟩:=hO1.shape
   refine Qb ?_
   refine zD hD ?_
   refine zT 12 rfl (Qa rfl Zg) hD ?_
   refine qd 13 rfl ?_
   refine Q0 rfl rfl YW rfl rfl (by (repeat (first | exact Upd.here | apply Upd.there | apply Qu))) rfl ?_
   refine Qb ?_
   refine zD hD ?_
   refine Qn (by kernel_rfl) ?_
   refine Qx ?_
   exact zm (h:=⟨_,_,rfl,rfl,rfl,hO1⟩)
  ·
   refine zL Zn ?_
   refine Qb ?_
   refine zD hD ?_
   refine zT 7 rfl (Q4 rfl Ze) hD ?_
   refine VD 1 3 10 rfl rfl rfl (by kernel_rfl) ?_ ?_ ?_
   ·
    refine zL Zn ?_
    refine Qb ?_
    refine zD hD ?_
    refine QW 3 10 rfl rfl (by kernel_rfl) ?_ ?_
    ·
     refine zL Zn ?_
     refine Qb ?_
     refine zD hD ?_
     refine zT 4 rfl (Q4 rfl Ze) hD ?_
     refine zT 8 rfl (Zm rfl rfl rfl Ze (fun hg=>by omega)) hD ?_
     refine qd 10 rfl ?_
     refine zpb [(0,_)] [Zz x] ZO (fun b_30=>?_)
     refine Qb ?_
     refine zD hD ?_
     refine qd 11 rfl ?_
     refine QS (ys:=[x].flatMap Zz) Zu rfl rfl ZO hQ.cut ⟨rfl,fun _=>rfl,zzk⟩ (by decide) (by omega) rfl rfl ?_
     intro v1 L1 hO1
     rw [←List.flatMap_append] at hO1
     obtain ⟨a1,c1,rfl⟩:=hO1.shape
     refine Qb ?_
     refine zD hD ?_
     refine zT 12 rfl (Qa rfl Zg) hD ?_
     refine qd 13 rfl ?_
     refine Q0 rfl rfl YW rfl rfl (by (repeat (first | exact Upd.here | apply Upd.there | apply Qu))) rfl ?_
     refine Qb ?_
     refine zD hD ?_
     refine Qn (by kernel_rfl) ?_
     refine Qx ?_
     exact zm (h:=⟨_,_,rfl,rfl,rfl,hO1⟩)
    refine zpb [(0,_)] [Zz x] ZO (fun b_30=>?_)
    refine Qb ?_
    refine zD hD ?_
    refine qd 3 rfl ?_
    refine zL Zn ?_
    refine Qb ?_
    refine zD hD ?_
    refine zT 4 rfl (Q4 rfl Ze) hD ?_
    refine zT 8 rfl (Zm rfl rfl rfl Ze (fun hg=>by omega)) hD ?_
    refine qd 11 rfl ?_
    refine QS (ys:=[x].flatMap Zz) Zu rfl rfl ZO hQ.cut ⟨rfl,fun _=>rfl,zzk⟩ (by decide) (by omega) rfl rfl ?_
    intro v1 L1 hO1
    rw [←List.flatMap_append] at hO1
    obtain ⟨a1,c1,rfl⟩:=hO1.shape
    refine Qb ?_
    refine zD hD ?_
    refine zT 12 rfl (Qa rfl Zg) hD ?_
    refine qd 13 rfl ?_
    refine Q0 rfl rfl YW rfl rfl (by (repeat (first | exact Upd.here | apply Upd.there | apply Qu))) rfl ?_
    refine Qb ?_
    refine zD hD ?_
    refine Qn (by kernel_rfl) ?_
    refine Qx ?_
    exact zm (h:=⟨_,_,rfl,rfl,rfl,hO1⟩)
   ·
    refine zL Zn ?_
    refine Qb ?_
    refine zD hD ?_
    refine zT 4 rfl (Q4 rfl Ze) hD ?_
    refine QW 1 10 rfl rfl (by kernel_rfl) ?_ ?_
    ·
     refine zL Zn ?_
     refine Qb ?_
     refine zD hD ?_
     refine zT 8 rfl (Zm rfl rfl rfl Ze (fun hg=>by omega)) hD ?_
     refine qd 10 rfl ?_
     refine zpb [(0,_)] [Zz x] ZO (fun b_30=>?_)
     refine Qb ?_
     refine zD hD ?_
     refine qd 11 rfl ?_
     refine QS (ys:=[x].flatMap Zz) Zu rfl rfl ZO hQ.cut ⟨rfl,fun _=>rfl,zzk⟩ (by decide) (by omega) rfl rfl ?_
     intro v1 L1 hO1
     rw [←List.flatMap_append] at hO1
     obtain ⟨a1,c1,rfl⟩:=hO1.shape
     refine Qb ?_
     refine zD hD ?_
     refine zT 12 rfl (Qa rfl Zg) hD ?_
     refine qd 13 rfl ?_
     refine Q0 rfl rfl YW rfl rfl (by (repeat (first | exact Upd.here | apply Upd.there | apply Qu))) rfl ?_
     refine Qb ?_
     refine zD hD ?_
     refine Qn (by kernel_rfl) ?_
     refine Qx ?_
     exact zm (h:=⟨_,_,rfl,rfl,rfl,hO1⟩)
    refine zpb [(0,_)] [Zz x] ZO (fun b_30=>?_)
    refine Qb ?_
    refine zD hD ?_
    refine qd 1 rfl ?_
    refine zL Zn ?_
    refine Qb ?_
    refine zD hD ?_
    refine zT 8 rfl (Zm rfl rfl rfl Ze (fun hg=>by omega)) hD ?_
    refine qd 11 rfl ?_
    refine QS (ys:=[x].flatMap Zz) Zu rfl rfl ZO hQ.cut ⟨rfl,fun _=>rfl,zzk⟩ (by decide) (by omega) rfl rfl ?_
    intro v1 L1 hO1
    rw [←List.flatMap_append] at hO1
    obtain ⟨a1,c1,rfl⟩:=hO1.shape
    refine Qb ?_
    refine zD hD ?_
    refine zT 12 rfl (Qa rfl Zg) hD ?_
    refine qd 13 rfl ?_
    refine Q0 rfl rfl YW rfl rfl (by (repeat (first | exact Upd.here | apply Upd.there | apply Qu))) rfl ?_
    refine Qb ?_
    refine zD hD ?_
    refine Qn (by kernel_rfl) ?_
    refine Qx ?_
    exact zm (h:=⟨_,_,rfl,rfl,rfl,hO1⟩)
   refine zpb [(0,_)] [Zz x] ZO (fun b_30=>?_)
   refine Qb ?_
   refine zD hD ?_
   refine QW 1 3 rfl rfl (by kernel_rfl) ?_ ?_
   ·
    refine zL Zn ?_
    refine Qb ?_
    refine zD hD ?_
    refine qd 3 rfl ?_
    refine zL Zn ?_
    refine Qb ?_
    refine zD hD ?_
    refine zT 4 rfl (Q4 rfl Ze) hD ?_
    refine zT 8 rfl (Zm rfl rfl rfl Ze (fun hg=>by omega)) hD ?_
    refine qd 11 rfl ?_
    refine QS (ys:=[x].flatMap Zz) Zu rfl rfl ZO hQ.cut ⟨rfl,fun _=>rfl,zzk⟩ (by decide) (by omega) rfl rfl ?_
    intro v1 L1 hO1
    rw [←List.flatMap_append] at hO1
    obtain ⟨a1,c1,rfl⟩:=hO1.shape
    refine Qb ?_
    refine zD hD ?_
    refine zT 12 rfl (Qa rfl Zg) hD ?_
    refine qd 13 rfl ?_
    refine Q0 rfl rfl YW rfl rfl (by (repeat (first | exact Upd.here | apply Upd.there | apply Qu))) rfl ?_
    refine Qb ?_
    refine zD hD ?_
    refine Qn (by kernel_rfl) ?_
    refine Qx ?_
    exact zm (h:=⟨_,_,rfl,rfl,rfl,hO1⟩)
   refine zL Zn ?_
   refine Qb ?_
   refine zD hD ?_
   refine zT 4 rfl (Q4 rfl Ze) hD ?_
   refine qd 1 rfl ?_
   refine zL Zn ?_
   refine Qb ?_
   refine zD hD ?_
   refine zT 8 rfl (Zm rfl rfl rfl Ze (fun hg=>by omega)) hD ?_
   refine qd 11 rfl ?_
   refine QS (ys:=[x].flatMap Zz) Zu rfl rfl ZO hQ.cut ⟨rfl,fun _=>rfl,zzk⟩ (by decide) (by omega) rfl rfl ?_
   intro v1 L1 hO1
   rw [←List.flatMap_append] at hO1
   obtain ⟨a1,c1,rfl⟩:=hO1.shape
   refine Qb ?_
   refine zD hD ?_
   refine zT 12 rfl (Qa rfl Zg) hD ?_
   refine qd 13 rfl ?_
   refine Q0 rfl rfl YW rfl rfl (by (repeat (first | exact Upd.here | apply Upd.there | apply Qu))) rfl ?_
   refine Qb ?_
   refine zD hD ?_
   refine Qn (by kernel_rfl) ?_
   refine Qx ?_
   exact zm (h:=⟨_,_,rfl,rfl,rfl,hO1⟩)
  refine zpb [(0,_)] [Zz x] ZO (fun b_30=>?_)
  refine Qb ?_
  refine zD hD ?_
  refine VD 1 3 6 rfl rfl rfl (by kernel_rfl) ?_ ?_ ?_
  ·
   refine zL Zn ?_
   refine Qb ?_
   refine zD hD ?_
   refine QW 3 6 rfl rfl (by kernel_rfl) ?_ ?_
   ·
    refine zL Zn ?_
    refine Qb ?_
    refine zD hD ?_
    refine zT 4 rfl (Q4 rfl Ze) hD ?_
    refine qd 6 rfl ?_
    refine zL Zn ?_
    refine Qb ?_
    refine zD hD ?_
    refine zT 7 rfl (Q4 rfl Ze) hD ?_
    refine zT 8 rfl (Zm rfl rfl rfl Ze (fun hg=>by omega)) hD ?_
    refine qd 11 rfl ?_
    refine QS (ys:=[x].flatMap Zz) Zu rfl rfl ZO hQ.cut ⟨rfl,fun _=>rfl,zzk⟩ (by decide) (by omega) rfl rfl ?_
    intro v1 L1 hO1
    rw [←List.flatMap_append] at hO1
    obtain ⟨a1,c1,rfl⟩:=hO1.shape
    refine Qb ?_
    refine zD hD ?_
    refine zT 12 rfl (Qa rfl Zg) hD ?_
    refine qd 13 rfl ?_
    refine Q0 rfl rfl YW rfl rfl (by (repeat (first | exact Upd.here | apply Upd.there | apply Qu))) rfl ?_
    refine Qb ?_
    refine zD hD ?_
    refine Qn (by kernel_rfl) ?_
    refine Qx ?_
    exact zm (h:=⟨_,_,rfl,rfl,rfl,hO1⟩)
   refine zL Zn ?_
   refine Qb ?_
   refine zD hD ?_
   refine zT 7 rfl (Q4 rfl Ze) hD ?_
   refine qd 3 rfl ?_
   refine zL Zn ?_
   refine Qb ?_
   refine zD hD ?_
   refine zT 4 rfl (Q4 rfl Ze) hD ?_
   refine zT 8 rfl (Zm rfl rfl rfl Ze (fun hg=>by omega)) hD ?_
   refine qd 11 rfl ?_
   refine QS (ys:=[x].flatMap Zz) Zu rfl rfl ZO hQ.cut ⟨rfl,fun _=>rfl,zzk⟩ (by decide) (by omega) rfl rfl ?_
   intro v1 L1 hO1
   rw [←List.flatMap_append] at hO1
   obtain ⟨a1,c1,rfl⟩:=hO1.shape
   refine Qb ?_
   refine zD hD ?_
   refine zT 12 rfl (Qa rfl Zg) hD ?_
   refine qd 13 rfl ?_
   refine Q0 rfl rfl YW rfl rfl (by (repeat (first | exact Upd.here | apply Upd.there | apply Qu))) rfl ?_
   refine Qb ?_
   refine zD hD ?_
   refine Qn (by kernel_rfl) ?_
   refine Qx ?_
   exact zm (h:=⟨_,_,rfl,rfl,rfl,hO1⟩)
  ·
   refine zL Zn ?_
   refine Qb ?_
   refine zD hD ?_
   refine zT 4 rfl (Q4 rfl Ze) hD ?_
   refine QW 1 6 rfl rfl (by kernel_rfl) ?_ ?_
   ·
    refine zL Zn ?_
    refine Qb ?_
    refine zD hD ?_
    refine qd 6 rfl ?_
    refine zL Zn ?_
    refine Qb ?_
    refine zD hD ?_
    refine zT 7 rfl (Q4 rfl Ze) hD ?_
    refine zT 8 rfl (Zm rfl rfl rfl Ze (fun hg=>by omega)) hD ?_
    refine qd 11 rfl ?_
    refine QS (ys:=[x].flatMap Zz) Zu rfl rfl ZO hQ.cut ⟨rfl,fun _=>rfl,zzk⟩ (by decide) (by omega) rfl rfl ?_
    intro v1 L1 hO1
    rw [←List.flatMap_append] at hO1
    obtain ⟨a1,c1,rfl⟩:=hO1.shape
    refine Qb ?_
    refine zD hD ?_
    refine zT 12 rfl (Qa rfl Zg) hD ?_
    refine qd 13 rfl ?_
    refine Q0 rfl rfl YW rfl rfl (by (repeat (first | exact Upd.here | apply Upd.there | apply Qu))) rfl ?_
    refine Qb ?_
    refine zD hD ?_
    refine Qn (by kernel_rfl) ?_
    refine Qx ?_
    exact zm (h:=⟨_,_,rfl,rfl,rfl,hO1⟩)
   refine zL Zn ?_
   refine Qb ?_
   refine zD hD ?_
   refine zT 7 rfl (Q4 rfl Ze) hD ?_
   refine qd 1 rfl ?_
   refine zL Zn ?_
   refine Qb ?_
   refine zD hD ?_
   refine zT 8 rfl (Zm rfl rfl rfl Ze (fun hg=>by omega)) hD ?_
   refine qd 11 rfl ?_
   refine QS (ys:=[x].flatMap Zz) Zu rfl rfl ZO hQ.cut ⟨rfl,fun _=>rfl,zzk⟩ (by decide) (by omega) rfl rfl ?_
   intro v1 L1 hO1
   rw [←List.flatMap_append] at hO1
   obtain ⟨a1,c1,rfl⟩:=hO1.shape
   refine Qb ?_
   refine zD hD ?_
   refine zT 12 rfl (Qa rfl Zg) hD ?_
   refine qd 13 rfl ?_
   refine Q0 rfl rfl YW rfl rfl (by (repeat (first | exact Upd.here | apply Upd.there | apply Qu))) rfl ?_
   refine Qb ?_
   refine zD hD ?_
   refine Qn (by kernel_rfl) ?_
   refine Qx ?_
   exact zm (h:=⟨_,_,rfl,rfl,rfl,hO1⟩)
  refine zL Zn ?_
  refine Qb ?_
  refine zD hD ?_
  refine zT 7 rfl (Q4 rfl Ze) hD ?_
  refine QW 1 3 rfl rfl (by kernel_rfl) ?_ ?_
  ·
   refine zL Zn ?_
   refine Qb ?_
   refine zD hD ?_
   refine qd 3 rfl ?_
   refine zL Zn ?_
   refine Qb ?_
   refine zD hD ?_
   refine zT 4 rfl (Q4 rfl Ze) hD ?_
   refine zT 8 rfl (Zm rfl rfl rfl Ze (fun hg=>by omega)) hD ?_
   refine qd 11 rfl ?_
   refine QS (ys:=[x].flatMap Zz) Zu rfl rfl ZO hQ.cut ⟨rfl,fun _=>rfl,zzk⟩ (by decide) (by omega) rfl rfl ?_
   intro v1 L1 hO1
   rw [←List.flatMap_append] at hO1
   obtain ⟨a1,c1,rfl⟩:=hO1.shape
   refine Qb ?_
   refine zD hD ?_
   refine zT 12 rfl (Qa rfl Zg) hD ?_
   refine qd 13 rfl ?_
   refine Q0 rfl rfl YW rfl rfl (by (repeat (first | exact Upd.here | apply Upd.there | apply Qu))) rfl ?_
   refine Qb ?_
   refine zD hD ?_
   refine Qn (by kernel_rfl) ?_
   refine Qx ?_
   exact zm (h:=⟨_,_,rfl,rfl,rfl,hO1⟩)
  refine zL Zn ?_
  refine Qb ?_
  refine zD hD ?_
  refine zT 4 rfl (Q4 rfl Ze) hD ?_
  refine qd 1 rfl ?_
  refine zL Zn ?_
  refine Qb ?_
  refine zD hD ?_
  refine zT 8 rfl (Zm rfl rfl rfl Ze (fun hg=>by omega)) hD ?_
  refine qd 11 rfl ?_
  refine QS (ys:=[x].flatMap Zz) Zu rfl rfl ZO hQ.cut ⟨rfl,fun _=>rfl,zzk⟩ (by decide) (by omega) rfl rfl ?_
  intro v1 L1 hO1
  rw [←List.flatMap_append] at hO1
  obtain ⟨a1,c1,rfl⟩:=hO1.shape
  refine Qb ?_
  refine zD hD ?_
  refine zT 12 rfl (Qa rfl Zg) hD ?_
  refine qd 13 rfl ?_
  refine Q0 rfl rfl YW rfl rfl (by (repeat (first | exact Upd.here | apply Upd.there | apply Qu))) rfl ?_
  refine Qb ?_
  refine zD hD ?_
  refine Qn (by kernel_rfl) ?_
  refine Qx ?_
  exact zm (h:=⟨_,_,rfl,rfl,rfl,hO1⟩)
 rintro E I' loc' ⟨v,L,rfl,rfl,rfl,hO⟩
 refine Qm ?_
 refine zx4 hO Zu (fun I3 hI3 af3 cf3 ef3 hZ=>?_)
 subst ef3
 have hIc:=hIc.trans hI3
 refine Qi ?_
 refine zV (Qg rfl ZM (fun hg=>by exact Cells.g1) rfl) ?_
 refine zh Yp ?_
 refine zA (zN (Qs ?_))
 first
 | exact ZN rfl rfl rfl ZM zzk rfl (fun w hw=>⟨_,I3,[],rfl,hIc,hw.drop.drop,_,_,_,_,_,_,by rw [hs3]<;>rfl,rfl,zdz hs3 hZ,fun _=>rfl⟩)
end
section
open Go Go.Kn Go.Proofs
theorem zf3:Fun Tryz.prog 176:=.of Tryz.func176 (by kernel_rfl) (by kernel_rfl)
theorem zgX {I:Qt}{qa aa:Option Addr}{qn qc an ac:Nat}{qs:List Pk}{ks:List (Int×Int)}(hQ:Sl I 3 Zz qa qn qc qs)(hqn:qn≤100000)(hA:Sl I 2 KY aa an ac ks)(han:an≤100000)(i:Int):Vl Tryz.prog 115 [.agg #[.slice qa qn qc,.slice aa an ac],.int .i64 i] I [] (fun v I' L'=>∃ a m c a2 m2 c2,v= .tuple #[.agg #[.slice a m c,.slice a2 m2 c2],.int .i64 (Wh qs ks i)]∧L'=[]∧ziE I' (Wh qs ks i) a m c a2 m2 c2 (qs++[atP qs ks i]) aa an ac):=by
 intro g H w hw
 refine qe Tryz.func115 Tryz.ntmps115 hw ?_
 have hIc:=zzm I
 refine zR ?_
 refine QR rfl rfl rfl (fun b_2=>?_)
 refine Qq UI rfl rfl (fun b_4=>?_)
 refine zA ?_
 refine zN (zR ?_)
 refine zV (Qg rfl ZM (fun hg=>by exact Cells.g1) rfl) ?_
 refine zM ?_
 refine qcV (vs:=[_,_]) rfl zfC (zxC hQ hqn hA han i) ?_
 refine zM ?_
 refine zE ?_
 refine zE ?_
 refine Qq zcd rfl rfl (fun b_6=>?_)
 refine zh JD ?_
 refine zA (zN (Qm (zR ?_)))
 refine zM ?_
 refine zC (zN ?_)
 refine zI ?_ ?_<;>intro hc14
 ·
  have he:atE qs ks i≠0:=by simpa using hc14
  have hrp:Wh qs ks i=atE qs ks i:=if_neg he
  refine zR ?_
  refine zV (Qg rfl ZM (fun hg=>by exact Cells.g1) rfl) ?_
  refine zM ?_
  refine zh Yp ?_
  refine zA (zN (Qs (Qe ?_)))
  first
  | exact ZN rfl rfl rfl ZM (.there .here) rfl (fun w hw=>⟨_,I,[],rfl,hIc,hw.drop.drop.drop,_,_,_,_,_,_,by rw [hrp]<;>rfl,rfl,by rw [hrp];first | exact Xt he | exact hZ⟩)
 have he:atE qs ks i=0:=by simpa using hc14
 have hrp:Wh qs ks i=Up qs ks (atP qs ks i):=if_pos he
 refine Qr (Qd (zR ?_))
 refine zV (Qg rfl ZM (fun hg=>by exact Cells.g2) rfl) ?_
 refine zV (Qg rfl VT (fun hg=>by exact Cells.g0) rfl) ?_
 refine zpc [_,_] rfl zf3 .nil (zkQ hQ hqn hA han (atP qs ks i)) ?_
 rintro vv1 I1 L1 hI1 ⟨a4,m4,c4,a5,m5,c5,rfl,rfl,hZ,hm⟩
 have hIc:=hIc.trans hI1
 refine zE ?_
 refine zE ?_
 refine zh Yp ?_
 refine zA (zN (Qs ?_))
 first
 | exact ZN rfl rfl rfl ZM (.there .here) rfl (fun w hw=>⟨_,I1,[],rfl,hIc,hw.drop.drop.drop,_,_,_,_,_,_,by rw [hrp]<;>rfl,rfl,by rw [hrp];first | exact Xt he | exact hZ⟩)
end
end Go.Proofs.YtjblkbkmblkgoaaGreat
namespace Go.Kn
section
open Go
def LdV (P:Program)(I:Qt)(loc:Loc)(tt b:Nat)(v:Value):Prop:=∀ (g:World) (H:Qt) (w:World),St g I H loc w→(loadVar tt ⟨b,0,none⟩).run P w= .ok v w
theorem LdV.ag {P:Program}{I:Qt}{loc:Loc}{tt b n:Nat}{vs:List Value}(hA:AgT P tt n)(hc:Cells I loc b 0 vs)(hn:vs.length=n):LdV P I loc tt b (.agg vs.toArray):=fun g H w hw=>by
 have h1:(loadCells ⟨b,0,none⟩ n).run P w= .ok vs.toArray w:=by
  rw [←hn]
  exact run_loadCells_list w _ _ fun j v hj=>by rw [ZS];exact (hc j v hj).get hw
 have hA':=hA
 obtain ⟨_,i,h2,h3⟩:=hA'
 simp only [loadVar,Sem.run_bind,Sem.run_pure,YU hA,Result.andThen,if_true,run_sizeOf h2,h3,h1]
section
variable {P:Program} {fn:Func} {R:Ending→World→Prop} {N:Nat} {g:World} {I H:Qt} {loc:Loc} {E:Env} {r:Option Nat}
theorem zbf {t u s tt tt' b b':Nat}{v v' v'':Value}(hr:fn.results= #[.cell t tt,.cell u tt',.tmp s])(hv:Vu E t=some (.pointer (some ⟨b,0,none⟩)))(hv':Vu E u=some (.pointer (some ⟨b',0,none⟩)))(hv'':Vu E s=some v'')(hl:LdV P I loc tt b v)(hl':LdV P I loc tt' b' v')
  (h:∀ w,St g I H loc w→R (.returned (.tuple #[v,v',v''])) w):At ⟨P,r,N,[],g,H⟩ (bodyPost P fn R) .ret E I loc:=fun a w ha hw=>
 ⟨ha.defers,.tuple #[v,v',v''],by
  have e1:=ha.env _ _ hv
  have e2:=ha.env _ _ hv'
  have e3:=ha.env _ _ hv''
  rw [Array.getD_eq_getD_getElem?] at e1 e2 e3
  have l1:=hl _ _ _ hw
  have l2:=hl' _ _ _ hw
  simp only [results,hr]
  simp [List.mapM_cons,e1,e2,e3,asAddr,l1,l2],h w hw⟩
end
end
end Go.Kn
namespace Go.Proofs.YtjblkbkmblkgoaaGreat
section
open Go Go.Kn Go.Proofs
theorem zsA:Fun Tryz.prog 178:=.of Tryz.func178 (by kernel_rfl) (by kernel_rfl)
theorem zla:PlT Tryz.prog 99 #[(0,1),(1,1),(2,1)] (.agg #[(.int .i64 0),(.int .i64 0),(.slice none 0 0)]):=⟨.of (by kernel_rfl),by kernel_rfl,fun w=>by kernel_rfl⟩
theorem Uy {I:Qt}{qa aa:Option Addr}{qn qc an ac:Nat}{qs:List Pk}{ks:List (Int×Int)}(hQ:Sl I 3 Zz qa qn qc qs)(hqn:qn≤100000)(hA:Sl I 2 KY aa an ac ks)(han:an≤100000)(i:Int):Vl Tryz.prog 113 [.agg #[.slice qa qn qc,.slice aa an ac],.int .i64 i] I [] (fun v I' L'=>∃ pk a m c a2 m2 c2,v= .tuple #[Xk pk,.agg #[.slice a m c,.slice a2 m2 c2],.int .i64 (atE qs ks i)]∧L'=[]∧(atE qs ks i=0→pk=Jb qs ks i)∧ziE I' (atE qs ks i) a m c a2 m2 c2 (qs.eraseIdx i.toNat) aa an ac):=by
 intro g H w hw
 refine qe Tryz.func113 Tryz.ntmps113 hw ?_
 have hIc:=zzm I
 refine zR ?_
 refine QR rfl rfl rfl (fun b_2=>?_)
 refine Qq zcd rfl rfl (fun b_4=>?_)
 refine Qq UI rfl rfl (fun b_5=>?_)
 refine zA (zN (Qm (zR ?_)))
 refine zV (Qg rfl ZM (fun hg=>by exact Cells.g2) rfl) ?_
 refine zM ?_
 refine qcV (vs:=[_,_]) rfl zfC (zxC hQ hqn hA han i) ?_
 refine zM ?_
 refine zE ?_
 refine zE ?_
 refine zh JD ?_
 refine zA ?_
 refine zN (zR ?_)
 refine zM ?_
 refine zC (zN ?_)
 refine zI ?_ ?_<;>intro hc14
 ·
  have he:atE qs ks i≠0:=by simpa using hc14
  refine Qm ?_
  have hD:=zzm I
  refine Zt ?_
  refine QQ I [(b_5,.cells #[.slice none 0 0,.slice none 0 0] 26 (0,0)),(b_4,.cells (Zz (atP qs ks i)).toArray 99 (0,0))] mixed ?_
  refine zT 0 rfl (Qg rfl VT (fun hg=>by exact Cells.g1) rfl) hD ?_
  refine zT 1 rfl (Qg rfl ZM (fun hg=>by exact Cells.g0) rfl) hD ?_
  refine zT 2 rfl (Qf rfl) hD ?_
  refine qd 3 rfl ?_
  refine zh JD ?_
  refine Qb ?_
  refine zD hD ?_
  refine qd 4 rfl ?_
  refine zh Yp ?_
  refine Qb ?_
  refine zD hD ?_
  refine zT 5 rfl (QC rfl) hD ?_
  refine Qn (by kernel_rfl) ?_
  refine Qx ?_
  refine Qd (Qs (Qe ?_))
  exact zbf rfl rfl rfl rfl (.ag VT (.there .here) rfl) (.ag ZM .here rfl) (fun w hw=>⟨_,I,[],rfl,hIc,hw.drop.drop.drop,_,_,_,_,_,_,_,rfl,rfl,fun h=>absurd h he,Xt he⟩)
 have he:atE qs ks i=0:=by simpa using hc14
 have hr:0≤i∧i<(qn:Int):=by have h:=zcH he;rw [hQ.len] at h;exact h
 refine Qr (Qd (Qm (Qm ?_)))
 have hD:=zzm I
 refine Zt ?_
 refine QQ I [(b_4,.cells (Zz (atP qs ks i)).toArray 99 (0,0)),(b_2,.cells #[.slice qa qn qc,.slice aa an ac] 26 (0,0))] mixed ?_
 refine zT 0 rfl (Qa rfl zdp) hD ?_
 refine zT 1 rfl (Qc rfl zmy (fun hg=>by exact QA.h1 rfl)) hD ?_
 refine zT 2 rfl (Qa rfl zax) hD ?_
 refine zT 3 rfl (Qc rfl Ql (fun hg=>by exact QA.h0 rfl)) hD ?_
 refine zT 4 rfl (Qa rfl WU) hD ?_
 refine zT 5 rfl (Qc rfl Ql (fun hg=>by exact QA.h0 rfl)) hD ?_
 refine qd 6 rfl ?_
 refine qcV (vs:=[_,_]) rfl zk0 (zeZ _ _ _) ?_
 refine Qb ?_
 refine zD hD ?_
 refine qd 7 rfl ?_
 refine qcV (vs:=[_,_]) rfl zsA (zyg hA han (_,_)) ?_
 refine Qb ?_
 refine zD hD ?_
 refine Qn (by kernel_rfl) ?_
 refine Qx ?_
 refine Qd ?_
 refine zI ?_ ?_<;>intro hc25
 ·
  have hcut:zp0 ks (atP qs ks i)=true:=hc25
  refine Qi ?_
  refine zV (QK (ps:=[]) [_,_,_] zla rfl rfl) ?_
  refine zh JD ?_
  refine zN (Qm ?_)
  refine zgh (loc':=[(b_5,.cells #[.slice none 0 0,.slice none 0 0] 26 (0,0)),(b_4,.cells (Zz (Jb qs ks i)).toArray 99 (0,0)),(b_2,.cells #[.slice qa qn qc,.slice aa an ac] 26 (0,0))]) (by (rw [zo8 hcut];rfl)) ?_
  have hD:=zzm I
  refine Zt ?_
  refine QQ I [(b_4,.cells (Zz (Jb qs ks i)).toArray 99 (0,0)),(b_2,.cells #[.slice qa qn qc,.slice aa an ac] 26 (0,0))] mixed ?_
  refine zT 0 rfl (Qg rfl VT (fun hg=>by exact Cells.g0) rfl) hD ?_
  refine zT 1 rfl (Qg rfl ZM (fun hg=>by exact Cells.g1) rfl) hD ?_
  refine zT 2 rfl (Qf rfl) hD ?_
  refine qd 3 rfl ?_
  refine zpc [_,_] rfl zfM .nil (zaW hQ hqn hA han hr) ?_
  rintro vv1 I1 L1 hI1 ⟨a4,m4,c4,rfl,hm4,hZ,rfl⟩
  have hIc:=hIc.trans hI1;have hD:=hD.trans hI1
  refine Qb ?_
  refine zD hD ?_
  refine qd 4 rfl ?_
  refine zh JD ?_
  refine Qb ?_
  refine zD hD ?_
  refine qd 5 rfl ?_
  refine zh Yp ?_
  refine Qb ?_
  refine zD hD ?_
  refine zT 6 rfl (QC rfl) hD ?_
  refine Qn (by kernel_rfl) ?_
  refine Qx ?_
  refine Qd (Qs ?_)
  first
  | exact zbf rfl rfl rfl rfl (.ag VT (.there .here) rfl) (.ag ZM .here rfl) (fun w hw=>⟨_,I1,[],rfl,hIc,hw.drop.drop.drop,_,_,_,_,_,_,_,by rw [he]<;>rfl,rfl,fun _=>rfl,zdz he hZ⟩)
 have hcut:zp0 ks (atP qs ks i)=false:=hc25
 refine Qr (Qd (Qm ?_))
 refine zgh (loc':=[(b_5,.cells #[.slice none 0 0,.slice none 0 0] 26 (0,0)),(b_4,.cells (Zz (Jb qs ks i)).toArray 99 (0,0)),(b_2,.cells #[.slice qa qn qc,.slice aa an ac] 26 (0,0))]) (by (rw [zsV hcut]<;>rfl)) ?_
 have hD:=zzm I
 refine Zt ?_
 refine QQ I [(b_4,.cells (Zz (Jb qs ks i)).toArray 99 (0,0)),(b_2,.cells #[.slice qa qn qc,.slice aa an ac] 26 (0,0))] mixed ?_
 refine zT 0 rfl (Qg rfl VT (fun hg=>by exact Cells.g0) rfl) hD ?_
 refine zT 1 rfl (Qg rfl ZM (fun hg=>by exact Cells.g1) rfl) hD ?_
 refine zT 2 rfl (Qf rfl) hD ?_
 refine qd 3 rfl ?_
 refine zpc [_,_] rfl zfM .nil (zaW hQ hqn hA han hr) ?_
 rintro vv2 I2 L2 hI2 ⟨a4,m4,c4,rfl,hm4,hZ,rfl⟩
 have hIc:=hIc.trans hI2;have hD:=hD.trans hI2
 refine Qb ?_
 refine zD hD ?_
 refine qd 4 rfl ?_
 refine zh JD ?_
 refine Qb ?_
 refine zD hD ?_
 refine qd 5 rfl ?_
 refine zh Yp ?_
 refine Qb ?_
 refine zD hD ?_
 refine zT 6 rfl (QC rfl) hD ?_
 refine Qn (by kernel_rfl) ?_
 refine Qx ?_
 refine Qd (Qs ?_)
 first
 | exact zbf rfl rfl rfl rfl (.ag VT (.there .here) rfl) (.ag ZM .here rfl) (fun w hw=>⟨_,I2,[],rfl,hIc,hw.drop.drop.drop,_,_,_,_,_,_,_,by rw [he]<;>rfl,rfl,fun _=>rfl,zdz he hZ⟩)
end
section
open Go Go.Kn Go.Proofs
theorem Yd:QL Tryz.prog 108 0 0:=.of (by kernel_rfl)
theorem Yx:QL Tryz.prog 28 0 0:=.of (by kernel_rfl)
theorem Kc:Fun Tryz.prog 107:=.of Tryz.func107 (by kernel_rfl) (by kernel_rfl)
theorem JG:ScT Tryz.prog 22:=.of (by kernel_rfl)
theorem V7:SlT Tryz.prog 22 59 1:=.of (by kernel_rfl)
theorem UR (I:Qt)(b:Bool)(e:Int):K2 Tryz.prog 107 [.bool b,.int .i64 e] I [] (fun v I' L'=>v= .tuple #[]∧I'=I∧L'=[]∧b=true) (fun v=>v= .iface 50 (.int .i64 e)∧b=false):=by
 intro g H w hw
 refine qe Tryz.func107 Tryz.ntmps107 hw ?_
 have hIc:=zzm I
 refine zR (zM ?_)
 refine zO (zN ?_)
 refine zI ?_ ?_<;>intro hc5
 ·
  refine Qi (zM ?_)
  refine zV (zcs rfl (by kernel_rfl)) ?_
  refine zdU rfl ?_
  repeat (first | apply KZ | apply Kb)
  exact zaY hIc ⟨rfl,by simpa using hc5⟩
 refine Qr ?_
 exact YB (Yh rfl (fun w hw=>.inl ⟨_,I,[],rfl,hIc,hw.drop,rfl,rfl,rfl,by simpa using hc5⟩))
theorem zgd {I:Qt}{bc:Nat}{pa qa aa:Option Addr}{pn pc qn qc an ac:Nat}(i:Int):K2 Tryz.prog 106 [Zw bc,.int .i64 i] I [(bc,.cells #[.slice pa pn pc,.slice qa qn qc,.slice aa an ac] 108 (0,0))] (fun v I' L'=>v= .tuple #[]∧I'=I∧L'=[(bc,.cells #[.slice pa pn pc,.slice qa qn qc,.slice aa an ac] 108 (0,0))]∧0≤i∧i<(pn:Int)) (fun v=>v= .iface 50 (.int .i64 1)∧¬(0≤i∧i<(pn:Int))):=by
 intro g H w hw
 refine qe Tryz.func106 Tryz.ntmps106 hw ?_
 have hIc:=zzm I
 refine Qi (zM ?_)
 refine zC ?_
 refine zM ?_
 refine Qp 2 rfl rfl rfl ?_
 refine zK (Qf rfl) ?_
 refine zK (Qf rfl) ?_
 refine zK (QI rfl) ?_
 refine zK (Qa rfl Yd) ?_
 refine zK (Qa rfl Yx) ?_
 refine zK (Qc rfl JG (fun hg=>by exact QA.h0 rfl)) ?_
 refine zK (Q4 rfl V7) ?_
 refine zK (QD rfl rfl rfl) ?_
 refine Qy rfl rfl rfl rfl rfl ?_
 refine zx5 [_,_] rfl Kc .nil (UR I (decide (i≥0)&&decide (i<(pn:Int))) 1) ?_ (fun pv hpv=>by refine zx6 ?_;exact (⟨hpv.1,by have h:=hpv.2;simp at h;omega⟩))
 rintro vv1 I1 L1 hI1 ⟨rfl,rfl,rfl,hok⟩
 have hIc:=hIc.trans hI1
 have hok2:0≤i∧i<(pn:Int):=by simpa using hok
 refine Qb ?_
 exact YB (Yh rfl (fun w hw=>.inl ⟨_,I1,_,rfl,hIc,hw,rfl,rfl,rfl,hok2.1,hok2.2⟩))
end
section
open Go Go.Kn Go.Proofs
theorem YS:QL Tryz.prog 28 1 1:=.of (by kernel_rfl)
theorem zdD:QL Tryz.prog 47 3 3:=.of (by kernel_rfl)
theorem zlG:Fun Tryz.prog 114:=.of Tryz.func114 (by kernel_rfl) (by kernel_rfl)
theorem zl8:Fun Tryz.prog 115:=.of Tryz.func115 (by kernel_rfl) (by kernel_rfl)
theorem zu8 {I:Qt}{bc:Nat}{pa qa aa:Option Addr}{pn pc qn qc an ac:Nat}{qs:List Pk}{ks:List (Int×Int)}(hQ:Sl I 3 Zz qa qn qc qs)(hqn:qn≤100000)(hA:Sl I 2 KY aa an ac ks)(han:an≤100000)(x:Ev):K2 Tryz.prog 49 [Zw bc,.agg (zel x).toArray] I [(bc,.cells #[.slice pa pn pc,.slice qa qn qc,.slice aa an ac] 108 (0,0))] (fun v I' L'=>v= .tuple #[]∧atE qs ks x.at_=0∧∃ a m c,L'=[(bc,.cells #[.slice pa pn pc,.slice a m c,.slice aa an ac] 108 (0,0))]∧Sl I' 3 Zz a m c (qs.eraseIdx x.at_.toNat)) (fun v=>v= .iface 50 (.int .i64 (atE qs ks x.at_))∧atE qs ks x.at_≠0):=by
 intro g H w hw
 refine qe Tryz.func49 Tryz.ntmps49 hw ?_
 have hIc:=zzm I
 refine zR ?_
 refine QR rfl rfl rfl (fun b_3=>?_)
 refine Qb ?_
 refine QH .here (fun I1 hI1 hb1=>?_)
 have hQ:=hQ.mono hI1;have hA:=hA.mono hI1;have hIc:=hIc.trans hI1
 have h3:=BxI.of hb1
 refine Qd (Qm ?_)
 have hD:=zzm I1
 refine QQ I1 [(bc,.cells #[.slice pa pn pc,.slice qa qn qc,.slice aa an ac] 108 (0,0))] mixed ?_
 refine zT 0 rfl (Qf rfl) hD ?_
 refine zT 1 rfl (QI rfl) hD ?_
 refine zT 2 rfl (Qa rfl Yd) hD ?_
 refine zT 3 rfl (Qa rfl YS) hD ?_
 refine zT 4 rfl (Qg rfl ZM (fun hg=>by exact Cells.s0 (vs:=[_,_]) rfl) rfl) hD ?_
 refine zT 5 rfl (Qa rfl zdD) hD ?_
 refine zT 6 rfl (Qc rfl Ql (fun hg=>by exact QA.imm h3.out rfl)) hD ?_
 refine QW 7 11 rfl rfl (by kernel_rfl) ?_ ?_
 ·
  refine zpc [_,_] rfl zlG .nil (zpZ hQ hqn hA han x.at_) ?_
  rintro vv2 I2 L2 hI2 ⟨a4,m4,c4,a5,m5,c5,rfl,rfl,hZ⟩
  have hIc:=hIc.trans hI2;have hD:=hD.trans hI2
  refine Qb ?_
  refine zD hD ?_
  refine zT 8 rfl (Qf rfl) hD ?_
  refine zT 9 rfl (Q2 rfl rfl) hD ?_
  refine zT 10 rfl (Q2 rfl rfl) hD ?_
  refine qd 11 rfl ?_
  refine Qq UI rfl rfl (fun b_4=>?_)
  refine Qb ?_
  refine zD hD ?_
  refine qd 12 rfl ?_
  refine zh Yp ?_
  refine Qb ?_
  refine zD hD ?_
  refine zT 13 rfl (QC rfl) hD ?_
  refine Qn (by kernel_rfl) ?_
  refine Qd (zR (zM ?_))
  refine zC ?_
  refine zM ?_
  refine zx5 [_,_] rfl Kc .nil (UR I2 (atE qs ks x.at_==0) (atE qs ks x.at_)) ?_ (fun pv hpv=>by refine zx6 ?_;exact (⟨hpv.1,by simpa using hpv.2⟩))
  rintro vv3 I3 L3 hI3 ⟨rfl,rfl,rfl,hok⟩
  have hZ:=hZ.mono hI3;have hIc:=hIc.trans hI3
  have he:atE qs ks x.at_=0:=by simpa using hok
  obtain ⟨rfl,rfl,rfl,hS9⟩:=hZ.ok he
  refine zN (Qi (zM ?_))
  refine zV (Qg rfl ZM (fun hg=>by exact Cells.g0) rfl) ?_
  refine zV (QI rfl) ?_
  refine zF Yd ?_
  refine zF YS ?_
  refine Y4 rfl rfl Yp rfl rfl rfl rfl (by repeat (first | exact Upd.here | apply Upd.there | apply Qu)) ?_
  refine Qb ?_
  exact YB (Yh rfl (fun w hw=>.inl ⟨_,I3,_,rfl,hIc,by exact hw.subL (by repeat (first | exact .refl | refine .drop ?_)),rfl,he,_,_,_,rfl,hS9⟩))
 refine Qq UI rfl rfl (fun b_4=>?_)
 refine Qb ?_
 refine zD hD ?_
 refine qd 7 rfl ?_
 refine zpc [_,_] rfl zlG .nil (zpZ hQ hqn hA han x.at_) ?_
 rintro vv4 I4 L4 hI4 ⟨a4,m4,c4,a5,m5,c5,rfl,rfl,hZ⟩
 have hIc:=hIc.trans hI4;have hD:=hD.trans hI4
 refine Qb ?_
 refine zD hD ?_
 refine zT 8 rfl (Qf rfl) hD ?_
 refine zT 9 rfl (Q2 rfl rfl) hD ?_
 refine zT 10 rfl (Q2 rfl rfl) hD ?_
 refine qd 12 rfl ?_
 refine zh Yp ?_
 refine Qb ?_
 refine zD hD ?_
 refine zT 13 rfl (QC rfl) hD ?_
 refine Qn (by kernel_rfl) ?_
 refine Qd (zR (zM ?_))
 refine zC ?_
 refine zM ?_
 refine zx5 [_,_] rfl Kc .nil (UR I4 (atE qs ks x.at_==0) (atE qs ks x.at_)) ?_ (fun pv hpv=>by refine zx6 ?_;exact (⟨hpv.1,by simpa using hpv.2⟩))
 rintro vv5 I5 L5 hI5 ⟨rfl,rfl,rfl,hok⟩
 have hZ:=hZ.mono hI5;have hIc:=hIc.trans hI5
 have he:atE qs ks x.at_=0:=by simpa using hok
 obtain ⟨rfl,rfl,rfl,hS9⟩:=hZ.ok he
 refine zN (Qi (zM ?_))
 refine zV (Qg rfl ZM (fun hg=>by exact Cells.g0) rfl) ?_
 refine zV (QI rfl) ?_
 refine zF Yd ?_
 refine zF YS ?_
 refine Y4 rfl rfl Yp rfl rfl rfl rfl (by repeat (first | exact Upd.here | apply Upd.there | apply Qu)) ?_
 refine Qb ?_
 exact YB (Yh rfl (fun w hw=>.inl ⟨_,I5,_,rfl,hIc,by exact hw.subL (by repeat (first | exact .refl | refine .drop ?_)),rfl,he,_,_,_,rfl,hS9⟩))
theorem zm7 {I:Qt}{bc:Nat}{pa qa aa:Option Addr}{pn pc qn qc an ac:Nat}{qs:List Pk}{ks:List (Int×Int)}(hQ:Sl I 3 Zz qa qn qc qs)(hqn:qn≤100000)(hA:Sl I 2 KY aa an ac ks)(han:an≤100000)(x:Ev):K2 Tryz.prog 50 [Zw bc,.agg (zel x).toArray] I [(bc,.cells #[.slice pa pn pc,.slice qa qn qc,.slice aa an ac] 108 (0,0))] (fun v I' L'=>v= .tuple #[]∧Wh qs ks x.at_=0∧∃ a m c,L'=[(bc,.cells #[.slice pa pn pc,.slice a m c,.slice aa an ac] 108 (0,0))]∧Sl I' 3 Zz a m c (qs++[atP qs ks x.at_])) (fun v=>v= .iface 50 (.int .i64 (Wh qs ks x.at_))∧Wh qs ks x.at_≠0):=by
 intro g H w hw
 refine qe Tryz.func50 Tryz.ntmps50 hw ?_
 have hIc:=zzm I
 refine zR ?_
 refine QR rfl rfl rfl (fun b_3=>?_)
 refine Qb ?_
 refine QH .here (fun I1 hI1 hb1=>?_)
 have hQ:=hQ.mono hI1;have hA:=hA.mono hI1;have hIc:=hIc.trans hI1
 have h3:=BxI.of hb1
 refine Qd (Qm ?_)
 have hD:=zzm I1
 refine QQ I1 [(bc,.cells #[.slice pa pn pc,.slice qa qn qc,.slice aa an ac] 108 (0,0))] mixed ?_
 refine zT 0 rfl (Qf rfl) hD ?_
 refine zT 1 rfl (QI rfl) hD ?_
 refine zT 2 rfl (Qa rfl Yd) hD ?_
 refine zT 3 rfl (Qa rfl YS) hD ?_
 refine zT 4 rfl (Qg rfl ZM (fun hg=>by exact Cells.s0 (vs:=[_,_]) rfl) rfl) hD ?_
 refine zT 5 rfl (Qa rfl zdD) hD ?_
 refine zT 6 rfl (Qc rfl Ql (fun hg=>by exact QA.imm h3.out rfl)) hD ?_
 refine QW 7 11 rfl rfl (by kernel_rfl) ?_ ?_
 ·
  refine zpc [_,_] rfl zl8 .nil (zgX hQ hqn hA han x.at_) ?_
  rintro vv2 I2 L2 hI2 ⟨a4,m4,c4,a5,m5,c5,rfl,rfl,hZ⟩
  have hIc:=hIc.trans hI2;have hD:=hD.trans hI2
  refine Qb ?_
  refine zD hD ?_
  refine zT 8 rfl (Qf rfl) hD ?_
  refine zT 9 rfl (Q2 rfl rfl) hD ?_
  refine zT 10 rfl (Q2 rfl rfl) hD ?_
  refine qd 11 rfl ?_
  refine Qq UI rfl rfl (fun b_4=>?_)
  refine Qb ?_
  refine zD hD ?_
  refine qd 12 rfl ?_
  refine zh Yp ?_
  refine Qb ?_
  refine zD hD ?_
  refine zT 13 rfl (QC rfl) hD ?_
  refine Qn (by kernel_rfl) ?_
  refine Qd (zR (zM ?_))
  refine zC ?_
  refine zM ?_
  refine zx5 [_,_] rfl Kc .nil (UR I2 (Wh qs ks x.at_==0) (Wh qs ks x.at_)) ?_ (fun pv hpv=>by refine zx6 ?_;exact (⟨hpv.1,by simpa using hpv.2⟩))
  rintro vv3 I3 L3 hI3 ⟨rfl,rfl,rfl,hok⟩
  have hZ:=hZ.mono hI3;have hIc:=hIc.trans hI3
  have he:Wh qs ks x.at_=0:=by simpa using hok
  obtain ⟨rfl,rfl,rfl,hS9⟩:=hZ.ok he
  refine zN (Qi (zM ?_))
  refine zV (Qg rfl ZM (fun hg=>by exact Cells.g0) rfl) ?_
  refine zV (QI rfl) ?_
  refine zF Yd ?_
  refine zF YS ?_
  refine Y4 rfl rfl Yp rfl rfl rfl rfl (by repeat (first | exact Upd.here | apply Upd.there | apply Qu)) ?_
  refine Qb ?_
  exact YB (Yh rfl (fun w hw=>.inl ⟨_,I3,_,rfl,hIc,by exact hw.subL (by repeat (first | exact .refl | refine .drop ?_)),rfl,he,_,_,_,rfl,hS9⟩))
 refine Qq UI rfl rfl (fun b_4=>?_)
 refine Qb ?_
 refine zD hD ?_
 refine qd 7 rfl ?_
 refine zpc [_,_] rfl zl8 .nil (zgX hQ hqn hA han x.at_) ?_
 rintro vv4 I4 L4 hI4 ⟨a4,m4,c4,a5,m5,c5,rfl,rfl,hZ⟩
 have hIc:=hIc.trans hI4;have hD:=hD.trans hI4
 refine Qb ?_
 refine zD hD ?_
 refine zT 8 rfl (Qf rfl) hD ?_
 refine zT 9 rfl (Q2 rfl rfl) hD ?_
 refine zT 10 rfl (Q2 rfl rfl) hD ?_
 refine qd 12 rfl ?_
 refine zh Yp ?_
 refine Qb ?_
 refine zD hD ?_
 refine zT 13 rfl (QC rfl) hD ?_
 refine Qn (by kernel_rfl) ?_
 refine Qd (zR (zM ?_))
 refine zC ?_
 refine zM ?_
 refine zx5 [_,_] rfl Kc .nil (UR I4 (Wh qs ks x.at_==0) (Wh qs ks x.at_)) ?_ (fun pv hpv=>by refine zx6 ?_;exact (⟨hpv.1,by simpa using hpv.2⟩))
 rintro vv5 I5 L5 hI5 ⟨rfl,rfl,rfl,hok⟩
 have hZ:=hZ.mono hI5;have hIc:=hIc.trans hI5
 have he:Wh qs ks x.at_=0:=by simpa using hok
 obtain ⟨rfl,rfl,rfl,hS9⟩:=hZ.ok he
 refine zN (Qi (zM ?_))
 refine zV (Qg rfl ZM (fun hg=>by exact Cells.g0) rfl) ?_
 refine zV (QI rfl) ?_
 refine zF Yd ?_
 refine zF YS ?_
 refine Y4 rfl rfl Yp rfl rfl rfl rfl (by repeat (first | exact Upd.here | apply Upd.there | apply Qu)) ?_
 refine Qb ?_
 exact YB (Yh rfl (fun w hw=>.inl ⟨_,I5,_,rfl,hIc,by exact hw.subL (by repeat (first | exact .refl | refine .drop ?_)),rfl,he,_,_,_,rfl,hS9⟩))
end
section
open Go Go.Kn Go.Proofs
def WW (f:Nat→Int)(a:Option Addr)(n c:Nat)(needs:List Int)(name town:ByteArray):Nt:=
 ⟨f 0,⟨f 1,f 2,f 3,f 4,f 5,f 6,f 7,f 8,f 9⟩,⟨f 10,f 11,f 12,f 13,⟨f 14,f 15,f 16,f 17,f 18,f 19,f 20,f 21,f 22,f 23,f 24,f 25,f 26,f 27⟩,a,n,c,needs⟩,⟨f 28,f 29,f 30,f 31,f 32⟩,⟨f 33,f 34,f 35,f 36,f 37,f 38,name,town,f 39,f 40,f 41⟩⟩
def zmU (hs:List Vc)(k j:Nat):Int:=if j<k then (hs.getD j WR).n else 0
def zlN (hs:List Vc)(k:Nat):Nt:=WW (zmU hs k) none 0 0 [] ⟨#[]⟩ ⟨#[]⟩
theorem zr6:∀ k,k<42→(ziw.getD k 0).blt 45=true:=by decide
theorem JC (hs:List Vc):∀ k,k<42→(Q6 (zlN hs k)).toArray.setIfInBounds (ziw.getD k 0) (.int .i64 (hs.getD k WR).n)=(Q6 (zlN hs (k+1))).toArray
 | 0,_=>by kernel_rfl
 | 1,_=>by kernel_rfl
 | 2,_=>by kernel_rfl
 | 3,_=>by kernel_rfl
 | 4,_=>by kernel_rfl
 | 5,_=>by kernel_rfl
 | 6,_=>by kernel_rfl
 | 7,_=>by kernel_rfl
 | 8,_=>by kernel_rfl
 | 9,_=>by kernel_rfl
 | 10,_=>by kernel_rfl
 | 11,_=>by kernel_rfl
 | 12,_=>by kernel_rfl
 | 13,_=>by kernel_rfl
 | 14,_=>by kernel_rfl
 | 15,_=>by kernel_rfl
 | 16,_=>by kernel_rfl
 | 17,_=>by kernel_rfl
 | 18,_=>by kernel_rfl
 | 19,_=>by kernel_rfl
 | 20,_=>by kernel_rfl
 | 21,_=>by kernel_rfl
 | 22,_=>by kernel_rfl
 | 23,_=>by kernel_rfl
 | 24,_=>by kernel_rfl
 | 25,_=>by kernel_rfl
 | 26,_=>by kernel_rfl
 | 27,_=>by kernel_rfl
 | 28,_=>by kernel_rfl
 | 29,_=>by kernel_rfl
 | 30,_=>by kernel_rfl
 | 31,_=>by kernel_rfl
 | 32,_=>by kernel_rfl
 | 33,_=>by kernel_rfl
 | 34,_=>by kernel_rfl
 | 35,_=>by kernel_rfl
 | 36,_=>by kernel_rfl
 | 37,_=>by kernel_rfl
 | 38,_=>by kernel_rfl
 | 39,_=>by kernel_rfl
 | 40,_=>by kernel_rfl
 | 41,_=>by kernel_rfl
 | k+42,h=>absurd h (by omega)
def isI:Va→Bool
 | .int _=>true
 | _=>false
def zix:Va→Int
 | .int n=>n
 | _=>0
def XB:Va→Option Nt
 | .list l=>if l.length=45∧(l.take 42).all isI=true then match l.drop 42 with
   | [.list q,.text a,.text b]=>if q.all isI=true then some (WW (fun j=>zix (l.getD j (.int 0))) none q.length 0 (q.map zix) (U8 a) (U8 b)) else none
   | _=>none
  else none
 | _=>none
def Yr (x:Nt):Nt:={x with pt:={x.pt with a:=none,n:=x.pt.needs.length,c:=0}}
def okN (bs:List Nat):Option Nt:=(zcc bs).bind fun v=>(XB v).bind fun y=>if QP y=true then some y else none
theorem VL {x:Nt}(h:x.pt.n=x.pt.needs.length):QP (Yr x)=QP x:=by
 obtain ⟨k,lm,⟨i,kd,s,fd,nw,a,n,c,nd⟩,ls,rt⟩:=x
 simp only at h
 subst h
 rfl
theorem zg5 (xs:List Int):(xs.map Va.int).all isI=true:=by
 induction xs with
 | nil=>rfl
 | cons a l ih=>simp [isI,ih]
theorem zoy (xs:List Int):(xs.map Va.int).map zix=xs:=by
 induction xs with
 | nil=>rfl
 | cons a l ih=>simp only [List.map_cons,zix,ih]
theorem zfV (x:Nt):XB (Kw x)=some (Yr x):=by
 unfold Kw XB
 have h1:((YM x).map Va.int++[Va.list (x.pt.needs.map .int),.text (K1 x.rt.name),.text (K1 x.rt.town)]).length=45:=by simp [YG]
 have h2:((YM x).map Va.int++[Va.list (x.pt.needs.map .int),.text (K1 x.rt.name),.text (K1 x.rt.town)]).take 42=(YM x).map Va.int:=List.take_left' (by rw [List.length_map,YG])
 have h3:((YM x).map Va.int++[Va.list (x.pt.needs.map .int),.text (K1 x.rt.name),.text (K1 x.rt.town)]).drop 42=[Va.list (x.pt.needs.map .int),.text (K1 x.rt.name),.text (K1 x.rt.town)]:=List.drop_left' (by rw [List.length_map,YG])
 simp only [h2,h3]
 rw [if_pos ⟨h1,zg5 _⟩,if_pos (zg5 _),zoy,Xc,Xc,List.length_map]
 congr 1
def ztS (I:Qt)(bs:List Nat)(cv:Vc)(e:Int):Prop:=(e=0∧∃ x,zcc bs=some x∧VaR I x cv)∨(e=10∧zcc bs=none∧cv=WR)
theorem ztS.mono {I I':Qt}{bs:List Nat}{cv:Vc}{e:Int}(h:ztS I bs cv e)(hI:HLe I I'):ztS I' bs cv e:=h.imp (fun ⟨h1,x,h2,h3⟩=>⟨h1,x,h2,h3.mono hI⟩) id
theorem zh1 {bs:List Nat}{v:Value}{I':Qt}{L':Go.Kn.Loc}(h:zpj bs v I' L'):L'=[]∧∃ cv e,v= .tuple #[.agg (Q7 cv).toArray,.int .i64 e]∧ztS I' bs cv e:=by
 obtain ⟨h1,h2⟩:=h
 refine ⟨h1,?_⟩
 cases hd:zcc bs with
 | none=>rw [hd] at h2;exact ⟨WR,10,h2,.inr ⟨rfl,hd,rfl⟩⟩
 | some x=>rw [hd] at h2;obtain ⟨cv,e1,e2⟩:=h2;exact ⟨cv,0,e1,.inl ⟨rfl,x,hd,e2⟩⟩
structure RdP (I:Qt)(bs:List Nat)(cv:Vc)(l:List Va)(hs:List Vc):Prop where
 dec:zcc bs=some (.list l)
 sl:Sl I 4 Q7 cv.a cv.m cv.c hs
 m:cv.m=45
 len:l.length=45
 rel:∀ (k:Nat) (x:Va) (y:Vc),l[k]? =some x→hs[k]? =some y→VaR I x y
theorem RdP.mono {I I':Qt}{bs:List Nat}{cv:Vc}{l:List Va}{hs:List Vc}(h:RdP I bs cv l hs)(hI:HLe I I'):RdP I' bs cv l hs:=⟨h.dec,h.sl.mono hI,h.m,h.len,fun k x y hx hy=>(h.rel k x y hx hy).mono hI⟩
theorem RdP.hlen {I:Qt}{bs:List Nat}{cv:Vc}{l:List Va}{hs:List Vc}(h:RdP I bs cv l hs):hs.length=45:=by rw [h.sl.len,h.m]
theorem za0 {I:Qt}{x:Va}{y:Vc}(h:VaR I x y):isI x=(y.k==1):=by cases h<;>rfl
theorem zgO {I:Qt}{x:Va}{y:Vc}(h:VaR I x y)(hk:isI x=true):zix x=y.n:=by cases h<;>first | rfl | cases hk
theorem zcv {l:List Va}(h:¬(l.length=45∧(l.take 42).all isI=true)):XB (.list l)=none:=by
 unfold XB
 simp only [if_neg h]
theorem zaH {bs:List Nat}{l:List Va}(h:zcc bs=some (.list l))(hr:XB (.list l)=none):okN bs=none:=by unfold okN;rw [h,Option.bind_some,hr];rfl
theorem zuM {I:Qt}{bs:List Nat}{cv:Vc}{e:Int}(h:ztS I bs cv e)(hc:((e != 0||cv.k != 3)||(cv.m:Int) != 45)=true):okN bs=none:=by
 rcases h with ⟨he,x,hd,hx⟩ | ⟨he,hd,hz⟩
 ·
  subst he
  cases hx with
  | int n=>unfold okN;rw [hd];rfl
  | text s=>unfold okN;rw [hd];rfl
  | list hS hl hr=>
   rename_i l hs a m c
   refine zaH hd ?_
   have hm:=hS.len
   have:¬(l.length=45):=fun e45=>by
    rw [hl,hm] at e45
    simp [e45] at hc
   exact zcv (fun h2=>this h2.1)
 ·
  unfold okN;rw [hd];rfl
theorem zr0 {I:Qt}{bs:List Nat}{cv:Vc}{e:Int}(h:ztS I bs cv e)(hc:((e != 0||cv.k != 3)||(cv.m:Int) != 45)=false):∃ l hs,RdP I bs cv l hs:=by
 simp only [Bool.or_eq_false_iff,bne_eq_false_iff_eq] at hc
 obtain ⟨⟨he,hk⟩,hm⟩:=hc
 rcases h with ⟨_,x,hd,hx⟩ | ⟨he2,_,_⟩
 ·
  cases hx with
  | int n=>simp at hk
  | text s=>simp at hk
  | list hS hl hr=>
   rename_i l hs a m c
   have hm2:(m:Int)=45:=hm
   have hm3:m=45:=by omega
   exact ⟨l,hs,hd,hS,hm3,by rw [hl,hS.len];exact hm3,hr⟩
 ·
  omega
theorem zwo {I:Qt}{bs:List Nat}{cv:Vc}{l:List Va}{hs:List Vc}(h:RdP I bs cv l hs){k:Nat}{y:Vc}(hk:k<42)(hy:hs[k]? =some y)(hne:(y.k != 1)=true):okN bs=none:=by
 refine zaH h.dec ?_
 obtain ⟨x,hx⟩:∃ x,l[k]? =some x:=⟨_,List.getElem?_eq_getElem (by rw [h.len];omega)⟩
 have hi:=za0 (h.rel k x y hx hy)
 have hf:isI x=false:=by rw [hi];simpa using hne
 refine zcv ?_
 rintro ⟨_,ha⟩
 have hm:x∈l.take 42:=List.mem_iff_getElem?.2 ⟨k,by rw [List.getElem?_take,if_pos hk];exact hx⟩
 have:=List.all_eq_true.1 ha x hm
 rw [hf] at this;cases this
theorem zfq {f g:Nat→Int}(h:∀ j,j<42→f j=g j){a:Option Addr}{n c:Nat}{needs:List Int}{name town:ByteArray}:WW f a n c needs name town=WW g a n c needs name town:=by
 unfold WW
 simp only [h 0 (by decide),h 1 (by decide),h 2 (by decide),h 3 (by decide),h 4 (by decide),h 5 (by decide),h 6 (by decide),h 7 (by decide),h 8 (by decide),h 9 (by decide),h 10 (by decide),h 11 (by decide),h 12 (by decide),h 13 (by decide),h 14 (by decide),h 15 (by decide),h 16 (by decide),h 17 (by decide),h 18 (by decide),h 19 (by decide),h 20 (by decide),h 21 (by decide),h 22 (by decide),h 23 (by decide),h 24 (by decide),h 25 (by decide),h 26 (by decide),h 27 (by decide),h 28 (by decide),h 29 (by decide),h 30 (by decide),h 31 (by decide),h 32 (by decide),h 33 (by decide),h 34 (by decide),h 35 (by decide),h 36 (by decide),h 37 (by decide),h 38 (by decide),h 39 (by decide),h 40 (by decide),h 41 (by decide)]
theorem zty {I:Qt}{bs:List Nat}{cv:Vc}{l:List Va}{hs:List Vc}(h:RdP I bs cv l hs)(hall:∀ j y,j<42→hs[j]? =some y→(y.k != 1)=false):(l.take 42).all isI=true:=by
 rw [List.all_eq_true]
 intro x hx
 obtain ⟨j,hj⟩:=List.mem_iff_getElem?.1 hx
 rw [List.getElem?_take] at hj
 split at hj
 ·
  rename_i hlt
  obtain ⟨y,hy⟩:∃ y,hs[j]? =some y:=⟨_,List.getElem?_eq_getElem (by rw [h.hlen];omega)⟩
  rw [za0 (h.rel j x y hj hy)]
  have:=hall j y hlt hy
  simpa using this
 ·
  cases hj
theorem zvl {l:List Va}(h:l.length=45){x y z:Va}(hx:l[42]? =some x)(hy:l[43]? =some y)(hz:l[44]? =some z):l.drop 42=[x,y,z]:=by
 apply List.ext_getElem?
 intro i
 rw [List.getElem?_drop]
 match i with
 | 0=>exact hx
 | 1=>exact hy
 | 2=>exact hz
 | i+3=>rw [List.getElem?_eq_none (by omega)];rfl
structure RtP (I:Qt)(bs:List Nat)(l:List Va)(hs:List Vc)(u v w:Vc)(q:List Va)(qs:List Vc):Prop where
 dec:zcc bs=some (.list l)
 len:l.length=45
 ints:(l.take 42).all isI=true
 nums:∀ j,j<42→zix (l.getD j (.int 0))=zmU hs 42 j
 drop:∃ a b,l.drop 42=[.list q,.text a,.text b]∧v.s=U8 a∧w.s=U8 b
 sl:Sl I 4 Q7 u.a u.m u.c qs
 qlen:q.length=qs.length
 rel:∀ (k:Nat) (x:Va) (y:Vc),q[k]? =some x→qs[k]? =some y→VaR I x y
theorem RtP.mono {I I':Qt}{bs:List Nat}{l:List Va}{hs:List Vc}{u v w:Vc}{q:List Va}{qs:List Vc}(h:RtP I bs l hs u v w q qs)(hI:HLe I I'):RtP I' bs l hs u v w q qs:=⟨h.dec,h.len,h.ints,h.nums,h.drop,h.sl.mono hI,h.qlen,fun k x y hx hy=>(h.rel k x y hx hy).mono hI⟩
theorem zrS {I:Qt}{bs:List Nat}{cv:Vc}{l:List Va}{hs:List Vc}(h:RdP I bs cv l hs)(hall:∀ j y,j<42→hs[j]? =some y→(y.k != 1)=false):∀ j,j<42→zix (l.getD j (.int 0))=zmU hs 42 j:=by
 intro j hj
 obtain ⟨x,hx⟩:∃ x,l[j]? =some x:=⟨_,List.getElem?_eq_getElem (by rw [h.len];omega)⟩
 obtain ⟨y,hy⟩:∃ y,hs[j]? =some y:=⟨_,List.getElem?_eq_getElem (by rw [h.hlen];omega)⟩
 have hr:=h.rel j x y hx hy
 have hi:isI x=true:=by rw [za0 hr];simpa using hall j y hj hy
 unfold zmU
 rw [if_pos hj,List.getD_eq_getElem?_getD,List.getD_eq_getElem?_getD,hx,hy]
 exact zgO hr hi
theorem zl5 {I:Qt}{bs:List Nat}{cv:Vc}{l:List Va}{hs:List Vc}(h:RdP I bs cv l hs)(hall:∀ j y,j<42→hs[j]? =some y→(y.k != 1)=false){u v w:Vc}(hu:hs[42]? =some u)(hv:hs[43]? =some v)(hw:hs[44]? =some w):
  (((u.k != 3||v.k != 2)||w.k != 2)=true→okN bs=none)∧(((u.k != 3||v.k != 2)||w.k != 2)=false→∃ q qs,RtP I bs l hs u v w q qs):=by
 obtain ⟨x,hx⟩:∃ x,l[42]? =some x:=⟨_,List.getElem?_eq_getElem (by rw [h.len];omega)⟩
 obtain ⟨y,hy⟩:∃ x,l[43]? =some x:=⟨_,List.getElem?_eq_getElem (by rw [h.len];omega)⟩
 obtain ⟨z,hz⟩:∃ x,l[44]? =some x:=⟨_,List.getElem?_eq_getElem (by rw [h.len];omega)⟩
 have hd:=zvl h.len hx hy hz
 have r1:=h.rel 42 x u hx hu;have r2:=h.rel 43 y v hy hv;have r3:=h.rel 44 z w hz hw
 have hn:=zrS h hall
 have hi:=zty h hall
 have hno:(∀ q a b,[x,y,z]≠[.list q,.text a,.text b])→okN bs=none:=fun hne=>zaH h.dec (by
  unfold XB
  simp only [if_pos (show l.length=45∧(l.take 42).all isI=true from ⟨h.len,hi⟩),hd])
 cases r1 with
 | int n=>exact ⟨fun _=>hno (by intro q a b e;cases e),fun hc=>by simp at hc⟩
 | text s=>exact ⟨fun _=>hno (by intro q a b e;cases e),fun hc=>by simp at hc⟩
 | list hS hl hr=>
  cases r2 with
  | int n=>exact ⟨fun _=>hno (by intro q a b e;cases e),fun hc=>by simp at hc⟩
  | list hS2 hl2 hr2=>exact ⟨fun _=>hno (by intro q a b e;cases e),fun hc=>by simp at hc⟩
  | text s=>
   cases r3 with
   | int n=>exact ⟨fun _=>hno (by intro q a b e;cases e),fun hc=>by simp at hc⟩
   | list hS2 hl2 hr2=>exact ⟨fun _=>hno (by intro q a b e;cases e),fun hc=>by simp at hc⟩
   | text s2=>exact ⟨fun hc=>by simp at hc,fun _=>⟨_,_,h.dec,h.len,hi,hn,⟨s,s2,hd,rfl,rfl⟩,hS,hl,hr⟩⟩
theorem zr7 {I:Qt}{bs:List Nat}{l:List Va}{hs:List Vc}{u v w:Vc}{q:List Va}{qs:List Vc}(h:RtP I bs l hs u v w q qs){k:Nat}{y:Vc}(hy:qs[k]? =some y)(hne:(y.k != 1)=true):okN bs=none:=by
 refine zaH h.dec ?_
 obtain ⟨a,b,hd,_,_⟩:=h.drop
 have hk:=(List.getElem?_eq_some_iff.1 hy).1
 obtain ⟨x,hx⟩:∃ x,q[k]? =some x:=⟨_,List.getElem?_eq_getElem (by rw [h.qlen];exact hk)⟩
 have hf:isI x=false:=by rw [za0 (h.rel k x y hx hy)];simpa using hne
 have hq:¬(q.all isI=true):=fun e=>by
  have:=List.all_eq_true.1 e x (List.mem_of_getElem? hx)
  rw [hf] at this;cases this
 unfold XB
 simp only [if_pos (show l.length=45∧(l.take 42).all isI=true from ⟨h.len,h.ints⟩),hd,if_neg hq]
theorem ztu {I:Qt}{bs:List Nat}{l:List Va}{hs:List Vc}{u v w:Vc}{q:List Va}{qs:List Vc}(h:RtP I bs l hs u v w q qs)(hall:∀ j y,j<qs.length→qs[j]? =some y→(y.k != 1)=false)(a:Option Addr)(c:Nat):
  XB (.list l)=some (Yr (WW (zmU hs 42) a qs.length c (qs.map (·.n)) v.s w.s)):=by
 obtain ⟨s,s2,hd,e1,e2⟩:=h.drop
 have hq:q.all isI=true:=by
  rw [List.all_eq_true]
  intro x hx
  obtain ⟨j,hj⟩:=List.mem_iff_getElem?.1 hx
  have hjl:=(List.getElem?_eq_some_iff.1 hj).1
  obtain ⟨y,hy⟩:∃ y,qs[j]? =some y:=⟨_,List.getElem?_eq_getElem (by rw [←h.qlen];exact hjl)⟩
  rw [za0 (h.rel j x y hj hy)]
  simpa using hall j y (by rw [←h.qlen];exact hjl) hy
 have hm:q.map zix=qs.map (·.n):=by
  apply List.ext_getElem?
  intro j
  rw [List.getElem?_map,List.getElem?_map]
  cases hx:q[j]? with
  | none=>rw [List.getElem?_eq_none (by rw [←h.qlen];exact List.getElem?_eq_none_iff.1 hx)];rfl
  | some x=>
   have hjl:=(List.getElem?_eq_some_iff.1 hx).1
   obtain ⟨y,hy⟩:∃ y,qs[j]? =some y:=⟨_,List.getElem?_eq_getElem (by rw [←h.qlen];exact hjl)⟩
   rw [hy]
   have hi:isI x=true:=List.all_eq_true.1 hq x (List.mem_of_getElem? hx)
   simp only [Option.map_some]
   rw [zgO (h.rel j x y hx hy) hi]
 unfold XB
 simp only [if_pos (show l.length=45∧(l.take 42).all isI=true from ⟨h.len,h.ints⟩),hd,if_pos hq]
 rw [zfq h.nums,hm,e1,e2]
 simp [Yr,WW,h.qlen]
def fl2 (hs:List Vc)(v:Value):List Value:=(Q6 (zlN hs 42)).set 28 v
theorem zuW {I:Qt}{bs:List Nat}{l:List Va}{hs:List Vc}{u v w:Vc}{q:List Va}{qs:List Vc}(h:RtP I bs l hs u v w q qs)(hall:∀ j y,j<qs.length→qs[j]? =some y→(y.k != 1)=false){a:Option Addr}{n c:Nat}(hn:qs.length=n):
  okN bs=if QP (WW (zmU hs 42) a n c (qs.map (·.n)) v.s w.s)=true then some (Yr (WW (zmU hs 42) a n c (qs.map (·.n)) v.s w.s)) else none:=by
 have h2:=ztu h hall a c
 rw [hn] at h2
 unfold okN
 rw [h.dec,Option.bind_some,h2,Option.bind_some,VL (by simp [WW,hn])]
def zt4 (bs:List Nat)(I:Qt)(cs:List Value)(b:Bool):Prop:=(cs.length=45∧YL cs=true)∧((b=false∧okN bs=none)∨(b=true∧∃ x,cs=Q6 x∧Nd I x.pt∧okN bs=some (Yr x)))
theorem zhd {bs:List Nat}{I:Qt}{cs:List Value}(hl:cs.length=45)(ha:YL cs=true)(h:okN bs=none):zt4 bs I cs false:=⟨⟨hl,ha⟩,.inl ⟨rfl,h⟩⟩
theorem zsl {bs:List Nat}{I:Qt}{x:Nt}(h:okN bs=if QP x=true then some (Yr x) else none)(hN:Nd I x.pt):zt4 bs I (Q6 x) (QP x):=by
 refine ⟨⟨rfl,rfl⟩,?_⟩
 cases hf:QP x with
 | false=>rw [hf] at h;exact .inl ⟨rfl,h⟩
 | true=>rw [hf] at h;exact .inr ⟨rfl,x,rfl,hN,h⟩
theorem zrC {bs:List Nat}{v:Va}(hb:∀ c∈bs,c<256)(hl:bs.length<2^63)(h:zcc bs=some v):(Va.enc v).length≤bs.length:=by
 unfold zcc at h
 split at h
 ·
  rename_i x e
  cases h
  have:=(zhI hb hl e).1
  rw [this];simp
 ·
  cases h
theorem zuE {I:Qt}{bs:List Nat}{l:List Va}{hs:List Vc}{u v w:Vc}{q:List Va}{qs:List Vc}(h:RtP I bs l hs u v w q qs)(hb:∀ c∈bs,c<256)(hl:bs.length<2^63):qs.length≤bs.length:=by
 have h1:=zrC hb hl h.dec
 obtain ⟨a,b,hd,_,_⟩:=h.drop
 have h2:Va.encL l=Va.encL (l.take 42)++Va.encL (l.drop 42):=by rw [←Va.encL_append,List.take_append_drop]
 have h3:=Va.encL_len q
 have h4:=h.qlen
 rw [hd] at h2
 have h5:(Va.encL l).length≤(Va.enc (.list l)).length:=by simp [Va.enc];omega
 have h6:(Va.encL q).length≤(Va.encL l).length:=by
  rw [h2]
  simp only [Va.encL,Va.enc,List.length_append,List.length_cons];omega
 omega
theorem zsw {x:Va}(h:isI x=true):x= .int (zix x):=by cases x<;>first | rfl | cases h
theorem zeb {q:List Va}(h:q.all isI=true):(q.map zix).map Va.int=q:=by
 induction q with
 | nil=>rfl
 | cons a l ih=>
  rw [List.all_cons,Bool.and_eq_true] at h
  simp only [List.map_cons]
  rw [ih h.2,←zsw h.1]
theorem zfP (f:Nat→Int)(a:Option Addr)(n c:Nat)(needs:List Int)(name town:ByteArray):YM (WW f a n c needs name town)=(List.range 42).map f:=rfl
theorem ziO {l:List Va}(hl:l.length=45)(h:(l.take 42).all isI=true):((List.range 42).map fun j=>zix (l.getD j (.int 0))).map Va.int=l.take 42:=by
 rw [←zeb h]
 congr 1
 apply List.ext_getElem?
 intro j
 rw [List.getElem?_map,List.getElem?_map,List.getElem?_take]
 by_cases hj:j<42
 ·
  rw [if_pos hj,List.getElem?_range hj,List.getElem?_eq_getElem (by omega),Option.map_some,Option.map_some,List.getD_eq_getElem?_getD,List.getElem?_eq_getElem (by omega)];rfl
 ·
  rw [if_neg hj,List.getElem?_eq_none (by simp;omega)];rfl
theorem zlx {v:Va}{y:Nt}(hok:Va.ok v)(h:XB v=some y):Kw y=v:=by
 cases v with
 | int n=>cases h
 | text s=>cases h
 | list l=>
  unfold XB at h
  simp only at h
  split at h
  ·
   rename_i hc
   split at h
   ·
    rename_i q a b hd
    split at h
    ·
     rename_i hq
     cases h
     have hl:l=l.take 42++l.drop 42:=(List.take_append_drop ..).symm
     have hm:∀ x∈l,Va.ok x:=fun x hx=>by
      obtain ⟨k,hk⟩:=List.mem_iff_getElem?.1 hx
      exact zd3 hok.2 hk
     have ha:Va.ok (.text a):=hm _ (by rw [hl,hd];simp)
     have hb:Va.ok (.text b):=hm _ (by rw [hl,hd];simp)
     unfold Kw
     rw [zfP,ziO hc.1 hc.2]
     show Va.list (l.take 42++[.list ((q.map zix).map .int),.text (K1 (U8 a)),.text (K1 (U8 b))])=_
     rw [zeb hq,VS ha.1,VS hb.1,←hd,←hl]
    ·
     cases h
   ·
    cases h
  ·
   cases h
theorem zhC (x:Nt):Kw (Yr x)=Kw x:=rfl
theorem zgz {bs:List Nat}{y:Nt}(hb:∀ c∈bs,c<256)(hl:bs.length<2^63)(h:okN bs=some y):V5 y=bs∧Va.ok (Kw y)∧QP y=true:=by
 unfold okN at h
 cases hd:zcc bs with
 | none=>rw [hd] at h;cases h
 | some v=>
  rw [hd,Option.bind_some] at h
  cases hr:XB v with
  | none=>rw [hr] at h;cases h
  | some z=>
   rw [hr,Option.bind_some] at h
   split at h
   ·
    rename_i hf
    cases h
    unfold zcc at hd
    split at hd
    ·
     rename_i x e
     cases hd
     obtain ⟨e1,_,e3⟩:=zhI hb hl e
     have e4:=zlx e3 hr
     refine ⟨?_,by rw [e4];exact e3,hf⟩
     unfold V5
     rw [e4,e1,List.append_nil]
    ·
     cases hd
   ·
    cases h
theorem zom (x:Nt):x.pt.needs.length≤(V5 x).length:=by
 unfold V5 Kw
 have h1:=Va.encL_len (x.pt.needs.map Va.int)
 rw [List.length_map] at h1
 have h2:(Va.encL (x.pt.needs.map Va.int)).length≤(Va.enc (.list ((YM x).map .int++[.list (x.pt.needs.map .int),.text (K1 x.rt.name),.text (K1 x.rt.town)]))).length:=by
  simp only [Va.enc,Va.encL_append,Va.encL,List.length_append,List.length_cons];omega
 omega
theorem zgE {I:Qt}{bs:List Nat}{x:Nt}(hb:∀ c∈bs,c<256)(hn:bs.length≤100000)(h:okN bs=some (Yr x))(hN:Nd I x.pt):NtM I x:=by
 obtain ⟨h1,h2,_⟩:=zgz hb (by omega) h
 have e:V5 x=bs:=h1
 have hl:=zom x
 have hN2:Sl I 1 Z1 x.pt.a x.pt.n x.pt.c x.pt.needs:=hN
 have:=hN2.len
 exact ⟨hN,by rw [e] at hl;omega,h2,by rw [e];omega⟩
end
section
open Go Go.Kn Go.Proofs
theorem zsz:Fun Tryz.prog 128:=.of Tryz.func128 (by kernel_rfl) (by kernel_rfl)
theorem zuS:SzT Tryz.prog 37 1:=.of (by kernel_rfl)
set_option maxRecDepth 100000 in
theorem zjV {I:Qt} {av:Option Addr} {n c:Nat} {bs:List Nat} (hS:Sl I 1 VO av n c bs) (hb:∀ x∈bs,x<256) (hn:n≤100000):Vl Tryz.prog 62 [.slice av n c] I [] (fun v I' L'=>L'=[]∧∃ (cs:List Value) (b:Bool),v= .tuple #[.agg cs.toArray,.bool b]∧zt4 bs I' cs b):=by
 intro g H w hw
 refine qe Tryz.func62 Tryz.ntmps62 hw ?_
 have hIc:=zzm I
 have hbl:=hS.len
 refine zR ?_
 refine Qq W8 rfl rfl (fun b_2=>?_)
 refine zA ?_
 refine zN (zR ?_)
 refine zM ?_
 refine zpc [_] rfl zsz .nil (zn7 hS hb hn) ?_
 rintro vv1 I1 L1 hI1 hq0
 have hIc:=hIc.trans hI1
 obtain ⟨rfl,cv,e,rfl,hq⟩:=zh1 hq0
 refine zM ?_
 refine zE ?_
 refine zE ?_
 refine Qq YK rfl rfl (fun b_4=>?_)
 refine zh ZD ?_
 refine zA (Qb ?_)
 refine QH .here (fun I2 hI2 hb2=>?_)
 have hq:=hq.mono hI2;have hIc:=hIc.trans hI2
 have h4:=BxI.of hb2
 refine Qd (zR ?_)
 refine qcV (vs:=[_]) rfl zlD (zha _ _) ?_
 refine Qq zlc rfl rfl (fun b_6=>?_)
 refine zh zi7 ?_
 refine Qb ?_
 refine QH .here (fun I3 hI3 hb3=>?_)
 have hq:=hq.mono hI3;have h4:=h4.mono hI3;have hIc:=hIc.trans hI3
 have h6:=BxI.of hb3
 refine Qd (Qm (zR (zM ?_)))
 refine zC ?_
 refine zM ?_
 refine QM 2 rfl rfl rfl ?_
 refine zJ (Qa rfl Zc) ?_
 refine zJ (Qc rfl Ql (fun hg=>by exact QA.imm h4.out rfl)) ?_
 refine zJ (QD rfl rfl rfl) ?_
 refine Zb rfl rfl rfl rfl rfl ?_
 refine zM ?_
 refine QM 7 rfl rfl rfl ?_
 refine zJ (Qa rfl QU) ?_
 refine zJ (Qc rfl Zp (fun hg=>by exact QA.imm h4.out rfl)) ?_
 refine zJ (Q4 rfl Z7) ?_
 refine zJ (QD rfl rfl rfl) ?_
 refine Zb rfl rfl rfl rfl rfl ?_
 refine zN ?_
 refine zI ?_ ?_<;>intro hc32
 ·
  have hno:=zuM hq hc32
  refine zR ?_
  refine zV (Qg rfl Zf (fun hg=>by exact zzl .here) rfl) ?_
  refine zh VW ?_
  refine zA (zN (Qs (Qe ?_)))
  exact ZN rfl rfl rfl Zf zzk rfl (fun w hw=>⟨_,I3,[],rfl,hIc,by repeat (first | exact hw.drop | exact hw.subL QB | exact hw.drop.drop),rfl,_,_,rfl,zhd rfl rfl hno⟩)
 obtain ⟨l,hs,hR⟩:=zr0 hq hc32
 have hm45:=hR.m
 have hl45:=hR.hlen
 refine Qr (Qd (Qm (zR ?_)))
 refine zV (Qg rfl zl1 (fun hg=>by exact BxI.cells (vs:=ztM b_2) h6) rfl) ?_
 refine zM (zN (Qw ?_))
 refine zU [(2,_),(4,_),(34,_)] (fun T L0 mz E I' loc'=>∃ (k:Nat),mz=42-k∧E=(35,.int .i64 k)::T∧I3=I'∧[(b_2,.cells (Q6 (zlN hs k)).toArray 45 (0,0))]=loc'∧k≤42∧(∀ j y,j<k→hs[j]? =some y→(y.k != 1)=false)) ?_ (h:=⟨0,rfl,rfl,rfl,rfl,Nat.zero_le _,fun j y h=>absurd h (Nat.not_lt_zero _)⟩)
 rintro mz E I' loc' ⟨k,rfl,rfl,rfl,rfl,hk,hall⟩
 refine zR (zC (zN (Qm ?_)))
 refine zI ?_ ?_<;>intro hc36
 ·
  have hlt_k:k<42:=by have h:=hc36;simp at h;omega
  obtain ⟨y,hy⟩:∃ y,hs[k]? =some y:=⟨_,List.getElem?_eq_getElem (by omega)⟩
  have hgd:hs.getD k WR=y:=by rw [List.getD_eq_getElem?_getD,hy];rfl
  refine Qr (Qd (Qm (Qw (zR (zM ?_)))))
  refine zV (Kt rfl rfl zfv Uv (fun hg=>by omega) (fun hg=>show (ztM b_2)[((k:Int)).toNat*1]? =some (.pointer (some ⟨b_2,ziw.getD k 0,none⟩)) by rw [Nat.mul_one,Int.toNat_natCast];exact zku (by omega))) ?_
  refine zA ?_
  refine zA (zN (Qm (zR ?_)))
  refine zF QU ?_
  refine zV (Qc rfl Zp (fun hg=>by exact QA.imm h4.out rfl)) ?_
  refine zM ?_
  refine zV (QG rfl rfl Z7 hR.sl (fun hg=>by omega)) ?_
  refine zF Zc ?_
  refine zV (Qc rfl Ql (fun hg=>by exact zzf hR.sl hy rfl)) ?_
  refine zC (zN ?_)
  refine zI ?_ ?_<;>intro hc45
  ·
   have hno:=zwo hR (by omega) hy hc45
   refine zR ?_
   refine zV (Qg rfl Zf (fun hg=>by exact Cells.g0) rfl) ?_
   refine zh VW ?_
   refine zA (zN (Qs (Qe (Qj (Qe (Qe (Qj ?_)))))))
   refine Qe ?_
   exact ZN rfl rfl rfl Zf zzk rfl (fun w hw=>⟨_,I3,[],rfl,hIc,by repeat (first | exact hw.drop | exact hw.subL QB | exact hw.drop.drop),rfl,_,_,rfl,zhd rfl rfl hno⟩)
  refine Qr (Qd (Qi (zM ?_)))
  refine zF QU ?_
  refine zV (Qc rfl Zp (fun hg=>by exact QA.imm h4.out rfl)) ?_
  refine zM ?_
  refine zV (QG rfl rfl Z7 hR.sl (fun hg=>by omega)) ?_
  refine zF YT ?_
  refine zV (Qc rfl Ql (fun hg=>by exact zzo hR.sl hy (j:=1) rfl)) ?_
  refine zV (QI rfl) ?_
  refine Q0 rfl rfl U6 rfl rfl Upd.u0 (zr6 _ (by omega)) ?_
  refine Qb (Qk (Qd (Qi (zB ?_))))
  refine zM (Qb ?_)
  exact Q9 _ _ ⟨42-(k+1),by omega,k+1,rfl,rfl,rfl,rfl,by omega,VA hy hall hc45⟩ (.cons rfl (.cons rfl (.cons rfl (.cons rfl .nil)))) (by (try rw [←JC hs k (by omega),hgd]);repeat (first | exact .refl | exact QJ | refine QZ ?_ | refine .drop ?_ | refine QO ?_))
 have hge_k:42≤k:=by have h:=hc36;simp at h;omega
 obtain rfl:k=42:=by omega
 obtain ⟨u,hu⟩:∃ y,hs[42]? =some y:=⟨_,List.getElem?_eq_getElem (by omega)⟩
 obtain ⟨v3,hv⟩:∃ y,hs[43]? =some y:=⟨_,List.getElem?_eq_getElem (by omega)⟩
 obtain ⟨w4,hw4⟩:∃ y,hs[44]? =some y:=⟨_,List.getElem?_eq_getElem (by omega)⟩
 refine Zi (Qo (Qo (Qz (Qd ?_))))
 refine zY [(2,_)] (fun T L0 E I' loc'=>∃ (p9 p10 p11:Nat),E=(9,Zw p9)::(10,Zw p10)::(11,Zw p11)::T∧HLe I3 I'∧[(b_2,.cells (Q6 (zlN hs 42)).toArray 45 (0,0))]=loc'∧BxI I' p9 (.cells (Q7 u).toArray 158 (0,0))∧BxI I' p10 (.cells (Q7 v3).toArray 158 (0,0))∧BxI I' p11 (.cells (Q7 w4).toArray 158 (0,0))) ?_ ?_
 ·
  have hKc12:=zzm I3
  have hD:=zzm I3
  refine Zt ?_
  refine QQ I3 [] mixed ?_
  refine zT 0 rfl (Qa rfl QU) hD ?_
  refine zT 1 rfl (Qc rfl Zp (fun hg=>by exact QA.imm h4.out rfl)) hD ?_
  refine zT 2 rfl (QG rfl rfl Z7 hR.sl (fun hg=>by omega)) hD ?_
  refine zT 3 rfl (Qg rfl Zq (fun hg=>by exact zzn hR.sl hu) rfl) hD ?_
  refine zT 4 rfl (Qa rfl QU) hD ?_
  refine zT 5 rfl (Qc rfl Zp (fun hg=>by exact QA.imm h4.out rfl)) hD ?_
  refine zT 6 rfl (QG rfl rfl Z7 hR.sl (fun hg=>by omega)) hD ?_
  refine zT 7 rfl (Qg rfl Zq (fun hg=>by exact zzn hR.sl hv) rfl) hD ?_
  refine zT 8 rfl (Qa rfl QU) hD ?_
  refine zT 9 rfl (Qc rfl Zp (fun hg=>by exact QA.imm h4.out rfl)) hD ?_
  refine zT 10 rfl (QG rfl rfl Z7 hR.sl (fun hg=>by omega)) hD ?_
  refine zT 11 rfl (Qg rfl Zq (fun hg=>by exact zzn hR.sl hw4) rfl) hD ?_
  refine VD 12 13 14 rfl rfl rfl (by kernel_rfl) ?_ ?_ ?_
  ·
   refine Qq YK rfl rfl (fun b_9=>?_)
   refine Qb ?_
   refine zD hD ?_
   refine QW 13 14 rfl rfl (by kernel_rfl) ?_ ?_
   ·
    refine Qq YK rfl rfl (fun b_10=>?_)
    refine Qb ?_
    refine zD hD ?_
    refine qd 14 rfl ?_
    refine Qq YK rfl rfl (fun b_11=>?_)
    refine Qb ?_
    refine zD hD ?_
    refine qd 15 rfl ?_
    refine zh ZD ?_
    refine QT (b:=b_9) (by repeat (first | exact ZR.here | apply ZR.there)) (fun I5 hI5 hb5=>?_)
    have hKc12:=hKc12.trans hI5;have hD:=hD.trans hI5
    have h9:=BxI.of hb5
    refine Qb ?_
    refine zD hD ?_
    refine qd 16 rfl ?_
    refine zh ZD ?_
    refine QT (b:=b_10) (by repeat (first | exact ZR.here | apply ZR.there)) (fun I6 hI6 hb6=>?_)
    have h9:=h9.mono hI6;have hKc12:=hKc12.trans hI6;have hD:=hD.trans hI6
    have h10:=BxI.of hb6
    refine Qb ?_
    refine zD hD ?_
    refine qd 17 rfl ?_
    refine zh ZD ?_
    refine QT (b:=b_11) (by repeat (first | exact ZR.here | apply ZR.there)) (fun I7 hI7 hb7=>?_)
    have h9:=h9.mono hI7;have h10:=h10.mono hI7;have hKc12:=hKc12.trans hI7;have hD:=hD.trans hI7
    have h11:=BxI.of hb7
    refine Qb ?_
    refine zD hD ?_
    refine Qn (by kernel_rfl) ?_
    refine Qx ?_
    exact Q9 _ _ ⟨_,_,_,rfl,hKc12,rfl,h9,h10,h11⟩ (.cons rfl (.cons rfl (.cons rfl (.cons rfl .nil)))) (by (try rw [←JC hs k (by omega),hgd]);repeat (first | exact .refl | exact QJ | refine QZ ?_ | refine .drop ?_ | refine QO ?_))
   refine Qq YK rfl rfl (fun b_11=>?_)
   refine Qb ?_
   refine zD hD ?_
   refine qd 13 rfl ?_
   refine Qq YK rfl rfl (fun b_10=>?_)
   refine Qb ?_
   refine zD hD ?_
   refine qd 15 rfl ?_
   refine zh ZD ?_
   refine QT (b:=b_9) (by repeat (first | exact ZR.here | apply ZR.there)) (fun I8 hI8 hb8=>?_)
   have hKc12:=hKc12.trans hI8;have hD:=hD.trans hI8
   have h9:=BxI.of hb8
   refine Qb ?_
   refine zD hD ?_
   refine qd 16 rfl ?_
   refine zh ZD ?_
   refine QT (b:=b_10) (by repeat (first | exact ZR.here | apply ZR.there)) (fun I9 hI9 hb9=>?_)
   have h9:=h9.mono hI9;have hKc12:=hKc12.trans hI9;have hD:=hD.trans hI9
   have h10:=BxI.of hb9
   refine Qb ?_
   refine zD hD ?_
   refine qd 17 rfl ?_
   refine zh ZD ?_
   refine QT (b:=b_11) (by repeat (first | exact ZR.here | apply ZR.there)) (fun I10 hI10 hb10=>?_)
   have h9:=h9.mono hI10;have h10:=h10.mono hI10;have hKc12:=hKc12.trans hI10;have hD:=hD.trans hI10
   have h11:=BxI.of hb10
   refine Qb ?_
   refine zD hD ?_
   refine Qn (by kernel_rfl) ?_
   refine Qx ?_
   exact Q9 _ _ ⟨_,_,_,rfl,hKc12,rfl,h9,h10,h11⟩ (.cons rfl (.cons rfl (.cons rfl (.cons rfl .nil)))) (by (try rw [←JC hs k (by omega),hgd]);repeat (first | exact .refl | exact QJ | refine QZ ?_ | refine .drop ?_ | refine QO ?_))
  ·
   refine Qq YK rfl rfl (fun b_10=>?_)
   refine Qb ?_
   refine zD hD ?_
   refine QW 12 14 rfl rfl (by kernel_rfl) ?_ ?_
   ·
    refine Qq YK rfl rfl (fun b_9=>?_)
    refine Qb ?_
    refine zD hD ?_
    refine qd 14 rfl ?_
    refine Qq YK rfl rfl (fun b_11=>?_)
    refine Qb ?_
    refine zD hD ?_
    refine qd 15 rfl ?_
    refine zh ZD ?_
    refine QT (b:=b_9) (by repeat (first | exact ZR.here | apply ZR.there)) (fun I11 hI11 hb11=>?_)
    have hKc12:=hKc12.trans hI11;have hD:=hD.trans hI11
    have h9:=BxI.of hb11
    refine Qb ?_
    refine zD hD ?_
    refine qd 16 rfl ?_
    refine zh ZD ?_
    refine QT (b:=b_10) (by repeat (first | exact ZR.here | apply ZR.there)) (fun I12 hI12 hb12=>?_)
    have h9:=h9.mono hI12;have hKc12:=hKc12.trans hI12;have hD:=hD.trans hI12
    have h10:=BxI.of hb12
    refine Qb ?_
    refine zD hD ?_
    refine qd 17 rfl ?_
    refine zh ZD ?_
    refine QT (b:=b_11) (by repeat (first | exact ZR.here | apply ZR.there)) (fun I13 hI13 hb13=>?_)
    have h9:=h9.mono hI13;have h10:=h10.mono hI13;have hKc12:=hKc12.trans hI13;have hD:=hD.trans hI13
    have h11:=BxI.of hb13
    refine Qb ?_
    refine zD hD ?_
    refine Qn (by kernel_rfl) ?_
    refine Qx ?_
    exact Q9 _ _ ⟨_,_,_,rfl,hKc12,rfl,h9,h10,h11⟩ (.cons rfl (.cons rfl (.cons rfl (.cons rfl .nil)))) (by (try rw [←JC hs k (by omega),hgd]);repeat (first | exact .refl | exact QJ | refine QZ ?_ | refine .drop ?_ | refine QO ?_))
   refine Qq YK rfl rfl (fun b_11=>?_)
   refine Qb ?_
   refine zD hD ?_
   refine qd 12 rfl ?_
   refine Qq YK rfl rfl (fun b_9=>?_)
   refine Qb ?_
   refine zD hD ?_
   refine qd 15 rfl ?_
   refine zh ZD ?_
   refine QT (b:=b_9) (by repeat (first | exact ZR.here | apply ZR.there)) (fun I14 hI14 hb14=>?_)
   have hKc12:=hKc12.trans hI14;have hD:=hD.trans hI14
   have h9:=BxI.of hb14
   refine Qb ?_
   refine zD hD ?_
   refine qd 16 rfl ?_
   refine zh ZD ?_
   refine QT (b:=b_10) (by repeat (first | exact ZR.here | apply ZR.there)) (fun I15 hI15 hb15=>?_)
   have h9:=h9.mono hI15;have hKc12:=hKc12.trans hI15;have hD:=hD.trans hI15
   have h10:=BxI.of hb15
   refine Qb ?_
   refine zD hD ?_
   refine qd 17 rfl ?_
   refine zh ZD ?_
   refine QT (b:=b_11) (by repeat (first | exact ZR.here | apply ZR.there)) (fun I16 hI16 hb16=>?_)
   have h9:=h9.mono hI16;have h10:=h10.mono hI16;have hKc12:=hKc12.trans hI16;have hD:=hD.trans hI16
   have h11:=BxI.of hb16
   refine Qb ?_
   refine zD hD ?_
   refine Qn (by kernel_rfl) ?_
   refine Qx ?_
   exact Q9 _ _ ⟨_,_,_,rfl,hKc12,rfl,h9,h10,h11⟩ (.cons rfl (.cons rfl (.cons rfl (.cons rfl .nil)))) (by (try rw [←JC hs k (by omega),hgd]);repeat (first | exact .refl | exact QJ | refine QZ ?_ | refine .drop ?_ | refine QO ?_))
  refine Qq YK rfl rfl (fun b_11=>?_)
  refine Qb ?_
  refine zD hD ?_
  refine QW 12 13 rfl rfl (by kernel_rfl) ?_ ?_
  ·
   refine Qq YK rfl rfl (fun b_9=>?_)
   refine Qb ?_
   refine zD hD ?_
   refine qd 13 rfl ?_
   refine Qq YK rfl rfl (fun b_10=>?_)
   refine Qb ?_
   refine zD hD ?_
   refine qd 15 rfl ?_
   refine zh ZD ?_
   refine QT (b:=b_9) (by repeat (first | exact ZR.here | apply ZR.there)) (fun I17 hI17 hb17=>?_)
   have hKc12:=hKc12.trans hI17;have hD:=hD.trans hI17
   have h9:=BxI.of hb17
   refine Qb ?_
   refine zD hD ?_
   refine qd 16 rfl ?_
   refine zh ZD ?_
   refine QT (b:=b_10) (by repeat (first | exact ZR.here | apply ZR.there)) (fun I18 hI18 hb18=>?_)
   have h9:=h9.mono hI18;have hKc12:=hKc12.trans hI18;have hD:=hD.trans hI18
   have h10:=BxI.of hb18
   refine Qb ?_
   refine zD hD ?_
   refine qd 17 rfl ?_
   refine zh ZD ?_
   refine QT (b:=b_11) (by repeat (first | exact ZR.here | apply ZR.there)) (fun I19 hI19 hb19=>?_)
   have h9:=h9.mono hI19;have h10:=h10.mono hI19;have hKc12:=hKc12.trans hI19;have hD:=hD.trans hI19
   have h11:=BxI.of hb19
   refine Qb ?_
   refine zD hD ?_
   refine Qn (by kernel_rfl) ?_
   refine Qx ?_
   exact Q9 _ _ ⟨_,_,_,rfl,hKc12,rfl,h9,h10,h11⟩ (.cons rfl (.cons rfl (.cons rfl (.cons rfl .nil)))) (by (try rw [←JC hs k (by omega),hgd]);repeat (first | exact .refl | exact QJ | refine QZ ?_ | refine .drop ?_ | refine QO ?_))
  refine Qq YK rfl rfl (fun b_10=>?_)
  refine Qb ?_
  refine zD hD ?_
  refine qd 12 rfl ?_
  refine Qq YK rfl rfl (fun b_9=>?_)
  refine Qb ?_
  refine zD hD ?_
  refine qd 15 rfl ?_
  refine zh ZD ?_
  refine QT (b:=b_9) (by repeat (first | exact ZR.here | apply ZR.there)) (fun I20 hI20 hb20=>?_)
  have hKc12:=hKc12.trans hI20;have hD:=hD.trans hI20
  have h9:=BxI.of hb20
  refine Qb ?_
  refine zD hD ?_
  refine qd 16 rfl ?_
  refine zh ZD ?_
  refine QT (b:=b_10) (by repeat (first | exact ZR.here | apply ZR.there)) (fun I21 hI21 hb21=>?_)
  have h9:=h9.mono hI21;have hKc12:=hKc12.trans hI21;have hD:=hD.trans hI21
  have h10:=BxI.of hb21
  refine Qb ?_
  refine zD hD ?_
  refine qd 17 rfl ?_
  refine zh ZD ?_
  refine QT (b:=b_11) (by repeat (first | exact ZR.here | apply ZR.there)) (fun I22 hI22 hb22=>?_)
  have h9:=h9.mono hI22;have h10:=h10.mono hI22;have hKc12:=hKc12.trans hI22;have hD:=hD.trans hI22
  have h11:=BxI.of hb22
  refine Qb ?_
  refine zD hD ?_
  refine Qn (by kernel_rfl) ?_
  refine Qx ?_
  exact Q9 _ _ ⟨_,_,_,rfl,hKc12,rfl,h9,h10,h11⟩ (.cons rfl (.cons rfl (.cons rfl (.cons rfl .nil)))) (by (try rw [←JC hs k (by omega),hgd]);repeat (first | exact .refl | exact QJ | refine QZ ?_ | refine .drop ?_ | refine QO ?_))
 rintro E J23 loc' ⟨p9,p10,p11,rfl,hJ,rfl,h9,h10,h11⟩
 have hR:=hR.mono hJ;have hIc:=hIc.trans hJ
 refine Qm (zR ?_)
 refine zF Zc ?_
 refine zV (Qc rfl Ql (fun hg=>by exact QA.imm h9.out rfl)) ?_
 refine zC ?_
 refine zM ?_
 refine QM 3 rfl rfl rfl ?_
 refine zJ (Qa rfl Zc) ?_
 refine zJ (Qc rfl Ql (fun hg=>by exact QA.imm h10.out rfl)) ?_
 refine zJ (QD rfl rfl rfl) ?_
 refine Zb rfl rfl rfl rfl rfl ?_
 refine zM ?_
 refine QM 8 rfl rfl rfl ?_
 refine zJ (Qa rfl Zc) ?_
 refine zJ (Qc rfl Ql (fun hg=>by exact QA.imm h11.out rfl)) ?_
 refine zJ (QD rfl rfl rfl) ?_
 refine Zb rfl rfl rfl rfl rfl ?_
 refine zN ?_
 refine zI ?_ ?_<;>intro hc80
 ·
  have hno:=(zl5 hR hall hu hv hw4).1 hc80
  refine zR ?_
  refine zV (Qg rfl Zf (fun hg=>by exact Cells.g0) rfl) ?_
  refine zh VW ?_
  refine zA (zN (Qs (Qe ?_)))
  exact ZN rfl rfl rfl Zf zzk rfl (fun w hw=>⟨_,J23,[],rfl,hIc,by repeat (first | exact hw.drop | exact hw.subL QB | exact hw.drop.drop),rfl,_,_,rfl,zhd rfl rfl hno⟩)
 obtain ⟨q,qs,hT⟩:=(zl5 hR hall hu hv hw4).2 hc80
 have hql:=hT.sl.len
 have hum:u.m≤100000:=by have h:=zuE hT hb (by omega);omega
 refine Qr (Qd (Qm (zR ?_)))
 refine zF QU ?_
 refine zV (Qc rfl Zp (fun hg=>by exact QA.imm h9.out rfl)) ?_
 refine zQ Z7 ?_
 refine zM (zN (Qw ?_))
 refine zU [(2,_),(10,_),(11,_),(83,_),(84,_)] (fun T L0 mz E I' loc'=>∃ (j:Nat) (v:Value) (L:Go.Kn.Loc),mz=u.m-j∧E=(85,.int .i64 j)::T∧HLe J23 I'∧L++[(b_2,.cells (fl2 hs v).toArray 45 (0,0))]=loc'∧j≤u.m∧Ya 3 1 v j (((qs.take j).map (·.n)).flatMap Z1) L∧(∀ i y,i<j→qs[i]? =some y→(y.k != 1)=false)) ?_ (h:=⟨0,_,[],rfl,rfl,zzm _,rfl,Nat.zero_le _,Ya.nil,fun j y h=>absurd h (Nat.not_lt_zero _)⟩)
 rintro mz E J24 loc' ⟨j,v,L,rfl,rfl,hJ,rfl,hj,hO,hall2⟩
 have h10:=h10.mono hJ;have h11:=h11.mono hJ;have hT:=hT.mono hJ;have hIc:=hIc.trans hJ
 have hB2:=hJ
 refine zR (zC (zN (Qm ?_)))
 refine zI ?_ ?_<;>intro hc86
 ·
  have hlt_j:j<u.m:=by have h:=hc86;simp at h;omega
  obtain ⟨z,hz⟩:∃ y,qs[j]? =some y:=⟨_,List.getElem?_eq_getElem (by omega)⟩
  refine Qr (Qd (Qm (Qw (zR ?_))))
  refine zV (QG rfl rfl Z7 hT.sl (fun hg=>by omega)) ?_
  refine zV (Qg rfl Zq (fun hg=>by exact zzn hT.sl hz) rfl) ?_
  refine Qq YK rfl rfl (fun b_13=>?_)
  refine zh ZD ?_
  refine Qb ?_
  refine QH .here (fun I25 hI25 hb25=>?_)
  have hT:=hT.mono hI25;have hIc:=hIc.trans hI25;have hB2:=hB2.trans hI25
  have h13:=BxI.of hb25
  refine Qd (Qm (zR ?_))
  refine zF Zc ?_
  refine zV (Qc rfl Ql (fun hg=>by exact QA.imm h13.out rfl)) ?_
  refine zC (zN ?_)
  refine zI ?_ ?_<;>intro hc91
  ·
   have hno:=zr7 hT hz hc91
   obtain ⟨a0,c0,rfl⟩:=hO.shape
   refine zR ?_
   refine zV (Qg rfl Zf (fun hg=>by exact zzl .here) rfl) ?_
   refine Y8 rfl rfl VW rfl rfl rfl rfl (by (repeat (first | exact Upd.here | apply Upd.there | apply Qu))) ?_
   refine zA (zN (Qs (Qe (Qj (Qe (Qe (Qj ?_)))))))
   refine Qe ?_
   exact ZN rfl rfl rfl Zf (.app .here) rfl (fun w hw=>⟨_,I25,[],rfl,hIc,by repeat (first | exact hw.drop | exact hw.subL QB | exact hw.drop.drop),rfl,_,_,rfl,zhd rfl rfl hno⟩)
  refine Qr (Qd (Qi ?_))
  refine zF Yo ?_
  refine zF ZK ?_
  refine zV (Qc rfl Y5 (fun hg=>by exact zzi (QA.h0 rfl))) ?_
  refine zF YT ?_
  refine zV (Qc rfl Ql (fun hg=>by exact QA.imm h13.out rfl)) ?_
  refine zpb [(0,_)] [Z1 z.n] Y9 (fun b_98=>?_)
  refine zpa (_) (([z.n]:List Int).flatMap Z1) (L) rfl rfl Y9 hO ⟨rfl,fun _=>rfl,by repeat (first | exact zzk | apply zzj | apply zzl)⟩ (zba [z.n]) ?_
  intro v2 L2 hO2 _;rw [←List.flatMap_append] at hO2;obtain ⟨a2,c2,rfl⟩:=hO2.shape
  refine zF Yo ?_
  refine zF ZK ?_
  refine Q0 rfl rfl zuS rfl rfl (by (repeat (first | exact Upd.here | apply Upd.there | apply Qu))) rfl ?_
  refine Qb (Qk (Qd (Qi (zB ?_))))
  refine zM (Qb ?_)
  exact Q9 _ _ ⟨u.m-(j+1),by omega,j+1,_,_,rfl,rfl,hB2,rfl,by omega,by rw [Zh hz,List.map_append];exact hO2,VA hz hall2 hc91⟩ (.cons rfl (.cons rfl (.cons rfl (.cons rfl (.cons rfl (.cons rfl .nil)))))) (by (try rw [←JC hs k (by omega),hgd]);repeat (first | exact .refl | exact QJ | refine QZ ?_ | refine .drop ?_ | refine QO ?_))
 have hge_j:u.m≤j:=by have h:=hc86;simp at h;omega
 obtain rfl:j=u.m:=by omega
 have hke:qs.take u.m=qs:=List.take_of_length_le (by omega)
 rw [hke] at hO
 have hall2:∀ j y,j<qs.length→qs[j]? =some y→(y.k != 1)=false:=fun j y hj hy=>hall2 j y (by omega) hy
 refine Zi (Qo (Qo (Qz (Qd (Qm ?_)))))
 have hD:=zzm J24
 refine Zt ?_
 refine QQ J24 [] mixed ?_
 refine zT 0 rfl (Qa rfl Yt) hD ?_
 refine zT 1 rfl (Qc rfl VI (fun hg=>by exact QA.imm h10.out rfl)) hD ?_
 refine zT 2 rfl (Qa rfl Yt) hD ?_
 refine zT 3 rfl (Qc rfl VI (fun hg=>by exact QA.imm h11.out rfl)) hD ?_
 refine zT 4 rfl (Qa rfl Yl) hD ?_
 refine zT 5 rfl (Qa rfl Jl) hD ?_
 refine qd 6 rfl ?_
 refine Q0 rfl rfl zqP rfl rfl (by (repeat (first | exact Upd.here | apply Upd.there | apply Qu))) rfl ?_
 refine Qb ?_
 refine zD hD ?_
 refine zT 7 rfl (Qa rfl Yl) hD ?_
 refine zT 8 rfl (Qa rfl Jo) hD ?_
 refine qd 9 rfl ?_
 refine Q0 rfl rfl zqP rfl rfl (by (repeat (first | exact Upd.here | apply Upd.there | apply Qu))) rfl ?_
 refine Qb ?_
 refine zD hD ?_
 refine Qn (by kernel_rfl) ?_
 refine Qx ?_
 refine Qd (Qm ?_)
 refine zx4 hO YF (fun I26 hI26 af26 cf26 ef26 hNd=>?_)
 subst ef26
 have hT:=hT.mono hI26;have hIc:=hIc.trans hI26
 refine zgh (loc':=[(b_2,.cells (Q6 (WW (zmU hs 42) af26 u.m cf26 (qs.map (·.n)) v3.s w4.s)).toArray 45 (0,0))]) (by rfl) ?_
 have hF:=zuW (a:=af26) (c:=cf26) hT hall2 hT.sl.len
 have hNd2:Nd I26 (WW (zmU hs 42) af26 u.m cf26 (qs.map (·.n)) v3.s w4.s).pt:=hNd
 have hD:=zzm I26
 refine Zt ?_
 refine QQ I26 [(b_2,.cells (Q6 (WW (zmU hs 42) af26 u.m cf26 (qs.map (·.n)) v3.s w4.s)).toArray 45 (0,0))] mixed ?_
 refine zT 0 rfl (Qg rfl Zf (fun hg=>by exact Cells.g0) rfl) hD ?_
 refine zT 1 rfl (Qg rfl Zf (fun hg=>by exact Cells.g0) rfl) hD ?_
 refine qd 2 rfl ?_
 refine qcV (vs:=[_]) rfl za5 (KV _ hNd2) ?_
 refine Qb ?_
 refine zD hD ?_
 refine qd 3 rfl ?_
 refine zh VW ?_
 refine Qb ?_
 refine zD hD ?_
 refine zT 4 rfl (QC rfl) hD ?_
 refine Qn (by kernel_rfl) ?_
 refine Qx ?_
 refine Qd (Qs ?_)
 exact ZN rfl rfl rfl Zf zzk rfl (fun w hw=>⟨_,I26,[],rfl,hIc,hw.drop,rfl,_,_,rfl,zsl hF hNd2⟩)
end
section
open Go Go.Kn Go.Proofs
def Wb (xs:List Nt)(t:Nt):Nat:=(xs.takeWhile fun x=>decide (Vh x t<0)).length
def zkN (xs:List Nt)(t:Nt):Prop:=∀ (k l:Nat) (x y:Nt),k≤l→xs[k]? =some x→xs[l]? =some y→Vh y t<0→Vh x t<0
theorem zs5 {xs:List Nt}{t:Nt}{i:Nat}(hi:i≤xs.length)(h1:∀ k x,k<i→xs[k]? =some x→Vh x t<0)(h2:∀ k x,i≤k→xs[k]? =some x→¬Vh x t<0):Wb xs t=i:=by
 unfold Wb
 have e:xs.takeWhile (fun x=>decide (Vh x t<0))=xs.take i:=by
  induction xs generalizing i with
  | nil=>simp
  | cons a l ih=>
   cases i with
   | zero=>
    have:=h2 0 a (Nat.le_refl _) rfl
    simp [List.takeWhile,this]
   | succ i=>
    have h:=h1 0 a (by omega) rfl
    simp only [List.takeWhile,h,decide_true,List.take_succ_cons]
    rw [ih (i:=i) (by simpa using hi) (fun k x hk hx=>h1 (k+1) x (by omega) hx) (fun k x hk hx=>h2 (k+1) x (by omega) hx)]
 rw [e,List.length_take];omega
theorem zsO {xs:List Nt}{t:Nt}(hm:zkN xs t){i m:Nat}{y:Nt}(hy:xs[m]? =some y)(hc:Vh y t<0):∀ k x,k<m+1→xs[k]? =some x→Vh x t<0:=fun k x hk hx=>hm k m x y (by omega) hx hy hc
theorem zlW {xs:List Nt}{t:Nt}(hm:zkN xs t){m:Nat}{y:Nt}(hy:xs[m]? =some y)(hc:¬Vh y t<0):∀ k x,m≤k→xs[k]? =some x→¬Vh x t<0:=fun k x hk hx h=>hc (hm m k y x hk hy hx h)
def zd0 (xs:List Nt)(t:Nt):Bool:=match xs[Wb xs t]? with | some y=>Vh y t==0 | none=>false
theorem zky {xs:List Nt}{t:Nt}{i:Nat}{y:Nt}(hp:Wb xs t=i)(hy:xs[i]? =some y):zd0 xs t=(Vh y t==0):=by unfold zd0;rw [hp,hy]
theorem zw1 {xs:List Nt}{t:Nt}{i:Nat}(hp:Wb xs t=i)(hi:xs.length≤i):zd0 xs t=false:=by unfold zd0;rw [hp,List.getElem?_eq_none hi]
structure Pe where
 a:Option Addr
 n:Nat
 c:Nat
 notes:List Nt
def Xq (x:Pe):List Value:=[.slice x.a x.n x.c]
theorem zdQ (x:Pe):(Xq x).length=1:=rfl
theorem zuO (xs:List Pe):YL (xs.flatMap Xq)=true:=YJ (fun _=>rfl) xs
def zfn (xs:List Nt)(t:Nt):List Nt:=xs.take (Wb xs t)++t::xs.drop (Wb xs t)
theorem zgf (xs:List Nt)(t:Nt):Wb xs t≤xs.length:=by
 unfold Wb
 exact (List.takeWhile_sublist _).length_le
theorem zdg {I:Qt}{l:Go.Kn.Loc}{b i t:Nat}{fz:Nat×Nat}{cur:List Value}{v:Value}(h:cur[i]? =some v):QA I ((b,.cells cur.toArray t fz)::l) b ((i:Int).toNat*1+0) v:=by
 rw [Nat.add_zero,Nat.mul_one,Int.toNat_natCast]
 exact zzh (by simpa [Jg] using h)
theorem zfJ {cur:List Value}{i:Nat}{v:Value}(h:cur[i]? =some v):((i:Int).toNat*1+0).blt cur.toArray.size=true:=by
 rw [Nat.add_zero,Nat.mul_one,Int.toNat_natCast,List.size_toArray]
 have:=(List.getElem?_eq_some_iff.1 h).1
 exact Nat.ble_eq_true_of_le this
theorem zmc {cur:List Value}{i:Nat}{v:Value}:cur.toArray.setIfInBounds ((i:Int).toNat*1+0) v=(cur.set i v).toArray:=by
 rw [Nat.add_zero,Nat.mul_one,Int.toNat_natCast];simp
end
section
open Go Go.Kn Go.Proofs
theorem ziI:CvT Tryz.prog 216 3 .i64:=⟨by kernel_rfl,by kernel_rfl⟩
theorem zx0 {I:Qt}{av:Option Addr}{n c:Nat}{xs:List Nt}{t:Nt}(hP:U7 I av n c xs)(hf:∀ x∈xs,QP x=true)(hT:NtM I t)(hm:zkN xs t)(hn:n≤100000):ZA Tryz.prog 173 [.slice av n c,Kj t,.func (.func 81) #[] #[]] I (.tuple #[.int .i64 (Wb xs t:Nat),.bool (zd0 xs t)]):=by
 intro g H w hw
 refine qe Tryz.func173 Tryz.ntmps173 hw ?_
 have hIc:=zzm I
 have hln:=hP.sl.len
 refine zR ?_
 refine QR rfl rfl rfl (fun b_4=>?_)
 refine zA ?_
 refine zA (Qb ?_)
 refine QH .here (fun I1 hI1 hb1=>?_)
 have hP:=hP.mono hI1;have hT:=hT.mono hI1;have hIc:=hIc.trans hI1
 have h4:=BxI.of hb1
 refine Qd (zR (zM ?_))
 refine zQ Za ?_
 refine zA ?_
 refine zN (zR ?_)
 refine zM ?_
 refine zA ?_
 refine zA (zN (Qm (Qw ?_)))
 refine zU [(0,_),(2,_),(4,_),(8,_)] (fun T L0 mz E I' loc'=>∃ (i j:Nat),mz=j-i∧E=(9,.int .i64 i)::(10,.int .i64 j)::T∧I1=I'∧L0=loc'∧i≤j∧j≤n∧(∀ k x,k<i→xs[k]? =some x→Vh x t<0)∧(∀ k x,j≤k→xs[k]? =some x→¬Vh x t<0)) ?_ (h:=⟨0,n,rfl,rfl,rfl,rfl,Nat.zero_le _,Nat.le_refl _,fun k x h=>absurd h (Nat.not_lt_zero _),fun k x hk hx=>by rw [List.getElem?_eq_none (by omega)] at hx;cases hx⟩)
 rintro mz E I' loc' ⟨i,j,rfl,rfl,rfl,rfl,hij,hjn,hlo,hup⟩
 refine Qm (zR (zM ?_))
 refine zM ?_
 refine zC (zN ?_)
 refine zI ?_ ?_<;>intro hc17
 ·
  have hlt:i<j:=by have h:=hc17;simp at h;omega
  obtain ⟨y,hy⟩:∃ y,xs[(i+j) / 2]? =some y:=⟨_,List.getElem?_eq_getElem (by omega)⟩
  have hym:y∈xs:=List.mem_of_getElem? hy
  refine Qr (Qd (Qw (zR (zM ?_))))
  refine zM ?_
  refine zB ?_
  refine zV (ZU rfl W9) ?_
  refine zV (zhx rfl rfl (by decide) (rfl:min _ _=1)) ?_
  refine zV (ZU rfl ziI) ?_
  refine zA (Qb ?_)
  rw [zsE i j (by omega)]
  refine Qd (Qm ?_)
  have hD:=zzm I1
  refine Zt ?_
  refine QQ I1 [] mixed ?_
  refine zT 0 rfl (Qf rfl) hD ?_
  refine zT 1 rfl (Qf rfl) hD ?_
  refine zT 2 rfl (Qf rfl) hD ?_
  refine zT 3 rfl (QG rfl rfl Za hP.sl (fun hg=>by omega)) hD ?_
  refine zT 4 rfl (Qg rfl Zf (fun hg=>by exact zzn (k:=(i+j) / 2) hP.sl hy) rfl) hD ?_
  refine zT 5 rfl (Qg rfl Zf (fun hg=>by exact BxI.cells (vs:=Q6 t) h4) rfl) hD ?_
  refine qd 6 rfl ?_
  refine qcV (vs:=[_,_]) rfl zeC (zew (hP.m y hym (hf y hym)) hT) ?_
  refine Qb ?_
  refine zD hD ?_
  refine zT 7 rfl (QD rfl rfl rfl) hD ?_
  refine Qn (by kernel_rfl) ?_
  refine Qx ?_
  refine Qd ?_
  refine zI ?_ ?_<;>intro hc31
  ·
   refine Qi (zM ?_)
   refine zB ?_
   refine zA (Qb (Qk ?_))
   exact zm (h:=⟨j-((i+j) / 2+1),by omega,(i+j) / 2+1,j,rfl,rfl,rfl,rfl,by omega,hjn,zsO (i:=i) hm hy (by simpa using hc31),hup⟩)
  refine Qi (zM ?_)
  refine zA (Qb (Qk ?_))
  exact zm (h:=⟨(i+j) / 2-i,by omega,i,(i+j) / 2,rfl,rfl,rfl,rfl,by omega,by omega,hlo,zlW hm hy (by simpa using hc31)⟩)
 have hge:j≤i:=by have h:=hc17;simp at h;omega
 have hje:j=i:=by omega
 subst hje
 have hpos:=zs5 (by omega) hlo hup
 refine Zi (Qo (Qo (Qz (Qd (Qm ?_)))))
 rcases (show j<n∨n≤j by omega) with hjl | hjl
 ·
  have hk0:decide ((j:Int)<(n:Int))=true:=by simp;omega
  obtain ⟨y,hy⟩:∃ y,xs[j]? =some y:=⟨_,List.getElem?_eq_getElem (by omega)⟩
  have hym:y∈xs:=List.mem_of_getElem? hy
  have hD:=zzm I1
  refine Zt ?_
  refine QQ I1 [] mixed ?_
  refine zT 0 rfl (Qf rfl) hD ?_
  refine zT 1 rfl (Qf rfl) hD ?_
  refine zT 2 rfl (Qf rfl) hD ?_
  refine zT 3 rfl (QD rfl rfl rfl) hD ?_
  rw [hk0]
  refine zT 4 rfl (Qf rfl) hD ?_
  refine zw 5 39 rfl (Qf rfl) hD ?_
  refine zw 6 39 rfl (Qf rfl) hD ?_
  refine zw 7 39 rfl (Qf rfl) hD ?_
  refine zw 8 39 rfl (QG rfl rfl Za hP.sl (fun hg=>by omega)) hD ?_
  refine zw 9 39 rfl (Qg rfl Zf (fun hg=>by exact zzn (k:=j) hP.sl hy) rfl) hD ?_
  refine zw 10 39 rfl (Qg rfl Zf (fun hg=>by exact BxI.cells (vs:=Q6 t) h4) rfl) hD ?_
  refine qd 11 rfl ?_
  refine QN (dj:=39) rfl rfl rfl ?_
  refine qcV (vs:=[_,_]) rfl zeC (zew (hP.m y hym (hf y hym)) hT) ?_
  refine Qb ?_
  refine zD hD ?_
  refine zw 12 39 rfl (QD rfl rfl rfl) hD ?_
  refine zT 13 rfl (Q5 rfl rfl rfl) hD ?_
  refine zT 14 rfl (QC rfl) hD ?_
  refine zT 15 rfl (QC rfl) hD ?_
  refine Qn (by kernel_rfl) ?_
  refine Qx ?_
  refine Qd (Qs ?_)
  exact Jj rfl rfl rfl (fun w hw=>⟨by rw [hpos,zky hpos hy]<;>rfl,(hw.mono hIc).drop⟩)
 have hk0:decide ((j:Int)<(n:Int))=false:=by simp;omega
 have hD:=zzm I1
 refine Zt ?_
 refine QQ I1 [] mixed ?_
 refine zT 0 rfl (Qf rfl) hD ?_
 refine zT 1 rfl (Qf rfl) hD ?_
 refine zT 2 rfl (Qf rfl) hD ?_
 refine zT 3 rfl (QD rfl rfl rfl) hD ?_
 rw [hk0]
 refine zT 4 rfl (Qf rfl) hD ?_
 refine zW 5 39 hD ?_
 refine zW 6 39 hD ?_
 refine zW 7 39 hD ?_
 refine zW 8 39 hD ?_
 refine zW 9 39 hD ?_
 refine zW 10 39 hD ?_
 refine zW 11 39 hD ?_
 refine zW 12 39 hD ?_
 refine zT 13 rfl (Y0 rfl rfl rfl) hD ?_
 refine zT 14 rfl (QC rfl) hD ?_
 refine zT 15 rfl (QC rfl) hD ?_
 refine Qn (by kernel_rfl) ?_
 refine Qx ?_
 refine Qd (Qs ?_)
 exact Jj rfl rfl rfl (fun w hw=>⟨by rw [hpos,zw1 hpos (by omega)]<;>rfl,(hw.mono hIc).drop⟩)
end
section
open Go Go.Kn Go.Proofs
theorem zqs:ElT Tryz.prog 22 59 1 24:=.of (by kernel_rfl)
theorem zdv {I:Qt}{av:Option Addr}{n c:Nat}{xs:List Nt}(hS:Sl I 45 Q6 av n c xs)(hn:n≤400000):Vl Tryz.prog 175 [.slice av n c] I [] (fun v I' L=>I'=I∧Ya 45 45 v n (xs.flatMap Q6) L):=by
 intro g H w hw
 refine qe Tryz.func175 Tryz.ntmps175 hw ?_
 refine zR (zA (zN (Qm (zR ?_))))
 refine zM ?_
 refine zV (zhb rfl rfl Za) ?_
 refine zN ?_
 refine zI ?_ ?_<;>intro hc4
 ·
  have hn0:n=0:=Decidable.byContradiction fun h=>by have:=hS.base h;rw [this] at hc4;cases hc4
  have hl:=hS.len
  subst hn0
  have hx0:=List.eq_nil_of_length_eq_zero hl
  subst hx0
  refine zR (zA (zN (Qs (Qe ?_))))
  exact Qv rfl rfl (fun w hw=>⟨_,I,_,rfl,zzm _,hw,rfl,Ya.nil⟩)
 refine Qr (Qd (zR ?_))
 refine zpb [] [] Ut (fun b_5=>?_)
 refine zM ?_
 refine zpa (_) (xs.flatMap Q6) ([(b_5,_)]) rfl rfl Ut Ya.new (hS.src YN) (znh _) ?_
 intro v1 L1 hO1 _;rw [List.nil_append,Nat.zero_add] at hO1
 refine zA (zN (Qs ?_))
 exact Qv rfl rfl (fun w hw=>⟨_,I,_,rfl,zzm _,hw.subL QJ,rfl,hO1⟩)
theorem zlT {I:Qt}{av:Option Addr}{n c:Nat}{xs:List Pe}(hS:Sl I 1 Xq av n c xs)(hn:n≤400000):Vl Tryz.prog 52 [.slice av n c] I [] (fun v I' L=>I'=I∧Ya 59 1 v n (xs.flatMap Xq) L):=by
 intro g H w hw
 refine qe Tryz.func52 Tryz.ntmps52 hw ?_
 refine zR (zA (zN (Qm (zR ?_))))
 refine zM ?_
 refine zV (zhb rfl rfl V7) ?_
 refine zN ?_
 refine zI ?_ ?_<;>intro hc4
 ·
  have hn0:n=0:=Decidable.byContradiction fun h=>by have:=hS.base h;rw [this] at hc4;cases hc4
  have hl:=hS.len
  subst hn0
  have hx0:=List.eq_nil_of_length_eq_zero hl
  subst hx0
  refine zR (zA (zN (Qs (Qe ?_))))
  exact Qv rfl rfl (fun w hw=>⟨_,I,_,rfl,zzm _,hw,rfl,Ya.nil⟩)
 refine Qr (Qd (zR ?_))
 refine zpb [] [] zqs (fun b_5=>?_)
 refine zM ?_
 refine zpa (_) (xs.flatMap Xq) ([(b_5,_)]) rfl rfl zqs Ya.new (hS.src zdQ) (zuO _) ?_
 intro v1 L1 hO1 _;rw [List.nil_append,Nat.zero_add] at hO1
 refine zA (zN (Qs ?_))
 exact Qv rfl rfl (fun w hw=>⟨_,I,_,rfl,zzm _,hw.subL QJ,rfl,hO1⟩)
end
section
open Go Go.Kn Go.Proofs
theorem ztL:Fun Tryz.prog 173:=.of Tryz.func173 (by kernel_rfl) (by kernel_rfl)
theorem zfx:Fun Tryz.prog 174:=.of Tryz.func174 (by kernel_rfl) (by kernel_rfl)
theorem zf8:Fun Tryz.prog 175:=.of Tryz.func175 (by kernel_rfl) (by kernel_rfl)
theorem zhn:SzT Tryz.prog 57 1:=.of (by kernel_rfl)
theorem zq1 {I:Qt}{bc bp:Nat}{qa aa:Option Addr}{pn pc qn qc an ac:Nat}{cur:List Value}{i:Nat}{pe:Pe}{t:Nt}(hci:cur[i]? =some (.slice pe.a pe.n pe.c))(hi:i<pn)(hpn:pn≤100000)(hP:U7 I pe.a pe.n pe.c pe.notes)(hf:∀ x∈pe.notes,QP x=true)(hT:NtM I t)(hm:zkN pe.notes t)(hn:pe.n≤4096):K2 Tryz.prog 109 [Zw bc,.int .i64 i,Kj t] I [(bc,.cells #[.slice (some ⟨bp,0,none⟩) pn pc,.slice qa qn qc,.slice aa an ac] 108 (0,0)),(bp,.cells (cur).toArray 59 (0,0))] (fun v I' L'=>v= .tuple #[]∧((zd0 pe.notes t=true∧L'=[(bc,.cells #[.slice (some ⟨bp,0,none⟩) pn pc,.slice qa qn qc,.slice aa an ac] 108 (0,0)),(bp,.cells (cur).toArray 59 (0,0))])∨(zd0 pe.notes t=false∧pe.n<4096∧∃ a c,L'=[(bc,.cells #[.slice (some ⟨bp,0,none⟩) pn pc,.slice qa qn qc,.slice aa an ac] 108 (0,0)),(bp,.cells (cur.set i (.slice a (pe.n+1) c)).toArray 59 (0,0))]∧Sl I' 45 Q6 a (pe.n+1) c (zfn pe.notes t)))) (fun v=>v= .iface 50 (.int .i64 2)∧zd0 pe.notes t=false∧¬pe.n<4096):=by
 intro g H w hw
 refine qe Tryz.func109 Tryz.ntmps109 hw ?_
 have hIc:=zzm I
 have hln:=hP.sl.len
 have hpl:=zgf pe.notes t
 refine zR ?_
 refine QR rfl rfl rfl (fun b_5=>?_)
 refine Qb ?_
 refine QH .here (fun I1 hI1 hb1=>?_)
 have hP:=hP.mono hI1;have hT:=hT.mono hI1;have hIc:=hIc.trans hI1
 have h5:=BxI.of hb1
 refine Qd (zR (zM ?_))
 refine zV (QI rfl) ?_
 refine zF Yd ?_
 refine zF Yx ?_
 refine zL JG ?_
 refine zM ?_
 refine zV (Ud rfl rfl V7 (fun hg=>by omega)) ?_
 refine zA (zN (Qm ?_))
 have hD:=zzm I1
 refine QQ I1 [(bc,.cells #[.slice (some ⟨bp,0,none⟩) pn pc,.slice qa qn qc,.slice aa an ac] 108 (0,0)),(bp,.cells (cur).toArray 59 (0,0))] mixed ?_
 refine zT 0 rfl (Qf rfl) hD ?_
 refine zT 1 rfl (QI rfl) hD ?_
 refine zT 2 rfl (Qa rfl Zr) hD ?_
 refine zT 3 rfl (Qc rfl Yq (fun hg=>by exact zzg (zdg hci))) hD ?_
 refine zT 4 rfl (Qg rfl Zf (fun hg=>by exact BxI.cells (vs:=Q6 t) h5) rfl) hD ?_
 refine qd 5 rfl ?_
 refine qcV (vs:=[_,_,_]) rfl ztL (zx0 hP hf hT hm (by omega)) ?_
 refine Qb ?_
 refine zD hD ?_
 refine zT 6 rfl (Qf rfl) hD ?_
 refine zT 7 rfl (Q2 rfl rfl) hD ?_
 refine zT 8 rfl (Q2 rfl rfl) hD ?_
 refine zT 9 rfl (QC rfl) hD ?_
 refine zT 10 rfl (QC rfl) hD ?_
 refine Qn (by kernel_rfl) ?_
 refine Qd (Qm (zR (zM (zN ?_))))
 refine zI ?_ ?_<;>intro hc25
 ·
  refine Qs (Qe ?_)
  exact Yh rfl (fun w hw=>.inl ⟨_,I1,_,rfl,hIc,hw,rfl,.inl ⟨hc25,rfl⟩⟩)
 refine Qr (Qd (zR (zM ?_)))
 refine zV (QI rfl) ?_
 refine zF Zr ?_
 refine zV (Qc rfl Yq (fun hg=>by exact zzg (zdg hci))) ?_
 refine zQ Za ?_
 refine zC ?_
 refine zx5 [_,_] rfl Kc .nil (UR I1 (decide ((pe.n:Int)<4096)) 2) ?_ (fun pv hpv=>by refine zx6 ?_;exact (⟨hpv.1,hc25,by have h:=hpv.2;simp at h;omega⟩))
 rintro vv2 I2 L2 hI2 ⟨rfl,rfl,rfl,hok⟩
 have hP:=hP.mono hI2;have h5:=h5.mono hI2;have hIc:=hIc.trans hI2
 have hok2:pe.n<4096:=by have h:=hok;simp at h;omega
 refine zN ?_
 have hD:=zzm I2
 refine QQ I2 [] mixed ?_
 refine zT 0 rfl (Qf rfl) hD ?_
 refine zT 1 rfl (Qf rfl) hD ?_
 refine zT 2 rfl (QI rfl) hD ?_
 refine zT 3 rfl (Qa rfl Zr) hD ?_
 refine zT 6 rfl (Qf rfl) hD ?_
 refine zT 7 rfl (Qg rfl Zf (fun hg=>by exact BxI.cells (vs:=Q6 t) h5) rfl) hD ?_
 refine QW 4 8 rfl rfl (by kernel_rfl) ?_ ?_
 ·
  refine zV (Qc rfl Yq (fun hg=>by exact zzg (zdg hci))) ?_
  refine Qb ?_
  refine zD hD ?_
  refine QW 5 8 rfl rfl (by kernel_rfl) ?_ ?_
  ·
   refine zpc [_] rfl zf8 .nil (zdv hP.sl (by omega)) ?_
   rintro vv3 I3 L3 hI3 ⟨rfl,hOc⟩
   have hP:=hP.mono hI3;have hIc:=hIc.trans hI3;have hD:=hD.trans hI3
   refine Qb ?_
   refine zD hD ?_
   refine qd 8 rfl ?_
   refine zpb [(0,_)] [Q6 t] Ut (fun b_41=>?_)
   refine Qb ?_
   refine zD hD ?_
   refine qd 9 rfl ?_
   refine zpc [_,_,_] rfl zfx (by exact zf2) (zbA hOc (by omega) hP.sl.len (i:=Wb pe.notes t) (by omega) b_41 t) ?_
   rintro vv4 I4 L4 hI4 ⟨rfl,hOi⟩
   have hIc:=hIc.trans hI4;have hD:=hD.trans hI4
   refine Qb ?_
   refine zD hD ?_
   refine zT 10 rfl (QI rfl) hD ?_
   refine zT 11 rfl (Qa rfl Zr) hD ?_
   refine qd 12 rfl ?_
   refine zx7 hOi YN (fun I5 hI5 af5 cf5 ef5 hZ=>?_)
   subst ef5
   have hIc:=hIc.trans hI5;have hD:=hD.trans hI5
   refine Q0 rfl rfl zhn rfl rfl Upd.u1 (zfJ hci) ?_
   refine Qb ?_
   refine zD hD ?_
   refine Qn (by kernel_rfl) ?_
   exact YB (Yh rfl (fun w hw=>.inl ⟨_,I5,_,rfl,hIc,hw,rfl,.inr ⟨hc25,hok2,_,_,by rw [zmc],hZ⟩⟩))
  refine zpb [(0,_)] [Q6 t] Ut (fun b_41=>?_)
  refine Qb ?_
  refine zD hD ?_
  refine qd 5 rfl ?_
  refine zpc [_] rfl zf8 .nil (zdv hP.sl (by omega)) ?_
  rintro vv6 I6 L6 hI6 ⟨rfl,hOc⟩
  have hP:=hP.mono hI6;have hIc:=hIc.trans hI6;have hD:=hD.trans hI6
  refine Qb ?_
  refine zD hD ?_
  refine qd 9 rfl ?_
  refine zpc [_,_,_] rfl zfx (by exact za8) (zbA hOc (by omega) hP.sl.len (i:=Wb pe.notes t) (by omega) b_41 t) ?_
  rintro vv7 I7 L7 hI7 ⟨rfl,hOi⟩
  have hIc:=hIc.trans hI7;have hD:=hD.trans hI7
  refine Qb ?_
  refine zD hD ?_
  refine zT 10 rfl (QI rfl) hD ?_
  refine zT 11 rfl (Qa rfl Zr) hD ?_
  refine qd 12 rfl ?_
  refine zx7 hOi YN (fun I8 hI8 af8 cf8 ef8 hZ=>?_)
  subst ef8
  have hIc:=hIc.trans hI8;have hD:=hD.trans hI8
  refine Q0 rfl rfl zhn rfl rfl Upd.u1 (zfJ hci) ?_
  refine Qb ?_
  refine zD hD ?_
  refine Qn (by kernel_rfl) ?_
  exact YB (Yh rfl (fun w hw=>.inl ⟨_,I8,_,rfl,hIc,hw,rfl,.inr ⟨hc25,hok2,_,_,by rw [zmc],hZ⟩⟩))
 refine zpb [(0,_)] [Q6 t] Ut (fun b_41=>?_)
 refine Qb ?_
 refine zD hD ?_
 refine qd 4 rfl ?_
 refine zV (Qc rfl Yq (fun hg=>by exact zzg (zzg (zdg hci)))) ?_
 refine Qb ?_
 refine zD hD ?_
 refine qd 5 rfl ?_
 refine zpc [_] rfl zf8 .nil (zdv hP.sl (by omega)) ?_
 rintro vv9 I9 L9 hI9 ⟨rfl,hOc⟩
 have hP:=hP.mono hI9;have hIc:=hIc.trans hI9;have hD:=hD.trans hI9
 refine Qb ?_
 refine zD hD ?_
 refine qd 9 rfl ?_
 refine zpc [_,_,_] rfl zfx (by exact za8) (zbA hOc (by omega) hP.sl.len (i:=Wb pe.notes t) (by omega) b_41 t) ?_
 rintro vv10 I10 L10 hI10 ⟨rfl,hOi⟩
 have hIc:=hIc.trans hI10;have hD:=hD.trans hI10
 refine Qb ?_
 refine zD hD ?_
 refine zT 10 rfl (QI rfl) hD ?_
 refine zT 11 rfl (Qa rfl Zr) hD ?_
 refine qd 12 rfl ?_
 refine zx7 hOi YN (fun I11 hI11 af11 cf11 ef11 hZ=>?_)
 subst ef11
 have hIc:=hIc.trans hI11;have hD:=hD.trans hI11
 refine Q0 rfl rfl zhn rfl rfl Upd.u1 (zfJ hci) ?_
 refine Qb ?_
 refine zD hD ?_
 refine Qn (by kernel_rfl) ?_
 exact YB (Yh rfl (fun w hw=>.inl ⟨_,I11,_,rfl,hIc,hw,rfl,.inr ⟨hc25,hok2,_,_,by rw [zmc],hZ⟩⟩))
end
section
open Go Go.Kn Go.Proofs
theorem Jd:AgT Tryz.prog 28 3:=.of (by kernel_rfl)
theorem zqo:Fun Tryz.prog 58:=.of Tryz.func58 (by kernel_rfl) (by kernel_rfl)
theorem zgZ:PlT Tryz.prog 28 #[(0,1),(1,2)] (.agg #[(.slice none 0 0),(.slice none 0 0),(.slice none 0 0)]):=⟨.of (by kernel_rfl),by kernel_rfl,fun w=>by kernel_rfl⟩
theorem Kk:SzT Tryz.prog 28 3:=.of (by kernel_rfl)
theorem zca:Y7 Tryz.prog 28 (.agg #[(.slice none 0 0),(.slice none 0 0),(.slice none 0 0)]):=.of (by kernel_rfl)
theorem zqa:zys Tryz.prog 22 59 24 (.agg #[.slice none 0 0]) (.slice none 0 0):=⟨by kernel_rfl,by kernel_rfl,by rfl⟩
theorem zgr (I:Qt):ZA Tryz.prog 58 [] I (zs4):=by
 intro g H w hw
 refine qe Tryz.func58 Tryz.ntmps58 hw ?_
 refine zR ?_
 refine Qq UI rfl rfl (fun b_0=>?_)
 refine zN (zR ?_)
 refine zV (Qg rfl ZM (fun hg=>by exact Cells.g0) rfl) ?_
 refine zh Yp ?_
 refine zN (Qs ?_)
 exact ZX rfl rfl ZM zzk rfl (fun w hw=>⟨by rfl,hw.drop⟩)
theorem zxo (I:Qt)(n:Int):Vl Tryz.prog 14 [.int .i64 n] I [] (fun v I' L'=>I'=I∧(((decide (n<1)||decide (n>24))=true∧L'=[]∧v= .tuple #[.agg #[.slice none 0 0,.slice none 0 0,.slice none 0 0],.int .i64 1])∨((decide (n<1)||decide (n>24))=false∧∃ b,L'=[(b,.cells (List.replicate n.toNat (Value.slice none 0 0)).toArray 59 (0,0))]∧v= .tuple #[.agg #[.slice (some ⟨b,0,none⟩) n.toNat n.toNat,.slice none 0 0,.slice none 0 0],.int .i64 0]))):=by
 intro g H w hw
 refine qe Tryz.func14 Tryz.ntmps14 hw ?_
 refine zR ?_
 refine Qq zca rfl rfl (fun b_2=>?_)
 refine zA (zN (Qm (zR ?_)))
 refine zM ?_
 refine zC ?_
 refine zM ?_
 refine QM 2 rfl rfl rfl ?_
 refine zJ (Qf rfl) ?_
 refine zJ (QD rfl rfl rfl) ?_
 refine Zb rfl rfl rfl rfl rfl ?_
 refine zN ?_
 refine zI ?_ ?_<;>intro hc9
 ·
  refine zR ?_
  refine zV (Qg rfl Jd (fun hg=>by exact Cells.g0) rfl) ?_
  refine zh Kk ?_
  refine zA (zN (Qs (Qe ?_)))
  exact ZN rfl rfl rfl Jd zzk rfl (fun w hw=>⟨_,I,_,rfl,zzm _,hw.drop,rfl,.inl ⟨hc9,rfl,rfl⟩⟩)
 have h9:1≤n∧n≤24:=by have h:=hc9;simp at h;omega
 refine Qr (Qd (Qm ?_))
 have hD:=zzm I
 refine Zt ?_
 refine QQ I [] mixed ?_
 refine zT 0 rfl (Qf rfl) hD ?_
 refine QW 1 2 rfl rfl (by kernel_rfl) ?_ ?_
 ·
  refine W6 zqa rfl rfl (by omega) (by decide) rfl rfl (fun b_12=>?_)
  refine Qb ?_
  refine zD hD ?_
  refine qd 2 rfl ?_
  refine qcV (vs:=[]) rfl zqo (zgr _) ?_
  refine Qb ?_
  refine zD hD ?_
  refine zT 3 rfl (QK (ps:=[(0,_),(1,_)]) [_,_,_] zgZ rfl rfl) hD ?_
  refine qd 4 rfl ?_
  refine zh Kk ?_
  refine Qb ?_
  refine zD hD ?_
  refine zT 5 rfl (QC rfl) hD ?_
  refine Qn (by kernel_rfl) ?_
  refine Qx ?_
  refine Qd (Qs ?_)
  exact ZN rfl rfl rfl Jd (.there .here) rfl (fun w hw=>⟨_,I,_,rfl,zzm _,hw.subL (.keep (.drop .refl)),rfl,.inr ⟨hc9,_,rfl,rfl⟩⟩)
 refine qcV (vs:=[]) rfl zqo (zgr _) ?_
 refine Qb ?_
 refine zD hD ?_
 refine qd 1 rfl ?_
 refine W6 zqa rfl rfl (by omega) (by decide) rfl rfl (fun b_12=>?_)
 refine Qb ?_
 refine zD hD ?_
 refine zT 3 rfl (QK (ps:=[(0,_),(1,_)]) [_,_,_] zgZ rfl rfl) hD ?_
 refine qd 4 rfl ?_
 refine zh Kk ?_
 refine Qb ?_
 refine zD hD ?_
 refine zT 5 rfl (QC rfl) hD ?_
 refine Qn (by kernel_rfl) ?_
 refine Qx ?_
 refine Qd (Qs ?_)
 exact ZN rfl rfl rfl Jd (.there .here) rfl (fun w hw=>⟨_,I,_,rfl,zzm _,hw.subL (.keep (.drop .refl)),rfl,.inr ⟨hc9,_,rfl,rfl⟩⟩)
end
section
open Go Go.Kn Go.Proofs
theorem zi2:∀ a:List UInt8,Lib.compareBytes a a=0
 | []=>rfl
 | x::l=>by simp only [Lib.compareBytes,if_neg (UInt8.lt_irrefl x)];exact zi2 l
theorem zsq:∀ {a b:List UInt8},Lib.compareBytes a b=0→a=b
 | [],[],_=>rfl
 | [],_::_,h=>by simp [Lib.compareBytes] at h
 | _::_,[],h=>by simp [Lib.compareBytes] at h
 | x::a,y::b,h=>by
  unfold Lib.compareBytes at h
  split at h
  ·
   cases h
  ·
   rename_i h1
   split at h
   ·
    cases h
   ·
    rename_i h2
    have e:x=y:=UInt8.le_antisymm (UInt8.not_lt.1 h2) (UInt8.not_lt.1 h1)
    rw [e,zsq h]
theorem zgA:∀ {a b c:List UInt8},Lib.compareBytes a b<0→Lib.compareBytes b c<0→Lib.compareBytes a c<0
 | [],[],_,h,_=>by simp [Lib.compareBytes] at h
 | _::_,[],_,h,_=>by simp [Lib.compareBytes] at h
 | _,_::_,[],_,h=>by simp [Lib.compareBytes] at h
 | [],_::_,_::_,_,_=>by simp [Lib.compareBytes]
 | x::a,y::b,z::c,h1,h2=>by
  unfold Lib.compareBytes at h1 h2 ⊢
  by_cases hxy:x<y
  ·
   by_cases hyz:y<z
   ·
    rw [if_pos (UInt8.lt_trans hxy hyz)];decide
   ·
    rw [if_neg hyz] at h2
    by_cases hzy:z<y
    ·
     rw [if_pos hzy] at h2;simp at h2
    ·
     have e:y=z:=UInt8.le_antisymm (UInt8.not_lt.1 hzy) (UInt8.not_lt.1 hyz)
     rw [←e,if_pos hxy];decide
  ·
   rw [if_neg hxy] at h1
   by_cases hyx:y<x
   ·
    rw [if_pos hyx] at h1;simp at h1
   ·
    rw [if_neg hyx] at h1
    have e:x=y:=UInt8.le_antisymm (UInt8.not_lt.1 hyx) (UInt8.not_lt.1 hxy)
    rw [e]
    by_cases hyz:y<z
    ·
     rw [if_pos hyz];decide
    ·
     rw [if_neg hyz] at h2 ⊢
     by_cases hzy:z<y
     ·
      rw [if_pos hzy] at h2;simp at h2
     ·
      rw [if_neg hzy] at h2 ⊢
      exact zgA h1 h2
theorem zjI:∀ (a b:List UInt8),Lib.compareBytes a b= - Lib.compareBytes b a
 | [],[]=>rfl
 | [],_::_=>rfl
 | _::_,[]=>rfl
 | x::a,y::b=>by
  unfold Lib.compareBytes
  by_cases hxy:x<y
  ·
   rw [if_pos hxy,if_neg (UInt8.lt_asymm hxy),if_pos hxy]
  ·
   rw [if_neg hxy]
   by_cases hyx:y<x
   ·
    rw [if_pos hyx,if_pos hyx];rfl
   ·
    rw [if_neg hyx,if_neg hyx,if_neg hxy];exact zjI a b
theorem Jf {x y z:Nt}(h1:Vh x y<0)(h2:Vh y z<0):Vh x z<0:=zgA h1 h2
theorem KW (x:Nt):Vh x x=0:=zi2 _
theorem UC (x y:Nt):Vh x y= - Vh y x:=zjI _ _
def zdI (xs:List Nt):Prop:=∀ (k l:Nat) (x y:Nt),k<l→xs[k]? =some x→xs[l]? =some y→Vh x y<0
theorem zdI.mono {xs:List Nt}(h:zdI xs)(t:Nt):zkN xs t:=fun k l x y hkl hx hy hc=>by
 rcases Nat.lt_or_ge k l with h1 | h1
 ·
  exact Jf (h k l x y h1 hx hy) hc
 ·
  obtain rfl:k=l:=by omega
  rw [hx] at hy;cases hy;exact hc
theorem Vz {xs:List Nt}(h:ZG xs=true):zdI xs∧(∀ x∈xs,QP x=true)∧xs.length≤4096:=by
 unfold ZG at h
 rw [Bool.and_eq_true,decide_eq_true_eq] at h
 obtain ⟨hg,hl⟩:=h
 have hall:=(W2 xs []).1 hg
 have hf:∀ x∈xs,QP x=true:=fun x hx=>by
  obtain ⟨k,hk⟩:=List.mem_iff_getElem?.1 hx
  exact zbL (hall k x hk)
 have hstep:∀ (k:Nat) (x y:Nt),xs[k]? =some x→xs[k+1]? =some y→Vh x y<0:=fun k x y hx hy=>by
  have h1:=hall (k+1) y hy
  rw [List.nil_append] at h1
  have e:(((k+1:Nat):Int)-1).toNat=k:=by omega
  rw [KU (hf y (List.mem_of_getElem? hy)) (Nat.succ_pos k) (by rw [e];exact hx)] at h1
  simpa using h1
 refine ⟨?_,hf,hl⟩
 intro k l x y hkl hx hy
 induction l generalizing y with
 | zero=>omega
 | succ l ih=>
  rcases Nat.lt_or_ge k l with h1 | h1
  ·
   obtain ⟨z,hz⟩:∃ z,xs[l]? =some z:=⟨_,List.getElem?_eq_getElem (by have:=(List.getElem?_eq_some_iff.1 hy).1;omega)⟩
   exact Jf (ih z h1 hz) (hstep l z y hz hy)
  ·
   obtain rfl:k=l:=by omega
   exact hstep k x y hx hy
theorem zsB {xs:List Nt}{t:Nt}:∀ k x,k<Wb xs t→xs[k]? =some x→Vh x t<0:=by
 unfold Wb
 induction xs with
 | nil=>intro k x h;simp at h
 | cons a l ih=>
  intro k x hk hx
  by_cases h:Vh a t<0
  ·
   simp only [List.takeWhile,h,decide_true] at hk
   cases k with
   | zero=>cases hx;exact h
   | succ k=>exact ih k x (by simpa using hk) hx
  ·
   simp [List.takeWhile,h] at hk
theorem zq5 {xs:List Nt}{t x:Nt}(hx:xs[Wb xs t]? =some x):¬Vh x t<0:=by
 unfold Wb at hx
 induction xs with
 | nil=>cases hx
 | cons a l ih=>
  by_cases h:Vh a t<0
  ·
   simp only [List.takeWhile,h,decide_true,List.length_cons,List.getElem?_cons_succ] at hx
   exact ih hx
  ·
   simp only [List.takeWhile,h,decide_false,List.length_nil,List.getElem?_cons_zero,Option.some.injEq] at hx
   subst hx;exact h
theorem zrr {xs:List Nt}{t:Nt}(k:Nat):(zfn xs t)[k]? =if k<Wb xs t then xs[k]? else if k=Wb xs t then some t else xs[k-1]? :=by
 have hp:=zgf xs t
 unfold zfn
 by_cases h1:k<Wb xs t
 ·
  rw [if_pos h1,List.getElem?_append_left (by rw [List.length_take];omega),List.getElem?_take,if_pos h1]
 ·
  rw [if_neg h1,List.getElem?_append_right (by rw [List.length_take];omega),List.length_take,Nat.min_eq_left hp]
  by_cases h2:k=Wb xs t
  ·
   rw [if_pos h2,h2,Nat.sub_self];rfl
  ·
   rw [if_neg h2,show k-Wb xs t=(k-1-Wb xs t)+1 by omega,List.getElem?_cons_succ,List.getElem?_drop]
   congr 1;omega
theorem zmE {xs:List Nt}{t:Nt}(h:zdI xs)(hh:zd0 xs t=false):zdI (zfn xs t):=by
 have hgt:∀ k x,Wb xs t≤k→xs[k]? =some x→Vh t x<0:=fun k x hk hx=>by
  obtain ⟨y,hy⟩:∃ y,xs[Wb xs t]? =some y:=⟨_,List.getElem?_eq_getElem (by have:=(List.getElem?_eq_some_iff.1 hx).1;omega)⟩
  have h1:=zq5 hy
  have h2:Vh y t≠0:=by
   have:=zky rfl hy
   rw [hh] at this
   simpa using this.symm
  have h3:Vh t y<0:=by rw [UC];omega
  rcases Nat.lt_or_ge (Wb xs t) k with h4 | h4
  ·
   exact Jf h3 (h _ _ _ _ h4 hy hx)
  ·
   obtain rfl:k=Wb xs t:=by omega
   rw [hy] at hx;cases hx;exact h3
 intro k l x y hkl hx hy
 rw [zrr] at hx hy
 split at hx
 ·
  rename_i hk
  split at hy
  ·
   exact h k l x y hkl hx hy
  ·
   split at hy
   ·
    cases hy;exact zsB k x hk hx
   ·
    rename_i h2 h3
    exact h k (l-1) x y (by omega) hx hy
 ·
  rename_i hk
  split at hx
  ·
   rename_i hk2
   cases hx
   rw [if_neg (by omega),if_neg (by omega)] at hy
   exact hgt (l-1) y (by omega) hy
  ·
   rename_i hk2
   rw [if_neg (by omega),if_neg (by omega)] at hy
   exact h (k-1) (l-1) x y (by omega) hx hy
theorem XG {xs:List Nt}{t x:Nt}:x∈zfn xs t↔x=t∨x∈xs:=by
 unfold zfn
 rw [List.mem_append,List.mem_cons]
 conv=>rhs;rw [←List.take_append_drop (Wb xs t) xs,List.mem_append]
 constructor
 ·
  rintro (h | h | h)
  ·
   exact .inr (.inl h)
  ·
   exact .inl h
  ·
   exact .inr (.inr h)
 ·
  rintro (h | h | h)
  ·
   exact .inr (.inl h)
  ·
   exact .inl h
  ·
   exact .inr (.inr h)
theorem zge {xs:List Nt}{t:Nt}:(zfn xs t).length=xs.length+1:=by
 have:=zgf xs t
 unfold zfn
 rw [List.length_append,List.length_cons,List.length_take,List.length_drop];omega
mutual
theorem Uh:∀ (v:Va),Va.ok v→∀ c∈Va.enc v,c<256
 | .int n,h,c,hc=>by
  simp only [Va.enc,List.mem_cons] at hc
  rcases hc with rfl | hc
  ·
   decide
  ·
   exact zbc c hc
 | .text s,h,c,hc=>by
  simp only [Va.enc,List.mem_cons,List.mem_append] at hc
  rcases hc with rfl | hc | hc
  ·
   decide
  ·
   exact zbc c hc
  ·
   exact h.1 c hc
 | .list l,h,c,hc=>by
  simp only [Va.enc,List.mem_cons,List.mem_append] at hc
  rcases hc with rfl | hc | hc
  ·
   decide
  ·
   exact zbc c hc
  ·
   exact zeT l h.2 c hc
theorem zeT:∀ (l:List Va),Va.okL l→∀ c∈Va.encL l,c<256
 | [],_,c,hc=>by cases hc
 | x::l,h,c,hc=>by
  simp only [Va.encL,List.mem_append] at hc
  rcases hc with hc | hc
  ·
   exact Uh x h.1 c hc
  ·
   exact zeT l h.2 c hc
end
theorem zoL {a b:List Nat}(ha:∀ c∈a,c<256)(hb:∀ c∈b,c<256)(h:U8 a=U8 b):a=b:=by
 rw [←VS ha,←VS hb,h]
theorem ztj {x y:Nt}(hx:Va.ok (Kw x))(hy:Va.ok (Kw y))(h:Vh x y=0):Yr x=Yr y:=by
 have h1:(zal x).data.toList=(zal y).data.toList:=zsq h
 have h2:zal x=zal y:=by
  have e:(zal x).data=(zal y).data:=Array.toList_inj.1 h1
  have:∀ a b:ByteArray,a.data=b.data→a=b:=fun a b e=>by cases a;cases b;simp_all
  exact this _ _ e
 have h3:V5 x=V5 y:=zoL (Uh _ hx) (Uh _ hy) h2
 have d1:=zcJ (Kw x) (d:=16) (r:=[]) hx (Ju x)
 have d2:=zcJ (Kw y) (d:=16) (r:=[]) hy (Ju y)
 have h4:Va.enc (Kw x)=Va.enc (Kw y):=h3
 rw [h4,d2] at d1
 have h5:Kw y=Kw x:=by simpa using d1
 have r1:=zfV x
 rw [←h5,zfV y] at r1
 exact (Option.some.inj r1).symm
end
section
open Go Go.Kn Go.Proofs
structure PkM (I:Qt)(p:Pk):Prop where
 sl:Sl I 1 VO p.a p.n p.c p.data
 byte:∀ c∈p.data,c<256
theorem PkM.mono {I I':Qt}{p:Pk}(h:PkM I p)(hI:HLe I I'):PkM I' p:=⟨h.sl.mono hI,h.byte⟩
structure ziv (I:Qt)(cur:List Value)(ps:List Pe):Prop where
 at_:∀ (i:Nat) (pe:Pe),ps[i]? =some pe→cur[i]? =some (.slice pe.a pe.n pe.c)
 nt:∀ pe∈ps,U7 I pe.a pe.n pe.c pe.notes
 ok:∀ pe∈ps,ZG pe.notes=true
theorem ziv.mono {I I':Qt}{cur:List Value}{ps:List Pe}(h:ziv I cur ps)(hI:HLe I I'):ziv I' cur ps:=⟨h.at_,fun p hp=>(h.nt p hp).mono hI,h.ok⟩
theorem Uu {xs:List Nt}(hs:zdI xs)(hf:∀ x∈xs,QP x=true)(hl:xs.length≤4096):ZG xs=true:=by
 rw [zc9 (fun j y hj hy=>?_)]
 ·
  simp only [decide_eq_true_eq];omega
 ·
  have hfy:=hf y (List.mem_of_getElem? hy)
  cases j with
  | zero=>exact zdm hfy
  | succ j=>
   obtain ⟨z,hz⟩:∃ z,xs[j]? =some z:=⟨_,List.getElem?_eq_getElem (by omega)⟩
   rw [KU (k:=j+1) hfy (Nat.succ_pos j) (y:=z) (by rw [show (((j+1:Nat):Int)-1).toNat=j by omega];exact hz)]
   have:=hs j (j+1) z y (by omega) hz hy
   simp;omega
/-! ### Notes without their heads -/
theorem zaM (x y:Nt):Vh (Yr x) (Yr y)=Vh x y:=rfl
theorem zgG (t:Nt):∀ xs:List Nt,Wb (xs.map Yr) (Yr t)=Wb xs t:=by
 intro xs
 unfold Wb
 induction xs with
 | nil=>rfl
 | cons a l ih=>
  simp only [List.map_cons,List.takeWhile]
  rw [zaM]
  split
  ·
   simp only [List.length_cons];rw [ih]
  ·
   rfl
theorem zc4 (xs:List Nt)(t:Nt):zd0 (xs.map Yr) (Yr t)=zd0 xs t:=by
 unfold zd0
 rw [zgG,List.getElem?_map]
 cases xs[Wb xs t]? <;>rfl
theorem znq (xs:List Nt)(t:Nt):zfn (xs.map Yr) (Yr t)=(zfn xs t).map Yr:=by
 unfold zfn
 rw [zgG,List.map_append,List.map_cons,List.map_take,List.map_drop]
def dtP (ps:List Pe):List (List Nt):=ps.map fun pe=>pe.notes.map Yr
theorem zcP (ps:List Pe):(dtP ps).length=ps.length:=by simp [dtP]
theorem zaT {ps:List Pe}{i:Nat}{pe:Pe}(h:ps[i]? =some pe):(dtP ps)[i]? =some (pe.notes.map Yr):=by simp [dtP,h]
def zmV (xs:List Nt)(t:Nt):Option (List Nt):=if zd0 xs t=true then some xs else if xs.length<4096 then some (zfn xs t) else none
def zb1 (P:List (List Nt))(i:Nat)(t:Nt):Option (List (List Nt)):=(P[i]?).bind fun xs=>(zmV xs t).map fun ys=>P.set i ys
theorem zod {α:Type}{l:List α}{i:Nat}{x:α}(h:l[i]? =some x):l.set i x=l:=by
 obtain ⟨h1,h2⟩:=List.getElem?_eq_some_iff.1 h
 rw [←h2,List.set_getElem_self]
theorem znM {ps:List Pe}{i:Nat}{pe:Pe}{t:Nt}(h:ps[i]? =some pe)(hh:zd0 pe.notes t=true):zb1 (dtP ps) i (Yr t)=some (dtP ps):=by
 unfold zb1 zmV
 rw [zaT h,Option.bind_some,zc4,if_pos hh,Option.map_some,zod (zaT h)]
theorem zny {ps:List Pe}{i:Nat}{pe:Pe}{t:Nt}(h:ps[i]? =some pe)(hh:zd0 pe.notes t=false)(hl:pe.notes.length<4096)(a:Option Addr)(n c:Nat):zb1 (dtP ps) i (Yr t)=some (dtP (ps.set i ⟨a,n,c,zfn pe.notes t⟩)):=by
 unfold zb1 zmV
 rw [zaT h,Option.bind_some,zc4,if_neg (by rw [hh];simp),if_pos (by simpa using hl),Option.map_some,znq]
 simp [dtP,List.map_set]
theorem zj1 {ps:List Pe}{i:Nat}{pe:Pe}{t:Nt}(h:ps[i]? =some pe)(hh:zd0 pe.notes t=false)(hl:¬pe.notes.length<4096):zb1 (dtP ps) i (Yr t)=none:=by
 unfold zb1 zmV
 rw [zaT h,Option.bind_some,zc4,if_neg (by rw [hh];simp),if_neg (by simpa using hl)];rfl
theorem ziv.lrn {I I':Qt}{cur:List Value}{ps:List Pe}{i:Nat}{pe:Pe}{t:Nt}{a:Option Addr}{c:Nat}(h:ziv I cur ps)(hI:HLe I I')(hx:ps[i]? =some pe)(hT:NtM I t)(ht:QP t=true)(hh:zd0 pe.notes t=false)
  (hl:pe.n<4096)(hS:Sl I' 45 Q6 a (pe.n+1) c (zfn pe.notes t)):ziv I' (cur.set i (.slice a (pe.n+1) c)) (ps.set i ⟨a,pe.n+1,c,zfn pe.notes t⟩):=by
 have hm:=List.mem_of_getElem? hx
 have hP:=h.nt pe hm
 obtain ⟨v1,v2,v3⟩:=Vz (h.ok pe hm)
 have hlen:=hP.sl.len
 refine ⟨fun j q hq=>?_,fun q hq=>?_,fun q hq=>?_⟩
 ·
  rw [List.getElem?_set] at hq
  split at hq
  ·
   rename_i e
   subst e
   split at hq
   ·
    cases hq
    rw [List.getElem?_set_self (by
     have:=(List.getElem?_eq_some_iff.1 (h.at_ i pe hx)).1
     exact this)]
   ·
    cases hq
  ·
   rename_i e
   rw [List.getElem?_set_ne e];exact h.at_ j q hq
 ·
  rcases List.mem_or_eq_of_mem_set hq with hq | rfl
  ·
   exact (h.nt q hq).mono hI
  ·
   refine ⟨hS,fun x hx=>?_,fun x hx hf=>?_⟩
   ·
    rcases XG.1 hx with rfl | hx
    ·
     exact hT.nd.mono hI
    ·
     exact (hP.nd x hx).mono hI
   ·
    rcases XG.1 hx with rfl | hx
    ·
     exact hT.mono hI
    ·
     exact (hP.m x hx hf).mono hI
 ·
  rcases List.mem_or_eq_of_mem_set hq with hq | rfl
  ·
   exact h.ok q hq
  ·
   refine Uu (zmE v1 hh) (fun x hx=>?_) (by rw [zge];omega)
   rcases XG.1 hx with rfl | hx
   ·
    exact ht
   ·
    exact v2 x hx
end
section
open Go Go.Kn Go.Proofs
def Vv (p:Pk):Pk:={p with a:=none,n:=p.data.length,c:=0}
structure Rd where
 ps:List (List Nt)
 qs:List Pk
 ks:List (Int×Int)
def zeroR:Rd:=⟨[],[],[]⟩
def UP (m:Nat)(p:Pk):Bool:= !(okN p.data).isSome||decide (zfa p.frm p.to_≥(m:Int))
def zeY (r:Rd):Int:=
 if ((decide ((r.ps.length:Int)<1)||decide ((r.ps.length:Int)>24))||Uq r.qs r.ks != 0)=true then 570
 else if r.ps.any (fun xs=> !ZG xs)=true then 570
 else if r.qs.any (UP r.ps.length)=true then 570 else 0
def pkN (i k:Int)(t:Nt):Pk:=⟨i,k,none,(V5 t).length,0,V5 t⟩
def Kd (m:Nat)(i:Int)(t:Nt):List Pk:=((List.range m).filter fun (k:Nat)=>(k:Int) != i).map fun (k:Nat)=>pkN i k t
def isP (r:Rd)(i:Int):Bool:=decide (i≥0)&&decide (i<(r.ps.length:Int))
def Uo (r:Rd)(x:Ev):Int×Rd:=
 if isP r x.peer=true then
  if QP x.note=true then (match zb1 r.ps x.peer.toNat x.note with
   | none=>(2,zeroR)
   | some P=>(0,⟨P,r.qs++Kd r.ps.length x.peer x.note,r.ks⟩))
  else (570,zeroR)
 else (1,zeroR)
def zah (r:Rd)(x:Ev):Int×Rd:=
 if (isP r x.peer&&isP r x.to_&&x.peer != x.to_)=true then (0,⟨r.ps,r.qs++(r.ps.getD x.peer.toNat []).map (pkN x.peer x.to_),r.ks⟩) else (1,zeroR)
def zb3 (r:Rd)(x:Ev):Int×Rd:=
 if atE r.qs r.ks x.at_≠0 then (atE r.qs r.ks x.at_,zeroR)
 else if (Jb r.qs r.ks x.at_).frm=(Jb r.qs r.ks x.at_).to_ then (0,⟨r.ps,r.qs.eraseIdx x.at_.toNat,r.ks⟩)
 else match (okN (Jb r.qs r.ks x.at_).data).bind (zb1 r.ps (Jb r.qs r.ks x.at_).to_.toNat) with
  | none=>(2,zeroR)
  | some P=>(0,⟨P,r.qs.eraseIdx x.at_.toNat,r.ks⟩)
def zb4 (r:Rd)(x:Ev):Int×Rd:=if atE r.qs r.ks x.at_≠0 then (atE r.qs r.ks x.at_,zeroR) else (0,⟨r.ps,r.qs.eraseIdx x.at_.toNat,r.ks⟩)
def zb9 (r:Rd)(x:Ev):Int×Rd:=if Wh r.qs r.ks x.at_≠0 then (Wh r.qs r.ks x.at_,zeroR) else (0,⟨r.ps,r.qs++[atP r.qs r.ks x.at_],r.ks⟩)
def zb8 (r:Rd)(x:Ev):Int×Rd:=
 if x.kind=1 then Uo r x else if x.kind=2 then zah r x else if x.kind=3 then zb3 r x else if x.kind=4 then zb4 r x else if x.kind=5 then zb9 r x else (1,zeroR)
def doF (r:Rd)(x:Ev):Int×Rd:=if zeY r≠0 then (zeY r,zeroR) else zb8 r x
def YR (x:Ev):Ev:={x with note:=Yr x.note}
structure RmP (I:Qt)(pa:Option Addr)(pn pc:Nat)(qa:Option Addr)(qn qc:Nat)(aa:Option Addr)(an ac:Nat)(ps:List Pe)(qs:List Pk)(ks:List (Int×Int)):Prop where
 pe:Sl I 1 Xq pa pn pc ps
 nt:∀ x∈ps,U7 I x.a x.n x.c x.notes
 q:Sl I 3 Zz qa qn qc qs
 pk:∀ x∈qs,PkM I x
 k:Sl I 2 KY aa an ac ks
theorem RmP.mono {I I':Qt}{pa qa aa:Option Addr}{pn pc qn qc an ac:Nat}{ps:List Pe}{qs:List Pk}{ks:List (Int×Int)}(h:RmP I pa pn pc qa qn qc aa an ac ps qs ks)(hI:HLe I I'):RmP I' pa pn pc qa qn qc aa an ac ps qs ks:=
 ⟨h.pe.mono hI,fun x hx=>(h.nt x hx).mono hI,h.q.mono hI,fun x hx=>(h.pk x hx).mono hI,h.k.mono hI⟩
def VN (ps:List Pe)(qs:List Pk)(ks:List (Int×Int)):Rd:=⟨dtP ps,qs.map Vv,ks⟩
def RmV (I:Qt)(v:Value)(r:Rd):Prop:=∃ pa pn pc qa qn qc aa an ac ps qs,v= .agg #[.slice pa pn pc,.slice qa qn qc,.slice aa an ac]∧RmP I pa pn pc qa qn qc aa an ac ps qs r.ks∧VN ps qs r.ks=r
theorem zaZ {I:Qt}{a:Option Addr}{n c:Nat}{xs:List Nt}(h:U7 I a n c xs):ZG (xs.map Yr)=ZG xs:=by
 have hf:∀ x∈xs,QP (Yr x)=QP x:=fun x hx=>VL (by
  have h1:Sl I 1 Z1 x.pt.a x.pt.n x.pt.c x.pt.needs:=h.nd x hx
  exact h1.len.symm)
 have hb:∀ (pre:List Nt) (x:Nt),x∈xs→zb0 (pre.map Yr) (Yr x)=zb0 pre x:=fun pre x hx=>by
  unfold zb0
  rw [hf x hx,List.getLast?_map]
  cases pre.getLast? with
  | none=>rfl
  | some y=>simp only [Option.map_some,zaM];rfl
 have hg:∀ (ys pre:List Nt),(∀ y∈ys,y∈xs)→zbl (pre.map Yr) (ys.map Yr)=zbl pre ys:=by
  intro ys
  induction ys with
  | nil=>intro pre _;rfl
  | cons y ys ih=>
   intro pre hys
   rw [List.map_cons,zbl,zbl,hb pre y (hys y (List.mem_cons_self ..)),←ih (pre++[y]) (fun z hz=>hys z (List.mem_cons_of_mem _ hz))]
   simp
 unfold ZG
 rw [←hg xs [] (fun _ h=>h)]
 simp
theorem zfE {α β:Type}{f:α→β}{p:β→Bool}{q:α→Bool}{xs:List α}(h:∀ x∈xs,p (f x)=q x):(xs.map f).any p=xs.any q:=by
 rw [List.any_map]
 exact zgB h
theorem ziH {I:Qt}{p:Pk}(h:PkM I p):pkV (Vv p)=pkV p:=by
 have:=h.sl.len
 unfold pkV Vv
 simp only [this]
theorem WN {I:Qt}{qs:List Pk}(h:∀ x∈qs,PkM I x)(ks:List (Int×Int)):Uq (qs.map Vv) ks=Uq qs ks:=by
 unfold Uq
 rw [zfE (q:=fun x=> !pkV x) (fun x hx=>by simp only [ziH (h x hx)]),List.length_map]
theorem Wt {I:Qt}{qs:List Pk}(h:∀ x∈qs,PkM I x)(ks:List (Int×Int))(i:Int):atE (qs.map Vv) ks i=atE qs ks i:=by
 unfold atE
 rw [WN h,List.length_map]
theorem zfu {I:Qt}{qs:List Pk}(h:∀ x∈qs,PkM I x)(ks:List (Int×Int))(i:Int):atP (qs.map Vv) ks i=Vv (atP qs ks i):=by
 unfold atP
 rw [Wt h]
 split
 ·
  rw [List.getD_eq_getElem?_getD,List.getD_eq_getElem?_getD,List.getElem?_map]
  cases qs[i.toNat]? <;>rfl
 ·
  rfl
theorem zg2 {I:Qt}{qs:List Pk}(h:∀ x∈qs,PkM I x)(ks:List (Int×Int))(i:Int):Jb (qs.map Vv) ks i=Vv (Jb qs ks i):=by
 unfold Jb
 rw [zfu h]
 have e:zp0 ks (Vv (atP qs ks i))=zp0 ks (atP qs ks i):=rfl
 rw [e]
 split<;>rfl
theorem zgu {I:Qt}:PkM I zbj:=⟨.nil,fun _ h=>by cases h⟩
theorem zp3 {I:Qt}{qs:List Pk}(h:∀ x∈qs,PkM I x)(ks:List (Int×Int))(i:Int):PkM I (atP qs ks i):=by
 unfold atP
 split
 ·
  rw [List.getD_eq_getElem?_getD]
  cases hx:qs[i.toNat]? with
  | none=>exact zgu
  | some x=>exact h x (List.mem_of_getElem? hx)
 ·
  exact zgu
theorem zez {I:Qt}{qs:List Pk}(h:∀ x∈qs,PkM I x)(ks:List (Int×Int)){p:Pk}(hp:PkM I p):Up (qs.map Vv) ks (Vv p)=Up qs ks p:=by
 unfold Up
 rw [WN h,ziH hp,List.length_map]
theorem zhv {I:Qt}{qs:List Pk}(h:∀ x∈qs,PkM I x)(ks:List (Int×Int))(i:Int):Wh (qs.map Vv) ks i=Wh qs ks i:=by
 unfold Wh
 rw [Wt h,zfu h,zez h _ (zp3 h ks i)]
theorem WS {α β:Type}(f:α→β):∀ (l:List α) (j:Nat),(l.map f).eraseIdx j=(l.eraseIdx j).map f
 | [],_=>rfl
 | _::_,0=>rfl
 | x::l,j+1=>by simp [WS f l j]
end
section
open Go Go.Kn Go.Proofs
structure NtW (x:Nt):Prop where
 ints:∀ y∈YM x, -9223372036854775808≤y∧y≤9223372036854775807
 needs:∀ y∈x.pt.needs, -9223372036854775808≤y∧y≤9223372036854775807
theorem zoh {xs:List S.Rt}{x:S.Rt}:∀ {bs:List (Int×S.Rt)} {last:Int},S.rGo (xs++[x]) bs last=0→∃ bs' last',S.rBad x bs' last'=false:=by
 induction xs with
 | nil=>
  intro bs last h
  simp only [List.nil_append,S.rGo] at h
  split at h
  ·
   cases h
  ·
   rename_i hb;exact ⟨bs,last,by simpa using hb⟩
 | cons y ys ih=>
  intro bs last h
  simp only [List.cons_append,S.rGo] at h
  split at h
  ·
   cases h
  ·
   exact ih h
theorem znj {x:S.Rt}(h:S.rCheck (rtC x)=0):x.name.size≤32∧x.town.size≤32:=by
 obtain ⟨xs,hxs⟩:∃ xs,rtC x=xs++[x]:=by
  unfold rtC
  split
  ·
   exact ⟨[],rfl⟩
  ·
   exact ⟨[_],rfl⟩
 rw [hxs] at h
 unfold S.rCheck at h
 split at h
 ·
  cases h
 ·
  obtain ⟨bs,last,hb⟩:=zoh h
  unfold S.rBad at hb
  simp only [Bool.or_eq_false_iff,Bool.not_eq_false'] at hb
  have ha:=hb.2
  have hheld:S.heldF x=true→x.name.size≤32∧x.town.size≤32:=fun h=>by
   unfold S.heldF at h
   simp only [Bool.and_eq_true] at h
   have e:=S.rtEq_iff.1 h.1.1.1
   have e1:x.name=⟨#[]⟩:=congrArg S.Rt.name e
   have e2:x.town=⟨#[]⟩:=congrArg S.Rt.town e
   rw [e1,e2];exact ⟨by decide,by decide⟩
  unfold S.askF at ha
  split at ha
  ·
   unfold S.billF S.within at ha
   simp only [Bool.and_eq_true,decide_eq_true_eq] at ha
   omega
  ·
   split at ha
   ·
    exact hheld ha
   ·
    split at ha
    ·
     exact hheld ha
    ·
     unfold S.voidF at ha
     split at ha
     ·
      cases ha
     ·
      simp only [Bool.and_eq_true] at ha
      have e:=S.rtEq_iff.1 ha.2
      have e1:x.name=⟨#[]⟩:=congrArg S.Rt.name e
      have e2:x.town=⟨#[]⟩:=congrArg S.Rt.town e
      rw [e1,e2];exact ⟨by decide,by decide⟩
theorem Xv {x:Nt}(hl:x.pt.needs.length=x.pt.n)(h:QP x=true):x.pt.needs.length≤32∧x.rt.name.size≤32∧x.rt.town.size≤32:=by
 unfold QP at h
 simp only [Bool.and_eq_true,beq_iff_eq] at h
 obtain ⟨h1,h2⟩:=h
 unfold zaa at h2
 simp only [Bool.and_eq_true,Bool.or_eq_true,beq_iff_eq] at h2
 obtain ⟨⟨⟨_,h3⟩,_⟩,h5⟩:=h2
 constructor
 ·
  rcases h3 with hk | hz
  ·
   unfold Wg at h1
   rw [if_neg (by omega),if_pos hk] at h1
   unfold KO at h1
   split at h1
   ·
    cases h1
   ·
    omega
  ·
   unfold z2 at hz
   simp only [Bool.and_eq_true,beq_iff_eq] at hz
   omega
 ·
  rcases h5 with hk | hz
  ·
   unfold Wg at h1
   rw [if_neg (by omega),if_neg (by omega),if_neg (by omega),if_pos hk] at h1
   exact znj h1
  ·
   have e:=S.rtEq_iff.1 hz
   rw [e];exact ⟨by decide,by decide⟩
theorem zeF:∀ {l:List Va},(∀ v∈l,Va.ok v)→Va.okL l
 | [],_=>trivial
 | x::l,h=>⟨h x (List.mem_cons_self ..),zeF fun v hv=>h v (List.mem_cons_of_mem _ hv)⟩
theorem KR {b:Nat}:∀ {l:List Va},(∀ v∈l,(Va.enc v).length≤b)→(Va.encL l).length≤l.length*b
 | [],_=>by simp [Va.encL]
 | x::l,h=>by
  have h1:=h x (List.mem_cons_self ..)
  have h2:=KR (l:=l) fun v hv=>h v (List.mem_cons_of_mem _ hv)
  simp only [Va.encL,List.length_append,List.length_cons,Nat.succ_mul];omega
theorem Uj {n:Int}(h: -9223372036854775808≤n∧n≤9223372036854775807):(Va.enc (.int n)).length≤11:=by
 have:=K8 (zkv h)
 simp only [Va.enc,List.length_cons];omega
theorem Jt (s:ByteArray):(K1 s).length=s.size:=by
 unfold K1
 rw [List.length_map,Array.length_toList];rfl
theorem zdh (s:ByteArray):∀ c∈K1 s,c<256:=by
 intro c hc
 unfold K1 at hc
 obtain ⟨u,_,rfl⟩:=List.mem_map.1 hc
 exact u.toNat_lt
theorem Kx {s:List Nat}(h:s.length≤32):(Va.enc (.text s)).length≤34:=by
 rw [Va.enc,Vf (by omega)]
 simp only [List.length_cons,List.length_append,List.length_nil];omega
theorem zdA {x:Nt}(hw:NtW x)(hl:x.pt.needs.length=x.pt.n)(h:QP x=true):Va.ok (Kw x)∧(V5 x).length≤2000:=by
 obtain ⟨s1,s2,s3⟩:=Xv hl h
 have hok:∀ v∈(YM x).map Va.int,Va.ok v:=fun v hv=>by
  obtain ⟨y,hy,rfl⟩:=List.mem_map.1 hv
  exact hw.ints y hy
 have hon:∀ v∈x.pt.needs.map Va.int,Va.ok v:=fun v hv=>by
  obtain ⟨y,hy,rfl⟩:=List.mem_map.1 hv
  exact hw.needs y hy
 have hb:(Va.encL ((YM x).map Va.int)).length≤462:=by
  have:=KR (b:=11) (l:=(YM x).map Va.int) fun v hv=>by
   obtain ⟨y,hy,rfl⟩:=List.mem_map.1 hv
   exact Uj (hw.ints y hy)
  rw [List.length_map,YG] at this;omega
 have hn:(Va.encL (x.pt.needs.map Va.int)).length≤352:=by
  have:=KR (b:=11) (l:=x.pt.needs.map Va.int) fun v hv=>by
   obtain ⟨y,hy,rfl⟩:=List.mem_map.1 hv
   exact Uj (hw.needs y hy)
  rw [List.length_map] at this
  have h2:=Nat.mul_le_mul_right 11 s1
  omega
 constructor
 ·
  refine ⟨by simp [YG],zeF fun v hv=>?_⟩
  rw [List.mem_append] at hv
  rcases hv with hv | hv
  ·
   exact hok v hv
  ·
   simp only [List.mem_cons,List.not_mem_nil,or_false] at hv
   rcases hv with rfl | rfl | rfl
   ·
    exact ⟨by rw [List.length_map];omega,zeF hon⟩
   ·
    exact ⟨zdh _,by rw [Jt];omega⟩
   ·
    exact ⟨zdh _,by rw [Jt];omega⟩
 ·
  have e1:=Kx (s:=K1 x.rt.name) (by rw [Jt];exact s2)
  have e2:=Kx (s:=K1 x.rt.town) (by rw [Jt];exact s3)
  have e3:(Va.enc (.list (x.pt.needs.map Va.int))).length≤354:=by
   rw [Va.enc,List.length_map,Vf (by omega)]
   simp only [List.length_cons,List.length_append,List.length_nil];omega
  unfold V5 Kw
  rw [Va.enc,Vf (by simp [YG])]
  simp only [List.length_cons,List.length_append,List.length_nil,Va.encL_append,Va.encL];omega
theorem zdV {I:Qt}{x:Nt}(hw:NtW x)(hN:Nd I x.pt)(h:QP x=true):NtM I x:=by
 have hl:Sl I 1 Z1 x.pt.a x.pt.n x.pt.c x.pt.needs:=hN
 obtain ⟨h1,h2⟩:=zdA hw hl.len h
 have:=(Xv hl.len h).1
 have:=hl.len
 exact ⟨hN,by omega,h1,by omega⟩
theorem zlR {x:Nt}(hok:Va.ok (Kw x))(h:QP (Yr x)=true):okN (V5 x)=some (Yr x):=by
 have d:=zcJ (Kw x) (d:=16) (r:=[]) hok (Ju x)
 rw [List.append_nil] at d
 unfold okN zcc
 show (match KL 16 (Va.enc (Kw x)) with | some (x,[])=>some x | _=>none).bind _=_
 rw [d]
 simp only [Option.bind_some]
 rw [zfV,Option.bind_some,if_pos h]
end
section
open Go Go.Kn Go.Proofs
def TkN (t:Nt):Prop:=Va.ok (Kw t)∧QP (Yr t)=true∧(V5 t).length≤2000
structure PkG (m:Nat)(told:List Nt)(p:Pk):Prop where
 frm:0≤p.frm∧p.frm<(m:Int)
 to_:0≤p.to_∧p.to_<(m:Int)
 ne:p.frm≠p.to_
 n:p.n=p.data.length
 data:∃ t∈told,p.data=V5 t
structure Kn (m:Nat)(r:Rd)(told:List Nt):Prop where
 m0:1≤m∧m≤24
 len:r.ps.length=m
 ks:r.ks=[]
 val:∀ xs∈r.ps,ZG xs=true
 mem:∀ xs∈r.ps,∀ y∈xs,∃ t∈told,Yr t=y
 pk:∀ p∈r.qs,PkG m told p
 tok:∀ t∈told,TkN t
theorem zda {t:Nt}(h:TkN t):okN (V5 t)=some (Yr t):=zlR h.1 h.2.1
theorem PkG.read {m:Nat}{told:List Nt}{p:Pk}(h:PkG m told p)(ht:∀ t∈told,TkN t):∃ t∈told,okN p.data=some (Yr t):=by
 obtain ⟨t,h1,h2⟩:=h.data
 exact ⟨t,h1,by rw [h2];exact zda (ht t h1)⟩
theorem PkG.more {m:Nat}{told:List Nt}{p:Pk}(h:PkG m told p)(l:List Nt):PkG m (told++l) p:=
 ⟨h.frm,h.to_,h.ne,h.n,let ⟨t,h1,h2⟩:=h.data;⟨t,List.mem_append_left _ h1,h2⟩⟩
theorem PkG.ok {m:Nat}{told:List Nt}{p:Pk}(h:PkG m told p)(hm:m≤24)(ht:∀ t∈told,TkN t):pkV p=true:=by
 obtain ⟨t,h1,h2⟩:=h.data
 have h3:=(ht t h1).2.2
 have h4:=h.n
 have h5:=h.frm;have h6:=h.to_;have h7:=h.ne
 rw [h2] at h4
 unfold pkV lkV zpK zfa
 simp only [Bool.and_eq_true,decide_eq_true_eq]
 split<;>split<;>omega
theorem zoU {qs:List Pk}(hl:qs.length≤4096)(h:∀ p∈qs,pkV p=true):Uq qs []=0:=by
 refine zjc ?_ (fun j y hj=>by simp at hj)
 rw [Bool.or_eq_false_iff]
 refine ⟨by simp only [decide_eq_false_iff_not];omega,?_⟩
 rw [List.any_eq_false]
 intro p hp
 simp [h p hp]
theorem Kn.net {m:Nat}{r:Rd}{told:List Nt}(h:Kn m r told)(hq:r.qs.length≤4096):Uq r.qs r.ks=0:=by
 rw [h.ks];exact zoU hq fun p hp=>(h.pk p hp).ok h.m0.2 h.tok
theorem Kn.chk {m:Nat}{r:Rd}{told:List Nt}(h:Kn m r told)(hq:r.qs.length≤4096):zeY r=0:=by
 have hm:=h.m0;have hl:=h.len
 unfold zeY
 rw [if_neg,if_neg,if_neg]
 ·
  rw [Bool.not_eq_true,List.any_eq_false]
  intro p hp
  obtain ⟨t,h1,h2⟩:=(h.pk p hp).read h.tok
  have h3:=(h.pk p hp).frm;have h4:=(h.pk p hp).to_
  have h5:zfa p.frm p.to_<(m:Int):=by unfold zfa;split<;>omega
  unfold UP
  rw [h2,hl]
  simp only [Option.isSome_some,Bool.not_true,Bool.false_or,decide_eq_true_eq]
  omega
 ·
  rw [Bool.not_eq_true,List.any_eq_false]
  intro xs hx
  simp [h.val xs hx]
 ·
  rw [h.net hq]
  simp;omega
/-! ### Learning -/
theorem zoJ {xs ys:List Nt}{t:Nt}(h:zmV xs t=some ys):(∀ y∈ys,y∈xs∨y=t)∧(∀ y∈xs,y∈ys)∧ys.length≤xs.length+1:=by
 unfold zmV at h
 split at h
 ·
  cases h;exact ⟨fun y hy=>.inl hy,fun y hy=>hy,by omega⟩
 ·
  split at h
  ·
   cases h
   exact ⟨fun y hy=>(XG.1 hy).symm,fun y hy=>XG.2 (.inr hy),by rw [zge];omega⟩
  ·
   cases h
theorem zim {xs ys:List Nt}{t:Nt}(h:zmV xs t=some ys)(hv:ZG xs=true)(ht:QP t=true):ZG ys=true:=by
 unfold zmV at h
 split at h
 ·
  cases h;exact hv
 ·
  rename_i hh
  split at h
  ·
   cases h
   obtain ⟨v1,v2,v3⟩:=Vz hv
   refine Uu (zmE v1 (by simpa using hh)) (fun x hx=>?_) (by rw [zge];omega)
   rcases XG.1 hx with rfl | hx
   ·
    exact ht
   ·
    exact v2 x hx
  ·
   cases h
theorem zmw {P P':List (List Nt)}{i:Nat}{t:Nt}(h:zb1 P i t=some P'):∃ xs ys,P[i]? =some xs∧zmV xs t=some ys∧P'=P.set i ys:=by
 unfold zb1 at h
 cases hx:P[i]? with
 | none=>rw [hx] at h;cases h
 | some xs=>
  rw [hx,Option.bind_some] at h
  cases hy:zmV xs t with
  | none=>rw [hy] at h;cases h
  | some ys=>rw [hy] at h;cases h;exact ⟨xs,ys,rfl,hy,rfl⟩
def Grow (P P':List (List Nt)):Prop:=∀ (i:Nat) (xs ys:List Nt),P[i]? =some xs→P'[i]? =some ys→∀ y∈xs,y∈ys
theorem Xr (P:List (List Nt)):Grow P P:=fun i xs ys h1 h2 y hy=>by rw [h1] at h2;cases h2;exact hy
theorem zjC {P P':List (List Nt)}{i:Nat}{t:Nt}{told:List Nt}(h:zb1 P i (Yr t)=some P')(ht:t∈told)(hf:QP (Yr t)=true)(hv:∀ xs∈P,ZG xs=true)(hm:∀ xs∈P,∀ y∈xs,∃ t∈told,Yr t=y):
  P'.length=P.length∧(∀ xs∈P',ZG xs=true)∧(∀ xs∈P',∀ y∈xs,∃ t∈told,Yr t=y)∧Grow P P':=by
 obtain ⟨xs,ys,h1,h2,rfl⟩:=zmw h
 have hx:=List.mem_of_getElem? h1
 obtain ⟨m1,m2,_⟩:=zoJ h2
 refine ⟨by simp,fun zs hz=>?_,fun zs hz y hy=>?_,fun j us vs hu hw y hy=>?_⟩
 ·
  rcases List.mem_or_eq_of_mem_set hz with hz | rfl
  ·
   exact hv zs hz
  ·
   exact zim h2 (hv xs hx) hf
 ·
  rcases List.mem_or_eq_of_mem_set hz with hz | rfl
  ·
   exact hm zs hz y hy
  ·
   rcases m1 y hy with hy | rfl
   ·
    exact hm xs hx y hy
   ·
    exact ⟨t,ht,rfl⟩
 ·
  rw [List.getElem?_set] at hw
  split at hw
  ·
   rename_i e
   subst e
   rw [h1] at hu;cases hu
   split at hw
   ·
    cases hw;exact m2 y hy
   ·
    cases hw
  ·
   rw [hu] at hw;cases hw;exact hy
theorem Kn.more {m:Nat}{r:Rd}{told:List Nt}(h:Kn m r told){t:Nt}(ht:TkN t):Kn m r (told++[t]):=
 ⟨h.m0,h.len,h.ks,h.val,fun xs hx y hy=>let ⟨u,h1,h2⟩:=h.mem xs hx y hy;⟨u,List.mem_append_left _ h1,h2⟩,fun p hp=>(h.pk p hp).more _,fun u hu=>by
  rcases List.mem_append.1 hu with hu | hu
  ·
   exact h.tok u hu
  ·
   rw [List.mem_singleton] at hu;subst hu;exact ht⟩
/-! ### Events -/
theorem zgm {m:Nat}{i:Int}{t:Nt}{p:Pk}(h:p∈Kd m i t):∃ k:Nat,k<m∧(k:Int)≠i∧p=pkN i k t:=by
 unfold Kd at h
 obtain ⟨k,hk,rfl⟩:=List.mem_map.1 h
 rw [List.mem_filter,List.mem_range] at hk
 exact ⟨k,hk.1,by simpa using hk.2,rfl⟩
theorem zhc (m:Nat)(i:Int)(t:Nt):(Kd m i t).length≤m:=by
 unfold Kd
 rw [List.length_map]
 exact Nat.le_trans (List.length_filter_le ..) (by simp)
theorem zgQ {m:Nat}{told:List Nt}{i k:Int}{t:Nt}(hi:0≤i∧i<(m:Int))(hk:0≤k∧k<(m:Int))(hne:i≠k){u:Nt}(hu:u∈told)(e:Yr u=Yr t):PkG m told (pkN i k t):=
 ⟨hi,hk,hne,rfl,u,hu,by
  show V5 t=V5 u
  have e2:Kw t=Kw u:=by rw [←zhC t,←e,zhC]
  unfold V5;rw [e2]⟩
theorem zfk {r:Rd}{i:Int}:isP r i=true↔0≤i∧i<(r.ps.length:Int):=by simp [isP]
theorem zfw {qs:List Pk}{ks:List (Int×Int)}{i:Int}(h:atE qs ks i=0):atP qs ks i∈qs:=by
 have hr:=zcH h
 unfold atP
 rw [if_pos h,List.getD_eq_getElem?_getD,List.getElem?_eq_getElem (by omega),Option.getD_some]
 exact List.getElem_mem _
theorem zgy {qs:List Pk}{i:Int}:Jb qs [] i=atP qs [] i:=if_neg (by simp [zp0])
theorem Kn.step {m:Nat}{r r':Rd}{told:List Nt}{x:Ev}(h:Kn m r told)(hq:r.qs.length≤4096)(hx:x.kind=1→QP (Yr x.note)=true→TkN x.note)(hd:doF r (YR x)=(0,r')):
  Kn m r' (if x.kind=1 then told++[x.note] else told)∧Grow r.ps r'.ps∧r'.qs.length≤r.qs.length+max m (max 1 ((r.ps.map List.length).foldl max 0)):=by
 have hc:=h.chk hq
 unfold doF at hd
 rw [if_neg (by rw [hc];simp)] at hd
 unfold zb8 at hd
 have hmx:∀ (l:List Nat) (a:Nat),a≤l.foldl max a∧∀ b∈l,b≤l.foldl max a:=by
  intro l
  induction l with
  | nil=>intro a;exact ⟨Nat.le_refl _,fun b hb=>by cases hb⟩
  | cons c l ih=>
   intro a
   rw [List.foldl_cons]
   obtain ⟨h1,h2⟩:=ih (max a c)
   refine ⟨by omega,fun b hb=>?_⟩
   rcases List.mem_cons.1 hb with rfl | hb
   ·
    omega
   ·
    exact h2 b hb
 split at hd
 ·
  -- told
  rename_i hk
  have hk:x.kind=1:=hk
  rw [if_pos hk]
  unfold Uo at hd
  split at hd
  ·
   rename_i hi
   have hi:=zfk.1 hi
   split at hd
   ·
    rename_i hf
    have hf:QP (Yr x.note)=true:=hf
    split at hd
    ·
     cases hd
    ·
     rename_i P hP
     have hP:zb1 r.ps x.peer.toNat (Yr x.note)=some P:=hP
     cases hd
     have ht:=hx hk hf
     have h2:=h.more ht
     obtain ⟨l1,l2,l3,l4⟩:=zjC hP (told:=told++[x.note]) (by simp) hf h2.val h2.mem
     refine ⟨⟨h.m0,by rw [←h.len];exact l1,h.ks,l2,l3,fun p hp=>?_,h2.tok⟩,l4,?_⟩
     ·
      rcases List.mem_append.1 hp with hp | hp
      ·
       exact h2.pk p hp
      ·
       obtain ⟨k,hk,hne,rfl⟩:=zgm hp
       rw [h.len] at hk hi
       exact zgQ hi ⟨by omega,by omega⟩ (fun e=>hne e.symm) (u:=x.note) (by simp) rfl
     ·
      have:=zhc r.ps.length x.peer (Yr x.note)
      have hl:=h.len
      show (r.qs++Kd r.ps.length x.peer (Yr x.note)).length≤_
      rw [List.length_append];omega
   ·
    cases hd
  ·
   cases hd
 ·
  rename_i hk
  have hk:¬x.kind=1:=hk
  rw [if_neg hk]
  split at hd
  ·
   unfold zah at hd
   split at hd
   ·
    rename_i hi
    simp only [Bool.and_eq_true,zfk] at hi
    obtain ⟨⟨i1,i2⟩,i3⟩:=hi
    have i1:0≤x.peer∧x.peer<(r.ps.length:Int):=i1
    have i2:0≤x.to_∧x.to_<(r.ps.length:Int):=i2
    have i3:x.peer≠x.to_:=bne_iff_ne.1 i3
    cases hd
    obtain ⟨xs,hxs⟩:∃ xs,r.ps[x.peer.toNat]? =some xs:=⟨_,List.getElem?_eq_getElem (by omega)⟩
    have e:r.ps.getD (YR x).peer.toNat []=xs:=by
     show r.ps.getD x.peer.toNat []=xs
     rw [List.getD_eq_getElem?_getD,hxs];rfl
    have hm:=List.mem_of_getElem? hxs
    simp only [e]
    refine ⟨⟨h.m0,h.len,h.ks,h.val,h.mem,fun p hp=>?_,h.tok⟩,Xr _,?_⟩
    ·
     rcases List.mem_append.1 hp with hp | hp
     ·
      exact h.pk p hp
     ·
      obtain ⟨y,hy,rfl⟩:=List.mem_map.1 hp
      obtain ⟨t,ht,e⟩:=h.mem xs hm y hy
      rw [h.len] at i1 i2
      exact zgQ i1 i2 i3 ht (by rw [←e];rfl)
    ·
     rw [List.length_append,List.length_map]
     have:=(hmx (r.ps.map List.length) 0).2 xs.length (List.mem_map.2 ⟨xs,hm,rfl⟩)
     omega
   ·
    cases hd
  ·
   split at hd
   ·
    unfold zb3 at hd
    split at hd
    ·
     rename_i hz
     exact absurd (congrArg Prod.fst hd) hz
    ·
     rename_i hz
     have hz:atE r.qs r.ks x.at_=0:=Decidable.not_not.1 hz
     have hmem:=zfw hz
     have hdl:Jb r.qs r.ks x.at_=atP r.qs r.ks x.at_:=by rw [h.ks];exact zgy
     have hg:=h.pk _ hmem
     have hle:(r.qs.eraseIdx x.at_.toNat).length≤r.qs.length:=(List.eraseIdx_sublist ..).length_le
     have hsub:∀ p∈r.qs.eraseIdx x.at_.toNat,p∈r.qs:=fun p hp=>(List.eraseIdx_sublist ..).mem hp
     split at hd
     ·
      cases hd
      exact ⟨⟨h.m0,h.len,h.ks,h.val,h.mem,fun p hp=>h.pk p (hsub p hp),h.tok⟩,Xr _,Nat.le_trans hle (by omega)⟩
     ·
      split at hd
      ·
       cases hd
      ·
       rename_i P hP
       cases hd
       obtain ⟨t,ht,e⟩:=hg.read h.tok
       have hP:(okN (Jb r.qs r.ks x.at_).data).bind (zb1 r.ps (Jb r.qs r.ks x.at_).to_.toNat)=some P:=hP
       rw [hdl,e,Option.bind_some] at hP
       obtain ⟨l1,l2,l3,l4⟩:=zjC hP ht (h.tok t ht).2.1 h.val h.mem
       exact ⟨⟨h.m0,by rw [←h.len];exact l1,h.ks,l2,l3,fun p hp=>h.pk p (hsub p hp),h.tok⟩,l4,Nat.le_trans hle (by omega)⟩
   ·
    split at hd
    ·
     unfold zb4 at hd
     split at hd
     ·
      rename_i hz
      exact absurd (congrArg Prod.fst hd) hz
     ·
      cases hd
      have hle:(r.qs.eraseIdx x.at_.toNat).length≤r.qs.length:=(List.eraseIdx_sublist ..).length_le
      exact ⟨⟨h.m0,h.len,h.ks,h.val,h.mem,fun p hp=>h.pk p ((List.eraseIdx_sublist ..).mem hp),h.tok⟩,Xr _,Nat.le_trans hle (by omega)⟩
    ·
     split at hd
     ·
      unfold zb9 at hd
      split at hd
      ·
       rename_i hz
       exact absurd (congrArg Prod.fst hd) hz
      ·
       rename_i hz
       cases hd
       have hz:Wh r.qs r.ks x.at_=0:=Decidable.not_not.1 hz
       have ha:atE r.qs r.ks x.at_=0:=by
        unfold Wh at hz
        split at hz
        ·
         assumption
        ·
         exact hz
       refine ⟨⟨h.m0,h.len,h.ks,h.val,h.mem,fun p hp=>?_,h.tok⟩,Xr _,?_⟩
       ·
        rcases List.mem_append.1 hp with hp | hp
        ·
         exact h.pk p hp
        ·
         rw [List.mem_singleton] at hp;subst hp;exact h.pk _ (zfw ha)
       ·
        rw [List.length_append,List.length_singleton];omega
     ·
      cases hd
end
section
open Go Go.Kn Go.Proofs
theorem zg6 {bs:List Nat}{I:Qt}{cs:List Value}{b:Bool}(h:zt4 bs I cs b)(hs:(okN bs).isSome=true):∃ x,b=true∧cs=Q6 x∧Nd I x.pt∧okN bs=some (Yr x):=by
 rcases h.2 with ⟨_,h2⟩ | ⟨h1,x,h2,h3,h4⟩
 ·
  rw [h2] at hs;cases hs
 ·
  exact ⟨x,h1,h2,h3,h4⟩
theorem zdJ {I:Qt}{bs:List Nat}{x:Nt}(hb:∀ c∈bs,c<256)(hn:bs.length≤100000)(h:okN bs=some (Yr x))(hN:Nd I x.pt):QP x=true:=by
 obtain ⟨_,_,h3⟩:=zgz hb (by omega) h
 have hN2:Sl I 1 Z1 x.pt.a x.pt.n x.pt.c x.pt.needs:=hN
 rw [VL hN2.len.symm] at h3;exact h3
theorem zs8 {qs:List Pk}{ks:List (Int×Int)}{i:Int}(he:atE qs ks i=0)(hne:(Jb qs ks i).frm≠(Jb qs ks i).to_):Jb qs ks i∈qs:=by
 unfold Jb at hne ⊢
 split at hne
 ·
  exact absurd rfl hne
 ·
  rename_i h;rw [if_neg h];exact zfw he
theorem zoH {m:Nat}{p:Pk}(h:UP m p=false):(okN p.data).isSome=true∧p.frm<(m:Int)∧p.to_<(m:Int):=by
 unfold UP at h
 rw [Bool.or_eq_false_iff] at h
 obtain ⟨h1,h2⟩:=h
 refine ⟨by simpa using h1,?_⟩
 simp only [decide_eq_false_iff_not] at h2
 unfold zfa at h2
 split at h2<;>omega
section
variable {I:Qt} {P:List (List Nt)} {qs:List Pk} {ks:List (Int×Int)} {x:Ev}
theorem zqn (hpk:∀ q∈qs,PkM I q)(ne:atE qs ks x.at_≠0):zb3 ⟨P,qs.map Vv,ks⟩ (YR x)=(atE qs ks x.at_,zeroR):=by
 unfold zb3
 have e:atE (qs.map Vv) ks (YR x).at_=atE qs ks x.at_:=Wt hpk ks x.at_
 simp only [e,if_pos ne]
theorem zpq (hpk:∀ q∈qs,PkM I q)(he:atE qs ks x.at_=0)(h:(Jb qs ks x.at_).frm=(Jb qs ks x.at_).to_):zb3 ⟨P,qs.map Vv,ks⟩ (YR x)=(0,⟨P,(qs.eraseIdx x.at_.toNat).map Vv,ks⟩):=by
 unfold zb3
 have e:atE (qs.map Vv) ks (YR x).at_=0:=by rw [←he];exact Wt hpk ks x.at_
 have e2:Jb (qs.map Vv) ks (YR x).at_=Vv (Jb qs ks x.at_):=zg2 hpk ks x.at_
 have e3:(Vv (Jb qs ks x.at_)).frm=(Vv (Jb qs ks x.at_)).to_:=h
 simp only [e,e2,if_pos e3,ne_eq,not_true_eq_false,if_false]
 rw [WS];rfl
theorem zp1 (hpk:∀ q∈qs,PkM I q)(he:atE qs ks x.at_=0)(h:(Jb qs ks x.at_).frm≠(Jb qs ks x.at_).to_){t:Nt}(hok:okN (Jb qs ks x.at_).data=some t):zb3 ⟨P,qs.map Vv,ks⟩ (YR x)=(match zb1 P (Jb qs ks x.at_).to_.toNat t with
  | none=>(2,zeroR)
  | some P'=>(0,⟨P',(qs.eraseIdx x.at_.toNat).map Vv,ks⟩)):=by
 unfold zb3
 have e:atE (qs.map Vv) ks (YR x).at_=0:=by rw [←he];exact Wt hpk ks x.at_
 have e2:Jb (qs.map Vv) ks (YR x).at_=Vv (Jb qs ks x.at_):=zg2 hpk ks x.at_
 have e3:¬(Vv (Jb qs ks x.at_)).frm=(Vv (Jb qs ks x.at_)).to_:=h
 have e4:okN (Vv (Jb qs ks x.at_)).data=some t:=hok
 simp only [e,e2,if_neg e3,ne_eq,not_true_eq_false,if_false,e4,Option.bind_some]
 have e5:(Vv (Jb qs ks x.at_)).to_=(Jb qs ks x.at_).to_:=rfl
 rw [e5,WS];rfl
theorem ziS (hpk:∀ q∈qs,PkM I q)(he:atE qs ks x.at_=0)(h:(Jb qs ks x.at_).frm≠(Jb qs ks x.at_).to_){t:Nt}(hok:okN (Jb qs ks x.at_).data=some t)(hl:zb1 P (Jb qs ks x.at_).to_.toNat t=none):zb3 ⟨P,qs.map Vv,ks⟩ (YR x)=(2,zeroR):=by
 rw [zp1 hpk he h hok,hl]
theorem zjN (hpk:∀ q∈qs,PkM I q)(he:atE qs ks x.at_=0)(h:(Jb qs ks x.at_).frm≠(Jb qs ks x.at_).to_){t:Nt}(hok:okN (Jb qs ks x.at_).data=some t){P':List (List Nt)}(hl:zb1 P (Jb qs ks x.at_).to_.toNat t=some P'):zb3 ⟨P,qs.map Vv,ks⟩ (YR x)=(0,⟨P',(qs.eraseIdx x.at_.toNat).map Vv,ks⟩):=by
 rw [zp1 hpk he h hok,hl]
end
theorem zbP {α:Type}{l:List α}{j:Nat}:∀ q∈l.eraseIdx j,q∈l:=fun _ hq=>(List.eraseIdx_sublist ..).mem hq
end
section
open Go Go.Kn Go.Proofs
theorem zka:Fun Tryz.prog 109:=.of Tryz.func109 (by kernel_rfl) (by kernel_rfl)
theorem zbY:Fun Tryz.prog 113:=.of Tryz.func113 (by kernel_rfl) (by kernel_rfl)
theorem zj8:Fun Tryz.prog 62:=.of Tryz.func62 (by kernel_rfl) (by kernel_rfl)
theorem zgJ {I:Qt}{bc bp:Nat}{qa aa:Option Addr}{pn pc qn qc an ac:Nat}{cur:List Value}{ps:List Pe}{i:Nat}{j:Int}{t:Nt}(hj:j=(i:Int))(hP:ziv I cur ps)(hpl:ps.length=pn)(hi:i<pn)(hpn:pn≤100000)(hT:NtM I t)(ht:QP t=true):K2 Tryz.prog 109 [Zw bc,.int .i64 j,Kj t] I [(bc,.cells #[.slice (some ⟨bp,0,none⟩) pn pc,.slice qa qn qc,.slice aa an ac] 108 (0,0)),(bp,.cells (cur).toArray 59 (0,0))] (fun v I' L'=>v= .tuple #[]∧∃ cur' ps',L'=[(bc,.cells #[.slice (some ⟨bp,0,none⟩) pn pc,.slice qa qn qc,.slice aa an ac] 108 (0,0)),(bp,.cells (cur').toArray 59 (0,0))]∧ziv I' cur' ps'∧ps'.length=pn∧zb1 (dtP ps) i (Yr t)=some (dtP ps')) (fun v=>v= .iface 50 (.int .i64 2)∧zb1 (dtP ps) i (Yr t)=none):=by
 subst hj
 obtain ⟨pe,hx⟩:∃ pe,ps[i]? =some pe:=⟨_,List.getElem?_eq_getElem (by omega)⟩
 have hm:=List.mem_of_getElem? hx
 obtain ⟨v1,v2,v3⟩:=Vz (hP.ok pe hm)
 have hlen:=(hP.nt pe hm).sl.len
 refine (zq1 (hP.at_ i pe hx) hi hpn (hP.nt pe hm) v2 hT (v1.mono t) (by omega)).mono (fun v I' L' hI ⟨hv,h⟩=>⟨hv,?_⟩) (fun v ⟨hv,hh,hn⟩=>⟨hv,zj1 hx hh (by omega)⟩)
 rcases h with ⟨hh,rfl⟩ | ⟨hh,hl,a,c,rfl,hS⟩
 ·
  exact ⟨cur,ps,rfl,hP.mono hI,hpl,znM hx hh⟩
 exact ⟨_,_,rfl,hP.lrn hI hx hT ht hh hl hS,by simpa using hpl,zny hx hh (by omega) _ _ _⟩
theorem zli {I:Qt}{bc bp:Nat}{qa aa:Option Addr}{pn pc qn qc an ac:Nat}{cur:List Value}{ps:List Pe}{qs:List Pk}{ks:List (Int×Int)}(hP:ziv I cur ps)(hpl:ps.length=pn)(hpn:pn≤100000)(hQ:Sl I 3 Zz qa qn qc qs)(hqn:qn≤100000)(hpk:∀ q∈qs,PkM I q)(hA:Sl I 2 KY aa an ac ks)(han:an≤100000)(x:Ev)(hg:∀ q∈qs,UP pn q=false)(hdl:∀ q∈qs,q.n≤100000)(hz0:∀ q∈qs,0≤q.frm∧0≤q.to_):K2 Tryz.prog 48 [Zw bc,.agg (zel x).toArray] I [(bc,.cells #[.slice (some ⟨bp,0,none⟩) pn pc,.slice qa qn qc,.slice aa an ac] 108 (0,0)),(bp,.cells (cur).toArray 59 (0,0))] (fun v I' L'=>v= .tuple #[]∧(zb3 ⟨dtP ps,qs.map Vv,ks⟩ (YR x)).1=0∧∃ cur' ps' a m c qs',L'=[(bc,.cells #[.slice (some ⟨bp,0,none⟩) pn pc,.slice a m c,.slice aa an ac] 108 (0,0)),(bp,.cells (cur').toArray 59 (0,0))]∧ziv I' cur' ps'∧ps'.length=pn∧Sl I' 3 Zz a m c qs'∧(∀ q∈qs',q∈qs)∧(zb3 ⟨dtP ps,qs.map Vv,ks⟩ (YR x)).2=⟨dtP ps',qs'.map Vv,ks⟩) (fun v=>v= .iface 50 (.int .i64 (zb3 ⟨dtP ps,qs.map Vv,ks⟩ (YR x)).1)∧(zb3 ⟨dtP ps,qs.map Vv,ks⟩ (YR x)).1≠0):=by
 intro g H w hw
 refine qe Tryz.func48 Tryz.ntmps48 hw ?_
 have hIc:=zzm I
 refine zR ?_
 refine QR rfl rfl rfl (fun b_3=>?_)
 refine Qb ?_
 refine QH .here (fun I1 hI1 hb1=>?_)
 have hP:=hP.mono hI1;have hQ:=hQ.mono hI1;have hA:=hA.mono hI1;have hIc:=hIc.trans hI1
 have h3:=BxI.of hb1
 refine Qd ?_
 refine zY [(0,_)] (fun T L0 E I' loc'=>∃ (p4 p5:Nat) (pk:Pk) (a5:Option Addr) (m5 c5:Nat) (a6:Option Addr) (m6 c6:Nat),E=(4,Zw p4)::(5,Zw p5)::(6,.int .i64 (atE qs ks x.at_))::T∧HLe I1 I'∧[(bc,.cells #[.slice (some ⟨bp,0,none⟩) pn pc,.slice qa qn qc,.slice aa an ac] 108 (0,0)),(bp,.cells (cur).toArray 59 (0,0))]=loc'∧BxI I' p4 (.cells (Zz pk).toArray 99 (0,0))∧BxI I' p5 (.cells #[.slice a5 m5 c5,.slice a6 m6 c6] 26 (0,0))∧(atE qs ks x.at_=0→pk=Jb qs ks x.at_)∧ziE I' (atE qs ks x.at_) a5 m5 c5 a6 m6 c6 (qs.eraseIdx x.at_.toNat) aa an ac) ?_ ?_
 ·
  have hKc1:=zzm I1
  have hD:=zzm I1
  refine QQ I1 [(bc,.cells #[.slice (some ⟨bp,0,none⟩) pn pc,.slice qa qn qc,.slice aa an ac] 108 (0,0)),(bp,.cells (cur).toArray 59 (0,0))] mixed ?_
  refine zT 0 rfl (Qf rfl) hD ?_
  refine zT 1 rfl (QI rfl) hD ?_
  refine zT 2 rfl (Qa rfl Yd) hD ?_
  refine zT 3 rfl (Qa rfl YS) hD ?_
  refine zT 4 rfl (Qg rfl ZM (fun hg=>by exact Cells.s0 (vs:=[_,_]) rfl) rfl) hD ?_
  refine zT 5 rfl (Qa rfl zdD) hD ?_
  refine zT 6 rfl (Qc rfl Ql (fun hg=>by exact QA.imm h3.out rfl)) hD ?_
  refine VD 7 12 13 rfl rfl rfl (by kernel_rfl) ?_ ?_ ?_
  ·
   refine zpc [_,_] rfl zbY .nil (Uy hQ hqn hA han x.at_) ?_
   rintro vv2 I2 L2 hI2 ⟨pk,a5,m5,c5,a6,m6,c6,rfl,rfl,hpe,hZ⟩
   have hKc1:=hKc1.trans hI2;have hD:=hD.trans hI2
   refine Qb ?_
   refine zD hD ?_
   refine zT 8 rfl (Qf rfl) hD ?_
   refine zT 9 rfl (Q2 rfl rfl) hD ?_
   refine zT 10 rfl (Q2 rfl rfl) hD ?_
   refine zT 11 rfl (Q2 rfl rfl) hD ?_
   refine QW 12 13 rfl rfl (by kernel_rfl) ?_ ?_
   ·
    refine Qq zcd rfl rfl (fun b_4=>?_)
    refine Qb ?_
    refine zD hD ?_
    refine qd 13 rfl ?_
    refine Qq UI rfl rfl (fun b_5=>?_)
    refine Qb ?_
    refine zD hD ?_
    refine qd 14 rfl ?_
    refine zh JD ?_
    refine QT (b:=b_4) (by repeat (first | exact ZR.here | apply ZR.there)) (fun I3 hI3 hb3=>?_)
    have hZ:=hZ.mono hI3;have hKc1:=hKc1.trans hI3;have hD:=hD.trans hI3
    have h4:=BxI.of hb3
    refine Qb ?_
    refine zD hD ?_
    refine qd 15 rfl ?_
    refine zh Yp ?_
    refine QT (b:=b_5) (by repeat (first | exact ZR.here | apply ZR.there)) (fun I4 hI4 hb4=>?_)
    have hZ:=hZ.mono hI4;have h4:=h4.mono hI4;have hKc1:=hKc1.trans hI4;have hD:=hD.trans hI4
    have h5:=BxI.of hb4
    refine Qb ?_
    refine zD hD ?_
    refine zT 16 rfl (QC rfl) hD ?_
    refine Qn (by kernel_rfl) ?_
    exact zm (h:=⟨_,_,_,_,_,_,_,_,_,rfl,hKc1,rfl,h4,h5,hpe,hZ⟩)
   refine Qq UI rfl rfl (fun b_5=>?_)
   refine Qb ?_
   refine zD hD ?_
   refine qd 12 rfl ?_
   refine Qq zcd rfl rfl (fun b_4=>?_)
   refine Qb ?_
   refine zD hD ?_
   refine qd 14 rfl ?_
   refine zh JD ?_
   refine QT (b:=b_4) (by repeat (first | exact ZR.here | apply ZR.there)) (fun I5 hI5 hb5=>?_)
   have hZ:=hZ.mono hI5;have hKc1:=hKc1.trans hI5;have hD:=hD.trans hI5
   have h4:=BxI.of hb5
   refine Qb ?_
   refine zD hD ?_
   refine qd 15 rfl ?_
   refine zh Yp ?_
   refine QT (b:=b_5) (by repeat (first | exact ZR.here | apply ZR.there)) (fun I6 hI6 hb6=>?_)
   have hZ:=hZ.mono hI6;have h4:=h4.mono hI6;have hKc1:=hKc1.trans hI6;have hD:=hD.trans hI6
   have h5:=BxI.of hb6
   refine Qb ?_
   refine zD hD ?_
   refine zT 16 rfl (QC rfl) hD ?_
   refine Qn (by kernel_rfl) ?_
   exact zm (h:=⟨_,_,_,_,_,_,_,_,_,rfl,hKc1,rfl,h4,h5,hpe,hZ⟩)
  ·
   refine Qq zcd rfl rfl (fun b_4=>?_)
   refine Qb ?_
   refine zD hD ?_
   refine QW 7 13 rfl rfl (by kernel_rfl) ?_ ?_
   ·
    refine zpc [_,_] rfl zbY .nil (Uy hQ hqn hA han x.at_) ?_
    rintro vv7 I7 L7 hI7 ⟨pk,a5,m5,c5,a6,m6,c6,rfl,rfl,hpe,hZ⟩
    have hKc1:=hKc1.trans hI7;have hD:=hD.trans hI7
    refine Qb ?_
    refine zD hD ?_
    refine zT 8 rfl (Qf rfl) hD ?_
    refine zT 9 rfl (Q2 rfl rfl) hD ?_
    refine zT 10 rfl (Q2 rfl rfl) hD ?_
    refine zT 11 rfl (Q2 rfl rfl) hD ?_
    refine qd 13 rfl ?_
    refine Qq UI rfl rfl (fun b_5=>?_)
    refine Qb ?_
    refine zD hD ?_
    refine qd 14 rfl ?_
    refine zh JD ?_
    refine QT (b:=b_4) (by repeat (first | exact ZR.here | apply ZR.there)) (fun I8 hI8 hb8=>?_)
    have hZ:=hZ.mono hI8;have hKc1:=hKc1.trans hI8;have hD:=hD.trans hI8
    have h4:=BxI.of hb8
    refine Qb ?_
    refine zD hD ?_
    refine qd 15 rfl ?_
    refine zh Yp ?_
    refine QT (b:=b_5) (by repeat (first | exact ZR.here | apply ZR.there)) (fun I9 hI9 hb9=>?_)
    have hZ:=hZ.mono hI9;have h4:=h4.mono hI9;have hKc1:=hKc1.trans hI9;have hD:=hD.trans hI9
    have h5:=BxI.of hb9
    refine Qb ?_
    refine zD hD ?_
    refine zT 16 rfl (QC rfl) hD ?_
    refine Qn (by kernel_rfl) ?_
    exact zm (h:=⟨_,_,_,_,_,_,_,_,_,rfl,hKc1,rfl,h4,h5,hpe,hZ⟩)
   refine Qq UI rfl rfl (fun b_5=>?_)
   refine Qb ?_
   refine zD hD ?_
   refine qd 7 rfl ?_
   refine zpc [_,_] rfl zbY .nil (Uy hQ hqn hA han x.at_) ?_
   rintro vv10 I10 L10 hI10 ⟨pk,a5,m5,c5,a6,m6,c6,rfl,rfl,hpe,hZ⟩
   have hKc1:=hKc1.trans hI10;have hD:=hD.trans hI10
   refine Qb ?_
   refine zD hD ?_
   refine zT 8 rfl (Qf rfl) hD ?_
   refine zT 9 rfl (Q2 rfl rfl) hD ?_
   refine zT 10 rfl (Q2 rfl rfl) hD ?_
   refine zT 11 rfl (Q2 rfl rfl) hD ?_
   refine qd 14 rfl ?_
   refine zh JD ?_
   refine QT (b:=b_4) (by repeat (first | exact ZR.here | apply ZR.there)) (fun I11 hI11 hb11=>?_)
   have hZ:=hZ.mono hI11;have hKc1:=hKc1.trans hI11;have hD:=hD.trans hI11
   have h4:=BxI.of hb11
   refine Qb ?_
   refine zD hD ?_
   refine qd 15 rfl ?_
   refine zh Yp ?_
   refine QT (b:=b_5) (by repeat (first | exact ZR.here | apply ZR.there)) (fun I12 hI12 hb12=>?_)
   have hZ:=hZ.mono hI12;have h4:=h4.mono hI12;have hKc1:=hKc1.trans hI12;have hD:=hD.trans hI12
   have h5:=BxI.of hb12
   refine Qb ?_
   refine zD hD ?_
   refine zT 16 rfl (QC rfl) hD ?_
   refine Qn (by kernel_rfl) ?_
   exact zm (h:=⟨_,_,_,_,_,_,_,_,_,rfl,hKc1,rfl,h4,h5,hpe,hZ⟩)
  refine Qq UI rfl rfl (fun b_5=>?_)
  refine Qb ?_
  refine zD hD ?_
  refine QW 7 12 rfl rfl (by kernel_rfl) ?_ ?_
  ·
   refine zpc [_,_] rfl zbY .nil (Uy hQ hqn hA han x.at_) ?_
   rintro vv13 I13 L13 hI13 ⟨pk,a5,m5,c5,a6,m6,c6,rfl,rfl,hpe,hZ⟩
   have hKc1:=hKc1.trans hI13;have hD:=hD.trans hI13
   refine Qb ?_
   refine zD hD ?_
   refine zT 8 rfl (Qf rfl) hD ?_
   refine zT 9 rfl (Q2 rfl rfl) hD ?_
   refine zT 10 rfl (Q2 rfl rfl) hD ?_
   refine zT 11 rfl (Q2 rfl rfl) hD ?_
   refine qd 12 rfl ?_
   refine Qq zcd rfl rfl (fun b_4=>?_)
   refine Qb ?_
   refine zD hD ?_
   refine qd 14 rfl ?_
   refine zh JD ?_
   refine QT (b:=b_4) (by repeat (first | exact ZR.here | apply ZR.there)) (fun I14 hI14 hb14=>?_)
   have hZ:=hZ.mono hI14;have hKc1:=hKc1.trans hI14;have hD:=hD.trans hI14
   have h4:=BxI.of hb14
   refine Qb ?_
   refine zD hD ?_
   refine qd 15 rfl ?_
   refine zh Yp ?_
   refine QT (b:=b_5) (by repeat (first | exact ZR.here | apply ZR.there)) (fun I15 hI15 hb15=>?_)
   have hZ:=hZ.mono hI15;have h4:=h4.mono hI15;have hKc1:=hKc1.trans hI15;have hD:=hD.trans hI15
   have h5:=BxI.of hb15
   refine Qb ?_
   refine zD hD ?_
   refine zT 16 rfl (QC rfl) hD ?_
   refine Qn (by kernel_rfl) ?_
   exact zm (h:=⟨_,_,_,_,_,_,_,_,_,rfl,hKc1,rfl,h4,h5,hpe,hZ⟩)
  refine Qq zcd rfl rfl (fun b_4=>?_)
  refine Qb ?_
  refine zD hD ?_
  refine qd 7 rfl ?_
  refine zpc [_,_] rfl zbY .nil (Uy hQ hqn hA han x.at_) ?_
  rintro vv16 I16 L16 hI16 ⟨pk,a5,m5,c5,a6,m6,c6,rfl,rfl,hpe,hZ⟩
  have hKc1:=hKc1.trans hI16;have hD:=hD.trans hI16
  refine Qb ?_
  refine zD hD ?_
  refine zT 8 rfl (Qf rfl) hD ?_
  refine zT 9 rfl (Q2 rfl rfl) hD ?_
  refine zT 10 rfl (Q2 rfl rfl) hD ?_
  refine zT 11 rfl (Q2 rfl rfl) hD ?_
  refine qd 14 rfl ?_
  refine zh JD ?_
  refine QT (b:=b_4) (by repeat (first | exact ZR.here | apply ZR.there)) (fun I17 hI17 hb17=>?_)
  have hZ:=hZ.mono hI17;have hKc1:=hKc1.trans hI17;have hD:=hD.trans hI17
  have h4:=BxI.of hb17
  refine Qb ?_
  refine zD hD ?_
  refine qd 15 rfl ?_
  refine zh Yp ?_
  refine QT (b:=b_5) (by repeat (first | exact ZR.here | apply ZR.there)) (fun I18 hI18 hb18=>?_)
  have hZ:=hZ.mono hI18;have h4:=h4.mono hI18;have hKc1:=hKc1.trans hI18;have hD:=hD.trans hI18
  have h5:=BxI.of hb18
  refine Qb ?_
  refine zD hD ?_
  refine zT 16 rfl (QC rfl) hD ?_
  refine Qn (by kernel_rfl) ?_
  exact zm (h:=⟨_,_,_,_,_,_,_,_,_,rfl,hKc1,rfl,h4,h5,hpe,hZ⟩)
 rintro E J19 loc' ⟨p4,p5,pk,a5,m5,c5,a6,m6,c6,rfl,hJ,rfl,h4,h5,hpe,hZ⟩
 have hP:=hP.mono hJ;have hIc:=hIc.trans hJ
 refine zR (zM ?_)
 refine zC ?_
 refine zM ?_
 refine zx5 [_,_] rfl Kc .nil (UR J19 (atE qs ks x.at_==0) (atE qs ks x.at_)) ?_ (fun pv hpv=>by refine zx6 ?_;exact (have hn9:atE qs ks x.at_≠0:=(by simpa using hpv.2);⟨by rw [zqn hpk hn9];exact hpv.1,by rw [zqn hpk hn9];exact hn9⟩))
 rintro vv20 I20 L20 hI20 ⟨rfl,rfl,rfl,hok⟩
 have hP:=hP.mono hI20;have h4:=h4.mono hI20;have h5:=h5.mono hI20;have hZ:=hZ.mono hI20;have hIc:=hIc.trans hI20
 have he:atE qs ks x.at_=0:=by simpa using hok
 obtain ⟨rfl,rfl,rfl,hS9⟩:=hZ.ok he
 obtain rfl:=hpe he
 refine zN (zR ?_)
 refine zM ?_
 refine zV (Qg rfl ZM (fun hg=>by exact BxI.cells (vs:=[_,_]) h5) rfl) ?_
 refine zV (QI rfl) ?_
 refine zF Yd ?_
 refine zF YS ?_
 refine Y4 rfl rfl Yp rfl rfl rfl rfl (by repeat (first | exact Upd.here | apply Upd.there | apply Qu)) ?_
 refine zN (zR ?_)
 refine zF zax ?_
 refine zV (Qc rfl Ql (fun hg=>by exact QA.imm h4.out rfl)) ?_
 refine zF WU ?_
 refine zV (Qc rfl Ql (fun hg=>by exact QA.imm h4.out rfl)) ?_
 refine zC (zN ?_)
 refine zI ?_ ?_<;>intro hc34
 ·
  have hne:(Jb qs ks x.at_).frm≠(Jb qs ks x.at_).to_:=by simpa using hc34
  have hin:=zs8 he hne
  have hPk:=(hpk _ hin).mono hIc
  have hdn:=hdl _ hin
  obtain ⟨hsm,_,hto9⟩:=zoH (hg _ hin)
  have hz9:=(hz0 _ hin).2
  have hto:(Jb qs ks x.at_).to_.toNat<pn:=by omega
  have hti:(Jb qs ks x.at_).to_=(((Jb qs ks x.at_).to_.toNat:Nat):Int):=(Int.toNat_of_nonneg hz9).symm
  refine zR ?_
  refine zF zaw ?_
  refine zV (Qc rfl Ux (fun hg=>by exact QA.imm h4.out rfl)) ?_
  refine zpc [_] rfl zj8 .nil (zjV hPk.sl hPk.byte hdn) ?_
  rintro vv21 I21 L21 hI21 ⟨rfl,cs,bb,rfl,hrd⟩
  have hP:=hP.mono hI21;have h4:=h4.mono hI21;have hS9:=hS9.mono hI21;have hIc:=hIc.trans hI21
  obtain ⟨t9,rfl,rfl,hNd9,hok9⟩:=zg6 hrd hsm
  have hPk:=hPk.mono hI21
  have hTM:=zgE hPk.byte (by have h:=hPk.sl.len;omega) hok9 hNd9
  have hTf:=zdJ hPk.byte (by have h:=hPk.sl.len;omega) hok9 hNd9
  refine zM ?_
  refine zE ?_
  refine zE ?_
  refine Qq W8 rfl rfl (fun b_7=>?_)
  refine zh VW ?_
  refine zA (zN (Qi ?_))
  refine zM ?_
  refine zF WU ?_
  refine zV (Qc rfl Ql (fun hg=>by exact QA.imm h4.out rfl)) ?_
  refine zV (Qg rfl Zf (fun hg=>by exact Cells.g0) rfl) ?_
  refine zx5 [_,_,_] rfl zka (by repeat (first | exact .cons .here .nil | exact ZL | exact Zd | apply ZF | apply ZB)) (zgJ hti hP hpl hto hpn hTM hTf) ?_ (fun pv hpv=>by refine zx6 ?_;exact (⟨by rw [ziS hpk he hne hok9 hpv.2];exact hpv.1,by rw [ziS hpk he hne hok9 hpv.2];decide⟩))
  rintro vv22 I22 L22 hI22 ⟨rfl,cur2,ps2,rfl,hP2,hpl2,hlr⟩
  have hS9:=hS9.mono hI22;have hIc:=hIc.trans hI22
  refine Qb ?_
  exact YB (Yh rfl (fun w hw=>.inl ⟨_,I22,_,rfl,hIc,by exact hw.subL (by repeat (first | exact .refl | exact QJ | refine .drop ?_ | refine .keep ?_)),rfl,by rw [zjN hpk he hne hok9 hlr],cur2,ps2,_,_,_,_,rfl,hP2,hpl2,hS9,zbP,by rw [zjN hpk he hne hok9 hlr]⟩))
 have heq:(Jb qs ks x.at_).frm=(Jb qs ks x.at_).to_:=by simpa using hc34
 refine Qr ?_
 exact YB (Yh rfl (fun w hw=>.inl ⟨_,I20,_,rfl,hIc,by exact hw,rfl,by rw [zpq hpk he heq],cur,ps,_,_,_,_,rfl,hP,hpl,hS9,zbP,by rw [zpq hpk he heq]⟩))
end
section
open Go Go.Kn Go.Proofs
theorem zgW {bs:List Nat}{I:Qt}{cs:List Value}{b:Bool}(h:zt4 bs I cs b):(okN bs).isSome=b:=by
 rcases h.2 with ⟨h1,h2⟩ | ⟨h1,x,h2,h3,h4⟩
 ·
  rw [h2,h1];rfl
 ·
  rw [h4,h1];rfl
def ziR (pn:Nat)(ps:List Pe)(qs:List Pk)(ks:List (Int×Int)):Int:=
 if ((decide ((pn:Int)<1)||decide ((pn:Int)>24))||Uq qs ks != 0)=true then 570 else if ps.any (fun x=> !ZG x.notes)=true then 570 else if qs.any (UP pn)=true then 570 else 0
section
variable {pn:Nat} {ps:List Pe} {qs:List Pk} {ks:List (Int×Int)}
theorem zw9 (h:((decide ((pn:Int)<1)||decide ((pn:Int)>24))||Uq qs ks != 0)=true):ziR pn ps qs ks=570:=if_pos h
theorem zw5 (h:((decide ((pn:Int)<1)||decide ((pn:Int)>24))||Uq qs ks != 0)=false){k:Nat}{x:Pe}(hx:ps[k]? =some x)(hc:(!ZG x.notes)=true):ziR pn ps qs ks=570:=by
 unfold ziR
 rw [h,if_neg (by simp),if_pos (List.any_eq_true.2 ⟨x,List.mem_of_getElem? hx,hc⟩)]
theorem zuj (h:((decide ((pn:Int)<1)||decide ((pn:Int)>24))||Uq qs ks != 0)=false)(h1:ps.any (fun x=> !ZG x.notes)=false){k:Nat}{x:Pk}(hx:qs[k]? =some x)(hc:UP pn x=true):ziR pn ps qs ks=570:=by
 unfold ziR
 rw [h,if_neg (by simp),h1,if_neg (by simp),if_pos (List.any_eq_true.2 ⟨x,List.mem_of_getElem? hx,hc⟩)]
theorem zup (h:((decide ((pn:Int)<1)||decide ((pn:Int)>24))||Uq qs ks != 0)=false)(h1:ps.any (fun x=> !ZG x.notes)=false)(h2:qs.any (UP pn)=false):ziR pn ps qs ks=0:=by
 unfold ziR
 rw [h,if_neg (by simp),h1,if_neg (by simp),h2,if_neg (by simp)]
theorem zd5 {I:Qt}{pa qa aa:Option Addr}{pc qn qc an ac:Nat}(hR:RmP I pa pn pc qa qn qc aa an ac ps qs ks):zeY (VN ps qs ks)=ziR pn ps qs ks:=by
 have hl:(VN ps qs ks).ps.length=pn:=by rw [←hR.pe.len];exact zcP ps
 have e1:(dtP ps).any (fun xs=> !ZG xs)=ps.any (fun x=> !ZG x.notes):=zfE fun x hx=>by simp only [zaZ (hR.nt x hx)]
 have e2:(qs.map Vv).any (UP pn)=qs.any (UP pn):=zfE fun x _=>rfl
 unfold zeY ziR
 rw [hl]
 simp only [VN,WN hR.pk,e1,e2]
theorem ztJ (h:ziR pn ps qs ks=0):(1≤pn∧pn≤24)∧Uq qs ks=0∧(∀ x∈ps,ZG x.notes=true)∧∀ q∈qs,UP pn q=false:=by
 unfold ziR at h
 split at h
 ·
  cases h
 ·
  rename_i h1
  split at h
  ·
   cases h
  ·
   rename_i h2
   split at h
   ·
    cases h
   ·
    rename_i h3
    simp only [Bool.or_eq_true,decide_eq_true_eq,bne_iff_ne,not_or,ne_eq,Decidable.not_not] at h1
    refine ⟨by omega,h1.2,fun x hx=>?_,fun q hq=>?_⟩
    ·
     rw [Bool.not_eq_true,List.any_eq_false] at h2
     simpa using h2 x hx
    ·
     rw [Bool.not_eq_true,List.any_eq_false] at h3
     simpa using h3 q hq
end
end
section
open Go Go.Kn Go.Proofs
theorem Kh:AgT Tryz.prog 59 1:=.of (by kernel_rfl)
theorem zmO:Fun Tryz.prog 61:=.of Tryz.func61 (by kernel_rfl) (by kernel_rfl)
theorem W0:SzT Tryz.prog 59 1:=.of (by kernel_rfl)
theorem zfo:Y7 Tryz.prog 59 (.agg #[(.slice none 0 0)]):=.of (by kernel_rfl)
theorem zkO {I:Qt}{pa qa aa:Option Addr}{pn pc qn qc an ac:Nat}{ps:List Pe}{qs:List Pk}{ks:List (Int×Int)}(hR:RmP I pa pn pc qa qn qc aa an ac ps qs ks)(hpn:pn≤100000)(hqn:qn≤100000)(han:an≤100000)(hnn:∀ x∈ps,x.n≤100000)(hdl:∀ q∈qs,q.n≤100000):Vl Tryz.prog 16 [.agg #[.slice pa pn pc,.slice qa qn qc,.slice aa an ac]] I [] (fun v I' L'=>L'=[]∧v= .int .i64 (zeY (VN ps qs ks))):=by
 intro g H w hw
 refine qe Tryz.func16 Tryz.ntmps16 hw ?_
 have hIc:=zzm I
 have hlp:=hR.pe.len
 have hlq:=hR.q.len
 refine zR ?_
 refine QR rfl rfl rfl (fun b_1=>?_)
 refine zA (Qb ?_)
 refine QH .here (fun I1 hI1 hb1=>?_)
 have hR:=hR.mono hI1;have hIc:=hIc.trans hI1
 have h1:=BxI.of hb1
 refine Qd (Qm (zR ?_))
 refine zF Yx ?_
 refine zV (Qc rfl JG (fun hg=>by exact QA.imm h1.out rfl)) ?_
 refine zQ V7 ?_
 refine zC ?_
 refine zM ?_
 refine QM 4 rfl rfl rfl ?_
 refine zJ (Qa rfl Yx) ?_
 refine zJ (Qc rfl JG (fun hg=>by exact QA.imm h1.out rfl)) ?_
 refine zJ (Q4 rfl V7) ?_
 refine zJ (QD rfl rfl rfl) ?_
 refine Zb rfl rfl rfl rfl rfl ?_
 refine zM ?_
 refine QM 10 rfl rfl rfl ?_
 refine zJ (Qa rfl YS) ?_
 refine zJ (Qg rfl ZM (fun hg=>by exact Cells.part (pre:=[.slice pa pn pc]) (vs:=[.slice qa qn qc,.slice aa an ac]) (post:=[]) (BxI.cells (vs:=[_,_,_]) h1) rfl) rfl) ?_
 refine qf (vs:=[_]) rfl zlg (fun hg=>zjM hR.q hqn hR.k han) ?_
 refine zJ (QD rfl rfl rfl) ?_
 refine Zb rfl rfl rfl rfl rfl ?_
 refine zN ?_
 refine zI ?_ ?_<;>intro hc24
 ·
  have h24:=hc24
  refine zR (zA (zN (Qs (Qe ?_))))
  exact Qv rfl rfl (fun w hw=>⟨_,I1,[],rfl,hIc,by exact hw.drop,rfl,by rw [zd5 hR,zw9 h24]⟩)
 have h24:=hc24
 refine Qr (Qd (Qm (zR ?_)))
 refine zF Yx ?_
 refine zV (Qc rfl JG (fun hg=>by exact QA.imm h1.out rfl)) ?_
 refine zQ V7 ?_
 refine zM (zN (Qw ?_))
 refine zU [(1,_),(26,_),(27,_)] (fun T L0 mz E I' loc'=>∃ (k:Nat),mz=pn-k∧E=(28,.int .i64 k)::T∧I1=I'∧L0=loc'∧k≤pn∧(ps.take k).any (fun x=> !ZG x.notes)=false) ?_ (h:=⟨0,rfl,rfl,rfl,rfl,Nat.zero_le _,rfl⟩)
 rintro mz E I' loc' ⟨k,rfl,rfl,rfl,rfl,hk,hno⟩
 refine zR (zC (zN (Qm ?_)))
 refine zI ?_ ?_<;>intro hc29
 ·
  have hlt_k:k<pn:=by have h:=hc29;simp at h;omega
  obtain ⟨x,hx⟩:∃ y,ps[k]? =some y:=⟨_,List.getElem?_eq_getElem (by omega)⟩
  have hxm:=List.mem_of_getElem? hx
  refine Qr (Qd (Qm (Qw (zR ?_))))
  refine zV (QG rfl rfl V7 hR.pe (fun hg=>by omega)) ?_
  refine zV (Qg rfl Kh (fun hg=>by exact zzn hR.pe hx) rfl) ?_
  refine Qq zfo rfl rfl (fun b_4=>?_)
  refine zh W0 ?_
  refine zN (zR ?_)
  refine zV (Qg rfl Kh (fun hg=>by exact Cells.g0) rfl) ?_
  refine qcV (vs:=[_]) rfl zmO (zfT (hR.nt x hxm) (hnn x hxm)) ?_
  refine zO (zN ?_)
  refine zI ?_ ?_<;>intro hc34
  ·
   refine zR (zA (zN (Qs (Qj (Qe (Qe (Qj ?_)))))))
   refine Qe ?_
   exact Qv rfl rfl (fun w hw=>⟨_,I1,[],rfl,hIc,by exact hw.drop,rfl,by rw [zd5 hR,zw5 h24 hx hc34]⟩)
  refine Qr (Qk (Qd (Qi (zB ?_))))
  refine zM (Qb ?_)
  exact zm (h:=⟨pn-(k+1),by omega,k+1,rfl,rfl,rfl,rfl,by omega,zcz hx hno hc34⟩)
 have hge_k:pn≤k:=by have h:=hc29;simp at h;omega
 rw [ZW hlp hge_k] at hno
 refine Zi (Qo (Qo (Qz (Qd (Qm (zR ?_))))))
 refine zF YS ?_
 refine zF Zg ?_
 refine zV (Qc rfl Zn (fun hg=>by exact QA.imm h1.out rfl)) ?_
 refine zQ Ze ?_
 refine zM (zN (Qw ?_))
 refine zU [(1,_),(38,_),(39,_)] (fun T L0 mz E I' loc'=>∃ (j:Nat),mz=qn-j∧E=(40,.int .i64 j)::T∧HLe I1 I'∧L0=loc'∧j≤qn∧(qs.take j).any (UP pn)=false) ?_ (h:=⟨0,rfl,rfl,zzm _,rfl,Nat.zero_le _,rfl⟩)
 rintro mz E J3 loc' ⟨j,rfl,rfl,hJ,rfl,hj,hno2⟩
 have hR:=hR.mono hJ;have h1:=h1.mono hJ;have hIc:=hIc.trans hJ
 have hB2:=hJ
 refine zR (zC (zN (Qm ?_)))
 refine zI ?_ ?_<;>intro hc41
 ·
  have hlt_j:j<qn:=by have h:=hc41;simp at h;omega
  obtain ⟨y,hy⟩:∃ y,qs[j]? =some y:=⟨_,List.getElem?_eq_getElem (by omega)⟩
  have hym:=List.mem_of_getElem? hy
  refine Qr (Qd (Qm (Qw (zR ?_))))
  refine zV (QG rfl rfl Ze hR.q (fun hg=>by omega)) ?_
  refine zV (Qg rfl VT (fun hg=>by exact zzn hR.q hy) rfl) ?_
  refine Qq zcd rfl rfl (fun b_6=>?_)
  refine zh JD ?_
  refine zN (zR ?_)
  refine zF zaw ?_
  refine zL Ux ?_
  refine zpc [_] rfl zj8 .nil (zjV (hR.pk y hym).sl (hR.pk y hym).byte (hdl y hym)) ?_
  rintro vv4 I4 L4 hI4 ⟨rfl,cs,bb,rfl,hrd⟩
  have hR:=hR.mono hI4;have h1:=h1.mono hI4;have hIc:=hIc.trans hI4;have hB2:=hB2.trans hI4
  refine zM ?_
  refine zE ?_
  refine zE ?_
  refine Qq W8 rfl rfl (fun b_7=>?_)
  refine Y8 (old:=Q6 zet) rfl rfl VW hrd.1.1 rfl hrd.1.2 rfl (by repeat (first | exact Upd.here | apply Upd.there | apply Qu)) ?_
  refine zA ?_
  refine zN (zR ?_)
  refine zM ?_
  refine zO ?_
  refine zM ?_
  refine QM 2 rfl rfl rfl ?_
  refine zJ (Qa rfl zax) ?_
  refine zJ (Qc rfl Ql (fun hg=>by exact QA.h1 rfl)) ?_
  refine zJ (Qa rfl WU) ?_
  refine zJ (Qc rfl Ql (fun hg=>by exact QA.h1 rfl)) ?_
  refine zJ (Vm rfl rfl) ?_
  refine zJ (Qa rfl Yx) ?_
  refine zJ (Qc rfl JG (fun hg=>by exact QA.imm h1.out rfl)) ?_
  refine zJ (Q4 rfl V7) ?_
  refine zJ (QD rfl rfl rfl) ?_
  refine Zb rfl rfl rfl rfl rfl ?_
  refine zN ?_
  refine zI ?_ ?_<;>intro hc62
  ·
   have hbk:UP pn y=true:=by unfold UP;rw [zgW hrd];exact hc62
   refine zR (zA (zN (Qs (Qj (Qe (Qe (Qj ?_)))))))
   refine Qe ?_
   exact Qv rfl rfl (fun w hw=>⟨_,I4,[],rfl,hIc,by exact hw.drop,rfl,by rw [zd5 hR,zuj h24 hno hy hbk]⟩)
  have hbk:UP pn y=false:=by unfold UP;rw [zgW hrd];exact hc62
  refine Qr (Qk (Qd (Qi (zB ?_))))
  refine zM (Qb ?_)
  exact zm (h:=⟨qn-(j+1),by omega,j+1,rfl,rfl,hB2,rfl,by omega,zcz hy hno2 hbk⟩)
 have hge_j:qn≤j:=by have h:=hc41;simp at h;omega
 rw [ZW hlq hge_j] at hno2
 refine Zi (Qo (Qo (Qz (Qd (zR (zA (zN ?_)))))))
 refine Qs ?_
 exact Qv rfl rfl (fun w hw=>⟨_,J3,[],rfl,hIc,by exact hw.drop,rfl,by rw [zd5 hR,zup h24 hno hno2]⟩)
end
end Go.Proofs.YtjblkbkmblkgoaaGreat
namespace Go.Kn
section
open Go
def zem {α:Type}(P:Program)(f:FuncId)(cap:List Value)(I:Qt)(Lb:Loc)(rel:Value→α→Qt→Prop)(xs:List α):Prop:=
 ∀ g l (J Jx:List α→Qt→Qt→Prop),(∀ pre I1 I2 H',HLe I1 I2→J pre I1 H'→J pre I2 H')→
  (∀ pre x v I' H',pre++[x]<+:xs→HLe I I'→rel v x I'→J pre I' H'→zbJ P g l [v] I' H' fun b I2 H2=>if b then J (pre++[x]) I2 H2 else Jx (pre++[x]) I2 H2)→
  ∀ I0 H w,HLe I I0→J [] I0 H→(∀ p∈Lb,H p.1=some p.2)→St g I0 H [] w→Calls P f ((.func (.yield l) #[] #[]:Value)::cap).toArray w fun e w'=>∃ v I' H',e= .returned v∧HLe I0 I'∧St g I' H' [] w'∧(J xs I' H'∨∃ pre,pre<+:xs∧Jx pre I' H')
theorem zem.mono {α:Type}{P:Program}{f:FuncId}{cap:List Value}{I I':Qt}{Lb:Loc}{rel:Value→α→Qt→Prop}{xs:List α}(h:zem P f cap I Lb rel xs)(hI:HLe I I'):zem P f cap I' Lb rel xs:=
 fun g l J Jx hm hY I0 H w h0 hJ hb hw=>h g l (fun pre I1 H1=>HLe I' I1∧J pre I1 H1) (fun pre I1 H1=>HLe I' I1∧Jx pre I1 H1)
  (fun pre I1 I2 H' h12 ⟨h1,h2⟩=>⟨h1.trans h12,hm pre I1 I2 H' h12 h2⟩)
  (fun pre x v I1 H1 hp _ hv ⟨h2,h3⟩ loc W hW=>by
   obtain ⟨fn,tmps,asg,bd,hy,hR⟩:=hY pre x v I1 H1 hp h2 hv h3 loc W hW
   refine ⟨fn,tmps,asg,bd,hy,hR.mono ?_⟩
   rintro e W' ⟨b,I2,H2,he,h4,h5,h6⟩
   refine ⟨b,I2,H2,he,h4,h5,?_⟩
   cases b with
   | true=>exact ⟨h2.trans h4,h6⟩
   | false=>exact ⟨h2.trans h4,h6⟩) I0 H w (hI.trans h0) ⟨h0,hJ⟩ hb hw |>.mono fun e w' ⟨v,I1,H1,he,h1,h2,h3⟩=>⟨v,I1,H1,he,h1,h2,h3.elim (fun h=>.inl h.2) (fun ⟨pre,hp,h⟩=>.inr ⟨pre,hp,h.2⟩)⟩
def znr (H:Qt)(b:Nat):Qt:=fun x=>if x=b then none else H x
theorem zke {H:Qt}{b:Nat}{o:Obj}(hb:H b=some o):JM (znr H b) [(b,o)]=H:=by
 funext x
 simp only [JM,znr]
 split
 ·
  rename_i e;rw [e,hb]
 ·
  rfl
section
variable {g:World} {I H:Qt} {loc A B:Loc} {w:World} {b:Nat} {o:Obj}
theorem St.peek (h:St g I H [] w)(hb:H b=some o):St g I (znr H b) [(b,o)] w:=by
 have hd:∀ x p,znr H b x=some p→H x=some p:=fun x p e=>by
  unfold znr at e
  split at e
  ·
   cases e
  ·
   exact e
 refine ⟨h.os,h.tape,h.out,h.size,h.imm,fun x p e=>h.frm x p (hd x p e),?_,?_,?_,by simp⟩
 ·
  intro x p hm
  obtain ⟨rfl,rfl⟩:=Prod.mk.inj (List.mem_singleton.1 hm)
  exact h.frm _ _ hb
 ·
  intro x
  rcases h.sepIH x with e | e
  ·
   exact .inl e
  ·
   refine .inr ?_
   unfold znr
   split
   ·
    rfl
   ·
    exact e
 ·
  intro x p hm
  obtain ⟨rfl,rfl⟩:=Prod.mk.inj (List.mem_singleton.1 hm)
  refine ⟨?_,by simp [znr]⟩
  rcases h.sepIH x with e | e
  ·
   exact e
  ·
   rw [hb] at e;cases e
end
section
variable {α:Type} {P:Program} {N:Nat} {g:World} {p:Nat} {assign body:Code} {f:FuncId} {cap:List Value} {rel:Value→α→Qt→Prop} {xs:List α} {E:Env} {I H:Qt} {L B:Loc}
theorem zlP {fn:FuncId}{tmps:Array Value}{l df:Nat}{w2:World}(Jc:List α→Qt→Qt→Loc→Prop)(Jx:Code→List α→Qt→Qt→Loc→Prop)(Ja:List α→α→Env→Qt→Qt→Loc→Prop)
    (hm:∀ pre I1 I2 H' L',HLe I1 I2→Jc pre I1 H' L'→Jc pre I2 H' L'){Lb:Loc}(hst:∀ p∈Lb,p∈L)(hseq:zem P f cap I Lb rel xs)(hfit0:∀ v,KP N [] ((p,v)::E) {tmps:=tmps.setIfInBounds p v,defers:=[]})(h0:Jc [] I H L)
    (hass:∀ l Z pre x v I' H' L',pre++[x]<+:xs→HLe I I'→rel v x I'→Jc pre I' H' L'→X ⟨P,some l,N,[],g,H'⟩ (Exit.then (Met ⟨P,some l,N,[],g,H'⟩ fun E2 I2 loc2=>HLe I' I2∧∃ L2,loc2=L2++Z∧Ja pre x E2 I2 H' L2) (fun _ _ _=>False)) assign ((p,v)::E) I' (L'++Z))
    (hbody:∀ l Z pre x E2 I2 H2 L2,(∃ r0,(l,Obj.loop r0)∈Z)→pre++[x]<+:xs→HLe I I2→Ja pre x E2 I2 H2 L2→X ⟨P,some l,N,[],g,H2⟩ (ziN g Z (fun q I3 H3 L3=>HLe I2 I3∧Jc q I3 H3 L3) (fun c q I3 H3 L3=>HLe I2 I3∧Jx c q I3 H3 L3) (pre++[x])) body E2 I2 (L2++Z))
    (hw2:St g I H (L++((l,zuD fn tmps p assign body df .ready none)::B)) w2):
    Calls P f ((.func (.yield l) #[] #[]:Value)::cap).toArray w2 fun e w'=>∃ v,e= .returned v∧
      ((∃ I' H' L',HLe I I'∧Jc xs I' H' L'∧St g I' H' (L'++((l,zuD fn tmps p assign body df .ready none)::B)) w')∨
       (∃ c pre I' H' L',HLe I I'∧pre<+:xs∧Jx c pre I' H' L'∧St g I' H' (L'++((l,zuD fn tmps p assign body df .done (some c))::B)) w')):=by
  let rc:=zuD fn tmps p assign body df
  let Lr:LoopState→Option Code→Loc→Loc:=fun st pd L'=>L'++((l,rc st pd)::B)
  let J:List α→Qt→Qt→Prop:=fun pre I' H'=>∃ H0 L',Jc pre I' H0 L'∧HLe I I'∧H'=JM H0 (Lr .ready none L')∧((Lr .ready none L').map (·.1)).Nodup∧∀ b o,(b,o)∈Lr .ready none L'→H0 b=none
  let Jy:List α→Qt→Qt→Prop:=fun pre I' H'=>∃ c H0 L',Jx c pre I' H0 L'∧HLe I I'∧H'=JM H0 (Lr .done (some c) L')∧((Lr .done (some c) L').map (·.1)).Nodup∧∀ b o,(b,o)∈Lr .done (some c) L'→H0 b=none
  have hJ0:J [] I (JM H (Lr .ready none L)):=⟨H,L,h0,zzm I,rfl,hw2.nodup,fun b o hm=>(hw2.sepIL b o hm).2⟩
  refine (hseq g l J Jy (fun pre I1 I2 H' h12 ⟨H0,L',h1,h2,h3,h4,h5⟩=>⟨H0,L',hm pre I1 I2 H0 L' h12 h1,h2.trans h12,h3,h4,h5⟩) ?_ I _ _ (zzm I) hJ0 (fun p hp=>zdt hw2.nodup (List.mem_append_left _ (hst p hp))) hw2.hide).mono ?_
  · intro pre x v I' H' hpre hI hrel ⟨H0,L',hJc,_,hH,hnd,hdj⟩ lit W hW
    subst hH
    have hS0:=hW.join2 hnd hdj
    -- own blocks first, the record, the rest, the iterator's blocks
    have hS1:St g I' H0 (L'++((l,rc .ready none)::(B++lit))) W:=hS0.permL (by
      have:(L'++((l,rc .ready none)::(B++lit)))=(L'++((l,rc .ready none)::B))++lit:=by simp
      rw [this];exact List.perm_append_comm)
    have hrec:W.heap[l]? =some (rc .ready none):=hS1.own _ _ (by simp)
    refine ⟨fn,_,assign,body,run_yield (P:=P) hrec (by simp),?_⟩
    refine roundIn_of_wpIn (F:=Fence.wide) trivial ?_
    have htm:((#[p]:Array Tmp).zip #[v]).foldl (fun tmps (t,v)=>tmps.setIfInBounds t v) tmps=tmps.setIfInBounds p v:=by simp
    show Code.wpIn _ _ _ _ _ {tmps:=((#[p]:Array Tmp).zip #[v]).foldl (fun tmps (t,v)=>tmps.setIfInBounds t v) tmps,defers:=[]} _
    rw [htm]
    have hA:=hass l ((l,rc .ready none)::(B++lit)) pre x v I' H0 L' hpre hI hrel hJc _ W (hfit0 v) hS1
    refine wpIn_mono (F:=Fence.wide.inRound l) (n:=0) (P:=P) (show assign.wpIn (Fence.wide.inRound l) 0 P _ _ _ from hA) ?_
    intro e a1 W1 hq
    cases e with
    | normal=>
      obtain ⟨E2,I2,loc2,⟨hI2,L2,rfl,hJa⟩,hf2,hs2⟩:=hq
      have hrec1:W1.heap[l]? =some (rc .ready none):=hs2.own _ _ (by simp)
      have hs4:=hs2.putObj (o':=rc .busy none) (b:=l) (Qu .here)
      refine ⟨_,run_beginRound (P:=P) hrec1 rfl,?_⟩
      have hB:=hbody l ((l,rc .busy none)::(B++lit)) pre x E2 I2 H0 L2 ⟨_,List.mem_cons_self ..⟩ hpre (hI.trans hI2) hJa a1 _ hf2 hs4
      refine wpIn_mono (F:=Fence.wide.inRound l) (n:=0) (P:=P) (show body.wpIn (Fence.wide.inRound l) 0 P _ _ _ from hB) ?_
      have fin:∀ (W3:World) (I3 H3:Qt) (L3:Loc) (jump:Option Code) (st:LoopState),St g I3 H3 (L3++((l,rc .busy none)::(B++lit))) W3→(st=if jump.isNone then .ready else .done)→
          ∃ W4,(Instr.endRound l jump).run P W3= .ok (.bool jump.isNone) W4∧St g I3 (JM H3 (Lr st jump L3)) lit W4∧((Lr st jump L3).map (·.1)).Nodup∧∀ b o,(b,o)∈Lr st jump L3→H3 b=none:=by
        intro W3 I3 H3 L3 jump st hs hst
        have hrec3:W3.heap[l]? =some (rc .busy none):=hs.own _ _ (by simp)
        have hs6:=hs.putObj (o':=rc st jump) (b:=l) (Qu .here)
        have hs7:St g I3 H3 (lit++Lr st jump L3) (W3.putObj l (rc st jump)):=hs6.permL (by
          have:(L3++((l,rc st jump)::(B++lit)))=Lr st jump L3++lit:=by simp [Lr]
          rw [this];exact List.perm_append_comm)
        have hs8:=hs7.rest Zd
        refine ⟨_,run_endRound (P:=P) jump hrec3,?_,hs8.nodup,fun b o hm=>(hs8.sepIL b o hm).2⟩
        rw [←hst]
        exact hs7.hideR
      intro e a3 W3 hq
      cases e with
      | normal=>
        obtain ⟨I3,H3,L3,⟨hI3,hJ3⟩,hs⟩:=hq
        obtain ⟨W4,h1,h2,h3,h4⟩:=fin W3 I3 H3 L3 none .ready hs rfl
        exact ⟨_,W4,h1,true,I3,_,rfl,hI2.trans hI3,h2,H3,L3,hJ3,(hI.trans hI2).trans hI3,rfl,h3,h4⟩
      | ret=>
        obtain ⟨I3,H3,L3,⟨hI3,hJ3⟩,hs⟩:=hq
        obtain ⟨W4,h1,h2,h3,h4⟩:=fin W3 I3 H3 L3 (some .ret) .done hs rfl
        exact ⟨_,W4,h1,false,I3,_,rfl,hI2.trans hI3,h2,.ret,H3,L3,hJ3,(hI.trans hI2).trans hI3,rfl,h3,h4⟩
      | exit id=>
        obtain ⟨I3,H3,L3,⟨hI3,hJ3⟩,hs⟩:=hq
        obtain ⟨W4,h1,h2,h3,h4⟩:=fin W3 I3 H3 L3 (some (.exit id)) .done hs rfl
        exact ⟨_,W4,h1,false,I3,_,rfl,hI2.trans hI3,h2,.exit id,H3,L3,hJ3,(hI.trans hI2).trans hI3,rfl,h3,h4⟩
      | goto t=>exact hq.elim
      | panic c=>exact hq.elim
      | outgrown=>exact hq.elim
    | _=>exact hq.elim
  · rintro e w' ⟨v,I',H',rfl,hI,hs,hJ | ⟨pre,hpre,hJ⟩⟩
    · obtain ⟨H0,L',hJc,hI1,rfl,hnd,hdj⟩:=hJ
      have hs1:=hs.join2 hnd hdj
      exact ⟨v,rfl,.inl ⟨I',H0,L',hI1,hJc,by simpa using hs1⟩⟩
    · obtain ⟨c,H0,L',hJc,hI1,rfl,hnd,hdj⟩:=hJ
      have hs1:=hs.join2 hnd hdj
      exact ⟨v,rfl,.inr ⟨c,pre,I',H0,L',hI1,hpre,hJc,by simpa using hs1⟩⟩
end
section
variable {α:Type} {P:Program} {N:Nat} {g:World} {H:Qt} {Q:Exit→Act→World→Prop} {gop:Operand} {p:Nat} {assign body:Code} {f:FuncId} {cap:List Value} {rel:Value→α→Qt→Prop} {xs:List α} {E:Env} {I:Qt} {L:Loc}
theorem zcL {ms:List Nat}(Jc:List α→Qt→Qt→Loc→Prop)(Jx:Code→List α→Qt→Qt→Loc→Prop)(Ja:List α→α→Env→Qt→Qt→Loc→Prop)
  (hm:∀ pre I1 I2 H' L',HLe I1 I2→Jc pre I1 H' L'→Jc pre I2 H' L')(hg:QE [] E gop=some (.func (.func f) #[] cap.toArray))(hF:Fun P f){Lb:Loc}(hst:∀ p∈Lb,p∈L)(hseq:zem P f cap I Lb rel xs)(hp:Nat.blt p N=true)(h0:Jc [] I H L)
  (hass:∀ l Z pre x v I' H' L',pre++[x]<+:xs→HLe I I'→rel v x I'→Jc pre I' H' L'→X ⟨P,some l,N,[],g,H'⟩ (Exit.then (Met ⟨P,some l,N,[],g,H'⟩ fun E2 I2 loc2=>HLe I' I2∧∃ L2,loc2=L2++Z∧Ja pre x E2 I2 H' L2) (fun _ _ _=>False)) assign ((p,v)::E) I' (L'++Z))
  (hbody:∀ l Z pre x E2 I2 H2 L2,(∃ r0,(l,Obj.loop r0)∈Z)→pre++[x]<+:xs→HLe I I2→Ja pre x E2 I2 H2 L2→X ⟨P,some l,N,[],g,H2⟩ (ziN g Z (fun q I3 H3 L3=>HLe I2 I3∧Jc q I3 H3 L3) (fun c q I3 H3 L3=>HLe I2 I3∧Jx c q I3 H3 L3) (pre++[x])) body E2 I2 (L2++Z))
  (hdone:∀ bd I' H' L',HLe I I'→Jc xs I' H' L'→At ⟨P,none,N,mk (bd::ms),g,H'⟩ Q .normal E I' (L'++MB (bd::ms)))
  (hstop:∀ c bd pre I' H' L',HLe I I'→pre<+:xs→Jx c pre I' H' L'→X ⟨P,none,N,mk (bd::ms),g,H'⟩ Q c E I' (L'++MB (bd::ms))):
  X ⟨P,none,N,mk ms,g,H⟩ Q (.rangeFunc gop #[p] assign body) E I (L++MB ms):=by
 intro a w ha hw
 refine wpIn_rangeFunc fun fn _=>?_
 have hen:=run_enterLoop_outer (P:=P) (w:=w) fn a.tmps #[p] assign body
 generalize hbd:w.heap.size=bd at hen
 let rc:=zuD fn a.tmps p assign body bd
 have hw1:St g I H ((bd+1,rc .ready none)::(bd,.deferred (some []))::(L++MB ms)) ((w.alloc (.deferred (some []))).alloc (rc .ready none)):=by
  have h1:=hw.alloc (.deferred (some []))
  have h2:=h1.alloc (rc .ready none)
  rw [World.size_alloc,hbd] at h2
  exact h2
 have hw2:St g I H (L++((bd+1,rc .ready none)::MB (bd::ms))) ((w.alloc (.deferred (some []))).alloc (rc .ready none)):=hw1.permL (by
  have e:L++((bd+1,rc .ready none)::MB (bd::ms))=(L++(bd+1,rc .ready none)::MB ms)++[(bd,.deferred (some []))]:=by simp [MB]
  rw [e]
  refine List.perm_append_comm.trans ?_
  have h1:(L++(bd+1,rc .ready none)::MB ms).Perm ((bd+1,rc .ready none)::(L++MB ms)):=List.perm_middle
  exact (h1.cons _).trans (List.Perm.swap ..))
 have hev:=Qh (S:=[]) ha trivial rfl hg
 refine ⟨bd+1,[{target:=.collected bd,args:= #[]}],_,{target:=.fn (.func f) cap.toArray,args:= #[.func (.yield (bd+1)) #[] #[]]},(w.alloc (.deferred (some []))).alloc (rc .ready none),f,((.func (.yield (bd+1)) #[] #[]:Value)::cap).toArray,(w.alloc (.deferred (some []))).alloc (rc .ready none),hen,?_,fun _ _=>trivial,?_,by simp [FR],Wv.2 ?_⟩
 ·
  have e2:a.eval (.const (.func (.yield (bd+1)) #[] #[]))= .func (.yield (bd+1)) #[] #[]:=rfl
  simp only [resolve,List.map_toArray,List.map_cons,List.map_nil,e2,hev,Deferred.ofValue]
  rfl
 ·
  simp only [invoke,JJ hF]
  simp
 have hfit:∀ v,KP N [] ((p,v)::E) {tmps:=a.tmps.setIfInBounds p v,defers:=[]}:=fun v=>by
  have h1:=ha.put hp v
  exact ⟨h1.size,rfl,h1.env⟩
 refine (zlP (l:=bd+1) (df:=bd) Jc Jx Ja hm hst hseq hfit h0 hass hbody hw2).mono ?_
 rintro e w' ⟨v,rfl,⟨I',H',L',hI,hJ,hs⟩ | ⟨c,pre,I',H',L',hI,hpre,hJ,hs⟩⟩
 ·
  have hrec:w'.heap[bd+1]? =some (rc .ready none):=hs.own _ _ (by simp [rc])
  have hs2:=hs.putObj (o':=rc .exhausted none) (b:=bd+1) (Qu .here)
  refine ⟨none,_,run_endLoop (P:=P) hrec (by simp),?_⟩
  refine hdone bd I' H' L' hI hJ _ _ ⟨ha.size,by simp [ha.defers,mk],ha.env⟩ ?_
  exact hs2.subL (zct (.drop .refl))
 ·
  have hrec:w'.heap[bd+1]? =some (rc .done (some c)):=hs.own _ _ (by simp [rc])
  have hs2:=hs.putObj (o':=rc .exhausted (some c)) (b:=bd+1) (Qu .here)
  refine ⟨some c,_,run_endLoop (P:=P) hrec (by simp),?_⟩
  refine hstop c bd pre I' H' L' hI hpre hJ _ _ ⟨ha.size,by simp [ha.defers,mk],ha.env⟩ ?_
  exact hs2.subL (zct (.drop .refl))
end
end
end Go.Kn
namespace Go.Proofs.YtjblkbkmblkgoaaGreat
section
open Go Go.Kn Go.Proofs
structure zdG (I:Qt)(a:Option Addr)(m c:Nat)(qs D:List Pk):Prop where
 sl:Sl I 3 Zz a m c qs
 pk:∀ q∈qs,PkM I q
 dat:qs.map Vv=D
theorem zdG.mono {I I':Qt}{a:Option Addr}{m c:Nat}{qs D:List Pk}(h:zdG I a m c qs D)(hI:HLe I I'):zdG I' a m c qs D:=⟨h.sl.mono hI,fun q hq=>(h.pk q hq).mono hI,h.dat⟩
theorem zdG.len {I:Qt}{a:Option Addr}{m c:Nat}{qs D:List Pk}(h:zdG I a m c qs D):m=D.length:=by
 rw [←h.dat,List.length_map];exact h.sl.len.symm
def zwi (v:Value)(x:Pk)(I:Qt):Prop:=∃ y:Pk,v=Xk y∧PkM I y∧Vv y=x
theorem ze0 {qs:List Pk}{ks:List (Int×Int)}(h:Uq qs ks=0):qs.length≤4096∧(∀ p∈qs,pkV p=true)∧zfr [] ks=true:=by
 unfold Uq at h
 split at h
 ·
  cases h
 ·
  rename_i h1
  split at h
  ·
   rename_i h2
   rw [Bool.not_eq_true,Bool.or_eq_false_iff,List.any_eq_false] at h1
   have h3:=h1.1
   simp only [decide_eq_false_iff_not] at h3
   exact ⟨by omega,fun p hp=>by simpa using h1.2 p hp,h2⟩
  ·
   cases h
theorem zne {qs l:List Pk}{ks:List (Int×Int)}(h:Uq qs ks=0)(hv:∀ p∈l,pkV p=true)(hl:qs.length+l.length≤4096):Uq (qs++l) ks=0:=by
 obtain ⟨h1,h2,h3⟩:=ze0 h
 unfold Uq
 rw [h3,if_pos rfl,if_neg]
 rw [Bool.not_eq_true,Bool.or_eq_false_iff,List.any_eq_false]
 refine ⟨by rw [List.length_append];simp only [decide_eq_false_iff_not];omega,fun p hp=>?_⟩
 rcases List.mem_append.1 hp with hp | hp
 ·
  simp [h2 p hp]
 ·
  simp [hv p hp]
theorem znc {I:Qt}{a:Option Addr}{m c:Nat}{qs D pre xs:List Pk}{ks:List (Int×Int)}{x y:Pk}(h:zdG I a m c qs (D++pre))(hok:Uq D ks=0)(hv:∀ p∈xs,pkV p=true)(hl:D.length+xs.length≤4096)(hpre:pre++[x]<+:xs)(hy:PkM I y)(e:Vv y=x):Up qs ks y=0:=by
 have hle:=hpre.length_le
 rw [List.length_append,List.length_singleton] at hle
 have hmem:∀ p∈pre++[x],p∈xs:=fun p hp=>hpre.subset hp
 have h1:Uq (D++pre) ks=0:=zne hok (fun p hp=>hv p (hmem p (List.mem_append_left _ hp))) (by omega)
 have h2:pkV x=true:=hv x (hmem x (by simp))
 rw [←zez h.pk ks hy,h.dat,e]
 refine zqi (by rw [h1,h2];rfl) ?_
 rw [List.length_append]
 simp only [beq_eq_false_iff_ne,ne_eq];omega
theorem zdG.snoc {I I':Qt}{a b:Option Addr}{m c n d:Nat}{qs D pre:List Pk}{x y:Pk}(h:zdG I a m c qs (D++pre))(hI:HLe I I')(hS:Sl I' 3 Zz b n d (qs++[y]))(hy:PkM I' y)(e:Vv y=x):zdG I' b n d (qs++[y]) (D++(pre++[x])):=
 ⟨hS,fun q hq=>by
  rcases List.mem_append.1 hq with hq | hq
  ·
   exact (h.pk q hq).mono hI
  ·
   rw [List.mem_singleton] at hq;subst hq;exact hy,by rw [List.map_append,h.dat,List.map_singleton,e,List.append_assoc]⟩
end
section
open Go Go.Kn Go.Proofs
theorem Kg:ScT Tryz.prog 105:=.of (by kernel_rfl)
theorem zpT {I:Qt}{bc:Nat}{pa qa aa:Option Addr}{pn pc qn qc an ac:Nat}{qs D xs:List Pk}{ks:List (Int×Int)}(hS:zdG I qa qn qc qs D)(hA:Sl I 2 KY aa an ac ks)(han:an≤100000){f:Nat}{cap:List Value}(hF:Fun Tryz.prog f)(hseq:zem Tryz.prog f cap I [(bc,.cells #[.slice pa pn pc,.slice qa qn qc,.slice aa an ac] 108 (0,0))] zwi xs)(hok:Uq D ks=0)(hv:∀ p∈xs,pkV p=true)(hl:D.length+xs.length≤4096):Vl Tryz.prog 110 [Zw bc,.func (.func f) #[] cap.toArray] I [(bc,.cells #[.slice pa pn pc,.slice qa qn qc,.slice aa an ac] 108 (0,0))] (fun v I' L'=>v= .tuple #[]∧∃ a m c qs2,L'=[(bc,.cells #[.slice pa pn pc,.slice a m c,.slice aa an ac] 108 (0,0))]∧zdG I' a m c qs2 (D++xs)):=by
 intro g H w hw
 refine zmf Tryz.func110 rfl Tryz.ntmps110 rfl hw ?_
 have hIc:=zzm I
 refine zR ?_
 refine QR rfl rfl rfl (fun b_2=>?_)
 refine Qb ?_
 refine QH .here (fun I1 hI1 hb1=>?_)
 have hS:=hS.mono hI1;have hA:=hA.mono hI1;have hIc:=hIc.trans hI1
 have h2:=BxI.of hb1
 refine Qd (zR (zM (zN (Qw ?_))))
 refine zcL (ms:=[]) (rel:=zwi) (L:=[(bc,.cells #[.slice pa pn pc,.slice qa qn qc,.slice aa an ac] 108 (0,0))]) (fun pre I' H' L'=>∃ (a:Option Addr) (m c:Nat) (qs2:List Pk),L'=[(bc,.cells #[.slice pa pn pc,.slice a m c,.slice aa an ac] 108 (0,0))]∧H'=H∧HLe I1 I'∧zdG I' a m c qs2 (D++pre)) (fun _ _ _ _ _=>False) (fun pre x E2 I2 H2 L2=>∃ (y:Pk) (b4:Nat) (a:Option Addr) (m c:Nat) (qs2:List Pk),E2=[(2,Zw b_2),(4,Zw b4)]∧L2=[(b4,.cells (Zz y).toArray 99 (0,0)),(bc,.cells #[.slice pa pn pc,.slice a m c,.slice aa an ac] 108 (0,0))]∧H2=H∧HLe I1 I2∧PkM I2 y∧Vv y=x∧zdG I2 a m c qs2 (D++pre)) (fun pre I1 I2 H' L' h12 ⟨a,m,c,qs2,e1,e2,e3,e4⟩=>⟨a,m,c,qs2,e1,e2,e3.trans h12,e4.mono h12⟩) rfl hF (fun p hp=>hp) (hseq.mono hIc) rfl ⟨_,_,_,qs,rfl,rfl,zzm _,by rw [List.append_nil];exact hS⟩ ?_ ?_ ?_ ?_
 ·
  rintro l9 Z pre x v0 I1 H1 L1 hpre hI1 ⟨y,rfl,hyM,hyD⟩ ⟨a,m,c,qs2,rfl,rfl,hI01,hQ⟩
  refine Qi ?_
  refine Qq zcd rfl rfl (fun b_4=>?_)
  refine zh JD ?_
  refine Qb ?_
  exact Wj _ ⟨zzm _,_,rfl,y,b_4,a,m,c,qs2,rfl,rfl,rfl,hI01,hyM,hyD,hQ⟩ (.cons rfl (.cons rfl .nil))
 ·
  rintro l9 Z pre x E2 I2 H2 L2 hl9 hpre hI2 ⟨y,b4,a,m,c,qs2,rfl,rfl,rfl,hI02,hyM,hyD,hQ⟩
  have hA:=hA.mono hI02;have h2:=h2.mono hI02
  have hz:=znc hQ hok hv hl hpre hyM hyD
  have hle:=hpre.length_le
  have hml:=hQ.len
  rw [List.length_append,List.length_singleton] at hle
  rw [List.length_append] at hml
  have hC:=zzm I2
  refine Qw (Qm ?_)
  have hD:=zzm I2
  refine Zt ?_
  refine QQ I2 [(b4,.cells (Zz y).toArray 99 (0,0)),(bc,.cells #[.slice pa pn pc,.slice a m c,.slice aa an ac] 108 (0,0))] mixed ?_
  refine zT 0 rfl (Qc rfl Kg (fun hg=>by exact QA.imm h2.out rfl)) hD ?_
  refine zT 1 rfl (QI rfl) hD ?_
  refine zT 2 rfl (Qa rfl Yd) hD ?_
  refine zT 3 rfl (Qa rfl YS) hD ?_
  refine zT 4 rfl (Qg rfl ZM (fun hg=>by exact Cells.s1 (vs:=[_,_]) rfl) rfl) hD ?_
  refine zT 5 rfl (Qg rfl VT (fun hg=>by exact Cells.g0) rfl) hD ?_
  refine QW 6 10 rfl rfl (by kernel_rfl) ?_ ?_
  ·
   refine zpc [_,_] rfl zf3 .nil (zkQ hQ.sl (by omega) hA han y) ?_
   rintro vv2 I2 L2 hI2 ⟨a6,m6,c6,a7,m7,c7,rfl,rfl,hN,hm⟩
   have hQ:=hQ.mono hI2;have h2:=h2.mono hI2;have hyM:=hyM.mono hI2;have hI02:=hI02.trans hI2;have hC:=hC.trans hI2;have hD:=hD.trans hI2
   refine Qb ?_
   refine zD hD ?_
   refine zT 7 rfl (Qf rfl) hD ?_
   refine zT 8 rfl (Q2 rfl rfl) hD ?_
   refine zT 9 rfl (Q2 rfl rfl) hD ?_
   refine qd 10 rfl ?_
   refine Qq UI rfl rfl (fun b_5=>?_)
   refine Qb ?_
   refine zD hD ?_
   refine qd 11 rfl ?_
   refine zh Yp ?_
   refine Qb ?_
   refine zD hD ?_
   refine zT 12 rfl (QC rfl) hD ?_
   refine Qn (by kernel_rfl) ?_
   refine Qx ?_
   refine Qd (zR (zM ?_))
   refine zC ?_
   refine zM ?_
   refine zpc [_,_] rfl Kc .nil ((UR I2 (Up qs2 ks y==0) (Up qs2 ks y)).m (fun v hv=>by have h9:=hv.2;simp [hz] at h9)) ?_
   rintro vv3 I3 L3 hI3 ⟨rfl,rfl,rfl,_⟩
   have hQ:=hQ.mono hI3;have h2:=h2.mono hI3;have hyM:=hyM.mono hI3;have hN:=hN.mono hI3;have hI02:=hI02.trans hI3;have hC:=hC.trans hI3
   obtain ⟨e7,e8,e9,hS9⟩:=hN.ok hz
   subst a7 m7 c7
   have hQ3:=zdG.snoc hQ (zzm _) hS9 hyM hyD
   refine zN (Qi ?_)
   refine zV (Qc rfl Kg (fun hg=>by exact QA.imm h2.out rfl)) ?_
   refine zV (Qg rfl ZM (fun hg=>by exact Cells.g0) rfl) ?_
   refine zV (QI rfl) ?_
   refine zF Yd ?_
   refine zF YS ?_
   refine Y4 rfl rfl Yp rfl rfl rfl rfl (by repeat (first | exact Upd.here | apply Upd.there | apply Qu)) ?_
   refine Qb (Qk ?_)
   exact zeD (L:=[(bc,.cells #[.slice pa pn pc,.slice _ _ _,.slice aa an ac] 108 (0,0))]) ⟨hC,_,_,_,_,rfl,rfl,hI02,hQ3⟩ (by repeat (first | exact .refl | refine .keep ?_ | refine .drop ?_))
  refine Qq UI rfl rfl (fun b_5=>?_)
  refine Qb ?_
  refine zD hD ?_
  refine qd 6 rfl ?_
  refine zpc [_,_] rfl zf3 .nil (zkQ hQ.sl (by omega) hA han y) ?_
  rintro vv4 I4 L4 hI4 ⟨a6,m6,c6,a7,m7,c7,rfl,rfl,hN,hm⟩
  have hQ:=hQ.mono hI4;have h2:=h2.mono hI4;have hyM:=hyM.mono hI4;have hI02:=hI02.trans hI4;have hC:=hC.trans hI4;have hD:=hD.trans hI4
  refine Qb ?_
  refine zD hD ?_
  refine zT 7 rfl (Qf rfl) hD ?_
  refine zT 8 rfl (Q2 rfl rfl) hD ?_
  refine zT 9 rfl (Q2 rfl rfl) hD ?_
  refine qd 11 rfl ?_
  refine zh Yp ?_
  refine Qb ?_
  refine zD hD ?_
  refine zT 12 rfl (QC rfl) hD ?_
  refine Qn (by kernel_rfl) ?_
  refine Qx ?_
  refine Qd (zR (zM ?_))
  refine zC ?_
  refine zM ?_
  refine zpc [_,_] rfl Kc .nil ((UR I4 (Up qs2 ks y==0) (Up qs2 ks y)).m (fun v hv=>by have h9:=hv.2;simp [hz] at h9)) ?_
  rintro vv5 I5 L5 hI5 ⟨rfl,rfl,rfl,_⟩
  have hQ:=hQ.mono hI5;have h2:=h2.mono hI5;have hyM:=hyM.mono hI5;have hN:=hN.mono hI5;have hI02:=hI02.trans hI5;have hC:=hC.trans hI5
  obtain ⟨e7,e8,e9,hS9⟩:=hN.ok hz
  subst a7 m7 c7
  have hQ3:=zdG.snoc hQ (zzm _) hS9 hyM hyD
  refine zN (Qi ?_)
  refine zV (Qc rfl Kg (fun hg=>by exact QA.imm h2.out rfl)) ?_
  refine zV (Qg rfl ZM (fun hg=>by exact Cells.g0) rfl) ?_
  refine zV (QI rfl) ?_
  refine zF Yd ?_
  refine zF YS ?_
  refine Y4 rfl rfl Yp rfl rfl rfl rfl (by repeat (first | exact Upd.here | apply Upd.there | apply Qu)) ?_
  refine Qb (Qk ?_)
  exact zeD (L:=[(bc,.cells #[.slice pa pn pc,.slice _ _ _,.slice aa an ac] 108 (0,0))]) ⟨hC,_,_,_,_,rfl,rfl,hI02,hQ3⟩ (by repeat (first | exact .refl | refine .keep ?_ | refine .drop ?_))
 ·
  rintro bd I1 H1 L1 hI1 ⟨a,m,c,qs2,rfl,rfl,hI01,hQ⟩
  have hIc:=hIc.trans hI1
  refine Qk ?_
  exact zhp (L:=[(bc,.cells #[.slice pa pn pc,.slice _ _ _,.slice aa an ac] 108 (0,0))]) (ms:=[bd]) (fun a ha w hw=>zyS rfl a w) (fun w hw=>⟨_,I1,_,rfl,hIc,hw,rfl,_,_,_,_,rfl,hQ⟩)
 rintro cd bd pre I1 H1 L1 hI1 hpre hF;exact hF.elim
end
section
open Go Go.Kn Go.Proofs
theorem zeL {k:Nat}{i:Int}{t:Nt}(h:(k:Int)=i):Kd (k+1) i t=Kd k i t:=by
 unfold Kd
 rw [List.range_succ,List.filter_append,List.map_append]
 simp [h]
theorem zbH {k:Nat}{i:Int}{t:Nt}(h:(k:Int)≠i):Kd (k+1) i t=Kd k i t++[pkN i k t]:=by
 unfold Kd
 rw [List.range_succ,List.filter_append,List.map_append]
 simp [h]
theorem zgL (i : Int) (t : Nt) : ∀ {m k : Nat}, k ≤ m → Kd k i t <+: Kd m i t
  | 0, k, h => by obtain rfl : k = 0 := by omega
                  exact List.prefix_rfl
  | m + 1, k, h => by
    by_cases e : k = m + 1
    · subst e; exact List.prefix_rfl
    · have h1 := zgL i t (m := m) (k := k) (by omega)
      by_cases hi : (m : Int) = i
      · rw [zeL hi]; exact h1
      · rw [zbH hi]; exact h1.trans (List.prefix_append ..)
theorem zep {k m:Nat}{i:Int}{t:Nt}(h:(k:Int)≠i)(hk:k<m):Kd k i t++[pkN i k t]<+:Kd m i t:=by
 rw [←zbH h];exact zgL i t hk
theorem zkI {I:Qt}{i k:Int}{t:Nt}{b c:Nat}(hok:Va.ok (Kw t))(hS:Sl I 1 VO (some ⟨b,0,none⟩) (zal t).size c (K1 (zal t))):zwi (Xk ⟨i,k,some ⟨b,0,none⟩,(zal t).size,c,V5 t⟩) (pkN i k t) I:=by
 have e:K1 (zal t)=V5 t:=VS (Uh _ hok)
 rw [e] at hS
 exact ⟨_,rfl,⟨hS,Uh _ hok⟩,rfl⟩
theorem zgq {α β:Type}(f:α→β){l:List α}{k:Nat}{x:α}(h:l[k]? =some x):(l.take k).map f++[f x]<+:l.map f:=by
 have h1:(l.take k).map f++[f x]=(l.take (k+1)).map f:=by rw [Zh h,List.map_append];rfl
 rw [h1]
 exact (List.take_prefix _ _).map f
end
end Go.Proofs.YtjblkbkmblkgoaaGreat
namespace Go.Kn
section
open Go
section
variable {g:World} {H H':Qt} {P:Program} {r:Option Nat} {N:Nat} {D:List Deferred} {Q:Exit→Act→World→Prop} {E:Env} {I:Qt} {b:Nat} {o:Obj} {e:Exit}
theorem zeG (hb:H b=some o)(h:At ⟨P,r,N,D,g,H⟩ Q e E I []):At ⟨P,r,N,D,g,znr H b⟩ Q e E I [(b,o)]:=fun a w ha hw=>by
 have h1:St g I (JM (znr H b) [(b,o)]) [] w:=St.hide hw
 rw [zke hb] at h1
 exact h a w ha h1
end
section
variable {C:Cx} {Q:Exit→Act→World→Prop} {E E':Env} {I I' I0:Qt} {loc loc' loc0 L R:Loc} {ops:Array Oper} {rest:List Oper} {S:GS}
variable {d:Nat} {ty:TypeId} {pos:String} {af:Array Edge}
def zt2 (g:World)(I0:Qt)(loc0:Loc):World→Prop:=fun w=>∃ H,St g I0 H loc0 w
def XH (C:Cx)(Q:Exit→Act→World→Prop)(ops:Array Oper)(I0:Qt)(loc0:Loc)(fuel:Nat)(listed:Array Bool)(S:GS)(E:Env)(I:Qt)(loc:Loc):Prop:=
 ∀ a w,KP C.N C.D E a→Ke S a→St C.g I C.H loc w→YX C.r C.P .any ops Q (zt2 C.g I0 loc0) fuel listed a w
theorem zaq {id:Nat}{l:List Oper}(I0:Qt)(loc0:Loc)(hm:C.P.follows .mixedOrders=true)(h:XH C Q l.toArray I0 loc0 l.length (Array.replicate l.length false) [] E I loc):X C Q (.region id l.toArray true) E I loc:=fun a w ha hw=>
 wpIn_region_any hm (UL _ _ _ _ (by simpa using h a _ ha trivial hw.drew))
theorem zqX (i:Nat){oi:Oper}{d:Nat}{v:Value}{fuel:Nat}{listed:Array Bool}(hi:ops[i]? =some oi)(hv:∀ H,QV {C with H:=H} S E I0 loc0 oi v)(hG:Zk ops S E oi)(hd:oi.dst=some d)(hN:Nat.blt d C.N=true)(hf:Z5 S E d=true)
  (hs:Region.noSelect ops=true)(hfr:Region.free .any ops listed i=true)(hr:(Region.ready .any ops listed).contains i=true)(hQ:Yb Q)(hI:HLe I0 I)(hl:JQ loc0 loc)
  (h:XH C Q ops I0 loc0 fuel (listed.setIfInBounds i true) (zdy S E d v) (zcK S E d v) I loc):XH C Q ops I0 loc0 (fuel+1) listed S E I loc:=by
 intro a w ha hg hw
 have hp:=Yv ha hg hN hf v
 refine YV (v:=bif Yf S then v else undef) hi (hv C.H).1 (Region.noSelect_spec hs) (fun c a w=>by rw [hd];exact hQ c a d _ w) fuel listed a w (Region.free_spec hi hfr) (by simpa using hr) ?_ ⟨C.H,(hw.mono hI).subL hl⟩ (by rw [hd];exact h _ _ hp.1 hp.2 hw)
 have hwt:=hG.wanted ha hg
 cases hc:Yf S with
 | true=>exact .inl ⟨by rw [hwt,hc],fun w' ⟨H,hw'⟩=>(hv H).2 a w' ha hg hc hw'⟩
 | false=>exact .inr ⟨by rw [hwt,hc],rfl⟩
theorem zx1 (i:Nat){oi:Oper}{d:Nat}{v:Value}{fuel:Nat}{listed:Array Bool}(hi:ops[i]? =some oi)(hv:∀ H,QV {C with H:=H} S E I0 loc0 oi v)(hI:HLe I0 I)(h:XH C Q ops I0 loc0 fuel (listed.setIfInBounds i true) (zdy S E d v) (zcK S E d v) I loc)(hG:Zk ops S E oi:=by exact .none rfl)(hd:oi.dst=some d:=by exact rfl)(hN:Nat.blt d C.N=true:=by exact rfl)(hf:Z5 S E d=true:=by exact rfl)
  (hs:Region.noSelect ops=true:=by kernel_rfl)(hfr:Region.free .any ops listed i=true:=by kernel_rfl)(hr:(Region.ready .any ops listed).contains i=true:=by kernel_rfl)(hQ:Yb Q:=by first | exact JE | (repeat (first | exact Ue | with_reducible refine Ua ?_ | with_reducible refine J0 ?_)))(hl:JQ loc0 loc:=by repeat (first | exact .refl | exact QB | refine .keep ?_ | refine .drop ?_ | refine QO ?_)):XH C Q ops I0 loc0 (fuel+1) listed S E I loc:=zqX i hi hv hG hd hN hf hs hfr hr hQ hI hl h
theorem zoq (i:Nat){v:Value}{fuel j dj:Nat}{want:Bool}{oj:Oper}{listed:Array Bool}{op:Op}(hi:ops[i]? =some ⟨some d,op,ty,pos,af,some (j,want)⟩)(hj:ops[j]? =some oj)(hd:oj.dst=some dj)(hlk:Vu E dj=some (.bool want))
  (hv:∀ H,QV {C with H:=H} [] E I0 loc0 ⟨some d,op,ty,pos,af,none⟩ v)(hN:Nat.blt d C.N=true)
  (hs:Region.noSelect ops=true)(hfr:Region.free .any ops listed i=true)(hr:(Region.ready .any ops listed).contains i=true)(hQ:Yb Q)(hI:HLe I0 I)(hl:JQ loc0 loc)
  (h:XH C Q ops I0 loc0 fuel (listed.setIfInBounds i true) [] ((d,v)::E) I loc):XH C Q ops I0 loc0 (fuel+1) listed [] E I loc:=by
 intro a w ha hg hw
 have hp:=ha.put hN v
 refine YV (v:=v) hi (fun c e=>(hv C.H).1 c e) (Region.noSelect_spec hs) (fun c a w=>hQ c a d _ w) fuel listed a w (Region.free_spec hi hfr) (by simpa using hr) ?_ ⟨C.H,(hw.mono hI).subL hl⟩ (h _ _ hp trivial hw)
 have hG:Zk ops [(true,[])] E ⟨some d,op,ty,pos,af,some (j,want)⟩:=.some rfl hj hd (by simpa [Uc,zd6] using hlk) (by simp)
 have hwt:=hG.wanted ha (show Ke [(true,[])] a from ⟨(fun _ _ e=>by cases e),trivial⟩)
 exact .inl ⟨by rw [hwt];rfl,fun w' ⟨H,hw'⟩=>(hv H).2 a w' ha trivial rfl hw'⟩
theorem zx2 (i dj:Nat){d:Nat}{v:Value}{fuel j:Nat}{want:Bool}{oj:Oper}{listed:Array Bool}{op:Op}(hi:ops[i]? =some ⟨some d,op,ty,pos,af,some (j,want)⟩)(hv:∀ H,QV {C with H:=H} [] E I0 loc0 ⟨some d,op,ty,pos,af,none⟩ v)(hI:HLe I0 I)(h:XH C Q ops I0 loc0 fuel (listed.setIfInBounds i true) [] ((d,v)::E) I loc)(hj:ops[j]? =some oj:=by exact rfl)(hd:oj.dst=some dj:=by exact rfl)(hlk:Vu E dj=some (.bool want):=by exact rfl)(hN:Nat.blt d C.N=true:=by exact rfl)
  (hs:Region.noSelect ops=true:=by kernel_rfl)(hfr:Region.free .any ops listed i=true:=by kernel_rfl)(hr:(Region.ready .any ops listed).contains i=true:=by kernel_rfl)(hQ:Yb Q:=by first | exact JE | (repeat (first | exact Ue | with_reducible refine Ua ?_ | with_reducible refine J0 ?_)))(hl:JQ loc0 loc:=by repeat (first | exact .refl | exact QB | refine .keep ?_ | refine .drop ?_ | refine QO ?_)):XH C Q ops I0 loc0 (fuel+1) listed [] E I loc:=zoq i hi hj hd hlk hv hN hs hfr hr hQ hI hl h
theorem znV (i:Nat){j dj fuel:Nat}{want:Bool}{oj:Oper}{listed:Array Bool}{op:Op}{u:Value}(hi:ops[i]? =some ⟨some d,op,ty,pos,af,some (j,want)⟩)(hj:ops[j]? =some oj)(hd:oj.dst=some dj)(hlk:Vu E dj=some u)(hu:zia u want=true)
  (hdf:∀ c,op≠ .defer c)(hN:Nat.blt d C.N=true)
  (hs:Region.noSelect ops=true)(hfr:Region.free .any ops listed i=true)(hr:(Region.ready .any ops listed).contains i=true)(hQ:Yb Q)(hI:HLe I0 I)(hl:JQ loc0 loc)
  (h:XH C Q ops I0 loc0 fuel (listed.setIfInBounds i true) [] ((d,undef)::E) I loc):XH C Q ops I0 loc0 (fuel+1) listed [] E I loc:=by
 intro a w ha hg hw
 have hp:=ha.put hN undef
 refine YV (v:=undef) hi hdf (Region.noSelect_spec hs) (fun c a w=>hQ c a d _ w) fuel listed a w (Region.free_spec hi hfr) (by simpa using hr) ?_ ⟨C.H,(hw.mono hI).subL hl⟩ (h _ _ hp trivial hw)
 exact .inr ⟨by rw [zbN (o:=⟨some d,op,ty,pos,af,some (j,want)⟩) rfl hj hd ha hlk hu],rfl⟩
theorem zx3 (i dj:Nat){d j fuel:Nat}{want:Bool}{oj:Oper}{listed:Array Bool}{op:Op}{u:Value}(hI:HLe I0 I)(h:XH C Q ops I0 loc0 fuel (listed.setIfInBounds i true) [] ((d,undef)::E) I loc)(hi:ops[i]? =some ⟨some d,op,ty,pos,af,some (j,want)⟩:=by exact rfl)(hj:ops[j]? =some oj:=by exact rfl)(hd:oj.dst=some dj:=by exact rfl)(hlk:Vu E dj=some u:=by exact rfl)(hu:zia u want=true:=by exact rfl)
  (hdf:∀ c,op≠ .defer c:=by (intro c e;cases e))(hN:Nat.blt d C.N=true:=by exact rfl)(hs:Region.noSelect ops=true:=by kernel_rfl)(hfr:Region.free .any ops listed i=true:=by kernel_rfl)(hr:(Region.ready .any ops listed).contains i=true:=by kernel_rfl)(hQ:Yb Q:=by first | exact JE | (repeat (first | exact Ue | with_reducible refine Ua ?_ | with_reducible refine J0 ?_)))(hl:JQ loc0 loc:=by repeat (first | exact .refl | exact QB | refine .keep ?_ | refine .drop ?_ | refine QO ?_)):XH C Q ops I0 loc0 (fuel+1) listed [] E I loc:=znV i hi hj hd hlk hu hdf hN hs hfr hr hQ hI hl h
theorem zcr (i:Nat){oi:Oper}{fuel:Nat}{listed:Array Bool}(hi:ops[i]? =some oi)(hr:Region.ready .any ops listed=[i])
  (h:XO C (fun e a w=>match e with | .normal=>zt2 C.g I0 loc0 w∧YX C.r C.P .any ops Q (zt2 C.g I0 loc0) fuel (listed.setIfInBounds i true) a w | e=>Q e a w) ops [oi] S E I loc):XH C Q ops I0 loc0 (fuel+1) listed S E I loc:=by
 intro a w ha hg hw
 refine ⟨(fun h0=>by rw [hr] at h0;cases h0),fun j hj=>?_⟩
 rw [hr] at hj
 obtain rfl:=List.mem_singleton.1 hj
 have:=h a w ha hg hw
 simp only [wpListIn] at this
 unfold wpOpIn
 simp only [hi]
 split
 ·
  rename_i hwt
  simp only [hwt,if_true] at this
  unfold Oper.wpIn at*
  refine ⟨fun _ _=>trivial,?_⟩
  have h2:=this.2
  generalize (oi.semAt (FR C.r).round a.eval).run C.P w=q at*
  cases q with
  | ok n w'=>cases n<;>exact h2
  | halt x w'=>cases x<;>exact h2
 ·
  rename_i hwt
  simp only [hwt] at this
  exact this
theorem zil {i fuel:Nat}{listed:Array Bool}(hI:HLe I0 I)(hl:JQ loc0 loc)(h:XH C Q ops I0 loc0 fuel (listed.setIfInBounds i true) [] E I loc):
  At C (fun e a w=>match e with | .normal=>zt2 C.g I0 loc0 w∧YX C.r C.P .any ops Q (zt2 C.g I0 loc0) fuel (listed.setIfInBounds i true) a w | e=>Q e a w) .normal E I loc:=
 fun a w ha hw=>⟨⟨C.H,(hw.mono hI).subL hl⟩,h a w ha trivial hw⟩
theorem zcW {fuel:Nat}{listed:Array Bool}(hr:Region.ready .any ops listed=[])(h:At C Q .normal E I loc):XH C Q ops I0 loc0 fuel listed S E I loc:=fun a w ha hg hw=>by
 cases fuel with
 | zero=>exact ⟨hr,h a w ha hw⟩
 | succ n=>exact ⟨fun _=>h a w ha hw,by rw [hr];simp⟩
end
end
end Go.Kn
