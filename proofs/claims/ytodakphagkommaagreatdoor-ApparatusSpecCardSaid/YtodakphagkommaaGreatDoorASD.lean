/- apparatusSpec_holds, part D of the proof: what its theorems say holds without further conditions. -/
import Derived.Test.YtodakphagkommaaGreatDoorASC
namespace Go.Proofs.YtodakphagkommaaGreatDoor
section
open Go Go.Kn Go.Proofs
theorem VJ:AgT Tryz.prog 52 2:=.of (by kernel_rfl)
theorem Vq:Q3 Tryz.prog 52 0 0:=.of (by kernel_rfl)
theorem Jd:Q3 Tryz.prog 52 1 1:=.of (by kernel_rfl)
theorem Z9:Q3 Tryz.prog 54 0 0:=.of (by kernel_rfl)
theorem VY:Q3 Tryz.prog 54 10 10:=.of (by kernel_rfl)
theorem V1:Q3 Tryz.prog 54 11 12:=.of (by kernel_rfl)
theorem Kt:Q3 Tryz.prog 54 2 2:=.of (by kernel_rfl)
theorem JX:Q3 Tryz.prog 54 3 3:=.of (by kernel_rfl)
theorem zd1:Fun Tryz.prog 142:=.of Tryz.func142 (by kernel_rfl) (by kernel_rfl)
theorem ziQ:Fun Tryz.prog 154:=.of Tryz.func154 (by kernel_rfl) (by kernel_rfl)
theorem Xc:Fun Tryz.prog 192:=.of Tryz.func192 (by kernel_rfl) (by kernel_rfl)
theorem Yj:Fun Tryz.prog 202:=.of Tryz.func202 (by kernel_rfl) (by kernel_rfl)
theorem zjj:Fun Tryz.prog 203:=.of Tryz.func203 (by kernel_rfl) (by kernel_rfl)
theorem zlx:Fun Tryz.prog 237:=.of Tryz.func237 (by kernel_rfl) (by kernel_rfl)
theorem zb2:Fun Tryz.prog 253:=.of Tryz.func253 (by kernel_rfl) (by kernel_rfl)
theorem zrV:Fun Tryz.prog 259:=.of Tryz.func259 (by kernel_rfl) (by kernel_rfl)
theorem zs1:Fun Tryz.prog 260:=.of Tryz.func260 (by kernel_rfl) (by kernel_rfl)
theorem zrm:Fun Tryz.prog 262:=.of Tryz.func262 (by kernel_rfl) (by kernel_rfl)
theorem zrr:Fun Tryz.prog 265:=.of Tryz.func265 (by kernel_rfl) (by kernel_rfl)
theorem Zz:ScT Tryz.prog 186:=.of (by kernel_rfl)
theorem VF:SlT Tryz.prog 48 54 14:=.of (by kernel_rfl)
theorem QT:SzT Tryz.prog 186 1:=.of (by kernel_rfl)
theorem zwf:Yz Tryz.prog 186 (.int .u64 0):=.of (by kernel_rfl)
theorem zhH (I:Qw)(x:Int):Zu Tryz.prog 192 [.int .i64 x] I (.bool false):=by
 intro g H w hw
 refine qe Tryz.func192 Tryz.ntmps192 hw ?_
 refine zR (zA ?_)
 refine zN (zR ?_)
 refine zM ?_
 refine zM ?_
 refine zC ?_
 refine zA (zN (Qs ?_))
 exact zr rfl rfl (by simp)
theorem znN (I:Qw)(x y:Int):Zu Tryz.prog 142 [.int .i64 x,.int .i64 y] I (.int .i64 (zt4 x y)):=by
 intro g H w hw
 refine qe Tryz.func142 Tryz.ntmps142 hw ?_
 refine zR (zA ?_)
 refine zN (zR ?_)
 refine zM ?_
 refine qc (vs:=[_]) rfl Xc (zhH I _) ?_
 refine zA ?_
 refine zN (zR ?_)
 refine zM ?_
 refine qc (vs:=[_]) rfl Xc (zhH I _) ?_
 refine zA (zN (Qk (zR ?_)))
 refine zM (zN ?_)
 refine zI ?_ ?_<;>intro hc11
 ·
  cases hc11
 refine Qo (Qa (Qk (zR (zM (zN ?_)))))
 refine zI ?_ ?_<;>intro hc13
 ·
  cases hc13
 refine Qo (Qa (Qk (zR (zM ?_))))
 refine zM ?_
 refine zC (zN ?_)
 refine zI ?_ ?_<;>intro hc16
 ·
  refine zR (zA (zN (Qs (Qb ?_))))
  exact zr rfl rfl (by unfold zt4;first | (rw [if_pos (by simpa using hc16)]) | (rw [if_neg (by simpa using hc16),if_pos (by simpa using hc19)]) | (rw [if_neg (by simpa using hc16),if_neg (by simpa using hc19)]))
 refine Qo (Qa (Qk (zR (zM ?_))))
 refine zM ?_
 refine zC (zN ?_)
 refine zI ?_ ?_<;>intro hc19
 ·
  refine zR (zA (zN (Qs (Qb ?_))))
  exact zr rfl rfl (by unfold zt4;first | (rw [if_pos (by simpa using hc16)]) | (rw [if_neg (by simpa using hc16),if_pos (by simpa using hc19)]) | (rw [if_neg (by simpa using hc16),if_neg (by simpa using hc19)]))
 refine Qo (Qa (zR (zA (zN (Qs ?_)))))
 exact zr rfl rfl (by unfold zt4;first | (rw [if_pos (by simpa using hc16)]) | (rw [if_neg (by simpa using hc16),if_pos (by simpa using hc19)]) | (rw [if_neg (by simpa using hc16),if_neg (by simpa using hc19)]))
theorem zy6 (I:Qw)(n:Int)(hn: -1073741824≤n∧n≤1073741824):Zu Tryz.prog 260 [.int .i64 n] I (.int .u64 (zhN n)):=by
 intro g H w hw
 refine qe Tryz.func260 Tryz.ntmps260 hw ?_
 refine zR (zA (zN (Qk (zR ?_))))
 refine zM ?_
 refine zC (zN ?_)
 refine zI ?_ ?_<;>intro hc4
 ·
  refine zR (zM ?_)
  refine zV (Ky rfl KX) ?_
  refine zV (zj4 rfl) ?_
  refine zA (zN (Qs (Qb ?_)))
  exact zr rfl rfl (by rw [ztp hn (by simpa using hc4)])
 refine Qo (Qa (zR (zM ?_)))
 refine zV (Ky rfl KX) ?_
 refine zA (zN (Qs ?_))
 exact zr rfl rfl (by rw [zr6 hn (by simpa using hc4)])
theorem zyA (I:Qw)(a b:Int):Z4 Tryz.prog 262 [.int .u64 a,.int .u64 b] I [] (fun v I' L=>I'=I∧∃ b1 b2,v= .func (.func 265) #[] [Ze b1,Ze b2].toArray∧L=zv6 186 b1 b2 a b):=by
 intro g H w hw
 refine qe Tryz.func262 Tryz.ntmps262 hw ?_
 refine zR ?_
 refine Q9 rfl rfl rfl (fun b_2=>?_)
 refine Q9 rfl rfl rfl (fun b_3=>?_)
 refine zA ?_
 refine zN (zR ?_)
 refine zV (Zf (us:=[]) (vs:=[_,_]) rfl rfl) ?_
 refine zA (zN (Qs ?_))
 exact Zq rfl rfl (fun w hw=>⟨_,I,_,rfl,zAl _,hw,rfl,_,_,rfl,rfl⟩)
theorem znz (I:Qw)(a0 b0:Nat)(b1 b2:Nat)(hb0:0<b0)(ha1:a0≤9223372036854775807)(hb1:b0≤9223372036854775807):zzv Tryz.prog 265 [Ze b1,Ze b2] I (zv6 186 b1 b2 (a0) (b0)) (fun n:Nat=>.int .u64 n) (zcL a0 b0):=by
 intro g l J Jx hY I0 H w h0 hJ hw
 refine qe Tryz.func265 Tryz.ntmps265 hw ?_
 refine Ql ?_
 refine zd9 (fun m E I' H' loc'=>∃ (a b:Nat) (pre:List Nat),m=b∧E=[(0,.func (.yield l) #[] #[]),(1,Ze b1),(2,Ze b2)]∧loc'=zv6 186 b1 b2 (a) (b)∧HLe I0 I'∧J pre I' H'∧zcL a0 b0=pre++zcL a b∧0<b∧a≤9223372036854775807∧b≤9223372036854775807) _ _ _ ⟨a0,b0,[],rfl,rfl,rfl,zAl _,hJ,rfl,hb0,ha1,hb1⟩ (.cons rfl (.cons rfl (.cons rfl .nil))) rfl ?_
 rintro m E I' H' loc' ⟨a,b,pre,hmb,rfl,rfl,hI1,hJk,hrem,hbp,hal,hbl⟩
 subst m
 have hI0:=h0.trans hI1
 refine Qk (zR ?_)
 refine zL Zz ?_
 refine zC ?_
 refine zM ?_
 refine QG 2 rfl rfl rfl ?_
 refine zK (Qh rfl) ?_
 refine zK (Qd rfl Zz (fun hg=>by exact QY.h1 rfl)) ?_
 refine zdI (vs:=[_]) (Post:=fun t I2 H2=>if t then J (pre++[a]) I2 H2 else Jx (pre++[a]) I2 H2) rfl rfl (.some rfl rfl rfl rfl gbt) rfl rfl (fun hcj=>hY pre a _ _ (zjb hrem (by simpa [ZV] using hcj)) hI0 hJk) ?_
 rintro t I2 H2 hI2 hyes hno
 refine QL rfl rfl rfl rfl rfl ?_
 refine zN ?_
 refine zI ?_ ?_<;>intro hc10
 ·
  have ha0:a≠0:=by simp at hc10;exact hc10.1
  have ht:t=true:=by simp at hc10;exact hc10.2
  subst ht
  have hJ1:J (pre++[a]) I2 H2:=hyes (by simp [ZV];exact ha0)
  refine Qo (Qa (Ql (Qk ?_)))
  apply zAb
  ·
   intro key
   have hD:=zAl I2
   refine JH ?_
   refine Z7 I2 [] mixed ?_
   refine Ul 0 1 2 rfl rfl rfl (by kernel_rfl) ?_ ?_ ?_
   ·
    refine zL Zz ?_
    refine Qc ?_
    refine zD hD ?_
    refine Zw 1 2 rfl rfl (by kernel_rfl) ?_ ?_
    ·
     refine zL Zz ?_
     refine Qc ?_
     refine zD hD ?_
     refine Zw 2 5 rfl rfl (by kernel_rfl) ?_ ?_
     ·
      refine zL Zz ?_
      refine Qc ?_
      refine zD hD ?_
      refine Zw 3 5 rfl rfl (by kernel_rfl) ?_ ?_
      ·
       refine zV (Vd rfl rfl) ?_
       refine Qc ?_
       refine zD hD ?_
       refine Zw 4 5 rfl rfl (by kernel_rfl) ?_ ?_
       ·
        refine zV (ZL rfl rfl (fun hg=>by rw [Zj hbp];omega)) ?_
        refine Qc ?_
        refine zD hD ?_
        refine qd 5 rfl ?_
        refine zS QT ?_
        refine Qc ?_
        refine zD hD ?_
        refine qd 6 rfl ?_
        refine zS QT ?_
        refine Qc ?_
        refine zD hD ?_
        refine QK (by kernel_rfl) ?_
        refine QW ?_
        first | exact key.out | exact ZX key
       refine zS QT ?_
       refine Qc ?_
       refine zD hD ?_
       refine qd 4 rfl ?_
       refine zV (ZL rfl rfl (fun hg=>by rw [Zj hbp];omega)) ?_
       refine Qc ?_
       refine zD hD ?_
       refine qd 6 rfl ?_
       refine zS QT ?_
       refine Qc ?_
       refine zD hD ?_
       refine QK (by kernel_rfl) ?_
       refine QW ?_
       first | exact key.out | exact ZX key
      refine zS QT ?_
      refine Qc ?_
      refine zD hD ?_
      refine qd 3 rfl ?_
      refine zV (Vd rfl rfl) ?_
      refine Qc ?_
      refine zD hD ?_
      refine qd 4 rfl ?_
      refine zV (ZL rfl rfl (fun hg=>by rw [Zj hbp];omega)) ?_
      refine Qc ?_
      refine zD hD ?_
      refine qd 6 rfl ?_
      refine zS QT ?_
      refine Qc ?_
      refine zD hD ?_
      refine QK (by kernel_rfl) ?_
      refine QW ?_
      first | exact key.out | exact ZX key
     refine zS QT ?_
     refine Qc ?_
     refine zD hD ?_
     refine qd 2 rfl ?_
     refine zL Zz ?_
     refine Qc ?_
     refine zD hD ?_
     refine qd 3 rfl ?_
     refine zV (Vd rfl rfl) ?_
     refine Qc ?_
     refine zD hD ?_
     refine qd 4 rfl ?_
     refine zV (ZL rfl rfl (fun hg=>by rw [Zj hbp];omega)) ?_
     refine Qc ?_
     refine zD hD ?_
     refine qd 6 rfl ?_
     refine zS QT ?_
     refine Qc ?_
     refine zD hD ?_
     refine QK (by kernel_rfl) ?_
     refine QW ?_
     first | exact key.out | exact ZX key
    refine zL Zz ?_
    refine Qc ?_
    refine zD hD ?_
    refine Zw 1 3 rfl rfl (by kernel_rfl) ?_ ?_
    ·
     refine zL Zz ?_
     refine Qc ?_
     refine zD hD ?_
     refine Zw 3 5 rfl rfl (by kernel_rfl) ?_ ?_
     ·
      refine zV (Vd rfl rfl) ?_
      refine Qc ?_
      refine zD hD ?_
      refine Zw 4 5 rfl rfl (by kernel_rfl) ?_ ?_
      ·
       refine zV (ZL rfl rfl (fun hg=>by rw [Zj hbp];omega)) ?_
       refine Qc ?_
       refine zD hD ?_
       refine qd 5 rfl ?_
       refine zS QT ?_
       refine Qc ?_
       refine zD hD ?_
       refine qd 6 rfl ?_
       refine zS QT ?_
       refine Qc ?_
       refine zD hD ?_
       refine QK (by kernel_rfl) ?_
       refine QW ?_
       first | exact key.out | exact ZX key
      refine zS QT ?_
      refine Qc ?_
      refine zD hD ?_
      refine qd 4 rfl ?_
      refine zV (ZL rfl rfl (fun hg=>by rw [Zj hbp];omega)) ?_
      refine Qc ?_
      refine zD hD ?_
      refine qd 6 rfl ?_
      refine zS QT ?_
      refine Qc ?_
      refine zD hD ?_
      refine QK (by kernel_rfl) ?_
      refine QW ?_
      first | exact key.out | exact ZX key
     refine zS QT ?_
     refine Qc ?_
     refine zD hD ?_
     refine qd 3 rfl ?_
     refine zV (Vd rfl rfl) ?_
     refine Qc ?_
     refine zD hD ?_
     refine qd 4 rfl ?_
     refine zV (ZL rfl rfl (fun hg=>by rw [Zj hbp];omega)) ?_
     refine Qc ?_
     refine zD hD ?_
     refine qd 6 rfl ?_
     refine zS QT ?_
     refine Qc ?_
     refine zD hD ?_
     refine QK (by kernel_rfl) ?_
     refine QW ?_
     first | exact key.out | exact ZX key
    refine zV (Vd rfl rfl) ?_
    refine Qc ?_
    refine zD hD ?_
    refine qd 1 rfl ?_
    refine zL Zz ?_
    refine Qc ?_
    refine zD hD ?_
    refine Zw 4 5 rfl rfl (by kernel_rfl) ?_ ?_
    ·
     refine zV (ZL rfl rfl (fun hg=>by rw [Zj hbp];omega)) ?_
     refine Qc ?_
     refine zD hD ?_
     refine qd 5 rfl ?_
     refine zS QT ?_
     refine Qc ?_
     refine zD hD ?_
     refine qd 6 rfl ?_
     refine zS QT ?_
     refine Qc ?_
     refine zD hD ?_
     refine QK (by kernel_rfl) ?_
     refine QW ?_
     first | exact key.out | exact ZX key
    refine zS QT ?_
    refine Qc ?_
    refine zD hD ?_
    refine qd 4 rfl ?_
    refine zV (ZL rfl rfl (fun hg=>by rw [Zj hbp];omega)) ?_
    refine Qc ?_
    refine zD hD ?_
    refine qd 6 rfl ?_
    refine zS QT ?_
    refine Qc ?_
    refine zD hD ?_
    refine QK (by kernel_rfl) ?_
    refine QW ?_
    first | exact key.out | exact ZX key
   ·
    refine zL Zz ?_
    refine Qc ?_
    refine zD hD ?_
    refine Zw 0 2 rfl rfl (by kernel_rfl) ?_ ?_
    ·
     refine zL Zz ?_
     refine Qc ?_
     refine zD hD ?_
     refine Zw 2 5 rfl rfl (by kernel_rfl) ?_ ?_
     ·
      refine zL Zz ?_
      refine Qc ?_
      refine zD hD ?_
      refine Zw 3 5 rfl rfl (by kernel_rfl) ?_ ?_
      ·
       refine zV (Vd rfl rfl) ?_
       refine Qc ?_
       refine zD hD ?_
       refine Zw 4 5 rfl rfl (by kernel_rfl) ?_ ?_
       ·
        refine zV (ZL rfl rfl (fun hg=>by rw [Zj hbp];omega)) ?_
        refine Qc ?_
        refine zD hD ?_
        refine qd 5 rfl ?_
        refine zS QT ?_
        refine Qc ?_
        refine zD hD ?_
        refine qd 6 rfl ?_
        refine zS QT ?_
        refine Qc ?_
        refine zD hD ?_
        refine QK (by kernel_rfl) ?_
        refine QW ?_
        first | exact key.out | exact ZX key
       refine zS QT ?_
       refine Qc ?_
       refine zD hD ?_
       refine qd 4 rfl ?_
       refine zV (ZL rfl rfl (fun hg=>by rw [Zj hbp];omega)) ?_
       refine Qc ?_
       refine zD hD ?_
       refine qd 6 rfl ?_
       refine zS QT ?_
       refine Qc ?_
       refine zD hD ?_
       refine QK (by kernel_rfl) ?_
       refine QW ?_
       first | exact key.out | exact ZX key
      refine zS QT ?_
      refine Qc ?_
      refine zD hD ?_
      refine qd 3 rfl ?_
      refine zV (Vd rfl rfl) ?_
      refine Qc ?_
      refine zD hD ?_
      refine qd 4 rfl ?_
      refine zV (ZL rfl rfl (fun hg=>by rw [Zj hbp];omega)) ?_
      refine Qc ?_
      refine zD hD ?_
      refine qd 6 rfl ?_
      refine zS QT ?_
      refine Qc ?_
      refine zD hD ?_
      refine QK (by kernel_rfl) ?_
      refine QW ?_
      first | exact key.out | exact ZX key
     refine zS QT ?_
     refine Qc ?_
     refine zD hD ?_
     refine qd 2 rfl ?_
     refine zL Zz ?_
     refine Qc ?_
     refine zD hD ?_
     refine qd 3 rfl ?_
     refine zV (Vd rfl rfl) ?_
     refine Qc ?_
     refine zD hD ?_
     refine qd 4 rfl ?_
     refine zV (ZL rfl rfl (fun hg=>by rw [Zj hbp];omega)) ?_
     refine Qc ?_
     refine zD hD ?_
     refine qd 6 rfl ?_
     refine zS QT ?_
     refine Qc ?_
     refine zD hD ?_
     refine QK (by kernel_rfl) ?_
     refine QW ?_
     first | exact key.out | exact ZX key
    refine zL Zz ?_
    refine Qc ?_
    refine zD hD ?_
    refine Zw 0 3 rfl rfl (by kernel_rfl) ?_ ?_
    ·
     refine zL Zz ?_
     refine Qc ?_
     refine zD hD ?_
     refine Zw 3 5 rfl rfl (by kernel_rfl) ?_ ?_
     ·
      refine zV (Vd rfl rfl) ?_
      refine Qc ?_
      refine zD hD ?_
      refine Zw 4 5 rfl rfl (by kernel_rfl) ?_ ?_
      ·
       refine zV (ZL rfl rfl (fun hg=>by rw [Zj hbp];omega)) ?_
       refine Qc ?_
       refine zD hD ?_
       refine qd 5 rfl ?_
       refine zS QT ?_
       refine Qc ?_
       refine zD hD ?_
       refine qd 6 rfl ?_
       refine zS QT ?_
       refine Qc ?_
       refine zD hD ?_
       refine QK (by kernel_rfl) ?_
       refine QW ?_
       first | exact key.out | exact ZX key
      refine zS QT ?_
      refine Qc ?_
      refine zD hD ?_
      refine qd 4 rfl ?_
      refine zV (ZL rfl rfl (fun hg=>by rw [Zj hbp];omega)) ?_
      refine Qc ?_
      refine zD hD ?_
      refine qd 6 rfl ?_
      refine zS QT ?_
      refine Qc ?_
      refine zD hD ?_
      refine QK (by kernel_rfl) ?_
      refine QW ?_
      first | exact key.out | exact ZX key
     refine zS QT ?_
     refine Qc ?_
     refine zD hD ?_
     refine qd 3 rfl ?_
     refine zV (Vd rfl rfl) ?_
     refine Qc ?_
     refine zD hD ?_
     refine qd 4 rfl ?_
     refine zV (ZL rfl rfl (fun hg=>by rw [Zj hbp];omega)) ?_
     refine Qc ?_
     refine zD hD ?_
     refine qd 6 rfl ?_
     refine zS QT ?_
     refine Qc ?_
     refine zD hD ?_
     refine QK (by kernel_rfl) ?_
     refine QW ?_
     first | exact key.out | exact ZX key
    refine zV (Vd rfl rfl) ?_
    refine Qc ?_
    refine zD hD ?_
    refine Zw 0 4 rfl rfl (by kernel_rfl) ?_ ?_
    ·
     refine zL Zz ?_
     refine Qc ?_
     refine zD hD ?_
     refine Zw 4 5 rfl rfl (by kernel_rfl) ?_ ?_
     ·
      refine zV (ZL rfl rfl (fun hg=>by rw [Zj hbp];omega)) ?_
      refine Qc ?_
      refine zD hD ?_
      refine qd 5 rfl ?_
      refine zS QT ?_
      refine Qc ?_
      refine zD hD ?_
      refine qd 6 rfl ?_
      refine zS QT ?_
      refine Qc ?_
      refine zD hD ?_
      refine QK (by kernel_rfl) ?_
      refine QW ?_
      first | exact key.out | exact ZX key
     refine zS QT ?_
     refine Qc ?_
     refine zD hD ?_
     refine qd 4 rfl ?_
     refine zV (ZL rfl rfl (fun hg=>by rw [Zj hbp];omega)) ?_
     refine Qc ?_
     refine zD hD ?_
     refine qd 6 rfl ?_
     refine zS QT ?_
     refine Qc ?_
     refine zD hD ?_
     refine QK (by kernel_rfl) ?_
     refine QW ?_
     first | exact key.out | exact ZX key
    refine zV (ZL rfl rfl (fun hg=>by rw [Zj hbp];omega)) ?_
    refine Qc ?_
    refine zD hD ?_
    refine qd 0 rfl ?_
    refine zL Zz ?_
    refine Qc ?_
    refine zD hD ?_
    refine qd 5 rfl ?_
    refine zS QT ?_
    refine Qc ?_
    refine zD hD ?_
    refine qd 6 rfl ?_
    refine zS QT ?_
    refine Qc ?_
    refine zD hD ?_
    refine QK (by kernel_rfl) ?_
    refine QW ?_
    first | exact key.out | exact ZX key
   refine zL Zz ?_
   refine Qc ?_
   refine zD hD ?_
   refine Ul 0 1 3 rfl rfl rfl (by kernel_rfl) ?_ ?_ ?_
   ·
    refine zL Zz ?_
    refine Qc ?_
    refine zD hD ?_
    refine Zw 1 3 rfl rfl (by kernel_rfl) ?_ ?_
    ·
     refine zL Zz ?_
     refine Qc ?_
     refine zD hD ?_
     refine Zw 3 5 rfl rfl (by kernel_rfl) ?_ ?_
     ·
      refine zV (Vd rfl rfl) ?_
      refine Qc ?_
      refine zD hD ?_
      refine Zw 4 5 rfl rfl (by kernel_rfl) ?_ ?_
      ·
       refine zV (ZL rfl rfl (fun hg=>by rw [Zj hbp];omega)) ?_
       refine Qc ?_
       refine zD hD ?_
       refine qd 5 rfl ?_
       refine zS QT ?_
       refine Qc ?_
       refine zD hD ?_
       refine qd 6 rfl ?_
       refine zS QT ?_
       refine Qc ?_
       refine zD hD ?_
       refine QK (by kernel_rfl) ?_
       refine QW ?_
       first | exact key.out | exact ZX key
      refine zS QT ?_
      refine Qc ?_
      refine zD hD ?_
      refine qd 4 rfl ?_
      refine zV (ZL rfl rfl (fun hg=>by rw [Zj hbp];omega)) ?_
      refine Qc ?_
      refine zD hD ?_
      refine qd 6 rfl ?_
      refine zS QT ?_
      refine Qc ?_
      refine zD hD ?_
      refine QK (by kernel_rfl) ?_
      refine QW ?_
      first | exact key.out | exact ZX key
     refine zS QT ?_
     refine Qc ?_
     refine zD hD ?_
     refine qd 3 rfl ?_
     refine zV (Vd rfl rfl) ?_
     refine Qc ?_
     refine zD hD ?_
     refine qd 4 rfl ?_
     refine zV (ZL rfl rfl (fun hg=>by rw [Zj hbp];omega)) ?_
     refine Qc ?_
     refine zD hD ?_
     refine qd 6 rfl ?_
     refine zS QT ?_
     refine Qc ?_
     refine zD hD ?_
     refine QK (by kernel_rfl) ?_
     refine QW ?_
     first | exact key.out | exact ZX key
    refine zV (Vd rfl rfl) ?_
    refine Qc ?_
    refine zD hD ?_
    refine qd 1 rfl ?_
    refine zL Zz ?_
    refine Qc ?_
    refine zD hD ?_
    refine Zw 4 5 rfl rfl (by kernel_rfl) ?_ ?_
    ·
     refine zV (ZL rfl rfl (fun hg=>by rw [Zj hbp];omega)) ?_
     refine Qc ?_
     refine zD hD ?_
     refine qd 5 rfl ?_
     refine zS QT ?_
     refine Qc ?_
     refine zD hD ?_
     refine qd 6 rfl ?_
     refine zS QT ?_
     refine Qc ?_
     refine zD hD ?_
     refine QK (by kernel_rfl) ?_
     refine QW ?_
     first | exact key.out | exact ZX key
    refine zS QT ?_
    refine Qc ?_
    refine zD hD ?_
    refine qd 4 rfl ?_
    refine zV (ZL rfl rfl (fun hg=>by rw [Zj hbp];omega)) ?_
    refine Qc ?_
    refine zD hD ?_
    refine qd 6 rfl ?_
    refine zS QT ?_
    refine Qc ?_
    refine zD hD ?_
    refine QK (by kernel_rfl) ?_
    refine QW ?_
    first | exact key.out | exact ZX key
   ·
    refine zL Zz ?_
    refine Qc ?_
    refine zD hD ?_
    refine Zw 0 3 rfl rfl (by kernel_rfl) ?_ ?_
    ·
     refine zL Zz ?_
     refine Qc ?_
     refine zD hD ?_
     refine Zw 3 5 rfl rfl (by kernel_rfl) ?_ ?_
     ·
      refine zV (Vd rfl rfl) ?_
      refine Qc ?_
      refine zD hD ?_
      refine Zw 4 5 rfl rfl (by kernel_rfl) ?_ ?_
      ·
       refine zV (ZL rfl rfl (fun hg=>by rw [Zj hbp];omega)) ?_
       refine Qc ?_
       refine zD hD ?_
       refine qd 5 rfl ?_
       refine zS QT ?_
       refine Qc ?_
       refine zD hD ?_
       refine qd 6 rfl ?_
       refine zS QT ?_
       refine Qc ?_
       refine zD hD ?_
       refine QK (by kernel_rfl) ?_
       refine QW ?_
       first | exact key.out | exact ZX key
      refine zS QT ?_
      refine Qc ?_
      refine zD hD ?_
      refine qd 4 rfl ?_
      refine zV (ZL rfl rfl (fun hg=>by rw [Zj hbp];omega)) ?_
      refine Qc ?_
      refine zD hD ?_
      refine qd 6 rfl ?_
      refine zS QT ?_
      refine Qc ?_
      refine zD hD ?_
      refine QK (by kernel_rfl) ?_
      refine QW ?_
      first | exact key.out | exact ZX key
     refine zS QT ?_
     refine Qc ?_
     refine zD hD ?_
     refine qd 3 rfl ?_
     refine zV (Vd rfl rfl) ?_
     refine Qc ?_
     refine zD hD ?_
     refine qd 4 rfl ?_
     refine zV (ZL rfl rfl (fun hg=>by rw [Zj hbp];omega)) ?_
     refine Qc ?_
     refine zD hD ?_
     refine qd 6 rfl ?_
     refine zS QT ?_
     refine Qc ?_
     refine zD hD ?_
     refine QK (by kernel_rfl) ?_
     refine QW ?_
     first | exact key.out | exact ZX key
    refine zV (Vd rfl rfl) ?_
    refine Qc ?_
    refine zD hD ?_
    refine Zw 0 4 rfl rfl (by kernel_rfl) ?_ ?_
    ·
     refine zL Zz ?_
     refine Qc ?_
     refine zD hD ?_
     refine Zw 4 5 rfl rfl (by kernel_rfl) ?_ ?_
     ·
      refine zV (ZL rfl rfl (fun hg=>by rw [Zj hbp];omega)) ?_
      refine Qc ?_
      refine zD hD ?_
      refine qd 5 rfl ?_
      refine zS QT ?_
      refine Qc ?_
      refine zD hD ?_
      refine qd 6 rfl ?_
      refine zS QT ?_
      refine Qc ?_
      refine zD hD ?_
      refine QK (by kernel_rfl) ?_
      refine QW ?_
      first | exact key.out | exact ZX key
     refine zS QT ?_
     refine Qc ?_
     refine zD hD ?_
     refine qd 4 rfl ?_
     refine zV (ZL rfl rfl (fun hg=>by rw [Zj hbp];omega)) ?_
     refine Qc ?_
     refine zD hD ?_
     refine qd 6 rfl ?_
     refine zS QT ?_
     refine Qc ?_
     refine zD hD ?_
     refine QK (by kernel_rfl) ?_
     refine QW ?_
     first | exact key.out | exact ZX key
    refine zV (ZL rfl rfl (fun hg=>by rw [Zj hbp];omega)) ?_
    refine Qc ?_
    refine zD hD ?_
    refine qd 0 rfl ?_
    refine zL Zz ?_
    refine Qc ?_
    refine zD hD ?_
    refine qd 5 rfl ?_
    refine zS QT ?_
    refine Qc ?_
    refine zD hD ?_
    refine qd 6 rfl ?_
    refine zS QT ?_
    refine Qc ?_
    refine zD hD ?_
    refine QK (by kernel_rfl) ?_
    refine QW ?_
    first | exact key.out | exact ZX key
   refine zV (Vd rfl rfl) ?_
   refine Qc ?_
   refine zD hD ?_
   refine Zw 0 1 rfl rfl (by kernel_rfl) ?_ ?_
   ·
    refine zL Zz ?_
    refine Qc ?_
    refine zD hD ?_
    refine qd 1 rfl ?_
    refine zL Zz ?_
    refine Qc ?_
    refine zD hD ?_
    refine Zw 4 5 rfl rfl (by kernel_rfl) ?_ ?_
    ·
     refine zV (ZL rfl rfl (fun hg=>by rw [Zj hbp];omega)) ?_
     refine Qc ?_
     refine zD hD ?_
     refine qd 5 rfl ?_
     refine zS QT ?_
     refine Qc ?_
     refine zD hD ?_
     refine qd 6 rfl ?_
     refine zS QT ?_
     refine Qc ?_
     refine zD hD ?_
     refine QK (by kernel_rfl) ?_
     refine QW ?_
     first | exact key.out | exact ZX key
    refine zS QT ?_
    refine Qc ?_
    refine zD hD ?_
    refine qd 4 rfl ?_
    refine zV (ZL rfl rfl (fun hg=>by rw [Zj hbp];omega)) ?_
    refine Qc ?_
    refine zD hD ?_
    refine qd 6 rfl ?_
    refine zS QT ?_
    refine Qc ?_
    refine zD hD ?_
    refine QK (by kernel_rfl) ?_
    refine QW ?_
    first | exact key.out | exact ZX key
   refine zL Zz ?_
   refine Qc ?_
   refine zD hD ?_
   refine Zw 0 4 rfl rfl (by kernel_rfl) ?_ ?_
   ·
    refine zL Zz ?_
    refine Qc ?_
    refine zD hD ?_
    refine Zw 4 5 rfl rfl (by kernel_rfl) ?_ ?_
    ·
     refine zV (ZL rfl rfl (fun hg=>by rw [Zj hbp];omega)) ?_
     refine Qc ?_
     refine zD hD ?_
     refine qd 5 rfl ?_
     refine zS QT ?_
     refine Qc ?_
     refine zD hD ?_
     refine qd 6 rfl ?_
     refine zS QT ?_
     refine Qc ?_
     refine zD hD ?_
     refine QK (by kernel_rfl) ?_
     refine QW ?_
     first | exact key.out | exact ZX key
    refine zS QT ?_
    refine Qc ?_
    refine zD hD ?_
    refine qd 4 rfl ?_
    refine zV (ZL rfl rfl (fun hg=>by rw [Zj hbp];omega)) ?_
    refine Qc ?_
    refine zD hD ?_
    refine qd 6 rfl ?_
    refine zS QT ?_
    refine Qc ?_
    refine zD hD ?_
    refine QK (by kernel_rfl) ?_
    refine QW ?_
    first | exact key.out | exact ZX key
   refine zV (ZL rfl rfl (fun hg=>by rw [Zj hbp];omega)) ?_
   refine Qc ?_
   refine zD hD ?_
   refine qd 0 rfl ?_
   refine zL Zz ?_
   refine Qc ?_
   refine zD hD ?_
   refine qd 5 rfl ?_
   refine zS QT ?_
   refine Qc ?_
   refine zD hD ?_
   refine qd 6 rfl ?_
   refine zS QT ?_
   refine Qc ?_
   refine zD hD ?_
   refine QK (by kernel_rfl) ?_
   refine QW ?_
   first | exact key.out | exact ZX key
  rw [show ((a:Int)).tmod (zsm (b:Int) 1)=((a % b:Nat):Int) by rw [Zj hbp,zmm]]
  refine Qa (zR ?_)
  refine zL Zz ?_
  refine zC (zN ?_)
  refine zI ?_ ?_<;>intro hc17
  ·
   have hab:a % b=0:=by have h:=hc17;simp only [beq_iff_eq] at h;omega
   have hpre2:(pre++[a])++[b]<+:zcL a0 b0:=by rw [hrem,zcb ha0 (by omega) hab,List.append_assoc];exact List.prefix_rfl
   refine zR (zM ?_)
   refine zL Zz ?_
   refine zdq (vs:=[_]) (Post:=fun t I3 H3=>if t then J ((pre++[a])++[b]) I3 H3 else Jx ((pre++[a])++[b]) I3 H3) rfl rfl rfl rfl (hY (pre++[a]) b _ _ hpre2 (hI0.trans hI2) hJ1) ?_
   rintro t3 I3 H3 hI3 hP3
   refine zN (Qs (Qm (Qb (Qm ?_))))
   first
   | (refine YY rfl (fun w hw=>⟨_,I3,H3,rfl,hI1.trans (hI2.trans hI3),hw.drop,?_⟩);cases t3 with | true=>exact .inl (by rw [hrem,zcb ha0 (by omega) hab];simpa using hP3) | false=>exact .inr ⟨_,hpre2,hP3⟩)
  have hab:a % b≠0:=by have h:=hc17;simp only [beq_eq_false_iff_ne,ne_eq] at h;omega
  refine Qo (Qg ?_)
  exact XC rfl rfl rfl _ (zv6 186 b1 b2 (b) (((a % b:Nat):Int))) ⟨a % b,Nat.mod_lt _ hbp,b,a % b,pre++[a],rfl,rfl,rfl,hI1.trans hI2,hJ1,by rw [hrem,zdf ha0 (by omega) hab,List.append_assoc];rfl,by omega,by omega,by have:=Nat.mod_lt a hbp;omega⟩ (.cons rfl (.cons rfl (.cons rfl .nil))) .refl
 refine QH (Qe (Qe (Qj ?_)))
 first
 | (refine VM (YY rfl (fun w hw=>⟨_,I2,H2,rfl,hI1.trans hI2,hw.drop,?_⟩));by_cases ha0:a=0;(obtain ⟨e1,e2⟩:=hno (by simp [ZV,ha0]);subst e1;subst e2;subst ha0;exact .inl (by rw [hrem,zdV,List.append_nil];exact hJk));(have ht:t=false:=(by simp [ha0] at hc10;exact hc10);subst ht;exact .inr ⟨_,zjb hrem ha0,hyes (by simp [ZV];exact ha0)⟩))
theorem zyZ (I:Qw)(a b:Nat)(hb:0<b)(ha:a≤9223372036854775807)(hb2:b≤9223372036854775807):Zu Tryz.prog 259 [.int .u64 a,.int .u64 b] I (.int .u64 (Nat.gcd a b:Nat)):=by
 intro g H w hw
 refine zeS Tryz.func259 rfl Tryz.ntmps259 rfl hw ?_
 have hIc:=zAl I
 refine zR ?_
 refine Qv zwf rfl rfl (fun b_4=>?_)
 refine zN (Qk (zR (zM ?_)))
 refine zC (zN ?_)
 refine zI ?_ ?_<;>intro hc7
 ·
  simp at hc7;omega
 refine Qo (Qa (zR (zM ?_)))
 refine zS QT ?_
 refine zN (Qk (zR (zM ?_)))
 refine zM ?_
 refine QA (cap:=[]) (vs:=[_,_]) rfl rfl zrm .nil (zyA I _ _) rfl rfl ?_
 rintro vv1 I1 L1 hI1 ⟨rfl,b1,b2,rfl,rfl⟩
 have hIc:=hIc.trans hI1
 refine zN (Ql ?_)
 refine Xh (ms:=[]) (K:=zv6 186 b1 b2 (a) (b)) (L:=[(b_4,.cells #[.int .u64 b] 186 (0,0))]) (enc:=fun n:Nat=>.int .u64 n) (xs:=zcL a b) (fun pre I' loc'=>loc'=[(b_4,.cells #[.int .u64 ((pre.getLastD b:Nat):Int)] 186 (0,0))]) (fun _ _ _ _=>False) (fun pre x E2 I2 loc2=>E2=[(4,Ze b_4),(5,.int .u64 x)]∧loc2=[(b_4,.cells #[.int .u64 ((pre.getLastD b:Nat):Int)] 186 (0,0))]) rfl zrr (znz _ a b b1 b2 hb ha hb2) rfl rfl ?_ ?_ ?_ ?_
 ·
  rintro l pre x I1 loc1 H1 hpre hI1 rfl
  refine Qf (zA (Qc ?_))
  exact zbI _ ⟨zAl _,rfl,rfl⟩ (.cons rfl (.cons rfl .nil))
 ·
  rintro l pre x E2 I2 loc2 H2 hpre hI2 ⟨rfl,rfl⟩
  refine Ql (Qf (zM ?_))
  refine zS QT ?_
  refine Qc (Qg ?_)
  exact X2 ⟨zAl _,by rw [zif];rfl⟩ .refl
 ·
  rintro bd I1 loc1 hI1 rfl
  have hIc:=hIc.trans hI1
  refine Qg (Qa (zR ?_))
  refine zL Zz ?_
  refine zS QT ?_
  refine zN (Qs ?_)
  exact Ud (L:=[(b_4,_)]) (fun a ha w hw=>zzw rfl rfl Zz (QY.h0 rfl) a ha w hw) (fun w hw=>⟨by rw [zlU b (Nat.le_refl _) (by omega) (fun _=>rfl)],(hw.mono hIc).drop⟩)
 rintro c bd pre I1 loc1 hI1 hpre hF;exact hF.elim
theorem zuP (I:Qw)(n d:Int)(hn: -1073741824≤n∧n≤1073741824)(hd:1≤d∧d≤1073741824):Zu Tryz.prog 259 [.int .u64 (zhN n),.int .u64 (IntKind.u64.wrap d)] I (.int .u64 (zxP n d)):=by
 have h0:0≤zhN n∧zhN n≤1073741824:=by unfold zhN;split<;>omega
 have h:=zyZ I (zhN n).toNat d.toNat (by omega) (by omega) (by omega)
 rw [zkQ (by omega)]
 rw [Int.toNat_of_nonneg h0.1,Int.toNat_of_nonneg (by omega),zqH,Int.toNat_of_nonneg (by omega)] at h
 exact h
theorem Xz (I:Qw)(n d:Int):Zu Tryz.prog 253 [zb3 (n) (d)] I (.int .i64 (zt1 n d)):=by
 intro g H w hw
 refine qe Tryz.func253 Tryz.ntmps253 hw ?_
 refine zR ?_
 refine Q9 rfl rfl rfl (fun b_1=>?_)
 refine zA (zN (Qk (Qk ?_)))
 refine Yq mixed (by kernel_rfl) ?_
 refine zq (Qi rfl Jd) ?_
 refine zq (Qd rfl Qr (fun hg=>by exact QY.h0 rfl)) ?_
 refine zq (QI rfl rfl rfl) ?_
 refine zq (Qh rfl) ?_
 refine YP 3 rfl rfl rfl ?_
 refine zj (Qi rfl Jd) ?_
 refine zj (Qd rfl Qr (fun hg=>by exact QY.h0 rfl)) ?_
 refine zj (QI rfl rfl rfl) ?_
 refine Ke rfl rfl rfl rfl rfl ?_
 refine zq (Qh rfl) ?_
 refine YP 8 rfl rfl rfl ?_
 refine zj (Qi rfl Vq) ?_
 refine zj (Qd rfl Qr (fun hg=>by exact QY.h0 rfl)) ?_
 refine zj (QI rfl rfl rfl) ?_
 refine Ke rfl rfl rfl rfl rfl ?_
 refine zq (Qh rfl) ?_
 refine YP 13 rfl rfl rfl ?_
 refine zj (Qi rfl Vq) ?_
 refine zj (Qd rfl Qr (fun hg=>by exact QY.h0 rfl)) ?_
 refine zj (QI rfl rfl rfl) ?_
 refine Ke rfl rfl rfl rfl rfl ?_
 refine zq (Qh rfl) ?_
 refine YP 18 rfl rfl rfl ?_
 refine zj (Qi rfl Vq) ?_
 refine zj (Qd rfl Qr (fun hg=>by exact QY.h0 rfl)) ?_
 refine Ws (cap:=[]) (vs:=[_]) rfl rfl zs1 (fun hg=>zy6 I n (by simp [ZV] at hg;omega)) (.some rfl rfl rfl rfl gbf) rfl rfl ?_
 refine zj (Qi rfl Jd) ?_
 refine zj (Qd rfl Qr (fun hg=>by exact QY.h0 rfl)) ?_
 refine zj (Ky rfl KX) ?_
 refine Ws (cap:=[]) (vs:=[_,_]) rfl rfl zrV (fun hg=>zuP I n d (by simp [ZV] at hg;omega) (by simp [ZV] at hg;omega)) (.some rfl rfl rfl rfl gbf) rfl rfl ?_
 refine zj (QI rfl rfl rfl) ?_
 refine Ke rfl rfl rfl rfl rfl ?_
 refine Yp ?_
 refine Qa ?_
 refine zI ?_ ?_<;>intro hc30
 ·
  refine zR (zA (zN (Qs (Qb ?_))))
  first
  | exact zr rfl rfl (by unfold zt1;rw [ztr hc30];rfl)
 refine Qo (Qa (zR (zA (zN (Qs ?_)))))
 first
 | exact zr rfl rfl (by unfold zt1;rw [znY hc30];rfl)
theorem zkT (I:Qw)(an ad bn bd:Int):Zu Tryz.prog 237 [zb3 (an) (ad),zb3 (bn) (bd)] I (.tuple #[.int .i64 (zjz an ad bn bd),.int .i64 (zlL an ad bn bd)]):=by
 intro g H w hw
 refine qe Tryz.func237 Tryz.ntmps237 hw ?_
 refine zR ?_
 refine Q9 rfl rfl rfl (fun b_2=>?_)
 refine Q9 rfl rfl rfl (fun b_3=>?_)
 refine zA ?_
 refine zA (zN (Qk (zR ?_)))
 refine zV (Qq rfl VJ (fun hg=>by exact Cells.g1) rfl) ?_
 refine qc (vs:=[_]) rfl zb2 (Xz I _ _) ?_
 refine zC ?_
 refine zM ?_
 refine QV 3 rfl rfl rfl ?_
 refine zJ (Qq rfl VJ (fun hg=>by exact Cells.g0) rfl) ?_
 refine qf (vs:=[_]) rfl zb2 (fun hg=>Xz I _ _) ?_
 refine zJ (QI rfl rfl rfl) ?_
 refine Zs rfl rfl rfl rfl rfl ?_
 refine zN ?_
 refine zI ?_ ?_<;>intro hc13
 ·
  have hb:(UN an ad&&UN bn bd)=false:=by have h:=hc13;rw [zcC,Bool.not_eq_true'] at h;exact h
  refine zR (zA ?_)
  refine zA (zN (Qs (Qb ?_)))
  exact Zr rfl rfl rfl (fun w hw=>⟨by unfold zjz zlL;rw [hb];rfl,hw.drop⟩)
 have hb:(UN an ad&&UN bn bd)=true:=by have h:=hc13;rw [zcC,Bool.not_eq_false'] at h;exact h
 have ⟨ha1,ha2⟩:=zci (Bool.and_eq_true .. ▸ hb).1
 have ⟨hb1,hb2⟩:=zci (Bool.and_eq_true .. ▸ hb).2
 refine Qo (Qa (zR ?_))
 refine zF Vq ?_
 refine zL Qr ?_
 refine zF Jd ?_
 refine zL Qr ?_
 refine zV (ZA rfl rfl rfl (fun _=>by exact zmk (by omega) (by omega))) ?_
 refine zF Vq ?_
 refine zL Qr ?_
 refine zF Jd ?_
 refine zL Qr ?_
 refine zV (ZA rfl rfl rfl (fun _=>by exact zmk (by omega) (by omega))) ?_
 refine qc (vs:=[_,_]) rfl zd1 (znN I _ _) ?_
 refine zA ?_
 refine zA (zN (Qs ?_))
 exact Zr rfl rfl rfl (fun w hw=>⟨by unfold zjz zlL;rw [hb];rfl,hw.drop⟩)
theorem zjF (I:Qw)(an ad bn bd:Int):Zu Tryz.prog 203 [zb3 (an) (ad),zb3 (bn) (bd)] I (.bool (zeR an ad bn bd)):=by
 intro g H w hw
 refine qe Tryz.func203 Tryz.ntmps203 hw ?_
 refine zR ?_
 refine Q9 rfl rfl rfl (fun b_2=>?_)
 refine Q9 rfl rfl rfl (fun b_3=>?_)
 refine zA ?_
 refine zN (zR ?_)
 refine zV (Qq rfl VJ (fun hg=>by exact Cells.g1) rfl) ?_
 refine zV (Qq rfl VJ (fun hg=>by exact Cells.g0) rfl) ?_
 refine qc (vs:=[_,_]) rfl zlx (zkT I _ _ _ _) ?_
 refine zM ?_
 refine zE ?_
 refine zE ?_
 refine zA ?_
 refine zA ?_
 refine zN (zR ?_)
 refine zM ?_
 refine zC ?_
 refine zM ?_
 refine QG 2 rfl rfl rfl ?_
 refine zK (Qh rfl) ?_
 refine zK (QI rfl rfl rfl) ?_
 refine QL rfl rfl rfl rfl rfl ?_
 refine zM ?_
 refine QG 6 rfl rfl rfl ?_
 refine zK (Qi rfl Vq) ?_
 refine zK (Qd rfl Qr (fun hg=>by exact QY.h1 rfl)) ?_
 refine zK (QI rfl rfl rfl) ?_
 refine QL rfl rfl rfl rfl rfl ?_
 refine zM ?_
 refine QG 11 rfl rfl rfl ?_
 refine zK (Qi rfl Vq) ?_
 refine zK (Qd rfl Qr (fun hg=>by exact QY.h0 rfl)) ?_
 refine zK (Qi rfl Jd) ?_
 refine zK (Qd rfl Qr (fun hg=>by exact QY.h0 rfl)) ?_
 refine zK (QI rfl rfl rfl) ?_
 refine QL rfl rfl rfl rfl rfl ?_
 refine zA (zN (Qs ?_))
 exact zr rfl rfl (by rw [←zd8])
theorem ZY (I:Qw)(n lo hi:Int):Zu Tryz.prog 202 [.int .i64 n,.int .i64 lo,.int .i64 hi] I (.bool (ZO n lo hi)):=by
 intro g H w hw
 refine qe Tryz.func202 Tryz.ntmps202 hw ?_
 refine zR (zA ?_)
 refine zN (zR ?_)
 refine zM ?_
 refine zM ?_
 refine zC ?_
 refine zM ?_
 refine QG 3 rfl rfl rfl ?_
 refine zK (Qh rfl) ?_
 refine zK (Qh rfl) ?_
 refine zK (QI rfl rfl rfl) ?_
 refine QL rfl rfl rfl rfl rfl ?_
 refine zA (zN (Qs ?_))
 exact zr rfl rfl (by rfl)
theorem zqx (I:Qw)(x:Sg):Zu Tryz.prog 154 [J0 x] I (.bool (frm x)):=by
 intro g H w hw
 refine qe Tryz.func154 Tryz.ntmps154 hw ?_
 refine zR ?_
 refine Q9 rfl rfl rfl (fun b_1=>?_)
 refine zA ?_
 refine zN (zR ?_)
 refine zF Z9 ?_
 refine zL Qr ?_
 refine qc (vs:=[_,_,_]) rfl Yj (ZY I _ _ _) ?_
 refine zM ?_
 refine QG 3 rfl rfl rfl ?_
 refine zK (Qi rfl Jm) ?_
 refine zK (Qd rfl Qr (fun hg=>by exact QY.h0 rfl)) ?_
 refine qg (vs:=[_,_,_]) rfl Yj (fun hg=>ZY I _ _ _) ?_
 refine QL rfl rfl rfl rfl rfl ?_
 refine zM ?_
 refine QG 8 rfl rfl rfl ?_
 refine zK (Qi rfl Kt) ?_
 refine zK (Qd rfl Qr (fun hg=>by exact QY.h0 rfl)) ?_
 refine qg (vs:=[_,_,_]) rfl Yj (fun hg=>ZY I _ _ _) ?_
 refine QL rfl rfl rfl rfl rfl ?_
 refine zM ?_
 refine QG 13 rfl rfl rfl ?_
 refine zK (Qi rfl Ub) ?_
 refine zK (Qd rfl Qr (fun hg=>by exact QY.h0 rfl)) ?_
 refine qg (vs:=[_,_,_]) rfl Yj (fun hg=>ZY I _ _ _) ?_
 refine QL rfl rfl rfl rfl rfl ?_
 refine zM ?_
 refine QG 18 rfl rfl rfl ?_
 refine zK (Qi rfl JX) ?_
 refine zK (Qd rfl Qr (fun hg=>by exact QY.h0 rfl)) ?_
 refine qg (vs:=[_,_,_]) rfl Yj (fun hg=>ZY I _ _ _) ?_
 refine QL rfl rfl rfl rfl rfl ?_
 refine zM ?_
 refine QG 23 rfl rfl rfl ?_
 refine zK (Qi rfl Jq) ?_
 refine zK (Qd rfl Qr (fun hg=>by exact QY.h0 rfl)) ?_
 refine qg (vs:=[_,_,_]) rfl Yj (fun hg=>ZY I _ _ _) ?_
 refine QL rfl rfl rfl rfl rfl ?_
 refine zM ?_
 refine QG 28 rfl rfl rfl ?_
 refine zK (Qi rfl Jh) ?_
 refine zK (Qd rfl Qr (fun hg=>by exact QY.h0 rfl)) ?_
 refine qg (vs:=[_,_,_]) rfl Yj (fun hg=>ZY I _ _ _) ?_
 refine QL rfl rfl rfl rfl rfl ?_
 refine zM ?_
 refine QG 33 rfl rfl rfl ?_
 refine zK (Qi rfl Ju) ?_
 refine zK (Qd rfl Qr (fun hg=>by exact QY.h0 rfl)) ?_
 refine qg (vs:=[_,_,_]) rfl Yj (fun hg=>ZY I _ _ _) ?_
 refine QL rfl rfl rfl rfl rfl ?_
 refine zM ?_
 refine QG 38 rfl rfl rfl ?_
 refine zK (Qi rfl Jk) ?_
 refine zK (Qd rfl Qr (fun hg=>by exact QY.h0 rfl)) ?_
 refine qg (vs:=[_,_,_]) rfl Yj (fun hg=>ZY I _ _ _) ?_
 refine QL rfl rfl rfl rfl rfl ?_
 refine zM ?_
 refine QG 43 rfl rfl rfl ?_
 refine zK (Qi rfl Jg) ?_
 refine zK (Qd rfl Qr (fun hg=>by exact QY.h0 rfl)) ?_
 refine qg (vs:=[_,_,_]) rfl Yj (fun hg=>ZY I _ _ _) ?_
 refine QL rfl rfl rfl rfl rfl ?_
 refine zM ?_
 refine QG 48 rfl rfl rfl ?_
 refine zK (Qi rfl VY) ?_
 refine zK (Qq rfl VJ (fun hg=>by exact Cells.s0 (vs:=[_,_]) rfl) rfl) ?_
 refine zK (Qi rfl V1) ?_
 refine zK (Qq rfl VJ (fun hg=>by exact Cells.s0 (vs:=[_,_]) rfl) rfl) ?_
 refine qg (vs:=[_,_]) rfl zjj (fun hg=>zjF I _ _ _ _) ?_
 refine QL rfl rfl rfl rfl rfl ?_
 refine zA (zN (Qs ?_))
 exact zr rfl rfl (by rfl)
theorem zfE {I:Qw}{av:Option Addr}{n c:Nat}{xs:List Sg}(hS:Sl I 14 Vy av n c xs)(hn:n≤100000):Zu Tryz.prog 102 [.slice av n c] I (.int .i64 (WM xs)):=by
 intro g H w hw
 refine qe Tryz.func102 Tryz.ntmps102 hw ?_
 refine zR (zA (zN (Qk (zR ?_))))
 refine zM ?_
 refine zQ VF ?_
 refine zC (zN ?_)
 refine zI ?_ ?_<;>intro hc7
 ·
  have h6:xs.length>4096:=by rw [hS.len];simp at hc7;omega
  refine zR (zA (zN (Qs (Qb ?_))))
  first
  | exact zr rfl rfl (by unfold WM;rw [if_pos h6])
 have h6:¬xs.length>4096:=by rw [hS.len];simp at hc7;omega
 refine Qo (Qa (Qk (zR (zM ?_))))
 refine zQ VF ?_
 refine zM (zN (Ql ?_))
 refine zU [(0,_),(8,_),(9,_)] (fun T L0 mz E I' loc'=>∃ (k:Nat),mz=n-k∧E=(10,.int .i64 k)::T∧I=I'∧L0=loc'∧k≤n∧(List.range k).all (skP xs)=true) ?_ (h:=⟨0,rfl,rfl,rfl,rfl,Nat.zero_le _,rfl⟩)
 rintro mz E I' loc' ⟨k,rfl,rfl,rfl,rfl,hk,hall⟩
 refine zR (zC (zN (Qk ?_)))
 refine zI ?_ ?_<;>intro hc11
 ·
  have hlt_k:k<n:=by have h:=hc11;simp at h;omega
  obtain ⟨x,hx⟩:=hS.at hlt_k
  refine Qo (Qa (Qk (Ql (zR (zM ?_)))))
  refine zV (Qz rfl rfl VF (by assumption) (fun hg=>by omega)) ?_
  refine zV (Qq rfl ZI (fun hg=>by exact zAm hS hx) rfl) ?_
  refine Qv Wg rfl rfl (fun b_4=>?_)
  refine zA ?_
  refine zh Y5 ?_
  refine zN (Qk ?_)
  refine Yq mixed (by kernel_rfl) ?_
  refine zq (Qq rfl ZI (fun hg=>by exact Cells.g0) rfl) ?_
  refine Vs (cap:=[]) (vs:=[_]) rfl rfl ziQ (zqx I _) rfl rfl ?_
  refine zq (Yw rfl) ?_
  refine zq (Qh rfl) ?_
  refine YP 3 rfl rfl rfl ?_
  refine zj (Qh rfl) ?_
  refine zj (QI rfl rfl rfl) ?_
  refine zj (Qh rfl) ?_
  refine U7 6 rfl rfl rfl ?_
  refine zk (Qh rfl) ?_
  refine zk (Qh rfl) ?_
  refine zk (ZA rfl rfl rfl (fun hg=>by omega)) ?_
  refine zk (Qz rfl rfl VF (by assumption) (fun hg=>by (simp [ZV] at hg;omega))) ?_
  refine zk (Qi rfl Z9) ?_
  refine zk (Qd rfl Qr (fun hg=>by exact zAe (k:=((k:Int)-1).toNat) hS (QX (d:=Vw) hS.len (by simp [ZV] at hg;omega)) rfl)) ?_
  refine zk (Qi rfl Z9) ?_
  refine zk (Qd rfl Qr (fun hg=>by exact QY.h0 rfl)) ?_
  refine zk (QI rfl rfl rfl) ?_
  refine zca rfl rfl rfl (.some rfl rfl rfl rfl gbf) rfl rfl ?_
  refine Ke rfl rfl rfl rfl rfl ?_
  refine Yp ?_
  refine Qa ?_
  refine zI ?_ ?_<;>intro hc32
  ·
   refine zR (zA (zN (Qs (Qm (Qb (Qb (Qm ?_)))))))
   refine Qb ?_
   first
   | exact zr rfl rfl (by unfold WM skB;rw [if_neg h6,JB (k:=k) (by rw [hS.len];exact hlt_k) (by rw [zdl hx,hc32];rfl)];rfl)
  refine Qo (Qg (Qa (Qf (zB ?_))))
  refine zM (Qc ?_)
  exact zm (h:=⟨n-(k+1),by omega,k+1,rfl,rfl,rfl,rfl,by omega,VP hall (by rw [zdl hx,hc32];rfl)⟩)
 have hge_k:n≤k:=by have h:=hc11;simp at h;omega
 refine QH (Qe (Qe (Qj (Qa (zR (zA (zN ?_)))))))
 refine Qs ?_
 first
 | exact zr rfl rfl (by unfold WM skB;rw [if_neg h6,hS.len,show n=k by omega,hall];rfl)
end
section
open Go Go.Kn Go.Proofs
structure Wr where
 no:Int
 yr:Int
 rs:List Rd
def zlw (I:Qw)(av:Option Addr)(n c:Nat)(ws:List Wt)(xs:List Wr):Prop:=Sl I 3 zpG av n c ws∧ws.length=xs.length∧∀ (k:Nat) (w:Wt) (x:Wr),ws[k]? =some w→xs[k]? =some x→w.no=x.no∧w.yr=x.yr∧Sl I 15 Wa w.a w.n w.c x.rs
def SlW (I:Qw)(av:Option Addr)(n c:Nat)(xs:List Wr):Prop:=∃ ws:List Wt,zlw I av n c ws xs
theorem zlw.mono {I I':Qw}{av:Option Addr}{n c:Nat}{ws:List Wt}{xs:List Wr}(h:zlw I av n c ws xs)(hI:HLe I I'):zlw I' av n c ws xs:=
 ⟨h.1.mono hI,h.2.1,fun k w x h1 h2=>⟨(h.2.2 k w x h1 h2).1,(h.2.2 k w x h1 h2).2.1,(h.2.2 k w x h1 h2).2.2.mono hI⟩⟩
theorem SlW.mono {I I':Qw}{av:Option Addr}{n c:Nat}{xs:List Wr}(h:SlW I av n c xs)(hI:HLe I I'):SlW I' av n c xs:=by
 obtain ⟨ws,h⟩:=h;exact ⟨ws,h.mono hI⟩
theorem zlw.len {I:Qw}{av:Option Addr}{n c:Nat}{ws:List Wt}{xs:List Wr}(h:zlw I av n c ws xs):xs.length=n:=by rw [←h.2.1];exact h.1.len
theorem zlw.at {I:Qw}{av:Option Addr}{n c:Nat}{ws:List Wt}{xs:List Wr}(h:zlw I av n c ws xs){k:Nat}(hk:k<n):∃ w x,ws[k]? =some w∧xs[k]? =some x∧w.no=x.no∧w.yr=x.yr∧Sl I 15 Wa w.a w.n w.c x.rs:=by
 obtain ⟨w,hw⟩:=h.1.at hk
 have hl:=h.len
 obtain ⟨x,hx⟩:∃ x,xs[k]? =some x:=⟨_,List.getElem?_eq_getElem (by omega)⟩
 exact ⟨w,x,hw,hx,h.2.2 k w x hw hx⟩
def zx1 (xs:List Wr):Bool:=decide (xs.length≤5)&&xs.all fun x=>decide (x.rs.length≤8)
theorem zuv {I:Qw}{av:Option Addr}{n c:Nat}{ws:List Wt}{xs:List Wr}(h:zlw I av n c ws xs):zpv ws=zx1 xs:=by
 unfold zpv zx1
 rw [h.2.1]
 congr 1
 rw [Bool.eq_iff_iff,List.all_eq_true,List.all_eq_true]
 constructor
 ·
  intro ha x hx
  obtain ⟨k,hk,e⟩:=List.mem_iff_getElem.1 hx
  obtain ⟨w,x',hw,hx',_,_,hs⟩:=h.at (k:=k) (by rw [←h.len];exact hk)
  have:x'=x:=by rw [List.getElem?_eq_getElem hk,e] at hx';exact (Option.some.inj hx').symm
  subst this
  have:=ha w (List.mem_of_getElem? hw)
  rw [hs.len];exact this
 ·
  intro ha w hw
  obtain ⟨k,hk,e⟩:=List.mem_iff_getElem.1 hw
  obtain ⟨w',x,hw',hx',_,_,hs⟩:=h.at (k:=k) (by rw [←h.1.len];exact hk)
  have:w'=w:=by rw [List.getElem?_eq_getElem hk,e] at hw';exact (Option.some.inj hw').symm
  subst this
  have:=ha x (List.mem_of_getElem? hx')
  rw [←hs.len];exact this
def zaT (x y:Sg):Bool:=x.id==y.id&&(x.role==y.role&&(x.bar==y.bar&&(x.mark==y.mark&&(x.kind==y.kind&&(x.side==y.side&&(x.dir==y.dir&&(x.level==y.level&&(x.size==y.size&&(x.wth==y.wth&&(x.fn==y.fn&&(x.fd==y.fd&&(x.tn==y.tn&&(x.td==y.td&&true)))))))))))))
theorem zcn {x y:Sg}:zaT x y=true↔x=y:=by
 obtain ⟨a1,a2,a3,a4,a5,a6,a7,a8,a9,a10,a11,a12,a13,a14⟩:=x
 obtain ⟨b1,b2,b3,b4,b5,b6,b7,b8,b9,b10,b11,b12,b13,b14⟩:=y
 simp [zaT]
instance : DecidableEq Sg := fun a b => decidable_of_iff (zaT a b = true) zcn
def zhS (r:Rd):Bool:=(r.lost&& !zaT r.sg Vw)||(!r.lost&&((r.sg.id != 0)||(WM [r.sg] != 0)))
theorem zp0 {r:Rd}(h:r.lost=true)(b:Bool)(h2:(!zaT r.sg Vw)=b):zhS r=b:=by unfold zhS;rw [h,h2];cases b<;>rfl
theorem zv3 {r:Rd}(h:r.lost=false)(h2:(r.sg.id != 0)=true):zhS r=true:=by unfold zhS;rw [h,h2];rfl
theorem zui {r:Rd}(h:r.lost=false)(h2:(r.sg.id != 0)=false):zhS r=(WM [r.sg] != 0):=by unfold zhS;rw [h,h2];simp
theorem zm9 (r:Rd):(r.lost=true∧(!zaT r.sg Vw)=true)∨(r.lost=true∧(!zaT r.sg Vw)=false)∨(r.lost=false∧(r.sg.id != 0)=true)∨(r.lost=false∧(r.sg.id != 0)=false):=by
 cases r.lost<;>cases (!zaT r.sg Vw)<;>cases (r.sg.id != 0)<;>simp
def zoO (l:Int)(x:Wr):Bool:=((decide (x.no≤l)||decide (x.no>1048576))||decide (x.yr<0))||decide (x.yr>3000)
def U4:Int→List Wr→Bool
 | _,[]=>true
 | l,x::xs=> !zoO l x&&(!x.rs.any zhS&&U4 x.no xs)
def Xw (xs:List Wr):Int:=if xs.length>24 then 2 else if xs.any (fun x=>decide (x.rs.length>64))=true then 2 else if U4 0 xs=true then 0 else 410
theorem zxx {xs:List Wr}(h:xs.length>24):Xw xs=2:=by unfold Xw;rw [if_pos h]
theorem zuy {xs:List Wr}(h:¬xs.length>24)(h2:xs.any (fun x=>decide (x.rs.length>64))=true):Xw xs=2:=by unfold Xw;rw [if_neg h,if_pos h2]
theorem zge {xs:List Wr}(h:¬xs.length>24)(h2:xs.any (fun x=>decide (x.rs.length>64))=false)(h3:U4 0 xs=false):Xw xs=410:=by unfold Xw;rw [if_neg h,h2,h3];rfl
theorem zw6 {xs:List Wr}(h:¬xs.length>24)(h2:xs.any (fun x=>decide (x.rs.length>64))=false)(h3:U4 0 xs=true):Xw xs=0:=by unfold Xw;rw [if_neg h,h2,h3];rfl
theorem ziB {xs:List Wr}{k:Nat}{l:Int}{x:Wr}(hx:xs[k]? =some x)(hb:zoO l x=true):U4 l (xs.drop k)=false:=by rw [Z5 hx];unfold U4;rw [hb];rfl
theorem zbw {xs:List Wr}{k:Nat}{l:Int}{x:Wr}{r:Rd}{j:Nat}(hx:xs[k]? =some x)(hr:x.rs[j]? =some r)(hb:zhS r=true):U4 l (xs.drop k)=false:=by
 rw [Z5 hx];unfold U4
 rw [show x.rs.any zhS=true from List.any_eq_true.2 ⟨r,List.mem_of_getElem? hr,hb⟩];simp
theorem zht {xs:List Wr}{k:Nat}{l:Int}{x:Wr}(hx:xs[k]? =some x)(hb:zoO l x=false)(hr:x.rs.any zhS=false):U4 l (xs.drop k)=U4 x.no (xs.drop (k+1)):=by
 rw [Z5 hx]
 show (!zoO l x&&(!x.rs.any zhS&&U4 x.no (xs.drop (k+1))))=_
 rw [hb,hr];rfl
theorem ziy {xs:List Wr}{k:Nat}{l:Int}(h:xs.length≤k):U4 l (xs.drop k)=true:=by rw [List.drop_eq_nil_of_le h];rfl
end
end Go.Proofs.YtodakphagkommaaGreatDoor
namespace Go.Kn
section
open Go
section
variable {C:Cx} {Q:Exit→Act→World→Prop} {E G:Env} {I I' I0:Qw} {loc loc' loc0 L R:Loc} {ops:Array Oper} {rest:List Oper} {S:GS}
variable {dst:Option Nat} {d:Nat} {ty:TypeId} {pos:String} {af:Array Edge} {gd:Option (Nat×Bool)} {x y z:Operand} {a b c:Int}
theorem zsi {k:IntKind}{ats:Array TypeId}(hx:QE S E x=some (.int k a))(hy:QE S E y=some (.int k b))(hz:QE S E z=some (.int k c)):QZ C S E I loc ⟨dst,.call ⟨.builtin .min, #[x,y,z],ats⟩,ty,pos,af,gd⟩ (.int k (JQ (JQ a b) c)):=
 .of (by intro c e;cases e) fun ac w ha hg hc hw=>by
  simp only [execOp,resolve,List.map_toArray,List.map_cons,List.map_nil,Qn ha hg hc hx,Qn ha hg hc hy,Qn ha hg hc hz,Sem.run_bind,Sem.run_pure,Result.andThen,invoke,builtin];rfl
def zm6 (u:Value)(want:Bool):Bool:=match u with | .bool b=>b != want | _=>true
theorem zcP {j dj:Nat}{want:Bool}{oj o:Oper}{u:Value}{N:Nat}{D:List Deferred}{a:Act}(hg:o.guard=some (j,want))(hj:ops[j]? =some oj)(hd:oj.dst=some dj)(ha:Kz N D E a)(hl:V3 E dj=some u)(hu:zm6 u want=true):Region.wanted o (yielded ops a.tmps)=false:=by
 have h:=ha.env _ _ hl
 simp only [Region.wanted,hg]
 cases u with
 | bool b0=>
  rw [KU hj hd h]
  cases b0<;>cases want<;>first | rfl | cases hu
 | _=>
  have hy:yielded ops a.tmps j=none:=by
   unfold yielded
   simp only [hj,Option.bind_some,hd]
   cases e:a.tmps[dj]? with
   | none=>rfl
   | some v=>
    simp [e] at h;rw [h]
  rw [hy];rfl
theorem Q1 {op:Op}{j dj:Nat}{want:Bool}{oj:Oper}{u:Value}(hj:ops[j]? =some oj)(hd:oj.dst=some dj)(hl:V3 E dj=some u)(hu:zm6 u want=true)(hN:Nat.blt d C.N=true)
  (h:XO C Q ops rest [] ((d,undef)::E) I loc):XO C Q ops (⟨some d,op,ty,pos,af,some (j,want)⟩::rest) [] E I loc:=by
 intro a w ha hg hw
 simp only [wpListIn]
 rw [zcP (o:=⟨some d,op,ty,pos,af,some (j,want)⟩) rfl hj hd ha hl hu]
 simp only [Bool.false_eq_true,if_false]
 exact ⟨fun _ _=>trivial,h _ _ (ha.put hN undef) trivial hw⟩
theorem zmY (i:Nat){j dj fuel:Nat}{want:Bool}{oj:Oper}{listed:Array Bool}{op:Op}{u:Value}(hi:ops[i]? =some ⟨some d,op,ty,pos,af,some (j,want)⟩)(hj:ops[j]? =some oj)(hd:oj.dst=some dj)(hlk:V3 E dj=some u)(hu:zm6 u want=true)
  (hdf:∀ c,op≠ .defer c)(hN:Nat.blt d C.N=true)
  (hs:Region.noSelect ops=true)(hfr:Region.free .any ops listed i=true)(hr:(Region.ready .any ops listed).contains i=true)(hQ:UM Q)(hI:HLe I0 I)(hl:KF loc0 loc)
  (h:XD C Q ops I0 loc0 fuel (listed.setIfInBounds i true) [] ((d,undef)::E) I loc):XD C Q ops I0 loc0 (fuel+1) listed [] E I loc:=by
 intro a w ha hg hw
 have hp:=ha.put hN undef
 refine K2 (v:=undef) hi hdf (Region.noSelect_spec hs) (fun c a w=>hQ c a d _ w) fuel listed a w (Region.free_spec hi hfr) (by simpa using hr) ?_ ((hw.mono hI).subL hl) (h _ _ hp trivial hw)
 exact .inr ⟨by rw [zcP (o:=⟨some d,op,ty,pos,af,some (j,want)⟩) rfl hj hd ha hlk hu],rfl⟩
theorem zW (i dj:Nat){j fuel:Nat}{want:Bool}{oj:Oper}{listed:Array Bool}{op:Op}{u:Value}(hI:HLe I0 I)(h:XD C Q ops I0 loc0 fuel (listed.setIfInBounds i true) [] ((d,undef)::E) I loc)(hi:ops[i]? =some ⟨some d,op,ty,pos,af,some (j,want)⟩:=by exact rfl)(hj:ops[j]? =some oj:=by exact rfl)(hd:oj.dst=some dj:=by exact rfl)(hlk:V3 E dj=some u:=by exact rfl)(hu:zm6 u want=true:=by exact rfl)
  (hdf:∀ c,op≠ .defer c:=by (intro c e;cases e))(hN:Nat.blt d C.N=true:=by exact rfl)(hs:Region.noSelect ops=true:=by kernel_rfl)(hfr:Region.free .any ops listed i=true:=by kernel_rfl)(hr:(Region.ready .any ops listed).contains i=true:=by kernel_rfl)(hQ:UM Q:=by exact zkd)(hl:KF loc0 loc:=by repeat (first | exact .refl | exact Ui | refine .keep ?_ | refine .drop ?_ | refine Ya ?_)):XD C Q ops I0 loc0 (fuel+1) listed [] E I loc:=zmY i hi hj hd hlk hu hdf hN hs hfr hr hQ hI hl h
end
end
end Go.Kn
namespace Go.Proofs.YtodakphagkommaaGreatDoor
section
open Go Go.Kn Go.Proofs
theorem zaX:AgT Tryz.prog 65 3:=.of (by kernel_rfl)
theorem Uw:ElT Tryz.prog 48 54 14 112:=.of (by kernel_rfl)
theorem zaq:zzf Tryz.prog 54 [.int,.int,.int,.int,.int,.int,.int,.int,.int,.int,.int,.int,.int,.int]:=⟨by kernel_rfl,by kernel_rfl,by kernel_rfl,by kernel_rfl⟩
theorem zbO:Q3 Tryz.prog 65 0 0:=.of (by kernel_rfl)
theorem zgV:Q3 Tryz.prog 65 1 1:=.of (by kernel_rfl)
theorem ze4:Fun Tryz.prog 102:=.of Tryz.func102 (by kernel_rfl) (by kernel_rfl)
theorem ziz:SzT Tryz.prog 65 3:=.of (by kernel_rfl)
theorem ztU:Yz Tryz.prog 65 (.agg #[(.int .i64 0),(.int .i64 0),(.slice none 0 0)]):=.of (by kernel_rfl)
theorem zwz {I:Qw}{av:Option Addr}{n c:Nat}{xs:List Wr}(hW:SlW I av n c xs)(hn:n≤100000):Zu Tryz.prog 58 [.slice av n c] I (.int .i64 (Xw xs)):=by
 intro g H w hw
 refine qe Tryz.func58 Tryz.ntmps58 hw ?_
 have hIc:=zAl I
 obtain ⟨ws,hW⟩:=hW
 have hH:=hW.1
 have hlW:=hW.len
 refine zR (zA (zN (Qk (zR ?_))))
 refine zM ?_
 refine zQ VI ?_
 refine zC (zN ?_)
 refine zI ?_ ?_<;>intro hc12
 ·
  have h1:xs.length>24:=by rw [hlW];simp at hc12;omega
  refine zR (zA (zN (Qs (Qb ?_))))
  exact zp hIc rfl rfl (by rw [zxx h1])
 have h1:¬xs.length>24:=by rw [hlW];simp at hc12;omega
 refine Qo (Qa (Qk (zR (zM ?_))))
 refine zQ VI ?_
 refine zM (zN (Ql ?_))
 refine zU [(0,_),(13,_),(14,_)] (fun T L0 mz E I' loc'=>∃ (k:Nat),mz=n-k∧E=(15,.int .i64 k)::T∧I=I'∧L0=loc'∧k≤n∧(xs.take k).any (fun x=>decide (x.rs.length>64))=false) ?_ (h:=⟨0,rfl,rfl,rfl,rfl,Nat.zero_le _,rfl⟩)
 rintro mz E I' loc' ⟨k,rfl,rfl,rfl,rfl,hk,hno⟩
 refine zR (zC (zN (Qk ?_)))
 refine zI ?_ ?_<;>intro hc16
 ·
  have hlt_k:k<n:=by have h:=hc16;simp at h;omega
  obtain ⟨w,x,hx,hv,e1,e2,hR⟩:=hW.at hlt_k
  refine Qo (Qa (Qk (Ql (zR ?_))))
  refine zV (zX VI hH) ?_
  refine zV (Qq rfl zaX (fun hg=>by exact zAm hH hx) rfl) ?_
  refine Qv ztU rfl rfl (fun b_4=>?_)
  refine zh ziz ?_
  refine zN (zR ?_)
  refine zF Wp ?_
  refine zL zdA ?_
  refine zQ zaf ?_
  refine zC (zN ?_)
  refine zI ?_ ?_<;>intro hc22
  ·
   have h2:xs.any (fun x=>decide (x.rs.length>64))=true:=YM hv (by rw [hR.len];have h:=hc22;simp at h ⊢;omega)
   refine zR (zA (zN (Qs (Qm (Qb (Qb (Qm ?_)))))))
   refine Qb ?_
   exact zp hIc rfl rfl (by rw [zuy h1 h2])
  refine Qo (Qg (Qa (Qf (zB ?_))))
  refine zM (Qc ?_)
  exact zm (h:=⟨n-(k+1),by omega,k+1,rfl,rfl,rfl,rfl,by omega,Ym hv hno (by rw [hR.len];have h:=hc22;simp at h ⊢;omega)⟩)
 have hge_k:n≤k:=by have h:=hc16;simp at h;omega
 rw [Zo hlW hge_k] at hno
 refine QH (Qe (Qe (Qj (Qa (zR (zA (zN ?_)))))))
 refine Qk (zR (zM ?_))
 refine zQ VI ?_
 refine zM (zN (Ql ?_))
 refine zU [(24,_),(25,_)] (fun T L0 mz E I' loc'=>∃ (k:Nat) (l:Int),mz=n-k∧E=(5,.int .i64 l)::(26,.int .i64 k)::T∧HLe I I'∧L0=loc'∧k≤n∧U4 0 xs=U4 l (xs.drop k)) ?_ (h:=⟨0,0,rfl,rfl,zAl _,rfl,Nat.zero_le _,rfl⟩)
 rintro mz E J2 loc' ⟨k,l,rfl,rfl,hJ,rfl,hk,hgo⟩
 have hW:=hW.mono hJ;have hH:=hH.mono hJ;have hIc:=hIc.trans hJ
 have hB2:=hJ
 refine zR (zC (zN (Qk ?_)))
 refine zI ?_ ?_<;>intro hc27
 ·
  have hlt_k:k<n:=by have h:=hc27;simp at h;omega
  obtain ⟨w,x,hx,hv,e1,e2,hR⟩:=hW.at hlt_k
  have hrn:=hR.len
  have hR64:w.n≤64:=by have:=List.any_eq_false.1 hno x (List.mem_of_getElem? hv);simp at this;omega
  refine Qo (Qa (Qk (Ql (zR ?_))))
  refine zV (zX VI hH) ?_
  refine zV (Qq rfl zaX (fun hg=>by exact zAm hH hx) rfl) ?_
  refine Qv ztU rfl rfl (fun b_7=>?_)
  refine zh ziz ?_
  refine zN (Qk (zR ?_))
  refine zF zbO ?_
  refine zL Qr ?_
  refine zM ?_
  refine zC ?_
  refine zM ?_
  refine QV 4 rfl rfl rfl ?_
  refine zJ (Qi rfl zbO) ?_
  refine zJ (Qd rfl Qr (fun hg=>by exact QY.h0 rfl)) ?_
  refine zJ (QI rfl rfl rfl) ?_
  refine Zs rfl rfl rfl rfl rfl ?_
  refine zM ?_
  refine QV 9 rfl rfl rfl ?_
  refine zJ (Qi rfl zgV) ?_
  refine zJ (Qd rfl Qr (fun hg=>by exact QY.h0 rfl)) ?_
  refine zJ (QI rfl rfl rfl) ?_
  refine Zs rfl rfl rfl rfl rfl ?_
  refine zM ?_
  refine QV 14 rfl rfl rfl ?_
  refine zJ (Qi rfl zgV) ?_
  refine zJ (Qd rfl Qr (fun hg=>by exact QY.h0 rfl)) ?_
  refine zJ (QI rfl rfl rfl) ?_
  refine Zs rfl rfl rfl rfl rfl ?_
  refine zN ?_
  refine zI ?_ ?_<;>intro hc48
  ·
   have hbw:zoO l x=true:=by unfold zoO;rw [←e1,←e2];exact hc48
   refine zR (zA (zN (Qs (Qb (Qm (Qb (Qb ?_)))))))
   refine Qm (Qb ?_)
   exact zp hIc rfl rfl (by rw [zge h1 hno (hgo.trans (ziB hv hbw))])
  have hbw:zoO l x=false:=by unfold zoO;rw [←e1,←e2];exact hc48
  refine Qo (Qa (zR ?_))
  refine zF zbO ?_
  refine zL Qr ?_
  refine zA ?_
  refine zN (zR ?_)
  refine zF Wp ?_
  refine zL zdA ?_
  refine zQ zaf ?_
  refine zM (zN (Ql ?_))
  refine zU [(5,_),(24,_),(25,_),(26,_),(52,_),(53,_)] (fun T L0 mz E I' loc'=>∃ (j:Nat),mz=w.n-j∧E=(54,.int .i64 j)::T∧HLe J2 I'∧[(b_7,.cells (zpG w).toArray 65 (0,0))]=loc'∧j≤w.n∧(x.rs.take j).any zhS=false) ?_ (h:=⟨0,rfl,rfl,zAl _,rfl,Nat.zero_le _,rfl⟩)
  rintro mz E J3 loc' ⟨j,rfl,rfl,hJ,rfl,hj,hnr⟩
  have hR:=hR.mono hJ;have hIc:=hIc.trans hJ;have hB2:=hB2.trans hJ
  have hB4:=hJ
  refine zR (zC (zN (Qk ?_)))
  refine zI ?_ ?_<;>intro hc55
  ·
   have hlt_j:j<w.n:=by have h:=hc55;simp at h;omega
   obtain ⟨r,hr⟩:=hR.at hlt_j
   refine Qo (Qa (Qk (Ql (zR ?_))))
   refine zV (zX zaf hR) ?_
   refine zV (Qq rfl zgk (fun hg=>by exact zAm hR hr) rfl) ?_
   refine Qv zmc rfl rfl (fun b_9=>?_)
   refine zh zf5 ?_
   refine zN (Qk ?_)
   obtain ⟨hlo,hz⟩ | ⟨hlo,hz⟩ | ⟨hlo,hz⟩ | ⟨hlo,hz⟩:=zm9 r
   ·
    have hbr:=zp0 hlo true hz
    refine Qf ?_
    refine zF Jj ?_
    refine zL zb4 ?_
    rw [hlo]
    refine zM ?_
    refine QS (dj:=60) rfl rfl rfl ?_
    refine zF JR ?_
    refine QS (dj:=60) rfl rfl rfl ?_
    refine zV (Qq rfl ZI (fun hg=>by exact Cells.s0 (vs:=[_,_,_,_,_,_,_,_,_,_,_,_,_,_]) rfl) rfl) ?_
    refine QS (dj:=60) rfl rfl rfl ?_
    refine zV (QQ (ps:=[]) [_,_,_,_,_,_,_,_,_,_,_,_,_,_] KA rfl rfl) ?_
    refine QS (dj:=60) rfl rfl rfl ?_
    refine zV (v:=.bool (!zaT r.sg Vw)) (zik rfl rfl zaq rfl) ?_
    rw [hz]
    refine zV (ZR rfl rfl rfl) ?_
    refine zM ?_
    refine Q1 (dj:=66) rfl rfl rfl rfl rfl ?_
    refine Q1 (dj:=66) rfl rfl rfl rfl rfl ?_
    refine Q1 (dj:=66) rfl rfl rfl rfl rfl ?_
    refine Q1 (dj:=66) rfl rfl rfl rfl rfl ?_
    refine Q1 (dj:=70) rfl rfl rfl rfl rfl ?_
    refine Q1 (dj:=70) rfl rfl rfl rfl rfl ?_
    refine Q1 (dj:=70) rfl rfl rfl rfl rfl ?_
    refine Q1 (dj:=70) rfl rfl rfl rfl rfl ?_
    refine Q1 (dj:=70) rfl rfl rfl rfl rfl ?_
    refine Q1 (dj:=75) rfl rfl rfl rfl rfl ?_
    refine Q1 (dj:=75) rfl rfl rfl rfl rfl ?_
    refine Q1 (dj:=75) rfl rfl rfl rfl rfl ?_
    refine Q1 (dj:=75) rfl rfl rfl rfl rfl ?_
    refine Q1 (dj:=75) rfl rfl rfl rfl rfl ?_
    refine Q1 (dj:=70) rfl rfl rfl rfl rfl ?_
    refine Q1 (dj:=66) rfl rfl rfl rfl rfl ?_
    refine zV (Va rfl rfl rfl) ?_
    refine zN ?_
    refine zI ?_ ?_<;>intro hc83
    ·
     refine zR (zA (zN (Qs (Qm (Qb (Qb (Qm ?_)))))))
     refine Qm (Qb (Qb (Qm (Qb ?_))))
     exact zp hIc rfl rfl (by rw [zge h1 hno (hgo.trans (zbw hv hr hbr))])
    cases hc83
   ·
    have hbr:=zp0 hlo false hz
    refine Qf ?_
    refine zF Jj ?_
    refine zL zb4 ?_
    rw [hlo]
    refine zM ?_
    refine QS (dj:=60) rfl rfl rfl ?_
    refine zF JR ?_
    refine QS (dj:=60) rfl rfl rfl ?_
    refine zV (Qq rfl ZI (fun hg=>by exact Cells.s0 (vs:=[_,_,_,_,_,_,_,_,_,_,_,_,_,_]) rfl) rfl) ?_
    refine QS (dj:=60) rfl rfl rfl ?_
    refine zV (QQ (ps:=[]) [_,_,_,_,_,_,_,_,_,_,_,_,_,_] KA rfl rfl) ?_
    refine QS (dj:=60) rfl rfl rfl ?_
    refine zV (v:=.bool (!zaT r.sg Vw)) (zik rfl rfl zaq rfl) ?_
    rw [hz]
    refine zV (ZR rfl rfl rfl) ?_
    refine zM ?_
    refine QS (dj:=66) rfl rfl rfl ?_
    refine zF Jj ?_
    refine QS (dj:=66) rfl rfl rfl ?_
    refine zL zb4 ?_
    rw [hlo]
    refine QS (dj:=66) rfl rfl rfl ?_
    refine zO ?_
    refine QS (dj:=66) rfl rfl rfl ?_
    refine zM ?_
    refine Q1 (dj:=70) rfl rfl rfl rfl rfl ?_
    refine Q1 (dj:=70) rfl rfl rfl rfl rfl ?_
    refine Q1 (dj:=70) rfl rfl rfl rfl rfl ?_
    refine Q1 (dj:=70) rfl rfl rfl rfl rfl ?_
    refine Q1 (dj:=70) rfl rfl rfl rfl rfl ?_
    refine Q1 (dj:=75) rfl rfl rfl rfl rfl ?_
    refine Q1 (dj:=75) rfl rfl rfl rfl rfl ?_
    refine Q1 (dj:=75) rfl rfl rfl rfl rfl ?_
    refine Q1 (dj:=75) rfl rfl rfl rfl rfl ?_
    refine Q1 (dj:=75) rfl rfl rfl rfl rfl ?_
    refine Q1 (dj:=70) rfl rfl rfl rfl rfl ?_
    refine QS (dj:=66) rfl rfl rfl ?_
    refine zV (Va rfl rfl rfl) ?_
    refine zV (ZR rfl rfl rfl) ?_
    refine zN ?_
    refine zI ?_ ?_<;>intro hc83
    ·
     cases hc83
    refine Qo (Qg (Qa (Qf (zB ?_))))
    refine zM (Qc ?_)
    exact zm (h:=⟨w.n-(j+1),by omega,j+1,rfl,rfl,hB4,rfl,by omega,Ym hr hnr hbr⟩)
   ·
    have hbr:=zv3 hlo hz
    refine Qf ?_
    refine zF Jj ?_
    refine zL zb4 ?_
    rw [hlo]
    refine zM ?_
    refine Q1 (dj:=60) rfl rfl rfl rfl rfl ?_
    refine Q1 (dj:=60) rfl rfl rfl rfl rfl ?_
    refine Q1 (dj:=60) rfl rfl rfl rfl rfl ?_
    refine Q1 (dj:=60) rfl rfl rfl rfl rfl ?_
    refine zV (Va rfl rfl rfl) ?_
    refine zM ?_
    refine QS (dj:=66) rfl rfl rfl ?_
    refine zF Jj ?_
    refine QS (dj:=66) rfl rfl rfl ?_
    refine zL zb4 ?_
    rw [hlo]
    refine QS (dj:=66) rfl rfl rfl ?_
    refine zO ?_
    refine QS (dj:=66) rfl rfl rfl ?_
    refine zM ?_
    refine QS (dj:=70) rfl rfl rfl ?_
    refine zF JR ?_
    refine QS (dj:=70) rfl rfl rfl ?_
    refine zF Z9 ?_
    refine QS (dj:=70) rfl rfl rfl ?_
    refine zL Qr ?_
    refine QS (dj:=70) rfl rfl rfl ?_
    refine zC ?_
    rw [hz]
    refine QS (dj:=70) rfl rfl rfl ?_
    refine zM ?_
    refine Q1 (dj:=75) rfl rfl rfl rfl rfl ?_
    refine Q1 (dj:=75) rfl rfl rfl rfl rfl ?_
    refine Q1 (dj:=75) rfl rfl rfl rfl rfl ?_
    refine Q1 (dj:=75) rfl rfl rfl rfl rfl ?_
    refine Q1 (dj:=75) rfl rfl rfl rfl rfl ?_
    refine QS (dj:=70) rfl rfl rfl ?_
    refine zV (Va rfl rfl rfl) ?_
    refine QS (dj:=66) rfl rfl rfl ?_
    refine zV (ZR rfl rfl rfl) ?_
    refine zV (ZR rfl rfl rfl) ?_
    refine zN ?_
    refine zI ?_ ?_<;>intro hc83
    ·
     refine zR (zA (zN (Qs (Qm (Qb (Qb (Qm ?_)))))))
     refine Qm (Qb (Qb (Qm (Qb ?_))))
     exact zp hIc rfl rfl (by rw [zge h1 hno (hgo.trans (zbw hv hr hbr))])
    cases hc83
   have hbr:=zui hlo hz
   refine Qf ?_
   refine zF Jj ?_
   refine zL zb4 ?_
   rw [hlo]
   refine zM ?_
   refine Q1 (dj:=60) rfl rfl rfl rfl rfl ?_
   refine Q1 (dj:=60) rfl rfl rfl rfl rfl ?_
   refine Q1 (dj:=60) rfl rfl rfl rfl rfl ?_
   refine Q1 (dj:=60) rfl rfl rfl rfl rfl ?_
   refine zV (Va rfl rfl rfl) ?_
   refine zM ?_
   refine QS (dj:=66) rfl rfl rfl ?_
   refine zF Jj ?_
   refine QS (dj:=66) rfl rfl rfl ?_
   refine zL zb4 ?_
   rw [hlo]
   refine QS (dj:=66) rfl rfl rfl ?_
   refine zO ?_
   refine QS (dj:=66) rfl rfl rfl ?_
   refine zM ?_
   refine QS (dj:=70) rfl rfl rfl ?_
   refine zF JR ?_
   refine QS (dj:=70) rfl rfl rfl ?_
   refine zF Z9 ?_
   refine QS (dj:=70) rfl rfl rfl ?_
   refine zL Qr ?_
   refine QS (dj:=70) rfl rfl rfl ?_
   refine zC ?_
   rw [hz]
   refine QS (dj:=70) rfl rfl rfl ?_
   refine zM ?_
   refine QS (dj:=75) rfl rfl rfl ?_
   refine zF JR ?_
   refine QS (dj:=75) rfl rfl rfl ?_
   refine zV (Qq rfl ZI (fun hg=>by exact Cells.s0 (vs:=[_,_,_,_,_,_,_,_,_,_,_,_,_,_]) rfl) rfl) ?_
   refine QS (dj:=75) rfl rfl rfl ?_
   refine Qp (ps:=[(0,_)]) (m:=[Vy r.sg]) Uw rfl (.cons rfl (.nil)) rfl (by simp [Z8]) (by decide) (by decide) rfl rfl (fun b_78=>?_)
   refine Z1 (b:=b_78) (by repeat (first | exact Zc.here | apply Zc.there)) (fun I4 hI4 hb4=>?_)
   have hIc:=hIc.trans hI4;have hB4:=hB4.trans hI4
   have hSg:Sl I4 14 Vy (some ⟨b_78,0,none⟩) 1 1 [r.sg]:=Sl.lit [r.sg] rfl Z8 (show _=some (Obj.cells ([r.sg].flatMap Vy).toArray 54 (0,0)) from hb4)
   refine QS (dj:=75) rfl rfl rfl ?_
   refine qc (vs:=[_]) rfl ze4 (zfE hSg (by decide)) ?_
   refine QS (dj:=75) rfl rfl rfl ?_
   refine zC ?_
   refine QS (dj:=70) rfl rfl rfl ?_
   refine zV (ZR rfl rfl rfl) ?_
   refine QS (dj:=66) rfl rfl rfl ?_
   refine zV (ZR rfl rfl rfl) ?_
   refine zV (ZR rfl rfl rfl) ?_
   refine zN ?_
   refine zI ?_ ?_<;>intro hc83
   ·
    have hbr:=hbr.trans hc83
    refine zR (zA (zN (Qs (Qm (Qb (Qb (Qm ?_)))))))
    refine Qm (Qb (Qb (Qm (Qb ?_))))
    exact zp hIc rfl rfl (by rw [zge h1 hno (hgo.trans (zbw hv hr hbr))])
   have hbr:=hbr.trans hc83
   refine Qo (Qg (Qa (Qf (zB ?_))))
   refine zM (Qc ?_)
   exact zm (h:=⟨w.n-(j+1),by omega,j+1,rfl,rfl,hB4,rfl,by omega,Ym hr hnr hbr⟩)
  have hge_j:w.n≤j:=by have h:=hc55;simp at h;omega
  rw [Zo hrn hge_j] at hnr
  refine QH (Qe (Qe (Qj (Qg (Qa (Qf (zB ?_)))))))
  refine zM (Qc ?_)
  exact zm (h:=⟨n-(k+1),by omega,k+1,_,rfl,rfl,hB2,rfl,by omega,by rw [hgo,zht hv hbw hnr,e1]⟩)
 have hge_k:n≤k:=by have h:=hc27;simp at h;omega
 rw [ziy (by omega)] at hgo
 refine QH (Qe (Qe (Qj (Qa (zR (zA (zN ?_)))))))
 refine Qs ?_
 exact zp hIc rfl rfl (by rw [zw6 h1 hno hgo])
end
section
open Go Go.Kn Go.Proofs
def lcG:Nat→List Int→List Int→Int
 | _,[],ys=>2*(ys.length:Int)
 | _,x::xs,[]=>2*((x::xs).length:Int)
 | 0,_::_,_::_=>0
 | f+1,x::xs,y::ys=>JQ (JQ (zgn x y+lcG f xs ys) (2+lcG f xs (y::ys))) (2+lcG f (x::xs) ys)
theorem Jp:∀ (f:Nat) (xs ys:List Int),xs.length+ys.length≤f→lcG f xs ys=lcG (xs.length+ys.length) xs ys
 | _,[],ys,_=>by simp [lcG]
 | _,x::xs,[],_=>by simp [lcG]
 | 0,_::_,_::_,h=>by simp at h
 | f+1,x::xs,y::ys,h=>by
  simp only [List.length_cons] at h
  have e:(x::xs).length+(y::ys).length=(xs.length+ys.length+1)+1:=by simp only [List.length_cons];omega
  rw [e]
  simp only [lcG]
  rw [Jp f xs ys (by omega),Jp f xs (y::ys) (by simp only [List.length_cons];omega),Jp f (x::xs) ys (by simp only [List.length_cons];omega)]
  rw [Jp (xs.length+ys.length+1) xs ys (by omega),Jp (xs.length+ys.length+1) xs (y::ys) (by simp only [List.length_cons];omega),Jp (xs.length+ys.length+1) (x::xs) ys (by simp only [List.length_cons];omega)]
theorem zeC (x y:Int):0≤zgn x y∧zgn x y≤3:=by unfold zgn;split<;>omega
theorem zig {a b:Int}:JQ a b≤a∧JQ a b≤b∧(JQ a b=a∨JQ a b=b):=by unfold JQ;split<;>omega
theorem zfk:∀ (f:Nat) (xs ys:List Int),0≤lcG f xs ys∧lcG f xs ys≤2*((xs.length:Int)+ys.length)
 | _,[],ys=>by simp only [lcG,List.length_nil];omega
 | _,x::xs,[]=>by simp only [lcG,List.length_nil];omega
 | 0,_::_,_::_=>by simp only [lcG];omega
 | f+1,x::xs,y::ys=>by
  have h1:=zfk f xs ys
  have h2:=zfk f xs (y::ys)
  have h3:=zfk f (x::xs) ys
  have hb:=zeC x y
  simp only [lcG]
  have m1:=@zig (zgn x y+lcG f xs ys) (2+lcG f xs (y::ys))
  have m2:=@zig (JQ (zgn x y+lcG f xs ys) (2+lcG f xs (y::ys))) (2+lcG f (x::xs) ys)
  simp only [List.length_cons] at*
  omega
def LC (a b:List Int)(i k:Nat):Int:=lcG ((a.drop i).length+(b.drop k).length) (a.drop i) (b.drop k)
theorem ziL {a b:List Int}{i k:Nat}(hi:i≤a.length)(hk:k≤b.length)(h:i=a.length∨k=b.length):LC a b i k=2*((a.length:Int)-i+b.length-k):=by
 unfold LC
 rcases h with rfl | rfl
 ·
  rw [List.drop_length];simp only [lcG,List.length_drop];omega
 ·
  rw [List.drop_length]
  cases h:a.drop i with
  | nil=>have:=congrArg List.length h;simp at this;simp only [lcG,List.length_nil];omega
  | cons x xs=>have:=congrArg List.length h;simp only [List.length_drop] at this;simp only [lcG];omega
theorem zss {a b:List Int}{i k:Nat}{x y:Int}(hx:a[i]? =some x)(hy:b[k]? =some y):LC a b i k=JQ (JQ (zgn x y+LC a b (i+1) (k+1)) (2+LC a b (i+1) k)) (2+LC a b i (k+1)):=by
 unfold LC
 rw [Z5 hx,Z5 hy]
 have e:(x::a.drop (i+1)).length+(y::b.drop (k+1)).length=((a.drop (i+1)).length+(b.drop (k+1)).length+1)+1:=by simp only [List.length_cons];omega
 rw [e]
 simp only [lcG]
 rw [Jp (_+1) (a.drop (i+1)) (b.drop (k+1)) (by omega),Jp (_+1) (a.drop (i+1)) (y::b.drop (k+1)) (by simp only [List.length_cons];omega),Jp (_+1) (x::a.drop (i+1)) (b.drop (k+1)) (by simp only [List.length_cons];omega)]
theorem zyB (a b:List Int)(i k:Nat):0≤LC a b i k∧LC a b i k≤2*((a.length:Int)+b.length):=by
 have h:=zfk ((a.drop i).length+(b.drop k).length) (a.drop i) (b.drop k)
 unfold LC
 simp only [List.length_drop] at*
 omega
def UX (a b:List Int)(i k:Nat)(v:Int):Prop:=v=LC a b i k
theorem UX.inn {a b:List Int}{i k:Nat}{v:Int}(h:UX a b i k v):0≤v∧v≤2*((a.length:Int)+b.length):=by unfold UX at h;rw [h];exact zyB a b i k
theorem UX.fin {a b:List Int}{i k:Nat}(hi:i≤a.length)(hk:k≤b.length)(h:i=a.length∨k=b.length):UX a b i k (2*((a.length:Int)-i+b.length-k)):=(ziL hi hk h).symm
theorem UX.step {a b:List Int}{i k:Nat}{x y A B C:Int}(hx:a[i]? =some x)(hy:b[k]? =some y)(hA:UX a b (i+1) (k+1) A)(hB:UX a b (i+1) k B)(hC:UX a b i (k+1) C):UX a b i k (JQ (JQ (zgn x y+A) (2+B)) (2+C)):=by
 unfold UX at*;rw [zss hx hy,hA,hB,hC]
def MOK (a b:List Int)(m:List ((Int×Int)×Int)):Prop:=∀ (i k:Nat) (v:Int),ZH m ((i:Int),(k:Int))=some v→UX a b i k v
theorem MOK.nil {a b:List Int}:MOK a b []:=fun _ _ _ h=>by cases h
theorem MOK.set {a b:List Int}{m:List ((Int×Int)×Int)}(h:MOK a b m){i k:Nat}{v:Int}(hv:UX a b i k v):MOK a b (YE m ((i:Int),(k:Int)) v):=fun i' k' v' e=>by
 rw [YI] at e
 split at e
 ·
  rename_i h2
  simp only [Prod.mk.injEq] at h2
  obtain ⟨rfl,rfl⟩:i=i'∧k=k':=by omega
  cases e;exact hv
 ·
  exact h i' k' v' e
structure LsE (I:Qw)(fid ba bb bk bs r:Nat)(av bv:Option Addr)(n c n2 c2:Nat)(xs ys:List Int):Prop where
 a:QY I [] ba 0 (.slice av n c)
 b:QY I [] bb 0 (.slice bv n2 c2)
 kn:QY I [] bk 0 (.map (some r))
 se:QY I [] bs 0 (.func (.func fid) #[] #[Ze ba,Ze bb,Ze bk,Ze bs])
 hA:Sl I 1 QP av n c xs
 hB:Sl I 1 QP bv n2 c2 ys
theorem LsE.mono {I I':Qw}{fid ba bb bk bs r:Nat}{av bv:Option Addr}{n c n2 c2:Nat}{xs ys:List Int}(h:LsE I fid ba bb bk bs r av bv n c n2 c2 xs ys)(hI:HLe I I'):LsE I' fid ba bb bk bs r av bv n c n2 c2 xs ys:=
 ⟨h.a.mono hI,h.b.mono hI,h.kn.mono hI,h.se.mono hI,h.hA.mono hI,h.hB.mono hI⟩
def zcN:Int→Value:=Value.int .i64
/-! ### The pairs -/
def V9 (p:Int×Int):List Value:=[.int .i64 p.1,.int .i64 p.2]
theorem Ks (p:Int×Int):(V9 p).length=2:=rfl
theorem zhk (xs:List (Int×Int)):YD (xs.flatMap V9)=true:=Yv (fun _=>rfl) xs
def Xt (a b:List Int)(i k:Nat):Bool:=decide (i<a.length)&&decide (k<b.length)&&(LC a b i k==zgn (a.getD i 0) (b.getD k 0)+LC a b (i+1) (k+1))
def zhT (a b:List Int)(i k:Nat):Bool:=decide (i<a.length)&&(LC a b i k==2+LC a b (i+1) k)
def paF (a b:List Int):Nat→Nat→Nat→List (Int×Int)
 | 0,_,_=>[]
 | f+1,i,k=>
  if (decide (i<a.length)||decide (k<b.length))=true then
   if Xt a b i k=true then (((i+1:Nat):Int),((k+1:Nat):Int))::paF a b f (i+1) (k+1)
   else if zhT a b i k=true then (((i+1:Nat):Int),0)::paF a b f (i+1) k
   else (0,((k+1:Nat):Int))::paF a b f i (k+1)
  else []
def PaQ (a b:List Int)(pre:List (Int×Int))(i k:Nat):Prop:=∃ f,a.length-i+(b.length-k)≤f∧paF a b (a.length+b.length) 0 0=pre++paF a b f i k
theorem PaQ.start {a b:List Int}:PaQ a b [] 0 0:=⟨a.length+b.length,by omega,rfl⟩
theorem PaQ.fin {a b:List Int}{pre:List (Int×Int)}{i k:Nat}(h:PaQ a b pre i k)(hi:a.length≤i)(hk:b.length≤k):paF a b (a.length+b.length) 0 0=pre:=by
 obtain ⟨f,_,e⟩:=h
 rw [e]
 cases f with
 | zero=>simp [paF]
 | succ f=>unfold paF;rw [if_neg (by simp;omega),List.append_nil]
theorem PaQ.fuel {a b:List Int}{pre:List (Int×Int)}{i k:Nat}(h:PaQ a b pre i k)(hg:i<a.length∨k<b.length):∃ f,a.length-i+(b.length-k)≤f+1∧paF a b (a.length+b.length) 0 0=pre++paF a b (f+1) i k:=by
 obtain ⟨f,hf,e⟩:=h
 cases f with
 | zero=>omega
 | succ f=>exact ⟨f,hf,e⟩
theorem PaQ.both {a b:List Int}{pre:List (Int×Int)}{i k:Nat}(h:PaQ a b pre i k)(hb:Xt a b i k=true):PaQ a b (pre++[(((i+1:Nat):Int),((k+1:Nat):Int))]) (i+1) (k+1):=by
 have h1:i<a.length∧k<b.length:=by unfold Xt at hb;simp at hb;omega
 obtain ⟨f,hf,e⟩:=h.fuel (.inl h1.1)
 refine ⟨f,by omega,?_⟩
 rw [e]
 show pre++(if (decide (i<a.length)||decide (k<b.length))=true then _ else _)=_
 rw [if_pos (by simp;omega),if_pos hb,List.append_assoc];rfl
theorem PaQ.one {a b:List Int}{pre:List (Int×Int)}{i k:Nat}(h:PaQ a b pre i k)(hb:Xt a b i k=false)(ho:zhT a b i k=true):PaQ a b (pre++[(((i+1:Nat):Int),0)]) (i+1) k:=by
 have h1:i<a.length:=by unfold zhT at ho;simp at ho;omega
 obtain ⟨f,hf,e⟩:=h.fuel (.inl h1)
 refine ⟨f,by omega,?_⟩
 rw [e]
 show pre++(if (decide (i<a.length)||decide (k<b.length))=true then _ else _)=_
 rw [if_pos (by simp;omega),if_neg (by rw [hb];decide),if_pos ho,List.append_assoc];rfl
theorem ziK {a b:List Int}{i k:Nat}(hi:i≤a.length)(hk:k≤b.length)(hg:i<a.length∨k<b.length)(_hb:Xt a b i k=false)(ho:zhT a b i k=false):k<b.length:=by
 by_cases h:k<b.length
 ·
  exact h
 ·
  have hia:i<a.length:=by omega
  have e1:=ziL (a:=a) (b:=b) hi hk (.inr (by omega))
  have e2:=ziL (a:=a) (b:=b) (i:=i+1) (by omega) hk (.inr (by omega))
  unfold zhT at ho
  simp only [Bool.and_eq_false_iff,decide_eq_false_iff_not,beq_eq_false_iff_ne] at ho
  rcases ho with ho | ho
  ·
   omega
  ·
   omega
theorem PaQ.two {a b:List Int}{pre:List (Int×Int)}{i k:Nat}(h:PaQ a b pre i k)(hg:k<b.length)(hb:Xt a b i k=false)(ho:zhT a b i k=false):PaQ a b (pre++[(0,((k+1:Nat):Int))]) i (k+1):=by
 obtain ⟨f,hf,e⟩:=h.fuel (.inr hg)
 refine ⟨f,by omega,?_⟩
 rw [e]
 show pre++(if (decide (i<a.length)||decide (k<b.length))=true then _ else _)=_
 rw [if_pos (by simp;omega),if_neg (by rw [hb];decide),if_neg (by rw [ho];decide),List.append_assoc];rfl
def zl9 (a b:List Int):List (Int×Int):=paF a b (a.length+b.length) 0 0
def zd7 (c:Int):Bool:=(Jo c != 0)&&(c != 8589934592)
def zaD (a b:List Int):Int:=if a.length>64∨b.length>64 then 2 else if (a.any zd7||b.any zd7)=true then 410 else 0
theorem zoa {i k n m:Nat}(h:i<n∨k<m):(decide ((i:Int)<(n:Int))=true∧decide ((k:Int)<(m:Int))=true∧i<n∧k<m)∨(decide ((i:Int)<(n:Int))=true∧decide ((k:Int)<(m:Int))=false∧i<n∧m≤k)∨(decide ((i:Int)<(n:Int))=false∧decide ((k:Int)<(m:Int))=true∧n≤i∧k<m):=by
 by_cases h1:i<n
 ·
  by_cases h2:k<m
  ·
   exact .inl ⟨decide_eq_true (by omega),decide_eq_true (by omega),h1,h2⟩
  ·
   exact .inr (.inl ⟨decide_eq_true (by omega),decide_eq_false (by omega),h1,by omega⟩)
 ·
  exact .inr (.inr ⟨decide_eq_false (by omega),decide_eq_true (by omega),by omega,by omega⟩)
theorem zfw {a b:List Int}{i k:Nat}{x y V A:Int}{t:Bool}(hx:a[i]? =some x)(hy:b[k]? =some y)(hV:UX a b i k V)(hA:UX a b (i+1) (k+1) A)(h:(V==zgn x y+A)=t):Xt a b i k=t:=by
 have h1:=(List.getElem?_eq_some_iff.1 hx).1
 have h2:=(List.getElem?_eq_some_iff.1 hy).1
 unfold UX at hV hA
 unfold Xt
 rw [QN hx,QN hy,←hV,←hA,h,decide_eq_true h1,decide_eq_true h2];rfl
theorem zgg {a b:List Int}{i k:Nat}(h:a.length≤i∨b.length≤k):Xt a b i k=false:=by
 unfold Xt
 rcases h with h | h
 ·
  rw [decide_eq_false (show ¬i<a.length by omega)];rfl
 ·
  rw [decide_eq_false (show ¬k<b.length by omega),Bool.and_false];rfl
theorem zb1 {a b:List Int}{i k:Nat}{V B:Int}{t:Bool}(hi:i<a.length)(hV:UX a b i k V)(hB:UX a b (i+1) k B)(h:(V==2+B)=t):zhT a b i k=t:=by
 unfold UX at hV hB
 unfold zhT
 rw [←hV,←hB,h,decide_eq_true hi];rfl
theorem ztF {a b:List Int}{i k:Nat}(h:a.length≤i):zhT a b i k=false:=by
 unfold zhT
 rw [decide_eq_false (show ¬i<a.length by omega)];rfl
theorem zd6 {a b:List Int}(h:a.length>64∨b.length>64):zaD a b=2:=by unfold zaD;rw [if_pos h]
theorem ze3 {a b:List Int}(h:¬(a.length>64∨b.length>64))(h2:(a.any zd7||b.any zd7)=true):zaD a b=410:=by unfold zaD;rw [if_neg h,if_pos h2]
theorem zrO {a b:List Int}(h:¬(a.length>64∨b.length>64))(h2:(a.any zd7||b.any zd7)=false):zaD a b=0:=by unfold zaD;rw [if_neg h,h2];rfl
def Je (a b:List Int):List (Int×Int):=if zaD a b≠0 then [] else zl9 a b
def zzD (a b:List Int):Value→Qw→Go.Kn.Loc→Prop:=fun v I' L=>L=[]∧∃ z av c,v= .tuple #[.int .i64 z,.slice av (Je a b).length c,.int .i64 (zaD a b)]∧Sl I' 2 V9 av (Je a b).length c (Je a b)
theorem Wv {a b:List Int}(h:zaD a b≠0):Je a b=[]:=by unfold Je;rw [if_pos h]
theorem znI {a b:List Int}(h:zaD a b=0):Je a b=zl9 a b:=by unfold Je;rw [if_neg (by omega)]
theorem zkn {I:Qw}{av bv:Option Addr}{n c n2 c2:Nat}{xs ys:List Int}(hA:Sl I 1 QP av n c xs)(hB:Sl I 1 QP bv n2 c2 ys){q:Nat}(hq:q<2):∃ hd zs,([⟨av,n,c⟩,⟨bv,n2,c2⟩]:List Hd)[q]? =some hd∧([xs,ys]:List (List Int))[q]? =some zs∧Sl I 1 QP hd.a hd.n hd.c zs∧(hd.n=n∨hd.n=n2):=by
 rcases (show q=0∨q=1 by omega) with rfl | rfl
 ·
  exact ⟨_,xs,rfl,rfl,hA,.inl rfl⟩
 ·
  exact ⟨_,ys,rfl,rfl,hB,.inr rfl⟩
end
section
open Go Go.Kn Go.Proofs
theorem K3:Fun Tryz.prog 103:=.of Tryz.func103 (by kernel_rfl) (by kernel_rfl)
theorem ziG:Fun Tryz.prog 104:=.of Tryz.func104 (by kernel_rfl) (by kernel_rfl)
theorem zdk:Jr (α:=Int×Int) Tryz.prog 79 YR:=znB zgh
theorem zkx:MpT Tryz.prog 182 79 3 (.int .i64 0):=⟨by kernel_rfl,.of (by kernel_rfl)⟩
theorem KK:ScT Tryz.prog 177:=.of (by kernel_rfl)
theorem zin:ScT Tryz.prog 182:=.of (by kernel_rfl)
set_option maxHeartbeats 1600000 in
theorem zbe {I:Qw} {ba bb bk bs r:Nat} {av bv:Option Addr} {n c n2 c2:Nat} {xs ys:List Int} (hE:(LsE I 103 ba bb bk bs r av bv n c n2 c2 xs ys)) (hn:n≤100000) (hn2:n2≤100000) (i k:Nat) (hi:i≤xs.length) (hk:k≤ys.length) (m1:List ((Int×Int)×Int)) (hm1:MOK xs ys m1) (ihA:∀ (m':List ((Int×Int)×Int)),i<xs.length∧k<ys.length→MOK xs ys m'→Z4 Tryz.prog 103 ([.int .i64 ((i:Int)+1),.int .i64 ((k:Int)+1)]++[Ze ba,Ze bb,Ze bk,Ze bs]) I [(r,Z0 YR zcN m')] (fun v I' L'=>∃ A,UX xs ys (i+1) (k+1) A∧v= .int .i64 A∧I'=I∧∃ m',MOK xs ys m'∧L'=[(r,Z0 YR zcN m')])) (ihB:∀ (m':List ((Int×Int)×Int)),i<xs.length∧k<ys.length→MOK xs ys m'→Z4 Tryz.prog 103 ([.int .i64 ((i:Int)+1),.int .i64 ((k:Int))]++[Ze ba,Ze bb,Ze bk,Ze bs]) I [(r,Z0 YR zcN m')] (fun v I' L'=>∃ A,UX xs ys (i+1) (k) A∧v= .int .i64 A∧I'=I∧∃ m',MOK xs ys m'∧L'=[(r,Z0 YR zcN m')])) (ihC:∀ (m':List ((Int×Int)×Int)),i<xs.length∧k<ys.length→MOK xs ys m'→Z4 Tryz.prog 103 ([.int .i64 ((i:Int)),.int .i64 ((k:Int)+1)]++[Ze ba,Ze bb,Ze bk,Ze bs]) I [(r,Z0 YR zcN m')] (fun v I' L'=>∃ A,UX xs ys (i) (k+1) A∧v= .int .i64 A∧I'=I∧∃ m',MOK xs ys m'∧L'=[(r,Z0 YR zcN m')])):Z4 Tryz.prog 103 [.int .i64 i,.int .i64 k,Ze ba,Ze bb,Ze bk,Ze bs] I [(r,Z0 YR zcN m1)] (fun v I' L'=>∃ A,UX xs ys (i) (k) A∧v= .int .i64 A∧I'=I∧∃ m',MOK xs ys m'∧L'=[(r,Z0 YR zcN m')]):=by
 intro g H w hw
 refine qe Tryz.func103 Tryz.ntmps103 hw ?_
 have hAl:=hE.hA.len
 subst hAl
 have hBl:=hE.hB.len
 subst hBl
 refine zR (zA (zN (Qk (zR ?_))))
 refine zM ?_
 refine zV (Qd rfl QJ (fun hg=>by exact hE.a.any)) ?_
 refine zQ Qt ?_
 refine zC ?_
 refine zM ?_
 refine QV 4 rfl rfl rfl ?_
 refine zJ (Qh rfl) ?_
 refine zJ (Qd rfl QJ (fun hg=>by exact hE.b.any)) ?_
 refine zJ (ZB rfl Qt) ?_
 refine zJ (QI rfl rfl rfl) ?_
 refine Zs rfl rfl rfl rfl rfl ?_
 refine zN ?_
 refine zI ?_ ?_<;>intro hc20
 ·
  have hend:i=xs.length∨k=ys.length:=by have h:=hc20;simp at h;omega
  refine zR ?_
  refine zV (Qd rfl QJ (fun hg=>by exact hE.a.any)) ?_
  refine zQ Qt ?_
  refine zM ?_
  refine zB ?_
  refine zV (Qd rfl QJ (fun hg=>by exact hE.b.any)) ?_
  refine zQ Qt ?_
  refine zB ?_
  refine zM ?_
  refine zB ?_
  refine zB ?_
  refine zA (zN (Qs (Qb ?_)))
  exact Zq rfl rfl (fun w hw=>⟨_,_,_,rfl,zAl _,hw,_,UX.fin hi hk hend,rfl,rfl,m1,hm1,rfl⟩)
 have hlt:i<xs.length∧k<ys.length:=by have h:=hc20;simp at h;omega
 obtain ⟨x,hx⟩:=hE.hA.at hlt.1
 obtain ⟨y,hy⟩:=hE.hB.at hlt.2
 have hbn:=zeC x y
 refine Qo (Qa (zR ?_))
 refine zV (Qd rfl zin (fun hg=>by exact hE.kn.any)) ?_
 refine zM ?_
 refine zM ?_
 refine zV (ZC (ps:=[(0,_),(1,_)]) [_,_] Y1 KI rfl rfl) ?_
 refine zV (KQ (m:=m1) (ek:=YR) (a:=((i:Int),(k:Int))) zkx zdk rfl rfl (fun _=>(by exact Mem.m0))) ?_
 refine zM ?_
 refine zE ?_
 refine zE ?_
 refine zA ?_
 refine zA (zN (Qk (zR ?_)))
 refine zM ?_
 refine zO (zN ?_)
 refine zI ?_ ?_<;>intro hc40
 ·
  refine Qk ?_
  have hD:=zAl I
  refine JH ?_
  refine Z7 I [] mixed ?_
  refine zT 0 rfl (Qd rfl QJ (fun hg=>by exact hE.a.any)) hD ?_
  refine zT 1 rfl (Qh rfl) hD ?_
  refine zT 2 rfl (Qz rfl rfl Qt hE.hA (fun hg=>by omega)) hD ?_
  refine zT 3 rfl (Qd rfl Qr (fun hg=>by exact zAe hE.hA hx rfl)) hD ?_
  refine zT 4 rfl (Qd rfl QJ (fun hg=>by exact hE.b.any)) hD ?_
  refine zT 5 rfl (Qh rfl) hD ?_
  refine zT 6 rfl (Qz rfl rfl Qt hE.hB (fun hg=>by omega)) hD ?_
  refine zT 7 rfl (Qd rfl Qr (fun hg=>by exact zAe hE.hB hy rfl)) hD ?_
  refine zT 9 rfl (Qd rfl KK (fun hg=>by exact hE.se.any)) hD ?_
  refine zT 10 rfl (Qh rfl) hD ?_
  refine zT 11 rfl (ZA rfl rfl rfl (fun hg=>by omega)) hD ?_
  refine zT 12 rfl (Qh rfl) hD ?_
  refine zT 13 rfl (ZA rfl rfl rfl (fun hg=>by omega)) hD ?_
  refine zT 16 rfl (Qd rfl KK (fun hg=>by exact hE.se.any)) hD ?_
  refine zT 17 rfl (Qh rfl) hD ?_
  refine zT 18 rfl (ZA rfl rfl rfl (fun hg=>by omega)) hD ?_
  refine zT 19 rfl (Qh rfl) hD ?_
  refine zT 22 rfl (Qd rfl KK (fun hg=>by exact hE.se.any)) hD ?_
  refine zT 23 rfl (Qh rfl) hD ?_
  refine zT 24 rfl (Qh rfl) hD ?_
  refine zT 25 rfl (ZA rfl rfl rfl (fun hg=>by omega)) hD ?_
  refine qd 8 rfl ?_
  refine qc (vs:=[_,_]) rfl ziG (zfU I _ _) ?_
  refine Qc ?_
  refine zD hD ?_
  refine qd 14 rfl ?_
  refine QA (cap:=[Ze ba,Ze bb,Ze bk,Ze bs]) (vs:=[_,_]) rfl rfl K3 QD (ihA m1 hlt hm1) rfl rfl ?_
  rintro vv1 I1 L1 hI1 ⟨VA,hLA,rfl,rfl,m2,hm2,rfl⟩
  have hE:=hE.mono hI1;have hD:=hD.trans hI1
  have hbA:=hLA.inn
  refine Qc ?_
  refine zD hD ?_
  refine zT 15 rfl (ZA rfl rfl rfl (fun hg=>by omega)) hD ?_
  refine qd 20 rfl ?_
  refine QA (cap:=[Ze ba,Ze bb,Ze bk,Ze bs]) (vs:=[_,_]) rfl rfl K3 QD (ihB m2 hlt hm2) rfl rfl ?_
  rintro vv2 I2 L2 hI2 ⟨VB,hLB,rfl,rfl,m3,hm3,rfl⟩
  have hE:=hE.mono hI2;have hD:=hD.trans hI2
  have hbB:=hLB.inn
  refine Qc ?_
  refine zD hD ?_
  refine zT 21 rfl (ZA rfl rfl rfl (fun hg=>by omega)) hD ?_
  refine qd 26 rfl ?_
  refine QA (cap:=[Ze ba,Ze bb,Ze bk,Ze bs]) (vs:=[_,_]) rfl rfl K3 QD (ihC m3 hlt hm3) rfl rfl ?_
  rintro vv3 I3 L3 hI3 ⟨VC,hLC,rfl,rfl,m4,hm4,rfl⟩
  have hE:=hE.mono hI3;have hD:=hD.trans hI3
  have hbC:=hLC.inn
  refine Qc ?_
  refine zD hD ?_
  refine zT 27 rfl (ZA rfl rfl rfl (fun hg=>by omega)) hD ?_
  refine zT 28 rfl (zsi rfl rfl rfl) hD ?_
  refine zT 29 rfl (ZM rfl) hD ?_
  refine QK (by kernel_rfl) ?_
  refine QW ?_
  have hst:=UX.step hx hy hLA hLB hLC
  refine Qa (Qf ?_)
  refine zV (Qd rfl zin (fun hg=>by exact hE.kn.any)) ?_
  refine zM ?_
  refine zM ?_
  refine zV (ZC (ps:=[(0,_),(1,_)]) [_,_] Y1 KI rfl rfl) ?_
  refine zM ?_
  refine Zd (m:=m4) (ev:=zcN) (ek:=YR) (a:=((i:Int),(k:Int))) (JQ (JQ (zgn x y+VA) (2+VB)) (2+VC)) zkx zdk rfl rfl rfl rfl (by repeat (first | exact Upd.here | apply Upd.there | apply QM)) ?_
  refine zN (zR ?_)
  refine zM ?_
  refine zA (zN (Qs ?_))
  exact Zq rfl rfl (fun w hw=>⟨_,_,_,rfl,zAl _,hw,_,hst,rfl,rfl,_,hm4.set hst,rfl⟩)
 obtain ⟨v,hv⟩:=Option.isSome_iff_exists.1 (by simpa using hc40)
 have hv2:=hm1 i k v hv
 rw [hv]
 refine Qo (Qa (zR (zM ?_)))
 refine zA (zN (Qs ?_))
 exact Zq rfl rfl (fun w hw=>⟨_,_,_,rfl,zAl _,hw,_,hv2,rfl,rfl,m1,hm1,rfl⟩)
theorem zfe {I:Qw}{ba bb bk bs r:Nat}{av bv:Option Addr}{n c n2 c2:Nat}{xs ys:List Int}(hE:(LsE I 103 ba bb bk bs r av bv n c n2 c2 xs ys))(hn:n≤100000)(hn2:n2≤100000):∀ (q i k:Nat) (m1:List ((Int×Int)×Int)),xs.length+ys.length≤q+(i+k)→i≤xs.length→k≤ys.length→MOK xs ys m1→Z4 Tryz.prog 103 ([.int .i64 i,.int .i64 k]++[Ze ba,Ze bb,Ze bk,Ze bs]) I [(r,Z0 YR zcN m1)] (fun v I' L'=>∃ A,UX xs ys (i) (k) A∧v= .int .i64 A∧I'=I∧∃ m',MOK xs ys m'∧L'=[(r,Z0 YR zcN m')])
 | 0,i,k,m1,hq,hi,hk,hm=>zbe hE hn hn2 i k hi hk m1 hm (fun m' h=>by omega) (fun m' h=>by omega) (fun m' h=>by omega)
 | q+1,i,k,m1,hq,hi,hk,hm=>zbe hE hn hn2 i k hi hk m1 hm (fun m' h hm'=>zfe hE hn hn2 q (i+1) (k+1) m' (by omega) (by omega) (by omega) hm') (fun m' h hm'=>zfe hE hn hn2 q (i+1) k m' (by omega) (by omega) (by omega) hm') (fun m' h hm'=>zfe hE hn hn2 q i (k+1) m' (by omega) (by omega) (by omega) hm')
end
section
open Go Go.Kn Go.Proofs
theorem Kh:ElT Tryz.prog 41 79 2 16:=.of (by kernel_rfl)
theorem zld:Fun Tryz.prog 23:=.of Tryz.func23 (by kernel_rfl) (by kernel_rfl)
theorem ztX:SzT Tryz.prog 177 1:=.of (by kernel_rfl)
theorem zqs:SzT Tryz.prog 182 1:=.of (by kernel_rfl)
theorem zxm:Yz Tryz.prog 177 .nilFunc:=.of (by kernel_rfl)
theorem zua:Yz Tryz.prog 182 (.map none):=.of (by kernel_rfl)
theorem zu8 {I:Qw}{ba bb bk bs r:Nat}{av bv:Option Addr}{n c n2 c2:Nat}{xs ys:List Int}(hE:(LsE I 103 ba bb bk bs r av bv n c n2 c2 xs ys))(hn:n≤100000)(hn2:n2≤100000)(i k:Nat)(m1:List ((Int×Int)×Int))(h:i<xs.length∧k<ys.length)(hm:MOK xs ys m1):Z4 Tryz.prog 103 ([.int .i64 ((i:Int)+1),.int .i64 ((k:Int)+1)]++[Ze ba,Ze bb,Ze bk,Ze bs]) I [(r,Z0 YR zcN m1)] (fun v I' L'=>∃ A,UX xs ys (i+1) (k+1) A∧v= .int .i64 A∧I'=I∧∃ m',MOK xs ys m'∧L'=[(r,Z0 YR zcN m')]):=zfe hE hn hn2 (xs.length+ys.length) (i+1) (k+1) m1 (by omega) (by omega) (by omega) hm
theorem zpr {I:Qw}{ba bb bk bs r:Nat}{av bv:Option Addr}{n c n2 c2:Nat}{xs ys:List Int}(hE:(LsE I 103 ba bb bk bs r av bv n c n2 c2 xs ys))(hn:n≤100000)(hn2:n2≤100000)(i k:Nat)(m1:List ((Int×Int)×Int))(h:i<xs.length∧k≤ys.length)(hm:MOK xs ys m1):Z4 Tryz.prog 103 ([.int .i64 ((i:Int)+1),.int .i64 ((k:Int))]++[Ze ba,Ze bb,Ze bk,Ze bs]) I [(r,Z0 YR zcN m1)] (fun v I' L'=>∃ A,UX xs ys (i+1) (k) A∧v= .int .i64 A∧I'=I∧∃ m',MOK xs ys m'∧L'=[(r,Z0 YR zcN m')]):=zfe hE hn hn2 (xs.length+ys.length) (i+1) (k) m1 (by omega) (by omega) (by omega) hm
theorem zuL {I:Qw}{ba bb bk bs r:Nat}{av bv:Option Addr}{n c n2 c2:Nat}{xs ys:List Int}(hE:(LsE I 103 ba bb bk bs r av bv n c n2 c2 xs ys))(hn:n≤100000)(hn2:n2≤100000)(_i _k:Nat)(m1:List ((Int×Int)×Int))(_h:True)(hm:MOK xs ys m1):Z4 Tryz.prog 103 ([.int .i64 (0),.int .i64 (0)]++[Ze ba,Ze bb,Ze bk,Ze bs]) I [(r,Z0 YR zcN m1)] (fun v I' L'=>∃ A,UX xs ys (0) (0) A∧v= .int .i64 A∧I'=I∧∃ m',MOK xs ys m'∧L'=[(r,Z0 YR zcN m')]):=zfe hE hn hn2 (xs.length+ys.length) (0) (0) m1 (by omega) (by omega) (by omega) hm
set_option maxHeartbeats 1600000 in
theorem zxa {I:Qw} {av:Option Addr} {n c:Nat} {xs:List Int} (hA:Sl I 1 QP av n c xs) {bv:Option Addr} {n2 c2:Nat} {ys:List Int} (hB:Sl I 1 QP bv n2 c2 ys) (hnn:n≤1000000) (hnn2:n2≤1000000):Z4 Tryz.prog 60 [.slice av n c,.slice bv n2 c2] I [] (zzD xs ys):=by
 intro g H w hw
 refine qe Tryz.func60 Tryz.ntmps60 hw ?_
 have hIc:=zAl I
 have hlA:=hA.len
 subst hlA
 have hlB:=hB.len
 subst hlB
 refine zR ?_
 refine Q9 rfl rfl rfl (fun b_2=>?_)
 refine Q9 rfl rfl rfl (fun b_3=>?_)
 refine zA ?_
 refine zA ?_
 refine zA (zN (Qk (Qk ?_)))
 refine VN (fun I1 hI1 hall=>?_)
 have hA:=hA.mono hI1;have hB:=hB.mono hI1;have hIc:=hIc.trans hI1
 have hB2:QY I1 [] b_2 0 (.slice av xs.length c):=.imm (hall _ _ (by repeat (first | exact List.mem_cons_self .. | apply List.mem_cons_of_mem))) rfl
 have hB3:QY I1 [] b_3 0 (.slice bv ys.length c2):=.imm (hall _ _ (by repeat (first | exact List.mem_cons_self .. | apply List.mem_cons_of_mem))) rfl
 refine Qf ?_
 refine zV (Qd rfl QJ (fun hg=>by exact hB2.any)) ?_
 refine zQ Qt ?_
 refine zC ?_
 refine zM ?_
 refine QV 3 rfl rfl rfl ?_
 refine zJ (Qd rfl QJ (fun hg=>by exact hB3.any)) ?_
 refine zJ (ZB rfl Qt) ?_
 refine zJ (QI rfl rfl rfl) ?_
 refine Zs rfl rfl rfl rfl rfl ?_
 refine zN ?_
 refine zI ?_ ?_<;>intro hc25
 ·
  have hlong:xs.length>64∨ys.length>64:=by have h:=hc25;simp at h;omega
  refine zR (zA ?_)
  refine zA ?_
  refine zA (zN (Qs (Qb ?_)))
  first
  | exact KM rfl rfl rfl rfl (fun w hw=>⟨_,_,[],rfl,hIc,hw.drop,rfl,_,none,0,by rw [zd6 hlong,Wv (by rw [zd6 hlong];decide)];rfl,by rw [Wv (by rw [zd6 hlong];decide)];exact .nil⟩)
 have hlong:¬(xs.length>64∨ys.length>64):=by have h:=hc25;simp at h;omega
 refine Qo (Qa (Qk (zR ?_)))
 refine zV (Qd rfl QJ (fun hg=>by exact hB2.any)) ?_
 refine zV (Qd rfl QJ (fun hg=>by exact hB3.any)) ?_
 refine Qp (ps:=[(0,_),(1,_)]) (m:=[WL ⟨av,xs.length,c⟩,WL ⟨bv,ys.length,c2⟩]) UU rfl (.cons rfl (.cons rfl (.nil))) rfl (by simp [Zb]) (by decide) (by decide) rfl rfl (fun b_28=>?_)
 refine zQ Q0 ?_
 refine zM (Qc ?_)
 refine VN (fun I2 hI2 hall=>?_)
 have hA:=hA.mono hI2;have hB:=hB.mono hI2;have hB2:=hB2.mono hI2;have hB3:=hB3.mono hI2;have hIc:=hIc.trans hI2
 have hAB:Sl I2 1 WL (some ⟨b_28,0,none⟩) 2 2 ([⟨av,xs.length,c⟩,⟨bv,ys.length,c2⟩]:List Hd):=Sl.lit _ rfl Zb (show _=some (Obj.cells (([⟨av,xs.length,c⟩,⟨bv,ys.length,c2⟩]:List Hd).flatMap WL).toArray 23 (0,0)) from (hall _ _ (by repeat (first | exact List.mem_cons_self .. | apply List.mem_cons_of_mem))))
 refine Qa (Ql ?_)
 refine zU [(2,_),(3,_),(28,_),(29,_)] (fun T L0 mz E I' loc'=>∃ (z:Nat),mz=2-z∧E=(5,.slice none 0 0)::(30,.int .i64 z)::T∧I2=I'∧[]=loc'∧z≤2∧([xs,ys].take z).any (fun l=>l.any zd7)=false) ?_ (h:=⟨0,rfl,rfl,rfl,rfl,Nat.zero_le _,rfl⟩)
 rintro mz E I' loc' ⟨z,rfl,rfl,rfl,rfl,hz,hno⟩
 refine zR (zC (zN (Qk ?_)))
 refine zI ?_ ?_<;>intro hc31
 ·
  have hlt_z:z<2:=by have h:=hc31;simp at h;omega
  obtain ⟨hd,zs,hhd,hzs,hZ,hz2⟩:=zkn hA hB hlt_z
  refine Qo (Qa (Qk (Ql (zR ?_))))
  refine zV (zX Q0 hAB) ?_
  refine zV (Qd rfl QJ (fun hg=>by exact zAe hAB hhd rfl)) ?_
  refine zA ?_
  refine zN (zR ?_)
  refine zM ?_
  refine zQ Qt ?_
  refine zM (zN (Ql ?_))
  refine zU [(2,_),(3,_),(28,_),(29,_),(30,_),(34,_),(35,_)] (fun T L0 mz E I' loc'=>∃ (j:Nat),mz=hd.n-j∧E=(5,.slice none 0 0)::(36,.int .i64 j)::T∧I2=I'∧[]=loc'∧j≤hd.n∧(zs.take j).any zd7=false) ?_ (h:=⟨0,rfl,rfl,rfl,rfl,Nat.zero_le _,rfl⟩)
  rintro mz E I' loc' ⟨j,rfl,rfl,rfl,rfl,hj,hzb⟩
  refine zR (zC (zN (Qk ?_)))
  refine zI ?_ ?_<;>intro hc37
  ·
   have hlt_j:j<hd.n:=by have h:=hc37;simp at h;omega
   obtain ⟨cc,hz⟩:=hZ.at hlt_j
   refine Qo (Qa (Qk (Ql (zR ?_))))
   refine zV (zX Qt hZ) ?_
   refine zV (Qd rfl Qr (fun hg=>by exact zAe hZ hz rfl)) ?_
   refine zA ?_
   refine zN (zR ?_)
   refine zM ?_
   refine qc (vs:=[_]) rfl zld (zlb _ _) ?_
   refine zM ?_
   refine zE ?_
   refine zE ?_
   refine Qv Wg rfl rfl (fun b_11=>?_)
   refine zh Y5 ?_
   refine zA ?_
   refine zN (zR ?_)
   refine zM ?_
   refine zC ?_
   refine zM ?_
   refine QG 2 rfl rfl rfl ?_
   refine zK (Qh rfl) ?_
   refine zK (QI rfl rfl rfl) ?_
   refine QL rfl rfl rfl rfl rfl ?_
   refine zN ?_
   refine zI ?_ ?_<;>intro hc50
   ·
    have hbc:zd7 cc=true:=hc50
    have hyes:(xs.any zd7||ys.any zd7)=true:=by have h:=YM (p:=fun l:List Int=>l.any zd7) hzs (YM hz hbc);simpa using h
    refine zR (zA ?_)
    refine zA ?_
    refine zA (zN (Qs (Qm (Qb (Qb (Qm (Qm ?_)))))))
    refine Qb (Qb (Qm (Qb ?_)))
    first
    | exact KM rfl rfl rfl rfl (fun w hw=>⟨_,_,[],rfl,hIc,hw.drop,rfl,_,none,0,by rw [ze3 hlong hyes,Wv (by rw [ze3 hlong hyes];decide)];rfl,by rw [Wv (by rw [ze3 hlong hyes];decide)];exact .nil⟩)
   have hbc:zd7 cc=false:=hc50
   refine Qo (Qg (Qa (Qf (zB ?_))))
   refine zM (Qc ?_)
   exact zm (h:=⟨hd.n-(j+1),by omega,j+1,rfl,rfl,rfl,rfl,by omega,Ym hz hzb hbc⟩)
  have hge_j:hd.n≤j:=by have h:=hc37;simp at h;omega
  rw [Zo hZ.len hge_j] at hzb
  refine QH (Qe (Qe (Qj (Qg (Qa (Qf (zB ?_)))))))
  refine zM (Qc ?_)
  exact zm (h:=⟨2-(z+1),by omega,z+1,rfl,rfl,rfl,rfl,by omega,Ym hzs hno hzb⟩)
 have hge_z:2≤z:=by have h:=hc31;simp at h;omega
 rw [List.take_of_length_le (by simpa using hge_z)] at hno
 have hno2:(xs.any zd7||ys.any zd7)=false:=by simpa using hno
 refine QH (Qe (Qe (Qj (Qa (zR ?_)))))
 refine ZU rfl rfl (fun r_53=>?_)
 refine Qv zua rfl rfl (fun b_13=>?_)
 refine zS zqs ?_
 refine zN (zR ?_)
 refine Qv zxm rfl rfl (fun b_14=>?_)
 refine zN (zR ?_)
 refine zV (Zf (us:=[]) (vs:=[_,_,_,_]) rfl rfl) ?_
 refine zS ztX ?_
 refine zN (Qk (Qk ?_))
 refine Zn (b:=b_14) (by repeat (first | exact Zc.here | apply Zc.there)) (fun I5 hI5 hb5=>?_)
 have hA:=hA.mono hI5;have hB:=hB.mono hI5;have hB2:=hB2.mono hI5;have hB3:=hB3.mono hI5;have hIc:=hIc.trans hI5
 have hC14:QY I5 [] b_14 0 (.func (.func 103) #[] #[Ze b_2,Ze b_3,Ze b_13,Ze b_14]):=.imm hb5 rfl
 refine Zn (b:=b_13) (by repeat (first | exact Zc.here | apply Zc.there)) (fun I6 hI6 hb6=>?_)
 have hA:=hA.mono hI6;have hB:=hB.mono hI6;have hB2:=hB2.mono hI6;have hB3:=hB3.mono hI6;have hC14:=hC14.mono hI6;have hIc:=hIc.trans hI6
 have hC13:QY I6 [] b_13 0 (.map (some r_53)):=.imm hb6 rfl
 have hLE:LsE I6 103 b_2 b_3 b_13 b_14 r_53 av bv xs.length c ys.length c2 xs ys:=⟨hB2,hB3,hC13,hC14,hA,hB⟩
 refine Qf (zA ?_)
 refine zA (zN (Ql ?_))
 refine zU [(2,_),(3,_),(14,_)] (fun T L0 mz E I' loc'=>∃ (i k:Nat) (m:List ((Int×Int)×Int)) (pre:List (Int×Int)) (v5:Value) (q:Nat) (L:Go.Kn.Loc),mz=xs.length-i+(ys.length-k)∧E=(5,v5)::(15,.int .i64 i)::(16,.int .i64 k)::T∧HLe I6 I'∧L++[(r_53,Z0 YR zcN m)]=loc'∧i≤xs.length∧k≤ys.length∧MOK xs ys m∧PaQ xs ys pre i k∧OwnS 79 2 v5 q (pre.flatMap V9) L∧q≤i+k) ?_ (h:=⟨0,0,[],[],_,0,[],rfl,rfl,zAl _,rfl,Nat.zero_le _,Nat.zero_le _,.nil,.start,OwnS.nil,Nat.le_refl _⟩)
 rintro mz E J7 loc' ⟨i,k,m,pre,v5,q,L,rfl,rfl,hJ,rfl,hi,hk,hm,hpq,hO,hq⟩
 have hB2:=hB2.mono hJ;have hB3:=hB3.mono hJ;have hLE:=hLE.mono hJ;have hIc:=hIc.trans hJ
 have hB4:=hJ
 refine Qk (zR (zM ?_))
 refine zV (Qd rfl QJ (fun hg=>by exact hB2.any)) ?_
 refine zQ Qt ?_
 refine zC ?_
 refine zM ?_
 refine QV 4 rfl rfl rfl ?_
 refine zJ (Qh rfl) ?_
 refine zJ (Qd rfl QJ (fun hg=>by exact hB3.any)) ?_
 refine zJ (ZB rfl Qt) ?_
 refine zJ (QI rfl rfl rfl) ?_
 refine Zs rfl rfl rfl rfl rfl ?_
 refine zN ?_
 refine zI ?_ ?_<;>intro hc64
 ·
  have hor:i<xs.length∨k<ys.length:=by have h:=hc64;simp at h;omega
  refine Qo (Qa (Ql (zR ?_)))
  refine zV (Qd rfl KK (fun hg=>by exact hLE.se.any)) ?_
  refine zM ?_
  refine zM ?_
  refine QA (cap:=[Ze b_2,Ze b_3,Ze b_13,Ze b_14]) (vs:=[_,_]) rfl rfl K3 (by repeat (first | exact .cons .here .nil | exact QD | exact Qy | apply QC | apply QB)) (zfe hLE (by omega) (by omega) (xs.length+ys.length) i k m (by omega) hi hk hm) rfl rfl ?_
  rintro vv8 I8 L8 hI8 ⟨VV,hLV,rfl,rfl,m1,hm1,rfl⟩
  have hB2:=hB2.mono hI8;have hB3:=hB3.mono hI8;have hLE:=hLE.mono hI8;have hLE:=hLE.mono hI8;have hB4:=hB4.trans hI8
  have hbV:=hLV.inn
  refine zA (zN (Ql (Qk ?_)))
  obtain ⟨hd1,hd2,h5,h6⟩ | ⟨hd1,hd2,h5,h6⟩ | ⟨hd1,hd2,h5,h6⟩:=zoa hor
  ·
   obtain ⟨x,hx⟩:=hLE.hA.at h5
   obtain ⟨y,hy⟩:=hLE.hB.at h6
   have hbn:=zeC x y
   have hD:=zAl I8
   refine JH ?_
   refine Z7 I8 [] mixed ?_
   refine zT 0 rfl (Qh rfl) hD ?_
   refine zT 1 rfl (Qd rfl QJ (fun hg=>by exact hB2.any)) hD ?_
   refine zT 2 rfl (ZB rfl Qt) hD ?_
   refine zT 3 rfl (QI rfl rfl rfl) hD ?_
   rw [hd1]
   refine zT 4 rfl (Qh rfl) hD ?_
   refine zw 5 81 rfl (Qh rfl) hD ?_
   refine zw 6 81 rfl (Qd rfl QJ (fun hg=>by exact hB3.any)) hD ?_
   refine zw 7 81 rfl (ZB rfl Qt) hD ?_
   refine zw 8 81 rfl (QI rfl rfl rfl) hD ?_
   rw [hd2]
   refine zT 9 rfl (ZR rfl rfl rfl) hD ?_
   refine zT 10 rfl (Qh rfl) hD ?_
   refine zw 11 87 rfl (Qh rfl) hD ?_
   refine zw 12 87 rfl (Qd rfl QJ (fun hg=>by exact hB2.any)) hD ?_
   refine zw 13 87 rfl (Qh rfl) hD ?_
   refine zw 14 87 rfl (Qz rfl rfl Qt hLE.hA (fun hg=>by omega)) hD ?_
   refine zw 15 87 rfl (Qd rfl Qr (fun hg=>by exact zAe hLE.hA hx rfl)) hD ?_
   refine zw 16 87 rfl (Qd rfl QJ (fun hg=>by exact hB3.any)) hD ?_
   refine zw 17 87 rfl (Qh rfl) hD ?_
   refine zw 18 87 rfl (Qz rfl rfl Qt hLE.hB (fun hg=>by omega)) hD ?_
   refine zw 19 87 rfl (Qd rfl Qr (fun hg=>by exact zAe hLE.hB hy rfl)) hD ?_
   refine zw 21 87 rfl (Qd rfl KK (fun hg=>by exact hLE.se.any)) hD ?_
   refine zw 22 87 rfl (Qh rfl) hD ?_
   refine zw 23 87 rfl (ZA rfl rfl rfl (fun hg=>by omega)) hD ?_
   refine zw 24 87 rfl (Qh rfl) hD ?_
   refine zw 25 87 rfl (ZA rfl rfl rfl (fun hg=>by omega)) hD ?_
   refine qd 20 rfl ?_
   refine QS (dj:=87) rfl rfl rfl ?_
   refine qc (vs:=[_,_]) rfl ziG (zfU _ _ _) ?_
   refine Qc ?_
   refine zD hD ?_
   refine qd 26 rfl ?_
   refine QS (dj:=87) rfl rfl rfl ?_
   refine QA (cap:=[Ze b_2,Ze b_3,Ze b_13,Ze b_14]) (vs:=[_,_]) rfl rfl K3 (by repeat (first | exact .cons .here .nil | exact QD | exact Qy | apply QC | apply QB)) (zu8 hLE (by omega) (by omega) i k m1 (by omega) hm1) rfl rfl ?_
   rintro vv9 I9 L9 hI9 ⟨VA,hLA,rfl,rfl,m2,hm2,rfl⟩
   have hB2:=hB2.mono hI9;have hLE:=hLE.mono hI9;have hLE:=hLE.mono hI9;have hB4:=hB4.trans hI9;have hD:=hD.trans hI9
   have hbA:=hLA.inn
   refine Qc ?_
   refine zD hD ?_
   refine zw 27 87 rfl (ZA rfl rfl rfl (fun hg=>by omega)) hD ?_
   refine zw 28 87 rfl (QI rfl rfl rfl) hD ?_
   refine zT 29 rfl (ZR rfl rfl rfl) hD ?_
   refine zT 30 rfl (ZM rfl) hD ?_
   refine QK (by kernel_rfl) ?_
   refine QW ?_
   refine Qa ?_
   refine zI ?_ ?_<;>intro hc76
   ·
    have hbo:=zfw (t:=true) hx hy hLV hLA (by simpa using hc76)
    refine zR (zM ?_)
    refine zB ?_
    refine zM ?_
    refine zB ?_
    refine zA ?_
    refine zA (zN (Qf ?_))
    refine zM ?_
    refine zM ?_
    refine zM ?_
    refine zV (ZC (ps:=[(0,_),(1,_)]) [_,_] Y1 KI rfl rfl) ?_
    refine Qp (ps:=[(0,_)]) (m:=[V9 ((i:Int)+1,(k:Int)+1)]) Kh rfl (.cons rfl (.nil)) rfl (by simp [Ks]) (by decide) (by decide) rfl rfl (fun b_115=>?_)
    refine QU (v:=_) (ys:=[((i:Int)+1,(k:Int)+1)].flatMap V9) (L:=L) rfl rfl Kh hO (by repeat (first | exact .cons .here .nil | exact QD | exact Qy | apply QC | apply QB)) ⟨rfl,fun _=>rfl,by repeat (first | exact zAj | apply zAi | apply zAk)⟩ (zhk [((i:Int)+1,(k:Int)+1)]) (by omega) rfl rfl ?_
    intro v9 L9 hO9 _;rw [←List.flatMap_append] at hO9
    refine zA (Qc (Qg (Qg ?_)))
    exact zm (h:=⟨xs.length-(i+1)+(ys.length-(k+1)),by omega,i+1,k+1,_,_,_,_,_,rfl,rfl,hB4,rfl,by omega,by omega,hm2,hpq.both hbo,hO9,by omega⟩)
   have hbo:=zfw (t:=false) hx hy hLV hLA (by simpa using hc76)
   refine zR (zM ?_)
   refine zV (Qd rfl QJ (fun hg=>by exact hB2.any)) ?_
   refine zQ Qt ?_
   refine zC ?_
   rw [hd1]
   refine zM ?_
   refine QS (dj:=122) rfl rfl rfl ?_
   refine zM ?_
   refine QS (dj:=122) rfl rfl rfl ?_
   refine zV (Qd rfl KK (fun hg=>by exact hLE.se.any)) ?_
   refine QS (dj:=122) rfl rfl rfl ?_
   refine zM ?_
   refine QS (dj:=122) rfl rfl rfl ?_
   refine zB ?_
   refine QS (dj:=122) rfl rfl rfl ?_
   refine zM ?_
   refine QS (dj:=122) rfl rfl rfl ?_
   refine QA (cap:=[Ze b_2,Ze b_3,Ze b_13,Ze b_14]) (vs:=[_,_]) rfl rfl K3 (by repeat (first | exact .cons .here .nil | exact QD | exact Qy | apply QC | apply QB)) (zpr hLE (by omega) (by omega) i k m2 (by omega) hm2) rfl rfl ?_
   rintro vv10 I10 L10 hI10 ⟨VB,hLB,rfl,rfl,m3,hm3,rfl⟩
   have hB4:=hB4.trans hI10
   have hbB:=hLB.inn
   refine QS (dj:=122) rfl rfl rfl ?_
   refine zB ?_
   refine QS (dj:=122) rfl rfl rfl ?_
   refine zC ?_
   refine zV (ZR rfl rfl rfl) ?_
   refine zA (zN ?_)
   refine zI ?_ ?_<;>intro hc117
   ·
    have hon:=zb1 (t:=true) h5 hLV hLB (by simpa using hc117)
    refine zR (zM ?_)
    refine zB ?_
    refine zA (zN (Qf ?_))
    refine zM ?_
    refine zM ?_
    refine zV (ZC (ps:=[(0,_),(1,_)]) [_,_] Y1 KI rfl rfl) ?_
    refine Qp (ps:=[(0,_)]) (m:=[V9 ((i:Int)+1,(0:Int))]) Kh rfl (.cons rfl (.nil)) rfl (by simp [Ks]) (by decide) (by decide) rfl rfl (fun b_137=>?_)
    refine QU (v:=_) (ys:=[((i:Int)+1,(0:Int))].flatMap V9) (L:=L) rfl rfl Kh hO (by repeat (first | exact .cons .here .nil | exact QD | exact Qy | apply QC | apply QB)) ⟨rfl,fun _=>rfl,by repeat (first | exact zAj | apply zAi | apply zAk)⟩ (zhk [((i:Int)+1,(0:Int))]) (by omega) rfl rfl ?_
    intro v9 L9 hO9 _;rw [←List.flatMap_append] at hO9
    refine zA (Qc (Qg (Qg ?_)))
    exact zm (h:=⟨xs.length-(i+1)+(ys.length-(k)),by omega,i+1,k,_,_,_,_,_,rfl,rfl,hB4,rfl,by omega,by omega,hm3,hpq.one hbo hon,hO9,by omega⟩)
   have hon:=zb1 (t:=false) h5 hLV hLB (by simpa using hc117)
   refine zR (zM ?_)
   refine zB ?_
   refine zA (zN (Qf ?_))
   refine zM ?_
   refine zM ?_
   refine zV (ZC (ps:=[(0,_),(1,_)]) [_,_] Y1 KI rfl rfl) ?_
   refine Qp (ps:=[(0,_)]) (m:=[V9 ((0:Int),(k:Int)+1)]) Kh rfl (.cons rfl (.nil)) rfl (by simp [Ks]) (by decide) (by decide) rfl rfl (fun b_74=>?_)
   refine QU (v:=_) (ys:=[((0:Int),(k:Int)+1)].flatMap V9) (L:=L) rfl rfl Kh hO (by repeat (first | exact .cons .here .nil | exact QD | exact Qy | apply QC | apply QB)) ⟨rfl,fun _=>rfl,by repeat (first | exact zAj | apply zAi | apply zAk)⟩ (zhk [((0:Int),(k:Int)+1)]) (by omega) rfl rfl ?_
   intro v9 L9 hO9 _;rw [←List.flatMap_append] at hO9
   refine zA (Qc (Qg (Qg ?_)))
   exact zm (h:=⟨xs.length-(i)+(ys.length-(k+1)),by omega,i,k+1,_,_,_,_,_,rfl,rfl,hB4,rfl,by omega,by omega,hm3,hpq.two h6 hbo hon,hO9,by omega⟩)
  ·
   have hD:=zAl I8
   refine JH ?_
   refine Z7 I8 [] mixed ?_
   refine zT 0 rfl (Qh rfl) hD ?_
   refine zT 1 rfl (Qd rfl QJ (fun hg=>by exact hB2.any)) hD ?_
   refine zT 2 rfl (ZB rfl Qt) hD ?_
   refine zT 3 rfl (QI rfl rfl rfl) hD ?_
   rw [hd1]
   refine zT 4 rfl (Qh rfl) hD ?_
   refine zw 5 81 rfl (Qh rfl) hD ?_
   refine zw 6 81 rfl (Qd rfl QJ (fun hg=>by exact hB3.any)) hD ?_
   refine zw 7 81 rfl (ZB rfl Qt) hD ?_
   refine zw 8 81 rfl (QI rfl rfl rfl) hD ?_
   rw [hd2]
   refine zT 9 rfl (ZR rfl rfl rfl) hD ?_
   refine zT 10 rfl (Qh rfl) hD ?_
   refine zW 11 87 hD ?_
   refine zW 12 87 hD ?_
   refine zW 13 87 hD ?_
   refine zW 14 87 hD ?_
   refine zW 15 87 hD ?_
   refine zW 16 87 hD ?_
   refine zW 17 87 hD ?_
   refine zW 18 87 hD ?_
   refine zW 19 87 hD ?_
   refine zW 20 87 hD ?_
   refine zW 21 87 hD ?_
   refine zW 22 87 hD ?_
   refine zW 23 87 hD ?_
   refine zW 24 87 hD ?_
   refine zW 25 87 hD ?_
   refine zW 26 87 hD ?_
   refine zW 27 87 hD ?_
   refine zW 28 87 hD ?_
   refine zT 29 rfl (Va rfl rfl rfl) hD ?_
   refine zT 30 rfl (ZM rfl) hD ?_
   refine QK (by kernel_rfl) ?_
   refine QW ?_
   refine Qa ?_
   refine zI ?_ ?_<;>intro hc76
   ·
    cases hc76
   have hbo:=zgg (a:=xs) (b:=ys) (i:=i) (k:=k) (.inr h6)
   refine zR (zM ?_)
   refine zV (Qd rfl QJ (fun hg=>by exact hB2.any)) ?_
   refine zQ Qt ?_
   refine zC ?_
   rw [hd1]
   refine zM ?_
   refine QS (dj:=122) rfl rfl rfl ?_
   refine zM ?_
   refine QS (dj:=122) rfl rfl rfl ?_
   refine zV (Qd rfl KK (fun hg=>by exact hLE.se.any)) ?_
   refine QS (dj:=122) rfl rfl rfl ?_
   refine zM ?_
   refine QS (dj:=122) rfl rfl rfl ?_
   refine zB ?_
   refine QS (dj:=122) rfl rfl rfl ?_
   refine zM ?_
   refine QS (dj:=122) rfl rfl rfl ?_
   refine QA (cap:=[Ze b_2,Ze b_3,Ze b_13,Ze b_14]) (vs:=[_,_]) rfl rfl K3 (by repeat (first | exact .cons .here .nil | exact QD | exact Qy | apply QC | apply QB)) (zpr hLE (by omega) (by omega) i k m1 (by omega) hm1) rfl rfl ?_
   rintro vv11 I11 L11 hI11 ⟨VB,hLB,rfl,rfl,m3,hm3,rfl⟩
   have hB4:=hB4.trans hI11
   have hbB:=hLB.inn
   refine QS (dj:=122) rfl rfl rfl ?_
   refine zB ?_
   refine QS (dj:=122) rfl rfl rfl ?_
   refine zC ?_
   refine zV (ZR rfl rfl rfl) ?_
   refine zA (zN ?_)
   refine zI ?_ ?_<;>intro hc117
   ·
    have hon:=zb1 (t:=true) h5 hLV hLB (by simpa using hc117)
    refine zR (zM ?_)
    refine zB ?_
    refine zA (zN (Qf ?_))
    refine zM ?_
    refine zM ?_
    refine zV (ZC (ps:=[(0,_),(1,_)]) [_,_] Y1 KI rfl rfl) ?_
    refine Qp (ps:=[(0,_)]) (m:=[V9 ((i:Int)+1,(0:Int))]) Kh rfl (.cons rfl (.nil)) rfl (by simp [Ks]) (by decide) (by decide) rfl rfl (fun b_137=>?_)
    refine QU (v:=_) (ys:=[((i:Int)+1,(0:Int))].flatMap V9) (L:=L) rfl rfl Kh hO (by repeat (first | exact .cons .here .nil | exact QD | exact Qy | apply QC | apply QB)) ⟨rfl,fun _=>rfl,by repeat (first | exact zAj | apply zAi | apply zAk)⟩ (zhk [((i:Int)+1,(0:Int))]) (by omega) rfl rfl ?_
    intro v9 L9 hO9 _;rw [←List.flatMap_append] at hO9
    refine zA (Qc (Qg (Qg ?_)))
    exact zm (h:=⟨xs.length-(i+1)+(ys.length-(k)),by omega,i+1,k,_,_,_,_,_,rfl,rfl,hB4,rfl,by omega,by omega,hm3,hpq.one hbo hon,hO9,by omega⟩)
   have hon:=zb1 (t:=false) h5 hLV hLB (by simpa using hc117)
   exact absurd (ziK hi hk (.inl h5) hbo hon) (by omega)
  have hD:=zAl I8
  refine JH ?_
  refine Z7 I8 [] mixed ?_
  refine zT 0 rfl (Qh rfl) hD ?_
  refine zT 1 rfl (Qd rfl QJ (fun hg=>by exact hB2.any)) hD ?_
  refine zT 2 rfl (ZB rfl Qt) hD ?_
  refine zT 3 rfl (QI rfl rfl rfl) hD ?_
  rw [hd1]
  refine zT 4 rfl (Qh rfl) hD ?_
  refine zW 5 81 hD ?_
  refine zW 6 81 hD ?_
  refine zW 7 81 hD ?_
  refine zW 8 81 hD ?_
  refine zT 9 rfl (Va rfl rfl rfl) hD ?_
  refine zT 10 rfl (Qh rfl) hD ?_
  refine zW 11 87 hD ?_
  refine zW 12 87 hD ?_
  refine zW 13 87 hD ?_
  refine zW 14 87 hD ?_
  refine zW 15 87 hD ?_
  refine zW 16 87 hD ?_
  refine zW 17 87 hD ?_
  refine zW 18 87 hD ?_
  refine zW 19 87 hD ?_
  refine zW 20 87 hD ?_
  refine zW 21 87 hD ?_
  refine zW 22 87 hD ?_
  refine zW 23 87 hD ?_
  refine zW 24 87 hD ?_
  refine zW 25 87 hD ?_
  refine zW 26 87 hD ?_
  refine zW 27 87 hD ?_
  refine zW 28 87 hD ?_
  refine zT 29 rfl (Va rfl rfl rfl) hD ?_
  refine zT 30 rfl (ZM rfl) hD ?_
  refine QK (by kernel_rfl) ?_
  refine QW ?_
  refine Qa ?_
  refine zI ?_ ?_<;>intro hc76
  ·
   cases hc76
  have hbo:=zgg (a:=xs) (b:=ys) (i:=i) (k:=k) (.inl h5)
  refine zR (zM ?_)
  refine zV (Qd rfl QJ (fun hg=>by exact hB2.any)) ?_
  refine zQ Qt ?_
  refine zC ?_
  rw [hd1]
  refine zM ?_
  refine Q1 (dj:=122) rfl rfl rfl rfl rfl ?_
  refine Q1 (dj:=122) rfl rfl rfl rfl rfl ?_
  refine Q1 (dj:=122) rfl rfl rfl rfl rfl ?_
  refine Q1 (dj:=122) rfl rfl rfl rfl rfl ?_
  refine Q1 (dj:=122) rfl rfl rfl rfl rfl ?_
  refine Q1 (dj:=122) rfl rfl rfl rfl rfl ?_
  refine Q1 (dj:=122) rfl rfl rfl rfl rfl ?_
  refine Q1 (dj:=122) rfl rfl rfl rfl rfl ?_
  refine zV (Va rfl rfl rfl) ?_
  refine zA (zN ?_)
  refine zI ?_ ?_<;>intro hc117
  ·
   cases hc117
  have hon:=ztF (a:=xs) (b:=ys) (i:=i) (k:=k) h5
  refine zR (zM ?_)
  refine zB ?_
  refine zA (zN (Qf ?_))
  refine zM ?_
  refine zM ?_
  refine zV (ZC (ps:=[(0,_),(1,_)]) [_,_] Y1 KI rfl rfl) ?_
  refine Qp (ps:=[(0,_)]) (m:=[V9 ((0:Int),(k:Int)+1)]) Kh rfl (.cons rfl (.nil)) rfl (by simp [Ks]) (by decide) (by decide) rfl rfl (fun b_74=>?_)
  refine QU (v:=_) (ys:=[((0:Int),(k:Int)+1)].flatMap V9) (L:=L) rfl rfl Kh hO (by repeat (first | exact .cons .here .nil | exact QD | exact Qy | apply QC | apply QB)) ⟨rfl,fun _=>rfl,by repeat (first | exact zAj | apply zAi | apply zAk)⟩ (zhk [((0:Int),(k:Int)+1)]) (by omega) rfl rfl ?_
  intro v9 L9 hO9 _;rw [←List.flatMap_append] at hO9
  refine zA (Qc (Qg (Qg ?_)))
  exact zm (h:=⟨xs.length-(i)+(ys.length-(k+1)),by omega,i,k+1,_,_,_,_,_,rfl,rfl,hB4,rfl,by omega,by omega,hm1,hpq.two h6 hbo hon,hO9,by omega⟩)
 have hnor:xs.length≤i∧ys.length≤k:=by have h:=hc64;simp at h;omega
 have hfin:zl9 xs ys=pre:=hpq.fin hnor.1 hnor.2
 have hE0:=zrO hlong hno2
 have hR0:=(znI hE0).trans hfin
 refine QH (Qe (Qe (Qj (Qa (zR ?_)))))
 refine zV (Qd rfl KK (fun hg=>by exact hLE.se.any)) ?_
 refine QA (cap:=[Ze b_2,Ze b_3,Ze b_13,Ze b_14]) (vs:=[_,_]) rfl rfl K3 (by repeat (first | exact .cons .here .nil | exact QD | exact Qy | apply QC | apply QB)) (zuL hLE (by omega) (by omega) i k m trivial hm) rfl rfl ?_
 rintro vv12 I12 L12 hI12 ⟨VZ,hLZ,rfl,rfl,m5,hm5,rfl⟩
 have hIc:=hIc.trans hI12
 refine zM ?_
 refine zA ?_
 refine zA ?_
 refine zA (zN (Qs ?_))
 first
 | exact KM rfl rfl rfl rfl (fun w hw=>by obtain ⟨I9,av9,c9,h1',h2',e9,h4'⟩:=OwnS.freeze (R:=[]) hO Ks (by decide) (by rw [List.append_nil];exact hw.subL (by repeat (first | exact .refl | exact Zg | exact Zg (L:=L) (R:=[]) | refine .drop ?_)));have hq9:=h4'.len;subst hq9;exact ⟨_,I9,[],rfl,hIc.trans h1',h2',rfl,_,av9,c9,by rw [hE0,hR0,e9],by rw [hR0];exact h4'⟩)
end
section
open Go Go.Kn Go.Proofs
def zaO (a:Int):List (Int×Int)→List (Int×Int)
 | []=>[]
 | p::ps=>if p.1>0 then zaO p.1 ps else (a,p.2-1)::zaO a ps
def zjw (ps:List (Int×Int)):List (Int×Int):=zaO 0 ps
theorem zrv {a:Int}{ps:List (Int×Int)}{k:Nat}{p:Int×Int}(hp:ps[k]? =some p)(h:decide (p.1>0)=true):zaO a (ps.drop k)=zaO p.1 (ps.drop (k+1)):=by
 rw [Z5 hp]
 show (if p.1>0 then zaO p.1 (ps.drop (k+1)) else (a,p.2-1)::zaO a (ps.drop (k+1)))=_
 rw [if_pos (by simpa using h)]
theorem zpa {a:Int}{ps:List (Int×Int)}{k:Nat}{p:Int×Int}(hp:ps[k]? =some p)(h:decide (p.1>0)=false):zaO a (ps.drop k)=(a,p.2-1)::zaO a (ps.drop (k+1)):=by
 rw [Z5 hp]
 show (if p.1>0 then zaO p.1 (ps.drop (k+1)) else (a,p.2-1)::zaO a (ps.drop (k+1)))=_
 rw [if_neg (by simpa using h)]
theorem zs9 {a:Int}{ps pre:List (Int×Int)}{k:Nat}(h:zjw ps=pre++zaO a (ps.drop k))(hk:ps.length≤k):zjw ps=pre:=by
 rw [h,List.drop_eq_nil_of_le hk];simp [zaO]
theorem ztN {a:Int}{ps pre:List (Int×Int)}{k:Nat}{p:Int×Int}(h:zjw ps=pre++zaO a (ps.drop k))(hp:ps[k]? =some p)(hn:decide (p.1>0)=false):pre++[(a,p.2-1)]<+:zjw ps:=by
 rw [h,zpa hp hn]
 exact ⟨zaO a (ps.drop (k+1)),by simp⟩
def zzn (q:Int×Int):Value:=.int .i64 q.1
def zzB (q:Int×Int):Value:=.int .i64 q.2
end
end Go.Proofs.YtodakphagkommaaGreatDoor
section
namespace Go.Kn
open Go
def zsS {α:Type}(P:Program)(f:FuncId)(cap:List Value)(I:Qw)(K:Loc)(en1 en2:α→Value)(xs:List α):Prop:=
 ∀ g l (J Jx:List α→Qw→Qw→Prop),
  (∀ pre x I' H',pre++[x]<+:xs→HLe I I'→J pre I' H'→Xb P g l [en1 x,en2 x] I' H' fun b I2 H2=>if b then J (pre++[x]) I2 H2 else Jx (pre++[x]) I2 H2)→
  ∀ I0 H w,HLe I I0→J [] I0 H→St g I0 H K w→Calls P f ((.func (.yield l) #[] #[]:Value)::cap).toArray w fun e w'=>∃ v I' H',e= .returned v∧HLe I0 I'∧St g I' H' [] w'∧(J xs I' H'∨∃ pre,pre<+:xs∧Jx pre I' H')
section
variable {α:Type} {C:Cx} {Q:Exit→Act→World→Prop} {E E':Env} {I I':Qw} {loc loc' L R:Loc} {ops:Array Oper} {rest:List Oper} {S:GS}
variable {Jc:List α→Qw→Loc→Prop} {Jx:Code→List α→Qw→Loc→Prop} {pre:List α}
theorem zbC {P:Program}{N:Nat}{D:List Deferred}{K:Loc}{g:World}{H:Qw}{gop:Operand}{p q:Nat}{assign body:Code}{f:FuncId}{cap:List Value}{en1 en2:α→Value}{xs:List α}
  (Jc:List α→Qw→Loc→Prop)(Jx:Code→List α→Qw→Loc→Prop)(Ja:List α→α→Env→Qw→Loc→Prop)
  (hg:QE [] E gop=some (.func (.func f) #[] cap.toArray))(hF:Fun P f)(hseq:zsS P f cap I K en1 en2 xs)(hp:Nat.blt p N=true)(hq9:Nat.blt q N=true)(h0:Jc [] I loc)
  (hass:∀ l pre x I' loc' H1,pre++[x]<+:xs→HLe I I'→Jc pre I' loc'→X ⟨P,some l,N,[],g,H1⟩ (Exit.then (Met ⟨P,some l,N,[],g,H1⟩ fun E2 I2 loc2=>HLe I' I2∧Ja pre x E2 I2 loc2) (fun _ _ _=>False)) assign ((q,en2 x)::(p,en1 x)::E) I' loc')
  (hbody:∀ l pre x E2 I2 loc2 H2,pre++[x]<+:xs→HLe I I2→Ja pre x E2 I2 loc2→X ⟨P,some l,N,[],g,H2⟩ (za3 g H2 (fun q0 I3 loc3=>HLe I2 I3∧Jc q0 I3 loc3) (fun c q0 I3 loc3=>HLe I2 I3∧Jx c q0 I3 loc3) (pre++[x])) body E2 I2 loc2)
  (hdone:∀ bd I' loc',HLe I I'→Jc xs I' loc'→At ⟨P,none,N,{target:=.collected bd,args:= #[]}::D,g,H⟩ Q .normal E I' (loc'++[(bd,.deferred (some []))]))
  (hstop:∀ c bd pre I' loc',HLe I I'→pre<+:xs→Jx c pre I' loc'→X ⟨P,none,N,{target:=.collected bd,args:= #[]}::D,g,H⟩ Q c E I' (loc'++[(bd,.deferred (some []))])):
  X ⟨P,none,N,D,g,H⟩ Q (.rangeFunc gop #[p,q] assign body) E I (K++loc):=by
 intro a w ha hw
 refine wpIn_rangeFunc fun fn _=>?_
 have hen:=run_enterLoop_outer (P:=P) (w:=w) fn a.tmps #[p,q] assign body
 generalize hbd:w.heap.size=bd at hen
 let rec_:LoopState→Option Code→Obj:=fun st pd=>.loop {state:=st,pending:=pd,fn,tmps:=a.tmps,params:= #[p,q],assign,body,defers:=bd}
 have hw1:St g I H ((bd+1,rec_ .ready none)::(bd,.deferred (some []))::(K++loc)) ((w.alloc (.deferred (some []))).alloc (rec_ .ready none)):=by
  have h1:=hw.alloc (.deferred (some []))
  have h2:=h1.alloc (rec_ .ready none)
  rw [World.size_alloc,hbd] at h2
  exact h2
 have hev:=Qn (S:=[]) ha trivial rfl hg
 refine ⟨bd+1,[{target:=.collected bd,args:= #[]}],_,{target:=.fn (.func f) cap.toArray,args:= #[.func (.yield (bd+1)) #[] #[]]},(w.alloc (.deferred (some []))).alloc (rec_ .ready none),f,((.func (.yield (bd+1)) #[] #[]:Value)::cap).toArray,(w.alloc (.deferred (some []))).alloc (rec_ .ready none),hen,?_,fun _ _=>trivial,?_,by simp [FR],Xd.2 ?_⟩
 ·
  have e2:a.eval (.const (.func (.yield (bd+1)) #[] #[]))= .func (.yield (bd+1)) #[] #[]:=rfl
  simp only [resolve,List.map_toArray,List.map_cons,List.map_nil,e2,hev,Deferred.ofValue]
  rfl
 ·
  simp only [invoke,V2 hF]
  simp
 -- the caller's blocks, between two rounds
 let Lr:LoopState→Option Code→Loc→Loc:=fun st pd l'=>l'++[(bd+1,rec_ st pd),(bd,.deferred (some []))]
 have okL:∀ {I' H1 l' W st pd},St g I' H1 (Lr st pd l') W→((Lr st pd l').map (·.1)).Nodup:=fun h=>h.nodup
 let J:List α→Qw→Qw→Prop:=fun pre I' H'=>∃ l',Jc pre I' l'∧HLe I I'∧H'=VE H (Lr .ready none l')∧((Lr .ready none l').map (·.1)).Nodup∧∀ b o,(b,o)∈Lr .ready none l'→H b=none
 let Jy:List α→Qw→Qw→Prop:=fun pre I' H'=>∃ c l',Jx c pre I' l'∧HLe I I'∧H'=VE H (Lr .done (some c) l')∧((Lr .done (some c) l').map (·.1)).Nodup∧∀ b o,(b,o)∈Lr .done (some c) l'→H b=none
 have hw2:St g I H (K++Lr .ready none loc) ((w.alloc (.deferred (some []))).alloc (rec_ .ready none)):=by
  have hp:(K++Lr .ready none loc).Perm ((bd+1,rec_ .ready none)::(bd,.deferred (some []))::(K++loc)):=by
   show (K++(loc++[(bd+1,rec_ .ready none),(bd,.deferred (some []))])).Perm _
   rw [←List.append_assoc]
   exact List.perm_append_comm
  exact hw1.perm (fun q=>hp.mem_iff) ((hp.map (·.1)).nodup_iff.2 hw1.nodup)
 have hw2r:=hw2.rest Qy
 have hJ0:J [] I (VE H (Lr .ready none loc)):=⟨loc,h0,zAl I,rfl,hw2r.nodup,fun b o hm=>(hw2r.sepIL b o hm).2⟩
 refine (hseq g (bd+1) J Jy ?_ I _ _ (zAl I) hJ0 hw2.hideR).mono ?_
 ·
  -- a round
  intro pre x I' H' hpre hI ⟨l',hJc,_,hH,hnd,hdj⟩ lit W hW
  subst hH
  have hS1:=hW.swap hnd hdj
  have hrec:W.heap[bd+1]? =some (rec_ .ready none):=hS1.own _ _ (by simp [Lr])
  refine ⟨fn,_,assign,body,run_yield (P:=P) hrec (by simp),?_⟩
  have hfit:Kz N [] ((q,en2 x)::(p,en1 x)::E) {tmps:=(a.tmps.setIfInBounds p (en1 x)).setIfInBounds q (en2 x),defers:=[]}:=by
   have h1:=(ha.put hp (en1 x)).put hq9 (en2 x)
   exact ⟨h1.size,rfl,h1.env⟩
  have hdjK:∀ b o,(b,o)∈lit→H b=none:=fun b o hm=>(WA (hW.sepIL b o hm).2).1
  refine roundIn_of_wpIn (F:=Fence.wide) trivial ?_
  have htm:((#[p,q]:Array Tmp).zip #[en1 x,en2 x]).foldl (fun tmps (t,v)=>tmps.setIfInBounds t v) a.tmps=(a.tmps.setIfInBounds p (en1 x)).setIfInBounds q (en2 x):=by simp
  show Code.wpIn _ _ _ _ _ {tmps:=((#[p,q]:Array Tmp).zip #[en1 x,en2 x]).foldl (fun tmps (t,v)=>tmps.setIfInBounds t v) a.tmps,defers:=[]} _
  rw [htm]
  have hA:=hass (bd+1) pre x I' l' (VE (VE H lit) [(bd+1,rec_ .ready none),(bd,.deferred (some []))]) hpre hI hJc _ W hfit hS1.hideR
  refine wpIn_mono (F:=Fence.wide.inRound (bd+1)) (n:=0) (P:=P) (show assign.wpIn (Fence.wide.inRound (bd+1)) 0 P _ _ _ from hA) ?_
  intro e a1 W1 hq
  cases e with
  | normal=>
   obtain ⟨E2,I2,loc2,⟨hI2,hJa⟩,hf2,hs2⟩:=hq
   have hs3:St g I2 (VE H lit) (loc2++[(bd+1,rec_ .ready none),(bd,.deferred (some []))]) W1:=St.unhide (hS1.rest Qy) hs2
   have hrec1:W1.heap[bd+1]? =some (rec_ .ready none):=hs3.own _ _ (by simp)
   have hs4:=hs3.putObj (o':=rec_ .busy none) (b:=bd+1) (QM .here)
   refine ⟨_,run_beginRound (P:=P) hrec1 rfl,?_⟩
   have hB:=hbody (bd+1) pre x E2 I2 loc2 (VE (VE H lit) [(bd+1,rec_ .busy none),(bd,.deferred (some []))]) hpre (hI.trans hI2) hJa a1 _ hf2 hs4.hideR
   refine wpIn_mono (F:=Fence.wide.inRound (bd+1)) (n:=0) (P:=P) (show body.wpIn (Fence.wide.inRound (bd+1)) 0 P _ _ _ from hB) ?_
   have fin:∀ (W3:World) (I3:Qw) (loc3:Loc) (jump:Option Code) (st:LoopState),St g I3 (VE (VE H lit) [(bd+1,rec_ .busy none),(bd,.deferred (some []))]) loc3 W3→
     (st=if jump.isNone then .ready else .done)→
     ∃ W4,(Instr.endRound (bd+1) jump).run P W3= .ok (.bool jump.isNone) W4∧St g I3 (VE H (Lr st jump loc3)) lit W4∧((Lr st jump loc3).map (·.1)).Nodup∧∀ b o,(b,o)∈Lr st jump loc3→H b=none:=by
    intro W3 I3 loc3 jump st hs hst
    have hs5:St g I3 (VE H lit) (loc3++[(bd+1,rec_ .busy none),(bd,.deferred (some []))]) W3:=St.unhide (hs4.rest Qy) hs
    have hrec3:W3.heap[bd+1]? =some (rec_ .busy none):=hs5.own _ _ (by simp)
    have hs6:=hs5.putObj (o':=rec_ st jump) (b:=bd+1) (QM .here)
    refine ⟨_,run_endRound (P:=P) jump hrec3,?_,hs6.nodup,fun b o hm=>(WA (hs6.sepIL b o hm).2).1⟩
    rw [←hst]
    exact hs6.swap hW.nodup hdjK
   intro e a3 W3 hq
   cases e with
   | normal=>
    obtain ⟨I3,loc3,⟨hI3,hJ3⟩,hs⟩:=hq
    obtain ⟨W4,h1,h2,h3,h4⟩:=fin W3 I3 loc3 none .ready hs rfl
    exact ⟨_,W4,h1,true,I3,_,rfl,hI2.trans hI3,h2,loc3,hJ3,(hI.trans hI2).trans hI3,rfl,h3,h4⟩
   | ret=>
    obtain ⟨I3,loc3,⟨hI3,hJ3⟩,hs⟩:=hq
    obtain ⟨W4,h1,h2,h3,h4⟩:=fin W3 I3 loc3 (some .ret) .done hs rfl
    exact ⟨_,W4,h1,false,I3,_,rfl,hI2.trans hI3,h2,.ret,loc3,hJ3,(hI.trans hI2).trans hI3,rfl,h3,h4⟩
   | exit id=>
    obtain ⟨I3,loc3,⟨hI3,hJ3⟩,hs⟩:=hq
    obtain ⟨W4,h1,h2,h3,h4⟩:=fin W3 I3 loc3 (some (.exit id)) .done hs rfl
    exact ⟨_,W4,h1,false,I3,_,rfl,hI2.trans hI3,h2,.exit id,loc3,hJ3,(hI.trans hI2).trans hI3,rfl,h3,h4⟩
   | goto t=>exact hq.elim
   | panic c=>exact hq.elim
   | outgrown=>exact hq.elim
  | _=>exact hq.elim
 ·
  -- behind the call
  rintro e w' ⟨v,I',H',rfl,hI,hs,hJ | ⟨pre,hpre,hJ⟩⟩
  ·
   obtain ⟨l',hJc,hI1,rfl,hnd,hdj⟩:=hJ
   have hs1:=hs.swap hnd hdj
   have hrec:w'.heap[bd+1]? =some (rec_ .ready none):=hs1.own _ _ (by simp [Lr])
   have hs2:=hs1.putObj (o':=rec_ .exhausted none) (b:=bd+1) (QM .here)
   refine ⟨none,_,run_endLoop (P:=P) hrec (by simp),?_⟩
   refine hdone bd I' l' hI1 hJc _ _ ⟨ha.size,by simp [ha.defers],ha.env⟩ ?_
   refine hs2.rest (L:=[(bd+1,rec_ .exhausted none)]) ?_
   have:YS (l'++[(bd+1,rec_ .exhausted none),(bd,.deferred (some []))]) [(bd+1,rec_ .exhausted none)] (l'++[(bd,.deferred (some []))]):=by
    refine .cons ?_ .nil
    clear hdj hnd hs2 hs1 hs hJc hrec
    induction l' with
    | nil=>exact .here
    | cons q l ih=>exact .there ih
   exact this
  ·
   obtain ⟨c,l',hJc,hI1,rfl,hnd,hdj⟩:=hJ
   have hs1:=hs.swap hnd hdj
   have hrec:w'.heap[bd+1]? =some (rec_ .done (some c)):=hs1.own _ _ (by simp [Lr])
   have hs2:=hs1.putObj (o':=rec_ .exhausted (some c)) (b:=bd+1) (QM .here)
   refine ⟨some c,_,run_endLoop (P:=P) hrec (by simp),?_⟩
   refine hstop c bd pre I' l' hI1 hpre hJc _ _ ⟨ha.size,by simp [ha.defers],ha.env⟩ ?_
   refine hs2.rest (L:=[(bd+1,rec_ .exhausted (some c))]) ?_
   have:YS (l'++[(bd+1,rec_ .exhausted (some c)),(bd,.deferred (some []))]) [(bd+1,rec_ .exhausted (some c))] (l'++[(bd,.deferred (some []))]):=by
    refine .cons ?_ .nil
    clear hdj hnd hs2 hs1 hs hJc hrec
    induction l' with
    | nil=>exact .here
    | cons q l ih=>exact .there ih
   exact this
end
section
variable {P:Program} {r:Option Nat} {N:Nat} {g:World} {H:Qw} {Q:Exit→Act→World→Prop} {E E':Env} {I I':Qw} {loc loc' L R:Loc} {ms:List Nat}
theorem U2 {α:Type}{gop:Operand}{p q:Nat}{assign body:Code}{f:FuncId}{cap:List Value}{K:Loc}{en1 en2:α→Value}{xs:List α}
  (Jc:List α→Qw→Loc→Prop)(Jx:Code→List α→Qw→Loc→Prop)(Ja:List α→α→Env→Qw→Loc→Prop)
  (hg:QE [] E gop=some (.func (.func f) #[] cap.toArray))(hF:Fun P f)(hseq:zsS P f cap I K en1 en2 xs)(hp:Nat.blt p N=true)(hq9:Nat.blt q N=true)(h0:Jc [] I L)
  (hass:∀ l pre x I' loc' H1,pre++[x]<+:xs→HLe I I'→Jc pre I' loc'→X ⟨P,some l,N,[],g,H1⟩ (Exit.then (Met ⟨P,some l,N,[],g,H1⟩ fun E2 I2 loc2=>HLe I' I2∧Ja pre x E2 I2 loc2) (fun _ _ _=>False)) assign ((q,en2 x)::(p,en1 x)::E) I' loc')
  (hbody:∀ l pre x E2 I2 loc2 H2,pre++[x]<+:xs→HLe I I2→Ja pre x E2 I2 loc2→X ⟨P,some l,N,[],g,H2⟩ (za3 g H2 (fun q0 I3 loc3=>HLe I2 I3∧Jc q0 I3 loc3) (fun c q0 I3 loc3=>HLe I2 I3∧Jx c q0 I3 loc3) (pre++[x])) body E2 I2 loc2)
  (hdone:∀ bd I' loc',HLe I I'→Jc xs I' loc'→At ⟨P,none,N,mk (bd::ms),g,H⟩ Q .normal E I' (loc'++MB (bd::ms)))
  (hstop:∀ c bd pre I' loc',HLe I I'→pre<+:xs→Jx c pre I' loc'→X ⟨P,none,N,mk (bd::ms),g,H⟩ Q c E I' (loc'++MB (bd::ms))):
  X ⟨P,none,N,mk ms,g,H⟩ Q (.rangeFunc gop #[p,q] assign body) E I (K++(L++MB ms)):=by
 intro a w ha hw
 have back:∀ {I':Qw} {loc':Loc} {bd:Nat} {w':World},St g I' (VE H (MB ms)) (loc'++[(bd,.deferred (some []))]) w'→St g I' H (loc'++MB (bd::ms)) w':=fun {I' loc' bd w'} h=>by
  have h1:=St.unhide ((hw.rest Qy).rest Qy) h
  refine h1.perm (fun p=>?_) ?_
  ·
   simp only [MB,List.mem_append]
   constructor
   ·
    rintro (h | h | h)
    ·
     exact .inl (.inl h)
    ·
     exact .inr h
    ·
     exact .inl (.inr h)
   ·
    rintro ((h | h) | h)
    ·
     exact .inl h
    ·
     exact .inr (.inr h)
    ·
     exact .inr (.inl h)
  ·
   have hn:=h1.nodup
   have hpm:(loc'++MB (bd::ms)).Perm (loc'++[(bd,.deferred (some []))]++MB ms):=by
    rw [List.append_assoc]
    exact (List.Perm.refl loc').append List.perm_append_comm
   exact (hpm.map (·.1)).nodup_iff.2 hn
 refine zbC (K:=K) (P:=P) (N:=N) (D:=mk ms) (g:=g) (H:=VE H (MB ms)) (Q:=Q) Jc Jx Ja hg hF hseq hp hq9 h0 hass hbody ?_ ?_ a w ha (show St g I (VE H (MB ms)) (K++L) w from (show St g I H ((K++L)++MB ms) w by rw [List.append_assoc];exact hw).hideR)
 ·
  intro bd I' loc' hI hJ a' w' ha' hw'
  exact hdone bd I' loc' hI hJ a' w' ha' (back hw')
 ·
  intro c bd pre I' loc' hI hpre hJ a' w' ha' hw'
  exact hstop c bd pre I' loc' hI hpre hJ a' w' ha' (back hw')
end
end Go.Kn
namespace Go.Kn
open Go
section
variable {C:Cx} {Q:Exit→Act→World→Prop} {E E':Env} {I I' I0:Qw} {loc loc' loc0 L R:Loc} {ops:Array Oper} {rest:List Oper} {S:GS}
theorem QR {e:Exit}{b:Nat}{o:Obj}(ht:Zc loc b o loc')(h:∀ I',HLe I I'→I' b=some o→At C Q e E I' loc'):At C Q e E I loc:=fun a w ha hw=>
 let ⟨h1,h2,h3⟩:=hw.freeze ht;h _ h2 h3 a w ha h1
theorem JK {c:Code}(h:loc=loc')(hx:X C Q c E I loc'):X C Q c E I loc:=h ▸ hx
theorem zrN (i j k m:Nat){oi oj ok om:Oper}{fuel:Nat}{listed:Array Bool}(hi:ops[i]? =some oi)(hj:ops[j]? =some oj)(hk:ops[k]? =some ok)(hm:ops[m]? =some om)(hr:Region.ready .any ops listed=[i,j,k,m])
  (h1:XO C (fun e a w=>match e with | .normal=>St C.g I0 C.H loc0 w∧YU C.r C.P .any ops Q (fun w=>St C.g I0 C.H loc0 w) fuel (listed.setIfInBounds i true) a w | e=>Q e a w) ops [oi] S E I loc)
  (h2:XO C (fun e a w=>match e with | .normal=>St C.g I0 C.H loc0 w∧YU C.r C.P .any ops Q (fun w=>St C.g I0 C.H loc0 w) fuel (listed.setIfInBounds j true) a w | e=>Q e a w) ops [oj] S E I loc)
  (h3:XO C (fun e a w=>match e with | .normal=>St C.g I0 C.H loc0 w∧YU C.r C.P .any ops Q (fun w=>St C.g I0 C.H loc0 w) fuel (listed.setIfInBounds k true) a w | e=>Q e a w) ops [ok] S E I loc)
  (h4:XO C (fun e a w=>match e with | .normal=>St C.g I0 C.H loc0 w∧YU C.r C.P .any ops Q (fun w=>St C.g I0 C.H loc0 w) fuel (listed.setIfInBounds m true) a w | e=>Q e a w) ops [om] S E I loc):XD C Q ops I0 loc0 (fuel+1) listed S E I loc:=by
 intro a w ha hg hw
 refine ⟨(fun h0=>by rw [hr] at h0;cases h0),fun q hq=>?_⟩
 rw [hr] at hq
 rcases List.mem_cons.1 hq with e | hq
 ·
  subst e;exact zaB hi ha hg hw h1
 ·
  rcases List.mem_cons.1 hq with e | hq
  ·
   subst e;exact zaB hj ha hg hw h2
  ·
   rcases List.mem_cons.1 hq with e | hq
   ·
    subst e;exact zaB hk ha hg hw h3
   ·
    obtain rfl:=List.mem_singleton.1 hq;exact zaB hm ha hg hw h4
end
end Go.Kn
end
namespace Go.Proofs.YtodakphagkommaaGreatDoor
section
open Go Go.Kn Go.Proofs
theorem zkC:Fun Tryz.prog 105:=.of Tryz.func105 (by kernel_rfl) (by kernel_rfl)
theorem zgq:ScT Tryz.prog 41:=.of (by kernel_rfl)
theorem Us:SlT Tryz.prog 41 79 2:=.of (by kernel_rfl)
theorem ziV:SzT Tryz.prog 79 2:=.of (by kernel_rfl)
theorem zjc (I:Qw)(av:Option Addr)(n c:Nat):Z4 Tryz.prog 61 [.slice av n c] I [] (fun v I' L=>L=[]∧∃ b1,v= .func (.func 105) #[] [Ze b1].toArray∧I' b1=some (.cells #[.slice av n c] 41 (0,0))):=by
 intro g H w hw
 refine qe Tryz.func61 Tryz.ntmps61 hw ?_
 have hIc:=zAl I
 refine zR ?_
 refine Q9 rfl rfl rfl (fun b_1=>?_)
 refine zA (zN (Qk ?_))
 refine Zn .here (fun I1 hI1 hb1=>?_)
 have hIc:=hIc.trans hI1
 have h1:=hb1
 refine Qf ?_
 refine zV (Zf (us:=[]) (vs:=[_]) rfl rfl) ?_
 refine zA (zN (Qs ?_))
 exact Zq rfl rfl (fun w hw=>⟨_,I1,[],rfl,hIc,hw.drop,rfl,b_1,rfl,h1⟩)
theorem zkM {I:Qw}{av:Option Addr}{n c:Nat}{ps:List (Int×Int)}(hS:Sl I 2 V9 av n c ps)(hn9:n≤1000000)(hps:∀ p∈ps, -1000000≤p.2∧p.2≤1000000){b1:Nat}(h1:I b1=some (.cells #[.slice av n c] 41 (0,0))):zsS Tryz.prog 105 [Ze b1] I [] zzn zzB (zjw ps):=by
 intro g y J Jx hY I0 H w h0 hJ hw
 have hS:=hS.mono h0
 have h1:=h0 _ _ h1
 refine qe Tryz.func105 Tryz.ntmps105 hw ?_
 have hSl:=hS.len
 subst hSl
 refine zR (zA ?_)
 refine zN (zR ?_)
 refine zV (Qd rfl zgq (fun hg=>by exact QY.imm h1 rfl)) ?_
 refine zQ Us ?_
 refine zM (zN (Ql ?_))
 refine zd9 (fun m E I' H' loc'=>∃ (k:Nat) (a:Int) (pre:List (Int×Int)),m=ps.length-k∧E=[(0,.func (.yield y) #[] #[]),(1,Ze b1),(3,.int .i64 a),(6,.slice av ps.length c),(7,.int .i64 ps.length),(8,.int .i64 k)]∧loc'=[]∧HLe I0 I'∧k≤ps.length∧J pre I' H'∧zjw ps=pre++zaO a (ps.drop k)) _ _ _ ⟨0,0,[],rfl,rfl,rfl,zAl _,Nat.zero_le _,hJ,rfl⟩ (.cons rfl (.cons rfl (.cons rfl (.cons rfl (.cons rfl (.cons rfl .nil)))))) rfl ?_
 rintro m E I' H' loc' ⟨k,a,pre,rfl,rfl,rfl,hI1,hk,hJk,hal⟩
 have hS:=hS.mono hI1
 have h1:=hI1 _ _ h1
 have hI0:=h0.trans hI1
 refine zR (zC (zN (Qk ?_)))
 refine zI ?_ ?_<;>intro hc9
 ·
  have hlt:k<ps.length:=by have h:=hc9;simp at h;omega
  obtain ⟨p,hp⟩:=hS.at hlt
  refine Qo (Qa (Qk (Ql (zR ?_))))
  refine zV (zX Us hS) ?_
  refine zV (Qq rfl za0 (fun hg=>by exact zAm hS hp) rfl) ?_
  refine Qv KI rfl rfl (fun b_5=>?_)
  refine zh ziV ?_
  refine zN (zR ?_)
  refine zV (Zv rfl rfl Y1 (fun hg=>by decide)) ?_
  refine zL Qr ?_
  refine zC (zN ?_)
  refine zI ?_ ?_<;>intro hc14
  ·
   refine Qf ?_
   refine zV (Zv rfl rfl Y1 (fun hg=>by decide)) ?_
   refine zL Qr ?_
   refine zA (Qc (Qg (Qa (Qf ?_))))
   refine zB ?_
   refine zM (Qc ?_)
   exact XC rfl rfl rfl _ [] ⟨ps.length-(k+1),by omega,k+1,p.1,pre,rfl,rfl,rfl,hI1,by omega,hJk,by rw [hal,zrv hp hc14]⟩ (.cons rfl (.cons rfl (.cons rfl (.cons rfl (.cons rfl (.cons rfl .nil)))))) (.drop .refl)
  have hpre2:=ztN hal hp hc14
  refine zR (zM ?_)
  refine zM ?_
  refine zV (Zv rfl rfl Y1 (fun hg=>by decide)) ?_
  refine zL Qr ?_
  refine zV (ZA rfl rfl rfl (fun _=>by (have hp9:=hps p (List.mem_of_getElem? hp);omega))) ?_
  refine zdq (vs:=[_,_]) (Post:=fun b I2 H2=>if b then J (pre++[(a,p.2-1)]) I2 H2 else Jx (pre++[(a,p.2-1)]) I2 H2) rfl rfl rfl rfl (hY pre (a,p.2-1) _ _ hpre2 hI0 hJk) ?_
  rintro t I2 H2 hI2 hP2
  refine zO (zN ?_)
  refine zI ?_ ?_<;>intro hc23
  ·
   have ht:t=false:=by simpa using hc23
   subst ht
   have hJ2:Jx (pre++[(a,p.2-1)]) I2 H2:=hP2
   refine Qs (Qm (Qb (Qb (Qm ?_))))
   exact YY rfl (fun w hw=>⟨_,I2,H2,rfl,hI1.trans hI2,hw.drop,.inr ⟨_,hpre2,hJ2⟩⟩)
  have ht:t=true:=by simpa using hc23
  subst ht
  have hJ2:J (pre++[(a,p.2-1)]) I2 H2:=hP2
  refine Qo (Qg (Qa (Qf (zB ?_))))
  refine zM (Qc ?_)
  first
  | exact XC rfl rfl rfl _ [] ⟨ps.length-(k+1),by omega,k+1,a,pre++[(a,p.2-1)],rfl,rfl,rfl,hI1.trans hI2,by omega,hJ2,by rw [hal,zpa hp hc14,List.append_assoc];rfl⟩ (.cons rfl (.cons rfl (.cons rfl (.cons rfl (.cons rfl (.cons rfl .nil)))))) (.drop .refl)
 have hge:ps.length≤k:=by have h:=hc9;simp at h;omega
 refine QH (Qe (Qe (Qj ?_)))
 first
 | exact VM (YY rfl (fun w hw=>⟨_,I',H',rfl,hI1,hw,.inl (by rw [zs9 hal hge];exact hJk)⟩))
end
section
open Go Go.Kn Go.Proofs
/-! ### Lists as functions -/
def VD (n:Nat)(f:Nat→Int):List Int:=(List.range n).map f
def US {β:Type}(f:Nat→β)(a:Nat)(v:β):Nat→β:=fun j=>if j=a then v else f j
def YN (f:Nat→Nat):Nat→Int:=fun j=>((f j:Nat):Int)
theorem Yb {n:Nat}{f:Nat→Int}:(VD n f).length=n:=by unfold VD;simp
theorem YH {n a:Nat}{f:Nat→Int}(h:a<n):(VD n f)[a]? =some (f a):=by unfold VD;simp [h]
theorem KR {β:Type}{f:Nat→β}{a:Nat}{v:β}:US f a v a=v:=if_pos rfl
theorem zaN {β:Type}{f:Nat→β}{a j:Nat}{v:β}(h:j≠a):US f a v j=f j:=if_neg h
theorem JU {n a:Nat}{f:Nat→Int}{v:Int}:(VD n f).set a v=VD n (US f a v):=by
 apply List.ext_getElem?
 intro j
 rw [List.getElem?_set]
 by_cases hj:j<n
 ·
  rw [YH hj,YH hj,Yb]
  by_cases h:a=j
  ·
   subst h;rw [KR];simp [hj]
  ·
   rw [if_neg h,zaN (Ne.symm h)]
 ·
  rw [List.getElem?_eq_none (l:=VD n (US f a v)) (by rw [Yb];omega),Yb]
  by_cases h:a=j
  ·
   subst h;simp [hj]
  ·
   rw [if_neg h,List.getElem?_eq_none (by rw [Yb];omega)]
theorem Zl {n:Nat}:List.replicate n (0:Int)=VD n (fun _=>0):=by
 apply List.ext_getElem?
 intro j
 unfold VD
 by_cases h:j<n<;>simp [h]
theorem zaj {f:Nat→Nat}{a v:Nat}:US (YN f) a (v:Int)=YN (US f a v):=by
 funext j
 by_cases h:j=a
 ·
  subst h;rw [KR];unfold YN;rw [KR]
 ·
  rw [zaN h];unfold YN;rw [zaN h]
theorem Wn:(fun _=>0:Nat→Int)=YN (fun _=>0):=by funext j;rfl
theorem zmM {a b:Nat}:zsm (a:Int) (b:Int)=((max a b:Nat):Int):=by unfold zsm;split<;>omega
/-! ### Counts -/
def cnt (pre:List (Int×Int)):Nat→Nat:=pre.foldl (fun c q=>US c q.1.toNat (c q.1.toNat+1)) (fun _=>0)
theorem U5 {pre:List (Int×Int)}{q:Int×Int}:cnt (pre++[q])=US (cnt pre) q.1.toNat (cnt pre q.1.toNat+1):=by unfold cnt;rw [List.foldl_append];rfl
theorem zeW {pre:List (Int×Int)}{q:Int×Int}{a:Nat}(h:q.1.toNat=a):cnt (pre++[q]) a=cnt pre a+1:=by rw [U5,h];unfold US;rw [if_pos rfl]
theorem zuU {pre:List (Int×Int)}{q:Int×Int}{a:Nat}:cnt pre a≤cnt (pre++[q]) a:=by
 rw [U5];unfold US;split
 ·
  rename_i h;subst h;omega
 ·
  exact Nat.le_refl _
theorem zrj (pre:List (Int×Int))(a:Nat):∀ (r:Nat) (qs:List (Int×Int)),qs.length≤r→cnt pre a≤cnt (pre++qs) a:=by
 intro r qs _
 induction qs generalizing pre with
 | nil=>simp
 | cons q qs ih=>
  have h1:=ih (pre++[q]) (by simp at*;omega)
  rw [List.append_assoc] at h1
  exact Nat.le_trans zuU h1
theorem ztc {pre xs:List (Int×Int)}{a:Nat}(h:pre<+:xs):cnt pre a≤cnt xs a:=by
 obtain ⟨qs,rfl⟩:=h;exact zrj pre a qs.length qs (Nat.le_refl _)
theorem zjU (qs:List (Int×Int)):∀ (c:Nat→Nat) (a:Nat),(qs.foldl (fun c q=>US c q.1.toNat (c q.1.toNat+1)) c) a≤c a+qs.length:=by
 induction qs with
 | nil=>intro c a;simp
 | cons q qs ih=>
  intro c a
  rw [List.foldl_cons]
  have h:=ih (US c q.1.toNat (c q.1.toNat+1)) a
  have h2:US c q.1.toNat (c q.1.toNat+1) a≤c a+1:=by unfold US;split<;>(try (rename_i e;subst e))<;>omega
  rw [List.length_cons];omega
theorem ze5 {pre:List (Int×Int)}{a:Nat}:cnt pre a≤pre.length:=by
 have h:=zjU pre (fun _=>0) a
 unfold cnt;omega
/-! ### How wide the places are -/
def wmx (w:Nat→Nat)(pre:List (Int×Int)):Nat→Nat:=fun a=>max (w a) (cnt pre a)
def wdF (al:Nat→List (Int×Int)):Nat→Nat→Nat
 | 0=>fun _=>0
 | i+1=>wmx (wdF al i) (al i)
theorem zkt {w:Nat→Nat}:wmx w []=w:=by funext a;unfold wmx;show max (w a) 0=w a;omega
theorem znt {w:Nat→Nat}{pre:List (Int×Int)}{q:Int×Int}{a:Nat}(h:q.1.toNat=a):US (wmx w pre) a (max (wmx w pre a) (cnt (pre++[q]) a))=wmx w (pre++[q]):=by
 funext j
 unfold US
 split
 ·
  rename_i e;subst e
  rw [zeW h]
  show max (max (w j) (cnt pre j)) (cnt pre j+1)=max (w j) (cnt (pre++[q]) j)
  rw [zeW h];omega
 ·
  rename_i e
  show max (w j) (cnt pre j)=max (w j) (cnt (pre++[q]) j)
  rw [U5,h];unfold US;rw [if_neg e]
theorem zqX {al:Nat→List (Int×Int)}(h:al 0=[]):wdF al 1=fun _=>0:=by
 show wmx (wdF al 0) (al 0)=_
 rw [h,zkt];rfl
theorem zfQ {al:Nat→List (Int×Int)}{B:Nat}(h:∀ j,(al j).length≤B):∀ (i a:Nat),wdF al i a≤B
 | 0,a=>Nat.zero_le _
 | i+1,a=>by
  show max (wdF al i a) (cnt (al i) a)≤B
  have h1:=zfQ h i a
  have h2:=@ze5 (al i) a
  have h3:=h i
  omega
theorem zoM {al:Nat→List (Int×Int)}{j:Nat}:∀ {i a:Nat},j<i→cnt (al j) a≤wdF al i a
 | 0,_,h=>by omega
 | i+1,a,h=>by
  show _≤max (wdF al i a) (cnt (al i) a)
  by_cases e:j=i
  ·
   subst e;omega
  ·
   have:=zoM (al:=al) (a:=a) (show j<i by omega);omega
/-! ### Where the places begin -/
def V6 (w:Nat→Nat):Nat→Nat
 | 0=>0
 | k+1=>V6 w k+(w k+1)
theorem zej {w:Nat→Nat}{B:Nat}(h:∀ a,w a≤B):∀ k,V6 w k≤k*(B+1)
 | 0=>Nat.zero_le _
 | k+1=>by
  have h1:=zej h k
  have h2:=h k
  show V6 w k+(w k+1)≤_
  rw [Nat.add_mul];omega
theorem zbH {w:Nat→Nat}{k:Nat}:∀ {j:Nat},k<j→V6 w k+w k+1≤V6 w j
 | 0,h=>by omega
 | j+1,h=>by
  show _≤V6 w j+(w j+1)
  by_cases e:k=j
  ·
   subst e;omega
  ·
   have:=zbH (w:=w) (show k<j by omega);omega
theorem zi0 {w:Nat→Nat}:∀ k,k≤V6 w k
 | 0=>Nat.le_refl _
 | k+1=>by have:=zi0 (w:=w) k;show k+1≤V6 w k+(w k+1);omega
def atK (w:Nat→Nat)(k:Nat):Nat→Nat:=fun j=>if j<k then V6 w j else 0
theorem zmR {w:Nat→Nat}:atK w 0=fun _=>0:=by funext j;unfold atK;simp
theorem znx {w:Nat→Nat}{k:Nat}:US (atK w k) k (V6 w k)=atK w (k+1):=by
 funext j
 unfold US atK
 by_cases e:j=k
 ·
  subst e;rw [if_pos rfl,if_pos (by omega)]
 ·
  rw [if_neg e]
  by_cases h:j<k
  ·
   rw [if_pos h,if_pos (by omega)]
  ·
   rw [if_neg h,if_neg (by omega)]
theorem zqC {w:Nat→Nat}{n:Nat}:VD n (YN (atK w n))=VD n (YN (V6 w)):=by
 unfold VD
 refine List.map_congr_left fun j hj=>?_
 unfold YN atK
 rw [if_pos (List.mem_range.1 hj)]
/-! ### Rows -/
def txF (w:Nat→Nat)(T:List Int):Nat→Nat→Int
 | 0=>fun _=>0
 | k+1=>US (txF w T k) (V6 w k+w k) (T.getD k 0)
def prF (w:Nat→Nat)(l:List Int)(f:Nat→Int)(y:Int×Int):Nat→Int:=
 if (decide (y.1>0)&&decide (y.2>0))=true then US f (V6 w (y.1-1).toNat+w (y.1-1).toNat) (l.getD (y.2-1).toNat 0) else f
def alS (w:Nat→Nat)(l:List Int)(s:(Nat→Int)×(Nat→Nat))(q:Int×Int):(Nat→Int)×(Nat→Nat):=
 (US s.1 (V6 w q.1.toNat+s.2 q.1.toNat) (l.getD q.2.toNat 0),US s.2 q.1.toNat (s.2 q.1.toNat+1))
def alP (w:Nat→Nat)(l:List Int)(f:Nat→Int)(pre:List (Int×Int)):(Nat→Int)×(Nat→Nat):=pre.foldl (alS w l) (f,fun _=>0)
theorem zrQ {w:Nat→Nat}{l:List Int}{f:Nat→Int}{pre:List (Int×Int)}:(alP w l f pre).2=cnt pre:=by
 have key:∀ (f:Nat→Int) (c:Nat→Nat),(pre.foldl (alS w l) (f,c)).2=pre.foldl (fun c q=>US c q.1.toNat (c q.1.toNat+1)) c:=by
  induction pre with
  | nil=>intro f c;rfl
  | cons q pre ih=>intro f c;rw [List.foldl_cons,List.foldl_cons];exact ih _ _
 exact key f _
theorem zmU {w:Nat→Nat}{l:List Int}{f:Nat→Int}{pre:List (Int×Int)}{q:Int×Int}:(alP w l f (pre++[q])).1=US (alP w l f pre).1 (V6 w q.1.toNat+cnt pre q.1.toNat) (l.getD q.2.toNat 0):=by
 rw [←zrQ (w:=w) (l:=l) (f:=f)]
 unfold alP
 rw [List.foldl_append];rfl
def zsk (w:Nat→Nat)(T l:List Int)(i:Nat)(ps:List (Int×Int)):Nat→Int:=
 (alP w l (ps.foldl (prF w l) (if i=0 then txF w T T.length else fun _=>0)) (zjw ps)).1
theorem zgv {w:Nat→Nat}{l:List Int}{f:Nat→Int}{ps:List (Int×Int)}{k:Nat}{y:Int×Int}(hy:ps[k]? =some y):(ps.take (k+1)).foldl (prF w l) f=prF w l ((ps.take k).foldl (prF w l) f) y:=by
 rw [List.take_add_one,hy,List.foldl_append];rfl
/-! ### A table -/
def zxM (x:Wr):List Int:=x.rs.map KE
def csW (xs:List Wr)(i:Nat):List Int:=((xs[i]?).map zxM).getD []
def pfW (xs:List Wr)(i:Nat):List (Int×Int):=if i=0 then [] else Je (csW xs 0) (csW xs i)
def alW (xs:List Wr)(i:Nat):List (Int×Int):=zjw (pfW xs i)
def wdW (xs:List Wr):Nat→Nat:=wdF (alW xs) xs.length
def loW (xs:List Wr):Nat:=V6 (wdW xs) ((csW xs 0).length+1)-1
def zqA (xs:List Wr)(i:Nat):List Int:=VD (loW xs) (zsk (wdW xs) (csW xs 0) (csW xs i) i (pfW xs i))
def zaP (xs:List Wr):Int:=if (Xw xs != 0||xs.length==0)=true then Xw xs else if loW xs>256 then 2 else 0
def Wu (xs:List Wr):List (List Int):=if (Xw xs != 0||xs.length==0)=true∨loW xs>256 then [] else (List.range xs.length).map (zqA xs)
theorem zsV {xs:List Wr}(h:(Xw xs != 0||xs.length==0)=true):zaP xs=Xw xs∧Wu xs=[]:=by unfold zaP Wu;rw [if_pos h,if_pos (.inl h)];exact ⟨rfl,rfl⟩
theorem zyi {xs:List Wr}(h:(Xw xs != 0||xs.length==0)=false)(h2:loW xs>256):zaP xs=2∧Wu xs=[]:=by unfold zaP Wu;rw [if_neg (by rw [h];decide),if_pos h2,if_pos (.inr h2)];exact ⟨rfl,rfl⟩
theorem zzi {xs:List Wr}(h:(Xw xs != 0||xs.length==0)=false)(h2:¬loW xs>256):zaP xs=0∧Wu xs=(List.range xs.length).map (zqA xs):=by unfold zaP Wu;rw [if_neg (by rw [h];decide),if_neg h2,if_neg (by rw [h];simp;omega)];exact ⟨rfl,rfl⟩
theorem zfY {xs:List Wr}{i:Nat}{x:Wr}(h:xs[i]? =some x):csW xs i=x.rs.map KE:=by unfold csW;rw [h];rfl
theorem zmf {xs:List Wr}:alW xs 0=[]:=rfl
/-! ### What lies in alignments -/
def QOK (m n:Nat)(p:Int×Int):Prop:=∃ i k:Nat,p=((i:Int),(k:Int))∧i≤m∧k≤n∧(0<i∨0<k)
theorem zn2 {a b:List Int}:∀ (f i k:Nat),i≤a.length→k≤b.length→(∀ p∈paF a b f i k,QOK a.length b.length p)∧(paF a b f i k).length≤f
 | 0,_,_,_,_=>⟨(fun p hp=>by cases hp),Nat.le_refl _⟩
 | f+1,i,k,hi,hk=>by
  unfold paF
  split
  ·
   rename_i hg
   split
   ·
    rename_i hb
    have h1:i<a.length∧k<b.length:=by unfold Xt at hb;simp at hb;omega
    have ih:=zn2 f (i+1) (k+1) h1.1 h1.2
    refine ⟨fun p hp=>?_,by rw [List.length_cons];omega⟩
    rcases List.mem_cons.1 hp with rfl | hp
    ·
     exact ⟨i+1,k+1,rfl,h1.1,h1.2,by omega⟩
    ·
     exact ih.1 p hp
   ·
    rename_i hb
    split
    ·
     rename_i ho
     have h1:i<a.length:=by unfold zhT at ho;simp at ho;omega
     have ih:=zn2 f (i+1) k h1 hk
     refine ⟨fun p hp=>?_,by rw [List.length_cons];omega⟩
     rcases List.mem_cons.1 hp with rfl | hp
     ·
      exact ⟨i+1,0,rfl,h1,Nat.zero_le _,by omega⟩
     ·
      exact ih.1 p hp
    ·
     rename_i ho
     have h1:k<b.length:=ziK hi hk (by simp at hg;omega) (by simpa using hb) (by simpa using ho)
     have ih:=zn2 f i (k+1) hi h1
     refine ⟨fun p hp=>?_,by rw [List.length_cons];omega⟩
     rcases List.mem_cons.1 hp with rfl | hp
     ·
      exact ⟨0,k+1,rfl,Nat.zero_le _,h1,by omega⟩
     ·
      exact ih.1 p hp
  ·
   exact ⟨(fun p hp=>by cases hp),Nat.zero_le _⟩
theorem zdx {a b:List Int}:(∀ p∈Je a b,QOK a.length b.length p)∧(Je a b).length≤a.length+b.length:=by
 unfold Je
 split
 ·
  exact ⟨(fun p hp=>by cases hp),Nat.zero_le _⟩
 ·
  exact zn2 _ 0 0 (Nat.zero_le _) (Nat.zero_le _)
theorem zk0 {m n:Nat}:∀ (ps:List (Int×Int)) (a:Nat),a≤m→(∀ p∈ps,QOK m n p)→(∀ q∈zaO (a:Int) ps,∃ c r:Nat,q=((c:Int),(r:Int))∧c≤m∧r<n)∧(zaO (a:Int) ps).length≤ps.length
 | [],_,_,_=>⟨(fun q hq=>by cases hq),Nat.le_refl _⟩
 | p::ps,a,ha,h=>by
  obtain ⟨i,k,rfl,hi,hk,h0⟩:=h p (List.mem_cons_self ..)
  unfold zaO
  split
  ·
   have ih:=zk0 ps i hi fun p hp=>h p (List.mem_cons_of_mem _ hp)
   exact ⟨ih.1,Nat.le_succ_of_le ih.2⟩
  ·
   rename_i hn
   have hi0:i=0:=by simp at hn;omega
   have ih:=zk0 ps a ha fun p hp=>h p (List.mem_cons_of_mem _ hp)
   refine ⟨fun q hq=>?_,by rw [List.length_cons,List.length_cons];omega⟩
   rcases List.mem_cons.1 hq with rfl | hq
   ·
    exact ⟨a,k-1,by simp;omega,ha,by omega⟩
   ·
    exact ih.1 q hq
theorem zac {xs:List Wr}{i:Nat}:(∀ p∈pfW xs i,QOK (csW xs 0).length (csW xs i).length p)∧(pfW xs i).length≤(csW xs 0).length+(csW xs i).length:=by
 unfold pfW
 split
 ·
  exact ⟨(fun p hp=>by cases hp),Nat.zero_le _⟩
 ·
  exact zdx
theorem zpo {xs:List Wr}{i:Nat}:(∀ q∈alW xs i,∃ c r:Nat,q=((c:Int),(r:Int))∧c≤(csW xs 0).length∧r<(csW xs i).length)∧(alW xs i).length≤(csW xs 0).length+(csW xs i).length:=by
 have h:=zk0 (pfW xs i) 0 (Nat.zero_le _) (zac (xs:=xs) (i:=i)).1
 exact ⟨h.1,Nat.le_trans h.2 zac.2⟩
theorem WN {xs:List Wr}{i B:Nat}(h:∀ x∈xs,x.rs.length≤B):(csW xs i).length≤B:=by
 unfold csW
 cases hx:xs[i]? with
 | none=>exact Nat.zero_le _
 | some x=>
  have:=h x (List.mem_of_getElem? hx)
  show (x.rs.map KE).length≤B
  rw [List.length_map];exact this
def PrQ (I:Qw)(xs:List Wr)(hs:List Hd)(i:Nat):Prop:=∀ j,j<i→∃ h,hs[j]? =some h∧h.n=(pfW xs j).length∧Sl I 2 V9 h.a h.n h.c (pfW xs j)
theorem PrQ.mono {I I':Qw}{xs:List Wr}{hs:List Hd}{i:Nat}(h:PrQ I xs hs i)(hI:HLe I I'):PrQ I' xs hs i:=fun j hj=>by
 obtain ⟨x,h1,h2,h3⟩:=h j hj;exact ⟨x,h1,h2,h3.mono hI⟩
theorem PrQ.start {I:Qw}{xs:List Wr}{n:Nat}(hn:0<n):PrQ I xs (List.replicate n ⟨none,0,0⟩) 1:=fun j hj=>by
 obtain rfl:j=0:=by omega
 exact ⟨_,by simp [hn];rfl,rfl,.nil⟩
theorem PrQ.put {I:Qw}{xs:List Wr}{hs:List Hd}{i:Nat}{a:Option Addr}{n c:Nat}(h:PrQ I xs hs i)(hi:0<i)(hil:i<hs.length)(hS:Sl I 2 V9 a n c (Je (csW xs 0) (csW xs i))):PrQ I xs (hs.set i ⟨a,n,c⟩) (i+1):=fun j hj=>by
 have hp:pfW xs i=Je (csW xs 0) (csW xs i):=by unfold pfW;rw [if_neg (by omega)]
 by_cases e:j=i
 ·
  subst e
  exact ⟨⟨a,n,c⟩,by rw [List.getElem?_set_self hil],by rw [hp];exact hS.len.symm,by rw [hp];exact hS⟩
 ·
  obtain ⟨x,h1,h2,h3⟩:=h j (by omega)
  exact ⟨x,by rw [List.getElem?_set_ne (Ne.symm e)];exact h1,h2,h3⟩
end
section
open Go Go.Kn Go.Proofs
theorem Uy (row:List Int)(m:Nat)(b:Int):(Zk row).setIfInBounds (m*1) (.int .i64 b)=Zk (row.set m b):=by
 unfold Zk
 rw [JL,JL,Nat.mul_one,List.setIfInBounds_toArray,List.map_set]
theorem zvN {row:List Int}{m:Nat}(h:m<row.length):Nat.blt (m*1) (Zk row).size=true:=by
 unfold Zk
 rw [JL,Nat.mul_one]
 simpa [Nat.blt_eq] using h
theorem znE {I:Qw}{b t k:Nat}{hs:List Hd}{h:Hd}{l:Go.Kn.Loc}(e:hs[k]? =some h):QY I ((b,.cells (VW hs) t (0,0))::l) b (k*1) (.slice h.a h.n h.c):=by
 refine .here ?_
 rw [Vb]
 unfold VW
 rw [X5,Nat.mul_one]
 simp [e]
theorem Cells.imm {I:Qw}{b t:Nat}{vs:List Value}{fz:Nat×Nat}{l:Go.Kn.Loc}(h:I b=some (.cells vs.toArray t fz)):Cells I l b 0 vs:=fun j v hj=>.imm h (by rw [Vb,Nat.zero_add];simpa using hj)
theorem ziP {xs:List Wr}(h:(Xw xs != 0||xs.length==0)=false):Xw xs=0∧0<xs.length∧xs.length≤24∧∀ x∈xs,x.rs.length≤64:=by
 have h1:Xw xs=0∧¬xs.length=0:=by simpa using h
 obtain ⟨h1,h2⟩:=h1
 unfold Xw at h1
 split at h1
 ·
  cases h1
 ·
  rename_i h3
  split at h1
  ·
   cases h1
  ·
   rename_i h4
   refine ⟨by unfold Xw;rw [if_neg h3,if_neg h4];exact h1,by omega,by omega,fun x hx=>?_⟩
   have h5:xs.any (fun x=>decide (x.rs.length>64))=false:=by simpa using h4
   have:=List.any_eq_false.1 h5 x hx
   simp at this;omega
theorem zpJ {xs:List Wr}{i:Nat}{q:Int×Int}{pre:List (Int×Int)}(h:pre++[q]<+:alW xs i):0≤q.1∧q.1.toNat<(csW xs 0).length+1∧0≤q.2∧q.2.toNat<(csW xs i).length∧cnt pre q.1.toNat<cnt (alW xs i) q.1.toNat:=by
 obtain ⟨c,r,rfl,h1,h2⟩:=zpo.1 q (h.subset (by simp))
 have h3:=ztc (a:=((c:Int),(r:Int)).1.toNat) h
 rw [zeW rfl] at h3
 exact ⟨by simp,by simp;omega,by simp,by simpa using h2,h3⟩
theorem zkq {xs:List Wr}(h:∀ x∈xs,x.rs.length≤64)(i:Nat):(alW xs i).length≤128:=by
 have h1:=(zpo (xs:=xs) (i:=i)).2
 have h2:=WN (i:=0) h
 have h3:=WN (i:=i) h
 omega
theorem zwH {xs:List Wr}{i k:Nat}{y:Int×Int}(h:(pfW xs i)[k]? =some y):0≤y.1∧y.1≤(csW xs 0).length∧0≤y.2∧y.2≤(csW xs i).length:=by
 obtain ⟨a,b,rfl,h1,h2,_⟩:=zac.1 y (List.mem_of_getElem? h)
 simp;omega
theorem zxn {xs:List Wr}(hb:∀ x∈xs,x.rs.length≤64)(i:Nat):∀ p∈pfW xs i, -1000000≤p.2∧p.2≤1000000:=fun p hp=>by
 obtain ⟨a,b,rfl,h1,h2,_⟩:=zac.1 p hp
 have:=WN (i:=i) hb
 simp;omega
theorem zpY {xs:List Wr}{k:Nat}(h:k<(csW xs 0).length):V6 (wdW xs) k+wdW xs k<loW xs:=by
 have h1:=zbH (w:=wdW xs) (show k<k+1 by omega)
 have h2:=zbH (w:=wdW xs) (show k+1<(csW xs 0).length+1 by omega)
 have h3:V6 (wdW xs) (k+1)=V6 (wdW xs) k+(wdW xs k+1):=rfl
 unfold loW;omega
theorem zsP {xs:List Wr}{a i c:Nat}(ha:a<(csW xs 0).length+1)(hi:i<xs.length)(hc:c<cnt (alW xs i) a):V6 (wdW xs) a+c<loW xs:=by
 have h1:=zbH (w:=wdW xs) ha
 have h2:cnt (alW xs i) a≤wdW xs a:=zoM hi
 unfold loW;omega
theorem zzo {xs:List Wr}:((V6 (wdW xs) ((csW xs 0).length+1):Nat):Int)-1=((loW xs:Nat):Int):=by
 have:=zi0 (w:=wdW xs) ((csW xs 0).length+1)
 unfold loW;omega
theorem zlp {w:Nat→Nat}{l:List Int}{f:Nat→Int}{y:Int×Int}(h:(decide (y.1>0)&&decide (y.2>0))=true):prF w l f y=US f (V6 w (y.1-1).toNat+w (y.1-1).toNat) (l.getD (y.2-1).toNat 0):=by unfold prF;rw [if_pos h]
theorem zo6 {w:Nat→Nat}{l:List Int}{f:Nat→Int}{y:Int×Int}(h:(decide (y.1>0)&&decide (y.2>0))=false):prF w l f y=f:=by unfold prF;rw [if_neg (by rw [h];decide)]
theorem zoh {f g:Nat→Nat}{a:Nat}:zsm (YN f a) (YN g a)=((max (f a) (g a):Nat):Int):=zmM
theorem zb6 {f:Nat→Nat}{a B:Nat}(h:f a≤B):0≤YN f a∧YN f a≤(B:Int):=by unfold YN;omega
theorem zfG {n:Nat}:((n:Int)==0)=(n==0):=by rw [Bool.eq_iff_iff];simp
end
section
open Go Go.Kn Go.Proofs
theorem zxE:Fun Tryz.prog 58:=.of Tryz.func58 (by kernel_rfl) (by kernel_rfl)
theorem VG:Fun Tryz.prog 59:=.of Tryz.func59 (by kernel_rfl) (by kernel_rfl)
theorem zuM:Fun Tryz.prog 60:=.of Tryz.func60 (by kernel_rfl) (by kernel_rfl)
theorem zpd:Fun Tryz.prog 61:=.of Tryz.func61 (by kernel_rfl) (by kernel_rfl)
theorem zte:MkT Tryz.prog 133 41 24 (.slice none 0 0):=⟨by kernel_rfl,by kernel_rfl,rfl⟩
theorem zcm:SlT Tryz.prog 133 41 1:=.of (by kernel_rfl)
theorem zxj:SzT Tryz.prog 41 1:=.of (by kernel_rfl)
set_option maxHeartbeats 40000000 in
theorem ziF {I:Qw} {av:Option Addr} {n c:Nat} {xs:List Wr} (hW0:SlW I av n c xs) (hn:n≤100000):Z4 Tryz.prog 27 [.slice av n c] I [] (za2 (zaP xs) (Wu xs)):=by
 intro g H w hw
 refine zeS Tryz.func27 rfl Tryz.ntmps27 rfl hw ?_
 have hIc:=zAl I
 obtain ⟨ws,hW⟩:=id hW0
 have hH:=hW.1
 have hlW:=hW.len
 subst hlW
 refine zR (zA ?_)
 refine zA (zN (Qk (zR ?_)))
 refine zM ?_
 refine qc (vs:=[_]) rfl zxE (zwz hW0 hn) ?_
 refine zA ?_
 refine zN (zR ?_)
 refine zM ?_
 refine zC ?_
 refine zM ?_
 refine QV 2 rfl rfl rfl ?_
 refine zJ (Qh rfl) ?_
 refine zJ (ZB rfl VI) ?_
 refine zJ (QI rfl rfl rfl) ?_
 refine Zs rfl rfl rfl rfl rfl ?_
 refine zN ?_
 refine zI ?_ ?_<;>intro hc33
 ·
  rw [zfG] at hc33
  refine zR (zM ?_)
  refine zA ?_
  refine zA (zN (Qs (Qb ?_)))
  first
  | exact Ud (L:=[]) (fun a ha w hw=>zuu rfl rfl rfl a ha w) (fun w hw=>⟨_,I,[],rfl,hIc,hw.drop,by rw [(zsV hc33).1];exact za2.empty (zsV hc33).2⟩)
 rw [zfG] at hc33
 obtain ⟨hck,hx1,hx24,hrs⟩:=ziP hc33
 obtain ⟨w0,x0,hx0,hv0,e01,e02,hR0⟩:=hW.at (k:=0) (by omega)
 have hcs0:x0.rs.map KE=csW xs 0:=(zfY hv0).symm
 have hM64:=WN (i:=0) hrs
 have hR0l:=hR0.len
 have hx0b:=hrs x0 (List.mem_of_getElem? hv0)
 refine Qo (Qa (zR (zM ?_)))
 refine zV (zX VI hH) ?_
 refine zV (Qq rfl zaX (fun hg=>by exact zAm hH hx0) rfl) ?_
 refine QA (cap:=[]) (vs:=[_]) rfl rfl VG .nil (Yy hR0 (by omega) _ _) rfl rfl ?_
 rintro vv1 I1 L1 hI1 ⟨rfl,av4,c4,rfl,hT⟩
 have hW:=hW.mono hI1;have hH:=hH.mono hI1;have hIc:=hIc.trans hI1
 rw [hcs0] at hT ⊢
 refine zA ?_
 refine zN (zR ?_)
 refine zM ?_
 refine zQ VI ?_
 refine Q4 zte rfl rfl (by omega) (by decide) rfl rfl (fun b_41=>?_)
 refine zA (Qc ?_)
 rw [show ((xs.length:Nat):Int).toNat=xs.length from rfl,zhl]
 refine Qa (zR (zM ?_))
 refine zQ Qt ?_
 refine zB ?_
 refine Q4 YC rfl rfl (by omega) (by decide) rfl rfl (fun b_45=>?_)
 refine Qv YA rfl rfl (fun b_6=>?_)
 refine zS Zm ?_
 refine Qc ?_
 have e1:(((csW xs 0).length:Nat):Int)+1=(((csW xs 0).length+1:Nat):Int):=rfl
 rw [e1,show (((csW xs 0).length+1:Nat):Int).toNat=(csW xs 0).length+1 from rfl,Q7,Zl,Wn]
 refine Zn (b:=b_6) (by repeat (first | exact Zc.here | apply Zc.there)) (fun I2 hI2 hb2=>?_)
 have hW:=hW.mono hI2;have hH:=hH.mono hI2;have hT:=hT.mono hI2;have hIc:=hIc.trans hI2
 have hC6:QY I2 [] b_6 0 (.slice (some ⟨b_45,0,none⟩) ((csW xs 0).length+1) ((csW xs 0).length+1)):=.imm hb2 rfl
 refine Qa (Qk (Qk ?_))
 have hw1:=zqX (al:=alW xs) zmf
 refine JK (loc':=(b_45,.cells (Zk (VD ((csW xs 0).length+1) (YN (wdF (alW xs) 1)))) 3 (0,0))::(b_41,.cells (VW (List.replicate xs.length ⟨none,0,0⟩)) 41 (0,0))::MB []) (by rw [hw1];rfl) ?_
 refine Qf (zA (zN (Ql ?_)))
 refine UF [(0,_),(2,_),(4,_),(5,_),(6,_)] (.cons rfl (.cons rfl (.cons rfl (.cons rfl (.cons rfl .nil))))) (fun T L0 mz ms E I' loc'=>∃ (i:Nat) (hs:List Hd),mz=xs.length-i∧E=(7,.int .i64 i)::T∧HLe I2 I'∧(b_45,.cells (Zk (VD ((csW xs 0).length+1) (YN (wdF (alW xs) i)))) 3 (0,0))::(b_41,.cells (VW hs) 41 (0,0))::MB ms=loc'∧i≤xs.length∧1≤i∧hs.length=xs.length∧PrQ I' xs hs i) _ _ _ _ ⟨1,_,rfl,rfl,zAl _,rfl,hx1,Nat.le_refl _,by rw [List.length_replicate],PrQ.start hx1⟩ (.cons rfl (.cons rfl (.cons rfl (.cons rfl (.cons rfl (.cons rfl .nil)))))) (zAl _) rfl ?_
 rintro mz ms E J3 loc' ⟨i,hs,rfl,rfl,hJ,rfl,hi,hi1,hhl,hPr⟩
 have hW:=hW.mono hJ;have hH:=hH.mono hJ;have hT:=hT.mono hJ;have hC6:=hC6.mono hJ;have hIc:=hIc.trans hJ
 have hB0:=hJ
 refine Qk (zR (zM ?_))
 refine zM ?_
 refine zQ VI ?_
 refine zC (zN ?_)
 refine zI ?_ ?_<;>intro hc49
 ·
  have hlt_i:i<xs.length:=by have h:=hc49;simp at h;omega
  obtain ⟨w,x,hx,hv,e1,e2,hR⟩:=hW.at hlt_i
  have hcsi:x.rs.map KE=csW xs i:=(zfY hv).symm
  have hMi:=WN (i:=i) hrs
  have hRl:=hR.len
  have hxb:=hrs x (List.mem_of_getElem? hv)
  refine Qo (Qa (Qk (Ql (zR (zM ?_)))))
  refine zM ?_
  refine zM ?_
  refine zM ?_
  refine zM ?_
  refine zV (zX VI hH) ?_
  refine zV (Qq rfl zaX (fun hg=>by exact zAm hH hx) rfl) ?_
  refine QA (cap:=[]) (vs:=[_]) rfl rfl VG .nil (Yy hR (by omega) _ _) rfl rfl ?_
  rintro vv4 I4 L4 hI4 ⟨rfl,av7,c7,rfl,hT7⟩
  have hT:=hT.mono hI4;have hC6:=hC6.mono hI4;have hPr:=hPr.mono hI4;have hB0:=hB0.trans hI4
  rw [hcsi] at hT7 ⊢
  refine QA (cap:=[]) (vs:=[_,_]) rfl rfl zuM .nil (zxa hT hT7 (by omega) (by omega)) rfl rfl ?_
  rintro vv5 I5 L5 hI5 ⟨rfl,z8,av8,c8,rfl,hP8⟩
  have hC6:=hC6.mono hI5;have hPr:=hPr.mono hI5;have hB0:=hB0.trans hI5
  refine zM ?_
  refine zE ?_
  refine zE ?_
  refine zE ?_
  refine zV (Q6 rfl rfl zcm (fun hg=>by omega)) ?_
  refine ZE rfl rfl zxj rfl rfl (by repeat (first | exact Upd.here | apply Upd.there | apply QM)) (zz2 (by omega)) ?_
  refine Qc ?_
  rw [show (#[Value.int .i64 z8,Value.slice av8 (Je (csW xs 0) (csW xs i)).length c8,Value.int .i64 (zaD (csW xs 0) (csW xs i))]:Array Value)[1]=Value.slice av8 (Je (csW xs 0) (csW xs i)).length c8 from rfl,zhw]
  have hPr2:=hPr.put (by omega) (by omega) hP8
  have hs2_at:(hs.set i ⟨av8,(Je (csW xs 0) (csW xs i)).length,c8⟩)[i]? =some ⟨av8,(Je (csW xs 0) (csW xs i)).length,c8⟩:=List.getElem?_set_self (by omega)
  have hpfe:pfW xs i=Je (csW xs 0) (csW xs i):=by unfold pfW;rw [if_neg (by omega)]
  have hPi:Sl I5 2 V9 av8 (Je (csW xs 0) (csW xs i)).length c8 (pfW xs i):=by rw [hpfe];exact hP8
  have hpl:=(zac (xs:=xs) (i:=i)).2
  have hpr:=(zdx (a:=(csW xs 0)) (b:=(csW xs i))).2
  refine Qa (zR (zM ?_))
  refine zQ Qt ?_
  refine zB ?_
  refine Q4 YC rfl rfl (by omega) (by decide) rfl rfl (fun b_69=>?_)
  refine Qv YA rfl rfl (fun b_8=>?_)
  refine zS Zm ?_
  refine Qc ?_
  have e1:(((csW xs 0).length:Nat):Int)+1=(((csW xs 0).length+1:Nat):Int):=rfl
  rw [e1,show (((csW xs 0).length+1:Nat):Int).toNat=(csW xs 0).length+1 from rfl,Q7,Zl,Wn]
  refine Zn (b:=b_8) (by repeat (first | exact Zc.here | apply Zc.there)) (fun I6 hI6 hb6=>?_)
  have hC6:=hC6.mono hI6;have hPr2:=hPr2.mono hI6;have hPi:=hPi.mono hI6;have hB0:=hB0.trans hI6
  have hC8:QY I6 [] b_8 0 (.slice (some ⟨b_69,0,none⟩) ((csW xs 0).length+1) ((csW xs 0).length+1)):=.imm hb6 rfl
  refine Qa (zR (zM ?_))
  refine zM ?_
  refine zV (Q6 rfl rfl zcm (fun hg=>by omega)) ?_
  refine zV (Qd rfl zgq (fun hg=>by exact zAf (zAf (znE hs2_at)))) ?_
  refine QA (cap:=[]) (vs:=[_]) rfl rfl zpd .nil (zjc _ _ _ _) rfl rfl ?_
  rintro vv7 I7 L7 hI7 ⟨rfl,b1,rfl,hb1⟩
  have hC6:=hC6.mono hI7;have hPr2:=hPr2.mono hI7;have hPi:=hPi.mono hI7;have hC8:=hC8.mono hI7;have hB0:=hB0.trans hI7
  refine zN (Ql ?_)
  refine JK (loc':=[]++(((b_69,.cells (Zk (VD ((csW xs 0).length+1) (YN (cnt [])))) 3 (0,0))::(b_45,.cells (Zk (VD ((csW xs 0).length+1) (YN (wmx (wdF (alW xs) i) [])))) 3 (0,0))::(b_41,.cells (VW (hs.set i ⟨av8,(Je (csW xs 0) (csW xs i)).length,c8⟩)) 41 (0,0))::[])++MB ms)) (by rw [zkt];rfl) ?_
  refine U2 (K:=[]) (L:=(b_69,.cells (Zk (VD ((csW xs 0).length+1) (YN (cnt [])))) 3 (0,0))::(b_45,.cells (Zk (VD ((csW xs 0).length+1) (YN (wmx (wdF (alW xs) i) [])))) 3 (0,0))::(b_41,.cells (VW (hs.set i ⟨av8,(Je (csW xs 0) (csW xs i)).length,c8⟩)) 41 (0,0))::[]) (en1:=zzn) (en2:=zzB) (xs:=alW xs i) (fun pre I' loc'=>loc'=(b_69,.cells (Zk (VD ((csW xs 0).length+1) (YN (cnt pre)))) 3 (0,0))::(b_45,.cells (Zk (VD ((csW xs 0).length+1) (YN (wmx (wdF (alW xs) i) pre)))) 3 (0,0))::(b_41,.cells (VW (hs.set i ⟨av8,(Je (csW xs 0) (csW xs i)).length,c8⟩)) 41 (0,0))::[]) (fun _ _ _ _=>False) (fun pre x E2 I2 loc2=>E2=[(6,Ze b_6),(8,Ze b_8),(9,.int .i64 x.1)]∧loc2=(b_69,.cells (Zk (VD ((csW xs 0).length+1) (YN (cnt pre)))) 3 (0,0))::(b_45,.cells (Zk (VD ((csW xs 0).length+1) (YN (wmx (wdF (alW xs) i) pre)))) 3 (0,0))::(b_41,.cells (VW (hs.set i ⟨av8,(Je (csW xs 0) (csW xs i)).length,c8⟩)) 41 (0,0))::[]) rfl zkC (zkM hPi (by omega) (zxn hrs i) hb1) rfl rfl rfl ?_ ?_ ?_ ?_
  ·
   rintro l9 pre x I1 loc1 H1 hpre hI1 rfl
   refine Qf (zA (Qc ?_))
   exact zbI _ ⟨zAl _,rfl,rfl⟩ (.cons rfl (.cons rfl (.cons rfl .nil)))
  ·
   rintro l9 pre x E2 I2 loc2 H2 hpre hI2 ⟨rfl,rfl⟩
   have hC6:=hC6.mono hI2;have hC8:=hC8.mono hI2
   obtain ⟨x1,x2,x3,x4,x5⟩:=zpJ hpre
   have hcb:=Nat.le_trans (@ze5 (alW xs i) x.1.toNat) (zkq hrs i)
   have hnc:=zb6 (f:=cnt pre) (a:=x.1.toNat) (B:=128) (by omega)
   refine Ql (zR ?_)
   refine zV (Qd rfl QJ (fun hg=>by exact hC8.any)) ?_
   refine zM ?_
   refine zV (Q6 rfl rfl Qt (fun hg=>by omega)) ?_
   refine zV (Qd rfl Qr (fun hg=>by exact Jn (YH (by omega)))) ?_
   refine zB ?_
   refine zV (Q6 rfl rfl Qt (fun hg=>by omega)) ?_
   refine ZE rfl rfl Yd rfl rfl (by repeat (first | exact Upd.here | apply Upd.there | apply QM)) (zvN (by rw [Yb];omega)) ?_
   refine Qc ?_
   rw [Uy,JU,show YN (cnt pre) x.1.toNat+1=((cnt pre x.1.toNat+1:Nat):Int) from rfl,zaj,←U5]
   refine Qa ?_
   have hD:=zAl I2
   refine JH ?_
   refine Z7 I2 [(b_69,.cells (Zk (VD ((csW xs 0).length+1) (YN (cnt (pre++[x]))))) 3 (0,0))] mixed ?_
   refine zT 0 rfl (Qd rfl QJ (fun hg=>by exact hC6.any)) hD ?_
   refine zT 1 rfl (Qh rfl) hD ?_
   refine zT 2 rfl (Qd rfl QJ (fun hg=>by exact hC6.any)) hD ?_
   refine zT 3 rfl (Qh rfl) hD ?_
   refine zT 4 rfl (Q6 rfl rfl Qt (fun hg=>by omega)) hD ?_
   refine zT 6 rfl (Qd rfl QJ (fun hg=>by exact hC8.any)) hD ?_
   refine zT 7 rfl (Qh rfl) hD ?_
   refine zT 8 rfl (Q6 rfl rfl Qt (fun hg=>by omega)) hD ?_
   refine zT 9 rfl (Qd rfl Qr (fun hg=>by exact Jn (YH (by omega)))) hD ?_
   refine qd 5 rfl ?_
   refine zV (Qd rfl Qr (fun hg=>by exact zAf (Jn (YH (by omega))))) ?_
   refine Qc ?_
   refine zD hD ?_
   refine zT 10 rfl (Vd rfl rfl) hD ?_
   refine zT 11 rfl (Q6 rfl rfl Qt (fun hg=>by omega)) hD ?_
   refine qd 12 rfl ?_
   refine ZE rfl rfl Yd rfl rfl (by repeat (first | exact Upd.here | apply Upd.there | apply QM)) (zvN (by rw [Yb];omega)) ?_
   refine Qc ?_
   refine zD hD ?_
   refine QK (by kernel_rfl) ?_
   refine QW ?_
   rw [zoh,Uy,JU,zaj,znt rfl]
   refine Qg ?_
   exact X2 ⟨zAl _,rfl⟩ .refl
  ·
   rintro bd I1 loc1 hI1 rfl
   have hPr2:=hPr2.mono hI1;have hB0:=hB0.trans hI1
   refine Qg (Qg (Qa (Qf (zM ?_))))
   refine zB ?_
   refine zA (Qc ?_)
   exact zd (h:=⟨xs.length-(i+1),by omega,i+1,_,rfl,rfl,hB0,rfl,by omega,by omega,by rw [List.length_set];exact hhl,hPr2⟩)
  rintro c bd pre I1 loc1 hI1 hpre hF;exact hF.elim
 have hge_i:xs.length≤i:=by have h:=hc49;simp at h;omega
 obtain rfl:i=xs.length:=by omega
 refine QH (Qe (Qe (Qj (Qa (zR (zM ?_))))))
 refine zQ Qt ?_
 refine zB ?_
 refine Q4 YC rfl rfl (by omega) (by decide) rfl rfl (fun b_98=>?_)
 refine Qv YA rfl rfl (fun b_10=>?_)
 refine zS Zm ?_
 refine Qc ?_
 have e1:(((csW xs 0).length:Nat):Int)+1=(((csW xs 0).length+1:Nat):Int):=rfl
 rw [e1,show (((csW xs 0).length+1:Nat):Int).toNat=(csW xs 0).length+1 from rfl,Q7,Zl,Wn,←zmR (w:=(wdW xs))]
 refine Zn (b:=b_10) (by repeat (first | exact Zc.here | apply Zc.there)) (fun I8 hI8 hb8=>?_)
 have hW:=hW.mono hI8;have hH:=hH.mono hI8;have hT:=hT.mono hI8;have hC6:=hC6.mono hI8;have hPr:=hPr.mono hI8;have hIc:=hIc.trans hI8
 have hC10:QY I8 [] b_10 0 (.slice (some ⟨b_98,0,none⟩) ((csW xs 0).length+1) ((csW xs 0).length+1)):=.imm hb8 rfl
 refine Qa (zR (zA (zN (Qk (zR ?_)))))
 refine zV (Qd rfl QJ (fun hg=>by exact hC6.any)) ?_
 refine zQ Qt ?_
 refine zM (zN (Ql ?_))
 refine UF [(0,_),(2,_),(4,_),(5,_),(6,_),(10,_),(99,_),(100,_)] (.cons rfl (.cons rfl (.cons rfl (.cons rfl (.cons rfl (.cons rfl (.cons rfl (.cons rfl .nil)))))))) (fun T L0 mz ms E I' loc'=>∃ (k:Nat),mz=((csW xs 0).length+1)-k∧E=(11,.int .i64 ((V6 (wdW xs) k:Nat):Int))::(101,.int .i64 k)::T∧I8=I'∧(b_98,.cells (Zk (VD ((csW xs 0).length+1) (YN (atK (wdW xs) k)))) 3 (0,0))::(b_45,.cells (Zk (VD ((csW xs 0).length+1) (YN (wdW xs)))) 3 (0,0))::(b_41,.cells (VW hs) 41 (0,0))::MB ms=loc'∧k≤((csW xs 0).length+1)) _ _ _ _ ⟨0,rfl,rfl,rfl,rfl,Nat.zero_le _⟩ (.cons rfl (.cons rfl (.cons rfl (.cons rfl (.cons rfl (.cons rfl (.cons rfl (.cons rfl (.cons rfl (.cons rfl .nil)))))))))) (zAl _) rfl ?_
 rintro mz ms E I' loc' ⟨k,rfl,rfl,rfl,rfl,hk⟩
 refine zR (zC (zN (Qk ?_)))
 refine zI ?_ ?_<;>intro hc102
 ·
  have hlt_k:k<((csW xs 0).length+1):=by have h:=hc102;simp at h;omega
  have hns:=zb6 (f:=V6 (wdW xs)) (a:=k) (B:=20000) (Nat.le_trans (zej (zfQ (zkq hrs) _) k) (Nat.le_trans (Nat.mul_le_mul_right 129 (show k≤65 by omega)) (by decide)))
  have hnw:=zb6 (f:=(wdW xs)) (a:=k) (B:=128) (zfQ (zkq hrs) _ _)
  have e9:YN (V6 (wdW xs)) k=((V6 (wdW xs) k:Nat):Int):=rfl
  refine Qo (Qa (Qk (Ql (zR (zM ?_)))))
  refine zV (Q6 rfl rfl Qt (fun hg=>by omega)) ?_
  refine zV (Qd rfl Qr (fun hg=>by exact zAf (Jn (k:=k) (YH (show k<_ by omega))))) ?_
  refine zA ?_
  refine zA ?_
  refine zN (zR ?_)
  refine zV (Qd rfl QJ (fun hg=>by exact hC10.any)) ?_
  refine zM ?_
  refine zM ?_
  refine zV (Q6 rfl rfl Qt (fun hg=>by omega)) ?_
  refine ZE rfl rfl Yd rfl rfl (by repeat (first | exact Upd.here | apply Upd.there | apply QM)) (zvN (by rw [Yb];omega)) ?_
  refine Qc ?_
  rw [YQ,JU,zaj,znx]
  refine Qa (Qf (zM ?_))
  refine zM ?_
  refine zB ?_
  refine zB ?_
  refine zA (Qc (Qg (Qa (Qf ?_))))
  refine zB ?_
  refine zM (Qc ?_)
  exact zd (h:=⟨((csW xs 0).length+1)-(k+1),by omega,k+1,rfl,rfl,rfl,rfl,by omega⟩)
 have hge_k:((csW xs 0).length+1)≤k:=by have h:=hc102;simp at h;omega
 obtain rfl:k=(csW xs 0).length+1:=by omega
 have hsE:=Nat.le_trans (zej (w:=wdW xs) (zfQ (zkq hrs) _) ((csW xs 0).length+1)) (Nat.mul_le_mul_right 129 (show (csW xs 0).length+1≤65 by omega))
 refine QH (Qe (Qe (Qj (Qa (Qk (zR (zM ?_)))))))
 refine zB ?_
 refine zA (Qc ?_)
 rw [zzo]
 refine Qa (zR (zM ?_))
 refine zC (zN ?_)
 refine zI ?_ ?_<;>intro hc118
 ·
  have hbig:loW xs>256:=by have h:=hc118;simp at h;omega
  obtain ⟨t1,t2⟩:=zyi hc33 hbig
  refine zR (zA ?_)
  refine zA (zN (Qs (Qb ?_)))
  first
  | exact Ud (L:=_::_::_::[]) (fun a ha w hw=>zuu rfl rfl rfl a ha w) (fun w hw=>⟨_,I8,[],rfl,hIc,hw.drop,by rw [t1];exact za2.empty t2⟩)
 have hbig:¬loW xs>256:=by have h:=hc118;simp at h;omega
 obtain ⟨t1,t2⟩:=zzi hc33 hbig
 refine JK (by rw [zqC]) ?_
 refine zdd (L:=(b_98,.cells (Zk (VD ((csW xs 0).length+1) (YN (V6 (wdW xs))))) 3 (0,0))::(b_45,.cells (Zk (VD ((csW xs 0).length+1) (YN (wdW xs)))) 3 (0,0))::(b_41,.cells (VW hs) 41 (0,0))::[]) (R:=MB ms) (.cons .here (.cons .here (.cons .here .nil))) (fun I10 hI10 hall=>?_)
 have hW:=hW.mono hI10;have hH:=hH.mono hI10;have hT:=hT.mono hI10;have hC6:=hC6.mono hI10;have hPr:=hPr.mono hI10;have hC10:=hC10.mono hI10;have hIc:=hIc.trans hI10
 have hAt:Sl I10 1 QP (some ⟨b_98,0,none⟩) ((csW xs 0).length+1) ((csW xs 0).length+1) (VD ((csW xs 0).length+1) (YN (V6 (wdW xs)))):=Sl.lit _ Yb Qu (hall _ _ (by repeat (first | exact List.mem_cons_self .. | apply List.mem_cons_of_mem)))
 have hWd:Sl I10 1 QP (some ⟨b_45,0,none⟩) ((csW xs 0).length+1) ((csW xs 0).length+1) (VD ((csW xs 0).length+1) (YN (wdW xs))):=Sl.lit _ Yb Qu (hall _ _ (by repeat (first | exact List.mem_cons_self .. | apply List.mem_cons_of_mem)))
 have hPs:Sl I10 1 WL (some ⟨b_41,0,none⟩) xs.length xs.length hs:=Sl.lit _ hhl Zb (hall _ _ (by repeat (first | exact List.mem_cons_self .. | apply List.mem_cons_of_mem)))
 refine JK (loc':=[]++MB ms) rfl ?_
 refine Qo (Qa (Qk (zR (zM ?_))))
 refine zQ VI ?_
 refine zM (zN (Ql ?_))
 refine UF [(4,_),(5,_),(6,_),(10,_),(11,_),(119,_),(120,_)] (.cons rfl (.cons rfl (.cons rfl (.cons rfl (.cons rfl (.cons rfl (.cons rfl .nil))))))) (fun T L0 mz ms E I' loc'=>∃ (i:Nat) (v2:Value) (os:List Hd) (L:Go.Kn.Loc),mz=xs.length-i∧E=(2,v2)::(121,.int .i64 i)::T∧HLe I10 I'∧L++MB ms=loc'∧i≤xs.length∧OwnS 23 1 v2 i (os.flatMap WL) L∧zcp I' os ((List.range i).map (zqA xs))) _ _ _ _ ⟨0,_,[],[],rfl,rfl,zAl _,rfl,Nat.zero_le _,OwnS.nil,zcp.nil⟩ (.cons rfl (.cons rfl (.cons rfl (.cons rfl (.cons rfl (.cons rfl (.cons rfl (.cons rfl (.cons rfl .nil))))))))) (zAl _) rfl ?_
 rintro mz ms E J11 loc' ⟨i,v2,os,L,rfl,rfl,hJ,rfl,hi,hO,hre⟩
 have hW:=hW.mono hJ;have hH:=hH.mono hJ;have hT:=hT.mono hJ;have hC6:=hC6.mono hJ;have hPr:=hPr.mono hJ;have hC10:=hC10.mono hJ;have hAt:=hAt.mono hJ;have hWd:=hWd.mono hJ;have hPs:=hPs.mono hJ;have hIc:=hIc.trans hJ
 have hB6:=hJ
 obtain ⟨va2,vc2,rfl⟩:=zaS hO
 refine zR (zC (zN (Qk ?_)))
 refine zI ?_ ?_<;>intro hc122
 ·
  have hlt_i:i<xs.length:=by have h:=hc122;simp at h;omega
  obtain ⟨w,x,hx,hv,e1,e2,hR⟩:=hW.at hlt_i
  have hcsi:x.rs.map KE=csW xs i:=(zfY hv).symm
  have hMi:=WN (i:=i) hrs
  have hRl:=hR.len
  have hxb:=hrs x (List.mem_of_getElem? hv)
  obtain ⟨hp,hhp,hhn,hPf⟩:=hPr i hlt_i
  have hpl:=(zac (xs:=xs) (i:=i)).2
  refine Qo (Qa (Qk (Ql (zR (zM ?_)))))
  refine zV (zX VI hH) ?_
  refine zV (Qq rfl zaX (fun hg=>by exact zAm hH hx) rfl) ?_
  refine Qv ztU rfl rfl (fun b_15=>?_)
  refine zA ?_
  refine zh ziz ?_
  refine zN ?_
  refine zoy [(2,_),(4,_),(5,_),(6,_),(10,_),(11,_),(14,_),(119,_),(120,_),(121,_)] (.cons rfl (.cons rfl (.cons rfl (.cons rfl (.cons rfl (.cons rfl (.cons rfl (.cons rfl (.cons rfl (.cons rfl .nil)))))))))) (fun T L0 ms E I' loc'=>∃ (b16 b17 b127:Nat) (av17:Option Addr) (c17:Nat),E=(16,Ze b16)::(17,Ze b17)::T∧HLe J11 I'∧(b127,.cells (Zk (VD (loW xs) (fun _=>0))) 3 (0,0))::(L++MB ms)=loc'∧QY I' [] b16 0 (.slice (some ⟨b127,0,none⟩) (loW xs) (loW xs))∧QY I' [] b17 0 (.slice av17 (csW xs i).length c17)∧Sl I' 1 QP av17 (csW xs i).length c17 (csW xs i)) ?_ ?_
  ·
   have hKc30:=zAl J11
   have hD:=zAl J11
   refine JH ?_
   refine Z7 J11 [(b_15,.cells (zpG w).toArray 65 (0,0))] mixed ?_
   refine zT 0 rfl (Qh rfl) hD ?_
   refine zT 2 rfl (Qq rfl zaX (fun hg=>by exact Cells.g0) rfl) hD ?_
   refine zrN 1 3 4 5 rfl rfl rfl rfl (by kernel_rfl) ?_ ?_ ?_ ?_
   ·
    refine Q4 YC rfl rfl (by omega) (by decide) rfl rfl (fun b_127=>?_)
    refine Qc ?_
    refine zD hD ?_
    refine Ul 3 4 5 rfl rfl rfl (by kernel_rfl) ?_ ?_ ?_
    ·
     refine QA (cap:=[]) (vs:=[_]) rfl rfl VG .nil (Yy hR (by omega) _ _) rfl rfl ?_
     rintro vv12 I12 L12 hI12 ⟨rfl,av30,c30,rfl,hL30⟩
     have hKc30:=hKc30.trans hI12;have hD:=hD.trans hI12
     rw [hcsi] at hL30 ⊢
     refine Qc ?_
     refine zD hD ?_
     refine Zw 4 5 rfl rfl (by kernel_rfl) ?_ ?_
     ·
      refine Qv YA rfl rfl (fun b_16=>?_)
      refine Qc ?_
      refine zD hD ?_
      refine qd 5 rfl ?_
      refine Qv YA rfl rfl (fun b_17=>?_)
      refine Qc ?_
      refine zD hD ?_
      refine qd 6 rfl ?_
      refine zS Zm ?_
      refine Qc ?_
      refine zD hD ?_
      refine qd 7 rfl ?_
      refine zS Zm ?_
      refine Qc ?_
      refine zD hD ?_
      refine QK (by kernel_rfl) ?_
      refine QW ?_
      rw [show ((loW xs:Nat):Int).toNat=loW xs from rfl,Q7,Zl]
      refine QR (b:=b_16) (by repeat (first | exact Zc.here | apply Zc.there)) (fun I16 h16 e16=>?_)
      refine QR (b:=b_17) (by repeat (first | exact Zc.here | apply Zc.there)) (fun I17 h17 e17=>?_)
      exact zn (h:=⟨b_16,b_17,b_127,_,_,rfl,(hKc30.trans h16).trans h17,rfl,.imm (h17 _ _ e16) rfl,.imm e17 rfl,(hL30.mono h16).mono h17⟩)
     refine Qv YA rfl rfl (fun b_17=>?_)
     refine Qc ?_
     refine zD hD ?_
     refine qd 4 rfl ?_
     refine Qv YA rfl rfl (fun b_16=>?_)
     refine Qc ?_
     refine zD hD ?_
     refine qd 6 rfl ?_
     refine zS Zm ?_
     refine Qc ?_
     refine zD hD ?_
     refine qd 7 rfl ?_
     refine zS Zm ?_
     refine Qc ?_
     refine zD hD ?_
     refine QK (by kernel_rfl) ?_
     refine QW ?_
     rw [show ((loW xs:Nat):Int).toNat=loW xs from rfl,Q7,Zl]
     refine QR (b:=b_16) (by repeat (first | exact Zc.here | apply Zc.there)) (fun I16 h16 e16=>?_)
     refine QR (b:=b_17) (by repeat (first | exact Zc.here | apply Zc.there)) (fun I17 h17 e17=>?_)
     exact zn (h:=⟨b_16,b_17,b_127,_,_,rfl,(hKc30.trans h16).trans h17,rfl,.imm (h17 _ _ e16) rfl,.imm e17 rfl,(hL30.mono h16).mono h17⟩)
    ·
     refine Qv YA rfl rfl (fun b_16=>?_)
     refine Qc ?_
     refine zD hD ?_
     refine Zw 3 5 rfl rfl (by kernel_rfl) ?_ ?_
     ·
      refine QA (cap:=[]) (vs:=[_]) rfl rfl VG .nil (Yy hR (by omega) _ _) rfl rfl ?_
      rintro vv13 I13 L13 hI13 ⟨rfl,av30,c30,rfl,hL30⟩
      have hKc30:=hKc30.trans hI13;have hD:=hD.trans hI13
      rw [hcsi] at hL30 ⊢
      refine Qc ?_
      refine zD hD ?_
      refine qd 5 rfl ?_
      refine Qv YA rfl rfl (fun b_17=>?_)
      refine Qc ?_
      refine zD hD ?_
      refine qd 6 rfl ?_
      refine zS Zm ?_
      refine Qc ?_
      refine zD hD ?_
      refine qd 7 rfl ?_
      refine zS Zm ?_
      refine Qc ?_
      refine zD hD ?_
      refine QK (by kernel_rfl) ?_
      refine QW ?_
      rw [show ((loW xs:Nat):Int).toNat=loW xs from rfl,Q7,Zl]
      refine QR (b:=b_16) (by repeat (first | exact Zc.here | apply Zc.there)) (fun I16 h16 e16=>?_)
      refine QR (b:=b_17) (by repeat (first | exact Zc.here | apply Zc.there)) (fun I17 h17 e17=>?_)
      exact zn (h:=⟨b_16,b_17,b_127,_,_,rfl,(hKc30.trans h16).trans h17,rfl,.imm (h17 _ _ e16) rfl,.imm e17 rfl,(hL30.mono h16).mono h17⟩)
     refine Qv YA rfl rfl (fun b_17=>?_)
     refine Qc ?_
     refine zD hD ?_
     refine qd 3 rfl ?_
     refine QA (cap:=[]) (vs:=[_]) rfl rfl VG .nil (Yy hR (by omega) _ _) rfl rfl ?_
     rintro vv14 I14 L14 hI14 ⟨rfl,av30,c30,rfl,hL30⟩
     have hKc30:=hKc30.trans hI14;have hD:=hD.trans hI14
     rw [hcsi] at hL30 ⊢
     refine Qc ?_
     refine zD hD ?_
     refine qd 6 rfl ?_
     refine zS Zm ?_
     refine Qc ?_
     refine zD hD ?_
     refine qd 7 rfl ?_
     refine zS Zm ?_
     refine Qc ?_
     refine zD hD ?_
     refine QK (by kernel_rfl) ?_
     refine QW ?_
     rw [show ((loW xs:Nat):Int).toNat=loW xs from rfl,Q7,Zl]
     refine QR (b:=b_16) (by repeat (first | exact Zc.here | apply Zc.there)) (fun I16 h16 e16=>?_)
     refine QR (b:=b_17) (by repeat (first | exact Zc.here | apply Zc.there)) (fun I17 h17 e17=>?_)
     exact zn (h:=⟨b_16,b_17,b_127,_,_,rfl,(hKc30.trans h16).trans h17,rfl,.imm (h17 _ _ e16) rfl,.imm e17 rfl,(hL30.mono h16).mono h17⟩)
    refine Qv YA rfl rfl (fun b_17=>?_)
    refine Qc ?_
    refine zD hD ?_
    refine Zw 3 4 rfl rfl (by kernel_rfl) ?_ ?_
    ·
     refine QA (cap:=[]) (vs:=[_]) rfl rfl VG .nil (Yy hR (by omega) _ _) rfl rfl ?_
     rintro vv15 I15 L15 hI15 ⟨rfl,av30,c30,rfl,hL30⟩
     have hKc30:=hKc30.trans hI15;have hD:=hD.trans hI15
     rw [hcsi] at hL30 ⊢
     refine Qc ?_
     refine zD hD ?_
     refine qd 4 rfl ?_
     refine Qv YA rfl rfl (fun b_16=>?_)
     refine Qc ?_
     refine zD hD ?_
     refine qd 6 rfl ?_
     refine zS Zm ?_
     refine Qc ?_
     refine zD hD ?_
     refine qd 7 rfl ?_
     refine zS Zm ?_
     refine Qc ?_
     refine zD hD ?_
     refine QK (by kernel_rfl) ?_
     refine QW ?_
     rw [show ((loW xs:Nat):Int).toNat=loW xs from rfl,Q7,Zl]
     refine QR (b:=b_16) (by repeat (first | exact Zc.here | apply Zc.there)) (fun I16 h16 e16=>?_)
     refine QR (b:=b_17) (by repeat (first | exact Zc.here | apply Zc.there)) (fun I17 h17 e17=>?_)
     exact zn (h:=⟨b_16,b_17,b_127,_,_,rfl,(hKc30.trans h16).trans h17,rfl,.imm (h17 _ _ e16) rfl,.imm e17 rfl,(hL30.mono h16).mono h17⟩)
    refine Qv YA rfl rfl (fun b_16=>?_)
    refine Qc ?_
    refine zD hD ?_
    refine qd 3 rfl ?_
    refine QA (cap:=[]) (vs:=[_]) rfl rfl VG .nil (Yy hR (by omega) _ _) rfl rfl ?_
    rintro vv16 I16 L16 hI16 ⟨rfl,av30,c30,rfl,hL30⟩
    have hKc30:=hKc30.trans hI16;have hD:=hD.trans hI16
    rw [hcsi] at hL30 ⊢
    refine Qc ?_
    refine zD hD ?_
    refine qd 6 rfl ?_
    refine zS Zm ?_
    refine Qc ?_
    refine zD hD ?_
    refine qd 7 rfl ?_
    refine zS Zm ?_
    refine Qc ?_
    refine zD hD ?_
    refine QK (by kernel_rfl) ?_
    refine QW ?_
    rw [show ((loW xs:Nat):Int).toNat=loW xs from rfl,Q7,Zl]
    refine QR (b:=b_16) (by repeat (first | exact Zc.here | apply Zc.there)) (fun I16 h16 e16=>?_)
    refine QR (b:=b_17) (by repeat (first | exact Zc.here | apply Zc.there)) (fun I17 h17 e17=>?_)
    exact zn (h:=⟨b_16,b_17,b_127,_,_,rfl,(hKc30.trans h16).trans h17,rfl,.imm (h17 _ _ e16) rfl,.imm e17 rfl,(hL30.mono h16).mono h17⟩)
   ·
    refine QA (cap:=[]) (vs:=[_]) rfl rfl VG .nil (Yy hR (by omega) _ _) rfl rfl ?_
    rintro vv17 I17 L17 hI17 ⟨rfl,av30,c30,rfl,hL30⟩
    have hKc30:=hKc30.trans hI17;have hD:=hD.trans hI17
    rw [hcsi] at hL30 ⊢
    refine Qc ?_
    refine zD hD ?_
    refine Ul 1 4 5 rfl rfl rfl (by kernel_rfl) ?_ ?_ ?_
    ·
     refine Q4 YC rfl rfl (by omega) (by decide) rfl rfl (fun b_127=>?_)
     refine Qc ?_
     refine zD hD ?_
     refine Zw 4 5 rfl rfl (by kernel_rfl) ?_ ?_
     ·
      refine Qv YA rfl rfl (fun b_16=>?_)
      refine Qc ?_
      refine zD hD ?_
      refine qd 5 rfl ?_
      refine Qv YA rfl rfl (fun b_17=>?_)
      refine Qc ?_
      refine zD hD ?_
      refine qd 6 rfl ?_
      refine zS Zm ?_
      refine Qc ?_
      refine zD hD ?_
      refine qd 7 rfl ?_
      refine zS Zm ?_
      refine Qc ?_
      refine zD hD ?_
      refine QK (by kernel_rfl) ?_
      refine QW ?_
      rw [show ((loW xs:Nat):Int).toNat=loW xs from rfl,Q7,Zl]
      refine QR (b:=b_16) (by repeat (first | exact Zc.here | apply Zc.there)) (fun I16 h16 e16=>?_)
      refine QR (b:=b_17) (by repeat (first | exact Zc.here | apply Zc.there)) (fun I17 h17 e17=>?_)
      exact zn (h:=⟨b_16,b_17,b_127,_,_,rfl,(hKc30.trans h16).trans h17,rfl,.imm (h17 _ _ e16) rfl,.imm e17 rfl,(hL30.mono h16).mono h17⟩)
     refine Qv YA rfl rfl (fun b_17=>?_)
     refine Qc ?_
     refine zD hD ?_
     refine qd 4 rfl ?_
     refine Qv YA rfl rfl (fun b_16=>?_)
     refine Qc ?_
     refine zD hD ?_
     refine qd 6 rfl ?_
     refine zS Zm ?_
     refine Qc ?_
     refine zD hD ?_
     refine qd 7 rfl ?_
     refine zS Zm ?_
     refine Qc ?_
     refine zD hD ?_
     refine QK (by kernel_rfl) ?_
     refine QW ?_
     rw [show ((loW xs:Nat):Int).toNat=loW xs from rfl,Q7,Zl]
     refine QR (b:=b_16) (by repeat (first | exact Zc.here | apply Zc.there)) (fun I16 h16 e16=>?_)
     refine QR (b:=b_17) (by repeat (first | exact Zc.here | apply Zc.there)) (fun I17 h17 e17=>?_)
     exact zn (h:=⟨b_16,b_17,b_127,_,_,rfl,(hKc30.trans h16).trans h17,rfl,.imm (h17 _ _ e16) rfl,.imm e17 rfl,(hL30.mono h16).mono h17⟩)
    ·
     refine Qv YA rfl rfl (fun b_16=>?_)
     refine Qc ?_
     refine zD hD ?_
     refine Zw 1 5 rfl rfl (by kernel_rfl) ?_ ?_
     ·
      refine Q4 YC rfl rfl (by omega) (by decide) rfl rfl (fun b_127=>?_)
      refine Qc ?_
      refine zD hD ?_
      refine qd 5 rfl ?_
      refine Qv YA rfl rfl (fun b_17=>?_)
      refine Qc ?_
      refine zD hD ?_
      refine qd 6 rfl ?_
      refine zS Zm ?_
      refine Qc ?_
      refine zD hD ?_
      refine qd 7 rfl ?_
      refine zS Zm ?_
      refine Qc ?_
      refine zD hD ?_
      refine QK (by kernel_rfl) ?_
      refine QW ?_
      rw [show ((loW xs:Nat):Int).toNat=loW xs from rfl,Q7,Zl]
      refine QR (b:=b_16) (by repeat (first | exact Zc.here | apply Zc.there)) (fun I16 h16 e16=>?_)
      refine QR (b:=b_17) (by repeat (first | exact Zc.here | apply Zc.there)) (fun I17 h17 e17=>?_)
      exact zn (h:=⟨b_16,b_17,b_127,_,_,rfl,(hKc30.trans h16).trans h17,rfl,.imm (h17 _ _ e16) rfl,.imm e17 rfl,(hL30.mono h16).mono h17⟩)
     refine Qv YA rfl rfl (fun b_17=>?_)
     refine Qc ?_
     refine zD hD ?_
     refine qd 1 rfl ?_
     refine Q4 YC rfl rfl (by omega) (by decide) rfl rfl (fun b_127=>?_)
     refine Qc ?_
     refine zD hD ?_
     refine qd 6 rfl ?_
     refine zS Zm ?_
     refine Qc ?_
     refine zD hD ?_
     refine qd 7 rfl ?_
     refine zS Zm ?_
     refine Qc ?_
     refine zD hD ?_
     refine QK (by kernel_rfl) ?_
     refine QW ?_
     rw [show ((loW xs:Nat):Int).toNat=loW xs from rfl,Q7,Zl]
     refine QR (b:=b_16) (by repeat (first | exact Zc.here | apply Zc.there)) (fun I16 h16 e16=>?_)
     refine QR (b:=b_17) (by repeat (first | exact Zc.here | apply Zc.there)) (fun I17 h17 e17=>?_)
     exact zn (h:=⟨b_16,b_17,b_127,_,_,rfl,(hKc30.trans h16).trans h17,rfl,.imm (h17 _ _ e16) rfl,.imm e17 rfl,(hL30.mono h16).mono h17⟩)
    refine Qv YA rfl rfl (fun b_17=>?_)
    refine Qc ?_
    refine zD hD ?_
    refine Zw 1 4 rfl rfl (by kernel_rfl) ?_ ?_
    ·
     refine Q4 YC rfl rfl (by omega) (by decide) rfl rfl (fun b_127=>?_)
     refine Qc ?_
     refine zD hD ?_
     refine qd 4 rfl ?_
     refine Qv YA rfl rfl (fun b_16=>?_)
     refine Qc ?_
     refine zD hD ?_
     refine qd 6 rfl ?_
     refine zS Zm ?_
     refine Qc ?_
     refine zD hD ?_
     refine qd 7 rfl ?_
     refine zS Zm ?_
     refine Qc ?_
     refine zD hD ?_
     refine QK (by kernel_rfl) ?_
     refine QW ?_
     rw [show ((loW xs:Nat):Int).toNat=loW xs from rfl,Q7,Zl]
     refine QR (b:=b_16) (by repeat (first | exact Zc.here | apply Zc.there)) (fun I16 h16 e16=>?_)
     refine QR (b:=b_17) (by repeat (first | exact Zc.here | apply Zc.there)) (fun I17 h17 e17=>?_)
     exact zn (h:=⟨b_16,b_17,b_127,_,_,rfl,(hKc30.trans h16).trans h17,rfl,.imm (h17 _ _ e16) rfl,.imm e17 rfl,(hL30.mono h16).mono h17⟩)
    refine Qv YA rfl rfl (fun b_16=>?_)
    refine Qc ?_
    refine zD hD ?_
    refine qd 1 rfl ?_
    refine Q4 YC rfl rfl (by omega) (by decide) rfl rfl (fun b_127=>?_)
    refine Qc ?_
    refine zD hD ?_
    refine qd 6 rfl ?_
    refine zS Zm ?_
    refine Qc ?_
    refine zD hD ?_
    refine qd 7 rfl ?_
    refine zS Zm ?_
    refine Qc ?_
    refine zD hD ?_
    refine QK (by kernel_rfl) ?_
    refine QW ?_
    rw [show ((loW xs:Nat):Int).toNat=loW xs from rfl,Q7,Zl]
    refine QR (b:=b_16) (by repeat (first | exact Zc.here | apply Zc.there)) (fun I16 h16 e16=>?_)
    refine QR (b:=b_17) (by repeat (first | exact Zc.here | apply Zc.there)) (fun I17 h17 e17=>?_)
    exact zn (h:=⟨b_16,b_17,b_127,_,_,rfl,(hKc30.trans h16).trans h17,rfl,.imm (h17 _ _ e16) rfl,.imm e17 rfl,(hL30.mono h16).mono h17⟩)
   ·
    refine Qv YA rfl rfl (fun b_16=>?_)
    refine Qc ?_
    refine zD hD ?_
    refine Ul 1 3 5 rfl rfl rfl (by kernel_rfl) ?_ ?_ ?_
    ·
     refine Q4 YC rfl rfl (by omega) (by decide) rfl rfl (fun b_127=>?_)
     refine Qc ?_
     refine zD hD ?_
     refine Zw 3 5 rfl rfl (by kernel_rfl) ?_ ?_
     ·
      refine QA (cap:=[]) (vs:=[_]) rfl rfl VG .nil (Yy hR (by omega) _ _) rfl rfl ?_
      rintro vv18 I18 L18 hI18 ⟨rfl,av30,c30,rfl,hL30⟩
      have hKc30:=hKc30.trans hI18;have hD:=hD.trans hI18
      rw [hcsi] at hL30 ⊢
      refine Qc ?_
      refine zD hD ?_
      refine qd 5 rfl ?_
      refine Qv YA rfl rfl (fun b_17=>?_)
      refine Qc ?_
      refine zD hD ?_
      refine qd 6 rfl ?_
      refine zS Zm ?_
      refine Qc ?_
      refine zD hD ?_
      refine qd 7 rfl ?_
      refine zS Zm ?_
      refine Qc ?_
      refine zD hD ?_
      refine QK (by kernel_rfl) ?_
      refine QW ?_
      rw [show ((loW xs:Nat):Int).toNat=loW xs from rfl,Q7,Zl]
      refine QR (b:=b_16) (by repeat (first | exact Zc.here | apply Zc.there)) (fun I16 h16 e16=>?_)
      refine QR (b:=b_17) (by repeat (first | exact Zc.here | apply Zc.there)) (fun I17 h17 e17=>?_)
      exact zn (h:=⟨b_16,b_17,b_127,_,_,rfl,(hKc30.trans h16).trans h17,rfl,.imm (h17 _ _ e16) rfl,.imm e17 rfl,(hL30.mono h16).mono h17⟩)
     refine Qv YA rfl rfl (fun b_17=>?_)
     refine Qc ?_
     refine zD hD ?_
     refine qd 3 rfl ?_
     refine QA (cap:=[]) (vs:=[_]) rfl rfl VG .nil (Yy hR (by omega) _ _) rfl rfl ?_
     rintro vv19 I19 L19 hI19 ⟨rfl,av30,c30,rfl,hL30⟩
     have hKc30:=hKc30.trans hI19;have hD:=hD.trans hI19
     rw [hcsi] at hL30 ⊢
     refine Qc ?_
     refine zD hD ?_
     refine qd 6 rfl ?_
     refine zS Zm ?_
     refine Qc ?_
     refine zD hD ?_
     refine qd 7 rfl ?_
     refine zS Zm ?_
     refine Qc ?_
     refine zD hD ?_
     refine QK (by kernel_rfl) ?_
     refine QW ?_
     rw [show ((loW xs:Nat):Int).toNat=loW xs from rfl,Q7,Zl]
     refine QR (b:=b_16) (by repeat (first | exact Zc.here | apply Zc.there)) (fun I16 h16 e16=>?_)
     refine QR (b:=b_17) (by repeat (first | exact Zc.here | apply Zc.there)) (fun I17 h17 e17=>?_)
     exact zn (h:=⟨b_16,b_17,b_127,_,_,rfl,(hKc30.trans h16).trans h17,rfl,.imm (h17 _ _ e16) rfl,.imm e17 rfl,(hL30.mono h16).mono h17⟩)
    ·
     refine QA (cap:=[]) (vs:=[_]) rfl rfl VG .nil (Yy hR (by omega) _ _) rfl rfl ?_
     rintro vv20 I20 L20 hI20 ⟨rfl,av30,c30,rfl,hL30⟩
     have hKc30:=hKc30.trans hI20;have hD:=hD.trans hI20
     rw [hcsi] at hL30 ⊢
     refine Qc ?_
     refine zD hD ?_
     refine Zw 1 5 rfl rfl (by kernel_rfl) ?_ ?_
     ·
      refine Q4 YC rfl rfl (by omega) (by decide) rfl rfl (fun b_127=>?_)
      refine Qc ?_
      refine zD hD ?_
      refine qd 5 rfl ?_
      refine Qv YA rfl rfl (fun b_17=>?_)
      refine Qc ?_
      refine zD hD ?_
      refine qd 6 rfl ?_
      refine zS Zm ?_
      refine Qc ?_
      refine zD hD ?_
      refine qd 7 rfl ?_
      refine zS Zm ?_
      refine Qc ?_
      refine zD hD ?_
      refine QK (by kernel_rfl) ?_
      refine QW ?_
      rw [show ((loW xs:Nat):Int).toNat=loW xs from rfl,Q7,Zl]
      refine QR (b:=b_16) (by repeat (first | exact Zc.here | apply Zc.there)) (fun I16 h16 e16=>?_)
      refine QR (b:=b_17) (by repeat (first | exact Zc.here | apply Zc.there)) (fun I17 h17 e17=>?_)
      exact zn (h:=⟨b_16,b_17,b_127,_,_,rfl,(hKc30.trans h16).trans h17,rfl,.imm (h17 _ _ e16) rfl,.imm e17 rfl,(hL30.mono h16).mono h17⟩)
     refine Qv YA rfl rfl (fun b_17=>?_)
     refine Qc ?_
     refine zD hD ?_
     refine qd 1 rfl ?_
     refine Q4 YC rfl rfl (by omega) (by decide) rfl rfl (fun b_127=>?_)
     refine Qc ?_
     refine zD hD ?_
     refine qd 6 rfl ?_
     refine zS Zm ?_
     refine Qc ?_
     refine zD hD ?_
     refine qd 7 rfl ?_
     refine zS Zm ?_
     refine Qc ?_
     refine zD hD ?_
     refine QK (by kernel_rfl) ?_
     refine QW ?_
     rw [show ((loW xs:Nat):Int).toNat=loW xs from rfl,Q7,Zl]
     refine QR (b:=b_16) (by repeat (first | exact Zc.here | apply Zc.there)) (fun I16 h16 e16=>?_)
     refine QR (b:=b_17) (by repeat (first | exact Zc.here | apply Zc.there)) (fun I17 h17 e17=>?_)
     exact zn (h:=⟨b_16,b_17,b_127,_,_,rfl,(hKc30.trans h16).trans h17,rfl,.imm (h17 _ _ e16) rfl,.imm e17 rfl,(hL30.mono h16).mono h17⟩)
    refine Qv YA rfl rfl (fun b_17=>?_)
    refine Qc ?_
    refine zD hD ?_
    refine Zw 1 3 rfl rfl (by kernel_rfl) ?_ ?_
    ·
     refine Q4 YC rfl rfl (by omega) (by decide) rfl rfl (fun b_127=>?_)
     refine Qc ?_
     refine zD hD ?_
     refine qd 3 rfl ?_
     refine QA (cap:=[]) (vs:=[_]) rfl rfl VG .nil (Yy hR (by omega) _ _) rfl rfl ?_
     rintro vv21 I21 L21 hI21 ⟨rfl,av30,c30,rfl,hL30⟩
     have hKc30:=hKc30.trans hI21;have hD:=hD.trans hI21
     rw [hcsi] at hL30 ⊢
     refine Qc ?_
     refine zD hD ?_
     refine qd 6 rfl ?_
     refine zS Zm ?_
     refine Qc ?_
     refine zD hD ?_
     refine qd 7 rfl ?_
     refine zS Zm ?_
     refine Qc ?_
     refine zD hD ?_
     refine QK (by kernel_rfl) ?_
     refine QW ?_
     rw [show ((loW xs:Nat):Int).toNat=loW xs from rfl,Q7,Zl]
     refine QR (b:=b_16) (by repeat (first | exact Zc.here | apply Zc.there)) (fun I16 h16 e16=>?_)
     refine QR (b:=b_17) (by repeat (first | exact Zc.here | apply Zc.there)) (fun I17 h17 e17=>?_)
     exact zn (h:=⟨b_16,b_17,b_127,_,_,rfl,(hKc30.trans h16).trans h17,rfl,.imm (h17 _ _ e16) rfl,.imm e17 rfl,(hL30.mono h16).mono h17⟩)
    refine QA (cap:=[]) (vs:=[_]) rfl rfl VG .nil (Yy hR (by omega) _ _) rfl rfl ?_
    rintro vv22 I22 L22 hI22 ⟨rfl,av30,c30,rfl,hL30⟩
    have hKc30:=hKc30.trans hI22;have hD:=hD.trans hI22
    rw [hcsi] at hL30 ⊢
    refine Qc ?_
    refine zD hD ?_
    refine qd 1 rfl ?_
    refine Q4 YC rfl rfl (by omega) (by decide) rfl rfl (fun b_127=>?_)
    refine Qc ?_
    refine zD hD ?_
    refine qd 6 rfl ?_
    refine zS Zm ?_
    refine Qc ?_
    refine zD hD ?_
    refine qd 7 rfl ?_
    refine zS Zm ?_
    refine Qc ?_
    refine zD hD ?_
    refine QK (by kernel_rfl) ?_
    refine QW ?_
    rw [show ((loW xs:Nat):Int).toNat=loW xs from rfl,Q7,Zl]
    refine QR (b:=b_16) (by repeat (first | exact Zc.here | apply Zc.there)) (fun I16 h16 e16=>?_)
    refine QR (b:=b_17) (by repeat (first | exact Zc.here | apply Zc.there)) (fun I17 h17 e17=>?_)
    exact zn (h:=⟨b_16,b_17,b_127,_,_,rfl,(hKc30.trans h16).trans h17,rfl,.imm (h17 _ _ e16) rfl,.imm e17 rfl,(hL30.mono h16).mono h17⟩)
   refine Qv YA rfl rfl (fun b_17=>?_)
   refine Qc ?_
   refine zD hD ?_
   refine Ul 1 3 4 rfl rfl rfl (by kernel_rfl) ?_ ?_ ?_
   ·
    refine Q4 YC rfl rfl (by omega) (by decide) rfl rfl (fun b_127=>?_)
    refine Qc ?_
    refine zD hD ?_
    refine Zw 3 4 rfl rfl (by kernel_rfl) ?_ ?_
    ·
     refine QA (cap:=[]) (vs:=[_]) rfl rfl VG .nil (Yy hR (by omega) _ _) rfl rfl ?_
     rintro vv23 I23 L23 hI23 ⟨rfl,av30,c30,rfl,hL30⟩
     have hKc30:=hKc30.trans hI23;have hD:=hD.trans hI23
     rw [hcsi] at hL30 ⊢
     refine Qc ?_
     refine zD hD ?_
     refine qd 4 rfl ?_
     refine Qv YA rfl rfl (fun b_16=>?_)
     refine Qc ?_
     refine zD hD ?_
     refine qd 6 rfl ?_
     refine zS Zm ?_
     refine Qc ?_
     refine zD hD ?_
     refine qd 7 rfl ?_
     refine zS Zm ?_
     refine Qc ?_
     refine zD hD ?_
     refine QK (by kernel_rfl) ?_
     refine QW ?_
     rw [show ((loW xs:Nat):Int).toNat=loW xs from rfl,Q7,Zl]
     refine QR (b:=b_16) (by repeat (first | exact Zc.here | apply Zc.there)) (fun I16 h16 e16=>?_)
     refine QR (b:=b_17) (by repeat (first | exact Zc.here | apply Zc.there)) (fun I17 h17 e17=>?_)
     exact zn (h:=⟨b_16,b_17,b_127,_,_,rfl,(hKc30.trans h16).trans h17,rfl,.imm (h17 _ _ e16) rfl,.imm e17 rfl,(hL30.mono h16).mono h17⟩)
    refine Qv YA rfl rfl (fun b_16=>?_)
    refine Qc ?_
    refine zD hD ?_
    refine qd 3 rfl ?_
    refine QA (cap:=[]) (vs:=[_]) rfl rfl VG .nil (Yy hR (by omega) _ _) rfl rfl ?_
    rintro vv24 I24 L24 hI24 ⟨rfl,av30,c30,rfl,hL30⟩
    have hKc30:=hKc30.trans hI24;have hD:=hD.trans hI24
    rw [hcsi] at hL30 ⊢
    refine Qc ?_
    refine zD hD ?_
    refine qd 6 rfl ?_
    refine zS Zm ?_
    refine Qc ?_
    refine zD hD ?_
    refine qd 7 rfl ?_
    refine zS Zm ?_
    refine Qc ?_
    refine zD hD ?_
    refine QK (by kernel_rfl) ?_
    refine QW ?_
    rw [show ((loW xs:Nat):Int).toNat=loW xs from rfl,Q7,Zl]
    refine QR (b:=b_16) (by repeat (first | exact Zc.here | apply Zc.there)) (fun I16 h16 e16=>?_)
    refine QR (b:=b_17) (by repeat (first | exact Zc.here | apply Zc.there)) (fun I17 h17 e17=>?_)
    exact zn (h:=⟨b_16,b_17,b_127,_,_,rfl,(hKc30.trans h16).trans h17,rfl,.imm (h17 _ _ e16) rfl,.imm e17 rfl,(hL30.mono h16).mono h17⟩)
   ·
    refine QA (cap:=[]) (vs:=[_]) rfl rfl VG .nil (Yy hR (by omega) _ _) rfl rfl ?_
    rintro vv25 I25 L25 hI25 ⟨rfl,av30,c30,rfl,hL30⟩
    have hKc30:=hKc30.trans hI25;have hD:=hD.trans hI25
    rw [hcsi] at hL30 ⊢
    refine Qc ?_
    refine zD hD ?_
    refine Zw 1 4 rfl rfl (by kernel_rfl) ?_ ?_
    ·
     refine Q4 YC rfl rfl (by omega) (by decide) rfl rfl (fun b_127=>?_)
     refine Qc ?_
     refine zD hD ?_
     refine qd 4 rfl ?_
     refine Qv YA rfl rfl (fun b_16=>?_)
     refine Qc ?_
     refine zD hD ?_
     refine qd 6 rfl ?_
     refine zS Zm ?_
     refine Qc ?_
     refine zD hD ?_
     refine qd 7 rfl ?_
     refine zS Zm ?_
     refine Qc ?_
     refine zD hD ?_
     refine QK (by kernel_rfl) ?_
     refine QW ?_
     rw [show ((loW xs:Nat):Int).toNat=loW xs from rfl,Q7,Zl]
     refine QR (b:=b_16) (by repeat (first | exact Zc.here | apply Zc.there)) (fun I16 h16 e16=>?_)
     refine QR (b:=b_17) (by repeat (first | exact Zc.here | apply Zc.there)) (fun I17 h17 e17=>?_)
     exact zn (h:=⟨b_16,b_17,b_127,_,_,rfl,(hKc30.trans h16).trans h17,rfl,.imm (h17 _ _ e16) rfl,.imm e17 rfl,(hL30.mono h16).mono h17⟩)
    refine Qv YA rfl rfl (fun b_16=>?_)
    refine Qc ?_
    refine zD hD ?_
    refine qd 1 rfl ?_
    refine Q4 YC rfl rfl (by omega) (by decide) rfl rfl (fun b_127=>?_)
    refine Qc ?_
    refine zD hD ?_
    refine qd 6 rfl ?_
    refine zS Zm ?_
    refine Qc ?_
    refine zD hD ?_
    refine qd 7 rfl ?_
    refine zS Zm ?_
    refine Qc ?_
    refine zD hD ?_
    refine QK (by kernel_rfl) ?_
    refine QW ?_
    rw [show ((loW xs:Nat):Int).toNat=loW xs from rfl,Q7,Zl]
    refine QR (b:=b_16) (by repeat (first | exact Zc.here | apply Zc.there)) (fun I16 h16 e16=>?_)
    refine QR (b:=b_17) (by repeat (first | exact Zc.here | apply Zc.there)) (fun I17 h17 e17=>?_)
    exact zn (h:=⟨b_16,b_17,b_127,_,_,rfl,(hKc30.trans h16).trans h17,rfl,.imm (h17 _ _ e16) rfl,.imm e17 rfl,(hL30.mono h16).mono h17⟩)
   refine Qv YA rfl rfl (fun b_16=>?_)
   refine Qc ?_
   refine zD hD ?_
   refine Zw 1 3 rfl rfl (by kernel_rfl) ?_ ?_
   ·
    refine Q4 YC rfl rfl (by omega) (by decide) rfl rfl (fun b_127=>?_)
    refine Qc ?_
    refine zD hD ?_
    refine qd 3 rfl ?_
    refine QA (cap:=[]) (vs:=[_]) rfl rfl VG .nil (Yy hR (by omega) _ _) rfl rfl ?_
    rintro vv26 I26 L26 hI26 ⟨rfl,av30,c30,rfl,hL30⟩
    have hKc30:=hKc30.trans hI26;have hD:=hD.trans hI26
    rw [hcsi] at hL30 ⊢
    refine Qc ?_
    refine zD hD ?_
    refine qd 6 rfl ?_
    refine zS Zm ?_
    refine Qc ?_
    refine zD hD ?_
    refine qd 7 rfl ?_
    refine zS Zm ?_
    refine Qc ?_
    refine zD hD ?_
    refine QK (by kernel_rfl) ?_
    refine QW ?_
    rw [show ((loW xs:Nat):Int).toNat=loW xs from rfl,Q7,Zl]
    refine QR (b:=b_16) (by repeat (first | exact Zc.here | apply Zc.there)) (fun I16 h16 e16=>?_)
    refine QR (b:=b_17) (by repeat (first | exact Zc.here | apply Zc.there)) (fun I17 h17 e17=>?_)
    exact zn (h:=⟨b_16,b_17,b_127,_,_,rfl,(hKc30.trans h16).trans h17,rfl,.imm (h17 _ _ e16) rfl,.imm e17 rfl,(hL30.mono h16).mono h17⟩)
   refine QA (cap:=[]) (vs:=[_]) rfl rfl VG .nil (Yy hR (by omega) _ _) rfl rfl ?_
   rintro vv27 I27 L27 hI27 ⟨rfl,av30,c30,rfl,hL30⟩
   have hKc30:=hKc30.trans hI27;have hD:=hD.trans hI27
   rw [hcsi] at hL30 ⊢
   refine Qc ?_
   refine zD hD ?_
   refine qd 1 rfl ?_
   refine Q4 YC rfl rfl (by omega) (by decide) rfl rfl (fun b_127=>?_)
   refine Qc ?_
   refine zD hD ?_
   refine qd 6 rfl ?_
   refine zS Zm ?_
   refine Qc ?_
   refine zD hD ?_
   refine qd 7 rfl ?_
   refine zS Zm ?_
   refine Qc ?_
   refine zD hD ?_
   refine QK (by kernel_rfl) ?_
   refine QW ?_
   rw [show ((loW xs:Nat):Int).toNat=loW xs from rfl,Q7,Zl]
   refine QR (b:=b_16) (by repeat (first | exact Zc.here | apply Zc.there)) (fun I16 h16 e16=>?_)
   refine QR (b:=b_17) (by repeat (first | exact Zc.here | apply Zc.there)) (fun I17 h17 e17=>?_)
   exact zn (h:=⟨b_16,b_17,b_127,_,_,rfl,(hKc30.trans h16).trans h17,rfl,.imm (h17 _ _ e16) rfl,.imm e17 rfl,(hL30.mono h16).mono h17⟩)
  rintro ms E J28 loc' ⟨b16,b17,b127,av17,c17,rfl,hJ30,rfl,hC16,hC17,hL17⟩
  have hT:=hT.mono hJ30;have hC6:=hC6.mono hJ30;have hC10:=hC10.mono hJ30;have hAt:=hAt.mono hJ30;have hWd:=hWd.mono hJ30;have hPs:=hPs.mono hJ30;have hre:=hre.mono hJ30;have hPf:=hPf.mono hJ30;have hB6:=hB6.trans hJ30
  refine zoy [(2,_),(4,_),(5,_),(6,_),(10,_),(11,_),(14,_),(16,_),(17,_),(119,_),(120,_),(121,_)] (.cons rfl (.cons rfl (.cons rfl (.cons rfl (.cons rfl (.cons rfl (.cons rfl (.cons rfl (.cons rfl (.cons rfl (.cons rfl (.cons rfl .nil)))))))))))) (fun T L0 ms E I' loc'=>E=T∧HLe J28 I'∧(b127,.cells (Zk (VD (loW xs) ((if i=0 then txF (wdW xs) (csW xs 0) (csW xs 0).length else fun _=>0)))) 3 (0,0))::(L++MB ms)=loc') ?_ ?_
  ·
   have hKc31:=zAl J28
   refine zR (zM ?_)
   refine zC (zN ?_)
   refine zI ?_ ?_<;>intro hc131
   ·
    have hi0:i=0:=by have h:=hc131;simp at h;omega
    refine zR (zM ?_)
    refine zQ Qt ?_
    refine zM (zN (Ql ?_))
    refine UF [(2,_),(4,_),(5,_),(6,_),(10,_),(11,_),(14,_),(16,_),(17,_),(119,_),(120,_),(121,_),(132,_),(133,_)] (.cons rfl (.cons rfl (.cons rfl (.cons rfl (.cons rfl (.cons rfl (.cons rfl (.cons rfl (.cons rfl (.cons rfl (.cons rfl (.cons rfl (.cons rfl (.cons rfl .nil)))))))))))))) (fun T L0 mz ms E I' loc'=>∃ (k:Nat),mz=(csW xs 0).length-k∧E=(134,.int .i64 k)::T∧J28=I'∧(b127,.cells (Zk (VD (loW xs) (txF (wdW xs) (csW xs 0) k))) 3 (0,0))::(L++MB ms)=loc'∧k≤(csW xs 0).length) _ _ _ _ ⟨0,rfl,rfl,rfl,rfl,Nat.zero_le _⟩ (.cons rfl (.cons rfl (.cons rfl (.cons rfl (.cons rfl (.cons rfl (.cons rfl (.cons rfl (.cons rfl (.cons rfl (.cons rfl (.cons rfl (.cons rfl (.cons rfl (.cons rfl .nil))))))))))))))) (zAl _) rfl ?_
    rintro mz ms E I' loc' ⟨k,rfl,rfl,rfl,rfl,hk⟩
    refine zR (zC (zN (Qk ?_)))
    refine zI ?_ ?_<;>intro hc135
    ·
     have hlt_k:k<(csW xs 0).length:=by have h:=hc135;simp at h;omega
     obtain ⟨tk,hTk⟩:=hT.at hlt_k
     have hps:=zpY hlt_k
     have hf1:YN (V6 (wdW xs)) k=(((V6 (wdW xs)) k:Nat):Int):=rfl
     have hf2:YN (wdW xs) k=(((wdW xs) k:Nat):Int):=rfl
     refine Qo (Qa (Qk (Ql (zR (zM ?_)))))
     refine zV (zX Qt hT) ?_
     refine zV (Qd rfl Qr (fun hg=>by exact zAe hT hTk rfl)) ?_
     refine zA ?_
     refine zA (zN ?_)
     have hD:=zAl J28
     refine JH ?_
     refine Z7 J28 [] mixed ?_
     refine zT 0 rfl (Qd rfl QJ (fun hg=>by exact hC16.any)) hD ?_
     refine zT 1 rfl (Qd rfl QJ (fun hg=>by exact hC10.any)) hD ?_
     refine zT 2 rfl (Qh rfl) hD ?_
     refine zT 3 rfl (zX Qt hAt) hD ?_
     refine zT 4 rfl (Qd rfl Qr (fun hg=>by exact zAe (k:=k) hAt (YH (show k<_ by omega)) rfl)) hD ?_
     refine zT 5 rfl (Qd rfl QJ (fun hg=>by exact hC6.any)) hD ?_
     refine zT 6 rfl (Qh rfl) hD ?_
     refine zT 7 rfl (zX Qt hWd) hD ?_
     refine zT 8 rfl (Qd rfl Qr (fun hg=>by exact zAe (k:=k) hWd (YH (show k<_ by omega)) rfl)) hD ?_
     refine zT 9 rfl (ZA rfl rfl rfl (fun hg=>by omega)) hD ?_
     refine zT 10 rfl (Qh rfl) hD ?_
     refine zT 11 rfl (Q6 rfl rfl Qt (fun hg=>by omega)) hD ?_
     refine qd 12 rfl ?_
     refine ZE rfl rfl Yd rfl rfl (by repeat (first | exact Upd.here | apply Upd.there | apply QM)) (by rw [show YN (V6 (wdW xs)) k+YN (wdW xs) k=((V6 (wdW xs) k+wdW xs k:Nat):Int) from rfl];exact zsX (by rw [Yb];omega)) ?_
     refine Qc ?_
     refine zD hD ?_
     refine QK (by kernel_rfl) ?_
     refine QW ?_
     rw [show YN (V6 (wdW xs)) k+YN (wdW xs) k=((V6 (wdW xs) k+wdW xs k:Nat):Int) from rfl,YQ,JU,←QN (d:=0) hTk]
     refine Qg (Qa (Qf (zB ?_)))
     refine zM (Qc ?_)
     exact zd (h:=⟨(csW xs 0).length-(k+1),by omega,k+1,rfl,rfl,rfl,rfl,by omega⟩)
    have hge_k:(csW xs 0).length≤k:=by have h:=hc135;simp at h;omega
    obtain rfl:k=(csW xs 0).length:=by omega
    refine QH (Qe (Qe (Qj ?_)))
    exact zcD rfl rfl rfl _ _ ⟨rfl,hKc31,by rw [if_pos hi0]⟩ (.cons rfl (.cons rfl (.cons rfl (.cons rfl (.cons rfl (.cons rfl (.cons rfl (.cons rfl (.cons rfl (.cons rfl (.cons rfl (.cons rfl .nil)))))))))))) .refl
   have hi0:¬i=0:=by have h:=hc131;simp at h;omega
   refine Qo ?_
   exact zcD rfl rfl rfl _ _ ⟨rfl,hKc31,by rw [if_neg hi0]⟩ (.cons rfl (.cons rfl (.cons rfl (.cons rfl (.cons rfl (.cons rfl (.cons rfl (.cons rfl (.cons rfl (.cons rfl (.cons rfl (.cons rfl .nil)))))))))))) .refl
  rintro ms E J30 loc' ⟨rfl,hJ131,rfl⟩
  have hC6:=hC6.mono hJ131;have hC10:=hC10.mono hJ131;have hAt:=hAt.mono hJ131;have hWd:=hWd.mono hJ131;have hPs:=hPs.mono hJ131;have hre:=hre.mono hJ131;have hPf:=hPf.mono hJ131;have hC16:=hC16.mono hJ131;have hC17:=hC17.mono hJ131;have hL17:=hL17.mono hJ131;have hB6:=hB6.trans hJ131
  refine Qk (zR (zM ?_))
  refine zM ?_
  refine zV (zX zcm hPs) ?_
  refine zV (Qd rfl zgq (fun hg=>by exact zAe hPs hhp rfl)) ?_
  refine zQ Us ?_
  refine zM (zN (Ql ?_))
  refine UF [(2,_),(4,_),(5,_),(6,_),(10,_),(11,_),(14,_),(16,_),(17,_),(119,_),(120,_),(121,_),(155,_),(156,_)] (.cons rfl (.cons rfl (.cons rfl (.cons rfl (.cons rfl (.cons rfl (.cons rfl (.cons rfl (.cons rfl (.cons rfl (.cons rfl (.cons rfl (.cons rfl (.cons rfl .nil)))))))))))))) (fun T L0 mz ms E I' loc'=>∃ (k:Nat),mz=(pfW xs i).length-k∧E=(157,.int .i64 k)::T∧J30=I'∧(b127,.cells (Zk (VD (loW xs) (((pfW xs i).take k).foldl (prF (wdW xs) (csW xs i)) (if i=0 then txF (wdW xs) (csW xs 0) (csW xs 0).length else fun _=>0)))) 3 (0,0))::(L++MB ms)=loc'∧k≤(pfW xs i).length) _ _ _ _ ⟨0,rfl,rfl,rfl,rfl,Nat.zero_le _⟩ (.cons rfl (.cons rfl (.cons rfl (.cons rfl (.cons rfl (.cons rfl (.cons rfl (.cons rfl (.cons rfl (.cons rfl (.cons rfl (.cons rfl (.cons rfl (.cons rfl (.cons rfl .nil))))))))))))))) (zAl _) rfl ?_
  rintro mz ms E I' loc' ⟨k,rfl,rfl,rfl,rfl,hk⟩
  refine zR (zC (zN (Qk ?_)))
  refine zI ?_ ?_<;>intro hc158
  ·
   have hlt_k:k<(pfW xs i).length:=by have h:=hc158;simp at h;omega
   obtain ⟨y,hy⟩:=hPf.at (show k<_ by omega)
   obtain ⟨y1,y2,y3,y4⟩:=zwH hy
   refine Qo (Qa (Qk (Ql (zR ?_))))
   refine zV (zX Us hPf) ?_
   refine zV (Qq rfl za0 (fun hg=>by exact zAm hPf hy) rfl) ?_
   refine Qv KI rfl rfl (fun b_21=>?_)
   refine zh ziV ?_
   refine zN (zR ?_)
   refine zV (Zv rfl rfl Y1 (fun hg=>by decide)) ?_
   refine zL Qr ?_
   refine zC ?_
   refine zM ?_
   refine QG 3 rfl rfl rfl ?_
   refine zK (Zv rfl rfl Y1 (fun hg=>by decide)) ?_
   refine zK (Qd rfl Qr (fun hg=>by exact QY.h0 rfl)) ?_
   refine zK (QI rfl rfl rfl) ?_
   refine QL rfl rfl rfl rfl rfl ?_
   refine zN ?_
   refine zI ?_ ?_<;>intro hc168
   ·
    have hy5:y.1>0∧y.2>0:=by have h:=hc168;simp at h;exact h
    have hps:=zpY (xs:=xs) (k:=(y.1-1).toNat) (by omega)
    have hf1:YN (V6 (wdW xs)) (y.1-1).toNat=(((V6 (wdW xs)) (y.1-1).toNat:Nat):Int):=rfl
    have hf2:YN (wdW xs) (y.1-1).toNat=(((wdW xs) (y.1-1).toNat:Nat):Int):=rfl
    have hD:=zAl J30
    refine JH ?_
    refine Z7 J30 [(b_21,.cells (V9 y).toArray 79 (0,0))] mixed ?_
    refine zT 0 rfl (Qd rfl QJ (fun hg=>by exact hC16.any)) hD ?_
    refine zT 1 rfl (Qd rfl QJ (fun hg=>by exact hC10.any)) hD ?_
    refine zT 2 rfl (Zv rfl rfl Y1 (fun hg=>by decide)) hD ?_
    refine zT 3 rfl (Qd rfl Qr (fun hg=>by exact QY.h0 rfl)) hD ?_
    refine zT 4 rfl (ZA rfl rfl rfl (fun hg=>by omega)) hD ?_
    refine zT 5 rfl (zX Qt hAt) hD ?_
    refine zT 6 rfl (Qd rfl Qr (fun hg=>by exact zAe (k:=(y.1-1).toNat) hAt (YH (by omega)) rfl)) hD ?_
    refine zT 7 rfl (Qd rfl QJ (fun hg=>by exact hC6.any)) hD ?_
    refine zT 8 rfl (Zv rfl rfl Y1 (fun hg=>by decide)) hD ?_
    refine zT 9 rfl (Qd rfl Qr (fun hg=>by exact QY.h0 rfl)) hD ?_
    refine zT 10 rfl (ZA rfl rfl rfl (fun hg=>by omega)) hD ?_
    refine zT 11 rfl (zX Qt hWd) hD ?_
    refine zT 12 rfl (Qd rfl Qr (fun hg=>by exact zAe (k:=(y.1-1).toNat) hWd (YH (by omega)) rfl)) hD ?_
    refine zT 13 rfl (ZA rfl rfl rfl (fun hg=>by omega)) hD ?_
    refine zT 14 rfl (Qd rfl QJ (fun hg=>by exact hC17.any)) hD ?_
    refine zT 15 rfl (Zv rfl rfl Y1 (fun hg=>by decide)) hD ?_
    refine zT 16 rfl (Qd rfl Qr (fun hg=>by exact QY.h0 rfl)) hD ?_
    refine zT 17 rfl (ZA rfl rfl rfl (fun hg=>by omega)) hD ?_
    refine zT 18 rfl (zX Qt hL17) hD ?_
    refine zT 19 rfl (Qd rfl Qr (fun hg=>by exact zAe (k:=(y.2-1).toNat) hL17 (QX (d:=0) rfl (by omega)) rfl)) hD ?_
    refine zT 20 rfl (Q6 rfl rfl Qt (fun hg=>by omega)) hD ?_
    refine qd 21 rfl ?_
    refine ZE rfl rfl Yd rfl rfl (by repeat (first | exact Upd.here | apply Upd.there | apply QM)) (by rw [show YN (V6 (wdW xs)) (y.1-1).toNat+YN (wdW xs) (y.1-1).toNat=((V6 (wdW xs) (y.1-1).toNat+wdW xs (y.1-1).toNat:Nat):Int) from rfl];exact zsX (by rw [Yb];omega)) ?_
    refine Qc ?_
    refine zD hD ?_
    refine QK (by kernel_rfl) ?_
    refine QW ?_
    rw [show YN (V6 (wdW xs)) (y.1-1).toNat+YN (wdW xs) (y.1-1).toNat=((V6 (wdW xs) (y.1-1).toNat+wdW xs (y.1-1).toNat:Nat):Int) from rfl,YQ,JU]
    refine Qg (Qa (Qf (zB ?_)))
    refine zM (Qc ?_)
    exact zd (h:=⟨(pfW xs i).length-(k+1),by omega,k+1,rfl,rfl,rfl,by rw [zgv hy,zlp hc168],by omega⟩)
   refine Qo (Qg (Qa (Qf (zB ?_))))
   refine zM (Qc ?_)
   exact zd (h:=⟨(pfW xs i).length-(k+1),by omega,k+1,rfl,rfl,rfl,by rw [zgv hy,zo6 hc168],by omega⟩)
  have hge_k:(pfW xs i).length≤k:=by have h:=hc158;simp at h;omega
  rw [List.take_of_length_le hge_k]
  refine QH (Qe (Qe (Qj (Qa (zR (zM ?_))))))
  refine zQ Qt ?_
  refine zB ?_
  refine Q4 YC rfl rfl (by omega) (by decide) rfl rfl (fun b_194=>?_)
  refine Qv YA rfl rfl (fun b_22=>?_)
  refine zS Zm ?_
  refine Qc ?_
  have e1:(((csW xs 0).length:Nat):Int)+1=(((csW xs 0).length+1:Nat):Int):=rfl
  rw [e1,show (((csW xs 0).length+1:Nat):Int).toNat=(csW xs 0).length+1 from rfl,Q7,Zl,Wn]
  refine Zn (b:=b_22) (by repeat (first | exact Zc.here | apply Zc.there)) (fun I32 hI32 hb32=>?_)
  have hC10:=hC10.mono hI32;have hAt:=hAt.mono hI32;have hPs:=hPs.mono hI32;have hre:=hre.mono hI32;have hPf:=hPf.mono hI32;have hC16:=hC16.mono hI32;have hC17:=hC17.mono hI32;have hL17:=hL17.mono hI32;have hB6:=hB6.trans hI32
  have hC22:QY I32 [] b_22 0 (.slice (some ⟨b_194,0,none⟩) ((csW xs 0).length+1) ((csW xs 0).length+1)):=.imm hb32 rfl
  refine Qa (Qk (zR (zM ?_)))
  refine zM ?_
  refine zV (zX zcm hPs) ?_
  refine zV (Qd rfl zgq (fun hg=>by exact zAe hPs hhp rfl)) ?_
  refine QA (cap:=[]) (vs:=[_]) rfl rfl zpd .nil (zjc _ _ _ _) rfl rfl ?_
  rintro vv33 I33 L33 hI33 ⟨rfl,b1,rfl,hb1⟩
  have hC10:=hC10.mono hI33;have hAt:=hAt.mono hI33;have hre:=hre.mono hI33;have hPf:=hPf.mono hI33;have hC16:=hC16.mono hI33;have hC17:=hC17.mono hI33;have hL17:=hL17.mono hI33;have hC22:=hC22.mono hI33;have hB6:=hB6.trans hI33
  refine zN (Ql ?_)
  refine U2 (K:=[]) (L:=(b_194,.cells (Zk (VD ((csW xs 0).length+1) (YN (cnt [])))) 3 (0,0))::(b127,.cells (Zk (VD (loW xs) ((alP (wdW xs) (csW xs i) ((pfW xs i).foldl (prF (wdW xs) (csW xs i)) (if i=0 then txF (wdW xs) (csW xs 0) (csW xs 0).length else fun _=>0)) []).1))) 3 (0,0))::L) (en1:=zzn) (en2:=zzB) (xs:=alW xs i) (fun pre I' loc'=>loc'=(b_194,.cells (Zk (VD ((csW xs 0).length+1) (YN (cnt pre)))) 3 (0,0))::(b127,.cells (Zk (VD (loW xs) ((alP (wdW xs) (csW xs i) ((pfW xs i).foldl (prF (wdW xs) (csW xs i)) (if i=0 then txF (wdW xs) (csW xs 0) (csW xs 0).length else fun _=>0)) pre).1))) 3 (0,0))::L) (fun _ _ _ _=>False) (fun pre x E2 I2 loc2=>E2=[(10,Ze b_10),(16,Ze b16),(17,Ze b17),(22,Ze b_22),(23,.int .i64 x.1),(24,.int .i64 x.2)]∧loc2=(b_194,.cells (Zk (VD ((csW xs 0).length+1) (YN (cnt pre)))) 3 (0,0))::(b127,.cells (Zk (VD (loW xs) ((alP (wdW xs) (csW xs i) ((pfW xs i).foldl (prF (wdW xs) (csW xs i)) (if i=0 then txF (wdW xs) (csW xs 0) (csW xs 0).length else fun _=>0)) pre).1))) 3 (0,0))::L) rfl zkC (zkM hPf (by omega) (zxn hrs i) hb1) rfl rfl rfl ?_ ?_ ?_ ?_
  ·
   rintro l9 pre x I1 loc1 H1 hpre hI1 rfl
   refine zR (zA (zN (Qf ?_)))
   refine zA (Qc ?_)
   exact zbI _ ⟨zAl _,rfl,rfl⟩ (.cons rfl (.cons rfl (.cons rfl (.cons rfl (.cons rfl (.cons rfl .nil))))))
  ·
   rintro l9 pre x E2 I2 loc2 H2 hpre hI2 ⟨rfl,rfl⟩
   have hC10:=hC10.mono hI2;have hAt:=hAt.mono hI2;have hC16:=hC16.mono hI2;have hC17:=hC17.mono hI2;have hL17:=hL17.mono hI2;have hC22:=hC22.mono hI2
   obtain ⟨x1,x2,x3,x4,x5⟩:=zpJ hpre
   have hcb:=Nat.le_trans (@ze5 (alW xs i) x.1.toNat) (zkq hrs i)
   have hnc:=zb6 (f:=cnt pre) (a:=x.1.toNat) (B:=128) (by omega)
   have hp2:=zsP x2 hlt_i x5
   have hf1:YN (V6 (wdW xs)) x.1.toNat=(((V6 (wdW xs)) x.1.toNat:Nat):Int):=rfl
   have hf2:YN (cnt pre) x.1.toNat=(((cnt pre) x.1.toNat:Nat):Int):=rfl
   refine Ql (Qk ?_)
   have hD:=zAl I2
   refine JH ?_
   refine Z7 I2 [(b_194,.cells (Zk (VD ((csW xs 0).length+1) (YN (cnt pre)))) 3 (0,0))] mixed ?_
   refine zT 0 rfl (Qd rfl QJ (fun hg=>by exact hC16.any)) hD ?_
   refine zT 1 rfl (Qd rfl QJ (fun hg=>by exact hC10.any)) hD ?_
   refine zT 2 rfl (Qh rfl) hD ?_
   refine zT 3 rfl (zX Qt hAt) hD ?_
   refine zT 4 rfl (Qd rfl Qr (fun hg=>by exact zAe (k:=x.1.toNat) hAt (YH (by omega)) rfl)) hD ?_
   refine zT 5 rfl (Qd rfl QJ (fun hg=>by exact hC22.any)) hD ?_
   refine zT 6 rfl (Qh rfl) hD ?_
   refine zT 7 rfl (Q6 rfl rfl Qt (fun hg=>by omega)) hD ?_
   refine zT 8 rfl (Qd rfl Qr (fun hg=>by exact Jn (YH (by omega)))) hD ?_
   refine zT 9 rfl (ZA rfl rfl rfl (fun hg=>by omega)) hD ?_
   refine zT 10 rfl (Qd rfl QJ (fun hg=>by exact hC17.any)) hD ?_
   refine zT 11 rfl (Qh rfl) hD ?_
   refine zT 12 rfl (zX Qt hL17) hD ?_
   refine zT 13 rfl (Qd rfl Qr (fun hg=>by exact zAe (k:=x.2.toNat) hL17 (QX (d:=0) rfl (by omega)) rfl)) hD ?_
   refine zT 14 rfl (Q6 rfl rfl Qt (fun hg=>by omega)) hD ?_
   refine qd 15 rfl ?_
   refine ZE rfl rfl Yd rfl rfl (by repeat (first | exact Upd.here | apply Upd.there | apply QM)) (by rw [show YN (V6 (wdW xs)) x.1.toNat+YN (cnt pre) x.1.toNat=((V6 (wdW xs) x.1.toNat+cnt pre x.1.toNat:Nat):Int) from rfl];exact zsX (by rw [Yb];omega)) ?_
   refine Qc ?_
   refine zD hD ?_
   refine QK (by kernel_rfl) ?_
   refine QW ?_
   rw [show YN (V6 (wdW xs)) x.1.toNat+YN (cnt pre) x.1.toNat=((V6 (wdW xs) x.1.toNat+cnt pre x.1.toNat:Nat):Int) from rfl,YQ,JU,←zmU]
   refine Qa (Qf ?_)
   refine zV (Qd rfl QJ (fun hg=>by exact hC22.any)) ?_
   refine zM ?_
   refine zV (Q6 rfl rfl Qt (fun hg=>by omega)) ?_
   refine zV (Qd rfl Qr (fun hg=>by exact Jn (YH (by omega)))) ?_
   refine zB ?_
   refine zV (Q6 rfl rfl Qt (fun hg=>by omega)) ?_
   refine ZE rfl rfl Yd rfl rfl (by repeat (first | exact Upd.here | apply Upd.there | apply QM)) (zvN (by rw [Yb];omega)) ?_
   refine Qc ?_
   rw [Uy,JU,show YN (cnt pre) x.1.toNat+1=((cnt pre x.1.toNat+1:Nat):Int) from rfl,zaj,←U5]
   refine Qg ?_
   exact X2 ⟨zAl _,rfl⟩ .refl
  ·
   rintro bd I1 loc1 hI1 rfl
   have hre:=hre.mono hI1;have hC16:=hC16.mono hI1;have hB6:=hB6.trans hI1
   refine Qg (Qa ?_)
   refine Zn (b:=b127) (by repeat (first | exact Zc.here | apply Zc.there)) (fun I34 hI34 hb34=>?_)
   have hre:=hre.mono hI34;have hC16:=hC16.mono hI34;have hB6:=hB6.trans hI34
   have hRow:Sl I34 1 QP (some ⟨b127,0,none⟩) (loW xs) (loW xs) (zqA xs i):=Sl.lit (zqA xs i) Yb Qu hb34
   refine Qf (zM ?_)
   refine zV (Qd rfl QJ (fun hg=>by exact hC16.any)) ?_
   refine Qp (ps:=[(0,_)]) (m:=[WL ⟨some ⟨b127,0,none⟩,loW xs,loW xs⟩]) UU rfl (.cons rfl (.nil)) rfl (by simp [Zb]) (by decide) (by decide) rfl rfl (fun b_225=>?_)
   refine QU (v:=_) (ys:=[(⟨some ⟨b127,0,none⟩,loW xs,loW xs⟩:Hd)].flatMap WL) (L:=L) rfl rfl UU hO (by repeat (first | exact .cons .here .nil | exact QD | exact Qy | apply QC | apply QB)) ⟨rfl,fun _=>rfl,by repeat (first | exact zAj | apply zAi | apply zAk)⟩ (zqD _) (by omega) rfl rfl ?_
   intro v9 L9 hO9 _;rw [←List.flatMap_append] at hO9
   refine zA (Qc (Qg (Qa (Qf ?_))))
   refine zB ?_
   refine zM (Qc ?_)
   exact zd (h:=⟨xs.length-(i+1),by omega,i+1,_,_,_,rfl,rfl,hB6,rfl,by omega,hO9,by rw [KN];exact hre.snoc (hd:=⟨some ⟨b127,0,none⟩,loW xs,loW xs⟩) hRow⟩)
  rintro c bd pre I1 loc1 hI1 hpre hF;exact hF.elim
 have hge_i:xs.length≤i:=by have h:=hc122;simp at h;omega
 obtain rfl:i=xs.length:=by omega
 refine QH (Qe (Qe (Qj (Qa (zR (zM ?_))))))
 refine zA ?_
 refine zA (zN (Qs ?_))
 first
 | exact Ud (L:=L) (fun a ha w hw=>zuu rfl rfl rfl a ha w) (fun w hw=>by obtain ⟨I9,av9,c9,h1',h2',e9,h4'⟩:=OwnS.freeze (R:=[]) hO Zb (by decide) (by rw [List.append_nil];exact hw);cases e9;exact ⟨_,I9,[],rfl,hIc.trans h1',h2',rfl,va2,vc2,by rw [t1,t2,List.length_map,List.length_range],by rw [t2,List.length_map,List.length_range];exact ⟨os,h4',hre.mono h1'⟩⟩)
end
end Go.Proofs.YtodakphagkommaaGreatDoor
