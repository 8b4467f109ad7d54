/- partiesWorld_holds, part D of the proof: what its theorems say holds without further conditions. -/
import Derived.Lib.SlicesCompact
import Derived.Lib.RowBridge
import Derived.Shelf.Small.Bits
import Derived.Shelf.Small.Strs
import Derived.Shelf.Small.Wraps
import Derived.Shelf.Strconv.Itoa0
import Derived.Shelf.Sort.Plain
import Derived.Ground.Names2Prog
import Derived.Shelf.Slices.SearchI
import Derived.Shelf.Slices.In.SortNone
import Derived.Ground.SlgnProg
import Derived.Shelf.SlicesE.Clone
import Derived.Shelf.SlicesQ.Reverse
import Derived.Ground.SlsfProg
import Derived.Shelf.SlSortCmp.InsertionK
import Derived.Shelf.SlSortCmp.SiftDownK
import Derived.Shelf.SlSortCmp.HeapSortK
import Derived.Shelf.SlSortCmp.MedianK
import Derived.Shelf.SlSortCmp.PivotK
import Derived.Shelf.SlSortCmp.ReverseRangeK
import Derived.Shelf.SlSortCmp.PartialInsertionK
import Derived.Shelf.SlSortCmp.PartitionEqualK
import Derived.Shelf.SlSortCmp.PartitionK
import Derived.Shelf.SlSortCmp.PdqK
import Derived.Shelf.SlSortCmp.WholeK
import Derived.Shelf.SlSortCmp.NoneTotal
import Derived.Test.YtjblkbkmblkgoaaGreatProg
import Derived.Test.YtjblkbkmblkgoaaGreatPXC
namespace Go.Proofs.YtjblkbkmblkgoaaGreat.S
section
open Go Go.Kn Go.Proofs
theorem w_check {I:Qu}{av:Option Addr}{n c:Nat}{xs:List Rt}(hS:Sl I 11 encR av n c xs)(hn:n≤100000):ZA Tryz.prog 40 [.slice av n c] I (.int .i64 (rCheck xs)):=by
 intro g H w hw
 refine enter Tryz.func40 rfl Tryz.ntmps40 rfl hw ?_
 refine zR ?_
 refine zA ?_
 refine zN ?_
 refine Qo ?_
 refine zR ?_
 refine zM ?_
 refine zQ ZH ?_
 refine zC ?_
 refine zN ?_
 refine zI ?_ ?_<;>intro hc12
 ·
  have h5:xs.length>512:=by rw [hS.len];simp at hc12;omega
  refine zR ?_
  refine zA ?_
  refine zN ?_
  refine Qs ?_
  refine Qf ?_
  exact Qy rfl rfl (fun w hw=>⟨by unfold rCheck;first | (rw [if_pos h5]) | (rw [if_neg h5,hfin]) | (rw [if_neg h5,←hinv,Xu hx,rGo,if_pos (by unfold rBad;rw [←zaT,hc53])]),hw.drop⟩)
 ·
  have h5:¬xs.length>512:=by rw [hS.len];simp at hc12;omega
  refine Qp ?_
  refine Qd ?_
  refine zR ?_
  refine Z7 rfl rfl (fun r_13=>?_)
  refine KL (cap:=[]) (vs:=[]) rfl rfl zsM .nil (zwx I) rfl rfl ?_
  rintro v I1 L' hI' ⟨rk,rfl,hI1,rfl⟩
  obtain rfl:=hI1.symm
  refine zA ?_
  refine zA ?_
  refine zA ?_
  refine zN ?_
  refine zoK (fun E I' loc'=>∃ bs:List (Int×Rt),E=[(0,.slice av n c)]∧I'=I∧loc'=[(rk,Yo (.int .i64) evF Wp),(r_13,Yo (.int .i64) encA bs)]∧rGo xs [] (-1)=0) ?_ ?_
  ·
   refine zR ?_
   refine zM ?_
   refine zQ ZH ?_
   refine zM ?_
   refine zN ?_
   refine Qx ?_
   refine zgM (fun m E I' loc'=>∃ (k:Nat) (bs:List (Int×Rt)) (last:Int),m=n-k∧E=[(0,.slice av n c),(3,.map (some r_13)),(4,.map (some rk)),(5,.int .i64 last),(15,.slice av n c),(16,.int .i64 n),(17,.int .i64 k)]∧I'=I∧loc'=[(rk,Yo (.int .i64) evF Wp),(r_13,Yo (.int .i64) encA bs)]∧k≤n∧rGo (xs.drop k) bs last=rGo xs [] (-1)) _ _ _ _ ⟨0,[], -1,rfl,rfl,rfl,rfl,Nat.zero_le _,rfl⟩ (.cons rfl (.cons rfl (.cons rfl (.cons rfl (.cons rfl (.cons rfl (.cons rfl .nil))))))) (zz4 _) rfl ?_
   rintro m E I' loc' ⟨k,bs,last,rfl,rfl,rfl,rfl,hk,hinv⟩
   refine zR ?_
   refine zC ?_
   refine zN ?_
   refine Qo ?_
   refine zI ?_ ?_<;>intro hc18
   ·
    have hlt:k<n:=by simpa using hc18
    obtain ⟨x,hx⟩:=hS.at hlt
    refine Qp ?_
    refine Qd ?_
    refine Qo ?_
    refine Qx ?_
    refine zR ?_
    refine zV (QE rfl rfl ZH kJ (fun hg=>kB)) ?_
    refine zV (Qg rfl Ys (fun hg=>by exact zz5 hS hx) rfl) ?_
    refine Qr zaw rfl rfl (fun b_7=>?_)
    refine Jd rfl rfl UC rfl rfl rfl rfl kR ?_
    refine zN (zR ?_)
    refine zM ?_
    refine zF VJ ?_
    refine zV (Qc rfl Qm (fun hg=>by exact QA.h0 rfl)) ?_
    refine zV (ZR zbZ Q3 rfl rfl (fun _=>Mem.m1)) ?_
    refine zM ?_
    refine zE ?_
    refine zE ?_
    refine zA ?_
    refine zA ?_
    refine zN ?_
    refine Qo ?_
    refine zR ?_
    refine zM ?_
    refine zO ?_
    refine zM ?_
    refine QK 2 rfl rfl rfl ?_
    refine zJ (Qa rfl Yp) ?_
    refine zJ (Qc rfl Qm (fun hg=>by exact QA.h0 rfl)) ?_
    refine zJ (Qe rfl) ?_
    refine zJ (Qz rfl rfl rfl) ?_
    refine Zg rfl rfl rfl rfl rfl ?_
    refine zM ?_
    refine QK 8 rfl rfl rfl ?_
    refine zJ (Qa rfl Yp) ?_
    refine zJ (Qc rfl Qm (fun hg=>by exact QA.h0 rfl)) ?_
    refine zJ (Qz rfl rfl rfl) ?_
    refine Zg rfl rfl rfl rfl rfl ?_
    refine zM ?_
    refine QK 13 rfl rfl rfl ?_
    refine zJ (Qa rfl YA) ?_
    refine zJ (Qc rfl Qm (fun hg=>by exact QA.h0 rfl)) ?_
    refine Z2 (cap:=[]) (vs:=[_,_,_]) rfl rfl XN (fun hg=>Z1 _ _ _ _) (.some rfl rfl rfl rfl gbf) rfl rfl ?_
    refine zJ (Zs rfl) ?_
    refine Zg rfl rfl rfl rfl rfl ?_
    refine zM ?_
    refine QK 19 rfl rfl rfl ?_
    refine zJ (Qe rfl) ?_
    refine zJ (Qg rfl Ys (fun hg=>by exact Cells.g0) rfl) ?_
    refine zJ (Qe rfl) ?_
    refine zlH (L:=[(r_13,Yo (.int .i64) encA bs)]) (vs:=[_,_]) (v:=.bool (askF x.kind x bs)) rfl rfl (.cons (.there (.there .here)) .nil) (fun hcj=>?_) (.some rfl rfl rfl rfl gbf) rfl rfl ?_
    ·
     simp only [Yf,Bool.and_true,Bool.not_eq_true',Bool.or_eq_false_iff] at hcj
     obtain ⟨f,hf⟩:=Option.isSome_iff_exists.1 (show (Zt Wp x.kind).isSome=true by simpa using hcj.1.1.1)
     exact ⟨f,by rw [hf];rfl,zo1 hf,zy0 hf _ x r_13 bs⟩
    refine zJ (Zs rfl) ?_
    refine Zg rfl rfl rfl rfl rfl ?_
    refine zN ?_
    refine zI ?_ ?_<;>intro hc53
    ·
     refine zR ?_
     refine zA ?_
     refine zN ?_
     refine Qs ?_
     refine Qf ?_
     refine Qk ?_
     refine Qf ?_
     refine Qf ?_
     refine Qk ?_
     refine Qf ?_
     exact Qy rfl rfl (fun w hw=>⟨by unfold rCheck;first | (rw [if_pos h5]) | (rw [if_neg h5,hfin]) | (rw [if_neg h5,←hinv,Xu hx,rGo,if_pos (by unfold rBad;rw [←zaT,hc53])]),hw.drop⟩)
    ·
     refine Qp ?_
     refine Qd ?_
     refine Zn ?_
     refine QL I' [(b_7,.cells (encR x).toArray 43 (0,0))] mixed ?_
     refine Ui 0 rfl (Qe rfl) (.none rfl) rfl rfl rfl kA kA kA JK (zz4 _) (.keep (.drop (.drop .refl))) ?_
     refine Ui 1 rfl (Qa rfl Yp) (.none rfl) rfl rfl rfl kA kA kA JK (zz4 _) (.keep (.drop (.drop .refl))) ?_
     refine Ui 2 rfl (Qc rfl Qm (fun _=>QA.h0 rfl)) (.none rfl) rfl rfl rfl kA kA kA JK (zz4 _) (.keep (.drop (.drop .refl))) ?_
     refine Ui 3 rfl (Qg rfl Ys (fun _=>Cells.g0) rfl) (.none rfl) rfl rfl rfl kA kA kA JK (zz4 _) (.keep (.drop (.drop .refl))) ?_
     refine Ui 4 rfl (Qa rfl Yp) (.none rfl) rfl rfl rfl kA kA kA JK (zz4 _) (.keep (.drop (.drop .refl))) ?_
     refine Ui 5 rfl (Qc rfl Qm (fun _=>QA.h0 rfl)) (.none rfl) rfl rfl rfl kA kA kA JK (zz4 _) (.keep (.drop (.drop .refl))) ?_
     refine zmE 6 rfl kA ?_
     refine Yu x UM Q3 rfl rfl rfl rfl Upd.u2 ?_
     refine Qb ?_
     refine zy2 (zz4 _) (.keep (.drop (.drop .refl))) ?_
     refine zmE 7 rfl kA ?_
     refine zA ?_
     refine Qb ?_
     refine zy2 (zz4 _) (.keep (.drop (.drop .refl))) ?_
     refine Ql kA ?_
     refine Qt ?_
     refine Qj ?_
     refine Qd ?_
     refine Qi ?_
     refine zV (YE rfl rfl rfl (fun _=>kB)) ?_
     refine zM ?_
     refine Qb ?_
     exact Zc _ _ ⟨n-(k+1),kB,k+1,Jr bs x.no x,x.no,rfl,rfl,rfl,rfl,kB,by rw [←hinv,Xu hx,rGo,if_neg (by unfold rBad;rw [←zaT,hc53];simp)]⟩ (.cons rfl (.cons rfl (.cons rfl (.cons rfl (.cons rfl (.cons rfl (.cons rfl .nil))))))) (.drop .refl)
   ·
    have hge:n≤k:=by simpa using hc18
    refine Q6 ?_
    refine Qn ?_
    refine Qn ?_
    refine Qw ?_
    exact WB _ ⟨bs,rfl,rfl,rfl,by rw [←hinv,List.drop_of_length_le (by rw [hS.len];omega)];rfl⟩ (.cons rfl .nil)
  ·
   rintro E I' loc' ⟨bs,rfl,rfl,rfl,hfin⟩
   refine zR ?_
   refine zA ?_
   refine zN ?_
   refine Qs ?_
   exact Qy rfl rfl (fun w hw=>⟨by unfold rCheck;first | (rw [if_pos h5]) | (rw [if_neg h5,hfin]) | (rw [if_neg h5,←hinv,Xu hx,rGo,if_pos (by unfold rBad;rw [←zaT,hc53])]),hw.drop⟩)
end
end Go.Proofs.YtjblkbkmblkgoaaGreat.S
namespace Go.Kn
section
open Go
structure Kp (p:Prop):Prop where
 out:p
theorem zzA {p q:Prop}(h1:Kp p→q)(h2:p):q:=h1 ⟨h2⟩
theorem Yj {C:Cx}{Q:Exit→Act→World→Prop}{e:Exit}{E E':Env}{I:Qu}{loc:Loc}(h:Kp (At C Q e E' I loc))(hE:Sub E' E:=by repeat (first | exact Sub.nil | refine Sub.cons rfl ?_)):At C Q e E I loc:=
 fun a w ha hw=>h.out a w (ha.sub hE) hw
end
end Go.Kn
namespace Go.Proofs.YtjblkbkmblkgoaaGreat
section
open Go Go.Kn Go.Proofs
theorem zlg (I:Qu)(x:Int):ZA Tryz.prog 229 [.int .i64 x] I (.bool false):=by
 intro g H w hw
 refine qe Tryz.func229 Tryz.ntmps229 hw ?_
 refine zR (zA ?_)
 refine zN (zR ?_)
 refine zM ?_
 refine zM ?_
 refine zC ?_
 refine zA (zN (Qs ?_))
 exact zr rfl rfl kH
theorem zue (I:Qu)(x y:Int):ZA Tryz.prog 183 [.int .i64 x,.int .i64 y] I (.int .i64 (zfx x y)):=by
 intro g H w hw
 refine qe Tryz.func183 Tryz.ntmps183 hw ?_
 refine zR (zA ?_)
 refine zN (zR ?_)
 refine zM ?_
 refine qcV (vs:=[_]) rfl zbv (zlg I _) ?_
 refine zA ?_
 refine zN (zR ?_)
 refine zM ?_
 refine qcV (vs:=[_]) rfl zbv (zlg I _) ?_
 refine zA (zN (Qo (zR ?_)))
 refine zM (zN ?_)
 refine zI ?_ ?_<;>intro hc11
 ·
  cases hc11
 refine Qp (Qd (Qo (zR (zM (zN ?_)))))
 refine zI ?_ ?_<;>intro hc13
 ·
  cases hc13
 refine Qp (Qd (Qo (zR (zM ?_))))
 refine zM ?_
 refine zC (zN ?_)
 refine zI ?_ ?_<;>intro hc16
 ·
  refine zR (zA (zN (Qs (Qf ?_))))
  exact zr rfl rfl (by unfold zfx;first | (rw [if_pos (by simpa using hc16)]) | (rw [if_neg (by simpa using hc16),if_pos (by simpa using hc19)]) | (rw [if_neg (by simpa using hc16),if_neg (by simpa using hc19)]))
 refine Qp (Qd (Qo (zR (zM ?_))))
 refine zM ?_
 refine zC (zN ?_)
 refine zI ?_ ?_<;>intro hc19
 ·
  refine zR (zA (zN (Qs (Qf ?_))))
  exact zr rfl rfl (by unfold zfx;first | (rw [if_pos (by simpa using hc16)]) | (rw [if_neg (by simpa using hc16),if_pos (by simpa using hc19)]) | (rw [if_neg (by simpa using hc16),if_neg (by simpa using hc19)]))
 refine Qp (Qd (zR (zA (zN (Qs ?_)))))
 exact zr rfl rfl (by unfold zfx;first | (rw [if_pos (by simpa using hc16)]) | (rw [if_neg (by simpa using hc16),if_pos (by simpa using hc19)]) | (rw [if_neg (by simpa using hc16),if_neg (by simpa using hc19)]))
theorem zyl (I:Qu)(n:Int)(hn: -1073741824≤n∧n≤1073741824):ZA Tryz.prog 282 [.int .i64 n] I (.int .u64 (zcs n)):=by
 intro g H w hw
 refine qe Tryz.func282 Tryz.ntmps282 hw ?_
 refine zR (zA (zN (Qo (zR ?_))))
 refine zM ?_
 refine zC (zN ?_)
 refine zI ?_ ?_<;>intro hc4
 ·
  refine zR (zM ?_)
  refine zV (Z4 rfl Xa) ?_
  refine zV (ztW rfl) ?_
  refine zA (zN (Qs (Qf ?_)))
  exact zr rfl rfl (by rw [zti hn (by simpa using hc4)])
 refine Qp (Qd (zR (zM ?_)))
 refine zV (Z4 rfl Xa) ?_
 refine zA (zN (Qs ?_))
 exact zr rfl rfl (by rw [zuk hn (by simpa using hc4)])
theorem zys (I:Qu)(a b:Int):Vs Tryz.prog 285 [.int .u64 a,.int .u64 b] I [] (fun v I' L=>I'=I∧∃ b1 b2,v= .func (.func 287) #[] [Zw b1,Zw b2].toArray∧L=zxm 216 b1 b2 a b):=by
 intro g H w hw
 refine qe Tryz.func285 Tryz.ntmps285 hw ?_
 refine zR ?_
 refine QO rfl rfl rfl (fun b_2=>?_)
 refine QO rfl rfl rfl (fun b_3=>?_)
 refine zA ?_
 refine zN (zR ?_)
 refine zV (Yz (us:=[]) (vs:=[_,_]) rfl rfl) ?_
 refine zA (zN (Qs ?_))
 exact Qy rfl rfl (fun w hw=>⟨_,I,_,rfl,zz4 _,hw,rfl,_,_,rfl,rfl⟩)
theorem znP (I:Qu)(a0 b0:Nat)(b1 b2:Nat)(hb0:0<b0)(ha1:a0≤9223372036854775807)(hb1:b0≤9223372036854775807):zy3 Tryz.prog 287 [Zw b1,Zw b2] I (zxm 216 b1 b2 (a0) (b0)) (fun n:Nat=>.int .u64 n) (zd8 a0 b0):=by
 intro g l J Jx hY I0 H w h0 hJ hw
 refine qe Tryz.func287 Tryz.ntmps287 hw ?_
 refine Qx ?_
 refine zfV (fun m E I' H' loc'=>∃ (a b:Nat) (pre:List Nat),m=b∧E=[(0,.func (.yield l) #[] #[]),(1,Zw b1),(2,Zw b2)]∧loc'=zxm 216 b1 b2 (a) (b)∧HLe I0 I'∧J pre I' H'∧zd8 a0 b0=pre++zd8 a b∧0<b∧a≤9223372036854775807∧b≤9223372036854775807) _ _ _ ⟨a0,b0,[],rfl,rfl,rfl,zz4 _,hJ,rfl,hb0,ha1,hb1⟩ (.cons rfl (.cons rfl (.cons rfl .nil))) rfl ?_
 rintro m E I' H' loc' ⟨a,b,pre,hmb,rfl,rfl,hI1,hJk,hrem,hbp,hal,hbl⟩
 subst m
 have hI0:=h0.trans hI1
 refine Qo (zR ?_)
 refine zL ZG ?_
 refine zC ?_
 refine zM ?_
 refine Qq 2 rfl rfl rfl ?_
 refine zK (Qe rfl) ?_
 refine zK (Qc rfl ZG (fun hg=>by exact QA.h1 rfl)) ?_
 refine zle (vs:=[_]) (Post:=fun t I2 H2=>if t then J (pre++[a]) I2 H2 else Jx (pre++[a]) I2 H2) rfl rfl (.some rfl rfl rfl rfl gbt) rfl rfl (fun hcj=>hY pre a _ _ (zm6 hrem (by simpa [Yf] using hcj)) hI0 hJk) ?_
 rintro t I2 H2 hI2 hyes hno
 refine QB rfl rfl rfl rfl rfl ?_
 refine zN ?_
 refine zI ?_ ?_<;>intro hc10
 ·
  have ha0:a≠0:=by simp at hc10;exact hc10.1
  have ht:t=true:=by simp at hc10;exact hc10.2
  subst ht
  have hJ1:J (pre++[a]) I2 H2:=hyes (by simp [Yf];exact ha0)
  refine Qp (Qd (Qx (Qo ?_)))
  apply zzA
  ·
   intro key
   have hD:=zz4 I2
   refine Zn ?_
   refine QL I2 [] mixed ?_
   refine VK 0 1 2 rfl rfl rfl kA ?_ ?_ ?_
   ·
    refine zL ZG ?_
    refine Qb ?_
    refine zD hD ?_
    refine QS 1 2 rfl rfl kA ?_ ?_
    ·
     refine zL ZG ?_
     refine Qb ?_
     refine zD hD ?_
     refine QS 2 5 rfl rfl kA ?_ ?_
     ·
      refine zL ZG ?_
      refine Qb ?_
      refine zD hD ?_
      refine QS 3 5 rfl rfl kA ?_ ?_
      ·
       refine zV (Vp rfl rfl) ?_
       refine Qb ?_
       refine zD hD ?_
       refine QS 4 5 rfl rfl kA ?_ ?_
       ·
        refine zV (Yb rfl rfl (fun hg=>by rw [Zp hbp];omega)) ?_
        refine Qb ?_
        refine zD hD ?_
        refine qd 5 rfl ?_
        refine zS QX ?_
        refine Qb ?_
        refine zD hD ?_
        refine qd 6 rfl ?_
        refine zS QX ?_
        refine Qb ?_
        refine zD hD ?_
        refine Ql kA ?_
        refine Qt ?_
        first | exact key.out | exact Yj key
       refine zS QX ?_
       refine Qb ?_
       refine zD hD ?_
       refine qd 4 rfl ?_
       refine zV (Yb rfl rfl (fun hg=>by rw [Zp hbp];omega)) ?_
       refine Qb ?_
       refine zD hD ?_
       refine qd 6 rfl ?_
       refine zS QX ?_
       refine Qb ?_
       refine zD hD ?_
       refine Ql kA ?_
       refine Qt ?_
       first | exact key.out | exact Yj key
      refine zS QX ?_
      refine Qb ?_
      refine zD hD ?_
      refine qd 3 rfl ?_
      refine zV (Vp rfl rfl) ?_
      refine Qb ?_
      refine zD hD ?_
      refine qd 4 rfl ?_
      refine zV (Yb rfl rfl (fun hg=>by rw [Zp hbp];omega)) ?_
      refine Qb ?_
      refine zD hD ?_
      refine qd 6 rfl ?_
      refine zS QX ?_
      refine Qb ?_
      refine zD hD ?_
      refine Ql kA ?_
      refine Qt ?_
      first | exact key.out | exact Yj key
     refine zS QX ?_
     refine Qb ?_
     refine zD hD ?_
     refine qd 2 rfl ?_
     refine zL ZG ?_
     refine Qb ?_
     refine zD hD ?_
     refine qd 3 rfl ?_
     refine zV (Vp rfl rfl) ?_
     refine Qb ?_
     refine zD hD ?_
     refine qd 4 rfl ?_
     refine zV (Yb rfl rfl (fun hg=>by rw [Zp hbp];omega)) ?_
     refine Qb ?_
     refine zD hD ?_
     refine qd 6 rfl ?_
     refine zS QX ?_
     refine Qb ?_
     refine zD hD ?_
     refine Ql kA ?_
     refine Qt ?_
     first | exact key.out | exact Yj key
    refine zL ZG ?_
    refine Qb ?_
    refine zD hD ?_
    refine QS 1 3 rfl rfl kA ?_ ?_
    ·
     refine zL ZG ?_
     refine Qb ?_
     refine zD hD ?_
     refine QS 3 5 rfl rfl kA ?_ ?_
     ·
      refine zV (Vp rfl rfl) ?_
      refine Qb ?_
      refine zD hD ?_
      refine QS 4 5 rfl rfl kA ?_ ?_
      ·
       refine zV (Yb rfl rfl (fun hg=>by rw [Zp hbp];omega)) ?_
       refine Qb ?_
       refine zD hD ?_
       refine qd 5 rfl ?_
       refine zS QX ?_
       refine Qb ?_
       refine zD hD ?_
       refine qd 6 rfl ?_
       refine zS QX ?_
       refine Qb ?_
       refine zD hD ?_
       refine Ql kA ?_
       refine Qt ?_
       first | exact key.out | exact Yj key
      refine zS QX ?_
      refine Qb ?_
      refine zD hD ?_
      refine qd 4 rfl ?_
      refine zV (Yb rfl rfl (fun hg=>by rw [Zp hbp];omega)) ?_
      refine Qb ?_
      refine zD hD ?_
      refine qd 6 rfl ?_
      refine zS QX ?_
      refine Qb ?_
      refine zD hD ?_
      refine Ql kA ?_
      refine Qt ?_
      first | exact key.out | exact Yj key
     refine zS QX ?_
     refine Qb ?_
     refine zD hD ?_
     refine qd 3 rfl ?_
     refine zV (Vp rfl rfl) ?_
     refine Qb ?_
     refine zD hD ?_
     refine qd 4 rfl ?_
     refine zV (Yb rfl rfl (fun hg=>by rw [Zp hbp];omega)) ?_
     refine Qb ?_
     refine zD hD ?_
     refine qd 6 rfl ?_
     refine zS QX ?_
     refine Qb ?_
     refine zD hD ?_
     refine Ql kA ?_
     refine Qt ?_
     first | exact key.out | exact Yj key
    refine zV (Vp rfl rfl) ?_
    refine Qb ?_
    refine zD hD ?_
    refine qd 1 rfl ?_
    refine zL ZG ?_
    refine Qb ?_
    refine zD hD ?_
    refine QS 4 5 rfl rfl kA ?_ ?_
    ·
     refine zV (Yb rfl rfl (fun hg=>by rw [Zp hbp];omega)) ?_
     refine Qb ?_
     refine zD hD ?_
     refine qd 5 rfl ?_
     refine zS QX ?_
     refine Qb ?_
     refine zD hD ?_
     refine qd 6 rfl ?_
     refine zS QX ?_
     refine Qb ?_
     refine zD hD ?_
     refine Ql kA ?_
     refine Qt ?_
     first | exact key.out | exact Yj key
    refine zS QX ?_
    refine Qb ?_
    refine zD hD ?_
    refine qd 4 rfl ?_
    refine zV (Yb rfl rfl (fun hg=>by rw [Zp hbp];omega)) ?_
    refine Qb ?_
    refine zD hD ?_
    refine qd 6 rfl ?_
    refine zS QX ?_
    refine Qb ?_
    refine zD hD ?_
    refine Ql kA ?_
    refine Qt ?_
    first | exact key.out | exact Yj key
   ·
    refine zL ZG ?_
    refine Qb ?_
    refine zD hD ?_
    refine QS 0 2 rfl rfl kA ?_ ?_
    ·
     refine zL ZG ?_
     refine Qb ?_
     refine zD hD ?_
     refine QS 2 5 rfl rfl kA ?_ ?_
     ·
      refine zL ZG ?_
      refine Qb ?_
      refine zD hD ?_
      refine QS 3 5 rfl rfl kA ?_ ?_
      ·
       refine zV (Vp rfl rfl) ?_
       refine Qb ?_
       refine zD hD ?_
       refine QS 4 5 rfl rfl kA ?_ ?_
       ·
        refine zV (Yb rfl rfl (fun hg=>by rw [Zp hbp];omega)) ?_
        refine Qb ?_
        refine zD hD ?_
        refine qd 5 rfl ?_
        refine zS QX ?_
        refine Qb ?_
        refine zD hD ?_
        refine qd 6 rfl ?_
        refine zS QX ?_
        refine Qb ?_
        refine zD hD ?_
        refine Ql kA ?_
        refine Qt ?_
        first | exact key.out | exact Yj key
       refine zS QX ?_
       refine Qb ?_
       refine zD hD ?_
       refine qd 4 rfl ?_
       refine zV (Yb rfl rfl (fun hg=>by rw [Zp hbp];omega)) ?_
       refine Qb ?_
       refine zD hD ?_
       refine qd 6 rfl ?_
       refine zS QX ?_
       refine Qb ?_
       refine zD hD ?_
       refine Ql kA ?_
       refine Qt ?_
       first | exact key.out | exact Yj key
      refine zS QX ?_
      refine Qb ?_
      refine zD hD ?_
      refine qd 3 rfl ?_
      refine zV (Vp rfl rfl) ?_
      refine Qb ?_
      refine zD hD ?_
      refine qd 4 rfl ?_
      refine zV (Yb rfl rfl (fun hg=>by rw [Zp hbp];omega)) ?_
      refine Qb ?_
      refine zD hD ?_
      refine qd 6 rfl ?_
      refine zS QX ?_
      refine Qb ?_
      refine zD hD ?_
      refine Ql kA ?_
      refine Qt ?_
      first | exact key.out | exact Yj key
     refine zS QX ?_
     refine Qb ?_
     refine zD hD ?_
     refine qd 2 rfl ?_
     refine zL ZG ?_
     refine Qb ?_
     refine zD hD ?_
     refine qd 3 rfl ?_
     refine zV (Vp rfl rfl) ?_
     refine Qb ?_
     refine zD hD ?_
     refine qd 4 rfl ?_
     refine zV (Yb rfl rfl (fun hg=>by rw [Zp hbp];omega)) ?_
     refine Qb ?_
     refine zD hD ?_
     refine qd 6 rfl ?_
     refine zS QX ?_
     refine Qb ?_
     refine zD hD ?_
     refine Ql kA ?_
     refine Qt ?_
     first | exact key.out | exact Yj key
    refine zL ZG ?_
    refine Qb ?_
    refine zD hD ?_
    refine QS 0 3 rfl rfl kA ?_ ?_
    ·
     refine zL ZG ?_
     refine Qb ?_
     refine zD hD ?_
     refine QS 3 5 rfl rfl kA ?_ ?_
     ·
      refine zV (Vp rfl rfl) ?_
      refine Qb ?_
      refine zD hD ?_
      refine QS 4 5 rfl rfl kA ?_ ?_
      ·
       refine zV (Yb rfl rfl (fun hg=>by rw [Zp hbp];omega)) ?_
       refine Qb ?_
       refine zD hD ?_
       refine qd 5 rfl ?_
       refine zS QX ?_
       refine Qb ?_
       refine zD hD ?_
       refine qd 6 rfl ?_
       refine zS QX ?_
       refine Qb ?_
       refine zD hD ?_
       refine Ql kA ?_
       refine Qt ?_
       first | exact key.out | exact Yj key
      refine zS QX ?_
      refine Qb ?_
      refine zD hD ?_
      refine qd 4 rfl ?_
      refine zV (Yb rfl rfl (fun hg=>by rw [Zp hbp];omega)) ?_
      refine Qb ?_
      refine zD hD ?_
      refine qd 6 rfl ?_
      refine zS QX ?_
      refine Qb ?_
      refine zD hD ?_
      refine Ql kA ?_
      refine Qt ?_
      first | exact key.out | exact Yj key
     refine zS QX ?_
     refine Qb ?_
     refine zD hD ?_
     refine qd 3 rfl ?_
     refine zV (Vp rfl rfl) ?_
     refine Qb ?_
     refine zD hD ?_
     refine qd 4 rfl ?_
     refine zV (Yb rfl rfl (fun hg=>by rw [Zp hbp];omega)) ?_
     refine Qb ?_
     refine zD hD ?_
     refine qd 6 rfl ?_
     refine zS QX ?_
     refine Qb ?_
     refine zD hD ?_
     refine Ql kA ?_
     refine Qt ?_
     first | exact key.out | exact Yj key
    refine zV (Vp rfl rfl) ?_
    refine Qb ?_
    refine zD hD ?_
    refine QS 0 4 rfl rfl kA ?_ ?_
    ·
     refine zL ZG ?_
     refine Qb ?_
     refine zD hD ?_
     refine QS 4 5 rfl rfl kA ?_ ?_
     ·
      refine zV (Yb rfl rfl (fun hg=>by rw [Zp hbp];omega)) ?_
      refine Qb ?_
      refine zD hD ?_
      refine qd 5 rfl ?_
      refine zS QX ?_
      refine Qb ?_
      refine zD hD ?_
      refine qd 6 rfl ?_
      refine zS QX ?_
      refine Qb ?_
      refine zD hD ?_
      refine Ql kA ?_
      refine Qt ?_
      first | exact key.out | exact Yj key
     refine zS QX ?_
     refine Qb ?_
     refine zD hD ?_
     refine qd 4 rfl ?_
     refine zV (Yb rfl rfl (fun hg=>by rw [Zp hbp];omega)) ?_
     refine Qb ?_
     refine zD hD ?_
     refine qd 6 rfl ?_
     refine zS QX ?_
     refine Qb ?_
     refine zD hD ?_
     refine Ql kA ?_
     refine Qt ?_
     first | exact key.out | exact Yj key
    refine zV (Yb rfl rfl (fun hg=>by rw [Zp hbp];omega)) ?_
    refine Qb ?_
    refine zD hD ?_
    refine qd 0 rfl ?_
    refine zL ZG ?_
    refine Qb ?_
    refine zD hD ?_
    refine qd 5 rfl ?_
    refine zS QX ?_
    refine Qb ?_
    refine zD hD ?_
    refine qd 6 rfl ?_
    refine zS QX ?_
    refine Qb ?_
    refine zD hD ?_
    refine Ql kA ?_
    refine Qt ?_
    first | exact key.out | exact Yj key
   refine zL ZG ?_
   refine Qb ?_
   refine zD hD ?_
   refine VK 0 1 3 rfl rfl rfl kA ?_ ?_ ?_
   ·
    refine zL ZG ?_
    refine Qb ?_
    refine zD hD ?_
    refine QS 1 3 rfl rfl kA ?_ ?_
    ·
     refine zL ZG ?_
     refine Qb ?_
     refine zD hD ?_
     refine QS 3 5 rfl rfl kA ?_ ?_
     ·
      refine zV (Vp rfl rfl) ?_
      refine Qb ?_
      refine zD hD ?_
      refine QS 4 5 rfl rfl kA ?_ ?_
      ·
       refine zV (Yb rfl rfl (fun hg=>by rw [Zp hbp];omega)) ?_
       refine Qb ?_
       refine zD hD ?_
       refine qd 5 rfl ?_
       refine zS QX ?_
       refine Qb ?_
       refine zD hD ?_
       refine qd 6 rfl ?_
       refine zS QX ?_
       refine Qb ?_
       refine zD hD ?_
       refine Ql kA ?_
       refine Qt ?_
       first | exact key.out | exact Yj key
      refine zS QX ?_
      refine Qb ?_
      refine zD hD ?_
      refine qd 4 rfl ?_
      refine zV (Yb rfl rfl (fun hg=>by rw [Zp hbp];omega)) ?_
      refine Qb ?_
      refine zD hD ?_
      refine qd 6 rfl ?_
      refine zS QX ?_
      refine Qb ?_
      refine zD hD ?_
      refine Ql kA ?_
      refine Qt ?_
      first | exact key.out | exact Yj key
     refine zS QX ?_
     refine Qb ?_
     refine zD hD ?_
     refine qd 3 rfl ?_
     refine zV (Vp rfl rfl) ?_
     refine Qb ?_
     refine zD hD ?_
     refine qd 4 rfl ?_
     refine zV (Yb rfl rfl (fun hg=>by rw [Zp hbp];omega)) ?_
     refine Qb ?_
     refine zD hD ?_
     refine qd 6 rfl ?_
     refine zS QX ?_
     refine Qb ?_
     refine zD hD ?_
     refine Ql kA ?_
     refine Qt ?_
     first | exact key.out | exact Yj key
    refine zV (Vp rfl rfl) ?_
    refine Qb ?_
    refine zD hD ?_
    refine qd 1 rfl ?_
    refine zL ZG ?_
    refine Qb ?_
    refine zD hD ?_
    refine QS 4 5 rfl rfl kA ?_ ?_
    ·
     refine zV (Yb rfl rfl (fun hg=>by rw [Zp hbp];omega)) ?_
     refine Qb ?_
     refine zD hD ?_
     refine qd 5 rfl ?_
     refine zS QX ?_
     refine Qb ?_
     refine zD hD ?_
     refine qd 6 rfl ?_
     refine zS QX ?_
     refine Qb ?_
     refine zD hD ?_
     refine Ql kA ?_
     refine Qt ?_
     first | exact key.out | exact Yj key
    refine zS QX ?_
    refine Qb ?_
    refine zD hD ?_
    refine qd 4 rfl ?_
    refine zV (Yb rfl rfl (fun hg=>by rw [Zp hbp];omega)) ?_
    refine Qb ?_
    refine zD hD ?_
    refine qd 6 rfl ?_
    refine zS QX ?_
    refine Qb ?_
    refine zD hD ?_
    refine Ql kA ?_
    refine Qt ?_
    first | exact key.out | exact Yj key
   ·
    refine zL ZG ?_
    refine Qb ?_
    refine zD hD ?_
    refine QS 0 3 rfl rfl kA ?_ ?_
    ·
     refine zL ZG ?_
     refine Qb ?_
     refine zD hD ?_
     refine QS 3 5 rfl rfl kA ?_ ?_
     ·
      refine zV (Vp rfl rfl) ?_
      refine Qb ?_
      refine zD hD ?_
      refine QS 4 5 rfl rfl kA ?_ ?_
      ·
       refine zV (Yb rfl rfl (fun hg=>by rw [Zp hbp];omega)) ?_
       refine Qb ?_
       refine zD hD ?_
       refine qd 5 rfl ?_
       refine zS QX ?_
       refine Qb ?_
       refine zD hD ?_
       refine qd 6 rfl ?_
       refine zS QX ?_
       refine Qb ?_
       refine zD hD ?_
       refine Ql kA ?_
       refine Qt ?_
       first | exact key.out | exact Yj key
      refine zS QX ?_
      refine Qb ?_
      refine zD hD ?_
      refine qd 4 rfl ?_
      refine zV (Yb rfl rfl (fun hg=>by rw [Zp hbp];omega)) ?_
      refine Qb ?_
      refine zD hD ?_
      refine qd 6 rfl ?_
      refine zS QX ?_
      refine Qb ?_
      refine zD hD ?_
      refine Ql kA ?_
      refine Qt ?_
      first | exact key.out | exact Yj key
     refine zS QX ?_
     refine Qb ?_
     refine zD hD ?_
     refine qd 3 rfl ?_
     refine zV (Vp rfl rfl) ?_
     refine Qb ?_
     refine zD hD ?_
     refine qd 4 rfl ?_
     refine zV (Yb rfl rfl (fun hg=>by rw [Zp hbp];omega)) ?_
     refine Qb ?_
     refine zD hD ?_
     refine qd 6 rfl ?_
     refine zS QX ?_
     refine Qb ?_
     refine zD hD ?_
     refine Ql kA ?_
     refine Qt ?_
     first | exact key.out | exact Yj key
    refine zV (Vp rfl rfl) ?_
    refine Qb ?_
    refine zD hD ?_
    refine QS 0 4 rfl rfl kA ?_ ?_
    ·
     refine zL ZG ?_
     refine Qb ?_
     refine zD hD ?_
     refine QS 4 5 rfl rfl kA ?_ ?_
     ·
      refine zV (Yb rfl rfl (fun hg=>by rw [Zp hbp];omega)) ?_
      refine Qb ?_
      refine zD hD ?_
      refine qd 5 rfl ?_
      refine zS QX ?_
      refine Qb ?_
      refine zD hD ?_
      refine qd 6 rfl ?_
      refine zS QX ?_
      refine Qb ?_
      refine zD hD ?_
      refine Ql kA ?_
      refine Qt ?_
      first | exact key.out | exact Yj key
     refine zS QX ?_
     refine Qb ?_
     refine zD hD ?_
     refine qd 4 rfl ?_
     refine zV (Yb rfl rfl (fun hg=>by rw [Zp hbp];omega)) ?_
     refine Qb ?_
     refine zD hD ?_
     refine qd 6 rfl ?_
     refine zS QX ?_
     refine Qb ?_
     refine zD hD ?_
     refine Ql kA ?_
     refine Qt ?_
     first | exact key.out | exact Yj key
    refine zV (Yb rfl rfl (fun hg=>by rw [Zp hbp];omega)) ?_
    refine Qb ?_
    refine zD hD ?_
    refine qd 0 rfl ?_
    refine zL ZG ?_
    refine Qb ?_
    refine zD hD ?_
    refine qd 5 rfl ?_
    refine zS QX ?_
    refine Qb ?_
    refine zD hD ?_
    refine qd 6 rfl ?_
    refine zS QX ?_
    refine Qb ?_
    refine zD hD ?_
    refine Ql kA ?_
    refine Qt ?_
    first | exact key.out | exact Yj key
   refine zV (Vp rfl rfl) ?_
   refine Qb ?_
   refine zD hD ?_
   refine QS 0 1 rfl rfl kA ?_ ?_
   ·
    refine zL ZG ?_
    refine Qb ?_
    refine zD hD ?_
    refine qd 1 rfl ?_
    refine zL ZG ?_
    refine Qb ?_
    refine zD hD ?_
    refine QS 4 5 rfl rfl kA ?_ ?_
    ·
     refine zV (Yb rfl rfl (fun hg=>by rw [Zp hbp];omega)) ?_
     refine Qb ?_
     refine zD hD ?_
     refine qd 5 rfl ?_
     refine zS QX ?_
     refine Qb ?_
     refine zD hD ?_
     refine qd 6 rfl ?_
     refine zS QX ?_
     refine Qb ?_
     refine zD hD ?_
     refine Ql kA ?_
     refine Qt ?_
     first | exact key.out | exact Yj key
    refine zS QX ?_
    refine Qb ?_
    refine zD hD ?_
    refine qd 4 rfl ?_
    refine zV (Yb rfl rfl (fun hg=>by rw [Zp hbp];omega)) ?_
    refine Qb ?_
    refine zD hD ?_
    refine qd 6 rfl ?_
    refine zS QX ?_
    refine Qb ?_
    refine zD hD ?_
    refine Ql kA ?_
    refine Qt ?_
    first | exact key.out | exact Yj key
   refine zL ZG ?_
   refine Qb ?_
   refine zD hD ?_
   refine QS 0 4 rfl rfl kA ?_ ?_
   ·
    refine zL ZG ?_
    refine Qb ?_
    refine zD hD ?_
    refine QS 4 5 rfl rfl kA ?_ ?_
    ·
     refine zV (Yb rfl rfl (fun hg=>by rw [Zp hbp];omega)) ?_
     refine Qb ?_
     refine zD hD ?_
     refine qd 5 rfl ?_
     refine zS QX ?_
     refine Qb ?_
     refine zD hD ?_
     refine qd 6 rfl ?_
     refine zS QX ?_
     refine Qb ?_
     refine zD hD ?_
     refine Ql kA ?_
     refine Qt ?_
     first | exact key.out | exact Yj key
    refine zS QX ?_
    refine Qb ?_
    refine zD hD ?_
    refine qd 4 rfl ?_
    refine zV (Yb rfl rfl (fun hg=>by rw [Zp hbp];omega)) ?_
    refine Qb ?_
    refine zD hD ?_
    refine qd 6 rfl ?_
    refine zS QX ?_
    refine Qb ?_
    refine zD hD ?_
    refine Ql kA ?_
    refine Qt ?_
    first | exact key.out | exact Yj key
   refine zV (Yb rfl rfl (fun hg=>by rw [Zp hbp];omega)) ?_
   refine Qb ?_
   refine zD hD ?_
   refine qd 0 rfl ?_
   refine zL ZG ?_
   refine Qb ?_
   refine zD hD ?_
   refine qd 5 rfl ?_
   refine zS QX ?_
   refine Qb ?_
   refine zD hD ?_
   refine qd 6 rfl ?_
   refine zS QX ?_
   refine Qb ?_
   refine zD hD ?_
   refine Ql kA ?_
   refine Qt ?_
   first | exact key.out | exact Yj key
  rw [show ((a:Int)).tmod (zfg (b:Int) 1)=((a % b:Nat):Int) by rw [Zp hbp,zib]]
  refine Qd (zR ?_)
  refine zL ZG ?_
  refine zC (zN ?_)
  refine zI ?_ ?_<;>intro hc17
  ·
   have hab:a % b=0:=by have h:=hc17;simp only [beq_iff_eq] at h;omega
   have hpre2:(pre++[a])++[b]<+:zd8 a0 b0:=by rw [hrem,zdM ha0 kB hab,List.append_assoc];exact List.prefix_rfl
   refine zR (zM ?_)
   refine zL ZG ?_
   refine zbk (vs:=[_]) (Post:=fun t I3 H3=>if t then J ((pre++[a])++[b]) I3 H3 else Jx ((pre++[a])++[b]) I3 H3) rfl rfl rfl rfl (hY (pre++[a]) b _ _ hpre2 (hI0.trans hI2) hJ1) ?_
   rintro t3 I3 H3 hI3 hP3
   refine zN (Qs (Qk (Qf (Qk ?_))))
   first
   | (refine Yi rfl (fun w hw=>⟨_,I3,H3,rfl,hI1.trans (hI2.trans hI3),hw.drop,?_⟩);cases t3 with | true=>exact .inl (by rw [hrem,zdM ha0 kB hab];simpa using hP3) | false=>exact .inr ⟨_,hpre2,hP3⟩)
  have hab:a % b≠0:=by have h:=hc17;simp only [beq_eq_false_iff_ne,ne_eq] at h;omega
  refine Qp (Qj ?_)
  exact za2 rfl rfl rfl _ (zxm 216 b1 b2 (b) (((a % b:Nat):Int))) ⟨a % b,Nat.mod_lt _ hbp,b,a % b,pre++[a],rfl,rfl,rfl,hI1.trans hI2,hJ1,by rw [hrem,zem ha0 kB hab,List.append_assoc];rfl,kB,kB,by have:=Nat.mod_lt a hbp;omega⟩ (.cons rfl (.cons rfl (.cons rfl .nil))) .refl
 refine Q6 (Qn (Qn (Qw ?_)))
 first
 | (refine YG (Yi rfl (fun w hw=>⟨_,I2,H2,rfl,hI1.trans hI2,hw.drop,?_⟩));by_cases ha0:a=0;(obtain ⟨e1,e2⟩:=hno (by simp [Yf,ha0]);subst e1;subst e2;subst ha0;exact .inl (by rw [hrem,ze8,List.append_nil];exact hJk));(have ht:t=false:=(by simp [ha0] at hc10;exact hc10);subst ht;exact .inr ⟨_,zm6 hrem ha0,hyes (by simp [Yf];exact ha0)⟩))
end
section
open Go Go.Kn Go.Proofs
theorem zyv (I:Qu)(a b:Nat)(hb:0<b)(ha:a≤9223372036854775807)(hb2:b≤9223372036854775807):ZA Tryz.prog 281 [.int .u64 a,.int .u64 b] I (.int .u64 (Nat.gcd a b:Nat)):=by
 intro g H w hw
 refine zmN Tryz.func281 rfl Tryz.ntmps281 rfl hw ?_
 have hIc:=zz4 I
 refine zR ?_
 refine Qr zvj rfl rfl (fun b_4=>?_)
 refine zN (Qo (zR (zM ?_)))
 refine zC (zN ?_)
 refine zI ?_ ?_<;>intro hc7
 ·
  simp at hc7;omega
 refine Qp (Qd (zR (zM ?_)))
 refine zS QX ?_
 refine zN (Qo (zR (zM ?_)))
 refine zM ?_
 refine zpc [_,_] rfl zut .nil (zys I _ _) ?_
 rintro vv1 I1 L1 hI1 ⟨rfl,b1,b2,rfl,rfl⟩
 have hIc:=hIc.trans hI1
 refine zN (Qx ?_)
 refine zfd (ms:=[]) (K:=zxm 216 b1 b2 (a) (b)) (L:=[(b_4,.cells #[.int .u64 b] 216 (0,0))]) (enc:=fun n:Nat=>.int .u64 n) (xs:=zd8 a b) (fun pre I' loc'=>loc'=[(b_4,.cells #[.int .u64 ((pre.getLastD b:Nat):Int)] 216 (0,0))]) (fun _ _ _ _=>False) (fun pre x E2 I2 loc2=>E2=[(4,Zw b_4),(5,.int .u64 x)]∧loc2=[(b_4,.cells #[.int .u64 ((pre.getLastD b:Nat):Int)] 216 (0,0))]) rfl zr1 (znP _ a b b1 b2 hb ha hb2) rfl rfl ?_ ?_ ?_ ?_
 ·
  rintro l pre x I1 loc1 H1 hpre hI1 rfl
  refine Qi (zA (Qb ?_))
  exact WB _ ⟨zz4 _,rfl,rfl⟩ (.cons rfl (.cons rfl .nil))
 ·
  rintro l pre x E2 I2 loc2 H2 hpre hI2 ⟨rfl,rfl⟩
  refine Qx (Qi (zM ?_))
  refine zS QX ?_
  refine Qb (Qj ?_)
  exact zk7 ⟨zz4 _,by rw [zkV];rfl⟩ .refl
 ·
  rintro bd I1 loc1 hI1 rfl
  have hIc:=hIc.trans hI1
  refine Qj (Qd (zR ?_))
  refine zL ZG ?_
  refine zS QX ?_
  refine zN (Qs ?_)
  exact zhj (L:=[(b_4,_)]) (fun a ha w hw=>zyV rfl rfl ZG (QA.h0 rfl) a ha w hw) (fun w hw=>⟨by rw [zpP b (Nat.le_refl _) kB (fun _=>rfl)],(hw.mono hIc).drop⟩)
 rintro c bd pre I1 loc1 hI1 hpre hF;exact hF.elim
theorem zvL (I:Qu)(n d:Int)(hn: -1073741824≤n∧n≤1073741824)(hd:1≤d∧d≤1073741824):ZA Tryz.prog 281 [.int .u64 (zcs n),.int .u64 (IntKind.u64.wrap d)] I (.int .u64 (zjf n d)):=by
 have h0:0≤zcs n∧zcs n≤1073741824:=by unfold zcs;split<;>omega
 have h:=zyv I (zcs n).toNat d.toNat kB kB kB
 rw [zmJ kB]
 rw [Int.toNat_of_nonneg h0.1,Int.toNat_of_nonneg kB,zrN,Int.toNat_of_nonneg kB] at h
 exact h
theorem zhS (I:Qu)(n d:Int):ZA Tryz.prog 278 [zaz (n) (d)] I (.int .i64 (zuE n d)):=by
 intro g H w hw
 refine qe Tryz.func278 Tryz.ntmps278 hw ?_
 refine zR ?_
 refine QO rfl rfl rfl (fun b_1=>?_)
 refine zA (zN (Qo (Qo ?_)))
 refine Xt mixed kA ?_
 refine zq (Qa rfl Y6) ?_
 refine zq (Qc rfl Qm (fun hg=>by exact QA.h0 rfl)) ?_
 refine zq (Qz rfl rfl rfl) ?_
 refine zq (Qe rfl) ?_
 refine V1 3 rfl rfl rfl ?_
 refine zj (Qa rfl Y6) ?_
 refine zj (Qc rfl Qm (fun hg=>by exact QA.h0 rfl)) ?_
 refine zj (Qz rfl rfl rfl) ?_
 refine UX rfl rfl rfl rfl rfl ?_
 refine zq (Qe rfl) ?_
 refine V1 8 rfl rfl rfl ?_
 refine zj (Qa rfl YP) ?_
 refine zj (Qc rfl Qm (fun hg=>by exact QA.h0 rfl)) ?_
 refine zj (Qz rfl rfl rfl) ?_
 refine UX rfl rfl rfl rfl rfl ?_
 refine zq (Qe rfl) ?_
 refine V1 13 rfl rfl rfl ?_
 refine zj (Qa rfl YP) ?_
 refine zj (Qc rfl Qm (fun hg=>by exact QA.h0 rfl)) ?_
 refine zj (Qz rfl rfl rfl) ?_
 refine UX rfl rfl rfl rfl rfl ?_
 refine zq (Qe rfl) ?_
 refine V1 18 rfl rfl rfl ?_
 refine zj (Qa rfl YP) ?_
 refine zj (Qc rfl Qm (fun hg=>by exact QA.h0 rfl)) ?_
 refine JL (cap:=[]) (vs:=[_]) rfl rfl zrA (fun hg=>zyl I n (by simp [Yf] at hg;omega)) (.some rfl rfl rfl rfl gbf) rfl rfl ?_
 refine zj (Qa rfl Y6) ?_
 refine zj (Qc rfl Qm (fun hg=>by exact QA.h0 rfl)) ?_
 refine zj (Z4 rfl Xa) ?_
 refine JL (cap:=[]) (vs:=[_,_]) rfl rfl ztx (fun hg=>zvL I n d (by simp [Yf] at hg;omega) (by simp [Yf] at hg;omega)) (.some rfl rfl rfl rfl gbf) rfl rfl ?_
 refine zj (Qz rfl rfl rfl) ?_
 refine UX rfl rfl rfl rfl rfl ?_
 refine Xw ?_
 refine Qd ?_
 refine zI ?_ ?_<;>intro hc30
 ·
  refine zR (zA (zN (Qs (Qf ?_))))
  first
  | exact zr rfl rfl (by unfold zuE;rw [ztk hc30];rfl)
 refine Qp (Qd (zR (zA (zN (Qs ?_)))))
 first
 | exact zr rfl rfl (by unfold zuE;rw [zoh hc30];rfl)
end
section
open Go Go.Kn Go.Proofs
theorem zvT (I:Qu)(an ad bn bd:Int):ZA Tryz.prog 276 [zaz (an) (ad),zaz (bn) (bd)] I (.tuple #[.int .i64 (zuR an ad bn bd),.int .i64 (zv2 an ad bn bd)]):=by
 intro g H w hw
 refine qe Tryz.func276 Tryz.ntmps276 hw ?_
 refine zR ?_
 refine QO rfl rfl rfl (fun b_2=>?_)
 refine QO rfl rfl rfl (fun b_3=>?_)
 refine zA ?_
 refine zA (zN (Qo (zR ?_)))
 refine zV (Qg rfl Jh (fun hg=>by exact Cells.g1) rfl) ?_
 refine qcV (vs:=[_]) rfl zjq (zhS I _ _) ?_
 refine zC ?_
 refine zM ?_
 refine QK 3 rfl rfl rfl ?_
 refine zJ (Qg rfl Jh (fun hg=>by exact Cells.g0) rfl) ?_
 refine qf (vs:=[_]) rfl zjq (fun hg=>zhS I _ _) ?_
 refine zJ (Qz rfl rfl rfl) ?_
 refine Zg rfl rfl rfl rfl rfl ?_
 refine zN ?_
 refine zI ?_ ?_<;>intro hc13
 ·
  have hb:(U6 an ad&&U6 bn bd)=false:=by have h:=hc13;rw [zk2,Bool.not_eq_true'] at h;exact h
  refine zR (zA ?_)
  refine zA (zN (Qs (Qf ?_)))
  exact Js rfl rfl rfl (fun w hw=>⟨by unfold zuR zv2;rw [hb];rfl,hw.drop⟩)
 have hb:(U6 an ad&&U6 bn bd)=true:=by have h:=hc13;rw [zk2,Bool.not_eq_false'] at h;exact h
 have ⟨ha1,ha2⟩:=zdl (Bool.and_eq_true .. ▸ hb).1
 have ⟨hb1,hb2⟩:=zdl (Bool.and_eq_true .. ▸ hb).2
 refine Qp (Qd (zR ?_))
 refine zF YP ?_
 refine zL Qm ?_
 refine zF Y6 ?_
 refine zL Qm ?_
 refine zV (YE rfl rfl rfl (fun _=>by exact zph kB kB)) ?_
 refine zF YP ?_
 refine zL Qm ?_
 refine zF Y6 ?_
 refine zL Qm ?_
 refine zV (YE rfl rfl rfl (fun _=>by exact zph kB kB)) ?_
 refine qcV (vs:=[_,_]) rfl zjS (zue I _ _) ?_
 refine zA ?_
 refine zA (zN (Qs ?_))
 exact Js rfl rfl rfl (fun w hw=>⟨by unfold zuR zv2;rw [hb];rfl,hw.drop⟩)
theorem zvu (I:Qu)(an ad bn bd:Int):ZA Tryz.prog 270 [zaz (an) (ad),zaz (bn) (bd)] I (.bool (zb4 an ad bn bd)):=by
 intro g H w hw
 refine qe Tryz.func270 Tryz.ntmps270 hw ?_
 refine zR ?_
 refine QO rfl rfl rfl (fun b_2=>?_)
 refine QO rfl rfl rfl (fun b_3=>?_)
 refine zA ?_
 refine zN (zR ?_)
 refine zV (Qg rfl Jh (fun hg=>by exact Cells.g1) rfl) ?_
 refine zV (Qg rfl Jh (fun hg=>by exact Cells.g0) rfl) ?_
 refine qcV (vs:=[_,_]) rfl zuo (zvT I _ _ _ _) ?_
 refine zM ?_
 refine zE ?_
 refine zE ?_
 refine zA ?_
 refine zA ?_
 refine zN (zR ?_)
 refine zM ?_
 refine zC ?_
 refine zM ?_
 refine Qq 2 rfl rfl rfl ?_
 refine zK (Qe rfl) ?_
 refine zK (Qz rfl rfl rfl) ?_
 refine QB rfl rfl rfl rfl rfl ?_
 refine zM ?_
 refine Qq 6 rfl rfl rfl ?_
 refine zK (Qa rfl YP) ?_
 refine zK (Qc rfl Qm (fun hg=>by exact QA.h1 rfl)) ?_
 refine zK (Qz rfl rfl rfl) ?_
 refine QB rfl rfl rfl rfl rfl ?_
 refine zM ?_
 refine Qq 11 rfl rfl rfl ?_
 refine zK (Qa rfl YP) ?_
 refine zK (Qc rfl Qm (fun hg=>by exact QA.h0 rfl)) ?_
 refine zK (Qa rfl Y6) ?_
 refine zK (Qc rfl Qm (fun hg=>by exact QA.h0 rfl)) ?_
 refine zK (Qz rfl rfl rfl) ?_
 refine QB rfl rfl rfl rfl rfl ?_
 refine zA (zN (Qs ?_))
 exact zr rfl rfl (by rw [←zrR])
theorem Z1 (I:Qu)(n lo hi:Int):ZA Tryz.prog 269 [.int .i64 n,.int .i64 lo,.int .i64 hi] I (.bool (within n lo hi)):=by
 intro g H w hw
 refine qe Tryz.func269 Tryz.ntmps269 hw ?_
 refine zR (zA ?_)
 refine zN (zR ?_)
 refine zM ?_
 refine zM ?_
 refine zC ?_
 refine zM ?_
 refine Qq 3 rfl rfl rfl ?_
 refine zK (Qe rfl) ?_
 refine zK (Qe rfl) ?_
 refine zK (Qz rfl rfl rfl) ?_
 refine QB rfl rfl rfl rfl rfl ?_
 refine zA (zN (Qs ?_))
 exact zr rfl rfl kU
theorem zyN (I:Qu)(x:Sg):ZA Tryz.prog 260 [WD x] I (.bool (frm x)):=by
 intro g H w hw
 refine qe Tryz.func260 Tryz.ntmps260 hw ?_
 refine zR ?_
 refine QO rfl rfl rfl (fun b_1=>?_)
 refine zA ?_
 refine zN (zR ?_)
 refine zF Jv ?_
 refine zL Qm ?_
 refine qcV (vs:=[_,_,_]) rfl KO (Z1 I _ _ _) ?_
 refine zM ?_
 refine Qq 3 rfl rfl rfl ?_
 refine zK (Qa rfl Uy) ?_
 refine zK (Qc rfl Qm (fun hg=>by exact QA.h0 rfl)) ?_
 refine qg (vs:=[_,_,_]) rfl KO (fun hg=>Z1 I _ _ _) ?_
 refine QB rfl rfl rfl rfl rfl ?_
 refine zM ?_
 refine Qq 8 rfl rfl rfl ?_
 refine zK (Qa rfl Ux) ?_
 refine zK (Qc rfl Qm (fun hg=>by exact QA.h0 rfl)) ?_
 refine qg (vs:=[_,_,_]) rfl KO (fun hg=>Z1 I _ _ _) ?_
 refine QB rfl rfl rfl rfl rfl ?_
 refine zM ?_
 refine Qq 13 rfl rfl rfl ?_
 refine zK (Qa rfl zaE) ?_
 refine zK (Qc rfl Qm (fun hg=>by exact QA.h0 rfl)) ?_
 refine qg (vs:=[_,_,_]) rfl KO (fun hg=>Z1 I _ _ _) ?_
 refine QB rfl rfl rfl rfl rfl ?_
 refine zM ?_
 refine Qq 18 rfl rfl rfl ?_
 refine zK (Qa rfl Uk) ?_
 refine zK (Qc rfl Qm (fun hg=>by exact QA.h0 rfl)) ?_
 refine qg (vs:=[_,_,_]) rfl KO (fun hg=>Z1 I _ _ _) ?_
 refine QB rfl rfl rfl rfl rfl ?_
 refine zM ?_
 refine Qq 23 rfl rfl rfl ?_
 refine zK (Qa rfl Ul) ?_
 refine zK (Qc rfl Qm (fun hg=>by exact QA.h0 rfl)) ?_
 refine qg (vs:=[_,_,_]) rfl KO (fun hg=>Z1 I _ _ _) ?_
 refine QB rfl rfl rfl rfl rfl ?_
 refine zM ?_
 refine Qq 28 rfl rfl rfl ?_
 refine zK (Qa rfl Um) ?_
 refine zK (Qc rfl Qm (fun hg=>by exact QA.h0 rfl)) ?_
 refine qg (vs:=[_,_,_]) rfl KO (fun hg=>Z1 I _ _ _) ?_
 refine QB rfl rfl rfl rfl rfl ?_
 refine zM ?_
 refine Qq 33 rfl rfl rfl ?_
 refine zK (Qa rfl Ur) ?_
 refine zK (Qc rfl Qm (fun hg=>by exact QA.h0 rfl)) ?_
 refine qg (vs:=[_,_,_]) rfl KO (fun hg=>Z1 I _ _ _) ?_
 refine QB rfl rfl rfl rfl rfl ?_
 refine zM ?_
 refine Qq 38 rfl rfl rfl ?_
 refine zK (Qa rfl UA) ?_
 refine zK (Qc rfl Qm (fun hg=>by exact QA.h0 rfl)) ?_
 refine qg (vs:=[_,_,_]) rfl KO (fun hg=>Z1 I _ _ _) ?_
 refine QB rfl rfl rfl rfl rfl ?_
 refine zM ?_
 refine Qq 43 rfl rfl rfl ?_
 refine zK (Qa rfl Up) ?_
 refine zK (Qc rfl Qm (fun hg=>by exact QA.h0 rfl)) ?_
 refine qg (vs:=[_,_,_]) rfl KO (fun hg=>Z1 I _ _ _) ?_
 refine QB rfl rfl rfl rfl rfl ?_
 refine zM ?_
 refine Qq 48 rfl rfl rfl ?_
 refine zK (Qa rfl V8) ?_
 refine zK (Qg rfl Jh (fun hg=>by exact Cells.s0 (vs:=[_,_]) rfl) rfl) ?_
 refine zK (Qa rfl Je) ?_
 refine zK (Qg rfl Jh (fun hg=>by exact Cells.s0 (vs:=[_,_]) rfl) rfl) ?_
 refine qg (vs:=[_,_]) rfl zsH (fun hg=>zvu I _ _ _ _) ?_
 refine QB rfl rfl rfl rfl rfl ?_
 refine zA (zN (Qs ?_))
 exact zr rfl rfl kU
theorem zvf {I:Qu}{av:Option Addr}{n c:Nat}{xs:List Sg}(hS:Sl I 14 zfC av n c xs)(hn:n≤100000):ZA Tryz.prog 217 [.slice av n c] I (.int .i64 (zis xs)):=by
 intro g H w hw
 refine qe Tryz.func217 Tryz.ntmps217 hw ?_
 refine zR (zA (zN (Qo (zR ?_))))
 refine zM ?_
 refine zQ Un ?_
 refine zC (zN ?_)
 refine zI ?_ ?_<;>intro hc7
 ·
  have h6:xs.length>4096:=by rw [hS.len];simp at hc7;omega
  refine zR (zA (zN (Qs (Qf ?_))))
  first
  | exact zr rfl rfl (by unfold zis;rw [if_pos h6])
 have h6:¬xs.length>4096:=by rw [hS.len];simp at hc7;omega
 refine Qp (Qd (Qo (zR (zM ?_))))
 refine zQ Un ?_
 refine zM (zN (Qx ?_))
 refine zU [(0,_),(8,_),(9,_)] (fun T L0 mz E I' loc'=>∃ (k:Nat),mz=n-k∧E=(10,.int .i64 k)::T∧I=I'∧L0=loc'∧k≤n∧(List.range k).all (skP xs)=true) ?_ (h:=⟨0,rfl,rfl,rfl,rfl,Nat.zero_le _,rfl⟩)
 rintro mz E I' loc' ⟨k,rfl,rfl,rfl,rfl,hk,hall⟩
 refine zR (zC (zN (Qo ?_)))
 refine zI ?_ ?_<;>intro hc11
 ·
  have hlt_k:k<n:=by have h:=hc11;simp at h;omega
  obtain ⟨x,hx⟩:=hS.at hlt_k
  refine Qp (Qd (Qo (Qx (zR (zM ?_)))))
  refine zV (QE rfl rfl Un kJ (fun hg=>kB)) ?_
  refine zV (Qg rfl ZC (fun hg=>by exact zz5 hS hx) rfl) ?_
  refine Qr ziN rfl rfl (fun b_4=>?_)
  refine zA ?_
  refine zh Jj ?_
  refine zN (Qo ?_)
  refine Xt mixed kA ?_
  refine zq (Qg rfl ZC (fun hg=>by exact Cells.g0) rfl) ?_
  refine UO (cap:=[]) (vs:=[_]) rfl rfl zsV (zyN I _) rfl rfl ?_
  refine zq (Zs rfl) ?_
  refine zq (Qe rfl) ?_
  refine V1 3 rfl rfl rfl ?_
  refine zj (Qe rfl) ?_
  refine zj (Qz rfl rfl rfl) ?_
  refine zj (Qe rfl) ?_
  refine VM 6 rfl rfl rfl ?_
  refine zk (Qe rfl) ?_
  refine zk (Qe rfl) ?_
  refine zk (YE rfl rfl rfl (fun hg=>kB)) ?_
  refine zk (QE rfl rfl Un kJ (fun hg=>by (simp [Yf] at hg;omega))) ?_
  refine zk (Qa rfl Jv) ?_
  refine zk (Qc rfl Qm (fun hg=>by exact zzX (k:=((k:Int)-1).toNat) hS (K7 (d:=JP) hS.len (by simp [Yf] at hg;omega)) rfl)) ?_
  refine zk (Qa rfl Jv) ?_
  refine zk (Qc rfl Qm (fun hg=>by exact QA.h0 rfl)) ?_
  refine zk (Qz rfl rfl rfl) ?_
  refine zby rfl rfl rfl (.some rfl rfl rfl rfl gbf) rfl rfl ?_
  refine UX rfl rfl rfl rfl rfl ?_
  refine Xw ?_
  refine Qd ?_
  refine zI ?_ ?_<;>intro hc32
  ·
   refine zR (zA (zN (Qs (Qk (Qf (Qf (Qk ?_)))))))
   refine Qf ?_
   first
   | exact zr rfl rfl (by unfold zis skB;rw [if_neg h6,JN (k:=k) (by rw [hS.len];exact hlt_k) (by rw [zhx hx,hc32];rfl)];rfl)
  refine Qp (Qj (Qd (Qi (zB ?_))))
  refine zM (Qb ?_)
  exact zm (h:=⟨n-(k+1),kB,k+1,rfl,rfl,rfl,rfl,kB,VU hall (by rw [zhx hx,hc32];rfl)⟩)
 have hge_k:n≤k:=by have h:=hc11;simp at h;omega
 refine Q6 (Qn (Qn (Qw (Qd (zR (zA (zN ?_)))))))
 refine Qs ?_
 first
 | exact zr rfl rfl (by unfold zis skB;rw [if_neg h6,hS.len,show n=k by omega,hall];rfl)
theorem zbr (I:Qu)(b:Nat):ZA Tryz.prog 216 [Zw b] I (.agg (zy9 b).toArray):=by
 intro g H w hw
 refine qe Tryz.func216 Tryz.ntmps216 hw ?_
 refine zR ?_
 refine Qr zqg rfl rfl (fun b_2=>?_)
 refine zN (Qo ?_)
 have hD:=zz4 I
 refine Zn ?_
 refine QL I [] mixed ?_
 refine zT 0 rfl (Qe rfl) hD ?_
 refine zT 1 rfl (QG rfl) hD ?_
 refine zT 2 rfl (Qa rfl Uy) hD ?_
 refine zT 3 rfl (Qe rfl) hD ?_
 refine zT 4 rfl (QG rfl) hD ?_
 refine zT 5 rfl (Qa rfl Ux) hD ?_
 refine zT 6 rfl (Qe rfl) hD ?_
 refine zT 7 rfl (QG rfl) hD ?_
 refine zT 8 rfl (Qa rfl Uk) hD ?_
 refine zT 9 rfl (Qe rfl) hD ?_
 refine zT 10 rfl (QG rfl) hD ?_
 refine zT 11 rfl (Qa rfl Ul) hD ?_
 refine zT 12 rfl (Qe rfl) hD ?_
 refine zT 13 rfl (QG rfl) hD ?_
 refine zT 14 rfl (Qa rfl Um) hD ?_
 refine zT 15 rfl (Qe rfl) hD ?_
 refine zT 16 rfl (QG rfl) hD ?_
 refine zT 17 rfl (Qa rfl Ur) hD ?_
 refine zT 18 rfl (Qe rfl) hD ?_
 refine zT 19 rfl (QG rfl) hD ?_
 refine zT 20 rfl (Qa rfl UA) hD ?_
 refine zT 21 rfl (Qe rfl) hD ?_
 refine zT 22 rfl (QG rfl) hD ?_
 refine zT 23 rfl (Qa rfl Up) hD ?_
 refine zT 24 rfl (Vr (ps:=[(1,_),(2,_),(3,_),(4,_),(5,_),(6,_),(7,_),(8,_)]) [_,_,_,_,_,_,_,_,_] WW zqg rfl rfl) hD ?_
 refine qd 25 rfl ?_
 refine zh zsJ ?_
 refine Qb ?_
 refine zD hD ?_
 refine Ql kA ?_
 refine Qt ?_
 refine Qd (Qs ?_)
 exact ZX rfl rfl ztY Cells.g0 rfl (fun w hw=>⟨rfl,hw.drop⟩)
theorem zuZ (I:Qu)(x:Sg)(f:Int)(y:Sg)(hf:isF f):ZA Tryz.prog 161 [WD x,.int .i64 f,WD y] I (WD (KZ x f y)):=by
 intro g H w hw
 refine qe Tryz.func161 Tryz.ntmps161 hw ?_
 refine zR ?_
 refine QO rfl rfl rfl (fun b_3=>?_)
 refine QO rfl rfl rfl (fun b_5=>?_)
 refine Qr ziN rfl rfl (fun b_6=>?_)
 refine zN (Qo (zR (zM ?_)))
 refine zC (zN ?_)
 refine zI ?_ ?_<;>intro hc8
 ·
  have hf9:f=9:=by simpa using hc8
  refine zR ?_
  refine zF V8 ?_
  refine zV (Qg rfl Jh (fun hg=>by exact Cells.s1 (vs:=[_,_]) rfl) rfl) ?_
  refine zF Je ?_
  refine zV (Qg rfl Jh (fun hg=>by exact Cells.s1 (vs:=[_,_]) rfl) rfl) ?_
  refine zF V8 ?_
  refine Vd rfl rfl zic rfl rfl rfl rfl (by repeat (first | exact Upd.here | apply Upd.there | apply ZE)) ?_
  refine zF Je ?_
  refine Vd rfl rfl zic rfl rfl rfl rfl (by repeat (first | exact Upd.here | apply Upd.there | apply ZE)) ?_
  refine zN (zR ?_)
  refine zV (Qg rfl ZC (fun hg=>by exact Cells.g2) rfl) ?_
  refine zh Jj ?_
  refine zN (Qs (Qf ?_))
  first
  | exact ZX rfl rfl ZC Cells.g0 rfl (fun w hw=>⟨by rw [hf9];rfl,hw.drop⟩)
 have hf8:1≤f∧f≤8:=by have h:=hc8;unfold isF at hf;simp at h;omega
 refine Qp (Qd (Qo ?_))
 have hD:=zz4 I
 refine Zn ?_
 refine QL I [(b_5,.cells (WD y).cells 36 (0,0))] mixed ?_
 refine zT 1 rfl (Qe rfl) hD ?_
 refine zT 4 rfl (Qe rfl) hD ?_
 refine qd 0 rfl ?_
 refine qcV (vs:=[_]) rfl zgy (zbr I _) ?_
 refine Qb ?_
 refine zD hD ?_
 refine QS 2 3 rfl rfl kA ?_ ?_
 ·
  refine zV (KN rfl rfl WW UH (fun hg=>kB) (fun hg=>zc0 hf8 b_3)) ?_
  refine Qb ?_
  refine zD hD ?_
  refine qd 3 rfl ?_
  refine qcV (vs:=[_]) rfl zgy (zbr I _) ?_
  refine Qb ?_
  refine zD hD ?_
  refine qd 5 rfl ?_
  refine zV (KN rfl rfl WW UH (fun hg=>kB) (fun hg=>zc0 hf8 b_5)) ?_
  refine Qb ?_
  refine zD hD ?_
  refine zT 6 rfl (QG rfl) hD ?_
  refine zT 7 rfl (Qc rfl Qm (fun hg=>by exact QA.h0 (zf7 hf8 y))) hD ?_
  refine zT 8 rfl (QG rfl) hD ?_
  refine qd 9 rfl ?_
  refine Kh rfl rfl Wj rfl rfl Upd.u2 (by exact zuy) ?_
  rw [show (WD x).cells.setIfInBounds (foF f) (.int .i64 (zw3 y f))=(zfC (KZ x f y)).toArray from zmm hf8 x y]
  refine Qb ?_
  refine zD hD ?_
  refine Ql kA ?_
  refine Qt ?_
  refine Qd (zR ?_)
  refine zV (Qg rfl ZC (fun hg=>by exact Cells.g2) rfl) ?_
  refine zh Jj ?_
  refine zN (Qs ?_)
  exact ZX rfl rfl ZC Cells.g0 rfl (fun w hw=>⟨rfl,hw.drop⟩)
 refine qcV (vs:=[_]) rfl zgy (zbr I _) ?_
 refine Qb ?_
 refine zD hD ?_
 refine QS 2 5 rfl rfl kA ?_ ?_
 ·
  refine zV (KN rfl rfl WW UH (fun hg=>kB) (fun hg=>zc0 hf8 b_3)) ?_
  refine Qb ?_
  refine zD hD ?_
  refine qd 5 rfl ?_
  refine zV (KN rfl rfl WW UH (fun hg=>kB) (fun hg=>zc0 hf8 b_5)) ?_
  refine Qb ?_
  refine zD hD ?_
  refine zT 6 rfl (QG rfl) hD ?_
  refine zT 7 rfl (Qc rfl Qm (fun hg=>by exact QA.h0 (zf7 hf8 y))) hD ?_
  refine zT 8 rfl (QG rfl) hD ?_
  refine qd 9 rfl ?_
  refine Kh rfl rfl Wj rfl rfl Upd.u2 (by exact zuy) ?_
  rw [show (WD x).cells.setIfInBounds (foF f) (.int .i64 (zw3 y f))=(zfC (KZ x f y)).toArray from zmm hf8 x y]
  refine Qb ?_
  refine zD hD ?_
  refine Ql kA ?_
  refine Qt ?_
  refine Qd (zR ?_)
  refine zV (Qg rfl ZC (fun hg=>by exact Cells.g2) rfl) ?_
  refine zh Jj ?_
  refine zN (Qs ?_)
  exact ZX rfl rfl ZC Cells.g0 rfl (fun w hw=>⟨rfl,hw.drop⟩)
 refine zV (KN rfl rfl WW UH (fun hg=>kB) (fun hg=>zc0 hf8 b_5)) ?_
 refine Qb ?_
 refine zD hD ?_
 refine zT 6 rfl (QG rfl) hD ?_
 refine zT 7 rfl (Qc rfl Qm (fun hg=>by exact QA.h0 (zf7 hf8 y))) hD ?_
 refine qd 2 rfl ?_
 refine zV (KN rfl rfl WW UH (fun hg=>kB) (fun hg=>zc0 hf8 b_3)) ?_
 refine Qb ?_
 refine zD hD ?_
 refine zT 8 rfl (QG rfl) hD ?_
 refine qd 9 rfl ?_
 refine Kh rfl rfl Wj rfl rfl Upd.u2 (by exact zuy) ?_
 rw [show (WD x).cells.setIfInBounds (foF f) (.int .i64 (zw3 y f))=(zfC (KZ x f y)).toArray from zmm hf8 x y]
 refine Qb ?_
 refine zD hD ?_
 refine Ql kA ?_
 refine Qt ?_
 refine Qd (zR ?_)
 refine zV (Qg rfl ZC (fun hg=>by exact Cells.g2) rfl) ?_
 refine zh Jj ?_
 refine zN (Qs ?_)
 exact ZX rfl rfl ZC Cells.g0 rfl (fun w hw=>⟨rfl,hw.drop⟩)
end
section
open Go Go.Kn
def KU (zs:List Int):List Int:=zs.mergeSort fun x y=>decide (x≤y)
theorem KM (zs:List Int):zs.flatMap Z5=zs.map (Value.int .i64):=by
 induction zs with
 | nil=>rfl
 | cons z zs ih=>rw [List.flatMap_cons,ih];rfl
end
section
open Go Go.Kn Go.Proofs
theorem ztN (i j:Nat)(h:i+j≤1000000):IntKind.i64.wrap ((IntKind.u64.wrap ((i:Int)+(j:Int))).fdiv (2^1))=(((i+j) / 2:Nat):Int):=by
 have h1:IntKind.u64.wrap ((i:Int)+(j:Int))=((i+j:Nat):Int):=by
  rw [show ((i:Int)+(j:Int))=((i+j:Nat):Int) by omega]
  exact zmJ ⟨kB,kB⟩
 rw [h1,show ((2:Int)^1)=((2:Nat):Int) from rfl,Int.fdiv_eq_ediv_of_nonneg _ kB,←Int.natCast_ediv]
 exact zdL ⟨kB,kB⟩
section
variable {α:Type} {key:α→Int} {xs:List α} {t:Int}
end
instance : Inhabited Sg := ⟨JP⟩
end
end Go.Proofs.YtjblkbkmblkgoaaGreat
namespace Go.Proofs
section
open Go.Shelf
def Tryz.lays106_ren:Go.Shelf.Ren:=⟨fun | 106=>154 | 213=>209 | 265=>259 | n=>n,fun | 9=>9 | 3=>3 | n=>n,fun | n=>n⟩
theorem Tryz.lays106:Go.Proofs.Lays.n106 Tryz.prog Tryz.lays106_ren:={
 mixed:=kA
 f106:=Tryz.func154.trans (congrArg some kA)
 f213:=Tryz.func209.trans (congrArg some kA)
 f265:=Tryz.func259.trans (congrArg some kA)
 t3:=Tryz.underlying3
 a3:=Tryz.isAgg3
 z3:=Tryz.sizeOf3
 v3:=Tryz.zeroValue3
 t9:=Tryz.underlying9
 a9:=Tryz.isAgg9
 z9:=Tryz.sizeOf9
 v9:=Tryz.zeroValue9}
open Go.RowKit in
theorem Tryz.strings_Compare (a b:ByteArray) (w:World):
  Calls Tryz.prog 154 #[.string a,.string b] w fun e w'=>e= .returned (.int .i64 (Lib.compareBytes a.data.toList b.data.toList))∧w'=w:=Any.strings_Compare Tryz.lays106 a b w
def Tryz.lays189_ren:Go.Shelf.Ren:=⟨fun | 189=>135 | 125=>153 | 257=>188 | 128=>207 | 129=>208 | 294=>236 | 295=>237 | 296=>238 | 297=>239 | 298=>240 | 299=>241 | 216=>242 | 300=>243 | 301=>244 | 328=>264 | 329=>255 | 330=>256 | 331=>265 | 332=>266 | 215=>229 | 343=>274 | n=>n,fun | 28=>37 | 3=>3 | 46=>216 | 0=>0 | 51=>274 | 53=>276 | 4=>4 | 183=>268 | 182=>267 | 131=>150 | 5=>5 | 9=>9 | 218=>306 | 222=>184 | 228=>318 | 229=>319 | n=>n,fun | n=>n⟩
theorem Tryz.lays189:Go.Proofs.Lays.n189 Tryz.prog Tryz.lays189_ren:={
 mixed:=kA
 f125:=Tryz.func153.trans (congrArg some kA)
 f128:=Tryz.func207.trans (congrArg some kA)
 f129:=Tryz.func208.trans (congrArg some kA)
 f189:=Tryz.func135.trans (congrArg some kA)
 f215:=Tryz.func229.trans (congrArg some kA)
 f216:=Tryz.func242.trans (congrArg some kA)
 f257:=Tryz.func188.trans (congrArg some kA)
 f294:=Tryz.func236.trans (congrArg some kA)
 f295:=Tryz.func237.trans (congrArg some kA)
 f296:=Tryz.func238.trans (congrArg some kA)
 f297:=Tryz.func239.trans (congrArg some kA)
 f298:=Tryz.func240.trans (congrArg some kA)
 f299:=Tryz.func241.trans (congrArg some kA)
 f300:=Tryz.func243.trans (congrArg some kA)
 f301:=Tryz.func244.trans (congrArg some kA)
 f328:=Tryz.func264.trans (congrArg some kA)
 f329:=Tryz.func255.trans (congrArg some kA)
 f330:=Tryz.func256.trans (congrArg some kA)
 f331:=Tryz.func265.trans (congrArg some kA)
 f332:=Tryz.func266.trans (congrArg some kA)
 f343:=Tryz.func274.trans (congrArg some kA)
 t0:=Tryz.underlying0
 a0:=Tryz.isAgg0
 z0:=Tryz.sizeOf0
 v0:=Tryz.zeroValue0
 t3:=Tryz.underlying3
 a3:=Tryz.isAgg3
 z3:=Tryz.sizeOf3
 v3:=Tryz.zeroValue3
 t4:=Tryz.underlying4
 a4:=Tryz.isAgg4
 z4:=Tryz.sizeOf4
 v4:=Tryz.zeroValue4
 t5:=Tryz.underlying5
 a5:=Tryz.isAgg5
 z5:=Tryz.sizeOf5
 v5:=Tryz.zeroValue5
 t9:=Tryz.underlying9
 a9:=Tryz.isAgg9
 z9:=Tryz.sizeOf9
 v9:=Tryz.zeroValue9
 t28:=Tryz.underlying37
 a28:=Tryz.isAgg37
 z28:=Tryz.sizeOf37
 v28:=Tryz.zeroValue37
 t46:=Tryz.underlying216
 a46:=Tryz.isAgg216
 z46:=Tryz.sizeOf216
 v46:=Tryz.zeroValue216
 t51:=Tryz.underlying274
 a51:=Tryz.isAgg274
 z51:=Tryz.sizeOf274
 v51:=Tryz.zeroValue274
 t53:=Tryz.underlying276
 a53:=Tryz.isAgg276
 z53:=Tryz.sizeOf276
 v53:=Tryz.zeroValue276
 t131:=Tryz.underlying150
 a131:=Tryz.isAgg150
 z131:=Tryz.sizeOf150
 v131:=Tryz.zeroValue150
 t182:=Tryz.underlying267
 a182:=Tryz.isAgg267
 z182:=Tryz.sizeOf267
 v182:=Tryz.zeroValue267
 t183:=Tryz.underlying268
 a183:=Tryz.isAgg268
 z183:=Tryz.sizeOf268
 v183:=Tryz.zeroValue268
 t218:=Tryz.underlying306
 a218:=Tryz.isAgg306
 z218:=Tryz.sizeOf306
 v218:=Tryz.zeroValue306
 t222:=Tryz.underlying184
 a222:=Tryz.isAgg184
 z222:=Tryz.sizeOf184
 v222:=Tryz.zeroValue184
 t228:=Tryz.underlying318
 a228:=Tryz.isAgg318
 z228:=Tryz.sizeOf318
 v228:=Tryz.zeroValue318
 t229:=Tryz.underlying319
 a229:=Tryz.isAgg319
 z229:=Tryz.sizeOf319
 v229:=Tryz.zeroValue319}
open Go.Sort Go.RowKit in
theorem Tryz.slices_Sort_int (blk off cap:Nat) (zs:List Int) (w:World) (hH:Holds (Value.int .i64) w blk off zs.toArray) (hblk:blk<w.heap.size) (hsz:zs.length<4611686018427387904):
  Calls Tryz.prog 135 #[.slice (some ⟨blk,off,none⟩) zs.length cap] w fun e w'=>
   e= .returned (.tuple #[])∧∃ n os,w'=grow (putRow (Value.int .i64) (Sort.ahead w n) blk off (zs.mergeSort fun x y=>decide (x≤y)).toArray) os:=Any.slices_Sort_int Tryz.lays189 blk off cap zs w hH hblk hsz
open Go.RowKit Go.Sort in
theorem Tryz.slices_Sort_int_none (p:Option Addr) (cap:Nat) (w:World):
  Calls Tryz.prog 135 #[.slice p 0 cap] w fun e w'=>e= .returned (.tuple #[])∧w'=w:=Any.slices_Sort_int_none Tryz.lays189 p cap w
def Tryz.laysSlF06_f80_ren:Go.Shelf.Ren:=⟨fun | 6=>80 | 15=>153 | 14=>152 | 28=>207 | 29=>208 | 20=>199 | 21=>200 | 22=>201 | 23=>202 | 24=>203 | 25=>204 | 26=>205 | 27=>206 | 46=>254 | 47=>255 | 48=>256 | 49=>257 | 50=>258 | 57=>268 | n=>n,fun | 22=>57 | 24=>45 | 25=>128 | 3=>3 | 39=>216 | 0=>0 | 53=>274 | 55=>276 | 4=>4 | 46=>268 | 45=>267 | 50=>150 | 5=>5 | 9=>9 | 66=>306 | 70=>184 | 76=>318 | 77=>319 | n=>n,fun | n=>n⟩
theorem Tryz.laysSlF06_f80:Go.Proofs.SlLaysF0.n6 Tryz.prog Tryz.laysSlF06_f80_ren:={
 mixed:=kA
 f6:=⟨Tryz.f80.name,by decide,Tryz.func80.trans (congrArg some kA)⟩
 f14:=⟨Tryz.f152.name,by decide,Tryz.func152.trans (congrArg some kA)⟩
 f15:=Tryz.func153.trans (congrArg some kA)
 f20:=⟨Tryz.f199.name,by decide,Tryz.func199.trans (congrArg some kA)⟩
 f21:=⟨Tryz.f200.name,by decide,Tryz.func200.trans (congrArg some kA)⟩
 f22:=⟨Tryz.f201.name,by decide,Tryz.func201.trans (congrArg some kA)⟩
 f23:=⟨Tryz.f202.name,by decide,Tryz.func202.trans (congrArg some kA)⟩
 f24:=⟨Tryz.f203.name,by decide,Tryz.func203.trans (congrArg some kA)⟩
 f25:=⟨Tryz.f204.name,by decide,Tryz.func204.trans (congrArg some kA)⟩
 f26:=⟨Tryz.f205.name,by decide,Tryz.func205.trans (congrArg some kA)⟩
 f27:=⟨Tryz.f206.name,by decide,Tryz.func206.trans (congrArg some kA)⟩
 f28:=Tryz.func207.trans (congrArg some kA)
 f29:=Tryz.func208.trans (congrArg some kA)
 f46:=⟨Tryz.f254.name,by decide,Tryz.func254.trans (congrArg some kA)⟩
 f47:=Tryz.func255.trans (congrArg some kA)
 f48:=Tryz.func256.trans (congrArg some kA)
 f49:=⟨Tryz.f257.name,by decide,Tryz.func257.trans (congrArg some kA)⟩
 f50:=⟨Tryz.f258.name,by decide,Tryz.func258.trans (congrArg some kA)⟩
 f57:=⟨Tryz.f268.name,by decide,Tryz.func268.trans (congrArg some kA)⟩
 t0:=Tryz.underlying0
 a0:=Tryz.isAgg0
 z0:=Tryz.sizeOf0
 v0:=Tryz.zeroValue0
 t3:=Tryz.underlying3
 a3:=Tryz.isAgg3
 z3:=Tryz.sizeOf3
 v3:=Tryz.zeroValue3
 t4:=Tryz.underlying4
 a4:=Tryz.isAgg4
 z4:=Tryz.sizeOf4
 v4:=Tryz.zeroValue4
 t5:=Tryz.underlying5
 a5:=Tryz.isAgg5
 z5:=Tryz.sizeOf5
 v5:=Tryz.zeroValue5
 t9:=Tryz.underlying9
 a9:=Tryz.isAgg9
 z9:=Tryz.sizeOf9
 v9:=Tryz.zeroValue9
 t22:=Tryz.underlying57
 a22:=Tryz.isAgg57
 z22:=Tryz.sizeOf57
 v22:=Tryz.zeroValue57
 t25:=Tryz.underlying128
 a25:=Tryz.isAgg128
 z25:=Tryz.sizeOf128
 v25:=Tryz.zeroValue128
 t39:=Tryz.underlying216
 a39:=Tryz.isAgg216
 z39:=Tryz.sizeOf216
 v39:=Tryz.zeroValue216
 t45:=Tryz.underlying267
 a45:=Tryz.isAgg267
 z45:=Tryz.sizeOf267
 v45:=Tryz.zeroValue267
 t46:=Tryz.underlying268
 a46:=Tryz.isAgg268
 z46:=Tryz.sizeOf268
 v46:=Tryz.zeroValue268
 t50:=Tryz.underlying150
 a50:=Tryz.isAgg150
 z50:=Tryz.sizeOf150
 v50:=Tryz.zeroValue150
 t53:=Tryz.underlying274
 a53:=Tryz.isAgg274
 z53:=Tryz.sizeOf274
 v53:=Tryz.zeroValue274
 t55:=Tryz.underlying276
 a55:=Tryz.isAgg276
 z55:=Tryz.sizeOf276
 v55:=Tryz.zeroValue276
 t66:=Tryz.underlying306
 a66:=Tryz.isAgg306
 z66:=Tryz.sizeOf306
 v66:=Tryz.zeroValue306
 t70:=Tryz.underlying184
 a70:=Tryz.isAgg184
 z70:=Tryz.sizeOf184
 v70:=Tryz.zeroValue184
 t76:=Tryz.underlying318
 a76:=Tryz.isAgg318
 z76:=Tryz.sizeOf318
 v76:=Tryz.zeroValue318
 t77:=Tryz.underlying319
 a77:=Tryz.isAgg319
 z77:=Tryz.sizeOf319
 v77:=Tryz.zeroValue319}
open Go.RowKit Go.Lib Go.Sort in
theorem Tryz.slices_SortFunc {α:Type} [Inhabited α] (k:Nat) (aE:∀ w,(isAgg (Tryz.laysSlF06_f80_ren.t 24)).run Tryz.prog w= .ok true w) (zE:∀ w,(Go.sizeOf (Tryz.laysSlF06_f80_ren.t 24)).run Tryz.prog w= .ok k w) (enc:α→List Value) (hk:∀ x,(enc x).length=k) (h1:∀ x,∀ v∈enc x,v.oneCell'=true) (cf:α→α→Int) (hO:SWO (ltOf cf)) (g:Nat) (cb:Array Value) (blk off cap:Nat) (d:Array α) (w:World) (eg:∀ args w,(callFunc g args).run Tryz.prog w= .ok (.enter g args) w) (hcmp:CmpLays Tryz.prog g cb enc k cf blk off d.size w) (hH:HoldsK enc k w blk off d) (hblk:blk<w.heap.size) (hsz:d.size<4611686018427387904):
  Calls Tryz.prog 80 #[.slice (some ⟨blk,off,none⟩) d.size cap,.func (.func g) #[] cb] w fun e w'=>
   e= .returned (.tuple #[])∧∃ d' n os,PermIn 0 d.size d d'∧SortedIn (ltOf cf) 0 d.size d'∧w'=sortWorldK enc k w blk off n d' os:=AnyQ.slices_SortFunc Tryz.laysSlF06_f80 k aE zE enc hk h1 cf hO g cb blk off cap d w eg hcmp hH hblk hsz
open Go.RowKit Go.Lib Go.Sort in
theorem Tryz.slices_SortFunc_none {α:Type} [Inhabited α] (p:Option Addr) (cap:Nat) (fv:Value) (w:World):
  Calls Tryz.prog 80 #[.slice p 0 cap,fv] w fun e w'=>e= .returned (.tuple #[])∧w'=w:=AnyF.slices_SortFunc_none Tryz.laysSlF06_f80 p cap fv w
end
end Go.Proofs
namespace Go.Proofs.YtjblkbkmblkgoaaGreat
section
open Go Go.Kn Go.Proofs
theorem zgO (e:Nat)(zs:List Int){v:Value}{n:Nat}{L:Go.Kn.Loc}(hO:ZW e 1 v n (zs.map (Value.int .i64)) L)(hn:n≤1000000)(I:Qu):
  Vs Tryz.prog 135 [v] I L (fun u I' L'=>u= .tuple #[]∧I'=I∧ZW e 1 v n ((KU zs).map (Value.int .i64)) L'):=
 zrP Tryz.slices_Sort_int Tryz.slices_Sort_int_none zs hO hn I
end
section
open Go Go.Kn Go.Proofs
def zpG (b:Nat):Value:=.map (some b)
structure zfz (s:List (Int×Bool))(A:Int→Bool):Prop where
 nodup:(s.map (·.1)).Nodup
 all:∀ q∈s,q.2=true
 mem:∀ x,znB s x=A x
theorem zfz.nil:zfz [] (fun _=>false):=⟨.nil,(fun q hq=>by cases hq),fun _=>rfl⟩
theorem zfz.put {s:List (Int×Bool)}{A:Int→Bool}(h:zfz s A)(a:Int):zfz (Jr s a true) (fun x=>decide (a=x)||A x) where
 nodup:=ziQ a true h.nodup
 all:=by
  have key:∀ (s:List (Int×Bool)),(∀ q∈s,q.2=true)→∀ q∈Jr s a true,q.2=true:=by
   intro s
   induction s with
   | nil=>intro _ q hq;simp [Jr] at hq;rw [hq]
   | cons p s ih=>
    intro h q hq
    unfold Jr at hq
    split at hq
    ·
     rcases List.mem_cons.1 hq with rfl | hq
     ·
      rfl
     ·
      exact h q (List.mem_cons_of_mem _ hq)
    ·
     rcases List.mem_cons.1 hq with rfl | hq
     ·
      exact h _ (List.mem_cons_self ..)
     ·
      exact ih (fun q hq=>h q (List.mem_cons_of_mem _ hq)) q hq
  exact key s h.all
 mem:=fun x=>by rw [zg2,h.mem]
theorem zfz.congr {s:List (Int×Bool)}{A B:Int→Bool}(h:zfz s A)(e:∀ x,A x=B x):zfz s B:=⟨h.nodup,h.all,fun x=>by rw [h.mem,e]⟩
theorem zfz.key {s:List (Int×Bool)}{A:Int→Bool}(h:zfz s A){x:Int}:A x=true↔x∈s.map (·.1):=by
 rw [←h.mem]
 unfold znB
 constructor
 ·
  intro h1
  cases hg:Zt s x with
  | none=>rw [hg] at h1;cases h1
  | some b=>exact List.mem_map.2 ⟨_,Wa hg,rfl⟩
 ·
  intro h1
  obtain ⟨q,hq,rfl⟩:=List.mem_map.1 h1
  rw [zrW h.nodup hq,h.all q hq];rfl
def OnS (I:Qu)(ref:Nat)(A:Int→Bool):Prop:=∃ s:List (Int×Bool),I ref=some (Yo (Value.int .i64) Value.bool s)∧zfz s A
theorem OnS.mono {I I':Qu}{ref:Nat}{A:Int→Bool}(h:OnS I ref A)(hI:HLe I I'):OnS I' ref A:=by
 obtain ⟨s,h1,h2⟩:=h
 exact ⟨s,hI _ _ h1,h2⟩
def OnL (I:Qu)(m:List (Int×Nat))(ps:List Pt):Prop:=m.map (·.1)=ps.map (·.id)∧∀ q∈m,OnS I q.2 (onF ps q.1)
theorem OnL.mono {I I':Qu}{m:List (Int×Nat)}{ps:List Pt}(h:OnL I m ps)(hI:HLe I I'):OnL I' m ps:=⟨h.1,fun q hq=>(h.2 q hq).mono hI⟩
theorem OnL.nil {I:Qu}{ps:List Pt}:OnL I [] (ps.take 0):=⟨by simp,fun q hq=>by cases hq⟩
def OnM (I:Qu)(r:Nat)(ps:List Pt):Prop:=∃ m:List (Int×Nat),I r=some (Yo (Value.int .i64) zpG m)∧OnL I m ps
theorem OnM.mono {I I':Qu}{r:Nat}{ps:List Pt}(h:OnM I r ps)(hI:HLe I I'):OnM I' r ps:=by
 obtain ⟨m,h1,h2⟩:=h
 exact ⟨m,hI _ _ h1,h2.mono hI⟩
theorem OnL.get {I:Qu}{m:List (Int×Nat)}{ps:List Pt}(h:OnL I m ps){a:Int}(ha:∃ q∈ps,q.id=a):∃ ref,Zt m a=some ref∧OnS I ref (onF ps a):=by
 cases hg:Zt m a with
 | none=>
  have:=zbx.1 hg
  rw [h.1] at this
  obtain ⟨q,hq,rfl⟩:=ha
  exact absurd (List.mem_map.2 ⟨q,hq,rfl⟩) this
 | some ref=>exact ⟨ref,rfl,h.2 _ (Wa hg)⟩
theorem Lst.before {ps:List Pt}(h:Lst ps){k:Nat}{p:Pt}(hk:ps[k]? =some p){n:Int}(hn:n∈p.needs):∃ q∈ps.take k,q.id=n:=by
 obtain ⟨h1,q,hq,rfl⟩:=h.has p (List.mem_of_getElem? hk) n hn
 obtain ⟨j,hj⟩:=List.getElem?_of_mem hq
 obtain ⟨hj1,hj2⟩:=List.getElem?_eq_some_iff.1 hj
 obtain ⟨hk1,hk2⟩:=List.getElem?_eq_some_iff.1 hk
 have hjk:j<k:=by
  rcases Nat.lt_or_ge j k with h3 | h3
  ·
   exact h3
  ·
   exfalso
   by_cases e:k=j
   ·
    subst e;rw [hk] at hj;cases hj;omega
   ·
    have:=List.pairwise_iff_getElem.1 h.inc k j hk1 hj1 kB
    rw [hj2,hk2] at this;omega
 refine ⟨q,?_,rfl⟩
 rw [List.mem_take_iff_getElem]
 exact ⟨j,kB,hj2⟩
theorem Lst.fresh {ps:List Pt}(h:Lst ps){k:Nat}{p:Pt}(hk:ps[k]? =some p):∀ q∈ps.take k,q.id<p.id:=fun q hq=>by
 obtain ⟨j,hj,rfl⟩:=List.mem_take_iff_getElem.1 hq
 obtain ⟨hk1,hk2⟩:=List.getElem?_eq_some_iff.1 hk
 have:=List.pairwise_iff_getElem.1 h.inc j k kB hk1 kB
 rw [hk2] at this;exact this
theorem OnL.step {I:Qu}{m:List (Int×Nat)}{ps:List Pt}{k ref:Nat}{p:Pt}{s:List (Int×Bool)}(hL:Lst ps)(hk:ps[k]? =some p)(hm:OnL I m (ps.take k))(hb:I ref=some (Yo (Value.int .i64) Value.bool s))
  (hs:zfz s (fun x=>p.needs.any fun n=>n==x||onF (ps.take k) n x)):OnL I (Jr m p.id ref) (ps.take (k+1)):=by
 have hfr:=hL.fresh hk
 have hnew:p.id∉m.map (·.1):=by
  rw [hm.1]
  intro h
  obtain ⟨q,hq,e⟩:=List.mem_map.1 h
  have:=hfr q hq;omega
 have hmi:Jr m p.id ref=m++[(p.id,ref)]:=by
  refine zc9 m p.id ref 0 ?_
  have:=zbx.2 hnew
  rw [←zbc m p.id 0] at this
  simpa using this
 rw [XI hk]
 refine ⟨by rw [zb6,if_neg hnew,hm.1];simp,fun q hq=>?_⟩
 rw [hmi] at hq
 rcases List.mem_append.1 hq with hq | hq
 ·
  obtain ⟨s',h1,h2⟩:=hm.2 q hq
  refine ⟨s',h1,h2.congr fun x=>?_⟩
  have hne:q.1≠p.id:=fun e=>hnew (by rw [←e];exact List.mem_map.2 ⟨q,hq,rfl⟩)
  rw [zhp (fun z hz=>by simp at hz;subst hz;exact fun e=>hne e.symm)]
 ·
  simp at hq;subst hq
  refine ⟨s,hb,hs.congr fun x=>?_⟩
  exact (zee (fun z hz=>by cases hz)).symm
def zr6 (sn:List (Int×Bool))(seen:List Nat)(x:Int):Bool:=seen.any fun i=>(sn[i]?.map (·.1))==some x
theorem znN (sn:List (Int×Bool))(x:Int):zr6 sn [] x=false:=rfl
theorem zlF {sn:List (Int×Bool)}{seen:List Nat}{i:Nat}{p:Int×Bool}(hp:sn[i]? =some p)(x:Int):zr6 sn (seen++[i]) x=(decide (p.1=x)||zr6 sn seen x):=by
 unfold zr6
 rw [List.any_append,Bool.eq_iff_iff]
 simp [hp,or_comm]
theorem zpX {sn:List (Int×Bool)}{A:Int→Bool}(h:zfz sn A){seen:List Nat}(hall:∀ i p,sn[i]? =some p→i∈seen)(x:Int):zr6 sn seen x=A x:=by
 rw [Bool.eq_iff_iff,h.key]
 unfold zr6
 rw [List.any_eq_true]
 constructor
 ·
  rintro ⟨i,_,hi⟩
  cases hx:sn[i]? with
  | none=>rw [hx] at hi;simp at hi
  | some p=>rw [hx] at hi;simp at hi;exact List.mem_map.2 ⟨p,List.mem_of_getElem? hx,hi⟩
 ·
  intro hx
  obtain ⟨p,hp,rfl⟩:=List.mem_map.1 hx
  obtain ⟨i,hi⟩:=List.getElem?_of_mem hp
  exact ⟨i,hall i p hi,by rw [hi];simp⟩
end
section
open Go Go.Kn Go.Proofs
theorem zo7 {I:Qu}{av:Option Addr}{n c:Nat}{ps:List Pt}(hP:SlP I av n c ps)(hn:n≤100000)(hL:Lst ps)(hnd:∀ p∈ps,p.n≤100000):Vs Tryz.prog 99 [.slice av n c] I [] (fun v I' L=>L=[]∧∃ r,v= .map (some r)∧OnM I' r ps):=by
 intro g H w hw
 refine qe Tryz.func99 Tryz.ntmps99 hw ?_
 have hIc:=zz4 I
 refine zR (zA ?_)
 refine zN (zR ?_)
 refine Z7 rfl rfl (fun r_10=>?_)
 refine zA (zN (Qo (zR ?_)))
 refine zM ?_
 refine zQ YW ?_
 refine zM (zN (Qx ?_))
 refine zU [(3,_),(11,_),(12,_)] (fun T L0 mz E I' loc'=>∃ (k:Nat) (m:List (Int×Nat)),mz=n-k∧E=(13,.int .i64 k)::T∧HLe I I'∧[(r_10,Yo (Value.int .i64) zpG m)]=loc'∧k≤n∧OnL I' m (ps.take k)) ?_ (h:=⟨0,[],rfl,rfl,zz4 _,rfl,Nat.zero_le _,OnL.nil⟩)
 rintro mz E J1 loc' ⟨k,m,rfl,rfl,hJ,rfl,hk,hm⟩
 have hP:=hP.mono hJ;have hIc:=hIc.trans hJ
 have hB0:=hJ
 refine zR (zC (zN (Qo ?_)))
 refine zI ?_ ?_<;>intro hc14
 ·
  have hlt_k:k<n:=by have h:=hc14;simp at h;omega
  have hP1:=hP.1
  obtain ⟨p,hp,hN⟩:=hP.at hlt_k
  have hpm:=List.mem_of_getElem? hp
  have hN:Sl J1 1 Z5 p.a p.n p.c p.needs:=hN
  have hpn:=hnd p hpm
  refine Qp (Qd (Qo (Qx (zR ?_))))
  refine zV (QE rfl rfl YW kJ (fun hg=>kB)) ?_
  refine zV (Qg rfl Y3 (fun hg=>by exact zz5 hP.1 hp) rfl) ?_
  refine Qr zcb rfl rfl (fun b_5=>?_)
  refine zh UI ?_
  refine zN (zR ?_)
  refine Z7 rfl rfl (fun r_17=>?_)
  refine zA (zN (Qo (zR ?_)))
  refine zF ZK ?_
  refine zL Vi ?_
  refine zQ ZF ?_
  refine zM (zN (Qx ?_))
  refine zU [(3,_),(5,_),(6,_),(11,_),(12,_),(13,_),(19,_),(20,_)] (fun T L0 mz E I' loc'=>∃ (j:Nat) (s:List (Int×Bool)),mz=p.n-j∧E=(21,.int .i64 j)::T∧J1=I'∧[(r_17,Yo (Value.int .i64) Value.bool s),(b_5,.cells (KY p).toArray 39 (0,0)),(r_10,Yo (Value.int .i64) zpG m)]=loc'∧j≤p.n∧zfz s (fun x=>(p.needs.take j).any fun n=>n==x||onF (ps.take k) n x)) ?_ (h:=⟨0,[],rfl,rfl,rfl,rfl,Nat.zero_le _,zfz.nil⟩)
  rintro mz E I' loc' ⟨j,s,rfl,rfl,rfl,rfl,hj,hs⟩
  refine zR (zC (zN (Qo ?_)))
  refine zI ?_ ?_<;>intro hc22
  ·
   have hlt_j:j<p.n:=by have h:=hc22;simp at h;omega
   obtain ⟨y,hy⟩:=hN.at hlt_j
   obtain ⟨ref,hget,sn,hsn,hsq⟩:=hm.get (hL.before hp (List.mem_of_getElem? hy))
   refine Qp (Qd (Qo (Qx (zR ?_))))
   refine zV (QE rfl rfl ZF kJ (fun hg=>kB)) ?_
   refine zV (Qc rfl Qm (fun hg=>by exact zzX hN hy rfl)) ?_
   refine zA ?_
   refine zN (zR ?_)
   refine zM ?_
   refine zM ?_
   refine Yu (m:=s) (ek:=Value.int .i64) (ev:=Value.bool) (a:=y) true WC Q3 rfl rfl rfl rfl (by repeat (first | exact Upd.here | apply Upd.there | apply ZE)) ?_
   refine zN (zR ?_)
   refine zM ?_
   refine zM ?_
   refine zV (XX (m:=m) (ek:=Value.int .i64) (ev:=zpG) (a:=y) hget zdn Q3 rfl rfl (fun _=>.inr kH)) ?_
   refine zoe (ek:=Value.int .i64) (ev:=Value.bool) (m:=sn) rfl WC rfl rfl (.inl hsn) (fun b_30=>?_)
   refine zN (Qx ?_)
   refine zU [(3,_),(5,_),(6,_),(11,_),(12,_),(13,_),(19,_),(20,_),(21,_),(30,_)] (fun T L0 mz E I' loc'=>∃ (seen:List Nat) (s:List (Int×Bool)),mz=sn.length-seen.length∧E=T∧J1=I'∧[(b_30,US ref sn.length seen),(r_17,Yo (Value.int .i64) Value.bool s),(b_5,.cells (KY p).toArray 39 (0,0)),(r_10,Yo (Value.int .i64) zpG m)]=loc'∧zfz s (fun x=>zr6 sn seen x||(decide (y=x)||(p.needs.take j).any fun n=>n==x||onF (ps.take k) n x))∧seen.Nodup∧∀ i∈seen,i<sn.length) ?_ (h:=⟨[],_,rfl,rfl,rfl,rfl,(hs.put y).congr (fun x=>by rw [znN,Bool.false_or]),.nil,fun i h=>by cases h⟩)
   rintro mz E I' loc' ⟨seen,s,rfl,rfl,rfl,rfl,hs,hnd2,hlt⟩
   have hsl:=zmP hnd2 hlt
   refine zR ?_
   refine zpY (ek:=Value.int .i64) (ev:=Value.bool) (m:=sn) (fun s'=>[(b_30,US ref sn.length s'),(r_17,Yo (Value.int .i64) Value.bool s),(b_5,.cells (KY p).toArray 39 (0,0)),(r_10,Yo (Value.int .i64) zpG m)]) rfl (fun s'=>.here) rfl rfl rfl rfl rfl (.inl hsn) kH ?_
   intro t tv s' hno hyes
   refine zN (Qo ?_)
   refine zI ?_ ?_<;>intro hc32
   ·
    obtain ⟨i,q,hq,hns,rfl⟩:=hyes hc32
    refine Qp (Qd (Qx (zR ?_)))
    refine zV (zoA (ek:=Value.int .i64) (ev:=Value.bool) (m:=sn) (p:=q) (seen:=seen) (i:=i) rfl (.inl hsn) (.inr kH) hq) ?_
    refine zE ?_
    refine zA (zN (Qi ?_))
    refine zM ?_
    refine zM ?_
    refine Yu (m:=s) (ek:=Value.int .i64) (ev:=Value.bool) (a:=q.1) true WC Q3 rfl rfl rfl rfl (by repeat (first | exact Upd.here | apply Upd.there | apply ZE)) ?_
    refine Qb (Qj ?_)
    have hnd3:(seen++[i]).Nodup:=List.nodup_append.2 ⟨hnd2,by simp,fun a ha b hb e=>hns (by simp at hb;subst hb;subst e;exact ha)⟩
    have hlt3:∀ j∈seen++[i],j<sn.length:=fun j hj=>(List.mem_append.1 hj).elim (hlt j) (fun h=>by simp at h;subst h;exact (List.getElem?_eq_some_iff.1 hq).1)
    have hsl2:=zmP hnd3 hlt3
    rw [List.length_append,List.length_singleton] at hsl2
    exact zm (h:=⟨sn.length-(seen++[i]).length,by rw [List.length_append,List.length_singleton];omega,seen++[i],_,rfl,rfl,rfl,rfl,(hs.put q.1).congr (fun x=>by rw [zlF hq,Bool.or_assoc]),hnd3,hlt3⟩)
   obtain ⟨rfl,hall⟩:=hno hc32
   refine Q6 (Qn (Qn (Qw (Qj (Qd (Qi (zB ?_)))))))
   refine zM (Qb ?_)
   exact zm (h:=⟨p.n-(j+1),kB,j+1,_,rfl,rfl,rfl,rfl,kB,hs.congr (fun x=>by rw [za3 hy,zpX hsq hall x];rw [Bool.eq_iff_iff];simp;grind)⟩)
  have hge_j:p.n≤j:=by have h:=hc22;simp at h;omega
  refine Q6 (Qn (Qn (Qw (Qd ?_))))
  refine QF .here (fun I4 hI4 hb4=>?_)
  have hm:=hm.mono hI4;have hB0:=hB0.trans hI4
  have hbx:=hb4
  refine Qi (zM ?_)
  refine zF ZJ ?_
  refine zL Qm ?_
  refine zM ?_
  refine Yu (m:=m) (ek:=Value.int .i64) (ev:=zpG) (a:=p.id) r_17 zdn Q3 rfl rfl rfl rfl (by repeat (first | exact Upd.here | apply Upd.there | apply ZE)) ?_
  refine Qb (Qj (Qd (Qi (zB ?_))))
  refine zM (Qb ?_)
  exact zm (h:=⟨n-(k+1),kB,k+1,_,rfl,rfl,hB0,rfl,kB,OnL.step hL hp hm hbx (by rw [ZV hN.len hge_j] at hs;exact hs)⟩)
 have hge_k:n≤k:=by have h:=hc14;simp at h;omega
 rw [ZV hP.len hge_k] at hm
 refine Q6 (Qn (Qn (Qw (Qd (zR (zM ?_))))))
 refine zA (zN (Qs ?_))
 exact Qy rfl rfl (fun w hw=>by obtain ⟨I9,h91,h92,h93⟩:=hw.freezeAll;exact ⟨_,I9,[],rfl,hIc.trans h91,h92,rfl,r_10,rfl,m,h93 _ _ kH,hm.mono h91⟩)
end
section
open Go Go.Kn Go.Proofs
theorem zkn (x:Sg):(zis [x]==0)=frm x:=by
 unfold zis skB skP
 cases h:frm x<;>simp [h]
theorem zhk (a b c d x y:Bool):(((((a&&b)&&c)&&d)&&x)&&y)=(((a&&b)&&(c&&d))&&(x&&y)):=by simp only [Bool.and_assoc]
theorem zrf (a b c d x y z:Bool):((((((a&&b)&&c)&&d)&&x)&&y)&&z)=(((a&&b)&&(c&&d))&&(x&&(y&&z))):=by simp only [Bool.and_assoc]
theorem zqW (I:Qu)(x:Sg):ZA Tryz.prog 162 [WD x] I (.bool (frm x)):=by
 intro g H w hw
 refine qe Tryz.func162 Tryz.ntmps162 hw ?_
 have hIc:=zz4 I
 refine zR ?_
 refine QO rfl rfl rfl (fun b_1=>?_)
 refine zA ?_
 refine zN (zR ?_)
 refine zV (Qg rfl ZC (fun hg=>by exact Cells.g0) rfl) ?_
 refine zpb [(0,_)] [zfC x] zmr (fun b_4=>?_)
 refine QQ .here (fun I1 hI1 hb1=>?_)
 have hIc:=hIc.trans hI1
 have hS:=Sl.lit [x] rfl zg9 (show _=some (Obj.cells (([x]:List Sg).flatMap zfC).toArray 36 (0,0)) from hb1)
 refine qcV (vs:=[_]) rfl zro (zvf hS kD) ?_
 refine zC ?_
 refine zA (zN (Qs ?_))
 exact zp hIc rfl rfl (by rw [zkn])
theorem zqu {I:Qu}(p:Pt)(hN:Nd I p):ZA Tryz.prog 96 [KR p] I (.int .i64 (K1 p)):=by
 intro g H w hw
 refine qe Tryz.func96 Tryz.ntmps96 hw ?_
 have hN:Sl I 1 Z5 p.a p.n p.c p.needs:=hN
 refine zR ?_
 refine QO rfl rfl rfl (fun b_1=>?_)
 refine zA (zN (Qo (zR ?_)))
 refine zF ZK ?_
 refine zL Vi ?_
 refine zQ ZF ?_
 refine zC (zN ?_)
 refine zI ?_ ?_<;>intro hc11
 ·
  have hlen:p.needs.length>32:=by rw [hN.len];simp at hc11;omega
  refine zR (zA (zN (Qs (Qf ?_))))
  exact zr rfl rfl (by rw [zqx hlen])
 have hlen:¬p.needs.length>32:=by rw [hN.len];simp at hc11;omega
 have hpn:p.n≤100000:=by have:=hN.len;omega
 refine Qp (Qd (zR (zA (zN (Qo (zR ?_))))))
 refine zF ZK ?_
 refine zL Vi ?_
 refine zQ ZF ?_
 refine zM (zN (Qx ?_))
 refine zU [(1,_),(13,_),(14,_)] (fun T L0 mz E I' loc'=>∃ (k:Nat) (l:Int),mz=p.n-k∧E=(3,.int .i64 l)::(15,.int .i64 k)::T∧I=I'∧L0=loc'∧k≤p.n∧(List.range k).all (ndP p.id p.needs)=true∧zif p.needs k l) ?_ (h:=⟨0,0,rfl,rfl,rfl,rfl,Nat.zero_le _,rfl,⟨fun _=>rfl,fun y hy h=>absurd rfl h⟩⟩)
 rintro mz E I' loc' ⟨k,l,rfl,rfl,rfl,rfl,hk,hall,hl⟩
 refine zR (zC (zN (Qo ?_)))
 refine zI ?_ ?_<;>intro hc16
 ·
  have hlt_k:k<p.n:=by have h:=hc16;simp at h;omega
  obtain ⟨x,hx⟩:=hN.at hlt_k
  refine Qp (Qd (Qo (Qx (zR ?_))))
  refine zV (QE rfl rfl ZF kJ (fun hg=>kB)) ?_
  refine zV (Qc rfl Qm (fun hg=>by exact zzX hN hx rfl)) ?_
  refine zA (zN (Qo (zR ?_)))
  refine zM ?_
  refine zM ?_
  refine zC ?_
  refine zM ?_
  refine QK 3 rfl rfl rfl ?_
  refine zJ (Qe rfl) ?_
  refine zJ (Qa rfl ZJ) ?_
  refine zJ (Qc rfl Qm (fun hg=>by exact QA.h0 rfl)) ?_
  refine zJ (Qz rfl rfl rfl) ?_
  refine Zg rfl rfl rfl rfl rfl ?_
  refine zN ?_
  refine zI ?_ ?_<;>intro hc27
  ·
   have hnd:ndB p.id p.needs=false:=by unfold ndB;exact JN (k:=k) (by rw [hN.len];exact hlt_k) (by rw [zwd hall hl hx,hc27];rfl)
   refine zR (zA (zN (Qs (Qf (Qk (Qf (Qf ?_)))))))
   refine Qk (Qf ?_)
   exact zr rfl rfl (by rw [zxI hlen hnd])
  refine Qp (Qd (Qi (zM ?_)))
  refine zA (Qb (Qj (Qd (Qi ?_))))
  refine zB ?_
  refine zM (Qb ?_)
  exact zm (h:=⟨p.n-(k+1),kB,k+1,_,rfl,rfl,rfl,rfl,kB,VU hall (by rw [zwd hall hl hx,hc27];rfl),zcW hx⟩)
 have hge_k:p.n≤k:=by have h:=hc16;simp at h;omega
 have hnd:ndB p.id p.needs=true:=by unfold ndB;rw [hN.len,show p.n=k by omega];exact hall
 refine Q6 (Qn (Qn (Qw (Qd (zR ?_)))))
 refine zF ZJ ?_
 refine zL Qm ?_
 refine zC ?_
 refine zM ?_
 refine Qq 3 rfl rfl rfl ?_
 refine zK (Qa rfl ZJ) ?_
 refine zK (Qc rfl Qm (fun hg=>by exact QA.h0 rfl)) ?_
 refine zK (Qz rfl rfl rfl) ?_
 refine QB rfl rfl rfl rfl rfl ?_
 refine zM ?_
 refine Qq 8 rfl rfl rfl ?_
 refine zK (Qa rfl Yq) ?_
 refine zK (Qc rfl Qm (fun hg=>by exact QA.h0 rfl)) ?_
 refine zK (Qz rfl rfl rfl) ?_
 refine QB rfl rfl rfl rfl rfl ?_
 refine zM ?_
 refine Qq 13 rfl rfl rfl ?_
 refine zK (Qa rfl Yq) ?_
 refine zK (Qc rfl Qm (fun hg=>by exact QA.h0 rfl)) ?_
 refine zK (Qz rfl rfl rfl) ?_
 refine QB rfl rfl rfl rfl rfl ?_
 refine zA (zN (Qo (zR ?_)))
 refine zF JH ?_
 refine zL Qm ?_
 refine zN (Qx (zR (zC ?_)))
 refine zA (zN ?_)
 refine zI ?_ ?_<;>intro hc50
 ·
  have hk:p.kind=1:=by simpa using hc50
  refine Qo (zR ?_)
  refine zF Yr ?_
  refine zL Qm ?_
  refine zC ?_
  refine zM ?_
  refine QK 3 rfl rfl rfl ?_
  refine zJ (Qa rfl Yr) ?_
  refine zJ (Qc rfl Qm (fun hg=>by exact QA.h0 rfl)) ?_
  refine zJ (Qz rfl rfl rfl) ?_
  refine Zg rfl rfl rfl rfl rfl ?_
  refine zN ?_
  refine zI ?_ ?_<;>intro hc59
  ·
   have hb:(idB p&&UF p)=false:=zvk hk (by unfold within;simp at hc59 ⊢;omega)
   refine zR (zA (zN (Qs (Qf (Qk (Qf ?_))))))
   exact zr rfl rfl (by rw [zea hlen hnd hb])
  have hf:isF p.field:=by have h:=hc59;unfold isF;simp at h;omega
  have hw1:within p.field 1 9=true:=by have h:=hc59;unfold within;simp at h ⊢;omega
  refine Qp (Qd (zR ?_))
  refine zV (QI (ps:=[(1,_)]) [_,_] zgH rfl rfl) ?_
  refine zV (QI (ps:=[(0,_),(1,_)]) [_,_] zgH rfl rfl) ?_
  refine zV (QI (ps:=[(3,_),(4,_),(10,_),(11,_)]) [_,_,_,_,_,_,_,_,_,_,_,_,_,_] zaa rfl rfl) ?_
  refine Qr ziN rfl rfl (fun b_7=>?_)
  refine zh Jj ?_
  refine zN (Qi (zM ?_))
  refine zM ?_
  refine Qq 1 rfl rfl rfl ?_
  refine zK (Qa rfl YC) ?_
  refine zK (Qg rfl ZC (fun hg=>by exact Cells.s1 (vs:=[_,_,_,_,_,_,_,_,_,_,_,_,_,_]) rfl) rfl) ?_
  refine zK (Qa rfl Yr) ?_
  refine zK (Qc rfl Qm (fun hg=>by exact QA.h1 rfl)) ?_
  refine zK (QI (ps:=[]) [_,_,_,_,_,_,_,_,_,_,_,_,_,_] zaa rfl rfl) ?_
  refine qg (vs:=[_,_,_]) rfl zmf (fun hg=>zuZ I p.nw p.field JP hf) ?_
  refine zK (QI (ps:=[]) [_,_,_,_,_,_,_,_,_,_,_,_,_,_] zaa rfl rfl) ?_
  refine zK (Ut rfl rfl WO rfl) ?_
  refine QB rfl rfl rfl rfl rfl ?_
  refine zM ?_
  refine Qq 11 rfl rfl rfl ?_
  refine zK (Qg rfl ZC (fun hg=>by exact Cells.g0) rfl) ?_
  refine zK (Qa rfl Yr) ?_
  refine zK (Qc rfl Qm (fun hg=>by exact QA.h1 rfl)) ?_
  refine zK (Qa rfl YC) ?_
  refine zK (Qg rfl ZC (fun hg=>by exact Cells.s1 (vs:=[_,_,_,_,_,_,_,_,_,_,_,_,_,_]) rfl) rfl) ?_
  refine qg (vs:=[_,_,_]) rfl zmf (fun hg=>zuZ I zen p.field p.nw hf) ?_
  refine qg (vs:=[_]) rfl zkk (fun hg=>zqW I _) ?_
  refine QB rfl rfl rfl rfl rfl ?_
  refine zA (Qb (Qj (Qd (Qo (zR ?_)))))
  refine zM ?_
  refine zO (zN ?_)
  refine zI ?_ ?_<;>intro hc119
  ·
   have hb:(idB p&&UF p)=false:=by (exact (show (idB p&&UF p)=false from by rw [zsT hk hw1];exact (zhk _ _ _ _ _ _).symm.trans ((Bool.not_eq_true' _).mp hc119)))
   refine zR (zA (zN (Qs (Qf ?_))))
   exact zr rfl rfl (by rw [zea hlen hnd hb])
  have hb:(idB p&&UF p)=true:=by (exact (show (idB p&&UF p)=true from by rw [zsT hk hw1];exact (zhk _ _ _ _ _ _).symm.trans ((Bool.not_eq_false' _).mp hc119)))
  refine Qp (Qd (zR (zA (zN (Qs ?_)))))
  exact zr rfl rfl (by rw [zhL hlen hnd hb])
 have hk1:p.kind≠1:=by simpa using hc50
 refine zR (zC ?_)
 refine zA (zN ?_)
 refine zI ?_ ?_<;>intro hc83
 ·
  have hk:p.kind=2:=by simpa using hc83
  refine Qi (zM ?_)
  refine zM ?_
  refine Qq 1 rfl rfl rfl ?_
  refine zK (Qa rfl Yr) ?_
  refine zK (Qc rfl Qm (fun hg=>by exact QA.h0 rfl)) ?_
  refine zK (Qz rfl rfl rfl) ?_
  refine QB rfl rfl rfl rfl rfl ?_
  refine zM ?_
  refine Qq 6 rfl rfl rfl ?_
  refine zK (Qa rfl YC) ?_
  refine zK (Qa rfl Jv) ?_
  refine zK (Qc rfl Qm (fun hg=>by exact QA.h0 rfl)) ?_
  refine zK (Qa rfl Yq) ?_
  refine zK (Qc rfl Qm (fun hg=>by exact QA.h0 rfl)) ?_
  refine zK (Qz rfl rfl rfl) ?_
  refine QB rfl rfl rfl rfl rfl ?_
  refine zM ?_
  refine Qq 14 rfl rfl rfl ?_
  refine zK (Qa rfl YC) ?_
  refine zK (Qg rfl ZC (fun hg=>by exact Cells.s0 (vs:=[_,_,_,_,_,_,_,_,_,_,_,_,_,_]) rfl) rfl) ?_
  refine qg (vs:=[_]) rfl zkk (fun hg=>zqW I _) ?_
  refine QB rfl rfl rfl rfl rfl ?_
  refine zA (Qb (Qj (Qd (Qo (zR ?_)))))
  refine zM ?_
  refine zO (zN ?_)
  refine zI ?_ ?_<;>intro hc119
  ·
   have hb:(idB p&&UF p)=false:=by (exact (show (idB p&&UF p)=false from by rw [zsy hk];exact (zrf _ _ _ _ _ _ _).symm.trans ((Bool.not_eq_true' _).mp hc119)))
   refine zR (zA (zN (Qs (Qf ?_))))
   exact zr rfl rfl (by rw [zea hlen hnd hb])
  have hb:(idB p&&UF p)=true:=by (exact (show (idB p&&UF p)=true from by rw [zsy hk];exact (zrf _ _ _ _ _ _ _).symm.trans ((Bool.not_eq_false' _).mp hc119)))
  refine Qp (Qd (zR (zA (zN (Qs ?_)))))
  exact zr rfl rfl (by rw [zhL hlen hnd hb])
 have hk2:p.kind≠2:=by simpa using hc83
 refine zR (zC ?_)
 refine zA (zN ?_)
 refine zI ?_ ?_<;>intro hc104
 ·
  have hk:p.kind=3:=by simpa using hc104
  refine Qi (zM ?_)
  refine zM ?_
  refine Qq 1 rfl rfl rfl ?_
  refine zK (Qa rfl Yr) ?_
  refine zK (Qc rfl Qm (fun hg=>by exact QA.h0 rfl)) ?_
  refine zK (Qz rfl rfl rfl) ?_
  refine QB rfl rfl rfl rfl rfl ?_
  refine zM ?_
  refine Qq 6 rfl rfl rfl ?_
  refine zK (Qa rfl YC) ?_
  refine zK (Qg rfl ZC (fun hg=>by exact Cells.s0 (vs:=[_,_,_,_,_,_,_,_,_,_,_,_,_,_]) rfl) rfl) ?_
  refine zK (QI (ps:=[]) [_,_,_,_,_,_,_,_,_,_,_,_,_,_] zaa rfl rfl) ?_
  refine zK (Ut rfl rfl WO rfl) ?_
  refine QB rfl rfl rfl rfl rfl ?_
  refine zA (Qb (Qj (Qd (Qo (zR ?_)))))
  refine zM ?_
  refine zO (zN ?_)
  refine zI ?_ ?_<;>intro hc119
  ·
   have hb:(idB p&&UF p)=false:=by (exact (show (idB p&&UF p)=false from by rw [zte hk];exact (zhk _ _ _ _ _ _).symm.trans ((Bool.not_eq_true' _).mp hc119)))
   refine zR (zA (zN (Qs (Qf ?_))))
   exact zr rfl rfl (by rw [zea hlen hnd hb])
  have hb:(idB p&&UF p)=true:=by (exact (show (idB p&&UF p)=true from by rw [zte hk];exact (zhk _ _ _ _ _ _).symm.trans ((Bool.not_eq_false' _).mp hc119)))
  refine Qp (Qd (zR (zA (zN (Qs ?_)))))
  exact zr rfl rfl (by rw [zhL hlen hnd hb])
 have hk3:p.kind≠3:=by simpa using hc104
 refine Qi (zA (Qb (Qj (Qd (Qo (zR ?_))))))
 refine zM ?_
 refine zO (zN ?_)
 refine zI ?_ ?_<;>intro hc119
 ·
  have hb:(idB p&&UF p)=false:=by exact zyP hk1 hk2 hk3
  refine zR (zA (zN (Qs (Qf ?_))))
  exact zr rfl rfl (by rw [zea hlen hnd hb])
 have hb:(idB p&&UF p)=true:=by (exfalso;have h:=hc119;simp at h)
 refine Qp (Qd (zR (zA (zN (Qs ?_)))))
 exact zr rfl rfl (by rw [zhL hlen hnd hb])
theorem zyD {I:Qu}{av:Option Addr}{n c:Nat}{xs:List Int}(hS:Sl I 1 Z5 av n c xs)(hn:n≤100000){fid:Nat}{cap:List Value}{P:Int→Bool}(hF:Fun Tryz.prog fid)(hf:∀ x∈xs,ZA Tryz.prog fid ([.int .i64 x]++cap) I (.bool (P x))):ZA Tryz.prog 163 [.slice av n c,.func (.func fid) #[] cap.toArray] I (.int .i64 (zpt P xs)):=by
 intro g H w hw
 refine qe Tryz.func163 Tryz.ntmps163 hw ?_
 have hS:=hS
 refine zR (zA (zN (Qo (zR ?_))))
 refine zM ?_
 refine zQ ZF ?_
 refine zM (zN (Qx ?_))
 refine zU [(0,_),(1,_),(7,_)] (fun T L0 mz E I' loc'=>∃ (k:Nat),mz=n-k∧E=(8,.int .i64 k)::T∧I=I'∧L0=loc'∧k≤n∧(xs.take k).any P=false) ?_ (h:=⟨0,rfl,rfl,rfl,rfl,Nat.zero_le _,rfl⟩)
 rintro mz E I' loc' ⟨k,rfl,rfl,rfl,rfl,hk,hno⟩
 refine zR (zC (zN (Qo ?_)))
 refine zI ?_ ?_<;>intro hc9
 ·
  have hlt_k:k<n:=by have h:=hc9;simp at h;omega
  obtain ⟨x,hx⟩:=hS.at hlt_k
  refine Qp (Qd (Qo (Qx (zR (zM ?_)))))
  refine zA ?_
  refine zN (zR ?_)
  refine zM ?_
  refine zM ?_
  refine zM ?_
  refine zV (QE rfl rfl ZF kJ (fun hg=>kB)) ?_
  refine zV (Qc rfl Qm (fun hg=>by exact zzX hS hx rfl)) ?_
  refine VI (cap:=cap) (vs:=[_]) rfl rfl hF (hf x (List.mem_of_getElem? hx)) rfl rfl ?_
  refine zN ?_
  refine zI ?_ ?_<;>intro hc16
  ·
   refine zR (zM ?_)
   refine zA (zN (Qs (Qk (Qf (Qf (Qk (Qf ?_)))))))
   exact zr rfl rfl (by rw [zfG hno hx hc16])
  refine Qp (Qj (Qd (Qi (zB ?_))))
  refine zM (Qb ?_)
  exact zm (h:=⟨n-(k+1),kB,k+1,rfl,rfl,rfl,rfl,kB,zc1 hx hno hc16⟩)
 have hge_k:n≤k:=by have h:=hc9;simp at h;omega
 refine Q6 (Qn (Qn (Qw (Qd (zR (zA (zN ?_)))))))
 refine Qs ?_
 exact zr rfl rfl (by rw [zdq hS.len hge_k hno])
theorem zyX {I:Qu}{av:Option Addr}{n c:Nat}{xs:List Int}(hS:Sl I 1 Z5 av n c xs)(hn:n≤100000){fid:Nat}{cap:List Value}{P:Int→Bool}(hF:Fun Tryz.prog fid)(hf:∀ x∈xs,ZA Tryz.prog fid ([.int .i64 x]++cap) I (.bool (P x))):ZA Tryz.prog 97 [.slice av n c,.func (.func fid) #[] cap.toArray] I (.bool (xs.any P)):=by
 intro g H w hw
 refine qe Tryz.func97 Tryz.ntmps97 hw ?_
 refine zR (zA ?_)
 refine zN (zR ?_)
 refine zM ?_
 refine zM ?_
 refine qcV (vs:=[_,_]) rfl zs9 (zyD hS hn hF hf) ?_
 refine zC ?_
 refine zA (zN (Qs ?_))
 exact zr rfl rfl (by rw [←zgm])
theorem zyo {I:Qu}{b r:Nat}{s:List (Int×Bool)}(hb:I b=some (.cells #[.map (some r)] 143 (0,0)))(hr:I r=some (Yo (Value.int .i64) Value.bool s))(x:Int):ZA Tryz.prog 98 [.int .i64 x,.pointer (some ⟨b,0,none⟩)] I (.bool (!znB s x)):=by
 intro g H w hw
 refine qe Tryz.func98 Tryz.ntmps98 hw ?_
 refine zR (zA ?_)
 refine zN (zR ?_)
 refine zV (Qc rfl zmW (fun hg=>by exact .imm hb rfl)) ?_
 refine zM ?_
 refine zV (YL WC Q3 rfl rfl (fun _=>.inl hr)) ?_
 refine zO ?_
 refine zA (zN (Qs ?_))
 exact zr rfl rfl kU
end
section
open Go Go.Kn Go.Proofs
theorem Q7:AgT Tryz.prog 45 45:=.of kA
theorem Jl:ElT Tryz.prog 63 41 5 40:=.of kA
theorem Y5:QJ Tryz.prog 43 5 5:=.of kA
theorem zuC:Fun Tryz.prog 170:=.of Tryz.func170 kA kA
theorem zs2:Fun Tryz.prog 171:=.of Tryz.func171 kA kA
theorem WK:Fun Tryz.prog 172:=.of Tryz.func172 kA kA
theorem zbz:Fun Tryz.prog 37:=.of Tryz.func37 kA kA
theorem zcT:Fun Tryz.prog 38:=.of Tryz.func38 kA kA
theorem zb0:Fun Tryz.prog 40:=.of Tryz.func40 kA kA
theorem K5 {I:Qu}(x:Nt)(hN:Nd I x.pt):ZA Tryz.prog 108 [Ke x] I (.bool (QM x)):=by
 intro g H w hw
 refine qe Tryz.func108 Tryz.ntmps108 hw ?_
 have hIc:=zz4 I
 refine zR ?_
 refine QO rfl rfl rfl (fun b_1=>?_)
 refine zA (Qb ?_)
 refine QF .here (fun I1 hI1 hb1=>?_)
 have hN:=hN.mono hI1;have hIc:=hIc.trans hI1
 have h1:=BxI.of hb1
 refine Qd (zR (zA (zN (Qo (zR ?_)))))
 refine zF Yg ?_
 refine zV (Qc rfl Qm (fun hg=>by exact QA.imm h1.out rfl)) ?_
 refine zN (Qx (zR (zC ?_)))
 refine zA (zN ?_)
 refine zI ?_ ?_<;>intro hc10
 ·
  have k1:x.kind=1:=by simpa using hc10
  refine Qo ?_
  by_cases he:x.lm.ends=0
  ·
   have hlC:lmC x.lm=[x.lm]:=if_pos he
   refine Qi ?_
   refine zF YD ?_
   refine zV (Qg rfl V7 (fun hg=>by exact zbw (BxI.cells (vs:=Q4 x) h1)) rfl) ?_
   refine zpb [(0,_)] [_] VB (fun b_14=>?_)
   refine QQ (by repeat (first | exact ZQ.here | apply ZQ.there)) (fun I2 hI2 hb2=>?_)
   have h1:=h1.mono hI2;have hIc:=hIc.trans hI2
   have hF:=Sl.lit [x.lm] rfl Yx (show I2 b_14=some (Obj.cells ([x.lm].flatMap Zh).toArray 32 (0,0)) from hb2)
   refine zA (zN (Qo (zR ?_)))
   refine zF YD ?_
   refine zF YM ?_
   refine zV (Qc rfl Qm (fun hg=>by exact QA.imm h1.out rfl)) ?_
   refine zA ?_
   refine zN (zR ?_)
   refine zM ?_
   refine zC (zN ?_)
   refine zI ?_ ?_<;>intro hc19
   ·
    exact absurd hc19 (by simp [he])
   refine Qp (Qd (Qi (zM ?_)))
   refine qcV (vs:=[_]) rfl zbz (zb2 hF kD) ?_
   refine zA (Qb (Qj (Qd (zR ?_))))
   refine zM ?_
   refine zC ?_
   refine zM ?_
   refine Qq 2 rfl rfl rfl ?_
   refine zK (Qg rfl Q7 (fun hg=>by exact BxI.cells (vs:=Q4 x) h1) rfl) ?_
   refine qg (vs:=[_]) rfl WK (fun hg=>WI x) ?_
   refine QB rfl rfl rfl rfl rfl ?_
   refine zA (zN (Qs ?_))
   first
   | exact zp hIc rfl rfl (by rw [QM,Wm,if_pos k1,hlC]<;>rfl)
  have hlC:lmC x.lm=[⟨IntKind.i64.wrap (x.lm.ends-1),x.lm.person,0,0,0,0,3,0,1⟩,x.lm]:=if_neg he
  refine Qi ?_
  refine zF YD ?_
  refine zV (Qg rfl V7 (fun hg=>by exact zbw (BxI.cells (vs:=Q4 x) h1)) rfl) ?_
  refine zpb [(0,_)] [Zh x.lm] VB (fun b_14=>?_)
  refine zA (zN (Qo (zR ?_)))
  refine zF YD ?_
  refine zF YM ?_
  refine zV (Qc rfl Qm (fun hg=>by exact QA.imm h1.out rfl)) ?_
  refine zA ?_
  refine zN (zR ?_)
  refine zM ?_
  refine zC (zN ?_)
  refine zI ?_ ?_<;>intro hc19
  ·
   refine Qi (zM ?_)
   refine zM ?_
   refine zV (WZ rfl rfl rfl) ?_
   refine zF YD ?_
   refine zF V2 ?_
   refine zV (Qc rfl Qm (fun hg=>by exact QA.imm h1.out rfl)) ?_
   refine zV (QI (ps:=[(0,_),(2,_)]) [_,_,_] zcS rfl rfl) ?_
   refine zV (QI (ps:=[(0,_),(1,_),(6,_)]) [_,_,_,_,_,_,_,_,_] zeX rfl rfl) ?_
   refine zpb [(0,_)] [Zh (⟨IntKind.i64.wrap (x.lm.ends-1),x.lm.person,0,0,0,0,3,0,1⟩)] VB (fun b_28=>?_)
   refine zpc [_,_,_] rfl zuC (.cons (.there .here) (.cons .here .nil)) (zmy (zdS (b:=b_14) (n:=1) (c:=1) (xs:=[x.lm]) (rest:=[]) rfl (Nat.le_refl _) kD kH rfl) kD rfl (i:=0) kD b_28 (⟨IntKind.i64.wrap (x.lm.ends-1),x.lm.person,0,0,0,0,3,0,1⟩)) ?_
   rintro vv3 I3 L3 hI3 ⟨rfl,hOi⟩
   have h1:=h1.mono hI3;have hIc:=hIc.trans hI3
   refine zA (zN ?_)
   refine zx4 hOi Yx (fun I4 hI4 af4 cf4 ef4 hM=>?_)
   subst ef4
   have h1:=h1.mono hI4;have hIc:=hIc.trans hI4
   refine Qi (zM ?_)
   refine qcV (vs:=[_]) rfl zbz (zb2 hM kD) ?_
   refine zA (Qb (Qj (Qd (zR ?_))))
   refine zM ?_
   refine zC ?_
   refine zM ?_
   refine Qq 2 rfl rfl rfl ?_
   refine zK (Qg rfl Q7 (fun hg=>by exact BxI.cells (vs:=Q4 x) h1) rfl) ?_
   refine qg (vs:=[_]) rfl WK (fun hg=>WI x) ?_
   refine QB rfl rfl rfl rfl rfl ?_
   refine zA (zN (Qs ?_))
   first
   | exact zp hIc rfl rfl (by rw [QM,Wm,if_pos k1,hlC]<;>rfl)
  exact absurd hc19 (by simpa using he)
 have k1:¬x.kind=1:=by simpa using hc10
 refine zR (zC ?_)
 refine zA (zN ?_)
 refine zI ?_ ?_<;>intro hc32
 ·
  have k2:x.kind=2:=by simpa using hc32
  refine Qi ?_
  refine zF ZZ ?_
  refine zV (Qg rfl Y3 (fun hg=>by exact XG (BxI.cells (vs:=Q4 x) h1)) rfl) ?_
  refine qcV (vs:=[_]) rfl zqK (zqu x.pt hN) ?_
  refine zA (Qb (Qj (Qd (zR ?_))))
  refine zM ?_
  refine zC ?_
  refine zM ?_
  refine Qq 2 rfl rfl rfl ?_
  refine zK (Qg rfl Q7 (fun hg=>by exact BxI.cells (vs:=Q4 x) h1) rfl) ?_
  refine qg (vs:=[_]) rfl WK (fun hg=>WI x) ?_
  refine QB rfl rfl rfl rfl rfl ?_
  refine zA (zN (Qs ?_))
  first
  | exact zp hIc rfl rfl (by rw [QM,Wm,if_neg k1,if_pos k2]<;>rfl)
 have k2:¬x.kind=2:=by simpa using hc32
 refine zR (zC ?_)
 refine zA (zN ?_)
 refine zI ?_ ?_<;>intro hc37
 ·
  have k3:x.kind=3:=by simpa using hc37
  refine Qi ?_
  refine zF Y7 ?_
  refine zV (Qg rfl VX (fun hg=>by exact zcc (BxI.cells (vs:=Q4 x) h1)) rfl) ?_
  refine zpb [(0,_)] [_] Jl (fun b_41=>?_)
  refine QQ (by repeat (first | exact ZQ.here | apply ZQ.there)) (fun I5 hI5 hb5=>?_)
  have h1:=h1.mono hI5;have hIc:=hIc.trans hI5
  have hF:=Sl.lit [x.ls] rfl L.encL_len (show I5 b_41=some (Obj.cells ([x.ls].flatMap L.encL).toArray 41 (0,0)) from hb5)
  refine qcV (vs:=[_]) rfl zcT (L.w_check hF kD) ?_
  refine zA (Qb (Qj (Qd (zR ?_))))
  refine zM ?_
  refine zC ?_
  refine zM ?_
  refine Qq 2 rfl rfl rfl ?_
  refine zK (Qg rfl Q7 (fun hg=>by exact BxI.cells (vs:=Q4 x) h1) rfl) ?_
  refine qg (vs:=[_]) rfl WK (fun hg=>WI x) ?_
  refine QB rfl rfl rfl rfl rfl ?_
  refine zA (zN (Qs ?_))
  first
  | exact zp hIc rfl rfl (by rw [QM,Wm,if_neg k1,if_neg k2,if_pos k3]<;>rfl)
 have k3:¬x.kind=3:=by simpa using hc37
 refine zR (zC ?_)
 refine zA (zN ?_)
 refine zI ?_ ?_<;>intro hc43
 ·
  have k4:x.kind=4:=by simpa using hc43
  refine Qo ?_
  by_cases he:x.rt.ends=0
  ·
   have hlC:rtC x.rt=[x.rt]:=if_pos he
   refine Qi ?_
   refine zF Z0 ?_
   refine zV (Qg rfl Ys (fun hg=>by exact zbs (BxI.cells (vs:=Q4 x) h1)) rfl) ?_
   refine zpb [(0,_)] [_] VA (fun b_47=>?_)
   refine QQ (by repeat (first | exact ZQ.here | apply ZQ.there)) (fun I6 hI6 hb6=>?_)
   have h1:=h1.mono hI6;have hIc:=hIc.trans hI6
   have hF:=Sl.lit [x.rt] rfl S.encR_len (show I6 b_47=some (Obj.cells ([x.rt].flatMap S.encR).toArray 43 (0,0)) from hb6)
   refine zA (zN (Qo (zR ?_)))
   refine zF Z0 ?_
   refine zF Y5 ?_
   refine zV (Qc rfl Qm (fun hg=>by exact QA.imm h1.out rfl)) ?_
   refine zA ?_
   refine zN (zR ?_)
   refine zM ?_
   refine zC (zN ?_)
   refine zI ?_ ?_<;>intro hc52
   ·
    exact absurd hc52 (by simp [he])
   refine Qp (Qd (Qi (zM ?_)))
   refine qcV (vs:=[_]) rfl zb0 (S.w_check hF kD) ?_
   refine zA (Qb (Qj (Qd (zR ?_))))
   refine zM ?_
   refine zC ?_
   refine zM ?_
   refine Qq 2 rfl rfl rfl ?_
   refine zK (Qg rfl Q7 (fun hg=>by exact BxI.cells (vs:=Q4 x) h1) rfl) ?_
   refine qg (vs:=[_]) rfl WK (fun hg=>WI x) ?_
   refine QB rfl rfl rfl rfl rfl ?_
   refine zA (zN (Qs ?_))
   first
   | exact zp hIc rfl rfl (by rw [QM,Wm,if_neg k1,if_neg k2,if_neg k3,if_pos k4,hlC]<;>rfl)
  have hlC:rtC x.rt=[⟨IntKind.i64.wrap (x.rt.ends-1),1,0,0,0,0,⟨#[97]⟩,⟨#[97]⟩,0,0,0⟩,x.rt]:=if_neg he
  refine Qi ?_
  refine zF Z0 ?_
  refine zV (Qg rfl Ys (fun hg=>by exact zbs (BxI.cells (vs:=Q4 x) h1)) rfl) ?_
  refine zpb [(0,_)] [S.encR x.rt] VA (fun b_47=>?_)
  refine zA (zN (Qo (zR ?_)))
  refine zF Z0 ?_
  refine zF Y5 ?_
  refine zV (Qc rfl Qm (fun hg=>by exact QA.imm h1.out rfl)) ?_
  refine zA ?_
  refine zN (zR ?_)
  refine zM ?_
  refine zC (zN ?_)
  refine zI ?_ ?_<;>intro hc52
  ·
   refine Qi (zM ?_)
   refine zM ?_
   refine zV (WZ rfl rfl rfl) ?_
   refine zV (QI (ps:=[(0,_),(1,_),(6,_),(7,_)]) [_,_,_,_,_,_,_,_,_,_,_] W6 rfl rfl) ?_
   refine zpb [(0,_)] [S.encR (⟨IntKind.i64.wrap (x.rt.ends-1),1,0,0,0,0,⟨#[97]⟩,⟨#[97]⟩,0,0,0⟩)] VA (fun b_57=>?_)
   refine zpc [_,_,_] rfl zs2 (.cons (.there .here) (.cons .here .nil)) (zmj (zdc (b:=b_47) (n:=1) (c:=1) (xs:=[x.rt]) (rest:=[]) rfl (Nat.le_refl _) kD kH rfl) kD rfl (i:=0) kD b_57 (⟨IntKind.i64.wrap (x.rt.ends-1),1,0,0,0,0,⟨#[97]⟩,⟨#[97]⟩,0,0,0⟩)) ?_
   rintro vv7 I7 L7 hI7 ⟨rfl,hOi⟩
   have h1:=h1.mono hI7;have hIc:=hIc.trans hI7
   refine zA (zN ?_)
   refine zx4 hOi S.encR_len (fun I8 hI8 af8 cf8 ef8 hM=>?_)
   subst ef8
   have h1:=h1.mono hI8;have hIc:=hIc.trans hI8
   refine Qi (zM ?_)
   refine qcV (vs:=[_]) rfl zb0 (S.w_check hM kD) ?_
   refine zA (Qb (Qj (Qd (zR ?_))))
   refine zM ?_
   refine zC ?_
   refine zM ?_
   refine Qq 2 rfl rfl rfl ?_
   refine zK (Qg rfl Q7 (fun hg=>by exact BxI.cells (vs:=Q4 x) h1) rfl) ?_
   refine qg (vs:=[_]) rfl WK (fun hg=>WI x) ?_
   refine QB rfl rfl rfl rfl rfl ?_
   refine zA (zN (Qs ?_))
   first
   | exact zp hIc rfl rfl (by rw [QM,Wm,if_neg k1,if_neg k2,if_neg k3,if_pos k4,hlC]<;>rfl)
  exact absurd hc52 (by simpa using he)
 have k4:¬x.kind=4:=by simpa using hc43
 refine Qp (Qj (Qd (zR (zM ?_))))
 refine zC ?_
 refine zM ?_
 refine Qq 2 rfl rfl rfl ?_
 refine zK (Qg rfl Q7 (fun hg=>by exact BxI.cells (vs:=Q4 x) h1) rfl) ?_
 refine qg (vs:=[_]) rfl WK (fun hg=>WI x) ?_
 refine QB rfl rfl rfl rfl rfl ?_
 refine zA (zN (Qs ?_))
 first
 | exact zp hIc rfl rfl (by rw [QM,Wm,if_neg k1,if_neg k2,if_neg k3,if_neg k4]<;>rfl)
end
end Go.Proofs.YtjblkbkmblkgoaaGreat
namespace Go.Kn
section
open Go
def zix (b:Nat)(x:Nat×Nat):Nat×Value:=(x.1,.pointer (some ⟨b,x.2,none⟩))
def zxX:List (Nat×Nat×Nat)→Nat→Nat→Option Nat
 | [],_,_=>none
 | (s,f,o)::l,s',f'=>if s=s'∧f=f' then some o else zxX l s' f'
def lkN:List (Nat×Nat)→Nat→Option Nat
 | [],_=>none
 | (t,o)::l,x=>if t=x then some o else lkN l x
def zt3 (ft:List (Nat×Nat×Nat))(se:List (Nat×Nat)):Op→Option Nat
 | .move (.tmp x)=>lkN se x
 | .assign (.tmp x)=>lkN se x
 | .nilCheck (.tmp x)=>lkN se x
 | .fieldAddr s (.tmp x) f=>match lkN se x,zxX ft s f with | some o,some k=>some (o+k) | _,_=>none
 | _=>none
def zoP (P:Program)(ft:List (Nat×Nat×Nat)):Prop:=∀ s f o,(s,f,o)∈ft→QJ P s f o
theorem zoP.nil {P:Program}:zoP P []:=fun _ _ _ h=>by cases h
theorem zoP.cons {P:Program}{s f o:Nat}{l:List (Nat×Nat×Nat)}(h:QJ P s f o)(hl:zoP P l):zoP P ((s,f,o)::l):=fun a b c hm=>by
 rcases List.mem_cons.1 hm with e | hm
 ·
  cases e;exact h
 ·
  exact hl _ _ _ hm
theorem zhu {s f o:Nat}:∀ {ft:List (Nat×Nat×Nat)},zxX ft s f=some o→(s,f,o)∈ft
 | [],h=>by cases h
 | (a,c,d)::l,h=>by
  unfold zxX at h
  split at h
  ·
   rename_i e;cases h;obtain ⟨rfl,rfl⟩:=e;exact List.mem_cons_self ..
  ·
   exact List.mem_cons_of_mem _ (zhu h)
theorem Wh {b x o:Nat}{E:Env}:∀ {se:List (Nat×Nat)},lkN se x=some o→VC (se.map (zix b)++E) x=some (.pointer (some ⟨b,o,none⟩))
 | [],h=>by cases h
 | (t,p)::l,h=>by
  unfold lkN at h
  simp only [List.map_cons,List.cons_append,zix]
  split at h
  ·
   rename_i e;cases h;subst e;simp [VC]
  ·
   rename_i e
   have:=Wh (b:=b) (E:=E) h
   have hb:t.beq x=false:=by
    cases hb:t.beq x with
    | false=>rfl
    | true=>exact absurd (Nat.eq_of_beq_eq_true hb) e
   simp only [VC,hb,cond_false];exact this
def zjB (se:List (Nat×Nat))(p:Nat×Operand):Option (Nat×Nat):=match p.2 with | .tmp x=>(lkN se x).map fun o=>(p.1,o) | _=>none
theorem zgG {se:List (Nat×Nat)}{b:Nat}{E:Env}:∀ {l:List (Nat×Operand)} {pl:List (Nat×Nat)},l.map (zjB se)=pl.map some→l.map (fun p=>(QD [] (se.map (zix b)++E) p.2).map fun v=>(p.1,v))=(pl.map (zix b)).map some
 | [],[],_=>rfl
 | [],_::_,h=>by cases h
 | _::_,[],h=>by cases h
 | p::l,q::pl,h=>by
  simp only [List.map_cons,List.cons.injEq] at h ⊢
  refine ⟨?_,zgG h.2⟩
  obtain ⟨k,x⟩:=p
  have h1:=h.1
  unfold zjB at h1
  split at h1
  ·
   rename_i x' hx
   cases ho:lkN se x' with
   | none=>rw [ho] at h1;cases h1
   | some o=>
    rw [ho] at h1
    simp only [Option.map_some,Option.some.injEq] at h1
    subst h1
    simp only at hx
    subst hx
    rw [show QD [] (se.map (zix b)++E) (.tmp x')=VC (se.map (zix b)++E) x' from rfl,Wh ho]
    rfl
  ·
   cases h1
section
variable {C:Cx} {Q:Exit→Act→World→Prop} {ops:Array Oper} {I0:Qu} {loc0:Loc} {E:Env} {I:Qu} {loc:Loc}
theorem zuT {ft:List (Nat×Nat×Nat)}{se:List (Nat×Nat)}{b v:Nat}{o:Oper}(hf:zoP C.P ft)(h:zt3 ft se o.op=some v):QT C [] (se.map (zix b)++E) I loc o (.pointer (some ⟨b,v,none⟩)):=by
 obtain ⟨dst,op,ty,pos,af,gd⟩:=o
 simp only at h
 unfold zt3 at h
 split at h
 ·
  exact Qe (Wh h)
 ·
  exact Qv (Wh h)
 ·
  exact QG (Wh h)
 ·
  split at h
  ·
   rename_i h1 h2;cases h
   exact Qa (Wh h1) (hf _ _ _ (zhu h2))
  ·
   cases h
 ·
  cases h
theorem zjh {fuel:Nat}{listed:Array Bool}(E':Env)(hE:Sub E' E)(h:XD C Q ops I0 loc0 fuel listed [] E' I loc):XD C Q ops I0 loc0 fuel listed [] E I loc:=fun a w ha hg hw=>h a w (ha.sub hE) hg hw
theorem zbj {S:GS}{dst:Option Nat}{ty:TypeId}{pos:String}{af:Array Edge}{gd:Option (Nat×Bool)}{x:Operand}{t e size n b off:Nat}(hx:QD S E x=some (.pointer (some ⟨b,off,none⟩)))(hT:ArT C.P t n e size):
  QT C S E I loc ⟨dst,.slice t x none none none,ty,pos,af,gd⟩ (.slice (some ⟨b,off,none⟩) n n):=
 .of kE fun a w ha hg hc _=>by
  obtain ⟨h1,j,h2,h3⟩:=hT
  simp only [execOp,Option.map_none,Qh ha hg hc hx,Instr.sliceAt,Instr.sureAddr,Instr.sliceBounds,Sem.run_bind,Sem.run_pure,run_underlying h1,Result.andThen,run_sizeOf h2,Nat.zero_mul,Nat.sub_zero]
  congr 2
  simp [Addr.add]
theorem zuJ (loc':Loc){c:Code}(hp:loc'.Perm loc)(h:X C Q c E I loc'):X C Q c E I loc:=fun a w ha hw=>h a w ha (hw.permL hp)
def lst (n k:Nat):Array Bool:=(List.replicate k true++List.replicate (n-k) false).toArray
theorem zf9 (n k j:Nat)(d:Bool)(hk:k≤n):(lst n k).getD j d=if j<k then true else if j<n then false else d:=by
 unfold lst
 rw [Array.getD_eq_getD_getElem?,List.getElem?_toArray]
 by_cases h1:j<k
 ·
  rw [List.getElem?_append_left (by simpa using h1)];simp [h1]
 ·
  rw [List.getElem?_append_right (by simpa using Nat.le_of_not_lt h1)]
  by_cases h2:j<n
  ·
   have:j-k<n-k:=kB
   simp [h1,h2,List.getElem?_replicate,this]
  ·
   have:¬j-k<n-k:=kB
   simp [h1,h2,List.getElem?_replicate,this]
theorem zrJ (n k:Nat)(hk:k<n):(lst n k).setIfInBounds k true=lst n (k+1):=by
 apply Array.ext_getElem?
 intro j
 rw [Array.getElem?_setIfInBounds]
 unfold lst
 simp only [List.getElem?_toArray,List.size_toArray,List.length_append,List.length_replicate]
 by_cases e:k=j
 ·
  subst e
  rw [if_pos rfl,if_pos kB,List.getElem?_append_left kH]
  simp
 ·
  rw [if_neg e]
  by_cases h1:j<k
  ·
   rw [List.getElem?_append_left (by simpa using h1),List.getElem?_append_left kS]
   simp [List.getElem?_replicate,h1];omega
  ·
   rw [List.getElem?_append_right kS,List.getElem?_append_right kS]
   simp only [List.length_replicate,List.getElem?_replicate]
   congr 1
   simp only [eq_iff_iff]
   omega
def zpE (ops:Array Oper)(ft:List (Nat×Nat×Nat))(N:Nat):Nat→Nat→List Oper→List (Nat×Nat)→Option (List (Nat×Nat))
 | _,0,_,se=>some se
 | _,_+1,[],_=>none
 | k,m+1,o::l,se=>match o.dst,zt3 ft se o.op with
   | some d,some v=>if (o.guard.isNone&&Nat.blt d N&&(o.after.all (fun e=> !Region.binds .any e||Nat.blt e.on k)&&l.all (fun oj=>oj.after.any (fun e=>Region.binds .any e&&e.on==k)||o.apart ops oj)))=true then zpE ops ft N (k+1) m l ((d,v)::se) else none
   | _,_=>none
theorem zoQ (i:Nat){oi:Oper}{d:Nat}{v:Value}{fuel:Nat}{listed:Array Bool}(hi:ops[i]? =some oi)(hv:QT C [] E I0 loc0 oi v)(hg:oi.guard=none)(hd:oi.dst=some d)(hN:Nat.blt d C.N=true)
  (hs:Region.noSelect ops=true)
  (hfr:∀ j oj,ops[j]? =some oj→j≠i→listed.getD j true=false→(∀ e∈oj.after,Region.binds .any e=true→e.on≠i)→oi.apart ops oj=true)
  (hr:i∈Region.ready .any ops listed)(hQ:Yd Q)(hI:HLe I0 I)(hl:J0 loc0 loc)
  (h:XD C Q ops I0 loc0 fuel (listed.setIfInBounds i true) [] ((d,v)::E) I loc):XD C Q ops I0 loc0 (fuel+1) listed [] E I loc:=by
 intro a w ha hgg hw
 have hp:=ha.put hN v
 refine Y1 (v:=v) hi hv.1 (Region.noSelect_spec hs) (fun c a w=>by rw [hd];exact hQ c a d _ w) fuel listed a w hfr hr ?_ ((hw.mono hI).subL hl) (by rw [hd];exact h _ _ hp trivial hw)
 have hG:Zl ops [] E oi:=.none hg
 have hwt:=hG.wanted ha (show Kr [] a from trivial)
 exact .inl ⟨by rw [hwt];rfl,fun w' hw'=>hv.2 a w' ha trivial rfl hw'⟩
theorem zf5 {ft:List (Nat×Nat×Nat)}(hf:zoP C.P ft)(hs:Region.noSelect ops=true)(hQ:Yd Q)(hI:HLe I0 I)(hl:J0 loc0 loc){b N n:Nat}(hN:N=C.N)(hn:ops.size=n):
  ∀ (m k:Nat) {l:List Oper} {se se':List (Nat×Nat)} {fuel:Nat},ops.toList.drop k=l→k+m≤n→zpE ops ft N k m l se=some se'→
   XD C Q ops I0 loc0 fuel (lst n (k+m)) [] (se'.map (zix b)++E) I loc→XD C Q ops I0 loc0 (fuel+m) (lst n k) [] (se.map (zix b)++E) I loc
 | 0,k,l,se,se',fuel,hk,hle,hr,h=>by
  simp only [zpE,Option.some.injEq] at hr;subst hr;exact h
 | m+1,k,[],se,se',fuel,hk,hle,hr,h=>by cases hr
 | m+1,k,o::l,se,se',fuel,hk,hle,hr,h=>by
  unfold zpE at hr
  split at hr
  ·
   rename_i d v hd hv
   split at hr
   ·
    rename_i hc
    simp only [Bool.and_eq_true,Option.isNone_iff_eq_none] at hc
    obtain ⟨⟨hg,hb⟩,hrd,hfr⟩:=hc
    have hkn:k<n:=kB
    have hok:ops[k]? =some o:=by
     have:=congrArg (·[0]?) hk
     simp only [List.getElem?_drop,Nat.add_zero,List.getElem?_cons_zero] at this
     rwa [Array.getElem?_toList] at this
    have hl1:ops.toList.drop (k+1)=l:=by
     rw [←List.drop_drop,hk];rfl
    have h':XD C Q ops I0 loc0 (fuel+m) (lst n (k+1)) [] (((d,v)::se).map (zix b)++E) I loc:=
     zf5 hf hs hQ hI hl hN hn m (k+1) hl1 kB hr (by rw [show k+1+m=k+(m+1) by omega];exact h)
    refine zoQ k hok (zuT hf hv) hg hd (hN ▸ hb) hs (fun j oj hj hne hun hno=>?_) (mem_ready.2 ⟨?_,o,hok,fun e he hbe=>?_⟩) hQ hI hl (by rw [zrJ n k hkn];exact h')
    ·
     rw [zf9 n k j true kB] at hun
     have hjn:j<n:=by rw [←hn];exact (Array.getElem?_eq_some_iff.1 hj).1
     have hjk:k<j:=by
      rcases Nat.lt_or_ge j k with h1 | h1
      ·
       rw [if_pos h1] at hun;cases hun
      ·
       omega
     have hm:oj∈l:=by
      rw [←hl1]
      refine List.mem_iff_getElem?.2 ⟨j-(k+1),?_⟩
      rw [List.getElem?_drop,show k+1+(j-(k+1))=j by omega,Array.getElem?_toList];exact hj
     have h2:=List.all_eq_true.1 hfr oj hm
     rw [Bool.or_eq_true] at h2
     rcases h2 with h2 | h2
     ·
      obtain ⟨e,he,hb2⟩:=Array.any_eq_true'.1 h2
      simp only [Bool.and_eq_true,beq_iff_eq] at hb2
      exact absurd hb2.2 (hno e he hb2.1)
     ·
      exact h2
    ·
     rw [zf9 n k k true kB,if_neg kB,if_pos hkn]
    ·
     have h2:=Array.all_eq_true_iff_forall_mem.1 hrd e he
     rw [hbe] at h2
     have h3:e.on<k:=by simpa using h2
     rw [zf9 n k e.on false kB,if_pos h3]
   ·
    cases hr
  ·
   cases hr
theorem zmu {zv cv:Value}(h1:zv.cells= #[cv])(n:Nat):madeCells zv.cells n=(List.replicate n cv).toArray:=by
 rw [h1]
 apply Array.ext'
 have:∀ x:Nat,[cv][x % 1]?.getD default=cv:=fun x=>by rw [Nat.mod_one];rfl
 simp [madeCells,this,List.map_const']
def zzh (P:Program)(t e bytes:Nat)(zv cv:Value):Prop:=P.underlying t=some (.slice e)∧(P.info? e).map (fun i=>(i.zero,i.size,i.bytes))=some (some zv,1,bytes)∧zv.cells= #[cv]
theorem Xe {rest:List Oper}{dst:Nat}{ty:TypeId}{pos:String}{af:Array Edge}{gd:Option (Nat×Bool)}{x y:Operand}{t e bytes:Nat}{zv cv:Value}{n:Int}(hT:zzh C.P t e bytes zv cv)(hx:QD [] E x=some (.int .i64 n))(hy:QD [] E y=some (.int .i64 n))(hn:0≤n∧n≤1000000)(hb:bytes≤1000)
  (hG:gd=none)(hN:Nat.blt dst C.N=true)(h:∀ b,XO C Q ops rest [] ((dst,.slice (some ⟨b,0,none⟩) n.toNat n.toNat)::E) I ((b,.cells (List.replicate n.toNat cv).toArray e (0,0))::loc)):
  XO C Q ops (⟨some dst,.makeSlice t x y,ty,pos,af,gd⟩::rest) [] E I loc:=
 Ya hG kE fun a w ha hw=>by
  obtain ⟨hu,hi,h1⟩:=hT
  rw [Option.map_eq_some_iff] at hi
  obtain ⟨i,hi,he⟩:=hi
  simp only [Prod.mk.injEq] at he
  obtain ⟨hz,hs,hbt⟩:=he
  have hr:=run_makeSlice (P:=C.P) (w:=w) t e i zv hu hi hz .i64 .i64 n n hn.1 kB (by rw [hs];omega) (by rw [hbt];exact Int.le_trans (Int.mul_le_mul (by omega:(bytes:Int)≤1000) hn.2 hn.1 kB) kD) kB
  rw [hs,Nat.mul_one,zmu h1] at hr
  simp only [execOp,Qh (S:=[]) ha trivial rfl hx,Qh (S:=[]) ha trivial rfl hy,Sem.run_bind,hr,Result.andThen,Sem.run_pure,Oper.uponIn_value]
  exact h _ _ _ (ha.put hN _) trivial (hw.alloc _)
end
end
end Go.Kn
namespace Go.Proofs.YtjblkbkmblkgoaaGreat
section
open Go Go.Kn Go.Proofs
theorem zld:AgT Tryz.prog 185 42:=.of kA
theorem zfO:ArT Tryz.prog 185 42 184 1:=.of kA
theorem VP:QJ Tryz.prog 41 0 0:=.of kA
theorem za5:QJ Tryz.prog 41 1 1:=.of kA
theorem za7:QJ Tryz.prog 41 2 2:=.of kA
theorem zaR:QJ Tryz.prog 41 3 3:=.of kA
theorem zaO:QJ Tryz.prog 41 4 4:=.of kA
theorem Yp:QJ Tryz.prog 43 0 0:=.of kA
theorem VJ:QJ Tryz.prog 43 1 1:=.of kA
theorem YA:QJ Tryz.prog 43 10 10:=.of kA
theorem Jw:QJ Tryz.prog 43 2 2:=.of kA
theorem Kd:QJ Tryz.prog 43 3 3:=.of kA
theorem Kc:QJ Tryz.prog 43 4 4:=.of kA
theorem Ka:QJ Tryz.prog 43 8 8:=.of kA
theorem JG:QJ Tryz.prog 43 9 9:=.of kA
theorem zi0:zoP Tryz.prog [(45,1,1),(45,2,10),(45,3,29),(45,4,34)]:=.cons YD (.cons ZZ (.cons Y7 (.cons Z0 .nil)))
theorem ziU:zoP Tryz.prog [(45,0,0),(32,0,0),(32,1,1),(32,2,2),(32,3,3),(32,4,4),(32,5,5),(32,6,6),(30,0,0),(30,1,1),(30,2,2),(39,0,0),(39,1,1),(39,2,2),(39,3,3),(36,0,0),(36,1,1),(36,2,2),(36,3,3),(36,4,4),(36,5,5),(36,6,6),(36,7,7),(36,8,8),(36,9,9),(36,10,10),(34,0,0),(34,1,1),(36,11,12),(41,0,0),(41,1,1),(41,2,2),(41,3,3),(41,4,4),(43,0,0),(43,1,1),(43,2,2),(43,3,3),(43,4,4),(43,5,5),(43,8,8),(43,9,9),(43,10,10)]:=.cons Yg (.cons Ye (.cons V2 (.cons YM (.cons Wd (.cons KK (.cons Kb (.cons JF (.cons Xf (.cons JC (.cons J6 (.cons ZJ (.cons JH (.cons Yq (.cons Yr (.cons Jv (.cons Uy (.cons Ux (.cons Uk (.cons zaE (.cons Ul (.cons Um (.cons Ur (.cons UA (.cons Up (.cons V8 (.cons YP (.cons Y6 (.cons Je (.cons VP (.cons za5 (.cons za7 (.cons zaR (.cons zaO (.cons Yp (.cons VJ (.cons Jw (.cons Kd (.cons Kc (.cons Y5 (.cons Ka (.cons JG (.cons YA .nil))))))))))))))))))))))))))))))))))))))))))
theorem zkt:SzT Tryz.prog 185 42:=.of kA
theorem zjE:Y9 Tryz.prog 185 (.agg #[(.pointer none),(.pointer none),(.pointer none),(.pointer none),(.pointer none),(.pointer none),(.pointer none),(.pointer none),(.pointer none),(.pointer none),(.pointer none),(.pointer none),(.pointer none),(.pointer none),(.pointer none),(.pointer none),(.pointer none),(.pointer none),(.pointer none),(.pointer none),(.pointer none),(.pointer none),(.pointer none),(.pointer none),(.pointer none),(.pointer none),(.pointer none),(.pointer none),(.pointer none),(.pointer none),(.pointer none),(.pointer none),(.pointer none),(.pointer none),(.pointer none),(.pointer none),(.pointer none),(.pointer none),(.pointer none),(.pointer none),(.pointer none),(.pointer none)]):=.of kA
set_option maxRecDepth 100000 in
set_option maxHeartbeats 4000000 in
theorem zh6 (I:Qu) (b:Nat):ZA Tryz.prog 129 [Zw b] I (zzd b):=by
 intro g H w hw
 refine qe Tryz.func129 Tryz.ntmps129 hw ?_
 refine zR ?_
 refine Qr zjE rfl rfl (fun b_2=>?_)
 refine zN (Qo ?_)
 have hD:=zz4 I
 refine Zn ?_
 refine QL I [] mixed ?_
 refine zjh (([(0,0)]:List (Nat×Nat)).map (zix b)++([(2,Zw b_2)]:Env)) (.cons rfl (.cons rfl (.nil))) ?_
 refine zf5 (b:=b) (ft:=[(45,1,1),(45,2,10),(45,3,29),(45,4,34)]) (N:=157) (n:=16) zi0 kA JK hD kF rfl rfl 16 0 (se:=[(0,0)]) (se':=[(6,34),(5,29),(4,10),(3,1),(19,34),(18,0),(17,0),(16,29),(15,0),(14,0),(13,10),(12,0),(11,0),(10,1),(9,0),(8,0),(0,0)]) (fuel:=0) (E:=([(2,Zw b_2)]:Env)) rfl kD kA ?_
 refine Ql kA ?_
 refine Qt ?_
 refine Qd (zR (zM ?_))
 refine zV (QG rfl) ?_
 refine zF YC ?_
 refine zA (zN (Qo ?_))
 have hD:=zz4 I
 refine Zn ?_
 refine QL I [] mixed ?_
 refine zjh (([(7,14),(6,34),(5,29),(4,10),(3,1),(0,0)]:List (Nat×Nat)).map (zix b)++([(2,Zw b_2)]:Env)) (.cons rfl (.cons rfl (.cons rfl (.cons rfl (.cons rfl (.cons rfl (.cons rfl (.nil)))))))) ?_
 refine zf5 (b:=b) (ft:=[(45,0,0),(32,0,0),(32,1,1),(32,2,2),(32,3,3),(32,4,4),(32,5,5),(32,6,6),(30,0,0),(30,1,1),(30,2,2),(39,0,0),(39,1,1),(39,2,2),(39,3,3),(36,0,0),(36,1,1),(36,2,2),(36,3,3),(36,4,4),(36,5,5),(36,6,6),(36,7,7),(36,8,8),(36,9,9),(36,10,10),(34,0,0),(34,1,1),(36,11,12),(41,0,0),(41,1,1),(41,2,2),(41,3,3),(41,4,4),(43,0,0),(43,1,1),(43,2,2),(43,3,3),(43,4,4),(43,5,5),(43,8,8),(43,9,9),(43,10,10)]) (N:=157) (n:=135) ziU kA JK hD kF rfl rfl 133 0 (se:=[(7,14),(6,34),(5,29),(4,10),(3,1),(0,0)]) (se':=[(155,44),(154,34),(153,34),(152,43),(151,34),(150,34),(149,42),(148,34),(147,34),(146,39),(145,34),(144,34),(143,38),(142,34),(141,34),(140,37),(139,34),(138,34),(137,36),(136,34),(135,34),(134,35),(133,34),(132,34),(131,34),(130,34),(129,34),(128,33),(127,29),(126,29),(125,32),(124,29),(123,29),(122,31),(121,29),(120,29),(119,30),(118,29),(117,29),(116,29),(115,29),(114,29),(113,27),(112,26),(111,14),(110,14),(109,26),(108,26),(107,14),(106,14),(105,25),(104,24),(103,14),(102,14),(101,24),(100,24),(99,14),(98,14),(97,23),(96,14),(95,14),(94,22),(93,14),(92,14),(91,21),(90,14),(89,14),(88,20),(87,14),(86,14),(85,19),(84,14),(83,14),(82,18),(81,14),(80,14),(79,17),(78,14),(77,14),(76,16),(75,14),(74,14),(73,15),(72,14),(71,14),(70,14),(69,14),(68,14),(67,13),(66,10),(65,10),(64,12),(63,10),(62,10),(61,11),(60,10),(59,10),(58,10),(57,10),(56,10),(55,9),(54,7),(53,1),(52,1),(51,8),(50,7),(49,1),(48,1),(47,7),(46,7),(45,1),(44,1),(43,6),(42,1),(41,1),(40,5),(39,1),(38,1),(37,4),(36,1),(35,1),(34,3),(33,1),(32,1),(31,2),(30,1),(29,1),(28,1),(27,1),(26,1),(25,0),(24,0),(23,0),(7,14),(6,34),(5,29),(4,10),(3,1),(0,0)]) (fuel:=2) (E:=([(2,Zw b_2)]:Env)) rfl kD kA ?_
 refine zt0 133 rfl (Vr (ps:=((List.range 42).zip zi8).map (zix b)) (zuq b) zfO zjE (zgG kA) kA) hD ?_
 refine zjh [(156,zzd b),(2,Zw b_2)] (.cons rfl (.cons rfl .nil)) ?_
 refine qd 134 rfl ?_
 refine zh zkt ?_
 refine Qb ?_
 refine zD hD ?_
 refine Ql kA ?_
 refine Qt ?_
 refine Qd (Qs ?_)
 exact ZX rfl rfl zld zz2 rfl (fun w hw=>⟨by rfl,hw.drop⟩)
end
section
open Go Go.Kn Go.Proofs
theorem zne {I:Qu}{av:Option Addr}{n c:Nat}{xs:List Int}(hS:Sl I 1 Z5 av n c xs)(hn:n≤100000):Vs Tryz.prog 150 [.slice av n c] I [] (fun v I' L'=>∃ sv,v=zzp sv∧I'=I∧ZW 158 4 sv n ((xs.map vcI).flatMap Za) L'):=by
 intro g H w hw
 refine qe Tryz.func150 Tryz.ntmps150 hw ?_
 have hln:=hS.len
 refine zR ?_
 refine Qr YR rfl rfl (fun b_2=>?_)
 refine zN (zR ?_)
 refine zV (QI (ps:=[(0,_)]) [_,_,_,_] KV rfl rfl) ?_
 refine Qr YR rfl rfl (fun b_3=>?_)
 refine zh ZD ?_
 refine zN (Qo (zR (zM ?_)))
 refine zQ ZF ?_
 refine zM (zN (Qx ?_))
 refine zU [(2,_),(3,_),(7,_),(8,_)] (fun T L0 mz E I' loc'=>∃ (k:Nat) (v:Value) (L:Go.Kn.Loc),mz=n-k∧E=(9,.int .i64 k)::T∧I=I'∧L++[(b_3,.cells #[.int .i64 3,.int .i64 0,.string ⟨#[]⟩,v] 158 (0,0)),(b_2,.cells (#[.int .i64 0,.int .i64 0,.string ⟨#[]⟩,.slice none 0 0]) 158 (0,0))]=loc'∧k≤n∧ZW 158 4 v k (((xs.take k).map vcI).flatMap Za) L) ?_ (h:=⟨0,_,[],rfl,rfl,rfl,rfl,Nat.zero_le _,ZW.nil⟩)
 rintro mz E I' loc' ⟨k,v,L,rfl,rfl,rfl,rfl,hk,hO⟩
 refine zR (zC (zN (Qo ?_)))
 refine zI ?_ ?_<;>intro hc10
 ·
  have hlt_k:k<n:=by have h:=hc10;simp at h;omega
  obtain ⟨x,hx⟩:∃ x,xs[k]? =some x:=⟨_,List.getElem?_eq_getElem kB⟩
  refine Qp (Qd (Qo (Qx (zR ?_))))
  refine zV (zX ZF hS) ?_
  refine zV (Qc rfl Qm (fun hg=>by exact zzX hS hx rfl)) ?_
  refine zA (zN (Qi ?_))
  refine zF QV ?_
  refine zV (Qc rfl Zr (fun hg=>by (repeat (first | exact zzZ rfl | apply zzY | apply zz0)))) ?_
  refine zM ?_
  refine zV (QI (ps:=[(0,_),(1,_)]) [_,_,_,_] KV rfl rfl) ?_
  refine zpb [(0,_)] [Za (vcI x)] Zy (fun b_17=>?_)
  refine zpa (_) (([vcI x]:List Vc).flatMap Za) (L) rfl rfl Zy hO ⟨rfl,fun _=>rfl,by repeat (first | exact zz2 | apply zz1 | apply zz3)⟩ (Jb [vcI x]) ?_
  intro v2 L2 hO2 _;rw [←List.flatMap_append] at hO2;obtain ⟨a2,c2,rfl⟩:=hO2.shape
  refine zF QV ?_
  refine zS Y8 ?_
  refine Qb (Qj (Qd (Qi (zB ?_))))
  refine zM (Qb ?_)
  exact zm (h:=⟨n-(k+1),kB,k+1,_,_,rfl,rfl,rfl,rfl,kB,by rw [Zd hx,List.map_append];exact hO2⟩)
 have hge_k:n≤k:=by have h:=hc10;simp at h;omega
 obtain rfl:k=n:=kB
 obtain ⟨a3,c3,rfl⟩:=hO.shape
 have hke:xs.take k=xs:=List.take_of_length_le kB
 rw [hke] at hO
 refine Q6 (Qn (Qn (Qw (Qd (zR ?_)))))
 refine zV (Qg rfl Zq (fun hg=>by exact zz3 .here) rfl) ?_
 refine zh ZD ?_
 refine zN (Qs ?_)
 exact ZX rfl rfl Zq (zz3 (.there .here)) rfl (fun w hw=>⟨_,I,_,rfl,zz4 _,hw.subL QH,_,rfl,rfl,hO⟩)
end
section
open Go Go.Kn Go.Proofs
def YS (x:Nt):List Int:=[x.kind,x.lm.no,x.lm.person,x.lm.ends,x.lm.lo,x.lm.hi,x.lm.known,x.lm.ck,x.lm.cl,x.lm.cn,x.pt.id,x.pt.kind,x.pt.sign,x.pt.field,x.pt.nw.id,x.pt.nw.role,x.pt.nw.bar,x.pt.nw.mark,x.pt.nw.kind,x.pt.nw.side,x.pt.nw.dir,x.pt.nw.level,x.pt.nw.size,x.pt.nw.wth,x.pt.nw.fn,x.pt.nw.fd,x.pt.nw.tn,x.pt.nw.td,x.ls.no,x.ls.person,x.ls.version,x.ls.at_,x.ls.known,x.rt.no,x.rt.kind,x.rt.edition,x.rt.holder,x.rt.sign,x.rt.ends,x.rt.lo,x.rt.hi,x.rt.known]
theorem YK (x:Nt):(YS x).length=42:=rfl
theorem znb (x:Nt):zi8.map (fun o=>(Q4 x)[o]?)=(YS x).map (fun y=>some (.int .i64 y)):=rfl
theorem zoS {x:Nt}{k:Nat}{y:Int}(h:(YS x)[k]? =some y):(Q4 x)[zi8.getD k 0]? =some (.int .i64 y):=by
 have e:=congrArg (·[k]?) (znb x)
 simp only [List.getElem?_map,h,Option.map_some] at e
 cases ho:zi8[k]? with
 | none=>rw [ho] at e;cases e
 | some o=>
  rw [ho] at e
  simp only [Option.map_some,Option.some.injEq] at e
  rw [List.getD_eq_getElem?_getD,ho];exact e
theorem zk0 {b k:Nat}(hk:k<42):(zuq b)[k]? =some (.pointer (some ⟨b,zi8.getD k 0,none⟩)):=by
 unfold zuq
 rw [List.getElem?_map,List.getD_eq_getElem?_getD]
 have:k<zi8.length:=hk
 rw [List.getElem?_eq_getElem this];rfl
theorem zjn {I:Qu}{loc:Go.Kn.Loc}{b t:Nat}{fz:Nat×Nat}{x:Nt}{k:Nat}{y:Int}(h:BxI I b (.cells (Q4 x).toArray t fz))(hk:(YS x)[k]? =some y):QA I loc b (zi8.getD k 0) (.int .i64 y):=by
 have:=(BxI.cells (loc:=loc) (vs:=Q4 x) h) _ _ (zoS hk)
 rwa [Nat.zero_add] at this
def KF (x:Nt):Va:=.list ((YS x).map .int++[.list (x.pt.needs.map .int),.text (K9 x.rt.name),.text (K9 x.rt.town)])
def KA (x:Nt):List Nat:=Va.enc (KF x)
def zaB (x:Nt):ByteArray:=Wl (KA x)
theorem XB (s:ByteArray):Wl (K9 s)=s:=by
 unfold Wl K9
 congr 1
 rw [List.map_map]
 have:(UInt8.ofNat ∘ UInt8.toNat)=id:=by funext c;simp
 rw [this,List.map_id]
theorem zhI {I:Qu}(xs:List Int)(k:Nat)(x:Va)(y:Vc)(hx:(xs.map Va.int)[k]? =some x)(hy:(xs.map vcI)[k]? =some y):VaR I x y:=by
 rw [List.getElem?_map] at hx hy
 cases h:xs[k]? with
 | none=>rw [h] at hx;cases hx
 | some n=>rw [h] at hx hy;cases hx;cases hy;exact .int n
theorem WS {I:Qu}{a7 a8:Option Addr}{n c7 c8:Nat}{x:Nt}(h7:Sl I 4 Za a7 n c7 (x.pt.needs.map vcI))(h8:Sl I 4 Za a8 45 c8 ((YS x).map vcI++[⟨3,0,⟨#[]⟩,a7,n,c7⟩,vcT x.rt.name,vcT x.rt.town])):VaR I (KF x) ⟨3,0,⟨#[]⟩,a8,45,c8⟩:=by
 refine .list h8 kH fun k u y hu hy=>?_
 by_cases hk:k<42
 ·
  rw [List.getElem?_append_left (by rw [List.length_map,YK];exact hk)] at hu hy
  exact zhI _ k u y hu hy
 ·
  rw [List.getElem?_append_right (by simp [YK];omega)] at hu hy
  simp only [List.length_map,YK] at hu hy
  match hj:k-42,hu,hy with
  | 0,hu,hy=>cases hu;cases hy;exact .list h7 kH (zhI _)
  | 1,hu,hy=>cases hu;cases hy;have:=VaR.text (I:=I) (K9 x.rt.name);rwa [XB] at this
  | 2,hu,hy=>cases hu;cases hy;have:=VaR.text (I:=I) (K9 x.rt.town);rwa [XB] at this
  | _+3,hu,hy=>cases hu
theorem zcM (xs:List Int):Va.depthL (xs.map .int)=0:=by
 induction xs with
 | nil=>rfl
 | cons a l ih=>simp [Va.depthL,Va.depth,ih]
theorem X6:∀ (a b:List Va),Va.depthL (a++b)=max (Va.depthL a) (Va.depthL b)
 | [],b=>by simp [Va.depthL]
 | x::a,b=>by simp [Va.depthL,X6 a b,Nat.max_assoc]
theorem JB (x:Nt):Va.depth (KF x)≤16:=by
 unfold KF
 rw [Va.depth,X6,zcM]
 simp [Va.depthL,Va.depth,zcM]
structure NtM (I:Qu)(x:Nt):Prop where
 nd:Nd I x.pt
 nn:x.pt.n≤100000
 ok:Va.ok (KF x)
 len:(KA x).length≤900000
theorem NtM.mono {I I':Qu}{x:Nt}(h:NtM I x)(hI:HLe I I'):NtM I' x:=⟨h.nd.mono hI,h.nn,h.ok,h.len⟩
def zxW (a b:ByteArray):Int:=Lib.compareBytes a.data.toList b.data.toList
def Vv (x y:Nt):Int:=zxW (zaB x) (zaB y)
def zcp (pre:List Nt)(x:Nt):Bool:= !QM x||(match pre.getLast? with | none=>false | some y=>decide (Vv y x≥0))
def zbM:List Nt→List Nt→Bool
 | _,[]=>true
 | pre,x::l=> !zcp pre x&&zbM (pre++[x]) l
def ZL (xs:List Nt):Bool:=zbM [] xs&&decide (xs.length≤4096)
theorem XE:∀ (xs pre:List Nt),zbM pre xs=true↔ ∀ j y,xs[j]? =some y→zcp (pre++xs.take j) y=false
 | [],pre=>by simp [zbM]
 | x::l,pre=>by
  rw [zbM,Bool.and_eq_true,XE l]
  constructor
  ·
   rintro ⟨h1,h2⟩ j y hy
   cases j with
   | zero=>cases hy;simpa using h1
   | succ j=>have:=h2 j y hy;simpa [List.append_assoc] using this
  ·
   intro h
   refine ⟨by have:=h 0 x rfl;simpa using this,fun j y hy=>?_⟩
   have:=h (j+1) y hy
   simpa [List.append_assoc] using this
theorem Xv {xs:List Nt}{k:Nat}{x:Nt}(hx:xs[k]? =some x)(h:zcp (xs.take k) x=true):ZL xs=false:=by
 unfold ZL
 cases hg:zbM [] xs with
 | false=>rfl
 | true=>
  have:=(XE xs []).1 hg k x hx
  rw [List.nil_append,h] at this;cases this
theorem zdY {xs:List Nt}(h:∀ j y,j<xs.length→xs[j]? =some y→zcp (xs.take j) y=false):ZL xs=decide ((xs.length:Int)≤4096):=by
 unfold ZL
 have:zbM [] xs=true:=(XE xs []).2 fun j y hy=>by
  rw [List.nil_append];exact h j y (List.getElem?_eq_some_iff.1 hy).1 hy
 rw [this,Bool.true_and]
 simp only [decide_eq_decide];omega
theorem zla {xs:List Nt}{k:Nat}{y:Nt}(hy:xs[k]? =some y):(xs.take (k+1)).getLast?=some y:=by
 rw [Zd hy];simp
structure zbd (I:Qu)(av:Option Addr)(n c:Nat)(xs:List Nt):Prop where
 sl:Sl I 45 Q4 av n c xs
 nd:∀ x∈xs,Nd I x.pt
 m:∀ x∈xs,QM x=true→NtM I x
theorem zbd.mono {I I':Qu}{av:Option Addr}{n c:Nat}{xs:List Nt}(h:zbd I av n c xs)(hI:HLe I I'):zbd I' av n c xs:=⟨h.sl.mono hI,fun x hx=>(h.nd x hx).mono hI,fun x hx hf=>(h.m x hx hf).mono hI⟩
theorem zel {pre:List Nt}{x:Nt}(h:QM x=false):zcp pre x=true:=by simp [zcp,h]
theorem zdu {x:Nt}(h:QM x=true):zcp [] x=false:=by simp [zcp,h]
theorem Ub {xs:List Nt}{k:Nat}{x y:Nt}(h:QM x=true)(hk:0<k)(hy:xs[((k:Int)-1).toNat]? =some y):zcp (xs.take k) x=decide (Vv y x≥0):=by
 have e:((k:Int)-1).toNat=k-1:=kB
 rw [e] at hy
 have:=zla hy
 rw [show k-1+1=k by omega] at this
 simp [zcp,h,this]
theorem zcl {pre:List Nt}{x:Nt}(h:zcp pre x=false):QM x=true:=by
 unfold zcp at h
 cases hf:QM x with
 | true=>rfl
 | false=>rw [hf] at h;simp at h
end
section
open Go Go.Kn Go.Proofs
theorem Ju:QJ Tryz.prog 43 6 6:=.of kA
theorem JE:QJ Tryz.prog 43 7 7:=.of kA
theorem zmI:Fun Tryz.prog 129:=.of Tryz.func129 kA kA
theorem zgl:Fun Tryz.prog 150:=.of Tryz.func150 kA kA
theorem zgf:Fun Tryz.prog 151:=.of Tryz.func151 kA kA
theorem zmz {I:Qu}(x:Nt)(hN:Nd I x.pt)(hnn:x.pt.n≤100000)(hok:Va.ok (KF x))(hb:(KA x).length≤900000):ZA Tryz.prog 79 [Ke x] I (.string (zaB x)):=by
 intro g H w hw
 refine qe Tryz.func79 Tryz.ntmps79 hw ?_
 have hIc:=zz4 I
 refine zR ?_
 refine QO rfl rfl rfl (fun b_1=>?_)
 refine zA (Qb ?_)
 refine QF .here (fun I1 hI1 hb1=>?_)
 have hN:=hN.mono hI1;have hIc:=hIc.trans hI1
 have h1:=BxI.of hb1
 refine Qd (zR ?_)
 refine zpc [_] rfl zgl .nil (zne (xs:=[]) Sl.nil kD) ?_
 rintro vv2 I2 L2 hI2 ⟨sv1,rfl,rfl,hO1⟩
 have hN:=hN.mono hI2;have h1:=h1.mono hI2;have hIc:=hIc.trans hI2
 obtain ⟨a1,c1,rfl⟩:=hO1.shape
 refine Qr YR rfl rfl (fun b_3=>?_)
 refine zh ZD ?_
 refine zN (Qo (Qo ?_))
 refine zuJ (_++[_]) (List.perm_append_singleton _ _) ?_
 refine Qi ?_
 refine qcV (vs:=[_]) rfl zmI (zh6 _ _) ?_
 refine zM (zN (Qx ?_))
 refine zU [(1,_),(3,_),(9,_)] (fun T L0 mz E I' loc'=>∃ (k:Nat) (v:Value) (L:Go.Kn.Loc),mz=42-k∧E=(10,.int .i64 k)::T∧I2=I'∧L++[(b_3,.cells #[.int .i64 3,.int .i64 0,.string ⟨#[]⟩,v] 158 (0,0))]=loc'∧k≤42∧ZW 158 4 v k ((((YS x).take k).map vcI).flatMap Za) L) ?_ (h:=⟨0,_,_,rfl,rfl,rfl,rfl,Nat.zero_le _,by rw [List.append_nil];exact hO1⟩)
 rintro mz E I' loc' ⟨k,v,L,rfl,rfl,rfl,rfl,hk,hO⟩
 refine zR (zC (zN (Qo ?_)))
 refine zI ?_ ?_<;>intro hc11
 ·
  have hlt_k:k<42:=by have h:=hc11;simp at h;omega
  obtain ⟨y,hy⟩:∃ y,(YS x)[k]? =some y:=⟨_,List.getElem?_eq_getElem (by rw [YK];omega)⟩
  refine Qp (Qd (Qo (Qx (zR ?_))))
  refine zV (KN rfl rfl zfO UH (fun hg=>kB) (fun hg=>show (zuq b_1)[((k:Int)).toNat*1]? =some (.pointer (some ⟨b_1,zi8.getD k 0,none⟩)) by rw [Nat.mul_one,Int.toNat_natCast];exact zk0 kB)) ?_
  refine zA (zN ?_)
  have hD:=zz4 I2
  refine Zn ?_
  refine QL I2 [] mixed ?_
  refine zT 0 rfl (Qa rfl QV) hD ?_
  refine zT 2 rfl (Qe rfl) hD ?_
  refine zT 3 rfl (QG rfl) hD ?_
  refine zT 4 rfl (Qc rfl Qm (fun hg=>by exact zjn h1 hy)) hD ?_
  refine zT 5 rfl (QI (ps:=[(0,_),(1,_)]) [_,_,_,_] KV rfl rfl) hD ?_
  refine QS 1 6 rfl rfl kA ?_ ?_
  ·
   refine zV (Qc rfl Zr (fun hg=>by (repeat (first | exact zzZ rfl | apply zzY | apply zz0)))) ?_
   refine Qb ?_
   refine zD hD ?_
   refine qd 6 rfl ?_
   refine zpb [(0,_)] [Za (vcI y)] Zy (fun b_19=>?_)
   refine Qb ?_
   refine zD hD ?_
   refine qd 7 rfl ?_
   refine zpa (_) (([vcI y]:List Vc).flatMap Za) (L) rfl rfl Zy hO ⟨rfl,fun _=>rfl,by repeat (first | exact zz2 | apply zz1 | apply zz3)⟩ (Jb [vcI y]) ?_
   intro v2 L2 hO2 _;rw [←List.flatMap_append] at hO2;obtain ⟨a2,c2,rfl⟩:=hO2.shape
   refine Qb ?_
   refine zD hD ?_
   refine zT 8 rfl (Qa rfl QV) hD ?_
   refine qd 9 rfl ?_
   refine zS Y8 ?_
   refine Qb ?_
   refine zD hD ?_
   refine Ql kA ?_
   refine Qt ?_
   refine Qj (Qd (Qi (zB ?_)))
   refine zM (Qb ?_)
   exact zm (h:=⟨42-(k+1),kB,k+1,_,_,rfl,rfl,rfl,rfl,kB,by rw [Zd hy,List.map_append];exact hO2⟩)
  refine zpb [(0,_)] [Za (vcI y)] Zy (fun b_19=>?_)
  refine Qb ?_
  refine zD hD ?_
  refine qd 1 rfl ?_
  refine zV (Qc rfl Zr (fun hg=>by (repeat (first | exact zzZ rfl | apply zzY | apply zz0)))) ?_
  refine Qb ?_
  refine zD hD ?_
  refine qd 7 rfl ?_
  refine zpa (_) (([vcI y]:List Vc).flatMap Za) (L) rfl rfl Zy hO ⟨rfl,fun _=>rfl,by repeat (first | exact zz2 | apply zz1 | apply zz3)⟩ (Jb [vcI y]) ?_
  intro v2 L2 hO2 _;rw [←List.flatMap_append] at hO2;obtain ⟨a2,c2,rfl⟩:=hO2.shape
  refine Qb ?_
  refine zD hD ?_
  refine zT 8 rfl (Qa rfl QV) hD ?_
  refine qd 9 rfl ?_
  refine zS Y8 ?_
  refine Qb ?_
  refine zD hD ?_
  refine Ql kA ?_
  refine Qt ?_
  refine Qj (Qd (Qi (zB ?_)))
  refine zM (Qb ?_)
  exact zm (h:=⟨42-(k+1),kB,k+1,_,_,rfl,rfl,rfl,rfl,kB,by rw [Zd hy,List.map_append];exact hO2⟩)
 have hge_k:42≤k:=by have h:=hc11;simp at h;omega
 obtain rfl:k=42:=kB
 obtain ⟨a3,c3,rfl⟩:=hO.shape
 have hke:(YS x).take 42=YS x:=rfl
 rw [hke] at hO
 refine Q6 (Qn (Qn (Qw (Qd (Qo ?_)))))
 have hD:=zz4 I2
 refine Zn ?_
 refine QL I2 [] mixed ?_
 refine zT 0 rfl (Qa rfl QV) hD ?_
 refine zT 2 rfl (Qa rfl ZZ) hD ?_
 refine zT 3 rfl (Qa rfl ZK) hD ?_
 refine zT 4 rfl (Qc rfl Vi (fun hg=>by exact QA.imm h1.out rfl)) hD ?_
 refine zT 6 rfl (Qa rfl Z0) hD ?_
 refine zT 7 rfl (Qa rfl Ju) hD ?_
 refine zT 8 rfl (Qc rfl VS (fun hg=>by exact QA.imm h1.out rfl)) hD ?_
 refine zT 9 rfl (QI (ps:=[(0,_),(2,_)]) [_,_,_,_] KV rfl rfl) hD ?_
 refine zT 10 rfl (Qa rfl Z0) hD ?_
 refine zT 11 rfl (Qa rfl JE) hD ?_
 refine zT 12 rfl (Qc rfl VS (fun hg=>by exact QA.imm h1.out rfl)) hD ?_
 refine zT 13 rfl (QI (ps:=[(0,_),(2,_)]) [_,_,_,_] KV rfl rfl) hD ?_
 refine QS 1 5 rfl rfl kA ?_ ?_
 ·
  refine zV (Qc rfl Zr (fun hg=>by (repeat (first | exact zzZ rfl | apply zzY | apply zz0)))) ?_
  refine Qb ?_
  refine zD hD ?_
  refine qd 5 rfl ?_
  refine zpc [_] rfl zgl .nil (zne hN hnn) ?_
  rintro vv4 I4 L4 hI4 ⟨sv7,rfl,rfl,hO7⟩
  have hIc:=hIc.trans hI4;have hD:=hD.trans hI4
  obtain ⟨a7,c7,rfl⟩:=hO7.shape
  refine Qb ?_
  refine zD hD ?_
  refine qd 14 rfl ?_
  refine zpb [(0,_),(1,_),(2,_)] [Za ⟨3,0,⟨#[]⟩,a7,x.pt.n,c7⟩,Za (vcT x.rt.name),Za (vcT x.rt.town)] Zy (fun b_37=>?_)
  refine Qb ?_
  refine zD hD ?_
  refine qd 15 rfl ?_
  refine zpa (_) (([⟨3,0,⟨#[]⟩,a7,x.pt.n,c7⟩,vcT x.rt.name,vcT x.rt.town]:List Vc).flatMap Za) (L) rfl rfl Zy hO ⟨rfl,fun _=>rfl,by repeat (first | exact zz2 | apply zz1 | apply zz3)⟩ (Jb [⟨3,0,⟨#[]⟩,a7,x.pt.n,c7⟩,vcT x.rt.name,vcT x.rt.town]) ?_
  intro v8 L8 hO8 _;rw [←List.flatMap_append] at hO8;obtain ⟨a8,c8,rfl⟩:=hO8.shape
  refine Qb ?_
  refine zD hD ?_
  refine zT 16 rfl (Qa rfl QV) hD ?_
  refine qd 17 rfl ?_
  refine zS Y8 ?_
  refine Qb ?_
  refine zD hD ?_
  refine Ql kA ?_
  refine Qt ?_
  refine Qd (Qo ?_)
  refine zx4 hO7 Vg (fun I5 hI5 af5 cf5 ef5 hM7=>?_)
  cases ef5
  have hIc:=hIc.trans hI5
  refine zx4 hO8 Vg (fun I6 hI6 af6 cf6 ef6 hM8=>?_)
  cases ef6
  have hM7:=hM7.mono hI6;have hIc:=hIc.trans hI6
  refine Qi ?_
  refine zV (Qg rfl Zq (fun hg=>by exact Cells.g1) rfl) ?_
  refine zpc [_] rfl zgf .nil (zd5 (x:=KF x) (cv:=⟨3,0,⟨#[]⟩,a8,45,c8⟩) (WS hM7 hM8) (JB x) hok hb) ?_
  rintro vv7 I7 L7 hI7 ⟨bv,rfl,hOb⟩
  have hIc:=hIc.trans hI7
  refine zM ?_
  refine zE ?_
  refine zE ?_
  refine zA ?_
  refine zA (zN (Qo ?_))
  refine zx4 hOb Y4 (fun I8 hI8 af8 cf8 ef8 hB=>?_)
  subst ef8
  have hIc:=hIc.trans hI8
  refine Qi (zM ?_)
  refine zV (Zv rfl bst (fun hg=>hB)) ?_
  refine zA (zN (Qs ?_))
  exact zp hIc rfl rfl kU
 refine zpc [_] rfl zgl .nil (zne hN hnn) ?_
 rintro vv9 I9 L9 hI9 ⟨sv7,rfl,rfl,hO7⟩
 have hIc:=hIc.trans hI9;have hD:=hD.trans hI9
 obtain ⟨a7,c7,rfl⟩:=hO7.shape
 refine Qb ?_
 refine zD hD ?_
 refine QS 1 14 rfl rfl kA ?_ ?_
 ·
  refine zV (Qc rfl Zr (fun hg=>by (repeat (first | exact zzZ rfl | apply zzY | apply zz0)))) ?_
  refine Qb ?_
  refine zD hD ?_
  refine qd 14 rfl ?_
  refine zpb [(0,_),(1,_),(2,_)] [Za ⟨3,0,⟨#[]⟩,a7,x.pt.n,c7⟩,Za (vcT x.rt.name),Za (vcT x.rt.town)] Zy (fun b_37=>?_)
  refine Qb ?_
  refine zD hD ?_
  refine qd 15 rfl ?_
  refine zpa (_) (([⟨3,0,⟨#[]⟩,a7,x.pt.n,c7⟩,vcT x.rt.name,vcT x.rt.town]:List Vc).flatMap Za) (L) rfl rfl Zy hO ⟨rfl,fun _=>rfl,by repeat (first | exact zz2 | apply zz1 | apply zz3)⟩ (Jb [⟨3,0,⟨#[]⟩,a7,x.pt.n,c7⟩,vcT x.rt.name,vcT x.rt.town]) ?_
  intro v8 L8 hO8 _;rw [←List.flatMap_append] at hO8;obtain ⟨a8,c8,rfl⟩:=hO8.shape
  refine Qb ?_
  refine zD hD ?_
  refine zT 16 rfl (Qa rfl QV) hD ?_
  refine qd 17 rfl ?_
  refine zS Y8 ?_
  refine Qb ?_
  refine zD hD ?_
  refine Ql kA ?_
  refine Qt ?_
  refine Qd (Qo ?_)
  refine zx4 hO7 Vg (fun I10 hI10 af10 cf10 ef10 hM7=>?_)
  cases ef10
  have hIc:=hIc.trans hI10
  refine zx4 hO8 Vg (fun I11 hI11 af11 cf11 ef11 hM8=>?_)
  cases ef11
  have hM7:=hM7.mono hI11;have hIc:=hIc.trans hI11
  refine Qi ?_
  refine zV (Qg rfl Zq (fun hg=>by exact Cells.g1) rfl) ?_
  refine zpc [_] rfl zgf .nil (zd5 (x:=KF x) (cv:=⟨3,0,⟨#[]⟩,a8,45,c8⟩) (WS hM7 hM8) (JB x) hok hb) ?_
  rintro vv12 I12 L12 hI12 ⟨bv,rfl,hOb⟩
  have hIc:=hIc.trans hI12
  refine zM ?_
  refine zE ?_
  refine zE ?_
  refine zA ?_
  refine zA (zN (Qo ?_))
  refine zx4 hOb Y4 (fun I13 hI13 af13 cf13 ef13 hB=>?_)
  subst ef13
  have hIc:=hIc.trans hI13
  refine Qi (zM ?_)
  refine zV (Zv rfl bst (fun hg=>hB)) ?_
  refine zA (zN (Qs ?_))
  exact zp hIc rfl rfl kU
 refine zpb [(0,_),(1,_),(2,_)] [Za ⟨3,0,⟨#[]⟩,a7,x.pt.n,c7⟩,Za (vcT x.rt.name),Za (vcT x.rt.town)] Zy (fun b_37=>?_)
 refine Qb ?_
 refine zD hD ?_
 refine qd 1 rfl ?_
 refine zV (Qc rfl Zr (fun hg=>by (repeat (first | exact zzZ rfl | apply zzY | apply zz0)))) ?_
 refine Qb ?_
 refine zD hD ?_
 refine qd 15 rfl ?_
 refine zpa (_) (([⟨3,0,⟨#[]⟩,a7,x.pt.n,c7⟩,vcT x.rt.name,vcT x.rt.town]:List Vc).flatMap Za) (L) rfl rfl Zy hO ⟨rfl,fun _=>rfl,by repeat (first | exact zz2 | apply zz1 | apply zz3)⟩ (Jb [⟨3,0,⟨#[]⟩,a7,x.pt.n,c7⟩,vcT x.rt.name,vcT x.rt.town]) ?_
 intro v8 L8 hO8 _;rw [←List.flatMap_append] at hO8;obtain ⟨a8,c8,rfl⟩:=hO8.shape
 refine Qb ?_
 refine zD hD ?_
 refine zT 16 rfl (Qa rfl QV) hD ?_
 refine qd 17 rfl ?_
 refine zS Y8 ?_
 refine Qb ?_
 refine zD hD ?_
 refine Ql kA ?_
 refine Qt ?_
 refine Qd (Qo ?_)
 refine zx4 hO7 Vg (fun I14 hI14 af14 cf14 ef14 hM7=>?_)
 cases ef14
 have hIc:=hIc.trans hI14
 refine zx4 hO8 Vg (fun I15 hI15 af15 cf15 ef15 hM8=>?_)
 cases ef15
 have hM7:=hM7.mono hI15;have hIc:=hIc.trans hI15
 refine Qi ?_
 refine zV (Qg rfl Zq (fun hg=>by exact Cells.g1) rfl) ?_
 refine zpc [_] rfl zgf .nil (zd5 (x:=KF x) (cv:=⟨3,0,⟨#[]⟩,a8,45,c8⟩) (WS hM7 hM8) (JB x) hok hb) ?_
 rintro vv16 I16 L16 hI16 ⟨bv,rfl,hOb⟩
 have hIc:=hIc.trans hI16
 refine zM ?_
 refine zE ?_
 refine zE ?_
 refine zA ?_
 refine zA (zN (Qo ?_))
 refine zx4 hOb Y4 (fun I17 hI17 af17 cf17 ef17 hB=>?_)
 subst ef17
 have hIc:=hIc.trans hI17
 refine Qi (zM ?_)
 refine zV (Zv rfl bst (fun hg=>hB)) ?_
 refine zA (zN (Qs ?_))
 exact zp hIc rfl rfl kU
end
section
open Go Go.Kn Go.Proofs
theorem ZB:QJ Tryz.prog 59 0 0:=.of kA
theorem zbp:Fun Tryz.prog 108:=.of Tryz.func108 kA kA
theorem zr8:Fun Tryz.prog 154:=.of Tryz.func154 kA kA
theorem zfv:Fun Tryz.prog 79:=.of Tryz.func79 kA kA
theorem zed:Fun Tryz.prog 81:=.of Tryz.func81 kA kA
theorem YY:ScT Tryz.prog 57:=.of kA
theorem VG:SzT Tryz.prog 45 45:=.of kA
theorem Wn:Y9 Tryz.prog 45 (.agg #[(.int .i64 0),(.int .i64 0),(.int .i64 0),(.int .i64 0),(.int .i64 0),(.int .i64 0),(.int .i64 0),(.int .i64 0),(.int .i64 0),(.int .i64 0),(.int .i64 0),(.int .i64 0),(.int .i64 0),(.int .i64 0),(.int .i64 0),(.int .i64 0),(.int .i64 0),(.int .i64 0),(.int .i64 0),(.int .i64 0),(.int .i64 0),(.int .i64 0),(.int .i64 0),(.int .i64 0),(.int .i64 0),(.int .i64 0),(.int .i64 0),(.int .i64 0),(.slice none 0 0),(.int .i64 0),(.int .i64 0),(.int .i64 0),(.int .i64 0),(.int .i64 0),(.int .i64 0),(.int .i64 0),(.int .i64 0),(.int .i64 0),(.int .i64 0),(.int .i64 0),(.string ⟨#[]⟩),(.string ⟨#[]⟩),(.int .i64 0),(.int .i64 0),(.int .i64 0)]):=.of kA
theorem zv9 (I:Qu)(a b:ByteArray):ZA Tryz.prog 154 [.string a,.string b] I (.int .i64 (zxW a b)):=fun g H w hw=>(Tryz.strings_Compare a b w).mono fun e w' ⟨h1,h2⟩=>⟨h1,h2 ▸ hw⟩
theorem zfk {I:Qu}{x y:Nt}(hX:NtM I x)(hY:NtM I y):ZA Tryz.prog 81 [Ke x,Ke y] I (.int .i64 (Vv x y)):=by
 intro g H w hw
 refine qe Tryz.func81 Tryz.ntmps81 hw ?_
 have hIc:=zz4 I
 refine zR ?_
 refine QO rfl rfl rfl (fun b_2=>?_)
 refine QO rfl rfl rfl (fun b_3=>?_)
 refine zA (Qb ?_)
 refine QF .here (fun I1 hI1 hb1=>?_)
 have hX:=hX.mono hI1;have hY:=hY.mono hI1;have hIc:=hIc.trans hI1
 have h2:=BxI.of hb1
 refine QF .here (fun I2 hI2 hb2=>?_)
 have hX:=hX.mono hI2;have hY:=hY.mono hI2;have h2:=h2.mono hI2;have hIc:=hIc.trans hI2
 have h1:=BxI.of hb2
 refine Qd (Qo ?_)
 have hD:=zz4 I2
 refine Zn ?_
 refine QL I2 [] mixed ?_
 refine zT 0 rfl (Qg rfl Q7 (fun hg=>by exact BxI.cells (vs:=Q4 x) h1) rfl) hD ?_
 refine zT 2 rfl (Qg rfl Q7 (fun hg=>by exact BxI.cells (vs:=Q4 y) h2) rfl) hD ?_
 refine qd 1 rfl ?_
 refine qcV (vs:=[_]) rfl zfv (zmz x hX.nd hX.nn hX.ok hX.len) ?_
 refine Qb ?_
 refine zD hD ?_
 refine qd 3 rfl ?_
 refine qcV (vs:=[_]) rfl zfv (zmz y hY.nd hY.nn hY.ok hY.len) ?_
 refine Qb ?_
 refine zD hD ?_
 refine qd 4 rfl ?_
 refine qcV (vs:=[_,_]) rfl zr8 (zv9 _ _ _) ?_
 refine Qb ?_
 refine zD hD ?_
 refine zT 5 rfl (Qv rfl) hD ?_
 refine Ql kA ?_
 refine Qt ?_
 refine Qd (Qs ?_)
 exact zp hIc rfl rfl kU
theorem zgn {I:Qu}{av:Option Addr}{n c:Nat}{xs:List Nt}(hP:zbd I av n c xs)(hn:n≤100000):ZA Tryz.prog 61 [.agg #[.slice av n c]] I (.bool (ZL xs)):=by
 intro g H w hw
 refine qe Tryz.func61 Tryz.ntmps61 hw ?_
 have hIc:=zz4 I
 have hln:=hP.sl.len
 refine zR ?_
 refine QO rfl rfl rfl (fun b_1=>?_)
 refine zA (Qb ?_)
 refine QF .here (fun I1 hI1 hb1=>?_)
 have hP:=hP.mono hI1;have hIc:=hIc.trans hI1
 have h1:=BxI.of hb1
 refine Qd (Qo (zR ?_))
 refine zF ZB ?_
 refine zV (Qc rfl YY (fun hg=>by exact QA.imm h1.out rfl)) ?_
 refine zQ Q8 ?_
 refine zM (zN (Qx ?_))
 refine zU [(1,_),(6,_),(7,_)] (fun T L0 mz E I' loc'=>∃ (k:Nat),mz=n-k∧E=(8,.int .i64 k)::T∧HLe I1 I'∧L0=loc'∧k≤n∧(∀ j y,j<k→xs[j]? =some y→zcp (xs.take j) y=false)) ?_ (h:=⟨0,rfl,rfl,zz4 _,rfl,Nat.zero_le _,fun j y h=>absurd h (Nat.not_lt_zero _)⟩)
 rintro mz E J2 loc' ⟨k,rfl,rfl,hJ,rfl,hk,hall⟩
 have hP:=hP.mono hJ;have h1:=h1.mono hJ;have hIc:=hIc.trans hJ
 have hB0:=hJ
 refine zR (zC (zN (Qo ?_)))
 refine zI ?_ ?_<;>intro hc9
 ·
  have hlt_k:k<n:=by have h:=hc9;simp at h;omega
  obtain ⟨x,hx⟩:∃ x,xs[k]? =some x:=⟨_,List.getElem?_eq_getElem kB⟩
  have hxm:x∈xs:=List.mem_of_getElem? hx
  refine Qp (Qd (Qo (Qx (zR (zM ?_)))))
  refine zV (QE rfl rfl Q8 hP.sl (fun hg=>kB)) ?_
  refine zV (Qg rfl Q7 (fun hg=>by exact zz5 hP.sl hx) rfl) ?_
  refine Qr Wn rfl rfl (fun b_4=>?_)
  refine zA ?_
  refine zh VG ?_
  refine Qb ?_
  refine QF .here (fun I3 hI3 hb3=>?_)
  have hP:=hP.mono hI3;have h1:=h1.mono hI3;have hIc:=hIc.trans hI3;have hB0:=hB0.trans hI3
  have h4:=BxI.of hb3
  refine Qd (Qo ?_)
  rcases (show QM x=false∨(QM x=true∧k=0)∨(QM x=true∧0<k) by cases QM x<;>simp<;>omega) with hf | ⟨hf,hk⟩ | ⟨hf,hk⟩
  ·
   have hD:=zz4 I3
   refine Zn ?_
   refine QL I3 [] mixed ?_
   refine zT 0 rfl (Qg rfl Q7 (fun hg=>by exact BxI.cells (vs:=Q4 x) h4) rfl) hD ?_
   refine qd 1 rfl ?_
   refine qcV (vs:=[_]) rfl zbp (K5 x (hP.nd x hxm)) ?_
   refine Qb ?_
   refine zD hD ?_
   refine zT 2 rfl (Zs rfl) hD ?_
   rw [hf]
   refine zT 3 rfl (Qe rfl) hD ?_
   refine zW 4 16 hD ?_
   refine zW 5 16 hD ?_
   refine zW 6 16 hD ?_
   refine zW 7 19 hD ?_
   refine zW 8 19 hD ?_
   refine zW 9 19 hD ?_
   refine zW 10 19 hD ?_
   refine zW 11 19 hD ?_
   refine zW 12 19 hD ?_
   refine zW 13 19 hD ?_
   refine zW 14 19 hD ?_
   refine zW 15 19 hD ?_
   refine zW 16 16 hD ?_
   refine zT 17 rfl (Z6 rfl rfl rfl) hD ?_
   refine Ql kA ?_
   refine Qt ?_
   refine Qd ?_
   refine zI ?_ ?_<;>intro hc30
   ·
    have hbad:=zel (pre:=xs.take k) hf
    refine zR (zA (zN (Qs (Qk (Qf (Qf (Qk ?_)))))))
    refine Qf ?_
    exact zp hIc rfl rfl (by rw [Xv hx hbad])
   cases hc30
  ·
   have hk0:decide ((k:Int)>0)=false:=by simp;omega
   have hD:=zz4 I3
   refine Zn ?_
   refine QL I3 [] mixed ?_
   refine zT 0 rfl (Qg rfl Q7 (fun hg=>by exact BxI.cells (vs:=Q4 x) h4) rfl) hD ?_
   refine qd 1 rfl ?_
   refine qcV (vs:=[_]) rfl zbp (K5 x (hP.nd x hxm)) ?_
   refine Qb ?_
   refine zD hD ?_
   refine zT 2 rfl (Zs rfl) hD ?_
   rw [hf]
   refine zT 3 rfl (Qe rfl) hD ?_
   refine zw 4 16 rfl (Qe rfl) hD ?_
   refine zw 5 16 rfl (Qz rfl rfl rfl) hD ?_
   rw [hk0]
   refine zw 6 16 rfl (Qe rfl) hD ?_
   refine zW 7 19 hD ?_
   refine zW 8 19 hD ?_
   refine zW 9 19 hD ?_
   refine zW 10 19 hD ?_
   refine zW 11 19 hD ?_
   refine zW 12 19 hD ?_
   refine zW 13 19 hD ?_
   refine zW 14 19 hD ?_
   refine zW 15 19 hD ?_
   refine zw 16 16 rfl (Z6 rfl rfl rfl) hD ?_
   refine zT 17 rfl (QW rfl rfl rfl) hD ?_
   refine Ql kA ?_
   refine Qt ?_
   refine Qd ?_
   refine zI ?_ ?_<;>intro hc30
   ·
    cases hc30
   have hbad:zcp (xs.take k) x=false:=by rw [hk];exact zdu hf
   refine Qp (Qj (Qd (Qi (zB ?_))))
   refine zM (Qb ?_)
   exact zm (h:=⟨n-(k+1),kB,k+1,rfl,rfl,hB0,rfl,kB,V4 hx hall hbad⟩)
  have hk0:decide ((k:Int)>0)=true:=by simp;omega
  obtain ⟨y,hy⟩:∃ y,xs[((k:Int)-1).toNat]? =some y:=⟨_,List.getElem?_eq_getElem kB⟩
  have hym:y∈xs:=List.mem_of_getElem? hy
  have hfy:=zcl (hall _ y kB hy)
  have hD:=zz4 I3
  refine Zn ?_
  refine QL I3 [] mixed ?_
  refine zT 0 rfl (Qg rfl Q7 (fun hg=>by exact BxI.cells (vs:=Q4 x) h4) rfl) hD ?_
  refine qd 1 rfl ?_
  refine qcV (vs:=[_]) rfl zbp (K5 x (hP.nd x hxm)) ?_
  refine Qb ?_
  refine zD hD ?_
  refine zT 2 rfl (Zs rfl) hD ?_
  rw [hf]
  refine zT 3 rfl (Qe rfl) hD ?_
  refine zw 4 16 rfl (Qe rfl) hD ?_
  refine zw 5 16 rfl (Qz rfl rfl rfl) hD ?_
  rw [hk0]
  refine zw 6 16 rfl (Qe rfl) hD ?_
  refine zw 7 19 rfl (Qa rfl ZB) hD ?_
  refine zw 8 19 rfl (Qc rfl YY (fun hg=>by exact QA.imm h1.out rfl)) hD ?_
  refine zw 9 19 rfl (Qe rfl) hD ?_
  refine zw 10 19 rfl (YE rfl rfl rfl (fun hg=>kB)) hD ?_
  refine zw 11 19 rfl (QE rfl rfl Q8 hP.sl (fun hg=>kB)) hD ?_
  refine zw 12 19 rfl (Qg rfl Q7 (fun hg=>by exact zz5 hP.sl hy) rfl) hD ?_
  refine zw 13 19 rfl (Qg rfl Q7 (fun hg=>by exact BxI.cells (vs:=Q4 x) h4) rfl) hD ?_
  refine qd 14 rfl ?_
  refine QP (dj:=19) rfl rfl rfl ?_
  refine qcV (vs:=[_,_]) rfl zed (zfk (hP.m y hym hfy) (hP.m x hxm hf)) ?_
  refine Qb ?_
  refine zD hD ?_
  refine zw 15 19 rfl (Qz rfl rfl rfl) hD ?_
  refine zw 16 16 rfl (QW rfl rfl rfl) hD ?_
  refine zT 17 rfl (QW rfl rfl rfl) hD ?_
  refine Ql kA ?_
  refine Qt ?_
  refine Qd ?_
  refine zI ?_ ?_<;>intro hc30
  ·
   have hbad:zcp (xs.take k) x=true:=(Ub hf hk hy).trans hc30
   refine zR (zA (zN (Qs (Qk (Qf (Qf (Qk ?_)))))))
   refine Qf ?_
   exact zp hIc rfl rfl (by rw [Xv hx hbad])
  have hbad:zcp (xs.take k) x=false:=(Ub hf hk hy).trans hc30
  refine Qp (Qj (Qd (Qi (zB ?_))))
  refine zM (Qb ?_)
  exact zm (h:=⟨n-(k+1),kB,k+1,rfl,rfl,hB0,rfl,kB,V4 hx hall hbad⟩)
 have hge_k:n≤k:=by have h:=hc9;simp at h;omega
 refine Q6 (Qn (Qn (Qw (Qd (zR ?_)))))
 refine zF ZB ?_
 refine zV (Qc rfl YY (fun hg=>by exact QA.imm h1.out rfl)) ?_
 refine zQ Q8 ?_
 refine zC ?_
 refine zA (zN (Qs ?_))
 exact zp hIc rfl rfl (by rw [zdY (fun j y hj hy=>hall j y kB hy),hln])
end
section
open Go Go.Kn Go.Proofs
structure Pk where
 frm:Int
 to_:Int
 a:Option Addr
 n:Nat
 c:Nat
 data:List Nat
def Zz (x:Pk):List Value:=[.int .i64 x.frm,.int .i64 x.to_,.slice x.a x.n x.c]
def W9 (x:Pk):Value:=.agg (Zz x).toArray
theorem Zu (x:Pk):(Zz x).length=3:=rfl
def K6 (l:Int×Int):List Value:=[.int .i64 l.1,.int .i64 l.2]
def lkV (a b:Int):Bool:=(decide (a≥0)&&decide (a<b))&&decide (b<24)
def pkV (x:Pk):Bool:=lkV (zqa x.frm x.to_) (zfg x.frm x.to_)&&decide ((x.n:Int)≤1048576)
def UK:List Int→List Int→Int
 | [],[]=>0
 | [],_::_=> -1
 | _::_,[]=>1
 | x::xs,y::ys=>if zfx x y=0 then UK xs ys else zfx x y
theorem zig {xs ys:List Int}{k:Nat}{x y:Int}(hx:xs[k]? =some x)(hy:ys[k]? =some y)(h:zfx x y=0):UK (xs.drop k) (ys.drop k)=UK (xs.drop (k+1)) (ys.drop (k+1)):=by
 obtain ⟨h1,e1⟩:=List.getElem?_eq_some_iff.1 hx
 obtain ⟨h2,e2⟩:=List.getElem?_eq_some_iff.1 hy
 rw [List.drop_eq_getElem_cons h1,List.drop_eq_getElem_cons h2,e1,e2,UK,if_pos h]
theorem zk3 {xs ys:List Int}{k:Nat}{x y:Int}(hx:xs[k]? =some x)(hy:ys[k]? =some y)(h:zfx x y≠0):UK (xs.drop k) (ys.drop k)=zfx x y:=by
 obtain ⟨h1,e1⟩:=List.getElem?_eq_some_iff.1 hx
 obtain ⟨h2,e2⟩:=List.getElem?_eq_some_iff.1 hy
 rw [List.drop_eq_getElem_cons h1,List.drop_eq_getElem_cons h2,e1,e2,UK,if_neg h]
theorem zp8 {xs ys:List Int}{k:Nat}{x:Int}(hx:xs[k]? =some x)(h:ys.length≤k):UK (xs.drop k) (ys.drop k)=1:=by
 obtain ⟨h1,e1⟩:=List.getElem?_eq_some_iff.1 hx
 rw [List.drop_eq_getElem_cons h1,List.drop_eq_nil_of_le h,UK]
theorem zoZ {xs ys:List Int}{k:Nat}(h:xs.length≤k)(h2:k<ys.length):UK (xs.drop k) (ys.drop k)= -1:=by
 rw [List.drop_eq_nil_of_le h,List.drop_eq_getElem_cons h2,UK]
theorem zpr {xs ys:List Int}{k:Nat}(h:xs.length≤k)(h2:ys.length≤k):UK (xs.drop k) (ys.drop k)=0:=by
 rw [List.drop_eq_nil_of_le h,List.drop_eq_nil_of_le h2,UK]
theorem zuz {I:Qu}{av:Option Addr}{n c k:Nat}{ks:List (Int×Int)}{l:Int×Int}(h:Sl I 2 K6 av n c ks)(hk:ks[k]? =some l):Sl I 1 Z5 (some ⟨Ab av,Ao av+k*2,none⟩) 2 2 [l.1,l.2]:=
 ⟨rfl,Nat.le_refl _,fun _=>rfl,fun i x hx j u hu=>by
  have h2:=h.cells k l hk i u (by
   match i,j,hx,hu with
   | 0,0,hx,hu=>cases hx;cases hu;rfl
   | 1,0,hx,hu=>cases hx;cases hu;rfl
   | 0,_+1,hx,hu=>cases hu
   | 1,_+1,hx,hu=>cases hu
   | _+2,_,hx,hu=>cases hx)
  have hj:j=0:=by
   match j,hu with
   | 0,_=>rfl
   | _+1,hu=>cases hu
  subst hj
  show QA I [] (Ab av) (Ao av+k*2+i*1+0) u
  rw [Nat.mul_one,Nat.add_zero];exact h2⟩
def zhq (pre:List (Int×Int))(l:Int×Int):Bool:= !lkV l.1 l.2||(match pre.getLast? with | none=>false | some y=>decide (UK [y.1,y.2] [l.1,l.2]≥0))
def zgj:List (Int×Int)→List (Int×Int)→Bool
 | _,[]=>true
 | pre,x::l=> !zhq pre x&&zgj (pre++[x]) l
def UG (qs:List Pk)(ks:List (Int×Int)):Int:=if decide ((qs.length:Int)>4096)||qs.any (fun x=> !pkV x) then 60 else if zgj [] ks then 0 else 60
theorem zb7:∀ (xs pre:List (Int×Int)),zgj pre xs=true↔ ∀ j y,xs[j]? =some y→zhq (pre++xs.take j) y=false
 | [],pre=>by simp [zgj]
 | x::l,pre=>by
  rw [zgj,Bool.and_eq_true,zb7 l]
  constructor
  ·
   rintro ⟨h1,h2⟩ j y hy
   cases j with
   | zero=>cases hy;simpa using h1
   | succ j=>have:=h2 j y hy;simpa [List.append_assoc] using this
  ·
   intro h
   refine ⟨by have:=h 0 x rfl;simpa using this,fun j y hy=>?_⟩
   have:=h (j+1) y hy
   simpa [List.append_assoc] using this
theorem zpL {qs:List Pk}{ks:List (Int×Int)}(h:(decide ((qs.length:Int)>4096)||qs.any (fun x=> !pkV x))=true):UG qs ks=60:=if_pos h
theorem zh5 {qs:List Pk}{ks:List (Int×Int)}{k:Nat}{x:Int×Int}(h:(decide ((qs.length:Int)>4096)||qs.any (fun x=> !pkV x))=false)(hx:ks[k]? =some x)(hb:zhq (ks.take k) x=true):UG qs ks=60:=by
 unfold UG
 rw [h,if_neg kH]
 cases hg:zgj [] ks with
 | false=>rfl
 | true=>
  have:=(zb7 ks []).1 hg k x hx
  rw [List.nil_append,hb] at this;cases this
theorem zly {qs:List Pk}{ks:List (Int×Int)}(h:(decide ((qs.length:Int)>4096)||qs.any (fun x=> !pkV x))=false)(hall:∀ j y,j<ks.length→ks[j]? =some y→zhq (ks.take j) y=false):UG qs ks=0:=by
 unfold UG
 rw [h,if_neg kH,if_pos ((zb7 ks []).2 fun j y hy=>by rw [List.nil_append];exact hall j y (List.getElem?_eq_some_iff.1 hy).1 hy)]
theorem zjK {pre:List (Int×Int)}{x:Int×Int}(h:lkV x.1 x.2=false):zhq pre x=true:=by simp [zhq,h]
theorem znz {x:Int×Int}(h:lkV x.1 x.2=true):zhq [] x=false:=by simp [zhq,h]
theorem zfc {xs:List (Int×Int)}{k:Nat}{x y:Int×Int}(h:lkV x.1 x.2=true)(hk:0<k)(hy:xs[((k:Int)-1).toNat]? =some y):zhq (xs.take k) x=decide (UK [y.1,y.2] [x.1,x.2]≥0):=by
 have e:((k:Int)-1).toNat=k-1:=kB
 rw [e] at hy
 have hl:(xs.take k).getLast?=some y:=by
  rw [show k=k-1+1 by omega,Zd hy];simp
 simp [zhq,h,hl]
def zbC:Pk:=⟨0,0,none,0,0,[]⟩
def atE (qs:List Pk)(ks:List (Int×Int))(i:Int):Int:=if UG qs ks != 0 then 60 else if decide (i<0)||decide (i≥(qs.length:Int)) then 1 else 0
def atP (qs:List Pk)(ks:List (Int×Int))(i:Int):Pk:=if atE qs ks i=0 then qs.getD i.toNat zbC else zbC
theorem zzP {qs:List Pk}{ks:List (Int×Int)}{i:Int}(h:(UG qs ks != 0)=true):atE qs ks i=60∧atP qs ks i=zbC:=by
 have:atE qs ks i=60:=by unfold atE;rw [h];rfl
 exact ⟨this,by unfold atP;rw [this];rfl⟩
theorem zzB {qs:List Pk}{ks:List (Int×Int)}{i:Int}(h:(UG qs ks != 0)=false)(h2:(decide (i<0)||decide (i≥(qs.length:Int)))=true):atE qs ks i=1∧atP qs ks i=zbC:=by
 have:atE qs ks i=1:=by unfold atE;rw [h,h2];rfl
 exact ⟨this,by unfold atP;rw [this];rfl⟩
theorem zzj {qs:List Pk}{ks:List (Int×Int)}{i:Int}{x:Pk}(h:(UG qs ks != 0)=false)(h2:(decide (i<0)||decide (i≥(qs.length:Int)))=false)(hx:qs[i.toNat]? =some x):atE qs ks i=0∧atP qs ks i=x:=by
 have:atE qs ks i=0:=by unfold atE;rw [h,h2];rfl
 exact ⟨this,by unfold atP;rw [this,if_pos rfl,List.getD_eq_getElem?_getD,hx];rfl⟩
def zuj:Value:=.agg #[.slice none 0 0,.slice none 0 0]
theorem zdk {qs:List Pk}{ks:List (Int×Int)}{i:Int}(h:atE qs ks i=0):0≤i∧i<(qs.length:Int):=by
 unfold atE at h
 split at h
 ·
  cases h
 ·
  split at h
  ·
   cases h
  ·
   rename_i h2;simp at h2;omega
def zxZ (v y:Int×Int):Bool:=v.1==y.1&&v.2==y.2
def zqG (ks:List (Int×Int))(p:Pk):Bool:=ks.any (zxZ (zqa p.frm p.to_,zfg p.frm p.to_))
def UE (qs:List Pk)(ks:List (Int×Int))(x:Pk):Int:=if (UG qs ks != 0|| !pkV x)=true then 60 else if ((qs.length:Int)==4096)=true then 2 else 0
theorem zxO {qs:List Pk}{ks:List (Int×Int)}{x:Pk}(h:(UG qs ks != 0|| !pkV x)=true):UE qs ks x=60:=if_pos h
theorem zwq {qs:List Pk}{ks:List (Int×Int)}{x:Pk}(h:(UG qs ks != 0|| !pkV x)=false)(h2:((qs.length:Int)==4096)=true):UE qs ks x=2:=by unfold UE;rw [h,h2];rfl
theorem zqJ {qs:List Pk}{ks:List (Int×Int)}{x:Pk}(h:(UG qs ks != 0|| !pkV x)=false)(h2:((qs.length:Int)==4096)=false):UE qs ks x=0:=by unfold UE;rw [h,h2];rfl
def zi5 (I:Qu)(e:Int)(a:Option Addr)(m c:Nat)(a2:Option Addr)(m2 c2:Nat)(qs:List Pk)(aa:Option Addr)(an ac:Nat):Prop:=
 (e≠0∧a=none∧m=0∧c=0∧a2=none∧m2=0∧c2=0)∨(e=0∧a2=aa∧m2=an∧c2=ac∧Sl I 3 Zz a m c qs)
theorem zi5.mono {I I':Qu}{e:Int}{a a2 aa:Option Addr}{m c m2 c2 an ac:Nat}{qs:List Pk}(h:zi5 I e a m c a2 m2 c2 qs aa an ac)(hI:HLe I I'):zi5 I' e a m c a2 m2 c2 qs aa an ac:=h.imp id fun ⟨h1,h2,h3,h4,h5⟩=>⟨h1,h2,h3,h4,h5.mono hI⟩
theorem XY {I:Qu}{e:Int}{aa:Option Addr}{an ac:Nat}{qs:List Pk}(h:e≠0):zi5 I e none 0 0 none 0 0 qs aa an ac:=.inl ⟨h,rfl,rfl,rfl,rfl,rfl,rfl⟩
theorem zdQ {I:Qu}{e:Int}{a aa:Option Addr}{m c an ac:Nat}{qs:List Pk}(h:e=0)(hS:Sl I 3 Zz a m c qs):zi5 I e a m c aa an ac qs aa an ac:=.inr ⟨h,rfl,rfl,rfl,hS⟩
def WF (qs:List Pk)(ks:List (Int×Int))(i:Int):Int:=if atE qs ks i=0 then UE qs ks (atP qs ks i) else atE qs ks i
def Jn (qs:List Pk)(ks:List (Int×Int))(i:Int):Pk:=if zqG ks (atP qs ks i)=true then zbC else atP qs ks i
theorem zpN {qs:List Pk}{ks:List (Int×Int)}{i:Int}(h:zqG ks (atP qs ks i)=true):Jn qs ks i=zbC:=if_pos h
theorem zt8 {qs:List Pk}{ks:List (Int×Int)}{i:Int}(h:zqG ks (atP qs ks i)=false):Jn qs ks i=atP qs ks i:=if_neg (by rw [h];simp)
theorem zi5.ok {I:Qu}{e:Int}{a a2 aa:Option Addr}{m c m2 c2 an ac:Nat}{qs:List Pk}(h:zi5 I e a m c a2 m2 c2 qs aa an ac)(he:e=0):a2=aa∧m2=an∧c2=ac∧Sl I 3 Zz a m c qs:=by
 rcases h with ⟨h,_⟩ | ⟨_,h⟩
 ·
  exact absurd he h
 ·
  exact h
structure Ev where
 kind:Int
 peer:Int
 to_:Int
 at_:Int
 note:Nt
def zeV (x:Ev):List Value:=.int .i64 x.kind:: .int .i64 x.peer:: .int .i64 x.to_:: .int .i64 x.at_::Q4 x.note
end
section
open Go Go.Kn Go.Proofs
theorem ztG:AgT Tryz.prog 180 2:=.of kA
theorem VY:AgT Tryz.prog 99 3:=.of kA
theorem zbU:ArT Tryz.prog 180 2 3 1:=.of kA
theorem zaI:QJ Tryz.prog 99 0 0:=.of kA
theorem Xy:QJ Tryz.prog 99 1 1:=.of kA
theorem zaD:QJ Tryz.prog 99 2 2:=.of kA
theorem zjD:Fun Tryz.prog 125:=.of Tryz.func125 kA kA
theorem zde:Fun Tryz.prog 126:=.of Tryz.func126 kA kA
theorem zmo:Fun Tryz.prog 179:=.of Tryz.func179 kA kA
theorem zrz:Fun Tryz.prog 182:=.of Tryz.func182 kA kA
theorem Zf:SlT Tryz.prog 23 99 3:=.of kA
theorem zse:SzT Tryz.prog 180 2:=.of kA
theorem zqH:Y9 Tryz.prog 180 (.agg #[(.int .i64 0),(.int .i64 0)]):=.of kA
theorem zeQ (I:Qu)(a b:Int):ZA Tryz.prog 179 [.int .i64 a,.int .i64 b] I (.agg #[.int .i64 (zqa a b),.int .i64 (zfg a b)]):=by
 intro g H w hw
 refine qe Tryz.func179 Tryz.ntmps179 hw ?_
 refine zR ?_
 refine Qr zqH rfl rfl (fun b_4=>?_)
 refine zN (zR ?_)
 refine zM ?_
 refine zM ?_
 refine zV (zxF rfl rfl) ?_
 refine zM ?_
 refine zM ?_
 refine zV (Vp rfl rfl) ?_
 refine zV (Vr (ps:=[(0,_),(1,_)]) [_,_] zbU zqH rfl rfl) ?_
 refine zh zse ?_
 refine zN (Qs ?_)
 exact ZX rfl rfl ztG zz2 rfl (fun w hw=>⟨by rfl,hw.drop⟩)
theorem zpe (I:Qu)(a b:Int):ZA Tryz.prog 126 [.agg #[.int .i64 a,.int .i64 b]] I (.bool (lkV a b)):=by
 intro g H w hw
 refine qe Tryz.func126 Tryz.ntmps126 hw ?_
 refine zR ?_
 refine QO rfl rfl rfl (fun b_1=>?_)
 refine zA ?_
 refine zN (zR ?_)
 refine zV (ZI rfl rfl zbU (fun hg=>by decide)) ?_
 refine zL Qm ?_
 refine zC ?_
 refine zM ?_
 refine Qq 3 rfl rfl rfl ?_
 refine zK (ZI rfl rfl zbU (fun hg=>by decide)) ?_
 refine zK (Qc rfl Qm (fun hg=>by exact QA.h0 rfl)) ?_
 refine zK (ZI rfl rfl zbU (fun hg=>by decide)) ?_
 refine zK (Qc rfl Qm (fun hg=>by exact QA.h0 rfl)) ?_
 refine zK (Qz rfl rfl rfl) ?_
 refine QB rfl rfl rfl rfl rfl ?_
 refine zM ?_
 refine Qq 10 rfl rfl rfl ?_
 refine zK (ZI rfl rfl zbU (fun hg=>by decide)) ?_
 refine zK (Qc rfl Qm (fun hg=>by exact QA.h0 rfl)) ?_
 refine zK (Qz rfl rfl rfl) ?_
 refine QB rfl rfl rfl rfl rfl ?_
 refine zA (zN (Qs ?_))
 exact zr rfl rfl kU
theorem zhD (I:Qu)(x:Pk):ZA Tryz.prog 125 [W9 x] I (.bool (pkV x)):=by
 intro g H w hw
 refine qe Tryz.func125 Tryz.ntmps125 hw ?_
 refine zR ?_
 refine QO rfl rfl rfl (fun b_1=>?_)
 refine zA ?_
 refine zN (zR ?_)
 refine zF zaI ?_
 refine zL Qm ?_
 refine zF Xy ?_
 refine zL Qm ?_
 refine qcV (vs:=[_,_]) rfl zmo (zeQ _ _ _) ?_
 refine qcV (vs:=[_]) rfl zde (zpe _ _ _) ?_
 refine zM ?_
 refine Qq 6 rfl rfl rfl ?_
 refine zK (Qa rfl zaD) ?_
 refine zK (Qc rfl Ww (fun hg=>by exact QA.h0 rfl)) ?_
 refine zK (QU rfl zag) ?_
 refine zK (Qz rfl rfl rfl) ?_
 refine QB rfl rfl rfl rfl rfl ?_
 refine zA (zN (Qs ?_))
 exact zr rfl rfl kU
theorem ztD (I:Qu)(x:Pk):ZA Tryz.prog 124 [W9 x] I (.bool (!pkV x)):=by
 intro g H w hw
 refine qe Tryz.func124 Tryz.ntmps124 hw ?_
 refine zR ?_
 refine QO rfl rfl rfl (fun b_1=>?_)
 refine zA ?_
 refine zN (zR ?_)
 refine zV (Qg rfl VY (fun hg=>by exact Cells.g0) rfl) ?_
 refine qcV (vs:=[_]) rfl zjD (zhD _ x) ?_
 refine zO ?_
 refine zA (zN (Qs ?_))
 exact zr rfl rfl kU
theorem zwN {I:Qu}{av:Option Addr}{n c:Nat}{xs:List Pk}(hS:Sl I 3 Zz av n c xs)(hn:n≤100000){fid:Nat}{cap:List Value}{P:Pk→Bool}(hF:Fun Tryz.prog fid)(hf:∀ x∈xs,ZA Tryz.prog fid ([W9 x]++cap) I (.bool (P x))):ZA Tryz.prog 182 [.slice av n c,.func (.func fid) #[] cap.toArray] I (.int .i64 (zpt P xs)):=by
 intro g H w hw
 refine qe Tryz.func182 Tryz.ntmps182 hw ?_
 refine zR (zA (zN (Qo (zR ?_))))
 refine zM ?_
 refine zQ Zf ?_
 refine zM (zN (Qx ?_))
 refine zU [(0,_),(1,_),(7,_)] (fun T L0 mz E I' loc'=>∃ (k:Nat),mz=n-k∧E=(8,.int .i64 k)::T∧I=I'∧L0=loc'∧k≤n∧(xs.take k).any P=false) ?_ (h:=⟨0,rfl,rfl,rfl,rfl,Nat.zero_le _,rfl⟩)
 rintro mz E I' loc' ⟨k,rfl,rfl,rfl,rfl,hk,hno⟩
 refine zR (zC (zN (Qo ?_)))
 refine zI ?_ ?_<;>intro hc9
 ·
  have hlt_k:k<n:=by have h:=hc9;simp at h;omega
  obtain ⟨x,hx⟩:=hS.at hlt_k
  refine Qp (Qd (Qo (Qx (zR (zM ?_)))))
  refine zA ?_
  refine zN (zR ?_)
  refine zM ?_
  refine zM ?_
  refine zM ?_
  refine zV (QE rfl rfl Zf kJ (fun hg=>kB)) ?_
  refine zV (Qg rfl VY (fun hg=>by exact zz5 hS hx) rfl) ?_
  refine VI (cap:=cap) (vs:=[_]) rfl rfl hF (hf x (List.mem_of_getElem? hx)) rfl rfl ?_
  refine zN ?_
  refine zI ?_ ?_<;>intro hc16
  ·
   refine zR (zM ?_)
   refine zA (zN (Qs (Qk (Qf (Qf (Qk (Qf ?_)))))))
   exact zr rfl rfl (by rw [zfG hno hx hc16])
  refine Qp (Qj (Qd (Qi (zB ?_))))
  refine zM (Qb ?_)
  exact zm (h:=⟨n-(k+1),kB,k+1,rfl,rfl,rfl,rfl,kB,zc1 hx hno hc16⟩)
 have hge_k:n≤k:=by have h:=hc9;simp at h;omega
 refine Q6 (Qn (Qn (Qw (Qd (zR (zA (zN ?_)))))))
 refine Qs ?_
 exact zr rfl rfl (by rw [zdq hS.len hge_k hno])
theorem zxK {I:Qu}{av:Option Addr}{n c:Nat}{xs:List Pk}(hS:Sl I 3 Zz av n c xs)(hn:n≤100000){fid:Nat}{cap:List Value}{P:Pk→Bool}(hF:Fun Tryz.prog fid)(hf:∀ x∈xs,ZA Tryz.prog fid ([W9 x]++cap) I (.bool (P x))):ZA Tryz.prog 123 [.slice av n c,.func (.func fid) #[] cap.toArray] I (.bool (xs.any P)):=by
 intro g H w hw
 refine qe Tryz.func123 Tryz.ntmps123 hw ?_
 refine zR (zA ?_)
 refine zN (zR ?_)
 refine zM ?_
 refine zM ?_
 refine qcV (vs:=[_,_]) rfl zrz (zwN hS hn hF hf) ?_
 refine zC ?_
 refine zA (zN (Qs ?_))
 exact zr rfl rfl (by rw [←zgm])
theorem zuH {I:Qu}{av bv:Option Addr}{n c m d:Nat}{xs ys:List Int}(hS:Sl I 1 Z5 av n c xs)(hT:Sl I 1 Z5 bv m d ys)(hn:n≤100000)(hm:m≤100000):ZA Tryz.prog 127 [.slice av n c,.slice bv m d] I (.int .i64 (UK xs ys)):=by
 intro g H w hw
 refine qe Tryz.func127 Tryz.ntmps127 hw ?_
 have hln:=hS.len
 have hlm:=hT.len
 refine zR (zA (zN (Qo (zR ?_))))
 refine zM ?_
 refine zQ ZF ?_
 refine zM (zN (Qx ?_))
 refine zU [(0,_),(1,_),(9,_),(10,_)] (fun T L0 mz E I' loc'=>∃ (k:Nat),mz=n-k∧E=(11,.int .i64 k)::T∧I=I'∧L0=loc'∧k≤n∧UK xs ys=UK (xs.drop k) (ys.drop k)) ?_ (h:=⟨0,rfl,rfl,rfl,rfl,Nat.zero_le _,rfl⟩)
 rintro mz E I' loc' ⟨k,rfl,rfl,rfl,rfl,hk,hI⟩
 refine zR (zC (zN (Qo ?_)))
 refine zI ?_ ?_<;>intro hc12
 ·
  have hlt_k:k<n:=by have h:=hc12;simp at h;omega
  obtain ⟨x,hx⟩:=hS.at hlt_k
  refine Qp (Qd (Qo (Qx (zR (zM ?_)))))
  refine zV (zX ZF hS) ?_
  refine zV (Qc rfl Qm (fun hg=>by exact zzX hS hx rfl)) ?_
  refine zA ?_
  refine zA (zN (Qo (zR ?_)))
  refine zM ?_
  refine zM ?_
  refine zQ ZF ?_
  refine zC (zN ?_)
  refine zI ?_ ?_<;>intro hc19
  ·
   have h19:m≤k:=by have h:=hc19;simp at h;omega
   refine zR (zA (zN (Qs (Qf (Qk (Qf (Qf ?_)))))))
   refine Qk (Qf ?_)
   exact zr rfl rfl (by rw [hI,zp8 hx kB])
  have h19:k<m:=by have h:=hc19;simp at h;omega
  obtain ⟨y,hy⟩:=hT.at h19
  refine Qp (Qd (zR (zM ?_)))
  refine zM ?_
  refine zV (zX ZF hT) ?_
  refine zV (Qc rfl Qm (fun hg=>by exact zzX hT hy rfl)) ?_
  refine zA ?_
  refine zN (zR ?_)
  refine zM ?_
  refine zM ?_
  refine qcV (vs:=[_,_]) rfl zjS (zue I _ _) ?_
  refine zA ?_
  refine zN (zR ?_)
  refine zM ?_
  refine zC (zN ?_)
  refine zI ?_ ?_<;>intro hc28
  ·
   refine zR (zM ?_)
   refine zA (zN (Qs (Qk (Qf (Qf (Qk (Qf ?_)))))))
   exact zr rfl rfl (by rw [hI,zk3 hx hy (by simpa using hc28)])
  refine Qp (Qj (Qd (Qi (zB ?_))))
  refine zM (Qb ?_)
  exact zm (h:=⟨n-(k+1),kB,k+1,rfl,rfl,rfl,rfl,kB,hI.trans (zig hx hy (by simpa using hc28))⟩)
 have hge_k:n≤k:=by have h:=hc12;simp at h;omega
 refine Q6 (Qn (Qn (Qw (Qd (Qo (zR (zM ?_)))))))
 refine zQ ZF ?_
 refine zM ?_
 refine zQ ZF ?_
 refine zC (zN ?_)
 refine zI ?_ ?_<;>intro hc35
 ·
  have h35:n<m:=by have h:=hc35;simp at h;omega
  refine zR (zA (zN (Qs (Qf ?_))))
  exact zr rfl rfl (by rw [hI,zoZ kB kB])
 have h35:m≤n:=by have h:=hc35;simp at h;omega
 refine Qp (Qd (zR (zA (zN (Qs ?_)))))
 exact zr rfl rfl (by rw [hI,zpr kB kB])
end
section
open Go Go.Kn Go.Proofs
theorem Wz:AgT Tryz.prog 179 2:=.of kA
theorem zls:ArT Tryz.prog 179 2 3 1:=.of kA
theorem Zi:QJ Tryz.prog 26 0 0:=.of kA
theorem zdg:QJ Tryz.prog 26 1 1:=.of kA
theorem zsE:Fun Tryz.prog 123:=.of Tryz.func123 kA kA
theorem zsi:Fun Tryz.prog 124:=.of Tryz.func124 kA kA
theorem zsP:Fun Tryz.prog 127:=.of Tryz.func127 kA kA
theorem Zo:ScT Tryz.prog 23:=.of kA
theorem zjH:ScT Tryz.prog 24:=.of kA
theorem zfo:SlT Tryz.prog 24 179 2:=.of kA
theorem ztQ:SzT Tryz.prog 179 2:=.of kA
theorem zwe:Y9 Tryz.prog 179 (.agg #[(.int .i64 0),(.int .i64 0)]):=.of kA
theorem zlt {I:Qu}{qa aa:Option Addr}{qn qc an ac:Nat}{qs:List Pk}{ks:List (Int×Int)}(hQ:Sl I 3 Zz qa qn qc qs)(hqn:qn≤100000)(hA:Sl I 2 K6 aa an ac ks)(han:an≤100000):ZA Tryz.prog 60 [.agg #[.slice qa qn qc,.slice aa an ac]] I (.int .i64 (UG qs ks)):=by
 intro g H w hw
 refine qe Tryz.func60 Tryz.ntmps60 hw ?_
 have hIc:=zz4 I
 have hlq:=hQ.len
 have hla:=hA.len
 refine zR ?_
 refine QO rfl rfl rfl (fun b_1=>?_)
 refine zA (Qb ?_)
 refine QF .here (fun I1 hI1 hb1=>?_)
 have hQ:=hQ.mono hI1;have hA:=hA.mono hI1;have hIc:=hIc.trans hI1
 have h1:=BxI.of hb1
 refine Qd (Qo (zR ?_))
 refine zF Zi ?_
 refine zV (Qc rfl Zo (fun hg=>by exact QA.imm h1.out rfl)) ?_
 refine zQ Zf ?_
 refine zC ?_
 refine zM ?_
 refine QK 4 rfl rfl rfl ?_
 refine zJ (Qa rfl Zi) ?_
 refine zJ (Qc rfl Zo (fun hg=>by exact QA.imm h1.out rfl)) ?_
 refine qf (vs:=[_,_]) rfl zsE (fun hg=>zxK (P:=fun x=> !pkV x) hQ hqn zsi (cap:=[]) (fun x _=>ztD _ x)) ?_
 refine Zg rfl rfl rfl rfl rfl ?_
 refine zN ?_
 refine zI ?_ ?_<;>intro hc13
 ·
  have h13:(decide ((qs.length:Int)>4096)||qs.any (fun x=> !pkV x))=true:=by rw [hlq];exact hc13
  refine zR (zA (zN (Qs (Qf ?_))))
  exact zp hIc rfl rfl (by rw [zpL h13])
 have h13:(decide ((qs.length:Int)>4096)||qs.any (fun x=> !pkV x))=false:=by rw [hlq];exact hc13
 refine Qp (Qd (Qo (zR ?_)))
 refine zF zdg ?_
 refine zV (Qc rfl zjH (fun hg=>by exact QA.imm h1.out rfl)) ?_
 refine zQ zfo ?_
 refine zM (zN (Qx ?_))
 refine zU [(1,_),(15,_),(16,_)] (fun T L0 mz E I' loc'=>∃ (k:Nat),mz=an-k∧E=(17,.int .i64 k)::T∧HLe I1 I'∧L0=loc'∧k≤an∧(∀ j y,j<k→ks[j]? =some y→zhq (ks.take j) y=false)) ?_ (h:=⟨0,rfl,rfl,zz4 _,rfl,Nat.zero_le _,fun j y h=>absurd h (Nat.not_lt_zero _)⟩)
 rintro mz E J2 loc' ⟨k,rfl,rfl,hJ,rfl,hk,hall⟩
 have hA:=hA.mono hJ;have h1:=h1.mono hJ;have hIc:=hIc.trans hJ
 have hB0:=hJ
 refine zR (zC (zN (Qo ?_)))
 refine zI ?_ ?_<;>intro hc18
 ·
  have hlt_k:k<an:=by have h:=hc18;simp at h;omega
  obtain ⟨x,hx⟩:∃ x,ks[k]? =some x:=⟨_,List.getElem?_eq_getElem kB⟩
  refine Qp (Qd (Qo (Qx (zR (zM ?_)))))
  refine zV (zX zfo hA) ?_
  refine zV (Qg rfl Wz (fun hg=>by exact zz5 hA hx) rfl) ?_
  refine Qr zwe rfl rfl (fun b_4=>?_)
  refine zA ?_
  refine zh ztQ ?_
  refine Qb ?_
  refine QF .here (fun I3 hI3 hb3=>?_)
  have hA:=hA.mono hI3;have h1:=h1.mono hI3;have hIc:=hIc.trans hI3;have hB0:=hB0.trans hI3
  have h4:=BxI.of hb3
  refine Qd (Qo ?_)
  rcases (show lkV x.1 x.2=false∨(lkV x.1 x.2=true∧k=0)∨(lkV x.1 x.2=true∧0<k) by cases lkV x.1 x.2<;>simp<;>omega) with hf | ⟨hf,hk⟩ | ⟨hf,hk⟩
  ·
   have hD:=zz4 I3
   refine Zn ?_
   refine QL I3 [] mixed ?_
   refine zT 0 rfl (Qg rfl Wz (fun hg=>by exact BxI.cells (vs:=K6 x) h4) rfl) hD ?_
   refine qd 1 rfl ?_
   refine qcV (vs:=[_]) rfl zde (zpe _ x.1 x.2) ?_
   refine Qb ?_
   refine zD hD ?_
   refine zT 2 rfl (Zs rfl) hD ?_
   rw [hf]
   refine zT 3 rfl (Qe rfl) hD ?_
   refine zW 4 25 hD ?_
   refine zW 5 25 hD ?_
   refine zW 6 25 hD ?_
   refine zW 7 28 hD ?_
   refine zW 8 28 hD ?_
   refine zW 9 28 hD ?_
   refine zW 10 28 hD ?_
   refine zW 11 28 hD ?_
   refine zW 12 28 hD ?_
   refine zW 13 28 hD ?_
   refine zW 14 28 hD ?_
   refine zW 15 28 hD ?_
   refine zW 16 25 hD ?_
   refine zT 17 rfl (Z6 rfl rfl rfl) hD ?_
   refine Ql kA ?_
   refine Qt ?_
   refine Qd ?_
   refine zI ?_ ?_<;>intro hc39
   ·
    have hbad:=zjK (pre:=ks.take k) hf
    refine zR (zA (zN (Qs (Qk (Qf (Qf (Qk ?_)))))))
    refine Qf ?_
    exact zp hIc rfl rfl (by rw [zh5 h13 hx hbad])
   cases hc39
  ·
   have hk0:decide ((k:Int)>0)=false:=by simp;omega
   have hD:=zz4 I3
   refine Zn ?_
   refine QL I3 [] mixed ?_
   refine zT 0 rfl (Qg rfl Wz (fun hg=>by exact BxI.cells (vs:=K6 x) h4) rfl) hD ?_
   refine qd 1 rfl ?_
   refine qcV (vs:=[_]) rfl zde (zpe _ x.1 x.2) ?_
   refine Qb ?_
   refine zD hD ?_
   refine zT 2 rfl (Zs rfl) hD ?_
   rw [hf]
   refine zT 3 rfl (Qe rfl) hD ?_
   refine zw 4 25 rfl (Qe rfl) hD ?_
   refine zw 5 25 rfl (Qz rfl rfl rfl) hD ?_
   rw [hk0]
   refine zw 6 25 rfl (Qe rfl) hD ?_
   refine zW 7 28 hD ?_
   refine zW 8 28 hD ?_
   refine zW 9 28 hD ?_
   refine zW 10 28 hD ?_
   refine zW 11 28 hD ?_
   refine zW 12 28 hD ?_
   refine zW 13 28 hD ?_
   refine zW 14 28 hD ?_
   refine zW 15 28 hD ?_
   refine zw 16 25 rfl (Z6 rfl rfl rfl) hD ?_
   refine zT 17 rfl (QW rfl rfl rfl) hD ?_
   refine Ql kA ?_
   refine Qt ?_
   refine Qd ?_
   refine zI ?_ ?_<;>intro hc39
   ·
    cases hc39
   have hbad:zhq (ks.take k) x=false:=by rw [hk];exact znz hf
   refine Qp (Qj (Qd (Qi (zB ?_))))
   refine zM (Qb ?_)
   exact zm (h:=⟨an-(k+1),kB,k+1,rfl,rfl,hB0,rfl,kB,V4 hx hall hbad⟩)
  have hk0:decide ((k:Int)>0)=true:=by simp;omega
  obtain ⟨y,hy⟩:∃ y,ks[((k:Int)-1).toNat]? =some y:=⟨_,List.getElem?_eq_getElem kB⟩
  have hB:Sl I3 1 Z5 (some ⟨b_4,0,none⟩) 2 2 [x.1,x.2]:=Sl.lit [x.1,x.2] rfl YJ h4.out
  have hD:=zz4 I3
  refine Zn ?_
  refine QL I3 [] mixed ?_
  refine zT 0 rfl (Qg rfl Wz (fun hg=>by exact BxI.cells (vs:=K6 x) h4) rfl) hD ?_
  refine qd 1 rfl ?_
  refine qcV (vs:=[_]) rfl zde (zpe _ x.1 x.2) ?_
  refine Qb ?_
  refine zD hD ?_
  refine zT 2 rfl (Zs rfl) hD ?_
  rw [hf]
  refine zT 3 rfl (Qe rfl) hD ?_
  refine zw 4 25 rfl (Qe rfl) hD ?_
  refine zw 5 25 rfl (Qz rfl rfl rfl) hD ?_
  rw [hk0]
  refine zw 6 25 rfl (Qe rfl) hD ?_
  refine zw 7 28 rfl (Qa rfl zdg) hD ?_
  refine zw 8 28 rfl (Qc rfl zjH (fun hg=>by exact QA.imm h1.out rfl)) hD ?_
  refine zw 9 28 rfl (Qe rfl) hD ?_
  refine zw 10 28 rfl (YE rfl rfl rfl (fun hg=>kB)) hD ?_
  refine zw 11 28 rfl (zX zfo hA) hD ?_
  refine zw 12 28 rfl (zbj rfl zls) hD ?_
  refine zw 13 28 rfl (zbj rfl zls) hD ?_
  refine qd 14 rfl ?_
  refine QP (dj:=28) rfl rfl rfl ?_
  refine qcV (vs:=[_,_]) rfl zsP (zuH (zuz hA hy) hB kD kD) ?_
  refine Qb ?_
  refine zD hD ?_
  refine zw 15 28 rfl (Qz rfl rfl rfl) hD ?_
  refine zw 16 25 rfl (QW rfl rfl rfl) hD ?_
  refine zT 17 rfl (QW rfl rfl rfl) hD ?_
  refine Ql kA ?_
  refine Qt ?_
  refine Qd ?_
  refine zI ?_ ?_<;>intro hc39
  ·
   have hbad:zhq (ks.take k) x=true:=(zfc hf hk hy).trans hc39
   refine zR (zA (zN (Qs (Qk (Qf (Qf (Qk ?_)))))))
   refine Qf ?_
   exact zp hIc rfl rfl (by rw [zh5 h13 hx hbad])
  have hbad:zhq (ks.take k) x=false:=(zfc hf hk hy).trans hc39
  refine Qp (Qj (Qd (Qi (zB ?_))))
  refine zM (Qb ?_)
  exact zm (h:=⟨an-(k+1),kB,k+1,rfl,rfl,hB0,rfl,kB,V4 hx hall hbad⟩)
 have hge_k:an≤k:=by have h:=hc18;simp at h;omega
 refine Q6 (Qn (Qn (Qw (Qd (zR (zA (zN ?_)))))))
 refine Qs ?_
 exact zp hIc rfl rfl (by rw [zly h13 (fun j y hj hy=>hall j y kB hy)])
end
section
open Go Go.Kn Go.Proofs
theorem ZM:AgT Tryz.prog 26 2:=.of kA
theorem zmR:Fun Tryz.prog 60:=.of Tryz.func60 kA kA
theorem JQ:SzT Tryz.prog 99 3:=.of kA
theorem zcu:Y9 Tryz.prog 99 (.agg #[(.int .i64 0),(.int .i64 0),(.slice none 0 0)]):=.of kA
theorem zyU {I:Qu}{qa aa:Option Addr}{qn qc an ac:Nat}{qs:List Pk}{ks:List (Int×Int)}(hQ:Sl I 3 Zz qa qn qc qs)(hqn:qn≤100000)(hA:Sl I 2 K6 aa an ac ks)(han:an≤100000)(i:Int):ZA Tryz.prog 177 [.agg #[.slice qa qn qc,.slice aa an ac],.int .i64 i] I (.tuple #[W9 (atP qs ks i),.int .i64 (atE qs ks i)]):=by
 intro g H w hw
 refine qe Tryz.func177 Tryz.ntmps177 hw ?_
 have hlq:=hQ.len
 refine zR ?_
 refine QO rfl rfl rfl (fun b_2=>?_)
 refine Qr zcu rfl rfl (fun b_4=>?_)
 refine zA (zN (Qo (zR ?_)))
 refine zV (Qg rfl ZM (fun hg=>by exact Cells.g1) rfl) ?_
 refine qcV (vs:=[_]) rfl zmR (zlt hQ hqn hA han) ?_
 refine zC (zN ?_)
 refine zI ?_ ?_<;>intro hc8
 ·
  have h1:=zzP (i:=i) hc8
  refine zR ?_
  refine zV (Qg rfl VY (fun hg=>by exact Cells.g0) rfl) ?_
  refine zh JQ ?_
  refine zA (zN (Qs (Qf ?_)))
  first
  | exact ZN rfl rfl rfl VY zz2 rfl (fun w hw=>⟨by rw [h1.1,h1.2];rfl,hw.drop.drop⟩)
 refine Qp (Qd (Qo (zR (zM ?_))))
 refine zC ?_
 refine zM ?_
 refine QK 2 rfl rfl rfl ?_
 refine zJ (Qe rfl) ?_
 refine zJ (Qa rfl Zi) ?_
 refine zJ (Qc rfl Zo (fun hg=>by exact QA.h1 rfl)) ?_
 refine zJ (QU rfl Zf) ?_
 refine zJ (Qz rfl rfl rfl) ?_
 refine Zg rfl rfl rfl rfl rfl ?_
 refine zN ?_
 refine zI ?_ ?_<;>intro hc18
 ·
  have h2:=zzB (i:=i) (ks:=ks) hc8 (by rw [hlq];exact hc18)
  refine zR ?_
  refine zV (Qg rfl VY (fun hg=>by exact Cells.g0) rfl) ?_
  refine zh JQ ?_
  refine zA (zN (Qs (Qf ?_)))
  first
  | exact ZN rfl rfl rfl VY zz2 rfl (fun w hw=>⟨by rw [h2.1,h2.2];rfl,hw.drop.drop⟩)
 have h18:0≤i∧i<(qn:Int):=by have h:=hc18;simp at h;omega
 obtain ⟨x,hx⟩:∃ y,qs[i.toNat]? =some y:=⟨_,List.getElem?_eq_getElem kB⟩
 have h3:=zzj (i:=i) (ks:=ks) hc8 (by rw [hlq];exact hc18) hx
 refine Qp (Qd (zR ?_))
 refine zF Zi ?_
 refine zL Zo ?_
 refine zM ?_
 refine zV (zX Zf hQ) ?_
 refine zV (Qg rfl VY (fun hg=>by exact zz5 hQ hx) rfl) ?_
 refine zh JQ ?_
 refine zA (zN (Qs ?_))
 first
 | exact ZN rfl rfl rfl VY zz2 rfl (fun w hw=>⟨by rw [h3.1,h3.2];rfl,hw.drop.drop⟩)
end
section
open Go Go.Kn Go.Proofs
theorem ZP:ElT Tryz.prog 23 99 3 40:=.of kA
theorem Y0:SzT Tryz.prog 23 1:=.of kA
theorem Yt:SzT Tryz.prog 26 2:=.of kA
theorem UR:Y9 Tryz.prog 26 (.agg #[(.slice none 0 0),(.slice none 0 0)]):=.of kA
theorem zca {I:Qu}{qa aa:Option Addr}{qn qc an ac:Nat}{qs:List Pk}{ks:List (Int×Int)}(hQ:Sl I 3 Zz qa qn qc qs)(hqn:qn≤100000)(hA:Sl I 2 K6 aa an ac ks)(han:an≤100000){i:Int}(hi:0≤i∧i<(qn:Int)):Vs Tryz.prog 180 [.agg #[.slice qa qn qc,.slice aa an ac],.int .i64 i] I [] (fun v I' L'=>∃ a m c,v= .agg #[.slice a m c,.slice aa an ac]∧m+1=qn∧Sl I' 3 Zz a m c (qs.eraseIdx i.toNat)∧L'=[]):=by
 intro g H w hw
 refine qe Tryz.func180 Tryz.ntmps180 hw ?_
 have hIc:=zz4 I
 have hlq:=hQ.len
 have hcq:=hQ.cap
 refine zR ?_
 refine QO rfl rfl rfl (fun b_2=>?_)
 refine Qr UR rfl rfl (fun b_4=>?_)
 refine zN (Qo ?_)
 have hD:=zz4 I
 refine Zn ?_
 refine QL I [] mixed ?_
 refine zT 0 rfl (Qa rfl Zi) hD ?_
 refine zT 2 rfl (Qe rfl) hD ?_
 refine zT 3 rfl (Qe rfl) hD ?_
 refine zT 5 rfl (Qa rfl Zi) hD ?_
 refine zT 7 rfl (Qe rfl) hD ?_
 refine zT 8 rfl (YE rfl rfl rfl (fun hg=>kB)) hD ?_
 refine QS 1 6 rfl rfl kA ?_ ?_
 ·
  refine zL Zo ?_
  refine Qb ?_
  refine zD hD ?_
  refine zT 4 rfl (Zm rfl rfl rfl Zf (fun hg=>kB)) hD ?_
  refine qd 6 rfl ?_
  refine zL Zo ?_
  refine Qb ?_
  refine zD hD ?_
  refine zT 9 rfl (Vx rfl rfl Zf (fun hg=>kB)) hD ?_
  refine qd 10 rfl ?_
  refine zav Zu kD rfl rfl ZP ((hQ.take (k:=i.toNat) kB).cut) (hQ.drop (k:=(i+1).toNat) kB) kB rfl rfl ?_
  intro I1 ac cc hI1 hZ
  have hIc:=hIc.trans hI1;have hD:=hD.trans hI1
  refine Qb ?_
  refine zD hD ?_
  refine zT 11 rfl (Qa rfl Zi) hD ?_
  refine qd 12 rfl ?_
  refine zS Y0 ?_
  refine Qb ?_
  refine zD hD ?_
  refine Ql kA ?_
  refine Qt ?_
  refine Qd (zR ?_)
  refine zV (Qg rfl ZM (fun hg=>by exact Cells.g1) rfl) ?_
  refine zh Yt ?_
  refine zN (Qs ?_)
  exact ZX rfl rfl ZM zz2 rfl (fun w hw=>⟨_,I1,[],rfl,hIc,hw.drop.drop,_,_,_,rfl,kB,by rw [List.eraseIdx_eq_take_drop_succ,show i.toNat+1=(i+1).toNat by omega];exact hZ,rfl⟩)
 refine zL Zo ?_
 refine Qb ?_
 refine zD hD ?_
 refine zT 9 rfl (Vx rfl rfl Zf (fun hg=>kB)) hD ?_
 refine qd 1 rfl ?_
 refine zL Zo ?_
 refine Qb ?_
 refine zD hD ?_
 refine zT 4 rfl (Zm rfl rfl rfl Zf (fun hg=>kB)) hD ?_
 refine qd 10 rfl ?_
 refine zav Zu kD rfl rfl ZP ((hQ.take (k:=i.toNat) kB).cut) (hQ.drop (k:=(i+1).toNat) kB) kB rfl rfl ?_
 intro I2 ac cc hI2 hZ
 have hIc:=hIc.trans hI2;have hD:=hD.trans hI2
 refine Qb ?_
 refine zD hD ?_
 refine zT 11 rfl (Qa rfl Zi) hD ?_
 refine qd 12 rfl ?_
 refine zS Y0 ?_
 refine Qb ?_
 refine zD hD ?_
 refine Ql kA ?_
 refine Qt ?_
 refine Qd (zR ?_)
 refine zV (Qg rfl ZM (fun hg=>by exact Cells.g1) rfl) ?_
 refine zh Yt ?_
 refine zN (Qs ?_)
 exact ZX rfl rfl ZM zz2 rfl (fun w hw=>⟨_,I2,[],rfl,hIc,hw.drop.drop,_,_,_,rfl,kB,by rw [List.eraseIdx_eq_take_drop_succ,show i.toNat+1=(i+1).toNat by omega];exact hZ,rfl⟩)
end
section
open Go Go.Kn Go.Proofs
theorem zf8:Fun Tryz.prog 177:=.of Tryz.func177 kA kA
theorem zgC:Fun Tryz.prog 180:=.of Tryz.func180 kA kA
theorem zus:Fun Tryz.prog 228:=.of Tryz.func228 kA kA
theorem zqS {I:Qu}{qa aa:Option Addr}{qn qc an ac:Nat}{qs:List Pk}{ks:List (Int×Int)}(hQ:Sl I 3 Zz qa qn qc qs)(hqn:qn≤100000)(hA:Sl I 2 K6 aa an ac ks)(han:an≤100000)(i:Int):Vs Tryz.prog 114 [.agg #[.slice qa qn qc,.slice aa an ac],.int .i64 i] I [] (fun v I' L'=>∃ a m c a2 m2 c2,v= .tuple #[.agg #[.slice a m c,.slice a2 m2 c2],.int .i64 (atE qs ks i)]∧L'=[]∧zi5 I' (atE qs ks i) a m c a2 m2 c2 (qs.eraseIdx i.toNat) aa an ac):=by
 intro g H w hw
 refine qe Tryz.func114 Tryz.ntmps114 hw ?_
 have hIc:=zz4 I
 refine zR ?_
 refine QO rfl rfl rfl (fun b_2=>?_)
 refine Qr UR rfl rfl (fun b_4=>?_)
 refine zA (zN (Qo (zR ?_)))
 refine zV (Qg rfl ZM (fun hg=>by exact Cells.g1) rfl) ?_
 refine zM ?_
 refine qcV (vs:=[_,_]) rfl zf8 (zyU hQ hqn hA han i) ?_
 refine zM ?_
 refine zE ?_
 refine zE ?_
 refine zA ?_
 refine zN (zR ?_)
 refine zM ?_
 refine zC (zN ?_)
 refine zI ?_ ?_<;>intro hc13
 ·
  have he:atE qs ks i≠0:=by simpa using hc13
  refine zR ?_
  refine zV (Qg rfl ZM (fun hg=>by exact Cells.g0) rfl) ?_
  refine zM ?_
  refine zh Yt ?_
  refine zA (zN (Qs (Qf ?_)))
  exact ZN rfl rfl rfl ZM zz2 rfl (fun w hw=>⟨_,I,[],rfl,hIc,hw.drop.drop,_,_,_,_,_,_,rfl,rfl,XY he⟩)
 have he:atE qs ks i=0:=by simpa using hc13
 have hr:0≤i∧i<(qn:Int):=by have h:=zdk he;rw [hQ.len] at h;exact h
 refine Qp (Qd (zR ?_))
 refine zV (Qg rfl ZM (fun hg=>by exact Cells.g1) rfl) ?_
 refine zM ?_
 refine zpc [_,_] rfl zgC .nil (zca hQ hqn hA han hr) ?_
 rintro vv1 I1 L1 hI1 ⟨a4,m4,c4,rfl,hm4,hZ,rfl⟩
 have hIc:=hIc.trans hI1
 refine zh Yt ?_
 refine zA (zN (Qs ?_))
 exact ZN rfl rfl rfl ZM zz2 rfl (fun w hw=>⟨_,I1,[],rfl,hIc,hw.drop.drop,_,_,_,_,_,_,by rw [he],rfl,zdQ he hZ⟩)
theorem zyG {I:Qu}{av:Option Addr}{n c:Nat}{ks:List (Int×Int)}(hS:Sl I 2 K6 av n c ks)(hn:n≤100000)(v:Int×Int):ZA Tryz.prog 228 [.slice av n c,.agg #[.int .i64 v.1,.int .i64 v.2]] I (.int .i64 (zpt (zxZ v) ks)):=by
 intro g H w hw
 refine qe Tryz.func228 Tryz.ntmps228 hw ?_
 refine zR ?_
 refine QO rfl rfl rfl (fun b_3=>?_)
 refine zA (zN (Qo (zR ?_)))
 refine zM ?_
 refine zQ zfo ?_
 refine zM (zN (Qx ?_))
 refine zU [(0,_),(3,_),(7,_)] (fun T L0 mz E I' loc'=>∃ (k:Nat),mz=n-k∧E=(8,.int .i64 k)::T∧I=I'∧[(b_3,.cells #[.int .i64 v.1,.int .i64 v.2] 179 (0,0))]=loc'∧k≤n∧(ks.take k).any (zxZ v)=false) ?_ (h:=⟨0,rfl,rfl,rfl,rfl,Nat.zero_le _,rfl⟩)
 rintro mz E I' loc' ⟨k,rfl,rfl,rfl,rfl,hk,hno⟩
 refine zR (zC (zN (Qo ?_)))
 refine zI ?_ ?_<;>intro hc9
 ·
  have hlt_k:k<n:=by have h:=hc9;simp at h;omega
  obtain ⟨x,hx⟩:=hS.at hlt_k
  refine Qp (Qd (Qo (Qx (zR (zM ?_)))))
  refine zA (zN (Qo ?_))
  have hD:=zz4 I
  refine Zn ?_
  refine QL I [(b_3,.cells #[.int .i64 v.1,.int .i64 v.2] 179 (0,0))] mixed ?_
  refine zT 0 rfl (Qg rfl Wz (fun hg=>by exact Cells.g0) rfl) hD ?_
  refine zT 1 rfl (Qe rfl) hD ?_
  refine zT 2 rfl (Qe rfl) hD ?_
  refine zT 3 rfl (zX zfo hS) hD ?_
  refine zT 4 rfl (Qg rfl Wz (fun hg=>by exact zz5 hS hx) rfl) hD ?_
  refine zT 5 rfl (ztf rfl rfl zrH) hD ?_
  refine Ql kA ?_
  refine Qt ?_
  refine Qd ?_
  refine zI ?_ ?_<;>intro hc16
  ·
   refine zR (zM ?_)
   refine zA (zN (Qs (Qk (Qf (Qf (Qk (Qf ?_)))))))
   exact zr rfl rfl (by rw [zfG hno hx hc16])
  refine Qp (Qj (Qd (Qi (zB ?_))))
  refine zM (Qb ?_)
  exact zm (h:=⟨n-(k+1),kB,k+1,rfl,rfl,rfl,rfl,kB,zc1 hx hno hc16⟩)
 have hge_k:n≤k:=by have h:=hc9;simp at h;omega
 refine Q6 (Qn (Qn (Qw (Qd (zR (zA (zN ?_)))))))
 refine Qs ?_
 exact zr rfl rfl (by rw [zdq hS.len hge_k hno])
theorem zyZ {I:Qu}{av:Option Addr}{n c:Nat}{ks:List (Int×Int)}(hS:Sl I 2 K6 av n c ks)(hn:n≤100000)(v:Int×Int):ZA Tryz.prog 178 [.slice av n c,.agg #[.int .i64 v.1,.int .i64 v.2]] I (.bool (ks.any (zxZ v))):=by
 intro g H w hw
 refine qe Tryz.func178 Tryz.ntmps178 hw ?_
 refine zR ?_
 refine QO rfl rfl rfl (fun b_3=>?_)
 refine zA ?_
 refine zN (zR ?_)
 refine zM ?_
 refine zV (Qg rfl Wz (fun hg=>by exact Cells.g0) rfl) ?_
 refine qcV (vs:=[_,_]) rfl zus (zyG hS hn v) ?_
 refine zC ?_
 refine zA (zN (Qs ?_))
 exact zr rfl rfl (by rw [←zgm])
end
section
open Go Go.Kn Go.Proofs
theorem zkb {I:Qu}{qa aa:Option Addr}{qn qc an ac:Nat}{qs:List Pk}{ks:List (Int×Int)}(hQ:Sl I 3 Zz qa qn qc qs)(hqn:qn≤100000)(hA:Sl I 2 K6 aa an ac ks)(han:an≤100000)(x:Pk):Vs Tryz.prog 176 [.agg #[.slice qa qn qc,.slice aa an ac],W9 x] I [] (fun v I' L'=>∃ a m c a2 m2 c2,v= .tuple #[.agg #[.slice a m c,.slice a2 m2 c2],.int .i64 (UE qs ks x)]∧L'=[]∧zi5 I' (UE qs ks x) a m c a2 m2 c2 (qs++[x]) aa an ac∧(UE qs ks x=0→m=qn+1)):=by
 intro g H w hw
 refine qe Tryz.func176 Tryz.ntmps176 hw ?_
 have hIc:=zz4 I
 have hlq:=hQ.len
 have hcq:=hQ.cap
 refine zR ?_
 refine QO rfl rfl rfl (fun b_2=>?_)
 refine QO rfl rfl rfl (fun b_3=>?_)
 refine Qr UR rfl rfl (fun b_4=>?_)
 refine zA (Qb ?_)
 refine QF (.there .here) (fun I1 hI1 hb1=>?_)
 have hQ:=hQ.mono hI1;have hA:=hA.mono hI1;have hIc:=hIc.trans hI1
 have h3:=BxI.of hb1
 refine Qd (Qo (zR ?_))
 refine zV (Qg rfl ZM (fun hg=>by exact Cells.g1) rfl) ?_
 refine qcV (vs:=[_]) rfl zmR (zlt hQ hqn hA han) ?_
 refine zC ?_
 refine zM ?_
 refine QK 3 rfl rfl rfl ?_
 refine zJ (Qg rfl VY (fun hg=>by exact BxI.cells (vs:=Zz x) h3) rfl) ?_
 refine qf (vs:=[_]) rfl zjD (fun hg=>zhD _ x) ?_
 refine zJ (Zs rfl) ?_
 refine Zg rfl rfl rfl rfl rfl ?_
 refine zN ?_
 refine zI ?_ ?_<;>intro hc13
 ·
  have hs1:=zxO hc13
  refine zR ?_
  refine zV (Qg rfl ZM (fun hg=>by exact Cells.g0) rfl) ?_
  refine zh Yt ?_
  refine zA (zN (Qs (Qf ?_)))
  first
  | exact ZN rfl rfl rfl ZM zz2 rfl (fun w hw=>⟨_,I1,[],rfl,hIc,hw.drop.drop,_,_,_,_,_,_,by rw [hs1]<;>rfl,rfl,XY (by rw [hs1];decide),fun h=>by rw [hs1] at h;cases h⟩)
 refine Qp (Qd (Qo (zR ?_)))
 refine zF Zi ?_
 refine zL Zo ?_
 refine zQ Zf ?_
 refine zC (zN ?_)
 refine zI ?_ ?_<;>intro hc18
 ·
  have hs2:=zwq hc13 (by rw [hlq];exact hc18)
  refine zR ?_
  refine zV (Qg rfl ZM (fun hg=>by exact Cells.g0) rfl) ?_
  refine zh Yt ?_
  refine zA (zN (Qs (Qf ?_)))
  first
  | exact ZN rfl rfl rfl ZM zz2 rfl (fun w hw=>⟨_,I1,[],rfl,hIc,hw.drop.drop,_,_,_,_,_,_,by rw [hs2]<;>rfl,rfl,XY (by rw [hs2];decide),fun h=>by rw [hs2] at h;cases h⟩)
 have hs3:=zqJ hc13 (by rw [hlq];exact hc18)
 refine Qp (Qd ?_)
 refine zY [(2,_),(4,_)] (fun T L0 E I' loc'=>∃ (v:Value) (L:Go.Kn.Loc),E=T∧I1=I'∧L++[(b_4,.cells #[.slice none 0 0,.slice none 0 0] 26 (0,0)),(b_2,.cells #[v,.slice aa an ac] 26 (0,0))]=loc'∧ZW 99 3 v (qn+1) ((qs++[x]).flatMap Zz) L) ?_ ?_
 ·
  have hD:=zz4 I1
  refine Zn ?_
  refine QL I1 [] mixed ?_
  refine zT 0 rfl (Qa rfl Zi) hD ?_
  refine zT 2 rfl (Qa rfl Zi) hD ?_
  refine zT 5 rfl (Qa rfl Zi) hD ?_
  refine zT 9 rfl (Qg rfl VY (fun hg=>by exact BxI.cells (vs:=Zz x) h3) rfl) hD ?_
  refine zj2 1 3 6 10 rfl rfl rfl rfl kA ?_ ?_ ?_ ?_
  ·
   refine zL Zo ?_
   refine Qb ?_
   refine zD hD ?_
   refine VK 3 6 10 rfl rfl rfl kA ?_ ?_ ?_
   ·
    refine zL Zo ?_
    refine Qb ?_
    refine zD hD ?_
    refine zT 4 rfl (QU rfl Zf) hD ?_
    refine QS 6 10 rfl rfl kA ?_ ?_
    ·
     refine zL Zo ?_
     refine Qb ?_
     refine zD hD ?_
     refine zT 7 rfl (QU rfl Zf) hD ?_
     refine zT 8 rfl (Zm rfl rfl rfl Zf (fun hg=>kB)) hD ?_
     refine qd 10 rfl ?_
     refine zpb [(0,_)] [Zz x] ZP (fun b_30=>?_)
     refine Qb ?_
     refine zD hD ?_
     refine qd 11 rfl ?_
     refine QR (ys:=[x].flatMap Zz) Zu rfl rfl ZP hQ.cut ⟨rfl,fun _=>rfl,zz2⟩ kD kB rfl rfl ?_
     intro v1 L1 hO1
     rw [←List.flatMap_append] at hO1
     obtain ⟨a1,c1,rfl⟩:=hO1.shape
     refine Qb ?_
     refine zD hD ?_
     refine zT 12 rfl (Qa rfl Zi) hD ?_
     refine qd 13 rfl ?_
     refine zS Y0 ?_
     refine Qb ?_
     refine zD hD ?_
     refine Ql kA ?_
     refine Qt ?_
     exact zm (h:=⟨_,_,rfl,rfl,rfl,hO1⟩)
    refine zpb [(0,_)] [Zz x] ZP (fun b_30=>?_)
    refine Qb ?_
    refine zD hD ?_
    refine qd 6 rfl ?_
    refine zL Zo ?_
    refine Qb ?_
    refine zD hD ?_
    refine zT 7 rfl (QU rfl Zf) hD ?_
    refine zT 8 rfl (Zm rfl rfl rfl Zf (fun hg=>kB)) hD ?_
    refine qd 11 rfl ?_
    refine QR (ys:=[x].flatMap Zz) Zu rfl rfl ZP hQ.cut ⟨rfl,fun _=>rfl,zz2⟩ kD kB rfl rfl ?_
    intro v1 L1 hO1
    rw [←List.flatMap_append] at hO1
    obtain ⟨a1,c1,rfl⟩:=hO1.shape
    refine Qb ?_
    refine zD hD ?_
    refine zT 12 rfl (Qa rfl Zi) hD ?_
    refine qd 13 rfl ?_
    refine zS Y0 ?_
    refine Qb ?_
    refine zD hD ?_
    refine Ql kA ?_
    refine Qt ?_
    exact zm (h:=⟨_,_,rfl,rfl,rfl,hO1⟩)
   ·
    refine zL Zo ?_
    refine Qb ?_
    refine zD hD ?_
    refine zT 7 rfl (QU rfl Zf) hD ?_
    refine QS 3 10 rfl rfl kA ?_ ?_
    ·
     refine zL Zo ?_
     refine Qb ?_
     refine zD hD ?_
     refine zT 4 rfl (QU rfl Zf) hD ?_
     refine zT 8 rfl (Zm rfl rfl rfl Zf (fun hg=>kB)) hD ?_
     refine qd 10 rfl ?_
     refine zpb [(0,_)] [Zz x] ZP (fun b_30=>?_)
     refine Qb ?_
     refine zD hD ?_
     refine qd 11 rfl ?_
     refine QR (ys:=[x].flatMap Zz) Zu rfl rfl ZP hQ.cut ⟨rfl,fun _=>rfl,zz2⟩ kD kB rfl rfl ?_
     intro v1 L1 hO1
     rw [←List.flatMap_append] at hO1
     obtain ⟨a1,c1,rfl⟩:=hO1.shape
     refine Qb ?_
     refine zD hD ?_
     refine zT 12 rfl (Qa rfl Zi) hD ?_
     refine qd 13 rfl ?_
     refine zS Y0 ?_
     refine Qb ?_
     refine zD hD ?_
     refine Ql kA ?_
     refine Qt ?_
     exact zm (h:=⟨_,_,rfl,rfl,rfl,hO1⟩)
    refine zpb [(0,_)] [Zz x] ZP (fun b_30=>?_)
    refine Qb ?_
    refine zD hD ?_
    refine qd 3 rfl ?_
    refine zL Zo ?_
    refine Qb ?_
    refine zD hD ?_
    refine zT 4 rfl (QU rfl Zf) hD ?_
    refine zT 8 rfl (Zm rfl rfl rfl Zf (fun hg=>kB)) hD ?_
    refine qd 11 rfl ?_
    refine QR (ys:=[x].flatMap Zz) Zu rfl rfl ZP hQ.cut ⟨rfl,fun _=>rfl,zz2⟩ kD kB rfl rfl ?_
    intro v1 L1 hO1
    rw [←List.flatMap_append] at hO1
    obtain ⟨a1,c1,rfl⟩:=hO1.shape
    refine Qb ?_
    refine zD hD ?_
    refine zT 12 rfl (Qa rfl Zi) hD ?_
    refine qd 13 rfl ?_
    refine zS Y0 ?_
    refine Qb ?_
    refine zD hD ?_
    refine Ql kA ?_
    refine Qt ?_
    exact zm (h:=⟨_,_,rfl,rfl,rfl,hO1⟩)
   refine zpb [(0,_)] [Zz x] ZP (fun b_30=>?_)
   refine Qb ?_
   refine zD hD ?_
   refine QS 3 6 rfl rfl kA ?_ ?_
   ·
    refine zL Zo ?_
    refine Qb ?_
    refine zD hD ?_
    refine zT 4 rfl (QU rfl Zf) hD ?_
    refine qd 6 rfl ?_
    refine zL Zo ?_
    refine Qb ?_
    refine zD hD ?_
    refine zT 7 rfl (QU rfl Zf) hD ?_
    refine zT 8 rfl (Zm rfl rfl rfl Zf (fun hg=>kB)) hD ?_
    refine qd 11 rfl ?_
    refine QR (ys:=[x].flatMap Zz) Zu rfl rfl ZP hQ.cut ⟨rfl,fun _=>rfl,zz2⟩ kD kB rfl rfl ?_
    intro v1 L1 hO1
    rw [←List.flatMap_append] at hO1
    obtain ⟨a1,c1,rfl⟩:=hO1.shape
    refine Qb ?_
    refine zD hD ?_
    refine zT 12 rfl (Qa rfl Zi) hD ?_
    refine qd 13 rfl ?_
    refine zS Y0 ?_
    refine Qb ?_
    refine zD hD ?_
    refine Ql kA ?_
    refine Qt ?_
    exact zm (h:=⟨_,_,rfl,rfl,rfl,hO1⟩)
   refine zL Zo ?_
   refine Qb ?_
   refine zD hD ?_
   refine zT 7 rfl (QU rfl Zf) hD ?_
   refine qd 3 rfl ?_
   refine zL Zo ?_
   refine Qb ?_
   refine zD hD ?_
   refine zT 4 rfl (QU rfl Zf) hD ?_
   refine zT 8 rfl (Zm rfl rfl rfl Zf (fun hg=>kB)) hD ?_
   refine qd 11 rfl ?_
   refine QR (ys:=[x].flatMap Zz) Zu rfl rfl ZP hQ.cut ⟨rfl,fun _=>rfl,zz2⟩ kD kB rfl rfl ?_
   intro v1 L1 hO1
   rw [←List.flatMap_append] at hO1
   obtain ⟨a1,c1,rfl⟩:=hO1.shape
   refine Qb ?_
   refine zD hD ?_
   refine zT 12 rfl (Qa rfl Zi) hD ?_
   refine qd 13 rfl ?_
   refine zS Y0 ?_
   refine Qb ?_
   refine zD hD ?_
   refine Ql kA ?_
   refine Qt ?_
   exact zm (h:=⟨_,_,rfl,rfl,rfl,hO1⟩)
  ·
   refine zL Zo ?_
   refine Qb ?_
   refine zD hD ?_
   refine zT 4 rfl (QU rfl Zf) hD ?_
   refine VK 1 6 10 rfl rfl rfl kA ?_ ?_ ?_
   ·
    refine zL Zo ?_
    refine Qb ?_
    refine zD hD ?_
    refine QS 6 10 rfl rfl kA ?_ ?_
    ·
     refine zL Zo ?_
     refine Qb ?_
     refine zD hD ?_
     refine zT 7 rfl (QU rfl Zf) hD ?_
     refine zT 8 rfl (Zm rfl rfl rfl Zf (fun hg=>kB)) hD ?_
     refine qd 10 rfl ?_
     refine zpb [(0,_)] [Zz x] ZP (fun b_30=>?_)
     refine Qb ?_
     refine zD hD ?_
     refine qd 11 rfl ?_
     refine QR (ys:=[x].flatMap Zz) Zu rfl rfl ZP hQ.cut ⟨rfl,fun _=>rfl,zz2⟩ kD kB rfl rfl ?_
     intro v1 L1 hO1
     rw [←List.flatMap_append] at hO1
     obtain ⟨a1,c1,rfl⟩:=hO1.shape
     refine Qb ?_
     refine zD hD ?_
     refine zT 12 rfl (Qa rfl Zi) hD ?_
     refine qd 13 rfl ?_
     refine zS Y0 ?_
     refine Qb ?_
     refine zD hD ?_
     refine Ql kA ?_
     refine Qt ?_
     exact zm (h:=⟨_,_,rfl,rfl,rfl,hO1⟩)
    refine zpb [(0,_)] [Zz x] ZP (fun b_30=>?_)
    refine Qb ?_
    refine zD hD ?_
    refine qd 6 rfl ?_
    refine zL Zo ?_
    refine Qb ?_
    refine zD hD ?_
    refine zT 7 rfl (QU rfl Zf) hD ?_
    refine zT 8 rfl (Zm rfl rfl rfl Zf (fun hg=>kB)) hD ?_
    refine qd 11 rfl ?_
    refine QR (ys:=[x].flatMap Zz) Zu rfl rfl ZP hQ.cut ⟨rfl,fun _=>rfl,zz2⟩ kD kB rfl rfl ?_
    intro v1 L1 hO1
    rw [←List.flatMap_append] at hO1
    obtain ⟨a1,c1,rfl⟩:=hO1.shape
    refine Qb ?_
    refine zD hD ?_
    refine zT 12 rfl (Qa rfl Zi) hD ?_
    refine qd 13 rfl ?_
    refine zS Y0 ?_
    refine Qb ?_
    refine zD hD ?_
    refine Ql kA ?_
    refine Qt ?_
    exact zm (h:=⟨_,_,rfl,rfl,rfl,hO1⟩)
   ·
    refine zL Zo ?_
    refine Qb ?_
    refine zD hD ?_
    refine zT 7 rfl (QU rfl Zf) hD ?_
    refine QS 1 10 rfl rfl kA ?_ ?_
    ·
     refine zL Zo ?_
     refine Qb ?_
     refine zD hD ?_
     refine zT 8 rfl (Zm rfl rfl rfl Zf (fun hg=>kB)) hD ?_
     refine qd 10 rfl ?_
     refine zpb [(0,_)] [Zz x] ZP (fun b_30=>?_)
     refine Qb ?_
     refine zD hD ?_
     refine qd 11 rfl ?_
     refine QR (ys:=[x].flatMap Zz) Zu rfl rfl ZP hQ.cut ⟨rfl,fun _=>rfl,zz2⟩ kD kB rfl rfl ?_
     intro v1 L1 hO1
     rw [←List.flatMap_append] at hO1
     obtain ⟨a1,c1,rfl⟩:=hO1.shape
     refine Qb ?_
     refine zD hD ?_
     refine zT 12 rfl (Qa rfl Zi) hD ?_
     refine qd 13 rfl ?_
     refine zS Y0 ?_
     refine Qb ?_
     refine zD hD ?_
     refine Ql kA ?_
     refine Qt ?_
     exact zm (h:=⟨_,_,rfl,rfl,rfl,hO1⟩)
    refine zpb [(0,_)] [Zz x] ZP (fun b_30=>?_)
    refine Qb ?_
    refine zD hD ?_
    refine qd 1 rfl ?_
    refine zL Zo ?_
    refine Qb ?_
    refine zD hD ?_
    refine zT 8 rfl (Zm rfl rfl rfl Zf (fun hg=>kB)) hD ?_
    refine qd 11 rfl ?_
    refine QR (ys:=[x].flatMap Zz) Zu rfl rfl ZP hQ.cut ⟨rfl,fun _=>rfl,zz2⟩ kD kB rfl rfl ?_
    intro v1 L1 hO1
    rw [←List.flatMap_append] at hO1
    obtain ⟨a1,c1,rfl⟩:=hO1.shape
    refine Qb ?_
    refine zD hD ?_
    refine zT 12 rfl (Qa rfl Zi) hD ?_
    refine qd 13 rfl ?_
    refine zS Y0 ?_
    refine Qb ?_
    refine zD hD ?_
    refine Ql kA ?_
    refine Qt ?_
    exact zm (h:=⟨_,_,rfl,rfl,rfl,hO1⟩)
   refine zpb [(0,_)] [Zz x] ZP (fun b_30=>?_)
   refine Qb ?_
   refine zD hD ?_
   refine QS 1 6 rfl rfl kA ?_ ?_
   ·
    refine zL Zo ?_
    refine Qb ?_
    refine zD hD ?_
    refine qd 6 rfl ?_
    refine zL Zo ?_
    refine Qb ?_
    refine zD hD ?_
    refine zT 7 rfl (QU rfl Zf) hD ?_
    refine zT 8 rfl (Zm rfl rfl rfl Zf (fun hg=>kB)) hD ?_
    refine qd 11 rfl ?_
    refine QR (ys:=[x].flatMap Zz) Zu rfl rfl ZP hQ.cut ⟨rfl,fun _=>rfl,zz2⟩ kD kB rfl rfl ?_
    intro v1 L1 hO1
    rw [←List.flatMap_append] at hO1
    obtain ⟨a1,c1,rfl⟩:=hO1.shape
    refine Qb ?_
    refine zD hD ?_
    refine zT 12 rfl (Qa rfl Zi) hD ?_
    refine qd 13 rfl ?_
    refine zS Y0 ?_
    refine Qb ?_
    refine zD hD ?_
    refine Ql kA ?_
    refine Qt ?_
    exact zm (h:=⟨_,_,rfl,rfl,rfl,hO1⟩)
   refine zL Zo ?_
   refine Qb ?_
   refine zD hD ?_
   refine zT 7 rfl (QU rfl Zf) hD ?_
   refine qd 1 rfl ?_
   refine zL Zo ?_
   refine Qb ?_
   refine zD hD ?_
   refine zT 8 rfl (Zm rfl rfl rfl Zf (fun hg=>kB)) hD ?_
   refine qd 11 rfl ?_
   refine QR (ys:=[x].flatMap Zz) Zu rfl rfl ZP hQ.cut ⟨rfl,fun _=>rfl,zz2⟩ kD kB rfl rfl ?_
   intro v1 L1 hO1
   rw [←List.flatMap_append] at hO1
   obtain ⟨a1,c1,rfl⟩:=hO1.shape
   refine Qb ?_
   refine zD hD ?_
   refine zT 12 rfl (Qa rfl Zi) hD ?_
   refine qd 13 rfl ?_
   refine zS Y0 ?_
   refine Qb ?_
   refine zD hD ?_
   refine Ql kA ?_
   refine Qt ?_
   exact zm (h:=⟨_,_,rfl,rfl,rfl,hO1⟩)
  ·
   refine zL Zo ?_
   refine Qb ?_
   refine zD hD ?_
   refine zT 7 rfl (QU rfl Zf) hD ?_
   refine VK 1 3 10 rfl rfl rfl kA ?_ ?_ ?_
   ·
    refine zL Zo ?_
    refine Qb ?_
    refine zD hD ?_
    refine QS 3 10 rfl rfl kA ?_ ?_
    ·
     refine zL Zo ?_
     refine Qb ?_
     refine zD hD ?_
     refine zT 4 rfl (QU rfl Zf) hD ?_
     refine zT 8 rfl (Zm rfl rfl rfl Zf (fun hg=>kB)) hD ?_
     refine qd 10 rfl ?_
     refine zpb [(0,_)] [Zz x] ZP (fun b_30=>?_)
     refine Qb ?_
     refine zD hD ?_
     refine qd 11 rfl ?_
     refine QR (ys:=[x].flatMap Zz) Zu rfl rfl ZP hQ.cut ⟨rfl,fun _=>rfl,zz2⟩ kD kB rfl rfl ?_
     intro v1 L1 hO1
     rw [←List.flatMap_append] at hO1
     obtain ⟨a1,c1,rfl⟩:=hO1.shape
     refine Qb ?_
     refine zD hD ?_
     refine zT 12 rfl (Qa rfl Zi) hD ?_
     refine qd 13 rfl ?_
     refine zS Y0 ?_
     refine Qb ?_
     refine zD hD ?_
     refine Ql kA ?_
     refine Qt ?_
     exact zm (h:=⟨_,_,rfl,rfl,rfl,hO1⟩)
    refine zpb [(0,_)] [Zz x] ZP (fun b_30=>?_)
    refine Qb ?_
    refine zD hD ?_
    refine qd 3 rfl ?_
    refine zL Zo ?_
    refine Qb ?_
    refine zD hD ?_
    refine zT 4 rfl (QU rfl Zf) hD ?_
    refine zT 8 rfl (Zm rfl rfl rfl Zf (fun hg=>kB)) hD ?_
    refine qd 11 rfl ?_
    refine QR (ys:=[x].flatMap Zz) Zu rfl rfl ZP hQ.cut ⟨rfl,fun _=>rfl,zz2⟩ kD kB rfl rfl ?_
    intro v1 L1 hO1
    rw [←List.flatMap_append] at hO1
    obtain ⟨a1,c1,rfl⟩:=hO1.shape
    refine Qb ?_
    refine zD hD ?_
    refine zT 12 rfl (Qa rfl Zi) hD ?_
    refine qd 13 rfl ?_
    refine zS Y0 ?_
    refine Qb ?_
    refine zD hD ?_
    refine Ql kA ?_
    refine Qt ?_
    exact zm (h:=⟨_,_,rfl,rfl,rfl,hO1⟩)
   ·
    refine zL Zo ?_
    refine Qb ?_
    refine zD hD ?_
    refine zT 4 rfl (QU rfl Zf) hD ?_
    refine QS 1 10 rfl rfl kA ?_ ?_
    ·
     refine zL Zo ?_
     refine Qb ?_
     refine zD hD ?_
     refine zT 8 rfl (Zm rfl rfl rfl Zf (fun hg=>kB)) hD ?_
     refine qd 10 rfl ?_
     refine zpb [(0,_)] [Zz x] ZP (fun b_30=>?_)
     refine Qb ?_
     refine zD hD ?_
     refine qd 11 rfl ?_
     refine QR (ys:=[x].flatMap Zz) Zu rfl rfl ZP hQ.cut ⟨rfl,fun _=>rfl,zz2⟩ kD kB rfl rfl ?_
     intro v1 L1 hO1
     rw [←List.flatMap_append] at hO1
     obtain ⟨a1,c1,rfl⟩:=hO1.shape
     refine Qb ?_
     refine zD hD ?_
     refine zT 12 rfl (Qa rfl Zi) hD ?_
     refine qd 13 rfl ?_
     refine zS Y0 ?_
     refine Qb ?_
     refine zD hD ?_
     refine Ql kA ?_
     refine Qt ?_
     exact zm (h:=⟨_,_,rfl,rfl,rfl,hO1⟩)
    refine zpb [(0,_)] [Zz x] ZP (fun b_30=>?_)
    refine Qb ?_
    refine zD hD ?_
    refine qd 1 rfl ?_
    refine zL Zo ?_
    refine Qb ?_
    refine zD hD ?_
    refine zT 8 rfl (Zm rfl rfl rfl Zf (fun hg=>kB)) hD ?_
    refine qd 11 rfl ?_
    refine QR (ys:=[x].flatMap Zz) Zu rfl rfl ZP hQ.cut ⟨rfl,fun _=>rfl,zz2⟩ kD kB rfl rfl ?_
    intro v1 L1 hO1
    rw [←List.flatMap_append] at hO1
    obtain ⟨a1,c1,rfl⟩:=hO1.shape
    refine Qb ?_
    refine zD hD ?_
    refine zT 12 rfl (Qa rfl Zi) hD ?_
    refine qd 13 rfl ?_
    refine zS Y0 ?_
    refine Qb ?_
    refine zD hD ?_
    refine Ql kA ?_
    refine Qt ?_
    exact zm (h:=⟨_,_,rfl,rfl,rfl,hO1⟩)
   refine zpb [(0,_)] [Zz x] ZP (fun b_30=>?_)
   refine Qb ?_
   refine zD hD ?_
   refine QS 1 3 rfl rfl kA ?_ ?_
   ·
    refine zL Zo ?_
    refine Qb ?_
    refine zD hD ?_
    refine qd 3 rfl ?_
    refine zL Zo ?_
    refine Qb ?_
    refine zD hD ?_
    refine zT 4 rfl (QU rfl Zf) hD ?_
    refine zT 8 rfl (Zm rfl rfl rfl Zf (fun hg=>kB)) hD ?_
    refine qd 11 rfl ?_
    refine QR (ys:=[x].flatMap Zz) Zu rfl rfl ZP hQ.cut ⟨rfl,fun _=>rfl,zz2⟩ kD kB rfl rfl ?_
    intro v1 L1 hO1
    rw [←List.flatMap_append] at hO1
    obtain ⟨a1,c1,rfl⟩:=hO1.shape
    refine Qb ?_
    refine zD hD ?_
    refine zT 12 rfl (Qa rfl Zi) hD ?_
    refine qd 13 rfl ?_
    refine zS Y0 ?_
    refine Qb ?_
    refine zD hD ?_
    refine Ql kA ?_
    refine Qt ?_
    exact zm (h:=⟨_,_,rfl,rfl,rfl,hO1⟩)
   refine zL Zo ?_
   refine Qb ?_
   refine zD hD ?_
   refine zT 4 rfl (QU rfl Zf) hD ?_
   refine qd 1 rfl ?_
   refine zL Zo ?_
   refine Qb ?_
   refine zD hD ?_
   refine zT 8 rfl (Zm rfl rfl rfl Zf (fun hg=>kB)) hD ?_
   refine qd 11 rfl ?_
   refine QR (ys:=[x].flatMap Zz) Zu rfl rfl ZP hQ.cut ⟨rfl,fun _=>rfl,zz2⟩ kD kB rfl rfl ?_
   intro v1 L1 hO1
   rw [←List.flatMap_append] at hO1
   obtain ⟨a1,c1,rfl⟩:=hO1.shape
   refine Qb ?_
   refine zD hD ?_
   refine zT 12 rfl (Qa rfl Zi) hD ?_
   refine qd 13 rfl ?_
   refine zS Y0 ?_
   refine Qb ?_
   refine zD hD ?_
   refine Ql kA ?_
   refine Qt ?_
   exact zm (h:=⟨_,_,rfl,rfl,rfl,hO1⟩)
  refine zpb [(0,_)] [Zz x] ZP (fun b_30=>?_)
  refine Qb ?_
  refine zD hD ?_
  refine VK 1 3 6 rfl rfl rfl kA ?_ ?_ ?_
  ·
   refine zL Zo ?_
   refine Qb ?_
   refine zD hD ?_
   refine QS 3 6 rfl rfl kA ?_ ?_
   ·
    refine zL Zo ?_
    refine Qb ?_
    refine zD hD ?_
    refine zT 4 rfl (QU rfl Zf) hD ?_
    refine qd 6 rfl ?_
    refine zL Zo ?_
    refine Qb ?_
    refine zD hD ?_
    refine zT 7 rfl (QU rfl Zf) hD ?_
    refine zT 8 rfl (Zm rfl rfl rfl Zf (fun hg=>kB)) hD ?_
    refine qd 11 rfl ?_
    refine QR (ys:=[x].flatMap Zz) Zu rfl rfl ZP hQ.cut ⟨rfl,fun _=>rfl,zz2⟩ kD kB rfl rfl ?_
    intro v1 L1 hO1
    rw [←List.flatMap_append] at hO1
    obtain ⟨a1,c1,rfl⟩:=hO1.shape
    refine Qb ?_
    refine zD hD ?_
    refine zT 12 rfl (Qa rfl Zi) hD ?_
    refine qd 13 rfl ?_
    refine zS Y0 ?_
    refine Qb ?_
    refine zD hD ?_
    refine Ql kA ?_
    refine Qt ?_
    exact zm (h:=⟨_,_,rfl,rfl,rfl,hO1⟩)
   refine zL Zo ?_
   refine Qb ?_
   refine zD hD ?_
   refine zT 7 rfl (QU rfl Zf) hD ?_
   refine qd 3 rfl ?_
   refine zL Zo ?_
   refine Qb ?_
   refine zD hD ?_
   refine zT 4 rfl (QU rfl Zf) hD ?_
   refine zT 8 rfl (Zm rfl rfl rfl Zf (fun hg=>kB)) hD ?_
   refine qd 11 rfl ?_
   refine QR (ys:=[x].flatMap Zz) Zu rfl rfl ZP hQ.cut ⟨rfl,fun _=>rfl,zz2⟩ kD kB rfl rfl ?_
   intro v1 L1 hO1
   rw [←List.flatMap_append] at hO1
   obtain ⟨a1,c1,rfl⟩:=hO1.shape
   refine Qb ?_
   refine zD hD ?_
   refine zT 12 rfl (Qa rfl Zi) hD ?_
   refine qd 13 rfl ?_
   refine zS Y0 ?_
   refine Qb ?_
   refine zD hD ?_
   refine Ql kA ?_
   refine Qt ?_
   exact zm (h:=⟨_,_,rfl,rfl,rfl,hO1⟩)
  ·
   refine zL Zo ?_
   refine Qb ?_
   refine zD hD ?_
   refine zT 4 rfl (QU rfl Zf) hD ?_
   refine QS 1 6 rfl rfl kA ?_ ?_
   ·
    refine zL Zo ?_
    refine Qb ?_
    refine zD hD ?_
    refine qd 6 rfl ?_
    refine zL Zo ?_
    refine Qb ?_
    refine zD hD ?_
    refine zT 7 rfl (QU rfl Zf) hD ?_
    refine zT 8 rfl (Zm rfl rfl rfl Zf (fun hg=>kB)) hD ?_
    refine qd 11 rfl ?_
    refine QR (ys:=[x].flatMap Zz) Zu rfl rfl ZP hQ.cut ⟨rfl,fun _=>rfl,zz2⟩ kD kB rfl rfl ?_
    intro v1 L1 hO1
    rw [←List.flatMap_append] at hO1
    obtain ⟨a1,c1,rfl⟩:=hO1.shape
    refine Qb ?_
    refine zD hD ?_
    refine zT 12 rfl (Qa rfl Zi) hD ?_
    refine qd 13 rfl ?_
    refine zS Y0 ?_
    refine Qb ?_
    refine zD hD ?_
    refine Ql kA ?_
    refine Qt ?_
    exact zm (h:=⟨_,_,rfl,rfl,rfl,hO1⟩)
   refine zL Zo ?_
   refine Qb ?_
   refine zD hD ?_
   refine zT 7 rfl (QU rfl Zf) hD ?_
   refine qd 1 rfl ?_
   refine zL Zo ?_
   refine Qb ?_
   refine zD hD ?_
   refine zT 8 rfl (Zm rfl rfl rfl Zf (fun hg=>kB)) hD ?_
   refine qd 11 rfl ?_
   refine QR (ys:=[x].flatMap Zz) Zu rfl rfl ZP hQ.cut ⟨rfl,fun _=>rfl,zz2⟩ kD kB rfl rfl ?_
   intro v1 L1 hO1
   rw [←List.flatMap_append] at hO1
   obtain ⟨a1,c1,rfl⟩:=hO1.shape
   refine Qb ?_
   refine zD hD ?_
   refine zT 12 rfl (Qa rfl Zi) hD ?_
   refine qd 13 rfl ?_
   refine zS Y0 ?_
   refine Qb ?_
   refine zD hD ?_
   refine Ql kA ?_
   refine Qt ?_
   exact zm (h:=⟨_,_,rfl,rfl,rfl,hO1⟩)
  refine zL Zo ?_
  refine Qb ?_
  refine zD hD ?_
  refine zT 7 rfl (QU rfl Zf) hD ?_
  refine QS 1 3 rfl rfl kA ?_ ?_
  ·
   refine zL Zo ?_
   refine Qb ?_
   refine zD hD ?_
   refine qd 3 rfl ?_
   refine zL Zo ?_
   refine Qb ?_
   refine zD hD ?_
   refine zT 4 rfl (QU rfl Zf) hD ?_
   refine zT 8 rfl (Zm rfl rfl rfl Zf (fun hg=>kB)) hD ?_
   refine qd 11 rfl ?_
   refine QR (ys:=[x].flatMap Zz) Zu rfl rfl ZP hQ.cut ⟨rfl,fun _=>rfl,zz2⟩ kD kB rfl rfl ?_
   intro v1 L1 hO1
   rw [←List.flatMap_append] at hO1
   obtain ⟨a1,c1,rfl⟩:=hO1.shape
   refine Qb ?_
   refine zD hD ?_
   refine zT 12 rfl (Qa rfl Zi) hD ?_
   refine qd 13 rfl ?_
   refine zS Y0 ?_
   refine Qb ?_
   refine zD hD ?_
   refine Ql kA ?_
   refine Qt ?_
   exact zm (h:=⟨_,_,rfl,rfl,rfl,hO1⟩)
  refine zL Zo ?_
  refine Qb ?_
  refine zD hD ?_
  refine zT 4 rfl (QU rfl Zf) hD ?_
  refine qd 1 rfl ?_
  refine zL Zo ?_
  refine Qb ?_
  refine zD hD ?_
  refine zT 8 rfl (Zm rfl rfl rfl Zf (fun hg=>kB)) hD ?_
  refine qd 11 rfl ?_
  refine QR (ys:=[x].flatMap Zz) Zu rfl rfl ZP hQ.cut ⟨rfl,fun _=>rfl,zz2⟩ kD kB rfl rfl ?_
  intro v1 L1 hO1
  rw [←List.flatMap_append] at hO1
  obtain ⟨a1,c1,rfl⟩:=hO1.shape
  refine Qb ?_
  refine zD hD ?_
  refine zT 12 rfl (Qa rfl Zi) hD ?_
  refine qd 13 rfl ?_
  refine zS Y0 ?_
  refine Qb ?_
  refine zD hD ?_
  refine Ql kA ?_
  refine Qt ?_
  exact zm (h:=⟨_,_,rfl,rfl,rfl,hO1⟩)
 rintro E I' loc' ⟨v,L,rfl,rfl,rfl,hO⟩
 refine Qo ?_
 refine zx4 hO Zu (fun I3 hI3 af3 cf3 ef3 hZ=>?_)
 subst ef3
 have hIc:=hIc.trans hI3
 refine Qi ?_
 refine zV (Qg rfl ZM (fun hg=>by exact Cells.g1) rfl) ?_
 refine zh Yt ?_
 refine zA (zN (Qs ?_))
 first
 | exact ZN rfl rfl rfl ZM zz2 rfl (fun w hw=>⟨_,I3,[],rfl,hIc,hw.drop.drop,_,_,_,_,_,_,by rw [hs3]<;>rfl,rfl,zdQ hs3 hZ,fun _=>rfl⟩)
end
section
open Go Go.Kn Go.Proofs
theorem zfW:Fun Tryz.prog 176:=.of Tryz.func176 kA kA
theorem zhY {I:Qu}{qa aa:Option Addr}{qn qc an ac:Nat}{qs:List Pk}{ks:List (Int×Int)}(hQ:Sl I 3 Zz qa qn qc qs)(hqn:qn≤100000)(hA:Sl I 2 K6 aa an ac ks)(han:an≤100000)(i:Int):Vs Tryz.prog 115 [.agg #[.slice qa qn qc,.slice aa an ac],.int .i64 i] I [] (fun v I' L'=>∃ a m c a2 m2 c2,v= .tuple #[.agg #[.slice a m c,.slice a2 m2 c2],.int .i64 (WF qs ks i)]∧L'=[]∧zi5 I' (WF qs ks i) a m c a2 m2 c2 (qs++[atP qs ks i]) aa an ac):=by
 intro g H w hw
 refine qe Tryz.func115 Tryz.ntmps115 hw ?_
 have hIc:=zz4 I
 refine zR ?_
 refine QO rfl rfl rfl (fun b_2=>?_)
 refine Qr UR rfl rfl (fun b_4=>?_)
 refine zA ?_
 refine zN (zR ?_)
 refine zV (Qg rfl ZM (fun hg=>by exact Cells.g1) rfl) ?_
 refine zM ?_
 refine qcV (vs:=[_,_]) rfl zf8 (zyU hQ hqn hA han i) ?_
 refine zM ?_
 refine zE ?_
 refine zE ?_
 refine Qr zcu rfl rfl (fun b_6=>?_)
 refine zh JQ ?_
 refine zA (zN (Qo (zR ?_)))
 refine zM ?_
 refine zC (zN ?_)
 refine zI ?_ ?_<;>intro hc14
 ·
  have he:atE qs ks i≠0:=by simpa using hc14
  have hrp:WF qs ks i=atE qs ks i:=if_neg he
  refine zR ?_
  refine zV (Qg rfl ZM (fun hg=>by exact Cells.g1) rfl) ?_
  refine zM ?_
  refine zh Yt ?_
  refine zA (zN (Qs (Qf ?_)))
  first
  | exact ZN rfl rfl rfl ZM (.there .here) rfl (fun w hw=>⟨_,I,[],rfl,hIc,hw.drop.drop.drop,_,_,_,_,_,_,by rw [hrp]<;>rfl,rfl,by rw [hrp];first | exact XY he | exact hZ⟩)
 have he:atE qs ks i=0:=by simpa using hc14
 have hrp:WF qs ks i=UE qs ks (atP qs ks i):=if_pos he
 refine Qp (Qd (zR ?_))
 refine zV (Qg rfl ZM (fun hg=>by exact Cells.g2) rfl) ?_
 refine zV (Qg rfl VY (fun hg=>by exact Cells.g0) rfl) ?_
 refine zpc [_,_] rfl zfW .nil (zkb hQ hqn hA han (atP qs ks i)) ?_
 rintro vv1 I1 L1 hI1 ⟨a4,m4,c4,a5,m5,c5,rfl,rfl,hZ,hm⟩
 have hIc:=hIc.trans hI1
 refine zE ?_
 refine zE ?_
 refine zh Yt ?_
 refine zA (zN (Qs ?_))
 first
 | exact ZN rfl rfl rfl ZM (.there .here) rfl (fun w hw=>⟨_,I1,[],rfl,hIc,hw.drop.drop.drop,_,_,_,_,_,_,by rw [hrp]<;>rfl,rfl,by rw [hrp];first | exact XY he | exact hZ⟩)
end
end Go.Proofs.YtjblkbkmblkgoaaGreat
namespace Go.Kn
section
open Go
def LdV (P:Program)(I:Qu)(loc:Loc)(tt b:Nat)(v:Value):Prop:=∀ (g:World) (H:Qu) (w:World),St g I H loc w→(loadVar tt ⟨b,0,none⟩).run P w= .ok v w
theorem LdV.ag {P:Program}{I:Qu}{loc:Loc}{tt b n:Nat}{vs:List Value}(hA:AgT P tt n)(hc:Cells I loc b 0 vs)(hn:vs.length=n):LdV P I loc tt b (.agg vs.toArray):=fun g H w hw=>by
 have h1:(loadCells ⟨b,0,none⟩ n).run P w= .ok vs.toArray w:=by
  rw [←hn]
  exact run_loadCells_list w _ _ fun j v hj=>by rw [ZS];exact (hc j v hj).get hw
 have hA':=hA
 obtain ⟨_,i,h2,h3⟩:=hA'
 simp only [loadVar,Sem.run_bind,Sem.run_pure,YZ hA,Result.andThen,if_true,run_sizeOf h2,h3,h1]
section
variable {P:Program} {fn:Func} {R:Ending→World→Prop} {N:Nat} {g:World} {I H:Qu} {loc:Loc} {E:Env} {r:Option Nat}
theorem zbR {t u s tt tt' b b':Nat}{v v' v'':Value}(hr:fn.results= #[.cell t tt,.cell u tt',.tmp s])(hv:VC E t=some (.pointer (some ⟨b,0,none⟩)))(hv':VC E u=some (.pointer (some ⟨b',0,none⟩)))(hv'':VC E s=some v'')(hl:LdV P I loc tt b v)(hl':LdV P I loc tt' b' v')
  (h:∀ w,St g I H loc w→R (.returned (.tuple #[v,v',v''])) w):At ⟨P,r,N,[],g,H⟩ (bodyPost P fn R) .ret E I loc:=fun a w ha hw=>
 ⟨ha.defers,.tuple #[v,v',v''],by
  have e1:=ha.env _ _ hv
  have e2:=ha.env _ _ hv'
  have e3:=ha.env _ _ hv''
  rw [Array.getD_eq_getD_getElem?] at e1 e2 e3
  have l1:=hl _ _ _ hw
  have l2:=hl' _ _ _ hw
  simp only [results,hr]
  simp [List.mapM_cons,e1,e2,e3,asAddr,l1,l2],h w hw⟩
end
end
end Go.Kn
