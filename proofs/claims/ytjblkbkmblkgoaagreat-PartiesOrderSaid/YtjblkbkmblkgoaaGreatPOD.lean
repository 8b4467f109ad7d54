/- partiesOrder_holds, part D of the proof: what its theorems say holds without further conditions. -/
import Derived.Lib.SlicesCompact
import Derived.Lib.RowBridge
import Derived.Shelf.Small.Bits
import Derived.Shelf.Small.Strs
import Derived.Shelf.Small.Wraps
import Derived.Shelf.Strconv.Itoa0
import Derived.Shelf.Sort.Plain
import Derived.Ground.Names2Prog
import Derived.Shelf.Slices.SearchI
import Derived.Shelf.Slices.In.SortNone
import Derived.Ground.SlgnProg
import Derived.Shelf.SlicesE.Clone
import Derived.Shelf.SlicesQ.Reverse
import Derived.Ground.SlsfProg
import Derived.Shelf.SlSortCmp.InsertionK
import Derived.Shelf.SlSortCmp.SiftDownK
import Derived.Shelf.SlSortCmp.HeapSortK
import Derived.Shelf.SlSortCmp.MedianK
import Derived.Shelf.SlSortCmp.PivotK
import Derived.Shelf.SlSortCmp.ReverseRangeK
import Derived.Shelf.SlSortCmp.PartialInsertionK
import Derived.Shelf.SlSortCmp.PartitionEqualK
import Derived.Shelf.SlSortCmp.PartitionK
import Derived.Shelf.SlSortCmp.PdqK
import Derived.Shelf.SlSortCmp.WholeK
import Derived.Shelf.SlSortCmp.NoneTotal
import Derived.Test.YtjblkbkmblkgoaaGreatProg
import Derived.Test.YtjblkbkmblkgoaaGreatPOC
namespace Go.Proofs.YtjblkbkmblkgoaaGreat
section
open Go Go.Kn Go.Proofs
theorem zvy (I:Qv)(a b:Nat)(hb:0<b)(ha:a≤9223372036854775807)(hb2:b≤9223372036854775807):Yb Tryz.prog 281 [.int .u64 a,.int .u64 b] I (.int .u64 (Nat.gcd a b:Nat)):=by
 intro g H w hw
 refine zji Tryz.func281 rfl Tryz.ntmps281 rfl hw ?_
 have hIc:=zwQ I
 refine zR ?_
 refine Qs zuU rfl rfl (fun b_4=>?_)
 refine zN (Qr (zR (zM ?_)))
 refine zC (zN ?_)
 refine zI ?_ ?_<;>intro hc7
 ·
  simp at hc7;omega
 refine Qw (Qc (zR (zM ?_)))
 refine zS Zb ?_
 refine zN (Qr (zR (zM ?_)))
 refine zM ?_
 refine QC (cap:=[]) (vs:=[_,_]) rfl rfl zpl .nil (zvF I _ _) rfl rfl ?_
 rintro vv1 I1 L1 hI1 ⟨rfl,b1,b2,rfl,rfl⟩
 have hIc:=hIc.trans hI1
 refine zN (QE ?_)
 refine zds (ms:=[]) (K:=zr6 216 b1 b2 (a) (b)) (L:=[(b_4,.cells #[.int .u64 b] 216 (0,0))]) (enc:=fun n:Nat=>.int .u64 n) (xs:=zdc a b) (fun pre I' loc'=>loc'=[(b_4,.cells #[.int .u64 ((pre.getLastD b:Nat):Int)] 216 (0,0))]) (fun _ _ _ _=>False) (fun pre x E2 I2 loc2=>E2=[(4,ZM b_4),(5,.int .u64 x)]∧loc2=[(b_4,.cells #[.int .u64 ((pre.getLastD b:Nat):Int)] 216 (0,0))]) rfl zpB (zl8 _ a b b1 b2 hb ha hb2) rfl rfl ?_ ?_ ?_ ?_
 ·
  rintro l pre x I1 loc1 H1 hpre hI1 rfl
  refine Qk (zA (Qb ?_))
  exact zfl _ ⟨zwQ _,rfl,rfl⟩ (.cons rfl (.cons rfl .nil))
 ·
  rintro l pre x E2 I2 loc2 H2 hpre hI2 ⟨rfl,rfl⟩
  refine QE (Qk (zM ?_))
  refine zS Zb ?_
  refine Qb (Qp ?_)
  exact zjb ⟨zwQ _,by rw [zky];rfl⟩ .refl
 ·
  rintro bd I1 loc1 hI1 rfl
  have hIc:=hIc.trans hI1
  refine Qp (Qc (zR ?_))
  refine zL ZX ?_
  refine zS Zb ?_
  refine zN (QF ?_)
  exact zfV (L:=[(b_4,_)]) (fun a ha w hw=>zvO rfl rfl ZX (QG.h0 rfl) a ha w hw) (fun w hw=>⟨by rw [zm0 b (Nat.le_refl _) (by omega) (fun _=>rfl)],(hw.mono hIc).drop⟩)
 rintro c bd pre I1 loc1 hI1 hpre hF;exact hF.elim
theorem ztQ (I:Qv)(n d:Int)(hn: -1073741824≤n∧n≤1073741824)(hd:1≤d∧d≤1073741824):Yb Tryz.prog 281 [.int .u64 (zhN n),.int .u64 (IntKind.u64.wrap d)] I (.int .u64 (zu1 n d)):=by
 have h0:0≤zhN n∧zhN n≤1073741824:=by unfold zhN;split<;>omega
 have h:=zvy I (zhN n).toNat d.toNat (by omega) (by omega) (by omega)
 rw [zlF (by omega)]
 rw [Int.toNat_of_nonneg h0.1,Int.toNat_of_nonneg (by omega),zp7,Int.toNat_of_nonneg (by omega)] at h
 exact h
theorem zg1 (I:Qv)(n d:Int):Yb Tryz.prog 278 [zh1 (n) (d)] I (.int .i64 (zrT n d)):=by
 intro g H w hw
 refine qe Tryz.func278 Tryz.ntmps278 hw ?_
 refine zR ?_
 refine Zd rfl rfl rfl (fun b_1=>?_)
 refine zA (zN (Qr (Qr ?_)))
 refine zox mixed (by kernel_rfl) ?_
 refine zq (Qa rfl JE) ?_
 refine zq (Qd rfl Qy (fun hg=>by exact QG.h0 rfl)) ?_
 refine zq (QV rfl rfl rfl) ?_
 refine zq (Qh rfl) ?_
 refine U8 3 rfl rfl rfl ?_
 refine zj (Qa rfl JE) ?_
 refine zj (Qd rfl Qy (fun hg=>by exact QG.h0 rfl)) ?_
 refine zj (QV rfl rfl rfl) ?_
 refine zdq rfl rfl rfl rfl rfl ?_
 refine zq (Qh rfl) ?_
 refine U8 8 rfl rfl rfl ?_
 refine zj (Qa rfl Jd) ?_
 refine zj (Qd rfl Qy (fun hg=>by exact QG.h0 rfl)) ?_
 refine zj (QV rfl rfl rfl) ?_
 refine zdq rfl rfl rfl rfl rfl ?_
 refine zq (Qh rfl) ?_
 refine U8 13 rfl rfl rfl ?_
 refine zj (Qa rfl Jd) ?_
 refine zj (Qd rfl Qy (fun hg=>by exact QG.h0 rfl)) ?_
 refine zj (QV rfl rfl rfl) ?_
 refine zdq rfl rfl rfl rfl rfl ?_
 refine zq (Qh rfl) ?_
 refine U8 18 rfl rfl rfl ?_
 refine zj (Qa rfl Jd) ?_
 refine zj (Qd rfl Qy (fun hg=>by exact QG.h0 rfl)) ?_
 refine zeg (cap:=[]) (vs:=[_]) rfl rfl zqe (fun hg=>zvb I n (by simp [YB] at hg;omega)) (.some rfl rfl rfl rfl gbf) rfl rfl ?_
 refine zj (Qa rfl JE) ?_
 refine zj (Qd rfl Qy (fun hg=>by exact QG.h0 rfl)) ?_
 refine zj (Z3 rfl WK) ?_
 refine zeg (cap:=[]) (vs:=[_,_]) rfl rfl zph (fun hg=>ztQ I n d (by simp [YB] at hg;omega) (by simp [YB] at hg;omega)) (.some rfl rfl rfl rfl gbf) rfl rfl ?_
 refine zj (QV rfl rfl rfl) ?_
 refine zdq rfl rfl rfl rfl rfl ?_
 refine zog ?_
 refine Qc ?_
 refine zI ?_ ?_<;>intro hc30
 ·
  refine zR (zA (zN (QF (Qi ?_))))
  first
  | exact zr rfl rfl (by unfold zrT;rw [zps hc30];rfl)
 refine Qw (Qc (zR (zA (zN (QF ?_)))))
 first
 | exact zr rfl rfl (by unfold zrT;rw [znI hc30];rfl)
end
section
open Go Go.Kn Go.Proofs
theorem ztk (I:Qv)(an ad bn bd:Int):Yb Tryz.prog 276 [zh1 (an) (ad),zh1 (bn) (bd)] I (.tuple #[.int .i64 (zud an ad bn bd),.int .i64 (zs6 an ad bn bd)]):=by
 intro g H w hw
 refine qe Tryz.func276 Tryz.ntmps276 hw ?_
 refine zR ?_
 refine Zd rfl rfl rfl (fun b_2=>?_)
 refine Zd rfl rfl rfl (fun b_3=>?_)
 refine zA ?_
 refine zA (zN (Qr (zR ?_)))
 refine zV (Qg rfl Xq (fun hg=>by exact Cells.g1) rfl) ?_
 refine qcV (vs:=[_]) rfl zkk (zg1 I _ _) ?_
 refine zC ?_
 refine zM ?_
 refine Ze 3 rfl rfl rfl ?_
 refine zJ (Qg rfl Xq (fun hg=>by exact Cells.g0) rfl) ?_
 refine qf (vs:=[_]) rfl zkk (fun hg=>zg1 I _ _) ?_
 refine zJ (QV rfl rfl rfl) ?_
 refine ZP rfl rfl rfl rfl rfl ?_
 refine zN ?_
 refine zI ?_ ?_<;>intro hc13
 ·
  have hb:(zbm an ad&&zbm bn bd)=false:=by have h:=hc13;rw [zk5,Bool.not_eq_true'] at h;exact h
  refine zR (zA ?_)
  refine zA (zN (QF (Qi ?_)))
  exact Vq rfl rfl rfl (fun w hw=>⟨by unfold zud zs6;rw [hb];rfl,hw.drop⟩)
 have hb:(zbm an ad&&zbm bn bd)=true:=by have h:=hc13;rw [zk5,Bool.not_eq_false'] at h;exact h
 have ⟨ha1,ha2⟩:=zi5 (Bool.and_eq_true .. ▸ hb).1
 have ⟨hb1,hb2⟩:=zi5 (Bool.and_eq_true .. ▸ hb).2
 refine Qw (Qc (zR ?_))
 refine zF Jd ?_
 refine zL Qy ?_
 refine zF JE ?_
 refine zL Qy ?_
 refine zV (VZ rfl rfl rfl (fun _=>by exact zt9 (by omega) (by omega))) ?_
 refine zF Jd ?_
 refine zL Qy ?_
 refine zF JE ?_
 refine zL Qy ?_
 refine zV (VZ rfl rfl rfl (fun _=>by exact zt9 (by omega) (by omega))) ?_
 refine qcV (vs:=[_,_]) rfl zib (zpH I _ _) ?_
 refine zA ?_
 refine zA (zN (QF ?_))
 exact Vq rfl rfl rfl (fun w hw=>⟨by unfold zud zs6;rw [hb];rfl,hw.drop⟩)
theorem zsC (I:Qv)(an ad bn bd:Int):Yb Tryz.prog 270 [zh1 (an) (ad),zh1 (bn) (bd)] I (.bool (znG an ad bn bd)):=by
 intro g H w hw
 refine qe Tryz.func270 Tryz.ntmps270 hw ?_
 refine zR ?_
 refine Zd rfl rfl rfl (fun b_2=>?_)
 refine Zd rfl rfl rfl (fun b_3=>?_)
 refine zA ?_
 refine zN (zR ?_)
 refine zV (Qg rfl Xq (fun hg=>by exact Cells.g1) rfl) ?_
 refine zV (Qg rfl Xq (fun hg=>by exact Cells.g0) rfl) ?_
 refine qcV (vs:=[_,_]) rfl zpP (ztk I _ _ _ _) ?_
 refine zM ?_
 refine zE ?_
 refine zE ?_
 refine zA ?_
 refine zA ?_
 refine zN (zR ?_)
 refine zM ?_
 refine zC ?_
 refine zM ?_
 refine QL 2 rfl rfl rfl ?_
 refine zK (Qh rfl) ?_
 refine zK (QV rfl rfl rfl) ?_
 refine QU rfl rfl rfl rfl rfl ?_
 refine zM ?_
 refine QL 6 rfl rfl rfl ?_
 refine zK (Qa rfl Jd) ?_
 refine zK (Qd rfl Qy (fun hg=>by exact QG.h1 rfl)) ?_
 refine zK (QV rfl rfl rfl) ?_
 refine QU rfl rfl rfl rfl rfl ?_
 refine zM ?_
 refine QL 11 rfl rfl rfl ?_
 refine zK (Qa rfl Jd) ?_
 refine zK (Qd rfl Qy (fun hg=>by exact QG.h0 rfl)) ?_
 refine zK (Qa rfl JE) ?_
 refine zK (Qd rfl Qy (fun hg=>by exact QG.h0 rfl)) ?_
 refine zK (QV rfl rfl rfl) ?_
 refine QU rfl rfl rfl rfl rfl ?_
 refine zA (zN (QF ?_))
 exact zr rfl rfl (by rw [←zre])
theorem Yd (I:Qv)(n lo hi:Int):Yb Tryz.prog 269 [.int .i64 n,.int .i64 lo,.int .i64 hi] I (.bool (within n lo hi)):=by
 intro g H w hw
 refine qe Tryz.func269 Tryz.ntmps269 hw ?_
 refine zR (zA ?_)
 refine zN (zR ?_)
 refine zM ?_
 refine zM ?_
 refine zC ?_
 refine zM ?_
 refine QL 3 rfl rfl rfl ?_
 refine zK (Qh rfl) ?_
 refine zK (Qh rfl) ?_
 refine zK (QV rfl rfl rfl) ?_
 refine QU rfl rfl rfl rfl rfl ?_
 refine zA (zN (QF ?_))
 exact zr rfl rfl (by rfl)
theorem zu7 (I:Qv)(x:Sg):Yb Tryz.prog 260 [zca x] I (.bool (frm x)):=by
 intro g H w hw
 refine qe Tryz.func260 Tryz.ntmps260 hw ?_
 refine zR ?_
 refine Zd rfl rfl rfl (fun b_1=>?_)
 refine zA ?_
 refine zN (zR ?_)
 refine zF Uq ?_
 refine zL Qy ?_
 refine qcV (vs:=[_,_,_]) rfl Ki (Yd I _ _ _) ?_
 refine zM ?_
 refine QL 3 rfl rfl rfl ?_
 refine zK (Qa rfl XK) ?_
 refine zK (Qd rfl Qy (fun hg=>by exact QG.h0 rfl)) ?_
 refine qg (vs:=[_,_,_]) rfl Ki (fun hg=>Yd I _ _ _) ?_
 refine QU rfl rfl rfl rfl rfl ?_
 refine zM ?_
 refine QL 8 rfl rfl rfl ?_
 refine zK (Qa rfl X1) ?_
 refine zK (Qd rfl Qy (fun hg=>by exact QG.h0 rfl)) ?_
 refine qg (vs:=[_,_,_]) rfl Ki (fun hg=>Yd I _ _ _) ?_
 refine QU rfl rfl rfl rfl rfl ?_
 refine zM ?_
 refine QL 13 rfl rfl rfl ?_
 refine zK (Qa rfl zcu) ?_
 refine zK (Qd rfl Qy (fun hg=>by exact QG.h0 rfl)) ?_
 refine qg (vs:=[_,_,_]) rfl Ki (fun hg=>Yd I _ _ _) ?_
 refine QU rfl rfl rfl rfl rfl ?_
 refine zM ?_
 refine QL 18 rfl rfl rfl ?_
 refine zK (Qa rfl XJ) ?_
 refine zK (Qd rfl Qy (fun hg=>by exact QG.h0 rfl)) ?_
 refine qg (vs:=[_,_,_]) rfl Ki (fun hg=>Yd I _ _ _) ?_
 refine QU rfl rfl rfl rfl rfl ?_
 refine zM ?_
 refine QL 23 rfl rfl rfl ?_
 refine zK (Qa rfl X8) ?_
 refine zK (Qd rfl Qy (fun hg=>by exact QG.h0 rfl)) ?_
 refine qg (vs:=[_,_,_]) rfl Ki (fun hg=>Yd I _ _ _) ?_
 refine QU rfl rfl rfl rfl rfl ?_
 refine zM ?_
 refine QL 28 rfl rfl rfl ?_
 refine zK (Qa rfl XN) ?_
 refine zK (Qd rfl Qy (fun hg=>by exact QG.h0 rfl)) ?_
 refine qg (vs:=[_,_,_]) rfl Ki (fun hg=>Yd I _ _ _) ?_
 refine QU rfl rfl rfl rfl rfl ?_
 refine zM ?_
 refine QL 33 rfl rfl rfl ?_
 refine zK (Qa rfl XL) ?_
 refine zK (Qd rfl Qy (fun hg=>by exact QG.h0 rfl)) ?_
 refine qg (vs:=[_,_,_]) rfl Ki (fun hg=>Yd I _ _ _) ?_
 refine QU rfl rfl rfl rfl rfl ?_
 refine zM ?_
 refine QL 38 rfl rfl rfl ?_
 refine zK (Qa rfl X4) ?_
 refine zK (Qd rfl Qy (fun hg=>by exact QG.h0 rfl)) ?_
 refine qg (vs:=[_,_,_]) rfl Ki (fun hg=>Yd I _ _ _) ?_
 refine QU rfl rfl rfl rfl rfl ?_
 refine zM ?_
 refine QL 43 rfl rfl rfl ?_
 refine zK (Qa rfl XU) ?_
 refine zK (Qd rfl Qy (fun hg=>by exact QG.h0 rfl)) ?_
 refine qg (vs:=[_,_,_]) rfl Ki (fun hg=>Yd I _ _ _) ?_
 refine QU rfl rfl rfl rfl rfl ?_
 refine zM ?_
 refine QL 48 rfl rfl rfl ?_
 refine zK (Qa rfl Kq) ?_
 refine zK (Qg rfl Xq (fun hg=>by exact Cells.s0 (vs:=[_,_]) rfl) rfl) ?_
 refine zK (Qa rfl Ku) ?_
 refine zK (Qg rfl Xq (fun hg=>by exact Cells.s0 (vs:=[_,_]) rfl) rfl) ?_
 refine qg (vs:=[_,_]) rfl zqN (fun hg=>zsC I _ _ _ _) ?_
 refine QU rfl rfl rfl rfl rfl ?_
 refine zA (zN (QF ?_))
 exact zr rfl rfl (by rfl)
theorem ztq {I:Qv}{av:Option Addr}{n c:Nat}{xs:List Sg}(hS:Sl I 14 zhI av n c xs)(hn:n≤100000):Yb Tryz.prog 217 [.slice av n c] I (.int .i64 (zrS xs)):=by
 intro g H w hw
 refine qe Tryz.func217 Tryz.ntmps217 hw ?_
 refine zR (zA (zN (Qr (zR ?_))))
 refine zM ?_
 refine zQ zc0 ?_
 refine zC (zN ?_)
 refine zI ?_ ?_<;>intro hc7
 ·
  have h6:xs.length>4096:=by rw [hS.len];simp at hc7;omega
  refine zR (zA (zN (QF (Qi ?_))))
  first
  | exact zr rfl rfl (by unfold zrS;rw [if_pos h6])
 have h6:¬xs.length>4096:=by rw [hS.len];simp at hc7;omega
 refine Qw (Qc (Qr (zR (zM ?_))))
 refine zQ zc0 ?_
 refine zM (zN (QE ?_))
 refine zU [(0,_),(8,_),(9,_)] (fun T L0 mz E I' loc'=>∃ (k:Nat),mz=n-k∧E=(10,.int .i64 k)::T∧I=I'∧L0=loc'∧k≤n∧(List.range k).all (skP xs)=true) ?_ (h:=⟨0,rfl,rfl,rfl,rfl,Nat.zero_le _,rfl⟩)
 rintro mz E I' loc' ⟨k,rfl,rfl,rfl,rfl,hk,hall⟩
 refine zR (zC (zN (Qr ?_)))
 refine zI ?_ ?_<;>intro hc11
 ·
  have hlt_k:k<n:=by have h:=hc11;simp at h;omega
  obtain ⟨x,hx⟩:=hS.at hlt_k
  refine Qw (Qc (Qr (QE (zR (zM ?_)))))
  refine zV (QX rfl rfl zc0 (by assumption) (fun hg=>by omega)) ?_
  refine zV (Qg rfl VR (fun hg=>by exact zwR hS hx) rfl) ?_
  refine Qs zmq rfl rfl (fun b_4=>?_)
  refine zA ?_
  refine zh zau ?_
  refine zN (Qr ?_)
  refine zox mixed (by kernel_rfl) ?_
  refine zq (Qg rfl VR (fun hg=>by exact Cells.g0) rfl) ?_
  refine zjO (cap:=[]) (vs:=[_]) rfl rfl zqH (zu7 I _) rfl rfl ?_
  refine zq (Yz rfl) ?_
  refine zq (Qh rfl) ?_
  refine U8 3 rfl rfl rfl ?_
  refine zj (Qh rfl) ?_
  refine zj (QV rfl rfl rfl) ?_
  refine zj (Qh rfl) ?_
  refine zmY 6 rfl rfl rfl ?_
  refine zk (Qh rfl) ?_
  refine zk (Qh rfl) ?_
  refine zk (VZ rfl rfl rfl (fun hg=>by omega)) ?_
  refine zk (QX rfl rfl zc0 (by assumption) (fun hg=>by (simp [YB] at hg;omega))) ?_
  refine zk (Qa rfl Uq) ?_
  refine zk (Qd rfl Qy (fun hg=>by exact zwJ (k:=((k:Int)-1).toNat) hS (zaR (d:=KU) hS.len (by simp [YB] at hg;omega)) rfl)) ?_
  refine zk (Qa rfl Uq) ?_
  refine zk (Qd rfl Qy (fun hg=>by exact QG.h0 rfl)) ?_
  refine zk (QV rfl rfl rfl) ?_
  refine zpR rfl rfl rfl (.some rfl rfl rfl rfl gbf) rfl rfl ?_
  refine zdq rfl rfl rfl rfl rfl ?_
  refine zog ?_
  refine Qc ?_
  refine zI ?_ ?_<;>intro hc32
  ·
   refine zR (zA (zN (QF (Qz (Qi (Qi (Qz ?_)))))))
   refine Qi ?_
   first
   | exact zr rfl rfl (by unfold zrS skB;rw [if_neg h6,K1 (k:=k) (by rw [hS.len];exact hlt_k) (by rw [zoa hx,hc32];rfl)];rfl)
  refine Qw (Qp (Qc (Qk (zB ?_))))
  refine zM (Qb ?_)
  exact zm (h:=⟨n-(k+1),by omega,k+1,rfl,rfl,rfl,rfl,by omega,Ky hall (by rw [zoa hx,hc32];rfl)⟩)
 have hge_k:n≤k:=by have h:=hc11;simp at h;omega
 refine ZC (Qt (Qt (QD (Qc (zR (zA (zN ?_)))))))
 refine QF ?_
 first
 | exact zr rfl rfl (by unfold zrS skB;rw [if_neg h6,hS.len,show n=k by omega,hall];rfl)
theorem zbo (I:Qv)(b:Nat):Yb Tryz.prog 216 [ZM b] I (.agg (zv3 b).toArray):=by
 intro g H w hw
 refine qe Tryz.func216 Tryz.ntmps216 hw ?_
 refine zR ?_
 refine Qs zoJ rfl rfl (fun b_2=>?_)
 refine zN (Qr ?_)
 have hD:=zwQ I
 refine ZK ?_
 refine QZ I [] mixed ?_
 refine zT 0 rfl (Qh rfl) hD ?_
 refine zT 1 rfl (QM rfl) hD ?_
 refine zT 2 rfl (Qa rfl XK) hD ?_
 refine zT 3 rfl (Qh rfl) hD ?_
 refine zT 4 rfl (QM rfl) hD ?_
 refine zT 5 rfl (Qa rfl X1) hD ?_
 refine zT 6 rfl (Qh rfl) hD ?_
 refine zT 7 rfl (QM rfl) hD ?_
 refine zT 8 rfl (Qa rfl XJ) hD ?_
 refine zT 9 rfl (Qh rfl) hD ?_
 refine zT 10 rfl (QM rfl) hD ?_
 refine zT 11 rfl (Qa rfl X8) hD ?_
 refine zT 12 rfl (Qh rfl) hD ?_
 refine zT 13 rfl (QM rfl) hD ?_
 refine zT 14 rfl (Qa rfl XN) hD ?_
 refine zT 15 rfl (Qh rfl) hD ?_
 refine zT 16 rfl (QM rfl) hD ?_
 refine zT 17 rfl (Qa rfl XL) hD ?_
 refine zT 18 rfl (Qh rfl) hD ?_
 refine zT 19 rfl (QM rfl) hD ?_
 refine zT 20 rfl (Qa rfl X4) hD ?_
 refine zT 21 rfl (Qh rfl) hD ?_
 refine zT 22 rfl (QM rfl) hD ?_
 refine zT 23 rfl (Qa rfl XU) hD ?_
 refine zT 24 rfl (Vs (ps:=[(1,_),(2,_),(3,_),(4,_),(5,_),(6,_),(7,_),(8,_)]) [_,_,_,_,_,_,_,_,_] UW zoJ rfl rfl) hD ?_
 refine qd 25 rfl ?_
 refine zh zpS ?_
 refine Qb ?_
 refine zD hD ?_
 refine Qm (by kernel_rfl) ?_
 refine QA ?_
 refine Qc (QF ?_)
 exact Y6 rfl rfl zrj Cells.g0 rfl (fun w hw=>⟨rfl,hw.drop⟩)
theorem zr5 (I:Qv)(x:Sg)(f:Int)(y:Sg)(hf:isF f):Yb Tryz.prog 161 [zca x,.int .i64 f,zca y] I (zca (znL x f y)):=by
 intro g H w hw
 refine qe Tryz.func161 Tryz.ntmps161 hw ?_
 refine zR ?_
 refine Zd rfl rfl rfl (fun b_3=>?_)
 refine Zd rfl rfl rfl (fun b_5=>?_)
 refine Qs zmq rfl rfl (fun b_6=>?_)
 refine zN (Qr (zR (zM ?_)))
 refine zC (zN ?_)
 refine zI ?_ ?_<;>intro hc8
 ·
  have hf9:f=9:=by simpa using hc8
  refine zR ?_
  refine zF Kq ?_
  refine zV (Qg rfl Xq (fun hg=>by exact Cells.s1 (vs:=[_,_]) rfl) rfl) ?_
  refine zF Ku ?_
  refine zV (Qg rfl Xq (fun hg=>by exact Cells.s1 (vs:=[_,_]) rfl) rfl) ?_
  refine zF Kq ?_
  refine VF rfl rfl zoS rfl rfl rfl rfl (by repeat (first | exact Upd.here | apply Upd.there | apply Qx)) ?_
  refine zF Ku ?_
  refine VF rfl rfl zoS rfl rfl rfl rfl (by repeat (first | exact Upd.here | apply Upd.there | apply Qx)) ?_
  refine zN (zR ?_)
  refine zV (Qg rfl VR (fun hg=>by exact Cells.g2) rfl) ?_
  refine zh zau ?_
  refine zN (QF (Qi ?_))
  first
  | exact Y6 rfl rfl VR Cells.g0 rfl (fun w hw=>⟨by rw [hf9];rfl,hw.drop⟩)
 have hf8:1≤f∧f≤8:=by have h:=hc8;unfold isF at hf;simp at h;omega
 refine Qw (Qc (Qr ?_))
 have hD:=zwQ I
 refine ZK ?_
 refine QZ I [(b_5,.cells (zca y).cells 36 (0,0))] mixed ?_
 refine zT 1 rfl (Qh rfl) hD ?_
 refine zT 4 rfl (Qh rfl) hD ?_
 refine qd 0 rfl ?_
 refine qcV (vs:=[_]) rfl zeY (zbo I _) ?_
 refine Qb ?_
 refine zD hD ?_
 refine Q8 2 3 rfl rfl (by kernel_rfl) ?_ ?_
 ·
  refine zV (JX rfl rfl UW Ue (fun hg=>by omega) (fun hg=>zbO hf8 b_3)) ?_
  refine Qb ?_
  refine zD hD ?_
  refine qd 3 rfl ?_
  refine qcV (vs:=[_]) rfl zeY (zbo I _) ?_
  refine Qb ?_
  refine zD hD ?_
  refine qd 5 rfl ?_
  refine zV (JX rfl rfl UW Ue (fun hg=>by omega) (fun hg=>zbO hf8 b_5)) ?_
  refine Qb ?_
  refine zD hD ?_
  refine zT 6 rfl (QM rfl) hD ?_
  refine zT 7 rfl (Qd rfl Qy (fun hg=>by exact QG.h0 (zfp hf8 y))) hD ?_
  refine zT 8 rfl (QM rfl) hD ?_
  refine qd 9 rfl ?_
  refine Zg rfl rfl zdC rfl rfl Upd.u2 (by exact zpE) ?_
  rw [show (zca x).cells.setIfInBounds (foF f) (.int .i64 (zt7 y f))=(zhI (znL x f y)).toArray from zjt hf8 x y]
  refine Qb ?_
  refine zD hD ?_
  refine Qm (by kernel_rfl) ?_
  refine QA ?_
  refine Qc (zR ?_)
  refine zV (Qg rfl VR (fun hg=>by exact Cells.g2) rfl) ?_
  refine zh zau ?_
  refine zN (QF ?_)
  exact Y6 rfl rfl VR Cells.g0 rfl (fun w hw=>⟨rfl,hw.drop⟩)
 refine qcV (vs:=[_]) rfl zeY (zbo I _) ?_
 refine Qb ?_
 refine zD hD ?_
 refine Q8 2 5 rfl rfl (by kernel_rfl) ?_ ?_
 ·
  refine zV (JX rfl rfl UW Ue (fun hg=>by omega) (fun hg=>zbO hf8 b_3)) ?_
  refine Qb ?_
  refine zD hD ?_
  refine qd 5 rfl ?_
  refine zV (JX rfl rfl UW Ue (fun hg=>by omega) (fun hg=>zbO hf8 b_5)) ?_
  refine Qb ?_
  refine zD hD ?_
  refine zT 6 rfl (QM rfl) hD ?_
  refine zT 7 rfl (Qd rfl Qy (fun hg=>by exact QG.h0 (zfp hf8 y))) hD ?_
  refine zT 8 rfl (QM rfl) hD ?_
  refine qd 9 rfl ?_
  refine Zg rfl rfl zdC rfl rfl Upd.u2 (by exact zpE) ?_
  rw [show (zca x).cells.setIfInBounds (foF f) (.int .i64 (zt7 y f))=(zhI (znL x f y)).toArray from zjt hf8 x y]
  refine Qb ?_
  refine zD hD ?_
  refine Qm (by kernel_rfl) ?_
  refine QA ?_
  refine Qc (zR ?_)
  refine zV (Qg rfl VR (fun hg=>by exact Cells.g2) rfl) ?_
  refine zh zau ?_
  refine zN (QF ?_)
  exact Y6 rfl rfl VR Cells.g0 rfl (fun w hw=>⟨rfl,hw.drop⟩)
 refine zV (JX rfl rfl UW Ue (fun hg=>by omega) (fun hg=>zbO hf8 b_5)) ?_
 refine Qb ?_
 refine zD hD ?_
 refine zT 6 rfl (QM rfl) hD ?_
 refine zT 7 rfl (Qd rfl Qy (fun hg=>by exact QG.h0 (zfp hf8 y))) hD ?_
 refine qd 2 rfl ?_
 refine zV (JX rfl rfl UW Ue (fun hg=>by omega) (fun hg=>zbO hf8 b_3)) ?_
 refine Qb ?_
 refine zD hD ?_
 refine zT 8 rfl (QM rfl) hD ?_
 refine qd 9 rfl ?_
 refine Zg rfl rfl zdC rfl rfl Upd.u2 (by exact zpE) ?_
 rw [show (zca x).cells.setIfInBounds (foF f) (.int .i64 (zt7 y f))=(zhI (znL x f y)).toArray from zjt hf8 x y]
 refine Qb ?_
 refine zD hD ?_
 refine Qm (by kernel_rfl) ?_
 refine QA ?_
 refine Qc (zR ?_)
 refine zV (Qg rfl VR (fun hg=>by exact Cells.g2) rfl) ?_
 refine zh zau ?_
 refine zN (QF ?_)
 exact Y6 rfl rfl VR Cells.g0 rfl (fun w hw=>⟨rfl,hw.drop⟩)
end
section
open Go Go.Kn
def zbu (zs:List Int):List Int:=zs.mergeSort fun x y=>decide (x≤y)
theorem JV (zs:List Int):zs.flatMap Yg=zs.map (Value.int .i64):=by
 induction zs with
 | nil=>rfl
 | cons z zs ih=>rw [List.flatMap_cons,ih];rfl
end
section
open Go Go.Kn Go.Proofs
theorem zp8 (i j:Nat)(h:i+j≤1000000):IntKind.i64.wrap ((IntKind.u64.wrap ((i:Int)+(j:Int))).fdiv (2^1))=(((i+j) / 2:Nat):Int):=by
 have h1:IntKind.u64.wrap ((i:Int)+(j:Int))=((i+j:Nat):Int):=by
  rw [show ((i:Int)+(j:Int))=((i+j:Nat):Int) by omega]
  exact zlF ⟨by omega,by omega⟩
 rw [h1,show ((2:Int)^1)=((2:Nat):Int) from rfl,Int.fdiv_eq_ediv_of_nonneg _ (by omega),←Int.natCast_ediv]
 exact zfA ⟨by omega,by omega⟩
section
variable {α:Type} {key:α→Int} {xs:List α} {t:Int}
end
instance : Inhabited Sg := ⟨KU⟩
end
end Go.Proofs.YtjblkbkmblkgoaaGreat
namespace Go.Proofs
section
open Go.Shelf
def Tryz.lays106_ren:Go.Shelf.Ren:=⟨fun | 106=>154 | 213=>209 | 265=>259 | n=>n,fun | 9=>9 | 3=>3 | n=>n,fun | n=>n⟩
theorem Tryz.lays106:Go.Proofs.Lays.n106 Tryz.prog Tryz.lays106_ren:={
 mixed:=by kernel_rfl
 f106:=Tryz.func154.trans (congrArg some (by kernel_rfl))
 f213:=Tryz.func209.trans (congrArg some (by kernel_rfl))
 f265:=Tryz.func259.trans (congrArg some (by kernel_rfl))
 t3:=Tryz.underlying3
 a3:=Tryz.isAgg3
 z3:=Tryz.sizeOf3
 v3:=Tryz.zeroValue3
 t9:=Tryz.underlying9
 a9:=Tryz.isAgg9
 z9:=Tryz.sizeOf9
 v9:=Tryz.zeroValue9}
open Go.RowKit in
theorem Tryz.strings_Compare (a b:ByteArray) (w:World):
  Calls Tryz.prog 154 #[.string a,.string b] w fun e w'=>e= .returned (.int .i64 (Lib.compareBytes a.data.toList b.data.toList))∧w'=w:=Any.strings_Compare Tryz.lays106 a b w
def Tryz.lays189_ren:Go.Shelf.Ren:=⟨fun | 189=>135 | 125=>153 | 257=>188 | 128=>207 | 129=>208 | 294=>236 | 295=>237 | 296=>238 | 297=>239 | 298=>240 | 299=>241 | 216=>242 | 300=>243 | 301=>244 | 328=>264 | 329=>255 | 330=>256 | 331=>265 | 332=>266 | 215=>229 | 343=>274 | n=>n,fun | 28=>37 | 3=>3 | 46=>216 | 0=>0 | 51=>274 | 53=>276 | 4=>4 | 183=>268 | 182=>267 | 131=>150 | 5=>5 | 9=>9 | 218=>306 | 222=>184 | 228=>318 | 229=>319 | n=>n,fun | n=>n⟩
theorem Tryz.lays189:Go.Proofs.Lays.n189 Tryz.prog Tryz.lays189_ren:={
 mixed:=by kernel_rfl
 f125:=Tryz.func153.trans (congrArg some (by kernel_rfl))
 f128:=Tryz.func207.trans (congrArg some (by kernel_rfl))
 f129:=Tryz.func208.trans (congrArg some (by kernel_rfl))
 f189:=Tryz.func135.trans (congrArg some (by kernel_rfl))
 f215:=Tryz.func229.trans (congrArg some (by kernel_rfl))
 f216:=Tryz.func242.trans (congrArg some (by kernel_rfl))
 f257:=Tryz.func188.trans (congrArg some (by kernel_rfl))
 f294:=Tryz.func236.trans (congrArg some (by kernel_rfl))
 f295:=Tryz.func237.trans (congrArg some (by kernel_rfl))
 f296:=Tryz.func238.trans (congrArg some (by kernel_rfl))
 f297:=Tryz.func239.trans (congrArg some (by kernel_rfl))
 f298:=Tryz.func240.trans (congrArg some (by kernel_rfl))
 f299:=Tryz.func241.trans (congrArg some (by kernel_rfl))
 f300:=Tryz.func243.trans (congrArg some (by kernel_rfl))
 f301:=Tryz.func244.trans (congrArg some (by kernel_rfl))
 f328:=Tryz.func264.trans (congrArg some (by kernel_rfl))
 f329:=Tryz.func255.trans (congrArg some (by kernel_rfl))
 f330:=Tryz.func256.trans (congrArg some (by kernel_rfl))
 f331:=Tryz.func265.trans (congrArg some (by kernel_rfl))
 f332:=Tryz.func266.trans (congrArg some (by kernel_rfl))
 f343:=Tryz.func274.trans (congrArg some (by kernel_rfl))
 t0:=Tryz.underlying0
 a0:=Tryz.isAgg0
 z0:=Tryz.sizeOf0
 v0:=Tryz.zeroValue0
 t3:=Tryz.underlying3
 a3:=Tryz.isAgg3
 z3:=Tryz.sizeOf3
 v3:=Tryz.zeroValue3
 t4:=Tryz.underlying4
 a4:=Tryz.isAgg4
 z4:=Tryz.sizeOf4
 v4:=Tryz.zeroValue4
 t5:=Tryz.underlying5
 a5:=Tryz.isAgg5
 z5:=Tryz.sizeOf5
 v5:=Tryz.zeroValue5
 t9:=Tryz.underlying9
 a9:=Tryz.isAgg9
 z9:=Tryz.sizeOf9
 v9:=Tryz.zeroValue9
 t28:=Tryz.underlying37
 a28:=Tryz.isAgg37
 z28:=Tryz.sizeOf37
 v28:=Tryz.zeroValue37
 t46:=Tryz.underlying216
 a46:=Tryz.isAgg216
 z46:=Tryz.sizeOf216
 v46:=Tryz.zeroValue216
 t51:=Tryz.underlying274
 a51:=Tryz.isAgg274
 z51:=Tryz.sizeOf274
 v51:=Tryz.zeroValue274
 t53:=Tryz.underlying276
 a53:=Tryz.isAgg276
 z53:=Tryz.sizeOf276
 v53:=Tryz.zeroValue276
 t131:=Tryz.underlying150
 a131:=Tryz.isAgg150
 z131:=Tryz.sizeOf150
 v131:=Tryz.zeroValue150
 t182:=Tryz.underlying267
 a182:=Tryz.isAgg267
 z182:=Tryz.sizeOf267
 v182:=Tryz.zeroValue267
 t183:=Tryz.underlying268
 a183:=Tryz.isAgg268
 z183:=Tryz.sizeOf268
 v183:=Tryz.zeroValue268
 t218:=Tryz.underlying306
 a218:=Tryz.isAgg306
 z218:=Tryz.sizeOf306
 v218:=Tryz.zeroValue306
 t222:=Tryz.underlying184
 a222:=Tryz.isAgg184
 z222:=Tryz.sizeOf184
 v222:=Tryz.zeroValue184
 t228:=Tryz.underlying318
 a228:=Tryz.isAgg318
 z228:=Tryz.sizeOf318
 v228:=Tryz.zeroValue318
 t229:=Tryz.underlying319
 a229:=Tryz.isAgg319
 z229:=Tryz.sizeOf319
 v229:=Tryz.zeroValue319}
open Go.Sort Go.RowKit in
theorem Tryz.slices_Sort_int (blk off cap:Nat) (zs:List Int) (w:World) (hH:Holds (Value.int .i64) w blk off zs.toArray) (hblk:blk<w.heap.size) (hsz:zs.length<4611686018427387904):
  Calls Tryz.prog 135 #[.slice (some ⟨blk,off,none⟩) zs.length cap] w fun e w'=>
   e= .returned (.tuple #[])∧∃ n os,w'=grow (putRow (Value.int .i64) (Sort.ahead w n) blk off (zs.mergeSort fun x y=>decide (x≤y)).toArray) os:=Any.slices_Sort_int Tryz.lays189 blk off cap zs w hH hblk hsz
open Go.RowKit Go.Sort in
theorem Tryz.slices_Sort_int_none (p:Option Addr) (cap:Nat) (w:World):
  Calls Tryz.prog 135 #[.slice p 0 cap] w fun e w'=>e= .returned (.tuple #[])∧w'=w:=Any.slices_Sort_int_none Tryz.lays189 p cap w
def Tryz.laysSlF06_f80_ren:Go.Shelf.Ren:=⟨fun | 6=>80 | 15=>153 | 14=>152 | 28=>207 | 29=>208 | 20=>199 | 21=>200 | 22=>201 | 23=>202 | 24=>203 | 25=>204 | 26=>205 | 27=>206 | 46=>254 | 47=>255 | 48=>256 | 49=>257 | 50=>258 | 57=>268 | n=>n,fun | 22=>57 | 24=>45 | 25=>128 | 3=>3 | 39=>216 | 0=>0 | 53=>274 | 55=>276 | 4=>4 | 46=>268 | 45=>267 | 50=>150 | 5=>5 | 9=>9 | 66=>306 | 70=>184 | 76=>318 | 77=>319 | n=>n,fun | n=>n⟩
theorem Tryz.laysSlF06_f80:Go.Proofs.SlLaysF0.n6 Tryz.prog Tryz.laysSlF06_f80_ren:={
 mixed:=by kernel_rfl
 f6:=⟨Tryz.f80.name,by decide,Tryz.func80.trans (congrArg some (by kernel_rfl))⟩
 f14:=⟨Tryz.f152.name,by decide,Tryz.func152.trans (congrArg some (by kernel_rfl))⟩
 f15:=Tryz.func153.trans (congrArg some (by kernel_rfl))
 f20:=⟨Tryz.f199.name,by decide,Tryz.func199.trans (congrArg some (by kernel_rfl))⟩
 f21:=⟨Tryz.f200.name,by decide,Tryz.func200.trans (congrArg some (by kernel_rfl))⟩
 f22:=⟨Tryz.f201.name,by decide,Tryz.func201.trans (congrArg some (by kernel_rfl))⟩
 f23:=⟨Tryz.f202.name,by decide,Tryz.func202.trans (congrArg some (by kernel_rfl))⟩
 f24:=⟨Tryz.f203.name,by decide,Tryz.func203.trans (congrArg some (by kernel_rfl))⟩
 f25:=⟨Tryz.f204.name,by decide,Tryz.func204.trans (congrArg some (by kernel_rfl))⟩
 f26:=⟨Tryz.f205.name,by decide,Tryz.func205.trans (congrArg some (by kernel_rfl))⟩
 f27:=⟨Tryz.f206.name,by decide,Tryz.func206.trans (congrArg some (by kernel_rfl))⟩
 f28:=Tryz.func207.trans (congrArg some (by kernel_rfl))
 f29:=Tryz.func208.trans (congrArg some (by kernel_rfl))
 f46:=⟨Tryz.f254.name,by decide,Tryz.func254.trans (congrArg some (by kernel_rfl))⟩
 f47:=Tryz.func255.trans (congrArg some (by kernel_rfl))
 f48:=Tryz.func256.trans (congrArg some (by kernel_rfl))
 f49:=⟨Tryz.f257.name,by decide,Tryz.func257.trans (congrArg some (by kernel_rfl))⟩
 f50:=⟨Tryz.f258.name,by decide,Tryz.func258.trans (congrArg some (by kernel_rfl))⟩
 f57:=⟨Tryz.f268.name,by decide,Tryz.func268.trans (congrArg some (by kernel_rfl))⟩
 t0:=Tryz.underlying0
 a0:=Tryz.isAgg0
 z0:=Tryz.sizeOf0
 v0:=Tryz.zeroValue0
 t3:=Tryz.underlying3
 a3:=Tryz.isAgg3
 z3:=Tryz.sizeOf3
 v3:=Tryz.zeroValue3
 t4:=Tryz.underlying4
 a4:=Tryz.isAgg4
 z4:=Tryz.sizeOf4
 v4:=Tryz.zeroValue4
 t5:=Tryz.underlying5
 a5:=Tryz.isAgg5
 z5:=Tryz.sizeOf5
 v5:=Tryz.zeroValue5
 t9:=Tryz.underlying9
 a9:=Tryz.isAgg9
 z9:=Tryz.sizeOf9
 v9:=Tryz.zeroValue9
 t22:=Tryz.underlying57
 a22:=Tryz.isAgg57
 z22:=Tryz.sizeOf57
 v22:=Tryz.zeroValue57
 t25:=Tryz.underlying128
 a25:=Tryz.isAgg128
 z25:=Tryz.sizeOf128
 v25:=Tryz.zeroValue128
 t39:=Tryz.underlying216
 a39:=Tryz.isAgg216
 z39:=Tryz.sizeOf216
 v39:=Tryz.zeroValue216
 t45:=Tryz.underlying267
 a45:=Tryz.isAgg267
 z45:=Tryz.sizeOf267
 v45:=Tryz.zeroValue267
 t46:=Tryz.underlying268
 a46:=Tryz.isAgg268
 z46:=Tryz.sizeOf268
 v46:=Tryz.zeroValue268
 t50:=Tryz.underlying150
 a50:=Tryz.isAgg150
 z50:=Tryz.sizeOf150
 v50:=Tryz.zeroValue150
 t53:=Tryz.underlying274
 a53:=Tryz.isAgg274
 z53:=Tryz.sizeOf274
 v53:=Tryz.zeroValue274
 t55:=Tryz.underlying276
 a55:=Tryz.isAgg276
 z55:=Tryz.sizeOf276
 v55:=Tryz.zeroValue276
 t66:=Tryz.underlying306
 a66:=Tryz.isAgg306
 z66:=Tryz.sizeOf306
 v66:=Tryz.zeroValue306
 t70:=Tryz.underlying184
 a70:=Tryz.isAgg184
 z70:=Tryz.sizeOf184
 v70:=Tryz.zeroValue184
 t76:=Tryz.underlying318
 a76:=Tryz.isAgg318
 z76:=Tryz.sizeOf318
 v76:=Tryz.zeroValue318
 t77:=Tryz.underlying319
 a77:=Tryz.isAgg319
 z77:=Tryz.sizeOf319
 v77:=Tryz.zeroValue319}
open Go.RowKit Go.Lib Go.Sort in
theorem Tryz.slices_SortFunc {α:Type} [Inhabited α] (k:Nat) (aE:∀ w,(isAgg (Tryz.laysSlF06_f80_ren.t 24)).run Tryz.prog w= .ok true w) (zE:∀ w,(Go.sizeOf (Tryz.laysSlF06_f80_ren.t 24)).run Tryz.prog w= .ok k w) (enc:α→List Value) (hk:∀ x,(enc x).length=k) (h1:∀ x,∀ v∈enc x,v.oneCell'=true) (cf:α→α→Int) (hO:SWO (ltOf cf)) (g:Nat) (cb:Array Value) (blk off cap:Nat) (d:Array α) (w:World) (eg:∀ args w,(callFunc g args).run Tryz.prog w= .ok (.enter g args) w) (hcmp:CmpLays Tryz.prog g cb enc k cf blk off d.size w) (hH:HoldsK enc k w blk off d) (hblk:blk<w.heap.size) (hsz:d.size<4611686018427387904):
  Calls Tryz.prog 80 #[.slice (some ⟨blk,off,none⟩) d.size cap,.func (.func g) #[] cb] w fun e w'=>
   e= .returned (.tuple #[])∧∃ d' n os,PermIn 0 d.size d d'∧SortedIn (ltOf cf) 0 d.size d'∧w'=sortWorldK enc k w blk off n d' os:=AnyQ.slices_SortFunc Tryz.laysSlF06_f80 k aE zE enc hk h1 cf hO g cb blk off cap d w eg hcmp hH hblk hsz
open Go.RowKit Go.Lib Go.Sort in
theorem Tryz.slices_SortFunc_none {α:Type} [Inhabited α] (p:Option Addr) (cap:Nat) (fv:Value) (w:World):
  Calls Tryz.prog 80 #[.slice p 0 cap,fv] w fun e w'=>e= .returned (.tuple #[])∧w'=w:=AnyF.slices_SortFunc_none Tryz.laysSlF06_f80 p cap fv w
end
end Go.Proofs
namespace Go.Proofs.YtjblkbkmblkgoaaGreat
section
open Go Go.Kn Go.Proofs
theorem zfI (e:Nat)(zs:List Int){v:Value}{n:Nat}{L:Go.Kn.Loc}(hO:Ym e 1 v n (zs.map (Value.int .i64)) L)(hn:n≤1000000)(I:Qv):
  Vl Tryz.prog 135 [v] I L (fun u I' L'=>u= .tuple #[]∧I'=I∧Ym e 1 v n ((zbu zs).map (Value.int .i64)) L'):=
 zrf Tryz.slices_Sort_int Tryz.slices_Sort_int_none zs hO hn I
end
section
open Go Go.Kn Go.Proofs
def zl5 (b:Nat):Value:=.map (some b)
structure zex (s:List (Int×Bool))(A:Int→Bool):Prop where
 nodup:(s.map (·.1)).Nodup
 all:∀ q∈s,q.2=true
 mem:∀ x,zlV s x=A x
theorem zex.nil:zex [] (fun _=>false):=⟨.nil,(fun q hq=>by cases hq),fun _=>rfl⟩
theorem zex.put {s:List (Int×Bool)}{A:Int→Bool}(h:zex s A)(a:Int):zex (JF s a true) (fun x=>decide (a=x)||A x) where
 nodup:=zhr a true h.nodup
 all:=by
  have key:∀ (s:List (Int×Bool)),(∀ q∈s,q.2=true)→∀ q∈JF s a true,q.2=true:=by
   intro s
   induction s with
   | nil=>intro _ q hq;simp [JF] at hq;rw [hq]
   | cons p s ih=>
    intro h q hq
    unfold JF at hq
    split at hq
    ·
     rcases List.mem_cons.1 hq with rfl | hq
     ·
      rfl
     ·
      exact h q (List.mem_cons_of_mem _ hq)
    ·
     rcases List.mem_cons.1 hq with rfl | hq
     ·
      exact h _ (List.mem_cons_self ..)
     ·
      exact ih (fun q hq=>h q (List.mem_cons_of_mem _ hq)) q hq
  exact key s h.all
 mem:=fun x=>by rw [zg2,h.mem]
theorem zex.congr {s:List (Int×Bool)}{A B:Int→Bool}(h:zex s A)(e:∀ x,A x=B x):zex s B:=⟨h.nodup,h.all,fun x=>by rw [h.mem,e]⟩
theorem zex.key {s:List (Int×Bool)}{A:Int→Bool}(h:zex s A){x:Int}:A x=true↔x∈s.map (·.1):=by
 rw [←h.mem]
 unfold zlV
 constructor
 ·
  intro h1
  cases hg:ZV s x with
  | none=>rw [hg] at h1;cases h1
  | some b=>exact List.mem_map.2 ⟨_,zc3 hg,rfl⟩
 ·
  intro h1
  obtain ⟨q,hq,rfl⟩:=List.mem_map.1 h1
  rw [zo8 h.nodup hq,h.all q hq];rfl
def OnS (I:Qv)(ref:Nat)(A:Int→Bool):Prop:=∃ s:List (Int×Bool),I ref=some (YC (Value.int .i64) Value.bool s)∧zex s A
theorem OnS.mono {I I':Qv}{ref:Nat}{A:Int→Bool}(h:OnS I ref A)(hI:HLe I I'):OnS I' ref A:=by
 obtain ⟨s,h1,h2⟩:=h
 exact ⟨s,hI _ _ h1,h2⟩
def OnL (I:Qv)(m:List (Int×Nat))(ps:List Pt):Prop:=m.map (·.1)=ps.map (·.id)∧∀ q∈m,OnS I q.2 (onF ps q.1)
theorem OnL.mono {I I':Qv}{m:List (Int×Nat)}{ps:List Pt}(h:OnL I m ps)(hI:HLe I I'):OnL I' m ps:=⟨h.1,fun q hq=>(h.2 q hq).mono hI⟩
theorem OnL.nil {I:Qv}{ps:List Pt}:OnL I [] (ps.take 0):=⟨by simp,fun q hq=>by cases hq⟩
def OnM (I:Qv)(r:Nat)(ps:List Pt):Prop:=∃ m:List (Int×Nat),I r=some (YC (Value.int .i64) zl5 m)∧OnL I m ps
theorem OnM.mono {I I':Qv}{r:Nat}{ps:List Pt}(h:OnM I r ps)(hI:HLe I I'):OnM I' r ps:=by
 obtain ⟨m,h1,h2⟩:=h
 exact ⟨m,hI _ _ h1,h2.mono hI⟩
theorem OnL.get {I:Qv}{m:List (Int×Nat)}{ps:List Pt}(h:OnL I m ps){a:Int}(ha:∃ q∈ps,q.id=a):∃ ref,ZV m a=some ref∧OnS I ref (onF ps a):=by
 cases hg:ZV m a with
 | none=>
  have:=zaT.1 hg
  rw [h.1] at this
  obtain ⟨q,hq,rfl⟩:=ha
  exact absurd (List.mem_map.2 ⟨q,hq,rfl⟩) this
 | some ref=>exact ⟨ref,rfl,h.2 _ (zc3 hg)⟩
theorem Lst.before {ps:List Pt}(h:Lst ps){k:Nat}{p:Pt}(hk:ps[k]? =some p){n:Int}(hn:n∈p.needs):∃ q∈ps.take k,q.id=n:=by
 obtain ⟨h1,q,hq,rfl⟩:=h.has p (List.mem_of_getElem? hk) n hn
 obtain ⟨j,hj⟩:=List.getElem?_of_mem hq
 obtain ⟨hj1,hj2⟩:=List.getElem?_eq_some_iff.1 hj
 obtain ⟨hk1,hk2⟩:=List.getElem?_eq_some_iff.1 hk
 have hjk:j<k:=by
  rcases Nat.lt_or_ge j k with h3 | h3
  ·
   exact h3
  ·
   exfalso
   by_cases e:k=j
   ·
    subst e;rw [hk] at hj;cases hj;omega
   ·
    have:=List.pairwise_iff_getElem.1 h.inc k j hk1 hj1 (by omega)
    rw [hj2,hk2] at this;omega
 refine ⟨q,?_,rfl⟩
 rw [List.mem_take_iff_getElem]
 exact ⟨j,by omega,hj2⟩
theorem Lst.fresh {ps:List Pt}(h:Lst ps){k:Nat}{p:Pt}(hk:ps[k]? =some p):∀ q∈ps.take k,q.id<p.id:=fun q hq=>by
 obtain ⟨j,hj,rfl⟩:=List.mem_take_iff_getElem.1 hq
 obtain ⟨hk1,hk2⟩:=List.getElem?_eq_some_iff.1 hk
 have:=List.pairwise_iff_getElem.1 h.inc j k (by omega) hk1 (by omega)
 rw [hk2] at this;exact this
theorem OnL.step {I:Qv}{m:List (Int×Nat)}{ps:List Pt}{k ref:Nat}{p:Pt}{s:List (Int×Bool)}(hL:Lst ps)(hk:ps[k]? =some p)(hm:OnL I m (ps.take k))(hb:I ref=some (YC (Value.int .i64) Value.bool s))
  (hs:zex s (fun x=>p.needs.any fun n=>n==x||onF (ps.take k) n x)):OnL I (JF m p.id ref) (ps.take (k+1)):=by
 have hfr:=hL.fresh hk
 have hnew:p.id∉m.map (·.1):=by
  rw [hm.1]
  intro h
  obtain ⟨q,hq,e⟩:=List.mem_map.1 h
  have:=hfr q hq;omega
 have hmi:JF m p.id ref=m++[(p.id,ref)]:=by
  refine zcD m p.id ref 0 ?_
  have:=zaT.2 hnew
  rw [←zaG m p.id 0] at this
  simpa using this
 rw [Wi hk]
 refine ⟨by rw [za1,if_neg hnew,hm.1];simp,fun q hq=>?_⟩
 rw [hmi] at hq
 rcases List.mem_append.1 hq with hq | hq
 ·
  obtain ⟨s',h1,h2⟩:=hm.2 q hq
  refine ⟨s',h1,h2.congr fun x=>?_⟩
  have hne:q.1≠p.id:=fun e=>hnew (by rw [←e];exact List.mem_map.2 ⟨q,hq,rfl⟩)
  rw [zgS (fun z hz=>by simp at hz;subst hz;exact fun e=>hne e.symm)]
 ·
  simp at hq;subst hq
  refine ⟨s,hb,hs.congr fun x=>?_⟩
  exact (zd9 (fun z hz=>by cases hz)).symm
def zrM (sn:List (Int×Bool))(seen:List Nat)(x:Int):Bool:=seen.any fun i=>(sn[i]?.map (·.1))==some x
theorem zno (sn:List (Int×Bool))(x:Int):zrM sn [] x=false:=rfl
theorem zi1 {sn:List (Int×Bool)}{seen:List Nat}{i:Nat}{p:Int×Bool}(hp:sn[i]? =some p)(x:Int):zrM sn (seen++[i]) x=(decide (p.1=x)||zrM sn seen x):=by
 unfold zrM
 rw [List.any_append,Bool.eq_iff_iff]
 simp [hp,or_comm]
theorem zmg {sn:List (Int×Bool)}{A:Int→Bool}(h:zex sn A){seen:List Nat}(hall:∀ i p,sn[i]? =some p→i∈seen)(x:Int):zrM sn seen x=A x:=by
 rw [Bool.eq_iff_iff,h.key]
 unfold zrM
 rw [List.any_eq_true]
 constructor
 ·
  rintro ⟨i,_,hi⟩
  cases hx:sn[i]? with
  | none=>rw [hx] at hi;simp at hi
  | some p=>rw [hx] at hi;simp at hi;exact List.mem_map.2 ⟨p,List.mem_of_getElem? hx,hi⟩
 ·
  intro hx
  obtain ⟨p,hp,rfl⟩:=List.mem_map.1 hx
  obtain ⟨i,hi⟩:=List.getElem?_of_mem hp
  exact ⟨i,hall i p hi,by rw [hi];simp⟩
end
section
open Go Go.Kn Go.Proofs
theorem znc {I:Qv}{av:Option Addr}{n c:Nat}{ps:List Pt}(hP:SlP I av n c ps)(hn:n≤100000)(hL:Lst ps)(hnd:∀ p∈ps,p.n≤100000):Vl Tryz.prog 99 [.slice av n c] I [] (fun v I' L=>L=[]∧∃ r,v= .map (some r)∧OnM I' r ps):=by
 intro g H w hw
 refine qe Tryz.func99 Tryz.ntmps99 hw ?_
 have hIc:=zwQ I
 refine zR (zA ?_)
 refine zN (zR ?_)
 refine Yf rfl rfl (fun r_10=>?_)
 refine zA (zN (Qr (zR ?_)))
 refine zM ?_
 refine zQ Kd ?_
 refine zM (zN (QE ?_))
 refine zU [(3,_),(11,_),(12,_)] (fun T L0 mz E I' loc'=>∃ (k:Nat) (m:List (Int×Nat)),mz=n-k∧E=(13,.int .i64 k)::T∧HLe I I'∧[(r_10,YC (Value.int .i64) zl5 m)]=loc'∧k≤n∧OnL I' m (ps.take k)) ?_ (h:=⟨0,[],rfl,rfl,zwQ _,rfl,Nat.zero_le _,OnL.nil⟩)
 rintro mz E J1 loc' ⟨k,m,rfl,rfl,hJ,rfl,hk,hm⟩
 have hP:=hP.mono hJ;have hIc:=hIc.trans hJ
 have hB0:=hJ
 refine zR (zC (zN (Qr ?_)))
 refine zI ?_ ?_<;>intro hc14
 ·
  have hlt_k:k<n:=by have h:=hc14;simp at h;omega
  have hP1:=hP.1
  obtain ⟨p,hp,hN⟩:=hP.at hlt_k
  have hpm:=List.mem_of_getElem? hp
  have hN:Sl J1 1 Yg p.a p.n p.c p.needs:=hN
  have hpn:=hnd p hpm
  refine Qw (Qc (Qr (QE (zR ?_))))
  refine zV (QX rfl rfl Kd (by assumption) (fun hg=>by omega)) ?_
  refine zV (Qg rfl JZ (fun hg=>by exact zwR hP.1 hp) rfl) ?_
  refine Qs zaw rfl rfl (fun b_5=>?_)
  refine zh K9 ?_
  refine zN (zR ?_)
  refine Yf rfl rfl (fun r_17=>?_)
  refine zA (zN (Qr (zR ?_)))
  refine zF Y7 ?_
  refine zL Ke ?_
  refine zQ Yl ?_
  refine zM (zN (QE ?_))
  refine zU [(3,_),(5,_),(6,_),(11,_),(12,_),(13,_),(19,_),(20,_)] (fun T L0 mz E I' loc'=>∃ (j:Nat) (s:List (Int×Bool)),mz=p.n-j∧E=(21,.int .i64 j)::T∧J1=I'∧[(r_17,YC (Value.int .i64) Value.bool s),(b_5,.cells (WX p).toArray 39 (0,0)),(r_10,YC (Value.int .i64) zl5 m)]=loc'∧j≤p.n∧zex s (fun x=>(p.needs.take j).any fun n=>n==x||onF (ps.take k) n x)) ?_ (h:=⟨0,[],rfl,rfl,rfl,rfl,Nat.zero_le _,zex.nil⟩)
  rintro mz E I' loc' ⟨j,s,rfl,rfl,rfl,rfl,hj,hs⟩
  refine zR (zC (zN (Qr ?_)))
  refine zI ?_ ?_<;>intro hc22
  ·
   have hlt_j:j<p.n:=by have h:=hc22;simp at h;omega
   obtain ⟨y,hy⟩:=hN.at hlt_j
   obtain ⟨ref,hget,sn,hsn,hsq⟩:=hm.get (hL.before hp (List.mem_of_getElem? hy))
   refine Qw (Qc (Qr (QE (zR ?_))))
   refine zV (QX rfl rfl Yl (by assumption) (fun hg=>by omega)) ?_
   refine zV (Qd rfl Qy (fun hg=>by exact zwJ hN hy rfl)) ?_
   refine zA ?_
   refine zN (zR ?_)
   refine zM ?_
   refine zM ?_
   refine ZU (m:=s) (ek:=Value.int .i64) (ev:=Value.bool) (a:=y) true UZ Zk rfl rfl rfl rfl (by repeat (first | exact Upd.here | apply Upd.there | apply Qx)) ?_
   refine zN (zR ?_)
   refine zM ?_
   refine zM ?_
   refine zV (Xf (m:=m) (ek:=Value.int .i64) (ev:=zl5) (a:=y) hget zcq Zk rfl rfl (fun _=>.inr (by simp))) ?_
   refine zmf (ek:=Value.int .i64) (ev:=Value.bool) (m:=sn) rfl UZ rfl rfl (.inl hsn) (fun b_30=>?_)
   refine zN (QE ?_)
   refine zU [(3,_),(5,_),(6,_),(11,_),(12,_),(13,_),(19,_),(20,_),(21,_),(30,_)] (fun T L0 mz E I' loc'=>∃ (seen:List Nat) (s:List (Int×Bool)),mz=sn.length-seen.length∧E=T∧J1=I'∧[(b_30,Ud ref sn.length seen),(r_17,YC (Value.int .i64) Value.bool s),(b_5,.cells (WX p).toArray 39 (0,0)),(r_10,YC (Value.int .i64) zl5 m)]=loc'∧zex s (fun x=>zrM sn seen x||(decide (y=x)||(p.needs.take j).any fun n=>n==x||onF (ps.take k) n x))∧seen.Nodup∧∀ i∈seen,i<sn.length) ?_ (h:=⟨[],_,rfl,rfl,rfl,rfl,(hs.put y).congr (fun x=>by rw [zno,Bool.false_or]),.nil,fun i h=>by cases h⟩)
   rintro mz E I' loc' ⟨seen,s,rfl,rfl,rfl,rfl,hs,hnd2,hlt⟩
   have hsl:=zh2 hnd2 hlt
   refine zR ?_
   refine znr (ek:=Value.int .i64) (ev:=Value.bool) (m:=sn) (fun s'=>[(b_30,Ud ref sn.length s'),(r_17,YC (Value.int .i64) Value.bool s),(b_5,.cells (WX p).toArray 39 (0,0)),(r_10,YC (Value.int .i64) zl5 m)]) rfl (fun s'=>.here) rfl rfl rfl rfl rfl (.inl hsn) (by simp) ?_
   intro t tv s' hno hyes
   refine zN (Qr ?_)
   refine zI ?_ ?_<;>intro hc32
   ·
    obtain ⟨i,q,hq,hns,rfl⟩:=hyes hc32
    refine Qw (Qc (QE (zR ?_)))
    refine zV (zmA (ek:=Value.int .i64) (ev:=Value.bool) (m:=sn) (p:=q) (seen:=seen) (i:=i) rfl (.inl hsn) (.inr (by simp)) hq) ?_
    refine zE ?_
    refine zA (zN (Qk ?_))
    refine zM ?_
    refine zM ?_
    refine ZU (m:=s) (ek:=Value.int .i64) (ev:=Value.bool) (a:=q.1) true UZ Zk rfl rfl rfl rfl (by repeat (first | exact Upd.here | apply Upd.there | apply Qx)) ?_
    refine Qb (Qp ?_)
    have hnd3:(seen++[i]).Nodup:=List.nodup_append.2 ⟨hnd2,by simp,fun a ha b hb e=>hns (by simp at hb;subst hb;subst e;exact ha)⟩
    have hlt3:∀ j∈seen++[i],j<sn.length:=fun j hj=>(List.mem_append.1 hj).elim (hlt j) (fun h=>by simp at h;subst h;exact (List.getElem?_eq_some_iff.1 hq).1)
    have hsl2:=zh2 hnd3 hlt3
    rw [List.length_append,List.length_singleton] at hsl2
    exact zm (h:=⟨sn.length-(seen++[i]).length,by rw [List.length_append,List.length_singleton];omega,seen++[i],_,rfl,rfl,rfl,rfl,(hs.put q.1).congr (fun x=>by rw [zi1 hq,Bool.or_assoc]),hnd3,hlt3⟩)
   obtain ⟨rfl,hall⟩:=hno hc32
   refine ZC (Qt (Qt (QD (Qp (Qc (Qk (zB ?_)))))))
   refine zM (Qb ?_)
   exact zm (h:=⟨p.n-(j+1),by omega,j+1,_,rfl,rfl,rfl,rfl,by omega,hs.congr (fun x=>by rw [zgM hy,zmg hsq hall x];rw [Bool.eq_iff_iff];simp;grind)⟩)
  have hge_j:p.n≤j:=by have h:=hc22;simp at h;omega
  refine ZC (Qt (Qt (QD (Qc ?_))))
  refine QN .here (fun I4 hI4 hb4=>?_)
  have hm:=hm.mono hI4;have hB0:=hB0.trans hI4
  have hbx:=hb4
  refine Qk (zM ?_)
  refine zF YG ?_
  refine zL Qy ?_
  refine zM ?_
  refine ZU (m:=m) (ek:=Value.int .i64) (ev:=zl5) (a:=p.id) r_17 zcq Zk rfl rfl rfl rfl (by repeat (first | exact Upd.here | apply Upd.there | apply Qx)) ?_
  refine Qb (Qp (Qc (Qk (zB ?_))))
  refine zM (Qb ?_)
  exact zm (h:=⟨n-(k+1),by omega,k+1,_,rfl,rfl,hB0,rfl,by omega,OnL.step hL hp hm hbx (by rw [Yj hN.len hge_j] at hs;exact hs)⟩)
 have hge_k:n≤k:=by have h:=hc14;simp at h;omega
 rw [Yj hP.len hge_k] at hm
 refine ZC (Qt (Qt (QD (Qc (zR (zM ?_))))))
 refine zA (zN (QF ?_))
 exact QR rfl rfl (fun w hw=>by obtain ⟨I9,h91,h92,h93⟩:=hw.freezeAll;exact ⟨_,I9,[],rfl,hIc.trans h91,h92,rfl,r_10,rfl,m,h93 _ _ (by simp),hm.mono h91⟩)
end
section
open Go Go.Kn Go.Proofs
theorem zpb (x:Sg):(zrS [x]==0)=frm x:=by
 unfold zrS skB skP
 cases h:frm x<;>simp [h]
theorem zgE (a b c d x y:Bool):(((((a&&b)&&c)&&d)&&x)&&y)=(((a&&b)&&(c&&d))&&(x&&y)):=by simp only [Bool.and_assoc]
theorem zoV (a b c d x y z:Bool):((((((a&&b)&&c)&&d)&&x)&&y)&&z)=(((a&&b)&&(c&&d))&&(x&&(y&&z))):=by simp only [Bool.and_assoc]
theorem zon (I:Qv)(x:Sg):Yb Tryz.prog 162 [zca x] I (.bool (frm x)):=by
 intro g H w hw
 refine qe Tryz.func162 Tryz.ntmps162 hw ?_
 have hIc:=zwQ I
 refine zR ?_
 refine Zd rfl rfl rfl (fun b_1=>?_)
 refine zA ?_
 refine zN (zR ?_)
 refine zV (Qg rfl VR (fun hg=>by exact Cells.g0) rfl) ?_
 refine Ql (ps:=[(0,_)]) (m:=[zhI x]) zrw rfl (.cons rfl (.nil)) rfl (by simp [zgz]) (by decide) (by decide) rfl rfl (fun b_4=>?_)
 refine Q9 .here (fun I1 hI1 hb1=>?_)
 have hIc:=hIc.trans hI1
 have hS:=Sl.lit [x] rfl zgz (show _=some (Obj.cells (([x]:List Sg).flatMap zhI).toArray 36 (0,0)) from hb1)
 refine qcV (vs:=[_]) rfl zq5 (ztq hS (by decide)) ?_
 refine zC ?_
 refine zA (zN (QF ?_))
 exact zp hIc rfl rfl (by rw [zpb])
theorem zoC {I:Qv}(p:Pt)(hN:Nd I p):Yb Tryz.prog 96 [UD p] I (.int .i64 (KV p)):=by
 intro g H w hw
 refine qe Tryz.func96 Tryz.ntmps96 hw ?_
 have hN:Sl I 1 Yg p.a p.n p.c p.needs:=hN
 refine zR ?_
 refine Zd rfl rfl rfl (fun b_1=>?_)
 refine zA (zN (Qr (zR ?_)))
 refine zF Y7 ?_
 refine zL Ke ?_
 refine zQ Yl ?_
 refine zC (zN ?_)
 refine zI ?_ ?_<;>intro hc11
 ·
  have hlen:p.needs.length>32:=by rw [hN.len];simp at hc11;omega
  refine zR (zA (zN (QF (Qi ?_))))
  exact zr rfl rfl (by rw [zuA hlen])
 have hlen:¬p.needs.length>32:=by rw [hN.len];simp at hc11;omega
 have hpn:p.n≤100000:=by have:=hN.len;omega
 refine Qw (Qc (zR (zA (zN (Qr (zR ?_))))))
 refine zF Y7 ?_
 refine zL Ke ?_
 refine zQ Yl ?_
 refine zM (zN (QE ?_))
 refine zU [(1,_),(13,_),(14,_)] (fun T L0 mz E I' loc'=>∃ (k:Nat) (l:Int),mz=p.n-k∧E=(3,.int .i64 l)::(15,.int .i64 k)::T∧I=I'∧L0=loc'∧k≤p.n∧(List.range k).all (ndP p.id p.needs)=true∧zht p.needs k l) ?_ (h:=⟨0,0,rfl,rfl,rfl,rfl,Nat.zero_le _,rfl,⟨fun _=>rfl,fun y hy h=>absurd rfl h⟩⟩)
 rintro mz E I' loc' ⟨k,l,rfl,rfl,rfl,rfl,hk,hall,hl⟩
 refine zR (zC (zN (Qr ?_)))
 refine zI ?_ ?_<;>intro hc16
 ·
  have hlt_k:k<p.n:=by have h:=hc16;simp at h;omega
  obtain ⟨x,hx⟩:=hN.at hlt_k
  refine Qw (Qc (Qr (QE (zR ?_))))
  refine zV (QX rfl rfl Yl (by assumption) (fun hg=>by omega)) ?_
  refine zV (Qd rfl Qy (fun hg=>by exact zwJ hN hx rfl)) ?_
  refine zA (zN (Qr (zR ?_)))
  refine zM ?_
  refine zM ?_
  refine zC ?_
  refine zM ?_
  refine Ze 3 rfl rfl rfl ?_
  refine zJ (Qh rfl) ?_
  refine zJ (Qa rfl YG) ?_
  refine zJ (Qd rfl Qy (fun hg=>by exact QG.h0 rfl)) ?_
  refine zJ (QV rfl rfl rfl) ?_
  refine ZP rfl rfl rfl rfl rfl ?_
  refine zN ?_
  refine zI ?_ ?_<;>intro hc27
  ·
   have hnd:ndB p.id p.needs=false:=by unfold ndB;exact K1 (k:=k) (by rw [hN.len];exact hlt_k) (by rw [ztt hall hl hx,hc27];rfl)
   refine zR (zA (zN (QF (Qi (Qz (Qi (Qi ?_)))))))
   refine Qz (Qi ?_)
   exact zr rfl rfl (by rw [ztR hlen hnd])
  refine Qw (Qc (Qk (zM ?_)))
  refine zA (Qb (Qp (Qc (Qk ?_))))
  refine zB ?_
  refine zM (Qb ?_)
  exact zm (h:=⟨p.n-(k+1),by omega,k+1,_,rfl,rfl,rfl,rfl,by omega,Ky hall (by rw [ztt hall hl hx,hc27];rfl),zbS hx⟩)
 have hge_k:p.n≤k:=by have h:=hc16;simp at h;omega
 have hnd:ndB p.id p.needs=true:=by unfold ndB;rw [hN.len,show p.n=k by omega];exact hall
 refine ZC (Qt (Qt (QD (Qc (zR ?_)))))
 refine zF YG ?_
 refine zL Qy ?_
 refine zC ?_
 refine zM ?_
 refine QL 3 rfl rfl rfl ?_
 refine zK (Qa rfl YG) ?_
 refine zK (Qd rfl Qy (fun hg=>by exact QG.h0 rfl)) ?_
 refine zK (QV rfl rfl rfl) ?_
 refine QU rfl rfl rfl rfl rfl ?_
 refine zM ?_
 refine QL 8 rfl rfl rfl ?_
 refine zK (Qa rfl Vj) ?_
 refine zK (Qd rfl Qy (fun hg=>by exact QG.h0 rfl)) ?_
 refine zK (QV rfl rfl rfl) ?_
 refine QU rfl rfl rfl rfl rfl ?_
 refine zM ?_
 refine QL 13 rfl rfl rfl ?_
 refine zK (Qa rfl Vj) ?_
 refine zK (Qd rfl Qy (fun hg=>by exact QG.h0 rfl)) ?_
 refine zK (QV rfl rfl rfl) ?_
 refine QU rfl rfl rfl rfl rfl ?_
 refine zA (zN (Qr (zR ?_)))
 refine zF KE ?_
 refine zL Qy ?_
 refine zN (QE (zR (zC ?_)))
 refine zA (zN ?_)
 refine zI ?_ ?_<;>intro hc50
 ·
  have hk:p.kind=1:=by simpa using hc50
  refine Qr (zR ?_)
  refine zF V4 ?_
  refine zL Qy ?_
  refine zC ?_
  refine zM ?_
  refine Ze 3 rfl rfl rfl ?_
  refine zJ (Qa rfl V4) ?_
  refine zJ (Qd rfl Qy (fun hg=>by exact QG.h0 rfl)) ?_
  refine zJ (QV rfl rfl rfl) ?_
  refine ZP rfl rfl rfl rfl rfl ?_
  refine zN ?_
  refine zI ?_ ?_<;>intro hc59
  ·
   have hb:(idB p&&WQ p)=false:=zrW hk (by unfold within;simp at hc59 ⊢;omega)
   refine zR (zA (zN (QF (Qi (Qz (Qi ?_))))))
   exact zr rfl rfl (by rw [zdI hlen hnd hb])
  have hf:isF p.field:=by have h:=hc59;unfold isF;simp at h;omega
  have hw1:within p.field 1 9=true:=by have h:=hc59;unfold within;simp at h ⊢;omega
  refine Qw (Qc (zR ?_))
  refine zV (Q0 (ps:=[(1,_)]) [_,_] zor rfl rfl) ?_
  refine zV (Q0 (ps:=[(0,_),(1,_)]) [_,_] zor rfl rfl) ?_
  refine zV (Q0 (ps:=[(3,_),(4,_),(10,_),(11,_)]) [_,_,_,_,_,_,_,_,_,_,_,_,_,_] zem rfl rfl) ?_
  refine Qs zmq rfl rfl (fun b_7=>?_)
  refine zh zau ?_
  refine zN (Qk (zM ?_))
  refine zM ?_
  refine QL 1 rfl rfl rfl ?_
  refine zK (Qa rfl Jh) ?_
  refine zK (Qg rfl VR (fun hg=>by exact Cells.s1 (vs:=[_,_,_,_,_,_,_,_,_,_,_,_,_,_]) rfl) rfl) ?_
  refine zK (Qa rfl V4) ?_
  refine zK (Qd rfl Qy (fun hg=>by exact QG.h1 rfl)) ?_
  refine zK (Q0 (ps:=[]) [_,_,_,_,_,_,_,_,_,_,_,_,_,_] zem rfl rfl) ?_
  refine qg (vs:=[_,_,_]) rfl zlp (fun hg=>zr5 I p.nw p.field KU hf) ?_
  refine zK (Q0 (ps:=[]) [_,_,_,_,_,_,_,_,_,_,_,_,_,_] zem rfl rfl) ?_
  refine zK (zan rfl rfl zcd rfl) ?_
  refine QU rfl rfl rfl rfl rfl ?_
  refine zM ?_
  refine QL 11 rfl rfl rfl ?_
  refine zK (Qg rfl VR (fun hg=>by exact Cells.g0) rfl) ?_
  refine zK (Qa rfl V4) ?_
  refine zK (Qd rfl Qy (fun hg=>by exact QG.h1 rfl)) ?_
  refine zK (Qa rfl Jh) ?_
  refine zK (Qg rfl VR (fun hg=>by exact Cells.s1 (vs:=[_,_,_,_,_,_,_,_,_,_,_,_,_,_]) rfl) rfl) ?_
  refine qg (vs:=[_,_,_]) rfl zlp (fun hg=>zr5 I zis p.field p.nw hf) ?_
  refine qg (vs:=[_]) rfl zkl (fun hg=>zon I _) ?_
  refine QU rfl rfl rfl rfl rfl ?_
  refine zA (Qb (Qp (Qc (Qr (zR ?_)))))
  refine zM ?_
  refine zO (zN ?_)
  refine zI ?_ ?_<;>intro hc119
  ·
   have hb:(idB p&&WQ p)=false:=by (exact (show (idB p&&WQ p)=false from by rw [zsK hk hw1];exact (zgE _ _ _ _ _ _).symm.trans ((Bool.not_eq_true' _).mp hc119)))
   refine zR (zA (zN (QF (Qi ?_))))
   exact zr rfl rfl (by rw [zdI hlen hnd hb])
  have hb:(idB p&&WQ p)=true:=by (exact (show (idB p&&WQ p)=true from by rw [zsK hk hw1];exact (zgE _ _ _ _ _ _).symm.trans ((Bool.not_eq_false' _).mp hc119)))
  refine Qw (Qc (zR (zA (zN (QF ?_)))))
  exact zr rfl rfl (by rw [zgf hlen hnd hb])
 have hk1:p.kind≠1:=by simpa using hc50
 refine zR (zC ?_)
 refine zA (zN ?_)
 refine zI ?_ ?_<;>intro hc83
 ·
  have hk:p.kind=2:=by simpa using hc83
  refine Qk (zM ?_)
  refine zM ?_
  refine QL 1 rfl rfl rfl ?_
  refine zK (Qa rfl V4) ?_
  refine zK (Qd rfl Qy (fun hg=>by exact QG.h0 rfl)) ?_
  refine zK (QV rfl rfl rfl) ?_
  refine QU rfl rfl rfl rfl rfl ?_
  refine zM ?_
  refine QL 6 rfl rfl rfl ?_
  refine zK (Qa rfl Jh) ?_
  refine zK (Qa rfl Uq) ?_
  refine zK (Qd rfl Qy (fun hg=>by exact QG.h0 rfl)) ?_
  refine zK (Qa rfl Vj) ?_
  refine zK (Qd rfl Qy (fun hg=>by exact QG.h0 rfl)) ?_
  refine zK (QV rfl rfl rfl) ?_
  refine QU rfl rfl rfl rfl rfl ?_
  refine zM ?_
  refine QL 14 rfl rfl rfl ?_
  refine zK (Qa rfl Jh) ?_
  refine zK (Qg rfl VR (fun hg=>by exact Cells.s0 (vs:=[_,_,_,_,_,_,_,_,_,_,_,_,_,_]) rfl) rfl) ?_
  refine qg (vs:=[_]) rfl zkl (fun hg=>zon I _) ?_
  refine QU rfl rfl rfl rfl rfl ?_
  refine zA (Qb (Qp (Qc (Qr (zR ?_)))))
  refine zM ?_
  refine zO (zN ?_)
  refine zI ?_ ?_<;>intro hc119
  ·
   have hb:(idB p&&WQ p)=false:=by (exact (show (idB p&&WQ p)=false from by rw [ztH hk];exact (zoV _ _ _ _ _ _ _).symm.trans ((Bool.not_eq_true' _).mp hc119)))
   refine zR (zA (zN (QF (Qi ?_))))
   exact zr rfl rfl (by rw [zdI hlen hnd hb])
  have hb:(idB p&&WQ p)=true:=by (exact (show (idB p&&WQ p)=true from by rw [ztH hk];exact (zoV _ _ _ _ _ _ _).symm.trans ((Bool.not_eq_false' _).mp hc119)))
  refine Qw (Qc (zR (zA (zN (QF ?_)))))
  exact zr rfl rfl (by rw [zgf hlen hnd hb])
 have hk2:p.kind≠2:=by simpa using hc83
 refine zR (zC ?_)
 refine zA (zN ?_)
 refine zI ?_ ?_<;>intro hc104
 ·
  have hk:p.kind=3:=by simpa using hc104
  refine Qk (zM ?_)
  refine zM ?_
  refine QL 1 rfl rfl rfl ?_
  refine zK (Qa rfl V4) ?_
  refine zK (Qd rfl Qy (fun hg=>by exact QG.h0 rfl)) ?_
  refine zK (QV rfl rfl rfl) ?_
  refine QU rfl rfl rfl rfl rfl ?_
  refine zM ?_
  refine QL 6 rfl rfl rfl ?_
  refine zK (Qa rfl Jh) ?_
  refine zK (Qg rfl VR (fun hg=>by exact Cells.s0 (vs:=[_,_,_,_,_,_,_,_,_,_,_,_,_,_]) rfl) rfl) ?_
  refine zK (Q0 (ps:=[]) [_,_,_,_,_,_,_,_,_,_,_,_,_,_] zem rfl rfl) ?_
  refine zK (zan rfl rfl zcd rfl) ?_
  refine QU rfl rfl rfl rfl rfl ?_
  refine zA (Qb (Qp (Qc (Qr (zR ?_)))))
  refine zM ?_
  refine zO (zN ?_)
  refine zI ?_ ?_<;>intro hc119
  ·
   have hb:(idB p&&WQ p)=false:=by (exact (show (idB p&&WQ p)=false from by rw [zuE hk];exact (zgE _ _ _ _ _ _).symm.trans ((Bool.not_eq_true' _).mp hc119)))
   refine zR (zA (zN (QF (Qi ?_))))
   exact zr rfl rfl (by rw [zdI hlen hnd hb])
  have hb:(idB p&&WQ p)=true:=by (exact (show (idB p&&WQ p)=true from by rw [zuE hk];exact (zgE _ _ _ _ _ _).symm.trans ((Bool.not_eq_false' _).mp hc119)))
  refine Qw (Qc (zR (zA (zN (QF ?_)))))
  exact zr rfl rfl (by rw [zgf hlen hnd hb])
 have hk3:p.kind≠3:=by simpa using hc104
 refine Qk (zA (Qb (Qp (Qc (Qr (zR ?_))))))
 refine zM ?_
 refine zO (zN ?_)
 refine zI ?_ ?_<;>intro hc119
 ·
  have hb:(idB p&&WQ p)=false:=by exact zvm hk1 hk2 hk3
  refine zR (zA (zN (QF (Qi ?_))))
  exact zr rfl rfl (by rw [zdI hlen hnd hb])
 have hb:(idB p&&WQ p)=true:=by (exfalso;have h:=hc119;simp at h)
 refine Qw (Qc (zR (zA (zN (QF ?_)))))
 exact zr rfl rfl (by rw [zgf hlen hnd hb])
theorem zvL {I:Qv}{av:Option Addr}{n c:Nat}{xs:List Int}(hS:Sl I 1 Yg av n c xs)(hn:n≤100000){fid:Nat}{cap:List Value}{P:Int→Bool}(hF:Fun Tryz.prog fid)(hf:∀ x∈xs,Yb Tryz.prog fid ([.int .i64 x]++cap) I (.bool (P x))):Yb Tryz.prog 163 [.slice av n c,.func (.func fid) #[] cap.toArray] I (.int .i64 (zl0 P xs)):=by
 intro g H w hw
 refine qe Tryz.func163 Tryz.ntmps163 hw ?_
 have hS:=hS
 refine zR (zA (zN (Qr (zR ?_))))
 refine zM ?_
 refine zQ Yl ?_
 refine zM (zN (QE ?_))
 refine zU [(0,_),(1,_),(7,_)] (fun T L0 mz E I' loc'=>∃ (k:Nat),mz=n-k∧E=(8,.int .i64 k)::T∧I=I'∧L0=loc'∧k≤n∧(xs.take k).any P=false) ?_ (h:=⟨0,rfl,rfl,rfl,rfl,Nat.zero_le _,rfl⟩)
 rintro mz E I' loc' ⟨k,rfl,rfl,rfl,rfl,hk,hno⟩
 refine zR (zC (zN (Qr ?_)))
 refine zI ?_ ?_<;>intro hc9
 ·
  have hlt_k:k<n:=by have h:=hc9;simp at h;omega
  obtain ⟨x,hx⟩:=hS.at hlt_k
  refine Qw (Qc (Qr (QE (zR (zM ?_)))))
  refine zA ?_
  refine zN (zR ?_)
  refine zM ?_
  refine zM ?_
  refine zM ?_
  refine zV (QX rfl rfl Yl (by assumption) (fun hg=>by omega)) ?_
  refine zV (Qd rfl Qy (fun hg=>by exact zwJ hS hx rfl)) ?_
  refine zae (cap:=cap) (vs:=[_]) rfl rfl hF (hf x (List.mem_of_getElem? hx)) rfl rfl ?_
  refine zN ?_
  refine zI ?_ ?_<;>intro hc16
  ·
   refine zR (zM ?_)
   refine zA (zN (QF (Qz (Qi (Qi (Qz (Qi ?_)))))))
   exact zr rfl rfl (by rw [zft hno hx hc16])
  refine Qw (Qp (Qc (Qk (zB ?_))))
  refine zM (Qb ?_)
  exact zm (h:=⟨n-(k+1),by omega,k+1,rfl,rfl,rfl,rfl,by omega,zbY hx hno hc16⟩)
 have hge_k:n≤k:=by have h:=hc9;simp at h;omega
 refine ZC (Qt (Qt (QD (Qc (zR (zA (zN ?_)))))))
 refine QF ?_
 exact zr rfl rfl (by rw [zch hS.len hge_k hno])
theorem zvn {I:Qv}{av:Option Addr}{n c:Nat}{xs:List Int}(hS:Sl I 1 Yg av n c xs)(hn:n≤100000){fid:Nat}{cap:List Value}{P:Int→Bool}(hF:Fun Tryz.prog fid)(hf:∀ x∈xs,Yb Tryz.prog fid ([.int .i64 x]++cap) I (.bool (P x))):Yb Tryz.prog 97 [.slice av n c,.func (.func fid) #[] cap.toArray] I (.bool (xs.any P)):=by
 intro g H w hw
 refine qe Tryz.func97 Tryz.ntmps97 hw ?_
 refine zR (zA ?_)
 refine zN (zR ?_)
 refine zM ?_
 refine zM ?_
 refine qcV (vs:=[_,_]) rfl zrx (zvL hS hn hF hf) ?_
 refine zC ?_
 refine zA (zN (QF ?_))
 exact zr rfl rfl (by rw [←zeA])
theorem zvp {I:Qv}{b r:Nat}{s:List (Int×Bool)}(hb:I b=some (.cells #[.map (some r)] 143 (0,0)))(hr:I r=some (YC (Value.int .i64) Value.bool s))(x:Int):Yb Tryz.prog 98 [.int .i64 x,.pointer (some ⟨b,0,none⟩)] I (.bool (!zlV s x)):=by
 intro g H w hw
 refine qe Tryz.func98 Tryz.ntmps98 hw ?_
 refine zR (zA ?_)
 refine zN (zR ?_)
 refine zV (Qd rfl ziA (fun hg=>by exact .imm hb rfl)) ?_
 refine zM ?_
 refine zV (YL UZ Zk rfl rfl (fun _=>.inl hr)) ?_
 refine zO ?_
 refine zA (zN (QF ?_))
 exact zr rfl rfl (by rfl)
end
section
open Go Go.Kn Go.Proofs
theorem Zr:AgT Tryz.prog 45 45:=.of (by kernel_rfl)
theorem zd7:ElT Tryz.prog 63 41 5 40:=.of (by kernel_rfl)
theorem JB:QP Tryz.prog 43 5 5:=.of (by kernel_rfl)
theorem zrt:Fun Tryz.prog 170:=.of Tryz.func170 (by kernel_rfl) (by kernel_rfl)
theorem zrm:Fun Tryz.prog 171:=.of Tryz.func171 (by kernel_rfl) (by kernel_rfl)
theorem UY:Fun Tryz.prog 172:=.of Tryz.func172 (by kernel_rfl) (by kernel_rfl)
theorem zlc:Fun Tryz.prog 37:=.of Tryz.func37 (by kernel_rfl) (by kernel_rfl)
theorem zoN:Fun Tryz.prog 38:=.of Tryz.func38 (by kernel_rfl) (by kernel_rfl)
theorem zlA:Fun Tryz.prog 40:=.of Tryz.func40 (by kernel_rfl) (by kernel_rfl)
theorem Kt {I:Qv}(x:Nt)(hN:Nd I x.pt):Yb Tryz.prog 108 [JL x] I (.bool (Q7 x)):=by
 intro g H w hw
 refine qe Tryz.func108 Tryz.ntmps108 hw ?_
 have hIc:=zwQ I
 refine zR ?_
 refine Zd rfl rfl rfl (fun b_1=>?_)
 refine zA (Qb ?_)
 refine QN .here (fun I1 hI1 hb1=>?_)
 have hN:=hN.mono hI1;have hIc:=hIc.trans hI1
 have h1:=BxI.of hb1
 refine Qc (zR (zA (zN (Qr (zR ?_)))))
 refine zF Vm ?_
 refine zV (Qd rfl Qy (fun hg=>by exact QG.imm h1.out rfl)) ?_
 refine zN (QE (zR (zC ?_)))
 refine zA (zN ?_)
 refine zI ?_ ?_<;>intro hc10
 ·
  have k1:x.kind=1:=by simpa using hc10
  refine Qr ?_
  by_cases he:x.lm.ends=0
  ·
   have hlC:lmC x.lm=[x.lm]:=if_pos he
   refine Qk ?_
   refine zF VM ?_
   refine zV (Qg rfl K8 (fun hg=>by exact zeO (BxI.cells (vs:=Zn x) h1)) rfl) ?_
   refine Ql (ps:=[(0,_)]) (m:=[_]) Wu rfl (.cons rfl (.nil)) rfl (by simp [Yt]) (by decide) (by decide) rfl rfl (fun b_14=>?_)
   refine Q9 (by repeat (first | exact Ya.here | apply Ya.there)) (fun I2 hI2 hb2=>?_)
   have h1:=h1.mono hI2;have hIc:=hIc.trans hI2
   have hF:=Sl.lit [x.lm] rfl Yt (show I2 b_14=some (Obj.cells ([x.lm].flatMap ZL).toArray 32 (0,0)) from hb2)
   refine zA (zN (Qr (zR ?_)))
   refine zF VM ?_
   refine zF Jw ?_
   refine zV (Qd rfl Qy (fun hg=>by exact QG.imm h1.out rfl)) ?_
   refine zA ?_
   refine zN (zR ?_)
   refine zM ?_
   refine zC (zN ?_)
   refine zI ?_ ?_<;>intro hc19
   ·
    exact absurd hc19 (by simp [he])
   refine Qw (Qc (Qk (zM ?_)))
   refine qcV (vs:=[_]) rfl zlc (zjk hF (by decide)) ?_
   refine zA (Qb (Qp (Qc (zR ?_))))
   refine zM ?_
   refine zC ?_
   refine zM ?_
   refine QL 2 rfl rfl rfl ?_
   refine zK (Qg rfl Zr (fun hg=>by exact BxI.cells (vs:=Zn x) h1) rfl) ?_
   refine qg (vs:=[_]) rfl UY (fun hg=>UU x) ?_
   refine QU rfl rfl rfl rfl rfl ?_
   refine zA (zN (QF ?_))
   first
   | exact zp hIc rfl rfl (by rw [Q7,zbA,if_pos k1,hlC]<;>rfl)
  have hlC:lmC x.lm=[⟨IntKind.i64.wrap (x.lm.ends-1),x.lm.person,0,0,0,0,3,0,1⟩,x.lm]:=if_neg he
  refine Qk ?_
  refine zF VM ?_
  refine zV (Qg rfl K8 (fun hg=>by exact zeO (BxI.cells (vs:=Zn x) h1)) rfl) ?_
  refine Ql (ps:=[(0,_)]) (m:=[ZL x.lm]) Wu rfl (.cons rfl (.nil)) rfl (by simp [Yt]) (by decide) (by decide) rfl rfl (fun b_14=>?_)
  refine zA (zN (Qr (zR ?_)))
  refine zF VM ?_
  refine zF Jw ?_
  refine zV (Qd rfl Qy (fun hg=>by exact QG.imm h1.out rfl)) ?_
  refine zA ?_
  refine zN (zR ?_)
  refine zM ?_
  refine zC (zN ?_)
  refine zI ?_ ?_<;>intro hc19
  ·
   refine Qk (zM ?_)
   refine zM ?_
   refine zV (zas rfl rfl rfl) ?_
   refine zF VM ?_
   refine zF Um ?_
   refine zV (Qd rfl Qy (fun hg=>by exact QG.imm h1.out rfl)) ?_
   refine zV (Q0 (ps:=[(0,_),(2,_)]) [_,_,_] zlt rfl rfl) ?_
   refine zV (Q0 (ps:=[(0,_),(1,_),(6,_)]) [_,_,_,_,_,_,_,_,_] zkN rfl rfl) ?_
   refine Ql (ps:=[(0,_)]) (m:=[ZL (⟨IntKind.i64.wrap (x.lm.ends-1),x.lm.person,0,0,0,0,3,0,1⟩)]) Wu rfl (.cons rfl (.nil)) rfl (by simp [Yt]) (by decide) (by decide) rfl rfl (fun b_28=>?_)
   refine QC (cap:=[]) (vs:=[_,_,_]) rfl rfl zrt (.cons (.there .here) (.cons .here .nil)) (zlv (zcl (b:=b_14) (n:=1) (c:=1) (xs:=[x.lm]) (rest:=[]) rfl (Nat.le_refl _) (by decide) (by simp) rfl) (by decide) rfl (i:=0) (by decide) b_28 (⟨IntKind.i64.wrap (x.lm.ends-1),x.lm.person,0,0,0,0,3,0,1⟩)) rfl rfl ?_
   rintro vv3 I3 L3 hI3 ⟨rfl,hOi⟩
   have h1:=h1.mono hI3;have hIc:=hIc.trans hI3
   refine zA (zN ?_)
   refine Zv hOi Yt (by decide) (by repeat (first | exact .cons .here .nil | exact Qu | exact Qq | apply Qo | apply Qn)) (fun I4 hI4 af4 cf4 ef4 hM=>?_)
   subst ef4
   have h1:=h1.mono hI4;have hIc:=hIc.trans hI4
   refine Qk (zM ?_)
   refine qcV (vs:=[_]) rfl zlc (zjk hM (by decide)) ?_
   refine zA (Qb (Qp (Qc (zR ?_))))
   refine zM ?_
   refine zC ?_
   refine zM ?_
   refine QL 2 rfl rfl rfl ?_
   refine zK (Qg rfl Zr (fun hg=>by exact BxI.cells (vs:=Zn x) h1) rfl) ?_
   refine qg (vs:=[_]) rfl UY (fun hg=>UU x) ?_
   refine QU rfl rfl rfl rfl rfl ?_
   refine zA (zN (QF ?_))
   first
   | exact zp hIc rfl rfl (by rw [Q7,zbA,if_pos k1,hlC]<;>rfl)
  exact absurd hc19 (by simpa using he)
 have k1:¬x.kind=1:=by simpa using hc10
 refine zR (zC ?_)
 refine zA (zN ?_)
 refine zI ?_ ?_<;>intro hc32
 ·
  have k2:x.kind=2:=by simpa using hc32
  refine Qk ?_
  refine zF Vw ?_
  refine zV (Qg rfl JZ (fun hg=>by exact zhs (BxI.cells (vs:=Zn x) h1)) rfl) ?_
  refine qcV (vs:=[_]) rfl zoj (zoC x.pt hN) ?_
  refine zA (Qb (Qp (Qc (zR ?_))))
  refine zM ?_
  refine zC ?_
  refine zM ?_
  refine QL 2 rfl rfl rfl ?_
  refine zK (Qg rfl Zr (fun hg=>by exact BxI.cells (vs:=Zn x) h1) rfl) ?_
  refine qg (vs:=[_]) rfl UY (fun hg=>UU x) ?_
  refine QU rfl rfl rfl rfl rfl ?_
  refine zA (zN (QF ?_))
  first
  | exact zp hIc rfl rfl (by rw [Q7,zbA,if_neg k1,if_pos k2]<;>rfl)
 have k2:¬x.kind=2:=by simpa using hc32
 refine zR (zC ?_)
 refine zA (zN ?_)
 refine zI ?_ ?_<;>intro hc37
 ·
  have k3:x.kind=3:=by simpa using hc37
  refine Qk ?_
  refine zF Kb ?_
  refine zV (Qg rfl KP (fun hg=>by exact zhz (BxI.cells (vs:=Zn x) h1)) rfl) ?_
  refine Ql (ps:=[(0,_)]) (m:=[_]) zd7 rfl (.cons rfl (.nil)) rfl (by simp [L.encL_len]) (by decide) (by decide) rfl rfl (fun b_41=>?_)
  refine Q9 (by repeat (first | exact Ya.here | apply Ya.there)) (fun I5 hI5 hb5=>?_)
  have h1:=h1.mono hI5;have hIc:=hIc.trans hI5
  have hF:=Sl.lit [x.ls] rfl L.encL_len (show I5 b_41=some (Obj.cells ([x.ls].flatMap L.encL).toArray 41 (0,0)) from hb5)
  refine qcV (vs:=[_]) rfl zoN (L.w_check hF (by decide)) ?_
  refine zA (Qb (Qp (Qc (zR ?_))))
  refine zM ?_
  refine zC ?_
  refine zM ?_
  refine QL 2 rfl rfl rfl ?_
  refine zK (Qg rfl Zr (fun hg=>by exact BxI.cells (vs:=Zn x) h1) rfl) ?_
  refine qg (vs:=[_]) rfl UY (fun hg=>UU x) ?_
  refine QU rfl rfl rfl rfl rfl ?_
  refine zA (zN (QF ?_))
  first
  | exact zp hIc rfl rfl (by rw [Q7,zbA,if_neg k1,if_neg k2,if_pos k3]<;>rfl)
 have k3:¬x.kind=3:=by simpa using hc37
 refine zR (zC ?_)
 refine zA (zN ?_)
 refine zI ?_ ?_<;>intro hc43
 ·
  have k4:x.kind=4:=by simpa using hc43
  refine Qr ?_
  by_cases he:x.rt.ends=0
  ·
   have hlC:rtC x.rt=[x.rt]:=if_pos he
   refine Qk ?_
   refine zF YR ?_
   refine zV (Qg rfl VH (fun hg=>by exact ze8 (BxI.cells (vs:=Zn x) h1)) rfl) ?_
   refine Ql (ps:=[(0,_)]) (m:=[_]) We rfl (.cons rfl (.nil)) rfl (by simp [S.encR_len]) (by decide) (by decide) rfl rfl (fun b_47=>?_)
   refine Q9 (by repeat (first | exact Ya.here | apply Ya.there)) (fun I6 hI6 hb6=>?_)
   have h1:=h1.mono hI6;have hIc:=hIc.trans hI6
   have hF:=Sl.lit [x.rt] rfl S.encR_len (show I6 b_47=some (Obj.cells ([x.rt].flatMap S.encR).toArray 43 (0,0)) from hb6)
   refine zA (zN (Qr (zR ?_)))
   refine zF YR ?_
   refine zF JB ?_
   refine zV (Qd rfl Qy (fun hg=>by exact QG.imm h1.out rfl)) ?_
   refine zA ?_
   refine zN (zR ?_)
   refine zM ?_
   refine zC (zN ?_)
   refine zI ?_ ?_<;>intro hc52
   ·
    exact absurd hc52 (by simp [he])
   refine Qw (Qc (Qk (zM ?_)))
   refine qcV (vs:=[_]) rfl zlA (S.w_check hF (by decide)) ?_
   refine zA (Qb (Qp (Qc (zR ?_))))
   refine zM ?_
   refine zC ?_
   refine zM ?_
   refine QL 2 rfl rfl rfl ?_
   refine zK (Qg rfl Zr (fun hg=>by exact BxI.cells (vs:=Zn x) h1) rfl) ?_
   refine qg (vs:=[_]) rfl UY (fun hg=>UU x) ?_
   refine QU rfl rfl rfl rfl rfl ?_
   refine zA (zN (QF ?_))
   first
   | exact zp hIc rfl rfl (by rw [Q7,zbA,if_neg k1,if_neg k2,if_neg k3,if_pos k4,hlC]<;>rfl)
  have hlC:rtC x.rt=[⟨IntKind.i64.wrap (x.rt.ends-1),1,0,0,0,0,⟨#[97]⟩,⟨#[97]⟩,0,0,0⟩,x.rt]:=if_neg he
  refine Qk ?_
  refine zF YR ?_
  refine zV (Qg rfl VH (fun hg=>by exact ze8 (BxI.cells (vs:=Zn x) h1)) rfl) ?_
  refine Ql (ps:=[(0,_)]) (m:=[S.encR x.rt]) We rfl (.cons rfl (.nil)) rfl (by simp [S.encR_len]) (by decide) (by decide) rfl rfl (fun b_47=>?_)
  refine zA (zN (Qr (zR ?_)))
  refine zF YR ?_
  refine zF JB ?_
  refine zV (Qd rfl Qy (fun hg=>by exact QG.imm h1.out rfl)) ?_
  refine zA ?_
  refine zN (zR ?_)
  refine zM ?_
  refine zC (zN ?_)
  refine zI ?_ ?_<;>intro hc52
  ·
   refine Qk (zM ?_)
   refine zM ?_
   refine zV (zas rfl rfl rfl) ?_
   refine zV (Q0 (ps:=[(0,_),(1,_),(6,_),(7,_)]) [_,_,_,_,_,_,_,_,_,_,_] zaJ rfl rfl) ?_
   refine Ql (ps:=[(0,_)]) (m:=[S.encR (⟨IntKind.i64.wrap (x.rt.ends-1),1,0,0,0,0,⟨#[97]⟩,⟨#[97]⟩,0,0,0⟩)]) We rfl (.cons rfl (.nil)) rfl (by simp [S.encR_len]) (by decide) (by decide) rfl rfl (fun b_57=>?_)
   refine QC (cap:=[]) (vs:=[_,_,_]) rfl rfl zrm (.cons (.there .here) (.cons .here .nil)) (zin (zcF (b:=b_47) (n:=1) (c:=1) (xs:=[x.rt]) (rest:=[]) rfl (Nat.le_refl _) (by decide) (by simp) rfl) (by decide) rfl (i:=0) (by decide) b_57 (⟨IntKind.i64.wrap (x.rt.ends-1),1,0,0,0,0,⟨#[97]⟩,⟨#[97]⟩,0,0,0⟩)) rfl rfl ?_
   rintro vv7 I7 L7 hI7 ⟨rfl,hOi⟩
   have h1:=h1.mono hI7;have hIc:=hIc.trans hI7
   refine zA (zN ?_)
   refine Zv hOi S.encR_len (by decide) (by repeat (first | exact .cons .here .nil | exact Qu | exact Qq | apply Qo | apply Qn)) (fun I8 hI8 af8 cf8 ef8 hM=>?_)
   subst ef8
   have h1:=h1.mono hI8;have hIc:=hIc.trans hI8
   refine Qk (zM ?_)
   refine qcV (vs:=[_]) rfl zlA (S.w_check hM (by decide)) ?_
   refine zA (Qb (Qp (Qc (zR ?_))))
   refine zM ?_
   refine zC ?_
   refine zM ?_
   refine QL 2 rfl rfl rfl ?_
   refine zK (Qg rfl Zr (fun hg=>by exact BxI.cells (vs:=Zn x) h1) rfl) ?_
   refine qg (vs:=[_]) rfl UY (fun hg=>UU x) ?_
   refine QU rfl rfl rfl rfl rfl ?_
   refine zA (zN (QF ?_))
   first
   | exact zp hIc rfl rfl (by rw [Q7,zbA,if_neg k1,if_neg k2,if_neg k3,if_pos k4,hlC]<;>rfl)
  exact absurd hc52 (by simpa using he)
 have k4:¬x.kind=4:=by simpa using hc43
 refine Qw (Qp (Qc (zR (zM ?_))))
 refine zC ?_
 refine zM ?_
 refine QL 2 rfl rfl rfl ?_
 refine zK (Qg rfl Zr (fun hg=>by exact BxI.cells (vs:=Zn x) h1) rfl) ?_
 refine qg (vs:=[_]) rfl UY (fun hg=>UU x) ?_
 refine QU rfl rfl rfl rfl rfl ?_
 refine zA (zN (QF ?_))
 first
 | exact zp hIc rfl rfl (by rw [Q7,zbA,if_neg k1,if_neg k2,if_neg k3,if_neg k4]<;>rfl)
end
end Go.Proofs.YtjblkbkmblkgoaaGreat
namespace Go.Kn
section
open Go
def zg7 (b:Nat)(x:Nat×Nat):Nat×Value:=(x.1,.pointer (some ⟨b,x.2,none⟩))
def zu3:List (Nat×Nat×Nat)→Nat→Nat→Option Nat
 | [],_,_=>none
 | (s,f,o)::l,s',f'=>if s=s'∧f=f' then some o else zu3 l s' f'
def lkN:List (Nat×Nat)→Nat→Option Nat
 | [],_=>none
 | (t,o)::l,x=>if t=x then some o else lkN l x
def zqI (ft:List (Nat×Nat×Nat))(se:List (Nat×Nat)):Op→Option Nat
 | .move (.tmp x)=>lkN se x
 | .assign (.tmp x)=>lkN se x
 | .nilCheck (.tmp x)=>lkN se x
 | .fieldAddr s (.tmp x) f=>match lkN se x,zu3 ft s f with | some o,some k=>some (o+k) | _,_=>none
 | _=>none
def zmK (P:Program)(ft:List (Nat×Nat×Nat)):Prop:=∀ s f o,(s,f,o)∈ft→QP P s f o
theorem zmK.nil {P:Program}:zmK P []:=fun _ _ _ h=>by cases h
theorem zmK.cons {P:Program}{s f o:Nat}{l:List (Nat×Nat×Nat)}(h:QP P s f o)(hl:zmK P l):zmK P ((s,f,o)::l):=fun a b c hm=>by
 rcases List.mem_cons.1 hm with e | hm
 ·
  cases e;exact h
 ·
  exact hl _ _ _ hm
theorem zgW {s f o:Nat}:∀ {ft:List (Nat×Nat×Nat)},zu3 ft s f=some o→(s,f,o)∈ft
 | [],h=>by cases h
 | (a,c,d)::l,h=>by
  unfold zu3 at h
  split at h
  ·
   rename_i e;cases h;obtain ⟨rfl,rfl⟩:=e;exact List.mem_cons_self ..
  ·
   exact List.mem_cons_of_mem _ (zgW h)
theorem Uk {b x o:Nat}{E:Env}:∀ {se:List (Nat×Nat)},lkN se x=some o→Vz (se.map (zg7 b)++E) x=some (.pointer (some ⟨b,o,none⟩))
 | [],h=>by cases h
 | (t,p)::l,h=>by
  unfold lkN at h
  simp only [List.map_cons,List.cons_append,zg7]
  split at h
  ·
   rename_i e;cases h;subst e;simp [Vz]
  ·
   rename_i e
   have:=Uk (b:=b) (E:=E) h
   have hb:t.beq x=false:=by
    cases hb:t.beq x with
    | false=>rfl
    | true=>exact absurd (Nat.eq_of_beq_eq_true hb) e
   simp only [Vz,hb,cond_false];exact this
def zj4 (se:List (Nat×Nat))(p:Nat×Operand):Option (Nat×Nat):=match p.2 with | .tmp x=>(lkN se x).map fun o=>(p.1,o) | _=>none
theorem zgr {se:List (Nat×Nat)}{b:Nat}{E:Env}:∀ {l:List (Nat×Operand)} {pl:List (Nat×Nat)},l.map (zj4 se)=pl.map some→l.map (fun p=>(QH [] (se.map (zg7 b)++E) p.2).map fun v=>(p.1,v))=(pl.map (zg7 b)).map some
 | [],[],_=>rfl
 | [],_::_,h=>by cases h
 | _::_,[],h=>by cases h
 | p::l,q::pl,h=>by
  simp only [List.map_cons,List.cons.injEq] at h ⊢
  refine ⟨?_,zgr h.2⟩
  obtain ⟨k,x⟩:=p
  have h1:=h.1
  unfold zj4 at h1
  split at h1
  ·
   rename_i x' hx
   cases ho:lkN se x' with
   | none=>rw [ho] at h1;cases h1
   | some o=>
    rw [ho] at h1
    simp only [Option.map_some,Option.some.injEq] at h1
    subst h1
    simp only at hx
    subst hx
    rw [show QH [] (se.map (zg7 b)++E) (.tmp x')=Vz (se.map (zg7 b)++E) x' from rfl,Uk ho]
    rfl
  ·
   cases h1
section
variable {C:Cx} {Q:Exit→Act→World→Prop} {ops:Array Oper} {I0:Qv} {loc0:Loc} {E:Env} {I:Qv} {loc:Loc}
theorem zuK {ft:List (Nat×Nat×Nat)}{se:List (Nat×Nat)}{b v:Nat}{o:Oper}(hf:zmK C.P ft)(h:zqI ft se o.op=some v):Za C [] (se.map (zg7 b)++E) I loc o (.pointer (some ⟨b,v,none⟩)):=by
 obtain ⟨dst,op,ty,pos,af,gd⟩:=o
 simp only at h
 unfold zqI at h
 split at h
 ·
  exact Qh (Uk h)
 ·
  exact QB (Uk h)
 ·
  exact QM (Uk h)
 ·
  split at h
  ·
   rename_i h1 h2;cases h
   exact Qa (Uk h1) (hf _ _ _ (zgW h2))
  ·
   cases h
 ·
  cases h
theorem zko {fuel:Nat}{listed:Array Bool}(E':Env)(hE:Sub E' E)(h:XD C Q ops I0 loc0 fuel listed [] E' I loc):XD C Q ops I0 loc0 fuel listed [] E I loc:=fun a w ha hg hw=>h a w (ha.sub hE) hg hw
theorem zaQ {S:GS}{dst:Option Nat}{ty:TypeId}{pos:String}{af:Array Edge}{gd:Option (Nat×Bool)}{x:Operand}{t e size n b off:Nat}(hx:QH S E x=some (.pointer (some ⟨b,off,none⟩)))(hT:ArT C.P t n e size):
  Za C S E I loc ⟨dst,.slice t x none none none,ty,pos,af,gd⟩ (.slice (some ⟨b,off,none⟩) n n):=
 .of (by intro c e;cases e) fun a w ha hg hc _=>by
  obtain ⟨h1,j,h2,h3⟩:=hT
  simp only [execOp,Option.map_none,Qj ha hg hc hx,Instr.sliceAt,Instr.sureAddr,Instr.sliceBounds,Sem.run_bind,Sem.run_pure,run_underlying h1,Result.andThen,run_sizeOf h2,Nat.zero_mul,Nat.sub_zero]
  congr 2
  simp [Addr.add]
theorem zsn (loc':Loc){c:Code}(hp:loc'.Perm loc)(h:X C Q c E I loc'):X C Q c E I loc:=fun a w ha hw=>h a w ha (hw.permL hp)
def lst (n k:Nat):Array Bool:=(List.replicate k true++List.replicate (n-k) false).toArray
theorem zfz (n k j:Nat)(d:Bool)(hk:k≤n):(lst n k).getD j d=if j<k then true else if j<n then false else d:=by
 unfold lst
 rw [Array.getD_eq_getD_getElem?,List.getElem?_toArray]
 by_cases h1:j<k
 ·
  rw [List.getElem?_append_left (by simpa using h1)];simp [h1]
 ·
  rw [List.getElem?_append_right (by simpa using Nat.le_of_not_lt h1)]
  by_cases h2:j<n
  ·
   have:j-k<n-k:=by omega
   simp [h1,h2,this]
  ·
   have:¬j-k<n-k:=by omega
   simp [h1,h2,this]
theorem zq6 (n k:Nat)(hk:k<n):(lst n k).setIfInBounds k true=lst n (k+1):=by
 apply Array.ext_getElem?
 intro j
 rw [Array.getElem?_setIfInBounds]
 unfold lst
 simp only [List.getElem?_toArray,List.size_toArray,List.length_append,List.length_replicate]
 by_cases e:k=j
 ·
  subst e
  rw [if_pos rfl,if_pos (by omega),List.getElem?_append_left (by simp)]
  simp
 ·
  rw [if_neg e]
  by_cases h1:j<k
  ·
   rw [List.getElem?_append_left (by simpa using h1),List.getElem?_append_left (by simp;omega)]
   simp [List.getElem?_replicate,h1];omega
  ·
   rw [List.getElem?_append_right (by simp;omega),List.getElem?_append_right (by simp;omega)]
   simp only [List.length_replicate,List.getElem?_replicate]
   congr 1
   simp only [eq_iff_iff]
   omega
def znz (ops:Array Oper)(ft:List (Nat×Nat×Nat))(N:Nat):Nat→Nat→List Oper→List (Nat×Nat)→Option (List (Nat×Nat))
 | _,0,_,se=>some se
 | _,_+1,[],_=>none
 | k,m+1,o::l,se=>match o.dst,zqI ft se o.op with
   | some d,some v=>if (o.guard.isNone&&Nat.blt d N&&(o.after.all (fun e=> !Region.binds .any e||Nat.blt e.on k)&&l.all (fun oj=>oj.after.any (fun e=>Region.binds .any e&&e.on==k)||o.apart ops oj)))=true then znz ops ft N (k+1) m l ((d,v)::se) else none
   | _,_=>none
theorem zns (i:Nat){oi:Oper}{d:Nat}{v:Value}{fuel:Nat}{listed:Array Bool}(hi:ops[i]? =some oi)(hv:Za C [] E I0 loc0 oi v)(hg:oi.guard=none)(hd:oi.dst=some d)(hN:Nat.blt d C.N=true)
  (hs:Region.noSelect ops=true)
  (hfr:∀ j oj,ops[j]? =some oj→j≠i→listed.getD j true=false→(∀ e∈oj.after,Region.binds .any e=true→e.on≠i)→oi.apart ops oj=true)
  (hr:i∈Region.ready .any ops listed)(hQ:YT Q)(hI:HLe I0 I)(hl:Kg loc0 loc)
  (h:XD C Q ops I0 loc0 fuel (listed.setIfInBounds i true) [] ((d,v)::E) I loc):XD C Q ops I0 loc0 (fuel+1) listed [] E I loc:=by
 intro a w ha hgg hw
 have hp:=ha.put hN v
 refine Y4 (v:=v) hi hv.1 (Region.noSelect_spec hs) (fun c a w=>by rw [hd];exact hQ c a d _ w) fuel listed a w hfr hr ?_ ((hw.mono hI).subL hl) (by rw [hd];exact h _ _ hp trivial hw)
 have hG:ZH ops [] E oi:=.none hg
 have hwt:=hG.wanted ha (show JN [] a from trivial)
 exact .inl ⟨by rw [hwt];rfl,fun w' hw'=>hv.2 a w' ha trivial rfl hw'⟩
theorem zfa {ft:List (Nat×Nat×Nat)}(hf:zmK C.P ft)(hs:Region.noSelect ops=true)(hQ:YT Q)(hI:HLe I0 I)(hl:Kg loc0 loc){b N n:Nat}(hN:N=C.N)(hn:ops.size=n):
  ∀ (m k:Nat) {l:List Oper} {se se':List (Nat×Nat)} {fuel:Nat},ops.toList.drop k=l→k+m≤n→znz ops ft N k m l se=some se'→
   XD C Q ops I0 loc0 fuel (lst n (k+m)) [] (se'.map (zg7 b)++E) I loc→XD C Q ops I0 loc0 (fuel+m) (lst n k) [] (se.map (zg7 b)++E) I loc
 | 0,k,l,se,se',fuel,hk,hle,hr,h=>by
  simp only [znz,Option.some.injEq] at hr;subst hr;exact h
 | m+1,k,[],se,se',fuel,hk,hle,hr,h=>by cases hr
 | m+1,k,o::l,se,se',fuel,hk,hle,hr,h=>by
  unfold znz at hr
  split at hr
  ·
   rename_i d v hd hv
   split at hr
   ·
    rename_i hc
    simp only [Bool.and_eq_true,Option.isNone_iff_eq_none] at hc
    obtain ⟨⟨hg,hb⟩,hrd,hfr⟩:=hc
    have hkn:k<n:=by omega
    have hok:ops[k]? =some o:=by
     have:=congrArg (·[0]?) hk
     simp only [List.getElem?_drop,Nat.add_zero,List.getElem?_cons_zero] at this
     rwa [Array.getElem?_toList] at this
    have hl1:ops.toList.drop (k+1)=l:=by
     rw [←List.drop_drop,hk];rfl
    have h':XD C Q ops I0 loc0 (fuel+m) (lst n (k+1)) [] (((d,v)::se).map (zg7 b)++E) I loc:=
     zfa hf hs hQ hI hl hN hn m (k+1) hl1 (by omega) hr (by rw [show k+1+m=k+(m+1) by omega];exact h)
    refine zns k hok (zuK hf hv) hg hd (hN ▸ hb) hs (fun j oj hj hne hun hno=>?_) (mem_ready.2 ⟨?_,o,hok,fun e he hbe=>?_⟩) hQ hI hl (by rw [zq6 n k hkn];exact h')
    ·
     rw [zfz n k j true (by omega)] at hun
     have hjn:j<n:=by rw [←hn];exact (Array.getElem?_eq_some_iff.1 hj).1
     have hjk:k<j:=by
      rcases Nat.lt_or_ge j k with h1 | h1
      ·
       rw [if_pos h1] at hun;cases hun
      ·
       omega
     have hm:oj∈l:=by
      rw [←hl1]
      refine List.mem_iff_getElem?.2 ⟨j-(k+1),?_⟩
      rw [List.getElem?_drop,show k+1+(j-(k+1))=j by omega,Array.getElem?_toList];exact hj
     have h2:=List.all_eq_true.1 hfr oj hm
     rw [Bool.or_eq_true] at h2
     rcases h2 with h2 | h2
     ·
      obtain ⟨e,he,hb2⟩:=Array.any_eq_true'.1 h2
      simp only [Bool.and_eq_true,beq_iff_eq] at hb2
      exact absurd hb2.2 (hno e he hb2.1)
     ·
      exact h2
    ·
     rw [zfz n k k true (by omega),if_neg (by omega),if_pos hkn]
    ·
     have h2:=Array.all_eq_true_iff_forall_mem.1 hrd e he
     rw [hbe] at h2
     have h3:e.on<k:=by simpa using h2
     rw [zfz n k e.on false (by omega),if_pos h3]
   ·
    cases hr
  ·
   cases hr
theorem zia {zv cv:Value}(h1:zv.cells= #[cv])(n:Nat):madeCells zv.cells n=(List.replicate n cv).toArray:=by
 rw [h1]
 apply Array.ext'
 have:∀ x:Nat,[cv][x % 1]?.getD default=cv:=fun x=>by rw [Nat.mod_one];rfl
 simp [madeCells,this,List.map_const']
def zv1 (P:Program)(t e bytes:Nat)(zv cv:Value):Prop:=P.underlying t=some (.slice e)∧(P.info? e).map (fun i=>(i.zero,i.size,i.bytes))=some (some zv,1,bytes)∧zv.cells= #[cv]
theorem WA {rest:List Oper}{dst:Nat}{ty:TypeId}{pos:String}{af:Array Edge}{gd:Option (Nat×Bool)}{x y:Operand}{t e bytes:Nat}{zv cv:Value}{n:Int}(hT:zv1 C.P t e bytes zv cv)(hx:QH [] E x=some (.int .i64 n))(hy:QH [] E y=some (.int .i64 n))(hn:0≤n∧n≤1000000)(hb:bytes≤1000)
  (hG:gd=none)(hN:Nat.blt dst C.N=true)(h:∀ b,XO C Q ops rest [] ((dst,.slice (some ⟨b,0,none⟩) n.toNat n.toNat)::E) I ((b,.cells (List.replicate n.toNat cv).toArray e (0,0))::loc)):
  XO C Q ops (⟨some dst,.makeSlice t x y,ty,pos,af,gd⟩::rest) [] E I loc:=
 Yk hG (by intro c e;cases e) fun a w ha hw=>by
  obtain ⟨hu,hi,h1⟩:=hT
  rw [Option.map_eq_some_iff] at hi
  obtain ⟨i,hi,he⟩:=hi
  simp only [Prod.mk.injEq] at he
  obtain ⟨hz,hs,hbt⟩:=he
  have hr:=run_makeSlice (P:=C.P) (w:=w) t e i zv hu hi hz .i64 .i64 n n hn.1 (by omega) (by rw [hs];omega) (by rw [hbt];exact Int.le_trans (Int.mul_le_mul (by omega:(bytes:Int)≤1000) hn.2 hn.1 (by omega)) (by decide)) (by omega)
  rw [hs,Nat.mul_one,zia h1] at hr
  simp only [execOp,Qj (S:=[]) ha trivial rfl hx,Qj (S:=[]) ha trivial rfl hy,Sem.run_bind,hr,Result.andThen,Sem.run_pure,Oper.uponIn_value]
  exact h _ _ _ (ha.put hN _) trivial (hw.alloc _)
end
end
end Go.Kn
namespace Go.Proofs.YtjblkbkmblkgoaaGreat
section
open Go Go.Kn Go.Proofs
theorem zkE:AgT Tryz.prog 185 42:=.of (by kernel_rfl)
theorem zfb:ArT Tryz.prog 185 42 184 1:=.of (by kernel_rfl)
theorem Up:QP Tryz.prog 41 0 0:=.of (by kernel_rfl)
theorem zcb:QP Tryz.prog 41 1 1:=.of (by kernel_rfl)
theorem zcJ:QP Tryz.prog 41 2 2:=.of (by kernel_rfl)
theorem zb8:QP Tryz.prog 41 3 3:=.of (by kernel_rfl)
theorem zcv:QP Tryz.prog 41 4 4:=.of (by kernel_rfl)
theorem VJ:QP Tryz.prog 43 0 0:=.of (by kernel_rfl)
theorem Ji:QP Tryz.prog 43 1 1:=.of (by kernel_rfl)
theorem Vd:QP Tryz.prog 43 10 10:=.of (by kernel_rfl)
theorem Us:QP Tryz.prog 43 2 2:=.of (by kernel_rfl)
theorem Wd:QP Tryz.prog 43 3 3:=.of (by kernel_rfl)
theorem WN:QP Tryz.prog 43 4 4:=.of (by kernel_rfl)
theorem KK:QP Tryz.prog 43 8 8:=.of (by kernel_rfl)
theorem KJ:QP Tryz.prog 43 9 9:=.of (by kernel_rfl)
theorem zhC:zmK Tryz.prog [(45,1,1),(45,2,10),(45,3,29),(45,4,34)]:=.cons VM (.cons Vw (.cons Kb (.cons YR .nil)))
theorem zhu:zmK Tryz.prog [(45,0,0),(32,0,0),(32,1,1),(32,2,2),(32,3,3),(32,4,4),(32,5,5),(32,6,6),(30,0,0),(30,1,1),(30,2,2),(39,0,0),(39,1,1),(39,2,2),(39,3,3),(36,0,0),(36,1,1),(36,2,2),(36,3,3),(36,4,4),(36,5,5),(36,6,6),(36,7,7),(36,8,8),(36,9,9),(36,10,10),(34,0,0),(34,1,1),(36,11,12),(41,0,0),(41,1,1),(41,2,2),(41,3,3),(41,4,4),(43,0,0),(43,1,1),(43,2,2),(43,3,3),(43,4,4),(43,5,5),(43,8,8),(43,9,9),(43,10,10)]:=.cons Vm (.cons Jz (.cons Um (.cons Jw (.cons XW (.cons X6 (.cons Wg (.cons Uw (.cons XV (.cons XS (.cons zcN (.cons YG (.cons KE (.cons Vj (.cons V4 (.cons Uq (.cons XK (.cons X1 (.cons XJ (.cons zcu (.cons X8 (.cons XN (.cons XL (.cons X4 (.cons XU (.cons Kq (.cons Jd (.cons JE (.cons Ku (.cons Up (.cons zcb (.cons zcJ (.cons zb8 (.cons zcv (.cons VJ (.cons Ji (.cons Us (.cons Wd (.cons WN (.cons JB (.cons KK (.cons KJ (.cons Vd .nil))))))))))))))))))))))))))))))))))))))))))
theorem zjo:SzT Tryz.prog 185 42:=.of (by kernel_rfl)
theorem zjM:Ve Tryz.prog 185 (.agg #[(.pointer none),(.pointer none),(.pointer none),(.pointer none),(.pointer none),(.pointer none),(.pointer none),(.pointer none),(.pointer none),(.pointer none),(.pointer none),(.pointer none),(.pointer none),(.pointer none),(.pointer none),(.pointer none),(.pointer none),(.pointer none),(.pointer none),(.pointer none),(.pointer none),(.pointer none),(.pointer none),(.pointer none),(.pointer none),(.pointer none),(.pointer none),(.pointer none),(.pointer none),(.pointer none),(.pointer none),(.pointer none),(.pointer none),(.pointer none),(.pointer none),(.pointer none),(.pointer none),(.pointer none),(.pointer none),(.pointer none),(.pointer none),(.pointer none)]):=.of (by kernel_rfl)
set_option maxRecDepth 100000 in
set_option maxHeartbeats 4000000 in
theorem zgB (I:Qv) (b:Nat):Yb Tryz.prog 129 [ZM b] I (zvT b):=by
 intro g H w hw
 refine qe Tryz.func129 Tryz.ntmps129 hw ?_
 refine zR ?_
 refine Qs zjM rfl rfl (fun b_2=>?_)
 refine zN (Qr ?_)
 have hD:=zwQ I
 refine ZK ?_
 refine QZ I [] mixed ?_
 refine zko (([(0,0)]:List (Nat×Nat)).map (zg7 b)++([(2,ZM b_2)]:Env)) (.cons rfl (.cons rfl (.nil))) ?_
 refine zfa (b:=b) (ft:=[(45,1,1),(45,2,10),(45,3,29),(45,4,34)]) (N:=157) (n:=16) zhC (by kernel_rfl) QK hD (by repeat (first | exact .refl | exact Qe | refine .keep ?_ | refine .drop ?_ | refine Qf ?_)) rfl rfl 16 0 (se:=[(0,0)]) (se':=[(6,34),(5,29),(4,10),(3,1),(19,34),(18,0),(17,0),(16,29),(15,0),(14,0),(13,10),(12,0),(11,0),(10,1),(9,0),(8,0),(0,0)]) (fuel:=0) (E:=([(2,ZM b_2)]:Env)) rfl (by decide) (by kernel_rfl) ?_
 refine Qm (by kernel_rfl) ?_
 refine QA ?_
 refine Qc (zR (zM ?_))
 refine zV (QM rfl) ?_
 refine zF Jh ?_
 refine zA (zN (Qr ?_))
 have hD:=zwQ I
 refine ZK ?_
 refine QZ I [] mixed ?_
 refine zko (([(7,14),(6,34),(5,29),(4,10),(3,1),(0,0)]:List (Nat×Nat)).map (zg7 b)++([(2,ZM b_2)]:Env)) (.cons rfl (.cons rfl (.cons rfl (.cons rfl (.cons rfl (.cons rfl (.cons rfl (.nil)))))))) ?_
 refine zfa (b:=b) (ft:=[(45,0,0),(32,0,0),(32,1,1),(32,2,2),(32,3,3),(32,4,4),(32,5,5),(32,6,6),(30,0,0),(30,1,1),(30,2,2),(39,0,0),(39,1,1),(39,2,2),(39,3,3),(36,0,0),(36,1,1),(36,2,2),(36,3,3),(36,4,4),(36,5,5),(36,6,6),(36,7,7),(36,8,8),(36,9,9),(36,10,10),(34,0,0),(34,1,1),(36,11,12),(41,0,0),(41,1,1),(41,2,2),(41,3,3),(41,4,4),(43,0,0),(43,1,1),(43,2,2),(43,3,3),(43,4,4),(43,5,5),(43,8,8),(43,9,9),(43,10,10)]) (N:=157) (n:=135) zhu (by kernel_rfl) QK hD (by repeat (first | exact .refl | exact Qe | refine .keep ?_ | refine .drop ?_ | refine Qf ?_)) rfl rfl 133 0 (se:=[(7,14),(6,34),(5,29),(4,10),(3,1),(0,0)]) (se':=[(155,44),(154,34),(153,34),(152,43),(151,34),(150,34),(149,42),(148,34),(147,34),(146,39),(145,34),(144,34),(143,38),(142,34),(141,34),(140,37),(139,34),(138,34),(137,36),(136,34),(135,34),(134,35),(133,34),(132,34),(131,34),(130,34),(129,34),(128,33),(127,29),(126,29),(125,32),(124,29),(123,29),(122,31),(121,29),(120,29),(119,30),(118,29),(117,29),(116,29),(115,29),(114,29),(113,27),(112,26),(111,14),(110,14),(109,26),(108,26),(107,14),(106,14),(105,25),(104,24),(103,14),(102,14),(101,24),(100,24),(99,14),(98,14),(97,23),(96,14),(95,14),(94,22),(93,14),(92,14),(91,21),(90,14),(89,14),(88,20),(87,14),(86,14),(85,19),(84,14),(83,14),(82,18),(81,14),(80,14),(79,17),(78,14),(77,14),(76,16),(75,14),(74,14),(73,15),(72,14),(71,14),(70,14),(69,14),(68,14),(67,13),(66,10),(65,10),(64,12),(63,10),(62,10),(61,11),(60,10),(59,10),(58,10),(57,10),(56,10),(55,9),(54,7),(53,1),(52,1),(51,8),(50,7),(49,1),(48,1),(47,7),(46,7),(45,1),(44,1),(43,6),(42,1),(41,1),(40,5),(39,1),(38,1),(37,4),(36,1),(35,1),(34,3),(33,1),(32,1),(31,2),(30,1),(29,1),(28,1),(27,1),(26,1),(25,0),(24,0),(23,0),(7,14),(6,34),(5,29),(4,10),(3,1),(0,0)]) (fuel:=2) (E:=([(2,ZM b_2)]:Env)) rfl (by decide) (by kernel_rfl) ?_
 refine QY 133 rfl (Vs (ps:=((List.range 42).zip zhF).map (zg7 b)) (zqS b) zfb zjM (zgr (by kernel_rfl)) (by kernel_rfl)) (.none rfl) rfl rfl (by kernel_rfl) (by kernel_rfl) (by kernel_rfl) QK hD (by repeat (first | exact .refl | exact Qe | refine .keep ?_ | refine .drop ?_ | refine Qf ?_)) ?_
 refine zko [(156,zvT b),(2,ZM b_2)] (.cons rfl (.cons rfl .nil)) ?_
 refine qd 134 rfl ?_
 refine zh zjo ?_
 refine Qb ?_
 refine zD hD ?_
 refine Qm (by kernel_rfl) ?_
 refine QA ?_
 refine Qc (QF ?_)
 exact Y6 rfl rfl zkE zwO rfl (fun w hw=>⟨by rfl,hw.drop⟩)
end
section
open Go Go.Kn Go.Proofs
theorem zlD {I:Qv}{av:Option Addr}{n c:Nat}{xs:List Int}(hS:Sl I 1 Yg av n c xs)(hn:n≤100000):Vl Tryz.prog 150 [.slice av n c] I [] (fun v I' L'=>∃ sv,v=zwG sv∧I'=I∧Ym 158 4 sv n ((xs.map vcI).flatMap Zp) L'):=by
 intro g H w hw
 refine qe Tryz.func150 Tryz.ntmps150 hw ?_
 have hln:=hS.len
 refine zR ?_
 refine Qs YX rfl rfl (fun b_2=>?_)
 refine zN (zR ?_)
 refine zV (Q0 (ps:=[(0,_)]) [_,_,_,_] Kj rfl rfl) ?_
 refine Qs YX rfl rfl (fun b_3=>?_)
 refine zh ZS ?_
 refine zN (Qr (zR (zM ?_)))
 refine zQ Yl ?_
 refine zM (zN (QE ?_))
 refine zU [(2,_),(3,_),(7,_),(8,_)] (fun T L0 mz E I' loc'=>∃ (k:Nat) (v:Value) (L:Go.Kn.Loc),mz=n-k∧E=(9,.int .i64 k)::T∧I=I'∧L++[(b_3,.cells #[.int .i64 3,.int .i64 0,.string ⟨#[]⟩,v] 158 (0,0)),(b_2,.cells (#[.int .i64 0,.int .i64 0,.string ⟨#[]⟩,.slice none 0 0]) 158 (0,0))]=loc'∧k≤n∧Ym 158 4 v k (((xs.take k).map vcI).flatMap Zp) L) ?_ (h:=⟨0,_,[],rfl,rfl,rfl,rfl,Nat.zero_le _,Ym.nil⟩)
 rintro mz E I' loc' ⟨k,v,L,rfl,rfl,rfl,rfl,hk,hO⟩
 refine zR (zC (zN (Qr ?_)))
 refine zI ?_ ?_<;>intro hc10
 ·
  have hlt_k:k<n:=by have h:=hc10;simp at h;omega
  obtain ⟨x,hx⟩:∃ x,xs[k]? =some x:=⟨_,List.getElem?_eq_getElem (by omega)⟩
  refine Qw (Qc (Qr (QE (zR ?_))))
  refine zV (zX Yl hS) ?_
  refine zV (Qd rfl Qy (fun hg=>by exact zwJ hS hx rfl)) ?_
  refine zA (zN (Qk ?_))
  refine zF Q6 ?_
  refine zV (Qd rfl ZI (fun hg=>by (repeat (first | exact zwL rfl | apply zwK | apply zwM)))) ?_
  refine zM ?_
  refine zV (Q0 (ps:=[(0,_),(1,_)]) [_,_,_,_] Kj rfl rfl) ?_
  refine Ql (ps:=[(0,_)]) (m:=[Zp (vcI x)]) ZQ rfl (.cons rfl (.nil)) rfl (by simp [ZB]) (by decide) (by decide) rfl rfl (fun b_17=>?_)
  refine QW (v:=_) (ys:=([vcI x]:List Vc).flatMap Zp) (L:=L) rfl rfl ZQ hO (by repeat (first | exact .cons .here .nil | exact Qu | exact Qq | apply Qo | apply Qn)) ⟨rfl,fun _=>rfl,by repeat (first | exact zwO | apply zwN | apply zwP)⟩ (VX [vcI x]) (by omega) rfl rfl ?_
  intro v2 L2 hO2 _;rw [←List.flatMap_append] at hO2;obtain ⟨a2,c2,rfl⟩:=hO2.shape
  refine zF Q6 ?_
  refine Zg rfl rfl Y5 rfl rfl (by (repeat (first | exact Upd.here | apply Upd.there | apply Qx))) rfl ?_
  refine Qb (Qp (Qc (Qk (zB ?_))))
  refine zM (Qb ?_)
  exact zm (h:=⟨n-(k+1),by omega,k+1,_,_,rfl,rfl,rfl,rfl,by omega,by rw [ZD hx,List.map_append];exact hO2⟩)
 have hge_k:n≤k:=by have h:=hc10;simp at h;omega
 obtain rfl:k=n:=by omega
 obtain ⟨a3,c3,rfl⟩:=hO.shape
 have hke:xs.take k=xs:=List.take_of_length_le (by omega)
 rw [hke] at hO
 refine ZC (Qt (Qt (QD (Qc (zR ?_)))))
 refine zV (Qg rfl ZJ (fun hg=>by exact zwP .here) rfl) ?_
 refine Vp rfl rfl ZS rfl rfl rfl rfl (by (repeat (first | exact Upd.here | apply Upd.there | apply Qx))) ?_
 refine zN (QF ?_)
 exact Y6 rfl rfl ZJ (zwP (.there .here)) rfl (fun w hw=>⟨_,I,_,rfl,zwQ _,hw.subL QO,_,rfl,rfl,hO⟩)
end
section
open Go Go.Kn Go.Proofs
def VI (x:Nt):List Int:=[x.kind,x.lm.no,x.lm.person,x.lm.ends,x.lm.lo,x.lm.hi,x.lm.known,x.lm.ck,x.lm.cl,x.lm.cn,x.pt.id,x.pt.kind,x.pt.sign,x.pt.field,x.pt.nw.id,x.pt.nw.role,x.pt.nw.bar,x.pt.nw.mark,x.pt.nw.kind,x.pt.nw.side,x.pt.nw.dir,x.pt.nw.level,x.pt.nw.size,x.pt.nw.wth,x.pt.nw.fn,x.pt.nw.fd,x.pt.nw.tn,x.pt.nw.td,x.ls.no,x.ls.person,x.ls.version,x.ls.at_,x.ls.known,x.rt.no,x.rt.kind,x.rt.edition,x.rt.holder,x.rt.sign,x.rt.ends,x.rt.lo,x.rt.hi,x.rt.known]
theorem YP (x:Nt):(VI x).length=42:=rfl
theorem zjv (x:Nt):zhF.map (fun o=>(Zn x)[o]?)=(VI x).map (fun y=>some (.int .i64 y)):=rfl
theorem zmh {x:Nt}{k:Nat}{y:Int}(h:(VI x)[k]? =some y):(Zn x)[zhF.getD k 0]? =some (.int .i64 y):=by
 have e:=congrArg (·[k]?) (zjv x)
 simp only [List.getElem?_map,h,Option.map_some] at e
 cases ho:zhF[k]? with
 | none=>rw [ho] at e;cases e
 | some o=>
  rw [ho] at e
  simp only [Option.map_some,Option.some.injEq] at e
  rw [List.getD_eq_getElem?_getD,ho];exact e
theorem zjj {b k:Nat}(hk:k<42):(zqS b)[k]? =some (.pointer (some ⟨b,zhF.getD k 0,none⟩)):=by
 unfold zqS
 rw [List.getElem?_map,List.getD_eq_getElem?_getD]
 have:k<zhF.length:=hk
 rw [List.getElem?_eq_getElem this];rfl
theorem zi8 {I:Qv}{loc:Go.Kn.Loc}{b t:Nat}{fz:Nat×Nat}{x:Nt}{k:Nat}{y:Int}(h:BxI I b (.cells (Zn x).toArray t fz))(hk:(VI x)[k]? =some y):QG I loc b (zhF.getD k 0) (.int .i64 y):=by
 have:=(BxI.cells (loc:=loc) (vs:=Zn x) h) _ _ (zmh hk)
 rwa [Nat.zero_add] at this
def JT (x:Nt):Va:=.list ((VI x).map .int++[.list (x.pt.needs.map .int),.text (Kz x.rt.name),.text (Kz x.rt.town)])
def JR (x:Nt):List Nat:=Va.enc (JT x)
def XA (x:Nt):ByteArray:=UC (JR x)
theorem WP (s:ByteArray):UC (Kz s)=s:=by
 unfold UC Kz
 congr 1
 rw [List.map_map]
 have:(UInt8.ofNat ∘ UInt8.toNat)=id:=by funext c;simp
 rw [this,List.map_id]
theorem zgD {I:Qv}(xs:List Int)(k:Nat)(x:Va)(y:Vc)(hx:(xs.map Va.int)[k]? =some x)(hy:(xs.map vcI)[k]? =some y):VaR I x y:=by
 rw [List.getElem?_map] at hx hy
 cases h:xs[k]? with
 | none=>rw [h] at hx;cases hx
 | some n=>rw [h] at hx hy;cases hx;cases hy;exact .int n
theorem U5 {I:Qv}{a7 a8:Option Addr}{n c7 c8:Nat}{x:Nt}(h7:Sl I 4 Zp a7 n c7 (x.pt.needs.map vcI))(h8:Sl I 4 Zp a8 45 c8 ((VI x).map vcI++[⟨3,0,⟨#[]⟩,a7,n,c7⟩,vcT x.rt.name,vcT x.rt.town])):VaR I (JT x) ⟨3,0,⟨#[]⟩,a8,45,c8⟩:=by
 refine .list h8 (by simp) fun k u y hu hy=>?_
 by_cases hk:k<42
 ·
  rw [List.getElem?_append_left (by rw [List.length_map,YP];exact hk)] at hu hy
  exact zgD _ k u y hu hy
 ·
  rw [List.getElem?_append_right (by simp [YP];omega)] at hu hy
  simp only [List.length_map,YP] at hu hy
  match hj:k-42,hu,hy with
  | 0,hu,hy=>cases hu;cases hy;exact .list h7 (by simp) (zgD _)
  | 1,hu,hy=>cases hu;cases hy;have:=VaR.text (I:=I) (Kz x.rt.name);rwa [WP] at this
  | 2,hu,hy=>cases hu;cases hy;have:=VaR.text (I:=I) (Kz x.rt.town);rwa [WP] at this
  | _+3,hu,hy=>cases hu
theorem zbN (xs:List Int):Va.depthL (xs.map .int)=0:=by
 induction xs with
 | nil=>rfl
 | cons a l ih=>simp [Va.depthL,Va.depth,ih]
theorem Xa:∀ (a b:List Va),Va.depthL (a++b)=max (Va.depthL a) (Va.depthL b)
 | [],b=>by simp [Va.depthL]
 | x::a,b=>by simp [Va.depthL,Xa a b,Nat.max_assoc]
theorem Jg (x:Nt):Va.depth (JT x)≤16:=by
 unfold JT
 rw [Va.depth,Xa,zbN]
 simp [Va.depthL,Va.depth,zbN]
structure NtM (I:Qv)(x:Nt):Prop where
 nd:Nd I x.pt
 nn:x.pt.n≤100000
 ok:Va.ok (JT x)
 len:(JR x).length≤900000
theorem NtM.mono {I I':Qv}{x:Nt}(h:NtM I x)(hI:HLe I I'):NtM I' x:=⟨h.nd.mono hI,h.nn,h.ok,h.len⟩
def zuZ (a b:ByteArray):Int:=Lib.compareBytes a.data.toList b.data.toList
def YN (x y:Nt):Int:=zuZ (XA x) (XA y)
def zcg (pre:List Nt)(x:Nt):Bool:= !Q7 x||(match pre.getLast? with | none=>false | some y=>decide (YN y x≥0))
def zak:List Nt→List Nt→Bool
 | _,[]=>true
 | pre,x::l=> !zcg pre x&&zak (pre++[x]) l
def Z9 (xs:List Nt):Bool:=zak [] xs&&decide (xs.length≤4096)
theorem Wa:∀ (xs pre:List Nt),zak pre xs=true↔ ∀ j y,xs[j]? =some y→zcg (pre++xs.take j) y=false
 | [],pre=>by simp [zak]
 | x::l,pre=>by
  rw [zak,Bool.and_eq_true,Wa l]
  constructor
  ·
   rintro ⟨h1,h2⟩ j y hy
   cases j with
   | zero=>cases hy;simpa using h1
   | succ j=>have:=h2 j y hy;simpa [List.append_assoc] using this
  ·
   intro h
   refine ⟨by have:=h 0 x rfl;simpa using this,fun j y hy=>?_⟩
   have:=h (j+1) y hy
   simpa [List.append_assoc] using this
theorem zdZ {xs:List Nt}{k:Nat}{x:Nt}(hx:xs[k]? =some x)(h:zcg (xs.take k) x=true):Z9 xs=false:=by
 unfold Z9
 cases hg:zak [] xs with
 | false=>rfl
 | true=>
  have:=(Wa xs []).1 hg k x hx
  rw [List.nil_append,h] at this;cases this
theorem zgc {xs:List Nt}(h:∀ j y,j<xs.length→xs[j]? =some y→zcg (xs.take j) y=false):Z9 xs=decide ((xs.length:Int)≤4096):=by
 unfold Z9
 have:zak [] xs=true:=(Wa xs []).2 fun j y hy=>by
  rw [List.nil_append];exact h j y (List.getElem?_eq_some_iff.1 hy).1 hy
 rw [this,Bool.true_and]
 simp only [decide_eq_decide];omega
theorem ziV {xs:List Nt}{k:Nat}{y:Nt}(hy:xs[k]? =some y):(xs.take (k+1)).getLast?=some y:=by
 rw [ZD hy];simp
structure UB (I:Qv)(av:Option Addr)(n c:Nat)(xs:List Nt):Prop where
 sl:Sl I 45 Zn av n c xs
 nd:∀ x∈xs,Nd I x.pt
 m:∀ x∈xs,Q7 x=true→NtM I x
theorem UB.mono {I I':Qv}{av:Option Addr}{n c:Nat}{xs:List Nt}(h:UB I av n c xs)(hI:HLe I I'):UB I' av n c xs:=⟨h.sl.mono hI,fun x hx=>(h.nd x hx).mono hI,fun x hx hf=>(h.m x hx hf).mono hI⟩
theorem zii {pre:List Nt}{x:Nt}(h:Q7 x=false):zcg pre x=true:=by simp [zcg,h]
theorem zfL {x:Nt}(h:Q7 x=true):zcg [] x=false:=by simp [zcg,h]
theorem Wp {xs:List Nt}{k:Nat}{x y:Nt}(h:Q7 x=true)(hk:0<k)(hy:xs[((k:Int)-1).toNat]? =some y):zcg (xs.take k) x=decide (YN y x≥0):=by
 have e:((k:Int)-1).toNat=k-1:=by omega
 rw [e] at hy
 have:=ziV hy
 rw [show k-1+1=k by omega] at this
 simp [zcg,h,this]
theorem zd0 {pre:List Nt}{x:Nt}(h:zcg pre x=false):Q7 x=true:=by
 unfold zcg at h
 cases hf:Q7 x with
 | true=>rfl
 | false=>rw [hf] at h;simp at h
end
section
open Go Go.Kn Go.Proofs
theorem UA:QP Tryz.prog 43 6 6:=.of (by kernel_rfl)
theorem Uv:QP Tryz.prog 43 7 7:=.of (by kernel_rfl)
theorem ziU:Fun Tryz.prog 129:=.of Tryz.func129 (by kernel_rfl) (by kernel_rfl)
theorem zfj:Fun Tryz.prog 150:=.of Tryz.func150 (by kernel_rfl) (by kernel_rfl)
theorem zeN:Fun Tryz.prog 151:=.of Tryz.func151 (by kernel_rfl) (by kernel_rfl)
theorem zkH {I:Qv}(x:Nt)(hN:Nd I x.pt)(hnn:x.pt.n≤100000)(hok:Va.ok (JT x))(hb:(JR x).length≤900000):Yb Tryz.prog 79 [JL x] I (.string (XA x)):=by
 intro g H w hw
 refine qe Tryz.func79 Tryz.ntmps79 hw ?_
 have hIc:=zwQ I
 refine zR ?_
 refine Zd rfl rfl rfl (fun b_1=>?_)
 refine zA (Qb ?_)
 refine QN .here (fun I1 hI1 hb1=>?_)
 have hN:=hN.mono hI1;have hIc:=hIc.trans hI1
 have h1:=BxI.of hb1
 refine Qc (zR ?_)
 refine QC (cap:=[]) (vs:=[_]) rfl rfl zfj .nil (zlD (xs:=[]) Sl.nil (by decide)) rfl rfl ?_
 rintro vv2 I2 L2 hI2 ⟨sv1,rfl,rfl,hO1⟩
 have hN:=hN.mono hI2;have h1:=h1.mono hI2;have hIc:=hIc.trans hI2
 obtain ⟨a1,c1,rfl⟩:=hO1.shape
 refine Qs YX rfl rfl (fun b_3=>?_)
 refine zh ZS ?_
 refine zN (Qr (Qr ?_))
 refine zsn (_++[_]) (List.perm_append_singleton _ _) ?_
 refine Qk ?_
 refine qcV (vs:=[_]) rfl ziU (zgB _ _) ?_
 refine zM (zN (QE ?_))
 refine zU [(1,_),(3,_),(9,_)] (fun T L0 mz E I' loc'=>∃ (k:Nat) (v:Value) (L:Go.Kn.Loc),mz=42-k∧E=(10,.int .i64 k)::T∧I2=I'∧L++[(b_3,.cells #[.int .i64 3,.int .i64 0,.string ⟨#[]⟩,v] 158 (0,0))]=loc'∧k≤42∧Ym 158 4 v k ((((VI x).take k).map vcI).flatMap Zp) L) ?_ (h:=⟨0,_,_,rfl,rfl,rfl,rfl,Nat.zero_le _,by rw [List.append_nil];exact hO1⟩)
 rintro mz E I' loc' ⟨k,v,L,rfl,rfl,rfl,rfl,hk,hO⟩
 refine zR (zC (zN (Qr ?_)))
 refine zI ?_ ?_<;>intro hc11
 ·
  have hlt_k:k<42:=by have h:=hc11;simp at h;omega
  obtain ⟨y,hy⟩:∃ y,(VI x)[k]? =some y:=⟨_,List.getElem?_eq_getElem (by rw [YP];omega)⟩
  refine Qw (Qc (Qr (QE (zR ?_))))
  refine zV (JX rfl rfl zfb Ue (fun hg=>by omega) (fun hg=>show (zqS b_1)[((k:Int)).toNat*1]? =some (.pointer (some ⟨b_1,zhF.getD k 0,none⟩)) by rw [Nat.mul_one,Int.toNat_natCast];exact zjj (by omega))) ?_
  refine zA (zN ?_)
  have hD:=zwQ I2
  refine ZK ?_
  refine QZ I2 [] mixed ?_
  refine zT 0 rfl (Qa rfl Q6) hD ?_
  refine zT 2 rfl (Qh rfl) hD ?_
  refine zT 3 rfl (QM rfl) hD ?_
  refine zT 4 rfl (Qd rfl Qy (fun hg=>by exact zi8 h1 hy)) hD ?_
  refine zT 5 rfl (Q0 (ps:=[(0,_),(1,_)]) [_,_,_,_] Kj rfl rfl) hD ?_
  refine Q8 1 6 rfl rfl (by kernel_rfl) ?_ ?_
  ·
   refine zV (Qd rfl ZI (fun hg=>by (repeat (first | exact zwL rfl | apply zwK | apply zwM)))) ?_
   refine Qb ?_
   refine zD hD ?_
   refine qd 6 rfl ?_
   refine Ql (ps:=[(0,_)]) (m:=[Zp (vcI y)]) ZQ rfl (.cons rfl (.nil)) rfl (by simp [ZB]) (by decide) (by decide) rfl rfl (fun b_19=>?_)
   refine Qb ?_
   refine zD hD ?_
   refine qd 7 rfl ?_
   refine QW (v:=_) (ys:=([vcI y]:List Vc).flatMap Zp) (L:=L) rfl rfl ZQ hO (by repeat (first | exact .cons .here .nil | exact Qu | exact Qq | apply Qo | apply Qn)) ⟨rfl,fun _=>rfl,by repeat (first | exact zwO | apply zwN | apply zwP)⟩ (VX [vcI y]) (by omega) rfl rfl ?_
   intro v2 L2 hO2 _;rw [←List.flatMap_append] at hO2;obtain ⟨a2,c2,rfl⟩:=hO2.shape
   refine Qb ?_
   refine zD hD ?_
   refine zT 8 rfl (Qa rfl Q6) hD ?_
   refine qd 9 rfl ?_
   refine Zg rfl rfl Y5 rfl rfl (by (repeat (first | exact Upd.here | apply Upd.there | apply Qx))) rfl ?_
   refine Qb ?_
   refine zD hD ?_
   refine Qm (by kernel_rfl) ?_
   refine QA ?_
   refine Qp (Qc (Qk (zB ?_)))
   refine zM (Qb ?_)
   exact zm (h:=⟨42-(k+1),by omega,k+1,_,_,rfl,rfl,rfl,rfl,by omega,by rw [ZD hy,List.map_append];exact hO2⟩)
  refine Ql (ps:=[(0,_)]) (m:=[Zp (vcI y)]) ZQ rfl (.cons rfl (.nil)) rfl (by simp [ZB]) (by decide) (by decide) rfl rfl (fun b_19=>?_)
  refine Qb ?_
  refine zD hD ?_
  refine qd 1 rfl ?_
  refine zV (Qd rfl ZI (fun hg=>by (repeat (first | exact zwL rfl | apply zwK | apply zwM)))) ?_
  refine Qb ?_
  refine zD hD ?_
  refine qd 7 rfl ?_
  refine QW (v:=_) (ys:=([vcI y]:List Vc).flatMap Zp) (L:=L) rfl rfl ZQ hO (by repeat (first | exact .cons .here .nil | exact Qu | exact Qq | apply Qo | apply Qn)) ⟨rfl,fun _=>rfl,by repeat (first | exact zwO | apply zwN | apply zwP)⟩ (VX [vcI y]) (by omega) rfl rfl ?_
  intro v2 L2 hO2 _;rw [←List.flatMap_append] at hO2;obtain ⟨a2,c2,rfl⟩:=hO2.shape
  refine Qb ?_
  refine zD hD ?_
  refine zT 8 rfl (Qa rfl Q6) hD ?_
  refine qd 9 rfl ?_
  refine Zg rfl rfl Y5 rfl rfl (by (repeat (first | exact Upd.here | apply Upd.there | apply Qx))) rfl ?_
  refine Qb ?_
  refine zD hD ?_
  refine Qm (by kernel_rfl) ?_
  refine QA ?_
  refine Qp (Qc (Qk (zB ?_)))
  refine zM (Qb ?_)
  exact zm (h:=⟨42-(k+1),by omega,k+1,_,_,rfl,rfl,rfl,rfl,by omega,by rw [ZD hy,List.map_append];exact hO2⟩)
 have hge_k:42≤k:=by have h:=hc11;simp at h;omega
 obtain rfl:k=42:=by omega
 obtain ⟨a3,c3,rfl⟩:=hO.shape
 have hke:(VI x).take 42=VI x:=rfl
 rw [hke] at hO
 refine ZC (Qt (Qt (QD (Qc (Qr ?_)))))
 have hD:=zwQ I2
 refine ZK ?_
 refine QZ I2 [] mixed ?_
 refine zT 0 rfl (Qa rfl Q6) hD ?_
 refine zT 2 rfl (Qa rfl Vw) hD ?_
 refine zT 3 rfl (Qa rfl Y7) hD ?_
 refine zT 4 rfl (Qd rfl Ke (fun hg=>by exact QG.imm h1.out rfl)) hD ?_
 refine zT 6 rfl (Qa rfl YR) hD ?_
 refine zT 7 rfl (Qa rfl UA) hD ?_
 refine zT 8 rfl (Qd rfl JJ (fun hg=>by exact QG.imm h1.out rfl)) hD ?_
 refine zT 9 rfl (Q0 (ps:=[(0,_),(2,_)]) [_,_,_,_] Kj rfl rfl) hD ?_
 refine zT 10 rfl (Qa rfl YR) hD ?_
 refine zT 11 rfl (Qa rfl Uv) hD ?_
 refine zT 12 rfl (Qd rfl JJ (fun hg=>by exact QG.imm h1.out rfl)) hD ?_
 refine zT 13 rfl (Q0 (ps:=[(0,_),(2,_)]) [_,_,_,_] Kj rfl rfl) hD ?_
 refine Q8 1 5 rfl rfl (by kernel_rfl) ?_ ?_
 ·
  refine zV (Qd rfl ZI (fun hg=>by (repeat (first | exact zwL rfl | apply zwK | apply zwM)))) ?_
  refine Qb ?_
  refine zD hD ?_
  refine qd 5 rfl ?_
  refine QC (cap:=[]) (vs:=[_]) rfl rfl zfj .nil (zlD hN hnn) rfl rfl ?_
  rintro vv4 I4 L4 hI4 ⟨sv7,rfl,rfl,hO7⟩
  have hIc:=hIc.trans hI4;have hD:=hD.trans hI4
  obtain ⟨a7,c7,rfl⟩:=hO7.shape
  refine Qb ?_
  refine zD hD ?_
  refine qd 14 rfl ?_
  refine Ql (ps:=[(0,_),(1,_),(2,_)]) (m:=[Zp ⟨3,0,⟨#[]⟩,a7,x.pt.n,c7⟩,Zp (vcT x.rt.name),Zp (vcT x.rt.town)]) ZQ rfl (.cons rfl (.cons rfl (.cons rfl (.nil)))) rfl (by simp [ZB]) (by decide) (by decide) rfl rfl (fun b_37=>?_)
  refine Qb ?_
  refine zD hD ?_
  refine qd 15 rfl ?_
  refine QW (v:=_) (ys:=([⟨3,0,⟨#[]⟩,a7,x.pt.n,c7⟩,vcT x.rt.name,vcT x.rt.town]:List Vc).flatMap Zp) (L:=L) rfl rfl ZQ hO (by repeat (first | exact .cons .here .nil | exact Qu | exact Qq | apply Qo | apply Qn)) ⟨rfl,fun _=>rfl,by repeat (first | exact zwO | apply zwN | apply zwP)⟩ (VX [⟨3,0,⟨#[]⟩,a7,x.pt.n,c7⟩,vcT x.rt.name,vcT x.rt.town]) (by omega) rfl rfl ?_
  intro v8 L8 hO8 _;rw [←List.flatMap_append] at hO8;obtain ⟨a8,c8,rfl⟩:=hO8.shape
  refine Qb ?_
  refine zD hD ?_
  refine zT 16 rfl (Qa rfl Q6) hD ?_
  refine qd 17 rfl ?_
  refine Zg rfl rfl Y5 rfl rfl (by (repeat (first | exact Upd.here | apply Upd.there | apply Qx))) rfl ?_
  refine Qb ?_
  refine zD hD ?_
  refine Qm (by kernel_rfl) ?_
  refine QA ?_
  refine Qc (Qr ?_)
  refine Zv hO7 ZB (by decide) (by repeat (first | exact .cons .here .nil | exact Qu | exact Qq | apply Qo | apply Qn)) (fun I5 hI5 af5 cf5 ef5 hM7=>?_)
  cases ef5
  have hIc:=hIc.trans hI5
  refine Zv hO8 ZB (by decide) (by repeat (first | exact .cons .here .nil | exact Qu | exact Qq | apply Qo | apply Qn)) (fun I6 hI6 af6 cf6 ef6 hM8=>?_)
  cases ef6
  have hM7:=hM7.mono hI6;have hIc:=hIc.trans hI6
  refine Qk ?_
  refine zV (Qg rfl ZJ (fun hg=>by exact Cells.g1) rfl) ?_
  refine QC (cap:=[]) (vs:=[_]) rfl rfl zeN .nil (zc8 (x:=JT x) (cv:=⟨3,0,⟨#[]⟩,a8,45,c8⟩) (U5 hM7 hM8) (Jg x) hok hb) rfl rfl ?_
  rintro vv7 I7 L7 hI7 ⟨bv,rfl,hOb⟩
  have hIc:=hIc.trans hI7
  refine zM ?_
  refine zE ?_
  refine zE ?_
  refine zA ?_
  refine zA (zN (Qr ?_))
  refine Zv hOb ZW (by decide) (by repeat (first | exact .cons .here .nil | exact Qu | exact Qq | apply Qo | apply Qn)) (fun I8 hI8 af8 cf8 ef8 hB=>?_)
  subst ef8
  have hIc:=hIc.trans hI8
  refine Qk (zM ?_)
  refine zV (ZG rfl bst (fun hg=>hB)) ?_
  refine zA (zN (QF ?_))
  exact zp hIc rfl rfl (by rfl)
 refine QC (cap:=[]) (vs:=[_]) rfl rfl zfj .nil (zlD hN hnn) rfl rfl ?_
 rintro vv9 I9 L9 hI9 ⟨sv7,rfl,rfl,hO7⟩
 have hIc:=hIc.trans hI9;have hD:=hD.trans hI9
 obtain ⟨a7,c7,rfl⟩:=hO7.shape
 refine Qb ?_
 refine zD hD ?_
 refine Q8 1 14 rfl rfl (by kernel_rfl) ?_ ?_
 ·
  refine zV (Qd rfl ZI (fun hg=>by (repeat (first | exact zwL rfl | apply zwK | apply zwM)))) ?_
  refine Qb ?_
  refine zD hD ?_
  refine qd 14 rfl ?_
  refine Ql (ps:=[(0,_),(1,_),(2,_)]) (m:=[Zp ⟨3,0,⟨#[]⟩,a7,x.pt.n,c7⟩,Zp (vcT x.rt.name),Zp (vcT x.rt.town)]) ZQ rfl (.cons rfl (.cons rfl (.cons rfl (.nil)))) rfl (by simp [ZB]) (by decide) (by decide) rfl rfl (fun b_37=>?_)
  refine Qb ?_
  refine zD hD ?_
  refine qd 15 rfl ?_
  refine QW (v:=_) (ys:=([⟨3,0,⟨#[]⟩,a7,x.pt.n,c7⟩,vcT x.rt.name,vcT x.rt.town]:List Vc).flatMap Zp) (L:=L) rfl rfl ZQ hO (by repeat (first | exact .cons .here .nil | exact Qu | exact Qq | apply Qo | apply Qn)) ⟨rfl,fun _=>rfl,by repeat (first | exact zwO | apply zwN | apply zwP)⟩ (VX [⟨3,0,⟨#[]⟩,a7,x.pt.n,c7⟩,vcT x.rt.name,vcT x.rt.town]) (by omega) rfl rfl ?_
  intro v8 L8 hO8 _;rw [←List.flatMap_append] at hO8;obtain ⟨a8,c8,rfl⟩:=hO8.shape
  refine Qb ?_
  refine zD hD ?_
  refine zT 16 rfl (Qa rfl Q6) hD ?_
  refine qd 17 rfl ?_
  refine Zg rfl rfl Y5 rfl rfl (by (repeat (first | exact Upd.here | apply Upd.there | apply Qx))) rfl ?_
  refine Qb ?_
  refine zD hD ?_
  refine Qm (by kernel_rfl) ?_
  refine QA ?_
  refine Qc (Qr ?_)
  refine Zv hO7 ZB (by decide) (by repeat (first | exact .cons .here .nil | exact Qu | exact Qq | apply Qo | apply Qn)) (fun I10 hI10 af10 cf10 ef10 hM7=>?_)
  cases ef10
  have hIc:=hIc.trans hI10
  refine Zv hO8 ZB (by decide) (by repeat (first | exact .cons .here .nil | exact Qu | exact Qq | apply Qo | apply Qn)) (fun I11 hI11 af11 cf11 ef11 hM8=>?_)
  cases ef11
  have hM7:=hM7.mono hI11;have hIc:=hIc.trans hI11
  refine Qk ?_
  refine zV (Qg rfl ZJ (fun hg=>by exact Cells.g1) rfl) ?_
  refine QC (cap:=[]) (vs:=[_]) rfl rfl zeN .nil (zc8 (x:=JT x) (cv:=⟨3,0,⟨#[]⟩,a8,45,c8⟩) (U5 hM7 hM8) (Jg x) hok hb) rfl rfl ?_
  rintro vv12 I12 L12 hI12 ⟨bv,rfl,hOb⟩
  have hIc:=hIc.trans hI12
  refine zM ?_
  refine zE ?_
  refine zE ?_
  refine zA ?_
  refine zA (zN (Qr ?_))
  refine Zv hOb ZW (by decide) (by repeat (first | exact .cons .here .nil | exact Qu | exact Qq | apply Qo | apply Qn)) (fun I13 hI13 af13 cf13 ef13 hB=>?_)
  subst ef13
  have hIc:=hIc.trans hI13
  refine Qk (zM ?_)
  refine zV (ZG rfl bst (fun hg=>hB)) ?_
  refine zA (zN (QF ?_))
  exact zp hIc rfl rfl (by rfl)
 refine Ql (ps:=[(0,_),(1,_),(2,_)]) (m:=[Zp ⟨3,0,⟨#[]⟩,a7,x.pt.n,c7⟩,Zp (vcT x.rt.name),Zp (vcT x.rt.town)]) ZQ rfl (.cons rfl (.cons rfl (.cons rfl (.nil)))) rfl (by simp [ZB]) (by decide) (by decide) rfl rfl (fun b_37=>?_)
 refine Qb ?_
 refine zD hD ?_
 refine qd 1 rfl ?_
 refine zV (Qd rfl ZI (fun hg=>by (repeat (first | exact zwL rfl | apply zwK | apply zwM)))) ?_
 refine Qb ?_
 refine zD hD ?_
 refine qd 15 rfl ?_
 refine QW (v:=_) (ys:=([⟨3,0,⟨#[]⟩,a7,x.pt.n,c7⟩,vcT x.rt.name,vcT x.rt.town]:List Vc).flatMap Zp) (L:=L) rfl rfl ZQ hO (by repeat (first | exact .cons .here .nil | exact Qu | exact Qq | apply Qo | apply Qn)) ⟨rfl,fun _=>rfl,by repeat (first | exact zwO | apply zwN | apply zwP)⟩ (VX [⟨3,0,⟨#[]⟩,a7,x.pt.n,c7⟩,vcT x.rt.name,vcT x.rt.town]) (by omega) rfl rfl ?_
 intro v8 L8 hO8 _;rw [←List.flatMap_append] at hO8;obtain ⟨a8,c8,rfl⟩:=hO8.shape
 refine Qb ?_
 refine zD hD ?_
 refine zT 16 rfl (Qa rfl Q6) hD ?_
 refine qd 17 rfl ?_
 refine Zg rfl rfl Y5 rfl rfl (by (repeat (first | exact Upd.here | apply Upd.there | apply Qx))) rfl ?_
 refine Qb ?_
 refine zD hD ?_
 refine Qm (by kernel_rfl) ?_
 refine QA ?_
 refine Qc (Qr ?_)
 refine Zv hO7 ZB (by decide) (by repeat (first | exact .cons .here .nil | exact Qu | exact Qq | apply Qo | apply Qn)) (fun I14 hI14 af14 cf14 ef14 hM7=>?_)
 cases ef14
 have hIc:=hIc.trans hI14
 refine Zv hO8 ZB (by decide) (by repeat (first | exact .cons .here .nil | exact Qu | exact Qq | apply Qo | apply Qn)) (fun I15 hI15 af15 cf15 ef15 hM8=>?_)
 cases ef15
 have hM7:=hM7.mono hI15;have hIc:=hIc.trans hI15
 refine Qk ?_
 refine zV (Qg rfl ZJ (fun hg=>by exact Cells.g1) rfl) ?_
 refine QC (cap:=[]) (vs:=[_]) rfl rfl zeN .nil (zc8 (x:=JT x) (cv:=⟨3,0,⟨#[]⟩,a8,45,c8⟩) (U5 hM7 hM8) (Jg x) hok hb) rfl rfl ?_
 rintro vv16 I16 L16 hI16 ⟨bv,rfl,hOb⟩
 have hIc:=hIc.trans hI16
 refine zM ?_
 refine zE ?_
 refine zE ?_
 refine zA ?_
 refine zA (zN (Qr ?_))
 refine Zv hOb ZW (by decide) (by repeat (first | exact .cons .here .nil | exact Qu | exact Qq | apply Qo | apply Qn)) (fun I17 hI17 af17 cf17 ef17 hB=>?_)
 subst ef17
 have hIc:=hIc.trans hI17
 refine Qk (zM ?_)
 refine zV (ZG rfl bst (fun hg=>hB)) ?_
 refine zA (zN (QF ?_))
 exact zp hIc rfl rfl (by rfl)
end
section
open Go Go.Kn Go.Proofs
theorem Yi:QP Tryz.prog 59 0 0:=.of (by kernel_rfl)
theorem za3:Fun Tryz.prog 108:=.of Tryz.func108 (by kernel_rfl) (by kernel_rfl)
theorem zrG:Fun Tryz.prog 154:=.of Tryz.func154 (by kernel_rfl) (by kernel_rfl)
theorem zdz:Fun Tryz.prog 79:=.of Tryz.func79 (by kernel_rfl) (by kernel_rfl)
theorem zdi:Fun Tryz.prog 81:=.of Tryz.func81 (by kernel_rfl) (by kernel_rfl)
theorem VU:ScT Tryz.prog 57:=.of (by kernel_rfl)
theorem VY:SzT Tryz.prog 45 45:=.of (by kernel_rfl)
theorem Wm:Ve Tryz.prog 45 (.agg #[(.int .i64 0),(.int .i64 0),(.int .i64 0),(.int .i64 0),(.int .i64 0),(.int .i64 0),(.int .i64 0),(.int .i64 0),(.int .i64 0),(.int .i64 0),(.int .i64 0),(.int .i64 0),(.int .i64 0),(.int .i64 0),(.int .i64 0),(.int .i64 0),(.int .i64 0),(.int .i64 0),(.int .i64 0),(.int .i64 0),(.int .i64 0),(.int .i64 0),(.int .i64 0),(.int .i64 0),(.int .i64 0),(.int .i64 0),(.int .i64 0),(.int .i64 0),(.slice none 0 0),(.int .i64 0),(.int .i64 0),(.int .i64 0),(.int .i64 0),(.int .i64 0),(.int .i64 0),(.int .i64 0),(.int .i64 0),(.int .i64 0),(.int .i64 0),(.int .i64 0),(.string ⟨#[]⟩),(.string ⟨#[]⟩),(.int .i64 0),(.int .i64 0),(.int .i64 0)]):=.of (by kernel_rfl)
theorem zuy (I:Qv)(a b:ByteArray):Yb Tryz.prog 154 [.string a,.string b] I (.int .i64 (zuZ a b)):=fun _g _H w hw=>(Tryz.strings_Compare a b w).mono fun _e _w' ⟨h1,h2⟩=>⟨h1,h2 ▸ hw⟩
theorem zdg {I:Qv}{x y:Nt}(hX:NtM I x)(hY:NtM I y):Yb Tryz.prog 81 [JL x,JL y] I (.int .i64 (YN x y)):=by
 intro g H w hw
 refine qe Tryz.func81 Tryz.ntmps81 hw ?_
 have hIc:=zwQ I
 refine zR ?_
 refine Zd rfl rfl rfl (fun b_2=>?_)
 refine Zd rfl rfl rfl (fun b_3=>?_)
 refine zA (Qb ?_)
 refine QN .here (fun I1 hI1 hb1=>?_)
 have hX:=hX.mono hI1;have hY:=hY.mono hI1;have hIc:=hIc.trans hI1
 have h2:=BxI.of hb1
 refine QN .here (fun I2 hI2 hb2=>?_)
 have hX:=hX.mono hI2;have hY:=hY.mono hI2;have h2:=h2.mono hI2;have hIc:=hIc.trans hI2
 have h1:=BxI.of hb2
 refine Qc (Qr ?_)
 have hD:=zwQ I2
 refine ZK ?_
 refine QZ I2 [] mixed ?_
 refine zT 0 rfl (Qg rfl Zr (fun hg=>by exact BxI.cells (vs:=Zn x) h1) rfl) hD ?_
 refine zT 2 rfl (Qg rfl Zr (fun hg=>by exact BxI.cells (vs:=Zn y) h2) rfl) hD ?_
 refine qd 1 rfl ?_
 refine qcV (vs:=[_]) rfl zdz (zkH x hX.nd hX.nn hX.ok hX.len) ?_
 refine Qb ?_
 refine zD hD ?_
 refine qd 3 rfl ?_
 refine qcV (vs:=[_]) rfl zdz (zkH y hY.nd hY.nn hY.ok hY.len) ?_
 refine Qb ?_
 refine zD hD ?_
 refine qd 4 rfl ?_
 refine qcV (vs:=[_,_]) rfl zrG (zuy _ _ _) ?_
 refine Qb ?_
 refine zD hD ?_
 refine zT 5 rfl (QB rfl) hD ?_
 refine Qm (by kernel_rfl) ?_
 refine QA ?_
 refine Qc (QF ?_)
 exact zp hIc rfl rfl (by rfl)
theorem zeB {I:Qv}{av:Option Addr}{n c:Nat}{xs:List Nt}(hP:UB I av n c xs)(hn:n≤100000):Yb Tryz.prog 61 [.agg #[.slice av n c]] I (.bool (Z9 xs)):=by
 intro g H w hw
 refine qe Tryz.func61 Tryz.ntmps61 hw ?_
 have hIc:=zwQ I
 have hln:=hP.sl.len
 refine zR ?_
 refine Zd rfl rfl rfl (fun b_1=>?_)
 refine zA (Qb ?_)
 refine QN .here (fun I1 hI1 hb1=>?_)
 have hP:=hP.mono hI1;have hIc:=hIc.trans hI1
 have h1:=BxI.of hb1
 refine Qc (Qr (zR ?_))
 refine zF Yi ?_
 refine zV (Qd rfl VU (fun hg=>by exact QG.imm h1.out rfl)) ?_
 refine zQ Zu ?_
 refine zM (zN (QE ?_))
 refine zU [(1,_),(6,_),(7,_)] (fun T L0 mz E I' loc'=>∃ (k:Nat),mz=n-k∧E=(8,.int .i64 k)::T∧HLe I1 I'∧L0=loc'∧k≤n∧(∀ j y,j<k→xs[j]? =some y→zcg (xs.take j) y=false)) ?_ (h:=⟨0,rfl,rfl,zwQ _,rfl,Nat.zero_le _,fun j y h=>absurd h (Nat.not_lt_zero _)⟩)
 rintro mz E J2 loc' ⟨k,rfl,rfl,hJ,rfl,hk,hall⟩
 have hP:=hP.mono hJ;have h1:=h1.mono hJ;have hIc:=hIc.trans hJ
 have hB0:=hJ
 refine zR (zC (zN (Qr ?_)))
 refine zI ?_ ?_<;>intro hc9
 ·
  have hlt_k:k<n:=by have h:=hc9;simp at h;omega
  obtain ⟨x,hx⟩:∃ x,xs[k]? =some x:=⟨_,List.getElem?_eq_getElem (by omega)⟩
  have hxm:x∈xs:=List.mem_of_getElem? hx
  refine Qw (Qc (Qr (QE (zR (zM ?_)))))
  refine zV (QX rfl rfl Zu hP.sl (fun hg=>by omega)) ?_
  refine zV (Qg rfl Zr (fun hg=>by exact zwR hP.sl hx) rfl) ?_
  refine Qs Wm rfl rfl (fun b_4=>?_)
  refine zA ?_
  refine zh VY ?_
  refine Qb ?_
  refine QN .here (fun I3 hI3 hb3=>?_)
  have hP:=hP.mono hI3;have h1:=h1.mono hI3;have hIc:=hIc.trans hI3;have hB0:=hB0.trans hI3
  have h4:=BxI.of hb3
  refine Qc (Qr ?_)
  rcases (show Q7 x=false∨(Q7 x=true∧k=0)∨(Q7 x=true∧0<k) by cases Q7 x<;>simp<;>omega) with hf | ⟨hf,hk⟩ | ⟨hf,hk⟩
  ·
   have hD:=zwQ I3
   refine ZK ?_
   refine QZ I3 [] mixed ?_
   refine zT 0 rfl (Qg rfl Zr (fun hg=>by exact BxI.cells (vs:=Zn x) h4) rfl) hD ?_
   refine qd 1 rfl ?_
   refine qcV (vs:=[_]) rfl za3 (Kt x (hP.nd x hxm)) ?_
   refine Qb ?_
   refine zD hD ?_
   refine zT 2 rfl (Yz rfl) hD ?_
   rw [hf]
   refine zT 3 rfl (Qh rfl) hD ?_
   refine zW 4 16 hD ?_
   refine zW 5 16 hD ?_
   refine zW 6 16 hD ?_
   refine zW 7 19 hD ?_
   refine zW 8 19 hD ?_
   refine zW 9 19 hD ?_
   refine zW 10 19 hD ?_
   refine zW 11 19 hD ?_
   refine zW 12 19 hD ?_
   refine zW 13 19 hD ?_
   refine zW 14 19 hD ?_
   refine zW 15 19 hD ?_
   refine zW 16 16 hD ?_
   refine zT 17 rfl (Kh rfl rfl rfl) hD ?_
   refine Qm (by kernel_rfl) ?_
   refine QA ?_
   refine Qc ?_
   refine zI ?_ ?_<;>intro hc30
   ·
    have hbad:=zii (pre:=xs.take k) hf
    refine zR (zA (zN (QF (Qz (Qi (Qi (Qz ?_)))))))
    refine Qi ?_
    exact zp hIc rfl rfl (by rw [zdZ hx hbad])
   cases hc30
  ·
   have hk0:decide ((k:Int)>0)=false:=by simp;omega
   have hD:=zwQ I3
   refine ZK ?_
   refine QZ I3 [] mixed ?_
   refine zT 0 rfl (Qg rfl Zr (fun hg=>by exact BxI.cells (vs:=Zn x) h4) rfl) hD ?_
   refine qd 1 rfl ?_
   refine qcV (vs:=[_]) rfl za3 (Kt x (hP.nd x hxm)) ?_
   refine Qb ?_
   refine zD hD ?_
   refine zT 2 rfl (Yz rfl) hD ?_
   rw [hf]
   refine zT 3 rfl (Qh rfl) hD ?_
   refine zw 4 16 rfl (Qh rfl) hD ?_
   refine zw 5 16 rfl (QV rfl rfl rfl) hD ?_
   rw [hk0]
   refine zw 6 16 rfl (Qh rfl) hD ?_
   refine zW 7 19 hD ?_
   refine zW 8 19 hD ?_
   refine zW 9 19 hD ?_
   refine zW 10 19 hD ?_
   refine zW 11 19 hD ?_
   refine zW 12 19 hD ?_
   refine zW 13 19 hD ?_
   refine zW 14 19 hD ?_
   refine zW 15 19 hD ?_
   refine zw 16 16 rfl (Kh rfl rfl rfl) hD ?_
   refine zT 17 rfl (Zz rfl rfl rfl) hD ?_
   refine Qm (by kernel_rfl) ?_
   refine QA ?_
   refine Qc ?_
   refine zI ?_ ?_<;>intro hc30
   ·
    cases hc30
   have hbad:zcg (xs.take k) x=false:=by rw [hk];exact zfL hf
   refine Qw (Qp (Qc (Qk (zB ?_))))
   refine zM (Qb ?_)
   exact zm (h:=⟨n-(k+1),by omega,k+1,rfl,rfl,hB0,rfl,by omega,KD hx hall hbad⟩)
  have hk0:decide ((k:Int)>0)=true:=by simp;omega
  obtain ⟨y,hy⟩:∃ y,xs[((k:Int)-1).toNat]? =some y:=⟨_,List.getElem?_eq_getElem (by omega)⟩
  have hym:y∈xs:=List.mem_of_getElem? hy
  have hfy:=zd0 (hall _ y (by omega) hy)
  have hD:=zwQ I3
  refine ZK ?_
  refine QZ I3 [] mixed ?_
  refine zT 0 rfl (Qg rfl Zr (fun hg=>by exact BxI.cells (vs:=Zn x) h4) rfl) hD ?_
  refine qd 1 rfl ?_
  refine qcV (vs:=[_]) rfl za3 (Kt x (hP.nd x hxm)) ?_
  refine Qb ?_
  refine zD hD ?_
  refine zT 2 rfl (Yz rfl) hD ?_
  rw [hf]
  refine zT 3 rfl (Qh rfl) hD ?_
  refine zw 4 16 rfl (Qh rfl) hD ?_
  refine zw 5 16 rfl (QV rfl rfl rfl) hD ?_
  rw [hk0]
  refine zw 6 16 rfl (Qh rfl) hD ?_
  refine zw 7 19 rfl (Qa rfl Yi) hD ?_
  refine zw 8 19 rfl (Qd rfl VU (fun hg=>by exact QG.imm h1.out rfl)) hD ?_
  refine zw 9 19 rfl (Qh rfl) hD ?_
  refine zw 10 19 rfl (VZ rfl rfl rfl (fun hg=>by omega)) hD ?_
  refine zw 11 19 rfl (QX rfl rfl Zu hP.sl (fun hg=>by omega)) hD ?_
  refine zw 12 19 rfl (Qg rfl Zr (fun hg=>by exact zwR hP.sl hy) rfl) hD ?_
  refine zw 13 19 rfl (Qg rfl Zr (fun hg=>by exact BxI.cells (vs:=Zn x) h4) rfl) hD ?_
  refine qd 14 rfl ?_
  refine Q2 (dj:=19) rfl rfl rfl ?_
  refine qcV (vs:=[_,_]) rfl zdi (zdg (hP.m y hym hfy) (hP.m x hxm hf)) ?_
  refine Qb ?_
  refine zD hD ?_
  refine zw 15 19 rfl (QV rfl rfl rfl) hD ?_
  refine zw 16 16 rfl (Zz rfl rfl rfl) hD ?_
  refine zT 17 rfl (Zz rfl rfl rfl) hD ?_
  refine Qm (by kernel_rfl) ?_
  refine QA ?_
  refine Qc ?_
  refine zI ?_ ?_<;>intro hc30
  ·
   have hbad:zcg (xs.take k) x=true:=(Wp hf hk hy).trans hc30
   refine zR (zA (zN (QF (Qz (Qi (Qi (Qz ?_)))))))
   refine Qi ?_
   exact zp hIc rfl rfl (by rw [zdZ hx hbad])
  have hbad:zcg (xs.take k) x=false:=(Wp hf hk hy).trans hc30
  refine Qw (Qp (Qc (Qk (zB ?_))))
  refine zM (Qb ?_)
  exact zm (h:=⟨n-(k+1),by omega,k+1,rfl,rfl,hB0,rfl,by omega,KD hx hall hbad⟩)
 have hge_k:n≤k:=by have h:=hc9;simp at h;omega
 refine ZC (Qt (Qt (QD (Qc (zR ?_)))))
 refine zF Yi ?_
 refine zV (Qd rfl VU (fun hg=>by exact QG.imm h1.out rfl)) ?_
 refine zQ Zu ?_
 refine zC ?_
 refine zA (zN (QF ?_))
 exact zp hIc rfl rfl (by rw [zgc (fun j y hj hy=>hall j y (by omega) hy),hln])
end
section
open Go Go.Kn Go.Proofs
structure Pk where
 frm:Int
 to_:Int
 a:Option Addr
 n:Nat
 c:Nat
 data:List Nat
def ZN (x:Pk):List Value:=[.int .i64 x.frm,.int .i64 x.to_,.slice x.a x.n x.c]
def K5 (x:Pk):Value:=.agg (ZN x).toArray
theorem Zj (x:Pk):(ZN x).length=3:=rfl
def JS (l:Int×Int):List Value:=[.int .i64 l.1,.int .i64 l.2]
def lkV (a b:Int):Bool:=(decide (a≥0)&&decide (a<b))&&decide (b<24)
def pkV (x:Pk):Bool:=lkV (zn1 x.frm x.to_) (zdX x.frm x.to_)&&decide ((x.n:Int)≤1048576)
def KZ:List Int→List Int→Int
 | [],[]=>0
 | [],_::_=> -1
 | _::_,[]=>1
 | x::xs,y::ys=>if zez x y=0 then KZ xs ys else zez x y
theorem zhv {xs ys:List Int}{k:Nat}{x y:Int}(hx:xs[k]? =some x)(hy:ys[k]? =some y)(h:zez x y=0):KZ (xs.drop k) (ys.drop k)=KZ (xs.drop (k+1)) (ys.drop (k+1)):=by
 obtain ⟨h1,e1⟩:=List.getElem?_eq_some_iff.1 hx
 obtain ⟨h2,e2⟩:=List.getElem?_eq_some_iff.1 hy
 rw [List.drop_eq_getElem_cons h1,List.drop_eq_getElem_cons h2,e1,e2,KZ,if_pos h]
theorem ziZ {xs ys:List Int}{k:Nat}{x y:Int}(hx:xs[k]? =some x)(hy:ys[k]? =some y)(h:zez x y≠0):KZ (xs.drop k) (ys.drop k)=zez x y:=by
 obtain ⟨h1,e1⟩:=List.getElem?_eq_some_iff.1 hx
 obtain ⟨h2,e2⟩:=List.getElem?_eq_some_iff.1 hy
 rw [List.drop_eq_getElem_cons h1,List.drop_eq_getElem_cons h2,e1,e2,KZ,if_neg h]
theorem zmH {xs ys:List Int}{k:Nat}{x:Int}(hx:xs[k]? =some x)(h:ys.length≤k):KZ (xs.drop k) (ys.drop k)=1:=by
 obtain ⟨h1,e1⟩:=List.getElem?_eq_some_iff.1 hx
 rw [List.drop_eq_getElem_cons h1,List.drop_eq_nil_of_le h,KZ]
theorem zny {xs ys:List Int}{k:Nat}(h:xs.length≤k)(h2:k<ys.length):KZ (xs.drop k) (ys.drop k)= -1:=by
 rw [List.drop_eq_nil_of_le h,List.drop_eq_getElem_cons h2,KZ]
theorem znK {xs ys:List Int}{k:Nat}(h:xs.length≤k)(h2:ys.length≤k):KZ (xs.drop k) (ys.drop k)=0:=by
 rw [List.drop_eq_nil_of_le h,List.drop_eq_nil_of_le h2,KZ]
theorem zrJ {I:Qv}{av:Option Addr}{n c k:Nat}{ks:List (Int×Int)}{l:Int×Int}(h:Sl I 2 JS av n c ks)(hk:ks[k]? =some l):Sl I 1 Yg (some ⟨Ab av,Ao av+k*2,none⟩) 2 2 [l.1,l.2]:=
 ⟨rfl,Nat.le_refl _,fun _=>rfl,fun i x hx j u hu=>by
  have h2:=h.cells k l hk i u (by
   match i,j,hx,hu with
   | 0,0,hx,hu=>cases hx;cases hu;rfl
   | 1,0,hx,hu=>cases hx;cases hu;rfl
   | 0,_+1,hx,hu=>cases hu
   | 1,_+1,hx,hu=>cases hu
   | _+2,_,hx,hu=>cases hx)
  have hj:j=0:=by
   match j,hu with
   | 0,_=>rfl
   | _+1,hu=>cases hu
  subst hj
  show QG I [] (Ab av) (Ao av+k*2+i*1+0) u
  rw [Nat.mul_one,Nat.add_zero];exact h2⟩
def zgk (pre:List (Int×Int))(l:Int×Int):Bool:= !lkV l.1 l.2||(match pre.getLast? with | none=>false | some y=>decide (KZ [y.1,y.2] [l.1,l.2]≥0))
def zeJ:List (Int×Int)→List (Int×Int)→Bool
 | _,[]=>true
 | pre,x::l=> !zgk pre x&&zeJ (pre++[x]) l
def KX (qs:List Pk)(ks:List (Int×Int)):Int:=if decide ((qs.length:Int)>4096)||qs.any (fun x=> !pkV x) then 60 else if zeJ [] ks then 0 else 60
theorem zaF:∀ (xs pre:List (Int×Int)),zeJ pre xs=true↔ ∀ j y,xs[j]? =some y→zgk (pre++xs.take j) y=false
 | [],pre=>by simp [zeJ]
 | x::l,pre=>by
  rw [zeJ,Bool.and_eq_true,zaF l]
  constructor
  ·
   rintro ⟨h1,h2⟩ j y hy
   cases j with
   | zero=>cases hy;simpa using h1
   | succ j=>have:=h2 j y hy;simpa [List.append_assoc] using this
  ·
   intro h
   refine ⟨by have:=h 0 x rfl;simpa using this,fun j y hy=>?_⟩
   have:=h (j+1) y hy
   simpa [List.append_assoc] using this
theorem zmk {qs:List Pk}{ks:List (Int×Int)}(h:(decide ((qs.length:Int)>4096)||qs.any (fun x=> !pkV x))=true):KX qs ks=60:=if_pos h
theorem zgw {qs:List Pk}{ks:List (Int×Int)}{k:Nat}{x:Int×Int}(h:(decide ((qs.length:Int)>4096)||qs.any (fun x=> !pkV x))=false)(hx:ks[k]? =some x)(hb:zgk (ks.take k) x=true):KX qs ks=60:=by
 unfold KX
 rw [h,if_neg (by simp)]
 cases hg:zeJ [] ks with
 | false=>rfl
 | true=>
  have:=(zaF ks []).1 hg k x hx
  rw [List.nil_append,hb] at this;cases this
theorem zh8 {qs:List Pk}{ks:List (Int×Int)}(h:(decide ((qs.length:Int)>4096)||qs.any (fun x=> !pkV x))=false)(hall:∀ j y,j<ks.length→ks[j]? =some y→zgk (ks.take j) y=false):KX qs ks=0:=by
 unfold KX
 rw [h,if_neg (by simp),if_pos ((zaF ks []).2 fun j y hy=>by rw [List.nil_append];exact hall j y (List.getElem?_eq_some_iff.1 hy).1 hy)]
theorem zh3 {pre:List (Int×Int)}{x:Int×Int}(h:lkV x.1 x.2=false):zgk pre x=true:=by simp [zgk,h]
theorem zmZ {x:Int×Int}(h:lkV x.1 x.2=true):zgk [] x=false:=by simp [zgk,h]
theorem zdJ {xs:List (Int×Int)}{k:Nat}{x y:Int×Int}(h:lkV x.1 x.2=true)(hk:0<k)(hy:xs[((k:Int)-1).toNat]? =some y):zgk (xs.take k) x=decide (KZ [y.1,y.2] [x.1,x.2]≥0):=by
 have e:((k:Int)-1).toNat=k-1:=by omega
 rw [e] at hy
 have hl:(xs.take k).getLast?=some y:=by
  rw [show k=k-1+1 by omega,ZD hy];simp
 simp [zgk,h,hl]
def zaq:Pk:=⟨0,0,none,0,0,[]⟩
def atE (qs:List Pk)(ks:List (Int×Int))(i:Int):Int:=if KX qs ks != 0 then 60 else if decide (i<0)||decide (i≥(qs.length:Int)) then 1 else 0
def atP (qs:List Pk)(ks:List (Int×Int))(i:Int):Pk:=if atE qs ks i=0 then qs.getD i.toNat zaq else zaq
theorem zwz {qs:List Pk}{ks:List (Int×Int)}{i:Int}(h:(KX qs ks != 0)=true):atE qs ks i=60∧atP qs ks i=zaq:=by
 have:atE qs ks i=60:=by unfold atE;rw [h];rfl
 exact ⟨this,by unfold atP;rw [this];rfl⟩
theorem zv9 {qs:List Pk}{ks:List (Int×Int)}{i:Int}(h:(KX qs ks != 0)=false)(h2:(decide (i<0)||decide (i≥(qs.length:Int)))=true):atE qs ks i=1∧atP qs ks i=zaq:=by
 have:atE qs ks i=1:=by unfold atE;rw [h,h2];rfl
 exact ⟨this,by unfold atP;rw [this];rfl⟩
theorem zvH {qs:List Pk}{ks:List (Int×Int)}{i:Int}{x:Pk}(h:(KX qs ks != 0)=false)(h2:(decide (i<0)||decide (i≥(qs.length:Int)))=false)(hx:qs[i.toNat]? =some x):atE qs ks i=0∧atP qs ks i=x:=by
 have:atE qs ks i=0:=by unfold atE;rw [h,h2];rfl
 exact ⟨this,by unfold atP;rw [this,if_pos rfl,List.getD_eq_getElem?_getD,hx];rfl⟩
def zqb:Value:=.agg #[.slice none 0 0,.slice none 0 0]
theorem zcp {qs:List Pk}{ks:List (Int×Int)}{i:Int}(h:atE qs ks i=0):0≤i∧i<(qs.length:Int):=by
 unfold atE at h
 split at h
 ·
  cases h
 ·
  split at h
  ·
   cases h
  ·
   rename_i h2;simp at h2;omega
def zu5 (v y:Int×Int):Bool:=v.1==y.1&&v.2==y.2
def zoD (ks:List (Int×Int))(p:Pk):Bool:=ks.any (zu5 (zn1 p.frm p.to_,zdX p.frm p.to_))
def KW (qs:List Pk)(ks:List (Int×Int))(x:Pk):Int:=if (KX qs ks != 0|| !pkV x)=true then 60 else if ((qs.length:Int)==4096)=true then 2 else 0
theorem zsz {qs:List Pk}{ks:List (Int×Int)}{x:Pk}(h:(KX qs ks != 0|| !pkV x)=true):KW qs ks x=60:=if_pos h
theorem zsT {qs:List Pk}{ks:List (Int×Int)}{x:Pk}(h:(KX qs ks != 0|| !pkV x)=false)(h2:((qs.length:Int)==4096)=true):KW qs ks x=2:=by unfold KW;rw [h,h2];rfl
theorem zhX {qs:List Pk}{ks:List (Int×Int)}{x:Pk}(h:(KX qs ks != 0|| !pkV x)=false)(h2:((qs.length:Int)==4096)=false):KW qs ks x=0:=by unfold KW;rw [h,h2];rfl
def zhP (I:Qv)(e:Int)(a:Option Addr)(m c:Nat)(a2:Option Addr)(m2 c2:Nat)(qs:List Pk)(aa:Option Addr)(an ac:Nat):Prop:=
 (e≠0∧a=none∧m=0∧c=0∧a2=none∧m2=0∧c2=0)∨(e=0∧a2=aa∧m2=an∧c2=ac∧Sl I 3 ZN a m c qs)
theorem zhP.mono {I I':Qv}{e:Int}{a a2 aa:Option Addr}{m c m2 c2 an ac:Nat}{qs:List Pk}(h:zhP I e a m c a2 m2 c2 qs aa an ac)(hI:HLe I I'):zhP I' e a m c a2 m2 c2 qs aa an ac:=h.imp id fun ⟨h1,h2,h3,h4,h5⟩=>⟨h1,h2,h3,h4,h5.mono hI⟩
theorem WY {I:Qv}{e:Int}{aa:Option Addr}{an ac:Nat}{qs:List Pk}(h:e≠0):zhP I e none 0 0 none 0 0 qs aa an ac:=.inl ⟨h,rfl,rfl,rfl,rfl,rfl,rfl⟩
theorem zcc {I:Qv}{e:Int}{a aa:Option Addr}{m c an ac:Nat}{qs:List Pk}(h:e=0)(hS:Sl I 3 ZN a m c qs):zhP I e a m c aa an ac qs aa an ac:=.inr ⟨h,rfl,rfl,rfl,hS⟩
def UE (qs:List Pk)(ks:List (Int×Int))(i:Int):Int:=if atE qs ks i=0 then KW qs ks (atP qs ks i) else atE qs ks i
def V7 (qs:List Pk)(ks:List (Int×Int))(i:Int):Pk:=if zoD ks (atP qs ks i)=true then zaq else atP qs ks i
theorem zlW {qs:List Pk}{ks:List (Int×Int)}{i:Int}(h:zoD ks (atP qs ks i)=true):V7 qs ks i=zaq:=if_pos h
theorem zpC {qs:List Pk}{ks:List (Int×Int)}{i:Int}(h:zoD ks (atP qs ks i)=false):V7 qs ks i=atP qs ks i:=if_neg (by rw [h];simp)
theorem zhP.ok {I:Qv}{e:Int}{a a2 aa:Option Addr}{m c m2 c2 an ac:Nat}{qs:List Pk}(h:zhP I e a m c a2 m2 c2 qs aa an ac)(he:e=0):a2=aa∧m2=an∧c2=ac∧Sl I 3 ZN a m c qs:=by
 rcases h with ⟨h,_⟩ | ⟨_,h⟩
 ·
  exact absurd he h
 ·
  exact h
structure Ev where
 kind:Int
 peer:Int
 to_:Int
 at_:Int
 note:Nt
def zaB (x:Ev):List Value:=.int .i64 x.kind:: .int .i64 x.peer:: .int .i64 x.to_:: .int .i64 x.at_::Zn x.note
theorem zme (x:Ev):(zaB x).length=49:=rfl
end
section
open Go Go.Kn Go.Proofs
theorem zpq:AgT Tryz.prog 180 2:=.of (by kernel_rfl)
theorem VB:AgT Tryz.prog 99 3:=.of (by kernel_rfl)
theorem zaP:ArT Tryz.prog 180 2 3 1:=.of (by kernel_rfl)
theorem Uj:QP Tryz.prog 99 0 0:=.of (by kernel_rfl)
theorem KI:QP Tryz.prog 99 1 1:=.of (by kernel_rfl)
theorem Ul:QP Tryz.prog 99 2 2:=.of (by kernel_rfl)
theorem zjQ:Fun Tryz.prog 125:=.of Tryz.func125 (by kernel_rfl) (by kernel_rfl)
theorem zce:Fun Tryz.prog 126:=.of Tryz.func126 (by kernel_rfl) (by kernel_rfl)
theorem zkf:Fun Tryz.prog 179:=.of Tryz.func179 (by kernel_rfl) (by kernel_rfl)
theorem zo2:Fun Tryz.prog 182:=.of Tryz.func182 (by kernel_rfl) (by kernel_rfl)
theorem Zl:SlT Tryz.prog 23 99 3:=.of (by kernel_rfl)
theorem zq9:SzT Tryz.prog 180 2:=.of (by kernel_rfl)
theorem znX:Ve Tryz.prog 180 (.agg #[(.int .i64 0),(.int .i64 0)]):=.of (by kernel_rfl)
theorem zeb (I:Qv)(a b:Int):Yb Tryz.prog 179 [.int .i64 a,.int .i64 b] I (.agg #[.int .i64 (zn1 a b),.int .i64 (zdX a b)]):=by
 intro g H w hw
 refine qe Tryz.func179 Tryz.ntmps179 hw ?_
 refine zR ?_
 refine Qs znX rfl rfl (fun b_4=>?_)
 refine zN (zR ?_)
 refine zM ?_
 refine zM ?_
 refine zV (zsR rfl rfl) ?_
 refine zM ?_
 refine zM ?_
 refine zV (Vo rfl rfl) ?_
 refine zV (Vs (ps:=[(0,_),(1,_)]) [_,_] zaP znX rfl rfl) ?_
 refine zh zq9 ?_
 refine zN (QF ?_)
 exact Y6 rfl rfl zpq zwO rfl (fun w hw=>⟨by rfl,hw.drop⟩)
theorem zmU (I:Qv)(a b:Int):Yb Tryz.prog 126 [.agg #[.int .i64 a,.int .i64 b]] I (.bool (lkV a b)):=by
 intro g H w hw
 refine qe Tryz.func126 Tryz.ntmps126 hw ?_
 refine zR ?_
 refine Zd rfl rfl rfl (fun b_1=>?_)
 refine zA ?_
 refine zN (zR ?_)
 refine zV (ZZ rfl rfl zaP (fun hg=>by decide)) ?_
 refine zL Qy ?_
 refine zC ?_
 refine zM ?_
 refine QL 3 rfl rfl rfl ?_
 refine zK (ZZ rfl rfl zaP (fun hg=>by decide)) ?_
 refine zK (Qd rfl Qy (fun hg=>by exact QG.h0 rfl)) ?_
 refine zK (ZZ rfl rfl zaP (fun hg=>by decide)) ?_
 refine zK (Qd rfl Qy (fun hg=>by exact QG.h0 rfl)) ?_
 refine zK (QV rfl rfl rfl) ?_
 refine QU rfl rfl rfl rfl rfl ?_
 refine zM ?_
 refine QL 10 rfl rfl rfl ?_
 refine zK (ZZ rfl rfl zaP (fun hg=>by decide)) ?_
 refine zK (Qd rfl Qy (fun hg=>by exact QG.h0 rfl)) ?_
 refine zK (QV rfl rfl rfl) ?_
 refine QU rfl rfl rfl rfl rfl ?_
 refine zA (zN (QF ?_))
 exact zr rfl rfl (by rfl)
theorem zf9 (I:Qv)(x:Pk):Yb Tryz.prog 125 [K5 x] I (.bool (pkV x)):=by
 intro g H w hw
 refine qe Tryz.func125 Tryz.ntmps125 hw ?_
 refine zR ?_
 refine Zd rfl rfl rfl (fun b_1=>?_)
 refine zA ?_
 refine zN (zR ?_)
 refine zF Uj ?_
 refine zL Qy ?_
 refine zF KI ?_
 refine zL Qy ?_
 refine qcV (vs:=[_,_]) rfl zkf (zeb _ _ _) ?_
 refine qcV (vs:=[_]) rfl zce (zmU _ _ _) ?_
 refine zM ?_
 refine QL 6 rfl rfl rfl ?_
 refine zK (Qa rfl Ul) ?_
 refine zK (Qd rfl KT (fun hg=>by exact QG.h0 rfl)) ?_
 refine zK (Zc rfl JI) ?_
 refine zK (QV rfl rfl rfl) ?_
 refine QU rfl rfl rfl rfl rfl ?_
 refine zA (zN (QF ?_))
 exact zr rfl rfl (by rfl)
theorem zrP (I:Qv)(x:Pk):Yb Tryz.prog 124 [K5 x] I (.bool (!pkV x)):=by
 intro g H w hw
 refine qe Tryz.func124 Tryz.ntmps124 hw ?_
 refine zR ?_
 refine Zd rfl rfl rfl (fun b_1=>?_)
 refine zA ?_
 refine zN (zR ?_)
 refine zV (Qg rfl VB (fun hg=>by exact Cells.g0) rfl) ?_
 refine qcV (vs:=[_]) rfl zjQ (zf9 _ x) ?_
 refine zO ?_
 refine zA (zN (QF ?_))
 exact zr rfl rfl (by rfl)
theorem zsk {I:Qv}{av:Option Addr}{n c:Nat}{xs:List Pk}(hS:Sl I 3 ZN av n c xs)(hn:n≤100000){fid:Nat}{cap:List Value}{P:Pk→Bool}(hF:Fun Tryz.prog fid)(hf:∀ x∈xs,Yb Tryz.prog fid ([K5 x]++cap) I (.bool (P x))):Yb Tryz.prog 182 [.slice av n c,.func (.func fid) #[] cap.toArray] I (.int .i64 (zl0 P xs)):=by
 intro g H w hw
 refine qe Tryz.func182 Tryz.ntmps182 hw ?_
 refine zR (zA (zN (Qr (zR ?_))))
 refine zM ?_
 refine zQ Zl ?_
 refine zM (zN (QE ?_))
 refine zU [(0,_),(1,_),(7,_)] (fun T L0 mz E I' loc'=>∃ (k:Nat),mz=n-k∧E=(8,.int .i64 k)::T∧I=I'∧L0=loc'∧k≤n∧(xs.take k).any P=false) ?_ (h:=⟨0,rfl,rfl,rfl,rfl,Nat.zero_le _,rfl⟩)
 rintro mz E I' loc' ⟨k,rfl,rfl,rfl,rfl,hk,hno⟩
 refine zR (zC (zN (Qr ?_)))
 refine zI ?_ ?_<;>intro hc9
 ·
  have hlt_k:k<n:=by have h:=hc9;simp at h;omega
  obtain ⟨x,hx⟩:=hS.at hlt_k
  refine Qw (Qc (Qr (QE (zR (zM ?_)))))
  refine zA ?_
  refine zN (zR ?_)
  refine zM ?_
  refine zM ?_
  refine zM ?_
  refine zV (QX rfl rfl Zl (by assumption) (fun hg=>by omega)) ?_
  refine zV (Qg rfl VB (fun hg=>by exact zwR hS hx) rfl) ?_
  refine zae (cap:=cap) (vs:=[_]) rfl rfl hF (hf x (List.mem_of_getElem? hx)) rfl rfl ?_
  refine zN ?_
  refine zI ?_ ?_<;>intro hc16
  ·
   refine zR (zM ?_)
   refine zA (zN (QF (Qz (Qi (Qi (Qz (Qi ?_)))))))
   exact zr rfl rfl (by rw [zft hno hx hc16])
  refine Qw (Qp (Qc (Qk (zB ?_))))
  refine zM (Qb ?_)
  exact zm (h:=⟨n-(k+1),by omega,k+1,rfl,rfl,rfl,rfl,by omega,zbY hx hno hc16⟩)
 have hge_k:n≤k:=by have h:=hc9;simp at h;omega
 refine ZC (Qt (Qt (QD (Qc (zR (zA (zN ?_)))))))
 refine QF ?_
 exact zr rfl rfl (by rw [zch hS.len hge_k hno])
theorem zsm {I:Qv}{av:Option Addr}{n c:Nat}{xs:List Pk}(hS:Sl I 3 ZN av n c xs)(hn:n≤100000){fid:Nat}{cap:List Value}{P:Pk→Bool}(hF:Fun Tryz.prog fid)(hf:∀ x∈xs,Yb Tryz.prog fid ([K5 x]++cap) I (.bool (P x))):Yb Tryz.prog 123 [.slice av n c,.func (.func fid) #[] cap.toArray] I (.bool (xs.any P)):=by
 intro g H w hw
 refine qe Tryz.func123 Tryz.ntmps123 hw ?_
 refine zR (zA ?_)
 refine zN (zR ?_)
 refine zM ?_
 refine zM ?_
 refine qcV (vs:=[_,_]) rfl zo2 (zsk hS hn hF hf) ?_
 refine zC ?_
 refine zA (zN (QF ?_))
 exact zr rfl rfl (by rw [←zeA])
theorem zrV {I:Qv}{av bv:Option Addr}{n c m d:Nat}{xs ys:List Int}(hS:Sl I 1 Yg av n c xs)(hT:Sl I 1 Yg bv m d ys)(hn:n≤100000)(_hm:m≤100000):Yb Tryz.prog 127 [.slice av n c,.slice bv m d] I (.int .i64 (KZ xs ys)):=by
 intro g H w hw
 refine qe Tryz.func127 Tryz.ntmps127 hw ?_
 have hln:=hS.len
 have hlm:=hT.len
 refine zR (zA (zN (Qr (zR ?_))))
 refine zM ?_
 refine zQ Yl ?_
 refine zM (zN (QE ?_))
 refine zU [(0,_),(1,_),(9,_),(10,_)] (fun T L0 mz E I' loc'=>∃ (k:Nat),mz=n-k∧E=(11,.int .i64 k)::T∧I=I'∧L0=loc'∧k≤n∧KZ xs ys=KZ (xs.drop k) (ys.drop k)) ?_ (h:=⟨0,rfl,rfl,rfl,rfl,Nat.zero_le _,rfl⟩)
 rintro mz E I' loc' ⟨k,rfl,rfl,rfl,rfl,hk,hI⟩
 refine zR (zC (zN (Qr ?_)))
 refine zI ?_ ?_<;>intro hc12
 ·
  have hlt_k:k<n:=by have h:=hc12;simp at h;omega
  obtain ⟨x,hx⟩:=hS.at hlt_k
  refine Qw (Qc (Qr (QE (zR (zM ?_)))))
  refine zV (zX Yl hS) ?_
  refine zV (Qd rfl Qy (fun hg=>by exact zwJ hS hx rfl)) ?_
  refine zA ?_
  refine zA (zN (Qr (zR ?_)))
  refine zM ?_
  refine zM ?_
  refine zQ Yl ?_
  refine zC (zN ?_)
  refine zI ?_ ?_<;>intro hc19
  ·
   have h19:m≤k:=by have h:=hc19;simp at h;omega
   refine zR (zA (zN (QF (Qi (Qz (Qi (Qi ?_)))))))
   refine Qz (Qi ?_)
   exact zr rfl rfl (by rw [hI,zmH hx (by omega)])
  have h19:k<m:=by have h:=hc19;simp at h;omega
  obtain ⟨y,hy⟩:=hT.at h19
  refine Qw (Qc (zR (zM ?_)))
  refine zM ?_
  refine zV (zX Yl hT) ?_
  refine zV (Qd rfl Qy (fun hg=>by exact zwJ hT hy rfl)) ?_
  refine zA ?_
  refine zN (zR ?_)
  refine zM ?_
  refine zM ?_
  refine qcV (vs:=[_,_]) rfl zib (zpH I _ _) ?_
  refine zA ?_
  refine zN (zR ?_)
  refine zM ?_
  refine zC (zN ?_)
  refine zI ?_ ?_<;>intro hc28
  ·
   refine zR (zM ?_)
   refine zA (zN (QF (Qz (Qi (Qi (Qz (Qi ?_)))))))
   exact zr rfl rfl (by rw [hI,ziZ hx hy (by simpa using hc28)])
  refine Qw (Qp (Qc (Qk (zB ?_))))
  refine zM (Qb ?_)
  exact zm (h:=⟨n-(k+1),by omega,k+1,rfl,rfl,rfl,rfl,by omega,hI.trans (zhv hx hy (by simpa using hc28))⟩)
 have hge_k:n≤k:=by have h:=hc12;simp at h;omega
 refine ZC (Qt (Qt (QD (Qc (Qr (zR (zM ?_)))))))
 refine zQ Yl ?_
 refine zM ?_
 refine zQ Yl ?_
 refine zC (zN ?_)
 refine zI ?_ ?_<;>intro hc35
 ·
  have h35:n<m:=by have h:=hc35;simp at h;omega
  refine zR (zA (zN (QF (Qi ?_))))
  exact zr rfl rfl (by rw [hI,zny (by omega) (by omega)])
 have h35:m≤n:=by have h:=hc35;simp at h;omega
 refine Qw (Qc (zR (zA (zN (QF ?_)))))
 exact zr rfl rfl (by rw [hI,znK (by omega) (by omega)])
end
section
open Go Go.Kn Go.Proofs
theorem KC:AgT Tryz.prog 179 2:=.of (by kernel_rfl)
theorem ziY:ArT Tryz.prog 179 2 3 1:=.of (by kernel_rfl)
theorem Zi:QP Tryz.prog 26 0 0:=.of (by kernel_rfl)
theorem Kc:QP Tryz.prog 26 1 1:=.of (by kernel_rfl)
theorem zpe:Fun Tryz.prog 123:=.of Tryz.func123 (by kernel_rfl) (by kernel_rfl)
theorem zrl:Fun Tryz.prog 124:=.of Tryz.func124 (by kernel_rfl) (by kernel_rfl)
theorem zpc:Fun Tryz.prog 127:=.of Tryz.func127 (by kernel_rfl) (by kernel_rfl)
theorem Zo:ScT Tryz.prog 23:=.of (by kernel_rfl)
theorem Xx:ScT Tryz.prog 24:=.of (by kernel_rfl)
theorem UJ:SlT Tryz.prog 24 179 2:=.of (by kernel_rfl)
theorem zpn:SzT Tryz.prog 179 2:=.of (by kernel_rfl)
theorem ztA:Ve Tryz.prog 179 (.agg #[(.int .i64 0),(.int .i64 0)]):=.of (by kernel_rfl)
theorem zja {I:Qv}{qa aa:Option Addr}{qn qc an ac:Nat}{qs:List Pk}{ks:List (Int×Int)}(hQ:Sl I 3 ZN qa qn qc qs)(hqn:qn≤100000)(hA:Sl I 2 JS aa an ac ks)(han:an≤100000):Yb Tryz.prog 60 [.agg #[.slice qa qn qc,.slice aa an ac]] I (.int .i64 (KX qs ks)):=by
 intro g H w hw
 refine qe Tryz.func60 Tryz.ntmps60 hw ?_
 have hIc:=zwQ I
 have hlq:=hQ.len
 have hla:=hA.len
 refine zR ?_
 refine Zd rfl rfl rfl (fun b_1=>?_)
 refine zA (Qb ?_)
 refine QN .here (fun I1 hI1 hb1=>?_)
 have hQ:=hQ.mono hI1;have hA:=hA.mono hI1;have hIc:=hIc.trans hI1
 have h1:=BxI.of hb1
 refine Qc (Qr (zR ?_))
 refine zF Zi ?_
 refine zV (Qd rfl Zo (fun hg=>by exact QG.imm h1.out rfl)) ?_
 refine zQ Zl ?_
 refine zC ?_
 refine zM ?_
 refine Ze 4 rfl rfl rfl ?_
 refine zJ (Qa rfl Zi) ?_
 refine zJ (Qd rfl Zo (fun hg=>by exact QG.imm h1.out rfl)) ?_
 refine qf (vs:=[_,_]) rfl zpe (fun hg=>zsm (P:=fun x=> !pkV x) hQ hqn zrl (cap:=[]) (fun x _=>zrP _ x)) ?_
 refine ZP rfl rfl rfl rfl rfl ?_
 refine zN ?_
 refine zI ?_ ?_<;>intro hc13
 ·
  have h13:(decide ((qs.length:Int)>4096)||qs.any (fun x=> !pkV x))=true:=by rw [hlq];exact hc13
  refine zR (zA (zN (QF (Qi ?_))))
  exact zp hIc rfl rfl (by rw [zmk h13])
 have h13:(decide ((qs.length:Int)>4096)||qs.any (fun x=> !pkV x))=false:=by rw [hlq];exact hc13
 refine Qw (Qc (Qr (zR ?_)))
 refine zF Kc ?_
 refine zV (Qd rfl Xx (fun hg=>by exact QG.imm h1.out rfl)) ?_
 refine zQ UJ ?_
 refine zM (zN (QE ?_))
 refine zU [(1,_),(15,_),(16,_)] (fun T L0 mz E I' loc'=>∃ (k:Nat),mz=an-k∧E=(17,.int .i64 k)::T∧HLe I1 I'∧L0=loc'∧k≤an∧(∀ j y,j<k→ks[j]? =some y→zgk (ks.take j) y=false)) ?_ (h:=⟨0,rfl,rfl,zwQ _,rfl,Nat.zero_le _,fun j y h=>absurd h (Nat.not_lt_zero _)⟩)
 rintro mz E J2 loc' ⟨k,rfl,rfl,hJ,rfl,hk,hall⟩
 have hA:=hA.mono hJ;have h1:=h1.mono hJ;have hIc:=hIc.trans hJ
 have hB0:=hJ
 refine zR (zC (zN (Qr ?_)))
 refine zI ?_ ?_<;>intro hc18
 ·
  have hlt_k:k<an:=by have h:=hc18;simp at h;omega
  obtain ⟨x,hx⟩:∃ x,ks[k]? =some x:=⟨_,List.getElem?_eq_getElem (by omega)⟩
  refine Qw (Qc (Qr (QE (zR (zM ?_)))))
  refine zV (zX UJ hA) ?_
  refine zV (Qg rfl KC (fun hg=>by exact zwR hA hx) rfl) ?_
  refine Qs ztA rfl rfl (fun b_4=>?_)
  refine zA ?_
  refine zh zpn ?_
  refine Qb ?_
  refine QN .here (fun I3 hI3 hb3=>?_)
  have hA:=hA.mono hI3;have h1:=h1.mono hI3;have hIc:=hIc.trans hI3;have hB0:=hB0.trans hI3
  have h4:=BxI.of hb3
  refine Qc (Qr ?_)
  rcases (show lkV x.1 x.2=false∨(lkV x.1 x.2=true∧k=0)∨(lkV x.1 x.2=true∧0<k) by cases lkV x.1 x.2<;>simp<;>omega) with hf | ⟨hf,hk⟩ | ⟨hf,hk⟩
  ·
   have hD:=zwQ I3
   refine ZK ?_
   refine QZ I3 [] mixed ?_
   refine zT 0 rfl (Qg rfl KC (fun hg=>by exact BxI.cells (vs:=JS x) h4) rfl) hD ?_
   refine qd 1 rfl ?_
   refine qcV (vs:=[_]) rfl zce (zmU _ x.1 x.2) ?_
   refine Qb ?_
   refine zD hD ?_
   refine zT 2 rfl (Yz rfl) hD ?_
   rw [hf]
   refine zT 3 rfl (Qh rfl) hD ?_
   refine zW 4 25 hD ?_
   refine zW 5 25 hD ?_
   refine zW 6 25 hD ?_
   refine zW 7 28 hD ?_
   refine zW 8 28 hD ?_
   refine zW 9 28 hD ?_
   refine zW 10 28 hD ?_
   refine zW 11 28 hD ?_
   refine zW 12 28 hD ?_
   refine zW 13 28 hD ?_
   refine zW 14 28 hD ?_
   refine zW 15 28 hD ?_
   refine zW 16 25 hD ?_
   refine zT 17 rfl (Kh rfl rfl rfl) hD ?_
   refine Qm (by kernel_rfl) ?_
   refine QA ?_
   refine Qc ?_
   refine zI ?_ ?_<;>intro hc39
   ·
    have hbad:=zh3 (pre:=ks.take k) hf
    refine zR (zA (zN (QF (Qz (Qi (Qi (Qz ?_)))))))
    refine Qi ?_
    exact zp hIc rfl rfl (by rw [zgw h13 hx hbad])
   cases hc39
  ·
   have hk0:decide ((k:Int)>0)=false:=by simp;omega
   have hD:=zwQ I3
   refine ZK ?_
   refine QZ I3 [] mixed ?_
   refine zT 0 rfl (Qg rfl KC (fun hg=>by exact BxI.cells (vs:=JS x) h4) rfl) hD ?_
   refine qd 1 rfl ?_
   refine qcV (vs:=[_]) rfl zce (zmU _ x.1 x.2) ?_
   refine Qb ?_
   refine zD hD ?_
   refine zT 2 rfl (Yz rfl) hD ?_
   rw [hf]
   refine zT 3 rfl (Qh rfl) hD ?_
   refine zw 4 25 rfl (Qh rfl) hD ?_
   refine zw 5 25 rfl (QV rfl rfl rfl) hD ?_
   rw [hk0]
   refine zw 6 25 rfl (Qh rfl) hD ?_
   refine zW 7 28 hD ?_
   refine zW 8 28 hD ?_
   refine zW 9 28 hD ?_
   refine zW 10 28 hD ?_
   refine zW 11 28 hD ?_
   refine zW 12 28 hD ?_
   refine zW 13 28 hD ?_
   refine zW 14 28 hD ?_
   refine zW 15 28 hD ?_
   refine zw 16 25 rfl (Kh rfl rfl rfl) hD ?_
   refine zT 17 rfl (Zz rfl rfl rfl) hD ?_
   refine Qm (by kernel_rfl) ?_
   refine QA ?_
   refine Qc ?_
   refine zI ?_ ?_<;>intro hc39
   ·
    cases hc39
   have hbad:zgk (ks.take k) x=false:=by rw [hk];exact zmZ hf
   refine Qw (Qp (Qc (Qk (zB ?_))))
   refine zM (Qb ?_)
   exact zm (h:=⟨an-(k+1),by omega,k+1,rfl,rfl,hB0,rfl,by omega,KD hx hall hbad⟩)
  have hk0:decide ((k:Int)>0)=true:=by simp;omega
  obtain ⟨y,hy⟩:∃ y,ks[((k:Int)-1).toNat]? =some y:=⟨_,List.getElem?_eq_getElem (by omega)⟩
  have hB:Sl I3 1 Yg (some ⟨b_4,0,none⟩) 2 2 [x.1,x.2]:=Sl.lit [x.1,x.2] rfl Zw h4.out
  have hD:=zwQ I3
  refine ZK ?_
  refine QZ I3 [] mixed ?_
  refine zT 0 rfl (Qg rfl KC (fun hg=>by exact BxI.cells (vs:=JS x) h4) rfl) hD ?_
  refine qd 1 rfl ?_
  refine qcV (vs:=[_]) rfl zce (zmU _ x.1 x.2) ?_
  refine Qb ?_
  refine zD hD ?_
  refine zT 2 rfl (Yz rfl) hD ?_
  rw [hf]
  refine zT 3 rfl (Qh rfl) hD ?_
  refine zw 4 25 rfl (Qh rfl) hD ?_
  refine zw 5 25 rfl (QV rfl rfl rfl) hD ?_
  rw [hk0]
  refine zw 6 25 rfl (Qh rfl) hD ?_
  refine zw 7 28 rfl (Qa rfl Kc) hD ?_
  refine zw 8 28 rfl (Qd rfl Xx (fun hg=>by exact QG.imm h1.out rfl)) hD ?_
  refine zw 9 28 rfl (Qh rfl) hD ?_
  refine zw 10 28 rfl (VZ rfl rfl rfl (fun hg=>by omega)) hD ?_
  refine zw 11 28 rfl (zX UJ hA) hD ?_
  refine zw 12 28 rfl (zaQ rfl ziY) hD ?_
  refine zw 13 28 rfl (zaQ rfl ziY) hD ?_
  refine qd 14 rfl ?_
  refine Q2 (dj:=28) rfl rfl rfl ?_
  refine qcV (vs:=[_,_]) rfl zpc (zrV (zrJ hA hy) hB (by decide) (by decide)) ?_
  refine Qb ?_
  refine zD hD ?_
  refine zw 15 28 rfl (QV rfl rfl rfl) hD ?_
  refine zw 16 25 rfl (Zz rfl rfl rfl) hD ?_
  refine zT 17 rfl (Zz rfl rfl rfl) hD ?_
  refine Qm (by kernel_rfl) ?_
  refine QA ?_
  refine Qc ?_
  refine zI ?_ ?_<;>intro hc39
  ·
   have hbad:zgk (ks.take k) x=true:=(zdJ hf hk hy).trans hc39
   refine zR (zA (zN (QF (Qz (Qi (Qi (Qz ?_)))))))
   refine Qi ?_
   exact zp hIc rfl rfl (by rw [zgw h13 hx hbad])
  have hbad:zgk (ks.take k) x=false:=(zdJ hf hk hy).trans hc39
  refine Qw (Qp (Qc (Qk (zB ?_))))
  refine zM (Qb ?_)
  exact zm (h:=⟨an-(k+1),by omega,k+1,rfl,rfl,hB0,rfl,by omega,KD hx hall hbad⟩)
 have hge_k:an≤k:=by have h:=hc18;simp at h;omega
 refine ZC (Qt (Qt (QD (Qc (zR (zA (zN ?_)))))))
 refine QF ?_
 exact zp hIc rfl rfl (by rw [zh8 h13 (fun j y hj hy=>hall j y (by omega) hy)])
end
section
open Go Go.Kn Go.Proofs
theorem ZY:AgT Tryz.prog 26 2:=.of (by kernel_rfl)
theorem zkB:Fun Tryz.prog 60:=.of Tryz.func60 (by kernel_rfl) (by kernel_rfl)
theorem Jq:SzT Tryz.prog 99 3:=.of (by kernel_rfl)
theorem zby:Ve Tryz.prog 99 (.agg #[(.int .i64 0),(.int .i64 0),(.slice none 0 0)]):=.of (by kernel_rfl)
theorem zvM {I:Qv}{qa aa:Option Addr}{qn qc an ac:Nat}{qs:List Pk}{ks:List (Int×Int)}(hQ:Sl I 3 ZN qa qn qc qs)(hqn:qn≤100000)(hA:Sl I 2 JS aa an ac ks)(han:an≤100000)(i:Int):Yb Tryz.prog 177 [.agg #[.slice qa qn qc,.slice aa an ac],.int .i64 i] I (.tuple #[K5 (atP qs ks i),.int .i64 (atE qs ks i)]):=by
 intro g H w hw
 refine qe Tryz.func177 Tryz.ntmps177 hw ?_
 have hlq:=hQ.len
 refine zR ?_
 refine Zd rfl rfl rfl (fun b_2=>?_)
 refine Qs zby rfl rfl (fun b_4=>?_)
 refine zA (zN (Qr (zR ?_)))
 refine zV (Qg rfl ZY (fun hg=>by exact Cells.g1) rfl) ?_
 refine qcV (vs:=[_]) rfl zkB (zja hQ hqn hA han) ?_
 refine zC (zN ?_)
 refine zI ?_ ?_<;>intro hc8
 ·
  have h1:=zwz (i:=i) hc8
  refine zR ?_
  refine zV (Qg rfl VB (fun hg=>by exact Cells.g0) rfl) ?_
  refine zh Jq ?_
  refine zA (zN (QF (Qi ?_)))
  first
  | exact Z0 rfl rfl rfl VB zwO rfl (fun w hw=>⟨by rw [h1.1,h1.2];rfl,hw.drop.drop⟩)
 refine Qw (Qc (Qr (zR (zM ?_))))
 refine zC ?_
 refine zM ?_
 refine Ze 2 rfl rfl rfl ?_
 refine zJ (Qh rfl) ?_
 refine zJ (Qa rfl Zi) ?_
 refine zJ (Qd rfl Zo (fun hg=>by exact QG.h1 rfl)) ?_
 refine zJ (Zc rfl Zl) ?_
 refine zJ (QV rfl rfl rfl) ?_
 refine ZP rfl rfl rfl rfl rfl ?_
 refine zN ?_
 refine zI ?_ ?_<;>intro hc18
 ·
  have h2:=zv9 (i:=i) (ks:=ks) hc8 (by rw [hlq];exact hc18)
  refine zR ?_
  refine zV (Qg rfl VB (fun hg=>by exact Cells.g0) rfl) ?_
  refine zh Jq ?_
  refine zA (zN (QF (Qi ?_)))
  first
  | exact Z0 rfl rfl rfl VB zwO rfl (fun w hw=>⟨by rw [h2.1,h2.2];rfl,hw.drop.drop⟩)
 have h18:0≤i∧i<(qn:Int):=by have h:=hc18;simp at h;omega
 obtain ⟨x,hx⟩:∃ y,qs[i.toNat]? =some y:=⟨_,List.getElem?_eq_getElem (by omega)⟩
 have h3:=zvH (i:=i) (ks:=ks) hc8 (by rw [hlq];exact hc18) hx
 refine Qw (Qc (zR ?_))
 refine zF Zi ?_
 refine zL Zo ?_
 refine zM ?_
 refine zV (zX Zl hQ) ?_
 refine zV (Qg rfl VB (fun hg=>by exact zwR hQ hx) rfl) ?_
 refine zh Jq ?_
 refine zA (zN (QF ?_))
 first
 | exact Z0 rfl rfl rfl VB zwO rfl (fun w hw=>⟨by rw [h3.1,h3.2];rfl,hw.drop.drop⟩)
end
section
open Go Go.Kn Go.Proofs
theorem Z4:ElT Tryz.prog 23 99 3 40:=.of (by kernel_rfl)
theorem Y3:SzT Tryz.prog 23 1:=.of (by kernel_rfl)
theorem Yy:SzT Tryz.prog 26 2:=.of (by kernel_rfl)
theorem Ui:Ve Tryz.prog 26 (.agg #[(.slice none 0 0),(.slice none 0 0)]):=.of (by kernel_rfl)
theorem zab {I:Qv}{qa aa:Option Addr}{qn qc an ac:Nat}{qs:List Pk}{ks:List (Int×Int)}(hQ:Sl I 3 ZN qa qn qc qs)(hqn:qn≤100000)(_hA:Sl I 2 JS aa an ac ks)(_han:an≤100000){i:Int}(hi:0≤i∧i<(qn:Int)):Vl Tryz.prog 180 [.agg #[.slice qa qn qc,.slice aa an ac],.int .i64 i] I [] (fun v I' L'=>∃ a m c,v= .agg #[.slice a m c,.slice aa an ac]∧m+1=qn∧Sl I' 3 ZN a m c (qs.eraseIdx i.toNat)∧L'=[]):=by
 intro g H w hw
 refine qe Tryz.func180 Tryz.ntmps180 hw ?_
 have hIc:=zwQ I
 have hlq:=hQ.len
 have hcq:=hQ.cap
 refine zR ?_
 refine Zd rfl rfl rfl (fun b_2=>?_)
 refine Qs Ui rfl rfl (fun b_4=>?_)
 refine zN (Qr ?_)
 have hD:=zwQ I
 refine ZK ?_
 refine QZ I [] mixed ?_
 refine zT 0 rfl (Qa rfl Zi) hD ?_
 refine zT 2 rfl (Qh rfl) hD ?_
 refine zT 3 rfl (Qh rfl) hD ?_
 refine zT 5 rfl (Qa rfl Zi) hD ?_
 refine zT 7 rfl (Qh rfl) hD ?_
 refine zT 8 rfl (VZ rfl rfl rfl (fun hg=>by omega)) hD ?_
 refine Q8 1 6 rfl rfl (by kernel_rfl) ?_ ?_
 ·
  refine zL Zo ?_
  refine Qb ?_
  refine zD hD ?_
  refine zT 4 rfl (ZA rfl rfl rfl Zl (fun hg=>by omega)) hD ?_
  refine qd 6 rfl ?_
  refine zL Zo ?_
  refine Qb ?_
  refine zD hD ?_
  refine zT 9 rfl (Vh rfl rfl Zl (fun hg=>by omega)) hD ?_
  refine qd 10 rfl ?_
  refine Xj Zj (by decide) rfl rfl Z4 ((hQ.take (k:=i.toNat) (by omega)).cut) (hQ.drop (k:=(i+1).toNat) (by omega)) (by omega) rfl rfl ?_
  intro I1 ac cc hI1 hZ
  have hIc:=hIc.trans hI1;have hD:=hD.trans hI1
  refine Qb ?_
  refine zD hD ?_
  refine zT 11 rfl (Qa rfl Zi) hD ?_
  refine qd 12 rfl ?_
  refine zS Y3 ?_
  refine Qb ?_
  refine zD hD ?_
  refine Qm (by kernel_rfl) ?_
  refine QA ?_
  refine Qc (zR ?_)
  refine zV (Qg rfl ZY (fun hg=>by exact Cells.g1) rfl) ?_
  refine zh Yy ?_
  refine zN (QF ?_)
  exact Y6 rfl rfl ZY zwO rfl (fun w hw=>⟨_,I1,[],rfl,hIc,hw.drop.drop,_,_,_,rfl,by omega,by rw [List.eraseIdx_eq_take_drop_succ,show i.toNat+1=(i+1).toNat by omega];exact hZ,rfl⟩)
 refine zL Zo ?_
 refine Qb ?_
 refine zD hD ?_
 refine zT 9 rfl (Vh rfl rfl Zl (fun hg=>by omega)) hD ?_
 refine qd 1 rfl ?_
 refine zL Zo ?_
 refine Qb ?_
 refine zD hD ?_
 refine zT 4 rfl (ZA rfl rfl rfl Zl (fun hg=>by omega)) hD ?_
 refine qd 10 rfl ?_
 refine Xj Zj (by decide) rfl rfl Z4 ((hQ.take (k:=i.toNat) (by omega)).cut) (hQ.drop (k:=(i+1).toNat) (by omega)) (by omega) rfl rfl ?_
 intro I2 ac cc hI2 hZ
 have hIc:=hIc.trans hI2;have hD:=hD.trans hI2
 refine Qb ?_
 refine zD hD ?_
 refine zT 11 rfl (Qa rfl Zi) hD ?_
 refine qd 12 rfl ?_
 refine zS Y3 ?_
 refine Qb ?_
 refine zD hD ?_
 refine Qm (by kernel_rfl) ?_
 refine QA ?_
 refine Qc (zR ?_)
 refine zV (Qg rfl ZY (fun hg=>by exact Cells.g1) rfl) ?_
 refine zh Yy ?_
 refine zN (QF ?_)
 exact Y6 rfl rfl ZY zwO rfl (fun w hw=>⟨_,I2,[],rfl,hIc,hw.drop.drop,_,_,_,rfl,by omega,by rw [List.eraseIdx_eq_take_drop_succ,show i.toNat+1=(i+1).toNat by omega];exact hZ,rfl⟩)
end
section
open Go Go.Kn Go.Proofs
theorem zeK:Fun Tryz.prog 177:=.of Tryz.func177 (by kernel_rfl) (by kernel_rfl)
theorem zfF:Fun Tryz.prog 180:=.of Tryz.func180 (by kernel_rfl) (by kernel_rfl)
theorem zq3:Fun Tryz.prog 228:=.of Tryz.func228 (by kernel_rfl) (by kernel_rfl)
theorem zn2 {I:Qv}{qa aa:Option Addr}{qn qc an ac:Nat}{qs:List Pk}{ks:List (Int×Int)}(hQ:Sl I 3 ZN qa qn qc qs)(hqn:qn≤100000)(hA:Sl I 2 JS aa an ac ks)(han:an≤100000)(i:Int):Vl Tryz.prog 114 [.agg #[.slice qa qn qc,.slice aa an ac],.int .i64 i] I [] (fun v I' L'=>∃ a m c a2 m2 c2,v= .tuple #[.agg #[.slice a m c,.slice a2 m2 c2],.int .i64 (atE qs ks i)]∧L'=[]∧zhP I' (atE qs ks i) a m c a2 m2 c2 (qs.eraseIdx i.toNat) aa an ac):=by
 intro g H w hw
 refine qe Tryz.func114 Tryz.ntmps114 hw ?_
 have hIc:=zwQ I
 refine zR ?_
 refine Zd rfl rfl rfl (fun b_2=>?_)
 refine Qs Ui rfl rfl (fun b_4=>?_)
 refine zA (zN (Qr (zR ?_)))
 refine zV (Qg rfl ZY (fun hg=>by exact Cells.g1) rfl) ?_
 refine zM ?_
 refine qcV (vs:=[_,_]) rfl zeK (zvM hQ hqn hA han i) ?_
 refine zM ?_
 refine zE ?_
 refine zE ?_
 refine zA ?_
 refine zN (zR ?_)
 refine zM ?_
 refine zC (zN ?_)
 refine zI ?_ ?_<;>intro hc13
 ·
  have he:atE qs ks i≠0:=by simpa using hc13
  refine zR ?_
  refine zV (Qg rfl ZY (fun hg=>by exact Cells.g0) rfl) ?_
  refine zM ?_
  refine zh Yy ?_
  refine zA (zN (QF (Qi ?_)))
  exact Z0 rfl rfl rfl ZY zwO rfl (fun w hw=>⟨_,I,[],rfl,hIc,hw.drop.drop,_,_,_,_,_,_,rfl,rfl,WY he⟩)
 have he:atE qs ks i=0:=by simpa using hc13
 have hr:0≤i∧i<(qn:Int):=by have h:=zcp he;rw [hQ.len] at h;exact h
 refine Qw (Qc (zR ?_))
 refine zV (Qg rfl ZY (fun hg=>by exact Cells.g1) rfl) ?_
 refine zM ?_
 refine QC (cap:=[]) (vs:=[_,_]) rfl rfl zfF .nil (zab hQ hqn hA han hr) rfl rfl ?_
 rintro vv1 I1 L1 hI1 ⟨a4,m4,c4,rfl,hm4,hZ,rfl⟩
 have hIc:=hIc.trans hI1
 refine zh Yy ?_
 refine zA (zN (QF ?_))
 exact Z0 rfl rfl rfl ZY zwO rfl (fun w hw=>⟨_,I1,[],rfl,hIc,hw.drop.drop,_,_,_,_,_,_,by rw [he],rfl,zcc he hZ⟩)
theorem zvI {I:Qv}{av:Option Addr}{n c:Nat}{ks:List (Int×Int)}(hS:Sl I 2 JS av n c ks)(hn:n≤100000)(v:Int×Int):Yb Tryz.prog 228 [.slice av n c,.agg #[.int .i64 v.1,.int .i64 v.2]] I (.int .i64 (zl0 (zu5 v) ks)):=by
 intro g H w hw
 refine qe Tryz.func228 Tryz.ntmps228 hw ?_
 refine zR ?_
 refine Zd rfl rfl rfl (fun b_3=>?_)
 refine zA (zN (Qr (zR ?_)))
 refine zM ?_
 refine zQ UJ ?_
 refine zM (zN (QE ?_))
 refine zU [(0,_),(3,_),(7,_)] (fun T L0 mz E I' loc'=>∃ (k:Nat),mz=n-k∧E=(8,.int .i64 k)::T∧I=I'∧[(b_3,.cells #[.int .i64 v.1,.int .i64 v.2] 179 (0,0))]=loc'∧k≤n∧(ks.take k).any (zu5 v)=false) ?_ (h:=⟨0,rfl,rfl,rfl,rfl,Nat.zero_le _,rfl⟩)
 rintro mz E I' loc' ⟨k,rfl,rfl,rfl,rfl,hk,hno⟩
 refine zR (zC (zN (Qr ?_)))
 refine zI ?_ ?_<;>intro hc9
 ·
  have hlt_k:k<n:=by have h:=hc9;simp at h;omega
  obtain ⟨x,hx⟩:=hS.at hlt_k
  refine Qw (Qc (Qr (QE (zR (zM ?_)))))
  refine zA (zN (Qr ?_))
  have hD:=zwQ I
  refine ZK ?_
  refine QZ I [(b_3,.cells #[.int .i64 v.1,.int .i64 v.2] 179 (0,0))] mixed ?_
  refine zT 0 rfl (Qg rfl KC (fun hg=>by exact Cells.g0) rfl) hD ?_
  refine zT 1 rfl (Qh rfl) hD ?_
  refine zT 2 rfl (Qh rfl) hD ?_
  refine zT 3 rfl (zX UJ hS) hD ?_
  refine zT 4 rfl (Qg rfl KC (fun hg=>by exact zwR hS hx) rfl) hD ?_
  refine zT 5 rfl (zq0 rfl rfl zjr) hD ?_
  refine Qm (by kernel_rfl) ?_
  refine QA ?_
  refine Qc ?_
  refine zI ?_ ?_<;>intro hc16
  ·
   refine zR (zM ?_)
   refine zA (zN (QF (Qz (Qi (Qi (Qz (Qi ?_)))))))
   exact zr rfl rfl (by rw [zft hno hx hc16])
  refine Qw (Qp (Qc (Qk (zB ?_))))
  refine zM (Qb ?_)
  exact zm (h:=⟨n-(k+1),by omega,k+1,rfl,rfl,rfl,rfl,by omega,zbY hx hno hc16⟩)
 have hge_k:n≤k:=by have h:=hc9;simp at h;omega
 refine ZC (Qt (Qt (QD (Qc (zR (zA (zN ?_)))))))
 refine QF ?_
 exact zr rfl rfl (by rw [zch hS.len hge_k hno])
theorem zve {I:Qv}{av:Option Addr}{n c:Nat}{ks:List (Int×Int)}(hS:Sl I 2 JS av n c ks)(hn:n≤100000)(v:Int×Int):Yb Tryz.prog 178 [.slice av n c,.agg #[.int .i64 v.1,.int .i64 v.2]] I (.bool (ks.any (zu5 v))):=by
 intro g H w hw
 refine qe Tryz.func178 Tryz.ntmps178 hw ?_
 refine zR ?_
 refine Zd rfl rfl rfl (fun b_3=>?_)
 refine zA ?_
 refine zN (zR ?_)
 refine zM ?_
 refine zV (Qg rfl KC (fun hg=>by exact Cells.g0) rfl) ?_
 refine qcV (vs:=[_,_]) rfl zq3 (zvI hS hn v) ?_
 refine zC ?_
 refine zA (zN (QF ?_))
 exact zr rfl rfl (by rw [←zeA])
end
section
open Go Go.Kn Go.Proofs
theorem zjZ {I:Qv}{qa aa:Option Addr}{qn qc an ac:Nat}{qs:List Pk}{ks:List (Int×Int)}(hQ:Sl I 3 ZN qa qn qc qs)(hqn:qn≤100000)(hA:Sl I 2 JS aa an ac ks)(han:an≤100000)(x:Pk):Vl Tryz.prog 176 [.agg #[.slice qa qn qc,.slice aa an ac],K5 x] I [] (fun v I' L'=>∃ a m c a2 m2 c2,v= .tuple #[.agg #[.slice a m c,.slice a2 m2 c2],.int .i64 (KW qs ks x)]∧L'=[]∧zhP I' (KW qs ks x) a m c a2 m2 c2 (qs++[x]) aa an ac∧(KW qs ks x=0→m=qn+1)):=by
 intro g H w hw
 refine qe Tryz.func176 Tryz.ntmps176 hw ?_
 have hIc:=zwQ I
 have hlq:=hQ.len
 have hcq:=hQ.cap
 refine zR ?_
 refine Zd rfl rfl rfl (fun b_2=>?_)
 refine Zd rfl rfl rfl (fun b_3=>?_)
 refine Qs Ui rfl rfl (fun b_4=>?_)
 refine zA (Qb ?_)
 refine QN (.there .here) (fun I1 hI1 hb1=>?_)
 have hQ:=hQ.mono hI1;have hA:=hA.mono hI1;have hIc:=hIc.trans hI1
 have h3:=BxI.of hb1
 refine Qc (Qr (zR ?_))
 refine zV (Qg rfl ZY (fun hg=>by exact Cells.g1) rfl) ?_
 refine qcV (vs:=[_]) rfl zkB (zja hQ hqn hA han) ?_
 refine zC ?_
 refine zM ?_
 refine Ze 3 rfl rfl rfl ?_
 refine zJ (Qg rfl VB (fun hg=>by exact BxI.cells (vs:=ZN x) h3) rfl) ?_
 refine qf (vs:=[_]) rfl zjQ (fun hg=>zf9 _ x) ?_
 refine zJ (Yz rfl) ?_
 refine ZP rfl rfl rfl rfl rfl ?_
 refine zN ?_
 refine zI ?_ ?_<;>intro hc13
 ·
  have hs1:=zsz hc13
  refine zR ?_
  refine zV (Qg rfl ZY (fun hg=>by exact Cells.g0) rfl) ?_
  refine zh Yy ?_
  refine zA (zN (QF (Qi ?_)))
  first
  | exact Z0 rfl rfl rfl ZY zwO rfl (fun w hw=>⟨_,I1,[],rfl,hIc,hw.drop.drop,_,_,_,_,_,_,by rw [hs1]<;>rfl,rfl,WY (by rw [hs1];decide),fun h=>by rw [hs1] at h;cases h⟩)
 refine Qw (Qc (Qr (zR ?_)))
 refine zF Zi ?_
 refine zL Zo ?_
 refine zQ Zl ?_
 refine zC (zN ?_)
 refine zI ?_ ?_<;>intro hc18
 ·
  have hs2:=zsT hc13 (by rw [hlq];exact hc18)
  refine zR ?_
  refine zV (Qg rfl ZY (fun hg=>by exact Cells.g0) rfl) ?_
  refine zh Yy ?_
  refine zA (zN (QF (Qi ?_)))
  first
  | exact Z0 rfl rfl rfl ZY zwO rfl (fun w hw=>⟨_,I1,[],rfl,hIc,hw.drop.drop,_,_,_,_,_,_,by rw [hs2]<;>rfl,rfl,WY (by rw [hs2];decide),fun h=>by rw [hs2] at h;cases h⟩)
 have hs3:=zhX hc13 (by rw [hlq];exact hc18)
 refine Qw (Qc ?_)
 refine zY [(2,_),(4,_)] (fun T L0 E I' loc'=>∃ (v:Value) (L:Go.Kn.Loc),E=T∧I1=I'∧L++[(b_4,.cells #[.slice none 0 0,.slice none 0 0] 26 (0,0)),(b_2,.cells #[v,.slice aa an ac] 26 (0,0))]=loc'∧Ym 99 3 v (qn+1) ((qs++[x]).flatMap ZN) L) ?_ ?_
 ·
  have hD:=zwQ I1
  refine ZK ?_
  refine QZ I1 [] mixed ?_
  refine zT 0 rfl (Qa rfl Zi) hD ?_
  refine zT 2 rfl (Qa rfl Zi) hD ?_
  refine zT 5 rfl (Qa rfl Zi) hD ?_
  refine zT 9 rfl (Qg rfl VB (fun hg=>by exact BxI.cells (vs:=ZN x) h3) rfl) hD ?_
  refine zlb 1 3 6 10 rfl rfl rfl rfl (by kernel_rfl) ?_ ?_ ?_ ?_
  ·
   refine zL Zo ?_
   refine Qb ?_
   refine zD hD ?_
   refine VL 3 6 10 rfl rfl rfl (by kernel_rfl) ?_ ?_ ?_
   ·
    refine zL Zo ?_
    refine Qb ?_
    refine zD hD ?_
    refine zT 4 rfl (Zc rfl Zl) hD ?_
    refine Q8 6 10 rfl rfl (by kernel_rfl) ?_ ?_
    ·
     refine zL Zo ?_
     refine Qb ?_
     refine zD hD ?_
     refine zT 7 rfl (Zc rfl Zl) hD ?_
     refine zT 8 rfl (ZA rfl rfl rfl Zl (fun hg=>by omega)) hD ?_
     refine qd 10 rfl ?_
     refine Ql (ps:=[(0,_)]) (m:=[ZN x]) Z4 rfl (.cons rfl (.nil)) rfl (by simp [Zj]) (by decide) (by decide) rfl rfl (fun b_30=>?_)
     refine Qb ?_
     refine zD hD ?_
     refine qd 11 rfl ?_
     refine Q3 (ys:=[x].flatMap ZN) Zj rfl rfl Z4 hQ.cut ⟨rfl,fun _=>rfl,zwO⟩ (by decide) (by omega) rfl rfl ?_
     intro v1 L1 hO1
     rw [←List.flatMap_append] at hO1
     obtain ⟨a1,c1,rfl⟩:=hO1.shape
     refine Qb ?_
     refine zD hD ?_
     refine zT 12 rfl (Qa rfl Zi) hD ?_
     refine qd 13 rfl ?_
     refine Zg rfl rfl Y3 rfl rfl (by (repeat (first | exact Upd.here | apply Upd.there | apply Qx))) rfl ?_
     refine Qb ?_
     refine zD hD ?_
     refine Qm (by kernel_rfl) ?_
     refine QA ?_
     exact zm (h:=⟨_,_,rfl,rfl,rfl,hO1⟩)
    refine Ql (ps:=[(0,_)]) (m:=[ZN x]) Z4 rfl (.cons rfl (.nil)) rfl (by simp [Zj]) (by decide) (by decide) rfl rfl (fun b_30=>?_)
    refine Qb ?_
    refine zD hD ?_
    refine qd 6 rfl ?_
    refine zL Zo ?_
    refine Qb ?_
    refine zD hD ?_
    refine zT 7 rfl (Zc rfl Zl) hD ?_
    refine zT 8 rfl (ZA rfl rfl rfl Zl (fun hg=>by omega)) hD ?_
    refine qd 11 rfl ?_
    refine Q3 (ys:=[x].flatMap ZN) Zj rfl rfl Z4 hQ.cut ⟨rfl,fun _=>rfl,zwO⟩ (by decide) (by omega) rfl rfl ?_
    intro v1 L1 hO1
    rw [←List.flatMap_append] at hO1
    obtain ⟨a1,c1,rfl⟩:=hO1.shape
    refine Qb ?_
    refine zD hD ?_
    refine zT 12 rfl (Qa rfl Zi) hD ?_
    refine qd 13 rfl ?_
    refine Zg rfl rfl Y3 rfl rfl (by (repeat (first | exact Upd.here | apply Upd.there | apply Qx))) rfl ?_
    refine Qb ?_
    refine zD hD ?_
    refine Qm (by kernel_rfl) ?_
    refine QA ?_
    exact zm (h:=⟨_,_,rfl,rfl,rfl,hO1⟩)
   ·
    refine zL Zo ?_
    refine Qb ?_
    refine zD hD ?_
    refine zT 7 rfl (Zc rfl Zl) hD ?_
    refine Q8 3 10 rfl rfl (by kernel_rfl) ?_ ?_
    ·
     refine zL Zo ?_
     refine Qb ?_
     refine zD hD ?_
     refine zT 4 rfl (Zc rfl Zl) hD ?_
     refine zT 8 rfl (ZA rfl rfl rfl Zl (fun hg=>by omega)) hD ?_
     refine qd 10 rfl ?_
     refine Ql (ps:=[(0,_)]) (m:=[ZN x]) Z4 rfl (.cons rfl (.nil)) rfl (by simp [Zj]) (by decide) (by decide) rfl rfl (fun b_30=>?_)
     refine Qb ?_
     refine zD hD ?_
     refine qd 11 rfl ?_
     refine Q3 (ys:=[x].flatMap ZN) Zj rfl rfl Z4 hQ.cut ⟨rfl,fun _=>rfl,zwO⟩ (by decide) (by omega) rfl rfl ?_
     intro v1 L1 hO1
     rw [←List.flatMap_append] at hO1
     obtain ⟨a1,c1,rfl⟩:=hO1.shape
     refine Qb ?_
     refine zD hD ?_
     refine zT 12 rfl (Qa rfl Zi) hD ?_
     refine qd 13 rfl ?_
     refine Zg rfl rfl Y3 rfl rfl (by (repeat (first | exact Upd.here | apply Upd.there | apply Qx))) rfl ?_
     refine Qb ?_
     refine zD hD ?_
     refine Qm (by kernel_rfl) ?_
     refine QA ?_
     exact zm (h:=⟨_,_,rfl,rfl,rfl,hO1⟩)
    refine Ql (ps:=[(0,_)]) (m:=[ZN x]) Z4 rfl (.cons rfl (.nil)) rfl (by simp [Zj]) (by decide) (by decide) rfl rfl (fun b_30=>?_)
    refine Qb ?_
    refine zD hD ?_
    refine qd 3 rfl ?_
    refine zL Zo ?_
    refine Qb ?_
    refine zD hD ?_
    refine zT 4 rfl (Zc rfl Zl) hD ?_
    refine zT 8 rfl (ZA rfl rfl rfl Zl (fun hg=>by omega)) hD ?_
    refine qd 11 rfl ?_
    refine Q3 (ys:=[x].flatMap ZN) Zj rfl rfl Z4 hQ.cut ⟨rfl,fun _=>rfl,zwO⟩ (by decide) (by omega) rfl rfl ?_
    intro v1 L1 hO1
    rw [←List.flatMap_append] at hO1
    obtain ⟨a1,c1,rfl⟩:=hO1.shape
    refine Qb ?_
    refine zD hD ?_
    refine zT 12 rfl (Qa rfl Zi) hD ?_
    refine qd 13 rfl ?_
    refine Zg rfl rfl Y3 rfl rfl (by (repeat (first | exact Upd.here | apply Upd.there | apply Qx))) rfl ?_
    refine Qb ?_
    refine zD hD ?_
    refine Qm (by kernel_rfl) ?_
    refine QA ?_
    exact zm (h:=⟨_,_,rfl,rfl,rfl,hO1⟩)
   refine Ql (ps:=[(0,_)]) (m:=[ZN x]) Z4 rfl (.cons rfl (.nil)) rfl (by simp [Zj]) (by decide) (by decide) rfl rfl (fun b_30=>?_)
   refine Qb ?_
   refine zD hD ?_
   refine Q8 3 6 rfl rfl (by kernel_rfl) ?_ ?_
   ·
    refine zL Zo ?_
    refine Qb ?_
    refine zD hD ?_
    refine zT 4 rfl (Zc rfl Zl) hD ?_
    refine qd 6 rfl ?_
    refine zL Zo ?_
    refine Qb ?_
    refine zD hD ?_
    refine zT 7 rfl (Zc rfl Zl) hD ?_
    refine zT 8 rfl (ZA rfl rfl rfl Zl (fun hg=>by omega)) hD ?_
    refine qd 11 rfl ?_
    refine Q3 (ys:=[x].flatMap ZN) Zj rfl rfl Z4 hQ.cut ⟨rfl,fun _=>rfl,zwO⟩ (by decide) (by omega) rfl rfl ?_
    intro v1 L1 hO1
    rw [←List.flatMap_append] at hO1
    obtain ⟨a1,c1,rfl⟩:=hO1.shape
    refine Qb ?_
    refine zD hD ?_
    refine zT 12 rfl (Qa rfl Zi) hD ?_
    refine qd 13 rfl ?_
    refine Zg rfl rfl Y3 rfl rfl (by (repeat (first | exact Upd.here | apply Upd.there | apply Qx))) rfl ?_
    refine Qb ?_
    refine zD hD ?_
    refine Qm (by kernel_rfl) ?_
    refine QA ?_
    exact zm (h:=⟨_,_,rfl,rfl,rfl,hO1⟩)
   refine zL Zo ?_
   refine Qb ?_
   refine zD hD ?_
   refine zT 7 rfl (Zc rfl Zl) hD ?_
   refine qd 3 rfl ?_
   refine zL Zo ?_
   refine Qb ?_
   refine zD hD ?_
   refine zT 4 rfl (Zc rfl Zl) hD ?_
   refine zT 8 rfl (ZA rfl rfl rfl Zl (fun hg=>by omega)) hD ?_
   refine qd 11 rfl ?_
   refine Q3 (ys:=[x].flatMap ZN) Zj rfl rfl Z4 hQ.cut ⟨rfl,fun _=>rfl,zwO⟩ (by decide) (by omega) rfl rfl ?_
   intro v1 L1 hO1
   rw [←List.flatMap_append] at hO1
   obtain ⟨a1,c1,rfl⟩:=hO1.shape
   refine Qb ?_
   refine zD hD ?_
   refine zT 12 rfl (Qa rfl Zi) hD ?_
   refine qd 13 rfl ?_
   refine Zg rfl rfl Y3 rfl rfl (by (repeat (first | exact Upd.here | apply Upd.there | apply Qx))) rfl ?_
   refine Qb ?_
   refine zD hD ?_
   refine Qm (by kernel_rfl) ?_
   refine QA ?_
   exact zm (h:=⟨_,_,rfl,rfl,rfl,hO1⟩)
  ·
   refine zL Zo ?_
   refine Qb ?_
   refine zD hD ?_
   refine zT 4 rfl (Zc rfl Zl) hD ?_
   refine VL 1 6 10 rfl rfl rfl (by kernel_rfl) ?_ ?_ ?_
   ·
    refine zL Zo ?_
    refine Qb ?_
    refine zD hD ?_
    refine Q8 6 10 rfl rfl (by kernel_rfl) ?_ ?_
    ·
     refine zL Zo ?_
     refine Qb ?_
     refine zD hD ?_
     refine zT 7 rfl (Zc rfl Zl) hD ?_
     refine zT 8 rfl (ZA rfl rfl rfl Zl (fun hg=>by omega)) hD ?_
     refine qd 10 rfl ?_
     refine Ql (ps:=[(0,_)]) (m:=[ZN x]) Z4 rfl (.cons rfl (.nil)) rfl (by simp [Zj]) (by decide) (by decide) rfl rfl (fun b_30=>?_)
     refine Qb ?_
     refine zD hD ?_
     refine qd 11 rfl ?_
     refine Q3 (ys:=[x].flatMap ZN) Zj rfl rfl Z4 hQ.cut ⟨rfl,fun _=>rfl,zwO⟩ (by decide) (by omega) rfl rfl ?_
     intro v1 L1 hO1
     rw [←List.flatMap_append] at hO1
     obtain ⟨a1,c1,rfl⟩:=hO1.shape
     refine Qb ?_
     refine zD hD ?_
     refine zT 12 rfl (Qa rfl Zi) hD ?_
     refine qd 13 rfl ?_
     refine Zg rfl rfl Y3 rfl rfl (by (repeat (first | exact Upd.here | apply Upd.there | apply Qx))) rfl ?_
     refine Qb ?_
     refine zD hD ?_
     refine Qm (by kernel_rfl) ?_
     refine QA ?_
     exact zm (h:=⟨_,_,rfl,rfl,rfl,hO1⟩)
    refine Ql (ps:=[(0,_)]) (m:=[ZN x]) Z4 rfl (.cons rfl (.nil)) rfl (by simp [Zj]) (by decide) (by decide) rfl rfl (fun b_30=>?_)
    refine Qb ?_
    refine zD hD ?_
    refine qd 6 rfl ?_
    refine zL Zo ?_
    refine Qb ?_
    refine zD hD ?_
    refine zT 7 rfl (Zc rfl Zl) hD ?_
    refine zT 8 rfl (ZA rfl rfl rfl Zl (fun hg=>by omega)) hD ?_
    refine qd 11 rfl ?_
    refine Q3 (ys:=[x].flatMap ZN) Zj rfl rfl Z4 hQ.cut ⟨rfl,fun _=>rfl,zwO⟩ (by decide) (by omega) rfl rfl ?_
    intro v1 L1 hO1
    rw [←List.flatMap_append] at hO1
    obtain ⟨a1,c1,rfl⟩:=hO1.shape
    refine Qb ?_
    refine zD hD ?_
    refine zT 12 rfl (Qa rfl Zi) hD ?_
    refine qd 13 rfl ?_
    refine Zg rfl rfl Y3 rfl rfl (by (repeat (first | exact Upd.here | apply Upd.there | apply Qx))) rfl ?_
    refine Qb ?_
    refine zD hD ?_
    refine Qm (by kernel_rfl) ?_
    refine QA ?_
    exact zm (h:=⟨_,_,rfl,rfl,rfl,hO1⟩)
   ·
    refine zL Zo ?_
    refine Qb ?_
    refine zD hD ?_
    refine zT 7 rfl (Zc rfl Zl) hD ?_
    refine Q8 1 10 rfl rfl (by kernel_rfl) ?_ ?_
    ·
     refine zL Zo ?_
     refine Qb ?_
     refine zD hD ?_
     refine zT 8 rfl (ZA rfl rfl rfl Zl (fun hg=>by omega)) hD ?_
     refine qd 10 rfl ?_
     refine Ql (ps:=[(0,_)]) (m:=[ZN x]) Z4 rfl (.cons rfl (.nil)) rfl (by simp [Zj]) (by decide) (by decide) rfl rfl (fun b_30=>?_)
     refine Qb ?_
     refine zD hD ?_
     refine qd 11 rfl ?_
     refine Q3 (ys:=[x].flatMap ZN) Zj rfl rfl Z4 hQ.cut ⟨rfl,fun _=>rfl,zwO⟩ (by decide) (by omega) rfl rfl ?_
     intro v1 L1 hO1
     rw [←List.flatMap_append] at hO1
     obtain ⟨a1,c1,rfl⟩:=hO1.shape
     refine Qb ?_
     refine zD hD ?_
     refine zT 12 rfl (Qa rfl Zi) hD ?_
     refine qd 13 rfl ?_
     refine Zg rfl rfl Y3 rfl rfl (by (repeat (first | exact Upd.here | apply Upd.there | apply Qx))) rfl ?_
     refine Qb ?_
     refine zD hD ?_
     refine Qm (by kernel_rfl) ?_
     refine QA ?_
     exact zm (h:=⟨_,_,rfl,rfl,rfl,hO1⟩)
    refine Ql (ps:=[(0,_)]) (m:=[ZN x]) Z4 rfl (.cons rfl (.nil)) rfl (by simp [Zj]) (by decide) (by decide) rfl rfl (fun b_30=>?_)
    refine Qb ?_
    refine zD hD ?_
    refine qd 1 rfl ?_
    refine zL Zo ?_
    refine Qb ?_
    refine zD hD ?_
    refine zT 8 rfl (ZA rfl rfl rfl Zl (fun hg=>by omega)) hD ?_
    refine qd 11 rfl ?_
    refine Q3 (ys:=[x].flatMap ZN) Zj rfl rfl Z4 hQ.cut ⟨rfl,fun _=>rfl,zwO⟩ (by decide) (by omega) rfl rfl ?_
    intro v1 L1 hO1
    rw [←List.flatMap_append] at hO1
    obtain ⟨a1,c1,rfl⟩:=hO1.shape
    refine Qb ?_
    refine zD hD ?_
    refine zT 12 rfl (Qa rfl Zi) hD ?_
    refine qd 13 rfl ?_
    refine Zg rfl rfl Y3 rfl rfl (by (repeat (first | exact Upd.here | apply Upd.there | apply Qx))) rfl ?_
    refine Qb ?_
    refine zD hD ?_
    refine Qm (by kernel_rfl) ?_
    refine QA ?_
    exact zm (h:=⟨_,_,rfl,rfl,rfl,hO1⟩)
   refine Ql (ps:=[(0,_)]) (m:=[ZN x]) Z4 rfl (.cons rfl (.nil)) rfl (by simp [Zj]) (by decide) (by decide) rfl rfl (fun b_30=>?_)
   refine Qb ?_
   refine zD hD ?_
   refine Q8 1 6 rfl rfl (by kernel_rfl) ?_ ?_
   ·
    refine zL Zo ?_
    refine Qb ?_
    refine zD hD ?_
    refine qd 6 rfl ?_
    refine zL Zo ?_
    refine Qb ?_
    refine zD hD ?_
    refine zT 7 rfl (Zc rfl Zl) hD ?_
    refine zT 8 rfl (ZA rfl rfl rfl Zl (fun hg=>by omega)) hD ?_
    refine qd 11 rfl ?_
    refine Q3 (ys:=[x].flatMap ZN) Zj rfl rfl Z4 hQ.cut ⟨rfl,fun _=>rfl,zwO⟩ (by decide) (by omega) rfl rfl ?_
    intro v1 L1 hO1
    rw [←List.flatMap_append] at hO1
    obtain ⟨a1,c1,rfl⟩:=hO1.shape
    refine Qb ?_
    refine zD hD ?_
    refine zT 12 rfl (Qa rfl Zi) hD ?_
    refine qd 13 rfl ?_
    refine Zg rfl rfl Y3 rfl rfl (by (repeat (first | exact Upd.here | apply Upd.there | apply Qx))) rfl ?_
    refine Qb ?_
    refine zD hD ?_
    refine Qm (by kernel_rfl) ?_
    refine QA ?_
    exact zm (h:=⟨_,_,rfl,rfl,rfl,hO1⟩)
   refine zL Zo ?_
   refine Qb ?_
   refine zD hD ?_
   refine zT 7 rfl (Zc rfl Zl) hD ?_
   refine qd 1 rfl ?_
   refine zL Zo ?_
   refine Qb ?_
   refine zD hD ?_
   refine zT 8 rfl (ZA rfl rfl rfl Zl (fun hg=>by omega)) hD ?_
   refine qd 11 rfl ?_
   refine Q3 (ys:=[x].flatMap ZN) Zj rfl rfl Z4 hQ.cut ⟨rfl,fun _=>rfl,zwO⟩ (by decide) (by omega) rfl rfl ?_
   intro v1 L1 hO1
   rw [←List.flatMap_append] at hO1
   obtain ⟨a1,c1,rfl⟩:=hO1.shape
   refine Qb ?_
   refine zD hD ?_
   refine zT 12 rfl (Qa rfl Zi) hD ?_
   refine qd 13 rfl ?_
   refine Zg rfl rfl Y3 rfl rfl (by (repeat (first | exact Upd.here | apply Upd.there | apply Qx))) rfl ?_
   refine Qb ?_
   refine zD hD ?_
   refine Qm (by kernel_rfl) ?_
   refine QA ?_
   exact zm (h:=⟨_,_,rfl,rfl,rfl,hO1⟩)
  ·
   refine zL Zo ?_
   refine Qb ?_
   refine zD hD ?_
   refine zT 7 rfl (Zc rfl Zl) hD ?_
   refine VL 1 3 10 rfl rfl rfl (by kernel_rfl) ?_ ?_ ?_
   ·
    refine zL Zo ?_
    refine Qb ?_
    refine zD hD ?_
    refine Q8 3 10 rfl rfl (by kernel_rfl) ?_ ?_
    ·
     refine zL Zo ?_
     refine Qb ?_
     refine zD hD ?_
     refine zT 4 rfl (Zc rfl Zl) hD ?_
     refine zT 8 rfl (ZA rfl rfl rfl Zl (fun hg=>by omega)) hD ?_
     refine qd 10 rfl ?_
     refine Ql (ps:=[(0,_)]) (m:=[ZN x]) Z4 rfl (.cons rfl (.nil)) rfl (by simp [Zj]) (by decide) (by decide) rfl rfl (fun b_30=>?_)
     refine Qb ?_
     refine zD hD ?_
     refine qd 11 rfl ?_
     refine Q3 (ys:=[x].flatMap ZN) Zj rfl rfl Z4 hQ.cut ⟨rfl,fun _=>rfl,zwO⟩ (by decide) (by omega) rfl rfl ?_
     intro v1 L1 hO1
     rw [←List.flatMap_append] at hO1
     obtain ⟨a1,c1,rfl⟩:=hO1.shape
     refine Qb ?_
     refine zD hD ?_
     refine zT 12 rfl (Qa rfl Zi) hD ?_
     refine qd 13 rfl ?_
     refine Zg rfl rfl Y3 rfl rfl (by (repeat (first | exact Upd.here | apply Upd.there | apply Qx))) rfl ?_
     refine Qb ?_
     refine zD hD ?_
     refine Qm (by kernel_rfl) ?_
     refine QA ?_
     exact zm (h:=⟨_,_,rfl,rfl,rfl,hO1⟩)
    refine Ql (ps:=[(0,_)]) (m:=[ZN x]) Z4 rfl (.cons rfl (.nil)) rfl (by simp [Zj]) (by decide) (by decide) rfl rfl (fun b_30=>?_)
    refine Qb ?_
    refine zD hD ?_
    refine qd 3 rfl ?_
    refine zL Zo ?_
    refine Qb ?_
    refine zD hD ?_
    refine zT 4 rfl (Zc rfl Zl) hD ?_
    refine zT 8 rfl (ZA rfl rfl rfl Zl (fun hg=>by omega)) hD ?_
    refine qd 11 rfl ?_
    refine Q3 (ys:=[x].flatMap ZN) Zj rfl rfl Z4 hQ.cut ⟨rfl,fun _=>rfl,zwO⟩ (by decide) (by omega) rfl rfl ?_
    intro v1 L1 hO1
    rw [←List.flatMap_append] at hO1
    obtain ⟨a1,c1,rfl⟩:=hO1.shape
    refine Qb ?_
    refine zD hD ?_
    refine zT 12 rfl (Qa rfl Zi) hD ?_
    refine qd 13 rfl ?_
    refine Zg rfl rfl Y3 rfl rfl (by (repeat (first | exact Upd.here | apply Upd.there | apply Qx))) rfl ?_
    refine Qb ?_
    refine zD hD ?_
    refine Qm (by kernel_rfl) ?_
    refine QA ?_
    exact zm (h:=⟨_,_,rfl,rfl,rfl,hO1⟩)
   ·
    refine zL Zo ?_
    refine Qb ?_
    refine zD hD ?_
    refine zT 4 rfl (Zc rfl Zl) hD ?_
    refine Q8 1 10 rfl rfl (by kernel_rfl) ?_ ?_
    ·
     refine zL Zo ?_
     refine Qb ?_
     refine zD hD ?_
     refine zT 8 rfl (ZA rfl rfl rfl Zl (fun hg=>by omega)) hD ?_
     refine qd 10 rfl ?_
     refine Ql (ps:=[(0,_)]) (m:=[ZN x]) Z4 rfl (.cons rfl (.nil)) rfl (by simp [Zj]) (by decide) (by decide) rfl rfl (fun b_30=>?_)
     refine Qb ?_
     refine zD hD ?_
     refine qd 11 rfl ?_
     refine Q3 (ys:=[x].flatMap ZN) Zj rfl rfl Z4 hQ.cut ⟨rfl,fun _=>rfl,zwO⟩ (by decide) (by omega) rfl rfl ?_
     intro v1 L1 hO1
     rw [←List.flatMap_append] at hO1
     obtain ⟨a1,c1,rfl⟩:=hO1.shape
     refine Qb ?_
     refine zD hD ?_
     refine zT 12 rfl (Qa rfl Zi) hD ?_
     refine qd 13 rfl ?_
     refine Zg rfl rfl Y3 rfl rfl (by (repeat (first | exact Upd.here | apply Upd.there | apply Qx))) rfl ?_
     refine Qb ?_
     refine zD hD ?_
     refine Qm (by kernel_rfl) ?_
     refine QA ?_
     exact zm (h:=⟨_,_,rfl,rfl,rfl,hO1⟩)
    refine Ql (ps:=[(0,_)]) (m:=[ZN x]) Z4 rfl (.cons rfl (.nil)) rfl (by simp [Zj]) (by decide) (by decide) rfl rfl (fun b_30=>?_)
    refine Qb ?_
    refine zD hD ?_
    refine qd 1 rfl ?_
    refine zL Zo ?_
    refine Qb ?_
    refine zD hD ?_
    refine zT 8 rfl (ZA rfl rfl rfl Zl (fun hg=>by omega)) hD ?_
    refine qd 11 rfl ?_
    refine Q3 (ys:=[x].flatMap ZN) Zj rfl rfl Z4 hQ.cut ⟨rfl,fun _=>rfl,zwO⟩ (by decide) (by omega) rfl rfl ?_
    intro v1 L1 hO1
    rw [←List.flatMap_append] at hO1
    obtain ⟨a1,c1,rfl⟩:=hO1.shape
    refine Qb ?_
    refine zD hD ?_
    refine zT 12 rfl (Qa rfl Zi) hD ?_
    refine qd 13 rfl ?_
    refine Zg rfl rfl Y3 rfl rfl (by (repeat (first | exact Upd.here | apply Upd.there | apply Qx))) rfl ?_
    refine Qb ?_
    refine zD hD ?_
    refine Qm (by kernel_rfl) ?_
    refine QA ?_
    exact zm (h:=⟨_,_,rfl,rfl,rfl,hO1⟩)
   refine Ql (ps:=[(0,_)]) (m:=[ZN x]) Z4 rfl (.cons rfl (.nil)) rfl (by simp [Zj]) (by decide) (by decide) rfl rfl (fun b_30=>?_)
   refine Qb ?_
   refine zD hD ?_
   refine Q8 1 3 rfl rfl (by kernel_rfl) ?_ ?_
   ·
    refine zL Zo ?_
    refine Qb ?_
    refine zD hD ?_
    refine qd 3 rfl ?_
    refine zL Zo ?_
    refine Qb ?_
    refine zD hD ?_
    refine zT 4 rfl (Zc rfl Zl) hD ?_
    refine zT 8 rfl (ZA rfl rfl rfl Zl (fun hg=>by omega)) hD ?_
    refine qd 11 rfl ?_
    refine Q3 (ys:=[x].flatMap ZN) Zj rfl rfl Z4 hQ.cut ⟨rfl,fun _=>rfl,zwO⟩ (by decide) (by omega) rfl rfl ?_
    intro v1 L1 hO1
    rw [←List.flatMap_append] at hO1
    obtain ⟨a1,c1,rfl⟩:=hO1.shape
    refine Qb ?_
    refine zD hD ?_
    refine zT 12 rfl (Qa rfl Zi) hD ?_
    refine qd 13 rfl ?_
    refine Zg rfl rfl Y3 rfl rfl (by (repeat (first | exact Upd.here | apply Upd.there | apply Qx))) rfl ?_
    refine Qb ?_
    refine zD hD ?_
    refine Qm (by kernel_rfl) ?_
    refine QA ?_
    exact zm (h:=⟨_,_,rfl,rfl,rfl,hO1⟩)
   refine zL Zo ?_
   refine Qb ?_
   refine zD hD ?_
   refine zT 4 rfl (Zc rfl Zl) hD ?_
   refine qd 1 rfl ?_
   refine zL Zo ?_
   refine Qb ?_
   refine zD hD ?_
   refine zT 8 rfl (ZA rfl rfl rfl Zl (fun hg=>by omega)) hD ?_
   refine qd 11 rfl ?_
   refine Q3 (ys:=[x].flatMap ZN) Zj rfl rfl Z4 hQ.cut ⟨rfl,fun _=>rfl,zwO⟩ (by decide) (by omega) rfl rfl ?_
   intro v1 L1 hO1
   rw [←List.flatMap_append] at hO1
   obtain ⟨a1,c1,rfl⟩:=hO1.shape
   refine Qb ?_
   refine zD hD ?_
   refine zT 12 rfl (Qa rfl Zi) hD ?_
   refine qd 13 rfl ?_
   refine Zg rfl rfl Y3 rfl rfl (by (repeat (first | exact Upd.here | apply Upd.there | apply Qx))) rfl ?_
   refine Qb ?_
   refine zD hD ?_
   refine Qm (by kernel_rfl) ?_
   refine QA ?_
   exact zm (h:=⟨_,_,rfl,rfl,rfl,hO1⟩)
  refine Ql (ps:=[(0,_)]) (m:=[ZN x]) Z4 rfl (.cons rfl (.nil)) rfl (by simp [Zj]) (by decide) (by decide) rfl rfl (fun b_30=>?_)
  refine Qb ?_
  refine zD hD ?_
  refine VL 1 3 6 rfl rfl rfl (by kernel_rfl) ?_ ?_ ?_
  ·
   refine zL Zo ?_
   refine Qb ?_
   refine zD hD ?_
   refine Q8 3 6 rfl rfl (by kernel_rfl) ?_ ?_
   ·
    refine zL Zo ?_
    refine Qb ?_
    refine zD hD ?_
    refine zT 4 rfl (Zc rfl Zl) hD ?_
    refine qd 6 rfl ?_
    refine zL Zo ?_
    refine Qb ?_
    refine zD hD ?_
    refine zT 7 rfl (Zc rfl Zl) hD ?_
    refine zT 8 rfl (ZA rfl rfl rfl Zl (fun hg=>by omega)) hD ?_
    refine qd 11 rfl ?_
    refine Q3 (ys:=[x].flatMap ZN) Zj rfl rfl Z4 hQ.cut ⟨rfl,fun _=>rfl,zwO⟩ (by decide) (by omega) rfl rfl ?_
    intro v1 L1 hO1
    rw [←List.flatMap_append] at hO1
    obtain ⟨a1,c1,rfl⟩:=hO1.shape
    refine Qb ?_
    refine zD hD ?_
    refine zT 12 rfl (Qa rfl Zi) hD ?_
    refine qd 13 rfl ?_
    refine Zg rfl rfl Y3 rfl rfl (by (repeat (first | exact Upd.here | apply Upd.there | apply Qx))) rfl ?_
    refine Qb ?_
    refine zD hD ?_
    refine Qm (by kernel_rfl) ?_
    refine QA ?_
    exact zm (h:=⟨_,_,rfl,rfl,rfl,hO1⟩)
   refine zL Zo ?_
   refine Qb ?_
   refine zD hD ?_
   refine zT 7 rfl (Zc rfl Zl) hD ?_
   refine qd 3 rfl ?_
   refine zL Zo ?_
   refine Qb ?_
   refine zD hD ?_
   refine zT 4 rfl (Zc rfl Zl) hD ?_
   refine zT 8 rfl (ZA rfl rfl rfl Zl (fun hg=>by omega)) hD ?_
   refine qd 11 rfl ?_
   refine Q3 (ys:=[x].flatMap ZN) Zj rfl rfl Z4 hQ.cut ⟨rfl,fun _=>rfl,zwO⟩ (by decide) (by omega) rfl rfl ?_
   intro v1 L1 hO1
   rw [←List.flatMap_append] at hO1
   obtain ⟨a1,c1,rfl⟩:=hO1.shape
   refine Qb ?_
   refine zD hD ?_
   refine zT 12 rfl (Qa rfl Zi) hD ?_
   refine qd 13 rfl ?_
   refine Zg rfl rfl Y3 rfl rfl (by (repeat (first | exact Upd.here | apply Upd.there | apply Qx))) rfl ?_
   refine Qb ?_
   refine zD hD ?_
   refine Qm (by kernel_rfl) ?_
   refine QA ?_
   exact zm (h:=⟨_,_,rfl,rfl,rfl,hO1⟩)
  ·
   refine zL Zo ?_
   refine Qb ?_
   refine zD hD ?_
   refine zT 4 rfl (Zc rfl Zl) hD ?_
   refine Q8 1 6 rfl rfl (by kernel_rfl) ?_ ?_
   ·
    refine zL Zo ?_
    refine Qb ?_
    refine zD hD ?_
    refine qd 6 rfl ?_
    refine zL Zo ?_
    refine Qb ?_
    refine zD hD ?_
    refine zT 7 rfl (Zc rfl Zl) hD ?_
    refine zT 8 rfl (ZA rfl rfl rfl Zl (fun hg=>by omega)) hD ?_
    refine qd 11 rfl ?_
    refine Q3 (ys:=[x].flatMap ZN) Zj rfl rfl Z4 hQ.cut ⟨rfl,fun _=>rfl,zwO⟩ (by decide) (by omega) rfl rfl ?_
    intro v1 L1 hO1
    rw [←List.flatMap_append] at hO1
    obtain ⟨a1,c1,rfl⟩:=hO1.shape
    refine Qb ?_
    refine zD hD ?_
    refine zT 12 rfl (Qa rfl Zi) hD ?_
    refine qd 13 rfl ?_
    refine Zg rfl rfl Y3 rfl rfl (by (repeat (first | exact Upd.here | apply Upd.there | apply Qx))) rfl ?_
    refine Qb ?_
    refine zD hD ?_
    refine Qm (by kernel_rfl) ?_
    refine QA ?_
    exact zm (h:=⟨_,_,rfl,rfl,rfl,hO1⟩)
   refine zL Zo ?_
   refine Qb ?_
   refine zD hD ?_
   refine zT 7 rfl (Zc rfl Zl) hD ?_
   refine qd 1 rfl ?_
   refine zL Zo ?_
   refine Qb ?_
   refine zD hD ?_
   refine zT 8 rfl (ZA rfl rfl rfl Zl (fun hg=>by omega)) hD ?_
   refine qd 11 rfl ?_
   refine Q3 (ys:=[x].flatMap ZN) Zj rfl rfl Z4 hQ.cut ⟨rfl,fun _=>rfl,zwO⟩ (by decide) (by omega) rfl rfl ?_
   intro v1 L1 hO1
   rw [←List.flatMap_append] at hO1
   obtain ⟨a1,c1,rfl⟩:=hO1.shape
   refine Qb ?_
   refine zD hD ?_
   refine zT 12 rfl (Qa rfl Zi) hD ?_
   refine qd 13 rfl ?_
   refine Zg rfl rfl Y3 rfl rfl (by (repeat (first | exact Upd.here | apply Upd.there | apply Qx))) rfl ?_
   refine Qb ?_
   refine zD hD ?_
   refine Qm (by kernel_rfl) ?_
   refine QA ?_
   exact zm (h:=⟨_,_,rfl,rfl,rfl,hO1⟩)
  refine zL Zo ?_
  refine Qb ?_
  refine zD hD ?_
  refine zT 7 rfl (Zc rfl Zl) hD ?_
  refine Q8 1 3 rfl rfl (by kernel_rfl) ?_ ?_
  ·
   refine zL Zo ?_
   refine Qb ?_
   refine zD hD ?_
   refine qd 3 rfl ?_
   refine zL Zo ?_
   refine Qb ?_
   refine zD hD ?_
   refine zT 4 rfl (Zc rfl Zl) hD ?_
   refine zT 8 rfl (ZA rfl rfl rfl Zl (fun hg=>by omega)) hD ?_
   refine qd 11 rfl ?_
   refine Q3 (ys:=[x].flatMap ZN) Zj rfl rfl Z4 hQ.cut ⟨rfl,fun _=>rfl,zwO⟩ (by decide) (by omega) rfl rfl ?_
   intro v1 L1 hO1
   rw [←List.flatMap_append] at hO1
   obtain ⟨a1,c1,rfl⟩:=hO1.shape
   refine Qb ?_
   refine zD hD ?_
   refine zT 12 rfl (Qa rfl Zi) hD ?_
   refine qd 13 rfl ?_
   refine Zg rfl rfl Y3 rfl rfl (by (repeat (first | exact Upd.here | apply Upd.there | apply Qx))) rfl ?_
   refine Qb ?_
   refine zD hD ?_
   refine Qm (by kernel_rfl) ?_
   refine QA ?_
   exact zm (h:=⟨_,_,rfl,rfl,rfl,hO1⟩)
  refine zL Zo ?_
  refine Qb ?_
  refine zD hD ?_
  refine zT 4 rfl (Zc rfl Zl) hD ?_
  refine qd 1 rfl ?_
  refine zL Zo ?_
  refine Qb ?_
  refine zD hD ?_
  refine zT 8 rfl (ZA rfl rfl rfl Zl (fun hg=>by omega)) hD ?_
  refine qd 11 rfl ?_
  refine Q3 (ys:=[x].flatMap ZN) Zj rfl rfl Z4 hQ.cut ⟨rfl,fun _=>rfl,zwO⟩ (by decide) (by omega) rfl rfl ?_
  intro v1 L1 hO1
  rw [←List.flatMap_append] at hO1
  obtain ⟨a1,c1,rfl⟩:=hO1.shape
  refine Qb ?_
  refine zD hD ?_
  refine zT 12 rfl (Qa rfl Zi) hD ?_
  refine qd 13 rfl ?_
  refine Zg rfl rfl Y3 rfl rfl (by (repeat (first | exact Upd.here | apply Upd.there | apply Qx))) rfl ?_
  refine Qb ?_
  refine zD hD ?_
  refine Qm (by kernel_rfl) ?_
  refine QA ?_
  exact zm (h:=⟨_,_,rfl,rfl,rfl,hO1⟩)
 rintro E I' loc' ⟨v,L,rfl,rfl,rfl,hO⟩
 refine Qr ?_
 refine Zv hO Zj (by decide) (by repeat (first | exact .cons .here .nil | exact Qu | exact Qq | apply Qo | apply Qn)) (fun I3 hI3 af3 cf3 ef3 hZ=>?_)
 subst ef3
 have hIc:=hIc.trans hI3
 refine Qk ?_
 refine zV (Qg rfl ZY (fun hg=>by exact Cells.g1) rfl) ?_
 refine zh Yy ?_
 refine zA (zN (QF ?_))
 first
 | exact Z0 rfl rfl rfl ZY zwO rfl (fun w hw=>⟨_,I3,[],rfl,hIc,hw.drop.drop,_,_,_,_,_,_,by rw [hs3]<;>rfl,rfl,zcc hs3 hZ,fun _=>rfl⟩)
end
section
open Go Go.Kn Go.Proofs
theorem zeU:Fun Tryz.prog 176:=.of Tryz.func176 (by kernel_rfl) (by kernel_rfl)
theorem zgR {I:Qv}{qa aa:Option Addr}{qn qc an ac:Nat}{qs:List Pk}{ks:List (Int×Int)}(hQ:Sl I 3 ZN qa qn qc qs)(hqn:qn≤100000)(hA:Sl I 2 JS aa an ac ks)(han:an≤100000)(i:Int):Vl Tryz.prog 115 [.agg #[.slice qa qn qc,.slice aa an ac],.int .i64 i] I [] (fun v I' L'=>∃ a m c a2 m2 c2,v= .tuple #[.agg #[.slice a m c,.slice a2 m2 c2],.int .i64 (UE qs ks i)]∧L'=[]∧zhP I' (UE qs ks i) a m c a2 m2 c2 (qs++[atP qs ks i]) aa an ac):=by
 intro g H w hw
 refine qe Tryz.func115 Tryz.ntmps115 hw ?_
 have hIc:=zwQ I
 refine zR ?_
 refine Zd rfl rfl rfl (fun b_2=>?_)
 refine Qs Ui rfl rfl (fun b_4=>?_)
 refine zA ?_
 refine zN (zR ?_)
 refine zV (Qg rfl ZY (fun hg=>by exact Cells.g1) rfl) ?_
 refine zM ?_
 refine qcV (vs:=[_,_]) rfl zeK (zvM hQ hqn hA han i) ?_
 refine zM ?_
 refine zE ?_
 refine zE ?_
 refine Qs zby rfl rfl (fun b_6=>?_)
 refine zh Jq ?_
 refine zA (zN (Qr (zR ?_)))
 refine zM ?_
 refine zC (zN ?_)
 refine zI ?_ ?_<;>intro hc14
 ·
  have he:atE qs ks i≠0:=by simpa using hc14
  have hrp:UE qs ks i=atE qs ks i:=if_neg he
  refine zR ?_
  refine zV (Qg rfl ZY (fun hg=>by exact Cells.g1) rfl) ?_
  refine zM ?_
  refine zh Yy ?_
  refine zA (zN (QF (Qi ?_)))
  first
  | exact Z0 rfl rfl rfl ZY (.there .here) rfl (fun w hw=>⟨_,I,[],rfl,hIc,hw.drop.drop.drop,_,_,_,_,_,_,by rw [hrp]<;>rfl,rfl,by rw [hrp];first | exact WY he | exact hZ⟩)
 have he:atE qs ks i=0:=by simpa using hc14
 have hrp:UE qs ks i=KW qs ks (atP qs ks i):=if_pos he
 refine Qw (Qc (zR ?_))
 refine zV (Qg rfl ZY (fun hg=>by exact Cells.g2) rfl) ?_
 refine zV (Qg rfl VB (fun hg=>by exact Cells.g0) rfl) ?_
 refine QC (cap:=[]) (vs:=[_,_]) rfl rfl zeU .nil (zjZ hQ hqn hA han (atP qs ks i)) rfl rfl ?_
 rintro vv1 I1 L1 hI1 ⟨a4,m4,c4,a5,m5,c5,rfl,rfl,hZ,hm⟩
 have hIc:=hIc.trans hI1
 refine zE ?_
 refine zE ?_
 refine zh Yy ?_
 refine zA (zN (QF ?_))
 first
 | exact Z0 rfl rfl rfl ZY (.there .here) rfl (fun w hw=>⟨_,I1,[],rfl,hIc,hw.drop.drop.drop,_,_,_,_,_,_,by rw [hrp]<;>rfl,rfl,by rw [hrp];first | exact WY he | exact hZ⟩)
end
end Go.Proofs.YtjblkbkmblkgoaaGreat
namespace Go.Kn
section
open Go
def LdV (P:Program)(I:Qv)(loc:Loc)(tt b:Nat)(v:Value):Prop:=∀ (g:World) (H:Qv) (w:World),St g I H loc w→(loadVar tt ⟨b,0,none⟩).run P w= .ok v w
theorem LdV.ag {P:Program}{I:Qv}{loc:Loc}{tt b n:Nat}{vs:List Value}(hA:AgT P tt n)(hc:Cells I loc b 0 vs)(hn:vs.length=n):LdV P I loc tt b (.agg vs.toArray):=fun g H w hw=>by
 have h1:(loadCells ⟨b,0,none⟩ n).run P w= .ok vs.toArray w:=by
  rw [←hn]
  exact run_loadCells_list w _ _ fun j v hj=>by rw [Z7];exact (hc j v hj).get hw
 have hA':=hA
 obtain ⟨_,i,h2,h3⟩:=hA'
 simp only [loadVar,Sem.run_bind,Sem.run_pure,Y1 hA,Result.andThen,if_true,run_sizeOf h2,h3,h1]
section
variable {P:Program} {fn:Func} {R:Ending→World→Prop} {N:Nat} {g:World} {I H:Qv} {loc:Loc} {E:Env} {r:Option Nat}
theorem znv {t u s tt b:Nat}{v v' v'':Value}(hr:fn.results= #[.cell t tt,.tmp u,.tmp s])(hv:Vz E t=some (.pointer (some ⟨b,0,none⟩)))(hv':Vz E u=some v')(hv'':Vz E s=some v'')(hl:LdV P I loc tt b v)
  (h:∀ w,St g I H loc w→R (.returned (.tuple #[v,v',v''])) w):At ⟨P,r,N,[],g,H⟩ (bodyPost P fn R) .ret E I loc:=fun a w ha hw=>
 ⟨ha.defers,.tuple #[v,v',v''],by
  have e1:=ha.env _ _ hv
  have e2:=ha.env _ _ hv'
  have e3:=ha.env _ _ hv''
  rw [Array.getD_eq_getD_getElem?] at e1 e2 e3
  have l1:=hl _ _ _ hw
  simp only [results,hr]
  simp [List.mapM_cons,e1,e2,e3,asAddr,l1],h w hw⟩
theorem zbh {t u s tt tt' b b':Nat}{v v' v'':Value}(hr:fn.results= #[.cell t tt,.cell u tt',.tmp s])(hv:Vz E t=some (.pointer (some ⟨b,0,none⟩)))(hv':Vz E u=some (.pointer (some ⟨b',0,none⟩)))(hv'':Vz E s=some v'')(hl:LdV P I loc tt b v)(hl':LdV P I loc tt' b' v')
  (h:∀ w,St g I H loc w→R (.returned (.tuple #[v,v',v''])) w):At ⟨P,r,N,[],g,H⟩ (bodyPost P fn R) .ret E I loc:=fun a w ha hw=>
 ⟨ha.defers,.tuple #[v,v',v''],by
  have e1:=ha.env _ _ hv
  have e2:=ha.env _ _ hv'
  have e3:=ha.env _ _ hv''
  rw [Array.getD_eq_getD_getElem?] at e1 e2 e3
  have l1:=hl _ _ _ hw
  have l2:=hl' _ _ _ hw
  simp only [results,hr]
  simp [List.mapM_cons,e1,e2,e3,asAddr,l1,l2],h w hw⟩
end
end
end Go.Kn
namespace Go.Proofs.YtjblkbkmblkgoaaGreat
section
open Go Go.Kn Go.Proofs
theorem zrb:Fun Tryz.prog 178:=.of Tryz.func178 (by kernel_rfl) (by kernel_rfl)
theorem zi0:PlT Tryz.prog 99 #[(0,1),(1,1),(2,1)] (.agg #[(.int .i64 0),(.int .i64 0),(.slice none 0 0)]):=⟨.of (by kernel_rfl),by kernel_rfl,fun w=>by kernel_rfl⟩
theorem Uf {I:Qv}{qa aa:Option Addr}{qn qc an ac:Nat}{qs:List Pk}{ks:List (Int×Int)}(hQ:Sl I 3 ZN qa qn qc qs)(hqn:qn≤100000)(hA:Sl I 2 JS aa an ac ks)(han:an≤100000)(i:Int):Vl Tryz.prog 113 [.agg #[.slice qa qn qc,.slice aa an ac],.int .i64 i] I [] (fun v I' L'=>∃ pk a m c a2 m2 c2,v= .tuple #[K5 pk,.agg #[.slice a m c,.slice a2 m2 c2],.int .i64 (atE qs ks i)]∧L'=[]∧(atE qs ks i=0→pk=V7 qs ks i)∧zhP I' (atE qs ks i) a m c a2 m2 c2 (qs.eraseIdx i.toNat) aa an ac):=by
 intro g H w hw
 refine qe Tryz.func113 Tryz.ntmps113 hw ?_
 have hIc:=zwQ I
 refine zR ?_
 refine Zd rfl rfl rfl (fun b_2=>?_)
 refine Qs zby rfl rfl (fun b_4=>?_)
 refine Qs Ui rfl rfl (fun b_5=>?_)
 refine zA (zN (Qr (zR ?_)))
 refine zV (Qg rfl ZY (fun hg=>by exact Cells.g2) rfl) ?_
 refine zM ?_
 refine qcV (vs:=[_,_]) rfl zeK (zvM hQ hqn hA han i) ?_
 refine zM ?_
 refine zE ?_
 refine zE ?_
 refine zh Jq ?_
 refine zA ?_
 refine zN (zR ?_)
 refine zM ?_
 refine zC (zN ?_)
 refine zI ?_ ?_<;>intro hc14
 ·
  have he:atE qs ks i≠0:=by simpa using hc14
  refine Qr ?_
  have hD:=zwQ I
  refine ZK ?_
  refine QZ I [(b_5,.cells #[.slice none 0 0,.slice none 0 0] 26 (0,0)),(b_4,.cells (ZN (atP qs ks i)).toArray 99 (0,0))] mixed ?_
  refine zT 0 rfl (Qg rfl VB (fun hg=>by exact Cells.g1) rfl) hD ?_
  refine zT 1 rfl (Qg rfl ZY (fun hg=>by exact Cells.g0) rfl) hD ?_
  refine zT 2 rfl (Qh rfl) hD ?_
  refine qd 3 rfl ?_
  refine zh Jq ?_
  refine Qb ?_
  refine zD hD ?_
  refine qd 4 rfl ?_
  refine zh Yy ?_
  refine Qb ?_
  refine zD hD ?_
  refine zT 5 rfl (QB rfl) hD ?_
  refine Qm (by kernel_rfl) ?_
  refine QA ?_
  refine Qc (QF (Qi ?_))
  exact zbh rfl rfl rfl rfl (.ag VB (.there .here) rfl) (.ag ZY .here rfl) (fun w hw=>⟨_,I,[],rfl,hIc,hw.drop.drop.drop,_,_,_,_,_,_,_,rfl,rfl,fun h=>absurd h he,WY he⟩)
 have he:atE qs ks i=0:=by simpa using hc14
 have hr:0≤i∧i<(qn:Int):=by have h:=zcp he;rw [hQ.len] at h;exact h
 refine Qw (Qc (Qr (Qr ?_)))
 have hD:=zwQ I
 refine ZK ?_
 refine QZ I [(b_4,.cells (ZN (atP qs ks i)).toArray 99 (0,0)),(b_2,.cells #[.slice qa qn qc,.slice aa an ac] 26 (0,0))] mixed ?_
 refine zT 0 rfl (Qa rfl Kc) hD ?_
 refine zT 1 rfl (Qd rfl Xx (fun hg=>by exact QG.h1 rfl)) hD ?_
 refine zT 2 rfl (Qa rfl Uj) hD ?_
 refine zT 3 rfl (Qd rfl Qy (fun hg=>by exact QG.h0 rfl)) hD ?_
 refine zT 4 rfl (Qa rfl KI) hD ?_
 refine zT 5 rfl (Qd rfl Qy (fun hg=>by exact QG.h0 rfl)) hD ?_
 refine qd 6 rfl ?_
 refine qcV (vs:=[_,_]) rfl zkf (zeb _ _ _) ?_
 refine Qb ?_
 refine zD hD ?_
 refine qd 7 rfl ?_
 refine qcV (vs:=[_,_]) rfl zrb (zve hA han (_,_)) ?_
 refine Qb ?_
 refine zD hD ?_
 refine Qm (by kernel_rfl) ?_
 refine QA ?_
 refine Qc ?_
 refine zI ?_ ?_<;>intro hc25
 ·
  have hcut:zoD ks (atP qs ks i)=true:=hc25
  refine Qk ?_
  refine zV (Q0 (ps:=[]) [_,_,_] zi0 rfl rfl) ?_
  refine zh Jq ?_
  refine zN (Qr ?_)
  refine zeH (loc':=[(b_5,.cells #[.slice none 0 0,.slice none 0 0] 26 (0,0)),(b_4,.cells (ZN (V7 qs ks i)).toArray 99 (0,0)),(b_2,.cells #[.slice qa qn qc,.slice aa an ac] 26 (0,0))]) (by (rw [zlW hcut];rfl)) ?_
  have hD:=zwQ I
  refine ZK ?_
  refine QZ I [(b_4,.cells (ZN (V7 qs ks i)).toArray 99 (0,0)),(b_2,.cells #[.slice qa qn qc,.slice aa an ac] 26 (0,0))] mixed ?_
  refine zT 0 rfl (Qg rfl VB (fun hg=>by exact Cells.g0) rfl) hD ?_
  refine zT 1 rfl (Qg rfl ZY (fun hg=>by exact Cells.g1) rfl) hD ?_
  refine zT 2 rfl (Qh rfl) hD ?_
  refine qd 3 rfl ?_
  refine QC (cap:=[]) (vs:=[_,_]) rfl rfl zfF .nil (zab hQ hqn hA han hr) rfl rfl ?_
  rintro vv1 I1 L1 hI1 ⟨a4,m4,c4,rfl,hm4,hZ,rfl⟩
  have hIc:=hIc.trans hI1;have hD:=hD.trans hI1
  refine Qb ?_
  refine zD hD ?_
  refine qd 4 rfl ?_
  refine zh Jq ?_
  refine Qb ?_
  refine zD hD ?_
  refine qd 5 rfl ?_
  refine zh Yy ?_
  refine Qb ?_
  refine zD hD ?_
  refine zT 6 rfl (QB rfl) hD ?_
  refine Qm (by kernel_rfl) ?_
  refine QA ?_
  refine Qc (QF ?_)
  first
  | exact zbh rfl rfl rfl rfl (.ag VB (.there .here) rfl) (.ag ZY .here rfl) (fun w hw=>⟨_,I1,[],rfl,hIc,hw.drop.drop.drop,_,_,_,_,_,_,_,by rw [he]<;>rfl,rfl,fun _=>rfl,zcc he hZ⟩)
 have hcut:zoD ks (atP qs ks i)=false:=hc25
 refine Qw (Qc (Qr ?_))
 refine zeH (loc':=[(b_5,.cells #[.slice none 0 0,.slice none 0 0] 26 (0,0)),(b_4,.cells (ZN (V7 qs ks i)).toArray 99 (0,0)),(b_2,.cells #[.slice qa qn qc,.slice aa an ac] 26 (0,0))]) (by (rw [zpC hcut]<;>rfl)) ?_
 have hD:=zwQ I
 refine ZK ?_
 refine QZ I [(b_4,.cells (ZN (V7 qs ks i)).toArray 99 (0,0)),(b_2,.cells #[.slice qa qn qc,.slice aa an ac] 26 (0,0))] mixed ?_
 refine zT 0 rfl (Qg rfl VB (fun hg=>by exact Cells.g0) rfl) hD ?_
 refine zT 1 rfl (Qg rfl ZY (fun hg=>by exact Cells.g1) rfl) hD ?_
 refine zT 2 rfl (Qh rfl) hD ?_
 refine qd 3 rfl ?_
 refine QC (cap:=[]) (vs:=[_,_]) rfl rfl zfF .nil (zab hQ hqn hA han hr) rfl rfl ?_
 rintro vv2 I2 L2 hI2 ⟨a4,m4,c4,rfl,hm4,hZ,rfl⟩
 have hIc:=hIc.trans hI2;have hD:=hD.trans hI2
 refine Qb ?_
 refine zD hD ?_
 refine qd 4 rfl ?_
 refine zh Jq ?_
 refine Qb ?_
 refine zD hD ?_
 refine qd 5 rfl ?_
 refine zh Yy ?_
 refine Qb ?_
 refine zD hD ?_
 refine zT 6 rfl (QB rfl) hD ?_
 refine Qm (by kernel_rfl) ?_
 refine QA ?_
 refine Qc (QF ?_)
 first
 | exact zbh rfl rfl rfl rfl (.ag VB (.there .here) rfl) (.ag ZY .here rfl) (fun w hw=>⟨_,I2,[],rfl,hIc,hw.drop.drop.drop,_,_,_,_,_,_,_,by rw [he]<;>rfl,rfl,fun _=>rfl,zcc he hZ⟩)
end
section
open Go Go.Kn Go.Proofs
theorem Yq:QP Tryz.prog 108 0 0:=.of (by kernel_rfl)
theorem ZR:QP Tryz.prog 28 0 0:=.of (by kernel_rfl)
theorem JQ:Fun Tryz.prog 107:=.of Tryz.func107 (by kernel_rfl) (by kernel_rfl)
theorem YV:ScT Tryz.prog 22:=.of (by kernel_rfl)
theorem YK:SlT Tryz.prog 22 59 1:=.of (by kernel_rfl)
theorem Uh (I:Qv)(b:Bool)(e:Int):KF Tryz.prog 107 [.bool b,.int .i64 e] I [] (fun v I' L'=>v= .tuple #[]∧I'=I∧L'=[]∧b=true) (fun v=>v= .iface 50 (.int .i64 e)∧b=false):=by
 intro g H w hw
 refine qe Tryz.func107 Tryz.ntmps107 hw ?_
 have hIc:=zwQ I
 refine zR (zM ?_)
 refine zO (zN ?_)
 refine zI ?_ ?_<;>intro hc5
 ·
  refine Qk (zM ?_)
  refine zV (zbP rfl (by kernel_rfl)) ?_
  refine zd3 rfl ?_
  repeat (first | apply Zx | apply Zm)
  exact ZE hIc ⟨rfl,by simpa using hc5⟩
 refine Qw ?_
 exact YI (Ys rfl (fun w hw=>.inl ⟨_,I,[],rfl,hIc,hw.drop,rfl,rfl,rfl,by simpa using hc5⟩))
theorem zfg {I:Qv}{bc:Nat}{pa qa aa:Option Addr}{pn pc qn qc an ac:Nat}(i:Int):KF Tryz.prog 106 [ZM bc,.int .i64 i] I [(bc,.cells #[.slice pa pn pc,.slice qa qn qc,.slice aa an ac] 108 (0,0))] (fun v I' L'=>v= .tuple #[]∧I'=I∧L'=[(bc,.cells #[.slice pa pn pc,.slice qa qn qc,.slice aa an ac] 108 (0,0))]∧0≤i∧i<(pn:Int)) (fun v=>v= .iface 50 (.int .i64 1)∧¬(0≤i∧i<(pn:Int))):=by
 intro g H w hw
 refine qe Tryz.func106 Tryz.ntmps106 hw ?_
 have hIc:=zwQ I
 refine Qk (zM ?_)
 refine zC ?_
 refine zM ?_
 refine QL 2 rfl rfl rfl ?_
 refine zK (Qh rfl) ?_
 refine zK (Qh rfl) ?_
 refine zK (QM rfl) ?_
 refine zK (Qa rfl Yq) ?_
 refine zK (Qa rfl ZR) ?_
 refine zK (Qd rfl YV (fun hg=>by exact QG.h0 rfl)) ?_
 refine zK (Zc rfl YK) ?_
 refine zK (QV rfl rfl rfl) ?_
 refine QU rfl rfl rfl rfl rfl ?_
 refine ZO (cap:=[]) (vs:=[_,_]) rfl rfl JQ .nil (Uh I (decide (i≥0)&&decide (i<(pn:Int))) 1) rfl rfl ?_ (fun pv hpv=>by (repeat (first | with_reducible refine Zx ?_ | with_reducible refine Zm ?_ | refine V6 ?_));refine ZE hIc ?_;exact (⟨hpv.1,by have h:=hpv.2;simp at h;omega⟩))
 rintro vv1 I1 L1 hI1 ⟨rfl,rfl,rfl,hok⟩
 have hIc:=hIc.trans hI1
 have hok2:0≤i∧i<(pn:Int):=by simpa using hok
 refine Qb ?_
 exact YI (Ys rfl (fun w hw=>.inl ⟨_,I1,_,rfl,hIc,hw,rfl,rfl,rfl,hok2.1,hok2.2⟩))
end
section
open Go Go.Kn Go.Proofs
theorem Z1:QP Tryz.prog 28 1 1:=.of (by kernel_rfl)
theorem zcr:QP Tryz.prog 47 3 3:=.of (by kernel_rfl)
theorem zkd:Fun Tryz.prog 114:=.of Tryz.func114 (by kernel_rfl) (by kernel_rfl)
theorem zkZ:Fun Tryz.prog 115:=.of Tryz.func115 (by kernel_rfl) (by kernel_rfl)
theorem zto {I:Qv}{bc:Nat}{pa qa aa:Option Addr}{pn pc qn qc an ac:Nat}{qs:List Pk}{ks:List (Int×Int)}(hQ:Sl I 3 ZN qa qn qc qs)(hqn:qn≤100000)(hA:Sl I 2 JS aa an ac ks)(han:an≤100000)(x:Ev):KF Tryz.prog 49 [ZM bc,.agg (zaB x).toArray] I [(bc,.cells #[.slice pa pn pc,.slice qa qn qc,.slice aa an ac] 108 (0,0))] (fun v I' L'=>v= .tuple #[]∧atE qs ks x.at_=0∧∃ a m c,L'=[(bc,.cells #[.slice pa pn pc,.slice a m c,.slice aa an ac] 108 (0,0))]∧Sl I' 3 ZN a m c (qs.eraseIdx x.at_.toNat)) (fun v=>v= .iface 50 (.int .i64 (atE qs ks x.at_))∧atE qs ks x.at_≠0):=by
 intro g H w hw
 refine qe Tryz.func49 Tryz.ntmps49 hw ?_
 have hIc:=zwQ I
 refine zR ?_
 refine Zd rfl rfl rfl (fun b_3=>?_)
 refine Qb ?_
 refine QN .here (fun I1 hI1 hb1=>?_)
 have hQ:=hQ.mono hI1;have hA:=hA.mono hI1;have hIc:=hIc.trans hI1
 have h3:=BxI.of hb1
 refine Qc (Qr ?_)
 have hD:=zwQ I1
 refine QZ I1 [(bc,.cells #[.slice pa pn pc,.slice qa qn qc,.slice aa an ac] 108 (0,0))] mixed ?_
 refine QQ 0 rfl (Qh rfl) (.none rfl) rfl rfl rfl (by kernel_rfl) (by kernel_rfl) (by kernel_rfl) (by repeat (first | exact QT | with_reducible refine QS ?_ | with_reducible refine QJ ?_)) hD (by repeat (first | exact .refl | exact Qe | refine .keep ?_ | refine .drop ?_ | refine Qf ?_)) ?_
 refine QQ 1 rfl (QM rfl) (.none rfl) rfl rfl rfl (by kernel_rfl) (by kernel_rfl) (by kernel_rfl) (by repeat (first | exact QT | with_reducible refine QS ?_ | with_reducible refine QJ ?_)) hD (by repeat (first | exact .refl | exact Qe | refine .keep ?_ | refine .drop ?_ | refine Qf ?_)) ?_
 refine QQ 2 rfl (Qa rfl Yq) (.none rfl) rfl rfl rfl (by kernel_rfl) (by kernel_rfl) (by kernel_rfl) (by repeat (first | exact QT | with_reducible refine QS ?_ | with_reducible refine QJ ?_)) hD (by repeat (first | exact .refl | exact Qe | refine .keep ?_ | refine .drop ?_ | refine Qf ?_)) ?_
 refine QQ 3 rfl (Qa rfl Z1) (.none rfl) rfl rfl rfl (by kernel_rfl) (by kernel_rfl) (by kernel_rfl) (by repeat (first | exact QT | with_reducible refine QS ?_ | with_reducible refine QJ ?_)) hD (by repeat (first | exact .refl | exact Qe | refine .keep ?_ | refine .drop ?_ | refine Qf ?_)) ?_
 refine QQ 4 rfl (Qg rfl ZY (fun hg=>by exact Cells.s0 (vs:=[_,_]) rfl) rfl) (.none rfl) rfl rfl rfl (by kernel_rfl) (by kernel_rfl) (by kernel_rfl) (by repeat (first | exact QT | with_reducible refine QS ?_ | with_reducible refine QJ ?_)) hD (by repeat (first | exact .refl | exact Qe | refine .keep ?_ | refine .drop ?_ | refine Qf ?_)) ?_
 refine QQ 5 rfl (Qa rfl zcr) (.none rfl) rfl rfl rfl (by kernel_rfl) (by kernel_rfl) (by kernel_rfl) (by repeat (first | exact QT | with_reducible refine QS ?_ | with_reducible refine QJ ?_)) hD (by repeat (first | exact .refl | exact Qe | refine .keep ?_ | refine .drop ?_ | refine Qf ?_)) ?_
 refine QQ 6 rfl (Qd rfl Qy (fun hg=>by exact QG.imm h3.out rfl)) (.none rfl) rfl rfl rfl (by kernel_rfl) (by kernel_rfl) (by kernel_rfl) (by repeat (first | exact QT | with_reducible refine QS ?_ | with_reducible refine QJ ?_)) hD (by repeat (first | exact .refl | exact Qe | refine .keep ?_ | refine .drop ?_ | refine Qf ?_)) ?_
 refine Q8 7 11 rfl rfl (by kernel_rfl) ?_ ?_
 ·
  refine QC (cap:=[]) (vs:=[_,_]) rfl rfl zkd .nil (zn2 hQ hqn hA han x.at_) rfl rfl ?_
  rintro vv2 I2 L2 hI2 ⟨a4,m4,c4,a5,m5,c5,rfl,rfl,hZ⟩
  have hIc:=hIc.trans hI2;have hD:=hD.trans hI2
  refine Qb ?_
  refine zD hD ?_
  refine QQ 8 rfl (Qh rfl) (.none rfl) rfl rfl rfl (by kernel_rfl) (by kernel_rfl) (by kernel_rfl) (by repeat (first | exact QT | with_reducible refine QS ?_ | with_reducible refine QJ ?_)) hD (by repeat (first | exact .refl | exact Qe | refine .keep ?_ | refine .drop ?_ | refine Qf ?_)) ?_
  refine QQ 9 rfl (Q4 rfl rfl) (.none rfl) rfl rfl rfl (by kernel_rfl) (by kernel_rfl) (by kernel_rfl) (by repeat (first | exact QT | with_reducible refine QS ?_ | with_reducible refine QJ ?_)) hD (by repeat (first | exact .refl | exact Qe | refine .keep ?_ | refine .drop ?_ | refine Qf ?_)) ?_
  refine QQ 10 rfl (Q4 rfl rfl) (.none rfl) rfl rfl rfl (by kernel_rfl) (by kernel_rfl) (by kernel_rfl) (by repeat (first | exact QT | with_reducible refine QS ?_ | with_reducible refine QJ ?_)) hD (by repeat (first | exact .refl | exact Qe | refine .keep ?_ | refine .drop ?_ | refine Qf ?_)) ?_
  refine qd 11 rfl ?_
  refine Qs Ui rfl rfl (fun b_4=>?_)
  refine Qb ?_
  refine zD hD ?_
  refine qd 12 rfl ?_
  refine zh Yy ?_
  refine Qb ?_
  refine zD hD ?_
  refine QQ 13 rfl (QB rfl) (.none rfl) rfl rfl rfl (by kernel_rfl) (by kernel_rfl) (by kernel_rfl) (by repeat (first | exact QT | with_reducible refine QS ?_ | with_reducible refine QJ ?_)) hD (by repeat (first | exact .refl | exact Qe | refine .keep ?_ | refine .drop ?_ | refine Qf ?_)) ?_
  refine Qm (by kernel_rfl) ?_
  refine Qc (zR (zM ?_))
  refine zC ?_
  refine zM ?_
  refine ZO (cap:=[]) (vs:=[_,_]) rfl rfl JQ .nil (Uh I2 (atE qs ks x.at_==0) (atE qs ks x.at_)) rfl rfl ?_ (fun pv hpv=>by (repeat (first | with_reducible refine Zx ?_ | with_reducible refine Zm ?_ | refine V6 ?_));refine ZE hIc ?_;exact (⟨hpv.1,by simpa using hpv.2⟩))
  rintro vv3 I3 L3 hI3 ⟨rfl,rfl,rfl,hok⟩
  have hZ:=hZ.mono hI3;have hIc:=hIc.trans hI3
  have he:atE qs ks x.at_=0:=by simpa using hok
  obtain ⟨rfl,rfl,rfl,hS9⟩:=hZ.ok he
  refine zN (Qk (zM ?_))
  refine zV (Qg rfl ZY (fun hg=>by exact Cells.g0) rfl) ?_
  refine zV (QM rfl) ?_
  refine zF Yq ?_
  refine zF Z1 ?_
  refine VF rfl rfl Yy rfl rfl rfl rfl (by repeat (first | exact Upd.here | apply Upd.there | apply Qx)) ?_
  refine Qb ?_
  exact YI (Ys rfl (fun w hw=>.inl ⟨_,I3,_,rfl,hIc,by exact hw.subL (by repeat (first | exact .refl | refine .drop ?_)),rfl,he,_,_,_,rfl,hS9⟩))
 refine Qs Ui rfl rfl (fun b_4=>?_)
 refine Qb ?_
 refine zD hD ?_
 refine qd 7 rfl ?_
 refine QC (cap:=[]) (vs:=[_,_]) rfl rfl zkd .nil (zn2 hQ hqn hA han x.at_) rfl rfl ?_
 rintro vv4 I4 L4 hI4 ⟨a4,m4,c4,a5,m5,c5,rfl,rfl,hZ⟩
 have hIc:=hIc.trans hI4;have hD:=hD.trans hI4
 refine Qb ?_
 refine zD hD ?_
 refine QQ 8 rfl (Qh rfl) (.none rfl) rfl rfl rfl (by kernel_rfl) (by kernel_rfl) (by kernel_rfl) (by repeat (first | exact QT | with_reducible refine QS ?_ | with_reducible refine QJ ?_)) hD (by repeat (first | exact .refl | exact Qe | refine .keep ?_ | refine .drop ?_ | refine Qf ?_)) ?_
 refine QQ 9 rfl (Q4 rfl rfl) (.none rfl) rfl rfl rfl (by kernel_rfl) (by kernel_rfl) (by kernel_rfl) (by repeat (first | exact QT | with_reducible refine QS ?_ | with_reducible refine QJ ?_)) hD (by repeat (first | exact .refl | exact Qe | refine .keep ?_ | refine .drop ?_ | refine Qf ?_)) ?_
 refine QQ 10 rfl (Q4 rfl rfl) (.none rfl) rfl rfl rfl (by kernel_rfl) (by kernel_rfl) (by kernel_rfl) (by repeat (first | exact QT | with_reducible refine QS ?_ | with_reducible refine QJ ?_)) hD (by repeat (first | exact .refl | exact Qe | refine .keep ?_ | refine .drop ?_ | refine Qf ?_)) ?_
 refine qd 12 rfl ?_
 refine zh Yy ?_
 refine Qb ?_
 refine zD hD ?_
 refine QQ 13 rfl (QB rfl) (.none rfl) rfl rfl rfl (by kernel_rfl) (by kernel_rfl) (by kernel_rfl) (by repeat (first | exact QT | with_reducible refine QS ?_ | with_reducible refine QJ ?_)) hD (by repeat (first | exact .refl | exact Qe | refine .keep ?_ | refine .drop ?_ | refine Qf ?_)) ?_
 refine Qm (by kernel_rfl) ?_
 refine Qc (zR (zM ?_))
 refine zC ?_
 refine zM ?_
 refine ZO (cap:=[]) (vs:=[_,_]) rfl rfl JQ .nil (Uh I4 (atE qs ks x.at_==0) (atE qs ks x.at_)) rfl rfl ?_ (fun pv hpv=>by (repeat (first | with_reducible refine Zx ?_ | with_reducible refine Zm ?_ | refine V6 ?_));refine ZE hIc ?_;exact (⟨hpv.1,by simpa using hpv.2⟩))
 rintro vv5 I5 L5 hI5 ⟨rfl,rfl,rfl,hok⟩
 have hZ:=hZ.mono hI5;have hIc:=hIc.trans hI5
 have he:atE qs ks x.at_=0:=by simpa using hok
 obtain ⟨rfl,rfl,rfl,hS9⟩:=hZ.ok he
 refine zN (Qk (zM ?_))
 refine zV (Qg rfl ZY (fun hg=>by exact Cells.g0) rfl) ?_
 refine zV (QM rfl) ?_
 refine zF Yq ?_
 refine zF Z1 ?_
 refine VF rfl rfl Yy rfl rfl rfl rfl (by repeat (first | exact Upd.here | apply Upd.there | apply Qx)) ?_
 refine Qb ?_
 exact YI (Ys rfl (fun w hw=>.inl ⟨_,I5,_,rfl,hIc,by exact hw.subL (by repeat (first | exact .refl | refine .drop ?_)),rfl,he,_,_,_,rfl,hS9⟩))
theorem zmi {I:Qv}{bc:Nat}{pa qa aa:Option Addr}{pn pc qn qc an ac:Nat}{qs:List Pk}{ks:List (Int×Int)}(hQ:Sl I 3 ZN qa qn qc qs)(hqn:qn≤100000)(hA:Sl I 2 JS aa an ac ks)(han:an≤100000)(x:Ev):KF Tryz.prog 50 [ZM bc,.agg (zaB x).toArray] I [(bc,.cells #[.slice pa pn pc,.slice qa qn qc,.slice aa an ac] 108 (0,0))] (fun v I' L'=>v= .tuple #[]∧UE qs ks x.at_=0∧∃ a m c,L'=[(bc,.cells #[.slice pa pn pc,.slice a m c,.slice aa an ac] 108 (0,0))]∧Sl I' 3 ZN a m c (qs++[atP qs ks x.at_])) (fun v=>v= .iface 50 (.int .i64 (UE qs ks x.at_))∧UE qs ks x.at_≠0):=by
 intro g H w hw
 refine qe Tryz.func50 Tryz.ntmps50 hw ?_
 have hIc:=zwQ I
 refine zR ?_
 refine Zd rfl rfl rfl (fun b_3=>?_)
 refine Qb ?_
 refine QN .here (fun I1 hI1 hb1=>?_)
 have hQ:=hQ.mono hI1;have hA:=hA.mono hI1;have hIc:=hIc.trans hI1
 have h3:=BxI.of hb1
 refine Qc (Qr ?_)
 have hD:=zwQ I1
 refine QZ I1 [(bc,.cells #[.slice pa pn pc,.slice qa qn qc,.slice aa an ac] 108 (0,0))] mixed ?_
 refine QQ 0 rfl (Qh rfl) (.none rfl) rfl rfl rfl (by kernel_rfl) (by kernel_rfl) (by kernel_rfl) (by repeat (first | exact QT | with_reducible refine QS ?_ | with_reducible refine QJ ?_)) hD (by repeat (first | exact .refl | exact Qe | refine .keep ?_ | refine .drop ?_ | refine Qf ?_)) ?_
 refine QQ 1 rfl (QM rfl) (.none rfl) rfl rfl rfl (by kernel_rfl) (by kernel_rfl) (by kernel_rfl) (by repeat (first | exact QT | with_reducible refine QS ?_ | with_reducible refine QJ ?_)) hD (by repeat (first | exact .refl | exact Qe | refine .keep ?_ | refine .drop ?_ | refine Qf ?_)) ?_
 refine QQ 2 rfl (Qa rfl Yq) (.none rfl) rfl rfl rfl (by kernel_rfl) (by kernel_rfl) (by kernel_rfl) (by repeat (first | exact QT | with_reducible refine QS ?_ | with_reducible refine QJ ?_)) hD (by repeat (first | exact .refl | exact Qe | refine .keep ?_ | refine .drop ?_ | refine Qf ?_)) ?_
 refine QQ 3 rfl (Qa rfl Z1) (.none rfl) rfl rfl rfl (by kernel_rfl) (by kernel_rfl) (by kernel_rfl) (by repeat (first | exact QT | with_reducible refine QS ?_ | with_reducible refine QJ ?_)) hD (by repeat (first | exact .refl | exact Qe | refine .keep ?_ | refine .drop ?_ | refine Qf ?_)) ?_
 refine QQ 4 rfl (Qg rfl ZY (fun hg=>by exact Cells.s0 (vs:=[_,_]) rfl) rfl) (.none rfl) rfl rfl rfl (by kernel_rfl) (by kernel_rfl) (by kernel_rfl) (by repeat (first | exact QT | with_reducible refine QS ?_ | with_reducible refine QJ ?_)) hD (by repeat (first | exact .refl | exact Qe | refine .keep ?_ | refine .drop ?_ | refine Qf ?_)) ?_
 refine QQ 5 rfl (Qa rfl zcr) (.none rfl) rfl rfl rfl (by kernel_rfl) (by kernel_rfl) (by kernel_rfl) (by repeat (first | exact QT | with_reducible refine QS ?_ | with_reducible refine QJ ?_)) hD (by repeat (first | exact .refl | exact Qe | refine .keep ?_ | refine .drop ?_ | refine Qf ?_)) ?_
 refine QQ 6 rfl (Qd rfl Qy (fun hg=>by exact QG.imm h3.out rfl)) (.none rfl) rfl rfl rfl (by kernel_rfl) (by kernel_rfl) (by kernel_rfl) (by repeat (first | exact QT | with_reducible refine QS ?_ | with_reducible refine QJ ?_)) hD (by repeat (first | exact .refl | exact Qe | refine .keep ?_ | refine .drop ?_ | refine Qf ?_)) ?_
 refine Q8 7 11 rfl rfl (by kernel_rfl) ?_ ?_
 ·
  refine QC (cap:=[]) (vs:=[_,_]) rfl rfl zkZ .nil (zgR hQ hqn hA han x.at_) rfl rfl ?_
  rintro vv2 I2 L2 hI2 ⟨a4,m4,c4,a5,m5,c5,rfl,rfl,hZ⟩
  have hIc:=hIc.trans hI2;have hD:=hD.trans hI2
  refine Qb ?_
  refine zD hD ?_
  refine QQ 8 rfl (Qh rfl) (.none rfl) rfl rfl rfl (by kernel_rfl) (by kernel_rfl) (by kernel_rfl) (by repeat (first | exact QT | with_reducible refine QS ?_ | with_reducible refine QJ ?_)) hD (by repeat (first | exact .refl | exact Qe | refine .keep ?_ | refine .drop ?_ | refine Qf ?_)) ?_
  refine QQ 9 rfl (Q4 rfl rfl) (.none rfl) rfl rfl rfl (by kernel_rfl) (by kernel_rfl) (by kernel_rfl) (by repeat (first | exact QT | with_reducible refine QS ?_ | with_reducible refine QJ ?_)) hD (by repeat (first | exact .refl | exact Qe | refine .keep ?_ | refine .drop ?_ | refine Qf ?_)) ?_
  refine QQ 10 rfl (Q4 rfl rfl) (.none rfl) rfl rfl rfl (by kernel_rfl) (by kernel_rfl) (by kernel_rfl) (by repeat (first | exact QT | with_reducible refine QS ?_ | with_reducible refine QJ ?_)) hD (by repeat (first | exact .refl | exact Qe | refine .keep ?_ | refine .drop ?_ | refine Qf ?_)) ?_
  refine qd 11 rfl ?_
  refine Qs Ui rfl rfl (fun b_4=>?_)
  refine Qb ?_
  refine zD hD ?_
  refine qd 12 rfl ?_
  refine zh Yy ?_
  refine Qb ?_
  refine zD hD ?_
  refine QQ 13 rfl (QB rfl) (.none rfl) rfl rfl rfl (by kernel_rfl) (by kernel_rfl) (by kernel_rfl) (by repeat (first | exact QT | with_reducible refine QS ?_ | with_reducible refine QJ ?_)) hD (by repeat (first | exact .refl | exact Qe | refine .keep ?_ | refine .drop ?_ | refine Qf ?_)) ?_
  refine Qm (by kernel_rfl) ?_
  refine Qc (zR (zM ?_))
  refine zC ?_
  refine zM ?_
  refine ZO (cap:=[]) (vs:=[_,_]) rfl rfl JQ .nil (Uh I2 (UE qs ks x.at_==0) (UE qs ks x.at_)) rfl rfl ?_ (fun pv hpv=>by (repeat (first | with_reducible refine Zx ?_ | with_reducible refine Zm ?_ | refine V6 ?_));refine ZE hIc ?_;exact (⟨hpv.1,by simpa using hpv.2⟩))
  rintro vv3 I3 L3 hI3 ⟨rfl,rfl,rfl,hok⟩
  have hZ:=hZ.mono hI3;have hIc:=hIc.trans hI3
  have he:UE qs ks x.at_=0:=by simpa using hok
  obtain ⟨rfl,rfl,rfl,hS9⟩:=hZ.ok he
  refine zN (Qk (zM ?_))
  refine zV (Qg rfl ZY (fun hg=>by exact Cells.g0) rfl) ?_
  refine zV (QM rfl) ?_
  refine zF Yq ?_
  refine zF Z1 ?_
  refine VF rfl rfl Yy rfl rfl rfl rfl (by repeat (first | exact Upd.here | apply Upd.there | apply Qx)) ?_
  refine Qb ?_
  exact YI (Ys rfl (fun w hw=>.inl ⟨_,I3,_,rfl,hIc,by exact hw.subL (by repeat (first | exact .refl | refine .drop ?_)),rfl,he,_,_,_,rfl,hS9⟩))
 refine Qs Ui rfl rfl (fun b_4=>?_)
 refine Qb ?_
 refine zD hD ?_
 refine qd 7 rfl ?_
 refine QC (cap:=[]) (vs:=[_,_]) rfl rfl zkZ .nil (zgR hQ hqn hA han x.at_) rfl rfl ?_
 rintro vv4 I4 L4 hI4 ⟨a4,m4,c4,a5,m5,c5,rfl,rfl,hZ⟩
 have hIc:=hIc.trans hI4;have hD:=hD.trans hI4
 refine Qb ?_
 refine zD hD ?_
 refine QQ 8 rfl (Qh rfl) (.none rfl) rfl rfl rfl (by kernel_rfl) (by kernel_rfl) (by kernel_rfl) (by repeat (first | exact QT | with_reducible refine QS ?_ | with_reducible refine QJ ?_)) hD (by repeat (first | exact .refl | exact Qe | refine .keep ?_ | refine .drop ?_ | refine Qf ?_)) ?_
 refine QQ 9 rfl (Q4 rfl rfl) (.none rfl) rfl rfl rfl (by kernel_rfl) (by kernel_rfl) (by kernel_rfl) (by repeat (first | exact QT | with_reducible refine QS ?_ | with_reducible refine QJ ?_)) hD (by repeat (first | exact .refl | exact Qe | refine .keep ?_ | refine .drop ?_ | refine Qf ?_)) ?_
 refine QQ 10 rfl (Q4 rfl rfl) (.none rfl) rfl rfl rfl (by kernel_rfl) (by kernel_rfl) (by kernel_rfl) (by repeat (first | exact QT | with_reducible refine QS ?_ | with_reducible refine QJ ?_)) hD (by repeat (first | exact .refl | exact Qe | refine .keep ?_ | refine .drop ?_ | refine Qf ?_)) ?_
 refine qd 12 rfl ?_
 refine zh Yy ?_
 refine Qb ?_
 refine zD hD ?_
 refine QQ 13 rfl (QB rfl) (.none rfl) rfl rfl rfl (by kernel_rfl) (by kernel_rfl) (by kernel_rfl) (by repeat (first | exact QT | with_reducible refine QS ?_ | with_reducible refine QJ ?_)) hD (by repeat (first | exact .refl | exact Qe | refine .keep ?_ | refine .drop ?_ | refine Qf ?_)) ?_
 refine Qm (by kernel_rfl) ?_
 refine Qc (zR (zM ?_))
 refine zC ?_
 refine zM ?_
 refine ZO (cap:=[]) (vs:=[_,_]) rfl rfl JQ .nil (Uh I4 (UE qs ks x.at_==0) (UE qs ks x.at_)) rfl rfl ?_ (fun pv hpv=>by (repeat (first | with_reducible refine Zx ?_ | with_reducible refine Zm ?_ | refine V6 ?_));refine ZE hIc ?_;exact (⟨hpv.1,by simpa using hpv.2⟩))
 rintro vv5 I5 L5 hI5 ⟨rfl,rfl,rfl,hok⟩
 have hZ:=hZ.mono hI5;have hIc:=hIc.trans hI5
 have he:UE qs ks x.at_=0:=by simpa using hok
 obtain ⟨rfl,rfl,rfl,hS9⟩:=hZ.ok he
 refine zN (Qk (zM ?_))
 refine zV (Qg rfl ZY (fun hg=>by exact Cells.g0) rfl) ?_
 refine zV (QM rfl) ?_
 refine zF Yq ?_
 refine zF Z1 ?_
 refine VF rfl rfl Yy rfl rfl rfl rfl (by repeat (first | exact Upd.here | apply Upd.there | apply Qx)) ?_
 refine Qb ?_
 exact YI (Ys rfl (fun w hw=>.inl ⟨_,I5,_,rfl,hIc,by exact hw.subL (by repeat (first | exact .refl | refine .drop ?_)),rfl,he,_,_,_,rfl,hS9⟩))
end
end Go.Proofs.YtjblkbkmblkgoaaGreat
