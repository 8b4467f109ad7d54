/- partiesConverge_holds, part D of the proof: what its theorems say holds without further conditions. -/
import Derived.Lib.SlicesCompact
import Derived.Lib.RowBridge
import Derived.Shelf.Small.Bits
import Derived.Shelf.Small.Strs
import Derived.Shelf.Small.Wraps
import Derived.Shelf.Strconv.Itoa0
import Derived.Shelf.Sort.Plain
import Derived.Ground.Names2Prog
import Derived.Shelf.Slices.SearchI
import Derived.Shelf.Slices.In.SortNone
import Derived.Ground.SlgnProg
import Derived.Shelf.SlicesE.Clone
import Derived.Shelf.SlicesQ.Reverse
import Derived.Ground.SlsfProg
import Derived.Shelf.SlSortCmp.InsertionK
import Derived.Shelf.SlSortCmp.SiftDownK
import Derived.Shelf.SlSortCmp.HeapSortK
import Derived.Shelf.SlSortCmp.MedianK
import Derived.Shelf.SlSortCmp.PivotK
import Derived.Shelf.SlSortCmp.ReverseRangeK
import Derived.Shelf.SlSortCmp.PartialInsertionK
import Derived.Shelf.SlSortCmp.PartitionEqualK
import Derived.Shelf.SlSortCmp.PartitionK
import Derived.Shelf.SlSortCmp.PdqK
import Derived.Shelf.SlSortCmp.WholeK
import Derived.Shelf.SlSortCmp.NoneTotal
import Derived.Test.YtjblkbkmblkgoaaGreatProg
import Derived.Test.YtjblkbkmblkgoaaGreatPCC
namespace Go.Proofs.YtjblkbkmblkgoaaGreat
section
open Go Go.Kn Go.Proofs
theorem zvz (I:Qv)(a b:Nat)(hb:0<b)(ha:a≤9223372036854775807)(hb2:b≤9223372036854775807):Yc Tryz.prog 281 [.int .u64 a,.int .u64 b] I (.int .u64 (Nat.gcd a b:Nat)):=by
 intro g H w hw
 refine ziJ Tryz.func281 rfl Tryz.ntmps281 rfl hw ?_
 have hIc:=zxd I
 refine zR ?_
 refine Qt zsc rfl rfl (fun b_4=>?_)
 refine zN (Qq (zR (zM ?_)))
 refine zC (zN ?_)
 refine zI ?_ ?_<;>intro hc7
 ·
  simp at hc7;omega
 refine Qw (Qc (zR (zM ?_)))
 refine zS Zc ?_
 refine zN (Qq (zR (zM ?_)))
 refine zM ?_
 refine QE (cap:=[]) (vs:=[_,_]) rfl rfl zp4 .nil (zvX I _ _) rfl rfl ?_
 rintro vv1 I1 L1 hI1 ⟨rfl,b1,b2,rfl,rfl⟩
 have hIc:=hIc.trans hI1
 refine zN (QD ?_)
 refine zea (ms:=[]) (K:=ztK 216 b1 b2 (a) (b)) (L:=[(b_4,.cells #[.int .u64 b] 216 (0,0))]) (enc:=fun n:Nat=>.int .u64 n) (xs:=zdl a b) (fun pre I' loc'=>loc'=[(b_4,.cells #[.int .u64 ((pre.getLastD b:Nat):Int)] 216 (0,0))]) (fun _ _ _ _=>False) (fun pre x E2 I2 loc2=>E2=[(4,ZK b_4),(5,.int .u64 x)]∧loc2=[(b_4,.cells #[.int .u64 ((pre.getLastD b:Nat):Int)] 216 (0,0))]) rfl zq1 (zmC _ a b b1 b2 hb ha hb2) rfl rfl ?_ ?_ ?_ ?_
 ·
  rintro l pre x I1 loc1 H1 hpre hI1 rfl
  refine Qk (zA (Qb ?_))
  exact zfw _ ⟨zxd _,rfl,rfl⟩ (.cons rfl (.cons rfl .nil))
 ·
  rintro l pre x E2 I2 loc2 H2 hpre hI2 ⟨rfl,rfl⟩
  refine QD (Qk (zM ?_))
  refine zS Zc ?_
  refine Qb (Qn ?_)
  exact zit ⟨zxd _,by rw [zh9];rfl⟩ .refl
 ·
  rintro bd I1 loc1 hI1 rfl
  have hIc:=hIc.trans hI1
  refine Qn (Qc (zR ?_))
  refine zL ZX ?_
  refine zS Zc ?_
  refine zN (QF ?_)
  exact zgO (L:=[(b_4,_)]) (fun a ha w hw=>zvD rfl rfl ZX (QG.h0 rfl) a ha w hw) (fun w hw=>⟨by rw [znb b (Nat.le_refl _) (by omega) (fun _=>rfl)],(hw.mono hIc).drop⟩)
 rintro c bd pre I1 loc1 hI1 hpre hF;exact hF.elim
theorem zsY (I:Qv)(n d:Int)(hn: -1073741824≤n∧n≤1073741824)(hd:1≤d∧d≤1073741824):Yc Tryz.prog 281 [.int .u64 (zh2 n),.int .u64 (IntKind.u64.wrap d)] I (.int .u64 (zvq n d)):=by
 have h0:0≤zh2 n∧zh2 n≤1073741824:=by unfold zh2;split<;>omega
 have h:=zvz I (zh2 n).toNat d.toNat (by omega) (by omega) (by omega)
 rw [zk7 (by omega)]
 rw [Int.toNat_of_nonneg h0.1,Int.toNat_of_nonneg (by omega),zqB,Int.toNat_of_nonneg (by omega)] at h
 exact h
theorem zgw (I:Qv)(n d:Int):Yc Tryz.prog 278 [zjD (n) (d)] I (.int .i64 (zr6 n d)):=by
 intro g H w hw
 refine qe Tryz.func278 Tryz.ntmps278 hw ?_
 refine zR ?_
 refine Zh rfl rfl rfl (fun b_1=>?_)
 refine zA (zN (Qq (Qq ?_)))
 refine zog mixed (by kernel_rfl) ?_
 refine zq (Qa rfl JF) ?_
 refine zq (Qd rfl QA (fun hg=>by exact QG.h0 rfl)) ?_
 refine zq (QT rfl rfl rfl) ?_
 refine zq (Qh rfl) ?_
 refine WR 3 rfl rfl rfl ?_
 refine zj (Qa rfl JF) ?_
 refine zj (Qd rfl QA (fun hg=>by exact QG.h0 rfl)) ?_
 refine zj (QT rfl rfl rfl) ?_
 refine zdo rfl rfl rfl rfl rfl ?_
 refine zq (Qh rfl) ?_
 refine WR 8 rfl rfl rfl ?_
 refine zj (Qa rfl Je) ?_
 refine zj (Qd rfl QA (fun hg=>by exact QG.h0 rfl)) ?_
 refine zj (QT rfl rfl rfl) ?_
 refine zdo rfl rfl rfl rfl rfl ?_
 refine zq (Qh rfl) ?_
 refine WR 13 rfl rfl rfl ?_
 refine zj (Qa rfl Je) ?_
 refine zj (Qd rfl QA (fun hg=>by exact QG.h0 rfl)) ?_
 refine zj (QT rfl rfl rfl) ?_
 refine zdo rfl rfl rfl rfl rfl ?_
 refine zq (Qh rfl) ?_
 refine WR 18 rfl rfl rfl ?_
 refine zj (Qa rfl Je) ?_
 refine zj (Qd rfl QA (fun hg=>by exact QG.h0 rfl)) ?_
 refine zeb (cap:=[]) (vs:=[_]) rfl rfl zqf (fun hg=>zvu I n (by simp [YC] at hg;omega)) (.some rfl rfl rfl rfl gbf) rfl rfl ?_
 refine zj (Qa rfl JF) ?_
 refine zj (Qd rfl QA (fun hg=>by exact QG.h0 rfl)) ?_
 refine zj (Z6 rfl U9) ?_
 refine zeb (cap:=[]) (vs:=[_,_]) rfl rfl zqW (fun hg=>zsY I n d (by simp [YC] at hg;omega) (by simp [YC] at hg;omega)) (.some rfl rfl rfl rfl gbf) rfl rfl ?_
 refine zj (QT rfl rfl rfl) ?_
 refine zdo rfl rfl rfl rfl rfl ?_
 refine zo1 ?_
 refine Qc ?_
 refine zI ?_ ?_<;>intro hc30
 ·
  refine zR (zA (zN (QF (Qi ?_))))
  first
  | exact zr rfl rfl (by unfold zr6;rw [zqF hc30];rfl)
 refine Qw (Qc (zR (zA (zN (QF ?_)))))
 first
 | exact zr rfl rfl (by unfold zr6;rw [znN hc30];rfl)
end
section
open Go Go.Kn Go.Proofs
theorem zsB (I:Qv)(an ad bn bd:Int):Yc Tryz.prog 276 [zjD (an) (ad),zjD (bn) (bd)] I (.tuple #[.int .i64 (zsq an ad bn bd),.int .i64 (ztw an ad bn bd)]):=by
 intro g H w hw
 refine qe Tryz.func276 Tryz.ntmps276 hw ?_
 refine zR ?_
 refine Zh rfl rfl rfl (fun b_2=>?_)
 refine Zh rfl rfl rfl (fun b_3=>?_)
 refine zA ?_
 refine zA (zN (Qq (zR ?_)))
 refine zV (Qg rfl Xz (fun hg=>by exact Cells.g1) rfl) ?_
 refine qcV (vs:=[_]) rfl zk9 (zgw I _ _) ?_
 refine zC ?_
 refine zM ?_
 refine Ze 3 rfl rfl rfl ?_
 refine zJ (Qg rfl Xz (fun hg=>by exact Cells.g0) rfl) ?_
 refine qf (vs:=[_]) rfl zk9 (fun hg=>zgw I _ _) ?_
 refine zJ (QT rfl rfl rfl) ?_
 refine ZP rfl rfl rfl rfl rfl ?_
 refine zN ?_
 refine zI ?_ ?_<;>intro hc13
 ·
  have hb:(zaG an ad&&zaG bn bd)=false:=by have h:=hc13;rw [zkv,Bool.not_eq_true'] at h;exact h
  refine zR (zA ?_)
  refine zA (zN (QF (Qi ?_)))
  exact Vs rfl rfl rfl (fun w hw=>⟨by unfold zsq ztw;rw [hb];rfl,hw.drop⟩)
 have hb:(zaG an ad&&zaG bn bd)=true:=by have h:=hc13;rw [zkv,Bool.not_eq_false'] at h;exact h
 have ⟨ha1,ha2⟩:=zkN (Bool.and_eq_true .. ▸ hb).1
 have ⟨hb1,hb2⟩:=zkN (Bool.and_eq_true .. ▸ hb).2
 refine Qw (Qc (zR ?_))
 refine zF Je ?_
 refine zL QA ?_
 refine zF JF ?_
 refine zL QA ?_
 refine zV (VO rfl rfl rfl (fun _=>by exact zs2 (by omega) (by omega))) ?_
 refine zF Je ?_
 refine zL QA ?_
 refine zF JF ?_
 refine zL QA ?_
 refine zV (VO rfl rfl rfl (fun _=>by exact zs2 (by omega) (by omega))) ?_
 refine qcV (vs:=[_,_]) rfl zj5 (zps I _ _) ?_
 refine zA ?_
 refine zA (zN (QF ?_))
 exact Vs rfl rfl rfl (fun w hw=>⟨by unfold zsq ztw;rw [hb];rfl,hw.drop⟩)
theorem ztZ (I:Qv)(an ad bn bd:Int):Yc Tryz.prog 270 [zjD (an) (ad),zjD (bn) (bd)] I (.bool (zms an ad bn bd)):=by
 intro g H w hw
 refine qe Tryz.func270 Tryz.ntmps270 hw ?_
 refine zR ?_
 refine Zh rfl rfl rfl (fun b_2=>?_)
 refine Zh rfl rfl rfl (fun b_3=>?_)
 refine zA ?_
 refine zN (zR ?_)
 refine zV (Qg rfl Xz (fun hg=>by exact Cells.g1) rfl) ?_
 refine zV (Qg rfl Xz (fun hg=>by exact Cells.g0) rfl) ?_
 refine qcV (vs:=[_,_]) rfl zqS (zsB I _ _ _ _) ?_
 refine zM ?_
 refine zE ?_
 refine zE ?_
 refine zA ?_
 refine zA ?_
 refine zN (zR ?_)
 refine zM ?_
 refine zC ?_
 refine zM ?_
 refine QL 2 rfl rfl rfl ?_
 refine zK (Qh rfl) ?_
 refine zK (QT rfl rfl rfl) ?_
 refine QW rfl rfl rfl rfl rfl ?_
 refine zM ?_
 refine QL 6 rfl rfl rfl ?_
 refine zK (Qa rfl Je) ?_
 refine zK (Qd rfl QA (fun hg=>by exact QG.h1 rfl)) ?_
 refine zK (QT rfl rfl rfl) ?_
 refine QW rfl rfl rfl rfl rfl ?_
 refine zM ?_
 refine QL 11 rfl rfl rfl ?_
 refine zK (Qa rfl Je) ?_
 refine zK (Qd rfl QA (fun hg=>by exact QG.h0 rfl)) ?_
 refine zK (Qa rfl JF) ?_
 refine zK (Qd rfl QA (fun hg=>by exact QG.h0 rfl)) ?_
 refine zK (QT rfl rfl rfl) ?_
 refine QW rfl rfl rfl rfl rfl ?_
 refine zA (zN (QF ?_))
 exact zr rfl rfl (by rw [←zqd])
theorem Yf (I:Qv)(n lo hi:Int):Yc Tryz.prog 269 [.int .i64 n,.int .i64 lo,.int .i64 hi] I (.bool (within n lo hi)):=by
 intro g H w hw
 refine qe Tryz.func269 Tryz.ntmps269 hw ?_
 refine zR (zA ?_)
 refine zN (zR ?_)
 refine zM ?_
 refine zM ?_
 refine zC ?_
 refine zM ?_
 refine QL 3 rfl rfl rfl ?_
 refine zK (Qh rfl) ?_
 refine zK (Qh rfl) ?_
 refine zK (QT rfl rfl rfl) ?_
 refine QW rfl rfl rfl rfl rfl ?_
 refine zA (zN (QF ?_))
 exact zr rfl rfl (by rfl)
theorem zvx (I:Qv)(x:Sg):Yc Tryz.prog 260 [zdi x] I (.bool (frm x)):=by
 intro g H w hw
 refine qe Tryz.func260 Tryz.ntmps260 hw ?_
 refine zR ?_
 refine Zh rfl rfl rfl (fun b_1=>?_)
 refine zA ?_
 refine zN (zR ?_)
 refine zF Us ?_
 refine zL QA ?_
 refine qcV (vs:=[_,_,_]) rfl Ki (Yf I _ _ _) ?_
 refine zM ?_
 refine QL 3 rfl rfl rfl ?_
 refine zK (Qa rfl XU) ?_
 refine zK (Qd rfl QA (fun hg=>by exact QG.h0 rfl)) ?_
 refine qg (vs:=[_,_,_]) rfl Ki (fun hg=>Yf I _ _ _) ?_
 refine QW rfl rfl rfl rfl rfl ?_
 refine zM ?_
 refine QL 8 rfl rfl rfl ?_
 refine zK (Qa rfl zad) ?_
 refine zK (Qd rfl QA (fun hg=>by exact QG.h0 rfl)) ?_
 refine qg (vs:=[_,_,_]) rfl Ki (fun hg=>Yf I _ _ _) ?_
 refine QW rfl rfl rfl rfl rfl ?_
 refine zM ?_
 refine QL 13 rfl rfl rfl ?_
 refine zK (Qa rfl zcT) ?_
 refine zK (Qd rfl QA (fun hg=>by exact QG.h0 rfl)) ?_
 refine qg (vs:=[_,_,_]) rfl Ki (fun hg=>Yf I _ _ _) ?_
 refine QW rfl rfl rfl rfl rfl ?_
 refine zM ?_
 refine QL 18 rfl rfl rfl ?_
 refine zK (Qa rfl XP) ?_
 refine zK (Qd rfl QA (fun hg=>by exact QG.h0 rfl)) ?_
 refine qg (vs:=[_,_,_]) rfl Ki (fun hg=>Yf I _ _ _) ?_
 refine QW rfl rfl rfl rfl rfl ?_
 refine zM ?_
 refine QL 23 rfl rfl rfl ?_
 refine zK (Qa rfl zab) ?_
 refine zK (Qd rfl QA (fun hg=>by exact QG.h0 rfl)) ?_
 refine qg (vs:=[_,_,_]) rfl Ki (fun hg=>Yf I _ _ _) ?_
 refine QW rfl rfl rfl rfl rfl ?_
 refine zM ?_
 refine QL 28 rfl rfl rfl ?_
 refine zK (Qa rfl XR) ?_
 refine zK (Qd rfl QA (fun hg=>by exact QG.h0 rfl)) ?_
 refine qg (vs:=[_,_,_]) rfl Ki (fun hg=>Yf I _ _ _) ?_
 refine QW rfl rfl rfl rfl rfl ?_
 refine zM ?_
 refine QL 33 rfl rfl rfl ?_
 refine zK (Qa rfl zae) ?_
 refine zK (Qd rfl QA (fun hg=>by exact QG.h0 rfl)) ?_
 refine qg (vs:=[_,_,_]) rfl Ki (fun hg=>Yf I _ _ _) ?_
 refine QW rfl rfl rfl rfl rfl ?_
 refine zM ?_
 refine QL 38 rfl rfl rfl ?_
 refine zK (Qa rfl XW) ?_
 refine zK (Qd rfl QA (fun hg=>by exact QG.h0 rfl)) ?_
 refine qg (vs:=[_,_,_]) rfl Ki (fun hg=>Yf I _ _ _) ?_
 refine QW rfl rfl rfl rfl rfl ?_
 refine zM ?_
 refine QL 43 rfl rfl rfl ?_
 refine zK (Qa rfl XX) ?_
 refine zK (Qd rfl QA (fun hg=>by exact QG.h0 rfl)) ?_
 refine qg (vs:=[_,_,_]) rfl Ki (fun hg=>Yf I _ _ _) ?_
 refine QW rfl rfl rfl rfl rfl ?_
 refine zM ?_
 refine QL 48 rfl rfl rfl ?_
 refine zK (Qa rfl Ks) ?_
 refine zK (Qg rfl Xz (fun hg=>by exact Cells.s0 (vs:=[_,_]) rfl) rfl) ?_
 refine zK (Qa rfl Kz) ?_
 refine zK (Qg rfl Xz (fun hg=>by exact Cells.s0 (vs:=[_,_]) rfl) rfl) ?_
 refine qg (vs:=[_,_]) rfl zpf (fun hg=>ztZ I _ _ _ _) ?_
 refine QW rfl rfl rfl rfl rfl ?_
 refine zA (zN (QF ?_))
 exact zr rfl rfl (by rfl)
theorem ztB {I:Qv}{av:Option Addr}{n c:Nat}{xs:List Sg}(hS:Sl I 14 zhX av n c xs)(hn:n≤100000):Yc Tryz.prog 217 [.slice av n c] I (.int .i64 (zr7 xs)):=by
 intro g H w hw
 refine qe Tryz.func217 Tryz.ntmps217 hw ?_
 refine zR (zA (zN (Qq (zR ?_))))
 refine zM ?_
 refine zQ zcb ?_
 refine zC (zN ?_)
 refine zI ?_ ?_<;>intro hc7
 ·
  have h6:xs.length>4096:=by rw [hS.len];simp at hc7;omega
  refine zR (zA (zN (QF (Qi ?_))))
  first
  | exact zr rfl rfl (by unfold zr7;rw [if_pos h6])
 have h6:¬xs.length>4096:=by rw [hS.len];simp at hc7;omega
 refine Qw (Qc (Qq (zR (zM ?_))))
 refine zQ zcb ?_
 refine zM (zN (QD ?_))
 refine zU [(0,_),(8,_),(9,_)] (fun T L0 mz E I' loc'=>∃ (k:Nat),mz=n-k∧E=(10,.int .i64 k)::T∧I=I'∧L0=loc'∧k≤n∧(List.range k).all (skP xs)=true) ?_ (h:=⟨0,rfl,rfl,rfl,rfl,Nat.zero_le _,rfl⟩)
 rintro mz E I' loc' ⟨k,rfl,rfl,rfl,rfl,hk,hall⟩
 refine zR (zC (zN (Qq ?_)))
 refine zI ?_ ?_<;>intro hc11
 ·
  have hlt_k:k<n:=by have h:=hc11;simp at h;omega
  obtain ⟨x,hx⟩:=hS.at hlt_k
  refine Qw (Qc (Qq (QD (zR (zM ?_)))))
  refine zV (QV rfl rfl zcb (by assumption) (fun hg=>by omega)) ?_
  refine zV (Qg rfl VR (fun hg=>by exact zxe hS hx) rfl) ?_
  refine Qt zmu rfl rfl (fun b_4=>?_)
  refine zA ?_
  refine zh zbd ?_
  refine zN (Qq ?_)
  refine zog mixed (by kernel_rfl) ?_
  refine zq (Qg rfl VR (fun hg=>by exact Cells.g0) rfl) ?_
  refine zin (cap:=[]) (vs:=[_]) rfl rfl zrl (zvx I _) rfl rfl ?_
  refine zq (Yz rfl) ?_
  refine zq (Qh rfl) ?_
  refine WR 3 rfl rfl rfl ?_
  refine zj (Qh rfl) ?_
  refine zj (QT rfl rfl rfl) ?_
  refine zj (Qh rfl) ?_
  refine zmm 6 rfl rfl rfl ?_
  refine zk (Qh rfl) ?_
  refine zk (Qh rfl) ?_
  refine zk (VO rfl rfl rfl (fun hg=>by omega)) ?_
  refine zk (QV rfl rfl zcb (by assumption) (fun hg=>by (simp [YC] at hg;omega))) ?_
  refine zk (Qa rfl Us) ?_
  refine zk (Qd rfl QA (fun hg=>by exact zw6 (k:=((k:Int)-1).toNat) hS (zaZ (d:=KY) hS.len (by simp [YC] at hg;omega)) rfl)) ?_
  refine zk (Qa rfl Us) ?_
  refine zk (Qd rfl QA (fun hg=>by exact QG.h0 rfl)) ?_
  refine zk (QT rfl rfl rfl) ?_
  refine zpE rfl rfl rfl (.some rfl rfl rfl rfl gbf) rfl rfl ?_
  refine zdo rfl rfl rfl rfl rfl ?_
  refine zo1 ?_
  refine Qc ?_
  refine zI ?_ ?_<;>intro hc32
  ·
   refine zR (zA (zN (QF (Qz (Qi (Qi (Qz ?_)))))))
   refine Qi ?_
   first
   | exact zr rfl rfl (by unfold zr7 skB;rw [if_neg h6,K3 (k:=k) (by rw [hS.len];exact hlt_k) (by rw [zoG hx,hc32];rfl)];rfl)
  refine Qw (Qn (Qc (Qk (zB ?_))))
  refine zM (Qb ?_)
  exact zm (h:=⟨n-(k+1),by omega,k+1,rfl,rfl,rfl,rfl,by omega,KA hall (by rw [zoG hx,hc32];rfl)⟩)
 have hge_k:n≤k:=by have h:=hc11;simp at h;omega
 refine Zy (Qs (Qs (QB (Qc (zR (zA (zN ?_)))))))
 refine QF ?_
 first
 | exact zr rfl rfl (by unfold zr7 skB;rw [if_neg h6,hS.len,show n=k by omega,hall];rfl)
theorem zbo (I:Qv)(b:Nat):Yc Tryz.prog 216 [ZK b] I (.agg (zwg b).toArray):=by
 intro g H w hw
 refine qe Tryz.func216 Tryz.ntmps216 hw ?_
 refine zR ?_
 refine Qt zom rfl rfl (fun b_2=>?_)
 refine zN (Qq ?_)
 have hD:=zxd I
 refine ZL ?_
 refine Q0 I [] mixed ?_
 refine zT 0 rfl (Qh rfl) hD ?_
 refine zT 1 rfl (QM rfl) hD ?_
 refine zT 2 rfl (Qa rfl XU) hD ?_
 refine zT 3 rfl (Qh rfl) hD ?_
 refine zT 4 rfl (QM rfl) hD ?_
 refine zT 5 rfl (Qa rfl zad) hD ?_
 refine zT 6 rfl (Qh rfl) hD ?_
 refine zT 7 rfl (QM rfl) hD ?_
 refine zT 8 rfl (Qa rfl XP) hD ?_
 refine zT 9 rfl (Qh rfl) hD ?_
 refine zT 10 rfl (QM rfl) hD ?_
 refine zT 11 rfl (Qa rfl zab) hD ?_
 refine zT 12 rfl (Qh rfl) hD ?_
 refine zT 13 rfl (QM rfl) hD ?_
 refine zT 14 rfl (Qa rfl XR) hD ?_
 refine zT 15 rfl (Qh rfl) hD ?_
 refine zT 16 rfl (QM rfl) hD ?_
 refine zT 17 rfl (Qa rfl zae) hD ?_
 refine zT 18 rfl (Qh rfl) hD ?_
 refine zT 19 rfl (QM rfl) hD ?_
 refine zT 20 rfl (Qa rfl XW) hD ?_
 refine zT 21 rfl (Qh rfl) hD ?_
 refine zT 22 rfl (QM rfl) hD ?_
 refine zT 23 rfl (Qa rfl XX) hD ?_
 refine zT 24 rfl (Vp (ps:=[(1,_),(2,_),(3,_),(4,_),(5,_),(6,_),(7,_),(8,_)]) [_,_,_,_,_,_,_,_,_] UP zom rfl rfl) hD ?_
 refine qd 25 rfl ?_
 refine zh zqO ?_
 refine Qb ?_
 refine zD hD ?_
 refine Qm (by kernel_rfl) ?_
 refine Qy ?_
 refine Qc (QF ?_)
 exact Y7 rfl rfl zrv Cells.g0 rfl (fun w hw=>⟨rfl,hw.drop⟩)
theorem zuf (I:Qv)(x:Sg)(f:Int)(y:Sg)(hf:isF f):Yc Tryz.prog 161 [zdi x,.int .i64 f,zdi y] I (zdi (zmq x f y)):=by
 intro g H w hw
 refine qe Tryz.func161 Tryz.ntmps161 hw ?_
 refine zR ?_
 refine Zh rfl rfl rfl (fun b_3=>?_)
 refine Zh rfl rfl rfl (fun b_5=>?_)
 refine Qt zmu rfl rfl (fun b_6=>?_)
 refine zN (Qq (zR (zM ?_)))
 refine zC (zN ?_)
 refine zI ?_ ?_<;>intro hc8
 ·
  have hf9:f=9:=by simpa using hc8
  refine zR ?_
  refine zF Ks ?_
  refine zV (Qg rfl Xz (fun hg=>by exact Cells.s1 (vs:=[_,_]) rfl) rfl) ?_
  refine zF Kz ?_
  refine zV (Qg rfl Xz (fun hg=>by exact Cells.s1 (vs:=[_,_]) rfl) rfl) ?_
  refine zF Ks ?_
  refine VC rfl rfl zoj rfl rfl rfl rfl (by repeat (first | exact Upd.here | apply Upd.there | apply Qx)) ?_
  refine zF Kz ?_
  refine VC rfl rfl zoj rfl rfl rfl rfl (by repeat (first | exact Upd.here | apply Upd.there | apply Qx)) ?_
  refine zN (zR ?_)
  refine zV (Qg rfl VR (fun hg=>by exact Cells.g2) rfl) ?_
  refine zh zbd ?_
  refine zN (QF (Qi ?_))
  first
  | exact Y7 rfl rfl VR Cells.g0 rfl (fun w hw=>⟨by rw [hf9];rfl,hw.drop⟩)
 have hf8:1≤f∧f≤8:=by have h:=hc8;unfold isF at hf;simp at h;omega
 refine Qw (Qc (Qq ?_))
 have hD:=zxd I
 refine ZL ?_
 refine Q0 I [(b_5,.cells (zdi y).cells 36 (0,0))] mixed ?_
 refine zT 1 rfl (Qh rfl) hD ?_
 refine zT 4 rfl (Qh rfl) hD ?_
 refine qd 0 rfl ?_
 refine qcV (vs:=[_]) rfl zfE (zbo I _) ?_
 refine Qb ?_
 refine zD hD ?_
 refine Q8 2 3 rfl rfl (by kernel_rfl) ?_ ?_
 ·
  refine zV (J0 rfl rfl UP Uc (fun hg=>by omega) (fun hg=>zb5 hf8 b_3)) ?_
  refine Qb ?_
  refine zD hD ?_
  refine qd 3 rfl ?_
  refine qcV (vs:=[_]) rfl zfE (zbo I _) ?_
  refine Qb ?_
  refine zD hD ?_
  refine qd 5 rfl ?_
  refine zV (J0 rfl rfl UP Uc (fun hg=>by omega) (fun hg=>zb5 hf8 b_5)) ?_
  refine Qb ?_
  refine zD hD ?_
  refine zT 6 rfl (QM rfl) hD ?_
  refine zT 7 rfl (Qd rfl QA (fun hg=>by exact QG.h0 (zfP hf8 y))) hD ?_
  refine zT 8 rfl (QM rfl) hD ?_
  refine qd 9 rfl ?_
  refine Zg rfl rfl zdL rfl rfl Upd.u2 (by exact zqj) ?_
  rw [show (zdi x).cells.setIfInBounds (foF f) (.int .i64 (ztV y f))=(zhX (zmq x f y)).toArray from ziA hf8 x y]
  refine Qb ?_
  refine zD hD ?_
  refine Qm (by kernel_rfl) ?_
  refine Qy ?_
  refine Qc (zR ?_)
  refine zV (Qg rfl VR (fun hg=>by exact Cells.g2) rfl) ?_
  refine zh zbd ?_
  refine zN (QF ?_)
  exact Y7 rfl rfl VR Cells.g0 rfl (fun w hw=>⟨rfl,hw.drop⟩)
 refine qcV (vs:=[_]) rfl zfE (zbo I _) ?_
 refine Qb ?_
 refine zD hD ?_
 refine Q8 2 5 rfl rfl (by kernel_rfl) ?_ ?_
 ·
  refine zV (J0 rfl rfl UP Uc (fun hg=>by omega) (fun hg=>zb5 hf8 b_3)) ?_
  refine Qb ?_
  refine zD hD ?_
  refine qd 5 rfl ?_
  refine zV (J0 rfl rfl UP Uc (fun hg=>by omega) (fun hg=>zb5 hf8 b_5)) ?_
  refine Qb ?_
  refine zD hD ?_
  refine zT 6 rfl (QM rfl) hD ?_
  refine zT 7 rfl (Qd rfl QA (fun hg=>by exact QG.h0 (zfP hf8 y))) hD ?_
  refine zT 8 rfl (QM rfl) hD ?_
  refine qd 9 rfl ?_
  refine Zg rfl rfl zdL rfl rfl Upd.u2 (by exact zqj) ?_
  rw [show (zdi x).cells.setIfInBounds (foF f) (.int .i64 (ztV y f))=(zhX (zmq x f y)).toArray from ziA hf8 x y]
  refine Qb ?_
  refine zD hD ?_
  refine Qm (by kernel_rfl) ?_
  refine Qy ?_
  refine Qc (zR ?_)
  refine zV (Qg rfl VR (fun hg=>by exact Cells.g2) rfl) ?_
  refine zh zbd ?_
  refine zN (QF ?_)
  exact Y7 rfl rfl VR Cells.g0 rfl (fun w hw=>⟨rfl,hw.drop⟩)
 refine zV (J0 rfl rfl UP Uc (fun hg=>by omega) (fun hg=>zb5 hf8 b_5)) ?_
 refine Qb ?_
 refine zD hD ?_
 refine zT 6 rfl (QM rfl) hD ?_
 refine zT 7 rfl (Qd rfl QA (fun hg=>by exact QG.h0 (zfP hf8 y))) hD ?_
 refine qd 2 rfl ?_
 refine zV (J0 rfl rfl UP Uc (fun hg=>by omega) (fun hg=>zb5 hf8 b_3)) ?_
 refine Qb ?_
 refine zD hD ?_
 refine zT 8 rfl (QM rfl) hD ?_
 refine qd 9 rfl ?_
 refine Zg rfl rfl zdL rfl rfl Upd.u2 (by exact zqj) ?_
 rw [show (zdi x).cells.setIfInBounds (foF f) (.int .i64 (ztV y f))=(zhX (zmq x f y)).toArray from ziA hf8 x y]
 refine Qb ?_
 refine zD hD ?_
 refine Qm (by kernel_rfl) ?_
 refine Qy ?_
 refine Qc (zR ?_)
 refine zV (Qg rfl VR (fun hg=>by exact Cells.g2) rfl) ?_
 refine zh zbd ?_
 refine zN (QF ?_)
 exact Y7 rfl rfl VR Cells.g0 rfl (fun w hw=>⟨rfl,hw.drop⟩)
end
section
open Go Go.Kn
def Xd (zs:List Int):List Int:=zs.mergeSort fun x y=>decide (x≤y)
theorem Ka (zs:List Int):zs.flatMap Yk=zs.map (Value.int .i64):=by
 induction zs with
 | nil=>rfl
 | cons z zs ih=>rw [List.flatMap_cons,ih];rfl
end
section
open Go Go.Kn Go.Proofs
theorem zp0 (i j:Nat)(h:i+j≤1000000):IntKind.i64.wrap ((IntKind.u64.wrap ((i:Int)+(j:Int))).fdiv (2^1))=(((i+j) / 2:Nat):Int):=by
 have h1:IntKind.u64.wrap ((i:Int)+(j:Int))=((i+j:Nat):Int):=by
  rw [show ((i:Int)+(j:Int))=((i+j:Nat):Int) by omega]
  exact zk7 ⟨by omega,by omega⟩
 rw [h1,show ((2:Int)^1)=((2:Nat):Int) from rfl,Int.fdiv_eq_ediv_of_nonneg _ (by omega),←Int.natCast_ediv]
 exact zfN ⟨by omega,by omega⟩
section
variable {α:Type} {key:α→Int} {xs:List α} {t:Int}
end
instance : Inhabited Sg := ⟨KY⟩
end
end Go.Proofs.YtjblkbkmblkgoaaGreat
namespace Go.Proofs
section
open Go.Shelf
def Tryz.lays106_ren:Go.Shelf.Ren:=⟨fun | 106=>154 | 213=>209 | 265=>259 | n=>n,fun | 9=>9 | 3=>3 | n=>n,fun | n=>n⟩
theorem Tryz.lays106:Go.Proofs.Lays.n106 Tryz.prog Tryz.lays106_ren:={
 mixed:=by kernel_rfl
 f106:=Tryz.func154.trans (congrArg some (by kernel_rfl))
 f213:=Tryz.func209.trans (congrArg some (by kernel_rfl))
 f265:=Tryz.func259.trans (congrArg some (by kernel_rfl))
 t3:=Tryz.underlying3
 a3:=Tryz.isAgg3
 z3:=Tryz.sizeOf3
 v3:=Tryz.zeroValue3
 t9:=Tryz.underlying9
 a9:=Tryz.isAgg9
 z9:=Tryz.sizeOf9
 v9:=Tryz.zeroValue9}
open Go.RowKit in
theorem Tryz.strings_Compare (a b:ByteArray) (w:World):
  Calls Tryz.prog 154 #[.string a,.string b] w fun e w'=>e= .returned (.int .i64 (Lib.compareBytes a.data.toList b.data.toList))∧w'=w:=Any.strings_Compare Tryz.lays106 a b w
def Tryz.lays189_ren:Go.Shelf.Ren:=⟨fun | 189=>135 | 125=>153 | 257=>188 | 128=>207 | 129=>208 | 294=>236 | 295=>237 | 296=>238 | 297=>239 | 298=>240 | 299=>241 | 216=>242 | 300=>243 | 301=>244 | 328=>264 | 329=>255 | 330=>256 | 331=>265 | 332=>266 | 215=>229 | 343=>274 | n=>n,fun | 28=>37 | 3=>3 | 46=>216 | 0=>0 | 51=>274 | 53=>276 | 4=>4 | 183=>268 | 182=>267 | 131=>150 | 5=>5 | 9=>9 | 218=>306 | 222=>184 | 228=>318 | 229=>319 | n=>n,fun | n=>n⟩
theorem Tryz.lays189:Go.Proofs.Lays.n189 Tryz.prog Tryz.lays189_ren:={
 mixed:=by kernel_rfl
 f125:=Tryz.func153.trans (congrArg some (by kernel_rfl))
 f128:=Tryz.func207.trans (congrArg some (by kernel_rfl))
 f129:=Tryz.func208.trans (congrArg some (by kernel_rfl))
 f189:=Tryz.func135.trans (congrArg some (by kernel_rfl))
 f215:=Tryz.func229.trans (congrArg some (by kernel_rfl))
 f216:=Tryz.func242.trans (congrArg some (by kernel_rfl))
 f257:=Tryz.func188.trans (congrArg some (by kernel_rfl))
 f294:=Tryz.func236.trans (congrArg some (by kernel_rfl))
 f295:=Tryz.func237.trans (congrArg some (by kernel_rfl))
 f296:=Tryz.func238.trans (congrArg some (by kernel_rfl))
 f297:=Tryz.func239.trans (congrArg some (by kernel_rfl))
 f298:=Tryz.func240.trans (congrArg some (by kernel_rfl))
 f299:=Tryz.func241.trans (congrArg some (by kernel_rfl))
 f300:=Tryz.func243.trans (congrArg some (by kernel_rfl))
 f301:=Tryz.func244.trans (congrArg some (by kernel_rfl))
 f328:=Tryz.func264.trans (congrArg some (by kernel_rfl))
 f329:=Tryz.func255.trans (congrArg some (by kernel_rfl))
 f330:=Tryz.func256.trans (congrArg some (by kernel_rfl))
 f331:=Tryz.func265.trans (congrArg some (by kernel_rfl))
 f332:=Tryz.func266.trans (congrArg some (by kernel_rfl))
 f343:=Tryz.func274.trans (congrArg some (by kernel_rfl))
 t0:=Tryz.underlying0
 a0:=Tryz.isAgg0
 z0:=Tryz.sizeOf0
 v0:=Tryz.zeroValue0
 t3:=Tryz.underlying3
 a3:=Tryz.isAgg3
 z3:=Tryz.sizeOf3
 v3:=Tryz.zeroValue3
 t4:=Tryz.underlying4
 a4:=Tryz.isAgg4
 z4:=Tryz.sizeOf4
 v4:=Tryz.zeroValue4
 t5:=Tryz.underlying5
 a5:=Tryz.isAgg5
 z5:=Tryz.sizeOf5
 v5:=Tryz.zeroValue5
 t9:=Tryz.underlying9
 a9:=Tryz.isAgg9
 z9:=Tryz.sizeOf9
 v9:=Tryz.zeroValue9
 t28:=Tryz.underlying37
 a28:=Tryz.isAgg37
 z28:=Tryz.sizeOf37
 v28:=Tryz.zeroValue37
 t46:=Tryz.underlying216
 a46:=Tryz.isAgg216
 z46:=Tryz.sizeOf216
 v46:=Tryz.zeroValue216
 t51:=Tryz.underlying274
 a51:=Tryz.isAgg274
 z51:=Tryz.sizeOf274
 v51:=Tryz.zeroValue274
 t53:=Tryz.underlying276
 a53:=Tryz.isAgg276
 z53:=Tryz.sizeOf276
 v53:=Tryz.zeroValue276
 t131:=Tryz.underlying150
 a131:=Tryz.isAgg150
 z131:=Tryz.sizeOf150
 v131:=Tryz.zeroValue150
 t182:=Tryz.underlying267
 a182:=Tryz.isAgg267
 z182:=Tryz.sizeOf267
 v182:=Tryz.zeroValue267
 t183:=Tryz.underlying268
 a183:=Tryz.isAgg268
 z183:=Tryz.sizeOf268
 v183:=Tryz.zeroValue268
 t218:=Tryz.underlying306
 a218:=Tryz.isAgg306
 z218:=Tryz.sizeOf306
 v218:=Tryz.zeroValue306
 t222:=Tryz.underlying184
 a222:=Tryz.isAgg184
 z222:=Tryz.sizeOf184
 v222:=Tryz.zeroValue184
 t228:=Tryz.underlying318
 a228:=Tryz.isAgg318
 z228:=Tryz.sizeOf318
 v228:=Tryz.zeroValue318
 t229:=Tryz.underlying319
 a229:=Tryz.isAgg319
 z229:=Tryz.sizeOf319
 v229:=Tryz.zeroValue319}
open Go.Sort Go.RowKit in
theorem Tryz.slices_Sort_int (blk off cap:Nat) (zs:List Int) (w:World) (hH:Holds (Value.int .i64) w blk off zs.toArray) (hblk:blk<w.heap.size) (hsz:zs.length<4611686018427387904):
  Calls Tryz.prog 135 #[.slice (some ⟨blk,off,none⟩) zs.length cap] w fun e w'=>
   e= .returned (.tuple #[])∧∃ n os,w'=grow (putRow (Value.int .i64) (Sort.ahead w n) blk off (zs.mergeSort fun x y=>decide (x≤y)).toArray) os:=Any.slices_Sort_int Tryz.lays189 blk off cap zs w hH hblk hsz
open Go.RowKit Go.Sort in
theorem Tryz.slices_Sort_int_none (p:Option Addr) (cap:Nat) (w:World):
  Calls Tryz.prog 135 #[.slice p 0 cap] w fun e w'=>e= .returned (.tuple #[])∧w'=w:=Any.slices_Sort_int_none Tryz.lays189 p cap w
def Tryz.laysSlF06_f80_ren:Go.Shelf.Ren:=⟨fun | 6=>80 | 15=>153 | 14=>152 | 28=>207 | 29=>208 | 20=>199 | 21=>200 | 22=>201 | 23=>202 | 24=>203 | 25=>204 | 26=>205 | 27=>206 | 46=>254 | 47=>255 | 48=>256 | 49=>257 | 50=>258 | 57=>268 | n=>n,fun | 22=>57 | 24=>45 | 25=>128 | 3=>3 | 39=>216 | 0=>0 | 53=>274 | 55=>276 | 4=>4 | 46=>268 | 45=>267 | 50=>150 | 5=>5 | 9=>9 | 66=>306 | 70=>184 | 76=>318 | 77=>319 | n=>n,fun | n=>n⟩
theorem Tryz.laysSlF06_f80:Go.Proofs.SlLaysF0.n6 Tryz.prog Tryz.laysSlF06_f80_ren:={
 mixed:=by kernel_rfl
 f6:=⟨Tryz.f80.name,by decide,Tryz.func80.trans (congrArg some (by kernel_rfl))⟩
 f14:=⟨Tryz.f152.name,by decide,Tryz.func152.trans (congrArg some (by kernel_rfl))⟩
 f15:=Tryz.func153.trans (congrArg some (by kernel_rfl))
 f20:=⟨Tryz.f199.name,by decide,Tryz.func199.trans (congrArg some (by kernel_rfl))⟩
 f21:=⟨Tryz.f200.name,by decide,Tryz.func200.trans (congrArg some (by kernel_rfl))⟩
 f22:=⟨Tryz.f201.name,by decide,Tryz.func201.trans (congrArg some (by kernel_rfl))⟩
 f23:=⟨Tryz.f202.name,by decide,Tryz.func202.trans (congrArg some (by kernel_rfl))⟩
 f24:=⟨Tryz.f203.name,by decide,Tryz.func203.trans (congrArg some (by kernel_rfl))⟩
 f25:=⟨Tryz.f204.name,by decide,Tryz.func204.trans (congrArg some (by kernel_rfl))⟩
 f26:=⟨Tryz.f205.name,by decide,Tryz.func205.trans (congrArg some (by kernel_rfl))⟩
 f27:=⟨Tryz.f206.name,by decide,Tryz.func206.trans (congrArg some (by kernel_rfl))⟩
 f28:=Tryz.func207.trans (congrArg some (by kernel_rfl))
 f29:=Tryz.func208.trans (congrArg some (by kernel_rfl))
 f46:=⟨Tryz.f254.name,by decide,Tryz.func254.trans (congrArg some (by kernel_rfl))⟩
 f47:=Tryz.func255.trans (congrArg some (by kernel_rfl))
 f48:=Tryz.func256.trans (congrArg some (by kernel_rfl))
 f49:=⟨Tryz.f257.name,by decide,Tryz.func257.trans (congrArg some (by kernel_rfl))⟩
 f50:=⟨Tryz.f258.name,by decide,Tryz.func258.trans (congrArg some (by kernel_rfl))⟩
 f57:=⟨Tryz.f268.name,by decide,Tryz.func268.trans (congrArg some (by kernel_rfl))⟩
 t0:=Tryz.underlying0
 a0:=Tryz.isAgg0
 z0:=Tryz.sizeOf0
 v0:=Tryz.zeroValue0
 t3:=Tryz.underlying3
 a3:=Tryz.isAgg3
 z3:=Tryz.sizeOf3
 v3:=Tryz.zeroValue3
 t4:=Tryz.underlying4
 a4:=Tryz.isAgg4
 z4:=Tryz.sizeOf4
 v4:=Tryz.zeroValue4
 t5:=Tryz.underlying5
 a5:=Tryz.isAgg5
 z5:=Tryz.sizeOf5
 v5:=Tryz.zeroValue5
 t9:=Tryz.underlying9
 a9:=Tryz.isAgg9
 z9:=Tryz.sizeOf9
 v9:=Tryz.zeroValue9
 t22:=Tryz.underlying57
 a22:=Tryz.isAgg57
 z22:=Tryz.sizeOf57
 v22:=Tryz.zeroValue57
 t25:=Tryz.underlying128
 a25:=Tryz.isAgg128
 z25:=Tryz.sizeOf128
 v25:=Tryz.zeroValue128
 t39:=Tryz.underlying216
 a39:=Tryz.isAgg216
 z39:=Tryz.sizeOf216
 v39:=Tryz.zeroValue216
 t45:=Tryz.underlying267
 a45:=Tryz.isAgg267
 z45:=Tryz.sizeOf267
 v45:=Tryz.zeroValue267
 t46:=Tryz.underlying268
 a46:=Tryz.isAgg268
 z46:=Tryz.sizeOf268
 v46:=Tryz.zeroValue268
 t50:=Tryz.underlying150
 a50:=Tryz.isAgg150
 z50:=Tryz.sizeOf150
 v50:=Tryz.zeroValue150
 t53:=Tryz.underlying274
 a53:=Tryz.isAgg274
 z53:=Tryz.sizeOf274
 v53:=Tryz.zeroValue274
 t55:=Tryz.underlying276
 a55:=Tryz.isAgg276
 z55:=Tryz.sizeOf276
 v55:=Tryz.zeroValue276
 t66:=Tryz.underlying306
 a66:=Tryz.isAgg306
 z66:=Tryz.sizeOf306
 v66:=Tryz.zeroValue306
 t70:=Tryz.underlying184
 a70:=Tryz.isAgg184
 z70:=Tryz.sizeOf184
 v70:=Tryz.zeroValue184
 t76:=Tryz.underlying318
 a76:=Tryz.isAgg318
 z76:=Tryz.sizeOf318
 v76:=Tryz.zeroValue318
 t77:=Tryz.underlying319
 a77:=Tryz.isAgg319
 z77:=Tryz.sizeOf319
 v77:=Tryz.zeroValue319}
open Go.RowKit Go.Lib Go.Sort in
theorem Tryz.slices_SortFunc {α:Type} [Inhabited α] (k:Nat) (aE:∀ w,(isAgg (Tryz.laysSlF06_f80_ren.t 24)).run Tryz.prog w= .ok true w) (zE:∀ w,(Go.sizeOf (Tryz.laysSlF06_f80_ren.t 24)).run Tryz.prog w= .ok k w) (enc:α→List Value) (hk:∀ x,(enc x).length=k) (h1:∀ x,∀ v∈enc x,v.oneCell'=true) (cf:α→α→Int) (hO:SWO (ltOf cf)) (g:Nat) (cb:Array Value) (blk off cap:Nat) (d:Array α) (w:World) (eg:∀ args w,(callFunc g args).run Tryz.prog w= .ok (.enter g args) w) (hcmp:CmpLays Tryz.prog g cb enc k cf blk off d.size w) (hH:HoldsK enc k w blk off d) (hblk:blk<w.heap.size) (hsz:d.size<4611686018427387904):
  Calls Tryz.prog 80 #[.slice (some ⟨blk,off,none⟩) d.size cap,.func (.func g) #[] cb] w fun e w'=>
   e= .returned (.tuple #[])∧∃ d' n os,PermIn 0 d.size d d'∧SortedIn (ltOf cf) 0 d.size d'∧w'=sortWorldK enc k w blk off n d' os:=AnyQ.slices_SortFunc Tryz.laysSlF06_f80 k aE zE enc hk h1 cf hO g cb blk off cap d w eg hcmp hH hblk hsz
open Go.RowKit Go.Lib Go.Sort in
theorem Tryz.slices_SortFunc_none {α:Type} [Inhabited α] (p:Option Addr) (cap:Nat) (fv:Value) (w:World):
  Calls Tryz.prog 80 #[.slice p 0 cap,fv] w fun e w'=>e= .returned (.tuple #[])∧w'=w:=AnyF.slices_SortFunc_none Tryz.laysSlF06_f80 p cap fv w
end
end Go.Proofs
namespace Go.Proofs.YtjblkbkmblkgoaaGreat
section
open Go Go.Kn Go.Proofs
theorem zgi (e:Nat)(zs:List Int){v:Value}{n:Nat}{L:Go.Kn.Loc}(hO:Yp e 1 v n (zs.map (Value.int .i64)) L)(hn:n≤1000000)(I:Qv):
  Vi Tryz.prog 135 [v] I L (fun u I' L'=>u= .tuple #[]∧I'=I∧Yp e 1 v n ((Xd zs).map (Value.int .i64)) L'):=
 zrA Tryz.slices_Sort_int Tryz.slices_Sort_int_none zs hO hn I
end
section
open Go Go.Kn Go.Proofs
def zmv (b:Nat):Value:=.map (some b)
structure zeH (s:List (Int×Bool))(A:Int→Bool):Prop where
 nodup:(s.map (·.1)).Nodup
 all:∀ q∈s,q.2=true
 mem:∀ x,zng s x=A x
theorem zeH.nil:zeH [] (fun _=>false):=⟨.nil,(fun q hq=>by cases hq),fun _=>rfl⟩
theorem zeH.put {s:List (Int×Bool)}{A:Int→Bool}(h:zeH s A)(a:Int):zeH (JJ s a true) (fun x=>decide (a=x)||A x) where
 nodup:=zhT a true h.nodup
 all:=by
  have key:∀ (s:List (Int×Bool)),(∀ q∈s,q.2=true)→∀ q∈JJ s a true,q.2=true:=by
   intro s
   induction s with
   | nil=>intro _ q hq;simp [JJ] at hq;rw [hq]
   | cons p s ih=>
    intro h q hq
    unfold JJ at hq
    split at hq
    ·
     rcases List.mem_cons.1 hq with rfl | hq
     ·
      rfl
     ·
      exact h q (List.mem_cons_of_mem _ hq)
    ·
     rcases List.mem_cons.1 hq with rfl | hq
     ·
      exact h _ (List.mem_cons_self ..)
     ·
      exact ih (fun q hq=>h q (List.mem_cons_of_mem _ hq)) q hq
  exact key s h.all
 mem:=fun x=>by rw [zhe,h.mem]
theorem zeH.congr {s:List (Int×Bool)}{A B:Int→Bool}(h:zeH s A)(e:∀ x,A x=B x):zeH s B:=⟨h.nodup,h.all,fun x=>by rw [h.mem,e]⟩
theorem zeH.key {s:List (Int×Bool)}{A:Int→Bool}(h:zeH s A){x:Int}:A x=true↔x∈s.map (·.1):=by
 rw [←h.mem]
 unfold zng
 constructor
 ·
  intro h1
  cases hg:ZS s x with
  | none=>rw [hg] at h1;cases h1
  | some b=>exact List.mem_map.2 ⟨_,zda hg,rfl⟩
 ·
  intro h1
  obtain ⟨q,hq,rfl⟩:=List.mem_map.1 h1
  rw [zrt h.nodup hq,h.all q hq];rfl
def OnS (I:Qv)(ref:Nat)(A:Int→Bool):Prop:=∃ s:List (Int×Bool),I ref=some (YD (Value.int .i64) Value.bool s)∧zeH s A
theorem OnS.mono {I I':Qv}{ref:Nat}{A:Int→Bool}(h:OnS I ref A)(hI:HLe I I'):OnS I' ref A:=by
 obtain ⟨s,h1,h2⟩:=h
 exact ⟨s,hI _ _ h1,h2⟩
def OnL (I:Qv)(m:List (Int×Nat))(ps:List Pt):Prop:=m.map (·.1)=ps.map (·.id)∧∀ q∈m,OnS I q.2 (onF ps q.1)
theorem OnL.mono {I I':Qv}{m:List (Int×Nat)}{ps:List Pt}(h:OnL I m ps)(hI:HLe I I'):OnL I' m ps:=⟨h.1,fun q hq=>(h.2 q hq).mono hI⟩
theorem OnL.nil {I:Qv}{ps:List Pt}:OnL I [] (ps.take 0):=⟨by simp,fun q hq=>by cases hq⟩
def OnM (I:Qv)(r:Nat)(ps:List Pt):Prop:=∃ m:List (Int×Nat),I r=some (YD (Value.int .i64) zmv m)∧OnL I m ps
theorem OnM.mono {I I':Qv}{r:Nat}{ps:List Pt}(h:OnM I r ps)(hI:HLe I I'):OnM I' r ps:=by
 obtain ⟨m,h1,h2⟩:=h
 exact ⟨m,hI _ _ h1,h2.mono hI⟩
theorem OnL.get {I:Qv}{m:List (Int×Nat)}{ps:List Pt}(h:OnL I m ps){a:Int}(ha:∃ q∈ps,q.id=a):∃ ref,ZS m a=some ref∧OnS I ref (onF ps a):=by
 cases hg:ZS m a with
 | none=>
  have:=zbk.1 hg
  rw [h.1] at this
  obtain ⟨q,hq,rfl⟩:=ha
  exact absurd (List.mem_map.2 ⟨q,hq,rfl⟩) this
 | some ref=>exact ⟨ref,rfl,h.2 _ (zda hg)⟩
theorem Lst.before {ps:List Pt}(h:Lst ps){k:Nat}{p:Pt}(hk:ps[k]? =some p){n:Int}(hn:n∈p.needs):∃ q∈ps.take k,q.id=n:=by
 obtain ⟨h1,q,hq,rfl⟩:=h.has p (List.mem_of_getElem? hk) n hn
 obtain ⟨j,hj⟩:=List.getElem?_of_mem hq
 obtain ⟨hj1,hj2⟩:=List.getElem?_eq_some_iff.1 hj
 obtain ⟨hk1,hk2⟩:=List.getElem?_eq_some_iff.1 hk
 have hjk:j<k:=by
  rcases Nat.lt_or_ge j k with h3 | h3
  ·
   exact h3
  ·
   exfalso
   by_cases e:k=j
   ·
    subst e;rw [hk] at hj;cases hj;omega
   ·
    have:=List.pairwise_iff_getElem.1 h.inc k j hk1 hj1 (by omega)
    rw [hj2,hk2] at this;omega
 refine ⟨q,?_,rfl⟩
 rw [List.mem_take_iff_getElem]
 exact ⟨j,by omega,hj2⟩
theorem Lst.fresh {ps:List Pt}(h:Lst ps){k:Nat}{p:Pt}(hk:ps[k]? =some p):∀ q∈ps.take k,q.id<p.id:=fun q hq=>by
 obtain ⟨j,hj,rfl⟩:=List.mem_take_iff_getElem.1 hq
 obtain ⟨hk1,hk2⟩:=List.getElem?_eq_some_iff.1 hk
 have:=List.pairwise_iff_getElem.1 h.inc j k (by omega) hk1 (by omega)
 rw [hk2] at this;exact this
theorem OnL.step {I:Qv}{m:List (Int×Nat)}{ps:List Pt}{k ref:Nat}{p:Pt}{s:List (Int×Bool)}(hL:Lst ps)(hk:ps[k]? =some p)(hm:OnL I m (ps.take k))(hb:I ref=some (YD (Value.int .i64) Value.bool s))
  (hs:zeH s (fun x=>p.needs.any fun n=>n==x||onF (ps.take k) n x)):OnL I (JJ m p.id ref) (ps.take (k+1)):=by
 have hfr:=hL.fresh hk
 have hnew:p.id∉m.map (·.1):=by
  rw [hm.1]
  intro h
  obtain ⟨q,hq,e⟩:=List.mem_map.1 h
  have:=hfr q hq;omega
 have hmi:JJ m p.id ref=m++[(p.id,ref)]:=by
  refine zct m p.id ref 0 ?_
  have:=zbk.2 hnew
  rw [←zbc m p.id 0] at this
  simpa using this
 rw [Wb hk]
 refine ⟨by rw [zbs,if_neg hnew,hm.1];simp,fun q hq=>?_⟩
 rw [hmi] at hq
 rcases List.mem_append.1 hq with hq | hq
 ·
  obtain ⟨s',h1,h2⟩:=hm.2 q hq
  refine ⟨s',h1,h2.congr fun x=>?_⟩
  have hne:q.1≠p.id:=fun e=>hnew (by rw [←e];exact List.mem_map.2 ⟨q,hq,rfl⟩)
  rw [zhf (fun z hz=>by simp at hz;subst hz;exact fun e=>hne e.symm)]
 ·
  simp at hq;subst hq
  refine ⟨s,hb,hs.congr fun x=>?_⟩
  exact (zed (fun z hz=>by cases hz)).symm
def zqX (sn:List (Int×Bool))(seen:List Nat)(x:Int):Bool:=seen.any fun i=>(sn[i]?.map (·.1))==some x
theorem zmx (sn:List (Int×Bool))(x:Int):zqX sn [] x=false:=rfl
theorem zko {sn:List (Int×Bool)}{seen:List Nat}{i:Nat}{p:Int×Bool}(hp:sn[i]? =some p)(x:Int):zqX sn (seen++[i]) x=(decide (p.1=x)||zqX sn seen x):=by
 unfold zqX
 rw [List.any_append,Bool.eq_iff_iff]
 simp [hp,or_comm]
theorem zmd {sn:List (Int×Bool)}{A:Int→Bool}(h:zeH sn A){seen:List Nat}(hall:∀ i p,sn[i]? =some p→i∈seen)(x:Int):zqX sn seen x=A x:=by
 rw [Bool.eq_iff_iff,h.key]
 unfold zqX
 rw [List.any_eq_true]
 constructor
 ·
  rintro ⟨i,_,hi⟩
  cases hx:sn[i]? with
  | none=>rw [hx] at hi;simp at hi
  | some p=>rw [hx] at hi;simp at hi;exact List.mem_map.2 ⟨p,List.mem_of_getElem? hx,hi⟩
 ·
  intro hx
  obtain ⟨p,hp,rfl⟩:=List.mem_map.1 hx
  obtain ⟨i,hi⟩:=List.getElem?_of_mem hp
  exact ⟨i,hall i p hi,by rw [hi];simp⟩
end
section
open Go Go.Kn Go.Proofs
theorem znd {I:Qv}{av:Option Addr}{n c:Nat}{ps:List Pt}(hP:SlP I av n c ps)(hn:n≤100000)(hL:Lst ps)(hnd:∀ p∈ps,p.n≤100000):Vi Tryz.prog 99 [.slice av n c] I [] (fun v I' L=>L=[]∧∃ r,v= .map (some r)∧OnM I' r ps):=by
 intro g H w hw
 refine qe Tryz.func99 Tryz.ntmps99 hw ?_
 have hIc:=zxd I
 refine zR (zA ?_)
 refine zN (zR ?_)
 refine Yh rfl rfl (fun r_10=>?_)
 refine zA (zN (Qq (zR ?_)))
 refine zM ?_
 refine zQ V4 ?_
 refine zM (zN (QD ?_))
 refine zU [(3,_),(11,_),(12,_)] (fun T L0 mz E I' loc'=>∃ (k:Nat) (m:List (Int×Nat)),mz=n-k∧E=(13,.int .i64 k)::T∧HLe I I'∧[(r_10,YD (Value.int .i64) zmv m)]=loc'∧k≤n∧OnL I' m (ps.take k)) ?_ (h:=⟨0,[],rfl,rfl,zxd _,rfl,Nat.zero_le _,OnL.nil⟩)
 rintro mz E J1 loc' ⟨k,m,rfl,rfl,hJ,rfl,hk,hm⟩
 have hP:=hP.mono hJ;have hIc:=hIc.trans hJ
 have hB0:=hJ
 refine zR (zC (zN (Qq ?_)))
 refine zI ?_ ?_<;>intro hc14
 ·
  have hlt_k:k<n:=by have h:=hc14;simp at h;omega
  have hP1:=hP.1
  obtain ⟨p,hp,hN⟩:=hP.at hlt_k
  have hpm:=List.mem_of_getElem? hp
  have hN:Sl J1 1 Yk p.a p.n p.c p.needs:=hN
  have hpn:=hnd p hpm
  refine Qw (Qc (Qq (QD (zR ?_))))
  refine zV (QV rfl rfl V4 (by assumption) (fun hg=>by omega)) ?_
  refine zV (Qg rfl JA (fun hg=>by exact zxe hP.1 hp) rfl) ?_
  refine Qt zaL rfl rfl (fun b_5=>?_)
  refine zh Uk ?_
  refine zN (zR ?_)
  refine Yh rfl rfl (fun r_17=>?_)
  refine zA (zN (Qq (zR ?_)))
  refine zF Y6 ?_
  refine zL Kb ?_
  refine zQ Yo ?_
  refine zM (zN (QD ?_))
  refine zU [(3,_),(5,_),(6,_),(11,_),(12,_),(13,_),(19,_),(20,_)] (fun T L0 mz E I' loc'=>∃ (j:Nat) (s:List (Int×Bool)),mz=p.n-j∧E=(21,.int .i64 j)::T∧J1=I'∧[(r_17,YD (Value.int .i64) Value.bool s),(b_5,.cells (W5 p).toArray 39 (0,0)),(r_10,YD (Value.int .i64) zmv m)]=loc'∧j≤p.n∧zeH s (fun x=>(p.needs.take j).any fun n=>n==x||onF (ps.take k) n x)) ?_ (h:=⟨0,[],rfl,rfl,rfl,rfl,Nat.zero_le _,zeH.nil⟩)
  rintro mz E I' loc' ⟨j,s,rfl,rfl,rfl,rfl,hj,hs⟩
  refine zR (zC (zN (Qq ?_)))
  refine zI ?_ ?_<;>intro hc22
  ·
   have hlt_j:j<p.n:=by have h:=hc22;simp at h;omega
   obtain ⟨y,hy⟩:=hN.at hlt_j
   obtain ⟨ref,hget,sn,hsn,hsq⟩:=hm.get (hL.before hp (List.mem_of_getElem? hy))
   refine Qw (Qc (Qq (QD (zR ?_))))
   refine zV (QV rfl rfl Yo (by assumption) (fun hg=>by omega)) ?_
   refine zV (Qd rfl QA (fun hg=>by exact zw6 hN hy rfl)) ?_
   refine zA ?_
   refine zN (zR ?_)
   refine zM ?_
   refine zM ?_
   refine ZU (m:=s) (ek:=Value.int .i64) (ev:=Value.bool) (a:=y) true U0 Zj rfl rfl rfl rfl (by repeat (first | exact Upd.here | apply Upd.there | apply Qx)) ?_
   refine zN (zR ?_)
   refine zM ?_
   refine zM ?_
   refine zV (Xb (m:=m) (ek:=Value.int .i64) (ev:=zmv) (a:=y) hget zcN Zj rfl rfl (fun _=>.inr (by simp))) ?_
   refine zma (ek:=Value.int .i64) (ev:=Value.bool) (m:=sn) rfl U0 rfl rfl (.inl hsn) (fun b_30=>?_)
   refine zN (QD ?_)
   refine zU [(3,_),(5,_),(6,_),(11,_),(12,_),(13,_),(19,_),(20,_),(21,_),(30,_)] (fun T L0 mz E I' loc'=>∃ (seen:List Nat) (s:List (Int×Bool)),mz=sn.length-seen.length∧E=T∧J1=I'∧[(b_30,K7 ref sn.length seen),(r_17,YD (Value.int .i64) Value.bool s),(b_5,.cells (W5 p).toArray 39 (0,0)),(r_10,YD (Value.int .i64) zmv m)]=loc'∧zeH s (fun x=>zqX sn seen x||(decide (y=x)||(p.needs.take j).any fun n=>n==x||onF (ps.take k) n x))∧seen.Nodup∧∀ i∈seen,i<sn.length) ?_ (h:=⟨[],_,rfl,rfl,rfl,rfl,(hs.put y).congr (fun x=>by rw [zmx,Bool.false_or]),.nil,fun i h=>by cases h⟩)
   rintro mz E I' loc' ⟨seen,s,rfl,rfl,rfl,rfl,hs,hnd2,hlt⟩
   have hsl:=zly hnd2 hlt
   refine zR ?_
   refine zn2 (ek:=Value.int .i64) (ev:=Value.bool) (m:=sn) (fun s'=>[(b_30,K7 ref sn.length s'),(r_17,YD (Value.int .i64) Value.bool s),(b_5,.cells (W5 p).toArray 39 (0,0)),(r_10,YD (Value.int .i64) zmv m)]) rfl (fun s'=>.here) rfl rfl rfl rfl rfl (.inl hsn) (by simp) ?_
   intro t tv s' hno hyes
   refine zN (Qq ?_)
   refine zI ?_ ?_<;>intro hc32
   ·
    obtain ⟨i,q,hq,hns,rfl⟩:=hyes hc32
    refine Qw (Qc (QD (zR ?_)))
    refine zV (zm5 (ek:=Value.int .i64) (ev:=Value.bool) (m:=sn) (p:=q) (seen:=seen) (i:=i) rfl (.inl hsn) (.inr (by simp)) hq) ?_
    refine zE ?_
    refine zA (zN (Qk ?_))
    refine zM ?_
    refine zM ?_
    refine ZU (m:=s) (ek:=Value.int .i64) (ev:=Value.bool) (a:=q.1) true U0 Zj rfl rfl rfl rfl (by repeat (first | exact Upd.here | apply Upd.there | apply Qx)) ?_
    refine Qb (Qn ?_)
    have hnd3:(seen++[i]).Nodup:=List.nodup_append.2 ⟨hnd2,by simp,fun a ha b hb e=>hns (by simp at hb;subst hb;subst e;exact ha)⟩
    have hlt3:∀ j∈seen++[i],j<sn.length:=fun j hj=>(List.mem_append.1 hj).elim (hlt j) (fun h=>by simp at h;subst h;exact (List.getElem?_eq_some_iff.1 hq).1)
    have hsl2:=zly hnd3 hlt3
    rw [List.length_append,List.length_singleton] at hsl2
    exact zm (h:=⟨sn.length-(seen++[i]).length,by rw [List.length_append,List.length_singleton];omega,seen++[i],_,rfl,rfl,rfl,rfl,(hs.put q.1).congr (fun x=>by rw [zko hq,Bool.or_assoc]),hnd3,hlt3⟩)
   obtain ⟨rfl,hall⟩:=hno hc32
   refine Zy (Qs (Qs (QB (Qn (Qc (Qk (zB ?_)))))))
   refine zM (Qb ?_)
   exact zm (h:=⟨p.n-(j+1),by omega,j+1,_,rfl,rfl,rfl,rfl,by omega,hs.congr (fun x=>by rw [zgx hy,zmd hsq hall x];rw [Bool.eq_iff_iff];simp;grind)⟩)
  have hge_j:p.n≤j:=by have h:=hc22;simp at h;omega
  refine Zy (Qs (Qs (QB (Qc ?_))))
  refine QO .here (fun I4 hI4 hb4=>?_)
  have hm:=hm.mono hI4;have hB0:=hB0.trans hI4
  have hbx:=hb4
  refine Qk (zM ?_)
  refine zF YI ?_
  refine zL QA ?_
  refine zM ?_
  refine ZU (m:=m) (ek:=Value.int .i64) (ev:=zmv) (a:=p.id) r_17 zcN Zj rfl rfl rfl rfl (by repeat (first | exact Upd.here | apply Upd.there | apply Qx)) ?_
  refine Qb (Qn (Qc (Qk (zB ?_))))
  refine zM (Qb ?_)
  exact zm (h:=⟨n-(k+1),by omega,k+1,_,rfl,rfl,hB0,rfl,by omega,OnL.step hL hp hm hbx (by rw [Yl hN.len hge_j] at hs;exact hs)⟩)
 have hge_k:n≤k:=by have h:=hc14;simp at h;omega
 rw [Yl hP.len hge_k] at hm
 refine Zy (Qs (Qs (QB (Qc (zR (zM ?_))))))
 refine zA (zN (QF ?_))
 exact QP rfl rfl (fun w hw=>by obtain ⟨I9,h91,h92,h93⟩:=hw.freezeAll;exact ⟨_,I9,[],rfl,hIc.trans h91,h92,rfl,r_10,rfl,m,h93 _ _ (by simp),hm.mono h91⟩)
end
section
open Go Go.Kn Go.Proofs
theorem zr4 (x:Sg):(zr7 [x]==0)=frm x:=by
 unfold zr7 skB skP
 cases h:frm x<;>simp [h]
theorem zf8 (a b c d x y:Bool):(((((a&&b)&&c)&&d)&&x)&&y)=(((a&&b)&&(c&&d))&&(x&&y)):=by simp only [Bool.and_assoc]
theorem zn8 (a b c d x y z:Bool):((((((a&&b)&&c)&&d)&&x)&&y)&&z)=(((a&&b)&&(c&&d))&&(x&&(y&&z))):=by simp only [Bool.and_assoc]
theorem zob (I:Qv)(x:Sg):Yc Tryz.prog 162 [zdi x] I (.bool (frm x)):=by
 intro g H w hw
 refine qe Tryz.func162 Tryz.ntmps162 hw ?_
 have hIc:=zxd I
 refine zR ?_
 refine Zh rfl rfl rfl (fun b_1=>?_)
 refine zA ?_
 refine zN (zR ?_)
 refine zV (Qg rfl VR (fun hg=>by exact Cells.g0) rfl) ?_
 refine Ql (ps:=[(0,_)]) (m:=[zhX x]) zrO rfl (.cons rfl (.nil)) rfl (by simp [zf1]) (by decide) (by decide) rfl rfl (fun b_4=>?_)
 refine Za .here (fun I1 hI1 hb1=>?_)
 have hIc:=hIc.trans hI1
 have hS:=Sl.lit [x] rfl zf1 (show _=some (Obj.cells (([x]:List Sg).flatMap zhX).toArray 36 (0,0)) from hb1)
 refine qcV (vs:=[_]) rfl zrd (ztB hS (by decide)) ?_
 refine zC ?_
 refine zA (zN (QF ?_))
 exact zp hIc rfl rfl (by rw [zr4])
theorem zos {I:Qv}(p:Pt)(hN:Nd I p):Yc Tryz.prog 96 [KW p] I (.int .i64 (KL p)):=by
 intro g H w hw
 refine qe Tryz.func96 Tryz.ntmps96 hw ?_
 have hN:Sl I 1 Yk p.a p.n p.c p.needs:=hN
 refine zR ?_
 refine Zh rfl rfl rfl (fun b_1=>?_)
 refine zA (zN (Qq (zR ?_)))
 refine zF Y6 ?_
 refine zL Kb ?_
 refine zQ Yo ?_
 refine zC (zN ?_)
 refine zI ?_ ?_<;>intro hc11
 ·
  have hlen:p.needs.length>32:=by rw [hN.len];simp at hc11;omega
  refine zR (zA (zN (QF (Qi ?_))))
  exact zr rfl rfl (by rw [ztf hlen])
 have hlen:¬p.needs.length>32:=by rw [hN.len];simp at hc11;omega
 have hpn:p.n≤100000:=by have:=hN.len;omega
 refine Qw (Qc (zR (zA (zN (Qq (zR ?_))))))
 refine zF Y6 ?_
 refine zL Kb ?_
 refine zQ Yo ?_
 refine zM (zN (QD ?_))
 refine zU [(1,_),(13,_),(14,_)] (fun T L0 mz E I' loc'=>∃ (k:Nat) (l:Int),mz=p.n-k∧E=(3,.int .i64 l)::(15,.int .i64 k)::T∧I=I'∧L0=loc'∧k≤p.n∧(List.range k).all (ndP p.id p.needs)=true∧zhy p.needs k l) ?_ (h:=⟨0,0,rfl,rfl,rfl,rfl,Nat.zero_le _,rfl,⟨fun _=>rfl,fun y hy h=>absurd rfl h⟩⟩)
 rintro mz E I' loc' ⟨k,l,rfl,rfl,rfl,rfl,hk,hall,hl⟩
 refine zR (zC (zN (Qq ?_)))
 refine zI ?_ ?_<;>intro hc16
 ·
  have hlt_k:k<p.n:=by have h:=hc16;simp at h;omega
  obtain ⟨x,hx⟩:=hN.at hlt_k
  refine Qw (Qc (Qq (QD (zR ?_))))
  refine zV (QV rfl rfl Yo (by assumption) (fun hg=>by omega)) ?_
  refine zV (Qd rfl QA (fun hg=>by exact zw6 hN hx rfl)) ?_
  refine zA (zN (Qq (zR ?_)))
  refine zM ?_
  refine zM ?_
  refine zC ?_
  refine zM ?_
  refine Ze 3 rfl rfl rfl ?_
  refine zJ (Qh rfl) ?_
  refine zJ (Qa rfl YI) ?_
  refine zJ (Qd rfl QA (fun hg=>by exact QG.h0 rfl)) ?_
  refine zJ (QT rfl rfl rfl) ?_
  refine ZP rfl rfl rfl rfl rfl ?_
  refine zN ?_
  refine zI ?_ ?_<;>intro hc27
  ·
   have hnd:ndB p.id p.needs=false:=by unfold ndB;exact K3 (k:=k) (by rw [hN.len];exact hlt_k) (by rw [zt4 hall hl hx,hc27];rfl)
   refine zR (zA (zN (QF (Qi (Qz (Qi (Qi ?_)))))))
   refine Qz (Qi ?_)
   exact zr rfl rfl (by rw [zsR hlen hnd])
  refine Qw (Qc (Qk (zM ?_)))
  refine zA (Qb (Qn (Qc (Qk ?_))))
  refine zB ?_
  refine zM (Qb ?_)
  exact zm (h:=⟨p.n-(k+1),by omega,k+1,_,rfl,rfl,rfl,rfl,by omega,KA hall (by rw [zt4 hall hl hx,hc27];rfl),zb2 hx⟩)
 have hge_k:p.n≤k:=by have h:=hc16;simp at h;omega
 have hnd:ndB p.id p.needs=true:=by unfold ndB;rw [hN.len,show p.n=k by omega];exact hall
 refine Zy (Qs (Qs (QB (Qc (zR ?_)))))
 refine zF YI ?_
 refine zL QA ?_
 refine zC ?_
 refine zM ?_
 refine QL 3 rfl rfl rfl ?_
 refine zK (Qa rfl YI) ?_
 refine zK (Qd rfl QA (fun hg=>by exact QG.h0 rfl)) ?_
 refine zK (QT rfl rfl rfl) ?_
 refine QW rfl rfl rfl rfl rfl ?_
 refine zM ?_
 refine QL 8 rfl rfl rfl ?_
 refine zK (Qa rfl Vj) ?_
 refine zK (Qd rfl QA (fun hg=>by exact QG.h0 rfl)) ?_
 refine zK (QT rfl rfl rfl) ?_
 refine QW rfl rfl rfl rfl rfl ?_
 refine zM ?_
 refine QL 13 rfl rfl rfl ?_
 refine zK (Qa rfl Vj) ?_
 refine zK (Qd rfl QA (fun hg=>by exact QG.h0 rfl)) ?_
 refine zK (QT rfl rfl rfl) ?_
 refine QW rfl rfl rfl rfl rfl ?_
 refine zA (zN (Qq (zR ?_)))
 refine zF KM ?_
 refine zL QA ?_
 refine zN (QD (zR (zC ?_)))
 refine zA (zN ?_)
 refine zI ?_ ?_<;>intro hc50
 ·
  have hk:p.kind=1:=by simpa using hc50
  refine Qq (zR ?_)
  refine zF V2 ?_
  refine zL QA ?_
  refine zC ?_
  refine zM ?_
  refine Ze 3 rfl rfl rfl ?_
  refine zJ (Qa rfl V2) ?_
  refine zJ (Qd rfl QA (fun hg=>by exact QG.h0 rfl)) ?_
  refine zJ (QT rfl rfl rfl) ?_
  refine ZP rfl rfl rfl rfl rfl ?_
  refine zN ?_
  refine zI ?_ ?_<;>intro hc59
  ·
   have hb:(idB p&&Wy p)=false:=zvi hk (by unfold within;simp at hc59 ⊢;omega)
   refine zR (zA (zN (QF (Qi (Qz (Qi ?_))))))
   exact zr rfl rfl (by rw [zd9 hlen hnd hb])
  have hf:isF p.field:=by have h:=hc59;unfold isF;simp at h;omega
  have hw1:within p.field 1 9=true:=by have h:=hc59;unfold within;simp at h ⊢;omega
  refine Qw (Qc (zR ?_))
  refine zV (QZ (ps:=[(1,_)]) [_,_] zod rfl rfl) ?_
  refine zV (QZ (ps:=[(0,_),(1,_)]) [_,_] zod rfl rfl) ?_
  refine zV (QZ (ps:=[(3,_),(4,_),(10,_),(11,_)]) [_,_,_,_,_,_,_,_,_,_,_,_,_,_] zez rfl rfl) ?_
  refine Qt zmu rfl rfl (fun b_7=>?_)
  refine zh zbd ?_
  refine zN (Qk (zM ?_))
  refine zM ?_
  refine QL 1 rfl rfl rfl ?_
  refine zK (Qa rfl Jh) ?_
  refine zK (Qg rfl VR (fun hg=>by exact Cells.s1 (vs:=[_,_,_,_,_,_,_,_,_,_,_,_,_,_]) rfl) rfl) ?_
  refine zK (Qa rfl V2) ?_
  refine zK (Qd rfl QA (fun hg=>by exact QG.h1 rfl)) ?_
  refine zK (QZ (ps:=[]) [_,_,_,_,_,_,_,_,_,_,_,_,_,_] zez rfl rfl) ?_
  refine qg (vs:=[_,_,_]) rfl zkQ (fun hg=>zuf I p.nw p.field KY hf) ?_
  refine zK (QZ (ps:=[]) [_,_,_,_,_,_,_,_,_,_,_,_,_,_] zez rfl rfl) ?_
  refine zK (za7 rfl rfl zci rfl) ?_
  refine QW rfl rfl rfl rfl rfl ?_
  refine zM ?_
  refine QL 11 rfl rfl rfl ?_
  refine zK (Qg rfl VR (fun hg=>by exact Cells.g0) rfl) ?_
  refine zK (Qa rfl V2) ?_
  refine zK (Qd rfl QA (fun hg=>by exact QG.h1 rfl)) ?_
  refine zK (Qa rfl Jh) ?_
  refine zK (Qg rfl VR (fun hg=>by exact Cells.s1 (vs:=[_,_,_,_,_,_,_,_,_,_,_,_,_,_]) rfl) rfl) ?_
  refine qg (vs:=[_,_,_]) rfl zkQ (fun hg=>zuf I zlh p.field p.nw hf) ?_
  refine qg (vs:=[_]) rfl zlQ (fun hg=>zob I _) ?_
  refine QW rfl rfl rfl rfl rfl ?_
  refine zA (Qb (Qn (Qc (Qq (zR ?_)))))
  refine zM ?_
  refine zO (zN ?_)
  refine zI ?_ ?_<;>intro hc119
  ·
   have hb:(idB p&&Wy p)=false:=by (exact (show (idB p&&Wy p)=false from by rw [ztY hk hw1];exact (zf8 _ _ _ _ _ _).symm.trans ((Bool.not_eq_true' _).mp hc119)))
   refine zR (zA (zN (QF (Qi ?_))))
   exact zr rfl rfl (by rw [zd9 hlen hnd hb])
  have hb:(idB p&&Wy p)=true:=by (exact (show (idB p&&Wy p)=true from by rw [ztY hk hw1];exact (zf8 _ _ _ _ _ _).symm.trans ((Bool.not_eq_false' _).mp hc119)))
  refine Qw (Qc (zR (zA (zN (QF ?_)))))
  exact zr rfl rfl (by rw [zgL hlen hnd hb])
 have hk1:p.kind≠1:=by simpa using hc50
 refine zR (zC ?_)
 refine zA (zN ?_)
 refine zI ?_ ?_<;>intro hc83
 ·
  have hk:p.kind=2:=by simpa using hc83
  refine Qk (zM ?_)
  refine zM ?_
  refine QL 1 rfl rfl rfl ?_
  refine zK (Qa rfl V2) ?_
  refine zK (Qd rfl QA (fun hg=>by exact QG.h0 rfl)) ?_
  refine zK (QT rfl rfl rfl) ?_
  refine QW rfl rfl rfl rfl rfl ?_
  refine zM ?_
  refine QL 6 rfl rfl rfl ?_
  refine zK (Qa rfl Jh) ?_
  refine zK (Qa rfl Us) ?_
  refine zK (Qd rfl QA (fun hg=>by exact QG.h0 rfl)) ?_
  refine zK (Qa rfl Vj) ?_
  refine zK (Qd rfl QA (fun hg=>by exact QG.h0 rfl)) ?_
  refine zK (QT rfl rfl rfl) ?_
  refine QW rfl rfl rfl rfl rfl ?_
  refine zM ?_
  refine QL 14 rfl rfl rfl ?_
  refine zK (Qa rfl Jh) ?_
  refine zK (Qg rfl VR (fun hg=>by exact Cells.s0 (vs:=[_,_,_,_,_,_,_,_,_,_,_,_,_,_]) rfl) rfl) ?_
  refine qg (vs:=[_]) rfl zlQ (fun hg=>zob I _) ?_
  refine QW rfl rfl rfl rfl rfl ?_
  refine zA (Qb (Qn (Qc (Qq (zR ?_)))))
  refine zM ?_
  refine zO (zN ?_)
  refine zI ?_ ?_<;>intro hc119
  ·
   have hb:(idB p&&Wy p)=false:=by (exact (show (idB p&&Wy p)=false from by rw [zs4 hk];exact (zn8 _ _ _ _ _ _ _).symm.trans ((Bool.not_eq_true' _).mp hc119)))
   refine zR (zA (zN (QF (Qi ?_))))
   exact zr rfl rfl (by rw [zd9 hlen hnd hb])
  have hb:(idB p&&Wy p)=true:=by (exact (show (idB p&&Wy p)=true from by rw [zs4 hk];exact (zn8 _ _ _ _ _ _ _).symm.trans ((Bool.not_eq_false' _).mp hc119)))
  refine Qw (Qc (zR (zA (zN (QF ?_)))))
  exact zr rfl rfl (by rw [zgL hlen hnd hb])
 have hk2:p.kind≠2:=by simpa using hc83
 refine zR (zC ?_)
 refine zA (zN ?_)
 refine zI ?_ ?_<;>intro hc104
 ·
  have hk:p.kind=3:=by simpa using hc104
  refine Qk (zM ?_)
  refine zM ?_
  refine QL 1 rfl rfl rfl ?_
  refine zK (Qa rfl V2) ?_
  refine zK (Qd rfl QA (fun hg=>by exact QG.h0 rfl)) ?_
  refine zK (QT rfl rfl rfl) ?_
  refine QW rfl rfl rfl rfl rfl ?_
  refine zM ?_
  refine QL 6 rfl rfl rfl ?_
  refine zK (Qa rfl Jh) ?_
  refine zK (Qg rfl VR (fun hg=>by exact Cells.s0 (vs:=[_,_,_,_,_,_,_,_,_,_,_,_,_,_]) rfl) rfl) ?_
  refine zK (QZ (ps:=[]) [_,_,_,_,_,_,_,_,_,_,_,_,_,_] zez rfl rfl) ?_
  refine zK (za7 rfl rfl zci rfl) ?_
  refine QW rfl rfl rfl rfl rfl ?_
  refine zA (Qb (Qn (Qc (Qq (zR ?_)))))
  refine zM ?_
  refine zO (zN ?_)
  refine zI ?_ ?_<;>intro hc119
  ·
   have hb:(idB p&&Wy p)=false:=by (exact (show (idB p&&Wy p)=false from by rw [ztF hk];exact (zf8 _ _ _ _ _ _).symm.trans ((Bool.not_eq_true' _).mp hc119)))
   refine zR (zA (zN (QF (Qi ?_))))
   exact zr rfl rfl (by rw [zd9 hlen hnd hb])
  have hb:(idB p&&Wy p)=true:=by (exact (show (idB p&&Wy p)=true from by rw [ztF hk];exact (zf8 _ _ _ _ _ _).symm.trans ((Bool.not_eq_false' _).mp hc119)))
  refine Qw (Qc (zR (zA (zN (QF ?_)))))
  exact zr rfl rfl (by rw [zgL hlen hnd hb])
 have hk3:p.kind≠3:=by simpa using hc104
 refine Qk (zA (Qb (Qn (Qc (Qq (zR ?_))))))
 refine zM ?_
 refine zO (zN ?_)
 refine zI ?_ ?_<;>intro hc119
 ·
  have hb:(idB p&&Wy p)=false:=by exact zv5 hk1 hk2 hk3
  refine zR (zA (zN (QF (Qi ?_))))
  exact zr rfl rfl (by rw [zd9 hlen hnd hb])
 have hb:(idB p&&Wy p)=true:=by (exfalso;have h:=hc119;simp at h)
 refine Qw (Qc (zR (zA (zN (QF ?_)))))
 exact zr rfl rfl (by rw [zgL hlen hnd hb])
theorem zvJ {I:Qv}{av:Option Addr}{n c:Nat}{xs:List Int}(hS:Sl I 1 Yk av n c xs)(hn:n≤100000){fid:Nat}{cap:List Value}{P:Int→Bool}(hF:Fun Tryz.prog fid)(hf:∀ x∈xs,Yc Tryz.prog fid ([.int .i64 x]++cap) I (.bool (P x))):Yc Tryz.prog 163 [.slice av n c,.func (.func fid) #[] cap.toArray] I (.int .i64 (zl8 P xs)):=by
 intro g H w hw
 refine qe Tryz.func163 Tryz.ntmps163 hw ?_
 have hS:=hS
 refine zR (zA (zN (Qq (zR ?_))))
 refine zM ?_
 refine zQ Yo ?_
 refine zM (zN (QD ?_))
 refine zU [(0,_),(1,_),(7,_)] (fun T L0 mz E I' loc'=>∃ (k:Nat),mz=n-k∧E=(8,.int .i64 k)::T∧I=I'∧L0=loc'∧k≤n∧(xs.take k).any P=false) ?_ (h:=⟨0,rfl,rfl,rfl,rfl,Nat.zero_le _,rfl⟩)
 rintro mz E I' loc' ⟨k,rfl,rfl,rfl,rfl,hk,hno⟩
 refine zR (zC (zN (Qq ?_)))
 refine zI ?_ ?_<;>intro hc9
 ·
  have hlt_k:k<n:=by have h:=hc9;simp at h;omega
  obtain ⟨x,hx⟩:=hS.at hlt_k
  refine Qw (Qc (Qq (QD (zR (zM ?_)))))
  refine zA ?_
  refine zN (zR ?_)
  refine zM ?_
  refine zM ?_
  refine zM ?_
  refine zV (QV rfl rfl Yo (by assumption) (fun hg=>by omega)) ?_
  refine zV (Qd rfl QA (fun hg=>by exact zw6 hS hx rfl)) ?_
  refine zaw (cap:=cap) (vs:=[_]) rfl rfl hF (hf x (List.mem_of_getElem? hx)) rfl rfl ?_
  refine zN ?_
  refine zI ?_ ?_<;>intro hc16
  ·
   refine zR (zM ?_)
   refine zA (zN (QF (Qz (Qi (Qi (Qz (Qi ?_)))))))
   exact zr rfl rfl (by rw [zeV hno hx hc16])
  refine Qw (Qn (Qc (Qk (zB ?_))))
  refine zM (Qb ?_)
  exact zm (h:=⟨n-(k+1),by omega,k+1,rfl,rfl,rfl,rfl,by omega,zbW hx hno hc16⟩)
 have hge_k:n≤k:=by have h:=hc9;simp at h;omega
 refine Zy (Qs (Qs (QB (Qc (zR (zA (zN ?_)))))))
 refine QF ?_
 exact zr rfl rfl (by rw [zcy hS.len hge_k hno])
theorem zv7 {I:Qv}{av:Option Addr}{n c:Nat}{xs:List Int}(hS:Sl I 1 Yk av n c xs)(hn:n≤100000){fid:Nat}{cap:List Value}{P:Int→Bool}(hF:Fun Tryz.prog fid)(hf:∀ x∈xs,Yc Tryz.prog fid ([.int .i64 x]++cap) I (.bool (P x))):Yc Tryz.prog 97 [.slice av n c,.func (.func fid) #[] cap.toArray] I (.bool (xs.any P)):=by
 intro g H w hw
 refine qe Tryz.func97 Tryz.ntmps97 hw ?_
 refine zR (zA ?_)
 refine zN (zR ?_)
 refine zM ?_
 refine zM ?_
 refine qcV (vs:=[_,_]) rfl zrf (zvJ hS hn hF hf) ?_
 refine zC ?_
 refine zA (zN (QF ?_))
 exact zr rfl rfl (by rw [←zfQ])
theorem zwd {I:Qv}{b r:Nat}{s:List (Int×Bool)}(hb:I b=some (.cells #[.map (some r)] 143 (0,0)))(hr:I r=some (YD (Value.int .i64) Value.bool s))(x:Int):Yc Tryz.prog 98 [.int .i64 x,.pointer (some ⟨b,0,none⟩)] I (.bool (!zng s x)):=by
 intro g H w hw
 refine qe Tryz.func98 Tryz.ntmps98 hw ?_
 refine zR (zA ?_)
 refine zN (zR ?_)
 refine zV (Qd rfl ziP (fun hg=>by exact .imm hb rfl)) ?_
 refine zM ?_
 refine zV (YP U0 Zj rfl rfl (fun _=>.inl hr)) ?_
 refine zO ?_
 refine zA (zN (QF ?_))
 exact zr rfl rfl (by rfl)
end
section
open Go Go.Kn Go.Proofs
theorem Zr:AgT Tryz.prog 45 45:=.of (by kernel_rfl)
theorem zdV:ElT Tryz.prog 63 41 5 40:=.of (by kernel_rfl)
theorem JI:QQ Tryz.prog 43 5 5:=.of (by kernel_rfl)
theorem zq2:Fun Tryz.prog 170:=.of Tryz.func170 (by kernel_rfl) (by kernel_rfl)
theorem zry:Fun Tryz.prog 171:=.of Tryz.func171 (by kernel_rfl) (by kernel_rfl)
theorem US:Fun Tryz.prog 172:=.of Tryz.func172 (by kernel_rfl) (by kernel_rfl)
theorem zjT:Fun Tryz.prog 37:=.of Tryz.func37 (by kernel_rfl) (by kernel_rfl)
theorem zoQ:Fun Tryz.prog 38:=.of Tryz.func38 (by kernel_rfl) (by kernel_rfl)
theorem zky:Fun Tryz.prog 40:=.of Tryz.func40 (by kernel_rfl) (by kernel_rfl)
theorem KD {I:Qv}(x:Nt)(hN:Nd I x.pt):Yc Tryz.prog 108 [JK x] I (.bool (Q7 x)):=by
 intro g H w hw
 refine qe Tryz.func108 Tryz.ntmps108 hw ?_
 have hIc:=zxd I
 refine zR ?_
 refine Zh rfl rfl rfl (fun b_1=>?_)
 refine zA (Qb ?_)
 refine QO .here (fun I1 hI1 hb1=>?_)
 have hN:=hN.mono hI1;have hIc:=hIc.trans hI1
 have h1:=BxI.of hb1
 refine Qc (zR (zA (zN (Qq (zR ?_)))))
 refine zF Vl ?_
 refine zV (Qd rfl QA (fun hg=>by exact QG.imm h1.out rfl)) ?_
 refine zN (QD (zR (zC ?_)))
 refine zA (zN ?_)
 refine zI ?_ ?_<;>intro hc10
 ·
  have k1:x.kind=1:=by simpa using hc10
  refine Qq ?_
  by_cases he:x.lm.ends=0
  ·
   have hlC:lmC x.lm=[x.lm]:=if_pos he
   refine Qk ?_
   refine zF VI ?_
   refine zV (Qg rfl Kt (fun hg=>by exact zfO (BxI.cells (vs:=Zn x) h1)) rfl) ?_
   refine Ql (ps:=[(0,_)]) (m:=[_]) Wh rfl (.cons rfl (.nil)) rfl (by simp [Yt,S.encR_len,L.encL_len]) (by decide) (by decide) rfl rfl (fun b_14=>?_)
   refine Za (by repeat (first | exact Yd.here | apply Yd.there)) (fun I2 hI2 hb2=>?_)
   have h1:=h1.mono hI2;have hIc:=hIc.trans hI2
   have hF:=Sl.lit [x.lm] rfl Yt (show I2 b_14=some (Obj.cells ([x.lm].flatMap ZJ).toArray 32 (0,0)) from hb2)
   refine zA (zN (Qq (zR ?_)))
   refine zF VI ?_
   refine zF JH ?_
   refine zV (Qd rfl QA (fun hg=>by exact QG.imm h1.out rfl)) ?_
   refine zA ?_
   refine zN (zR ?_)
   refine zM ?_
   refine zC (zN ?_)
   refine zI ?_ ?_<;>intro hc19
   ·
    exact absurd hc19 (by simp [he])
   refine Qw (Qc (Qk (zM ?_)))
   refine qcV (vs:=[_]) rfl zjT (zlj hF (by decide)) ?_
   refine zA (Qb (Qn (Qc (zR ?_))))
   refine zM ?_
   refine zC ?_
   refine zM ?_
   refine QL 2 rfl rfl rfl ?_
   refine zK (Qg rfl Zr (fun hg=>by exact BxI.cells (vs:=Zn x) h1) rfl) ?_
   refine qg (vs:=[_]) rfl US (fun hg=>U2 x) ?_
   refine QW rfl rfl rfl rfl rfl ?_
   refine zA (zN (QF ?_))
   first
   | exact zp hIc rfl rfl (by rw [Q7,zbF,if_pos k1,hlC]<;>rfl)
  have hlC:lmC x.lm=[⟨IntKind.i64.wrap (x.lm.ends-1),x.lm.person,0,0,0,0,3,0,1⟩,x.lm]:=if_neg he
  refine Qk ?_
  refine zF VI ?_
  refine zV (Qg rfl Kt (fun hg=>by exact zfO (BxI.cells (vs:=Zn x) h1)) rfl) ?_
  refine Ql (ps:=[(0,_)]) (m:=[ZJ x.lm]) Wh rfl (.cons rfl (.nil)) rfl (by simp [Yt,S.encR_len,L.encL_len]) (by decide) (by decide) rfl rfl (fun b_14=>?_)
  refine zA (zN (Qq (zR ?_)))
  refine zF VI ?_
  refine zF JH ?_
  refine zV (Qd rfl QA (fun hg=>by exact QG.imm h1.out rfl)) ?_
  refine zA ?_
  refine zN (zR ?_)
  refine zM ?_
  refine zC (zN ?_)
  refine zI ?_ ?_<;>intro hc19
  ·
   refine Qk (zM ?_)
   refine zM ?_
   refine zV (za9 rfl rfl rfl) ?_
   refine zF VI ?_
   refine zF Uv ?_
   refine zV (Qd rfl QA (fun hg=>by exact QG.imm h1.out rfl)) ?_
   refine zV (QZ (ps:=[(0,_),(2,_)]) [_,_,_] zkt rfl rfl) ?_
   refine zV (QZ (ps:=[(0,_),(1,_),(6,_)]) [_,_,_,_,_,_,_,_,_] zjo rfl rfl) ?_
   refine Ql (ps:=[(0,_)]) (m:=[ZJ (⟨IntKind.i64.wrap (x.lm.ends-1),x.lm.person,0,0,0,0,3,0,1⟩)]) Wh rfl (.cons rfl (.nil)) rfl (by simp [Yt,S.encR_len,L.encL_len]) (by decide) (by decide) rfl rfl (fun b_28=>?_)
   refine QE (cap:=[]) (vs:=[_,_,_]) rfl rfl zq2 (.cons (.there .here) (.cons .here .nil)) (zi9 (zcS (b:=b_14) (n:=1) (c:=1) (xs:=[x.lm]) (rest:=[]) rfl (Nat.le_refl _) (by decide) (by simp) rfl) (by decide) rfl (i:=0) (by decide) b_28 (⟨IntKind.i64.wrap (x.lm.ends-1),x.lm.person,0,0,0,0,3,0,1⟩)) rfl rfl ?_
   rintro vv3 I3 L3 hI3 ⟨rfl,hOi⟩
   have h1:=h1.mono hI3;have hIc:=hIc.trans hI3
   refine zA (zN ?_)
   refine Zw hOi Yt (by decide) (by repeat (first | exact .cons .here .nil | exact Qu | exact Qr | apply Qp | apply Qo)) (fun I4 hI4 af4 cf4 ef4 hM=>?_)
   subst ef4
   have h1:=h1.mono hI4;have hIc:=hIc.trans hI4
   refine Qk (zM ?_)
   refine qcV (vs:=[_]) rfl zjT (zlj hM (by decide)) ?_
   refine zA (Qb (Qn (Qc (zR ?_))))
   refine zM ?_
   refine zC ?_
   refine zM ?_
   refine QL 2 rfl rfl rfl ?_
   refine zK (Qg rfl Zr (fun hg=>by exact BxI.cells (vs:=Zn x) h1) rfl) ?_
   refine qg (vs:=[_]) rfl US (fun hg=>U2 x) ?_
   refine QW rfl rfl rfl rfl rfl ?_
   refine zA (zN (QF ?_))
   first
   | exact zp hIc rfl rfl (by rw [Q7,zbF,if_pos k1,hlC]<;>rfl)
  exact absurd hc19 (by simpa using he)
 have k1:¬x.kind=1:=by simpa using hc10
 refine zR (zC ?_)
 refine zA (zN ?_)
 refine zI ?_ ?_<;>intro hc32
 ·
  have k2:x.kind=2:=by simpa using hc32
  refine Qk ?_
  refine zF Vv ?_
  refine zV (Qg rfl JA (fun hg=>by exact zhz (BxI.cells (vs:=Zn x) h1)) rfl) ?_
  refine qcV (vs:=[_]) rfl zoW (zos x.pt hN) ?_
  refine zA (Qb (Qn (Qc (zR ?_))))
  refine zM ?_
  refine zC ?_
  refine zM ?_
  refine QL 2 rfl rfl rfl ?_
  refine zK (Qg rfl Zr (fun hg=>by exact BxI.cells (vs:=Zn x) h1) rfl) ?_
  refine qg (vs:=[_]) rfl US (fun hg=>U2 x) ?_
  refine QW rfl rfl rfl rfl rfl ?_
  refine zA (zN (QF ?_))
  first
  | exact zp hIc rfl rfl (by rw [Q7,zbF,if_neg k1,if_pos k2]<;>rfl)
 have k2:¬x.kind=2:=by simpa using hc32
 refine zR (zC ?_)
 refine zA (zN ?_)
 refine zI ?_ ?_<;>intro hc37
 ·
  have k3:x.kind=3:=by simpa using hc37
  refine Qk ?_
  refine zF JX ?_
  refine zV (Qg rfl JZ (fun hg=>by exact zhO (BxI.cells (vs:=Zn x) h1)) rfl) ?_
  refine Ql (ps:=[(0,_)]) (m:=[_]) zdV rfl (.cons rfl (.nil)) rfl (by simp [Yt,S.encR_len,L.encL_len]) (by decide) (by decide) rfl rfl (fun b_41=>?_)
  refine Za (by repeat (first | exact Yd.here | apply Yd.there)) (fun I5 hI5 hb5=>?_)
  have h1:=h1.mono hI5;have hIc:=hIc.trans hI5
  have hF:=Sl.lit [x.ls] rfl L.encL_len (show I5 b_41=some (Obj.cells ([x.ls].flatMap L.encL).toArray 41 (0,0)) from hb5)
  refine qcV (vs:=[_]) rfl zoQ (L.w_check hF (by decide)) ?_
  refine zA (Qb (Qn (Qc (zR ?_))))
  refine zM ?_
  refine zC ?_
  refine zM ?_
  refine QL 2 rfl rfl rfl ?_
  refine zK (Qg rfl Zr (fun hg=>by exact BxI.cells (vs:=Zn x) h1) rfl) ?_
  refine qg (vs:=[_]) rfl US (fun hg=>U2 x) ?_
  refine QW rfl rfl rfl rfl rfl ?_
  refine zA (zN (QF ?_))
  first
  | exact zp hIc rfl rfl (by rw [Q7,zbF,if_neg k1,if_neg k2,if_pos k3]<;>rfl)
 have k3:¬x.kind=3:=by simpa using hc37
 refine zR (zC ?_)
 refine zA (zN ?_)
 refine zI ?_ ?_<;>intro hc43
 ·
  have k4:x.kind=4:=by simpa using hc43
  refine Qq ?_
  by_cases he:x.rt.ends=0
  ·
   have hlC:rtC x.rt=[x.rt]:=if_pos he
   refine Qk ?_
   refine zF YR ?_
   refine zV (Qg rfl Vn (fun hg=>by exact ze2 (BxI.cells (vs:=Zn x) h1)) rfl) ?_
   refine Ql (ps:=[(0,_)]) (m:=[_]) Wq rfl (.cons rfl (.nil)) rfl (by simp [Yt,S.encR_len,L.encL_len]) (by decide) (by decide) rfl rfl (fun b_47=>?_)
   refine Za (by repeat (first | exact Yd.here | apply Yd.there)) (fun I6 hI6 hb6=>?_)
   have h1:=h1.mono hI6;have hIc:=hIc.trans hI6
   have hF:=Sl.lit [x.rt] rfl S.encR_len (show I6 b_47=some (Obj.cells ([x.rt].flatMap S.encR).toArray 43 (0,0)) from hb6)
   refine zA (zN (Qq (zR ?_)))
   refine zF YR ?_
   refine zF JI ?_
   refine zV (Qd rfl QA (fun hg=>by exact QG.imm h1.out rfl)) ?_
   refine zA ?_
   refine zN (zR ?_)
   refine zM ?_
   refine zC (zN ?_)
   refine zI ?_ ?_<;>intro hc52
   ·
    exact absurd hc52 (by simp [he])
   refine Qw (Qc (Qk (zM ?_)))
   refine qcV (vs:=[_]) rfl zky (S.w_check hF (by decide)) ?_
   refine zA (Qb (Qn (Qc (zR ?_))))
   refine zM ?_
   refine zC ?_
   refine zM ?_
   refine QL 2 rfl rfl rfl ?_
   refine zK (Qg rfl Zr (fun hg=>by exact BxI.cells (vs:=Zn x) h1) rfl) ?_
   refine qg (vs:=[_]) rfl US (fun hg=>U2 x) ?_
   refine QW rfl rfl rfl rfl rfl ?_
   refine zA (zN (QF ?_))
   first
   | exact zp hIc rfl rfl (by rw [Q7,zbF,if_neg k1,if_neg k2,if_neg k3,if_pos k4,hlC]<;>rfl)
  have hlC:rtC x.rt=[⟨IntKind.i64.wrap (x.rt.ends-1),1,0,0,0,0,⟨#[97]⟩,⟨#[97]⟩,0,0,0⟩,x.rt]:=if_neg he
  refine Qk ?_
  refine zF YR ?_
  refine zV (Qg rfl Vn (fun hg=>by exact ze2 (BxI.cells (vs:=Zn x) h1)) rfl) ?_
  refine Ql (ps:=[(0,_)]) (m:=[S.encR x.rt]) Wq rfl (.cons rfl (.nil)) rfl (by simp [Yt,S.encR_len,L.encL_len]) (by decide) (by decide) rfl rfl (fun b_47=>?_)
  refine zA (zN (Qq (zR ?_)))
  refine zF YR ?_
  refine zF JI ?_
  refine zV (Qd rfl QA (fun hg=>by exact QG.imm h1.out rfl)) ?_
  refine zA ?_
  refine zN (zR ?_)
  refine zM ?_
  refine zC (zN ?_)
  refine zI ?_ ?_<;>intro hc52
  ·
   refine Qk (zM ?_)
   refine zM ?_
   refine zV (za9 rfl rfl rfl) ?_
   refine zV (QZ (ps:=[(0,_),(1,_),(6,_),(7,_)]) [_,_,_,_,_,_,_,_,_,_,_] zaN rfl rfl) ?_
   refine Ql (ps:=[(0,_)]) (m:=[S.encR (⟨IntKind.i64.wrap (x.rt.ends-1),1,0,0,0,0,⟨#[97]⟩,⟨#[97]⟩,0,0,0⟩)]) Wq rfl (.cons rfl (.nil)) rfl (by simp [Yt,S.encR_len,L.encL_len]) (by decide) (by decide) rfl rfl (fun b_57=>?_)
   refine QE (cap:=[]) (vs:=[_,_,_]) rfl rfl zry (.cons (.there .here) (.cons .here .nil)) (zlw (zc5 (b:=b_47) (n:=1) (c:=1) (xs:=[x.rt]) (rest:=[]) rfl (Nat.le_refl _) (by decide) (by simp) rfl) (by decide) rfl (i:=0) (by decide) b_57 (⟨IntKind.i64.wrap (x.rt.ends-1),1,0,0,0,0,⟨#[97]⟩,⟨#[97]⟩,0,0,0⟩)) rfl rfl ?_
   rintro vv7 I7 L7 hI7 ⟨rfl,hOi⟩
   have h1:=h1.mono hI7;have hIc:=hIc.trans hI7
   refine zA (zN ?_)
   refine Zw hOi S.encR_len (by decide) (by repeat (first | exact .cons .here .nil | exact Qu | exact Qr | apply Qp | apply Qo)) (fun I8 hI8 af8 cf8 ef8 hM=>?_)
   subst ef8
   have h1:=h1.mono hI8;have hIc:=hIc.trans hI8
   refine Qk (zM ?_)
   refine qcV (vs:=[_]) rfl zky (S.w_check hM (by decide)) ?_
   refine zA (Qb (Qn (Qc (zR ?_))))
   refine zM ?_
   refine zC ?_
   refine zM ?_
   refine QL 2 rfl rfl rfl ?_
   refine zK (Qg rfl Zr (fun hg=>by exact BxI.cells (vs:=Zn x) h1) rfl) ?_
   refine qg (vs:=[_]) rfl US (fun hg=>U2 x) ?_
   refine QW rfl rfl rfl rfl rfl ?_
   refine zA (zN (QF ?_))
   first
   | exact zp hIc rfl rfl (by rw [Q7,zbF,if_neg k1,if_neg k2,if_neg k3,if_pos k4,hlC]<;>rfl)
  exact absurd hc52 (by simpa using he)
 have k4:¬x.kind=4:=by simpa using hc43
 refine Qw (Qn (Qc (zR (zM ?_))))
 refine zC ?_
 refine zM ?_
 refine QL 2 rfl rfl rfl ?_
 refine zK (Qg rfl Zr (fun hg=>by exact BxI.cells (vs:=Zn x) h1) rfl) ?_
 refine qg (vs:=[_]) rfl US (fun hg=>U2 x) ?_
 refine QW rfl rfl rfl rfl rfl ?_
 refine zA (zN (QF ?_))
 first
 | exact zp hIc rfl rfl (by rw [Q7,zbF,if_neg k1,if_neg k2,if_neg k3,if_neg k4]<;>rfl)
end
end Go.Proofs.YtjblkbkmblkgoaaGreat
namespace Go.Kn
section
open Go
def zhM (b:Nat)(x:Nat×Nat):Nat×Value:=(x.1,.pointer (some ⟨b,x.2,none⟩))
def zvl:List (Nat×Nat×Nat)→Nat→Nat→Option Nat
 | [],_,_=>none
 | (s,f,o)::l,s',f'=>if s=s'∧f=f' then some o else zvl l s' f'
def lkN:List (Nat×Nat)→Nat→Option Nat
 | [],_=>none
 | (t,o)::l,x=>if t=x then some o else lkN l x
def zpI (ft:List (Nat×Nat×Nat))(se:List (Nat×Nat)):Op→Option Nat
 | .move (.tmp x)=>lkN se x
 | .assign (.tmp x)=>lkN se x
 | .nilCheck (.tmp x)=>lkN se x
 | .fieldAddr s (.tmp x) f=>match lkN se x,zvl ft s f with | some o,some k=>some (o+k) | _,_=>none
 | _=>none
def zns (P:Program)(ft:List (Nat×Nat×Nat)):Prop:=∀ s f o,(s,f,o)∈ft→QQ P s f o
theorem zns.nil {P:Program}:zns P []:=fun _ _ _ h=>by cases h
theorem zns.cons {P:Program}{s f o:Nat}{l:List (Nat×Nat×Nat)}(h:QQ P s f o)(hl:zns P l):zns P ((s,f,o)::l):=fun a b c hm=>by
 rcases List.mem_cons.1 hm with e | hm
 ·
  cases e;exact h
 ·
  exact hl _ _ _ hm
theorem zgo {s f o:Nat}:∀ {ft:List (Nat×Nat×Nat)},zvl ft s f=some o→(s,f,o)∈ft
 | [],h=>by cases h
 | (a,c,d)::l,h=>by
  unfold zvl at h
  split at h
  ·
   rename_i e;cases h;obtain ⟨rfl,rfl⟩:=e;exact List.mem_cons_self ..
  ·
   exact List.mem_cons_of_mem _ (zgo h)
theorem Uz {b x o:Nat}{E:Env}:∀ {se:List (Nat×Nat)},lkN se x=some o→VA (se.map (zhM b)++E) x=some (.pointer (some ⟨b,o,none⟩))
 | [],h=>by cases h
 | (t,p)::l,h=>by
  unfold lkN at h
  simp only [List.map_cons,List.cons_append,zhM]
  split at h
  ·
   rename_i e;cases h;subst e;simp [VA]
  ·
   rename_i e
   have:=Uz (b:=b) (E:=E) h
   have hb:t.beq x=false:=by
    cases hb:t.beq x with
    | false=>rfl
    | true=>exact absurd (Nat.eq_of_beq_eq_true hb) e
   simp only [VA,hb,cond_false];exact this
def zkc (se:List (Nat×Nat))(p:Nat×Operand):Option (Nat×Nat):=match p.2 with | .tmp x=>(lkN se x).map fun o=>(p.1,o) | _=>none
theorem zgg {se:List (Nat×Nat)}{b:Nat}{E:Env}:∀ {l:List (Nat×Operand)} {pl:List (Nat×Nat)},l.map (zkc se)=pl.map some→l.map (fun p=>(QH [] (se.map (zhM b)++E) p.2).map fun v=>(p.1,v))=(pl.map (zhM b)).map some
 | [],[],_=>rfl
 | [],_::_,h=>by cases h
 | _::_,[],h=>by cases h
 | p::l,q::pl,h=>by
  simp only [List.map_cons,List.cons.injEq] at h ⊢
  refine ⟨?_,zgg h.2⟩
  obtain ⟨k,x⟩:=p
  have h1:=h.1
  unfold zkc at h1
  split at h1
  ·
   rename_i x' hx
   cases ho:lkN se x' with
   | none=>rw [ho] at h1;cases h1
   | some o=>
    rw [ho] at h1
    simp only [Option.map_some,Option.some.injEq] at h1
    subst h1
    simp only at hx
    subst hx
    rw [show QH [] (se.map (zhM b)++E) (.tmp x')=VA (se.map (zhM b)++E) x' from rfl,Uz ho]
    rfl
  ·
   cases h1
section
variable {C:Cx} {Q:Exit→Act→World→Prop} {ops:Array Oper} {I0:Qv} {loc0:Loc} {E:Env} {I:Qv} {loc:Loc}
theorem zsg {ft:List (Nat×Nat×Nat)}{se:List (Nat×Nat)}{b v:Nat}{o:Oper}(hf:zns C.P ft)(h:zpI ft se o.op=some v):Zb C [] (se.map (zhM b)++E) I loc o (.pointer (some ⟨b,v,none⟩)):=by
 obtain ⟨dst,op,ty,pos,af,gd⟩:=o
 simp only at h
 unfold zpI at h
 split at h
 ·
  exact Qh (Uz h)
 ·
  exact QC (Uz h)
 ·
  exact QM (Uz h)
 ·
  split at h
  ·
   rename_i h1 h2;cases h
   exact Qa (Uz h1) (hf _ _ _ (zgo h2))
  ·
   cases h
 ·
  cases h
theorem ziD {fuel:Nat}{listed:Array Bool}(E':Env)(hE:Sub E' E)(h:XD C Q ops I0 loc0 fuel listed [] E' I loc):XD C Q ops I0 loc0 fuel listed [] E I loc:=fun a w ha hg hw=>h a w (ha.sub hE) hg hw
theorem zaR {S:GS}{dst:Option Nat}{ty:TypeId}{pos:String}{af:Array Edge}{gd:Option (Nat×Bool)}{x:Operand}{t e size n b off:Nat}(hx:QH S E x=some (.pointer (some ⟨b,off,none⟩)))(hT:ArT C.P t n e size):
  Zb C S E I loc ⟨dst,.slice t x none none none,ty,pos,af,gd⟩ (.slice (some ⟨b,off,none⟩) n n):=
 .of (by intro c e;cases e) fun a w ha hg hc _=>by
  obtain ⟨h1,j,h2,h3⟩:=hT
  simp only [execOp,Option.map_none,Qj ha hg hc hx,Instr.sliceAt,Instr.sureAddr,Instr.sliceBounds,Sem.run_bind,Sem.run_pure,run_underlying h1,Result.andThen,run_sizeOf h2,Nat.zero_mul,Nat.sub_zero]
  congr 2
  simp [Addr.add]
theorem zuh (loc':Loc){c:Code}(hp:loc'.Perm loc)(h:X C Q c E I loc'):X C Q c E I loc:=fun a w ha hw=>h a w ha (hw.permL hp)
def lst (n k:Nat):Array Bool:=(List.replicate k true++List.replicate (n-k) false).toArray
theorem ze3 (n k j:Nat)(d:Bool)(hk:k≤n):(lst n k).getD j d=if j<k then true else if j<n then false else d:=by
 unfold lst
 rw [Array.getD_eq_getD_getElem?,List.getElem?_toArray]
 by_cases h1:j<k
 ·
  rw [List.getElem?_append_left (by simpa using h1)];simp [h1]
 ·
  rw [List.getElem?_append_right (by simpa using Nat.le_of_not_lt h1)]
  by_cases h2:j<n
  ·
   have:j-k<n-k:=by omega
   simp [h1,h2,List.getElem?_replicate,this]
  ·
   have:¬j-k<n-k:=by omega
   simp [h1,h2,List.getElem?_replicate,this]
theorem zqY (n k:Nat)(hk:k<n):(lst n k).setIfInBounds k true=lst n (k+1):=by
 apply Array.ext_getElem?
 intro j
 rw [Array.getElem?_setIfInBounds]
 unfold lst
 simp only [List.getElem?_toArray,List.size_toArray,List.length_append,List.length_replicate]
 by_cases e:k=j
 ·
  subst e
  rw [if_pos rfl,if_pos (by omega),List.getElem?_append_left (by simp)]
  simp
 ·
  rw [if_neg e]
  by_cases h1:j<k
  ·
   rw [List.getElem?_append_left (by simpa using h1),List.getElem?_append_left (by simp;omega)]
   simp [List.getElem?_replicate,h1];omega
  ·
   rw [List.getElem?_append_right (by simp;omega),List.getElem?_append_right (by simp;omega)]
   simp only [List.length_replicate,List.getElem?_replicate]
   congr 1
   simp only [eq_iff_iff]
   omega
def zn1 (ops:Array Oper)(ft:List (Nat×Nat×Nat))(N:Nat):Nat→Nat→List Oper→List (Nat×Nat)→Option (List (Nat×Nat))
 | _,0,_,se=>some se
 | _,_+1,[],_=>none
 | k,m+1,o::l,se=>match o.dst,zpI ft se o.op with
   | some d,some v=>if (o.guard.isNone&&Nat.blt d N&&(o.after.all (fun e=> !Region.binds .any e||Nat.blt e.on k)&&l.all (fun oj=>oj.after.any (fun e=>Region.binds .any e&&e.on==k)||o.apart ops oj)))=true then zn1 ops ft N (k+1) m l ((d,v)::se) else none
   | _,_=>none
theorem znE (i:Nat){oi:Oper}{d:Nat}{v:Value}{fuel:Nat}{listed:Array Bool}(hi:ops[i]? =some oi)(hv:Zb C [] E I0 loc0 oi v)(hg:oi.guard=none)(hd:oi.dst=some d)(hN:Nat.blt d C.N=true)
  (hs:Region.noSelect ops=true)
  (hfr:∀ j oj,ops[j]? =some oj→j≠i→listed.getD j true=false→(∀ e∈oj.after,Region.binds .any e=true→e.on≠i)→oi.apart ops oj=true)
  (hr:i∈Region.ready .any ops listed)(hQ:YU Q)(hI:HLe I0 I)(hl:Kj loc0 loc)
  (h:XD C Q ops I0 loc0 fuel (listed.setIfInBounds i true) [] ((d,v)::E) I loc):XD C Q ops I0 loc0 (fuel+1) listed [] E I loc:=by
 intro a w ha hgg hw
 have hp:=ha.put hN v
 refine Y3 (v:=v) hi hv.1 (Region.noSelect_spec hs) (fun c a w=>by rw [hd];exact hQ c a d _ w) fuel listed a w hfr hr ?_ ((hw.mono hI).subL hl) (by rw [hd];exact h _ _ hp trivial hw)
 have hG:ZG ops [] E oi:=.none hg
 have hwt:=hG.wanted ha (show JL [] a from trivial)
 exact .inl ⟨by rw [hwt];rfl,fun w' hw'=>hv.2 a w' ha trivial rfl hw'⟩
theorem zeL {ft:List (Nat×Nat×Nat)}(hf:zns C.P ft)(hs:Region.noSelect ops=true)(hQ:YU Q)(hI:HLe I0 I)(hl:Kj loc0 loc){b N n:Nat}(hN:N=C.N)(hn:ops.size=n):
  ∀ (m k:Nat) {l:List Oper} {se se':List (Nat×Nat)} {fuel:Nat},ops.toList.drop k=l→k+m≤n→zn1 ops ft N k m l se=some se'→
   XD C Q ops I0 loc0 fuel (lst n (k+m)) [] (se'.map (zhM b)++E) I loc→XD C Q ops I0 loc0 (fuel+m) (lst n k) [] (se.map (zhM b)++E) I loc
 | 0,k,l,se,se',fuel,hk,hle,hr,h=>by
  simp only [zn1,Option.some.injEq] at hr;subst hr;exact h
 | m+1,k,[],se,se',fuel,hk,hle,hr,h=>by cases hr
 | m+1,k,o::l,se,se',fuel,hk,hle,hr,h=>by
  unfold zn1 at hr
  split at hr
  ·
   rename_i d v hd hv
   split at hr
   ·
    rename_i hc
    simp only [Bool.and_eq_true,Option.isNone_iff_eq_none] at hc
    obtain ⟨⟨hg,hb⟩,hrd,hfr⟩:=hc
    have hkn:k<n:=by omega
    have hok:ops[k]? =some o:=by
     have:=congrArg (·[0]?) hk
     simp only [List.getElem?_drop,Nat.add_zero,List.getElem?_cons_zero] at this
     rwa [Array.getElem?_toList] at this
    have hl1:ops.toList.drop (k+1)=l:=by
     rw [←List.drop_drop,hk];rfl
    have h':XD C Q ops I0 loc0 (fuel+m) (lst n (k+1)) [] (((d,v)::se).map (zhM b)++E) I loc:=
     zeL hf hs hQ hI hl hN hn m (k+1) hl1 (by omega) hr (by rw [show k+1+m=k+(m+1) by omega];exact h)
    refine znE k hok (zsg hf hv) hg hd (hN ▸ hb) hs (fun j oj hj hne hun hno=>?_) (mem_ready.2 ⟨?_,o,hok,fun e he hbe=>?_⟩) hQ hI hl (by rw [zqY n k hkn];exact h')
    ·
     rw [ze3 n k j true (by omega)] at hun
     have hjn:j<n:=by rw [←hn];exact (Array.getElem?_eq_some_iff.1 hj).1
     have hjk:k<j:=by
      rcases Nat.lt_or_ge j k with h1 | h1
      ·
       rw [if_pos h1] at hun;cases hun
      ·
       omega
     have hm:oj∈l:=by
      rw [←hl1]
      refine List.mem_iff_getElem?.2 ⟨j-(k+1),?_⟩
      rw [List.getElem?_drop,show k+1+(j-(k+1))=j by omega,Array.getElem?_toList];exact hj
     have h2:=List.all_eq_true.1 hfr oj hm
     rw [Bool.or_eq_true] at h2
     rcases h2 with h2 | h2
     ·
      obtain ⟨e,he,hb2⟩:=Array.any_eq_true'.1 h2
      simp only [Bool.and_eq_true,beq_iff_eq] at hb2
      exact absurd hb2.2 (hno e he hb2.1)
     ·
      exact h2
    ·
     rw [ze3 n k k true (by omega),if_neg (by omega),if_pos hkn]
    ·
     have h2:=Array.all_eq_true_iff_forall_mem.1 hrd e he
     rw [hbe] at h2
     have h3:e.on<k:=by simpa using h2
     rw [ze3 n k e.on false (by omega),if_pos h3]
   ·
    cases hr
  ·
   cases hr
theorem zlN {zv cv:Value}(h1:zv.cells= #[cv])(n:Nat):madeCells zv.cells n=(List.replicate n cv).toArray:=by
 rw [h1]
 apply Array.ext'
 have:∀ x:Nat,[cv][x % 1]?.getD default=cv:=fun x=>by rw [Nat.mod_one];rfl
 simp [madeCells,this,List.map_const']
def zwn (P:Program)(t e bytes:Nat)(zv cv:Value):Prop:=P.underlying t=some (.slice e)∧(P.info? e).map (fun i=>(i.zero,i.size,i.bytes))=some (some zv,1,bytes)∧zv.cells= #[cv]
theorem Wv {rest:List Oper}{dst:Nat}{ty:TypeId}{pos:String}{af:Array Edge}{gd:Option (Nat×Bool)}{x y:Operand}{t e bytes:Nat}{zv cv:Value}{n:Int}(hT:zwn C.P t e bytes zv cv)(hx:QH [] E x=some (.int .i64 n))(hy:QH [] E y=some (.int .i64 n))(hn:0≤n∧n≤1000000)(hb:bytes≤1000)
  (hG:gd=none)(hN:Nat.blt dst C.N=true)(h:∀ b,XO C Q ops rest [] ((dst,.slice (some ⟨b,0,none⟩) n.toNat n.toNat)::E) I ((b,.cells (List.replicate n.toNat cv).toArray e (0,0))::loc)):
  XO C Q ops (⟨some dst,.makeSlice t x y,ty,pos,af,gd⟩::rest) [] E I loc:=
 Yn hG (by intro c e;cases e) fun a w ha hw=>by
  obtain ⟨hu,hi,h1⟩:=hT
  rw [Option.map_eq_some_iff] at hi
  obtain ⟨i,hi,he⟩:=hi
  simp only [Prod.mk.injEq] at he
  obtain ⟨hz,hs,hbt⟩:=he
  have hr:=run_makeSlice (P:=C.P) (w:=w) t e i zv hu hi hz .i64 .i64 n n hn.1 (by omega) (by rw [hs];omega) (by rw [hbt];exact Int.le_trans (Int.mul_le_mul (by omega:(bytes:Int)≤1000) hn.2 hn.1 (by omega)) (by decide)) (by omega)
  rw [hs,Nat.mul_one,zlN h1] at hr
  simp only [execOp,Qj (S:=[]) ha trivial rfl hx,Qj (S:=[]) ha trivial rfl hy,Sem.run_bind,hr,Result.andThen,Sem.run_pure,Oper.uponIn_value]
  exact h _ _ _ (ha.put hN _) trivial (hw.alloc _)
end
end
end Go.Kn
namespace Go.Proofs.YtjblkbkmblkgoaaGreat
section
open Go Go.Kn Go.Proofs
theorem zjU:AgT Tryz.prog 185 42:=.of (by kernel_rfl)
theorem zfh:ArT Tryz.prog 185 42 184 1:=.of (by kernel_rfl)
theorem Ut:QQ Tryz.prog 41 0 0:=.of (by kernel_rfl)
theorem zc2:QQ Tryz.prog 41 1 1:=.of (by kernel_rfl)
theorem zcM:QQ Tryz.prog 41 2 2:=.of (by kernel_rfl)
theorem zcm:QQ Tryz.prog 41 3 3:=.of (by kernel_rfl)
theorem zcC:QQ Tryz.prog 41 4 4:=.of (by kernel_rfl)
theorem VJ:QQ Tryz.prog 43 0 0:=.of (by kernel_rfl)
theorem Jj:QQ Tryz.prog 43 1 1:=.of (by kernel_rfl)
theorem Vd:QQ Tryz.prog 43 10 10:=.of (by kernel_rfl)
theorem Ul:QQ Tryz.prog 43 2 2:=.of (by kernel_rfl)
theorem Wu:QQ Tryz.prog 43 3 3:=.of (by kernel_rfl)
theorem WM:QQ Tryz.prog 43 4 4:=.of (by kernel_rfl)
theorem KP:QQ Tryz.prog 43 8 8:=.of (by kernel_rfl)
theorem KH:QQ Tryz.prog 43 9 9:=.of (by kernel_rfl)
theorem zho:zns Tryz.prog [(45,1,1),(45,2,10),(45,3,29),(45,4,34)]:=.cons VI (.cons Vv (.cons JX (.cons YR .nil)))
theorem zhF:zns Tryz.prog [(45,0,0),(32,0,0),(32,1,1),(32,2,2),(32,3,3),(32,4,4),(32,5,5),(32,6,6),(30,0,0),(30,1,1),(30,2,2),(39,0,0),(39,1,1),(39,2,2),(39,3,3),(36,0,0),(36,1,1),(36,2,2),(36,3,3),(36,4,4),(36,5,5),(36,6,6),(36,7,7),(36,8,8),(36,9,9),(36,10,10),(34,0,0),(34,1,1),(36,11,12),(41,0,0),(41,1,1),(41,2,2),(41,3,3),(41,4,4),(43,0,0),(43,1,1),(43,2,2),(43,3,3),(43,4,4),(43,5,5),(43,8,8),(43,9,9),(43,10,10)]:=.cons Vl (.cons JE (.cons Uv (.cons JH (.cons X8 (.cons zac (.cons Ww (.cons Uu (.cons XZ (.cons X5 (.cons zcs (.cons YI (.cons KM (.cons Vj (.cons V2 (.cons Us (.cons XU (.cons zad (.cons XP (.cons zcT (.cons zab (.cons XR (.cons zae (.cons XW (.cons XX (.cons Ks (.cons Je (.cons JF (.cons Kz (.cons Ut (.cons zc2 (.cons zcM (.cons zcm (.cons zcC (.cons VJ (.cons Jj (.cons Ul (.cons Wu (.cons WM (.cons JI (.cons KP (.cons KH (.cons Vd .nil))))))))))))))))))))))))))))))))))))))))))
theorem zlx:SzT Tryz.prog 185 42:=.of (by kernel_rfl)
theorem ziH:Vf Tryz.prog 185 (.agg #[(.pointer none),(.pointer none),(.pointer none),(.pointer none),(.pointer none),(.pointer none),(.pointer none),(.pointer none),(.pointer none),(.pointer none),(.pointer none),(.pointer none),(.pointer none),(.pointer none),(.pointer none),(.pointer none),(.pointer none),(.pointer none),(.pointer none),(.pointer none),(.pointer none),(.pointer none),(.pointer none),(.pointer none),(.pointer none),(.pointer none),(.pointer none),(.pointer none),(.pointer none),(.pointer none),(.pointer none),(.pointer none),(.pointer none),(.pointer none),(.pointer none),(.pointer none),(.pointer none),(.pointer none),(.pointer none),(.pointer none),(.pointer none),(.pointer none)]):=.of (by kernel_rfl)
set_option maxRecDepth 100000 in
set_option maxHeartbeats 4000000 in
theorem zgu (I:Qv) (b:Nat):Yc Tryz.prog 129 [ZK b] I (zwh b):=by
 intro g H w hw
 refine qe Tryz.func129 Tryz.ntmps129 hw ?_
 refine zR ?_
 refine Qt ziH rfl rfl (fun b_2=>?_)
 refine zN (Qq ?_)
 have hD:=zxd I
 refine ZL ?_
 refine Q0 I [] mixed ?_
 refine ziD (([(0,0)]:List (Nat×Nat)).map (zhM b)++([(2,ZK b_2)]:Env)) (.cons rfl (.cons rfl (.nil))) ?_
 refine zeL (b:=b) (ft:=[(45,1,1),(45,2,10),(45,3,29),(45,4,34)]) (N:=157) (n:=16) zho (by kernel_rfl) QK hD (by repeat (first | exact .refl | exact Qe | refine .keep ?_ | refine .drop ?_ | refine Qf ?_)) rfl rfl 16 0 (se:=[(0,0)]) (se':=[(6,34),(5,29),(4,10),(3,1),(19,34),(18,0),(17,0),(16,29),(15,0),(14,0),(13,10),(12,0),(11,0),(10,1),(9,0),(8,0),(0,0)]) (fuel:=0) (E:=([(2,ZK b_2)]:Env)) rfl (by decide) (by kernel_rfl) ?_
 refine Qm (by kernel_rfl) ?_
 refine Qy ?_
 refine Qc (zR (zM ?_))
 refine zV (QM rfl) ?_
 refine zF Jh ?_
 refine zA (zN (Qq ?_))
 have hD:=zxd I
 refine ZL ?_
 refine Q0 I [] mixed ?_
 refine ziD (([(7,14),(6,34),(5,29),(4,10),(3,1),(0,0)]:List (Nat×Nat)).map (zhM b)++([(2,ZK b_2)]:Env)) (.cons rfl (.cons rfl (.cons rfl (.cons rfl (.cons rfl (.cons rfl (.cons rfl (.nil)))))))) ?_
 refine zeL (b:=b) (ft:=[(45,0,0),(32,0,0),(32,1,1),(32,2,2),(32,3,3),(32,4,4),(32,5,5),(32,6,6),(30,0,0),(30,1,1),(30,2,2),(39,0,0),(39,1,1),(39,2,2),(39,3,3),(36,0,0),(36,1,1),(36,2,2),(36,3,3),(36,4,4),(36,5,5),(36,6,6),(36,7,7),(36,8,8),(36,9,9),(36,10,10),(34,0,0),(34,1,1),(36,11,12),(41,0,0),(41,1,1),(41,2,2),(41,3,3),(41,4,4),(43,0,0),(43,1,1),(43,2,2),(43,3,3),(43,4,4),(43,5,5),(43,8,8),(43,9,9),(43,10,10)]) (N:=157) (n:=135) zhF (by kernel_rfl) QK hD (by repeat (first | exact .refl | exact Qe | refine .keep ?_ | refine .drop ?_ | refine Qf ?_)) rfl rfl 133 0 (se:=[(7,14),(6,34),(5,29),(4,10),(3,1),(0,0)]) (se':=[(155,44),(154,34),(153,34),(152,43),(151,34),(150,34),(149,42),(148,34),(147,34),(146,39),(145,34),(144,34),(143,38),(142,34),(141,34),(140,37),(139,34),(138,34),(137,36),(136,34),(135,34),(134,35),(133,34),(132,34),(131,34),(130,34),(129,34),(128,33),(127,29),(126,29),(125,32),(124,29),(123,29),(122,31),(121,29),(120,29),(119,30),(118,29),(117,29),(116,29),(115,29),(114,29),(113,27),(112,26),(111,14),(110,14),(109,26),(108,26),(107,14),(106,14),(105,25),(104,24),(103,14),(102,14),(101,24),(100,24),(99,14),(98,14),(97,23),(96,14),(95,14),(94,22),(93,14),(92,14),(91,21),(90,14),(89,14),(88,20),(87,14),(86,14),(85,19),(84,14),(83,14),(82,18),(81,14),(80,14),(79,17),(78,14),(77,14),(76,16),(75,14),(74,14),(73,15),(72,14),(71,14),(70,14),(69,14),(68,14),(67,13),(66,10),(65,10),(64,12),(63,10),(62,10),(61,11),(60,10),(59,10),(58,10),(57,10),(56,10),(55,9),(54,7),(53,1),(52,1),(51,8),(50,7),(49,1),(48,1),(47,7),(46,7),(45,1),(44,1),(43,6),(42,1),(41,1),(40,5),(39,1),(38,1),(37,4),(36,1),(35,1),(34,3),(33,1),(32,1),(31,2),(30,1),(29,1),(28,1),(27,1),(26,1),(25,0),(24,0),(23,0),(7,14),(6,34),(5,29),(4,10),(3,1),(0,0)]) (fuel:=2) (E:=([(2,ZK b_2)]:Env)) rfl (by decide) (by kernel_rfl) ?_
 refine QY 133 rfl (Vp (ps:=((List.range 42).zip zhV).map (zhM b)) (zqU b) zfh ziH (zgg (by kernel_rfl)) (by kernel_rfl)) (.none rfl) rfl rfl (by kernel_rfl) (by kernel_rfl) (by kernel_rfl) QK hD (by repeat (first | exact .refl | exact Qe | refine .keep ?_ | refine .drop ?_ | refine Qf ?_)) ?_
 refine ziD [(156,zwh b),(2,ZK b_2)] (.cons rfl (.cons rfl .nil)) ?_
 refine qd 134 rfl ?_
 refine zh zlx ?_
 refine Qb ?_
 refine zD hD ?_
 refine Qm (by kernel_rfl) ?_
 refine Qy ?_
 refine Qc (QF ?_)
 exact Y7 rfl rfl zjU zxb rfl (fun w hw=>⟨by rfl,hw.drop⟩)
end
section
open Go Go.Kn Go.Proofs
theorem ziz {I:Qv}{av:Option Addr}{n c:Nat}{xs:List Int}(hS:Sl I 1 Yk av n c xs)(hn:n≤100000):Vi Tryz.prog 150 [.slice av n c] I [] (fun v I' L'=>∃ sv,v=zwS sv∧I'=I∧Yp 158 4 sv n ((xs.map vcI).flatMap Zo) L'):=by
 intro g H w hw
 refine qe Tryz.func150 Tryz.ntmps150 hw ?_
 have hln:=hS.len
 refine zR ?_
 refine Qt YX rfl rfl (fun b_2=>?_)
 refine zN (zR ?_)
 refine zV (QZ (ps:=[(0,_)]) [_,_,_,_] Km rfl rfl) ?_
 refine Qt YX rfl rfl (fun b_3=>?_)
 refine zh ZT ?_
 refine zN (Qq (zR (zM ?_)))
 refine zQ Yo ?_
 refine zM (zN (QD ?_))
 refine zU [(2,_),(3,_),(7,_),(8,_)] (fun T L0 mz E I' loc'=>∃ (k:Nat) (v:Value) (L:Go.Kn.Loc),mz=n-k∧E=(9,.int .i64 k)::T∧I=I'∧L++[(b_3,.cells #[.int .i64 3,.int .i64 0,.string ⟨#[]⟩,v] 158 (0,0)),(b_2,.cells (#[.int .i64 0,.int .i64 0,.string ⟨#[]⟩,.slice none 0 0]) 158 (0,0))]=loc'∧k≤n∧Yp 158 4 v k (((xs.take k).map vcI).flatMap Zo) L) ?_ (h:=⟨0,_,[],rfl,rfl,rfl,rfl,Nat.zero_le _,Yp.nil⟩)
 rintro mz E I' loc' ⟨k,v,L,rfl,rfl,rfl,rfl,hk,hO⟩
 refine zR (zC (zN (Qq ?_)))
 refine zI ?_ ?_<;>intro hc10
 ·
  have hlt_k:k<n:=by have h:=hc10;simp at h;omega
  obtain ⟨x,hx⟩:∃ x,xs[k]? =some x:=⟨_,List.getElem?_eq_getElem (by omega)⟩
  refine Qw (Qc (Qq (QD (zR ?_))))
  refine zV (zX Yo hS) ?_
  refine zV (Qd rfl QA (fun hg=>by exact zw6 hS hx rfl)) ?_
  refine zA (zN (Qk ?_))
  refine zF Q5 ?_
  refine zV (Qd rfl ZI (fun hg=>by (repeat (first | exact zw8 rfl | apply zw7 | apply zw9)))) ?_
  refine zM ?_
  refine zV (QZ (ps:=[(0,_),(1,_)]) [_,_,_,_] Km rfl rfl) ?_
  refine Ql (ps:=[(0,_)]) (m:=[Zo (vcI x)]) ZO rfl (.cons rfl (.nil)) rfl (by simp [ZB]) (by decide) (by decide) rfl rfl (fun b_17=>?_)
  refine QX (v:=_) (ys:=([vcI x]:List Vc).flatMap Zo) (L:=L) rfl rfl ZO hO (by repeat (first | exact .cons .here .nil | exact Qu | exact Qr | apply Qp | apply Qo)) ⟨rfl,fun _=>rfl,by repeat (first | exact zxb | apply zxa | apply zxc)⟩ (VT [vcI x]) (by omega) rfl rfl ?_
  intro v2 L2 hO2 _;rw [←List.flatMap_append] at hO2;obtain ⟨a2,c2,rfl⟩:=hO2.shape
  refine zF Q5 ?_
  refine Zg rfl rfl Y5 rfl rfl (by (repeat (first | exact Upd.here | apply Upd.there | apply Qx))) rfl ?_
  refine Qb (Qn (Qc (Qk (zB ?_))))
  refine zM (Qb ?_)
  exact zm (h:=⟨n-(k+1),by omega,k+1,_,_,rfl,rfl,rfl,rfl,by omega,by rw [ZD hx,List.map_append];exact hO2⟩)
 have hge_k:n≤k:=by have h:=hc10;simp at h;omega
 obtain rfl:k=n:=by omega
 obtain ⟨a3,c3,rfl⟩:=hO.shape
 have hke:xs.take k=xs:=List.take_of_length_le (by omega)
 rw [hke] at hO
 refine Zy (Qs (Qs (QB (Qc (zR ?_)))))
 refine zV (Qg rfl ZH (fun hg=>by exact zxc .here) rfl) ?_
 refine Vm rfl rfl ZT rfl rfl rfl rfl (by (repeat (first | exact Upd.here | apply Upd.there | apply Qx))) ?_
 refine zN (QF ?_)
 exact Y7 rfl rfl ZH (zxc (.there .here)) rfl (fun w hw=>⟨_,I,_,rfl,zxd _,hw.subL QN,_,rfl,rfl,hO⟩)
end
section
open Go Go.Kn Go.Proofs
def VE (x:Nt):List Int:=[x.kind,x.lm.no,x.lm.person,x.lm.ends,x.lm.lo,x.lm.hi,x.lm.known,x.lm.ck,x.lm.cl,x.lm.cn,x.pt.id,x.pt.kind,x.pt.sign,x.pt.field,x.pt.nw.id,x.pt.nw.role,x.pt.nw.bar,x.pt.nw.mark,x.pt.nw.kind,x.pt.nw.side,x.pt.nw.dir,x.pt.nw.level,x.pt.nw.size,x.pt.nw.wth,x.pt.nw.fn,x.pt.nw.fd,x.pt.nw.tn,x.pt.nw.td,x.ls.no,x.ls.person,x.ls.version,x.ls.at_,x.ls.known,x.rt.no,x.rt.kind,x.rt.edition,x.rt.holder,x.rt.sign,x.rt.ends,x.rt.lo,x.rt.hi,x.rt.known]
theorem YT (x:Nt):(VE x).length=42:=rfl
theorem zjB (x:Nt):zhV.map (fun o=>(Zn x)[o]?)=(VE x).map (fun y=>some (.int .i64 y)):=rfl
theorem znK {x:Nt}{k:Nat}{y:Int}(h:(VE x)[k]? =some y):(Zn x)[zhV.getD k 0]? =some (.int .i64 y):=by
 have e:=congrArg (·[k]?) (zjB x)
 simp only [List.getElem?_map,h,Option.map_some] at e
 cases ho:zhV[k]? with
 | none=>rw [ho] at e;cases e
 | some o=>
  rw [ho] at e
  simp only [Option.map_some,Option.some.injEq] at e
  rw [List.getD_eq_getElem?_getD,ho];exact e
theorem zkO {b k:Nat}(hk:k<42):(zqU b)[k]? =some (.pointer (some ⟨b,zhV.getD k 0,none⟩)):=by
 unfold zqU
 rw [List.getElem?_map,List.getD_eq_getElem?_getD]
 have:k<zhV.length:=hk
 rw [List.getElem?_eq_getElem this];rfl
theorem zkA {I:Qv}{loc:Go.Kn.Loc}{b t:Nat}{fz:Nat×Nat}{x:Nt}{k:Nat}{y:Int}(h:BxI I b (.cells (Zn x).toArray t fz))(hk:(VE x)[k]? =some y):QG I loc b (zhV.getD k 0) (.int .i64 y):=by
 have:=(BxI.cells (loc:=loc) (vs:=Zn x) h) _ _ (znK hk)
 rwa [Nat.zero_add] at this
def JW (x:Nt):Va:=.list ((VE x).map .int++[.list (x.pt.needs.map .int),.text (Kv x.rt.name),.text (Kv x.rt.town)])
def JU (x:Nt):List Nat:=Va.enc (JW x)
def XG (x:Nt):ByteArray:=UE (JU x)
theorem WI (s:ByteArray):UE (Kv s)=s:=by
 unfold UE Kv
 congr 1
 rw [List.map_map]
 have:(UInt8.ofNat ∘ UInt8.toNat)=id:=by funext c;simp
 rw [this,List.map_id]
theorem zg3 {I:Qv}(xs:List Int)(k:Nat)(x:Va)(y:Vc)(hx:(xs.map Va.int)[k]? =some x)(hy:(xs.map vcI)[k]? =some y):VaR I x y:=by
 rw [List.getElem?_map] at hx hy
 cases h:xs[k]? with
 | none=>rw [h] at hx;cases hx
 | some n=>rw [h] at hx hy;cases hx;cases hy;exact .int n
theorem UV {I:Qv}{a7 a8:Option Addr}{n c7 c8:Nat}{x:Nt}(h7:Sl I 4 Zo a7 n c7 (x.pt.needs.map vcI))(h8:Sl I 4 Zo a8 45 c8 ((VE x).map vcI++[⟨3,0,⟨#[]⟩,a7,n,c7⟩,vcT x.rt.name,vcT x.rt.town])):VaR I (JW x) ⟨3,0,⟨#[]⟩,a8,45,c8⟩:=by
 refine .list h8 (by simp) fun k u y hu hy=>?_
 by_cases hk:k<42
 ·
  rw [List.getElem?_append_left (by rw [List.length_map,YT];exact hk)] at hu hy
  exact zg3 _ k u y hu hy
 ·
  rw [List.getElem?_append_right (by simp [YT];omega)] at hu hy
  simp only [List.length_map,YT] at hu hy
  match hj:k-42,hu,hy with
  | 0,hu,hy=>cases hu;cases hy;exact .list h7 (by simp) (zg3 _)
  | 1,hu,hy=>cases hu;cases hy;have:=VaR.text (I:=I) (Kv x.rt.name);rwa [WI] at this
  | 2,hu,hy=>cases hu;cases hy;have:=VaR.text (I:=I) (Kv x.rt.town);rwa [WI] at this
  | _+3,hu,hy=>cases hu
theorem zb1 (xs:List Int):Va.depthL (xs.map .int)=0:=by
 induction xs with
 | nil=>rfl
 | cons a l ih=>simp [Va.depthL,Va.depth,ih]
theorem Xk:∀ (a b:List Va),Va.depthL (a++b)=max (Va.depthL a) (Va.depthL b)
 | [],b=>by simp [Va.depthL]
 | x::a,b=>by simp [Va.depthL,Xk a b,Nat.max_assoc]
theorem Jg (x:Nt):Va.depth (JW x)≤16:=by
 unfold JW
 rw [Va.depth,Xk,zb1]
 simp [Va.depthL,Va.depth,zb1]
structure NtM (I:Qv)(x:Nt):Prop where
 nd:Nd I x.pt
 nn:x.pt.n≤100000
 ok:Va.ok (JW x)
 len:(JU x).length≤900000
theorem NtM.mono {I I':Qv}{x:Nt}(h:NtM I x)(hI:HLe I I'):NtM I' x:=⟨h.nd.mono hI,h.nn,h.ok,h.len⟩
def zvn (a b:ByteArray):Int:=Lib.compareBytes a.data.toList b.data.toList
def YN (x y:Nt):Int:=zvn (XG x) (XG y)
def zcZ (pre:List Nt)(x:Nt):Bool:= !Q7 x||(match pre.getLast? with | none=>false | some y=>decide (YN y x≥0))
def zbm:List Nt→List Nt→Bool
 | _,[]=>true
 | pre,x::l=> !zcZ pre x&&zbm (pre++[x]) l
def Z3 (xs:List Nt):Bool:=zbm [] xs&&decide (xs.length≤4096)
theorem WC:∀ (xs pre:List Nt),zbm pre xs=true↔ ∀ j y,xs[j]? =some y→zcZ (pre++xs.take j) y=false
 | [],pre=>by simp [zbm]
 | x::l,pre=>by
  rw [zbm,Bool.and_eq_true,WC l]
  constructor
  ·
   rintro ⟨h1,h2⟩ j y hy
   cases j with
   | zero=>cases hy;simpa using h1
   | succ j=>have:=h2 j y hy;simpa [List.append_assoc] using this
  ·
   intro h
   refine ⟨by have:=h 0 x rfl;simpa using this,fun j y hy=>?_⟩
   have:=h (j+1) y hy
   simpa [List.append_assoc] using this
theorem zd7 {xs:List Nt}{k:Nat}{x:Nt}(hx:xs[k]? =some x)(h:zcZ (xs.take k) x=true):Z3 xs=false:=by
 unfold Z3
 cases hg:zbm [] xs with
 | false=>rfl
 | true=>
  have:=(WC xs []).1 hg k x hx
  rw [List.nil_append,h] at this;cases this
theorem zgM {xs:List Nt}(h:∀ j y,j<xs.length→xs[j]? =some y→zcZ (xs.take j) y=false):Z3 xs=decide ((xs.length:Int)≤4096):=by
 unfold Z3
 have:zbm [] xs=true:=(WC xs []).2 fun j y hy=>by
  rw [List.nil_append];exact h j y (List.getElem?_eq_some_iff.1 hy).1 hy
 rw [this,Bool.true_and]
 simp only [decide_eq_decide];omega
theorem zkY {xs:List Nt}{k:Nat}{y:Nt}(hy:xs[k]? =some y):(xs.take (k+1)).getLast?=some y:=by
 rw [ZD hy];simp
structure K9 (I:Qv)(av:Option Addr)(n c:Nat)(xs:List Nt):Prop where
 sl:Sl I 45 Zn av n c xs
 nd:∀ x∈xs,Nd I x.pt
 m:∀ x∈xs,Q7 x=true→NtM I x
theorem K9.mono {I I':Qv}{av:Option Addr}{n c:Nat}{xs:List Nt}(h:K9 I av n c xs)(hI:HLe I I'):K9 I' av n c xs:=⟨h.sl.mono hI,fun x hx=>(h.nd x hx).mono hI,fun x hx hf=>(h.m x hx hf).mono hI⟩
theorem zi1 {pre:List Nt}{x:Nt}(h:Q7 x=false):zcZ pre x=true:=by simp [zcZ,h]
theorem zgZ {x:Nt}(h:Q7 x=true):zcZ [] x=false:=by simp [zcZ,h]
theorem U8 {xs:List Nt}{k:Nat}{x y:Nt}(h:Q7 x=true)(hk:0<k)(hy:xs[((k:Int)-1).toNat]? =some y):zcZ (xs.take k) x=decide (YN y x≥0):=by
 have e:((k:Int)-1).toNat=k-1:=by omega
 rw [e] at hy
 have:=zkY hy
 rw [show k-1+1=k by omega] at this
 simp [zcZ,h,this]
theorem zdU {pre:List Nt}{x:Nt}(h:zcZ pre x=false):Q7 x=true:=by
 unfold zcZ at h
 cases hf:Q7 x with
 | true=>rfl
 | false=>rw [hf] at h;simp at h
end
section
open Go Go.Kn Go.Proofs
theorem Uy:QQ Tryz.prog 43 6 6:=.of (by kernel_rfl)
theorem Uq:QQ Tryz.prog 43 7 7:=.of (by kernel_rfl)
theorem zi8:Fun Tryz.prog 129:=.of Tryz.func129 (by kernel_rfl) (by kernel_rfl)
theorem zeN:Fun Tryz.prog 150:=.of Tryz.func150 (by kernel_rfl) (by kernel_rfl)
theorem zfB:Fun Tryz.prog 151:=.of Tryz.func151 (by kernel_rfl) (by kernel_rfl)
theorem zjv {I:Qv}(x:Nt)(hN:Nd I x.pt)(hnn:x.pt.n≤100000)(hok:Va.ok (JW x))(hb:(JU x).length≤900000):Yc Tryz.prog 79 [JK x] I (.string (XG x)):=by
 intro g H w hw
 refine qe Tryz.func79 Tryz.ntmps79 hw ?_
 have hIc:=zxd I
 refine zR ?_
 refine Zh rfl rfl rfl (fun b_1=>?_)
 refine zA (Qb ?_)
 refine QO .here (fun I1 hI1 hb1=>?_)
 have hN:=hN.mono hI1;have hIc:=hIc.trans hI1
 have h1:=BxI.of hb1
 refine Qc (zR ?_)
 refine QE (cap:=[]) (vs:=[_]) rfl rfl zeN .nil (ziz (xs:=[]) Sl.nil (by decide)) rfl rfl ?_
 rintro vv2 I2 L2 hI2 ⟨sv1,rfl,rfl,hO1⟩
 have hN:=hN.mono hI2;have h1:=h1.mono hI2;have hIc:=hIc.trans hI2
 obtain ⟨a1,c1,rfl⟩:=hO1.shape
 refine Qt YX rfl rfl (fun b_3=>?_)
 refine zh ZT ?_
 refine zN (Qq (Qq ?_))
 refine zuh (_++[_]) (List.perm_append_singleton _ _) ?_
 refine Qk ?_
 refine qcV (vs:=[_]) rfl zi8 (zgu _ _) ?_
 refine zM (zN (QD ?_))
 refine zU [(1,_),(3,_),(9,_)] (fun T L0 mz E I' loc'=>∃ (k:Nat) (v:Value) (L:Go.Kn.Loc),mz=42-k∧E=(10,.int .i64 k)::T∧I2=I'∧L++[(b_3,.cells #[.int .i64 3,.int .i64 0,.string ⟨#[]⟩,v] 158 (0,0))]=loc'∧k≤42∧Yp 158 4 v k ((((VE x).take k).map vcI).flatMap Zo) L) ?_ (h:=⟨0,_,_,rfl,rfl,rfl,rfl,Nat.zero_le _,by rw [List.append_nil];exact hO1⟩)
 rintro mz E I' loc' ⟨k,v,L,rfl,rfl,rfl,rfl,hk,hO⟩
 refine zR (zC (zN (Qq ?_)))
 refine zI ?_ ?_<;>intro hc11
 ·
  have hlt_k:k<42:=by have h:=hc11;simp at h;omega
  obtain ⟨y,hy⟩:∃ y,(VE x)[k]? =some y:=⟨_,List.getElem?_eq_getElem (by rw [YT];omega)⟩
  refine Qw (Qc (Qq (QD (zR ?_))))
  refine zV (J0 rfl rfl zfh Uc (fun hg=>by omega) (fun hg=>show (zqU b_1)[((k:Int)).toNat*1]? =some (.pointer (some ⟨b_1,zhV.getD k 0,none⟩)) by rw [Nat.mul_one,Int.toNat_natCast];exact zkO (by omega))) ?_
  refine zA (zN ?_)
  have hD:=zxd I2
  refine ZL ?_
  refine Q0 I2 [] mixed ?_
  refine zT 0 rfl (Qa rfl Q5) hD ?_
  refine zT 2 rfl (Qh rfl) hD ?_
  refine zT 3 rfl (QM rfl) hD ?_
  refine zT 4 rfl (Qd rfl QA (fun hg=>by exact zkA h1 hy)) hD ?_
  refine zT 5 rfl (QZ (ps:=[(0,_),(1,_)]) [_,_,_,_] Km rfl rfl) hD ?_
  refine Q8 1 6 rfl rfl (by kernel_rfl) ?_ ?_
  ·
   refine zV (Qd rfl ZI (fun hg=>by (repeat (first | exact zw8 rfl | apply zw7 | apply zw9)))) ?_
   refine Qb ?_
   refine zD hD ?_
   refine qd 6 rfl ?_
   refine Ql (ps:=[(0,_)]) (m:=[Zo (vcI y)]) ZO rfl (.cons rfl (.nil)) rfl (by simp [ZB]) (by decide) (by decide) rfl rfl (fun b_19=>?_)
   refine Qb ?_
   refine zD hD ?_
   refine qd 7 rfl ?_
   refine QX (v:=_) (ys:=([vcI y]:List Vc).flatMap Zo) (L:=L) rfl rfl ZO hO (by repeat (first | exact .cons .here .nil | exact Qu | exact Qr | apply Qp | apply Qo)) ⟨rfl,fun _=>rfl,by repeat (first | exact zxb | apply zxa | apply zxc)⟩ (VT [vcI y]) (by omega) rfl rfl ?_
   intro v2 L2 hO2 _;rw [←List.flatMap_append] at hO2;obtain ⟨a2,c2,rfl⟩:=hO2.shape
   refine Qb ?_
   refine zD hD ?_
   refine zT 8 rfl (Qa rfl Q5) hD ?_
   refine qd 9 rfl ?_
   refine Zg rfl rfl Y5 rfl rfl (by (repeat (first | exact Upd.here | apply Upd.there | apply Qx))) rfl ?_
   refine Qb ?_
   refine zD hD ?_
   refine Qm (by kernel_rfl) ?_
   refine Qy ?_
   refine Qn (Qc (Qk (zB ?_)))
   refine zM (Qb ?_)
   exact zm (h:=⟨42-(k+1),by omega,k+1,_,_,rfl,rfl,rfl,rfl,by omega,by rw [ZD hy,List.map_append];exact hO2⟩)
  refine Ql (ps:=[(0,_)]) (m:=[Zo (vcI y)]) ZO rfl (.cons rfl (.nil)) rfl (by simp [ZB]) (by decide) (by decide) rfl rfl (fun b_19=>?_)
  refine Qb ?_
  refine zD hD ?_
  refine qd 1 rfl ?_
  refine zV (Qd rfl ZI (fun hg=>by (repeat (first | exact zw8 rfl | apply zw7 | apply zw9)))) ?_
  refine Qb ?_
  refine zD hD ?_
  refine qd 7 rfl ?_
  refine QX (v:=_) (ys:=([vcI y]:List Vc).flatMap Zo) (L:=L) rfl rfl ZO hO (by repeat (first | exact .cons .here .nil | exact Qu | exact Qr | apply Qp | apply Qo)) ⟨rfl,fun _=>rfl,by repeat (first | exact zxb | apply zxa | apply zxc)⟩ (VT [vcI y]) (by omega) rfl rfl ?_
  intro v2 L2 hO2 _;rw [←List.flatMap_append] at hO2;obtain ⟨a2,c2,rfl⟩:=hO2.shape
  refine Qb ?_
  refine zD hD ?_
  refine zT 8 rfl (Qa rfl Q5) hD ?_
  refine qd 9 rfl ?_
  refine Zg rfl rfl Y5 rfl rfl (by (repeat (first | exact Upd.here | apply Upd.there | apply Qx))) rfl ?_
  refine Qb ?_
  refine zD hD ?_
  refine Qm (by kernel_rfl) ?_
  refine Qy ?_
  refine Qn (Qc (Qk (zB ?_)))
  refine zM (Qb ?_)
  exact zm (h:=⟨42-(k+1),by omega,k+1,_,_,rfl,rfl,rfl,rfl,by omega,by rw [ZD hy,List.map_append];exact hO2⟩)
 have hge_k:42≤k:=by have h:=hc11;simp at h;omega
 obtain rfl:k=42:=by omega
 obtain ⟨a3,c3,rfl⟩:=hO.shape
 have hke:(VE x).take 42=VE x:=rfl
 rw [hke] at hO
 refine Zy (Qs (Qs (QB (Qc (Qq ?_)))))
 have hD:=zxd I2
 refine ZL ?_
 refine Q0 I2 [] mixed ?_
 refine zT 0 rfl (Qa rfl Q5) hD ?_
 refine zT 2 rfl (Qa rfl Vv) hD ?_
 refine zT 3 rfl (Qa rfl Y6) hD ?_
 refine zT 4 rfl (Qd rfl Kb (fun hg=>by exact QG.imm h1.out rfl)) hD ?_
 refine zT 6 rfl (Qa rfl YR) hD ?_
 refine zT 7 rfl (Qa rfl Uy) hD ?_
 refine zT 8 rfl (Qd rfl JP (fun hg=>by exact QG.imm h1.out rfl)) hD ?_
 refine zT 9 rfl (QZ (ps:=[(0,_),(2,_)]) [_,_,_,_] Km rfl rfl) hD ?_
 refine zT 10 rfl (Qa rfl YR) hD ?_
 refine zT 11 rfl (Qa rfl Uq) hD ?_
 refine zT 12 rfl (Qd rfl JP (fun hg=>by exact QG.imm h1.out rfl)) hD ?_
 refine zT 13 rfl (QZ (ps:=[(0,_),(2,_)]) [_,_,_,_] Km rfl rfl) hD ?_
 refine Q8 1 5 rfl rfl (by kernel_rfl) ?_ ?_
 ·
  refine zV (Qd rfl ZI (fun hg=>by (repeat (first | exact zw8 rfl | apply zw7 | apply zw9)))) ?_
  refine Qb ?_
  refine zD hD ?_
  refine qd 5 rfl ?_
  refine QE (cap:=[]) (vs:=[_]) rfl rfl zeN .nil (ziz hN hnn) rfl rfl ?_
  rintro vv4 I4 L4 hI4 ⟨sv7,rfl,rfl,hO7⟩
  have hIc:=hIc.trans hI4;have hD:=hD.trans hI4
  obtain ⟨a7,c7,rfl⟩:=hO7.shape
  refine Qb ?_
  refine zD hD ?_
  refine qd 14 rfl ?_
  refine Ql (ps:=[(0,_),(1,_),(2,_)]) (m:=[Zo ⟨3,0,⟨#[]⟩,a7,x.pt.n,c7⟩,Zo (vcT x.rt.name),Zo (vcT x.rt.town)]) ZO rfl (.cons rfl (.cons rfl (.cons rfl (.nil)))) rfl (by simp [ZB]) (by decide) (by decide) rfl rfl (fun b_37=>?_)
  refine Qb ?_
  refine zD hD ?_
  refine qd 15 rfl ?_
  refine QX (v:=_) (ys:=([⟨3,0,⟨#[]⟩,a7,x.pt.n,c7⟩,vcT x.rt.name,vcT x.rt.town]:List Vc).flatMap Zo) (L:=L) rfl rfl ZO hO (by repeat (first | exact .cons .here .nil | exact Qu | exact Qr | apply Qp | apply Qo)) ⟨rfl,fun _=>rfl,by repeat (first | exact zxb | apply zxa | apply zxc)⟩ (VT [⟨3,0,⟨#[]⟩,a7,x.pt.n,c7⟩,vcT x.rt.name,vcT x.rt.town]) (by omega) rfl rfl ?_
  intro v8 L8 hO8 _;rw [←List.flatMap_append] at hO8;obtain ⟨a8,c8,rfl⟩:=hO8.shape
  refine Qb ?_
  refine zD hD ?_
  refine zT 16 rfl (Qa rfl Q5) hD ?_
  refine qd 17 rfl ?_
  refine Zg rfl rfl Y5 rfl rfl (by (repeat (first | exact Upd.here | apply Upd.there | apply Qx))) rfl ?_
  refine Qb ?_
  refine zD hD ?_
  refine Qm (by kernel_rfl) ?_
  refine Qy ?_
  refine Qc (Qq ?_)
  refine Zw hO7 ZB (by decide) (by repeat (first | exact .cons .here .nil | exact Qu | exact Qr | apply Qp | apply Qo)) (fun I5 hI5 af5 cf5 ef5 hM7=>?_)
  cases ef5
  have hIc:=hIc.trans hI5
  refine Zw hO8 ZB (by decide) (by repeat (first | exact .cons .here .nil | exact Qu | exact Qr | apply Qp | apply Qo)) (fun I6 hI6 af6 cf6 ef6 hM8=>?_)
  cases ef6
  have hM7:=hM7.mono hI6;have hIc:=hIc.trans hI6
  refine Qk ?_
  refine zV (Qg rfl ZH (fun hg=>by exact Cells.g1) rfl) ?_
  refine QE (cap:=[]) (vs:=[_]) rfl rfl zfB .nil (zcn (x:=JW x) (cv:=⟨3,0,⟨#[]⟩,a8,45,c8⟩) (UV hM7 hM8) (Jg x) hok hb) rfl rfl ?_
  rintro vv7 I7 L7 hI7 ⟨bv,rfl,hOb⟩
  have hIc:=hIc.trans hI7
  refine zM ?_
  refine zE ?_
  refine zE ?_
  refine zA ?_
  refine zA (zN (Qq ?_))
  refine Zw hOb ZW (by decide) (by repeat (first | exact .cons .here .nil | exact Qu | exact Qr | apply Qp | apply Qo)) (fun I8 hI8 af8 cf8 ef8 hB=>?_)
  subst ef8
  have hIc:=hIc.trans hI8
  refine Qk (zM ?_)
  refine zV (ZM rfl bst (fun hg=>hB)) ?_
  refine zA (zN (QF ?_))
  exact zp hIc rfl rfl (by rfl)
 refine QE (cap:=[]) (vs:=[_]) rfl rfl zeN .nil (ziz hN hnn) rfl rfl ?_
 rintro vv9 I9 L9 hI9 ⟨sv7,rfl,rfl,hO7⟩
 have hIc:=hIc.trans hI9;have hD:=hD.trans hI9
 obtain ⟨a7,c7,rfl⟩:=hO7.shape
 refine Qb ?_
 refine zD hD ?_
 refine Q8 1 14 rfl rfl (by kernel_rfl) ?_ ?_
 ·
  refine zV (Qd rfl ZI (fun hg=>by (repeat (first | exact zw8 rfl | apply zw7 | apply zw9)))) ?_
  refine Qb ?_
  refine zD hD ?_
  refine qd 14 rfl ?_
  refine Ql (ps:=[(0,_),(1,_),(2,_)]) (m:=[Zo ⟨3,0,⟨#[]⟩,a7,x.pt.n,c7⟩,Zo (vcT x.rt.name),Zo (vcT x.rt.town)]) ZO rfl (.cons rfl (.cons rfl (.cons rfl (.nil)))) rfl (by simp [ZB]) (by decide) (by decide) rfl rfl (fun b_37=>?_)
  refine Qb ?_
  refine zD hD ?_
  refine qd 15 rfl ?_
  refine QX (v:=_) (ys:=([⟨3,0,⟨#[]⟩,a7,x.pt.n,c7⟩,vcT x.rt.name,vcT x.rt.town]:List Vc).flatMap Zo) (L:=L) rfl rfl ZO hO (by repeat (first | exact .cons .here .nil | exact Qu | exact Qr | apply Qp | apply Qo)) ⟨rfl,fun _=>rfl,by repeat (first | exact zxb | apply zxa | apply zxc)⟩ (VT [⟨3,0,⟨#[]⟩,a7,x.pt.n,c7⟩,vcT x.rt.name,vcT x.rt.town]) (by omega) rfl rfl ?_
  intro v8 L8 hO8 _;rw [←List.flatMap_append] at hO8;obtain ⟨a8,c8,rfl⟩:=hO8.shape
  refine Qb ?_
  refine zD hD ?_
  refine zT 16 rfl (Qa rfl Q5) hD ?_
  refine qd 17 rfl ?_
  refine Zg rfl rfl Y5 rfl rfl (by (repeat (first | exact Upd.here | apply Upd.there | apply Qx))) rfl ?_
  refine Qb ?_
  refine zD hD ?_
  refine Qm (by kernel_rfl) ?_
  refine Qy ?_
  refine Qc (Qq ?_)
  refine Zw hO7 ZB (by decide) (by repeat (first | exact .cons .here .nil | exact Qu | exact Qr | apply Qp | apply Qo)) (fun I10 hI10 af10 cf10 ef10 hM7=>?_)
  cases ef10
  have hIc:=hIc.trans hI10
  refine Zw hO8 ZB (by decide) (by repeat (first | exact .cons .here .nil | exact Qu | exact Qr | apply Qp | apply Qo)) (fun I11 hI11 af11 cf11 ef11 hM8=>?_)
  cases ef11
  have hM7:=hM7.mono hI11;have hIc:=hIc.trans hI11
  refine Qk ?_
  refine zV (Qg rfl ZH (fun hg=>by exact Cells.g1) rfl) ?_
  refine QE (cap:=[]) (vs:=[_]) rfl rfl zfB .nil (zcn (x:=JW x) (cv:=⟨3,0,⟨#[]⟩,a8,45,c8⟩) (UV hM7 hM8) (Jg x) hok hb) rfl rfl ?_
  rintro vv12 I12 L12 hI12 ⟨bv,rfl,hOb⟩
  have hIc:=hIc.trans hI12
  refine zM ?_
  refine zE ?_
  refine zE ?_
  refine zA ?_
  refine zA (zN (Qq ?_))
  refine Zw hOb ZW (by decide) (by repeat (first | exact .cons .here .nil | exact Qu | exact Qr | apply Qp | apply Qo)) (fun I13 hI13 af13 cf13 ef13 hB=>?_)
  subst ef13
  have hIc:=hIc.trans hI13
  refine Qk (zM ?_)
  refine zV (ZM rfl bst (fun hg=>hB)) ?_
  refine zA (zN (QF ?_))
  exact zp hIc rfl rfl (by rfl)
 refine Ql (ps:=[(0,_),(1,_),(2,_)]) (m:=[Zo ⟨3,0,⟨#[]⟩,a7,x.pt.n,c7⟩,Zo (vcT x.rt.name),Zo (vcT x.rt.town)]) ZO rfl (.cons rfl (.cons rfl (.cons rfl (.nil)))) rfl (by simp [ZB]) (by decide) (by decide) rfl rfl (fun b_37=>?_)
 refine Qb ?_
 refine zD hD ?_
 refine qd 1 rfl ?_
 refine zV (Qd rfl ZI (fun hg=>by (repeat (first | exact zw8 rfl | apply zw7 | apply zw9)))) ?_
 refine Qb ?_
 refine zD hD ?_
 refine qd 15 rfl ?_
 refine QX (v:=_) (ys:=([⟨3,0,⟨#[]⟩,a7,x.pt.n,c7⟩,vcT x.rt.name,vcT x.rt.town]:List Vc).flatMap Zo) (L:=L) rfl rfl ZO hO (by repeat (first | exact .cons .here .nil | exact Qu | exact Qr | apply Qp | apply Qo)) ⟨rfl,fun _=>rfl,by repeat (first | exact zxb | apply zxa | apply zxc)⟩ (VT [⟨3,0,⟨#[]⟩,a7,x.pt.n,c7⟩,vcT x.rt.name,vcT x.rt.town]) (by omega) rfl rfl ?_
 intro v8 L8 hO8 _;rw [←List.flatMap_append] at hO8;obtain ⟨a8,c8,rfl⟩:=hO8.shape
 refine Qb ?_
 refine zD hD ?_
 refine zT 16 rfl (Qa rfl Q5) hD ?_
 refine qd 17 rfl ?_
 refine Zg rfl rfl Y5 rfl rfl (by (repeat (first | exact Upd.here | apply Upd.there | apply Qx))) rfl ?_
 refine Qb ?_
 refine zD hD ?_
 refine Qm (by kernel_rfl) ?_
 refine Qy ?_
 refine Qc (Qq ?_)
 refine Zw hO7 ZB (by decide) (by repeat (first | exact .cons .here .nil | exact Qu | exact Qr | apply Qp | apply Qo)) (fun I14 hI14 af14 cf14 ef14 hM7=>?_)
 cases ef14
 have hIc:=hIc.trans hI14
 refine Zw hO8 ZB (by decide) (by repeat (first | exact .cons .here .nil | exact Qu | exact Qr | apply Qp | apply Qo)) (fun I15 hI15 af15 cf15 ef15 hM8=>?_)
 cases ef15
 have hM7:=hM7.mono hI15;have hIc:=hIc.trans hI15
 refine Qk ?_
 refine zV (Qg rfl ZH (fun hg=>by exact Cells.g1) rfl) ?_
 refine QE (cap:=[]) (vs:=[_]) rfl rfl zfB .nil (zcn (x:=JW x) (cv:=⟨3,0,⟨#[]⟩,a8,45,c8⟩) (UV hM7 hM8) (Jg x) hok hb) rfl rfl ?_
 rintro vv16 I16 L16 hI16 ⟨bv,rfl,hOb⟩
 have hIc:=hIc.trans hI16
 refine zM ?_
 refine zE ?_
 refine zE ?_
 refine zA ?_
 refine zA (zN (Qq ?_))
 refine Zw hOb ZW (by decide) (by repeat (first | exact .cons .here .nil | exact Qu | exact Qr | apply Qp | apply Qo)) (fun I17 hI17 af17 cf17 ef17 hB=>?_)
 subst ef17
 have hIc:=hIc.trans hI17
 refine Qk (zM ?_)
 refine zV (ZM rfl bst (fun hg=>hB)) ?_
 refine zA (zN (QF ?_))
 exact zp hIc rfl rfl (by rfl)
end
section
open Go Go.Kn Go.Proofs
theorem Ym:QQ Tryz.prog 59 0 0:=.of (by kernel_rfl)
theorem zaF:Fun Tryz.prog 108:=.of Tryz.func108 (by kernel_rfl) (by kernel_rfl)
theorem zp6:Fun Tryz.prog 154:=.of Tryz.func154 (by kernel_rfl) (by kernel_rfl)
theorem zdC:Fun Tryz.prog 79:=.of Tryz.func79 (by kernel_rfl) (by kernel_rfl)
theorem zer:Fun Tryz.prog 81:=.of Tryz.func81 (by kernel_rfl) (by kernel_rfl)
theorem VW:ScT Tryz.prog 57:=.of (by kernel_rfl)
theorem VX:SzT Tryz.prog 45 45:=.of (by kernel_rfl)
theorem Wj:Vf Tryz.prog 45 (.agg #[(.int .i64 0),(.int .i64 0),(.int .i64 0),(.int .i64 0),(.int .i64 0),(.int .i64 0),(.int .i64 0),(.int .i64 0),(.int .i64 0),(.int .i64 0),(.int .i64 0),(.int .i64 0),(.int .i64 0),(.int .i64 0),(.int .i64 0),(.int .i64 0),(.int .i64 0),(.int .i64 0),(.int .i64 0),(.int .i64 0),(.int .i64 0),(.int .i64 0),(.int .i64 0),(.int .i64 0),(.int .i64 0),(.int .i64 0),(.int .i64 0),(.int .i64 0),(.slice none 0 0),(.int .i64 0),(.int .i64 0),(.int .i64 0),(.int .i64 0),(.int .i64 0),(.int .i64 0),(.int .i64 0),(.int .i64 0),(.int .i64 0),(.int .i64 0),(.int .i64 0),(.string ⟨#[]⟩),(.string ⟨#[]⟩),(.int .i64 0),(.int .i64 0),(.int .i64 0)]):=.of (by kernel_rfl)
theorem ztx (I:Qv)(a b:ByteArray):Yc Tryz.prog 154 [.string a,.string b] I (.int .i64 (zvn a b)):=fun g H w hw=>(Tryz.strings_Compare a b w).mono fun e w' ⟨h1,h2⟩=>⟨h1,h2 ▸ hw⟩
theorem zeu {I:Qv}{x y:Nt}(hX:NtM I x)(hY:NtM I y):Yc Tryz.prog 81 [JK x,JK y] I (.int .i64 (YN x y)):=by
 intro g H w hw
 refine qe Tryz.func81 Tryz.ntmps81 hw ?_
 have hIc:=zxd I
 refine zR ?_
 refine Zh rfl rfl rfl (fun b_2=>?_)
 refine Zh rfl rfl rfl (fun b_3=>?_)
 refine zA (Qb ?_)
 refine QO .here (fun I1 hI1 hb1=>?_)
 have hX:=hX.mono hI1;have hY:=hY.mono hI1;have hIc:=hIc.trans hI1
 have h2:=BxI.of hb1
 refine QO .here (fun I2 hI2 hb2=>?_)
 have hX:=hX.mono hI2;have hY:=hY.mono hI2;have h2:=h2.mono hI2;have hIc:=hIc.trans hI2
 have h1:=BxI.of hb2
 refine Qc (Qq ?_)
 have hD:=zxd I2
 refine ZL ?_
 refine Q0 I2 [] mixed ?_
 refine zT 0 rfl (Qg rfl Zr (fun hg=>by exact BxI.cells (vs:=Zn x) h1) rfl) hD ?_
 refine zT 2 rfl (Qg rfl Zr (fun hg=>by exact BxI.cells (vs:=Zn y) h2) rfl) hD ?_
 refine qd 1 rfl ?_
 refine qcV (vs:=[_]) rfl zdC (zjv x hX.nd hX.nn hX.ok hX.len) ?_
 refine Qb ?_
 refine zD hD ?_
 refine qd 3 rfl ?_
 refine qcV (vs:=[_]) rfl zdC (zjv y hY.nd hY.nn hY.ok hY.len) ?_
 refine Qb ?_
 refine zD hD ?_
 refine qd 4 rfl ?_
 refine qcV (vs:=[_,_]) rfl zp6 (ztx _ _ _) ?_
 refine Qb ?_
 refine zD hD ?_
 refine zT 5 rfl (QC rfl) hD ?_
 refine Qm (by kernel_rfl) ?_
 refine Qy ?_
 refine Qc (QF ?_)
 exact zp hIc rfl rfl (by rfl)
theorem zfM {I:Qv}{av:Option Addr}{n c:Nat}{xs:List Nt}(hP:K9 I av n c xs)(hn:n≤100000):Yc Tryz.prog 61 [.agg #[.slice av n c]] I (.bool (Z3 xs)):=by
 intro g H w hw
 refine qe Tryz.func61 Tryz.ntmps61 hw ?_
 have hIc:=zxd I
 have hln:=hP.sl.len
 refine zR ?_
 refine Zh rfl rfl rfl (fun b_1=>?_)
 refine zA (Qb ?_)
 refine QO .here (fun I1 hI1 hb1=>?_)
 have hP:=hP.mono hI1;have hIc:=hIc.trans hI1
 have h1:=BxI.of hb1
 refine Qc (Qq (zR ?_))
 refine zF Ym ?_
 refine zV (Qd rfl VW (fun hg=>by exact QG.imm h1.out rfl)) ?_
 refine zQ Zu ?_
 refine zM (zN (QD ?_))
 refine zU [(1,_),(6,_),(7,_)] (fun T L0 mz E I' loc'=>∃ (k:Nat),mz=n-k∧E=(8,.int .i64 k)::T∧HLe I1 I'∧L0=loc'∧k≤n∧(∀ j y,j<k→xs[j]? =some y→zcZ (xs.take j) y=false)) ?_ (h:=⟨0,rfl,rfl,zxd _,rfl,Nat.zero_le _,fun j y h=>absurd h (Nat.not_lt_zero _)⟩)
 rintro mz E J2 loc' ⟨k,rfl,rfl,hJ,rfl,hk,hall⟩
 have hP:=hP.mono hJ;have h1:=h1.mono hJ;have hIc:=hIc.trans hJ
 have hB0:=hJ
 refine zR (zC (zN (Qq ?_)))
 refine zI ?_ ?_<;>intro hc9
 ·
  have hlt_k:k<n:=by have h:=hc9;simp at h;omega
  obtain ⟨x,hx⟩:∃ x,xs[k]? =some x:=⟨_,List.getElem?_eq_getElem (by omega)⟩
  have hxm:x∈xs:=List.mem_of_getElem? hx
  refine Qw (Qc (Qq (QD (zR (zM ?_)))))
  refine zV (QV rfl rfl Zu hP.sl (fun hg=>by omega)) ?_
  refine zV (Qg rfl Zr (fun hg=>by exact zxe hP.sl hx) rfl) ?_
  refine Qt Wj rfl rfl (fun b_4=>?_)
  refine zA ?_
  refine zh VX ?_
  refine Qb ?_
  refine QO .here (fun I3 hI3 hb3=>?_)
  have hP:=hP.mono hI3;have h1:=h1.mono hI3;have hIc:=hIc.trans hI3;have hB0:=hB0.trans hI3
  have h4:=BxI.of hb3
  refine Qc (Qq ?_)
  rcases (show Q7 x=false∨(Q7 x=true∧k=0)∨(Q7 x=true∧0<k) by cases Q7 x<;>simp<;>omega) with hf | ⟨hf,hk⟩ | ⟨hf,hk⟩
  ·
   have hD:=zxd I3
   refine ZL ?_
   refine Q0 I3 [] mixed ?_
   refine zT 0 rfl (Qg rfl Zr (fun hg=>by exact BxI.cells (vs:=Zn x) h4) rfl) hD ?_
   refine qd 1 rfl ?_
   refine qcV (vs:=[_]) rfl zaF (KD x (hP.nd x hxm)) ?_
   refine Qb ?_
   refine zD hD ?_
   refine zT 2 rfl (Yz rfl) hD ?_
   rw [hf]
   refine zT 3 rfl (Qh rfl) hD ?_
   refine zW 4 16 hD ?_
   refine zW 5 16 hD ?_
   refine zW 6 16 hD ?_
   refine zW 7 19 hD ?_
   refine zW 8 19 hD ?_
   refine zW 9 19 hD ?_
   refine zW 10 19 hD ?_
   refine zW 11 19 hD ?_
   refine zW 12 19 hD ?_
   refine zW 13 19 hD ?_
   refine zW 14 19 hD ?_
   refine zW 15 19 hD ?_
   refine zW 16 16 hD ?_
   refine zT 17 rfl (Kl rfl rfl rfl) hD ?_
   refine Qm (by kernel_rfl) ?_
   refine Qy ?_
   refine Qc ?_
   refine zI ?_ ?_<;>intro hc30
   ·
    have hbad:=zi1 (pre:=xs.take k) hf
    refine zR (zA (zN (QF (Qz (Qi (Qi (Qz ?_)))))))
    refine Qi ?_
    exact zp hIc rfl rfl (by rw [zd7 hx hbad])
   cases hc30
  ·
   have hk0:decide ((k:Int)>0)=false:=by simp;omega
   have hD:=zxd I3
   refine ZL ?_
   refine Q0 I3 [] mixed ?_
   refine zT 0 rfl (Qg rfl Zr (fun hg=>by exact BxI.cells (vs:=Zn x) h4) rfl) hD ?_
   refine qd 1 rfl ?_
   refine qcV (vs:=[_]) rfl zaF (KD x (hP.nd x hxm)) ?_
   refine Qb ?_
   refine zD hD ?_
   refine zT 2 rfl (Yz rfl) hD ?_
   rw [hf]
   refine zT 3 rfl (Qh rfl) hD ?_
   refine zw 4 16 rfl (Qh rfl) hD ?_
   refine zw 5 16 rfl (QT rfl rfl rfl) hD ?_
   rw [hk0]
   refine zw 6 16 rfl (Qh rfl) hD ?_
   refine zW 7 19 hD ?_
   refine zW 8 19 hD ?_
   refine zW 9 19 hD ?_
   refine zW 10 19 hD ?_
   refine zW 11 19 hD ?_
   refine zW 12 19 hD ?_
   refine zW 13 19 hD ?_
   refine zW 14 19 hD ?_
   refine zW 15 19 hD ?_
   refine zw 16 16 rfl (Kl rfl rfl rfl) hD ?_
   refine zT 17 rfl (Zv rfl rfl rfl) hD ?_
   refine Qm (by kernel_rfl) ?_
   refine Qy ?_
   refine Qc ?_
   refine zI ?_ ?_<;>intro hc30
   ·
    cases hc30
   have hbad:zcZ (xs.take k) x=false:=by rw [hk];exact zgZ hf
   refine Qw (Qn (Qc (Qk (zB ?_))))
   refine zM (Qb ?_)
   exact zm (h:=⟨n-(k+1),by omega,k+1,rfl,rfl,hB0,rfl,by omega,KO hx hall hbad⟩)
  have hk0:decide ((k:Int)>0)=true:=by simp;omega
  obtain ⟨y,hy⟩:∃ y,xs[((k:Int)-1).toNat]? =some y:=⟨_,List.getElem?_eq_getElem (by omega)⟩
  have hym:y∈xs:=List.mem_of_getElem? hy
  have hfy:=zdU (hall _ y (by omega) hy)
  have hD:=zxd I3
  refine ZL ?_
  refine Q0 I3 [] mixed ?_
  refine zT 0 rfl (Qg rfl Zr (fun hg=>by exact BxI.cells (vs:=Zn x) h4) rfl) hD ?_
  refine qd 1 rfl ?_
  refine qcV (vs:=[_]) rfl zaF (KD x (hP.nd x hxm)) ?_
  refine Qb ?_
  refine zD hD ?_
  refine zT 2 rfl (Yz rfl) hD ?_
  rw [hf]
  refine zT 3 rfl (Qh rfl) hD ?_
  refine zw 4 16 rfl (Qh rfl) hD ?_
  refine zw 5 16 rfl (QT rfl rfl rfl) hD ?_
  rw [hk0]
  refine zw 6 16 rfl (Qh rfl) hD ?_
  refine zw 7 19 rfl (Qa rfl Ym) hD ?_
  refine zw 8 19 rfl (Qd rfl VW (fun hg=>by exact QG.imm h1.out rfl)) hD ?_
  refine zw 9 19 rfl (Qh rfl) hD ?_
  refine zw 10 19 rfl (VO rfl rfl rfl (fun hg=>by omega)) hD ?_
  refine zw 11 19 rfl (QV rfl rfl Zu hP.sl (fun hg=>by omega)) hD ?_
  refine zw 12 19 rfl (Qg rfl Zr (fun hg=>by exact zxe hP.sl hy) rfl) hD ?_
  refine zw 13 19 rfl (Qg rfl Zr (fun hg=>by exact BxI.cells (vs:=Zn x) h4) rfl) hD ?_
  refine qd 14 rfl ?_
  refine Q6 (dj:=19) rfl rfl rfl ?_
  refine qcV (vs:=[_,_]) rfl zer (zeu (hP.m y hym hfy) (hP.m x hxm hf)) ?_
  refine Qb ?_
  refine zD hD ?_
  refine zw 15 19 rfl (QT rfl rfl rfl) hD ?_
  refine zw 16 16 rfl (Zv rfl rfl rfl) hD ?_
  refine zT 17 rfl (Zv rfl rfl rfl) hD ?_
  refine Qm (by kernel_rfl) ?_
  refine Qy ?_
  refine Qc ?_
  refine zI ?_ ?_<;>intro hc30
  ·
   have hbad:zcZ (xs.take k) x=true:=(U8 hf hk hy).trans hc30
   refine zR (zA (zN (QF (Qz (Qi (Qi (Qz ?_)))))))
   refine Qi ?_
   exact zp hIc rfl rfl (by rw [zd7 hx hbad])
  have hbad:zcZ (xs.take k) x=false:=(U8 hf hk hy).trans hc30
  refine Qw (Qn (Qc (Qk (zB ?_))))
  refine zM (Qb ?_)
  exact zm (h:=⟨n-(k+1),by omega,k+1,rfl,rfl,hB0,rfl,by omega,KO hx hall hbad⟩)
 have hge_k:n≤k:=by have h:=hc9;simp at h;omega
 refine Zy (Qs (Qs (QB (Qc (zR ?_)))))
 refine zF Ym ?_
 refine zV (Qd rfl VW (fun hg=>by exact QG.imm h1.out rfl)) ?_
 refine zQ Zu ?_
 refine zC ?_
 refine zA (zN (QF ?_))
 exact zp hIc rfl rfl (by rw [zgM (fun j y hj hy=>hall j y (by omega) hy),hln])
end
section
open Go Go.Kn Go.Proofs
structure Pk where
 frm:Int
 to_:Int
 a:Option Addr
 n:Nat
 c:Nat
 data:List Nat
def ZQ (x:Pk):List Value:=[.int .i64 x.frm,.int .i64 x.to_,.slice x.a x.n x.c]
def WG (x:Pk):Value:=.agg (ZQ x).toArray
theorem Zi (x:Pk):(ZQ x).length=3:=rfl
def Ky (l:Int×Int):List Value:=[.int .i64 l.1,.int .i64 l.2]
def lkV (a b:Int):Bool:=(decide (a≥0)&&decide (a<b))&&decide (b<24)
def pkV (x:Pk):Bool:=lkV (zoN x.frm x.to_) (zd4 x.frm x.to_)&&decide ((x.n:Int)≤1048576)
def Ug:List Int→List Int→Int
 | [],[]=>0
 | [],_::_=> -1
 | _::_,[]=>1
 | x::xs,y::ys=>if zeI x y=0 then Ug xs ys else zeI x y
theorem zhx {xs ys:List Int}{k:Nat}{x y:Int}(hx:xs[k]? =some x)(hy:ys[k]? =some y)(h:zeI x y=0):Ug (xs.drop k) (ys.drop k)=Ug (xs.drop (k+1)) (ys.drop (k+1)):=by
 obtain ⟨h1,e1⟩:=List.getElem?_eq_some_iff.1 hx
 obtain ⟨h2,e2⟩:=List.getElem?_eq_some_iff.1 hy
 rw [List.drop_eq_getElem_cons h1,List.drop_eq_getElem_cons h2,e1,e2,Ug,if_pos h]
theorem zjH {xs ys:List Int}{k:Nat}{x y:Int}(hx:xs[k]? =some x)(hy:ys[k]? =some y)(h:zeI x y≠0):Ug (xs.drop k) (ys.drop k)=zeI x y:=by
 obtain ⟨h1,e1⟩:=List.getElem?_eq_some_iff.1 hx
 obtain ⟨h2,e2⟩:=List.getElem?_eq_some_iff.1 hy
 rw [List.drop_eq_getElem_cons h1,List.drop_eq_getElem_cons h2,e1,e2,Ug,if_neg h]
theorem zne {xs ys:List Int}{k:Nat}{x:Int}(hx:xs[k]? =some x)(h:ys.length≤k):Ug (xs.drop k) (ys.drop k)=1:=by
 obtain ⟨h1,e1⟩:=List.getElem?_eq_some_iff.1 hx
 rw [List.drop_eq_getElem_cons h1,List.drop_eq_nil_of_le h,Ug]
theorem znD {xs ys:List Int}{k:Nat}(h:xs.length≤k)(h2:k<ys.length):Ug (xs.drop k) (ys.drop k)= -1:=by
 rw [List.drop_eq_nil_of_le h,List.drop_eq_getElem_cons h2,Ug]
theorem zl2 {xs ys:List Int}{k:Nat}(h:xs.length≤k)(h2:ys.length≤k):Ug (xs.drop k) (ys.drop k)=0:=by
 rw [List.drop_eq_nil_of_le h,List.drop_eq_nil_of_le h2,Ug]
theorem zpC {I:Qv}{av:Option Addr}{n c k:Nat}{ks:List (Int×Int)}{l:Int×Int}(h:Sl I 2 Ky av n c ks)(hk:ks[k]? =some l):Sl I 1 Yk (some ⟨Ab av,Ao av+k*2,none⟩) 2 2 [l.1,l.2]:=
 ⟨rfl,Nat.le_refl _,fun _=>rfl,fun i x hx j u hu=>by
  have h2:=h.cells k l hk i u (by
   match i,j,hx,hu with
   | 0,0,hx,hu=>cases hx;cases hu;rfl
   | 1,0,hx,hu=>cases hx;cases hu;rfl
   | 0,_+1,hx,hu=>cases hu
   | 1,_+1,hx,hu=>cases hu
   | _+2,_,hx,hu=>cases hx)
  have hj:j=0:=by
   match j,hu with
   | 0,_=>rfl
   | _+1,hu=>cases hu
  subst hj
  show QG I [] (Ab av) (Ao av+k*2+i*1+0) u
  rw [Nat.mul_one,Nat.add_zero];exact h2⟩
def zgB (pre:List (Int×Int))(l:Int×Int):Bool:= !lkV l.1 l.2||(match pre.getLast? with | none=>false | some y=>decide (Ug [y.1,y.2] [l.1,l.2]≥0))
def zfb:List (Int×Int)→List (Int×Int)→Bool
 | _,[]=>true
 | pre,x::l=> !zgB pre x&&zfb (pre++[x]) l
def K1 (qs:List Pk)(ks:List (Int×Int)):Int:=if decide ((qs.length:Int)>4096)||qs.any (fun x=> !pkV x) then 60 else if zfb [] ks then 0 else 60
theorem zbf:∀ (xs pre:List (Int×Int)),zfb pre xs=true↔ ∀ j y,xs[j]? =some y→zgB (pre++xs.take j) y=false
 | [],pre=>by simp [zfb]
 | x::l,pre=>by
  rw [zfb,Bool.and_eq_true,zbf l]
  constructor
  ·
   rintro ⟨h1,h2⟩ j y hy
   cases j with
   | zero=>cases hy;simpa using h1
   | succ j=>have:=h2 j y hy;simpa [List.append_assoc] using this
  ·
   intro h
   refine ⟨by have:=h 0 x rfl;simpa using this,fun j y hy=>?_⟩
   have:=h (j+1) y hy
   simpa [List.append_assoc] using this
theorem zn7 {qs:List Pk}{ks:List (Int×Int)}(h:(decide ((qs.length:Int)>4096)||qs.any (fun x=> !pkV x))=true):K1 qs ks=60:=if_pos h
theorem zgv {qs:List Pk}{ks:List (Int×Int)}{k:Nat}{x:Int×Int}(h:(decide ((qs.length:Int)>4096)||qs.any (fun x=> !pkV x))=false)(hx:ks[k]? =some x)(hb:zgB (ks.take k) x=true):K1 qs ks=60:=by
 unfold K1
 rw [h,if_neg (by simp)]
 cases hg:zfb [] ks with
 | false=>rfl
 | true=>
  have:=(zbf ks []).1 hg k x hx
  rw [List.nil_append,hb] at this;cases this
theorem zke {qs:List Pk}{ks:List (Int×Int)}(h:(decide ((qs.length:Int)>4096)||qs.any (fun x=> !pkV x))=false)(hall:∀ j y,j<ks.length→ks[j]? =some y→zgB (ks.take j) y=false):K1 qs ks=0:=by
 unfold K1
 rw [h,if_neg (by simp),if_pos ((zbf ks []).2 fun j y hy=>by rw [List.nil_append];exact hall j y (List.getElem?_eq_some_iff.1 hy).1 hy)]
theorem zkZ {pre:List (Int×Int)}{x:Int×Int}(h:lkV x.1 x.2=false):zgB pre x=true:=by simp [zgB,h]
theorem zmT {x:Int×Int}(h:lkV x.1 x.2=true):zgB [] x=false:=by simp [zgB,h]
theorem zdy {xs:List (Int×Int)}{k:Nat}{x y:Int×Int}(h:lkV x.1 x.2=true)(hk:0<k)(hy:xs[((k:Int)-1).toNat]? =some y):zgB (xs.take k) x=decide (Ug [y.1,y.2] [x.1,x.2]≥0):=by
 have e:((k:Int)-1).toNat=k-1:=by omega
 rw [e] at hy
 have hl:(xs.take k).getLast?=some y:=by
  rw [show k=k-1+1 by omega,ZD hy];simp
 simp [zgB,h,hl]
def za1:Pk:=⟨0,0,none,0,0,[]⟩
def atE (qs:List Pk)(ks:List (Int×Int))(i:Int):Int:=if K1 qs ks != 0 then 60 else if decide (i<0)||decide (i≥(qs.length:Int)) then 1 else 0
def atP (qs:List Pk)(ks:List (Int×Int))(i:Int):Pk:=if atE qs ks i=0 then qs.getD i.toNat za1 else za1
theorem zwZ {qs:List Pk}{ks:List (Int×Int)}{i:Int}(h:(K1 qs ks != 0)=true):atE qs ks i=60∧atP qs ks i=za1:=by
 have:atE qs ks i=60:=by unfold atE;rw [h];rfl
 exact ⟨this,by unfold atP;rw [this];rfl⟩
theorem zwY {qs:List Pk}{ks:List (Int×Int)}{i:Int}(h:(K1 qs ks != 0)=false)(h2:(decide (i<0)||decide (i≥(qs.length:Int)))=true):atE qs ks i=1∧atP qs ks i=za1:=by
 have:atE qs ks i=1:=by unfold atE;rw [h,h2];rfl
 exact ⟨this,by unfold atP;rw [this];rfl⟩
theorem zwc {qs:List Pk}{ks:List (Int×Int)}{i:Int}{x:Pk}(h:(K1 qs ks != 0)=false)(h2:(decide (i<0)||decide (i≥(qs.length:Int)))=false)(hx:qs[i.toNat]? =some x):atE qs ks i=0∧atP qs ks i=x:=by
 have:atE qs ks i=0:=by unfold atE;rw [h,h2];rfl
 exact ⟨this,by unfold atP;rw [this,if_pos rfl,List.getD_eq_getElem?_getD,hx];rfl⟩
def zpA:Value:=.agg #[.slice none 0 0,.slice none 0 0]
theorem zch {qs:List Pk}{ks:List (Int×Int)}{i:Int}(h:atE qs ks i=0):0≤i∧i<(qs.length:Int):=by
 unfold atE at h
 split at h
 ·
  cases h
 ·
  split at h
  ·
   cases h
  ·
   rename_i h2;simp at h2;omega
def zvm (v y:Int×Int):Bool:=v.1==y.1&&v.2==y.2
def zoH (ks:List (Int×Int))(p:Pk):Bool:=ks.any (zvm (zoN p.frm p.to_,zd4 p.frm p.to_))
def KX (qs:List Pk)(ks:List (Int×Int))(x:Pk):Int:=if (K1 qs ks != 0|| !pkV x)=true then 60 else if ((qs.length:Int)==4096)=true then 2 else 0
theorem zsr {qs:List Pk}{ks:List (Int×Int)}{x:Pk}(h:(K1 qs ks != 0|| !pkV x)=true):KX qs ks x=60:=if_pos h
theorem zs0 {qs:List Pk}{ks:List (Int×Int)}{x:Pk}(h:(K1 qs ks != 0|| !pkV x)=false)(h2:((qs.length:Int)==4096)=true):KX qs ks x=2:=by unfold KX;rw [h,h2];rfl
theorem zj8 {qs:List Pk}{ks:List (Int×Int)}{x:Pk}(h:(K1 qs ks != 0|| !pkV x)=false)(h2:((qs.length:Int)==4096)=false):KX qs ks x=0:=by unfold KX;rw [h,h2];rfl
def zhY (I:Qv)(e:Int)(a:Option Addr)(m c:Nat)(a2:Option Addr)(m2 c2:Nat)(qs:List Pk)(aa:Option Addr)(an ac:Nat):Prop:=
 (e≠0∧a=none∧m=0∧c=0∧a2=none∧m2=0∧c2=0)∨(e=0∧a2=aa∧m2=an∧c2=ac∧Sl I 3 ZQ a m c qs)
theorem zhY.mono {I I':Qv}{e:Int}{a a2 aa:Option Addr}{m c m2 c2 an ac:Nat}{qs:List Pk}(h:zhY I e a m c a2 m2 c2 qs aa an ac)(hI:HLe I I'):zhY I' e a m c a2 m2 c2 qs aa an ac:=h.imp id fun ⟨h1,h2,h3,h4,h5⟩=>⟨h1,h2,h3,h4,h5.mono hI⟩
theorem W7 {I:Qv}{e:Int}{aa:Option Addr}{an ac:Nat}{qs:List Pk}(h:e≠0):zhY I e none 0 0 none 0 0 qs aa an ac:=.inl ⟨h,rfl,rfl,rfl,rfl,rfl,rfl⟩
theorem zdh {I:Qv}{e:Int}{a aa:Option Addr}{m c an ac:Nat}{qs:List Pk}(h:e=0)(hS:Sl I 3 ZQ a m c qs):zhY I e a m c aa an ac qs aa an ac:=.inr ⟨h,rfl,rfl,rfl,hS⟩
def UD (qs:List Pk)(ks:List (Int×Int))(i:Int):Int:=if atE qs ks i=0 then KX qs ks (atP qs ks i) else atE qs ks i
def V8 (qs:List Pk)(ks:List (Int×Int))(i:Int):Pk:=if zoH ks (atP qs ks i)=true then za1 else atP qs ks i
theorem zmO {qs:List Pk}{ks:List (Int×Int)}{i:Int}(h:zoH ks (atP qs ks i)=true):V8 qs ks i=za1:=if_pos h
theorem zql {qs:List Pk}{ks:List (Int×Int)}{i:Int}(h:zoH ks (atP qs ks i)=false):V8 qs ks i=atP qs ks i:=if_neg (by rw [h];simp)
theorem zhY.ok {I:Qv}{e:Int}{a a2 aa:Option Addr}{m c m2 c2 an ac:Nat}{qs:List Pk}(h:zhY I e a m c a2 m2 c2 qs aa an ac)(he:e=0):a2=aa∧m2=an∧c2=ac∧Sl I 3 ZQ a m c qs:=by
 rcases h with ⟨h,_⟩ | ⟨_,h⟩
 ·
  exact absurd he h
 ·
  exact h
structure Ev where
 kind:Int
 peer:Int
 to_:Int
 at_:Int
 note:Nt
def zav (x:Ev):List Value:=.int .i64 x.kind:: .int .i64 x.peer:: .int .i64 x.to_:: .int .i64 x.at_::Zn x.note
theorem znP (x:Ev):(zav x).length=49:=rfl
end
section
open Go Go.Kn Go.Proofs
theorem zrc:AgT Tryz.prog 180 2:=.of (by kernel_rfl)
theorem VU:AgT Tryz.prog 99 3:=.of (by kernel_rfl)
theorem zbu:ArT Tryz.prog 180 2 3 1:=.of (by kernel_rfl)
theorem X0:QQ Tryz.prog 99 0 0:=.of (by kernel_rfl)
theorem WB:QQ Tryz.prog 99 1 1:=.of (by kernel_rfl)
theorem XT:QQ Tryz.prog 99 2 2:=.of (by kernel_rfl)
theorem ziC:Fun Tryz.prog 125:=.of Tryz.func125 (by kernel_rfl) (by kernel_rfl)
theorem zco:Fun Tryz.prog 126:=.of Tryz.func126 (by kernel_rfl) (by kernel_rfl)
theorem zlR:Fun Tryz.prog 179:=.of Tryz.func179 (by kernel_rfl) (by kernel_rfl)
theorem zrS:Fun Tryz.prog 182:=.of Tryz.func182 (by kernel_rfl) (by kernel_rfl)
theorem Zl:SlT Tryz.prog 23 99 3:=.of (by kernel_rfl)
theorem zpB:SzT Tryz.prog 180 2:=.of (by kernel_rfl)
theorem zoU:Vf Tryz.prog 180 (.agg #[(.int .i64 0),(.int .i64 0)]):=.of (by kernel_rfl)
theorem zek (I:Qv)(a b:Int):Yc Tryz.prog 179 [.int .i64 a,.int .i64 b] I (.agg #[.int .i64 (zoN a b),.int .i64 (zd4 a b)]):=by
 intro g H w hw
 refine qe Tryz.func179 Tryz.ntmps179 hw ?_
 refine zR ?_
 refine Qt zoU rfl rfl (fun b_4=>?_)
 refine zN (zR ?_)
 refine zM ?_
 refine zM ?_
 refine zV (ztO rfl rfl) ?_
 refine zM ?_
 refine zM ?_
 refine zV (Vo rfl rfl) ?_
 refine zV (Vp (ps:=[(0,_),(1,_)]) [_,_] zbu zoU rfl rfl) ?_
 refine zh zpB ?_
 refine zN (QF ?_)
 exact Y7 rfl rfl zrc zxb rfl (fun w hw=>⟨by rfl,hw.drop⟩)
theorem znY (I:Qv)(a b:Int):Yc Tryz.prog 126 [.agg #[.int .i64 a,.int .i64 b]] I (.bool (lkV a b)):=by
 intro g H w hw
 refine qe Tryz.func126 Tryz.ntmps126 hw ?_
 refine zR ?_
 refine Zh rfl rfl rfl (fun b_1=>?_)
 refine zA ?_
 refine zN (zR ?_)
 refine zV (ZZ rfl rfl zbu (fun hg=>by decide)) ?_
 refine zL QA ?_
 refine zC ?_
 refine zM ?_
 refine QL 3 rfl rfl rfl ?_
 refine zK (ZZ rfl rfl zbu (fun hg=>by decide)) ?_
 refine zK (Qd rfl QA (fun hg=>by exact QG.h0 rfl)) ?_
 refine zK (ZZ rfl rfl zbu (fun hg=>by decide)) ?_
 refine zK (Qd rfl QA (fun hg=>by exact QG.h0 rfl)) ?_
 refine zK (QT rfl rfl rfl) ?_
 refine QW rfl rfl rfl rfl rfl ?_
 refine zM ?_
 refine QL 10 rfl rfl rfl ?_
 refine zK (ZZ rfl rfl zbu (fun hg=>by decide)) ?_
 refine zK (Qd rfl QA (fun hg=>by exact QG.h0 rfl)) ?_
 refine zK (QT rfl rfl rfl) ?_
 refine QW rfl rfl rfl rfl rfl ?_
 refine zA (zN (QF ?_))
 exact zr rfl rfl (by rfl)
theorem zgP (I:Qv)(x:Pk):Yc Tryz.prog 125 [WG x] I (.bool (pkV x)):=by
 intro g H w hw
 refine qe Tryz.func125 Tryz.ntmps125 hw ?_
 refine zR ?_
 refine Zh rfl rfl rfl (fun b_1=>?_)
 refine zA ?_
 refine zN (zR ?_)
 refine zF X0 ?_
 refine zL QA ?_
 refine zF WB ?_
 refine zL QA ?_
 refine qcV (vs:=[_,_]) rfl zlR (zek _ _ _) ?_
 refine qcV (vs:=[_]) rfl zco (znY _ _ _) ?_
 refine zM ?_
 refine QL 6 rfl rfl rfl ?_
 refine zK (Qa rfl XT) ?_
 refine zK (Qd rfl UH (fun hg=>by exact QG.h0 rfl)) ?_
 refine zK (Q9 rfl JT) ?_
 refine zK (QT rfl rfl rfl) ?_
 refine QW rfl rfl rfl rfl rfl ?_
 refine zA (zN (QF ?_))
 exact zr rfl rfl (by rfl)
theorem zpT (I:Qv)(x:Pk):Yc Tryz.prog 124 [WG x] I (.bool (!pkV x)):=by
 intro g H w hw
 refine qe Tryz.func124 Tryz.ntmps124 hw ?_
 refine zR ?_
 refine Zh rfl rfl rfl (fun b_1=>?_)
 refine zA ?_
 refine zN (zR ?_)
 refine zV (Qg rfl VU (fun hg=>by exact Cells.g0) rfl) ?_
 refine qcV (vs:=[_]) rfl ziC (zgP _ x) ?_
 refine zO ?_
 refine zA (zN (QF ?_))
 exact zr rfl rfl (by rfl)
theorem zuA {I:Qv}{av:Option Addr}{n c:Nat}{xs:List Pk}(hS:Sl I 3 ZQ av n c xs)(hn:n≤100000){fid:Nat}{cap:List Value}{P:Pk→Bool}(hF:Fun Tryz.prog fid)(hf:∀ x∈xs,Yc Tryz.prog fid ([WG x]++cap) I (.bool (P x))):Yc Tryz.prog 182 [.slice av n c,.func (.func fid) #[] cap.toArray] I (.int .i64 (zl8 P xs)):=by
 intro g H w hw
 refine qe Tryz.func182 Tryz.ntmps182 hw ?_
 refine zR (zA (zN (Qq (zR ?_))))
 refine zM ?_
 refine zQ Zl ?_
 refine zM (zN (QD ?_))
 refine zU [(0,_),(1,_),(7,_)] (fun T L0 mz E I' loc'=>∃ (k:Nat),mz=n-k∧E=(8,.int .i64 k)::T∧I=I'∧L0=loc'∧k≤n∧(xs.take k).any P=false) ?_ (h:=⟨0,rfl,rfl,rfl,rfl,Nat.zero_le _,rfl⟩)
 rintro mz E I' loc' ⟨k,rfl,rfl,rfl,rfl,hk,hno⟩
 refine zR (zC (zN (Qq ?_)))
 refine zI ?_ ?_<;>intro hc9
 ·
  have hlt_k:k<n:=by have h:=hc9;simp at h;omega
  obtain ⟨x,hx⟩:=hS.at hlt_k
  refine Qw (Qc (Qq (QD (zR (zM ?_)))))
  refine zA ?_
  refine zN (zR ?_)
  refine zM ?_
  refine zM ?_
  refine zM ?_
  refine zV (QV rfl rfl Zl (by assumption) (fun hg=>by omega)) ?_
  refine zV (Qg rfl VU (fun hg=>by exact zxe hS hx) rfl) ?_
  refine zaw (cap:=cap) (vs:=[_]) rfl rfl hF (hf x (List.mem_of_getElem? hx)) rfl rfl ?_
  refine zN ?_
  refine zI ?_ ?_<;>intro hc16
  ·
   refine zR (zM ?_)
   refine zA (zN (QF (Qz (Qi (Qi (Qz (Qi ?_)))))))
   exact zr rfl rfl (by rw [zeV hno hx hc16])
  refine Qw (Qn (Qc (Qk (zB ?_))))
  refine zM (Qb ?_)
  exact zm (h:=⟨n-(k+1),by omega,k+1,rfl,rfl,rfl,rfl,by omega,zbW hx hno hc16⟩)
 have hge_k:n≤k:=by have h:=hc9;simp at h;omega
 refine Zy (Qs (Qs (QB (Qc (zR (zA (zN ?_)))))))
 refine QF ?_
 exact zr rfl rfl (by rw [zcy hS.len hge_k hno])
theorem ztN {I:Qv}{av:Option Addr}{n c:Nat}{xs:List Pk}(hS:Sl I 3 ZQ av n c xs)(hn:n≤100000){fid:Nat}{cap:List Value}{P:Pk→Bool}(hF:Fun Tryz.prog fid)(hf:∀ x∈xs,Yc Tryz.prog fid ([WG x]++cap) I (.bool (P x))):Yc Tryz.prog 123 [.slice av n c,.func (.func fid) #[] cap.toArray] I (.bool (xs.any P)):=by
 intro g H w hw
 refine qe Tryz.func123 Tryz.ntmps123 hw ?_
 refine zR (zA ?_)
 refine zN (zR ?_)
 refine zM ?_
 refine zM ?_
 refine qcV (vs:=[_,_]) rfl zrS (zuA hS hn hF hf) ?_
 refine zC ?_
 refine zA (zN (QF ?_))
 exact zr rfl rfl (by rw [←zfQ])
theorem zt8 {I:Qv}{av bv:Option Addr}{n c m d:Nat}{xs ys:List Int}(hS:Sl I 1 Yk av n c xs)(hT:Sl I 1 Yk bv m d ys)(hn:n≤100000)(hm:m≤100000):Yc Tryz.prog 127 [.slice av n c,.slice bv m d] I (.int .i64 (Ug xs ys)):=by
 intro g H w hw
 refine qe Tryz.func127 Tryz.ntmps127 hw ?_
 have hln:=hS.len
 have hlm:=hT.len
 refine zR (zA (zN (Qq (zR ?_))))
 refine zM ?_
 refine zQ Yo ?_
 refine zM (zN (QD ?_))
 refine zU [(0,_),(1,_),(9,_),(10,_)] (fun T L0 mz E I' loc'=>∃ (k:Nat),mz=n-k∧E=(11,.int .i64 k)::T∧I=I'∧L0=loc'∧k≤n∧Ug xs ys=Ug (xs.drop k) (ys.drop k)) ?_ (h:=⟨0,rfl,rfl,rfl,rfl,Nat.zero_le _,rfl⟩)
 rintro mz E I' loc' ⟨k,rfl,rfl,rfl,rfl,hk,hI⟩
 refine zR (zC (zN (Qq ?_)))
 refine zI ?_ ?_<;>intro hc12
 ·
  have hlt_k:k<n:=by have h:=hc12;simp at h;omega
  obtain ⟨x,hx⟩:=hS.at hlt_k
  refine Qw (Qc (Qq (QD (zR (zM ?_)))))
  refine zV (zX Yo hS) ?_
  refine zV (Qd rfl QA (fun hg=>by exact zw6 hS hx rfl)) ?_
  refine zA ?_
  refine zA (zN (Qq (zR ?_)))
  refine zM ?_
  refine zM ?_
  refine zQ Yo ?_
  refine zC (zN ?_)
  refine zI ?_ ?_<;>intro hc19
  ·
   have h19:m≤k:=by have h:=hc19;simp at h;omega
   refine zR (zA (zN (QF (Qi (Qz (Qi (Qi ?_)))))))
   refine Qz (Qi ?_)
   exact zr rfl rfl (by rw [hI,zne hx (by omega)])
  have h19:k<m:=by have h:=hc19;simp at h;omega
  obtain ⟨y,hy⟩:=hT.at h19
  refine Qw (Qc (zR (zM ?_)))
  refine zM ?_
  refine zV (zX Yo hT) ?_
  refine zV (Qd rfl QA (fun hg=>by exact zw6 hT hy rfl)) ?_
  refine zA ?_
  refine zN (zR ?_)
  refine zM ?_
  refine zM ?_
  refine qcV (vs:=[_,_]) rfl zj5 (zps I _ _) ?_
  refine zA ?_
  refine zN (zR ?_)
  refine zM ?_
  refine zC (zN ?_)
  refine zI ?_ ?_<;>intro hc28
  ·
   refine zR (zM ?_)
   refine zA (zN (QF (Qz (Qi (Qi (Qz (Qi ?_)))))))
   exact zr rfl rfl (by rw [hI,zjH hx hy (by simpa using hc28)])
  refine Qw (Qn (Qc (Qk (zB ?_))))
  refine zM (Qb ?_)
  exact zm (h:=⟨n-(k+1),by omega,k+1,rfl,rfl,rfl,rfl,by omega,hI.trans (zhx hx hy (by simpa using hc28))⟩)
 have hge_k:n≤k:=by have h:=hc12;simp at h;omega
 refine Zy (Qs (Qs (QB (Qc (Qq (zR (zM ?_)))))))
 refine zQ Yo ?_
 refine zM ?_
 refine zQ Yo ?_
 refine zC (zN ?_)
 refine zI ?_ ?_<;>intro hc35
 ·
  have h35:n<m:=by have h:=hc35;simp at h;omega
  refine zR (zA (zN (QF (Qi ?_))))
  exact zr rfl rfl (by rw [hI,znD (by omega) (by omega)])
 have h35:m≤n:=by have h:=hc35;simp at h;omega
 refine Qw (Qc (zR (zA (zN (QF ?_)))))
 exact zr rfl rfl (by rw [hI,zl2 (by omega) (by omega)])
end
section
open Go Go.Kn Go.Proofs
theorem UT:AgT Tryz.prog 179 2:=.of (by kernel_rfl)
theorem ziQ:ArT Tryz.prog 179 2 3 1:=.of (by kernel_rfl)
theorem Zk:QQ Tryz.prog 26 0 0:=.of (by kernel_rfl)
theorem zcR:QQ Tryz.prog 26 1 1:=.of (by kernel_rfl)
theorem zqn:Fun Tryz.prog 123:=.of Tryz.func123 (by kernel_rfl) (by kernel_rfl)
theorem zrm:Fun Tryz.prog 124:=.of Tryz.func124 (by kernel_rfl) (by kernel_rfl)
theorem zrT:Fun Tryz.prog 127:=.of Tryz.func127 (by kernel_rfl) (by kernel_rfl)
theorem Zq:ScT Tryz.prog 23:=.of (by kernel_rfl)
theorem zki:ScT Tryz.prog 24:=.of (by kernel_rfl)
theorem zee:SlT Tryz.prog 24 179 2:=.of (by kernel_rfl)
theorem zqV:SzT Tryz.prog 179 2:=.of (by kernel_rfl)
theorem ztE:Vf Tryz.prog 179 (.agg #[(.int .i64 0),(.int .i64 0)]):=.of (by kernel_rfl)
theorem zlq {I:Qv}{qa aa:Option Addr}{qn qc an ac:Nat}{qs:List Pk}{ks:List (Int×Int)}(hQ:Sl I 3 ZQ qa qn qc qs)(hqn:qn≤100000)(hA:Sl I 2 Ky aa an ac ks)(han:an≤100000):Yc Tryz.prog 60 [.agg #[.slice qa qn qc,.slice aa an ac]] I (.int .i64 (K1 qs ks)):=by
 intro g H w hw
 refine qe Tryz.func60 Tryz.ntmps60 hw ?_
 have hIc:=zxd I
 have hlq:=hQ.len
 have hla:=hA.len
 refine zR ?_
 refine Zh rfl rfl rfl (fun b_1=>?_)
 refine zA (Qb ?_)
 refine QO .here (fun I1 hI1 hb1=>?_)
 have hQ:=hQ.mono hI1;have hA:=hA.mono hI1;have hIc:=hIc.trans hI1
 have h1:=BxI.of hb1
 refine Qc (Qq (zR ?_))
 refine zF Zk ?_
 refine zV (Qd rfl Zq (fun hg=>by exact QG.imm h1.out rfl)) ?_
 refine zQ Zl ?_
 refine zC ?_
 refine zM ?_
 refine Ze 4 rfl rfl rfl ?_
 refine zJ (Qa rfl Zk) ?_
 refine zJ (Qd rfl Zq (fun hg=>by exact QG.imm h1.out rfl)) ?_
 refine qf (vs:=[_,_]) rfl zqn (fun hg=>ztN (P:=fun x=> !pkV x) hQ hqn zrm (cap:=[]) (fun x _=>zpT _ x)) ?_
 refine ZP rfl rfl rfl rfl rfl ?_
 refine zN ?_
 refine zI ?_ ?_<;>intro hc13
 ·
  have h13:(decide ((qs.length:Int)>4096)||qs.any (fun x=> !pkV x))=true:=by rw [hlq];exact hc13
  refine zR (zA (zN (QF (Qi ?_))))
  exact zp hIc rfl rfl (by rw [zn7 h13])
 have h13:(decide ((qs.length:Int)>4096)||qs.any (fun x=> !pkV x))=false:=by rw [hlq];exact hc13
 refine Qw (Qc (Qq (zR ?_)))
 refine zF zcR ?_
 refine zV (Qd rfl zki (fun hg=>by exact QG.imm h1.out rfl)) ?_
 refine zQ zee ?_
 refine zM (zN (QD ?_))
 refine zU [(1,_),(15,_),(16,_)] (fun T L0 mz E I' loc'=>∃ (k:Nat),mz=an-k∧E=(17,.int .i64 k)::T∧HLe I1 I'∧L0=loc'∧k≤an∧(∀ j y,j<k→ks[j]? =some y→zgB (ks.take j) y=false)) ?_ (h:=⟨0,rfl,rfl,zxd _,rfl,Nat.zero_le _,fun j y h=>absurd h (Nat.not_lt_zero _)⟩)
 rintro mz E J2 loc' ⟨k,rfl,rfl,hJ,rfl,hk,hall⟩
 have hA:=hA.mono hJ;have h1:=h1.mono hJ;have hIc:=hIc.trans hJ
 have hB0:=hJ
 refine zR (zC (zN (Qq ?_)))
 refine zI ?_ ?_<;>intro hc18
 ·
  have hlt_k:k<an:=by have h:=hc18;simp at h;omega
  obtain ⟨x,hx⟩:∃ x,ks[k]? =some x:=⟨_,List.getElem?_eq_getElem (by omega)⟩
  refine Qw (Qc (Qq (QD (zR (zM ?_)))))
  refine zV (zX zee hA) ?_
  refine zV (Qg rfl UT (fun hg=>by exact zxe hA hx) rfl) ?_
  refine Qt ztE rfl rfl (fun b_4=>?_)
  refine zA ?_
  refine zh zqV ?_
  refine Qb ?_
  refine QO .here (fun I3 hI3 hb3=>?_)
  have hA:=hA.mono hI3;have h1:=h1.mono hI3;have hIc:=hIc.trans hI3;have hB0:=hB0.trans hI3
  have h4:=BxI.of hb3
  refine Qc (Qq ?_)
  rcases (show lkV x.1 x.2=false∨(lkV x.1 x.2=true∧k=0)∨(lkV x.1 x.2=true∧0<k) by cases lkV x.1 x.2<;>simp<;>omega) with hf | ⟨hf,hk⟩ | ⟨hf,hk⟩
  ·
   have hD:=zxd I3
   refine ZL ?_
   refine Q0 I3 [] mixed ?_
   refine zT 0 rfl (Qg rfl UT (fun hg=>by exact BxI.cells (vs:=Ky x) h4) rfl) hD ?_
   refine qd 1 rfl ?_
   refine qcV (vs:=[_]) rfl zco (znY _ x.1 x.2) ?_
   refine Qb ?_
   refine zD hD ?_
   refine zT 2 rfl (Yz rfl) hD ?_
   rw [hf]
   refine zT 3 rfl (Qh rfl) hD ?_
   refine zW 4 25 hD ?_
   refine zW 5 25 hD ?_
   refine zW 6 25 hD ?_
   refine zW 7 28 hD ?_
   refine zW 8 28 hD ?_
   refine zW 9 28 hD ?_
   refine zW 10 28 hD ?_
   refine zW 11 28 hD ?_
   refine zW 12 28 hD ?_
   refine zW 13 28 hD ?_
   refine zW 14 28 hD ?_
   refine zW 15 28 hD ?_
   refine zW 16 25 hD ?_
   refine zT 17 rfl (Kl rfl rfl rfl) hD ?_
   refine Qm (by kernel_rfl) ?_
   refine Qy ?_
   refine Qc ?_
   refine zI ?_ ?_<;>intro hc39
   ·
    have hbad:=zkZ (pre:=ks.take k) hf
    refine zR (zA (zN (QF (Qz (Qi (Qi (Qz ?_)))))))
    refine Qi ?_
    exact zp hIc rfl rfl (by rw [zgv h13 hx hbad])
   cases hc39
  ·
   have hk0:decide ((k:Int)>0)=false:=by simp;omega
   have hD:=zxd I3
   refine ZL ?_
   refine Q0 I3 [] mixed ?_
   refine zT 0 rfl (Qg rfl UT (fun hg=>by exact BxI.cells (vs:=Ky x) h4) rfl) hD ?_
   refine qd 1 rfl ?_
   refine qcV (vs:=[_]) rfl zco (znY _ x.1 x.2) ?_
   refine Qb ?_
   refine zD hD ?_
   refine zT 2 rfl (Yz rfl) hD ?_
   rw [hf]
   refine zT 3 rfl (Qh rfl) hD ?_
   refine zw 4 25 rfl (Qh rfl) hD ?_
   refine zw 5 25 rfl (QT rfl rfl rfl) hD ?_
   rw [hk0]
   refine zw 6 25 rfl (Qh rfl) hD ?_
   refine zW 7 28 hD ?_
   refine zW 8 28 hD ?_
   refine zW 9 28 hD ?_
   refine zW 10 28 hD ?_
   refine zW 11 28 hD ?_
   refine zW 12 28 hD ?_
   refine zW 13 28 hD ?_
   refine zW 14 28 hD ?_
   refine zW 15 28 hD ?_
   refine zw 16 25 rfl (Kl rfl rfl rfl) hD ?_
   refine zT 17 rfl (Zv rfl rfl rfl) hD ?_
   refine Qm (by kernel_rfl) ?_
   refine Qy ?_
   refine Qc ?_
   refine zI ?_ ?_<;>intro hc39
   ·
    cases hc39
   have hbad:zgB (ks.take k) x=false:=by rw [hk];exact zmT hf
   refine Qw (Qn (Qc (Qk (zB ?_))))
   refine zM (Qb ?_)
   exact zm (h:=⟨an-(k+1),by omega,k+1,rfl,rfl,hB0,rfl,by omega,KO hx hall hbad⟩)
  have hk0:decide ((k:Int)>0)=true:=by simp;omega
  obtain ⟨y,hy⟩:∃ y,ks[((k:Int)-1).toNat]? =some y:=⟨_,List.getElem?_eq_getElem (by omega)⟩
  have hB:Sl I3 1 Yk (some ⟨b_4,0,none⟩) 2 2 [x.1,x.2]:=Sl.lit [x.1,x.2] rfl Zx h4.out
  have hD:=zxd I3
  refine ZL ?_
  refine Q0 I3 [] mixed ?_
  refine zT 0 rfl (Qg rfl UT (fun hg=>by exact BxI.cells (vs:=Ky x) h4) rfl) hD ?_
  refine qd 1 rfl ?_
  refine qcV (vs:=[_]) rfl zco (znY _ x.1 x.2) ?_
  refine Qb ?_
  refine zD hD ?_
  refine zT 2 rfl (Yz rfl) hD ?_
  rw [hf]
  refine zT 3 rfl (Qh rfl) hD ?_
  refine zw 4 25 rfl (Qh rfl) hD ?_
  refine zw 5 25 rfl (QT rfl rfl rfl) hD ?_
  rw [hk0]
  refine zw 6 25 rfl (Qh rfl) hD ?_
  refine zw 7 28 rfl (Qa rfl zcR) hD ?_
  refine zw 8 28 rfl (Qd rfl zki (fun hg=>by exact QG.imm h1.out rfl)) hD ?_
  refine zw 9 28 rfl (Qh rfl) hD ?_
  refine zw 10 28 rfl (VO rfl rfl rfl (fun hg=>by omega)) hD ?_
  refine zw 11 28 rfl (zX zee hA) hD ?_
  refine zw 12 28 rfl (zaR rfl ziQ) hD ?_
  refine zw 13 28 rfl (zaR rfl ziQ) hD ?_
  refine qd 14 rfl ?_
  refine Q6 (dj:=28) rfl rfl rfl ?_
  refine qcV (vs:=[_,_]) rfl zrT (zt8 (zpC hA hy) hB (by decide) (by decide)) ?_
  refine Qb ?_
  refine zD hD ?_
  refine zw 15 28 rfl (QT rfl rfl rfl) hD ?_
  refine zw 16 25 rfl (Zv rfl rfl rfl) hD ?_
  refine zT 17 rfl (Zv rfl rfl rfl) hD ?_
  refine Qm (by kernel_rfl) ?_
  refine Qy ?_
  refine Qc ?_
  refine zI ?_ ?_<;>intro hc39
  ·
   have hbad:zgB (ks.take k) x=true:=(zdy hf hk hy).trans hc39
   refine zR (zA (zN (QF (Qz (Qi (Qi (Qz ?_)))))))
   refine Qi ?_
   exact zp hIc rfl rfl (by rw [zgv h13 hx hbad])
  have hbad:zgB (ks.take k) x=false:=(zdy hf hk hy).trans hc39
  refine Qw (Qn (Qc (Qk (zB ?_))))
  refine zM (Qb ?_)
  exact zm (h:=⟨an-(k+1),by omega,k+1,rfl,rfl,hB0,rfl,by omega,KO hx hall hbad⟩)
 have hge_k:an≤k:=by have h:=hc18;simp at h;omega
 refine Zy (Qs (Qs (QB (Qc (zR (zA (zN ?_)))))))
 refine QF ?_
 exact zp hIc rfl rfl (by rw [zke h13 (fun j y hj hy=>hall j y (by omega) hy)])
end
section
open Go Go.Kn Go.Proofs
theorem Z5:AgT Tryz.prog 26 2:=.of (by kernel_rfl)
theorem ziI:Fun Tryz.prog 60:=.of Tryz.func60 (by kernel_rfl) (by kernel_rfl)
theorem Jo:SzT Tryz.prog 99 3:=.of (by kernel_rfl)
theorem zbA:Vf Tryz.prog 99 (.agg #[(.int .i64 0),(.int .i64 0),(.slice none 0 0)]):=.of (by kernel_rfl)
theorem zvQ {I:Qv}{qa aa:Option Addr}{qn qc an ac:Nat}{qs:List Pk}{ks:List (Int×Int)}(hQ:Sl I 3 ZQ qa qn qc qs)(hqn:qn≤100000)(hA:Sl I 2 Ky aa an ac ks)(han:an≤100000)(i:Int):Yc Tryz.prog 177 [.agg #[.slice qa qn qc,.slice aa an ac],.int .i64 i] I (.tuple #[WG (atP qs ks i),.int .i64 (atE qs ks i)]):=by
 intro g H w hw
 refine qe Tryz.func177 Tryz.ntmps177 hw ?_
 have hlq:=hQ.len
 refine zR ?_
 refine Zh rfl rfl rfl (fun b_2=>?_)
 refine Qt zbA rfl rfl (fun b_4=>?_)
 refine zA (zN (Qq (zR ?_)))
 refine zV (Qg rfl Z5 (fun hg=>by exact Cells.g1) rfl) ?_
 refine qcV (vs:=[_]) rfl ziI (zlq hQ hqn hA han) ?_
 refine zC (zN ?_)
 refine zI ?_ ?_<;>intro hc8
 ·
  have h1:=zwZ (i:=i) hc8
  refine zR ?_
  refine zV (Qg rfl VU (fun hg=>by exact Cells.g0) rfl) ?_
  refine zh Jo ?_
  refine zA (zN (QF (Qi ?_)))
  first
  | exact Z1 rfl rfl rfl VU zxb rfl (fun w hw=>⟨by rw [h1.1,h1.2];rfl,hw.drop.drop⟩)
 refine Qw (Qc (Qq (zR (zM ?_))))
 refine zC ?_
 refine zM ?_
 refine Ze 2 rfl rfl rfl ?_
 refine zJ (Qh rfl) ?_
 refine zJ (Qa rfl Zk) ?_
 refine zJ (Qd rfl Zq (fun hg=>by exact QG.h1 rfl)) ?_
 refine zJ (Q9 rfl Zl) ?_
 refine zJ (QT rfl rfl rfl) ?_
 refine ZP rfl rfl rfl rfl rfl ?_
 refine zN ?_
 refine zI ?_ ?_<;>intro hc18
 ·
  have h2:=zwY (i:=i) (ks:=ks) hc8 (by rw [hlq];exact hc18)
  refine zR ?_
  refine zV (Qg rfl VU (fun hg=>by exact Cells.g0) rfl) ?_
  refine zh Jo ?_
  refine zA (zN (QF (Qi ?_)))
  first
  | exact Z1 rfl rfl rfl VU zxb rfl (fun w hw=>⟨by rw [h2.1,h2.2];rfl,hw.drop.drop⟩)
 have h18:0≤i∧i<(qn:Int):=by have h:=hc18;simp at h;omega
 obtain ⟨x,hx⟩:∃ y,qs[i.toNat]? =some y:=⟨_,List.getElem?_eq_getElem (by omega)⟩
 have h3:=zwc (i:=i) (ks:=ks) hc8 (by rw [hlq];exact hc18) hx
 refine Qw (Qc (zR ?_))
 refine zF Zk ?_
 refine zL Zq ?_
 refine zM ?_
 refine zV (zX Zl hQ) ?_
 refine zV (Qg rfl VU (fun hg=>by exact zxe hQ hx) rfl) ?_
 refine zh Jo ?_
 refine zA (zN (QF ?_))
 first
 | exact Z1 rfl rfl rfl VU zxb rfl (fun w hw=>⟨by rw [h3.1,h3.2];rfl,hw.drop.drop⟩)
end
section
open Go Go.Kn Go.Proofs
theorem Z8:ElT Tryz.prog 23 99 3 40:=.of (by kernel_rfl)
theorem Y4:SzT Tryz.prog 23 1:=.of (by kernel_rfl)
theorem YB:SzT Tryz.prog 26 2:=.of (by kernel_rfl)
theorem K4:Vf Tryz.prog 26 (.agg #[(.slice none 0 0),(.slice none 0 0)]):=.of (by kernel_rfl)
theorem zak {I:Qv}{qa aa:Option Addr}{qn qc an ac:Nat}{qs:List Pk}{ks:List (Int×Int)}(hQ:Sl I 3 ZQ qa qn qc qs)(hqn:qn≤100000)(hA:Sl I 2 Ky aa an ac ks)(han:an≤100000){i:Int}(hi:0≤i∧i<(qn:Int)):Vi Tryz.prog 180 [.agg #[.slice qa qn qc,.slice aa an ac],.int .i64 i] I [] (fun v I' L'=>∃ a m c,v= .agg #[.slice a m c,.slice aa an ac]∧m+1=qn∧Sl I' 3 ZQ a m c (qs.eraseIdx i.toNat)∧L'=[]):=by
 intro g H w hw
 refine qe Tryz.func180 Tryz.ntmps180 hw ?_
 have hIc:=zxd I
 have hlq:=hQ.len
 have hcq:=hQ.cap
 refine zR ?_
 refine Zh rfl rfl rfl (fun b_2=>?_)
 refine Qt K4 rfl rfl (fun b_4=>?_)
 refine zN (Qq ?_)
 have hD:=zxd I
 refine ZL ?_
 refine Q0 I [] mixed ?_
 refine zT 0 rfl (Qa rfl Zk) hD ?_
 refine zT 2 rfl (Qh rfl) hD ?_
 refine zT 3 rfl (Qh rfl) hD ?_
 refine zT 5 rfl (Qa rfl Zk) hD ?_
 refine zT 7 rfl (Qh rfl) hD ?_
 refine zT 8 rfl (VO rfl rfl rfl (fun hg=>by omega)) hD ?_
 refine Q8 1 6 rfl rfl (by kernel_rfl) ?_ ?_
 ·
  refine zL Zq ?_
  refine Qb ?_
  refine zD hD ?_
  refine zT 4 rfl (ZC rfl rfl rfl Zl (fun hg=>by omega)) hD ?_
  refine qd 6 rfl ?_
  refine zL Zq ?_
  refine Qb ?_
  refine zD hD ?_
  refine zT 9 rfl (Vg rfl rfl Zl (fun hg=>by omega)) hD ?_
  refine qd 10 rfl ?_
  refine Xp Zi (by decide) rfl rfl Z8 ((hQ.take (k:=i.toNat) (by omega)).cut) (hQ.drop (k:=(i+1).toNat) (by omega)) (by omega) rfl rfl ?_
  intro I1 ac cc hI1 hZ
  have hIc:=hIc.trans hI1;have hD:=hD.trans hI1
  refine Qb ?_
  refine zD hD ?_
  refine zT 11 rfl (Qa rfl Zk) hD ?_
  refine qd 12 rfl ?_
  refine zS Y4 ?_
  refine Qb ?_
  refine zD hD ?_
  refine Qm (by kernel_rfl) ?_
  refine Qy ?_
  refine Qc (zR ?_)
  refine zV (Qg rfl Z5 (fun hg=>by exact Cells.g1) rfl) ?_
  refine zh YB ?_
  refine zN (QF ?_)
  exact Y7 rfl rfl Z5 zxb rfl (fun w hw=>⟨_,I1,[],rfl,hIc,hw.drop.drop,_,_,_,rfl,by omega,by rw [List.eraseIdx_eq_take_drop_succ,show i.toNat+1=(i+1).toNat by omega];exact hZ,rfl⟩)
 refine zL Zq ?_
 refine Qb ?_
 refine zD hD ?_
 refine zT 9 rfl (Vg rfl rfl Zl (fun hg=>by omega)) hD ?_
 refine qd 1 rfl ?_
 refine zL Zq ?_
 refine Qb ?_
 refine zD hD ?_
 refine zT 4 rfl (ZC rfl rfl rfl Zl (fun hg=>by omega)) hD ?_
 refine qd 10 rfl ?_
 refine Xp Zi (by decide) rfl rfl Z8 ((hQ.take (k:=i.toNat) (by omega)).cut) (hQ.drop (k:=(i+1).toNat) (by omega)) (by omega) rfl rfl ?_
 intro I2 ac cc hI2 hZ
 have hIc:=hIc.trans hI2;have hD:=hD.trans hI2
 refine Qb ?_
 refine zD hD ?_
 refine zT 11 rfl (Qa rfl Zk) hD ?_
 refine qd 12 rfl ?_
 refine zS Y4 ?_
 refine Qb ?_
 refine zD hD ?_
 refine Qm (by kernel_rfl) ?_
 refine Qy ?_
 refine Qc (zR ?_)
 refine zV (Qg rfl Z5 (fun hg=>by exact Cells.g1) rfl) ?_
 refine zh YB ?_
 refine zN (QF ?_)
 exact Y7 rfl rfl Z5 zxb rfl (fun w hw=>⟨_,I2,[],rfl,hIc,hw.drop.drop,_,_,_,rfl,by omega,by rw [List.eraseIdx_eq_take_drop_succ,show i.toNat+1=(i+1).toNat by omega];exact hZ,rfl⟩)
end
section
open Go Go.Kn Go.Proofs
theorem zfo:Fun Tryz.prog 177:=.of Tryz.func177 (by kernel_rfl) (by kernel_rfl)
theorem zfd:Fun Tryz.prog 180:=.of Tryz.func180 (by kernel_rfl) (by kernel_rfl)
theorem zqe:Fun Tryz.prog 228:=.of Tryz.func228 (by kernel_rfl) (by kernel_rfl)
theorem zo3 {I:Qv}{qa aa:Option Addr}{qn qc an ac:Nat}{qs:List Pk}{ks:List (Int×Int)}(hQ:Sl I 3 ZQ qa qn qc qs)(hqn:qn≤100000)(hA:Sl I 2 Ky aa an ac ks)(han:an≤100000)(i:Int):Vi Tryz.prog 114 [.agg #[.slice qa qn qc,.slice aa an ac],.int .i64 i] I [] (fun v I' L'=>∃ a m c a2 m2 c2,v= .tuple #[.agg #[.slice a m c,.slice a2 m2 c2],.int .i64 (atE qs ks i)]∧L'=[]∧zhY I' (atE qs ks i) a m c a2 m2 c2 (qs.eraseIdx i.toNat) aa an ac):=by
 intro g H w hw
 refine qe Tryz.func114 Tryz.ntmps114 hw ?_
 have hIc:=zxd I
 refine zR ?_
 refine Zh rfl rfl rfl (fun b_2=>?_)
 refine Qt K4 rfl rfl (fun b_4=>?_)
 refine zA (zN (Qq (zR ?_)))
 refine zV (Qg rfl Z5 (fun hg=>by exact Cells.g1) rfl) ?_
 refine zM ?_
 refine qcV (vs:=[_,_]) rfl zfo (zvQ hQ hqn hA han i) ?_
 refine zM ?_
 refine zE ?_
 refine zE ?_
 refine zA ?_
 refine zN (zR ?_)
 refine zM ?_
 refine zC (zN ?_)
 refine zI ?_ ?_<;>intro hc13
 ·
  have he:atE qs ks i≠0:=by simpa using hc13
  refine zR ?_
  refine zV (Qg rfl Z5 (fun hg=>by exact Cells.g0) rfl) ?_
  refine zM ?_
  refine zh YB ?_
  refine zA (zN (QF (Qi ?_)))
  exact Z1 rfl rfl rfl Z5 zxb rfl (fun w hw=>⟨_,I,[],rfl,hIc,hw.drop.drop,_,_,_,_,_,_,rfl,rfl,W7 he⟩)
 have he:atE qs ks i=0:=by simpa using hc13
 have hr:0≤i∧i<(qn:Int):=by have h:=zch he;rw [hQ.len] at h;exact h
 refine Qw (Qc (zR ?_))
 refine zV (Qg rfl Z5 (fun hg=>by exact Cells.g1) rfl) ?_
 refine zM ?_
 refine QE (cap:=[]) (vs:=[_,_]) rfl rfl zfd .nil (zak hQ hqn hA han hr) rfl rfl ?_
 rintro vv1 I1 L1 hI1 ⟨a4,m4,c4,rfl,hm4,hZ,rfl⟩
 have hIc:=hIc.trans hI1
 refine zh YB ?_
 refine zA (zN (QF ?_))
 exact Z1 rfl rfl rfl Z5 zxb rfl (fun w hw=>⟨_,I1,[],rfl,hIc,hw.drop.drop,_,_,_,_,_,_,by rw [he],rfl,zdh he hZ⟩)
theorem zvW {I:Qv}{av:Option Addr}{n c:Nat}{ks:List (Int×Int)}(hS:Sl I 2 Ky av n c ks)(hn:n≤100000)(v:Int×Int):Yc Tryz.prog 228 [.slice av n c,.agg #[.int .i64 v.1,.int .i64 v.2]] I (.int .i64 (zl8 (zvm v) ks)):=by
 intro g H w hw
 refine qe Tryz.func228 Tryz.ntmps228 hw ?_
 refine zR ?_
 refine Zh rfl rfl rfl (fun b_3=>?_)
 refine zA (zN (Qq (zR ?_)))
 refine zM ?_
 refine zQ zee ?_
 refine zM (zN (QD ?_))
 refine zU [(0,_),(3,_),(7,_)] (fun T L0 mz E I' loc'=>∃ (k:Nat),mz=n-k∧E=(8,.int .i64 k)::T∧I=I'∧[(b_3,.cells #[.int .i64 v.1,.int .i64 v.2] 179 (0,0))]=loc'∧k≤n∧(ks.take k).any (zvm v)=false) ?_ (h:=⟨0,rfl,rfl,rfl,rfl,Nat.zero_le _,rfl⟩)
 rintro mz E I' loc' ⟨k,rfl,rfl,rfl,rfl,hk,hno⟩
 refine zR (zC (zN (Qq ?_)))
 refine zI ?_ ?_<;>intro hc9
 ·
  have hlt_k:k<n:=by have h:=hc9;simp at h;omega
  obtain ⟨x,hx⟩:=hS.at hlt_k
  refine Qw (Qc (Qq (QD (zR (zM ?_)))))
  refine zA (zN (Qq ?_))
  have hD:=zxd I
  refine ZL ?_
  refine Q0 I [(b_3,.cells #[.int .i64 v.1,.int .i64 v.2] 179 (0,0))] mixed ?_
  refine zT 0 rfl (Qg rfl UT (fun hg=>by exact Cells.g0) rfl) hD ?_
  refine zT 1 rfl (Qh rfl) hD ?_
  refine zT 2 rfl (Qh rfl) hD ?_
  refine zT 3 rfl (zX zee hS) hD ?_
  refine zT 4 rfl (Qg rfl UT (fun hg=>by exact zxe hS hx) rfl) hD ?_
  refine zT 5 rfl (zpX rfl rfl zro) hD ?_
  refine Qm (by kernel_rfl) ?_
  refine Qy ?_
  refine Qc ?_
  refine zI ?_ ?_<;>intro hc16
  ·
   refine zR (zM ?_)
   refine zA (zN (QF (Qz (Qi (Qi (Qz (Qi ?_)))))))
   exact zr rfl rfl (by rw [zeV hno hx hc16])
  refine Qw (Qn (Qc (Qk (zB ?_))))
  refine zM (Qb ?_)
  exact zm (h:=⟨n-(k+1),by omega,k+1,rfl,rfl,rfl,rfl,by omega,zbW hx hno hc16⟩)
 have hge_k:n≤k:=by have h:=hc9;simp at h;omega
 refine Zy (Qs (Qs (QB (Qc (zR (zA (zN ?_)))))))
 refine QF ?_
 exact zr rfl rfl (by rw [zcy hS.len hge_k hno])
theorem zvZ {I:Qv}{av:Option Addr}{n c:Nat}{ks:List (Int×Int)}(hS:Sl I 2 Ky av n c ks)(hn:n≤100000)(v:Int×Int):Yc Tryz.prog 178 [.slice av n c,.agg #[.int .i64 v.1,.int .i64 v.2]] I (.bool (ks.any (zvm v))):=by
 intro g H w hw
 refine qe Tryz.func178 Tryz.ntmps178 hw ?_
 refine zR ?_
 refine Zh rfl rfl rfl (fun b_3=>?_)
 refine zA ?_
 refine zN (zR ?_)
 refine zM ?_
 refine zV (Qg rfl UT (fun hg=>by exact Cells.g0) rfl) ?_
 refine qcV (vs:=[_,_]) rfl zqe (zvW hS hn v) ?_
 refine zC ?_
 refine zA (zN (QF ?_))
 exact zr rfl rfl (by rw [←zfQ])
end
section
open Go Go.Kn Go.Proofs
theorem zj1 {I:Qv}{qa aa:Option Addr}{qn qc an ac:Nat}{qs:List Pk}{ks:List (Int×Int)}(hQ:Sl I 3 ZQ qa qn qc qs)(hqn:qn≤100000)(hA:Sl I 2 Ky aa an ac ks)(han:an≤100000)(x:Pk):Vi Tryz.prog 176 [.agg #[.slice qa qn qc,.slice aa an ac],WG x] I [] (fun v I' L'=>∃ a m c a2 m2 c2,v= .tuple #[.agg #[.slice a m c,.slice a2 m2 c2],.int .i64 (KX qs ks x)]∧L'=[]∧zhY I' (KX qs ks x) a m c a2 m2 c2 (qs++[x]) aa an ac∧(KX qs ks x=0→m=qn+1)):=by
 intro g H w hw
 refine qe Tryz.func176 Tryz.ntmps176 hw ?_
 have hIc:=zxd I
 have hlq:=hQ.len
 have hcq:=hQ.cap
 refine zR ?_
 refine Zh rfl rfl rfl (fun b_2=>?_)
 refine Zh rfl rfl rfl (fun b_3=>?_)
 refine Qt K4 rfl rfl (fun b_4=>?_)
 refine zA (Qb ?_)
 refine QO (.there .here) (fun I1 hI1 hb1=>?_)
 have hQ:=hQ.mono hI1;have hA:=hA.mono hI1;have hIc:=hIc.trans hI1
 have h3:=BxI.of hb1
 refine Qc (Qq (zR ?_))
 refine zV (Qg rfl Z5 (fun hg=>by exact Cells.g1) rfl) ?_
 refine qcV (vs:=[_]) rfl ziI (zlq hQ hqn hA han) ?_
 refine zC ?_
 refine zM ?_
 refine Ze 3 rfl rfl rfl ?_
 refine zJ (Qg rfl VU (fun hg=>by exact BxI.cells (vs:=ZQ x) h3) rfl) ?_
 refine qf (vs:=[_]) rfl ziC (fun hg=>zgP _ x) ?_
 refine zJ (Yz rfl) ?_
 refine ZP rfl rfl rfl rfl rfl ?_
 refine zN ?_
 refine zI ?_ ?_<;>intro hc13
 ·
  have hs1:=zsr hc13
  refine zR ?_
  refine zV (Qg rfl Z5 (fun hg=>by exact Cells.g0) rfl) ?_
  refine zh YB ?_
  refine zA (zN (QF (Qi ?_)))
  first
  | exact Z1 rfl rfl rfl Z5 zxb rfl (fun w hw=>⟨_,I1,[],rfl,hIc,hw.drop.drop,_,_,_,_,_,_,by rw [hs1]<;>rfl,rfl,W7 (by rw [hs1];decide),fun h=>by rw [hs1] at h;cases h⟩)
 refine Qw (Qc (Qq (zR ?_)))
 refine zF Zk ?_
 refine zL Zq ?_
 refine zQ Zl ?_
 refine zC (zN ?_)
 refine zI ?_ ?_<;>intro hc18
 ·
  have hs2:=zs0 hc13 (by rw [hlq];exact hc18)
  refine zR ?_
  refine zV (Qg rfl Z5 (fun hg=>by exact Cells.g0) rfl) ?_
  refine zh YB ?_
  refine zA (zN (QF (Qi ?_)))
  first
  | exact Z1 rfl rfl rfl Z5 zxb rfl (fun w hw=>⟨_,I1,[],rfl,hIc,hw.drop.drop,_,_,_,_,_,_,by rw [hs2]<;>rfl,rfl,W7 (by rw [hs2];decide),fun h=>by rw [hs2] at h;cases h⟩)
 have hs3:=zj8 hc13 (by rw [hlq];exact hc18)
 refine Qw (Qc ?_)
 refine zY [(2,_),(4,_)] (fun T L0 E I' loc'=>∃ (v:Value) (L:Go.Kn.Loc),E=T∧I1=I'∧L++[(b_4,.cells #[.slice none 0 0,.slice none 0 0] 26 (0,0)),(b_2,.cells #[v,.slice aa an ac] 26 (0,0))]=loc'∧Yp 99 3 v (qn+1) ((qs++[x]).flatMap ZQ) L) ?_ ?_
 ·
  have hD:=zxd I1
  refine ZL ?_
  refine Q0 I1 [] mixed ?_
  refine zT 0 rfl (Qa rfl Zk) hD ?_
  refine zT 2 rfl (Qa rfl Zk) hD ?_
  refine zT 5 rfl (Qa rfl Zk) hD ?_
  refine zT 9 rfl (Qg rfl VU (fun hg=>by exact BxI.cells (vs:=ZQ x) h3) rfl) hD ?_
  refine zlu 1 3 6 10 rfl rfl rfl rfl (by kernel_rfl) ?_ ?_ ?_ ?_
  ·
   refine zL Zq ?_
   refine Qb ?_
   refine zD hD ?_
   refine VH 3 6 10 rfl rfl rfl (by kernel_rfl) ?_ ?_ ?_
   ·
    refine zL Zq ?_
    refine Qb ?_
    refine zD hD ?_
    refine zT 4 rfl (Q9 rfl Zl) hD ?_
    refine Q8 6 10 rfl rfl (by kernel_rfl) ?_ ?_
    ·
     refine zL Zq ?_
     refine Qb ?_
     refine zD hD ?_
     refine zT 7 rfl (Q9 rfl Zl) hD ?_
     refine zT 8 rfl (ZC rfl rfl rfl Zl (fun hg=>by omega)) hD ?_
     refine qd 10 rfl ?_
     refine Ql (ps:=[(0,_)]) (m:=[ZQ x]) Z8 rfl (.cons rfl (.nil)) rfl (by simp [Zi]) (by decide) (by decide) rfl rfl (fun b_30=>?_)
     refine Qb ?_
     refine zD hD ?_
     refine qd 11 rfl ?_
     refine Q2 (ys:=[x].flatMap ZQ) Zi rfl rfl Z8 hQ.cut ⟨rfl,fun _=>rfl,zxb⟩ (by decide) (by omega) rfl rfl ?_
     intro v1 L1 hO1
     rw [←List.flatMap_append] at hO1
     obtain ⟨a1,c1,rfl⟩:=hO1.shape
     refine Qb ?_
     refine zD hD ?_
     refine zT 12 rfl (Qa rfl Zk) hD ?_
     refine qd 13 rfl ?_
     refine Zg rfl rfl Y4 rfl rfl (by (repeat (first | exact Upd.here | apply Upd.there | apply Qx))) rfl ?_
     refine Qb ?_
     refine zD hD ?_
     refine Qm (by kernel_rfl) ?_
     refine Qy ?_
     exact zm (h:=⟨_,_,rfl,rfl,rfl,hO1⟩)
    refine Ql (ps:=[(0,_)]) (m:=[ZQ x]) Z8 rfl (.cons rfl (.nil)) rfl (by simp [Zi]) (by decide) (by decide) rfl rfl (fun b_30=>?_)
    refine Qb ?_
    refine zD hD ?_
    refine qd 6 rfl ?_
    refine zL Zq ?_
    refine Qb ?_
    refine zD hD ?_
    refine zT 7 rfl (Q9 rfl Zl) hD ?_
    refine zT 8 rfl (ZC rfl rfl rfl Zl (fun hg=>by omega)) hD ?_
    refine qd 11 rfl ?_
    refine Q2 (ys:=[x].flatMap ZQ) Zi rfl rfl Z8 hQ.cut ⟨rfl,fun _=>rfl,zxb⟩ (by decide) (by omega) rfl rfl ?_
    intro v1 L1 hO1
    rw [←List.flatMap_append] at hO1
    obtain ⟨a1,c1,rfl⟩:=hO1.shape
    refine Qb ?_
    refine zD hD ?_
    refine zT 12 rfl (Qa rfl Zk) hD ?_
    refine qd 13 rfl ?_
    refine Zg rfl rfl Y4 rfl rfl (by (repeat (first | exact Upd.here | apply Upd.there | apply Qx))) rfl ?_
    refine Qb ?_
    refine zD hD ?_
    refine Qm (by kernel_rfl) ?_
    refine Qy ?_
    exact zm (h:=⟨_,_,rfl,rfl,rfl,hO1⟩)
   ·
    refine zL Zq ?_
    refine Qb ?_
    refine zD hD ?_
    refine zT 7 rfl (Q9 rfl Zl) hD ?_
    refine Q8 3 10 rfl rfl (by kernel_rfl) ?_ ?_
    ·
     refine zL Zq ?_
     refine Qb ?_
     refine zD hD ?_
     refine zT 4 rfl (Q9 rfl Zl) hD ?_
     refine zT 8 rfl (ZC rfl rfl rfl Zl (fun hg=>by omega)) hD ?_
     refine qd 10 rfl ?_
     refine Ql (ps:=[(0,_)]) (m:=[ZQ x]) Z8 rfl (.cons rfl (.nil)) rfl (by simp [Zi]) (by decide) (by decide) rfl rfl (fun b_30=>?_)
     refine Qb ?_
     refine zD hD ?_
     refine qd 11 rfl ?_
     refine Q2 (ys:=[x].flatMap ZQ) Zi rfl rfl Z8 hQ.cut ⟨rfl,fun _=>rfl,zxb⟩ (by decide) (by omega) rfl rfl ?_
     intro v1 L1 hO1
     rw [←List.flatMap_append] at hO1
     obtain ⟨a1,c1,rfl⟩:=hO1.shape
     refine Qb ?_
     refine zD hD ?_
     refine zT 12 rfl (Qa rfl Zk) hD ?_
     refine qd 13 rfl ?_
     refine Zg rfl rfl Y4 rfl rfl (by (repeat (first | exact Upd.here | apply Upd.there | apply Qx))) rfl ?_
     refine Qb ?_
     refine zD hD ?_
     refine Qm (by kernel_rfl) ?_
     refine Qy ?_
     exact zm (h:=⟨_,_,rfl,rfl,rfl,hO1⟩)
    refine Ql (ps:=[(0,_)]) (m:=[ZQ x]) Z8 rfl (.cons rfl (.nil)) rfl (by simp [Zi]) (by decide) (by decide) rfl rfl (fun b_30=>?_)
    refine Qb ?_
    refine zD hD ?_
    refine qd 3 rfl ?_
    refine zL Zq ?_
    refine Qb ?_
    refine zD hD ?_
    refine zT 4 rfl (Q9 rfl Zl) hD ?_
    refine zT 8 rfl (ZC rfl rfl rfl Zl (fun hg=>by omega)) hD ?_
    refine qd 11 rfl ?_
    refine Q2 (ys:=[x].flatMap ZQ) Zi rfl rfl Z8 hQ.cut ⟨rfl,fun _=>rfl,zxb⟩ (by decide) (by omega) rfl rfl ?_
    intro v1 L1 hO1
    rw [←List.flatMap_append] at hO1
    obtain ⟨a1,c1,rfl⟩:=hO1.shape
    refine Qb ?_
    refine zD hD ?_
    refine zT 12 rfl (Qa rfl Zk) hD ?_
    refine qd 13 rfl ?_
    refine Zg rfl rfl Y4 rfl rfl (by (repeat (first | exact Upd.here | apply Upd.there | apply Qx))) rfl ?_
    refine Qb ?_
    refine zD hD ?_
    refine Qm (by kernel_rfl) ?_
    refine Qy ?_
    exact zm (h:=⟨_,_,rfl,rfl,rfl,hO1⟩)
   refine Ql (ps:=[(0,_)]) (m:=[ZQ x]) Z8 rfl (.cons rfl (.nil)) rfl (by simp [Zi]) (by decide) (by decide) rfl rfl (fun b_30=>?_)
   refine Qb ?_
   refine zD hD ?_
   refine Q8 3 6 rfl rfl (by kernel_rfl) ?_ ?_
   ·
    refine zL Zq ?_
    refine Qb ?_
    refine zD hD ?_
    refine zT 4 rfl (Q9 rfl Zl) hD ?_
    refine qd 6 rfl ?_
    refine zL Zq ?_
    refine Qb ?_
    refine zD hD ?_
    refine zT 7 rfl (Q9 rfl Zl) hD ?_
    refine zT 8 rfl (ZC rfl rfl rfl Zl (fun hg=>by omega)) hD ?_
    refine qd 11 rfl ?_
    refine Q2 (ys:=[x].flatMap ZQ) Zi rfl rfl Z8 hQ.cut ⟨rfl,fun _=>rfl,zxb⟩ (by decide) (by omega) rfl rfl ?_
    intro v1 L1 hO1
    rw [←List.flatMap_append] at hO1
    obtain ⟨a1,c1,rfl⟩:=hO1.shape
    refine Qb ?_
    refine zD hD ?_
    refine zT 12 rfl (Qa rfl Zk) hD ?_
    refine qd 13 rfl ?_
    refine Zg rfl rfl Y4 rfl rfl (by (repeat (first | exact Upd.here | apply Upd.there | apply Qx))) rfl ?_
    refine Qb ?_
    refine zD hD ?_
    refine Qm (by kernel_rfl) ?_
    refine Qy ?_
    exact zm (h:=⟨_,_,rfl,rfl,rfl,hO1⟩)
   refine zL Zq ?_
   refine Qb ?_
   refine zD hD ?_
   refine zT 7 rfl (Q9 rfl Zl) hD ?_
   refine qd 3 rfl ?_
   refine zL Zq ?_
   refine Qb ?_
   refine zD hD ?_
   refine zT 4 rfl (Q9 rfl Zl) hD ?_
   refine zT 8 rfl (ZC rfl rfl rfl Zl (fun hg=>by omega)) hD ?_
   refine qd 11 rfl ?_
   refine Q2 (ys:=[x].flatMap ZQ) Zi rfl rfl Z8 hQ.cut ⟨rfl,fun _=>rfl,zxb⟩ (by decide) (by omega) rfl rfl ?_
   intro v1 L1 hO1
   rw [←List.flatMap_append] at hO1
   obtain ⟨a1,c1,rfl⟩:=hO1.shape
   refine Qb ?_
   refine zD hD ?_
   refine zT 12 rfl (Qa rfl Zk) hD ?_
   refine qd 13 rfl ?_
   refine Zg rfl rfl Y4 rfl rfl (by (repeat (first | exact Upd.here | apply Upd.there | apply Qx))) rfl ?_
   refine Qb ?_
   refine zD hD ?_
   refine Qm (by kernel_rfl) ?_
   refine Qy ?_
   exact zm (h:=⟨_,_,rfl,rfl,rfl,hO1⟩)
  ·
   refine zL Zq ?_
   refine Qb ?_
   refine zD hD ?_
   refine zT 4 rfl (Q9 rfl Zl) hD ?_
   refine VH 1 6 10 rfl rfl rfl (by kernel_rfl) ?_ ?_ ?_
   ·
    refine zL Zq ?_
    refine Qb ?_
    refine zD hD ?_
    refine Q8 6 10 rfl rfl (by kernel_rfl) ?_ ?_
    ·
     refine zL Zq ?_
     refine Qb ?_
     refine zD hD ?_
     refine zT 7 rfl (Q9 rfl Zl) hD ?_
     refine zT 8 rfl (ZC rfl rfl rfl Zl (fun hg=>by omega)) hD ?_
     refine qd 10 rfl ?_
     refine Ql (ps:=[(0,_)]) (m:=[ZQ x]) Z8 rfl (.cons rfl (.nil)) rfl (by simp [Zi]) (by decide) (by decide) rfl rfl (fun b_30=>?_)
     refine Qb ?_
     refine zD hD ?_
     refine qd 11 rfl ?_
     refine Q2 (ys:=[x].flatMap ZQ) Zi rfl rfl Z8 hQ.cut ⟨rfl,fun _=>rfl,zxb⟩ (by decide) (by omega) rfl rfl ?_
     intro v1 L1 hO1
     rw [←List.flatMap_append] at hO1
     obtain ⟨a1,c1,rfl⟩:=hO1.shape
     refine Qb ?_
     refine zD hD ?_
     refine zT 12 rfl (Qa rfl Zk) hD ?_
     refine qd 13 rfl ?_
     refine Zg rfl rfl Y4 rfl rfl (by (repeat (first | exact Upd.here | apply Upd.there | apply Qx))) rfl ?_
     refine Qb ?_
     refine zD hD ?_
     refine Qm (by kernel_rfl) ?_
     refine Qy ?_
     exact zm (h:=⟨_,_,rfl,rfl,rfl,hO1⟩)
    refine Ql (ps:=[(0,_)]) (m:=[ZQ x]) Z8 rfl (.cons rfl (.nil)) rfl (by simp [Zi]) (by decide) (by decide) rfl rfl (fun b_30=>?_)
    refine Qb ?_
    refine zD hD ?_
    refine qd 6 rfl ?_
    refine zL Zq ?_
    refine Qb ?_
    refine zD hD ?_
    refine zT 7 rfl (Q9 rfl Zl) hD ?_
    refine zT 8 rfl (ZC rfl rfl rfl Zl (fun hg=>by omega)) hD ?_
    refine qd 11 rfl ?_
    refine Q2 (ys:=[x].flatMap ZQ) Zi rfl rfl Z8 hQ.cut ⟨rfl,fun _=>rfl,zxb⟩ (by decide) (by omega) rfl rfl ?_
    intro v1 L1 hO1
    rw [←List.flatMap_append] at hO1
    obtain ⟨a1,c1,rfl⟩:=hO1.shape
    refine Qb ?_
    refine zD hD ?_
    refine zT 12 rfl (Qa rfl Zk) hD ?_
    refine qd 13 rfl ?_
    refine Zg rfl rfl Y4 rfl rfl (by (repeat (first | exact Upd.here | apply Upd.there | apply Qx))) rfl ?_
    refine Qb ?_
    refine zD hD ?_
    refine Qm (by kernel_rfl) ?_
    refine Qy ?_
    exact zm (h:=⟨_,_,rfl,rfl,rfl,hO1⟩)
   ·
    refine zL Zq ?_
    refine Qb ?_
    refine zD hD ?_
    refine zT 7 rfl (Q9 rfl Zl) hD ?_
    refine Q8 1 10 rfl rfl (by kernel_rfl) ?_ ?_
    ·
     refine zL Zq ?_
     refine Qb ?_
     refine zD hD ?_
     refine zT 8 rfl (ZC rfl rfl rfl Zl (fun hg=>by omega)) hD ?_
     refine qd 10 rfl ?_
     refine Ql (ps:=[(0,_)]) (m:=[ZQ x]) Z8 rfl (.cons rfl (.nil)) rfl (by simp [Zi]) (by decide) (by decide) rfl rfl (fun b_30=>?_)
     refine Qb ?_
     refine zD hD ?_
     refine qd 11 rfl ?_
     refine Q2 (ys:=[x].flatMap ZQ) Zi rfl rfl Z8 hQ.cut ⟨rfl,fun _=>rfl,zxb⟩ (by decide) (by omega) rfl rfl ?_
     intro v1 L1 hO1
     rw [←List.flatMap_append] at hO1
     obtain ⟨a1,c1,rfl⟩:=hO1.shape
     refine Qb ?_
     refine zD hD ?_
     refine zT 12 rfl (Qa rfl Zk) hD ?_
     refine qd 13 rfl ?_
     refine Zg rfl rfl Y4 rfl rfl (by (repeat (first | exact Upd.here | apply Upd.there | apply Qx))) rfl ?_
     refine Qb ?_
     refine zD hD ?_
     refine Qm (by kernel_rfl) ?_
     refine Qy ?_
     exact zm (h:=⟨_,_,rfl,rfl,rfl,hO1⟩)
    refine Ql (ps:=[(0,_)]) (m:=[ZQ x]) Z8 rfl (.cons rfl (.nil)) rfl (by simp [Zi]) (by decide) (by decide) rfl rfl (fun b_30=>?_)
    refine Qb ?_
    refine zD hD ?_
    refine qd 1 rfl ?_
    refine zL Zq ?_
    refine Qb ?_
    refine zD hD ?_
    refine zT 8 rfl (ZC rfl rfl rfl Zl (fun hg=>by omega)) hD ?_
    refine qd 11 rfl ?_
    refine Q2 (ys:=[x].flatMap ZQ) Zi rfl rfl Z8 hQ.cut ⟨rfl,fun _=>rfl,zxb⟩ (by decide) (by omega) rfl rfl ?_
    intro v1 L1 hO1
    rw [←List.flatMap_append] at hO1
    obtain ⟨a1,c1,rfl⟩:=hO1.shape
    refine Qb ?_
    refine zD hD ?_
    refine zT 12 rfl (Qa rfl Zk) hD ?_
    refine qd 13 rfl ?_
    refine Zg rfl rfl Y4 rfl rfl (by (repeat (first | exact Upd.here | apply Upd.there | apply Qx))) rfl ?_
    refine Qb ?_
    refine zD hD ?_
    refine Qm (by kernel_rfl) ?_
    refine Qy ?_
    exact zm (h:=⟨_,_,rfl,rfl,rfl,hO1⟩)
   refine Ql (ps:=[(0,_)]) (m:=[ZQ x]) Z8 rfl (.cons rfl (.nil)) rfl (by simp [Zi]) (by decide) (by decide) rfl rfl (fun b_30=>?_)
   refine Qb ?_
   refine zD hD ?_
   refine Q8 1 6 rfl rfl (by kernel_rfl) ?_ ?_
   ·
    refine zL Zq ?_
    refine Qb ?_
    refine zD hD ?_
    refine qd 6 rfl ?_
    refine zL Zq ?_
    refine Qb ?_
    refine zD hD ?_
    refine zT 7 rfl (Q9 rfl Zl) hD ?_
    refine zT 8 rfl (ZC rfl rfl rfl Zl (fun hg=>by omega)) hD ?_
    refine qd 11 rfl ?_
    refine Q2 (ys:=[x].flatMap ZQ) Zi rfl rfl Z8 hQ.cut ⟨rfl,fun _=>rfl,zxb⟩ (by decide) (by omega) rfl rfl ?_
    intro v1 L1 hO1
    rw [←List.flatMap_append] at hO1
    obtain ⟨a1,c1,rfl⟩:=hO1.shape
    refine Qb ?_
    refine zD hD ?_
    refine zT 12 rfl (Qa rfl Zk) hD ?_
    refine qd 13 rfl ?_
    refine Zg rfl rfl Y4 rfl rfl (by (repeat (first | exact Upd.here | apply Upd.there | apply Qx))) rfl ?_
    refine Qb ?_
    refine zD hD ?_
    refine Qm (by kernel_rfl) ?_
    refine Qy ?_
    exact zm (h:=⟨_,_,rfl,rfl,rfl,hO1⟩)
   refine zL Zq ?_
   refine Qb ?_
   refine zD hD ?_
   refine zT 7 rfl (Q9 rfl Zl) hD ?_
   refine qd 1 rfl ?_
   refine zL Zq ?_
   refine Qb ?_
   refine zD hD ?_
   refine zT 8 rfl (ZC rfl rfl rfl Zl (fun hg=>by omega)) hD ?_
   refine qd 11 rfl ?_
   refine Q2 (ys:=[x].flatMap ZQ) Zi rfl rfl Z8 hQ.cut ⟨rfl,fun _=>rfl,zxb⟩ (by decide) (by omega) rfl rfl ?_
   intro v1 L1 hO1
   rw [←List.flatMap_append] at hO1
   obtain ⟨a1,c1,rfl⟩:=hO1.shape
   refine Qb ?_
   refine zD hD ?_
   refine zT 12 rfl (Qa rfl Zk) hD ?_
   refine qd 13 rfl ?_
   refine Zg rfl rfl Y4 rfl rfl (by (repeat (first | exact Upd.here | apply Upd.there | apply Qx))) rfl ?_
   refine Qb ?_
   refine zD hD ?_
   refine Qm (by kernel_rfl) ?_
   refine Qy ?_
   exact zm (h:=⟨_,_,rfl,rfl,rfl,hO1⟩)
  ·
   refine zL Zq ?_
   refine Qb ?_
   refine zD hD ?_
   refine zT 7 rfl (Q9 rfl Zl) hD ?_
   refine VH 1 3 10 rfl rfl rfl (by kernel_rfl) ?_ ?_ ?_
   ·
    refine zL Zq ?_
    refine Qb ?_
    refine zD hD ?_
    refine Q8 3 10 rfl rfl (by kernel_rfl) ?_ ?_
    ·
     refine zL Zq ?_
     refine Qb ?_
     refine zD hD ?_
     refine zT 4 rfl (Q9 rfl Zl) hD ?_
     refine zT 8 rfl (ZC rfl rfl rfl Zl (fun hg=>by omega)) hD ?_
     refine qd 10 rfl ?_
     refine Ql (ps:=[(0,_)]) (m:=[ZQ x]) Z8 rfl (.cons rfl (.nil)) rfl (by simp [Zi]) (by decide) (by decide) rfl rfl (fun b_30=>?_)
     refine Qb ?_
     refine zD hD ?_
     refine qd 11 rfl ?_
     refine Q2 (ys:=[x].flatMap ZQ) Zi rfl rfl Z8 hQ.cut ⟨rfl,fun _=>rfl,zxb⟩ (by decide) (by omega) rfl rfl ?_
     intro v1 L1 hO1
     rw [←List.flatMap_append] at hO1
     obtain ⟨a1,c1,rfl⟩:=hO1.shape
     refine Qb ?_
     refine zD hD ?_
     refine zT 12 rfl (Qa rfl Zk) hD ?_
     refine qd 13 rfl ?_
     refine Zg rfl rfl Y4 rfl rfl (by (repeat (first | exact Upd.here | apply Upd.there | apply Qx))) rfl ?_
     refine Qb ?_
     refine zD hD ?_
     refine Qm (by kernel_rfl) ?_
     refine Qy ?_
     exact zm (h:=⟨_,_,rfl,rfl,rfl,hO1⟩)
    refine Ql (ps:=[(0,_)]) (m:=[ZQ x]) Z8 rfl (.cons rfl (.nil)) rfl (by simp [Zi]) (by decide) (by decide) rfl rfl (fun b_30=>?_)
    refine Qb ?_
    refine zD hD ?_
    refine qd 3 rfl ?_
    refine zL Zq ?_
    refine Qb ?_
    refine zD hD ?_
    refine zT 4 rfl (Q9 rfl Zl) hD ?_
    refine zT 8 rfl (ZC rfl rfl rfl Zl (fun hg=>by omega)) hD ?_
    refine qd 11 rfl ?_
    refine Q2 (ys:=[x].flatMap ZQ) Zi rfl rfl Z8 hQ.cut ⟨rfl,fun _=>rfl,zxb⟩ (by decide) (by omega) rfl rfl ?_
    intro v1 L1 hO1
    rw [←List.flatMap_append] at hO1
    obtain ⟨a1,c1,rfl⟩:=hO1.shape
    refine Qb ?_
    refine zD hD ?_
    refine zT 12 rfl (Qa rfl Zk) hD ?_
    refine qd 13 rfl ?_
    refine Zg rfl rfl Y4 rfl rfl (by (repeat (first | exact Upd.here | apply Upd.there | apply Qx))) rfl ?_
    refine Qb ?_
    refine zD hD ?_
    refine Qm (by kernel_rfl) ?_
    refine Qy ?_
    exact zm (h:=⟨_,_,rfl,rfl,rfl,hO1⟩)
   ·
    refine zL Zq ?_
    refine Qb ?_
    refine zD hD ?_
    refine zT 4 rfl (Q9 rfl Zl) hD ?_
    refine Q8 1 10 rfl rfl (by kernel_rfl) ?_ ?_
    ·
     refine zL Zq ?_
     refine Qb ?_
     refine zD hD ?_
     refine zT 8 rfl (ZC rfl rfl rfl Zl (fun hg=>by omega)) hD ?_
     refine qd 10 rfl ?_
     refine Ql (ps:=[(0,_)]) (m:=[ZQ x]) Z8 rfl (.cons rfl (.nil)) rfl (by simp [Zi]) (by decide) (by decide) rfl rfl (fun b_30=>?_)
     refine Qb ?_
     refine zD hD ?_
     refine qd 11 rfl ?_
     refine Q2 (ys:=[x].flatMap ZQ) Zi rfl rfl Z8 hQ.cut ⟨rfl,fun _=>rfl,zxb⟩ (by decide) (by omega) rfl rfl ?_
     intro v1 L1 hO1
     rw [←List.flatMap_append] at hO1
     obtain ⟨a1,c1,rfl⟩:=hO1.shape
     refine Qb ?_
     refine zD hD ?_
     refine zT 12 rfl (Qa rfl Zk) hD ?_
     refine qd 13 rfl ?_
     refine Zg rfl rfl Y4 rfl rfl (by (repeat (first | exact Upd.here | apply Upd.there | apply Qx))) rfl ?_
     refine Qb ?_
     refine zD hD ?_
     refine Qm (by kernel_rfl) ?_
     refine Qy ?_
     exact zm (h:=⟨_,_,rfl,rfl,rfl,hO1⟩)
    refine Ql (ps:=[(0,_)]) (m:=[ZQ x]) Z8 rfl (.cons rfl (.nil)) rfl (by simp [Zi]) (by decide) (by decide) rfl rfl (fun b_30=>?_)
    refine Qb ?_
    refine zD hD ?_
    refine qd 1 rfl ?_
    refine zL Zq ?_
    refine Qb ?_
    refine zD hD ?_
    refine zT 8 rfl (ZC rfl rfl rfl Zl (fun hg=>by omega)) hD ?_
    refine qd 11 rfl ?_
    refine Q2 (ys:=[x].flatMap ZQ) Zi rfl rfl Z8 hQ.cut ⟨rfl,fun _=>rfl,zxb⟩ (by decide) (by omega) rfl rfl ?_
    intro v1 L1 hO1
    rw [←List.flatMap_append] at hO1
    obtain ⟨a1,c1,rfl⟩:=hO1.shape
    refine Qb ?_
    refine zD hD ?_
    refine zT 12 rfl (Qa rfl Zk) hD ?_
    refine qd 13 rfl ?_
    refine Zg rfl rfl Y4 rfl rfl (by (repeat (first | exact Upd.here | apply Upd.there | apply Qx))) rfl ?_
    refine Qb ?_
    refine zD hD ?_
    refine Qm (by kernel_rfl) ?_
    refine Qy ?_
    exact zm (h:=⟨_,_,rfl,rfl,rfl,hO1⟩)
   refine Ql (ps:=[(0,_)]) (m:=[ZQ x]) Z8 rfl (.cons rfl (.nil)) rfl (by simp [Zi]) (by decide) (by decide) rfl rfl (fun b_30=>?_)
   refine Qb ?_
   refine zD hD ?_
   refine Q8 1 3 rfl rfl (by kernel_rfl) ?_ ?_
   ·
    refine zL Zq ?_
    refine Qb ?_
    refine zD hD ?_
    refine qd 3 rfl ?_
    refine zL Zq ?_
    refine Qb ?_
    refine zD hD ?_
    refine zT 4 rfl (Q9 rfl Zl) hD ?_
    refine zT 8 rfl (ZC rfl rfl rfl Zl (fun hg=>by omega)) hD ?_
    refine qd 11 rfl ?_
    refine Q2 (ys:=[x].flatMap ZQ) Zi rfl rfl Z8 hQ.cut ⟨rfl,fun _=>rfl,zxb⟩ (by decide) (by omega) rfl rfl ?_
    intro v1 L1 hO1
    rw [←List.flatMap_append] at hO1
    obtain ⟨a1,c1,rfl⟩:=hO1.shape
    refine Qb ?_
    refine zD hD ?_
    refine zT 12 rfl (Qa rfl Zk) hD ?_
    refine qd 13 rfl ?_
    refine Zg rfl rfl Y4 rfl rfl (by (repeat (first | exact Upd.here | apply Upd.there | apply Qx))) rfl ?_
    refine Qb ?_
    refine zD hD ?_
    refine Qm (by kernel_rfl) ?_
    refine Qy ?_
    exact zm (h:=⟨_,_,rfl,rfl,rfl,hO1⟩)
   refine zL Zq ?_
   refine Qb ?_
   refine zD hD ?_
   refine zT 4 rfl (Q9 rfl Zl) hD ?_
   refine qd 1 rfl ?_
   refine zL Zq ?_
   refine Qb ?_
   refine zD hD ?_
   refine zT 8 rfl (ZC rfl rfl rfl Zl (fun hg=>by omega)) hD ?_
   refine qd 11 rfl ?_
   refine Q2 (ys:=[x].flatMap ZQ) Zi rfl rfl Z8 hQ.cut ⟨rfl,fun _=>rfl,zxb⟩ (by decide) (by omega) rfl rfl ?_
   intro v1 L1 hO1
   rw [←List.flatMap_append] at hO1
   obtain ⟨a1,c1,rfl⟩:=hO1.shape
   refine Qb ?_
   refine zD hD ?_
   refine zT 12 rfl (Qa rfl Zk) hD ?_
   refine qd 13 rfl ?_
   refine Zg rfl rfl Y4 rfl rfl (by (repeat (first | exact Upd.here | apply Upd.there | apply Qx))) rfl ?_
   refine Qb ?_
   refine zD hD ?_
   refine Qm (by kernel_rfl) ?_
   refine Qy ?_
   exact zm (h:=⟨_,_,rfl,rfl,rfl,hO1⟩)
  refine Ql (ps:=[(0,_)]) (m:=[ZQ x]) Z8 rfl (.cons rfl (.nil)) rfl (by simp [Zi]) (by decide) (by decide) rfl rfl (fun b_30=>?_)
  refine Qb ?_
  refine zD hD ?_
  refine VH 1 3 6 rfl rfl rfl (by kernel_rfl) ?_ ?_ ?_
  ·
   refine zL Zq ?_
   refine Qb ?_
   refine zD hD ?_
   refine Q8 3 6 rfl rfl (by kernel_rfl) ?_ ?_
   ·
    refine zL Zq ?_
    refine Qb ?_
    refine zD hD ?_
    refine zT 4 rfl (Q9 rfl Zl) hD ?_
    refine qd 6 rfl ?_
    refine zL Zq ?_
    refine Qb ?_
    refine zD hD ?_
    refine zT 7 rfl (Q9 rfl Zl) hD ?_
    refine zT 8 rfl (ZC rfl rfl rfl Zl (fun hg=>by omega)) hD ?_
    refine qd 11 rfl ?_
    refine Q2 (ys:=[x].flatMap ZQ) Zi rfl rfl Z8 hQ.cut ⟨rfl,fun _=>rfl,zxb⟩ (by decide) (by omega) rfl rfl ?_
    intro v1 L1 hO1
    rw [←List.flatMap_append] at hO1
    obtain ⟨a1,c1,rfl⟩:=hO1.shape
    refine Qb ?_
    refine zD hD ?_
    refine zT 12 rfl (Qa rfl Zk) hD ?_
    refine qd 13 rfl ?_
    refine Zg rfl rfl Y4 rfl rfl (by (repeat (first | exact Upd.here | apply Upd.there | apply Qx))) rfl ?_
    refine Qb ?_
    refine zD hD ?_
    refine Qm (by kernel_rfl) ?_
    refine Qy ?_
    exact zm (h:=⟨_,_,rfl,rfl,rfl,hO1⟩)
   refine zL Zq ?_
   refine Qb ?_
   refine zD hD ?_
   refine zT 7 rfl (Q9 rfl Zl) hD ?_
   refine qd 3 rfl ?_
   refine zL Zq ?_
   refine Qb ?_
   refine zD hD ?_
   refine zT 4 rfl (Q9 rfl Zl) hD ?_
   refine zT 8 rfl (ZC rfl rfl rfl Zl (fun hg=>by omega)) hD ?_
   refine qd 11 rfl ?_
   refine Q2 (ys:=[x].flatMap ZQ) Zi rfl rfl Z8 hQ.cut ⟨rfl,fun _=>rfl,zxb⟩ (by decide) (by omega) rfl rfl ?_
   intro v1 L1 hO1
   rw [←List.flatMap_append] at hO1
   obtain ⟨a1,c1,rfl⟩:=hO1.shape
   refine Qb ?_
   refine zD hD ?_
   refine zT 12 rfl (Qa rfl Zk) hD ?_
   refine qd 13 rfl ?_
   refine Zg rfl rfl Y4 rfl rfl (by (repeat (first | exact Upd.here | apply Upd.there | apply Qx))) rfl ?_
   refine Qb ?_
   refine zD hD ?_
   refine Qm (by kernel_rfl) ?_
   refine Qy ?_
   exact zm (h:=⟨_,_,rfl,rfl,rfl,hO1⟩)
  ·
   refine zL Zq ?_
   refine Qb ?_
   refine zD hD ?_
   refine zT 4 rfl (Q9 rfl Zl) hD ?_
   refine Q8 1 6 rfl rfl (by kernel_rfl) ?_ ?_
   ·
    refine zL Zq ?_
    refine Qb ?_
    refine zD hD ?_
    refine qd 6 rfl ?_
    refine zL Zq ?_
    refine Qb ?_
    refine zD hD ?_
    refine zT 7 rfl (Q9 rfl Zl) hD ?_
    refine zT 8 rfl (ZC rfl rfl rfl Zl (fun hg=>by omega)) hD ?_
    refine qd 11 rfl ?_
    refine Q2 (ys:=[x].flatMap ZQ) Zi rfl rfl Z8 hQ.cut ⟨rfl,fun _=>rfl,zxb⟩ (by decide) (by omega) rfl rfl ?_
    intro v1 L1 hO1
    rw [←List.flatMap_append] at hO1
    obtain ⟨a1,c1,rfl⟩:=hO1.shape
    refine Qb ?_
    refine zD hD ?_
    refine zT 12 rfl (Qa rfl Zk) hD ?_
    refine qd 13 rfl ?_
    refine Zg rfl rfl Y4 rfl rfl (by (repeat (first | exact Upd.here | apply Upd.there | apply Qx))) rfl ?_
    refine Qb ?_
    refine zD hD ?_
    refine Qm (by kernel_rfl) ?_
    refine Qy ?_
    exact zm (h:=⟨_,_,rfl,rfl,rfl,hO1⟩)
   refine zL Zq ?_
   refine Qb ?_
   refine zD hD ?_
   refine zT 7 rfl (Q9 rfl Zl) hD ?_
   refine qd 1 rfl ?_
   refine zL Zq ?_
   refine Qb ?_
   refine zD hD ?_
   refine zT 8 rfl (ZC rfl rfl rfl Zl (fun hg=>by omega)) hD ?_
   refine qd 11 rfl ?_
   refine Q2 (ys:=[x].flatMap ZQ) Zi rfl rfl Z8 hQ.cut ⟨rfl,fun _=>rfl,zxb⟩ (by decide) (by omega) rfl rfl ?_
   intro v1 L1 hO1
   rw [←List.flatMap_append] at hO1
   obtain ⟨a1,c1,rfl⟩:=hO1.shape
   refine Qb ?_
   refine zD hD ?_
   refine zT 12 rfl (Qa rfl Zk) hD ?_
   refine qd 13 rfl ?_
   refine Zg rfl rfl Y4 rfl rfl (by (repeat (first | exact Upd.here | apply Upd.there | apply Qx))) rfl ?_
   refine Qb ?_
   refine zD hD ?_
   refine Qm (by kernel_rfl) ?_
   refine Qy ?_
   exact zm (h:=⟨_,_,rfl,rfl,rfl,hO1⟩)
  refine zL Zq ?_
  refine Qb ?_
  refine zD hD ?_
  refine zT 7 rfl (Q9 rfl Zl) hD ?_
  refine Q8 1 3 rfl rfl (by kernel_rfl) ?_ ?_
  ·
   refine zL Zq ?_
   refine Qb ?_
   refine zD hD ?_
   refine qd 3 rfl ?_
   refine zL Zq ?_
   refine Qb ?_
   refine zD hD ?_
   refine zT 4 rfl (Q9 rfl Zl) hD ?_
   refine zT 8 rfl (ZC rfl rfl rfl Zl (fun hg=>by omega)) hD ?_
   refine qd 11 rfl ?_
   refine Q2 (ys:=[x].flatMap ZQ) Zi rfl rfl Z8 hQ.cut ⟨rfl,fun _=>rfl,zxb⟩ (by decide) (by omega) rfl rfl ?_
   intro v1 L1 hO1
   rw [←List.flatMap_append] at hO1
   obtain ⟨a1,c1,rfl⟩:=hO1.shape
   refine Qb ?_
   refine zD hD ?_
   refine zT 12 rfl (Qa rfl Zk) hD ?_
   refine qd 13 rfl ?_
   refine Zg rfl rfl Y4 rfl rfl (by (repeat (first | exact Upd.here | apply Upd.there | apply Qx))) rfl ?_
   refine Qb ?_
   refine zD hD ?_
   refine Qm (by kernel_rfl) ?_
   refine Qy ?_
   exact zm (h:=⟨_,_,rfl,rfl,rfl,hO1⟩)
  refine zL Zq ?_
  refine Qb ?_
  refine zD hD ?_
  refine zT 4 rfl (Q9 rfl Zl) hD ?_
  refine qd 1 rfl ?_
  refine zL Zq ?_
  refine Qb ?_
  refine zD hD ?_
  refine zT 8 rfl (ZC rfl rfl rfl Zl (fun hg=>by omega)) hD ?_
  refine qd 11 rfl ?_
  refine Q2 (ys:=[x].flatMap ZQ) Zi rfl rfl Z8 hQ.cut ⟨rfl,fun _=>rfl,zxb⟩ (by decide) (by omega) rfl rfl ?_
  intro v1 L1 hO1
  rw [←List.flatMap_append] at hO1
  obtain ⟨a1,c1,rfl⟩:=hO1.shape
  refine Qb ?_
  refine zD hD ?_
  refine zT 12 rfl (Qa rfl Zk) hD ?_
  refine qd 13 rfl ?_
  refine Zg rfl rfl Y4 rfl rfl (by (repeat (first | exact Upd.here | apply Upd.there | apply Qx))) rfl ?_
  refine Qb ?_
  refine zD hD ?_
  refine Qm (by kernel_rfl) ?_
  refine Qy ?_
  exact zm (h:=⟨_,_,rfl,rfl,rfl,hO1⟩)
 rintro E I' loc' ⟨v,L,rfl,rfl,rfl,hO⟩
 refine Qq ?_
 refine Zw hO Zi (by decide) (by repeat (first | exact .cons .here .nil | exact Qu | exact Qr | apply Qp | apply Qo)) (fun I3 hI3 af3 cf3 ef3 hZ=>?_)
 subst ef3
 have hIc:=hIc.trans hI3
 refine Qk ?_
 refine zV (Qg rfl Z5 (fun hg=>by exact Cells.g1) rfl) ?_
 refine zh YB ?_
 refine zA (zN (QF ?_))
 first
 | exact Z1 rfl rfl rfl Z5 zxb rfl (fun w hw=>⟨_,I3,[],rfl,hIc,hw.drop.drop,_,_,_,_,_,_,by rw [hs3]<;>rfl,rfl,zdh hs3 hZ,fun _=>rfl⟩)
end
section
open Go Go.Kn Go.Proofs
theorem zfz:Fun Tryz.prog 176:=.of Tryz.func176 (by kernel_rfl) (by kernel_rfl)
theorem zg0 {I:Qv}{qa aa:Option Addr}{qn qc an ac:Nat}{qs:List Pk}{ks:List (Int×Int)}(hQ:Sl I 3 ZQ qa qn qc qs)(hqn:qn≤100000)(hA:Sl I 2 Ky aa an ac ks)(han:an≤100000)(i:Int):Vi Tryz.prog 115 [.agg #[.slice qa qn qc,.slice aa an ac],.int .i64 i] I [] (fun v I' L'=>∃ a m c a2 m2 c2,v= .tuple #[.agg #[.slice a m c,.slice a2 m2 c2],.int .i64 (UD qs ks i)]∧L'=[]∧zhY I' (UD qs ks i) a m c a2 m2 c2 (qs++[atP qs ks i]) aa an ac):=by
 intro g H w hw
 refine qe Tryz.func115 Tryz.ntmps115 hw ?_
 have hIc:=zxd I
 refine zR ?_
 refine Zh rfl rfl rfl (fun b_2=>?_)
 refine Qt K4 rfl rfl (fun b_4=>?_)
 refine zA ?_
 refine zN (zR ?_)
 refine zV (Qg rfl Z5 (fun hg=>by exact Cells.g1) rfl) ?_
 refine zM ?_
 refine qcV (vs:=[_,_]) rfl zfo (zvQ hQ hqn hA han i) ?_
 refine zM ?_
 refine zE ?_
 refine zE ?_
 refine Qt zbA rfl rfl (fun b_6=>?_)
 refine zh Jo ?_
 refine zA (zN (Qq (zR ?_)))
 refine zM ?_
 refine zC (zN ?_)
 refine zI ?_ ?_<;>intro hc14
 ·
  have he:atE qs ks i≠0:=by simpa using hc14
  have hrp:UD qs ks i=atE qs ks i:=if_neg he
  refine zR ?_
  refine zV (Qg rfl Z5 (fun hg=>by exact Cells.g1) rfl) ?_
  refine zM ?_
  refine zh YB ?_
  refine zA (zN (QF (Qi ?_)))
  first
  | exact Z1 rfl rfl rfl Z5 (.there .here) rfl (fun w hw=>⟨_,I,[],rfl,hIc,hw.drop.drop.drop,_,_,_,_,_,_,by rw [hrp]<;>rfl,rfl,by rw [hrp];first | exact W7 he | exact hZ⟩)
 have he:atE qs ks i=0:=by simpa using hc14
 have hrp:UD qs ks i=KX qs ks (atP qs ks i):=if_pos he
 refine Qw (Qc (zR ?_))
 refine zV (Qg rfl Z5 (fun hg=>by exact Cells.g2) rfl) ?_
 refine zV (Qg rfl VU (fun hg=>by exact Cells.g0) rfl) ?_
 refine QE (cap:=[]) (vs:=[_,_]) rfl rfl zfz .nil (zj1 hQ hqn hA han (atP qs ks i)) rfl rfl ?_
 rintro vv1 I1 L1 hI1 ⟨a4,m4,c4,a5,m5,c5,rfl,rfl,hZ,hm⟩
 have hIc:=hIc.trans hI1
 refine zE ?_
 refine zE ?_
 refine zh YB ?_
 refine zA (zN (QF ?_))
 first
 | exact Z1 rfl rfl rfl Z5 (.there .here) rfl (fun w hw=>⟨_,I1,[],rfl,hIc,hw.drop.drop.drop,_,_,_,_,_,_,by rw [hrp]<;>rfl,rfl,by rw [hrp];first | exact W7 he | exact hZ⟩)
end
end Go.Proofs.YtjblkbkmblkgoaaGreat
namespace Go.Kn
section
open Go
def LdV (P:Program)(I:Qv)(loc:Loc)(tt b:Nat)(v:Value):Prop:=∀ (g:World) (H:Qv) (w:World),St g I H loc w→(loadVar tt ⟨b,0,none⟩).run P w= .ok v w
theorem LdV.ag {P:Program}{I:Qv}{loc:Loc}{tt b n:Nat}{vs:List Value}(hA:AgT P tt n)(hc:Cells I loc b 0 vs)(hn:vs.length=n):LdV P I loc tt b (.agg vs.toArray):=fun g H w hw=>by
 have h1:(loadCells ⟨b,0,none⟩ n).run P w= .ok vs.toArray w:=by
  rw [←hn]
  exact run_loadCells_list w _ _ fun j v hj=>by rw [Ya];exact (hc j v hj).get hw
 have hA':=hA
 obtain ⟨_,i,h2,h3⟩:=hA'
 simp only [loadVar,Sem.run_bind,Sem.run_pure,Y2 hA,Result.andThen,if_true,run_sizeOf h2,h3,h1]
section
variable {P:Program} {fn:Func} {R:Ending→World→Prop} {N:Nat} {g:World} {I H:Qv} {loc:Loc} {E:Env} {r:Option Nat}
theorem zm7 {t u s tt b:Nat}{v v' v'':Value}(hr:fn.results= #[.cell t tt,.tmp u,.tmp s])(hv:VA E t=some (.pointer (some ⟨b,0,none⟩)))(hv':VA E u=some v')(hv'':VA E s=some v'')(hl:LdV P I loc tt b v)
  (h:∀ w,St g I H loc w→R (.returned (.tuple #[v,v',v''])) w):At ⟨P,r,N,[],g,H⟩ (bodyPost P fn R) .ret E I loc:=fun a w ha hw=>
 ⟨ha.defers,.tuple #[v,v',v''],by
  have e1:=ha.env _ _ hv
  have e2:=ha.env _ _ hv'
  have e3:=ha.env _ _ hv''
  rw [Array.getD_eq_getD_getElem?] at e1 e2 e3
  have l1:=hl _ _ _ hw
  simp only [results,hr]
  simp [List.mapM_cons,e1,e2,e3,asAddr,l1],h w hw⟩
theorem za0 {t u s tt tt' b b':Nat}{v v' v'':Value}(hr:fn.results= #[.cell t tt,.cell u tt',.tmp s])(hv:VA E t=some (.pointer (some ⟨b,0,none⟩)))(hv':VA E u=some (.pointer (some ⟨b',0,none⟩)))(hv'':VA E s=some v'')(hl:LdV P I loc tt b v)(hl':LdV P I loc tt' b' v')
  (h:∀ w,St g I H loc w→R (.returned (.tuple #[v,v',v''])) w):At ⟨P,r,N,[],g,H⟩ (bodyPost P fn R) .ret E I loc:=fun a w ha hw=>
 ⟨ha.defers,.tuple #[v,v',v''],by
  have e1:=ha.env _ _ hv
  have e2:=ha.env _ _ hv'
  have e3:=ha.env _ _ hv''
  rw [Array.getD_eq_getD_getElem?] at e1 e2 e3
  have l1:=hl _ _ _ hw
  have l2:=hl' _ _ _ hw
  simp only [results,hr]
  simp [List.mapM_cons,e1,e2,e3,asAddr,l1,l2],h w hw⟩
end
end
end Go.Kn
namespace Go.Proofs.YtjblkbkmblkgoaaGreat
section
open Go Go.Kn Go.Proofs
theorem zqs:Fun Tryz.prog 178:=.of Tryz.func178 (by kernel_rfl) (by kernel_rfl)
theorem ziq:PlT Tryz.prog 99 #[(0,1),(1,1),(2,1)] (.agg #[(.int .i64 0),(.int .i64 0),(.slice none 0 0)]):=⟨.of (by kernel_rfl),by kernel_rfl,fun w=>by kernel_rfl⟩
theorem Ui {I:Qv}{qa aa:Option Addr}{qn qc an ac:Nat}{qs:List Pk}{ks:List (Int×Int)}(hQ:Sl I 3 ZQ qa qn qc qs)(hqn:qn≤100000)(hA:Sl I 2 Ky aa an ac ks)(han:an≤100000)(i:Int):Vi Tryz.prog 113 [.agg #[.slice qa qn qc,.slice aa an ac],.int .i64 i] I [] (fun v I' L'=>∃ pk a m c a2 m2 c2,v= .tuple #[WG pk,.agg #[.slice a m c,.slice a2 m2 c2],.int .i64 (atE qs ks i)]∧L'=[]∧(atE qs ks i=0→pk=V8 qs ks i)∧zhY I' (atE qs ks i) a m c a2 m2 c2 (qs.eraseIdx i.toNat) aa an ac):=by
 intro g H w hw
 refine qe Tryz.func113 Tryz.ntmps113 hw ?_
 have hIc:=zxd I
 refine zR ?_
 refine Zh rfl rfl rfl (fun b_2=>?_)
 refine Qt zbA rfl rfl (fun b_4=>?_)
 refine Qt K4 rfl rfl (fun b_5=>?_)
 refine zA (zN (Qq (zR ?_)))
 refine zV (Qg rfl Z5 (fun hg=>by exact Cells.g2) rfl) ?_
 refine zM ?_
 refine qcV (vs:=[_,_]) rfl zfo (zvQ hQ hqn hA han i) ?_
 refine zM ?_
 refine zE ?_
 refine zE ?_
 refine zh Jo ?_
 refine zA ?_
 refine zN (zR ?_)
 refine zM ?_
 refine zC (zN ?_)
 refine zI ?_ ?_<;>intro hc14
 ·
  have he:atE qs ks i≠0:=by simpa using hc14
  refine Qq ?_
  have hD:=zxd I
  refine ZL ?_
  refine Q0 I [(b_5,.cells #[.slice none 0 0,.slice none 0 0] 26 (0,0)),(b_4,.cells (ZQ (atP qs ks i)).toArray 99 (0,0))] mixed ?_
  refine zT 0 rfl (Qg rfl VU (fun hg=>by exact Cells.g1) rfl) hD ?_
  refine zT 1 rfl (Qg rfl Z5 (fun hg=>by exact Cells.g0) rfl) hD ?_
  refine zT 2 rfl (Qh rfl) hD ?_
  refine qd 3 rfl ?_
  refine zh Jo ?_
  refine Qb ?_
  refine zD hD ?_
  refine qd 4 rfl ?_
  refine zh YB ?_
  refine Qb ?_
  refine zD hD ?_
  refine zT 5 rfl (QC rfl) hD ?_
  refine Qm (by kernel_rfl) ?_
  refine Qy ?_
  refine Qc (QF (Qi ?_))
  exact za0 rfl rfl rfl rfl (.ag VU (.there .here) rfl) (.ag Z5 .here rfl) (fun w hw=>⟨_,I,[],rfl,hIc,hw.drop.drop.drop,_,_,_,_,_,_,_,rfl,rfl,fun h=>absurd h he,W7 he⟩)
 have he:atE qs ks i=0:=by simpa using hc14
 have hr:0≤i∧i<(qn:Int):=by have h:=zch he;rw [hQ.len] at h;exact h
 refine Qw (Qc (Qq (Qq ?_)))
 have hD:=zxd I
 refine ZL ?_
 refine Q0 I [(b_4,.cells (ZQ (atP qs ks i)).toArray 99 (0,0)),(b_2,.cells #[.slice qa qn qc,.slice aa an ac] 26 (0,0))] mixed ?_
 refine zT 0 rfl (Qa rfl zcR) hD ?_
 refine zT 1 rfl (Qd rfl zki (fun hg=>by exact QG.h1 rfl)) hD ?_
 refine zT 2 rfl (Qa rfl X0) hD ?_
 refine zT 3 rfl (Qd rfl QA (fun hg=>by exact QG.h0 rfl)) hD ?_
 refine zT 4 rfl (Qa rfl WB) hD ?_
 refine zT 5 rfl (Qd rfl QA (fun hg=>by exact QG.h0 rfl)) hD ?_
 refine qd 6 rfl ?_
 refine qcV (vs:=[_,_]) rfl zlR (zek _ _ _) ?_
 refine Qb ?_
 refine zD hD ?_
 refine qd 7 rfl ?_
 refine qcV (vs:=[_,_]) rfl zqs (zvZ hA han (_,_)) ?_
 refine Qb ?_
 refine zD hD ?_
 refine Qm (by kernel_rfl) ?_
 refine Qy ?_
 refine Qc ?_
 refine zI ?_ ?_<;>intro hc25
 ·
  have hcut:zoH ks (atP qs ks i)=true:=hc25
  refine Qk ?_
  refine zV (QZ (ps:=[]) [_,_,_] ziq rfl rfl) ?_
  refine zh Jo ?_
  refine zN (Qq ?_)
  refine zfc (loc':=[(b_5,.cells #[.slice none 0 0,.slice none 0 0] 26 (0,0)),(b_4,.cells (ZQ (V8 qs ks i)).toArray 99 (0,0)),(b_2,.cells #[.slice qa qn qc,.slice aa an ac] 26 (0,0))]) (by (rw [zmO hcut];rfl)) ?_
  have hD:=zxd I
  refine ZL ?_
  refine Q0 I [(b_4,.cells (ZQ (V8 qs ks i)).toArray 99 (0,0)),(b_2,.cells #[.slice qa qn qc,.slice aa an ac] 26 (0,0))] mixed ?_
  refine zT 0 rfl (Qg rfl VU (fun hg=>by exact Cells.g0) rfl) hD ?_
  refine zT 1 rfl (Qg rfl Z5 (fun hg=>by exact Cells.g1) rfl) hD ?_
  refine zT 2 rfl (Qh rfl) hD ?_
  refine qd 3 rfl ?_
  refine QE (cap:=[]) (vs:=[_,_]) rfl rfl zfd .nil (zak hQ hqn hA han hr) rfl rfl ?_
  rintro vv1 I1 L1 hI1 ⟨a4,m4,c4,rfl,hm4,hZ,rfl⟩
  have hIc:=hIc.trans hI1;have hD:=hD.trans hI1
  refine Qb ?_
  refine zD hD ?_
  refine qd 4 rfl ?_
  refine zh Jo ?_
  refine Qb ?_
  refine zD hD ?_
  refine qd 5 rfl ?_
  refine zh YB ?_
  refine Qb ?_
  refine zD hD ?_
  refine zT 6 rfl (QC rfl) hD ?_
  refine Qm (by kernel_rfl) ?_
  refine Qy ?_
  refine Qc (QF ?_)
  first
  | exact za0 rfl rfl rfl rfl (.ag VU (.there .here) rfl) (.ag Z5 .here rfl) (fun w hw=>⟨_,I1,[],rfl,hIc,hw.drop.drop.drop,_,_,_,_,_,_,_,by rw [he]<;>rfl,rfl,fun _=>rfl,zdh he hZ⟩)
 have hcut:zoH ks (atP qs ks i)=false:=hc25
 refine Qw (Qc (Qq ?_))
 refine zfc (loc':=[(b_5,.cells #[.slice none 0 0,.slice none 0 0] 26 (0,0)),(b_4,.cells (ZQ (V8 qs ks i)).toArray 99 (0,0)),(b_2,.cells #[.slice qa qn qc,.slice aa an ac] 26 (0,0))]) (by (rw [zql hcut]<;>rfl)) ?_
 have hD:=zxd I
 refine ZL ?_
 refine Q0 I [(b_4,.cells (ZQ (V8 qs ks i)).toArray 99 (0,0)),(b_2,.cells #[.slice qa qn qc,.slice aa an ac] 26 (0,0))] mixed ?_
 refine zT 0 rfl (Qg rfl VU (fun hg=>by exact Cells.g0) rfl) hD ?_
 refine zT 1 rfl (Qg rfl Z5 (fun hg=>by exact Cells.g1) rfl) hD ?_
 refine zT 2 rfl (Qh rfl) hD ?_
 refine qd 3 rfl ?_
 refine QE (cap:=[]) (vs:=[_,_]) rfl rfl zfd .nil (zak hQ hqn hA han hr) rfl rfl ?_
 rintro vv2 I2 L2 hI2 ⟨a4,m4,c4,rfl,hm4,hZ,rfl⟩
 have hIc:=hIc.trans hI2;have hD:=hD.trans hI2
 refine Qb ?_
 refine zD hD ?_
 refine qd 4 rfl ?_
 refine zh Jo ?_
 refine Qb ?_
 refine zD hD ?_
 refine qd 5 rfl ?_
 refine zh YB ?_
 refine Qb ?_
 refine zD hD ?_
 refine zT 6 rfl (QC rfl) hD ?_
 refine Qm (by kernel_rfl) ?_
 refine Qy ?_
 refine Qc (QF ?_)
 first
 | exact za0 rfl rfl rfl rfl (.ag VU (.there .here) rfl) (.ag Z5 .here rfl) (fun w hw=>⟨_,I2,[],rfl,hIc,hw.drop.drop.drop,_,_,_,_,_,_,_,by rw [he]<;>rfl,rfl,fun _=>rfl,zdh he hZ⟩)
end
section
open Go Go.Kn Go.Proofs
theorem Ys:QQ Tryz.prog 108 0 0:=.of (by kernel_rfl)
theorem ZR:QQ Tryz.prog 28 0 0:=.of (by kernel_rfl)
theorem JO:Fun Tryz.prog 107:=.of Tryz.func107 (by kernel_rfl) (by kernel_rfl)
theorem YW:ScT Tryz.prog 22:=.of (by kernel_rfl)
theorem YJ:SlT Tryz.prog 22 59 1:=.of (by kernel_rfl)
theorem K6 (I:Qv)(b:Bool)(e:Int):KN Tryz.prog 107 [.bool b,.int .i64 e] I [] (fun v I' L'=>v= .tuple #[]∧I'=I∧L'=[]∧b=true) (fun v=>v= .iface 50 (.int .i64 e)∧b=false):=by
 intro g H w hw
 refine qe Tryz.func107 Tryz.ntmps107 hw ?_
 have hIc:=zxd I
 refine zR (zM ?_)
 refine zO (zN ?_)
 refine zI ?_ ?_<;>intro hc5
 ·
  refine Qk (zM ?_)
  refine zV (zb7 rfl (by kernel_rfl)) ?_
  refine zdZ rfl ?_
  repeat (first | apply Zz | apply Zm)
  exact ZE hIc ⟨rfl,by simpa using hc5⟩
 refine Qw ?_
 exact YL (Yv rfl (fun w hw=>.inl ⟨_,I,[],rfl,hIc,hw.drop,rfl,rfl,rfl,by simpa using hc5⟩))
theorem zeS {I:Qv}{bc:Nat}{pa qa aa:Option Addr}{pn pc qn qc an ac:Nat}(i:Int):KN Tryz.prog 106 [ZK bc,.int .i64 i] I [(bc,.cells #[.slice pa pn pc,.slice qa qn qc,.slice aa an ac] 108 (0,0))] (fun v I' L'=>v= .tuple #[]∧I'=I∧L'=[(bc,.cells #[.slice pa pn pc,.slice qa qn qc,.slice aa an ac] 108 (0,0))]∧0≤i∧i<(pn:Int)) (fun v=>v= .iface 50 (.int .i64 1)∧¬(0≤i∧i<(pn:Int))):=by
 intro g H w hw
 refine qe Tryz.func106 Tryz.ntmps106 hw ?_
 have hIc:=zxd I
 refine Qk (zM ?_)
 refine zC ?_
 refine zM ?_
 refine QL 2 rfl rfl rfl ?_
 refine zK (Qh rfl) ?_
 refine zK (Qh rfl) ?_
 refine zK (QM rfl) ?_
 refine zK (Qa rfl Ys) ?_
 refine zK (Qa rfl ZR) ?_
 refine zK (Qd rfl YW (fun hg=>by exact QG.h0 rfl)) ?_
 refine zK (Q9 rfl YJ) ?_
 refine zK (QT rfl rfl rfl) ?_
 refine QW rfl rfl rfl rfl rfl ?_
 refine ZN (cap:=[]) (vs:=[_,_]) rfl rfl JO .nil (K6 I (decide (i≥0)&&decide (i<(pn:Int))) 1) rfl rfl ?_ (fun pv hpv=>by (repeat (first | with_reducible refine Zz ?_ | with_reducible refine Zm ?_ | refine V6 ?_));refine ZE hIc ?_;exact (⟨hpv.1,by have h:=hpv.2;simp at h;omega⟩))
 rintro vv1 I1 L1 hI1 ⟨rfl,rfl,rfl,hok⟩
 have hIc:=hIc.trans hI1
 have hok2:0≤i∧i<(pn:Int):=by simpa using hok
 refine Qb ?_
 exact YL (Yv rfl (fun w hw=>.inl ⟨_,I1,_,rfl,hIc,hw,rfl,rfl,rfl,hok2.1,hok2.2⟩))
end
section
open Go Go.Kn Go.Proofs
theorem ZY:QQ Tryz.prog 28 1 1:=.of (by kernel_rfl)
theorem zcG:QQ Tryz.prog 47 3 3:=.of (by kernel_rfl)
theorem zkI:Fun Tryz.prog 114:=.of Tryz.func114 (by kernel_rfl) (by kernel_rfl)
theorem ziS:Fun Tryz.prog 115:=.of Tryz.func115 (by kernel_rfl) (by kernel_rfl)
theorem ztG {I:Qv}{bc:Nat}{pa qa aa:Option Addr}{pn pc qn qc an ac:Nat}{qs:List Pk}{ks:List (Int×Int)}(hQ:Sl I 3 ZQ qa qn qc qs)(hqn:qn≤100000)(hA:Sl I 2 Ky aa an ac ks)(han:an≤100000)(x:Ev):KN Tryz.prog 49 [ZK bc,.agg (zav x).toArray] I [(bc,.cells #[.slice pa pn pc,.slice qa qn qc,.slice aa an ac] 108 (0,0))] (fun v I' L'=>v= .tuple #[]∧atE qs ks x.at_=0∧∃ a m c,L'=[(bc,.cells #[.slice pa pn pc,.slice a m c,.slice aa an ac] 108 (0,0))]∧Sl I' 3 ZQ a m c (qs.eraseIdx x.at_.toNat)) (fun v=>v= .iface 50 (.int .i64 (atE qs ks x.at_))∧atE qs ks x.at_≠0):=by
 intro g H w hw
 refine qe Tryz.func49 Tryz.ntmps49 hw ?_
 have hIc:=zxd I
 refine zR ?_
 refine Zh rfl rfl rfl (fun b_3=>?_)
 refine Qb ?_
 refine QO .here (fun I1 hI1 hb1=>?_)
 have hQ:=hQ.mono hI1;have hA:=hA.mono hI1;have hIc:=hIc.trans hI1
 have h3:=BxI.of hb1
 refine Qc (Qq ?_)
 have hD:=zxd I1
 refine Q0 I1 [(bc,.cells #[.slice pa pn pc,.slice qa qn qc,.slice aa an ac] 108 (0,0))] mixed ?_
 refine QR 0 rfl (Qh rfl) (.none rfl) rfl rfl rfl (by kernel_rfl) (by kernel_rfl) (by kernel_rfl) (by repeat (first | exact QU | with_reducible refine QS ?_ | with_reducible refine QJ ?_)) hD (by repeat (first | exact .refl | exact Qe | refine .keep ?_ | refine .drop ?_ | refine Qf ?_)) ?_
 refine QR 1 rfl (QM rfl) (.none rfl) rfl rfl rfl (by kernel_rfl) (by kernel_rfl) (by kernel_rfl) (by repeat (first | exact QU | with_reducible refine QS ?_ | with_reducible refine QJ ?_)) hD (by repeat (first | exact .refl | exact Qe | refine .keep ?_ | refine .drop ?_ | refine Qf ?_)) ?_
 refine QR 2 rfl (Qa rfl Ys) (.none rfl) rfl rfl rfl (by kernel_rfl) (by kernel_rfl) (by kernel_rfl) (by repeat (first | exact QU | with_reducible refine QS ?_ | with_reducible refine QJ ?_)) hD (by repeat (first | exact .refl | exact Qe | refine .keep ?_ | refine .drop ?_ | refine Qf ?_)) ?_
 refine QR 3 rfl (Qa rfl ZY) (.none rfl) rfl rfl rfl (by kernel_rfl) (by kernel_rfl) (by kernel_rfl) (by repeat (first | exact QU | with_reducible refine QS ?_ | with_reducible refine QJ ?_)) hD (by repeat (first | exact .refl | exact Qe | refine .keep ?_ | refine .drop ?_ | refine Qf ?_)) ?_
 refine QR 4 rfl (Qg rfl Z5 (fun hg=>by exact Cells.s0 (vs:=[_,_]) rfl) rfl) (.none rfl) rfl rfl rfl (by kernel_rfl) (by kernel_rfl) (by kernel_rfl) (by repeat (first | exact QU | with_reducible refine QS ?_ | with_reducible refine QJ ?_)) hD (by repeat (first | exact .refl | exact Qe | refine .keep ?_ | refine .drop ?_ | refine Qf ?_)) ?_
 refine QR 5 rfl (Qa rfl zcG) (.none rfl) rfl rfl rfl (by kernel_rfl) (by kernel_rfl) (by kernel_rfl) (by repeat (first | exact QU | with_reducible refine QS ?_ | with_reducible refine QJ ?_)) hD (by repeat (first | exact .refl | exact Qe | refine .keep ?_ | refine .drop ?_ | refine Qf ?_)) ?_
 refine QR 6 rfl (Qd rfl QA (fun hg=>by exact QG.imm h3.out rfl)) (.none rfl) rfl rfl rfl (by kernel_rfl) (by kernel_rfl) (by kernel_rfl) (by repeat (first | exact QU | with_reducible refine QS ?_ | with_reducible refine QJ ?_)) hD (by repeat (first | exact .refl | exact Qe | refine .keep ?_ | refine .drop ?_ | refine Qf ?_)) ?_
 refine Q8 7 11 rfl rfl (by kernel_rfl) ?_ ?_
 ·
  refine QE (cap:=[]) (vs:=[_,_]) rfl rfl zkI .nil (zo3 hQ hqn hA han x.at_) rfl rfl ?_
  rintro vv2 I2 L2 hI2 ⟨a4,m4,c4,a5,m5,c5,rfl,rfl,hZ⟩
  have hIc:=hIc.trans hI2;have hD:=hD.trans hI2
  refine Qb ?_
  refine zD hD ?_
  refine QR 8 rfl (Qh rfl) (.none rfl) rfl rfl rfl (by kernel_rfl) (by kernel_rfl) (by kernel_rfl) (by repeat (first | exact QU | with_reducible refine QS ?_ | with_reducible refine QJ ?_)) hD (by repeat (first | exact .refl | exact Qe | refine .keep ?_ | refine .drop ?_ | refine Qf ?_)) ?_
  refine QR 9 rfl (Q3 rfl rfl) (.none rfl) rfl rfl rfl (by kernel_rfl) (by kernel_rfl) (by kernel_rfl) (by repeat (first | exact QU | with_reducible refine QS ?_ | with_reducible refine QJ ?_)) hD (by repeat (first | exact .refl | exact Qe | refine .keep ?_ | refine .drop ?_ | refine Qf ?_)) ?_
  refine QR 10 rfl (Q3 rfl rfl) (.none rfl) rfl rfl rfl (by kernel_rfl) (by kernel_rfl) (by kernel_rfl) (by repeat (first | exact QU | with_reducible refine QS ?_ | with_reducible refine QJ ?_)) hD (by repeat (first | exact .refl | exact Qe | refine .keep ?_ | refine .drop ?_ | refine Qf ?_)) ?_
  refine qd 11 rfl ?_
  refine Qt K4 rfl rfl (fun b_4=>?_)
  refine Qb ?_
  refine zD hD ?_
  refine qd 12 rfl ?_
  refine zh YB ?_
  refine Qb ?_
  refine zD hD ?_
  refine QR 13 rfl (QC rfl) (.none rfl) rfl rfl rfl (by kernel_rfl) (by kernel_rfl) (by kernel_rfl) (by repeat (first | exact QU | with_reducible refine QS ?_ | with_reducible refine QJ ?_)) hD (by repeat (first | exact .refl | exact Qe | refine .keep ?_ | refine .drop ?_ | refine Qf ?_)) ?_
  refine Qm (by kernel_rfl) ?_
  refine Qc (zR (zM ?_))
  refine zC ?_
  refine zM ?_
  refine ZN (cap:=[]) (vs:=[_,_]) rfl rfl JO .nil (K6 I2 (atE qs ks x.at_==0) (atE qs ks x.at_)) rfl rfl ?_ (fun pv hpv=>by (repeat (first | with_reducible refine Zz ?_ | with_reducible refine Zm ?_ | refine V6 ?_));refine ZE hIc ?_;exact (⟨hpv.1,by simpa using hpv.2⟩))
  rintro vv3 I3 L3 hI3 ⟨rfl,rfl,rfl,hok⟩
  have hZ:=hZ.mono hI3;have hIc:=hIc.trans hI3
  have he:atE qs ks x.at_=0:=by simpa using hok
  obtain ⟨rfl,rfl,rfl,hS9⟩:=hZ.ok he
  refine zN (Qk (zM ?_))
  refine zV (Qg rfl Z5 (fun hg=>by exact Cells.g0) rfl) ?_
  refine zV (QM rfl) ?_
  refine zF Ys ?_
  refine zF ZY ?_
  refine VC rfl rfl YB rfl rfl rfl rfl (by repeat (first | exact Upd.here | apply Upd.there | apply Qx)) ?_
  refine Qb ?_
  exact YL (Yv rfl (fun w hw=>.inl ⟨_,I3,_,rfl,hIc,by exact hw.subL (by repeat (first | exact .refl | refine .drop ?_)),rfl,he,_,_,_,rfl,hS9⟩))
 refine Qt K4 rfl rfl (fun b_4=>?_)
 refine Qb ?_
 refine zD hD ?_
 refine qd 7 rfl ?_
 refine QE (cap:=[]) (vs:=[_,_]) rfl rfl zkI .nil (zo3 hQ hqn hA han x.at_) rfl rfl ?_
 rintro vv4 I4 L4 hI4 ⟨a4,m4,c4,a5,m5,c5,rfl,rfl,hZ⟩
 have hIc:=hIc.trans hI4;have hD:=hD.trans hI4
 refine Qb ?_
 refine zD hD ?_
 refine QR 8 rfl (Qh rfl) (.none rfl) rfl rfl rfl (by kernel_rfl) (by kernel_rfl) (by kernel_rfl) (by repeat (first | exact QU | with_reducible refine QS ?_ | with_reducible refine QJ ?_)) hD (by repeat (first | exact .refl | exact Qe | refine .keep ?_ | refine .drop ?_ | refine Qf ?_)) ?_
 refine QR 9 rfl (Q3 rfl rfl) (.none rfl) rfl rfl rfl (by kernel_rfl) (by kernel_rfl) (by kernel_rfl) (by repeat (first | exact QU | with_reducible refine QS ?_ | with_reducible refine QJ ?_)) hD (by repeat (first | exact .refl | exact Qe | refine .keep ?_ | refine .drop ?_ | refine Qf ?_)) ?_
 refine QR 10 rfl (Q3 rfl rfl) (.none rfl) rfl rfl rfl (by kernel_rfl) (by kernel_rfl) (by kernel_rfl) (by repeat (first | exact QU | with_reducible refine QS ?_ | with_reducible refine QJ ?_)) hD (by repeat (first | exact .refl | exact Qe | refine .keep ?_ | refine .drop ?_ | refine Qf ?_)) ?_
 refine qd 12 rfl ?_
 refine zh YB ?_
 refine Qb ?_
 refine zD hD ?_
 refine QR 13 rfl (QC rfl) (.none rfl) rfl rfl rfl (by kernel_rfl) (by kernel_rfl) (by kernel_rfl) (by repeat (first | exact QU | with_reducible refine QS ?_ | with_reducible refine QJ ?_)) hD (by repeat (first | exact .refl | exact Qe | refine .keep ?_ | refine .drop ?_ | refine Qf ?_)) ?_
 refine Qm (by kernel_rfl) ?_
 refine Qc (zR (zM ?_))
 refine zC ?_
 refine zM ?_
 refine ZN (cap:=[]) (vs:=[_,_]) rfl rfl JO .nil (K6 I4 (atE qs ks x.at_==0) (atE qs ks x.at_)) rfl rfl ?_ (fun pv hpv=>by (repeat (first | with_reducible refine Zz ?_ | with_reducible refine Zm ?_ | refine V6 ?_));refine ZE hIc ?_;exact (⟨hpv.1,by simpa using hpv.2⟩))
 rintro vv5 I5 L5 hI5 ⟨rfl,rfl,rfl,hok⟩
 have hZ:=hZ.mono hI5;have hIc:=hIc.trans hI5
 have he:atE qs ks x.at_=0:=by simpa using hok
 obtain ⟨rfl,rfl,rfl,hS9⟩:=hZ.ok he
 refine zN (Qk (zM ?_))
 refine zV (Qg rfl Z5 (fun hg=>by exact Cells.g0) rfl) ?_
 refine zV (QM rfl) ?_
 refine zF Ys ?_
 refine zF ZY ?_
 refine VC rfl rfl YB rfl rfl rfl rfl (by repeat (first | exact Upd.here | apply Upd.there | apply Qx)) ?_
 refine Qb ?_
 exact YL (Yv rfl (fun w hw=>.inl ⟨_,I5,_,rfl,hIc,by exact hw.subL (by repeat (first | exact .refl | refine .drop ?_)),rfl,he,_,_,_,rfl,hS9⟩))
theorem znJ {I:Qv}{bc:Nat}{pa qa aa:Option Addr}{pn pc qn qc an ac:Nat}{qs:List Pk}{ks:List (Int×Int)}(hQ:Sl I 3 ZQ qa qn qc qs)(hqn:qn≤100000)(hA:Sl I 2 Ky aa an ac ks)(han:an≤100000)(x:Ev):KN Tryz.prog 50 [ZK bc,.agg (zav x).toArray] I [(bc,.cells #[.slice pa pn pc,.slice qa qn qc,.slice aa an ac] 108 (0,0))] (fun v I' L'=>v= .tuple #[]∧UD qs ks x.at_=0∧∃ a m c,L'=[(bc,.cells #[.slice pa pn pc,.slice a m c,.slice aa an ac] 108 (0,0))]∧Sl I' 3 ZQ a m c (qs++[atP qs ks x.at_])) (fun v=>v= .iface 50 (.int .i64 (UD qs ks x.at_))∧UD qs ks x.at_≠0):=by
 intro g H w hw
 refine qe Tryz.func50 Tryz.ntmps50 hw ?_
 have hIc:=zxd I
 refine zR ?_
 refine Zh rfl rfl rfl (fun b_3=>?_)
 refine Qb ?_
 refine QO .here (fun I1 hI1 hb1=>?_)
 have hQ:=hQ.mono hI1;have hA:=hA.mono hI1;have hIc:=hIc.trans hI1
 have h3:=BxI.of hb1
 refine Qc (Qq ?_)
 have hD:=zxd I1
 refine Q0 I1 [(bc,.cells #[.slice pa pn pc,.slice qa qn qc,.slice aa an ac] 108 (0,0))] mixed ?_
 refine QR 0 rfl (Qh rfl) (.none rfl) rfl rfl rfl (by kernel_rfl) (by kernel_rfl) (by kernel_rfl) (by repeat (first | exact QU | with_reducible refine QS ?_ | with_reducible refine QJ ?_)) hD (by repeat (first | exact .refl | exact Qe | refine .keep ?_ | refine .drop ?_ | refine Qf ?_)) ?_
 refine QR 1 rfl (QM rfl) (.none rfl) rfl rfl rfl (by kernel_rfl) (by kernel_rfl) (by kernel_rfl) (by repeat (first | exact QU | with_reducible refine QS ?_ | with_reducible refine QJ ?_)) hD (by repeat (first | exact .refl | exact Qe | refine .keep ?_ | refine .drop ?_ | refine Qf ?_)) ?_
 refine QR 2 rfl (Qa rfl Ys) (.none rfl) rfl rfl rfl (by kernel_rfl) (by kernel_rfl) (by kernel_rfl) (by repeat (first | exact QU | with_reducible refine QS ?_ | with_reducible refine QJ ?_)) hD (by repeat (first | exact .refl | exact Qe | refine .keep ?_ | refine .drop ?_ | refine Qf ?_)) ?_
 refine QR 3 rfl (Qa rfl ZY) (.none rfl) rfl rfl rfl (by kernel_rfl) (by kernel_rfl) (by kernel_rfl) (by repeat (first | exact QU | with_reducible refine QS ?_ | with_reducible refine QJ ?_)) hD (by repeat (first | exact .refl | exact Qe | refine .keep ?_ | refine .drop ?_ | refine Qf ?_)) ?_
 refine QR 4 rfl (Qg rfl Z5 (fun hg=>by exact Cells.s0 (vs:=[_,_]) rfl) rfl) (.none rfl) rfl rfl rfl (by kernel_rfl) (by kernel_rfl) (by kernel_rfl) (by repeat (first | exact QU | with_reducible refine QS ?_ | with_reducible refine QJ ?_)) hD (by repeat (first | exact .refl | exact Qe | refine .keep ?_ | refine .drop ?_ | refine Qf ?_)) ?_
 refine QR 5 rfl (Qa rfl zcG) (.none rfl) rfl rfl rfl (by kernel_rfl) (by kernel_rfl) (by kernel_rfl) (by repeat (first | exact QU | with_reducible refine QS ?_ | with_reducible refine QJ ?_)) hD (by repeat (first | exact .refl | exact Qe | refine .keep ?_ | refine .drop ?_ | refine Qf ?_)) ?_
 refine QR 6 rfl (Qd rfl QA (fun hg=>by exact QG.imm h3.out rfl)) (.none rfl) rfl rfl rfl (by kernel_rfl) (by kernel_rfl) (by kernel_rfl) (by repeat (first | exact QU | with_reducible refine QS ?_ | with_reducible refine QJ ?_)) hD (by repeat (first | exact .refl | exact Qe | refine .keep ?_ | refine .drop ?_ | refine Qf ?_)) ?_
 refine Q8 7 11 rfl rfl (by kernel_rfl) ?_ ?_
 ·
  refine QE (cap:=[]) (vs:=[_,_]) rfl rfl ziS .nil (zg0 hQ hqn hA han x.at_) rfl rfl ?_
  rintro vv2 I2 L2 hI2 ⟨a4,m4,c4,a5,m5,c5,rfl,rfl,hZ⟩
  have hIc:=hIc.trans hI2;have hD:=hD.trans hI2
  refine Qb ?_
  refine zD hD ?_
  refine QR 8 rfl (Qh rfl) (.none rfl) rfl rfl rfl (by kernel_rfl) (by kernel_rfl) (by kernel_rfl) (by repeat (first | exact QU | with_reducible refine QS ?_ | with_reducible refine QJ ?_)) hD (by repeat (first | exact .refl | exact Qe | refine .keep ?_ | refine .drop ?_ | refine Qf ?_)) ?_
  refine QR 9 rfl (Q3 rfl rfl) (.none rfl) rfl rfl rfl (by kernel_rfl) (by kernel_rfl) (by kernel_rfl) (by repeat (first | exact QU | with_reducible refine QS ?_ | with_reducible refine QJ ?_)) hD (by repeat (first | exact .refl | exact Qe | refine .keep ?_ | refine .drop ?_ | refine Qf ?_)) ?_
  refine QR 10 rfl (Q3 rfl rfl) (.none rfl) rfl rfl rfl (by kernel_rfl) (by kernel_rfl) (by kernel_rfl) (by repeat (first | exact QU | with_reducible refine QS ?_ | with_reducible refine QJ ?_)) hD (by repeat (first | exact .refl | exact Qe | refine .keep ?_ | refine .drop ?_ | refine Qf ?_)) ?_
  refine qd 11 rfl ?_
  refine Qt K4 rfl rfl (fun b_4=>?_)
  refine Qb ?_
  refine zD hD ?_
  refine qd 12 rfl ?_
  refine zh YB ?_
  refine Qb ?_
  refine zD hD ?_
  refine QR 13 rfl (QC rfl) (.none rfl) rfl rfl rfl (by kernel_rfl) (by kernel_rfl) (by kernel_rfl) (by repeat (first | exact QU | with_reducible refine QS ?_ | with_reducible refine QJ ?_)) hD (by repeat (first | exact .refl | exact Qe | refine .keep ?_ | refine .drop ?_ | refine Qf ?_)) ?_
  refine Qm (by kernel_rfl) ?_
  refine Qc (zR (zM ?_))
  refine zC ?_
  refine zM ?_
  refine ZN (cap:=[]) (vs:=[_,_]) rfl rfl JO .nil (K6 I2 (UD qs ks x.at_==0) (UD qs ks x.at_)) rfl rfl ?_ (fun pv hpv=>by (repeat (first | with_reducible refine Zz ?_ | with_reducible refine Zm ?_ | refine V6 ?_));refine ZE hIc ?_;exact (⟨hpv.1,by simpa using hpv.2⟩))
  rintro vv3 I3 L3 hI3 ⟨rfl,rfl,rfl,hok⟩
  have hZ:=hZ.mono hI3;have hIc:=hIc.trans hI3
  have he:UD qs ks x.at_=0:=by simpa using hok
  obtain ⟨rfl,rfl,rfl,hS9⟩:=hZ.ok he
  refine zN (Qk (zM ?_))
  refine zV (Qg rfl Z5 (fun hg=>by exact Cells.g0) rfl) ?_
  refine zV (QM rfl) ?_
  refine zF Ys ?_
  refine zF ZY ?_
  refine VC rfl rfl YB rfl rfl rfl rfl (by repeat (first | exact Upd.here | apply Upd.there | apply Qx)) ?_
  refine Qb ?_
  exact YL (Yv rfl (fun w hw=>.inl ⟨_,I3,_,rfl,hIc,by exact hw.subL (by repeat (first | exact .refl | refine .drop ?_)),rfl,he,_,_,_,rfl,hS9⟩))
 refine Qt K4 rfl rfl (fun b_4=>?_)
 refine Qb ?_
 refine zD hD ?_
 refine qd 7 rfl ?_
 refine QE (cap:=[]) (vs:=[_,_]) rfl rfl ziS .nil (zg0 hQ hqn hA han x.at_) rfl rfl ?_
 rintro vv4 I4 L4 hI4 ⟨a4,m4,c4,a5,m5,c5,rfl,rfl,hZ⟩
 have hIc:=hIc.trans hI4;have hD:=hD.trans hI4
 refine Qb ?_
 refine zD hD ?_
 refine QR 8 rfl (Qh rfl) (.none rfl) rfl rfl rfl (by kernel_rfl) (by kernel_rfl) (by kernel_rfl) (by repeat (first | exact QU | with_reducible refine QS ?_ | with_reducible refine QJ ?_)) hD (by repeat (first | exact .refl | exact Qe | refine .keep ?_ | refine .drop ?_ | refine Qf ?_)) ?_
 refine QR 9 rfl (Q3 rfl rfl) (.none rfl) rfl rfl rfl (by kernel_rfl) (by kernel_rfl) (by kernel_rfl) (by repeat (first | exact QU | with_reducible refine QS ?_ | with_reducible refine QJ ?_)) hD (by repeat (first | exact .refl | exact Qe | refine .keep ?_ | refine .drop ?_ | refine Qf ?_)) ?_
 refine QR 10 rfl (Q3 rfl rfl) (.none rfl) rfl rfl rfl (by kernel_rfl) (by kernel_rfl) (by kernel_rfl) (by repeat (first | exact QU | with_reducible refine QS ?_ | with_reducible refine QJ ?_)) hD (by repeat (first | exact .refl | exact Qe | refine .keep ?_ | refine .drop ?_ | refine Qf ?_)) ?_
 refine qd 12 rfl ?_
 refine zh YB ?_
 refine Qb ?_
 refine zD hD ?_
 refine QR 13 rfl (QC rfl) (.none rfl) rfl rfl rfl (by kernel_rfl) (by kernel_rfl) (by kernel_rfl) (by repeat (first | exact QU | with_reducible refine QS ?_ | with_reducible refine QJ ?_)) hD (by repeat (first | exact .refl | exact Qe | refine .keep ?_ | refine .drop ?_ | refine Qf ?_)) ?_
 refine Qm (by kernel_rfl) ?_
 refine Qc (zR (zM ?_))
 refine zC ?_
 refine zM ?_
 refine ZN (cap:=[]) (vs:=[_,_]) rfl rfl JO .nil (K6 I4 (UD qs ks x.at_==0) (UD qs ks x.at_)) rfl rfl ?_ (fun pv hpv=>by (repeat (first | with_reducible refine Zz ?_ | with_reducible refine Zm ?_ | refine V6 ?_));refine ZE hIc ?_;exact (⟨hpv.1,by simpa using hpv.2⟩))
 rintro vv5 I5 L5 hI5 ⟨rfl,rfl,rfl,hok⟩
 have hZ:=hZ.mono hI5;have hIc:=hIc.trans hI5
 have he:UD qs ks x.at_=0:=by simpa using hok
 obtain ⟨rfl,rfl,rfl,hS9⟩:=hZ.ok he
 refine zN (Qk (zM ?_))
 refine zV (Qg rfl Z5 (fun hg=>by exact Cells.g0) rfl) ?_
 refine zV (QM rfl) ?_
 refine zF Ys ?_
 refine zF ZY ?_
 refine VC rfl rfl YB rfl rfl rfl rfl (by repeat (first | exact Upd.here | apply Upd.there | apply Qx)) ?_
 refine Qb ?_
 exact YL (Yv rfl (fun w hw=>.inl ⟨_,I5,_,rfl,hIc,by exact hw.subL (by repeat (first | exact .refl | refine .drop ?_)),rfl,he,_,_,_,rfl,hS9⟩))
end
end Go.Proofs.YtjblkbkmblkgoaaGreat
