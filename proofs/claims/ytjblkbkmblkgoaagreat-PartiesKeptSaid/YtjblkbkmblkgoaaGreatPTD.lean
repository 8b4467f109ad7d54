/- partiesKept_holds, part D of the proof: what its theorems say holds without further conditions. -/
import Derived.Lib.SlicesCompact
import Derived.Lib.RowBridge
import Derived.Shelf.Small.Bits
import Derived.Shelf.Small.Strs
import Derived.Shelf.Small.Wraps
import Derived.Shelf.Strconv.Itoa0
import Derived.Shelf.Sort.Plain
import Derived.Ground.Names2Prog
import Derived.Shelf.Slices.SearchI
import Derived.Shelf.Slices.In.SortNone
import Derived.Ground.SlgnProg
import Derived.Shelf.SlicesE.Clone
import Derived.Shelf.SlicesQ.Reverse
import Derived.Ground.SlsfProg
import Derived.Shelf.SlSortCmp.InsertionK
import Derived.Shelf.SlSortCmp.SiftDownK
import Derived.Shelf.SlSortCmp.HeapSortK
import Derived.Shelf.SlSortCmp.MedianK
import Derived.Shelf.SlSortCmp.PivotK
import Derived.Shelf.SlSortCmp.ReverseRangeK
import Derived.Shelf.SlSortCmp.PartialInsertionK
import Derived.Shelf.SlSortCmp.PartitionEqualK
import Derived.Shelf.SlSortCmp.PartitionK
import Derived.Shelf.SlSortCmp.PdqK
import Derived.Shelf.SlSortCmp.WholeK
import Derived.Shelf.SlSortCmp.NoneTotal
import Derived.Test.YtjblkbkmblkgoaaGreatProg
import Derived.Test.YtjblkbkmblkgoaaGreatPTC
namespace Go.Proofs.YtjblkbkmblkgoaaGreat.S
section
open Go Go.Kn Go.Proofs
theorem zjL (I:Qt)(x:Rt)(r:Nat)(bs:List (Int×Rt))(hm:Zx bs (w64 (x.ends-1))=none):zje Tryz.prog 167 [encA x,.map (some r)] I [(r,Yk (.int .i64) encA bs)] (.bool (voidF x bs)):=by
 intro g H w hw
 refine enter Tryz.func167 rfl Tryz.ntmps167 rfl hw ?_
 refine zR ?_
 refine QR rfl rfl rfl (fun b_2=>?_)
 refine zA ?_
 refine zN (zR ?_)
 refine zM ?_
 refine zF YZ ?_
 refine zV (Qc rfl Ql (fun hg=>by exact QA.h0 rfl)) ?_
 refine zV (WV rfl rfl rfl) ?_
 refine zV (zdP hm UA Q3 rfl rfl (fun _=>(by exact Mem.m1))) ?_
 refine zM ?_
 refine zE ?_
 refine zE ?_
 refine Qq zaj rfl rfl (fun b_5=>?_)
 refine Y8 rfl rfl Um rfl rfl rfl rfl (by exact Upd.u0) ?_
 refine zA ?_
 refine zN (zR ?_)
 refine zM ?_
 refine zM ?_
 refine Qp 1 rfl rfl rfl ?_
 refine zK (Qa rfl VC) ?_
 refine zK (Qc rfl Ql (fun hg=>by exact QA.h0 rfl)) ?_
 refine zK (QD rfl rfl rfl) ?_
 refine Qy rfl rfl rfl rfl rfl ?_
 refine zM ?_
 refine Qp 6 rfl rfl rfl ?_
 refine zK (Qa rfl Ys) ?_
 refine zK (Qc rfl Ql (fun hg=>by exact QA.h0 rfl)) ?_
 refine zK (Qa rfl Ys) ?_
 refine zK (Qc rfl Ql (fun hg=>by exact QA.h1 rfl)) ?_
 refine zK (QD rfl rfl rfl) ?_
 refine Qy rfl rfl rfl rfl rfl ?_
 refine zM ?_
 refine Qp 13 rfl rfl rfl ?_
 refine zK (Qg rfl YC (fun hg=>by exact Cells.g1) rfl) ?_
 refine zK (Qa rfl YP) ?_
 refine zK (Qc rfl Ql (fun hg=>by exact QA.h1 rfl)) ?_
 refine zK (Qa rfl VC) ?_
 refine zK (Qc rfl Ql (fun hg=>by exact QA.h1 rfl)) ?_
 refine zK (Qa rfl YZ) ?_
 refine zK (Qc rfl Ql (fun hg=>by exact QA.h1 rfl)) ?_
 refine zK (Qa rfl Ys) ?_
 refine zK (Qc rfl Ql (fun hg=>by exact QA.h1 rfl)) ?_
 refine zK (QK (ps:=[(0,_),(1,_),(5,_),(10,_)]) [_,_,_,_,_,_,_,_,_,_,_] Xg rfl rfl) ?_
 refine zK (UJ rfl rfl XZ rfl) ?_
 refine Qy rfl rfl rfl rfl rfl ?_
 refine zA ?_
 refine zN ?_
 refine Qs ?_
 exact Qv rfl rfl (fun w hw=>⟨by simp [voidF,zeroR,rtEq,hm],hw.subL (.drop (.drop .refl))⟩)
theorem zh3 (I:Qt)(x:Rt)(r:Nat)(bs:List (Int×Rt)){old:Rt}(hm:Zx bs (w64 (x.ends-1))=some old):zje Tryz.prog 167 [encA x,.map (some r)] I [(r,Yk (.int .i64) encA bs)] (.bool (voidF x bs)):=by
 intro g H w hw
 refine enter Tryz.func167 rfl Tryz.ntmps167 rfl hw ?_
 refine zR ?_
 refine QR rfl rfl rfl (fun b_2=>?_)
 refine zA ?_
 refine zN (zR ?_)
 refine zM ?_
 refine zF YZ ?_
 refine zV (Qc rfl Ql (fun hg=>by exact QA.h0 rfl)) ?_
 refine zV (WV rfl rfl rfl) ?_
 refine zV (zdL hm UA Q3 rfl rfl (fun _=>(by exact Mem.m1))) ?_
 refine zM ?_
 refine zE ?_
 refine zE ?_
 refine Qq zaj rfl rfl (fun b_5=>?_)
 refine Y8 rfl rfl Um rfl rfl rfl rfl (by exact Upd.u0) ?_
 refine zA ?_
 refine zN (zR ?_)
 refine zM ?_
 refine zM ?_
 refine Qp 1 rfl rfl rfl ?_
 refine zK (Qa rfl VC) ?_
 refine zK (Qc rfl Ql (fun hg=>by exact QA.h0 rfl)) ?_
 refine zK (QD rfl rfl rfl) ?_
 refine Qy rfl rfl rfl rfl rfl ?_
 refine zM ?_
 refine Qp 6 rfl rfl rfl ?_
 refine zK (Qa rfl Ys) ?_
 refine zK (Qc rfl Ql (fun hg=>by exact QA.h0 rfl)) ?_
 refine zK (Qa rfl Ys) ?_
 refine zK (Qc rfl Ql (fun hg=>by exact QA.h1 rfl)) ?_
 refine zK (QD rfl rfl rfl) ?_
 refine Qy rfl rfl rfl rfl rfl ?_
 refine zM ?_
 refine Qp 13 rfl rfl rfl ?_
 refine zK (Qg rfl YC (fun hg=>by exact Cells.g1) rfl) ?_
 refine zK (Qa rfl YP) ?_
 refine zK (Qc rfl Ql (fun hg=>by exact QA.h1 rfl)) ?_
 refine zK (Qa rfl VC) ?_
 refine zK (Qc rfl Ql (fun hg=>by exact QA.h1 rfl)) ?_
 refine zK (Qa rfl YZ) ?_
 refine zK (Qc rfl Ql (fun hg=>by exact QA.h1 rfl)) ?_
 refine zK (Qa rfl Ys) ?_
 refine zK (Qc rfl Ql (fun hg=>by exact QA.h1 rfl)) ?_
 refine zK (QK (ps:=[(0,_),(1,_),(5,_),(10,_)]) [_,_,_,_,_,_,_,_,_,_,_] Xg rfl rfl) ?_
 refine zK (UJ rfl rfl XZ rfl) ?_
 refine Qy rfl rfl rfl rfl rfl ?_
 refine zA ?_
 refine zN ?_
 refine Qs ?_
 exact Qv rfl rfl (fun w hw=>⟨by simp [voidF,zeroR,rtEq,hm],hw.subL (.drop (.drop .refl))⟩)
theorem zwM (I:Qt)(x:Rt)(r:Nat)(bs:List (Int×Rt)):zje Tryz.prog 167 [encA x,.map (some r)] I [(r,Yk (.int .i64) encA bs)] (.bool (voidF x bs)):=by
 cases hm:Zx bs (w64 (x.ends-1)) with
 | none=>exact zjL I x r bs hm
 | some old=>exact zh3 I x r bs hm
def evF (k:Nat):Value:=.func (.func k) #[] #[]
def We:List (Int×Nat):=[(1,164),(2,166),(3,166),(4,167)]
theorem zu3 (I:Qt):Vl Tryz.prog 100 [] I [] (fun v I' L=>∃ r,v= .map (some r)∧I'=I∧L=[(r,Yk (.int .i64) evF We)]):=by
 intro g H w hw
 refine enter Tryz.func100 rfl Tryz.ntmps100 rfl hw ?_
 refine zR ?_
 refine zA ?_
 refine zN (zR ?_)
 refine Z3 rfl rfl (fun r_1=>?_)
 refine QF (m:=[]) (ev:=evF) 164 zbn Q3 rfl rfl rfl rfl (by exact Upd.u0) ?_
 refine QF 166 zbn Q3 rfl rfl rfl rfl (by exact Upd.u0) ?_
 refine QF 166 zbn Q3 rfl rfl rfl rfl (by exact Upd.u0) ?_
 refine QF 167 zbn Q3 rfl rfl rfl rfl (by exact Upd.u0) ?_
 refine zM ?_
 refine zA ?_
 refine zN ?_
 refine Qs ?_
 exact Qv rfl rfl (fun w hw=>⟨_,I,_,rfl,zzm _,hw,r_1,rfl,rfl,rfl⟩)
theorem zol {k:Int}{f:Nat}(h:Zx We k=some f):Fun Tryz.prog f:=by
 simp only [We,Zx] at h
 split at h
 ·
  cases h;exact zsZ
 ·
  split at h
  ·
   cases h;exact zlV
  ·
   split at h
   ·
    cases h;exact zlV
   ·
    split at h
    ·
     cases h;exact zqL
    ·
     cases h
theorem zaL (k:Int):(Zx We k).isSome=zcA k:=by
 simp only [We,Zx,zcA]
 by_cases h1:k=1
 ·
  subst h1;rfl
 ·
  by_cases h2:k=2
  ·
   subst h2;rfl
  ·
   by_cases h3:k=3
   ·
    subst h3;rfl
   ·
    by_cases h4:k=4
    ·
     subst h4;rfl
    ·
     simp [h1,h2,h3,h4,Ne.symm h1,Ne.symm h2,Ne.symm h3,Ne.symm h4]
theorem zxI {k:Int}{f:Nat}(h:Zx We k=some f)(I:Qt)(x:Rt)(r:Nat)(bs:List (Int×Rt)):zje Tryz.prog f [encA x,.map (some r)] I [(r,Yk (.int .i64) encA bs)] (.bool (askF k x bs)):=by
 simp only [We,Zx] at h
 split at h
 ·
  rename_i e;cases h;subst e;exact (zuu I x _).k _
 ·
  split at h
  ·
   rename_i e;cases h;subst e;exact (zcw I x _).k _
  ·
   split at h
   ·
    rename_i e;cases h;subst e;exact (zcw I x _).k _
   ·
    split at h
    ·
     rename_i e;cases h;subst e;exact zwM I x r bs
    ·
     cases h
theorem zve {I:Qt}{av:Option Addr}{n c:Nat}{xs:List Rt}(hS:Sl I 11 encR av n c xs)(hn:n≤100000){i:Nat}{x:Rt}(hx:xs[i]? =some x):ZA Tryz.prog 196 [.slice av n c,.int .i64 i] I (.bool (zga (xs.take i) x)):=by
 intro g H w hw
 refine enter Tryz.func196 rfl Tryz.ntmps196 rfl hw ?_
 refine Qm ?_
 have hi:i<n:=by have:=(List.getElem?_eq_some_iff.1 hx).1;rw [hS.len] at this;exact this
 refine Qi ?_
 refine zA ?_
 refine zN ?_
 refine zmZ (fun E I' loc'=>E=[(0,.slice av n c),(1,.int .i64 i)]∧I'=I∧loc'=[]∧zga (xs.take i) x=false) ?_ ?_
 ·
  refine zR ?_
  refine zA ?_
  refine zN ?_
  refine Qw ?_
  refine zhF (fun m E I' loc'=>∃ k:Nat,m=i-k∧E=[(0,.slice av n c),(1,.int .i64 i),(5,.int .i64 k)]∧I'=I∧loc'=[]∧k≤i∧(xs.take k).any (fun y=>(w64 (y.no+1)==x.ends)&&(y.kind != 4)&&decide (y.known≤x.known))=false) _ _ _ _ ⟨0,rfl,rfl,rfl,rfl,Nat.zero_le _,rfl⟩ (.cons rfl (.cons rfl (.cons rfl .nil))) (zzm _) rfl ?_
  rintro m E I' loc' ⟨k,rfl,rfl,rfl,rfl,hk,hinv⟩
  refine Qm ?_
  refine zR ?_
  refine zM ?_
  refine zM ?_
  refine zC ?_
  refine zN ?_
  refine zI ?_ ?_<;>intro hc8
  ·
   have hlt:k<i:=by simpa using hc8
   obtain ⟨y,hy⟩:=hS.at (show k<n by omega)
   refine Qr ?_
   refine Qd ?_
   refine Qm ?_
   refine Qw ?_
   refine Qm ?_
   refine Xi mixed (by kernel_rfl) ?_
   refine KT (Qf rfl) rfl rfl rfl ?_
   refine KT (Qf rfl) rfl rfl rfl ?_
   refine KT (QG rfl rfl Z9 (by assumption) (fun hg=>by omega)) rfl rfl rfl ?_
   refine KT (Qa rfl YP) rfl rfl rfl ?_
   refine KT (Qc rfl Ql (fun hg=>by exact zzo hS hy rfl)) rfl rfl rfl ?_
   refine KT (WV rfl rfl rfl) rfl rfl rfl ?_
   refine KT (Qf rfl) rfl rfl rfl ?_
   refine KT (Qf rfl) rfl rfl rfl ?_
   refine KT (QG rfl rfl Z9 (by assumption) (fun hg=>by omega)) rfl rfl rfl ?_
   refine KT (Qa rfl YZ) rfl rfl rfl ?_
   refine KT (Qc rfl Ql (fun hg=>by exact zzo hS hx rfl)) rfl rfl rfl ?_
   refine KT (QD rfl rfl rfl) rfl rfl rfl ?_
   refine KT (Qf rfl) rfl rfl rfl ?_
   refine VB 12 rfl rfl rfl ?_
   refine Vq (Qf rfl) (.some rfl rfl rfl rfl gbt) rfl rfl rfl ?_
   refine Vq (Qf rfl) (.some rfl rfl rfl rfl gbt) rfl rfl rfl ?_
   refine Vq (QG rfl rfl Z9 (by assumption) (fun hg=>by omega)) (.some rfl rfl rfl rfl gbt) rfl rfl rfl ?_
   refine Vq (Qa rfl VC) (.some rfl rfl rfl rfl gbt) rfl rfl rfl ?_
   refine Vq (Qc rfl Ql (fun hg=>by exact zzo hS hy rfl)) (.some rfl rfl rfl rfl gbt) rfl rfl rfl ?_
   refine Vq (QD rfl rfl rfl) (.some rfl rfl rfl rfl gbt) rfl rfl rfl ?_
   refine Wq rfl rfl rfl rfl rfl ?_
   refine KT (Qf rfl) rfl rfl rfl ?_
   refine VB 20 rfl rfl rfl ?_
   refine Vq (Qf rfl) (.some rfl rfl rfl rfl gbt) rfl rfl rfl ?_
   refine Vq (Qf rfl) (.some rfl rfl rfl rfl gbt) rfl rfl rfl ?_
   refine Vq (QG rfl rfl Z9 (by assumption) (fun hg=>by omega)) (.some rfl rfl rfl rfl gbt) rfl rfl rfl ?_
   refine Vq (Qa rfl Ys) (.some rfl rfl rfl rfl gbt) rfl rfl rfl ?_
   refine Vq (Qc rfl Ql (fun hg=>by exact zzo hS hy rfl)) (.some rfl rfl rfl rfl gbt) rfl rfl rfl ?_
   refine Vq (Qf rfl) (.some rfl rfl rfl rfl gbt) rfl rfl rfl ?_
   refine Vq (Qf rfl) (.some rfl rfl rfl rfl gbt) rfl rfl rfl ?_
   refine Vq (QG rfl rfl Z9 (by assumption) (fun hg=>by omega)) (.some rfl rfl rfl rfl gbt) rfl rfl rfl ?_
   refine Vq (Qa rfl Ys) (.some rfl rfl rfl rfl gbt) rfl rfl rfl ?_
   refine Vq (Qc rfl Ql (fun hg=>by exact zzo hS hx rfl)) (.some rfl rfl rfl rfl gbt) rfl rfl rfl ?_
   refine Vq (QD rfl rfl rfl) (.some rfl rfl rfl rfl gbt) rfl rfl rfl ?_
   refine Wq rfl rfl rfl rfl rfl ?_
   refine WP ?_
   refine Qd ?_
   refine zI ?_ ?_<;>intro hc43
   ·
    refine zR ?_
    refine zA ?_
    refine zN ?_
    refine Qs ?_
    refine Qj ?_
    refine Qe ?_
    refine Qe ?_
    refine Qj ?_
    refine Qe ?_
    exact Qv rfl rfl (fun w hw=>⟨by (rw [show zga (xs.take i) x=true from ze5 hy hlt hc43]),hw.drop⟩)
   ·
    refine Qr ?_
    refine Qk ?_
    refine Qd ?_
    refine Qi ?_
    refine zM ?_
    refine zV (Yz rfl rfl rfl (fun _=>by omega)) ?_
    refine zA ?_
    refine Qb ?_
    exact Wj _ ⟨i-(k+1),by omega,k+1,rfl,rfl,rfl,rfl,by omega,zap hy hinv hc43⟩ (.cons rfl (.cons rfl (.cons rfl .nil)))
  ·
   have hge:i≤k:=by simpa using hc8
   refine Zi ?_
   refine Qo ?_
   refine Qo ?_
   refine Qz ?_
   exact Wj _ ⟨rfl,rfl,rfl,by rw [show i=k from by omega];exact hinv⟩ (.cons rfl (.cons rfl .nil))
 ·
  rintro E I' loc' ⟨rfl,rfl,rfl,hfin⟩
  refine zR ?_
  refine zA ?_
  refine zN ?_
  refine Qs ?_
  exact Qv rfl rfl (fun w hw=>⟨by (rw [hfin]),hw.drop⟩)
theorem zfH {I:Qt}{av:Option Addr}{n c:Nat}{xs:List Rt}(hS:Sl I 11 encR av n c xs)(hn:n≤100000){i:Nat}{x:Rt}(hx:xs[i]? =some x):ZA Tryz.prog 149 [.slice av n c,.int .i64 i] I (.bool (U9 xs i)):=by
 intro g H w hw
 refine enter Tryz.func149 rfl Tryz.ntmps149 rfl hw ?_
 refine Qm ?_
 have hi:i<n:=by have:=(List.getElem?_eq_some_iff.1 hx).1;rw [hS.len] at this;exact this
 obtain ⟨y,hy⟩:=hS.at (show ((i:Int)-1).toNat<n by omega)
 have hright:U9 xs i=VQ i (xs.take i) y x:=by unfold U9 zcx;rw [hx,hy];rfl
 have Hright:=Lib.hid hright;clear hright
 refine Qi ?_
 refine zA ?_
 refine zN (zR ?_)
 refine zM ?_
 refine zM ?_
 refine zV (QG rfl rfl Z9 (by assumption) (fun hg=>by omega)) ?_
 refine zV (Qg rfl YC (fun hg=>by exact zzn hS hx) rfl) ?_
 refine Qq zaj rfl rfl (fun b_5=>?_)
 refine Y8 rfl rfl Um rfl rfl rfl rfl (by exact Upd.u0) ?_
 refine zN ?_
 refine Qm ?_
 refine Qm ?_
 refine Xi mixed (by kernel_rfl) ?_
 refine KT (Qa rfl YP) rfl rfl rfl ?_
 refine KT (Qc rfl Ql (fun hg=>by exact QA.h0 rfl)) rfl rfl rfl ?_
 refine UD (cap:=[]) (vs:=[_,_,_]) rfl rfl Ko (Yg I _ _ _) rfl rfl ?_
 refine KT (Zs rfl) rfl rfl rfl ?_
 refine KT (Qf rfl) rfl rfl rfl ?_
 refine VZ 4 rfl rfl rfl ?_
 refine Vq (Qf rfl) (.some rfl rfl rfl rfl gbf) rfl rfl rfl ?_
 refine Vq (QD rfl rfl rfl) (.some rfl rfl rfl rfl gbf) rfl rfl rfl ?_
 refine Vq (Qf rfl) (.some rfl rfl rfl rfl gbf) rfl rfl rfl ?_
 refine VB 7 rfl rfl rfl ?_
 refine Vq (Qa rfl YP) (.some rfl rfl rfl rfl gbt) rfl rfl rfl ?_
 refine Vq (Qc rfl Ql (fun hg=>by exact QA.h0 rfl)) (.some rfl rfl rfl rfl gbt) rfl rfl rfl ?_
 refine Vq (Qf rfl) (.some rfl rfl rfl rfl gbt) rfl rfl rfl ?_
 refine Vq (Qf rfl) (.some rfl rfl rfl rfl gbt) rfl rfl rfl ?_
 refine Vq (Yz rfl rfl rfl (fun _=>by omega)) (.some rfl rfl rfl rfl gbt) rfl rfl rfl ?_
 refine Vq (QG rfl rfl Z9 (by assumption) (fun hg=>by (simp [Yf] at hg;omega))) (.some rfl rfl rfl rfl gbt) rfl rfl rfl ?_
 refine Vq (Qa rfl YP) (.some rfl rfl rfl rfl gbt) rfl rfl rfl ?_
 refine Vq (Qc rfl Ql (fun hg=>by exact zzo hS (k:=((i:Int)-1).toNat) hy rfl)) (.some rfl rfl rfl rfl gbt) rfl rfl rfl ?_
 refine Vq (QD rfl rfl rfl) (.some rfl rfl rfl rfl gbt) rfl rfl rfl ?_
 refine zbG rfl rfl rfl (.some rfl rfl rfl rfl gbf) rfl rfl ?_
 refine UN rfl rfl rfl rfl rfl ?_
 refine KT (Qf rfl) rfl rfl rfl ?_
 refine VZ 19 rfl rfl rfl ?_
 refine Vq (Qa rfl Ys) (.some rfl rfl rfl rfl gbf) rfl rfl rfl ?_
 refine Vq (Qc rfl Ql (fun hg=>by exact QA.h0 rfl)) (.some rfl rfl rfl rfl gbf) rfl rfl rfl ?_
 refine JF (cap:=[]) (vs:=[_,_,_]) rfl rfl Ko (fun hg=>Yg I _ _ _) (.some rfl rfl rfl rfl gbf) rfl rfl ?_
 refine Vq (Zs rfl) (.some rfl rfl rfl rfl gbf) rfl rfl rfl ?_
 refine UN rfl rfl rfl rfl rfl ?_
 refine WP ?_
 refine Qd ?_
 refine zI ?_ ?_<;>intro hc34
 ·
  refine zR ?_
  refine zA ?_
  refine zN ?_
  refine Qs ?_
  refine Qe ?_
  exact Qv rfl rfl (fun w hw=>⟨by rw [Hright.out];first | (simp only [VQ,Wx,U5, *,if_true,if_false,Bool.false_eq_true];done) | (simp only [VQ,Wx,U5, *,if_true,if_false,Bool.false_eq_true];rfl),hw.drop⟩)
 ·
  refine Qr ?_
  refine Qd ?_
  refine Qm ?_
  refine zR ?_
  refine zF VC ?_
  refine zV (Qc rfl Ql (fun hg=>by exact QA.h0 rfl)) ?_
  refine zN ?_
  refine Qw ?_
  refine zR ?_
  refine zC ?_
  refine zA ?_
  refine zN ?_
  refine zI ?_ ?_<;>intro hc37
  ·
   refine zR ?_
   refine zV (Qg rfl YC (fun hg=>by exact Cells.g0) rfl) ?_
   refine Vw (cap:=[]) (vs:=[_]) rfl rfl zfZ (zmJ I x) rfl rfl ?_
   refine zM ?_
   refine Qp 2 rfl rfl rfl ?_
   refine zK (Qa rfl Jw) ?_
   refine zK (Qc rfl Ql (fun hg=>by exact QA.h0 rfl)) ?_
   refine ZZ (cap:=[]) (vs:=[_,_,_]) rfl rfl Ko (fun hg=>Yg I _ _ _) (.some rfl rfl rfl rfl gbt) rfl rfl ?_
   refine Qy rfl rfl rfl rfl rfl ?_
   refine zM ?_
   refine Qp 7 rfl rfl rfl ?_
   refine zK (Qa rfl Jl) ?_
   refine zK (Qc rfl VI (fun hg=>by exact QA.h0 rfl)) ?_
   refine ZZ (cap:=[]) (vs:=[_]) rfl rfl zkn (fun hg=>zpG I _) (.some rfl rfl rfl rfl gbt) rfl rfl ?_
   refine Qy rfl rfl rfl rfl rfl ?_
   refine zM ?_
   refine Qp 12 rfl rfl rfl ?_
   refine zK (Qa rfl Jo) ?_
   refine zK (Qc rfl VI (fun hg=>by exact QA.h0 rfl)) ?_
   refine ZZ (cap:=[]) (vs:=[_]) rfl rfl zkn (fun hg=>zpG I _) (.some rfl rfl rfl rfl gbt) rfl rfl ?_
   refine Qy rfl rfl rfl rfl rfl ?_
   refine zM ?_
   refine Qp 17 rfl rfl rfl ?_
   refine zK (Qa rfl JS) ?_
   refine zK (Qc rfl Ql (fun hg=>by exact QA.h0 rfl)) ?_
   refine zK (QD rfl rfl rfl) ?_
   refine Qy rfl rfl rfl rfl rfl ?_
   refine zM ?_
   refine Qp 22 rfl rfl rfl ?_
   refine zK (Qa rfl JU) ?_
   refine zK (Qc rfl Ql (fun hg=>by exact QA.h0 rfl)) ?_
   refine zK (QD rfl rfl rfl) ?_
   refine Qy rfl rfl rfl rfl rfl ?_
   refine zM ?_
   refine Qp 27 rfl rfl rfl ?_
   refine zK (Qa rfl YZ) ?_
   refine zK (Qc rfl Ql (fun hg=>by exact QA.h0 rfl)) ?_
   refine zK (QD rfl rfl rfl) ?_
   refine Qy rfl rfl rfl rfl rfl ?_
   refine zA ?_
   refine zN ?_
   refine Qs ?_
   refine Qj ?_
   refine Qe ?_
   exact Qv rfl rfl (fun w hw=>⟨by rw [Hright.out];first | (simp only [VQ,Wx,U5, *,if_true,if_false,Bool.false_eq_true];done) | (simp only [VQ,Wx,U5, *,if_true,if_false,Bool.false_eq_true];rfl),hw.drop⟩)
  ·
   refine zR ?_
   refine zC ?_
   refine zA ?_
   refine zN ?_
   refine zI ?_ ?_<;>intro hc71
   ·
    refine zR ?_
    refine zV (Qg rfl YC (fun hg=>by exact Cells.g0) rfl) ?_
    refine Vw (cap:=[]) (vs:=[_]) rfl rfl zfZ (zmJ I x) rfl rfl ?_
    refine zM ?_
    refine Qp 2 rfl rfl rfl ?_
    refine zK (Qa rfl Jw) ?_
    refine zK (Qc rfl Ql (fun hg=>by exact QA.h0 rfl)) ?_
    refine ZZ (cap:=[]) (vs:=[_,_,_]) rfl rfl Ko (fun hg=>Yg I _ _ _) (.some rfl rfl rfl rfl gbt) rfl rfl ?_
    refine Qy rfl rfl rfl rfl rfl ?_
    refine zM ?_
    refine Qp 7 rfl rfl rfl ?_
    refine zK (Qa rfl JS) ?_
    refine zK (Qc rfl Ql (fun hg=>by exact QA.h0 rfl)) ?_
    refine ZZ (cap:=[]) (vs:=[_,_,_]) rfl rfl Ko (fun hg=>Yg I _ _ _) (.some rfl rfl rfl rfl gbt) rfl rfl ?_
    refine Qy rfl rfl rfl rfl rfl ?_
    refine zM ?_
    refine Qp 12 rfl rfl rfl ?_
    refine zK (Qa rfl JU) ?_
    refine zK (Qc rfl Ql (fun hg=>by exact QA.h0 rfl)) ?_
    refine ZZ (cap:=[]) (vs:=[_,_,_]) rfl rfl Ko (fun hg=>Yg I _ _ _) (.some rfl rfl rfl rfl gbt) rfl rfl ?_
    refine Qy rfl rfl rfl rfl rfl ?_
    refine zM ?_
    refine Qp 17 rfl rfl rfl ?_
    refine zK (Qa rfl Jl) ?_
    refine zK (Qc rfl VI (fun hg=>by exact QA.h0 rfl)) ?_
    refine zK (Ki rfl rfl rfl) ?_
    refine Qy rfl rfl rfl rfl rfl ?_
    refine zM ?_
    refine Qp 22 rfl rfl rfl ?_
    refine zK (Qa rfl Jo) ?_
    refine zK (Qc rfl VI (fun hg=>by exact QA.h0 rfl)) ?_
    refine zK (Ki rfl rfl rfl) ?_
    refine Qy rfl rfl rfl rfl rfl ?_
    refine zM ?_
    refine Qp 27 rfl rfl rfl ?_
    refine zK (Qa rfl YZ) ?_
    refine zK (Qc rfl Ql (fun hg=>by exact QA.h0 rfl)) ?_
    refine zK (QD rfl rfl rfl) ?_
    refine Qy rfl rfl rfl rfl rfl ?_
    refine zA ?_
    refine zN ?_
    refine Qs ?_
    refine Qj ?_
    refine Qe ?_
    exact Qv rfl rfl (fun w hw=>⟨by rw [Hright.out];first | (simp only [VQ,Wx,U5, *,if_true,if_false,Bool.false_eq_true];done) | (simp only [VQ,Wx,U5, *,if_true,if_false,Bool.false_eq_true];rfl),hw.drop⟩)
   ·
    refine zR ?_
    refine zC ?_
    refine zA ?_
    refine zN ?_
    refine zI ?_ ?_<;>intro hc105
    ·
     refine zR ?_
     refine zV (Qg rfl YC (fun hg=>by exact Cells.g0) rfl) ?_
     refine Vw (cap:=[]) (vs:=[_]) rfl rfl zfZ (zmJ I x) rfl rfl ?_
     refine zM ?_
     refine Qp 2 rfl rfl rfl ?_
     refine zK (Qa rfl Jw) ?_
     refine zK (Qc rfl Ql (fun hg=>by exact QA.h0 rfl)) ?_
     refine ZZ (cap:=[]) (vs:=[_,_,_]) rfl rfl Ko (fun hg=>Yg I _ _ _) (.some rfl rfl rfl rfl gbt) rfl rfl ?_
     refine Qy rfl rfl rfl rfl rfl ?_
     refine zM ?_
     refine Qp 7 rfl rfl rfl ?_
     refine zK (Qa rfl JS) ?_
     refine zK (Qc rfl Ql (fun hg=>by exact QA.h0 rfl)) ?_
     refine ZZ (cap:=[]) (vs:=[_,_,_]) rfl rfl Ko (fun hg=>Yg I _ _ _) (.some rfl rfl rfl rfl gbt) rfl rfl ?_
     refine Qy rfl rfl rfl rfl rfl ?_
     refine zM ?_
     refine Qp 12 rfl rfl rfl ?_
     refine zK (Qa rfl JU) ?_
     refine zK (Qc rfl Ql (fun hg=>by exact QA.h0 rfl)) ?_
     refine ZZ (cap:=[]) (vs:=[_,_,_]) rfl rfl Ko (fun hg=>Yg I _ _ _) (.some rfl rfl rfl rfl gbt) rfl rfl ?_
     refine Qy rfl rfl rfl rfl rfl ?_
     refine zM ?_
     refine Qp 17 rfl rfl rfl ?_
     refine zK (Qa rfl Jl) ?_
     refine zK (Qc rfl VI (fun hg=>by exact QA.h0 rfl)) ?_
     refine zK (Ki rfl rfl rfl) ?_
     refine Qy rfl rfl rfl rfl rfl ?_
     refine zM ?_
     refine Qp 22 rfl rfl rfl ?_
     refine zK (Qa rfl Jo) ?_
     refine zK (Qc rfl VI (fun hg=>by exact QA.h0 rfl)) ?_
     refine zK (Ki rfl rfl rfl) ?_
     refine Qy rfl rfl rfl rfl rfl ?_
     refine zM ?_
     refine Qp 27 rfl rfl rfl ?_
     refine zK (Qa rfl YZ) ?_
     refine zK (Qc rfl Ql (fun hg=>by exact QA.h0 rfl)) ?_
     refine zK (QD rfl rfl rfl) ?_
     refine Qy rfl rfl rfl rfl rfl ?_
     refine zA ?_
     refine zN ?_
     refine Qs ?_
     refine Qj ?_
     refine Qe ?_
     exact Qv rfl rfl (fun w hw=>⟨by rw [Hright.out];first | (simp only [VQ,Wx,U5, *,if_true,if_false,Bool.false_eq_true];done) | (simp only [VQ,Wx,U5, *,if_true,if_false,Bool.false_eq_true];rfl),hw.drop⟩)
    ·
     refine zR ?_
     refine zC ?_
     refine zA ?_
     refine zN ?_
     refine zI ?_ ?_<;>intro hc139
     ·
      refine zR ?_
      refine zM ?_
      refine zM ?_
      refine Vw (cap:=[]) (vs:=[_,_]) rfl rfl zsd (zve hS hn hx) rfl rfl ?_
      refine zM ?_
      refine Qp 3 rfl rfl rfl ?_
      refine zK (Qa rfl Jw) ?_
      refine zK (Qc rfl Ql (fun hg=>by exact QA.h0 rfl)) ?_
      refine zK (QD rfl rfl rfl) ?_
      refine Qy rfl rfl rfl rfl rfl ?_
      refine zM ?_
      refine Qp 8 rfl rfl rfl ?_
      refine zK (Qa rfl JS) ?_
      refine zK (Qc rfl Ql (fun hg=>by exact QA.h0 rfl)) ?_
      refine zK (QD rfl rfl rfl) ?_
      refine Qy rfl rfl rfl rfl rfl ?_
      refine zM ?_
      refine Qp 13 rfl rfl rfl ?_
      refine zK (Qa rfl JU) ?_
      refine zK (Qc rfl Ql (fun hg=>by exact QA.h0 rfl)) ?_
      refine zK (QD rfl rfl rfl) ?_
      refine Qy rfl rfl rfl rfl rfl ?_
      refine zM ?_
      refine Qp 18 rfl rfl rfl ?_
      refine zK (Qa rfl Jl) ?_
      refine zK (Qc rfl VI (fun hg=>by exact QA.h0 rfl)) ?_
      refine zK (Ki rfl rfl rfl) ?_
      refine Qy rfl rfl rfl rfl rfl ?_
      refine zM ?_
      refine Qp 23 rfl rfl rfl ?_
      refine zK (Qa rfl Jo) ?_
      refine zK (Qc rfl VI (fun hg=>by exact QA.h0 rfl)) ?_
      refine zK (Ki rfl rfl rfl) ?_
      refine Qy rfl rfl rfl rfl rfl ?_
      refine zM ?_
      refine Qp 28 rfl rfl rfl ?_
      refine zK (Qa rfl JV) ?_
      refine zK (Qc rfl Ql (fun hg=>by exact QA.h0 rfl)) ?_
      refine zK (QD rfl rfl rfl) ?_
      refine Qy rfl rfl rfl rfl rfl ?_
      refine zM ?_
      refine Qp 33 rfl rfl rfl ?_
      refine zK (Qa rfl Jn) ?_
      refine zK (Qc rfl Ql (fun hg=>by exact QA.h0 rfl)) ?_
      refine zK (QD rfl rfl rfl) ?_
      refine Qy rfl rfl rfl rfl rfl ?_
      refine zA ?_
      refine zN ?_
      refine Qs ?_
      refine Qj ?_
      refine Qe ?_
      exact Qv rfl rfl (fun w hw=>⟨by rw [Hright.out];first | (simp only [VQ,Wx,U5, *,if_true,if_false,Bool.false_eq_true];done) | (simp only [VQ,Wx,U5, *,if_true,if_false,Bool.false_eq_true];rfl),hw.drop⟩)
     ·
      refine Qr ?_
      refine Qk ?_
      refine Qd ?_
      refine zR ?_
      refine zA ?_
      refine zN ?_
      refine Qs ?_
      exact Qv rfl rfl (fun w hw=>⟨by rw [Hright.out];first | (simp only [VQ,Wx,U5, *,if_true,if_false,Bool.false_eq_true];done) | (simp only [VQ,Wx,U5, *,if_true,if_false,Bool.false_eq_true];rfl),hw.drop⟩)
theorem w_rcheck {I:Qt}{av:Option Addr}{n c:Nat}{xs:List Rt}(hS:Sl I 11 encR av n c xs)(hn:n≤100000):ZA Tryz.prog 78 [.slice av n c] I (.int .i64 (fCheck xs)):=by
 intro g H w hw
 refine enter Tryz.func78 rfl Tryz.ntmps78 rfl hw ?_
 refine zR ?_
 refine zA ?_
 refine zN ?_
 refine Qm ?_
 refine zR ?_
 refine zM ?_
 refine zQ Z9 ?_
 refine zC ?_
 refine zN ?_
 refine zI ?_ ?_<;>intro hc6
 ·
  have h5:xs.length>512:=by rw [hS.len];simp at hc6;omega
  refine zR ?_
  refine zA ?_
  refine zN ?_
  refine Qs ?_
  refine Qe ?_
  exact Qv rfl rfl (fun w hw=>⟨by unfold fCheck;first | (rw [if_pos h5]) | (rw [if_neg h5,if_pos hfin]) | (rw [if_neg h5,if_neg];intro hall;rw [List.all_eq_true] at hall;have:=hall k (List.mem_range.2 (by rw [hS.len];exact hlt));rw [this] at hc16;cases hc16),hw.drop⟩)
 ·
  have h5:¬xs.length>512:=by rw [hS.len];simp at hc6;omega
  refine Qr ?_
  refine Qd ?_
  refine zmZ (fun E I' loc'=>E=[(0,.slice av n c)]∧I'=I∧loc'=[]∧(List.range xs.length).all (U9 xs)=true) ?_ ?_
  ·
   refine zR ?_
   refine zA ?_
   refine zN ?_
   refine Qw ?_
   refine zhF (fun m E I' loc'=>∃ k:Nat,m=n-k∧E=[(0,.slice av n c),(3,.int .i64 k)]∧I'=I∧loc'=[]∧k≤n∧(List.range k).all (U9 xs)=true) _ _ _ _ ⟨0,rfl,rfl,rfl,rfl,Nat.zero_le _,rfl⟩ (.cons rfl (.cons rfl .nil)) (zzm _) rfl ?_
   rintro m E I' loc' ⟨k,rfl,rfl,rfl,rfl,hk,hinv⟩
   refine Qm ?_
   refine zR ?_
   refine zM ?_
   refine zM ?_
   refine zQ Z9 ?_
   refine zC ?_
   refine zN ?_
   refine zI ?_ ?_<;>intro hc10
   ·
    have hlt:k<n:=by simpa using hc10
    obtain ⟨x,hx⟩:=hS.at hlt
    refine Qr ?_
    refine Qd ?_
    refine Qm ?_
    refine Qw ?_
    refine zR ?_
    refine zM ?_
    refine zM ?_
    refine Vw (cap:=[]) (vs:=[_,_]) rfl rfl zr8 (zfH hS hn hx) rfl rfl ?_
    refine zO ?_
    refine zN ?_
    refine zI ?_ ?_<;>intro hc16
    ·
     refine zR ?_
     refine zA ?_
     refine zN ?_
     refine Qs ?_
     refine Qj ?_
     refine Qe ?_
     refine Qe ?_
     refine Qj ?_
     refine Qe ?_
     exact Qv rfl rfl (fun w hw=>⟨by unfold fCheck;first | (rw [if_pos h5]) | (rw [if_neg h5,if_pos hfin]) | (rw [if_neg h5,if_neg];intro hall;rw [List.all_eq_true] at hall;have:=hall k (List.mem_range.2 (by rw [hS.len];exact hlt));rw [this] at hc16;cases hc16),hw.drop⟩)
    ·
     refine Qr ?_
     refine Qk ?_
     refine Qd ?_
     refine Qi ?_
     refine zM ?_
     refine zV (Yz rfl rfl rfl (fun _=>by omega)) ?_
     refine zA ?_
     refine Qb ?_
     exact Wj _ ⟨n-(k+1),by omega,k+1,rfl,rfl,rfl,rfl,by omega,by rw [List.range_succ,List.all_append,hinv];simpa using hc16⟩ (.cons rfl (.cons rfl .nil))
   ·
    have hge:n≤k:=by simpa using hc10
    refine Zi ?_
    refine Qo ?_
    refine Qo ?_
    refine Qz ?_
    exact Wj _ ⟨rfl,rfl,rfl,(by rw [show xs.length=k from by rw [hS.len];omega];exact hinv)⟩ (.cons rfl .nil)
  ·
   rintro E I' loc' ⟨rfl,rfl,rfl,hfin⟩
   refine zR ?_
   refine zA ?_
   refine zN ?_
   refine Qs ?_
   exact Qv rfl rfl (fun w hw=>⟨by unfold fCheck;first | (rw [if_pos h5]) | (rw [if_neg h5,if_pos hfin]) | (rw [if_neg h5,if_neg];intro hall;rw [List.all_eq_true] at hall;have:=hall k (List.mem_range.2 (by rw [hS.len];exact hlt));rw [this] at hc16;cases hc16),hw.drop⟩)
end
section
open Go Go.Kn Go.Proofs
theorem w_check {I:Qt}{av:Option Addr}{n c:Nat}{xs:List Rt}(hS:Sl I 11 encR av n c xs)(hn:n≤100000):ZA Tryz.prog 40 [.slice av n c] I (.int .i64 (rCheck xs)):=by
 intro g H w hw
 refine enter Tryz.func40 rfl Tryz.ntmps40 rfl hw ?_
 refine zR ?_
 refine zA ?_
 refine zN ?_
 refine Qm ?_
 refine zR ?_
 refine zM ?_
 refine zQ Z9 ?_
 refine zC ?_
 refine zN ?_
 refine zI ?_ ?_<;>intro hc12
 ·
  have h5:xs.length>512:=by rw [hS.len];simp at hc12;omega
  refine zR ?_
  refine zA ?_
  refine zN ?_
  refine Qs ?_
  refine Qe ?_
  exact Qv rfl rfl (fun w hw=>⟨by unfold rCheck;first | (rw [if_pos h5]) | (rw [if_neg h5,hfin]) | (rw [if_neg h5,←hinv,WT hx,rGo,if_pos (by unfold rBad;rw [←zaL,hc53])]),hw.drop⟩)
 ·
  have h5:¬xs.length>512:=by rw [hS.len];simp at hc12;omega
  refine Qr ?_
  refine Qd ?_
  refine zR ?_
  refine Z3 rfl rfl (fun r_13=>?_)
  refine Ks (cap:=[]) (vs:=[]) rfl rfl zqH .nil (zu3 I) rfl rfl ?_
  rintro v I1 L' hI' ⟨rk,rfl,hI1,rfl⟩
  obtain rfl:=hI1.symm
  refine zA ?_
  refine zA ?_
  refine zA ?_
  refine zN ?_
  refine zmZ (fun E I' loc'=>∃ bs:List (Int×Rt),E=[(0,.slice av n c)]∧I'=I∧loc'=[(rk,Yk (.int .i64) evF We),(r_13,Yk (.int .i64) encA bs)]∧rGo xs [] (-1)=0) ?_ ?_
  ·
   refine zR ?_
   refine zM ?_
   refine zQ Z9 ?_
   refine zM ?_
   refine zN ?_
   refine Qw ?_
   refine zhF (fun m E I' loc'=>∃ (k:Nat) (bs:List (Int×Rt)) (last:Int),m=n-k∧E=[(0,.slice av n c),(3,.map (some r_13)),(4,.map (some rk)),(5,.int .i64 last),(15,.slice av n c),(16,.int .i64 n),(17,.int .i64 k)]∧I'=I∧loc'=[(rk,Yk (.int .i64) evF We),(r_13,Yk (.int .i64) encA bs)]∧k≤n∧rGo (xs.drop k) bs last=rGo xs [] (-1)) _ _ _ _ ⟨0,[], -1,rfl,rfl,rfl,rfl,Nat.zero_le _,rfl⟩ (.cons rfl (.cons rfl (.cons rfl (.cons rfl (.cons rfl (.cons rfl (.cons rfl .nil))))))) (zzm _) rfl ?_
   rintro m E I' loc' ⟨k,bs,last,rfl,rfl,rfl,rfl,hk,hinv⟩
   refine zR ?_
   refine zC ?_
   refine zN ?_
   refine Qm ?_
   refine zI ?_ ?_<;>intro hc18
   ·
    have hlt:k<n:=by simpa using hc18
    obtain ⟨x,hx⟩:=hS.at hlt
    refine Qr ?_
    refine Qd ?_
    refine Qm ?_
    refine Qw ?_
    refine zR ?_
    refine zV (QG rfl rfl Z9 (by assumption) (fun hg=>by omega)) ?_
    refine zV (Qg rfl YC (fun hg=>by exact zzn hS hx) rfl) ?_
    refine Qq zaj rfl rfl (fun b_7=>?_)
    refine Y8 rfl rfl Um rfl rfl rfl rfl (by exact Upd.u0) ?_
    refine zN (zR ?_)
    refine zM ?_
    refine zF VC ?_
    refine zV (Qc rfl Ql (fun hg=>by exact QA.h0 rfl)) ?_
    refine zV (ZQ zbn Q3 rfl rfl (fun _=>Mem.m1)) ?_
    refine zM ?_
    refine zE ?_
    refine zE ?_
    refine zA ?_
    refine zA ?_
    refine zN ?_
    refine Qm ?_
    refine zR ?_
    refine zM ?_
    refine zO ?_
    refine zM ?_
    refine QM 2 rfl rfl rfl ?_
    refine zJ (Qa rfl YP) ?_
    refine zJ (Qc rfl Ql (fun hg=>by exact QA.h0 rfl)) ?_
    refine zJ (Qf rfl) ?_
    refine zJ (QD rfl rfl rfl) ?_
    refine Zb rfl rfl rfl rfl rfl ?_
    refine zM ?_
    refine QM 8 rfl rfl rfl ?_
    refine zJ (Qa rfl YP) ?_
    refine zJ (Qc rfl Ql (fun hg=>by exact QA.h0 rfl)) ?_
    refine zJ (QD rfl rfl rfl) ?_
    refine Zb rfl rfl rfl rfl rfl ?_
    refine zM ?_
    refine QM 13 rfl rfl rfl ?_
    refine zJ (Qa rfl Ys) ?_
    refine zJ (Qc rfl Ql (fun hg=>by exact QA.h0 rfl)) ?_
    refine ZZ (cap:=[]) (vs:=[_,_,_]) rfl rfl XJ (fun hg=>Z0 _ _ _ _) (.some rfl rfl rfl rfl gbf) rfl rfl ?_
    refine zJ (Zs rfl) ?_
    refine Zb rfl rfl rfl rfl rfl ?_
    refine zM ?_
    refine QM 19 rfl rfl rfl ?_
    refine zJ (Qf rfl) ?_
    refine zJ (Qg rfl YC (fun hg=>by exact Cells.g0) rfl) ?_
    refine zJ (Qf rfl) ?_
    refine zkX (L:=[(r_13,Yk (.int .i64) encA bs)]) (vs:=[_,_]) (v:=.bool (askF x.kind x bs)) rfl rfl (.cons (.there (.there .here)) .nil) (fun hcj=>?_) (.some rfl rfl rfl rfl gbf) rfl rfl ?_
    ·
     simp only [Yf,Bool.and_true,Bool.not_eq_true',Bool.or_eq_false_iff] at hcj
     obtain ⟨f,hf⟩:=Option.isSome_iff_exists.1 (show (Zx We x.kind).isSome=true by simpa using hcj.1.1.1)
     exact ⟨f,by rw [hf];rfl,zol hf,zxI hf _ x r_13 bs⟩
    refine zJ (Zs rfl) ?_
    refine Zb rfl rfl rfl rfl rfl ?_
    refine zN ?_
    refine zI ?_ ?_<;>intro hc53
    ·
     refine zR ?_
     refine zA ?_
     refine zN ?_
     refine Qs ?_
     refine Qe ?_
     refine Qj ?_
     refine Qe ?_
     refine Qe ?_
     refine Qj ?_
     refine Qe ?_
     exact Qv rfl rfl (fun w hw=>⟨by unfold rCheck;first | (rw [if_pos h5]) | (rw [if_neg h5,hfin]) | (rw [if_neg h5,←hinv,WT hx,rGo,if_pos (by unfold rBad;rw [←zaL,hc53])]),hw.drop⟩)
    ·
     refine Qr ?_
     refine Qd ?_
     refine Zt ?_
     refine QQ I' [(b_7,.cells (encR x).toArray 43 (0,0))] mixed ?_
     refine K7 0 rfl (Qf rfl) (.none rfl) rfl rfl rfl (by kernel_rfl) (by kernel_rfl) (by kernel_rfl) JE (zzm _) (.keep (.drop (.drop .refl))) ?_
     refine K7 1 rfl (Qa rfl YP) (.none rfl) rfl rfl rfl (by kernel_rfl) (by kernel_rfl) (by kernel_rfl) JE (zzm _) (.keep (.drop (.drop .refl))) ?_
     refine K7 2 rfl (Qc rfl Ql (fun _=>QA.h0 rfl)) (.none rfl) rfl rfl rfl (by kernel_rfl) (by kernel_rfl) (by kernel_rfl) JE (zzm _) (.keep (.drop (.drop .refl))) ?_
     refine K7 3 rfl (Qg rfl YC (fun _=>Cells.g0) rfl) (.none rfl) rfl rfl rfl (by kernel_rfl) (by kernel_rfl) (by kernel_rfl) JE (zzm _) (.keep (.drop (.drop .refl))) ?_
     refine K7 4 rfl (Qa rfl YP) (.none rfl) rfl rfl rfl (by kernel_rfl) (by kernel_rfl) (by kernel_rfl) JE (zzm _) (.keep (.drop (.drop .refl))) ?_
     refine K7 5 rfl (Qc rfl Ql (fun _=>QA.h0 rfl)) (.none rfl) rfl rfl rfl (by kernel_rfl) (by kernel_rfl) (by kernel_rfl) JE (zzm _) (.keep (.drop (.drop .refl))) ?_
     refine zjq 6 rfl (by kernel_rfl) ?_
     refine Z6 x UA Q3 rfl rfl rfl rfl Upd.u2 ?_
     refine Qb ?_
     refine zyk (zzm _) (.keep (.drop (.drop .refl))) ?_
     refine zjq 7 rfl (by kernel_rfl) ?_
     refine zA ?_
     refine Qb ?_
     refine zyk (zzm _) (.keep (.drop (.drop .refl))) ?_
     refine Qn (by kernel_rfl) ?_
     refine Qx ?_
     refine Qk ?_
     refine Qd ?_
     refine Qi ?_
     refine zV (Yz rfl rfl rfl (fun _=>by omega)) ?_
     refine zM ?_
     refine Qb ?_
     exact Q9 _ _ ⟨n-(k+1),by omega,k+1,Ji bs x.no x,x.no,rfl,rfl,rfl,rfl,by omega,by rw [←hinv,WT hx,rGo,if_neg (by unfold rBad;rw [←zaL,hc53];simp)]⟩ (.cons rfl (.cons rfl (.cons rfl (.cons rfl (.cons rfl (.cons rfl (.cons rfl .nil))))))) (.drop .refl)
   ·
    have hge:n≤k:=by simpa using hc18
    refine Zi ?_
    refine Qo ?_
    refine Qo ?_
    refine Qz ?_
    exact Wj _ ⟨bs,rfl,rfl,rfl,by rw [←hinv,List.drop_of_length_le (by rw [hS.len];omega)];rfl⟩ (.cons rfl .nil)
  ·
   rintro E I' loc' ⟨bs,rfl,rfl,rfl,hfin⟩
   refine zR ?_
   refine zA ?_
   refine zN ?_
   refine Qs ?_
   exact Qv rfl rfl (fun w hw=>⟨by unfold rCheck;first | (rw [if_pos h5]) | (rw [if_neg h5,hfin]) | (rw [if_neg h5,←hinv,WT hx,rGo,if_pos (by unfold rBad;rw [←zaL,hc53])]),hw.drop⟩)
end
end Go.Proofs.YtjblkbkmblkgoaaGreat.S
namespace Go.Kn
section
open Go
structure Kp (p:Prop):Prop where
 out:p
theorem zyG {p q:Prop}(h1:Kp p→q)(h2:p):q:=h1 ⟨h2⟩
theorem Ye {C:Cx}{Q:Exit→Act→World→Prop}{e:Exit}{E E':Env}{I:Qt}{loc:Loc}(h:Kp (At C Q e E' I loc))(hE:Sub E' E:=by repeat (first | exact Sub.nil | refine Sub.cons rfl ?_)):At C Q e E I loc:=
 fun a w ha hw=>h.out a w (ha.sub hE) hw
end
end Go.Kn
namespace Go.Proofs.YtjblkbkmblkgoaaGreat
section
open Go Go.Kn Go.Proofs
theorem zk8 (I:Qt)(x:Int):ZA Tryz.prog 229 [.int .i64 x] I (.bool false):=by
 intro g H w hw
 refine qe Tryz.func229 Tryz.ntmps229 hw ?_
 refine zR (zA ?_)
 refine zN (zR ?_)
 refine zM ?_
 refine zM ?_
 refine zC ?_
 refine zA (zN (Qs ?_))
 exact zr rfl rfl (by simp)
theorem zsr (I:Qt)(x y:Int):ZA Tryz.prog 183 [.int .i64 x,.int .i64 y] I (.int .i64 (zff x y)):=by
 intro g H w hw
 refine qe Tryz.func183 Tryz.ntmps183 hw ?_
 refine zR (zA ?_)
 refine zN (zR ?_)
 refine zM ?_
 refine qcV (vs:=[_]) rfl zbe (zk8 I _) ?_
 refine zA ?_
 refine zN (zR ?_)
 refine zM ?_
 refine qcV (vs:=[_]) rfl zbe (zk8 I _) ?_
 refine zA (zN (Qm (zR ?_)))
 refine zM (zN ?_)
 refine zI ?_ ?_<;>intro hc11
 ·
  cases hc11
 refine Qr (Qd (Qm (zR (zM (zN ?_)))))
 refine zI ?_ ?_<;>intro hc13
 ·
  cases hc13
 refine Qr (Qd (Qm (zR (zM ?_))))
 refine zM ?_
 refine zC (zN ?_)
 refine zI ?_ ?_<;>intro hc16
 ·
  refine zR (zA (zN (Qs (Qe ?_))))
  exact zr rfl rfl (by unfold zff;first | (rw [if_pos (by simpa using hc16)]) | (rw [if_neg (by simpa using hc16),if_pos (by simpa using hc19)]) | (rw [if_neg (by simpa using hc16),if_neg (by simpa using hc19)]))
 refine Qr (Qd (Qm (zR (zM ?_))))
 refine zM ?_
 refine zC (zN ?_)
 refine zI ?_ ?_<;>intro hc19
 ·
  refine zR (zA (zN (Qs (Qe ?_))))
  exact zr rfl rfl (by unfold zff;first | (rw [if_pos (by simpa using hc16)]) | (rw [if_neg (by simpa using hc16),if_pos (by simpa using hc19)]) | (rw [if_neg (by simpa using hc16),if_neg (by simpa using hc19)]))
 refine Qr (Qd (zR (zA (zN (Qs ?_)))))
 exact zr rfl rfl (by unfold zff;first | (rw [if_pos (by simpa using hc16)]) | (rw [if_neg (by simpa using hc16),if_pos (by simpa using hc19)]) | (rw [if_neg (by simpa using hc16),if_neg (by simpa using hc19)]))
theorem zxs (I:Qt)(n:Int)(hn: -1073741824≤n∧n≤1073741824):ZA Tryz.prog 282 [.int .i64 n] I (.int .u64 (zbZ n)):=by
 intro g H w hw
 refine qe Tryz.func282 Tryz.ntmps282 hw ?_
 refine zR (zA (zN (Qm (zR ?_))))
 refine zM ?_
 refine zC (zN ?_)
 refine zI ?_ ?_<;>intro hc4
 ·
  refine zR (zM ?_)
  refine zV (ZU rfl W9) ?_
  refine zV (ztm rfl) ?_
  refine zA (zN (Qs (Qe ?_)))
  exact zr rfl rfl (by rw [ztl hn (by simpa using hc4)])
 refine Qr (Qd (zR (zM ?_)))
 refine zV (ZU rfl W9) ?_
 refine zA (zN (Qs ?_))
 exact zr rfl rfl (by rw [zsR hn (by simpa using hc4)])
theorem zxV (I:Qt)(a b:Int):Vl Tryz.prog 285 [.int .u64 a,.int .u64 b] I [] (fun v I' L=>I'=I∧∃ b1 b2,v= .func (.func 287) #[] [Zw b1,Zw b2].toArray∧L=zwF 216 b1 b2 a b):=by
 intro g H w hw
 refine qe Tryz.func285 Tryz.ntmps285 hw ?_
 refine zR ?_
 refine QR rfl rfl rfl (fun b_2=>?_)
 refine QR rfl rfl rfl (fun b_3=>?_)
 refine zA ?_
 refine zN (zR ?_)
 refine zV (Yu (us:=[]) (vs:=[_,_]) rfl rfl) ?_
 refine zA (zN (Qs ?_))
 exact Qv rfl rfl (fun w hw=>⟨_,I,_,rfl,zzm _,hw,rfl,_,_,rfl,rfl⟩)
theorem zoD (I:Qt)(a0 b0:Nat)(b1 b2:Nat)(hb0:0<b0)(ha1:a0≤9223372036854775807)(hb1:b0≤9223372036854775807):zxy Tryz.prog 287 [Zw b1,Zw b2] I (zwF 216 b1 b2 (a0) (b0)) (fun n:Nat=>.int .u64 n) (zdH a0 b0):=by
 intro g l J Jx hY I0 H w h0 hJ hw
 refine qe Tryz.func287 Tryz.ntmps287 hw ?_
 refine Qw ?_
 refine zfl (fun m E I' H' loc'=>∃ (a b:Nat) (pre:List Nat),m=b∧E=[(0,.func (.yield l) #[] #[]),(1,Zw b1),(2,Zw b2)]∧loc'=zwF 216 b1 b2 (a) (b)∧HLe I0 I'∧J pre I' H'∧zdH a0 b0=pre++zdH a b∧0<b∧a≤9223372036854775807∧b≤9223372036854775807) _ _ _ ⟨a0,b0,[],rfl,rfl,rfl,zzm _,hJ,rfl,hb0,ha1,hb1⟩ (.cons rfl (.cons rfl (.cons rfl .nil))) rfl ?_
 rintro m E I' H' loc' ⟨a,b,pre,hmb,rfl,rfl,hI1,hJk,hrem,hbp,hal,hbl⟩
 subst m
 have hI0:=h0.trans hI1
 refine Qm (zR ?_)
 refine zL ZH ?_
 refine zC ?_
 refine zM ?_
 refine Qp 2 rfl rfl rfl ?_
 refine zK (Qf rfl) ?_
 refine zK (Qc rfl ZH (fun hg=>by exact QA.h1 rfl)) ?_
 refine zl3 (vs:=[_]) (Post:=fun t I2 H2=>if t then J (pre++[a]) I2 H2 else Jx (pre++[a]) I2 H2) rfl rfl (.some rfl rfl rfl rfl gbt) rfl rfl (fun hcj=>hY pre a _ _ (zmh hrem (by simpa [Yf] using hcj)) hI0 hJk) ?_
 rintro t I2 H2 hI2 hyes hno
 refine Qy rfl rfl rfl rfl rfl ?_
 refine zN ?_
 refine zI ?_ ?_<;>intro hc10
 ·
  have ha0:a≠0:=by simp at hc10;exact hc10.1
  have ht:t=true:=by simp at hc10;exact hc10.2
  subst ht
  have hJ1:J (pre++[a]) I2 H2:=hyes (by simp [Yf];exact ha0)
  refine Qr (Qd (Qw (Qm ?_)))
  apply zyG
  ·
   intro key
   have hD:=zzm I2
   refine Zt ?_
   refine QQ I2 [] mixed ?_
   refine VD 0 1 2 rfl rfl rfl (by kernel_rfl) ?_ ?_ ?_
   ·
    refine zL ZH ?_
    refine Qb ?_
    refine zD hD ?_
    refine QW 1 2 rfl rfl (by kernel_rfl) ?_ ?_
    ·
     refine zL ZH ?_
     refine Qb ?_
     refine zD hD ?_
     refine QW 2 5 rfl rfl (by kernel_rfl) ?_ ?_
     ·
      refine zL ZH ?_
      refine Qb ?_
      refine zD hD ?_
      refine QW 3 5 rfl rfl (by kernel_rfl) ?_ ?_
      ·
       refine zV (Vm rfl rfl) ?_
       refine Qb ?_
       refine zD hD ?_
       refine QW 4 5 rfl rfl (by kernel_rfl) ?_ ?_
       ·
        refine zV (Z4 rfl rfl (fun hg=>by rw [Zo hbp];omega)) ?_
        refine Qb ?_
        refine zD hD ?_
        refine qd 5 rfl ?_
        refine zS QX ?_
        refine Qb ?_
        refine zD hD ?_
        refine qd 6 rfl ?_
        refine zS QX ?_
        refine Qb ?_
        refine zD hD ?_
        refine Qn (by kernel_rfl) ?_
        refine Qx ?_
        first | exact key.out | exact Ye key
       refine zS QX ?_
       refine Qb ?_
       refine zD hD ?_
       refine qd 4 rfl ?_
       refine zV (Z4 rfl rfl (fun hg=>by rw [Zo hbp];omega)) ?_
       refine Qb ?_
       refine zD hD ?_
       refine qd 6 rfl ?_
       refine zS QX ?_
       refine Qb ?_
       refine zD hD ?_
       refine Qn (by kernel_rfl) ?_
       refine Qx ?_
       first | exact key.out | exact Ye key
      refine zS QX ?_
      refine Qb ?_
      refine zD hD ?_
      refine qd 3 rfl ?_
      refine zV (Vm rfl rfl) ?_
      refine Qb ?_
      refine zD hD ?_
      refine qd 4 rfl ?_
      refine zV (Z4 rfl rfl (fun hg=>by rw [Zo hbp];omega)) ?_
      refine Qb ?_
      refine zD hD ?_
      refine qd 6 rfl ?_
      refine zS QX ?_
      refine Qb ?_
      refine zD hD ?_
      refine Qn (by kernel_rfl) ?_
      refine Qx ?_
      first | exact key.out | exact Ye key
     refine zS QX ?_
     refine Qb ?_
     refine zD hD ?_
     refine qd 2 rfl ?_
     refine zL ZH ?_
     refine Qb ?_
     refine zD hD ?_
     refine qd 3 rfl ?_
     refine zV (Vm rfl rfl) ?_
     refine Qb ?_
     refine zD hD ?_
     refine qd 4 rfl ?_
     refine zV (Z4 rfl rfl (fun hg=>by rw [Zo hbp];omega)) ?_
     refine Qb ?_
     refine zD hD ?_
     refine qd 6 rfl ?_
     refine zS QX ?_
     refine Qb ?_
     refine zD hD ?_
     refine Qn (by kernel_rfl) ?_
     refine Qx ?_
     first | exact key.out | exact Ye key
    refine zL ZH ?_
    refine Qb ?_
    refine zD hD ?_
    refine QW 1 3 rfl rfl (by kernel_rfl) ?_ ?_
    ·
     refine zL ZH ?_
     refine Qb ?_
     refine zD hD ?_
     refine QW 3 5 rfl rfl (by kernel_rfl) ?_ ?_
     ·
      refine zV (Vm rfl rfl) ?_
      refine Qb ?_
      refine zD hD ?_
      refine QW 4 5 rfl rfl (by kernel_rfl) ?_ ?_
      ·
       refine zV (Z4 rfl rfl (fun hg=>by rw [Zo hbp];omega)) ?_
       refine Qb ?_
       refine zD hD ?_
       refine qd 5 rfl ?_
       refine zS QX ?_
       refine Qb ?_
       refine zD hD ?_
       refine qd 6 rfl ?_
       refine zS QX ?_
       refine Qb ?_
       refine zD hD ?_
       refine Qn (by kernel_rfl) ?_
       refine Qx ?_
       first | exact key.out | exact Ye key
      refine zS QX ?_
      refine Qb ?_
      refine zD hD ?_
      refine qd 4 rfl ?_
      refine zV (Z4 rfl rfl (fun hg=>by rw [Zo hbp];omega)) ?_
      refine Qb ?_
      refine zD hD ?_
      refine qd 6 rfl ?_
      refine zS QX ?_
      refine Qb ?_
      refine zD hD ?_
      refine Qn (by kernel_rfl) ?_
      refine Qx ?_
      first | exact key.out | exact Ye key
     refine zS QX ?_
     refine Qb ?_
     refine zD hD ?_
     refine qd 3 rfl ?_
     refine zV (Vm rfl rfl) ?_
     refine Qb ?_
     refine zD hD ?_
     refine qd 4 rfl ?_
     refine zV (Z4 rfl rfl (fun hg=>by rw [Zo hbp];omega)) ?_
     refine Qb ?_
     refine zD hD ?_
     refine qd 6 rfl ?_
     refine zS QX ?_
     refine Qb ?_
     refine zD hD ?_
     refine Qn (by kernel_rfl) ?_
     refine Qx ?_
     first | exact key.out | exact Ye key
    refine zV (Vm rfl rfl) ?_
    refine Qb ?_
    refine zD hD ?_
    refine qd 1 rfl ?_
    refine zL ZH ?_
    refine Qb ?_
    refine zD hD ?_
    refine QW 4 5 rfl rfl (by kernel_rfl) ?_ ?_
    ·
     refine zV (Z4 rfl rfl (fun hg=>by rw [Zo hbp];omega)) ?_
     refine Qb ?_
     refine zD hD ?_
     refine qd 5 rfl ?_
     refine zS QX ?_
     refine Qb ?_
     refine zD hD ?_
     refine qd 6 rfl ?_
     refine zS QX ?_
     refine Qb ?_
     refine zD hD ?_
     refine Qn (by kernel_rfl) ?_
     refine Qx ?_
     first | exact key.out | exact Ye key
    refine zS QX ?_
    refine Qb ?_
    refine zD hD ?_
    refine qd 4 rfl ?_
    refine zV (Z4 rfl rfl (fun hg=>by rw [Zo hbp];omega)) ?_
    refine Qb ?_
    refine zD hD ?_
    refine qd 6 rfl ?_
    refine zS QX ?_
    refine Qb ?_
    refine zD hD ?_
    refine Qn (by kernel_rfl) ?_
    refine Qx ?_
    first | exact key.out | exact Ye key
   ·
    refine zL ZH ?_
    refine Qb ?_
    refine zD hD ?_
    refine QW 0 2 rfl rfl (by kernel_rfl) ?_ ?_
    ·
     refine zL ZH ?_
     refine Qb ?_
     refine zD hD ?_
     refine QW 2 5 rfl rfl (by kernel_rfl) ?_ ?_
     ·
      refine zL ZH ?_
      refine Qb ?_
      refine zD hD ?_
      refine QW 3 5 rfl rfl (by kernel_rfl) ?_ ?_
      ·
       refine zV (Vm rfl rfl) ?_
       refine Qb ?_
       refine zD hD ?_
       refine QW 4 5 rfl rfl (by kernel_rfl) ?_ ?_
       ·
        refine zV (Z4 rfl rfl (fun hg=>by rw [Zo hbp];omega)) ?_
        refine Qb ?_
        refine zD hD ?_
        refine qd 5 rfl ?_
        refine zS QX ?_
        refine Qb ?_
        refine zD hD ?_
        refine qd 6 rfl ?_
        refine zS QX ?_
        refine Qb ?_
        refine zD hD ?_
        refine Qn (by kernel_rfl) ?_
        refine Qx ?_
        first | exact key.out | exact Ye key
       refine zS QX ?_
       refine Qb ?_
       refine zD hD ?_
       refine qd 4 rfl ?_
       refine zV (Z4 rfl rfl (fun hg=>by rw [Zo hbp];omega)) ?_
       refine Qb ?_
       refine zD hD ?_
       refine qd 6 rfl ?_
       refine zS QX ?_
       refine Qb ?_
       refine zD hD ?_
       refine Qn (by kernel_rfl) ?_
       refine Qx ?_
       first | exact key.out | exact Ye key
      refine zS QX ?_
      refine Qb ?_
      refine zD hD ?_
      refine qd 3 rfl ?_
      refine zV (Vm rfl rfl) ?_
      refine Qb ?_
      refine zD hD ?_
      refine qd 4 rfl ?_
      refine zV (Z4 rfl rfl (fun hg=>by rw [Zo hbp];omega)) ?_
      refine Qb ?_
      refine zD hD ?_
      refine qd 6 rfl ?_
      refine zS QX ?_
      refine Qb ?_
      refine zD hD ?_
      refine Qn (by kernel_rfl) ?_
      refine Qx ?_
      first | exact key.out | exact Ye key
     refine zS QX ?_
     refine Qb ?_
     refine zD hD ?_
     refine qd 2 rfl ?_
     refine zL ZH ?_
     refine Qb ?_
     refine zD hD ?_
     refine qd 3 rfl ?_
     refine zV (Vm rfl rfl) ?_
     refine Qb ?_
     refine zD hD ?_
     refine qd 4 rfl ?_
     refine zV (Z4 rfl rfl (fun hg=>by rw [Zo hbp];omega)) ?_
     refine Qb ?_
     refine zD hD ?_
     refine qd 6 rfl ?_
     refine zS QX ?_
     refine Qb ?_
     refine zD hD ?_
     refine Qn (by kernel_rfl) ?_
     refine Qx ?_
     first | exact key.out | exact Ye key
    refine zL ZH ?_
    refine Qb ?_
    refine zD hD ?_
    refine QW 0 3 rfl rfl (by kernel_rfl) ?_ ?_
    ·
     refine zL ZH ?_
     refine Qb ?_
     refine zD hD ?_
     refine QW 3 5 rfl rfl (by kernel_rfl) ?_ ?_
     ·
      refine zV (Vm rfl rfl) ?_
      refine Qb ?_
      refine zD hD ?_
      refine QW 4 5 rfl rfl (by kernel_rfl) ?_ ?_
      ·
       refine zV (Z4 rfl rfl (fun hg=>by rw [Zo hbp];omega)) ?_
       refine Qb ?_
       refine zD hD ?_
       refine qd 5 rfl ?_
       refine zS QX ?_
       refine Qb ?_
       refine zD hD ?_
       refine qd 6 rfl ?_
       refine zS QX ?_
       refine Qb ?_
       refine zD hD ?_
       refine Qn (by kernel_rfl) ?_
       refine Qx ?_
       first | exact key.out | exact Ye key
      refine zS QX ?_
      refine Qb ?_
      refine zD hD ?_
      refine qd 4 rfl ?_
      refine zV (Z4 rfl rfl (fun hg=>by rw [Zo hbp];omega)) ?_
      refine Qb ?_
      refine zD hD ?_
      refine qd 6 rfl ?_
      refine zS QX ?_
      refine Qb ?_
      refine zD hD ?_
      refine Qn (by kernel_rfl) ?_
      refine Qx ?_
      first | exact key.out | exact Ye key
     refine zS QX ?_
     refine Qb ?_
     refine zD hD ?_
     refine qd 3 rfl ?_
     refine zV (Vm rfl rfl) ?_
     refine Qb ?_
     refine zD hD ?_
     refine qd 4 rfl ?_
     refine zV (Z4 rfl rfl (fun hg=>by rw [Zo hbp];omega)) ?_
     refine Qb ?_
     refine zD hD ?_
     refine qd 6 rfl ?_
     refine zS QX ?_
     refine Qb ?_
     refine zD hD ?_
     refine Qn (by kernel_rfl) ?_
     refine Qx ?_
     first | exact key.out | exact Ye key
    refine zV (Vm rfl rfl) ?_
    refine Qb ?_
    refine zD hD ?_
    refine QW 0 4 rfl rfl (by kernel_rfl) ?_ ?_
    ·
     refine zL ZH ?_
     refine Qb ?_
     refine zD hD ?_
     refine QW 4 5 rfl rfl (by kernel_rfl) ?_ ?_
     ·
      refine zV (Z4 rfl rfl (fun hg=>by rw [Zo hbp];omega)) ?_
      refine Qb ?_
      refine zD hD ?_
      refine qd 5 rfl ?_
      refine zS QX ?_
      refine Qb ?_
      refine zD hD ?_
      refine qd 6 rfl ?_
      refine zS QX ?_
      refine Qb ?_
      refine zD hD ?_
      refine Qn (by kernel_rfl) ?_
      refine Qx ?_
      first | exact key.out | exact Ye key
     refine zS QX ?_
     refine Qb ?_
     refine zD hD ?_
     refine qd 4 rfl ?_
     refine zV (Z4 rfl rfl (fun hg=>by rw [Zo hbp];omega)) ?_
     refine Qb ?_
     refine zD hD ?_
     refine qd 6 rfl ?_
     refine zS QX ?_
     refine Qb ?_
     refine zD hD ?_
     refine Qn (by kernel_rfl) ?_
     refine Qx ?_
     first | exact key.out | exact Ye key
    refine zV (Z4 rfl rfl (fun hg=>by rw [Zo hbp];omega)) ?_
    refine Qb ?_
    refine zD hD ?_
    refine qd 0 rfl ?_
    refine zL ZH ?_
    refine Qb ?_
    refine zD hD ?_
    refine qd 5 rfl ?_
    refine zS QX ?_
    refine Qb ?_
    refine zD hD ?_
    refine qd 6 rfl ?_
    refine zS QX ?_
    refine Qb ?_
    refine zD hD ?_
    refine Qn (by kernel_rfl) ?_
    refine Qx ?_
    first | exact key.out | exact Ye key
   refine zL ZH ?_
   refine Qb ?_
   refine zD hD ?_
   refine VD 0 1 3 rfl rfl rfl (by kernel_rfl) ?_ ?_ ?_
   ·
    refine zL ZH ?_
    refine Qb ?_
    refine zD hD ?_
    refine QW 1 3 rfl rfl (by kernel_rfl) ?_ ?_
    ·
     refine zL ZH ?_
     refine Qb ?_
     refine zD hD ?_
     refine QW 3 5 rfl rfl (by kernel_rfl) ?_ ?_
     ·
      refine zV (Vm rfl rfl) ?_
      refine Qb ?_
      refine zD hD ?_
      refine QW 4 5 rfl rfl (by kernel_rfl) ?_ ?_
      ·
       refine zV (Z4 rfl rfl (fun hg=>by rw [Zo hbp];omega)) ?_
       refine Qb ?_
       refine zD hD ?_
       refine qd 5 rfl ?_
       refine zS QX ?_
       refine Qb ?_
       refine zD hD ?_
       refine qd 6 rfl ?_
       refine zS QX ?_
       refine Qb ?_
       refine zD hD ?_
       refine Qn (by kernel_rfl) ?_
       refine Qx ?_
       first | exact key.out | exact Ye key
      refine zS QX ?_
      refine Qb ?_
      refine zD hD ?_
      refine qd 4 rfl ?_
      refine zV (Z4 rfl rfl (fun hg=>by rw [Zo hbp];omega)) ?_
      refine Qb ?_
      refine zD hD ?_
      refine qd 6 rfl ?_
      refine zS QX ?_
      refine Qb ?_
      refine zD hD ?_
      refine Qn (by kernel_rfl) ?_
      refine Qx ?_
      first | exact key.out | exact Ye key
     refine zS QX ?_
     refine Qb ?_
     refine zD hD ?_
     refine qd 3 rfl ?_
     refine zV (Vm rfl rfl) ?_
     refine Qb ?_
     refine zD hD ?_
     refine qd 4 rfl ?_
     refine zV (Z4 rfl rfl (fun hg=>by rw [Zo hbp];omega)) ?_
     refine Qb ?_
     refine zD hD ?_
     refine qd 6 rfl ?_
     refine zS QX ?_
     refine Qb ?_
     refine zD hD ?_
     refine Qn (by kernel_rfl) ?_
     refine Qx ?_
     first | exact key.out | exact Ye key
    refine zV (Vm rfl rfl) ?_
    refine Qb ?_
    refine zD hD ?_
    refine qd 1 rfl ?_
    refine zL ZH ?_
    refine Qb ?_
    refine zD hD ?_
    refine QW 4 5 rfl rfl (by kernel_rfl) ?_ ?_
    ·
     refine zV (Z4 rfl rfl (fun hg=>by rw [Zo hbp];omega)) ?_
     refine Qb ?_
     refine zD hD ?_
     refine qd 5 rfl ?_
     refine zS QX ?_
     refine Qb ?_
     refine zD hD ?_
     refine qd 6 rfl ?_
     refine zS QX ?_
     refine Qb ?_
     refine zD hD ?_
     refine Qn (by kernel_rfl) ?_
     refine Qx ?_
     first | exact key.out | exact Ye key
    refine zS QX ?_
    refine Qb ?_
    refine zD hD ?_
    refine qd 4 rfl ?_
    refine zV (Z4 rfl rfl (fun hg=>by rw [Zo hbp];omega)) ?_
    refine Qb ?_
    refine zD hD ?_
    refine qd 6 rfl ?_
    refine zS QX ?_
    refine Qb ?_
    refine zD hD ?_
    refine Qn (by kernel_rfl) ?_
    refine Qx ?_
    first | exact key.out | exact Ye key
   ·
    refine zL ZH ?_
    refine Qb ?_
    refine zD hD ?_
    refine QW 0 3 rfl rfl (by kernel_rfl) ?_ ?_
    ·
     refine zL ZH ?_
     refine Qb ?_
     refine zD hD ?_
     refine QW 3 5 rfl rfl (by kernel_rfl) ?_ ?_
     ·
      refine zV (Vm rfl rfl) ?_
      refine Qb ?_
      refine zD hD ?_
      refine QW 4 5 rfl rfl (by kernel_rfl) ?_ ?_
      ·
       refine zV (Z4 rfl rfl (fun hg=>by rw [Zo hbp];omega)) ?_
       refine Qb ?_
       refine zD hD ?_
       refine qd 5 rfl ?_
       refine zS QX ?_
       refine Qb ?_
       refine zD hD ?_
       refine qd 6 rfl ?_
       refine zS QX ?_
       refine Qb ?_
       refine zD hD ?_
       refine Qn (by kernel_rfl) ?_
       refine Qx ?_
       first | exact key.out | exact Ye key
      refine zS QX ?_
      refine Qb ?_
      refine zD hD ?_
      refine qd 4 rfl ?_
      refine zV (Z4 rfl rfl (fun hg=>by rw [Zo hbp];omega)) ?_
      refine Qb ?_
      refine zD hD ?_
      refine qd 6 rfl ?_
      refine zS QX ?_
      refine Qb ?_
      refine zD hD ?_
      refine Qn (by kernel_rfl) ?_
      refine Qx ?_
      first | exact key.out | exact Ye key
     refine zS QX ?_
     refine Qb ?_
     refine zD hD ?_
     refine qd 3 rfl ?_
     refine zV (Vm rfl rfl) ?_
     refine Qb ?_
     refine zD hD ?_
     refine qd 4 rfl ?_
     refine zV (Z4 rfl rfl (fun hg=>by rw [Zo hbp];omega)) ?_
     refine Qb ?_
     refine zD hD ?_
     refine qd 6 rfl ?_
     refine zS QX ?_
     refine Qb ?_
     refine zD hD ?_
     refine Qn (by kernel_rfl) ?_
     refine Qx ?_
     first | exact key.out | exact Ye key
    refine zV (Vm rfl rfl) ?_
    refine Qb ?_
    refine zD hD ?_
    refine QW 0 4 rfl rfl (by kernel_rfl) ?_ ?_
    ·
     refine zL ZH ?_
     refine Qb ?_
     refine zD hD ?_
     refine QW 4 5 rfl rfl (by kernel_rfl) ?_ ?_
     ·
      refine zV (Z4 rfl rfl (fun hg=>by rw [Zo hbp];omega)) ?_
      refine Qb ?_
      refine zD hD ?_
      refine qd 5 rfl ?_
      refine zS QX ?_
      refine Qb ?_
      refine zD hD ?_
      refine qd 6 rfl ?_
      refine zS QX ?_
      refine Qb ?_
      refine zD hD ?_
      refine Qn (by kernel_rfl) ?_
      refine Qx ?_
      first | exact key.out | exact Ye key
     refine zS QX ?_
     refine Qb ?_
     refine zD hD ?_
     refine qd 4 rfl ?_
     refine zV (Z4 rfl rfl (fun hg=>by rw [Zo hbp];omega)) ?_
     refine Qb ?_
     refine zD hD ?_
     refine qd 6 rfl ?_
     refine zS QX ?_
     refine Qb ?_
     refine zD hD ?_
     refine Qn (by kernel_rfl) ?_
     refine Qx ?_
     first | exact key.out | exact Ye key
    refine zV (Z4 rfl rfl (fun hg=>by rw [Zo hbp];omega)) ?_
    refine Qb ?_
    refine zD hD ?_
    refine qd 0 rfl ?_
    refine zL ZH ?_
    refine Qb ?_
    refine zD hD ?_
    refine qd 5 rfl ?_
    refine zS QX ?_
    refine Qb ?_
    refine zD hD ?_
    refine qd 6 rfl ?_
    refine zS QX ?_
    refine Qb ?_
    refine zD hD ?_
    refine Qn (by kernel_rfl) ?_
    refine Qx ?_
    first | exact key.out | exact Ye key
   refine zV (Vm rfl rfl) ?_
   refine Qb ?_
   refine zD hD ?_
   refine QW 0 1 rfl rfl (by kernel_rfl) ?_ ?_
   ·
    refine zL ZH ?_
    refine Qb ?_
    refine zD hD ?_
    refine qd 1 rfl ?_
    refine zL ZH ?_
    refine Qb ?_
    refine zD hD ?_
    refine QW 4 5 rfl rfl (by kernel_rfl) ?_ ?_
    ·
     refine zV (Z4 rfl rfl (fun hg=>by rw [Zo hbp];omega)) ?_
     refine Qb ?_
     refine zD hD ?_
     refine qd 5 rfl ?_
     refine zS QX ?_
     refine Qb ?_
     refine zD hD ?_
     refine qd 6 rfl ?_
     refine zS QX ?_
     refine Qb ?_
     refine zD hD ?_
     refine Qn (by kernel_rfl) ?_
     refine Qx ?_
     first | exact key.out | exact Ye key
    refine zS QX ?_
    refine Qb ?_
    refine zD hD ?_
    refine qd 4 rfl ?_
    refine zV (Z4 rfl rfl (fun hg=>by rw [Zo hbp];omega)) ?_
    refine Qb ?_
    refine zD hD ?_
    refine qd 6 rfl ?_
    refine zS QX ?_
    refine Qb ?_
    refine zD hD ?_
    refine Qn (by kernel_rfl) ?_
    refine Qx ?_
    first | exact key.out | exact Ye key
   refine zL ZH ?_
   refine Qb ?_
   refine zD hD ?_
   refine QW 0 4 rfl rfl (by kernel_rfl) ?_ ?_
   ·
    refine zL ZH ?_
    refine Qb ?_
    refine zD hD ?_
    refine QW 4 5 rfl rfl (by kernel_rfl) ?_ ?_
    ·
     refine zV (Z4 rfl rfl (fun hg=>by rw [Zo hbp];omega)) ?_
     refine Qb ?_
     refine zD hD ?_
     refine qd 5 rfl ?_
     refine zS QX ?_
     refine Qb ?_
     refine zD hD ?_
     refine qd 6 rfl ?_
     refine zS QX ?_
     refine Qb ?_
     refine zD hD ?_
     refine Qn (by kernel_rfl) ?_
     refine Qx ?_
     first | exact key.out | exact Ye key
    refine zS QX ?_
    refine Qb ?_
    refine zD hD ?_
    refine qd 4 rfl ?_
    refine zV (Z4 rfl rfl (fun hg=>by rw [Zo hbp];omega)) ?_
    refine Qb ?_
    refine zD hD ?_
    refine qd 6 rfl ?_
    refine zS QX ?_
    refine Qb ?_
    refine zD hD ?_
    refine Qn (by kernel_rfl) ?_
    refine Qx ?_
    first | exact key.out | exact Ye key
   refine zV (Z4 rfl rfl (fun hg=>by rw [Zo hbp];omega)) ?_
   refine Qb ?_
   refine zD hD ?_
   refine qd 0 rfl ?_
   refine zL ZH ?_
   refine Qb ?_
   refine zD hD ?_
   refine qd 5 rfl ?_
   refine zS QX ?_
   refine Qb ?_
   refine zD hD ?_
   refine qd 6 rfl ?_
   refine zS QX ?_
   refine Qb ?_
   refine zD hD ?_
   refine Qn (by kernel_rfl) ?_
   refine Qx ?_
   first | exact key.out | exact Ye key
  rw [show ((a:Int)).tmod (zfa (b:Int) 1)=((a % b:Nat):Int) by rw [Zo hbp,zgl]]
  refine Qd (zR ?_)
  refine zL ZH ?_
  refine zC (zN ?_)
  refine zI ?_ ?_<;>intro hc17
  ·
   have hab:a % b=0:=by have h:=hc17;simp only [beq_iff_eq] at h;omega
   have hpre2:(pre++[a])++[b]<+:zdH a0 b0:=by rw [hrem,zc3 ha0 (by omega) hab,List.append_assoc];exact List.prefix_rfl
   refine zR (zM ?_)
   refine zL ZH ?_
   refine zbF (vs:=[_]) (Post:=fun t I3 H3=>if t then J ((pre++[a])++[b]) I3 H3 else Jx ((pre++[a])++[b]) I3 H3) rfl rfl rfl rfl (hY (pre++[a]) b _ _ hpre2 (hI0.trans hI2) hJ1) ?_
   rintro t3 I3 H3 hI3 hP3
   refine zN (Qs (Qj (Qe (Qj ?_))))
   first
   | (refine Yh rfl (fun w hw=>⟨_,I3,H3,rfl,hI1.trans (hI2.trans hI3),hw.drop,?_⟩);cases t3 with | true=>exact .inl (by rw [hrem,zc3 ha0 (by omega) hab];simpa using hP3) | false=>exact .inr ⟨_,hpre2,hP3⟩)
  have hab:a % b≠0:=by have h:=hc17;simp only [beq_eq_false_iff_ne,ne_eq] at h;omega
  refine Qr (Qk ?_)
  exact zaF rfl rfl rfl _ (zwF 216 b1 b2 (b) (((a % b:Nat):Int))) ⟨a % b,Nat.mod_lt _ hbp,b,a % b,pre++[a],rfl,rfl,rfl,hI1.trans hI2,hJ1,by rw [hrem,zeu ha0 (by omega) hab,List.append_assoc];rfl,by omega,by omega,by have:=Nat.mod_lt a hbp;omega⟩ (.cons rfl (.cons rfl (.cons rfl .nil))) .refl
 refine Zi (Qo (Qo (Qz ?_)))
 first
 | (refine YB (Yh rfl (fun w hw=>⟨_,I2,H2,rfl,hI1.trans hI2,hw.drop,?_⟩));by_cases ha0:a=0;(obtain ⟨e1,e2⟩:=hno (by simp [Yf,ha0]);subst e1;subst e2;subst ha0;exact .inl (by rw [hrem,zef,List.append_nil];exact hJk));(have ht:t=false:=(by simp [ha0] at hc10;exact hc10);subst ht;exact .inr ⟨_,zmh hrem ha0,hyes (by simp [Yf];exact ha0)⟩))
end
section
open Go Go.Kn Go.Proofs
theorem zxO (I:Qt)(a b:Nat)(hb:0<b)(ha:a≤9223372036854775807)(hb2:b≤9223372036854775807):ZA Tryz.prog 281 [.int .u64 a,.int .u64 b] I (.int .u64 (Nat.gcd a b:Nat)):=by
 intro g H w hw
 refine zmf Tryz.func281 rfl Tryz.ntmps281 rfl hw ?_
 have hIc:=zzm I
 refine zR ?_
 refine Qq zwd rfl rfl (fun b_4=>?_)
 refine zN (Qm (zR (zM ?_)))
 refine zC (zN ?_)
 refine zI ?_ ?_<;>intro hc7
 ·
  simp at hc7;omega
 refine Qr (Qd (zR (zM ?_)))
 refine zS QX ?_
 refine zN (Qm (zR (zM ?_)))
 refine zM ?_
 refine zpc [_,_] rfl ztd .nil (zxV I _ _) ?_
 rintro vv1 I1 L1 hI1 ⟨rfl,b1,b2,rfl,rfl⟩
 have hIc:=hIc.trans hI1
 refine zN (Qw ?_)
 refine zd2 (ms:=[]) (K:=zwF 216 b1 b2 (a) (b)) (L:=[(b_4,.cells #[.int .u64 b] 216 (0,0))]) (enc:=fun n:Nat=>.int .u64 n) (xs:=zdH a b) (fun pre I' loc'=>loc'=[(b_4,.cells #[.int .u64 ((pre.getLastD b:Nat):Int)] 216 (0,0))]) (fun _ _ _ _=>False) (fun pre x E2 I2 loc2=>E2=[(4,Zw b_4),(5,.int .u64 x)]∧loc2=[(b_4,.cells #[.int .u64 ((pre.getLastD b:Nat):Int)] 216 (0,0))]) rfl zrd (zoD _ a b b1 b2 hb ha hb2) rfl rfl ?_ ?_ ?_ ?_
 ·
  rintro l pre x I1 loc1 H1 hpre hI1 rfl
  refine Qi (zA (Qb ?_))
  exact Wj _ ⟨zzm _,rfl,rfl⟩ (.cons rfl (.cons rfl .nil))
 ·
  rintro l pre x E2 I2 loc2 H2 hpre hI2 ⟨rfl,rfl⟩
  refine Qw (Qi (zM ?_))
  refine zS QX ?_
  refine Qb (Qk ?_)
  exact zjB ⟨zzm _,by rw [zkq];rfl⟩ .refl
 ·
  rintro bd I1 loc1 hI1 rfl
  have hIc:=hIc.trans hI1
  refine Qk (Qd (zR ?_))
  refine zL ZH ?_
  refine zS QX ?_
  refine zN (Qs ?_)
  exact zhp (L:=[(b_4,_)]) (fun a ha w hw=>zxz rfl rfl ZH (QA.h0 rfl) a ha w hw) (fun w hw=>⟨by rw [zoR b (Nat.le_refl _) (by omega) (fun _=>rfl)],(hw.mono hIc).drop⟩)
 rintro c bd pre I1 loc1 hI1 hpre hF;exact hF.elim
theorem zuz (I:Qt)(n d:Int)(hn: -1073741824≤n∧n≤1073741824)(hd:1≤d∧d≤1073741824):ZA Tryz.prog 281 [.int .u64 (zbZ n),.int .u64 (IntKind.u64.wrap d)] I (.int .u64 (zlv n d)):=by
 have h0:0≤zbZ n∧zbZ n≤1073741824:=by unfold zbZ;split<;>omega
 have h:=zxO I (zbZ n).toNat d.toNat (by omega) (by omega) (by omega)
 rw [ziL (by omega)]
 rw [Int.toNat_of_nonneg h0.1,Int.toNat_of_nonneg (by omega),zqS,Int.toNat_of_nonneg (by omega)] at h
 exact h
theorem zgS (I:Qt)(n d:Int):ZA Tryz.prog 278 [zae (n) (d)] I (.int .i64 (ztT n d)):=by
 intro g H w hw
 refine qe Tryz.func278 Tryz.ntmps278 hw ?_
 refine zR ?_
 refine QR rfl rfl rfl (fun b_1=>?_)
 refine zA (zN (Qm (Qm ?_)))
 refine Xi mixed (by kernel_rfl) ?_
 refine zq (Qa rfl Y1) ?_
 refine zq (Qc rfl Ql (fun hg=>by exact QA.h0 rfl)) ?_
 refine zq (QD rfl rfl rfl) ?_
 refine zq (Qf rfl) ?_
 refine VZ 3 rfl rfl rfl ?_
 refine zj (Qa rfl Y1) ?_
 refine zj (Qc rfl Ql (fun hg=>by exact QA.h0 rfl)) ?_
 refine zj (QD rfl rfl rfl) ?_
 refine UN rfl rfl rfl rfl rfl ?_
 refine zq (Qf rfl) ?_
 refine VZ 8 rfl rfl rfl ?_
 refine zj (Qa rfl YD) ?_
 refine zj (Qc rfl Ql (fun hg=>by exact QA.h0 rfl)) ?_
 refine zj (QD rfl rfl rfl) ?_
 refine UN rfl rfl rfl rfl rfl ?_
 refine zq (Qf rfl) ?_
 refine VZ 13 rfl rfl rfl ?_
 refine zj (Qa rfl YD) ?_
 refine zj (Qc rfl Ql (fun hg=>by exact QA.h0 rfl)) ?_
 refine zj (QD rfl rfl rfl) ?_
 refine UN rfl rfl rfl rfl rfl ?_
 refine zq (Qf rfl) ?_
 refine VZ 18 rfl rfl rfl ?_
 refine zj (Qa rfl YD) ?_
 refine zj (Qc rfl Ql (fun hg=>by exact QA.h0 rfl)) ?_
 refine JF (cap:=[]) (vs:=[_]) rfl rfl ztg (fun hg=>zxs I n (by simp [Yf] at hg;omega)) (.some rfl rfl rfl rfl gbf) rfl rfl ?_
 refine zj (Qa rfl Y1) ?_
 refine zj (Qc rfl Ql (fun hg=>by exact QA.h0 rfl)) ?_
 refine zj (ZU rfl W9) ?_
 refine JF (cap:=[]) (vs:=[_,_]) rfl rfl zsM (fun hg=>zuz I n d (by simp [Yf] at hg;omega) (by simp [Yf] at hg;omega)) (.some rfl rfl rfl rfl gbf) rfl rfl ?_
 refine zj (QD rfl rfl rfl) ?_
 refine UN rfl rfl rfl rfl rfl ?_
 refine WP ?_
 refine Qd ?_
 refine zI ?_ ?_<;>intro hc30
 ·
  refine zR (zA (zN (Qs (Qe ?_))))
  first
  | exact zr rfl rfl (by unfold ztT;rw [zqI hc30];rfl)
 refine Qr (Qd (zR (zA (zN (Qs ?_)))))
 first
 | exact zr rfl rfl (by unfold ztT;rw [zna hc30];rfl)
end
section
open Go Go.Kn Go.Proofs
theorem zvf (I:Qt)(an ad bn bd:Int):ZA Tryz.prog 276 [zae (an) (ad),zae (bn) (bd)] I (.tuple #[.int .i64 (zxb an ad bn bd),.int .i64 (zvs an ad bn bd)]):=by
 intro g H w hw
 refine qe Tryz.func276 Tryz.ntmps276 hw ?_
 refine zR ?_
 refine QR rfl rfl rfl (fun b_2=>?_)
 refine QR rfl rfl rfl (fun b_3=>?_)
 refine zA ?_
 refine zA (zN (Qm (zR ?_)))
 refine zV (Qg rfl V9 (fun hg=>by exact Cells.g1) rfl) ?_
 refine qcV (vs:=[_]) rfl zi0 (zgS I _ _) ?_
 refine zC ?_
 refine zM ?_
 refine QM 3 rfl rfl rfl ?_
 refine zJ (Qg rfl V9 (fun hg=>by exact Cells.g0) rfl) ?_
 refine qf (vs:=[_]) rfl zi0 (fun hg=>zgS I _ _) ?_
 refine zJ (QD rfl rfl rfl) ?_
 refine Zb rfl rfl rfl rfl rfl ?_
 refine zN ?_
 refine zI ?_ ?_<;>intro hc13
 ·
  have hb:(UW an ad&&UW bn bd)=false:=by have h:=hc13;rw [zmz,Bool.not_eq_true'] at h;exact h
  refine zR (zA ?_)
  refine zA (zN (Qs (Qe ?_)))
  exact Jj rfl rfl rfl (fun w hw=>⟨by unfold zxb zvs;rw [hb];rfl,hw.drop⟩)
 have hb:(UW an ad&&UW bn bd)=true:=by have h:=hc13;rw [zmz,Bool.not_eq_false'] at h;exact h
 have ⟨ha1,ha2⟩:=zds (Bool.and_eq_true .. ▸ hb).1
 have ⟨hb1,hb2⟩:=zds (Bool.and_eq_true .. ▸ hb).2
 refine Qr (Qd (zR ?_))
 refine zF YD ?_
 refine zL Ql ?_
 refine zF Y1 ?_
 refine zL Ql ?_
 refine zV (Yz rfl rfl rfl (fun _=>by exact zn1 (by omega) (by omega))) ?_
 refine zF YD ?_
 refine zL Ql ?_
 refine zF Y1 ?_
 refine zL Ql ?_
 refine zV (Yz rfl rfl rfl (fun _=>by exact zn1 (by omega) (by omega))) ?_
 refine qcV (vs:=[_,_]) rfl zmA (zsr I _ _) ?_
 refine zA ?_
 refine zA (zN (Qs ?_))
 exact Jj rfl rfl rfl (fun w hw=>⟨by unfold zxb zvs;rw [hb];rfl,hw.drop⟩)
theorem zul (I:Qt)(an ad bn bd:Int):ZA Tryz.prog 270 [zae (an) (ad),zae (bn) (bd)] I (.bool (za7 an ad bn bd)):=by
 intro g H w hw
 refine qe Tryz.func270 Tryz.ntmps270 hw ?_
 refine zR ?_
 refine QR rfl rfl rfl (fun b_2=>?_)
 refine QR rfl rfl rfl (fun b_3=>?_)
 refine zA ?_
 refine zN (zR ?_)
 refine zV (Qg rfl V9 (fun hg=>by exact Cells.g1) rfl) ?_
 refine zV (Qg rfl V9 (fun hg=>by exact Cells.g0) rfl) ?_
 refine qcV (vs:=[_,_]) rfl zq6 (zvf I _ _ _ _) ?_
 refine zM ?_
 refine zE ?_
 refine zE ?_
 refine zA ?_
 refine zA ?_
 refine zN (zR ?_)
 refine zM ?_
 refine zC ?_
 refine zM ?_
 refine Qp 2 rfl rfl rfl ?_
 refine zK (Qf rfl) ?_
 refine zK (QD rfl rfl rfl) ?_
 refine Qy rfl rfl rfl rfl rfl ?_
 refine zM ?_
 refine Qp 6 rfl rfl rfl ?_
 refine zK (Qa rfl YD) ?_
 refine zK (Qc rfl Ql (fun hg=>by exact QA.h1 rfl)) ?_
 refine zK (QD rfl rfl rfl) ?_
 refine Qy rfl rfl rfl rfl rfl ?_
 refine zM ?_
 refine Qp 11 rfl rfl rfl ?_
 refine zK (Qa rfl YD) ?_
 refine zK (Qc rfl Ql (fun hg=>by exact QA.h0 rfl)) ?_
 refine zK (Qa rfl Y1) ?_
 refine zK (Qc rfl Ql (fun hg=>by exact QA.h0 rfl)) ?_
 refine zK (QD rfl rfl rfl) ?_
 refine Qy rfl rfl rfl rfl rfl ?_
 refine zA (zN (Qs ?_))
 exact zr rfl rfl (by rw [←zrw])
theorem Z0 (I:Qt)(n lo hi:Int):ZA Tryz.prog 269 [.int .i64 n,.int .i64 lo,.int .i64 hi] I (.bool (within n lo hi)):=by
 intro g H w hw
 refine qe Tryz.func269 Tryz.ntmps269 hw ?_
 refine zR (zA ?_)
 refine zN (zR ?_)
 refine zM ?_
 refine zM ?_
 refine zC ?_
 refine zM ?_
 refine Qp 3 rfl rfl rfl ?_
 refine zK (Qf rfl) ?_
 refine zK (Qf rfl) ?_
 refine zK (QD rfl rfl rfl) ?_
 refine Qy rfl rfl rfl rfl rfl ?_
 refine zA (zN (Qs ?_))
 exact zr rfl rfl (by rfl)
theorem zxF (I:Qt)(x:Sg):ZA Tryz.prog 260 [Wl x] I (.bool (frm x)):=by
 intro g H w hw
 refine qe Tryz.func260 Tryz.ntmps260 hw ?_
 refine zR ?_
 refine QR rfl rfl rfl (fun b_1=>?_)
 refine zA ?_
 refine zN (zR ?_)
 refine zF Jm ?_
 refine zL Ql ?_
 refine qcV (vs:=[_,_,_]) rfl KK (Z0 I _ _ _) ?_
 refine zM ?_
 refine Qp 3 rfl rfl rfl ?_
 refine zK (Qa rfl K6) ?_
 refine zK (Qc rfl Ql (fun hg=>by exact QA.h0 rfl)) ?_
 refine qg (vs:=[_,_,_]) rfl KK (fun hg=>Z0 I _ _ _) ?_
 refine Qy rfl rfl rfl rfl rfl ?_
 refine zM ?_
 refine Qp 8 rfl rfl rfl ?_
 refine zK (Qa rfl Uf) ?_
 refine zK (Qc rfl Ql (fun hg=>by exact QA.h0 rfl)) ?_
 refine qg (vs:=[_,_,_]) rfl KK (fun hg=>Z0 I _ _ _) ?_
 refine Qy rfl rfl rfl rfl rfl ?_
 refine zM ?_
 refine Qp 13 rfl rfl rfl ?_
 refine zK (Qa rfl zaE) ?_
 refine zK (Qc rfl Ql (fun hg=>by exact QA.h0 rfl)) ?_
 refine qg (vs:=[_,_,_]) rfl KK (fun hg=>Z0 I _ _ _) ?_
 refine Qy rfl rfl rfl rfl rfl ?_
 refine zM ?_
 refine Qp 18 rfl rfl rfl ?_
 refine zK (Qa rfl Ui) ?_
 refine zK (Qc rfl Ql (fun hg=>by exact QA.h0 rfl)) ?_
 refine qg (vs:=[_,_,_]) rfl KK (fun hg=>Z0 I _ _ _) ?_
 refine Qy rfl rfl rfl rfl rfl ?_
 refine zM ?_
 refine Qp 23 rfl rfl rfl ?_
 refine zK (Qa rfl K9) ?_
 refine zK (Qc rfl Ql (fun hg=>by exact QA.h0 rfl)) ?_
 refine qg (vs:=[_,_,_]) rfl KK (fun hg=>Z0 I _ _ _) ?_
 refine Qy rfl rfl rfl rfl rfl ?_
 refine zM ?_
 refine Qp 28 rfl rfl rfl ?_
 refine zK (Qa rfl K5) ?_
 refine zK (Qc rfl Ql (fun hg=>by exact QA.h0 rfl)) ?_
 refine qg (vs:=[_,_,_]) rfl KK (fun hg=>Z0 I _ _ _) ?_
 refine Qy rfl rfl rfl rfl rfl ?_
 refine zM ?_
 refine Qp 33 rfl rfl rfl ?_
 refine zK (Qa rfl Ug) ?_
 refine zK (Qc rfl Ql (fun hg=>by exact QA.h0 rfl)) ?_
 refine qg (vs:=[_,_,_]) rfl KK (fun hg=>Z0 I _ _ _) ?_
 refine Qy rfl rfl rfl rfl rfl ?_
 refine zM ?_
 refine Qp 38 rfl rfl rfl ?_
 refine zK (Qa rfl K4) ?_
 refine zK (Qc rfl Ql (fun hg=>by exact QA.h0 rfl)) ?_
 refine qg (vs:=[_,_,_]) rfl KK (fun hg=>Z0 I _ _ _) ?_
 refine Qy rfl rfl rfl rfl rfl ?_
 refine zM ?_
 refine Qp 43 rfl rfl rfl ?_
 refine zK (Qa rfl Ul) ?_
 refine zK (Qc rfl Ql (fun hg=>by exact QA.h0 rfl)) ?_
 refine qg (vs:=[_,_,_]) rfl KK (fun hg=>Z0 I _ _ _) ?_
 refine Qy rfl rfl rfl rfl rfl ?_
 refine zM ?_
 refine Qp 48 rfl rfl rfl ?_
 refine zK (Qa rfl VY) ?_
 refine zK (Qg rfl V9 (fun hg=>by exact Cells.s0 (vs:=[_,_]) rfl) rfl) ?_
 refine zK (Qa rfl V4) ?_
 refine zK (Qg rfl V9 (fun hg=>by exact Cells.s0 (vs:=[_,_]) rfl) rfl) ?_
 refine qg (vs:=[_,_]) rfl zqF (fun hg=>zul I _ _ _ _) ?_
 refine Qy rfl rfl rfl rfl rfl ?_
 refine zA (zN (Qs ?_))
 exact zr rfl rfl (by rfl)
theorem zv9 {I:Qt}{av:Option Addr}{n c:Nat}{xs:List Sg}(hS:Sl I 14 zfc av n c xs)(hn:n≤100000):ZA Tryz.prog 217 [.slice av n c] I (.int .i64 (zh2 xs)):=by
 intro g H w hw
 refine qe Tryz.func217 Tryz.ntmps217 hw ?_
 refine zR (zA (zN (Qm (zR ?_))))
 refine zM ?_
 refine zQ Uk ?_
 refine zC (zN ?_)
 refine zI ?_ ?_<;>intro hc7
 ·
  have h6:xs.length>4096:=by rw [hS.len];simp at hc7;omega
  refine zR (zA (zN (Qs (Qe ?_))))
  first
  | exact zr rfl rfl (by unfold zh2;rw [if_pos h6])
 have h6:¬xs.length>4096:=by rw [hS.len];simp at hc7;omega
 refine Qr (Qd (Qm (zR (zM ?_))))
 refine zQ Uk ?_
 refine zM (zN (Qw ?_))
 refine zU [(0,_),(8,_),(9,_)] (fun T L0 mz E I' loc'=>∃ (k:Nat),mz=n-k∧E=(10,.int .i64 k)::T∧I=I'∧L0=loc'∧k≤n∧(List.range k).all (skP xs)=true) ?_ (h:=⟨0,rfl,rfl,rfl,rfl,Nat.zero_le _,rfl⟩)
 rintro mz E I' loc' ⟨k,rfl,rfl,rfl,rfl,hk,hall⟩
 refine zR (zC (zN (Qm ?_)))
 refine zI ?_ ?_<;>intro hc11
 ·
  have hlt_k:k<n:=by have h:=hc11;simp at h;omega
  obtain ⟨x,hx⟩:=hS.at hlt_k
  refine Qr (Qd (Qm (Qw (zR (zM ?_)))))
  refine zV (QG rfl rfl Uk (by assumption) (fun hg=>by omega)) ?_
  refine zV (Qg rfl ZC (fun hg=>by exact zzn hS hx) rfl) ?_
  refine Qq zit rfl rfl (fun b_4=>?_)
  refine zA ?_
  refine zh Je ?_
  refine zN (Qm ?_)
  refine Xi mixed (by kernel_rfl) ?_
  refine zq (Qg rfl ZC (fun hg=>by exact Cells.g0) rfl) ?_
  refine UD (cap:=[]) (vs:=[_]) rfl rfl zqB (zxF I _) rfl rfl ?_
  refine zq (Zs rfl) ?_
  refine zq (Qf rfl) ?_
  refine VZ 3 rfl rfl rfl ?_
  refine zj (Qf rfl) ?_
  refine zj (QD rfl rfl rfl) ?_
  refine zj (Qf rfl) ?_
  refine VB 6 rfl rfl rfl ?_
  refine zk (Qf rfl) ?_
  refine zk (Qf rfl) ?_
  refine zk (Yz rfl rfl rfl (fun hg=>by omega)) ?_
  refine zk (QG rfl rfl Uk (by assumption) (fun hg=>by (simp [Yf] at hg;omega))) ?_
  refine zk (Qa rfl Jm) ?_
  refine zk (Qc rfl Ql (fun hg=>by exact zzf (k:=((k:Int)-1).toNat) hS (KQ (d:=Jz) hS.len (by simp [Yf] at hg;omega)) rfl)) ?_
  refine zk (Qa rfl Jm) ?_
  refine zk (Qc rfl Ql (fun hg=>by exact QA.h0 rfl)) ?_
  refine zk (QD rfl rfl rfl) ?_
  refine zbG rfl rfl rfl (.some rfl rfl rfl rfl gbf) rfl rfl ?_
  refine UN rfl rfl rfl rfl rfl ?_
  refine WP ?_
  refine Qd ?_
  refine zI ?_ ?_<;>intro hc32
  ·
   refine zR (zA (zN (Qs (Qj (Qe (Qe (Qj ?_)))))))
   refine Qe ?_
   first
   | exact zr rfl rfl (by unfold zh2 skB;rw [if_neg h6,JI (k:=k) (by rw [hS.len];exact hlt_k) (by rw [zg7 hx,hc32];rfl)];rfl)
  refine Qr (Qk (Qd (Qi (zB ?_))))
  refine zM (Qb ?_)
  exact zm (h:=⟨n-(k+1),by omega,k+1,rfl,rfl,rfl,rfl,by omega,VJ hall (by rw [zg7 hx,hc32];rfl)⟩)
 have hge_k:n≤k:=by have h:=hc11;simp at h;omega
 refine Zi (Qo (Qo (Qz (Qd (zR (zA (zN ?_)))))))
 refine Qs ?_
 first
 | exact zr rfl rfl (by unfold zh2 skB;rw [if_neg h6,hS.len,show n=k by omega,hall];rfl)
theorem za3 (I:Qt)(b:Nat):ZA Tryz.prog 216 [Zw b] I (.agg (zyw b).toArray):=by
 intro g H w hw
 refine qe Tryz.func216 Tryz.ntmps216 hw ?_
 refine zR ?_
 refine Qq zqe rfl rfl (fun b_2=>?_)
 refine zN (Qm ?_)
 have hD:=zzm I
 refine Zt ?_
 refine QQ I [] mixed ?_
 refine zT 0 rfl (Qf rfl) hD ?_
 refine zT 1 rfl (QI rfl) hD ?_
 refine zT 2 rfl (Qa rfl K6) hD ?_
 refine zT 3 rfl (Qf rfl) hD ?_
 refine zT 4 rfl (QI rfl) hD ?_
 refine zT 5 rfl (Qa rfl Uf) hD ?_
 refine zT 6 rfl (Qf rfl) hD ?_
 refine zT 7 rfl (QI rfl) hD ?_
 refine zT 8 rfl (Qa rfl Ui) hD ?_
 refine zT 9 rfl (Qf rfl) hD ?_
 refine zT 10 rfl (QI rfl) hD ?_
 refine zT 11 rfl (Qa rfl K9) hD ?_
 refine zT 12 rfl (Qf rfl) hD ?_
 refine zT 13 rfl (QI rfl) hD ?_
 refine zT 14 rfl (Qa rfl K5) hD ?_
 refine zT 15 rfl (Qf rfl) hD ?_
 refine zT 16 rfl (QI rfl) hD ?_
 refine zT 17 rfl (Qa rfl Ug) hD ?_
 refine zT 18 rfl (Qf rfl) hD ?_
 refine zT 19 rfl (QI rfl) hD ?_
 refine zT 20 rfl (Qa rfl K4) hD ?_
 refine zT 21 rfl (Qf rfl) hD ?_
 refine zT 22 rfl (QI rfl) hD ?_
 refine zT 23 rfl (Qa rfl Ul) hD ?_
 refine zT 24 rfl (Vn (ps:=[(1,_),(2,_),(3,_),(4,_),(5,_),(6,_),(7,_),(8,_)]) [_,_,_,_,_,_,_,_,_] Wu zqe rfl rfl) hD ?_
 refine qd 25 rfl ?_
 refine zh ztv ?_
 refine Qb ?_
 refine zD hD ?_
 refine Qn (by kernel_rfl) ?_
 refine Qx ?_
 refine Qd (Qs ?_)
 exact ZX rfl rfl zsK Cells.g0 rfl (fun w hw=>⟨rfl,hw.drop⟩)
theorem zwY (I:Qt)(x:Sg)(f:Int)(y:Sg)(hf:isF f):ZA Tryz.prog 161 [Wl x,.int .i64 f,Wl y] I (Wl (KN x f y)):=by
 intro g H w hw
 refine qe Tryz.func161 Tryz.ntmps161 hw ?_
 refine zR ?_
 refine QR rfl rfl rfl (fun b_3=>?_)
 refine QR rfl rfl rfl (fun b_5=>?_)
 refine Qq zit rfl rfl (fun b_6=>?_)
 refine zN (Qm (zR (zM ?_)))
 refine zC (zN ?_)
 refine zI ?_ ?_<;>intro hc8
 ·
  have hf9:f=9:=by simpa using hc8
  refine zR ?_
  refine zF VY ?_
  refine zV (Qg rfl V9 (fun hg=>by exact Cells.s1 (vs:=[_,_]) rfl) rfl) ?_
  refine zF V4 ?_
  refine zV (Qg rfl V9 (fun hg=>by exact Cells.s1 (vs:=[_,_]) rfl) rfl) ?_
  refine zF VY ?_
  refine Y4 rfl rfl zhu rfl rfl rfl rfl (by repeat (first | exact Upd.here | apply Upd.there | apply Qu)) ?_
  refine zF V4 ?_
  refine Y4 rfl rfl zhu rfl rfl rfl rfl (by repeat (first | exact Upd.here | apply Upd.there | apply Qu)) ?_
  refine zN (zR ?_)
  refine zV (Qg rfl ZC (fun hg=>by exact Cells.g2) rfl) ?_
  refine zh Je ?_
  refine zN (Qs (Qe ?_))
  first
  | exact ZX rfl rfl ZC Cells.g0 rfl (fun w hw=>⟨by rw [hf9];rfl,hw.drop⟩)
 have hf8:1≤f∧f≤8:=by have h:=hc8;unfold isF at hf;simp at h;omega
 refine Qr (Qd (Qm ?_))
 have hD:=zzm I
 refine Zt ?_
 refine QQ I [(b_5,.cells (Wl y).cells 36 (0,0))] mixed ?_
 refine zT 1 rfl (Qf rfl) hD ?_
 refine zT 4 rfl (Qf rfl) hD ?_
 refine qd 0 rfl ?_
 refine qcV (vs:=[_]) rfl zfm (za3 I _) ?_
 refine Qb ?_
 refine zD hD ?_
 refine QW 2 3 rfl rfl (by kernel_rfl) ?_ ?_
 ·
  refine zV (Kt rfl rfl Wu Uv (fun hg=>by omega) (fun hg=>zco hf8 b_3)) ?_
  refine Qb ?_
  refine zD hD ?_
  refine qd 3 rfl ?_
  refine qcV (vs:=[_]) rfl zfm (za3 I _) ?_
  refine Qb ?_
  refine zD hD ?_
  refine qd 5 rfl ?_
  refine zV (Kt rfl rfl Wu Uv (fun hg=>by omega) (fun hg=>zco hf8 b_5)) ?_
  refine Qb ?_
  refine zD hD ?_
  refine zT 6 rfl (QI rfl) hD ?_
  refine zT 7 rfl (Qc rfl Ql (fun hg=>by exact QA.h0 (zgb hf8 y))) hD ?_
  refine zT 8 rfl (QI rfl) hD ?_
  refine qd 9 rfl ?_
  refine Q0 rfl rfl U6 rfl rfl Upd.u2 (by exact zrq) ?_
  rw [show (Wl x).cells.setIfInBounds (foF f) (.int .i64 (zuf y f))=(zfc (KN x f y)).toArray from zjj hf8 x y]
  refine Qb ?_
  refine zD hD ?_
  refine Qn (by kernel_rfl) ?_
  refine Qx ?_
  refine Qd (zR ?_)
  refine zV (Qg rfl ZC (fun hg=>by exact Cells.g2) rfl) ?_
  refine zh Je ?_
  refine zN (Qs ?_)
  exact ZX rfl rfl ZC Cells.g0 rfl (fun w hw=>⟨rfl,hw.drop⟩)
 refine qcV (vs:=[_]) rfl zfm (za3 I _) ?_
 refine Qb ?_
 refine zD hD ?_
 refine QW 2 5 rfl rfl (by kernel_rfl) ?_ ?_
 ·
  refine zV (Kt rfl rfl Wu Uv (fun hg=>by omega) (fun hg=>zco hf8 b_3)) ?_
  refine Qb ?_
  refine zD hD ?_
  refine qd 5 rfl ?_
  refine zV (Kt rfl rfl Wu Uv (fun hg=>by omega) (fun hg=>zco hf8 b_5)) ?_
  refine Qb ?_
  refine zD hD ?_
  refine zT 6 rfl (QI rfl) hD ?_
  refine zT 7 rfl (Qc rfl Ql (fun hg=>by exact QA.h0 (zgb hf8 y))) hD ?_
  refine zT 8 rfl (QI rfl) hD ?_
  refine qd 9 rfl ?_
  refine Q0 rfl rfl U6 rfl rfl Upd.u2 (by exact zrq) ?_
  rw [show (Wl x).cells.setIfInBounds (foF f) (.int .i64 (zuf y f))=(zfc (KN x f y)).toArray from zjj hf8 x y]
  refine Qb ?_
  refine zD hD ?_
  refine Qn (by kernel_rfl) ?_
  refine Qx ?_
  refine Qd (zR ?_)
  refine zV (Qg rfl ZC (fun hg=>by exact Cells.g2) rfl) ?_
  refine zh Je ?_
  refine zN (Qs ?_)
  exact ZX rfl rfl ZC Cells.g0 rfl (fun w hw=>⟨rfl,hw.drop⟩)
 refine zV (Kt rfl rfl Wu Uv (fun hg=>by omega) (fun hg=>zco hf8 b_5)) ?_
 refine Qb ?_
 refine zD hD ?_
 refine zT 6 rfl (QI rfl) hD ?_
 refine zT 7 rfl (Qc rfl Ql (fun hg=>by exact QA.h0 (zgb hf8 y))) hD ?_
 refine qd 2 rfl ?_
 refine zV (Kt rfl rfl Wu Uv (fun hg=>by omega) (fun hg=>zco hf8 b_3)) ?_
 refine Qb ?_
 refine zD hD ?_
 refine zT 8 rfl (QI rfl) hD ?_
 refine qd 9 rfl ?_
 refine Q0 rfl rfl U6 rfl rfl Upd.u2 (by exact zrq) ?_
 rw [show (Wl x).cells.setIfInBounds (foF f) (.int .i64 (zuf y f))=(zfc (KN x f y)).toArray from zjj hf8 x y]
 refine Qb ?_
 refine zD hD ?_
 refine Qn (by kernel_rfl) ?_
 refine Qx ?_
 refine Qd (zR ?_)
 refine zV (Qg rfl ZC (fun hg=>by exact Cells.g2) rfl) ?_
 refine zh Je ?_
 refine zN (Qs ?_)
 exact ZX rfl rfl ZC Cells.g0 rfl (fun w hw=>⟨rfl,hw.drop⟩)
end
section
open Go Go.Kn
def zb7 (zs:List Int):List Int:=zs.mergeSort fun x y=>decide (x≤y)
theorem KB (zs:List Int):zs.flatMap Z1=zs.map (Value.int .i64):=by
 induction zs with
 | nil=>rfl
 | cons z zs ih=>rw [List.flatMap_cons,ih];rfl
end
section
open Go Go.Kn Go.Proofs
theorem zsE (i j:Nat)(h:i+j≤1000000):IntKind.i64.wrap ((IntKind.u64.wrap ((i:Int)+(j:Int))).fdiv (2^1))=(((i+j) / 2:Nat):Int):=by
 have h1:IntKind.u64.wrap ((i:Int)+(j:Int))=((i+j:Nat):Int):=by
  rw [show ((i:Int)+(j:Int))=((i+j:Nat):Int) by omega]
  exact ziL ⟨by omega,by omega⟩
 rw [h1,show ((2:Int)^1)=((2:Nat):Int) from rfl,Int.fdiv_eq_ediv_of_nonneg _ (by omega),←Int.natCast_ediv]
 exact zdb ⟨by omega,by omega⟩
section
variable {α:Type} {key:α→Int} {xs:List α} {t:Int}
end
instance : Inhabited Sg := ⟨Jz⟩
end
end Go.Proofs.YtjblkbkmblkgoaaGreat
namespace Go.Proofs
section
open Go.Shelf
def Tryz.lays106_ren:Go.Shelf.Ren:=⟨fun | 106=>154 | 213=>209 | 265=>259 | n=>n,fun | 9=>9 | 3=>3 | n=>n,fun | n=>n⟩
theorem Tryz.lays106:Go.Proofs.Lays.n106 Tryz.prog Tryz.lays106_ren:={
 mixed:=by kernel_rfl
 f106:=Tryz.func154.trans (congrArg some (by kernel_rfl))
 f213:=Tryz.func209.trans (congrArg some (by kernel_rfl))
 f265:=Tryz.func259.trans (congrArg some (by kernel_rfl))
 t3:=Tryz.underlying3
 a3:=Tryz.isAgg3
 z3:=Tryz.sizeOf3
 v3:=Tryz.zeroValue3
 t9:=Tryz.underlying9
 a9:=Tryz.isAgg9
 z9:=Tryz.sizeOf9
 v9:=Tryz.zeroValue9}
open Go.RowKit in
theorem Tryz.strings_Compare (a b:ByteArray) (w:World):
  Calls Tryz.prog 154 #[.string a,.string b] w fun e w'=>e= .returned (.int .i64 (Lib.compareBytes a.data.toList b.data.toList))∧w'=w:=Any.strings_Compare Tryz.lays106 a b w
def Tryz.lays189_ren:Go.Shelf.Ren:=⟨fun | 189=>135 | 125=>153 | 257=>188 | 128=>207 | 129=>208 | 294=>236 | 295=>237 | 296=>238 | 297=>239 | 298=>240 | 299=>241 | 216=>242 | 300=>243 | 301=>244 | 328=>264 | 329=>255 | 330=>256 | 331=>265 | 332=>266 | 215=>229 | 343=>274 | n=>n,fun | 28=>37 | 3=>3 | 46=>216 | 0=>0 | 51=>274 | 53=>276 | 4=>4 | 183=>268 | 182=>267 | 131=>150 | 5=>5 | 9=>9 | 218=>306 | 222=>184 | 228=>318 | 229=>319 | n=>n,fun | n=>n⟩
theorem Tryz.lays189:Go.Proofs.Lays.n189 Tryz.prog Tryz.lays189_ren:={
 mixed:=by kernel_rfl
 f125:=Tryz.func153.trans (congrArg some (by kernel_rfl))
 f128:=Tryz.func207.trans (congrArg some (by kernel_rfl))
 f129:=Tryz.func208.trans (congrArg some (by kernel_rfl))
 f189:=Tryz.func135.trans (congrArg some (by kernel_rfl))
 f215:=Tryz.func229.trans (congrArg some (by kernel_rfl))
 f216:=Tryz.func242.trans (congrArg some (by kernel_rfl))
 f257:=Tryz.func188.trans (congrArg some (by kernel_rfl))
 f294:=Tryz.func236.trans (congrArg some (by kernel_rfl))
 f295:=Tryz.func237.trans (congrArg some (by kernel_rfl))
 f296:=Tryz.func238.trans (congrArg some (by kernel_rfl))
 f297:=Tryz.func239.trans (congrArg some (by kernel_rfl))
 f298:=Tryz.func240.trans (congrArg some (by kernel_rfl))
 f299:=Tryz.func241.trans (congrArg some (by kernel_rfl))
 f300:=Tryz.func243.trans (congrArg some (by kernel_rfl))
 f301:=Tryz.func244.trans (congrArg some (by kernel_rfl))
 f328:=Tryz.func264.trans (congrArg some (by kernel_rfl))
 f329:=Tryz.func255.trans (congrArg some (by kernel_rfl))
 f330:=Tryz.func256.trans (congrArg some (by kernel_rfl))
 f331:=Tryz.func265.trans (congrArg some (by kernel_rfl))
 f332:=Tryz.func266.trans (congrArg some (by kernel_rfl))
 f343:=Tryz.func274.trans (congrArg some (by kernel_rfl))
 t0:=Tryz.underlying0
 a0:=Tryz.isAgg0
 z0:=Tryz.sizeOf0
 v0:=Tryz.zeroValue0
 t3:=Tryz.underlying3
 a3:=Tryz.isAgg3
 z3:=Tryz.sizeOf3
 v3:=Tryz.zeroValue3
 t4:=Tryz.underlying4
 a4:=Tryz.isAgg4
 z4:=Tryz.sizeOf4
 v4:=Tryz.zeroValue4
 t5:=Tryz.underlying5
 a5:=Tryz.isAgg5
 z5:=Tryz.sizeOf5
 v5:=Tryz.zeroValue5
 t9:=Tryz.underlying9
 a9:=Tryz.isAgg9
 z9:=Tryz.sizeOf9
 v9:=Tryz.zeroValue9
 t28:=Tryz.underlying37
 a28:=Tryz.isAgg37
 z28:=Tryz.sizeOf37
 v28:=Tryz.zeroValue37
 t46:=Tryz.underlying216
 a46:=Tryz.isAgg216
 z46:=Tryz.sizeOf216
 v46:=Tryz.zeroValue216
 t51:=Tryz.underlying274
 a51:=Tryz.isAgg274
 z51:=Tryz.sizeOf274
 v51:=Tryz.zeroValue274
 t53:=Tryz.underlying276
 a53:=Tryz.isAgg276
 z53:=Tryz.sizeOf276
 v53:=Tryz.zeroValue276
 t131:=Tryz.underlying150
 a131:=Tryz.isAgg150
 z131:=Tryz.sizeOf150
 v131:=Tryz.zeroValue150
 t182:=Tryz.underlying267
 a182:=Tryz.isAgg267
 z182:=Tryz.sizeOf267
 v182:=Tryz.zeroValue267
 t183:=Tryz.underlying268
 a183:=Tryz.isAgg268
 z183:=Tryz.sizeOf268
 v183:=Tryz.zeroValue268
 t218:=Tryz.underlying306
 a218:=Tryz.isAgg306
 z218:=Tryz.sizeOf306
 v218:=Tryz.zeroValue306
 t222:=Tryz.underlying184
 a222:=Tryz.isAgg184
 z222:=Tryz.sizeOf184
 v222:=Tryz.zeroValue184
 t228:=Tryz.underlying318
 a228:=Tryz.isAgg318
 z228:=Tryz.sizeOf318
 v228:=Tryz.zeroValue318
 t229:=Tryz.underlying319
 a229:=Tryz.isAgg319
 z229:=Tryz.sizeOf319
 v229:=Tryz.zeroValue319}
open Go.Sort Go.RowKit in
theorem Tryz.slices_Sort_int (blk off cap:Nat) (zs:List Int) (w:World) (hH:Holds (Value.int .i64) w blk off zs.toArray) (hblk:blk<w.heap.size) (hsz:zs.length<4611686018427387904):
  Calls Tryz.prog 135 #[.slice (some ⟨blk,off,none⟩) zs.length cap] w fun e w'=>
   e= .returned (.tuple #[])∧∃ n os,w'=grow (putRow (Value.int .i64) (Sort.ahead w n) blk off (zs.mergeSort fun x y=>decide (x≤y)).toArray) os:=Any.slices_Sort_int Tryz.lays189 blk off cap zs w hH hblk hsz
open Go.RowKit Go.Sort in
theorem Tryz.slices_Sort_int_none (p:Option Addr) (cap:Nat) (w:World):
  Calls Tryz.prog 135 #[.slice p 0 cap] w fun e w'=>e= .returned (.tuple #[])∧w'=w:=Any.slices_Sort_int_none Tryz.lays189 p cap w
def Tryz.laysSlF06_f80_ren:Go.Shelf.Ren:=⟨fun | 6=>80 | 15=>153 | 14=>152 | 28=>207 | 29=>208 | 20=>199 | 21=>200 | 22=>201 | 23=>202 | 24=>203 | 25=>204 | 26=>205 | 27=>206 | 46=>254 | 47=>255 | 48=>256 | 49=>257 | 50=>258 | 57=>268 | n=>n,fun | 22=>57 | 24=>45 | 25=>128 | 3=>3 | 39=>216 | 0=>0 | 53=>274 | 55=>276 | 4=>4 | 46=>268 | 45=>267 | 50=>150 | 5=>5 | 9=>9 | 66=>306 | 70=>184 | 76=>318 | 77=>319 | n=>n,fun | n=>n⟩
theorem Tryz.laysSlF06_f80:Go.Proofs.SlLaysF0.n6 Tryz.prog Tryz.laysSlF06_f80_ren:={
 mixed:=by kernel_rfl
 f6:=⟨Tryz.f80.name,by decide,Tryz.func80.trans (congrArg some (by kernel_rfl))⟩
 f14:=⟨Tryz.f152.name,by decide,Tryz.func152.trans (congrArg some (by kernel_rfl))⟩
 f15:=Tryz.func153.trans (congrArg some (by kernel_rfl))
 f20:=⟨Tryz.f199.name,by decide,Tryz.func199.trans (congrArg some (by kernel_rfl))⟩
 f21:=⟨Tryz.f200.name,by decide,Tryz.func200.trans (congrArg some (by kernel_rfl))⟩
 f22:=⟨Tryz.f201.name,by decide,Tryz.func201.trans (congrArg some (by kernel_rfl))⟩
 f23:=⟨Tryz.f202.name,by decide,Tryz.func202.trans (congrArg some (by kernel_rfl))⟩
 f24:=⟨Tryz.f203.name,by decide,Tryz.func203.trans (congrArg some (by kernel_rfl))⟩
 f25:=⟨Tryz.f204.name,by decide,Tryz.func204.trans (congrArg some (by kernel_rfl))⟩
 f26:=⟨Tryz.f205.name,by decide,Tryz.func205.trans (congrArg some (by kernel_rfl))⟩
 f27:=⟨Tryz.f206.name,by decide,Tryz.func206.trans (congrArg some (by kernel_rfl))⟩
 f28:=Tryz.func207.trans (congrArg some (by kernel_rfl))
 f29:=Tryz.func208.trans (congrArg some (by kernel_rfl))
 f46:=⟨Tryz.f254.name,by decide,Tryz.func254.trans (congrArg some (by kernel_rfl))⟩
 f47:=Tryz.func255.trans (congrArg some (by kernel_rfl))
 f48:=Tryz.func256.trans (congrArg some (by kernel_rfl))
 f49:=⟨Tryz.f257.name,by decide,Tryz.func257.trans (congrArg some (by kernel_rfl))⟩
 f50:=⟨Tryz.f258.name,by decide,Tryz.func258.trans (congrArg some (by kernel_rfl))⟩
 f57:=⟨Tryz.f268.name,by decide,Tryz.func268.trans (congrArg some (by kernel_rfl))⟩
 t0:=Tryz.underlying0
 a0:=Tryz.isAgg0
 z0:=Tryz.sizeOf0
 v0:=Tryz.zeroValue0
 t3:=Tryz.underlying3
 a3:=Tryz.isAgg3
 z3:=Tryz.sizeOf3
 v3:=Tryz.zeroValue3
 t4:=Tryz.underlying4
 a4:=Tryz.isAgg4
 z4:=Tryz.sizeOf4
 v4:=Tryz.zeroValue4
 t5:=Tryz.underlying5
 a5:=Tryz.isAgg5
 z5:=Tryz.sizeOf5
 v5:=Tryz.zeroValue5
 t9:=Tryz.underlying9
 a9:=Tryz.isAgg9
 z9:=Tryz.sizeOf9
 v9:=Tryz.zeroValue9
 t22:=Tryz.underlying57
 a22:=Tryz.isAgg57
 z22:=Tryz.sizeOf57
 v22:=Tryz.zeroValue57
 t25:=Tryz.underlying128
 a25:=Tryz.isAgg128
 z25:=Tryz.sizeOf128
 v25:=Tryz.zeroValue128
 t39:=Tryz.underlying216
 a39:=Tryz.isAgg216
 z39:=Tryz.sizeOf216
 v39:=Tryz.zeroValue216
 t45:=Tryz.underlying267
 a45:=Tryz.isAgg267
 z45:=Tryz.sizeOf267
 v45:=Tryz.zeroValue267
 t46:=Tryz.underlying268
 a46:=Tryz.isAgg268
 z46:=Tryz.sizeOf268
 v46:=Tryz.zeroValue268
 t50:=Tryz.underlying150
 a50:=Tryz.isAgg150
 z50:=Tryz.sizeOf150
 v50:=Tryz.zeroValue150
 t53:=Tryz.underlying274
 a53:=Tryz.isAgg274
 z53:=Tryz.sizeOf274
 v53:=Tryz.zeroValue274
 t55:=Tryz.underlying276
 a55:=Tryz.isAgg276
 z55:=Tryz.sizeOf276
 v55:=Tryz.zeroValue276
 t66:=Tryz.underlying306
 a66:=Tryz.isAgg306
 z66:=Tryz.sizeOf306
 v66:=Tryz.zeroValue306
 t70:=Tryz.underlying184
 a70:=Tryz.isAgg184
 z70:=Tryz.sizeOf184
 v70:=Tryz.zeroValue184
 t76:=Tryz.underlying318
 a76:=Tryz.isAgg318
 z76:=Tryz.sizeOf318
 v76:=Tryz.zeroValue318
 t77:=Tryz.underlying319
 a77:=Tryz.isAgg319
 z77:=Tryz.sizeOf319
 v77:=Tryz.zeroValue319}
open Go.RowKit Go.Lib Go.Sort in
theorem Tryz.slices_SortFunc {α:Type} [Inhabited α] (k:Nat) (aE:∀ w,(isAgg (Tryz.laysSlF06_f80_ren.t 24)).run Tryz.prog w= .ok true w) (zE:∀ w,(Go.sizeOf (Tryz.laysSlF06_f80_ren.t 24)).run Tryz.prog w= .ok k w) (enc:α→List Value) (hk:∀ x,(enc x).length=k) (h1:∀ x,∀ v∈enc x,v.oneCell'=true) (cf:α→α→Int) (hO:SWO (ltOf cf)) (g:Nat) (cb:Array Value) (blk off cap:Nat) (d:Array α) (w:World) (eg:∀ args w,(callFunc g args).run Tryz.prog w= .ok (.enter g args) w) (hcmp:CmpLays Tryz.prog g cb enc k cf blk off d.size w) (hH:HoldsK enc k w blk off d) (hblk:blk<w.heap.size) (hsz:d.size<4611686018427387904):
  Calls Tryz.prog 80 #[.slice (some ⟨blk,off,none⟩) d.size cap,.func (.func g) #[] cb] w fun e w'=>
   e= .returned (.tuple #[])∧∃ d' n os,PermIn 0 d.size d d'∧SortedIn (ltOf cf) 0 d.size d'∧w'=sortWorldK enc k w blk off n d' os:=AnyQ.slices_SortFunc Tryz.laysSlF06_f80 k aE zE enc hk h1 cf hO g cb blk off cap d w eg hcmp hH hblk hsz
open Go.RowKit Go.Lib Go.Sort in
theorem Tryz.slices_SortFunc_none {α:Type} [Inhabited α] (p:Option Addr) (cap:Nat) (fv:Value) (w:World):
  Calls Tryz.prog 80 #[.slice p 0 cap,fv] w fun e w'=>e= .returned (.tuple #[])∧w'=w:=AnyF.slices_SortFunc_none Tryz.laysSlF06_f80 p cap fv w
end
end Go.Proofs
namespace Go.Proofs.YtjblkbkmblkgoaaGreat
section
open Go Go.Kn Go.Proofs
theorem zg4 (e:Nat)(zs:List Int){v:Value}{n:Nat}{L:Go.Kn.Loc}(hO:Ya e 1 v n (zs.map (Value.int .i64)) L)(hn:n≤1000000)(I:Qt):
  Vl Tryz.prog 135 [v] I L (fun u I' L'=>u= .tuple #[]∧I'=I∧Ya e 1 v n ((zb7 zs).map (Value.int .i64)) L'):=
 ztO Tryz.slices_Sort_int Tryz.slices_Sort_int_none zs hO hn I
end
section
open Go Go.Kn Go.Proofs
def zoa (b:Nat):Value:=.map (some b)
structure zfh (s:List (Int×Bool))(A:Int→Bool):Prop where
 nodup:(s.map (·.1)).Nodup
 all:∀ q∈s,q.2=true
 mem:∀ x,znR s x=A x
theorem zfh.nil:zfh [] (fun _=>false):=⟨.nil,(fun q hq=>by cases hq),fun _=>rfl⟩
theorem zfh.put {s:List (Int×Bool)}{A:Int→Bool}(h:zfh s A)(a:Int):zfh (Ji s a true) (fun x=>decide (a=x)||A x) where
 nodup:=zig a true h.nodup
 all:=by
  have key:∀ (s:List (Int×Bool)),(∀ q∈s,q.2=true)→∀ q∈Ji s a true,q.2=true:=by
   intro s
   induction s with
   | nil=>intro _ q hq;simp [Ji] at hq;rw [hq]
   | cons p s ih=>
    intro h q hq
    unfold Ji at hq
    split at hq
    ·
     rcases List.mem_cons.1 hq with rfl | hq
     ·
      rfl
     ·
      exact h q (List.mem_cons_of_mem _ hq)
    ·
     rcases List.mem_cons.1 hq with rfl | hq
     ·
      exact h _ (List.mem_cons_self ..)
     ·
      exact ih (fun q hq=>h q (List.mem_cons_of_mem _ hq)) q hq
  exact key s h.all
 mem:=fun x=>by rw [zgK,h.mem]
theorem zfh.congr {s:List (Int×Bool)}{A B:Int→Bool}(h:zfh s A)(e:∀ x,A x=B x):zfh s B:=⟨h.nodup,h.all,fun x=>by rw [h.mem,e]⟩
theorem zfh.key {s:List (Int×Bool)}{A:Int→Bool}(h:zfh s A){x:Int}:A x=true↔x∈s.map (·.1):=by
 rw [←h.mem]
 unfold znR
 constructor
 ·
  intro h1
  cases hg:Zx s x with
  | none=>rw [hg] at h1;cases h1
  | some b=>exact List.mem_map.2 ⟨_,zcY hg,rfl⟩
 ·
  intro h1
  obtain ⟨q,hq,rfl⟩:=List.mem_map.1 h1
  rw [zq9 h.nodup hq,h.all q hq];rfl
def OnS (I:Qt)(ref:Nat)(A:Int→Bool):Prop:=∃ s:List (Int×Bool),I ref=some (Yk (Value.int .i64) Value.bool s)∧zfh s A
theorem OnS.mono {I I':Qt}{ref:Nat}{A:Int→Bool}(h:OnS I ref A)(hI:HLe I I'):OnS I' ref A:=by
 obtain ⟨s,h1,h2⟩:=h
 exact ⟨s,hI _ _ h1,h2⟩
def OnL (I:Qt)(m:List (Int×Nat))(ps:List Pt):Prop:=m.map (·.1)=ps.map (·.id)∧∀ q∈m,OnS I q.2 (onF ps q.1)
theorem OnL.mono {I I':Qt}{m:List (Int×Nat)}{ps:List Pt}(h:OnL I m ps)(hI:HLe I I'):OnL I' m ps:=⟨h.1,fun q hq=>(h.2 q hq).mono hI⟩
theorem OnL.nil {I:Qt}{ps:List Pt}:OnL I [] (ps.take 0):=⟨by simp,fun q hq=>by cases hq⟩
def OnM (I:Qt)(r:Nat)(ps:List Pt):Prop:=∃ m:List (Int×Nat),I r=some (Yk (Value.int .i64) zoa m)∧OnL I m ps
theorem OnM.mono {I I':Qt}{r:Nat}{ps:List Pt}(h:OnM I r ps)(hI:HLe I I'):OnM I' r ps:=by
 obtain ⟨m,h1,h2⟩:=h
 exact ⟨m,hI _ _ h1,h2.mono hI⟩
theorem OnL.get {I:Qt}{m:List (Int×Nat)}{ps:List Pt}(h:OnL I m ps){a:Int}(ha:∃ q∈ps,q.id=a):∃ ref,Zx m a=some ref∧OnS I ref (onF ps a):=by
 cases hg:Zx m a with
 | none=>
  have:=zbp.1 hg
  rw [h.1] at this
  obtain ⟨q,hq,rfl⟩:=ha
  exact absurd (List.mem_map.2 ⟨q,hq,rfl⟩) this
 | some ref=>exact ⟨ref,rfl,h.2 _ (zcY hg)⟩
theorem Lst.before {ps:List Pt}(h:Lst ps){k:Nat}{p:Pt}(hk:ps[k]? =some p){n:Int}(hn:n∈p.needs):∃ q∈ps.take k,q.id=n:=by
 obtain ⟨h1,q,hq,rfl⟩:=h.has p (List.mem_of_getElem? hk) n hn
 obtain ⟨j,hj⟩:=List.getElem?_of_mem hq
 obtain ⟨hj1,hj2⟩:=List.getElem?_eq_some_iff.1 hj
 obtain ⟨hk1,hk2⟩:=List.getElem?_eq_some_iff.1 hk
 have hjk:j<k:=by
  rcases Nat.lt_or_ge j k with h3 | h3
  ·
   exact h3
  ·
   exfalso
   by_cases e:k=j
   ·
    subst e;rw [hk] at hj;cases hj;omega
   ·
    have:=List.pairwise_iff_getElem.1 h.inc k j hk1 hj1 (by omega)
    rw [hj2,hk2] at this;omega
 refine ⟨q,?_,rfl⟩
 rw [List.mem_take_iff_getElem]
 exact ⟨j,by omega,hj2⟩
theorem Lst.fresh {ps:List Pt}(h:Lst ps){k:Nat}{p:Pt}(hk:ps[k]? =some p):∀ q∈ps.take k,q.id<p.id:=fun q hq=>by
 obtain ⟨j,hj,rfl⟩:=List.mem_take_iff_getElem.1 hq
 obtain ⟨hk1,hk2⟩:=List.getElem?_eq_some_iff.1 hk
 have:=List.pairwise_iff_getElem.1 h.inc j k (by omega) hk1 (by omega)
 rw [hk2] at this;exact this
theorem OnL.step {I:Qt}{m:List (Int×Nat)}{ps:List Pt}{k ref:Nat}{p:Pt}{s:List (Int×Bool)}(hL:Lst ps)(hk:ps[k]? =some p)(hm:OnL I m (ps.take k))(hb:I ref=some (Yk (Value.int .i64) Value.bool s))
  (hs:zfh s (fun x=>p.needs.any fun n=>n==x||onF (ps.take k) n x)):OnL I (Ji m p.id ref) (ps.take (k+1)):=by
 have hfr:=hL.fresh hk
 have hnew:p.id∉m.map (·.1):=by
  rw [hm.1]
  intro h
  obtain ⟨q,hq,e⟩:=List.mem_map.1 h
  have:=hfr q hq;omega
 have hmi:Ji m p.id ref=m++[(p.id,ref)]:=by
  refine zcG m p.id ref 0 ?_
  have:=zbp.2 hnew
  rw [←zbt m p.id 0] at this
  simpa using this
 rw [Xj hk]
 refine ⟨by rw [zaV,if_neg hnew,hm.1];simp,fun q hq=>?_⟩
 rw [hmi] at hq
 rcases List.mem_append.1 hq with hq | hq
 ·
  obtain ⟨s',h1,h2⟩:=hm.2 q hq
  refine ⟨s',h1,h2.congr fun x=>?_⟩
  have hne:q.1≠p.id:=fun e=>hnew (by rw [←e];exact List.mem_map.2 ⟨q,hq,rfl⟩)
  rw [zgv (fun z hz=>by simp at hz;subst hz;exact fun e=>hne e.symm)]
 ·
  simp at hq;subst hq
  refine ⟨s,hb,hs.congr fun x=>?_⟩
  exact (zea (fun z hz=>by cases hz)).symm
def zso (sn:List (Int×Bool))(seen:List Nat)(x:Int):Bool:=seen.any fun i=>(sn[i]?.map (·.1))==some x
theorem zof (sn:List (Int×Bool))(x:Int):zso sn [] x=false:=rfl
theorem zjH {sn:List (Int×Bool)}{seen:List Nat}{i:Nat}{p:Int×Bool}(hp:sn[i]? =some p)(x:Int):zso sn (seen++[i]) x=(decide (p.1=x)||zso sn seen x):=by
 unfold zso
 rw [List.any_append,Bool.eq_iff_iff]
 simp [hp,or_comm]
theorem znP {sn:List (Int×Bool)}{A:Int→Bool}(h:zfh sn A){seen:List Nat}(hall:∀ i p,sn[i]? =some p→i∈seen)(x:Int):zso sn seen x=A x:=by
 rw [Bool.eq_iff_iff,h.key]
 unfold zso
 rw [List.any_eq_true]
 constructor
 ·
  rintro ⟨i,_,hi⟩
  cases hx:sn[i]? with
  | none=>rw [hx] at hi;simp at hi
  | some p=>rw [hx] at hi;simp at hi;exact List.mem_map.2 ⟨p,List.mem_of_getElem? hx,hi⟩
 ·
  intro hx
  obtain ⟨p,hp,rfl⟩:=List.mem_map.1 hx
  obtain ⟨i,hi⟩:=List.getElem?_of_mem hp
  exact ⟨i,hall i p hi,by rw [hi];simp⟩
end
section
open Go Go.Kn Go.Proofs
theorem zov {I:Qt}{av:Option Addr}{n c:Nat}{ps:List Pt}(hP:SlP I av n c ps)(hn:n≤100000)(hL:Lst ps)(hnd:∀ p∈ps,p.n≤100000):Vl Tryz.prog 99 [.slice av n c] I [] (fun v I' L=>L=[]∧∃ r,v= .map (some r)∧OnM I' r ps):=by
 intro g H w hw
 refine qe Tryz.func99 Tryz.ntmps99 hw ?_
 have hIc:=zzm I
 refine zR (zA ?_)
 refine zN (zR ?_)
 refine Z3 rfl rfl (fun r_10=>?_)
 refine zA (zN (Qm (zR ?_)))
 refine zM ?_
 refine zQ Kv ?_
 refine zM (zN (Qw ?_))
 refine zU [(3,_),(11,_),(12,_)] (fun T L0 mz E I' loc'=>∃ (k:Nat) (m:List (Int×Nat)),mz=n-k∧E=(13,.int .i64 k)::T∧HLe I I'∧[(r_10,Yk (Value.int .i64) zoa m)]=loc'∧k≤n∧OnL I' m (ps.take k)) ?_ (h:=⟨0,[],rfl,rfl,zzm _,rfl,Nat.zero_le _,OnL.nil⟩)
 rintro mz E J1 loc' ⟨k,m,rfl,rfl,hJ,rfl,hk,hm⟩
 have hP:=hP.mono hJ;have hIc:=hIc.trans hJ
 have hB0:=hJ
 refine zR (zC (zN (Qm ?_)))
 refine zI ?_ ?_<;>intro hc14
 ·
  have hlt_k:k<n:=by have h:=hc14;simp at h;omega
  have hP1:=hP.1
  obtain ⟨p,hp,hN⟩:=hP.at hlt_k
  have hpm:=List.mem_of_getElem? hp
  have hN:Sl J1 1 Z1 p.a p.n p.c p.needs:=hN
  have hpn:=hnd p hpm
  refine Qr (Qd (Qm (Qw (zR ?_))))
  refine zV (QG rfl rfl Kv (by assumption) (fun hg=>by omega)) ?_
  refine zV (Qg rfl Vs (fun hg=>by exact zzn hP.1 hp) rfl) ?_
  refine Qq za9 rfl rfl (fun b_5=>?_)
  refine zh UH ?_
  refine zN (zR ?_)
  refine Z3 rfl rfl (fun r_17=>?_)
  refine zA (zN (Qm (zR ?_)))
  refine zF ZK ?_
  refine zL Y5 ?_
  refine zQ ZE ?_
  refine zM (zN (Qw ?_))
  refine zU [(3,_),(5,_),(6,_),(11,_),(12,_),(13,_),(19,_),(20,_)] (fun T L0 mz E I' loc'=>∃ (j:Nat) (s:List (Int×Bool)),mz=p.n-j∧E=(21,.int .i64 j)::T∧J1=I'∧[(r_17,Yk (Value.int .i64) Value.bool s),(b_5,.cells (WG p).toArray 39 (0,0)),(r_10,Yk (Value.int .i64) zoa m)]=loc'∧j≤p.n∧zfh s (fun x=>(p.needs.take j).any fun n=>n==x||onF (ps.take k) n x)) ?_ (h:=⟨0,[],rfl,rfl,rfl,rfl,Nat.zero_le _,zfh.nil⟩)
  rintro mz E I' loc' ⟨j,s,rfl,rfl,rfl,rfl,hj,hs⟩
  refine zR (zC (zN (Qm ?_)))
  refine zI ?_ ?_<;>intro hc22
  ·
   have hlt_j:j<p.n:=by have h:=hc22;simp at h;omega
   obtain ⟨y,hy⟩:=hN.at hlt_j
   obtain ⟨ref,hget,sn,hsn,hsq⟩:=hm.get (hL.before hp (List.mem_of_getElem? hy))
   refine Qr (Qd (Qm (Qw (zR ?_))))
   refine zV (QG rfl rfl ZE (by assumption) (fun hg=>by omega)) ?_
   refine zV (Qc rfl Ql (fun hg=>by exact zzf hN hy rfl)) ?_
   refine zA ?_
   refine zN (zR ?_)
   refine zM ?_
   refine zM ?_
   refine Z6 (m:=s) (ek:=Value.int .i64) (ev:=Value.bool) (a:=y) true Ws Q3 rfl rfl rfl rfl (by repeat (first | exact Upd.here | apply Upd.there | apply Qu)) ?_
   refine zN (zR ?_)
   refine zM ?_
   refine zM ?_
   refine zV (Xu (m:=m) (ek:=Value.int .i64) (ev:=zoa) (a:=y) hget zc0 Q3 rfl rfl (fun _=>.inr (by simp))) ?_
   refine zoi (ek:=Value.int .i64) (ev:=Value.bool) (m:=sn) rfl Ws rfl rfl (.inl hsn) (fun b_30=>?_)
   refine zN (Qw ?_)
   refine zU [(3,_),(5,_),(6,_),(11,_),(12,_),(13,_),(19,_),(20,_),(21,_),(30,_)] (fun T L0 mz E I' loc'=>∃ (seen:List Nat) (s:List (Int×Bool)),mz=sn.length-seen.length∧E=T∧J1=I'∧[(b_30,UG ref sn.length seen),(r_17,Yk (Value.int .i64) Value.bool s),(b_5,.cells (WG p).toArray 39 (0,0)),(r_10,Yk (Value.int .i64) zoa m)]=loc'∧zfh s (fun x=>zso sn seen x||(decide (y=x)||(p.needs.take j).any fun n=>n==x||onF (ps.take k) n x))∧seen.Nodup∧∀ i∈seen,i<sn.length) ?_ (h:=⟨[],_,rfl,rfl,rfl,rfl,(hs.put y).congr (fun x=>by rw [zof,Bool.false_or]),.nil,fun i h=>by cases h⟩)
   rintro mz E I' loc' ⟨seen,s,rfl,rfl,rfl,rfl,hs,hnd2,hlt⟩
   have hsl:=zkh hnd2 hlt
   refine zR ?_
   refine zoF (ek:=Value.int .i64) (ev:=Value.bool) (m:=sn) (fun s'=>[(b_30,UG ref sn.length s'),(r_17,Yk (Value.int .i64) Value.bool s),(b_5,.cells (WG p).toArray 39 (0,0)),(r_10,Yk (Value.int .i64) zoa m)]) rfl (fun s'=>.here) rfl rfl rfl rfl rfl (.inl hsn) (by simp) ?_
   intro t tv s' hno hyes
   refine zN (Qm ?_)
   refine zI ?_ ?_<;>intro hc32
   ·
    obtain ⟨i,q,hq,hns,rfl⟩:=hyes hc32
    refine Qr (Qd (Qw (zR ?_)))
    refine zV (znY (ek:=Value.int .i64) (ev:=Value.bool) (m:=sn) (p:=q) (seen:=seen) (i:=i) rfl (.inl hsn) (.inr (by simp)) hq) ?_
    refine zE ?_
    refine zA (zN (Qi ?_))
    refine zM ?_
    refine zM ?_
    refine Z6 (m:=s) (ek:=Value.int .i64) (ev:=Value.bool) (a:=q.1) true Ws Q3 rfl rfl rfl rfl (by repeat (first | exact Upd.here | apply Upd.there | apply Qu)) ?_
    refine Qb (Qk ?_)
    have hnd3:(seen++[i]).Nodup:=List.nodup_append.2 ⟨hnd2,by simp,fun a ha b hb e=>hns (by simp at hb;subst hb;subst e;exact ha)⟩
    have hlt3:∀ j∈seen++[i],j<sn.length:=fun j hj=>(List.mem_append.1 hj).elim (hlt j) (fun h=>by simp at h;subst h;exact (List.getElem?_eq_some_iff.1 hq).1)
    have hsl2:=zkh hnd3 hlt3
    rw [List.length_append,List.length_singleton] at hsl2
    exact zm (h:=⟨sn.length-(seen++[i]).length,by rw [List.length_append,List.length_singleton];omega,seen++[i],_,rfl,rfl,rfl,rfl,(hs.put q.1).congr (fun x=>by rw [zjH hq,Bool.or_assoc]),hnd3,hlt3⟩)
   obtain ⟨rfl,hall⟩:=hno hc32
   refine Zi (Qo (Qo (Qz (Qk (Qd (Qi (zB ?_)))))))
   refine zM (Qb ?_)
   exact zm (h:=⟨p.n-(j+1),by omega,j+1,_,rfl,rfl,rfl,rfl,by omega,hs.congr (fun x=>by rw [zat hy,znP hsq hall x];rw [Bool.eq_iff_iff];simp;grind)⟩)
  have hge_j:p.n≤j:=by have h:=hc22;simp at h;omega
  refine Zi (Qo (Qo (Qz (Qd ?_))))
  refine QH .here (fun I4 hI4 hb4=>?_)
  have hm:=hm.mono hI4;have hB0:=hB0.trans hI4
  have hbx:=hb4
  refine Qi (zM ?_)
  refine zF Z2 ?_
  refine zL Ql ?_
  refine zM ?_
  refine Z6 (m:=m) (ek:=Value.int .i64) (ev:=zoa) (a:=p.id) r_17 zc0 Q3 rfl rfl rfl rfl (by repeat (first | exact Upd.here | apply Upd.there | apply Qu)) ?_
  refine Qb (Qk (Qd (Qi (zB ?_))))
  refine zM (Qb ?_)
  exact zm (h:=⟨n-(k+1),by omega,k+1,_,rfl,rfl,hB0,rfl,by omega,OnL.step hL hp hm hbx (by rw [ZW hN.len hge_j] at hs;exact hs)⟩)
 have hge_k:n≤k:=by have h:=hc14;simp at h;omega
 rw [ZW hP.len hge_k] at hm
 refine Zi (Qo (Qo (Qz (Qd (zR (zM ?_))))))
 refine zA (zN (Qs ?_))
 exact Qv rfl rfl (fun w hw=>by obtain ⟨I9,h91,h92,h93⟩:=hw.freezeAll;exact ⟨_,I9,[],rfl,hIc.trans h91,h92,rfl,r_10,rfl,m,h93 _ _ (by simp),hm.mono h91⟩)
end
section
open Go Go.Kn Go.Proofs
theorem ziQ (x:Sg):(zh2 [x]==0)=frm x:=by
 unfold zh2 skB skP
 cases h:frm x<;>simp [h]
theorem zhi (a b c d x y:Bool):(((((a&&b)&&c)&&d)&&x)&&y)=(((a&&b)&&(c&&d))&&(x&&y)):=by simp only [Bool.and_assoc]
theorem zqg (a b c d x y z:Bool):((((((a&&b)&&c)&&d)&&x)&&y)&&z)=(((a&&b)&&(c&&d))&&(x&&(y&&z))):=by simp only [Bool.and_assoc]
theorem zpJ (I:Qt)(x:Sg):ZA Tryz.prog 162 [Wl x] I (.bool (frm x)):=by
 intro g H w hw
 refine qe Tryz.func162 Tryz.ntmps162 hw ?_
 have hIc:=zzm I
 refine zR ?_
 refine QR rfl rfl rfl (fun b_1=>?_)
 refine zA ?_
 refine zN (zR ?_)
 refine zV (Qg rfl ZC (fun hg=>by exact Cells.g0) rfl) ?_
 refine zpb [(0,_)] [zfc x] zlB (fun b_4=>?_)
 refine QT .here (fun I1 hI1 hb1=>?_)
 have hIc:=hIc.trans hI1
 have hS:=Sl.lit [x] rfl zgx (show _=some (Obj.cells (([x]:List Sg).flatMap zfc).toArray 36 (0,0)) from hb1)
 refine qcV (vs:=[_]) rfl zqJ (zv9 hS (by decide)) ?_
 refine zC ?_
 refine zA (zN (Qs ?_))
 exact zp hIc rfl rfl (by rw [ziQ])
theorem zqf {I:Qt}(p:Pt)(hN:Nd I p):ZA Tryz.prog 96 [KD p] I (.int .i64 (KO p)):=by
 intro g H w hw
 refine qe Tryz.func96 Tryz.ntmps96 hw ?_
 have hN:Sl I 1 Z1 p.a p.n p.c p.needs:=hN
 refine zR ?_
 refine QR rfl rfl rfl (fun b_1=>?_)
 refine zA (zN (Qm (zR ?_)))
 refine zF ZK ?_
 refine zL Y5 ?_
 refine zQ ZE ?_
 refine zC (zN ?_)
 refine zI ?_ ?_<;>intro hc11
 ·
  have hlen:p.needs.length>32:=by rw [hN.len];simp at hc11;omega
  refine zR (zA (zN (Qs (Qe ?_))))
  exact zr rfl rfl (by rw [zpt hlen])
 have hlen:¬p.needs.length>32:=by rw [hN.len];simp at hc11;omega
 have hpn:p.n≤100000:=by have:=hN.len;omega
 refine Qr (Qd (zR (zA (zN (Qm (zR ?_))))))
 refine zF ZK ?_
 refine zL Y5 ?_
 refine zQ ZE ?_
 refine zM (zN (Qw ?_))
 refine zU [(1,_),(13,_),(14,_)] (fun T L0 mz E I' loc'=>∃ (k:Nat) (l:Int),mz=p.n-k∧E=(3,.int .i64 l)::(15,.int .i64 k)::T∧I=I'∧L0=loc'∧k≤p.n∧(List.range k).all (ndP p.id p.needs)=true∧zh7 p.needs k l) ?_ (h:=⟨0,0,rfl,rfl,rfl,rfl,Nat.zero_le _,rfl,⟨fun _=>rfl,fun y hy h=>absurd rfl h⟩⟩)
 rintro mz E I' loc' ⟨k,l,rfl,rfl,rfl,rfl,hk,hall,hl⟩
 refine zR (zC (zN (Qm ?_)))
 refine zI ?_ ?_<;>intro hc16
 ·
  have hlt_k:k<p.n:=by have h:=hc16;simp at h;omega
  obtain ⟨x,hx⟩:=hN.at hlt_k
  refine Qr (Qd (Qm (Qw (zR ?_))))
  refine zV (QG rfl rfl ZE (by assumption) (fun hg=>by omega)) ?_
  refine zV (Qc rfl Ql (fun hg=>by exact zzf hN hx rfl)) ?_
  refine zA (zN (Qm (zR ?_)))
  refine zM ?_
  refine zM ?_
  refine zC ?_
  refine zM ?_
  refine QM 3 rfl rfl rfl ?_
  refine zJ (Qf rfl) ?_
  refine zJ (Qa rfl Z2) ?_
  refine zJ (Qc rfl Ql (fun hg=>by exact QA.h0 rfl)) ?_
  refine zJ (QD rfl rfl rfl) ?_
  refine Zb rfl rfl rfl rfl rfl ?_
  refine zN ?_
  refine zI ?_ ?_<;>intro hc27
  ·
   have hnd:ndB p.id p.needs=false:=by unfold ndB;exact JI (k:=k) (by rw [hN.len];exact hlt_k) (by rw [ztZ hall hl hx,hc27];rfl)
   refine zR (zA (zN (Qs (Qe (Qj (Qe (Qe ?_)))))))
   refine Qj (Qe ?_)
   exact zr rfl rfl (by rw [zwc hlen hnd])
  refine Qr (Qd (Qi (zM ?_)))
  refine zA (Qb (Qk (Qd (Qi ?_))))
  refine zB ?_
  refine zM (Qb ?_)
  exact zm (h:=⟨p.n-(k+1),by omega,k+1,_,rfl,rfl,rfl,rfl,by omega,VJ hall (by rw [ztZ hall hl hx,hc27];rfl),zcj hx⟩)
 have hge_k:p.n≤k:=by have h:=hc16;simp at h;omega
 have hnd:ndB p.id p.needs=true:=by unfold ndB;rw [hN.len,show p.n=k by omega];exact hall
 refine Zi (Qo (Qo (Qz (Qd (zR ?_)))))
 refine zF Z2 ?_
 refine zL Ql ?_
 refine zC ?_
 refine zM ?_
 refine Qp 3 rfl rfl rfl ?_
 refine zK (Qa rfl Z2) ?_
 refine zK (Qc rfl Ql (fun hg=>by exact QA.h0 rfl)) ?_
 refine zK (QD rfl rfl rfl) ?_
 refine Qy rfl rfl rfl rfl rfl ?_
 refine zM ?_
 refine Qp 8 rfl rfl rfl ?_
 refine zK (Qa rfl Yn) ?_
 refine zK (Qc rfl Ql (fun hg=>by exact QA.h0 rfl)) ?_
 refine zK (QD rfl rfl rfl) ?_
 refine Qy rfl rfl rfl rfl rfl ?_
 refine zM ?_
 refine Qp 13 rfl rfl rfl ?_
 refine zK (Qa rfl Yn) ?_
 refine zK (Qc rfl Ql (fun hg=>by exact QA.h0 rfl)) ?_
 refine zK (QD rfl rfl rfl) ?_
 refine Qy rfl rfl rfl rfl rfl ?_
 refine zA (zN (Qm (zR ?_)))
 refine zF Jv ?_
 refine zL Ql ?_
 refine zN (Qw (zR (zC ?_)))
 refine zA (zN ?_)
 refine zI ?_ ?_<;>intro hc50
 ·
  have hk:p.kind=1:=by simpa using hc50
  refine Qm (zR ?_)
  refine zF Ym ?_
  refine zL Ql ?_
  refine zC ?_
  refine zM ?_
  refine QM 3 rfl rfl rfl ?_
  refine zJ (Qa rfl Ym) ?_
  refine zJ (Qc rfl Ql (fun hg=>by exact QA.h0 rfl)) ?_
  refine zJ (QD rfl rfl rfl) ?_
  refine Zb rfl rfl rfl rfl rfl ?_
  refine zN ?_
  refine zI ?_ ?_<;>intro hc59
  ·
   have hb:(idB p&&Ur p)=false:=zw8 hk (by unfold within;simp at hc59 ⊢;omega)
   refine zR (zA (zN (Qs (Qe (Qj (Qe ?_))))))
   exact zr rfl rfl (by rw [zdO hlen hnd hb])
  have hf:isF p.field:=by have h:=hc59;unfold isF;simp at h;omega
  have hw1:within p.field 1 9=true:=by have h:=hc59;unfold within;simp at h ⊢;omega
  refine Qr (Qd (zR ?_))
  refine zV (QK (ps:=[(1,_)]) [_,_] zht rfl rfl) ?_
  refine zV (QK (ps:=[(0,_),(1,_)]) [_,_] zht rfl rfl) ?_
  refine zV (QK (ps:=[(3,_),(4,_),(10,_),(11,_)]) [_,_,_,_,_,_,_,_,_,_,_,_,_,_] X3 rfl rfl) ?_
  refine Qq zit rfl rfl (fun b_7=>?_)
  refine zh Je ?_
  refine zN (Qi (zM ?_))
  refine zM ?_
  refine Qp 1 rfl rfl rfl ?_
  refine zK (Qa rfl Yy) ?_
  refine zK (Qg rfl ZC (fun hg=>by exact Cells.s1 (vs:=[_,_,_,_,_,_,_,_,_,_,_,_,_,_]) rfl) rfl) ?_
  refine zK (Qa rfl Ym) ?_
  refine zK (Qc rfl Ql (fun hg=>by exact QA.h1 rfl)) ?_
  refine zK (QK (ps:=[]) [_,_,_,_,_,_,_,_,_,_,_,_,_,_] X3 rfl rfl) ?_
  refine qg (vs:=[_,_,_]) rfl zj2 (fun hg=>zwY I p.nw p.field Jz hf) ?_
  refine zK (QK (ps:=[]) [_,_,_,_,_,_,_,_,_,_,_,_,_,_] X3 rfl rfl) ?_
  refine zK (UO rfl rfl Wr rfl) ?_
  refine Qy rfl rfl rfl rfl rfl ?_
  refine zM ?_
  refine Qp 11 rfl rfl rfl ?_
  refine zK (Qg rfl ZC (fun hg=>by exact Cells.g0) rfl) ?_
  refine zK (Qa rfl Ym) ?_
  refine zK (Qc rfl Ql (fun hg=>by exact QA.h1 rfl)) ?_
  refine zK (Qa rfl Yy) ?_
  refine zK (Qg rfl ZC (fun hg=>by exact Cells.s1 (vs:=[_,_,_,_,_,_,_,_,_,_,_,_,_,_]) rfl) rfl) ?_
  refine qg (vs:=[_,_,_]) rfl zj2 (fun hg=>zwY I zeJ p.field p.nw hf) ?_
  refine qg (vs:=[_]) rfl zkt (fun hg=>zpJ I _) ?_
  refine Qy rfl rfl rfl rfl rfl ?_
  refine zA (Qb (Qk (Qd (Qm (zR ?_)))))
  refine zM ?_
  refine zO (zN ?_)
  refine zI ?_ ?_<;>intro hc119
  ·
   have hb:(idB p&&Ur p)=false:=by (exact (show (idB p&&Ur p)=false from by rw [zsY hk hw1];exact (zhi _ _ _ _ _ _).symm.trans ((Bool.not_eq_true' _).mp hc119)))
   refine zR (zA (zN (Qs (Qe ?_))))
   exact zr rfl rfl (by rw [zdO hlen hnd hb])
  have hb:(idB p&&Ur p)=true:=by (exact (show (idB p&&Ur p)=true from by rw [zsY hk hw1];exact (zhi _ _ _ _ _ _).symm.trans ((Bool.not_eq_false' _).mp hc119)))
  refine Qr (Qd (zR (zA (zN (Qs ?_)))))
  exact zr rfl rfl (by rw [zg0 hlen hnd hb])
 have hk1:p.kind≠1:=by simpa using hc50
 refine zR (zC ?_)
 refine zA (zN ?_)
 refine zI ?_ ?_<;>intro hc83
 ·
  have hk:p.kind=2:=by simpa using hc83
  refine Qi (zM ?_)
  refine zM ?_
  refine Qp 1 rfl rfl rfl ?_
  refine zK (Qa rfl Ym) ?_
  refine zK (Qc rfl Ql (fun hg=>by exact QA.h0 rfl)) ?_
  refine zK (QD rfl rfl rfl) ?_
  refine Qy rfl rfl rfl rfl rfl ?_
  refine zM ?_
  refine Qp 6 rfl rfl rfl ?_
  refine zK (Qa rfl Yy) ?_
  refine zK (Qa rfl Jm) ?_
  refine zK (Qc rfl Ql (fun hg=>by exact QA.h0 rfl)) ?_
  refine zK (Qa rfl Yn) ?_
  refine zK (Qc rfl Ql (fun hg=>by exact QA.h0 rfl)) ?_
  refine zK (QD rfl rfl rfl) ?_
  refine Qy rfl rfl rfl rfl rfl ?_
  refine zM ?_
  refine Qp 14 rfl rfl rfl ?_
  refine zK (Qa rfl Yy) ?_
  refine zK (Qg rfl ZC (fun hg=>by exact Cells.s0 (vs:=[_,_,_,_,_,_,_,_,_,_,_,_,_,_]) rfl) rfl) ?_
  refine qg (vs:=[_]) rfl zkt (fun hg=>zpJ I _) ?_
  refine Qy rfl rfl rfl rfl rfl ?_
  refine zA (Qb (Qk (Qd (Qm (zR ?_)))))
  refine zM ?_
  refine zO (zN ?_)
  refine zI ?_ ?_<;>intro hc119
  ·
   have hb:(idB p&&Ur p)=false:=by (exact (show (idB p&&Ur p)=false from by rw [zsn hk];exact (zqg _ _ _ _ _ _ _).symm.trans ((Bool.not_eq_true' _).mp hc119)))
   refine zR (zA (zN (Qs (Qe ?_))))
   exact zr rfl rfl (by rw [zdO hlen hnd hb])
  have hb:(idB p&&Ur p)=true:=by (exact (show (idB p&&Ur p)=true from by rw [zsn hk];exact (zqg _ _ _ _ _ _ _).symm.trans ((Bool.not_eq_false' _).mp hc119)))
  refine Qr (Qd (zR (zA (zN (Qs ?_)))))
  exact zr rfl rfl (by rw [zg0 hlen hnd hb])
 have hk2:p.kind≠2:=by simpa using hc83
 refine zR (zC ?_)
 refine zA (zN ?_)
 refine zI ?_ ?_<;>intro hc104
 ·
  have hk:p.kind=3:=by simpa using hc104
  refine Qi (zM ?_)
  refine zM ?_
  refine Qp 1 rfl rfl rfl ?_
  refine zK (Qa rfl Ym) ?_
  refine zK (Qc rfl Ql (fun hg=>by exact QA.h0 rfl)) ?_
  refine zK (QD rfl rfl rfl) ?_
  refine Qy rfl rfl rfl rfl rfl ?_
  refine zM ?_
  refine Qp 6 rfl rfl rfl ?_
  refine zK (Qa rfl Yy) ?_
  refine zK (Qg rfl ZC (fun hg=>by exact Cells.s0 (vs:=[_,_,_,_,_,_,_,_,_,_,_,_,_,_]) rfl) rfl) ?_
  refine zK (QK (ps:=[]) [_,_,_,_,_,_,_,_,_,_,_,_,_,_] X3 rfl rfl) ?_
  refine zK (UO rfl rfl Wr rfl) ?_
  refine Qy rfl rfl rfl rfl rfl ?_
  refine zA (Qb (Qk (Qd (Qm (zR ?_)))))
  refine zM ?_
  refine zO (zN ?_)
  refine zI ?_ ?_<;>intro hc119
  ·
   have hb:(idB p&&Ur p)=false:=by (exact (show (idB p&&Ur p)=false from by rw [ztG hk];exact (zhi _ _ _ _ _ _).symm.trans ((Bool.not_eq_true' _).mp hc119)))
   refine zR (zA (zN (Qs (Qe ?_))))
   exact zr rfl rfl (by rw [zdO hlen hnd hb])
  have hb:(idB p&&Ur p)=true:=by (exact (show (idB p&&Ur p)=true from by rw [ztG hk];exact (zhi _ _ _ _ _ _).symm.trans ((Bool.not_eq_false' _).mp hc119)))
  refine Qr (Qd (zR (zA (zN (Qs ?_)))))
  exact zr rfl rfl (by rw [zg0 hlen hnd hb])
 have hk3:p.kind≠3:=by simpa using hc104
 refine Qi (zA (Qb (Qk (Qd (Qm (zR ?_))))))
 refine zM ?_
 refine zO (zN ?_)
 refine zI ?_ ?_<;>intro hc119
 ·
  have hb:(idB p&&Ur p)=false:=by exact zxN hk1 hk2 hk3
  refine zR (zA (zN (Qs (Qe ?_))))
  exact zr rfl rfl (by rw [zdO hlen hnd hb])
 have hb:(idB p&&Ur p)=true:=by (exfalso;have h:=hc119;simp at h)
 refine Qr (Qd (zR (zA (zN (Qs ?_)))))
 exact zr rfl rfl (by rw [zg0 hlen hnd hb])
theorem zxA {I:Qt}{av:Option Addr}{n c:Nat}{xs:List Int}(hS:Sl I 1 Z1 av n c xs)(hn:n≤100000){fid:Nat}{cap:List Value}{P:Int→Bool}(hF:Fun Tryz.prog fid)(hf:∀ x∈xs,ZA Tryz.prog fid ([.int .i64 x]++cap) I (.bool (P x))):ZA Tryz.prog 163 [.slice av n c,.func (.func fid) #[] cap.toArray] I (.int .i64 (zoV P xs)):=by
 intro g H w hw
 refine qe Tryz.func163 Tryz.ntmps163 hw ?_
 have hS:=hS
 refine zR (zA (zN (Qm (zR ?_))))
 refine zM ?_
 refine zQ ZE ?_
 refine zM (zN (Qw ?_))
 refine zU [(0,_),(1,_),(7,_)] (fun T L0 mz E I' loc'=>∃ (k:Nat),mz=n-k∧E=(8,.int .i64 k)::T∧I=I'∧L0=loc'∧k≤n∧(xs.take k).any P=false) ?_ (h:=⟨0,rfl,rfl,rfl,rfl,Nat.zero_le _,rfl⟩)
 rintro mz E I' loc' ⟨k,rfl,rfl,rfl,rfl,hk,hno⟩
 refine zR (zC (zN (Qm ?_)))
 refine zI ?_ ?_<;>intro hc9
 ·
  have hlt_k:k<n:=by have h:=hc9;simp at h;omega
  obtain ⟨x,hx⟩:=hS.at hlt_k
  refine Qr (Qd (Qm (Qw (zR (zM ?_)))))
  refine zA ?_
  refine zN (zR ?_)
  refine zM ?_
  refine zM ?_
  refine zM ?_
  refine zV (QG rfl rfl ZE (by assumption) (fun hg=>by omega)) ?_
  refine zV (Qc rfl Ql (fun hg=>by exact zzf hS hx rfl)) ?_
  refine Vw (cap:=cap) (vs:=[_]) rfl rfl hF (hf x (List.mem_of_getElem? hx)) rfl rfl ?_
  refine zN ?_
  refine zI ?_ ?_<;>intro hc16
  ·
   refine zR (zM ?_)
   refine zA (zN (Qs (Qj (Qe (Qe (Qj (Qe ?_)))))))
   exact zr rfl rfl (by rw [zfA hno hx hc16])
  refine Qr (Qk (Qd (Qi (zB ?_))))
  refine zM (Qb ?_)
  exact zm (h:=⟨n-(k+1),by omega,k+1,rfl,rfl,rfl,rfl,by omega,zcz hx hno hc16⟩)
 have hge_k:n≤k:=by have h:=hc9;simp at h;omega
 refine Zi (Qo (Qo (Qz (Qd (zR (zA (zN ?_)))))))
 refine Qs ?_
 exact zr rfl rfl (by rw [zde hS.len hge_k hno])
theorem zxR {I:Qt}{av:Option Addr}{n c:Nat}{xs:List Int}(hS:Sl I 1 Z1 av n c xs)(hn:n≤100000){fid:Nat}{cap:List Value}{P:Int→Bool}(hF:Fun Tryz.prog fid)(hf:∀ x∈xs,ZA Tryz.prog fid ([.int .i64 x]++cap) I (.bool (P x))):ZA Tryz.prog 97 [.slice av n c,.func (.func fid) #[] cap.toArray] I (.bool (xs.any P)):=by
 intro g H w hw
 refine qe Tryz.func97 Tryz.ntmps97 hw ?_
 refine zR (zA ?_)
 refine zN (zR ?_)
 refine zM ?_
 refine zM ?_
 refine qcV (vs:=[_,_]) rfl zss (zxA hS hn hF hf) ?_
 refine zC ?_
 refine zA (zN (Qs ?_))
 exact zr rfl rfl (by rw [←zfB])
theorem zxu {I:Qt}{b r:Nat}{s:List (Int×Bool)}(hb:I b=some (.cells #[.map (some r)] 143 (0,0)))(hr:I r=some (Yk (Value.int .i64) Value.bool s))(x:Int):ZA Tryz.prog 98 [.int .i64 x,.pointer (some ⟨b,0,none⟩)] I (.bool (!znR s x)):=by
 intro g H w hw
 refine qe Tryz.func98 Tryz.ntmps98 hw ?_
 refine zR (zA ?_)
 refine zN (zR ?_)
 refine zV (Qc rfl zmv (fun hg=>by exact .imm hb rfl)) ?_
 refine zM ?_
 refine zV (YI Ws Q3 rfl rfl (fun _=>.inl hr)) ?_
 refine zO ?_
 refine zA (zN (Qs ?_))
 exact zr rfl rfl (by rfl)
end
section
open Go Go.Kn Go.Proofs
theorem Zf:AgT Tryz.prog 45 45:=.of (by kernel_rfl)
theorem zbQ:ElT Tryz.prog 63 41 5 40:=.of (by kernel_rfl)
theorem YZ:QL Tryz.prog 43 5 5:=.of (by kernel_rfl)
theorem zra:Fun Tryz.prog 170:=.of Tryz.func170 (by kernel_rfl) (by kernel_rfl)
theorem zri:Fun Tryz.prog 171:=.of Tryz.func171 (by kernel_rfl) (by kernel_rfl)
theorem Ww:Fun Tryz.prog 172:=.of Tryz.func172 (by kernel_rfl) (by kernel_rfl)
theorem zj7:Fun Tryz.prog 37:=.of Tryz.func37 (by kernel_rfl) (by kernel_rfl)
theorem zqb:Fun Tryz.prog 38:=.of Tryz.func38 (by kernel_rfl) (by kernel_rfl)
theorem zks:Fun Tryz.prog 40:=.of Tryz.func40 (by kernel_rfl) (by kernel_rfl)
theorem KV {I:Qt}(x:Nt)(hN:Nd I x.pt):ZA Tryz.prog 108 [Kj x] I (.bool (QP x)):=by
 intro g H w hw
 refine qe Tryz.func108 Tryz.ntmps108 hw ?_
 have hIc:=zzm I
 refine zR ?_
 refine QR rfl rfl rfl (fun b_1=>?_)
 refine zA (Qb ?_)
 refine QH .here (fun I1 hI1 hb1=>?_)
 have hN:=hN.mono hI1;have hIc:=hIc.trans hI1
 have h1:=BxI.of hb1
 refine Qd (zR (zA (zN (Qm (zR ?_)))))
 refine zF Y3 ?_
 refine zV (Qc rfl Ql (fun hg=>by exact QA.imm h1.out rfl)) ?_
 refine zN (Qw (zR (zC ?_)))
 refine zA (zN ?_)
 refine zI ?_ ?_<;>intro hc10
 ·
  have k1:x.kind=1:=by simpa using hc10
  refine Qm ?_
  by_cases he:x.lm.ends=0
  ·
   have hlC:lmC x.lm=[x.lm]:=if_pos he
   refine Qi ?_
   refine zF Vg ?_
   refine zV (Qg rfl JP (fun hg=>by exact zc2 (BxI.cells (vs:=Q6 x) h1)) rfl) ?_
   refine zpb [(0,_)] [_] UB (fun b_14=>?_)
   refine QT (by repeat (first | exact ZR.here | apply ZR.there)) (fun I2 hI2 hb2=>?_)
   have h1:=h1.mono hI2;have hIc:=hIc.trans hI2
   have hF:=Sl.lit [x.lm] rfl V3 (show I2 b_14=some (Obj.cells ([x.lm].flatMap Zl).toArray 32 (0,0)) from hb2)
   refine zA (zN (Qm (zR ?_)))
   refine zF Vg ?_
   refine zF YH ?_
   refine zV (Qc rfl Ql (fun hg=>by exact QA.imm h1.out rfl)) ?_
   refine zA ?_
   refine zN (zR ?_)
   refine zM ?_
   refine zC (zN ?_)
   refine zI ?_ ?_<;>intro hc19
   ·
    exact absurd hc19 (by simp [he])
   refine Qr (Qd (Qi (zM ?_)))
   refine qcV (vs:=[_]) rfl zj7 (zlC hF (by decide)) ?_
   refine zA (Qb (Qk (Qd (zR ?_))))
   refine zM ?_
   refine zC ?_
   refine zM ?_
   refine Qp 2 rfl rfl rfl ?_
   refine zK (Qg rfl Zf (fun hg=>by exact BxI.cells (vs:=Q6 x) h1) rfl) ?_
   refine qg (vs:=[_]) rfl Ww (fun hg=>WC x) ?_
   refine Qy rfl rfl rfl rfl rfl ?_
   refine zA (zN (Qs ?_))
   first
   | exact zp hIc rfl rfl (by rw [QP,Wg,if_pos k1,hlC]<;>rfl)
  have hlC:lmC x.lm=[⟨IntKind.i64.wrap (x.lm.ends-1),x.lm.person,0,0,0,0,3,0,1⟩,x.lm]:=if_neg he
  refine Qi ?_
  refine zF Vg ?_
  refine zV (Qg rfl JP (fun hg=>by exact zc2 (BxI.cells (vs:=Q6 x) h1)) rfl) ?_
  refine zpb [(0,_)] [Zl x.lm] UB (fun b_14=>?_)
  refine zA (zN (Qm (zR ?_)))
  refine zF Vg ?_
  refine zF YH ?_
  refine zV (Qc rfl Ql (fun hg=>by exact QA.imm h1.out rfl)) ?_
  refine zA ?_
  refine zN (zR ?_)
  refine zM ?_
  refine zC (zN ?_)
  refine zI ?_ ?_<;>intro hc19
  ·
   refine Qi (zM ?_)
   refine zM ?_
   refine zV (WV rfl rfl rfl) ?_
   refine zF Vg ?_
   refine zF V0 ?_
   refine zV (Qc rfl Ql (fun hg=>by exact QA.imm h1.out rfl)) ?_
   refine zV (QK (ps:=[(0,_),(2,_)]) [_,_,_] zck rfl rfl) ?_
   refine zV (QK (ps:=[(0,_),(1,_),(6,_)]) [_,_,_,_,_,_,_,_,_] zeQ rfl rfl) ?_
   refine zpb [(0,_)] [Zl (⟨IntKind.i64.wrap (x.lm.ends-1),x.lm.person,0,0,0,0,3,0,1⟩)] UB (fun b_28=>?_)
   refine zpc [_,_,_] rfl zra (.cons (.there .here) (.cons .here .nil)) (zjF (zdF (b:=b_14) (n:=1) (c:=1) (xs:=[x.lm]) (rest:=[]) rfl (Nat.le_refl _) (by decide) (by simp) rfl) (by decide) rfl (i:=0) (by decide) b_28 (⟨IntKind.i64.wrap (x.lm.ends-1),x.lm.person,0,0,0,0,3,0,1⟩)) ?_
   rintro vv3 I3 L3 hI3 ⟨rfl,hOi⟩
   have h1:=h1.mono hI3;have hIc:=hIc.trans hI3
   refine zA (zN ?_)
   refine zx4 hOi V3 (fun I4 hI4 af4 cf4 ef4 hM=>?_)
   subst ef4
   have h1:=h1.mono hI4;have hIc:=hIc.trans hI4
   refine Qi (zM ?_)
   refine qcV (vs:=[_]) rfl zj7 (zlC hM (by decide)) ?_
   refine zA (Qb (Qk (Qd (zR ?_))))
   refine zM ?_
   refine zC ?_
   refine zM ?_
   refine Qp 2 rfl rfl rfl ?_
   refine zK (Qg rfl Zf (fun hg=>by exact BxI.cells (vs:=Q6 x) h1) rfl) ?_
   refine qg (vs:=[_]) rfl Ww (fun hg=>WC x) ?_
   refine Qy rfl rfl rfl rfl rfl ?_
   refine zA (zN (Qs ?_))
   first
   | exact zp hIc rfl rfl (by rw [QP,Wg,if_pos k1,hlC]<;>rfl)
  exact absurd hc19 (by simpa using he)
 have k1:¬x.kind=1:=by simpa using hc10
 refine zR (zC ?_)
 refine zA (zN ?_)
 refine zI ?_ ?_<;>intro hc32
 ·
  have k2:x.kind=2:=by simpa using hc32
  refine Qi ?_
  refine zF Yo ?_
  refine zV (Qg rfl Vs (fun hg=>by exact zai (BxI.cells (vs:=Q6 x) h1)) rfl) ?_
  refine qcV (vs:=[_]) rfl zpx (zqf x.pt hN) ?_
  refine zA (Qb (Qk (Qd (zR ?_))))
  refine zM ?_
  refine zC ?_
  refine zM ?_
  refine Qp 2 rfl rfl rfl ?_
  refine zK (Qg rfl Zf (fun hg=>by exact BxI.cells (vs:=Q6 x) h1) rfl) ?_
  refine qg (vs:=[_]) rfl Ww (fun hg=>WC x) ?_
  refine Qy rfl rfl rfl rfl rfl ?_
  refine zA (zN (Qs ?_))
  first
  | exact zp hIc rfl rfl (by rw [QP,Wg,if_neg k1,if_pos k2]<;>rfl)
 have k2:¬x.kind=2:=by simpa using hc32
 refine zR (zC ?_)
 refine zA (zN ?_)
 refine zI ?_ ?_<;>intro hc37
 ·
  have k3:x.kind=3:=by simpa using hc37
  refine Qi ?_
  refine zF VX ?_
  refine zV (Qg rfl JR (fun hg=>by exact zdx (BxI.cells (vs:=Q6 x) h1)) rfl) ?_
  refine zpb [(0,_)] [_] zbQ (fun b_41=>?_)
  refine QT (by repeat (first | exact ZR.here | apply ZR.there)) (fun I5 hI5 hb5=>?_)
  have h1:=h1.mono hI5;have hIc:=hIc.trans hI5
  have hF:=Sl.lit [x.ls] rfl L.encL_len (show I5 b_41=some (Obj.cells ([x.ls].flatMap L.encL).toArray 41 (0,0)) from hb5)
  refine qcV (vs:=[_]) rfl zqb (L.w_check hF (by decide)) ?_
  refine zA (Qb (Qk (Qd (zR ?_))))
  refine zM ?_
  refine zC ?_
  refine zM ?_
  refine Qp 2 rfl rfl rfl ?_
  refine zK (Qg rfl Zf (fun hg=>by exact BxI.cells (vs:=Q6 x) h1) rfl) ?_
  refine qg (vs:=[_]) rfl Ww (fun hg=>WC x) ?_
  refine Qy rfl rfl rfl rfl rfl ?_
  refine zA (zN (Qs ?_))
  first
  | exact zp hIc rfl rfl (by rw [QP,Wg,if_neg k1,if_neg k2,if_pos k3]<;>rfl)
 have k3:¬x.kind=3:=by simpa using hc37
 refine zR (zC ?_)
 refine zA (zN ?_)
 refine zI ?_ ?_<;>intro hc43
 ·
  have k4:x.kind=4:=by simpa using hc43
  refine Qm ?_
  by_cases he:x.rt.ends=0
  ·
   have hlC:rtC x.rt=[x.rt]:=if_pos he
   refine Qi ?_
   refine zF Yl ?_
   refine zV (Qg rfl YC (fun hg=>by exact zdf (BxI.cells (vs:=Q6 x) h1)) rfl) ?_
   refine zpb [(0,_)] [_] Uz (fun b_47=>?_)
   refine QT (by repeat (first | exact ZR.here | apply ZR.there)) (fun I6 hI6 hb6=>?_)
   have h1:=h1.mono hI6;have hIc:=hIc.trans hI6
   have hF:=Sl.lit [x.rt] rfl S.encR_len (show I6 b_47=some (Obj.cells ([x.rt].flatMap S.encR).toArray 43 (0,0)) from hb6)
   refine zA (zN (Qm (zR ?_)))
   refine zF Yl ?_
   refine zF YZ ?_
   refine zV (Qc rfl Ql (fun hg=>by exact QA.imm h1.out rfl)) ?_
   refine zA ?_
   refine zN (zR ?_)
   refine zM ?_
   refine zC (zN ?_)
   refine zI ?_ ?_<;>intro hc52
   ·
    exact absurd hc52 (by simp [he])
   refine Qr (Qd (Qi (zM ?_)))
   refine qcV (vs:=[_]) rfl zks (S.w_check hF (by decide)) ?_
   refine zA (Qb (Qk (Qd (zR ?_))))
   refine zM ?_
   refine zC ?_
   refine zM ?_
   refine Qp 2 rfl rfl rfl ?_
   refine zK (Qg rfl Zf (fun hg=>by exact BxI.cells (vs:=Q6 x) h1) rfl) ?_
   refine qg (vs:=[_]) rfl Ww (fun hg=>WC x) ?_
   refine Qy rfl rfl rfl rfl rfl ?_
   refine zA (zN (Qs ?_))
   first
   | exact zp hIc rfl rfl (by rw [QP,Wg,if_neg k1,if_neg k2,if_neg k3,if_pos k4,hlC]<;>rfl)
  have hlC:rtC x.rt=[⟨IntKind.i64.wrap (x.rt.ends-1),1,0,0,0,0,⟨#[97]⟩,⟨#[97]⟩,0,0,0⟩,x.rt]:=if_neg he
  refine Qi ?_
  refine zF Yl ?_
  refine zV (Qg rfl YC (fun hg=>by exact zdf (BxI.cells (vs:=Q6 x) h1)) rfl) ?_
  refine zpb [(0,_)] [S.encR x.rt] Uz (fun b_47=>?_)
  refine zA (zN (Qm (zR ?_)))
  refine zF Yl ?_
  refine zF YZ ?_
  refine zV (Qc rfl Ql (fun hg=>by exact QA.imm h1.out rfl)) ?_
  refine zA ?_
  refine zN (zR ?_)
  refine zM ?_
  refine zC (zN ?_)
  refine zI ?_ ?_<;>intro hc52
  ·
   refine Qi (zM ?_)
   refine zM ?_
   refine zV (WV rfl rfl rfl) ?_
   refine zV (QK (ps:=[(0,_),(1,_),(6,_),(7,_)]) [_,_,_,_,_,_,_,_,_,_,_] Xg rfl rfl) ?_
   refine zpb [(0,_)] [S.encR (⟨IntKind.i64.wrap (x.rt.ends-1),1,0,0,0,0,⟨#[97]⟩,⟨#[97]⟩,0,0,0⟩)] Uz (fun b_57=>?_)
   refine zpc [_,_,_] rfl zri (.cons (.there .here) (.cons .here .nil)) (zlz (zdB (b:=b_47) (n:=1) (c:=1) (xs:=[x.rt]) (rest:=[]) rfl (Nat.le_refl _) (by decide) (by simp) rfl) (by decide) rfl (i:=0) (by decide) b_57 (⟨IntKind.i64.wrap (x.rt.ends-1),1,0,0,0,0,⟨#[97]⟩,⟨#[97]⟩,0,0,0⟩)) ?_
   rintro vv7 I7 L7 hI7 ⟨rfl,hOi⟩
   have h1:=h1.mono hI7;have hIc:=hIc.trans hI7
   refine zA (zN ?_)
   refine zx4 hOi S.encR_len (fun I8 hI8 af8 cf8 ef8 hM=>?_)
   subst ef8
   have h1:=h1.mono hI8;have hIc:=hIc.trans hI8
   refine Qi (zM ?_)
   refine qcV (vs:=[_]) rfl zks (S.w_check hM (by decide)) ?_
   refine zA (Qb (Qk (Qd (zR ?_))))
   refine zM ?_
   refine zC ?_
   refine zM ?_
   refine Qp 2 rfl rfl rfl ?_
   refine zK (Qg rfl Zf (fun hg=>by exact BxI.cells (vs:=Q6 x) h1) rfl) ?_
   refine qg (vs:=[_]) rfl Ww (fun hg=>WC x) ?_
   refine Qy rfl rfl rfl rfl rfl ?_
   refine zA (zN (Qs ?_))
   first
   | exact zp hIc rfl rfl (by rw [QP,Wg,if_neg k1,if_neg k2,if_neg k3,if_pos k4,hlC]<;>rfl)
  exact absurd hc52 (by simpa using he)
 have k4:¬x.kind=4:=by simpa using hc43
 refine Qr (Qk (Qd (zR (zM ?_))))
 refine zC ?_
 refine zM ?_
 refine Qp 2 rfl rfl rfl ?_
 refine zK (Qg rfl Zf (fun hg=>by exact BxI.cells (vs:=Q6 x) h1) rfl) ?_
 refine qg (vs:=[_]) rfl Ww (fun hg=>WC x) ?_
 refine Qy rfl rfl rfl rfl rfl ?_
 refine zA (zN (Qs ?_))
 first
 | exact zp hIc rfl rfl (by rw [QP,Wg,if_neg k1,if_neg k2,if_neg k3,if_neg k4]<;>rfl)
end
end Go.Proofs.YtjblkbkmblkgoaaGreat
namespace Go.Kn
section
open Go
def zie (b:Nat)(x:Nat×Nat):Nat×Value:=(x.1,.pointer (some ⟨b,x.2,none⟩))
def zxj:List (Nat×Nat×Nat)→Nat→Nat→Option Nat
 | [],_,_=>none
 | (s,f,o)::l,s',f'=>if s=s'∧f=f' then some o else zxj l s' f'
def lkN:List (Nat×Nat)→Nat→Option Nat
 | [],_=>none
 | (t,o)::l,x=>if t=x then some o else lkN l x
def zq4 (ft:List (Nat×Nat×Nat))(se:List (Nat×Nat)):Op→Option Nat
 | .move (.tmp x)=>lkN se x
 | .assign (.tmp x)=>lkN se x
 | .nilCheck (.tmp x)=>lkN se x
 | .fieldAddr s (.tmp x) f=>match lkN se x,zxj ft s f with | some o,some k=>some (o+k) | _,_=>none
 | _=>none
def zn3 (P:Program)(ft:List (Nat×Nat×Nat)):Prop:=∀ s f o,(s,f,o)∈ft→QL P s f o
theorem zn3.nil {P:Program}:zn3 P []:=fun _ _ _ h=>by cases h
theorem zn3.cons {P:Program}{s f o:Nat}{l:List (Nat×Nat×Nat)}(h:QL P s f o)(hl:zn3 P l):zn3 P ((s,f,o)::l):=fun a b c hm=>by
 rcases List.mem_cons.1 hm with e | hm
 ·
  cases e;exact h
 ·
  exact hl _ _ _ hm
theorem zhE {s f o:Nat}:∀ {ft:List (Nat×Nat×Nat)},zxj ft s f=some o→(s,f,o)∈ft
 | [],h=>by cases h
 | (a,c,d)::l,h=>by
  unfold zxj at h
  split at h
  ·
   rename_i e;cases h;obtain ⟨rfl,rfl⟩:=e;exact List.mem_cons_self ..
  ·
   exact List.mem_cons_of_mem _ (zhE h)
theorem UY {b x o:Nat}{E:Env}:∀ {se:List (Nat×Nat)},lkN se x=some o→Vu (se.map (zie b)++E) x=some (.pointer (some ⟨b,o,none⟩))
 | [],h=>by cases h
 | (t,p)::l,h=>by
  unfold lkN at h
  simp only [List.map_cons,List.cons_append,zie]
  split at h
  ·
   rename_i e;cases h;subst e;simp [Vu]
  ·
   rename_i e
   have:=UY (b:=b) (E:=E) h
   have hb:t.beq x=false:=by
    cases hb:t.beq x with
    | false=>rfl
    | true=>exact absurd (Nat.eq_of_beq_eq_true hb) e
   simp only [Vu,hb,cond_false];exact this
def ziX (se:List (Nat×Nat))(p:Nat×Operand):Option (Nat×Nat):=match p.2 with | .tmp x=>(lkN se x).map fun o=>(p.1,o) | _=>none
theorem zgC {se:List (Nat×Nat)}{b:Nat}{E:Env}:∀ {l:List (Nat×Operand)} {pl:List (Nat×Nat)},l.map (ziX se)=pl.map some→l.map (fun p=>(QE [] (se.map (zie b)++E) p.2).map fun v=>(p.1,v))=(pl.map (zie b)).map some
 | [],[],_=>rfl
 | [],_::_,h=>by cases h
 | _::_,[],h=>by cases h
 | p::l,q::pl,h=>by
  simp only [List.map_cons,List.cons.injEq] at h ⊢
  refine ⟨?_,zgC h.2⟩
  obtain ⟨k,x⟩:=p
  have h1:=h.1
  unfold ziX at h1
  split at h1
  ·
   rename_i x' hx
   cases ho:lkN se x' with
   | none=>rw [ho] at h1;cases h1
   | some o=>
    rw [ho] at h1
    simp only [Option.map_some,Option.some.injEq] at h1
    subst h1
    simp only at hx
    subst hx
    rw [show QE [] (se.map (zie b)++E) (.tmp x')=Vu (se.map (zie b)++E) x' from rfl,UY ho]
    rfl
  ·
   cases h1
section
variable {C:Cx} {Q:Exit→Act→World→Prop} {ops:Array Oper} {I0:Qt} {loc0:Loc} {E:Env} {I:Qt} {loc:Loc}
theorem zuQ {ft:List (Nat×Nat×Nat)}{se:List (Nat×Nat)}{b v:Nat}{o:Oper}(hf:zn3 C.P ft)(h:zq4 ft se o.op=some v):QV C [] (se.map (zie b)++E) I loc o (.pointer (some ⟨b,v,none⟩)):=by
 obtain ⟨dst,op,ty,pos,af,gd⟩:=o
 simp only at h
 unfold zq4 at h
 split at h
 ·
  exact Qf (UY h)
 ·
  exact QC (UY h)
 ·
  exact QI (UY h)
 ·
  split at h
  ·
   rename_i h1 h2;cases h
   exact Qa (UY h1) (hf _ _ _ (zhE h2))
  ·
   cases h
 ·
  cases h
theorem zmI {fuel:Nat}{listed:Array Bool}(E':Env)(hE:Sub E' E)(h:XD C Q ops I0 loc0 fuel listed [] E' I loc):XD C Q ops I0 loc0 fuel listed [] E I loc:=fun a w ha hg hw=>h a w (ha.sub hE) hg hw
theorem zaP {S:GS}{dst:Option Nat}{ty:TypeId}{pos:String}{af:Array Edge}{gd:Option (Nat×Bool)}{x:Operand}{t e size n b off:Nat}(hx:QE S E x=some (.pointer (some ⟨b,off,none⟩)))(hT:ArT C.P t n e size):
  QV C S E I loc ⟨dst,.slice t x none none none,ty,pos,af,gd⟩ (.slice (some ⟨b,off,none⟩) n n):=
 .of (by intro c e;cases e) fun a w ha hg hc _=>by
  obtain ⟨h1,j,h2,h3⟩:=hT
  simp only [execOp,Option.map_none,Qh ha hg hc hx,Instr.sliceAt,Instr.sureAddr,Instr.sliceBounds,Sem.run_bind,Sem.run_pure,run_underlying h1,Result.andThen,run_sizeOf h2,Nat.zero_mul,Nat.sub_zero]
  congr 2
  simp [Addr.add]
theorem zu2 (loc':Loc){c:Code}(hp:loc'.Perm loc)(h:X C Q c E I loc'):X C Q c E I loc:=fun a w ha hw=>h a w ha (hw.permL hp)
def lst (n k:Nat):Array Bool:=(List.replicate k true++List.replicate (n-k) false).toArray
theorem zfO (n k j:Nat)(d:Bool)(hk:k≤n):(lst n k).getD j d=if j<k then true else if j<n then false else d:=by
 unfold lst
 rw [Array.getD_eq_getD_getElem?,List.getElem?_toArray]
 by_cases h1:j<k
 ·
  rw [List.getElem?_append_left (by simpa using h1)];simp [h1]
 ·
  rw [List.getElem?_append_right (by simpa using Nat.le_of_not_lt h1)]
  by_cases h2:j<n
  ·
   have:j-k<n-k:=by omega
   simp [h1,h2,List.getElem?_replicate,this]
  ·
   have:¬j-k<n-k:=by omega
   simp [h1,h2,List.getElem?_replicate,this]
theorem zsD (n k:Nat)(hk:k<n):(lst n k).setIfInBounds k true=lst n (k+1):=by
 apply Array.ext_getElem?
 intro j
 rw [Array.getElem?_setIfInBounds]
 unfold lst
 simp only [List.getElem?_toArray,List.size_toArray,List.length_append,List.length_replicate]
 by_cases e:k=j
 ·
  subst e
  rw [if_pos rfl,if_pos (by omega),List.getElem?_append_left (by simp)]
  simp
 ·
  rw [if_neg e]
  by_cases h1:j<k
  ·
   rw [List.getElem?_append_left (by simpa using h1),List.getElem?_append_left (by simp;omega)]
   simp [List.getElem?_replicate,h1];omega
  ·
   rw [List.getElem?_append_right (by simp;omega),List.getElem?_append_right (by simp;omega)]
   simp only [List.length_replicate,List.getElem?_replicate]
   congr 1
   simp only [eq_iff_iff]
   omega
def zoQ (ops:Array Oper)(ft:List (Nat×Nat×Nat))(N:Nat):Nat→Nat→List Oper→List (Nat×Nat)→Option (List (Nat×Nat))
 | _,0,_,se=>some se
 | _,_+1,[],_=>none
 | k,m+1,o::l,se=>match o.dst,zq4 ft se o.op with
   | some d,some v=>if (o.guard.isNone&&Nat.blt d N&&(o.after.all (fun e=> !Region.binds .any e||Nat.blt e.on k)&&l.all (fun oj=>oj.after.any (fun e=>Region.binds .any e&&e.on==k)||o.apart ops oj)))=true then zoQ ops ft N (k+1) m l ((d,v)::se) else none
   | _,_=>none
theorem zoc (i:Nat){oi:Oper}{d:Nat}{v:Value}{fuel:Nat}{listed:Array Bool}(hi:ops[i]? =some oi)(hv:QV C [] E I0 loc0 oi v)(hg:oi.guard=none)(hd:oi.dst=some d)(hN:Nat.blt d C.N=true)
  (hs:Region.noSelect ops=true)
  (hfr:∀ j oj,ops[j]? =some oj→j≠i→listed.getD j true=false→(∀ e∈oj.after,Region.binds .any e=true→e.on≠i)→oi.apart ops oj=true)
  (hr:i∈Region.ready .any ops listed)(hQ:Yb Q)(hI:HLe I0 I)(hl:JQ loc0 loc)
  (h:XD C Q ops I0 loc0 fuel (listed.setIfInBounds i true) [] ((d,v)::E) I loc):XD C Q ops I0 loc0 (fuel+1) listed [] E I loc:=by
 intro a w ha hgg hw
 have hp:=ha.put hN v
 refine YV (v:=v) hi hv.1 (Region.noSelect_spec hs) (fun c a w=>by rw [hd];exact hQ c a d _ w) fuel listed a w hfr hr ?_ ((hw.mono hI).subL hl) (by rw [hd];exact h _ _ hp trivial hw)
 have hG:Zk ops [] E oi:=.none hg
 have hwt:=hG.wanted ha (show Ke [] a from trivial)
 exact .inl ⟨by rw [hwt];rfl,fun w' hw'=>hv.2 a w' ha trivial rfl hw'⟩
theorem zf9 {ft:List (Nat×Nat×Nat)}(hf:zn3 C.P ft)(hs:Region.noSelect ops=true)(hQ:Yb Q)(hI:HLe I0 I)(hl:JQ loc0 loc){b N n:Nat}(hN:N=C.N)(hn:ops.size=n):
  ∀ (m k:Nat) {l:List Oper} {se se':List (Nat×Nat)} {fuel:Nat},ops.toList.drop k=l→k+m≤n→zoQ ops ft N k m l se=some se'→
   XD C Q ops I0 loc0 fuel (lst n (k+m)) [] (se'.map (zie b)++E) I loc→XD C Q ops I0 loc0 (fuel+m) (lst n k) [] (se.map (zie b)++E) I loc
 | 0,k,l,se,se',fuel,hk,hle,hr,h=>by
  simp only [zoQ,Option.some.injEq] at hr;subst hr;exact h
 | m+1,k,[],se,se',fuel,hk,hle,hr,h=>by cases hr
 | m+1,k,o::l,se,se',fuel,hk,hle,hr,h=>by
  unfold zoQ at hr
  split at hr
  ·
   rename_i d v hd hv
   split at hr
   ·
    rename_i hc
    simp only [Bool.and_eq_true,Option.isNone_iff_eq_none] at hc
    obtain ⟨⟨hg,hb⟩,hrd,hfr⟩:=hc
    have hkn:k<n:=by omega
    have hok:ops[k]? =some o:=by
     have:=congrArg (·[0]?) hk
     simp only [List.getElem?_drop,Nat.add_zero,List.getElem?_cons_zero] at this
     rwa [Array.getElem?_toList] at this
    have hl1:ops.toList.drop (k+1)=l:=by
     rw [←List.drop_drop,hk];rfl
    have h':XD C Q ops I0 loc0 (fuel+m) (lst n (k+1)) [] (((d,v)::se).map (zie b)++E) I loc:=
     zf9 hf hs hQ hI hl hN hn m (k+1) hl1 (by omega) hr (by rw [show k+1+m=k+(m+1) by omega];exact h)
    refine zoc k hok (zuQ hf hv) hg hd (hN ▸ hb) hs (fun j oj hj hne hun hno=>?_) (mem_ready.2 ⟨?_,o,hok,fun e he hbe=>?_⟩) hQ hI hl (by rw [zsD n k hkn];exact h')
    ·
     rw [zfO n k j true (by omega)] at hun
     have hjn:j<n:=by rw [←hn];exact (Array.getElem?_eq_some_iff.1 hj).1
     have hjk:k<j:=by
      rcases Nat.lt_or_ge j k with h1 | h1
      ·
       rw [if_pos h1] at hun;cases hun
      ·
       omega
     have hm:oj∈l:=by
      rw [←hl1]
      refine List.mem_iff_getElem?.2 ⟨j-(k+1),?_⟩
      rw [List.getElem?_drop,show k+1+(j-(k+1))=j by omega,Array.getElem?_toList];exact hj
     have h2:=List.all_eq_true.1 hfr oj hm
     rw [Bool.or_eq_true] at h2
     rcases h2 with h2 | h2
     ·
      obtain ⟨e,he,hb2⟩:=Array.any_eq_true'.1 h2
      simp only [Bool.and_eq_true,beq_iff_eq] at hb2
      exact absurd hb2.2 (hno e he hb2.1)
     ·
      exact h2
    ·
     rw [zfO n k k true (by omega),if_neg (by omega),if_pos hkn]
    ·
     have h2:=Array.all_eq_true_iff_forall_mem.1 hrd e he
     rw [hbe] at h2
     have h3:e.on<k:=by simpa using h2
     rw [zfO n k e.on false (by omega),if_pos h3]
   ·
    cases hr
  ·
   cases hr
theorem zkx {zv cv:Value}(h1:zv.cells= #[cv])(n:Nat):madeCells zv.cells n=(List.replicate n cv).toArray:=by
 rw [h1]
 apply Array.ext'
 have:∀ x:Nat,[cv][x % 1]?.getD default=cv:=fun x=>by rw [Nat.mod_one];rfl
 simp [madeCells,this,List.map_const']
def zys (P:Program)(t e bytes:Nat)(zv cv:Value):Prop:=P.underlying t=some (.slice e)∧(P.info? e).map (fun i=>(i.zero,i.size,i.bytes))=some (some zv,1,bytes)∧zv.cells= #[cv]
theorem W6 {rest:List Oper}{dst:Nat}{ty:TypeId}{pos:String}{af:Array Edge}{gd:Option (Nat×Bool)}{x y:Operand}{t e bytes:Nat}{zv cv:Value}{n:Int}(hT:zys C.P t e bytes zv cv)(hx:QE [] E x=some (.int .i64 n))(hy:QE [] E y=some (.int .i64 n))(hn:0≤n∧n≤1000000)(hb:bytes≤1000)
  (hG:gd=none)(hN:Nat.blt dst C.N=true)(h:∀ b,XO C Q ops rest [] ((dst,.slice (some ⟨b,0,none⟩) n.toNat n.toNat)::E) I ((b,.cells (List.replicate n.toNat cv).toArray e (0,0))::loc)):
  XO C Q ops (⟨some dst,.makeSlice t x y,ty,pos,af,gd⟩::rest) [] E I loc:=
 Z8 hG (by intro c e;cases e) fun a w ha hw=>by
  obtain ⟨hu,hi,h1⟩:=hT
  rw [Option.map_eq_some_iff] at hi
  obtain ⟨i,hi,he⟩:=hi
  simp only [Prod.mk.injEq] at he
  obtain ⟨hz,hs,hbt⟩:=he
  have hr:=run_makeSlice (P:=C.P) (w:=w) t e i zv hu hi hz .i64 .i64 n n hn.1 (by omega) (by rw [hs];omega) (by rw [hbt];exact Int.le_trans (Int.mul_le_mul (by omega:(bytes:Int)≤1000) hn.2 hn.1 (by omega)) (by decide)) (by omega)
  rw [hs,Nat.mul_one,zkx h1] at hr
  simp only [execOp,Qh (S:=[]) ha trivial rfl hx,Qh (S:=[]) ha trivial rfl hy,Sem.run_bind,hr,Result.andThen,Sem.run_pure,Oper.uponIn_value]
  exact h _ _ _ (ha.put hN _) trivial (hw.alloc _)
end
end
end Go.Kn
namespace Go.Proofs.YtjblkbkmblkgoaaGreat
section
open Go Go.Kn Go.Proofs
theorem zl1:AgT Tryz.prog 185 42:=.of (by kernel_rfl)
theorem zfv:ArT Tryz.prog 185 42 184 1:=.of (by kernel_rfl)
theorem JT:QL Tryz.prog 41 0 0:=.of (by kernel_rfl)
theorem zaA:QL Tryz.prog 41 1 1:=.of (by kernel_rfl)
theorem zay:QL Tryz.prog 41 2 2:=.of (by kernel_rfl)
theorem zav:QL Tryz.prog 41 3 3:=.of (by kernel_rfl)
theorem zaJ:QL Tryz.prog 41 4 4:=.of (by kernel_rfl)
theorem YP:QL Tryz.prog 43 0 0:=.of (by kernel_rfl)
theorem VC:QL Tryz.prog 43 1 1:=.of (by kernel_rfl)
theorem Ys:QL Tryz.prog 43 10 10:=.of (by kernel_rfl)
theorem Jw:QL Tryz.prog 43 2 2:=.of (by kernel_rfl)
theorem JS:QL Tryz.prog 43 3 3:=.of (by kernel_rfl)
theorem JU:QL Tryz.prog 43 4 4:=.of (by kernel_rfl)
theorem JV:QL Tryz.prog 43 8 8:=.of (by kernel_rfl)
theorem Jn:QL Tryz.prog 43 9 9:=.of (by kernel_rfl)
theorem zhT:zn3 Tryz.prog [(45,1,1),(45,2,10),(45,3,29),(45,4,34)]:=.cons Vg (.cons Yo (.cons VX (.cons Yl .nil)))
theorem zin:zn3 Tryz.prog [(45,0,0),(32,0,0),(32,1,1),(32,2,2),(32,3,3),(32,4,4),(32,5,5),(32,6,6),(30,0,0),(30,1,1),(30,2,2),(39,0,0),(39,1,1),(39,2,2),(39,3,3),(36,0,0),(36,1,1),(36,2,2),(36,3,3),(36,4,4),(36,5,5),(36,6,6),(36,7,7),(36,8,8),(36,9,9),(36,10,10),(34,0,0),(34,1,1),(36,11,12),(41,0,0),(41,1,1),(41,2,2),(41,3,3),(41,4,4),(43,0,0),(43,1,1),(43,2,2),(43,3,3),(43,4,4),(43,5,5),(43,8,8),(43,9,9),(43,10,10)]:=.cons Y3 (.cons Yw (.cons V0 (.cons YH (.cons UX (.cons Ku (.cons J6 (.cons Js (.cons WX (.cons Jr (.cons JX (.cons Z2 (.cons Jv (.cons Yn (.cons Ym (.cons Jm (.cons K6 (.cons Uf (.cons Ui (.cons zaE (.cons K9 (.cons K5 (.cons Ug (.cons K4 (.cons Ul (.cons VY (.cons YD (.cons Y1 (.cons V4 (.cons JT (.cons zaA (.cons zay (.cons zav (.cons zaJ (.cons YP (.cons VC (.cons Jw (.cons JS (.cons JU (.cons YZ (.cons JV (.cons Jn (.cons Ys .nil))))))))))))))))))))))))))))))))))))))))))
theorem zi7:SzT Tryz.prog 185 42:=.of (by kernel_rfl)
theorem zlc:Y7 Tryz.prog 185 (.agg #[(.pointer none),(.pointer none),(.pointer none),(.pointer none),(.pointer none),(.pointer none),(.pointer none),(.pointer none),(.pointer none),(.pointer none),(.pointer none),(.pointer none),(.pointer none),(.pointer none),(.pointer none),(.pointer none),(.pointer none),(.pointer none),(.pointer none),(.pointer none),(.pointer none),(.pointer none),(.pointer none),(.pointer none),(.pointer none),(.pointer none),(.pointer none),(.pointer none),(.pointer none),(.pointer none),(.pointer none),(.pointer none),(.pointer none),(.pointer none),(.pointer none),(.pointer none),(.pointer none),(.pointer none),(.pointer none),(.pointer none),(.pointer none),(.pointer none)]):=.of (by kernel_rfl)
set_option maxRecDepth 100000 in
set_option maxHeartbeats 4000000 in
theorem zha (I:Qt) (b:Nat):ZA Tryz.prog 129 [Zw b] I (zyt b):=by
 intro g H w hw
 refine qe Tryz.func129 Tryz.ntmps129 hw ?_
 refine zR ?_
 refine Qq zlc rfl rfl (fun b_2=>?_)
 refine zN (Qm ?_)
 have hD:=zzm I
 refine Zt ?_
 refine QQ I [] mixed ?_
 refine zmI (([(0,0)]:List (Nat×Nat)).map (zie b)++([(2,Zw b_2)]:Env)) (.cons rfl (.cons rfl (.nil))) ?_
 refine zf9 (b:=b) (ft:=[(45,1,1),(45,2,10),(45,3,29),(45,4,34)]) (N:=157) (n:=16) zhT (by kernel_rfl) JE hD (by repeat (first | exact .refl | exact QB | refine .keep ?_ | refine .drop ?_ | refine QO ?_)) rfl rfl 16 0 (se:=[(0,0)]) (se':=[(6,34),(5,29),(4,10),(3,1),(19,34),(18,0),(17,0),(16,29),(15,0),(14,0),(13,10),(12,0),(11,0),(10,1),(9,0),(8,0),(0,0)]) (fuel:=0) (E:=([(2,Zw b_2)]:Env)) rfl (by decide) (by kernel_rfl) ?_
 refine Qn (by kernel_rfl) ?_
 refine Qx ?_
 refine Qd (zR (zM ?_))
 refine zV (QI rfl) ?_
 refine zF Yy ?_
 refine zA (zN (Qm ?_))
 have hD:=zzm I
 refine Zt ?_
 refine QQ I [] mixed ?_
 refine zmI (([(7,14),(6,34),(5,29),(4,10),(3,1),(0,0)]:List (Nat×Nat)).map (zie b)++([(2,Zw b_2)]:Env)) (.cons rfl (.cons rfl (.cons rfl (.cons rfl (.cons rfl (.cons rfl (.cons rfl (.nil)))))))) ?_
 refine zf9 (b:=b) (ft:=[(45,0,0),(32,0,0),(32,1,1),(32,2,2),(32,3,3),(32,4,4),(32,5,5),(32,6,6),(30,0,0),(30,1,1),(30,2,2),(39,0,0),(39,1,1),(39,2,2),(39,3,3),(36,0,0),(36,1,1),(36,2,2),(36,3,3),(36,4,4),(36,5,5),(36,6,6),(36,7,7),(36,8,8),(36,9,9),(36,10,10),(34,0,0),(34,1,1),(36,11,12),(41,0,0),(41,1,1),(41,2,2),(41,3,3),(41,4,4),(43,0,0),(43,1,1),(43,2,2),(43,3,3),(43,4,4),(43,5,5),(43,8,8),(43,9,9),(43,10,10)]) (N:=157) (n:=135) zin (by kernel_rfl) JE hD (by repeat (first | exact .refl | exact QB | refine .keep ?_ | refine .drop ?_ | refine QO ?_)) rfl rfl 133 0 (se:=[(7,14),(6,34),(5,29),(4,10),(3,1),(0,0)]) (se':=[(155,44),(154,34),(153,34),(152,43),(151,34),(150,34),(149,42),(148,34),(147,34),(146,39),(145,34),(144,34),(143,38),(142,34),(141,34),(140,37),(139,34),(138,34),(137,36),(136,34),(135,34),(134,35),(133,34),(132,34),(131,34),(130,34),(129,34),(128,33),(127,29),(126,29),(125,32),(124,29),(123,29),(122,31),(121,29),(120,29),(119,30),(118,29),(117,29),(116,29),(115,29),(114,29),(113,27),(112,26),(111,14),(110,14),(109,26),(108,26),(107,14),(106,14),(105,25),(104,24),(103,14),(102,14),(101,24),(100,24),(99,14),(98,14),(97,23),(96,14),(95,14),(94,22),(93,14),(92,14),(91,21),(90,14),(89,14),(88,20),(87,14),(86,14),(85,19),(84,14),(83,14),(82,18),(81,14),(80,14),(79,17),(78,14),(77,14),(76,16),(75,14),(74,14),(73,15),(72,14),(71,14),(70,14),(69,14),(68,14),(67,13),(66,10),(65,10),(64,12),(63,10),(62,10),(61,11),(60,10),(59,10),(58,10),(57,10),(56,10),(55,9),(54,7),(53,1),(52,1),(51,8),(50,7),(49,1),(48,1),(47,7),(46,7),(45,1),(44,1),(43,6),(42,1),(41,1),(40,5),(39,1),(38,1),(37,4),(36,1),(35,1),(34,3),(33,1),(32,1),(31,2),(30,1),(29,1),(28,1),(27,1),(26,1),(25,0),(24,0),(23,0),(7,14),(6,34),(5,29),(4,10),(3,1),(0,0)]) (fuel:=2) (E:=([(2,Zw b_2)]:Env)) rfl (by decide) (by kernel_rfl) ?_
 refine zt0 133 rfl (Vn (ps:=((List.range 42).zip ziw).map (zie b)) (ztM b) zfv zlc (zgC (by kernel_rfl)) (by kernel_rfl)) hD ?_
 refine zmI [(156,zyt b),(2,Zw b_2)] (.cons rfl (.cons rfl .nil)) ?_
 refine qd 134 rfl ?_
 refine zh zi7 ?_
 refine Qb ?_
 refine zD hD ?_
 refine Qn (by kernel_rfl) ?_
 refine Qx ?_
 refine Qd (Qs ?_)
 exact ZX rfl rfl zl1 zzk rfl (fun w hw=>⟨by rfl,hw.drop⟩)
end
section
open Go Go.Kn Go.Proofs
theorem zmB {I:Qt}{av:Option Addr}{n c:Nat}{xs:List Int}(hS:Sl I 1 Z1 av n c xs)(hn:n≤100000):Vl Tryz.prog 150 [.slice av n c] I [] (fun v I' L'=>∃ sv,v=zy6 sv∧I'=I∧Ya 158 4 sv n ((xs.map vcI).flatMap Q7) L'):=by
 intro g H w hw
 refine qe Tryz.func150 Tryz.ntmps150 hw ?_
 have hln:=hS.len
 refine zR ?_
 refine Qq YK rfl rfl (fun b_2=>?_)
 refine zN (zR ?_)
 refine zV (QK (ps:=[(0,_)]) [_,_,_,_] KH rfl rfl) ?_
 refine Qq YK rfl rfl (fun b_3=>?_)
 refine zh ZD ?_
 refine zN (Qm (zR (zM ?_)))
 refine zQ ZE ?_
 refine zM (zN (Qw ?_))
 refine zU [(2,_),(3,_),(7,_),(8,_)] (fun T L0 mz E I' loc'=>∃ (k:Nat) (v:Value) (L:Go.Kn.Loc),mz=n-k∧E=(9,.int .i64 k)::T∧I=I'∧L++[(b_3,.cells #[.int .i64 3,.int .i64 0,.string ⟨#[]⟩,v] 158 (0,0)),(b_2,.cells (#[.int .i64 0,.int .i64 0,.string ⟨#[]⟩,.slice none 0 0]) 158 (0,0))]=loc'∧k≤n∧Ya 158 4 v k (((xs.take k).map vcI).flatMap Q7) L) ?_ (h:=⟨0,_,[],rfl,rfl,rfl,rfl,Nat.zero_le _,Ya.nil⟩)
 rintro mz E I' loc' ⟨k,v,L,rfl,rfl,rfl,rfl,hk,hO⟩
 refine zR (zC (zN (Qm ?_)))
 refine zI ?_ ?_<;>intro hc10
 ·
  have hlt_k:k<n:=by have h:=hc10;simp at h;omega
  obtain ⟨x,hx⟩:∃ x,xs[k]? =some x:=⟨_,List.getElem?_eq_getElem (by omega)⟩
  refine Qr (Qd (Qm (Qw (zR ?_))))
  refine zV (zX ZE hS) ?_
  refine zV (Qc rfl Ql (fun hg=>by exact zzf hS hx rfl)) ?_
  refine zA (zN (Qi ?_))
  refine zF QU ?_
  refine zV (Qc rfl Zp (fun hg=>by (repeat (first | exact zzh rfl | apply zzg | apply zzi)))) ?_
  refine zM ?_
  refine zV (QK (ps:=[(0,_),(1,_)]) [_,_,_,_] KH rfl rfl) ?_
  refine zpb [(0,_)] [Q7 (vcI x)] Zy (fun b_17=>?_)
  refine zpa (_) (([vcI x]:List Vc).flatMap Q7) (L) rfl rfl Zy hO ⟨rfl,fun _=>rfl,by repeat (first | exact zzk | apply zzj | apply zzl)⟩ (VU [vcI x]) ?_
  intro v2 L2 hO2 _;rw [←List.flatMap_append] at hO2;obtain ⟨a2,c2,rfl⟩:=hO2.shape
  refine zF QU ?_
  refine Q0 rfl rfl Y2 rfl rfl (by (repeat (first | exact Upd.here | apply Upd.there | apply Qu))) rfl ?_
  refine Qb (Qk (Qd (Qi (zB ?_))))
  refine zM (Qb ?_)
  exact zm (h:=⟨n-(k+1),by omega,k+1,_,_,rfl,rfl,rfl,rfl,by omega,by rw [Zh hx,List.map_append];exact hO2⟩)
 have hge_k:n≤k:=by have h:=hc10;simp at h;omega
 obtain rfl:k=n:=by omega
 obtain ⟨a3,c3,rfl⟩:=hO.shape
 have hke:xs.take k=xs:=List.take_of_length_le (by omega)
 rw [hke] at hO
 refine Zi (Qo (Qo (Qz (Qd (zR ?_)))))
 refine zV (Qg rfl Zq (fun hg=>by exact zzl .here) rfl) ?_
 refine Y8 rfl rfl ZD rfl rfl rfl rfl (by (repeat (first | exact Upd.here | apply Upd.there | apply Qu))) ?_
 refine zN (Qs ?_)
 exact ZX rfl rfl Zq (zzl (.there .here)) rfl (fun w hw=>⟨_,I,_,rfl,zzm _,hw.subL QJ,_,rfl,rfl,hO⟩)
end
section
open Go Go.Kn Go.Proofs
def YM (x:Nt):List Int:=[x.kind,x.lm.no,x.lm.person,x.lm.ends,x.lm.lo,x.lm.hi,x.lm.known,x.lm.ck,x.lm.cl,x.lm.cn,x.pt.id,x.pt.kind,x.pt.sign,x.pt.field,x.pt.nw.id,x.pt.nw.role,x.pt.nw.bar,x.pt.nw.mark,x.pt.nw.kind,x.pt.nw.side,x.pt.nw.dir,x.pt.nw.level,x.pt.nw.size,x.pt.nw.wth,x.pt.nw.fn,x.pt.nw.fd,x.pt.nw.tn,x.pt.nw.td,x.ls.no,x.ls.person,x.ls.version,x.ls.at_,x.ls.known,x.rt.no,x.rt.kind,x.rt.edition,x.rt.holder,x.rt.sign,x.rt.ends,x.rt.lo,x.rt.hi,x.rt.known]
theorem YG (x:Nt):(YM x).length=42:=rfl
theorem zmj (x:Nt):ziw.map (fun o=>(Q6 x)[o]?)=(YM x).map (fun y=>some (.int .i64 y)):=rfl
theorem zou {x:Nt}{k:Nat}{y:Int}(h:(YM x)[k]? =some y):(Q6 x)[ziw.getD k 0]? =some (.int .i64 y):=by
 have e:=congrArg (·[k]?) (zmj x)
 simp only [List.getElem?_map,h,Option.map_some] at e
 cases ho:ziw[k]? with
 | none=>rw [ho] at e;cases e
 | some o=>
  rw [ho] at e
  simp only [Option.map_some,Option.some.injEq] at e
  rw [List.getD_eq_getElem?_getD,ho];exact e
theorem zku {b k:Nat}(hk:k<42):(ztM b)[k]? =some (.pointer (some ⟨b,ziw.getD k 0,none⟩)):=by
 unfold ztM
 rw [List.getElem?_map,List.getD_eq_getElem?_getD]
 have:k<ziw.length:=hk
 rw [List.getElem?_eq_getElem this];rfl
theorem zk2 {I:Qt}{loc:Go.Kn.Loc}{b t:Nat}{fz:Nat×Nat}{x:Nt}{k:Nat}{y:Int}(h:BxI I b (.cells (Q6 x).toArray t fz))(hk:(YM x)[k]? =some y):QA I loc b (ziw.getD k 0) (.int .i64 y):=by
 have:=(BxI.cells (loc:=loc) (vs:=Q6 x) h) _ _ (zou hk)
 rwa [Nat.zero_add] at this
def Kw (x:Nt):Va:=.list ((YM x).map .int++[.list (x.pt.needs.map .int),.text (K1 x.rt.name),.text (K1 x.rt.town)])
def V5 (x:Nt):List Nat:=Va.enc (Kw x)
def zal (x:Nt):ByteArray:=U8 (V5 x)
theorem Xc (s:ByteArray):U8 (K1 s)=s:=by
 unfold U8 K1
 congr 1
 rw [List.map_map]
 have:(UInt8.ofNat ∘ UInt8.toNat)=id:=by funext c;simp
 rw [this,List.map_id]
theorem zgH {I:Qt}(xs:List Int)(k:Nat)(x:Va)(y:Vc)(hx:(xs.map Va.int)[k]? =some x)(hy:(xs.map vcI)[k]? =some y):VaR I x y:=by
 rw [List.getElem?_map] at hx hy
 cases h:xs[k]? with
 | none=>rw [h] at hx;cases hx
 | some n=>rw [h] at hx hy;cases hx;cases hy;exact .int n
theorem Wn {I:Qt}{a7 a8:Option Addr}{n c7 c8:Nat}{x:Nt}(h7:Sl I 4 Q7 a7 n c7 (x.pt.needs.map vcI))(h8:Sl I 4 Q7 a8 45 c8 ((YM x).map vcI++[⟨3,0,⟨#[]⟩,a7,n,c7⟩,vcT x.rt.name,vcT x.rt.town])):VaR I (Kw x) ⟨3,0,⟨#[]⟩,a8,45,c8⟩:=by
 refine .list h8 (by simp) fun k u y hu hy=>?_
 by_cases hk:k<42
 ·
  rw [List.getElem?_append_left (by rw [List.length_map,YG];exact hk)] at hu hy
  exact zgH _ k u y hu hy
 ·
  rw [List.getElem?_append_right (by simp [YG];omega)] at hu hy
  simp only [List.length_map,YG] at hu hy
  match hj:k-42,hu,hy with
  | 0,hu,hy=>cases hu;cases hy;exact .list h7 (by simp) (zgH _)
  | 1,hu,hy=>cases hu;cases hy;have:=VaR.text (I:=I) (K1 x.rt.name);rwa [Xc] at this
  | 2,hu,hy=>cases hu;cases hy;have:=VaR.text (I:=I) (K1 x.rt.town);rwa [Xc] at this
  | _+3,hu,hy=>cases hu
theorem zch (xs:List Int):Va.depthL (xs.map .int)=0:=by
 induction xs with
 | nil=>rfl
 | cons a l ih=>simp [Va.depthL,Va.depth,ih]
theorem XN:∀ (a b:List Va),Va.depthL (a++b)=max (Va.depthL a) (Va.depthL b)
 | [],b=>by simp [Va.depthL]
 | x::a,b=>by simp [Va.depthL,XN a b,Nat.max_assoc]
theorem Ju (x:Nt):Va.depth (Kw x)≤16:=by
 unfold Kw
 rw [Va.depth,XN,zch]
 simp [Va.depthL,Va.depth,zch]
structure NtM (I:Qt)(x:Nt):Prop where
 nd:Nd I x.pt
 nn:x.pt.n≤100000
 ok:Va.ok (Kw x)
 len:(V5 x).length≤900000
theorem NtM.mono {I I':Qt}{x:Nt}(h:NtM I x)(hI:HLe I I'):NtM I' x:=⟨h.nd.mono hI,h.nn,h.ok,h.len⟩
def zxi (a b:ByteArray):Int:=Lib.compareBytes a.data.toList b.data.toList
def Vh (x y:Nt):Int:=zxi (zal x) (zal y)
def zb0 (pre:List Nt)(x:Nt):Bool:= !QP x||(match pre.getLast? with | none=>false | some y=>decide (Vh y x≥0))
def zbl:List Nt→List Nt→Bool
 | _,[]=>true
 | pre,x::l=> !zb0 pre x&&zbl (pre++[x]) l
def ZG (xs:List Nt):Bool:=zbl [] xs&&decide (xs.length≤4096)
theorem W2:∀ (xs pre:List Nt),zbl pre xs=true↔ ∀ j y,xs[j]? =some y→zb0 (pre++xs.take j) y=false
 | [],pre=>by simp [zbl]
 | x::l,pre=>by
  rw [zbl,Bool.and_eq_true,W2 l]
  constructor
  ·
   rintro ⟨h1,h2⟩ j y hy
   cases j with
   | zero=>cases hy;simpa using h1
   | succ j=>have:=h2 j y hy;simpa [List.append_assoc] using this
  ·
   intro h
   refine ⟨by have:=h 0 x rfl;simpa using this,fun j y hy=>?_⟩
   have:=h (j+1) y hy
   simpa [List.append_assoc] using this
theorem Xb {xs:List Nt}{k:Nat}{x:Nt}(hx:xs[k]? =some x)(h:zb0 (xs.take k) x=true):ZG xs=false:=by
 unfold ZG
 cases hg:zbl [] xs with
 | false=>rfl
 | true=>
  have:=(W2 xs []).1 hg k x hx
  rw [List.nil_append,h] at this;cases this
theorem zc9 {xs:List Nt}(h:∀ j y,j<xs.length→xs[j]? =some y→zb0 (xs.take j) y=false):ZG xs=decide ((xs.length:Int)≤4096):=by
 unfold ZG
 have:zbl [] xs=true:=(W2 xs []).2 fun j y hy=>by
  rw [List.nil_append];exact h j y (List.getElem?_eq_some_iff.1 hy).1 hy
 rw [this,Bool.true_and]
 simp only [decide_eq_decide];omega
theorem zkL {xs:List Nt}{k:Nat}{y:Nt}(hy:xs[k]? =some y):(xs.take (k+1)).getLast?=some y:=by
 rw [Zh hy];simp
structure U7 (I:Qt)(av:Option Addr)(n c:Nat)(xs:List Nt):Prop where
 sl:Sl I 45 Q6 av n c xs
 nd:∀ x∈xs,Nd I x.pt
 m:∀ x∈xs,QP x=true→NtM I x
theorem U7.mono {I I':Qt}{av:Option Addr}{n c:Nat}{xs:List Nt}(h:U7 I av n c xs)(hI:HLe I I'):U7 I' av n c xs:=⟨h.sl.mono hI,fun x hx=>(h.nd x hx).mono hI,fun x hx hf=>(h.m x hx hf).mono hI⟩
theorem zdT {pre:List Nt}{x:Nt}(h:QP x=false):zb0 pre x=true:=by simp [zb0,h]
theorem zdm {x:Nt}(h:QP x=true):zb0 [] x=false:=by simp [zb0,h]
theorem KU {xs:List Nt}{k:Nat}{x y:Nt}(h:QP x=true)(hk:0<k)(hy:xs[((k:Int)-1).toNat]? =some y):zb0 (xs.take k) x=decide (Vh y x≥0):=by
 have e:((k:Int)-1).toNat=k-1:=by omega
 rw [e] at hy
 have:=zkL hy
 rw [show k-1+1=k by omega] at this
 simp [zb0,h,this]
theorem zbL {pre:List Nt}{x:Nt}(h:zb0 pre x=false):QP x=true:=by
 unfold zb0 at h
 cases hf:QP x with
 | true=>rfl
 | false=>rw [hf] at h;simp at h
end
section
open Go Go.Kn Go.Proofs
theorem Jl:QL Tryz.prog 43 6 6:=.of (by kernel_rfl)
theorem Jo:QL Tryz.prog 43 7 7:=.of (by kernel_rfl)
theorem zlD:Fun Tryz.prog 129:=.of Tryz.func129 (by kernel_rfl) (by kernel_rfl)
theorem zfp:Fun Tryz.prog 150:=.of Tryz.func150 (by kernel_rfl) (by kernel_rfl)
theorem zf7:Fun Tryz.prog 151:=.of Tryz.func151 (by kernel_rfl) (by kernel_rfl)
theorem zlL {I:Qt}(x:Nt)(hN:Nd I x.pt)(hnn:x.pt.n≤100000)(hok:Va.ok (Kw x))(hb:(V5 x).length≤900000):ZA Tryz.prog 79 [Kj x] I (.string (zal x)):=by
 intro g H w hw
 refine qe Tryz.func79 Tryz.ntmps79 hw ?_
 have hIc:=zzm I
 refine zR ?_
 refine QR rfl rfl rfl (fun b_1=>?_)
 refine zA (Qb ?_)
 refine QH .here (fun I1 hI1 hb1=>?_)
 have hN:=hN.mono hI1;have hIc:=hIc.trans hI1
 have h1:=BxI.of hb1
 refine Qd (zR ?_)
 refine zpc [_] rfl zfp .nil (zmB (xs:=[]) Sl.nil (by decide)) ?_
 rintro vv2 I2 L2 hI2 ⟨sv1,rfl,rfl,hO1⟩
 have hN:=hN.mono hI2;have h1:=h1.mono hI2;have hIc:=hIc.trans hI2
 obtain ⟨a1,c1,rfl⟩:=hO1.shape
 refine Qq YK rfl rfl (fun b_3=>?_)
 refine zh ZD ?_
 refine zN (Qm (Qm ?_))
 refine zu2 (_++[_]) (List.perm_append_singleton _ _) ?_
 refine Qi ?_
 refine qcV (vs:=[_]) rfl zlD (zha _ _) ?_
 refine zM (zN (Qw ?_))
 refine zU [(1,_),(3,_),(9,_)] (fun T L0 mz E I' loc'=>∃ (k:Nat) (v:Value) (L:Go.Kn.Loc),mz=42-k∧E=(10,.int .i64 k)::T∧I2=I'∧L++[(b_3,.cells #[.int .i64 3,.int .i64 0,.string ⟨#[]⟩,v] 158 (0,0))]=loc'∧k≤42∧Ya 158 4 v k ((((YM x).take k).map vcI).flatMap Q7) L) ?_ (h:=⟨0,_,_,rfl,rfl,rfl,rfl,Nat.zero_le _,by rw [List.append_nil];exact hO1⟩)
 rintro mz E I' loc' ⟨k,v,L,rfl,rfl,rfl,rfl,hk,hO⟩
 refine zR (zC (zN (Qm ?_)))
 refine zI ?_ ?_<;>intro hc11
 ·
  have hlt_k:k<42:=by have h:=hc11;simp at h;omega
  obtain ⟨y,hy⟩:∃ y,(YM x)[k]? =some y:=⟨_,List.getElem?_eq_getElem (by rw [YG];omega)⟩
  refine Qr (Qd (Qm (Qw (zR ?_))))
  refine zV (Kt rfl rfl zfv Uv (fun hg=>by omega) (fun hg=>show (ztM b_1)[((k:Int)).toNat*1]? =some (.pointer (some ⟨b_1,ziw.getD k 0,none⟩)) by rw [Nat.mul_one,Int.toNat_natCast];exact zku (by omega))) ?_
  refine zA (zN ?_)
  have hD:=zzm I2
  refine Zt ?_
  refine QQ I2 [] mixed ?_
  refine zT 0 rfl (Qa rfl QU) hD ?_
  refine zT 2 rfl (Qf rfl) hD ?_
  refine zT 3 rfl (QI rfl) hD ?_
  refine zT 4 rfl (Qc rfl Ql (fun hg=>by exact zk2 h1 hy)) hD ?_
  refine zT 5 rfl (QK (ps:=[(0,_),(1,_)]) [_,_,_,_] KH rfl rfl) hD ?_
  refine QW 1 6 rfl rfl (by kernel_rfl) ?_ ?_
  ·
   refine zV (Qc rfl Zp (fun hg=>by (repeat (first | exact zzh rfl | apply zzg | apply zzi)))) ?_
   refine Qb ?_
   refine zD hD ?_
   refine qd 6 rfl ?_
   refine zpb [(0,_)] [Q7 (vcI y)] Zy (fun b_19=>?_)
   refine Qb ?_
   refine zD hD ?_
   refine qd 7 rfl ?_
   refine zpa (_) (([vcI y]:List Vc).flatMap Q7) (L) rfl rfl Zy hO ⟨rfl,fun _=>rfl,by repeat (first | exact zzk | apply zzj | apply zzl)⟩ (VU [vcI y]) ?_
   intro v2 L2 hO2 _;rw [←List.flatMap_append] at hO2;obtain ⟨a2,c2,rfl⟩:=hO2.shape
   refine Qb ?_
   refine zD hD ?_
   refine zT 8 rfl (Qa rfl QU) hD ?_
   refine qd 9 rfl ?_
   refine Q0 rfl rfl Y2 rfl rfl (by (repeat (first | exact Upd.here | apply Upd.there | apply Qu))) rfl ?_
   refine Qb ?_
   refine zD hD ?_
   refine Qn (by kernel_rfl) ?_
   refine Qx ?_
   refine Qk (Qd (Qi (zB ?_)))
   refine zM (Qb ?_)
   exact zm (h:=⟨42-(k+1),by omega,k+1,_,_,rfl,rfl,rfl,rfl,by omega,by rw [Zh hy,List.map_append];exact hO2⟩)
  refine zpb [(0,_)] [Q7 (vcI y)] Zy (fun b_19=>?_)
  refine Qb ?_
  refine zD hD ?_
  refine qd 1 rfl ?_
  refine zV (Qc rfl Zp (fun hg=>by (repeat (first | exact zzh rfl | apply zzg | apply zzi)))) ?_
  refine Qb ?_
  refine zD hD ?_
  refine qd 7 rfl ?_
  refine zpa (_) (([vcI y]:List Vc).flatMap Q7) (L) rfl rfl Zy hO ⟨rfl,fun _=>rfl,by repeat (first | exact zzk | apply zzj | apply zzl)⟩ (VU [vcI y]) ?_
  intro v2 L2 hO2 _;rw [←List.flatMap_append] at hO2;obtain ⟨a2,c2,rfl⟩:=hO2.shape
  refine Qb ?_
  refine zD hD ?_
  refine zT 8 rfl (Qa rfl QU) hD ?_
  refine qd 9 rfl ?_
  refine Q0 rfl rfl Y2 rfl rfl (by (repeat (first | exact Upd.here | apply Upd.there | apply Qu))) rfl ?_
  refine Qb ?_
  refine zD hD ?_
  refine Qn (by kernel_rfl) ?_
  refine Qx ?_
  refine Qk (Qd (Qi (zB ?_)))
  refine zM (Qb ?_)
  exact zm (h:=⟨42-(k+1),by omega,k+1,_,_,rfl,rfl,rfl,rfl,by omega,by rw [Zh hy,List.map_append];exact hO2⟩)
 have hge_k:42≤k:=by have h:=hc11;simp at h;omega
 obtain rfl:k=42:=by omega
 obtain ⟨a3,c3,rfl⟩:=hO.shape
 have hke:(YM x).take 42=YM x:=rfl
 rw [hke] at hO
 refine Zi (Qo (Qo (Qz (Qd (Qm ?_)))))
 have hD:=zzm I2
 refine Zt ?_
 refine QQ I2 [] mixed ?_
 refine zT 0 rfl (Qa rfl QU) hD ?_
 refine zT 2 rfl (Qa rfl Yo) hD ?_
 refine zT 3 rfl (Qa rfl ZK) hD ?_
 refine zT 4 rfl (Qc rfl Y5 (fun hg=>by exact QA.imm h1.out rfl)) hD ?_
 refine zT 6 rfl (Qa rfl Yl) hD ?_
 refine zT 7 rfl (Qa rfl Jl) hD ?_
 refine zT 8 rfl (Qc rfl VI (fun hg=>by exact QA.imm h1.out rfl)) hD ?_
 refine zT 9 rfl (QK (ps:=[(0,_),(2,_)]) [_,_,_,_] KH rfl rfl) hD ?_
 refine zT 10 rfl (Qa rfl Yl) hD ?_
 refine zT 11 rfl (Qa rfl Jo) hD ?_
 refine zT 12 rfl (Qc rfl VI (fun hg=>by exact QA.imm h1.out rfl)) hD ?_
 refine zT 13 rfl (QK (ps:=[(0,_),(2,_)]) [_,_,_,_] KH rfl rfl) hD ?_
 refine QW 1 5 rfl rfl (by kernel_rfl) ?_ ?_
 ·
  refine zV (Qc rfl Zp (fun hg=>by (repeat (first | exact zzh rfl | apply zzg | apply zzi)))) ?_
  refine Qb ?_
  refine zD hD ?_
  refine qd 5 rfl ?_
  refine zpc [_] rfl zfp .nil (zmB hN hnn) ?_
  rintro vv4 I4 L4 hI4 ⟨sv7,rfl,rfl,hO7⟩
  have hIc:=hIc.trans hI4;have hD:=hD.trans hI4
  obtain ⟨a7,c7,rfl⟩:=hO7.shape
  refine Qb ?_
  refine zD hD ?_
  refine qd 14 rfl ?_
  refine zpb [(0,_),(1,_),(2,_)] [Q7 ⟨3,0,⟨#[]⟩,a7,x.pt.n,c7⟩,Q7 (vcT x.rt.name),Q7 (vcT x.rt.town)] Zy (fun b_37=>?_)
  refine Qb ?_
  refine zD hD ?_
  refine qd 15 rfl ?_
  refine zpa (_) (([⟨3,0,⟨#[]⟩,a7,x.pt.n,c7⟩,vcT x.rt.name,vcT x.rt.town]:List Vc).flatMap Q7) (L) rfl rfl Zy hO ⟨rfl,fun _=>rfl,by repeat (first | exact zzk | apply zzj | apply zzl)⟩ (VU [⟨3,0,⟨#[]⟩,a7,x.pt.n,c7⟩,vcT x.rt.name,vcT x.rt.town]) ?_
  intro v8 L8 hO8 _;rw [←List.flatMap_append] at hO8;obtain ⟨a8,c8,rfl⟩:=hO8.shape
  refine Qb ?_
  refine zD hD ?_
  refine zT 16 rfl (Qa rfl QU) hD ?_
  refine qd 17 rfl ?_
  refine Q0 rfl rfl Y2 rfl rfl (by (repeat (first | exact Upd.here | apply Upd.there | apply Qu))) rfl ?_
  refine Qb ?_
  refine zD hD ?_
  refine Qn (by kernel_rfl) ?_
  refine Qx ?_
  refine Qd (Qm ?_)
  refine zx4 hO7 Y6 (fun I5 hI5 af5 cf5 ef5 hM7=>?_)
  cases ef5
  have hIc:=hIc.trans hI5
  refine zx4 hO8 Y6 (fun I6 hI6 af6 cf6 ef6 hM8=>?_)
  cases ef6
  have hM7:=hM7.mono hI6;have hIc:=hIc.trans hI6
  refine Qi ?_
  refine zV (Qg rfl Zq (fun hg=>by exact Cells.g1) rfl) ?_
  refine zpc [_] rfl zf7 .nil (zdc (x:=Kw x) (cv:=⟨3,0,⟨#[]⟩,a8,45,c8⟩) (Wn hM7 hM8) (Ju x) hok hb) ?_
  rintro vv7 I7 L7 hI7 ⟨bv,rfl,hOb⟩
  have hIc:=hIc.trans hI7
  refine zM ?_
  refine zE ?_
  refine zE ?_
  refine zA ?_
  refine zA (zN (Qm ?_))
  refine zx4 hOb YO (fun I8 hI8 af8 cf8 ef8 hB=>?_)
  subst ef8
  have hIc:=hIc.trans hI8
  refine Qi (zM ?_)
  refine zV (Zv rfl bst (fun hg=>hB)) ?_
  refine zA (zN (Qs ?_))
  exact zp hIc rfl rfl (by rfl)
 refine zpc [_] rfl zfp .nil (zmB hN hnn) ?_
 rintro vv9 I9 L9 hI9 ⟨sv7,rfl,rfl,hO7⟩
 have hIc:=hIc.trans hI9;have hD:=hD.trans hI9
 obtain ⟨a7,c7,rfl⟩:=hO7.shape
 refine Qb ?_
 refine zD hD ?_
 refine QW 1 14 rfl rfl (by kernel_rfl) ?_ ?_
 ·
  refine zV (Qc rfl Zp (fun hg=>by (repeat (first | exact zzh rfl | apply zzg | apply zzi)))) ?_
  refine Qb ?_
  refine zD hD ?_
  refine qd 14 rfl ?_
  refine zpb [(0,_),(1,_),(2,_)] [Q7 ⟨3,0,⟨#[]⟩,a7,x.pt.n,c7⟩,Q7 (vcT x.rt.name),Q7 (vcT x.rt.town)] Zy (fun b_37=>?_)
  refine Qb ?_
  refine zD hD ?_
  refine qd 15 rfl ?_
  refine zpa (_) (([⟨3,0,⟨#[]⟩,a7,x.pt.n,c7⟩,vcT x.rt.name,vcT x.rt.town]:List Vc).flatMap Q7) (L) rfl rfl Zy hO ⟨rfl,fun _=>rfl,by repeat (first | exact zzk | apply zzj | apply zzl)⟩ (VU [⟨3,0,⟨#[]⟩,a7,x.pt.n,c7⟩,vcT x.rt.name,vcT x.rt.town]) ?_
  intro v8 L8 hO8 _;rw [←List.flatMap_append] at hO8;obtain ⟨a8,c8,rfl⟩:=hO8.shape
  refine Qb ?_
  refine zD hD ?_
  refine zT 16 rfl (Qa rfl QU) hD ?_
  refine qd 17 rfl ?_
  refine Q0 rfl rfl Y2 rfl rfl (by (repeat (first | exact Upd.here | apply Upd.there | apply Qu))) rfl ?_
  refine Qb ?_
  refine zD hD ?_
  refine Qn (by kernel_rfl) ?_
  refine Qx ?_
  refine Qd (Qm ?_)
  refine zx4 hO7 Y6 (fun I10 hI10 af10 cf10 ef10 hM7=>?_)
  cases ef10
  have hIc:=hIc.trans hI10
  refine zx4 hO8 Y6 (fun I11 hI11 af11 cf11 ef11 hM8=>?_)
  cases ef11
  have hM7:=hM7.mono hI11;have hIc:=hIc.trans hI11
  refine Qi ?_
  refine zV (Qg rfl Zq (fun hg=>by exact Cells.g1) rfl) ?_
  refine zpc [_] rfl zf7 .nil (zdc (x:=Kw x) (cv:=⟨3,0,⟨#[]⟩,a8,45,c8⟩) (Wn hM7 hM8) (Ju x) hok hb) ?_
  rintro vv12 I12 L12 hI12 ⟨bv,rfl,hOb⟩
  have hIc:=hIc.trans hI12
  refine zM ?_
  refine zE ?_
  refine zE ?_
  refine zA ?_
  refine zA (zN (Qm ?_))
  refine zx4 hOb YO (fun I13 hI13 af13 cf13 ef13 hB=>?_)
  subst ef13
  have hIc:=hIc.trans hI13
  refine Qi (zM ?_)
  refine zV (Zv rfl bst (fun hg=>hB)) ?_
  refine zA (zN (Qs ?_))
  exact zp hIc rfl rfl (by rfl)
 refine zpb [(0,_),(1,_),(2,_)] [Q7 ⟨3,0,⟨#[]⟩,a7,x.pt.n,c7⟩,Q7 (vcT x.rt.name),Q7 (vcT x.rt.town)] Zy (fun b_37=>?_)
 refine Qb ?_
 refine zD hD ?_
 refine qd 1 rfl ?_
 refine zV (Qc rfl Zp (fun hg=>by (repeat (first | exact zzh rfl | apply zzg | apply zzi)))) ?_
 refine Qb ?_
 refine zD hD ?_
 refine qd 15 rfl ?_
 refine zpa (_) (([⟨3,0,⟨#[]⟩,a7,x.pt.n,c7⟩,vcT x.rt.name,vcT x.rt.town]:List Vc).flatMap Q7) (L) rfl rfl Zy hO ⟨rfl,fun _=>rfl,by repeat (first | exact zzk | apply zzj | apply zzl)⟩ (VU [⟨3,0,⟨#[]⟩,a7,x.pt.n,c7⟩,vcT x.rt.name,vcT x.rt.town]) ?_
 intro v8 L8 hO8 _;rw [←List.flatMap_append] at hO8;obtain ⟨a8,c8,rfl⟩:=hO8.shape
 refine Qb ?_
 refine zD hD ?_
 refine zT 16 rfl (Qa rfl QU) hD ?_
 refine qd 17 rfl ?_
 refine Q0 rfl rfl Y2 rfl rfl (by (repeat (first | exact Upd.here | apply Upd.there | apply Qu))) rfl ?_
 refine Qb ?_
 refine zD hD ?_
 refine Qn (by kernel_rfl) ?_
 refine Qx ?_
 refine Qd (Qm ?_)
 refine zx4 hO7 Y6 (fun I14 hI14 af14 cf14 ef14 hM7=>?_)
 cases ef14
 have hIc:=hIc.trans hI14
 refine zx4 hO8 Y6 (fun I15 hI15 af15 cf15 ef15 hM8=>?_)
 cases ef15
 have hM7:=hM7.mono hI15;have hIc:=hIc.trans hI15
 refine Qi ?_
 refine zV (Qg rfl Zq (fun hg=>by exact Cells.g1) rfl) ?_
 refine zpc [_] rfl zf7 .nil (zdc (x:=Kw x) (cv:=⟨3,0,⟨#[]⟩,a8,45,c8⟩) (Wn hM7 hM8) (Ju x) hok hb) ?_
 rintro vv16 I16 L16 hI16 ⟨bv,rfl,hOb⟩
 have hIc:=hIc.trans hI16
 refine zM ?_
 refine zE ?_
 refine zE ?_
 refine zA ?_
 refine zA (zN (Qm ?_))
 refine zx4 hOb YO (fun I17 hI17 af17 cf17 ef17 hB=>?_)
 subst ef17
 have hIc:=hIc.trans hI17
 refine Qi (zM ?_)
 refine zV (Zv rfl bst (fun hg=>hB)) ?_
 refine zA (zN (Qs ?_))
 exact zp hIc rfl rfl (by rfl)
end
section
open Go Go.Kn Go.Proofs
theorem Zr:QL Tryz.prog 59 0 0:=.of (by kernel_rfl)
theorem za5:Fun Tryz.prog 108:=.of Tryz.func108 (by kernel_rfl) (by kernel_rfl)
theorem ztn:Fun Tryz.prog 154:=.of Tryz.func154 (by kernel_rfl) (by kernel_rfl)
theorem zeK:Fun Tryz.prog 79:=.of Tryz.func79 (by kernel_rfl) (by kernel_rfl)
theorem zeC:Fun Tryz.prog 81:=.of Tryz.func81 (by kernel_rfl) (by kernel_rfl)
theorem Yq:ScT Tryz.prog 57:=.of (by kernel_rfl)
theorem VW:SzT Tryz.prog 45 45:=.of (by kernel_rfl)
theorem W8:Y7 Tryz.prog 45 (.agg #[(.int .i64 0),(.int .i64 0),(.int .i64 0),(.int .i64 0),(.int .i64 0),(.int .i64 0),(.int .i64 0),(.int .i64 0),(.int .i64 0),(.int .i64 0),(.int .i64 0),(.int .i64 0),(.int .i64 0),(.int .i64 0),(.int .i64 0),(.int .i64 0),(.int .i64 0),(.int .i64 0),(.int .i64 0),(.int .i64 0),(.int .i64 0),(.int .i64 0),(.int .i64 0),(.int .i64 0),(.int .i64 0),(.int .i64 0),(.int .i64 0),(.int .i64 0),(.slice none 0 0),(.int .i64 0),(.int .i64 0),(.int .i64 0),(.int .i64 0),(.int .i64 0),(.int .i64 0),(.int .i64 0),(.int .i64 0),(.int .i64 0),(.int .i64 0),(.int .i64 0),(.string ⟨#[]⟩),(.string ⟨#[]⟩),(.int .i64 0),(.int .i64 0),(.int .i64 0)]):=.of (by kernel_rfl)
theorem zww (I:Qt)(a b:ByteArray):ZA Tryz.prog 154 [.string a,.string b] I (.int .i64 (zxi a b)):=fun g H w hw=>(Tryz.strings_Compare a b w).mono fun e w' ⟨h1,h2⟩=>⟨h1,h2 ▸ hw⟩
theorem zew {I:Qt}{x y:Nt}(hX:NtM I x)(hY:NtM I y):ZA Tryz.prog 81 [Kj x,Kj y] I (.int .i64 (Vh x y)):=by
 intro g H w hw
 refine qe Tryz.func81 Tryz.ntmps81 hw ?_
 have hIc:=zzm I
 refine zR ?_
 refine QR rfl rfl rfl (fun b_2=>?_)
 refine QR rfl rfl rfl (fun b_3=>?_)
 refine zA (Qb ?_)
 refine QH .here (fun I1 hI1 hb1=>?_)
 have hX:=hX.mono hI1;have hY:=hY.mono hI1;have hIc:=hIc.trans hI1
 have h2:=BxI.of hb1
 refine QH .here (fun I2 hI2 hb2=>?_)
 have hX:=hX.mono hI2;have hY:=hY.mono hI2;have h2:=h2.mono hI2;have hIc:=hIc.trans hI2
 have h1:=BxI.of hb2
 refine Qd (Qm ?_)
 have hD:=zzm I2
 refine Zt ?_
 refine QQ I2 [] mixed ?_
 refine zT 0 rfl (Qg rfl Zf (fun hg=>by exact BxI.cells (vs:=Q6 x) h1) rfl) hD ?_
 refine zT 2 rfl (Qg rfl Zf (fun hg=>by exact BxI.cells (vs:=Q6 y) h2) rfl) hD ?_
 refine qd 1 rfl ?_
 refine qcV (vs:=[_]) rfl zeK (zlL x hX.nd hX.nn hX.ok hX.len) ?_
 refine Qb ?_
 refine zD hD ?_
 refine qd 3 rfl ?_
 refine qcV (vs:=[_]) rfl zeK (zlL y hY.nd hY.nn hY.ok hY.len) ?_
 refine Qb ?_
 refine zD hD ?_
 refine qd 4 rfl ?_
 refine qcV (vs:=[_,_]) rfl ztn (zww _ _ _) ?_
 refine Qb ?_
 refine zD hD ?_
 refine zT 5 rfl (QC rfl) hD ?_
 refine Qn (by kernel_rfl) ?_
 refine Qx ?_
 refine Qd (Qs ?_)
 exact zp hIc rfl rfl (by rfl)
theorem zfT {I:Qt}{av:Option Addr}{n c:Nat}{xs:List Nt}(hP:U7 I av n c xs)(hn:n≤100000):ZA Tryz.prog 61 [.agg #[.slice av n c]] I (.bool (ZG xs)):=by
 intro g H w hw
 refine qe Tryz.func61 Tryz.ntmps61 hw ?_
 have hIc:=zzm I
 have hln:=hP.sl.len
 refine zR ?_
 refine QR rfl rfl rfl (fun b_1=>?_)
 refine zA (Qb ?_)
 refine QH .here (fun I1 hI1 hb1=>?_)
 have hP:=hP.mono hI1;have hIc:=hIc.trans hI1
 have h1:=BxI.of hb1
 refine Qd (Qm (zR ?_))
 refine zF Zr ?_
 refine zV (Qc rfl Yq (fun hg=>by exact QA.imm h1.out rfl)) ?_
 refine zQ Za ?_
 refine zM (zN (Qw ?_))
 refine zU [(1,_),(6,_),(7,_)] (fun T L0 mz E I' loc'=>∃ (k:Nat),mz=n-k∧E=(8,.int .i64 k)::T∧HLe I1 I'∧L0=loc'∧k≤n∧(∀ j y,j<k→xs[j]? =some y→zb0 (xs.take j) y=false)) ?_ (h:=⟨0,rfl,rfl,zzm _,rfl,Nat.zero_le _,fun j y h=>absurd h (Nat.not_lt_zero _)⟩)
 rintro mz E J2 loc' ⟨k,rfl,rfl,hJ,rfl,hk,hall⟩
 have hP:=hP.mono hJ;have h1:=h1.mono hJ;have hIc:=hIc.trans hJ
 have hB0:=hJ
 refine zR (zC (zN (Qm ?_)))
 refine zI ?_ ?_<;>intro hc9
 ·
  have hlt_k:k<n:=by have h:=hc9;simp at h;omega
  obtain ⟨x,hx⟩:∃ x,xs[k]? =some x:=⟨_,List.getElem?_eq_getElem (by omega)⟩
  have hxm:x∈xs:=List.mem_of_getElem? hx
  refine Qr (Qd (Qm (Qw (zR (zM ?_)))))
  refine zV (QG rfl rfl Za hP.sl (fun hg=>by omega)) ?_
  refine zV (Qg rfl Zf (fun hg=>by exact zzn hP.sl hx) rfl) ?_
  refine Qq W8 rfl rfl (fun b_4=>?_)
  refine zA ?_
  refine zh VW ?_
  refine Qb ?_
  refine QH .here (fun I3 hI3 hb3=>?_)
  have hP:=hP.mono hI3;have h1:=h1.mono hI3;have hIc:=hIc.trans hI3;have hB0:=hB0.trans hI3
  have h4:=BxI.of hb3
  refine Qd (Qm ?_)
  rcases (show QP x=false∨(QP x=true∧k=0)∨(QP x=true∧0<k) by cases QP x<;>simp<;>omega) with hf | ⟨hf,hk⟩ | ⟨hf,hk⟩
  ·
   have hD:=zzm I3
   refine Zt ?_
   refine QQ I3 [] mixed ?_
   refine zT 0 rfl (Qg rfl Zf (fun hg=>by exact BxI.cells (vs:=Q6 x) h4) rfl) hD ?_
   refine qd 1 rfl ?_
   refine qcV (vs:=[_]) rfl za5 (KV x (hP.nd x hxm)) ?_
   refine Qb ?_
   refine zD hD ?_
   refine zT 2 rfl (Zs rfl) hD ?_
   rw [hf]
   refine zT 3 rfl (Qf rfl) hD ?_
   refine zW 4 16 hD ?_
   refine zW 5 16 hD ?_
   refine zW 6 16 hD ?_
   refine zW 7 19 hD ?_
   refine zW 8 19 hD ?_
   refine zW 9 19 hD ?_
   refine zW 10 19 hD ?_
   refine zW 11 19 hD ?_
   refine zW 12 19 hD ?_
   refine zW 13 19 hD ?_
   refine zW 14 19 hD ?_
   refine zW 15 19 hD ?_
   refine zW 16 16 hD ?_
   refine zT 17 rfl (Y0 rfl rfl rfl) hD ?_
   refine Qn (by kernel_rfl) ?_
   refine Qx ?_
   refine Qd ?_
   refine zI ?_ ?_<;>intro hc30
   ·
    have hbad:=zdT (pre:=xs.take k) hf
    refine zR (zA (zN (Qs (Qj (Qe (Qe (Qj ?_)))))))
    refine Qe ?_
    exact zp hIc rfl rfl (by rw [Xb hx hbad])
   cases hc30
  ·
   have hk0:decide ((k:Int)>0)=false:=by simp;omega
   have hD:=zzm I3
   refine Zt ?_
   refine QQ I3 [] mixed ?_
   refine zT 0 rfl (Qg rfl Zf (fun hg=>by exact BxI.cells (vs:=Q6 x) h4) rfl) hD ?_
   refine qd 1 rfl ?_
   refine qcV (vs:=[_]) rfl za5 (KV x (hP.nd x hxm)) ?_
   refine Qb ?_
   refine zD hD ?_
   refine zT 2 rfl (Zs rfl) hD ?_
   rw [hf]
   refine zT 3 rfl (Qf rfl) hD ?_
   refine zw 4 16 rfl (Qf rfl) hD ?_
   refine zw 5 16 rfl (QD rfl rfl rfl) hD ?_
   rw [hk0]
   refine zw 6 16 rfl (Qf rfl) hD ?_
   refine zW 7 19 hD ?_
   refine zW 8 19 hD ?_
   refine zW 9 19 hD ?_
   refine zW 10 19 hD ?_
   refine zW 11 19 hD ?_
   refine zW 12 19 hD ?_
   refine zW 13 19 hD ?_
   refine zW 14 19 hD ?_
   refine zW 15 19 hD ?_
   refine zw 16 16 rfl (Y0 rfl rfl rfl) hD ?_
   refine zT 17 rfl (Q5 rfl rfl rfl) hD ?_
   refine Qn (by kernel_rfl) ?_
   refine Qx ?_
   refine Qd ?_
   refine zI ?_ ?_<;>intro hc30
   ·
    cases hc30
   have hbad:zb0 (xs.take k) x=false:=by rw [hk];exact zdm hf
   refine Qr (Qk (Qd (Qi (zB ?_))))
   refine zM (Qb ?_)
   exact zm (h:=⟨n-(k+1),by omega,k+1,rfl,rfl,hB0,rfl,by omega,VA hx hall hbad⟩)
  have hk0:decide ((k:Int)>0)=true:=by simp;omega
  obtain ⟨y,hy⟩:∃ y,xs[((k:Int)-1).toNat]? =some y:=⟨_,List.getElem?_eq_getElem (by omega)⟩
  have hym:y∈xs:=List.mem_of_getElem? hy
  have hfy:=zbL (hall _ y (by omega) hy)
  have hD:=zzm I3
  refine Zt ?_
  refine QQ I3 [] mixed ?_
  refine zT 0 rfl (Qg rfl Zf (fun hg=>by exact BxI.cells (vs:=Q6 x) h4) rfl) hD ?_
  refine qd 1 rfl ?_
  refine qcV (vs:=[_]) rfl za5 (KV x (hP.nd x hxm)) ?_
  refine Qb ?_
  refine zD hD ?_
  refine zT 2 rfl (Zs rfl) hD ?_
  rw [hf]
  refine zT 3 rfl (Qf rfl) hD ?_
  refine zw 4 16 rfl (Qf rfl) hD ?_
  refine zw 5 16 rfl (QD rfl rfl rfl) hD ?_
  rw [hk0]
  refine zw 6 16 rfl (Qf rfl) hD ?_
  refine zw 7 19 rfl (Qa rfl Zr) hD ?_
  refine zw 8 19 rfl (Qc rfl Yq (fun hg=>by exact QA.imm h1.out rfl)) hD ?_
  refine zw 9 19 rfl (Qf rfl) hD ?_
  refine zw 10 19 rfl (Yz rfl rfl rfl (fun hg=>by omega)) hD ?_
  refine zw 11 19 rfl (QG rfl rfl Za hP.sl (fun hg=>by omega)) hD ?_
  refine zw 12 19 rfl (Qg rfl Zf (fun hg=>by exact zzn hP.sl hy) rfl) hD ?_
  refine zw 13 19 rfl (Qg rfl Zf (fun hg=>by exact BxI.cells (vs:=Q6 x) h4) rfl) hD ?_
  refine qd 14 rfl ?_
  refine QN (dj:=19) rfl rfl rfl ?_
  refine qcV (vs:=[_,_]) rfl zeC (zew (hP.m y hym hfy) (hP.m x hxm hf)) ?_
  refine Qb ?_
  refine zD hD ?_
  refine zw 15 19 rfl (QD rfl rfl rfl) hD ?_
  refine zw 16 16 rfl (Q5 rfl rfl rfl) hD ?_
  refine zT 17 rfl (Q5 rfl rfl rfl) hD ?_
  refine Qn (by kernel_rfl) ?_
  refine Qx ?_
  refine Qd ?_
  refine zI ?_ ?_<;>intro hc30
  ·
   have hbad:zb0 (xs.take k) x=true:=(KU hf hk hy).trans hc30
   refine zR (zA (zN (Qs (Qj (Qe (Qe (Qj ?_)))))))
   refine Qe ?_
   exact zp hIc rfl rfl (by rw [Xb hx hbad])
  have hbad:zb0 (xs.take k) x=false:=(KU hf hk hy).trans hc30
  refine Qr (Qk (Qd (Qi (zB ?_))))
  refine zM (Qb ?_)
  exact zm (h:=⟨n-(k+1),by omega,k+1,rfl,rfl,hB0,rfl,by omega,VA hx hall hbad⟩)
 have hge_k:n≤k:=by have h:=hc9;simp at h;omega
 refine Zi (Qo (Qo (Qz (Qd (zR ?_)))))
 refine zF Zr ?_
 refine zV (Qc rfl Yq (fun hg=>by exact QA.imm h1.out rfl)) ?_
 refine zQ Za ?_
 refine zC ?_
 refine zA (zN (Qs ?_))
 exact zp hIc rfl rfl (by rw [zc9 (fun j y hj hy=>hall j y (by omega) hy),hln])
end
section
open Go Go.Kn Go.Proofs
structure Pk where
 frm:Int
 to_:Int
 a:Option Addr
 n:Nat
 c:Nat
 data:List Nat
def Zz (x:Pk):List Value:=[.int .i64 x.frm,.int .i64 x.to_,.slice x.a x.n x.c]
def Xk (x:Pk):Value:=.agg (Zz x).toArray
theorem Zu (x:Pk):(Zz x).length=3:=rfl
def KY (l:Int×Int):List Value:=[.int .i64 l.1,.int .i64 l.2]
def lkV (a b:Int):Bool:=(decide (a≥0)&&decide (a<b))&&decide (b<24)
def pkV (x:Pk):Bool:=lkV (zpK x.frm x.to_) (zfa x.frm x.to_)&&decide ((x.n:Int)≤1048576)
def Uw:List Int→List Int→Int
 | [],[]=>0
 | [],_::_=> -1
 | _::_,[]=>1
 | x::xs,y::ys=>if zff x y=0 then Uw xs ys else zff x y
theorem zh0 {xs ys:List Int}{k:Nat}{x y:Int}(hx:xs[k]? =some x)(hy:ys[k]? =some y)(h:zff x y=0):Uw (xs.drop k) (ys.drop k)=Uw (xs.drop (k+1)) (ys.drop (k+1)):=by
 obtain ⟨h1,e1⟩:=List.getElem?_eq_some_iff.1 hx
 obtain ⟨h2,e2⟩:=List.getElem?_eq_some_iff.1 hy
 rw [List.drop_eq_getElem_cons h1,List.drop_eq_getElem_cons h2,e1,e2,Uw,if_pos h]
theorem zmi {xs ys:List Int}{k:Nat}{x y:Int}(hx:xs[k]? =some x)(hy:ys[k]? =some y)(h:zff x y≠0):Uw (xs.drop k) (ys.drop k)=zff x y:=by
 obtain ⟨h1,e1⟩:=List.getElem?_eq_some_iff.1 hx
 obtain ⟨h2,e2⟩:=List.getElem?_eq_some_iff.1 hy
 rw [List.drop_eq_getElem_cons h1,List.drop_eq_getElem_cons h2,e1,e2,Uw,if_neg h]
theorem zm1 {xs ys:List Int}{k:Nat}{x:Int}(hx:xs[k]? =some x)(h:ys.length≤k):Uw (xs.drop k) (ys.drop k)=1:=by
 obtain ⟨h1,e1⟩:=List.getElem?_eq_some_iff.1 hx
 rw [List.drop_eq_getElem_cons h1,List.drop_eq_nil_of_le h,Uw]
theorem zm0 {xs ys:List Int}{k:Nat}(h:xs.length≤k)(h2:k<ys.length):Uw (xs.drop k) (ys.drop k)= -1:=by
 rw [List.drop_eq_nil_of_le h,List.drop_eq_getElem_cons h2,Uw]
theorem zmY {xs ys:List Int}{k:Nat}(h:xs.length≤k)(h2:ys.length≤k):Uw (xs.drop k) (ys.drop k)=0:=by
 rw [List.drop_eq_nil_of_le h,List.drop_eq_nil_of_le h2,Uw]
theorem zqQ {I:Qt}{av:Option Addr}{n c k:Nat}{ks:List (Int×Int)}{l:Int×Int}(h:Sl I 2 KY av n c ks)(hk:ks[k]? =some l):Sl I 1 Z1 (some ⟨Ab av,Ao av+k*2,none⟩) 2 2 [l.1,l.2]:=
 ⟨rfl,Nat.le_refl _,fun _=>rfl,fun i x hx j u hu=>by
  have h2:=h.cells k l hk i u (by
   match i,j,hx,hu with
   | 0,0,hx,hu=>cases hx;cases hu;rfl
   | 1,0,hx,hu=>cases hx;cases hu;rfl
   | 0,_+1,hx,hu=>cases hu
   | 1,_+1,hx,hu=>cases hu
   | _+2,_,hx,hu=>cases hx)
  have hj:j=0:=by
   match j,hu with
   | 0,_=>rfl
   | _+1,hu=>cases hu
  subst hj
  show QA I [] (Ab av) (Ao av+k*2+i*1+0) u
  rw [Nat.mul_one,Nat.add_zero];exact h2⟩
def zhg (pre:List (Int×Int))(l:Int×Int):Bool:= !lkV l.1 l.2||(match pre.getLast? with | none=>false | some y=>decide (Uw [y.1,y.2] [l.1,l.2]≥0))
def zfr:List (Int×Int)→List (Int×Int)→Bool
 | _,[]=>true
 | pre,x::l=> !zhg pre x&&zfr (pre++[x]) l
def Uq (qs:List Pk)(ks:List (Int×Int)):Int:=if decide ((qs.length:Int)>4096)||qs.any (fun x=> !pkV x) then 60 else if zfr [] ks then 0 else 60
theorem zbi:∀ (xs pre:List (Int×Int)),zfr pre xs=true↔ ∀ j y,xs[j]? =some y→zhg (pre++xs.take j) y=false
 | [],pre=>by simp [zfr]
 | x::l,pre=>by
  rw [zfr,Bool.and_eq_true,zbi l]
  constructor
  ·
   rintro ⟨h1,h2⟩ j y hy
   cases j with
   | zero=>cases hy;simpa using h1
   | succ j=>have:=h2 j y hy;simpa [List.append_assoc] using this
  ·
   intro h
   refine ⟨by have:=h 0 x rfl;simpa using this,fun j y hy=>?_⟩
   have:=h (j+1) y hy
   simpa [List.append_assoc] using this
theorem zn9 {qs:List Pk}{ks:List (Int×Int)}(h:(decide ((qs.length:Int)>4096)||qs.any (fun x=> !pkV x))=true):Uq qs ks=60:=if_pos h
theorem zhw {qs:List Pk}{ks:List (Int×Int)}{k:Nat}{x:Int×Int}(h:(decide ((qs.length:Int)>4096)||qs.any (fun x=> !pkV x))=false)(hx:ks[k]? =some x)(hb:zhg (ks.take k) x=true):Uq qs ks=60:=by
 unfold Uq
 rw [h,if_neg (by simp)]
 cases hg:zfr [] ks with
 | false=>rfl
 | true=>
  have:=(zbi ks []).1 hg k x hx
  rw [List.nil_append,hb] at this;cases this
theorem zjc {qs:List Pk}{ks:List (Int×Int)}(h:(decide ((qs.length:Int)>4096)||qs.any (fun x=> !pkV x))=false)(hall:∀ j y,j<ks.length→ks[j]? =some y→zhg (ks.take j) y=false):Uq qs ks=0:=by
 unfold Uq
 rw [h,if_neg (by simp),if_pos ((zbi ks []).2 fun j y hy=>by rw [List.nil_append];exact hall j y (List.getElem?_eq_some_iff.1 hy).1 hy)]
theorem zll {pre:List (Int×Int)}{x:Int×Int}(h:lkV x.1 x.2=false):zhg pre x=true:=by simp [zhg,h]
theorem zpl {x:Int×Int}(h:lkV x.1 x.2=true):zhg [] x=false:=by simp [zhg,h]
theorem zeh {xs:List (Int×Int)}{k:Nat}{x y:Int×Int}(h:lkV x.1 x.2=true)(hk:0<k)(hy:xs[((k:Int)-1).toNat]? =some y):zhg (xs.take k) x=decide (Uw [y.1,y.2] [x.1,x.2]≥0):=by
 have e:((k:Int)-1).toNat=k-1:=by omega
 rw [e] at hy
 have hl:(xs.take k).getLast?=some y:=by
  rw [show k=k-1+1 by omega,Zh hy];simp
 simp [zhg,h,hl]
def zbj:Pk:=⟨0,0,none,0,0,[]⟩
def atE (qs:List Pk)(ks:List (Int×Int))(i:Int):Int:=if Uq qs ks != 0 then 60 else if decide (i<0)||decide (i≥(qs.length:Int)) then 1 else 0
def atP (qs:List Pk)(ks:List (Int×Int))(i:Int):Pk:=if atE qs ks i=0 then qs.getD i.toNat zbj else zbj
theorem zy5 {qs:List Pk}{ks:List (Int×Int)}{i:Int}(h:(Uq qs ks != 0)=true):atE qs ks i=60∧atP qs ks i=zbj:=by
 have:atE qs ks i=60:=by unfold atE;rw [h];rfl
 exact ⟨this,by unfold atP;rw [this];rfl⟩
theorem zyD {qs:List Pk}{ks:List (Int×Int)}{i:Int}(h:(Uq qs ks != 0)=false)(h2:(decide (i<0)||decide (i≥(qs.length:Int)))=true):atE qs ks i=1∧atP qs ks i=zbj:=by
 have:atE qs ks i=1:=by unfold atE;rw [h,h2];rfl
 exact ⟨this,by unfold atP;rw [this];rfl⟩
theorem zyv {qs:List Pk}{ks:List (Int×Int)}{i:Int}{x:Pk}(h:(Uq qs ks != 0)=false)(h2:(decide (i<0)||decide (i≥(qs.length:Int)))=false)(hx:qs[i.toNat]? =some x):atE qs ks i=0∧atP qs ks i=x:=by
 have:atE qs ks i=0:=by unfold atE;rw [h,h2];rfl
 exact ⟨this,by unfold atP;rw [this,if_pos rfl,List.getD_eq_getElem?_getD,hx];rfl⟩
def zs4:Value:=.agg #[.slice none 0 0,.slice none 0 0]
theorem zcH {qs:List Pk}{ks:List (Int×Int)}{i:Int}(h:atE qs ks i=0):0≤i∧i<(qs.length:Int):=by
 unfold atE at h
 split at h
 ·
  cases h
 ·
  split at h
  ·
   cases h
  ·
   rename_i h2;simp at h2;omega
def zxh (v y:Int×Int):Bool:=v.1==y.1&&v.2==y.2
def zp0 (ks:List (Int×Int))(p:Pk):Bool:=ks.any (zxh (zpK p.frm p.to_,zfa p.frm p.to_))
def Up (qs:List Pk)(ks:List (Int×Int))(x:Pk):Int:=if (Uq qs ks != 0|| !pkV x)=true then 60 else if ((qs.length:Int)==4096)=true then 2 else 0
theorem zuk {qs:List Pk}{ks:List (Int×Int)}{x:Pk}(h:(Uq qs ks != 0|| !pkV x)=true):Up qs ks x=60:=if_pos h
theorem zv1 {qs:List Pk}{ks:List (Int×Int)}{x:Pk}(h:(Uq qs ks != 0|| !pkV x)=false)(h2:((qs.length:Int)==4096)=true):Up qs ks x=2:=by unfold Up;rw [h,h2];rfl
theorem zqi {qs:List Pk}{ks:List (Int×Int)}{x:Pk}(h:(Uq qs ks != 0|| !pkV x)=false)(h2:((qs.length:Int)==4096)=false):Up qs ks x=0:=by unfold Up;rw [h,h2];rfl
def ziE (I:Qt)(e:Int)(a:Option Addr)(m c:Nat)(a2:Option Addr)(m2 c2:Nat)(qs:List Pk)(aa:Option Addr)(an ac:Nat):Prop:=
 (e≠0∧a=none∧m=0∧c=0∧a2=none∧m2=0∧c2=0)∨(e=0∧a2=aa∧m2=an∧c2=ac∧Sl I 3 Zz a m c qs)
theorem ziE.mono {I I':Qt}{e:Int}{a a2 aa:Option Addr}{m c m2 c2 an ac:Nat}{qs:List Pk}(h:ziE I e a m c a2 m2 c2 qs aa an ac)(hI:HLe I I'):ziE I' e a m c a2 m2 c2 qs aa an ac:=h.imp id fun ⟨h1,h2,h3,h4,h5⟩=>⟨h1,h2,h3,h4,h5.mono hI⟩
theorem Xt {I:Qt}{e:Int}{aa:Option Addr}{an ac:Nat}{qs:List Pk}(h:e≠0):ziE I e none 0 0 none 0 0 qs aa an ac:=.inl ⟨h,rfl,rfl,rfl,rfl,rfl,rfl⟩
theorem zdz {I:Qt}{e:Int}{a aa:Option Addr}{m c an ac:Nat}{qs:List Pk}(h:e=0)(hS:Sl I 3 Zz a m c qs):ziE I e a m c aa an ac qs aa an ac:=.inr ⟨h,rfl,rfl,rfl,hS⟩
def Wh (qs:List Pk)(ks:List (Int×Int))(i:Int):Int:=if atE qs ks i=0 then Up qs ks (atP qs ks i) else atE qs ks i
def Jb (qs:List Pk)(ks:List (Int×Int))(i:Int):Pk:=if zp0 ks (atP qs ks i)=true then zbj else atP qs ks i
theorem zo8 {qs:List Pk}{ks:List (Int×Int)}{i:Int}(h:zp0 ks (atP qs ks i)=true):Jb qs ks i=zbj:=if_pos h
theorem zsV {qs:List Pk}{ks:List (Int×Int)}{i:Int}(h:zp0 ks (atP qs ks i)=false):Jb qs ks i=atP qs ks i:=if_neg (by rw [h];simp)
theorem ziE.ok {I:Qt}{e:Int}{a a2 aa:Option Addr}{m c m2 c2 an ac:Nat}{qs:List Pk}(h:ziE I e a m c a2 m2 c2 qs aa an ac)(he:e=0):a2=aa∧m2=an∧c2=ac∧Sl I 3 Zz a m c qs:=by
 rcases h with ⟨h,_⟩ | ⟨_,h⟩
 ·
  exact absurd he h
 ·
  exact h
structure Ev where
 kind:Int
 peer:Int
 to_:Int
 at_:Int
 note:Nt
def zel (x:Ev):List Value:=.int .i64 x.kind:: .int .i64 x.peer:: .int .i64 x.to_:: .int .i64 x.at_::Q6 x.note
end
section
open Go Go.Kn Go.Proofs
theorem zsH:AgT Tryz.prog 180 2:=.of (by kernel_rfl)
theorem VT:AgT Tryz.prog 99 3:=.of (by kernel_rfl)
theorem zbV:ArT Tryz.prog 180 2 3 1:=.of (by kernel_rfl)
theorem zax:QL Tryz.prog 99 0 0:=.of (by kernel_rfl)
theorem WU:QL Tryz.prog 99 1 1:=.of (by kernel_rfl)
theorem zaw:QL Tryz.prog 99 2 2:=.of (by kernel_rfl)
theorem zlA:Fun Tryz.prog 125:=.of Tryz.func125 (by kernel_rfl) (by kernel_rfl)
theorem zcR:Fun Tryz.prog 126:=.of Tryz.func126 (by kernel_rfl) (by kernel_rfl)
theorem zk0:Fun Tryz.prog 179:=.of Tryz.func179 (by kernel_rfl) (by kernel_rfl)
theorem zrc:Fun Tryz.prog 182:=.of Tryz.func182 (by kernel_rfl) (by kernel_rfl)
theorem Ze:SlT Tryz.prog 23 99 3:=.of (by kernel_rfl)
theorem zrF:SzT Tryz.prog 180 2:=.of (by kernel_rfl)
theorem zqd:Y7 Tryz.prog 180 (.agg #[(.int .i64 0),(.int .i64 0)]):=.of (by kernel_rfl)
theorem zeZ (I:Qt)(a b:Int):ZA Tryz.prog 179 [.int .i64 a,.int .i64 b] I (.agg #[.int .i64 (zpK a b),.int .i64 (zfa a b)]):=by
 intro g H w hw
 refine qe Tryz.func179 Tryz.ntmps179 hw ?_
 refine zR ?_
 refine Qq zqd rfl rfl (fun b_4=>?_)
 refine zN (zR ?_)
 refine zM ?_
 refine zM ?_
 refine zV (zw4 rfl rfl) ?_
 refine zM ?_
 refine zM ?_
 refine zV (Vm rfl rfl) ?_
 refine zV (Vn (ps:=[(0,_),(1,_)]) [_,_] zbV zqd rfl rfl) ?_
 refine zh zrF ?_
 refine zN (Qs ?_)
 exact ZX rfl rfl zsH zzk rfl (fun w hw=>⟨by rfl,hw.drop⟩)
theorem zoe (I:Qt)(a b:Int):ZA Tryz.prog 126 [.agg #[.int .i64 a,.int .i64 b]] I (.bool (lkV a b)):=by
 intro g H w hw
 refine qe Tryz.func126 Tryz.ntmps126 hw ?_
 refine zR ?_
 refine QR rfl rfl rfl (fun b_1=>?_)
 refine zA ?_
 refine zN (zR ?_)
 refine zV (ZI rfl rfl zbV (fun hg=>by decide)) ?_
 refine zL Ql ?_
 refine zC ?_
 refine zM ?_
 refine Qp 3 rfl rfl rfl ?_
 refine zK (ZI rfl rfl zbV (fun hg=>by decide)) ?_
 refine zK (Qc rfl Ql (fun hg=>by exact QA.h0 rfl)) ?_
 refine zK (ZI rfl rfl zbV (fun hg=>by decide)) ?_
 refine zK (Qc rfl Ql (fun hg=>by exact QA.h0 rfl)) ?_
 refine zK (QD rfl rfl rfl) ?_
 refine Qy rfl rfl rfl rfl rfl ?_
 refine zM ?_
 refine Qp 10 rfl rfl rfl ?_
 refine zK (ZI rfl rfl zbV (fun hg=>by decide)) ?_
 refine zK (Qc rfl Ql (fun hg=>by exact QA.h0 rfl)) ?_
 refine zK (QD rfl rfl rfl) ?_
 refine Qy rfl rfl rfl rfl rfl ?_
 refine zA (zN (Qs ?_))
 exact zr rfl rfl (by rfl)
theorem zhs (I:Qt)(x:Pk):ZA Tryz.prog 125 [Xk x] I (.bool (pkV x)):=by
 intro g H w hw
 refine qe Tryz.func125 Tryz.ntmps125 hw ?_
 refine zR ?_
 refine QR rfl rfl rfl (fun b_1=>?_)
 refine zA ?_
 refine zN (zR ?_)
 refine zF zax ?_
 refine zL Ql ?_
 refine zF WU ?_
 refine zL Ql ?_
 refine qcV (vs:=[_,_]) rfl zk0 (zeZ _ _ _) ?_
 refine qcV (vs:=[_]) rfl zcR (zoe _ _ _) ?_
 refine zM ?_
 refine Qp 6 rfl rfl rfl ?_
 refine zK (Qa rfl zaw) ?_
 refine zK (Qc rfl Ux (fun hg=>by exact QA.h0 rfl)) ?_
 refine zK (Q4 rfl W7) ?_
 refine zK (QD rfl rfl rfl) ?_
 refine Qy rfl rfl rfl rfl rfl ?_
 refine zA (zN (Qs ?_))
 exact zr rfl rfl (by rfl)
theorem zqG (I:Qt)(x:Pk):ZA Tryz.prog 124 [Xk x] I (.bool (!pkV x)):=by
 intro g H w hw
 refine qe Tryz.func124 Tryz.ntmps124 hw ?_
 refine zR ?_
 refine QR rfl rfl rfl (fun b_1=>?_)
 refine zA ?_
 refine zN (zR ?_)
 refine zV (Qg rfl VT (fun hg=>by exact Cells.g0) rfl) ?_
 refine qcV (vs:=[_]) rfl zlA (zhs _ x) ?_
 refine zO ?_
 refine zA (zN (Qs ?_))
 exact zr rfl rfl (by rfl)
theorem zuI {I:Qt}{av:Option Addr}{n c:Nat}{xs:List Pk}(hS:Sl I 3 Zz av n c xs)(hn:n≤100000){fid:Nat}{cap:List Value}{P:Pk→Bool}(hF:Fun Tryz.prog fid)(hf:∀ x∈xs,ZA Tryz.prog fid ([Xk x]++cap) I (.bool (P x))):ZA Tryz.prog 182 [.slice av n c,.func (.func fid) #[] cap.toArray] I (.int .i64 (zoV P xs)):=by
 intro g H w hw
 refine qe Tryz.func182 Tryz.ntmps182 hw ?_
 refine zR (zA (zN (Qm (zR ?_))))
 refine zM ?_
 refine zQ Ze ?_
 refine zM (zN (Qw ?_))
 refine zU [(0,_),(1,_),(7,_)] (fun T L0 mz E I' loc'=>∃ (k:Nat),mz=n-k∧E=(8,.int .i64 k)::T∧I=I'∧L0=loc'∧k≤n∧(xs.take k).any P=false) ?_ (h:=⟨0,rfl,rfl,rfl,rfl,Nat.zero_le _,rfl⟩)
 rintro mz E I' loc' ⟨k,rfl,rfl,rfl,rfl,hk,hno⟩
 refine zR (zC (zN (Qm ?_)))
 refine zI ?_ ?_<;>intro hc9
 ·
  have hlt_k:k<n:=by have h:=hc9;simp at h;omega
  obtain ⟨x,hx⟩:=hS.at hlt_k
  refine Qr (Qd (Qm (Qw (zR (zM ?_)))))
  refine zA ?_
  refine zN (zR ?_)
  refine zM ?_
  refine zM ?_
  refine zM ?_
  refine zV (QG rfl rfl Ze (by assumption) (fun hg=>by omega)) ?_
  refine zV (Qg rfl VT (fun hg=>by exact zzn hS hx) rfl) ?_
  refine Vw (cap:=cap) (vs:=[_]) rfl rfl hF (hf x (List.mem_of_getElem? hx)) rfl rfl ?_
  refine zN ?_
  refine zI ?_ ?_<;>intro hc16
  ·
   refine zR (zM ?_)
   refine zA (zN (Qs (Qj (Qe (Qe (Qj (Qe ?_)))))))
   exact zr rfl rfl (by rw [zfA hno hx hc16])
  refine Qr (Qk (Qd (Qi (zB ?_))))
  refine zM (Qb ?_)
  exact zm (h:=⟨n-(k+1),by omega,k+1,rfl,rfl,rfl,rfl,by omega,zcz hx hno hc16⟩)
 have hge_k:n≤k:=by have h:=hc9;simp at h;omega
 refine Zi (Qo (Qo (Qz (Qd (zR (zA (zN ?_)))))))
 refine Qs ?_
 exact zr rfl rfl (by rw [zde hS.len hge_k hno])
theorem zvo {I:Qt}{av:Option Addr}{n c:Nat}{xs:List Pk}(hS:Sl I 3 Zz av n c xs)(hn:n≤100000){fid:Nat}{cap:List Value}{P:Pk→Bool}(hF:Fun Tryz.prog fid)(hf:∀ x∈xs,ZA Tryz.prog fid ([Xk x]++cap) I (.bool (P x))):ZA Tryz.prog 123 [.slice av n c,.func (.func fid) #[] cap.toArray] I (.bool (xs.any P)):=by
 intro g H w hw
 refine qe Tryz.func123 Tryz.ntmps123 hw ?_
 refine zR (zA ?_)
 refine zN (zR ?_)
 refine zM ?_
 refine zM ?_
 refine qcV (vs:=[_,_]) rfl zrc (zuI hS hn hF hf) ?_
 refine zC ?_
 refine zA (zN (Qs ?_))
 exact zr rfl rfl (by rw [←zfB])
theorem zvm {I:Qt}{av bv:Option Addr}{n c m d:Nat}{xs ys:List Int}(hS:Sl I 1 Z1 av n c xs)(hT:Sl I 1 Z1 bv m d ys)(hn:n≤100000)(hm:m≤100000):ZA Tryz.prog 127 [.slice av n c,.slice bv m d] I (.int .i64 (Uw xs ys)):=by
 intro g H w hw
 refine qe Tryz.func127 Tryz.ntmps127 hw ?_
 have hln:=hS.len
 have hlm:=hT.len
 refine zR (zA (zN (Qm (zR ?_))))
 refine zM ?_
 refine zQ ZE ?_
 refine zM (zN (Qw ?_))
 refine zU [(0,_),(1,_),(9,_),(10,_)] (fun T L0 mz E I' loc'=>∃ (k:Nat),mz=n-k∧E=(11,.int .i64 k)::T∧I=I'∧L0=loc'∧k≤n∧Uw xs ys=Uw (xs.drop k) (ys.drop k)) ?_ (h:=⟨0,rfl,rfl,rfl,rfl,Nat.zero_le _,rfl⟩)
 rintro mz E I' loc' ⟨k,rfl,rfl,rfl,rfl,hk,hI⟩
 refine zR (zC (zN (Qm ?_)))
 refine zI ?_ ?_<;>intro hc12
 ·
  have hlt_k:k<n:=by have h:=hc12;simp at h;omega
  obtain ⟨x,hx⟩:=hS.at hlt_k
  refine Qr (Qd (Qm (Qw (zR (zM ?_)))))
  refine zV (zX ZE hS) ?_
  refine zV (Qc rfl Ql (fun hg=>by exact zzf hS hx rfl)) ?_
  refine zA ?_
  refine zA (zN (Qm (zR ?_)))
  refine zM ?_
  refine zM ?_
  refine zQ ZE ?_
  refine zC (zN ?_)
  refine zI ?_ ?_<;>intro hc19
  ·
   have h19:m≤k:=by have h:=hc19;simp at h;omega
   refine zR (zA (zN (Qs (Qe (Qj (Qe (Qe ?_)))))))
   refine Qj (Qe ?_)
   exact zr rfl rfl (by rw [hI,zm1 hx (by omega)])
  have h19:k<m:=by have h:=hc19;simp at h;omega
  obtain ⟨y,hy⟩:=hT.at h19
  refine Qr (Qd (zR (zM ?_)))
  refine zM ?_
  refine zV (zX ZE hT) ?_
  refine zV (Qc rfl Ql (fun hg=>by exact zzf hT hy rfl)) ?_
  refine zA ?_
  refine zN (zR ?_)
  refine zM ?_
  refine zM ?_
  refine qcV (vs:=[_,_]) rfl zmA (zsr I _ _) ?_
  refine zA ?_
  refine zN (zR ?_)
  refine zM ?_
  refine zC (zN ?_)
  refine zI ?_ ?_<;>intro hc28
  ·
   refine zR (zM ?_)
   refine zA (zN (Qs (Qj (Qe (Qe (Qj (Qe ?_)))))))
   exact zr rfl rfl (by rw [hI,zmi hx hy (by simpa using hc28)])
  refine Qr (Qk (Qd (Qi (zB ?_))))
  refine zM (Qb ?_)
  exact zm (h:=⟨n-(k+1),by omega,k+1,rfl,rfl,rfl,rfl,by omega,hI.trans (zh0 hx hy (by simpa using hc28))⟩)
 have hge_k:n≤k:=by have h:=hc12;simp at h;omega
 refine Zi (Qo (Qo (Qz (Qd (Qm (zR (zM ?_)))))))
 refine zQ ZE ?_
 refine zM ?_
 refine zQ ZE ?_
 refine zC (zN ?_)
 refine zI ?_ ?_<;>intro hc35
 ·
  have h35:n<m:=by have h:=hc35;simp at h;omega
  refine zR (zA (zN (Qs (Qe ?_))))
  exact zr rfl rfl (by rw [hI,zm0 (by omega) (by omega)])
 have h35:m≤n:=by have h:=hc35;simp at h;omega
 refine Qr (Qd (zR (zA (zN (Qs ?_)))))
 exact zr rfl rfl (by rw [hI,zmY (by omega) (by omega)])
end
section
open Go Go.Kn Go.Proofs
theorem WD:AgT Tryz.prog 179 2:=.of (by kernel_rfl)
theorem zkM:ArT Tryz.prog 179 2 3 1:=.of (by kernel_rfl)
theorem Zg:QL Tryz.prog 26 0 0:=.of (by kernel_rfl)
theorem zdp:QL Tryz.prog 26 1 1:=.of (by kernel_rfl)
theorem zsf:Fun Tryz.prog 123:=.of Tryz.func123 (by kernel_rfl) (by kernel_rfl)
theorem ztQ:Fun Tryz.prog 124:=.of Tryz.func124 (by kernel_rfl) (by kernel_rfl)
theorem zrT:Fun Tryz.prog 127:=.of Tryz.func127 (by kernel_rfl) (by kernel_rfl)
theorem Zn:ScT Tryz.prog 23:=.of (by kernel_rfl)
theorem zmy:ScT Tryz.prog 24:=.of (by kernel_rfl)
theorem zeI:SlT Tryz.prog 24 179 2:=.of (by kernel_rfl)
theorem zsG:SzT Tryz.prog 179 2:=.of (by kernel_rfl)
theorem zwz:Y7 Tryz.prog 179 (.agg #[(.int .i64 0),(.int .i64 0)]):=.of (by kernel_rfl)
theorem zjM {I:Qt}{qa aa:Option Addr}{qn qc an ac:Nat}{qs:List Pk}{ks:List (Int×Int)}(hQ:Sl I 3 Zz qa qn qc qs)(hqn:qn≤100000)(hA:Sl I 2 KY aa an ac ks)(han:an≤100000):ZA Tryz.prog 60 [.agg #[.slice qa qn qc,.slice aa an ac]] I (.int .i64 (Uq qs ks)):=by
 intro g H w hw
 refine qe Tryz.func60 Tryz.ntmps60 hw ?_
 have hIc:=zzm I
 have hlq:=hQ.len
 have hla:=hA.len
 refine zR ?_
 refine QR rfl rfl rfl (fun b_1=>?_)
 refine zA (Qb ?_)
 refine QH .here (fun I1 hI1 hb1=>?_)
 have hQ:=hQ.mono hI1;have hA:=hA.mono hI1;have hIc:=hIc.trans hI1
 have h1:=BxI.of hb1
 refine Qd (Qm (zR ?_))
 refine zF Zg ?_
 refine zV (Qc rfl Zn (fun hg=>by exact QA.imm h1.out rfl)) ?_
 refine zQ Ze ?_
 refine zC ?_
 refine zM ?_
 refine QM 4 rfl rfl rfl ?_
 refine zJ (Qa rfl Zg) ?_
 refine zJ (Qc rfl Zn (fun hg=>by exact QA.imm h1.out rfl)) ?_
 refine qf (vs:=[_,_]) rfl zsf (fun hg=>zvo (P:=fun x=> !pkV x) hQ hqn ztQ (cap:=[]) (fun x _=>zqG _ x)) ?_
 refine Zb rfl rfl rfl rfl rfl ?_
 refine zN ?_
 refine zI ?_ ?_<;>intro hc13
 ·
  have h13:(decide ((qs.length:Int)>4096)||qs.any (fun x=> !pkV x))=true:=by rw [hlq];exact hc13
  refine zR (zA (zN (Qs (Qe ?_))))
  exact zp hIc rfl rfl (by rw [zn9 h13])
 have h13:(decide ((qs.length:Int)>4096)||qs.any (fun x=> !pkV x))=false:=by rw [hlq];exact hc13
 refine Qr (Qd (Qm (zR ?_)))
 refine zF zdp ?_
 refine zV (Qc rfl zmy (fun hg=>by exact QA.imm h1.out rfl)) ?_
 refine zQ zeI ?_
 refine zM (zN (Qw ?_))
 refine zU [(1,_),(15,_),(16,_)] (fun T L0 mz E I' loc'=>∃ (k:Nat),mz=an-k∧E=(17,.int .i64 k)::T∧HLe I1 I'∧L0=loc'∧k≤an∧(∀ j y,j<k→ks[j]? =some y→zhg (ks.take j) y=false)) ?_ (h:=⟨0,rfl,rfl,zzm _,rfl,Nat.zero_le _,fun j y h=>absurd h (Nat.not_lt_zero _)⟩)
 rintro mz E J2 loc' ⟨k,rfl,rfl,hJ,rfl,hk,hall⟩
 have hA:=hA.mono hJ;have h1:=h1.mono hJ;have hIc:=hIc.trans hJ
 have hB0:=hJ
 refine zR (zC (zN (Qm ?_)))
 refine zI ?_ ?_<;>intro hc18
 ·
  have hlt_k:k<an:=by have h:=hc18;simp at h;omega
  obtain ⟨x,hx⟩:∃ x,ks[k]? =some x:=⟨_,List.getElem?_eq_getElem (by omega)⟩
  refine Qr (Qd (Qm (Qw (zR (zM ?_)))))
  refine zV (zX zeI hA) ?_
  refine zV (Qg rfl WD (fun hg=>by exact zzn hA hx) rfl) ?_
  refine Qq zwz rfl rfl (fun b_4=>?_)
  refine zA ?_
  refine zh zsG ?_
  refine Qb ?_
  refine QH .here (fun I3 hI3 hb3=>?_)
  have hA:=hA.mono hI3;have h1:=h1.mono hI3;have hIc:=hIc.trans hI3;have hB0:=hB0.trans hI3
  have h4:=BxI.of hb3
  refine Qd (Qm ?_)
  rcases (show lkV x.1 x.2=false∨(lkV x.1 x.2=true∧k=0)∨(lkV x.1 x.2=true∧0<k) by cases lkV x.1 x.2<;>simp<;>omega) with hf | ⟨hf,hk⟩ | ⟨hf,hk⟩
  ·
   have hD:=zzm I3
   refine Zt ?_
   refine QQ I3 [] mixed ?_
   refine zT 0 rfl (Qg rfl WD (fun hg=>by exact BxI.cells (vs:=KY x) h4) rfl) hD ?_
   refine qd 1 rfl ?_
   refine qcV (vs:=[_]) rfl zcR (zoe _ x.1 x.2) ?_
   refine Qb ?_
   refine zD hD ?_
   refine zT 2 rfl (Zs rfl) hD ?_
   rw [hf]
   refine zT 3 rfl (Qf rfl) hD ?_
   refine zW 4 25 hD ?_
   refine zW 5 25 hD ?_
   refine zW 6 25 hD ?_
   refine zW 7 28 hD ?_
   refine zW 8 28 hD ?_
   refine zW 9 28 hD ?_
   refine zW 10 28 hD ?_
   refine zW 11 28 hD ?_
   refine zW 12 28 hD ?_
   refine zW 13 28 hD ?_
   refine zW 14 28 hD ?_
   refine zW 15 28 hD ?_
   refine zW 16 25 hD ?_
   refine zT 17 rfl (Y0 rfl rfl rfl) hD ?_
   refine Qn (by kernel_rfl) ?_
   refine Qx ?_
   refine Qd ?_
   refine zI ?_ ?_<;>intro hc39
   ·
    have hbad:=zll (pre:=ks.take k) hf
    refine zR (zA (zN (Qs (Qj (Qe (Qe (Qj ?_)))))))
    refine Qe ?_
    exact zp hIc rfl rfl (by rw [zhw h13 hx hbad])
   cases hc39
  ·
   have hk0:decide ((k:Int)>0)=false:=by simp;omega
   have hD:=zzm I3
   refine Zt ?_
   refine QQ I3 [] mixed ?_
   refine zT 0 rfl (Qg rfl WD (fun hg=>by exact BxI.cells (vs:=KY x) h4) rfl) hD ?_
   refine qd 1 rfl ?_
   refine qcV (vs:=[_]) rfl zcR (zoe _ x.1 x.2) ?_
   refine Qb ?_
   refine zD hD ?_
   refine zT 2 rfl (Zs rfl) hD ?_
   rw [hf]
   refine zT 3 rfl (Qf rfl) hD ?_
   refine zw 4 25 rfl (Qf rfl) hD ?_
   refine zw 5 25 rfl (QD rfl rfl rfl) hD ?_
   rw [hk0]
   refine zw 6 25 rfl (Qf rfl) hD ?_
   refine zW 7 28 hD ?_
   refine zW 8 28 hD ?_
   refine zW 9 28 hD ?_
   refine zW 10 28 hD ?_
   refine zW 11 28 hD ?_
   refine zW 12 28 hD ?_
   refine zW 13 28 hD ?_
   refine zW 14 28 hD ?_
   refine zW 15 28 hD ?_
   refine zw 16 25 rfl (Y0 rfl rfl rfl) hD ?_
   refine zT 17 rfl (Q5 rfl rfl rfl) hD ?_
   refine Qn (by kernel_rfl) ?_
   refine Qx ?_
   refine Qd ?_
   refine zI ?_ ?_<;>intro hc39
   ·
    cases hc39
   have hbad:zhg (ks.take k) x=false:=by rw [hk];exact zpl hf
   refine Qr (Qk (Qd (Qi (zB ?_))))
   refine zM (Qb ?_)
   exact zm (h:=⟨an-(k+1),by omega,k+1,rfl,rfl,hB0,rfl,by omega,VA hx hall hbad⟩)
  have hk0:decide ((k:Int)>0)=true:=by simp;omega
  obtain ⟨y,hy⟩:∃ y,ks[((k:Int)-1).toNat]? =some y:=⟨_,List.getElem?_eq_getElem (by omega)⟩
  have hB:Sl I3 1 Z1 (some ⟨b_4,0,none⟩) 2 2 [x.1,x.2]:=Sl.lit [x.1,x.2] rfl YF h4.out
  have hD:=zzm I3
  refine Zt ?_
  refine QQ I3 [] mixed ?_
  refine zT 0 rfl (Qg rfl WD (fun hg=>by exact BxI.cells (vs:=KY x) h4) rfl) hD ?_
  refine qd 1 rfl ?_
  refine qcV (vs:=[_]) rfl zcR (zoe _ x.1 x.2) ?_
  refine Qb ?_
  refine zD hD ?_
  refine zT 2 rfl (Zs rfl) hD ?_
  rw [hf]
  refine zT 3 rfl (Qf rfl) hD ?_
  refine zw 4 25 rfl (Qf rfl) hD ?_
  refine zw 5 25 rfl (QD rfl rfl rfl) hD ?_
  rw [hk0]
  refine zw 6 25 rfl (Qf rfl) hD ?_
  refine zw 7 28 rfl (Qa rfl zdp) hD ?_
  refine zw 8 28 rfl (Qc rfl zmy (fun hg=>by exact QA.imm h1.out rfl)) hD ?_
  refine zw 9 28 rfl (Qf rfl) hD ?_
  refine zw 10 28 rfl (Yz rfl rfl rfl (fun hg=>by omega)) hD ?_
  refine zw 11 28 rfl (zX zeI hA) hD ?_
  refine zw 12 28 rfl (zaP rfl zkM) hD ?_
  refine zw 13 28 rfl (zaP rfl zkM) hD ?_
  refine qd 14 rfl ?_
  refine QN (dj:=28) rfl rfl rfl ?_
  refine qcV (vs:=[_,_]) rfl zrT (zvm (zqQ hA hy) hB (by decide) (by decide)) ?_
  refine Qb ?_
  refine zD hD ?_
  refine zw 15 28 rfl (QD rfl rfl rfl) hD ?_
  refine zw 16 25 rfl (Q5 rfl rfl rfl) hD ?_
  refine zT 17 rfl (Q5 rfl rfl rfl) hD ?_
  refine Qn (by kernel_rfl) ?_
  refine Qx ?_
  refine Qd ?_
  refine zI ?_ ?_<;>intro hc39
  ·
   have hbad:zhg (ks.take k) x=true:=(zeh hf hk hy).trans hc39
   refine zR (zA (zN (Qs (Qj (Qe (Qe (Qj ?_)))))))
   refine Qe ?_
   exact zp hIc rfl rfl (by rw [zhw h13 hx hbad])
  have hbad:zhg (ks.take k) x=false:=(zeh hf hk hy).trans hc39
  refine Qr (Qk (Qd (Qi (zB ?_))))
  refine zM (Qb ?_)
  exact zm (h:=⟨an-(k+1),by omega,k+1,rfl,rfl,hB0,rfl,by omega,VA hx hall hbad⟩)
 have hge_k:an≤k:=by have h:=hc18;simp at h;omega
 refine Zi (Qo (Qo (Qz (Qd (zR (zA (zN ?_)))))))
 refine Qs ?_
 exact zp hIc rfl rfl (by rw [zjc h13 (fun j y hj hy=>hall j y (by omega) hy)])
end
section
open Go Go.Kn Go.Proofs
theorem ZM:AgT Tryz.prog 26 2:=.of (by kernel_rfl)
theorem zlg:Fun Tryz.prog 60:=.of Tryz.func60 (by kernel_rfl) (by kernel_rfl)
theorem JD:SzT Tryz.prog 99 3:=.of (by kernel_rfl)
theorem zcd:Y7 Tryz.prog 99 (.agg #[(.int .i64 0),(.int .i64 0),(.slice none 0 0)]):=.of (by kernel_rfl)
theorem zxC {I:Qt}{qa aa:Option Addr}{qn qc an ac:Nat}{qs:List Pk}{ks:List (Int×Int)}(hQ:Sl I 3 Zz qa qn qc qs)(hqn:qn≤100000)(hA:Sl I 2 KY aa an ac ks)(han:an≤100000)(i:Int):ZA Tryz.prog 177 [.agg #[.slice qa qn qc,.slice aa an ac],.int .i64 i] I (.tuple #[Xk (atP qs ks i),.int .i64 (atE qs ks i)]):=by
 intro g H w hw
 refine qe Tryz.func177 Tryz.ntmps177 hw ?_
 have hlq:=hQ.len
 refine zR ?_
 refine QR rfl rfl rfl (fun b_2=>?_)
 refine Qq zcd rfl rfl (fun b_4=>?_)
 refine zA (zN (Qm (zR ?_)))
 refine zV (Qg rfl ZM (fun hg=>by exact Cells.g1) rfl) ?_
 refine qcV (vs:=[_]) rfl zlg (zjM hQ hqn hA han) ?_
 refine zC (zN ?_)
 refine zI ?_ ?_<;>intro hc8
 ·
  have h1:=zy5 (i:=i) hc8
  refine zR ?_
  refine zV (Qg rfl VT (fun hg=>by exact Cells.g0) rfl) ?_
  refine zh JD ?_
  refine zA (zN (Qs (Qe ?_)))
  first
  | exact ZN rfl rfl rfl VT zzk rfl (fun w hw=>⟨by rw [h1.1,h1.2];rfl,hw.drop.drop⟩)
 refine Qr (Qd (Qm (zR (zM ?_))))
 refine zC ?_
 refine zM ?_
 refine QM 2 rfl rfl rfl ?_
 refine zJ (Qf rfl) ?_
 refine zJ (Qa rfl Zg) ?_
 refine zJ (Qc rfl Zn (fun hg=>by exact QA.h1 rfl)) ?_
 refine zJ (Q4 rfl Ze) ?_
 refine zJ (QD rfl rfl rfl) ?_
 refine Zb rfl rfl rfl rfl rfl ?_
 refine zN ?_
 refine zI ?_ ?_<;>intro hc18
 ·
  have h2:=zyD (i:=i) (ks:=ks) hc8 (by rw [hlq];exact hc18)
  refine zR ?_
  refine zV (Qg rfl VT (fun hg=>by exact Cells.g0) rfl) ?_
  refine zh JD ?_
  refine zA (zN (Qs (Qe ?_)))
  first
  | exact ZN rfl rfl rfl VT zzk rfl (fun w hw=>⟨by rw [h2.1,h2.2];rfl,hw.drop.drop⟩)
 have h18:0≤i∧i<(qn:Int):=by have h:=hc18;simp at h;omega
 obtain ⟨x,hx⟩:∃ y,qs[i.toNat]? =some y:=⟨_,List.getElem?_eq_getElem (by omega)⟩
 have h3:=zyv (i:=i) (ks:=ks) hc8 (by rw [hlq];exact hc18) hx
 refine Qr (Qd (zR ?_))
 refine zF Zg ?_
 refine zL Zn ?_
 refine zM ?_
 refine zV (zX Ze hQ) ?_
 refine zV (Qg rfl VT (fun hg=>by exact zzn hQ hx) rfl) ?_
 refine zh JD ?_
 refine zA (zN (Qs ?_))
 first
 | exact ZN rfl rfl rfl VT zzk rfl (fun w hw=>⟨by rw [h3.1,h3.2];rfl,hw.drop.drop⟩)
end
section
open Go Go.Kn Go.Proofs
theorem ZO:ElT Tryz.prog 23 99 3 40:=.of (by kernel_rfl)
theorem YW:SzT Tryz.prog 23 1:=.of (by kernel_rfl)
theorem Yp:SzT Tryz.prog 26 2:=.of (by kernel_rfl)
theorem UI:Y7 Tryz.prog 26 (.agg #[(.slice none 0 0),(.slice none 0 0)]):=.of (by kernel_rfl)
theorem zaW {I:Qt}{qa aa:Option Addr}{qn qc an ac:Nat}{qs:List Pk}{ks:List (Int×Int)}(hQ:Sl I 3 Zz qa qn qc qs)(hqn:qn≤100000)(hA:Sl I 2 KY aa an ac ks)(han:an≤100000){i:Int}(hi:0≤i∧i<(qn:Int)):Vl Tryz.prog 180 [.agg #[.slice qa qn qc,.slice aa an ac],.int .i64 i] I [] (fun v I' L'=>∃ a m c,v= .agg #[.slice a m c,.slice aa an ac]∧m+1=qn∧Sl I' 3 Zz a m c (qs.eraseIdx i.toNat)∧L'=[]):=by
 intro g H w hw
 refine qe Tryz.func180 Tryz.ntmps180 hw ?_
 have hIc:=zzm I
 have hlq:=hQ.len
 have hcq:=hQ.cap
 refine zR ?_
 refine QR rfl rfl rfl (fun b_2=>?_)
 refine Qq UI rfl rfl (fun b_4=>?_)
 refine zN (Qm ?_)
 have hD:=zzm I
 refine Zt ?_
 refine QQ I [] mixed ?_
 refine zT 0 rfl (Qa rfl Zg) hD ?_
 refine zT 2 rfl (Qf rfl) hD ?_
 refine zT 3 rfl (Qf rfl) hD ?_
 refine zT 5 rfl (Qa rfl Zg) hD ?_
 refine zT 7 rfl (Qf rfl) hD ?_
 refine zT 8 rfl (Yz rfl rfl rfl (fun hg=>by omega)) hD ?_
 refine QW 1 6 rfl rfl (by kernel_rfl) ?_ ?_
 ·
  refine zL Zn ?_
  refine Qb ?_
  refine zD hD ?_
  refine zT 4 rfl (Zm rfl rfl rfl Ze (fun hg=>by omega)) hD ?_
  refine qd 6 rfl ?_
  refine zL Zn ?_
  refine Qb ?_
  refine zD hD ?_
  refine zT 9 rfl (Ve rfl rfl Ze (fun hg=>by omega)) hD ?_
  refine qd 10 rfl ?_
  refine X2 Zu (by decide) rfl rfl ZO ((hQ.take (k:=i.toNat) (by omega)).cut) (hQ.drop (k:=(i+1).toNat) (by omega)) (by omega) rfl rfl ?_
  intro I1 ac cc hI1 hZ
  have hIc:=hIc.trans hI1;have hD:=hD.trans hI1
  refine Qb ?_
  refine zD hD ?_
  refine zT 11 rfl (Qa rfl Zg) hD ?_
  refine qd 12 rfl ?_
  refine zS YW ?_
  refine Qb ?_
  refine zD hD ?_
  refine Qn (by kernel_rfl) ?_
  refine Qx ?_
  refine Qd (zR ?_)
  refine zV (Qg rfl ZM (fun hg=>by exact Cells.g1) rfl) ?_
  refine zh Yp ?_
  refine zN (Qs ?_)
  exact ZX rfl rfl ZM zzk rfl (fun w hw=>⟨_,I1,[],rfl,hIc,hw.drop.drop,_,_,_,rfl,by omega,by rw [List.eraseIdx_eq_take_drop_succ,show i.toNat+1=(i+1).toNat by omega];exact hZ,rfl⟩)
 refine zL Zn ?_
 refine Qb ?_
 refine zD hD ?_
 refine zT 9 rfl (Ve rfl rfl Ze (fun hg=>by omega)) hD ?_
 refine qd 1 rfl ?_
 refine zL Zn ?_
 refine Qb ?_
 refine zD hD ?_
 refine zT 4 rfl (Zm rfl rfl rfl Ze (fun hg=>by omega)) hD ?_
 refine qd 10 rfl ?_
 refine X2 Zu (by decide) rfl rfl ZO ((hQ.take (k:=i.toNat) (by omega)).cut) (hQ.drop (k:=(i+1).toNat) (by omega)) (by omega) rfl rfl ?_
 intro I2 ac cc hI2 hZ
 have hIc:=hIc.trans hI2;have hD:=hD.trans hI2
 refine Qb ?_
 refine zD hD ?_
 refine zT 11 rfl (Qa rfl Zg) hD ?_
 refine qd 12 rfl ?_
 refine zS YW ?_
 refine Qb ?_
 refine zD hD ?_
 refine Qn (by kernel_rfl) ?_
 refine Qx ?_
 refine Qd (zR ?_)
 refine zV (Qg rfl ZM (fun hg=>by exact Cells.g1) rfl) ?_
 refine zh Yp ?_
 refine zN (Qs ?_)
 exact ZX rfl rfl ZM zzk rfl (fun w hw=>⟨_,I2,[],rfl,hIc,hw.drop.drop,_,_,_,rfl,by omega,by rw [List.eraseIdx_eq_take_drop_succ,show i.toNat+1=(i+1).toNat by omega];exact hZ,rfl⟩)
end
section
open Go Go.Kn Go.Proofs
theorem zfC:Fun Tryz.prog 177:=.of Tryz.func177 (by kernel_rfl) (by kernel_rfl)
theorem zfM:Fun Tryz.prog 180:=.of Tryz.func180 (by kernel_rfl) (by kernel_rfl)
theorem zte:Fun Tryz.prog 228:=.of Tryz.func228 (by kernel_rfl) (by kernel_rfl)
theorem zpZ {I:Qt}{qa aa:Option Addr}{qn qc an ac:Nat}{qs:List Pk}{ks:List (Int×Int)}(hQ:Sl I 3 Zz qa qn qc qs)(hqn:qn≤100000)(hA:Sl I 2 KY aa an ac ks)(han:an≤100000)(i:Int):Vl Tryz.prog 114 [.agg #[.slice qa qn qc,.slice aa an ac],.int .i64 i] I [] (fun v I' L'=>∃ a m c a2 m2 c2,v= .tuple #[.agg #[.slice a m c,.slice a2 m2 c2],.int .i64 (atE qs ks i)]∧L'=[]∧ziE I' (atE qs ks i) a m c a2 m2 c2 (qs.eraseIdx i.toNat) aa an ac):=by
 intro g H w hw
 refine qe Tryz.func114 Tryz.ntmps114 hw ?_
 have hIc:=zzm I
 refine zR ?_
 refine QR rfl rfl rfl (fun b_2=>?_)
 refine Qq UI rfl rfl (fun b_4=>?_)
 refine zA (zN (Qm (zR ?_)))
 refine zV (Qg rfl ZM (fun hg=>by exact Cells.g1) rfl) ?_
 refine zM ?_
 refine qcV (vs:=[_,_]) rfl zfC (zxC hQ hqn hA han i) ?_
 refine zM ?_
 refine zE ?_
 refine zE ?_
 refine zA ?_
 refine zN (zR ?_)
 refine zM ?_
 refine zC (zN ?_)
 refine zI ?_ ?_<;>intro hc13
 ·
  have he:atE qs ks i≠0:=by simpa using hc13
  refine zR ?_
  refine zV (Qg rfl ZM (fun hg=>by exact Cells.g0) rfl) ?_
  refine zM ?_
  refine zh Yp ?_
  refine zA (zN (Qs (Qe ?_)))
  exact ZN rfl rfl rfl ZM zzk rfl (fun w hw=>⟨_,I,[],rfl,hIc,hw.drop.drop,_,_,_,_,_,_,rfl,rfl,Xt he⟩)
 have he:atE qs ks i=0:=by simpa using hc13
 have hr:0≤i∧i<(qn:Int):=by have h:=zcH he;rw [hQ.len] at h;exact h
 refine Qr (Qd (zR ?_))
 refine zV (Qg rfl ZM (fun hg=>by exact Cells.g1) rfl) ?_
 refine zM ?_
 refine zpc [_,_] rfl zfM .nil (zaW hQ hqn hA han hr) ?_
 rintro vv1 I1 L1 hI1 ⟨a4,m4,c4,rfl,hm4,hZ,rfl⟩
 have hIc:=hIc.trans hI1
 refine zh Yp ?_
 refine zA (zN (Qs ?_))
 exact ZN rfl rfl rfl ZM zzk rfl (fun w hw=>⟨_,I1,[],rfl,hIc,hw.drop.drop,_,_,_,_,_,_,by rw [he],rfl,zdz he hZ⟩)
theorem zxt {I:Qt}{av:Option Addr}{n c:Nat}{ks:List (Int×Int)}(hS:Sl I 2 KY av n c ks)(hn:n≤100000)(v:Int×Int):ZA Tryz.prog 228 [.slice av n c,.agg #[.int .i64 v.1,.int .i64 v.2]] I (.int .i64 (zoV (zxh v) ks)):=by
 intro g H w hw
 refine qe Tryz.func228 Tryz.ntmps228 hw ?_
 refine zR ?_
 refine QR rfl rfl rfl (fun b_3=>?_)
 refine zA (zN (Qm (zR ?_)))
 refine zM ?_
 refine zQ zeI ?_
 refine zM (zN (Qw ?_))
 refine zU [(0,_),(3,_),(7,_)] (fun T L0 mz E I' loc'=>∃ (k:Nat),mz=n-k∧E=(8,.int .i64 k)::T∧I=I'∧[(b_3,.cells #[.int .i64 v.1,.int .i64 v.2] 179 (0,0))]=loc'∧k≤n∧(ks.take k).any (zxh v)=false) ?_ (h:=⟨0,rfl,rfl,rfl,rfl,Nat.zero_le _,rfl⟩)
 rintro mz E I' loc' ⟨k,rfl,rfl,rfl,rfl,hk,hno⟩
 refine zR (zC (zN (Qm ?_)))
 refine zI ?_ ?_<;>intro hc9
 ·
  have hlt_k:k<n:=by have h:=hc9;simp at h;omega
  obtain ⟨x,hx⟩:=hS.at hlt_k
  refine Qr (Qd (Qm (Qw (zR (zM ?_)))))
  refine zA (zN (Qm ?_))
  have hD:=zzm I
  refine Zt ?_
  refine QQ I [(b_3,.cells #[.int .i64 v.1,.int .i64 v.2] 179 (0,0))] mixed ?_
  refine zT 0 rfl (Qg rfl WD (fun hg=>by exact Cells.g0) rfl) hD ?_
  refine zT 1 rfl (Qf rfl) hD ?_
  refine zT 2 rfl (Qf rfl) hD ?_
  refine zT 3 rfl (zX zeI hS) hD ?_
  refine zT 4 rfl (Qg rfl WD (fun hg=>by exact zzn hS hx) rfl) hD ?_
  refine zT 5 rfl (ztR rfl rfl zrE) hD ?_
  refine Qn (by kernel_rfl) ?_
  refine Qx ?_
  refine Qd ?_
  refine zI ?_ ?_<;>intro hc16
  ·
   refine zR (zM ?_)
   refine zA (zN (Qs (Qj (Qe (Qe (Qj (Qe ?_)))))))
   exact zr rfl rfl (by rw [zfA hno hx hc16])
  refine Qr (Qk (Qd (Qi (zB ?_))))
  refine zM (Qb ?_)
  exact zm (h:=⟨n-(k+1),by omega,k+1,rfl,rfl,rfl,rfl,by omega,zcz hx hno hc16⟩)
 have hge_k:n≤k:=by have h:=hc9;simp at h;omega
 refine Zi (Qo (Qo (Qz (Qd (zR (zA (zN ?_)))))))
 refine Qs ?_
 exact zr rfl rfl (by rw [zde hS.len hge_k hno])
theorem zyg {I:Qt}{av:Option Addr}{n c:Nat}{ks:List (Int×Int)}(hS:Sl I 2 KY av n c ks)(hn:n≤100000)(v:Int×Int):ZA Tryz.prog 178 [.slice av n c,.agg #[.int .i64 v.1,.int .i64 v.2]] I (.bool (ks.any (zxh v))):=by
 intro g H w hw
 refine qe Tryz.func178 Tryz.ntmps178 hw ?_
 refine zR ?_
 refine QR rfl rfl rfl (fun b_3=>?_)
 refine zA ?_
 refine zN (zR ?_)
 refine zM ?_
 refine zV (Qg rfl WD (fun hg=>by exact Cells.g0) rfl) ?_
 refine qcV (vs:=[_,_]) rfl zte (zxt hS hn v) ?_
 refine zC ?_
 refine zA (zN (Qs ?_))
 exact zr rfl rfl (by rw [←zfB])
end
end Go.Proofs.YtjblkbkmblkgoaaGreat
