/- partiesWorldSpec_holds, part D of the proof: what its theorems say holds without further conditions. -/
import Derived.Lib.SlicesCompact
import Derived.Lib.RowBridge
import Derived.Shelf.Small.Bits
import Derived.Shelf.Small.Strs
import Derived.Shelf.Small.Wraps
import Derived.Shelf.Strconv.Itoa0
import Derived.Shelf.Sort.Plain
import Derived.Ground.Names2Prog
import Derived.Shelf.Slices.SearchI
import Derived.Shelf.Slices.In.SortNone
import Derived.Ground.SlgnProg
import Derived.Shelf.SlicesE.Clone
import Derived.Shelf.SlicesQ.Reverse
import Derived.Ground.SlsfProg
import Derived.Shelf.SlSortCmp.InsertionK
import Derived.Shelf.SlSortCmp.SiftDownK
import Derived.Shelf.SlSortCmp.HeapSortK
import Derived.Shelf.SlSortCmp.MedianK
import Derived.Shelf.SlSortCmp.PivotK
import Derived.Shelf.SlSortCmp.ReverseRangeK
import Derived.Shelf.SlSortCmp.PartialInsertionK
import Derived.Shelf.SlSortCmp.PartitionEqualK
import Derived.Shelf.SlSortCmp.PartitionK
import Derived.Shelf.SlSortCmp.PdqK
import Derived.Shelf.SlSortCmp.WholeK
import Derived.Shelf.SlSortCmp.NoneTotal
import Derived.Test.YtjblkbkmblkgoaaGreatProg
import Derived.Test.YtjblkbkmblkgoaaGreatWSC
namespace Go.Proofs.YtjblkbkmblkgoaaGreat.S
section
open Go Go.Kn Go.Proofs
theorem zm3 (I:Qv)(x:Rt)(r:Nat)(bs:List (Int×Rt))(hm:ZD bs (w64 (x.ends-1))=none):zon Tryz.prog 167 [encA x,.map (some r)] I [(r,Yw (.int .i64) encA bs)] (.bool (voidF x bs)):=by
 intro g H w hw;refine enter Tryz.func167 rfl Tryz.ntmps167 rfl hw<|zR<|QQ rfl rfl rfl (fun b_2=>zA<|zN (zR ?_))
 refine zM<|zF Vm ?_
 refine zV (Qd rfl Qn (fun hg=>by exact Qz.h0 rfl))<|zV (UU rfl rfl rfl)<|zV (zfu hm Wb Zc rfl rfl (fun _=>(by exact Mem.m1)))<|zM ?_
 refine zE ?_;refine zE ?_;refine Qt za2 rfl rfl (fun b_5=>?_);refine VV rfl rfl Uo rfl rfl rfl rfl kT ?_;refine zA ?_;refine zN (zR ?_);refine zM ?_;refine zM<|Qu 1 rfl rfl rfl ?_
 refine zK (Qa rfl V5) ?_;refine zK (Qd rfl Qn (fun hg=>by exact Qz.h0 rfl))<|zK (QE rfl rfl rfl) ?_
 refine QD rfl rfl rfl rfl rfl<|zM<|Qu 6 rfl rfl rfl ?_
 refine zK (Qa rfl YG) ?_;refine zK (Qd rfl Qn (fun hg=>by exact Qz.h0 rfl))<|zK (Qa rfl YG) ?_
 refine zK (Qd rfl Qn (fun hg=>by exact Qz.h1 rfl))<|zK (QE rfl rfl rfl) ?_
 refine QD rfl rfl rfl rfl rfl ?_;refine zM ?_;refine Qu 13 rfl rfl rfl ?_;refine zK (Qg rfl YE (fun hg=>by exact Cells.g1) rfl) ?_;refine zK (Qa rfl YT) ?_;refine zK (Qd rfl Qn (fun hg=>by exact Qz.h1 rfl))<|zK (Qa rfl V5) ?_
 refine zK (Qd rfl Qn (fun hg=>by exact Qz.h1 rfl))<|zK (Qa rfl Vm) ?_
 refine zK (Qd rfl Qn (fun hg=>by exact Qz.h1 rfl))<|zK (Qa rfl YG) ?_
 refine zK (Qd rfl Qn (fun hg=>by exact Qz.h1 rfl))<|zK (QF (ps:=[(0,_),(1,_),(5,_),(10,_)]) [_,_,_,_,_,_,_,_,_,_,_] WM rfl rfl)<|zK (U6 rfl rfl XL rfl)<|QD rfl rfl rfl rfl rfl<|zA<|zN<|Qs ?_
 exact QA rfl rfl (fun w hw=>⟨by simp [voidF,hm],hw.subL (.drop (.drop .refl))⟩)
variable{old:Rt}
theorem zj1 (I:Qv)(x:Rt)(r:Nat)(bs:List (Int×Rt))(hm:ZD bs (w64 (x.ends-1))=some old):zon Tryz.prog 167 [encA x,.map (some r)] I [(r,Yw (.int .i64) encA bs)] (.bool (voidF x bs)):=by
 intro g H w hw;refine enter Tryz.func167 rfl Tryz.ntmps167 rfl hw<|zR<|QQ rfl rfl rfl (fun b_2=>zA<|zN (zR ?_))
 refine zM<|zF Vm ?_
 refine zV (Qd rfl Qn (fun hg=>by exact Qz.h0 rfl))<|zV (UU rfl rfl rfl)<|zV (zfw hm Wb Zc rfl rfl (fun _=>(by exact Mem.m1)))<|zM ?_
 refine zE ?_;refine zE ?_;refine Qt za2 rfl rfl (fun b_5=>?_);refine VV rfl rfl Uo rfl rfl rfl rfl kT ?_;refine zA ?_;refine zN (zR ?_);refine zM ?_;refine zM<|Qu 1 rfl rfl rfl ?_
 refine zK (Qa rfl V5) ?_;refine zK (Qd rfl Qn (fun hg=>by exact Qz.h0 rfl))<|zK (QE rfl rfl rfl) ?_
 refine QD rfl rfl rfl rfl rfl<|zM<|Qu 6 rfl rfl rfl ?_
 refine zK (Qa rfl YG) ?_;refine zK (Qd rfl Qn (fun hg=>by exact Qz.h0 rfl))<|zK (Qa rfl YG) ?_
 refine zK (Qd rfl Qn (fun hg=>by exact Qz.h1 rfl))<|zK (QE rfl rfl rfl) ?_
 refine QD rfl rfl rfl rfl rfl ?_;refine zM ?_;refine Qu 13 rfl rfl rfl ?_;refine zK (Qg rfl YE (fun hg=>by exact Cells.g1) rfl) ?_;refine zK (Qa rfl YT) ?_;refine zK (Qd rfl Qn (fun hg=>by exact Qz.h1 rfl))<|zK (Qa rfl V5) ?_
 refine zK (Qd rfl Qn (fun hg=>by exact Qz.h1 rfl))<|zK (Qa rfl Vm) ?_
 refine zK (Qd rfl Qn (fun hg=>by exact Qz.h1 rfl))<|zK (Qa rfl YG) ?_
 refine zK (Qd rfl Qn (fun hg=>by exact Qz.h1 rfl))<|zK (QF (ps:=[(0,_),(1,_),(5,_),(10,_)]) [_,_,_,_,_,_,_,_,_,_,_] WM rfl rfl)<|zK (U6 rfl rfl XL rfl)<|QD rfl rfl rfl rfl rfl<|zA<|zN<|Qs ?_
 exact QA rfl rfl (fun w hw=>⟨by simp [voidF,zeroR,rtEq,hm],hw.subL (.drop (.drop .refl))⟩)
theorem zzP (I:Qv)(x:Rt)(r:Nat)(bs:List (Int×Rt)):zon Tryz.prog 167 [encA x,.map (some r)] I [(r,Yw (.int .i64) encA bs)] (.bool (voidF x bs)):=by
 cases hm:ZD bs (w64 (x.ends-1)) with
 | none=>exact zm3 I x r bs hm
 | some old=>exact zj1 I x r bs hm
def evF (k:Nat):Value:=.func (.func k) #[] #[]
def WO:List (Int×Nat):=[(1,164),(2,166),(3,166),(4,167)]
theorem zxb (I:Qv):Y7 Tryz.prog 100 [] I [] (fun v I' L=>∃ r,v= .map (some r)∧I'=I∧L=[(r,Yw (.int .i64) evF WO)]):=by
 intro g H w hw;refine enter Tryz.func100 rfl Tryz.ntmps100 rfl hw<|zR<|zA<|zN (zR<|Yf rfl rfl (fun r_1=>We (m:=[]) (ev:=evF) 164 zct Zc rfl rfl rfl rfl kT<|We 166 zct Zc rfl rfl rfl rfl kT<|We 166 zct Zc rfl rfl rfl rfl kT<|We 167 zct Zc rfl rfl rfl rfl kT<|zM<|zA<|zN ?_))
 refine Qs ?_;exact QA rfl rfl (fun w hw=>⟨_,I,_,rfl,zCA _,hw,r_1,rfl,rfl,rfl⟩)
variable{k:Int}{f:Nat}
theorem zq7 (h:ZD WO k=some f):Fun Tryz.prog f:=by
 simp only [WO,ZD] at h;split at h
 ·
  cases h;exact zuA
 ·
  split at h
  ·
   cases h;exact zos
  ·
   split at h
   ·
    cases h;exact zos
   ·
    split at h
    ·
     cases h;exact zv1
    ·
     cases h
theorem za5 (k:Int):(ZD WO k).isSome=zc7 k:=by
 simp only [WO,ZD,zc7];by_cases h1:k=1
 ·
  subst h1;rfl
 ·
  by_cases h2:k=2
  ·
   subst h2;rfl
  ·
   by_cases h3:k=3
   ·
    subst h3;rfl
   ·
    by_cases h4:k=4
    ·
     subst h4;rfl
    ·
     simp [h1,h2,h3,h4,Ne.symm h1,Ne.symm h2,Ne.symm h3,Ne.symm h4]
theorem zAC (h:ZD WO k=some f)(I:Qv)(x:Rt)(r:Nat)(bs:List (Int×Rt)):zon Tryz.prog f [encA x,.map (some r)] I [(r,Yw (.int .i64) encA bs)] (.bool (askF k x bs)):=by
 simp only [WO,ZD] at h;split at h
 ·
  rename_i e;cases h;subst e;exact (zz3 I x _).k _
 ·
  split at h
  ·
   rename_i e;cases h;subst e;exact (zdr I x _).k _
  ·
   split at h
   ·
    rename_i e;cases h;subst e;exact (zdr I x _).k _
   ·
    split at h
    ·
     rename_i e;cases h;subst e;exact zzP I x r bs
    ·
     cases h
variable{I:Qv}{av:Option Addr}{n c i:Nat}{xs:List Rt}{x:Rt}
theorem zzE (hS:Sl I 11 encR av n c xs)(hn:n≤100000)(hx:xs[i]? =some x):ZF Tryz.prog 196 [.slice av n c,.int .i64 i] I (.bool (zgS (xs.take i) x)):=by
 intro g H w hw;refine enter Tryz.func196 rfl Tryz.ntmps196 rfl hw<|Qm ?_
 have hi:i<n:=(by have:=(List.getElem?_eq_some_iff.1 hx).1;rw [hS.len] at this;exact this);refine Qh<|zA<|zN ?_
 refine zqz (fun E I' loc'=>E=[(0,.slice av n c),(1,.int .i64 i)]∧I'=I∧loc'=[]∧zgS (xs.take i) x=false) ?_ ?_
 ·
  refine zR<|zA<|zN<|Qr<|zhT (fun m E I' loc'=>∃ k:Nat,m=i-k∧E=[(0,.slice av n c),(1,.int .i64 i),(5,.int .i64 k)]∧I'=I∧loc'=[]∧k≤i∧(xs.take k).any (fun y=>(w64 (y.no+1)==x.ends)&&(y.kind != 4)&&decide (y.known≤x.known))=false) _ _ _ _ ⟨0,rfl,rfl,rfl,rfl,Nat.zero_le _,rfl⟩ (.cons rfl (.cons rfl (.cons rfl .nil))) (zCA _) rfl ?_
  rintro m E I' loc' ⟨k,rfl,rfl,rfl,rfl,hk,hinv⟩;refine Qm<|zR ?_
  refine zM ?_;refine zM<|zC<|zN ?_
  refine zI ?_ ?_<;>intro hc8
  ·
   have hlt:k<i:=(by simpa using hc8);obtain ⟨y,hy⟩:=hS.at (show k<n by omega);refine Qp<|Qc<|Qm<|Qr<|Qm<|Kq mixed kA<|Ui (Qe rfl) rfl rfl rfl<|Ui (Qe rfl) rfl rfl rfl<|Ui (QC rfl rfl Z0 kH (fun hg=>kB)) rfl rfl rfl<|Ui (Qa rfl YT) rfl rfl rfl<|Ui (Qd rfl Qn (fun hg=>by exact zCC hS hy rfl)) rfl rfl rfl<|Ui (UU rfl rfl rfl) rfl rfl rfl ?_
   refine Ui (Qe rfl) rfl rfl rfl<|Ui (Qe rfl) rfl rfl rfl<|Ui (QC rfl rfl Z0 kH (fun hg=>kB)) rfl rfl rfl<|Ui (Qa rfl Vm) rfl rfl rfl<|Ui (Qd rfl Qn (fun hg=>by exact zCC hS hx rfl)) rfl rfl rfl<|Ui (QE rfl rfl rfl) rfl rfl rfl<|Ui (Qe rfl) rfl rfl rfl<|Vw 12 rfl rfl rfl<|VG (Qe rfl) (.some rfl rfl rfl rfl gbt) rfl rfl rfl<|VG (Qe rfl) (.some rfl rfl rfl rfl gbt) rfl rfl rfl<|VG (QC rfl rfl Z0 kH (fun hg=>kB)) (.some rfl rfl rfl rfl gbt) rfl rfl rfl<|VG (Qa rfl V5) (.some rfl rfl rfl rfl gbt) rfl rfl rfl ?_
   refine VG (Qd rfl Qn (fun hg=>by exact zCC hS hy rfl)) (.some rfl rfl rfl rfl gbt) rfl rfl rfl<|VG (QE rfl rfl rfl) (.some rfl rfl rfl rfl gbt) rfl rfl rfl<|UA rfl rfl rfl rfl rfl<|Ui (Qe rfl) rfl rfl rfl<|Vw 20 rfl rfl rfl<|VG (Qe rfl) (.some rfl rfl rfl rfl gbt) rfl rfl rfl<|VG (Qe rfl) (.some rfl rfl rfl rfl gbt) rfl rfl rfl<|VG (QC rfl rfl Z0 kH (fun hg=>kB)) (.some rfl rfl rfl rfl gbt) rfl rfl rfl<|VG (Qa rfl YG) (.some rfl rfl rfl rfl gbt) rfl rfl rfl<|VG (Qd rfl Qn (fun hg=>by exact zCC hS hy rfl)) (.some rfl rfl rfl rfl gbt) rfl rfl rfl<|VG (Qe rfl) (.some rfl rfl rfl rfl gbt) rfl rfl rfl<|VG (Qe rfl) (.some rfl rfl rfl rfl gbt) rfl rfl rfl ?_
   refine VG (QC rfl rfl Z0 kH (fun hg=>kB)) (.some rfl rfl rfl rfl gbt) rfl rfl rfl<|VG (Qa rfl YG) (.some rfl rfl rfl rfl gbt) rfl rfl rfl<|VG (Qd rfl Qn (fun hg=>by exact zCC hS hx rfl)) (.some rfl rfl rfl rfl gbt) rfl rfl rfl<|VG (QE rfl rfl rfl) (.some rfl rfl rfl rfl gbt) rfl rfl rfl<|UA rfl rfl rfl rfl rfl<|Kt<|Qc ?_
   refine zI ?_ ?_<;>intro hc43
   ·
    exact zR<|zA<|zN<|Qs<|Qj<|Qf<|Qf<|Qj<|Qf<|QA rfl rfl (fun w hw=>⟨by (rw [show zgS (xs.take i) x=true from zfq hy hlt hc43]),hw.drop⟩)
   ·
    refine Qp<|Qi<|Qc<|Qh ?_
    refine zM ?_;refine zV (Yr rfl rfl rfl (fun _=>kB)) ?_;exact zA<|Qb<|W5 _ ⟨i-(k+1),kB,k+1,rfl,rfl,rfl,rfl,kB,zbm hy hinv hc43⟩ (.cons rfl (.cons rfl (.cons rfl .nil)))
  ·
   have hge:i≤k:=(by simpa using hc8);refine Q6<|Ql<|Ql<|Qq ?_
   exact W5 _ ⟨rfl,rfl,rfl,by rw [show i=k from by omega];exact hinv⟩ (.cons rfl (.cons rfl .nil))
 ·
  rintro E I' loc' ⟨rfl,rfl,rfl,hfin⟩;refine zR<|zA<|zN<|Qs ?_
  exact QA rfl rfl (fun w hw=>⟨by (rw [hfin]),hw.drop⟩)
theorem zg2 (hS:Sl I 11 encR av n c xs)(hn:n≤100000)(hx:xs[i]? =some x):ZF Tryz.prog 149 [.slice av n c,.int .i64 i] I (.bool (WL xs i)):=by
 intro g H w hw;refine enter Tryz.func149 rfl Tryz.ntmps149 rfl hw<|Qm ?_
 have hi:i<n:=(by have:=(List.getElem?_eq_some_iff.1 hx).1;rw [hS.len] at this;exact this);obtain ⟨y,hy⟩:=hS.at (show ((i:Int)-1).toNat<n by omega);have hright:WL xs i=Jo i (xs.take i) y x:=(by unfold WL zc4;rw [hx,hy];rfl);have Hright:=Lib.hid hright;clear hright;refine Qh<|zA<|zN (zR ?_)
 refine zM ?_;refine zM ?_;refine zV (QC rfl rfl Z0 kH (fun hg=>kB)) ?_;refine zV (Qg rfl YE (fun hg=>by exact zCB hS hx) rfl)<|Qt za2 rfl rfl (fun b_5=>?_)
 refine VV rfl rfl Uo rfl rfl rfl rfl kT<|zN<|Qm<|Qm<|Kq mixed kA<|Ui (Qa rfl YT) rfl rfl rfl<|Ui (Qd rfl Qn (fun hg=>by exact Qz.h0 rfl)) rfl rfl rfl<|Wh (cap:=[]) (vs:=[_,_,_]) rfl rfl KQ (Yn I _ _ _) rfl rfl<|Ui (Zy rfl) rfl rfl rfl<|Ui (Qe rfl) rfl rfl rfl<|Vx 4 rfl rfl rfl<|VG (Qe rfl) (.some rfl rfl rfl rfl gbf) rfl rfl rfl ?_
 refine VG (QE rfl rfl rfl) (.some rfl rfl rfl rfl gbf) rfl rfl rfl<|VG (Qe rfl) (.some rfl rfl rfl rfl gbf) rfl rfl rfl<|Vw 7 rfl rfl rfl<|VG (Qa rfl YT) (.some rfl rfl rfl rfl gbt) rfl rfl rfl<|VG (Qd rfl Qn (fun hg=>by exact Qz.h0 rfl)) (.some rfl rfl rfl rfl gbt) rfl rfl rfl<|VG (Qe rfl) (.some rfl rfl rfl rfl gbt) rfl rfl rfl<|VG (Qe rfl) (.some rfl rfl rfl rfl gbt) rfl rfl rfl<|VG (Yr rfl rfl rfl (fun _=>kB)) (.some rfl rfl rfl rfl gbt) rfl rfl rfl<|VG (QC rfl rfl Z0 kH (fun hg=>by (simp [Z6] at hg;omega))) (.some rfl rfl rfl rfl gbt) rfl rfl rfl<|VG (Qa rfl YT) (.some rfl rfl rfl rfl gbt) rfl rfl rfl<|VG (Qd rfl Qn (fun hg=>by exact zCC hS (k:=((i:Int)-1).toNat) hy rfl)) (.some rfl rfl rfl rfl gbt) rfl rfl rfl<|VG (QE rfl rfl rfl) (.some rfl rfl rfl rfl gbt) rfl rfl rfl ?_
 refine zcr rfl rfl rfl (.some rfl rfl rfl rfl gbf) rfl rfl<|KY rfl rfl rfl rfl rfl<|Ui (Qe rfl) rfl rfl rfl<|Vx 19 rfl rfl rfl<|VG (Qa rfl YG) (.some rfl rfl rfl rfl gbf) rfl rfl rfl<|VG (Qd rfl Qn (fun hg=>by exact Qz.h0 rfl)) (.some rfl rfl rfl rfl gbf) rfl rfl rfl<|Jn (cap:=[]) (vs:=[_,_,_]) rfl rfl KQ (fun hg=>Yn I _ _ _) (.some rfl rfl rfl rfl gbf) rfl rfl<|VG (Zy rfl) (.some rfl rfl rfl rfl gbf) rfl rfl rfl<|KY rfl rfl rfl rfl rfl<|Kt<|Qc ?_
 refine zI ?_ ?_<;>intro hc34
 ·
  refine zR<|zA<|zN<|Qs<|Qf ?_
  exact QA rfl rfl (fun w hw=>⟨by rw [Hright.out];first | (simp only [Jo,WR,WE, *,if_true];done) | (simp only [Jo,WR,WE, *,if_true,if_false,Bool.false_eq_true];rfl),hw.drop⟩)
 ·
  refine Qp<|Qc<|Qm<|zR<|zF V5 ?_
  refine zV (Qd rfl Qn (fun hg=>by exact Qz.h0 rfl))<|zN<|Qr<|zR<|zC<|zA<|zN ?_
  refine zI ?_ ?_<;>intro hc37
  ·
   refine zR<|zV (Qg rfl YE (fun hg=>by exact Cells.g0) rfl)<|VW (cap:=[]) (vs:=[_]) rfl rfl zhD (zkQ I x) rfl rfl<|zM<|Qu 2 rfl rfl rfl ?_
   refine zK (Qa rfl JR) ?_;refine zK (Qd rfl Qn (fun hg=>by exact Qz.h0 rfl))<|Yd (cap:=[]) (vs:=[_,_,_]) rfl rfl KQ (fun hg=>Yn I _ _ _) (.some rfl rfl rfl rfl gbt) rfl rfl<|QD rfl rfl rfl rfl rfl<|zM<|Qu 7 rfl rfl rfl ?_
   refine zK (Qa rfl JO) ?_;refine zK (Qd rfl VS (fun hg=>by exact Qz.h0 rfl))<|Yd (cap:=[]) (vs:=[_]) rfl rfl zof (fun hg=>zsn I _) (.some rfl rfl rfl rfl gbt) rfl rfl<|QD rfl rfl rfl rfl rfl<|zM<|Qu 12 rfl rfl rfl ?_
   refine zK (Qa rfl JU) ?_;refine zK (Qd rfl VS (fun hg=>by exact Qz.h0 rfl))<|Yd (cap:=[]) (vs:=[_]) rfl rfl zof (fun hg=>zsn I _) (.some rfl rfl rfl rfl gbt) rfl rfl<|QD rfl rfl rfl rfl rfl<|zM<|Qu 17 rfl rfl rfl ?_
   refine zK (Qa rfl KA) ?_;refine zK (Qd rfl Qn (fun hg=>by exact Qz.h0 rfl))<|zK (QE rfl rfl rfl) ?_
   refine QD rfl rfl rfl rfl rfl<|zM<|Qu 22 rfl rfl rfl ?_
   refine zK (Qa rfl Kw) ?_;refine zK (Qd rfl Qn (fun hg=>by exact Qz.h0 rfl))<|zK (QE rfl rfl rfl) ?_
   refine QD rfl rfl rfl rfl rfl<|zM<|Qu 27 rfl rfl rfl ?_
   refine zK (Qa rfl Vm) ?_;refine zK (Qd rfl Qn (fun hg=>by exact Qz.h0 rfl))<|zK (QE rfl rfl rfl) ?_
   refine QD rfl rfl rfl rfl rfl<|zA<|zN<|Qs<|Qj<|Qf ?_
   exact QA rfl rfl (fun w hw=>⟨by rw [Hright.out];first | (simp only [Jo,WR,WE, *,if_true,if_false,Bool.false_eq_true];done) | (simp only [Jo,WR,WE, *,if_true,if_false,Bool.false_eq_true];rfl),hw.drop⟩)
  ·
   refine zR<|zC<|zA<|zN ?_
   refine zI ?_ ?_<;>intro hc71
   ·
    refine zR<|zV (Qg rfl YE (fun hg=>by exact Cells.g0) rfl)<|VW (cap:=[]) (vs:=[_]) rfl rfl zhD (zkQ I x) rfl rfl<|zM<|Qu 2 rfl rfl rfl ?_
    refine zK (Qa rfl JR) ?_;refine zK (Qd rfl Qn (fun hg=>by exact Qz.h0 rfl))<|Yd (cap:=[]) (vs:=[_,_,_]) rfl rfl KQ (fun hg=>Yn I _ _ _) (.some rfl rfl rfl rfl gbt) rfl rfl<|QD rfl rfl rfl rfl rfl<|zM<|Qu 7 rfl rfl rfl ?_
    refine zK (Qa rfl KA) ?_;refine zK (Qd rfl Qn (fun hg=>by exact Qz.h0 rfl))<|Yd (cap:=[]) (vs:=[_,_,_]) rfl rfl KQ (fun hg=>Yn I _ _ _) (.some rfl rfl rfl rfl gbt) rfl rfl<|QD rfl rfl rfl rfl rfl<|zM<|Qu 12 rfl rfl rfl ?_
    refine zK (Qa rfl Kw) ?_;refine zK (Qd rfl Qn (fun hg=>by exact Qz.h0 rfl))<|Yd (cap:=[]) (vs:=[_,_,_]) rfl rfl KQ (fun hg=>Yn I _ _ _) (.some rfl rfl rfl rfl gbt) rfl rfl<|QD rfl rfl rfl rfl rfl<|zM<|Qu 17 rfl rfl rfl ?_
    refine zK (Qa rfl JO) ?_;refine zK (Qd rfl VS (fun hg=>by exact Qz.h0 rfl))<|zK (Ke rfl rfl rfl)<|QD rfl rfl rfl rfl rfl<|zM<|Qu 22 rfl rfl rfl ?_
    refine zK (Qa rfl JU) ?_;refine zK (Qd rfl VS (fun hg=>by exact Qz.h0 rfl))<|zK (Ke rfl rfl rfl)<|QD rfl rfl rfl rfl rfl<|zM<|Qu 27 rfl rfl rfl ?_
    refine zK (Qa rfl Vm) ?_;refine zK (Qd rfl Qn (fun hg=>by exact Qz.h0 rfl))<|zK (QE rfl rfl rfl) ?_
    refine QD rfl rfl rfl rfl rfl<|zA<|zN<|Qs<|Qj<|Qf ?_
    exact QA rfl rfl (fun w hw=>⟨by rw [Hright.out];first | (simp only [Jo,WR,WE, *,if_true,if_false,Bool.false_eq_true];done) | (simp only [Jo,WR,WE, *,if_true,if_false,Bool.false_eq_true];rfl),hw.drop⟩)
   ·
    refine zR<|zC<|zA<|zN ?_
    refine zI ?_ ?_<;>intro hc105
    ·
     refine zR<|zV (Qg rfl YE (fun hg=>by exact Cells.g0) rfl)<|VW (cap:=[]) (vs:=[_]) rfl rfl zhD (zkQ I x) rfl rfl<|zM<|Qu 2 rfl rfl rfl ?_
     refine zK (Qa rfl JR) ?_;refine zK (Qd rfl Qn (fun hg=>by exact Qz.h0 rfl))<|Yd (cap:=[]) (vs:=[_,_,_]) rfl rfl KQ (fun hg=>Yn I _ _ _) (.some rfl rfl rfl rfl gbt) rfl rfl<|QD rfl rfl rfl rfl rfl<|zM<|Qu 7 rfl rfl rfl ?_
     refine zK (Qa rfl KA) ?_;refine zK (Qd rfl Qn (fun hg=>by exact Qz.h0 rfl))<|Yd (cap:=[]) (vs:=[_,_,_]) rfl rfl KQ (fun hg=>Yn I _ _ _) (.some rfl rfl rfl rfl gbt) rfl rfl<|QD rfl rfl rfl rfl rfl<|zM<|Qu 12 rfl rfl rfl ?_
     refine zK (Qa rfl Kw) ?_;refine zK (Qd rfl Qn (fun hg=>by exact Qz.h0 rfl))<|Yd (cap:=[]) (vs:=[_,_,_]) rfl rfl KQ (fun hg=>Yn I _ _ _) (.some rfl rfl rfl rfl gbt) rfl rfl<|QD rfl rfl rfl rfl rfl<|zM<|Qu 17 rfl rfl rfl ?_
     refine zK (Qa rfl JO) ?_;refine zK (Qd rfl VS (fun hg=>by exact Qz.h0 rfl))<|zK (Ke rfl rfl rfl)<|QD rfl rfl rfl rfl rfl<|zM<|Qu 22 rfl rfl rfl ?_
     refine zK (Qa rfl JU) ?_;refine zK (Qd rfl VS (fun hg=>by exact Qz.h0 rfl))<|zK (Ke rfl rfl rfl)<|QD rfl rfl rfl rfl rfl<|zM<|Qu 27 rfl rfl rfl ?_
     refine zK (Qa rfl Vm) ?_;refine zK (Qd rfl Qn (fun hg=>by exact Qz.h0 rfl))<|zK (QE rfl rfl rfl) ?_
     refine QD rfl rfl rfl rfl rfl<|zA<|zN<|Qs<|Qj<|Qf ?_
     exact QA rfl rfl (fun w hw=>⟨by rw [Hright.out];first | (simp only [Jo,WR,WE, *,if_true,if_false,Bool.false_eq_true];done) | (simp only [Jo,WR,WE, *,if_true,if_false,Bool.false_eq_true];rfl),hw.drop⟩)
    ·
     refine zR<|zC<|zA<|zN ?_
     refine zI ?_ ?_<;>intro hc139
     ·
      refine zR ?_;refine zM ?_;refine zM<|VW (cap:=[]) (vs:=[_,_]) rfl rfl zvd (zzE hS hn hx) rfl rfl<|zM<|Qu 3 rfl rfl rfl ?_
      refine zK (Qa rfl JR) ?_;refine zK (Qd rfl Qn (fun hg=>by exact Qz.h0 rfl))<|zK (QE rfl rfl rfl) ?_
      refine QD rfl rfl rfl rfl rfl<|zM<|Qu 8 rfl rfl rfl ?_
      refine zK (Qa rfl KA) ?_;refine zK (Qd rfl Qn (fun hg=>by exact Qz.h0 rfl))<|zK (QE rfl rfl rfl) ?_
      refine QD rfl rfl rfl rfl rfl<|zM<|Qu 13 rfl rfl rfl ?_
      refine zK (Qa rfl Kw) ?_;refine zK (Qd rfl Qn (fun hg=>by exact Qz.h0 rfl))<|zK (QE rfl rfl rfl) ?_
      refine QD rfl rfl rfl rfl rfl<|zM<|Qu 18 rfl rfl rfl ?_
      refine zK (Qa rfl JO) ?_;refine zK (Qd rfl VS (fun hg=>by exact Qz.h0 rfl))<|zK (Ke rfl rfl rfl)<|QD rfl rfl rfl rfl rfl<|zM<|Qu 23 rfl rfl rfl ?_
      refine zK (Qa rfl JU) ?_;refine zK (Qd rfl VS (fun hg=>by exact Qz.h0 rfl))<|zK (Ke rfl rfl rfl)<|QD rfl rfl rfl rfl rfl<|zM<|Qu 28 rfl rfl rfl ?_
      refine zK (Qa rfl KC) ?_;refine zK (Qd rfl Qn (fun hg=>by exact Qz.h0 rfl))<|zK (QE rfl rfl rfl) ?_
      refine QD rfl rfl rfl rfl rfl<|zM<|Qu 33 rfl rfl rfl ?_
      refine zK (Qa rfl JN) ?_;refine zK (Qd rfl Qn (fun hg=>by exact Qz.h0 rfl))<|zK (QE rfl rfl rfl) ?_
      refine QD rfl rfl rfl rfl rfl<|zA<|zN<|Qs<|Qj<|Qf ?_
      exact QA rfl rfl (fun w hw=>⟨by rw [Hright.out];first | (simp only [Jo,WR,WE, *,if_true,if_false,Bool.false_eq_true];done) | (simp only [Jo,WR,WE, *,if_true,if_false,Bool.false_eq_true];rfl),hw.drop⟩)
     ·
      refine Qp<|Qi<|Qc<|zR<|zA<|zN<|Qs ?_
      exact QA rfl rfl (fun w hw=>⟨by rw [Hright.out];first | (simp only [Jo,WR,WE, *,if_false,Bool.false_eq_true];done) | (simp only [Jo,WR,WE, *,if_true,if_false,Bool.false_eq_true];rfl),hw.drop⟩)
theorem w_rcheck (hS:Sl I 11 encR av n c xs)(hn:n≤100000):ZF Tryz.prog 78 [.slice av n c] I (.int .i64 (fCheck xs)):=by
 intro g H w hw;refine enter Tryz.func78 rfl Tryz.ntmps78 rfl hw<|zR<|zA<|zN<|Qm<|zR ?_
 refine zM ?_;refine zQ Z0<|zC<|zN ?_
 refine zI ?_ ?_<;>intro hc6
 ·
  have h5:xs.length>512:=(by rw [hS.len];simp at hc6;omega);refine zR<|zA<|zN<|Qs<|Qf ?_
  exact QA rfl rfl (fun w hw=>⟨by unfold fCheck;first | (rw [if_pos h5]) | (rw [if_neg h5,if_pos hfin]) | (rw [if_neg h5,if_neg];intro hall;rw [List.all_eq_true] at hall;have:=hall k (List.mem_range.2 (by rw [hS.len];exact hlt));rw [this] at hc16;cases hc16),hw.drop⟩)
 ·
  have h5:¬xs.length>512:=(by rw [hS.len];simp at hc6;omega);refine Qp<|Qc ?_
  refine zqz (fun E I' loc'=>E=[(0,.slice av n c)]∧I'=I∧loc'=[]∧(List.range xs.length).all (WL xs)=true) ?_ ?_
  ·
   refine zR<|zA<|zN<|Qr<|zhT (fun m E I' loc'=>∃ k:Nat,m=n-k∧E=[(0,.slice av n c),(3,.int .i64 k)]∧I'=I∧loc'=[]∧k≤n∧(List.range k).all (WL xs)=true) _ _ _ _ ⟨0,rfl,rfl,rfl,rfl,Nat.zero_le _,rfl⟩ (.cons rfl (.cons rfl .nil)) (zCA _) rfl ?_
   rintro m E I' loc' ⟨k,rfl,rfl,rfl,rfl,hk,hinv⟩;refine Qm<|zR ?_
   refine zM ?_;refine zM ?_;refine zQ Z0<|zC<|zN ?_
   refine zI ?_ ?_<;>intro hc10
   ·
    have hlt:k<n:=(by simpa using hc10);obtain ⟨x,hx⟩:=hS.at hlt;refine Qp<|Qc<|Qm<|Qr<|zR ?_
    refine zM ?_;refine zM<|VW (cap:=[]) (vs:=[_,_]) rfl rfl zui (zg2 hS hn hx) rfl rfl<|zO<|zN ?_
    refine zI ?_ ?_<;>intro hc16
    ·
     refine zR<|zA<|zN<|Qs<|Qj<|Qf<|Qf<|Qj<|Qf ?_
     exact QA rfl rfl (fun w hw=>⟨by unfold fCheck;first | (rw [if_pos h5]) | (rw [if_neg h5,if_pos hfin]) | (rw [if_neg h5,if_neg];intro hall;rw [List.all_eq_true] at hall;have:=hall k (List.mem_range.2 (by rw [hS.len];exact hlt));rw [this] at hc16;cases hc16),hw.drop⟩)
    ·
     refine Qp<|Qi<|Qc<|Qh ?_
     refine zM ?_;refine zV (Yr rfl rfl rfl (fun _=>kB))<|zA<|Qb ?_
     exact W5 _ ⟨n-(k+1),kB,k+1,rfl,rfl,rfl,rfl,kB,by rw [List.range_succ,List.all_append,hinv];simpa using hc16⟩ (.cons rfl (.cons rfl .nil))
   ·
    have hge:n≤k:=(by simpa using hc10);refine Q6<|Ql<|Ql<|Qq ?_
    exact W5 _ ⟨rfl,rfl,rfl,(by rw [show xs.length=k from by rw [hS.len];omega];exact hinv)⟩ (.cons rfl .nil)
  ·
   rintro E I' loc' ⟨rfl,rfl,rfl,hfin⟩;refine zR<|zA<|zN<|Qs ?_
   exact QA rfl rfl (fun w hw=>⟨by unfold fCheck;first | (rw [if_pos h5]) | (rw [if_neg h5,if_pos hfin]) | (rw [if_neg h5,if_neg];intro hall;rw [List.all_eq_true] at hall;have:=hall k (List.mem_range.2 (by rw [hS.len];exact hlt));rw [this] at hc16;cases hc16),hw.drop⟩)
theorem w_check (hS:Sl I 11 encR av n c xs)(hn:n≤100000):ZF Tryz.prog 40 [.slice av n c] I (.int .i64 (rCheck xs)):=by
 intro g H w hw;refine enter Tryz.func40 rfl Tryz.ntmps40 rfl hw<|zR<|zA<|zN<|Qm<|zR ?_
 refine zM ?_;refine zQ Z0<|zC<|zN ?_
 refine zI ?_ ?_<;>intro hc12
 ·
  have h5:xs.length>512:=(by rw [hS.len];simp at hc12;omega);refine zR<|zA<|zN<|Qs<|Qf ?_
  exact QA rfl rfl (fun w hw=>⟨by unfold rCheck;first | (rw [if_pos h5]) | (rw [if_neg h5,hfin]) | (rw [if_neg h5,←hinv,XC hx,rGo,if_pos (by unfold rBad;rw [←za5,hc53])]),hw.drop⟩)
 ·
  have h5:¬xs.length>512:=(by rw [hS.len];simp at hc12;omega);refine Qp<|Qc<|zR<|Yf rfl rfl (fun r_13=>KX (cap:=[]) (vs:=[]) rfl rfl ztm .nil (zxb I) rfl rfl ?_)
  rintro v I1 L' hI' ⟨rk,rfl,hI1,rfl⟩;obtain rfl:=hI1.symm;refine zA<|zA<|zA<|zN ?_
  refine zqz (fun E I' loc'=>∃ bs:List (Int×Rt),E=[(0,.slice av n c)]∧I'=I∧loc'=[(rk,Yw (.int .i64) evF WO),(r_13,Yw (.int .i64) encA bs)]∧rGo xs [] (-1)=0) ?_ ?_
  ·
   refine zR ?_;refine zM ?_;refine zQ Z0 ?_;refine zM<|zN<|Qr<|zhT (fun m E I' loc'=>∃ (k:Nat) (bs:List (Int×Rt)) (last:Int),m=n-k∧E=[(0,.slice av n c),(3,.map (some r_13)),(4,.map (some rk)),(5,.int .i64 last),(15,.slice av n c),(16,.int .i64 n),(17,.int .i64 k)]∧I'=I∧loc'=[(rk,Yw (.int .i64) evF WO),(r_13,Yw (.int .i64) encA bs)]∧k≤n∧rGo (xs.drop k) bs last=rGo xs [] (-1)) _ _ _ _ ⟨0,[], -1,rfl,rfl,rfl,rfl,Nat.zero_le _,rfl⟩ (.cons rfl (.cons rfl (.cons rfl (.cons rfl (.cons rfl (.cons rfl (.cons rfl .nil))))))) (zCA _) rfl ?_
   rintro m E I' loc' ⟨k,bs,last,rfl,rfl,rfl,rfl,hk,hinv⟩;refine zR<|zC<|zN<|Qm ?_
   refine zI ?_ ?_<;>intro hc18
   ·
    have hlt:k<n:=(by simpa using hc18);obtain ⟨x,hx⟩:=hS.at hlt;refine Qp<|Qc<|Qm<|Qr<|zR<|zV (QC rfl rfl Z0 kH (fun hg=>kB))<|zV (Qg rfl YE (fun hg=>by exact zCB hS hx) rfl)<|Qt za2 rfl rfl (fun b_7=>?_)
    refine VV rfl rfl Uo rfl rfl rfl rfl kT<|zN (zR ?_)
    refine zM<|zF V5 ?_
    refine zV (Qd rfl Qn (fun hg=>by exact Qz.h0 rfl))<|zV (Z1 zct Zc rfl rfl (fun _=>Mem.m1))<|zM ?_
    refine zE ?_;refine zE<|zA<|zA<|zN<|Qm<|zR ?_
    refine zM<|zO<|zM<|QK 2 rfl rfl rfl ?_
    refine zJ (Qa rfl YT)<|zJ (Qd rfl Qn (fun hg=>by exact Qz.h0 rfl))<|zJ (Qe rfl)<|zJ (QE rfl rfl rfl)<|Zf rfl rfl rfl rfl rfl<|zM<|QK 8 rfl rfl rfl ?_
    refine zJ (Qa rfl YT)<|zJ (Qd rfl Qn (fun hg=>by exact Qz.h0 rfl))<|zJ (QE rfl rfl rfl)<|Zf rfl rfl rfl rfl rfl<|zM<|QK 13 rfl rfl rfl ?_
    refine zJ (Qa rfl YG)<|zJ (Qd rfl Qn (fun hg=>by exact Qz.h0 rfl))<|Yd (cap:=[]) (vs:=[_,_,_]) rfl rfl zai (fun hg=>Z7 _ _ _ _) (.some rfl rfl rfl rfl gbf) rfl rfl<|zJ (Zy rfl)<|Zf rfl rfl rfl rfl rfl ?_
    refine zM ?_;refine QK 19 rfl rfl rfl ?_;refine zJ (Qe rfl) ?_;refine zJ (Qg rfl YE (fun hg=>by exact Cells.g0) rfl) ?_;refine zJ (Qe rfl) ?_;refine zlp (L:=[(r_13,Yw (.int .i64) encA bs)]) (vs:=[_,_]) (v:=.bool (askF x.kind x bs)) rfl rfl (.cons (.there (.there .here)) .nil) (fun hcj=>?_) (.some rfl rfl rfl rfl gbf) rfl rfl ?_
    ·
     simp only [Z6,Bool.and_true,Bool.not_eq_true',Bool.or_eq_false_iff] at hcj;obtain ⟨f,hf⟩:=Option.isSome_iff_exists.1 (show (ZD WO x.kind).isSome=true by simpa using hcj.1.1.1);exact ⟨f,by rw [hf];rfl,zq7 hf,zAC hf _ x r_13 bs⟩
    refine zJ (Zy rfl)<|Zf rfl rfl rfl rfl rfl<|zN ?_
    refine zI ?_ ?_<;>intro hc53
    ·
     refine zR<|zA<|zN<|Qs<|Qf<|Qj<|Qf<|Qf<|Qj<|Qf ?_
     exact QA rfl rfl (fun w hw=>⟨by unfold rCheck;first | (rw [if_pos h5]) | (rw [if_neg h5,hfin]) | (rw [if_neg h5,←hinv,XC hx,rGo,if_pos (by unfold rBad;rw [←za5,hc53])]),hw.drop⟩)
    ·
     refine Qp<|Qc<|Zm<|QI I' [(b_7,.cells (encR x).toArray 43 (0,0))] mixed<|UH 0 rfl (Qe rfl) (.none rfl) rfl rfl rfl kA kA kA JV (zCA _) (.keep (.drop (.drop .refl)))<|UH 1 rfl (Qa rfl YT) (.none rfl) rfl rfl rfl kA kA kA JV (zCA _) (.keep (.drop (.drop .refl)))<|UH 2 rfl (Qd rfl Qn (fun _=>Qz.h0 rfl)) (.none rfl) rfl rfl rfl kA kA kA JV (zCA _) (.keep (.drop (.drop .refl)))<|UH 3 rfl (Qg rfl YE (fun _=>Cells.g0) rfl) (.none rfl) rfl rfl rfl kA kA kA JV (zCA _) (.keep (.drop (.drop .refl)))<|UH 4 rfl (Qa rfl YT) (.none rfl) rfl rfl rfl kA kA kA JV (zCA _) (.keep (.drop (.drop .refl)))<|UH 5 rfl (Qd rfl Qn (fun _=>Qz.h0 rfl)) (.none rfl) rfl rfl rfl kA kA kA JV (zCA _) (.keep (.drop (.drop .refl)))<|zoU 6 rfl kA<|YC x Wb Zc rfl rfl rfl rfl Upd.u2 ?_
     refine Qb<|zBm (zCA _) (.keep (.drop (.drop .refl)))<|zoU 7 rfl kA<|zA<|Qb<|zBm (zCA _) (.keep (.drop (.drop .refl)))<|Qo kA<|Qw<|Qi<|Qc<|Qh<|zV (Yr rfl rfl rfl (fun _=>kB)) ?_
     refine zM<|Qb ?_
     exact Zk _ _ ⟨n-(k+1),kB,k+1,JI bs x.no x,x.no,rfl,rfl,rfl,rfl,kB,by rw [←hinv,XC hx,rGo,if_neg (by unfold rBad;rw [←za5,hc53];simp)]⟩ (.cons rfl (.cons rfl (.cons rfl (.cons rfl (.cons rfl (.cons rfl (.cons rfl .nil))))))) (.drop .refl)
   ·
    have hge:n≤k:=(by simpa using hc18);refine Q6<|Ql<|Ql<|Qq ?_
    exact W5 _ ⟨bs,rfl,rfl,rfl,by rw [←hinv,List.drop_of_length_le (by rw [hS.len];omega)];rfl⟩ (.cons rfl .nil)
  ·
   rintro E I' loc' ⟨bs,rfl,rfl,rfl,hfin⟩;refine zR<|zA<|zN<|Qs ?_
   exact QA rfl rfl (fun w hw=>⟨by unfold rCheck;first | (rw [if_pos h5]) | (rw [if_neg h5,hfin]) | (rw [if_neg h5,←hinv,XC hx,rGo,if_pos (by unfold rBad;rw [←za5,hc53])]),hw.drop⟩)
end
end Go.Proofs.YtjblkbkmblkgoaaGreat.S
namespace Go.Kn
section
open Go
structure Kp (p:Prop):Prop where
 out:p
theorem zBV {p q:Prop}(h1:Kp p→q)(h2:p):q:=h1 ⟨h2⟩
theorem Yp {C:Cx}{Q:Exit→Act→World→Prop}{e:Exit}{E E':Env}{I:Qv}{loc:Loc}(h:Kp (At C Q e E' I loc))(hE:Sub E' E:=by repeat (first | exact Sub.nil | refine Sub.cons rfl ?_)):At C Q e E I loc:=
 fun a w ha hw=>h.out a w (ha.sub hE) hw
end
end Go.Kn
namespace Go.Proofs.YtjblkbkmblkgoaaGreat
section
open Go Go.Kn Go.Proofs
theorem zlH (I:Qv)(x:Int):ZF Tryz.prog 229 [.int .i64 x] I (.bool false):=by
 intro g H w hw;refine qe Tryz.func229 Tryz.ntmps229 hw ?_;refine zR (zA<|zN (zR ?_));refine zM ?_;refine zM<|zC<|zA (zN (Qs ?_))
 exact zr rfl rfl kJ
theorem ztj (I:Qv)(x y:Int):ZF Tryz.prog 183 [.int .i64 x,.int .i64 y] I (.int .i64 (zgz x y)):=by
 intro g H w hw;refine qe Tryz.func183 Tryz.ntmps183 hw ?_;refine zR (zA<|zN (zR ?_));refine zM<|qcV (vs:=[_]) rfl zcA (zlH I _)<|zA<|zN (zR ?_)
 refine zM<|qcV (vs:=[_]) rfl zcA (zlH I _)<|zA (zN (Qm (zR<|zM (zN ?_))))
 refine zI ?_ ?_<;>intro hc11
 ·
  cases hc11
 refine Qp (Qc (Qm (zR (zM (zN ?_)))));refine zI ?_ ?_<;>intro hc13
 ·
  cases hc13
 refine Qp (Qc (Qm (zR (zM ?_))));refine zM<|zC (zN ?_)
 refine zI ?_ ?_<;>intro hc16
 ·
  refine zR (zA (zN (Qs (Qf ?_))));exact zr rfl rfl (by unfold zgz;first | (rw [if_pos (by simpa using hc16)]) | (rw [if_neg (by simpa using hc16),if_pos (by simpa using hc19)]) | (rw [if_neg (by simpa using hc16),if_neg (by simpa using hc19)]))
 refine Qp (Qc (Qm (zR (zM ?_))));refine zM<|zC (zN ?_)
 refine zI ?_ ?_<;>intro hc19
 ·
  refine zR (zA (zN (Qs (Qf ?_))));exact zr rfl rfl (by unfold zgz;first | (rw [if_pos (by simpa using hc16)]) | (rw [if_neg (by simpa using hc16),if_pos (by simpa using hc19)]) | (rw [if_neg (by simpa using hc16),if_neg (by simpa using hc19)]))
 refine Qp (Qc (zR (zA (zN (Qs ?_)))));exact zr rfl rfl (by unfold zgz;first | (rw [if_pos (by simpa using hc16)]) | (rw [if_neg (by simpa using hc16),if_pos (by simpa using hc19)]) | (rw [if_neg (by simpa using hc16),if_neg (by simpa using hc19)]))
theorem zAW (I:Qv)(n:Int)(hn: -1073741824≤n∧n≤1073741824):ZF Tryz.prog 282 [.int .i64 n] I (.int .u64 (zcM n)):=by
 intro g H w hw;refine qe Tryz.func282 Tryz.ntmps282 hw ?_;refine zR (zA (zN (Qm (zR ?_))));refine zM<|zC (zN ?_)
 refine zI ?_ ?_<;>intro hc4
 ·
  refine zR (zM<|zV (ZM rfl Xn)<|zV (ztw rfl)<|zA (zN (Qs (Qf ?_))));exact zr rfl rfl (by rw [zww hn (by simpa using hc4)])
 refine Qp (Qc (zR (zM<|zV (ZM rfl Xn)<|zA (zN (Qs ?_)))));exact zr rfl rfl (by rw [zvu hn (by simpa using hc4)])
theorem zAs (I:Qv)(a b:Int):Y7 Tryz.prog 285 [.int .u64 a,.int .u64 b] I [] (fun v I' L=>I'=I∧∃ b1 b2,v= .func (.func 287) #[] [ZE b1,ZE b2].toArray∧L=zzl 216 b1 b2 a b):=by
 intro g H w hw;refine qe Tryz.func285 Tryz.ntmps285 hw ?_;exact zR<|QQ rfl rfl rfl (fun b_2=>QQ rfl rfl rfl (fun b_3=>zA<|zN (zR<|zV (YJ (us:=[]) (vs:=[_,_]) rfl rfl)<|zA (zN (Qs<|QA rfl rfl (fun w hw=>⟨_,I,_,rfl,zCA _,hw,rfl,_,_,rfl,rfl⟩))))))
theorem zqa (I:Qv)(a0 b0:Nat)(b1 b2:Nat)(hb0:0<b0)(ha1:a0≤9223372036854775807)(hb1:b0≤9223372036854775807):zAB Tryz.prog 287 [ZE b1,ZE b2] I (zzl 216 b1 b2 (a0) (b0)) (fun n:Nat=>.int .u64 n) (zeS a0 b0):=by
 intro g l J Jx hY I0 H w h0 hJ hw;refine qe Tryz.func287 Tryz.ntmps287 hw<|Qr<|zgZ (fun m E I' H' loc'=>∃ (a b:Nat) (pre:List Nat),m=b∧E=[(0,.func (.yield l) #[] #[]),(1,ZE b1),(2,ZE b2)]∧loc'=zzl 216 b1 b2 (a) (b)∧HLe I0 I'∧J pre I' H'∧zeS a0 b0=pre++zeS a b∧0<b∧a≤9223372036854775807∧b≤9223372036854775807) _ _ _ ⟨a0,b0,[],rfl,rfl,rfl,zCA _,hJ,rfl,hb0,ha1,hb1⟩ (.cons rfl (.cons rfl (.cons rfl .nil))) rfl ?_
 rintro m E I' H' loc' ⟨a,b,pre,hmb,rfl,rfl,hI1,hJk,hrem,hbp,hal,hbl⟩;subst m;have hI0:=h0.trans hI1;refine Qm (zR<|zL ZU<|zC<|zM<|Qu 2 rfl rfl rfl ?_);refine zK (Qe rfl)<|zK (Qd rfl ZU (fun hg=>by exact Qz.h1 rfl))<|zkP (vs:=[_]) (Post:=fun t I2 H2=>if t then J (pre++[a]) I2 H2 else Jx (pre++[a]) I2 H2) rfl rfl (.some rfl rfl rfl rfl gbt) rfl rfl (fun hcj=>hY pre a _ _ (zng hrem (by simpa [Z6] using hcj)) hI0 hJk) ?_
 rintro t I2 H2 hI2 hyes hno;refine QD rfl rfl rfl rfl rfl<|zN ?_
 refine zI ?_ ?_<;>intro hc10
 ·
  have ha0:a≠0:=(by simp at hc10;exact hc10.1);have ht:t=true:=(by simp at hc10;exact hc10.2);subst ht;have hJ1:J (pre++[a]) I2 H2:=hyes (by simp [Z6];exact ha0);refine Qp (Qc (Qr (Qm ?_)));apply zBV
  ·
   intro key;have hD:=zCA I2;refine Zm<|QI I2 [] mixed ?_
   refine V0 0 1 2 rfl rfl rfl kA ?_ ?_ ?_
   ·
    refine zL ZU<|Qb<|zD hD ?_
    refine QS 1 2 rfl rfl kA ?_ ?_
    ·
     refine zL ZU<|Qb<|zD hD ?_
     refine QS 2 5 rfl rfl kA ?_ ?_
     ·
      refine zL ZU<|Qb<|zD hD ?_
      refine QS 3 5 rfl rfl kA ?_ ?_
      ·
       refine zV (VE rfl rfl)<|Qb<|zD hD ?_
       refine QS 4 5 rfl rfl kA ?_ ?_
       ·
        refine zV (Ya rfl rfl (fun hg=>by rw [Zw hbp];omega))<|Qb<|zD hD<|qd 5 rfl ?_
        refine zS Q2 ?_;refine Qb<|zD hD<|qd 6 rfl ?_
        refine zS Q2 ?_;refine Qb<|zD hD<|Qo kA<|Qw ?_
        first | exact key.out | exact Yp key
       refine zS Q2 ?_;refine Qb<|zD hD<|qd 4 rfl<|zV (Ya rfl rfl (fun hg=>by rw [Zw hbp];omega))<|Qb<|zD hD<|qd 6 rfl ?_
       refine zS Q2 ?_;refine Qb<|zD hD<|Qo kA<|Qw ?_
       first | exact key.out | exact Yp key
      refine zS Q2 ?_;refine Qb<|zD hD<|qd 3 rfl<|zV (VE rfl rfl)<|Qb<|zD hD<|qd 4 rfl<|zV (Ya rfl rfl (fun hg=>by rw [Zw hbp];omega))<|Qb<|zD hD<|qd 6 rfl ?_
      refine zS Q2 ?_;refine Qb<|zD hD<|Qo kA<|Qw ?_
      first | exact key.out | exact Yp key
     refine zS Q2 ?_;refine Qb<|zD hD<|qd 2 rfl ?_
     refine zL ZU<|Qb<|zD hD<|qd 3 rfl<|zV (VE rfl rfl)<|Qb<|zD hD<|qd 4 rfl<|zV (Ya rfl rfl (fun hg=>by rw [Zw hbp];omega))<|Qb<|zD hD<|qd 6 rfl ?_
     refine zS Q2 ?_;refine Qb<|zD hD<|Qo kA<|Qw ?_
     first | exact key.out | exact Yp key
    refine zL ZU<|Qb<|zD hD ?_
    refine QS 1 3 rfl rfl kA ?_ ?_
    ·
     refine zL ZU<|Qb<|zD hD ?_
     refine QS 3 5 rfl rfl kA ?_ ?_
     ·
      refine zV (VE rfl rfl)<|Qb<|zD hD ?_
      refine QS 4 5 rfl rfl kA ?_ ?_
      ·
       refine zV (Ya rfl rfl (fun hg=>by rw [Zw hbp];omega))<|Qb<|zD hD<|qd 5 rfl ?_
       refine zS Q2 ?_;refine Qb<|zD hD<|qd 6 rfl ?_
       refine zS Q2 ?_;refine Qb<|zD hD<|Qo kA<|Qw ?_
       first | exact key.out | exact Yp key
      refine zS Q2 ?_;refine Qb<|zD hD<|qd 4 rfl<|zV (Ya rfl rfl (fun hg=>by rw [Zw hbp];omega))<|Qb<|zD hD<|qd 6 rfl ?_
      refine zS Q2 ?_;refine Qb<|zD hD<|Qo kA<|Qw ?_
      first | exact key.out | exact Yp key
     refine zS Q2 ?_;refine Qb<|zD hD<|qd 3 rfl<|zV (VE rfl rfl)<|Qb<|zD hD<|qd 4 rfl<|zV (Ya rfl rfl (fun hg=>by rw [Zw hbp];omega))<|Qb<|zD hD<|qd 6 rfl ?_
     refine zS Q2 ?_;refine Qb<|zD hD<|Qo kA<|Qw ?_
     first | exact key.out | exact Yp key
    refine zV (VE rfl rfl)<|Qb<|zD hD<|qd 1 rfl ?_
    refine zL ZU<|Qb<|zD hD ?_
    refine QS 4 5 rfl rfl kA ?_ ?_
    ·
     refine zV (Ya rfl rfl (fun hg=>by rw [Zw hbp];omega))<|Qb<|zD hD<|qd 5 rfl ?_
     refine zS Q2 ?_;refine Qb<|zD hD<|qd 6 rfl ?_
     refine zS Q2 ?_;refine Qb<|zD hD<|Qo kA<|Qw ?_
     first | exact key.out | exact Yp key
    refine zS Q2 ?_;refine Qb<|zD hD<|qd 4 rfl<|zV (Ya rfl rfl (fun hg=>by rw [Zw hbp];omega))<|Qb<|zD hD<|qd 6 rfl ?_
    refine zS Q2 ?_;refine Qb<|zD hD<|Qo kA<|Qw ?_
    first | exact key.out | exact Yp key
   ·
    refine zL ZU<|Qb<|zD hD ?_
    refine QS 0 2 rfl rfl kA ?_ ?_
    ·
     refine zL ZU<|Qb<|zD hD ?_
     refine QS 2 5 rfl rfl kA ?_ ?_
     ·
      refine zL ZU<|Qb<|zD hD ?_
      refine QS 3 5 rfl rfl kA ?_ ?_
      ·
       refine zV (VE rfl rfl)<|Qb<|zD hD ?_
       refine QS 4 5 rfl rfl kA ?_ ?_
       ·
        refine zV (Ya rfl rfl (fun hg=>by rw [Zw hbp];omega))<|Qb<|zD hD<|qd 5 rfl ?_
        refine zS Q2 ?_;refine Qb<|zD hD<|qd 6 rfl ?_
        refine zS Q2 ?_;refine Qb<|zD hD<|Qo kA<|Qw ?_
        first | exact key.out | exact Yp key
       refine zS Q2 ?_;refine Qb<|zD hD<|qd 4 rfl<|zV (Ya rfl rfl (fun hg=>by rw [Zw hbp];omega))<|Qb<|zD hD<|qd 6 rfl ?_
       refine zS Q2 ?_;refine Qb<|zD hD<|Qo kA<|Qw ?_
       first | exact key.out | exact Yp key
      refine zS Q2 ?_;refine Qb<|zD hD<|qd 3 rfl<|zV (VE rfl rfl)<|Qb<|zD hD<|qd 4 rfl<|zV (Ya rfl rfl (fun hg=>by rw [Zw hbp];omega))<|Qb<|zD hD<|qd 6 rfl ?_
      refine zS Q2 ?_;refine Qb<|zD hD<|Qo kA<|Qw ?_
      first | exact key.out | exact Yp key
     refine zS Q2 ?_;refine Qb<|zD hD<|qd 2 rfl ?_
     refine zL ZU<|Qb<|zD hD<|qd 3 rfl<|zV (VE rfl rfl)<|Qb<|zD hD<|qd 4 rfl<|zV (Ya rfl rfl (fun hg=>by rw [Zw hbp];omega))<|Qb<|zD hD<|qd 6 rfl ?_
     refine zS Q2 ?_;refine Qb<|zD hD<|Qo kA<|Qw ?_
     first | exact key.out | exact Yp key
    refine zL ZU<|Qb<|zD hD ?_
    refine QS 0 3 rfl rfl kA ?_ ?_
    ·
     refine zL ZU<|Qb<|zD hD ?_
     refine QS 3 5 rfl rfl kA ?_ ?_
     ·
      refine zV (VE rfl rfl)<|Qb<|zD hD ?_
      refine QS 4 5 rfl rfl kA ?_ ?_
      ·
       refine zV (Ya rfl rfl (fun hg=>by rw [Zw hbp];omega))<|Qb<|zD hD<|qd 5 rfl ?_
       refine zS Q2 ?_;refine Qb<|zD hD<|qd 6 rfl ?_
       refine zS Q2 ?_;refine Qb<|zD hD<|Qo kA<|Qw ?_
       first | exact key.out | exact Yp key
      refine zS Q2 ?_;refine Qb<|zD hD<|qd 4 rfl<|zV (Ya rfl rfl (fun hg=>by rw [Zw hbp];omega))<|Qb<|zD hD<|qd 6 rfl ?_
      refine zS Q2 ?_;refine Qb<|zD hD<|Qo kA<|Qw ?_
      first | exact key.out | exact Yp key
     refine zS Q2 ?_;refine Qb<|zD hD<|qd 3 rfl<|zV (VE rfl rfl)<|Qb<|zD hD<|qd 4 rfl<|zV (Ya rfl rfl (fun hg=>by rw [Zw hbp];omega))<|Qb<|zD hD<|qd 6 rfl ?_
     refine zS Q2 ?_;refine Qb<|zD hD<|Qo kA<|Qw ?_
     first | exact key.out | exact Yp key
    refine zV (VE rfl rfl)<|Qb<|zD hD ?_
    refine QS 0 4 rfl rfl kA ?_ ?_
    ·
     refine zL ZU<|Qb<|zD hD ?_
     refine QS 4 5 rfl rfl kA ?_ ?_
     ·
      refine zV (Ya rfl rfl (fun hg=>by rw [Zw hbp];omega))<|Qb<|zD hD<|qd 5 rfl ?_
      refine zS Q2 ?_;refine Qb<|zD hD<|qd 6 rfl ?_
      refine zS Q2 ?_;refine Qb<|zD hD<|Qo kA<|Qw ?_
      first | exact key.out | exact Yp key
     refine zS Q2 ?_;refine Qb<|zD hD<|qd 4 rfl<|zV (Ya rfl rfl (fun hg=>by rw [Zw hbp];omega))<|Qb<|zD hD<|qd 6 rfl ?_
     refine zS Q2 ?_;refine Qb<|zD hD<|Qo kA<|Qw ?_
     first | exact key.out | exact Yp key
    refine zV (Ya rfl rfl (fun hg=>by rw [Zw hbp];omega))<|Qb<|zD hD<|qd 0 rfl ?_
    refine zL ZU<|Qb<|zD hD<|qd 5 rfl ?_
    refine zS Q2 ?_;refine Qb<|zD hD<|qd 6 rfl ?_
    refine zS Q2 ?_;refine Qb<|zD hD<|Qo kA<|Qw ?_
    first | exact key.out | exact Yp key
   refine zL ZU<|Qb<|zD hD ?_
   refine V0 0 1 3 rfl rfl rfl kA ?_ ?_ ?_
   ·
    refine zL ZU<|Qb<|zD hD ?_
    refine QS 1 3 rfl rfl kA ?_ ?_
    ·
     refine zL ZU<|Qb<|zD hD ?_
     refine QS 3 5 rfl rfl kA ?_ ?_
     ·
      refine zV (VE rfl rfl)<|Qb<|zD hD ?_
      refine QS 4 5 rfl rfl kA ?_ ?_
      ·
       refine zV (Ya rfl rfl (fun hg=>by rw [Zw hbp];omega))<|Qb<|zD hD<|qd 5 rfl ?_
       refine zS Q2 ?_;refine Qb<|zD hD<|qd 6 rfl ?_
       refine zS Q2 ?_;refine Qb<|zD hD<|Qo kA<|Qw ?_
       first | exact key.out | exact Yp key
      refine zS Q2 ?_;refine Qb<|zD hD<|qd 4 rfl<|zV (Ya rfl rfl (fun hg=>by rw [Zw hbp];omega))<|Qb<|zD hD<|qd 6 rfl ?_
      refine zS Q2 ?_;refine Qb<|zD hD<|Qo kA<|Qw ?_
      first | exact key.out | exact Yp key
     refine zS Q2 ?_;refine Qb<|zD hD<|qd 3 rfl<|zV (VE rfl rfl)<|Qb<|zD hD<|qd 4 rfl<|zV (Ya rfl rfl (fun hg=>by rw [Zw hbp];omega))<|Qb<|zD hD<|qd 6 rfl ?_
     refine zS Q2 ?_;refine Qb<|zD hD<|Qo kA<|Qw ?_
     first | exact key.out | exact Yp key
    refine zV (VE rfl rfl)<|Qb<|zD hD<|qd 1 rfl ?_
    refine zL ZU<|Qb<|zD hD ?_
    refine QS 4 5 rfl rfl kA ?_ ?_
    ·
     refine zV (Ya rfl rfl (fun hg=>by rw [Zw hbp];omega))<|Qb<|zD hD<|qd 5 rfl ?_
     refine zS Q2 ?_;refine Qb<|zD hD<|qd 6 rfl ?_
     refine zS Q2 ?_;refine Qb<|zD hD<|Qo kA<|Qw ?_
     first | exact key.out | exact Yp key
    refine zS Q2 ?_;refine Qb<|zD hD<|qd 4 rfl<|zV (Ya rfl rfl (fun hg=>by rw [Zw hbp];omega))<|Qb<|zD hD<|qd 6 rfl ?_
    refine zS Q2 ?_;refine Qb<|zD hD<|Qo kA<|Qw ?_
    first | exact key.out | exact Yp key
   ·
    refine zL ZU<|Qb<|zD hD ?_
    refine QS 0 3 rfl rfl kA ?_ ?_
    ·
     refine zL ZU<|Qb<|zD hD ?_
     refine QS 3 5 rfl rfl kA ?_ ?_
     ·
      refine zV (VE rfl rfl)<|Qb<|zD hD ?_
      refine QS 4 5 rfl rfl kA ?_ ?_
      ·
       refine zV (Ya rfl rfl (fun hg=>by rw [Zw hbp];omega))<|Qb<|zD hD<|qd 5 rfl ?_
       refine zS Q2 ?_;refine Qb<|zD hD<|qd 6 rfl ?_
       refine zS Q2 ?_;refine Qb<|zD hD<|Qo kA<|Qw ?_
       first | exact key.out | exact Yp key
      refine zS Q2 ?_;refine Qb<|zD hD<|qd 4 rfl<|zV (Ya rfl rfl (fun hg=>by rw [Zw hbp];omega))<|Qb<|zD hD<|qd 6 rfl ?_
      refine zS Q2 ?_;refine Qb<|zD hD<|Qo kA<|Qw ?_
      first | exact key.out | exact Yp key
     refine zS Q2 ?_;refine Qb<|zD hD<|qd 3 rfl<|zV (VE rfl rfl)<|Qb<|zD hD<|qd 4 rfl<|zV (Ya rfl rfl (fun hg=>by rw [Zw hbp];omega))<|Qb<|zD hD<|qd 6 rfl ?_
     refine zS Q2 ?_;refine Qb<|zD hD<|Qo kA<|Qw ?_
     first | exact key.out | exact Yp key
    refine zV (VE rfl rfl)<|Qb<|zD hD ?_
    refine QS 0 4 rfl rfl kA ?_ ?_
    ·
     refine zL ZU<|Qb<|zD hD ?_
     refine QS 4 5 rfl rfl kA ?_ ?_
     ·
      refine zV (Ya rfl rfl (fun hg=>by rw [Zw hbp];omega))<|Qb<|zD hD<|qd 5 rfl ?_
      refine zS Q2 ?_;refine Qb<|zD hD<|qd 6 rfl ?_
      refine zS Q2 ?_;refine Qb<|zD hD<|Qo kA<|Qw ?_
      first | exact key.out | exact Yp key
     refine zS Q2 ?_;refine Qb<|zD hD<|qd 4 rfl<|zV (Ya rfl rfl (fun hg=>by rw [Zw hbp];omega))<|Qb<|zD hD<|qd 6 rfl ?_
     refine zS Q2 ?_;refine Qb<|zD hD<|Qo kA<|Qw ?_
     first | exact key.out | exact Yp key
    refine zV (Ya rfl rfl (fun hg=>by rw [Zw hbp];omega))<|Qb<|zD hD<|qd 0 rfl ?_
    refine zL ZU<|Qb<|zD hD<|qd 5 rfl ?_
    refine zS Q2 ?_;refine Qb<|zD hD<|qd 6 rfl ?_
    refine zS Q2 ?_;refine Qb<|zD hD<|Qo kA<|Qw ?_
    first | exact key.out | exact Yp key
   refine zV (VE rfl rfl)<|Qb<|zD hD ?_
   refine QS 0 1 rfl rfl kA ?_ ?_
   ·
    refine zL ZU<|Qb<|zD hD<|qd 1 rfl ?_
    refine zL ZU<|Qb<|zD hD ?_
    refine QS 4 5 rfl rfl kA ?_ ?_
    ·
     refine zV (Ya rfl rfl (fun hg=>by rw [Zw hbp];omega))<|Qb<|zD hD<|qd 5 rfl ?_
     refine zS Q2 ?_;refine Qb<|zD hD<|qd 6 rfl ?_
     refine zS Q2 ?_;refine Qb<|zD hD<|Qo kA<|Qw ?_
     first | exact key.out | exact Yp key
    refine zS Q2 ?_;refine Qb<|zD hD<|qd 4 rfl<|zV (Ya rfl rfl (fun hg=>by rw [Zw hbp];omega))<|Qb<|zD hD<|qd 6 rfl ?_
    refine zS Q2 ?_;refine Qb<|zD hD<|Qo kA<|Qw ?_
    first | exact key.out | exact Yp key
   refine zL ZU<|Qb<|zD hD ?_
   refine QS 0 4 rfl rfl kA ?_ ?_
   ·
    refine zL ZU<|Qb<|zD hD ?_
    refine QS 4 5 rfl rfl kA ?_ ?_
    ·
     refine zV (Ya rfl rfl (fun hg=>by rw [Zw hbp];omega))<|Qb<|zD hD<|qd 5 rfl ?_
     refine zS Q2 ?_;refine Qb<|zD hD<|qd 6 rfl ?_
     refine zS Q2 ?_;refine Qb<|zD hD<|Qo kA<|Qw ?_
     first | exact key.out | exact Yp key
    refine zS Q2 ?_;refine Qb<|zD hD<|qd 4 rfl<|zV (Ya rfl rfl (fun hg=>by rw [Zw hbp];omega))<|Qb<|zD hD<|qd 6 rfl ?_
    refine zS Q2 ?_;refine Qb<|zD hD<|Qo kA<|Qw ?_
    first | exact key.out | exact Yp key
   refine zV (Ya rfl rfl (fun hg=>by rw [Zw hbp];omega))<|Qb<|zD hD<|qd 0 rfl ?_
   refine zL ZU<|Qb<|zD hD<|qd 5 rfl ?_
   refine zS Q2 ?_;refine Qb<|zD hD<|qd 6 rfl ?_
   refine zS Q2 ?_;refine Qb<|zD hD<|Qo kA<|Qw ?_
   first | exact key.out | exact Yp key
  rw [show ((a:Int)).tmod (zgq (b:Int) 1)=((a % b:Nat):Int) by rw [Zw hbp,ziK]];refine Qc (zR<|zL ZU<|zC (zN ?_));refine zI ?_ ?_<;>intro hc17
  ·
   have hab:a % b=0:=(by have h:=hc17;simp only [beq_iff_eq] at h;omega);have hpre2:(pre++[a])++[b]<+:zeS a0 b0:=(by rw [hrem,zea ha0 kB hab,List.append_assoc];exact List.prefix_rfl);refine zR (zM<|zL ZU<|zbN (vs:=[_]) (Post:=fun t I3 H3=>if t then J ((pre++[a])++[b]) I3 H3 else Jx ((pre++[a])++[b]) I3 H3) rfl rfl rfl rfl (hY (pre++[a]) b _ _ hpre2 (hI0.trans hI2) hJ1) ?_);rintro t3 I3 H3 hI3 hP3;refine zN (Qs (Qj (Qf (Qj ?_))))
   first
   | (refine Ys rfl (fun w hw=>⟨_,I3,H3,rfl,hI1.trans (hI2.trans hI3),hw.drop,?_⟩);cases t3 with | true=>exact .inl (by rw [hrem,zea ha0 kB hab];simpa using hP3) | false=>exact .inr ⟨_,hpre2,hP3⟩)
  have hab:a % b≠0:=(by have h:=hc17;simp only [beq_eq_false_iff_ne,ne_eq] at h;omega);refine Qp (Qi ?_);exact zbl rfl rfl rfl _ (zzl 216 b1 b2 (b) (((a % b:Nat):Int))) ⟨a % b,Nat.mod_lt _ hbp,b,a % b,pre++[a],rfl,rfl,rfl,hI1.trans hI2,hJ1,by rw [hrem,zfv ha0 kB hab,List.append_assoc];rfl,kB,kB,by have:=Nat.mod_lt a hbp;omega⟩ (.cons rfl (.cons rfl (.cons rfl .nil))) .refl
 refine Q6 (Ql (Ql (Qq ?_)))
 first
 | (refine YP (Ys rfl (fun w hw=>⟨_,I2,H2,rfl,hI1.trans hI2,hw.drop,?_⟩));by_cases ha0:a=0;(obtain ⟨e1,e2⟩:=hno (by simp [Z6,ha0]);subst e1;subst e2;subst ha0;exact .inl (by rw [hrem,ze1,List.append_nil];exact hJk));(have ht:t=false:=(by simp [ha0] at hc10;exact hc10);subst ht;exact .inr ⟨_,zng hrem ha0,hyes (by simp [Z6];exact ha0)⟩))
theorem zAR (I:Qv)(a b:Nat)(hb:0<b)(ha:a≤9223372036854775807)(hb2:b≤9223372036854775807):ZF Tryz.prog 281 [.int .u64 a,.int .u64 b] I (.int .u64 (Nat.gcd a b:Nat)):=by
 intro g H w hw;refine zlF Tryz.func281 rfl Tryz.ntmps281 rfl hw ?_;have hIc:=zCA I;refine zR<|Qt zzr rfl rfl (fun b_4=>zN (Qm (zR (zM<|zC (zN ?_)))))
 refine zI ?_ ?_<;>intro hc7
 ·
  simp at hc7;omega
 refine Qp (Qc (zR (zM ?_)));refine zS Q2<|zN (Qm (zR (zM<|zM<|zpc [_,_] rfl ztQ .nil (zAs I _ _) ?_)))
 rintro vv1 I1 L1 hI1 ⟨rfl,b1,b2,rfl,rfl⟩;have hIc:=hIc.trans hI1;refine zN (Qr ?_);refine zgg (ms:=[]) (K:=zzl 216 b1 b2 (a) (b)) (L:=[(b_4,.cells #[.int .u64 b] 216 (0,0))]) (enc:=fun n:Nat=>.int .u64 n) (xs:=zeS a b) (fun pre I' loc'=>loc'=[(b_4,.cells #[.int .u64 ((pre.getLastD b:Nat):Int)] 216 (0,0))]) (fun _ _ _ _=>False) (fun pre x E2 I2 loc2=>E2=[(4,ZE b_4),(5,.int .u64 x)]∧loc2=[(b_4,.cells #[.int .u64 ((pre.getLastD b:Nat):Int)] 216 (0,0))]) rfl zvY (zqa _ a b b1 b2 hb ha hb2) rfl rfl ?_ ?_ ?_ ?_
 ·
  rintro l pre x I1 loc1 H1 hpre hI1 rfl;exact Qh (zA (Qb<|W5 _ ⟨zCA _,rfl,rfl⟩ (.cons rfl (.cons rfl .nil))))
 ·
  rintro l pre x E2 I2 loc2 H2 hpre hI2 ⟨rfl,rfl⟩;refine Qr (Qh (zM ?_));refine zS Q2<|Qb (Qi ?_)
  exact zlh ⟨zCA _,by rw [znK];rfl⟩ .refl
 ·
  rintro bd I1 loc1 hI1 rfl;have hIc:=hIc.trans hI1;refine Qi (Qc (zR<|zL ZU ?_));refine zS Q2<|zN (Qs ?_)
  exact ziq (L:=[(b_4,_)]) (fun a ha w hw=>zBf rfl rfl ZU (Qz.h0 rfl) a ha w hw) (fun w hw=>⟨by rw [zps b (Nat.le_refl _) kB (fun _=>rfl)],(hw.mono hIc).drop⟩)
 rintro c bd pre I1 loc1 hI1 hpre hF;exact hF.elim
theorem zz5 (I:Qv)(n d:Int)(hn: -1073741824≤n∧n≤1073741824)(hd:1≤d∧d≤1073741824):ZF Tryz.prog 281 [.int .u64 (zcM n),.int .u64 (IntKind.u64.wrap d)] I (.int .u64 (zoG n d)):=by
 have h0:0≤zcM n∧zcM n≤1073741824:=(by unfold zcM;split<;>omega);have h:=zAR I (zcM n).toNat d.toNat kB kB kB;rw [zk5 kB];rw [Int.toNat_of_nonneg h0.1,Int.toNat_of_nonneg kB,ztl,Int.toNat_of_nonneg kB] at h;exact h
theorem zhS (I:Qv)(n d:Int):ZF Tryz.prog 278 [zaU (n) (d)] I (.int .i64 (zwC n d)):=by
 intro g H w hw;refine qe Tryz.func278 Tryz.ntmps278 hw ?_;refine zR<|QQ rfl rfl rfl (fun b_1=>zA (zN (Qm (Qm<|Kq mixed kA<|zq (Qa rfl Vn)<|zq (Qd rfl Qn (fun hg=>by exact Qz.h0 rfl))<|zq (QE rfl rfl rfl)<|zq (Qe rfl)<|Vx 3 rfl rfl rfl<|zj (Qa rfl Vn)<|zj (Qd rfl Qn (fun hg=>by exact Qz.h0 rfl))<|zj (QE rfl rfl rfl) ?_))))
 refine KY rfl rfl rfl rfl rfl<|zq (Qe rfl)<|Vx 8 rfl rfl rfl<|zj (Qa rfl Y0)<|zj (Qd rfl Qn (fun hg=>by exact Qz.h0 rfl))<|zj (QE rfl rfl rfl)<|KY rfl rfl rfl rfl rfl<|zq (Qe rfl)<|Vx 13 rfl rfl rfl<|zj (Qa rfl Y0)<|zj (Qd rfl Qn (fun hg=>by exact Qz.h0 rfl))<|zj (QE rfl rfl rfl) ?_
 refine KY rfl rfl rfl rfl rfl<|zq (Qe rfl)<|Vx 18 rfl rfl rfl<|zj (Qa rfl Y0)<|zj (Qd rfl Qn (fun hg=>by exact Qz.h0 rfl))<|Jn (cap:=[]) (vs:=[_]) rfl rfl zvC (fun hg=>zAW I n (by simp [Z6] at hg;omega)) (.some rfl rfl rfl rfl gbf) rfl rfl<|zj (Qa rfl Vn)<|zj (Qd rfl Qn (fun hg=>by exact Qz.h0 rfl))<|zj (ZM rfl Xn)<|Jn (cap:=[]) (vs:=[_,_]) rfl rfl zvg (fun hg=>zz5 I n d (by simp [Z6] at hg;omega) (by simp [Z6] at hg;omega)) (.some rfl rfl rfl rfl gbf) rfl rfl<|zj (QE rfl rfl rfl)<|KY rfl rfl rfl rfl rfl ?_
 refine Kt<|Qc ?_
 refine zI ?_ ?_<;>intro hc30
 ·
  refine zR (zA (zN (Qs (Qf ?_))))
  first
  | exact zr rfl rfl (by unfold zwC;rw [zti hc30];rfl)
 refine Qp (Qc (zR (zA (zN (Qs ?_)))))
 first
 | exact zr rfl rfl (by unfold zwC;rw [zpp hc30];rfl)
theorem zyn (I:Qv)(an ad bn bd:Int):ZF Tryz.prog 276 [zaU (an) (ad),zaU (bn) (bd)] I (.tuple #[.int .i64 (zzG an ad bn bd),.int .i64 (zwW an ad bn bd)]):=by
 intro g H w hw;refine qe Tryz.func276 Tryz.ntmps276 hw ?_;refine zR<|QQ rfl rfl rfl (fun b_2=>QQ rfl rfl rfl (fun b_3=>zA<|zA (zN (Qm (zR<|zV (Qg rfl JD (fun hg=>by exact Cells.g1) rfl)<|qcV (vs:=[_]) rfl zks (zhS I _ _)<|zC<|zM<|QK 3 rfl rfl rfl<|zJ (Qg rfl JD (fun hg=>by exact Cells.g0) rfl)<|qf (vs:=[_]) rfl zks (fun hg=>zhS I _ _) ?_)))))
 refine zJ (QE rfl rfl rfl)<|Zf rfl rfl rfl rfl rfl<|zN ?_
 refine zI ?_ ?_<;>intro hc13
 ·
  have hb:(Wz an ad&&Wz bn bd)=false:=(by have h:=hc13;rw [zmI,Bool.not_eq_true'] at h;exact h);refine zR (zA<|zA (zN (Qs (Qf ?_))));exact Y2 rfl rfl rfl (fun w hw=>⟨by unfold zzG zwW;rw [hb];rfl,hw.drop⟩)
 have hb:(Wz an ad&&Wz bn bd)=true:=(by have h:=hc13;rw [zmI,Bool.not_eq_false'] at h;exact h);have ⟨ha1,ha2⟩:=zdE (Bool.and_eq_true .. ▸ hb).1;have ⟨hb1,hb2⟩:=zdE (Bool.and_eq_true .. ▸ hb).2;refine Qp (Qc (zR<|zF Y0 ?_));refine zL Qn<|zF Vn ?_
 refine zL Qn ?_;refine zV (Yr rfl rfl rfl (fun _=>by exact zpx kB kB))<|zF Y0 ?_
 refine zL Qn<|zF Vn ?_
 refine zL Qn ?_;refine zV (Yr rfl rfl rfl (fun _=>by exact zpx kB kB))<|qcV (vs:=[_,_]) rfl zk4 (ztj I _ _)<|zA<|zA (zN (Qs ?_))
 exact Y2 rfl rfl rfl (fun w hw=>⟨by unfold zzG zwW;rw [hb];rfl,hw.drop⟩)
theorem zy3 (I:Qv)(an ad bn bd:Int):ZF Tryz.prog 270 [zaU (an) (ad),zaU (bn) (bd)] I (.bool (zcf an ad bn bd)):=by
 intro g H w hw;refine qe Tryz.func270 Tryz.ntmps270 hw ?_;refine zR<|QQ rfl rfl rfl (fun b_2=>QQ rfl rfl rfl (fun b_3=>zA<|zN (zR<|zV (Qg rfl JD (fun hg=>by exact Cells.g1) rfl)<|zV (Qg rfl JD (fun hg=>by exact Cells.g0) rfl)<|qcV (vs:=[_,_]) rfl zuU (zyn I _ _ _ _)<|zM ?_)))
 refine zE ?_;refine zE<|zA<|zA<|zN (zR ?_)
 refine zM<|zC<|zM<|Qu 2 rfl rfl rfl ?_
 refine zK (Qe rfl) ?_;refine zK (QE rfl rfl rfl) ?_;refine QD rfl rfl rfl rfl rfl<|zM<|Qu 6 rfl rfl rfl ?_
 refine zK (Qa rfl Y0) ?_;refine zK (Qd rfl Qn (fun hg=>by exact Qz.h1 rfl))<|zK (QE rfl rfl rfl) ?_
 refine QD rfl rfl rfl rfl rfl<|zM<|Qu 11 rfl rfl rfl ?_
 refine zK (Qa rfl Y0) ?_;refine zK (Qd rfl Qn (fun hg=>by exact Qz.h0 rfl))<|zK (Qa rfl Vn) ?_
 refine zK (Qd rfl Qn (fun hg=>by exact Qz.h0 rfl))<|zK (QE rfl rfl rfl) ?_
 refine QD rfl rfl rfl rfl rfl<|zA (zN (Qs ?_))
 exact zr rfl rfl (by rw [←ztU])
theorem Z7 (I:Qv)(n lo hi:Int):ZF Tryz.prog 269 [.int .i64 n,.int .i64 lo,.int .i64 hi] I (.bool (within n lo hi)):=by
 intro g H w hw;refine qe Tryz.func269 Tryz.ntmps269 hw ?_;refine zR (zA<|zN (zR ?_));refine zM ?_;refine zM<|zC<|zM<|Qu 3 rfl rfl rfl ?_
 refine zK (Qe rfl) ?_;refine zK (Qe rfl) ?_;refine zK (QE rfl rfl rfl) ?_;refine QD rfl rfl rfl rfl rfl<|zA (zN (Qs ?_))
 exact zr rfl rfl kU
theorem zA9 (I:Qv)(x:Sg):ZF Tryz.prog 260 [Xa x] I (.bool (frm x)):=by
 intro g H w hw;refine qe Tryz.func260 Tryz.ntmps260 hw ?_;refine zR<|QQ rfl rfl rfl (fun b_1=>zA<|zN (zR ?_))
 refine zF JS ?_;refine zL Qn<|qcV (vs:=[_,_,_]) rfl K8 (Z7 I _ _ _)<|zM<|Qu 3 rfl rfl rfl ?_
 refine zK (Qa rfl Uv) ?_;refine zK (Qd rfl Qn (fun hg=>by exact Qz.h0 rfl))<|qg (vs:=[_,_,_]) rfl K8 (fun hg=>Z7 I _ _ _)<|QD rfl rfl rfl rfl rfl<|zM<|Qu 8 rfl rfl rfl ?_
 refine zK (Qa rfl UI) ?_;refine zK (Qd rfl Qn (fun hg=>by exact Qz.h0 rfl))<|qg (vs:=[_,_,_]) rfl K8 (fun hg=>Z7 I _ _ _)<|QD rfl rfl rfl rfl rfl<|zM<|Qu 13 rfl rfl rfl ?_
 refine zK (Qa rfl zbs) ?_;refine zK (Qd rfl Qn (fun hg=>by exact Qz.h0 rfl))<|qg (vs:=[_,_,_]) rfl K8 (fun hg=>Z7 I _ _ _)<|QD rfl rfl rfl rfl rfl<|zM<|Qu 18 rfl rfl rfl ?_
 refine zK (Qa rfl UM) ?_;refine zK (Qd rfl Qn (fun hg=>by exact Qz.h0 rfl))<|qg (vs:=[_,_,_]) rfl K8 (fun hg=>Z7 I _ _ _)<|QD rfl rfl rfl rfl rfl<|zM<|Qu 23 rfl rfl rfl ?_
 refine zK (Qa rfl Uw) ?_;refine zK (Qd rfl Qn (fun hg=>by exact Qz.h0 rfl))<|qg (vs:=[_,_,_]) rfl K8 (fun hg=>Z7 I _ _ _)<|QD rfl rfl rfl rfl rfl<|zM<|Qu 28 rfl rfl rfl ?_
 refine zK (Qa rfl UD) ?_;refine zK (Qd rfl Qn (fun hg=>by exact Qz.h0 rfl))<|qg (vs:=[_,_,_]) rfl K8 (fun hg=>Z7 I _ _ _)<|QD rfl rfl rfl rfl rfl<|zM<|Qu 33 rfl rfl rfl ?_
 refine zK (Qa rfl UL) ?_;refine zK (Qd rfl Qn (fun hg=>by exact Qz.h0 rfl))<|qg (vs:=[_,_,_]) rfl K8 (fun hg=>Z7 I _ _ _)<|QD rfl rfl rfl rfl rfl<|zM<|Qu 38 rfl rfl rfl ?_
 refine zK (Qa rfl UC) ?_;refine zK (Qd rfl Qn (fun hg=>by exact Qz.h0 rfl))<|qg (vs:=[_,_,_]) rfl K8 (fun hg=>Z7 I _ _ _)<|QD rfl rfl rfl rfl rfl<|zM<|Qu 43 rfl rfl rfl ?_
 refine zK (Qa rfl UE) ?_;refine zK (Qd rfl Qn (fun hg=>by exact Qz.h0 rfl))<|qg (vs:=[_,_,_]) rfl K8 (fun hg=>Z7 I _ _ _)<|QD rfl rfl rfl rfl rfl<|zM<|Qu 48 rfl rfl rfl ?_
 refine zK (Qa rfl Ji)<|zK (Qg rfl JD (fun hg=>by exact Cells.s0 (vs:=[_,_]) rfl) rfl) ?_
 refine zK (Qa rfl Jt)<|zK (Qg rfl JD (fun hg=>by exact Cells.s0 (vs:=[_,_]) rfl) rfl)<|qg (vs:=[_,_]) rfl ztJ (fun hg=>zy3 I _ _ _ _)<|QD rfl rfl rfl rfl rfl<|zA (zN (Qs ?_))
 exact zr rfl rfl kU
theorem zzS {I:Qv}{av:Option Addr}{n c:Nat}{xs:List Sg}(hS:Sl I 14 zgB av n c xs)(hn:n≤100000):ZF Tryz.prog 217 [.slice av n c] I (.int .i64 (zjw xs)):=by
 intro g H w hw;refine qe Tryz.func217 Tryz.ntmps217 hw ?_;refine zR (zA (zN (Qm (zR ?_))));refine zM ?_;refine zQ UK<|zC (zN ?_)
 refine zI ?_ ?_<;>intro hc7
 ·
  have h6:xs.length>4096:=(by rw [hS.len];simp at hc7;omega);refine zR (zA (zN (Qs (Qf ?_))))
  first
  | exact zr rfl rfl (by unfold zjw;rw [if_pos h6])
 have h6:¬xs.length>4096:=(by rw [hS.len];simp at hc7;omega);refine Qp (Qc (Qm (zR (zM<|zQ UK ?_))));refine zM (zN (Qr ?_));refine zU [(0,_),(8,_),(9,_)] (fun T L0 mz E I' loc'=>∃ (k:Nat),mz=n-k∧E=(10,.int .i64 k)::T∧I=I'∧L0=loc'∧k≤n∧(List.range k).all (skP xs)=true) ?_ (h:=⟨0,rfl,rfl,rfl,rfl,Nat.zero_le _,rfl⟩);rintro mz E I' loc' ⟨k,rfl,rfl,rfl,rfl,hk,hall⟩;refine zR (zC (zN (Qm ?_)));refine zI ?_ ?_<;>intro hc11
 ·
  have hlt_k:k<n:=(by have h:=hc11;simp at h;omega);obtain ⟨x,hx⟩:=hS.at hlt_k;refine Qp (Qc (Qm (Qr (zR (zM<|zV (QC rfl rfl UK kH (fun hg=>kB))<|zV (Qg rfl ZJ (fun hg=>by exact zCB hS hx) rfl)<|Qt zhA rfl rfl (fun b_4=>?_))))));refine zA<|zh Jk<|zN (Qm<|Kq mixed kA ?_)
  refine zq (Qg rfl ZJ (fun hg=>by exact Cells.g0) rfl)<|Wh (cap:=[]) (vs:=[_]) rfl rfl zuK (zA9 I _) rfl rfl<|zq (Zy rfl)<|zq (Qe rfl)<|Vx 3 rfl rfl rfl<|zj (Qe rfl)<|zj (QE rfl rfl rfl)<|zj (Qe rfl)<|Vw 6 rfl rfl rfl<|zk (Qe rfl)<|zk (Qe rfl)<|zk (Yr rfl rfl rfl (fun hg=>kB)) ?_
  refine zk (QC rfl rfl UK kH (fun hg=>by (simp [Z6] at hg;omega)))<|zk (Qa rfl JS)<|zk (Qd rfl Qn (fun hg=>by exact zCt (k:=((k:Int)-1).toNat) hS (KR (d:=JZ) hS.len (by simp [Z6] at hg;omega)) rfl))<|zk (Qa rfl JS)<|zk (Qd rfl Qn (fun hg=>by exact Qz.h0 rfl))<|zk (QE rfl rfl rfl)<|zcr rfl rfl rfl (.some rfl rfl rfl rfl gbf) rfl rfl<|KY rfl rfl rfl rfl rfl<|Kt<|Qc ?_
  refine zI ?_ ?_<;>intro hc32
  ·
   refine zR (zA (zN (Qs (Qj (Qf (Qf (Qj<|Qf ?_)))))))
   first
   | exact zr rfl rfl (by unfold zjw skB;rw [if_neg h6,VY (k:=k) (by rw [hS.len];exact hlt_k) (by rw [zja hx,hc32];rfl)];rfl)
  refine Qp (Qi (Qc (Qh (zB<|zM (Qb ?_)))));exact zm (h:=⟨n-(k+1),kB,k+1,rfl,rfl,rfl,rfl,kB,VH hall (by rw [zja hx,hc32];rfl)⟩)
 have hge_k:n≤k:=(by have h:=hc11;simp at h;omega);refine Q6 (Ql (Ql (Qq (Qc (zR (zA (zN<|Qs ?_)))))))
 first
 | exact zr rfl rfl (by unfold zjw skB;rw [if_neg h6,hS.len,show n=k by omega,hall];rfl)
theorem zcu (I:Qv)(b:Nat):ZF Tryz.prog 216 [ZE b] I (.agg (zBC b).toArray):=by
 intro g H w hw;refine qe Tryz.func216 Tryz.ntmps216 hw ?_;refine zR<|Qt zsm rfl rfl (fun b_2=>zN (Qm ?_))
 have hD:=zCA I;refine Zm<|QI I [] mixed<|zT 0 rfl (Qe rfl) hD<|zT 1 rfl (QB rfl) hD<|zT 2 rfl (Qa rfl Uv) hD<|zT 3 rfl (Qe rfl) hD<|zT 4 rfl (QB rfl) hD<|zT 5 rfl (Qa rfl UI) hD<|zT 6 rfl (Qe rfl) hD<|zT 7 rfl (QB rfl) hD<|zT 8 rfl (Qa rfl UM) hD<|zT 9 rfl (Qe rfl) hD ?_
 refine zT 10 rfl (QB rfl) hD<|zT 11 rfl (Qa rfl Uw) hD<|zT 12 rfl (Qe rfl) hD<|zT 13 rfl (QB rfl) hD<|zT 14 rfl (Qa rfl UD) hD<|zT 15 rfl (Qe rfl) hD<|zT 16 rfl (QB rfl) hD<|zT 17 rfl (Qa rfl UL) hD<|zT 18 rfl (Qe rfl) hD<|zT 19 rfl (QB rfl) hD<|zT 20 rfl (Qa rfl UC) hD<|zT 21 rfl (Qe rfl) hD ?_
 refine zT 22 rfl (QB rfl) hD<|zT 23 rfl (Qa rfl UE) hD<|zT 24 rfl (VC (ps:=[(1,_),(2,_),(3,_),(4,_),(5,_),(6,_),(7,_),(8,_)]) [_,_,_,_,_,_,_,_,_] WZ zsm rfl rfl) hD<|qd 25 rfl ?_
 refine zh zuX ?_;exact Qb<|zD hD<|Qo kA<|Qw<|Qc (Qs<|ZN rfl rfl zv9 Cells.g0 rfl (fun w hw=>⟨rfl,hw.drop⟩))
theorem zzT (I:Qv)(x:Sg)(f:Int)(y:Sg)(hf:isF f):ZF Tryz.prog 161 [Xa x,.int .i64 f,Xa y] I (Xa (Ue x f y)):=by
 intro g H w hw;refine qe Tryz.func161 Tryz.ntmps161 hw ?_;refine zR<|QQ rfl rfl rfl (fun b_3=>QQ rfl rfl rfl (fun b_5=>Qt zhA rfl rfl (fun b_6=>zN (Qm (zR (zM<|zC (zN ?_)))))))
 refine zI ?_ ?_<;>intro hc8
 ·
  have hf9:f=9:=(by simpa using hc8);refine zR<|zF Ji ?_
  refine zV (Qg rfl JD (fun hg=>by exact Cells.s1 (vs:=[_,_]) rfl) rfl)<|zF Jt ?_
  refine zV (Qg rfl JD (fun hg=>by exact Cells.s1 (vs:=[_,_]) rfl) rfl) ?_;refine zF Ji ?_;refine Yu rfl rfl zit rfl rfl rfl rfl (by repeat (first | exact Upd.here | apply Upd.there | apply ZC)) ?_;refine zF Jt ?_;refine Yu rfl rfl zit rfl rfl rfl rfl (by repeat (first | exact Upd.here | apply Upd.there | apply ZC))<|zN (zR<|zV (Qg rfl ZJ (fun hg=>by exact Cells.g2) rfl) ?_)
  refine zh Jk<|zN (Qs (Qf ?_))
  first
  | exact ZN rfl rfl ZJ Cells.g0 rfl (fun w hw=>⟨by rw [hf9];rfl,hw.drop⟩)
 have hf8:1≤f∧f≤8:=(by have h:=hc8;unfold isF at hf;simp at h;omega);refine Qp (Qc (Qm ?_));have hD:=zCA I;refine Zm<|QI I [(b_5,.cells (Xa y).cells 36 (0,0))] mixed<|zT 1 rfl (Qe rfl) hD<|zT 4 rfl (Qe rfl) hD<|qd 0 rfl<|qcV (vs:=[_]) rfl zgN (zcu I _)<|Qb<|zD hD ?_
 refine QS 2 3 rfl rfl kA ?_ ?_
 ·
  refine zV (KV rfl rfl WZ U1 (fun hg=>kB) (fun hg=>zdp hf8 b_3))<|Qb<|zD hD<|qd 3 rfl<|qcV (vs:=[_]) rfl zgN (zcu I _)<|Qb<|zD hD<|qd 5 rfl<|zV (KV rfl rfl WZ U1 (fun hg=>kB) (fun hg=>zdp hf8 b_5))<|Qb<|zD hD<|zT 6 rfl (QB rfl) hD ?_
  refine zT 7 rfl (Qd rfl Qn (fun hg=>by exact Qz.h0 (zhM hf8 y))) hD<|zT 8 rfl (QB rfl) hD<|qd 9 rfl<|Jv rfl rfl UT rfl rfl Upd.u2 (by exact zwn) ?_
  rw [show (Xa x).cells.setIfInBounds (foF f) (.int .i64 (zxa y f))=(zgB (Ue x f y)).toArray from zlk hf8 x y];exact Qb<|zD hD<|Qo kA<|Qw<|Qc (zR<|zV (Qg rfl ZJ (fun hg=>by exact Cells.g2) rfl)<|zh Jk<|zN (Qs<|ZN rfl rfl ZJ Cells.g0 rfl (fun w hw=>⟨rfl,hw.drop⟩)))
 refine qcV (vs:=[_]) rfl zgN (zcu I _)<|Qb<|zD hD ?_
 refine QS 2 5 rfl rfl kA ?_ ?_
 ·
  refine zV (KV rfl rfl WZ U1 (fun hg=>kB) (fun hg=>zdp hf8 b_3))<|Qb<|zD hD<|qd 5 rfl<|zV (KV rfl rfl WZ U1 (fun hg=>kB) (fun hg=>zdp hf8 b_5))<|Qb<|zD hD<|zT 6 rfl (QB rfl) hD<|zT 7 rfl (Qd rfl Qn (fun hg=>by exact Qz.h0 (zhM hf8 y))) hD<|zT 8 rfl (QB rfl) hD<|qd 9 rfl<|Jv rfl rfl UT rfl rfl Upd.u2 (by exact zwn) ?_
  rw [show (Xa x).cells.setIfInBounds (foF f) (.int .i64 (zxa y f))=(zgB (Ue x f y)).toArray from zlk hf8 x y];exact Qb<|zD hD<|Qo kA<|Qw<|Qc (zR<|zV (Qg rfl ZJ (fun hg=>by exact Cells.g2) rfl)<|zh Jk<|zN (Qs<|ZN rfl rfl ZJ Cells.g0 rfl (fun w hw=>⟨rfl,hw.drop⟩)))
 refine zV (KV rfl rfl WZ U1 (fun hg=>kB) (fun hg=>zdp hf8 b_5))<|Qb<|zD hD<|zT 6 rfl (QB rfl) hD<|zT 7 rfl (Qd rfl Qn (fun hg=>by exact Qz.h0 (zhM hf8 y))) hD<|qd 2 rfl<|zV (KV rfl rfl WZ U1 (fun hg=>kB) (fun hg=>zdp hf8 b_3))<|Qb<|zD hD<|zT 8 rfl (QB rfl) hD<|qd 9 rfl<|Jv rfl rfl UT rfl rfl Upd.u2 (by exact zwn) ?_
 rw [show (Xa x).cells.setIfInBounds (foF f) (.int .i64 (zxa y f))=(zgB (Ue x f y)).toArray from zlk hf8 x y];exact Qb<|zD hD<|Qo kA<|Qw<|Qc (zR<|zV (Qg rfl ZJ (fun hg=>by exact Cells.g2) rfl)<|zh Jk<|zN (Qs<|ZN rfl rfl ZJ Cells.g0 rfl (fun w hw=>⟨rfl,hw.drop⟩)))
end
section
open Go Go.Kn
def UO (zs:List Int):List Int:=zs.mergeSort fun x y=>decide (x≤y)
theorem K1 (zs:List Int):zs.flatMap ZX=zs.map (Value.int .i64):=by
 induction zs with
 | nil=>rfl
 | cons z zs ih=>rw [List.flatMap_cons,ih];rfl
end
section
open Go Go.Kn Go.Proofs
theorem zvo (i j:Nat)(h:i+j≤1000000):IntKind.i64.wrap ((IntKind.u64.wrap ((i:Int)+(j:Int))).fdiv (2^1))=(((i+j) / 2:Nat):Int):=by
 have h1:IntKind.u64.wrap ((i:Int)+(j:Int))=((i+j:Nat):Int):=by
  rw [show ((i:Int)+(j:Int))=((i+j:Nat):Int) by omega];exact zk5 ⟨kB,kB⟩
 rw [h1,show ((2:Int)^1)=((2:Nat):Int) from rfl,Int.fdiv_eq_ediv_of_nonneg _ kB,←Int.natCast_ediv];exact zdS ⟨kB,kB⟩
section
variable {α:Type} {key:α→Int} {xs:List α} {t:Int}
end
instance : Inhabited Sg := ⟨JZ⟩
end
end Go.Proofs.YtjblkbkmblkgoaaGreat
namespace Go.Proofs
section
open Go.Shelf
def Tryz.lays106_ren:Go.Shelf.Ren:=⟨fun | 106=>154 | 213=>209 | 265=>259 | n=>n,fun | 9=>9 | 3=>3 | n=>n,fun | n=>n⟩
theorem Tryz.lays106:Go.Proofs.Lays.n106 Tryz.prog Tryz.lays106_ren:={
 mixed:=kA
 f106:=Tryz.func154.trans (congrArg some kA)
 f213:=Tryz.func209.trans (congrArg some kA)
 f265:=Tryz.func259.trans (congrArg some kA)
 t3:=Tryz.underlying3
 a3:=Tryz.isAgg3
 z3:=Tryz.sizeOf3
 v3:=Tryz.zeroValue3
 t9:=Tryz.underlying9
 a9:=Tryz.isAgg9
 z9:=Tryz.sizeOf9
 v9:=Tryz.zeroValue9}
open Go.RowKit in
theorem Tryz.strings_Compare (a b:ByteArray) (w:World):
  Calls Tryz.prog 154 #[.string a,.string b] w fun e w'=>e= .returned (.int .i64 (Lib.compareBytes a.data.toList b.data.toList))∧w'=w:=Any.strings_Compare Tryz.lays106 a b w
def Tryz.lays189_ren:Go.Shelf.Ren:=⟨fun | 189=>135 | 125=>153 | 257=>188 | 128=>207 | 129=>208 | 294=>236 | 295=>237 | 296=>238 | 297=>239 | 298=>240 | 299=>241 | 216=>242 | 300=>243 | 301=>244 | 328=>264 | 329=>255 | 330=>256 | 331=>265 | 332=>266 | 215=>229 | 343=>274 | n=>n,fun | 28=>37 | 3=>3 | 46=>216 | 0=>0 | 51=>274 | 53=>276 | 4=>4 | 183=>268 | 182=>267 | 131=>150 | 5=>5 | 9=>9 | 218=>306 | 222=>184 | 228=>318 | 229=>319 | n=>n,fun | n=>n⟩
theorem Tryz.lays189:Go.Proofs.Lays.n189 Tryz.prog Tryz.lays189_ren:={
 mixed:=kA
 f125:=Tryz.func153.trans (congrArg some kA)
 f128:=Tryz.func207.trans (congrArg some kA)
 f129:=Tryz.func208.trans (congrArg some kA)
 f189:=Tryz.func135.trans (congrArg some kA)
 f215:=Tryz.func229.trans (congrArg some kA)
 f216:=Tryz.func242.trans (congrArg some kA)
 f257:=Tryz.func188.trans (congrArg some kA)
 f294:=Tryz.func236.trans (congrArg some kA)
 f295:=Tryz.func237.trans (congrArg some kA)
 f296:=Tryz.func238.trans (congrArg some kA)
 f297:=Tryz.func239.trans (congrArg some kA)
 f298:=Tryz.func240.trans (congrArg some kA)
 f299:=Tryz.func241.trans (congrArg some kA)
 f300:=Tryz.func243.trans (congrArg some kA)
 f301:=Tryz.func244.trans (congrArg some kA)
 f328:=Tryz.func264.trans (congrArg some kA)
 f329:=Tryz.func255.trans (congrArg some kA)
 f330:=Tryz.func256.trans (congrArg some kA)
 f331:=Tryz.func265.trans (congrArg some kA)
 f332:=Tryz.func266.trans (congrArg some kA)
 f343:=Tryz.func274.trans (congrArg some kA)
 t0:=Tryz.underlying0
 a0:=Tryz.isAgg0
 z0:=Tryz.sizeOf0
 v0:=Tryz.zeroValue0
 t3:=Tryz.underlying3
 a3:=Tryz.isAgg3
 z3:=Tryz.sizeOf3
 v3:=Tryz.zeroValue3
 t4:=Tryz.underlying4
 a4:=Tryz.isAgg4
 z4:=Tryz.sizeOf4
 v4:=Tryz.zeroValue4
 t5:=Tryz.underlying5
 a5:=Tryz.isAgg5
 z5:=Tryz.sizeOf5
 v5:=Tryz.zeroValue5
 t9:=Tryz.underlying9
 a9:=Tryz.isAgg9
 z9:=Tryz.sizeOf9
 v9:=Tryz.zeroValue9
 t28:=Tryz.underlying37
 a28:=Tryz.isAgg37
 z28:=Tryz.sizeOf37
 v28:=Tryz.zeroValue37
 t46:=Tryz.underlying216
 a46:=Tryz.isAgg216
 z46:=Tryz.sizeOf216
 v46:=Tryz.zeroValue216
 t51:=Tryz.underlying274
 a51:=Tryz.isAgg274
 z51:=Tryz.sizeOf274
 v51:=Tryz.zeroValue274
 t53:=Tryz.underlying276
 a53:=Tryz.isAgg276
 z53:=Tryz.sizeOf276
 v53:=Tryz.zeroValue276
 t131:=Tryz.underlying150
 a131:=Tryz.isAgg150
 z131:=Tryz.sizeOf150
 v131:=Tryz.zeroValue150
 t182:=Tryz.underlying267
 a182:=Tryz.isAgg267
 z182:=Tryz.sizeOf267
 v182:=Tryz.zeroValue267
 t183:=Tryz.underlying268
 a183:=Tryz.isAgg268
 z183:=Tryz.sizeOf268
 v183:=Tryz.zeroValue268
 t218:=Tryz.underlying306
 a218:=Tryz.isAgg306
 z218:=Tryz.sizeOf306
 v218:=Tryz.zeroValue306
 t222:=Tryz.underlying184
 a222:=Tryz.isAgg184
 z222:=Tryz.sizeOf184
 v222:=Tryz.zeroValue184
 t228:=Tryz.underlying318
 a228:=Tryz.isAgg318
 z228:=Tryz.sizeOf318
 v228:=Tryz.zeroValue318
 t229:=Tryz.underlying319
 a229:=Tryz.isAgg319
 z229:=Tryz.sizeOf319
 v229:=Tryz.zeroValue319}
open Go.Sort Go.RowKit in
theorem Tryz.slices_Sort_int (blk off cap:Nat) (zs:List Int) (w:World) (hH:Holds (Value.int .i64) w blk off zs.toArray) (hblk:blk<w.heap.size) (hsz:zs.length<4611686018427387904):
  Calls Tryz.prog 135 #[.slice (some ⟨blk,off,none⟩) zs.length cap] w fun e w'=>
   e= .returned (.tuple #[])∧∃ n os,w'=grow (putRow (Value.int .i64) (Sort.ahead w n) blk off (zs.mergeSort fun x y=>decide (x≤y)).toArray) os:=Any.slices_Sort_int Tryz.lays189 blk off cap zs w hH hblk hsz
open Go.RowKit Go.Sort in
theorem Tryz.slices_Sort_int_none (p:Option Addr) (cap:Nat) (w:World):
  Calls Tryz.prog 135 #[.slice p 0 cap] w fun e w'=>e= .returned (.tuple #[])∧w'=w:=Any.slices_Sort_int_none Tryz.lays189 p cap w
def Tryz.laysSlF06_f80_ren:Go.Shelf.Ren:=⟨fun | 6=>80 | 15=>153 | 14=>152 | 28=>207 | 29=>208 | 20=>199 | 21=>200 | 22=>201 | 23=>202 | 24=>203 | 25=>204 | 26=>205 | 27=>206 | 46=>254 | 47=>255 | 48=>256 | 49=>257 | 50=>258 | 57=>268 | n=>n,fun | 22=>57 | 24=>45 | 25=>128 | 3=>3 | 39=>216 | 0=>0 | 53=>274 | 55=>276 | 4=>4 | 46=>268 | 45=>267 | 50=>150 | 5=>5 | 9=>9 | 66=>306 | 70=>184 | 76=>318 | 77=>319 | n=>n,fun | n=>n⟩
theorem Tryz.laysSlF06_f80:Go.Proofs.SlLaysF0.n6 Tryz.prog Tryz.laysSlF06_f80_ren:={
 mixed:=kA
 f6:=⟨Tryz.f80.name,by decide,Tryz.func80.trans (congrArg some kA)⟩
 f14:=⟨Tryz.f152.name,by decide,Tryz.func152.trans (congrArg some kA)⟩
 f15:=Tryz.func153.trans (congrArg some kA)
 f20:=⟨Tryz.f199.name,by decide,Tryz.func199.trans (congrArg some kA)⟩
 f21:=⟨Tryz.f200.name,by decide,Tryz.func200.trans (congrArg some kA)⟩
 f22:=⟨Tryz.f201.name,by decide,Tryz.func201.trans (congrArg some kA)⟩
 f23:=⟨Tryz.f202.name,by decide,Tryz.func202.trans (congrArg some kA)⟩
 f24:=⟨Tryz.f203.name,by decide,Tryz.func203.trans (congrArg some kA)⟩
 f25:=⟨Tryz.f204.name,by decide,Tryz.func204.trans (congrArg some kA)⟩
 f26:=⟨Tryz.f205.name,by decide,Tryz.func205.trans (congrArg some kA)⟩
 f27:=⟨Tryz.f206.name,by decide,Tryz.func206.trans (congrArg some kA)⟩
 f28:=Tryz.func207.trans (congrArg some kA)
 f29:=Tryz.func208.trans (congrArg some kA)
 f46:=⟨Tryz.f254.name,by decide,Tryz.func254.trans (congrArg some kA)⟩
 f47:=Tryz.func255.trans (congrArg some kA)
 f48:=Tryz.func256.trans (congrArg some kA)
 f49:=⟨Tryz.f257.name,by decide,Tryz.func257.trans (congrArg some kA)⟩
 f50:=⟨Tryz.f258.name,by decide,Tryz.func258.trans (congrArg some kA)⟩
 f57:=⟨Tryz.f268.name,by decide,Tryz.func268.trans (congrArg some kA)⟩
 t0:=Tryz.underlying0
 a0:=Tryz.isAgg0
 z0:=Tryz.sizeOf0
 v0:=Tryz.zeroValue0
 t3:=Tryz.underlying3
 a3:=Tryz.isAgg3
 z3:=Tryz.sizeOf3
 v3:=Tryz.zeroValue3
 t4:=Tryz.underlying4
 a4:=Tryz.isAgg4
 z4:=Tryz.sizeOf4
 v4:=Tryz.zeroValue4
 t5:=Tryz.underlying5
 a5:=Tryz.isAgg5
 z5:=Tryz.sizeOf5
 v5:=Tryz.zeroValue5
 t9:=Tryz.underlying9
 a9:=Tryz.isAgg9
 z9:=Tryz.sizeOf9
 v9:=Tryz.zeroValue9
 t22:=Tryz.underlying57
 a22:=Tryz.isAgg57
 z22:=Tryz.sizeOf57
 v22:=Tryz.zeroValue57
 t25:=Tryz.underlying128
 a25:=Tryz.isAgg128
 z25:=Tryz.sizeOf128
 v25:=Tryz.zeroValue128
 t39:=Tryz.underlying216
 a39:=Tryz.isAgg216
 z39:=Tryz.sizeOf216
 v39:=Tryz.zeroValue216
 t45:=Tryz.underlying267
 a45:=Tryz.isAgg267
 z45:=Tryz.sizeOf267
 v45:=Tryz.zeroValue267
 t46:=Tryz.underlying268
 a46:=Tryz.isAgg268
 z46:=Tryz.sizeOf268
 v46:=Tryz.zeroValue268
 t50:=Tryz.underlying150
 a50:=Tryz.isAgg150
 z50:=Tryz.sizeOf150
 v50:=Tryz.zeroValue150
 t53:=Tryz.underlying274
 a53:=Tryz.isAgg274
 z53:=Tryz.sizeOf274
 v53:=Tryz.zeroValue274
 t55:=Tryz.underlying276
 a55:=Tryz.isAgg276
 z55:=Tryz.sizeOf276
 v55:=Tryz.zeroValue276
 t66:=Tryz.underlying306
 a66:=Tryz.isAgg306
 z66:=Tryz.sizeOf306
 v66:=Tryz.zeroValue306
 t70:=Tryz.underlying184
 a70:=Tryz.isAgg184
 z70:=Tryz.sizeOf184
 v70:=Tryz.zeroValue184
 t76:=Tryz.underlying318
 a76:=Tryz.isAgg318
 z76:=Tryz.sizeOf318
 v76:=Tryz.zeroValue318
 t77:=Tryz.underlying319
 a77:=Tryz.isAgg319
 z77:=Tryz.sizeOf319
 v77:=Tryz.zeroValue319}
open Go.RowKit Go.Lib Go.Sort in
theorem Tryz.slices_SortFunc {α:Type} [Inhabited α] (k:Nat) (aE:∀ w,(isAgg (Tryz.laysSlF06_f80_ren.t 24)).run Tryz.prog w= .ok true w) (zE:∀ w,(Go.sizeOf (Tryz.laysSlF06_f80_ren.t 24)).run Tryz.prog w= .ok k w) (enc:α→List Value) (hk:∀ x,(enc x).length=k) (h1:∀ x,∀ v∈enc x,v.oneCell'=true) (cf:α→α→Int) (hO:SWO (ltOf cf)) (g:Nat) (cb:Array Value) (blk off cap:Nat) (d:Array α) (w:World) (eg:∀ args w,(callFunc g args).run Tryz.prog w= .ok (.enter g args) w) (hcmp:CmpLays Tryz.prog g cb enc k cf blk off d.size w) (hH:HoldsK enc k w blk off d) (hblk:blk<w.heap.size) (hsz:d.size<4611686018427387904):
  Calls Tryz.prog 80 #[.slice (some ⟨blk,off,none⟩) d.size cap,.func (.func g) #[] cb] w fun e w'=>
   e= .returned (.tuple #[])∧∃ d' n os,PermIn 0 d.size d d'∧SortedIn (ltOf cf) 0 d.size d'∧w'=sortWorldK enc k w blk off n d' os:=AnyQ.slices_SortFunc Tryz.laysSlF06_f80 k aE zE enc hk h1 cf hO g cb blk off cap d w eg hcmp hH hblk hsz
open Go.RowKit Go.Lib Go.Sort in
theorem Tryz.slices_SortFunc_none {α:Type} [Inhabited α] (p:Option Addr) (cap:Nat) (fv:Value) (w:World):
  Calls Tryz.prog 80 #[.slice p 0 cap,fv] w fun e w'=>e= .returned (.tuple #[])∧w'=w:=AnyF.slices_SortFunc_none Tryz.laysSlF06_f80 p cap fv w
end
end Go.Proofs
namespace Go.Proofs.YtjblkbkmblkgoaaGreat
section
open Go Go.Kn Go.Proofs
variable{v:Value}{n:Nat}
theorem zjc (e:Nat)(zs:List Int){L:Go.Kn.Loc}(hO:ZP e 1 v n (zs.map (Value.int .i64)) L)(hn:n≤1000000)(I:Qv):
  Y7 Tryz.prog 135 [v] I L (fun u I' L'=>u= .tuple #[]∧I'=I∧ZP e 1 v n ((UO zs).map (Value.int .i64)) L'):=
 zv2 Tryz.slices_Sort_int Tryz.slices_Sort_int_none zs hO hn I
def zqW (b:Nat):Value:=.map (some b)
structure zgC (s:List (Int×Bool))(A:Int→Bool):Prop where
 nodup:(s.map (·.1)).Nodup
 all:∀ q∈s,q.2=true
 mem:∀ x,zqw s x=A x
theorem zgC.nil:zgC [] (fun _=>false):=⟨.nil,(fun q hq=>by cases hq),fun _=>rfl⟩
variable{s:List (Int×Bool)}{A:Int→Bool}
theorem zgC.put (h:zgC s A)(a:Int):zgC (JI s a true) (fun x=>decide (a=x)||A x) where
 nodup:=zjO a true h.nodup
 all:=by
  have key:∀ (s:List (Int×Bool)),(∀ q∈s,q.2=true)→∀ q∈JI s a true,q.2=true:=by
   intro s
   induction s with
   | nil=>intro _ q hq;simp [JI] at hq;rw [hq]
   | cons p s ih=>
    intro h q hq;unfold JI at hq;split at hq
    ·
     rcases List.mem_cons.1 hq with rfl | hq
     ·
      rfl
     ·
      exact h q (List.mem_cons_of_mem _ hq)
    ·
     rcases List.mem_cons.1 hq with rfl | hq
     ·
      exact h _ (List.mem_cons_self ..)
     ·
      exact ih (fun q hq=>h q (List.mem_cons_of_mem _ hq)) q hq
  exact key s h.all
 mem:=fun x=>by rw [ziz,h.mem]
theorem zgC.congr {B:Int→Bool}(h:zgC s A)(e:∀ x,A x=B x):zgC s B:=⟨h.nodup,h.all,fun x=>by rw [h.mem,e]⟩
variable{x:Int}
theorem zgC.key (h:zgC s A):A x=true↔x∈s.map (·.1):=by
 rw [←h.mem];unfold zqw;constructor
 ·
  intro h1
  cases hg:ZD s x with
  | none=>rw [hg] at h1;cases h1
  | some b=>exact List.mem_map.2 ⟨_,Wv hg,rfl⟩
 ·
  intro h1;obtain ⟨q,hq,rfl⟩:=List.mem_map.1 h1;rw [zto h.nodup hq,h.all q hq];rfl
def OnS (I:Qv)(ref:Nat)(A:Int→Bool):Prop:=∃ s:List (Int×Bool),I ref=some (Yw (Value.int .i64) Value.bool s)∧zgC s A
variable{I I':Qv}{ref:Nat}
theorem OnS.mono (h:OnS I ref A)(hI:HLe I I'):OnS I' ref A:=by
 obtain ⟨s,h1,h2⟩:=h;exact ⟨s,hI _ _ h1,h2⟩
def OnL (I:Qv)(m:List (Int×Nat))(ps:List Pt):Prop:=m.map (·.1)=ps.map (·.id)∧∀ q∈m,OnS I q.2 (onF ps q.1)
variable{m:List (Int×Nat)}{ps:List Pt}
theorem OnL.mono (h:OnL I m ps)(hI:HLe I I'):OnL I' m ps:=⟨h.1,fun q hq=>(h.2 q hq).mono hI⟩
theorem OnL.nil :OnL I [] (ps.take 0):=⟨by simp,fun q hq=>by cases hq⟩
def OnM (I:Qv)(r:Nat)(ps:List Pt):Prop:=∃ m:List (Int×Nat),I r=some (Yw (Value.int .i64) zqW m)∧OnL I m ps
variable{r:Nat}
theorem OnM.mono (h:OnM I r ps)(hI:HLe I I'):OnM I' r ps:=by
 obtain ⟨m,h1,h2⟩:=h;exact ⟨m,hI _ _ h1,h2.mono hI⟩
variable{a:Int}
theorem OnL.get (h:OnL I m ps)(ha:∃ q∈ps,q.id=a):∃ ref,ZD m a=some ref∧OnS I ref (onF ps a):=by
 cases hg:ZD m a with
 | none=>
  have:=zcm.1 hg;rw [h.1] at this;obtain ⟨q,hq,rfl⟩:=ha;exact absurd (List.mem_map.2 ⟨q,hq,rfl⟩) this
 | some ref=>exact ⟨ref,rfl,h.2 _ (Wv hg)⟩
variable{k:Nat}{p:Pt}
theorem Lst.before (h:Lst ps)(hk:ps[k]? =some p){n:Int}(hn:n∈p.needs):∃ q∈ps.take k,q.id=n:=by
 obtain ⟨h1,q,hq,rfl⟩:=h.has p (List.mem_of_getElem? hk) n hn;obtain ⟨j,hj⟩:=List.getElem?_of_mem hq;obtain ⟨hj1,hj2⟩:=List.getElem?_eq_some_iff.1 hj;obtain ⟨hk1,hk2⟩:=List.getElem?_eq_some_iff.1 hk
 have hjk:j<k:=by
  rcases Nat.lt_or_ge j k with h3 | h3
  ·
   exact h3
  ·
   exfalso;by_cases e:k=j
   ·
    subst e;rw [hk] at hj;cases hj;omega
   ·
    have:=List.pairwise_iff_getElem.1 h.inc k j hk1 hj1 kB;rw [hj2,hk2] at this;omega
 refine ⟨q,?_,rfl⟩;rw [List.mem_take_iff_getElem];exact ⟨j,kB,hj2⟩
theorem Lst.fresh (h:Lst ps)(hk:ps[k]? =some p):∀ q∈ps.take k,q.id<p.id:=fun q hq=>by
 obtain ⟨j,hj,rfl⟩:=List.mem_take_iff_getElem.1 hq;obtain ⟨hk1,hk2⟩:=List.getElem?_eq_some_iff.1 hk;have:=List.pairwise_iff_getElem.1 h.inc j k kB hk1 kB;rw [hk2] at this;exact this
theorem OnL.step (hL:Lst ps)(hk:ps[k]? =some p)(hm:OnL I m (ps.take k))(hb:I ref=some (Yw (Value.int .i64) Value.bool s))
  (hs:zgC s (fun x=>p.needs.any fun n=>n==x||onF (ps.take k) n x)):OnL I (JI m p.id ref) (ps.take (k+1)):=by
 have hfr:=hL.fresh hk
 have hnew:p.id∉m.map (·.1):=by
  rw [hm.1];intro h;obtain ⟨q,hq,e⟩:=List.mem_map.1 h;have:=hfr q hq;omega
 have hmi:JI m p.id ref=m++[(p.id,ref)]:=by
  refine zeb m p.id ref 0 ?_;have:=zcm.2 hnew;rw [←zb0 m p.id 0] at this;simpa using this
 rw [Wi hk];refine ⟨by rw [zbP,if_neg hnew,hm.1];simp,fun q hq=>?_⟩;rw [hmi] at hq;rcases List.mem_append.1 hq with hq | hq
 ·
  obtain ⟨s',h1,h2⟩:=hm.2 q hq;refine ⟨s',h1,h2.congr fun x=>?_⟩;have hne:q.1≠p.id:=fun e=>hnew (by rw [←e];exact List.mem_map.2 ⟨q,hq,rfl⟩);rw [zjm (fun z hz=>by simp at hz;subst hz;exact fun e=>hne e.symm)]
 ·
  simp at hq;subst hq;exact ⟨s,hb,hs.congr fun x=>(zfm (fun z hz=>by cases hz)).symm⟩
def zvn (sn:List (Int×Bool))(seen:List Nat)(x:Int):Bool:=seen.any fun i=>(sn[i]?.map (·.1))==some x
theorem zrq (sn:List (Int×Bool))(x:Int):zvn sn [] x=false:=rfl
variable{sn:List (Int×Bool)}{seen:List Nat}{i:Nat}
theorem znQ {p:Int×Bool}(hp:sn[i]? =some p)(x:Int):zvn sn (seen++[i]) x=(decide (p.1=x)||zvn sn seen x):=by
 unfold zvn;rw [List.any_append,Bool.eq_iff_iff];simp [hp,or_comm]
theorem zpO (h:zgC sn A)(hall:∀ i p,sn[i]? =some p→i∈seen)(x:Int):zvn sn seen x=A x:=by
 rw [Bool.eq_iff_iff,h.key];unfold zvn;rw [List.any_eq_true];constructor
 ·
  rintro ⟨i,_,hi⟩
  cases hx:sn[i]? with
  | none=>rw [hx] at hi;simp at hi
  | some p=>rw [hx] at hi;simp at hi;exact List.mem_map.2 ⟨p,List.mem_of_getElem? hx,hi⟩
 ·
  intro hx;obtain ⟨p,hp,rfl⟩:=List.mem_map.1 hx;obtain ⟨i,hi⟩:=List.getElem?_of_mem hp;exact ⟨i,hall i p hi,by rw [hi];simp⟩
variable{av:Option Addr}{c:Nat}
theorem zpv (hP:SlP I av n c ps)(hn:n≤100000)(hL:Lst ps)(hnd:∀ p∈ps,p.n≤100000):Y7 Tryz.prog 99 [.slice av n c] I [] (fun v I' L=>L=[]∧∃ r,v= .map (some r)∧OnM I' r ps):=by
 intro g H w hw;refine qe Tryz.func99 Tryz.ntmps99 hw ?_;have hIc:=zCA I;refine zR (zA<|zN (zR<|Yf rfl rfl (fun r_10=>zA (zN (Qm (zR<|zM ?_))))));refine zQ Yk ?_;refine zM (zN (Qr ?_));refine zU [(3,_),(11,_),(12,_)] (fun T L0 mz E I' loc'=>∃ (k:Nat) (m:List (Int×Nat)),mz=n-k∧E=(13,.int .i64 k)::T∧HLe I I'∧[(r_10,Yw (Value.int .i64) zqW m)]=loc'∧k≤n∧OnL I' m (ps.take k)) ?_ (h:=⟨0,[],rfl,rfl,zCA _,rfl,Nat.zero_le _,OnL.nil⟩);rintro mz E J1 loc' ⟨k,m,rfl,rfl,hJ,rfl,hk,hm⟩;have hP:=hP.mono hJ;have hIc:=hIc.trans hJ;have hB0:=hJ;refine zR (zC (zN (Qm ?_)));refine zI ?_ ?_<;>intro hc14
 ·
  have hlt_k:k<n:=(by have h:=hc14;simp at h;omega);have hP1:=hP.1;obtain ⟨p,hp,hN⟩:=hP.at hlt_k;have hpm:=List.mem_of_getElem? hp;have hN:Sl J1 1 ZX p.a p.n p.c p.needs:=hN;have hpn:=hnd p hpm;refine Qp (Qc (Qm (Qr (zR<|zV (QC rfl rfl Yk kH (fun hg=>kB))<|zV (Qg rfl Y6 (fun hg=>by exact zCB hP.1 hp) rfl)<|Qt zco rfl rfl (fun b_5=>zh UP<|zN (zR<|Yf rfl rfl (fun r_17=>zA (zN (Qm (zR<|zF ZL ?_))))))))));refine zL YW<|zQ Q4 ?_
  refine zM (zN (Qr ?_));refine zU [(3,_),(5,_),(6,_),(11,_),(12,_),(13,_),(19,_),(20,_)] (fun T L0 mz E I' loc'=>∃ (j:Nat) (s:List (Int×Bool)),mz=p.n-j∧E=(21,.int .i64 j)::T∧J1=I'∧[(r_17,Yw (Value.int .i64) Value.bool s),(b_5,.cells (K2 p).toArray 39 (0,0)),(r_10,Yw (Value.int .i64) zqW m)]=loc'∧j≤p.n∧zgC s (fun x=>(p.needs.take j).any fun n=>n==x||onF (ps.take k) n x)) ?_ (h:=⟨0,[],rfl,rfl,rfl,rfl,Nat.zero_le _,zgC.nil⟩);rintro mz E I' loc' ⟨j,s,rfl,rfl,rfl,rfl,hj,hs⟩;refine zR (zC (zN (Qm ?_)));refine zI ?_ ?_<;>intro hc22
  ·
   have hlt_j:j<p.n:=(by have h:=hc22;simp at h;omega);obtain ⟨y,hy⟩:=hN.at hlt_j;obtain ⟨ref,hget,sn,hsn,hsq⟩:=hm.get (hL.before hp (List.mem_of_getElem? hy));refine Qp (Qc (Qm (Qr (zR<|zV (QC rfl rfl Q4 kH (fun hg=>kB))<|zV (Qd rfl Qn (fun hg=>by exact zCt hN hy rfl))<|zA<|zN (zR ?_)))));refine zM ?_;refine zM<|YC (m:=s) (ek:=Value.int .i64) (ev:=Value.bool) (a:=y) true Xh Zc rfl rfl rfl rfl (by repeat (first | exact Upd.here | apply Upd.there | apply ZC))<|zN (zR ?_)
   refine zM ?_;refine zM<|zV (zal (m:=m) (ek:=Value.int .i64) (ev:=zqW) (a:=y) hget zdZ Zc rfl rfl (fun _=>.inr kJ))<|zqy (ek:=Value.int .i64) (ev:=Value.bool) (m:=sn) rfl Xh rfl rfl (.inl hsn) (fun b_30=>zN (Qr<|zU [(3,_),(5,_),(6,_),(11,_),(12,_),(13,_),(19,_),(20,_),(21,_),(30,_)] (fun T L0 mz E I' loc'=>∃ (seen:List Nat) (s:List (Int×Bool)),mz=sn.length-seen.length∧E=T∧J1=I'∧[(b_30,U8 ref sn.length seen),(r_17,Yw (Value.int .i64) Value.bool s),(b_5,.cells (K2 p).toArray 39 (0,0)),(r_10,Yw (Value.int .i64) zqW m)]=loc'∧zgC s (fun x=>zvn sn seen x||(decide (y=x)||(p.needs.take j).any fun n=>n==x||onF (ps.take k) n x))∧seen.Nodup∧∀ i∈seen,i<sn.length) ?_ (h:=⟨[],_,rfl,rfl,rfl,rfl,(hs.put y).congr (fun x=>by rw [zrq,Bool.false_or]),.nil,fun i h=>by cases h⟩)))
   rintro mz E I' loc' ⟨seen,s,rfl,rfl,rfl,rfl,hs,hnd2,hlt⟩;have hsl:=zku hnd2 hlt;refine zR<|zqk (ek:=Value.int .i64) (ev:=Value.bool) (m:=sn) (fun s'=>[(b_30,U8 ref sn.length s'),(r_17,Yw (Value.int .i64) Value.bool s),(b_5,.cells (K2 p).toArray 39 (0,0)),(r_10,Yw (Value.int .i64) zqW m)]) rfl (fun s'=>.here) rfl rfl rfl rfl rfl (.inl hsn) kJ ?_
   intro t tv s' hno hyes;refine zN (Qm ?_);refine zI ?_ ?_<;>intro hc32
   ·
    obtain ⟨i,q,hq,hns,rfl⟩:=hyes hc32;refine Qp (Qc (Qr (zR<|zV (zpM (ek:=Value.int .i64) (ev:=Value.bool) (m:=sn) (p:=q) (seen:=seen) (i:=i) rfl (.inl hsn) (.inr kJ) hq)<|zE<|zA (zN (Qh<|zM ?_)))));refine zM<|YC (m:=s) (ek:=Value.int .i64) (ev:=Value.bool) (a:=q.1) true Xh Zc rfl rfl rfl rfl (by repeat (first | exact Upd.here | apply Upd.there | apply ZC))<|Qb (Qi ?_)
    have hnd3:(seen++[i]).Nodup:=List.nodup_append.2 ⟨hnd2,by simp,fun a ha b hb e=>hns (by simp at hb;subst hb;subst e;exact ha)⟩;have hlt3:∀ j∈seen++[i],j<sn.length:=fun j hj=>(List.mem_append.1 hj).elim (hlt j) (fun h=>by simp at h;subst h;exact (List.getElem?_eq_some_iff.1 hq).1);have hsl2:=zku hnd3 hlt3;rw [List.length_append,List.length_singleton] at hsl2;exact zm (h:=⟨sn.length-(seen++[i]).length,by rw [List.length_append,List.length_singleton];omega,seen++[i],_,rfl,rfl,rfl,rfl,(hs.put q.1).congr (fun x=>by rw [znQ hq,Bool.or_assoc]),hnd3,hlt3⟩)
   obtain ⟨rfl,hall⟩:=hno hc32;refine Q6 (Ql (Ql (Qq (Qi (Qc (Qh (zB<|zM (Qb ?_))))))));exact zm (h:=⟨p.n-(j+1),kB,j+1,_,rfl,rfl,rfl,rfl,kB,hs.congr (fun x=>by rw [zbk hy,zpO hsq hall x];rw [Bool.eq_iff_iff];simp;grind)⟩)
  have hge_j:p.n≤j:=(by have h:=hc22;simp at h;omega);refine Q6 (Ql (Ql (Qq (Qc<|QH .here (fun I4 hI4 hb4=>?_)))));have hm:=hm.mono hI4;have hB0:=hB0.trans hI4;have hbx:=hb4;refine Qh (zM<|zF ZR ?_);refine zL Qn<|zM<|YC (m:=m) (ek:=Value.int .i64) (ev:=zqW) (a:=p.id) r_17 zdZ Zc rfl rfl rfl rfl (by repeat (first | exact Upd.here | apply Upd.there | apply ZC))<|Qb (Qi (Qc (Qh (zB<|zM (Qb ?_)))))
  exact zm (h:=⟨n-(k+1),kB,k+1,_,rfl,rfl,hB0,rfl,kB,OnL.step hL hp hm hbx (by rw [ZB hN.len hge_j] at hs;exact hs)⟩)
 have hge_k:n≤k:=(by have h:=hc14;simp at h;omega);rw [ZB hP.len hge_k] at hm;refine Q6 (Ql (Ql (Qq (Qc (zR (zM<|zA (zN (Qs ?_))))))));exact QA rfl rfl (fun w hw=>by obtain ⟨I9,h91,h92,h93⟩:=hw.freezeAll;exact ⟨_,I9,[],rfl,hIc.trans h91,h92,rfl,r_10,rfl,m,h93 _ _ kJ,hm.mono h91⟩)
theorem zmw (x:Sg):(zjw [x]==0)=frm x:=by
 unfold zjw skB skP;cases h:frm x<;>simp [h]
theorem zik (a b c d x y:Bool):(((((a&&b)&&c)&&d)&&x)&&y)=(((a&&b)&&(c&&d))&&(x&&y)):=by simp only [Bool.and_assoc]
theorem zsu (a b c d x y z:Bool):((((((a&&b)&&c)&&d)&&x)&&y)&&z)=(((a&&b)&&(c&&d))&&(x&&(y&&z))):=by simp only [Bool.and_assoc]
theorem zrO (I:Qv)(x:Sg):ZF Tryz.prog 162 [Xa x] I (.bool (frm x)):=by
 intro g H w hw;refine qe Tryz.func162 Tryz.ntmps162 hw ?_;have hIc:=zCA I;refine zR<|QQ rfl rfl rfl (fun b_1=>zA<|zN (zR<|zV (Qg rfl ZJ (fun hg=>by exact Cells.g0) rfl)<|zpb [(0,_)] [zgB x] znw (fun b_4=>QU .here (fun I1 hI1 hb1=>?_))))
 have hIc:=hIc.trans hI1;have hS:=Sl.lit [x] rfl zh7 (show _=some (Obj.cells (([x]:List Sg).flatMap zgB).toArray 36 (0,0)) from hb1);refine qcV (vs:=[_]) rfl zu0 (zzS hS kD)<|zC<|zA (zN (Qs ?_))
 exact zp hIc rfl rfl (by rw [zmw])
theorem zrT (p:Pt)(hN:Nd I p):ZF Tryz.prog 96 [Ko p] I (.int .i64 (KJ p)):=by
 intro g H w hw;refine qe Tryz.func96 Tryz.ntmps96 hw ?_;have hN:Sl I 1 ZX p.a p.n p.c p.needs:=hN;refine zR<|QQ rfl rfl rfl (fun b_1=>zA (zN (Qm (zR<|zF ZL ?_))))
 refine zL YW<|zQ Q4<|zC (zN ?_)
 refine zI ?_ ?_<;>intro hc11
 ·
  have hlen:p.needs.length>32:=(by rw [hN.len];simp at hc11;omega);exact zR (zA (zN (Qs (Qf<|zr rfl rfl (by rw [zrJ hlen])))))
 have hlen:¬p.needs.length>32:=(by rw [hN.len];simp at hc11;omega);have hpn:p.n≤100000:=(by have:=hN.len;omega);refine Qp (Qc (zR (zA (zN (Qm (zR<|zF ZL ?_))))));refine zL YW<|zQ Q4 ?_
 refine zM (zN (Qr ?_));refine zU [(1,_),(13,_),(14,_)] (fun T L0 mz E I' loc'=>∃ (k:Nat) (l:Int),mz=p.n-k∧E=(3,.int .i64 l)::(15,.int .i64 k)::T∧I=I'∧L0=loc'∧k≤p.n∧(List.range k).all (ndP p.id p.needs)=true∧zjI p.needs k l) ?_ (h:=⟨0,0,rfl,rfl,rfl,rfl,Nat.zero_le _,rfl,⟨fun _=>rfl,fun y hy h=>absurd rfl h⟩⟩);rintro mz E I' loc' ⟨k,l,rfl,rfl,rfl,rfl,hk,hall,hl⟩;refine zR (zC (zN (Qm ?_)));refine zI ?_ ?_<;>intro hc16
 ·
  have hlt_k:k<p.n:=(by have h:=hc16;simp at h;omega);obtain ⟨x,hx⟩:=hN.at hlt_k;refine Qp (Qc (Qm (Qr (zR<|zV (QC rfl rfl Q4 kH (fun hg=>kB))<|zV (Qd rfl Qn (fun hg=>by exact zCt hN hx rfl))<|zA (zN (Qm (zR<|zM ?_)))))));refine zM<|zC<|zM<|QK 3 rfl rfl rfl ?_
  refine zJ (Qe rfl) ?_;refine zJ (Qa rfl ZR) ?_;refine zJ (Qd rfl Qn (fun hg=>by exact Qz.h0 rfl)) ?_;refine zJ (QE rfl rfl rfl)<|Zf rfl rfl rfl rfl rfl<|zN ?_
  refine zI ?_ ?_<;>intro hc27
  ·
   have hnd:ndB p.id p.needs=false:=(by unfold ndB;exact VY (k:=k) (by rw [hN.len];exact hlt_k) (by rw [zwT hall hl hx,hc27];rfl));exact zR (zA (zN (Qs (Qf (Qj (Qf (Qf<|Qj (Qf<|zr rfl rfl (by rw [zyT hlen hnd])))))))))
  refine Qp (Qc (Qh (zM<|zA (Qb (Qi (Qc (Qh<|zB<|zM (Qb ?_))))))));exact zm (h:=⟨p.n-(k+1),kB,k+1,_,rfl,rfl,rfl,rfl,kB,VH hall (by rw [zwT hall hl hx,hc27];rfl),zdd hx⟩)
 have hge_k:p.n≤k:=(by have h:=hc16;simp at h;omega);have hnd:ndB p.id p.needs=true:=(by unfold ndB;rw [hN.len,show p.n=k by omega];exact hall);refine Q6 (Ql (Ql (Qq (Qc (zR<|zF ZR ?_)))));refine zL Qn<|zC<|zM<|Qu 3 rfl rfl rfl ?_
 refine zK (Qa rfl ZR) ?_;refine zK (Qd rfl Qn (fun hg=>by exact Qz.h0 rfl))<|zK (QE rfl rfl rfl) ?_
 refine QD rfl rfl rfl rfl rfl<|zM<|Qu 8 rfl rfl rfl ?_
 refine zK (Qa rfl Ym) ?_;refine zK (Qd rfl Qn (fun hg=>by exact Qz.h0 rfl))<|zK (QE rfl rfl rfl) ?_
 refine QD rfl rfl rfl rfl rfl<|zM<|Qu 13 rfl rfl rfl ?_
 refine zK (Qa rfl Ym) ?_;refine zK (Qd rfl Qn (fun hg=>by exact Qz.h0 rfl))<|zK (QE rfl rfl rfl) ?_
 refine QD rfl rfl rfl rfl rfl<|zA (zN (Qm (zR<|zF V2 ?_)))
 refine zL Qn<|zN (Qr (zR (zC<|zA (zN ?_))))
 refine zI ?_ ?_<;>intro hc50
 ·
  have hk:p.kind=1:=(by simpa using hc50);refine Qm (zR<|zF Yz ?_);refine zL Qn<|zC<|zM<|QK 3 rfl rfl rfl ?_
  refine zJ (Qa rfl Yz)<|zJ (Qd rfl Qn (fun hg=>by exact Qz.h0 rfl))<|zJ (QE rfl rfl rfl)<|Zf rfl rfl rfl rfl rfl<|zN ?_
  refine zI ?_ ?_<;>intro hc59
  ·
   have hb:(idB p&&U0 p)=false:=zzH hk (by unfold within;simp at hc59 ⊢;omega);exact zR (zA (zN (Qs (Qf (Qj (Qf<|zr rfl rfl (by rw [zgb hlen hnd hb])))))))
  have hf:isF p.field:=(by have h:=hc59;unfold isF;simp at h;omega);have hw1:within p.field 1 9=true:=(by have h:=hc59;unfold within;simp at h ⊢;omega);refine Qp (Qc (zR<|zV (QF (ps:=[(1,_)]) [_,_] zc3 rfl rfl) ?_));refine zV (QF (ps:=[(0,_),(1,_)]) [_,_] zc3 rfl rfl) ?_;refine zV (QF (ps:=[(3,_),(4,_),(10,_),(11,_)]) [_,_,_,_,_,_,_,_,_,_,_,_,_,_] XZ rfl rfl)<|Qt zhA rfl rfl (fun b_7=>zh Jk<|zN (Qh (zM<|zM<|Qu 1 rfl rfl rfl ?_)))
  refine zK (Qa rfl YL)<|zK (Qg rfl ZJ (fun hg=>by exact Cells.s1 (vs:=[_,_,_,_,_,_,_,_,_,_,_,_,_,_]) rfl) rfl) ?_
  refine zK (Qa rfl Yz) ?_;refine zK (Qd rfl Qn (fun hg=>by exact Qz.h1 rfl))<|zK (QF (ps:=[]) [_,_,_,_,_,_,_,_,_,_,_,_,_,_] XZ rfl rfl)<|qg (vs:=[_,_,_]) rfl zmE (fun hg=>zzT I p.nw p.field JZ hf)<|zK (QF (ps:=[]) [_,_,_,_,_,_,_,_,_,_,_,_,_,_] XZ rfl rfl)<|zK (U4 rfl rfl W7 rfl)<|QD rfl rfl rfl rfl rfl<|zM<|Qu 11 rfl rfl rfl ?_
  refine zK (Qg rfl ZJ (fun hg=>by exact Cells.g0) rfl) ?_;refine zK (Qa rfl Yz) ?_;refine zK (Qd rfl Qn (fun hg=>by exact Qz.h1 rfl))<|zK (Qa rfl YL)<|zK (Qg rfl ZJ (fun hg=>by exact Cells.s1 (vs:=[_,_,_,_,_,_,_,_,_,_,_,_,_,_]) rfl) rfl)<|qg (vs:=[_,_,_]) rfl zmE (fun hg=>zzT I zfG p.field p.nw hf)<|qg (vs:=[_]) rfl zmB (fun hg=>zrO I _)<|QD rfl rfl rfl rfl rfl<|zA (Qb (Qi (Qc (Qm (zR<|zM<|zO (zN ?_))))))
  refine zI ?_ ?_<;>intro hc119
  ·
   have hb:(idB p&&U0 p)=false:=(by (exact (show (idB p&&U0 p)=false from by rw [zu8 hk hw1];exact (zik _ _ _ _ _ _).symm.trans ((Bool.not_eq_true' _).mp hc119))));exact zR (zA (zN (Qs (Qf<|zr rfl rfl (by rw [zgb hlen hnd hb])))))
  have hb:(idB p&&U0 p)=true:=(by (exact (show (idB p&&U0 p)=true from by rw [zu8 hk hw1];exact (zik _ _ _ _ _ _).symm.trans ((Bool.not_eq_false' _).mp hc119))));exact Qp (Qc (zR (zA (zN (Qs<|zr rfl rfl (by rw [zjg hlen hnd hb]))))))
 have hk1:p.kind≠1:=(by simpa using hc50);refine zR (zC<|zA (zN ?_));refine zI ?_ ?_<;>intro hc83
 ·
  have hk:p.kind=2:=(by simpa using hc83);refine Qh (zM ?_);refine zM<|Qu 1 rfl rfl rfl ?_
  refine zK (Qa rfl Yz) ?_;refine zK (Qd rfl Qn (fun hg=>by exact Qz.h0 rfl))<|zK (QE rfl rfl rfl) ?_
  refine QD rfl rfl rfl rfl rfl<|zM<|Qu 6 rfl rfl rfl ?_
  refine zK (Qa rfl YL)<|zK (Qa rfl JS) ?_
  refine zK (Qd rfl Qn (fun hg=>by exact Qz.h0 rfl))<|zK (Qa rfl Ym) ?_
  refine zK (Qd rfl Qn (fun hg=>by exact Qz.h0 rfl))<|zK (QE rfl rfl rfl) ?_
  refine QD rfl rfl rfl rfl rfl<|zM<|Qu 14 rfl rfl rfl ?_
  refine zK (Qa rfl YL)<|zK (Qg rfl ZJ (fun hg=>by exact Cells.s0 (vs:=[_,_,_,_,_,_,_,_,_,_,_,_,_,_]) rfl) rfl)<|qg (vs:=[_]) rfl zmB (fun hg=>zrO I _)<|QD rfl rfl rfl rfl rfl<|zA (Qb (Qi (Qc (Qm (zR<|zM<|zO (zN ?_))))))
  refine zI ?_ ?_<;>intro hc119
  ·
   have hb:(idB p&&U0 p)=false:=(by (exact (show (idB p&&U0 p)=false from by rw [zv0 hk];exact (zsu _ _ _ _ _ _ _).symm.trans ((Bool.not_eq_true' _).mp hc119))));exact zR (zA (zN (Qs (Qf<|zr rfl rfl (by rw [zgb hlen hnd hb])))))
  have hb:(idB p&&U0 p)=true:=(by (exact (show (idB p&&U0 p)=true from by rw [zv0 hk];exact (zsu _ _ _ _ _ _ _).symm.trans ((Bool.not_eq_false' _).mp hc119))));exact Qp (Qc (zR (zA (zN (Qs<|zr rfl rfl (by rw [zjg hlen hnd hb]))))))
 have hk2:p.kind≠2:=(by simpa using hc83);refine zR (zC<|zA (zN ?_));refine zI ?_ ?_<;>intro hc104
 ·
  have hk:p.kind=3:=(by simpa using hc104);refine Qh (zM ?_);refine zM<|Qu 1 rfl rfl rfl ?_
  refine zK (Qa rfl Yz) ?_;refine zK (Qd rfl Qn (fun hg=>by exact Qz.h0 rfl))<|zK (QE rfl rfl rfl) ?_
  refine QD rfl rfl rfl rfl rfl<|zM<|Qu 6 rfl rfl rfl ?_
  refine zK (Qa rfl YL)<|zK (Qg rfl ZJ (fun hg=>by exact Cells.s0 (vs:=[_,_,_,_,_,_,_,_,_,_,_,_,_,_]) rfl) rfl)<|zK (QF (ps:=[]) [_,_,_,_,_,_,_,_,_,_,_,_,_,_] XZ rfl rfl)<|zK (U4 rfl rfl W7 rfl)<|QD rfl rfl rfl rfl rfl<|zA (Qb (Qi (Qc (Qm (zR<|zM<|zO (zN ?_))))))
  refine zI ?_ ?_<;>intro hc119
  ·
   have hb:(idB p&&U0 p)=false:=(by (exact (show (idB p&&U0 p)=false from by rw [zud hk];exact (zik _ _ _ _ _ _).symm.trans ((Bool.not_eq_true' _).mp hc119))));exact zR (zA (zN (Qs (Qf<|zr rfl rfl (by rw [zgb hlen hnd hb])))))
  have hb:(idB p&&U0 p)=true:=(by (exact (show (idB p&&U0 p)=true from by rw [zud hk];exact (zik _ _ _ _ _ _).symm.trans ((Bool.not_eq_false' _).mp hc119))));exact Qp (Qc (zR (zA (zN (Qs<|zr rfl rfl (by rw [zjg hlen hnd hb]))))))
 have hk3:p.kind≠3:=(by simpa using hc104);refine Qh (zA (Qb (Qi (Qc (Qm (zR ?_))))));refine zM<|zO (zN ?_)
 refine zI ?_ ?_<;>intro hc119
 ·
  have hb:(idB p&&U0 p)=false:=(by exact zAE hk1 hk2 hk3);exact zR (zA (zN (Qs (Qf<|zr rfl rfl (by rw [zgb hlen hnd hb])))))
 have hb:(idB p&&U0 p)=true:=(by (exfalso;have h:=hc119;simp at h));exact Qp (Qc (zR (zA (zN (Qs<|zr rfl rfl (by rw [zjg hlen hnd hb]))))))
variable{xs:List Int}{fid:Nat}{cap:List Value}{P:Int→Bool}
theorem zBc (hS:Sl I 1 ZX av n c xs)(hn:n≤100000)(hF:Fun Tryz.prog fid)(hf:∀ x∈xs,ZF Tryz.prog fid ([.int .i64 x]++cap) I (.bool (P x))):ZF Tryz.prog 163 [.slice av n c,.func (.func fid) #[] cap.toArray] I (.int .i64 (zkm P xs)):=by
 intro g H w hw;refine qe Tryz.func163 Tryz.ntmps163 hw ?_;have hS:=hS;refine zR (zA (zN (Qm (zR ?_))));refine zM ?_;refine zQ Q4 ?_;refine zM (zN (Qr ?_));refine zU [(0,_),(1,_),(7,_)] (fun T L0 mz E I' loc'=>∃ (k:Nat),mz=n-k∧E=(8,.int .i64 k)::T∧I=I'∧L0=loc'∧k≤n∧(xs.take k).any P=false) ?_ (h:=⟨0,rfl,rfl,rfl,rfl,Nat.zero_le _,rfl⟩);rintro mz E I' loc' ⟨k,rfl,rfl,rfl,rfl,hk,hno⟩;refine zR (zC (zN (Qm ?_)));refine zI ?_ ?_<;>intro hc9
 ·
  have hlt_k:k<n:=(by have h:=hc9;simp at h;omega);obtain ⟨x,hx⟩:=hS.at hlt_k;refine Qp (Qc (Qm (Qr (zR (zM<|zA<|zN (zR ?_))))));refine zM ?_;refine zM ?_;refine zM ?_;refine zV (QC rfl rfl Q4 kH (fun hg=>kB))<|zV (Qd rfl Qn (fun hg=>by exact zCt hS hx rfl))<|VW (cap:=cap) (vs:=[_]) rfl rfl hF (hf x (List.mem_of_getElem? hx)) rfl rfl<|zN ?_
  refine zI ?_ ?_<;>intro hc16
  ·
   refine zR (zM<|zA (zN (Qs (Qj (Qf (Qf (Qj (Qf ?_))))))));exact zr rfl rfl (by rw [zcE hno hx hc16])
  exact Qp (Qi (Qc (Qh (zB<|zM (Qb<|zm (h:=⟨n-(k+1),kB,k+1,rfl,rfl,rfl,rfl,kB,zav hx hno hc16⟩))))))
 have hge_k:n≤k:=(by have h:=hc9;simp at h;omega);exact Q6 (Ql (Ql (Qq (Qc (zR (zA (zN<|Qs<|zr rfl rfl (by rw [zbb hS.len hge_k hno]))))))))
theorem zAI (hS:Sl I 1 ZX av n c xs)(hn:n≤100000)(hF:Fun Tryz.prog fid)(hf:∀ x∈xs,ZF Tryz.prog fid ([.int .i64 x]++cap) I (.bool (P x))):ZF Tryz.prog 97 [.slice av n c,.func (.func fid) #[] cap.toArray] I (.bool (xs.any P)):=by
 intro g H w hw;refine qe Tryz.func97 Tryz.ntmps97 hw ?_;refine zR (zA<|zN (zR ?_));refine zM ?_;refine zM<|qcV (vs:=[_,_]) rfl ztE (zBc hS hn hF hf)<|zC<|zA (zN (Qs ?_))
 exact zr rfl rfl (by rw [←zhO])
theorem zA1 {b:Nat}(hb:I b=some (.cells #[.map (some r)] 143 (0,0)))(hr:I r=some (Yw (Value.int .i64) Value.bool s))(x:Int):ZF Tryz.prog 98 [.int .i64 x,.pointer (some ⟨b,0,none⟩)] I (.bool (!zqw s x)):=by
 intro g H w hw;refine qe Tryz.func98 Tryz.ntmps98 hw ?_;refine zR (zA<|zN (zR<|zV (Qd rfl zl6 (fun hg=>by exact .imm hb rfl))<|zM<|zV (YZ Xh Zc rfl rfl (fun _=>.inl hr))<|zO<|zA (zN (Qs ?_))));exact zr rfl rfl kU
theorem Q8:AgT Tryz.prog 45 45:=.of kA
theorem JB:ElT Tryz.prog 63 41 5 40:=.of kA
theorem Vm:QL Tryz.prog 43 5 5:=.of kA
theorem zvh:Fun Tryz.prog 170:=.of Tryz.func170 kA kA
theorem zuZ:Fun Tryz.prog 171:=.of Tryz.func171 kA kA
theorem Xf:Fun Tryz.prog 172:=.of Tryz.func172 kA kA
theorem zn9:Fun Tryz.prog 37:=.of Tryz.func37 kA kA
theorem zsI:Fun Tryz.prog 38:=.of Tryz.func38 kA kA
theorem zm5:Fun Tryz.prog 40:=.of Tryz.func40 kA kA
theorem Ur (x:Nt)(hN:Nd I x.pt):ZF Tryz.prog 108 [Kj x] I (.bool (QO x)):=by
 intro g H w hw;refine qe Tryz.func108 Tryz.ntmps108 hw ?_;have hIc:=zCA I;refine zR<|QQ rfl rfl rfl (fun b_1=>zA (Qb<|QH .here (fun I1 hI1 hb1=>?_)))
 have hN:=hN.mono hI1;have hIc:=hIc.trans hI1;have h1:=BxI.of hb1;refine Qc (zR (zA (zN (Qm (zR<|zF YV ?_)))));refine zV (Qd rfl Qn (fun hg=>by exact Qz.imm h1.out rfl))<|zN (Qr (zR (zC<|zA (zN ?_))))
 refine zI ?_ ?_<;>intro hc10
 ·
  have k1:x.kind=1:=(by simpa using hc10);refine Qm ?_;by_cases he:x.lm.ends=0
  ·
   have hlC:lmC x.lm=[x.lm]:=if_pos he;refine Qh<|zF YX ?_
   refine zV (Qg rfl Jr (fun hg=>by exact zdW (BxI.cells (vs:=Q7 x) h1)) rfl)<|zpb [(0,_)] [_] VQ (fun b_14=>QU (by repeat (first | exact Z3.here | apply Z3.there)) (fun I2 hI2 hb2=>?_))
   have h1:=h1.mono hI2;have hIc:=hIc.trans hI2;have hF:=Sl.lit [x.lm] rfl YI (show I2 b_14=some (Obj.cells ([x.lm].flatMap Zi).toArray 32 (0,0)) from hb2);refine zA (zN (Qm (zR<|zF YX<|zF YY ?_)));refine zV (Qd rfl Qn (fun hg=>by exact Qz.imm h1.out rfl))<|zA<|zN (zR ?_)
   refine zM<|zC (zN ?_)
   refine zI ?_ ?_<;>intro hc19
   ·
    exact absurd hc19 (by simp [he])
   refine Qp (Qc (Qh (zM ?_)));refine qcV (vs:=[_]) rfl zn9 (zlv hF kD)<|zA (Qb (Qi (Qc (zR<|zM<|zC<|zM<|Qu 2 rfl rfl rfl ?_))))
   refine zK (Qg rfl Q8 (fun hg=>by exact BxI.cells (vs:=Q7 x) h1) rfl)<|qg (vs:=[_]) rfl Xf (fun hg=>WQ x)<|QD rfl rfl rfl rfl rfl<|zA (zN (Qs ?_))
   first
   | exact zp hIc rfl rfl (by rw [QO,WV,if_pos k1,hlC]<;>rfl)
  have hlC:lmC x.lm=[⟨IntKind.i64.wrap (x.lm.ends-1),x.lm.person,0,0,0,0,3,0,1⟩,x.lm]:=if_neg he;refine Qh<|zF YX ?_
  refine zV (Qg rfl Jr (fun hg=>by exact zdW (BxI.cells (vs:=Q7 x) h1)) rfl)<|zpb [(0,_)] [Zi x.lm] VQ (fun b_14=>zA (zN (Qm (zR<|zF YX<|zF YY ?_))))
  refine zV (Qd rfl Qn (fun hg=>by exact Qz.imm h1.out rfl))<|zA<|zN (zR ?_)
  refine zM<|zC (zN ?_)
  refine zI ?_ ?_<;>intro hc19
  ·
   refine Qh (zM ?_);refine zM<|zV (UU rfl rfl rfl)<|zF YX<|zF Js ?_
   refine zV (Qd rfl Qn (fun hg=>by exact Qz.imm h1.out rfl))<|zV (QF (ps:=[(0,_),(2,_)]) [_,_,_] zbV rfl rfl) ?_
   refine zV (QF (ps:=[(0,_),(1,_),(6,_)]) [_,_,_,_,_,_,_,_,_] zdv rfl rfl)<|zpb [(0,_)] [Zi (⟨IntKind.i64.wrap (x.lm.ends-1),x.lm.person,0,0,0,0,3,0,1⟩)] VQ (fun b_28=>zpc [_,_,_] rfl zvh (.cons (.there .here) (.cons .here .nil)) (zmF (zeD (b:=b_14) (n:=1) (c:=1) (xs:=[x.lm]) (rest:=[]) rfl (Nat.le_refl _) kD kJ rfl) kD rfl (i:=0) kD b_28 (⟨IntKind.i64.wrap (x.lm.ends-1),x.lm.person,0,0,0,0,3,0,1⟩)) ?_)
   rintro vv3 I3 L3 hI3 ⟨rfl,hOi⟩;have h1:=h1.mono hI3;have hIc:=hIc.trans hI3;refine zA (zN<|zx4 hOi YI (fun I4 hI4 af4 cf4 ef4 hM=>?_));subst ef4;have h1:=h1.mono hI4;have hIc:=hIc.trans hI4;refine Qh (zM<|qcV (vs:=[_]) rfl zn9 (zlv hM kD)<|zA (Qb (Qi (Qc (zR<|zM<|zC<|zM<|Qu 2 rfl rfl rfl ?_)))));refine zK (Qg rfl Q8 (fun hg=>by exact BxI.cells (vs:=Q7 x) h1) rfl)<|qg (vs:=[_]) rfl Xf (fun hg=>WQ x)<|QD rfl rfl rfl rfl rfl<|zA (zN (Qs ?_))
   first
   | exact zp hIc rfl rfl (by rw [QO,WV,if_pos k1,hlC]<;>rfl)
  exact absurd hc19 (by simpa using he)
 have k1:¬x.kind=1:=(by simpa using hc10);refine zR (zC<|zA (zN ?_));refine zI ?_ ?_<;>intro hc32
 ·
  have k2:x.kind=2:=(by simpa using hc32);refine Qh<|zF Yi ?_
  refine zV (Qg rfl Y6 (fun hg=>by exact za1 (BxI.cells (vs:=Q7 x) h1)) rfl)<|qcV (vs:=[_]) rfl zrI (zrT x.pt hN)<|zA (Qb (Qi (Qc (zR<|zM<|zC<|zM<|Qu 2 rfl rfl rfl ?_))))
  refine zK (Qg rfl Q8 (fun hg=>by exact BxI.cells (vs:=Q7 x) h1) rfl)<|qg (vs:=[_]) rfl Xf (fun hg=>WQ x)<|QD rfl rfl rfl rfl rfl<|zA (zN (Qs ?_))
  first
  | exact zp hIc rfl rfl (by rw [QO,WV,if_neg k1,if_pos k2]<;>rfl)
 have k2:¬x.kind=2:=(by simpa using hc32);refine zR (zC<|zA (zN ?_));refine zI ?_ ?_<;>intro hc37
 ·
  have k3:x.kind=3:=(by simpa using hc37);refine Qh<|zF Vy ?_
  refine zV (Qg rfl Jp (fun hg=>by exact zdJ (BxI.cells (vs:=Q7 x) h1)) rfl)<|zpb [(0,_)] [_] JB (fun b_41=>QU (by repeat (first | exact Z3.here | apply Z3.there)) (fun I5 hI5 hb5=>?_))
  have h1:=h1.mono hI5;have hIc:=hIc.trans hI5;have hF:=Sl.lit [x.ls] rfl L.encL_len (show I5 b_41=some (Obj.cells ([x.ls].flatMap L.encL).toArray 41 (0,0)) from hb5);refine qcV (vs:=[_]) rfl zsI (L.w_check hF kD)<|zA (Qb (Qi (Qc (zR<|zM<|zC<|zM<|Qu 2 rfl rfl rfl ?_))))
  refine zK (Qg rfl Q8 (fun hg=>by exact BxI.cells (vs:=Q7 x) h1) rfl)<|qg (vs:=[_]) rfl Xf (fun hg=>WQ x)<|QD rfl rfl rfl rfl rfl<|zA (zN (Qs ?_))
  first
  | exact zp hIc rfl rfl (by rw [QO,WV,if_neg k1,if_neg k2,if_pos k3]<;>rfl)
 have k3:¬x.kind=3:=(by simpa using hc37);refine zR (zC<|zA (zN ?_));refine zI ?_ ?_<;>intro hc43
 ·
  have k4:x.kind=4:=(by simpa using hc43);refine Qm ?_;by_cases he:x.rt.ends=0
  ·
   have hlC:rtC x.rt=[x.rt]:=if_pos he;refine Qh<|zF Yj ?_
   refine zV (Qg rfl YE (fun hg=>by exact zez (BxI.cells (vs:=Q7 x) h1)) rfl)<|zpb [(0,_)] [_] VM (fun b_47=>QU (by repeat (first | exact Z3.here | apply Z3.there)) (fun I6 hI6 hb6=>?_))
   have h1:=h1.mono hI6;have hIc:=hIc.trans hI6;have hF:=Sl.lit [x.rt] rfl S.encR_len (show I6 b_47=some (Obj.cells ([x.rt].flatMap S.encR).toArray 43 (0,0)) from hb6);refine zA (zN (Qm (zR<|zF Yj<|zF Vm ?_)));refine zV (Qd rfl Qn (fun hg=>by exact Qz.imm h1.out rfl))<|zA<|zN (zR ?_)
   refine zM<|zC (zN ?_)
   refine zI ?_ ?_<;>intro hc52
   ·
    exact absurd hc52 (by simp [he])
   refine Qp (Qc (Qh (zM ?_)));refine qcV (vs:=[_]) rfl zm5 (S.w_check hF kD)<|zA (Qb (Qi (Qc (zR<|zM<|zC<|zM<|Qu 2 rfl rfl rfl ?_))))
   refine zK (Qg rfl Q8 (fun hg=>by exact BxI.cells (vs:=Q7 x) h1) rfl)<|qg (vs:=[_]) rfl Xf (fun hg=>WQ x)<|QD rfl rfl rfl rfl rfl<|zA (zN (Qs ?_))
   first
   | exact zp hIc rfl rfl (by rw [QO,WV,if_neg k1,if_neg k2,if_neg k3,if_pos k4,hlC]<;>rfl)
  have hlC:rtC x.rt=[⟨IntKind.i64.wrap (x.rt.ends-1),1,0,0,0,0,⟨#[97]⟩,⟨#[97]⟩,0,0,0⟩,x.rt]:=if_neg he;refine Qh<|zF Yj ?_
  refine zV (Qg rfl YE (fun hg=>by exact zez (BxI.cells (vs:=Q7 x) h1)) rfl)<|zpb [(0,_)] [S.encR x.rt] VM (fun b_47=>zA (zN (Qm (zR<|zF Yj<|zF Vm ?_))))
  refine zV (Qd rfl Qn (fun hg=>by exact Qz.imm h1.out rfl))<|zA<|zN (zR ?_)
  refine zM<|zC (zN ?_)
  refine zI ?_ ?_<;>intro hc52
  ·
   refine Qh (zM ?_);refine zM<|zV (UU rfl rfl rfl)<|zV (QF (ps:=[(0,_),(1,_),(6,_),(7,_)]) [_,_,_,_,_,_,_,_,_,_,_] WM rfl rfl)<|zpb [(0,_)] [S.encR (⟨IntKind.i64.wrap (x.rt.ends-1),1,0,0,0,0,⟨#[97]⟩,⟨#[97]⟩,0,0,0⟩)] VM (fun b_57=>zpc [_,_,_] rfl zuZ (.cons (.there .here) (.cons .here .nil)) (zoB (zey (b:=b_47) (n:=1) (c:=1) (xs:=[x.rt]) (rest:=[]) rfl (Nat.le_refl _) kD kJ rfl) kD rfl (i:=0) kD b_57 (⟨IntKind.i64.wrap (x.rt.ends-1),1,0,0,0,0,⟨#[97]⟩,⟨#[97]⟩,0,0,0⟩)) ?_)
   rintro vv7 I7 L7 hI7 ⟨rfl,hOi⟩;have h1:=h1.mono hI7;have hIc:=hIc.trans hI7;refine zA (zN<|zx4 hOi S.encR_len (fun I8 hI8 af8 cf8 ef8 hM=>?_));subst ef8;have h1:=h1.mono hI8;have hIc:=hIc.trans hI8;refine Qh (zM<|qcV (vs:=[_]) rfl zm5 (S.w_check hM kD)<|zA (Qb (Qi (Qc (zR<|zM<|zC<|zM<|Qu 2 rfl rfl rfl ?_)))));refine zK (Qg rfl Q8 (fun hg=>by exact BxI.cells (vs:=Q7 x) h1) rfl)<|qg (vs:=[_]) rfl Xf (fun hg=>WQ x)<|QD rfl rfl rfl rfl rfl<|zA (zN (Qs ?_))
   first
   | exact zp hIc rfl rfl (by rw [QO,WV,if_neg k1,if_neg k2,if_neg k3,if_pos k4,hlC]<;>rfl)
  exact absurd hc52 (by simpa using he)
 have k4:¬x.kind=4:=(by simpa using hc43);refine Qp (Qi (Qc (zR (zM<|zC<|zM<|Qu 2 rfl rfl rfl ?_))));refine zK (Qg rfl Q8 (fun hg=>by exact BxI.cells (vs:=Q7 x) h1) rfl)<|qg (vs:=[_]) rfl Xf (fun hg=>WQ x)<|QD rfl rfl rfl rfl rfl<|zA (zN (Qs ?_))
 first
 | exact zp hIc rfl rfl (by rw [QO,WV,if_neg k1,if_neg k2,if_neg k3,if_neg k4]<;>rfl)
end
end Go.Proofs.YtjblkbkmblkgoaaGreat
namespace Go.Kn
section
open Go
def zjV (b:Nat)(x:Nat×Nat):Nat×Value:=(x.1,.pointer (some ⟨b,x.2,none⟩))
def zAj:List (Nat×Nat×Nat)→Nat→Nat→Option Nat
 | [],_,_=>none
 | (s,f,o)::l,s',f'=>if s=s'∧f=f' then some o else zAj l s' f'
def lkN:List (Nat×Nat)→Nat→Option Nat
 | [],_=>none
 | (t,o)::l,x=>if t=x then some o else lkN l x
def zwy (ft:List (Nat×Nat×Nat))(se:List (Nat×Nat)):Op→Option Nat
 | .move (.tmp x)=>lkN se x
 | .assign (.tmp x)=>lkN se x
 | .nilCheck (.tmp x)=>lkN se x
 | .fieldAddr s (.tmp x) f=>match lkN se x,zAj ft s f with | some o,some k=>some (o+k) | _,_=>none
 | _=>none
def zpP (P:Program)(ft:List (Nat×Nat×Nat)):Prop:=∀ s f o,(s,f,o)∈ft→QL P s f o
theorem zpP.nil {P:Program}:zpP P []:=fun _ _ _ h=>by cases h
theorem zpP.cons {P:Program}{s f o:Nat}{l:List (Nat×Nat×Nat)}(h:QL P s f o)(hl:zpP P l):zpP P ((s,f,o)::l):=fun a b c hm=>by
 rcases List.mem_cons.1 hm with e | hm
 ·
  cases e;exact h
 ·
  exact hl _ _ _ hm
theorem ziJ {s f o:Nat}:∀ {ft:List (Nat×Nat×Nat)},zAj ft s f=some o→(s,f,o)∈ft
 | [],h=>by cases h
 | (a,c,d)::l,h=>by
  unfold zAj at h;split at h
  ·
   rename_i e;cases h;obtain ⟨rfl,rfl⟩:=e;exact List.mem_cons_self ..
  ·
   exact List.mem_cons_of_mem _ (ziJ h)
theorem WA {b x o:Nat}{E:Env}:∀ {se:List (Nat×Nat)},lkN se x=some o→VN (se.map (zjV b)++E) x=some (.pointer (some ⟨b,o,none⟩))
 | [],h=>by cases h
 | (t,p)::l,h=>by
  unfold lkN at h;simp only [List.map_cons,List.cons_append,zjV];split at h
  ·
   rename_i e;cases h;subst e;simp [VN]
  ·
   rename_i e;have:=WA (b:=b) (E:=E) h
   have hb:t.beq x=false:=by
    cases hb:t.beq x with
    | false=>rfl
    | true=>exact absurd (Nat.eq_of_beq_eq_true hb) e
   simp only [VN,hb,cond_false];exact this
def zkI (se:List (Nat×Nat))(p:Nat×Operand):Option (Nat×Nat):=match p.2 with | .tmp x=>(lkN se x).map fun o=>(p.1,o) | _=>none
theorem ziY {se:List (Nat×Nat)}{b:Nat}{E:Env}:∀ {l:List (Nat×Operand)} {pl:List (Nat×Nat)},l.map (zkI se)=pl.map some→l.map (fun p=>(QG [] (se.map (zjV b)++E) p.2).map fun v=>(p.1,v))=(pl.map (zjV b)).map some
 | [],[],_=>rfl
 | [],_::_,h=>by cases h
 | _::_,[],h=>by cases h
 | p::l,q::pl,h=>by
  simp only [List.map_cons,List.cons.injEq] at h ⊢;refine ⟨?_,ziY h.2⟩;obtain ⟨k,x⟩:=p;have h1:=h.1;unfold zkI at h1;split at h1
  ·
   rename_i x' hx
   cases ho:lkN se x' with
   | none=>rw [ho] at h1;cases h1
   | some o=>
    rw [ho] at h1;simp only [Option.map_some,Option.some.injEq] at h1;subst h1;simp only at hx;subst hx;rw [show QG [] (se.map (zjV b)++E) (.tmp x')=VN (se.map (zjV b)++E) x' from rfl,WA ho];rfl
  ·
   cases h1
section
variable {C:Cx} {Q:Exit→Act→World→Prop} {ops:Array Oper} {I0:Qv} {loc0:Loc} {E:Env} {I:Qv} {loc:Loc}
theorem zz0 {ft:List (Nat×Nat×Nat)}{se:List (Nat×Nat)}{b v:Nat}{o:Oper}(hf:zpP C.P ft)(h:zwy ft se o.op=some v):QW C [] (se.map (zjV b)++E) I loc o (.pointer (some ⟨b,v,none⟩)):=by
 obtain ⟨dst,op,ty,pos,af,gd⟩:=o;simp only at h;unfold zwy at h;split at h
 ·
  exact Qe (WA h)
 ·
  exact Qy (WA h)
 ·
  exact QB (WA h)
 ·
  split at h
  ·
   rename_i h1 h2;cases h;exact Qa (WA h1) (hf _ _ _ (ziJ h2))
  ·
   cases h
 ·
  cases h
theorem zoD {fuel:Nat}{listed:Array Bool}(E':Env)(hE:Sub E' E)(h:XD C Q ops I0 loc0 fuel listed [] E' I loc):XD C Q ops I0 loc0 fuel listed [] E I loc:=fun a w ha hg hw=>h a w (ha.sub hE) hg hw
theorem zcg {S:GS}{dst:Option Nat}{ty:TypeId}{pos:String}{af:Array Edge}{gd:Option (Nat×Bool)}{x:Operand}{t e size n b off:Nat}(hx:QG S E x=some (.pointer (some ⟨b,off,none⟩)))(hT:ArT C.P t n e size):
  QW C S E I loc ⟨dst,.slice t x none none none,ty,pos,af,gd⟩ (.slice (some ⟨b,off,none⟩) n n):=
 .of kE fun a w ha hg hc _=>by
  obtain ⟨h1,j,h2,h3⟩:=hT;simp only [execOp,Option.map_none,Qk ha hg hc hx,Instr.sliceAt,Instr.sureAddr,Instr.sliceBounds,Sem.run_bind,Sem.run_pure,run_underlying h1,Result.andThen,run_sizeOf h2,Nat.zero_mul,Nat.sub_zero];congr 2;simp [Addr.add]
theorem zr3 (loc':Loc){c:Code}(hp:loc'.Perm loc)(h:X C Q c E I loc'):X C Q c E I loc:=fun a w ha hw=>h a w ha (hw.permL hp)
def lst (n k:Nat):Array Bool:=(List.replicate k true++List.replicate (n-k) false).toArray
theorem zgT (n k j:Nat)(d:Bool)(hk:k≤n):(lst n k).getD j d=if j<k then true else if j<n then false else d:=by
 unfold lst;rw [Array.getD_eq_getD_getElem?,List.getElem?_toArray];by_cases h1:j<k
 ·
  rw [List.getElem?_append_left (by simpa using h1)];simp [h1]
 ·
  rw [List.getElem?_append_right (by simpa using Nat.le_of_not_lt h1)];by_cases h2:j<n
  ·
   have:j-k<n-k:=kB;simp [h1,h2,this]
  ·
   have:¬j-k<n-k:=kB;simp [h1,h2,this]
theorem zvp (n k:Nat)(hk:k<n):(lst n k).setIfInBounds k true=lst n (k+1):=by
 apply Array.ext_getElem?;intro j;rw [Array.getElem?_setIfInBounds];unfold lst;simp only [List.getElem?_toArray,List.size_toArray,List.length_append,List.length_replicate];by_cases e:k=j
 ·
  subst e;rw [if_pos rfl,if_pos kB,List.getElem?_append_left kJ];simp
 ·
  rw [if_neg e];by_cases h1:j<k
  ·
   rw [List.getElem?_append_left (by simpa using h1),List.getElem?_append_left kY];simp [List.getElem?_replicate,h1];omega
  ·
   rw [List.getElem?_append_right kY,List.getElem?_append_right kY];simp only [List.length_replicate,List.getElem?_replicate];congr 1;simp only [eq_iff_iff];omega
def zpj (ops:Array Oper)(ft:List (Nat×Nat×Nat))(N:Nat):Nat→Nat→List Oper→List (Nat×Nat)→Option (List (Nat×Nat))
 | _,0,_,se=>some se
 | _,_+1,[],_=>none
 | k,m+1,o::l,se=>match o.dst,zwy ft se o.op with
   | some d,some v=>if (o.guard.isNone&&Nat.blt d N&&(o.after.all (fun e=> !Region.binds .any e||Nat.blt e.on k)&&l.all (fun oj=>oj.after.any (fun e=>Region.binds .any e&&e.on==k)||o.apart ops oj)))=true then zpj ops ft N (k+1) m l ((d,v)::se) else none
   | _,_=>none
theorem zqR (i:Nat){oi:Oper}{d:Nat}{v:Value}{fuel:Nat}{listed:Array Bool}(hi:ops[i]? =some oi)(hv:QW C [] E I0 loc0 oi v)(hg:oi.guard=none)(hd:oi.dst=some d)(hN:Nat.blt d C.N=true)
  (hs:Region.noSelect ops=true)
  (hfr:∀ j oj,ops[j]? =some oj→j≠i→listed.getD j true=false→(∀ e∈oj.after,Region.binds .any e=true→e.on≠i)→oi.apart ops oj=true)
  (hr:i∈Region.ready .any ops listed)(hQ:Yl Q)(hI:HLe I0 I)(hl:Kr loc0 loc)
  (h:XD C Q ops I0 loc0 fuel (listed.setIfInBounds i true) [] ((d,v)::E) I loc):XD C Q ops I0 loc0 (fuel+1) listed [] E I loc:=by
 intro a w ha hgg hw;have hp:=ha.put hN v;refine Vh (v:=v) hi hv.1 (Region.noSelect_spec hs) (fun c a w=>by rw [hd];exact hQ c a d _ w) fuel listed a w hfr hr ?_ ((hw.mono hI).subL hl) (by rw [hd];exact h _ _ hp trivial hw);have hG:Zt ops [] E oi:=.none hg;have hwt:=hG.wanted ha (show KP [] a from trivial);exact .inl ⟨by rw [hwt];rfl,fun w' hw'=>hv.2 a w' ha trivial rfl hw'⟩
theorem zhx {ft:List (Nat×Nat×Nat)}(hf:zpP C.P ft)(hs:Region.noSelect ops=true)(hQ:Yl Q)(hI:HLe I0 I)(hl:Kr loc0 loc){b N n:Nat}(hN:N=C.N)(hn:ops.size=n):
  ∀ (m k:Nat) {l:List Oper} {se se':List (Nat×Nat)} {fuel:Nat},ops.toList.drop k=l→k+m≤n→zpj ops ft N k m l se=some se'→
   XD C Q ops I0 loc0 fuel (lst n (k+m)) [] (se'.map (zjV b)++E) I loc→XD C Q ops I0 loc0 (fuel+m) (lst n k) [] (se.map (zjV b)++E) I loc
 | 0,k,l,se,se',fuel,hk,hle,hr,h=>by
  simp only [zpj,Option.some.injEq] at hr;subst hr;exact h
 | m+1,k,[],se,se',fuel,hk,hle,hr,h=>by cases hr
 | m+1,k,o::l,se,se',fuel,hk,hle,hr,h=>by
  unfold zpj at hr;split at hr
  ·
   rename_i d v hd hv;split at hr
   ·
    rename_i hc;simp only [Bool.and_eq_true,Option.isNone_iff_eq_none] at hc;obtain ⟨⟨hg,hb⟩,hrd,hfr⟩:=hc;have hkn:k<n:=kB
    have hok:ops[k]? =some o:=by
     have:=congrArg (·[0]?) hk;simp only [List.getElem?_drop,Nat.add_zero,List.getElem?_cons_zero] at this;rwa [Array.getElem?_toList] at this
    have hl1:ops.toList.drop (k+1)=l:=by
     rw [←List.drop_drop,hk];rfl
    have h':XD C Q ops I0 loc0 (fuel+m) (lst n (k+1)) [] (((d,v)::se).map (zjV b)++E) I loc:=
     zhx hf hs hQ hI hl hN hn m (k+1) hl1 kB hr (by rw [show k+1+m=k+(m+1) by omega];exact h)
    refine zqR k hok (zz0 hf hv) hg hd (hN ▸ hb) hs (fun j oj hj hne hun hno=>?_) (mem_ready.2 ⟨?_,o,hok,fun e he hbe=>?_⟩) hQ hI hl (by rw [zvp n k hkn];exact h')
    ·
     rw [zgT n k j true kB] at hun;have hjn:j<n:=by rw [←hn];exact (Array.getElem?_eq_some_iff.1 hj).1
     have hjk:k<j:=by
      rcases Nat.lt_or_ge j k with h1 | h1
      ·
       rw [if_pos h1] at hun;cases hun
      ·
       omega
     have hm:oj∈l:=by
      rw [←hl1];refine List.mem_iff_getElem?.2 ⟨j-(k+1),?_⟩;rw [List.getElem?_drop,show k+1+(j-(k+1))=j by omega,Array.getElem?_toList];exact hj
     have h2:=List.all_eq_true.1 hfr oj hm;rw [Bool.or_eq_true] at h2;rcases h2 with h2 | h2
     ·
      obtain ⟨e,he,hb2⟩:=Array.any_eq_true'.1 h2;simp only [Bool.and_eq_true,beq_iff_eq] at hb2;exact absurd hb2.2 (hno e he hb2.1)
     ·
      exact h2
    ·
     rw [zgT n k k true kB,if_neg kB,if_pos hkn]
    ·
     have h2:=Array.all_eq_true_iff_forall_mem.1 hrd e he;rw [hbe] at h2;have h3:e.on<k:=(by simpa using h2);rw [zgT n k e.on false kB,if_pos h3]
   ·
    cases hr
  ·
   cases hr
theorem zmp {zv cv:Value}(h1:zv.cells= #[cv])(n:Nat):madeCells zv.cells n=(List.replicate n cv).toArray:=by
 rw [h1];apply Array.ext';have:∀ x:Nat,[cv][x % 1]?.getD default=cv:=fun x=>by rw [Nat.mod_one];rfl
 simp [madeCells,this,List.map_const']
def zBy (P:Program)(t e bytes:Nat)(zv cv:Value):Prop:=P.underlying t=some (.slice e)∧(P.info? e).map (fun i=>(i.zero,i.size,i.bytes))=some (some zv,1,bytes)∧zv.cells= #[cv]
theorem X1 {rest:List Oper}{dst:Nat}{ty:TypeId}{pos:String}{af:Array Edge}{gd:Option (Nat×Bool)}{x y:Operand}{t e bytes:Nat}{zv cv:Value}{n:Int}(hT:zBy C.P t e bytes zv cv)(hx:QG [] E x=some (.int .i64 n))(hy:QG [] E y=some (.int .i64 n))(hn:0≤n∧n≤1000000)(hb:bytes≤1000)
  (hG:gd=none)(hN:Nat.blt dst C.N=true)(h:∀ b,XO C Q ops rest [] ((dst,.slice (some ⟨b,0,none⟩) n.toNat n.toNat)::E) I ((b,.cells (List.replicate n.toNat cv).toArray e (0,0))::loc)):
  XO C Q ops (⟨some dst,.makeSlice t x y,ty,pos,af,gd⟩::rest) [] E I loc:=
 Ye hG kE fun a w ha hw=>by
  obtain ⟨hu,hi,h1⟩:=hT;rw [Option.map_eq_some_iff] at hi;obtain ⟨i,hi,he⟩:=hi;simp only [Prod.mk.injEq] at he;obtain ⟨hz,hs,hbt⟩:=he;have hr:=run_makeSlice (P:=C.P) (w:=w) t e i zv hu hi hz .i64 .i64 n n hn.1 kB (by rw [hs];omega) (by rw [hbt];exact Int.le_trans (Int.mul_le_mul (by omega:(bytes:Int)≤1000) hn.2 hn.1 kB) kD) kB;rw [hs,Nat.mul_one,zmp h1] at hr;simp only [execOp,Qk (S:=[]) ha trivial rfl hx,Qk (S:=[]) ha trivial rfl hy,Sem.run_bind,hr,Result.andThen,Sem.run_pure,Oper.uponIn_value];exact h _ _ _ (ha.put hN _) trivial (hw.alloc _)
end
end
end Go.Kn
namespace Go.Proofs.YtjblkbkmblkgoaaGreat
section
open Go Go.Kn Go.Proofs
theorem znH:AgT Tryz.prog 185 42:=.of kA
theorem zgK:ArT Tryz.prog 185 42 184 1:=.of kA
theorem JQ:QL Tryz.prog 41 0 0:=.of kA
theorem za9:QL Tryz.prog 41 1 1:=.of kA
theorem zbe:QL Tryz.prog 41 2 2:=.of kA
theorem zba:QL Tryz.prog 41 3 3:=.of kA
theorem zbh:QL Tryz.prog 41 4 4:=.of kA
theorem YT:QL Tryz.prog 43 0 0:=.of kA
theorem V5:QL Tryz.prog 43 1 1:=.of kA
theorem YG:QL Tryz.prog 43 10 10:=.of kA
theorem JR:QL Tryz.prog 43 2 2:=.of kA
theorem KA:QL Tryz.prog 43 3 3:=.of kA
theorem Kw:QL Tryz.prog 43 4 4:=.of kA
theorem KC:QL Tryz.prog 43 8 8:=.of kA
theorem JN:QL Tryz.prog 43 9 9:=.of kA
theorem zjL:zpP Tryz.prog [(45,1,1),(45,2,10),(45,3,29),(45,4,34)]:=.cons YX (.cons Yi (.cons Vy (.cons Yj .nil)))
theorem zj6:zpP Tryz.prog [(45,0,0),(32,0,0),(32,1,1),(32,2,2),(32,3,3),(32,4,4),(32,5,5),(32,6,6),(30,0,0),(30,1,1),(30,2,2),(39,0,0),(39,1,1),(39,2,2),(39,3,3),(36,0,0),(36,1,1),(36,2,2),(36,3,3),(36,4,4),(36,5,5),(36,6,6),(36,7,7),(36,8,8),(36,9,9),(36,10,10),(34,0,0),(34,1,1),(36,11,12),(41,0,0),(41,1,1),(41,2,2),(41,3,3),(41,4,4),(43,0,0),(43,1,1),(43,2,2),(43,3,3),(43,4,4),(43,5,5),(43,8,8),(43,9,9),(43,10,10)]:=.cons YV (.cons Yy (.cons Js (.cons YY (.cons Wy (.cons KW (.cons KB (.cons JT (.cons Xm (.cons JM (.cons Kz (.cons ZR (.cons V2 (.cons Ym (.cons Yz (.cons JS (.cons Uv (.cons UI (.cons UM (.cons zbs (.cons Uw (.cons UD (.cons UL (.cons UC (.cons UE (.cons Ji (.cons Y0 (.cons Vn (.cons Jt (.cons JQ (.cons za9 (.cons zbe (.cons zba (.cons zbh (.cons YT (.cons V5 (.cons JR (.cons KA (.cons Kw (.cons Vm (.cons KC (.cons JN (.cons YG .nil))))))))))))))))))))))))))))))))))))))))))
theorem zkz:SzT Tryz.prog 185 42:=.of kA
theorem zoo:Vp Tryz.prog 185 (.agg #[(.pointer none),(.pointer none),(.pointer none),(.pointer none),(.pointer none),(.pointer none),(.pointer none),(.pointer none),(.pointer none),(.pointer none),(.pointer none),(.pointer none),(.pointer none),(.pointer none),(.pointer none),(.pointer none),(.pointer none),(.pointer none),(.pointer none),(.pointer none),(.pointer none),(.pointer none),(.pointer none),(.pointer none),(.pointer none),(.pointer none),(.pointer none),(.pointer none),(.pointer none),(.pointer none),(.pointer none),(.pointer none),(.pointer none),(.pointer none),(.pointer none),(.pointer none),(.pointer none),(.pointer none),(.pointer none),(.pointer none),(.pointer none),(.pointer none)]):=.of kA
set_option maxRecDepth 100000 in
set_option maxHeartbeats 4000000 in
theorem ziP (I:Qv) (b:Nat):ZF Tryz.prog 129 [ZE b] I (zBH b):=by
 intro g H w hw;refine qe Tryz.func129 Tryz.ntmps129 hw ?_;refine zR<|Qt zoo rfl rfl (fun b_2=>zN (Qm ?_))
 have hD:=zCA I;refine Zm<|QI I [] mixed<|zoD (([(0,0)]:List (Nat×Nat)).map (zjV b)++([(2,ZE b_2)]:Env)) (.cons rfl (.cons rfl (.nil))) ?_
 refine zhx (b:=b) (ft:=[(45,1,1),(45,2,10),(45,3,29),(45,4,34)]) (N:=157) (n:=16) zjL kA JV hD kG rfl rfl 16 0 (se:=[(0,0)]) (se':=[(6,34),(5,29),(4,10),(3,1),(19,34),(18,0),(17,0),(16,29),(15,0),(14,0),(13,10),(12,0),(11,0),(10,1),(9,0),(8,0),(0,0)]) (fuel:=0) (E:=([(2,ZE b_2)]:Env)) rfl kD kA ?_;refine Qo kA<|Qw<|Qc (zR (zM<|zV (QB rfl) ?_))
 refine zF YL<|zA (zN (Qm ?_))
 have hD:=zCA I;refine Zm<|QI I [] mixed<|zoD (([(7,14),(6,34),(5,29),(4,10),(3,1),(0,0)]:List (Nat×Nat)).map (zjV b)++([(2,ZE b_2)]:Env)) (.cons rfl (.cons rfl (.cons rfl (.cons rfl (.cons rfl (.cons rfl (.cons rfl (.nil)))))))) ?_
 refine zhx (b:=b) (ft:=[(45,0,0),(32,0,0),(32,1,1),(32,2,2),(32,3,3),(32,4,4),(32,5,5),(32,6,6),(30,0,0),(30,1,1),(30,2,2),(39,0,0),(39,1,1),(39,2,2),(39,3,3),(36,0,0),(36,1,1),(36,2,2),(36,3,3),(36,4,4),(36,5,5),(36,6,6),(36,7,7),(36,8,8),(36,9,9),(36,10,10),(34,0,0),(34,1,1),(36,11,12),(41,0,0),(41,1,1),(41,2,2),(41,3,3),(41,4,4),(43,0,0),(43,1,1),(43,2,2),(43,3,3),(43,4,4),(43,5,5),(43,8,8),(43,9,9),(43,10,10)]) (N:=157) (n:=135) zj6 kA JV hD kG rfl rfl 133 0 (se:=[(7,14),(6,34),(5,29),(4,10),(3,1),(0,0)]) (se':=[(155,44),(154,34),(153,34),(152,43),(151,34),(150,34),(149,42),(148,34),(147,34),(146,39),(145,34),(144,34),(143,38),(142,34),(141,34),(140,37),(139,34),(138,34),(137,36),(136,34),(135,34),(134,35),(133,34),(132,34),(131,34),(130,34),(129,34),(128,33),(127,29),(126,29),(125,32),(124,29),(123,29),(122,31),(121,29),(120,29),(119,30),(118,29),(117,29),(116,29),(115,29),(114,29),(113,27),(112,26),(111,14),(110,14),(109,26),(108,26),(107,14),(106,14),(105,25),(104,24),(103,14),(102,14),(101,24),(100,24),(99,14),(98,14),(97,23),(96,14),(95,14),(94,22),(93,14),(92,14),(91,21),(90,14),(89,14),(88,20),(87,14),(86,14),(85,19),(84,14),(83,14),(82,18),(81,14),(80,14),(79,17),(78,14),(77,14),(76,16),(75,14),(74,14),(73,15),(72,14),(71,14),(70,14),(69,14),(68,14),(67,13),(66,10),(65,10),(64,12),(63,10),(62,10),(61,11),(60,10),(59,10),(58,10),(57,10),(56,10),(55,9),(54,7),(53,1),(52,1),(51,8),(50,7),(49,1),(48,1),(47,7),(46,7),(45,1),(44,1),(43,6),(42,1),(41,1),(40,5),(39,1),(38,1),(37,4),(36,1),(35,1),(34,3),(33,1),(32,1),(31,2),(30,1),(29,1),(28,1),(27,1),(26,1),(25,0),(24,0),(23,0),(7,14),(6,34),(5,29),(4,10),(3,1),(0,0)]) (fuel:=2) (E:=([(2,ZE b_2)]:Env)) rfl kD kA ?_;refine zt0 133 rfl (VC (ps:=((List.range 42).zip zkk).map (zjV b)) (zup b) zgK zoo (ziY kA) kA) hD<|zoD [(156,zBH b),(2,ZE b_2)] (.cons rfl (.cons rfl .nil))<|qd 134 rfl ?_
 refine zh zkz ?_;exact Qb<|zD hD<|Qo kA<|Qw<|Qc (Qs<|ZN rfl rfl znH zCy rfl (fun w hw=>⟨by rfl,hw.drop⟩))
variable{I:Qv}{av:Option Addr}{n c:Nat}
theorem zoM {xs:List Int}(hS:Sl I 1 ZX av n c xs)(hn:n≤100000):Y7 Tryz.prog 150 [.slice av n c] I [] (fun v I' L'=>∃ sv,v=zBX sv∧I'=I∧ZP 158 4 sv n ((xs.map vcI).flatMap Zd) L'):=by
 intro g H w hw;refine qe Tryz.func150 Tryz.ntmps150 hw ?_;have hln:=hS.len;refine zR<|Qt Yv rfl rfl (fun b_2=>zN (zR<|zV (QF (ps:=[(0,_)]) [_,_,_,_] Vo rfl rfl)<|Qt Yv rfl rfl (fun b_3=>zh Zs<|zN (Qm (zR (zM<|zQ Q4 ?_))))))
 refine zM (zN (Qr ?_));refine zU [(2,_),(3,_),(7,_),(8,_)] (fun T L0 mz E I' loc'=>∃ (k:Nat) (v:Value) (L:Go.Kn.Loc),mz=n-k∧E=(9,.int .i64 k)::T∧I=I'∧L++[(b_3,.cells #[.int .i64 3,.int .i64 0,.string ⟨#[]⟩,v] 158 (0,0)),(b_2,.cells (#[.int .i64 0,.int .i64 0,.string ⟨#[]⟩,.slice none 0 0]) 158 (0,0))]=loc'∧k≤n∧ZP 158 4 v k (((xs.take k).map vcI).flatMap Zd) L) ?_ (h:=⟨0,_,[],rfl,rfl,rfl,rfl,Nat.zero_le _,ZP.nil⟩);rintro mz E I' loc' ⟨k,v,L,rfl,rfl,rfl,rfl,hk,hO⟩;refine zR (zC (zN (Qm ?_)));refine zI ?_ ?_<;>intro hc10
 ·
  have hlt_k:k<n:=(by have h:=hc10;simp at h;omega);obtain ⟨x,hx⟩:∃ x,xs[k]? =some x:=⟨_,List.getElem?_eq_getElem kB⟩;refine Qp (Qc (Qm (Qr (zR<|zV (zX Q4 hS)<|zV (Qd rfl Qn (fun hg=>by exact zCt hS hx rfl))<|zA (zN (Qh<|zF QN ?_))))));refine zV (Qd rfl Zh (fun hg=>by (repeat (first | exact zCv rfl | apply zCu | apply zCw))))<|zM<|zV (QF (ps:=[(0,_),(1,_)]) [_,_,_,_] Vo rfl rfl)<|zpb [(0,_)] [Zd (vcI x)] ZA (fun b_17=>zpa (_) (([vcI x]:List Vc).flatMap Zd) (L) rfl rfl ZA hO ⟨rfl,fun _=>rfl,by repeat (first | exact zCy | apply zCx | apply zCz)⟩ (VL [vcI x]) ?_)
  intro v2 L2 hO2 _;rw [←List.flatMap_append] at hO2;obtain ⟨a2,c2,rfl⟩:=hO2.shape;refine zF QN ?_;refine zS YR<|Qb (Qi (Qc (Qh (zB<|zM (Qb ?_)))))
  exact zm (h:=⟨n-(k+1),kB,k+1,_,_,rfl,rfl,rfl,rfl,kB,by rw [Za hx,List.map_append];exact hO2⟩)
 have hge_k:n≤k:=(by have h:=hc10;simp at h;omega);obtain rfl:k=n:=kB;obtain ⟨a3,c3,rfl⟩:=hO.shape;have hke:xs.take k=xs:=List.take_of_length_le kB;rw [hke] at hO;exact Q6 (Ql (Ql (Qq (Qc (zR<|zV (Qg rfl Zg (fun hg=>by exact zCz .here) rfl)<|zh Zs<|zN (Qs<|ZN rfl rfl Zg (zCz (.there .here)) rfl (fun w hw=>⟨_,I,_,rfl,zCA _,hw.subL QJ,_,rfl,rfl,hO⟩)))))))
def Y3 (x:Nt):List Int:=[x.kind,x.lm.no,x.lm.person,x.lm.ends,x.lm.lo,x.lm.hi,x.lm.known,x.lm.ck,x.lm.cl,x.lm.cn,x.pt.id,x.pt.kind,x.pt.sign,x.pt.field,x.pt.nw.id,x.pt.nw.role,x.pt.nw.bar,x.pt.nw.mark,x.pt.nw.kind,x.pt.nw.side,x.pt.nw.dir,x.pt.nw.level,x.pt.nw.size,x.pt.nw.wth,x.pt.nw.fn,x.pt.nw.fd,x.pt.nw.tn,x.pt.nw.td,x.ls.no,x.ls.person,x.ls.version,x.ls.at_,x.ls.known,x.rt.no,x.rt.kind,x.rt.edition,x.rt.holder,x.rt.sign,x.rt.ends,x.rt.lo,x.rt.hi,x.rt.known]
theorem Y1 (x:Nt):(Y3 x).length=42:=rfl
theorem znD (x:Nt):zkk.map (fun o=>(Q7 x)[o]?)=(Y3 x).map (fun y=>some (.int .i64 y)):=rfl
variable{x:Nt}{k:Nat}{y:Int}
theorem zpz (h:(Y3 x)[k]? =some y):(Q7 x)[zkk.getD k 0]? =some (.int .i64 y):=by
 have e:=congrArg (·[k]?) (znD x);simp only [List.getElem?_map,h,Option.map_some] at e
 cases ho:zkk[k]? with
 | none=>rw [ho] at e;cases e
 | some o=>
  rw [ho] at e;simp only [Option.map_some,Option.some.injEq] at e;rw [List.getD_eq_getElem?_getD,ho];exact e
variable{b:Nat}
theorem zn0 (hk:k<42):(zup b)[k]? =some (.pointer (some ⟨b,zkk.getD k 0,none⟩)):=by
 unfold zup;rw [List.getElem?_map,List.getD_eq_getElem?_getD];have:k<zkk.length:=hk;rw [List.getElem?_eq_getElem this];rfl
variable{loc:Go.Kn.Loc}{fz:Nat×Nat}
theorem znt {t:Nat}(h:BxI I b (.cells (Q7 x).toArray t fz))(hk:(Y3 x)[k]? =some y):Qz I loc b (zkk.getD k 0) (.int .i64 y):=by
 have:=(BxI.cells (loc:=loc) (vs:=Q7 x) h) _ _ (zpz hk);rwa [Nat.zero_add] at this
def KU (x:Nt):Va:=.list ((Y3 x).map .int++[.list (x.pt.needs.map .int),.text (Ug x.rt.name),.text (Ug x.rt.town)])
def Jw (x:Nt):List Nat:=Va.enc (KU x)
def zaX (x:Nt):ByteArray:=UR (Jw x)
theorem XX (s:ByteArray):UR (Ug s)=s:=by
 unfold UR Ug;congr 1;rw [List.map_map];have:(UInt8.ofNat ∘ UInt8.toNat)=id:=by funext c;simp
 rw [this,List.map_id]
theorem zio (xs:List Int)(k:Nat)(x:Va)(y:Vc)(hx:(xs.map Va.int)[k]? =some x)(hy:(xs.map vcI)[k]? =some y):VaR I x y:=by
 rw [List.getElem?_map] at hx hy
 cases h:xs[k]? with
 | none=>rw [h] at hx;cases hx
 | some n=>rw [h] at hx hy;cases hx;cases hy;exact .int n
theorem Xc {a7 a8:Option Addr}{c7 c8:Nat}(h7:Sl I 4 Zd a7 n c7 (x.pt.needs.map vcI))(h8:Sl I 4 Zd a8 45 c8 ((Y3 x).map vcI++[⟨3,0,⟨#[]⟩,a7,n,c7⟩,vcT x.rt.name,vcT x.rt.town])):VaR I (KU x) ⟨3,0,⟨#[]⟩,a8,45,c8⟩:=by
 refine .list h8 kJ fun k u y hu hy=>?_;by_cases hk:k<42
 ·
  rw [List.getElem?_append_left (by rw [List.length_map,Y1];exact hk)] at hu hy;exact zio _ k u y hu hy
 ·
  rw [List.getElem?_append_right (by simp [Y1];omega)] at hu hy;simp only [List.length_map,Y1] at hu hy
  match hj:k-42,hu,hy with
  | 0,hu,hy=>cases hu;cases hy;exact .list h7 kJ (zio _)
  | 1,hu,hy=>cases hu;cases hy;have:=VaR.text (I:=I) (Ug x.rt.name);rwa [XX] at this
  | 2,hu,hy=>cases hu;cases hy;have:=VaR.text (I:=I) (Ug x.rt.town);rwa [XX] at this
  | _+3,hu,hy=>cases hu
theorem zde (xs:List Int):Va.depthL (xs.map .int)=0:=by
 induction xs with
 | nil=>rfl
 | cons a l ih=>simp [Va.depthL,Va.depth,ih]
theorem zak:∀ (a b:List Va),Va.depthL (a++b)=max (Va.depthL a) (Va.depthL b)
 | [],b=>by simp [Va.depthL]
 | x::a,b=>by simp [Va.depthL,zak a b,Nat.max_assoc]
theorem JP (x:Nt):Va.depth (KU x)≤16:=by
 unfold KU;rw [Va.depth,zak,zde];simp [Va.depthL,Va.depth,zde]
structure NtM (I:Qv)(x:Nt):Prop where
 nd:Nd I x.pt
 nn:x.pt.n≤100000
 ok:Va.ok (KU x)
 len:(Jw x).length≤900000
variable{I':Qv}
theorem NtM.mono (h:NtM I x)(hI:HLe I I'):NtM I' x:=⟨h.nd.mono hI,h.nn,h.ok,h.len⟩
def zAm (a b:ByteArray):Int:=Lib.compareBytes a.data.toList b.data.toList
def Y5 (x y:Nt):Int:=zAm (zaX x) (zaX y)
def zcO (pre:List Nt)(x:Nt):Bool:= !QO x||(match pre.getLast? with | none=>false | some y=>decide (Y5 y x≥0))
def zbT:List Nt→List Nt→Bool
 | _,[]=>true
 | pre,x::l=> !zcO pre x&&zbT (pre++[x]) l
def ZQ (xs:List Nt):Bool:=zbT [] xs&&decide (xs.length≤4096)
theorem Xw:∀ (xs pre:List Nt),zbT pre xs=true↔ ∀ j y,xs[j]? =some y→zcO (pre++xs.take j) y=false
 | [],pre=>by simp [zbT]
 | x::l,pre=>by
  rw [zbT,Bool.and_eq_true,Xw l];constructor
  ·
   rintro ⟨h1,h2⟩ j y hy
   cases j with
   | zero=>cases hy;simpa using h1
   | succ j=>have:=h2 j y hy;simpa [List.append_assoc] using this
  ·
   intro h;refine ⟨by have:=h 0 x rfl;simpa using this,fun j y hy=>?_⟩;have:=h (j+1) y hy;simpa [List.append_assoc] using this
variable{xs:List Nt}
theorem XY (hx:xs[k]? =some x)(h:zcO (xs.take k) x=true):ZQ xs=false:=by
 unfold ZQ
 cases hg:zbT [] xs with
 | false=>rfl
 | true=>
  have:=(Xw xs []).1 hg k x hx;rw [List.nil_append,h] at this;cases this
theorem zeg (h:∀ j y,j<xs.length→xs[j]? =some y→zcO (xs.take j) y=false):ZQ xs=decide ((xs.length:Int)≤4096):=by
 unfold ZQ
 have:zbT [] xs=true:=(Xw xs []).2 fun j y hy=>by
  rw [List.nil_append];exact h j y (List.getElem?_eq_some_iff.1 hy).1 hy
 rw [this,Bool.true_and];simp only [decide_eq_decide];omega
theorem zlT {y:Nt}(hy:xs[k]? =some y):(xs.take (k+1)).getLast?=some y:=by
 rw [Za hy];simp
structure UV (I:Qv)(av:Option Addr)(n c:Nat)(xs:List Nt):Prop where
 sl:Sl I 45 Q7 av n c xs
 nd:∀ x∈xs,Nd I x.pt
 m:∀ x∈xs,QO x=true→NtM I x
theorem UV.mono (h:UV I av n c xs)(hI:HLe I I'):UV I' av n c xs:=⟨h.sl.mono hI,fun x hx=>(h.nd x hx).mono hI,fun x hx hf=>(h.m x hx hf).mono hI⟩
variable{pre:List Nt}
theorem zfH (h:QO x=false):zcO pre x=true:=by simp [zcO,h]
theorem zdN (h:QO x=true):zcO [] x=false:=by simp [zcO,h]
theorem Un {y:Nt}(h:QO x=true)(hk:0<k)(hy:xs[((k:Int)-1).toNat]? =some y):zcO (xs.take k) x=decide (Y5 y x≥0):=by
 have e:((k:Int)-1).toNat=k-1:=kB;rw [e] at hy;have:=zlT hy;rw [show k-1+1=k by omega] at this;simp [zcO,h,this]
theorem zcb (h:zcO pre x=false):QO x=true:=by
 unfold zcO at h
 cases hf:QO x with
 | true=>rfl
 | false=>rw [hf] at h;simp at h
theorem JO:QL Tryz.prog 43 6 6:=.of kA
theorem JU:QL Tryz.prog 43 7 7:=.of kA
theorem zkC:Fun Tryz.prog 129:=.of Tryz.func129 kA kA
theorem zhh:Fun Tryz.prog 150:=.of Tryz.func150 kA kA
theorem zg5:Fun Tryz.prog 151:=.of Tryz.func151 kA kA
theorem zoC (x:Nt)(hN:Nd I x.pt)(hnn:x.pt.n≤100000)(hok:Va.ok (KU x))(hb:(Jw x).length≤900000):ZF Tryz.prog 79 [Kj x] I (.string (zaX x)):=by
 intro g H w hw;refine qe Tryz.func79 Tryz.ntmps79 hw ?_;have hIc:=zCA I;refine zR<|QQ rfl rfl rfl (fun b_1=>zA (Qb<|QH .here (fun I1 hI1 hb1=>?_)))
 have hN:=hN.mono hI1;have hIc:=hIc.trans hI1;have h1:=BxI.of hb1;refine Qc (zR<|zpc [_] rfl zhh .nil (zoM (xs:=[]) Sl.nil kD) ?_);rintro vv2 I2 L2 hI2 ⟨sv1,rfl,rfl,hO1⟩;have hN:=hN.mono hI2;have h1:=h1.mono hI2;have hIc:=hIc.trans hI2;obtain ⟨a1,c1,rfl⟩:=hO1.shape;refine Qt Yv rfl rfl (fun b_3=>zh Zs<|zN (Qm (Qm<|zr3 (_++[_]) (List.perm_append_singleton _ _)<|Qh<|qcV (vs:=[_]) rfl zkC (ziP _ _)<|zM (zN (Qr ?_)))));refine zU [(1,_),(3,_),(9,_)] (fun T L0 mz E I' loc'=>∃ (k:Nat) (v:Value) (L:Go.Kn.Loc),mz=42-k∧E=(10,.int .i64 k)::T∧I2=I'∧L++[(b_3,.cells #[.int .i64 3,.int .i64 0,.string ⟨#[]⟩,v] 158 (0,0))]=loc'∧k≤42∧ZP 158 4 v k ((((Y3 x).take k).map vcI).flatMap Zd) L) ?_ (h:=⟨0,_,_,rfl,rfl,rfl,rfl,Nat.zero_le _,by rw [List.append_nil];exact hO1⟩);rintro mz E I' loc' ⟨k,v,L,rfl,rfl,rfl,rfl,hk,hO⟩;refine zR (zC (zN (Qm ?_)));refine zI ?_ ?_<;>intro hc11
 ·
  have hlt_k:k<42:=(by have h:=hc11;simp at h;omega);obtain ⟨y,hy⟩:∃ y,(Y3 x)[k]? =some y:=⟨_,List.getElem?_eq_getElem (by rw [Y1];omega)⟩;refine Qp (Qc (Qm (Qr (zR<|zV (KV rfl rfl zgK U1 (fun hg=>kB) (fun hg=>show (zup b_1)[((k:Int)).toNat*1]? =some (.pointer (some ⟨b_1,zkk.getD k 0,none⟩)) by rw [Nat.mul_one,Int.toNat_natCast];exact zn0 kB))<|zA (zN ?_)))));have hD:=zCA I2;refine Zm<|QI I2 [] mixed<|zT 0 rfl (Qa rfl QN) hD<|zT 2 rfl (Qe rfl) hD<|zT 3 rfl (QB rfl) hD<|zT 4 rfl (Qd rfl Qn (fun hg=>by exact znt h1 hy)) hD<|zT 5 rfl (QF (ps:=[(0,_),(1,_)]) [_,_,_,_] Vo rfl rfl) hD ?_
  refine QS 1 6 rfl rfl kA ?_ ?_
  ·
   refine zV (Qd rfl Zh (fun hg=>by (repeat (first | exact zCv rfl | apply zCu | apply zCw))))<|Qb<|zD hD<|qd 6 rfl<|zpb [(0,_)] [Zd (vcI y)] ZA (fun b_19=>Qb<|zD hD<|qd 7 rfl<|zpa (_) (([vcI y]:List Vc).flatMap Zd) (L) rfl rfl ZA hO ⟨rfl,fun _=>rfl,by repeat (first | exact zCy | apply zCx | apply zCz)⟩ (VL [vcI y]) ?_)
   intro v2 L2 hO2 _;rw [←List.flatMap_append] at hO2;obtain ⟨a2,c2,rfl⟩:=hO2.shape;refine Qb<|zD hD<|zT 8 rfl (Qa rfl QN) hD<|qd 9 rfl ?_
   refine zS YR ?_;refine Qb<|zD hD<|Qo kA<|Qw<|Qi (Qc (Qh (zB<|zM (Qb ?_))))
   exact zm (h:=⟨42-(k+1),kB,k+1,_,_,rfl,rfl,rfl,rfl,kB,by rw [Za hy,List.map_append];exact hO2⟩)
  refine zpb [(0,_)] [Zd (vcI y)] ZA (fun b_19=>Qb<|zD hD<|qd 1 rfl<|zV (Qd rfl Zh (fun hg=>by (repeat (first | exact zCv rfl | apply zCu | apply zCw))))<|Qb<|zD hD<|qd 7 rfl<|zpa (_) (([vcI y]:List Vc).flatMap Zd) (L) rfl rfl ZA hO ⟨rfl,fun _=>rfl,by repeat (first | exact zCy | apply zCx | apply zCz)⟩ (VL [vcI y]) ?_);intro v2 L2 hO2 _;rw [←List.flatMap_append] at hO2;obtain ⟨a2,c2,rfl⟩:=hO2.shape;refine Qb<|zD hD<|zT 8 rfl (Qa rfl QN) hD<|qd 9 rfl ?_
  refine zS YR ?_;refine Qb<|zD hD<|Qo kA<|Qw<|Qi (Qc (Qh (zB<|zM (Qb ?_))))
  exact zm (h:=⟨42-(k+1),kB,k+1,_,_,rfl,rfl,rfl,rfl,kB,by rw [Za hy,List.map_append];exact hO2⟩)
 have hge_k:42≤k:=(by have h:=hc11;simp at h;omega);obtain rfl:k=42:=kB;obtain ⟨a3,c3,rfl⟩:=hO.shape;have hke:(Y3 x).take 42=Y3 x:=rfl;rw [hke] at hO;refine Q6 (Ql (Ql (Qq (Qc (Qm ?_)))));have hD:=zCA I2;refine Zm<|QI I2 [] mixed<|zT 0 rfl (Qa rfl QN) hD<|zT 2 rfl (Qa rfl Yi) hD<|zT 3 rfl (Qa rfl ZL) hD<|zT 4 rfl (Qd rfl YW (fun hg=>by exact Qz.imm h1.out rfl)) hD<|zT 6 rfl (Qa rfl Yj) hD<|zT 7 rfl (Qa rfl JO) hD<|zT 8 rfl (Qd rfl VS (fun hg=>by exact Qz.imm h1.out rfl)) hD<|zT 9 rfl (QF (ps:=[(0,_),(2,_)]) [_,_,_,_] Vo rfl rfl) hD<|zT 10 rfl (Qa rfl Yj) hD<|zT 11 rfl (Qa rfl JU) hD ?_
 refine zT 12 rfl (Qd rfl VS (fun hg=>by exact Qz.imm h1.out rfl)) hD<|zT 13 rfl (QF (ps:=[(0,_),(2,_)]) [_,_,_,_] Vo rfl rfl) hD ?_
 refine QS 1 5 rfl rfl kA ?_ ?_
 ·
  refine zV (Qd rfl Zh (fun hg=>by (repeat (first | exact zCv rfl | apply zCu | apply zCw))))<|Qb<|zD hD<|qd 5 rfl<|zpc [_] rfl zhh .nil (zoM hN hnn) ?_
  rintro vv4 I4 L4 hI4 ⟨sv7,rfl,rfl,hO7⟩;have hIc:=hIc.trans hI4;have hD:=hD.trans hI4;obtain ⟨a7,c7,rfl⟩:=hO7.shape;refine Qb<|zD hD<|qd 14 rfl<|zpb [(0,_),(1,_),(2,_)] [Zd ⟨3,0,⟨#[]⟩,a7,x.pt.n,c7⟩,Zd (vcT x.rt.name),Zd (vcT x.rt.town)] ZA (fun b_37=>Qb<|zD hD<|qd 15 rfl<|zpa (_) (([⟨3,0,⟨#[]⟩,a7,x.pt.n,c7⟩,vcT x.rt.name,vcT x.rt.town]:List Vc).flatMap Zd) (L) rfl rfl ZA hO ⟨rfl,fun _=>rfl,by repeat (first | exact zCy | apply zCx | apply zCz)⟩ (VL [⟨3,0,⟨#[]⟩,a7,x.pt.n,c7⟩,vcT x.rt.name,vcT x.rt.town]) ?_)
  intro v8 L8 hO8 _;rw [←List.flatMap_append] at hO8;obtain ⟨a8,c8,rfl⟩:=hO8.shape;refine Qb<|zD hD<|zT 16 rfl (Qa rfl QN) hD<|qd 17 rfl ?_
  refine zS YR ?_;refine Qb<|zD hD<|Qo kA<|Qw<|Qc (Qm<|zx4 hO7 Vd (fun I5 hI5 af5 cf5 ef5 hM7=>?_))
  cases ef5;have hIc:=hIc.trans hI5;refine zx4 hO8 Vd (fun I6 hI6 af6 cf6 ef6 hM8=>?_);cases ef6;have hM7:=hM7.mono hI6;have hIc:=hIc.trans hI6;refine Qh<|zV (Qg rfl Zg (fun hg=>by exact Cells.g1) rfl)<|zpc [_] rfl zg5 .nil (zdF (x:=KU x) (cv:=⟨3,0,⟨#[]⟩,a8,45,c8⟩) (Xc hM7 hM8) (JP x) hok hb) ?_
  rintro vv7 I7 L7 hI7 ⟨bv,rfl,hOb⟩;have hIc:=hIc.trans hI7;refine zM ?_;refine zE ?_;refine zE<|zA<|zA (zN (Qm<|zx4 hOb Y8 (fun I8 hI8 af8 cf8 ef8 hB=>?_)))
  subst ef8;have hIc:=hIc.trans hI8;exact Qh (zM<|zV (Zp rfl bst (fun hg=>hB))<|zA (zN (Qs<|zp hIc rfl rfl kU)))
 refine zpc [_] rfl zhh .nil (zoM hN hnn) ?_;rintro vv9 I9 L9 hI9 ⟨sv7,rfl,rfl,hO7⟩;have hIc:=hIc.trans hI9;have hD:=hD.trans hI9;obtain ⟨a7,c7,rfl⟩:=hO7.shape;refine Qb<|zD hD ?_
 refine QS 1 14 rfl rfl kA ?_ ?_
 ·
  refine zV (Qd rfl Zh (fun hg=>by (repeat (first | exact zCv rfl | apply zCu | apply zCw))))<|Qb<|zD hD<|qd 14 rfl<|zpb [(0,_),(1,_),(2,_)] [Zd ⟨3,0,⟨#[]⟩,a7,x.pt.n,c7⟩,Zd (vcT x.rt.name),Zd (vcT x.rt.town)] ZA (fun b_37=>Qb<|zD hD<|qd 15 rfl<|zpa (_) (([⟨3,0,⟨#[]⟩,a7,x.pt.n,c7⟩,vcT x.rt.name,vcT x.rt.town]:List Vc).flatMap Zd) (L) rfl rfl ZA hO ⟨rfl,fun _=>rfl,by repeat (first | exact zCy | apply zCx | apply zCz)⟩ (VL [⟨3,0,⟨#[]⟩,a7,x.pt.n,c7⟩,vcT x.rt.name,vcT x.rt.town]) ?_)
  intro v8 L8 hO8 _;rw [←List.flatMap_append] at hO8;obtain ⟨a8,c8,rfl⟩:=hO8.shape;refine Qb<|zD hD<|zT 16 rfl (Qa rfl QN) hD<|qd 17 rfl ?_
  refine zS YR ?_;refine Qb<|zD hD<|Qo kA<|Qw<|Qc (Qm<|zx4 hO7 Vd (fun I10 hI10 af10 cf10 ef10 hM7=>?_))
  cases ef10;have hIc:=hIc.trans hI10;refine zx4 hO8 Vd (fun I11 hI11 af11 cf11 ef11 hM8=>?_);cases ef11;have hM7:=hM7.mono hI11;have hIc:=hIc.trans hI11;refine Qh<|zV (Qg rfl Zg (fun hg=>by exact Cells.g1) rfl)<|zpc [_] rfl zg5 .nil (zdF (x:=KU x) (cv:=⟨3,0,⟨#[]⟩,a8,45,c8⟩) (Xc hM7 hM8) (JP x) hok hb) ?_
  rintro vv12 I12 L12 hI12 ⟨bv,rfl,hOb⟩;have hIc:=hIc.trans hI12;refine zM ?_;refine zE ?_;refine zE<|zA<|zA (zN (Qm<|zx4 hOb Y8 (fun I13 hI13 af13 cf13 ef13 hB=>?_)))
  subst ef13;have hIc:=hIc.trans hI13;exact Qh (zM<|zV (Zp rfl bst (fun hg=>hB))<|zA (zN (Qs<|zp hIc rfl rfl kU)))
 refine zpb [(0,_),(1,_),(2,_)] [Zd ⟨3,0,⟨#[]⟩,a7,x.pt.n,c7⟩,Zd (vcT x.rt.name),Zd (vcT x.rt.town)] ZA (fun b_37=>Qb<|zD hD<|qd 1 rfl<|zV (Qd rfl Zh (fun hg=>by (repeat (first | exact zCv rfl | apply zCu | apply zCw))))<|Qb<|zD hD<|qd 15 rfl<|zpa (_) (([⟨3,0,⟨#[]⟩,a7,x.pt.n,c7⟩,vcT x.rt.name,vcT x.rt.town]:List Vc).flatMap Zd) (L) rfl rfl ZA hO ⟨rfl,fun _=>rfl,by repeat (first | exact zCy | apply zCx | apply zCz)⟩ (VL [⟨3,0,⟨#[]⟩,a7,x.pt.n,c7⟩,vcT x.rt.name,vcT x.rt.town]) ?_);intro v8 L8 hO8 _;rw [←List.flatMap_append] at hO8;obtain ⟨a8,c8,rfl⟩:=hO8.shape;refine Qb<|zD hD<|zT 16 rfl (Qa rfl QN) hD<|qd 17 rfl ?_
 refine zS YR ?_;refine Qb<|zD hD<|Qo kA<|Qw<|Qc (Qm<|zx4 hO7 Vd (fun I14 hI14 af14 cf14 ef14 hM7=>?_))
 cases ef14;have hIc:=hIc.trans hI14;refine zx4 hO8 Vd (fun I15 hI15 af15 cf15 ef15 hM8=>?_);cases ef15;have hM7:=hM7.mono hI15;have hIc:=hIc.trans hI15;refine Qh<|zV (Qg rfl Zg (fun hg=>by exact Cells.g1) rfl)<|zpc [_] rfl zg5 .nil (zdF (x:=KU x) (cv:=⟨3,0,⟨#[]⟩,a8,45,c8⟩) (Xc hM7 hM8) (JP x) hok hb) ?_
 rintro vv16 I16 L16 hI16 ⟨bv,rfl,hOb⟩;have hIc:=hIc.trans hI16;refine zM ?_;refine zE ?_;refine zE<|zA<|zA (zN (Qm<|zx4 hOb Y8 (fun I17 hI17 af17 cf17 ef17 hB=>?_)))
 subst ef17;have hIc:=hIc.trans hI17;exact Qh (zM<|zV (Zp rfl bst (fun hg=>hB))<|zA (zN (Qs<|zp hIc rfl rfl kU)))
theorem Zx:QL Tryz.prog 59 0 0:=.of kA
theorem zbZ:Fun Tryz.prog 108:=.of Tryz.func108 kA kA
theorem zt3:Fun Tryz.prog 154:=.of Tryz.func154 kA kA
theorem zfc:Fun Tryz.prog 79:=.of Tryz.func79 kA kA
theorem zgs:Fun Tryz.prog 81:=.of Tryz.func81 kA kA
theorem YD:ScT Tryz.prog 57:=.of kA
theorem Vk:SzT Tryz.prog 45 45:=.of kA
theorem UW:Vp Tryz.prog 45 (.agg #[(.int .i64 0),(.int .i64 0),(.int .i64 0),(.int .i64 0),(.int .i64 0),(.int .i64 0),(.int .i64 0),(.int .i64 0),(.int .i64 0),(.int .i64 0),(.int .i64 0),(.int .i64 0),(.int .i64 0),(.int .i64 0),(.int .i64 0),(.int .i64 0),(.int .i64 0),(.int .i64 0),(.int .i64 0),(.int .i64 0),(.int .i64 0),(.int .i64 0),(.int .i64 0),(.int .i64 0),(.int .i64 0),(.int .i64 0),(.int .i64 0),(.int .i64 0),(.slice none 0 0),(.int .i64 0),(.int .i64 0),(.int .i64 0),(.int .i64 0),(.int .i64 0),(.int .i64 0),(.int .i64 0),(.int .i64 0),(.int .i64 0),(.int .i64 0),(.int .i64 0),(.string ⟨#[]⟩),(.string ⟨#[]⟩),(.int .i64 0),(.int .i64 0),(.int .i64 0)]):=.of kA
theorem zyE (I:Qv)(a b:ByteArray):ZF Tryz.prog 154 [.string a,.string b] I (.int .i64 (zAm a b)):=fun _g _H w hw=>(Tryz.strings_Compare a b w).mono fun _e _w' ⟨h1,h2⟩=>⟨h1,h2 ▸ hw⟩
theorem zfV {y:Nt}(hX:NtM I x)(hY:NtM I y):ZF Tryz.prog 81 [Kj x,Kj y] I (.int .i64 (Y5 x y)):=by
 intro g H w hw;refine qe Tryz.func81 Tryz.ntmps81 hw ?_;have hIc:=zCA I;refine zR<|QQ rfl rfl rfl (fun b_2=>QQ rfl rfl rfl (fun b_3=>zA (Qb<|QH .here (fun I1 hI1 hb1=>?_))))
 have hX:=hX.mono hI1;have hY:=hY.mono hI1;have hIc:=hIc.trans hI1;have h2:=BxI.of hb1;refine QH .here (fun I2 hI2 hb2=>?_);have hX:=hX.mono hI2;have hY:=hY.mono hI2;have h2:=h2.mono hI2;have hIc:=hIc.trans hI2;have h1:=BxI.of hb2;refine Qc (Qm ?_);have hD:=zCA I2;refine Zm<|QI I2 [] mixed<|zT 0 rfl (Qg rfl Q8 (fun hg=>by exact BxI.cells (vs:=Q7 x) h1) rfl) hD<|zT 2 rfl (Qg rfl Q8 (fun hg=>by exact BxI.cells (vs:=Q7 y) h2) rfl) hD<|qd 1 rfl<|qcV (vs:=[_]) rfl zfc (zoC x hX.nd hX.nn hX.ok hX.len)<|Qb<|zD hD<|qd 3 rfl<|qcV (vs:=[_]) rfl zfc (zoC y hY.nd hY.nn hY.ok hY.len)<|Qb<|zD hD ?_
 exact qd 4 rfl<|qcV (vs:=[_,_]) rfl zt3 (zyE _ _ _)<|Qb<|zD hD<|zT 5 rfl (Qy rfl) hD<|Qo kA<|Qw<|Qc (Qs<|zp hIc rfl rfl kU)
theorem zhC (hP:UV I av n c xs)(hn:n≤100000):ZF Tryz.prog 61 [.agg #[.slice av n c]] I (.bool (ZQ xs)):=by
 intro g H w hw;refine qe Tryz.func61 Tryz.ntmps61 hw ?_;have hIc:=zCA I;have hln:=hP.sl.len;refine zR<|QQ rfl rfl rfl (fun b_1=>zA (Qb<|QH .here (fun I1 hI1 hb1=>?_)))
 have hP:=hP.mono hI1;have hIc:=hIc.trans hI1;have h1:=BxI.of hb1;refine Qc (Qm (zR<|zF Zx ?_));refine zV (Qd rfl YD (fun hg=>by exact Qz.imm h1.out rfl))<|zQ QZ ?_
 refine zM (zN (Qr ?_));refine zU [(1,_),(6,_),(7,_)] (fun T L0 mz E I' loc'=>∃ (k:Nat),mz=n-k∧E=(8,.int .i64 k)::T∧HLe I1 I'∧L0=loc'∧k≤n∧(∀ j y,j<k→xs[j]? =some y→zcO (xs.take j) y=false)) ?_ (h:=⟨0,rfl,rfl,zCA _,rfl,Nat.zero_le _,fun j y h=>absurd h (Nat.not_lt_zero _)⟩);rintro mz E J2 loc' ⟨k,rfl,rfl,hJ,rfl,hk,hall⟩;have hP:=hP.mono hJ;have h1:=h1.mono hJ;have hIc:=hIc.trans hJ;have hB0:=hJ;refine zR (zC (zN (Qm ?_)));refine zI ?_ ?_<;>intro hc9
 ·
  have hlt_k:k<n:=(by have h:=hc9;simp at h;omega);obtain ⟨x,hx⟩:∃ x,xs[k]? =some x:=⟨_,List.getElem?_eq_getElem kB⟩;have hxm:x∈xs:=List.mem_of_getElem? hx;refine Qp (Qc (Qm (Qr (zR (zM ?_)))));refine zV (QC rfl rfl QZ hP.sl (fun hg=>kB)) ?_;refine zV (Qg rfl Q8 (fun hg=>by exact zCB hP.sl hx) rfl) ?_;refine Qt UW rfl rfl (fun b_4=>?_);refine zA ?_;refine zh Vk ?_;refine Qb ?_;refine QH .here (fun I3 hI3 hb3=>?_);have hP:=hP.mono hI3;have h1:=h1.mono hI3;have hIc:=hIc.trans hI3;have hB0:=hB0.trans hI3;have h4:=BxI.of hb3;refine Qc (Qm ?_);rcases (show QO x=false∨(QO x=true∧k=0)∨(QO x=true∧0<k) by cases QO x<;>simp<;>omega) with hf | ⟨hf,hk⟩ | ⟨hf,hk⟩
  ·
   have hD:=zCA I3;refine Zm<|QI I3 [] mixed<|zT 0 rfl (Qg rfl Q8 (fun hg=>by exact BxI.cells (vs:=Q7 x) h4) rfl) hD<|qd 1 rfl<|qcV (vs:=[_]) rfl zbZ (Ur x (hP.nd x hxm))<|Qb<|zD hD<|zT 2 rfl (Zy rfl) hD ?_
   rw [hf];refine zT 3 rfl (Qe rfl) hD<|zW 4 16 hD ?_
   refine zW 5 16 hD ?_;refine zW 6 16 hD ?_;refine zW 7 19 hD ?_;refine zW 8 19 hD ?_;refine zW 9 19 hD ?_;refine zW 10 19 hD ?_;refine zW 11 19 hD ?_;refine zW 12 19 hD ?_;refine zW 13 19 hD ?_;refine zW 14 19 hD ?_;refine zW 15 19 hD ?_;refine zW 16 16 hD<|zT 17 rfl (Yg rfl rfl rfl) hD<|Qo kA<|Qw<|Qc ?_
   refine zI ?_ ?_<;>intro hc30
   ·
    have hbad:=zfH (pre:=xs.take k) hf;exact zR (zA (zN (Qs (Qj (Qf (Qf (Qj<|Qf<|zp hIc rfl rfl (by rw [XY hx hbad]))))))))
   cases hc30
  ·
   have hk0:decide ((k:Int)>0)=false:=(by simp;omega);have hD:=zCA I3;refine Zm<|QI I3 [] mixed<|zT 0 rfl (Qg rfl Q8 (fun hg=>by exact BxI.cells (vs:=Q7 x) h4) rfl) hD<|qd 1 rfl<|qcV (vs:=[_]) rfl zbZ (Ur x (hP.nd x hxm))<|Qb<|zD hD<|zT 2 rfl (Zy rfl) hD ?_
   rw [hf];refine zT 3 rfl (Qe rfl) hD<|zw 4 16 rfl (Qe rfl) hD<|zw 5 16 rfl (QE rfl rfl rfl) hD ?_
   rw [hk0];refine zw 6 16 rfl (Qe rfl) hD<|zW 7 19 hD ?_
   refine zW 8 19 hD ?_;refine zW 9 19 hD ?_;refine zW 10 19 hD ?_;refine zW 11 19 hD ?_;refine zW 12 19 hD ?_;refine zW 13 19 hD ?_;refine zW 14 19 hD ?_;refine zW 15 19 hD ?_;refine zw 16 16 rfl (Yg rfl rfl rfl) hD<|zT 17 rfl (QY rfl rfl rfl) hD<|Qo kA<|Qw<|Qc ?_
   refine zI ?_ ?_<;>intro hc30
   ·
    cases hc30
   have hbad:zcO (xs.take k) x=false:=(by rw [hk];exact zdN hf);exact Qp (Qi (Qc (Qh (zB<|zM (Qb<|zm (h:=⟨n-(k+1),kB,k+1,rfl,rfl,hB0,rfl,kB,VK hx hall hbad⟩))))))
  have hk0:decide ((k:Int)>0)=true:=(by simp;omega);obtain ⟨y,hy⟩:∃ y,xs[((k:Int)-1).toNat]? =some y:=⟨_,List.getElem?_eq_getElem kB⟩;have hym:y∈xs:=List.mem_of_getElem? hy;have hfy:=zcb (hall _ y kB hy);have hD:=zCA I3;refine Zm<|QI I3 [] mixed<|zT 0 rfl (Qg rfl Q8 (fun hg=>by exact BxI.cells (vs:=Q7 x) h4) rfl) hD<|qd 1 rfl<|qcV (vs:=[_]) rfl zbZ (Ur x (hP.nd x hxm))<|Qb<|zD hD<|zT 2 rfl (Zy rfl) hD ?_
  rw [hf];refine zT 3 rfl (Qe rfl) hD<|zw 4 16 rfl (Qe rfl) hD<|zw 5 16 rfl (QE rfl rfl rfl) hD ?_
  rw [hk0];refine zw 6 16 rfl (Qe rfl) hD<|zw 7 19 rfl (Qa rfl Zx) hD<|zw 8 19 rfl (Qd rfl YD (fun hg=>by exact Qz.imm h1.out rfl)) hD<|zw 9 19 rfl (Qe rfl) hD<|zw 10 19 rfl (Yr rfl rfl rfl (fun hg=>kB)) hD<|zw 11 19 rfl (QC rfl rfl QZ hP.sl (fun hg=>kB)) hD<|zw 12 19 rfl (Qg rfl Q8 (fun hg=>by exact zCB hP.sl hy) rfl) hD<|zw 13 19 rfl (Qg rfl Q8 (fun hg=>by exact BxI.cells (vs:=Q7 x) h4) rfl) hD<|qd 14 rfl<|QM (dj:=19) rfl rfl rfl<|qcV (vs:=[_,_]) rfl zgs (zfV (hP.m y hym hfy) (hP.m x hxm hf))<|Qb ?_
  refine zD hD<|zw 15 19 rfl (QE rfl rfl rfl) hD<|zw 16 16 rfl (QY rfl rfl rfl) hD<|zT 17 rfl (QY rfl rfl rfl) hD<|Qo kA<|Qw<|Qc ?_
  refine zI ?_ ?_<;>intro hc30
  ·
   have hbad:zcO (xs.take k) x=true:=(Un hf hk hy).trans hc30;exact zR (zA (zN (Qs (Qj (Qf (Qf (Qj<|Qf<|zp hIc rfl rfl (by rw [XY hx hbad]))))))))
  have hbad:zcO (xs.take k) x=false:=(Un hf hk hy).trans hc30;exact Qp (Qi (Qc (Qh (zB<|zM (Qb<|zm (h:=⟨n-(k+1),kB,k+1,rfl,rfl,hB0,rfl,kB,VK hx hall hbad⟩))))))
 have hge_k:n≤k:=(by have h:=hc9;simp at h;omega);refine Q6 (Ql (Ql (Qq (Qc (zR<|zF Zx ?_)))));exact zV (Qd rfl YD (fun hg=>by exact Qz.imm h1.out rfl))<|zQ QZ<|zC<|zA (zN (Qs<|zp hIc rfl rfl (by rw [zeg (fun j y hj hy=>hall j y kB hy),hln])))
structure Pk where
 frm:Int
 to_:Int
 a:Option Addr
 n:Nat
 c:Nat
 data:List Nat
def ZK (x:Pk):List Value:=[.int .i64 x.frm,.int .i64 x.to_,.slice x.a x.n x.c]
def Xp (x:Pk):Value:=.agg (ZK x).toArray
theorem ZG (x:Pk):(ZK x).length=3:=rfl
def Um (l:Int×Int):List Value:=[.int .i64 l.1,.int .i64 l.2]
def lkV (a b:Int):Bool:=(decide (a≥0)&&decide (a<b))&&decide (b<24)
def pkV (x:Pk):Bool:=lkV (zr9 x.frm x.to_) (zgq x.frm x.to_)&&decide ((x.n:Int)≤1048576)
def Wc:List Int→List Int→Int
 | [],[]=>0
 | [],_::_=> -1
 | _::_,[]=>1
 | x::xs,y::ys=>if zgz x y=0 then Wc xs ys else zgz x y
variable{ys:List Int}
theorem zjB {xs:List Int}{x:Int}(hx:xs[k]? =some x)(hy:ys[k]? =some y)(h:zgz x y=0):Wc (xs.drop k) (ys.drop k)=Wc (xs.drop (k+1)) (ys.drop (k+1)):=by
 obtain ⟨h1,e1⟩:=List.getElem?_eq_some_iff.1 hx;obtain ⟨h2,e2⟩:=List.getElem?_eq_some_iff.1 hy;rw [List.drop_eq_getElem_cons h1,List.drop_eq_getElem_cons h2,e1,e2,Wc,if_pos h]
theorem zmZ {xs:List Int}{x:Int}(hx:xs[k]? =some x)(hy:ys[k]? =some y)(h:zgz x y≠0):Wc (xs.drop k) (ys.drop k)=zgz x y:=by
 obtain ⟨h1,e1⟩:=List.getElem?_eq_some_iff.1 hx;obtain ⟨h2,e2⟩:=List.getElem?_eq_some_iff.1 hy;rw [List.drop_eq_getElem_cons h1,List.drop_eq_getElem_cons h2,e1,e2,Wc,if_neg h]
theorem zph {xs:List Int}{x:Int}(hx:xs[k]? =some x)(h:ys.length≤k):Wc (xs.drop k) (ys.drop k)=1:=by
 obtain ⟨h1,e1⟩:=List.getElem?_eq_some_iff.1 hx;rw [List.drop_eq_getElem_cons h1,List.drop_eq_nil_of_le h,Wc]
theorem zpG {xs:List Int}(h:xs.length≤k)(h2:k<ys.length):Wc (xs.drop k) (ys.drop k)= -1:=by
 rw [List.drop_eq_nil_of_le h,List.drop_eq_getElem_cons h2,Wc]
theorem zqP {xs:List Int}(h:xs.length≤k)(h2:ys.length≤k):Wc (xs.drop k) (ys.drop k)=0:=by
 rw [List.drop_eq_nil_of_le h,List.drop_eq_nil_of_le h2,Wc]
variable{ks:List (Int×Int)}{l:Int×Int}
theorem ztv (h:Sl I 2 Um av n c ks)(hk:ks[k]? =some l):Sl I 1 ZX (some ⟨Ab av,Ao av+k*2,none⟩) 2 2 [l.1,l.2]:=
 ⟨rfl,Nat.le_refl _,fun _=>rfl,fun i x hx j u hu=>by
  have h2:=h.cells k l hk i u (by
   match i,j,hx,hu with
   | 0,0,hx,hu=>cases hx;cases hu;rfl
   | 1,0,hx,hu=>cases hx;cases hu;rfl
   | 0,_+1,hx,hu=>cases hu
   | 1,_+1,hx,hu=>cases hu
   | _+2,_,hx,hu=>cases hx)
  have hj:j=0:=by
   match j,hu with
   | 0,_=>rfl
   | _+1,hu=>cases hu
  subst hj;show Qz I [] (Ab av) (Ao av+k*2+i*1+0) u
  rw [Nat.mul_one,Nat.add_zero];exact h2⟩
def zi5 (pre:List (Int×Int))(l:Int×Int):Bool:= !lkV l.1 l.2||(match pre.getLast? with | none=>false | some y=>decide (Wc [y.1,y.2] [l.1,l.2]≥0))
def zhw:List (Int×Int)→List (Int×Int)→Bool
 | _,[]=>true
 | pre,x::l=> !zi5 pre x&&zhw (pre++[x]) l
def UZ (qs:List Pk)(ks:List (Int×Int)):Int:=if decide ((qs.length:Int)>4096)||qs.any (fun x=> !pkV x) then 60 else if zhw [] ks then 0 else 60
theorem zck:∀ (xs pre:List (Int×Int)),zhw pre xs=true↔ ∀ j y,xs[j]? =some y→zi5 (pre++xs.take j) y=false
 | [],pre=>by simp [zhw]
 | x::l,pre=>by
  rw [zhw,Bool.and_eq_true,zck l];constructor
  ·
   rintro ⟨h1,h2⟩ j y hy
   cases j with
   | zero=>cases hy;simpa using h1
   | succ j=>have:=h2 j y hy;simpa [List.append_assoc] using this
  ·
   intro h;refine ⟨by have:=h 0 x rfl;simpa using this,fun j y hy=>?_⟩;have:=h (j+1) y hy;simpa [List.append_assoc] using this
variable{qs:List Pk}
theorem zq3 (h:(decide ((qs.length:Int)>4096)||qs.any (fun x=> !pkV x))=true):UZ qs ks=60:=if_pos h
theorem zjh {x:Int×Int}(h:(decide ((qs.length:Int)>4096)||qs.any (fun x=> !pkV x))=false)(hx:ks[k]? =some x)(hb:zi5 (ks.take k) x=true):UZ qs ks=60:=by
 unfold UZ;rw [h,if_neg kJ]
 cases hg:zhw [] ks with
 | false=>rfl
 | true=>
  have:=(zck ks []).1 hg k x hx;rw [List.nil_append,hb] at this;cases this
theorem zoV (h:(decide ((qs.length:Int)>4096)||qs.any (fun x=> !pkV x))=false)(hall:∀ j y,j<ks.length→ks[j]? =some y→zi5 (ks.take j) y=false):UZ qs ks=0:=by
 unfold UZ;rw [h,if_neg kJ,if_pos ((zck ks []).2 fun j y hy=>by rw [List.nil_append];exact hall j y (List.getElem?_eq_some_iff.1 hy).1 hy)]
theorem znI {pre:List (Int×Int)}{x:Int×Int}(h:lkV x.1 x.2=false):zi5 pre x=true:=by simp [zi5,h]
theorem zrg {x:Int×Int}(h:lkV x.1 x.2=true):zi5 [] x=false:=by simp [zi5,h]
theorem zfd {xs:List (Int×Int)}{x y:Int×Int}(h:lkV x.1 x.2=true)(hk:0<k)(hy:xs[((k:Int)-1).toNat]? =some y):zi5 (xs.take k) x=decide (Wc [y.1,y.2] [x.1,x.2]≥0):=by
 have e:((k:Int)-1).toNat=k-1:=kB;rw [e] at hy
 have hl:(xs.take k).getLast?=some y:=by
  rw [show k=k-1+1 by omega,Za hy];simp
 simp [zi5,h,hl]
def zcD:Pk:=⟨0,0,none,0,0,[]⟩
def atE (qs:List Pk)(ks:List (Int×Int))(i:Int):Int:=if UZ qs ks != 0 then 60 else if decide (i<0)||decide (i≥(qs.length:Int)) then 1 else 0
def atP (qs:List Pk)(ks:List (Int×Int))(i:Int):Pk:=if atE qs ks i=0 then qs.getD i.toNat zcD else zcD
variable{i:Int}
theorem zB8 (h:(UZ qs ks != 0)=true):atE qs ks i=60∧atP qs ks i=zcD:=by
 have:atE qs ks i=60:=by unfold atE;rw [h];rfl
 exact ⟨this,by unfold atP;rw [this];rfl⟩
theorem zCk (h:(UZ qs ks != 0)=false)(h2:(decide (i<0)||decide (i≥(qs.length:Int)))=true):atE qs ks i=1∧atP qs ks i=zcD:=by
 have:atE qs ks i=1:=by unfold atE;rw [h,h2];rfl
 exact ⟨this,by unfold atP;rw [this];rfl⟩
theorem zBw {x:Pk}(h:(UZ qs ks != 0)=false)(h2:(decide (i<0)||decide (i≥(qs.length:Int)))=false)(hx:qs[i.toNat]? =some x):atE qs ks i=0∧atP qs ks i=x:=by
 have:atE qs ks i=0:=by unfold atE;rw [h,h2];rfl
 exact ⟨this,by unfold atP;rw [this,if_pos rfl,List.getD_eq_getElem?_getD,hx];rfl⟩
def zug:Value:=.agg #[.slice none 0 0,.slice none 0 0]
theorem zeQ (h:atE qs ks i=0):0≤i∧i<(qs.length:Int):=by
 unfold atE at h;split at h
 ·
  cases h
 ·
  split at h
  ·
   cases h
  ·
   rename_i h2;simp at h2;omega
def zAg (v y:Int×Int):Bool:=v.1==y.1&&v.2==y.2
def zrE (ks:List (Int×Int))(p:Pk):Bool:=ks.any (zAg (zr9 p.frm p.to_,zgq p.frm p.to_))
def UX (qs:List Pk)(ks:List (Int×Int))(x:Pk):Int:=if (UZ qs ks != 0|| !pkV x)=true then 60 else if ((qs.length:Int)==4096)=true then 2 else 0
theorem zwP {x:Pk}(h:(UZ qs ks != 0|| !pkV x)=true):UX qs ks x=60:=if_pos h
theorem zz1 {x:Pk}(h:(UZ qs ks != 0|| !pkV x)=false)(h2:((qs.length:Int)==4096)=true):UX qs ks x=2:=by unfold UX;rw [h,h2];rfl
theorem zrP {x:Pk}(h:(UZ qs ks != 0|| !pkV x)=false)(h2:((qs.length:Int)==4096)=false):UX qs ks x=0:=by unfold UX;rw [h,h2];rfl
def zkn (I:Qv)(e:Int)(a:Option Addr)(m c:Nat)(a2:Option Addr)(m2 c2:Nat)(qs:List Pk)(aa:Option Addr)(an ac:Nat):Prop:=
 (e≠0∧a=none∧m=0∧c=0∧a2=none∧m2=0∧c2=0)∨(e=0∧a2=aa∧m2=an∧c2=ac∧Sl I 3 ZK a m c qs)
variable{e:Int}{a a2 aa:Option Addr}{m an ac:Nat}
theorem zkn.mono {m2 c2:Nat}(h:zkn I e a m c a2 m2 c2 qs aa an ac)(hI:HLe I I'):zkn I' e a m c a2 m2 c2 qs aa an ac:=h.imp id fun ⟨h1,h2,h3,h4,h5⟩=>⟨h1,h2,h3,h4,h5.mono hI⟩
theorem zae (h:e≠0):zkn I e none 0 0 none 0 0 qs aa an ac:=.inl ⟨h,rfl,rfl,rfl,rfl,rfl,rfl⟩
theorem zdG (h:e=0)(hS:Sl I 3 ZK a m c qs):zkn I e a m c aa an ac qs aa an ac:=.inr ⟨h,rfl,rfl,rfl,hS⟩
def WY (qs:List Pk)(ks:List (Int×Int))(i:Int):Int:=if atE qs ks i=0 then UX qs ks (atP qs ks i) else atE qs ks i
def JE (qs:List Pk)(ks:List (Int×Int))(i:Int):Pk:=if zrE ks (atP qs ks i)=true then zcD else atP qs ks i
theorem zpf (h:zrE ks (atP qs ks i)=true):JE qs ks i=zcD:=if_pos h
theorem zvt (h:zrE ks (atP qs ks i)=false):JE qs ks i=atP qs ks i:=if_neg (by rw [h];simp)
theorem zkn.ok {m2 c2:Nat}(h:zkn I e a m c a2 m2 c2 qs aa an ac)(he:e=0):a2=aa∧m2=an∧c2=ac∧Sl I 3 ZK a m c qs:=by
 rcases h with ⟨h,_⟩ | ⟨_,h⟩
 ·
  exact absurd he h
 ·
  exact h
structure Ev where
 kind:Int
 peer:Int
 to_:Int
 at_:Int
 note:Nt
def zfz (x:Ev):List Value:=.int .i64 x.kind:: .int .i64 x.peer:: .int .i64 x.to_:: .int .i64 x.at_::Q7 x.note
theorem ztD:AgT Tryz.prog 180 2:=.of kA
theorem Jg:AgT Tryz.prog 99 3:=.of kA
theorem zb6:ArT Tryz.prog 180 2 3 1:=.of kA
theorem zbg:QL Tryz.prog 99 0 0:=.of kA
theorem XU:QL Tryz.prog 99 1 1:=.of kA
theorem zbv:QL Tryz.prog 99 2 2:=.of kA
theorem znr:Fun Tryz.prog 125:=.of Tryz.func125 kA kA
theorem zeJ:Fun Tryz.prog 126:=.of Tryz.func126 kA kA
theorem zkY:Fun Tryz.prog 179:=.of Tryz.func179 kA kA
theorem zu9:Fun Tryz.prog 182:=.of Tryz.func182 kA kA
theorem Zn:SlT Tryz.prog 23 99 3:=.of kA
theorem zuW:SzT Tryz.prog 180 2:=.of kA
theorem zsp:Vp Tryz.prog 180 (.agg #[(.int .i64 0),(.int .i64 0)]):=.of kA
theorem zgu (I:Qv)(a b:Int):ZF Tryz.prog 179 [.int .i64 a,.int .i64 b] I (.agg #[.int .i64 (zr9 a b),.int .i64 (zgq a b)]):=by
 intro g H w hw;refine qe Tryz.func179 Tryz.ntmps179 hw ?_;refine zR<|Qt zsp rfl rfl (fun b_4=>zN (zR ?_))
 refine zM ?_;refine zM<|zV (zyi rfl rfl)<|zM ?_
 exact zM<|zV (VE rfl rfl)<|zV (VC (ps:=[(0,_),(1,_)]) [_,_] zb6 zsp rfl rfl)<|zh zuW<|zN (Qs<|ZN rfl rfl ztD zCy rfl (fun w hw=>⟨by rfl,hw.drop⟩))
theorem zrC (I:Qv)(a b:Int):ZF Tryz.prog 126 [.agg #[.int .i64 a,.int .i64 b]] I (.bool (lkV a b)):=by
 intro g H w hw;refine qe Tryz.func126 Tryz.ntmps126 hw ?_;refine zR<|QQ rfl rfl rfl (fun b_1=>zA<|zN (zR<|zV (ZV rfl rfl zb6 (fun hg=>by decide))<|zL Qn<|zC<|zM<|Qu 3 rfl rfl rfl<|zK (ZV rfl rfl zb6 (fun hg=>by decide))<|zK (Qd rfl Qn (fun hg=>by exact Qz.h0 rfl))<|zK (ZV rfl rfl zb6 (fun hg=>by decide)) ?_))
 refine zK (Qd rfl Qn (fun hg=>by exact Qz.h0 rfl))<|zK (QE rfl rfl rfl) ?_
 refine QD rfl rfl rfl rfl rfl ?_;refine zM ?_;refine Qu 10 rfl rfl rfl ?_;refine zK (ZV rfl rfl zb6 (fun hg=>by decide)) ?_;refine zK (Qd rfl Qn (fun hg=>by exact Qz.h0 rfl)) ?_;refine zK (QE rfl rfl rfl) ?_;refine QD rfl rfl rfl rfl rfl<|zA (zN (Qs ?_))
 exact zr rfl rfl kU
theorem zjj (I:Qv)(x:Pk):ZF Tryz.prog 125 [Xp x] I (.bool (pkV x)):=by
 intro g H w hw;refine qe Tryz.func125 Tryz.ntmps125 hw ?_;refine zR<|QQ rfl rfl rfl (fun b_1=>zA<|zN (zR ?_))
 refine zF zbg ?_;refine zL Qn<|zF XU ?_
 refine zL Qn<|qcV (vs:=[_,_]) rfl zkY (zgu _ _ _)<|qcV (vs:=[_]) rfl zeJ (zrC _ _ _)<|zM<|Qu 6 rfl rfl rfl ?_
 refine zK (Qa rfl zbv) ?_;refine zK (Qd rfl Jm (fun hg=>by exact Qz.h0 rfl)) ?_;refine zK (QV rfl Ks) ?_;refine zK (QE rfl rfl rfl) ?_;refine QD rfl rfl rfl rfl rfl<|zA (zN (Qs ?_))
 exact zr rfl rfl kU
theorem zvI (I:Qv)(x:Pk):ZF Tryz.prog 124 [Xp x] I (.bool (!pkV x)):=by
 intro g H w hw;refine qe Tryz.func124 Tryz.ntmps124 hw ?_;refine zR<|QQ rfl rfl rfl (fun b_1=>zA<|zN (zR<|zV (Qg rfl Jg (fun hg=>by exact Cells.g0) rfl)<|qcV (vs:=[_]) rfl znr (zjj _ x)<|zO<|zA (zN (Qs ?_))))
 exact zr rfl rfl kU
variable{fid:Nat}{cap:List Value}{P:Pk→Bool}
theorem zxV {xs:List Pk}(hS:Sl I 3 ZK av n c xs)(hn:n≤100000)(hF:Fun Tryz.prog fid)(hf:∀ x∈xs,ZF Tryz.prog fid ([Xp x]++cap) I (.bool (P x))):ZF Tryz.prog 182 [.slice av n c,.func (.func fid) #[] cap.toArray] I (.int .i64 (zkm P xs)):=by
 intro g H w hw;refine qe Tryz.func182 Tryz.ntmps182 hw ?_;refine zR (zA (zN (Qm (zR ?_))));refine zM ?_;refine zQ Zn ?_;refine zM (zN (Qr ?_));refine zU [(0,_),(1,_),(7,_)] (fun T L0 mz E I' loc'=>∃ (k:Nat),mz=n-k∧E=(8,.int .i64 k)::T∧I=I'∧L0=loc'∧k≤n∧(xs.take k).any P=false) ?_ (h:=⟨0,rfl,rfl,rfl,rfl,Nat.zero_le _,rfl⟩);rintro mz E I' loc' ⟨k,rfl,rfl,rfl,rfl,hk,hno⟩;refine zR (zC (zN (Qm ?_)));refine zI ?_ ?_<;>intro hc9
 ·
  have hlt_k:k<n:=(by have h:=hc9;simp at h;omega);obtain ⟨x,hx⟩:=hS.at hlt_k;refine Qp (Qc (Qm (Qr (zR (zM<|zA<|zN (zR ?_))))));refine zM ?_;refine zM ?_;refine zM ?_;refine zV (QC rfl rfl Zn kH (fun hg=>kB))<|zV (Qg rfl Jg (fun hg=>by exact zCB hS hx) rfl)<|VW (cap:=cap) (vs:=[_]) rfl rfl hF (hf x (List.mem_of_getElem? hx)) rfl rfl<|zN ?_
  refine zI ?_ ?_<;>intro hc16
  ·
   refine zR (zM<|zA (zN (Qs (Qj (Qf (Qf (Qj (Qf ?_))))))));exact zr rfl rfl (by rw [zcE hno hx hc16])
  exact Qp (Qi (Qc (Qh (zB<|zM (Qb<|zm (h:=⟨n-(k+1),kB,k+1,rfl,rfl,rfl,rfl,kB,zav hx hno hc16⟩))))))
 have hge_k:n≤k:=(by have h:=hc9;simp at h;omega);exact Q6 (Ql (Ql (Qq (Qc (zR (zA (zN<|Qs<|zr rfl rfl (by rw [zbb hS.len hge_k hno]))))))))
theorem zzw {xs:List Pk}(hS:Sl I 3 ZK av n c xs)(hn:n≤100000)(hF:Fun Tryz.prog fid)(hf:∀ x∈xs,ZF Tryz.prog fid ([Xp x]++cap) I (.bool (P x))):ZF Tryz.prog 123 [.slice av n c,.func (.func fid) #[] cap.toArray] I (.bool (xs.any P)):=by
 intro g H w hw;refine qe Tryz.func123 Tryz.ntmps123 hw ?_;refine zR (zA<|zN (zR ?_));refine zM ?_;refine zM<|qcV (vs:=[_,_]) rfl zu9 (zxV hS hn hF hf)<|zC<|zA (zN (Qs ?_))
 exact zr rfl rfl (by rw [←zhO])
theorem zw7 {bv:Option Addr}{d:Nat}{xs:List Int}(hS:Sl I 1 ZX av n c xs)(hT:Sl I 1 ZX bv m d ys)(hn:n≤100000)(_hm:m≤100000):ZF Tryz.prog 127 [.slice av n c,.slice bv m d] I (.int .i64 (Wc xs ys)):=by
 intro g H w hw;refine qe Tryz.func127 Tryz.ntmps127 hw ?_;have hln:=hS.len;have hlm:=hT.len;refine zR (zA (zN (Qm (zR ?_))));refine zM ?_;refine zQ Q4 ?_;refine zM (zN (Qr ?_));refine zU [(0,_),(1,_),(9,_),(10,_)] (fun T L0 mz E I' loc'=>∃ (k:Nat),mz=n-k∧E=(11,.int .i64 k)::T∧I=I'∧L0=loc'∧k≤n∧Wc xs ys=Wc (xs.drop k) (ys.drop k)) ?_ (h:=⟨0,rfl,rfl,rfl,rfl,Nat.zero_le _,rfl⟩);rintro mz E I' loc' ⟨k,rfl,rfl,rfl,rfl,hk,hI⟩;refine zR (zC (zN (Qm ?_)));refine zI ?_ ?_<;>intro hc12
 ·
  have hlt_k:k<n:=(by have h:=hc12;simp at h;omega);obtain ⟨x,hx⟩:=hS.at hlt_k;refine Qp (Qc (Qm (Qr (zR (zM<|zV (zX Q4 hS)<|zV (Qd rfl Qn (fun hg=>by exact zCt hS hx rfl))<|zA<|zA (zN (Qm (zR<|zM ?_))))))));refine zM ?_;refine zQ Q4<|zC (zN ?_)
  refine zI ?_ ?_<;>intro hc19
  ·
   have h19:m≤k:=(by have h:=hc19;simp at h;omega);exact zR (zA (zN (Qs (Qf (Qj (Qf (Qf<|Qj (Qf<|zr rfl rfl (by rw [hI,zph hx kB])))))))))
  have h19:k<m:=(by have h:=hc19;simp at h;omega);obtain ⟨y,hy⟩:=hT.at h19;refine Qp (Qc (zR (zM ?_)));refine zM ?_;refine zV (zX Q4 hT) ?_;refine zV (Qd rfl Qn (fun hg=>by exact zCt hT hy rfl))<|zA<|zN (zR ?_)
  refine zM ?_;refine zM<|qcV (vs:=[_,_]) rfl zk4 (ztj I _ _)<|zA<|zN (zR ?_)
  refine zM<|zC (zN ?_)
  refine zI ?_ ?_<;>intro hc28
  ·
   refine zR (zM<|zA (zN (Qs (Qj (Qf (Qf (Qj (Qf ?_))))))));exact zr rfl rfl (by rw [hI,zmZ hx hy (by simpa using hc28)])
  exact Qp (Qi (Qc (Qh (zB<|zM (Qb<|zm (h:=⟨n-(k+1),kB,k+1,rfl,rfl,rfl,rfl,kB,hI.trans (zjB hx hy (by simpa using hc28))⟩))))))
 have hge_k:n≤k:=(by have h:=hc12;simp at h;omega);refine Q6 (Ql (Ql (Qq (Qc (Qm (zR (zM<|zQ Q4 ?_)))))));refine zM ?_;refine zQ Q4<|zC (zN ?_)
 refine zI ?_ ?_<;>intro hc35
 ·
  have h35:n<m:=(by have h:=hc35;simp at h;omega);exact zR (zA (zN (Qs (Qf<|zr rfl rfl (by rw [hI,zpG kB kB])))))
 have h35:m≤n:=(by have h:=hc35;simp at h;omega);exact Qp (Qc (zR (zA (zN (Qs<|zr rfl rfl (by rw [hI,zqP kB kB]))))))
theorem WX:AgT Tryz.prog 179 2:=.of kA
theorem znP:ArT Tryz.prog 179 2 3 1:=.of kA
theorem Zq:QL Tryz.prog 26 0 0:=.of kA
theorem zef:QL Tryz.prog 26 1 1:=.of kA
theorem zwq:Fun Tryz.prog 123:=.of Tryz.func123 kA kA
theorem zut:Fun Tryz.prog 124:=.of Tryz.func124 kA kA
theorem zvL:Fun Tryz.prog 127:=.of Tryz.func127 kA kA
theorem Zv:ScT Tryz.prog 23:=.of kA
theorem zkF:ScT Tryz.prog 24:=.of kA
theorem zfp:SlT Tryz.prog 24 179 2:=.of kA
theorem zu1:SzT Tryz.prog 179 2:=.of kA
theorem zxs:Vp Tryz.prog 179 (.agg #[(.int .i64 0),(.int .i64 0)]):=.of kA
variable{qa:Option Addr}{qn qc:Nat}
theorem znX (hQ:Sl I 3 ZK qa qn qc qs)(hqn:qn≤100000)(hA:Sl I 2 Um aa an ac ks)(han:an≤100000):ZF Tryz.prog 60 [.agg #[.slice qa qn qc,.slice aa an ac]] I (.int .i64 (UZ qs ks)):=by
 intro g H w hw;refine qe Tryz.func60 Tryz.ntmps60 hw ?_;have hIc:=zCA I;have hlq:=hQ.len;have hla:=hA.len;refine zR<|QQ rfl rfl rfl (fun b_1=>zA (Qb<|QH .here (fun I1 hI1 hb1=>?_)))
 have hQ:=hQ.mono hI1;have hA:=hA.mono hI1;have hIc:=hIc.trans hI1;have h1:=BxI.of hb1;refine Qc (Qm (zR<|zF Zq ?_));refine zV (Qd rfl Zv (fun hg=>by exact Qz.imm h1.out rfl))<|zQ Zn<|zC<|zM<|QK 4 rfl rfl rfl ?_
 refine zJ (Qa rfl Zq)<|zJ (Qd rfl Zv (fun hg=>by exact Qz.imm h1.out rfl))<|qf (vs:=[_,_]) rfl zwq (fun hg=>zzw (P:=fun x=> !pkV x) hQ hqn zut (cap:=[]) (fun x _=>zvI _ x))<|Zf rfl rfl rfl rfl rfl<|zN ?_
 refine zI ?_ ?_<;>intro hc13
 ·
  have h13:(decide ((qs.length:Int)>4096)||qs.any (fun x=> !pkV x))=true:=(by rw [hlq];exact hc13);exact zR (zA (zN (Qs (Qf<|zp hIc rfl rfl (by rw [zq3 h13])))))
 have h13:(decide ((qs.length:Int)>4096)||qs.any (fun x=> !pkV x))=false:=(by rw [hlq];exact hc13);refine Qp (Qc (Qm (zR<|zF zef ?_)));refine zV (Qd rfl zkF (fun hg=>by exact Qz.imm h1.out rfl))<|zQ zfp ?_
 refine zM (zN (Qr ?_));refine zU [(1,_),(15,_),(16,_)] (fun T L0 mz E I' loc'=>∃ (k:Nat),mz=an-k∧E=(17,.int .i64 k)::T∧HLe I1 I'∧L0=loc'∧k≤an∧(∀ j y,j<k→ks[j]? =some y→zi5 (ks.take j) y=false)) ?_ (h:=⟨0,rfl,rfl,zCA _,rfl,Nat.zero_le _,fun j y h=>absurd h (Nat.not_lt_zero _)⟩);rintro mz E J2 loc' ⟨k,rfl,rfl,hJ,rfl,hk,hall⟩;have hA:=hA.mono hJ;have h1:=h1.mono hJ;have hIc:=hIc.trans hJ;have hB0:=hJ;refine zR (zC (zN (Qm ?_)));refine zI ?_ ?_<;>intro hc18
 ·
  have hlt_k:k<an:=(by have h:=hc18;simp at h;omega);obtain ⟨x,hx⟩:∃ x,ks[k]? =some x:=⟨_,List.getElem?_eq_getElem kB⟩;refine Qp (Qc (Qm (Qr (zR (zM<|zV (zX zfp hA)<|zV (Qg rfl WX (fun hg=>by exact zCB hA hx) rfl)<|Qt zxs rfl rfl (fun b_4=>?_))))));refine zA<|zh zu1 ?_
  refine Qb<|QH .here (fun I3 hI3 hb3=>?_)
  have hA:=hA.mono hI3;have h1:=h1.mono hI3;have hIc:=hIc.trans hI3;have hB0:=hB0.trans hI3;have h4:=BxI.of hb3;refine Qc (Qm ?_);rcases (show lkV x.1 x.2=false∨(lkV x.1 x.2=true∧k=0)∨(lkV x.1 x.2=true∧0<k) by cases lkV x.1 x.2<;>simp<;>omega) with hf | ⟨hf,hk⟩ | ⟨hf,hk⟩
  ·
   have hD:=zCA I3;refine Zm<|QI I3 [] mixed<|zT 0 rfl (Qg rfl WX (fun hg=>by exact BxI.cells (vs:=Um x) h4) rfl) hD<|qd 1 rfl<|qcV (vs:=[_]) rfl zeJ (zrC _ x.1 x.2)<|Qb<|zD hD<|zT 2 rfl (Zy rfl) hD ?_
   rw [hf];refine zT 3 rfl (Qe rfl) hD<|zW 4 25 hD ?_
   refine zW 5 25 hD ?_;refine zW 6 25 hD ?_;refine zW 7 28 hD ?_;refine zW 8 28 hD ?_;refine zW 9 28 hD ?_;refine zW 10 28 hD ?_;refine zW 11 28 hD ?_;refine zW 12 28 hD ?_;refine zW 13 28 hD ?_;refine zW 14 28 hD ?_;refine zW 15 28 hD ?_;refine zW 16 25 hD<|zT 17 rfl (Yg rfl rfl rfl) hD<|Qo kA<|Qw<|Qc ?_
   refine zI ?_ ?_<;>intro hc39
   ·
    have hbad:=znI (pre:=ks.take k) hf;exact zR (zA (zN (Qs (Qj (Qf (Qf (Qj<|Qf<|zp hIc rfl rfl (by rw [zjh h13 hx hbad]))))))))
   cases hc39
  ·
   have hk0:decide ((k:Int)>0)=false:=(by simp;omega);have hD:=zCA I3;refine Zm<|QI I3 [] mixed<|zT 0 rfl (Qg rfl WX (fun hg=>by exact BxI.cells (vs:=Um x) h4) rfl) hD<|qd 1 rfl<|qcV (vs:=[_]) rfl zeJ (zrC _ x.1 x.2)<|Qb<|zD hD<|zT 2 rfl (Zy rfl) hD ?_
   rw [hf];refine zT 3 rfl (Qe rfl) hD<|zw 4 25 rfl (Qe rfl) hD<|zw 5 25 rfl (QE rfl rfl rfl) hD ?_
   rw [hk0];refine zw 6 25 rfl (Qe rfl) hD<|zW 7 28 hD ?_
   refine zW 8 28 hD ?_;refine zW 9 28 hD ?_;refine zW 10 28 hD ?_;refine zW 11 28 hD ?_;refine zW 12 28 hD ?_;refine zW 13 28 hD ?_;refine zW 14 28 hD ?_;refine zW 15 28 hD ?_;refine zw 16 25 rfl (Yg rfl rfl rfl) hD<|zT 17 rfl (QY rfl rfl rfl) hD<|Qo kA<|Qw<|Qc ?_
   refine zI ?_ ?_<;>intro hc39
   ·
    cases hc39
   have hbad:zi5 (ks.take k) x=false:=(by rw [hk];exact zrg hf);exact Qp (Qi (Qc (Qh (zB<|zM (Qb<|zm (h:=⟨an-(k+1),kB,k+1,rfl,rfl,hB0,rfl,kB,VK hx hall hbad⟩))))))
  have hk0:decide ((k:Int)>0)=true:=(by simp;omega);obtain ⟨y,hy⟩:∃ y,ks[((k:Int)-1).toNat]? =some y:=⟨_,List.getElem?_eq_getElem kB⟩;have hB:Sl I3 1 ZX (some ⟨b_4,0,none⟩) 2 2 [x.1,x.2]:=Sl.lit [x.1,x.2] rfl YM h4.out;have hD:=zCA I3;refine Zm<|QI I3 [] mixed<|zT 0 rfl (Qg rfl WX (fun hg=>by exact BxI.cells (vs:=Um x) h4) rfl) hD<|qd 1 rfl<|qcV (vs:=[_]) rfl zeJ (zrC _ x.1 x.2)<|Qb<|zD hD<|zT 2 rfl (Zy rfl) hD ?_
  rw [hf];refine zT 3 rfl (Qe rfl) hD<|zw 4 25 rfl (Qe rfl) hD<|zw 5 25 rfl (QE rfl rfl rfl) hD ?_
  rw [hk0];refine zw 6 25 rfl (Qe rfl) hD<|zw 7 28 rfl (Qa rfl zef) hD<|zw 8 28 rfl (Qd rfl zkF (fun hg=>by exact Qz.imm h1.out rfl)) hD<|zw 9 28 rfl (Qe rfl) hD<|zw 10 28 rfl (Yr rfl rfl rfl (fun hg=>kB)) hD<|zw 11 28 rfl (zX zfp hA) hD<|zw 12 28 rfl (zcg rfl znP) hD<|zw 13 28 rfl (zcg rfl znP) hD<|qd 14 rfl<|QM (dj:=28) rfl rfl rfl<|qcV (vs:=[_,_]) rfl zvL (zw7 (ztv hA hy) hB kD kD)<|Qb ?_
  refine zD hD<|zw 15 28 rfl (QE rfl rfl rfl) hD<|zw 16 25 rfl (QY rfl rfl rfl) hD<|zT 17 rfl (QY rfl rfl rfl) hD<|Qo kA<|Qw<|Qc ?_
  refine zI ?_ ?_<;>intro hc39
  ·
   have hbad:zi5 (ks.take k) x=true:=(zfd hf hk hy).trans hc39;exact zR (zA (zN (Qs (Qj (Qf (Qf (Qj<|Qf<|zp hIc rfl rfl (by rw [zjh h13 hx hbad]))))))))
  have hbad:zi5 (ks.take k) x=false:=(zfd hf hk hy).trans hc39;exact Qp (Qi (Qc (Qh (zB<|zM (Qb<|zm (h:=⟨an-(k+1),kB,k+1,rfl,rfl,hB0,rfl,kB,VK hx hall hbad⟩))))))
 have hge_k:an≤k:=(by have h:=hc18;simp at h;omega);exact Q6 (Ql (Ql (Qq (Qc (zR (zA (zN<|Qs<|zp hIc rfl rfl (by rw [zoV h13 (fun j y hj hy=>hall j y kB hy)]))))))))
theorem ZW:AgT Tryz.prog 26 2:=.of kA
theorem zmb:Fun Tryz.prog 60:=.of Tryz.func60 kA kA
theorem Ka:SzT Tryz.prog 99 3:=.of kA
theorem zcS:Vp Tryz.prog 99 (.agg #[(.int .i64 0),(.int .i64 0),(.slice none 0 0)]):=.of kA
theorem zAy (hQ:Sl I 3 ZK qa qn qc qs)(hqn:qn≤100000)(hA:Sl I 2 Um aa an ac ks)(han:an≤100000)(i:Int):ZF Tryz.prog 177 [.agg #[.slice qa qn qc,.slice aa an ac],.int .i64 i] I (.tuple #[Xp (atP qs ks i),.int .i64 (atE qs ks i)]):=by
 intro g H w hw;refine qe Tryz.func177 Tryz.ntmps177 hw ?_;have hlq:=hQ.len;refine zR<|QQ rfl rfl rfl (fun b_2=>Qt zcS rfl rfl (fun b_4=>?_))
 refine zA (zN (Qm (zR<|zV (Qg rfl ZW (fun hg=>by exact Cells.g1) rfl)<|qcV (vs:=[_]) rfl zmb (znX hQ hqn hA han)<|zC (zN ?_))));refine zI ?_ ?_<;>intro hc8
 ·
  have h1:=zB8 (i:=i) hc8;refine zR<|zV (Qg rfl Jg (fun hg=>by exact Cells.g0) rfl)<|zh Ka<|zA (zN (Qs (Qf ?_)))
  first
  | exact Zz rfl rfl rfl Jg zCy rfl (fun w hw=>⟨by rw [h1.1,h1.2];rfl,hw.drop.drop⟩)
 refine Qp (Qc (Qm (zR (zM<|zC ?_))));refine zM ?_;refine QK 2 rfl rfl rfl ?_;refine zJ (Qe rfl) ?_;refine zJ (Qa rfl Zq) ?_;refine zJ (Qd rfl Zv (fun hg=>by exact Qz.h1 rfl)) ?_;refine zJ (QV rfl Zn) ?_;refine zJ (QE rfl rfl rfl) ?_;refine Zf rfl rfl rfl rfl rfl ?_;refine zN ?_;refine zI ?_ ?_<;>intro hc18
 ·
  have h2:=zCk (i:=i) (ks:=ks) hc8 (by rw [hlq];exact hc18);refine zR<|zV (Qg rfl Jg (fun hg=>by exact Cells.g0) rfl)<|zh Ka<|zA (zN (Qs (Qf ?_)))
  first
  | exact Zz rfl rfl rfl Jg zCy rfl (fun w hw=>⟨by rw [h2.1,h2.2];rfl,hw.drop.drop⟩)
 have h18:0≤i∧i<(qn:Int):=(by have h:=hc18;simp at h;omega);obtain ⟨x,hx⟩:∃ y,qs[i.toNat]? =some y:=⟨_,List.getElem?_eq_getElem kB⟩;have h3:=zBw (i:=i) (ks:=ks) hc8 (by rw [hlq];exact hc18) hx;refine Qp (Qc (zR<|zF Zq ?_));refine zL Zv<|zM<|zV (zX Zn hQ)<|zV (Qg rfl Jg (fun hg=>by exact zCB hQ hx) rfl)<|zh Ka<|zA (zN (Qs ?_))
 first
 | exact Zz rfl rfl rfl Jg zCy rfl (fun w hw=>⟨by rw [h3.1,h3.2];rfl,hw.drop.drop⟩)
theorem ZY:ElT Tryz.prog 23 99 3 40:=.of kA
theorem Vi:SzT Tryz.prog 23 1:=.of kA
theorem YB:SzT Tryz.prog 26 2:=.of kA
theorem Wk:Vp Tryz.prog 26 (.agg #[(.slice none 0 0),(.slice none 0 0)]):=.of kA
theorem zcz (hQ:Sl I 3 ZK qa qn qc qs)(hqn:qn≤100000)(_hA:Sl I 2 Um aa an ac ks)(_han:an≤100000)(hi:0≤i∧i<(qn:Int)):Y7 Tryz.prog 180 [.agg #[.slice qa qn qc,.slice aa an ac],.int .i64 i] I [] (fun v I' L'=>∃ a m c,v= .agg #[.slice a m c,.slice aa an ac]∧m+1=qn∧Sl I' 3 ZK a m c (qs.eraseIdx i.toNat)∧L'=[]):=by
 intro g H w hw;refine qe Tryz.func180 Tryz.ntmps180 hw ?_;have hIc:=zCA I;have hlq:=hQ.len;have hcq:=hQ.cap;refine zR<|QQ rfl rfl rfl (fun b_2=>Qt Wk rfl rfl (fun b_4=>zN (Qm ?_)))
 have hD:=zCA I;refine Zm<|QI I [] mixed<|zT 0 rfl (Qa rfl Zq) hD<|zT 2 rfl (Qe rfl) hD<|zT 3 rfl (Qe rfl) hD<|zT 5 rfl (Qa rfl Zq) hD<|zT 7 rfl (Qe rfl) hD<|zT 8 rfl (Yr rfl rfl rfl (fun hg=>kB)) hD ?_
 refine QS 1 6 rfl rfl kA ?_ ?_
 ·
  refine zL Zv<|Qb<|zD hD ?_
  refine zT 4 rfl (Zu rfl rfl rfl Zn (fun hg=>kB)) hD<|qd 6 rfl ?_
  refine zL Zv<|Qb<|zD hD<|zT 9 rfl (YS rfl rfl Zn (fun hg=>kB)) hD<|qd 10 rfl<|zaL ZG kD rfl rfl ZY ((hQ.take (k:=i.toNat) kB).cut) (hQ.drop (k:=(i+1).toNat) kB) kB rfl rfl ?_
  intro I1 ac cc hI1 hZ;have hIc:=hIc.trans hI1;have hD:=hD.trans hI1;refine Qb<|zD hD<|zT 11 rfl (Qa rfl Zq) hD<|qd 12 rfl ?_
  refine zS Vi ?_;refine Qb<|zD hD<|Qo kA<|Qw<|Qc (zR<|zV (Qg rfl ZW (fun hg=>by exact Cells.g1) rfl)<|zh YB<|zN (Qs ?_))
  exact ZN rfl rfl ZW zCy rfl (fun w hw=>⟨_,I1,[],rfl,hIc,hw.drop.drop,_,_,_,rfl,kB,by rw [List.eraseIdx_eq_take_drop_succ,show i.toNat+1=(i+1).toNat by omega];exact hZ,rfl⟩)
 refine zL Zv<|Qb<|zD hD ?_
 refine zT 9 rfl (YS rfl rfl Zn (fun hg=>kB)) hD<|qd 1 rfl ?_
 refine zL Zv<|Qb<|zD hD ?_
 refine zT 4 rfl (Zu rfl rfl rfl Zn (fun hg=>kB)) hD<|qd 10 rfl<|zaL ZG kD rfl rfl ZY ((hQ.take (k:=i.toNat) kB).cut) (hQ.drop (k:=(i+1).toNat) kB) kB rfl rfl ?_
 intro I2 ac cc hI2 hZ;have hIc:=hIc.trans hI2;have hD:=hD.trans hI2;refine Qb<|zD hD<|zT 11 rfl (Qa rfl Zq) hD<|qd 12 rfl ?_
 refine zS Vi ?_;refine Qb<|zD hD<|Qo kA<|Qw<|Qc (zR<|zV (Qg rfl ZW (fun hg=>by exact Cells.g1) rfl)<|zh YB<|zN (Qs ?_))
 exact ZN rfl rfl ZW zCy rfl (fun w hw=>⟨_,I2,[],rfl,hIc,hw.drop.drop,_,_,_,rfl,kB,by rw [List.eraseIdx_eq_take_drop_succ,show i.toNat+1=(i+1).toNat by omega];exact hZ,rfl⟩)
theorem zhK:Fun Tryz.prog 177:=.of Tryz.func177 kA kA
theorem zhc:Fun Tryz.prog 180:=.of Tryz.func180 kA kA
theorem ztG:Fun Tryz.prog 228:=.of Tryz.func228 kA kA
theorem zrG (hQ:Sl I 3 ZK qa qn qc qs)(hqn:qn≤100000)(hA:Sl I 2 Um aa an ac ks)(han:an≤100000)(i:Int):Y7 Tryz.prog 114 [.agg #[.slice qa qn qc,.slice aa an ac],.int .i64 i] I [] (fun v I' L'=>∃ a m c a2 m2 c2,v= .tuple #[.agg #[.slice a m c,.slice a2 m2 c2],.int .i64 (atE qs ks i)]∧L'=[]∧zkn I' (atE qs ks i) a m c a2 m2 c2 (qs.eraseIdx i.toNat) aa an ac):=by
 intro g H w hw;refine qe Tryz.func114 Tryz.ntmps114 hw ?_;have hIc:=zCA I;refine zR<|QQ rfl rfl rfl (fun b_2=>Qt Wk rfl rfl (fun b_4=>?_))
 refine zA (zN (Qm (zR<|zV (Qg rfl ZW (fun hg=>by exact Cells.g1) rfl)<|zM<|qcV (vs:=[_,_]) rfl zhK (zAy hQ hqn hA han i)<|zM ?_)));refine zE ?_;refine zE<|zA<|zN (zR ?_)
 refine zM<|zC (zN ?_)
 refine zI ?_ ?_<;>intro hc13
 ·
  have he:atE qs ks i≠0:=(by simpa using hc13);exact zR<|zV (Qg rfl ZW (fun hg=>by exact Cells.g0) rfl)<|zM<|zh YB<|zA (zN (Qs (Qf<|Zz rfl rfl rfl ZW zCy rfl (fun w hw=>⟨_,I,[],rfl,hIc,hw.drop.drop,_,_,_,_,_,_,rfl,rfl,zae he⟩))))
 have he:atE qs ks i=0:=(by simpa using hc13);have hr:0≤i∧i<(qn:Int):=(by have h:=zeQ he;rw [hQ.len] at h;exact h);refine Qp (Qc (zR<|zV (Qg rfl ZW (fun hg=>by exact Cells.g1) rfl)<|zM<|zpc [_,_] rfl zhc .nil (zcz hQ hqn hA han hr) ?_));rintro vv1 I1 L1 hI1 ⟨a4,m4,c4,rfl,hm4,hZ,rfl⟩;have hIc:=hIc.trans hI1;exact zh YB<|zA (zN (Qs<|Zz rfl rfl rfl ZW zCy rfl (fun w hw=>⟨_,I1,[],rfl,hIc,hw.drop.drop,_,_,_,_,_,_,by rw [he],rfl,zdG he hZ⟩)))
theorem zAP (hS:Sl I 2 Um av n c ks)(hn:n≤100000)(v:Int×Int):ZF Tryz.prog 228 [.slice av n c,.agg #[.int .i64 v.1,.int .i64 v.2]] I (.int .i64 (zkm (zAg v) ks)):=by
 intro g H w hw;refine qe Tryz.func228 Tryz.ntmps228 hw ?_;refine zR<|QQ rfl rfl rfl (fun b_3=>zA (zN (Qm (zR<|zM ?_))))
 refine zQ zfp ?_;refine zM (zN (Qr ?_));refine zU [(0,_),(3,_),(7,_)] (fun T L0 mz E I' loc'=>∃ (k:Nat),mz=n-k∧E=(8,.int .i64 k)::T∧I=I'∧[(b_3,.cells #[.int .i64 v.1,.int .i64 v.2] 179 (0,0))]=loc'∧k≤n∧(ks.take k).any (zAg v)=false) ?_ (h:=⟨0,rfl,rfl,rfl,rfl,Nat.zero_le _,rfl⟩);rintro mz E I' loc' ⟨k,rfl,rfl,rfl,rfl,hk,hno⟩;refine zR (zC (zN (Qm ?_)));refine zI ?_ ?_<;>intro hc9
 ·
  have hlt_k:k<n:=(by have h:=hc9;simp at h;omega);obtain ⟨x,hx⟩:=hS.at hlt_k;refine Qp (Qc (Qm (Qr (zR (zM<|zA (zN (Qm ?_)))))));have hD:=zCA I;refine Zm<|QI I [(b_3,.cells #[.int .i64 v.1,.int .i64 v.2] 179 (0,0))] mixed<|zT 0 rfl (Qg rfl WX (fun hg=>by exact Cells.g0) rfl) hD<|zT 1 rfl (Qe rfl) hD<|zT 2 rfl (Qe rfl) hD<|zT 3 rfl (zX zfp hS) hD<|zT 4 rfl (Qg rfl WX (fun hg=>by exact zCB hS hx) rfl) hD<|zT 5 rfl (zs8 rfl rfl zvQ) hD<|Qo kA<|Qw<|Qc ?_
  refine zI ?_ ?_<;>intro hc16
  ·
   refine zR (zM<|zA (zN (Qs (Qj (Qf (Qf (Qj (Qf ?_))))))));exact zr rfl rfl (by rw [zcE hno hx hc16])
  exact Qp (Qi (Qc (Qh (zB<|zM (Qb<|zm (h:=⟨n-(k+1),kB,k+1,rfl,rfl,rfl,rfl,kB,zav hx hno hc16⟩))))))
 have hge_k:n≤k:=(by have h:=hc9;simp at h;omega);exact Q6 (Ql (Ql (Qq (Qc (zR (zA (zN<|Qs<|zr rfl rfl (by rw [zbb hS.len hge_k hno]))))))))
theorem zBa (hS:Sl I 2 Um av n c ks)(hn:n≤100000)(v:Int×Int):ZF Tryz.prog 178 [.slice av n c,.agg #[.int .i64 v.1,.int .i64 v.2]] I (.bool (ks.any (zAg v))):=by
 intro g H w hw;refine qe Tryz.func178 Tryz.ntmps178 hw ?_;refine zR<|QQ rfl rfl rfl (fun b_3=>zA<|zN (zR ?_))
 refine zM<|zV (Qg rfl WX (fun hg=>by exact Cells.g0) rfl)<|qcV (vs:=[_,_]) rfl ztG (zAP hS hn v)<|zC<|zA (zN (Qs ?_))
 exact zr rfl rfl (by rw [←zhO])
end
end Go.Proofs.YtjblkbkmblkgoaaGreat
