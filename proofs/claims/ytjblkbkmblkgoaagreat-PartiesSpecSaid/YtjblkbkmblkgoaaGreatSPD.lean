/- partiesSpec_holds, part D of the proof: what its theorems say holds without further conditions. -/
import Derived.Lib.SlicesCompact
import Derived.Lib.RowBridge
import Derived.Shelf.Small.Bits
import Derived.Shelf.Small.Strs
import Derived.Shelf.Small.Wraps
import Derived.Shelf.Strconv.Itoa0
import Derived.Shelf.Sort.Plain
import Derived.Ground.Names2Prog
import Derived.Shelf.Slices.SearchI
import Derived.Shelf.Slices.In.SortNone
import Derived.Ground.SlgnProg
import Derived.Shelf.SlicesE.Clone
import Derived.Shelf.SlicesQ.Reverse
import Derived.Ground.SlsfProg
import Derived.Shelf.SlSortCmp.InsertionK
import Derived.Shelf.SlSortCmp.SiftDownK
import Derived.Shelf.SlSortCmp.HeapSortK
import Derived.Shelf.SlSortCmp.MedianK
import Derived.Shelf.SlSortCmp.PivotK
import Derived.Shelf.SlSortCmp.ReverseRangeK
import Derived.Shelf.SlSortCmp.PartialInsertionK
import Derived.Shelf.SlSortCmp.PartitionEqualK
import Derived.Shelf.SlSortCmp.PartitionK
import Derived.Shelf.SlSortCmp.PdqK
import Derived.Shelf.SlSortCmp.WholeK
import Derived.Shelf.SlSortCmp.NoneTotal
import Derived.Test.YtjblkbkmblkgoaaGreatProg
import Derived.Test.YtjblkbkmblkgoaaGreatSPC
namespace Go.Proofs.YtjblkbkmblkgoaaGreat.S
section
open Go Go.Kn Go.Proofs
theorem zmD (I:Qu)(x:Rt)(r:Nat)(bs:List (Int×Rt))(hm:ZQ bs (w64 (x.ends-1))=none):zoD Tryz.prog 167 [encA x,.map (some r)] I [(r,YH (.int .i64) encA bs)] (.bool (voidF x bs)):=by
 intro g H w hw;refine enter Tryz.func167 rfl Tryz.ntmps167 rfl hw<|zR<|QK rfl rfl rfl (fun b_2=>zA<|zN (zR ?_))
 refine zM<|zF Vp ?_
 refine zV (Qc rfl Ql (fun hg=>by exact Qy.h0 rfl))<|zV (U6 rfl rfl rfl)<|zV (zft hm U8 Zd rfl rfl (fun _=>(by exact Mem.m1)))<|zM ?_
 refine zE<|zE<|Qp za0 rfl rfl (fun b_5=>V6 rfl rfl Uq rfl rfl rfl rfl kS ?_)
 refine zA<|zN (zR ?_)
 refine zM ?_;refine zM<|Qt 1 rfl rfl rfl ?_
 refine zK (Qa rfl Jb) ?_;refine zK (Qc rfl Ql (fun hg=>by exact Qy.h0 rfl)) ?_;refine zK (QA rfl rfl rfl) ?_;refine QE rfl rfl rfl rfl rfl<|zM<|Qt 6 rfl rfl rfl ?_
 refine zK (Qa rfl YT) ?_;refine zK (Qc rfl Ql (fun hg=>by exact Qy.h0 rfl))<|zK (Qa rfl YT) ?_
 refine zK (Qc rfl Ql (fun hg=>by exact Qy.h1 rfl)) ?_;refine zK (QA rfl rfl rfl) ?_;refine QE rfl rfl rfl rfl rfl ?_;refine zM ?_;refine Qt 13 rfl rfl rfl ?_;refine zK (Qg rfl Y6 (fun hg=>by exact Cells.g1) rfl) ?_;refine zK (Qa rfl Ve) ?_;refine zK (Qc rfl Ql (fun hg=>by exact Qy.h1 rfl))<|zK (Qa rfl Jb) ?_
 refine zK (Qc rfl Ql (fun hg=>by exact Qy.h1 rfl))<|zK (Qa rfl Vp) ?_
 refine zK (Qc rfl Ql (fun hg=>by exact Qy.h1 rfl))<|zK (Qa rfl YT) ?_
 refine zK (Qc rfl Ql (fun hg=>by exact Qy.h1 rfl))<|zK (QD (ps:=[(0,_),(1,_),(5,_),(10,_)]) [_,_,_,_,_,_,_,_,_,_,_] WT rfl rfl)<|zK (Wh rfl rfl zaW rfl)<|QE rfl rfl rfl rfl rfl<|zA<|zN<|Qs ?_
 exact Qx rfl rfl (fun w hw=>⟨by simp [voidF,hm],hw.subL (.drop (.drop .refl))⟩)
variable{old:Rt}
theorem zka (I:Qu)(x:Rt)(r:Nat)(bs:List (Int×Rt))(hm:ZQ bs (w64 (x.ends-1))=some old):zoD Tryz.prog 167 [encA x,.map (some r)] I [(r,YH (.int .i64) encA bs)] (.bool (voidF x bs)):=by
 intro g H w hw;refine enter Tryz.func167 rfl Tryz.ntmps167 rfl hw<|zR<|QK rfl rfl rfl (fun b_2=>zA<|zN (zR ?_))
 refine zM<|zF Vp ?_
 refine zV (Qc rfl Ql (fun hg=>by exact Qy.h0 rfl))<|zV (U6 rfl rfl rfl)<|zV (zf2 hm U8 Zd rfl rfl (fun _=>(by exact Mem.m1)))<|zM ?_
 refine zE<|zE<|Qp za0 rfl rfl (fun b_5=>V6 rfl rfl Uq rfl rfl rfl rfl kS ?_)
 refine zA<|zN (zR ?_)
 refine zM ?_;refine zM<|Qt 1 rfl rfl rfl ?_
 refine zK (Qa rfl Jb) ?_;refine zK (Qc rfl Ql (fun hg=>by exact Qy.h0 rfl)) ?_;refine zK (QA rfl rfl rfl) ?_;refine QE rfl rfl rfl rfl rfl<|zM<|Qt 6 rfl rfl rfl ?_
 refine zK (Qa rfl YT) ?_;refine zK (Qc rfl Ql (fun hg=>by exact Qy.h0 rfl))<|zK (Qa rfl YT) ?_
 refine zK (Qc rfl Ql (fun hg=>by exact Qy.h1 rfl)) ?_;refine zK (QA rfl rfl rfl) ?_;refine QE rfl rfl rfl rfl rfl ?_;refine zM ?_;refine Qt 13 rfl rfl rfl ?_;refine zK (Qg rfl Y6 (fun hg=>by exact Cells.g1) rfl) ?_;refine zK (Qa rfl Ve) ?_;refine zK (Qc rfl Ql (fun hg=>by exact Qy.h1 rfl))<|zK (Qa rfl Jb) ?_
 refine zK (Qc rfl Ql (fun hg=>by exact Qy.h1 rfl))<|zK (Qa rfl Vp) ?_
 refine zK (Qc rfl Ql (fun hg=>by exact Qy.h1 rfl))<|zK (Qa rfl YT) ?_
 refine zK (Qc rfl Ql (fun hg=>by exact Qy.h1 rfl))<|zK (QD (ps:=[(0,_),(1,_),(5,_),(10,_)]) [_,_,_,_,_,_,_,_,_,_,_] WT rfl rfl)<|zK (Wh rfl rfl zaW rfl)<|QE rfl rfl rfl rfl rfl<|zA<|zN<|Qs ?_
 exact Qx rfl rfl (fun w hw=>⟨by simp [voidF,zeroR,rtEq,hm],hw.subL (.drop (.drop .refl))⟩)
theorem zyF (I:Qu)(x:Rt)(r:Nat)(bs:List (Int×Rt)):zoD Tryz.prog 167 [encA x,.map (some r)] I [(r,YH (.int .i64) encA bs)] (.bool (voidF x bs)):=by
 cases hm:ZQ bs (w64 (x.ends-1)) with
 | none=>exact zmD I x r bs hm
 | some old=>exact zka I x r bs hm
def evF (k:Nat):Value:=.func (.func k) #[] #[]
def WW:List (Int×Nat):=[(1,164),(2,166),(3,166),(4,167)]
theorem zxl (I:Qu):YE Tryz.prog 100 [] I [] (fun v I' L=>∃ r,v= .map (some r)∧I'=I∧L=[(r,YH (.int .i64) evF WW)]):=by
 intro g H w hw;refine enter Tryz.func100 rfl Tryz.ntmps100 rfl hw<|zR<|zA<|zN (zR<|Yl rfl rfl (fun r_1=>Wk (m:=[]) (ev:=evF) 164 zbY Zd rfl rfl rfl rfl kS<|Wk 166 zbY Zd rfl rfl rfl rfl kS<|Wk 166 zbY Zd rfl rfl rfl rfl kS<|Wk 167 zbY Zd rfl rfl rfl rfl kS<|zM<|zA<|zN ?_))
 refine Qs ?_;exact Qx rfl rfl (fun w hw=>⟨_,I,_,rfl,zB6 _,hw,r_1,rfl,rfl,rfl⟩)
variable{k:Int}{f:Nat}
theorem zpE (h:ZQ WW k=some f):Fun Tryz.prog f:=by
 simp only [WW,ZQ] at h;split at h
 ·
  cases h;exact zvi
 ·
  split at h
  ·
   cases h;exact zmA
  ·
   split at h
   ·
    cases h;exact zmA
   ·
    split at h
    ·
     cases h;exact zu5
    ·
     cases h
theorem zbe (k:Int):(ZQ WW k).isSome=zdA k:=by
 simp only [WW,ZQ,zdA];by_cases h1:k=1
 ·
  subst h1;rfl
 ·
  by_cases h2:k=2
  ·
   subst h2;rfl
  ·
   by_cases h3:k=3
   ·
    subst h3;rfl
   ·
    by_cases h4:k=4
    ·
     subst h4;rfl
    ·
     simp [h1,h2,h3,h4,Ne.symm h1,Ne.symm h2,Ne.symm h3,Ne.symm h4]
theorem zAb (h:ZQ WW k=some f)(I:Qu)(x:Rt)(r:Nat)(bs:List (Int×Rt)):zoD Tryz.prog f [encA x,.map (some r)] I [(r,YH (.int .i64) encA bs)] (.bool (askF k x bs)):=by
 simp only [WW,ZQ] at h;split at h
 ·
  rename_i e;cases h;subst e;exact (zyY I x _).k _
 ·
  split at h
  ·
   rename_i e;cases h;subst e;exact (zdc I x _).k _
  ·
   split at h
   ·
    rename_i e;cases h;subst e;exact (zdc I x _).k _
   ·
    split at h
    ·
     rename_i e;cases h;subst e;exact zyF I x r bs
    ·
     cases h
variable{I:Qu}{av:Option Addr}{n c i:Nat}{xs:List Rt}{x:Rt}
theorem zxZ (hS:Sl I 11 encR av n c xs)(hn:n≤100000)(hx:xs[i]? =some x):ZJ Tryz.prog 196 [.slice av n c,.int .i64 i] I (.bool (zgx (xs.take i) x)):=by
 intro g H w hw;refine enter Tryz.func196 rfl Tryz.ntmps196 rfl hw<|Qm ?_
 have hi:i<n:=(by have:=(List.getElem?_eq_some_iff.1 hx).1;rw [hS.len] at this;exact this);refine Qh<|zA<|zN ?_
 refine zp3 (fun E I' loc'=>E=[(0,.slice av n c),(1,.int .i64 i)]∧I'=I∧loc'=[]∧zgx (xs.take i) x=false) ?_ ?_
 ·
  refine zR<|zA<|zN<|Qw<|zic (fun m E I' loc'=>∃ k:Nat,m=i-k∧E=[(0,.slice av n c),(1,.int .i64 i),(5,.int .i64 k)]∧I'=I∧loc'=[]∧k≤i∧(xs.take k).any (fun y=>(w64 (y.no+1)==x.ends)&&(y.kind != 4)&&decide (y.known≤x.known))=false) _ _ _ _ ⟨0,rfl,rfl,rfl,rfl,Nat.zero_le _,rfl⟩ (.cons rfl (.cons rfl (.cons rfl .nil))) (zB6 _) rfl ?_
  rintro m E I' loc' ⟨k,rfl,rfl,rfl,rfl,hk,hinv⟩;refine Qm<|zR ?_
  refine zM ?_;refine zM<|zC<|zN ?_
  refine zI ?_ ?_<;>intro hc8
  ·
   have hlt:k<i:=(by simpa using hc8);obtain ⟨y,hy⟩:=hS.at (show k<n by omega);refine Qr<|Qd<|Qm<|Qw<|Qm<|Uy mixed kA<|Us (Qe rfl) rfl rfl rfl<|Us (Qe rfl) rfl rfl rfl<|Us (QG rfl rfl Yn kL (fun hg=>kB)) rfl rfl rfl<|Us (Qa rfl Ve) rfl rfl rfl<|Us (Qc rfl Ql (fun hg=>by exact zB8 hS hy rfl)) rfl rfl rfl<|Us (U6 rfl rfl rfl) rfl rfl rfl ?_
   refine Us (Qe rfl) rfl rfl rfl<|Us (Qe rfl) rfl rfl rfl<|Us (QG rfl rfl Yn kL (fun hg=>kB)) rfl rfl rfl<|Us (Qa rfl Vp) rfl rfl rfl<|Us (Qc rfl Ql (fun hg=>by exact zB8 hS hx rfl)) rfl rfl rfl<|Us (QA rfl rfl rfl) rfl rfl rfl<|Us (Qe rfl) rfl rfl rfl<|Jd 12 rfl rfl rfl<|VQ (Qe rfl) (.some rfl rfl rfl rfl gbt) rfl rfl rfl<|VQ (Qe rfl) (.some rfl rfl rfl rfl gbt) rfl rfl rfl<|VQ (QG rfl rfl Yn kL (fun hg=>kB)) (.some rfl rfl rfl rfl gbt) rfl rfl rfl<|VQ (Qa rfl Jb) (.some rfl rfl rfl rfl gbt) rfl rfl rfl ?_
   refine VQ (Qc rfl Ql (fun hg=>by exact zB8 hS hy rfl)) (.some rfl rfl rfl rfl gbt) rfl rfl rfl<|VQ (QA rfl rfl rfl) (.some rfl rfl rfl rfl gbt) rfl rfl rfl<|Xs rfl rfl rfl rfl rfl<|Us (Qe rfl) rfl rfl rfl<|Jd 20 rfl rfl rfl<|VQ (Qe rfl) (.some rfl rfl rfl rfl gbt) rfl rfl rfl<|VQ (Qe rfl) (.some rfl rfl rfl rfl gbt) rfl rfl rfl<|VQ (QG rfl rfl Yn kL (fun hg=>kB)) (.some rfl rfl rfl rfl gbt) rfl rfl rfl<|VQ (Qa rfl YT) (.some rfl rfl rfl rfl gbt) rfl rfl rfl<|VQ (Qc rfl Ql (fun hg=>by exact zB8 hS hy rfl)) (.some rfl rfl rfl rfl gbt) rfl rfl rfl<|VQ (Qe rfl) (.some rfl rfl rfl rfl gbt) rfl rfl rfl<|VQ (Qe rfl) (.some rfl rfl rfl rfl gbt) rfl rfl rfl ?_
   refine VQ (QG rfl rfl Yn kL (fun hg=>kB)) (.some rfl rfl rfl rfl gbt) rfl rfl rfl<|VQ (Qa rfl YT) (.some rfl rfl rfl rfl gbt) rfl rfl rfl<|VQ (Qc rfl Ql (fun hg=>by exact zB8 hS hx rfl)) (.some rfl rfl rfl rfl gbt) rfl rfl rfl<|VQ (QA rfl rfl rfl) (.some rfl rfl rfl rfl gbt) rfl rfl rfl<|Xs rfl rfl rfl rfl rfl<|Uo<|Qd ?_
   refine zI ?_ ?_<;>intro hc43
   ·
    exact zR<|zA<|zN<|Qs<|Qi<|Qf<|Qf<|Qi<|Qf<|Qx rfl rfl (fun w hw=>⟨by (rw [show zgx (xs.take i) x=true from zfc hy hlt hc43]),hw.drop⟩)
   ·
    refine Qr<|Qk<|Qd<|Qh ?_
    refine zM ?_;refine zV (Ya rfl rfl rfl (fun _=>kB)) ?_;exact zA<|Qb<|Xa _ ⟨i-(k+1),kB,k+1,rfl,rfl,rfl,rfl,kB,zbA hy hinv hc43⟩ (.cons rfl (.cons rfl (.cons rfl .nil)))
  ·
   have hge:i≤k:=(by simpa using hc8);refine Zk<|Qo<|Qo<|Qz ?_
   exact Xa _ ⟨rfl,rfl,rfl,by rw [show i=k from by omega];exact hinv⟩ (.cons rfl (.cons rfl .nil))
 ·
  rintro E I' loc' ⟨rfl,rfl,rfl,hfin⟩;refine zR<|zA<|zN<|Qs ?_
  exact Qx rfl rfl (fun w hw=>⟨by (rw [hfin]),hw.drop⟩)
theorem zhB (hS:Sl I 11 encR av n c xs)(hn:n≤100000)(hx:xs[i]? =some x):ZJ Tryz.prog 149 [.slice av n c,.int .i64 i] I (.bool (WU xs i)):=by
 intro g H w hw;refine enter Tryz.func149 rfl Tryz.ntmps149 rfl hw<|Qm ?_
 have hi:i<n:=(by have:=(List.getElem?_eq_some_iff.1 hx).1;rw [hS.len] at this;exact this);obtain ⟨y,hy⟩:=hS.at (show ((i:Int)-1).toNat<n by omega);have hright:WU xs i=Jl i (xs.take i) y x:=(by unfold WU zc6;rw [hx,hy];rfl);have Hright:=Lib.hid hright;clear hright;refine Qh<|zA<|zN (zR ?_)
 refine zM ?_;refine zM ?_;refine zV (QG rfl rfl Yn kL (fun hg=>kB)) ?_;refine zV (Qg rfl Y6 (fun hg=>by exact zB7 hS hx) rfl)<|Qp za0 rfl rfl (fun b_5=>V6 rfl rfl Uq rfl rfl rfl rfl kS<|zN<|Qm<|Qm<|Uy mixed kA<|Us (Qa rfl Ve) rfl rfl rfl<|Us (Qc rfl Ql (fun hg=>by exact Qy.h0 rfl)) rfl rfl rfl<|Wd (cap:=[]) (vs:=[_,_,_]) rfl rfl KL (Yr I _ _ _) rfl rfl<|Us (ZB rfl) rfl rfl rfl<|Us (Qe rfl) rfl rfl rfl ?_)
 refine VF 4 rfl rfl rfl<|VQ (Qe rfl) (.some rfl rfl rfl rfl gbf) rfl rfl rfl<|VQ (QA rfl rfl rfl) (.some rfl rfl rfl rfl gbf) rfl rfl rfl<|VQ (Qe rfl) (.some rfl rfl rfl rfl gbf) rfl rfl rfl<|Jd 7 rfl rfl rfl<|VQ (Qa rfl Ve) (.some rfl rfl rfl rfl gbt) rfl rfl rfl<|VQ (Qc rfl Ql (fun hg=>by exact Qy.h0 rfl)) (.some rfl rfl rfl rfl gbt) rfl rfl rfl<|VQ (Qe rfl) (.some rfl rfl rfl rfl gbt) rfl rfl rfl<|VQ (Qe rfl) (.some rfl rfl rfl rfl gbt) rfl rfl rfl<|VQ (Ya rfl rfl rfl (fun _=>kB)) (.some rfl rfl rfl rfl gbt) rfl rfl rfl<|VQ (QG rfl rfl Yn kL (fun hg=>by (simp [Yq] at hg;omega))) (.some rfl rfl rfl rfl gbt) rfl rfl rfl<|VQ (Qa rfl Ve) (.some rfl rfl rfl rfl gbt) rfl rfl rfl ?_
 refine VQ (Qc rfl Ql (fun hg=>by exact zB8 hS (k:=((i:Int)-1).toNat) hy rfl)) (.some rfl rfl rfl rfl gbt) rfl rfl rfl<|VQ (QA rfl rfl rfl) (.some rfl rfl rfl rfl gbt) rfl rfl rfl<|zbS rfl rfl rfl (.some rfl rfl rfl rfl gbf) rfl rfl<|K3 rfl rfl rfl rfl rfl<|Us (Qe rfl) rfl rfl rfl<|VF 19 rfl rfl rfl<|VQ (Qa rfl YT) (.some rfl rfl rfl rfl gbf) rfl rfl rfl<|VQ (Qc rfl Ql (fun hg=>by exact Qy.h0 rfl)) (.some rfl rfl rfl rfl gbf) rfl rfl rfl<|JU (cap:=[]) (vs:=[_,_,_]) rfl rfl KL (fun hg=>Yr I _ _ _) (.some rfl rfl rfl rfl gbf) rfl rfl<|VQ (ZB rfl) (.some rfl rfl rfl rfl gbf) rfl rfl rfl<|K3 rfl rfl rfl rfl rfl<|Uo ?_
 refine Qd ?_;refine zI ?_ ?_<;>intro hc34
 ·
  refine zR<|zA<|zN<|Qs<|Qf ?_
  exact Qx rfl rfl (fun w hw=>⟨by rw [Hright.out];first | (simp only [Jl,Xd,WR, *,if_true];done) | (simp only [Jl,Xd,WR, *,if_true,if_false,Bool.false_eq_true];rfl),hw.drop⟩)
 ·
  refine Qr<|Qd<|Qm<|zR<|zF Jb ?_
  refine zV (Qc rfl Ql (fun hg=>by exact Qy.h0 rfl))<|zN<|Qw<|zR<|zC<|zA<|zN ?_
  refine zI ?_ ?_<;>intro hc37
  ·
   refine zR<|zV (Qg rfl Y6 (fun hg=>by exact Cells.g0) rfl)<|V7 (cap:=[]) (vs:=[_]) rfl rfl zhD (zmE I x) rfl rfl<|zM<|Qt 2 rfl rfl rfl ?_
   refine zK (Qa rfl JL) ?_;refine zK (Qc rfl Ql (fun hg=>by exact Qy.h0 rfl))<|Yh (cap:=[]) (vs:=[_,_,_]) rfl rfl KL (fun hg=>Yr I _ _ _) (.some rfl rfl rfl rfl gbt) rfl rfl<|QE rfl rfl rfl rfl rfl ?_
   refine zM ?_;refine Qt 7 rfl rfl rfl ?_;refine zK (Qa rfl JN) ?_;refine zK (Qc rfl VZ (fun hg=>by exact Qy.h0 rfl))<|Yh (cap:=[]) (vs:=[_]) rfl rfl zoJ (fun hg=>zrI I _) (.some rfl rfl rfl rfl gbt) rfl rfl<|QE rfl rfl rfl rfl rfl<|zM<|Qt 12 rfl rfl rfl ?_
   refine zK (Qa rfl JO) ?_;refine zK (Qc rfl VZ (fun hg=>by exact Qy.h0 rfl))<|Yh (cap:=[]) (vs:=[_]) rfl rfl zoJ (fun hg=>zrI I _) (.some rfl rfl rfl rfl gbt) rfl rfl<|QE rfl rfl rfl rfl rfl<|zM<|Qt 17 rfl rfl rfl ?_
   refine zK (Qa rfl Kr) ?_;refine zK (Qc rfl Ql (fun hg=>by exact Qy.h0 rfl)) ?_;refine zK (QA rfl rfl rfl) ?_;refine QE rfl rfl rfl rfl rfl<|zM<|Qt 22 rfl rfl rfl ?_
   refine zK (Qa rfl Kw) ?_;refine zK (Qc rfl Ql (fun hg=>by exact Qy.h0 rfl)) ?_;refine zK (QA rfl rfl rfl) ?_;refine QE rfl rfl rfl rfl rfl<|zM<|Qt 27 rfl rfl rfl ?_
   refine zK (Qa rfl Vp) ?_;refine zK (Qc rfl Ql (fun hg=>by exact Qy.h0 rfl)) ?_;refine zK (QA rfl rfl rfl) ?_;refine QE rfl rfl rfl rfl rfl<|zA<|zN<|Qs<|Qi<|Qf ?_
   exact Qx rfl rfl (fun w hw=>⟨by rw [Hright.out];first | (simp only [Jl,Xd,WR, *,if_true,if_false,Bool.false_eq_true];done) | (simp only [Jl,Xd,WR, *,if_true,if_false,Bool.false_eq_true];rfl),hw.drop⟩)
  ·
   refine zR<|zC<|zA<|zN ?_
   refine zI ?_ ?_<;>intro hc71
   ·
    refine zR<|zV (Qg rfl Y6 (fun hg=>by exact Cells.g0) rfl)<|V7 (cap:=[]) (vs:=[_]) rfl rfl zhD (zmE I x) rfl rfl<|zM<|Qt 2 rfl rfl rfl ?_
    refine zK (Qa rfl JL) ?_;refine zK (Qc rfl Ql (fun hg=>by exact Qy.h0 rfl))<|Yh (cap:=[]) (vs:=[_,_,_]) rfl rfl KL (fun hg=>Yr I _ _ _) (.some rfl rfl rfl rfl gbt) rfl rfl<|QE rfl rfl rfl rfl rfl<|zM<|Qt 7 rfl rfl rfl ?_
    refine zK (Qa rfl Kr) ?_;refine zK (Qc rfl Ql (fun hg=>by exact Qy.h0 rfl))<|Yh (cap:=[]) (vs:=[_,_,_]) rfl rfl KL (fun hg=>Yr I _ _ _) (.some rfl rfl rfl rfl gbt) rfl rfl<|QE rfl rfl rfl rfl rfl<|zM<|Qt 12 rfl rfl rfl ?_
    refine zK (Qa rfl Kw) ?_;refine zK (Qc rfl Ql (fun hg=>by exact Qy.h0 rfl))<|Yh (cap:=[]) (vs:=[_,_,_]) rfl rfl KL (fun hg=>Yr I _ _ _) (.some rfl rfl rfl rfl gbt) rfl rfl<|QE rfl rfl rfl rfl rfl<|zM<|Qt 17 rfl rfl rfl ?_
    refine zK (Qa rfl JN) ?_;refine zK (Qc rfl VZ (fun hg=>by exact Qy.h0 rfl)) ?_;refine zK (J6 rfl rfl rfl)<|QE rfl rfl rfl rfl rfl<|zM<|Qt 22 rfl rfl rfl ?_
    refine zK (Qa rfl JO) ?_;refine zK (Qc rfl VZ (fun hg=>by exact Qy.h0 rfl)) ?_;refine zK (J6 rfl rfl rfl)<|QE rfl rfl rfl rfl rfl<|zM<|Qt 27 rfl rfl rfl ?_
    refine zK (Qa rfl Vp) ?_;refine zK (Qc rfl Ql (fun hg=>by exact Qy.h0 rfl)) ?_;refine zK (QA rfl rfl rfl) ?_;refine QE rfl rfl rfl rfl rfl<|zA<|zN<|Qs<|Qi<|Qf ?_
    exact Qx rfl rfl (fun w hw=>⟨by rw [Hright.out];first | (simp only [Jl,Xd,WR, *,if_true,if_false,Bool.false_eq_true];done) | (simp only [Jl,Xd,WR, *,if_true,if_false,Bool.false_eq_true];rfl),hw.drop⟩)
   ·
    refine zR<|zC<|zA<|zN ?_
    refine zI ?_ ?_<;>intro hc105
    ·
     refine zR<|zV (Qg rfl Y6 (fun hg=>by exact Cells.g0) rfl)<|V7 (cap:=[]) (vs:=[_]) rfl rfl zhD (zmE I x) rfl rfl<|zM<|Qt 2 rfl rfl rfl ?_
     refine zK (Qa rfl JL) ?_;refine zK (Qc rfl Ql (fun hg=>by exact Qy.h0 rfl))<|Yh (cap:=[]) (vs:=[_,_,_]) rfl rfl KL (fun hg=>Yr I _ _ _) (.some rfl rfl rfl rfl gbt) rfl rfl<|QE rfl rfl rfl rfl rfl<|zM<|Qt 7 rfl rfl rfl ?_
     refine zK (Qa rfl Kr) ?_;refine zK (Qc rfl Ql (fun hg=>by exact Qy.h0 rfl))<|Yh (cap:=[]) (vs:=[_,_,_]) rfl rfl KL (fun hg=>Yr I _ _ _) (.some rfl rfl rfl rfl gbt) rfl rfl<|QE rfl rfl rfl rfl rfl<|zM<|Qt 12 rfl rfl rfl ?_
     refine zK (Qa rfl Kw) ?_;refine zK (Qc rfl Ql (fun hg=>by exact Qy.h0 rfl))<|Yh (cap:=[]) (vs:=[_,_,_]) rfl rfl KL (fun hg=>Yr I _ _ _) (.some rfl rfl rfl rfl gbt) rfl rfl<|QE rfl rfl rfl rfl rfl<|zM<|Qt 17 rfl rfl rfl ?_
     refine zK (Qa rfl JN) ?_;refine zK (Qc rfl VZ (fun hg=>by exact Qy.h0 rfl)) ?_;refine zK (J6 rfl rfl rfl)<|QE rfl rfl rfl rfl rfl<|zM<|Qt 22 rfl rfl rfl ?_
     refine zK (Qa rfl JO) ?_;refine zK (Qc rfl VZ (fun hg=>by exact Qy.h0 rfl)) ?_;refine zK (J6 rfl rfl rfl)<|QE rfl rfl rfl rfl rfl<|zM<|Qt 27 rfl rfl rfl ?_
     refine zK (Qa rfl Vp) ?_;refine zK (Qc rfl Ql (fun hg=>by exact Qy.h0 rfl)) ?_;refine zK (QA rfl rfl rfl) ?_;refine QE rfl rfl rfl rfl rfl<|zA<|zN<|Qs<|Qi<|Qf ?_
     exact Qx rfl rfl (fun w hw=>⟨by rw [Hright.out];first | (simp only [Jl,Xd,WR, *,if_true,if_false,Bool.false_eq_true];done) | (simp only [Jl,Xd,WR, *,if_true,if_false,Bool.false_eq_true];rfl),hw.drop⟩)
    ·
     refine zR<|zC<|zA<|zN ?_
     refine zI ?_ ?_<;>intro hc139
     ·
      refine zR ?_;refine zM ?_;refine zM<|V7 (cap:=[]) (vs:=[_,_]) rfl rfl zvG (zxZ hS hn hx) rfl rfl<|zM<|Qt 3 rfl rfl rfl ?_
      refine zK (Qa rfl JL) ?_;refine zK (Qc rfl Ql (fun hg=>by exact Qy.h0 rfl)) ?_;refine zK (QA rfl rfl rfl) ?_;refine QE rfl rfl rfl rfl rfl<|zM<|Qt 8 rfl rfl rfl ?_
      refine zK (Qa rfl Kr) ?_;refine zK (Qc rfl Ql (fun hg=>by exact Qy.h0 rfl)) ?_;refine zK (QA rfl rfl rfl) ?_;refine QE rfl rfl rfl rfl rfl<|zM<|Qt 13 rfl rfl rfl ?_
      refine zK (Qa rfl Kw) ?_;refine zK (Qc rfl Ql (fun hg=>by exact Qy.h0 rfl)) ?_;refine zK (QA rfl rfl rfl) ?_;refine QE rfl rfl rfl rfl rfl<|zM<|Qt 18 rfl rfl rfl ?_
      refine zK (Qa rfl JN) ?_;refine zK (Qc rfl VZ (fun hg=>by exact Qy.h0 rfl)) ?_;refine zK (J6 rfl rfl rfl)<|QE rfl rfl rfl rfl rfl<|zM<|Qt 23 rfl rfl rfl ?_
      refine zK (Qa rfl JO) ?_;refine zK (Qc rfl VZ (fun hg=>by exact Qy.h0 rfl)) ?_;refine zK (J6 rfl rfl rfl)<|QE rfl rfl rfl rfl rfl<|zM<|Qt 28 rfl rfl rfl ?_
      refine zK (Qa rfl KA) ?_;refine zK (Qc rfl Ql (fun hg=>by exact Qy.h0 rfl)) ?_;refine zK (QA rfl rfl rfl) ?_;refine QE rfl rfl rfl rfl rfl<|zM<|Qt 33 rfl rfl rfl ?_
      refine zK (Qa rfl JP) ?_;refine zK (Qc rfl Ql (fun hg=>by exact Qy.h0 rfl)) ?_;refine zK (QA rfl rfl rfl) ?_;refine QE rfl rfl rfl rfl rfl<|zA<|zN<|Qs<|Qi<|Qf ?_
      exact Qx rfl rfl (fun w hw=>⟨by rw [Hright.out];first | (simp only [Jl,Xd,WR, *,if_true,if_false,Bool.false_eq_true];done) | (simp only [Jl,Xd,WR, *,if_true,if_false,Bool.false_eq_true];rfl),hw.drop⟩)
     ·
      refine Qr<|Qk<|Qd<|zR<|zA<|zN<|Qs ?_
      exact Qx rfl rfl (fun w hw=>⟨by rw [Hright.out];first | (simp only [Jl,Xd,WR, *,if_false,Bool.false_eq_true];done) | (simp only [Jl,Xd,WR, *,if_true,if_false,Bool.false_eq_true];rfl),hw.drop⟩)
theorem w_rcheck (hS:Sl I 11 encR av n c xs)(hn:n≤100000):ZJ Tryz.prog 78 [.slice av n c] I (.int .i64 (fCheck xs)):=by
 intro g H w hw;refine enter Tryz.func78 rfl Tryz.ntmps78 rfl hw<|zR<|zA<|zN<|Qm<|zR ?_
 refine zM<|zQ Yn<|zC<|zN ?_
 refine zI ?_ ?_<;>intro hc6
 ·
  have h5:xs.length>512:=(by rw [hS.len];simp at hc6;omega);refine zR<|zA<|zN<|Qs<|Qf ?_
  exact Qx rfl rfl (fun w hw=>⟨by unfold fCheck;first | (rw [if_pos h5]) | (rw [if_neg h5,if_pos hfin]) | (rw [if_neg h5,if_neg];intro hall;rw [List.all_eq_true] at hall;have:=hall k (List.mem_range.2 (by rw [hS.len];exact hlt));rw [this] at hc16;cases hc16),hw.drop⟩)
 ·
  have h5:¬xs.length>512:=(by rw [hS.len];simp at hc6;omega);refine Qr<|Qd ?_
  refine zp3 (fun E I' loc'=>E=[(0,.slice av n c)]∧I'=I∧loc'=[]∧(List.range xs.length).all (WU xs)=true) ?_ ?_
  ·
   refine zR<|zA<|zN<|Qw<|zic (fun m E I' loc'=>∃ k:Nat,m=n-k∧E=[(0,.slice av n c),(3,.int .i64 k)]∧I'=I∧loc'=[]∧k≤n∧(List.range k).all (WU xs)=true) _ _ _ _ ⟨0,rfl,rfl,rfl,rfl,Nat.zero_le _,rfl⟩ (.cons rfl (.cons rfl .nil)) (zB6 _) rfl ?_
   rintro m E I' loc' ⟨k,rfl,rfl,rfl,rfl,hk,hinv⟩;refine Qm<|zR ?_
   refine zM ?_;refine zM<|zQ Yn<|zC<|zN ?_
   refine zI ?_ ?_<;>intro hc10
   ·
    have hlt:k<n:=(by simpa using hc10);obtain ⟨x,hx⟩:=hS.at hlt;refine Qr<|Qd<|Qm<|Qw<|zR ?_
    refine zM ?_;refine zM<|V7 (cap:=[]) (vs:=[_,_]) rfl rfl ztB (zhB hS hn hx) rfl rfl<|zO<|zN ?_
    refine zI ?_ ?_<;>intro hc16
    ·
     refine zR<|zA<|zN<|Qs<|Qi<|Qf<|Qf<|Qi<|Qf ?_
     exact Qx rfl rfl (fun w hw=>⟨by unfold fCheck;first | (rw [if_pos h5]) | (rw [if_neg h5,if_pos hfin]) | (rw [if_neg h5,if_neg];intro hall;rw [List.all_eq_true] at hall;have:=hall k (List.mem_range.2 (by rw [hS.len];exact hlt));rw [this] at hc16;cases hc16),hw.drop⟩)
    ·
     refine Qr<|Qk<|Qd<|Qh ?_
     refine zM ?_;refine zV (Ya rfl rfl rfl (fun _=>kB))<|zA<|Qb ?_
     exact Xa _ ⟨n-(k+1),kB,k+1,rfl,rfl,rfl,rfl,kB,by rw [List.range_succ,List.all_append,hinv];simpa using hc16⟩ (.cons rfl (.cons rfl .nil))
   ·
    have hge:n≤k:=(by simpa using hc10);refine Zk<|Qo<|Qo<|Qz ?_
    exact Xa _ ⟨rfl,rfl,rfl,(by rw [show xs.length=k from by rw [hS.len];omega];exact hinv)⟩ (.cons rfl .nil)
  ·
   rintro E I' loc' ⟨rfl,rfl,rfl,hfin⟩;refine zR<|zA<|zN<|Qs ?_
   exact Qx rfl rfl (fun w hw=>⟨by unfold fCheck;first | (rw [if_pos h5]) | (rw [if_neg h5,if_pos hfin]) | (rw [if_neg h5,if_neg];intro hall;rw [List.all_eq_true] at hall;have:=hall k (List.mem_range.2 (by rw [hS.len];exact hlt));rw [this] at hc16;cases hc16),hw.drop⟩)
theorem w_check (hS:Sl I 11 encR av n c xs)(hn:n≤100000):ZJ Tryz.prog 40 [.slice av n c] I (.int .i64 (rCheck xs)):=by
 intro g H w hw;refine enter Tryz.func40 rfl Tryz.ntmps40 rfl hw<|zR<|zA<|zN<|Qm<|zR ?_
 refine zM<|zQ Yn<|zC<|zN ?_
 refine zI ?_ ?_<;>intro hc12
 ·
  have h5:xs.length>512:=(by rw [hS.len];simp at hc12;omega);refine zR<|zA<|zN<|Qs<|Qf ?_
  exact Qx rfl rfl (fun w hw=>⟨by unfold rCheck;first | (rw [if_pos h5]) | (rw [if_neg h5,hfin]) | (rw [if_neg h5,←hinv,X3 hx,rGo,if_pos (by unfold rBad;rw [←zbe,hc53])]),hw.drop⟩)
 ·
  have h5:¬xs.length>512:=(by rw [hS.len];simp at hc12;omega);refine Qr<|Qd<|zR<|Yl rfl rfl (fun r_13=>KU (cap:=[]) (vs:=[]) rfl rfl zts .nil (zxl I) rfl rfl ?_)
  rintro v I1 L' hI' ⟨rk,rfl,hI1,rfl⟩;obtain rfl:=hI1.symm;refine zA<|zA<|zA<|zN ?_
  refine zp3 (fun E I' loc'=>∃ bs:List (Int×Rt),E=[(0,.slice av n c)]∧I'=I∧loc'=[(rk,YH (.int .i64) evF WW),(r_13,YH (.int .i64) encA bs)]∧rGo xs [] (-1)=0) ?_ ?_
  ·
   refine zR ?_;refine zM<|zQ Yn<|zM<|zN<|Qw<|zic (fun m E I' loc'=>∃ (k:Nat) (bs:List (Int×Rt)) (last:Int),m=n-k∧E=[(0,.slice av n c),(3,.map (some r_13)),(4,.map (some rk)),(5,.int .i64 last),(15,.slice av n c),(16,.int .i64 n),(17,.int .i64 k)]∧I'=I∧loc'=[(rk,YH (.int .i64) evF WW),(r_13,YH (.int .i64) encA bs)]∧k≤n∧rGo (xs.drop k) bs last=rGo xs [] (-1)) _ _ _ _ ⟨0,[], -1,rfl,rfl,rfl,rfl,Nat.zero_le _,rfl⟩ (.cons rfl (.cons rfl (.cons rfl (.cons rfl (.cons rfl (.cons rfl (.cons rfl .nil))))))) (zB6 _) rfl ?_
   rintro m E I' loc' ⟨k,bs,last,rfl,rfl,rfl,rfl,hk,hinv⟩;refine zR<|zC<|zN<|Qm ?_
   refine zI ?_ ?_<;>intro hc18
   ·
    have hlt:k<n:=(by simpa using hc18);obtain ⟨x,hx⟩:=hS.at hlt;refine Qr<|Qd<|Qm<|Qw<|zR<|zV (QG rfl rfl Yn kL (fun hg=>kB))<|zV (Qg rfl Y6 (fun hg=>by exact zB7 hS hx) rfl)<|Qp za0 rfl rfl (fun b_7=>V6 rfl rfl Uq rfl rfl rfl rfl kS<|zN (zR ?_))
    refine zM<|zF Jb ?_
    refine zV (Qc rfl Ql (fun hg=>by exact Qy.h0 rfl))<|zV (Z7 zbY Zd rfl rfl (fun _=>Mem.m1))<|zM ?_
    refine zE ?_;refine zE<|zA<|zA<|zN<|Qm<|zR ?_
    refine zM<|zO<|zM<|QI 2 rfl rfl rfl ?_
    refine zJ (Qa rfl Ve)<|zJ (Qc rfl Ql (fun hg=>by exact Qy.h0 rfl))<|zJ (Qe rfl)<|zJ (QA rfl rfl rfl)<|Q9 rfl rfl rfl rfl rfl<|zM<|QI 8 rfl rfl rfl ?_
    refine zJ (Qa rfl Ve)<|zJ (Qc rfl Ql (fun hg=>by exact Qy.h0 rfl))<|zJ (QA rfl rfl rfl)<|Q9 rfl rfl rfl rfl rfl<|zM<|QI 13 rfl rfl rfl ?_
    refine zJ (Qa rfl YT)<|zJ (Qc rfl Ql (fun hg=>by exact Qy.h0 rfl))<|Yh (cap:=[]) (vs:=[_,_,_]) rfl rfl zap (fun hg=>Yi _ _ _ _) (.some rfl rfl rfl rfl gbf) rfl rfl<|zJ (ZB rfl)<|Q9 rfl rfl rfl rfl rfl ?_
    refine zM ?_;refine QI 19 rfl rfl rfl ?_;refine zJ (Qe rfl) ?_;refine zJ (Qg rfl Y6 (fun hg=>by exact Cells.g0) rfl) ?_;refine zJ (Qe rfl) ?_;refine zl7 (L:=[(r_13,YH (.int .i64) encA bs)]) (vs:=[_,_]) (v:=.bool (askF x.kind x bs)) rfl rfl (.cons (.there (.there .here)) .nil) (fun hcj=>?_) (.some rfl rfl rfl rfl gbf) rfl rfl ?_
    ·
     simp only [Yq,Bool.and_true,Bool.not_eq_true',Bool.or_eq_false_iff] at hcj;obtain ⟨f,hf⟩:=Option.isSome_iff_exists.1 (show (ZQ WW x.kind).isSome=true by simpa using hcj.1.1.1);exact ⟨f,by rw [hf];rfl,zpE hf,zAb hf _ x r_13 bs⟩
    refine zJ (ZB rfl)<|Q9 rfl rfl rfl rfl rfl<|zN ?_
    refine zI ?_ ?_<;>intro hc53
    ·
     refine zR<|zA<|zN<|Qs<|Qf<|Qi<|Qf<|Qf<|Qi<|Qf ?_
     exact Qx rfl rfl (fun w hw=>⟨by unfold rCheck;first | (rw [if_pos h5]) | (rw [if_neg h5,hfin]) | (rw [if_neg h5,←hinv,X3 hx,rGo,if_pos (by unfold rBad;rw [←zbe,hc53])]),hw.drop⟩)
    ·
     refine Qr<|Qd<|Zn<|QJ I' [(b_7,.cells (encR x).toArray 43 (0,0))] mixed<|UH 0 rfl (Qe rfl) (.none rfl) rfl rfl rfl kA kA kA JW (zB6 _) (.keep (.drop (.drop .refl)))<|UH 1 rfl (Qa rfl Ve) (.none rfl) rfl rfl rfl kA kA kA JW (zB6 _) (.keep (.drop (.drop .refl)))<|UH 2 rfl (Qc rfl Ql (fun _=>Qy.h0 rfl)) (.none rfl) rfl rfl rfl kA kA kA JW (zB6 _) (.keep (.drop (.drop .refl)))<|UH 3 rfl (Qg rfl Y6 (fun _=>Cells.g0) rfl) (.none rfl) rfl rfl rfl kA kA kA JW (zB6 _) (.keep (.drop (.drop .refl)))<|UH 4 rfl (Qa rfl Ve) (.none rfl) rfl rfl rfl kA kA kA JW (zB6 _) (.keep (.drop (.drop .refl)))<|UH 5 rfl (Qc rfl Ql (fun _=>Qy.h0 rfl)) (.none rfl) rfl rfl rfl kA kA kA JW (zB6 _) (.keep (.drop (.drop .refl)))<|zkt 6 rfl kA<|YM x U8 Zd rfl rfl rfl rfl Upd.u2 ?_
     refine Qb<|zAn (zB6 _) (.keep (.drop (.drop .refl)))<|zkt 7 rfl kA<|zA<|Qb<|zAn (zB6 _) (.keep (.drop (.drop .refl)))<|Qn kA<|Qv<|Qk<|Qd<|Qh<|zV (Ya rfl rfl rfl (fun _=>kB)) ?_
     refine zM<|Qb ?_
     exact Zr _ _ ⟨n-(k+1),kB,k+1,JB bs x.no x,x.no,rfl,rfl,rfl,rfl,kB,by rw [←hinv,X3 hx,rGo,if_neg (by unfold rBad;rw [←zbe,hc53];simp)]⟩ (.cons rfl (.cons rfl (.cons rfl (.cons rfl (.cons rfl (.cons rfl (.cons rfl .nil))))))) (.drop .refl)
   ·
    have hge:n≤k:=(by simpa using hc18);refine Zk<|Qo<|Qo<|Qz ?_
    exact Xa _ ⟨bs,rfl,rfl,rfl,by rw [←hinv,List.drop_of_length_le (by rw [hS.len];omega)];rfl⟩ (.cons rfl .nil)
  ·
   rintro E I' loc' ⟨bs,rfl,rfl,rfl,hfin⟩;refine zR<|zA<|zN<|Qs ?_
   exact Qx rfl rfl (fun w hw=>⟨by unfold rCheck;first | (rw [if_pos h5]) | (rw [if_neg h5,hfin]) | (rw [if_neg h5,←hinv,X3 hx,rGo,if_pos (by unfold rBad;rw [←zbe,hc53])]),hw.drop⟩)
end
end Go.Proofs.YtjblkbkmblkgoaaGreat.S
namespace Go.Kn
section
open Go
structure Kp (p:Prop):Prop where
 out:p
theorem zBB {p q:Prop}(h1:Kp p→q)(h2:p):q:=h1 ⟨h2⟩
theorem Ys {C:Cx}{Q:Exit→Act→World→Prop}{e:Exit}{E E':Env}{I:Qu}{loc:Loc}(h:Kp (At C Q e E' I loc))(hE:Sub E' E:=by repeat (first | exact Sub.nil | refine Sub.cons rfl ?_)):At C Q e E I loc:=
 fun a w ha hw=>h.out a w (ha.sub hE) hw
end
end Go.Kn
namespace Go.Proofs.YtjblkbkmblkgoaaGreat
section
open Go Go.Kn Go.Proofs
theorem zob (I:Qu)(x:Int):ZJ Tryz.prog 229 [.int .i64 x] I (.bool false):=by
 intro g H w hw;refine qe Tryz.func229 Tryz.ntmps229 hw ?_;refine zR (zA<|zN (zR ?_));refine zM ?_;refine zM ?_;refine zC ?_;refine zA (zN (Qs ?_));exact zr rfl rfl kJ
theorem zvg (I:Qu)(x y:Int):ZJ Tryz.prog 183 [.int .i64 x,.int .i64 y] I (.int .i64 (zga x y)):=by
 intro g H w hw;refine qe Tryz.func183 Tryz.ntmps183 hw ?_;refine zR (zA<|zN (zR ?_));refine zM ?_;refine qcV (vs:=[_]) rfl zck (zob I _) ?_;refine zA<|zN (zR ?_)
 refine zM ?_;refine qcV (vs:=[_]) rfl zck (zob I _) ?_;refine zA (zN (Qm (zR ?_)));refine zM (zN ?_);refine zI ?_ ?_<;>intro hc11
 ·
  cases hc11
 refine Qr (Qd (Qm (zR (zM (zN ?_)))));refine zI ?_ ?_<;>intro hc13
 ·
  cases hc13
 refine Qr (Qd (Qm (zR (zM ?_))));refine zM<|zC (zN ?_)
 refine zI ?_ ?_<;>intro hc16
 focus
  refine zR (zA (zN (Qs (Qf ?_))))
 rotate_left
 refine Qr (Qd (Qm (zR (zM ?_))));refine zM<|zC (zN ?_)
 refine zI ?_ ?_<;>intro hc19
 focus
  refine zR (zA (zN (Qs (Qf ?_))))
 rotate_left
 refine Qr (Qd (zR (zA (zN (Qs ?_)))))
 all_goals
  exact zr rfl rfl (by unfold zga;first | (rw [if_pos (by simpa using hc16)]) | (rw [if_neg (by simpa using hc16),if_pos (by simpa using hc19)]) | (rw [if_neg (by simpa using hc16),if_neg (by simpa using hc19)]))
theorem zAz (I:Qu)(n:Int)(hn: -1073741824≤n∧n≤1073741824):ZJ Tryz.prog 282 [.int .i64 n] I (.int .u64 (zcR n)):=by
 intro g H w hw;refine qe Tryz.func282 Tryz.ntmps282 hw ?_;refine zR (zA (zN (Qm (zR ?_))));refine zM ?_;refine zC (zN ?_);refine zI ?_ ?_<;>intro hc4
 ·
  refine zR (zM<|zV (ZS rfl XZ)<|zV (zvl rfl)<|zA (zN (Qs (Qf ?_))));exact zr rfl rfl (by rw [zuG hn (by simpa using hc4)])
 refine Qr (Qd (zR (zM<|zV (ZS rfl XZ)<|zA (zN (Qs ?_)))));exact zr rfl rfl (by rw [zvs hn (by simpa using hc4)])
theorem zAr (I:Qu)(a b:Int):YE Tryz.prog 285 [.int .u64 a,.int .u64 b] I [] (fun v I' L=>I'=I∧∃ b1 b2,v= .func (.func 287) #[] [ZI b1,ZI b2].toArray∧L=zwS 216 b1 b2 a b):=by
 intro g H w hw;refine qe Tryz.func285 Tryz.ntmps285 hw ?_;refine zR<|QK rfl rfl rfl (fun b_2=>QK rfl rfl rfl (fun b_3=>zA<|zN (zR<|zV (YP (us:=[]) (vs:=[_,_]) rfl rfl) ?_)))
 exact zA (zN (Qs<|Qx rfl rfl (fun w hw=>⟨_,I,_,rfl,zB6 _,hw,rfl,_,_,rfl,rfl⟩)))
theorem zrw (I:Qu)(a0 b0:Nat)(b1 b2:Nat)(hb0:0<b0)(ha1:a0≤9223372036854775807)(hb1:b0≤9223372036854775807):zAl Tryz.prog 287 [ZI b1,ZI b2] I (zwS 216 b1 b2 (a0) (b0)) (fun n:Nat=>.int .u64 n) (zeQ a0 b0):=by
 intro g l J Jx hY I0 H w h0 hJ hw;refine qe Tryz.func287 Tryz.ntmps287 hw<|Qw<|zgB (fun m E I' H' loc'=>∃ (a b:Nat) (pre:List Nat),m=b∧E=[(0,.func (.yield l) #[] #[]),(1,ZI b1),(2,ZI b2)]∧loc'=zwS 216 b1 b2 (a) (b)∧HLe I0 I'∧J pre I' H'∧zeQ a0 b0=pre++zeQ a b∧0<b∧a≤9223372036854775807∧b≤9223372036854775807) _ _ _ ⟨a0,b0,[],rfl,rfl,rfl,zB6 _,hJ,rfl,hb0,ha1,hb1⟩ (.cons rfl (.cons rfl (.cons rfl .nil))) rfl ?_
 rintro m E I' H' loc' ⟨a,b,pre,hmb,rfl,rfl,hI1,hJk,hrem,hbp,hal,hbl⟩;subst m;have hI0:=h0.trans hI1;refine Qm (zR<|zL ZV<|zC<|zM<|Qt 2 rfl rfl rfl ?_);refine zK (Qe rfl) ?_;refine zK (Qc rfl ZV (fun hg=>by exact Qy.h1 rfl)) ?_;refine zkG (vs:=[_]) (Post:=fun t I2 H2=>if t then J (pre++[a]) I2 H2 else Jx (pre++[a]) I2 H2) rfl rfl (.some rfl rfl rfl rfl gbt) rfl rfl (fun hcj=>hY pre a _ _ (zoY hrem (by simpa [Yq] using hcj)) hI0 hJk) ?_;rintro t I2 H2 hI2 hyes hno;refine QE rfl rfl rfl rfl rfl<|zN ?_
 refine zI ?_ ?_<;>intro hc10
 ·
  have ha0:a≠0:=(by simp at hc10;exact hc10.1);have ht:t=true:=(by simp at hc10;exact hc10.2);subst ht;have hJ1:J (pre++[a]) I2 H2:=hyes (by simp [Yq];exact ha0);refine Qr (Qd (Qw (Qm ?_)));apply zBB
  ·
   intro key;have hD:=zB6 I2;refine Zn<|QJ I2 [] mixed ?_
   refine VD 0 1 2 rfl rfl rfl kA ?_ ?_ ?_
   ·
    refine zL ZV<|Qb<|zD hD ?_
    refine QU 1 2 rfl rfl kA ?_ ?_
    ·
     refine zL ZV<|Qb<|zD hD ?_
     refine QU 2 5 rfl rfl kA ?_ ?_
     focus
      refine zL ZV<|Qb<|zD hD ?_
      refine QU 3 5 rfl rfl kA ?_ ?_
      ·
       refine zV (VG rfl rfl)<|Qb<|zD hD ?_
       refine QU 4 5 rfl rfl kA ?_ ?_
       focus
        refine zV (Yd rfl rfl (fun hg=>by rw [ZE hbp];omega))<|Qb<|zD hD<|qd 5 rfl ?_
        refine zS Q3 ?_;refine Qb<|zD hD<|qd 6 rfl ?_
       rotate_left
       refine zS Q3 ?_;refine Qb<|zD hD<|qd 4 rfl<|zV (Yd rfl rfl (fun hg=>by rw [ZE hbp];omega))<|Qb<|zD hD<|qd 6 rfl ?_
       all_goals
        refine zS Q3 ?_;refine Qb<|zD hD<|Qn kA<|Qv ?_
        first | exact key.out | exact Ys key
      refine zS Q3 ?_;refine Qb<|zD hD<|qd 3 rfl<|zV (VG rfl rfl)<|Qb<|zD hD<|qd 4 rfl<|zV (Yd rfl rfl (fun hg=>by rw [ZE hbp];omega))<|Qb<|zD hD<|qd 6 rfl ?_
     rotate_left
     refine zS Q3 ?_;refine Qb<|zD hD<|qd 2 rfl ?_
     refine zL ZV<|Qb<|zD hD<|qd 3 rfl<|zV (VG rfl rfl)<|Qb<|zD hD<|qd 4 rfl<|zV (Yd rfl rfl (fun hg=>by rw [ZE hbp];omega))<|Qb<|zD hD<|qd 6 rfl ?_
     all_goals
      refine zS Q3 ?_;refine Qb<|zD hD<|Qn kA<|Qv ?_
      first | exact key.out | exact Ys key
    refine zL ZV<|Qb<|zD hD ?_
    refine QU 1 3 rfl rfl kA ?_ ?_
    focus
     refine zL ZV<|Qb<|zD hD ?_
     refine QU 3 5 rfl rfl kA ?_ ?_
     ·
      refine zV (VG rfl rfl)<|Qb<|zD hD ?_
      refine QU 4 5 rfl rfl kA ?_ ?_
      focus
       refine zV (Yd rfl rfl (fun hg=>by rw [ZE hbp];omega))<|Qb<|zD hD<|qd 5 rfl ?_
       refine zS Q3 ?_;refine Qb<|zD hD<|qd 6 rfl ?_
      rotate_left
      refine zS Q3 ?_;refine Qb<|zD hD<|qd 4 rfl<|zV (Yd rfl rfl (fun hg=>by rw [ZE hbp];omega))<|Qb<|zD hD<|qd 6 rfl ?_
      all_goals
       refine zS Q3 ?_;refine Qb<|zD hD<|Qn kA<|Qv ?_
       first | exact key.out | exact Ys key
     refine zS Q3 ?_;refine Qb<|zD hD<|qd 3 rfl<|zV (VG rfl rfl)<|Qb<|zD hD<|qd 4 rfl<|zV (Yd rfl rfl (fun hg=>by rw [ZE hbp];omega))<|Qb<|zD hD<|qd 6 rfl ?_
    rotate_left
    refine zV (VG rfl rfl)<|Qb<|zD hD<|qd 1 rfl ?_
    refine zL ZV<|Qb<|zD hD ?_
    refine QU 4 5 rfl rfl kA ?_ ?_
    focus
     refine zV (Yd rfl rfl (fun hg=>by rw [ZE hbp];omega))<|Qb<|zD hD<|qd 5 rfl ?_
     refine zS Q3 ?_;refine Qb<|zD hD<|qd 6 rfl ?_
    rotate_left
    refine zS Q3 ?_;refine Qb<|zD hD<|qd 4 rfl<|zV (Yd rfl rfl (fun hg=>by rw [ZE hbp];omega))<|Qb<|zD hD<|qd 6 rfl ?_
    all_goals
     refine zS Q3 ?_;refine Qb<|zD hD<|Qn kA<|Qv ?_
     first | exact key.out | exact Ys key
   ·
    refine zL ZV<|Qb<|zD hD ?_
    refine QU 0 2 rfl rfl kA ?_ ?_
    ·
     refine zL ZV<|Qb<|zD hD ?_
     refine QU 2 5 rfl rfl kA ?_ ?_
     focus
      refine zL ZV<|Qb<|zD hD ?_
      refine QU 3 5 rfl rfl kA ?_ ?_
      ·
       refine zV (VG rfl rfl)<|Qb<|zD hD ?_
       refine QU 4 5 rfl rfl kA ?_ ?_
       focus
        refine zV (Yd rfl rfl (fun hg=>by rw [ZE hbp];omega))<|Qb<|zD hD<|qd 5 rfl ?_
        refine zS Q3 ?_;refine Qb<|zD hD<|qd 6 rfl ?_
       rotate_left
       refine zS Q3 ?_;refine Qb<|zD hD<|qd 4 rfl<|zV (Yd rfl rfl (fun hg=>by rw [ZE hbp];omega))<|Qb<|zD hD<|qd 6 rfl ?_
       all_goals
        refine zS Q3 ?_;refine Qb<|zD hD<|Qn kA<|Qv ?_
        first | exact key.out | exact Ys key
      refine zS Q3 ?_;refine Qb<|zD hD<|qd 3 rfl<|zV (VG rfl rfl)<|Qb<|zD hD<|qd 4 rfl<|zV (Yd rfl rfl (fun hg=>by rw [ZE hbp];omega))<|Qb<|zD hD<|qd 6 rfl ?_
     rotate_left
     refine zS Q3 ?_;refine Qb<|zD hD<|qd 2 rfl ?_
     refine zL ZV<|Qb<|zD hD<|qd 3 rfl<|zV (VG rfl rfl)<|Qb<|zD hD<|qd 4 rfl<|zV (Yd rfl rfl (fun hg=>by rw [ZE hbp];omega))<|Qb<|zD hD<|qd 6 rfl ?_
     all_goals
      refine zS Q3 ?_;refine Qb<|zD hD<|Qn kA<|Qv ?_
      first | exact key.out | exact Ys key
    refine zL ZV<|Qb<|zD hD ?_
    refine QU 0 3 rfl rfl kA ?_ ?_
    focus
     refine zL ZV<|Qb<|zD hD ?_
     refine QU 3 5 rfl rfl kA ?_ ?_
     ·
      refine zV (VG rfl rfl)<|Qb<|zD hD ?_
      refine QU 4 5 rfl rfl kA ?_ ?_
      focus
       refine zV (Yd rfl rfl (fun hg=>by rw [ZE hbp];omega))<|Qb<|zD hD<|qd 5 rfl ?_
       refine zS Q3 ?_;refine Qb<|zD hD<|qd 6 rfl ?_
      rotate_left
      refine zS Q3 ?_;refine Qb<|zD hD<|qd 4 rfl<|zV (Yd rfl rfl (fun hg=>by rw [ZE hbp];omega))<|Qb<|zD hD<|qd 6 rfl ?_
      all_goals
       refine zS Q3 ?_;refine Qb<|zD hD<|Qn kA<|Qv ?_
       first | exact key.out | exact Ys key
     refine zS Q3 ?_;refine Qb<|zD hD<|qd 3 rfl<|zV (VG rfl rfl)<|Qb<|zD hD<|qd 4 rfl<|zV (Yd rfl rfl (fun hg=>by rw [ZE hbp];omega))<|Qb<|zD hD<|qd 6 rfl ?_
    rotate_left
    refine zV (VG rfl rfl)<|Qb<|zD hD ?_
    refine QU 0 4 rfl rfl kA ?_ ?_
    ·
     refine zL ZV<|Qb<|zD hD ?_
     refine QU 4 5 rfl rfl kA ?_ ?_
     focus
      refine zV (Yd rfl rfl (fun hg=>by rw [ZE hbp];omega))<|Qb<|zD hD<|qd 5 rfl ?_
      refine zS Q3 ?_;refine Qb<|zD hD<|qd 6 rfl ?_
     rotate_left
     refine zS Q3 ?_;refine Qb<|zD hD<|qd 4 rfl<|zV (Yd rfl rfl (fun hg=>by rw [ZE hbp];omega))<|Qb<|zD hD<|qd 6 rfl ?_
     all_goals
      refine zS Q3 ?_;refine Qb<|zD hD<|Qn kA<|Qv ?_
      first | exact key.out | exact Ys key
    refine zV (Yd rfl rfl (fun hg=>by rw [ZE hbp];omega))<|Qb<|zD hD<|qd 0 rfl ?_
    refine zL ZV<|Qb<|zD hD<|qd 5 rfl ?_
    refine zS Q3 ?_;refine Qb<|zD hD<|qd 6 rfl ?_
    all_goals
     refine zS Q3 ?_;refine Qb<|zD hD<|Qn kA<|Qv ?_
     first | exact key.out | exact Ys key
   refine zL ZV<|Qb<|zD hD ?_
   refine VD 0 1 3 rfl rfl rfl kA ?_ ?_ ?_
   ·
    refine zL ZV<|Qb<|zD hD ?_
    refine QU 1 3 rfl rfl kA ?_ ?_
    focus
     refine zL ZV<|Qb<|zD hD ?_
     refine QU 3 5 rfl rfl kA ?_ ?_
     ·
      refine zV (VG rfl rfl)<|Qb<|zD hD ?_
      refine QU 4 5 rfl rfl kA ?_ ?_
      focus
       refine zV (Yd rfl rfl (fun hg=>by rw [ZE hbp];omega))<|Qb<|zD hD<|qd 5 rfl ?_
       refine zS Q3 ?_;refine Qb<|zD hD<|qd 6 rfl ?_
      rotate_left
      refine zS Q3 ?_;refine Qb<|zD hD<|qd 4 rfl<|zV (Yd rfl rfl (fun hg=>by rw [ZE hbp];omega))<|Qb<|zD hD<|qd 6 rfl ?_
      all_goals
       refine zS Q3 ?_;refine Qb<|zD hD<|Qn kA<|Qv ?_
       first | exact key.out | exact Ys key
     refine zS Q3 ?_;refine Qb<|zD hD<|qd 3 rfl<|zV (VG rfl rfl)<|Qb<|zD hD<|qd 4 rfl<|zV (Yd rfl rfl (fun hg=>by rw [ZE hbp];omega))<|Qb<|zD hD<|qd 6 rfl ?_
    rotate_left
    refine zV (VG rfl rfl)<|Qb<|zD hD<|qd 1 rfl ?_
    refine zL ZV<|Qb<|zD hD ?_
    refine QU 4 5 rfl rfl kA ?_ ?_
    focus
     refine zV (Yd rfl rfl (fun hg=>by rw [ZE hbp];omega))<|Qb<|zD hD<|qd 5 rfl ?_
     refine zS Q3 ?_;refine Qb<|zD hD<|qd 6 rfl ?_
    rotate_left
    refine zS Q3 ?_;refine Qb<|zD hD<|qd 4 rfl<|zV (Yd rfl rfl (fun hg=>by rw [ZE hbp];omega))<|Qb<|zD hD<|qd 6 rfl ?_
    all_goals
     refine zS Q3 ?_;refine Qb<|zD hD<|Qn kA<|Qv ?_
     first | exact key.out | exact Ys key
   ·
    refine zL ZV<|Qb<|zD hD ?_
    refine QU 0 3 rfl rfl kA ?_ ?_
    focus
     refine zL ZV<|Qb<|zD hD ?_
     refine QU 3 5 rfl rfl kA ?_ ?_
     ·
      refine zV (VG rfl rfl)<|Qb<|zD hD ?_
      refine QU 4 5 rfl rfl kA ?_ ?_
      focus
       refine zV (Yd rfl rfl (fun hg=>by rw [ZE hbp];omega))<|Qb<|zD hD<|qd 5 rfl ?_
       refine zS Q3 ?_;refine Qb<|zD hD<|qd 6 rfl ?_
      rotate_left
      refine zS Q3 ?_;refine Qb<|zD hD<|qd 4 rfl<|zV (Yd rfl rfl (fun hg=>by rw [ZE hbp];omega))<|Qb<|zD hD<|qd 6 rfl ?_
      all_goals
       refine zS Q3 ?_;refine Qb<|zD hD<|Qn kA<|Qv ?_
       first | exact key.out | exact Ys key
     refine zS Q3 ?_;refine Qb<|zD hD<|qd 3 rfl<|zV (VG rfl rfl)<|Qb<|zD hD<|qd 4 rfl<|zV (Yd rfl rfl (fun hg=>by rw [ZE hbp];omega))<|Qb<|zD hD<|qd 6 rfl ?_
    rotate_left
    refine zV (VG rfl rfl)<|Qb<|zD hD ?_
    refine QU 0 4 rfl rfl kA ?_ ?_
    ·
     refine zL ZV<|Qb<|zD hD ?_
     refine QU 4 5 rfl rfl kA ?_ ?_
     focus
      refine zV (Yd rfl rfl (fun hg=>by rw [ZE hbp];omega))<|Qb<|zD hD<|qd 5 rfl ?_
      refine zS Q3 ?_;refine Qb<|zD hD<|qd 6 rfl ?_
     rotate_left
     refine zS Q3 ?_;refine Qb<|zD hD<|qd 4 rfl<|zV (Yd rfl rfl (fun hg=>by rw [ZE hbp];omega))<|Qb<|zD hD<|qd 6 rfl ?_
     all_goals
      refine zS Q3 ?_;refine Qb<|zD hD<|Qn kA<|Qv ?_
      first | exact key.out | exact Ys key
    refine zV (Yd rfl rfl (fun hg=>by rw [ZE hbp];omega))<|Qb<|zD hD<|qd 0 rfl ?_
    refine zL ZV<|Qb<|zD hD<|qd 5 rfl ?_
    refine zS Q3 ?_;refine Qb<|zD hD<|qd 6 rfl ?_
    all_goals
     refine zS Q3 ?_;refine Qb<|zD hD<|Qn kA<|Qv ?_
     first | exact key.out | exact Ys key
   refine zV (VG rfl rfl)<|Qb<|zD hD ?_
   refine QU 0 1 rfl rfl kA ?_ ?_
   ·
    refine zL ZV<|Qb<|zD hD<|qd 1 rfl ?_
    refine zL ZV<|Qb<|zD hD ?_
    refine QU 4 5 rfl rfl kA ?_ ?_
    focus
     refine zV (Yd rfl rfl (fun hg=>by rw [ZE hbp];omega))<|Qb<|zD hD<|qd 5 rfl ?_
     refine zS Q3 ?_;refine Qb<|zD hD<|qd 6 rfl ?_
    rotate_left
    refine zS Q3 ?_;refine Qb<|zD hD<|qd 4 rfl<|zV (Yd rfl rfl (fun hg=>by rw [ZE hbp];omega))<|Qb<|zD hD<|qd 6 rfl ?_
    all_goals
     refine zS Q3 ?_;refine Qb<|zD hD<|Qn kA<|Qv ?_
     first | exact key.out | exact Ys key
   refine zL ZV<|Qb<|zD hD ?_
   refine QU 0 4 rfl rfl kA ?_ ?_
   ·
    refine zL ZV<|Qb<|zD hD ?_
    refine QU 4 5 rfl rfl kA ?_ ?_
    focus
     refine zV (Yd rfl rfl (fun hg=>by rw [ZE hbp];omega))<|Qb<|zD hD<|qd 5 rfl ?_
     refine zS Q3 ?_;refine Qb<|zD hD<|qd 6 rfl ?_
    rotate_left
    refine zS Q3 ?_;refine Qb<|zD hD<|qd 4 rfl<|zV (Yd rfl rfl (fun hg=>by rw [ZE hbp];omega))<|Qb<|zD hD<|qd 6 rfl ?_
    all_goals
     refine zS Q3 ?_;refine Qb<|zD hD<|Qn kA<|Qv ?_
     first | exact key.out | exact Ys key
   refine zV (Yd rfl rfl (fun hg=>by rw [ZE hbp];omega))<|Qb<|zD hD<|qd 0 rfl ?_
   refine zL ZV<|Qb<|zD hD<|qd 5 rfl ?_
   refine zS Q3 ?_;refine Qb<|zD hD<|qd 6 rfl ?_
   refine zS Q3 ?_;refine Qb<|zD hD<|Qn kA<|Qv ?_
   first | exact key.out | exact Ys key
  rw [show ((a:Int)).tmod (zcU (b:Int) 1)=((a % b:Nat):Int) by rw [ZE hbp,zjz]];refine Qd (zR<|zL ZV<|zC (zN ?_));refine zI ?_ ?_<;>intro hc17
  ·
   have hab:a % b=0:=(by have h:=hc17;simp only [beq_iff_eq] at h;omega);have hpre2:(pre++[a])++[b]<+:zeQ a0 b0:=(by rw [hrem,zeu ha0 kB hab,List.append_assoc];exact List.prefix_rfl);refine zR (zM<|zL ZV<|zbH (vs:=[_]) (Post:=fun t I3 H3=>if t then J ((pre++[a])++[b]) I3 H3 else Jx ((pre++[a])++[b]) I3 H3) rfl rfl rfl rfl (hY (pre++[a]) b _ _ hpre2 (hI0.trans hI2) hJ1) ?_);rintro t3 I3 H3 hI3 hP3;refine zN (Qs (Qi (Qf (Qi ?_))))
   first
   | (refine Yu rfl (fun w hw=>⟨_,I3,H3,rfl,hI1.trans (hI2.trans hI3),hw.drop,?_⟩);cases t3 with | true=>exact .inl (by rw [hrem,zeu ha0 kB hab];simpa using hP3) | false=>exact .inr ⟨_,hpre2,hP3⟩)
  have hab:a % b≠0:=(by have h:=hc17;simp only [beq_eq_false_iff_ne,ne_eq] at h;omega);refine Qr (Qk ?_);exact zbx rfl rfl rfl _ (zwS 216 b1 b2 (b) (((a % b:Nat):Int))) ⟨a % b,Nat.mod_lt _ hbp,b,a % b,pre++[a],rfl,rfl,rfl,hI1.trans hI2,hJ1,by rw [hrem,zfW ha0 kB hab,List.append_assoc];rfl,kB,kB,by have:=Nat.mod_lt a hbp;omega⟩ (.cons rfl (.cons rfl (.cons rfl .nil))) .refl
 refine Zk (Qo (Qo (Qz ?_)))
 first
 | (refine YX (Yu rfl (fun w hw=>⟨_,I2,H2,rfl,hI1.trans hI2,hw.drop,?_⟩));by_cases ha0:a=0;(obtain ⟨e1,e2⟩:=hno (by simp [Yq,ha0]);subst e1;subst e2;subst ha0;exact .inl (by rw [hrem,zeS,List.append_nil];exact hJk));(have ht:t=false:=(by simp [ha0] at hc10;exact hc10);subst ht;exact .inr ⟨_,zoY hrem ha0,hyes (by simp [Yq];exact ha0)⟩))
theorem zAV (I:Qu)(a b:Nat)(hb:0<b)(ha:a≤9223372036854775807)(hb2:b≤9223372036854775807):ZJ Tryz.prog 281 [.int .u64 a,.int .u64 b] I (.int .u64 (Nat.gcd a b:Nat)):=by
 intro g H w hw;refine zl0 Tryz.func281 rfl Tryz.ntmps281 rfl hw ?_;have hIc:=zB6 I;refine zR<|Qp zyo rfl rfl (fun b_4=>zN (Qm (zR (zM<|zC (zN ?_)))))
 refine zI ?_ ?_<;>intro hc7
 ·
  simp at hc7;omega
 refine Qr (Qd (zR (zM ?_)));refine zS Q3<|zN (Qm (zR (zM<|zM<|zpc [_,_] rfl zuo .nil (zAr I _ _) ?_)))
 rintro vv1 I1 L1 hI1 ⟨rfl,b1,b2,rfl,rfl⟩;have hIc:=hIc.trans hI1;refine zN (Qw ?_);refine zeR (ms:=[]) (K:=zwS 216 b1 b2 (a) (b)) (L:=[(b_4,.cells #[.int .u64 b] 216 (0,0))]) (enc:=fun n:Nat=>.int .u64 n) (xs:=zeQ a b) (fun pre I' loc'=>loc'=[(b_4,.cells #[.int .u64 ((pre.getLastD b:Nat):Int)] 216 (0,0))]) (fun _ _ _ _=>False) (fun pre x E2 I2 loc2=>E2=[(4,ZI b_4),(5,.int .u64 x)]∧loc2=[(b_4,.cells #[.int .u64 ((pre.getLastD b:Nat):Int)] 216 (0,0))]) rfl zuI (zrw _ a b b1 b2 hb ha hb2) rfl rfl ?_ ?_ ?_ ?_
 ·
  rintro l pre x I1 loc1 H1 hpre hI1 rfl;exact Qh (zA (Qb<|Xa _ ⟨zB6 _,rfl,rfl⟩ (.cons rfl (.cons rfl .nil))))
 ·
  rintro l pre x E2 I2 loc2 H2 hpre hI2 ⟨rfl,rfl⟩;refine Qw (Qh (zM ?_));refine zS Q3<|Qb (Qk ?_)
  exact zm1 ⟨zB6 _,by rw [zmN];rfl⟩ .refl
 ·
  rintro bd I1 loc1 hI1 rfl;have hIc:=hIc.trans hI1;refine Qk (Qd (zR<|zL ZV ?_));refine zS Q3<|zN (Qs ?_)
  exact ziv (L:=[(b_4,_)]) (fun a ha w hw=>zAE rfl rfl ZV (Qy.h0 rfl) a ha w hw) (fun w hw=>⟨by rw [zrx b (Nat.le_refl _) kB (fun _=>rfl)],(hw.mono hIc).drop⟩)
 rintro c bd pre I1 loc1 hI1 hpre hF;exact hF.elim
theorem zxT (I:Qu)(n d:Int)(hn: -1073741824≤n∧n≤1073741824)(hd:1≤d∧d≤1073741824):ZJ Tryz.prog 281 [.int .u64 (zcR n),.int .u64 (IntKind.u64.wrap d)] I (.int .u64 (zoz n d)):=by
 have h0:0≤zcR n∧zcR n≤1073741824:=(by unfold zcR;split<;>omega);have h:=zAV I (zcR n).toNat d.toNat kB kB kB;rw [zkQ kB];rw [Int.toNat_of_nonneg h0.1,Int.toNat_of_nonneg kB,zvh,Int.toNat_of_nonneg kB] at h;exact h
theorem ziG (I:Qu)(n d:Int):ZJ Tryz.prog 278 [za3 (n) (d)] I (.int .i64 (zwm n d)):=by
 intro g H w hw;refine qe Tryz.func278 Tryz.ntmps278 hw ?_;refine zR<|QK rfl rfl rfl (fun b_1=>zA (zN (Qm (Qm<|Uy mixed kA<|zq (Qa rfl Vr)<|zq (Qc rfl Ql (fun hg=>by exact Qy.h0 rfl))<|zq (QA rfl rfl rfl)<|zq (Qe rfl)<|VF 3 rfl rfl rfl<|zj (Qa rfl Vr)<|zj (Qc rfl Ql (fun hg=>by exact Qy.h0 rfl))<|zj (QA rfl rfl rfl) ?_))))
 refine K3 rfl rfl rfl rfl rfl<|zq (Qe rfl)<|VF 8 rfl rfl rfl<|zj (Qa rfl Y2)<|zj (Qc rfl Ql (fun hg=>by exact Qy.h0 rfl))<|zj (QA rfl rfl rfl)<|K3 rfl rfl rfl rfl rfl<|zq (Qe rfl)<|VF 13 rfl rfl rfl<|zj (Qa rfl Y2)<|zj (Qc rfl Ql (fun hg=>by exact Qy.h0 rfl))<|zj (QA rfl rfl rfl) ?_
 refine K3 rfl rfl rfl rfl rfl<|zq (Qe rfl)<|VF 18 rfl rfl rfl<|zj (Qa rfl Y2)<|zj (Qc rfl Ql (fun hg=>by exact Qy.h0 rfl))<|JU (cap:=[]) (vs:=[_]) rfl rfl ztn (fun hg=>zAz I n (by simp [Yq] at hg;omega)) (.some rfl rfl rfl rfl gbf) rfl rfl<|zj (Qa rfl Vr)<|zj (Qc rfl Ql (fun hg=>by exact Qy.h0 rfl))<|zj (ZS rfl XZ)<|JU (cap:=[]) (vs:=[_,_]) rfl rfl zs4 (fun hg=>zxT I n d (by simp [Yq] at hg;omega) (by simp [Yq] at hg;omega)) (.some rfl rfl rfl rfl gbf) rfl rfl<|zj (QA rfl rfl rfl)<|K3 rfl rfl rfl rfl rfl ?_
 refine Uo<|Qd ?_
 refine zI ?_ ?_<;>intro hc30
 ·
  refine zR (zA (zN (Qs (Qf ?_))))
  first
  | exact zr rfl rfl (by unfold zwm;rw [zwb hc30];rfl)
 refine Qr (Qd (zR (zA (zN (Qs ?_)))))
 first
 | exact zr rfl rfl (by unfold zwm;rw [zqj hc30];rfl)
theorem zxb (I:Qu)(an ad bn bd:Int):ZJ Tryz.prog 276 [za3 (an) (ad),za3 (bn) (bd)] I (.tuple #[.int .i64 (zzo an ad bn bd),.int .i64 (zw3 an ad bn bd)]):=by
 intro g H w hw;refine qe Tryz.func276 Tryz.ntmps276 hw ?_;refine zR<|QK rfl rfl rfl (fun b_2=>QK rfl rfl rfl (fun b_3=>zA<|zA (zN (Qm (zR<|zV (Qg rfl Jz (fun hg=>by exact Cells.g1) rfl)<|qcV (vs:=[_]) rfl zmg (ziG I _ _)<|zC<|zM<|QI 3 rfl rfl rfl<|zJ (Qg rfl Jz (fun hg=>by exact Cells.g0) rfl)<|qf (vs:=[_]) rfl zmg (fun hg=>ziG I _ _) ?_)))))
 refine zJ (QA rfl rfl rfl)<|Q9 rfl rfl rfl rfl rfl<|zN ?_
 refine zI ?_ ?_<;>intro hc13
 focus
  have hb:(WE an ad&&WE bn bd)=false:=(by have h:=hc13;rw [zmq,Bool.not_eq_true'] at h;exact h);refine zR (zA<|zA (zN (Qs (Qf ?_))))
 rotate_left
 have hb:(WE an ad&&WE bn bd)=true:=(by have h:=hc13;rw [zmq,Bool.not_eq_false'] at h;exact h);have ⟨ha1,ha2⟩:=zdU (Bool.and_eq_true .. ▸ hb).1;have ⟨hb1,hb2⟩:=zdU (Bool.and_eq_true .. ▸ hb).2;refine Qr (Qd (zR<|zF Y2 ?_));refine zL Ql<|zF Vr ?_
 refine zL Ql ?_;refine zV (Ya rfl rfl rfl (fun _=>by exact zrl kB kB))<|zF Y2 ?_
 refine zL Ql<|zF Vr ?_
 refine zL Ql ?_;refine zV (Ya rfl rfl rfl (fun _=>by exact zrl kB kB))<|qcV (vs:=[_,_]) rfl znD (zvg I _ _) ?_
 refine zA<|zA (zN (Qs ?_))
 all_goals
  exact Vq rfl rfl rfl (fun w hw=>⟨by unfold zzo zw3;rw [hb];rfl,hw.drop⟩)
theorem zzj (I:Qu)(an ad bn bd:Int):ZJ Tryz.prog 270 [za3 (an) (ad),za3 (bn) (bd)] I (.bool (zcL an ad bn bd)):=by
 intro g H w hw;refine qe Tryz.func270 Tryz.ntmps270 hw ?_;refine zR<|QK rfl rfl rfl (fun b_2=>QK rfl rfl rfl (fun b_3=>zA<|zN (zR<|zV (Qg rfl Jz (fun hg=>by exact Cells.g1) rfl)<|zV (Qg rfl Jz (fun hg=>by exact Cells.g0) rfl)<|qcV (vs:=[_,_]) rfl zvV (zxb I _ _ _ _)<|zM ?_)))
 refine zE<|zE<|zA<|zA<|zN (zR ?_)
 refine zM<|zC ?_
 refine zM ?_;refine Qt 2 rfl rfl rfl ?_;refine zK (Qe rfl) ?_;refine zK (QA rfl rfl rfl) ?_;refine QE rfl rfl rfl rfl rfl<|zM<|Qt 6 rfl rfl rfl ?_
 refine zK (Qa rfl Y2) ?_;refine zK (Qc rfl Ql (fun hg=>by exact Qy.h1 rfl)) ?_;refine zK (QA rfl rfl rfl) ?_;refine QE rfl rfl rfl rfl rfl<|zM<|Qt 11 rfl rfl rfl ?_
 refine zK (Qa rfl Y2) ?_;refine zK (Qc rfl Ql (fun hg=>by exact Qy.h0 rfl))<|zK (Qa rfl Vr) ?_
 refine zK (Qc rfl Ql (fun hg=>by exact Qy.h0 rfl)) ?_;refine zK (QA rfl rfl rfl) ?_;exact QE rfl rfl rfl rfl rfl<|zA (zN (Qs<|zr rfl rfl (by rw [←ztP])))
theorem Yi (I:Qu)(n lo hi:Int):ZJ Tryz.prog 269 [.int .i64 n,.int .i64 lo,.int .i64 hi] I (.bool (within n lo hi)):=by
 intro g H w hw;refine qe Tryz.func269 Tryz.ntmps269 hw ?_;refine zR (zA<|zN (zR ?_));refine zM ?_;refine zM<|zC ?_
 refine zM ?_;refine Qt 3 rfl rfl rfl ?_;refine zK (Qe rfl) ?_;refine zK (Qe rfl) ?_;refine zK (QA rfl rfl rfl) ?_;exact QE rfl rfl rfl rfl rfl<|zA (zN (Qs<|zr rfl rfl kW))
theorem zAa (I:Qu)(x:Sg):ZJ Tryz.prog 260 [W6 x] I (.bool (frm x)):=by
 intro g H w hw;refine qe Tryz.func260 Tryz.ntmps260 hw ?_;refine zR<|QK rfl rfl rfl (fun b_1=>zA<|zN (zR<|zF JJ ?_))
 refine zL Ql<|qcV (vs:=[_,_,_]) rfl K8 (Yi I _ _ _)<|zM<|Qt 3 rfl rfl rfl ?_
 refine zK (Qa rfl UT) ?_;refine zK (Qc rfl Ql (fun hg=>by exact Qy.h0 rfl))<|qg (vs:=[_,_,_]) rfl K8 (fun hg=>Yi I _ _ _)<|QE rfl rfl rfl rfl rfl<|zM<|Qt 8 rfl rfl rfl ?_
 refine zK (Qa rfl UG) ?_;refine zK (Qc rfl Ql (fun hg=>by exact Qy.h0 rfl))<|qg (vs:=[_,_,_]) rfl K8 (fun hg=>Yi I _ _ _)<|QE rfl rfl rfl rfl rfl<|zM<|Qt 13 rfl rfl rfl ?_
 refine zK (Qa rfl zbk) ?_;refine zK (Qc rfl Ql (fun hg=>by exact Qy.h0 rfl))<|qg (vs:=[_,_,_]) rfl K8 (fun hg=>Yi I _ _ _)<|QE rfl rfl rfl rfl rfl<|zM<|Qt 18 rfl rfl rfl ?_
 refine zK (Qa rfl UU) ?_;refine zK (Qc rfl Ql (fun hg=>by exact Qy.h0 rfl))<|qg (vs:=[_,_,_]) rfl K8 (fun hg=>Yi I _ _ _)<|QE rfl rfl rfl rfl rfl<|zM<|Qt 23 rfl rfl rfl ?_
 refine zK (Qa rfl UK) ?_;refine zK (Qc rfl Ql (fun hg=>by exact Qy.h0 rfl))<|qg (vs:=[_,_,_]) rfl K8 (fun hg=>Yi I _ _ _)<|QE rfl rfl rfl rfl rfl<|zM<|Qt 28 rfl rfl rfl ?_
 refine zK (Qa rfl UW) ?_;refine zK (Qc rfl Ql (fun hg=>by exact Qy.h0 rfl))<|qg (vs:=[_,_,_]) rfl K8 (fun hg=>Yi I _ _ _)<|QE rfl rfl rfl rfl rfl<|zM<|Qt 33 rfl rfl rfl ?_
 refine zK (Qa rfl UJ) ?_;refine zK (Qc rfl Ql (fun hg=>by exact Qy.h0 rfl))<|qg (vs:=[_,_,_]) rfl K8 (fun hg=>Yi I _ _ _)<|QE rfl rfl rfl rfl rfl<|zM<|Qt 38 rfl rfl rfl ?_
 refine zK (Qa rfl UO) ?_;refine zK (Qc rfl Ql (fun hg=>by exact Qy.h0 rfl))<|qg (vs:=[_,_,_]) rfl K8 (fun hg=>Yi I _ _ _)<|QE rfl rfl rfl rfl rfl<|zM<|Qt 43 rfl rfl rfl ?_
 refine zK (Qa rfl UQ) ?_;refine zK (Qc rfl Ql (fun hg=>by exact Qy.h0 rfl))<|qg (vs:=[_,_,_]) rfl K8 (fun hg=>Yi I _ _ _)<|QE rfl rfl rfl rfl rfl<|zM<|Qt 48 rfl rfl rfl ?_
 refine zK (Qa rfl Jv)<|zK (Qg rfl Jz (fun hg=>by exact Cells.s0 (vs:=[_,_]) rfl) rfl) ?_
 exact zK (Qa rfl Jo)<|zK (Qg rfl Jz (fun hg=>by exact Cells.s0 (vs:=[_,_]) rfl) rfl)<|qg (vs:=[_,_]) rfl zt4 (fun hg=>zzj I _ _ _ _)<|QE rfl rfl rfl rfl rfl<|zA (zN (Qs<|zr rfl rfl kW))
theorem zxS {I:Qu}{av:Option Addr}{n c:Nat}{xs:List Sg}(hS:Sl I 14 zgr av n c xs)(hn:n≤100000):ZJ Tryz.prog 217 [.slice av n c] I (.int .i64 (zj0 xs)):=by
 intro g H w hw;refine qe Tryz.func217 Tryz.ntmps217 hw ?_;refine zR (zA (zN (Qm (zR ?_))));refine zM<|zQ UP<|zC (zN ?_)
 refine zI ?_ ?_<;>intro hc7
 ·
  have h6:xs.length>4096:=(by rw [hS.len];simp at hc7;omega);refine zR (zA (zN (Qs (Qf ?_))))
  first
  | exact zr rfl rfl (by unfold zj0;rw [if_pos h6])
 have h6:¬xs.length>4096:=(by rw [hS.len];simp at hc7;omega);refine Qr (Qd (Qm (zR (zM<|zQ UP<|zM (zN (Qw ?_))))));refine zU [(0,_),(8,_),(9,_)] (fun T L0 mz E I' loc'=>∃ (k:Nat),mz=n-k∧E=(10,.int .i64 k)::T∧I=I'∧L0=loc'∧k≤n∧(List.range k).all (skP xs)=true) ?_ (h:=⟨0,rfl,rfl,rfl,rfl,Nat.zero_le _,rfl⟩);rintro mz E I' loc' ⟨k,rfl,rfl,rfl,rfl,hk,hall⟩;refine zR (zC (zN (Qm ?_)));refine zI ?_ ?_<;>intro hc11
 ·
  have hlt_k:k<n:=(by have h:=hc11;simp at h;omega);obtain ⟨x,hx⟩:=hS.at hlt_k;refine Qr (Qd (Qm (Qw (zR (zM<|zV (QG rfl rfl UP kL (fun hg=>kB))<|zV (Qg rfl ZP (fun hg=>by exact zB7 hS hx) rfl)<|Qp zhH rfl rfl (fun b_4=>?_))))));refine zA<|zh Jn<|zN (Qm<|Uy mixed kA ?_)
  refine zq (Qg rfl ZP (fun hg=>by exact Cells.g0) rfl)<|Wd (cap:=[]) (vs:=[_]) rfl rfl zvz (zAa I _) rfl rfl<|zq (ZB rfl)<|zq (Qe rfl)<|VF 3 rfl rfl rfl<|zj (Qe rfl)<|zj (QA rfl rfl rfl)<|zj (Qe rfl)<|Jd 6 rfl rfl rfl<|zk (Qe rfl)<|zk (Qe rfl)<|zk (Ya rfl rfl rfl (fun hg=>kB)) ?_
  refine zk (QG rfl rfl UP kL (fun hg=>by (simp [Yq] at hg;omega)))<|zk (Qa rfl JJ)<|zk (Qc rfl Ql (fun hg=>by exact zBZ (k:=((k:Int)-1).toNat) hS (Uw (d:=Kb) hS.len (by simp [Yq] at hg;omega)) rfl))<|zk (Qa rfl JJ)<|zk (Qc rfl Ql (fun hg=>by exact Qy.h0 rfl))<|zk (QA rfl rfl rfl)<|zbS rfl rfl rfl (.some rfl rfl rfl rfl gbf) rfl rfl<|K3 rfl rfl rfl rfl rfl<|Uo<|Qd ?_
  refine zI ?_ ?_<;>intro hc32
  ·
   refine zR (zA (zN (Qs (Qi (Qf (Qf (Qi<|Qf ?_)))))))
   first
   | exact zr rfl rfl (by unfold zj0 skB;rw [if_neg h6,Ka (k:=k) (by rw [hS.len];exact hlt_k) (by rw [ziy hx,hc32];rfl)];rfl)
  refine Qr (Qk (Qd (Qh (zB<|zM (Qb ?_)))));exact zm (h:=⟨n-(k+1),kB,k+1,rfl,rfl,rfl,rfl,kB,Ji hall (by rw [ziy hx,hc32];rfl)⟩)
 have hge_k:n≤k:=(by have h:=hc11;simp at h;omega);refine Zk (Qo (Qo (Qz (Qd (zR (zA (zN<|Qs ?_)))))))
 first
 | exact zr rfl rfl (by unfold zj0 skB;rw [if_neg h6,hS.len,show n=k by omega,hall];rfl)
theorem zci (I:Qu)(b:Nat):ZJ Tryz.prog 216 [ZI b] I (.agg (zBj b).toArray):=by
 intro g H w hw;refine qe Tryz.func216 Tryz.ntmps216 hw ?_;refine zR<|Qp zsn rfl rfl (fun b_2=>zN (Qm ?_))
 have hD:=zB6 I;refine Zn<|QJ I [] mixed<|zT 0 rfl (Qe rfl) hD<|zT 1 rfl (QC rfl) hD<|zT 2 rfl (Qa rfl UT) hD<|zT 3 rfl (Qe rfl) hD<|zT 4 rfl (QC rfl) hD<|zT 5 rfl (Qa rfl UG) hD<|zT 6 rfl (Qe rfl) hD<|zT 7 rfl (QC rfl) hD<|zT 8 rfl (Qa rfl UU) hD<|zT 9 rfl (Qe rfl) hD ?_
 refine zT 10 rfl (QC rfl) hD<|zT 11 rfl (Qa rfl UK) hD<|zT 12 rfl (Qe rfl) hD<|zT 13 rfl (QC rfl) hD<|zT 14 rfl (Qa rfl UW) hD<|zT 15 rfl (Qe rfl) hD<|zT 16 rfl (QC rfl) hD<|zT 17 rfl (Qa rfl UJ) hD<|zT 18 rfl (Qe rfl) hD<|zT 19 rfl (QC rfl) hD<|zT 20 rfl (Qa rfl UO) hD<|zT 21 rfl (Qe rfl) hD ?_
 refine zT 22 rfl (QC rfl) hD<|zT 23 rfl (Qa rfl UQ) hD<|zT 24 rfl (VH (ps:=[(1,_),(2,_),(3,_),(4,_),(5,_),(6,_),(7,_),(8,_)]) [_,_,_,_,_,_,_,_,_] Xc zsn rfl rfl) hD<|qd 25 rfl ?_
 exact zh ztx<|Qb<|zD hD<|Qn kA<|Qv<|Qd (Qs<|ZM rfl rfl ztz Cells.g0 rfl (fun w hw=>⟨rfl,hw.drop⟩))
theorem zyT (I:Qu)(x:Sg)(f:Int)(y:Sg)(hf:isF f):ZJ Tryz.prog 161 [W6 x,.int .i64 f,W6 y] I (W6 (Uj x f y)):=by
 intro g H w hw;refine qe Tryz.func161 Tryz.ntmps161 hw ?_;refine zR<|QK rfl rfl rfl (fun b_3=>QK rfl rfl rfl (fun b_5=>Qp zhH rfl rfl (fun b_6=>zN (Qm (zR (zM<|zC (zN ?_)))))))
 refine zI ?_ ?_<;>intro hc8
 ·
  have hf9:f=9:=(by simpa using hc8);refine zR<|zF Jv ?_
  refine zV (Qg rfl Jz (fun hg=>by exact Cells.s1 (vs:=[_,_]) rfl) rfl)<|zF Jo ?_
  refine zV (Qg rfl Jz (fun hg=>by exact Cells.s1 (vs:=[_,_]) rfl) rfl) ?_;refine zF Jv ?_;refine Z0 rfl rfl zih rfl rfl rfl rfl (by repeat (first | exact Upd.here | apply Upd.there | apply ZD)) ?_;refine zF Jo ?_;refine Z0 rfl rfl zih rfl rfl rfl rfl (by repeat (first | exact Upd.here | apply Upd.there | apply ZD))<|zN (zR<|zV (Qg rfl ZP (fun hg=>by exact Cells.g2) rfl) ?_)
  refine zh Jn<|zN (Qs (Qf ?_))
  first
  | exact ZM rfl rfl ZP Cells.g0 rfl (fun w hw=>⟨by rw [hf9];rfl,hw.drop⟩)
 have hf8:1≤f∧f≤8:=(by have h:=hc8;unfold isF at hf;simp at h;omega);refine Qr (Qd (Qm ?_));have hD:=zB6 I;refine Zn<|QJ I [(b_5,.cells (W6 y).cells 36 (0,0))] mixed<|zT 1 rfl (Qe rfl) hD<|zT 4 rfl (Qe rfl) hD<|qd 0 rfl<|qcV (vs:=[_]) rfl zhq (zci I _)<|Qb<|zD hD ?_
 refine QU 2 3 rfl rfl kA ?_ ?_
 focus
  refine zV (K1 rfl rfl Xc Wj (fun hg=>kB) (fun hg=>zdx hf8 b_3))<|Qb<|zD hD<|qd 3 rfl<|qcV (vs:=[_]) rfl zhq (zci I _)<|Qb<|zD hD<|qd 5 rfl<|zV (K1 rfl rfl Xc Wj (fun hg=>kB) (fun hg=>zdx hf8 b_5))<|Qb<|zD hD<|zT 6 rfl (QC rfl) hD ?_
  refine zT 7 rfl (Qc rfl Ql (fun hg=>by exact Qy.h0 (zhm hf8 y))) hD<|zT 8 rfl (QC rfl) hD<|qd 9 rfl<|Ks rfl rfl U5 rfl rfl Upd.u2 (by exact zvC) ?_
 rotate_left
 refine qcV (vs:=[_]) rfl zhq (zci I _)<|Qb<|zD hD ?_
 refine QU 2 5 rfl rfl kA ?_ ?_
 focus
  refine zV (K1 rfl rfl Xc Wj (fun hg=>kB) (fun hg=>zdx hf8 b_3))<|Qb<|zD hD<|qd 5 rfl<|zV (K1 rfl rfl Xc Wj (fun hg=>kB) (fun hg=>zdx hf8 b_5))<|Qb<|zD hD<|zT 6 rfl (QC rfl) hD<|zT 7 rfl (Qc rfl Ql (fun hg=>by exact Qy.h0 (zhm hf8 y))) hD<|zT 8 rfl (QC rfl) hD<|qd 9 rfl<|Ks rfl rfl U5 rfl rfl Upd.u2 (by exact zvC) ?_
 rotate_left
 refine zV (K1 rfl rfl Xc Wj (fun hg=>kB) (fun hg=>zdx hf8 b_5))<|Qb<|zD hD<|zT 6 rfl (QC rfl) hD<|zT 7 rfl (Qc rfl Ql (fun hg=>by exact Qy.h0 (zhm hf8 y))) hD<|qd 2 rfl<|zV (K1 rfl rfl Xc Wj (fun hg=>kB) (fun hg=>zdx hf8 b_3))<|Qb<|zD hD<|zT 8 rfl (QC rfl) hD<|qd 9 rfl<|Ks rfl rfl U5 rfl rfl Upd.u2 (by exact zvC) ?_
 all_goals
  rw [show (W6 x).cells.setIfInBounds (foF f) (.int .i64 (zxf y f))=(zgr (Uj x f y)).toArray from znj hf8 x y];exact Qb<|zD hD<|Qn kA<|Qv<|Qd (zR<|zV (Qg rfl ZP (fun hg=>by exact Cells.g2) rfl)<|zh Jn<|zN (Qs<|ZM rfl rfl ZP Cells.g0 rfl (fun w hw=>⟨rfl,hw.drop⟩)))
end
section
open Go Go.Kn
def zcV (zs:List Int):List Int:=zs.mergeSort fun x y=>decide (x≤y)
theorem KS (zs:List Int):zs.flatMap Z5=zs.map (Value.int .i64):=by
 induction zs with
 | nil=>rfl
 | cons z zs ih=>rw [List.flatMap_cons,ih];rfl
end
section
open Go Go.Kn Go.Proofs
theorem zvI (i j:Nat)(h:i+j≤1000000):IntKind.i64.wrap ((IntKind.u64.wrap ((i:Int)+(j:Int))).fdiv (2^1))=(((i+j) / 2:Nat):Int):=by
 have h1:IntKind.u64.wrap ((i:Int)+(j:Int))=((i+j:Nat):Int):=by
  rw [show ((i:Int)+(j:Int))=((i+j:Nat):Int) by omega];exact zkQ ⟨kB,kB⟩
 rw [h1,show ((2:Int)^1)=((2:Nat):Int) from rfl,Int.fdiv_eq_ediv_of_nonneg _ kB,←Int.natCast_ediv];exact zer ⟨kB,kB⟩
section
variable {α:Type} {key:α→Int} {xs:List α} {t:Int}
end
instance : Inhabited Sg := ⟨Kb⟩
end
end Go.Proofs.YtjblkbkmblkgoaaGreat
namespace Go.Proofs
section
open Go.Shelf
def Tryz.lays106_ren:Go.Shelf.Ren:=⟨fun | 106=>154 | 213=>209 | 265=>259 | n=>n,fun | 9=>9 | 3=>3 | n=>n,fun | n=>n⟩
theorem Tryz.lays106:Go.Proofs.Lays.n106 Tryz.prog Tryz.lays106_ren:={
 mixed:=kA
 f106:=Tryz.func154.trans (congrArg some kA)
 f213:=Tryz.func209.trans (congrArg some kA)
 f265:=Tryz.func259.trans (congrArg some kA)
 t3:=Tryz.underlying3
 a3:=Tryz.isAgg3
 z3:=Tryz.sizeOf3
 v3:=Tryz.zeroValue3
 t9:=Tryz.underlying9
 a9:=Tryz.isAgg9
 z9:=Tryz.sizeOf9
 v9:=Tryz.zeroValue9}
open Go.RowKit in
theorem Tryz.strings_Compare (a b:ByteArray) (w:World):
  Calls Tryz.prog 154 #[.string a,.string b] w fun e w'=>e= .returned (.int .i64 (Lib.compareBytes a.data.toList b.data.toList))∧w'=w:=Any.strings_Compare Tryz.lays106 a b w
def Tryz.lays189_ren:Go.Shelf.Ren:=⟨fun | 189=>135 | 125=>153 | 257=>188 | 128=>207 | 129=>208 | 294=>236 | 295=>237 | 296=>238 | 297=>239 | 298=>240 | 299=>241 | 216=>242 | 300=>243 | 301=>244 | 328=>264 | 329=>255 | 330=>256 | 331=>265 | 332=>266 | 215=>229 | 343=>274 | n=>n,fun | 28=>37 | 3=>3 | 46=>216 | 0=>0 | 51=>274 | 53=>276 | 4=>4 | 183=>268 | 182=>267 | 131=>150 | 5=>5 | 9=>9 | 218=>306 | 222=>184 | 228=>318 | 229=>319 | n=>n,fun | n=>n⟩
theorem Tryz.lays189:Go.Proofs.Lays.n189 Tryz.prog Tryz.lays189_ren:={
 mixed:=kA
 f125:=Tryz.func153.trans (congrArg some kA)
 f128:=Tryz.func207.trans (congrArg some kA)
 f129:=Tryz.func208.trans (congrArg some kA)
 f189:=Tryz.func135.trans (congrArg some kA)
 f215:=Tryz.func229.trans (congrArg some kA)
 f216:=Tryz.func242.trans (congrArg some kA)
 f257:=Tryz.func188.trans (congrArg some kA)
 f294:=Tryz.func236.trans (congrArg some kA)
 f295:=Tryz.func237.trans (congrArg some kA)
 f296:=Tryz.func238.trans (congrArg some kA)
 f297:=Tryz.func239.trans (congrArg some kA)
 f298:=Tryz.func240.trans (congrArg some kA)
 f299:=Tryz.func241.trans (congrArg some kA)
 f300:=Tryz.func243.trans (congrArg some kA)
 f301:=Tryz.func244.trans (congrArg some kA)
 f328:=Tryz.func264.trans (congrArg some kA)
 f329:=Tryz.func255.trans (congrArg some kA)
 f330:=Tryz.func256.trans (congrArg some kA)
 f331:=Tryz.func265.trans (congrArg some kA)
 f332:=Tryz.func266.trans (congrArg some kA)
 f343:=Tryz.func274.trans (congrArg some kA)
 t0:=Tryz.underlying0
 a0:=Tryz.isAgg0
 z0:=Tryz.sizeOf0
 v0:=Tryz.zeroValue0
 t3:=Tryz.underlying3
 a3:=Tryz.isAgg3
 z3:=Tryz.sizeOf3
 v3:=Tryz.zeroValue3
 t4:=Tryz.underlying4
 a4:=Tryz.isAgg4
 z4:=Tryz.sizeOf4
 v4:=Tryz.zeroValue4
 t5:=Tryz.underlying5
 a5:=Tryz.isAgg5
 z5:=Tryz.sizeOf5
 v5:=Tryz.zeroValue5
 t9:=Tryz.underlying9
 a9:=Tryz.isAgg9
 z9:=Tryz.sizeOf9
 v9:=Tryz.zeroValue9
 t28:=Tryz.underlying37
 a28:=Tryz.isAgg37
 z28:=Tryz.sizeOf37
 v28:=Tryz.zeroValue37
 t46:=Tryz.underlying216
 a46:=Tryz.isAgg216
 z46:=Tryz.sizeOf216
 v46:=Tryz.zeroValue216
 t51:=Tryz.underlying274
 a51:=Tryz.isAgg274
 z51:=Tryz.sizeOf274
 v51:=Tryz.zeroValue274
 t53:=Tryz.underlying276
 a53:=Tryz.isAgg276
 z53:=Tryz.sizeOf276
 v53:=Tryz.zeroValue276
 t131:=Tryz.underlying150
 a131:=Tryz.isAgg150
 z131:=Tryz.sizeOf150
 v131:=Tryz.zeroValue150
 t182:=Tryz.underlying267
 a182:=Tryz.isAgg267
 z182:=Tryz.sizeOf267
 v182:=Tryz.zeroValue267
 t183:=Tryz.underlying268
 a183:=Tryz.isAgg268
 z183:=Tryz.sizeOf268
 v183:=Tryz.zeroValue268
 t218:=Tryz.underlying306
 a218:=Tryz.isAgg306
 z218:=Tryz.sizeOf306
 v218:=Tryz.zeroValue306
 t222:=Tryz.underlying184
 a222:=Tryz.isAgg184
 z222:=Tryz.sizeOf184
 v222:=Tryz.zeroValue184
 t228:=Tryz.underlying318
 a228:=Tryz.isAgg318
 z228:=Tryz.sizeOf318
 v228:=Tryz.zeroValue318
 t229:=Tryz.underlying319
 a229:=Tryz.isAgg319
 z229:=Tryz.sizeOf319
 v229:=Tryz.zeroValue319}
open Go.Sort Go.RowKit in
theorem Tryz.slices_Sort_int (blk off cap:Nat) (zs:List Int) (w:World) (hH:Holds (Value.int .i64) w blk off zs.toArray) (hblk:blk<w.heap.size) (hsz:zs.length<4611686018427387904):
  Calls Tryz.prog 135 #[.slice (some ⟨blk,off,none⟩) zs.length cap] w fun e w'=>
   e= .returned (.tuple #[])∧∃ n os,w'=grow (putRow (Value.int .i64) (Sort.ahead w n) blk off (zs.mergeSort fun x y=>decide (x≤y)).toArray) os:=Any.slices_Sort_int Tryz.lays189 blk off cap zs w hH hblk hsz
open Go.RowKit Go.Sort in
theorem Tryz.slices_Sort_int_none (p:Option Addr) (cap:Nat) (w:World):
  Calls Tryz.prog 135 #[.slice p 0 cap] w fun e w'=>e= .returned (.tuple #[])∧w'=w:=Any.slices_Sort_int_none Tryz.lays189 p cap w
def Tryz.laysSlF06_f80_ren:Go.Shelf.Ren:=⟨fun | 6=>80 | 15=>153 | 14=>152 | 28=>207 | 29=>208 | 20=>199 | 21=>200 | 22=>201 | 23=>202 | 24=>203 | 25=>204 | 26=>205 | 27=>206 | 46=>254 | 47=>255 | 48=>256 | 49=>257 | 50=>258 | 57=>268 | n=>n,fun | 22=>57 | 24=>45 | 25=>128 | 3=>3 | 39=>216 | 0=>0 | 53=>274 | 55=>276 | 4=>4 | 46=>268 | 45=>267 | 50=>150 | 5=>5 | 9=>9 | 66=>306 | 70=>184 | 76=>318 | 77=>319 | n=>n,fun | n=>n⟩
theorem Tryz.laysSlF06_f80:Go.Proofs.SlLaysF0.n6 Tryz.prog Tryz.laysSlF06_f80_ren:={
 mixed:=kA
 f6:=⟨Tryz.f80.name,by decide,Tryz.func80.trans (congrArg some kA)⟩
 f14:=⟨Tryz.f152.name,by decide,Tryz.func152.trans (congrArg some kA)⟩
 f15:=Tryz.func153.trans (congrArg some kA)
 f20:=⟨Tryz.f199.name,by decide,Tryz.func199.trans (congrArg some kA)⟩
 f21:=⟨Tryz.f200.name,by decide,Tryz.func200.trans (congrArg some kA)⟩
 f22:=⟨Tryz.f201.name,by decide,Tryz.func201.trans (congrArg some kA)⟩
 f23:=⟨Tryz.f202.name,by decide,Tryz.func202.trans (congrArg some kA)⟩
 f24:=⟨Tryz.f203.name,by decide,Tryz.func203.trans (congrArg some kA)⟩
 f25:=⟨Tryz.f204.name,by decide,Tryz.func204.trans (congrArg some kA)⟩
 f26:=⟨Tryz.f205.name,by decide,Tryz.func205.trans (congrArg some kA)⟩
 f27:=⟨Tryz.f206.name,by decide,Tryz.func206.trans (congrArg some kA)⟩
 f28:=Tryz.func207.trans (congrArg some kA)
 f29:=Tryz.func208.trans (congrArg some kA)
 f46:=⟨Tryz.f254.name,by decide,Tryz.func254.trans (congrArg some kA)⟩
 f47:=Tryz.func255.trans (congrArg some kA)
 f48:=Tryz.func256.trans (congrArg some kA)
 f49:=⟨Tryz.f257.name,by decide,Tryz.func257.trans (congrArg some kA)⟩
 f50:=⟨Tryz.f258.name,by decide,Tryz.func258.trans (congrArg some kA)⟩
 f57:=⟨Tryz.f268.name,by decide,Tryz.func268.trans (congrArg some kA)⟩
 t0:=Tryz.underlying0
 a0:=Tryz.isAgg0
 z0:=Tryz.sizeOf0
 v0:=Tryz.zeroValue0
 t3:=Tryz.underlying3
 a3:=Tryz.isAgg3
 z3:=Tryz.sizeOf3
 v3:=Tryz.zeroValue3
 t4:=Tryz.underlying4
 a4:=Tryz.isAgg4
 z4:=Tryz.sizeOf4
 v4:=Tryz.zeroValue4
 t5:=Tryz.underlying5
 a5:=Tryz.isAgg5
 z5:=Tryz.sizeOf5
 v5:=Tryz.zeroValue5
 t9:=Tryz.underlying9
 a9:=Tryz.isAgg9
 z9:=Tryz.sizeOf9
 v9:=Tryz.zeroValue9
 t22:=Tryz.underlying57
 a22:=Tryz.isAgg57
 z22:=Tryz.sizeOf57
 v22:=Tryz.zeroValue57
 t25:=Tryz.underlying128
 a25:=Tryz.isAgg128
 z25:=Tryz.sizeOf128
 v25:=Tryz.zeroValue128
 t39:=Tryz.underlying216
 a39:=Tryz.isAgg216
 z39:=Tryz.sizeOf216
 v39:=Tryz.zeroValue216
 t45:=Tryz.underlying267
 a45:=Tryz.isAgg267
 z45:=Tryz.sizeOf267
 v45:=Tryz.zeroValue267
 t46:=Tryz.underlying268
 a46:=Tryz.isAgg268
 z46:=Tryz.sizeOf268
 v46:=Tryz.zeroValue268
 t50:=Tryz.underlying150
 a50:=Tryz.isAgg150
 z50:=Tryz.sizeOf150
 v50:=Tryz.zeroValue150
 t53:=Tryz.underlying274
 a53:=Tryz.isAgg274
 z53:=Tryz.sizeOf274
 v53:=Tryz.zeroValue274
 t55:=Tryz.underlying276
 a55:=Tryz.isAgg276
 z55:=Tryz.sizeOf276
 v55:=Tryz.zeroValue276
 t66:=Tryz.underlying306
 a66:=Tryz.isAgg306
 z66:=Tryz.sizeOf306
 v66:=Tryz.zeroValue306
 t70:=Tryz.underlying184
 a70:=Tryz.isAgg184
 z70:=Tryz.sizeOf184
 v70:=Tryz.zeroValue184
 t76:=Tryz.underlying318
 a76:=Tryz.isAgg318
 z76:=Tryz.sizeOf318
 v76:=Tryz.zeroValue318
 t77:=Tryz.underlying319
 a77:=Tryz.isAgg319
 z77:=Tryz.sizeOf319
 v77:=Tryz.zeroValue319}
open Go.RowKit Go.Lib Go.Sort in
theorem Tryz.slices_SortFunc {α:Type} [Inhabited α] (k:Nat) (aE:∀ w,(isAgg (Tryz.laysSlF06_f80_ren.t 24)).run Tryz.prog w= .ok true w) (zE:∀ w,(Go.sizeOf (Tryz.laysSlF06_f80_ren.t 24)).run Tryz.prog w= .ok k w) (enc:α→List Value) (hk:∀ x,(enc x).length=k) (h1:∀ x,∀ v∈enc x,v.oneCell'=true) (cf:α→α→Int) (hO:SWO (ltOf cf)) (g:Nat) (cb:Array Value) (blk off cap:Nat) (d:Array α) (w:World) (eg:∀ args w,(callFunc g args).run Tryz.prog w= .ok (.enter g args) w) (hcmp:CmpLays Tryz.prog g cb enc k cf blk off d.size w) (hH:HoldsK enc k w blk off d) (hblk:blk<w.heap.size) (hsz:d.size<4611686018427387904):
  Calls Tryz.prog 80 #[.slice (some ⟨blk,off,none⟩) d.size cap,.func (.func g) #[] cb] w fun e w'=>
   e= .returned (.tuple #[])∧∃ d' n os,PermIn 0 d.size d d'∧SortedIn (ltOf cf) 0 d.size d'∧w'=sortWorldK enc k w blk off n d' os:=AnyQ.slices_SortFunc Tryz.laysSlF06_f80 k aE zE enc hk h1 cf hO g cb blk off cap d w eg hcmp hH hblk hsz
open Go.RowKit Go.Lib Go.Sort in
theorem Tryz.slices_SortFunc_none {α:Type} [Inhabited α] (p:Option Addr) (cap:Nat) (fv:Value) (w:World):
  Calls Tryz.prog 80 #[.slice p 0 cap,fv] w fun e w'=>e= .returned (.tuple #[])∧w'=w:=AnyF.slices_SortFunc_none Tryz.laysSlF06_f80 p cap fv w
end
end Go.Proofs
namespace Go.Proofs.YtjblkbkmblkgoaaGreat
section
open Go Go.Kn Go.Proofs
variable{v:Value}{n:Nat}
theorem zjf (e:Nat)(zs:List Int){L:Go.Kn.Loc}(hO:ZU e 1 v n (zs.map (Value.int .i64)) L)(hn:n≤1000000)(I:Qu):
  YE Tryz.prog 135 [v] I L (fun u I' L'=>u= .tuple #[]∧I'=I∧ZU e 1 v n ((zcV zs).map (Value.int .i64)) L'):=
 zv6 Tryz.slices_Sort_int Tryz.slices_Sort_int_none zs hO hn I
def zqO (b:Nat):Value:=.map (some b)
structure zgv (s:List (Int×Bool))(A:Int→Bool):Prop where
 nodup:(s.map (·.1)).Nodup
 all:∀ q∈s,q.2=true
 mem:∀ x,zpO s x=A x
theorem zgv.nil:zgv [] (fun _=>false):=⟨.nil,(fun q hq=>by cases hq),fun _=>rfl⟩
variable{s:List (Int×Bool)}{A:Int→Bool}
theorem zgv.put (h:zgv s A)(a:Int):zgv (JB s a true) (fun x=>decide (a=x)||A x) where
 nodup:=zkg a true h.nodup
 all:=by
  have key:∀ (s:List (Int×Bool)),(∀ q∈s,q.2=true)→∀ q∈JB s a true,q.2=true:=by
   intro s
   induction s with
   | nil=>intro _ q hq;simp [JB] at hq;rw [hq]
   | cons p s ih=>
    intro h q hq;unfold JB at hq;split at hq
    ·
     rcases List.mem_cons.1 hq with rfl | hq
     ·
      rfl
     ·
      exact h q (List.mem_cons_of_mem _ hq)
    ·
     rcases List.mem_cons.1 hq with rfl | hq
     ·
      exact h _ (List.mem_cons_self ..)
     ·
      exact ih (fun q hq=>h q (List.mem_cons_of_mem _ hq)) q hq
  exact key s h.all
 mem:=fun x=>by rw [zhQ,h.mem]
theorem zgv.congr {B:Int→Bool}(h:zgv s A)(e:∀ x,A x=B x):zgv s B:=⟨h.nodup,h.all,fun x=>by rw [h.mem,e]⟩
variable{x:Int}
theorem zgv.key (h:zgv s A):A x=true↔x∈s.map (·.1):=by
 rw [←h.mem];unfold zpO;constructor
 ·
  intro h1
  cases hg:ZQ s x with
  | none=>rw [hg] at h1;cases h1
  | some b=>exact List.mem_map.2 ⟨_,zdN hg,rfl⟩
 ·
  intro h1;obtain ⟨q,hq,rfl⟩:=List.mem_map.1 h1;rw [zvk h.nodup hq,h.all q hq];rfl
def OnS (I:Qu)(ref:Nat)(A:Int→Bool):Prop:=∃ s:List (Int×Bool),I ref=some (YH (Value.int .i64) Value.bool s)∧zgv s A
variable{I I':Qu}{ref:Nat}
theorem OnS.mono (h:OnS I ref A)(hI:HLe I I'):OnS I' ref A:=by
 obtain ⟨s,h1,h2⟩:=h;exact ⟨s,hI _ _ h1,h2⟩
def OnL (I:Qu)(m:List (Int×Nat))(ps:List Pt):Prop:=m.map (·.1)=ps.map (·.id)∧∀ q∈m,OnS I q.2 (onF ps q.1)
variable{m:List (Int×Nat)}{ps:List Pt}
theorem OnL.mono (h:OnL I m ps)(hI:HLe I I'):OnL I' m ps:=⟨h.1,fun q hq=>(h.2 q hq).mono hI⟩
theorem OnL.nil :OnL I [] (ps.take 0):=⟨by simp,fun q hq=>by cases hq⟩
def OnM (I:Qu)(r:Nat)(ps:List Pt):Prop:=∃ m:List (Int×Nat),I r=some (YH (Value.int .i64) zqO m)∧OnL I m ps
variable{r:Nat}
theorem OnM.mono (h:OnM I r ps)(hI:HLe I I'):OnM I' r ps:=by
 obtain ⟨m,h1,h2⟩:=h;exact ⟨m,hI _ _ h1,h2.mono hI⟩
variable{a:Int}
theorem OnL.get (h:OnL I m ps)(ha:∃ q∈ps,q.id=a):∃ ref,ZQ m a=some ref∧OnS I ref (onF ps a):=by
 cases hg:ZQ m a with
 | none=>
  have:=zcn.1 hg;rw [h.1] at this;obtain ⟨q,hq,rfl⟩:=ha;exact absurd (List.mem_map.2 ⟨q,hq,rfl⟩) this
 | some ref=>exact ⟨ref,rfl,h.2 _ (zdN hg)⟩
variable{k:Nat}{p:Pt}
theorem Lst.before (h:Lst ps)(hk:ps[k]? =some p){n:Int}(hn:n∈p.needs):∃ q∈ps.take k,q.id=n:=by
 obtain ⟨h1,q,hq,rfl⟩:=h.has p (List.mem_of_getElem? hk) n hn;obtain ⟨j,hj⟩:=List.getElem?_of_mem hq;obtain ⟨hj1,hj2⟩:=List.getElem?_eq_some_iff.1 hj;obtain ⟨hk1,hk2⟩:=List.getElem?_eq_some_iff.1 hk
 have hjk:j<k:=by
  rcases Nat.lt_or_ge j k with h3 | h3
  ·
   exact h3
  ·
   exfalso;by_cases e:k=j
   ·
    subst e;rw [hk] at hj;cases hj;omega
   ·
    have:=List.pairwise_iff_getElem.1 h.inc k j hk1 hj1 kB;rw [hj2,hk2] at this;omega
 refine ⟨q,?_,rfl⟩;rw [List.mem_take_iff_getElem];exact ⟨j,kB,hj2⟩
theorem Lst.fresh (h:Lst ps)(hk:ps[k]? =some p):∀ q∈ps.take k,q.id<p.id:=fun q hq=>by
 obtain ⟨j,hj,rfl⟩:=List.mem_take_iff_getElem.1 hq;obtain ⟨hk1,hk2⟩:=List.getElem?_eq_some_iff.1 hk;have:=List.pairwise_iff_getElem.1 h.inc j k kB hk1 kB;rw [hk2] at this;exact this
theorem OnL.step (hL:Lst ps)(hk:ps[k]? =some p)(hm:OnL I m (ps.take k))(hb:I ref=some (YH (Value.int .i64) Value.bool s))
  (hs:zgv s (fun x=>p.needs.any fun n=>n==x||onF (ps.take k) n x)):OnL I (JB m p.id ref) (ps.take (k+1)):=by
 have hfr:=hL.fresh hk
 have hnew:p.id∉m.map (·.1):=by
  rw [hm.1];intro h;obtain ⟨q,hq,e⟩:=List.mem_map.1 h;have:=hfr q hq;omega
 have hmi:JB m p.id ref=m++[(p.id,ref)]:=by
  refine zed m p.id ref 0 ?_;have:=zcn.2 hnew;rw [←zcf m p.id 0] at this;simpa using this
 rw [X7 hk];refine ⟨by rw [zb3,if_neg hnew,hm.1];simp,fun q hq=>?_⟩;rw [hmi] at hq;rcases List.mem_append.1 hq with hq | hq
 ·
  obtain ⟨s',h1,h2⟩:=hm.2 q hq;refine ⟨s',h1,h2.congr fun x=>?_⟩;have hne:q.1≠p.id:=fun e=>hnew (by rw [←e];exact List.mem_map.2 ⟨q,hq,rfl⟩);rw [zil (fun z hz=>by simp at hz;subst hz;exact fun e=>hne e.symm)]
 ·
  simp at hq;subst hq;exact ⟨s,hb,hs.congr fun x=>(zfO (fun z hz=>by cases hz)).symm⟩
def zvd (sn:List (Int×Bool))(seen:List Nat)(x:Int):Bool:=seen.any fun i=>(sn[i]?.map (·.1))==some x
theorem zpW (sn:List (Int×Bool))(x:Int):zvd sn [] x=false:=rfl
variable{sn:List (Int×Bool)}{seen:List Nat}{i:Nat}
theorem zli {p:Int×Bool}(hp:sn[i]? =some p)(x:Int):zvd sn (seen++[i]) x=(decide (p.1=x)||zvd sn seen x):=by
 unfold zvd;rw [List.any_append,Bool.eq_iff_iff];simp [hp,or_comm]
theorem zro (h:zgv sn A)(hall:∀ i p,sn[i]? =some p→i∈seen)(x:Int):zvd sn seen x=A x:=by
 rw [Bool.eq_iff_iff,h.key];unfold zvd;rw [List.any_eq_true];constructor
 ·
  rintro ⟨i,_,hi⟩
  cases hx:sn[i]? with
  | none=>rw [hx] at hi;simp at hi
  | some p=>rw [hx] at hi;simp at hi;exact List.mem_map.2 ⟨p,List.mem_of_getElem? hx,hi⟩
 ·
  intro hx;obtain ⟨p,hp,rfl⟩:=List.mem_map.1 hx;obtain ⟨i,hi⟩:=List.getElem?_of_mem hp;exact ⟨i,hall i p hi,by rw [hi];simp⟩
variable{av:Option Addr}{c:Nat}
theorem zq7 (hP:SlP I av n c ps)(hn:n≤100000)(hL:Lst ps)(hnd:∀ p∈ps,p.n≤100000):YE Tryz.prog 99 [.slice av n c] I [] (fun v I' L=>L=[]∧∃ r,v= .map (some r)∧OnM I' r ps):=by
 intro g H w hw;refine qe Tryz.func99 Tryz.ntmps99 hw ?_;have hIc:=zB6 I;refine zR (zA<|zN (zR<|Yl rfl rfl (fun r_10=>zA (zN (Qm (zR<|zM<|zQ KY<|zM (zN (Qw ?_))))))));refine zU [(3,_),(11,_),(12,_)] (fun T L0 mz E I' loc'=>∃ (k:Nat) (m:List (Int×Nat)),mz=n-k∧E=(13,.int .i64 k)::T∧HLe I I'∧[(r_10,YH (Value.int .i64) zqO m)]=loc'∧k≤n∧OnL I' m (ps.take k)) ?_ (h:=⟨0,[],rfl,rfl,zB6 _,rfl,Nat.zero_le _,OnL.nil⟩);rintro mz E J1 loc' ⟨k,m,rfl,rfl,hJ,rfl,hk,hm⟩;have hP:=hP.mono hJ;have hIc:=hIc.trans hJ;have hB0:=hJ;refine zR (zC (zN (Qm ?_)));refine zI ?_ ?_<;>intro hc14
 ·
  have hlt_k:k<n:=(by have h:=hc14;simp at h;omega);have hP1:=hP.1;obtain ⟨p,hp,hN⟩:=hP.at hlt_k;have hpm:=List.mem_of_getElem? hp;have hN:Sl J1 1 Z5 p.a p.n p.c p.needs:=hN;have hpn:=hnd p hpm;refine Qr (Qd (Qm (Qw (zR<|zV (QG rfl rfl KY kL (fun hg=>kB))<|zV (Qg rfl VW (fun hg=>by exact zB7 hP.1 hp) rfl)<|Qp zb0 rfl rfl (fun b_5=>zh U0<|zN (zR<|Yl rfl rfl (fun r_17=>zA (zN (Qm (zR<|zF ZZ ?_))))))))));refine zL Vy<|zQ Zb<|zM (zN (Qw ?_))
  refine zU [(3,_),(5,_),(6,_),(11,_),(12,_),(13,_),(19,_),(20,_)] (fun T L0 mz E I' loc'=>∃ (j:Nat) (s:List (Int×Bool)),mz=p.n-j∧E=(21,.int .i64 j)::T∧J1=I'∧[(r_17,YH (Value.int .i64) Value.bool s),(b_5,.cells (Xu p).toArray 39 (0,0)),(r_10,YH (Value.int .i64) zqO m)]=loc'∧j≤p.n∧zgv s (fun x=>(p.needs.take j).any fun n=>n==x||onF (ps.take k) n x)) ?_ (h:=⟨0,[],rfl,rfl,rfl,rfl,Nat.zero_le _,zgv.nil⟩);rintro mz E I' loc' ⟨j,s,rfl,rfl,rfl,rfl,hj,hs⟩;refine zR (zC (zN (Qm ?_)));refine zI ?_ ?_<;>intro hc22
  ·
   have hlt_j:j<p.n:=(by have h:=hc22;simp at h;omega);obtain ⟨y,hy⟩:=hN.at hlt_j;obtain ⟨ref,hget,sn,hsn,hsq⟩:=hm.get (hL.before hp (List.mem_of_getElem? hy));refine Qr (Qd (Qm (Qw (zR<|zV (QG rfl rfl Zb kL (fun hg=>kB))<|zV (Qc rfl Ql (fun hg=>by exact zBZ hN hy rfl))<|zA<|zN (zR ?_)))));refine zM ?_;refine zM<|YM (m:=s) (ek:=Value.int .i64) (ev:=Value.bool) (a:=y) true Xn Zd rfl rfl rfl rfl (by repeat (first | exact Upd.here | apply Upd.there | apply ZD))<|zN (zR ?_)
   refine zM ?_;refine zM ?_;refine zV (zag (m:=m) (ek:=Value.int .i64) (ev:=zqO) (a:=y) hget zeL Zd rfl rfl (fun _=>.inr kJ))<|zq0 (ek:=Value.int .i64) (ev:=Value.bool) (m:=sn) rfl Xn rfl rfl (.inl hsn) (fun b_30=>zN (Qw<|zU [(3,_),(5,_),(6,_),(11,_),(12,_),(13,_),(19,_),(20,_),(21,_),(30,_)] (fun T L0 mz E I' loc'=>∃ (seen:List Nat) (s:List (Int×Bool)),mz=sn.length-seen.length∧E=T∧J1=I'∧[(b_30,We ref sn.length seen),(r_17,YH (Value.int .i64) Value.bool s),(b_5,.cells (Xu p).toArray 39 (0,0)),(r_10,YH (Value.int .i64) zqO m)]=loc'∧zgv s (fun x=>zvd sn seen x||(decide (y=x)||(p.needs.take j).any fun n=>n==x||onF (ps.take k) n x))∧seen.Nodup∧∀ i∈seen,i<sn.length) ?_ (h:=⟨[],_,rfl,rfl,rfl,rfl,(hs.put y).congr (fun x=>by rw [zpW,Bool.false_or]),.nil,fun i h=>by cases h⟩)))
   rintro mz E I' loc' ⟨seen,s,rfl,rfl,rfl,rfl,hs,hnd2,hlt⟩;have hsl:=zoB hnd2 hlt;refine zR<|zpo (ek:=Value.int .i64) (ev:=Value.bool) (m:=sn) (fun s'=>[(b_30,We ref sn.length s'),(r_17,YH (Value.int .i64) Value.bool s),(b_5,.cells (Xu p).toArray 39 (0,0)),(r_10,YH (Value.int .i64) zqO m)]) rfl (fun s'=>.here) rfl rfl rfl rfl rfl (.inl hsn) kJ ?_
   intro t tv s' hno hyes;refine zN (Qm ?_);refine zI ?_ ?_<;>intro hc32
   ·
    obtain ⟨i,q,hq,hns,rfl⟩:=hyes hc32;refine Qr (Qd (Qw (zR<|zV (zpj (ek:=Value.int .i64) (ev:=Value.bool) (m:=sn) (p:=q) (seen:=seen) (i:=i) rfl (.inl hsn) (.inr kJ) hq)<|zE<|zA (zN (Qh<|zM ?_)))));refine zM<|YM (m:=s) (ek:=Value.int .i64) (ev:=Value.bool) (a:=q.1) true Xn Zd rfl rfl rfl rfl (by repeat (first | exact Upd.here | apply Upd.there | apply ZD))<|Qb (Qk ?_)
    have hnd3:(seen++[i]).Nodup:=List.nodup_append.2 ⟨hnd2,by simp,fun a ha b hb e=>hns (by simp at hb;subst hb;subst e;exact ha)⟩;have hlt3:∀ j∈seen++[i],j<sn.length:=fun j hj=>(List.mem_append.1 hj).elim (hlt j) (fun h=>by simp at h;subst h;exact (List.getElem?_eq_some_iff.1 hq).1);have hsl2:=zoB hnd3 hlt3;rw [List.length_append,List.length_singleton] at hsl2;exact zm (h:=⟨sn.length-(seen++[i]).length,by rw [List.length_append,List.length_singleton];omega,seen++[i],_,rfl,rfl,rfl,rfl,(hs.put q.1).congr (fun x=>by rw [zli hq,Bool.or_assoc]),hnd3,hlt3⟩)
   obtain ⟨rfl,hall⟩:=hno hc32;refine Zk (Qo (Qo (Qz (Qk (Qd (Qh (zB<|zM (Qb ?_))))))));exact zm (h:=⟨p.n-(j+1),kB,j+1,_,rfl,rfl,rfl,rfl,kB,hs.congr (fun x=>by rw [zbr hy,zro hsq hall x];rw [Bool.eq_iff_iff];simp;grind)⟩)
  have hge_j:p.n≤j:=(by have h:=hc22;simp at h;omega);refine Zk (Qo (Qo (Qz (Qd<|QF .here (fun I4 hI4 hb4=>?_)))));have hm:=hm.mono hI4;have hB0:=hB0.trans hI4;have hbx:=hb4;refine Qh (zM<|zF Yk ?_);refine zL Ql<|zM<|YM (m:=m) (ek:=Value.int .i64) (ev:=zqO) (a:=p.id) r_17 zeL Zd rfl rfl rfl rfl (by repeat (first | exact Upd.here | apply Upd.there | apply ZD))<|Qb (Qk (Qd (Qh (zB<|zM (Qb ?_)))))
  exact zm (h:=⟨n-(k+1),kB,k+1,_,rfl,rfl,hB0,rfl,kB,OnL.step hL hp hm hbx (by rw [ZR hN.len hge_j] at hs;exact hs)⟩)
 have hge_k:n≤k:=(by have h:=hc14;simp at h;omega);rw [ZR hP.len hge_k] at hm;refine Zk (Qo (Qo (Qz (Qd (zR (zM<|zA (zN (Qs ?_))))))));exact Qx rfl rfl (fun w hw=>by obtain ⟨I9,h91,h92,h93⟩:=hw.freezeAll;exact ⟨_,I9,[],rfl,hIc.trans h91,h92,rfl,r_10,rfl,m,h93 _ _ kJ,hm.mono h91⟩)
theorem zk5 (x:Sg):(zj0 [x]==0)=frm x:=by
 unfold zj0 skB skP;cases h:frm x<;>simp [h]
theorem zh7 (a b c d x y:Bool):(((((a&&b)&&c)&&d)&&x)&&y)=(((a&&b)&&(c&&d))&&(x&&y)):=by simp only [Bool.and_assoc]
theorem zr4 (a b c d x y z:Bool):((((((a&&b)&&c)&&d)&&x)&&y)&&z)=(((a&&b)&&(c&&d))&&(x&&(y&&z))):=by simp only [Bool.and_assoc]
theorem zsY (I:Qu)(x:Sg):ZJ Tryz.prog 162 [W6 x] I (.bool (frm x)):=by
 intro g H w hw;refine qe Tryz.func162 Tryz.ntmps162 hw ?_;have hIc:=zB6 I;refine zR<|QK rfl rfl rfl (fun b_1=>zA<|zN (zR<|zV (Qg rfl ZP (fun hg=>by exact Cells.g0) rfl)<|zpb [(0,_)] [zgr x] zlo (fun b_4=>QV .here (fun I1 hI1 hb1=>?_))))
 have hIc:=hIc.trans hI1;have hS:=Sl.lit [x] rfl zhY (show _=some (Obj.cells (([x]:List Sg).flatMap zgr).toArray 36 (0,0)) from hb1);refine qcV (vs:=[_]) rfl zvu (zxS hS kC)<|zC<|zA (zN (Qs ?_))
 exact zp hIc rfl rfl (by rw [zk5])
theorem zrA (p:Pt)(hN:Nd I p):ZJ Tryz.prog 96 [Uf p] I (.int .i64 (Uk p)):=by
 intro g H w hw;refine qe Tryz.func96 Tryz.ntmps96 hw ?_;have hN:Sl I 1 Z5 p.a p.n p.c p.needs:=hN;refine zR<|QK rfl rfl rfl (fun b_1=>zA (zN (Qm (zR<|zF ZZ ?_))))
 refine zL Vy<|zQ Zb<|zC (zN ?_)
 refine zI ?_ ?_<;>intro hc11
 ·
  have hlen:p.needs.length>32:=(by rw [hN.len];simp at hc11;omega);exact zR (zA (zN (Qs (Qf<|zr rfl rfl (by rw [zsf hlen])))))
 have hlen:¬p.needs.length>32:=(by rw [hN.len];simp at hc11;omega);have hpn:p.n≤100000:=(by have:=hN.len;omega);refine Qr (Qd (zR (zA (zN (Qm (zR<|zF ZZ ?_))))));refine zL Vy<|zQ Zb<|zM (zN (Qw ?_))
 refine zU [(1,_),(13,_),(14,_)] (fun T L0 mz E I' loc'=>∃ (k:Nat) (l:Int),mz=p.n-k∧E=(3,.int .i64 l)::(15,.int .i64 k)::T∧I=I'∧L0=loc'∧k≤p.n∧(List.range k).all (ndP p.id p.needs)=true∧zjD p.needs k l) ?_ (h:=⟨0,0,rfl,rfl,rfl,rfl,Nat.zero_le _,rfl,⟨fun _=>rfl,fun y hy h=>absurd rfl h⟩⟩);rintro mz E I' loc' ⟨k,l,rfl,rfl,rfl,rfl,hk,hall,hl⟩;refine zR (zC (zN (Qm ?_)));refine zI ?_ ?_<;>intro hc16
 ·
  have hlt_k:k<p.n:=(by have h:=hc16;simp at h;omega);obtain ⟨x,hx⟩:=hN.at hlt_k;refine Qr (Qd (Qm (Qw (zR<|zV (QG rfl rfl Zb kL (fun hg=>kB))<|zV (Qc rfl Ql (fun hg=>by exact zBZ hN hx rfl))<|zA (zN (Qm (zR<|zM ?_)))))));refine zM<|zC<|zM<|QI 3 rfl rfl rfl ?_
  refine zJ (Qe rfl) ?_;refine zJ (Qa rfl Yk) ?_;refine zJ (Qc rfl Ql (fun hg=>by exact Qy.h0 rfl))<|zJ (QA rfl rfl rfl)<|Q9 rfl rfl rfl rfl rfl<|zN ?_
  refine zI ?_ ?_<;>intro hc27
  ·
   have hnd:ndB p.id p.needs=false:=(by unfold ndB;exact Ka (k:=k) (by rw [hN.len];exact hlt_k) (by rw [zwu hall hl hx,hc27];rfl));exact zR (zA (zN (Qs (Qf (Qi (Qf (Qf<|Qi (Qf<|zr rfl rfl (by rw [zwU hlen hnd])))))))))
  refine Qr (Qd (Qh (zM<|zA (Qb (Qk (Qd (Qh<|zB<|zM (Qb ?_))))))));exact zm (h:=⟨p.n-(k+1),kB,k+1,_,rfl,rfl,rfl,rfl,kB,Ji hall (by rw [zwu hall hl hx,hc27];rfl),zdn hx⟩)
 have hge_k:p.n≤k:=(by have h:=hc16;simp at h;omega);have hnd:ndB p.id p.needs=true:=(by unfold ndB;rw [hN.len,show p.n=k by omega];exact hall);refine Zk (Qo (Qo (Qz (Qd (zR<|zF Yk ?_)))));refine zL Ql<|zC<|zM<|Qt 3 rfl rfl rfl ?_
 refine zK (Qa rfl Yk) ?_;refine zK (Qc rfl Ql (fun hg=>by exact Qy.h0 rfl)) ?_;refine zK (QA rfl rfl rfl) ?_;refine QE rfl rfl rfl rfl rfl<|zM<|Qt 8 rfl rfl rfl ?_
 refine zK (Qa rfl YK) ?_;refine zK (Qc rfl Ql (fun hg=>by exact Qy.h0 rfl)) ?_;refine zK (QA rfl rfl rfl) ?_;refine QE rfl rfl rfl rfl rfl<|zM<|Qt 13 rfl rfl rfl ?_
 refine zK (Qa rfl YK) ?_;refine zK (Qc rfl Ql (fun hg=>by exact Qy.h0 rfl)) ?_;refine zK (QA rfl rfl rfl) ?_;refine QE rfl rfl rfl rfl rfl<|zA (zN (Qm (zR<|zF JH ?_)))
 refine zL Ql<|zN (Qw (zR (zC<|zA (zN ?_))))
 refine zI ?_ ?_<;>intro hc50
 focus
  have hk:p.kind=1:=(by simpa using hc50);refine Qm (zR<|zF YI ?_);refine zL Ql<|zC<|zM<|QI 3 rfl rfl rfl ?_
  refine zJ (Qa rfl YI)<|zJ (Qc rfl Ql (fun hg=>by exact Qy.h0 rfl))<|zJ (QA rfl rfl rfl)<|Q9 rfl rfl rfl rfl rfl<|zN ?_
  refine zI ?_ ?_<;>intro hc59
  ·
   have hb:(idB p&&U7 p)=false:=zzJ hk (by unfold within;simp at hc59 ⊢;omega);exact zR (zA (zN (Qs (Qf (Qi (Qf<|zr rfl rfl (by rw [zfB hlen hnd hb])))))))
  have hf:isF p.field:=(by have h:=hc59;unfold isF;simp at h;omega);have hw1:within p.field 1 9=true:=(by have h:=hc59;unfold within;simp at h ⊢;omega);refine Qr (Qd (zR<|zV (QD (ps:=[(1,_)]) [_,_] zdq rfl rfl) ?_));refine zV (QD (ps:=[(0,_),(1,_)]) [_,_] zdq rfl rfl) ?_;refine zV (QD (ps:=[(3,_),(4,_),(10,_),(11,_)]) [_,_,_,_,_,_,_,_,_,_,_,_,_,_] XW rfl rfl)<|Qp zhH rfl rfl (fun b_7=>zh Jn<|zN (Qh (zM<|zM<|Qt 1 rfl rfl rfl ?_)))
  refine zK (Qa rfl YU)<|zK (Qg rfl ZP (fun hg=>by exact Cells.s1 (vs:=[_,_,_,_,_,_,_,_,_,_,_,_,_,_]) rfl) rfl) ?_
  refine zK (Qa rfl YI) ?_;refine zK (Qc rfl Ql (fun hg=>by exact Qy.h1 rfl))<|zK (QD (ps:=[]) [_,_,_,_,_,_,_,_,_,_,_,_,_,_] XW rfl rfl)<|qg (vs:=[_,_,_]) rfl zlH (fun hg=>zyT I p.nw p.field Kb hf)<|zK (QD (ps:=[]) [_,_,_,_,_,_,_,_,_,_,_,_,_,_] XW rfl rfl)<|zK (Ww rfl rfl Xb rfl)<|QE rfl rfl rfl rfl rfl<|zM<|Qt 11 rfl rfl rfl ?_
  refine zK (Qg rfl ZP (fun hg=>by exact Cells.g0) rfl) ?_;refine zK (Qa rfl YI) ?_;refine zK (Qc rfl Ql (fun hg=>by exact Qy.h1 rfl))<|zK (Qa rfl YU)<|zK (Qg rfl ZP (fun hg=>by exact Cells.s1 (vs:=[_,_,_,_,_,_,_,_,_,_,_,_,_,_]) rfl) rfl)<|qg (vs:=[_,_,_]) rfl zlH (fun hg=>zyT I zfe p.field p.nw hf)<|qg (vs:=[_]) rfl zoa (fun hg=>zsY I _)<|QE rfl rfl rfl rfl rfl<|zA (Qb (Qk (Qd (Qm (zR<|zM<|zO (zN ?_))))))
  refine zI ?_ ?_<;>intro hc119
  ·
   have hb:(idB p&&U7 p)=false:=(by (exact (show (idB p&&U7 p)=false from by rw [zuc hk hw1];exact (zh7 _ _ _ _ _ _).symm.trans ((Bool.not_eq_true' _).mp hc119))));exact zR (zA (zN (Qs (Qf<|zr rfl rfl (by rw [zfB hlen hnd hb])))))
  have hb:(idB p&&U7 p)=true:=by (exact (show (idB p&&U7 p)=true from by rw [zuc hk hw1];exact (zh7 _ _ _ _ _ _).symm.trans ((Bool.not_eq_false' _).mp hc119)))
 rotate_left
 have hk1:p.kind≠1:=(by simpa using hc50);refine zR (zC<|zA (zN ?_));refine zI ?_ ?_<;>intro hc83
 focus
  have hk:p.kind=2:=(by simpa using hc83);refine Qh (zM ?_);refine zM<|Qt 1 rfl rfl rfl ?_
  refine zK (Qa rfl YI) ?_;refine zK (Qc rfl Ql (fun hg=>by exact Qy.h0 rfl)) ?_;refine zK (QA rfl rfl rfl) ?_;refine QE rfl rfl rfl rfl rfl<|zM<|Qt 6 rfl rfl rfl ?_
  refine zK (Qa rfl YU)<|zK (Qa rfl JJ) ?_
  refine zK (Qc rfl Ql (fun hg=>by exact Qy.h0 rfl))<|zK (Qa rfl YK) ?_
  refine zK (Qc rfl Ql (fun hg=>by exact Qy.h0 rfl)) ?_;refine zK (QA rfl rfl rfl) ?_;refine QE rfl rfl rfl rfl rfl<|zM<|Qt 14 rfl rfl rfl ?_
  refine zK (Qa rfl YU)<|zK (Qg rfl ZP (fun hg=>by exact Cells.s0 (vs:=[_,_,_,_,_,_,_,_,_,_,_,_,_,_]) rfl) rfl)<|qg (vs:=[_]) rfl zoa (fun hg=>zsY I _)<|QE rfl rfl rfl rfl rfl<|zA (Qb (Qk (Qd (Qm (zR<|zM<|zO (zN ?_))))))
  refine zI ?_ ?_<;>intro hc119
  ·
   have hb:(idB p&&U7 p)=false:=(by (exact (show (idB p&&U7 p)=false from by rw [zub hk];exact (zr4 _ _ _ _ _ _ _).symm.trans ((Bool.not_eq_true' _).mp hc119))));exact zR (zA (zN (Qs (Qf<|zr rfl rfl (by rw [zfB hlen hnd hb])))))
  have hb:(idB p&&U7 p)=true:=by (exact (show (idB p&&U7 p)=true from by rw [zub hk];exact (zr4 _ _ _ _ _ _ _).symm.trans ((Bool.not_eq_false' _).mp hc119)))
 rotate_left
 have hk2:p.kind≠2:=(by simpa using hc83);refine zR (zC<|zA (zN ?_));refine zI ?_ ?_<;>intro hc104
 focus
  have hk:p.kind=3:=(by simpa using hc104);refine Qh (zM ?_);refine zM<|Qt 1 rfl rfl rfl ?_
  refine zK (Qa rfl YI) ?_;refine zK (Qc rfl Ql (fun hg=>by exact Qy.h0 rfl)) ?_;refine zK (QA rfl rfl rfl) ?_;refine QE rfl rfl rfl rfl rfl<|zM<|Qt 6 rfl rfl rfl ?_
  refine zK (Qa rfl YU)<|zK (Qg rfl ZP (fun hg=>by exact Cells.s0 (vs:=[_,_,_,_,_,_,_,_,_,_,_,_,_,_]) rfl) rfl)<|zK (QD (ps:=[]) [_,_,_,_,_,_,_,_,_,_,_,_,_,_] XW rfl rfl)<|zK (Ww rfl rfl Xb rfl)<|QE rfl rfl rfl rfl rfl<|zA (Qb (Qk (Qd (Qm (zR<|zM<|zO (zN ?_))))))
  refine zI ?_ ?_<;>intro hc119
  ·
   have hb:(idB p&&U7 p)=false:=(by (exact (show (idB p&&U7 p)=false from by rw [zuY hk];exact (zh7 _ _ _ _ _ _).symm.trans ((Bool.not_eq_true' _).mp hc119))));exact zR (zA (zN (Qs (Qf<|zr rfl rfl (by rw [zfB hlen hnd hb])))))
  have hb:(idB p&&U7 p)=true:=by (exact (show (idB p&&U7 p)=true from by rw [zuY hk];exact (zh7 _ _ _ _ _ _).symm.trans ((Bool.not_eq_false' _).mp hc119)))
 rotate_left
 have hk3:p.kind≠3:=(by simpa using hc104);refine Qh (zA (Qb (Qk (Qd (Qm (zR ?_))))));refine zM<|zO (zN ?_)
 refine zI ?_ ?_<;>intro hc119
 ·
  have hb:(idB p&&U7 p)=false:=(by exact zAh hk1 hk2 hk3);exact zR (zA (zN (Qs (Qf<|zr rfl rfl (by rw [zfB hlen hnd hb])))))
 have hb:(idB p&&U7 p)=true:=by (exfalso;have h:=hc119;simp at h)
 all_goals
  exact Qr (Qd (zR (zA (zN (Qs<|zr rfl rfl (by rw [zhR hlen hnd hb]))))))
variable{xs:List Int}{fid:Nat}{cap:List Value}{P:Int→Bool}
theorem zzX (hS:Sl I 1 Z5 av n c xs)(hn:n≤100000)(hF:Fun Tryz.prog fid)(hf:∀ x∈xs,ZJ Tryz.prog fid ([.int .i64 x]++cap) I (.bool (P x))):ZJ Tryz.prog 163 [.slice av n c,.func (.func fid) #[] cap.toArray] I (.int .i64 (zq5 P xs)):=by
 intro g H w hw;refine qe Tryz.func163 Tryz.ntmps163 hw ?_;have hS:=hS;refine zR (zA (zN (Qm (zR ?_))));refine zM<|zQ Zb<|zM (zN (Qw ?_))
 refine zU [(0,_),(1,_),(7,_)] (fun T L0 mz E I' loc'=>∃ (k:Nat),mz=n-k∧E=(8,.int .i64 k)::T∧I=I'∧L0=loc'∧k≤n∧(xs.take k).any P=false) ?_ (h:=⟨0,rfl,rfl,rfl,rfl,Nat.zero_le _,rfl⟩);rintro mz E I' loc' ⟨k,rfl,rfl,rfl,rfl,hk,hno⟩;refine zR (zC (zN (Qm ?_)));refine zI ?_ ?_<;>intro hc9
 ·
  have hlt_k:k<n:=(by have h:=hc9;simp at h;omega);obtain ⟨x,hx⟩:=hS.at hlt_k;refine Qr (Qd (Qm (Qw (zR (zM ?_)))));refine zA<|zN (zR ?_)
  refine zM ?_;refine zM ?_;refine zM ?_;refine zV (QG rfl rfl Zb kL (fun hg=>kB))<|zV (Qc rfl Ql (fun hg=>by exact zBZ hS hx rfl))<|V7 (cap:=cap) (vs:=[_]) rfl rfl hF (hf x (List.mem_of_getElem? hx)) rfl rfl<|zN ?_
  refine zI ?_ ?_<;>intro hc16
  ·
   exact zR (zM<|zA (zN (Qs (Qi (Qf (Qf (Qi (Qf<|zr rfl rfl (by rw [zgL hno hx hc16])))))))))
  exact Qr (Qk (Qd (Qh (zB<|zM (Qb<|zm (h:=⟨n-(k+1),kB,k+1,rfl,rfl,rfl,rfl,kB,U1 hx hno hc16⟩))))))
 have hge_k:n≤k:=(by have h:=hc9;simp at h;omega);exact Zk (Qo (Qo (Qz (Qd (zR (zA (zN<|Qs<|zr rfl rfl (by rw [zeo hS.len hge_k hno]))))))))
theorem zAW (hS:Sl I 1 Z5 av n c xs)(hn:n≤100000)(hF:Fun Tryz.prog fid)(hf:∀ x∈xs,ZJ Tryz.prog fid ([.int .i64 x]++cap) I (.bool (P x))):ZJ Tryz.prog 97 [.slice av n c,.func (.func fid) #[] cap.toArray] I (.bool (xs.any P)):=by
 intro g H w hw;refine qe Tryz.func97 Tryz.ntmps97 hw ?_;refine zR (zA<|zN (zR ?_));refine zM ?_;refine zM ?_;exact qcV (vs:=[_,_]) rfl ztH (zzX hS hn hF hf)<|zC<|zA (zN (Qs<|zr rfl rfl (by rw [←zgI])))
theorem zAC {b:Nat}(hb:I b=some (.cells #[.map (some r)] 143 (0,0)))(hr:I r=some (YH (Value.int .i64) Value.bool s))(x:Int):ZJ Tryz.prog 98 [.int .i64 x,.pointer (some ⟨b,0,none⟩)] I (.bool (!zpO s x)):=by
 intro g H w hw;refine qe Tryz.func98 Tryz.ntmps98 hw ?_;exact zR (zA<|zN (zR<|zV (Qc rfl zn3 (fun hg=>by exact .imm hb rfl))<|zM<|zV (Y7 Xn Zd rfl rfl (fun _=>.inl hr))<|zO<|zA (zN (Qs<|zr rfl rfl kW))))
theorem Zc:AgT Tryz.prog 45 45:=.of kA
theorem zb6:ElT Tryz.prog 63 41 5 40:=.of kA
theorem Vp:QM Tryz.prog 43 5 5:=.of kA
theorem zuD:Fun Tryz.prog 170:=.of Tryz.func170 kA kA
theorem zwc:Fun Tryz.prog 171:=.of Tryz.func171 kA kA
theorem Xp:Fun Tryz.prog 172:=.of Tryz.func172 kA kA
theorem zot:Fun Tryz.prog 37:=.of Tryz.func37 kA kA
theorem zrJ:Fun Tryz.prog 38:=.of Tryz.func38 kA kA
theorem zll:Fun Tryz.prog 40:=.of Tryz.func40 kA kA
theorem UB (x:Nt)(hN:Nd I x.pt):ZJ Tryz.prog 108 [J0 x] I (.bool (QN x)):=by
 intro g H w hw;refine qe Tryz.func108 Tryz.ntmps108 hw ?_;have hIc:=zB6 I;refine zR<|QK rfl rfl rfl (fun b_1=>zA (Qb<|QF .here (fun I1 hI1 hb1=>?_)))
 have hN:=hN.mono hI1;have hIc:=hIc.trans hI1;have h1:=BxI.of hb1;refine Qd (zR (zA (zN (Qm (zR<|zF Vu ?_)))));refine zV (Qc rfl Ql (fun hg=>by exact Qy.imm h1.out rfl))<|zN (Qw (zR (zC<|zA (zN ?_))))
 refine zI ?_ ?_<;>intro hc10
 ·
  have k1:x.kind=1:=(by simpa using hc10);refine Qm ?_;by_cases he:x.lm.ends=0
  ·
   have hlC:lmC x.lm=[x.lm]:=if_pos he;refine Qh<|zF Vt ?_
   refine zV (Qg rfl Km (fun hg=>by exact zeB (BxI.cells (vs:=Zf x) h1)) rfl)<|zpb [(0,_)] [_] Wx (fun b_14=>QV (by repeat (first | exact Z1.here | apply Z1.there)) (fun I2 hI2 hb2=>?_))
   have h1:=h1.mono hI2;have hIc:=hIc.trans hI2;have hF:=Sl.lit [x.lm] rfl Js (show I2 b_14=some (Obj.cells ([x.lm].flatMap Zz).toArray 32 (0,0)) from hb2);refine zA (zN (Qm (zR<|zF Vt<|zF Y0 ?_)));refine zV (Qc rfl Ql (fun hg=>by exact Qy.imm h1.out rfl))<|zA<|zN (zR ?_)
   refine zM<|zC (zN ?_)
   refine zI ?_ ?_<;>intro hc19
   ·
    exact absurd hc19 (by simp [he])
   refine Qr (Qd (Qh (zM ?_)));refine qcV (vs:=[_]) rfl zot (zlX hF kC)<|zA (Qb (Qk (Qd (zR<|zM<|zC<|zM<|Qt 2 rfl rfl rfl ?_))))
   refine zK (Qg rfl Zc (fun hg=>by exact BxI.cells (vs:=Zf x) h1) rfl)<|qg (vs:=[_]) rfl Xp (fun hg=>Xt x)<|QE rfl rfl rfl rfl rfl<|zA (zN (Qs ?_))
   first
   | exact zp hIc rfl rfl (by rw [QN,W7,if_pos k1,hlC]<;>rfl)
  have hlC:lmC x.lm=[⟨IntKind.i64.wrap (x.lm.ends-1),x.lm.person,0,0,0,0,3,0,1⟩,x.lm]:=if_neg he;refine Qh<|zF Vt ?_
  refine zV (Qg rfl Km (fun hg=>by exact zeB (BxI.cells (vs:=Zf x) h1)) rfl)<|zpb [(0,_)] [Zz x.lm] Wx (fun b_14=>zA (zN (Qm (zR<|zF Vt<|zF Y0 ?_))))
  refine zV (Qc rfl Ql (fun hg=>by exact Qy.imm h1.out rfl))<|zA<|zN (zR ?_)
  refine zM<|zC (zN ?_)
  refine zI ?_ ?_<;>intro hc19
  ·
   refine Qh (zM ?_);refine zM<|zV (U6 rfl rfl rfl)<|zF Vt<|zF Ju ?_
   refine zV (Qc rfl Ql (fun hg=>by exact Qy.imm h1.out rfl))<|zV (QD (ps:=[(0,_),(2,_)]) [_,_,_] zcq rfl rfl) ?_
   refine zV (QD (ps:=[(0,_),(1,_),(6,_)]) [_,_,_,_,_,_,_,_,_] zda rfl rfl)<|zpb [(0,_)] [Zz (⟨IntKind.i64.wrap (x.lm.ends-1),x.lm.person,0,0,0,0,3,0,1⟩)] Wx (fun b_28=>zpc [_,_,_] rfl zuD (.cons (.there .here) (.cons .here .nil)) (zlU (zdX (b:=b_14) (n:=1) (c:=1) (xs:=[x.lm]) (rest:=[]) rfl (Nat.le_refl _) kC kJ rfl) kC rfl (i:=0) kC b_28 (⟨IntKind.i64.wrap (x.lm.ends-1),x.lm.person,0,0,0,0,3,0,1⟩)) ?_)
   rintro vv3 I3 L3 hI3 ⟨rfl,hOi⟩;have h1:=h1.mono hI3;have hIc:=hIc.trans hI3;refine zA (zN<|zx4 hOi Js (fun I4 hI4 af4 cf4 ef4 hM=>?_));subst ef4;have h1:=h1.mono hI4;have hIc:=hIc.trans hI4;refine Qh (zM<|qcV (vs:=[_]) rfl zot (zlX hM kC)<|zA (Qb (Qk (Qd (zR<|zM<|zC<|zM<|Qt 2 rfl rfl rfl ?_)))));refine zK (Qg rfl Zc (fun hg=>by exact BxI.cells (vs:=Zf x) h1) rfl)<|qg (vs:=[_]) rfl Xp (fun hg=>Xt x)<|QE rfl rfl rfl rfl rfl<|zA (zN (Qs ?_))
   first
   | exact zp hIc rfl rfl (by rw [QN,W7,if_pos k1,hlC]<;>rfl)
  exact absurd hc19 (by simpa using he)
 have k1:¬x.kind=1:=(by simpa using hc10);refine zR (zC<|zA (zN ?_));refine zI ?_ ?_<;>intro hc32
 ·
  have k2:x.kind=2:=(by simpa using hc32);refine Qh<|zF YA ?_
  refine zV (Qg rfl VW (fun hg=>by exact za6 (BxI.cells (vs:=Zf x) h1)) rfl)<|qcV (vs:=[_]) rfl zs1 (zrA x.pt hN)<|zA (Qb (Qk (Qd (zR<|zM<|zC<|zM<|Qt 2 rfl rfl rfl ?_))))
  refine zK (Qg rfl Zc (fun hg=>by exact BxI.cells (vs:=Zf x) h1) rfl)<|qg (vs:=[_]) rfl Xp (fun hg=>Xt x)<|QE rfl rfl rfl rfl rfl<|zA (zN (Qs ?_))
  first
  | exact zp hIc rfl rfl (by rw [QN,W7,if_neg k1,if_pos k2]<;>rfl)
 have k2:¬x.kind=2:=(by simpa using hc32);refine zR (zC<|zA (zN ?_));refine zI ?_ ?_<;>intro hc37
 ·
  have k3:x.kind=3:=(by simpa using hc37);refine Qh<|zF V9 ?_
  refine zV (Qg rfl Kj (fun hg=>by exact zdG (BxI.cells (vs:=Zf x) h1)) rfl)<|zpb [(0,_)] [_] zb6 (fun b_41=>QV (by repeat (first | exact Z1.here | apply Z1.there)) (fun I5 hI5 hb5=>?_))
  have h1:=h1.mono hI5;have hIc:=hIc.trans hI5;have hF:=Sl.lit [x.ls] rfl L.encL_len (show I5 b_41=some (Obj.cells ([x.ls].flatMap L.encL).toArray 41 (0,0)) from hb5);refine qcV (vs:=[_]) rfl zrJ (L.w_check hF kC)<|zA (Qb (Qk (Qd (zR<|zM<|zC<|zM<|Qt 2 rfl rfl rfl ?_))))
  refine zK (Qg rfl Zc (fun hg=>by exact BxI.cells (vs:=Zf x) h1) rfl)<|qg (vs:=[_]) rfl Xp (fun hg=>Xt x)<|QE rfl rfl rfl rfl rfl<|zA (zN (Qs ?_))
  first
  | exact zp hIc rfl rfl (by rw [QN,W7,if_neg k1,if_neg k2,if_pos k3]<;>rfl)
 have k3:¬x.kind=3:=(by simpa using hc37);refine zR (zC<|zA (zN ?_));refine zI ?_ ?_<;>intro hc43
 ·
  have k4:x.kind=4:=(by simpa using hc43);refine Qm ?_;by_cases he:x.rt.ends=0
  ·
   have hlC:rtC x.rt=[x.rt]:=if_pos he;refine Qh<|zF YB ?_
   refine zV (Qg rfl Y6 (fun hg=>by exact zeb (BxI.cells (vs:=Zf x) h1)) rfl)<|zpb [(0,_)] [_] Wv (fun b_47=>QV (by repeat (first | exact Z1.here | apply Z1.there)) (fun I6 hI6 hb6=>?_))
   have h1:=h1.mono hI6;have hIc:=hIc.trans hI6;have hF:=Sl.lit [x.rt] rfl S.encR_len (show I6 b_47=some (Obj.cells ([x.rt].flatMap S.encR).toArray 43 (0,0)) from hb6);refine zA (zN (Qm (zR<|zF YB<|zF Vp ?_)));refine zV (Qc rfl Ql (fun hg=>by exact Qy.imm h1.out rfl))<|zA<|zN (zR ?_)
   refine zM<|zC (zN ?_)
   refine zI ?_ ?_<;>intro hc52
   ·
    exact absurd hc52 (by simp [he])
   refine Qr (Qd (Qh (zM ?_)));refine qcV (vs:=[_]) rfl zll (S.w_check hF kC)<|zA (Qb (Qk (Qd (zR<|zM<|zC<|zM<|Qt 2 rfl rfl rfl ?_))))
   refine zK (Qg rfl Zc (fun hg=>by exact BxI.cells (vs:=Zf x) h1) rfl)<|qg (vs:=[_]) rfl Xp (fun hg=>Xt x)<|QE rfl rfl rfl rfl rfl<|zA (zN (Qs ?_))
   first
   | exact zp hIc rfl rfl (by rw [QN,W7,if_neg k1,if_neg k2,if_neg k3,if_pos k4,hlC]<;>rfl)
  have hlC:rtC x.rt=[⟨IntKind.i64.wrap (x.rt.ends-1),1,0,0,0,0,⟨#[97]⟩,⟨#[97]⟩,0,0,0⟩,x.rt]:=if_neg he;refine Qh<|zF YB ?_
  refine zV (Qg rfl Y6 (fun hg=>by exact zeb (BxI.cells (vs:=Zf x) h1)) rfl)<|zpb [(0,_)] [S.encR x.rt] Wv (fun b_47=>zA (zN (Qm (zR<|zF YB<|zF Vp ?_))))
  refine zV (Qc rfl Ql (fun hg=>by exact Qy.imm h1.out rfl))<|zA<|zN (zR ?_)
  refine zM<|zC (zN ?_)
  refine zI ?_ ?_<;>intro hc52
  ·
   refine Qh (zM ?_);refine zM<|zV (U6 rfl rfl rfl)<|zV (QD (ps:=[(0,_),(1,_),(6,_),(7,_)]) [_,_,_,_,_,_,_,_,_,_,_] WT rfl rfl)<|zpb [(0,_)] [S.encR (⟨IntKind.i64.wrap (x.rt.ends-1),1,0,0,0,0,⟨#[97]⟩,⟨#[97]⟩,0,0,0⟩)] Wv (fun b_57=>zpc [_,_,_] rfl zwc (.cons (.there .here) (.cons .here .nil)) (zno (zeE (b:=b_47) (n:=1) (c:=1) (xs:=[x.rt]) (rest:=[]) rfl (Nat.le_refl _) kC kJ rfl) kC rfl (i:=0) kC b_57 (⟨IntKind.i64.wrap (x.rt.ends-1),1,0,0,0,0,⟨#[97]⟩,⟨#[97]⟩,0,0,0⟩)) ?_)
   rintro vv7 I7 L7 hI7 ⟨rfl,hOi⟩;have h1:=h1.mono hI7;have hIc:=hIc.trans hI7;refine zA (zN<|zx4 hOi S.encR_len (fun I8 hI8 af8 cf8 ef8 hM=>?_));subst ef8;have h1:=h1.mono hI8;have hIc:=hIc.trans hI8;refine Qh (zM<|qcV (vs:=[_]) rfl zll (S.w_check hM kC)<|zA (Qb (Qk (Qd (zR<|zM<|zC<|zM<|Qt 2 rfl rfl rfl ?_)))));refine zK (Qg rfl Zc (fun hg=>by exact BxI.cells (vs:=Zf x) h1) rfl)<|qg (vs:=[_]) rfl Xp (fun hg=>Xt x)<|QE rfl rfl rfl rfl rfl<|zA (zN (Qs ?_))
   first
   | exact zp hIc rfl rfl (by rw [QN,W7,if_neg k1,if_neg k2,if_neg k3,if_pos k4,hlC]<;>rfl)
  exact absurd hc52 (by simpa using he)
 have k4:¬x.kind=4:=(by simpa using hc43);refine Qr (Qk (Qd (zR (zM<|zC<|zM<|Qt 2 rfl rfl rfl ?_))));refine zK (Qg rfl Zc (fun hg=>by exact BxI.cells (vs:=Zf x) h1) rfl)<|qg (vs:=[_]) rfl Xp (fun hg=>Xt x)<|QE rfl rfl rfl rfl rfl<|zA (zN (Qs ?_))
 first
 | exact zp hIc rfl rfl (by rw [QN,W7,if_neg k1,if_neg k2,if_neg k3,if_neg k4]<;>rfl)
end
end Go.Proofs.YtjblkbkmblkgoaaGreat
namespace Go.Kn
section
open Go
def zjO (b:Nat)(x:Nat×Nat):Nat×Value:=(x.1,.pointer (some ⟨b,x.2,none⟩))
def zzV:List (Nat×Nat×Nat)→Nat→Nat→Option Nat
 | [],_,_=>none
 | (s,f,o)::l,s',f'=>if s=s'∧f=f' then some o else zzV l s' f'
def lkN:List (Nat×Nat)→Nat→Option Nat
 | [],_=>none
 | (t,o)::l,x=>if t=x then some o else lkN l x
def ztL (ft:List (Nat×Nat×Nat))(se:List (Nat×Nat)):Op→Option Nat
 | .move (.tmp x)=>lkN se x
 | .assign (.tmp x)=>lkN se x
 | .nilCheck (.tmp x)=>lkN se x
 | .fieldAddr s (.tmp x) f=>match lkN se x,zzV ft s f with | some o,some k=>some (o+k) | _,_=>none
 | _=>none
def zqS (P:Program)(ft:List (Nat×Nat×Nat)):Prop:=∀ s f o,(s,f,o)∈ft→QM P s f o
theorem zqS.nil {P:Program}:zqS P []:=fun _ _ _ h=>by cases h
theorem zqS.cons {P:Program}{s f o:Nat}{l:List (Nat×Nat×Nat)}(h:QM P s f o)(hl:zqS P l):zqS P ((s,f,o)::l):=fun a b c hm=>by
 rcases List.mem_cons.1 hm with e | hm
 ·
  cases e;exact h
 ·
  exact hl _ _ _ hm
theorem zjn {s f o:Nat}:∀ {ft:List (Nat×Nat×Nat)},zzV ft s f=some o→(s,f,o)∈ft
 | [],h=>by cases h
 | (a,c,d)::l,h=>by
  unfold zzV at h;split at h
  ·
   rename_i e;cases h;obtain ⟨rfl,rfl⟩:=e;exact List.mem_cons_self ..
  ·
   exact List.mem_cons_of_mem _ (zjn h)
theorem WC {b x o:Nat}{E:Env}:∀ {se:List (Nat×Nat)},lkN se x=some o→VT (se.map (zjO b)++E) x=some (.pointer (some ⟨b,o,none⟩))
 | [],h=>by cases h
 | (t,p)::l,h=>by
  unfold lkN at h;simp only [List.map_cons,List.cons_append,zjO];split at h
  ·
   rename_i e;cases h;subst e;simp [VT]
  ·
   rename_i e;have:=WC (b:=b) (E:=E) h
   have hb:t.beq x=false:=by
    cases hb:t.beq x with
    | false=>rfl
    | true=>exact absurd (Nat.eq_of_beq_eq_true hb) e
   simp only [VT,hb,cond_false];exact this
def zmo (se:List (Nat×Nat))(p:Nat×Operand):Option (Nat×Nat):=match p.2 with | .tmp x=>(lkN se x).map fun o=>(p.1,o) | _=>none
theorem zi4 {se:List (Nat×Nat)}{b:Nat}{E:Env}:∀ {l:List (Nat×Operand)} {pl:List (Nat×Nat)},l.map (zmo se)=pl.map some→l.map (fun p=>(QH [] (se.map (zjO b)++E) p.2).map fun v=>(p.1,v))=(pl.map (zjO b)).map some
 | [],[],_=>rfl
 | [],_::_,h=>by cases h
 | _::_,[],h=>by cases h
 | p::l,q::pl,h=>by
  simp only [List.map_cons,List.cons.injEq] at h ⊢;refine ⟨?_,zi4 h.2⟩;obtain ⟨k,x⟩:=p;have h1:=h.1;unfold zmo at h1;split at h1
  ·
   rename_i x' hx
   cases ho:lkN se x' with
   | none=>rw [ho] at h1;cases h1
   | some o=>
    rw [ho] at h1;simp only [Option.map_some,Option.some.injEq] at h1;subst h1;simp only at hx;subst hx;rw [show QH [] (se.map (zjO b)++E) (.tmp x')=VT (se.map (zjO b)++E) x' from rfl,WC ho];rfl
  ·
   cases h1
section
variable {C:Cx} {Q:Exit→Act→World→Prop} {ops:Array Oper} {I0:Qu} {loc0:Loc} {E:Env} {I:Qu} {loc:Loc}
theorem zyt {ft:List (Nat×Nat×Nat)}{se:List (Nat×Nat)}{b v:Nat}{o:Oper}(hf:zqS C.P ft)(h:ztL ft se o.op=some v):QZ C [] (se.map (zjO b)++E) I loc o (.pointer (some ⟨b,v,none⟩)):=by
 obtain ⟨dst,op,ty,pos,af,gd⟩:=o;simp only at h;unfold ztL at h;split at h
 ·
  exact Qe (WC h)
 ·
  exact QB (WC h)
 ·
  exact QC (WC h)
 ·
  split at h
  ·
   rename_i h1 h2;cases h;exact Qa (WC h1) (hf _ _ _ (zjn h2))
  ·
   cases h
 ·
  cases h
theorem zoN {fuel:Nat}{listed:Array Bool}(E':Env)(hE:Sub E' E)(h:XD C Q ops I0 loc0 fuel listed [] E' I loc):XD C Q ops I0 loc0 fuel listed [] E I loc:=fun a w ha hg hw=>h a w (ha.sub hE) hg hw
theorem zb7 {S:GS}{dst:Option Nat}{ty:TypeId}{pos:String}{af:Array Edge}{gd:Option (Nat×Bool)}{x:Operand}{t e size n b off:Nat}(hx:QH S E x=some (.pointer (some ⟨b,off,none⟩)))(hT:ArT C.P t n e size):
  QZ C S E I loc ⟨dst,.slice t x none none none,ty,pos,af,gd⟩ (.slice (some ⟨b,off,none⟩) n n):=
 .of kE fun a w ha hg hc _=>by
  obtain ⟨h1,j,h2,h3⟩:=hT;simp only [execOp,Option.map_none,Qj ha hg hc hx,Instr.sliceAt,Instr.sureAddr,Instr.sliceBounds,Sem.run_bind,Sem.run_pure,run_underlying h1,Result.andThen,run_sizeOf h2,Nat.zero_mul,Nat.sub_zero];congr 2;simp [Addr.add]
theorem zsF (loc':Loc){c:Code}(hp:loc'.Perm loc)(h:X C Q c E I loc'):X C Q c E I loc:=fun a w ha hw=>h a w ha (hw.permL hp)
def lst (n k:Nat):Array Bool:=(List.replicate k true++List.replicate (n-k) false).toArray
theorem zgV (n k j:Nat)(d:Bool)(hk:k≤n):(lst n k).getD j d=if j<k then true else if j<n then false else d:=by
 unfold lst;rw [Array.getD_eq_getD_getElem?,List.getElem?_toArray];by_cases h1:j<k
 ·
  rw [List.getElem?_append_left (by simpa using h1)];simp [h1]
 ·
  rw [List.getElem?_append_right (by simpa using Nat.le_of_not_lt h1)];by_cases h2:j<n
  ·
   have:j-k<n-k:=kB;simp [h1,h2,this]
  ·
   have:¬j-k<n-k:=kB;simp [h1,h2,this]
theorem zv7 (n k:Nat)(hk:k<n):(lst n k).setIfInBounds k true=lst n (k+1):=by
 apply Array.ext_getElem?;intro j;rw [Array.getElem?_setIfInBounds];unfold lst;simp only [List.getElem?_toArray,List.size_toArray,List.length_append,List.length_replicate];by_cases e:k=j
 ·
  subst e;rw [if_pos rfl,if_pos kB,List.getElem?_append_left kJ];simp
 ·
  rw [if_neg e];by_cases h1:j<k
  ·
   rw [List.getElem?_append_left (by simpa using h1),List.getElem?_append_left kV];simp [List.getElem?_replicate,h1];omega
  ·
   rw [List.getElem?_append_right kV,List.getElem?_append_right kV];simp only [List.length_replicate,List.getElem?_replicate];congr 1;simp only [eq_iff_iff];omega
def zpN (ops:Array Oper)(ft:List (Nat×Nat×Nat))(N:Nat):Nat→Nat→List Oper→List (Nat×Nat)→Option (List (Nat×Nat))
 | _,0,_,se=>some se
 | _,_+1,[],_=>none
 | k,m+1,o::l,se=>match o.dst,ztL ft se o.op with
   | some d,some v=>if (o.guard.isNone&&Nat.blt d N&&(o.after.all (fun e=> !Region.binds .any e||Nat.blt e.on k)&&l.all (fun oj=>oj.after.any (fun e=>Region.binds .any e&&e.on==k)||o.apart ops oj)))=true then zpN ops ft N (k+1) m l ((d,v)::se) else none
   | _,_=>none
theorem zpH (i:Nat){oi:Oper}{d:Nat}{v:Value}{fuel:Nat}{listed:Array Bool}(hi:ops[i]? =some oi)(hv:QZ C [] E I0 loc0 oi v)(hg:oi.guard=none)(hd:oi.dst=some d)(hN:Nat.blt d C.N=true)
  (hs:Region.noSelect ops=true)
  (hfr:∀ j oj,ops[j]? =some oj→j≠i→listed.getD j true=false→(∀ e∈oj.after,Region.binds .any e=true→e.on≠i)→oi.apart ops oj=true)
  (hr:i∈Region.ready .any ops listed)(hQ:Yo Q)(hI:HLe I0 I)(hl:Kk loc0 loc)
  (h:XD C Q ops I0 loc0 fuel (listed.setIfInBounds i true) [] ((d,v)::E) I loc):XD C Q ops I0 loc0 (fuel+1) listed [] E I loc:=by
 intro a w ha hgg hw;have hp:=ha.put hN v;refine Vl (v:=v) hi hv.1 (Region.noSelect_spec hs) (fun c a w=>by rw [hd];exact hQ c a d _ w) fuel listed a w hfr hr ?_ ((hw.mono hI).subL hl) (by rw [hd];exact h _ _ hp trivial hw);have hG:Zw ops [] E oi:=.none hg;have hwt:=hG.wanted ha (show KM [] a from trivial);exact .inl ⟨by rw [hwt];rfl,fun w' hw'=>hv.2 a w' ha trivial rfl hw'⟩
theorem zhG {ft:List (Nat×Nat×Nat)}(hf:zqS C.P ft)(hs:Region.noSelect ops=true)(hQ:Yo Q)(hI:HLe I0 I)(hl:Kk loc0 loc){b N n:Nat}(hN:N=C.N)(hn:ops.size=n):
  ∀ (m k:Nat) {l:List Oper} {se se':List (Nat×Nat)} {fuel:Nat},ops.toList.drop k=l→k+m≤n→zpN ops ft N k m l se=some se'→
   XD C Q ops I0 loc0 fuel (lst n (k+m)) [] (se'.map (zjO b)++E) I loc→XD C Q ops I0 loc0 (fuel+m) (lst n k) [] (se.map (zjO b)++E) I loc
 | 0,k,l,se,se',fuel,hk,hle,hr,h=>by
  simp only [zpN,Option.some.injEq] at hr;subst hr;exact h
 | m+1,k,[],se,se',fuel,hk,hle,hr,h=>by cases hr
 | m+1,k,o::l,se,se',fuel,hk,hle,hr,h=>by
  unfold zpN at hr;split at hr
  ·
   rename_i d v hd hv;split at hr
   ·
    rename_i hc;simp only [Bool.and_eq_true,Option.isNone_iff_eq_none] at hc;obtain ⟨⟨hg,hb⟩,hrd,hfr⟩:=hc;have hkn:k<n:=kB
    have hok:ops[k]? =some o:=by
     have:=congrArg (·[0]?) hk;simp only [List.getElem?_drop,Nat.add_zero,List.getElem?_cons_zero] at this;rwa [Array.getElem?_toList] at this
    have hl1:ops.toList.drop (k+1)=l:=by
     rw [←List.drop_drop,hk];rfl
    have h':XD C Q ops I0 loc0 (fuel+m) (lst n (k+1)) [] (((d,v)::se).map (zjO b)++E) I loc:=
     zhG hf hs hQ hI hl hN hn m (k+1) hl1 kB hr (by rw [show k+1+m=k+(m+1) by omega];exact h)
    refine zpH k hok (zyt hf hv) hg hd (hN ▸ hb) hs (fun j oj hj hne hun hno=>?_) (mem_ready.2 ⟨?_,o,hok,fun e he hbe=>?_⟩) hQ hI hl (by rw [zv7 n k hkn];exact h')
    ·
     rw [zgV n k j true kB] at hun;have hjn:j<n:=by rw [←hn];exact (Array.getElem?_eq_some_iff.1 hj).1
     have hjk:k<j:=by
      rcases Nat.lt_or_ge j k with h1 | h1
      ·
       rw [if_pos h1] at hun;cases hun
      ·
       omega
     have hm:oj∈l:=by
      rw [←hl1];refine List.mem_iff_getElem?.2 ⟨j-(k+1),?_⟩;rw [List.getElem?_drop,show k+1+(j-(k+1))=j by omega,Array.getElem?_toList];exact hj
     have h2:=List.all_eq_true.1 hfr oj hm;rw [Bool.or_eq_true] at h2;rcases h2 with h2 | h2
     ·
      obtain ⟨e,he,hb2⟩:=Array.any_eq_true'.1 h2;simp only [Bool.and_eq_true,beq_iff_eq] at hb2;exact absurd hb2.2 (hno e he hb2.1)
     ·
      exact h2
    ·
     rw [zgV n k k true kB,if_neg kB,if_pos hkn]
    ·
     have h2:=Array.all_eq_true_iff_forall_mem.1 hrd e he;rw [hbe] at h2;have h3:e.on<k:=(by simpa using h2);rw [zgV n k e.on false kB,if_pos h3]
   ·
    cases hr
  ·
   cases hr
theorem zkR {zv cv:Value}(h1:zv.cells= #[cv])(n:Nat):madeCells zv.cells n=(List.replicate n cv).toArray:=by
 rw [h1];apply Array.ext';have:∀ x:Nat,[cv][x % 1]?.getD default=cv:=fun x=>by rw [Nat.mod_one];rfl
 simp [madeCells,this,List.map_const']
def zBg (P:Program)(t e bytes:Nat)(zv cv:Value):Prop:=P.underlying t=some (.slice e)∧(P.info? e).map (fun i=>(i.zero,i.size,i.bytes))=some (some zv,1,bytes)∧zv.cells= #[cv]
theorem Kx {rest:List Oper}{dst:Nat}{ty:TypeId}{pos:String}{af:Array Edge}{gd:Option (Nat×Bool)}{x y:Operand}{t e bytes:Nat}{zv cv:Value}{n:Int}(hT:zBg C.P t e bytes zv cv)(hx:QH [] E x=some (.int .i64 n))(hy:QH [] E y=some (.int .i64 n))(hn:0≤n∧n≤1000000)(hb:bytes≤1000)
  (hG:gd=none)(hN:Nat.blt dst C.N=true)(h:∀ b,XO C Q ops rest [] ((dst,.slice (some ⟨b,0,none⟩) n.toNat n.toNat)::E) I ((b,.cells (List.replicate n.toNat cv).toArray e (0,0))::loc)):
  XO C Q ops (⟨some dst,.makeSlice t x y,ty,pos,af,gd⟩::rest) [] E I loc:=
 Ym hG kE fun a w ha hw=>by
  obtain ⟨hu,hi,h1⟩:=hT;rw [Option.map_eq_some_iff] at hi;obtain ⟨i,hi,he⟩:=hi;simp only [Prod.mk.injEq] at he;obtain ⟨hz,hs,hbt⟩:=he;have hr:=run_makeSlice (P:=C.P) (w:=w) t e i zv hu hi hz .i64 .i64 n n hn.1 kB (by rw [hs];omega) (by rw [hbt];exact Int.le_trans (Int.mul_le_mul (by omega:(bytes:Int)≤1000) hn.2 hn.1 kB) kC) kB;rw [hs,Nat.mul_one,zkR h1] at hr;simp only [execOp,Qj (S:=[]) ha trivial rfl hx,Qj (S:=[]) ha trivial rfl hy,Sem.run_bind,hr,Result.andThen,Sem.run_pure,Oper.uponIn_value];exact h _ _ _ (ha.put hN _) trivial (hw.alloc _)
end
end
end Go.Kn
namespace Go.Proofs.YtjblkbkmblkgoaaGreat
section
open Go Go.Kn Go.Proofs
theorem zmx:AgT Tryz.prog 185 42:=.of kA
theorem zgK:ArT Tryz.prog 185 42 184 1:=.of kA
theorem Ky:QM Tryz.prog 41 0 0:=.of kA
theorem zbm:QM Tryz.prog 41 1 1:=.of kA
theorem zbg:QM Tryz.prog 41 2 2:=.of kA
theorem zbh:QM Tryz.prog 41 3 3:=.of kA
theorem zbd:QM Tryz.prog 41 4 4:=.of kA
theorem Ve:QM Tryz.prog 43 0 0:=.of kA
theorem Jb:QM Tryz.prog 43 1 1:=.of kA
theorem YT:QM Tryz.prog 43 10 10:=.of kA
theorem JL:QM Tryz.prog 43 2 2:=.of kA
theorem Kr:QM Tryz.prog 43 3 3:=.of kA
theorem Kw:QM Tryz.prog 43 4 4:=.of kA
theorem KA:QM Tryz.prog 43 8 8:=.of kA
theorem JP:QM Tryz.prog 43 9 9:=.of kA
theorem zjR:zqS Tryz.prog [(45,1,1),(45,2,10),(45,3,29),(45,4,34)]:=.cons Vt (.cons YA (.cons V9 (.cons YB .nil)))
theorem zjA:zqS Tryz.prog [(45,0,0),(32,0,0),(32,1,1),(32,2,2),(32,3,3),(32,4,4),(32,5,5),(32,6,6),(30,0,0),(30,1,1),(30,2,2),(39,0,0),(39,1,1),(39,2,2),(39,3,3),(36,0,0),(36,1,1),(36,2,2),(36,3,3),(36,4,4),(36,5,5),(36,6,6),(36,7,7),(36,8,8),(36,9,9),(36,10,10),(34,0,0),(34,1,1),(36,11,12),(41,0,0),(41,1,1),(41,2,2),(41,3,3),(41,4,4),(43,0,0),(43,1,1),(43,2,2),(43,3,3),(43,4,4),(43,5,5),(43,8,8),(43,9,9),(43,10,10)]:=.cons Vu (.cons YV (.cons Ju (.cons Y0 (.cons WF (.cons KZ (.cons Kq (.cons JI (.cons X5 (.cons JS (.cons Kt (.cons Yk (.cons JH (.cons YK (.cons YI (.cons JJ (.cons UT (.cons UG (.cons UU (.cons zbk (.cons UK (.cons UW (.cons UJ (.cons UO (.cons UQ (.cons Jv (.cons Y2 (.cons Vr (.cons Jo (.cons Ky (.cons zbm (.cons zbg (.cons zbh (.cons zbd (.cons Ve (.cons Jb (.cons JL (.cons Kr (.cons Kw (.cons Vp (.cons KA (.cons JP (.cons YT .nil))))))))))))))))))))))))))))))))))))))))))
theorem zlJ:SzT Tryz.prog 185 42:=.of kA
theorem zlg:Vv Tryz.prog 185 (.agg #[(.pointer none),(.pointer none),(.pointer none),(.pointer none),(.pointer none),(.pointer none),(.pointer none),(.pointer none),(.pointer none),(.pointer none),(.pointer none),(.pointer none),(.pointer none),(.pointer none),(.pointer none),(.pointer none),(.pointer none),(.pointer none),(.pointer none),(.pointer none),(.pointer none),(.pointer none),(.pointer none),(.pointer none),(.pointer none),(.pointer none),(.pointer none),(.pointer none),(.pointer none),(.pointer none),(.pointer none),(.pointer none),(.pointer none),(.pointer none),(.pointer none),(.pointer none),(.pointer none),(.pointer none),(.pointer none),(.pointer none),(.pointer none),(.pointer none)]):=.of kA
set_option maxRecDepth 100000 in
set_option maxHeartbeats 4000000 in
theorem zji (I:Qu) (b:Nat):ZJ Tryz.prog 129 [ZI b] I (zBl b):=by
 intro g H w hw;refine qe Tryz.func129 Tryz.ntmps129 hw ?_;refine zR<|Qp zlg rfl rfl (fun b_2=>zN (Qm ?_))
 have hD:=zB6 I;refine Zn<|QJ I [] mixed<|zoN (([(0,0)]:List (Nat×Nat)).map (zjO b)++([(2,ZI b_2)]:Env)) (.cons rfl (.cons rfl (.nil))) ?_
 refine zhG (b:=b) (ft:=[(45,1,1),(45,2,10),(45,3,29),(45,4,34)]) (N:=157) (n:=16) zjR kA JW hD kH rfl rfl 16 0 (se:=[(0,0)]) (se':=[(6,34),(5,29),(4,10),(3,1),(19,34),(18,0),(17,0),(16,29),(15,0),(14,0),(13,10),(12,0),(11,0),(10,1),(9,0),(8,0),(0,0)]) (fuel:=0) (E:=([(2,ZI b_2)]:Env)) rfl kC kA ?_;refine Qn kA<|Qv<|Qd (zR (zM<|zV (QC rfl)<|zF YU<|zA (zN (Qm ?_))))
 have hD:=zB6 I;refine Zn<|QJ I [] mixed<|zoN (([(7,14),(6,34),(5,29),(4,10),(3,1),(0,0)]:List (Nat×Nat)).map (zjO b)++([(2,ZI b_2)]:Env)) (.cons rfl (.cons rfl (.cons rfl (.cons rfl (.cons rfl (.cons rfl (.cons rfl (.nil)))))))) ?_
 refine zhG (b:=b) (ft:=[(45,0,0),(32,0,0),(32,1,1),(32,2,2),(32,3,3),(32,4,4),(32,5,5),(32,6,6),(30,0,0),(30,1,1),(30,2,2),(39,0,0),(39,1,1),(39,2,2),(39,3,3),(36,0,0),(36,1,1),(36,2,2),(36,3,3),(36,4,4),(36,5,5),(36,6,6),(36,7,7),(36,8,8),(36,9,9),(36,10,10),(34,0,0),(34,1,1),(36,11,12),(41,0,0),(41,1,1),(41,2,2),(41,3,3),(41,4,4),(43,0,0),(43,1,1),(43,2,2),(43,3,3),(43,4,4),(43,5,5),(43,8,8),(43,9,9),(43,10,10)]) (N:=157) (n:=135) zjA kA JW hD kH rfl rfl 133 0 (se:=[(7,14),(6,34),(5,29),(4,10),(3,1),(0,0)]) (se':=[(155,44),(154,34),(153,34),(152,43),(151,34),(150,34),(149,42),(148,34),(147,34),(146,39),(145,34),(144,34),(143,38),(142,34),(141,34),(140,37),(139,34),(138,34),(137,36),(136,34),(135,34),(134,35),(133,34),(132,34),(131,34),(130,34),(129,34),(128,33),(127,29),(126,29),(125,32),(124,29),(123,29),(122,31),(121,29),(120,29),(119,30),(118,29),(117,29),(116,29),(115,29),(114,29),(113,27),(112,26),(111,14),(110,14),(109,26),(108,26),(107,14),(106,14),(105,25),(104,24),(103,14),(102,14),(101,24),(100,24),(99,14),(98,14),(97,23),(96,14),(95,14),(94,22),(93,14),(92,14),(91,21),(90,14),(89,14),(88,20),(87,14),(86,14),(85,19),(84,14),(83,14),(82,18),(81,14),(80,14),(79,17),(78,14),(77,14),(76,16),(75,14),(74,14),(73,15),(72,14),(71,14),(70,14),(69,14),(68,14),(67,13),(66,10),(65,10),(64,12),(63,10),(62,10),(61,11),(60,10),(59,10),(58,10),(57,10),(56,10),(55,9),(54,7),(53,1),(52,1),(51,8),(50,7),(49,1),(48,1),(47,7),(46,7),(45,1),(44,1),(43,6),(42,1),(41,1),(40,5),(39,1),(38,1),(37,4),(36,1),(35,1),(34,3),(33,1),(32,1),(31,2),(30,1),(29,1),(28,1),(27,1),(26,1),(25,0),(24,0),(23,0),(7,14),(6,34),(5,29),(4,10),(3,1),(0,0)]) (fuel:=2) (E:=([(2,ZI b_2)]:Env)) rfl kC kA ?_;refine zt0 133 rfl (VH (ps:=((List.range 42).zip zkr).map (zjO b)) (zvo b) zgK zlg (zi4 kA) kA) hD<|zoN [(156,zBl b),(2,ZI b_2)] (.cons rfl (.cons rfl .nil))<|qd 134 rfl ?_
 exact zh zlJ<|Qb<|zD hD<|Qn kA<|Qv<|Qd (Qs<|ZM rfl rfl zmx zB4 rfl (fun w hw=>⟨by rfl,hw.drop⟩))
variable{I:Qu}{av:Option Addr}{n c:Nat}
theorem zl1 {xs:List Int}(hS:Sl I 1 Z5 av n c xs)(hn:n≤100000):YE Tryz.prog 150 [.slice av n c] I [] (fun v I' L'=>∃ sv,v=zBH sv∧I'=I∧ZU 158 4 sv n ((xs.map vcI).flatMap Zg) L'):=by
 intro g H w hw;refine qe Tryz.func150 Tryz.ntmps150 hw ?_;have hln:=hS.len;refine zR<|Qp YG rfl rfl (fun b_2=>zN (zR<|zV (QD (ps:=[(0,_)]) [_,_,_,_] Vs rfl rfl)<|Qp YG rfl rfl (fun b_3=>zh Zx<|zN (Qm (zR (zM<|zQ Zb<|zM (zN (Qw ?_))))))))
 refine zU [(2,_),(3,_),(7,_),(8,_)] (fun T L0 mz E I' loc'=>∃ (k:Nat) (v:Value) (L:Go.Kn.Loc),mz=n-k∧E=(9,.int .i64 k)::T∧I=I'∧L++[(b_3,.cells #[.int .i64 3,.int .i64 0,.string ⟨#[]⟩,v] 158 (0,0)),(b_2,.cells (#[.int .i64 0,.int .i64 0,.string ⟨#[]⟩,.slice none 0 0]) 158 (0,0))]=loc'∧k≤n∧ZU 158 4 v k (((xs.take k).map vcI).flatMap Zg) L) ?_ (h:=⟨0,_,[],rfl,rfl,rfl,rfl,Nat.zero_le _,ZU.nil⟩);rintro mz E I' loc' ⟨k,v,L,rfl,rfl,rfl,rfl,hk,hO⟩;refine zR (zC (zN (Qm ?_)));refine zI ?_ ?_<;>intro hc10
 ·
  have hlt_k:k<n:=(by have h:=hc10;simp at h;omega);obtain ⟨x,hx⟩:∃ x,xs[k]? =some x:=⟨_,List.getElem?_eq_getElem kB⟩;refine Qr (Qd (Qm (Qw (zR<|zV (zX Zb hS)<|zV (Qc rfl Ql (fun hg=>by exact zBZ hS hx rfl))<|zA (zN (Qh<|zF QO ?_))))));refine zV (Qc rfl Zo (fun hg=>by (repeat (first | exact zB1 rfl | apply zB0 | apply zB2))))<|zM<|zV (QD (ps:=[(0,_),(1,_)]) [_,_,_,_] Vs rfl rfl)<|zpb [(0,_)] [Zg (vcI x)] ZG (fun b_17=>zpa (_) (([vcI x]:List Vc).flatMap Zg) (L) rfl rfl ZG hO ⟨rfl,fun _=>rfl,by repeat (first | exact zB4 | apply zB3 | apply zB5)⟩ (VS [vcI x]) ?_)
  intro v2 L2 hO2 _;rw [←List.flatMap_append] at hO2;obtain ⟨a2,c2,rfl⟩:=hO2.shape;refine zF QO ?_;refine zS YY<|Qb (Qk (Qd (Qh (zB<|zM (Qb ?_)))))
  exact zm (h:=⟨n-(k+1),kB,k+1,_,_,rfl,rfl,rfl,rfl,kB,by rw [Zs hx,List.map_append];exact hO2⟩)
 have hge_k:n≤k:=(by have h:=hc10;simp at h;omega);obtain rfl:k=n:=kB;obtain ⟨a3,c3,rfl⟩:=hO.shape;have hke:xs.take k=xs:=List.take_of_length_le kB;rw [hke] at hO;exact Zk (Qo (Qo (Qz (Qd (zR<|zV (Qg rfl Zm (fun hg=>by exact zB5 .here) rfl)<|zh Zx<|zN (Qs<|ZM rfl rfl Zm (zB5 (.there .here)) rfl (fun w hw=>⟨_,I,_,rfl,zB6 _,hw.subL QL,_,rfl,rfl,hO⟩)))))))
def Y9 (x:Nt):List Int:=[x.kind,x.lm.no,x.lm.person,x.lm.ends,x.lm.lo,x.lm.hi,x.lm.known,x.lm.ck,x.lm.cl,x.lm.cn,x.pt.id,x.pt.kind,x.pt.sign,x.pt.field,x.pt.nw.id,x.pt.nw.role,x.pt.nw.bar,x.pt.nw.mark,x.pt.nw.kind,x.pt.nw.side,x.pt.nw.dir,x.pt.nw.level,x.pt.nw.size,x.pt.nw.wth,x.pt.nw.fn,x.pt.nw.fd,x.pt.nw.tn,x.pt.nw.td,x.ls.no,x.ls.person,x.ls.version,x.ls.at_,x.ls.known,x.rt.no,x.rt.kind,x.rt.edition,x.rt.holder,x.rt.sign,x.rt.ends,x.rt.lo,x.rt.hi,x.rt.known]
theorem Y8 (x:Nt):(Y9 x).length=42:=rfl
theorem znZ (x:Nt):zkr.map (fun o=>(Zf x)[o]?)=(Y9 x).map (fun y=>some (.int .i64 y)):=rfl
variable{x:Nt}{k:Nat}{y:Int}
theorem zp6 (h:(Y9 x)[k]? =some y):(Zf x)[zkr.getD k 0]? =some (.int .i64 y):=by
 have e:=congrArg (·[k]?) (znZ x);simp only [List.getElem?_map,h,Option.map_some] at e
 cases ho:zkr[k]? with
 | none=>rw [ho] at e;cases e
 | some o=>
  rw [ho] at e;simp only [Option.map_some,Option.some.injEq] at e;rw [List.getD_eq_getElem?_getD,ho];exact e
variable{b:Nat}
theorem zm8 (hk:k<42):(zvo b)[k]? =some (.pointer (some ⟨b,zkr.getD k 0,none⟩)):=by
 unfold zvo;rw [List.getElem?_map,List.getD_eq_getElem?_getD];have:k<zkr.length:=hk;rw [List.getElem?_eq_getElem this];rfl
variable{loc:Go.Kn.Loc}{fz:Nat×Nat}
theorem zku {t:Nat}(h:BxI I b (.cells (Zf x).toArray t fz))(hk:(Y9 x)[k]? =some y):Qy I loc b (zkr.getD k 0) (.int .i64 y):=by
 have:=(BxI.cells (loc:=loc) (vs:=Zf x) h) _ _ (zp6 hk);rwa [Nat.zero_add] at this
def KQ (x:Nt):Va:=.list ((Y9 x).map .int++[.list (x.pt.needs.map .int),.text (Ur x.rt.name),.text (Ur x.rt.town)])
def V1 (x:Nt):List Nat:=Va.enc (KQ x)
def za7 (x:Nt):ByteArray:=UY (V1 x)
theorem XV (s:ByteArray):UY (Ur s)=s:=by
 unfold UY Ur;congr 1;rw [List.map_map];have:(UInt8.ofNat ∘ UInt8.toNat)=id:=by funext c;simp
 rw [this,List.map_id]
theorem zjj (xs:List Int)(k:Nat)(x:Va)(y:Vc)(hx:(xs.map Va.int)[k]? =some x)(hy:(xs.map vcI)[k]? =some y):VaR I x y:=by
 rw [List.getElem?_map] at hx hy
 cases h:xs[k]? with
 | none=>rw [h] at hx;cases hx
 | some n=>rw [h] at hx hy;cases hx;cases hy;exact .int n
theorem Xl {a7 a8:Option Addr}{c7 c8:Nat}(h7:Sl I 4 Zg a7 n c7 (x.pt.needs.map vcI))(h8:Sl I 4 Zg a8 45 c8 ((Y9 x).map vcI++[⟨3,0,⟨#[]⟩,a7,n,c7⟩,vcT x.rt.name,vcT x.rt.town])):VaR I (KQ x) ⟨3,0,⟨#[]⟩,a8,45,c8⟩:=by
 refine .list h8 kJ fun k u y hu hy=>?_;by_cases hk:k<42
 ·
  rw [List.getElem?_append_left (by rw [List.length_map,Y8];exact hk)] at hu hy;exact zjj _ k u y hu hy
 ·
  rw [List.getElem?_append_right (by simp [Y8];omega)] at hu hy;simp only [List.length_map,Y8] at hu hy
  match hj:k-42,hu,hy with
  | 0,hu,hy=>cases hu;cases hy;exact .list h7 kJ (zjj _)
  | 1,hu,hy=>cases hu;cases hy;have:=VaR.text (I:=I) (Ur x.rt.name);rwa [XV] at this
  | 2,hu,hy=>cases hu;cases hy;have:=VaR.text (I:=I) (Ur x.rt.town);rwa [XV] at this
  | _+3,hu,hy=>cases hu
theorem zdv (xs:List Int):Va.depthL (xs.map .int)=0:=by
 induction xs with
 | nil=>rfl
 | cons a l ih=>simp [Va.depthL,Va.depth,ih]
theorem zaj:∀ (a b:List Va),Va.depthL (a++b)=max (Va.depthL a) (Va.depthL b)
 | [],b=>by simp [Va.depthL]
 | x::a,b=>by simp [Va.depthL,zaj a b,Nat.max_assoc]
theorem JK (x:Nt):Va.depth (KQ x)≤16:=by
 unfold KQ;rw [Va.depth,zaj,zdv];simp [Va.depthL,Va.depth,zdv]
structure NtM (I:Qu)(x:Nt):Prop where
 nd:Nd I x.pt
 nn:x.pt.n≤100000
 ok:Va.ok (KQ x)
 len:(V1 x).length≤900000
variable{I':Qu}
theorem NtM.mono (h:NtM I x)(hI:HLe I I'):NtM I' x:=⟨h.nd.mono hI,h.nn,h.ok,h.len⟩
def zzT (a b:ByteArray):Int:=Lib.compareBytes a.data.toList b.data.toList
def Vm (x y:Nt):Int:=zzT (za7 x) (za7 y)
def zcQ (pre:List Nt)(x:Nt):Bool:= !QN x||(match pre.getLast? with | none=>false | some y=>decide (Vm y x≥0))
def zb8:List Nt→List Nt→Bool
 | _,[]=>true
 | pre,x::l=> !zcQ pre x&&zb8 (pre++[x]) l
def ZT (xs:List Nt):Bool:=zb8 [] xs&&decide (xs.length≤4096)
theorem zaa:∀ (xs pre:List Nt),zb8 pre xs=true↔ ∀ j y,xs[j]? =some y→zcQ (pre++xs.take j) y=false
 | [],pre=>by simp [zb8]
 | x::l,pre=>by
  rw [zb8,Bool.and_eq_true,zaa l];constructor
  ·
   rintro ⟨h1,h2⟩ j y hy
   cases j with
   | zero=>cases hy;simpa using h1
   | succ j=>have:=h2 j y hy;simpa [List.append_assoc] using this
  ·
   intro h;refine ⟨by have:=h 0 x rfl;simpa using this,fun j y hy=>?_⟩;have:=h (j+1) y hy;simpa [List.append_assoc] using this
variable{xs:List Nt}
theorem X4 (hx:xs[k]? =some x)(h:zcQ (xs.take k) x=true):ZT xs=false:=by
 unfold ZT
 cases hg:zb8 [] xs with
 | false=>rfl
 | true=>
  have:=(zaa xs []).1 hg k x hx;rw [List.nil_append,h] at this;cases this
theorem zea (h:∀ j y,j<xs.length→xs[j]? =some y→zcQ (xs.take j) y=false):ZT xs=decide ((xs.length:Int)≤4096):=by
 unfold ZT
 have:zb8 [] xs=true:=(zaa xs []).2 fun j y hy=>by
  rw [List.nil_append];exact h j y (List.getElem?_eq_some_iff.1 hy).1 hy
 rw [this,Bool.true_and];simp only [decide_eq_decide];omega
theorem zns {y:Nt}(hy:xs[k]? =some y):(xs.take (k+1)).getLast?=some y:=by
 rw [Zs hy];simp
structure WB (I:Qu)(av:Option Addr)(n c:Nat)(xs:List Nt):Prop where
 sl:Sl I 45 Zf av n c xs
 nd:∀ x∈xs,Nd I x.pt
 m:∀ x∈xs,QN x=true→NtM I x
theorem WB.mono (h:WB I av n c xs)(hI:HLe I I'):WB I' av n c xs:=⟨h.sl.mono hI,fun x hx=>(h.nd x hx).mono hI,fun x hx hf=>(h.m x hx hf).mono hI⟩
variable{pre:List Nt}
theorem zgh (h:QN x=false):zcQ pre x=true:=by simp [zcQ,h]
theorem zeH (h:QN x=true):zcQ [] x=false:=by simp [zcQ,h]
theorem UA {y:Nt}(h:QN x=true)(hk:0<k)(hy:xs[((k:Int)-1).toNat]? =some y):zcQ (xs.take k) x=decide (Vm y x≥0):=by
 have e:((k:Int)-1).toNat=k-1:=kB;rw [e] at hy;have:=zns hy;rw [show k-1+1=k by omega] at this;simp [zcQ,h,this]
theorem zcO (h:zcQ pre x=false):QN x=true:=by
 unfold zcQ at h
 cases hf:QN x with
 | true=>rfl
 | false=>rw [hf] at h;simp at h
theorem JN:QM Tryz.prog 43 6 6:=.of kA
theorem JO:QM Tryz.prog 43 7 7:=.of kA
theorem zm6:Fun Tryz.prog 129:=.of Tryz.func129 kA kA
theorem zgN:Fun Tryz.prog 150:=.of Tryz.func150 kA kA
theorem zhu:Fun Tryz.prog 151:=.of Tryz.func151 kA kA
theorem zmc (x:Nt)(hN:Nd I x.pt)(hnn:x.pt.n≤100000)(hok:Va.ok (KQ x))(hb:(V1 x).length≤900000):ZJ Tryz.prog 79 [J0 x] I (.string (za7 x)):=by
 intro g H w hw;refine qe Tryz.func79 Tryz.ntmps79 hw ?_;have hIc:=zB6 I;refine zR<|QK rfl rfl rfl (fun b_1=>zA (Qb<|QF .here (fun I1 hI1 hb1=>?_)))
 have hN:=hN.mono hI1;have hIc:=hIc.trans hI1;have h1:=BxI.of hb1;refine Qd (zR<|zpc [_] rfl zgN .nil (zl1 (xs:=[]) Sl.nil kC) ?_);rintro vv2 I2 L2 hI2 ⟨sv1,rfl,rfl,hO1⟩;have hN:=hN.mono hI2;have h1:=h1.mono hI2;have hIc:=hIc.trans hI2;obtain ⟨a1,c1,rfl⟩:=hO1.shape;refine Qp YG rfl rfl (fun b_3=>zh Zx<|zN (Qm (Qm<|zsF (_++[_]) (List.perm_append_singleton _ _)<|Qh<|qcV (vs:=[_]) rfl zm6 (zji _ _)<|zM (zN (Qw ?_)))));refine zU [(1,_),(3,_),(9,_)] (fun T L0 mz E I' loc'=>∃ (k:Nat) (v:Value) (L:Go.Kn.Loc),mz=42-k∧E=(10,.int .i64 k)::T∧I2=I'∧L++[(b_3,.cells #[.int .i64 3,.int .i64 0,.string ⟨#[]⟩,v] 158 (0,0))]=loc'∧k≤42∧ZU 158 4 v k ((((Y9 x).take k).map vcI).flatMap Zg) L) ?_ (h:=⟨0,_,_,rfl,rfl,rfl,rfl,Nat.zero_le _,by rw [List.append_nil];exact hO1⟩);rintro mz E I' loc' ⟨k,v,L,rfl,rfl,rfl,rfl,hk,hO⟩;refine zR (zC (zN (Qm ?_)));refine zI ?_ ?_<;>intro hc11
 ·
  have hlt_k:k<42:=(by have h:=hc11;simp at h;omega);obtain ⟨y,hy⟩:∃ y,(Y9 x)[k]? =some y:=⟨_,List.getElem?_eq_getElem (by rw [Y8];omega)⟩;refine Qr (Qd (Qm (Qw (zR<|zV (K1 rfl rfl zgK Wj (fun hg=>kB) (fun hg=>show (zvo b_1)[((k:Int)).toNat*1]? =some (.pointer (some ⟨b_1,zkr.getD k 0,none⟩)) by rw [Nat.mul_one,Int.toNat_natCast];exact zm8 kB))<|zA (zN ?_)))));have hD:=zB6 I2;refine Zn<|QJ I2 [] mixed<|zT 0 rfl (Qa rfl QO) hD<|zT 2 rfl (Qe rfl) hD<|zT 3 rfl (QC rfl) hD<|zT 4 rfl (Qc rfl Ql (fun hg=>by exact zku h1 hy)) hD<|zT 5 rfl (QD (ps:=[(0,_),(1,_)]) [_,_,_,_] Vs rfl rfl) hD ?_
  refine QU 1 6 rfl rfl kA ?_ ?_
  focus
   refine zV (Qc rfl Zo (fun hg=>by (repeat (first | exact zB1 rfl | apply zB0 | apply zB2))))<|Qb<|zD hD<|qd 6 rfl<|zpb [(0,_)] [Zg (vcI y)] ZG (fun b_19=>Qb<|zD hD<|qd 7 rfl<|zpa (_) (([vcI y]:List Vc).flatMap Zg) (L) rfl rfl ZG hO ⟨rfl,fun _=>rfl,by repeat (first | exact zB4 | apply zB3 | apply zB5)⟩ (VS [vcI y]) ?_)
  rotate_left
  refine zpb [(0,_)] [Zg (vcI y)] ZG (fun b_19=>Qb<|zD hD<|qd 1 rfl<|zV (Qc rfl Zo (fun hg=>by (repeat (first | exact zB1 rfl | apply zB0 | apply zB2))))<|Qb<|zD hD<|qd 7 rfl<|zpa (_) (([vcI y]:List Vc).flatMap Zg) (L) rfl rfl ZG hO ⟨rfl,fun _=>rfl,by repeat (first | exact zB4 | apply zB3 | apply zB5)⟩ (VS [vcI y]) ?_)
  all_goals
   intro v2 L2 hO2 _;rw [←List.flatMap_append] at hO2;obtain ⟨a2,c2,rfl⟩:=hO2.shape;refine Qb<|zD hD<|zT 8 rfl (Qa rfl QO) hD<|qd 9 rfl ?_
   refine zS YY ?_;refine Qb<|zD hD<|Qn kA<|Qv<|Qk (Qd (Qh (zB<|zM (Qb ?_))))
   exact zm (h:=⟨42-(k+1),kB,k+1,_,_,rfl,rfl,rfl,rfl,kB,by rw [Zs hy,List.map_append];exact hO2⟩)
 have hge_k:42≤k:=(by have h:=hc11;simp at h;omega);obtain rfl:k=42:=kB;obtain ⟨a3,c3,rfl⟩:=hO.shape;have hke:(Y9 x).take 42=Y9 x:=rfl;rw [hke] at hO;refine Zk (Qo (Qo (Qz (Qd (Qm ?_)))));have hD:=zB6 I2;refine Zn<|QJ I2 [] mixed<|zT 0 rfl (Qa rfl QO) hD<|zT 2 rfl (Qa rfl YA) hD<|zT 3 rfl (Qa rfl ZZ) hD<|zT 4 rfl (Qc rfl Vy (fun hg=>by exact Qy.imm h1.out rfl)) hD<|zT 6 rfl (Qa rfl YB) hD<|zT 7 rfl (Qa rfl JN) hD<|zT 8 rfl (Qc rfl VZ (fun hg=>by exact Qy.imm h1.out rfl)) hD<|zT 9 rfl (QD (ps:=[(0,_),(2,_)]) [_,_,_,_] Vs rfl rfl) hD<|zT 10 rfl (Qa rfl YB) hD<|zT 11 rfl (Qa rfl JO) hD ?_
 refine zT 12 rfl (Qc rfl VZ (fun hg=>by exact Qy.imm h1.out rfl)) hD<|zT 13 rfl (QD (ps:=[(0,_),(2,_)]) [_,_,_,_] Vs rfl rfl) hD ?_
 refine QU 1 5 rfl rfl kA ?_ ?_
 focus
  refine zV (Qc rfl Zo (fun hg=>by (repeat (first | exact zB1 rfl | apply zB0 | apply zB2))))<|Qb<|zD hD<|qd 5 rfl<|zpc [_] rfl zgN .nil (zl1 hN hnn) ?_
  rintro vv4 I4 L4 hI4 ⟨sv7,rfl,rfl,hO7⟩;have hIc:=hIc.trans hI4;have hD:=hD.trans hI4;obtain ⟨a7,c7,rfl⟩:=hO7.shape;refine Qb<|zD hD<|qd 14 rfl<|zpb [(0,_),(1,_),(2,_)] [Zg ⟨3,0,⟨#[]⟩,a7,x.pt.n,c7⟩,Zg (vcT x.rt.name),Zg (vcT x.rt.town)] ZG (fun b_37=>Qb<|zD hD<|qd 15 rfl<|zpa (_) (([⟨3,0,⟨#[]⟩,a7,x.pt.n,c7⟩,vcT x.rt.name,vcT x.rt.town]:List Vc).flatMap Zg) (L) rfl rfl ZG hO ⟨rfl,fun _=>rfl,by repeat (first | exact zB4 | apply zB3 | apply zB5)⟩ (VS [⟨3,0,⟨#[]⟩,a7,x.pt.n,c7⟩,vcT x.rt.name,vcT x.rt.town]) ?_)
 rotate_left
 refine zpc [_] rfl zgN .nil (zl1 hN hnn) ?_;rintro vv9 I9 L9 hI9 ⟨sv7,rfl,rfl,hO7⟩;have hIc:=hIc.trans hI9;have hD:=hD.trans hI9;obtain ⟨a7,c7,rfl⟩:=hO7.shape;refine Qb<|zD hD ?_
 refine QU 1 14 rfl rfl kA ?_ ?_
 focus
  refine zV (Qc rfl Zo (fun hg=>by (repeat (first | exact zB1 rfl | apply zB0 | apply zB2))))<|Qb<|zD hD<|qd 14 rfl<|zpb [(0,_),(1,_),(2,_)] [Zg ⟨3,0,⟨#[]⟩,a7,x.pt.n,c7⟩,Zg (vcT x.rt.name),Zg (vcT x.rt.town)] ZG (fun b_37=>Qb<|zD hD<|qd 15 rfl<|zpa (_) (([⟨3,0,⟨#[]⟩,a7,x.pt.n,c7⟩,vcT x.rt.name,vcT x.rt.town]:List Vc).flatMap Zg) (L) rfl rfl ZG hO ⟨rfl,fun _=>rfl,by repeat (first | exact zB4 | apply zB3 | apply zB5)⟩ (VS [⟨3,0,⟨#[]⟩,a7,x.pt.n,c7⟩,vcT x.rt.name,vcT x.rt.town]) ?_)
 rotate_left
 refine zpb [(0,_),(1,_),(2,_)] [Zg ⟨3,0,⟨#[]⟩,a7,x.pt.n,c7⟩,Zg (vcT x.rt.name),Zg (vcT x.rt.town)] ZG (fun b_37=>Qb<|zD hD<|qd 1 rfl<|zV (Qc rfl Zo (fun hg=>by (repeat (first | exact zB1 rfl | apply zB0 | apply zB2))))<|Qb<|zD hD<|qd 15 rfl<|zpa (_) (([⟨3,0,⟨#[]⟩,a7,x.pt.n,c7⟩,vcT x.rt.name,vcT x.rt.town]:List Vc).flatMap Zg) (L) rfl rfl ZG hO ⟨rfl,fun _=>rfl,by repeat (first | exact zB4 | apply zB3 | apply zB5)⟩ (VS [⟨3,0,⟨#[]⟩,a7,x.pt.n,c7⟩,vcT x.rt.name,vcT x.rt.town]) ?_)
 all_goals
  intro v8 L8 hO8 _;rw [←List.flatMap_append] at hO8;obtain ⟨a8,c8,rfl⟩:=hO8.shape;refine Qb<|zD hD<|zT 16 rfl (Qa rfl QO) hD<|qd 17 rfl ?_
  refine zS YY ?_;refine Qb<|zD hD<|Qn kA<|Qv<|Qd (Qm<|zx4 hO7 Vg (fun I14 hI14 af14 cf14 ef14 hM7=>?_))
  cases ef14;have hIc:=hIc.trans hI14;refine zx4 hO8 Vg (fun I15 hI15 af15 cf15 ef15 hM8=>?_);cases ef15;have hM7:=hM7.mono hI15;have hIc:=hIc.trans hI15;refine Qh<|zV (Qg rfl Zm (fun hg=>by exact Cells.g1) rfl)<|zpc [_] rfl zhu .nil (zee (x:=KQ x) (cv:=⟨3,0,⟨#[]⟩,a8,45,c8⟩) (Xl hM7 hM8) (JK x) hok hb) ?_
  rintro vv16 I16 L16 hI16 ⟨bv,rfl,hOb⟩;have hIc:=hIc.trans hI16;refine zM ?_;refine zE<|zE<|zA<|zA (zN (Qm<|zx4 hOb Vd (fun I17 hI17 af17 cf17 ef17 hB=>?_)))
  subst ef17;have hIc:=hIc.trans hI17;exact Qh (zM<|zV (Zv rfl bst (fun hg=>hB))<|zA (zN (Qs<|zp hIc rfl rfl kW)))
theorem ZK:QM Tryz.prog 59 0 0:=.of kA
theorem zbM:Fun Tryz.prog 108:=.of Tryz.func108 kA kA
theorem zvB:Fun Tryz.prog 154:=.of Tryz.func154 kA kA
theorem zeY:Fun Tryz.prog 79:=.of Tryz.func79 kA kA
theorem ze0:Fun Tryz.prog 81:=.of Tryz.func81 kA kA
theorem Y1:ScT Tryz.prog 57:=.of kA
theorem Vk:SzT Tryz.prog 45 45:=.of kA
theorem U2:Vv Tryz.prog 45 (.agg #[(.int .i64 0),(.int .i64 0),(.int .i64 0),(.int .i64 0),(.int .i64 0),(.int .i64 0),(.int .i64 0),(.int .i64 0),(.int .i64 0),(.int .i64 0),(.int .i64 0),(.int .i64 0),(.int .i64 0),(.int .i64 0),(.int .i64 0),(.int .i64 0),(.int .i64 0),(.int .i64 0),(.int .i64 0),(.int .i64 0),(.int .i64 0),(.int .i64 0),(.int .i64 0),(.int .i64 0),(.int .i64 0),(.int .i64 0),(.int .i64 0),(.int .i64 0),(.slice none 0 0),(.int .i64 0),(.int .i64 0),(.int .i64 0),(.int .i64 0),(.int .i64 0),(.int .i64 0),(.int .i64 0),(.int .i64 0),(.int .i64 0),(.int .i64 0),(.int .i64 0),(.string ⟨#[]⟩),(.string ⟨#[]⟩),(.int .i64 0),(.int .i64 0),(.int .i64 0)]):=.of kA
theorem zys (I:Qu)(a b:ByteArray):ZJ Tryz.prog 154 [.string a,.string b] I (.int .i64 (zzT a b)):=fun _g _H w hw=>(Tryz.strings_Compare a b w).mono fun _e _w' ⟨h1,h2⟩=>⟨h1,h2 ▸ hw⟩
theorem zgo {y:Nt}(hX:NtM I x)(hY:NtM I y):ZJ Tryz.prog 81 [J0 x,J0 y] I (.int .i64 (Vm x y)):=by
 intro g H w hw;refine qe Tryz.func81 Tryz.ntmps81 hw ?_;have hIc:=zB6 I;refine zR<|QK rfl rfl rfl (fun b_2=>QK rfl rfl rfl (fun b_3=>zA (Qb<|QF .here (fun I1 hI1 hb1=>?_))))
 have hX:=hX.mono hI1;have hY:=hY.mono hI1;have hIc:=hIc.trans hI1;have h2:=BxI.of hb1;refine QF .here (fun I2 hI2 hb2=>?_);have hX:=hX.mono hI2;have hY:=hY.mono hI2;have h2:=h2.mono hI2;have hIc:=hIc.trans hI2;have h1:=BxI.of hb2;refine Qd (Qm ?_);have hD:=zB6 I2;refine Zn<|QJ I2 [] mixed<|zT 0 rfl (Qg rfl Zc (fun hg=>by exact BxI.cells (vs:=Zf x) h1) rfl) hD<|zT 2 rfl (Qg rfl Zc (fun hg=>by exact BxI.cells (vs:=Zf y) h2) rfl) hD<|qd 1 rfl<|qcV (vs:=[_]) rfl zeY (zmc x hX.nd hX.nn hX.ok hX.len)<|Qb<|zD hD<|qd 3 rfl<|qcV (vs:=[_]) rfl zeY (zmc y hY.nd hY.nn hY.ok hY.len)<|Qb<|zD hD ?_
 exact qd 4 rfl<|qcV (vs:=[_,_]) rfl zvB (zys _ _ _)<|Qb<|zD hD<|zT 5 rfl (QB rfl) hD<|Qn kA<|Qv<|Qd (Qs<|zp hIc rfl rfl kW)
theorem zgC (hP:WB I av n c xs)(hn:n≤100000):ZJ Tryz.prog 61 [.agg #[.slice av n c]] I (.bool (ZT xs)):=by
 intro g H w hw;refine qe Tryz.func61 Tryz.ntmps61 hw ?_;have hIc:=zB6 I;have hln:=hP.sl.len;refine zR<|QK rfl rfl rfl (fun b_1=>zA (Qb<|QF .here (fun I1 hI1 hb1=>?_)))
 have hP:=hP.mono hI1;have hIc:=hIc.trans hI1;have h1:=BxI.of hb1;refine Qd (Qm (zR<|zF ZK ?_));refine zV (Qc rfl Y1 (fun hg=>by exact Qy.imm h1.out rfl))<|zQ Zj<|zM (zN (Qw ?_))
 refine zU [(1,_),(6,_),(7,_)] (fun T L0 mz E I' loc'=>∃ (k:Nat),mz=n-k∧E=(8,.int .i64 k)::T∧HLe I1 I'∧L0=loc'∧k≤n∧(∀ j y,j<k→xs[j]? =some y→zcQ (xs.take j) y=false)) ?_ (h:=⟨0,rfl,rfl,zB6 _,rfl,Nat.zero_le _,fun j y h=>absurd h (Nat.not_lt_zero _)⟩);rintro mz E J2 loc' ⟨k,rfl,rfl,hJ,rfl,hk,hall⟩;have hP:=hP.mono hJ;have h1:=h1.mono hJ;have hIc:=hIc.trans hJ;have hB0:=hJ;refine zR (zC (zN (Qm ?_)));refine zI ?_ ?_<;>intro hc9
 ·
  have hlt_k:k<n:=(by have h:=hc9;simp at h;omega);obtain ⟨x,hx⟩:∃ x,xs[k]? =some x:=⟨_,List.getElem?_eq_getElem kB⟩;have hxm:x∈xs:=List.mem_of_getElem? hx;refine Qr (Qd (Qm (Qw (zR (zM<|zV (QG rfl rfl Zj hP.sl (fun hg=>kB))<|zV (Qg rfl Zc (fun hg=>by exact zB7 hP.sl hx) rfl)<|Qp U2 rfl rfl (fun b_4=>?_))))));refine zA<|zh Vk<|Qb<|QF .here (fun I3 hI3 hb3=>?_)
  have hP:=hP.mono hI3;have h1:=h1.mono hI3;have hIc:=hIc.trans hI3;have hB0:=hB0.trans hI3;have h4:=BxI.of hb3;refine Qd (Qm ?_);rcases (show QN x=false∨(QN x=true∧k=0)∨(QN x=true∧0<k) by cases QN x<;>simp<;>omega) with hf | ⟨hf,hk⟩ | ⟨hf,hk⟩
  ·
   have hD:=zB6 I3;refine Zn<|QJ I3 [] mixed<|zT 0 rfl (Qg rfl Zc (fun hg=>by exact BxI.cells (vs:=Zf x) h4) rfl) hD<|qd 1 rfl<|qcV (vs:=[_]) rfl zbM (UB x (hP.nd x hxm))<|Qb<|zD hD<|zT 2 rfl (ZB rfl) hD ?_
   rw [hf];refine zT 3 rfl (Qe rfl) hD<|zW 4 16 hD ?_
   refine zW 5 16 hD ?_;refine zW 6 16 hD ?_;refine zW 7 19 hD ?_;refine zW 8 19 hD ?_;refine zW 9 19 hD ?_;refine zW 10 19 hD ?_;refine zW 11 19 hD ?_;refine zW 12 19 hD ?_;refine zW 13 19 hD ?_;refine zW 14 19 hD ?_;refine zW 15 19 hD ?_;refine zW 16 16 hD<|zT 17 rfl (Ye rfl rfl rfl) hD<|Qn kA<|Qv<|Qd ?_
   refine zI ?_ ?_<;>intro hc30
   ·
    have hbad:=zgh (pre:=xs.take k) hf;exact zR (zA (zN (Qs (Qi (Qf (Qf (Qi<|Qf<|zp hIc rfl rfl (by rw [X4 hx hbad]))))))))
   cases hc30
  focus
   have hk0:decide ((k:Int)>0)=false:=(by simp;omega);have hD:=zB6 I3;refine Zn<|QJ I3 [] mixed<|zT 0 rfl (Qg rfl Zc (fun hg=>by exact BxI.cells (vs:=Zf x) h4) rfl) hD<|qd 1 rfl<|qcV (vs:=[_]) rfl zbM (UB x (hP.nd x hxm))<|Qb<|zD hD<|zT 2 rfl (ZB rfl) hD ?_
   rw [hf];refine zT 3 rfl (Qe rfl) hD<|zw 4 16 rfl (Qe rfl) hD<|zw 5 16 rfl (QA rfl rfl rfl) hD ?_
   rw [hk0];refine zw 6 16 rfl (Qe rfl) hD<|zW 7 19 hD ?_
   refine zW 8 19 hD ?_;refine zW 9 19 hD ?_;refine zW 10 19 hD ?_;refine zW 11 19 hD ?_;refine zW 12 19 hD ?_;refine zW 13 19 hD ?_;refine zW 14 19 hD ?_;refine zW 15 19 hD ?_;refine zw 16 16 rfl (Ye rfl rfl rfl) hD<|zT 17 rfl (QY rfl rfl rfl) hD<|Qn kA<|Qv<|Qd ?_
   refine zI ?_ ?_<;>intro hc30
   ·
    cases hc30
   have hbad:zcQ (xs.take k) x=false:=by rw [hk];exact zeH hf
  rotate_left
  have hk0:decide ((k:Int)>0)=true:=(by simp;omega);obtain ⟨y,hy⟩:∃ y,xs[((k:Int)-1).toNat]? =some y:=⟨_,List.getElem?_eq_getElem kB⟩;have hym:y∈xs:=List.mem_of_getElem? hy;have hfy:=zcO (hall _ y kB hy);have hD:=zB6 I3;refine Zn<|QJ I3 [] mixed<|zT 0 rfl (Qg rfl Zc (fun hg=>by exact BxI.cells (vs:=Zf x) h4) rfl) hD<|qd 1 rfl<|qcV (vs:=[_]) rfl zbM (UB x (hP.nd x hxm))<|Qb<|zD hD<|zT 2 rfl (ZB rfl) hD ?_
  rw [hf];refine zT 3 rfl (Qe rfl) hD<|zw 4 16 rfl (Qe rfl) hD<|zw 5 16 rfl (QA rfl rfl rfl) hD ?_
  rw [hk0];refine zw 6 16 rfl (Qe rfl) hD<|zw 7 19 rfl (Qa rfl ZK) hD<|zw 8 19 rfl (Qc rfl Y1 (fun hg=>by exact Qy.imm h1.out rfl)) hD<|zw 9 19 rfl (Qe rfl) hD<|zw 10 19 rfl (Ya rfl rfl rfl (fun hg=>kB)) hD<|zw 11 19 rfl (QG rfl rfl Zj hP.sl (fun hg=>kB)) hD<|zw 12 19 rfl (Qg rfl Zc (fun hg=>by exact zB7 hP.sl hy) rfl) hD<|zw 13 19 rfl (Qg rfl Zc (fun hg=>by exact BxI.cells (vs:=Zf x) h4) rfl) hD<|qd 14 rfl<|QQ (dj:=19) rfl rfl rfl<|qcV (vs:=[_,_]) rfl ze0 (zgo (hP.m y hym hfy) (hP.m x hxm hf))<|Qb ?_
  refine zD hD<|zw 15 19 rfl (QA rfl rfl rfl) hD<|zw 16 16 rfl (QY rfl rfl rfl) hD<|zT 17 rfl (QY rfl rfl rfl) hD<|Qn kA<|Qv<|Qd ?_
  refine zI ?_ ?_<;>intro hc30
  ·
   have hbad:zcQ (xs.take k) x=true:=(UA hf hk hy).trans hc30;exact zR (zA (zN (Qs (Qi (Qf (Qf (Qi<|Qf<|zp hIc rfl rfl (by rw [X4 hx hbad]))))))))
  have hbad:zcQ (xs.take k) x=false:=(UA hf hk hy).trans hc30
  all_goals
   exact Qr (Qk (Qd (Qh (zB<|zM (Qb<|zm (h:=⟨n-(k+1),kB,k+1,rfl,rfl,hB0,rfl,kB,Vo hx hall hbad⟩))))))
 have hge_k:n≤k:=(by have h:=hc9;simp at h;omega);refine Zk (Qo (Qo (Qz (Qd (zR<|zF ZK ?_)))));exact zV (Qc rfl Y1 (fun hg=>by exact Qy.imm h1.out rfl))<|zQ Zj<|zC<|zA (zN (Qs<|zp hIc rfl rfl (by rw [zea (fun j y hj hy=>hall j y kB hy),hln])))
structure Pk where
 frm:Int
 to_:Int
 a:Option Addr
 n:Nat
 c:Nat
 data:List Nat
def Q6 (x:Pk):List Value:=[.int .i64 x.frm,.int .i64 x.to_,.slice x.a x.n x.c]
def KW (x:Pk):Value:=.agg (Q6 x).toArray
theorem QX (x:Pk):(Q6 x).length=3:=rfl
theorem YN (xs:List Pk):Y4 (xs.flatMap Q6)=true:=YR (fun _=>rfl) xs
def VI (l:Int×Int):List Value:=[.int .i64 l.1,.int .i64 l.2]
theorem zlN (l:Int×Int):(VI l).length=2:=rfl
def lkV (a b:Int):Bool:=(decide (a≥0)&&decide (a<b))&&decide (b<24)
def pkV (x:Pk):Bool:=lkV (zk8 x.frm x.to_) (zcU x.frm x.to_)&&decide ((x.n:Int)≤1048576)
def K6:List Int→List Int→Int
 | [],[]=>0
 | [],_::_=> -1
 | _::_,[]=>1
 | x::xs,y::ys=>if zga x y=0 then K6 xs ys else zga x y
variable{ys:List Int}
theorem zjX {xs:List Int}{x:Int}(hx:xs[k]? =some x)(hy:ys[k]? =some y)(h:zga x y=0):K6 (xs.drop k) (ys.drop k)=K6 (xs.drop (k+1)) (ys.drop (k+1)):=by
 obtain ⟨h1,e1⟩:=List.getElem?_eq_some_iff.1 hx;obtain ⟨h2,e2⟩:=List.getElem?_eq_some_iff.1 hy;rw [List.drop_eq_getElem_cons h1,List.drop_eq_getElem_cons h2,e1,e2,K6,if_pos h]
theorem znz {xs:List Int}{x:Int}(hx:xs[k]? =some x)(hy:ys[k]? =some y)(h:zga x y≠0):K6 (xs.drop k) (ys.drop k)=zga x y:=by
 obtain ⟨h1,e1⟩:=List.getElem?_eq_some_iff.1 hx;obtain ⟨h2,e2⟩:=List.getElem?_eq_some_iff.1 hy;rw [List.drop_eq_getElem_cons h1,List.drop_eq_getElem_cons h2,e1,e2,K6,if_neg h]
theorem zrr {xs:List Int}{x:Int}(hx:xs[k]? =some x)(h:ys.length≤k):K6 (xs.drop k) (ys.drop k)=1:=by
 obtain ⟨h1,e1⟩:=List.getElem?_eq_some_iff.1 hx;rw [List.drop_eq_getElem_cons h1,List.drop_eq_nil_of_le h,K6]
theorem zqw {xs:List Int}(h:xs.length≤k)(h2:k<ys.length):K6 (xs.drop k) (ys.drop k)= -1:=by
 rw [List.drop_eq_nil_of_le h,List.drop_eq_getElem_cons h2,K6]
theorem zrf {xs:List Int}(h:xs.length≤k)(h2:ys.length≤k):K6 (xs.drop k) (ys.drop k)=0:=by
 rw [List.drop_eq_nil_of_le h,List.drop_eq_nil_of_le h2,K6]
variable{ks:List (Int×Int)}{l:Int×Int}
theorem zui (h:Sl I 2 VI av n c ks)(hk:ks[k]? =some l):Sl I 1 Z5 (some ⟨Ab av,Ao av+k*2,none⟩) 2 2 [l.1,l.2]:=
 ⟨rfl,Nat.le_refl _,fun _=>rfl,fun i x hx j u hu=>by
  have h2:=h.cells k l hk i u (by
   match i,j,hx,hu with
   | 0,0,hx,hu=>cases hx;cases hu;rfl
   | 1,0,hx,hu=>cases hx;cases hu;rfl
   | 0,_+1,hx,hu=>cases hu
   | 1,_+1,hx,hu=>cases hu
   | _+2,_,hx,hu=>cases hx)
  have hj:j=0:=by
   match j,hu with
   | 0,_=>rfl
   | _+1,hu=>cases hu
  subst hj;show Qy I [] (Ab av) (Ao av+k*2+i*1+0) u
  rw [Nat.mul_one,Nat.add_zero];exact h2⟩
def zcX (pre:List (Int×Int))(l:Int×Int):Bool:= !lkV l.1 l.2||(match pre.getLast? with | none=>false | some y=>decide (K6 [y.1,y.2] [l.1,l.2]≥0))
def zgD:List (Int×Int)→List (Int×Int)→Bool
 | _,[]=>true
 | pre,x::l=> !zcX pre x&&zgD (pre++[x]) l
def Ud (qs:List Pk)(ks:List (Int×Int)):Int:=if decide ((qs.length:Int)>4096)||qs.any (fun x=> !pkV x) then 60 else if zgD [] ks then 0 else 60
theorem zcJ:∀ (xs pre:List (Int×Int)),zgD pre xs=true↔ ∀ j y,xs[j]? =some y→zcX (pre++xs.take j) y=false
 | [],pre=>by simp [zgD]
 | x::l,pre=>by
  rw [zgD,Bool.and_eq_true,zcJ l];constructor
  ·
   rintro ⟨h1,h2⟩ j y hy
   cases j with
   | zero=>cases hy;simpa using h1
   | succ j=>have:=h2 j y hy;simpa [List.append_assoc] using this
  ·
   intro h;refine ⟨by have:=h 0 x rfl;simpa using this,fun j y hy=>?_⟩;have:=h (j+1) y hy;simpa [List.append_assoc] using this
variable{qs:List Pk}
theorem zdK (h:(decide ((qs.length:Int)>4096)||qs.any (fun x=> !pkV x))=true):Ud qs ks=60:=if_pos h
theorem Xv {x:Int×Int}(h:(decide ((qs.length:Int)>4096)||qs.any (fun x=> !pkV x))=false)(hx:ks[k]? =some x)(hb:zcX (ks.take k) x=true):Ud qs ks=60:=by
 unfold Ud;rw [h,if_neg kJ]
 cases hg:zgD [] ks with
 | false=>rfl
 | true=>
  have:=(zcJ ks []).1 hg k x hx;rw [List.nil_append,hb] at this;cases this
theorem zgz (h:(decide ((qs.length:Int)>4096)||qs.any (fun x=> !pkV x))=false)(hall:∀ j y,j<ks.length→ks[j]? =some y→zcX (ks.take j) y=false):Ud qs ks=0:=by
 unfold Ud;rw [h,if_neg kJ,if_pos ((zcJ ks []).2 fun j y hy=>by rw [List.nil_append];exact hall j y (List.getElem?_eq_some_iff.1 hy).1 hy)]
theorem zgc {pre:List (Int×Int)}{x:Int×Int}(h:lkV x.1 x.2=false):zcX pre x=true:=by simp [zcX,h]
theorem ziz {x:Int×Int}(h:lkV x.1 x.2=true):zcX [] x=false:=by simp [zcX,h]
theorem zcx {xs:List (Int×Int)}{x y:Int×Int}(h:lkV x.1 x.2=true)(hk:0<k)(hy:xs[((k:Int)-1).toNat]? =some y):zcX (xs.take k) x=decide (K6 [y.1,y.2] [x.1,x.2]≥0):=by
 have e:((k:Int)-1).toNat=k-1:=kB;rw [e] at hy
 have hl:(xs.take k).getLast?=some y:=by
  rw [show k=k-1+1 by omega,Zs hy];simp
 simp [zcX,h,hl]
def Wf:Pk:=⟨0,0,none,0,0,[]⟩
def atE (qs:List Pk)(ks:List (Int×Int))(i:Int):Int:=if Ud qs ks != 0 then 60 else if decide (i<0)||decide (i≥(qs.length:Int)) then 1 else 0
def atP (qs:List Pk)(ks:List (Int×Int))(i:Int):Pk:=if atE qs ks i=0 then qs.getD i.toNat Wf else Wf
variable{i:Int}
theorem zBh (h:(Ud qs ks != 0)=true):atE qs ks i=60∧atP qs ks i=Wf:=by
 have:atE qs ks i=60:=by unfold atE;rw [h];rfl
 exact ⟨this,by unfold atP;rw [this];rfl⟩
theorem zBb (h:(Ud qs ks != 0)=false)(h2:(decide (i<0)||decide (i≥(qs.length:Int)))=true):atE qs ks i=1∧atP qs ks i=Wf:=by
 have:atE qs ks i=1:=by unfold atE;rw [h,h2];rfl
 exact ⟨this,by unfold atP;rw [this];rfl⟩
theorem zAk {x:Pk}(h:(Ud qs ks != 0)=false)(h2:(decide (i<0)||decide (i≥(qs.length:Int)))=false)(hx:qs[i.toNat]? =some x):atE qs ks i=0∧atP qs ks i=x:=by
 have:atE qs ks i=0:=by unfold atE;rw [h,h2];rfl
 exact ⟨this,by unfold atP;rw [this,if_pos rfl,List.getD_eq_getElem?_getD,hx];rfl⟩
def znk:Value:=.agg #[.slice none 0 0,.slice none 0 0]
theorem WL (h:atE qs ks i=0):0≤i∧i<(qs.length:Int):=by
 unfold atE at h;split at h
 ·
  cases h
 ·
  split at h
  ·
   cases h
  ·
   rename_i h2;simp at h2;omega
def zt9 (v y:Int×Int):Bool:=v.1==y.1&&v.2==y.2
def zjC (ks:List (Int×Int))(p:Pk):Bool:=ks.any (zt9 (zk8 p.frm p.to_,zcU p.frm p.to_))
def KH (qs:List Pk)(ks:List (Int×Int))(x:Pk):Int:=if (Ud qs ks != 0|| !pkV x)=true then 60 else if ((qs.length:Int)==4096)=true then 2 else 0
theorem zsL {x:Pk}(h:(Ud qs ks != 0|| !pkV x)=true):KH qs ks x=60:=if_pos h
theorem zst {x:Pk}(h:(Ud qs ks != 0|| !pkV x)=false)(h2:((qs.length:Int)==4096)=true):KH qs ks x=2:=by unfold KH;rw [h,h2];rfl
theorem ziJ {x:Pk}(h:(Ud qs ks != 0|| !pkV x)=false)(h2:((qs.length:Int)==4096)=false):KH qs ks x=0:=by unfold KH;rw [h,h2];rfl
def zdC (I:Qu)(e:Int)(a:Option Addr)(m c:Nat)(a2:Option Addr)(m2 c2:Nat)(qs:List Pk)(aa:Option Addr)(an ac:Nat):Prop:=
 (e≠0∧a=none∧m=0∧c=0∧a2=none∧m2=0∧c2=0)∨(e=0∧a2=aa∧m2=an∧c2=ac∧Sl I 3 Q6 a m c qs)
variable{e:Int}{a a2 aa:Option Addr}{m an ac:Nat}
theorem zdC.mono {m2 c2:Nat}(h:zdC I e a m c a2 m2 c2 qs aa an ac)(hI:HLe I I'):zdC I' e a m c a2 m2 c2 qs aa an ac:=h.imp id fun ⟨h1,h2,h3,h4,h5⟩=>⟨h1,h2,h3,h4,h5.mono hI⟩
theorem KK (h:e≠0):zdC I e none 0 0 none 0 0 qs aa an ac:=.inl ⟨h,rfl,rfl,rfl,rfl,rfl,rfl⟩
theorem Wc (h:e=0)(hS:Sl I 3 Q6 a m c qs):zdC I e a m c aa an ac qs aa an ac:=.inr ⟨h,rfl,rfl,rfl,hS⟩
def UE (qs:List Pk)(ks:List (Int×Int))(i:Int):Int:=if atE qs ks i=0 then KH qs ks (atP qs ks i) else atE qs ks i
def VN (qs:List Pk)(ks:List (Int×Int))(i:Int):Pk:=if zjC ks (atP qs ks i)=true then Wf else atP qs ks i
theorem ziO (h:zjC ks (atP qs ks i)=true):VN qs ks i=Wf:=if_pos h
theorem zkP (h:zjC ks (atP qs ks i)=false):VN qs ks i=atP qs ks i:=if_neg (by rw [h];simp)
theorem zdC.ok {m2 c2:Nat}(h:zdC I e a m c a2 m2 c2 qs aa an ac)(he:e=0):a2=aa∧m2=an∧c2=ac∧Sl I 3 Q6 a m c qs:=by
 rcases h with ⟨h,_⟩ | ⟨_,h⟩
 ·
  exact absurd he h
 ·
  exact h
structure Ev where
 kind:Int
 peer:Int
 to_:Int
 at_:Int
 note:Nt
def U3 (x:Ev):List Value:=.int .i64 x.kind:: .int .i64 x.peer:: .int .i64 x.to_:: .int .i64 x.at_::Zf x.note
theorem zum:AgT Tryz.prog 180 2:=.of kA
theorem YO:AgT Tryz.prog 99 3:=.of kA
theorem zbF:ArT Tryz.prog 180 2 3 1:=.of kA
theorem Jw:QM Tryz.prog 99 0 0:=.of kA
theorem VO:QM Tryz.prog 99 1 1:=.of kA
theorem JR:QM Tryz.prog 99 2 2:=.of kA
theorem zl9:Fun Tryz.prog 125:=.of Tryz.func125 kA kA
theorem zen:Fun Tryz.prog 126:=.of Tryz.func126 kA kA
theorem zkS:Fun Tryz.prog 179:=.of Tryz.func179 kA kA
theorem zuK:Fun Tryz.prog 182:=.of Tryz.func182 kA kA
theorem Q0:SlT Tryz.prog 23 99 3:=.of kA
theorem zs6:SzT Tryz.prog 180 2:=.of kA
theorem zsT:Vv Tryz.prog 180 (.agg #[(.int .i64 0),(.int .i64 0)]):=.of kA
theorem ze5 (I:Qu)(a b:Int):ZJ Tryz.prog 179 [.int .i64 a,.int .i64 b] I (.agg #[.int .i64 (zk8 a b),.int .i64 (zcU a b)]):=by
 intro g H w hw;refine qe Tryz.func179 Tryz.ntmps179 hw ?_;refine zR<|Qp zsT rfl rfl (fun b_4=>zN (zR ?_))
 refine zM ?_;refine zM<|zV (zrK rfl rfl)<|zM ?_
 exact zM<|zV (VG rfl rfl)<|zV (VH (ps:=[(0,_),(1,_)]) [_,_] zbF zsT rfl rfl)<|zh zs6<|zN (Qs<|ZM rfl rfl zum zB4 rfl (fun w hw=>⟨by rfl,hw.drop⟩))
theorem zqx (I:Qu)(a b:Int):ZJ Tryz.prog 126 [.agg #[.int .i64 a,.int .i64 b]] I (.bool (lkV a b)):=by
 intro g H w hw;refine qe Tryz.func126 Tryz.ntmps126 hw ?_;refine zR<|QK rfl rfl rfl (fun b_1=>zA<|zN (zR<|zV (Q8 rfl rfl zbF (fun hg=>by decide))<|zL Ql<|zC<|zM<|Qt 3 rfl rfl rfl<|zK (Q8 rfl rfl zbF (fun hg=>by decide))<|zK (Qc rfl Ql (fun hg=>by exact Qy.h0 rfl))<|zK (Q8 rfl rfl zbF (fun hg=>by decide)) ?_))
 refine zK (Qc rfl Ql (fun hg=>by exact Qy.h0 rfl)) ?_;refine zK (QA rfl rfl rfl) ?_;refine QE rfl rfl rfl rfl rfl ?_;refine zM ?_;refine Qt 10 rfl rfl rfl ?_;refine zK (Q8 rfl rfl zbF (fun hg=>by decide)) ?_;refine zK (Qc rfl Ql (fun hg=>by exact Qy.h0 rfl)) ?_;refine zK (QA rfl rfl rfl) ?_;exact QE rfl rfl rfl rfl rfl<|zA (zN (Qs<|zr rfl rfl kW))
theorem zij (I:Qu)(x:Pk):ZJ Tryz.prog 125 [KW x] I (.bool (pkV x)):=by
 intro g H w hw;refine qe Tryz.func125 Tryz.ntmps125 hw ?_;refine zR<|QK rfl rfl rfl (fun b_1=>zA<|zN (zR<|zF Jw ?_))
 refine zL Ql<|zF VO ?_
 refine zL Ql<|qcV (vs:=[_,_]) rfl zkS (ze5 _ _ _)<|qcV (vs:=[_]) rfl zen (zqx _ _ _)<|zM<|Qt 6 rfl rfl rfl ?_
 refine zK (Qa rfl JR) ?_;refine zK (Qc rfl V5 (fun hg=>by exact Qy.h0 rfl)) ?_;refine zK (QT rfl Kc) ?_;refine zK (QA rfl rfl rfl) ?_;exact QE rfl rfl rfl rfl rfl<|zA (zN (Qs<|zr rfl rfl kW))
theorem zuX (I:Qu)(x:Pk):ZJ Tryz.prog 124 [KW x] I (.bool (!pkV x)):=by
 intro g H w hw;refine qe Tryz.func124 Tryz.ntmps124 hw ?_;exact zR<|QK rfl rfl rfl (fun b_1=>zA<|zN (zR<|zV (Qg rfl YO (fun hg=>by exact Cells.g0) rfl)<|qcV (vs:=[_]) rfl zl9 (zij _ x)<|zO<|zA (zN (Qs<|zr rfl rfl kW))))
variable{fid:Nat}{cap:List Value}{P:Pk→Bool}
theorem zxR {xs:List Pk}(hS:Sl I 3 Q6 av n c xs)(hn:n≤100000)(hF:Fun Tryz.prog fid)(hf:∀ x∈xs,ZJ Tryz.prog fid ([KW x]++cap) I (.bool (P x))):ZJ Tryz.prog 182 [.slice av n c,.func (.func fid) #[] cap.toArray] I (.int .i64 (zq5 P xs)):=by
 intro g H w hw;refine qe Tryz.func182 Tryz.ntmps182 hw ?_;refine zR (zA (zN (Qm (zR ?_))));refine zM<|zQ Q0<|zM (zN (Qw ?_))
 refine zU [(0,_),(1,_),(7,_)] (fun T L0 mz E I' loc'=>∃ (k:Nat),mz=n-k∧E=(8,.int .i64 k)::T∧I=I'∧L0=loc'∧k≤n∧(xs.take k).any P=false) ?_ (h:=⟨0,rfl,rfl,rfl,rfl,Nat.zero_le _,rfl⟩);rintro mz E I' loc' ⟨k,rfl,rfl,rfl,rfl,hk,hno⟩;refine zR (zC (zN (Qm ?_)));refine zI ?_ ?_<;>intro hc9
 ·
  have hlt_k:k<n:=(by have h:=hc9;simp at h;omega);obtain ⟨x,hx⟩:=hS.at hlt_k;refine Qr (Qd (Qm (Qw (zR (zM<|zA<|zN (zR ?_))))));refine zM ?_;refine zM ?_;refine zM ?_;refine zV (QG rfl rfl Q0 kL (fun hg=>kB))<|zV (Qg rfl YO (fun hg=>by exact zB7 hS hx) rfl)<|V7 (cap:=cap) (vs:=[_]) rfl rfl hF (hf x (List.mem_of_getElem? hx)) rfl rfl<|zN ?_
  refine zI ?_ ?_<;>intro hc16
  ·
   exact zR (zM<|zA (zN (Qs (Qi (Qf (Qf (Qi (Qf<|zr rfl rfl (by rw [zgL hno hx hc16])))))))))
  exact Qr (Qk (Qd (Qh (zB<|zM (Qb<|zm (h:=⟨n-(k+1),kB,k+1,rfl,rfl,rfl,rfl,kB,U1 hx hno hc16⟩))))))
 have hge_k:n≤k:=(by have h:=hc9;simp at h;omega);exact Zk (Qo (Qo (Qz (Qd (zR (zA (zN<|Qs<|zr rfl rfl (by rw [zeo hS.len hge_k hno]))))))))
theorem zzm {xs:List Pk}(hS:Sl I 3 Q6 av n c xs)(hn:n≤100000)(hF:Fun Tryz.prog fid)(hf:∀ x∈xs,ZJ Tryz.prog fid ([KW x]++cap) I (.bool (P x))):ZJ Tryz.prog 123 [.slice av n c,.func (.func fid) #[] cap.toArray] I (.bool (xs.any P)):=by
 intro g H w hw;refine qe Tryz.func123 Tryz.ntmps123 hw ?_;refine zR (zA<|zN (zR ?_));refine zM ?_;refine zM ?_;exact qcV (vs:=[_,_]) rfl zuK (zxR hS hn hF hf)<|zC<|zA (zN (Qs<|zr rfl rfl (by rw [←zgI])))
theorem zy2 {bv:Option Addr}{d:Nat}{xs:List Int}(hS:Sl I 1 Z5 av n c xs)(hT:Sl I 1 Z5 bv m d ys)(hn:n≤100000)(_hm:m≤100000):ZJ Tryz.prog 127 [.slice av n c,.slice bv m d] I (.int .i64 (K6 xs ys)):=by
 intro g H w hw;refine qe Tryz.func127 Tryz.ntmps127 hw ?_;have hln:=hS.len;have hlm:=hT.len;refine zR (zA (zN (Qm (zR ?_))));refine zM<|zQ Zb<|zM (zN (Qw ?_))
 refine zU [(0,_),(1,_),(9,_),(10,_)] (fun T L0 mz E I' loc'=>∃ (k:Nat),mz=n-k∧E=(11,.int .i64 k)::T∧I=I'∧L0=loc'∧k≤n∧K6 xs ys=K6 (xs.drop k) (ys.drop k)) ?_ (h:=⟨0,rfl,rfl,rfl,rfl,Nat.zero_le _,rfl⟩);rintro mz E I' loc' ⟨k,rfl,rfl,rfl,rfl,hk,hI⟩;refine zR (zC (zN (Qm ?_)));refine zI ?_ ?_<;>intro hc12
 ·
  have hlt_k:k<n:=(by have h:=hc12;simp at h;omega);obtain ⟨x,hx⟩:=hS.at hlt_k;refine Qr (Qd (Qm (Qw (zR (zM<|zV (zX Zb hS)<|zV (Qc rfl Ql (fun hg=>by exact zBZ hS hx rfl))<|zA<|zA (zN (Qm (zR<|zM ?_))))))));refine zM<|zQ Zb<|zC (zN ?_)
  refine zI ?_ ?_<;>intro hc19
  ·
   have h19:m≤k:=(by have h:=hc19;simp at h;omega);exact zR (zA (zN (Qs (Qf (Qi (Qf (Qf<|Qi (Qf<|zr rfl rfl (by rw [hI,zrr hx kB])))))))))
  have h19:k<m:=(by have h:=hc19;simp at h;omega);obtain ⟨y,hy⟩:=hT.at h19;refine Qr (Qd (zR (zM ?_)));refine zM ?_;refine zV (zX Zb hT) ?_;refine zV (Qc rfl Ql (fun hg=>by exact zBZ hT hy rfl))<|zA<|zN (zR ?_)
  refine zM ?_;refine zM ?_;refine qcV (vs:=[_,_]) rfl znD (zvg I _ _) ?_;refine zA<|zN (zR ?_)
  refine zM<|zC (zN ?_)
  refine zI ?_ ?_<;>intro hc28
  ·
   exact zR (zM<|zA (zN (Qs (Qi (Qf (Qf (Qi (Qf<|zr rfl rfl (by rw [hI,znz hx hy (by simpa using hc28)])))))))))
  exact Qr (Qk (Qd (Qh (zB<|zM (Qb<|zm (h:=⟨n-(k+1),kB,k+1,rfl,rfl,rfl,rfl,kB,hI.trans (zjX hx hy (by simpa using hc28))⟩))))))
 have hge_k:n≤k:=(by have h:=hc12;simp at h;omega);refine Zk (Qo (Qo (Qz (Qd (Qm (zR (zM<|zQ Zb<|zM<|zQ Zb<|zC (zN ?_))))))));refine zI ?_ ?_<;>intro hc35
 ·
  have h35:n<m:=(by have h:=hc35;simp at h;omega);exact zR (zA (zN (Qs (Qf<|zr rfl rfl (by rw [hI,zqw kB kB])))))
 have h35:m≤n:=(by have h:=hc35;simp at h;omega);exact Qr (Qd (zR (zA (zN (Qs<|zr rfl rfl (by rw [hI,zrf kB kB]))))))
theorem Ub:AgT Tryz.prog 179 2:=.of kA
theorem Vf:ArT Tryz.prog 179 2 3 1:=.of kA
theorem QP:QM Tryz.prog 26 0 0:=.of kA
theorem Yx:QM Tryz.prog 26 1 1:=.of kA
theorem zv2:Fun Tryz.prog 123:=.of Tryz.func123 kA kA
theorem zwg:Fun Tryz.prog 124:=.of Tryz.func124 kA kA
theorem zve:Fun Tryz.prog 127:=.of Tryz.func127 kA kA
theorem Q5:ScT Tryz.prog 23:=.of kA
theorem Jj:ScT Tryz.prog 24:=.of kA
theorem VX:SlT Tryz.prog 24 179 2:=.of kA
theorem zle:SzT Tryz.prog 179 2:=.of kA
theorem zsz:Vv Tryz.prog 179 (.agg #[(.int .i64 0),(.int .i64 0)]):=.of kA
variable{qa:Option Addr}{qn qc:Nat}
theorem zi7 (hQ:Sl I 3 Q6 qa qn qc qs)(hqn:qn≤100000)(hA:Sl I 2 VI aa an ac ks)(han:an≤100000):ZJ Tryz.prog 60 [.agg #[.slice qa qn qc,.slice aa an ac]] I (.int .i64 (Ud qs ks)):=by
 intro g H w hw;refine qe Tryz.func60 Tryz.ntmps60 hw ?_;have hIc:=zB6 I;have hlq:=hQ.len;have hla:=hA.len;refine zR<|QK rfl rfl rfl (fun b_1=>zA (Qb<|QF .here (fun I1 hI1 hb1=>?_)))
 have hQ:=hQ.mono hI1;have hA:=hA.mono hI1;have hIc:=hIc.trans hI1;have h1:=BxI.of hb1;refine Qd (Qm (zR<|zF QP ?_));refine zV (Qc rfl Q5 (fun hg=>by exact Qy.imm h1.out rfl))<|zQ Q0<|zC<|zM<|QI 4 rfl rfl rfl ?_
 refine zJ (Qa rfl QP)<|zJ (Qc rfl Q5 (fun hg=>by exact Qy.imm h1.out rfl))<|qf (vs:=[_,_]) rfl zv2 (fun hg=>zzm (P:=fun x=> !pkV x) hQ hqn zwg (cap:=[]) (fun x _=>zuX _ x))<|Q9 rfl rfl rfl rfl rfl<|zN ?_
 refine zI ?_ ?_<;>intro hc13
 ·
  have h13:(decide ((qs.length:Int)>4096)||qs.any (fun x=> !pkV x))=true:=(by rw [hlq];exact hc13);exact zR (zA (zN (Qs (Qf<|zp hIc rfl rfl (by rw [zdK h13])))))
 have h13:(decide ((qs.length:Int)>4096)||qs.any (fun x=> !pkV x))=false:=(by rw [hlq];exact hc13);refine Qr (Qd (Qm (zR<|zF Yx ?_)));refine zV (Qc rfl Jj (fun hg=>by exact Qy.imm h1.out rfl))<|zQ VX<|zM (zN (Qw ?_))
 refine zU [(1,_),(15,_),(16,_)] (fun T L0 mz E I' loc'=>∃ (k:Nat),mz=an-k∧E=(17,.int .i64 k)::T∧HLe I1 I'∧L0=loc'∧k≤an∧(∀ j y,j<k→ks[j]? =some y→zcX (ks.take j) y=false)) ?_ (h:=⟨0,rfl,rfl,zB6 _,rfl,Nat.zero_le _,fun j y h=>absurd h (Nat.not_lt_zero _)⟩);rintro mz E J2 loc' ⟨k,rfl,rfl,hJ,rfl,hk,hall⟩;have hA:=hA.mono hJ;have h1:=h1.mono hJ;have hIc:=hIc.trans hJ;have hB0:=hJ;refine zR (zC (zN (Qm ?_)));refine zI ?_ ?_<;>intro hc18
 ·
  have hlt_k:k<an:=(by have h:=hc18;simp at h;omega);obtain ⟨x,hx⟩:∃ x,ks[k]? =some x:=⟨_,List.getElem?_eq_getElem kB⟩;refine Qr (Qd (Qm (Qw (zR (zM<|zV (zX VX hA)<|zV (Qg rfl Ub (fun hg=>by exact zB7 hA hx) rfl)<|Qp zsz rfl rfl (fun b_4=>?_))))));refine zA<|zh zle<|Qb<|QF .here (fun I3 hI3 hb3=>?_)
  have hA:=hA.mono hI3;have h1:=h1.mono hI3;have hIc:=hIc.trans hI3;have hB0:=hB0.trans hI3;have h4:=BxI.of hb3;refine Qd (Qm ?_);rcases (show lkV x.1 x.2=false∨(lkV x.1 x.2=true∧k=0)∨(lkV x.1 x.2=true∧0<k) by cases lkV x.1 x.2<;>simp<;>omega) with hf | ⟨hf,hk⟩ | ⟨hf,hk⟩
  ·
   have hD:=zB6 I3;refine Zn<|QJ I3 [] mixed<|zT 0 rfl (Qg rfl Ub (fun hg=>by exact BxI.cells (vs:=VI x) h4) rfl) hD<|qd 1 rfl<|qcV (vs:=[_]) rfl zen (zqx _ x.1 x.2)<|Qb<|zD hD<|zT 2 rfl (ZB rfl) hD ?_
   rw [hf];refine zT 3 rfl (Qe rfl) hD<|zW 4 25 hD ?_
   refine zW 5 25 hD ?_;refine zW 6 25 hD ?_;refine zW 7 28 hD ?_;refine zW 8 28 hD ?_;refine zW 9 28 hD ?_;refine zW 10 28 hD ?_;refine zW 11 28 hD ?_;refine zW 12 28 hD ?_;refine zW 13 28 hD ?_;refine zW 14 28 hD ?_;refine zW 15 28 hD ?_;refine zW 16 25 hD<|zT 17 rfl (Ye rfl rfl rfl) hD<|Qn kA<|Qv<|Qd ?_
   refine zI ?_ ?_<;>intro hc39
   ·
    have hbad:=zgc (pre:=ks.take k) hf;exact zR (zA (zN (Qs (Qi (Qf (Qf (Qi<|Qf<|zp hIc rfl rfl (by rw [Xv h13 hx hbad]))))))))
   cases hc39
  focus
   have hk0:decide ((k:Int)>0)=false:=(by simp;omega);have hD:=zB6 I3;refine Zn<|QJ I3 [] mixed<|zT 0 rfl (Qg rfl Ub (fun hg=>by exact BxI.cells (vs:=VI x) h4) rfl) hD<|qd 1 rfl<|qcV (vs:=[_]) rfl zen (zqx _ x.1 x.2)<|Qb<|zD hD<|zT 2 rfl (ZB rfl) hD ?_
   rw [hf];refine zT 3 rfl (Qe rfl) hD<|zw 4 25 rfl (Qe rfl) hD<|zw 5 25 rfl (QA rfl rfl rfl) hD ?_
   rw [hk0];refine zw 6 25 rfl (Qe rfl) hD<|zW 7 28 hD ?_
   refine zW 8 28 hD ?_;refine zW 9 28 hD ?_;refine zW 10 28 hD ?_;refine zW 11 28 hD ?_;refine zW 12 28 hD ?_;refine zW 13 28 hD ?_;refine zW 14 28 hD ?_;refine zW 15 28 hD ?_;refine zw 16 25 rfl (Ye rfl rfl rfl) hD<|zT 17 rfl (QY rfl rfl rfl) hD<|Qn kA<|Qv<|Qd ?_
   refine zI ?_ ?_<;>intro hc39
   ·
    cases hc39
   have hbad:zcX (ks.take k) x=false:=by rw [hk];exact ziz hf
  rotate_left
  have hk0:decide ((k:Int)>0)=true:=(by simp;omega);obtain ⟨y,hy⟩:∃ y,ks[((k:Int)-1).toNat]? =some y:=⟨_,List.getElem?_eq_getElem kB⟩;have hB:Sl I3 1 Z5 (some ⟨b_4,0,none⟩) 2 2 [x.1,x.2]:=Sl.lit [x.1,x.2] rfl YL h4.out;have hD:=zB6 I3;refine Zn<|QJ I3 [] mixed<|zT 0 rfl (Qg rfl Ub (fun hg=>by exact BxI.cells (vs:=VI x) h4) rfl) hD<|qd 1 rfl<|qcV (vs:=[_]) rfl zen (zqx _ x.1 x.2)<|Qb<|zD hD<|zT 2 rfl (ZB rfl) hD ?_
  rw [hf];refine zT 3 rfl (Qe rfl) hD<|zw 4 25 rfl (Qe rfl) hD<|zw 5 25 rfl (QA rfl rfl rfl) hD ?_
  rw [hk0];refine zw 6 25 rfl (Qe rfl) hD<|zw 7 28 rfl (Qa rfl Yx) hD<|zw 8 28 rfl (Qc rfl Jj (fun hg=>by exact Qy.imm h1.out rfl)) hD<|zw 9 28 rfl (Qe rfl) hD<|zw 10 28 rfl (Ya rfl rfl rfl (fun hg=>kB)) hD<|zw 11 28 rfl (zX VX hA) hD<|zw 12 28 rfl (zb7 rfl Vf) hD<|zw 13 28 rfl (zb7 rfl Vf) hD<|qd 14 rfl<|QQ (dj:=28) rfl rfl rfl<|qcV (vs:=[_,_]) rfl zve (zy2 (zui hA hy) hB kC kC)<|Qb ?_
  refine zD hD<|zw 15 28 rfl (QA rfl rfl rfl) hD<|zw 16 25 rfl (QY rfl rfl rfl) hD<|zT 17 rfl (QY rfl rfl rfl) hD<|Qn kA<|Qv<|Qd ?_
  refine zI ?_ ?_<;>intro hc39
  ·
   have hbad:zcX (ks.take k) x=true:=(zcx hf hk hy).trans hc39;exact zR (zA (zN (Qs (Qi (Qf (Qf (Qi<|Qf<|zp hIc rfl rfl (by rw [Xv h13 hx hbad]))))))))
  have hbad:zcX (ks.take k) x=false:=(zcx hf hk hy).trans hc39
  all_goals
   exact Qr (Qk (Qd (Qh (zB<|zM (Qb<|zm (h:=⟨an-(k+1),kB,k+1,rfl,rfl,hB0,rfl,kB,Vo hx hall hbad⟩))))))
 have hge_k:an≤k:=(by have h:=hc18;simp at h;omega);exact Zk (Qo (Qo (Qz (Qd (zR (zA (zN<|Qs<|zp hIc rfl rfl (by rw [zgz h13 (fun j y hj hy=>hall j y kB hy)]))))))))
theorem Zl:AgT Tryz.prog 26 2:=.of kA
theorem ziI:Fun Tryz.prog 60:=.of Tryz.func60 kA kA
theorem VE:SzT Tryz.prog 99 3:=.of kA
theorem XM:Vv Tryz.prog 99 (.agg #[(.int .i64 0),(.int .i64 0),(.slice none 0 0)]):=.of kA
theorem zz0 (hQ:Sl I 3 Q6 qa qn qc qs)(hqn:qn≤100000)(hA:Sl I 2 VI aa an ac ks)(han:an≤100000)(i:Int):ZJ Tryz.prog 177 [.agg #[.slice qa qn qc,.slice aa an ac],.int .i64 i] I (.tuple #[KW (atP qs ks i),.int .i64 (atE qs ks i)]):=by
 intro g H w hw;refine qe Tryz.func177 Tryz.ntmps177 hw ?_;have hlq:=hQ.len;refine zR<|QK rfl rfl rfl (fun b_2=>Qp XM rfl rfl (fun b_4=>?_))
 refine zA (zN (Qm (zR<|zV (Qg rfl Zl (fun hg=>by exact Cells.g1) rfl)<|qcV (vs:=[_]) rfl ziI (zi7 hQ hqn hA han)<|zC (zN ?_))));refine zI ?_ ?_<;>intro hc8
 focus
  have h3:=zBh (i:=i) hc8;refine zR<|zV (Qg rfl YO (fun hg=>by exact Cells.g0) rfl)<|zh VE<|zA (zN (Qs (Qf ?_)))
 rotate_left
 refine Qr (Qd (Qm (zR (zM<|zC ?_))));refine zM ?_;refine QI 2 rfl rfl rfl ?_;refine zJ (Qe rfl) ?_;refine zJ (Qa rfl QP) ?_;refine zJ (Qc rfl Q5 (fun hg=>by exact Qy.h1 rfl)) ?_;refine zJ (QT rfl Q0) ?_;refine zJ (QA rfl rfl rfl) ?_;refine Q9 rfl rfl rfl rfl rfl ?_;refine zN ?_;refine zI ?_ ?_<;>intro hc18
 focus
  have h3:=zBb (i:=i) (ks:=ks) hc8 (by rw [hlq];exact hc18);refine zR<|zV (Qg rfl YO (fun hg=>by exact Cells.g0) rfl)<|zh VE<|zA (zN (Qs (Qf ?_)))
 rotate_left
 have h18:0≤i∧i<(qn:Int):=(by have h:=hc18;simp at h;omega);obtain ⟨x,hx⟩:∃ y,qs[i.toNat]? =some y:=⟨_,List.getElem?_eq_getElem kB⟩;have h3:=zAk (i:=i) (ks:=ks) hc8 (by rw [hlq];exact hc18) hx;refine Qr (Qd (zR<|zF QP ?_));refine zL Q5<|zM<|zV (zX Q0 hQ)<|zV (Qg rfl YO (fun hg=>by exact zB7 hQ hx) rfl)<|zh VE<|zA (zN (Qs ?_))
 all_goals
  first
  | exact Q2 rfl rfl rfl YO zB4 rfl (fun w hw=>⟨by rw [h3.1,h3.2];rfl,hw.drop.drop⟩)
theorem Za:ElT Tryz.prog 23 99 3 40:=.of kA
theorem Z3:SzT Tryz.prog 23 1:=.of kA
theorem ZO:SzT Tryz.prog 26 2:=.of kA
theorem JC:Vv Tryz.prog 26 (.agg #[(.slice none 0 0),(.slice none 0 0)]):=.of kA
theorem zbQ (hQ:Sl I 3 Q6 qa qn qc qs)(hqn:qn≤100000)(_hA:Sl I 2 VI aa an ac ks)(_han:an≤100000)(hi:0≤i∧i<(qn:Int)):YE Tryz.prog 180 [.agg #[.slice qa qn qc,.slice aa an ac],.int .i64 i] I [] (fun v I' L'=>∃ a m c,v= .agg #[.slice a m c,.slice aa an ac]∧m+1=qn∧Sl I' 3 Q6 a m c (qs.eraseIdx i.toNat)∧L'=[]):=by
 intro g H w hw;refine qe Tryz.func180 Tryz.ntmps180 hw ?_;have hIc:=zB6 I;have hlq:=hQ.len;have hcq:=hQ.cap;refine zR<|QK rfl rfl rfl (fun b_2=>Qp JC rfl rfl (fun b_4=>zN (Qm ?_)))
 have hD:=zB6 I;refine Zn<|QJ I [] mixed<|zT 0 rfl (Qa rfl QP) hD<|zT 2 rfl (Qe rfl) hD<|zT 3 rfl (Qe rfl) hD<|zT 5 rfl (Qa rfl QP) hD<|zT 7 rfl (Qe rfl) hD<|zT 8 rfl (Ya rfl rfl rfl (fun hg=>kB)) hD ?_
 refine QU 1 6 rfl rfl kA ?_ ?_
 focus
  refine zL Q5 ?_;refine Qb<|zD hD ?_
  refine zT 4 rfl (ZA rfl rfl rfl Q0 (fun hg=>kB)) hD<|qd 6 rfl ?_
  refine zL Q5<|Qb<|zD hD<|zT 9 rfl (Z9 rfl rfl Q0 (fun hg=>kB)) hD<|qd 10 rfl<|zaV QX kC rfl rfl Za ((hQ.take (k:=i.toNat) kB).cut) (hQ.drop (k:=(i+1).toNat) kB) kB rfl rfl ?_
 rotate_left
 refine zL Q5 ?_;refine Qb<|zD hD ?_
 refine zT 9 rfl (Z9 rfl rfl Q0 (fun hg=>kB)) hD<|qd 1 rfl ?_
 refine zL Q5 ?_;refine Qb<|zD hD ?_
 refine zT 4 rfl (ZA rfl rfl rfl Q0 (fun hg=>kB)) hD<|qd 10 rfl<|zaV QX kC rfl rfl Za ((hQ.take (k:=i.toNat) kB).cut) (hQ.drop (k:=(i+1).toNat) kB) kB rfl rfl ?_
 all_goals
  intro I2 ac cc hI2 hZ;have hIc:=hIc.trans hI2;have hD:=hD.trans hI2;refine Qb<|zD hD<|zT 11 rfl (Qa rfl QP) hD<|qd 12 rfl ?_
  refine zS Z3 ?_;refine Qb<|zD hD<|Qn kA<|Qv<|Qd (zR<|zV (Qg rfl Zl (fun hg=>by exact Cells.g1) rfl)<|zh ZO<|zN (Qs ?_))
  exact ZM rfl rfl Zl zB4 rfl (fun w hw=>⟨_,I2,[],rfl,hIc,hw.drop.drop,_,_,_,rfl,kB,by rw [List.eraseIdx_eq_take_drop_succ,show i.toNat+1=(i+1).toNat by omega];exact hZ,rfl⟩)
theorem zgE:Fun Tryz.prog 177:=.of Tryz.func177 kA kA
theorem zgU:Fun Tryz.prog 180:=.of Tryz.func180 kA kA
theorem zvj:Fun Tryz.prog 228:=.of Tryz.func228 kA kA
theorem zrR (hQ:Sl I 3 Q6 qa qn qc qs)(hqn:qn≤100000)(hA:Sl I 2 VI aa an ac ks)(han:an≤100000)(i:Int):YE Tryz.prog 114 [.agg #[.slice qa qn qc,.slice aa an ac],.int .i64 i] I [] (fun v I' L'=>∃ a m c a2 m2 c2,v= .tuple #[.agg #[.slice a m c,.slice a2 m2 c2],.int .i64 (atE qs ks i)]∧L'=[]∧zdC I' (atE qs ks i) a m c a2 m2 c2 (qs.eraseIdx i.toNat) aa an ac):=by
 intro g H w hw;refine qe Tryz.func114 Tryz.ntmps114 hw ?_;have hIc:=zB6 I;refine zR<|QK rfl rfl rfl (fun b_2=>Qp JC rfl rfl (fun b_4=>?_))
 refine zA (zN (Qm (zR<|zV (Qg rfl Zl (fun hg=>by exact Cells.g1) rfl)<|zM ?_)));refine qcV (vs:=[_,_]) rfl zgE (zz0 hQ hqn hA han i)<|zM ?_
 refine zE<|zE<|zA<|zN (zR ?_)
 refine zM<|zC (zN ?_)
 refine zI ?_ ?_<;>intro hc13
 ·
  have he:atE qs ks i≠0:=(by simpa using hc13);exact zR<|zV (Qg rfl Zl (fun hg=>by exact Cells.g0) rfl)<|zM<|zh ZO<|zA (zN (Qs (Qf<|Q2 rfl rfl rfl Zl zB4 rfl (fun w hw=>⟨_,I,[],rfl,hIc,hw.drop.drop,_,_,_,_,_,_,rfl,rfl,KK he⟩))))
 have he:atE qs ks i=0:=(by simpa using hc13);have hr:0≤i∧i<(qn:Int):=(by have h:=WL he;rw [hQ.len] at h;exact h);refine Qr (Qd (zR<|zV (Qg rfl Zl (fun hg=>by exact Cells.g1) rfl)<|zM<|zpc [_,_] rfl zgU .nil (zbQ hQ hqn hA han hr) ?_));rintro vv1 I1 L1 hI1 ⟨a4,m4,c4,rfl,hm4,hZ,rfl⟩;have hIc:=hIc.trans hI1;exact zh ZO<|zA (zN (Qs<|Q2 rfl rfl rfl Zl zB4 rfl (fun w hw=>⟨_,I1,[],rfl,hIc,hw.drop.drop,_,_,_,_,_,_,by rw [he],rfl,Wc he hZ⟩)))
theorem zAq (hS:Sl I 2 VI av n c ks)(hn:n≤100000)(v:Int×Int):ZJ Tryz.prog 228 [.slice av n c,.agg #[.int .i64 v.1,.int .i64 v.2]] I (.int .i64 (zq5 (zt9 v) ks)):=by
 intro g H w hw;refine qe Tryz.func228 Tryz.ntmps228 hw ?_;refine zR<|QK rfl rfl rfl (fun b_3=>zA (zN (Qm (zR<|zM<|zQ VX<|zM (zN (Qw ?_))))))
 refine zU [(0,_),(3,_),(7,_)] (fun T L0 mz E I' loc'=>∃ (k:Nat),mz=n-k∧E=(8,.int .i64 k)::T∧I=I'∧[(b_3,.cells #[.int .i64 v.1,.int .i64 v.2] 179 (0,0))]=loc'∧k≤n∧(ks.take k).any (zt9 v)=false) ?_ (h:=⟨0,rfl,rfl,rfl,rfl,Nat.zero_le _,rfl⟩);rintro mz E I' loc' ⟨k,rfl,rfl,rfl,rfl,hk,hno⟩;refine zR (zC (zN (Qm ?_)));refine zI ?_ ?_<;>intro hc9
 ·
  have hlt_k:k<n:=(by have h:=hc9;simp at h;omega);obtain ⟨x,hx⟩:=hS.at hlt_k;refine Qr (Qd (Qm (Qw (zR (zM<|zA (zN (Qm ?_)))))));have hD:=zB6 I;refine Zn<|QJ I [(b_3,.cells #[.int .i64 v.1,.int .i64 v.2] 179 (0,0))] mixed<|zT 0 rfl (Qg rfl Ub (fun hg=>by exact Cells.g0) rfl) hD<|zT 1 rfl (Qe rfl) hD<|zT 2 rfl (Qe rfl) hD<|zT 3 rfl (zX VX hS) hD<|zT 4 rfl (Qg rfl Ub (fun hg=>by exact zB7 hS hx) rfl) hD<|zT 5 rfl (zuO rfl rfl zms) hD<|Qn kA<|Qv<|Qd ?_
  refine zI ?_ ?_<;>intro hc16
  ·
   exact zR (zM<|zA (zN (Qs (Qi (Qf (Qf (Qi (Qf<|zr rfl rfl (by rw [zgL hno hx hc16])))))))))
  exact Qr (Qk (Qd (Qh (zB<|zM (Qb<|zm (h:=⟨n-(k+1),kB,k+1,rfl,rfl,rfl,rfl,kB,U1 hx hno hc16⟩))))))
 have hge_k:n≤k:=(by have h:=hc9;simp at h;omega);exact Zk (Qo (Qo (Qz (Qd (zR (zA (zN<|Qs<|zr rfl rfl (by rw [zeo hS.len hge_k hno]))))))))
theorem zAj (hS:Sl I 2 VI av n c ks)(hn:n≤100000)(v:Int×Int):ZJ Tryz.prog 178 [.slice av n c,.agg #[.int .i64 v.1,.int .i64 v.2]] I (.bool (ks.any (zt9 v))):=by
 intro g H w hw;refine qe Tryz.func178 Tryz.ntmps178 hw ?_;refine zR<|QK rfl rfl rfl (fun b_3=>zA<|zN (zR ?_))
 exact zM<|zV (Qg rfl Ub (fun hg=>by exact Cells.g0) rfl)<|qcV (vs:=[_,_]) rfl zvj (zAq hS hn v)<|zC<|zA (zN (Qs<|zr rfl rfl (by rw [←zgI])))
end
end Go.Proofs.YtjblkbkmblkgoaaGreat
