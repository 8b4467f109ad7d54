/- apparatusValue_holds, part H of the proof: what its theorems say holds without further conditions. -/
import Derived.Test.YtodakphagkommaaGreatDoorRows
import Derived.LaidMore
import Derived.MakeChecks
import Derived.Lib.LaidTab
import Derived.Test.YtodakphagkommaaGreatDoorCards
import Derived.Test.YtodakphagkommaaGreatDoorTie
import Derived.Stop.Joined
import Derived.SevenTiedAt
import Derived.Test.YtodakphagkommaaGreatDoorAVG
namespace Go.Proofs.YtodakphagkommaaGreatDoor
section
open Go Go.Kn Go.Proofs
open Go.ChangeShapes Go.WideShapes Go.ChangeAt Go.RowKit
set_option maxRecDepth 100000
theorem ZD:Tryz.prog.underlying 3=some (.int .i64):=by kernel_rfl
theorem zpH:Tryz.prog.underlying 4=some .bool:=by kernel_rfl
theorem zvU:Tryz.prog.underlying 5=some (.int .u8):=by kernel_rfl
theorem zjp {H:Type}{enc:TypeId×Value→H}{W:World}{base:Nat}{v:Value}{d:DataW H}{p:List MemPlace}(hv:Value.okWide Tryz.prog W .any base 23 v)(h:DataW.Trod enc Tryz.prog W 0 (fun _=>true) true 23 v d p):
  ∃ av n c xs,v= .slice av n c∧Sl (JP W) 1 QQ av n c xs∧n≤9223372036854775807:=by
 obtain ⟨av,n,c,xs,e,hS,_,hm⟩:=zb4 (e:=3) QQ (fun _=>True) (by kernel_rfl) (by kernel_rfl) (by decide) Qv (fun fuel cs x h=>by
  obtain ⟨y,_,e⟩:=zdG ZD rfl fuel cs x h
  exact ⟨y,trivial,e⟩) hv h
 exact ⟨av,n,c,xs,e,hS,by have:=hS.cap;simp only [maxLen] at hm;omega⟩
theorem zui {I:Qu}:∀ (hs:List Hd),(∀ h∈hs,∃ v,Sl I 1 QQ h.a h.n h.c v)→∃ vss,zdT I hs vss
 | [],_=>⟨[],zdT.nil⟩
 | x::hs,H=>by
  obtain ⟨vss,hl,hv⟩:=zui hs fun h hh=>H h (List.mem_cons_of_mem _ hh)
  obtain ⟨v0,h0⟩:=H x (List.mem_cons_self ..)
  refine ⟨v0::vss,by simp [hl],fun k h v a b=>?_⟩
  cases k with
  | zero=>cases a;cases b;exact h0
  | succ k=>exact hv k h v a b
theorem zhU {H:Type}{enc:TypeId×Value→H}{W:World}{base:Nat}{v:Value}{d:DataW H}{p:List MemPlace}(hv:Value.okWide Tryz.prog W .any base 22 v)(h:DataW.Trod enc Tryz.prog W 0 (fun _=>true) true 22 v d p):
  ∃ av n c vss,v= .slice av n c∧SlN (JP W) av n c vss∧n≤9223372036854775807:=by
 obtain ⟨av,n,c,hs,e,hS,hok,hm⟩:=zb4 (e:=23) XI (fun h=>∃ v,Sl (JP W) 1 QQ h.a h.n h.c v) (by kernel_rfl) (by kernel_rfl) (by decide) Zb (fun fuel cs x h=>by
  obtain ⟨a,m,q,ys,e,hT,_⟩:=KB (t:=23) (e:=3) QQ (fun _=>True) (by kernel_rfl) (by kernel_rfl) (by decide) Qv (fun fuel cs x h=>by
   obtain ⟨y,_,e⟩:=zdG ZD rfl fuel cs x h
   exact ⟨y,trivial,e⟩) h
  exact ⟨⟨a,m,q⟩,⟨ys,hT⟩,e.symm⟩) hv h
 obtain ⟨vss,hr⟩:=zui hs hok
 exact ⟨av,n,c,vss,e,⟨hs,hS,hr⟩,by have:=hS.cap;simp only [maxLen] at hm;omega⟩
def zja:List (String×DataW Unit):=[("math/bits.deBruijn32tab",Rows.laid_math_bits_deBruijn32tab),("math/bits.deBruijn64tab",Rows.laid_math_bits_deBruijn64tab)]
theorem zzW:Tryz.prog.globalNamed "math/bits.deBruijn64tab" =some 1:=by kernel_rfl
theorem zzY:(Tryz.prog.globals[1]?).map (·.type)=some 290:=by kernel_rfl
theorem zwA:(Rows.laid_math_bits_deBruijn64tab:DataW Unit)=Lib.tabData .u8 zrB:=by rfl
theorem zv9 {W:World}(h:laidMetH Tryz.prog zja W):VT (JP W):=by
 rw [MakeChecks.laidMetH_plain _ _ _ (by kernel_rfl)] at h
 obtain ⟨ps,⟨g0,t0,cs0,f0,p0,q0,hg0,ht0,hv0,hd0,⟨g1,t1,cs1,f1,p1,q1,hg1,ht1,hv1,hd1,_,_⟩,_⟩,_,_⟩:=h
 obtain rfl:=Option.some.inj (zzW.symm.trans hg1)
 obtain rfl:=Option.some.inj (zzY.symm.trans ht1)
 rw [zwA] at hd1
 have hcs:=Lib.cells_of_tab (n:=64) (e:=5) (by kernel_rfl) zvU (by kernel_rfl) (by kernel_rfl) hd1
 intro i hi
 refine zdH ?_
 have:=World.var?_cell hg1 hv1 i
 rw [this]
 have hl:i<zrB.length:=hi
 have e:cs1=(zrB.map fun z=>Value.int .u8 z).toArray:=Array.ext' hcs
 rw [e]
 simp [List.getD,hl]
theorem zm3 (os:Os)(args:Array Value):laidMetH Tryz.prog zja ((World.doorLaid Tryz.prog 400 os).forCall (fun _ _=>0) ⟨#[],args,[]⟩).memory:=
 laidMetH_of_parts3 (fuel:=8) (laidMet_of_run' 8 (by kernel_rfl) (by kernel_rfl)) (by kernel_rfl) (by kernel_rfl)
end
section
open Go Go.Kn Go.Proofs
open Go.ChangeShapes Go.WideShapes Go.ChangeAt Go.RowKit
set_option maxRecDepth 100000
theorem zsv:Tryz.prog.underlying 67=some (.struct (Tryz.prog.fieldsOf 67)):=by kernel_rfl
theorem zrq:Tryz.prog.underlying 24=some (.slice 67):=by kernel_rfl
theorem zeW:Tryz.prog.underlying 54=some (.struct (Tryz.prog.fieldsOf 54)):=by kernel_rfl
theorem zah:Tryz.prog.underlying 52=some (.struct (Tryz.prog.fieldsOf 52)):=by kernel_rfl
theorem zqC:Tryz.prog.underlying 60=some (.struct (Tryz.prog.fieldsOf 60)):=by kernel_rfl
theorem zpP:Tryz.prog.underlying 63=some (.slice 60):=by kernel_rfl
theorem zs6:Tryz.prog.underlying 65=some (.struct (Tryz.prog.fieldsOf 65)):=by kernel_rfl
theorem zp3:Tryz.prog.underlying 35=some (.slice 65):=by kernel_rfl
theorem zct:Tryz.prog.underlying 23=some (.slice 3):=by kernel_rfl
theorem ziv:Tryz.prog.underlying 26=some (.struct (Tryz.prog.fieldsOf 26)):=by kernel_rfl
theorem zym {H:Type}{enc:TypeId×Value→H}{W:World}(fuel:Nat)(cs:List Value)(x:DataW H×List MemPlace)(h:DataW.trod enc Tryz.prog W 0 (fun _=>true) true fuel 67 cs=some x):∃ y:Em,(fun _=>True) y∧YB y=cs:=by
 obtain ⟨hl,n0_,f0⟩:=Vo (C:=3) zsv (by kernel_rfl) h
 match cs,hl with
 | [c0,c1,c2],_=>
  obtain ⟨_,g0_0⟩:=f0 0 3 0 1 (by kernel_rfl) (by kernel_rfl)
  obtain ⟨n0,e0,_,w0⟩:=DataW.trod_int ZD (show DataW.trod enc Tryz.prog W 0 (fun _=>true) true n0_ 3 [c0]=some _ from g0_0)
  obtain ⟨_,g0_1⟩:=f0 1 3 1 1 (by kernel_rfl) (by kernel_rfl)
  obtain ⟨n1,e1,_,w1⟩:=DataW.trod_int ZD (show DataW.trod enc Tryz.prog W 0 (fun _=>true) true n0_ 3 [c1]=some _ from g0_1)
  obtain ⟨_,g0_2⟩:=f0 2 3 2 1 (by kernel_rfl) (by kernel_rfl)
  obtain ⟨n2,e2,_,w2⟩:=DataW.trod_int ZD (show DataW.trod enc Tryz.prog W 0 (fun _=>true) true n0_ 3 [c2]=some _ from g0_2)
  cases e0;cases e1;cases e2
  exact ⟨⟨n0,n1,n2⟩,trivial,rfl⟩
theorem zyv {H:Type}{enc:TypeId×Value→H}{W:World}(fuel:Nat)(cs:List Value)(x:DataW H×List MemPlace)(h:DataW.trod enc Tryz.prog W 0 (fun _=>true) true fuel 60 cs=some x):∃ y:Rd,(fun _=>True) y∧JJ y=cs:=by
 obtain ⟨hl,n0_,f0⟩:=Vo (C:=15) zqC (by kernel_rfl) h
 match cs,hl with
 | [c0,c1,c2,c3,c4,c5,c6,c7,c8,c9,c10,c11,c12,c13,c14],_=>
  obtain ⟨_,g0_0⟩:=f0 0 4 0 1 (by kernel_rfl) (by kernel_rfl)
  obtain ⟨n0,e0,_⟩:=DataW.trod_bool zpH (show DataW.trod enc Tryz.prog W 0 (fun _=>true) true n0_ 4 [c0]=some _ from g0_0)
  obtain ⟨_,g0_1⟩:=f0 1 54 1 14 (by kernel_rfl) (by kernel_rfl)
  obtain ⟨_,n1_,f1⟩:=Vo (C:=14) zeW (by kernel_rfl) (show DataW.trod enc Tryz.prog W 0 (fun _=>true) true n0_ 54 [c1,c2,c3,c4,c5,c6,c7,c8,c9,c10,c11,c12,c13,c14]=some _ from g0_1)
  obtain ⟨_,g1_0⟩:=f1 0 3 0 1 (by kernel_rfl) (by kernel_rfl)
  obtain ⟨n1,e1,_,w1⟩:=DataW.trod_int ZD (show DataW.trod enc Tryz.prog W 0 (fun _=>true) true n1_ 3 [c1]=some _ from g1_0)
  obtain ⟨_,g1_1⟩:=f1 1 3 1 1 (by kernel_rfl) (by kernel_rfl)
  obtain ⟨n2,e2,_,w2⟩:=DataW.trod_int ZD (show DataW.trod enc Tryz.prog W 0 (fun _=>true) true n1_ 3 [c2]=some _ from g1_1)
  obtain ⟨_,g1_2⟩:=f1 2 3 2 1 (by kernel_rfl) (by kernel_rfl)
  obtain ⟨n3,e3,_,w3⟩:=DataW.trod_int ZD (show DataW.trod enc Tryz.prog W 0 (fun _=>true) true n1_ 3 [c3]=some _ from g1_2)
  obtain ⟨_,g1_3⟩:=f1 3 3 3 1 (by kernel_rfl) (by kernel_rfl)
  obtain ⟨n4,e4,_,w4⟩:=DataW.trod_int ZD (show DataW.trod enc Tryz.prog W 0 (fun _=>true) true n1_ 3 [c4]=some _ from g1_3)
  obtain ⟨_,g1_4⟩:=f1 4 3 4 1 (by kernel_rfl) (by kernel_rfl)
  obtain ⟨n5,e5,_,w5⟩:=DataW.trod_int ZD (show DataW.trod enc Tryz.prog W 0 (fun _=>true) true n1_ 3 [c5]=some _ from g1_4)
  obtain ⟨_,g1_5⟩:=f1 5 3 5 1 (by kernel_rfl) (by kernel_rfl)
  obtain ⟨n6,e6,_,w6⟩:=DataW.trod_int ZD (show DataW.trod enc Tryz.prog W 0 (fun _=>true) true n1_ 3 [c6]=some _ from g1_5)
  obtain ⟨_,g1_6⟩:=f1 6 3 6 1 (by kernel_rfl) (by kernel_rfl)
  obtain ⟨n7,e7,_,w7⟩:=DataW.trod_int ZD (show DataW.trod enc Tryz.prog W 0 (fun _=>true) true n1_ 3 [c7]=some _ from g1_6)
  obtain ⟨_,g1_7⟩:=f1 7 3 7 1 (by kernel_rfl) (by kernel_rfl)
  obtain ⟨n8,e8,_,w8⟩:=DataW.trod_int ZD (show DataW.trod enc Tryz.prog W 0 (fun _=>true) true n1_ 3 [c8]=some _ from g1_7)
  obtain ⟨_,g1_8⟩:=f1 8 3 8 1 (by kernel_rfl) (by kernel_rfl)
  obtain ⟨n9,e9,_,w9⟩:=DataW.trod_int ZD (show DataW.trod enc Tryz.prog W 0 (fun _=>true) true n1_ 3 [c9]=some _ from g1_8)
  obtain ⟨_,g1_9⟩:=f1 9 3 9 1 (by kernel_rfl) (by kernel_rfl)
  obtain ⟨n10,e10,_,w10⟩:=DataW.trod_int ZD (show DataW.trod enc Tryz.prog W 0 (fun _=>true) true n1_ 3 [c10]=some _ from g1_9)
  obtain ⟨_,g1_10⟩:=f1 10 52 10 2 (by kernel_rfl) (by kernel_rfl)
  obtain ⟨_,n2_,f2⟩:=Vo (C:=2) zah (by kernel_rfl) (show DataW.trod enc Tryz.prog W 0 (fun _=>true) true n1_ 52 [c11,c12]=some _ from g1_10)
  obtain ⟨_,g2_0⟩:=f2 0 3 0 1 (by kernel_rfl) (by kernel_rfl)
  obtain ⟨n11,e11,_,w11⟩:=DataW.trod_int ZD (show DataW.trod enc Tryz.prog W 0 (fun _=>true) true n2_ 3 [c11]=some _ from g2_0)
  obtain ⟨_,g2_1⟩:=f2 1 3 1 1 (by kernel_rfl) (by kernel_rfl)
  obtain ⟨n12,e12,_,w12⟩:=DataW.trod_int ZD (show DataW.trod enc Tryz.prog W 0 (fun _=>true) true n2_ 3 [c12]=some _ from g2_1)
  obtain ⟨_,g1_11⟩:=f1 11 52 12 2 (by kernel_rfl) (by kernel_rfl)
  obtain ⟨_,n3_,f3⟩:=Vo (C:=2) zah (by kernel_rfl) (show DataW.trod enc Tryz.prog W 0 (fun _=>true) true n1_ 52 [c13,c14]=some _ from g1_11)
  obtain ⟨_,g3_0⟩:=f3 0 3 0 1 (by kernel_rfl) (by kernel_rfl)
  obtain ⟨n13,e13,_,w13⟩:=DataW.trod_int ZD (show DataW.trod enc Tryz.prog W 0 (fun _=>true) true n3_ 3 [c13]=some _ from g3_0)
  obtain ⟨_,g3_1⟩:=f3 1 3 1 1 (by kernel_rfl) (by kernel_rfl)
  obtain ⟨n14,e14,_,w14⟩:=DataW.trod_int ZD (show DataW.trod enc Tryz.prog W 0 (fun _=>true) true n3_ 3 [c14]=some _ from g3_1)
  cases e0;cases e1;cases e2;cases e3;cases e4;cases e5;cases e6;cases e7;cases e8;cases e9;cases e10;cases e11;cases e12;cases e13;cases e14
  exact ⟨⟨n0,⟨n1,n2,n3,n4,n5,n6,n7,n8,n9,n10,n11,n12,n13,n14⟩⟩,trivial,rfl⟩
theorem zyb {H:Type}{enc:TypeId×Value→H}{W:World}(fuel:Nat)(cs:List Value)(x:DataW H×List MemPlace)(h:DataW.trod enc Tryz.prog W 0 (fun _=>true) true fuel 65 cs=some x):∃ y:Wt,(fun w=>∃ rs,Sl (JP W) 15 JJ w.a w.n w.c rs) y∧zlt y=cs:=by
 obtain ⟨hl,n0_,f0⟩:=Vo (C:=3) zs6 (by kernel_rfl) h
 match cs,hl with
 | [c0,c1,c2],_=>
  obtain ⟨_,g0_0⟩:=f0 0 3 0 1 (by kernel_rfl) (by kernel_rfl)
  obtain ⟨n0,e0,_,w0⟩:=DataW.trod_int ZD (show DataW.trod enc Tryz.prog W 0 (fun _=>true) true n0_ 3 [c0]=some _ from g0_0)
  obtain ⟨_,g0_1⟩:=f0 1 3 1 1 (by kernel_rfl) (by kernel_rfl)
  obtain ⟨n1,e1,_,w1⟩:=DataW.trod_int ZD (show DataW.trod enc Tryz.prog W 0 (fun _=>true) true n0_ 3 [c1]=some _ from g0_1)
  obtain ⟨_,g0_2⟩:=f0 2 63 2 1 (by kernel_rfl) (by kernel_rfl)
  obtain ⟨a2,m2,q2,n2,e2,s2,o2,_⟩:=KB (t:=63) (e:=60) JJ (fun _:Rd=>True) zpP (by kernel_rfl) (by decide) Zs (fun fuel cs x h=>zyv fuel cs x h) (show DataW.trod enc Tryz.prog W 0 (fun _=>true) true n0_ 63 [c2]=some _ from g0_2)
  cases e0;cases e1;cases e2
  exact ⟨⟨n0,n1,a2,m2,q2⟩,⟨n2,s2⟩,rfl⟩
theorem zzK {I:Qu}:∀ (ws:List Wt),(∀ w∈ws,∃ rs,Sl I 15 JJ w.a w.n w.c rs)→∃ xs:List Wr,ws.length=xs.length∧∀ (k:Nat) (w:Wt) (x:Wr),ws[k]? =some w→xs[k]? =some x→w.no=x.no∧w.yr=x.yr∧Sl I 15 JJ w.a w.n w.c x.rs
 | [],_=>⟨[],rfl,fun k w x h=>by simp at h⟩
 | y::ws,H=>by
  obtain ⟨xs,hl,hv⟩:=zzK ws fun w hw=>H w (List.mem_cons_of_mem _ hw)
  obtain ⟨rs,h0⟩:=H y (List.mem_cons_self ..)
  refine ⟨⟨y.no,y.yr,rs⟩::xs,by simp [hl],fun k w x a b=>?_⟩
  cases k with
  | zero=>cases a;cases b;exact ⟨rfl,rfl,h0⟩
  | succ k=>exact hv k w x a b
structure EdS where
 no:Int
 a1:Option Addr
 n1:Nat
 c1:Nat
 a2:Option Addr
 n2:Nat
 c2:Nat
 a3:Option Addr
 n3:Nat
 c3:Nat
def zuV (e:EdS):List Value:=Z3 e.no e.a1 e.n1 e.c1 e.a2 e.n2 e.c2 e.a3 e.n3 e.c3
def zvO (e:EdS):Value:=.agg (zuV e).toArray
theorem zxU {H:Type}{enc:TypeId×Value→H}{W:World}(fuel:Nat)(cs:List Value)(x:DataW H×List MemPlace)(h:DataW.trod enc Tryz.prog W 0 (fun _=>true) true fuel 26 cs=some x):∃ y:EdS,(fun e=>(∃ xs,Sl (JP W) 1 QQ e.a1 e.n1 e.c1 xs)∧(∃ es,Sl (JP W) 3 YB e.a2 e.n2 e.c2 es)∧∃ rd,Sl (JP W) 1 QQ e.a3 e.n3 e.c3 rd) y∧zuV y=cs:=by
 obtain ⟨hl,n0_,f0⟩:=Vo (C:=4) ziv (by kernel_rfl) h
 match cs,hl with
 | [c0,c1,c2,c3],_=>
  obtain ⟨_,g0_0⟩:=f0 0 3 0 1 (by kernel_rfl) (by kernel_rfl)
  obtain ⟨n0,e0,_,w0⟩:=DataW.trod_int ZD (show DataW.trod enc Tryz.prog W 0 (fun _=>true) true n0_ 3 [c0]=some _ from g0_0)
  obtain ⟨_,g0_1⟩:=f0 1 23 1 1 (by kernel_rfl) (by kernel_rfl)
  obtain ⟨a1,m1,q1,n1,e1,s1,o1,_⟩:=KB (t:=23) (e:=3) QQ (fun n:Int=> -9223372036854775808≤n∧n≤9223372036854775807) zct (by kernel_rfl) (by decide) Qv (fun fuel cs x h=>zdG ZD rfl fuel cs x h) (show DataW.trod enc Tryz.prog W 0 (fun _=>true) true n0_ 23 [c1]=some _ from g0_1)
  obtain ⟨_,g0_2⟩:=f0 2 24 2 1 (by kernel_rfl) (by kernel_rfl)
  obtain ⟨a2,m2,q2,n2,e2,s2,o2,_⟩:=KB (t:=24) (e:=67) YB (fun _:Em=>True) zrq (by kernel_rfl) (by decide) zac (fun fuel cs x h=>zym fuel cs x h) (show DataW.trod enc Tryz.prog W 0 (fun _=>true) true n0_ 24 [c2]=some _ from g0_2)
  obtain ⟨_,g0_3⟩:=f0 3 23 3 1 (by kernel_rfl) (by kernel_rfl)
  obtain ⟨a3,m3,q3,n3,e3,s3,o3,_⟩:=KB (t:=23) (e:=3) QQ (fun n:Int=> -9223372036854775808≤n∧n≤9223372036854775807) zct (by kernel_rfl) (by decide) Qv (fun fuel cs x h=>zdG ZD rfl fuel cs x h) (show DataW.trod enc Tryz.prog W 0 (fun _=>true) true n0_ 23 [c3]=some _ from g0_3)
  cases e0;cases e1;cases e2;cases e3
  exact ⟨⟨n0,a1,m1,q1,a2,m2,q2,a3,m3,q3⟩,⟨⟨n1,s1⟩,⟨n2,s2⟩,⟨n3,s3⟩⟩,rfl⟩
theorem zsN {H:Type}{enc:TypeId×Value→H}{W:World}{base:Nat}{v:Value}{d:DataW H}{p:List MemPlace}(hv:Value.okWide Tryz.prog W .any base 26 v)(h:DataW.Trod enc Tryz.prog W 0 (fun _=>true) true 26 v d p):∃ y:EdS,v=zvO y∧(fun e=>(∃ xs,Sl (JP W) 1 QQ e.a1 e.n1 e.c1 xs)∧(∃ es,Sl (JP W) 3 YB e.a2 e.n2 e.c2 es)∧∃ rd,Sl (JP W) 1 QQ e.a3 e.n3 e.c3 rd) y:=by
 obtain ⟨cs,rfl,_⟩:=okWide_struct ziv hv
 obtain ⟨fuel,hf⟩:=h
 obtain ⟨l⟩:=cs
 obtain ⟨y,hy,e⟩:=zxU fuel l _ hf
 exact ⟨y,by rw [←e];rfl,hy⟩
set_option maxRecDepth 100000 in
theorem zrp {H:Type} {enc:TypeId×Value→H} {W:World} {base:Nat} {v:Value} {d:DataW H} {p:List MemPlace} (hv:Value.okWide Tryz.prog W .any base 35 v) (h:DataW.Trod enc Tryz.prog W 0 (fun _=>true) true 35 v d p):
  ∃ av n c xs,v= .slice av n c∧SlW (JP W) av n c xs∧n≤9223372036854775807:=by
 obtain ⟨av,n,c,ws,e,hS,hok,hm⟩:=zb4 (e:=65) zlt (fun w=>∃ rs,Sl (JP W) 15 JJ w.a w.n w.c rs) zp3 (by kernel_rfl) (by decide) ZJ (fun fuel cs x h=>zyb fuel cs x h) hv h
 obtain ⟨xs,hl,hx⟩:=zzK ws hok
 exact ⟨av,n,c,xs,e,⟨ws,hS,hl,hx⟩,Nat.le_trans hS.cap hm⟩
end
end Go.Proofs.YtodakphagkommaaGreatDoor
namespace Go.Proofs.YtodakphagkommaaGreatDoor.R
section
open Go Go.Kn Go.Proofs
open Go.ChangeShapes Go.WideShapes Go.ChangeAt Go.RowKit
set_option maxRecDepth 100000
theorem zeW:Tryz.prog.underlying 54=some (.struct (Tryz.prog.fieldsOf 54)):=by kernel_rfl
theorem zah:Tryz.prog.underlying 52=some (.struct (Tryz.prog.fieldsOf 52)):=by kernel_rfl
theorem zct:Tryz.prog.underlying 23=some (.slice 3):=by kernel_rfl
theorem ztd:Tryz.prog.underlying 57=some (.struct (Tryz.prog.fieldsOf 57)):=by kernel_rfl
theorem zrn:Tryz.prog.underlying 36=some (.slice 57):=by kernel_rfl
theorem ound_47:Tryz.prog.underlying 47=some (.int .u16):=by kernel_rfl
theorem zzk {H:Type}{enc:TypeId×Value→H}{W:World}(fuel:Nat)(cs:List Value)(x:DataW H×List MemPlace)(h:DataW.trod enc Tryz.prog W 0 (fun _=>true) true fuel 57 cs=some x):∃ y:Pt,(fun p=>Nd (JP W) p) y∧Yx y=cs:=by
 obtain ⟨hl,n0_,f0⟩:=Vo (C:=19) ztd (by kernel_rfl) h
 match cs,hl with
 | [c0,c1,c2,c3,c4,c5,c6,c7,c8,c9,c10,c11,c12,c13,c14,c15,c16,c17,c18],_=>
  obtain ⟨_,g0_0⟩:=f0 0 3 0 1 (by kernel_rfl) (by kernel_rfl)
  obtain ⟨n0,e0,_,w0⟩:=DataW.trod_int ZD (show DataW.trod enc Tryz.prog W 0 (fun _=>true) true n0_ 3 [c0]=some _ from g0_0)
  obtain ⟨_,g0_1⟩:=f0 1 3 1 1 (by kernel_rfl) (by kernel_rfl)
  obtain ⟨n1,e1,_,w1⟩:=DataW.trod_int ZD (show DataW.trod enc Tryz.prog W 0 (fun _=>true) true n0_ 3 [c1]=some _ from g0_1)
  obtain ⟨_,g0_2⟩:=f0 2 3 2 1 (by kernel_rfl) (by kernel_rfl)
  obtain ⟨n2,e2,_,w2⟩:=DataW.trod_int ZD (show DataW.trod enc Tryz.prog W 0 (fun _=>true) true n0_ 3 [c2]=some _ from g0_2)
  obtain ⟨_,g0_3⟩:=f0 3 3 3 1 (by kernel_rfl) (by kernel_rfl)
  obtain ⟨n3,e3,_,w3⟩:=DataW.trod_int ZD (show DataW.trod enc Tryz.prog W 0 (fun _=>true) true n0_ 3 [c3]=some _ from g0_3)
  obtain ⟨_,g0_4⟩:=f0 4 54 4 14 (by kernel_rfl) (by kernel_rfl)
  obtain ⟨_,n1_,f1⟩:=Vo (C:=14) zeW (by kernel_rfl) (show DataW.trod enc Tryz.prog W 0 (fun _=>true) true n0_ 54 [c4,c5,c6,c7,c8,c9,c10,c11,c12,c13,c14,c15,c16,c17]=some _ from g0_4)
  obtain ⟨_,g1_0⟩:=f1 0 3 0 1 (by kernel_rfl) (by kernel_rfl)
  obtain ⟨n4,e4,_,w4⟩:=DataW.trod_int ZD (show DataW.trod enc Tryz.prog W 0 (fun _=>true) true n1_ 3 [c4]=some _ from g1_0)
  obtain ⟨_,g1_1⟩:=f1 1 3 1 1 (by kernel_rfl) (by kernel_rfl)
  obtain ⟨n5,e5,_,w5⟩:=DataW.trod_int ZD (show DataW.trod enc Tryz.prog W 0 (fun _=>true) true n1_ 3 [c5]=some _ from g1_1)
  obtain ⟨_,g1_2⟩:=f1 2 3 2 1 (by kernel_rfl) (by kernel_rfl)
  obtain ⟨n6,e6,_,w6⟩:=DataW.trod_int ZD (show DataW.trod enc Tryz.prog W 0 (fun _=>true) true n1_ 3 [c6]=some _ from g1_2)
  obtain ⟨_,g1_3⟩:=f1 3 3 3 1 (by kernel_rfl) (by kernel_rfl)
  obtain ⟨n7,e7,_,w7⟩:=DataW.trod_int ZD (show DataW.trod enc Tryz.prog W 0 (fun _=>true) true n1_ 3 [c7]=some _ from g1_3)
  obtain ⟨_,g1_4⟩:=f1 4 3 4 1 (by kernel_rfl) (by kernel_rfl)
  obtain ⟨n8,e8,_,w8⟩:=DataW.trod_int ZD (show DataW.trod enc Tryz.prog W 0 (fun _=>true) true n1_ 3 [c8]=some _ from g1_4)
  obtain ⟨_,g1_5⟩:=f1 5 3 5 1 (by kernel_rfl) (by kernel_rfl)
  obtain ⟨n9,e9,_,w9⟩:=DataW.trod_int ZD (show DataW.trod enc Tryz.prog W 0 (fun _=>true) true n1_ 3 [c9]=some _ from g1_5)
  obtain ⟨_,g1_6⟩:=f1 6 3 6 1 (by kernel_rfl) (by kernel_rfl)
  obtain ⟨n10,e10,_,w10⟩:=DataW.trod_int ZD (show DataW.trod enc Tryz.prog W 0 (fun _=>true) true n1_ 3 [c10]=some _ from g1_6)
  obtain ⟨_,g1_7⟩:=f1 7 3 7 1 (by kernel_rfl) (by kernel_rfl)
  obtain ⟨n11,e11,_,w11⟩:=DataW.trod_int ZD (show DataW.trod enc Tryz.prog W 0 (fun _=>true) true n1_ 3 [c11]=some _ from g1_7)
  obtain ⟨_,g1_8⟩:=f1 8 3 8 1 (by kernel_rfl) (by kernel_rfl)
  obtain ⟨n12,e12,_,w12⟩:=DataW.trod_int ZD (show DataW.trod enc Tryz.prog W 0 (fun _=>true) true n1_ 3 [c12]=some _ from g1_8)
  obtain ⟨_,g1_9⟩:=f1 9 3 9 1 (by kernel_rfl) (by kernel_rfl)
  obtain ⟨n13,e13,_,w13⟩:=DataW.trod_int ZD (show DataW.trod enc Tryz.prog W 0 (fun _=>true) true n1_ 3 [c13]=some _ from g1_9)
  obtain ⟨_,g1_10⟩:=f1 10 52 10 2 (by kernel_rfl) (by kernel_rfl)
  obtain ⟨_,n2_,f2⟩:=Vo (C:=2) zah (by kernel_rfl) (show DataW.trod enc Tryz.prog W 0 (fun _=>true) true n1_ 52 [c14,c15]=some _ from g1_10)
  obtain ⟨_,g2_0⟩:=f2 0 3 0 1 (by kernel_rfl) (by kernel_rfl)
  obtain ⟨n14,e14,_,w14⟩:=DataW.trod_int ZD (show DataW.trod enc Tryz.prog W 0 (fun _=>true) true n2_ 3 [c14]=some _ from g2_0)
  obtain ⟨_,g2_1⟩:=f2 1 3 1 1 (by kernel_rfl) (by kernel_rfl)
  obtain ⟨n15,e15,_,w15⟩:=DataW.trod_int ZD (show DataW.trod enc Tryz.prog W 0 (fun _=>true) true n2_ 3 [c15]=some _ from g2_1)
  obtain ⟨_,g1_11⟩:=f1 11 52 12 2 (by kernel_rfl) (by kernel_rfl)
  obtain ⟨_,n3_,f3⟩:=Vo (C:=2) zah (by kernel_rfl) (show DataW.trod enc Tryz.prog W 0 (fun _=>true) true n1_ 52 [c16,c17]=some _ from g1_11)
  obtain ⟨_,g3_0⟩:=f3 0 3 0 1 (by kernel_rfl) (by kernel_rfl)
  obtain ⟨n16,e16,_,w16⟩:=DataW.trod_int ZD (show DataW.trod enc Tryz.prog W 0 (fun _=>true) true n3_ 3 [c16]=some _ from g3_0)
  obtain ⟨_,g3_1⟩:=f3 1 3 1 1 (by kernel_rfl) (by kernel_rfl)
  obtain ⟨n17,e17,_,w17⟩:=DataW.trod_int ZD (show DataW.trod enc Tryz.prog W 0 (fun _=>true) true n3_ 3 [c17]=some _ from g3_1)
  obtain ⟨_,g0_5⟩:=f0 5 23 18 1 (by kernel_rfl) (by kernel_rfl)
  obtain ⟨a18,m18,q18,n18,e18,s18,o18,_⟩:=KB (t:=23) (e:=3) QQ (fun n:Int=> -9223372036854775808≤n∧n≤9223372036854775807) zct (by kernel_rfl) (by decide) Qv (fun fuel cs x h=>zdG ZD rfl fuel cs x h) (show DataW.trod enc Tryz.prog W 0 (fun _=>true) true n0_ 23 [c18]=some _ from g0_5)
  cases e0;cases e1;cases e2;cases e3;cases e4;cases e5;cases e6;cases e7;cases e8;cases e9;cases e10;cases e11;cases e12;cases e13;cases e14;cases e15;cases e16;cases e17;cases e18
  exact ⟨⟨n0,n1,n2,n3,⟨n4,n5,n6,n7,n8,n9,n10,n11,n12,n13,n14,n15,n16,n17⟩,a18,m18,q18,n18⟩,s18,rfl⟩
theorem open_ps {H:Type}{enc:TypeId×Value→H}{W:World}{base:Nat}{v:Value}{d:DataW H}{p:List MemPlace}(hv:Value.okWide Tryz.prog W .any base 36 v)(h:DataW.Trod enc Tryz.prog W 0 (fun _=>true) true 36 v d p):
  ∃ av n c xs,v= .slice av n c∧SlP (JP W) av n c xs:=by
 obtain ⟨av,n,c,xs,e,hS,hok,_⟩:=zb4 (e:=57) Yx (fun p=>Nd (JP W) p) zrn (by kernel_rfl) (by decide) Q0 (fun fuel cs x h=>zzk fuel cs x h) hv h
 exact ⟨av,n,c,xs,e,⟨hS,hok⟩⟩
theorem wf_u16 {n:Int}(h:(Lit.int .u16 n).wf=true):0≤n∧n≤65535:=by
 simp only [Lit.wf,Bool.and_eq_true,decide_eq_true_eq] at h
 exact h
end
end Go.Proofs.YtodakphagkommaaGreatDoor.R
namespace Go.Proofs.YtodakphagkommaaGreatDoor
section
open Go Go.Kn Go.Proofs
open Go.ChangeShapes Go.WideShapes Go.ChangeAt Go.RowKit
theorem own:ownKnob Tryz.prog.godebug=none:=by kernel_rfl
theorem zpY:laidOutB Tryz.prog=true:=by kernel_rfl
set_option maxRecDepth 100000 in
theorem KX (os:Os) (started:os.Started) (H:Type) (enc:TypeId×Value→H):
  ReturnsInHanded {} Tryz.checked os 5 .any (fun w args=>(Rows.apparatusValueSpec.pre enc Tryz.prog Tryz.f5 [] false w args∧laidMetH Tryz.prog zja w)∧sizedMet enc Tryz.prog Tryz.f5 (OpenSpec.ofChange Rows.apparatusValueSpec) false w args)
   (Rows.apparatusValueSpec.post enc Tryz.prog Tryz.f5 false true false false):=by
 refine returnsInHanded_of_change_and (C:=Tryz.checked) (X:=fun w _=>laidMetH Tryz.prog zja w) (fun _ _ _ hh h=>h.of_heap hh) own started (by kernel_rfl) Tryz.func5
  (ChangeSpec.witness_shaped (enc:=enc) (C:=Tryz.checked) (os:=os) (X:=fun w _=>laidMetH Tryz.prog zja w) false (World.doorLaid Tryz.prog 400 os) #[.slice none 0 0,.slice none 0 0,.agg #[.int .i64 0,.slice none 0 0,.slice none 0 0,.slice none 0 0],.slice none 0 0,.slice none 0 0,.int .u16 0] 8 rfl (World.shaped_of_RefB (by kernel_rfl) (by kernel_rfl)) (by kernel_rfl) (by kernel_rfl) (by kernel_rfl) (zm3 os _)) ?_
 intro W base args ds gs before hval0 hW _ _ hL _
 have hval:∀ (j:Nat) t v,Tryz.f5.params[j]? =some t→args[j]? =some v→Value.okWide Tryz.prog W .any base t v:=hval0
 have hW':=hW
 obtain ⟨p,q,hA0,hV,rfl,hfz,hnd⟩:=hW
 have hA:DataW.TrodAll enc Tryz.prog W 0 (fun _=>true) true Tryz.f5.params.toList args.toList ds p:=hA0
 rw [Tryz.params5] at hA hval
 obtain ⟨v0,vs1,d0,ds1,p0,q1,ea,rfl,rfl,h0,hA⟩:=trodAll_cons hA
 obtain ⟨v1,vs2,d1,ds2,p1,q2,rfl,rfl,rfl,h1,hA⟩:=trodAll_cons hA
 obtain ⟨v2,vs3,d2,ds3,p2,q3,rfl,rfl,rfl,h2,hA⟩:=trodAll_cons hA
 obtain ⟨v3,vs4,d3,ds4,p3,q4,rfl,rfl,rfl,h3,hA⟩:=trodAll_cons hA
 obtain ⟨v4,vs5,d4,ds5,p4,q5,rfl,rfl,rfl,h4,hA⟩:=trodAll_cons hA
 obtain ⟨v5,vs6,d5,ds6,p5,q6,rfl,rfl,rfl,h5,hA⟩:=trodAll_cons hA
 obtain ⟨rfl,rfl,rfl⟩:=trodAll_nil hA
 have ea':args= #[v0,v1,v2,v3,v4,v5]:=by rw [←Array.toArray_toList (xs:=args),ea]
 subst ea'
 obtain ⟨rfl,rfl⟩:=trodVars_none hV
 have hDb:=zv9 hL
 obtain ⟨wv,nw,cw,ws,rfl,hW0,hbig⟩:=zrp (hval 0 35 v0 rfl rfl) h0
 obtain ⟨bv,n2,c2,rows,rfl,hV,hbg⟩:=zhU (hval 1 22 v1 rfl rfl) h1
 obtain ⟨ed,rfl,⟨xs,hX1⟩,⟨es,hX2⟩,⟨rd,hX3⟩⟩:=zsN (hval 2 26 v2 rfl rfl) h2
 obtain ⟨pv,pn,pc,ps,rfl,hP⟩:=R.open_ps (hval 3 36 v3 rfl rfl) h3
 obtain ⟨dv,n3,c3,vs,rfl,hVs,hbn⟩:=zjp (hval 4 23 v4 rfl rfl) h4
 obtain ⟨z,rfl,_,_,wfz⟩:=open_int R.ound_47 (hval 5 47 v5 rfl rfl) h5
 refine (Zy.law (R.w_lValue hW0 hbig hV hX1 hX2 hX3 ed.no hP hVs hDb z (R.wf_u16 wfz))).mono fun e W' ⟨he,hB⟩=>?_
 subst he
 exact ⟨_,rfl,zmy zpY (by kernel_rfl) zpH rfl rfl (by rw [Tryz.params5];simp only [List.mem_cons,List.not_mem_nil,or_false,forall_eq_or_imp,forall_eq];exact ⟨⟨by kernel_rfl,of_decide_eq_true (by kernel_rfl)⟩,⟨by kernel_rfl,of_decide_eq_true (by kernel_rfl)⟩,⟨by kernel_rfl,of_decide_eq_true (by kernel_rfl)⟩,⟨by kernel_rfl,of_decide_eq_true (by kernel_rfl)⟩,⟨by kernel_rfl,of_decide_eq_true (by kernel_rfl)⟩,⟨by kernel_rfl,of_decide_eq_true (by kernel_rfl)⟩⟩) hW' hB⟩
theorem U0:Rows.ApparatusValueSaid:=
 OpenClaim.holds_of_wide 5 Tryz.f5 rfl rfl rfl rfl rfl rfl rfl ⟨rfl,rfl,rfl,rfl,rfl⟩ rfl rfl rfl rfl rfl (by kernel_rfl) Tryz.func5 (by kernel_rfl)
  (of_decide_eq_true (by kernel_rfl)) (by unfold Func.isWrapper;first | (rw [if_pos (by decide+kernel)];kernel_rfl) | (rw [if_neg (by decide+kernel)];exact ⟨rfl,rfl⟩))
  (fun os started H enc _=>KX os started H enc)
theorem apparatusValue_holds:Rows.ApparatusValueCardSaid:=
 Claim7.holds_tied_plain_at .later [] [.data,.data] true (true, "7487adcbb88cd8c76305f1b55bc750fc8aca60cf0a33624839d1e2bb64e58a1a") false
  U0 (fun _ h=>by cases h) (by kernel_rfl) (fun _ h=>by cases h) apparatusValue_row_tie rfl ⟨rfl,rfl⟩ (by kernel_rfl) rfl
  (fun f fn hf hfn=>by
   obtain rfl:f=5:=Option.some.inj ((show Tryz.prog.funcNamed "kinesphere/kinespherelaw44.ApparatusValue" =some 5 by kernel_rfl).symm.trans hf) |>.symm
   obtain rfl:fn=Tryz.f5:=(Option.some.inj (Tryz.func5.symm.trans hfn)).symm
   exact ⟨by kernel_rfl,fun j t ht=>by
    rw [Tryz.params5] at ht
    have hm:t∈[35,22,26,36,23,47]:=by simpa using Array.mem_of_getElem? ht
    have hall:([35,22,26,36,23,47].all fun u=> !Tryz.prog.wantsStandIn u)=true:=by kernel_rfl
    exact (show Tryz.prog.wantsStandIn t=false by simpa using List.all_eq_true.1 hall t hm)⟩)
  (by kernel_rfl)
#print axioms apparatusValue_holds
end
end Go.Proofs.YtodakphagkommaaGreatDoor
