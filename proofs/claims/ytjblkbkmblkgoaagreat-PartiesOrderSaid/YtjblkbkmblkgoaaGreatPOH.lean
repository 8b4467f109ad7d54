/- partiesOrder_holds, part H of the proof: what its theorems say holds without further conditions. -/
import Derived.Test.YtjblkbkmblkgoaaGreatRows
import Derived.Test.YtjblkbkmblkgoaaGreatPOG
namespace Go.Proofs.YtjblkbkmblkgoaaGreat
section
open Go Go.Kn Go.Proofs
open Go.ChangeShapes Go.WideShapes Go.ChangeAt Go.RowKit
set_option maxRecDepth 100000
theorem ZT:Tryz.prog.underlying 3=some (.int .i64):=by kernel_rfl
theorem zqt:Tryz.prog.underlying 45=some (.struct (Tryz.prog.fieldsOf 45)):=by kernel_rfl
theorem zp3:Tryz.prog.underlying 32=some (.struct (Tryz.prog.fieldsOf 32)):=by kernel_rfl
theorem zp9:Tryz.prog.underlying 30=some (.struct (Tryz.prog.fieldsOf 30)):=by kernel_rfl
theorem zrD:Tryz.prog.underlying 39=some (.struct (Tryz.prog.fieldsOf 39)):=by kernel_rfl
theorem zqx:Tryz.prog.underlying 36=some (.struct (Tryz.prog.fieldsOf 36)):=by kernel_rfl
theorem zkM:Tryz.prog.underlying 34=some (.struct (Tryz.prog.fieldsOf 34)):=by kernel_rfl
theorem zpN:Tryz.prog.underlying 37=some (.slice 3):=by kernel_rfl
theorem zqk:Tryz.prog.underlying 41=some (.struct (Tryz.prog.fieldsOf 41)):=by kernel_rfl
theorem zq1:Tryz.prog.underlying 43=some (.struct (Tryz.prog.fieldsOf 43)):=by kernel_rfl
theorem zom:Tryz.prog.underlying 9=some .string:=by kernel_rfl
theorem zpj:Tryz.prog.underlying 47=some (.struct (Tryz.prog.fieldsOf 47)):=by kernel_rfl
theorem zqY:Tryz.prog.underlying 79=some (.slice 47):=by kernel_rfl
theorem zjA:Tryz.prog.underlying 5=some (.int .u8):=by kernel_rfl
theorem zpY:Tryz.prog.underlying 80=some (.slice 5):=by kernel_rfl
theorem zu8:Tryz.prog.underlying 4=some .bool:=by kernel_rfl
theorem zsF {n:Int}(h:(Lit.int .u8 n).wf=true):0≤n∧n≤255:=by
 simp only [Lit.wf,Bool.and_eq_true,decide_eq_true_eq] at h
 exact h
theorem zvc {H:Type}{enc:TypeId×Value→H}{W:World}(fuel:Nat)(cs:List Value)(x:DataW H×List MemPlace)(h:DataW.trod enc Tryz.prog W 0 (fun _=>true) true fuel 47 cs=some x):∃ y:Ev,(EvM (zbv W)) y∧zaB y=cs:=by
 obtain ⟨hl,n0_,f0⟩:=Je (C:=49) zpj (by kernel_rfl) h
 match cs,hl with
 | (c0::c1::c2::c3::c4::c5::c6::c7::c8::c9::c10::c11::c12::c13::c14::c15::c16::c17::c18::c19::c20::c21::c22::c23::c24::c25::c26::c27::c28::c29::c30::c31::c32::c33::c34::c35::c36::c37::c38::c39::c40::c41::c42::c43::c44::c45::c46::c47::c48::[]),_=>
  obtain ⟨_,g0_0⟩:=f0 0 3 0 1 (by kernel_rfl) (by kernel_rfl)
  obtain ⟨n0,e0,_,w0⟩:=DataW.trod_int ZT (show DataW.trod enc Tryz.prog W 0 (fun _=>true) true n0_ 3 [c0]=some _ from g0_0)
  obtain ⟨_,g0_1⟩:=f0 1 3 1 1 (by kernel_rfl) (by kernel_rfl)
  obtain ⟨n1,e1,_,w1⟩:=DataW.trod_int ZT (show DataW.trod enc Tryz.prog W 0 (fun _=>true) true n0_ 3 [c1]=some _ from g0_1)
  obtain ⟨_,g0_2⟩:=f0 2 3 2 1 (by kernel_rfl) (by kernel_rfl)
  obtain ⟨n2,e2,_,w2⟩:=DataW.trod_int ZT (show DataW.trod enc Tryz.prog W 0 (fun _=>true) true n0_ 3 [c2]=some _ from g0_2)
  obtain ⟨_,g0_3⟩:=f0 3 3 3 1 (by kernel_rfl) (by kernel_rfl)
  obtain ⟨n3,e3,_,w3⟩:=DataW.trod_int ZT (show DataW.trod enc Tryz.prog W 0 (fun _=>true) true n0_ 3 [c3]=some _ from g0_3)
  obtain ⟨_,g0_4⟩:=f0 4 45 4 45 (by kernel_rfl) (by kernel_rfl)
  obtain ⟨_,n1_,f1⟩:=Je (C:=45) zqt (by kernel_rfl) (show DataW.trod enc Tryz.prog W 0 (fun _=>true) true n0_ 45 (c4::c5::c6::c7::c8::c9::c10::c11::c12::c13::c14::c15::c16::c17::c18::c19::c20::c21::c22::c23::c24::c25::c26::c27::c28::c29::c30::c31::c32::c33::c34::c35::c36::c37::c38::c39::c40::c41::c42::c43::c44::c45::c46::c47::c48::[])=some _ from g0_4)
  obtain ⟨_,g1_0⟩:=f1 0 3 0 1 (by kernel_rfl) (by kernel_rfl)
  obtain ⟨n4,e4,_,w4⟩:=DataW.trod_int ZT (show DataW.trod enc Tryz.prog W 0 (fun _=>true) true n1_ 3 [c4]=some _ from g1_0)
  obtain ⟨_,g1_1⟩:=f1 1 32 1 9 (by kernel_rfl) (by kernel_rfl)
  obtain ⟨_,n2_,f2⟩:=Je (C:=9) zp3 (by kernel_rfl) (show DataW.trod enc Tryz.prog W 0 (fun _=>true) true n1_ 32 [c5,c6,c7,c8,c9,c10,c11,c12,c13]=some _ from g1_1)
  obtain ⟨_,g2_0⟩:=f2 0 3 0 1 (by kernel_rfl) (by kernel_rfl)
  obtain ⟨n5,e5,_,w5⟩:=DataW.trod_int ZT (show DataW.trod enc Tryz.prog W 0 (fun _=>true) true n2_ 3 [c5]=some _ from g2_0)
  obtain ⟨_,g2_1⟩:=f2 1 3 1 1 (by kernel_rfl) (by kernel_rfl)
  obtain ⟨n6,e6,_,w6⟩:=DataW.trod_int ZT (show DataW.trod enc Tryz.prog W 0 (fun _=>true) true n2_ 3 [c6]=some _ from g2_1)
  obtain ⟨_,g2_2⟩:=f2 2 3 2 1 (by kernel_rfl) (by kernel_rfl)
  obtain ⟨n7,e7,_,w7⟩:=DataW.trod_int ZT (show DataW.trod enc Tryz.prog W 0 (fun _=>true) true n2_ 3 [c7]=some _ from g2_2)
  obtain ⟨_,g2_3⟩:=f2 3 3 3 1 (by kernel_rfl) (by kernel_rfl)
  obtain ⟨n8,e8,_,w8⟩:=DataW.trod_int ZT (show DataW.trod enc Tryz.prog W 0 (fun _=>true) true n2_ 3 [c8]=some _ from g2_3)
  obtain ⟨_,g2_4⟩:=f2 4 3 4 1 (by kernel_rfl) (by kernel_rfl)
  obtain ⟨n9,e9,_,w9⟩:=DataW.trod_int ZT (show DataW.trod enc Tryz.prog W 0 (fun _=>true) true n2_ 3 [c9]=some _ from g2_4)
  obtain ⟨_,g2_5⟩:=f2 5 3 5 1 (by kernel_rfl) (by kernel_rfl)
  obtain ⟨n10,e10,_,w10⟩:=DataW.trod_int ZT (show DataW.trod enc Tryz.prog W 0 (fun _=>true) true n2_ 3 [c10]=some _ from g2_5)
  obtain ⟨_,g2_6⟩:=f2 6 30 6 3 (by kernel_rfl) (by kernel_rfl)
  obtain ⟨_,n3_,f3⟩:=Je (C:=3) zp9 (by kernel_rfl) (show DataW.trod enc Tryz.prog W 0 (fun _=>true) true n2_ 30 [c11,c12,c13]=some _ from g2_6)
  obtain ⟨_,g3_0⟩:=f3 0 3 0 1 (by kernel_rfl) (by kernel_rfl)
  obtain ⟨n11,e11,_,w11⟩:=DataW.trod_int ZT (show DataW.trod enc Tryz.prog W 0 (fun _=>true) true n3_ 3 [c11]=some _ from g3_0)
  obtain ⟨_,g3_1⟩:=f3 1 3 1 1 (by kernel_rfl) (by kernel_rfl)
  obtain ⟨n12,e12,_,w12⟩:=DataW.trod_int ZT (show DataW.trod enc Tryz.prog W 0 (fun _=>true) true n3_ 3 [c12]=some _ from g3_1)
  obtain ⟨_,g3_2⟩:=f3 2 3 2 1 (by kernel_rfl) (by kernel_rfl)
  obtain ⟨n13,e13,_,w13⟩:=DataW.trod_int ZT (show DataW.trod enc Tryz.prog W 0 (fun _=>true) true n3_ 3 [c13]=some _ from g3_2)
  obtain ⟨_,g1_2⟩:=f1 2 39 10 19 (by kernel_rfl) (by kernel_rfl)
  obtain ⟨_,n4_,f4⟩:=Je (C:=19) zrD (by kernel_rfl) (show DataW.trod enc Tryz.prog W 0 (fun _=>true) true n1_ 39 [c14,c15,c16,c17,c18,c19,c20,c21,c22,c23,c24,c25,c26,c27,c28,c29,c30,c31,c32]=some _ from g1_2)
  obtain ⟨_,g4_0⟩:=f4 0 3 0 1 (by kernel_rfl) (by kernel_rfl)
  obtain ⟨n14,e14,_,w14⟩:=DataW.trod_int ZT (show DataW.trod enc Tryz.prog W 0 (fun _=>true) true n4_ 3 [c14]=some _ from g4_0)
  obtain ⟨_,g4_1⟩:=f4 1 3 1 1 (by kernel_rfl) (by kernel_rfl)
  obtain ⟨n15,e15,_,w15⟩:=DataW.trod_int ZT (show DataW.trod enc Tryz.prog W 0 (fun _=>true) true n4_ 3 [c15]=some _ from g4_1)
  obtain ⟨_,g4_2⟩:=f4 2 3 2 1 (by kernel_rfl) (by kernel_rfl)
  obtain ⟨n16,e16,_,w16⟩:=DataW.trod_int ZT (show DataW.trod enc Tryz.prog W 0 (fun _=>true) true n4_ 3 [c16]=some _ from g4_2)
  obtain ⟨_,g4_3⟩:=f4 3 3 3 1 (by kernel_rfl) (by kernel_rfl)
  obtain ⟨n17,e17,_,w17⟩:=DataW.trod_int ZT (show DataW.trod enc Tryz.prog W 0 (fun _=>true) true n4_ 3 [c17]=some _ from g4_3)
  obtain ⟨_,g4_4⟩:=f4 4 36 4 14 (by kernel_rfl) (by kernel_rfl)
  obtain ⟨_,n5_,f5⟩:=Je (C:=14) zqx (by kernel_rfl) (show DataW.trod enc Tryz.prog W 0 (fun _=>true) true n4_ 36 [c18,c19,c20,c21,c22,c23,c24,c25,c26,c27,c28,c29,c30,c31]=some _ from g4_4)
  obtain ⟨_,g5_0⟩:=f5 0 3 0 1 (by kernel_rfl) (by kernel_rfl)
  obtain ⟨n18,e18,_,w18⟩:=DataW.trod_int ZT (show DataW.trod enc Tryz.prog W 0 (fun _=>true) true n5_ 3 [c18]=some _ from g5_0)
  obtain ⟨_,g5_1⟩:=f5 1 3 1 1 (by kernel_rfl) (by kernel_rfl)
  obtain ⟨n19,e19,_,w19⟩:=DataW.trod_int ZT (show DataW.trod enc Tryz.prog W 0 (fun _=>true) true n5_ 3 [c19]=some _ from g5_1)
  obtain ⟨_,g5_2⟩:=f5 2 3 2 1 (by kernel_rfl) (by kernel_rfl)
  obtain ⟨n20,e20,_,w20⟩:=DataW.trod_int ZT (show DataW.trod enc Tryz.prog W 0 (fun _=>true) true n5_ 3 [c20]=some _ from g5_2)
  obtain ⟨_,g5_3⟩:=f5 3 3 3 1 (by kernel_rfl) (by kernel_rfl)
  obtain ⟨n21,e21,_,w21⟩:=DataW.trod_int ZT (show DataW.trod enc Tryz.prog W 0 (fun _=>true) true n5_ 3 [c21]=some _ from g5_3)
  obtain ⟨_,g5_4⟩:=f5 4 3 4 1 (by kernel_rfl) (by kernel_rfl)
  obtain ⟨n22,e22,_,w22⟩:=DataW.trod_int ZT (show DataW.trod enc Tryz.prog W 0 (fun _=>true) true n5_ 3 [c22]=some _ from g5_4)
  obtain ⟨_,g5_5⟩:=f5 5 3 5 1 (by kernel_rfl) (by kernel_rfl)
  obtain ⟨n23,e23,_,w23⟩:=DataW.trod_int ZT (show DataW.trod enc Tryz.prog W 0 (fun _=>true) true n5_ 3 [c23]=some _ from g5_5)
  obtain ⟨_,g5_6⟩:=f5 6 3 6 1 (by kernel_rfl) (by kernel_rfl)
  obtain ⟨n24,e24,_,w24⟩:=DataW.trod_int ZT (show DataW.trod enc Tryz.prog W 0 (fun _=>true) true n5_ 3 [c24]=some _ from g5_6)
  obtain ⟨_,g5_7⟩:=f5 7 3 7 1 (by kernel_rfl) (by kernel_rfl)
  obtain ⟨n25,e25,_,w25⟩:=DataW.trod_int ZT (show DataW.trod enc Tryz.prog W 0 (fun _=>true) true n5_ 3 [c25]=some _ from g5_7)
  obtain ⟨_,g5_8⟩:=f5 8 3 8 1 (by kernel_rfl) (by kernel_rfl)
  obtain ⟨n26,e26,_,w26⟩:=DataW.trod_int ZT (show DataW.trod enc Tryz.prog W 0 (fun _=>true) true n5_ 3 [c26]=some _ from g5_8)
  obtain ⟨_,g5_9⟩:=f5 9 3 9 1 (by kernel_rfl) (by kernel_rfl)
  obtain ⟨n27,e27,_,w27⟩:=DataW.trod_int ZT (show DataW.trod enc Tryz.prog W 0 (fun _=>true) true n5_ 3 [c27]=some _ from g5_9)
  obtain ⟨_,g5_10⟩:=f5 10 34 10 2 (by kernel_rfl) (by kernel_rfl)
  obtain ⟨_,n6_,f6⟩:=Je (C:=2) zkM (by kernel_rfl) (show DataW.trod enc Tryz.prog W 0 (fun _=>true) true n5_ 34 [c28,c29]=some _ from g5_10)
  obtain ⟨_,g6_0⟩:=f6 0 3 0 1 (by kernel_rfl) (by kernel_rfl)
  obtain ⟨n28,e28,_,w28⟩:=DataW.trod_int ZT (show DataW.trod enc Tryz.prog W 0 (fun _=>true) true n6_ 3 [c28]=some _ from g6_0)
  obtain ⟨_,g6_1⟩:=f6 1 3 1 1 (by kernel_rfl) (by kernel_rfl)
  obtain ⟨n29,e29,_,w29⟩:=DataW.trod_int ZT (show DataW.trod enc Tryz.prog W 0 (fun _=>true) true n6_ 3 [c29]=some _ from g6_1)
  obtain ⟨_,g5_11⟩:=f5 11 34 12 2 (by kernel_rfl) (by kernel_rfl)
  obtain ⟨_,n7_,f7⟩:=Je (C:=2) zkM (by kernel_rfl) (show DataW.trod enc Tryz.prog W 0 (fun _=>true) true n5_ 34 [c30,c31]=some _ from g5_11)
  obtain ⟨_,g7_0⟩:=f7 0 3 0 1 (by kernel_rfl) (by kernel_rfl)
  obtain ⟨n30,e30,_,w30⟩:=DataW.trod_int ZT (show DataW.trod enc Tryz.prog W 0 (fun _=>true) true n7_ 3 [c30]=some _ from g7_0)
  obtain ⟨_,g7_1⟩:=f7 1 3 1 1 (by kernel_rfl) (by kernel_rfl)
  obtain ⟨n31,e31,_,w31⟩:=DataW.trod_int ZT (show DataW.trod enc Tryz.prog W 0 (fun _=>true) true n7_ 3 [c31]=some _ from g7_1)
  obtain ⟨_,g4_5⟩:=f4 5 37 18 1 (by kernel_rfl) (by kernel_rfl)
  obtain ⟨a32,m32,q32,n32,e32,s32,o32,_⟩:=zg3 (t:=37) (e:=3) Yg (fun n:Int=> -9223372036854775808≤n∧n≤9223372036854775807) zpN (by kernel_rfl) (by decide) Zw (fun fuel cs x h=>zsI ZT rfl fuel cs x h) (show DataW.trod enc Tryz.prog W 0 (fun _=>true) true n4_ 37 [c32]=some _ from g4_5)
  obtain ⟨_,g1_3⟩:=f1 3 41 29 5 (by kernel_rfl) (by kernel_rfl)
  obtain ⟨_,n8_,f8⟩:=Je (C:=5) zqk (by kernel_rfl) (show DataW.trod enc Tryz.prog W 0 (fun _=>true) true n1_ 41 [c33,c34,c35,c36,c37]=some _ from g1_3)
  obtain ⟨_,g8_0⟩:=f8 0 3 0 1 (by kernel_rfl) (by kernel_rfl)
  obtain ⟨n33,e33,_,w33⟩:=DataW.trod_int ZT (show DataW.trod enc Tryz.prog W 0 (fun _=>true) true n8_ 3 [c33]=some _ from g8_0)
  obtain ⟨_,g8_1⟩:=f8 1 3 1 1 (by kernel_rfl) (by kernel_rfl)
  obtain ⟨n34,e34,_,w34⟩:=DataW.trod_int ZT (show DataW.trod enc Tryz.prog W 0 (fun _=>true) true n8_ 3 [c34]=some _ from g8_1)
  obtain ⟨_,g8_2⟩:=f8 2 3 2 1 (by kernel_rfl) (by kernel_rfl)
  obtain ⟨n35,e35,_,w35⟩:=DataW.trod_int ZT (show DataW.trod enc Tryz.prog W 0 (fun _=>true) true n8_ 3 [c35]=some _ from g8_2)
  obtain ⟨_,g8_3⟩:=f8 3 3 3 1 (by kernel_rfl) (by kernel_rfl)
  obtain ⟨n36,e36,_,w36⟩:=DataW.trod_int ZT (show DataW.trod enc Tryz.prog W 0 (fun _=>true) true n8_ 3 [c36]=some _ from g8_3)
  obtain ⟨_,g8_4⟩:=f8 4 3 4 1 (by kernel_rfl) (by kernel_rfl)
  obtain ⟨n37,e37,_,w37⟩:=DataW.trod_int ZT (show DataW.trod enc Tryz.prog W 0 (fun _=>true) true n8_ 3 [c37]=some _ from g8_4)
  obtain ⟨_,g1_4⟩:=f1 4 43 34 11 (by kernel_rfl) (by kernel_rfl)
  obtain ⟨_,n9_,f9⟩:=Je (C:=11) zq1 (by kernel_rfl) (show DataW.trod enc Tryz.prog W 0 (fun _=>true) true n1_ 43 [c38,c39,c40,c41,c42,c43,c44,c45,c46,c47,c48]=some _ from g1_4)
  obtain ⟨_,g9_0⟩:=f9 0 3 0 1 (by kernel_rfl) (by kernel_rfl)
  obtain ⟨n38,e38,_,w38⟩:=DataW.trod_int ZT (show DataW.trod enc Tryz.prog W 0 (fun _=>true) true n9_ 3 [c38]=some _ from g9_0)
  obtain ⟨_,g9_1⟩:=f9 1 3 1 1 (by kernel_rfl) (by kernel_rfl)
  obtain ⟨n39,e39,_,w39⟩:=DataW.trod_int ZT (show DataW.trod enc Tryz.prog W 0 (fun _=>true) true n9_ 3 [c39]=some _ from g9_1)
  obtain ⟨_,g9_2⟩:=f9 2 3 2 1 (by kernel_rfl) (by kernel_rfl)
  obtain ⟨n40,e40,_,w40⟩:=DataW.trod_int ZT (show DataW.trod enc Tryz.prog W 0 (fun _=>true) true n9_ 3 [c40]=some _ from g9_2)
  obtain ⟨_,g9_3⟩:=f9 3 3 3 1 (by kernel_rfl) (by kernel_rfl)
  obtain ⟨n41,e41,_,w41⟩:=DataW.trod_int ZT (show DataW.trod enc Tryz.prog W 0 (fun _=>true) true n9_ 3 [c41]=some _ from g9_3)
  obtain ⟨_,g9_4⟩:=f9 4 3 4 1 (by kernel_rfl) (by kernel_rfl)
  obtain ⟨n42,e42,_,w42⟩:=DataW.trod_int ZT (show DataW.trod enc Tryz.prog W 0 (fun _=>true) true n9_ 3 [c42]=some _ from g9_4)
  obtain ⟨_,g9_5⟩:=f9 5 3 5 1 (by kernel_rfl) (by kernel_rfl)
  obtain ⟨n43,e43,_,w43⟩:=DataW.trod_int ZT (show DataW.trod enc Tryz.prog W 0 (fun _=>true) true n9_ 3 [c43]=some _ from g9_5)
  obtain ⟨_,g9_6⟩:=f9 6 9 6 1 (by kernel_rfl) (by kernel_rfl)
  obtain ⟨n44,e44,_⟩:=DataW.trod_string zom (show DataW.trod enc Tryz.prog W 0 (fun _=>true) true n9_ 9 [c44]=some _ from g9_6)
  obtain ⟨_,g9_7⟩:=f9 7 9 7 1 (by kernel_rfl) (by kernel_rfl)
  obtain ⟨n45,e45,_⟩:=DataW.trod_string zom (show DataW.trod enc Tryz.prog W 0 (fun _=>true) true n9_ 9 [c45]=some _ from g9_7)
  obtain ⟨_,g9_8⟩:=f9 8 3 8 1 (by kernel_rfl) (by kernel_rfl)
  obtain ⟨n46,e46,_,w46⟩:=DataW.trod_int ZT (show DataW.trod enc Tryz.prog W 0 (fun _=>true) true n9_ 3 [c46]=some _ from g9_8)
  obtain ⟨_,g9_9⟩:=f9 9 3 9 1 (by kernel_rfl) (by kernel_rfl)
  obtain ⟨n47,e47,_,w47⟩:=DataW.trod_int ZT (show DataW.trod enc Tryz.prog W 0 (fun _=>true) true n9_ 3 [c47]=some _ from g9_9)
  obtain ⟨_,g9_10⟩:=f9 10 3 10 1 (by kernel_rfl) (by kernel_rfl)
  obtain ⟨n48,e48,_,w48⟩:=DataW.trod_int ZT (show DataW.trod enc Tryz.prog W 0 (fun _=>true) true n9_ 3 [c48]=some _ from g9_10)
  cases e0;cases e1;cases e2;cases e3;cases e4;cases e5;cases e6;cases e7;cases e8;cases e9;cases e10;cases e11;cases e12;cases e13;cases e14;cases e15;cases e16;cases e17;cases e18;cases e19;cases e20;cases e21;cases e22;cases e23;cases e24;cases e25;cases e26;cases e27;cases e28;cases e29;cases e30;cases e31;cases e32;cases e33;cases e34;cases e35;cases e36;cases e37;cases e38;cases e39;cases e40;cases e41;cases e42;cases e43;cases e44;cases e45;cases e46;cases e47;cases e48
  exact ⟨⟨n0,n1,n2,n3,⟨n4,⟨n5,n6,n7,n8,n9,n10,n11,n12,n13⟩,⟨n14,n15,n16,n17,⟨n18,n19,n20,n21,n22,n23,n24,n25,n26,n27,n28,n29,n30,n31⟩,a32,m32,q32,n32⟩,⟨n33,n34,n35,n36,n37⟩,⟨n38,n39,n40,n41,n42,n43,n44,n45,n46,n47,n48⟩⟩⟩,⟨s32,⟨List.forall_mem_cons.2 ⟨Z5 w4,List.forall_mem_cons.2 ⟨Z5 w5,List.forall_mem_cons.2 ⟨Z5 w6,List.forall_mem_cons.2 ⟨Z5 w7,List.forall_mem_cons.2 ⟨Z5 w8,List.forall_mem_cons.2 ⟨Z5 w9,List.forall_mem_cons.2 ⟨Z5 w10,List.forall_mem_cons.2 ⟨Z5 w11,List.forall_mem_cons.2 ⟨Z5 w12,List.forall_mem_cons.2 ⟨Z5 w13,List.forall_mem_cons.2 ⟨Z5 w14,List.forall_mem_cons.2 ⟨Z5 w15,List.forall_mem_cons.2 ⟨Z5 w16,List.forall_mem_cons.2 ⟨Z5 w17,List.forall_mem_cons.2 ⟨Z5 w18,List.forall_mem_cons.2 ⟨Z5 w19,List.forall_mem_cons.2 ⟨Z5 w20,List.forall_mem_cons.2 ⟨Z5 w21,List.forall_mem_cons.2 ⟨Z5 w22,List.forall_mem_cons.2 ⟨Z5 w23,List.forall_mem_cons.2 ⟨Z5 w24,List.forall_mem_cons.2 ⟨Z5 w25,List.forall_mem_cons.2 ⟨Z5 w26,List.forall_mem_cons.2 ⟨Z5 w27,List.forall_mem_cons.2 ⟨Z5 w28,List.forall_mem_cons.2 ⟨Z5 w29,List.forall_mem_cons.2 ⟨Z5 w30,List.forall_mem_cons.2 ⟨Z5 w31,List.forall_mem_cons.2 ⟨Z5 w33,List.forall_mem_cons.2 ⟨Z5 w34,List.forall_mem_cons.2 ⟨Z5 w35,List.forall_mem_cons.2 ⟨Z5 w36,List.forall_mem_cons.2 ⟨Z5 w37,List.forall_mem_cons.2 ⟨Z5 w38,List.forall_mem_cons.2 ⟨Z5 w39,List.forall_mem_cons.2 ⟨Z5 w40,List.forall_mem_cons.2 ⟨Z5 w41,List.forall_mem_cons.2 ⟨Z5 w42,List.forall_mem_cons.2 ⟨Z5 w43,List.forall_mem_cons.2 ⟨Z5 w46,List.forall_mem_cons.2 ⟨Z5 w47,List.forall_mem_cons.2 ⟨Z5 w48,fun y hy=>(by cases hy)⟩⟩⟩⟩⟩⟩⟩⟩⟩⟩⟩⟩⟩⟩⟩⟩⟩⟩⟩⟩⟩⟩⟩⟩⟩⟩⟩⟩⟩⟩⟩⟩⟩⟩⟩⟩⟩⟩⟩⟩⟩⟩,o32⟩⟩,rfl⟩
theorem zlX {H:Type}{enc:TypeId×Value→H}{W:World}{base:Nat}{v:Value}{d:DataW H}{p:List MemPlace}(hv:Value.okWide Tryz.prog W .any base 79 v)(h:DataW.Trod enc Tryz.prog W 0 (fun _=>true) true 79 v d p):
  ∃ av n c xs,v= .slice av n c∧EvS (zbv W) av n c xs:=by
 obtain ⟨av,n,c,xs,e,hS,hok,_⟩:=zku (e:=47) zaB (EvM (zbv W)) zqY (by kernel_rfl) (by decide) zme (fun fuel cs x h=>zvc fuel cs x h) hv h
 exact ⟨av,n,c,xs,e,⟨hS,hok⟩⟩
theorem zvD {H:Type}{enc:TypeId×Value→H}{W:World}(fuel:Nat)(cs:List Value)(x:DataW H×List MemPlace)(h:DataW.trod enc Tryz.prog W 0 (fun _=>true) true fuel 5 cs=some x):∃ y:Nat,y≤255∧VN y=cs:=by
 obtain ⟨v,hv⟩:∃ v,cs=[v]:=by
  have:=h
  cases fuel with
  | zero=>simp [DataW.trod] at this
  | succ m=>unfold DataW.trod at this;rw [zjA] at this;split at this<;>simp_all
 subst hv
 obtain ⟨n,e,_,w⟩:=DataW.trod_int zjA h
 cases e
 have h2:=zsF w
 refine ⟨n.toNat,by omega,?_⟩
 show [Value.int .u8 (n.toNat:Int)]=_
 rw [Int.toNat_of_nonneg h2.1]
theorem zpQ {H:Type}{enc:TypeId×Value→H}{W:World}{base:Nat}{v:Value}{d:DataW H}{p:List MemPlace}(hv:Value.okWide Tryz.prog W .any base 80 v)(h:DataW.Trod enc Tryz.prog W 0 (fun _=>true) true 80 v d p):
  ∃ av n c xs,v= .slice av n c∧(Sl (zbv W) 1 VN av n c xs∧∀ y∈xs,y≤255):=by
 obtain ⟨av,n,c,xs,e,hS,hok,_⟩:=zku (e:=5) VN (fun y:Nat=>y≤255) zpY (by kernel_rfl) (by decide) ZW (fun fuel cs x h=>zvD fuel cs x h) hv h
 exact ⟨av,n,c,xs,e,⟨hS,hok⟩⟩
end
section
open Go Go.Kn Go.Proofs
open Go.ChangeShapes Go.WideShapes Go.ChangeAt Go.RowKit
theorem own:ownKnob Tryz.prog.godebug=none:=by kernel_rfl
theorem zpG:laidOutB Tryz.prog=true:=by kernel_rfl
set_option maxRecDepth 100000 in
theorem UP (os:Os) (started:os.Started) (H:Type) (enc:TypeId×Value→H):
  ReturnsInHanded {} Tryz.checked os 7 .any (Rows.partiesOrderSpec.pre6 enc Tryz.prog Tryz.f7 Rows.partiesOrderRow.domain false) (Rows.partiesOrderSpec.post enc Tryz.prog Tryz.f7 false true false false):=by
 refine returnsInHanded_of_change (C:=Tryz.checked) own started (by kernel_rfl) Tryz.func7
  (ChangeSpec.witness6 (enc:=enc) (C:=Tryz.checked) false ⟨#[], #[.int .u8 0,.slice none 0 0,.slice none 0 0],[]⟩ 8 (by kernel_rfl) (by kernel_rfl) (by kernel_rfl) (by kernel_rfl)) ?_
 intro W base args ds gs before hval0 hW hcnd _
 have hval:∀ (j:Nat) t v,Tryz.f7.params[j]? =some t→args[j]? =some v→Value.okWide Tryz.prog W .any base t v:=hval0
 have hW':=hW
 obtain ⟨p,q,hA0,hV,rfl,hfz,hnd⟩:=hW
 have hA:DataW.TrodAll enc Tryz.prog W 0 (fun _=>true) true Tryz.f7.params.toList args.toList ds p:=hA0
 rw [Tryz.params7] at hA hval
 obtain ⟨v0,vs1,d0,ds1,p0,q1,ea,rfl,rfl,h0,hA⟩:=trodAll_cons hA
 obtain ⟨v1,vs2,d1,ds2,p1,q2,rfl,rfl,rfl,h1,hA⟩:=trodAll_cons hA
 obtain ⟨v2,vs3,d2,ds3,p2,q3,rfl,rfl,rfl,h2,hA⟩:=trodAll_cons hA
 obtain ⟨rfl,rfl,rfl⟩:=trodAll_nil hA
 have ea':args= #[v0,v1,v2]:=by rw [←Array.toArray_toList (xs:=args),ea]
 subst ea'
 obtain ⟨rfl,rfl⟩:=trodVars_none hV
 obtain ⟨rm,rfl,_,_,wfrm⟩:=open_int zjA (hval 0 5 v0 rfl rfl) h0
 have hr:=zsF wfrm
 obtain ⟨av,n,c,xs,rfl,hE⟩:=zlX (hval 1 79 v1 rfl rfl) h1
 obtain ⟨ob,on,oc,os2,rfl,hY,hy8⟩:=zpQ (hval 2 80 v2 rfl rfl) h2
 refine (Yb.law (zpv hE rm hr hY hy8)).mono fun e W' ⟨he,hB⟩=>?_
 subst he
 exact ⟨_,rfl,znd zpG (by kernel_rfl) zu8 rfl rfl (by rw [Tryz.params7];simp only [List.mem_cons,List.not_mem_nil,or_false,forall_eq_or_imp,forall_eq];exact ⟨⟨by kernel_rfl,of_decide_eq_true (by kernel_rfl)⟩,⟨by kernel_rfl,of_decide_eq_true (by kernel_rfl)⟩,⟨by kernel_rfl,of_decide_eq_true (by kernel_rfl)⟩⟩) hW' hB⟩
end
section
open Go Go.Kn Go.Proofs
open Go.ChangeShapes Go.WideShapes Go.ChangeAt Go.RowKit
theorem VP {a b:Bool}(h1:a=true)(h2:b=true):(a&&b)=true:=by rw [h1,h2];rfl
theorem jf0:(Rows.partiesOrderRow.wf (OpenSpec.ofChange Rows.partiesOrderSpec))=true:=by kernel_rfl
theorem jf1:(laidOutB Tryz.checked.prog)=true:=by kernel_rfl
theorem jf2:(mapsRowed Tryz.checked.prog)=true:=by kernel_rfl
theorem jf3:(Tryz.f7.params.all (Tryz.checked.prog.readableRec ·))=true:=by kernel_rfl
theorem jf4:(namedTie Tryz.checked.prog Rows.partiesOrderRow.named Rows.partiesOrderSpec.vars)=true:=by kernel_rfl
theorem jf5:(Rows.partiesOrderRow.stops== [])=true:=by kernel_rfl
theorem jf6:(Tryz.checked.prog.stops== [])=true:=by kernel_rfl
theorem jf7:(Rows.partiesOrderRow.knobs== [])=true:=by kernel_rfl
theorem jf8:(Tryz.checked.prog.stopKnobs== [])=true:=by kernel_rfl
theorem jf9:(Rows.partiesOrderRow.inPlace==(Tryz.checked.prog.inPlace 7))=true:=by kernel_rfl
theorem zwh:(Rows.partiesOrderRow.unfollowed==(Tryz.checked.prog.unfollowed 7))=true:=by kernel_rfl
theorem zwb:(Rows.partiesOrderRow.recurses==(Tryz.checked.prog.recurses 7))=true:=by kernel_rfl
theorem zwi:(Rows.partiesOrderRow.named==(Tryz.checked.prog.varsNamed 7))=true:=by kernel_rfl
theorem zwl:(Rows.partiesOrderRow.maps==(Tryz.f7.params.toList++Rows.partiesOrderSpec.plain.varTypes Tryz.checked.prog).any (Tryz.checked.prog.mapsRec ·))=true:=by kernel_rfl
theorem zwD:(Rows.partiesOrderRow.ifaces==(Tryz.f7.params.toList++Rows.partiesOrderSpec.plain.varTypes Tryz.checked.prog).any (Tryz.checked.prog.ifacesRec ·))=true:=by kernel_rfl
theorem zwy:(Rows.partiesOrderRow.mapsOut==Tryz.checked.prog.mapsAmong Tryz.f7.resultTypes.toList)=true:=by kernel_rfl
theorem zwk:(Rows.partiesOrderRow.loops==(Tryz.f7.params.toList++Rows.partiesOrderSpec.plain.varTypes Tryz.checked.prog).any (Tryz.checked.prog.loopsFrom ·))=true:=by kernel_rfl
theorem zv6:(Rows.partiesOrderRow.wideKeys==(Tryz.f7.params.toList++Rows.partiesOrderSpec.plain.varTypes Tryz.checked.prog++Tryz.f7.resultTypes.toList).any (Tryz.checked.prog.wideKeysFrom ·))=true:=by kernel_rfl
theorem zww:(Rows.partiesOrderSpec.vars.all (Tryz.checked.prog.varReadable ·))=true:=by kernel_rfl
theorem zwg:(Tryz.f7.resultTypes.all (fun t=>Tryz.checked.prog.readableRec t&&decide (t<Tryz.checked.prog.types.size)))=true:=by kernel_rfl
theorem zwu:(Rows.partiesOrderRow.ifacesOut==Tryz.f7.resultTypes.toList.any (Tryz.checked.prog.ifacesRec ·))=true:=by kernel_rfl
theorem zv7:(Rows.partiesOrderRow.loopsOut==Tryz.f7.resultTypes.toList.any (Tryz.checked.prog.loopsFrom ·))=true:=by kernel_rfl
theorem zwj:(Rows.partiesOrderRow.plainKeys==Tryz.checked.prog.plainKeys)=true:=by kernel_rfl
theorem zwc:(Rows.partiesOrderRow.shortTexts.isNone)=true:=by kernel_rfl
theorem zwr:(Tryz.checked.prog.stopsHeard)=true:=by kernel_rfl
theorem zwo:(Tryz.checked.prog.mayEnter)=true:=by kernel_rfl
theorem zws:(Rows.partiesOrderRow.lifted==Tryz.checked.prog.liftsFinal)=true:=by kernel_rfl
theorem zwx:(Tryz.checked.prog.make==some Rows.partiesOrderRow.make)=true:=by kernel_rfl
theorem zwH:(Rows.partiesOrderRow.pinned==Rows.partiesOrderRow.pinnedBy)=true:=by kernel_rfl
theorem zwn:(Rows.partiesOrderRow.veiled==(Tryz.f7.params.toList++Rows.partiesOrderSpec.plain.varTypes Tryz.checked.prog++Tryz.f7.resultTypes.toList).any (Tryz.checked.prog.veiledRec ·))=true:=by kernel_rfl
theorem zwq:(Rows.partiesOrderRow.veiledFits Tryz.checked.prog Tryz.f7.params.toList (Tryz.f7.params.toList++Rows.partiesOrderSpec.plain.varTypes Tryz.checked.prog++Tryz.f7.resultTypes.toList))=true:=by kernel_rfl
theorem zup:joinedFacts Tryz.checked.prog 7 Tryz.f7 Rows.partiesOrderSpec Rows.partiesOrderRow=true:=by
 unfold joinedFacts
 exact (VP (VP (VP (VP (VP (VP (VP (VP (VP (VP (VP (VP (VP (VP (VP (VP (VP (VP (VP (VP (VP (VP (VP (VP (VP (VP (VP (VP (VP (VP (VP jf0 jf1) jf2) jf3) jf4) jf5) jf6) jf7) jf8) jf9) zwh) zwb) zwi) zwl) zwD) zwy) zwk) zv6) zww) zwg) zwu) zv7) zwj) zwc) zwr) zwo) zws) zwx) (by kernel_rfl)) zwH) zwn) zwq)
theorem partiesOrder_holds:Rows.PartiesOrderSaid:=
 OpenClaim.holds_of_wide 7 Tryz.f7 rfl rfl rfl rfl rfl rfl rfl ⟨rfl,rfl,rfl,rfl,rfl⟩ rfl rfl rfl rfl rfl (by kernel_rfl) Tryz.func7 zup
  (of_decide_eq_true (by kernel_rfl)) (by unfold Func.isWrapper;first | (rw [if_pos (by decide+kernel)];kernel_rfl) | (rw [if_neg (by decide+kernel)];exact ⟨rfl,rfl⟩))
  (fun os started H enc _=>UP os started H enc)
#print axioms partiesOrder_holds
end
end Go.Proofs.YtjblkbkmblkgoaaGreat
