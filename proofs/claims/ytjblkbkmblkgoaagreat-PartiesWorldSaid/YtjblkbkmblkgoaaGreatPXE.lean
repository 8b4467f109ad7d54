/- partiesWorld_holds, part E of the proof: what its theorems say holds without further conditions. -/
import Derived.Test.YtjblkbkmblkgoaaGreatPXD
namespace Go.Proofs.YtjblkbkmblkgoaaGreat
section
open Go Go.Kn Go.Proofs
theorem zrS:Fun Tryz.prog 178:=.of Tryz.func178 kA kA
theorem zkA:PlT Tryz.prog 99 #[(0,1),(1,1),(2,1)] (.agg #[(.int .i64 0),(.int .i64 0),(.slice none 0 0)]):=⟨.of kA,kA,fun w=>kA⟩
theorem U2 {I:Qu}{qa aa:Option Addr}{qn qc an ac:Nat}{qs:List Pk}{ks:List (Int×Int)}(hQ:Sl I 3 Zz qa qn qc qs)(hqn:qn≤100000)(hA:Sl I 2 K6 aa an ac ks)(han:an≤100000)(i:Int):Vs Tryz.prog 113 [.agg #[.slice qa qn qc,.slice aa an ac],.int .i64 i] I [] (fun v I' L'=>∃ pk a m c a2 m2 c2,v= .tuple #[W9 pk,.agg #[.slice a m c,.slice a2 m2 c2],.int .i64 (atE qs ks i)]∧L'=[]∧(atE qs ks i=0→pk=Jn qs ks i)∧zi5 I' (atE qs ks i) a m c a2 m2 c2 (qs.eraseIdx i.toNat) aa an ac):=by
 intro g H w hw
 refine qe Tryz.func113 Tryz.ntmps113 hw ?_
 have hIc:=zz4 I
 refine zR ?_
 refine QO rfl rfl rfl (fun b_2=>?_)
 refine Qr zcu rfl rfl (fun b_4=>?_)
 refine Qr UR rfl rfl (fun b_5=>?_)
 refine zA (zN (Qo (zR ?_)))
 refine zV (Qg rfl ZM (fun hg=>by exact Cells.g2) rfl) ?_
 refine zM ?_
 refine qcV (vs:=[_,_]) rfl zf8 (zyU hQ hqn hA han i) ?_
 refine zM ?_
 refine zE ?_
 refine zE ?_
 refine zh JQ ?_
 refine zA ?_
 refine zN (zR ?_)
 refine zM ?_
 refine zC (zN ?_)
 refine zI ?_ ?_<;>intro hc14
 ·
  have he:atE qs ks i≠0:=by simpa using hc14
  refine Qo ?_
  have hD:=zz4 I
  refine Zn ?_
  refine QL I [(b_5,.cells #[.slice none 0 0,.slice none 0 0] 26 (0,0)),(b_4,.cells (Zz (atP qs ks i)).toArray 99 (0,0))] mixed ?_
  refine zT 0 rfl (Qg rfl VY (fun hg=>by exact Cells.g1) rfl) hD ?_
  refine zT 1 rfl (Qg rfl ZM (fun hg=>by exact Cells.g0) rfl) hD ?_
  refine zT 2 rfl (Qe rfl) hD ?_
  refine qd 3 rfl ?_
  refine zh JQ ?_
  refine Qb ?_
  refine zD hD ?_
  refine qd 4 rfl ?_
  refine zh Yt ?_
  refine Qb ?_
  refine zD hD ?_
  refine zT 5 rfl (Qv rfl) hD ?_
  refine Ql kA ?_
  refine Qt ?_
  refine Qd (Qs (Qf ?_))
  exact zbR rfl rfl rfl rfl (.ag VY (.there .here) rfl) (.ag ZM .here rfl) (fun w hw=>⟨_,I,[],rfl,hIc,hw.drop.drop.drop,_,_,_,_,_,_,_,rfl,rfl,fun h=>absurd h he,XY he⟩)
 have he:atE qs ks i=0:=by simpa using hc14
 have hr:0≤i∧i<(qn:Int):=by have h:=zdk he;rw [hQ.len] at h;exact h
 refine Qp (Qd (Qo (Qo ?_)))
 have hD:=zz4 I
 refine Zn ?_
 refine QL I [(b_4,.cells (Zz (atP qs ks i)).toArray 99 (0,0)),(b_2,.cells #[.slice qa qn qc,.slice aa an ac] 26 (0,0))] mixed ?_
 refine zT 0 rfl (Qa rfl zdg) hD ?_
 refine zT 1 rfl (Qc rfl zjH (fun hg=>by exact QA.h1 rfl)) hD ?_
 refine zT 2 rfl (Qa rfl zaI) hD ?_
 refine zT 3 rfl (Qc rfl Qm (fun hg=>by exact QA.h0 rfl)) hD ?_
 refine zT 4 rfl (Qa rfl Xy) hD ?_
 refine zT 5 rfl (Qc rfl Qm (fun hg=>by exact QA.h0 rfl)) hD ?_
 refine qd 6 rfl ?_
 refine qcV (vs:=[_,_]) rfl zmo (zeQ _ _ _) ?_
 refine Qb ?_
 refine zD hD ?_
 refine qd 7 rfl ?_
 refine qcV (vs:=[_,_]) rfl zrS (zyZ hA han (_,_)) ?_
 refine Qb ?_
 refine zD hD ?_
 refine Ql kA ?_
 refine Qt ?_
 refine Qd ?_
 refine zI ?_ ?_<;>intro hc25
 ·
  have hcut:zqG ks (atP qs ks i)=true:=hc25
  refine Qi ?_
  refine zV (QI (ps:=[]) [_,_,_] zkA rfl rfl) ?_
  refine zh JQ ?_
  refine zN (Qo ?_)
  refine zgc (loc':=[(b_5,.cells #[.slice none 0 0,.slice none 0 0] 26 (0,0)),(b_4,.cells (Zz (Jn qs ks i)).toArray 99 (0,0)),(b_2,.cells #[.slice qa qn qc,.slice aa an ac] 26 (0,0))]) (by (rw [zpN hcut];rfl)) ?_
  have hD:=zz4 I
  refine Zn ?_
  refine QL I [(b_4,.cells (Zz (Jn qs ks i)).toArray 99 (0,0)),(b_2,.cells #[.slice qa qn qc,.slice aa an ac] 26 (0,0))] mixed ?_
  refine zT 0 rfl (Qg rfl VY (fun hg=>by exact Cells.g0) rfl) hD ?_
  refine zT 1 rfl (Qg rfl ZM (fun hg=>by exact Cells.g1) rfl) hD ?_
  refine zT 2 rfl (Qe rfl) hD ?_
  refine qd 3 rfl ?_
  refine zpc [_,_] rfl zgC .nil (zca hQ hqn hA han hr) ?_
  rintro vv1 I1 L1 hI1 ⟨a4,m4,c4,rfl,hm4,hZ,rfl⟩
  have hIc:=hIc.trans hI1;have hD:=hD.trans hI1
  refine Qb ?_
  refine zD hD ?_
  refine qd 4 rfl ?_
  refine zh JQ ?_
  refine Qb ?_
  refine zD hD ?_
  refine qd 5 rfl ?_
  refine zh Yt ?_
  refine Qb ?_
  refine zD hD ?_
  refine zT 6 rfl (Qv rfl) hD ?_
  refine Ql kA ?_
  refine Qt ?_
  refine Qd (Qs ?_)
  first
  | exact zbR rfl rfl rfl rfl (.ag VY (.there .here) rfl) (.ag ZM .here rfl) (fun w hw=>⟨_,I1,[],rfl,hIc,hw.drop.drop.drop,_,_,_,_,_,_,_,by rw [he]<;>rfl,rfl,fun _=>rfl,zdQ he hZ⟩)
 have hcut:zqG ks (atP qs ks i)=false:=hc25
 refine Qp (Qd (Qo ?_))
 refine zgc (loc':=[(b_5,.cells #[.slice none 0 0,.slice none 0 0] 26 (0,0)),(b_4,.cells (Zz (Jn qs ks i)).toArray 99 (0,0)),(b_2,.cells #[.slice qa qn qc,.slice aa an ac] 26 (0,0))]) (by (rw [zt8 hcut]<;>rfl)) ?_
 have hD:=zz4 I
 refine Zn ?_
 refine QL I [(b_4,.cells (Zz (Jn qs ks i)).toArray 99 (0,0)),(b_2,.cells #[.slice qa qn qc,.slice aa an ac] 26 (0,0))] mixed ?_
 refine zT 0 rfl (Qg rfl VY (fun hg=>by exact Cells.g0) rfl) hD ?_
 refine zT 1 rfl (Qg rfl ZM (fun hg=>by exact Cells.g1) rfl) hD ?_
 refine zT 2 rfl (Qe rfl) hD ?_
 refine qd 3 rfl ?_
 refine zpc [_,_] rfl zgC .nil (zca hQ hqn hA han hr) ?_
 rintro vv2 I2 L2 hI2 ⟨a4,m4,c4,rfl,hm4,hZ,rfl⟩
 have hIc:=hIc.trans hI2;have hD:=hD.trans hI2
 refine Qb ?_
 refine zD hD ?_
 refine qd 4 rfl ?_
 refine zh JQ ?_
 refine Qb ?_
 refine zD hD ?_
 refine qd 5 rfl ?_
 refine zh Yt ?_
 refine Qb ?_
 refine zD hD ?_
 refine zT 6 rfl (Qv rfl) hD ?_
 refine Ql kA ?_
 refine Qt ?_
 refine Qd (Qs ?_)
 first
 | exact zbR rfl rfl rfl rfl (.ag VY (.there .here) rfl) (.ag ZM .here rfl) (fun w hw=>⟨_,I2,[],rfl,hIc,hw.drop.drop.drop,_,_,_,_,_,_,_,by rw [he]<;>rfl,rfl,fun _=>rfl,zdQ he hZ⟩)
end
section
open Go Go.Kn Go.Proofs
theorem Yk:QJ Tryz.prog 108 0 0:=.of kA
theorem YB:QJ Tryz.prog 28 0 0:=.of kA
theorem Kt:Fun Tryz.prog 107:=.of Tryz.func107 kA kA
theorem JM:ScT Tryz.prog 22:=.of kA
theorem Jk:SlT Tryz.prog 22 59 1:=.of kA
theorem UP (I:Qu)(b:Bool)(e:Int):Ug Tryz.prog 107 [.bool b,.int .i64 e] I [] (fun v I' L'=>v= .tuple #[]∧I'=I∧L'=[]∧b=true) (fun v=>v= .iface 50 (.int .i64 e)∧b=false):=by
 intro g H w hw
 refine qe Tryz.func107 Tryz.ntmps107 hw ?_
 have hIc:=zz4 I
 refine zR (zM ?_)
 refine zO (zN ?_)
 refine zI ?_ ?_<;>intro hc5
 ·
  refine Qi (zM ?_)
  refine zV (zcJ rfl kA) ?_
  refine zez rfl ?_
  repeat (first | apply Ud | apply Kl)
  exact zbK hIc ⟨rfl,by simpa using hc5⟩
 refine Qp ?_
 exact YG (Yi rfl (fun w hw=>.inl ⟨_,I,[],rfl,hIc,hw.drop,rfl,rfl,rfl,by simpa using hc5⟩))
theorem zge {I:Qu}{bc:Nat}{pa qa aa:Option Addr}{pn pc qn qc an ac:Nat}(i:Int):Ug Tryz.prog 106 [Zw bc,.int .i64 i] I [(bc,.cells #[.slice pa pn pc,.slice qa qn qc,.slice aa an ac] 108 (0,0))] (fun v I' L'=>v= .tuple #[]∧I'=I∧L'=[(bc,.cells #[.slice pa pn pc,.slice qa qn qc,.slice aa an ac] 108 (0,0))]∧0≤i∧i<(pn:Int)) (fun v=>v= .iface 50 (.int .i64 1)∧¬(0≤i∧i<(pn:Int))):=by
 intro g H w hw
 refine qe Tryz.func106 Tryz.ntmps106 hw ?_
 have hIc:=zz4 I
 refine Qi (zM ?_)
 refine zC ?_
 refine zM ?_
 refine Qq 2 rfl rfl rfl ?_
 refine zK (Qe rfl) ?_
 refine zK (Qe rfl) ?_
 refine zK (QG rfl) ?_
 refine zK (Qa rfl Yk) ?_
 refine zK (Qa rfl YB) ?_
 refine zK (Qc rfl JM (fun hg=>by exact QA.h0 rfl)) ?_
 refine zK (QU rfl Jk) ?_
 refine zK (Qz rfl rfl rfl) ?_
 refine QB rfl rfl rfl rfl rfl ?_
 refine zx5 [_,_] rfl Kt .nil (UP I (decide (i≥0)&&decide (i<(pn:Int))) 1) ?_ (fun pv hpv=>by refine zx6 ?_;exact (⟨hpv.1,by have h:=hpv.2;simp at h;omega⟩))
 rintro vv1 I1 L1 hI1 ⟨rfl,rfl,rfl,hok⟩
 have hIc:=hIc.trans hI1
 have hok2:0≤i∧i<(pn:Int):=by simpa using hok
 refine Qb ?_
 exact YG (Yi rfl (fun w hw=>.inl ⟨_,I1,_,rfl,hIc,hw,rfl,rfl,rfl,hok2.1,hok2.2⟩))
end
section
open Go Go.Kn Go.Proofs
theorem YT:QJ Tryz.prog 28 1 1:=.of kA
theorem zd3:QJ Tryz.prog 47 3 3:=.of kA
theorem zl4:Fun Tryz.prog 114:=.of Tryz.func114 kA kA
theorem zjJ:Fun Tryz.prog 115:=.of Tryz.func115 kA kA
theorem zwC {I:Qu}{bc:Nat}{pa qa aa:Option Addr}{pn pc qn qc an ac:Nat}{qs:List Pk}{ks:List (Int×Int)}(hQ:Sl I 3 Zz qa qn qc qs)(hqn:qn≤100000)(hA:Sl I 2 K6 aa an ac ks)(han:an≤100000)(x:Ev):Ug Tryz.prog 49 [Zw bc,.agg (zeV x).toArray] I [(bc,.cells #[.slice pa pn pc,.slice qa qn qc,.slice aa an ac] 108 (0,0))] (fun v I' L'=>v= .tuple #[]∧atE qs ks x.at_=0∧∃ a m c,L'=[(bc,.cells #[.slice pa pn pc,.slice a m c,.slice aa an ac] 108 (0,0))]∧Sl I' 3 Zz a m c (qs.eraseIdx x.at_.toNat)) (fun v=>v= .iface 50 (.int .i64 (atE qs ks x.at_))∧atE qs ks x.at_≠0):=by
 intro g H w hw
 refine qe Tryz.func49 Tryz.ntmps49 hw ?_
 have hIc:=zz4 I
 refine zR ?_
 refine QO rfl rfl rfl (fun b_3=>?_)
 refine Qb ?_
 refine QF .here (fun I1 hI1 hb1=>?_)
 have hQ:=hQ.mono hI1;have hA:=hA.mono hI1;have hIc:=hIc.trans hI1
 have h3:=BxI.of hb1
 refine Qd (Qo ?_)
 have hD:=zz4 I1
 refine QL I1 [(bc,.cells #[.slice pa pn pc,.slice qa qn qc,.slice aa an ac] 108 (0,0))] mixed ?_
 refine zT 0 rfl (Qe rfl) hD ?_
 refine zT 1 rfl (QG rfl) hD ?_
 refine zT 2 rfl (Qa rfl Yk) hD ?_
 refine zT 3 rfl (Qa rfl YT) hD ?_
 refine zT 4 rfl (Qg rfl ZM (fun hg=>by exact Cells.s0 (vs:=[_,_]) rfl) rfl) hD ?_
 refine zT 5 rfl (Qa rfl zd3) hD ?_
 refine zT 6 rfl (Qc rfl Qm (fun hg=>by exact QA.imm h3.out rfl)) hD ?_
 refine QS 7 11 rfl rfl kA ?_ ?_
 ·
  refine zpc [_,_] rfl zl4 .nil (zqS hQ hqn hA han x.at_) ?_
  rintro vv2 I2 L2 hI2 ⟨a4,m4,c4,a5,m5,c5,rfl,rfl,hZ⟩
  have hIc:=hIc.trans hI2;have hD:=hD.trans hI2
  refine Qb ?_
  refine zD hD ?_
  refine zT 8 rfl (Qe rfl) hD ?_
  refine zT 9 rfl (Q2 rfl rfl) hD ?_
  refine zT 10 rfl (Q2 rfl rfl) hD ?_
  refine qd 11 rfl ?_
  refine Qr UR rfl rfl (fun b_4=>?_)
  refine Qb ?_
  refine zD hD ?_
  refine qd 12 rfl ?_
  refine zh Yt ?_
  refine Qb ?_
  refine zD hD ?_
  refine zT 13 rfl (Qv rfl) hD ?_
  refine Ql kA ?_
  refine Qd (zR (zM ?_))
  refine zC ?_
  refine zM ?_
  refine zx5 [_,_] rfl Kt .nil (UP I2 (atE qs ks x.at_==0) (atE qs ks x.at_)) ?_ (fun pv hpv=>by refine zx6 ?_;exact (⟨hpv.1,by simpa using hpv.2⟩))
  rintro vv3 I3 L3 hI3 ⟨rfl,rfl,rfl,hok⟩
  have hZ:=hZ.mono hI3;have hIc:=hIc.trans hI3
  have he:atE qs ks x.at_=0:=by simpa using hok
  obtain ⟨rfl,rfl,rfl,hS9⟩:=hZ.ok he
  refine zN (Qi (zM ?_))
  refine zV (Qg rfl ZM (fun hg=>by exact Cells.g0) rfl) ?_
  refine zV (QG rfl) ?_
  refine zF Yk ?_
  refine zF YT ?_
  refine Vd rfl rfl Yt rfl rfl rfl rfl (by repeat (first | exact Upd.here | apply Upd.there | apply ZE)) ?_
  refine Qb ?_
  exact YG (Yi rfl (fun w hw=>.inl ⟨_,I3,_,rfl,hIc,by exact hw.subL kL,rfl,he,_,_,_,rfl,hS9⟩))
 refine Qr UR rfl rfl (fun b_4=>?_)
 refine Qb ?_
 refine zD hD ?_
 refine qd 7 rfl ?_
 refine zpc [_,_] rfl zl4 .nil (zqS hQ hqn hA han x.at_) ?_
 rintro vv4 I4 L4 hI4 ⟨a4,m4,c4,a5,m5,c5,rfl,rfl,hZ⟩
 have hIc:=hIc.trans hI4;have hD:=hD.trans hI4
 refine Qb ?_
 refine zD hD ?_
 refine zT 8 rfl (Qe rfl) hD ?_
 refine zT 9 rfl (Q2 rfl rfl) hD ?_
 refine zT 10 rfl (Q2 rfl rfl) hD ?_
 refine qd 12 rfl ?_
 refine zh Yt ?_
 refine Qb ?_
 refine zD hD ?_
 refine zT 13 rfl (Qv rfl) hD ?_
 refine Ql kA ?_
 refine Qd (zR (zM ?_))
 refine zC ?_
 refine zM ?_
 refine zx5 [_,_] rfl Kt .nil (UP I4 (atE qs ks x.at_==0) (atE qs ks x.at_)) ?_ (fun pv hpv=>by refine zx6 ?_;exact (⟨hpv.1,by simpa using hpv.2⟩))
 rintro vv5 I5 L5 hI5 ⟨rfl,rfl,rfl,hok⟩
 have hZ:=hZ.mono hI5;have hIc:=hIc.trans hI5
 have he:atE qs ks x.at_=0:=by simpa using hok
 obtain ⟨rfl,rfl,rfl,hS9⟩:=hZ.ok he
 refine zN (Qi (zM ?_))
 refine zV (Qg rfl ZM (fun hg=>by exact Cells.g0) rfl) ?_
 refine zV (QG rfl) ?_
 refine zF Yk ?_
 refine zF YT ?_
 refine Vd rfl rfl Yt rfl rfl rfl rfl (by repeat (first | exact Upd.here | apply Upd.there | apply ZE)) ?_
 refine Qb ?_
 exact YG (Yi rfl (fun w hw=>.inl ⟨_,I5,_,rfl,hIc,by exact hw.subL kL,rfl,he,_,_,_,rfl,hS9⟩))
theorem zps {I:Qu}{bc:Nat}{pa qa aa:Option Addr}{pn pc qn qc an ac:Nat}{qs:List Pk}{ks:List (Int×Int)}(hQ:Sl I 3 Zz qa qn qc qs)(hqn:qn≤100000)(hA:Sl I 2 K6 aa an ac ks)(han:an≤100000)(x:Ev):Ug Tryz.prog 50 [Zw bc,.agg (zeV x).toArray] I [(bc,.cells #[.slice pa pn pc,.slice qa qn qc,.slice aa an ac] 108 (0,0))] (fun v I' L'=>v= .tuple #[]∧WF qs ks x.at_=0∧∃ a m c,L'=[(bc,.cells #[.slice pa pn pc,.slice a m c,.slice aa an ac] 108 (0,0))]∧Sl I' 3 Zz a m c (qs++[atP qs ks x.at_])) (fun v=>v= .iface 50 (.int .i64 (WF qs ks x.at_))∧WF qs ks x.at_≠0):=by
 intro g H w hw
 refine qe Tryz.func50 Tryz.ntmps50 hw ?_
 have hIc:=zz4 I
 refine zR ?_
 refine QO rfl rfl rfl (fun b_3=>?_)
 refine Qb ?_
 refine QF .here (fun I1 hI1 hb1=>?_)
 have hQ:=hQ.mono hI1;have hA:=hA.mono hI1;have hIc:=hIc.trans hI1
 have h3:=BxI.of hb1
 refine Qd (Qo ?_)
 have hD:=zz4 I1
 refine QL I1 [(bc,.cells #[.slice pa pn pc,.slice qa qn qc,.slice aa an ac] 108 (0,0))] mixed ?_
 refine zT 0 rfl (Qe rfl) hD ?_
 refine zT 1 rfl (QG rfl) hD ?_
 refine zT 2 rfl (Qa rfl Yk) hD ?_
 refine zT 3 rfl (Qa rfl YT) hD ?_
 refine zT 4 rfl (Qg rfl ZM (fun hg=>by exact Cells.s0 (vs:=[_,_]) rfl) rfl) hD ?_
 refine zT 5 rfl (Qa rfl zd3) hD ?_
 refine zT 6 rfl (Qc rfl Qm (fun hg=>by exact QA.imm h3.out rfl)) hD ?_
 refine QS 7 11 rfl rfl kA ?_ ?_
 ·
  refine zpc [_,_] rfl zjJ .nil (zhY hQ hqn hA han x.at_) ?_
  rintro vv2 I2 L2 hI2 ⟨a4,m4,c4,a5,m5,c5,rfl,rfl,hZ⟩
  have hIc:=hIc.trans hI2;have hD:=hD.trans hI2
  refine Qb ?_
  refine zD hD ?_
  refine zT 8 rfl (Qe rfl) hD ?_
  refine zT 9 rfl (Q2 rfl rfl) hD ?_
  refine zT 10 rfl (Q2 rfl rfl) hD ?_
  refine qd 11 rfl ?_
  refine Qr UR rfl rfl (fun b_4=>?_)
  refine Qb ?_
  refine zD hD ?_
  refine qd 12 rfl ?_
  refine zh Yt ?_
  refine Qb ?_
  refine zD hD ?_
  refine zT 13 rfl (Qv rfl) hD ?_
  refine Ql kA ?_
  refine Qd (zR (zM ?_))
  refine zC ?_
  refine zM ?_
  refine zx5 [_,_] rfl Kt .nil (UP I2 (WF qs ks x.at_==0) (WF qs ks x.at_)) ?_ (fun pv hpv=>by refine zx6 ?_;exact (⟨hpv.1,by simpa using hpv.2⟩))
  rintro vv3 I3 L3 hI3 ⟨rfl,rfl,rfl,hok⟩
  have hZ:=hZ.mono hI3;have hIc:=hIc.trans hI3
  have he:WF qs ks x.at_=0:=by simpa using hok
  obtain ⟨rfl,rfl,rfl,hS9⟩:=hZ.ok he
  refine zN (Qi (zM ?_))
  refine zV (Qg rfl ZM (fun hg=>by exact Cells.g0) rfl) ?_
  refine zV (QG rfl) ?_
  refine zF Yk ?_
  refine zF YT ?_
  refine Vd rfl rfl Yt rfl rfl rfl rfl (by repeat (first | exact Upd.here | apply Upd.there | apply ZE)) ?_
  refine Qb ?_
  exact YG (Yi rfl (fun w hw=>.inl ⟨_,I3,_,rfl,hIc,by exact hw.subL kL,rfl,he,_,_,_,rfl,hS9⟩))
 refine Qr UR rfl rfl (fun b_4=>?_)
 refine Qb ?_
 refine zD hD ?_
 refine qd 7 rfl ?_
 refine zpc [_,_] rfl zjJ .nil (zhY hQ hqn hA han x.at_) ?_
 rintro vv4 I4 L4 hI4 ⟨a4,m4,c4,a5,m5,c5,rfl,rfl,hZ⟩
 have hIc:=hIc.trans hI4;have hD:=hD.trans hI4
 refine Qb ?_
 refine zD hD ?_
 refine zT 8 rfl (Qe rfl) hD ?_
 refine zT 9 rfl (Q2 rfl rfl) hD ?_
 refine zT 10 rfl (Q2 rfl rfl) hD ?_
 refine qd 12 rfl ?_
 refine zh Yt ?_
 refine Qb ?_
 refine zD hD ?_
 refine zT 13 rfl (Qv rfl) hD ?_
 refine Ql kA ?_
 refine Qd (zR (zM ?_))
 refine zC ?_
 refine zM ?_
 refine zx5 [_,_] rfl Kt .nil (UP I4 (WF qs ks x.at_==0) (WF qs ks x.at_)) ?_ (fun pv hpv=>by refine zx6 ?_;exact (⟨hpv.1,by simpa using hpv.2⟩))
 rintro vv5 I5 L5 hI5 ⟨rfl,rfl,rfl,hok⟩
 have hZ:=hZ.mono hI5;have hIc:=hIc.trans hI5
 have he:WF qs ks x.at_=0:=by simpa using hok
 obtain ⟨rfl,rfl,rfl,hS9⟩:=hZ.ok he
 refine zN (Qi (zM ?_))
 refine zV (Qg rfl ZM (fun hg=>by exact Cells.g0) rfl) ?_
 refine zV (QG rfl) ?_
 refine zF Yk ?_
 refine zF YT ?_
 refine Vd rfl rfl Yt rfl rfl rfl rfl (by repeat (first | exact Upd.here | apply Upd.there | apply ZE)) ?_
 refine Qb ?_
 exact YG (Yi rfl (fun w hw=>.inl ⟨_,I5,_,rfl,hIc,by exact hw.subL kL,rfl,he,_,_,_,rfl,hS9⟩))
end
section
open Go Go.Kn Go.Proofs
def W8 (f:Nat→Int)(a:Option Addr)(n c:Nat)(needs:List Int)(name town:ByteArray):Nt:=
 ⟨f 0,⟨f 1,f 2,f 3,f 4,f 5,f 6,f 7,f 8,f 9⟩,⟨f 10,f 11,f 12,f 13,⟨f 14,f 15,f 16,f 17,f 18,f 19,f 20,f 21,f 22,f 23,f 24,f 25,f 26,f 27⟩,a,n,c,needs⟩,⟨f 28,f 29,f 30,f 31,f 32⟩,⟨f 33,f 34,f 35,f 36,f 37,f 38,name,town,f 39,f 40,f 41⟩⟩
def zns (hs:List Vc)(k j:Nat):Int:=if j<k then (hs.getD j W5).n else 0
def zln (hs:List Vc)(k:Nat):Nt:=W8 (zns hs k) none 0 0 [] ⟨#[]⟩ ⟨#[]⟩
theorem ztv:∀ k,k<42→(zi8.getD k 0).blt 45=true:=by decide
theorem JT (hs:List Vc):∀ k,k<42→(Q4 (zln hs k)).toArray.setIfInBounds (zi8.getD k 0) (.int .i64 (hs.getD k W5).n)=(Q4 (zln hs (k+1))).toArray
 | 0,_=>kA
 | 1,_=>kA
 | 2,_=>kA
 | 3,_=>kA
 | 4,_=>kA
 | 5,_=>kA
 | 6,_=>kA
 | 7,_=>kA
 | 8,_=>kA
 | 9,_=>kA
 | 10,_=>kA
 | 11,_=>kA
 | 12,_=>kA
 | 13,_=>kA
 | 14,_=>kA
 | 15,_=>kA
 | 16,_=>kA
 | 17,_=>kA
 | 18,_=>kA
 | 19,_=>kA
 | 20,_=>kA
 | 21,_=>kA
 | 22,_=>kA
 | 23,_=>kA
 | 24,_=>kA
 | 25,_=>kA
 | 26,_=>kA
 | 27,_=>kA
 | 28,_=>kA
 | 29,_=>kA
 | 30,_=>kA
 | 31,_=>kA
 | 32,_=>kA
 | 33,_=>kA
 | 34,_=>kA
 | 35,_=>kA
 | 36,_=>kA
 | 37,_=>kA
 | 38,_=>kA
 | 39,_=>kA
 | 40,_=>kA
 | 41,_=>kA
 | k+42,h=>absurd h kB
def isI:Va→Bool
 | .int _=>true
 | _=>false
def zi7:Va→Int
 | .int n=>n
 | _=>0
def X2:Va→Option Nt
 | .list l=>if l.length=45∧(l.take 42).all isI=true then match l.drop 42 with
   | [.list q,.text a,.text b]=>if q.all isI=true then some (W8 (fun j=>zi7 (l.getD j (.int 0))) none q.length 0 (q.map zi7) (Wl a) (Wl b)) else none
   | _=>none
  else none
 | _=>none
def YN (x:Nt):Nt:={x with pt:={x.pt with a:=none,n:=x.pt.needs.length,c:=0}}
def okN (bs:List Nat):Option Nt:=(zcv bs).bind fun v=>(X2 v).bind fun y=>if QM y=true then some y else none
theorem Jt {x:Nt}(h:x.pt.n=x.pt.needs.length):QM (YN x)=QM x:=by
 obtain ⟨k,lm,⟨i,kd,s,fd,nw,a,n,c,nd⟩,ls,rt⟩:=x
 simp only at h
 subst h
 rfl
theorem zg5 (xs:List Int):(xs.map Va.int).all isI=true:=by
 induction xs with
 | nil=>rfl
 | cons a l ih=>simp [isI,ih]
theorem zoy (xs:List Int):(xs.map Va.int).map zi7=xs:=by
 induction xs with
 | nil=>rfl
 | cons a l ih=>simp only [List.map_cons,zi7,ih]
theorem zgx (x:Nt):X2 (KF x)=some (YN x):=by
 unfold KF X2
 have h1:((YS x).map Va.int++[Va.list (x.pt.needs.map .int),.text (K9 x.rt.name),.text (K9 x.rt.town)]).length=45:=by simp [YK]
 have h2:((YS x).map Va.int++[Va.list (x.pt.needs.map .int),.text (K9 x.rt.name),.text (K9 x.rt.town)]).take 42=(YS x).map Va.int:=List.take_left' (by rw [List.length_map,YK])
 have h3:((YS x).map Va.int++[Va.list (x.pt.needs.map .int),.text (K9 x.rt.name),.text (K9 x.rt.town)]).drop 42=[Va.list (x.pt.needs.map .int),.text (K9 x.rt.name),.text (K9 x.rt.town)]:=List.drop_left' (by rw [List.length_map,YK])
 simp only [h2,h3]
 rw [if_pos ⟨h1,zg5 _⟩,if_pos (zg5 _),zoy,XB,XB,List.length_map]
 congr 1
def zuF (I:Qu)(bs:List Nat)(cv:Vc)(e:Int):Prop:=(e=0∧∃ x,zcv bs=some x∧VaR I x cv)∨(e=10∧zcv bs=none∧cv=W5)
theorem zuF.mono {I I':Qu}{bs:List Nat}{cv:Vc}{e:Int}(h:zuF I bs cv e)(hI:HLe I I'):zuF I' bs cv e:=h.imp (fun ⟨h1,x,h2,h3⟩=>⟨h1,x,h2,h3.mono hI⟩) id
theorem ziC {bs:List Nat}{v:Value}{I':Qu}{L':Go.Kn.Loc}(h:zpq bs v I' L'):L'=[]∧∃ cv e,v= .tuple #[.agg (Za cv).toArray,.int .i64 e]∧zuF I' bs cv e:=by
 obtain ⟨h1,h2⟩:=h
 refine ⟨h1,?_⟩
 cases hd:zcv bs with
 | none=>rw [hd] at h2;exact ⟨W5,10,h2,.inr ⟨rfl,hd,rfl⟩⟩
 | some x=>rw [hd] at h2;obtain ⟨cv,e1,e2⟩:=h2;exact ⟨cv,0,e1,.inl ⟨rfl,x,hd,e2⟩⟩
structure RdP (I:Qu)(bs:List Nat)(cv:Vc)(l:List Va)(hs:List Vc):Prop where
 dec:zcv bs=some (.list l)
 sl:Sl I 4 Za cv.a cv.m cv.c hs
 m:cv.m=45
 len:l.length=45
 rel:∀ (k:Nat) (x:Va) (y:Vc),l[k]? =some x→hs[k]? =some y→VaR I x y
theorem RdP.mono {I I':Qu}{bs:List Nat}{cv:Vc}{l:List Va}{hs:List Vc}(h:RdP I bs cv l hs)(hI:HLe I I'):RdP I' bs cv l hs:=⟨h.dec,h.sl.mono hI,h.m,h.len,fun k x y hx hy=>(h.rel k x y hx hy).mono hI⟩
theorem RdP.hlen {I:Qu}{bs:List Nat}{cv:Vc}{l:List Va}{hs:List Vc}(h:RdP I bs cv l hs):hs.length=45:=by rw [h.sl.len,h.m]
theorem zbe {I:Qu}{x:Va}{y:Vc}(h:VaR I x y):isI x=(y.k==1):=by cases h<;>rfl
theorem zhy {I:Qu}{x:Va}{y:Vc}(h:VaR I x y)(hk:isI x=true):zi7 x=y.n:=by cases h<;>first | rfl | cases hk
theorem zcR {l:List Va}(h:¬(l.length=45∧(l.take 42).all isI=true)):X2 (.list l)=none:=by
 unfold X2
 simp only [if_neg h]
theorem za0 {bs:List Nat}{l:List Va}(h:zcv bs=some (.list l))(hr:X2 (.list l)=none):okN bs=none:=by unfold okN;rw [h,Option.bind_some,hr];rfl
theorem zwo {I:Qu}{bs:List Nat}{cv:Vc}{e:Int}(h:zuF I bs cv e)(hc:((e != 0||cv.k != 3)||(cv.m:Int) != 45)=true):okN bs=none:=by
 rcases h with ⟨he,x,hd,hx⟩ | ⟨he,hd,hz⟩
 ·
  subst he
  cases hx with
  | int n=>unfold okN;rw [hd];rfl
  | text s=>unfold okN;rw [hd];rfl
  | list hS hl hr=>
   rename_i l hs a m c
   refine za0 hd ?_
   have hm:=hS.len
   have:¬(l.length=45):=fun e45=>by
    rw [hl,hm] at e45
    simp [e45] at hc
   exact zcR (fun h2=>this h2.1)
 ·
  unfold okN;rw [hd];rfl
theorem zsW {I:Qu}{bs:List Nat}{cv:Vc}{e:Int}(h:zuF I bs cv e)(hc:((e != 0||cv.k != 3)||(cv.m:Int) != 45)=false):∃ l hs,RdP I bs cv l hs:=by
 simp only [Bool.or_eq_false_iff,bne_eq_false_iff_eq] at hc
 obtain ⟨⟨he,hk⟩,hm⟩:=hc
 rcases h with ⟨_,x,hd,hx⟩ | ⟨he2,_,_⟩
 ·
  cases hx with
  | int n=>simp at hk
  | text s=>simp at hk
  | list hS hl hr=>
   rename_i l hs a m c
   have hm2:(m:Int)=45:=hm
   have hm3:m=45:=kB
   exact ⟨l,hs,hd,hS,hm3,by rw [hl,hS.len];exact hm3,hr⟩
 ·
  omega
theorem zwQ {I:Qu}{bs:List Nat}{cv:Vc}{l:List Va}{hs:List Vc}(h:RdP I bs cv l hs){k:Nat}{y:Vc}(hk:k<42)(hy:hs[k]? =some y)(hne:(y.k != 1)=true):okN bs=none:=by
 refine za0 h.dec ?_
 obtain ⟨x,hx⟩:∃ x,l[k]? =some x:=⟨_,List.getElem?_eq_getElem (by rw [h.len];omega)⟩
 have hi:=zbe (h.rel k x y hx hy)
 have hf:isI x=false:=by rw [hi];simpa using hne
 refine zcR ?_
 rintro ⟨_,ha⟩
 have hm:x∈l.take 42:=List.mem_iff_getElem?.2 ⟨k,by rw [List.getElem?_take,if_pos hk];exact hx⟩
 have:=List.all_eq_true.1 ha x hm
 rw [hf] at this;cases this
theorem zfK {f g:Nat→Int}(h:∀ j,j<42→f j=g j){a:Option Addr}{n c:Nat}{needs:List Int}{name town:ByteArray}:W8 f a n c needs name town=W8 g a n c needs name town:=by
 unfold W8
 simp only [h 0 kD,h 1 kD,h 2 kD,h 3 kD,h 4 kD,h 5 kD,h 6 kD,h 7 kD,h 8 kD,h 9 kD,h 10 kD,h 11 kD,h 12 kD,h 13 kD,h 14 kD,h 15 kD,h 16 kD,h 17 kD,h 18 kD,h 19 kD,h 20 kD,h 21 kD,h 22 kD,h 23 kD,h 24 kD,h 25 kD,h 26 kD,h 27 kD,h 28 kD,h 29 kD,h 30 kD,h 31 kD,h 32 kD,h 33 kD,h 34 kD,h 35 kD,h 36 kD,h 37 kD,h 38 kD,h 39 kD,h 40 kD,h 41 kD]
theorem zsn {I:Qu}{bs:List Nat}{cv:Vc}{l:List Va}{hs:List Vc}(h:RdP I bs cv l hs)(hall:∀ j y,j<42→hs[j]? =some y→(y.k != 1)=false):(l.take 42).all isI=true:=by
 rw [List.all_eq_true]
 intro x hx
 obtain ⟨j,hj⟩:=List.mem_iff_getElem?.1 hx
 rw [List.getElem?_take] at hj
 split at hj
 ·
  rename_i hlt
  obtain ⟨y,hy⟩:∃ y,hs[j]? =some y:=⟨_,List.getElem?_eq_getElem (by rw [h.hlen];omega)⟩
  rw [zbe (h.rel j x y hj hy)]
  have:=hall j y hlt hy
  simpa using this
 ·
  cases hj
theorem zvx {l:List Va}(h:l.length=45){x y z:Va}(hx:l[42]? =some x)(hy:l[43]? =some y)(hz:l[44]? =some z):l.drop 42=[x,y,z]:=by
 apply List.ext_getElem?
 intro i
 rw [List.getElem?_drop]
 match i with
 | 0=>exact hx
 | 1=>exact hy
 | 2=>exact hz
 | i+3=>rw [List.getElem?_eq_none kB];rfl
structure RtP (I:Qu)(bs:List Nat)(l:List Va)(hs:List Vc)(u v w:Vc)(q:List Va)(qs:List Vc):Prop where
 dec:zcv bs=some (.list l)
 len:l.length=45
 ints:(l.take 42).all isI=true
 nums:∀ j,j<42→zi7 (l.getD j (.int 0))=zns hs 42 j
 drop:∃ a b,l.drop 42=[.list q,.text a,.text b]∧v.s=Wl a∧w.s=Wl b
 sl:Sl I 4 Za u.a u.m u.c qs
 qlen:q.length=qs.length
 rel:∀ (k:Nat) (x:Va) (y:Vc),q[k]? =some x→qs[k]? =some y→VaR I x y
theorem RtP.mono {I I':Qu}{bs:List Nat}{l:List Va}{hs:List Vc}{u v w:Vc}{q:List Va}{qs:List Vc}(h:RtP I bs l hs u v w q qs)(hI:HLe I I'):RtP I' bs l hs u v w q qs:=⟨h.dec,h.len,h.ints,h.nums,h.drop,h.sl.mono hI,h.qlen,fun k x y hx hy=>(h.rel k x y hx hy).mono hI⟩
theorem zrt {I:Qu}{bs:List Nat}{cv:Vc}{l:List Va}{hs:List Vc}(h:RdP I bs cv l hs)(hall:∀ j y,j<42→hs[j]? =some y→(y.k != 1)=false):∀ j,j<42→zi7 (l.getD j (.int 0))=zns hs 42 j:=by
 intro j hj
 obtain ⟨x,hx⟩:∃ x,l[j]? =some x:=⟨_,List.getElem?_eq_getElem (by rw [h.len];omega)⟩
 obtain ⟨y,hy⟩:∃ y,hs[j]? =some y:=⟨_,List.getElem?_eq_getElem (by rw [h.hlen];omega)⟩
 have hr:=h.rel j x y hx hy
 have hi:isI x=true:=by rw [zbe hr];simpa using hall j y hj hy
 unfold zns
 rw [if_pos hj,List.getD_eq_getElem?_getD,List.getD_eq_getElem?_getD,hx,hy]
 exact zhy hr hi
theorem zlG {I:Qu}{bs:List Nat}{cv:Vc}{l:List Va}{hs:List Vc}(h:RdP I bs cv l hs)(hall:∀ j y,j<42→hs[j]? =some y→(y.k != 1)=false){u v w:Vc}(hu:hs[42]? =some u)(hv:hs[43]? =some v)(hw:hs[44]? =some w):
  (((u.k != 3||v.k != 2)||w.k != 2)=true→okN bs=none)∧(((u.k != 3||v.k != 2)||w.k != 2)=false→∃ q qs,RtP I bs l hs u v w q qs):=by
 obtain ⟨x,hx⟩:∃ x,l[42]? =some x:=⟨_,List.getElem?_eq_getElem (by rw [h.len];omega)⟩
 obtain ⟨y,hy⟩:∃ x,l[43]? =some x:=⟨_,List.getElem?_eq_getElem (by rw [h.len];omega)⟩
 obtain ⟨z,hz⟩:∃ x,l[44]? =some x:=⟨_,List.getElem?_eq_getElem (by rw [h.len];omega)⟩
 have hd:=zvx h.len hx hy hz
 have r1:=h.rel 42 x u hx hu;have r2:=h.rel 43 y v hy hv;have r3:=h.rel 44 z w hz hw
 have hn:=zrt h hall
 have hi:=zsn h hall
 have hno:(∀ q a b,[x,y,z]≠[.list q,.text a,.text b])→okN bs=none:=fun hne=>za0 h.dec (by
  unfold X2
  simp only [if_pos (show l.length=45∧(l.take 42).all isI=true from ⟨h.len,hi⟩),hd])
 cases r1 with
 | int n=>exact ⟨fun _=>hno kV,fun hc=>by simp at hc⟩
 | text s=>exact ⟨fun _=>hno kV,fun hc=>by simp at hc⟩
 | list hS hl hr=>
  cases r2 with
  | int n=>exact ⟨fun _=>hno kV,fun hc=>by simp at hc⟩
  | list hS2 hl2 hr2=>exact ⟨fun _=>hno kV,fun hc=>by simp at hc⟩
  | text s=>
   cases r3 with
   | int n=>exact ⟨fun _=>hno kV,fun hc=>by simp at hc⟩
   | list hS2 hl2 hr2=>exact ⟨fun _=>hno kV,fun hc=>by simp at hc⟩
   | text s2=>exact ⟨fun hc=>by simp at hc,fun _=>⟨_,_,h.dec,h.len,hi,hn,⟨s,s2,hd,rfl,rfl⟩,hS,hl,hr⟩⟩
theorem ztt {I:Qu}{bs:List Nat}{l:List Va}{hs:List Vc}{u v w:Vc}{q:List Va}{qs:List Vc}(h:RtP I bs l hs u v w q qs){k:Nat}{y:Vc}(hy:qs[k]? =some y)(hne:(y.k != 1)=true):okN bs=none:=by
 refine za0 h.dec ?_
 obtain ⟨a,b,hd,_,_⟩:=h.drop
 have hk:=(List.getElem?_eq_some_iff.1 hy).1
 obtain ⟨x,hx⟩:∃ x,q[k]? =some x:=⟨_,List.getElem?_eq_getElem (by rw [h.qlen];exact hk)⟩
 have hf:isI x=false:=by rw [zbe (h.rel k x y hx hy)];simpa using hne
 have hq:¬(q.all isI=true):=fun e=>by
  have:=List.all_eq_true.1 e x (List.mem_of_getElem? hx)
  rw [hf] at this;cases this
 unfold X2
 simp only [if_pos (show l.length=45∧(l.take 42).all isI=true from ⟨h.len,h.ints⟩),hd,if_neg hq]
theorem ztB {I:Qu}{bs:List Nat}{l:List Va}{hs:List Vc}{u v w:Vc}{q:List Va}{qs:List Vc}(h:RtP I bs l hs u v w q qs)(hall:∀ j y,j<qs.length→qs[j]? =some y→(y.k != 1)=false)(a:Option Addr)(c:Nat):
  X2 (.list l)=some (YN (W8 (zns hs 42) a qs.length c (qs.map (·.n)) v.s w.s)):=by
 obtain ⟨s,s2,hd,e1,e2⟩:=h.drop
 have hq:q.all isI=true:=by
  rw [List.all_eq_true]
  intro x hx
  obtain ⟨j,hj⟩:=List.mem_iff_getElem?.1 hx
  have hjl:=(List.getElem?_eq_some_iff.1 hj).1
  obtain ⟨y,hy⟩:∃ y,qs[j]? =some y:=⟨_,List.getElem?_eq_getElem (by rw [←h.qlen];exact hjl)⟩
  rw [zbe (h.rel j x y hj hy)]
  simpa using hall j y (by rw [←h.qlen];exact hjl) hy
 have hm:q.map zi7=qs.map (·.n):=by
  apply List.ext_getElem?
  intro j
  rw [List.getElem?_map,List.getElem?_map]
  cases hx:q[j]? with
  | none=>rw [List.getElem?_eq_none (by rw [←h.qlen];exact List.getElem?_eq_none_iff.1 hx)];rfl
  | some x=>
   have hjl:=(List.getElem?_eq_some_iff.1 hx).1
   obtain ⟨y,hy⟩:∃ y,qs[j]? =some y:=⟨_,List.getElem?_eq_getElem (by rw [←h.qlen];exact hjl)⟩
   rw [hy]
   have hi:isI x=true:=List.all_eq_true.1 hq x (List.mem_of_getElem? hx)
   simp only [Option.map_some]
   rw [zhy (h.rel j x y hx hy) hi]
 unfold X2
 simp only [if_pos (show l.length=45∧(l.take 42).all isI=true from ⟨h.len,h.ints⟩),hd,if_pos hq]
 rw [zfK h.nums,hm,e1,e2]
 simp [YN,W8,h.qlen]
def fl2 (hs:List Vc)(v:Value):List Value:=(Q4 (zln hs 42)).set 28 v
theorem zw5 {I:Qu}{bs:List Nat}{l:List Va}{hs:List Vc}{u v w:Vc}{q:List Va}{qs:List Vc}(h:RtP I bs l hs u v w q qs)(hall:∀ j y,j<qs.length→qs[j]? =some y→(y.k != 1)=false){a:Option Addr}{n c:Nat}(hn:qs.length=n):
  okN bs=if QM (W8 (zns hs 42) a n c (qs.map (·.n)) v.s w.s)=true then some (YN (W8 (zns hs 42) a n c (qs.map (·.n)) v.s w.s)) else none:=by
 have h2:=ztB h hall a c
 rw [hn] at h2
 unfold okN
 rw [h.dec,Option.bind_some,h2,Option.bind_some,Jt (by simp [W8,hn])]
def zv4 (bs:List Nat)(I:Qu)(cs:List Value)(b:Bool):Prop:=(cs.length=45∧YF cs=true)∧((b=false∧okN bs=none)∨(b=true∧∃ x,cs=Q4 x∧Nd I x.pt∧okN bs=some (YN x)))
theorem zgJ {bs:List Nat}{I:Qu}{cs:List Value}(hl:cs.length=45)(ha:YF cs=true)(h:okN bs=none):zv4 bs I cs false:=⟨⟨hl,ha⟩,.inl ⟨rfl,h⟩⟩
theorem zto {bs:List Nat}{I:Qu}{x:Nt}(h:okN bs=if QM x=true then some (YN x) else none)(hN:Nd I x.pt):zv4 bs I (Q4 x) (QM x):=by
 refine ⟨⟨rfl,rfl⟩,?_⟩
 cases hf:QM x with
 | false=>rw [hf] at h;exact .inl ⟨rfl,h⟩
 | true=>rw [hf] at h;exact .inr ⟨rfl,x,rfl,hN,h⟩
theorem ztr {bs:List Nat}{v:Va}(hb:∀ c∈bs,c<256)(hl:bs.length<2^63)(h:zcv bs=some v):(Va.enc v).length≤bs.length:=by
 unfold zcv at h
 split at h
 ·
  rename_i x e
  cases h
  have:=(zhn hb hl e).1
  rw [this];simp
 ·
  cases h
theorem zv1 {I:Qu}{bs:List Nat}{l:List Va}{hs:List Vc}{u v w:Vc}{q:List Va}{qs:List Vc}(h:RtP I bs l hs u v w q qs)(hb:∀ c∈bs,c<256)(hl:bs.length<2^63):qs.length≤bs.length:=by
 have h1:=ztr hb hl h.dec
 obtain ⟨a,b,hd,_,_⟩:=h.drop
 have h2:Va.encL l=Va.encL (l.take 42)++Va.encL (l.drop 42):=by rw [←Va.encL_append,List.take_append_drop]
 have h3:=Va.encL_len q
 have h4:=h.qlen
 rw [hd] at h2
 have h5:(Va.encL l).length≤(Va.enc (.list l)).length:=by simp [Va.enc];omega
 have h6:(Va.encL q).length≤(Va.encL l).length:=by
  rw [h2]
  simp only [Va.encL,Va.enc,List.length_append,List.length_cons];omega
 omega
theorem zsa {x:Va}(h:isI x=true):x= .int (zi7 x):=by cases x<;>first | rfl | cases h
theorem zet {q:List Va}(h:q.all isI=true):(q.map zi7).map Va.int=q:=by
 induction q with
 | nil=>rfl
 | cons a l ih=>
  rw [List.all_cons,Bool.and_eq_true] at h
  simp only [List.map_cons]
  rw [ih h.2,←zsa h.1]
theorem zfH (f:Nat→Int)(a:Option Addr)(n c:Nat)(needs:List Int)(name town:ByteArray):YS (W8 f a n c needs name town)=(List.range 42).map f:=rfl
theorem zk9 {l:List Va}(hl:l.length=45)(h:(l.take 42).all isI=true):((List.range 42).map fun j=>zi7 (l.getD j (.int 0))).map Va.int=l.take 42:=by
 rw [←zet h]
 congr 1
 apply List.ext_getElem?
 intro j
 rw [List.getElem?_map,List.getElem?_map,List.getElem?_take]
 by_cases hj:j<42
 ·
  rw [if_pos hj,List.getElem?_range hj,List.getElem?_eq_getElem kB,Option.map_some,Option.map_some,List.getD_eq_getElem?_getD,List.getElem?_eq_getElem kB];rfl
 ·
  rw [if_neg hj,List.getElem?_eq_none kS];rfl
theorem zmV {v:Va}{y:Nt}(hok:Va.ok v)(h:X2 v=some y):KF y=v:=by
 cases v with
 | int n=>cases h
 | text s=>cases h
 | list l=>
  unfold X2 at h
  simp only at h
  split at h
  ·
   rename_i hc
   split at h
   ·
    rename_i q a b hd
    split at h
    ·
     rename_i hq
     cases h
     have hl:l=l.take 42++l.drop 42:=(List.take_append_drop ..).symm
     have hm:∀ x∈l,Va.ok x:=fun x hx=>by
      obtain ⟨k,hk⟩:=List.mem_iff_getElem?.1 hx
      exact zeB hok.2 hk
     have ha:Va.ok (.text a):=hm _ (by rw [hl,hd];simp)
     have hb:Va.ok (.text b):=hm _ (by rw [hl,hd];simp)
     unfold KF
     rw [zfH,zk9 hc.1 hc.2]
     show Va.list (l.take 42++[.list ((q.map zi7).map .int),.text (K9 (Wl a)),.text (K9 (Wl b))])=_
     rw [zet hq,V9 ha.1,V9 hb.1,←hd,←hl]
    ·
     cases h
   ·
    cases h
  ·
   cases h
theorem zhP (x:Nt):KF (YN x)=KF x:=rfl
theorem zh0 {bs:List Nat}{y:Nt}(hb:∀ c∈bs,c<256)(hl:bs.length<2^63)(h:okN bs=some y):KA y=bs∧Va.ok (KF y)∧QM y=true:=by
 unfold okN at h
 cases hd:zcv bs with
 | none=>rw [hd] at h;cases h
 | some v=>
  rw [hd,Option.bind_some] at h
  cases hr:X2 v with
  | none=>rw [hr] at h;cases h
  | some z=>
   rw [hr,Option.bind_some] at h
   split at h
   ·
    rename_i hf
    cases h
    unfold zcv at hd
    split at hd
    ·
     rename_i x e
     cases hd
     obtain ⟨e1,_,e3⟩:=zhn hb hl e
     have e4:=zmV e3 hr
     refine ⟨?_,by rw [e4];exact e3,hf⟩
     unfold KA
     rw [e4,e1,List.append_nil]
    ·
     cases hd
   ·
    cases h
theorem znG (x:Nt):x.pt.needs.length≤(KA x).length:=by
 unfold KA KF
 have h1:=Va.encL_len (x.pt.needs.map Va.int)
 rw [List.length_map] at h1
 have h2:(Va.encL (x.pt.needs.map Va.int)).length≤(Va.enc (.list ((YS x).map .int++[.list (x.pt.needs.map .int),.text (K9 x.rt.name),.text (K9 x.rt.town)]))).length:=by
  simp only [Va.enc,Va.encL_append,Va.encL,List.length_append,List.length_cons];omega
 omega
theorem zh2 {I:Qu}{bs:List Nat}{x:Nt}(hb:∀ c∈bs,c<256)(hn:bs.length≤100000)(h:okN bs=some (YN x))(hN:Nd I x.pt):NtM I x:=by
 obtain ⟨h1,h2,_⟩:=zh0 hb kB h
 have e:KA x=bs:=h1
 have hl:=znG x
 have hN2:Sl I 1 Z5 x.pt.a x.pt.n x.pt.c x.pt.needs:=hN
 have:=hN2.len
 exact ⟨hN,by rw [e] at hl;omega,h2,by rw [e];omega⟩
end
section
open Go Go.Kn Go.Proofs
theorem ztl:Fun Tryz.prog 128:=.of Tryz.func128 kA kA
theorem zw0:SzT Tryz.prog 37 1:=.of kA
set_option maxRecDepth 100000 in
theorem zjv {I:Qu} {av:Option Addr} {n c:Nat} {bs:List Nat} (hS:Sl I 1 Jf av n c bs) (hb:∀ x∈bs,x<256) (hn:n≤100000):Vs Tryz.prog 62 [.slice av n c] I [] (fun v I' L'=>L'=[]∧∃ (cs:List Value) (b:Bool),v= .tuple #[.agg cs.toArray,.bool b]∧zv4 bs I' cs b):=by
 intro g H w hw
 refine qe Tryz.func62 Tryz.ntmps62 hw ?_
 have hIc:=zz4 I
 have hbl:=hS.len
 refine zR ?_
 refine Qr Wn rfl rfl (fun b_2=>?_)
 refine zA ?_
 refine zN (zR ?_)
 refine zM ?_
 refine zpc [_] rfl ztl .nil (zom hS hb hn) ?_
 rintro vv1 I1 L1 hI1 hq0
 have hIc:=hIc.trans hI1
 obtain ⟨rfl,cv,e,rfl,hq⟩:=ziC hq0
 refine zM ?_
 refine zE ?_
 refine zE ?_
 refine Qr YR rfl rfl (fun b_4=>?_)
 refine zh ZD ?_
 refine zA (Qb ?_)
 refine QF .here (fun I2 hI2 hb2=>?_)
 have hq:=hq.mono hI2;have hIc:=hIc.trans hI2
 have h4:=BxI.of hb2
 refine Qd (zR ?_)
 refine qcV (vs:=[_]) rfl zmI (zh6 _ _) ?_
 refine Qr zjE rfl rfl (fun b_6=>?_)
 refine zh zkt ?_
 refine Qb ?_
 refine QF .here (fun I3 hI3 hb3=>?_)
 have hq:=hq.mono hI3;have h4:=h4.mono hI3;have hIc:=hIc.trans hI3
 have h6:=BxI.of hb3
 refine Qd (Qo (zR (zM ?_)))
 refine zC ?_
 refine zM ?_
 refine QK 2 rfl rfl rfl ?_
 refine zJ (Qa rfl Ze) ?_
 refine zJ (Qc rfl Qm (fun hg=>by exact QA.imm h4.out rfl)) ?_
 refine zJ (Qz rfl rfl rfl) ?_
 refine Zg rfl rfl rfl rfl rfl ?_
 refine zM ?_
 refine QK 7 rfl rfl rfl ?_
 refine zJ (Qa rfl QV) ?_
 refine zJ (Qc rfl Zr (fun hg=>by exact QA.imm h4.out rfl)) ?_
 refine zJ (QU rfl Z9) ?_
 refine zJ (Qz rfl rfl rfl) ?_
 refine Zg rfl rfl rfl rfl rfl ?_
 refine zN ?_
 refine zI ?_ ?_<;>intro hc32
 ·
  have hno:=zwo hq hc32
  refine zR ?_
  refine zV (Qg rfl Q7 (fun hg=>by exact zz3 .here) rfl) ?_
  refine zh VG ?_
  refine zA (zN (Qs (Qf ?_)))
  exact ZN rfl rfl rfl Q7 zz2 rfl (fun w hw=>⟨_,I3,[],rfl,hIc,by repeat (first | exact hw.drop | exact hw.subL QC | exact hw.drop.drop),rfl,_,_,rfl,zgJ rfl rfl hno⟩)
 obtain ⟨l,hs,hR⟩:=zsW hq hc32
 have hm45:=hR.m
 have hl45:=hR.hlen
 refine Qp (Qd (Qo (zR ?_)))
 refine zV (Qg rfl zld (fun hg=>by exact BxI.cells (vs:=zuq b_2) h6) rfl) ?_
 refine zM (zN (Qx ?_))
 refine zU [(2,_),(4,_),(34,_)] (fun T L0 mz E I' loc'=>∃ (k:Nat),mz=42-k∧E=(35,.int .i64 k)::T∧I3=I'∧[(b_2,.cells (Q4 (zln hs k)).toArray 45 (0,0))]=loc'∧k≤42∧(∀ j y,j<k→hs[j]? =some y→(y.k != 1)=false)) ?_ (h:=⟨0,rfl,rfl,rfl,rfl,Nat.zero_le _,fun j y h=>absurd h (Nat.not_lt_zero _)⟩)
 rintro mz E I' loc' ⟨k,rfl,rfl,rfl,rfl,hk,hall⟩
 refine zR (zC (zN (Qo ?_)))
 refine zI ?_ ?_<;>intro hc36
 ·
  have hlt_k:k<42:=by have h:=hc36;simp at h;omega
  obtain ⟨y,hy⟩:∃ y,hs[k]? =some y:=⟨_,List.getElem?_eq_getElem kB⟩
  have hgd:hs.getD k W5=y:=by rw [List.getD_eq_getElem?_getD,hy];rfl
  refine Qp (Qd (Qo (Qx (zR (zM ?_)))))
  refine zV (KN rfl rfl zfO UH (fun hg=>kB) (fun hg=>show (zuq b_2)[((k:Int)).toNat*1]? =some (.pointer (some ⟨b_2,zi8.getD k 0,none⟩)) by rw [Nat.mul_one,Int.toNat_natCast];exact zk0 kB)) ?_
  refine zA ?_
  refine zA (zN (Qo (zR ?_)))
  refine zF QV ?_
  refine zV (Qc rfl Zr (fun hg=>by exact QA.imm h4.out rfl)) ?_
  refine zM ?_
  refine zV (QE rfl rfl Z9 hR.sl (fun hg=>kB)) ?_
  refine zF Ze ?_
  refine zV (Qc rfl Qm (fun hg=>by exact zzX hR.sl hy rfl)) ?_
  refine zC (zN ?_)
  refine zI ?_ ?_<;>intro hc45
  ·
   have hno:=zwQ hR kB hy hc45
   refine zR ?_
   refine zV (Qg rfl Q7 (fun hg=>by exact Cells.g0) rfl) ?_
   refine zh VG ?_
   refine zA (zN (Qs (Qf (Qk (Qf (Qf (Qk ?_)))))))
   refine Qf ?_
   exact ZN rfl rfl rfl Q7 zz2 rfl (fun w hw=>⟨_,I3,[],rfl,hIc,by repeat (first | exact hw.drop | exact hw.subL QC | exact hw.drop.drop),rfl,_,_,rfl,zgJ rfl rfl hno⟩)
  refine Qp (Qd (Qi (zM ?_)))
  refine zF QV ?_
  refine zV (Qc rfl Zr (fun hg=>by exact QA.imm h4.out rfl)) ?_
  refine zM ?_
  refine zV (QE rfl rfl Z9 hR.sl (fun hg=>kB)) ?_
  refine zF YX ?_
  refine zV (Qc rfl Qm (fun hg=>by exact zz6 hR.sl hy (j:=1) rfl)) ?_
  refine zV (QG rfl) ?_
  refine Kh rfl rfl Wj rfl rfl Upd.u0 (ztv _ kB) ?_
  refine Qb (Qj (Qd (Qi (zB ?_))))
  refine zM (Qb ?_)
  exact Zc _ _ ⟨42-(k+1),kB,k+1,rfl,rfl,rfl,rfl,kB,V4 hy hall hc45⟩ (.cons rfl (.cons rfl (.cons rfl (.cons rfl .nil)))) (by (try rw [←JT hs k kB,hgd]);repeat (first | exact .refl | exact QH | refine QZ ?_ | refine .drop ?_ | refine QN ?_))
 have hge_k:42≤k:=by have h:=hc36;simp at h;omega
 obtain rfl:k=42:=kB
 obtain ⟨u,hu⟩:∃ y,hs[42]? =some y:=⟨_,List.getElem?_eq_getElem kB⟩
 obtain ⟨v3,hv⟩:∃ y,hs[43]? =some y:=⟨_,List.getElem?_eq_getElem kB⟩
 obtain ⟨w4,hw4⟩:∃ y,hs[44]? =some y:=⟨_,List.getElem?_eq_getElem kB⟩
 refine Q6 (Qn (Qn (Qw (Qd ?_))))
 refine zY [(2,_)] (fun T L0 E I' loc'=>∃ (p9 p10 p11:Nat),E=(9,Zw p9)::(10,Zw p10)::(11,Zw p11)::T∧HLe I3 I'∧[(b_2,.cells (Q4 (zln hs 42)).toArray 45 (0,0))]=loc'∧BxI I' p9 (.cells (Za u).toArray 158 (0,0))∧BxI I' p10 (.cells (Za v3).toArray 158 (0,0))∧BxI I' p11 (.cells (Za w4).toArray 158 (0,0))) ?_ ?_
 ·
  have hKc12:=zz4 I3
  have hD:=zz4 I3
  refine Zn ?_
  refine QL I3 [] mixed ?_
  refine zT 0 rfl (Qa rfl QV) hD ?_
  refine zT 1 rfl (Qc rfl Zr (fun hg=>by exact QA.imm h4.out rfl)) hD ?_
  refine zT 2 rfl (QE rfl rfl Z9 hR.sl (fun hg=>kB)) hD ?_
  refine zT 3 rfl (Qg rfl Zq (fun hg=>by exact zz5 hR.sl hu) rfl) hD ?_
  refine zT 4 rfl (Qa rfl QV) hD ?_
  refine zT 5 rfl (Qc rfl Zr (fun hg=>by exact QA.imm h4.out rfl)) hD ?_
  refine zT 6 rfl (QE rfl rfl Z9 hR.sl (fun hg=>kB)) hD ?_
  refine zT 7 rfl (Qg rfl Zq (fun hg=>by exact zz5 hR.sl hv) rfl) hD ?_
  refine zT 8 rfl (Qa rfl QV) hD ?_
  refine zT 9 rfl (Qc rfl Zr (fun hg=>by exact QA.imm h4.out rfl)) hD ?_
  refine zT 10 rfl (QE rfl rfl Z9 hR.sl (fun hg=>kB)) hD ?_
  refine zT 11 rfl (Qg rfl Zq (fun hg=>by exact zz5 hR.sl hw4) rfl) hD ?_
  refine VK 12 13 14 rfl rfl rfl kA ?_ ?_ ?_
  ·
   refine Qr YR rfl rfl (fun b_9=>?_)
   refine Qb ?_
   refine zD hD ?_
   refine QS 13 14 rfl rfl kA ?_ ?_
   ·
    refine Qr YR rfl rfl (fun b_10=>?_)
    refine Qb ?_
    refine zD hD ?_
    refine qd 14 rfl ?_
    refine Qr YR rfl rfl (fun b_11=>?_)
    refine Qb ?_
    refine zD hD ?_
    refine qd 15 rfl ?_
    refine zh ZD ?_
    refine QQ (b:=b_9) (by repeat (first | exact ZQ.here | apply ZQ.there)) (fun I5 hI5 hb5=>?_)
    have hKc12:=hKc12.trans hI5;have hD:=hD.trans hI5
    have h9:=BxI.of hb5
    refine Qb ?_
    refine zD hD ?_
    refine qd 16 rfl ?_
    refine zh ZD ?_
    refine QQ (b:=b_10) (by repeat (first | exact ZQ.here | apply ZQ.there)) (fun I6 hI6 hb6=>?_)
    have h9:=h9.mono hI6;have hKc12:=hKc12.trans hI6;have hD:=hD.trans hI6
    have h10:=BxI.of hb6
    refine Qb ?_
    refine zD hD ?_
    refine qd 17 rfl ?_
    refine zh ZD ?_
    refine QQ (b:=b_11) (by repeat (first | exact ZQ.here | apply ZQ.there)) (fun I7 hI7 hb7=>?_)
    have h9:=h9.mono hI7;have h10:=h10.mono hI7;have hKc12:=hKc12.trans hI7;have hD:=hD.trans hI7
    have h11:=BxI.of hb7
    refine Qb ?_
    refine zD hD ?_
    refine Ql kA ?_
    refine Qt ?_
    exact Zc _ _ ⟨_,_,_,rfl,hKc12,rfl,h9,h10,h11⟩ (.cons rfl (.cons rfl (.cons rfl (.cons rfl .nil)))) (by (try rw [←JT hs k kB,hgd]);repeat (first | exact .refl | exact QH | refine QZ ?_ | refine .drop ?_ | refine QN ?_))
   refine Qr YR rfl rfl (fun b_11=>?_)
   refine Qb ?_
   refine zD hD ?_
   refine qd 13 rfl ?_
   refine Qr YR rfl rfl (fun b_10=>?_)
   refine Qb ?_
   refine zD hD ?_
   refine qd 15 rfl ?_
   refine zh ZD ?_
   refine QQ (b:=b_9) (by repeat (first | exact ZQ.here | apply ZQ.there)) (fun I8 hI8 hb8=>?_)
   have hKc12:=hKc12.trans hI8;have hD:=hD.trans hI8
   have h9:=BxI.of hb8
   refine Qb ?_
   refine zD hD ?_
   refine qd 16 rfl ?_
   refine zh ZD ?_
   refine QQ (b:=b_10) (by repeat (first | exact ZQ.here | apply ZQ.there)) (fun I9 hI9 hb9=>?_)
   have h9:=h9.mono hI9;have hKc12:=hKc12.trans hI9;have hD:=hD.trans hI9
   have h10:=BxI.of hb9
   refine Qb ?_
   refine zD hD ?_
   refine qd 17 rfl ?_
   refine zh ZD ?_
   refine QQ (b:=b_11) (by repeat (first | exact ZQ.here | apply ZQ.there)) (fun I10 hI10 hb10=>?_)
   have h9:=h9.mono hI10;have h10:=h10.mono hI10;have hKc12:=hKc12.trans hI10;have hD:=hD.trans hI10
   have h11:=BxI.of hb10
   refine Qb ?_
   refine zD hD ?_
   refine Ql kA ?_
   refine Qt ?_
   exact Zc _ _ ⟨_,_,_,rfl,hKc12,rfl,h9,h10,h11⟩ (.cons rfl (.cons rfl (.cons rfl (.cons rfl .nil)))) (by (try rw [←JT hs k kB,hgd]);repeat (first | exact .refl | exact QH | refine QZ ?_ | refine .drop ?_ | refine QN ?_))
  ·
   refine Qr YR rfl rfl (fun b_10=>?_)
   refine Qb ?_
   refine zD hD ?_
   refine QS 12 14 rfl rfl kA ?_ ?_
   ·
    refine Qr YR rfl rfl (fun b_9=>?_)
    refine Qb ?_
    refine zD hD ?_
    refine qd 14 rfl ?_
    refine Qr YR rfl rfl (fun b_11=>?_)
    refine Qb ?_
    refine zD hD ?_
    refine qd 15 rfl ?_
    refine zh ZD ?_
    refine QQ (b:=b_9) (by repeat (first | exact ZQ.here | apply ZQ.there)) (fun I11 hI11 hb11=>?_)
    have hKc12:=hKc12.trans hI11;have hD:=hD.trans hI11
    have h9:=BxI.of hb11
    refine Qb ?_
    refine zD hD ?_
    refine qd 16 rfl ?_
    refine zh ZD ?_
    refine QQ (b:=b_10) (by repeat (first | exact ZQ.here | apply ZQ.there)) (fun I12 hI12 hb12=>?_)
    have h9:=h9.mono hI12;have hKc12:=hKc12.trans hI12;have hD:=hD.trans hI12
    have h10:=BxI.of hb12
    refine Qb ?_
    refine zD hD ?_
    refine qd 17 rfl ?_
    refine zh ZD ?_
    refine QQ (b:=b_11) (by repeat (first | exact ZQ.here | apply ZQ.there)) (fun I13 hI13 hb13=>?_)
    have h9:=h9.mono hI13;have h10:=h10.mono hI13;have hKc12:=hKc12.trans hI13;have hD:=hD.trans hI13
    have h11:=BxI.of hb13
    refine Qb ?_
    refine zD hD ?_
    refine Ql kA ?_
    refine Qt ?_
    exact Zc _ _ ⟨_,_,_,rfl,hKc12,rfl,h9,h10,h11⟩ (.cons rfl (.cons rfl (.cons rfl (.cons rfl .nil)))) (by (try rw [←JT hs k kB,hgd]);repeat (first | exact .refl | exact QH | refine QZ ?_ | refine .drop ?_ | refine QN ?_))
   refine Qr YR rfl rfl (fun b_11=>?_)
   refine Qb ?_
   refine zD hD ?_
   refine qd 12 rfl ?_
   refine Qr YR rfl rfl (fun b_9=>?_)
   refine Qb ?_
   refine zD hD ?_
   refine qd 15 rfl ?_
   refine zh ZD ?_
   refine QQ (b:=b_9) (by repeat (first | exact ZQ.here | apply ZQ.there)) (fun I14 hI14 hb14=>?_)
   have hKc12:=hKc12.trans hI14;have hD:=hD.trans hI14
   have h9:=BxI.of hb14
   refine Qb ?_
   refine zD hD ?_
   refine qd 16 rfl ?_
   refine zh ZD ?_
   refine QQ (b:=b_10) (by repeat (first | exact ZQ.here | apply ZQ.there)) (fun I15 hI15 hb15=>?_)
   have h9:=h9.mono hI15;have hKc12:=hKc12.trans hI15;have hD:=hD.trans hI15
   have h10:=BxI.of hb15
   refine Qb ?_
   refine zD hD ?_
   refine qd 17 rfl ?_
   refine zh ZD ?_
   refine QQ (b:=b_11) (by repeat (first | exact ZQ.here | apply ZQ.there)) (fun I16 hI16 hb16=>?_)
   have h9:=h9.mono hI16;have h10:=h10.mono hI16;have hKc12:=hKc12.trans hI16;have hD:=hD.trans hI16
   have h11:=BxI.of hb16
   refine Qb ?_
   refine zD hD ?_
   refine Ql kA ?_
   refine Qt ?_
   exact Zc _ _ ⟨_,_,_,rfl,hKc12,rfl,h9,h10,h11⟩ (.cons rfl (.cons rfl (.cons rfl (.cons rfl .nil)))) (by (try rw [←JT hs k kB,hgd]);repeat (first | exact .refl | exact QH | refine QZ ?_ | refine .drop ?_ | refine QN ?_))
  refine Qr YR rfl rfl (fun b_11=>?_)
  refine Qb ?_
  refine zD hD ?_
  refine QS 12 13 rfl rfl kA ?_ ?_
  ·
   refine Qr YR rfl rfl (fun b_9=>?_)
   refine Qb ?_
   refine zD hD ?_
   refine qd 13 rfl ?_
   refine Qr YR rfl rfl (fun b_10=>?_)
   refine Qb ?_
   refine zD hD ?_
   refine qd 15 rfl ?_
   refine zh ZD ?_
   refine QQ (b:=b_9) (by repeat (first | exact ZQ.here | apply ZQ.there)) (fun I17 hI17 hb17=>?_)
   have hKc12:=hKc12.trans hI17;have hD:=hD.trans hI17
   have h9:=BxI.of hb17
   refine Qb ?_
   refine zD hD ?_
   refine qd 16 rfl ?_
   refine zh ZD ?_
   refine QQ (b:=b_10) (by repeat (first | exact ZQ.here | apply ZQ.there)) (fun I18 hI18 hb18=>?_)
   have h9:=h9.mono hI18;have hKc12:=hKc12.trans hI18;have hD:=hD.trans hI18
   have h10:=BxI.of hb18
   refine Qb ?_
   refine zD hD ?_
   refine qd 17 rfl ?_
   refine zh ZD ?_
   refine QQ (b:=b_11) (by repeat (first | exact ZQ.here | apply ZQ.there)) (fun I19 hI19 hb19=>?_)
   have h9:=h9.mono hI19;have h10:=h10.mono hI19;have hKc12:=hKc12.trans hI19;have hD:=hD.trans hI19
   have h11:=BxI.of hb19
   refine Qb ?_
   refine zD hD ?_
   refine Ql kA ?_
   refine Qt ?_
   exact Zc _ _ ⟨_,_,_,rfl,hKc12,rfl,h9,h10,h11⟩ (.cons rfl (.cons rfl (.cons rfl (.cons rfl .nil)))) (by (try rw [←JT hs k kB,hgd]);repeat (first | exact .refl | exact QH | refine QZ ?_ | refine .drop ?_ | refine QN ?_))
  refine Qr YR rfl rfl (fun b_10=>?_)
  refine Qb ?_
  refine zD hD ?_
  refine qd 12 rfl ?_
  refine Qr YR rfl rfl (fun b_9=>?_)
  refine Qb ?_
  refine zD hD ?_
  refine qd 15 rfl ?_
  refine zh ZD ?_
  refine QQ (b:=b_9) (by repeat (first | exact ZQ.here | apply ZQ.there)) (fun I20 hI20 hb20=>?_)
  have hKc12:=hKc12.trans hI20;have hD:=hD.trans hI20
  have h9:=BxI.of hb20
  refine Qb ?_
  refine zD hD ?_
  refine qd 16 rfl ?_
  refine zh ZD ?_
  refine QQ (b:=b_10) (by repeat (first | exact ZQ.here | apply ZQ.there)) (fun I21 hI21 hb21=>?_)
  have h9:=h9.mono hI21;have hKc12:=hKc12.trans hI21;have hD:=hD.trans hI21
  have h10:=BxI.of hb21
  refine Qb ?_
  refine zD hD ?_
  refine qd 17 rfl ?_
  refine zh ZD ?_
  refine QQ (b:=b_11) (by repeat (first | exact ZQ.here | apply ZQ.there)) (fun I22 hI22 hb22=>?_)
  have h9:=h9.mono hI22;have h10:=h10.mono hI22;have hKc12:=hKc12.trans hI22;have hD:=hD.trans hI22
  have h11:=BxI.of hb22
  refine Qb ?_
  refine zD hD ?_
  refine Ql kA ?_
  refine Qt ?_
  exact Zc _ _ ⟨_,_,_,rfl,hKc12,rfl,h9,h10,h11⟩ (.cons rfl (.cons rfl (.cons rfl (.cons rfl .nil)))) (by (try rw [←JT hs k kB,hgd]);repeat (first | exact .refl | exact QH | refine QZ ?_ | refine .drop ?_ | refine QN ?_))
 rintro E J23 loc' ⟨p9,p10,p11,rfl,hJ,rfl,h9,h10,h11⟩
 have hR:=hR.mono hJ;have hIc:=hIc.trans hJ
 refine Qo (zR ?_)
 refine zF Ze ?_
 refine zV (Qc rfl Qm (fun hg=>by exact QA.imm h9.out rfl)) ?_
 refine zC ?_
 refine zM ?_
 refine QK 3 rfl rfl rfl ?_
 refine zJ (Qa rfl Ze) ?_
 refine zJ (Qc rfl Qm (fun hg=>by exact QA.imm h10.out rfl)) ?_
 refine zJ (Qz rfl rfl rfl) ?_
 refine Zg rfl rfl rfl rfl rfl ?_
 refine zM ?_
 refine QK 8 rfl rfl rfl ?_
 refine zJ (Qa rfl Ze) ?_
 refine zJ (Qc rfl Qm (fun hg=>by exact QA.imm h11.out rfl)) ?_
 refine zJ (Qz rfl rfl rfl) ?_
 refine Zg rfl rfl rfl rfl rfl ?_
 refine zN ?_
 refine zI ?_ ?_<;>intro hc80
 ·
  have hno:=(zlG hR hall hu hv hw4).1 hc80
  refine zR ?_
  refine zV (Qg rfl Q7 (fun hg=>by exact Cells.g0) rfl) ?_
  refine zh VG ?_
  refine zA (zN (Qs (Qf ?_)))
  exact ZN rfl rfl rfl Q7 zz2 rfl (fun w hw=>⟨_,J23,[],rfl,hIc,by repeat (first | exact hw.drop | exact hw.subL QC | exact hw.drop.drop),rfl,_,_,rfl,zgJ rfl rfl hno⟩)
 obtain ⟨q,qs,hT⟩:=(zlG hR hall hu hv hw4).2 hc80
 have hql:=hT.sl.len
 have hum:u.m≤100000:=by have h:=zv1 hT hb kB;omega
 refine Qp (Qd (Qo (zR ?_)))
 refine zF QV ?_
 refine zV (Qc rfl Zr (fun hg=>by exact QA.imm h9.out rfl)) ?_
 refine zQ Z9 ?_
 refine zM (zN (Qx ?_))
 refine zU [(2,_),(10,_),(11,_),(83,_),(84,_)] (fun T L0 mz E I' loc'=>∃ (j:Nat) (v:Value) (L:Go.Kn.Loc),mz=u.m-j∧E=(85,.int .i64 j)::T∧HLe J23 I'∧L++[(b_2,.cells (fl2 hs v).toArray 45 (0,0))]=loc'∧j≤u.m∧ZW 3 1 v j (((qs.take j).map (·.n)).flatMap Z5) L∧(∀ i y,i<j→qs[i]? =some y→(y.k != 1)=false)) ?_ (h:=⟨0,_,[],rfl,rfl,zz4 _,rfl,Nat.zero_le _,ZW.nil,fun j y h=>absurd h (Nat.not_lt_zero _)⟩)
 rintro mz E J24 loc' ⟨j,v,L,rfl,rfl,hJ,rfl,hj,hO,hall2⟩
 have h10:=h10.mono hJ;have h11:=h11.mono hJ;have hT:=hT.mono hJ;have hIc:=hIc.trans hJ
 have hB2:=hJ
 refine zR (zC (zN (Qo ?_)))
 refine zI ?_ ?_<;>intro hc86
 ·
  have hlt_j:j<u.m:=by have h:=hc86;simp at h;omega
  obtain ⟨z,hz⟩:∃ y,qs[j]? =some y:=⟨_,List.getElem?_eq_getElem kB⟩
  refine Qp (Qd (Qo (Qx (zR ?_))))
  refine zV (QE rfl rfl Z9 hT.sl (fun hg=>kB)) ?_
  refine zV (Qg rfl Zq (fun hg=>by exact zz5 hT.sl hz) rfl) ?_
  refine Qr YR rfl rfl (fun b_13=>?_)
  refine zh ZD ?_
  refine Qb ?_
  refine QF .here (fun I25 hI25 hb25=>?_)
  have hT:=hT.mono hI25;have hIc:=hIc.trans hI25;have hB2:=hB2.trans hI25
  have h13:=BxI.of hb25
  refine Qd (Qo (zR ?_))
  refine zF Ze ?_
  refine zV (Qc rfl Qm (fun hg=>by exact QA.imm h13.out rfl)) ?_
  refine zC (zN ?_)
  refine zI ?_ ?_<;>intro hc91
  ·
   have hno:=ztt hT hz hc91
   obtain ⟨a0,c0,rfl⟩:=hO.shape
   refine zR ?_
   refine zV (Qg rfl Q7 (fun hg=>by exact zz3 .here) rfl) ?_
   refine zh VG ?_
   refine zA (zN (Qs (Qf (Qk (Qf (Qf (Qk ?_)))))))
   refine Qf ?_
   exact ZN rfl rfl rfl Q7 (.app .here) rfl (fun w hw=>⟨_,I25,[],rfl,hIc,by repeat (first | exact hw.drop | exact hw.subL QC | exact hw.drop.drop),rfl,_,_,rfl,zgJ rfl rfl hno⟩)
  refine Qp (Qd (Qi ?_))
  refine zF ZZ ?_
  refine zF ZK ?_
  refine zV (Qc rfl Vi (fun hg=>by exact zz0 (QA.h0 rfl))) ?_
  refine zF YX ?_
  refine zV (Qc rfl Qm (fun hg=>by exact QA.imm h13.out rfl)) ?_
  refine zpb [(0,_)] [Z5 z.n] Vb (fun b_98=>?_)
  refine zpa (_) (([z.n]:List Int).flatMap Z5) (L) rfl rfl Vb hO ⟨rfl,fun _=>rfl,by repeat (first | exact zz2 | apply zz1 | apply zz3)⟩ (zbn [z.n]) ?_
  intro v2 L2 hO2 _;rw [←List.flatMap_append] at hO2;obtain ⟨a2,c2,rfl⟩:=hO2.shape
  refine zF ZZ ?_
  refine zF ZK ?_
  refine zS zw0 ?_
  refine Qb (Qj (Qd (Qi (zB ?_))))
  refine zM (Qb ?_)
  exact Zc _ _ ⟨u.m-(j+1),kB,j+1,_,_,rfl,rfl,hB2,rfl,kB,by rw [Zd hz,List.map_append];exact hO2,V4 hz hall2 hc91⟩ (.cons rfl (.cons rfl (.cons rfl (.cons rfl (.cons rfl (.cons rfl .nil)))))) (by (try rw [←JT hs k kB,hgd]);repeat (first | exact .refl | exact QH | refine QZ ?_ | refine .drop ?_ | refine QN ?_))
 have hge_j:u.m≤j:=by have h:=hc86;simp at h;omega
 obtain rfl:j=u.m:=kB
 have hke:qs.take u.m=qs:=List.take_of_length_le kB
 rw [hke] at hO
 have hall2:∀ j y,j<qs.length→qs[j]? =some y→(y.k != 1)=false:=fun j y hj hy=>hall2 j y kB hy
 refine Q6 (Qn (Qn (Qw (Qd (Qo ?_)))))
 have hD:=zz4 J24
 refine Zn ?_
 refine QL J24 [] mixed ?_
 refine zT 0 rfl (Qa rfl Yy) hD ?_
 refine zT 1 rfl (Qc rfl VS (fun hg=>by exact QA.imm h10.out rfl)) hD ?_
 refine zT 2 rfl (Qa rfl Yy) hD ?_
 refine zT 3 rfl (Qc rfl VS (fun hg=>by exact QA.imm h11.out rfl)) hD ?_
 refine zT 4 rfl (Qa rfl Z0) hD ?_
 refine zT 5 rfl (Qa rfl Ju) hD ?_
 refine qd 6 rfl ?_
 refine zS zsS ?_
 refine Qb ?_
 refine zD hD ?_
 refine zT 7 rfl (Qa rfl Z0) hD ?_
 refine zT 8 rfl (Qa rfl JE) hD ?_
 refine qd 9 rfl ?_
 refine zS zsS ?_
 refine Qb ?_
 refine zD hD ?_
 refine Ql kA ?_
 refine Qt ?_
 refine Qd (Qo ?_)
 refine zx4 hO YJ (fun I26 hI26 af26 cf26 ef26 hNd=>?_)
 subst ef26
 have hT:=hT.mono hI26;have hIc:=hIc.trans hI26
 refine zgc (loc':=[(b_2,.cells (Q4 (W8 (zns hs 42) af26 u.m cf26 (qs.map (·.n)) v3.s w4.s)).toArray 45 (0,0))]) kU ?_
 have hF:=zw5 (a:=af26) (c:=cf26) hT hall2 hT.sl.len
 have hNd2:Nd I26 (W8 (zns hs 42) af26 u.m cf26 (qs.map (·.n)) v3.s w4.s).pt:=hNd
 have hD:=zz4 I26
 refine Zn ?_
 refine QL I26 [(b_2,.cells (Q4 (W8 (zns hs 42) af26 u.m cf26 (qs.map (·.n)) v3.s w4.s)).toArray 45 (0,0))] mixed ?_
 refine zT 0 rfl (Qg rfl Q7 (fun hg=>by exact Cells.g0) rfl) hD ?_
 refine zT 1 rfl (Qg rfl Q7 (fun hg=>by exact Cells.g0) rfl) hD ?_
 refine qd 2 rfl ?_
 refine qcV (vs:=[_]) rfl zbp (K5 _ hNd2) ?_
 refine Qb ?_
 refine zD hD ?_
 refine qd 3 rfl ?_
 refine zh VG ?_
 refine Qb ?_
 refine zD hD ?_
 refine zT 4 rfl (Qv rfl) hD ?_
 refine Ql kA ?_
 refine Qt ?_
 refine Qd (Qs ?_)
 exact ZN rfl rfl rfl Q7 zz2 rfl (fun w hw=>⟨_,I26,[],rfl,hIc,hw.drop,rfl,_,_,rfl,zto hF hNd2⟩)
end
section
open Go Go.Kn Go.Proofs
def Wv (xs:List Nt)(t:Nt):Nat:=(xs.takeWhile fun x=>decide (Vv x t<0)).length
def zms (xs:List Nt)(t:Nt):Prop:=∀ (k l:Nat) (x y:Nt),k≤l→xs[k]? =some x→xs[l]? =some y→Vv y t<0→Vv x t<0
theorem zso {xs:List Nt}{t:Nt}{i:Nat}(hi:i≤xs.length)(h1:∀ k x,k<i→xs[k]? =some x→Vv x t<0)(h2:∀ k x,i≤k→xs[k]? =some x→¬Vv x t<0):Wv xs t=i:=by
 unfold Wv
 have e:xs.takeWhile (fun x=>decide (Vv x t<0))=xs.take i:=by
  induction xs generalizing i with
  | nil=>simp
  | cons a l ih=>
   cases i with
   | zero=>
    have:=h2 0 a (Nat.le_refl _) rfl
    simp [List.takeWhile,this]
   | succ i=>
    have h:=h1 0 a kB rfl
    simp only [List.takeWhile,h,decide_true,List.take_succ_cons]
    rw [ih (i:=i) (by simpa using hi) (fun k x hk hx=>h1 (k+1) x kB hx) (fun k x hk hx=>h2 (k+1) x kB hx)]
 rw [e,List.length_take];omega
theorem zsQ {xs:List Nt}{t:Nt}(hm:zms xs t){i m:Nat}{y:Nt}(hy:xs[m]? =some y)(hc:Vv y t<0):∀ k x,k<m+1→xs[k]? =some x→Vv x t<0:=fun k x hk hx=>hm k m x y kB hx hy hc
theorem zjF {xs:List Nt}{t:Nt}(hm:zms xs t){m:Nat}{y:Nt}(hy:xs[m]? =some y)(hc:¬Vv y t<0):∀ k x,m≤k→xs[k]? =some x→¬Vv x t<0:=fun k x hk hx h=>hc (hm m k y x hk hy hx h)
def zeY (xs:List Nt)(t:Nt):Bool:=match xs[Wv xs t]? with | some y=>Vv y t==0 | none=>false
theorem zlJ {xs:List Nt}{t:Nt}{i:Nat}{y:Nt}(hp:Wv xs t=i)(hy:xs[i]? =some y):zeY xs t=(Vv y t==0):=by unfold zeY;rw [hp,hy]
theorem zw7 {xs:List Nt}{t:Nt}{i:Nat}(hp:Wv xs t=i)(hi:xs.length≤i):zeY xs t=false:=by unfold zeY;rw [hp,List.getElem?_eq_none hi]
structure Pe where
 a:Option Addr
 n:Nat
 c:Nat
 notes:List Nt
def Xd (x:Pe):List Value:=[.slice x.a x.n x.c]
theorem zfm (x:Pe):(Xd x).length=1:=rfl
theorem zwc (xs:List Pe):YF (xs.flatMap Xd)=true:=Yn (fun _=>rfl) xs
def zgt (xs:List Nt)(t:Nt):List Nt:=xs.take (Wv xs t)++t::xs.drop (Wv xs t)
theorem zfY (xs:List Nt)(t:Nt):Wv xs t≤xs.length:=by
 unfold Wv
 exact (List.takeWhile_sublist _).length_le
theorem zdH {I:Qu}{l:Go.Kn.Loc}{b i t:Nat}{fz:Nat×Nat}{cur:List Value}{v:Value}(h:cur[i]? =some v):QA I ((b,.cells cur.toArray t fz)::l) b ((i:Int).toNat*1+0) v:=by
 rw [Nat.add_zero,Nat.mul_one,Int.toNat_natCast]
 exact zzZ (by simpa [Jp] using h)
theorem zfL {cur:List Value}{i:Nat}{v:Value}(h:cur[i]? =some v):((i:Int).toNat*1+0).blt cur.toArray.size=true:=by
 rw [Nat.add_zero,Nat.mul_one,Int.toNat_natCast,List.size_toArray]
 have:=(List.getElem?_eq_some_iff.1 h).1
 exact Nat.ble_eq_true_of_le this
theorem zkZ {cur:List Value}{i:Nat}{v:Value}:cur.toArray.setIfInBounds ((i:Int).toNat*1+0) v=(cur.set i v).toArray:=by
 rw [Nat.add_zero,Nat.mul_one,Int.toNat_natCast];simp
end
section
open Go Go.Kn Go.Proofs
theorem zjz:CvT Tryz.prog 216 3 .i64:=⟨kA,kA⟩
theorem zyb {I:Qu}{av:Option Addr}{n c:Nat}{xs:List Nt}{t:Nt}(hP:zbd I av n c xs)(hf:∀ x∈xs,QM x=true)(hT:NtM I t)(hm:zms xs t)(hn:n≤100000):ZA Tryz.prog 173 [.slice av n c,Ke t,.func (.func 81) #[] #[]] I (.tuple #[.int .i64 (Wv xs t:Nat),.bool (zeY xs t)]):=by
 intro g H w hw
 refine qe Tryz.func173 Tryz.ntmps173 hw ?_
 have hIc:=zz4 I
 have hln:=hP.sl.len
 refine zR ?_
 refine QO rfl rfl rfl (fun b_4=>?_)
 refine zA ?_
 refine zA (Qb ?_)
 refine QF .here (fun I1 hI1 hb1=>?_)
 have hP:=hP.mono hI1;have hT:=hT.mono hI1;have hIc:=hIc.trans hI1
 have h4:=BxI.of hb1
 refine Qd (zR (zM ?_))
 refine zQ Q8 ?_
 refine zA ?_
 refine zN (zR ?_)
 refine zM ?_
 refine zA ?_
 refine zA (zN (Qo (Qx ?_)))
 refine zU [(0,_),(2,_),(4,_),(8,_)] (fun T L0 mz E I' loc'=>∃ (i j:Nat),mz=j-i∧E=(9,.int .i64 i)::(10,.int .i64 j)::T∧I1=I'∧L0=loc'∧i≤j∧j≤n∧(∀ k x,k<i→xs[k]? =some x→Vv x t<0)∧(∀ k x,j≤k→xs[k]? =some x→¬Vv x t<0)) ?_ (h:=⟨0,n,rfl,rfl,rfl,rfl,Nat.zero_le _,Nat.le_refl _,fun k x h=>absurd h (Nat.not_lt_zero _),fun k x hk hx=>by rw [List.getElem?_eq_none kB] at hx;cases hx⟩)
 rintro mz E I' loc' ⟨i,j,rfl,rfl,rfl,rfl,hij,hjn,hlo,hup⟩
 refine Qo (zR (zM ?_))
 refine zM ?_
 refine zC (zN ?_)
 refine zI ?_ ?_<;>intro hc17
 ·
  have hlt:i<j:=by have h:=hc17;simp at h;omega
  obtain ⟨y,hy⟩:∃ y,xs[(i+j) / 2]? =some y:=⟨_,List.getElem?_eq_getElem kB⟩
  have hym:y∈xs:=List.mem_of_getElem? hy
  refine Qp (Qd (Qx (zR (zM ?_))))
  refine zM ?_
  refine zB ?_
  refine zV (Z4 rfl Xa) ?_
  refine zV (zhw rfl rfl kD (rfl:min _ _=1)) ?_
  refine zV (Z4 rfl zjz) ?_
  refine zA (Qb ?_)
  rw [ztN i j kB]
  refine Qd (Qo ?_)
  have hD:=zz4 I1
  refine Zn ?_
  refine QL I1 [] mixed ?_
  refine zT 0 rfl (Qe rfl) hD ?_
  refine zT 1 rfl (Qe rfl) hD ?_
  refine zT 2 rfl (Qe rfl) hD ?_
  refine zT 3 rfl (QE rfl rfl Q8 hP.sl (fun hg=>kB)) hD ?_
  refine zT 4 rfl (Qg rfl Q7 (fun hg=>by exact zz5 (k:=(i+j) / 2) hP.sl hy) rfl) hD ?_
  refine zT 5 rfl (Qg rfl Q7 (fun hg=>by exact BxI.cells (vs:=Q4 t) h4) rfl) hD ?_
  refine qd 6 rfl ?_
  refine qcV (vs:=[_,_]) rfl zed (zfk (hP.m y hym (hf y hym)) hT) ?_
  refine Qb ?_
  refine zD hD ?_
  refine zT 7 rfl (Qz rfl rfl rfl) hD ?_
  refine Ql kA ?_
  refine Qt ?_
  refine Qd ?_
  refine zI ?_ ?_<;>intro hc31
  ·
   refine Qi (zM ?_)
   refine zB ?_
   refine zA (Qb (Qj ?_))
   exact zm (h:=⟨j-((i+j) / 2+1),kB,(i+j) / 2+1,j,rfl,rfl,rfl,rfl,kB,hjn,zsQ (i:=i) hm hy (by simpa using hc31),hup⟩)
  refine Qi (zM ?_)
  refine zA (Qb (Qj ?_))
  exact zm (h:=⟨(i+j) / 2-i,kB,i,(i+j) / 2,rfl,rfl,rfl,rfl,kB,kB,hlo,zjF hm hy (by simpa using hc31)⟩)
 have hge:j≤i:=by have h:=hc17;simp at h;omega
 have hje:j=i:=kB
 subst hje
 have hpos:=zso kB hlo hup
 refine Q6 (Qn (Qn (Qw (Qd (Qo ?_)))))
 rcases (show j<n∨n≤j by omega) with hjl | hjl
 ·
  have hk0:decide ((j:Int)<(n:Int))=true:=by simp;omega
  obtain ⟨y,hy⟩:∃ y,xs[j]? =some y:=⟨_,List.getElem?_eq_getElem kB⟩
  have hym:y∈xs:=List.mem_of_getElem? hy
  have hD:=zz4 I1
  refine Zn ?_
  refine QL I1 [] mixed ?_
  refine zT 0 rfl (Qe rfl) hD ?_
  refine zT 1 rfl (Qe rfl) hD ?_
  refine zT 2 rfl (Qe rfl) hD ?_
  refine zT 3 rfl (Qz rfl rfl rfl) hD ?_
  rw [hk0]
  refine zT 4 rfl (Qe rfl) hD ?_
  refine zw 5 39 rfl (Qe rfl) hD ?_
  refine zw 6 39 rfl (Qe rfl) hD ?_
  refine zw 7 39 rfl (Qe rfl) hD ?_
  refine zw 8 39 rfl (QE rfl rfl Q8 hP.sl (fun hg=>kB)) hD ?_
  refine zw 9 39 rfl (Qg rfl Q7 (fun hg=>by exact zz5 (k:=j) hP.sl hy) rfl) hD ?_
  refine zw 10 39 rfl (Qg rfl Q7 (fun hg=>by exact BxI.cells (vs:=Q4 t) h4) rfl) hD ?_
  refine qd 11 rfl ?_
  refine QP (dj:=39) rfl rfl rfl ?_
  refine qcV (vs:=[_,_]) rfl zed (zfk (hP.m y hym (hf y hym)) hT) ?_
  refine Qb ?_
  refine zD hD ?_
  refine zw 12 39 rfl (Qz rfl rfl rfl) hD ?_
  refine zT 13 rfl (QW rfl rfl rfl) hD ?_
  refine zT 14 rfl (Qv rfl) hD ?_
  refine zT 15 rfl (Qv rfl) hD ?_
  refine Ql kA ?_
  refine Qt ?_
  refine Qd (Qs ?_)
  exact Js rfl rfl rfl (fun w hw=>⟨by rw [hpos,zlJ hpos hy]<;>rfl,(hw.mono hIc).drop⟩)
 have hk0:decide ((j:Int)<(n:Int))=false:=by simp;omega
 have hD:=zz4 I1
 refine Zn ?_
 refine QL I1 [] mixed ?_
 refine zT 0 rfl (Qe rfl) hD ?_
 refine zT 1 rfl (Qe rfl) hD ?_
 refine zT 2 rfl (Qe rfl) hD ?_
 refine zT 3 rfl (Qz rfl rfl rfl) hD ?_
 rw [hk0]
 refine zT 4 rfl (Qe rfl) hD ?_
 refine zW 5 39 hD ?_
 refine zW 6 39 hD ?_
 refine zW 7 39 hD ?_
 refine zW 8 39 hD ?_
 refine zW 9 39 hD ?_
 refine zW 10 39 hD ?_
 refine zW 11 39 hD ?_
 refine zW 12 39 hD ?_
 refine zT 13 rfl (Z6 rfl rfl rfl) hD ?_
 refine zT 14 rfl (Qv rfl) hD ?_
 refine zT 15 rfl (Qv rfl) hD ?_
 refine Ql kA ?_
 refine Qt ?_
 refine Qd (Qs ?_)
 exact Js rfl rfl rfl (fun w hw=>⟨by rw [hpos,zw7 hpos kB]<;>rfl,(hw.mono hIc).drop⟩)
end
section
open Go Go.Kn Go.Proofs
theorem zqU:ElT Tryz.prog 22 59 1 24:=.of kA
theorem zdm {I:Qu}{av:Option Addr}{n c:Nat}{xs:List Nt}(hS:Sl I 45 Q4 av n c xs)(hn:n≤400000):Vs Tryz.prog 175 [.slice av n c] I [] (fun v I' L=>I'=I∧ZW 45 45 v n (xs.flatMap Q4) L):=by
 intro g H w hw
 refine qe Tryz.func175 Tryz.ntmps175 hw ?_
 refine zR (zA (zN (Qo (zR ?_))))
 refine zM ?_
 refine zV (zho rfl rfl Q8) ?_
 refine zN ?_
 refine zI ?_ ?_<;>intro hc4
 ·
  have hn0:n=0:=Decidable.byContradiction fun h=>by have:=hS.base h;rw [this] at hc4;cases hc4
  have hl:=hS.len
  subst hn0
  have hx0:=List.eq_nil_of_length_eq_zero hl
  subst hx0
  refine zR (zA (zN (Qs (Qf ?_))))
  exact Qy rfl rfl (fun w hw=>⟨_,I,_,rfl,zz4 _,hw,rfl,ZW.nil⟩)
 refine Qp (Qd (zR ?_))
 refine zpb [] [] U1 (fun b_5=>?_)
 refine zM ?_
 refine zpa (_) (xs.flatMap Q4) ([(b_5,_)]) rfl rfl U1 ZW.new (hS.src YV) (zp2 _) ?_
 intro v1 L1 hO1 _;rw [List.nil_append,Nat.zero_add] at hO1
 refine zA (zN (Qs ?_))
 exact Qy rfl rfl (fun w hw=>⟨_,I,_,rfl,zz4 _,hw.subL QH,rfl,hO1⟩)
theorem zmd {I:Qu}{av:Option Addr}{n c:Nat}{xs:List Pe}(hS:Sl I 1 Xd av n c xs)(hn:n≤400000):Vs Tryz.prog 52 [.slice av n c] I [] (fun v I' L=>I'=I∧ZW 59 1 v n (xs.flatMap Xd) L):=by
 intro g H w hw
 refine qe Tryz.func52 Tryz.ntmps52 hw ?_
 refine zR (zA (zN (Qo (zR ?_))))
 refine zM ?_
 refine zV (zho rfl rfl Jk) ?_
 refine zN ?_
 refine zI ?_ ?_<;>intro hc4
 ·
  have hn0:n=0:=Decidable.byContradiction fun h=>by have:=hS.base h;rw [this] at hc4;cases hc4
  have hl:=hS.len
  subst hn0
  have hx0:=List.eq_nil_of_length_eq_zero hl
  subst hx0
  refine zR (zA (zN (Qs (Qf ?_))))
  exact Qy rfl rfl (fun w hw=>⟨_,I,_,rfl,zz4 _,hw,rfl,ZW.nil⟩)
 refine Qp (Qd (zR ?_))
 refine zpb [] [] zqU (fun b_5=>?_)
 refine zM ?_
 refine zpa (_) (xs.flatMap Xd) ([(b_5,_)]) rfl rfl zqU ZW.new (hS.src zfm) (zwc _) ?_
 intro v1 L1 hO1 _;rw [List.nil_append,Nat.zero_add] at hO1
 refine zA (zN (Qs ?_))
 exact Qy rfl rfl (fun w hw=>⟨_,I,_,rfl,zz4 _,hw.subL QH,rfl,hO1⟩)
end
section
open Go Go.Kn Go.Proofs
theorem zur:Fun Tryz.prog 173:=.of Tryz.func173 kA kA
theorem zf3:Fun Tryz.prog 174:=.of Tryz.func174 kA kA
theorem zgq:Fun Tryz.prog 175:=.of Tryz.func175 kA kA
theorem zgS:SzT Tryz.prog 57 1:=.of kA
theorem zt5 {I:Qu}{bc bp:Nat}{qa aa:Option Addr}{pn pc qn qc an ac:Nat}{cur:List Value}{i:Nat}{pe:Pe}{t:Nt}(hci:cur[i]? =some (.slice pe.a pe.n pe.c))(hi:i<pn)(hpn:pn≤100000)(hP:zbd I pe.a pe.n pe.c pe.notes)(hf:∀ x∈pe.notes,QM x=true)(hT:NtM I t)(hm:zms pe.notes t)(hn:pe.n≤4096):Ug Tryz.prog 109 [Zw bc,.int .i64 i,Ke t] I [(bc,.cells #[.slice (some ⟨bp,0,none⟩) pn pc,.slice qa qn qc,.slice aa an ac] 108 (0,0)),(bp,.cells (cur).toArray 59 (0,0))] (fun v I' L'=>v= .tuple #[]∧((zeY pe.notes t=true∧L'=[(bc,.cells #[.slice (some ⟨bp,0,none⟩) pn pc,.slice qa qn qc,.slice aa an ac] 108 (0,0)),(bp,.cells (cur).toArray 59 (0,0))])∨(zeY pe.notes t=false∧pe.n<4096∧∃ a c,L'=[(bc,.cells #[.slice (some ⟨bp,0,none⟩) pn pc,.slice qa qn qc,.slice aa an ac] 108 (0,0)),(bp,.cells (cur.set i (.slice a (pe.n+1) c)).toArray 59 (0,0))]∧Sl I' 45 Q4 a (pe.n+1) c (zgt pe.notes t)))) (fun v=>v= .iface 50 (.int .i64 2)∧zeY pe.notes t=false∧¬pe.n<4096):=by
 intro g H w hw
 refine qe Tryz.func109 Tryz.ntmps109 hw ?_
 have hIc:=zz4 I
 have hln:=hP.sl.len
 have hpl:=zfY pe.notes t
 refine zR ?_
 refine QO rfl rfl rfl (fun b_5=>?_)
 refine Qb ?_
 refine QF .here (fun I1 hI1 hb1=>?_)
 have hP:=hP.mono hI1;have hT:=hT.mono hI1;have hIc:=hIc.trans hI1
 have h5:=BxI.of hb1
 refine Qd (zR (zM ?_))
 refine zV (QG rfl) ?_
 refine zF Yk ?_
 refine zF YB ?_
 refine zL JM ?_
 refine zM ?_
 refine zV (Uu rfl rfl Jk (fun hg=>kB)) ?_
 refine zA (zN (Qo ?_))
 have hD:=zz4 I1
 refine QL I1 [(bc,.cells #[.slice (some ⟨bp,0,none⟩) pn pc,.slice qa qn qc,.slice aa an ac] 108 (0,0)),(bp,.cells (cur).toArray 59 (0,0))] mixed ?_
 refine zT 0 rfl (Qe rfl) hD ?_
 refine zT 1 rfl (QG rfl) hD ?_
 refine zT 2 rfl (Qa rfl ZB) hD ?_
 refine zT 3 rfl (Qc rfl YY (fun hg=>by exact zzY (zdH hci))) hD ?_
 refine zT 4 rfl (Qg rfl Q7 (fun hg=>by exact BxI.cells (vs:=Q4 t) h5) rfl) hD ?_
 refine qd 5 rfl ?_
 refine qcV (vs:=[_,_,_]) rfl zur (zyb hP hf hT hm kB) ?_
 refine Qb ?_
 refine zD hD ?_
 refine zT 6 rfl (Qe rfl) hD ?_
 refine zT 7 rfl (Q2 rfl rfl) hD ?_
 refine zT 8 rfl (Q2 rfl rfl) hD ?_
 refine zT 9 rfl (Qv rfl) hD ?_
 refine zT 10 rfl (Qv rfl) hD ?_
 refine Ql kA ?_
 refine Qd (Qo (zR (zM (zN ?_))))
 refine zI ?_ ?_<;>intro hc25
 ·
  refine Qs (Qf ?_)
  exact Yi rfl (fun w hw=>.inl ⟨_,I1,_,rfl,hIc,hw,rfl,.inl ⟨hc25,rfl⟩⟩)
 refine Qp (Qd (zR (zM ?_)))
 refine zV (QG rfl) ?_
 refine zF ZB ?_
 refine zV (Qc rfl YY (fun hg=>by exact zzY (zdH hci))) ?_
 refine zQ Q8 ?_
 refine zC ?_
 refine zx5 [_,_] rfl Kt .nil (UP I1 (decide ((pe.n:Int)<4096)) 2) ?_ (fun pv hpv=>by refine zx6 ?_;exact (⟨hpv.1,hc25,by have h:=hpv.2;simp at h;omega⟩))
 rintro vv2 I2 L2 hI2 ⟨rfl,rfl,rfl,hok⟩
 have hP:=hP.mono hI2;have h5:=h5.mono hI2;have hIc:=hIc.trans hI2
 have hok2:pe.n<4096:=by have h:=hok;simp at h;omega
 refine zN ?_
 have hD:=zz4 I2
 refine QL I2 [] mixed ?_
 refine zT 0 rfl (Qe rfl) hD ?_
 refine zT 1 rfl (Qe rfl) hD ?_
 refine zT 2 rfl (QG rfl) hD ?_
 refine zT 3 rfl (Qa rfl ZB) hD ?_
 refine zT 6 rfl (Qe rfl) hD ?_
 refine zT 7 rfl (Qg rfl Q7 (fun hg=>by exact BxI.cells (vs:=Q4 t) h5) rfl) hD ?_
 refine QS 4 8 rfl rfl kA ?_ ?_
 ·
  refine zV (Qc rfl YY (fun hg=>by exact zzY (zdH hci))) ?_
  refine Qb ?_
  refine zD hD ?_
  refine QS 5 8 rfl rfl kA ?_ ?_
  ·
   refine zpc [_] rfl zgq .nil (zdm hP.sl kB) ?_
   rintro vv3 I3 L3 hI3 ⟨rfl,hOc⟩
   have hP:=hP.mono hI3;have hIc:=hIc.trans hI3;have hD:=hD.trans hI3
   refine Qb ?_
   refine zD hD ?_
   refine qd 8 rfl ?_
   refine zpb [(0,_)] [Q4 t] U1 (fun b_41=>?_)
   refine Qb ?_
   refine zD hD ?_
   refine qd 9 rfl ?_
   refine zpc [_,_,_] rfl zf3 (by exact zgh) (zbH hOc kB hP.sl.len (i:=Wv pe.notes t) kB b_41 t) ?_
   rintro vv4 I4 L4 hI4 ⟨rfl,hOi⟩
   have hIc:=hIc.trans hI4;have hD:=hD.trans hI4
   refine Qb ?_
   refine zD hD ?_
   refine zT 10 rfl (QG rfl) hD ?_
   refine zT 11 rfl (Qa rfl ZB) hD ?_
   refine qd 12 rfl ?_
   refine zx7 hOi YV (fun I5 hI5 af5 cf5 ef5 hZ=>?_)
   subst ef5
   have hIc:=hIc.trans hI5;have hD:=hD.trans hI5
   refine Kh rfl rfl zgS rfl rfl Upd.u1 (zfL hci) ?_
   refine Qb ?_
   refine zD hD ?_
   refine Ql kA ?_
   exact YG (Yi rfl (fun w hw=>.inl ⟨_,I5,_,rfl,hIc,hw,rfl,.inr ⟨hc25,hok2,_,_,by rw [zkZ],hZ⟩⟩))
  refine zpb [(0,_)] [Q4 t] U1 (fun b_41=>?_)
  refine Qb ?_
  refine zD hD ?_
  refine qd 5 rfl ?_
  refine zpc [_] rfl zgq .nil (zdm hP.sl kB) ?_
  rintro vv6 I6 L6 hI6 ⟨rfl,hOc⟩
  have hP:=hP.mono hI6;have hIc:=hIc.trans hI6;have hD:=hD.trans hI6
  refine Qb ?_
  refine zD hD ?_
  refine qd 9 rfl ?_
  refine zpc [_,_,_] rfl zf3 (by exact zbE) (zbH hOc kB hP.sl.len (i:=Wv pe.notes t) kB b_41 t) ?_
  rintro vv7 I7 L7 hI7 ⟨rfl,hOi⟩
  have hIc:=hIc.trans hI7;have hD:=hD.trans hI7
  refine Qb ?_
  refine zD hD ?_
  refine zT 10 rfl (QG rfl) hD ?_
  refine zT 11 rfl (Qa rfl ZB) hD ?_
  refine qd 12 rfl ?_
  refine zx7 hOi YV (fun I8 hI8 af8 cf8 ef8 hZ=>?_)
  subst ef8
  have hIc:=hIc.trans hI8;have hD:=hD.trans hI8
  refine Kh rfl rfl zgS rfl rfl Upd.u1 (zfL hci) ?_
  refine Qb ?_
  refine zD hD ?_
  refine Ql kA ?_
  exact YG (Yi rfl (fun w hw=>.inl ⟨_,I8,_,rfl,hIc,hw,rfl,.inr ⟨hc25,hok2,_,_,by rw [zkZ],hZ⟩⟩))
 refine zpb [(0,_)] [Q4 t] U1 (fun b_41=>?_)
 refine Qb ?_
 refine zD hD ?_
 refine qd 4 rfl ?_
 refine zV (Qc rfl YY (fun hg=>by exact zzY (zzY (zdH hci)))) ?_
 refine Qb ?_
 refine zD hD ?_
 refine qd 5 rfl ?_
 refine zpc [_] rfl zgq .nil (zdm hP.sl kB) ?_
 rintro vv9 I9 L9 hI9 ⟨rfl,hOc⟩
 have hP:=hP.mono hI9;have hIc:=hIc.trans hI9;have hD:=hD.trans hI9
 refine Qb ?_
 refine zD hD ?_
 refine qd 9 rfl ?_
 refine zpc [_,_,_] rfl zf3 (by exact zbE) (zbH hOc kB hP.sl.len (i:=Wv pe.notes t) kB b_41 t) ?_
 rintro vv10 I10 L10 hI10 ⟨rfl,hOi⟩
 have hIc:=hIc.trans hI10;have hD:=hD.trans hI10
 refine Qb ?_
 refine zD hD ?_
 refine zT 10 rfl (QG rfl) hD ?_
 refine zT 11 rfl (Qa rfl ZB) hD ?_
 refine qd 12 rfl ?_
 refine zx7 hOi YV (fun I11 hI11 af11 cf11 ef11 hZ=>?_)
 subst ef11
 have hIc:=hIc.trans hI11;have hD:=hD.trans hI11
 refine Kh rfl rfl zgS rfl rfl Upd.u1 (zfL hci) ?_
 refine Qb ?_
 refine zD hD ?_
 refine Ql kA ?_
 exact YG (Yi rfl (fun w hw=>.inl ⟨_,I11,_,rfl,hIc,hw,rfl,.inr ⟨hc25,hok2,_,_,by rw [zkZ],hZ⟩⟩))
end
section
open Go Go.Kn Go.Proofs
theorem Jm:AgT Tryz.prog 28 3:=.of kA
theorem zqL:Fun Tryz.prog 58:=.of Tryz.func58 kA kA
theorem zhr:PlT Tryz.prog 28 #[(0,1),(1,2)] (.agg #[(.slice none 0 0),(.slice none 0 0),(.slice none 0 0)]):=⟨.of kA,kA,fun w=>kA⟩
theorem Ku:SzT Tryz.prog 28 3:=.of kA
theorem zct:Y9 Tryz.prog 28 (.agg #[(.slice none 0 0),(.slice none 0 0),(.slice none 0 0)]):=.of kA
theorem zqD:zzh Tryz.prog 22 59 24 (.agg #[.slice none 0 0]) (.slice none 0 0):=⟨kA,kA,by rfl⟩
theorem zhX (I:Qu):ZA Tryz.prog 58 [] I (zuj):=by
 intro g H w hw
 refine qe Tryz.func58 Tryz.ntmps58 hw ?_
 refine zR ?_
 refine Qr UR rfl rfl (fun b_0=>?_)
 refine zN (zR ?_)
 refine zV (Qg rfl ZM (fun hg=>by exact Cells.g0) rfl) ?_
 refine zh Yt ?_
 refine zN (Qs ?_)
 exact ZX rfl rfl ZM zz2 rfl (fun w hw=>⟨by rfl,hw.drop⟩)
theorem zyw (I:Qu)(n:Int):Vs Tryz.prog 14 [.int .i64 n] I [] (fun v I' L'=>I'=I∧(((decide (n<1)||decide (n>24))=true∧L'=[]∧v= .tuple #[.agg #[.slice none 0 0,.slice none 0 0,.slice none 0 0],.int .i64 1])∨((decide (n<1)||decide (n>24))=false∧∃ b,L'=[(b,.cells (List.replicate n.toNat (Value.slice none 0 0)).toArray 59 (0,0))]∧v= .tuple #[.agg #[.slice (some ⟨b,0,none⟩) n.toNat n.toNat,.slice none 0 0,.slice none 0 0],.int .i64 0]))):=by
 intro g H w hw
 refine qe Tryz.func14 Tryz.ntmps14 hw ?_
 refine zR ?_
 refine Qr zct rfl rfl (fun b_2=>?_)
 refine zA (zN (Qo (zR ?_)))
 refine zM ?_
 refine zC ?_
 refine zM ?_
 refine QK 2 rfl rfl rfl ?_
 refine zJ (Qe rfl) ?_
 refine zJ (Qz rfl rfl rfl) ?_
 refine Zg rfl rfl rfl rfl rfl ?_
 refine zN ?_
 refine zI ?_ ?_<;>intro hc9
 ·
  refine zR ?_
  refine zV (Qg rfl Jm (fun hg=>by exact Cells.g0) rfl) ?_
  refine zh Ku ?_
  refine zA (zN (Qs (Qf ?_)))
  exact ZN rfl rfl rfl Jm zz2 rfl (fun w hw=>⟨_,I,_,rfl,zz4 _,hw.drop,rfl,.inl ⟨hc9,rfl,rfl⟩⟩)
 have h9:1≤n∧n≤24:=by have h:=hc9;simp at h;omega
 refine Qp (Qd (Qo ?_))
 have hD:=zz4 I
 refine Zn ?_
 refine QL I [] mixed ?_
 refine zT 0 rfl (Qe rfl) hD ?_
 refine QS 1 2 rfl rfl kA ?_ ?_
 ·
  refine Xe zqD rfl rfl kB kD rfl rfl (fun b_12=>?_)
  refine Qb ?_
  refine zD hD ?_
  refine qd 2 rfl ?_
  refine qcV (vs:=[]) rfl zqL (zhX _) ?_
  refine Qb ?_
  refine zD hD ?_
  refine zT 3 rfl (QI (ps:=[(0,_),(1,_)]) [_,_,_] zhr rfl rfl) hD ?_
  refine qd 4 rfl ?_
  refine zh Ku ?_
  refine Qb ?_
  refine zD hD ?_
  refine zT 5 rfl (Qv rfl) hD ?_
  refine Ql kA ?_
  refine Qt ?_
  refine Qd (Qs ?_)
  exact ZN rfl rfl rfl Jm (.there .here) rfl (fun w hw=>⟨_,I,_,rfl,zz4 _,hw.subL (.keep (.drop .refl)),rfl,.inr ⟨hc9,_,rfl,rfl⟩⟩)
 refine qcV (vs:=[]) rfl zqL (zhX _) ?_
 refine Qb ?_
 refine zD hD ?_
 refine qd 1 rfl ?_
 refine Xe zqD rfl rfl kB kD rfl rfl (fun b_12=>?_)
 refine Qb ?_
 refine zD hD ?_
 refine zT 3 rfl (QI (ps:=[(0,_),(1,_)]) [_,_,_] zhr rfl rfl) hD ?_
 refine qd 4 rfl ?_
 refine zh Ku ?_
 refine Qb ?_
 refine zD hD ?_
 refine zT 5 rfl (Qv rfl) hD ?_
 refine Ql kA ?_
 refine Qt ?_
 refine Qd (Qs ?_)
 exact ZN rfl rfl rfl Jm (.there .here) rfl (fun w hw=>⟨_,I,_,rfl,zz4 _,hw.subL (.keep (.drop .refl)),rfl,.inr ⟨hc9,_,rfl,rfl⟩⟩)
end
section
open Go Go.Kn Go.Proofs
theorem zmF:∀ a:List UInt8,Lib.compareBytes a a=0
 | []=>rfl
 | x::l=>by simp only [Lib.compareBytes,if_neg (UInt8.lt_irrefl x)];exact zmF l
theorem ztS:∀ {a b:List UInt8},Lib.compareBytes a b=0→a=b
 | [],[],_=>rfl
 | [],_::_,h=>by simp [Lib.compareBytes] at h
 | _::_,[],h=>by simp [Lib.compareBytes] at h
 | x::a,y::b,h=>by
  unfold Lib.compareBytes at h
  split at h
  ·
   cases h
  ·
   rename_i h1
   split at h
   ·
    cases h
   ·
    rename_i h2
    have e:x=y:=UInt8.le_antisymm (UInt8.not_lt.1 h2) (UInt8.not_lt.1 h1)
    rw [e,ztS h]
theorem zhB:∀ {a b c:List UInt8},Lib.compareBytes a b<0→Lib.compareBytes b c<0→Lib.compareBytes a c<0
 | [],[],_,h,_=>by simp [Lib.compareBytes] at h
 | _::_,[],_,h,_=>by simp [Lib.compareBytes] at h
 | _,_::_,[],_,h=>by simp [Lib.compareBytes] at h
 | [],_::_,_::_,_,_=>by simp [Lib.compareBytes]
 | x::a,y::b,z::c,h1,h2=>by
  unfold Lib.compareBytes at h1 h2 ⊢
  by_cases hxy:x<y
  ·
   by_cases hyz:y<z
   ·
    rw [if_pos (UInt8.lt_trans hxy hyz)];decide
   ·
    rw [if_neg hyz] at h2
    by_cases hzy:z<y
    ·
     rw [if_pos hzy] at h2;simp at h2
    ·
     have e:y=z:=UInt8.le_antisymm (UInt8.not_lt.1 hzy) (UInt8.not_lt.1 hyz)
     rw [←e,if_pos hxy];decide
  ·
   rw [if_neg hxy] at h1
   by_cases hyx:y<x
   ·
    rw [if_pos hyx] at h1;simp at h1
   ·
    rw [if_neg hyx] at h1
    have e:x=y:=UInt8.le_antisymm (UInt8.not_lt.1 hyx) (UInt8.not_lt.1 hxy)
    rw [e]
    by_cases hyz:y<z
    ·
     rw [if_pos hyz];decide
    ·
     rw [if_neg hyz] at h2 ⊢
     by_cases hzy:z<y
     ·
      rw [if_pos hzy] at h2;simp at h2
     ·
      rw [if_neg hzy] at h2 ⊢
      exact zhB h1 h2
theorem zji:∀ (a b:List UInt8),Lib.compareBytes a b= - Lib.compareBytes b a
 | [],[]=>rfl
 | [],_::_=>rfl
 | _::_,[]=>rfl
 | x::a,y::b=>by
  unfold Lib.compareBytes
  by_cases hxy:x<y
  ·
   rw [if_pos hxy,if_neg (UInt8.lt_asymm hxy),if_pos hxy]
  ·
   rw [if_neg hxy]
   by_cases hyx:y<x
   ·
    rw [if_pos hyx,if_pos hyx];rfl
   ·
    rw [if_neg hyx,if_neg hyx,if_neg hxy];exact zji a b
theorem Jq {x y z:Nt}(h1:Vv x y<0)(h2:Vv y z<0):Vv x z<0:=zhB h1 h2
theorem UN (x:Nt):Vv x x=0:=zmF _
theorem Xx (x y:Nt):Vv x y= - Vv y x:=zji _ _
def zi3 (xs:List Nt):Prop:=∀ (k l:Nat) (x y:Nt),k<l→xs[k]? =some x→xs[l]? =some y→Vv x y<0
theorem zi3.mono {xs:List Nt}(h:zi3 xs)(t:Nt):zms xs t:=fun k l x y hkl hx hy hc=>by
 rcases Nat.lt_or_ge k l with h1 | h1
 ·
  exact Jq (h k l x y h1 hx hy) hc
 ·
  obtain rfl:k=l:=kB
  rw [hx] at hy;cases hy;exact hc
theorem Yc {xs:List Nt}(h:ZL xs=true):zi3 xs∧(∀ x∈xs,QM x=true)∧xs.length≤4096:=by
 unfold ZL at h
 rw [Bool.and_eq_true,decide_eq_true_eq] at h
 obtain ⟨hg,hl⟩:=h
 have hall:=(XE xs []).1 hg
 have hf:∀ x∈xs,QM x=true:=fun x hx=>by
  obtain ⟨k,hk⟩:=List.mem_iff_getElem?.1 hx
  exact zcl (hall k x hk)
 have hstep:∀ (k:Nat) (x y:Nt),xs[k]? =some x→xs[k+1]? =some y→Vv x y<0:=fun k x y hx hy=>by
  have h1:=hall (k+1) y hy
  rw [List.nil_append] at h1
  have e:(((k+1:Nat):Int)-1).toNat=k:=kB
  rw [Ub (hf y (List.mem_of_getElem? hy)) (Nat.succ_pos k) (by rw [e];exact hx)] at h1
  simpa using h1
 refine ⟨?_,hf,hl⟩
 intro k l x y hkl hx hy
 induction l generalizing y with
 | zero=>omega
 | succ l ih=>
  rcases Nat.lt_or_ge k l with h1 | h1
  ·
   obtain ⟨z,hz⟩:∃ z,xs[l]? =some z:=⟨_,List.getElem?_eq_getElem (by have:=(List.getElem?_eq_some_iff.1 hy).1;omega)⟩
   exact Jq (ih z h1 hz) (hstep l z y hz hy)
  ·
   obtain rfl:k=l:=kB
   exact hstep k x y hx hy
theorem zsx {xs:List Nt}{t:Nt}:∀ k x,k<Wv xs t→xs[k]? =some x→Vv x t<0:=by
 unfold Wv
 induction xs with
 | nil=>intro k x h;simp at h
 | cons a l ih=>
  intro k x hk hx
  by_cases h:Vv a t<0
  ·
   simp only [List.takeWhile,h,decide_true] at hk
   cases k with
   | zero=>cases hx;exact h
   | succ k=>exact ih k x (by simpa using hk) hx
  ·
   simp [List.takeWhile,h] at hk
theorem zsl {xs:List Nt}{t x:Nt}(hx:xs[Wv xs t]? =some x):¬Vv x t<0:=by
 unfold Wv at hx
 induction xs with
 | nil=>cases hx
 | cons a l ih=>
  by_cases h:Vv a t<0
  ·
   simp only [List.takeWhile,h,decide_true,List.length_cons,List.getElem?_cons_succ] at hx
   exact ih hx
  ·
   simp only [List.takeWhile,h,decide_false,List.length_nil,List.getElem?_cons_zero,Option.some.injEq] at hx
   subst hx;exact h
theorem zsu {xs:List Nt}{t:Nt}(k:Nat):(zgt xs t)[k]? =if k<Wv xs t then xs[k]? else if k=Wv xs t then some t else xs[k-1]? :=by
 have hp:=zfY xs t
 unfold zgt
 by_cases h1:k<Wv xs t
 ·
  rw [if_pos h1,List.getElem?_append_left kO,List.getElem?_take,if_pos h1]
 ·
  rw [if_neg h1,List.getElem?_append_right kO,List.length_take,Nat.min_eq_left hp]
  by_cases h2:k=Wv xs t
  ·
   rw [if_pos h2,h2,Nat.sub_self];rfl
  ·
   rw [if_neg h2,show k-Wv xs t=(k-1-Wv xs t)+1 by omega,List.getElem?_cons_succ,List.getElem?_drop]
   congr 1;omega
theorem zkc {xs:List Nt}{t:Nt}(h:zi3 xs)(hh:zeY xs t=false):zi3 (zgt xs t):=by
 have hgt:∀ k x,Wv xs t≤k→xs[k]? =some x→Vv t x<0:=fun k x hk hx=>by
  obtain ⟨y,hy⟩:∃ y,xs[Wv xs t]? =some y:=⟨_,List.getElem?_eq_getElem (by have:=(List.getElem?_eq_some_iff.1 hx).1;omega)⟩
  have h1:=zsl hy
  have h2:Vv y t≠0:=by
   have:=zlJ rfl hy
   rw [hh] at this
   simpa using this.symm
  have h3:Vv t y<0:=by rw [Xx];omega
  rcases Nat.lt_or_ge (Wv xs t) k with h4 | h4
  ·
   exact Jq h3 (h _ _ _ _ h4 hy hx)
  ·
   obtain rfl:k=Wv xs t:=kB
   rw [hy] at hx;cases hx;exact h3
 intro k l x y hkl hx hy
 rw [zsu] at hx hy
 split at hx
 ·
  rename_i hk
  split at hy
  ·
   exact h k l x y hkl hx hy
  ·
   split at hy
   ·
    cases hy;exact zsx k x hk hx
   ·
    rename_i h2 h3
    exact h k (l-1) x y kB hx hy
 ·
  rename_i hk
  split at hx
  ·
   rename_i hk2
   cases hx
   rw [if_neg kB,if_neg kB] at hy
   exact hgt (l-1) y kB hy
  ·
   rename_i hk2
   rw [if_neg kB,if_neg kB] at hy
   exact h (k-1) (l-1) x y kB hx hy
theorem X3 {xs:List Nt}{t x:Nt}:x∈zgt xs t↔x=t∨x∈xs:=by
 unfold zgt
 rw [List.mem_append,List.mem_cons]
 conv=>rhs;rw [←List.take_append_drop (Wv xs t) xs,List.mem_append]
 constructor
 ·
  rintro (h | h | h)
  ·
   exact .inr (.inl h)
  ·
   exact .inl h
  ·
   exact .inr (.inr h)
 ·
  rintro (h | h | h)
  ·
   exact .inr (.inl h)
  ·
   exact .inl h
  ·
   exact .inr (.inr h)
theorem zfX {xs:List Nt}{t:Nt}:(zgt xs t).length=xs.length+1:=by
 have:=zfY xs t
 unfold zgt
 rw [List.length_append,List.length_cons,List.length_take,List.length_drop];omega
mutual
theorem Uv:∀ (v:Va),Va.ok v→∀ c∈Va.enc v,c<256
 | .int n,h,c,hc=>by
  simp only [Va.enc,List.mem_cons] at hc
  rcases hc with rfl | hc
  ·
   decide
  ·
   exact zbf c hc
 | .text s,h,c,hc=>by
  simp only [Va.enc,List.mem_cons,List.mem_append] at hc
  rcases hc with rfl | hc | hc
  ·
   decide
  ·
   exact zbf c hc
  ·
   exact h.1 c hc
 | .list l,h,c,hc=>by
  simp only [Va.enc,List.mem_cons,List.mem_append] at hc
  rcases hc with rfl | hc | hc
  ·
   decide
  ·
   exact zbf c hc
  ·
   exact zef l h.2 c hc
theorem zef:∀ (l:List Va),Va.okL l→∀ c∈Va.encL l,c<256
 | [],_,c,hc=>by cases hc
 | x::l,h,c,hc=>by
  simp only [Va.encL,List.mem_append] at hc
  rcases hc with hc | hc
  ·
   exact Uv x h.1 c hc
  ·
   exact zef l h.2 c hc
end
theorem zoW {a b:List Nat}(ha:∀ c∈a,c<256)(hb:∀ c∈b,c<256)(h:Wl a=Wl b):a=b:=by
 rw [←V9 ha,←V9 hb,h]
theorem zuu {x y:Nt}(hx:Va.ok (KF x))(hy:Va.ok (KF y))(h:Vv x y=0):YN x=YN y:=by
 have h1:(zaB x).data.toList=(zaB y).data.toList:=ztS h
 have h2:zaB x=zaB y:=by
  have e:(zaB x).data=(zaB y).data:=Array.toList_inj.1 h1
  have:∀ a b:ByteArray,a.data=b.data→a=b:=fun a b e=>by cases a;cases b;simp_all
  exact this _ _ e
 have h3:KA x=KA y:=zoW (Uv _ hx) (Uv _ hy) h2
 have d1:=zd6 (KF x) (d:=16) (r:=[]) hx (JB x)
 have d2:=zd6 (KF y) (d:=16) (r:=[]) hy (JB y)
 have h4:Va.enc (KF x)=Va.enc (KF y):=h3
 rw [h4,d2] at d1
 have h5:KF y=KF x:=by simpa using d1
 have r1:=zgx x
 rw [←h5,zgx y] at r1
 exact (Option.some.inj r1).symm
end
section
open Go Go.Kn Go.Proofs
structure PkM (I:Qu)(p:Pk):Prop where
 sl:Sl I 1 Jf p.a p.n p.c p.data
 byte:∀ c∈p.data,c<256
theorem PkM.mono {I I':Qu}{p:Pk}(h:PkM I p)(hI:HLe I I'):PkM I' p:=⟨h.sl.mono hI,h.byte⟩
structure zja (I:Qu)(cur:List Value)(ps:List Pe):Prop where
 at_:∀ (i:Nat) (pe:Pe),ps[i]? =some pe→cur[i]? =some (.slice pe.a pe.n pe.c)
 nt:∀ pe∈ps,zbd I pe.a pe.n pe.c pe.notes
 ok:∀ pe∈ps,ZL pe.notes=true
theorem zja.mono {I I':Qu}{cur:List Value}{ps:List Pe}(h:zja I cur ps)(hI:HLe I I'):zja I' cur ps:=⟨h.at_,fun p hp=>(h.nt p hp).mono hI,h.ok⟩
theorem Xl {xs:List Nt}(hs:zi3 xs)(hf:∀ x∈xs,QM x=true)(hl:xs.length≤4096):ZL xs=true:=by
 rw [zdY (fun j y hj hy=>?_)]
 ·
  simp only [decide_eq_true_eq];omega
 ·
  have hfy:=hf y (List.mem_of_getElem? hy)
  cases j with
  | zero=>exact zdu hfy
  | succ j=>
   obtain ⟨z,hz⟩:∃ z,xs[j]? =some z:=⟨_,List.getElem?_eq_getElem kB⟩
   rw [Ub (k:=j+1) hfy (Nat.succ_pos j) (y:=z) (by rw [show (((j+1:Nat):Int)-1).toNat=j by omega];exact hz)]
   have:=hs j (j+1) z y kB hz hy
   simp;omega
/-! ### Notes without their heads -/
theorem zaX (x y:Nt):Vv (YN x) (YN y)=Vv x y:=rfl
theorem zgK (t:Nt):∀ xs:List Nt,Wv (xs.map YN) (YN t)=Wv xs t:=by
 intro xs
 unfold Wv
 induction xs with
 | nil=>rfl
 | cons a l ih=>
  simp only [List.map_cons,List.takeWhile]
  rw [zaX]
  split
  ·
   simp only [List.length_cons];rw [ih]
  ·
   rfl
theorem zdK (xs:List Nt)(t:Nt):zeY (xs.map YN) (YN t)=zeY xs t:=by
 unfold zeY
 rw [zgK,List.getElem?_map]
 cases xs[Wv xs t]? <;>rfl
theorem zo2 (xs:List Nt)(t:Nt):zgt (xs.map YN) (YN t)=(zgt xs t).map YN:=by
 unfold zgt
 rw [zgK,List.map_append,List.map_cons,List.map_take,List.map_drop]
def dtP (ps:List Pe):List (List Nt):=ps.map fun pe=>pe.notes.map YN
theorem zdv (ps:List Pe):(dtP ps).length=ps.length:=by simp [dtP]
theorem zbN {ps:List Pe}{i:Nat}{pe:Pe}(h:ps[i]? =some pe):(dtP ps)[i]? =some (pe.notes.map YN):=by simp [dtP,h]
def znt (xs:List Nt)(t:Nt):Option (List Nt):=if zeY xs t=true then some xs else if xs.length<4096 then some (zgt xs t) else none
def zcr (P:List (List Nt))(i:Nat)(t:Nt):Option (List (List Nt)):=(P[i]?).bind fun xs=>(znt xs t).map fun ys=>P.set i ys
theorem zpZ {α:Type}{l:List α}{i:Nat}{x:α}(h:l[i]? =some x):l.set i x=l:=by
 obtain ⟨h1,h2⟩:=List.getElem?_eq_some_iff.1 h
 rw [←h2,List.set_getElem_self]
theorem zos {ps:List Pe}{i:Nat}{pe:Pe}{t:Nt}(h:ps[i]? =some pe)(hh:zeY pe.notes t=true):zcr (dtP ps) i (YN t)=some (dtP ps):=by
 unfold zcr znt
 rw [zbN h,Option.bind_some,zdK,if_pos hh,Option.map_some,zpZ (zbN h)]
theorem zoE {ps:List Pe}{i:Nat}{pe:Pe}{t:Nt}(h:ps[i]? =some pe)(hh:zeY pe.notes t=false)(hl:pe.notes.length<4096)(a:Option Addr)(n c:Nat):zcr (dtP ps) i (YN t)=some (dtP (ps.set i ⟨a,n,c,zgt pe.notes t⟩)):=by
 unfold zcr znt
 rw [zbN h,Option.bind_some,zdK,if_neg (by rw [hh];simp),if_pos (by simpa using hl),Option.map_some,zo2]
 simp [dtP,List.map_set]
theorem zlM {ps:List Pe}{i:Nat}{pe:Pe}{t:Nt}(h:ps[i]? =some pe)(hh:zeY pe.notes t=false)(hl:¬pe.notes.length<4096):zcr (dtP ps) i (YN t)=none:=by
 unfold zcr znt
 rw [zbN h,Option.bind_some,zdK,if_neg (by rw [hh];simp),if_neg (by simpa using hl)];rfl
theorem zja.lrn {I I':Qu}{cur:List Value}{ps:List Pe}{i:Nat}{pe:Pe}{t:Nt}{a:Option Addr}{c:Nat}(h:zja I cur ps)(hI:HLe I I')(hx:ps[i]? =some pe)(hT:NtM I t)(ht:QM t=true)(hh:zeY pe.notes t=false)
  (hl:pe.n<4096)(hS:Sl I' 45 Q4 a (pe.n+1) c (zgt pe.notes t)):zja I' (cur.set i (.slice a (pe.n+1) c)) (ps.set i ⟨a,pe.n+1,c,zgt pe.notes t⟩):=by
 have hm:=List.mem_of_getElem? hx
 have hP:=h.nt pe hm
 obtain ⟨v1,v2,v3⟩:=Yc (h.ok pe hm)
 have hlen:=hP.sl.len
 refine ⟨fun j q hq=>?_,fun q hq=>?_,fun q hq=>?_⟩
 ·
  rw [List.getElem?_set] at hq
  split at hq
  ·
   rename_i e
   subst e
   split at hq
   ·
    cases hq
    rw [List.getElem?_set_self (by
     have:=(List.getElem?_eq_some_iff.1 (h.at_ i pe hx)).1
     exact this)]
   ·
    cases hq
  ·
   rename_i e
   rw [List.getElem?_set_ne e];exact h.at_ j q hq
 ·
  rcases List.mem_or_eq_of_mem_set hq with hq | rfl
  ·
   exact (h.nt q hq).mono hI
  ·
   refine ⟨hS,fun x hx=>?_,fun x hx hf=>?_⟩
   ·
    rcases X3.1 hx with rfl | hx
    ·
     exact hT.nd.mono hI
    ·
     exact (hP.nd x hx).mono hI
   ·
    rcases X3.1 hx with rfl | hx
    ·
     exact hT.mono hI
    ·
     exact (hP.m x hx hf).mono hI
 ·
  rcases List.mem_or_eq_of_mem_set hq with hq | rfl
  ·
   exact h.ok q hq
  ·
   refine Xl (zkc v1 hh) (fun x hx=>?_) (by rw [zfX];omega)
   rcases X3.1 hx with rfl | hx
   ·
    exact ht
   ·
    exact v2 x hx
end
section
open Go Go.Kn Go.Proofs
def VD (p:Pk):Pk:={p with a:=none,n:=p.data.length,c:=0}
structure Rd where
 ps:List (List Nt)
 qs:List Pk
 ks:List (Int×Int)
def zeroR:Rd:=⟨[],[],[]⟩
def U0 (m:Nat)(p:Pk):Bool:= !(okN p.data).isSome||decide (zfg p.frm p.to_≥(m:Int))
def zeL (r:Rd):Int:=
 if ((decide ((r.ps.length:Int)<1)||decide ((r.ps.length:Int)>24))||UG r.qs r.ks != 0)=true then 570
 else if r.ps.any (fun xs=> !ZL xs)=true then 570
 else if r.qs.any (U0 r.ps.length)=true then 570 else 0
def pkN (i k:Int)(t:Nt):Pk:=⟨i,k,none,(KA t).length,0,KA t⟩
def Kq (m:Nat)(i:Int)(t:Nt):List Pk:=((List.range m).filter fun (k:Nat)=>(k:Int) != i).map fun (k:Nat)=>pkN i k t
def isP (r:Rd)(i:Int):Bool:=decide (i≥0)&&decide (i<(r.ps.length:Int))
def UD (r:Rd)(x:Ev):Int×Rd:=
 if isP r x.peer=true then
  if QM x.note=true then (match zcr r.ps x.peer.toNat x.note with
   | none=>(2,zeroR)
   | some P=>(0,⟨P,r.qs++Kq r.ps.length x.peer x.note,r.ks⟩))
  else (570,zeroR)
 else (1,zeroR)
def zay (r:Rd)(x:Ev):Int×Rd:=
 if (isP r x.peer&&isP r x.to_&&x.peer != x.to_)=true then (0,⟨r.ps,r.qs++(r.ps.getD x.peer.toNat []).map (pkN x.peer x.to_),r.ks⟩) else (1,zeroR)
def zco (r:Rd)(x:Ev):Int×Rd:=
 if atE r.qs r.ks x.at_≠0 then (atE r.qs r.ks x.at_,zeroR)
 else if (Jn r.qs r.ks x.at_).frm=(Jn r.qs r.ks x.at_).to_ then (0,⟨r.ps,r.qs.eraseIdx x.at_.toNat,r.ks⟩)
 else match (okN (Jn r.qs r.ks x.at_).data).bind (zcr r.ps (Jn r.qs r.ks x.at_).to_.toNat) with
  | none=>(2,zeroR)
  | some P=>(0,⟨P,r.qs.eraseIdx x.at_.toNat,r.ks⟩)
def zcC (r:Rd)(x:Ev):Int×Rd:=if atE r.qs r.ks x.at_≠0 then (atE r.qs r.ks x.at_,zeroR) else (0,⟨r.ps,r.qs.eraseIdx x.at_.toNat,r.ks⟩)
def zcD (r:Rd)(x:Ev):Int×Rd:=if WF r.qs r.ks x.at_≠0 then (WF r.qs r.ks x.at_,zeroR) else (0,⟨r.ps,r.qs++[atP r.qs r.ks x.at_],r.ks⟩)
def zcz (r:Rd)(x:Ev):Int×Rd:=
 if x.kind=1 then UD r x else if x.kind=2 then zay r x else if x.kind=3 then zco r x else if x.kind=4 then zcC r x else if x.kind=5 then zcD r x else (1,zeroR)
def doF (r:Rd)(x:Ev):Int×Rd:=if zeL r≠0 then (zeL r,zeroR) else zcz r x
def YU (x:Ev):Ev:={x with note:=YN x.note}
structure RmP (I:Qu)(pa:Option Addr)(pn pc:Nat)(qa:Option Addr)(qn qc:Nat)(aa:Option Addr)(an ac:Nat)(ps:List Pe)(qs:List Pk)(ks:List (Int×Int)):Prop where
 pe:Sl I 1 Xd pa pn pc ps
 nt:∀ x∈ps,zbd I x.a x.n x.c x.notes
 q:Sl I 3 Zz qa qn qc qs
 pk:∀ x∈qs,PkM I x
 k:Sl I 2 K6 aa an ac ks
theorem RmP.mono {I I':Qu}{pa qa aa:Option Addr}{pn pc qn qc an ac:Nat}{ps:List Pe}{qs:List Pk}{ks:List (Int×Int)}(h:RmP I pa pn pc qa qn qc aa an ac ps qs ks)(hI:HLe I I'):RmP I' pa pn pc qa qn qc aa an ac ps qs ks:=
 ⟨h.pe.mono hI,fun x hx=>(h.nt x hx).mono hI,h.q.mono hI,fun x hx=>(h.pk x hx).mono hI,h.k.mono hI⟩
def VV (ps:List Pe)(qs:List Pk)(ks:List (Int×Int)):Rd:=⟨dtP ps,qs.map VD,ks⟩
def RmV (I:Qu)(v:Value)(r:Rd):Prop:=∃ pa pn pc qa qn qc aa an ac ps qs,v= .agg #[.slice pa pn pc,.slice qa qn qc,.slice aa an ac]∧RmP I pa pn pc qa qn qc aa an ac ps qs r.ks∧VV ps qs r.ks=r
theorem zlr {I:Qu}{a:Option Addr}{n c:Nat}{xs:List Nt}(h:zbd I a n c xs):ZL (xs.map YN)=ZL xs:=by
 have hf:∀ x∈xs,QM (YN x)=QM x:=fun x hx=>Jt (by
  have h1:Sl I 1 Z5 x.pt.a x.pt.n x.pt.c x.pt.needs:=h.nd x hx
  exact h1.len.symm)
 have hb:∀ (pre:List Nt) (x:Nt),x∈xs→zcp (pre.map YN) (YN x)=zcp pre x:=fun pre x hx=>by
  unfold zcp
  rw [hf x hx,List.getLast?_map]
  cases pre.getLast? with
  | none=>rfl
  | some y=>simp only [Option.map_some,zaX];rfl
 have hg:∀ (ys pre:List Nt),(∀ y∈ys,y∈xs)→zbM (pre.map YN) (ys.map YN)=zbM pre ys:=by
  intro ys
  induction ys with
  | nil=>intro pre _;rfl
  | cons y ys ih=>
   intro pre hys
   rw [List.map_cons,zbM,zbM,hb pre y (hys y (List.mem_cons_self ..)),←ih (pre++[y]) (fun z hz=>hys z (List.mem_cons_of_mem _ hz))]
   simp
 unfold ZL
 rw [←hg xs [] (fun _ h=>h)]
 simp
theorem zgr {α β:Type}{f:α→β}{p:β→Bool}{q:α→Bool}{xs:List α}(h:∀ x∈xs,p (f x)=q x):(xs.map f).any p=xs.any q:=by
 rw [List.any_map]
 exact zg8 h
theorem zkW {I:Qu}{p:Pk}(h:PkM I p):pkV (VD p)=pkV p:=by
 have:=h.sl.len
 unfold pkV VD
 simp only [this]
theorem W0 {I:Qu}{qs:List Pk}(h:∀ x∈qs,PkM I x)(ks:List (Int×Int)):UG (qs.map VD) ks=UG qs ks:=by
 unfold UG
 rw [zgr (q:=fun x=> !pkV x) (fun x hx=>by simp only [zkW (h x hx)]),List.length_map]
theorem WG {I:Qu}{qs:List Pk}(h:∀ x∈qs,PkM I x)(ks:List (Int×Int))(i:Int):atE (qs.map VD) ks i=atE qs ks i:=by
 unfold atE
 rw [W0 h,List.length_map]
theorem zgE {I:Qu}{qs:List Pk}(h:∀ x∈qs,PkM I x)(ks:List (Int×Int))(i:Int):atP (qs.map VD) ks i=VD (atP qs ks i):=by
 unfold atP
 rw [WG h]
 split
 ·
  rw [List.getD_eq_getElem?_getD,List.getD_eq_getElem?_getD,List.getElem?_map]
  cases qs[i.toNat]? <;>rfl
 ·
  rfl
theorem zhR {I:Qu}{qs:List Pk}(h:∀ x∈qs,PkM I x)(ks:List (Int×Int))(i:Int):Jn (qs.map VD) ks i=VD (Jn qs ks i):=by
 unfold Jn
 rw [zgE h]
 have e:zqG ks (VD (atP qs ks i))=zqG ks (atP qs ks i):=rfl
 rw [e]
 split<;>rfl
theorem zg6 {I:Qu}:PkM I zbC:=⟨.nil,fun _ h=>by cases h⟩
theorem zp9 {I:Qu}{qs:List Pk}(h:∀ x∈qs,PkM I x)(ks:List (Int×Int))(i:Int):PkM I (atP qs ks i):=by
 unfold atP
 split
 ·
  rw [List.getD_eq_getElem?_getD]
  cases hx:qs[i.toNat]? with
  | none=>exact zg6
  | some x=>exact h x (List.mem_of_getElem? hx)
 ·
  exact zg6
theorem ze3 {I:Qu}{qs:List Pk}(h:∀ x∈qs,PkM I x)(ks:List (Int×Int)){p:Pk}(hp:PkM I p):UE (qs.map VD) ks (VD p)=UE qs ks p:=by
 unfold UE
 rw [W0 h,zkW hp,List.length_map]
theorem zhm {I:Qu}{qs:List Pk}(h:∀ x∈qs,PkM I x)(ks:List (Int×Int))(i:Int):WF (qs.map VD) ks i=WF qs ks i:=by
 unfold WF
 rw [WG h,zgE h,ze3 h _ (zp9 h ks i)]
theorem Xg {α β:Type}(f:α→β):∀ (l:List α) (j:Nat),(l.map f).eraseIdx j=(l.eraseIdx j).map f
 | [],_=>rfl
 | _::_,0=>rfl
 | x::l,j+1=>by simp [Xg f l j]
end
section
open Go Go.Kn Go.Proofs
structure NtW (x:Nt):Prop where
 ints:∀ y∈YS x, -9223372036854775808≤y∧y≤9223372036854775807
 needs:∀ y∈x.pt.needs, -9223372036854775808≤y∧y≤9223372036854775807
theorem zoj {xs:List S.Rt}{x:S.Rt}:∀ {bs:List (Int×S.Rt)} {last:Int},S.rGo (xs++[x]) bs last=0→∃ bs' last',S.rBad x bs' last'=false:=by
 induction xs with
 | nil=>
  intro bs last h
  simp only [List.nil_append,S.rGo] at h
  split at h
  ·
   cases h
  ·
   rename_i hb;exact ⟨bs,last,by simpa using hb⟩
 | cons y ys ih=>
  intro bs last h
  simp only [List.cons_append,S.rGo] at h
  split at h
  ·
   cases h
  ·
   exact ih h
theorem znY {x:S.Rt}(h:S.rCheck (rtC x)=0):x.name.size≤32∧x.town.size≤32:=by
 obtain ⟨xs,hxs⟩:∃ xs,rtC x=xs++[x]:=by
  unfold rtC
  split
  ·
   exact ⟨[],rfl⟩
  ·
   exact ⟨[_],rfl⟩
 rw [hxs] at h
 unfold S.rCheck at h
 split at h
 ·
  cases h
 ·
  obtain ⟨bs,last,hb⟩:=zoj h
  unfold S.rBad at hb
  simp only [Bool.or_eq_false_iff,Bool.not_eq_false'] at hb
  have ha:=hb.2
  have hheld:S.heldF x=true→x.name.size≤32∧x.town.size≤32:=fun h=>by
   unfold S.heldF at h
   simp only [Bool.and_eq_true] at h
   have e:=S.rtEq_iff.1 h.1.1.1
   have e1:x.name=⟨#[]⟩:=congrArg S.Rt.name e
   have e2:x.town=⟨#[]⟩:=congrArg S.Rt.town e
   rw [e1,e2];exact ⟨by decide,by decide⟩
  unfold S.askF at ha
  split at ha
  ·
   unfold S.billF S.within at ha
   simp only [Bool.and_eq_true,decide_eq_true_eq] at ha
   omega
  ·
   split at ha
   ·
    exact hheld ha
   ·
    split at ha
    ·
     exact hheld ha
    ·
     unfold S.voidF at ha
     split at ha
     ·
      cases ha
     ·
      simp only [Bool.and_eq_true] at ha
      have e:=S.rtEq_iff.1 ha.2
      have e1:x.name=⟨#[]⟩:=congrArg S.Rt.name e
      have e2:x.town=⟨#[]⟩:=congrArg S.Rt.town e
      rw [e1,e2];exact ⟨by decide,by decide⟩
theorem XL {x:Nt}(hl:x.pt.needs.length=x.pt.n)(h:QM x=true):x.pt.needs.length≤32∧x.rt.name.size≤32∧x.rt.town.size≤32:=by
 unfold QM at h
 simp only [Bool.and_eq_true,beq_iff_eq] at h
 obtain ⟨h1,h2⟩:=h
 unfold Xo at h2
 simp only [Bool.and_eq_true,Bool.or_eq_true,beq_iff_eq] at h2
 obtain ⟨⟨⟨_,h3⟩,_⟩,h5⟩:=h2
 constructor
 ·
  rcases h3 with hk | hz
  ·
   unfold Wm at h1
   rw [if_neg kB,if_pos hk] at h1
   unfold K1 at h1
   split at h1
   ·
    cases h1
   ·
    omega
  ·
   unfold z2 at hz
   simp only [Bool.and_eq_true,beq_iff_eq] at hz
   omega
 ·
  rcases h5 with hk | hz
  ·
   unfold Wm at h1
   rw [if_neg kB,if_neg kB,if_neg kB,if_pos hk] at h1
   exact znY h1
  ·
   have e:=S.rtEq_iff.1 hz
   rw [e];exact ⟨by decide,by decide⟩
theorem zfa:∀ {l:List Va},(∀ v∈l,Va.ok v)→Va.okL l
 | [],_=>trivial
 | x::l,h=>⟨h x (List.mem_cons_self ..),zfa fun v hv=>h v (List.mem_cons_of_mem _ hv)⟩
theorem K8 {b:Nat}:∀ {l:List Va},(∀ v∈l,(Va.enc v).length≤b)→(Va.encL l).length≤l.length*b
 | [],_=>by simp [Va.encL]
 | x::l,h=>by
  have h1:=h x (List.mem_cons_self ..)
  have h2:=K8 (l:=l) fun v hv=>h v (List.mem_cons_of_mem _ hv)
  simp only [Va.encL,List.length_append,List.length_cons,Nat.succ_mul];omega
theorem Uq {n:Int}(h: -9223372036854775808≤n∧n≤9223372036854775807):(Va.enc (.int n)).length≤11:=by
 have:=Uw (zl0 h)
 simp only [Va.enc,List.length_cons];omega
theorem JA (s:ByteArray):(K9 s).length=s.size:=by
 unfold K9
 rw [List.length_map,Array.length_toList];rfl
theorem zdf (s:ByteArray):∀ c∈K9 s,c<256:=by
 intro c hc
 unfold K9 at hc
 obtain ⟨u,_,rfl⟩:=List.mem_map.1 hc
 exact u.toNat_lt
theorem KC {s:List Nat}(h:s.length≤32):(Va.enc (.text s)).length≤34:=by
 rw [Va.enc,Vj kB]
 simp only [List.length_cons,List.length_append,List.length_nil];omega
theorem zhJ {x:Nt}(hw:NtW x)(hl:x.pt.needs.length=x.pt.n)(h:QM x=true):Va.ok (KF x)∧(KA x).length≤2000:=by
 obtain ⟨s1,s2,s3⟩:=XL hl h
 have hok:∀ v∈(YS x).map Va.int,Va.ok v:=fun v hv=>by
  obtain ⟨y,hy,rfl⟩:=List.mem_map.1 hv
  exact hw.ints y hy
 have hon:∀ v∈x.pt.needs.map Va.int,Va.ok v:=fun v hv=>by
  obtain ⟨y,hy,rfl⟩:=List.mem_map.1 hv
  exact hw.needs y hy
 have hb:(Va.encL ((YS x).map Va.int)).length≤462:=by
  have:=K8 (b:=11) (l:=(YS x).map Va.int) fun v hv=>by
   obtain ⟨y,hy,rfl⟩:=List.mem_map.1 hv
   exact Uq (hw.ints y hy)
  rw [List.length_map,YK] at this;omega
 have hn:(Va.encL (x.pt.needs.map Va.int)).length≤352:=by
  have:=K8 (b:=11) (l:=x.pt.needs.map Va.int) fun v hv=>by
   obtain ⟨y,hy,rfl⟩:=List.mem_map.1 hv
   exact Uq (hw.needs y hy)
  rw [List.length_map] at this
  have h2:=Nat.mul_le_mul_right 11 s1
  omega
 constructor
 ·
  refine ⟨by simp [YK],zfa fun v hv=>?_⟩
  rw [List.mem_append] at hv
  rcases hv with hv | hv
  ·
   exact hok v hv
  ·
   simp only [List.mem_cons,List.not_mem_nil,or_false] at hv
   rcases hv with rfl | rfl | rfl
   ·
    exact ⟨by rw [List.length_map];omega,zfa hon⟩
   ·
    exact ⟨zdf _,by rw [JA];omega⟩
   ·
    exact ⟨zdf _,by rw [JA];omega⟩
 ·
  have e1:=KC (s:=K9 x.rt.name) (by rw [JA];exact s2)
  have e2:=KC (s:=K9 x.rt.town) (by rw [JA];exact s3)
  have e3:(Va.enc (.list (x.pt.needs.map Va.int))).length≤354:=by
   rw [Va.enc,List.length_map,Vj kB]
   simp only [List.length_cons,List.length_append,List.length_nil];omega
  unfold KA KF
  rw [Va.enc,Vj (by simp [YK])]
  simp only [List.length_cons,List.length_append,List.length_nil,Va.encL_append,Va.encL];omega
theorem zeC {I:Qu}{x:Nt}(hw:NtW x)(hN:Nd I x.pt)(h:QM x=true):NtM I x:=by
 have hl:Sl I 1 Z5 x.pt.a x.pt.n x.pt.c x.pt.needs:=hN
 obtain ⟨h1,h2⟩:=zhJ hw hl.len h
 have:=(XL hl.len h).1
 have:=hl.len
 exact ⟨hN,kB,h1,kB⟩
theorem zuU {x:Nt}(hok:Va.ok (KF x))(h:QM (YN x)=true):okN (KA x)=some (YN x):=by
 have d:=zd6 (KF x) (d:=16) (r:=[]) hok (JB x)
 rw [List.append_nil] at d
 unfold okN zcv
 show (match K3 16 (Va.enc (KF x)) with | some (x,[])=>some x | _=>none).bind _=_
 rw [d]
 simp only [Option.bind_some]
 rw [zgx,Option.bind_some,if_pos h]
end
section
open Go Go.Kn Go.Proofs
def TkN (t:Nt):Prop:=Va.ok (KF t)∧QM (YN t)=true∧(KA t).length≤2000
structure PkG (m:Nat)(told:List Nt)(p:Pk):Prop where
 frm:0≤p.frm∧p.frm<(m:Int)
 to_:0≤p.to_∧p.to_<(m:Int)
 ne:p.frm≠p.to_
 n:p.n=p.data.length
 data:∃ t∈told,p.data=KA t
structure Kn (m:Nat)(r:Rd)(told:List Nt):Prop where
 m0:1≤m∧m≤24
 len:r.ps.length=m
 ks:r.ks=[]
 val:∀ xs∈r.ps,ZL xs=true
 mem:∀ xs∈r.ps,∀ y∈xs,∃ t∈told,YN t=y
 pk:∀ p∈r.qs,PkG m told p
 tok:∀ t∈told,TkN t
theorem zdZ {t:Nt}(h:TkN t):okN (KA t)=some (YN t):=zuU h.1 h.2.1
theorem PkG.read {m:Nat}{told:List Nt}{p:Pk}(h:PkG m told p)(ht:∀ t∈told,TkN t):∃ t∈told,okN p.data=some (YN t):=by
 obtain ⟨t,h1,h2⟩:=h.data
 exact ⟨t,h1,by rw [h2];exact zdZ (ht t h1)⟩
theorem PkG.more {m:Nat}{told:List Nt}{p:Pk}(h:PkG m told p)(l:List Nt):PkG m (told++l) p:=
 ⟨h.frm,h.to_,h.ne,h.n,let ⟨t,h1,h2⟩:=h.data;⟨t,List.mem_append_left _ h1,h2⟩⟩
theorem PkG.ok {m:Nat}{told:List Nt}{p:Pk}(h:PkG m told p)(hm:m≤24)(ht:∀ t∈told,TkN t):pkV p=true:=by
 obtain ⟨t,h1,h2⟩:=h.data
 have h3:=(ht t h1).2.2
 have h4:=h.n
 have h5:=h.frm;have h6:=h.to_;have h7:=h.ne
 rw [h2] at h4
 unfold pkV lkV zqa zfg
 simp only [Bool.and_eq_true,decide_eq_true_eq]
 split<;>split<;>omega
theorem znF {qs:List Pk}(hl:qs.length≤4096)(h:∀ p∈qs,pkV p=true):UG qs []=0:=by
 refine zly ?_ (fun j y hj=>by simp at hj)
 rw [Bool.or_eq_false_iff]
 refine ⟨by simp only [decide_eq_false_iff_not];omega,?_⟩
 rw [List.any_eq_false]
 intro p hp
 simp [h p hp]
theorem Kn.net {m:Nat}{r:Rd}{told:List Nt}(h:Kn m r told)(hq:r.qs.length≤4096):UG r.qs r.ks=0:=by
 rw [h.ks];exact znF hq fun p hp=>(h.pk p hp).ok h.m0.2 h.tok
theorem Kn.chk {m:Nat}{r:Rd}{told:List Nt}(h:Kn m r told)(hq:r.qs.length≤4096):zeL r=0:=by
 have hm:=h.m0;have hl:=h.len
 unfold zeL
 rw [if_neg,if_neg,if_neg]
 ·
  rw [Bool.not_eq_true,List.any_eq_false]
  intro p hp
  obtain ⟨t,h1,h2⟩:=(h.pk p hp).read h.tok
  have h3:=(h.pk p hp).frm;have h4:=(h.pk p hp).to_
  have h5:zfg p.frm p.to_<(m:Int):=by unfold zfg;split<;>omega
  unfold U0
  rw [h2,hl]
  simp only [Option.isSome_some,Bool.not_true,Bool.false_or,decide_eq_true_eq]
  omega
 ·
  rw [Bool.not_eq_true,List.any_eq_false]
  intro xs hx
  simp [h.val xs hx]
 ·
  rw [h.net hq]
  simp;omega
/-! ### Learning -/
theorem zpp {xs ys:List Nt}{t:Nt}(h:znt xs t=some ys):(∀ y∈ys,y∈xs∨y=t)∧(∀ y∈xs,y∈ys)∧ys.length≤xs.length+1:=by
 unfold znt at h
 split at h
 ·
  cases h;exact ⟨fun y hy=>.inl hy,fun y hy=>hy,kB⟩
 ·
  split at h
  ·
   cases h
   exact ⟨fun y hy=>(X3.1 hy).symm,fun y hy=>X3.2 (.inr hy),by rw [zfX];omega⟩
  ·
   cases h
theorem zit {xs ys:List Nt}{t:Nt}(h:znt xs t=some ys)(hv:ZL xs=true)(ht:QM t=true):ZL ys=true:=by
 unfold znt at h
 split at h
 ·
  cases h;exact hv
 ·
  rename_i hh
  split at h
  ·
   cases h
   obtain ⟨v1,v2,v3⟩:=Yc hv
   refine Xl (zkc v1 (by simpa using hh)) (fun x hx=>?_) (by rw [zfX];omega)
   rcases X3.1 hx with rfl | hx
   ·
    exact ht
   ·
    exact v2 x hx
  ·
   cases h
theorem zk8 {P P':List (List Nt)}{i:Nat}{t:Nt}(h:zcr P i t=some P'):∃ xs ys,P[i]? =some xs∧znt xs t=some ys∧P'=P.set i ys:=by
 unfold zcr at h
 cases hx:P[i]? with
 | none=>rw [hx] at h;cases h
 | some xs=>
  rw [hx,Option.bind_some] at h
  cases hy:znt xs t with
  | none=>rw [hy] at h;cases h
  | some ys=>rw [hy] at h;cases h;exact ⟨xs,ys,rfl,hy,rfl⟩
def Grow (P P':List (List Nt)):Prop:=∀ (i:Nat) (xs ys:List Nt),P[i]? =some xs→P'[i]? =some ys→∀ y∈xs,y∈ys
theorem Xr (P:List (List Nt)):Grow P P:=fun i xs ys h1 h2 y hy=>by rw [h1] at h2;cases h2;exact hy
theorem zj8 {P P':List (List Nt)}{i:Nat}{t:Nt}{told:List Nt}(h:zcr P i (YN t)=some P')(ht:t∈told)(hf:QM (YN t)=true)(hv:∀ xs∈P,ZL xs=true)(hm:∀ xs∈P,∀ y∈xs,∃ t∈told,YN t=y):
  P'.length=P.length∧(∀ xs∈P',ZL xs=true)∧(∀ xs∈P',∀ y∈xs,∃ t∈told,YN t=y)∧Grow P P':=by
 obtain ⟨xs,ys,h1,h2,rfl⟩:=zk8 h
 have hx:=List.mem_of_getElem? h1
 obtain ⟨m1,m2,_⟩:=zpp h2
 refine ⟨by simp,fun zs hz=>?_,fun zs hz y hy=>?_,fun j us vs hu hw y hy=>?_⟩
 ·
  rcases List.mem_or_eq_of_mem_set hz with hz | rfl
  ·
   exact hv zs hz
  ·
   exact zit h2 (hv xs hx) hf
 ·
  rcases List.mem_or_eq_of_mem_set hz with hz | rfl
  ·
   exact hm zs hz y hy
  ·
   rcases m1 y hy with hy | rfl
   ·
    exact hm xs hx y hy
   ·
    exact ⟨t,ht,rfl⟩
 ·
  rw [List.getElem?_set] at hw
  split at hw
  ·
   rename_i e
   subst e
   rw [h1] at hu;cases hu
   split at hw
   ·
    cases hw;exact m2 y hy
   ·
    cases hw
  ·
   rw [hu] at hw;cases hw;exact hy
theorem Kn.more {m:Nat}{r:Rd}{told:List Nt}(h:Kn m r told){t:Nt}(ht:TkN t):Kn m r (told++[t]):=
 ⟨h.m0,h.len,h.ks,h.val,fun xs hx y hy=>let ⟨u,h1,h2⟩:=h.mem xs hx y hy;⟨u,List.mem_append_left _ h1,h2⟩,fun p hp=>(h.pk p hp).more _,fun u hu=>by
  rcases List.mem_append.1 hu with hu | hu
  ·
   exact h.tok u hu
  ·
   rw [List.mem_singleton] at hu;subst hu;exact ht⟩
/-! ### Events -/
theorem zhv {m:Nat}{i:Int}{t:Nt}{p:Pk}(h:p∈Kq m i t):∃ k:Nat,k<m∧(k:Int)≠i∧p=pkN i k t:=by
 unfold Kq at h
 obtain ⟨k,hk,rfl⟩:=List.mem_map.1 h
 rw [List.mem_filter,List.mem_range] at hk
 exact ⟨k,hk.1,by simpa using hk.2,rfl⟩
theorem zhF (m:Nat)(i:Int)(t:Nt):(Kq m i t).length≤m:=by
 unfold Kq
 rw [List.length_map]
 exact Nat.le_trans (List.length_filter_le ..) kH
theorem zgQ {m:Nat}{told:List Nt}{i k:Int}{t:Nt}(hi:0≤i∧i<(m:Int))(hk:0≤k∧k<(m:Int))(hne:i≠k){u:Nt}(hu:u∈told)(e:YN u=YN t):PkG m told (pkN i k t):=
 ⟨hi,hk,hne,rfl,u,hu,by
  show KA t=KA u
  have e2:KF t=KF u:=by rw [←zhP t,←e,zhP]
  unfold KA;rw [e2]⟩
theorem zgb {r:Rd}{i:Int}:isP r i=true↔0≤i∧i<(r.ps.length:Int):=by simp [isP]
theorem zf0 {qs:List Pk}{ks:List (Int×Int)}{i:Int}(h:atE qs ks i=0):atP qs ks i∈qs:=by
 have hr:=zdk h
 unfold atP
 rw [if_pos h,List.getD_eq_getElem?_getD,List.getElem?_eq_getElem kB,Option.getD_some]
 exact List.getElem_mem _
theorem zgX {qs:List Pk}{i:Int}:Jn qs [] i=atP qs [] i:=if_neg (by simp [zqG])
theorem Kn.step {m:Nat}{r r':Rd}{told:List Nt}{x:Ev}(h:Kn m r told)(hq:r.qs.length≤4096)(hx:x.kind=1→QM (YN x.note)=true→TkN x.note)(hd:doF r (YU x)=(0,r')):
  Kn m r' (if x.kind=1 then told++[x.note] else told)∧Grow r.ps r'.ps∧r'.qs.length≤r.qs.length+max m (max 1 ((r.ps.map List.length).foldl max 0)):=by
 have hc:=h.chk hq
 unfold doF at hd
 rw [if_neg (by rw [hc];simp)] at hd
 unfold zcz at hd
 have hmx:∀ (l:List Nat) (a:Nat),a≤l.foldl max a∧∀ b∈l,b≤l.foldl max a:=by
  intro l
  induction l with
  | nil=>intro a;exact ⟨Nat.le_refl _,fun b hb=>by cases hb⟩
  | cons c l ih=>
   intro a
   rw [List.foldl_cons]
   obtain ⟨h1,h2⟩:=ih (max a c)
   refine ⟨kB,fun b hb=>?_⟩
   rcases List.mem_cons.1 hb with rfl | hb
   ·
    omega
   ·
    exact h2 b hb
 split at hd
 ·
  -- told
  rename_i hk
  have hk:x.kind=1:=hk
  rw [if_pos hk]
  unfold UD at hd
  split at hd
  ·
   rename_i hi
   have hi:=zgb.1 hi
   split at hd
   ·
    rename_i hf
    have hf:QM (YN x.note)=true:=hf
    split at hd
    ·
     cases hd
    ·
     rename_i P hP
     have hP:zcr r.ps x.peer.toNat (YN x.note)=some P:=hP
     cases hd
     have ht:=hx hk hf
     have h2:=h.more ht
     obtain ⟨l1,l2,l3,l4⟩:=zj8 hP (told:=told++[x.note]) kH hf h2.val h2.mem
     refine ⟨⟨h.m0,by rw [←h.len];exact l1,h.ks,l2,l3,fun p hp=>?_,h2.tok⟩,l4,?_⟩
     ·
      rcases List.mem_append.1 hp with hp | hp
      ·
       exact h2.pk p hp
      ·
       obtain ⟨k,hk,hne,rfl⟩:=zhv hp
       rw [h.len] at hk hi
       exact zgQ hi ⟨kB,kB⟩ (fun e=>hne e.symm) (u:=x.note) kH rfl
     ·
      have:=zhF r.ps.length x.peer (YN x.note)
      have hl:=h.len
      show (r.qs++Kq r.ps.length x.peer (YN x.note)).length≤_
      rw [List.length_append];omega
   ·
    cases hd
  ·
   cases hd
 ·
  rename_i hk
  have hk:¬x.kind=1:=hk
  rw [if_neg hk]
  split at hd
  ·
   unfold zay at hd
   split at hd
   ·
    rename_i hi
    simp only [Bool.and_eq_true,zgb] at hi
    obtain ⟨⟨i1,i2⟩,i3⟩:=hi
    have i1:0≤x.peer∧x.peer<(r.ps.length:Int):=i1
    have i2:0≤x.to_∧x.to_<(r.ps.length:Int):=i2
    have i3:x.peer≠x.to_:=bne_iff_ne.1 i3
    cases hd
    obtain ⟨xs,hxs⟩:∃ xs,r.ps[x.peer.toNat]? =some xs:=⟨_,List.getElem?_eq_getElem kB⟩
    have e:r.ps.getD (YU x).peer.toNat []=xs:=by
     show r.ps.getD x.peer.toNat []=xs
     rw [List.getD_eq_getElem?_getD,hxs];rfl
    have hm:=List.mem_of_getElem? hxs
    simp only [e]
    refine ⟨⟨h.m0,h.len,h.ks,h.val,h.mem,fun p hp=>?_,h.tok⟩,Xr _,?_⟩
    ·
     rcases List.mem_append.1 hp with hp | hp
     ·
      exact h.pk p hp
     ·
      obtain ⟨y,hy,rfl⟩:=List.mem_map.1 hp
      obtain ⟨t,ht,e⟩:=h.mem xs hm y hy
      rw [h.len] at i1 i2
      exact zgQ i1 i2 i3 ht (by rw [←e];rfl)
    ·
     rw [List.length_append,List.length_map]
     have:=(hmx (r.ps.map List.length) 0).2 xs.length (List.mem_map.2 ⟨xs,hm,rfl⟩)
     omega
   ·
    cases hd
  ·
   split at hd
   ·
    unfold zco at hd
    split at hd
    ·
     rename_i hz
     exact absurd (congrArg Prod.fst hd) hz
    ·
     rename_i hz
     have hz:atE r.qs r.ks x.at_=0:=Decidable.not_not.1 hz
     have hmem:=zf0 hz
     have hdl:Jn r.qs r.ks x.at_=atP r.qs r.ks x.at_:=by rw [h.ks];exact zgX
     have hg:=h.pk _ hmem
     have hle:(r.qs.eraseIdx x.at_.toNat).length≤r.qs.length:=(List.eraseIdx_sublist ..).length_le
     have hsub:∀ p∈r.qs.eraseIdx x.at_.toNat,p∈r.qs:=fun p hp=>(List.eraseIdx_sublist ..).mem hp
     split at hd
     ·
      cases hd
      exact ⟨⟨h.m0,h.len,h.ks,h.val,h.mem,fun p hp=>h.pk p (hsub p hp),h.tok⟩,Xr _,Nat.le_trans hle kB⟩
     ·
      split at hd
      ·
       cases hd
      ·
       rename_i P hP
       cases hd
       obtain ⟨t,ht,e⟩:=hg.read h.tok
       have hP:(okN (Jn r.qs r.ks x.at_).data).bind (zcr r.ps (Jn r.qs r.ks x.at_).to_.toNat)=some P:=hP
       rw [hdl,e,Option.bind_some] at hP
       obtain ⟨l1,l2,l3,l4⟩:=zj8 hP ht (h.tok t ht).2.1 h.val h.mem
       exact ⟨⟨h.m0,by rw [←h.len];exact l1,h.ks,l2,l3,fun p hp=>h.pk p (hsub p hp),h.tok⟩,l4,Nat.le_trans hle kB⟩
   ·
    split at hd
    ·
     unfold zcC at hd
     split at hd
     ·
      rename_i hz
      exact absurd (congrArg Prod.fst hd) hz
     ·
      cases hd
      have hle:(r.qs.eraseIdx x.at_.toNat).length≤r.qs.length:=(List.eraseIdx_sublist ..).length_le
      exact ⟨⟨h.m0,h.len,h.ks,h.val,h.mem,fun p hp=>h.pk p ((List.eraseIdx_sublist ..).mem hp),h.tok⟩,Xr _,Nat.le_trans hle kB⟩
    ·
     split at hd
     ·
      unfold zcD at hd
      split at hd
      ·
       rename_i hz
       exact absurd (congrArg Prod.fst hd) hz
      ·
       rename_i hz
       cases hd
       have hz:WF r.qs r.ks x.at_=0:=Decidable.not_not.1 hz
       have ha:atE r.qs r.ks x.at_=0:=by
        unfold WF at hz
        split at hz
        ·
         assumption
        ·
         exact hz
       refine ⟨⟨h.m0,h.len,h.ks,h.val,h.mem,fun p hp=>?_,h.tok⟩,Xr _,?_⟩
       ·
        rcases List.mem_append.1 hp with hp | hp
        ·
         exact h.pk p hp
        ·
         rw [List.mem_singleton] at hp;subst hp;exact h.pk _ (zf0 ha)
       ·
        rw [List.length_append,List.length_singleton];omega
     ·
      cases hd
end
section
open Go Go.Kn Go.Proofs
theorem zg4 {bs:List Nat}{I:Qu}{cs:List Value}{b:Bool}(h:zv4 bs I cs b)(hs:(okN bs).isSome=true):∃ x,b=true∧cs=Q4 x∧Nd I x.pt∧okN bs=some (YN x):=by
 rcases h.2 with ⟨_,h2⟩ | ⟨h1,x,h2,h3,h4⟩
 ·
  rw [h2] at hs;cases hs
 ·
  exact ⟨x,h1,h2,h3,h4⟩
theorem zfp {I:Qu}{bs:List Nat}{x:Nt}(hb:∀ c∈bs,c<256)(hn:bs.length≤100000)(h:okN bs=some (YN x))(hN:Nd I x.pt):QM x=true:=by
 obtain ⟨_,_,h3⟩:=zh0 hb kB h
 have hN2:Sl I 1 Z5 x.pt.a x.pt.n x.pt.c x.pt.needs:=hN
 rw [Jt hN2.len.symm] at h3;exact h3
theorem ztm {qs:List Pk}{ks:List (Int×Int)}{i:Int}(he:atE qs ks i=0)(hne:(Jn qs ks i).frm≠(Jn qs ks i).to_):Jn qs ks i∈qs:=by
 unfold Jn at hne ⊢
 split at hne
 ·
  exact absurd rfl hne
 ·
  rename_i h;rw [if_neg h];exact zf0 he
theorem zn8 {m:Nat}{p:Pk}(h:U0 m p=false):(okN p.data).isSome=true∧p.frm<(m:Int)∧p.to_<(m:Int):=by
 unfold U0 at h
 rw [Bool.or_eq_false_iff] at h
 obtain ⟨h1,h2⟩:=h
 refine ⟨by simpa using h1,?_⟩
 simp only [decide_eq_false_iff_not] at h2
 unfold zfg at h2
 split at h2<;>omega
section
variable {I:Qu} {P:List (List Nt)} {qs:List Pk} {ks:List (Int×Int)} {x:Ev}
theorem zqB (hpk:∀ q∈qs,PkM I q)(ne:atE qs ks x.at_≠0):zco ⟨P,qs.map VD,ks⟩ (YU x)=(atE qs ks x.at_,zeroR):=by
 unfold zco
 have e:atE (qs.map VD) ks (YU x).at_=atE qs ks x.at_:=WG hpk ks x.at_
 simp only [e,if_pos ne]
theorem zqM (hpk:∀ q∈qs,PkM I q)(he:atE qs ks x.at_=0)(h:(Jn qs ks x.at_).frm=(Jn qs ks x.at_).to_):zco ⟨P,qs.map VD,ks⟩ (YU x)=(0,⟨P,(qs.eraseIdx x.at_.toNat).map VD,ks⟩):=by
 unfold zco
 have e:atE (qs.map VD) ks (YU x).at_=0:=by rw [←he];exact WG hpk ks x.at_
 have e2:Jn (qs.map VD) ks (YU x).at_=VD (Jn qs ks x.at_):=zhR hpk ks x.at_
 have e3:(VD (Jn qs ks x.at_)).frm=(VD (Jn qs ks x.at_)).to_:=h
 simp only [e,e2,if_pos e3,ne_eq,not_true_eq_false,if_false]
 rw [Xg];rfl
theorem zqs (hpk:∀ q∈qs,PkM I q)(he:atE qs ks x.at_=0)(h:(Jn qs ks x.at_).frm≠(Jn qs ks x.at_).to_){t:Nt}(hok:okN (Jn qs ks x.at_).data=some t):zco ⟨P,qs.map VD,ks⟩ (YU x)=(match zcr P (Jn qs ks x.at_).to_.toNat t with
  | none=>(2,zeroR)
  | some P'=>(0,⟨P',(qs.eraseIdx x.at_.toNat).map VD,ks⟩)):=by
 unfold zco
 have e:atE (qs.map VD) ks (YU x).at_=0:=by rw [←he];exact WG hpk ks x.at_
 have e2:Jn (qs.map VD) ks (YU x).at_=VD (Jn qs ks x.at_):=zhR hpk ks x.at_
 have e3:¬(VD (Jn qs ks x.at_)).frm=(VD (Jn qs ks x.at_)).to_:=h
 have e4:okN (VD (Jn qs ks x.at_)).data=some t:=hok
 simp only [e,e2,if_neg e3,ne_eq,not_true_eq_false,if_false,e4,Option.bind_some]
 have e5:(VD (Jn qs ks x.at_)).to_=(Jn qs ks x.at_).to_:=rfl
 rw [e5,Xg];rfl
theorem znh (hpk:∀ q∈qs,PkM I q)(he:atE qs ks x.at_=0)(h:(Jn qs ks x.at_).frm≠(Jn qs ks x.at_).to_){t:Nt}(hok:okN (Jn qs ks x.at_).data=some t)(hl:zcr P (Jn qs ks x.at_).to_.toNat t=none):zco ⟨P,qs.map VD,ks⟩ (YU x)=(2,zeroR):=by
 rw [zqs hpk he h hok,hl]
theorem zlD (hpk:∀ q∈qs,PkM I q)(he:atE qs ks x.at_=0)(h:(Jn qs ks x.at_).frm≠(Jn qs ks x.at_).to_){t:Nt}(hok:okN (Jn qs ks x.at_).data=some t){P':List (List Nt)}(hl:zcr P (Jn qs ks x.at_).to_.toNat t=some P'):zco ⟨P,qs.map VD,ks⟩ (YU x)=(0,⟨P',(qs.eraseIdx x.at_.toNat).map VD,ks⟩):=by
 rw [zqs hpk he h hok,hl]
end
theorem zbo {α:Type}{l:List α}{j:Nat}:∀ q∈l.eraseIdx j,q∈l:=fun _ hq=>(List.eraseIdx_sublist ..).mem hq
end
section
open Go Go.Kn Go.Proofs
theorem zmt:Fun Tryz.prog 109:=.of Tryz.func109 kA kA
theorem zcg:Fun Tryz.prog 113:=.of Tryz.func113 kA kA
theorem zmc:Fun Tryz.prog 62:=.of Tryz.func62 kA kA
theorem zgR {I:Qu}{bc bp:Nat}{qa aa:Option Addr}{pn pc qn qc an ac:Nat}{cur:List Value}{ps:List Pe}{i:Nat}{j:Int}{t:Nt}(hj:j=(i:Int))(hP:zja I cur ps)(hpl:ps.length=pn)(hi:i<pn)(hpn:pn≤100000)(hT:NtM I t)(ht:QM t=true):Ug Tryz.prog 109 [Zw bc,.int .i64 j,Ke t] I [(bc,.cells #[.slice (some ⟨bp,0,none⟩) pn pc,.slice qa qn qc,.slice aa an ac] 108 (0,0)),(bp,.cells (cur).toArray 59 (0,0))] (fun v I' L'=>v= .tuple #[]∧∃ cur' ps',L'=[(bc,.cells #[.slice (some ⟨bp,0,none⟩) pn pc,.slice qa qn qc,.slice aa an ac] 108 (0,0)),(bp,.cells (cur').toArray 59 (0,0))]∧zja I' cur' ps'∧ps'.length=pn∧zcr (dtP ps) i (YN t)=some (dtP ps')) (fun v=>v= .iface 50 (.int .i64 2)∧zcr (dtP ps) i (YN t)=none):=by
 subst hj
 obtain ⟨pe,hx⟩:∃ pe,ps[i]? =some pe:=⟨_,List.getElem?_eq_getElem kB⟩
 have hm:=List.mem_of_getElem? hx
 obtain ⟨v1,v2,v3⟩:=Yc (hP.ok pe hm)
 have hlen:=(hP.nt pe hm).sl.len
 refine (zt5 (hP.at_ i pe hx) hi hpn (hP.nt pe hm) v2 hT (v1.mono t) kB).mono (fun v I' L' hI ⟨hv,h⟩=>⟨hv,?_⟩) (fun v ⟨hv,hh,hn⟩=>⟨hv,zlM hx hh kB⟩)
 rcases h with ⟨hh,rfl⟩ | ⟨hh,hl,a,c,rfl,hS⟩
 ·
  exact ⟨cur,ps,rfl,hP.mono hI,hpl,zos hx hh⟩
 exact ⟨_,_,rfl,hP.lrn hI hx hT ht hh hl hS,by simpa using hpl,zoE hx hh kB _ _ _⟩
theorem zjx {I:Qu}{bc bp:Nat}{qa aa:Option Addr}{pn pc qn qc an ac:Nat}{cur:List Value}{ps:List Pe}{qs:List Pk}{ks:List (Int×Int)}(hP:zja I cur ps)(hpl:ps.length=pn)(hpn:pn≤100000)(hQ:Sl I 3 Zz qa qn qc qs)(hqn:qn≤100000)(hpk:∀ q∈qs,PkM I q)(hA:Sl I 2 K6 aa an ac ks)(han:an≤100000)(x:Ev)(hg:∀ q∈qs,U0 pn q=false)(hdl:∀ q∈qs,q.n≤100000)(hz0:∀ q∈qs,0≤q.frm∧0≤q.to_):Ug Tryz.prog 48 [Zw bc,.agg (zeV x).toArray] I [(bc,.cells #[.slice (some ⟨bp,0,none⟩) pn pc,.slice qa qn qc,.slice aa an ac] 108 (0,0)),(bp,.cells (cur).toArray 59 (0,0))] (fun v I' L'=>v= .tuple #[]∧(zco ⟨dtP ps,qs.map VD,ks⟩ (YU x)).1=0∧∃ cur' ps' a m c qs',L'=[(bc,.cells #[.slice (some ⟨bp,0,none⟩) pn pc,.slice a m c,.slice aa an ac] 108 (0,0)),(bp,.cells (cur').toArray 59 (0,0))]∧zja I' cur' ps'∧ps'.length=pn∧Sl I' 3 Zz a m c qs'∧(∀ q∈qs',q∈qs)∧(zco ⟨dtP ps,qs.map VD,ks⟩ (YU x)).2=⟨dtP ps',qs'.map VD,ks⟩) (fun v=>v= .iface 50 (.int .i64 (zco ⟨dtP ps,qs.map VD,ks⟩ (YU x)).1)∧(zco ⟨dtP ps,qs.map VD,ks⟩ (YU x)).1≠0):=by
 intro g H w hw
 refine qe Tryz.func48 Tryz.ntmps48 hw ?_
 have hIc:=zz4 I
 refine zR ?_
 refine QO rfl rfl rfl (fun b_3=>?_)
 refine Qb ?_
 refine QF .here (fun I1 hI1 hb1=>?_)
 have hP:=hP.mono hI1;have hQ:=hQ.mono hI1;have hA:=hA.mono hI1;have hIc:=hIc.trans hI1
 have h3:=BxI.of hb1
 refine Qd ?_
 refine zY [(0,_)] (fun T L0 E I' loc'=>∃ (p4 p5:Nat) (pk:Pk) (a5:Option Addr) (m5 c5:Nat) (a6:Option Addr) (m6 c6:Nat),E=(4,Zw p4)::(5,Zw p5)::(6,.int .i64 (atE qs ks x.at_))::T∧HLe I1 I'∧[(bc,.cells #[.slice (some ⟨bp,0,none⟩) pn pc,.slice qa qn qc,.slice aa an ac] 108 (0,0)),(bp,.cells (cur).toArray 59 (0,0))]=loc'∧BxI I' p4 (.cells (Zz pk).toArray 99 (0,0))∧BxI I' p5 (.cells #[.slice a5 m5 c5,.slice a6 m6 c6] 26 (0,0))∧(atE qs ks x.at_=0→pk=Jn qs ks x.at_)∧zi5 I' (atE qs ks x.at_) a5 m5 c5 a6 m6 c6 (qs.eraseIdx x.at_.toNat) aa an ac) ?_ ?_
 ·
  have hKc1:=zz4 I1
  have hD:=zz4 I1
  refine QL I1 [(bc,.cells #[.slice (some ⟨bp,0,none⟩) pn pc,.slice qa qn qc,.slice aa an ac] 108 (0,0)),(bp,.cells (cur).toArray 59 (0,0))] mixed ?_
  refine zT 0 rfl (Qe rfl) hD ?_
  refine zT 1 rfl (QG rfl) hD ?_
  refine zT 2 rfl (Qa rfl Yk) hD ?_
  refine zT 3 rfl (Qa rfl YT) hD ?_
  refine zT 4 rfl (Qg rfl ZM (fun hg=>by exact Cells.s0 (vs:=[_,_]) rfl) rfl) hD ?_
  refine zT 5 rfl (Qa rfl zd3) hD ?_
  refine zT 6 rfl (Qc rfl Qm (fun hg=>by exact QA.imm h3.out rfl)) hD ?_
  refine VK 7 12 13 rfl rfl rfl kA ?_ ?_ ?_
  ·
   refine zpc [_,_] rfl zcg .nil (U2 hQ hqn hA han x.at_) ?_
   rintro vv2 I2 L2 hI2 ⟨pk,a5,m5,c5,a6,m6,c6,rfl,rfl,hpe,hZ⟩
   have hKc1:=hKc1.trans hI2;have hD:=hD.trans hI2
   refine Qb ?_
   refine zD hD ?_
   refine zT 8 rfl (Qe rfl) hD ?_
   refine zT 9 rfl (Q2 rfl rfl) hD ?_
   refine zT 10 rfl (Q2 rfl rfl) hD ?_
   refine zT 11 rfl (Q2 rfl rfl) hD ?_
   refine QS 12 13 rfl rfl kA ?_ ?_
   ·
    refine Qr zcu rfl rfl (fun b_4=>?_)
    refine Qb ?_
    refine zD hD ?_
    refine qd 13 rfl ?_
    refine Qr UR rfl rfl (fun b_5=>?_)
    refine Qb ?_
    refine zD hD ?_
    refine qd 14 rfl ?_
    refine zh JQ ?_
    refine QQ (b:=b_4) (by repeat (first | exact ZQ.here | apply ZQ.there)) (fun I3 hI3 hb3=>?_)
    have hZ:=hZ.mono hI3;have hKc1:=hKc1.trans hI3;have hD:=hD.trans hI3
    have h4:=BxI.of hb3
    refine Qb ?_
    refine zD hD ?_
    refine qd 15 rfl ?_
    refine zh Yt ?_
    refine QQ (b:=b_5) (by repeat (first | exact ZQ.here | apply ZQ.there)) (fun I4 hI4 hb4=>?_)
    have hZ:=hZ.mono hI4;have h4:=h4.mono hI4;have hKc1:=hKc1.trans hI4;have hD:=hD.trans hI4
    have h5:=BxI.of hb4
    refine Qb ?_
    refine zD hD ?_
    refine zT 16 rfl (Qv rfl) hD ?_
    refine Ql kA ?_
    exact zm (h:=⟨_,_,_,_,_,_,_,_,_,rfl,hKc1,rfl,h4,h5,hpe,hZ⟩)
   refine Qr UR rfl rfl (fun b_5=>?_)
   refine Qb ?_
   refine zD hD ?_
   refine qd 12 rfl ?_
   refine Qr zcu rfl rfl (fun b_4=>?_)
   refine Qb ?_
   refine zD hD ?_
   refine qd 14 rfl ?_
   refine zh JQ ?_
   refine QQ (b:=b_4) (by repeat (first | exact ZQ.here | apply ZQ.there)) (fun I5 hI5 hb5=>?_)
   have hZ:=hZ.mono hI5;have hKc1:=hKc1.trans hI5;have hD:=hD.trans hI5
   have h4:=BxI.of hb5
   refine Qb ?_
   refine zD hD ?_
   refine qd 15 rfl ?_
   refine zh Yt ?_
   refine QQ (b:=b_5) (by repeat (first | exact ZQ.here | apply ZQ.there)) (fun I6 hI6 hb6=>?_)
   have hZ:=hZ.mono hI6;have h4:=h4.mono hI6;have hKc1:=hKc1.trans hI6;have hD:=hD.trans hI6
   have h5:=BxI.of hb6
   refine Qb ?_
   refine zD hD ?_
   refine zT 16 rfl (Qv rfl) hD ?_
   refine Ql kA ?_
   exact zm (h:=⟨_,_,_,_,_,_,_,_,_,rfl,hKc1,rfl,h4,h5,hpe,hZ⟩)
  ·
   refine Qr zcu rfl rfl (fun b_4=>?_)
   refine Qb ?_
   refine zD hD ?_
   refine QS 7 13 rfl rfl kA ?_ ?_
   ·
    refine zpc [_,_] rfl zcg .nil (U2 hQ hqn hA han x.at_) ?_
    rintro vv7 I7 L7 hI7 ⟨pk,a5,m5,c5,a6,m6,c6,rfl,rfl,hpe,hZ⟩
    have hKc1:=hKc1.trans hI7;have hD:=hD.trans hI7
    refine Qb ?_
    refine zD hD ?_
    refine zT 8 rfl (Qe rfl) hD ?_
    refine zT 9 rfl (Q2 rfl rfl) hD ?_
    refine zT 10 rfl (Q2 rfl rfl) hD ?_
    refine zT 11 rfl (Q2 rfl rfl) hD ?_
    refine qd 13 rfl ?_
    refine Qr UR rfl rfl (fun b_5=>?_)
    refine Qb ?_
    refine zD hD ?_
    refine qd 14 rfl ?_
    refine zh JQ ?_
    refine QQ (b:=b_4) (by repeat (first | exact ZQ.here | apply ZQ.there)) (fun I8 hI8 hb8=>?_)
    have hZ:=hZ.mono hI8;have hKc1:=hKc1.trans hI8;have hD:=hD.trans hI8
    have h4:=BxI.of hb8
    refine Qb ?_
    refine zD hD ?_
    refine qd 15 rfl ?_
    refine zh Yt ?_
    refine QQ (b:=b_5) (by repeat (first | exact ZQ.here | apply ZQ.there)) (fun I9 hI9 hb9=>?_)
    have hZ:=hZ.mono hI9;have h4:=h4.mono hI9;have hKc1:=hKc1.trans hI9;have hD:=hD.trans hI9
    have h5:=BxI.of hb9
    refine Qb ?_
    refine zD hD ?_
    refine zT 16 rfl (Qv rfl) hD ?_
    refine Ql kA ?_
    exact zm (h:=⟨_,_,_,_,_,_,_,_,_,rfl,hKc1,rfl,h4,h5,hpe,hZ⟩)
   refine Qr UR rfl rfl (fun b_5=>?_)
   refine Qb ?_
   refine zD hD ?_
   refine qd 7 rfl ?_
   refine zpc [_,_] rfl zcg .nil (U2 hQ hqn hA han x.at_) ?_
   rintro vv10 I10 L10 hI10 ⟨pk,a5,m5,c5,a6,m6,c6,rfl,rfl,hpe,hZ⟩
   have hKc1:=hKc1.trans hI10;have hD:=hD.trans hI10
   refine Qb ?_
   refine zD hD ?_
   refine zT 8 rfl (Qe rfl) hD ?_
   refine zT 9 rfl (Q2 rfl rfl) hD ?_
   refine zT 10 rfl (Q2 rfl rfl) hD ?_
   refine zT 11 rfl (Q2 rfl rfl) hD ?_
   refine qd 14 rfl ?_
   refine zh JQ ?_
   refine QQ (b:=b_4) (by repeat (first | exact ZQ.here | apply ZQ.there)) (fun I11 hI11 hb11=>?_)
   have hZ:=hZ.mono hI11;have hKc1:=hKc1.trans hI11;have hD:=hD.trans hI11
   have h4:=BxI.of hb11
   refine Qb ?_
   refine zD hD ?_
   refine qd 15 rfl ?_
   refine zh Yt ?_
   refine QQ (b:=b_5) (by repeat (first | exact ZQ.here | apply ZQ.there)) (fun I12 hI12 hb12=>?_)
   have hZ:=hZ.mono hI12;have h4:=h4.mono hI12;have hKc1:=hKc1.trans hI12;have hD:=hD.trans hI12
   have h5:=BxI.of hb12
   refine Qb ?_
   refine zD hD ?_
   refine zT 16 rfl (Qv rfl) hD ?_
   refine Ql kA ?_
   exact zm (h:=⟨_,_,_,_,_,_,_,_,_,rfl,hKc1,rfl,h4,h5,hpe,hZ⟩)
  refine Qr UR rfl rfl (fun b_5=>?_)
  refine Qb ?_
  refine zD hD ?_
  refine QS 7 12 rfl rfl kA ?_ ?_
  ·
   refine zpc [_,_] rfl zcg .nil (U2 hQ hqn hA han x.at_) ?_
   rintro vv13 I13 L13 hI13 ⟨pk,a5,m5,c5,a6,m6,c6,rfl,rfl,hpe,hZ⟩
   have hKc1:=hKc1.trans hI13;have hD:=hD.trans hI13
   refine Qb ?_
   refine zD hD ?_
   refine zT 8 rfl (Qe rfl) hD ?_
   refine zT 9 rfl (Q2 rfl rfl) hD ?_
   refine zT 10 rfl (Q2 rfl rfl) hD ?_
   refine zT 11 rfl (Q2 rfl rfl) hD ?_
   refine qd 12 rfl ?_
   refine Qr zcu rfl rfl (fun b_4=>?_)
   refine Qb ?_
   refine zD hD ?_
   refine qd 14 rfl ?_
   refine zh JQ ?_
   refine QQ (b:=b_4) (by repeat (first | exact ZQ.here | apply ZQ.there)) (fun I14 hI14 hb14=>?_)
   have hZ:=hZ.mono hI14;have hKc1:=hKc1.trans hI14;have hD:=hD.trans hI14
   have h4:=BxI.of hb14
   refine Qb ?_
   refine zD hD ?_
   refine qd 15 rfl ?_
   refine zh Yt ?_
   refine QQ (b:=b_5) (by repeat (first | exact ZQ.here | apply ZQ.there)) (fun I15 hI15 hb15=>?_)
   have hZ:=hZ.mono hI15;have h4:=h4.mono hI15;have hKc1:=hKc1.trans hI15;have hD:=hD.trans hI15
   have h5:=BxI.of hb15
   refine Qb ?_
   refine zD hD ?_
   refine zT 16 rfl (Qv rfl) hD ?_
   refine Ql kA ?_
   exact zm (h:=⟨_,_,_,_,_,_,_,_,_,rfl,hKc1,rfl,h4,h5,hpe,hZ⟩)
  refine Qr zcu rfl rfl (fun b_4=>?_)
  refine Qb ?_
  refine zD hD ?_
  refine qd 7 rfl ?_
  refine zpc [_,_] rfl zcg .nil (U2 hQ hqn hA han x.at_) ?_
  rintro vv16 I16 L16 hI16 ⟨pk,a5,m5,c5,a6,m6,c6,rfl,rfl,hpe,hZ⟩
  have hKc1:=hKc1.trans hI16;have hD:=hD.trans hI16
  refine Qb ?_
  refine zD hD ?_
  refine zT 8 rfl (Qe rfl) hD ?_
  refine zT 9 rfl (Q2 rfl rfl) hD ?_
  refine zT 10 rfl (Q2 rfl rfl) hD ?_
  refine zT 11 rfl (Q2 rfl rfl) hD ?_
  refine qd 14 rfl ?_
  refine zh JQ ?_
  refine QQ (b:=b_4) (by repeat (first | exact ZQ.here | apply ZQ.there)) (fun I17 hI17 hb17=>?_)
  have hZ:=hZ.mono hI17;have hKc1:=hKc1.trans hI17;have hD:=hD.trans hI17
  have h4:=BxI.of hb17
  refine Qb ?_
  refine zD hD ?_
  refine qd 15 rfl ?_
  refine zh Yt ?_
  refine QQ (b:=b_5) (by repeat (first | exact ZQ.here | apply ZQ.there)) (fun I18 hI18 hb18=>?_)
  have hZ:=hZ.mono hI18;have h4:=h4.mono hI18;have hKc1:=hKc1.trans hI18;have hD:=hD.trans hI18
  have h5:=BxI.of hb18
  refine Qb ?_
  refine zD hD ?_
  refine zT 16 rfl (Qv rfl) hD ?_
  refine Ql kA ?_
  exact zm (h:=⟨_,_,_,_,_,_,_,_,_,rfl,hKc1,rfl,h4,h5,hpe,hZ⟩)
 rintro E J19 loc' ⟨p4,p5,pk,a5,m5,c5,a6,m6,c6,rfl,hJ,rfl,h4,h5,hpe,hZ⟩
 have hP:=hP.mono hJ;have hIc:=hIc.trans hJ
 refine zR (zM ?_)
 refine zC ?_
 refine zM ?_
 refine zx5 [_,_] rfl Kt .nil (UP J19 (atE qs ks x.at_==0) (atE qs ks x.at_)) ?_ (fun pv hpv=>by refine zx6 ?_;exact (have hn9:atE qs ks x.at_≠0:=(by simpa using hpv.2);⟨by rw [zqB hpk hn9];exact hpv.1,by rw [zqB hpk hn9];exact hn9⟩))
 rintro vv20 I20 L20 hI20 ⟨rfl,rfl,rfl,hok⟩
 have hP:=hP.mono hI20;have h4:=h4.mono hI20;have h5:=h5.mono hI20;have hZ:=hZ.mono hI20;have hIc:=hIc.trans hI20
 have he:atE qs ks x.at_=0:=by simpa using hok
 obtain ⟨rfl,rfl,rfl,hS9⟩:=hZ.ok he
 obtain rfl:=hpe he
 refine zN (zR ?_)
 refine zM ?_
 refine zV (Qg rfl ZM (fun hg=>by exact BxI.cells (vs:=[_,_]) h5) rfl) ?_
 refine zV (QG rfl) ?_
 refine zF Yk ?_
 refine zF YT ?_
 refine Vd rfl rfl Yt rfl rfl rfl rfl (by repeat (first | exact Upd.here | apply Upd.there | apply ZE)) ?_
 refine zN (zR ?_)
 refine zF zaI ?_
 refine zV (Qc rfl Qm (fun hg=>by exact QA.imm h4.out rfl)) ?_
 refine zF Xy ?_
 refine zV (Qc rfl Qm (fun hg=>by exact QA.imm h4.out rfl)) ?_
 refine zC (zN ?_)
 refine zI ?_ ?_<;>intro hc34
 ·
  have hne:(Jn qs ks x.at_).frm≠(Jn qs ks x.at_).to_:=by simpa using hc34
  have hin:=ztm he hne
  have hPk:=(hpk _ hin).mono hIc
  have hdn:=hdl _ hin
  obtain ⟨hsm,_,hto9⟩:=zn8 (hg _ hin)
  have hz9:=(hz0 _ hin).2
  have hto:(Jn qs ks x.at_).to_.toNat<pn:=kB
  have hti:(Jn qs ks x.at_).to_=(((Jn qs ks x.at_).to_.toNat:Nat):Int):=(Int.toNat_of_nonneg hz9).symm
  refine zR ?_
  refine zF zaD ?_
  refine zV (Qc rfl Ww (fun hg=>by exact QA.imm h4.out rfl)) ?_
  refine zpc [_] rfl zmc .nil (zjv hPk.sl hPk.byte hdn) ?_
  rintro vv21 I21 L21 hI21 ⟨rfl,cs,bb,rfl,hrd⟩
  have hP:=hP.mono hI21;have h4:=h4.mono hI21;have hS9:=hS9.mono hI21;have hIc:=hIc.trans hI21
  obtain ⟨t9,rfl,rfl,hNd9,hok9⟩:=zg4 hrd hsm
  have hPk:=hPk.mono hI21
  have hTM:=zh2 hPk.byte (by have h:=hPk.sl.len;omega) hok9 hNd9
  have hTf:=zfp hPk.byte (by have h:=hPk.sl.len;omega) hok9 hNd9
  refine zM ?_
  refine zE ?_
  refine zE ?_
  refine Qr Wn rfl rfl (fun b_7=>?_)
  refine zh VG ?_
  refine zA (zN (Qi ?_))
  refine zM ?_
  refine zF Xy ?_
  refine zV (Qc rfl Qm (fun hg=>by exact QA.imm h4.out rfl)) ?_
  refine zV (Qg rfl Q7 (fun hg=>by exact Cells.g0) rfl) ?_
  refine zx5 [_,_,_] rfl zmt (by repeat (first | exact .cons .here .nil | exact Zk | exact Q0 | apply Q9 | apply Q5)) (zgR hti hP hpl hto hpn hTM hTf) ?_ (fun pv hpv=>by refine zx6 ?_;exact (⟨by rw [znh hpk he hne hok9 hpv.2];exact hpv.1,by rw [znh hpk he hne hok9 hpv.2];decide⟩))
  rintro vv22 I22 L22 hI22 ⟨rfl,cur2,ps2,rfl,hP2,hpl2,hlr⟩
  have hS9:=hS9.mono hI22;have hIc:=hIc.trans hI22
  refine Qb ?_
  exact YG (Yi rfl (fun w hw=>.inl ⟨_,I22,_,rfl,hIc,by exact hw.subL (by repeat (first | exact .refl | exact QH | refine .drop ?_ | refine .keep ?_)),rfl,by rw [zlD hpk he hne hok9 hlr],cur2,ps2,_,_,_,_,rfl,hP2,hpl2,hS9,zbo,by rw [zlD hpk he hne hok9 hlr]⟩))
 have heq:(Jn qs ks x.at_).frm=(Jn qs ks x.at_).to_:=by simpa using hc34
 refine Qp ?_
 exact YG (Yi rfl (fun w hw=>.inl ⟨_,I20,_,rfl,hIc,by exact hw,rfl,by rw [zqM hpk he heq],cur,ps,_,_,_,_,rfl,hP,hpl,hS9,zbo,by rw [zqM hpk he heq]⟩))
end
section
open Go Go.Kn Go.Proofs
theorem zhO {bs:List Nat}{I:Qu}{cs:List Value}{b:Bool}(h:zv4 bs I cs b):(okN bs).isSome=b:=by
 rcases h.2 with ⟨h1,h2⟩ | ⟨h1,x,h2,h3,h4⟩
 ·
  rw [h2,h1];rfl
 ·
  rw [h4,h1];rfl
def zm4 (pn:Nat)(ps:List Pe)(qs:List Pk)(ks:List (Int×Int)):Int:=
 if ((decide ((pn:Int)<1)||decide ((pn:Int)>24))||UG qs ks != 0)=true then 570 else if ps.any (fun x=> !ZL x.notes)=true then 570 else if qs.any (U0 pn)=true then 570 else 0
section
variable {pn:Nat} {ps:List Pe} {qs:List Pk} {ks:List (Int×Int)}
theorem zvO (h:((decide ((pn:Int)<1)||decide ((pn:Int)>24))||UG qs ks != 0)=true):zm4 pn ps qs ks=570:=if_pos h
theorem zvy (h:((decide ((pn:Int)<1)||decide ((pn:Int)>24))||UG qs ks != 0)=false){k:Nat}{x:Pe}(hx:ps[k]? =some x)(hc:(!ZL x.notes)=true):zm4 pn ps qs ks=570:=by
 unfold zm4
 rw [h,if_neg kH,if_pos (List.any_eq_true.2 ⟨x,List.mem_of_getElem? hx,hc⟩)]
theorem zwE (h:((decide ((pn:Int)<1)||decide ((pn:Int)>24))||UG qs ks != 0)=false)(h1:ps.any (fun x=> !ZL x.notes)=false){k:Nat}{x:Pk}(hx:qs[k]? =some x)(hc:U0 pn x=true):zm4 pn ps qs ks=570:=by
 unfold zm4
 rw [h,if_neg kH,h1,if_neg kH,if_pos (List.any_eq_true.2 ⟨x,List.mem_of_getElem? hx,hc⟩)]
theorem zvh (h:((decide ((pn:Int)<1)||decide ((pn:Int)>24))||UG qs ks != 0)=false)(h1:ps.any (fun x=> !ZL x.notes)=false)(h2:qs.any (U0 pn)=false):zm4 pn ps qs ks=0:=by
 unfold zm4
 rw [h,if_neg kH,h1,if_neg kH,h2,if_neg kH]
theorem zeF {I:Qu}{pa qa aa:Option Addr}{pc qn qc an ac:Nat}(hR:RmP I pa pn pc qa qn qc aa an ac ps qs ks):zeL (VV ps qs ks)=zm4 pn ps qs ks:=by
 have hl:(VV ps qs ks).ps.length=pn:=by rw [←hR.pe.len];exact zdv ps
 have e1:(dtP ps).any (fun xs=> !ZL xs)=ps.any (fun x=> !ZL x.notes):=zgr fun x hx=>by simp only [zlr (hR.nt x hx)]
 have e2:(qs.map VD).any (U0 pn)=qs.any (U0 pn):=zgr fun x _=>rfl
 unfold zeL zm4
 rw [hl]
 simp only [VV,W0 hR.pk,e1,e2]
theorem zrI (h:zm4 pn ps qs ks=0):(1≤pn∧pn≤24)∧UG qs ks=0∧(∀ x∈ps,ZL x.notes=true)∧∀ q∈qs,U0 pn q=false:=by
 unfold zm4 at h
 split at h
 ·
  cases h
 ·
  rename_i h1
  split at h
  ·
   cases h
  ·
   rename_i h2
   split at h
   ·
    cases h
   ·
    rename_i h3
    simp only [Bool.or_eq_true,decide_eq_true_eq,bne_iff_ne,not_or,ne_eq,Decidable.not_not] at h1
    refine ⟨kB,h1.2,fun x hx=>?_,fun q hq=>?_⟩
    ·
     rw [Bool.not_eq_true,List.any_eq_false] at h2
     simpa using h2 x hx
    ·
     rw [Bool.not_eq_true,List.any_eq_false] at h3
     simpa using h3 q hq
end
end
section
open Go Go.Kn Go.Proofs
theorem KH:AgT Tryz.prog 59 1:=.of kA
theorem zlV:Fun Tryz.prog 61:=.of Tryz.func61 kA kA
theorem zc2:SzT Tryz.prog 59 1:=.of kA
theorem zoa:Y9 Tryz.prog 59 (.agg #[(.slice none 0 0)]):=.of kA
theorem zlw {I:Qu}{pa qa aa:Option Addr}{pn pc qn qc an ac:Nat}{ps:List Pe}{qs:List Pk}{ks:List (Int×Int)}(hR:RmP I pa pn pc qa qn qc aa an ac ps qs ks)(hpn:pn≤100000)(hqn:qn≤100000)(han:an≤100000)(hnn:∀ x∈ps,x.n≤100000)(hdl:∀ q∈qs,q.n≤100000):Vs Tryz.prog 16 [.agg #[.slice pa pn pc,.slice qa qn qc,.slice aa an ac]] I [] (fun v I' L'=>L'=[]∧v= .int .i64 (zeL (VV ps qs ks))):=by
 intro g H w hw
 refine qe Tryz.func16 Tryz.ntmps16 hw ?_
 have hIc:=zz4 I
 have hlp:=hR.pe.len
 have hlq:=hR.q.len
 refine zR ?_
 refine QO rfl rfl rfl (fun b_1=>?_)
 refine zA (Qb ?_)
 refine QF .here (fun I1 hI1 hb1=>?_)
 have hR:=hR.mono hI1;have hIc:=hIc.trans hI1
 have h1:=BxI.of hb1
 refine Qd (Qo (zR ?_))
 refine zF YB ?_
 refine zV (Qc rfl JM (fun hg=>by exact QA.imm h1.out rfl)) ?_
 refine zQ Jk ?_
 refine zC ?_
 refine zM ?_
 refine QK 4 rfl rfl rfl ?_
 refine zJ (Qa rfl YB) ?_
 refine zJ (Qc rfl JM (fun hg=>by exact QA.imm h1.out rfl)) ?_
 refine zJ (QU rfl Jk) ?_
 refine zJ (Qz rfl rfl rfl) ?_
 refine Zg rfl rfl rfl rfl rfl ?_
 refine zM ?_
 refine QK 10 rfl rfl rfl ?_
 refine zJ (Qa rfl YT) ?_
 refine zJ (Qg rfl ZM (fun hg=>by exact Cells.part (pre:=[.slice pa pn pc]) (vs:=[.slice qa qn qc,.slice aa an ac]) (post:=[]) (BxI.cells (vs:=[_,_,_]) h1) rfl) rfl) ?_
 refine qf (vs:=[_]) rfl zmR (fun hg=>zlt hR.q hqn hR.k han) ?_
 refine zJ (Qz rfl rfl rfl) ?_
 refine Zg rfl rfl rfl rfl rfl ?_
 refine zN ?_
 refine zI ?_ ?_<;>intro hc24
 ·
  have h24:=hc24
  refine zR (zA (zN (Qs (Qf ?_))))
  exact Qy rfl rfl (fun w hw=>⟨_,I1,[],rfl,hIc,by exact hw.drop,rfl,by rw [zeF hR,zvO h24]⟩)
 have h24:=hc24
 refine Qp (Qd (Qo (zR ?_)))
 refine zF YB ?_
 refine zV (Qc rfl JM (fun hg=>by exact QA.imm h1.out rfl)) ?_
 refine zQ Jk ?_
 refine zM (zN (Qx ?_))
 refine zU [(1,_),(26,_),(27,_)] (fun T L0 mz E I' loc'=>∃ (k:Nat),mz=pn-k∧E=(28,.int .i64 k)::T∧I1=I'∧L0=loc'∧k≤pn∧(ps.take k).any (fun x=> !ZL x.notes)=false) ?_ (h:=⟨0,rfl,rfl,rfl,rfl,Nat.zero_le _,rfl⟩)
 rintro mz E I' loc' ⟨k,rfl,rfl,rfl,rfl,hk,hno⟩
 refine zR (zC (zN (Qo ?_)))
 refine zI ?_ ?_<;>intro hc29
 ·
  have hlt_k:k<pn:=by have h:=hc29;simp at h;omega
  obtain ⟨x,hx⟩:∃ y,ps[k]? =some y:=⟨_,List.getElem?_eq_getElem kB⟩
  have hxm:=List.mem_of_getElem? hx
  refine Qp (Qd (Qo (Qx (zR ?_))))
  refine zV (QE rfl rfl Jk hR.pe (fun hg=>kB)) ?_
  refine zV (Qg rfl KH (fun hg=>by exact zz5 hR.pe hx) rfl) ?_
  refine Qr zoa rfl rfl (fun b_4=>?_)
  refine zh zc2 ?_
  refine zN (zR ?_)
  refine zV (Qg rfl KH (fun hg=>by exact Cells.g0) rfl) ?_
  refine qcV (vs:=[_]) rfl zlV (zgn (hR.nt x hxm) (hnn x hxm)) ?_
  refine zO (zN ?_)
  refine zI ?_ ?_<;>intro hc34
  ·
   refine zR (zA (zN (Qs (Qk (Qf (Qf (Qk ?_)))))))
   refine Qf ?_
   exact Qy rfl rfl (fun w hw=>⟨_,I1,[],rfl,hIc,by exact hw.drop,rfl,by rw [zeF hR,zvy h24 hx hc34]⟩)
  refine Qp (Qj (Qd (Qi (zB ?_))))
  refine zM (Qb ?_)
  exact zm (h:=⟨pn-(k+1),kB,k+1,rfl,rfl,rfl,rfl,kB,zc1 hx hno hc34⟩)
 have hge_k:pn≤k:=by have h:=hc29;simp at h;omega
 rw [ZV hlp hge_k] at hno
 refine Q6 (Qn (Qn (Qw (Qd (Qo (zR ?_))))))
 refine zF YT ?_
 refine zF Zi ?_
 refine zV (Qc rfl Zo (fun hg=>by exact QA.imm h1.out rfl)) ?_
 refine zQ Zf ?_
 refine zM (zN (Qx ?_))
 refine zU [(1,_),(38,_),(39,_)] (fun T L0 mz E I' loc'=>∃ (j:Nat),mz=qn-j∧E=(40,.int .i64 j)::T∧HLe I1 I'∧L0=loc'∧j≤qn∧(qs.take j).any (U0 pn)=false) ?_ (h:=⟨0,rfl,rfl,zz4 _,rfl,Nat.zero_le _,rfl⟩)
 rintro mz E J3 loc' ⟨j,rfl,rfl,hJ,rfl,hj,hno2⟩
 have hR:=hR.mono hJ;have h1:=h1.mono hJ;have hIc:=hIc.trans hJ
 have hB2:=hJ
 refine zR (zC (zN (Qo ?_)))
 refine zI ?_ ?_<;>intro hc41
 ·
  have hlt_j:j<qn:=by have h:=hc41;simp at h;omega
  obtain ⟨y,hy⟩:∃ y,qs[j]? =some y:=⟨_,List.getElem?_eq_getElem kB⟩
  have hym:=List.mem_of_getElem? hy
  refine Qp (Qd (Qo (Qx (zR ?_))))
  refine zV (QE rfl rfl Zf hR.q (fun hg=>kB)) ?_
  refine zV (Qg rfl VY (fun hg=>by exact zz5 hR.q hy) rfl) ?_
  refine Qr zcu rfl rfl (fun b_6=>?_)
  refine zh JQ ?_
  refine zN (zR ?_)
  refine zF zaD ?_
  refine zL Ww ?_
  refine zpc [_] rfl zmc .nil (zjv (hR.pk y hym).sl (hR.pk y hym).byte (hdl y hym)) ?_
  rintro vv4 I4 L4 hI4 ⟨rfl,cs,bb,rfl,hrd⟩
  have hR:=hR.mono hI4;have h1:=h1.mono hI4;have hIc:=hIc.trans hI4;have hB2:=hB2.trans hI4
  refine zM ?_
  refine zE ?_
  refine zE ?_
  refine Qr Wn rfl rfl (fun b_7=>?_)
  refine Jd (old:=Q4 zcA) rfl rfl VG hrd.1.1 rfl hrd.1.2 rfl (by repeat (first | exact Upd.here | apply Upd.there | apply ZE)) ?_
  refine zA ?_
  refine zN (zR ?_)
  refine zM ?_
  refine zO ?_
  refine zM ?_
  refine QK 2 rfl rfl rfl ?_
  refine zJ (Qa rfl zaI) ?_
  refine zJ (Qc rfl Qm (fun hg=>by exact QA.h1 rfl)) ?_
  refine zJ (Qa rfl Xy) ?_
  refine zJ (Qc rfl Qm (fun hg=>by exact QA.h1 rfl)) ?_
  refine zJ (Vp rfl rfl) ?_
  refine zJ (Qa rfl YB) ?_
  refine zJ (Qc rfl JM (fun hg=>by exact QA.imm h1.out rfl)) ?_
  refine zJ (QU rfl Jk) ?_
  refine zJ (Qz rfl rfl rfl) ?_
  refine Zg rfl rfl rfl rfl rfl ?_
  refine zN ?_
  refine zI ?_ ?_<;>intro hc62
  ·
   have hbk:U0 pn y=true:=by unfold U0;rw [zhO hrd];exact hc62
   refine zR (zA (zN (Qs (Qk (Qf (Qf (Qk ?_)))))))
   refine Qf ?_
   exact Qy rfl rfl (fun w hw=>⟨_,I4,[],rfl,hIc,by exact hw.drop,rfl,by rw [zeF hR,zwE h24 hno hy hbk]⟩)
  have hbk:U0 pn y=false:=by unfold U0;rw [zhO hrd];exact hc62
  refine Qp (Qj (Qd (Qi (zB ?_))))
  refine zM (Qb ?_)
  exact zm (h:=⟨qn-(j+1),kB,j+1,rfl,rfl,hB2,rfl,kB,zc1 hy hno2 hbk⟩)
 have hge_j:qn≤j:=by have h:=hc41;simp at h;omega
 rw [ZV hlq hge_j] at hno2
 refine Q6 (Qn (Qn (Qw (Qd (zR (zA (zN ?_)))))))
 refine Qs ?_
 exact Qy rfl rfl (fun w hw=>⟨_,J3,[],rfl,hIc,by exact hw.drop,rfl,by rw [zeF hR,zvh h24 hno hno2]⟩)
end
end Go.Proofs.YtjblkbkmblkgoaaGreat
namespace Go.Kn
section
open Go
def zeJ {α:Type}(P:Program)(f:FuncId)(cap:List Value)(I:Qu)(Lb:Loc)(rel:Value→α→Qu→Prop)(xs:List α):Prop:=
 ∀ g l (J Jx:List α→Qu→Qu→Prop),(∀ pre I1 I2 H',HLe I1 I2→J pre I1 H'→J pre I2 H')→
  (∀ pre x v I' H',pre++[x]<+:xs→HLe I I'→rel v x I'→J pre I' H'→zbq P g l [v] I' H' fun b I2 H2=>if b then J (pre++[x]) I2 H2 else Jx (pre++[x]) I2 H2)→
  ∀ I0 H w,HLe I I0→J [] I0 H→(∀ p∈Lb,H p.1=some p.2)→St g I0 H [] w→Calls P f ((.func (.yield l) #[] #[]:Value)::cap).toArray w fun e w'=>∃ v I' H',e= .returned v∧HLe I0 I'∧St g I' H' [] w'∧(J xs I' H'∨∃ pre,pre<+:xs∧Jx pre I' H')
theorem zeJ.mono {α:Type}{P:Program}{f:FuncId}{cap:List Value}{I I':Qu}{Lb:Loc}{rel:Value→α→Qu→Prop}{xs:List α}(h:zeJ P f cap I Lb rel xs)(hI:HLe I I'):zeJ P f cap I' Lb rel xs:=
 fun g l J Jx hm hY I0 H w h0 hJ hb hw=>h g l (fun pre I1 H1=>HLe I' I1∧J pre I1 H1) (fun pre I1 H1=>HLe I' I1∧Jx pre I1 H1)
  (fun pre I1 I2 H' h12 ⟨h1,h2⟩=>⟨h1.trans h12,hm pre I1 I2 H' h12 h2⟩)
  (fun pre x v I1 H1 hp _ hv ⟨h2,h3⟩ loc W hW=>by
   obtain ⟨fn,tmps,asg,bd,hy,hR⟩:=hY pre x v I1 H1 hp h2 hv h3 loc W hW
   refine ⟨fn,tmps,asg,bd,hy,hR.mono ?_⟩
   rintro e W' ⟨b,I2,H2,he,h4,h5,h6⟩
   refine ⟨b,I2,H2,he,h4,h5,?_⟩
   cases b with
   | true=>exact ⟨h2.trans h4,h6⟩
   | false=>exact ⟨h2.trans h4,h6⟩) I0 H w (hI.trans h0) ⟨h0,hJ⟩ hb hw |>.mono fun e w' ⟨v,I1,H1,he,h1,h2,h3⟩=>⟨v,I1,H1,he,h1,h2,h3.elim (fun h=>.inl h.2) (fun ⟨pre,hp,h⟩=>.inr ⟨pre,hp,h.2⟩)⟩
def znQ (H:Qu)(b:Nat):Qu:=fun x=>if x=b then none else H x
theorem zjy {H:Qu}{b:Nat}{o:Obj}(hb:H b=some o):JY (znQ H b) [(b,o)]=H:=by
 funext x
 simp only [JY,znQ]
 split
 ·
  rename_i e;rw [e,hb]
 ·
  rfl
section
variable {g:World} {I H:Qu} {loc A B:Loc} {w:World} {b:Nat} {o:Obj}
theorem St.peek (h:St g I H [] w)(hb:H b=some o):St g I (znQ H b) [(b,o)] w:=by
 have hd:∀ x p,znQ H b x=some p→H x=some p:=fun x p e=>by
  unfold znQ at e
  split at e
  ·
   cases e
  ·
   exact e
 refine ⟨h.os,h.tape,h.out,h.size,h.imm,fun x p e=>h.frm x p (hd x p e),?_,?_,?_,by simp⟩
 ·
  intro x p hm
  obtain ⟨rfl,rfl⟩:=Prod.mk.inj (List.mem_singleton.1 hm)
  exact h.frm _ _ hb
 ·
  intro x
  rcases h.sepIH x with e | e
  ·
   exact .inl e
  ·
   refine .inr ?_
   unfold znQ
   split
   ·
    rfl
   ·
    exact e
 ·
  intro x p hm
  obtain ⟨rfl,rfl⟩:=Prod.mk.inj (List.mem_singleton.1 hm)
  refine ⟨?_,by simp [znQ]⟩
  rcases h.sepIH x with e | e
  ·
   exact e
  ·
   rw [hb] at e;cases e
end
section
variable {α:Type} {P:Program} {N:Nat} {g:World} {p:Nat} {assign body:Code} {f:FuncId} {cap:List Value} {rel:Value→α→Qu→Prop} {xs:List α} {E:Env} {I H:Qu} {L B:Loc}
theorem zko {fn:FuncId}{tmps:Array Value}{l df:Nat}{w2:World}(Jc:List α→Qu→Qu→Loc→Prop)(Jx:Code→List α→Qu→Qu→Loc→Prop)(Ja:List α→α→Env→Qu→Qu→Loc→Prop)
    (hm:∀ pre I1 I2 H' L',HLe I1 I2→Jc pre I1 H' L'→Jc pre I2 H' L'){Lb:Loc}(hst:∀ p∈Lb,p∈L)(hseq:zeJ P f cap I Lb rel xs)(hfit0:∀ v,K2 N [] ((p,v)::E) {tmps:=tmps.setIfInBounds p v,defers:=[]})(h0:Jc [] I H L)
    (hass:∀ l Z pre x v I' H' L',pre++[x]<+:xs→HLe I I'→rel v x I'→Jc pre I' H' L'→X ⟨P,some l,N,[],g,H'⟩ (Exit.then (Met ⟨P,some l,N,[],g,H'⟩ fun E2 I2 loc2=>HLe I' I2∧∃ L2,loc2=L2++Z∧Ja pre x E2 I2 H' L2) (fun _ _ _=>False)) assign ((p,v)::E) I' (L'++Z))
    (hbody:∀ l Z pre x E2 I2 H2 L2,(∃ r0,(l,Obj.loop r0)∈Z)→pre++[x]<+:xs→HLe I I2→Ja pre x E2 I2 H2 L2→X ⟨P,some l,N,[],g,H2⟩ (zlu g Z (fun q I3 H3 L3=>HLe I2 I3∧Jc q I3 H3 L3) (fun c q I3 H3 L3=>HLe I2 I3∧Jx c q I3 H3 L3) (pre++[x])) body E2 I2 (L2++Z))
    (hw2:St g I H (L++((l,zwr fn tmps p assign body df .ready none)::B)) w2):
    Calls P f ((.func (.yield l) #[] #[]:Value)::cap).toArray w2 fun e w'=>∃ v,e= .returned v∧
      ((∃ I' H' L',HLe I I'∧Jc xs I' H' L'∧St g I' H' (L'++((l,zwr fn tmps p assign body df .ready none)::B)) w')∨
       (∃ c pre I' H' L',HLe I I'∧pre<+:xs∧Jx c pre I' H' L'∧St g I' H' (L'++((l,zwr fn tmps p assign body df .done (some c))::B)) w')):=by
  let rc:=zwr fn tmps p assign body df
  let Lr:LoopState→Option Code→Loc→Loc:=fun st pd L'=>L'++((l,rc st pd)::B)
  let J:List α→Qu→Qu→Prop:=fun pre I' H'=>∃ H0 L',Jc pre I' H0 L'∧HLe I I'∧H'=JY H0 (Lr .ready none L')∧((Lr .ready none L').map (·.1)).Nodup∧∀ b o,(b,o)∈Lr .ready none L'→H0 b=none
  let Jy:List α→Qu→Qu→Prop:=fun pre I' H'=>∃ c H0 L',Jx c pre I' H0 L'∧HLe I I'∧H'=JY H0 (Lr .done (some c) L')∧((Lr .done (some c) L').map (·.1)).Nodup∧∀ b o,(b,o)∈Lr .done (some c) L'→H0 b=none
  have hJ0:J [] I (JY H (Lr .ready none L)):=⟨H,L,h0,zz4 I,rfl,hw2.nodup,fun b o hm=>(hw2.sepIL b o hm).2⟩
  refine (hseq g l J Jy (fun pre I1 I2 H' h12 ⟨H0,L',h1,h2,h3,h4,h5⟩=>⟨H0,L',hm pre I1 I2 H0 L' h12 h1,h2.trans h12,h3,h4,h5⟩) ?_ I _ _ (zz4 I) hJ0 (fun p hp=>zd4 hw2.nodup (List.mem_append_left _ (hst p hp))) hw2.hide).mono ?_
  · intro pre x v I' H' hpre hI hrel ⟨H0,L',hJc,_,hH,hnd,hdj⟩ lit W hW
    subst hH
    have hS0:=hW.join2 hnd hdj
    -- own blocks first, the record, the rest, the iterator's blocks
    have hS1:St g I' H0 (L'++((l,rc .ready none)::(B++lit))) W:=hS0.permL (by
      have:(L'++((l,rc .ready none)::(B++lit)))=(L'++((l,rc .ready none)::B))++lit:=by simp
      rw [this];exact List.perm_append_comm)
    have hrec:W.heap[l]? =some (rc .ready none):=hS1.own _ _ kH
    refine ⟨fn,_,assign,body,run_yield (P:=P) hrec kH,?_⟩
    refine roundIn_of_wpIn (F:=Fence.wide) trivial ?_
    have htm:((#[p]:Array Tmp).zip #[v]).foldl (fun tmps (t,v)=>tmps.setIfInBounds t v) tmps=tmps.setIfInBounds p v:=by simp
    show Code.wpIn _ _ _ _ _ {tmps:=((#[p]:Array Tmp).zip #[v]).foldl (fun tmps (t,v)=>tmps.setIfInBounds t v) tmps,defers:=[]} _
    rw [htm]
    have hA:=hass l ((l,rc .ready none)::(B++lit)) pre x v I' H0 L' hpre hI hrel hJc _ W (hfit0 v) hS1
    refine wpIn_mono (F:=Fence.wide.inRound l) (n:=0) (P:=P) (show assign.wpIn (Fence.wide.inRound l) 0 P _ _ _ from hA) ?_
    intro e a1 W1 hq
    cases e with
    | normal=>
      obtain ⟨E2,I2,loc2,⟨hI2,L2,rfl,hJa⟩,hf2,hs2⟩:=hq
      have hrec1:W1.heap[l]? =some (rc .ready none):=hs2.own _ _ kH
      have hs4:=hs2.putObj (o':=rc .busy none) (b:=l) (ZE .here)
      refine ⟨_,run_beginRound (P:=P) hrec1 rfl,?_⟩
      have hB:=hbody l ((l,rc .busy none)::(B++lit)) pre x E2 I2 H0 L2 ⟨_,List.mem_cons_self ..⟩ hpre (hI.trans hI2) hJa a1 _ hf2 hs4
      refine wpIn_mono (F:=Fence.wide.inRound l) (n:=0) (P:=P) (show body.wpIn (Fence.wide.inRound l) 0 P _ _ _ from hB) ?_
      have fin:∀ (W3:World) (I3 H3:Qu) (L3:Loc) (jump:Option Code) (st:LoopState),St g I3 H3 (L3++((l,rc .busy none)::(B++lit))) W3→(st=if jump.isNone then .ready else .done)→
          ∃ W4,(Instr.endRound l jump).run P W3= .ok (.bool jump.isNone) W4∧St g I3 (JY H3 (Lr st jump L3)) lit W4∧((Lr st jump L3).map (·.1)).Nodup∧∀ b o,(b,o)∈Lr st jump L3→H3 b=none:=by
        intro W3 I3 H3 L3 jump st hs hst
        have hrec3:W3.heap[l]? =some (rc .busy none):=hs.own _ _ kH
        have hs6:=hs.putObj (o':=rc st jump) (b:=l) (ZE .here)
        have hs7:St g I3 H3 (lit++Lr st jump L3) (W3.putObj l (rc st jump)):=hs6.permL (by
          have:(L3++((l,rc st jump)::(B++lit)))=Lr st jump L3++lit:=by simp [Lr]
          rw [this];exact List.perm_append_comm)
        have hs8:=hs7.rest Q0
        refine ⟨_,run_endRound (P:=P) jump hrec3,?_,hs8.nodup,fun b o hm=>(hs8.sepIL b o hm).2⟩
        rw [←hst]
        exact hs7.hideR
      intro e a3 W3 hq
      cases e with
      | normal=>
        obtain ⟨I3,H3,L3,⟨hI3,hJ3⟩,hs⟩:=hq
        obtain ⟨W4,h1,h2,h3,h4⟩:=fin W3 I3 H3 L3 none .ready hs rfl
        exact ⟨_,W4,h1,true,I3,_,rfl,hI2.trans hI3,h2,H3,L3,hJ3,(hI.trans hI2).trans hI3,rfl,h3,h4⟩
      | ret=>
        obtain ⟨I3,H3,L3,⟨hI3,hJ3⟩,hs⟩:=hq
        obtain ⟨W4,h1,h2,h3,h4⟩:=fin W3 I3 H3 L3 (some .ret) .done hs rfl
        exact ⟨_,W4,h1,false,I3,_,rfl,hI2.trans hI3,h2,.ret,H3,L3,hJ3,(hI.trans hI2).trans hI3,rfl,h3,h4⟩
      | exit id=>
        obtain ⟨I3,H3,L3,⟨hI3,hJ3⟩,hs⟩:=hq
        obtain ⟨W4,h1,h2,h3,h4⟩:=fin W3 I3 H3 L3 (some (.exit id)) .done hs rfl
        exact ⟨_,W4,h1,false,I3,_,rfl,hI2.trans hI3,h2,.exit id,H3,L3,hJ3,(hI.trans hI2).trans hI3,rfl,h3,h4⟩
      | goto t=>exact hq.elim
      | panic c=>exact hq.elim
      | outgrown=>exact hq.elim
    | _=>exact hq.elim
  · rintro e w' ⟨v,I',H',rfl,hI,hs,hJ | ⟨pre,hpre,hJ⟩⟩
    · obtain ⟨H0,L',hJc,hI1,rfl,hnd,hdj⟩:=hJ
      have hs1:=hs.join2 hnd hdj
      exact ⟨v,rfl,.inl ⟨I',H0,L',hI1,hJc,by simpa using hs1⟩⟩
    · obtain ⟨c,H0,L',hJc,hI1,rfl,hnd,hdj⟩:=hJ
      have hs1:=hs.join2 hnd hdj
      exact ⟨v,rfl,.inr ⟨c,pre,I',H0,L',hI1,hpre,hJc,by simpa using hs1⟩⟩
end
section
variable {α:Type} {P:Program} {N:Nat} {g:World} {H:Qu} {Q:Exit→Act→World→Prop} {gop:Operand} {p:Nat} {assign body:Code} {f:FuncId} {cap:List Value} {rel:Value→α→Qu→Prop} {xs:List α} {E:Env} {I:Qu} {L:Loc}
theorem zdF {ms:List Nat}(Jc:List α→Qu→Qu→Loc→Prop)(Jx:Code→List α→Qu→Qu→Loc→Prop)(Ja:List α→α→Env→Qu→Qu→Loc→Prop)
  (hm:∀ pre I1 I2 H' L',HLe I1 I2→Jc pre I1 H' L'→Jc pre I2 H' L')(hg:QD [] E gop=some (.func (.func f) #[] cap.toArray))(hF:Fun P f){Lb:Loc}(hst:∀ p∈Lb,p∈L)(hseq:zeJ P f cap I Lb rel xs)(hp:Nat.blt p N=true)(h0:Jc [] I H L)
  (hass:∀ l Z pre x v I' H' L',pre++[x]<+:xs→HLe I I'→rel v x I'→Jc pre I' H' L'→X ⟨P,some l,N,[],g,H'⟩ (Exit.then (Met ⟨P,some l,N,[],g,H'⟩ fun E2 I2 loc2=>HLe I' I2∧∃ L2,loc2=L2++Z∧Ja pre x E2 I2 H' L2) (fun _ _ _=>False)) assign ((p,v)::E) I' (L'++Z))
  (hbody:∀ l Z pre x E2 I2 H2 L2,(∃ r0,(l,Obj.loop r0)∈Z)→pre++[x]<+:xs→HLe I I2→Ja pre x E2 I2 H2 L2→X ⟨P,some l,N,[],g,H2⟩ (zlu g Z (fun q I3 H3 L3=>HLe I2 I3∧Jc q I3 H3 L3) (fun c q I3 H3 L3=>HLe I2 I3∧Jx c q I3 H3 L3) (pre++[x])) body E2 I2 (L2++Z))
  (hdone:∀ bd I' H' L',HLe I I'→Jc xs I' H' L'→At ⟨P,none,N,mk (bd::ms),g,H'⟩ Q .normal E I' (L'++MB (bd::ms)))
  (hstop:∀ c bd pre I' H' L',HLe I I'→pre<+:xs→Jx c pre I' H' L'→X ⟨P,none,N,mk (bd::ms),g,H'⟩ Q c E I' (L'++MB (bd::ms))):
  X ⟨P,none,N,mk ms,g,H⟩ Q (.rangeFunc gop #[p] assign body) E I (L++MB ms):=by
 intro a w ha hw
 refine wpIn_rangeFunc fun fn _=>?_
 have hen:=run_enterLoop_outer (P:=P) (w:=w) fn a.tmps #[p] assign body
 generalize hbd:w.heap.size=bd at hen
 let rc:=zwr fn a.tmps p assign body bd
 have hw1:St g I H ((bd+1,rc .ready none)::(bd,.deferred (some []))::(L++MB ms)) ((w.alloc (.deferred (some []))).alloc (rc .ready none)):=by
  have h1:=hw.alloc (.deferred (some []))
  have h2:=h1.alloc (rc .ready none)
  rw [World.size_alloc,hbd] at h2
  exact h2
 have hw2:St g I H (L++((bd+1,rc .ready none)::MB (bd::ms))) ((w.alloc (.deferred (some []))).alloc (rc .ready none)):=hw1.permL (by
  have e:L++((bd+1,rc .ready none)::MB (bd::ms))=(L++(bd+1,rc .ready none)::MB ms)++[(bd,.deferred (some []))]:=by simp [MB]
  rw [e]
  refine List.perm_append_comm.trans ?_
  have h1:(L++(bd+1,rc .ready none)::MB ms).Perm ((bd+1,rc .ready none)::(L++MB ms)):=List.perm_middle
  exact (h1.cons _).trans (List.Perm.swap ..))
 have hev:=Qh (S:=[]) ha trivial rfl hg
 refine ⟨bd+1,[{target:=.collected bd,args:= #[]}],_,{target:=.fn (.func f) cap.toArray,args:= #[.func (.yield (bd+1)) #[] #[]]},(w.alloc (.deferred (some []))).alloc (rc .ready none),f,((.func (.yield (bd+1)) #[] #[]:Value)::cap).toArray,(w.alloc (.deferred (some []))).alloc (rc .ready none),hen,?_,fun _ _=>trivial,?_,by simp [FR],WQ.2 ?_⟩
 ·
  have e2:a.eval (.const (.func (.yield (bd+1)) #[] #[]))= .func (.yield (bd+1)) #[] #[]:=rfl
  simp only [resolve,List.map_toArray,List.map_cons,List.map_nil,e2,hev,Deferred.ofValue]
  rfl
 ·
  simp only [invoke,JI hF]
  simp
 have hfit:∀ v,K2 N [] ((p,v)::E) {tmps:=a.tmps.setIfInBounds p v,defers:=[]}:=fun v=>by
  have h1:=ha.put hp v
  exact ⟨h1.size,rfl,h1.env⟩
 refine (zko (l:=bd+1) (df:=bd) Jc Jx Ja hm hst hseq hfit h0 hass hbody hw2).mono ?_
 rintro e w' ⟨v,rfl,⟨I',H',L',hI,hJ,hs⟩ | ⟨c,pre,I',H',L',hI,hpre,hJ,hs⟩⟩
 ·
  have hrec:w'.heap[bd+1]? =some (rc .ready none):=hs.own _ _ (by simp [rc])
  have hs2:=hs.putObj (o':=rc .exhausted none) (b:=bd+1) (ZE .here)
  refine ⟨none,_,run_endLoop (P:=P) hrec kH,?_⟩
  refine hdone bd I' H' L' hI hJ _ _ ⟨ha.size,by simp [ha.defers,mk],ha.env⟩ ?_
  exact hs2.subL (zcL (.drop .refl))
 ·
  have hrec:w'.heap[bd+1]? =some (rc .done (some c)):=hs.own _ _ (by simp [rc])
  have hs2:=hs.putObj (o':=rc .exhausted (some c)) (b:=bd+1) (ZE .here)
  refine ⟨some c,_,run_endLoop (P:=P) hrec kH,?_⟩
  refine hstop c bd pre I' H' L' hI hpre hJ _ _ ⟨ha.size,by simp [ha.defers,mk],ha.env⟩ ?_
  exact hs2.subL (zcL (.drop .refl))
end
end
end Go.Kn
namespace Go.Proofs.YtjblkbkmblkgoaaGreat
section
open Go Go.Kn Go.Proofs
structure zd7 (I:Qu)(a:Option Addr)(m c:Nat)(qs D:List Pk):Prop where
 sl:Sl I 3 Zz a m c qs
 pk:∀ q∈qs,PkM I q
 dat:qs.map VD=D
theorem zd7.mono {I I':Qu}{a:Option Addr}{m c:Nat}{qs D:List Pk}(h:zd7 I a m c qs D)(hI:HLe I I'):zd7 I' a m c qs D:=⟨h.sl.mono hI,fun q hq=>(h.pk q hq).mono hI,h.dat⟩
theorem zd7.len {I:Qu}{a:Option Addr}{m c:Nat}{qs D:List Pk}(h:zd7 I a m c qs D):m=D.length:=by
 rw [←h.dat,List.length_map];exact h.sl.len.symm
def zuP (v:Value)(x:Pk)(I:Qu):Prop:=∃ y:Pk,v=W9 y∧PkM I y∧VD y=x
theorem ze5 {qs:List Pk}{ks:List (Int×Int)}(h:UG qs ks=0):qs.length≤4096∧(∀ p∈qs,pkV p=true)∧zgj [] ks=true:=by
 unfold UG at h
 split at h
 ·
  cases h
 ·
  rename_i h1
  split at h
  ·
   rename_i h2
   rw [Bool.not_eq_true,Bool.or_eq_false_iff,List.any_eq_false] at h1
   have h3:=h1.1
   simp only [decide_eq_false_iff_not] at h3
   exact ⟨kB,fun p hp=>by simpa using h1.2 p hp,h2⟩
  ·
   cases h
theorem zod {qs l:List Pk}{ks:List (Int×Int)}(h:UG qs ks=0)(hv:∀ p∈l,pkV p=true)(hl:qs.length+l.length≤4096):UG (qs++l) ks=0:=by
 obtain ⟨h1,h2,h3⟩:=ze5 h
 unfold UG
 rw [h3,if_pos rfl,if_neg]
 rw [Bool.not_eq_true,Bool.or_eq_false_iff,List.any_eq_false]
 refine ⟨by rw [List.length_append];simp only [decide_eq_false_iff_not];omega,fun p hp=>?_⟩
 rcases List.mem_append.1 hp with hp | hp
 ·
  simp [h2 p hp]
 ·
  simp [hv p hp]
theorem znR {I:Qu}{a:Option Addr}{m c:Nat}{qs D pre xs:List Pk}{ks:List (Int×Int)}{x y:Pk}(h:zd7 I a m c qs (D++pre))(hok:UG D ks=0)(hv:∀ p∈xs,pkV p=true)(hl:D.length+xs.length≤4096)(hpre:pre++[x]<+:xs)(hy:PkM I y)(e:VD y=x):UE qs ks y=0:=by
 have hle:=hpre.length_le
 rw [List.length_append,List.length_singleton] at hle
 have hmem:∀ p∈pre++[x],p∈xs:=fun p hp=>hpre.subset hp
 have h1:UG (D++pre) ks=0:=zod hok (fun p hp=>hv p (hmem p (List.mem_append_left _ hp))) kB
 have h2:pkV x=true:=hv x (hmem x kH)
 rw [←ze3 h.pk ks hy,h.dat,e]
 refine zqJ (by rw [h1,h2];rfl) ?_
 rw [List.length_append]
 simp only [beq_eq_false_iff_ne,ne_eq];omega
theorem zd7.snoc {I I':Qu}{a b:Option Addr}{m c n d:Nat}{qs D pre:List Pk}{x y:Pk}(h:zd7 I a m c qs (D++pre))(hI:HLe I I')(hS:Sl I' 3 Zz b n d (qs++[y]))(hy:PkM I' y)(e:VD y=x):zd7 I' b n d (qs++[y]) (D++(pre++[x])):=
 ⟨hS,fun q hq=>by
  rcases List.mem_append.1 hq with hq | hq
  ·
   exact (h.pk q hq).mono hI
  ·
   rw [List.mem_singleton] at hq;subst hq;exact hy,by rw [List.map_append,h.dat,List.map_singleton,e,List.append_assoc]⟩
end
section
open Go Go.Kn Go.Proofs
theorem Kw:ScT Tryz.prog 105:=.of kA
theorem zqO {I:Qu}{bc:Nat}{pa qa aa:Option Addr}{pn pc qn qc an ac:Nat}{qs D xs:List Pk}{ks:List (Int×Int)}(hS:zd7 I qa qn qc qs D)(hA:Sl I 2 K6 aa an ac ks)(han:an≤100000){f:Nat}{cap:List Value}(hF:Fun Tryz.prog f)(hseq:zeJ Tryz.prog f cap I [(bc,.cells #[.slice pa pn pc,.slice qa qn qc,.slice aa an ac] 108 (0,0))] zuP xs)(hok:UG D ks=0)(hv:∀ p∈xs,pkV p=true)(hl:D.length+xs.length≤4096):Vs Tryz.prog 110 [Zw bc,.func (.func f) #[] cap.toArray] I [(bc,.cells #[.slice pa pn pc,.slice qa qn qc,.slice aa an ac] 108 (0,0))] (fun v I' L'=>v= .tuple #[]∧∃ a m c qs2,L'=[(bc,.cells #[.slice pa pn pc,.slice a m c,.slice aa an ac] 108 (0,0))]∧zd7 I' a m c qs2 (D++xs)):=by
 intro g H w hw
 refine zmN Tryz.func110 rfl Tryz.ntmps110 rfl hw ?_
 have hIc:=zz4 I
 refine zR ?_
 refine QO rfl rfl rfl (fun b_2=>?_)
 refine Qb ?_
 refine QF .here (fun I1 hI1 hb1=>?_)
 have hS:=hS.mono hI1;have hA:=hA.mono hI1;have hIc:=hIc.trans hI1
 have h2:=BxI.of hb1
 refine Qd (zR (zM (zN (Qx ?_))))
 refine zdF (ms:=[]) (rel:=zuP) (L:=[(bc,.cells #[.slice pa pn pc,.slice qa qn qc,.slice aa an ac] 108 (0,0))]) (fun pre I' H' L'=>∃ (a:Option Addr) (m c:Nat) (qs2:List Pk),L'=[(bc,.cells #[.slice pa pn pc,.slice a m c,.slice aa an ac] 108 (0,0))]∧H'=H∧HLe I1 I'∧zd7 I' a m c qs2 (D++pre)) (fun _ _ _ _ _=>False) (fun pre x E2 I2 H2 L2=>∃ (y:Pk) (b4:Nat) (a:Option Addr) (m c:Nat) (qs2:List Pk),E2=[(2,Zw b_2),(4,Zw b4)]∧L2=[(b4,.cells (Zz y).toArray 99 (0,0)),(bc,.cells #[.slice pa pn pc,.slice a m c,.slice aa an ac] 108 (0,0))]∧H2=H∧HLe I1 I2∧PkM I2 y∧VD y=x∧zd7 I2 a m c qs2 (D++pre)) (fun pre I1 I2 H' L' h12 ⟨a,m,c,qs2,e1,e2,e3,e4⟩=>⟨a,m,c,qs2,e1,e2,e3.trans h12,e4.mono h12⟩) rfl hF (fun p hp=>hp) (hseq.mono hIc) rfl ⟨_,_,_,qs,rfl,rfl,zz4 _,by rw [List.append_nil];exact hS⟩ ?_ ?_ ?_ ?_
 ·
  rintro l9 Z pre x v0 I1 H1 L1 hpre hI1 ⟨y,rfl,hyM,hyD⟩ ⟨a,m,c,qs2,rfl,rfl,hI01,hQ⟩
  refine Qi ?_
  refine Qr zcu rfl rfl (fun b_4=>?_)
  refine zh JQ ?_
  refine Qb ?_
  exact WB _ ⟨zz4 _,_,rfl,y,b_4,a,m,c,qs2,rfl,rfl,rfl,hI01,hyM,hyD,hQ⟩ (.cons rfl (.cons rfl .nil))
 ·
  rintro l9 Z pre x E2 I2 H2 L2 hl9 hpre hI2 ⟨y,b4,a,m,c,qs2,rfl,rfl,rfl,hI02,hyM,hyD,hQ⟩
  have hA:=hA.mono hI02;have h2:=h2.mono hI02
  have hz:=znR hQ hok hv hl hpre hyM hyD
  have hle:=hpre.length_le
  have hml:=hQ.len
  rw [List.length_append,List.length_singleton] at hle
  rw [List.length_append] at hml
  have hC:=zz4 I2
  refine Qx (Qo ?_)
  have hD:=zz4 I2
  refine Zn ?_
  refine QL I2 [(b4,.cells (Zz y).toArray 99 (0,0)),(bc,.cells #[.slice pa pn pc,.slice a m c,.slice aa an ac] 108 (0,0))] mixed ?_
  refine zT 0 rfl (Qc rfl Kw (fun hg=>by exact QA.imm h2.out rfl)) hD ?_
  refine zT 1 rfl (QG rfl) hD ?_
  refine zT 2 rfl (Qa rfl Yk) hD ?_
  refine zT 3 rfl (Qa rfl YT) hD ?_
  refine zT 4 rfl (Qg rfl ZM (fun hg=>by exact Cells.s1 (vs:=[_,_]) rfl) rfl) hD ?_
  refine zT 5 rfl (Qg rfl VY (fun hg=>by exact Cells.g0) rfl) hD ?_
  refine QS 6 10 rfl rfl kA ?_ ?_
  ·
   refine zpc [_,_] rfl zfW .nil (zkb hQ.sl kB hA han y) ?_
   rintro vv2 I2 L2 hI2 ⟨a6,m6,c6,a7,m7,c7,rfl,rfl,hN,hm⟩
   have hQ:=hQ.mono hI2;have h2:=h2.mono hI2;have hyM:=hyM.mono hI2;have hI02:=hI02.trans hI2;have hC:=hC.trans hI2;have hD:=hD.trans hI2
   refine Qb ?_
   refine zD hD ?_
   refine zT 7 rfl (Qe rfl) hD ?_
   refine zT 8 rfl (Q2 rfl rfl) hD ?_
   refine zT 9 rfl (Q2 rfl rfl) hD ?_
   refine qd 10 rfl ?_
   refine Qr UR rfl rfl (fun b_5=>?_)
   refine Qb ?_
   refine zD hD ?_
   refine qd 11 rfl ?_
   refine zh Yt ?_
   refine Qb ?_
   refine zD hD ?_
   refine zT 12 rfl (Qv rfl) hD ?_
   refine Ql kA ?_
   refine Qt ?_
   refine Qd (zR (zM ?_))
   refine zC ?_
   refine zM ?_
   refine zpc [_,_] rfl Kt .nil ((UP I2 (UE qs2 ks y==0) (UE qs2 ks y)).m (fun v hv=>by have h9:=hv.2;simp [hz] at h9)) ?_
   rintro vv3 I3 L3 hI3 ⟨rfl,rfl,rfl,_⟩
   have hQ:=hQ.mono hI3;have h2:=h2.mono hI3;have hyM:=hyM.mono hI3;have hN:=hN.mono hI3;have hI02:=hI02.trans hI3;have hC:=hC.trans hI3
   obtain ⟨e7,e8,e9,hS9⟩:=hN.ok hz
   subst a7 m7 c7
   have hQ3:=zd7.snoc hQ (zz4 _) hS9 hyM hyD
   refine zN (Qi ?_)
   refine zV (Qc rfl Kw (fun hg=>by exact QA.imm h2.out rfl)) ?_
   refine zV (Qg rfl ZM (fun hg=>by exact Cells.g0) rfl) ?_
   refine zV (QG rfl) ?_
   refine zF Yk ?_
   refine zF YT ?_
   refine Vd rfl rfl Yt rfl rfl rfl rfl (by repeat (first | exact Upd.here | apply Upd.there | apply ZE)) ?_
   refine Qb (Qj ?_)
   exact zeO (L:=[(bc,.cells #[.slice pa pn pc,.slice _ _ _,.slice aa an ac] 108 (0,0))]) ⟨hC,_,_,_,_,rfl,rfl,hI02,hQ3⟩ (by repeat (first | exact .refl | refine .keep ?_ | refine .drop ?_))
  refine Qr UR rfl rfl (fun b_5=>?_)
  refine Qb ?_
  refine zD hD ?_
  refine qd 6 rfl ?_
  refine zpc [_,_] rfl zfW .nil (zkb hQ.sl kB hA han y) ?_
  rintro vv4 I4 L4 hI4 ⟨a6,m6,c6,a7,m7,c7,rfl,rfl,hN,hm⟩
  have hQ:=hQ.mono hI4;have h2:=h2.mono hI4;have hyM:=hyM.mono hI4;have hI02:=hI02.trans hI4;have hC:=hC.trans hI4;have hD:=hD.trans hI4
  refine Qb ?_
  refine zD hD ?_
  refine zT 7 rfl (Qe rfl) hD ?_
  refine zT 8 rfl (Q2 rfl rfl) hD ?_
  refine zT 9 rfl (Q2 rfl rfl) hD ?_
  refine qd 11 rfl ?_
  refine zh Yt ?_
  refine Qb ?_
  refine zD hD ?_
  refine zT 12 rfl (Qv rfl) hD ?_
  refine Ql kA ?_
  refine Qt ?_
  refine Qd (zR (zM ?_))
  refine zC ?_
  refine zM ?_
  refine zpc [_,_] rfl Kt .nil ((UP I4 (UE qs2 ks y==0) (UE qs2 ks y)).m (fun v hv=>by have h9:=hv.2;simp [hz] at h9)) ?_
  rintro vv5 I5 L5 hI5 ⟨rfl,rfl,rfl,_⟩
  have hQ:=hQ.mono hI5;have h2:=h2.mono hI5;have hyM:=hyM.mono hI5;have hN:=hN.mono hI5;have hI02:=hI02.trans hI5;have hC:=hC.trans hI5
  obtain ⟨e7,e8,e9,hS9⟩:=hN.ok hz
  subst a7 m7 c7
  have hQ3:=zd7.snoc hQ (zz4 _) hS9 hyM hyD
  refine zN (Qi ?_)
  refine zV (Qc rfl Kw (fun hg=>by exact QA.imm h2.out rfl)) ?_
  refine zV (Qg rfl ZM (fun hg=>by exact Cells.g0) rfl) ?_
  refine zV (QG rfl) ?_
  refine zF Yk ?_
  refine zF YT ?_
  refine Vd rfl rfl Yt rfl rfl rfl rfl (by repeat (first | exact Upd.here | apply Upd.there | apply ZE)) ?_
  refine Qb (Qj ?_)
  exact zeO (L:=[(bc,.cells #[.slice pa pn pc,.slice _ _ _,.slice aa an ac] 108 (0,0))]) ⟨hC,_,_,_,_,rfl,rfl,hI02,hQ3⟩ (by repeat (first | exact .refl | refine .keep ?_ | refine .drop ?_))
 ·
  rintro bd I1 H1 L1 hI1 ⟨a,m,c,qs2,rfl,rfl,hI01,hQ⟩
  have hIc:=hIc.trans hI1
  refine Qj ?_
  exact zhj (L:=[(bc,.cells #[.slice pa pn pc,.slice _ _ _,.slice aa an ac] 108 (0,0))]) (ms:=[bd]) (fun a ha w hw=>zzM rfl a w) (fun w hw=>⟨_,I1,_,rfl,hIc,hw,rfl,_,_,_,_,rfl,hQ⟩)
 rintro cd bd pre I1 H1 L1 hI1 hpre hF;exact hF.elim
end
section
open Go Go.Kn Go.Proofs
theorem zeA {k:Nat}{i:Int}{t:Nt}(h:(k:Int)=i):Kq (k+1) i t=Kq k i t:=by
 unfold Kq
 rw [List.range_succ,List.filter_append,List.map_append]
 simp [h]
theorem zbT {k:Nat}{i:Int}{t:Nt}(h:(k:Int)≠i):Kq (k+1) i t=Kq k i t++[pkN i k t]:=by
 unfold Kq
 rw [List.range_succ,List.filter_append,List.map_append]
 simp [h]
theorem zhg (i : Int) (t : Nt) : ∀ {m k : Nat}, k ≤ m → Kq k i t <+: Kq m i t
  | 0, k, h => by obtain rfl : k = 0 := by omega
                  exact List.prefix_rfl
  | m + 1, k, h => by
    by_cases e : k = m + 1
    · subst e; exact List.prefix_rfl
    · have h1 := zhg i t (m := m) (k := k) kB
      by_cases hi : (m : Int) = i
      · rw [zeA hi]; exact h1
      · rw [zbT hi]; exact h1.trans (List.prefix_append ..)
theorem zes {k m:Nat}{i:Int}{t:Nt}(h:(k:Int)≠i)(hk:k<m):Kq k i t++[pkN i k t]<+:Kq m i t:=by
 rw [←zbT h];exact zhg i t hk
theorem zlY {I:Qu}{i k:Int}{t:Nt}{b c:Nat}(hok:Va.ok (KF t))(hS:Sl I 1 Jf (some ⟨b,0,none⟩) (zaB t).size c (K9 (zaB t))):zuP (W9 ⟨i,k,some ⟨b,0,none⟩,(zaB t).size,c,KA t⟩) (pkN i k t) I:=by
 have e:K9 (zaB t)=KA t:=V9 (Uv _ hok)
 rw [e] at hS
 exact ⟨_,rfl,⟨hS,Uv _ hok⟩,rfl⟩
theorem zh8 {α β:Type}(f:α→β){l:List α}{k:Nat}{x:α}(h:l[k]? =some x):(l.take k).map f++[f x]<+:l.map f:=by
 have h1:(l.take k).map f++[f x]=(l.take (k+1)).map f:=by rw [Zd h,List.map_append];rfl
 rw [h1]
 exact (List.take_prefix _ _).map f
end
end Go.Proofs.YtjblkbkmblkgoaaGreat
namespace Go.Kn
section
open Go
section
variable {g:World} {H H':Qu} {P:Program} {r:Option Nat} {N:Nat} {D:List Deferred} {Q:Exit→Act→World→Prop} {E:Env} {I:Qu} {b:Nat} {o:Obj} {e:Exit}
theorem zeE (hb:H b=some o)(h:At ⟨P,r,N,D,g,H⟩ Q e E I []):At ⟨P,r,N,D,g,znQ H b⟩ Q e E I [(b,o)]:=fun a w ha hw=>by
 have h1:St g I (JY (znQ H b) [(b,o)]) [] w:=St.hide hw
 rw [zjy hb] at h1
 exact h a w ha h1
end
section
variable {C:Cx} {Q:Exit→Act→World→Prop} {E E':Env} {I I' I0:Qu} {loc loc' loc0 L R:Loc} {ops:Array Oper} {rest:List Oper} {S:GS}
variable {d:Nat} {ty:TypeId} {pos:String} {af:Array Edge}
def zwy (g:World)(I0:Qu)(loc0:Loc):World→Prop:=fun w=>∃ H,St g I0 H loc0 w
def XH (C:Cx)(Q:Exit→Act→World→Prop)(ops:Array Oper)(I0:Qu)(loc0:Loc)(fuel:Nat)(listed:Array Bool)(S:GS)(E:Env)(I:Qu)(loc:Loc):Prop:=
 ∀ a w,K2 C.N C.D E a→Kr S a→St C.g I C.H loc w→Y2 C.r C.P .any ops Q (zwy C.g I0 loc0) fuel listed a w
theorem zaZ {id:Nat}{l:List Oper}(I0:Qu)(loc0:Loc)(hm:C.P.follows .mixedOrders=true)(h:XH C Q l.toArray I0 loc0 l.length (Array.replicate l.length false) [] E I loc):X C Q (.region id l.toArray true) E I loc:=fun a w ha hw=>
 wpIn_region_any hm (UZ _ _ _ _ (by simpa using h a _ ha trivial hw.drew))
theorem zsG (i:Nat){oi:Oper}{d:Nat}{v:Value}{fuel:Nat}{listed:Array Bool}(hi:ops[i]? =some oi)(hv:∀ H,QT {C with H:=H} S E I0 loc0 oi v)(hG:Zl ops S E oi)(hd:oi.dst=some d)(hN:Nat.blt d C.N=true)(hf:Z8 S E d=true)
  (hs:Region.noSelect ops=true)(hfr:Region.free .any ops listed i=true)(hr:(Region.ready .any ops listed).contains i=true)(hQ:Yd Q)(hI:HLe I0 I)(hl:J0 loc0 loc)
  (h:XH C Q ops I0 loc0 fuel (listed.setIfInBounds i true) (zdP S E d v) (zdb S E d v) I loc):XH C Q ops I0 loc0 (fuel+1) listed S E I loc:=by
 intro a w ha hg hw
 have hp:=Yw ha hg hN hf v
 refine Y1 (v:=bif Yf S then v else undef) hi (hv C.H).1 (Region.noSelect_spec hs) (fun c a w=>by rw [hd];exact hQ c a d _ w) fuel listed a w (Region.free_spec hi hfr) (by simpa using hr) ?_ ⟨C.H,(hw.mono hI).subL hl⟩ (by rw [hd];exact h _ _ hp.1 hp.2 hw)
 have hwt:=hG.wanted ha hg
 cases hc:Yf S with
 | true=>exact .inl ⟨by rw [hwt,hc],fun w' ⟨H,hw'⟩=>(hv H).2 a w' ha hg hc hw'⟩
 | false=>exact .inr ⟨by rw [hwt,hc],rfl⟩
theorem zx1 (i:Nat){oi:Oper}{d:Nat}{v:Value}{fuel:Nat}{listed:Array Bool}(hi:ops[i]? =some oi)(hv:∀ H,QT {C with H:=H} S E I0 loc0 oi v)(hI:HLe I0 I)(h:XH C Q ops I0 loc0 fuel (listed.setIfInBounds i true) (zdP S E d v) (zdb S E d v) I loc)(hG:Zl ops S E oi:=by exact .none rfl)(hd:oi.dst=some d:=by exact rfl)(hN:Nat.blt d C.N=true:=by exact rfl)(hf:Z8 S E d=true:=by exact rfl)
  (hs:Region.noSelect ops=true:=by kernel_rfl)(hfr:Region.free .any ops listed i=true:=by kernel_rfl)(hr:(Region.ready .any ops listed).contains i=true:=by kernel_rfl)(hQ:Yd Q:=by first | exact JK | (repeat (first | exact Uj | with_reducible refine Us ?_ | with_reducible refine Kk ?_)))(hl:J0 loc0 loc:=by repeat (first | exact .refl | exact QC | refine .keep ?_ | refine .drop ?_ | refine QN ?_)):XH C Q ops I0 loc0 (fuel+1) listed S E I loc:=zsG i hi hv hG hd hN hf hs hfr hr hQ hI hl h
theorem zo3 (i:Nat){v:Value}{fuel j dj:Nat}{want:Bool}{oj:Oper}{listed:Array Bool}{op:Op}(hi:ops[i]? =some ⟨some d,op,ty,pos,af,some (j,want)⟩)(hj:ops[j]? =some oj)(hd:oj.dst=some dj)(hlk:VC E dj=some (.bool want))
  (hv:∀ H,QT {C with H:=H} [] E I0 loc0 ⟨some d,op,ty,pos,af,none⟩ v)(hN:Nat.blt d C.N=true)
  (hs:Region.noSelect ops=true)(hfr:Region.free .any ops listed i=true)(hr:(Region.ready .any ops listed).contains i=true)(hQ:Yd Q)(hI:HLe I0 I)(hl:J0 loc0 loc)
  (h:XH C Q ops I0 loc0 fuel (listed.setIfInBounds i true) [] ((d,v)::E) I loc):XH C Q ops I0 loc0 (fuel+1) listed [] E I loc:=by
 intro a w ha hg hw
 have hp:=ha.put hN v
 refine Y1 (v:=v) hi (fun c e=>(hv C.H).1 c e) (Region.noSelect_spec hs) (fun c a w=>hQ c a d _ w) fuel listed a w (Region.free_spec hi hfr) (by simpa using hr) ?_ ⟨C.H,(hw.mono hI).subL hl⟩ (h _ _ hp trivial hw)
 have hG:Zl ops [(true,[])] E ⟨some d,op,ty,pos,af,some (j,want)⟩:=.some rfl hj hd (by simpa [Uo,ze9] using hlk) kH
 have hwt:=hG.wanted ha (show Kr [(true,[])] a from ⟨(fun _ _ e=>by cases e),trivial⟩)
 exact .inl ⟨by rw [hwt];rfl,fun w' ⟨H,hw'⟩=>(hv H).2 a w' ha trivial rfl hw'⟩
theorem zx2 (i dj:Nat){d:Nat}{v:Value}{fuel j:Nat}{want:Bool}{oj:Oper}{listed:Array Bool}{op:Op}(hi:ops[i]? =some ⟨some d,op,ty,pos,af,some (j,want)⟩)(hv:∀ H,QT {C with H:=H} [] E I0 loc0 ⟨some d,op,ty,pos,af,none⟩ v)(hI:HLe I0 I)(h:XH C Q ops I0 loc0 fuel (listed.setIfInBounds i true) [] ((d,v)::E) I loc)(hj:ops[j]? =some oj:=by exact rfl)(hd:oj.dst=some dj:=by exact rfl)(hlk:VC E dj=some (.bool want):=by exact rfl)(hN:Nat.blt d C.N=true:=by exact rfl)
  (hs:Region.noSelect ops=true:=by kernel_rfl)(hfr:Region.free .any ops listed i=true:=by kernel_rfl)(hr:(Region.ready .any ops listed).contains i=true:=by kernel_rfl)(hQ:Yd Q:=by first | exact JK | (repeat (first | exact Uj | with_reducible refine Us ?_ | with_reducible refine Kk ?_)))(hl:J0 loc0 loc:=by repeat (first | exact .refl | exact QC | refine .keep ?_ | refine .drop ?_ | refine QN ?_)):XH C Q ops I0 loc0 (fuel+1) listed [] E I loc:=zo3 i hi hj hd hlk hv hN hs hfr hr hQ hI hl h
theorem zn4 (i:Nat){j dj fuel:Nat}{want:Bool}{oj:Oper}{listed:Array Bool}{op:Op}{u:Value}(hi:ops[i]? =some ⟨some d,op,ty,pos,af,some (j,want)⟩)(hj:ops[j]? =some oj)(hd:oj.dst=some dj)(hlk:VC E dj=some u)(hu:ziI u want=true)
  (hdf:∀ c,op≠ .defer c)(hN:Nat.blt d C.N=true)
  (hs:Region.noSelect ops=true)(hfr:Region.free .any ops listed i=true)(hr:(Region.ready .any ops listed).contains i=true)(hQ:Yd Q)(hI:HLe I0 I)(hl:J0 loc0 loc)
  (h:XH C Q ops I0 loc0 fuel (listed.setIfInBounds i true) [] ((d,undef)::E) I loc):XH C Q ops I0 loc0 (fuel+1) listed [] E I loc:=by
 intro a w ha hg hw
 have hp:=ha.put hN undef
 refine Y1 (v:=undef) hi hdf (Region.noSelect_spec hs) (fun c a w=>hQ c a d _ w) fuel listed a w (Region.free_spec hi hfr) (by simpa using hr) ?_ ⟨C.H,(hw.mono hI).subL hl⟩ (h _ _ hp trivial hw)
 exact .inr ⟨by rw [za8 (o:=⟨some d,op,ty,pos,af,some (j,want)⟩) rfl hj hd ha hlk hu],rfl⟩
theorem zx3 (i dj:Nat){d j fuel:Nat}{want:Bool}{oj:Oper}{listed:Array Bool}{op:Op}{u:Value}(hI:HLe I0 I)(h:XH C Q ops I0 loc0 fuel (listed.setIfInBounds i true) [] ((d,undef)::E) I loc)(hi:ops[i]? =some ⟨some d,op,ty,pos,af,some (j,want)⟩:=by exact rfl)(hj:ops[j]? =some oj:=by exact rfl)(hd:oj.dst=some dj:=by exact rfl)(hlk:VC E dj=some u:=by exact rfl)(hu:ziI u want=true:=by exact rfl)
  (hdf:∀ c,op≠ .defer c:=by (intro c e;cases e))(hN:Nat.blt d C.N=true:=by exact rfl)(hs:Region.noSelect ops=true:=by kernel_rfl)(hfr:Region.free .any ops listed i=true:=by kernel_rfl)(hr:(Region.ready .any ops listed).contains i=true:=by kernel_rfl)(hQ:Yd Q:=by first | exact JK | (repeat (first | exact Uj | with_reducible refine Us ?_ | with_reducible refine Kk ?_)))(hl:J0 loc0 loc:=by repeat (first | exact .refl | exact QC | refine .keep ?_ | refine .drop ?_ | refine QN ?_)):XH C Q ops I0 loc0 (fuel+1) listed [] E I loc:=zn4 i hi hj hd hlk hu hdf hN hs hfr hr hQ hI hl h
theorem zcF (i:Nat){oi:Oper}{fuel:Nat}{listed:Array Bool}(hi:ops[i]? =some oi)(hr:Region.ready .any ops listed=[i])
  (h:XO C (fun e a w=>match e with | .normal=>zwy C.g I0 loc0 w∧Y2 C.r C.P .any ops Q (zwy C.g I0 loc0) fuel (listed.setIfInBounds i true) a w | e=>Q e a w) ops [oi] S E I loc):XH C Q ops I0 loc0 (fuel+1) listed S E I loc:=by
 intro a w ha hg hw
 refine ⟨(fun h0=>by rw [hr] at h0;cases h0),fun j hj=>?_⟩
 rw [hr] at hj
 obtain rfl:=List.mem_singleton.1 hj
 have:=h a w ha hg hw
 simp only [wpListIn] at this
 unfold wpOpIn
 simp only [hi]
 split
 ·
  rename_i hwt
  simp only [hwt,if_true] at this
  unfold Oper.wpIn at*
  refine ⟨fun _ _=>trivial,?_⟩
  have h2:=this.2
  generalize (oi.semAt (FR C.r).round a.eval).run C.P w=q at*
  cases q with
  | ok n w'=>cases n<;>exact h2
  | halt x w'=>cases x<;>exact h2
 ·
  rename_i hwt
  simp only [hwt] at this
  exact this
theorem zie {i fuel:Nat}{listed:Array Bool}(hI:HLe I0 I)(hl:J0 loc0 loc)(h:XH C Q ops I0 loc0 fuel (listed.setIfInBounds i true) [] E I loc):
  At C (fun e a w=>match e with | .normal=>zwy C.g I0 loc0 w∧Y2 C.r C.P .any ops Q (zwy C.g I0 loc0) fuel (listed.setIfInBounds i true) a w | e=>Q e a w) .normal E I loc:=
 fun a w ha hw=>⟨⟨C.H,(hw.mono hI).subL hl⟩,h a w ha trivial hw⟩
theorem zdt {fuel:Nat}{listed:Array Bool}(hr:Region.ready .any ops listed=[])(h:At C Q .normal E I loc):XH C Q ops I0 loc0 fuel listed S E I loc:=fun a w ha hg hw=>by
 cases fuel with
 | zero=>exact ⟨hr,h a w ha hw⟩
 | succ n=>exact ⟨fun _=>h a w ha hw,by rw [hr];simp⟩
end
end
end Go.Kn
namespace Go.Proofs.YtjblkbkmblkgoaaGreat
section
open Go Go.Kn Go.Proofs
theorem zk5:BsT Tryz.prog 80 5 9:=⟨kA,kA,kA⟩
theorem Kj:QJ Tryz.prog 47 1 1:=.of kA
theorem zdE:QJ Tryz.prog 47 4 4:=.of kA
theorem zul:Fun Tryz.prog 111:=.of Tryz.func111 kA kA
theorem zuw {I:Qu}{bc b2 b3:Nat}{pa qa aa:Option Addr}{pn pc qn qc an ac:Nat}(x:Ev)(h2:BxI I b2 (.cells #[Zw bc] 105 (0,0)))(h3:BxI I b3 (.cells (zeV x).toArray 47 (0,0)))(hT:NtM I x.note)(hok9:Va.ok (KF x.note))(hpn:pn≤100000):zeJ Tryz.prog 111 [Zw b2,Zw b3] I [(bc,.cells #[.slice pa pn pc,.slice qa qn qc,.slice aa an ac] 108 (0,0))] zuP (Kq pn x.peer x.note):=by
 intro g l J Jx hJm hY I0 H w h0 hJ hb hw
 have hbc:=hb _ (List.mem_singleton.2 rfl)
 have hw:=hw.peek hbc
 have hI0:=zz4 I0
 have hCI:=zz4 I0
 have h2:=h2.mono h0;have h3:=h3.mono h0;have hT:=hT.mono h0
 refine qe Tryz.func111 Tryz.ntmps111 hw ?_
 refine zR ?_
 refine zV (Qc rfl Kw (fun hg=>by exact QA.imm h2.out rfl)) ?_
 refine zV (QG rfl) ?_
 refine zF Yk ?_
 refine zF YB ?_
 refine zL JM ?_
 refine zQ Jk ?_
 refine zM (Qb ?_)
 refine zeE hbc ?_
 refine Qd (Qx ?_)
 refine zfV (fun m E I' H' loc'=>∃ k:Nat,m=pn-k∧E=[(0,.func (.yield l) #[] #[]),(1,Zw b2),(2,Zw b3),(10,.int .i64 pn),(11,.int .i64 k)]∧loc'=[]∧HLe I0 I'∧k≤pn∧J (Kq k x.peer x.note) I' H') _ _ _ ⟨0,rfl,rfl,rfl,zz4 _,Nat.zero_le _,hJ⟩ (.cons rfl (.cons rfl (.cons rfl (.cons rfl (.cons rfl .nil))))) rfl ?_
 rintro m E J9 H' loc' ⟨k,rfl,rfl,rfl,hI1,hk,hJk⟩
 have h3:=h3.mono hI1;have hT:=hT.mono hI1
 have hI0:=hI1
 have hCI:=zz4 J9
 refine zR (zC (zN (Qo ?_)))
 refine zI ?_ ?_<;>intro hc12
 ·
  have hlt:k<pn:=by have h:=hc12;simp at h;omega
  refine Qp (Qd (Qo (Qx (zR (zM ?_)))))
  refine zA (zN (Qo ?_))
  by_cases hne:(k:Int)=x.peer
  ·
   have hk0:((k:Int) != x.peer)=false:=by simp [hne]
   have hD:=zz4 J9
   refine Zn ?_
   refine zaZ J9 [] mixed ?_
   refine zx1 0 rfl (fun _=>Qe rfl) hD ?_
   refine zx1 1 rfl (fun _=>Qa rfl Kj) hD ?_
   refine zx1 2 rfl (fun _=>Qc rfl Qm (fun hg=>by exact QA.imm h3.out rfl)) hD ?_
   refine zx1 3 rfl (fun _=>Qz rfl rfl rfl) hD ?_
   rw [hk0]
   refine zx1 4 rfl (fun _=>Qe rfl) hD ?_
   refine zx3 5 18 hD ?_
   refine zx3 6 18 hD ?_
   refine zx3 7 18 hD ?_
   refine zx3 8 18 hD ?_
   refine zx3 9 18 hD ?_
   refine zx3 10 18 hD ?_
   refine zx3 11 18 hD ?_
   refine zx3 12 18 hD ?_
   refine zx3 13 18 hD ?_
   refine zx3 14 18 hD ?_
   refine zx3 15 18 hD ?_
   refine zx1 16 rfl (fun _=>Z6 rfl rfl rfl) hD ?_
   refine zdt kA ?_
   refine Qt ?_
   refine Qd ?_
   refine zI ?_ ?_<;>intro hc30
   ·
    cases hc30
   refine Qp (Qj (Qd (Qi (zB ?_))))
   refine zM (Qb ?_)
   first
   | exact za2 rfl rfl rfl _ [] ⟨pn-(k+1),kB,k+1,rfl,rfl,rfl,hI0,kB,by rw [zeA hne];exact hJm _ _ _ _ hCI hJk⟩ (.cons rfl (.cons rfl (.cons rfl (.cons rfl (.cons rfl .nil))))) kL
  have hk0:((k:Int) != x.peer)=true:=by simp [hne]
  have hD:=zz4 J9
  refine Zn ?_
  refine zaZ J9 [] mixed ?_
  refine zx1 0 rfl (fun _=>Qe rfl) hD ?_
  refine zx1 1 rfl (fun _=>Qa rfl Kj) hD ?_
  refine zx1 2 rfl (fun _=>Qc rfl Qm (fun hg=>by exact QA.imm h3.out rfl)) hD ?_
  refine zx1 3 rfl (fun _=>Qz rfl rfl rfl) hD ?_
  rw [hk0]
  refine zx1 4 rfl (fun _=>Qe rfl) hD ?_
  refine zx2 5 18 rfl (fun _=>Qe rfl) hD ?_
  refine zx2 6 18 rfl (fun _=>Qa rfl Kj) hD ?_
  refine zx2 7 18 rfl (fun _=>Qc rfl Qm (fun hg=>by exact QA.imm h3.out rfl)) hD ?_
  refine zx2 8 18 rfl (fun _=>Qe rfl) hD ?_
  refine zx2 9 18 rfl (fun _=>Qa rfl zdE) hD ?_
  refine zx2 10 18 rfl (fun _=>Qg rfl Q7 (fun hg=>by exact Cells.part (pre:=[_,_,_,_]) (vs:=Q4 x.note) (post:=[]) (BxI.cells (vs:=zeV x) h3) rfl) rfl) hD ?_
  refine zcF 11 rfl kA ?_
  refine QP (dj:=18) rfl rfl rfl ?_
  refine qcV (vs:=[_]) rfl zfv (zmz x.note hT.nd hT.nn hT.ok hT.len) ?_
  refine Qb ?_
  refine zie hD kF ?_
  refine zcF 12 rfl kA ?_
  refine QP (dj:=18) rfl rfl rfl ?_
  refine WV (s:=zaB x.note) rfl zk5 rfl rfl (fun b9 c9 I1 hI1 hB=>?_)
  have hI0:=hI0.trans hI1;have hCI:=hCI.trans hI1;have hD:=hD.trans hI1
  refine Qb ?_
  refine zie hD kF ?_
  refine zx2 13 18 rfl (fun _=>QI (ps:=[(0,_),(1,_),(2,_)]) [_,_,_] zkA rfl rfl) hD ?_
  refine zcF 14 rfl kA ?_
  refine QP (dj:=18) rfl rfl rfl ?_
  refine zbk (vs:=[_]) (Post:=fun b I2 H2=>if b then J ((Kq k x.peer x.note)++[pkN x.peer k x.note]) I2 H2 else Jx ((Kq k x.peer x.note)++[pkN x.peer k x.note]) I2 H2) rfl rfl rfl rfl (hY _ _ _ _ _ (zes hne hlt) (h0.trans hI0) (zlY hok9 hB) (hJm _ _ _ _ hCI hJk)) ?_
  rintro t9 I2 H9 hI2 hP9
  have hI0:=hI0.trans hI2;have hD:=hD.trans hI2
  refine Qb ?_
  refine zie hD kF ?_
  refine zx2 15 18 rfl (fun _=>Zs rfl) hD ?_
  refine zx1 16 rfl (fun _=>QW rfl rfl rfl) hD ?_
  refine zdt kA ?_
  refine Qt ?_
  refine Qd ?_
  refine zI ?_ ?_<;>intro hc30
  ·
   have ht:t9=false:=by simpa using hc30
   subst ht
   have hJ2:Jx ((Kq k x.peer x.note)++[pkN x.peer k x.note]) _ H9:=hP9
   refine Qs (Qk (Qf (Qf (Qk ?_))))
   exact Yi rfl (fun w hw=>⟨_,_,H9,rfl,hI0,by exact hw,.inr ⟨_,zes hne hlt,hJ2⟩⟩)
  have ht:t9=true:=by simpa using hc30
  subst ht
  have hJ2:J ((Kq k x.peer x.note)++[pkN x.peer k x.note]) _ H9:=hP9
  refine Qp (Qj (Qd (Qi (zB ?_))))
  refine zM (Qb ?_)
  first
  | exact za2 rfl rfl rfl _ [] ⟨pn-(k+1),kB,k+1,rfl,rfl,rfl,hI0,kB,by rw [zbT hne];exact hJ2⟩ (.cons rfl (.cons rfl (.cons rfl (.cons rfl (.cons rfl .nil))))) kL
 have hge:pn≤k:=by have h:=hc12;simp at h;omega
 obtain rfl:k=pn:=kB
 refine Q6 (Qn (Qn (Qw ?_)))
 exact YG (Yi rfl (fun w hw=>⟨_,_,_,rfl,hI1,hw,.inl hJk⟩))
end
section
open Go Go.Kn Go.Proofs
theorem zdz:QJ Tryz.prog 47 2 2:=.of kA
theorem zrY:Fun Tryz.prog 112:=.of Tryz.func112 kA kA
theorem zsC {I:Qu}{bc b2 b3:Nat}{pa qa aa:Option Addr}{pn pc qn qc an ac:Nat}{ps:List Pe}{pe:Pe}(x:Ev)(h2:BxI I b2 (.cells #[Zw bc] 105 (0,0)))(h3:BxI I b3 (.cells (zeV x).toArray 47 (0,0)))(hPs:Sl I 1 Xd pa pn pc ps)(hpr:0≤x.peer∧x.peer<(pn:Int))(hpe:ps[x.peer.toNat]? =some pe)(hN:zbd I pe.a pe.n pe.c pe.notes)(hf:∀ y∈pe.notes,QM y=true)(hpn:pn≤100000)(hnn:pe.n≤100000):zeJ Tryz.prog 112 [Zw b2,Zw b3] I [(bc,.cells #[.slice pa pn pc,.slice qa qn qc,.slice aa an ac] 108 (0,0))] zuP (pe.notes.map (pkN x.peer x.to_)):=by
 intro g l J Jx hJm hY I0 H w h0 hJ hb hw
 have hbc:=hb _ (List.mem_singleton.2 rfl)
 have hw:=hw.peek hbc
 have hI0:=zz4 I0
 have hCI:=zz4 I0
 have h2:=h2.mono h0;have h3:=h3.mono h0;have hPs:=hPs.mono h0;have hN:=hN.mono h0
 have hNl:=hN.sl.len
 refine qe Tryz.func112 Tryz.ntmps112 hw ?_
 refine Qo ?_
 have hD:=zz4 I0
 refine Zn ?_
 refine zaZ I0 [(bc,.cells #[.slice pa pn pc,.slice qa qn qc,.slice aa an ac] 108 (0,0))] mixed ?_
 refine zx1 0 rfl (fun _=>Qc rfl Kw (fun hg=>by exact QA.imm h2.out rfl)) hD ?_
 refine zx1 1 rfl (fun _=>QG rfl) hD ?_
 refine zx1 2 rfl (fun _=>Qa rfl Yk) hD ?_
 refine zx1 3 rfl (fun _=>Qa rfl YB) hD ?_
 refine zx1 4 rfl (fun _=>Qc rfl JM (fun hg=>by exact QA.h0 rfl)) hD ?_
 refine zx1 5 rfl (fun _=>Qa rfl Kj) hD ?_
 refine zx1 6 rfl (fun _=>Qc rfl Qm (fun hg=>by exact QA.imm h3.out rfl)) hD ?_
 refine zx1 7 rfl (fun _=>zX Jk hPs) hD ?_
 refine zx1 8 rfl (fun _=>Qa rfl ZB) hD ?_
 refine zx1 9 rfl (fun _=>Qc rfl YY (fun hg=>by exact zzX hPs hpe rfl)) hD ?_
 refine zx1 10 rfl (fun _=>QU rfl Q8) hD ?_
 refine zx1 11 rfl (fun _=>Qe rfl) hD ?_
 refine zdt kA ?_
 refine Qt ?_
 refine zeE hbc ?_
 refine Qd (Qx ?_)
 refine zfV (fun m E I' H' loc'=>∃ k:Nat,m=pe.n-k∧E=[(0,.func (.yield l) #[] #[]),(1,Zw b2),(2,Zw b3),(15,.slice pe.a pe.n pe.c),(16,.int .i64 pe.n),(17,.int .i64 k)]∧loc'=[]∧HLe I0 I'∧k≤pe.n∧J ((pe.notes.take k).map (pkN x.peer x.to_)) I' H') _ _ _ ⟨0,rfl,rfl,rfl,zz4 _,Nat.zero_le _,hJ⟩ (.cons rfl (.cons rfl (.cons rfl (.cons rfl (.cons rfl (.cons rfl .nil)))))) rfl ?_
 rintro m E J9 H' loc' ⟨k,rfl,rfl,rfl,hI1,hk,hJk⟩
 have h3:=h3.mono hI1;have hN:=hN.mono hI1
 have hI0:=hI1
 have hCI:=zz4 J9
 refine zR (zC (zN (Qo ?_)))
 refine zI ?_ ?_<;>intro hc18
 ·
  have hlt:k<pe.n:=by have h:=hc18;simp at h;omega
  obtain ⟨y,hy⟩:∃ y,pe.notes[k]? =some y:=⟨_,List.getElem?_eq_getElem kB⟩
  have hym:=List.mem_of_getElem? hy
  have hM:=hN.m y hym (hf y hym)
  refine Qp (Qd (Qo (Qx (zR ?_))))
  refine zV (QE rfl rfl Q8 hN.sl (fun hg=>kB)) ?_
  refine zV (Qg rfl Q7 (fun hg=>by exact zz5 hN.sl hy) rfl) ?_
  refine Qr Wn rfl rfl (fun b_5=>?_)
  refine zh VG ?_
  refine zN (Qo ?_)
  have hD:=zz4 J9
  refine Zn ?_
  refine zaZ J9 [(b_5,.cells (Q4 y).toArray 45 (0,0))] mixed ?_
  refine zx1 0 rfl (fun _=>Qe rfl) hD ?_
  refine zx1 1 rfl (fun _=>Qa rfl Kj) hD ?_
  refine zx1 2 rfl (fun _=>Qc rfl Qm (fun hg=>by exact QA.imm h3.out rfl)) hD ?_
  refine zx1 3 rfl (fun _=>Qa rfl zdz) hD ?_
  refine zx1 4 rfl (fun _=>Qc rfl Qm (fun hg=>by exact QA.imm h3.out rfl)) hD ?_
  refine zx1 5 rfl (fun _=>Qg rfl Q7 (fun hg=>by exact Cells.g0) rfl) hD ?_
  refine zcF 6 rfl kA ?_
  refine qcV (vs:=[_]) rfl zfv (zmz y hM.nd hM.nn hM.ok hM.len) ?_
  refine Qb ?_
  refine zie hD kF ?_
  refine zcF 7 rfl kA ?_
  refine WV (s:=zaB y) rfl zk5 rfl rfl (fun b9 c9 I1 hI1 hB=>?_)
  have hI0:=hI0.trans hI1;have hCI:=hCI.trans hI1;have hD:=hD.trans hI1
  refine Qb ?_
  refine zie hD kF ?_
  refine zx1 8 rfl (fun _=>QI (ps:=[(0,_),(1,_),(2,_)]) [_,_,_] zkA rfl rfl) hD ?_
  refine zcF 9 rfl kA ?_
  refine zbk (vs:=[_]) (Post:=fun b I2 H2=>if b then J (((pe.notes.take k).map (pkN x.peer x.to_))++[pkN x.peer x.to_ y]) I2 H2 else Jx (((pe.notes.take k).map (pkN x.peer x.to_))++[pkN x.peer x.to_ y]) I2 H2) rfl rfl rfl rfl (hY _ _ _ _ _ (zh8 _ hy) (h0.trans hI0) (zlY hM.ok hB) (hJm _ _ _ _ hCI hJk)) ?_
  rintro t9 I2 H9 hI2 hP9
  have hI0:=hI0.trans hI2;have hD:=hD.trans hI2
  refine Qb ?_
  refine zie hD kF ?_
  refine zx1 10 rfl (fun _=>Zs rfl) hD ?_
  refine zdt kA ?_
  refine Qt ?_
  refine Qd ?_
  refine zI ?_ ?_<;>intro hc31
  ·
   have ht:t9=false:=by simpa using hc31
   subst ht
   have hJ2:Jx (((pe.notes.take k).map (pkN x.peer x.to_))++[pkN x.peer x.to_ y]) _ H9:=hP9
   refine Qs (Qk (Qf (Qf (Qk ?_))))
   exact Yi rfl (fun w hw=>⟨_,_,H9,rfl,hI0,by exact hw.drop,.inr ⟨_,zh8 _ hy,hJ2⟩⟩)
  have ht:t9=true:=by simpa using hc31
  subst ht
  have hJ2:J (((pe.notes.take k).map (pkN x.peer x.to_))++[pkN x.peer x.to_ y]) _ H9:=hP9
  refine Qp (Qj (Qd (Qi (zB ?_))))
  refine zM (Qb ?_)
  exact za2 rfl rfl rfl _ [] ⟨pe.n-(k+1),kB,k+1,rfl,rfl,rfl,hI0,kB,by rw [Zd hy,List.map_append];exact hJ2⟩ (.cons rfl (.cons rfl (.cons rfl (.cons rfl (.cons rfl (.cons rfl .nil)))))) kL
 have hge:pe.n≤k:=by have h:=hc18;simp at h;omega
 rw [ZV hNl hge] at hJk
 refine Q6 (Qn (Qn (Qw ?_)))
 exact YG (Yi rfl (fun w hw=>⟨_,_,_,rfl,hI1,hw,.inl hJk⟩))
end
end Go.Proofs.YtjblkbkmblkgoaaGreat
section
namespace Go.Kn
open Go
theorem Ug.frz {P:Program}{f:FuncId}{args:List Value}{I:Qu}{L:Loc}{Post Post':Value→Qu→Loc→Prop}{Bad:Value→Prop}(h:Ug P f args I L Post Bad)
  (hp:∀ v I' L',HLe I I'→Post v I' L'→∃ L1 b o,ZQ L' b o L1∧∀ I2,HLe I' I2→I2 b=some o→Post' v I2 L1):Ug P f args I L Post' Bad:=fun g H w hw=>
 (h g H w hw).mono fun _ _ x=>x.elim (fun ⟨v,I',L',he,hI,hs,p⟩=>by
  obtain ⟨L1,b,o,ht,k⟩:=hp v I' L' hI p
  obtain ⟨h1,h2,h3⟩:=hs.freeze ht
  exact .inl ⟨v,_,L1,he,hI.trans h2,h1,k _ h2 h3⟩) .inr
theorem Ug.wide {P:Program}{f:FuncId}{args:List Value}{I:Qu}{L:Loc}{Post:Value→Qu→Loc→Prop}{Bad:Value→Prop}(h:Ug P f args I L Post Bad)(R:Loc):Ug P f args I (L++R) (fun v I' L'=>∃ L1,L'=L1++R∧Post v I' L1) Bad:=fun g H w hw=>
 (h.frame Q0 hw).mono fun _ _ x=>x.elim (fun ⟨v,I',L',he,hI,hs,p⟩=>.inl ⟨v,I',_,he,hI,hs,_,rfl,p⟩) fun ⟨v,he,hv,hs⟩=>.inr ⟨v,he,hv,hs.drop⟩
end Go.Kn
namespace Go.Proofs.YtjblkbkmblkgoaaGreat
open Go Go.Kn Go.Proofs
structure znn (I:Qu)(pn pc:Nat)(qa:Option Addr)(qn qc:Nat)(aa:Option Addr)(an ac:Nat)(cur:List Value)(ps:List Pe)(qs:List Pk)(ks:List (Int×Int)):Prop where
 p:zja I cur ps
 pl:ps.length=pn
 pc:pn≤pc
 m:1≤pn∧pn≤24
 q:Sl I 3 Zz qa qn qc qs
 pk:∀ q∈qs,PkM I q
 k:Sl I 2 K6 aa an ac ks
 net:UG qs ks=0
 bad:∀ q∈qs,U0 pn q=false
 an:an≤100000
 dl:∀ q∈qs,q.n≤100000
 sm:qn+24≤4096∧∀ pe∈ps,qn+pe.n≤4096
theorem znn.mono {I I':Qu}{pn pc:Nat}{qa:Option Addr}{qn qc:Nat}{aa:Option Addr}{an ac:Nat}{cur:List Value}{ps:List Pe}{qs:List Pk}{ks:List (Int×Int)}(h:znn I pn pc qa qn qc aa an ac cur ps qs ks)(hI:HLe I I'):znn I' pn pc qa qn qc aa an ac cur ps qs ks:=
 ⟨h.p.mono hI,h.pl,h.pc,h.m,h.q.mono hI,fun q hq=>(h.pk q hq).mono hI,h.k.mono hI,h.net,h.bad,h.an,h.dl,h.sm⟩
structure EvM (I:Qu)(x:Ev):Prop where
 nd:Nd I x.note.pt
 w:NtW x.note
theorem EvM.mono {I I':Qu}{x:Ev}(h:EvM I x)(hI:HLe I I'):EvM I' x:=⟨h.nd.mono hI,h.w⟩
theorem EvM.msg {I:Qu}{x:Ev}(h:EvM I x)(hf:QM x.note=true):NtM I x.note:=zeC h.w h.nd hf
theorem EvM.form {I:Qu}{x:Ev}(h:EvM I x):QM (YN x.note)=QM x.note:=Jt (by
 have h1:Sl I 1 Z5 x.note.pt.a x.note.pt.n x.note.pt.c x.note.pt.needs:=h.nd
 exact h1.len.symm)
theorem zl2 {a b:Int}(h:lkV (zqa a b) (zfg a b)=true):0≤a∧0≤b∧a<24∧b<24:=by
 unfold lkV zqa zfg at h
 simp only [Bool.and_eq_true,decide_eq_true_eq] at h
 split at h<;>split at h<;>omega
theorem ztu {qs:List Pk}{ks:List (Int×Int)}(h:UG qs ks=0):∀ q∈qs,0≤q.frm∧0≤q.to_:=fun q hq=>by
 have h1:=(ze5 h).2.1 q hq
 unfold pkV at h1
 rw [Bool.and_eq_true] at h1
 exact ⟨(zl2 h1.1).1,(zl2 h1.1).2.1⟩
theorem zer {I:Qu}{bp pn pc t:Nat}{cur:List Value}{ps:List Pe}(hP:zja I cur ps)(hpl:ps.length=pn)(hpc:pn≤pc)(hb:I bp=some (.cells cur.toArray t (0,0))):Sl I 1 Xd (some ⟨bp,0,none⟩) pn pc ps:=
 ⟨hpl,hpc,fun _=>rfl,fun k x hx j u hu=>by
  have hj:j=0:=by have:=(List.getElem?_eq_some_iff.1 hu).1;simp [Xd] at this;omega
  subst hj
  have hu:u= .slice x.a x.n x.c:=by simpa [Xd] using hu.symm
  subst hu
  refine QA.imm hb ?_
  show zi2 _ (0+k*1+0)=_
  rw [Nat.zero_add,Nat.mul_one,Nat.add_zero,Jp]
  exact hP.at_ k x hx⟩
def zr3 (bc bp pn pc:Nat)(aa:Option Addr)(an ac:Nat)(ks:List (Int×Int))(R:Int×Rd)(v:Value)(I':Qu)(L':Go.Kn.Loc):Prop:=
 v= .tuple #[]∧R.1=0∧∃ a m c ps' qs',L'=[(bc,.cells #[.slice (some ⟨bp,0,none⟩) pn pc,.slice a m c,.slice aa an ac] 108 (0,0))]∧RmP I' (some ⟨bp,0,none⟩) pn pc a m c aa an ac ps' qs' ks∧VV ps' qs' ks=R.2
def zr7 (R:Int×Rd)(v:Value):Prop:=v= .iface 50 (.int .i64 R.1)∧R.1≠0
theorem UT {R:Int×Rd}{v:Value}{e:Int}{r:Rd}(h:R=(e,r))(hv:v= .iface 50 (.int .i64 e))(he:e≠0):zr7 R v:=by subst h;exact ⟨hv,he⟩
theorem zl1 {bc bp pn pc:Nat}{aa:Option Addr}{an ac:Nat}{ks:List (Int×Int)}{R:Int×Rd}{I':Qu}{a:Option Addr}{m c:Nat}{ps:List Pe}{qs D:List Pk}{r:Rd}(h:R=(0,r))(hpe:Sl I' 1 Xd (some ⟨bp,0,none⟩) pn pc ps)(hnt:∀ x∈ps,zbd I' x.a x.n x.c x.notes)
  (hS:zd7 I' a m c qs D)(hk:Sl I' 2 K6 aa an ac ks)(e:r=⟨dtP ps,D,ks⟩):zr3 bc bp pn pc aa an ac ks R (.tuple #[]) I' [(bc,.cells #[.slice (some ⟨bp,0,none⟩) pn pc,.slice a m c,.slice aa an ac] 108 (0,0))]:=by
 subst h;subst e
 exact ⟨rfl,rfl,a,m,c,ps,qs,rfl,⟨hpe,hnt,hS.sl,hS.pk,hk⟩,by unfold VV;rw [hS.dat]⟩
/-! ### Telling -/
section
variable {ps:List Pe} {qs:List Pk} {ks:List (Int×Int)} {x:Ev} {I:Qu}
theorem zah {i:Int}:isP (VV ps qs ks) i=true↔0≤i∧i<(ps.length:Int):=by rw [zgb];simp [VV,zdv]
theorem zwO (h:¬(0≤x.peer∧x.peer<(ps.length:Int))):UD (VV ps qs ks) (YU x)=(1,zeroR):=by
 unfold UD
 rw [if_neg]
 intro h2
 exact h (zah.1 h2)
theorem zwT (hE:EvM I x)(h:0≤x.peer∧x.peer<(ps.length:Int))(h2:QM x.note=false):UD (VV ps qs ks) (YU x)=(570,zeroR):=by
 have e:QM (YU x).note=false:=by show QM (YN x.note)=false;rw [hE.form,h2]
 have ei:isP (VV ps qs ks) (YU x).peer=true:=zah.2 h
 unfold UD
 rw [if_pos ei,e];rfl
theorem zxU (hE:EvM I x)(h:0≤x.peer∧x.peer<(ps.length:Int))(h2:QM x.note=true)(h3:zcr (dtP ps) x.peer.toNat (YN x.note)=none):UD (VV ps qs ks) (YU x)=(2,zeroR):=by
 have e:QM (YU x).note=true:=by show QM (YN x.note)=true;rw [hE.form,h2]
 have e2:zcr (VV ps qs ks).ps (YU x).peer.toNat (YU x).note=none:=h3
 have ei:isP (VV ps qs ks) (YU x).peer=true:=zah.2 h
 unfold UD
 rw [if_pos ei,if_pos e,e2]
theorem zu8 (hE:EvM I x)(h:0≤x.peer∧x.peer<(ps.length:Int))(h2:QM x.note=true){P:List (List Nt)}(h3:zcr (dtP ps) x.peer.toNat (YN x.note)=some P):UD (VV ps qs ks) (YU x)=(0,⟨P,qs.map VD++Kq ps.length x.peer x.note,ks⟩):=by
 have e:QM (YU x).note=true:=by show QM (YN x.note)=true;rw [hE.form,h2]
 have e2:zcr (VV ps qs ks).ps (YU x).peer.toNat (YU x).note=some P:=h3
 have ei:isP (VV ps qs ks) (YU x).peer=true:=zah.2 h
 unfold UD
 rw [if_pos ei,if_pos e,e2]
 simp only [VV,zdv];rfl
theorem zki (h:¬(isP (VV ps qs ks) x.peer=true∧isP (VV ps qs ks) x.to_=true∧x.peer≠x.to_)):zay (VV ps qs ks) (YU x)=(1,zeroR):=by
 unfold zay
 rw [if_neg]
 intro h2
 simp only [Bool.and_eq_true] at h2
 exact h ⟨h2.1.1,h2.1.2,bne_iff_ne.1 h2.2⟩
theorem zu4 (h1:0≤x.peer∧x.peer<(ps.length:Int))(h2:0≤x.to_∧x.to_<(ps.length:Int))(h3:x.peer≠x.to_){pe:Pe}(hpe:ps[x.peer.toNat]? =some pe):zay (VV ps qs ks) (YU x)=(0,⟨dtP ps,qs.map VD++pe.notes.map (pkN x.peer x.to_),ks⟩):=by
 have e3:(x.peer != x.to_)=true:=by simp [h3]
 have e1:(isP (VV ps qs ks) (YU x).peer&&isP (VV ps qs ks) (YU x).to_&&(YU x).peer != (YU x).to_)=true:=by
  show (isP (VV ps qs ks) x.peer&&isP (VV ps qs ks) x.to_&&x.peer != x.to_)=true
  rw [zah.2 h1,zah.2 h2,e3];rfl
 have e2:(VV ps qs ks).ps.getD (YU x).peer.toNat []=pe.notes.map YN:=by
  show (dtP ps).getD x.peer.toNat []=_
  rw [List.getD_eq_getElem?_getD,zbN hpe];rfl
 unfold zay
 rw [if_pos e1,e2,List.map_map];rfl
theorem zxc (hpk:∀ q∈qs,PkM I q)(h:atE qs ks x.at_≠0):zcC (VV ps qs ks) (YU x)=(atE qs ks x.at_,zeroR):=by
 have e:atE (qs.map VD) ks x.at_=atE qs ks x.at_:=WG hpk ks x.at_
 show (if atE (qs.map VD) ks x.at_≠0 then (atE (qs.map VD) ks x.at_,zeroR) else _)=_
 rw [e,if_pos h]
theorem zqy (hpk:∀ q∈qs,PkM I q)(h:atE qs ks x.at_=0):zcC (VV ps qs ks) (YU x)=(0,⟨dtP ps,(qs.eraseIdx x.at_.toNat).map VD,ks⟩):=by
 have e:atE (qs.map VD) ks x.at_=atE qs ks x.at_:=WG hpk ks x.at_
 show (if atE (qs.map VD) ks x.at_≠0 then (atE (qs.map VD) ks x.at_,zeroR) else (0,⟨dtP ps,(qs.map VD).eraseIdx x.at_.toNat,ks⟩))=_
 rw [e,if_neg (by simpa using h),Xg]
theorem zxG (hpk:∀ q∈qs,PkM I q)(h:WF qs ks x.at_≠0):zcD (VV ps qs ks) (YU x)=(WF qs ks x.at_,zeroR):=by
 have e:WF (qs.map VD) ks x.at_=WF qs ks x.at_:=zhm hpk ks x.at_
 show (if WF (qs.map VD) ks x.at_≠0 then (WF (qs.map VD) ks x.at_,zeroR) else _)=_
 rw [e,if_pos h]
theorem zq0 (hpk:∀ q∈qs,PkM I q)(h:WF qs ks x.at_=0):zcD (VV ps qs ks) (YU x)=(0,⟨dtP ps,(qs++[atP qs ks x.at_]).map VD,ks⟩):=by
 have e:WF (qs.map VD) ks x.at_=WF qs ks x.at_:=zhm hpk ks x.at_
 show (if WF (qs.map VD) ks x.at_≠0 then (WF (qs.map VD) ks x.at_,zeroR) else (0,⟨dtP ps,qs.map VD++[atP (qs.map VD) ks x.at_],ks⟩))=_
 rw [e,if_neg (by simpa using h),zgE hpk,List.map_append];rfl
end
theorem zqw {m:Nat}(hm:m≤24){i k:Int}{t:Nt}(hi:0≤i∧i<(m:Int))(hk:0≤k∧k<(m:Int))(hne:i≠k)(hl:(KA t).length≤900000):pkV (pkN i k t)=true:=by
 unfold pkV pkN lkV zqa zfg
 simp only [Bool.and_eq_true,decide_eq_true_eq]
 split<;>split<;>omega
end Go.Proofs.YtjblkbkmblkgoaaGreat
end
namespace Go.Proofs.YtjblkbkmblkgoaaGreat
section
open Go Go.Kn Go.Proofs
theorem zfU:Fun Tryz.prog 106:=.of Tryz.func106 kA kA
theorem zkz:Fun Tryz.prog 110:=.of Tryz.func110 kA kA
theorem zuD {I:Qu}{bc bp:Nat}{qa aa:Option Addr}{pn pc qn qc an ac:Nat}{cur:List Value}{ps:List Pe}{qs:List Pk}{ks:List (Int×Int)}(hX:znn I pn pc qa qn qc aa an ac cur ps qs ks)(x:Ev)(hE:EvM I x):Ug Tryz.prog 46 [Zw bc,.agg (zeV x).toArray] I [(bc,.cells #[.slice (some ⟨bp,0,none⟩) pn pc,.slice qa qn qc,.slice aa an ac] 108 (0,0)),(bp,.cells (cur).toArray 59 (0,0))] (zr3 bc bp pn pc aa an ac ks (UD (VV ps qs ks) (YU x))) (zr7 (UD (VV ps qs ks) (YU x))):=by
 intro g H w hw
 refine qe Tryz.func46 Tryz.ntmps46 hw ?_
 have hIc:=zz4 I
 refine zR ?_
 refine QO rfl rfl rfl (fun b_2=>?_)
 refine QO rfl rfl rfl (fun b_3=>?_)
 refine Qb ?_
 refine QF .here (fun I1 hI1 hb1=>?_)
 have hX:=hX.mono hI1;have hE:=hE.mono hI1;have hIc:=hIc.trans hI1
 have h3:=BxI.of hb1
 refine QF .here (fun I2 hI2 hb2=>?_)
 have hX:=hX.mono hI2;have hE:=hE.mono hI2;have h3:=h3.mono hI2;have hIc:=hIc.trans hI2
 have h2:=BxI.of hb2
 refine Qd (zR ?_)
 refine zV (Qc rfl Kw (fun hg=>by exact QA.imm h2.out rfl)) ?_
 refine zF Kj ?_
 refine zV (Qc rfl Qm (fun hg=>by exact QA.imm h3.out rfl)) ?_
 refine zx5 [_,_] rfl zfU (by repeat (first | exact .cons .here .nil | exact Zk | exact Q0 | apply Q9 | apply Q5)) (zge x.peer) ?_ (fun pv hpv=>by refine zx6 ?_;exact (UT (zwO (by rw [hX.pl];exact hpv.2)) hpv.1 kD))
 rintro vv3 I3 L3 hI3 ⟨rfl,rfl,rfl,hp1peer,hp2peer⟩
 have hX:=hX.mono hI3;have hE:=hE.mono hI3;have h3:=h3.mono hI3;have h2:=h2.mono hI3;have hIc:=hIc.trans hI3
 have hprpeer:0≤x.peer∧x.peer<(ps.length:Int):=by rw [hX.pl];exact ⟨hp1peer,hp2peer⟩
 have hplx:=hX.pl
 have hto:x.peer.toNat<pn:=kB
 have hti:x.peer=((x.peer.toNat:Nat):Int):=(Int.toNat_of_nonneg hprpeer.1).symm
 refine zN (zR ?_)
 refine zF zdE ?_
 refine zV (Qg rfl Q7 (fun hg=>by exact Cells.part (pre:=[_,_,_,_]) (vs:=Q4 x.note) (post:=[]) (BxI.cells (vs:=zeV x) h3) rfl) rfl) ?_
 refine qcV (vs:=[_]) rfl zbp (K5 x.note hE.nd) ?_
 refine zx5 [_,_] rfl Kt .nil (UP I3 (QM x.note) 570) ?_ (fun pv hpv=>by refine zx6 ?_;exact (UT (zwT hE hprpeer hpv.2) hpv.1 kD))
 rintro vv4 I4 L4 hI4 ⟨rfl,rfl,rfl,hf⟩
 have hX:=hX.mono hI4;have hE:=hE.mono hI4;have h3:=h3.mono hI4;have h2:=h2.mono hI4;have hIc:=hIc.trans hI4
 refine zN (zR ?_)
 refine zV (Qc rfl Kw (fun hg=>by exact QA.imm h2.out rfl)) ?_
 refine zF Kj ?_
 refine zV (Qc rfl Qm (fun hg=>by exact QA.imm h3.out rfl)) ?_
 refine zF zdE ?_
 refine zV (Qg rfl Q7 (fun hg=>by exact Cells.part (pre:=[_,_,_,_]) (vs:=Q4 x.note) (post:=[]) (BxI.cells (vs:=zeV x) h3) rfl) rfl) ?_
 refine zx5 [_,_,_] rfl zmt (by repeat (first | exact .cons .here .nil | exact Zk | exact Q0 | apply Q9 | apply Q5)) (zgR hti hX.p hX.pl hto (by have h:=hX.m;omega) (hE.msg hf) hf) ?_ (fun pv hpv=>by refine zx6 ?_;exact (UT (zxU hE hprpeer hf hpv.2) hpv.1 kD))
 rintro vv5 I5 L5 hI5 ⟨rfl,cur2,ps2,rfl,hP2,hpl2,hlr⟩
 have hX:=hX.mono hI5;have hE:=hE.mono hI5;have h3:=h3.mono hI5;have h2:=h2.mono hI5;have hIc:=hIc.trans hI5
 refine zN (Qi ?_)
 refine zV (Qc rfl Kw (fun hg=>by exact QA.imm h2.out rfl)) ?_
 refine zV (Yz (us:=[]) (vs:=[_,_]) rfl rfl) ?_
 refine QQ (b:=bp) (by repeat (first | exact ZQ.here | apply ZQ.there)) (fun I6 hI6 hb6=>?_)
 have hX:=hX.mono hI6;have hE:=hE.mono hI6;have h3:=h3.mono hI6;have h2:=h2.mono hI6;have hP2:=hP2.mono hI6;have hIc:=hIc.trans hI6
 have hPs:=zer hP2 hpl2 hX.pc hb6
 refine zpc [_,_] rfl zkz (by exact .cons .here .nil) (zqO (zd7.mk hX.q hX.pk rfl) hX.k hX.an (f:=111) (cap:=[Zw b_2,Zw b_3]) zul (zuw x h2 h3 (hE.msg hf) (hE.msg hf).ok (by have h:=hX.m;omega)) (by rw [W0 hX.pk];exact hX.net) (fun p hp=>by obtain ⟨k,hk,hne,rfl⟩:=zhv hp;exact zqw hX.m.2 kB ⟨kB,kB⟩ (fun e=>hne e.symm) (hE.msg hf).len) (by rw [List.length_map,hX.q.len];have h8:=zhF pn x.peer x.note;have h9:=hX.sm.1;have h7:=hX.m;omega)) ?_
 rintro vv7 I7 L7 hI7 ⟨rfl,a6,m6,c6,qs6,rfl,hS6⟩
 have hX:=hX.mono hI7;have hE:=hE.mono hI7;have hP2:=hP2.mono hI7;have hPs:=hPs.mono hI7;have hIc:=hIc.trans hI7
 refine Qb ?_
 exact YG (Yi rfl (fun w hw=>.inl ⟨_,I7,_,rfl,hIc,by exact hw,zl1 (zu8 hE hprpeer hf hlr) hPs hP2.nt hS6 hX.k (by rw [hX.pl])⟩))
theorem zt6 {I:Qu}{bc bp:Nat}{qa aa:Option Addr}{pn pc qn qc an ac:Nat}{cur:List Value}{ps:List Pe}{qs:List Pk}{ks:List (Int×Int)}(hX:znn I pn pc qa qn qc aa an ac cur ps qs ks)(x:Ev)(hE:EvM I x):Ug Tryz.prog 47 [Zw bc,.agg (zeV x).toArray] I [(bc,.cells #[.slice (some ⟨bp,0,none⟩) pn pc,.slice qa qn qc,.slice aa an ac] 108 (0,0)),(bp,.cells (cur).toArray 59 (0,0))] (zr3 bc bp pn pc aa an ac ks (zay (VV ps qs ks) (YU x))) (zr7 (zay (VV ps qs ks) (YU x))):=by
 intro g H w hw
 refine qe Tryz.func47 Tryz.ntmps47 hw ?_
 have hIc:=zz4 I
 refine zR ?_
 refine QO rfl rfl rfl (fun b_2=>?_)
 refine QO rfl rfl rfl (fun b_3=>?_)
 refine Qb ?_
 refine QF .here (fun I1 hI1 hb1=>?_)
 have hX:=hX.mono hI1;have hIc:=hIc.trans hI1
 have h3:=BxI.of hb1
 refine QF .here (fun I2 hI2 hb2=>?_)
 have hX:=hX.mono hI2;have h3:=h3.mono hI2;have hIc:=hIc.trans hI2
 have h2:=BxI.of hb2
 refine Qd (zR ?_)
 refine zV (Qc rfl Kw (fun hg=>by exact QA.imm h2.out rfl)) ?_
 refine zF Kj ?_
 refine zV (Qc rfl Qm (fun hg=>by exact QA.imm h3.out rfl)) ?_
 refine zx5 [_,_] rfl zfU (by repeat (first | exact .cons .here .nil | exact Zk | exact Q0 | apply Q9 | apply Q5)) (zge x.peer) ?_ (fun pv hpv=>by refine zx6 ?_;exact (UT (zki (fun h9=>by have h8:=zah.1 h9.1;rw [hX.pl] at h8;exact hpv.2 h8)) hpv.1 kD))
 rintro vv3 I3 L3 hI3 ⟨rfl,rfl,rfl,hp1peer,hp2peer⟩
 have hX:=hX.mono hI3;have h3:=h3.mono hI3;have h2:=h2.mono hI3;have hIc:=hIc.trans hI3
 have hprpeer:0≤x.peer∧x.peer<(ps.length:Int):=by rw [hX.pl];exact ⟨hp1peer,hp2peer⟩
 refine zN (zR ?_)
 refine zV (Qc rfl Kw (fun hg=>by exact QA.imm h2.out rfl)) ?_
 refine zF zdz ?_
 refine zV (Qc rfl Qm (fun hg=>by exact QA.imm h3.out rfl)) ?_
 refine zx5 [_,_] rfl zfU (by repeat (first | exact .cons .here .nil | exact Zk | exact Q0 | apply Q9 | apply Q5)) (zge x.to_) ?_ (fun pv hpv=>by refine zx6 ?_;exact (UT (zki (fun h9=>by have h8:=zah.1 h9.2.1;rw [hX.pl] at h8;exact hpv.2 h8)) hpv.1 kD))
 rintro vv4 I4 L4 hI4 ⟨rfl,rfl,rfl,hp1to_,hp2to_⟩
 have hX:=hX.mono hI4;have h3:=h3.mono hI4;have h2:=h2.mono hI4;have hIc:=hIc.trans hI4
 have hprto_:0≤x.to_∧x.to_<(ps.length:Int):=by rw [hX.pl];exact ⟨hp1to_,hp2to_⟩
 refine zN (zR ?_)
 refine zF Kj ?_
 refine zV (Qc rfl Qm (fun hg=>by exact QA.imm h3.out rfl)) ?_
 refine zF zdz ?_
 refine zV (Qc rfl Qm (fun hg=>by exact QA.imm h3.out rfl)) ?_
 refine zC ?_
 refine zx5 [_,_] rfl Kt .nil (UP I4 (x.peer != x.to_) 1) ?_ (fun pv hpv=>by refine zx6 ?_;exact (UT (zki (fun h9=>h9.2.2 (by simpa using hpv.2))) hpv.1 kD))
 rintro vv5 I5 L5 hI5 ⟨rfl,rfl,rfl,hne0⟩
 have hX:=hX.mono hI5;have h3:=h3.mono hI5;have h2:=h2.mono hI5;have hIc:=hIc.trans hI5
 have hne:x.peer≠x.to_:=by simpa using hne0
 have hplx:=hX.pl
 obtain ⟨pe,hpe⟩:∃ y,ps[x.peer.toNat]? =some y:=⟨_,List.getElem?_eq_getElem kB⟩
 have hpm:=List.mem_of_getElem? hpe
 have hvv:=Yc (hX.p.ok pe hpm)
 refine zN (Qi ?_)
 refine zV (Qc rfl Kw (fun hg=>by exact QA.imm h2.out rfl)) ?_
 refine zV (Yz (us:=[]) (vs:=[_,_]) rfl rfl) ?_
 refine QQ (b:=bp) (by repeat (first | exact ZQ.here | apply ZQ.there)) (fun I6 hI6 hb6=>?_)
 have hX:=hX.mono hI6;have h3:=h3.mono hI6;have h2:=h2.mono hI6;have hIc:=hIc.trans hI6
 have hPs:=zer hX.p hX.pl hX.pc hb6
 refine zpc [_,_] rfl zkz (by exact .cons .here .nil) (zqO (zd7.mk hX.q hX.pk rfl) hX.k hX.an (f:=112) (cap:=[Zw b_2,Zw b_3]) zrY (zsC x h2 h3 hPs kB hpe (hX.p.nt pe hpm) hvv.2.1 (by have h:=hX.m;omega) (by have h:=hX.sm.2 pe hpm;omega)) (by rw [W0 hX.pk];exact hX.net) (fun p hp=>by obtain ⟨y,hy,rfl⟩:=List.mem_map.1 hp;exact zqw hX.m.2 kB kB hne ((hX.p.nt pe hpm).m y hy (hvv.2.1 y hy)).len) (by rw [List.length_map,List.length_map,hX.q.len,(hX.p.nt pe hpm).sl.len];exact hX.sm.2 pe hpm)) ?_
 rintro vv7 I7 L7 hI7 ⟨rfl,a6,m6,c6,qs6,rfl,hS6⟩
 have hX:=hX.mono hI7;have hPs:=hPs.mono hI7;have hIc:=hIc.trans hI7
 refine Qb ?_
 exact YG (Yi rfl (fun w hw=>.inl ⟨_,I7,_,rfl,hIc,by exact hw,zl1 (zu4 hprpeer hprto_ hne hpe) hPs hX.p.nt hS6 hX.k rfl⟩))
theorem ziS {I:Qu}{bc bp:Nat}{qa aa:Option Addr}{pn pc qn qc an ac:Nat}{cur:List Value}{ps:List Pe}{qs:List Pk}{ks:List (Int×Int)}(hX:znn I pn pc qa qn qc aa an ac cur ps qs ks)(x:Ev):Ug Tryz.prog 48 [Zw bc,.agg (zeV x).toArray] I [(bc,.cells #[.slice (some ⟨bp,0,none⟩) pn pc,.slice qa qn qc,.slice aa an ac] 108 (0,0)),(bp,.cells (cur).toArray 59 (0,0))] (zr3 bc bp pn pc aa an ac ks (zco (VV ps qs ks) (YU x))) (zr7 (zco (VV ps qs ks) (YU x))):=by
 have hm:=hX.m;have hs:=hX.sm.1
 refine Ug.frz (zjx hX.p hX.pl kB hX.q kB hX.pk hX.k hX.an x hX.bad hX.dl (ztu hX.net)) fun v I' L' hI h=>?_
 obtain ⟨rfl,h0,cur',ps',a,m,c,qs',rfl,hP',hpl',hS',hsub,e⟩:=h
 exact ⟨_,bp,_,.there .here,fun I2 h2 hb=>⟨rfl,h0,a,m,c,ps',qs',rfl,⟨zer (hP'.mono h2) hpl' hX.pc hb,(hP'.mono h2).nt,hS'.mono h2,fun q hq=>(hX.pk q (hsub q hq)).mono (hI.trans h2),hX.k.mono (hI.trans h2)⟩,e.symm⟩⟩
theorem zrx {I:Qu}{bc bp:Nat}{qa aa:Option Addr}{pn pc qn qc an ac:Nat}{cur:List Value}{ps:List Pe}{qs:List Pk}{ks:List (Int×Int)}(hX:znn I pn pc qa qn qc aa an ac cur ps qs ks)(x:Ev):Ug Tryz.prog 49 [Zw bc,.agg (zeV x).toArray] I [(bc,.cells #[.slice (some ⟨bp,0,none⟩) pn pc,.slice qa qn qc,.slice aa an ac] 108 (0,0)),(bp,.cells (cur).toArray 59 (0,0))] (zr3 bc bp pn pc aa an ac ks (zcC (VV ps qs ks) (YU x))) (zr7 (zcC (VV ps qs ks) (YU x))):=by
 have hm:=hX.m;have hs:=hX.sm.1
 refine Ug.frz (((zwC hX.q kB hX.k hX.an x).wide [(bp,.cells (cur).toArray 59 (0,0))]).mono (fun _ _ _ _ h=>h) fun v hv=>UT (zxc hX.pk hv.2) hv.1 hv.2) fun v I' L' hI h=>?_
 obtain ⟨L1,rfl,rfl,h0,a,m,c,rfl,hS'⟩:=h
 exact ⟨_,bp,_,.there .here,fun I2 h2 hb=>⟨rfl,by rw [zqy hX.pk h0],a,m,c,ps,qs.eraseIdx x.at_.toNat,rfl,⟨zer (hX.p.mono (hI.trans h2)) hX.pl hX.pc hb,(hX.p.mono (hI.trans h2)).nt,hS'.mono h2,fun q hq=>(hX.pk q (zbo q hq)).mono (hI.trans h2),hX.k.mono (hI.trans h2)⟩,by rw [zqy hX.pk h0];rfl⟩⟩
theorem zlI {I:Qu}{bc bp:Nat}{qa aa:Option Addr}{pn pc qn qc an ac:Nat}{cur:List Value}{ps:List Pe}{qs:List Pk}{ks:List (Int×Int)}(hX:znn I pn pc qa qn qc aa an ac cur ps qs ks)(x:Ev):Ug Tryz.prog 50 [Zw bc,.agg (zeV x).toArray] I [(bc,.cells #[.slice (some ⟨bp,0,none⟩) pn pc,.slice qa qn qc,.slice aa an ac] 108 (0,0)),(bp,.cells (cur).toArray 59 (0,0))] (zr3 bc bp pn pc aa an ac ks (zcD (VV ps qs ks) (YU x))) (zr7 (zcD (VV ps qs ks) (YU x))):=by
 have hm:=hX.m;have hs:=hX.sm.1
 refine Ug.frz (((zps hX.q kB hX.k hX.an x).wide [(bp,.cells (cur).toArray 59 (0,0))]).mono (fun _ _ _ _ h=>h) fun v hv=>UT (zxG hX.pk hv.2) hv.1 hv.2) fun v I' L' hI h=>?_
 obtain ⟨L1,rfl,rfl,h0,a,m,c,rfl,hS'⟩:=h
 exact ⟨_,bp,_,.there .here,fun I2 h2 hb=>⟨rfl,by rw [zq0 hX.pk h0],a,m,c,ps,qs++[atP qs ks x.at_],rfl,⟨zer (hX.p.mono (hI.trans h2)) hX.pl hX.pc hb,(hX.p.mono (hI.trans h2)).nt,hS'.mono h2,fun q hq=>(List.mem_append.1 hq).elim (fun h=>(hX.pk q h).mono (hI.trans h2)) (fun h=>by rw [List.mem_singleton.1 h];exact (zp9 hX.pk ks x.at_).mono (hI.trans h2)),hX.k.mono (hI.trans h2)⟩,by rw [zq0 hX.pk h0];rfl⟩⟩
end
end Go.Proofs.YtjblkbkmblkgoaaGreat
