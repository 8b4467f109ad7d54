/- topOrigins_holds, part E of the proof: what its theorems say holds without further conditions. -/
import Derived.Test.YtmbjmjbjdgjonaaGreatDoorProg
import Derived.KernelRfl
import Derived.Test.YtmbjmjbjdgjonaaGreatDoorTOD
namespace Go.Proofs.YtmbjmjbjdgjonaaGreatDoor
section
open Go Go.Kn Go.Proofs
theorem zAa:Fun Tryz.prog 19:=.of Tryz.func19 kA kA
theorem V3:Fun Tryz.prog 20:=.of Tryz.func20 kA kA
theorem zBJ:Fun Tryz.prog 21:=.of Tryz.func21 kA kA
theorem zsB:Fun Tryz.prog 22:=.of Tryz.func22 kA kA
theorem zAd:MkT Tryz.prog 75 76 24 (.slice none 0 0):=⟨kA,kA,U⟩
theorem ziO:SlT Tryz.prog 75 76 1:=.of kA
theorem zCf:SzT Tryz.prog 76 1:=.of kA
variable{I:Qt}{av:Option Addr}{n c:Nat}
set_option maxHeartbeats 40000000 in
theorem zgS    {xs:List Wr} (hW0:SlW I av n c xs) (hn:n<=100000):ZQ Tryz.prog 6 [.slice av n c] I [] (zcE (zaM xs) (Yj xs)):=by
 intro g H w hw;refine zay Tryz.func6 U Tryz.ntmps6 U hw ?_;have hIc:=zGN I;obtain ⟨ws,hW⟩:=id hW0;have hH:=hW.1;have hlW:=hW.len;subst hlW;refine zR (zA ?_);refine zA (zN (Ql (zR ?_)));refine zM ?_;refine qcV (vs:=[_]) U zAa (zBI hW0 hn) ?_;refine zA ?_;refine zN (zR ?_);refine zM ?_;refine zC ?_;refine zM ?_;refine Q8 2 U U U ?_;refine zJ (Qj U) ?_;refine zJ (ZX U VK) ?_;refine zJ (QI U U U) ?_;refine ZO U U U U U ?_;refine zN ?_;refine zI ?_ ?_<;>intro hc33
 ·rw [ziq] at hc33;refine zR (zM ?_);refine zA ?_;refine zA (zN (Qr (Qc ?_)))
  first
  | exact Ye (L:=[]) (fun a ha w hw=>ztG U U U a ha w) (fun w hw=>⟨_,I,[],U,hIc,hw.drop,by rw [(zwu hc33).1];exact zcE.empty (zwu hc33).2⟩)
 rw [ziq] at hc33;obtain ⟨hck,hx1,hx24,hrs⟩:=zmW hc33;obtain ⟨w0,x0,hx0,hv0,e01,e02,hR0⟩:=hW.at (k:=0) kB;have hcs0:x0.rs.map Vm=csW xs 0:=(zcH hv0).symm;have hM64:=XX (i:=0) hrs;have hR0l:=hR0.len;have hx0b:=hrs x0 (jd hv0);refine Qo (Qa (zR (zM ?_)));refine zV (zX VK hH) ?_;refine zV (Qk U zcA (fun hg=>by exact zGO hH hx0) U) ?_;refine zpc [_] U V3 .nil (YS hR0 kB _ _) ?_;rintro vv1 I1 L1 hI1 ⟨rfl,av4,c4,rfl,hT⟩;have hW:=hW.mono hI1;have hH:=hH.mono hI1;have hIc:=hIc.trans hI1;rw [hcs0] at hT ⊢;refine zA ?_;refine zN (zR ?_);refine zM ?_;refine zQ VK ?_;refine Q7 zAd U U kB kE U U (fun b_41=>?_);refine zA (Qb ?_);rw [show ((xs.length:Nat):Int).toNat=xs.length from U,zj6];refine Qa (zR (zM ?_));refine zQ Qx ?_;refine zB ?_;refine Q7 Vi U U kB kE U U (fun b_45=>?_);refine Qs YI U U (fun b_6=>?_);refine zS Ze ?_;refine Qb ?_;have e1:(((csW xs 0).length:Nat):Int)+1=(((csW xs 0).length+1:Nat):Int):=rfl;rw [e1,show (((csW xs 0).length+1:Nat):Int).toNat=(csW xs 0).length+1 from U,Q5,Zj,Xp];refine QQ (b:=b_6) (by repeat (first | exact Zf.here | apply Zf.there)) (fun I2 hI2 hb2=>?_);have hW:=hW.mono hI2;have hH:=hH.mono hI2;have hT:=hT.mono hI2;have hIc:=hIc.trans hI2;have hC6:QB I2 [] b_6 0 (.slice (some ⟨b_45,0,none⟩) ((csW xs 0).length+1) ((csW xs 0).length+1)):=.imm hb2 U;refine Qa (Ql (Ql ?_));have hw1:=zwr (al:=alW xs) zdD;refine KA (loc':=(b_45,.cells (Zm (Vx ((csW xs 0).length+1) (Y7 (wdF (alW xs) 1)))) 3 (0,0))::(b_41,.cells (Jo (List.replicate xs.length ⟨none,0,0⟩)) 76 (0,0))::MB []) (by rw [hw1];rfl) ?_;refine Qf (zA (zN (Qp ?_)));refine Ud [(0,_),(2,_),(4,_),(5,_),(6,_)] (.cons U (.cons U (.cons U (.cons U (.cons U .nil))))) (fun T L0 mz ms E I' loc'=>∃ (i:Nat) (hs:List Hd),mz=xs.length-i/\E=(7,.int .i64 i)::T/\HLe I2 I'/\(b_45,.cells (Zm (Vx ((csW xs 0).length+1) (Y7 (wdF (alW xs) i)))) 3 (0,0))::(b_41,.cells (Jo hs) 76 (0,0))::MB ms=loc'/\i<=xs.length/\1<=i/\hs.length=xs.length/\PrQ I' xs hs i) _ _ _ _ ⟨1,_,U,U,zGN _,U,hx1,js _,by rw [List.length_replicate],PrQ.start hx1⟩ (.cons U (.cons U (.cons U (.cons U (.cons U (.cons U .nil)))))) (zGN _) U ?_;rintro mz ms E J3 loc' ⟨i,hs,rfl,rfl,hJ,rfl,hi,hi1,hhl,hPr⟩;have hW:=hW.mono hJ;have hH:=hH.mono hJ;have hT:=hT.mono hJ;have hC6:=hC6.mono hJ;have hIc:=hIc.trans hJ;have hB0:=hJ;refine Ql (zR (zM ?_));refine zM ?_;refine zQ VK ?_;refine zC (zN ?_);refine zI ?_ ?_<;>intro hc49
 ·have hlt_i:i<xs.length:=(by have h:=hc49;simp at h;omega);obtain ⟨w,x,hx,hv,e1,e2,hR⟩:=hW.at hlt_i;have hcsi:x.rs.map Vm=csW xs i:=(zcH hv).symm;have hMi:=XX (i:=i) hrs;have hRl:=hR.len;have hxb:=hrs x (jd hv);refine Qo (Qa (Ql (Qp (zR (zM ?_)))));refine zM ?_;refine zM ?_;refine zM ?_;refine zM ?_;refine zV (zX VK hH) ?_;refine zV (Qk U zcA (fun hg=>by exact zGO hH hx) U) ?_;refine zpc [_] U V3 .nil (YS hR kB _ _) ?_;rintro vv4 I4 L4 hI4 ⟨rfl,av7,c7,rfl,hT7⟩;have hT:=hT.mono hI4;have hC6:=hC6.mono hI4;have hPr:=hPr.mono hI4;have hB0:=hB0.trans hI4;rw [hcsi] at hT7 ⊢;refine zpc [_,_] U zBJ .nil (zCi hT hT7 kB kB) ?_;rintro vv5 I5 L5 hI5 ⟨rfl,z8,av8,c8,rfl,hP8⟩;have hC6:=hC6.mono hI5;have hPr:=hPr.mono hI5;have hB0:=hB0.trans hI5;refine zM ?_;refine zE ?_;refine zE ?_;refine zE ?_;refine zV (Q2 U U ziO (fun hg=>kB)) ?_;refine Z0 U U zCf U U (by repeat (first | exact Upd.here | apply Upd.there | apply QH)) (zGD kB) ?_;refine Qb ?_;rw [show (#[Value.int .i64 z8,Value.slice av8 (JF (csW xs 0) (csW xs i)).length c8,Value.int .i64 (zaR (csW xs 0) (csW xs i))]:Array Value)[1]=Value.slice av8 (JF (csW xs 0) (csW xs i)).length c8 from U,zjT];have hPr2:=hPr.put kB kB hP8;have hs2_at:(hs.set i ⟨av8,(JF (csW xs 0) (csW xs i)).length,c8⟩)[i]? =some ⟨av8,(JF (csW xs 0) (csW xs i)).length,c8⟩:=Bk kB;have hpfe:pfW xs i=JF (csW xs 0) (csW xs i):=(by unfold pfW;rw [ja kB]);have hPi:Sl I5 2 zdJ av8 (JF (csW xs 0) (csW xs i)).length c8 (pfW xs i):=(by rw [hpfe];exact hP8);have hpl:=(zaC (xs:=xs) (i:=i)).2;have hpr:=(zfy (a:=(csW xs 0)) (b:=(csW xs i))).2;refine Qa (zR (zM ?_));refine zQ Qx ?_;refine zB ?_;refine Q7 Vi U U kB kE U U (fun b_69=>?_);refine Qs YI U U (fun b_8=>?_);refine zS Ze ?_;refine Qb ?_;have e1:(((csW xs 0).length:Nat):Int)+1=(((csW xs 0).length+1:Nat):Int):=rfl;rw [e1,show (((csW xs 0).length+1:Nat):Int).toNat=(csW xs 0).length+1 from U,Q5,Zj,Xp];refine QQ (b:=b_8) (by repeat (first | exact Zf.here | apply Zf.there)) (fun I6 hI6 hb6=>?_);have hC6:=hC6.mono hI6;have hPr2:=hPr2.mono hI6;have hPi:=hPi.mono hI6;have hB0:=hB0.trans hI6;have hC8:QB I6 [] b_8 0 (.slice (some ⟨b_69,0,none⟩) ((csW xs 0).length+1) ((csW xs 0).length+1)):=.imm hb6 U;refine Qa (zR (zM ?_));refine zM ?_;refine zV (Q2 U U ziO (fun hg=>kB)) ?_;refine zV (Qd U ziU (fun hg=>by exact zGH (zGH (zpo hs2_at)))) ?_;refine zpc [_] U zsB .nil (znu _ _ _ _) ?_;rintro vv7 I7 L7 hI7 ⟨rfl,b1,rfl,hb1⟩;have hC6:=hC6.mono hI7;have hPr2:=hPr2.mono hI7;have hPi:=hPi.mono hI7;have hC8:=hC8.mono hI7;have hB0:=hB0.trans hI7;refine zN (Qp ?_);refine KA (loc':=[]++(((b_69,.cells (Zm (Vx ((csW xs 0).length+1) (Y7 (cnt [])))) 3 (0,0))::(b_45,.cells (Zm (Vx ((csW xs 0).length+1) (Y7 (wmx (wdF (alW xs) i) [])))) 3 (0,0))::(b_41,.cells (Jo (hs.set i ⟨av8,(JF (csW xs 0) (csW xs i)).length,c8⟩)) 76 (0,0))::[])++MB ms)) (by rw [zkt];rfl) ?_;refine XS (K:=[]) (L:=(b_69,.cells (Zm (Vx ((csW xs 0).length+1) (Y7 (cnt [])))) 3 (0,0))::(b_45,.cells (Zm (Vx ((csW xs 0).length+1) (Y7 (wmx (wdF (alW xs) i) [])))) 3 (0,0))::(b_41,.cells (Jo (hs.set i ⟨av8,(JF (csW xs 0) (csW xs i)).length,c8⟩)) 76 (0,0))::[]) (en1:=zE5) (en2:=zFf) (xs:=alW xs i) (fun pre I' loc'=>loc'=(b_69,.cells (Zm (Vx ((csW xs 0).length+1) (Y7 (cnt pre)))) 3 (0,0))::(b_45,.cells (Zm (Vx ((csW xs 0).length+1) (Y7 (wmx (wdF (alW xs) i) pre)))) 3 (0,0))::(b_41,.cells (Jo (hs.set i ⟨av8,(JF (csW xs 0) (csW xs i)).length,c8⟩)) 76 (0,0))::[]) (fun _ _ _ _=>False) (fun pre x E2 I2 loc2=>E2=[(6,QZ b_6),(8,QZ b_8),(9,.int .i64 x.1)]/\loc2=(b_69,.cells (Zm (Vx ((csW xs 0).length+1) (Y7 (cnt pre)))) 3 (0,0))::(b_45,.cells (Zm (Vx ((csW xs 0).length+1) (Y7 (wmx (wdF (alW xs) i) pre)))) 3 (0,0))::(b_41,.cells (Jo (hs.set i ⟨av8,(JF (csW xs 0) (csW xs i)).length,c8⟩)) 76 (0,0))::[]) U ztj (zni hPi kB (zAr hrs i) hb1) U U U ?_ ?_ ?_ ?_
  ·rintro l9 pre x I1 loc1 H1 hpre hI1 rfl;refine Qf (zA (Qb ?_));exact K9 _ ⟨zGN _,U,U⟩ (.cons U (.cons U (.cons U .nil)))
  ·rintro l9 pre x E2 I2 loc2 H2 hpre hI2 ⟨rfl,rfl⟩;have hC6:=hC6.mono hI2;have hC8:=hC8.mono hI2;obtain ⟨x1,x2,x3,x4,x5⟩:=zsM hpre;have hcb:=jT (@zg4 (alW xs i) x.1.toNat) (znD hrs i);have hnc:=zd2 (f:=cnt pre) (a:=x.1.toNat) (B:=128) kB;refine Qp (zR ?_);refine zV (Qd U QK (fun hg=>by exact hC8.any)) ?_;refine zM ?_;refine zV (Q2 U U Qx (fun hg=>kB)) ?_;refine zV (Qd U Qq (fun hg=>by exact JJ (Va kB))) ?_;refine zB ?_;refine zV (Q2 U U Qx (fun hg=>kB)) ?_;refine Z0 U U ZD U U (by repeat (first | exact Upd.here | apply Upd.there | apply QH)) (zCK kO) ?_;refine Qb ?_;rw [WV,Kv,show Y7 (cnt pre) x.1.toNat+1=((cnt pre x.1.toNat+1:Nat):Int) from U,zbC,<-Wm];refine Qa ?_;have hD:=zGN I2;refine YZ ?_;refine ZA I2 [(b_69,.cells (Zm (Vx ((csW xs 0).length+1) (Y7 (cnt (pre++[x]))))) 3 (0,0))] mixed ?_;refine zT 0 U (Qd U QK (fun hg=>by exact hC6.any)) hD ?_;refine zT 1 U (Qj U) hD ?_;refine zT 2 U (Qd U QK (fun hg=>by exact hC6.any)) hD ?_;refine zT 3 U (Qj U) hD ?_;refine zT 4 U (Q2 U U Qx (fun hg=>kB)) hD ?_;refine zT 6 U (Qd U QK (fun hg=>by exact hC8.any)) hD ?_;refine zT 7 U (Qj U) hD ?_;refine zT 8 U (Q2 U U Qx (fun hg=>kB)) hD ?_;refine zT 9 U (Qd U Qq (fun hg=>by exact JJ (Va kB))) hD ?_;refine qd 5 U ?_;refine zV (Qd U Qq (fun hg=>by exact zGH (JJ (Va kB)))) ?_;refine Qb ?_;refine zD hD ?_;refine zT 10 U (Vl U U) hD ?_;refine zT 11 U (Q2 U U Qx (fun hg=>kB)) hD ?_;refine qd 12 U ?_;refine Z0 U U ZD U U (by repeat (first | exact Upd.here | apply Upd.there | apply QH)) (zCK kO) ?_;refine Qb ?_;refine zD hD ?_;refine Qz kA ?_;refine QD ?_;rw [zrc,WV,Kv,zbC,zqA rfl];refine Qg ?_;exact KH ⟨zGN _,U⟩ .refl
  ·rintro bd I1 loc1 hI1 rfl;have hPr2:=hPr2.mono hI1;have hB0:=hB0.trans hI1;refine Qg (Qg (Qa (Qf (zM ?_))));refine zB ?_;refine zA (Qb ?_);exact zd (h:=⟨xs.length-(i+1),kB,i+1,_,U,U,hB0,U,kB,kB,by rw [A3];exact hhl,hPr2⟩)
  rintro c bd pre I1 loc1 hI1 hpre hF;exact hF.elim
 have hge_i:xs.length<=i:=(by have h:=hc49;simp at h;omega);obtain rfl:i=xs.length:=kB;refine QF (Qh (Qh (Qm (Qa (zR (zM ?_))))));refine zQ Qx ?_;refine zB ?_;refine Q7 Vi U U kB kE U U (fun b_98=>?_);refine Qs YI U U (fun b_10=>?_);refine zS Ze ?_;refine Qb ?_;have e1:(((csW xs 0).length:Nat):Int)+1=(((csW xs 0).length+1:Nat):Int):=rfl;rw [e1,show (((csW xs 0).length+1:Nat):Int).toNat=(csW xs 0).length+1 from U,Q5,Zj,Xp,<-zrb (w:=(wdW xs))];refine QQ (b:=b_10) (by repeat (first | exact Zf.here | apply Zf.there)) (fun I8 hI8 hb8=>?_);have hW:=hW.mono hI8;have hH:=hH.mono hI8;have hT:=hT.mono hI8;have hC6:=hC6.mono hI8;have hPr:=hPr.mono hI8;have hIc:=hIc.trans hI8;have hC10:QB I8 [] b_10 0 (.slice (some ⟨b_98,0,none⟩) ((csW xs 0).length+1) ((csW xs 0).length+1)):=.imm hb8 U;refine Qa (zR (zA (zN (Ql (zR ?_)))));refine zV (Qd U QK (fun hg=>by exact hC6.any)) ?_;refine zQ Qx ?_;refine zM (zN (Qp ?_));refine Ud [(0,_),(2,_),(4,_),(5,_),(6,_),(10,_),(99,_),(100,_)] (.cons U (.cons U (.cons U (.cons U (.cons U (.cons U (.cons U (.cons U .nil)))))))) (fun T L0 mz ms E I' loc'=>∃ (k:Nat),mz=((csW xs 0).length+1)-k/\E=(11,.int .i64 ((YN (wdW xs) k:Nat):Int))::(101,.int .i64 k)::T/\I8=I'/\(b_98,.cells (Zm (Vx ((csW xs 0).length+1) (Y7 (atK (wdW xs) k)))) 3 (0,0))::(b_45,.cells (Zm (Vx ((csW xs 0).length+1) (Y7 (wdW xs)))) 3 (0,0))::(b_41,.cells (Jo hs) 76 (0,0))::MB ms=loc'/\k<=((csW xs 0).length+1)) _ _ _ _ ⟨0,U,U,U,U,jf _⟩ (.cons U (.cons U (.cons U (.cons U (.cons U (.cons U (.cons U (.cons U (.cons U (.cons U .nil)))))))))) (zGN _) U ?_;rintro mz ms E I' loc' ⟨k,rfl,rfl,rfl,rfl,hk⟩;refine zR (zC (zN (Ql ?_)));refine zI ?_ ?_<;>intro hc102
 ·have hlt_k:k<((csW xs 0).length+1):=(by have h:=hc102;simp at h;omega);have hns:=zd2 (f:=YN (wdW xs)) (a:=k) (B:=20000) (jT (zgH (zh7 (znD hrs) _) k) (jT (O2 129 (show k<=65 by omega)) kE));have hnw:=zd2 (f:=(wdW xs)) (a:=k) (B:=128) (zh7 (znD hrs) _ _);have e9:Y7 (YN (wdW xs)) k=((YN (wdW xs) k:Nat):Int):=rfl;refine Qo (Qa (Ql (Qp (zR (zM ?_)))));refine zV (Q2 U U Qx (fun hg=>kB)) ?_;refine zV (Qd U Qq (fun hg=>by exact zGH (JJ (k:=k) (Va (show k<_ by omega))))) ?_;refine zA ?_;refine zA ?_;refine zN (zR ?_);refine zV (Qd U QK (fun hg=>by exact hC10.any)) ?_;refine zM ?_;refine zM ?_;refine zV (Q2 U U Qx (fun hg=>kB)) ?_;refine Z0 U U ZD U U (by repeat (first | exact Upd.here | apply Upd.there | apply QH)) (zCK kO) ?_;refine Qb ?_;rw [V9,Kv,zbC,zp8];refine Qa (Qf (zM ?_));refine zM ?_;refine zB ?_;refine zB ?_;refine zA (Qb (Qg (Qa (Qf ?_))));refine zB ?_;refine zM (Qb ?_);exact zd (h:=⟨((csW xs 0).length+1)-(k+1),kB,k+1,U,U,U,U,kB⟩)
 have hge_k:((csW xs 0).length+1)<=k:=(by have h:=hc102;simp at h;omega);obtain rfl:k=(csW xs 0).length+1:=kB;have hsE:=jT (zgH (w:=wdW xs) (zh7 (znD hrs) _) ((csW xs 0).length+1)) (O2 129 (show (csW xs 0).length+1<=65 by omega));refine QF (Qh (Qh (Qm (Qa (Ql (zR (zM ?_)))))));refine zB ?_;refine zA (Qb ?_);rw [zET];refine Qa (zR (zM ?_));refine zC (zN ?_);refine zI ?_ ?_<;>intro hc118
 ·have hbig:loW xs>256:=(by have h:=hc118;simp at h;omega);obtain ⟨t1,t2⟩:=zFy hc33 hbig;refine zR (zA ?_);refine zA (zN (Qr (Qc ?_)))
  first
  | exact Ye (L:=_::_::_::[]) (fun a ha w hw=>ztG U U U a ha w) (fun w hw=>⟨_,I8,[],U,hIc,hw.drop,by rw [t1];exact zcE.empty t2⟩)
 have hbig:¬loW xs>256:=(by have h:=hc118;simp at h;omega);obtain ⟨t1,t2⟩:=zFa hc33 hbig;refine KA (by rw [zt9]) ?_;refine zor (L:=(b_98,.cells (Zm (Vx ((csW xs 0).length+1) (Y7 (YN (wdW xs))))) 3 (0,0))::(b_45,.cells (Zm (Vx ((csW xs 0).length+1) (Y7 (wdW xs)))) 3 (0,0))::(b_41,.cells (Jo hs) 76 (0,0))::[]) (R:=MB ms) (.cons .here (.cons .here (.cons .here .nil))) (fun I10 hI10 hall=>?_);have hW:=hW.mono hI10;have hH:=hH.mono hI10;have hT:=hT.mono hI10;have hC6:=hC6.mono hI10;have hPr:=hPr.mono hI10;have hC10:=hC10.mono hI10;have hIc:=hIc.trans hI10;have hAt:Sl I10 1 Q3 (some ⟨b_98,0,none⟩) ((csW xs 0).length+1) ((csW xs 0).length+1) (Vx ((csW xs 0).length+1) (Y7 (YN (wdW xs)))):=Sl.lit _ Yr Zh (hall _ _ kF);have hWd:Sl I10 1 Q3 (some ⟨b_45,0,none⟩) ((csW xs 0).length+1) ((csW xs 0).length+1) (Vx ((csW xs 0).length+1) (Y7 (wdW xs))):=Sl.lit _ Yr Zh (hall _ _ kF);have hPs:Sl I10 1 KU (some ⟨b_41,0,none⟩) xs.length xs.length hs:=Sl.lit _ hhl K5 (hall _ _ kF);refine KA (loc':=[]++MB ms) U ?_;refine Qo (Qa (Ql (zR (zM ?_))));refine zQ VK ?_;refine zM (zN (Qp ?_));refine Ud [(4,_),(5,_),(6,_),(10,_),(11,_),(119,_),(120,_)] (.cons U (.cons U (.cons U (.cons U (.cons U (.cons U (.cons U .nil))))))) (fun T L0 mz ms E I' loc'=>∃ (i:Nat) (v2:Value) (os:List Hd) (L:Go.Kn.Loc),mz=xs.length-i/\E=(2,v2)::(121,.int .i64 i)::T/\HLe I10 I'/\L++MB ms=loc'/\i<=xs.length/\OwnS 37 1 v2 i (os.flatMap KU) L/\zaq I' os ((List.range i).map (zhF xs))) _ _ _ _ ⟨0,_,[],[],U,U,zGN _,U,jf _,OwnS.nil,zaq.nil⟩ (.cons U (.cons U (.cons U (.cons U (.cons U (.cons U (.cons U (.cons U (.cons U .nil))))))))) (zGN _) U ?_;rintro mz ms E J11 loc' ⟨i,v2,os,L,rfl,rfl,hJ,rfl,hi,hO,hre⟩;have hW:=hW.mono hJ;have hH:=hH.mono hJ;have hT:=hT.mono hJ;have hC6:=hC6.mono hJ;have hPr:=hPr.mono hJ;have hC10:=hC10.mono hJ;have hAt:=hAt.mono hJ;have hWd:=hWd.mono hJ;have hPs:=hPs.mono hJ;have hIc:=hIc.trans hJ;have hB6:=hJ;obtain ⟨va2,vc2,rfl⟩:=zfu hO;refine zR (zC (zN (Ql ?_)));refine zI ?_ ?_<;>intro hc122
 ·have hlt_i:i<xs.length:=(by have h:=hc122;simp at h;omega);obtain ⟨w,x,hx,hv,e1,e2,hR⟩:=hW.at hlt_i;have hcsi:x.rs.map Vm=csW xs i:=(zcH hv).symm;have hMi:=XX (i:=i) hrs;have hRl:=hR.len;have hxb:=hrs x (jd hv);obtain ⟨hp,hhp,hhn,hPf⟩:=hPr i hlt_i;have hpl:=(zaC (xs:=xs) (i:=i)).2;refine Qo (Qa (Ql (Qp (zR (zM ?_)))));refine zV (zX VK hH) ?_;refine zV (Qk U zcA (fun hg=>by exact zGO hH hx) U) ?_;refine Qs zyw U U (fun b_15=>?_);refine zA ?_;refine zh zlC ?_;refine zN ?_;refine zkg [(2,_),(4,_),(5,_),(6,_),(10,_),(11,_),(14,_),(119,_),(120,_),(121,_)] (.cons U (.cons U (.cons U (.cons U (.cons U (.cons U (.cons U (.cons U (.cons U (.cons U .nil)))))))))) (fun T L0 ms E I' loc'=>∃ (b16 b17 b127:Nat) (av17:Option Addr) (c17:Nat),E=(16,QZ b16)::(17,QZ b17)::T/\HLe J11 I'/\(b127,.cells (Zm (Vx (loW xs) (fun _=>0))) 3 (0,0))::(L++MB ms)=loc'/\QB I' [] b16 0 (.slice (some ⟨b127,0,none⟩) (loW xs) (loW xs))/\QB I' [] b17 0 (.slice av17 (csW xs i).length c17)/\Sl I' 1 Q3 av17 (csW xs i).length c17 (csW xs i)) ?_ ?_
  ·have hKc30:=zGN J11;have hD:=zGN J11;refine YZ ?_;refine ZA J11 [(b_15,.cells (zo7 w).toArray 72 (0,0))] mixed ?_;refine zT 0 U (Qj U) hD ?_;refine zT 2 U (Qk U zcA (fun hg=>by exact Cells.g0) U) hD ?_;refine zvO 1 3 4 5 U U U U kA ?_ ?_ ?_ ?_
   ·refine Q7 Vi U U kB kE U U (fun b_127=>?_);refine Qb ?_;refine zD hD ?_;refine Wn 3 4 5 U U U kA ?_ ?_ ?_
    ·refine zpc [_] U V3 .nil (YS hR kB _ _) ?_;rintro vv12 I12 L12 hI12 ⟨rfl,av30,c30,rfl,hL30⟩;have hKc30:=hKc30.trans hI12;have hD:=hD.trans hI12;rw [hcsi] at hL30 ⊢;refine Qb ?_;refine zD hD ?_;refine Zo 4 5 U U kA ?_ ?_
     focus
      refine Qs YI U U (fun b_16=>?_);refine Qb ?_;refine zD hD ?_;refine qd 5 U ?_;refine Qs YI U U (fun b_17=>?_)
     rotate_left
     refine Qs YI U U (fun b_17=>?_);refine Qb ?_;refine zD hD ?_;refine qd 4 U ?_;refine Qs YI U U (fun b_16=>?_)
     all_goals
      refine Qb ?_;refine zD hD ?_;refine qd 6 U ?_;refine zS Ze ?_;refine Qb ?_;refine zD hD ?_;refine qd 7 U ?_;refine zS Ze ?_;refine Qb ?_;refine zD hD ?_;refine Qz kA ?_;refine QD ?_;rw [show ((loW xs:Nat):Int).toNat=loW xs from U,Q5,Zj];refine QL (b:=b_16) (by repeat (first | exact Zf.here | apply Zf.there)) (fun I16 h16 e16=>?_);refine QL (b:=b_17) (by repeat (first | exact Zf.here | apply Zf.there)) (fun I17 h17 e17=>?_);exact zn (h:=⟨b_16,b_17,b_127,_,_,U,(hKc30.trans h16).trans h17,U,.imm (h17 _ _ e16) U,.imm e17 U,(hL30.mono h16).mono h17⟩)
    ·refine Qs YI U U (fun b_16=>?_);refine Qb ?_;refine zD hD ?_;refine Zo 3 5 U U kA ?_ ?_
     focus
      refine zpc [_] U V3 .nil (YS hR kB _ _) ?_;rintro vv13 I13 L13 hI13 ⟨rfl,av30,c30,rfl,hL30⟩;have hKc30:=hKc30.trans hI13;have hD:=hD.trans hI13;rw [hcsi] at hL30 ⊢;refine Qb ?_;refine zD hD ?_;refine qd 5 U ?_;refine Qs YI U U (fun b_17=>?_)
     rotate_left
     refine Qs YI U U (fun b_17=>?_);refine Qb ?_;refine zD hD ?_;refine qd 3 U ?_;refine zpc [_] U V3 .nil (YS hR kB _ _) ?_;rintro vv14 I14 L14 hI14 ⟨rfl,av30,c30,rfl,hL30⟩;have hKc30:=hKc30.trans hI14;have hD:=hD.trans hI14;rw [hcsi] at hL30 ⊢
     all_goals
      refine Qb ?_;refine zD hD ?_;refine qd 6 U ?_;refine zS Ze ?_;refine Qb ?_;refine zD hD ?_;refine qd 7 U ?_;refine zS Ze ?_;refine Qb ?_;refine zD hD ?_;refine Qz kA ?_;refine QD ?_;rw [show ((loW xs:Nat):Int).toNat=loW xs from U,Q5,Zj];refine QL (b:=b_16) (by repeat (first | exact Zf.here | apply Zf.there)) (fun I16 h16 e16=>?_);refine QL (b:=b_17) (by repeat (first | exact Zf.here | apply Zf.there)) (fun I17 h17 e17=>?_);exact zn (h:=⟨b_16,b_17,b_127,_,_,U,(hKc30.trans h16).trans h17,U,.imm (h17 _ _ e16) U,.imm e17 U,(hL30.mono h16).mono h17⟩)
    refine Qs YI U U (fun b_17=>?_);refine Qb ?_;refine zD hD ?_;refine Zo 3 4 U U kA ?_ ?_
    focus
     refine zpc [_] U V3 .nil (YS hR kB _ _) ?_;rintro vv15 I15 L15 hI15 ⟨rfl,av30,c30,rfl,hL30⟩;have hKc30:=hKc30.trans hI15;have hD:=hD.trans hI15;rw [hcsi] at hL30 ⊢;refine Qb ?_;refine zD hD ?_;refine qd 4 U ?_;refine Qs YI U U (fun b_16=>?_)
    rotate_left
    refine Qs YI U U (fun b_16=>?_);refine Qb ?_;refine zD hD ?_;refine qd 3 U ?_;refine zpc [_] U V3 .nil (YS hR kB _ _) ?_;rintro vv16 I16 L16 hI16 ⟨rfl,av30,c30,rfl,hL30⟩;have hKc30:=hKc30.trans hI16;have hD:=hD.trans hI16;rw [hcsi] at hL30 ⊢
    all_goals
     refine Qb ?_;refine zD hD ?_;refine qd 6 U ?_;refine zS Ze ?_;refine Qb ?_;refine zD hD ?_;refine qd 7 U ?_;refine zS Ze ?_;refine Qb ?_;refine zD hD ?_;refine Qz kA ?_;refine QD ?_;rw [show ((loW xs:Nat):Int).toNat=loW xs from U,Q5,Zj];refine QL (b:=b_16) (by repeat (first | exact Zf.here | apply Zf.there)) (fun I16 h16 e16=>?_);refine QL (b:=b_17) (by repeat (first | exact Zf.here | apply Zf.there)) (fun I17 h17 e17=>?_);exact zn (h:=⟨b_16,b_17,b_127,_,_,U,(hKc30.trans h16).trans h17,U,.imm (h17 _ _ e16) U,.imm e17 U,(hL30.mono h16).mono h17⟩)
   ·refine zpc [_] U V3 .nil (YS hR kB _ _) ?_;rintro vv17 I17 L17 hI17 ⟨rfl,av30,c30,rfl,hL30⟩;have hKc30:=hKc30.trans hI17;have hD:=hD.trans hI17;rw [hcsi] at hL30 ⊢;refine Qb ?_;refine zD hD ?_;refine Wn 1 4 5 U U U kA ?_ ?_ ?_
    ·refine Q7 Vi U U kB kE U U (fun b_127=>?_);refine Qb ?_;refine zD hD ?_;refine Zo 4 5 U U kA ?_ ?_
     focus
      refine Qs YI U U (fun b_16=>?_);refine Qb ?_;refine zD hD ?_;refine qd 5 U ?_;refine Qs YI U U (fun b_17=>?_)
     rotate_left
     refine Qs YI U U (fun b_17=>?_);refine Qb ?_;refine zD hD ?_;refine qd 4 U ?_;refine Qs YI U U (fun b_16=>?_)
     all_goals
      refine Qb ?_;refine zD hD ?_;refine qd 6 U ?_;refine zS Ze ?_;refine Qb ?_;refine zD hD ?_;refine qd 7 U ?_;refine zS Ze ?_;refine Qb ?_;refine zD hD ?_;refine Qz kA ?_;refine QD ?_;rw [show ((loW xs:Nat):Int).toNat=loW xs from U,Q5,Zj];refine QL (b:=b_16) (by repeat (first | exact Zf.here | apply Zf.there)) (fun I16 h16 e16=>?_);refine QL (b:=b_17) (by repeat (first | exact Zf.here | apply Zf.there)) (fun I17 h17 e17=>?_);exact zn (h:=⟨b_16,b_17,b_127,_,_,U,(hKc30.trans h16).trans h17,U,.imm (h17 _ _ e16) U,.imm e17 U,(hL30.mono h16).mono h17⟩)
    ·refine Qs YI U U (fun b_16=>?_);refine Qb ?_;refine zD hD ?_;refine Zo 1 5 U U kA ?_ ?_
     focus
      refine Q7 Vi U U kB kE U U (fun b_127=>?_);refine Qb ?_;refine zD hD ?_;refine qd 5 U ?_;refine Qs YI U U (fun b_17=>?_)
     rotate_left
     refine Qs YI U U (fun b_17=>?_);refine Qb ?_;refine zD hD ?_;refine qd 1 U ?_;refine Q7 Vi U U kB kE U U (fun b_127=>?_)
     all_goals
      refine Qb ?_;refine zD hD ?_;refine qd 6 U ?_;refine zS Ze ?_;refine Qb ?_;refine zD hD ?_;refine qd 7 U ?_;refine zS Ze ?_;refine Qb ?_;refine zD hD ?_;refine Qz kA ?_;refine QD ?_;rw [show ((loW xs:Nat):Int).toNat=loW xs from U,Q5,Zj];refine QL (b:=b_16) (by repeat (first | exact Zf.here | apply Zf.there)) (fun I16 h16 e16=>?_);refine QL (b:=b_17) (by repeat (first | exact Zf.here | apply Zf.there)) (fun I17 h17 e17=>?_);exact zn (h:=⟨b_16,b_17,b_127,_,_,U,(hKc30.trans h16).trans h17,U,.imm (h17 _ _ e16) U,.imm e17 U,(hL30.mono h16).mono h17⟩)
    refine Qs YI U U (fun b_17=>?_);refine Qb ?_;refine zD hD ?_;refine Zo 1 4 U U kA ?_ ?_
    focus
     refine Q7 Vi U U kB kE U U (fun b_127=>?_);refine Qb ?_;refine zD hD ?_;refine qd 4 U ?_;refine Qs YI U U (fun b_16=>?_)
    rotate_left
    refine Qs YI U U (fun b_16=>?_);refine Qb ?_;refine zD hD ?_;refine qd 1 U ?_;refine Q7 Vi U U kB kE U U (fun b_127=>?_)
    all_goals
     refine Qb ?_;refine zD hD ?_;refine qd 6 U ?_;refine zS Ze ?_;refine Qb ?_;refine zD hD ?_;refine qd 7 U ?_;refine zS Ze ?_;refine Qb ?_;refine zD hD ?_;refine Qz kA ?_;refine QD ?_;rw [show ((loW xs:Nat):Int).toNat=loW xs from U,Q5,Zj];refine QL (b:=b_16) (by repeat (first | exact Zf.here | apply Zf.there)) (fun I16 h16 e16=>?_);refine QL (b:=b_17) (by repeat (first | exact Zf.here | apply Zf.there)) (fun I17 h17 e17=>?_);exact zn (h:=⟨b_16,b_17,b_127,_,_,U,(hKc30.trans h16).trans h17,U,.imm (h17 _ _ e16) U,.imm e17 U,(hL30.mono h16).mono h17⟩)
   ·refine Qs YI U U (fun b_16=>?_);refine Qb ?_;refine zD hD ?_;refine Wn 1 3 5 U U U kA ?_ ?_ ?_
    ·refine Q7 Vi U U kB kE U U (fun b_127=>?_);refine Qb ?_;refine zD hD ?_;refine Zo 3 5 U U kA ?_ ?_
     focus
      refine zpc [_] U V3 .nil (YS hR kB _ _) ?_;rintro vv18 I18 L18 hI18 ⟨rfl,av30,c30,rfl,hL30⟩;have hKc30:=hKc30.trans hI18;have hD:=hD.trans hI18;rw [hcsi] at hL30 ⊢;refine Qb ?_;refine zD hD ?_;refine qd 5 U ?_;refine Qs YI U U (fun b_17=>?_)
     rotate_left
     refine Qs YI U U (fun b_17=>?_);refine Qb ?_;refine zD hD ?_;refine qd 3 U ?_;refine zpc [_] U V3 .nil (YS hR kB _ _) ?_;rintro vv19 I19 L19 hI19 ⟨rfl,av30,c30,rfl,hL30⟩;have hKc30:=hKc30.trans hI19;have hD:=hD.trans hI19;rw [hcsi] at hL30 ⊢
     all_goals
      refine Qb ?_;refine zD hD ?_;refine qd 6 U ?_;refine zS Ze ?_;refine Qb ?_;refine zD hD ?_;refine qd 7 U ?_;refine zS Ze ?_;refine Qb ?_;refine zD hD ?_;refine Qz kA ?_;refine QD ?_;rw [show ((loW xs:Nat):Int).toNat=loW xs from U,Q5,Zj];refine QL (b:=b_16) (by repeat (first | exact Zf.here | apply Zf.there)) (fun I16 h16 e16=>?_);refine QL (b:=b_17) (by repeat (first | exact Zf.here | apply Zf.there)) (fun I17 h17 e17=>?_);exact zn (h:=⟨b_16,b_17,b_127,_,_,U,(hKc30.trans h16).trans h17,U,.imm (h17 _ _ e16) U,.imm e17 U,(hL30.mono h16).mono h17⟩)
    ·refine zpc [_] U V3 .nil (YS hR kB _ _) ?_;rintro vv20 I20 L20 hI20 ⟨rfl,av30,c30,rfl,hL30⟩;have hKc30:=hKc30.trans hI20;have hD:=hD.trans hI20;rw [hcsi] at hL30 ⊢;refine Qb ?_;refine zD hD ?_;refine Zo 1 5 U U kA ?_ ?_
     focus
      refine Q7 Vi U U kB kE U U (fun b_127=>?_);refine Qb ?_;refine zD hD ?_;refine qd 5 U ?_;refine Qs YI U U (fun b_17=>?_)
     rotate_left
     refine Qs YI U U (fun b_17=>?_);refine Qb ?_;refine zD hD ?_;refine qd 1 U ?_;refine Q7 Vi U U kB kE U U (fun b_127=>?_)
     all_goals
      refine Qb ?_;refine zD hD ?_;refine qd 6 U ?_;refine zS Ze ?_;refine Qb ?_;refine zD hD ?_;refine qd 7 U ?_;refine zS Ze ?_;refine Qb ?_;refine zD hD ?_;refine Qz kA ?_;refine QD ?_;rw [show ((loW xs:Nat):Int).toNat=loW xs from U,Q5,Zj];refine QL (b:=b_16) (by repeat (first | exact Zf.here | apply Zf.there)) (fun I16 h16 e16=>?_);refine QL (b:=b_17) (by repeat (first | exact Zf.here | apply Zf.there)) (fun I17 h17 e17=>?_);exact zn (h:=⟨b_16,b_17,b_127,_,_,U,(hKc30.trans h16).trans h17,U,.imm (h17 _ _ e16) U,.imm e17 U,(hL30.mono h16).mono h17⟩)
    refine Qs YI U U (fun b_17=>?_);refine Qb ?_;refine zD hD ?_;refine Zo 1 3 U U kA ?_ ?_
    focus
     refine Q7 Vi U U kB kE U U (fun b_127=>?_);refine Qb ?_;refine zD hD ?_;refine qd 3 U ?_;refine zpc [_] U V3 .nil (YS hR kB _ _) ?_;rintro vv21 I21 L21 hI21 ⟨rfl,av30,c30,rfl,hL30⟩;have hKc30:=hKc30.trans hI21;have hD:=hD.trans hI21;rw [hcsi] at hL30 ⊢
    rotate_left
    refine zpc [_] U V3 .nil (YS hR kB _ _) ?_;rintro vv22 I22 L22 hI22 ⟨rfl,av30,c30,rfl,hL30⟩;have hKc30:=hKc30.trans hI22;have hD:=hD.trans hI22;rw [hcsi] at hL30 ⊢;refine Qb ?_;refine zD hD ?_;refine qd 1 U ?_;refine Q7 Vi U U kB kE U U (fun b_127=>?_)
    all_goals
     refine Qb ?_;refine zD hD ?_;refine qd 6 U ?_;refine zS Ze ?_;refine Qb ?_;refine zD hD ?_;refine qd 7 U ?_;refine zS Ze ?_;refine Qb ?_;refine zD hD ?_;refine Qz kA ?_;refine QD ?_;rw [show ((loW xs:Nat):Int).toNat=loW xs from U,Q5,Zj];refine QL (b:=b_16) (by repeat (first | exact Zf.here | apply Zf.there)) (fun I16 h16 e16=>?_);refine QL (b:=b_17) (by repeat (first | exact Zf.here | apply Zf.there)) (fun I17 h17 e17=>?_);exact zn (h:=⟨b_16,b_17,b_127,_,_,U,(hKc30.trans h16).trans h17,U,.imm (h17 _ _ e16) U,.imm e17 U,(hL30.mono h16).mono h17⟩)
   refine Qs YI U U (fun b_17=>?_);refine Qb ?_;refine zD hD ?_;refine Wn 1 3 4 U U U kA ?_ ?_ ?_
   ·refine Q7 Vi U U kB kE U U (fun b_127=>?_);refine Qb ?_;refine zD hD ?_;refine Zo 3 4 U U kA ?_ ?_
    focus
     refine zpc [_] U V3 .nil (YS hR kB _ _) ?_;rintro vv23 I23 L23 hI23 ⟨rfl,av30,c30,rfl,hL30⟩;have hKc30:=hKc30.trans hI23;have hD:=hD.trans hI23;rw [hcsi] at hL30 ⊢;refine Qb ?_;refine zD hD ?_;refine qd 4 U ?_;refine Qs YI U U (fun b_16=>?_)
    rotate_left
    refine Qs YI U U (fun b_16=>?_);refine Qb ?_;refine zD hD ?_;refine qd 3 U ?_;refine zpc [_] U V3 .nil (YS hR kB _ _) ?_;rintro vv24 I24 L24 hI24 ⟨rfl,av30,c30,rfl,hL30⟩;have hKc30:=hKc30.trans hI24;have hD:=hD.trans hI24;rw [hcsi] at hL30 ⊢
    all_goals
     refine Qb ?_;refine zD hD ?_;refine qd 6 U ?_;refine zS Ze ?_;refine Qb ?_;refine zD hD ?_;refine qd 7 U ?_;refine zS Ze ?_;refine Qb ?_;refine zD hD ?_;refine Qz kA ?_;refine QD ?_;rw [show ((loW xs:Nat):Int).toNat=loW xs from U,Q5,Zj];refine QL (b:=b_16) (by repeat (first | exact Zf.here | apply Zf.there)) (fun I16 h16 e16=>?_);refine QL (b:=b_17) (by repeat (first | exact Zf.here | apply Zf.there)) (fun I17 h17 e17=>?_);exact zn (h:=⟨b_16,b_17,b_127,_,_,U,(hKc30.trans h16).trans h17,U,.imm (h17 _ _ e16) U,.imm e17 U,(hL30.mono h16).mono h17⟩)
   ·refine zpc [_] U V3 .nil (YS hR kB _ _) ?_;rintro vv25 I25 L25 hI25 ⟨rfl,av30,c30,rfl,hL30⟩;have hKc30:=hKc30.trans hI25;have hD:=hD.trans hI25;rw [hcsi] at hL30 ⊢;refine Qb ?_;refine zD hD ?_;refine Zo 1 4 U U kA ?_ ?_
    focus
     refine Q7 Vi U U kB kE U U (fun b_127=>?_);refine Qb ?_;refine zD hD ?_;refine qd 4 U ?_;refine Qs YI U U (fun b_16=>?_)
    rotate_left
    refine Qs YI U U (fun b_16=>?_);refine Qb ?_;refine zD hD ?_;refine qd 1 U ?_;refine Q7 Vi U U kB kE U U (fun b_127=>?_)
    all_goals
     refine Qb ?_;refine zD hD ?_;refine qd 6 U ?_;refine zS Ze ?_;refine Qb ?_;refine zD hD ?_;refine qd 7 U ?_;refine zS Ze ?_;refine Qb ?_;refine zD hD ?_;refine Qz kA ?_;refine QD ?_;rw [show ((loW xs:Nat):Int).toNat=loW xs from U,Q5,Zj];refine QL (b:=b_16) (by repeat (first | exact Zf.here | apply Zf.there)) (fun I16 h16 e16=>?_);refine QL (b:=b_17) (by repeat (first | exact Zf.here | apply Zf.there)) (fun I17 h17 e17=>?_);exact zn (h:=⟨b_16,b_17,b_127,_,_,U,(hKc30.trans h16).trans h17,U,.imm (h17 _ _ e16) U,.imm e17 U,(hL30.mono h16).mono h17⟩)
   refine Qs YI U U (fun b_16=>?_);refine Qb ?_;refine zD hD ?_;refine Zo 1 3 U U kA ?_ ?_
   focus
    refine Q7 Vi U U kB kE U U (fun b_127=>?_);refine Qb ?_;refine zD hD ?_;refine qd 3 U ?_;refine zpc [_] U V3 .nil (YS hR kB _ _) ?_;rintro vv26 I26 L26 hI26 ⟨rfl,av30,c30,rfl,hL30⟩;have hKc30:=hKc30.trans hI26;have hD:=hD.trans hI26;rw [hcsi] at hL30 ⊢
   rotate_left
   refine zpc [_] U V3 .nil (YS hR kB _ _) ?_;rintro vv27 I27 L27 hI27 ⟨rfl,av30,c30,rfl,hL30⟩;have hKc30:=hKc30.trans hI27;have hD:=hD.trans hI27;rw [hcsi] at hL30 ⊢;refine Qb ?_;refine zD hD ?_;refine qd 1 U ?_;refine Q7 Vi U U kB kE U U (fun b_127=>?_)
   all_goals
    refine Qb ?_;refine zD hD ?_;refine qd 6 U ?_;refine zS Ze ?_;refine Qb ?_;refine zD hD ?_;refine qd 7 U ?_;refine zS Ze ?_;refine Qb ?_;refine zD hD ?_;refine Qz kA ?_;refine QD ?_;rw [show ((loW xs:Nat):Int).toNat=loW xs from U,Q5,Zj];refine QL (b:=b_16) (by repeat (first | exact Zf.here | apply Zf.there)) (fun I16 h16 e16=>?_);refine QL (b:=b_17) (by repeat (first | exact Zf.here | apply Zf.there)) (fun I17 h17 e17=>?_);exact zn (h:=⟨b_16,b_17,b_127,_,_,U,(hKc30.trans h16).trans h17,U,.imm (h17 _ _ e16) U,.imm e17 U,(hL30.mono h16).mono h17⟩)
  rintro ms E J28 loc' ⟨b16,b17,b127,av17,c17,rfl,hJ30,rfl,hC16,hC17,hL17⟩;have hT:=hT.mono hJ30;have hC6:=hC6.mono hJ30;have hC10:=hC10.mono hJ30;have hAt:=hAt.mono hJ30;have hWd:=hWd.mono hJ30;have hPs:=hPs.mono hJ30;have hre:=hre.mono hJ30;have hPf:=hPf.mono hJ30;have hB6:=hB6.trans hJ30;refine zkg [(2,_),(4,_),(5,_),(6,_),(10,_),(11,_),(14,_),(16,_),(17,_),(119,_),(120,_),(121,_)] (.cons U (.cons U (.cons U (.cons U (.cons U (.cons U (.cons U (.cons U (.cons U (.cons U (.cons U (.cons U .nil)))))))))))) (fun T L0 ms E I' loc'=>E=T/\HLe J28 I'/\(b127,.cells (Zm (Vx (loW xs) ((if i=0 then txF (wdW xs) (csW xs 0) (csW xs 0).length else fun _=>0)))) 3 (0,0))::(L++MB ms)=loc') ?_ ?_
  ·have hKc31:=zGN J28;refine zR (zM ?_);refine zC (zN ?_);refine zI ?_ ?_<;>intro hc131
   ·have hi0:i=0:=(by have h:=hc131;simp at h;omega);refine zR (zM ?_);refine zQ Qx ?_;refine zM (zN (Qp ?_));refine Ud [(2,_),(4,_),(5,_),(6,_),(10,_),(11,_),(14,_),(16,_),(17,_),(119,_),(120,_),(121,_),(132,_),(133,_)] (.cons U (.cons U (.cons U (.cons U (.cons U (.cons U (.cons U (.cons U (.cons U (.cons U (.cons U (.cons U (.cons U (.cons U .nil)))))))))))))) (fun T L0 mz ms E I' loc'=>∃ (k:Nat),mz=(csW xs 0).length-k/\E=(134,.int .i64 k)::T/\J28=I'/\(b127,.cells (Zm (Vx (loW xs) (txF (wdW xs) (csW xs 0) k))) 3 (0,0))::(L++MB ms)=loc'/\k<=(csW xs 0).length) _ _ _ _ ⟨0,U,U,U,U,jf _⟩ (.cons U (.cons U (.cons U (.cons U (.cons U (.cons U (.cons U (.cons U (.cons U (.cons U (.cons U (.cons U (.cons U (.cons U (.cons U .nil))))))))))))))) (zGN _) U ?_;rintro mz ms E I' loc' ⟨k,rfl,rfl,rfl,rfl,hk⟩;refine zR (zC (zN (Ql ?_)));refine zI ?_ ?_<;>intro hc135
    ·have hlt_k:k<(csW xs 0).length:=(by have h:=hc135;simp at h;omega);obtain ⟨tk,hTk⟩:=hT.at hlt_k;have hps:=ztD hlt_k;have hf1:Y7 (YN (wdW xs)) k=(((YN (wdW xs)) k:Nat):Int):=rfl;have hf2:Y7 (wdW xs) k=(((wdW xs) k:Nat):Int):=rfl;refine Qo (Qa (Ql (Qp (zR (zM ?_)))));refine zV (zX Qx hT) ?_;refine zV (Qd U Qq (fun hg=>by exact zGG hT hTk U)) ?_;refine zA ?_;refine zA (zN ?_);have hD:=zGN J28;refine YZ ?_;refine ZA J28 [] mixed ?_;refine zT 0 U (Qd U QK (fun hg=>by exact hC16.any)) hD ?_;refine zT 1 U (Qd U QK (fun hg=>by exact hC10.any)) hD ?_;refine zT 2 U (Qj U) hD ?_;refine zT 3 U (zX Qx hAt) hD ?_;refine zT 4 U (Qd U Qq (fun hg=>by exact zGG (k:=k) hAt (Va (show k<_ by omega)) U)) hD ?_;refine zT 5 U (Qd U QK (fun hg=>by exact hC6.any)) hD ?_;refine zT 6 U (Qj U) hD ?_;refine zT 7 U (zX Qx hWd) hD ?_;refine zT 8 U (Qd U Qq (fun hg=>by exact zGG (k:=k) hWd (Va (show k<_ by omega)) U)) hD ?_;refine zT 9 U (ZL U U U (fun hg=>kB)) hD ?_;refine zT 10 U (Qj U) hD ?_;refine zT 11 U (Q2 U U Qx (fun hg=>kB)) hD ?_;refine qd 12 U ?_;refine Z0 U U ZD U U (by repeat (first | exact Upd.here | apply Upd.there | apply QH)) (by rw [show Y7 (YN (wdW xs)) k+Y7 (wdW xs) k=((YN (wdW xs) k+wdW xs k:Nat):Int) from U];exact zAl kO) ?_;refine Qb ?_;refine zD hD ?_;refine Qz kA ?_;refine QD ?_;rw [show Y7 (YN (wdW xs)) k+Y7 (wdW xs) k=((YN (wdW xs) k+wdW xs k:Nat):Int) from U,V9,Kv,<-Q1 (d:=0) hTk];refine Qg (Qa (Qf (zB ?_)));refine zM (Qb ?_);exact zd (h:=⟨(csW xs 0).length-(k+1),kB,k+1,U,U,U,U,kB⟩)
    have hge_k:(csW xs 0).length<=k:=(by have h:=hc135;simp at h;omega);obtain rfl:k=(csW xs 0).length:=kB;refine QF (Qh (Qh (Qm ?_)));exact zc5 U U U _ _ ⟨U,hKc31,by rw [jb hi0]⟩ (.cons U (.cons U (.cons U (.cons U (.cons U (.cons U (.cons U (.cons U (.cons U (.cons U (.cons U (.cons U .nil)))))))))))) .refl
   have hi0:¬i=0:=(by have h:=hc131;simp at h;omega);refine Qo ?_;exact zc5 U U U _ _ ⟨U,hKc31,by rw [ja hi0]⟩ (.cons U (.cons U (.cons U (.cons U (.cons U (.cons U (.cons U (.cons U (.cons U (.cons U (.cons U (.cons U .nil)))))))))))) .refl
  rintro ms E J30 loc' ⟨rfl,hJ131,rfl⟩;have hC6:=hC6.mono hJ131;have hC10:=hC10.mono hJ131;have hAt:=hAt.mono hJ131;have hWd:=hWd.mono hJ131;have hPs:=hPs.mono hJ131;have hre:=hre.mono hJ131;have hPf:=hPf.mono hJ131;have hC16:=hC16.mono hJ131;have hC17:=hC17.mono hJ131;have hL17:=hL17.mono hJ131;have hB6:=hB6.trans hJ131;refine Ql (zR (zM ?_));refine zM ?_;refine zV (zX ziO hPs) ?_;refine zV (Qd U ziU (fun hg=>by exact zGG hPs hhp U)) ?_;refine zQ ziW ?_;refine zM (zN (Qp ?_));refine Ud [(2,_),(4,_),(5,_),(6,_),(10,_),(11,_),(14,_),(16,_),(17,_),(119,_),(120,_),(121,_),(155,_),(156,_)] (.cons U (.cons U (.cons U (.cons U (.cons U (.cons U (.cons U (.cons U (.cons U (.cons U (.cons U (.cons U (.cons U (.cons U .nil)))))))))))))) (fun T L0 mz ms E I' loc'=>∃ (k:Nat),mz=(pfW xs i).length-k/\E=(157,.int .i64 k)::T/\J30=I'/\(b127,.cells (Zm (Vx (loW xs) (((pfW xs i).take k).foldl (prF (wdW xs) (csW xs i)) (if i=0 then txF (wdW xs) (csW xs 0) (csW xs 0).length else fun _=>0)))) 3 (0,0))::(L++MB ms)=loc'/\k<=(pfW xs i).length) _ _ _ _ ⟨0,U,U,U,U,jf _⟩ (.cons U (.cons U (.cons U (.cons U (.cons U (.cons U (.cons U (.cons U (.cons U (.cons U (.cons U (.cons U (.cons U (.cons U (.cons U .nil))))))))))))))) (zGN _) U ?_;rintro mz ms E I' loc' ⟨k,rfl,rfl,rfl,rfl,hk⟩;refine zR (zC (zN (Ql ?_)));refine zI ?_ ?_<;>intro hc158
  ·have hlt_k:k<(pfW xs i).length:=(by have h:=hc158;simp at h;omega);obtain ⟨y,hy⟩:=hPf.at (show k<_ by omega);obtain ⟨y1,y2,y3,y4⟩:=zBS hy;refine Qo (Qa (Ql (Qp (zR ?_))));refine zV (zX ziW hPf) ?_;refine zV (Qk U zhG (fun hg=>by exact zGO hPf hy) U) ?_;refine Qs WY U U (fun b_21=>?_);refine zh zn1 ?_;refine zN (zR ?_);refine zV (Zx U U VM (fun hg=>by decide)) ?_;refine zL Qq ?_;refine zC ?_;refine zM ?_;refine QA 3 U U U ?_;refine zK (Zx U U VM (fun hg=>by decide)) ?_;refine zK (Qd U Qq (fun hg=>by exact QB.h0 U)) ?_;refine zK (QI U U U) ?_;refine QE U U U U U ?_;refine zN ?_;refine zI ?_ ?_<;>intro hc168
   ·have hy5:y.1>0/\y.2>0:=(by have h:=hc168;simp at h;exact h);have hps:=ztD (xs:=xs) (k:=(y.1-1).toNat) kB;have hf1:Y7 (YN (wdW xs)) (y.1-1).toNat=(((YN (wdW xs)) (y.1-1).toNat:Nat):Int):=rfl;have hf2:Y7 (wdW xs) (y.1-1).toNat=(((wdW xs) (y.1-1).toNat:Nat):Int):=rfl;have hD:=zGN J30;refine YZ ?_;refine ZA J30 [(b_21,.cells (zdJ y).toArray 82 (0,0))] mixed ?_;refine zT 0 U (Qd U QK (fun hg=>by exact hC16.any)) hD ?_;refine zT 1 U (Qd U QK (fun hg=>by exact hC10.any)) hD ?_;refine zT 2 U (Zx U U VM (fun hg=>by decide)) hD ?_;refine zT 3 U (Qd U Qq (fun hg=>by exact QB.h0 U)) hD ?_;refine zT 4 U (ZL U U U (fun hg=>kB)) hD ?_;refine zT 5 U (zX Qx hAt) hD ?_;refine zT 6 U (Qd U Qq (fun hg=>by exact zGG (k:=(y.1-1).toNat) hAt (Va kB) U)) hD ?_;refine zT 7 U (Qd U QK (fun hg=>by exact hC6.any)) hD ?_;refine zT 8 U (Zx U U VM (fun hg=>by decide)) hD ?_;refine zT 9 U (Qd U Qq (fun hg=>by exact QB.h0 U)) hD ?_;refine zT 10 U (ZL U U U (fun hg=>kB)) hD ?_;refine zT 11 U (zX Qx hWd) hD ?_;refine zT 12 U (Qd U Qq (fun hg=>by exact zGG (k:=(y.1-1).toNat) hWd (Va kB) U)) hD ?_;refine zT 13 U (ZL U U U (fun hg=>kB)) hD ?_;refine zT 14 U (Qd U QK (fun hg=>by exact hC17.any)) hD ?_;refine zT 15 U (Zx U U VM (fun hg=>by decide)) hD ?_;refine zT 16 U (Qd U Qq (fun hg=>by exact QB.h0 U)) hD ?_;refine zT 17 U (ZL U U U (fun hg=>kB)) hD ?_;refine zT 18 U (zX Qx hL17) hD ?_;refine zT 19 U (Qd U Qq (fun hg=>by exact zGG (k:=(y.2-1).toNat) hL17 (Zc (d:=0) U kB) U)) hD ?_;refine zT 20 U (Q2 U U Qx (fun hg=>kB)) hD ?_;refine qd 21 U ?_;refine Z0 U U ZD U U (by repeat (first | exact Upd.here | apply Upd.there | apply QH)) (by rw [show Y7 (YN (wdW xs)) (y.1-1).toNat+Y7 (wdW xs) (y.1-1).toNat=((YN (wdW xs) (y.1-1).toNat+wdW xs (y.1-1).toNat:Nat):Int) from U];exact zAl kO) ?_;refine Qb ?_;refine zD hD ?_;refine Qz kA ?_;refine QD ?_;rw [show Y7 (YN (wdW xs)) (y.1-1).toNat+Y7 (wdW xs) (y.1-1).toNat=((YN (wdW xs) (y.1-1).toNat+wdW xs (y.1-1).toNat:Nat):Int) from U,V9,Kv];refine Qg (Qa (Qf (zB ?_)));refine zM (Qb ?_);exact zd (h:=⟨(pfW xs i).length-(k+1),kB,k+1,U,U,U,by rw [ziw hy,zoo hc168],kB⟩)
   refine Qo (Qg (Qa (Qf (zB ?_))));refine zM (Qb ?_);exact zd (h:=⟨(pfW xs i).length-(k+1),kB,k+1,U,U,U,by rw [ziw hy,zto hc168],kB⟩)
  have hge_k:(pfW xs i).length<=k:=(by have h:=hc158;simp at h;omega);rw [jD hge_k];refine QF (Qh (Qh (Qm (Qa (zR (zM ?_))))));refine zQ Qx ?_;refine zB ?_;refine Q7 Vi U U kB kE U U (fun b_194=>?_);refine Qs YI U U (fun b_22=>?_);refine zS Ze ?_;refine Qb ?_;have e1:(((csW xs 0).length:Nat):Int)+1=(((csW xs 0).length+1:Nat):Int):=rfl;rw [e1,show (((csW xs 0).length+1:Nat):Int).toNat=(csW xs 0).length+1 from U,Q5,Zj,Xp];refine QQ (b:=b_22) (by repeat (first | exact Zf.here | apply Zf.there)) (fun I32 hI32 hb32=>?_);have hC10:=hC10.mono hI32;have hAt:=hAt.mono hI32;have hPs:=hPs.mono hI32;have hre:=hre.mono hI32;have hPf:=hPf.mono hI32;have hC16:=hC16.mono hI32;have hC17:=hC17.mono hI32;have hL17:=hL17.mono hI32;have hB6:=hB6.trans hI32;have hC22:QB I32 [] b_22 0 (.slice (some ⟨b_194,0,none⟩) ((csW xs 0).length+1) ((csW xs 0).length+1)):=.imm hb32 U;refine Qa (Ql (zR (zM ?_)));refine zM ?_;refine zV (zX ziO hPs) ?_;refine zV (Qd U ziU (fun hg=>by exact zGG hPs hhp U)) ?_;refine zpc [_] U zsB .nil (znu _ _ _ _) ?_;rintro vv33 I33 L33 hI33 ⟨rfl,b1,rfl,hb1⟩;have hC10:=hC10.mono hI33;have hAt:=hAt.mono hI33;have hre:=hre.mono hI33;have hPf:=hPf.mono hI33;have hC16:=hC16.mono hI33;have hC17:=hC17.mono hI33;have hL17:=hL17.mono hI33;have hC22:=hC22.mono hI33;have hB6:=hB6.trans hI33;refine zN (Qp ?_);refine XS (K:=[]) (L:=(b_194,.cells (Zm (Vx ((csW xs 0).length+1) (Y7 (cnt [])))) 3 (0,0))::(b127,.cells (Zm (Vx (loW xs) ((alP (wdW xs) (csW xs i) ((pfW xs i).foldl (prF (wdW xs) (csW xs i)) (if i=0 then txF (wdW xs) (csW xs 0) (csW xs 0).length else fun _=>0)) []).1))) 3 (0,0))::L) (en1:=zE5) (en2:=zFf) (xs:=alW xs i) (fun pre I' loc'=>loc'=(b_194,.cells (Zm (Vx ((csW xs 0).length+1) (Y7 (cnt pre)))) 3 (0,0))::(b127,.cells (Zm (Vx (loW xs) ((alP (wdW xs) (csW xs i) ((pfW xs i).foldl (prF (wdW xs) (csW xs i)) (if i=0 then txF (wdW xs) (csW xs 0) (csW xs 0).length else fun _=>0)) pre).1))) 3 (0,0))::L) (fun _ _ _ _=>False) (fun pre x E2 I2 loc2=>E2=[(10,QZ b_10),(16,QZ b16),(17,QZ b17),(22,QZ b_22),(23,.int .i64 x.1),(24,.int .i64 x.2)]/\loc2=(b_194,.cells (Zm (Vx ((csW xs 0).length+1) (Y7 (cnt pre)))) 3 (0,0))::(b127,.cells (Zm (Vx (loW xs) ((alP (wdW xs) (csW xs i) ((pfW xs i).foldl (prF (wdW xs) (csW xs i)) (if i=0 then txF (wdW xs) (csW xs 0) (csW xs 0).length else fun _=>0)) pre).1))) 3 (0,0))::L) U ztj (zni hPf kB (zAr hrs i) hb1) U U U ?_ ?_ ?_ ?_
  ·rintro l9 pre x I1 loc1 H1 hpre hI1 rfl;refine zR (zA (zN (Qf ?_)));refine zA (Qb ?_);exact K9 _ ⟨zGN _,U,U⟩ (.cons U (.cons U (.cons U (.cons U (.cons U (.cons U .nil))))))
  ·rintro l9 pre x E2 I2 loc2 H2 hpre hI2 ⟨rfl,rfl⟩;have hC10:=hC10.mono hI2;have hAt:=hAt.mono hI2;have hC16:=hC16.mono hI2;have hC17:=hC17.mono hI2;have hL17:=hL17.mono hI2;have hC22:=hC22.mono hI2;obtain ⟨x1,x2,x3,x4,x5⟩:=zsM hpre;have hcb:=jT (@zg4 (alW xs i) x.1.toNat) (znD hrs i);have hnc:=zd2 (f:=cnt pre) (a:=x.1.toNat) (B:=128) kB;have hp2:=zxx x2 hlt_i x5;have hf1:Y7 (YN (wdW xs)) x.1.toNat=(((YN (wdW xs)) x.1.toNat:Nat):Int):=rfl;have hf2:Y7 (cnt pre) x.1.toNat=(((cnt pre) x.1.toNat:Nat):Int):=rfl;refine Qp (Ql ?_);have hD:=zGN I2;refine YZ ?_;refine ZA I2 [(b_194,.cells (Zm (Vx ((csW xs 0).length+1) (Y7 (cnt pre)))) 3 (0,0))] mixed ?_;refine zT 0 U (Qd U QK (fun hg=>by exact hC16.any)) hD ?_;refine zT 1 U (Qd U QK (fun hg=>by exact hC10.any)) hD ?_;refine zT 2 U (Qj U) hD ?_;refine zT 3 U (zX Qx hAt) hD ?_;refine zT 4 U (Qd U Qq (fun hg=>by exact zGG (k:=x.1.toNat) hAt (Va kB) U)) hD ?_;refine zT 5 U (Qd U QK (fun hg=>by exact hC22.any)) hD ?_;refine zT 6 U (Qj U) hD ?_;refine zT 7 U (Q2 U U Qx (fun hg=>kB)) hD ?_;refine zT 8 U (Qd U Qq (fun hg=>by exact JJ (Va kB))) hD ?_;refine zT 9 U (ZL U U U (fun hg=>kB)) hD ?_;refine zT 10 U (Qd U QK (fun hg=>by exact hC17.any)) hD ?_;refine zT 11 U (Qj U) hD ?_;refine zT 12 U (zX Qx hL17) hD ?_;refine zT 13 U (Qd U Qq (fun hg=>by exact zGG (k:=x.2.toNat) hL17 (Zc (d:=0) U kB) U)) hD ?_;refine zT 14 U (Q2 U U Qx (fun hg=>kB)) hD ?_;refine qd 15 U ?_;refine Z0 U U ZD U U (by repeat (first | exact Upd.here | apply Upd.there | apply QH)) (by rw [show Y7 (YN (wdW xs)) x.1.toNat+Y7 (cnt pre) x.1.toNat=((YN (wdW xs) x.1.toNat+cnt pre x.1.toNat:Nat):Int) from U];exact zAl kO) ?_;refine Qb ?_;refine zD hD ?_;refine Qz kA ?_;refine QD ?_;rw [show Y7 (YN (wdW xs)) x.1.toNat+Y7 (cnt pre) x.1.toNat=((YN (wdW xs) x.1.toNat+cnt pre x.1.toNat:Nat):Int) from U,V9,Kv,<-zd0];refine Qa (Qf ?_);refine zV (Qd U QK (fun hg=>by exact hC22.any)) ?_;refine zM ?_;refine zV (Q2 U U Qx (fun hg=>kB)) ?_;refine zV (Qd U Qq (fun hg=>by exact JJ (Va kB))) ?_;refine zB ?_;refine zV (Q2 U U Qx (fun hg=>kB)) ?_;refine Z0 U U ZD U U (by repeat (first | exact Upd.here | apply Upd.there | apply QH)) (zCK kO) ?_;refine Qb ?_;rw [WV,Kv,show Y7 (cnt pre) x.1.toNat+1=((cnt pre x.1.toNat+1:Nat):Int) from U,zbC,<-Wm];refine Qg ?_;exact KH ⟨zGN _,U⟩ .refl
  ·rintro bd I1 loc1 hI1 rfl;have hre:=hre.mono hI1;have hC16:=hC16.mono hI1;have hB6:=hB6.trans hI1;refine Qg (Qa ?_);refine QQ (b:=b127) (by repeat (first | exact Zf.here | apply Zf.there)) (fun I34 hI34 hb34=>?_);have hre:=hre.mono hI34;have hC16:=hC16.mono hI34;have hB6:=hB6.trans hI34;have hRow:Sl I34 1 Q3 (some ⟨b127,0,none⟩) (loW xs) (loW xs) (zhF xs i):=Sl.lit (zhF xs i) Yr Zh hb34;refine Qf (zM ?_);refine zV (Qd U QK (fun hg=>by exact hC16.any)) ?_;refine zpb [(0,_)] [KU ⟨some ⟨b127,0,none⟩,loW xs,loW xs⟩] UP (fun b_225=>?_);refine zpa (_) ([(⟨some ⟨b127,0,none⟩,loW xs,loW xs⟩:Hd)].flatMap KU) (L) U U UP hO ⟨U,fun _=>U,by repeat (first | exact zGL | apply zGK | apply zGM)⟩ (zrh _) ?_;intro v9 L9 hO9 _;rw [<-jo] at hO9;refine zA (Qb (Qg (Qa (Qf ?_))));refine zB ?_;refine zM (Qb ?_);exact zd (h:=⟨xs.length-(i+1),kB,i+1,_,_,_,U,U,hB6,U,kB,hO9,by rw [zbX];exact hre.snoc (hd:=⟨some ⟨b127,0,none⟩,loW xs,loW xs⟩) hRow⟩)
  rintro c bd pre I1 loc1 hI1 hpre hF;exact hF.elim
 have hge_i:xs.length<=i:=(by have h:=hc122;simp at h;omega);obtain rfl:i=xs.length:=kB;refine QF (Qh (Qh (Qm (Qa (zR (zM ?_))))));refine zA ?_;refine zA (zN (Qr ?_))
 first
 | exact Ye (L:=L) (fun a ha w hw=>ztG U U U a ha w) (fun w hw=>by obtain ⟨I9,av9,c9,h1',h2',e9,h4'⟩:=OwnS.freeze (R:=[]) hO K5 kE (by rw [jz];exact hw);cases e9;exact ⟨_,I9,[],U,hIc.trans h1',h2',U,va2,vc2,by rw [t1,t2,jE,OU],by rw [t2,jE,OU];exact ⟨os,h4',hre.mono h1'⟩⟩)
structure Em where
 locus:Int
 code:Int
 reason:Int
def V8 (e:Em):List Value:=[.int .i64 e.locus,.int .i64 e.code,.int .i64 e.reason]
theorem zbQ (e:Em):(V8 e).length=3:=rfl
theorem zCU (xs:List Em):YP (xs.flatMap V8)=true:=Vb (fun _=>U) xs
def r1F (code:Int)(b:Bool):Bool:=(b&&code != 0)&&code != 8589934592
def r2F (code:Int)(b:Bool):Bool:=(Kh code==0)&& !b
def r3F (code:Int)(_:Bool):Bool:=code==0
def rsF (r code:Int)(b:Bool):Bool:=if r=1 then r1F code b else if r=2 then r2F code b else if r=3 then r3F code b else false
def zhV (rows:List (List Int))(e:Em):Bool:=rows.any fun r=>r.getD e.locus.toNat 0==e.code
def zkc (rows:List (List Int))(m:Nat)(l:Int)(e:Em):Bool:=decide (e.locus<=l)||(decide (e.locus>=(m:Int))|| !rsF e.reason e.code (zhV rows e))
def zaW (rows:List (List Int))(m:Nat):Int->List Em->Bool
 | _,[]=>true
 | l,e::es=> !zkc rows m l e&&zaW rows m e.locus es
variable{rows:List (List Int)}{m k:Nat}{l:Int}{es:List Em}{e:Em}
theorem Jv (h:es[k]? =some e)(hb:zkc rows m l e=true):zaW rows m l (es.drop k)=false:=by rw [Zz h];unfold zaW;rw [hb];rfl
theorem zj2 (h:es[k]? =some e)(hb:zkc rows m l e=false):zaW rows m l (es.drop k)=zaW rows m e.locus (es.drop (k+1)):=by rw [Zz h];show (!zkc rows m l e&&zaW rows m e.locus (es.drop (k+1)))=_;rw [hb];rfl
theorem zlo (h:es.length<=k):zaW rows m l (es.drop k)=true:=by rw [Oa h];rfl
theorem zzg (h1:e.reason≠1)(h2:e.reason≠2)(h3:e.reason≠3):zkc rows m l e=true:=by unfold zkc rsF;rw [ja h1,ja h2,ja h3];simp
theorem zC3 (h:decide (e.locus<=l)=true):zkc rows m l e=true:=by unfold zkc;rw [h];rfl
theorem zzr (h:decide (e.locus>=(m:Int))=true):zkc rows m l e=true:=by unfold zkc;rw [h];simp
variable{t:Bool}
theorem ztF (h1:decide (e.locus<=l)=false)(h2:decide (e.locus>=(m:Int))=false)(h3:(!rsF e.reason e.code (zhV rows e))=t):zkc rows m l e=t:=by unfold zkc;rw [h1,h2,h3];rfl
theorem zpm (_rows:List (List Int))(m:Nat)(l:Int)(e:Em):decide (e.locus<=l)=true\/(decide (e.locus<=l)=false/\decide (e.locus>=(m:Int))=true)\/(decide (e.locus<=l)=false/\decide (e.locus>=(m:Int))=false):=by cases decide (e.locus<=l)<;>cases decide (e.locus>=(m:Int))<;>simp
def lfK (es:List Em):Nat->List Em
 | 0=>es
 | k+1=>match lfK es k with
  | []=>[]
  | e::r=>if e.locus=(k:Int) then r else e::r
def zcl (rows:List (List Int))(cl:List Int)(k:Nat):Int:=if (Ug rows cl k).any (fun y=>(rows.getD 0 []).getD k 0==y)=true then (rows.getD 0 []).getD k 0 else (Ug rows cl k).getD 0 0
def zbK (rows:List (List Int))(cl:List Int)(es:List Em)(k:Nat):Int:=match lfK es k with
 | []=>zcl rows cl k
 | e::_=>if e.locus=(k:Int) then e.code else zcl rows cl k
def ZW (rows:List (List Int))(cl:List Int)(es:List Em):List Int:=(List.range (rows.getD 0 []).length).map (zbK rows cl es)
theorem zDB (h:lfK es k=[]):lfK es (k+1)=[]:=by show (match lfK es k with | []=>[] | e::r=>if e.locus=(k:Int) then r else e::r)=_;rw [h]
variable{r:List Em}
theorem zAV (h:lfK es k=e::r)(he:e.locus=(k:Int)):lfK es (k+1)=r:=by show (match lfK es k with | []=>[] | e::r=>if e.locus=(k:Int) then r else e::r)=_;rw [h];exact jb he
theorem zEZ (h:lfK es k=e::r)(he:¬e.locus=(k:Int)):lfK es (k+1)=e::r:=by show (match lfK es k with | []=>[] | e::r=>if e.locus=(k:Int) then r else e::r)=_;rw [h];exact ja he
variable{cl:List Int}
theorem zBj (h:lfK es k=[]):zbK rows cl es k=zcl rows cl k:=by unfold zbK;rw [h]
theorem zzI (h:lfK es k=e::r)(he:e.locus=(k:Int)):zbK rows cl es k=e.code:=by unfold zbK;rw [h];exact jb he
theorem zEK (h:lfK es k=e::r)(he:¬e.locus=(k:Int)):zbK rows cl es k=zcl rows cl k:=by unfold zbK;rw [h];exact ja he
def W0 (rows:List (List Int))(no:Int)(cl:List Int)(es:List Em):Int:=
 if Y2 rows cl≠0 then Y2 rows cl else if (decide (no<0)||decide (no>1048576))=true then 430 else if zaW rows (rows.getD 0 []).length (-1) es=true then 0 else 430
variable{no:Int}
theorem zmC (h:Y2 rows cl≠0):W0 rows no cl es=Y2 rows cl:=by unfold W0;rw [jb h]
theorem zsE (h:Y2 rows cl=0)(h2:(decide (no<0)||decide (no>1048576))=true):W0 rows no cl es=430:=by unfold W0;rw [ja kB,jb h2]
theorem zaE (h:Y2 rows cl=0)(h2:(decide (no<0)||decide (no>1048576))=false)(h3:zaW rows (rows.getD 0 []).length (-1) es=false):W0 rows no cl es=430:=by unfold W0;rw [ja kB,ja (by rw [h2];decide),ja (by rw [h3];decide)]
theorem zsb (h:Y2 rows cl=0)(h2:(decide (no<0)||decide (no>1048576))=false)(h3:zaW rows (rows.getD 0 []).length (-1) es=true):W0 rows no cl es=0:=by unfold W0;rw [ja kB,ja (by rw [h2];decide),jb h3]
def KC (no:Int)(a1:Option Addr)(n1 c1:Nat)(a2:Option Addr)(n2 c2:Nat)(a3:Option Addr)(n3 c3:Nat):List Value:=[.int .i64 no,.slice a1 n1 c1,.slice a2 n2 c2,.slice a3 n3 c3]
def zFV (I:Qt)(vs:List Value)(no:Int)(cl:List Int)(es:List Em)(rd:List Int):Prop:=∃ a1 n1 c1 a2 n2 c2 a3 n3 c3,vs=KC no a1 n1 c1 a2 n2 c2 a3 n3 c3/\Sl I 1 Q3 a1 n1 c1 cl/\Sl I 3 V8 a2 n2 c2 es/\Sl I 1 Q3 a3 n3 c3 rd
def zEs (rows:List (List Int))(no:Int)(cl:List Int)(es:List Em):Value->Qt->Go.Kn.Loc->Prop:=fun v I' L=>L=[]/\∃ vs,v= .tuple #[.agg vs.toArray,.int .i64 (W0 rows no cl es)]/\
 ((W0 rows no cl es=0/\zFV I' vs no cl es (ZW rows cl es))\/(W0 rows no cl es≠0/\zFV I' vs 0 [] [] []))
theorem zqH (h:Y2 rows cl=0)(hk:k<(rows.getD 0 []).length):(Xn rows cl)[k]? =some (Ug rows cl k):=by rw [zaX h,j5,AY hk];rfl
theorem zmA (h:Y2 rows cl=0):(Xn rows cl).length=(rows.getD 0 []).length:=by rw [zaX h,jE,OU]
theorem zsT:ElT Tryz.prog 24 90 3 24:=.of kA
theorem JR:QP Tryz.prog 90 0 0:=.of kA
theorem zeh:QP Tryz.prog 90 1 1:=.of kA
theorem zDH:Fun Tryz.prog 29:=.of Tryz.func29 kA kA
theorem zr3:Fun Tryz.prog 34:=.of Tryz.func34 kA kA
theorem zBx:Fun Tryz.prog 81:=.of Tryz.func81 kA kA
theorem zfW:MpT Tryz.prog 87 3 93 (.agg #[.nilFunc]):=⟨kA,.of kA⟩
theorem zm7:PlT Tryz.prog 93 #[(0,1)] (.agg #[.nilFunc]):=⟨.of kA,kA,fun w=>kA⟩
theorem Ww:SlT Tryz.prog 24 90 3:=.of kA
theorem zFl (I:Qt)(code:Int)(b:Bool):Zt Tryz.prog 76 [.int .i64 code,.bool b] I (.bool (r1F code b)):=by intro g H w hw;refine qe Tryz.func76 Tryz.ntmps76 hw ?_;refine zR (zA ?_);refine zN (zR ?_);refine zM ?_;refine zM ?_;refine QA 1 U U U ?_;refine zK (Qj U) ?_;refine zK (QI U U U) ?_;refine QE U U U U U ?_;refine zM ?_;refine QA 5 U U U ?_;refine zK (Qj U) ?_;refine zK (QI U U U) ?_;refine QE U U U U U ?_;refine zA (zN (Qr ?_));exact zr U U kL
theorem zEe (I:Qt)(code:Int)(b:Bool):Zt Tryz.prog 77 [.int .i64 code,.bool b] I (.bool (r2F code b)):=by intro g H w hw;refine qe Tryz.func77 Tryz.ntmps77 hw ?_;have hIc:=zGN I;refine zR (zA ?_);refine zN (zR ?_);refine zM ?_;refine qcV (vs:=[_]) U zk1 (zok _ _) ?_;refine zM ?_;refine zE ?_;refine zE ?_;refine Qs UV U U (fun b_5=>?_);refine zh Yk ?_;refine zA ?_;refine zN (zR ?_);refine zM ?_;refine zC ?_;refine zM ?_;refine QA 2 U U U ?_;refine zK (Qj U) ?_;refine zK (Vv U) ?_;refine QE U U U U U ?_;refine zA (zN (Qr ?_));exact zp hIc U U kL
theorem zEY (I:Qt)(code:Int)(b:Bool):Zt Tryz.prog 78 [.int .i64 code,.bool b] I (.bool (r3F code b)):=by intro g H w hw;refine qe Tryz.func78 Tryz.ntmps78 hw ?_;refine zR (zA ?_);refine zN (zR ?_);refine zM ?_;refine zC ?_;refine zA (zN (Qr ?_));exact zr U U kL
def rsV (f:Nat):Value:=.agg #[.func (.func f) #[] #[]]
def rsM:List (Int×Nat):=[(1,76),(2,77),(3,78)]
theorem zoi (I:Qt):ZQ Tryz.prog 27 [] I [] (fun v I' L=>L=[]/\∃ r,v= .map (some r)/\I' r=some (Z7 (Value.int .i64) rsV rsM)):=by intro g H w hw;refine qe Tryz.func27 Tryz.ntmps27 hw ?_;have hIc:=zGN I;refine zR (zA ?_);refine zN (zR ?_);refine ZV U U (fun r_1=>?_);refine zV (QC (ps:=[(0,_)]) [_] zm7 U U) ?_;refine UJ (m:=[]) (ek:=Value.int .i64) (ev:=rsV) 76 zfW Z3 U U U U (by repeat (first | exact Upd.here | apply Upd.there | apply QH)) ?_;refine zV (QC (ps:=[(0,_)]) [_] zm7 U U) ?_;refine UJ (m:=[(1,76)]) (ek:=Value.int .i64) (ev:=rsV) 77 zfW Z3 U U U U (by repeat (first | exact Upd.here | apply Upd.there | apply QH)) ?_;refine zV (QC (ps:=[(0,_)]) [_] zm7 U U) ?_;refine UJ (m:=[(1,76),(2,77)]) (ek:=Value.int .i64) (ev:=rsV) 78 zfW Z3 U U U U (by repeat (first | exact Upd.here | apply Upd.there | apply QH)) ?_;refine zM ?_;refine zA (zN (Qr ?_));refine QL .here (fun I9 h9 e9=>?_);exact QR U U (fun w hw=>⟨_,I9,[],U,hIc.trans h9,hw,U,r_1,U,e9⟩)
variable{v:List Int}{b:Nat}
theorem zFt (hQ:Sl I 1 Q3 av n c v)(hb:I b=some (.cells (V8 e).toArray 90 (0,0)))(h0:0<=e.locus)(hl:e.locus.toNat<n):Zt Tryz.prog 29 [.slice av n c,QZ b] I (.bool (v.getD e.locus.toNat 0==e.code)):=by intro g H w hw;refine qe Tryz.func29 Tryz.ntmps29 hw ?_;refine zR (zA (zN (Ql ?_)));refine YE mixed kA ?_;refine zq (Qj U) ?_;refine zq (Qe U JR) ?_;refine zq (Qd U Qq (fun hg=>by exact .imm hb U)) ?_;refine zq (zX Qx hQ) ?_;refine zq (Qd U Qq (fun hg=>by exact zGG (k:=e.locus.toNat) hQ (Zc (d:=0) hQ.len hl) U)) ?_;refine zq (Qe U zeh) ?_;refine zq (Qd U Qq (fun hg=>by exact .imm hb U)) ?_;refine zq (QI U U U) ?_;refine zq (QU U) ?_;refine YC ?_;refine Qa (Qr ?_);exact zr U U kL
variable{bv:Option Addr}{n2 c2:Nat}
theorem zp1 (hV:SlN I bv n2 c2 rows)(hn:n2<=100000)(hb:I b=some (.cells (V8 e).toArray 90 (0,0)))(h0:0<=e.locus)(hl:∀ r∈rows,e.locus.toNat<r.length):Zt Tryz.prog 79 [.slice bv n2 c2,.func (.func 29) #[] [QZ b].toArray] I (.int .i64 (Wx (fun r:List Int=>r.getD e.locus.toNat 0==e.code) rows)):=by
 intro g H w hw;refine qe Tryz.func79 Tryz.ntmps79 hw ?_;have hlV:=hV.len;obtain ⟨hs,hV⟩:=hV;have hH:=hV.1;refine zR (zA (zN (Ql (zR ?_))));refine zM ?_;refine zQ Zn ?_;refine zM (zN (Qp ?_));refine zU [(0,_),(1,_),(7,_)] (fun T L0 mz E I' loc'=>∃ (k:Nat),mz=n2-k/\E=(8,.int .i64 k)::T/\I=I'/\L0=loc'/\k<=n2/\(rows.take k).any (fun r:List Int=>r.getD e.locus.toNat 0==e.code)=false) ?_ (h:=⟨0,U,U,U,U,jf _,U⟩);rintro mz E I' loc' ⟨k,rfl,rfl,rfl,rfl,hk,hno⟩;refine zR (zC (zN (Ql ?_)));refine zI ?_ ?_<;>intro hc9
 ·have hlt_k:k<n2:=(by have h:=hc9;simp at h;omega);obtain ⟨x,v,hx,hv,hQ⟩:=hV.at hlt_k;refine Qo (Qa (Ql (Qp (zR (zM ?_)))));refine zA ?_;refine zN (zR ?_);refine zM ?_;refine zM ?_;refine zM ?_;refine zV (zX Zn hH) ?_;refine zV (Qd U QK (fun hg=>by exact zGG hH hx U)) ?_;refine Yo (cap:=[QZ b]) (vs:=[_]) U U zDH (zFt hQ hb h0 (by rw [<-hQ.len];exact hl _ (jd hv))) U U ?_;refine zN ?_;refine zI ?_ ?_<;>intro hc16
  ·refine zR (zM ?_);refine zA (zN (Qr (Qn (Qc (Qc (Qn (Qc ?_)))))));exact zr U U (by rw [JX hno hv hc16])
  refine Qo (Qg (Qa (Qf (zB ?_))));refine zM (Qb ?_);exact zm (h:=⟨n2-(k+1),kB,k+1,U,U,U,U,kB,VP hv hno hc16⟩)
 have hge_k:n2<=k:=(by have h:=hc9;simp at h;omega);refine QF (Qh (Qh (Qm (Qa (zR (zA (zN ?_)))))));refine Qr ?_;exact zr U U (by rw [Jm hlV hge_k hno])
theorem zgF (hV:SlN I bv n2 c2 rows)(hn:n2<=100000)(hb:I b=some (.cells (V8 e).toArray 90 (0,0)))(h0:0<=e.locus)(hl:∀ r∈rows,e.locus.toNat<r.length):Zt Tryz.prog 28 [.slice bv n2 c2,.func (.func 29) #[] [QZ b].toArray] I (.bool (zhV rows e)):=by intro g H w hw;refine qe Tryz.func28 Tryz.ntmps28 hw ?_;refine zR (zA ?_);refine zN (zR ?_);refine zM ?_;refine zM ?_;refine qcV (vs:=[_,_]) U ziT (zp1 hV hn hb h0 hl) ?_;refine zC ?_;refine zA (zN (Qr ?_));exact zr U U (by unfold zhV;rw [<-UB])
variable{xs:List Int}
theorem za8 (hS:Sl I 1 Q3 av n c xs)(hn:n<=400000):ZQ Tryz.prog 30 [.slice av n c] I [] (fun v I' L=>I'=I/\OwnS 3 1 v n (xs.flatMap Q3) L):=by
 intro g H w hw;refine qe Tryz.func30 Tryz.ntmps30 hw ?_;refine zR (zA (zN (Ql (zR ?_))));refine zM ?_;refine zV (zbe U U Qx) ?_;refine zN ?_;refine zI ?_ ?_<;>intro hc4
 ·have hn0:n=0:=OY fun h=>(by have:=hS.base h;rw [this] at hc4;cases hc4);have hl:=hS.len;subst hn0;have hx0:=j4 hl;subst hx0;refine zR (zA (zN (Qr (Qc ?_))));exact QR U U (fun w hw=>⟨_,I,_,U,zGN _,hw,U,OwnS.nil⟩)
 refine Qo (Qa (zR ?_));refine zpb [] [] Zw (fun b_5=>?_);refine zM ?_;refine zpa (_) (xs.flatMap Q3) ([(b_5,_)]) U U Zw OwnS.new (hS.src Zh) (JH _) ?_;intro v1 L1 hO1 _;rw [j8,Oc] at hO1;refine zA (zN (Qr ?_));exact QR U U (fun w hw=>⟨_,I,_,U,zGN _,hw.subL QS,U,hO1⟩)
theorem zrD {xs:List Em}(hS:Sl I 3 V8 av n c xs)(hn:n<=400000):ZQ Tryz.prog 31 [.slice av n c] I [] (fun v I' L=>I'=I/\OwnS 90 3 v n (xs.flatMap V8) L):=by
 intro g H w hw;refine qe Tryz.func31 Tryz.ntmps31 hw ?_;refine zR (zA (zN (Ql (zR ?_))));refine zM ?_;refine zV (zbe U U Ww) ?_;refine zN ?_;refine zI ?_ ?_<;>intro hc4
 ·have hn0:n=0:=OY fun h=>(by have:=hS.base h;rw [this] at hc4;cases hc4);have hl:=hS.len;subst hn0;have hx0:=j4 hl;subst hx0;refine zR (zA (zN (Qr (Qc ?_))));exact QR U U (fun w hw=>⟨_,I,_,U,zGN _,hw,U,OwnS.nil⟩)
 refine Qo (Qa (zR ?_));refine zpb [] [] zsT (fun b_5=>?_);refine zM ?_;refine zpa (_) (xs.flatMap V8) ([(b_5,_)]) U U zsT OwnS.new (hS.src zbQ) (zCU _) ?_;intro v1 L1 hO1 _;rw [j8,Oc] at hO1;refine zA (zN (Qr ?_));exact QR U U (fun w hw=>⟨_,I,_,U,zGN _,hw.subL QS,U,hO1⟩)
variable{ys:List Int}
theorem zrn (hS:Sl I 1 Q3 av n c xs)(hT:Sl I 1 Q3 bv n2 c2 ys)(hn:n<=100000):Zt Tryz.prog 81 [.slice av n c,.slice bv n2 c2] I (.bool (decide (xs=ys))):=by
 intro g H w hw;refine qe Tryz.func81 Tryz.ntmps81 hw ?_;have hl1:=hS.len;have hl2:=hT.len;refine zR (zA (zN (Ql (zR ?_))));refine zM ?_;refine zQ Qx ?_;refine zM ?_;refine zQ Qx ?_;refine zC (zN ?_);refine zI ?_ ?_<;>intro hc10
 ·have hne:xs≠ys:=fun e=>(by have h:=hc10;subst e;simp at h;omega);refine zR (zA (zN (Qr (Qc ?_))));exact zr U U (by rw [j1 hne])
 have hnn:n=n2:=(by have h:=hc10;simp at h;omega);refine Qo (Qa (Ql (zR (zM ?_))));refine zQ Qx ?_;refine zM (zN (Qp ?_));refine zU [(0,_),(1,_),(12,_)] (fun T L0 mz E I' loc'=>∃ (k:Nat),mz=n-k/\E=(13,.int .i64 k)::T/\I=I'/\L0=loc'/\k<=n/\xs.take k=ys.take k) ?_ (h:=⟨0,U,U,U,U,jf _,U⟩);rintro mz E I' loc' ⟨k,rfl,rfl,rfl,rfl,hk,hall⟩;refine zR (zC (zN (Ql ?_)));refine zI ?_ ?_<;>intro hc14
 ·have hlt_k:k<n:=(by have h:=hc14;simp at h;omega);obtain ⟨x,hx⟩:=hS.at hlt_k;obtain ⟨y,hy⟩:=hT.at (show k<n2 by omega);refine Qo (Qa (Ql (Qp (zR (zM ?_)))));refine zA (zN (Ql ?_));refine YE mixed kA ?_;refine zq (Qj U) ?_;refine zq (Qj U) ?_;refine zq (zX Qx hS) ?_;refine zq (Qd U Qq (fun hg=>by exact zGG hS hx U)) ?_;refine zq (Qj U) ?_;refine zq (Qj U) ?_;refine zq (zX Qx hT) ?_;refine zq (Qd U Qq (fun hg=>by exact zGG hT hy U)) ?_;refine zq (QI U U U) ?_;refine YC ?_;refine Qa ?_;refine zI ?_ ?_<;>intro hc24
  ·have hne:xs≠ys:=fun e=>(by subst e;rw [hx] at hy;cases hy;simp at hc24);refine zR (zA (zN (Qr (Qn (Qc (Qc (Qn ?_)))))));refine Qc ?_;exact zr U U (by rw [j1 hne])
  have hxy:x=y:=(by simpa using hc24);refine Qo (Qg (Qa (Qf (zB ?_))));refine zM (Qb ?_);exact zm (h:=⟨n-(k+1),kB,k+1,U,U,U,U,kB,by rw [jP,jP,hall,hx,hy,hxy]⟩)
 have hge_k:n<=k:=(by have h:=hc14;simp at h;omega);have heq:xs=ys:=(by rw [jD kB,jD kB] at hall;exact hall);refine QF (Qh (Qh (Qm (Qa (zR (zA (zN ?_)))))));refine Qr ?_;exact zr U U (by rw [jX heq])
theorem zm4 (hS:Sl I 1 Q3 av n c xs)(hT:Sl I 1 Q3 bv n2 c2 ys)(hn:n<=100000):Zt Tryz.prog 34 [.slice av n c,.slice bv n2 c2] I (.bool (decide (xs=ys))):=by intro g H w hw;refine qe Tryz.func34 Tryz.ntmps34 hw ?_;refine zR (zA ?_);refine zN (zR ?_);refine zM ?_;refine zM ?_;refine qcV (vs:=[_,_]) U zBx (zrn hS hT hn) ?_;refine zA (zN (Qr ?_));exact zr U U kL
theorem zqm {xs:List (List Int)}(hS:SlN I av n c xs){ys:List (List Int)}(hT:SlN I bv n2 c2 ys)(hn:n<=100000)(hn3:∀ x∈xs,x.length<=100000):Zt Tryz.prog 33 [.slice av n c,.slice bv n2 c2,.func (.func 34) #[] #[]] I (.bool (decide (xs=ys))):=by
 intro g H w hw;refine qe Tryz.func33 Tryz.ntmps33 hw ?_;have hl1:=hS.len;have hl2:=hT.len;obtain ⟨hs,hS⟩:=hS;have hH:=hS.1;obtain ⟨gs,hT⟩:=hT;have hG:=hT.1;refine zR (zA (zN (Ql (zR ?_))));refine zM ?_;refine zQ Zn ?_;refine zM ?_;refine zQ Zn ?_;refine zC (zN ?_);refine zI ?_ ?_<;>intro hc14
 ·have hne:xs≠ys:=fun e=>(by have h:=hc14;subst e;simp at h;omega);refine zR (zA (zN (Qr (Qc ?_))));exact zr U U (by rw [j1 hne])
 have hnn:n=n2:=(by have h:=hc14;simp at h;omega);refine Qo (Qa (Ql (zR (zM ?_))));refine zQ Zn ?_;refine zM (zN (Qp ?_));refine zU [(1,_),(2,_),(15,_),(16,_)] (fun T L0 mz E I' loc'=>∃ (k:Nat),mz=n-k/\E=(17,.int .i64 k)::T/\I=I'/\L0=loc'/\k<=n/\xs.take k=ys.take k) ?_ (h:=⟨0,U,U,U,U,jf _,U⟩);rintro mz E I' loc' ⟨k,rfl,rfl,rfl,rfl,hk,hall⟩;refine zR (zC (zN (Ql ?_)));refine zI ?_ ?_<;>intro hc18
 ·have hlt_k:k<n:=(by have h:=hc18;simp at h;omega);obtain ⟨x,u,hx,hu,hP⟩:=hS.at hlt_k;obtain ⟨y,v,hy,hv,hQ⟩:=hT.at (show k<n2 by omega);refine Qo (Qa (Ql (Qp (zR (zM ?_)))));refine zV (zX Zn hH) ?_;refine zV (Qd U QK (fun hg=>by exact zGG hH hx U)) ?_;refine zA ?_;refine zA ?_;refine zN (zR ?_);refine zM ?_;refine zM ?_;refine zV (zX Zn hG) ?_;refine zV (Qd U QK (fun hg=>by exact zGG hG hy U)) ?_;refine zA ?_;refine zN (zR ?_);refine zM ?_;refine zM ?_;refine zM ?_;refine qcV (vs:=[_,_]) U zr3 (zm4 hP hQ (by rw [<-hP.len];exact hn3 _ (jd hu))) ?_;refine zO (zN ?_);refine zI ?_ ?_<;>intro hc30
  ·have hne:xs≠ys:=fun e=>(by subst e;rw [hu] at hv;cases hv;simp at hc30);refine zR (zA (zN (Qr (Qn (Qc (Qc (Qn ?_)))))));refine Qc ?_;exact zr U U (by rw [j1 hne])
  have huv:u=v:=(by simpa using hc30);refine Qo (Qg (Qa (Qf (zB ?_))));refine zM (Qb ?_);exact zm (h:=⟨n-(k+1),kB,k+1,U,U,U,U,kB,by rw [jP,jP,hall,hu,hv,huv]⟩)
 have hge_k:n<=k:=(by have h:=hc18;simp at h;omega);have heq:xs=ys:=(by rw [jD kB,jD kB] at hall;exact hall);refine QF (Qh (Qh (Qm (Qa (zR (zA (zN ?_)))))));refine Qr ?_;exact zr U U (by rw [jX heq])
theorem zpT {l:Nat}:0<(Ug rows cl l).length:=by
 have hne:zoH rows cl l≠[]:=fun e=>by
  have h1:=zlw (rows:=rows) (cl:=cl) (l:=l);have h2:=znz (rows:=rows) (l:=l);rw [e] at h1;simp at h1;omega
 obtain ⟨h1,_⟩:=zet hne;rw [zer] at h1;obtain ⟨x,hx,e⟩:=jt.1 h1;refine AL (a:=x) ?_;unfold Ug;rw [jF];exact ⟨hx,by rw [e,zer];simp⟩
theorem zqM (h:(Ug rows cl k).any (fun y=>(rows.getD 0 []).getD k 0==y)=true):(rows.getD 0 []).getD k 0=zcl rows cl k:=by unfold zcl;rw [jb h]
theorem zue (h:(Ug rows cl k).any (fun y=>(rows.getD 0 []).getD k 0==y)=false):(Ug rows cl k).getD 0 0=zcl rows cl k:=by unfold zcl;rw [ja (by rw [h];decide)]
def Xa:Em:=⟨0,0,0⟩
variable{lf:List Em}
theorem zdi (hl:lf=lfK es k)(h:(decide ((lf.length:Int)>0)&&((lf.getD 0 Xa).locus==(k:Int)))=true):(lf.getD 0 Xa).code=zbK rows cl es k/\lf.drop 1=lfK es (k+1)/\0<lf.length:=by
 cases lf with
 | nil=>simp at h
 | cons e r=>
  have he:e.locus=(k:Int):=(by simpa using h);exact ⟨(zzI hl.symm he).symm,(zAV hl.symm he).symm,by simp⟩
theorem zmF (hl:lf=lfK es k)(h:(decide ((lf.length:Int)>0)&&((lf.getD 0 Xa).locus==(k:Int)))=false):zcl rows cl k=zbK rows cl es k/\lf=lfK es (k+1):=by
 cases lf with
 | nil=>exact ⟨(zBj hl.symm).symm,(zDB hl.symm).symm⟩
 | cons e r=>
  have he:¬e.locus=(k:Int):=by
   intro he;have h3:(e.locus==(k:Int))=false:=(by simpa using h);rw [he] at h3;simp at h3
  exact ⟨(zEK hl.symm he).symm,(zEZ hl.symm he).symm⟩
theorem zbM :(ZW rows cl es).length=(rows.getD 0 []).length:=by unfold ZW;simp
end
end Go.Proofs.YtmbjmjbjdgjonaaGreatDoor
section
namespace Go
def Exit.straight (Q:Exit->Act->World->Prop):Exit->Act->World->Prop
 | .goto _,_,_=>False
 | .normal,a,w=>Q .normal a w
 | .exit i,a,w=>Q (.exit i) a w
 | .ret,a,w=>Q .ret a w
 | .panic c,a,w=>Q (.panic c) a w
 | .outgrown,a,w=>Q .outgrown a w
section
variable {P:Program} {F:Fence} {n:Nat} {b:Frame} {a:Act} {k:List Item} {cs:List Frame} {w:World} {Q:Exit->Act->World->Prop}
theorem Jh {c:Code}:step P (lone (b.atR a (.code (.scope c)::k)) cs w)= .next (lone (b.atR a (.code c:: .inScope c::k)) cs w):=
 step_lone_go (by simp [stepG,stepG.exec,Frame.atR])
theorem zdZ {c:Code}:step P (lone (b.atR a (.inScope c::k)) cs w)= .next (lone (b.atR a k) cs w):=
 step_lone_go (by simp [stepG,stepG.exec,Frame.atR])
theorem WE {c:Code}(h:c.wpIn F n P (Exit.straight Q) a w):(Code.scope c).wpIn F n P Q a w:=by
 intro b k cs hro hb hr;have h0:(lone (b.atR a (.code (.scope c)::k)) cs w).fenced P F:=fenced_calm hb hr U;obtain ⟨e,a₁,w₁,hq,harr⟩:=h b (.inScope c::k) cs hro hb hr
 cases e with
 | normal=>exact ⟨.normal,a₁,w₁,hq,.head h0 Jh (StepsIn.trans harr (.one (fenced_calm hb hr U) zdZ))⟩
 | exit id=>
  have hx:exitTo id (.inScope c::k)=exitTo id k:=by simp [exitTo]
  exact ⟨_,a₁,w₁,hq,fun k' hk=>.head h0 Jh (harr.1 k' (by rw [hx];exact hk)),
   fun hr' hk=>let ⟨k₁,h1,h2⟩:=harr.2 hr' (by rw [hx];exact hk);⟨k₁,h1,.head h0 Jh h2⟩⟩
 | goto l=>exact hq.elim
 | ret=>exact ⟨_,a₁,w₁,hq,.of_steps (.one h0 Jh) harr⟩
 | panic ch=>exact ⟨_,a₁,w₁,hq,.of_steps (.one h0 Jh) harr⟩
 | outgrown=>exact ⟨_,a₁,w₁,hq,.of_steps (.one h0 Jh) harr⟩
end
end Go
namespace Go.Kn
open Go
section
variable {C:Cx} {Q:Exit->Act->World->Prop} {E:Env} {I:Qt} {loc:Loc}
theorem zxU {c:Code}(h:X C (Exit.straight Q) c E I loc):X C Q (.scope c) E I loc:=fun a w ha hw=>WE (h a w ha hw)
theorem zyk {l:Nat}(h:At C Q .normal E I loc):X C Q (.label l) E I loc:=fun a w ha hw=>wpIn_label (h a w ha hw)
theorem JT (h:At C Q .ret E I loc):At C (Exit.straight Q) .ret E I loc:=h
theorem zir {e:Exit}{loc':Loc}(h:loc=loc')(hx:At C Q e E I loc'):At C Q e E I loc:=h ▸ hx
variable {S:GS} {dst:Option Nat} {ty:TypeId} {pos:String} {af:Array Edge} {gd:Option (Nat×Bool)} {x y:Operand}
theorem XC {P:Program}{w:World}{t e d:Nat}{q:Option Addr}(hT:P.underlying t=some (.pointer e)):(Op.equalIn (d+1) t (.pointer q) (.pointer none)).run P w= .ok q.isNone w:=by unfold Op.equalIn;rw [jg,jK hT];cases q<;>rfl
theorem Xq {t t' e:Nat}{q:Option Addr}(hx:Qv S E x=some (.pointer q))(hy:Qv S E y=some (.pointer none))(hT:C.P.underlying t=some (.pointer e)):QV C S E I loc ⟨dst,.binOp .eql t x y t',ty,pos,af,gd⟩ (.bool q.isNone):=
 .of kC fun a w ha hg hc _=>by
  have e1:∀ op x y t,(eqGuard op t x y (.pointer q) (.pointer none)).run C.P w= .ok () w:=(by intros;unfold eqGuard;rename_i op _ _ _;cases op<;>rfl);have e2:(Op.equal t (.pointer q) (.pointer none)).run C.P w= .ok q.isNone w:=XC (d:=9999) hT;simp only [execOp,Qi ha hg hc hx,Qi ha hg hc hy,jg,e1,Result.andThen,binOp,e2,jl]
end
end Go.Kn
end
namespace Go.Proofs.YtmbjmjbjdgjonaaGreatDoor
section
open Go Go.Kn Go.Proofs
theorem Vn:AgT Tryz.prog 41 4:=.of kA
theorem ztb:AgT Tryz.prog 90 3:=.of kA
theorem KY:QP Tryz.prog 41 3 3:=.of kA
theorem zc3:QP Tryz.prog 90 2 2:=.of kA
theorem zrg:QP Tryz.prog 93 0 0:=.of kA
theorem zCc:Fun Tryz.prog 26:=.of Tryz.func26 kA kA
theorem zAB:Fun Tryz.prog 27:=.of Tryz.func27 kA kA
theorem zii:Fun Tryz.prog 30:=.of Tryz.func30 kA kA
theorem zA9:Fun Tryz.prog 31:=.of Tryz.func31 kA kA
theorem zDu:Fun Tryz.prog 76:=.of Tryz.func76 kA kA
theorem zBf:Fun Tryz.prog 77:=.of Tryz.func77 kA kA
theorem zB4:Fun Tryz.prog 78:=.of Tryz.func78 kA kA
theorem zBB:PlT Tryz.prog 41 #[(0,1),(1,1),(2,1),(3,1)] (.agg #[(.int .i64 0),(.slice none 0 0),(.slice none 0 0),(.slice none 0 0)]):=⟨.of kA,kA,fun w=>kA⟩
theorem zA8:ScT Tryz.prog 91:=.of kA
theorem Wy:SzT Tryz.prog 41 4:=.of kA
theorem zzC:SzT Tryz.prog 90 3:=.of kA
theorem zs3:SzT Tryz.prog 93 1:=.of kA
theorem zw8:Yw Tryz.prog 41 (.agg #[(.int .i64 0),(.slice none 0 0),(.slice none 0 0),(.slice none 0 0)]):=.of kA
theorem zEL:Yw Tryz.prog 90 (.agg #[(.int .i64 0),(.int .i64 0),(.int .i64 0)]):=.of kA
theorem zDv:Yw Tryz.prog 93 (.agg #[.nilFunc]):=.of kA
def zDL (I:Qt)(r:Nat):Prop:=I r=some (Z7 (Value.int .i64) rsV rsM)
variable{I I':Qt}{r:Nat}
theorem zDL.mono (h:zDL I r)(hI:HLe I I'):zDL I' r:=hI _ _ h
theorem zoY (r:Int):(r≠1/\r≠2/\r≠3/\ZP rsM r=none)\/∃ f,ZP rsM r=some f/\Fun Tryz.prog f/\∀ (I:Qt) (code:Int) (b:Bool),Zt Tryz.prog f [.int .i64 code,.bool b] I (.bool (rsF r code b)):=by
 by_cases h1:r=1
 ·subst h1;exact .inr ⟨_,U,zDu,zFl⟩
 by_cases h2:r=2
 ·subst h2;exact .inr ⟨_,U,zBf,zEe⟩
 by_cases h3:r=3
 ·subst h3;exact .inr ⟨_,U,zB4,zEY⟩
 exact .inl ⟨h1,h2,h3,by unfold rsM;simp [ZP,By h1,By h2,By h3]⟩
variable{av bv dv:Option Addr}{n c n2 c2 n3 c3:Nat}{rows:List (List Int)}{es:List Em}
set_option maxHeartbeats 40000000 in
theorem ztr    {xs:List Int} (hS:Sl I 1 Q3 av n c xs)    (hVn:SlN I bv n2 c2 rows) (hn2:n2<=100000)    (hEs:Sl I 3 V8 dv n3 c3 es) (hn3:n3<=100000) (hnx:n<=100000) (hDb:KR I) (no:Int):ZQ Tryz.prog 8 [.slice bv n2 c2,.int .i64 no,.slice av n c,.slice dv n3 c3] I [] (zEs rows no xs es):=by
 intro g H w hw;refine qe Tryz.func8 Tryz.ntmps8 hw ?_;have hIc:=zGN I;have hlV:=hVn.len;subst hlV;have hEl:=hEs.len;subst hEl;have hVn9:=hVn;obtain ⟨hs,hV⟩:=hVn9;have hH:=hV.1;refine zR ?_;refine Qs zw8 U U (fun b_8=>?_);refine zA ?_;refine zN (zR ?_);refine zM ?_;refine zM ?_;refine zpc [_,_] U zCc .nil (zv9 hS hVn hn2 hDb) ?_;rintro vv1 I1 L1 hI1 ⟨rfl,av4,c4,rfl,hRt⟩;have hS:=hS.mono hI1;have hVn:=hVn.mono hI1;have hV:=hV.mono hI1;have hH:=hH.mono hI1;have hEs:=hEs.mono hI1;have hIc:=hIc.trans hI1;refine zM ?_;refine zE ?_;refine zE ?_;refine zA ?_;refine zA (zN (Ql (zR ?_)));refine zM ?_;refine zC (zN ?_);refine zI ?_ ?_<;>intro hc28
 ·have hcE:Y2 rows xs≠0:=(by simpa using hc28);refine zR ?_;refine zV (Qk U Vn (fun hg=>by exact Cells.g0) U) ?_;refine zM ?_;refine zh Wy ?_;refine zA (zN (Qr (Qc ?_)))
  first
  | exact Zl U U U Vn (vs:=KC 0 none 0 0 none 0 0 none 0 0) kJ U (fun w hw=>⟨_,_,[],U,hIc,hw.drop,U,_,by rw [zmC hcE]<;>rfl,.inr ⟨by rw [zmC hcE];exact hcE,_,_,_,_,_,_,_,_,_,U,.nil,.nil,.nil⟩⟩)
 have hcE:Y2 rows xs=0:=by simpa using hc28
 have hr0:YL rows=0:=by cases Bz (YL rows=0) with
  | inl h=>exact h
  | inr h=>exact absurd ((ziY h).1.symm.trans hcE) h
 obtain ⟨hr1,hr6,hr64,hrr⟩:=Uh hr0;obtain ⟨x0,v0,hx0,hv0,hQ0⟩:=hV.at (k:=0) kB;have hg0:rows.getD 0 []=v0:=Q1 hv0;have hQ0l:=hQ0.len;have hg1:(rows.getD 0 []).length=v0.length:=(by rw [hg0]);rw [zmA hcE] at hRt ⊢;refine Qo (Qa (Ql (zR (zM ?_))));refine zC ?_;refine zM ?_;refine Q8 2 U U U ?_;refine zJ (Qj U) ?_;refine zJ (QI U U U) ?_;refine ZO U U U U U ?_;refine zN ?_;refine zI ?_ ?_<;>intro hc36
 ·refine zR ?_;refine zV (Qk U Vn (fun hg=>by exact Cells.g0) U) ?_;refine zh Wy ?_;refine zA (zN (Qr (Qc ?_)))
  first
  | exact Zl U U U Vn (vs:=KC 0 none 0 0 none 0 0 none 0 0) kJ U (fun w hw=>⟨_,_,[],U,hIc,hw.drop,U,_,by rw [zsE hcE hc36]<;>rfl,.inr ⟨by rw [zsE hcE hc36];decide,_,_,_,_,_,_,_,_,_,U,.nil,.nil,.nil⟩⟩)
 refine Qo (Qa (zR ?_));refine zpc [] U zAB .nil (zoi _) ?_;rintro vv2 I2 L2 hI2 ⟨rfl,rm,rfl,hRm⟩;have hS:=hS.mono hI2;have hVn:=hVn.mono hI2;have hH:=hH.mono hI2;have hEs:=hEs.mono hI2;have hRt:=hRt.mono hI2;have hQ0:=hQ0.mono hI2;have hIc:=hIc.trans hI2;have hRm:zDL I2 rm:=hRm;refine zA ?_;refine zA (zN (Ql (Ql ?_)));refine KA (loc':=(b_8,.cells (KC 0 none 0 0 none 0 0 none 0 0).toArray 41 (0,0))::[]) U ?_;refine Qf (zM ?_);refine zQ Ww ?_;refine zM (zN (Qp ?_));refine zU [(0,_),(1,_),(2,_),(3,_),(8,_),(10,_),(11,_),(39,_),(40,_)] (fun T L0 mz E I' loc'=>∃ (k:Nat) (l:Int),mz=es.length-k/\E=(12,.int .i64 l)::(41,.int .i64 k)::T/\HLe I2 I'/\(b_8,.cells (KC 0 none 0 0 none 0 0 none 0 0).toArray 41 (0,0))::[]=loc'/\k<=es.length/\ -1<=l/\zaW rows (rows.getD 0 []).length (-1) es=zaW rows (rows.getD 0 []).length l (es.drop k)) ?_ (h:=⟨0,(-1),U,U,zGN _,U,jf _,Aq _,U⟩);rintro mz E J3 loc' ⟨k,l,rfl,rfl,hJ,rfl,hk,hlm,hgo⟩;have hS:=hS.mono hJ;have hVn:=hVn.mono hJ;have hH:=hH.mono hJ;have hEs:=hEs.mono hJ;have hRt:=hRt.mono hJ;have hQ0:=hQ0.mono hJ;have hRm:=hRm.mono hJ;have hIc:=hIc.trans hJ;have hB0:=hJ;refine zR (zC (zN (Ql ?_)));refine zI ?_ ?_<;>intro hc42
 ·have hlt_k:k<es.length:=(by have h:=hc42;simp at h;omega);obtain ⟨e,he⟩:=hEs.at hlt_k;refine Qo (Qa (Ql (Qp (zR ?_))));refine zV (zX Ww hEs) ?_;refine zV (Qk U ztb (fun hg=>by exact zGO hEs he) U) ?_;refine Qs zEL U U (fun b_14=>?_);refine zh zzC ?_;refine zN (Ql ?_);obtain ⟨h1,h2,h3,hget⟩ | ⟨f,hget,hFf,hCf⟩:=zoY e.reason
  ·refine Qf (zM ?_);refine zF zc3 ?_;refine zL Qq ?_;refine zV (zfE hget (m:=rsM) (ek:=Value.int .i64) (ev:=rsV) (a:=e.reason) zfW Z3 U U (fun _=>.inl hRm)) ?_;refine zM ?_;refine zE ?_;refine zE ?_;refine Qs zDv U U (fun b_15=>?_);refine zh zs3 ?_;refine zA (zN (Ql (Ql ?_)));refine QQ (b:=b_14) (by repeat (first | exact Zf.here | apply Zf.there)) (fun I4 hI4 hE14=>?_);have hIc:=hIc.trans hI4;have hD:=zGN I4;refine KF mixed ?_;refine zT 0 U (Qj U) hD ?_;refine zT 1 U (Vv U) hD ?_;refine zT 2 U (Qj U) hD ?_;refine zW 3 54 hD ?_;refine zW 4 54 hD ?_;refine zW 5 54 hD ?_;refine zW 6 54 hD ?_;refine zT 7 U (Vs U U U) hD ?_;refine zT 8 U (Qj U) hD ?_;refine zW 9 60 hD ?_;refine zW 10 60 hD ?_;refine zW 11 60 hD ?_;refine zW 12 60 hD ?_;refine zW 13 60 hD ?_;refine zT 14 U (Vs U U U) hD ?_;refine zT 15 U (Qj U) hD ?_;refine zW 16 67 hD ?_;refine zW 17 67 hD ?_;refine zW 18 67 hD ?_;refine zW 19 67 hD ?_;refine zW 20 67 hD ?_;refine zW 21 67 hD ?_;refine zW 22 67 hD ?_;refine zW 23 67 hD ?_;refine zW 24 67 hD ?_;refine zT 25 U (Vs U U U) hD ?_;refine Qz kA ?_;refine QD ?_;refine Qa ?_;refine zI ?_ ?_<;>intro hc77
   ·have hbe:=zzg (rows:=rows) (m:=(rows.getD 0 []).length) (l:=l) h1 h2 h3;refine zR ?_;refine zV (Qk U Vn (fun hg=>by exact Cells.g1) U) ?_;refine zh Wy ?_;refine zA (zN (Qr (Qc (Qn (Qc (Qc (Qn ?_)))))));refine Qc ?_
    first
    | exact Zl U U U Vn (vs:=KC 0 none 0 0 none 0 0 none 0 0) kJ U (fun w hw=>⟨_,_,[],U,hIc,hw.drop,U,_,by rw [zaE hcE hc36 (hgo.trans (Jv he hbe))]<;>rfl,.inr ⟨by rw [zaE hcE hc36 (hgo.trans (Jv he hbe))];decide,_,_,_,_,_,_,_,_,_,U,.nil,.nil,.nil⟩⟩)
   cases hc77
  refine Qf (zM ?_);refine zF zc3 ?_;refine zL Qq ?_;refine zV (zfk hget (m:=rsM) (ek:=Value.int .i64) (ev:=rsV) (a:=e.reason) zfW Z3 U U (fun _=>.inl hRm)) ?_;refine zM ?_;refine zE ?_;refine zE ?_;refine Qs zDv U U (fun b_15=>?_);refine zh zs3 ?_;refine zA (zN (Ql (Ql ?_)));obtain q1 | ⟨q1,q2⟩ | ⟨q1,q2⟩:=zpm rows ((rows.getD 0 []).length) l e
  ·refine QQ (b:=b_15) (by repeat (first | exact Zf.here | apply Zf.there)) (fun I5 hI5 hb5=>?_);have hIc:=hIc.trans hI5;have hC15:QB I5 [] b_15 0 (.func (.func f) #[] #[]):=.imm hb5 U;refine QQ (b:=b_14) (by repeat (first | exact Zf.here | apply Zf.there)) (fun I6 hI6 hE14=>?_);have hIc:=hIc.trans hI6;have hD:=zGN I6;refine KF mixed ?_;refine zT 0 U (Qj U) hD ?_;refine zT 1 U (Vv U) hD ?_;refine zT 2 U (Qj U) hD ?_;refine zw 3 54 U (Qe U JR) hD ?_;refine zw 4 54 U (Qd U Qq (fun hg=>by exact .imm hE14 U)) hD ?_;refine zw 5 54 U (Qj U) hD ?_;refine zw 6 54 U (QI U U U) hD ?_;rw [q1];refine zT 7 U (ZN U U U) hD ?_;refine zT 8 U (Qj U) hD ?_;refine zW 9 60 hD ?_;refine zW 10 60 hD ?_;refine zW 11 60 hD ?_;refine zW 12 60 hD ?_;refine zW 13 60 hD ?_;refine zT 14 U (Vs U U U) hD ?_;refine zT 15 U (Qj U) hD ?_;refine zW 16 67 hD ?_;refine zW 17 67 hD ?_;refine zW 18 67 hD ?_;refine zW 19 67 hD ?_;refine zW 20 67 hD ?_;refine zW 21 67 hD ?_;refine zW 22 67 hD ?_;refine zW 23 67 hD ?_;refine zW 24 67 hD ?_;refine zT 25 U (Vs U U U) hD ?_;refine Qz kA ?_;refine QD ?_;refine Qa ?_;refine zI ?_ ?_<;>intro hc77
   ·have hbe:=zC3 (rows:=rows) (m:=(rows.getD 0 []).length) q1;refine zR ?_;refine zV (Qk U Vn (fun hg=>by exact Cells.g0) U) ?_;refine zh Wy ?_;refine zA (zN (Qr (Qc (Qn (Qc (Qc (Qn ?_)))))));refine Qc ?_
    first
    | exact Zl U U U Vn (vs:=KC 0 none 0 0 none 0 0 none 0 0) kJ U (fun w hw=>⟨_,_,[],U,hIc,hw.drop,U,_,by rw [zaE hcE hc36 (hgo.trans (Jv he hbe))]<;>rfl,.inr ⟨by rw [zaE hcE hc36 (hgo.trans (Jv he hbe))];decide,_,_,_,_,_,_,_,_,_,U,.nil,.nil,.nil⟩⟩)
   cases hc77
  ·refine QQ (b:=b_15) (by repeat (first | exact Zf.here | apply Zf.there)) (fun I7 hI7 hb7=>?_);have hIc:=hIc.trans hI7;have hC15:QB I7 [] b_15 0 (.func (.func f) #[] #[]):=.imm hb7 U;refine QQ (b:=b_14) (by repeat (first | exact Zf.here | apply Zf.there)) (fun I8 hI8 hE14=>?_);have hIc:=hIc.trans hI8;have hD:=zGN I8;refine KF mixed ?_;refine zT 0 U (Qj U) hD ?_;refine zT 1 U (Vv U) hD ?_;refine zT 2 U (Qj U) hD ?_;refine zw 3 54 U (Qe U JR) hD ?_;refine zw 4 54 U (Qd U Qq (fun hg=>by exact .imm hE14 U)) hD ?_;refine zw 5 54 U (Qj U) hD ?_;refine zw 6 54 U (QI U U U) hD ?_;rw [q1];refine zT 7 U (ZN U U U) hD ?_;refine zT 8 U (Qj U) hD ?_;refine zw 9 60 U (Qe U JR) hD ?_;refine zw 10 60 U (Qd U Qq (fun hg=>by exact .imm hE14 U)) hD ?_;refine zw 11 60 U (Qj U) hD ?_;refine zw 12 60 U (ZX U Zn) hD ?_;refine zw 13 60 U (QI U U U) hD ?_;rw [q2];refine zT 14 U (ZN U U U) hD ?_;refine zT 15 U (Qj U) hD ?_;refine zW 16 67 hD ?_;refine zW 17 67 hD ?_;refine zW 18 67 hD ?_;refine zW 19 67 hD ?_;refine zW 20 67 hD ?_;refine zW 21 67 hD ?_;refine zW 22 67 hD ?_;refine zW 23 67 hD ?_;refine zW 24 67 hD ?_;refine zT 25 U (Vs U U U) hD ?_;refine Qz kA ?_;refine QD ?_;refine Qa ?_;refine zI ?_ ?_<;>intro hc77
   ·have hbe:=zzr (rows:=rows) (l:=l) q2;refine zR ?_;refine zV (Qk U Vn (fun hg=>by exact Cells.g0) U) ?_;refine zh Wy ?_;refine zA (zN (Qr (Qc (Qn (Qc (Qc (Qn ?_)))))));refine Qc ?_
    first
    | exact Zl U U U Vn (vs:=KC 0 none 0 0 none 0 0 none 0 0) kJ U (fun w hw=>⟨_,_,[],U,hIc,hw.drop,U,_,by rw [zaE hcE hc36 (hgo.trans (Jv he hbe))]<;>rfl,.inr ⟨by rw [zaE hcE hc36 (hgo.trans (Jv he hbe))];decide,_,_,_,_,_,_,_,_,_,U,.nil,.nil,.nil⟩⟩)
   cases hc77
  have h0e:0<=e.locus:=(by have h:=O1 q1;omega);have hle:e.locus.toNat<(rows.getD 0 []).length:=(by have h:=O1 q2;omega);have hle2:∀ r∈rows,e.locus.toNat<r.length:=fun r hr=>(by rw [(hrr r hr).1];exact hle);refine QQ (b:=b_15) (by repeat (first | exact Zf.here | apply Zf.there)) (fun I9 hI9 hb9=>?_);have hVn:=hVn.mono hI9;have hIc:=hIc.trans hI9;have hB0:=hB0.trans hI9;have hC15:QB I9 [] b_15 0 (.func (.func f) #[] #[]):=.imm hb9 U;refine QQ (b:=b_14) (by repeat (first | exact Zf.here | apply Zf.there)) (fun I10 hI10 hE14=>?_);have hVn:=hVn.mono hI10;have hC15:=hC15.mono hI10;have hIc:=hIc.trans hI10;have hB0:=hB0.trans hI10;have hD:=zGN I10;refine KF mixed ?_;refine zT 0 U (Qj U) hD ?_;refine zT 1 U (Vv U) hD ?_;refine zT 2 U (Qj U) hD ?_;refine zw 3 54 U (Qe U JR) hD ?_;refine zw 4 54 U (Qd U Qq (fun hg=>by exact .imm hE14 U)) hD ?_;refine zw 5 54 U (Qj U) hD ?_;refine zw 6 54 U (QI U U U) hD ?_;rw [q1];refine zT 7 U (ZN U U U) hD ?_;refine zT 8 U (Qj U) hD ?_;refine zw 9 60 U (Qe U JR) hD ?_;refine zw 10 60 U (Qd U Qq (fun hg=>by exact .imm hE14 U)) hD ?_;refine zw 11 60 U (Qj U) hD ?_;refine zw 12 60 U (ZX U Zn) hD ?_;refine zw 13 60 U (QI U U U) hD ?_;rw [q2];refine zT 14 U (ZN U U U) hD ?_;refine zT 15 U (Qj U) hD ?_;refine zw 16 67 U (Qe U zrg) hD ?_;refine zw 17 67 U (Qd U zA8 (fun hg=>by exact hC15.any)) hD ?_;refine zw 18 67 U (Qe U zeh) hD ?_;refine zw 19 67 U (Qd U Qq (fun hg=>by exact .imm hE14 U)) hD ?_;refine zw 20 67 U (Qj U) hD ?_;refine zw 21 67 U (QN (us:=[]) (vs:=[_]) U U) hD ?_;refine qd 22 U ?_;refine QJ (dj:=67) U U U ?_;refine qcV (vs:=[_,_]) U zrI (zgF hVn hn2 hE14 h0e hle2) ?_;refine Qb ?_;refine zD hD ?_;refine qd 23 U ?_;refine QJ (dj:=67) U U U ?_;refine Yo (cap:=[]) (vs:=[_,_]) U U hFf (hCf _ _ _) U U ?_;refine Qb ?_;refine zD hD ?_;refine zw 24 67 U (Vv U) hD ?_;refine zT 25 U (ZN U U U) hD ?_;refine Qz kA ?_;refine QD ?_;refine Qa ?_;refine zI ?_ ?_<;>intro hc77
  ·have hbe:=ztF q1 q2 hc77;refine zR ?_;refine zV (Qk U Vn (fun hg=>by exact Cells.g0) U) ?_;refine zh Wy ?_;refine zA (zN (Qr (Qc (Qn (Qc (Qc (Qn ?_)))))));refine Qc ?_
   first
   | exact Zl U U U Vn (vs:=KC 0 none 0 0 none 0 0 none 0 0) kJ U (fun w hw=>⟨_,_,[],U,hIc,hw.drop,U,_,by rw [zaE hcE hc36 (hgo.trans (Jv he hbe))]<;>rfl,.inr ⟨by rw [zaE hcE hc36 (hgo.trans (Jv he hbe))];decide,_,_,_,_,_,_,_,_,_,U,.nil,.nil,.nil⟩⟩)
  have hbe:=ztF q1 q2 hc77;refine Qo (Qa (Qf ?_));refine zF JR ?_;refine zV (Qd U Qq (fun hg=>by exact .imm hE14 U)) ?_;refine zA (Qb (Qg (Qa (Qf ?_))));refine zB ?_;refine zM (Qb ?_);exact zm (h:=⟨es.length-(k+1),kB,k+1,_,U,U,hB0,U,kB,kB,by rw [hgo,zj2 he hbe]⟩)
 have hge_k:es.length<=k:=(by have h:=hc42;simp at h;omega);rw [zlo hge_k] at hgo;refine QF (Qh (Qh (Qm (Qa (zR (zM ?_))))));refine zM ?_;refine zpc [_] U zii .nil (za8 hS kB) ?_;rintro vv11 I11 L11 hI11 ⟨rfl,hO1⟩;have hH:=hH.mono hI11;have hEs:=hEs.mono hI11;have hRt:=hRt.mono hI11;have hQ0:=hQ0.mono hI11;have hIc:=hIc.trans hI11;obtain ⟨va1,vc1,rfl⟩:=zfu hO1;refine zM ?_;refine zpc [_] U zA9 .nil (zrD hEs kB) ?_;rintro vv12 I12 L12 hI12 ⟨rfl,hO2⟩;have hH:=hH.mono hI12;have hEs:=hEs.mono hI12;have hRt:=hRt.mono hI12;have hQ0:=hQ0.mono hI12;have hIc:=hIc.trans hI12;obtain ⟨va2,vc2,rfl⟩:=zfu hO2;refine zV (QC (ps:=[(0,_),(1,_),(2,_)]) [_,_,_,_] zBB U U) ?_;refine zh Wy ?_;refine zN (Ql ?_);refine zx4 hO2 zbQ (fun I13 hI13 af13 cf13 ef13 hEm2=>?_);cases ef13;have hH:=hH.mono hI13;have hEs:=hEs.mono hI13;have hRt:=hRt.mono hI13;have hQ0:=hQ0.mono hI13;have hIc:=hIc.trans hI13;refine zx4 hO1 Zh (fun I14 hI14 af14 cf14 ef14 hCl=>?_);cases ef14;have hH:=hH.mono hI14;have hEs:=hEs.mono hI14;have hRt:=hRt.mono hI14;have hQ0:=hQ0.mono hI14;have hEm2:=hEm2.mono hI14;have hIc:=hIc.trans hI14;refine KA (loc':=[]++[(b_8,.cells (KC no va1 n vc1 va2 es.length vc2 none 0 0).toArray 41 (0,0))]) U ?_;refine Qf (zM ?_);refine zA (zN (Ql (zR ?_)));refine zM ?_;refine zQ Zn ?_;refine zM (zN (Qp ?_));refine zU [(0,_),(8,_),(89,_),(90,_)] (fun T L0 mz E I' loc'=>∃ (k:Nat) (lf:List Em) (dva:Option Addr) (dn:Nat) (dc:Nat) (va3:Option Addr) (vc3:Nat) (L:Go.Kn.Loc),mz=(rows.getD 0 []).length-k/\E=(17,.slice dva dn dc)::(91,.int .i64 k)::T/\HLe I14 I'/\L++[(b_8,.cells (KC no va1 n vc1 va2 es.length vc2 va3 k vc3).toArray 41 (0,0))]=loc'/\k<=(rows.getD 0 []).length/\lf=lfK es k/\Sl I' 3 V8 dva dn dc lf/\OwnS 3 1 (.slice va3 k vc3) k (((List.range k).map (zbK rows xs es)).flatMap Q3) L) ?_ (h:=⟨0,es,_,_,_,none,0,[],U,U,zGN _,U,jf _,U,hEs,OwnS.nil⟩);rintro mz E J15 loc' ⟨k,lf,dva,dn,dc,va3,vc3,L,rfl,rfl,hJ,rfl,hk,hlf,hLf,hO⟩;have hH:=hH.mono hJ;have hRt:=hRt.mono hJ;have hQ0:=hQ0.mono hJ;have hEm2:=hEm2.mono hJ;have hCl:=hCl.mono hJ;have hIc:=hIc.trans hJ;have hB2:=hJ;have hLfl:=hLf.len;subst hLfl;refine zR (zC (zN (Ql ?_)));refine zI ?_ ?_<;>intro hc92
 ·have hlt_k:k<(rows.getD 0 []).length:=(by have h:=Oi hc92;omega);obtain ⟨rhs,hRh9⟩:=id hRt;have hRh:=hRh9.1;obtain ⟨rx,rv,hrx,hrv,hQ⟩:=hRh9.at hlt_k;have hrv2:=zqH hcE hlt_k;rw [hrv2] at hrv;cases hrv;have hrp:=zpT (rows:=rows) (cl:=xs) (l:=k);have hQl:=hQ.len;have hq0:(Ug rows xs k)[0]? =some ((Ug rows xs k).getD 0 0):=Zc U hrp;have hk0:v0[k]? =some (v0.getD k 0):=Zc U (by rw [<-hg0];exact hlt_k);have hstl:=znq (rows:=rows) (l:=k);have hrl:(Ug rows xs k).length<=(stE rows k).length:=j3 _ _;refine Qo (Qa (Ql (Qp (zR (zM ?_)))));refine zV (zX Zn hRh) ?_;refine zV (Qd U QK (fun hg=>by exact zGG hRh hrx U)) ?_;refine zA ?_;refine zA ?_;refine zN (zR ?_);refine zM ?_;refine zV (zX Qx hQ) ?_;refine zV (Qd U Qq (fun hg=>by exact zGG hQ hq0 U)) ?_;refine zA (zN ?_);refine zY [(0,_),(8,_),(17,_),(18,_),(89,_),(90,_),(91,_)] (fun T L0 E I' loc'=>∃ (b9:Int),E=(20,.int .i64 b9)::T/\HLe J15 I'/\L++[(b_8,.cells (KC no va1 n vc1 va2 es.length vc2 va3 k vc3).toArray 41 (0,0))]=loc'/\b9=zcl rows xs k) ?_ ?_
  ·have hKc21:=zGN J15;refine zR (zM ?_);refine zM ?_;refine zV (zX Zn hH) ?_;refine zV (Qd U QK (fun hg=>by exact zGG hH hx0 U)) ?_;refine zM ?_;refine zV (zX Qx hQ0) ?_;refine zV (Qd U Qq (fun hg=>by exact zGG hQ0 hk0 U)) ?_;refine qcV (vs:=[_,_]) U zfr (KJ hQ kB _) ?_;refine zN ?_;refine zI ?_ ?_<;>intro hc106
   ·refine Qf (zM ?_);refine zV (zX Zn hH) ?_;refine zV (Qd U QK (fun hg=>by exact zGG hH hx0 U)) ?_;refine zM ?_;refine zV (zX Qx hQ0) ?_;refine zV (Qd U Qq (fun hg=>by exact zGG hQ0 hk0 U)) ?_;refine zA (Qb ?_)
    first
    | exact Y8 _ _ ⟨_,U,hKc21,U,by rw [<-zqM (rows:=rows) (cl:=xs) (k:=k) (by rw [hg0];exact hc106),hg0]⟩ (.cons U (.cons U (.cons U (.cons U (.cons U (.cons U (.cons U (.cons U .nil)))))))) .refl
   refine Qo ?_
   first
   | exact Y8 _ _ ⟨_,U,hKc21,U,zue (by rw [hg0];exact hc106)⟩ (.cons U (.cons U (.cons U (.cons U (.cons U (.cons U (.cons U (.cons U .nil)))))))) .refl
  rintro E J16 loc' ⟨b9,rfl,hJ106,rfl,hb9⟩;have hLf:=hLf.mono hJ106;have hB2:=hB2.trans hJ106;refine zY [(0,_),(8,_),(89,_),(90,_),(91,_)] (fun T L0 E I' loc'=>∃ (r9:Int) (lf2:List Em) (ea:Option Addr) (en ec:Nat),E=(17,.slice ea en ec)::(20,.int .i64 r9)::T/\HLe J16 I'/\L++[(b_8,.cells (KC no va1 n vc1 va2 es.length vc2 va3 k vc3).toArray 41 (0,0))]=loc'/\r9=zbK rows xs es k/\lf2=lfK es (k+1)/\Sl I' 3 V8 ea en ec lf2) ?_ ?_
  ·have hKc23:=zGN J16;refine zR (zM ?_);refine zQ Ww ?_;refine zC ?_;refine zM ?_;refine QA 3 U U U ?_;refine zK (Qj U) ?_;refine zK (zX Ww hLf) ?_;refine zK (Qe U JR) ?_;refine zK (Qd U Qq (fun hg=>by exact zGP (k:=0) hLf (Zc (d:=Xa) U (by first | omega | (simp [ZS] at hg;omega))) U)) ?_;refine zK (Qj U) ?_;refine zK (QI U U U) ?_;refine QE U U U U U ?_;refine zN ?_;refine zI ?_ ?_<;>intro hc123
   ·have hlf0:=(zdi (rows:=rows) (cl:=xs) hlf hc123).2.2;refine YE mixed kA ?_;refine zq (Qj U) ?_;refine zq (zX Ww hLf) ?_;refine zq (Qe U zeh) ?_;refine zq (Qd U Qq (fun hg=>by exact zGP (k:=0) hLf (Zc (d:=Xa) U (by first | omega | (simp [ZS] at hg;omega))) U)) ?_;refine zq (Qj U) ?_;refine zq (Jf U U Ww (fun hg=>kB)) ?_;refine zq (QU U) ?_;refine zq (QU U) ?_;refine YC ?_;exact Y8 _ _ ⟨_,lf.drop 1,_,_,_,U,hKc23,U,(zdi (rows:=rows) (cl:=xs) hlf hc123).1,(zdi (rows:=rows) (cl:=xs) hlf hc123).2.1,hLf.drop hlf0⟩ (.cons U (.cons U (.cons U (.cons U (.cons U (.cons U (.cons U .nil))))))) .refl
   refine Qo ?_;exact Y8 _ _ ⟨_,lf,_,_,_,U,hKc23,U,hb9.trans (zmF (rows:=rows) (cl:=xs) hlf hc123).1,(zmF (rows:=rows) (cl:=xs) hlf hc123).2,hLf⟩ (.cons U (.cons U (.cons U (.cons U (.cons U (.cons U (.cons U .nil))))))) .refl
  rintro E J17 loc' ⟨r9,lf2,ea,en,ec,rfl,hJ123,rfl,hr9,hlf2,hLf2⟩;have hB2:=hB2.trans hJ123;refine Qf ?_;refine zF KY ?_;refine zV (Qd U QK (fun hg=>by (repeat (first | exact zGI U | apply zGH | apply zGJ)))) ?_;refine zM ?_;refine zpb [(0,_)] [Q3 r9] Zw (fun b_133=>?_);refine zpa (_) ([r9].flatMap Q3) (L) U U Zw hO ⟨U,fun _=>U,by repeat (first | exact zGL | apply zGK | apply zGM)⟩ (JH [r9]) ?_;intro v9 L9 hO9 _;rw [<-jo] at hO9;obtain ⟨va9,vc9,rfl⟩:=zfu hO9;refine zF KY ?_;refine zS Ze ?_;refine Qb (Qg (Qa (Qf (zB ?_))));refine zM (Qb ?_);exact zm (h:=⟨(rows.getD 0 []).length-(k+1),kB,k+1,_,_,_,_,_,_,_,U,U,hB2,U,kB,hlf2,hLf2,by rw [zbX,<-hr9];exact hO9⟩)
 have hge_k:(rows.getD 0 []).length<=k:=(by have h:=O1 hc92;omega);obtain rfl:k=(rows.getD 0 []).length:=kB;refine QF (Qh (Qh (Qm (Qa (zR ?_)))));refine zV (Qk U Vn (fun hg=>by (repeat (first | exact zGL | apply zGK | apply zGM))) U) ?_;refine zh Wy ?_;refine zA (zN (Qr ?_))
 first
 | exact Zl U U U Vn (vs:=KC no va1 n vc1 va2 es.length vc2 va3 (rows.getD 0 []).length vc3) kG U (fun w hw=>by obtain ⟨I9,av9,c9,h1',h2',e9,h4'⟩:=OwnS.freeze (R:=[_]) hO Zh kE hw;cases e9;exact ⟨_,I9,[],U,hIc.trans h1',h2'.drop,U,_,by rw [zsb hcE hc36 hgo]<;>rfl,.inl ⟨zsb hcE hc36 hgo,va1,_,_,va2,_,_,va3,_,_,U,hCl.mono h1',hEm2.mono h1',h4'⟩⟩)
def zcf (rows:List (List Int))(no:Int)(cl:List Int)(es:List Em)(rd:List Int):Int:=if W0 rows no cl es≠0 then W0 rows no cl es else if rd=ZW rows cl es then 0 else 430
variable{no:Int}{cl rd:List Int}
theorem zED (h:W0 rows no cl es≠0):zcf rows no cl es rd=W0 rows no cl es:=by unfold zcf;rw [jb h]
theorem zFE (h:W0 rows no cl es=0)(h2:rd≠ZW rows cl es):zcf rows no cl es rd=430:=by unfold zcf;rw [ja kB,ja h2]
theorem zCv (h:W0 rows no cl es=0)(h2:rd=ZW rows cl es):zcf rows no cl es rd=0:=by unfold zcf;rw [ja kB,jb h2]
theorem zso (h:zcf rows no cl es rd=0):W0 rows no cl es=0/\rd=ZW rows cl es:=by
 unfold zcf at h;split at h
 ·rename_i h1;exact absurd h h1
 ·rename_i h1;split at h
  ·rename_i h2;exact ⟨kB,h2⟩
  ·cases h
theorem zzk (h:W0 rows no cl es=0):Y2 rows cl=0:=by
 unfold W0 at h;split at h
 ·rename_i h1;exact absurd h h1
 ·rename_i h1;omega
theorem zeL (h:Y2 rows cl=0):YL rows=0:=by
 cases Bz (YL rows=0) with
 | inl e=>exact e
 | inr e=>exact absurd ((ziY e).1.symm.trans h) e
variable{v:Value}
theorem zEs.opn {L:Go.Kn.Loc}(h:zEs rows no cl es v I' L):L=[]/\∃ (no2:Int) (cl2:List Int) (es2:List Em) (rd2:List Int) (a1:Option Addr) (n1 c1:Nat) (a2:Option Addr) (n2 c2:Nat) (a3:Option Addr) (n3 c3:Nat),
  v= .tuple #[.agg (KC no2 a1 n1 c1 a2 n2 c2 a3 n3 c3).toArray,.int .i64 (W0 rows no cl es)]/\Sl I' 1 Q3 a1 n1 c1 cl2/\Sl I' 3 V8 a2 n2 c2 es2/\Sl I' 1 Q3 a3 n3 c3 rd2/\
  (W0 rows no cl es=0->no2=no/\cl2=cl/\es2=es/\rd2=ZW rows cl es)/\(W0 rows no cl es≠0->no2=0/\cl2=[]/\es2=[]/\rd2=[]):=by
 obtain ⟨rfl,vs,rfl,h⟩:=h;rcases h with ⟨h0,a1,n1,c1,a2,n2,c2,a3,n3,c3,rfl,h1,h2,h3⟩ | ⟨h0,a1,n1,c1,a2,n2,c2,a3,n3,c3,rfl,h1,h2,h3⟩
 ·exact ⟨U,no,cl,es,ZW rows cl es,a1,n1,c1,a2,n2,c2,a3,n3,c3,U,h1,h2,h3,fun _=>⟨U,U,U,U⟩,fun h=>absurd h0 h⟩
 ·exact ⟨U,0,[],[],[],a1,n1,c1,a2,n2,c2,a3,n3,c3,U,h1,h2,h3,fun h=>absurd h h0,fun _=>⟨U,U,U,U⟩⟩
def nzF (row:List Int)(k:Nat):Nat:=((row.take k).filter fun c=>c != 0).length
variable{row:List Int}{k:Nat}
theorem zgl {c:Int}(h:row[k]? =some c)(hc:(c==0)=false):nzF row (k+1)=nzF row k+1:=by unfold nzF;rw [jP,h,jN,jh];have h2:(c != 0)=true:=(by simpa [bne] using hc);simp [h2]
theorem zmz {c:Int}(h:row[k]? =some c)(hc:(c==0)=true):nzF row (k+1)=nzF row k:=by unfold nzF;rw [jP,h,jN,jh];have h2:(c != 0)=false:=(by simpa [bne] using hc);simp [h2]
def zzX (ws:List Wr)(rows:List (List Int)):Prop:=∀ (i:Nat) (x:Wr) (row:List Int),ws[i]? =some x->rows[i]? =some row->∀ k,k<row.length->row.getD k 0≠0->nzF row k<x.rs.length
structure SgS where
 ex:Option Sg
 so:Option Sg
 many:Nat
 lost:Bool
def orS (a:Option Sg)(b:Sg):Option Sg:=match a with | none=>some b | some x=>some x
def zjR (code:Int)(s:SgS)(c:Int)(y:Rd):SgS:=
 if (c==0)=true then s else if y.lost=true then {s with lost:=true} else
 ⟨if (s.ex.isNone&&c==code)=true then some y.sg else s.ex,orS s.so y.sg,s.many+1,s.lost⟩
def zBi:Rd:=⟨false,zpy⟩
def ydF (ws:List Wr)(rows:List (List Int))(i k:Nat):Rd:=((ws[i]?).map (·.rs)).getD [] |>.getD (nzF (rows.getD i []) k) zBi
def sgK (ws:List Wr)(rows:List (List Int))(k:Nat)(code:Int):Nat->SgS
 | 0=>⟨none,none,0,false⟩
 | i+1=>zjR code (sgK ws rows k code i) ((rows.getD i []).getD k 0) (ydF ws rows i k)
inductive Out | err | skip | sg (x:Sg)
def Uk (k:Nat)(code:Int)(y:Sg)(m:Bool):Sg:={Xy code with id:=(k:Int),bar:=y.bar,mark:=if m=true then 3 else y.mark,fn:=y.fn,fd:=y.fd,tn:=y.tn,td:=y.td}
def zca (ws:List Wr)(rows:List (List Int))(k:Nat)(code:Int):Out:=
 if (code==0)=true then .skip else
 match (sgK ws rows k code rows.length).ex.or (sgK ws rows k code rows.length).so with
 | none=>.err
 | some y=>if (Kh code != 0)=true then .err else .sg (Uk k code y ((decide ((ws.length:Int)>1)&&((sgK ws rows k code rows.length).many:Int)==1)&& !(sgK ws rows k code rows.length).lost))
def UK (ws:List Wr)(rows:List (List Int))(rd:List Int):Nat->Option (List Sg)
 | 0=>some []
 | k+1=>match UK ws rows rd k with
  | none=>none
  | some l=>match zca ws rows k (rd.getD k 0) with
   | .err=>none
   | .skip=>some l
   | .sg x=>some (l++[x])
theorem zdz {ws : List Wr} {rows : List (List Int)} {rd : List Int} {k : Nat} (h : UK ws rows rd k = none) : ∀ j, k <= j -> UK ws rows rd j = none
  | 0, hj => by obtain rfl : k = 0 := by omega
                cases h
  | j + 1, hj => by
    by_cases e : k = j + 1
    · subst e; exact h
    · show (match UK ws rows rd j with | none => none | some l => match zca ws rows j (rd.getD j 0) with | .err => none | .skip => some l | .sg x => some (l ++ [x])) = none
      rw [zdz h j kB]
variable{ws:List Wr}{l:List Sg}
theorem zlu (h:UK ws rows rd k=some l)(ho:zca ws rows k (rd.getD k 0)= .err)(hk:k<rd.length):UK ws rows rd rd.length=none:=by refine zdz (k:=k+1) ?_ _ hk;show (match UK ws rows rd k with | none=>none | some l=>match zca ws rows k (rd.getD k 0) with | .err=>none | .skip=>some l | .sg x=>some (l++[x]))=none;rw [h];simp only;rw [ho]
theorem zis (h:UK ws rows rd k=some l)(ho:zca ws rows k (rd.getD k 0)= .skip):UK ws rows rd (k+1)=some l:=by show (match UK ws rows rd k with | none=>none | some l=>match zca ws rows k (rd.getD k 0) with | .err=>none | .skip=>some l | .sg x=>some (l++[x]))=_;rw [h];simp only;rw [ho]
variable{x:Sg}
theorem ztE (h:UK ws rows rd k=some l)(ho:zca ws rows k (rd.getD k 0)= .sg x):UK ws rows rd (k+1)=some (l++[x]):=by show (match UK ws rows rd k with | none=>none | some l=>match zca ws rows k (rd.getD k 0) with | .err=>none | .skip=>some l | .sg x=>some (l++[x]))=_;rw [h];simp only;rw [ho]
def Uz (ws:List Wr)(rows:List (List Int))(no:Int)(cl:List Int)(es:List Em)(rd:List Int):Int:=
 if zaM ws≠0 then zaM ws else if Yj ws≠rows then 430 else if zcf rows no cl es rd≠0 then zcf rows no cl es rd else if (UK ws rows rd rd.length).isNone=true then 430 else 0
def Jn (ws:List Wr)(rows:List (List Int))(no:Int)(cl:List Int)(es:List Em)(rd:List Int):List Sg:=
 if Uz ws rows no cl es rd≠0 then [] else (UK ws rows rd rd.length).getD []
theorem zgG (h:Uz ws rows no cl es rd≠0):Jn ws rows no cl es rd=[]:=by unfold Jn;rw [jb h]
theorem zDZ (h:zaM ws≠0):Uz ws rows no cl es rd=zaM ws:=by unfold Uz;rw [jb h]
theorem zEj (h:zaM ws=0)(h2:Yj ws≠rows):Uz ws rows no cl es rd=430:=by unfold Uz;rw [ja kB,jb h2]
theorem zE4 (h:zaM ws=0)(h2:Yj ws=rows)(h3:zcf rows no cl es rd≠0):Uz ws rows no cl es rd=zcf rows no cl es rd:=by unfold Uz;rw [ja kB,ja (fun e=>e h2),jb h3]
theorem zqQ (h:zaM ws=0)(h2:Yj ws=rows)(h3:zcf rows no cl es rd=0)(h4:UK ws rows rd rd.length=none):Uz ws rows no cl es rd=430:=by unfold Uz;rw [ja kB,ja (fun e=>e h2),ja kB,h4];rfl
theorem ztX (h:zaM ws=0)(h2:Yj ws=rows)(h3:zcf rows no cl es rd=0)(h4:UK ws rows rd rd.length=some l):Uz ws rows no cl es rd=0/\Jn ws rows no cl es rd=l:=by have e:Uz ws rows no cl es rd=0:=(by unfold Uz;rw [ja kB,ja (fun e=>e h2),ja kB,h4];rfl);exact ⟨e,by unfold Jn;rw [ja kB,h4];rfl⟩
theorem zuv (_h:zaM ws=0):(Ws ws != 0||ws.length==0)=false\/Yj ws=[]:=by
 cases e:(Ws ws != 0||ws.length==0) with
 | false=>exact .inl U
 | true=>exact .inr (zwu e).2
theorem zpJ:QP Tryz.prog 41 0 0:=.of kA
theorem zqs:QP Tryz.prog 41 1 1:=.of kA
theorem zi6:QP Tryz.prog 41 2 2:=.of kA
theorem zzz:Fun Tryz.prog 8:=.of Tryz.func8 kA kA
theorem zsN:ScT Tryz.prog 24:=.of kA
variable{ea1 ea2 ea3:Option Addr}{en1 ec1 en2 ec2 en3 ec3:Nat}
theorem zvK (hVn:SlN I bv n2 c2 rows)(hn2:n2<=100000){xs:List Int}(hX1:Sl I 1 Q3 ea1 en1 ec1 xs)(hX2:Sl I 3 V8 ea2 en2 ec2 es)(hX3:Sl I 1 Q3 ea3 en3 ec3 rd)(hm1:en1<=100000)(hm2:en2<=100000)(hm3:en3<=100000)(no:Int)(hDb:KR I):Zt Tryz.prog 35 [.slice bv n2 c2,.agg (KC no ea1 en1 ec1 ea2 en2 ec2 ea3 en3 ec3).toArray] I (.int .i64 (zcf rows no xs es rd)):=by
 intro g H w hw;refine qe Tryz.func35 Tryz.ntmps35 hw ?_;have hIc:=zGN I;refine zR ?_;refine QG U U U (fun b_3=>?_);refine zA ?_;refine zN (zR ?_);refine zM ?_;refine zF zpJ ?_;refine zL Qq ?_;refine zF zqs ?_;refine zL QK ?_;refine zF zi6 ?_;refine zL zsN ?_;refine zpc [_,_,_,_] U zzz .nil (ztr hX1 hVn hn2 hX2 hm2 hm1 hDb no) ?_;rintro vv1 I1 L1 hI1 hMQ;have hX3:=hX3.mono hI1;have hIc:=hIc.trans hI1;obtain ⟨rfl,no2,cl2,es2,rd2,a1,q1,c1,a2,q2,c9,a3,q3,c3,rfl,hM1,hM2,hM3,hMy,hMn⟩:=hMQ.opn;refine zM ?_;refine zE ?_;refine zE ?_;refine Qs zw8 U U (fun b_5=>?_);refine zh Wy ?_;refine zA (zN (Ql (zR ?_)));refine zM ?_;refine zC (zN ?_);refine zI ?_ ?_<;>intro hc18
 ·have hE0:W0 rows no xs es≠0:=(by have h:=hc18;simpa using h);refine zR (zM ?_);refine zA (zN (Qr (Qc ?_)))
  first
  | exact zp hIc U U (by rw [zED hE0]<;>rfl)
 have hE0:W0 rows no xs es=0:=(by have h:=hc18;simpa using h);obtain ⟨-, -, -,rfl⟩:=hMy hE0;refine Qo (Qa (Ql (zR ?_)));refine zF KY ?_;refine zL QK ?_;refine zF KY ?_;refine zL QK ?_;refine qcV (vs:=[_,_]) U zr3 (zm4 hX3 hM3 hm3) ?_;refine zO (zN ?_);refine zI ?_ ?_<;>intro hc25
 ·have hrd:rd≠ZW rows xs es:=fun e=>(by have h:=hc25;rw [jX e] at h;cases h);refine zR (zA (zN (Qr (Qc ?_))))
  first
  | exact zp hIc U U (by rw [zFE hE0 hrd]<;>rfl)
 have hrd:rd=ZW rows xs es:=OY fun e=>(by have h:=hc25;rw [j1 e] at h;cases h);refine Qo (Qa (zR (zA (zN (Qr ?_)))))
 first
 | exact zp hIc U U (by rw [zCv hE0 hrd]<;>rfl)
theorem zew :(Yj ws).length<=ws.length/\∀ x∈Yj ws,x.length<=256:=by
 unfold Yj;split
 ·exact ⟨jf _,fun x hx=>by cases hx⟩
 ·rename_i h;refine ⟨by simp,fun x hx=>?_⟩;obtain ⟨i,_,rfl⟩:=jt.1 hx;unfold zhF;rw [Yr];exact Nat.le_of_not_gt fun h2=>h (.inr h2)
theorem zjl (h:Yj ws=rows)(h0:0<rows.length):rows.length=ws.length:=by
 subst h;unfold Yj at h0 ⊢;split
 ·rename_i h;rw [jb h] at h0;simp at h0
 ·simp
theorem zvN :nzF row k<=k:=by unfold nzF;have h1:=j3 (fun c:Int=>c != 0) (row.take k);have h2:=AZ k row;omega
theorem zgW (xs:List Sg):YP (xs.flatMap Zk)=true:=Vb (fun _=>U) xs
def atN (rows:List (List Int))(k i:Nat):Nat->Nat:=fun j=>if j<i then nzF (rows.getD j []) (k+1) else nzF (rows.getD j []) k
variable{i:Nat}
theorem zio :Y7 (atN rows k i) i=((nzF (rows.getD i []) k:Nat):Int):=by unfold Y7 atN;rw [ja kB]
theorem zqF :(fun _=>0)=atN rows 0 0:=by funext j;unfold atN;rw [ja kB];rfl
theorem zun {v:Nat}(h:nzF (rows.getD i []) (k+1)=v):UW (atN rows k i) i v=atN rows k (i+1):=by
 funext j;by_cases e:j=i
 ·subst e;rw [Jt];unfold atN;rw [jb kB,h]
 ·rw [Kb e];unfold atN;by_cases h2:j<i
  ·rw [jb h2,jb kB]
  ·rw [ja h2,ja kB]
theorem zDk (h:nzF (rows.getD i []) (k+1)=nzF (rows.getD i []) k):atN rows k i=atN rows k (i+1):=by
 funext j;unfold atN;by_cases e:j=i
 ·subst e;rw [ja kB,jb kB,h]
 ·by_cases h2:j<i
  ·rw [jb h2,jb kB]
  ·rw [ja h2,ja kB]
theorem zpN :Vx n (Y7 (atN rows k n))=Vx n (Y7 (atN rows (k+1) 0)):=by unfold Vx;refine O6 fun j hj=>?_;unfold Y7 atN;rw [jb (jm.1 hj),ja kB]
variable{code:Int}
theorem zvb (h:((rows.getD i []).getD k 0==0)=true):sgK ws rows k code i=sgK ws rows k code (i+1):=by show _=zjR code (sgK ws rows k code i) ((rows.getD i []).getD k 0) (ydF ws rows i k);unfold zjR;rw [jb h]
theorem zvG {s:SgS}(hs:s=sgK ws rows k code i)(h:((rows.getD i []).getD k 0==0)=false)(hl:(ydF ws rows i k).lost=true):{s with lost:=true}=sgK ws rows k code (i+1):=by show _=zjR code (sgK ws rows k code i) ((rows.getD i []).getD k 0) (ydF ws rows i k);unfold zjR;rw [ja (by rw [h];decide),jb hl,hs]
theorem zBw {s:SgS}{y:Rd}(hs:s=sgK ws rows k code i)(h:((rows.getD i []).getD k 0==0)=false)(hy:ydF ws rows i k=y)(hl:y.lost=false)(he:(s.ex.isNone&&(rows.getD i []).getD k 0==code)=true):
  (⟨some y.sg,orS s.so y.sg,s.many+1,s.lost⟩:SgS)=sgK ws rows k code (i+1):=by
 show _=zjR code (sgK ws rows k code i) ((rows.getD i []).getD k 0) (ydF ws rows i k);unfold zjR;rw [ja (by rw [h];decide),hy,ja (by rw [hl];decide),<-hs,jb he]
theorem zE3 {s:SgS}{y:Rd}(hs:s=sgK ws rows k code i)(h:((rows.getD i []).getD k 0==0)=false)(hy:ydF ws rows i k=y)(hl:y.lost=false)(he:(s.ex.isNone&&(rows.getD i []).getD k 0==code)=false):
  (⟨s.ex,orS s.so y.sg,s.many+1,s.lost⟩:SgS)=sgK ws rows k code (i+1):=by
 show _=zjR code (sgK ws rows k code i) ((rows.getD i []).getD k 0) (ydF ws rows i k);unfold zjR;rw [ja (by rw [h];decide),hy,ja (by rw [hl];decide),<-hs,ja (by rw [he];decide)]
theorem zmK {ws:List Wr}{rows:List (List Int)}{k:Nat}{code:Int}:∀ i,(sgK ws rows k code i).many<=i
 | 0=>js _
 | i+1=>by
  have ih:=zmK (ws:=ws) (rows:=rows) (k:=k) (code:=code) i;show (zjR code (sgK ws rows k code i) ((rows.getD i []).getD k 0) (ydF ws rows i k)).many<=i+1;unfold zjR;split
  ·omega
  ·split
   ·show (sgK ws rows k code i).many<=i+1;omega
   ·show (sgK ws rows k code i).many+1<=i+1;omega
theorem ziH (h:(code==0)=true):zca ws rows k code= .skip:=by unfold zca;rw [jb h]
theorem zqg {s:SgS}(h:(code==0)=false)(hs:s=sgK ws rows k code rows.length)(hn:s.ex.or s.so=none):zca ws rows k code= .err:=by subst hs;unfold zca;rw [ja (by rw [h];decide),hn]
variable{y:Sg}
theorem zwC {s:SgS}(h:(code==0)=false)(hs:s=sgK ws rows k code rows.length)(hn:s.ex.or s.so=some y)(he:(Kh code != 0)=true):zca ws rows k code= .err:=by subst hs;unfold zca;rw [ja (by rw [h];decide),hn];simp only;rw [jb he]
theorem zCP {s:SgS}(h:(code==0)=false)(hs:s=sgK ws rows k code rows.length)(hn:s.ex.or s.so=some y)(he:(Kh code != 0)=false):
  zca ws rows k code= .sg (Uk k code y ((decide ((ws.length:Int)>1)&&(s.many:Int)==1)&& !s.lost)):=by
 subst hs;unfold zca;rw [ja (by rw [h];decide),hn];simp only;rw [ja (by rw [he];decide)]
theorem ztA {x:Wr}{y:Rd}(hx:ws[i]? =some x)(hy:x.rs[nzF (rows.getD i []) k]? =some y):ydF ws rows i k=y:=by unfold ydF;rw [hx];exact Q1 hy
variable{b t:Nat}{vs:List Value}{fz:Nat×Nat}
theorem Cells.two {off:Nat}{u u':Value}{l:Go.Kn.Loc}(h:I b=some (.cells vs.toArray t fz))(h0:vs[off]? =some u)(h1:vs[off+1]? =some u'):Cells I l b off [u,u']:=fun j v hj=>by
 rcases j with _ | _ | j
 ·cases hj;exact .imm h (by rw [YU];simpa using h0)
 ·cases hj;exact .imm h (by rw [YU];simpa using h1)
 ·simp at hj
def Vy (t:Nat)(I:Qt)(p:Option Addr)(s:Option Sg):Prop:=match s with
 | none=>p=none
 | some x=>∃ b l,p=some ⟨b,1,none⟩/\I b=some (.cells (Wq ⟨l,x⟩).toArray t (0,0))
variable{p:Option Addr}{s:Option Sg}
theorem Vy.mono (h:Vy t I p s)(hI:HLe I I'):Vy t I' p s:=by
 cases s with
 | none=>exact h
 | some x=>obtain ⟨b,l,h1,h2⟩:=h;exact ⟨b,l,h1,hI _ _ h2⟩
theorem Vy.isNone (h:Vy t I p s):p.isNone=s.isNone:=by
 cases s with
 | none=>have h:p=none:=h;subst h;rfl
 | some x=>obtain ⟨b,l,rfl,h2⟩:=h;rfl
theorem Vy.new {y:Rd}(h:I b=some (.cells (Wq y).toArray t (0,0))):Vy t I (some ⟨b,0+1,none⟩) (some y.sg):=⟨b,y.lost,U,h⟩
variable{q:Option Addr}
theorem Vy.orN (h:Vy t I p s)(hp:p.isNone=true)(hq:Vy t I q (some y)):Vy t I q (orS s y):=by
 have:=h.isNone;rw [hp] at this
 cases s with
 | none=>exact hq
 | some x=>cases this
theorem Vy.orS (h:Vy t I p s)(hp:p.isNone=false):Vy t I p (orS s y):=by
 have:=h.isNone;rw [hp] at this
 cases s with
 | none=>cases this
 | some x=>exact h
variable{u:Option Sg}
theorem Vy.orY (h:Vy t I p s)(hp:p.isNone=true)(hq:Vy t I q u):Vy t I q (s.or u):=by
 have:=h.isNone;rw [hp] at this
 cases s with
 | none=>exact hq
 | some x=>cases this
theorem Vy.orX (h:Vy t I p s)(hp:p.isNone=false):Vy t I p (s.or u):=by
 have:=h.isNone;rw [hp] at this
 cases s with
 | none=>cases this
 | some x=>exact h
theorem Vy.at (h:Vy t I p s)(hp:p.isNone=false):∃ x b l,s=some x/\p=some ⟨b,1,none⟩/\I b=some (.cells (Wq ⟨l,x⟩).toArray t (0,0)):=by
 have:=h.isNone;rw [hp] at this
 cases s with
 | none=>cases this
 | some x=>obtain ⟨b,l,h1,h2⟩:=h;exact ⟨x,b,l,U,h1,h2⟩
theorem Vy.none (h:Vy t I p s)(hp:p.isNone=true):s=Option.none:=by
 have:=h.isNone;rw [hp] at this
 cases s with
 | none=>rfl
 | some x=>cases this
theorem zAJ:Fun Tryz.prog 33:=.of Tryz.func33 kA kA
theorem zBE:Fun Tryz.prog 35:=.of Tryz.func35 kA kA
theorem zvf:Fun Tryz.prog 6:=.of Tryz.func6 kA kA
theorem YQ:SzT Tryz.prog 26 2:=.of kA
theorem zdr:Tryz.prog.underlying 103=some (.pointer 28):=kA
def zsf (ws:List Wr)(rows:List (List Int))(no:Int)(cl:List Int)(es:List Em)(rd:List Int):Value->Qt->Go.Kn.Loc->Prop:=fun v I' L=>L=[]/\∃ av c,v= .tuple #[.slice av (Jn ws rows no cl es rd).length c,.int .i64 (Uz ws rows no cl es rd)]/\Sl I' 14 Zk av (Jn ws rows no cl es rd).length c (Jn ws rows no cl es rd)
variable{e:Int}
theorem zsf.bad (h:Uz ws rows no cl es rd=e)(he:e≠0):zsf ws rows no cl es rd (.tuple #[.slice none 0 0,.int .i64 e]) I' []:=by have h0:=zgG (show Uz ws rows no cl es rd≠0 by rw [h];exact he);exact ⟨U,none,0,by rw [h0,h];rfl,by rw [h0];exact .nil⟩
set_option maxHeartbeats 40000000 in
theorem w_Signs     (hW0:SlW I av n c ws) (hn:n<=100000)    (hVn:SlN I bv n2 c2 rows) (hn2:n2<=100000)       {xs:List Int}   (hX1:Sl I 1 Q3 ea1 en1 ec1 xs) (hX2:Sl I 3 V8 ea2 en2 ec2 es) (hX3:Sl I 1 Q3 ea3 en3 ec3 rd) (hm1:en1<=100000) (hm2:en2<=100000) (hm3:en3<=100000) (no:Int) (hDb:KR I) (hnz:Yj ws=rows->zzX ws rows):ZQ Tryz.prog 9 [.slice av n c,.slice bv n2 c2,.agg (KC no ea1 en1 ec1 ea2 en2 ec2 ea3 en3 ec3).toArray] I [] (zsf ws rows no xs es rd):=by
 intro g H w hw;refine qe Tryz.func9 Tryz.ntmps9 hw ?_;have hIc:=zGN I;obtain ⟨hds,hW⟩:=id hW0;have hH:=hW.1;have hlW:=hW.len;subst hlW;have hlV:=hVn.len;subst hlV;have hlX3:=hX3.len;subst hlX3;refine zR ?_;refine QG U U U (fun b_5=>?_);refine zA ?_;refine zA (zN ?_);refine zxU ?_;refine zR (zM ?_);refine zpc [_] U zvf .nil (zgS hW0 hn) ?_;rintro vv1 I1 L1 hI1 ⟨rfl,av8,c8,rfl,hTb⟩;have hW:=hW.mono hI1;have hH:=hH.mono hI1;have hVn:=hVn.mono hI1;have hX1:=hX1.mono hI1;have hX2:=hX2.mono hI1;have hX3:=hX3.mono hI1;have hDb:=hDb.mono hI1;have hIc:=hIc.trans hI1;refine zM ?_;refine zE ?_;refine zE ?_;refine zA ?_;refine zA (zN (Ql (zR ?_)));refine zM ?_;refine zC (zN ?_);refine zI ?_ ?_<;>intro hc28
 ·have hcT:zaM ws≠0:=(by have h:=hc28;simpa using h);refine zR (zM ?_);refine zA ?_;refine zA (zN (Qr (Qc ?_)));refine JT ?_;exact Q9 U U U (fun w hw=>⟨_,_,[],U,hIc,hw.drop,zsf.bad (zDZ hcT) hcT⟩)
 have hcT:zaM ws=0:=(by have h:=hc28;simpa using h);refine Qo (Qa (Ql (zR (zM ?_))));refine zM ?_;refine qcV (vs:=[_,_,_]) U zAJ (zqm hTb hVn (by have:=(zew (ws:=ws)).1;omega) (fun x hx=>jT (zew.2 x hx) kE)) ?_;refine zO (zN ?_);refine zI ?_ ?_<;>intro hc33
 ·have hne:Yj ws≠rows:=fun e=>(by have h:=hc33;rw [jX e] at h;cases h);refine zR (zA ?_);refine zA (zN (Qr (Qc ?_)));refine JT ?_;exact Q9 U U U (fun w hw=>⟨_,_,[],U,hIc,hw.drop,zsf.bad (zEj hcT hne) kE⟩)
 have heq:Yj ws=rows:=OY fun e=>(by have h:=hc33;rw [j1 e] at h;cases h);refine Qo (Qa (Ql (zR (zM ?_))));refine zV (Qk U Vn (fun hg=>by exact Cells.g0) U) ?_;refine qcV (vs:=[_,_]) U zBE (zvK hVn hn2 hX1 hX2 hX3 hm1 hm2 hm3 no hDb) ?_;refine zA ?_;refine zN (zR ?_);refine zM ?_;refine zC (zN ?_);refine zI ?_ ?_<;>intro hc38
 ·have hcE:zcf rows no xs es rd≠0:=(by have h:=hc38;simpa using h);refine zR (zM ?_);refine zA ?_;refine zA (zN (Qr (Qc ?_)));refine JT ?_;exact Q9 U U U (fun w hw=>⟨_,_,[],U,hIc,hw.drop,zsf.bad (zE4 hcT heq hcE) hcE⟩)
 have hcE:zcf rows no xs es rd=0:=(by have h:=hc38;simpa using h);obtain ⟨hm0,hrd⟩:=zso hcE;have hco:=zzk hm0;obtain ⟨hr1,hr6,hr64,hrr⟩:=Uh (zeL hco);have hlen:=zjl heq kB;have hrdl:rd.length=(rows.getD 0 []).length:=(by rw [hrd];exact zbM);have hnz:=hnz heq;obtain ⟨vhs,hV⟩:=id hVn;have hVh:=hV.1;refine Qo (Qa (Ql ?_));refine QQ (b:=b_5) (by repeat (first | exact Zf.here | apply Zf.there)) (fun I2 hI2 hb2=>?_);have hW:=hW.mono hI2;have hH:=hH.mono hI2;have hX3:=hX3.mono hI2;have hV:=hV.mono hI2;have hVh:=hVh.mono hI2;have hIc:=hIc.trans hI2;have hC5:QB I2 [] b_5 3 (.slice ea3 rd.length ec3):=.imm hb2 U;refine Qf (zM ?_);refine zQ VK ?_;refine Q7 Vi U U kB kE U U (fun b_42=>?_);refine zA (Qb ?_);rw [show ((ws.length:Nat):Int).toNat=ws.length from U,Q5,Zj,Xp,zqF (rows:=rows)];refine Qa (Ql ?_);refine zyk ?_;refine Qa (Ql (Ql ?_));refine KA (loc':=[]++[(b_42,.cells (Zm (Vx ws.length (Y7 (atN rows 0 0)))) 3 (0,0))]) U ?_;refine Qf ?_;refine zF KY ?_;refine zV (Qd U QK (fun hg=>by exact hC5.any)) ?_;refine zQ Qx ?_;refine zM (zN (Qp ?_));refine zU [(0,_),(1,_),(10,_),(44,_),(45,_)] (fun T L0 mz E I' loc'=>∃ (k:Nat) (l:List Sg) (v6:Value) (L:Go.Kn.Loc),mz=rd.length-k/\E=(6,v6)::(46,.int .i64 k)::T/\HLe I2 I'/\L++[(b_42,.cells (Zm (Vx ws.length (Y7 (atN rows k 0)))) 3 (0,0))]=loc'/\k<=rd.length/\UK ws rows rd k=some l/\OwnS 28 14 v6 l.length (l.flatMap Zk) L/\l.length<=k) ?_ (h:=⟨0,[],_,[],U,U,zGN _,U,jf _,U,OwnS.nil,js _⟩);rintro mz E J3 loc' ⟨k,l,v6,L,rfl,rfl,hJ,rfl,hk,hsg,hO,hlk⟩;have hW:=hW.mono hJ;have hH:=hH.mono hJ;have hX3:=hX3.mono hJ;have hV:=hV.mono hJ;have hVh:=hVh.mono hJ;have hIc:=hIc.trans hJ;have hB0:=hJ;refine zR (zC (zN (Ql ?_)));refine zI ?_ ?_<;>intro hc47
 ·have hlt_k:k<rd.length:=(by have h:=hc47;simp at h;omega);obtain ⟨code,hk⟩:=hX3.at hlt_k;refine Qo (Qa (Ql (Qp (zR (zM ?_)))));refine zV (zX Qx hX3) ?_;refine zV (Qd U Qq (fun hg=>by exact zGG hX3 hk U)) ?_;refine zA ?_;refine zA ?_;refine zN (zR ?_);refine zA ?_;refine zA ?_;refine zN (zR ?_);refine zA ?_;refine zA (zN (Ql (zR ?_)));refine zM ?_;refine zQ Zn ?_;refine zM (zN (Qp ?_));refine zU [(0,_),(1,_),(6,_),(10,_),(11,_),(12,_),(44,_),(45,_),(46,_),(51,_),(52,_)] (fun T L0 mz E I' loc'=>∃ (i:Nat) (s:SgS) (p13:Option Addr) (p14:Option Addr),mz=rows.length-i/\E=(13,.pointer p13)::(14,.pointer p14)::(15,.int .i64 ((s.many:Nat):Int))::(16,.bool s.lost)::(53,.int .i64 i)::T/\HLe J3 I'/\L++[(b_42,.cells (Zm (Vx ws.length (Y7 (atN rows k i)))) 3 (0,0))]=loc'/\i<=rows.length/\s=sgK ws rows k code i/\Vy 69 I' p13 s.ex/\Vy 69 I' p14 s.so) ?_ (h:=⟨0,⟨none,none,0,false⟩,none,none,U,U,zGN _,U,jf _,U,U,U⟩);rintro mz E J4 loc' ⟨i,s,p13,p14,rfl,rfl,hJ,rfl,hi,hs,hp13,hp14⟩;have hW:=hW.mono hJ;have hH:=hH.mono hJ;have hV:=hV.mono hJ;have hVh:=hVh.mono hJ;have hIc:=hIc.trans hJ;have hB0:=hB0.trans hJ;have hB2:=hJ;refine zR (zC (zN (Ql ?_)));refine zI ?_ ?_<;>intro hc54
  ·have hlt_i:i<rows.length:=(by have h:=hc54;simp at h;omega);obtain ⟨vx,row,hvx,hvr,hQ⟩:=hV.at hlt_i;obtain ⟨wx,xw,hwx,hxw,e1,e2,hR⟩:=hW.at (show i<ws.length by omega);have hrl:=(hrr row (jd hvr)).1;have hQl:=hQ.len;have hRl:=hR.len;have hrk:row[k]? =some (row.getD k 0):=Zc U kB;have hrk0:=hrk;have hrg2:rows.getD i []=row:=Q1 hvr;have hrg:(rows.getD i []).getD k 0=row.getD k 0:=(by rw [hrg2]);have hnzk:=zvN (row:=rows.getD i []) (k:=k);have hms:=zmK (ws:=ws) (rows:=rows) (k:=k) (code:=code) i;rw [<-hs] at hms;refine Qo (Qa (Ql (Qp (zR (zM ?_)))));refine zV (zX Zn hVh) ?_;refine zV (Qd U QK (fun hg=>by exact zGG hVh hvx U)) ?_;refine zA ?_;refine zA (zN (Ql (zR ?_)));refine zM ?_;refine zM ?_;refine zV (zX Qx hQ) ?_;refine zV (Qd U Qq (fun hg=>by exact zGG hQ hrk0 U)) ?_;refine zC (zN ?_);refine zI ?_ ?_<;>intro hc62
   ·have hc62:(row.getD k 0==0)=true:=hc62;refine KA (loc':=L++[(b_42,.cells (Zm (Vx ws.length (Y7 (atN rows k (i+1))))) 3 (0,0))]) (by rw [zDk (by rw [hrg2];exact zmz hrk hc62)]) ?_;refine QF (Qh (Qm (Qa (Qf (zB ?_)))));refine zM (Qb ?_)
    first
    | exact zm (h:=⟨rows.length-(i+1),kB,i+1,s,p13,p14,U,U,hB2,U,kB,by rw [hs];exact zvb (by rw [hrg];exact hc62),hp13,hp14⟩)
   have hc62:(row.getD k 0==0)=false:=hc62;have hnzi:=hnz i xw row hxw hvr k kB (by have h:=hc62;simpa using h);obtain ⟨y,hy⟩:∃ y,xw.rs[nzF (rows.getD i []) k]? =some y:=⟨_,je (by rw [hrg2];exact hnzi)⟩;have hyd:ydF ws rows i k=y:=ztA hxw hy;have hnzi2:nzF (rows.getD i []) k<xw.rs.length:=(by rw [hrg2];exact hnzi);refine Qo (Qa (Ql ?_));have hD:=zGN J4;refine KF mixed ?_;refine zT 0 U (Qj U) hD ?_;refine zT 1 U (Qj U) hD ?_;refine zT 2 U (zX VK hH) hD ?_;refine zT 3 U (Qe U Xb) hD ?_;refine zT 4 U (Qd U zfX (fun hg=>by exact zGP hH hwx U)) hD ?_;refine zT 5 U (Qj U) hD ?_;refine zT 6 U (Qj U) hD ?_;refine zT 7 U (Q2 U U Qx (fun hg=>kB)) hD ?_;refine zT 8 U (Qd U Qq (fun hg=>by exact zGJ (JJ (k:=i) (Va (show i<_ by omega))))) hD ?_;rw [zio];refine zT 9 U (zX zce hR) hD ?_;refine zT 10 U (Qk U znC (fun hg=>by exact zGO hR hy) U) hD ?_;refine qd 11 U ?_;refine Qs zuI U U (fun b_19=>?_);refine Qb ?_;refine zD hD ?_;refine qd 12 U ?_;refine zh zlv ?_;refine Qb ?_;refine zD hD ?_;refine Qz kA ?_;refine QD ?_;refine Qa (zR (zM ?_));refine zM ?_;refine zV (Q2 U U Qx (fun hg=>kB)) ?_;refine zV (Qd U Qq (fun hg=>by exact zGH (zGJ (JJ (k:=i) (Va (show i<_ by omega)))))) ?_;rw [zio];refine zB ?_;refine zV (Q2 U U Qx (fun hg=>kB)) ?_;refine Z0 U U ZD U U (by repeat (first | exact Upd.here | apply Upd.there | apply QH)) (zCK kO) ?_;refine Qb ?_;rw [V9,Kv,show ((nzF (rows.getD i []) k:Nat):Int)+1=((nzF (rows.getD i []) k+1:Nat):Int) from U,zbC,zun (by rw [hrg2];exact zgl hrk hc62)];refine Qa (Ql (Ql ?_));refine QQ (b:=b_19) (by repeat (first | exact Zf.here | apply Zf.there)) (fun I5 hI5 hb19=>?_);have hp13:=hp13.mono hI5;have hp14:=hp14.mono hI5;have hQ:=hQ.mono hI5;have hB2:=hB2.trans hI5;have hp19:=Vy.new hb19;refine Qf ?_;refine zF JG ?_;refine zV (Qd U zdw (fun hg=>by exact .imm hb19 U)) ?_;refine zN ?_;refine zI ?_ ?_<;>intro hc81
   ·refine zR (zA (zN (QF (Qh (Qm (Qa (Qf ?_)))))));refine zB ?_;refine zM (Qb ?_)
    first
    | exact zm (h:=⟨rows.length-(i+1),kB,i+1,{s with lost:=true},p13,p14,U,U,hB2,U,kB,zvG hs (by rw [hrg];exact hc62) (by rw [hyd];exact hc81),hp13,hp14⟩)
   refine Qo (Qa (zR (zM ?_)));refine zB ?_;refine zA (zN ?_);refine zY [(0,_),(1,_),(6,_),(10,_),(11,_),(12,_),(13,_),(15,_),(16,_),(18,_),(19,_),(44,_),(45,_),(46,_),(51,_),(52,_),(53,_)] (fun T L0 E I' loc'=>∃ (q14:Option Addr),E=(14,.pointer q14)::T/\HLe I5 I'/\L++[(b_42,.cells (Zm (Vx ws.length (Y7 (atN rows k (i+1))))) 3 (0,0))]=loc'/\Vy 69 I' q14 (orS s.so y.sg)) ?_ ?_
   ·have hKc24:=zGN I5;refine zR (zM ?_);refine zV (Xq U U zdr) ?_;refine zN ?_;refine zI ?_ ?_<;>intro hc85
    ·refine Qf ?_;refine zF Kl ?_;refine zA (Qb ?_);exact Y8 _ _ ⟨_,U,hKc24,U,hp14.orN hc85 hp19⟩ (.cons U (.cons U (.cons U (.cons U (.cons U (.cons U (.cons U (.cons U (.cons U (.cons U (.cons U (.cons U (.cons U (.cons U (.cons U (.cons U (.cons U (.cons U .nil)))))))))))))))))) .refl
    refine Qo ?_;exact Y8 _ _ ⟨_,U,hKc24,U,hp14.orS hc85⟩ (.cons U (.cons U (.cons U (.cons U (.cons U (.cons U (.cons U (.cons U (.cons U (.cons U (.cons U (.cons U (.cons U (.cons U (.cons U (.cons U (.cons U (.cons U .nil)))))))))))))))))) .refl
   rintro E J6 loc' ⟨q14,rfl,hJ85,rfl,hq14⟩;have hp13:=hp13.mono hJ85;have hQ:=hQ.mono hJ85;have hp19:=hp19.mono hJ85;have hB2:=hB2.trans hJ85;refine zR (zM ?_);refine zV (Xq U U zdr) ?_;refine zM ?_;refine QA 2 U U U ?_;refine zK (Qj U) ?_;refine zK (Qj U) ?_;refine zK (zX Qx hQ) ?_;refine zK (Qd U Qq (fun hg=>by exact zGG hQ hrk0 U)) ?_;refine zK (Qj U) ?_;refine zK (QI U U U) ?_;refine QE U U U U U ?_;refine zN ?_;refine zI ?_ ?_<;>intro hc96
   ·refine Qf ?_;refine zF Kl ?_;refine zA (Qb (Qg (Qa (Qf ?_))));refine zB ?_;refine zM (Qb ?_)
    first
    | exact zm (h:=⟨rows.length-(i+1),kB,i+1,⟨some y.sg,orS s.so y.sg,s.many+1,s.lost⟩,_,q14,U,U,hB2,U,kB,zBw hs (by rw [hrg];exact hc62) hyd hc81 (by rw [hrg,<-hp13.isNone];exact hc96),hp19,hq14⟩)
   refine Qo (Qg (Qa (Qf (zB ?_))));refine zM (Qb ?_)
   first
   | exact zm (h:=⟨rows.length-(i+1),kB,i+1,⟨s.ex,orS s.so y.sg,s.many+1,s.lost⟩,p13,q14,U,U,hB2,U,kB,zE3 hs (by rw [hrg];exact hc62) hyd hc81 (by rw [hrg,<-hp13.isNone];exact hc96),hp13,hq14⟩)
  have hge_i:rows.length<=i:=(by have h:=hc54;simp at h;omega);obtain rfl:i=rows.length:=kB;refine QF (Qh (Qh (Qm (Qa (Ql (Ql ?_))))));refine KA (loc':=L++[(b_42,.cells (Zm (Vx ws.length (Y7 (atN rows (k+1) 0)))) 3 (0,0))]) (by rw [hlen,zpN]) ?_;refine Qf (zM ?_);refine zC (zN ?_);refine zI ?_ ?_<;>intro hc100
  ·refine QF (Qh (Qm (Qa (Qf (zB ?_)))));refine zM (Qb ?_)
   first
   | exact zm (h:=⟨rd.length-(k+1),kB,k+1,_,_,_,U,U,hB0,U,kB,zis hsg (by rw [Q1 hk];exact ziH hc100),hO,kB⟩)
  refine Qo (Qa ?_);refine zY [(0,_),(1,_),(6,_),(10,_),(11,_),(12,_),(15,_),(16,_),(44,_),(45,_),(46,_)] (fun T L0 E I' loc'=>∃ (q13:Option Addr),E=(13,.pointer q13)::T/\HLe J4 I'/\L++[(b_42,.cells (Zm (Vx ws.length (Y7 (atN rows (k+1) 0)))) 3 (0,0))]=loc'/\Vy 69 I' q13 (s.ex.or s.so)) ?_ ?_
  ·have hKc30:=zGN J4;refine zR (zM ?_);refine zV (Xq U U zdr) ?_;refine zN ?_;refine zI ?_ ?_<;>intro hc102
   ·refine Qf (zM ?_);refine zA (Qb ?_);exact Y8 _ _ ⟨_,U,hKc30,U,hp13.orY hc102 hp14⟩ (.cons U (.cons U (.cons U (.cons U (.cons U (.cons U (.cons U (.cons U (.cons U (.cons U (.cons U (.cons U .nil)))))))))))) .refl
   refine Qo ?_;exact Y8 _ _ ⟨_,U,hKc30,U,hp13.orX hc102⟩ (.cons U (.cons U (.cons U (.cons U (.cons U (.cons U (.cons U (.cons U (.cons U (.cons U (.cons U (.cons U .nil)))))))))))) .refl
  rintro E J7 loc' ⟨q13,rfl,hJ102,rfl,hq13⟩;have hIc:=hIc.trans hJ102;have hB0:=hB0.trans hJ102;refine Ql (zR (zM ?_));refine zV (Xq U U zdr) ?_;refine zN ?_;refine zI ?_ ?_<;>intro hc105
  ·have hso:=hq13.none hc105;refine zR (zA ?_);refine zA (zN (Qr (Qc (Qn (Qc (Qc (Qn ?_)))))));refine Qc ?_;refine JT ?_
   first
   | exact Q9 U U U (fun w hw=>⟨_,_,[],U,hIc,hw.drop,zsf.bad (zqQ hcT heq hcE (zlu hsg (by rw [Q1 hk];exact zqg hc100 hs hso) hlt_k)) kE⟩)
  obtain ⟨sy,spb,spl,hso,rfl,hsp⟩:=hq13.at hc105;refine Qo (Qa (zR (zM ?_)));refine qcV (vs:=[_]) U zk1 (zok _ _) ?_;refine zM ?_;refine zE ?_;refine zE ?_;refine Qs UV U U (fun b_20=>?_);refine zh Yk ?_;refine zA (zN (Ql (zR ?_)));refine zM ?_;refine zC (zN ?_);refine zI ?_ ?_<;>intro hc112
  ·have he1:(Kh code != 0)=true:=hc112;refine zR (zA ?_);refine zA (zN (Qr (Qc (Qn (Qc (Qc (Qn ?_)))))));refine Qc ?_;refine JT ?_
   first
   | exact Q9 U U U (fun w hw=>⟨_,_,[],U,hIc,hw.drop,zsf.bad (zqQ hcT heq hcE (zlu hsg (by rw [Q1 hk];exact zwC hc100 hs hso he1) hlt_k)) kE⟩)
  have he0:(Kh code != 0)=false:=hc112;refine Qo (Qa (Ql ?_));have hD:=zGN J7;refine YZ ?_;refine ZA J7 [] mixed ?_;refine zT 0 U (Qj U) hD ?_;refine zT 1 U (Qj U) hD ?_;refine zT 2 U (Qu U) hD ?_;refine zT 3 U (Qe U Yq) hD ?_;refine zT 4 U (Qd U Qq (fun hg=>by exact .imm hsp U)) hD ?_;refine zT 5 U (Qj U) hD ?_;refine zT 6 U (Qu U) hD ?_;refine zT 7 U (Qe U VJ) hD ?_;refine zT 8 U (Qd U Qq (fun hg=>by exact .imm hsp U)) hD ?_;refine zT 9 U (Qj U) hD ?_;refine zT 10 U (Qu U) hD ?_;refine zT 11 U (Qe U Ym) hD ?_;refine zT 12 U (Qk U Zs (fun hg=>by exact Cells.two hsp U U) U) hD ?_;refine zT 13 U (Qj U) hD ?_;refine zT 14 U (Qu U) hD ?_;refine zT 15 U (Qe U Yl) hD ?_;refine zT 16 U (Qk U Zs (fun hg=>by exact Cells.two hsp U U) U) hD ?_;refine zT 17 U (Qe U Zb) hD ?_;refine qd 18 U ?_;refine zS ZD ?_;refine Qb ?_;refine zD hD ?_;refine zT 19 U (Qe U Yq) hD ?_;refine qd 20 U ?_;refine zS ZD ?_;refine Qb ?_;refine zD hD ?_;refine zT 21 U (Qe U VJ) hD ?_;refine qd 22 U ?_;refine zS ZD ?_;refine Qb ?_;refine zD hD ?_;refine zT 23 U (Qe U Ym) hD ?_;refine qd 24 U ?_;refine YO U U YQ U U U U (by repeat (first | exact Upd.here | apply Upd.there | apply QH)) ?_;refine Qb ?_;refine zD hD ?_;refine zT 25 U (Qe U Yl) hD ?_;refine qd 26 U ?_;refine YO U U YQ U U U U (by repeat (first | exact Upd.here | apply Upd.there | apply QH)) ?_;refine Qb ?_;refine zD hD ?_;refine Qz kA ?_;refine QD ?_;refine zir (loc':=(b_20,.cells (Zk ({Xy code with id:=(k:Int),bar:=sy.bar,mark:=sy.mark,fn:=sy.fn,fd:=sy.fd,tn:=sy.tn,td:=sy.td}:Sg)).toArray 28 (0,0))::(L++[(b_42,.cells (Zm (Vx ws.length (Y7 (atN rows (k+1) 0)))) 3 (0,0))])) U ?_;refine Qa ?_;refine zY [(0,_),(1,_),(6,_),(10,_),(20,_),(44,_),(45,_),(46,_)] (fun T L0 E I' loc'=>E=T/\HLe J7 I'/\(b_20,.cells (Zk (Uk k code sy ((decide ((ws.length:Int)>1)&&(s.many:Int)==1)&& !s.lost))).toArray 28 (0,0))::(L++[(b_42,.cells (Zm (Vx ws.length (Y7 (atN rows (k+1) 0)))) 3 (0,0))])=loc') ?_ ?_
  ·have hKc38:=zGN J7;refine zR (zM ?_);refine zQ VK ?_;refine zC ?_;refine zM ?_;refine QA 3 U U U ?_;refine zK (Qj U) ?_;refine zK (QI U U U) ?_;refine QE U U U U U ?_;refine zM ?_;refine QA 7 U U U ?_;refine zK (Qj U) ?_;refine zK (Vv U) ?_;refine QE U U U U U ?_;refine zN ?_;refine zI ?_ ?_<;>intro hc145
   focus
    refine Qf ?_;refine zF VJ ?_;refine zS ZD ?_;refine Qb ?_;refine zir (loc':=(b_20,.cells (Zk (Uk k code sy ((decide ((ws.length:Int)>1)&&(s.many:Int)==1)&& !s.lost))).toArray 28 (0,0))::(L++[(b_42,.cells (Zm (Vx ws.length (Y7 (atN rows (k+1) 0)))) 3 (0,0))])) (by rw [hc145];rfl) ?_
   rotate_left
   refine KA (loc':=(b_20,.cells (Zk (Uk k code sy ((decide ((ws.length:Int)>1)&&(s.many:Int)==1)&& !s.lost))).toArray 28 (0,0))::(L++[(b_42,.cells (Zm (Vx ws.length (Y7 (atN rows (k+1) 0)))) 3 (0,0))])) (by rw [hc145];rfl) ?_;refine Qo ?_
   all_goals
    exact Y8 _ _ ⟨U,hKc38,U⟩ (.cons U (.cons U (.cons U (.cons U (.cons U (.cons U (.cons U (.cons U .nil)))))))) .refl
  rintro E J8 loc' ⟨rfl,hJ145,rfl⟩;have hB0:=hB0.trans hJ145;refine Qf (zM ?_);refine zV (Qk U QY (fun hg=>by exact Cells.g0) U) ?_;refine zpb [(0,_)] [Zk (Uk k code sy ((decide ((ws.length:Int)>1)&&(s.many:Int)==1)&& !s.lost))] VG (fun b_149=>?_);refine zpa (_) ([Uk k code sy ((decide ((ws.length:Int)>1)&&(s.many:Int)==1)&& !s.lost)].flatMap Zk) (L) U U VG hO ⟨U,fun _=>U,by repeat (first | exact zGL | apply zGK | apply zGM)⟩ (zgW [Uk k code sy ((decide ((ws.length:Int)>1)&&(s.many:Int)==1)&& !s.lost)]) ?_;intro v9 L9 hO9 _;rw [<-jo] at hO9;refine zA (Qb (Qg (Qa (Qf ?_))));refine zB ?_;refine zM (Qb ?_)
  first
  | exact zm (h:=⟨rd.length-(k+1),kB,k+1,_,_,_,U,U,hB0,U,kB,ztE hsg (by rw [Q1 hk];exact zCP hc100 hs hso he0),by rw [jh];exact hO9,by rw [jh,jG];omega⟩)
 have hge_k:rd.length<=k:=(by have h:=hc47;simp at h;omega);obtain rfl:k=rd.length:=kB;obtain ⟨t1,t2⟩:=ztX hcT heq hcE hsg;refine QF (Qh (Qh (Qm (Qa (zR (zM ?_))))));refine zA ?_;refine zA (zN (Qr ?_));refine JT ?_
 first
 | exact Q9 U U U (fun w hw=>by obtain ⟨I9,av9,c9,h1',h2',e9,h4'⟩:=OwnS.freeze (R:=[_]) hO Z8 kE hw;subst e9;exact ⟨_,I9,[],U,hIc.trans h1',h2'.drop,U,av9,c9,by rw [t1,t2],by rw [t2];exact h4'⟩)
theorem zee {n:Int}(h:0<=n/\n<=9223372036854775807):IntKind.i64.wrap n=n:=by unfold IntKind.wrap IntKind.signed IntKind.bits;simp;omega
variable{a:Nat}
theorem zh3 (h:a<18446744073709551616):(BitVec.ofInt 64 (a:Int)).toNat=a:=by rw [BitVec.toNat_ofInt];omega
theorem zwX (ha:a<9223372036854775808)(hb:b<9223372036854775808):orI (a:Int) (b:Int)=((a||| b:Nat):Int):=by
 unfold orI;rw [BitVec.toNat_or,zh3 kB,zh3 kB];have:a||| b<2^63:=Nat.or_lt_two_pow kB kB
 exact zee kB
theorem zqx (ha:a<9223372036854775808)(hb:b<9223372036854775808):JK (a:Int) (b:Int)=((a&&& b:Nat):Int):=by unfold JK;rw [BitVec.toNat_and,zh3 kB,zh3 kB];have:a&&& b<=a:=Nat.and_le_left;exact zee kB
theorem zGm (hb:b<=8)(hn:n<2^b)(hc:c<2^40):orI (IntKind.i64.wrap ((c:Int)*2^(min (b:Int).toNat IntKind.i64.bits))) (n:Int)=((c*2^b+n:Nat):Int):=by
 have e1:min (b:Int).toNat IntKind.i64.bits=b:=by
  show min b 64=b;omega
 have h2:2^b<=2^8:=AC kE hb;have h3:c*2^b<2^40*2^8:=Nat.mul_lt_mul_of_lt_of_le hc h2 kE;have e2:(c:Int)*2^b=((c*2^b:Nat):Int):=(by simp);rw [e1,e2,zee kB,zwX kB kB];have:=Nat.two_pow_add_eq_or_of_lt hn c;rw [Nat.mul_comm c];rw [this]
theorem zE9 (hb:b<=8):IntKind.i64.wrap (1*2^(min (b:Int).toNat IntKind.i64.bits))-1=((2^b-1:Nat):Int):=by
 have e1:min (b:Int).toNat IntKind.i64.bits=b:=by
  show min b 64=b;omega
 have h1:0<2^b:=Nat.pow_pos kE;have h2:2^b<=2^8:=AC kE hb;have e2:(1:Int)*2^b=((2^b:Nat):Int):=(by simp);rw [e1,e2,zee kB];omega
theorem XW (hb:b<=8)(hc:c<2^62):lbN b (c:Int)=((c % 2^b:Nat):Int):=by unfold lbN;have h2:2^b<=2^8:=AC kE hb;rw [zE9 hb,zqx kB kB,Nat.and_two_pow_sub_one_eq_mod]
theorem zae (hb:b<=8):shN b (c:Int)=((c / 2^b:Nat):Int):=by
 unfold shN
 have e1:min (b:Int).toNat IntKind.i64.bits=b:=by
  show min b 64=b;omega
 rw [e1];have e2:(2:Int)^b=((2^b:Nat):Int):=(by simp);rw [e2];rw [AW _ (Int.natCast_nonneg _)]
 first | exact (Int.natCast_ediv _ _).symm | exact (Int.ofNat_ediv _ _).symm | rfl
structure zrj (r k s d l z w:Nat):Prop where
 r:r<=63
 k1:1<=k
 k:k<=9
 s:s<=2
 d:d<=8
 l:l<=3
 z:z<=255
 w:w<=64
def zbu (r k s d l z w:Nat):Nat:=(((((r*16+k)*4+s)*16+d)*4+l)*256+z)*128+w
theorem zFw {s d l z w:Nat}(h:zrj r k s d l z w):VI 0 [⟨r,0,63,6⟩,⟨k,1,9,4⟩,⟨s,0,2,2⟩,⟨d,0,8,4⟩,⟨l,0,3,2⟩,⟨z,0,255,8⟩,⟨w,0,64,7⟩]=some ((zbu r k s d l z w:Nat):Int):=by
 obtain ⟨h1,h2,h3,h4,h5,h6,h7,h8⟩:=h
 have g:∀ {c:Int} {x:Dg} {ds:List Dg},zjz x=false->VI c (x::ds)=VI (zpr c x) ds:=fun {c x ds} hb=>by
  show (if zjz x=true then none else VI (zpr c x) ds)=_;rw [ja (by rw [hb];decide)]
 have q:∀ {c n b:Nat} {lo hi:Int},b<=8->n<2^b->c<2^40->zpr (c:Int) ⟨(n:Int),lo,hi,(b:Int)⟩=((c*2^b+n:Nat):Int):=fun hb hn hc=>zGm hb hn hc;have bd:∀ {n lo hi b:Int},lo<=n->n<=hi->zjz ⟨n,lo,hi,b⟩=false:=fun a b=>(by unfold zjz;simp;omega);rw [g (bd kB kB),show (0:Int)=((0:Nat):Int) from U,show (6:Int)=((6:Nat):Int) from U,q kE kB kE];rw [g (bd kB kB),show (4:Int)=((4:Nat):Int) from U,q (b:=4) kE kB kB];rw [g (bd kB kB),show (2:Int)=((2:Nat):Int) from U,q (b:=2) kE kB kB];rw [g (bd kB kB),q (b:=4) kE kB kB];rw [g (bd kB kB),q (b:=2) kE kB kB];rw [g (bd kB kB),show (8:Int)=((8:Nat):Int) from U,q (b:=8) kE kB kB];rw [g (bd kB kB),show (7:Int)=((7:Nat):Int) from U,q (b:=7) kE kB kB];show some _=some _;unfold zbu;simp
theorem zig (c:Nat)(hc:c<2^33):zlS (c:Int)=⟨0,((c / 128 / 256 / 4 / 16 / 4 / 16:Nat):Int),0,0,((c / 128 / 256 / 4 / 16 / 4 % 16:Nat):Int),((c / 128 / 256 / 4 / 16 % 4:Nat):Int),((c / 128 / 256 / 4 % 16:Nat):Int),((c / 128 / 256 % 4:Nat):Int),((c / 128 % 256:Nat):Int),((c % 128:Nat):Int),0,0,0,0⟩:=by have s7:shN 7 (c:Int)=((c / 128:Nat):Int):=zae kE;have s8:shN 8 ((c / 128:Nat):Int)=((c / 128 / 256:Nat):Int):=zae kE;have s2:shN 2 ((c / 128 / 256:Nat):Int)=((c / 128 / 256 / 4:Nat):Int):=zae kE;have s4:shN 4 ((c / 128 / 256 / 4:Nat):Int)=((c / 128 / 256 / 4 / 16:Nat):Int):=zae kE;have t2:shN 2 ((c / 128 / 256 / 4 / 16:Nat):Int)=((c / 128 / 256 / 4 / 16 / 4:Nat):Int):=zae kE;have t4:shN 4 ((c / 128 / 256 / 4 / 16 / 4:Nat):Int)=((c / 128 / 256 / 4 / 16 / 4 / 16:Nat):Int):=zae kE;unfold zlS;rw [s7,s8,s2,s4,t2,t4];rw [XW (b:=4) (c:=c / 128 / 256 / 4 / 16 / 4) kE kB,XW (b:=2) (c:=c / 128 / 256 / 4 / 16) kE kB,XW (b:=4) (c:=c / 128 / 256 / 4) kE kB,XW (b:=2) (c:=c / 128 / 256) kE kB,XW (b:=8) (c:=c / 128) kE kB,XW (b:=7) (c:=c) kE kB]
theorem zox {s d l z w:Nat}(h:zrj r k s d l z w):zlS ((zbu r k s d l z w:Nat):Int)=⟨0,r,0,0,k,s,d,l,z,w,0,0,0,0⟩:=by obtain ⟨h1,h2,h3,h4,h5,h6,h7,h8⟩:=h;rw [zig _ (by unfold zbu;omega)];unfold zbu;congr 1<;>(congr 1;omega)
theorem zmy (h:(VI 0 (dgs x)).isSome=true):∃ r k s d l z w:Nat,zrj r k s d l z w/\x.role=r/\x.kind=k/\x.side=s/\x.dir=d/\x.level=l/\x.size=z/\x.wth=w:=by
 have g:∀ {c:Int} {y:Dg} {ds:List Dg},(VI c (y::ds)).isSome=true->zjz y=false/\(VI (zpr c y) ds).isSome=true:=fun {c y ds} hs=>by
  have hs:(if zjz y=true then none else VI (zpr c y) ds).isSome=true:=hs
  cases hb:zjz y with
  | true=>rw [hb] at hs;cases hs
  | false=>rw [hb] at hs;exact ⟨U,hs⟩
 have u:∀ {n lo hi b:Int},zjz ⟨n,lo,hi,b⟩=false->lo<=n/\n<=hi:=fun hb=>(by unfold zjz at hb;simp at hb;omega);unfold dgs at h;obtain ⟨b1,h⟩:=g h;obtain ⟨b2,h⟩:=g h;obtain ⟨b3,h⟩:=g h;obtain ⟨b4,h⟩:=g h;obtain ⟨b5,h⟩:=g h;obtain ⟨b6,h⟩:=g h;obtain ⟨b7,_⟩:=g h;have b1:=u b1;have b2:=u b2;have b3:=u b3;have b4:=u b4;have b5:=u b5;have b6:=u b6;have b7:=u b7;exact ⟨x.role.toNat,x.kind.toNat,x.side.toNat,x.dir.toNat,x.level.toNat,x.size.toNat,x.wth.toNat,⟨kB,kB,kB,kB,kB,kB,kB,kB⟩,kB,kB,kB,kB,kB,kB,kB⟩
theorem zbb {s d l z w:Nat}(h:zrj r k s d l z w)(e:x.role=r/\x.kind=k/\x.side=s/\x.dir=d/\x.level=l/\x.size=z/\x.wth=w):KZ x=((zbu r k s d l z w:Nat):Int)/\Kg x=0:=by
 obtain ⟨e1,e2,e3,e4,e5,e6,e7⟩:=e
 have hp:VI 0 (dgs x)=some ((zbu r k s d l z w:Nat):Int):=by
  unfold dgs;rw [e1,e2,e3,e4,e5,e6,e7];exact zFw h
 unfold KZ Kg;rw [hp];exact ⟨U,U⟩
theorem zd1 (h:Kg x=0):(VI 0 (dgs x)).isSome=true:=by
 unfold Kg at h;split at h
 ·assumption
 ·cases h
theorem zeT (h:Kg x=0):Kh (KZ x)=0/\Xy (KZ x)=⟨0,x.role,0,0,x.kind,x.side,x.dir,x.level,x.size,x.wth,0,0,0,0⟩/\0<KZ x/\KZ x<8589934592:=by
 obtain ⟨r,k,s,d,l,z,w,hd,e⟩:=zmy (zd1 h);obtain ⟨c1,_⟩:=zbb hd e;have hr:=zox hd
 have he:Kh ((zbu r k s d l z w:Nat):Int)=0:=by
  unfold Kh;rw [hr];exact (zbb hd ⟨U,U,U,U,U,U,U⟩).2
 rw [c1];obtain ⟨e1,e2,e3,e4,e5,e6,e7⟩:=e;obtain ⟨h1,h2,h3,h4,h5,h6,h7,h8⟩:=hd;refine ⟨he,?_,by unfold zbu;omega,by unfold zbu;omega⟩;unfold Xy;rw [ja kB,hr,e1,e2,e3,e4,e5,e6,e7]
theorem zoc {c:Int}(h:Kh c=0):KZ (Xy c)=c/\Kg (Xy c)=0/\0<c/\c<8589934592:=by
 have hs:Xy c=zlS c:=(by unfold Xy;rw [ja kB]);have hraw:Kg (zlS c)=0:=h;obtain ⟨r,k,s,d,l,z,w,hd,e⟩:=zmy (zd1 hraw);have hrole:(zlS c).role=shN 4 (shN 2 (shN 4 (shN 2 (shN 8 (shN 7 c))))):=rfl
 have hc:0<=c/\c<2^33:=by
  have e1:=e.1;rw [hrole] at e1;have hr:=hd.r
  have u:∀ (b:Nat) (x:Int),b<=8->shN b x=x.fdiv (2^b):=fun b x hb=>by
   unfold shN
   have:min (b:Int).toNat IntKind.i64.bits=b:=by
    show min b 64=b;omega
   rw [this]
  rw [u 4 _ kE,u 2 _ kE,u 4 _ kE,u 2 _ kE,u 8 _ kE,u 7 _ kE] at e1;have v:∀ (x:Int) (m:Int),0<m->x.fdiv m=x / m:=fun x m hm=>AW _ kB;rw [v _ _ kE,v _ _ kE,v _ _ kE,v _ _ kE,v _ _ kE,v _ _ kE] at e1;have e1:c / 128 / 256 / 4 / 16 / 4 / 16=(r:Int):=e1;omega
 obtain ⟨n,rfl⟩:∃ n:Nat,c=(n:Int):=⟨c.toNat,kB⟩;have hn:=zig n kB;obtain ⟨c1,c2⟩:=zbb hd e;rw [hs];refine ⟨?_,c2,?_,kB⟩
 ·rw [c1];rw [hn] at e;obtain ⟨e1,e2,e3,e4,e5,e6,e7⟩:=e;simp only at e1 e2 e3 e4 e5 e6 e7;unfold zbu;omega
 ·rw [hn] at e;have e2:((n / 128 / 256 / 4 / 16 / 4 % 16:Nat):Int)=(k:Int):=e.2.1;have:=hd.k1;omega
def cz:Nat->(Nat->Int)->Nat
 | 0,_=>0
 | n+1,f=>cz n f+(if f n=0 then 0 else 1)
theorem zgo:∀ n,cz n (fun _=>0)=0
 | 0=>rfl
 | n+1=>by unfold cz;rw [zgo n];rfl
theorem zrG {f:Nat->Int}{a:Nat}{v:Int}:∀ n,cz n (UW f a v)<=cz n f+(if a<n then 1 else 0)
 | 0=>jf _
 | n+1=>by
  have ih:=zrG (f:=f) (a:=a) (v:=v) n;unfold cz;by_cases e:n=a
  ·subst e;rw [Jt,jb (show n<n+1 by omega)];rw [ja (show ¬n<n by omega)] at ih;split<;>split<;>omega
  ·rw [Kb e];by_cases h:a<n
   ·rw [jb h] at ih;rw [jb (show a<n+1 by omega)];split<;>omega
   ·rw [ja h] at ih;rw [ja (show ¬a<n+1 by omega)];split<;>omega
variable{f:Nat->Int}
theorem zmZ {v:Int}:cz n (UW f a v)<=cz n f+1:=by have:=zrG (f:=f) (a:=a) (v:=v) n;split at this<;>omega
theorem zz4 {w:Nat->Nat}{T:List Int}{n:Nat}:∀ k,cz n (txF w T k)<=k
 | 0=>by show cz n (fun _=>0)<=0;rw [zgo];exact js _
 | k+1=>by
  have ih:=zz4 (w:=w) (T:=T) (n:=n) k;have:=zmZ (f:=txF w T k) (a:=YN w k+w k) (n:=n) (v:=T.getD k 0);show cz n (UW (txF w T k) (YN w k+w k) (T.getD k 0))<=k+1;omega
def both (y:Int×Int):Bool:=decide (y.1>0)&&decide (y.2>0)
variable{w:Nat->Nat}
theorem zEu {l:List Int}(ps:List (Int×Int)):∀ (f:Nat->Int),cz n (ps.foldl (prF w l) f)<=cz n f+(ps.filter both).length:=by
 induction ps with
 | nil=>intro f;exact js _
 | cons y ps ih=>
  intro f;rw [Of];have h:=ih (prF w l f y)
  cases hb:(decide (y.1>0)&&decide (y.2>0)) with
  | true=>
   rw [zoo hb] at h ⊢;have h2:=zmZ (f:=f) (a:=YN w (y.1-1).toNat+w (y.1-1).toNat) (n:=n) (v:=l.getD (y.2-1).toNat 0);rw [OG (show both y=true from hb),jw];omega
  | false=>
   rw [zto hb] at h ⊢;rw [OR (show ¬both y=true by unfold both;rw [hb];decide)];exact h
theorem zFh {l:List Int}(qs:List (Int×Int)):∀ (s:(Nat->Int)×(Nat->Nat)),cz n (qs.foldl (alS w l) s).1<=cz n s.1+qs.length:=by
 induction qs with
 | nil=>intro s;exact js _
 | cons q qs ih=>
  intro s;rw [Of];have h:=ih (alS w l s q);have h2:=zmZ (f:=s.1) (a:=YN w q.1.toNat+s.2 q.1.toNat) (n:=n) (v:=l.getD q.2.toNat 0);have h3:cz n (alS w l s q).1<=cz n s.1+1:=h2;rw [jw];omega
def sec (y:Int×Int):Bool:=decide (y.2>0)
theorem zhe {m n:Nat}:∀ (ps:List (Int×Int)) (a:Int),(∀ p∈ps,QOK m n p)->(ps.filter both).length+(KT a ps).length<=(ps.filter sec).length
 | [],_,_=>js _
 | p::ps,a,h=>by
  obtain ⟨i,k,rfl,_,_,h0⟩:=h p (jk ..);have hr:=fun q hq=>h q (jq _ hq);unfold KT;split
  ·rename_i hi;have ih:=zhe ps (i:Int) hr;by_cases hk:0<k
   ·rw [OG (show both ((i:Int),(k:Int))=true by unfold both;simp at hi ⊢;omega),OG (show sec ((i:Int),(k:Int))=true by unfold sec;simp;omega),jw,jw];have ih:(ps.filter both).length+(KT ((i:Int),(k:Int)).1 ps).length<=(ps.filter sec).length:=ih;omega
   ·rw [OR (show ¬both ((i:Int),(k:Int))=true by unfold both;simp;omega),OR (show ¬sec ((i:Int),(k:Int))=true by unfold sec;simp;omega)];exact ih
  ·rename_i hi;have ih:=zhe ps a hr;have hi0:i=0:=(by simp at hi;omega);rw [OR (show ¬both ((i:Int),(k:Int))=true by unfold both;simp;omega),OG (show sec ((i:Int),(k:Int))=true by unfold sec;simp;omega),jw,jw];omega
theorem zhD {a b:List Int}:∀ (f i k:Nat),i<=a.length->k<=b.length->((paF a b f i k).filter sec).length+k<=b.length
 | 0,_,k,_,hk=>by show 0+k<=_;omega
 | f+1,i,k,hi,hk=>by
  unfold paF;split
  ·rename_i hg;split
   ·rename_i hb;have h1:i<a.length/\k<b.length:=(by unfold zao at hb;simp at hb;omega);have ih:=zhD f (i+1) (k+1) h1.1 h1.2;rw [OG (show sec (((i+1:Nat):Int),((k+1:Nat):Int))=true by unfold sec;simp<;>omega),jw];omega
   ·rename_i hb;split
    ·rename_i ho;have h1:i<a.length:=(by unfold zjO at ho;simp at ho;omega);have ih:=zhD f (i+1) k h1 hk;rw [OR (show ¬sec (((i+1:Nat):Int),(0:Int))=true by unfold sec;simp)];exact ih
    ·rename_i ho;have h1:k<b.length:=zjv hi hk (by simp at hg;omega) (by simpa using hb) (by simpa using ho);have ih:=zhD f i (k+1) hi h1;rw [OG (show sec ((0:Int),((k+1:Nat):Int))=true by unfold sec;simp<;>omega),jw];omega
  ·show 0+k<=_;omega
variable{xs:List Wr}
theorem zu4 :((pfW xs i).filter both).length+(alW xs i).length<=(csW xs i).length:=by
 have h1:=zhe (pfW xs i) 0 (zaC (xs:=xs) (i:=i)).1
 have h2:((pfW xs i).filter sec).length<=(csW xs i).length:=by
  unfold pfW;split
  ·exact jf _
  ·unfold JF;split
   ·exact jf _
   ·have:=zhD (a:=csW xs 0) (b:=csW xs i) ((csW xs 0).length+(csW xs i).length) 0 0 (jf _) (jf _);unfold zrr;omega
 exact jT h1 h2
theorem zAX :cz n (zjY (wdW xs) (csW xs 0) (csW xs i) i (pfW xs i))<=(csW xs i).length:=by
 unfold zjY alP;have h1:=zFh (w:=wdW xs) (l:=csW xs i) (n:=n) (zjJ (pfW xs i)) ((pfW xs i).foldl (prF (wdW xs) (csW xs i)) (if i=0 then txF (wdW xs) (csW xs 0) (csW xs 0).length else fun _=>0),fun _=>0);have h2:=zEu (w:=wdW xs) (l:=csW xs i) (n:=n) (pfW xs i) (if i=0 then txF (wdW xs) (csW xs 0) (csW xs 0).length else fun _=>0);have h3:=zu4 (xs:=xs) (i:=i);by_cases h0:i=0
 ·subst h0;have h4:=zz4 (w:=wdW xs) (T:=csW xs 0) (n:=n) (csW xs 0).length;have e1:pfW xs 0=[]:=rfl;rw [e1] at h1 h2 ⊢;simp only [Oj] at h1 h2 ⊢;have e2:zjJ []=[]:=rfl;rw [e2] at h1 ⊢;simp only [List.filter_nil,O4,B1] at h1 h2;omega
 ·rw [ja h0] at h1 h2 ⊢;rw [zgo] at h2;have e3:(alW xs i).length=(zjJ (pfW xs i)).length:=rfl;simp only at h1;omega
theorem zsY {n:Nat}{f:Nat->Int}:∀ k,k<=n->nzF (Vx n f) k=cz k f
 | 0,_=>rfl
 | k+1,hk=>by
  have ih:=zsY (n:=n) (f:=f) k kB;have hx:(Vx n f)[k]? =some (f k):=Va kB;unfold cz;by_cases h:f k=0
  ·rw [zmz hx (by simp [h]),ih,jb h];rfl
  ·rw [zgl hx (by simp [h]),ih,ja h]
theorem zhK :zzX xs (Yj xs):=by
 intro i x row hx hr k hk h0;have hil:(Yj xs).length<=xs.length:=zew.1;unfold Yj at hr;split at hr
 ·simp at hr
 ·rw [j5] at hr;have hi:=(jc.1 hx).1;rw [AY hi,j9] at hr;have hr:=(Ob hr).symm;subst hr;unfold zhF at hk h0 ⊢;rw [Yr] at hk;have hg:=Q1 (d:=0) (Va (f:=zjY (wdW xs) (csW xs 0) (csW xs i) i (pfW xs i)) hk);rw [hg] at h0;rw [zsY k kB];have h1:=zAX (xs:=xs) (i:=i) (n:=k+1)
  have h2:cz (k+1) (zjY (wdW xs) (csW xs 0) (csW xs i) i (pfW xs i))=cz k (zjY (wdW xs) (csW xs 0) (csW xs i) i (pfW xs i))+1:=by
   show _+(if _ then 0 else 1)=_;rw [ja h0]
  have h3:(csW xs i).length=x.rs.length:=(by rw [zcH hx,jE]);omega
theorem zxi (h:chkG [y]=0):frm y=true:=by
 unfold chkG at h;rw [ja (show ¬ [y].length>4096 from by simp)] at h;split at h
 ·rename_i h2;unfold skB at h2;have h3:=ji.1 h2 0 kK;unfold skP at h3;simp at h3;exact h3
 ·cases h
theorem zwG :∀ {l:Int},U1 l xs=true->∀ x∈xs,∀ r∈x.rs,zfH r=false:=by
 induction xs with
 | nil=>intro l _ x hx;cases hx
 | cons z xs ih=>
  intro l h x hx r hr;have h:(!zpX l z&&(!z.rs.any zfH&&U1 z.no xs))=true:=h;simp only [jj,jS] at h;rcases jp.1 hx with rfl | hx
  ·have:=jJ.1 h.2.1 r hr;simpa using this
  ·exact ih h.2.2 x hx r hr
theorem znX (h:Ws xs=0){x:Wr}(hx:x∈xs){r:Rd}(hr:r∈x.rs):zfH r=false/\(r.lost=false->frm r.sg=true/\r.sg.id=0)/\(r.lost=true->r.sg=ZU):=by
 have hg:U1 0 xs=true:=by
  unfold Ws at h;split at h
  ·cases h
  ·split at h
   ·cases h
   ·split at h
    ·assumption
    ·cases h
 have hb:=zwG hg x hx r hr;refine ⟨hb,fun hl=>?_,fun hl=>?_⟩
 ·unfold zfH at hb;rw [hl] at hb;simp only [Bc,Bool.not_false,OM,OC,On,bne_eq_false_iff_eq] at hb;exact ⟨zxi hb.2,hb.1⟩
 ·unfold zfH at hb;rw [hl] at hb;simp only [OM,BQ,Bc,OL,Ox] at hb;exact VF.1 hb
theorem zoj {ws:List Wr}{rows:List (List Int)}{k:Nat}{code:Int}(hc:Ws ws=0)(hn:zzX ws rows)(hlen:rows.length=ws.length)(hk:∀ r∈rows,k<r.length):∀ i,i<=rows.length->(∀ y,(sgK ws rows k code i).ex=some y->frm y=true)/\(∀ y,(sgK ws rows k code i).so=some y->frm y=true)
 | 0,_=>⟨(fun y h=>by cases h),(fun y h=>by cases h)⟩
 | i+1,hi=>by
  obtain ⟨h1,h2⟩:=zoj hc hn hlen hk i kB;obtain ⟨row,hr⟩:∃ r,rows[i]? =some r:=⟨_,je kB⟩;obtain ⟨x,hx⟩:∃ x,ws[i]? =some x:=⟨_,je kB⟩;have hrg:rows.getD i []=row:=Q1 hr;have e:sgK ws rows k code (i+1)=zjR code (sgK ws rows k code i) ((rows.getD i []).getD k 0) (ydF ws rows i k):=rfl;rw [e];unfold zjR;split
  ·exact ⟨h1,h2⟩
  ·rename_i hz;split
   ·exact ⟨h1,h2⟩
   ·rename_i hl;have hnz:=hn i x row hx hr k (hk row (jd hr)) (by rw [hrg] at hz;simpa using hz);obtain ⟨y,hy⟩:∃ y,x.rs[nzF (rows.getD i []) k]? =some y:=⟨_,je (by rw [hrg];exact hnz)⟩;have hyd:ydF ws rows i k=y:=ztA hx hy;rw [hyd] at hl ⊢;have hf:=((znX hc (jd hx) (jd hy)).2.1 (by simpa using hl)).1;constructor
    ·intro z hz2;simp only at hz2;split at hz2
     ·cases hz2;exact hf
     ·exact h1 z hz2
    ·intro z hz2;simp only at hz2;unfold orS at hz2;split at hz2
     ·cases hz2;exact hf
     ·rename_i hso;cases hz2;exact h2 _ hso
variable{m:Bool}
theorem zt1 (hk:k<=1000)(he:Kh code=0)(hy:frm y=true):frm (Uk k code y m)=true/\(Uk k code y m).id=(k:Int)/\KZ (Uk k code y m)=code/\Kg (Uk k code y m)=0:=by
 obtain ⟨c1,c2,_,_⟩:=zoc he;obtain ⟨r,kk,s,d,l,z,w,hd,e1,e2,e3,e4,e5,e6,e7⟩:=zmy (zd1 c2);have hdg:dgs (Uk k code y m)=dgs (Xy code):=rfl;have hcode:KZ (Uk k code y m)=KZ (Xy code):=(by unfold KZ;rw [hdg]);have hcE:Kg (Uk k code y m)=Kg (Xy code):=(by unfold Kg;rw [hdg]);refine ⟨?_,U,by rw [hcode];exact c1,by rw [hcE];exact c2⟩;obtain ⟨h1,h2,h3,h4,h5,h6,h7,h8⟩:=hd;unfold frm zy6 at hy ⊢;simp only [jj] at hy ⊢;obtain ⟨⟨⟨⟨⟨⟨⟨⟨⟨⟨_,_⟩,y3⟩,_⟩,y5⟩,_⟩,_⟩,_⟩,_⟩,_⟩,y11⟩:=hy;have f1:(Uk k code y m).role=(r:Int):=e1;have f2:(Uk k code y m).kind=(kk:Int):=e2;have f3:(Uk k code y m).side=(s:Int):=e3;have f4:(Uk k code y m).dir=(d:Int):=e4;have f5:(Uk k code y m).level=(l:Int):=e5;have f6:(Uk k code y m).size=(z:Int):=e6;have f7:(Uk k code y m).wth=(w:Int):=e7;have f8:(Uk k code y m).id=(k:Int):=rfl;rw [f1,f2,f3,f4,f5,f6,f7,f8];have wi:∀ {n lo hi:Int},lo<=n->n<=hi->Zu n lo hi=true:=fun a b=>(by unfold Zu;simp;omega);refine ⟨⟨⟨⟨⟨⟨⟨⟨⟨⟨wi kB kB,wi kB kB⟩,y3⟩,wi kB kB⟩,?_⟩,wi kB kB⟩,wi kB kB⟩,wi kB kB⟩,wi kB kB⟩,wi kB kB⟩,y11⟩;show Zu (if m=true then 3 else y.mark) 1 3=true;split
 ·decide
 ·exact y5
def zFL (rd:List Int)(k:Nat)(l:List Sg):Prop:=l.length=nzF rd k/\(∀ x∈l,frm x=true/\x.id<(k:Int))/\l.Pairwise (fun a b=>a.id<b.id)/\∀ m,m<k->rd.getD m 0≠0->∃ x,l[nzF rd m]? =some x/\x.id=(m:Int)/\KZ x=rd.getD m 0/\Kg x=0
theorem zk2 {ws:List Wr}{rows:List (List Int)}{rd:List Int}(hc:Ws ws=0)(hn:zzX ws rows)(hlen:rows.length=ws.length)(hr:∀ r∈rows,r.length=rd.length)(h64:rd.length<=1000):∀ (k:Nat) (l:List Sg),k<=rd.length->UK ws rows rd k=some l->zFL rd k l
 | 0,l,_,h=>by
  cases h;exact ⟨U,(fun x hx=>by cases hx),.nil,fun m hm=>kB⟩
 | k+1,l,hk,h=>by
  obtain ⟨l0,h0⟩:∃ l0,UK ws rows rd k=some l0:=by
   cases e:UK ws rows rd k with
   | none=>rw [zdz e (k+1) kB] at h;cases h
   | some l0=>exact ⟨l0,U⟩
  obtain ⟨i1,i2,i3,i4⟩:=zk2 hc hn hlen hr h64 k l0 kB h0;have hx:rd[k]? =some (rd.getD k 0):=Zc (n:=rd.length) U kB
  cases ho:zca ws rows k (rd.getD k 0) with
  | err=>
   have:UK ws rows rd (k+1)=none:=by
    show (match UK ws rows rd k with | none=>none | some l=>match zca ws rows k (rd.getD k 0) with | .err=>none | .skip=>some l | .sg x=>some (l++[x]))=none;rw [h0];simp only;rw [ho]
   rw [this] at h;cases h
  | skip=>
   rw [zis h0 ho] at h;cases h
   have hz:(rd.getD k 0==0)=true:=by
    cases hz:(rd.getD k 0==0) with
    | true=>rfl
    | false=>
     unfold zca at ho;rw [ja (by rw [hz];decide)] at ho;split at ho
     ·cases ho
     ·split at ho<;>cases ho
   refine ⟨by rw [zmz hx hz];exact i1,(fun x hx=>⟨(i2 x hx).1,by have:=(i2 x hx).2;omega⟩),i3,fun m hm h0m=>?_⟩;by_cases e:m=k
   ·subst e;simp at hz;exact absurd hz h0m
   ·exact i4 m kB h0m
  | sg x=>
   rw [ztE h0 ho] at h;cases h
   have hz:(rd.getD k 0==0)=false:=by
    cases hz:(rd.getD k 0==0) with
    | false=>rfl
    | true=>rw [ziH hz] at ho;cases ho
   have hx2:frm x=true/\x.id=(k:Int)/\KZ x=rd.getD k 0/\Kg x=0:=by
    obtain ⟨s1,s2⟩:=zoj (k:=k) (code:=rd.getD k 0) hc hn hlen (fun r hm=>by rw [hr r hm];omega) rows.length (js _);unfold zca at ho;rw [ja (by rw [hz];decide)] at ho;split at ho
    ·cases ho
    ·rename_i y hy;split at ho
     ·cases ho
     ·rename_i he;have he0:Kh (rd.getD k 0)=0:=by simpa using he
      have hfy:frm y=true:=by
       cases hex:(sgK ws rows k (rd.getD k 0) rows.length).ex with
       | none=>rw [hex] at hy;exact s2 y hy
       | some z=>rw [hex] at hy;cases hy;exact s1 _ hex
      cases ho;exact zt1 kB he0 hfy
   refine ⟨by rw [jh,i1,zgl hx hz];rfl,fun z hm=>?_,?_,fun m hm h0m=>?_⟩
   ·rcases jv.1 hm with hm | hm
    ·exact ⟨(i2 z hm).1,by have:=(i2 z hm).2;omega⟩
    ·rw [jA.1 hm];exact ⟨hx2.1,by rw [hx2.2.1];omega⟩
   ·rw [Ov];refine ⟨i3,List.pairwise_singleton _ _,fun a ha b hb=>?_⟩;rw [jA.1 hb,hx2.2.1];exact (i2 a ha).2
   ·by_cases e:m=k
    ·subst e;exact ⟨x,by rw [<-i1,OI (js _),BF];rfl,hx2.2.1,hx2.2.2.1,hx2.2.2.2⟩
    ·obtain ⟨z,z1,z2⟩:=i4 m kB h0m;exact ⟨z,by rw [AB (jc.1 z1).1];exact z1,z2⟩
theorem zo3 (h:zFL rd k l)(hk:k<=1000):chkG l=0:=by
 obtain ⟨h1,h2,h3,_⟩:=h;have hl:l.length<=1000:=(by rw [h1];exact jT zvN hk);unfold chkG;rw [ja kB,jb ?_];unfold skB;rw [ji];intro i hi;have hi:=jm.1 hi;have hx:l[i]? =some (l[i]'hi):=je hi;rw [zcy hx,(h2 _ (OS hi)).1];simp only [BQ,OC,jS,Bu,AF];by_cases h0:i=0
 ·left;omega
 ·right;have e:((i:Int)-1).toNat=i-1:=kB;have hg:l[i-1]? =some (l[i-1]' kB):=je _;rw [e,Q1 hg];have:=jM.1 h3 (i-1) i kB hi kB;omega
theorem zA4 (h:zaM ws=0)(h2:Yj ws=rows)(h3:zcf rows no cl es rd=0)(hs:Uz ws rows no cl es rd≠0):Uz ws rows no cl es rd=430/\Jn ws rows no cl es rd=[]:=by
 cases hk:UK ws rows rd rd.length with
 | none=>exact ⟨zqQ h h2 h3 hk,zgG hs⟩
 | some l=>exact absurd (ztX h h2 h3 hk).1 hs
theorem zBv (h:zaM ws=0)(h2:Yj ws=rows)(h3:zcf rows no cl es rd=0)(hs:Uz ws rows no cl es rd=0):UK ws rows rd rd.length=some (Jn ws rows no cl es rd):=by
 cases hk:UK ws rows rd rd.length with
 | none=>have:=zqQ h h2 h3 hk;omega
 | some l=>rw [(ztX h h2 h3 hk).2]
theorem zgb (h:zaM ws=0)(h0:0<(Yj ws).length):Ws ws=0/\(Yj ws).length=ws.length:=by
 rcases zuv h with h1 | h1
 ·exact ⟨(zmW h1).1,zjl U h0⟩
 ·rw [h1] at h0;simp at h0
theorem zqa (h:frm x=true):Kg x=0:=by unfold frm zy6 at h;simp only [jj] at h;obtain ⟨⟨⟨⟨⟨⟨⟨⟨⟨⟨_,y2⟩,_⟩,y4⟩,_⟩,y6⟩,y7⟩,y8⟩,y9⟩,y10⟩,_⟩:=h;have u:∀ {n lo hi:Int},Zu n lo hi=true->lo<=n/\n<=hi:=fun h=>(by unfold Zu at h;simp at h;omega);have y2:=u y2;have y4:=u y4;have y6:=u y6;have y7:=u y7;have y8:=u y8;have y9:=u y9;have y10:=u y10;exact (zbb (r:=x.role.toNat) (k:=x.kind.toNat) (s:=x.side.toNat) (d:=x.dir.toNat) (l:=x.level.toNat) (z:=x.size.toNat) (w:=x.wth.toNat) ⟨kB,kB,kB,kB,kB,kB,kB,kB⟩ ⟨kB,kB,kB,kB,kB,kB,kB⟩).2
def znj (rs:List Rd):Prop:=∀ r∈rs,(r.lost=true/\Vm r=8589934592)\/(r.lost=false/\Vm r=KZ r.sg/\Kg r.sg=0)
variable{rs:List Rd}
theorem zk6 (h:znj rs){r:Rd}(hr:r∈rs):0<Vm r/\Vm r<=8589934592:=by
 rcases h r hr with ⟨_,e⟩ | ⟨_,e,e2⟩
 ·omega
 ·have:=zeT e2;omega
def ixF {α:Type}(P:α->Bool)(xs:List α):List Int:=(xs.zipIdx.filter fun q=>P q.1).map fun q=>(q.2:Int)
variable{α:Type}{P:α->Bool}
theorem zkR {xs:List α}{x:α}(hx:xs[k]? =some x):ixF P (xs.take (k+1))=ixF P (xs.take k)++(if P x then [(k:Int)] else []):=by obtain ⟨hk,hk2⟩:=jc.1 hx;have e:xs.take (k+1)=xs.take k++[x]:=(by rw [jP,hx];rfl);unfold ixF;rw [e,List.zipIdx_append,jN,jZ];have hl:(xs.take k).length=k:=(by rw [jH];omega);cases h:P x<;>simp [h,hl]
theorem zAm {xs:List α}{x:α}(hx:xs[k]? =some x)(h:P x=true):ixF P (xs.take (k+1))=ixF P (xs.take k)++[(k:Int)]:=by rw [zkR hx,jb h]
theorem zFd {xs:List α}{x:α}(hx:xs[k]? =some x)(h:P x=false):ixF P (xs.take (k+1))=ixF P (xs.take k):=by rw [zkR hx,ja (by rw [h];decide),jz]
def zDN (rows:List (List Int))(k:Nat)(c:Int):List Int:=ixF (fun r=>r.getD k 0==c) rows
structure Og where
 k:Int
 r:Int
 ws:List Int
 ps:List Int
deriving DecidableEq
def zFG (q:Nat)(r:List Int):Bool:=r.getD q 0 != 0&&r.getD q 0 != 8589934592
def zFT (q:Int)(e:Em):Bool:=e.locus==q&&e.reason==2
def OgQ (o:Og)(v:Value)(I:Qt)(L:Go.Kn.Loc):Prop:=L=[]/\∃ a n c b m d,v= .agg #[.int .i64 o.k,.int .i64 o.r,.slice a n c,.slice b m d]/\Sl I 1 Q3 a n c o.ws/\Sl I 1 Q3 b m d o.ps
theorem VN:AgT Tryz.prog 62 4:=.of kA
theorem zEz (hV:SlN I bv n2 c2 rows)(hn2:n2<=100000)(q:Nat)(hq:∀ r∈rows,q<r.length)(c:Int):ZQ Tryz.prog 187 [.slice bv n2 c2,.int .i64 (q:Nat),.int .i64 c] I [] (zec 1 Q3 (zDN rows q c)):=by
 intro g H w hw;refine qe Tryz.func187 Tryz.ntmps187 hw ?_;have hIc:=zGN I;have hVl:=hV.len;obtain ⟨hs,hVH⟩:=id hV;have hHH:=hVH.1;refine zR (zA (zN (Ql (zR ?_))));refine zM ?_;refine zQ Zn ?_;refine zM (zN (Qp ?_));refine zU [(1,_),(2,_),(9,_),(10,_)] (fun T L0 mz E I' loc'=>∃ (k:Nat) (v:Value) (m:Nat) (L:Go.Kn.Loc),mz=n2-k/\E=(6,v)::(11,.int .i64 k)::T/\I=I'/\L=loc'/\k<=n2/\OwnS 3 1 v m ((ixF (fun r=>r.getD q 0==c) (rows.take k)).flatMap Q3) L/\m<=k) ?_ (h:=⟨0,_,0,[],U,U,U,U,jf _,by rw [List.take_zero];exact OwnS.nil,js _⟩);rintro mz E I' loc' ⟨k,v,m,L,rfl,rfl,rfl,rfl,hk,hO,hm⟩;refine zR (zC (zN (Ql ?_)));refine zI ?_ ?_<;>intro hc12
 ·have hlt_k:k<n2:=(by have h:=hc12;simp at h;omega);obtain ⟨hx,rx,hhx,hrx,hQ⟩:=hVH.at hlt_k;have hqk:=hq rx (jd hrx);have hQl:=hQ.len;have hgx:rx[q]? =some (rx.getD q 0):=Zc U kB;refine Qo (Qa (Ql (Qp (zR (zM ?_)))));refine zV (zX Zn hHH) ?_;refine zV (Qd U QK (fun hg=>by exact zGG hHH hhx U)) ?_;refine zA ?_;refine zA ?_;refine zN (zR ?_);refine zM ?_;refine zM ?_;refine zV (zX Qx hQ) ?_;refine zV (Qd U Qq (fun hg=>by exact zGG (k:=q) hQ hgx U)) ?_;refine zM ?_;refine zC (zN ?_);refine zI ?_ ?_<;>intro hc21
  ·have hy:(rx.getD q 0==c)=true:=(by simpa using hc21);refine Qf (zM ?_);refine zM ?_;refine zpb [(0,_)] [Q3 (k:Int)] Zw (fun b_24=>?_);refine zpa (_) ([(k:Int)].flatMap Q3) (L) U U Zw hO ⟨U,fun _=>U,by repeat (first | exact zGL | apply zGK | apply zGM)⟩ (JH _) ?_;intro v9 L9 hO9 _;rw [<-jo] at hO9;refine zA (Qb (Qg (Qa (Qf ?_))));refine zB ?_;refine zM (Qb ?_)
   first
   | exact zm (h:=⟨n2-(k+1),kB,k+1,_,_,_,U,U,U,U,kB,by rw [zAm hrx hy];exact hO9,kB⟩)
  have hy:(rx.getD q 0==c)=false:=(by simpa using hc21);refine Qo (Qg (Qa (Qf (zB ?_))));refine zM (Qb ?_)
  first
  | exact zm (h:=⟨n2-(k+1),kB,k+1,_,_,_,U,U,U,U,kB,by rw [zFd hrx hy];exact hO,kB⟩)
 have hge_k:n2<=k:=(by have h:=hc12;simp at h;omega);rw [ZJ hVl hge_k] at hO;refine QF (Qh (Qh (Qm (Qa (zR (zM ?_))))));refine zA (zN (Qr ?_));exact QR U U (fun w hw=>by obtain ⟨I9,h91,h92,h93⟩:=OwnS.res hO Zh kE hw;exact ⟨_,I9,[],U,hIc.trans h91,h92,h93⟩)
variable{ys:List Int}
theorem ziR {xs:List Int}(hS:Sl I 1 Q3 av n c xs)(hT:Sl I 1 Q3 bv n2 c2 ys)(hn:n<=100000):Zt Tryz.prog 57 [.slice av n c,.slice bv n2 c2] I (.bool (decide (xs=ys))):=by
 intro g H w hw;refine qe Tryz.func57 Tryz.ntmps57 hw ?_;have hl1:=hS.len;have hl2:=hT.len;refine zR (zA (zN (Ql (zR ?_))));refine zM ?_;refine zQ Qx ?_;refine zM ?_;refine zQ Qx ?_;refine zC (zN ?_);refine zI ?_ ?_<;>intro hc10
 ·have hne:xs≠ys:=fun e=>(by have h:=hc10;subst e;simp at h;omega);refine zR (zA (zN (Qr (Qc ?_))));exact zr U U (by rw [j1 hne])
 have hnn:n=n2:=(by have h:=hc10;simp at h;omega);refine Qo (Qa (Ql (zR (zA (zN (Qp ?_))))));refine zU [(0,_),(1,_)] (fun T L0 mz E I' loc'=>∃ (k:Nat),mz=n-k/\E=(5,.int .i64 k)::T/\I=I'/\L0=loc'/\k<=n/\xs.take k=ys.take k) ?_ (h:=⟨0,U,U,U,U,jf _,U⟩);rintro mz E I' loc' ⟨k,rfl,rfl,rfl,rfl,hk,hall⟩;refine Ql (zR (zM ?_));refine zM ?_;refine zQ Qx ?_;refine zC (zN ?_);refine zI ?_ ?_<;>intro hc14
 ·have hlt_k:k<n:=(by have h:=hc14;simp at h;omega);obtain ⟨x,hx⟩:=hS.at hlt_k;obtain ⟨y,hy⟩:=hT.at (show k<n2 by omega);refine Qo (Qa (Ql (Qp (Ql ?_))));refine YE mixed kA ?_;refine zq (Qj U) ?_;refine zq (Qj U) ?_;refine zq (zX Qx hS) ?_;refine zq (Qd U Qq (fun hg=>by exact zGG hS hx U)) ?_;refine zq (Qj U) ?_;refine zq (Qj U) ?_;refine zq (zX Qx hT) ?_;refine zq (Qd U Qq (fun hg=>by exact zGG hT hy U)) ?_;refine zq (QI U U U) ?_;refine YC ?_;refine Qa ?_;refine zI ?_ ?_<;>intro hc25
  ·have hne:xs≠ys:=fun e=>(by subst e;rw [hx] at hy;cases hy;simp at hc25);refine zR (zA (zN (Qr (Qn (Qc (Qc (Qn ?_)))))));refine Qc ?_;exact zr U U (by rw [j1 hne])
  have hxy:x=y:=(by simpa using hc25);refine Qo (Qg (Qa (Qf (zM ?_))));refine zB ?_;refine zA (Qb ?_);exact zm (h:=⟨n-(k+1),kB,k+1,U,U,U,U,kB,by rw [jP,jP,hall,hx,hy,hxy]⟩)
 have hge_k:n<=k:=(by have h:=hc14;simp at h;omega);have heq:xs=ys:=(by rw [jD kB,jD kB] at hall;exact hall);refine QF (Qh (Qh (Qm (Qa (zR (zA (zN ?_)))))));refine Qr ?_;exact zr U U (by rw [jX heq])
def ogE (x y:Og):Bool:=x.k==y.k&&(x.r==y.r&&(decide (x.ws=y.ws)&&decide (x.ps=y.ps)))
theorem zqb (x:Og):ogE x x=true:=by simp [ogE]
theorem za1:QP Tryz.prog 62 0 0:=.of kA
theorem zji:QP Tryz.prog 62 1 1:=.of kA
theorem zhW:QP Tryz.prog 62 2 2:=.of kA
theorem za6:QP Tryz.prog 62 3 3:=.of kA
theorem zr0:Fun Tryz.prog 57:=.of Tryz.func57 kA kA
variable{a1 a2 a3 a4:Option Addr}
theorem zyR {o1 o2:Og}{n1 c1:Nat}(h1:Sl I 1 Q3 a1 n1 c1 o1.ws)(h2:Sl I 1 Q3 a2 n2 c2 o1.ps){n4 c4:Nat}(h3:Sl I 1 Q3 a3 n3 c3 o2.ws)(h4:Sl I 1 Q3 a4 n4 c4 o2.ps)(hb1:n1<=100000)(hb2:n2<=100000):Zt Tryz.prog 18 [.agg #[.int .i64 o1.k,.int .i64 o1.r,.slice a1 n1 c1,.slice a2 n2 c2],.agg #[.int .i64 o2.k,.int .i64 o2.r,.slice a3 n3 c3,.slice a4 n4 c4]] I (.bool (ogE o1 o2)):=by intro g H w hw;refine qe Tryz.func18 Tryz.ntmps18 hw ?_;refine zR ?_;refine QG U U U (fun b_2=>?_);refine QG U U U (fun b_3=>?_);refine zA ?_;refine zN (zR ?_);refine zF za1 ?_;refine zL Qq ?_;refine zF za1 ?_;refine zL Qq ?_;refine zC ?_;refine zM ?_;refine QA 5 U U U ?_;refine zK (Qe U zji) ?_;refine zK (Qd U Qq (fun hg=>by exact QB.h1 U)) ?_;refine zK (Qe U zji) ?_;refine zK (Qd U Qq (fun hg=>by exact QB.h0 U)) ?_;refine zK (QI U U U) ?_;refine QE U U U U U ?_;refine zM ?_;refine QA 12 U U U ?_;refine zK (Qe U zhW) ?_;refine zK (Qd U QK (fun hg=>by exact QB.h1 U)) ?_;refine zK (Qe U zhW) ?_;refine zK (Qd U QK (fun hg=>by exact QB.h0 U)) ?_;refine qg (vs:=[_,_]) U zr0 (fun hg=>ziR h1 h3 hb1) ?_;refine QE U U U U U ?_;refine zM ?_;refine QA 19 U U U ?_;refine zK (Qe U za6) ?_;refine zK (Qd U QK (fun hg=>by exact QB.h1 U)) ?_;refine zK (Qe U za6) ?_;refine zK (Qd U QK (fun hg=>by exact QB.h0 U)) ?_;refine qg (vs:=[_,_]) U zr0 (fun hg=>ziR h2 h4 hb2) ?_;refine QE U U U U U ?_;refine zA (zN (Qr ?_));exact zr U U (by unfold ogE;simp only [An])
end
end Go.Proofs.YtmbjmjbjdgjonaaGreatDoor
namespace Go.Kn
section
open Go
def zj1 (P:Program):List Field->Nat->Option (List EqK)
 | [],_=>some []
 | f::fs,k=>if f.name≠ "_" /\f.offset=k then
   match Ka P f.type with
   | some q=>(zj1 P fs (k+1)).map (q:: ·)
   | none=>match P.underlying f.type with
    | some (.struct gs)=>if P.stoodInHeld f.type=false then
      match zcp P gs.toList 0,P.info? f.type with
      | some l,some i=>if i.size=l.length then (zj1 P fs (k+l.length)).map (l++ ·) else none
      | _,_=>none
     else none
    | _=>none
  else none
def zFM (P:Program)(t:Nat)(ks:List EqK):Prop:=P.underlying t=some (.struct (P.fieldsOf t))/\P.stoodInHeld t=false/\P.eqGuardType P.depth t=false/\zj1 P (P.fieldsOf t).toList 0=some ks
theorem Ua {P:Program}{w:World}(dd:Nat):∀ (fs:List Field) (ks:List EqK) (k:Nat) (pre xs pre' ys:List Value) (b:Bool),zj1 P fs k=some ks->pre.length=k->pre'.length=k->JS ks xs ys=some b->
  (Op.eqFields (dd+3) (pre++xs).toArray (pre'++ys).toArray fs).run P w= .ok b w
 | [],ks,k,pre,xs,pre',ys,b,hf,_,_,he=>by
  simp only [zj1,jU] at hf;subst hf;cases xs<;>cases ys<;>simp only [JS] at he<;>first | (cases he;rfl) | cases he
 | f::fs,ks,k,pre,xs,pre',ys,b,hf,hp,hp',he=>by
  simp only [zj1] at hf;split at hf
  ·rename_i hn
   cases hk:Ka P f.type with
   | some q=>
    rw [hk] at hf;simp only [jY] at hf;obtain ⟨l,hl,rfl⟩:=hf;obtain ⟨u,v,us,vs,c,r,rfl,rfl,hs,hc,hr,rfl⟩:=zfG (w:=w) (dd:=dd+2) hk he;refine JN hn.1 (Jb hs (by rw [hn.2,<-hp];simp)) (Jb hs (by rw [hn.2,<-hp'];simp)) hc ?_;have:=Ua (P:=P) (w:=w) dd fs l (k+1) (pre++[u]) us (pre'++[v]) vs r hl (by simp [hp]) (by simp [hp']) hr;simpa using this
   | none=>
    rw [hk] at hf;simp only at hf
    cases hu:P.underlying f.type with
    | none=>rw [hu] at hf;cases hf
    | some td=>
     rw [hu] at hf;cases td<;>simp only [reduceCtorEq] at hf;rename_i gs;split at hf
     ·rename_i hst
      cases hfl:zcp P gs.toList 0 with
      | none=>rw [hfl] at hf;simp at hf
      | some l2=>
       cases hin:P.info? f.type with
       | none=>rw [hfl,hin] at hf;simp at hf
       | some i=>
        rw [hfl,hin] at hf;simp only at hf;split at hf
        ·rename_i hsz;simp only [jY] at hf;obtain ⟨l,hl,rfl⟩:=hf;obtain ⟨u1,u2,v1,v2,b1,b2,rfl,rfl,hu1,hv1,h1,h2,rfl⟩:=Xz he;have hag:AgT P f.type l2.length:=⟨⟨_,hu,trivial⟩,i,hin,hsz⟩;have hfo:P.fieldsOf f.type=gs:=(by unfold Program.fieldsOf;rw [hu]);refine JN (u:=.agg u1.toArray) (v:=.agg v1.toArray) hn.1 ?_ ?_ ?_ ?_
         ·rw [JU hag,hn.2,JV pre u1 u2 k l2.length hp hu1]
         ·rw [JU hag,hn.2,JV pre' v1 v2 k l2.length hp' hv1]
         ·rw [Ae w (dd+2) f.type _ _ (by rw [hfo];exact hu) hst,hfo];have:=Vd (P:=P) (w:=w) dd gs.toList l2 0 [] u1 [] v1 b1 hfl U U h1;simpa using this
         ·have:=Ua (P:=P) (w:=w) dd fs l (k+l2.length) (pre++u1) u2 (pre'++v1) v2 b2 hl (by simp [hp,hu1]) (by simp [hp',hv1]) h2;simpa [jn] using this
        ·cases hf
     ·cases hf
  ·cases hf
variable {C:Cx} {Q:Exit->Act->World->Prop} {E E':Env} {I I':Qt} {loc loc' L R:Loc} {ops:Array Oper} {rest:List Oper} {S:GS}
variable {dst:Option Tmp} {d:Nat} {ty:TypeId} {pos:String} {af:Array Edge} {gd:Option (Nat×Bool)} {x y z:Operand}
theorem zvs {t t':TypeId}{ks:List EqK}{us vs:List Value}{b:Bool}(hx:Qv S E x=some (.agg us.toArray))(hy:Qv S E y=some (.agg vs.toArray))(hT:zFM C.P t ks)(h:JS ks us vs=some b):QV C S E I loc ⟨dst,.binOp .neq t x y t',ty,pos,af,gd⟩ (.bool (!b)):=
 .of kC fun a w ha hg hc _=>by
  have:=Ua (P:=C.P) (w:=w) 9996 _ _ 0 [] us [] vs b hT.2.2.2 U U h;simp only [j8] at this;simp only [execOp,Qi ha hg hc hx,Qi ha hg hc hy,jg,A6 w _ _ _ _ _ _ hT.2.2.1,Result.andThen,run_neq_struct,Ae w 9999 t _ _ hT.1 hT.2.1,this,jl]
end
end Go.Kn
namespace Go.Proofs.YtmbjmjbjdgjonaaGreatDoor.R
section
open Go Go.Kn Go.Proofs
theorem zgq:AgT Tryz.prog 112 3:=.of kA
theorem zvQ:AgT Tryz.prog 113 24:=.of kA
theorem YW:AgT Tryz.prog 132 4:=.of kA
theorem zwS:AgT Tryz.prog 186 2:=.of kA
theorem zvX:AgT Tryz.prog 278 9:=.of kA
theorem YD:AgT Tryz.prog 30 22:=.of kA
theorem YG:AgT Tryz.prog 53 19:=.of kA
theorem zc4:ArT Tryz.prog 113 8 112 3:=.of kA
theorem WT:ArT Tryz.prog 278 9 173 1:=.of kA
theorem Xc:CvT Tryz.prog 178 3 .i64:=⟨kA,kA⟩
theorem zvp:ElT Tryz.prog 180 34 1 8:=.of kA
theorem zus:ElT Tryz.prog 182 186 2 16:=.of kA
theorem Ks:ElT Tryz.prog 49 53 19 168:=.of kA
theorem ziZ:ElT Tryz.prog 55 139 3 40:=.of kA
theorem zuZ:zFM Tryz.prog 30 [.int,.int,.int,.int,.int,.int,.int,.int,.int,.int,.int,.int,.int,.int,.int,.int,.int,.int,.int,.int,.int,.int]:=⟨kA,kA,kA,kA⟩
theorem zsP:EqT Tryz.prog 26 [.int,.int]:=⟨kA,kA,kA,kA⟩
theorem zmr:QP Tryz.prog 112 0 0:=.of kA
theorem zml:QP Tryz.prog 112 1 1:=.of kA
theorem zky:QP Tryz.prog 112 2 2:=.of kA
theorem ze9:QP Tryz.prog 132 0 0:=.of kA
theorem zbB:QP Tryz.prog 132 1 1:=.of kA
theorem UL:QP Tryz.prog 132 2 2:=.of kA
theorem UN:QP Tryz.prog 132 3 3:=.of kA
theorem zkj:QP Tryz.prog 186 0 0:=.of kA
theorem Xi:QP Tryz.prog 186 1 1:=.of kA
theorem zn4:QP Tryz.prog 223 0 0:=.of kA
theorem Xs:QP Tryz.prog 30 0 0:=.of kA
theorem Kz:QP Tryz.prog 30 1 1:=.of kA
theorem Wb:QP Tryz.prog 30 2 2:=.of kA
theorem VO:QP Tryz.prog 30 3 3:=.of kA
theorem JP:QP Tryz.prog 30 4 4:=.of kA
theorem K4:QP Tryz.prog 30 5 5:=.of kA
theorem Km:QP Tryz.prog 30 6 6:=.of kA
theorem Xe:QP Tryz.prog 30 7 8:=.of kA
theorem Zy:QP Tryz.prog 53 0 0:=.of kA
theorem Wo:QP Tryz.prog 53 1 1:=.of kA
theorem Yz:QP Tryz.prog 53 2 2:=.of kA
theorem Kk:QP Tryz.prog 53 3 3:=.of kA
theorem VH:QP Tryz.prog 53 4 4:=.of kA
theorem U9:QP Tryz.prog 53 5 18:=.of kA
theorem zuj:Fun Tryz.prog 100:=.of Tryz.func100 kA kA
theorem zwh:Fun Tryz.prog 101:=.of Tryz.func101 kA kA
theorem zt3:Fun Tryz.prog 102:=.of Tryz.func102 kA kA
theorem zuw:Fun Tryz.prog 103:=.of Tryz.func103 kA kA
theorem zuc:Fun Tryz.prog 104:=.of Tryz.func104 kA kA
theorem zul:Fun Tryz.prog 105:=.of Tryz.func105 kA kA
theorem zxe:Fun Tryz.prog 106:=.of Tryz.func106 kA kA
theorem zyp:Fun Tryz.prog 107:=.of Tryz.func107 kA kA
theorem zwU:Fun Tryz.prog 108:=.of Tryz.func108 kA kA
theorem zvV:Fun Tryz.prog 109:=.of Tryz.func109 kA kA
theorem zvZ:Fun Tryz.prog 110:=.of Tryz.func110 kA kA
theorem zw5:Fun Tryz.prog 111:=.of Tryz.func111 kA kA
theorem zxg:Fun Tryz.prog 113:=.of Tryz.func113 kA kA
theorem zu5:Fun Tryz.prog 114:=.of Tryz.func114 kA kA
theorem X5:Fun Tryz.prog 115:=.of Tryz.func115 kA kA
theorem zxv:Fun Tryz.prog 119:=.of Tryz.func119 kA kA
theorem zwR:Fun Tryz.prog 120:=.of Tryz.func120 kA kA
theorem zx2:Fun Tryz.prog 121:=.of Tryz.func121 kA kA
theorem zvP:Fun Tryz.prog 122:=.of Tryz.func122 kA kA
theorem zg8:Fun Tryz.prog 123:=.of Tryz.func123 kA kA
theorem ztY:Fun Tryz.prog 124:=.of Tryz.func124 kA kA
theorem zv6:Fun Tryz.prog 125:=.of Tryz.func125 kA kA
theorem zyt:Fun Tryz.prog 126:=.of Tryz.func126 kA kA
theorem zuD:Fun Tryz.prog 127:=.of Tryz.func127 kA kA
theorem zvR:Fun Tryz.prog 128:=.of Tryz.func128 kA kA
theorem zuU:Fun Tryz.prog 129:=.of Tryz.func129 kA kA
theorem zl5:Fun Tryz.prog 130:=.of Tryz.func130 kA kA
theorem zkF:Fun Tryz.prog 131:=.of Tryz.func131 kA kA
theorem zwy:Fun Tryz.prog 132:=.of Tryz.func132 kA kA
theorem zvc:Fun Tryz.prog 156:=.of Tryz.func156 kA kA
theorem zxq:Fun Tryz.prog 159:=.of Tryz.func159 kA kA
theorem zxb:Fun Tryz.prog 160:=.of Tryz.func160 kA kA
theorem zyq:Fun Tryz.prog 162:=.of Tryz.func162 kA kA
theorem zwM:Fun Tryz.prog 163:=.of Tryz.func163 kA kA
theorem zu6:Fun Tryz.prog 164:=.of Tryz.func164 kA kA
theorem zvD:Fun Tryz.prog 165:=.of Tryz.func165 kA kA
theorem zye:Fun Tryz.prog 166:=.of Tryz.func166 kA kA
theorem zuy:Fun Tryz.prog 167:=.of Tryz.func167 kA kA
theorem zxp:Fun Tryz.prog 168:=.of Tryz.func168 kA kA
theorem zyj:Fun Tryz.prog 169:=.of Tryz.func169 kA kA
theorem zuk:Fun Tryz.prog 170:=.of Tryz.func170 kA kA
theorem zvj:Fun Tryz.prog 171:=.of Tryz.func171 kA kA
theorem zyB:Fun Tryz.prog 172:=.of Tryz.func172 kA kA
theorem zt8:Fun Tryz.prog 173:=.of Tryz.func173 kA kA
theorem zko:Fun Tryz.prog 174:=.of Tryz.func174 kA kA
theorem zga:Fun Tryz.prog 176:=.of Tryz.func176 kA kA
theorem zyL:Fun Tryz.prog 207:=.of Tryz.func207 kA kA
theorem zly:Fun Tryz.prog 209:=.of Tryz.func209 kA kA
theorem zll:Fun Tryz.prog 210:=.of Tryz.func210 kA kA
theorem zxH:Fun Tryz.prog 211:=.of Tryz.func211 kA kA
theorem zgJ:Fun Tryz.prog 235:=.of Tryz.func235 kA kA
theorem ztt:Fun Tryz.prog 39:=.of Tryz.func39 kA kA
theorem zDG:Fun Tryz.prog 40:=.of Tryz.func40 kA kA
theorem zsc:Fun Tryz.prog 41:=.of Tryz.func41 kA kA
theorem zzS:Fun Tryz.prog 43:=.of Tryz.func43 kA kA
theorem zCA:Fun Tryz.prog 44:=.of Tryz.func44 kA kA
theorem zzQ:Fun Tryz.prog 45:=.of Tryz.func45 kA kA
theorem zA6:Fun Tryz.prog 46:=.of Tryz.func46 kA kA
theorem zr2:Fun Tryz.prog 47:=.of Tryz.func47 kA kA
theorem zrT:Fun Tryz.prog 48:=.of Tryz.func48 kA kA
theorem zte:Fun Tryz.prog 49:=.of Tryz.func49 kA kA
theorem zty:Fun Tryz.prog 50:=.of Tryz.func50 kA kA
theorem ztN:Fun Tryz.prog 51:=.of Tryz.func51 kA kA
theorem zsj:Fun Tryz.prog 52:=.of Tryz.func52 kA kA
theorem zhI:Fun Tryz.prog 84:=.of Tryz.func84 kA kA
theorem ztQ:Fun Tryz.prog 85:=.of Tryz.func85 kA kA
theorem zie:Fun Tryz.prog 86:=.of Tryz.func86 kA kA
theorem zBY:Fun Tryz.prog 87:=.of Tryz.func87 kA kA
theorem zhC:Fun Tryz.prog 88:=.of Tryz.func88 kA kA
theorem zAO:Fun Tryz.prog 89:=.of Tryz.func89 kA kA
theorem zlb:Fun Tryz.prog 90:=.of Tryz.func90 kA kA
theorem zA2:Fun Tryz.prog 91:=.of Tryz.func91 kA kA
theorem zAH:Fun Tryz.prog 92:=.of Tryz.func92 kA kA
theorem zA7:Fun Tryz.prog 93:=.of Tryz.func93 kA kA
theorem zDr:Fun Tryz.prog 94:=.of Tryz.func94 kA kA
theorem zzV:Fun Tryz.prog 95:=.of Tryz.func95 kA kA
theorem zzB:Fun Tryz.prog 96:=.of Tryz.func96 kA kA
theorem zCT:Fun Tryz.prog 97:=.of Tryz.func97 kA kA
theorem zz1:Fun Tryz.prog 98:=.of Tryz.func98 kA kA
theorem zAb:Fun Tryz.prog 99:=.of Tryz.func99 kA kA
theorem UC:MpT Tryz.prog 128 3 192 (.map none):=⟨kA,.of kA⟩
theorem zgK:MpT Tryz.prog 129 82 49 (.slice none 0 0):=⟨kA,.of kA⟩
theorem JC:MpT Tryz.prog 130 3 37 (.slice none 0 0):=⟨kA,.of kA⟩
theorem zgI:MpT Tryz.prog 141 28 4 (.bool false):=⟨kA,.of kA⟩
theorem V6:MpT Tryz.prog 192 3 4 (.bool false):=⟨kA,.of kA⟩
theorem WI:PlT Tryz.prog 112 #[(0,1),(1,1),(2,1)] (.agg #[.nilFunc,.nilFunc,.nilFunc]):=⟨.of kA,kA,fun w=>kA⟩
theorem zxw:PlT Tryz.prog 132 #[(0,1),(1,1),(2,1),(3,1)] (.agg #[(.map none),(.map none),(.map none),(.slice none 0 0)]):=⟨.of kA,kA,fun w=>kA⟩
theorem zos:PlT Tryz.prog 139 #[(0,1),(1,1),(2,1)] (.agg #[(.int .i64 0),(.int .i64 0),(.slice none 0 0)]):=⟨.of kA,kA,fun w=>kA⟩
theorem U4:PlT Tryz.prog 186 #[(0,1),(1,1)] (.agg #[(.int .i64 0),.nilFunc]):=⟨.of kA,kA,fun w=>kA⟩
theorem zxL:PlT Tryz.prog 223 #[(0,1)] (.agg #[.nilFunc]):=⟨.of kA,kA,fun w=>kA⟩
theorem znm:PlT Tryz.prog 26 #[(0,1),(1,1)] (.agg #[(.int .i64 0),(.int .i64 0)]):=⟨.of kA,kA,fun w=>kA⟩
theorem ze1:PlT Tryz.prog 30 #[(0,1),(1,1),(2,1),(3,1),(4,1),(5,1),(6,2),(8,14)] (.agg #[(.int .i64 0),(.int .i64 0),(.int .i64 0),(.int .i64 0),(.int .i64 0),(.int .i64 0),(.int .i64 0),(.int .i64 0),(.int .i64 0),(.int .i64 0),(.int .i64 0),(.int .i64 0),(.int .i64 0),(.int .i64 0),(.int .i64 0),(.int .i64 0),(.int .i64 0),(.int .i64 0),(.int .i64 0),(.int .i64 0),(.int .i64 0),(.int .i64 0)]):=⟨.of kA,kA,fun w=>kA⟩
theorem zi8:PlT Tryz.prog 53 #[(0,1),(1,1),(2,1),(3,1),(4,14),(18,1)] (.agg #[(.int .i64 0),(.int .i64 0),(.int .i64 0),(.int .i64 0),(.int .i64 0),(.int .i64 0),(.int .i64 0),(.int .i64 0),(.int .i64 0),(.int .i64 0),(.int .i64 0),(.int .i64 0),(.int .i64 0),(.int .i64 0),(.int .i64 0),(.int .i64 0),(.int .i64 0),(.int .i64 0),(.slice none 0 0)]):=⟨.of kA,kA,fun w=>kA⟩
theorem zyr:ScT Tryz.prog 108:=.of kA
theorem zbv:ScT Tryz.prog 109:=.of kA
theorem zu1:ScT Tryz.prog 110:=.of kA
theorem zme:ScT Tryz.prog 128:=.of kA
theorem zhk:ScT Tryz.prog 129:=.of kA
theorem zbU:ScT Tryz.prog 130:=.of kA
theorem zlA:ScT Tryz.prog 141:=.of kA
theorem XZ:ScT Tryz.prog 173:=.of kA
theorem zx0:ScT Tryz.prog 174:=.of kA
theorem zds:ScT Tryz.prog 184:=.of kA
theorem zkA:ScT Tryz.prog 192:=.of kA
theorem zvM:ScT Tryz.prog 221:=.of kA
theorem zAT:ScT Tryz.prog 34:=.of kA
theorem zeW:ScT Tryz.prog 44:=.of kA
theorem zbp:ScT Tryz.prog 49:=.of kA
theorem zl1:SlT Tryz.prog 180 34 1:=.of kA
theorem zkJ:SlT Tryz.prog 182 186 2:=.of kA
theorem ZG:SlT Tryz.prog 49 53 19:=.of kA
theorem zug:SzT Tryz.prog 109 1:=.of kA
theorem zgZ:SzT Tryz.prog 112 3:=.of kA
theorem zvY:SzT Tryz.prog 113 24:=.of kA
theorem US:SzT Tryz.prog 132 4:=.of kA
theorem zv7:SzT Tryz.prog 141 1:=.of kA
theorem zuK:SzT Tryz.prog 186 2:=.of kA
theorem zva:SzT Tryz.prog 192 1:=.of kA
theorem zvB:SzT Tryz.prog 278 9:=.of kA
theorem U0:SzT Tryz.prog 30 22:=.of kA
theorem zrY:SzT Tryz.prog 44 1:=.of kA
theorem znM:SzT Tryz.prog 49 1:=.of kA
theorem VY:SzT Tryz.prog 53 19:=.of kA
theorem zxF:Tryz.prog.underlying 192=some (.map 3 4):=kA
theorem zuW:Tryz.prog.underlying 4=some .bool:=kA
theorem zCq:Yw Tryz.prog 109 .nilFunc:=.of kA
theorem zkS:Yw Tryz.prog 112 (.agg #[.nilFunc,.nilFunc,.nilFunc]):=.of kA
theorem zsO:Yw Tryz.prog 113 (.agg #[.nilFunc,.nilFunc,.nilFunc,.nilFunc,.nilFunc,.nilFunc,.nilFunc,.nilFunc,.nilFunc,.nilFunc,.nilFunc,.nilFunc,.nilFunc,.nilFunc,.nilFunc,.nilFunc,.nilFunc,.nilFunc,.nilFunc,.nilFunc,.nilFunc,.nilFunc,.nilFunc,.nilFunc]):=.of kA
theorem zkE:Yw Tryz.prog 132 (.agg #[(.map none),(.map none),(.map none),(.slice none 0 0)]):=.of kA
theorem zAM:Yw Tryz.prog 141 (.map none):=.of kA
theorem zz5:Yw Tryz.prog 186 (.agg #[(.int .i64 0),.nilFunc]):=.of kA
theorem zB3:Yw Tryz.prog 192 (.map none):=.of kA
theorem zdF:Yw Tryz.prog 26 (.agg #[(.int .i64 0),(.int .i64 0)]):=.of kA
theorem ztC:Yw Tryz.prog 278 (.agg #[(.pointer none),(.pointer none),(.pointer none),(.pointer none),(.pointer none),(.pointer none),(.pointer none),(.pointer none),(.pointer none)]):=.of kA
theorem zbT:Yw Tryz.prog 30 (.agg #[(.int .i64 0),(.int .i64 0),(.int .i64 0),(.int .i64 0),(.int .i64 0),(.int .i64 0),(.int .i64 0),(.int .i64 0),(.int .i64 0),(.int .i64 0),(.int .i64 0),(.int .i64 0),(.int .i64 0),(.int .i64 0),(.int .i64 0),(.int .i64 0),(.int .i64 0),(.int .i64 0),(.int .i64 0),(.int .i64 0),(.int .i64 0),(.int .i64 0)]):=.of kA
theorem Uf:Yw Tryz.prog 53 (.agg #[(.int .i64 0),(.int .i64 0),(.int .i64 0),(.int .i64 0),(.int .i64 0),(.int .i64 0),(.int .i64 0),(.int .i64 0),(.int .i64 0),(.int .i64 0),(.int .i64 0),(.int .i64 0),(.int .i64 0),(.int .i64 0),(.int .i64 0),(.int .i64 0),(.int .i64 0),(.int .i64 0),(.slice none 0 0)]):=.of kA
end
end Go.Proofs.YtmbjmjbjdgjonaaGreatDoor.R
