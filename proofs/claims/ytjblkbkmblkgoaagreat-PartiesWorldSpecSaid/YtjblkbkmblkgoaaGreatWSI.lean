/- partiesWorldSpec_holds, part I of the proof: what its theorems say holds without further conditions. -/
import Derived.ProofKit
import Derived.Deep.Slices
import Derived.Test.YtjblkbkmblkgoaaGreatRows
import Derived.Test.YtjblkbkmblkgoaaGreatWSH
namespace Go.Proofs.YtjblkbkmblkgoaaGreat
section
open Go Go.Kn Go.Proofs
theorem ziS:Fun Tryz.prog 74:=.of Tryz.func74 kA kA
theorem zym:Fun Tryz.prog 77:=.of Tryz.func77 kA kA
variable{I:Qv}{av:Option Addr}{n c:Nat}{xs:List Nt}
set_option maxRecDepth 100000 in
set_option maxHeartbeats 1600000 in
theorem zqN     (hP:UV I av n c xs) (hW:∀ x∈xs,NtW x) (hn:n≤100000):Y7 Tryz.prog 21 [.agg #[.slice av n c]] I [] (zAk xs):=by
 intro g H w hw;refine qe Tryz.func21 Tryz.ntmps21 hw ?_;have hIc:=zCA I;have hln:=hP.sl.len;refine zR ?_;refine QQ rfl rfl rfl (fun b_1=>?_);refine zA ?_;refine zA ?_;refine zA ?_;refine zA ?_;refine zA (Qb ?_);refine QH .here (fun I1 hI1 hb1=>?_);have hP:=hP.mono hI1;have hIc:=hIc.trans hI1;have h1:=BxI.of hb1;refine Qc (zR ?_);refine zV (Qg rfl Vj (fun hg=>by exact BxI.cells (vs:=[_]) h1) rfl) ?_;refine qcV (vs:=[_]) rfl zse (zji hP hW hn) ?_;refine zA (zN (Qm (zR ?_)));refine zM ?_;refine zO (zN ?_);refine zI ?_ ?_<;>intro hc24
 ·
  have hvf:ZQ xs=false:=(by simpa using hc24);refine zR (zA ?_);refine zA ?_;refine zA ?_;refine zA ?_;refine zA (zN (Qs (Qf ?_)));exact zeB rfl rfl rfl rfl rfl rfl (fun w hw=>⟨_,I1,[],rfl,hIc,hw.subL Qx,rfl,.inr ⟨hvf,rfl⟩⟩)
 have hvf:ZQ xs=true:=(by simpa using hc24);refine Qp (Qc (zR (zA ?_)));refine zN (zR ?_);refine zV (Qg rfl Vj (fun hg=>by exact BxI.cells (vs:=[_]) h1) rfl) ?_;refine zpc [_,_] rfl ziS .nil (zi7 hP hn 1) ?_;rintro vv2 I2 L2 hI2 ⟨rfl,aC1,mC1,cC1,rfl,hC1⟩;have hP:=hP.mono hI2;have h1:=h1.mono hI2;have hIc:=hIc.trans hI2;have hlC1:=hC1.len;have hnC1:=zdD (kind:=1) (xs:=xs);have hcC1:=hC1.cap;refine zA (zN ?_);refine zY [(1,_)] (fun T L0 E I' loc'=>∃ (a8:Option Addr) (m8 c8:Nat),E=(8,.slice a8 m8 c8)::T∧HLe I2 I'∧L0=loc'∧Sl I' 9 Zi a8 m8 c8 (wLm xs)) ?_ ?_
 ·
  have hK0:=zCA I2;refine zR (zA (zN (Qr ?_)));refine zU [(1,_),(9,_)] (fun T L0 mz E I' loc'=>∃ (i:Nat) (a8:Option Addr) (m8:Nat) (c8:Nat),mz=mC1-i∧E=(8,.slice a8 m8 c8)::(10,.int .i64 i)::T∧HLe I2 I'∧L0=loc'∧i≤mC1∧Sl I' 9 Zi a8 m8 c8 (Km (fun x=>x.lm) za0 ((YN 1 xs).take i))∧m8≤i) ?_ (h:=⟨0,none,0,0,rfl,rfl,zCA _,rfl,Nat.zero_le _,Sl.nil,Nat.le_refl _⟩);rintro mz E J3 loc' ⟨i,a8,m8,c8,rfl,rfl,hJ,rfl,hi,hA,hm8⟩;have hC1:=hC1.mono hJ;have hK0:=hK0.trans hJ;have hB0:=hJ;have hla:=hA.len;have hca:=hA.cap;refine Qm (zR (zM ?_));refine zM ?_;refine zQ QZ ?_;refine zC (zN ?_);refine zI ?_ ?_<;>intro hc30
  ·
   have hlt_i:i<mC1:=(by have h:=hc30;simp at h;omega);obtain ⟨y,hy⟩:∃ y,(YN 1 xs)[i]? =some y:=⟨_,List.getElem?_eq_getElem kB⟩;have hyx:=Wm y (List.mem_of_getElem? hy);have hCs:∀ z∈(YN 1 xs).take i,z∈xs:=fun z hz=>Wm z (List.mem_of_mem_take hz);refine Qp (Qc (Qm (Qr ?_)));refine zY [(1,_),(8,_),(9,_),(10,_)] (fun T L0 E I' loc'=>∃ (a2:Option Addr) (m2 c2:Nat),E=(11,.slice a2 m2 c2)::T∧HLe J3 I'∧L0=loc'∧Sl I' 9 Zi a2 m2 c2 ((Km (fun x=>x.lm) za0 ((YN 1 xs).take i))++[y.lm])∧m2≤i+1) ?_ ?_
   ·
    have hKc9:=zCA J3;have hD:=zCA J3;refine Zm ?_;refine QI J3 [] mixed ?_;refine zT 1 rfl (Qe rfl) hD ?_;refine zT 3 rfl (Qe rfl) hD ?_;refine zT 4 rfl (Qe rfl) hD ?_;refine zT 5 rfl (zX QZ hC1) hD ?_;refine zT 6 rfl (Qa rfl YX) hD ?_;refine zT 7 rfl (Qg rfl Jr (fun hg=>by exact Sl.seg hC1 hy (o:=1) (vs:=Zi (y.lm)) rfl) rfl) hD ?_;refine QS 0 8 rfl rfl kA ?_ ?_
    ·
     refine zpb [] [] VQ (fun b_33=>?_);refine Qb ?_;refine zD hD ?_;refine QS 2 8 rfl rfl kA ?_ ?_
     ·
      refine zpa (_) ((Km (fun x=>x.lm) za0 ((YN 1 xs).take i)).flatMap Zi) ([(b_33,_)]) rfl rfl VQ ZP.new (hA.src YI) (zaC _) ?_;intro v1 L1 hO1 _;rw [List.nil_append] at hO1;refine Qb ?_;refine zD hD ?_;refine qd 8 rfl ?_;refine zpb [(0,_)] [Zi (y.lm)] VQ (fun b_41=>?_);refine Qb ?_;refine zD hD ?_;refine qd 9 rfl ?_;refine zpa (v1) ([y.lm].flatMap Zi) (L1) rfl rfl VQ hO1 ⟨rfl,fun _=>rfl,by repeat (first | exact zCy | apply zCx | apply zCz)⟩ (zaC [y.lm]) ?_;intro v2 L2 hO2 _;refine ZT (xs:=(Km (fun x=>x.lm) za0 ((YN 1 xs).take i))++[y.lm]) kL YI kD (by repeat (first | exact .cons .here .nil | exact Zb | exact QR | apply Q0 | apply QX)) (fun I4 hI4 af4 cf4 ef4 hM=>?_);subst ef4;have hKc9:=hKc9.trans hI4;have hD:=hD.trans hI4;refine Qb ?_;refine zD hD ?_;refine zT 10 rfl (Qy rfl) hD ?_;refine Qo kA ?_;refine Qw ?_;exact zm (h:=⟨_,_,_,rfl,hKc9,rfl,hM,kB⟩)
     refine zpb [(0,_)] [Zi (y.lm)] VQ (fun b_41=>?_);refine Qb ?_;refine zD hD ?_;refine qd 2 rfl ?_;refine zpa (_) ((Km (fun x=>x.lm) za0 ((YN 1 xs).take i)).flatMap Zi) ([(b_33,_)]) rfl rfl VQ ZP.new (hA.src YI) (zaC _) ?_;intro v1 L1 hO1 _;rw [List.nil_append] at hO1;refine Qb ?_;refine zD hD ?_;refine qd 9 rfl ?_;refine zpa (v1) ([y.lm].flatMap Zi) (L1) rfl rfl VQ hO1 ⟨rfl,fun _=>rfl,by repeat (first | exact zCy | apply zCx | apply zCz)⟩ (zaC [y.lm]) ?_;intro v2 L2 hO2 _;refine ZT (xs:=(Km (fun x=>x.lm) za0 ((YN 1 xs).take i))++[y.lm]) kL YI kD (by repeat (first | exact .cons .here .nil | exact Zb | exact QR | apply Q0 | apply QX)) (fun I5 hI5 af5 cf5 ef5 hM=>?_);subst ef5;have hKc9:=hKc9.trans hI5;have hD:=hD.trans hI5;refine Qb ?_;refine zD hD ?_;refine zT 10 rfl (Qy rfl) hD ?_;refine Qo kA ?_;refine Qw ?_;exact zm (h:=⟨_,_,_,rfl,hKc9,rfl,hM,kB⟩)
    refine zpb [(0,_)] [Zi (y.lm)] VQ (fun b_41=>?_);refine Qb ?_;refine zD hD ?_;refine qd 0 rfl ?_;refine zpb [] [] VQ (fun b_33=>?_);refine Qb ?_;refine zD hD ?_;refine qd 2 rfl ?_;refine zpa (_) ((Km (fun x=>x.lm) za0 ((YN 1 xs).take i)).flatMap Zi) ([(b_33,_)]) rfl rfl VQ ZP.new (hA.src YI) (zaC _) ?_;intro v1 L1 hO1 _;rw [List.nil_append] at hO1;refine Qb ?_;refine zD hD ?_;refine qd 9 rfl ?_;refine zpa (v1) ([y.lm].flatMap Zi) (L1) rfl rfl VQ hO1 ⟨rfl,fun _=>rfl,by repeat (first | exact zCy | apply zCx | apply zCz)⟩ (zaC [y.lm]) ?_;intro v2 L2 hO2 _;refine ZT (xs:=(Km (fun x=>x.lm) za0 ((YN 1 xs).take i))++[y.lm]) kL YI kD (by repeat (first | exact .cons .here .nil | exact Zb | exact QR | apply Q0 | apply QX)) (fun I6 hI6 af6 cf6 ef6 hM=>?_);subst ef6;have hKc9:=hKc9.trans hI6;have hD:=hD.trans hI6;refine Qb ?_;refine zD hD ?_;refine zT 10 rfl (Qy rfl) hD ?_;refine Qo kA ?_;refine Qw ?_;exact zm (h:=⟨_,_,_,rfl,hKc9,rfl,hM,kB⟩)
   rintro E J7 loc' ⟨a2,m2,c2,rfl,hJ6,rfl,hM,hm2⟩;have hA:=hA.mono hJ6;have hB0:=hB0.trans hJ6;refine zR (zM ?_);refine qcV (vs:=[_]) rfl zk2 (zov hM kB (zxx hW hCs hyx)) ?_;refine zC (zN ?_);refine zI ?_ ?_<;>intro hc45
   ·
    refine Qh (zM ?_);refine zA (Qb (Qi (Qc (Qh ?_))));refine zM ?_;refine zB ?_;refine zA (Qb ?_)
    first
    | exact zm (h:=⟨mC1-(i+1),kB,i+1,_,_,_,rfl,rfl,hB0,rfl,kB,by rw [zbf hy hc45];exact hM,kB⟩)
   refine Qp (Qi (Qc (Qh (zM ?_))));refine zB ?_;refine zA (Qb ?_)
   first
   | exact zm (h:=⟨mC1-(i+1),kB,i+1,_,_,_,rfl,rfl,hB0,rfl,kB,by rw [zej hy hc45];exact hA,kB⟩)
  have hge_i:mC1≤i:=(by have h:=hc30;simp at h;omega);rw [ZB hlC1 hge_i,zBk] at hA;refine Q6 (Ql (Ql (Qq ?_)));exact zm (h:=⟨_,_,_,rfl,hK0,rfl,hA⟩)
 rintro E J8 loc' ⟨aW1,mW1,cW1,rfl,hJ8,rfl,hW1⟩;have hP:=hP.mono hJ8;have h1:=h1.mono hJ8;have hIc:=hIc.trans hJ8;refine zR (zA ?_);refine zN (zR ?_);refine zV (Qg rfl Vj (fun hg=>by exact BxI.cells (vs:=[_]) h1) rfl) ?_;refine zpc [_,_] rfl ziS .nil (zi7 hP hn 3) ?_;rintro vv9 I9 L9 hI9 ⟨rfl,aC3,mC3,cC3,rfl,hC3⟩;have hP:=hP.mono hI9;have h1:=h1.mono hI9;have hW1:=hW1.mono hI9;have hIc:=hIc.trans hI9;have hlC3:=hC3.len;have hnC3:=zdD (kind:=3) (xs:=xs);have hcC3:=hC3.cap;refine zA (zN ?_);refine zY [(1,_),(8,_)] (fun T L0 E I' loc'=>∃ (a8:Option Addr) (m8 c8:Nat),E=(12,.slice a8 m8 c8)::T∧HLe I9 I'∧L0=loc'∧Sl I' 5 L.encL a8 m8 c8 (wLs xs)) ?_ ?_
 ·
  have hK2:=zCA I9;refine zR (zA (zN (Qr ?_)));refine zU [(1,_),(8,_),(9,_)] (fun T L0 mz E I' loc'=>∃ (i:Nat) (a8:Option Addr) (m8:Nat) (c8:Nat),mz=mC3-i∧E=(12,.slice a8 m8 c8)::(13,.int .i64 i)::T∧HLe I9 I'∧L0=loc'∧i≤mC3∧Sl I' 5 L.encL a8 m8 c8 (Km (fun x=>x.ls) L.chk ((YN 3 xs).take i))∧m8≤i) ?_ (h:=⟨0,none,0,0,rfl,rfl,zCA _,rfl,Nat.zero_le _,Sl.nil,Nat.le_refl _⟩);rintro mz E J10 loc' ⟨i,a8,m8,c8,rfl,rfl,hJ,rfl,hi,hA,hm8⟩;have hC3:=hC3.mono hJ;have hK2:=hK2.trans hJ;have hB2:=hJ;have hla:=hA.len;have hca:=hA.cap;refine Qm (zR (zM ?_));refine zM ?_;refine zQ QZ ?_;refine zC (zN ?_);refine zI ?_ ?_<;>intro hc52
  ·
   have hlt_i:i<mC3:=(by have h:=hc52;simp at h;omega);obtain ⟨y,hy⟩:∃ y,(YN 3 xs)[i]? =some y:=⟨_,List.getElem?_eq_getElem kB⟩;have hyx:=Wm y (List.mem_of_getElem? hy);have hCs:∀ z∈(YN 3 xs).take i,z∈xs:=fun z hz=>Wm z (List.mem_of_mem_take hz);refine Qp (Qc (Qm (Qr ?_)));refine zY [(1,_),(8,_),(9,_),(12,_),(13,_)] (fun T L0 E I' loc'=>∃ (a2:Option Addr) (m2 c2:Nat),E=(14,.slice a2 m2 c2)::T∧HLe J10 I'∧L0=loc'∧Sl I' 5 L.encL a2 m2 c2 ((Km (fun x=>x.ls) L.chk ((YN 3 xs).take i))++[y.ls])∧m2≤i+1) ?_ ?_
   ·
    have hKc17:=zCA J10;have hD:=zCA J10;refine Zm ?_;refine QI J10 [] mixed ?_;refine zT 1 rfl (Qe rfl) hD ?_;refine zT 3 rfl (Qe rfl) hD ?_;refine zT 4 rfl (Qe rfl) hD ?_;refine zT 5 rfl (zX QZ hC3) hD ?_;refine zT 6 rfl (Qa rfl Vy) hD ?_;refine zT 7 rfl (Qg rfl Jp (fun hg=>by exact Sl.seg hC3 hy (o:=29) (vs:=L.encL (y.ls)) rfl) rfl) hD ?_;refine QS 0 8 rfl rfl kA ?_ ?_
    ·
     refine zpb [] [] JB (fun b_55=>?_);refine Qb ?_;refine zD hD ?_;refine QS 2 8 rfl rfl kA ?_ ?_
     ·
      refine zpa (_) ((Km (fun x=>x.ls) L.chk ((YN 3 xs).take i)).flatMap L.encL) ([(b_55,_)]) rfl rfl JB ZP.new (hA.src L.encL_len) (L.one_L _) ?_;intro v1 L1 hO1 _;rw [List.nil_append] at hO1;refine Qb ?_;refine zD hD ?_;refine qd 8 rfl ?_;refine zpb [(0,_)] [L.encL (y.ls)] JB (fun b_63=>?_);refine Qb ?_;refine zD hD ?_;refine qd 9 rfl ?_;refine zpa (v1) ([y.ls].flatMap L.encL) (L1) rfl rfl JB hO1 ⟨rfl,fun _=>rfl,by repeat (first | exact zCy | apply zCx | apply zCz)⟩ (L.one_L [y.ls]) ?_;intro v2 L2 hO2 _;refine ZT (xs:=(Km (fun x=>x.ls) L.chk ((YN 3 xs).take i))++[y.ls]) kL L.encL_len kD (by repeat (first | exact .cons .here .nil | exact Zb | exact QR | apply Q0 | apply QX)) (fun I11 hI11 af11 cf11 ef11 hM=>?_);subst ef11;have hKc17:=hKc17.trans hI11;have hD:=hD.trans hI11;refine Qb ?_;refine zD hD ?_;refine zT 10 rfl (Qy rfl) hD ?_;refine Qo kA ?_;refine Qw ?_;exact zm (h:=⟨_,_,_,rfl,hKc17,rfl,hM,kB⟩)
     refine zpb [(0,_)] [L.encL (y.ls)] JB (fun b_63=>?_);refine Qb ?_;refine zD hD ?_;refine qd 2 rfl ?_;refine zpa (_) ((Km (fun x=>x.ls) L.chk ((YN 3 xs).take i)).flatMap L.encL) ([(b_55,_)]) rfl rfl JB ZP.new (hA.src L.encL_len) (L.one_L _) ?_;intro v1 L1 hO1 _;rw [List.nil_append] at hO1;refine Qb ?_;refine zD hD ?_;refine qd 9 rfl ?_;refine zpa (v1) ([y.ls].flatMap L.encL) (L1) rfl rfl JB hO1 ⟨rfl,fun _=>rfl,by repeat (first | exact zCy | apply zCx | apply zCz)⟩ (L.one_L [y.ls]) ?_;intro v2 L2 hO2 _;refine ZT (xs:=(Km (fun x=>x.ls) L.chk ((YN 3 xs).take i))++[y.ls]) kL L.encL_len kD (by repeat (first | exact .cons .here .nil | exact Zb | exact QR | apply Q0 | apply QX)) (fun I12 hI12 af12 cf12 ef12 hM=>?_);subst ef12;have hKc17:=hKc17.trans hI12;have hD:=hD.trans hI12;refine Qb ?_;refine zD hD ?_;refine zT 10 rfl (Qy rfl) hD ?_;refine Qo kA ?_;refine Qw ?_;exact zm (h:=⟨_,_,_,rfl,hKc17,rfl,hM,kB⟩)
    refine zpb [(0,_)] [L.encL (y.ls)] JB (fun b_63=>?_);refine Qb ?_;refine zD hD ?_;refine qd 0 rfl ?_;refine zpb [] [] JB (fun b_55=>?_);refine Qb ?_;refine zD hD ?_;refine qd 2 rfl ?_;refine zpa (_) ((Km (fun x=>x.ls) L.chk ((YN 3 xs).take i)).flatMap L.encL) ([(b_55,_)]) rfl rfl JB ZP.new (hA.src L.encL_len) (L.one_L _) ?_;intro v1 L1 hO1 _;rw [List.nil_append] at hO1;refine Qb ?_;refine zD hD ?_;refine qd 9 rfl ?_;refine zpa (v1) ([y.ls].flatMap L.encL) (L1) rfl rfl JB hO1 ⟨rfl,fun _=>rfl,by repeat (first | exact zCy | apply zCx | apply zCz)⟩ (L.one_L [y.ls]) ?_;intro v2 L2 hO2 _;refine ZT (xs:=(Km (fun x=>x.ls) L.chk ((YN 3 xs).take i))++[y.ls]) kL L.encL_len kD (by repeat (first | exact .cons .here .nil | exact Zb | exact QR | apply Q0 | apply QX)) (fun I13 hI13 af13 cf13 ef13 hM=>?_);subst ef13;have hKc17:=hKc17.trans hI13;have hD:=hD.trans hI13;refine Qb ?_;refine zD hD ?_;refine zT 10 rfl (Qy rfl) hD ?_;refine Qo kA ?_;refine Qw ?_;exact zm (h:=⟨_,_,_,rfl,hKc17,rfl,hM,kB⟩)
   rintro E J14 loc' ⟨a2,m2,c2,rfl,hJ6,rfl,hM,hm2⟩;have hA:=hA.mono hJ6;have hB2:=hB2.trans hJ6;refine zR (zM ?_);refine qcV (vs:=[_]) rfl zlM (L.w_rcheck hM kB) ?_;refine zC (zN ?_);refine zI ?_ ?_<;>intro hc67
   ·
    refine Qh (zM ?_);refine zA (Qb (Qi (Qc (Qh ?_))));refine zM ?_;refine zB ?_;refine zA (Qb ?_)
    first
    | exact zm (h:=⟨mC3-(i+1),kB,i+1,_,_,_,rfl,rfl,hB2,rfl,kB,by rw [zbf hy hc67];exact hM,kB⟩)
   refine Qp (Qi (Qc (Qh (zM ?_))));refine zB ?_;refine zA (Qb ?_)
   first
   | exact zm (h:=⟨mC3-(i+1),kB,i+1,_,_,_,rfl,rfl,hB2,rfl,kB,by rw [zej hy hc67];exact hA,kB⟩)
  have hge_i:mC3≤i:=(by have h:=hc52;simp at h;omega);rw [ZB hlC3 hge_i,zA2] at hA;refine Q6 (Ql (Ql (Qq ?_)));exact zm (h:=⟨_,_,_,rfl,hK2,rfl,hA⟩)
 rintro E J15 loc' ⟨aW3,mW3,cW3,rfl,hJ8,rfl,hW3⟩;have hP:=hP.mono hJ8;have h1:=h1.mono hJ8;have hW1:=hW1.mono hJ8;have hIc:=hIc.trans hJ8;refine zR (zA ?_);refine zN (zR ?_);refine zV (Qg rfl Vj (fun hg=>by exact BxI.cells (vs:=[_]) h1) rfl) ?_;refine zpc [_,_] rfl ziS .nil (zi7 hP hn 2) ?_;rintro vv16 I16 L16 hI16 ⟨rfl,aC2,mC2,cC2,rfl,hC2⟩;have hP:=hP.mono hI16;have h1:=h1.mono hI16;have hW1:=hW1.mono hI16;have hW3:=hW3.mono hI16;have hIc:=hIc.trans hI16;have hlC2:=hC2.len;have hnC2:=zdD (kind:=2) (xs:=xs);have hcC2:=hC2.cap;refine zA (zN ?_);refine zY [(1,_),(8,_),(12,_)] (fun T L0 E I' loc'=>∃ (a8:Option Addr) (m8 c8:Nat),E=(15,.slice a8 m8 c8)::T∧HLe I16 I'∧L0=loc'∧Sl I' 19 K2 a8 m8 c8 (wPt xs)) ?_ ?_
 ·
  have hK4:=zCA I16;refine zR (zA (zN (Qr ?_)));refine zU [(1,_),(8,_),(9,_),(12,_)] (fun T L0 mz E I' loc'=>∃ (i:Nat) (a8:Option Addr) (m8:Nat) (c8:Nat),mz=mC2-i∧E=(15,.slice a8 m8 c8)::(16,.int .i64 i)::T∧HLe I16 I'∧L0=loc'∧i≤mC2∧Sl I' 19 K2 a8 m8 c8 (Km (fun x=>x.pt) WD ((YN 2 xs).take i))∧m8≤i) ?_ (h:=⟨0,none,0,0,rfl,rfl,zCA _,rfl,Nat.zero_le _,Sl.nil,Nat.le_refl _⟩);rintro mz E J17 loc' ⟨i,a8,m8,c8,rfl,rfl,hJ,rfl,hi,hA,hm8⟩;have hP:=hP.mono hJ;have hC2:=hC2.mono hJ;have hK4:=hK4.trans hJ;have hB4:=hJ;have hla:=hA.len;have hca:=hA.cap;refine Qm (zR (zM ?_));refine zM ?_;refine zQ QZ ?_;refine zC (zN ?_);refine zI ?_ ?_<;>intro hc74
  ·
   have hlt_i:i<mC2:=(by have h:=hc74;simp at h;omega);obtain ⟨y,hy⟩:∃ y,(YN 2 xs)[i]? =some y:=⟨_,List.getElem?_eq_getElem kB⟩;have hyx:=Wm y (List.mem_of_getElem? hy);have hCs:∀ z∈(YN 2 xs).take i,z∈xs:=fun z hz=>Wm z (List.mem_of_mem_take hz);refine Qp (Qc (Qm (Qr ?_)));refine zY [(1,_),(8,_),(9,_),(12,_),(15,_),(16,_)] (fun T L0 E I' loc'=>∃ (a2:Option Addr) (m2 c2:Nat),E=(17,.slice a2 m2 c2)::T∧HLe J17 I'∧L0=loc'∧Sl I' 19 K2 a2 m2 c2 ((Km (fun x=>x.pt) WD ((YN 2 xs).take i))++[y.pt])∧m2≤i+1) ?_ ?_
   ·
    have hKc25:=zCA J17;have hD:=zCA J17;refine Zm ?_;refine QI J17 [] mixed ?_;refine zT 1 rfl (Qe rfl) hD ?_;refine zT 3 rfl (Qe rfl) hD ?_;refine zT 4 rfl (Qe rfl) hD ?_;refine zT 5 rfl (zX QZ hC2) hD ?_;refine zT 6 rfl (Qa rfl Yi) hD ?_;refine zT 7 rfl (Qg rfl Y6 (fun hg=>by exact Sl.seg hC2 hy (o:=10) (vs:=K2 (y.pt)) rfl) rfl) hD ?_;refine QS 0 8 rfl rfl kA ?_ ?_
    ·
     refine zpb [] [] KO (fun b_77=>?_);refine Qb ?_;refine zD hD ?_;refine QS 2 8 rfl rfl kA ?_ ?_
     ·
      refine zpa (_) ((Km (fun x=>x.pt) WD ((YN 2 xs).take i)).flatMap K2) ([(b_77,_)]) rfl rfl KO ZP.new (hA.src Ju) (zj7 _) ?_;intro v1 L1 hO1 _;rw [List.nil_append] at hO1;refine Qb ?_;refine zD hD ?_;refine qd 8 rfl ?_;refine zpb [(0,_)] [K2 (y.pt)] KO (fun b_85=>?_);refine Qb ?_;refine zD hD ?_;refine qd 9 rfl ?_;refine zpa (v1) ([y.pt].flatMap K2) (L1) rfl rfl KO hO1 ⟨rfl,fun _=>rfl,by repeat (first | exact zCy | apply zCx | apply zCz)⟩ (zj7 [y.pt]) ?_;intro v2 L2 hO2 _;refine ZT (xs:=(Km (fun x=>x.pt) WD ((YN 2 xs).take i))++[y.pt]) kL Ju kD (by repeat (first | exact .cons .here .nil | exact Zb | exact QR | apply Q0 | apply QX)) (fun I18 hI18 af18 cf18 ef18 hM=>?_);subst ef18;have hKc25:=hKc25.trans hI18;have hD:=hD.trans hI18;refine Qb ?_;refine zD hD ?_;refine zT 10 rfl (Qy rfl) hD ?_;refine Qo kA ?_;refine Qw ?_;exact zm (h:=⟨_,_,_,rfl,hKc25,rfl,hM,kB⟩)
     refine zpb [(0,_)] [K2 (y.pt)] KO (fun b_85=>?_);refine Qb ?_;refine zD hD ?_;refine qd 2 rfl ?_;refine zpa (_) ((Km (fun x=>x.pt) WD ((YN 2 xs).take i)).flatMap K2) ([(b_77,_)]) rfl rfl KO ZP.new (hA.src Ju) (zj7 _) ?_;intro v1 L1 hO1 _;rw [List.nil_append] at hO1;refine Qb ?_;refine zD hD ?_;refine qd 9 rfl ?_;refine zpa (v1) ([y.pt].flatMap K2) (L1) rfl rfl KO hO1 ⟨rfl,fun _=>rfl,by repeat (first | exact zCy | apply zCx | apply zCz)⟩ (zj7 [y.pt]) ?_;intro v2 L2 hO2 _;refine ZT (xs:=(Km (fun x=>x.pt) WD ((YN 2 xs).take i))++[y.pt]) kL Ju kD (by repeat (first | exact .cons .here .nil | exact Zb | exact QR | apply Q0 | apply QX)) (fun I19 hI19 af19 cf19 ef19 hM=>?_);subst ef19;have hKc25:=hKc25.trans hI19;have hD:=hD.trans hI19;refine Qb ?_;refine zD hD ?_;refine zT 10 rfl (Qy rfl) hD ?_;refine Qo kA ?_;refine Qw ?_;exact zm (h:=⟨_,_,_,rfl,hKc25,rfl,hM,kB⟩)
    refine zpb [(0,_)] [K2 (y.pt)] KO (fun b_85=>?_);refine Qb ?_;refine zD hD ?_;refine qd 0 rfl ?_;refine zpb [] [] KO (fun b_77=>?_);refine Qb ?_;refine zD hD ?_;refine qd 2 rfl ?_;refine zpa (_) ((Km (fun x=>x.pt) WD ((YN 2 xs).take i)).flatMap K2) ([(b_77,_)]) rfl rfl KO ZP.new (hA.src Ju) (zj7 _) ?_;intro v1 L1 hO1 _;rw [List.nil_append] at hO1;refine Qb ?_;refine zD hD ?_;refine qd 9 rfl ?_;refine zpa (v1) ([y.pt].flatMap K2) (L1) rfl rfl KO hO1 ⟨rfl,fun _=>rfl,by repeat (first | exact zCy | apply zCx | apply zCz)⟩ (zj7 [y.pt]) ?_;intro v2 L2 hO2 _;refine ZT (xs:=(Km (fun x=>x.pt) WD ((YN 2 xs).take i))++[y.pt]) kL Ju kD (by repeat (first | exact .cons .here .nil | exact Zb | exact QR | apply Q0 | apply QX)) (fun I20 hI20 af20 cf20 ef20 hM=>?_);subst ef20;have hKc25:=hKc25.trans hI20;have hD:=hD.trans hI20;refine Qb ?_;refine zD hD ?_;refine zT 10 rfl (Qy rfl) hD ?_;refine Qo kA ?_;refine Qw ?_;exact zm (h:=⟨_,_,_,rfl,hKc25,rfl,hM,kB⟩)
   rintro E J21 loc' ⟨a2,m2,c2,rfl,hJ6,rfl,hM,hm2⟩;have hP:=hP.mono hJ6;have hA:=hA.mono hJ6;have hB4:=hB4.trans hJ6;refine zR (zM ?_);refine qcV (vs:=[_]) rfl zym (zxI ⟨hM,zxP hP.nd hCs hyx⟩ kB) ?_;refine zC (zN ?_);refine zI ?_ ?_<;>intro hc89
   ·
    refine Qh (zM ?_);refine zA (Qb (Qi (Qc (Qh ?_))));refine zM ?_;refine zB ?_;refine zA (Qb ?_)
    first
    | exact zm (h:=⟨mC2-(i+1),kB,i+1,_,_,_,rfl,rfl,hB4,rfl,kB,by rw [zbf hy hc89];exact hM,kB⟩)
   refine Qp (Qi (Qc (Qh (zM ?_))));refine zB ?_;refine zA (Qb ?_)
   first
   | exact zm (h:=⟨mC2-(i+1),kB,i+1,_,_,_,rfl,rfl,hB4,rfl,kB,by rw [zej hy hc89];exact hA,kB⟩)
  have hge_i:mC2≤i:=(by have h:=hc74;simp at h;omega);rw [ZB hlC2 hge_i,zAt] at hA;refine Q6 (Ql (Ql (Qq ?_)));exact zm (h:=⟨_,_,_,rfl,hK4,rfl,hA⟩)
 rintro E J22 loc' ⟨aW2,mW2,cW2,rfl,hJ8,rfl,hW2⟩;have hP:=hP.mono hJ8;have h1:=h1.mono hJ8;have hW1:=hW1.mono hJ8;have hW3:=hW3.mono hJ8;have hIc:=hIc.trans hJ8;refine zR (zA ?_);refine zN (zR ?_);refine zV (Qg rfl Vj (fun hg=>by exact BxI.cells (vs:=[_]) h1) rfl) ?_;refine zpc [_,_] rfl ziS .nil (zi7 hP hn 4) ?_;rintro vv23 I23 L23 hI23 ⟨rfl,aC4,mC4,cC4,rfl,hC4⟩;have hP:=hP.mono hI23;have hW1:=hW1.mono hI23;have hW3:=hW3.mono hI23;have hW2:=hW2.mono hI23;have hIc:=hIc.trans hI23;have hlC4:=hC4.len;have hnC4:=zdD (kind:=4) (xs:=xs);have hcC4:=hC4.cap;refine zA (zN ?_);refine zY [(8,_),(12,_),(15,_)] (fun T L0 E I' loc'=>∃ (a8:Option Addr) (m8 c8:Nat),E=(18,.slice a8 m8 c8)::T∧HLe I23 I'∧L0=loc'∧Sl I' 11 S.encR a8 m8 c8 (wRt xs)) ?_ ?_
 ·
  have hK6:=zCA I23;refine zR (zA (zN (Qr ?_)));refine zU [(8,_),(9,_),(12,_),(15,_)] (fun T L0 mz E I' loc'=>∃ (i:Nat) (a8:Option Addr) (m8:Nat) (c8:Nat),mz=mC4-i∧E=(18,.slice a8 m8 c8)::(19,.int .i64 i)::T∧HLe I23 I'∧L0=loc'∧i≤mC4∧Sl I' 11 S.encR a8 m8 c8 (Km (fun x=>x.rt) S.rCheck ((YN 4 xs).take i))∧m8≤i) ?_ (h:=⟨0,none,0,0,rfl,rfl,zCA _,rfl,Nat.zero_le _,Sl.nil,Nat.le_refl _⟩);rintro mz E J24 loc' ⟨i,a8,m8,c8,rfl,rfl,hJ,rfl,hi,hA,hm8⟩;have hC4:=hC4.mono hJ;have hK6:=hK6.trans hJ;have hB6:=hJ;have hla:=hA.len;have hca:=hA.cap;refine Qm (zR (zM ?_));refine zM ?_;refine zQ QZ ?_;refine zC (zN ?_);refine zI ?_ ?_<;>intro hc96
  ·
   have hlt_i:i<mC4:=(by have h:=hc96;simp at h;omega);obtain ⟨y,hy⟩:∃ y,(YN 4 xs)[i]? =some y:=⟨_,List.getElem?_eq_getElem kB⟩;have hyx:=Wm y (List.mem_of_getElem? hy);have hCs:∀ z∈(YN 4 xs).take i,z∈xs:=fun z hz=>Wm z (List.mem_of_mem_take hz);refine Qp (Qc (Qm (Qr ?_)));refine zY [(8,_),(9,_),(12,_),(15,_),(18,_),(19,_)] (fun T L0 E I' loc'=>∃ (a2:Option Addr) (m2 c2:Nat),E=(20,.slice a2 m2 c2)::T∧HLe J24 I'∧L0=loc'∧Sl I' 11 S.encR a2 m2 c2 ((Km (fun x=>x.rt) S.rCheck ((YN 4 xs).take i))++[y.rt])∧m2≤i+1) ?_ ?_
   ·
    have hKc33:=zCA J24;have hD:=zCA J24;refine Zm ?_;refine QI J24 [] mixed ?_;refine zT 1 rfl (Qe rfl) hD ?_;refine zT 3 rfl (Qe rfl) hD ?_;refine zT 4 rfl (Qe rfl) hD ?_;refine zT 5 rfl (zX QZ hC4) hD ?_;refine zT 6 rfl (Qa rfl Yj) hD ?_;refine zT 7 rfl (Qg rfl YE (fun hg=>by exact Sl.seg hC4 hy (o:=34) (vs:=S.encR (y.rt)) rfl) rfl) hD ?_;refine QS 0 8 rfl rfl kA ?_ ?_
    ·
     refine zpb [] [] VM (fun b_99=>?_);refine Qb ?_;refine zD hD ?_;refine QS 2 8 rfl rfl kA ?_ ?_
     ·
      refine zpa (_) ((Km (fun x=>x.rt) S.rCheck ((YN 4 xs).take i)).flatMap S.encR) ([(b_99,_)]) rfl rfl VM ZP.new (hA.src S.encR_len) (zaO _) ?_;intro v1 L1 hO1 _;rw [List.nil_append] at hO1;refine Qb ?_;refine zD hD ?_;refine qd 8 rfl ?_;refine zpb [(0,_)] [S.encR (y.rt)] VM (fun b_107=>?_);refine Qb ?_;refine zD hD ?_;refine qd 9 rfl ?_;refine zpa (v1) ([y.rt].flatMap S.encR) (L1) rfl rfl VM hO1 ⟨rfl,fun _=>rfl,by repeat (first | exact zCy | apply zCx | apply zCz)⟩ (zaO [y.rt]) ?_;intro v2 L2 hO2 _;refine ZT (xs:=(Km (fun x=>x.rt) S.rCheck ((YN 4 xs).take i))++[y.rt]) kL S.encR_len kD (by repeat (first | exact .cons .here .nil | exact Zb | exact QR | apply Q0 | apply QX)) (fun I25 hI25 af25 cf25 ef25 hM=>?_);subst ef25;have hKc33:=hKc33.trans hI25;have hD:=hD.trans hI25;refine Qb ?_;refine zD hD ?_;refine zT 10 rfl (Qy rfl) hD ?_;refine Qo kA ?_;refine Qw ?_;exact zm (h:=⟨_,_,_,rfl,hKc33,rfl,hM,kB⟩)
     refine zpb [(0,_)] [S.encR (y.rt)] VM (fun b_107=>?_);refine Qb ?_;refine zD hD ?_;refine qd 2 rfl ?_;refine zpa (_) ((Km (fun x=>x.rt) S.rCheck ((YN 4 xs).take i)).flatMap S.encR) ([(b_99,_)]) rfl rfl VM ZP.new (hA.src S.encR_len) (zaO _) ?_;intro v1 L1 hO1 _;rw [List.nil_append] at hO1;refine Qb ?_;refine zD hD ?_;refine qd 9 rfl ?_;refine zpa (v1) ([y.rt].flatMap S.encR) (L1) rfl rfl VM hO1 ⟨rfl,fun _=>rfl,by repeat (first | exact zCy | apply zCx | apply zCz)⟩ (zaO [y.rt]) ?_;intro v2 L2 hO2 _;refine ZT (xs:=(Km (fun x=>x.rt) S.rCheck ((YN 4 xs).take i))++[y.rt]) kL S.encR_len kD (by repeat (first | exact .cons .here .nil | exact Zb | exact QR | apply Q0 | apply QX)) (fun I26 hI26 af26 cf26 ef26 hM=>?_);subst ef26;have hKc33:=hKc33.trans hI26;have hD:=hD.trans hI26;refine Qb ?_;refine zD hD ?_;refine zT 10 rfl (Qy rfl) hD ?_;refine Qo kA ?_;refine Qw ?_;exact zm (h:=⟨_,_,_,rfl,hKc33,rfl,hM,kB⟩)
    refine zpb [(0,_)] [S.encR (y.rt)] VM (fun b_107=>?_);refine Qb ?_;refine zD hD ?_;refine qd 0 rfl ?_;refine zpb [] [] VM (fun b_99=>?_);refine Qb ?_;refine zD hD ?_;refine qd 2 rfl ?_;refine zpa (_) ((Km (fun x=>x.rt) S.rCheck ((YN 4 xs).take i)).flatMap S.encR) ([(b_99,_)]) rfl rfl VM ZP.new (hA.src S.encR_len) (zaO _) ?_;intro v1 L1 hO1 _;rw [List.nil_append] at hO1;refine Qb ?_;refine zD hD ?_;refine qd 9 rfl ?_;refine zpa (v1) ([y.rt].flatMap S.encR) (L1) rfl rfl VM hO1 ⟨rfl,fun _=>rfl,by repeat (first | exact zCy | apply zCx | apply zCz)⟩ (zaO [y.rt]) ?_;intro v2 L2 hO2 _;refine ZT (xs:=(Km (fun x=>x.rt) S.rCheck ((YN 4 xs).take i))++[y.rt]) kL S.encR_len kD (by repeat (first | exact .cons .here .nil | exact Zb | exact QR | apply Q0 | apply QX)) (fun I27 hI27 af27 cf27 ef27 hM=>?_);subst ef27;have hKc33:=hKc33.trans hI27;have hD:=hD.trans hI27;refine Qb ?_;refine zD hD ?_;refine zT 10 rfl (Qy rfl) hD ?_;refine Qo kA ?_;refine Qw ?_;exact zm (h:=⟨_,_,_,rfl,hKc33,rfl,hM,kB⟩)
   rintro E J28 loc' ⟨a2,m2,c2,rfl,hJ6,rfl,hM,hm2⟩;have hA:=hA.mono hJ6;have hB6:=hB6.trans hJ6;refine zR (zM ?_);refine qcV (vs:=[_]) rfl zk3 (zvr (S.w_rcheck hM kB) (zxk hW hCs hyx)) ?_;refine zC (zN ?_);refine zI ?_ ?_<;>intro hc111
   ·
    refine Qh (zM ?_);refine zA (Qb (Qi (Qc (Qh ?_))));refine zM ?_;refine zB ?_;refine zA (Qb ?_)
    first
    | exact zm (h:=⟨mC4-(i+1),kB,i+1,_,_,_,rfl,rfl,hB6,rfl,kB,by rw [zbf hy hc111];exact hM,kB⟩)
   refine Qp (Qi (Qc (Qh (zM ?_))));refine zB ?_;refine zA (Qb ?_)
   first
   | exact zm (h:=⟨mC4-(i+1),kB,i+1,_,_,_,rfl,rfl,hB6,rfl,kB,by rw [zej hy hc111];exact hA,kB⟩)
  have hge_i:mC4≤i:=(by have h:=hc96;simp at h;omega);rw [ZB hlC4 hge_i,zAH] at hA;refine Q6 (Ql (Ql (Qq ?_)));exact zm (h:=⟨_,_,_,rfl,hK6,rfl,hA⟩)
 rintro E J29 loc' ⟨aW4,mW4,cW4,rfl,hJ8,rfl,hW4⟩;have hP:=hP.mono hJ8;have hW1:=hW1.mono hJ8;have hW3:=hW3.mono hJ8;have hW2:=hW2.mono hJ8;have hIc:=hIc.trans hJ8;refine zR (zM ?_);refine zM ?_;refine zM ?_;refine zM ?_;refine zA ?_;refine zA ?_;refine zA ?_;refine zA ?_;refine zA (zN (Qs ?_));exact zeB rfl rfl rfl rfl rfl rfl (fun w hw=>⟨_,J29,[],rfl,hIc,hw.subL Qx,rfl,.inl ⟨hvf,_,_,_,_,_,_,_,_,_,_,_,_,rfl,hW1,hW3,⟨hW2,zss hP.nd⟩,hW4⟩⟩)
theorem zjD (hP:UV I av n c xs)(hW:∀ x∈xs,NtW x)(hn:n≤100000):Y7 Tryz.prog 23 [.agg #[.slice av n c]] I [] (zAn xs):=by
 intro g H w hw;refine qe Tryz.func23 Tryz.ntmps23 hw ?_;have hIc:=zCA I;have hln:=hP.sl.len;refine zR ?_;refine QQ rfl rfl rfl (fun b_1=>?_);refine zA ?_;refine zA (Qb ?_);refine QH .here (fun I1 hI1 hb1=>?_);have hP:=hP.mono hI1;have hIc:=hIc.trans hI1;have h1:=BxI.of hb1;refine Qc (zR ?_);refine zV (Qg rfl Vj (fun hg=>by exact BxI.cells (vs:=[_]) h1) rfl) ?_;refine qcV (vs:=[_]) rfl zse (zji hP hW hn) ?_;refine zA (zN (Qm (zR ?_)));refine zM ?_;refine zO (zN ?_);refine zI ?_ ?_<;>intro hc10
 ·
  have hvf:ZQ xs=false:=(by simpa using hc10);refine zR (zA ?_);refine zA (zN (Qs (Qf ?_)));exact Y2 rfl rfl rfl (fun w hw=>⟨_,I1,[],rfl,hIc,hw.subL Qx,rfl,.inr ⟨hvf,rfl⟩⟩)
 have hvf:ZQ xs=true:=(by simpa using hc10);have hvs:=Kf hvf;refine Qp (Qc (zR ?_));refine zpb [] [] Xv (fun b_11=>?_);refine zA (zN (Qm (zR ?_)));refine zA (zN (Qr ?_));refine zU [(1,_)] (fun T L0 mz E I' loc'=>∃ (k:Nat) (v:Value) (L:Go.Kn.Loc) (rs:List Hy),mz=n-k∧E=(5,v)::(6,.int .i64 k)::T∧HLe I1 I'∧L=loc'∧k≤n∧ZP 80 1 v k (rs.flatMap WG) L∧zkl I' rs ((xs.take k).map Jw)) ?_ (h:=⟨0,_,_,[],rfl,rfl,zCA _,rfl,Nat.zero_le _,ZP.new,zkl.nil⟩);rintro mz E J2 loc' ⟨k,v,L,rs,rfl,rfl,hJ,rfl,hk,hO,hRK⟩;have hP:=hP.mono hJ;have h1:=h1.mono hJ;have hIc:=hIc.trans hJ;have hB0:=hJ;refine Qm (zR (zM ?_));refine zF Zx ?_;refine zV (Qd rfl YD (fun hg=>by exact Qz.imm h1.out rfl)) ?_;refine zQ QZ ?_;refine zC (zN ?_);refine zI ?_ ?_<;>intro hc16
 ·
  have hlt_k:k<n:=(by have h:=hc16;simp at h;omega);obtain ⟨x,hx⟩:∃ y,xs[k]? =some y:=⟨_,List.getElem?_eq_getElem kB⟩;have hxm:=List.mem_of_getElem? hx;have hM:=hP.m x hxm (hvs.2.1 x hxm);refine Qp (Qc (Qm (Qr (Qh (zM ?_)))));refine zF Zx ?_;refine zV (Qd rfl YD (fun hg=>by exact Qz.imm h1.out rfl)) ?_;refine zM ?_;refine zV (QC rfl rfl QZ hP.sl (fun hg=>kB)) ?_;refine zV (Qg rfl Q8 (fun hg=>by exact zCB hP.sl hx) rfl) ?_;refine zpc [_] rfl X4 .nil (Xz x hM.nd hM.nn hM.ok hM.len) ?_;rintro vv3 I3 L3 hI3 ⟨rfl,a9,c9,rfl,hS9⟩;have hRK:=hRK.mono hI3;have hB0:=hB0.trans hI3;have hy9:=zxD hM.ok hS9;refine zpb [(0,_)] [WG ⟨a9,(Jw x).length,c9,Jw x⟩] Xv (fun b_26=>?_);refine zpa (_) ([(⟨a9,(Jw x).length,c9,Jw x⟩:Hy)].flatMap WG) (L) rfl rfl Xv hO ⟨rfl,fun _=>rfl,by repeat (first | exact zCy | apply zCx | apply zCz)⟩ (zhP _) ?_;intro v9 L9 hO9 _;rw [←List.flatMap_append] at hO9;refine zA (Qb (Qi (Qc (Qh ?_))));refine zM ?_;refine zB ?_;refine zA (Qb ?_);exact zm (h:=⟨n-(k+1),kB,k+1,_,_,_,rfl,rfl,hB0,rfl,kB,hO9,by rw [Za hx,List.map_append];exact hRK.snoc hy9⟩)
 have hge_k:n≤k:=(by have h:=hc16;simp at h;omega);rw [ZB hln hge_k] at hRK;refine Q6 (Ql (Ql (Qq (Qc (Qm ?_)))));refine zx4 hO KS (fun I4 hI4 af4 cf4 ef4 hR9=>?_);subst ef4;have hRK:=hRK.mono hI4;have hIc:=hIc.trans hI4;refine Qh (zM ?_);refine zA ?_;refine zA (zN (Qs ?_));exact Y2 rfl rfl rfl (fun w hw=>⟨_,I4,[],rfl,hIc,hw.subL Qx,rfl,.inl ⟨hvf,_,_,_,rs,rfl,⟨hR9,hRK.m⟩,hRK.b⟩⟩)
variable{bv:Option Addr}{m d:Nat}
theorem zzB {xs ys:List Hy}(hS:zj9 I av n c xs)(hT:zj9 I bv m d ys)(he:xs.map (·.bytes)=ys.map (·.bytes))(hn:n≤100000):ZF Tryz.prog 30 [.slice av n c,.slice bv m d] I (.bool true):=by
 intro g H w hw;refine qe Tryz.func30 Tryz.ntmps30 hw ?_;have hl1:=hS.sl.len;have hl2:=hT.sl.len;have hl3:=zkZ he;refine zR (zA (zN (Qm (zR ?_))));refine zM ?_;refine zQ JY ?_;refine zM ?_;refine zQ JY ?_;refine zC (zN ?_);refine zI ?_ ?_<;>intro hc10
 ·
  have h:=hc10;simp at h;omega
 refine Qp (Qc (Qm (zR (zA (zN (Qr ?_))))));refine zU [(0,_),(1,_)] (fun T L0 mz E I' loc'=>∃ (k:Nat),mz=n-k∧E=(5,.int .i64 k)::T∧I=I'∧L0=loc'∧k≤n) ?_ (h:=⟨0,rfl,rfl,rfl,rfl,Nat.zero_le _⟩);rintro mz E I' loc' ⟨k,rfl,rfl,rfl,rfl,hk⟩;refine Qm (zR (zM ?_));refine zM ?_;refine zQ JY ?_;refine zC (zN ?_);refine zI ?_ ?_<;>intro hc14
 ·
  have hlt_k:k<n:=(by have h:=hc14;simp at h;omega);obtain ⟨x,hx⟩:∃ y,xs[k]? =some y:=⟨_,List.getElem?_eq_getElem kB⟩;obtain ⟨y,hy⟩:∃ y,ys[k]? =some y:=⟨_,List.getElem?_eq_getElem kB⟩;refine Qp (Qc (Qm (Qr (Qm ?_))));refine Kq mixed kA ?_;refine zq (Qe rfl) ?_;refine zq (Qe rfl) ?_;refine zq (QC rfl rfl JY hS.sl (fun hg=>kB)) ?_;refine zq (Qd rfl Jm (fun hg=>by exact zCt hS.sl hx rfl)) ?_;refine zq (Zp rfl bst (fun hg=>(hS.m x (List.mem_of_getElem? hx)).sl)) ?_;refine zq (Qe rfl) ?_;refine zq (Qe rfl) ?_;refine zq (QC rfl rfl JY hT.sl (fun hg=>kB)) ?_;refine zq (Qd rfl Jm (fun hg=>by exact zCt hT.sl hy rfl)) ?_;refine zq (Zp rfl bst (fun hg=>(hT.m y (List.mem_of_getElem? hy)).sl)) ?_;refine zq (Y4 (Ke rfl rfl rfl) (congrArg Value.bool (zkX (zsq he hx hy)))) ?_;refine Kt ?_;refine Qc ?_;refine zI ?_ ?_<;>intro hc27
  ·
   cases hc27
  refine Qp (Qi (Qc (Qh (zM ?_))));refine zB ?_;refine zA (Qb ?_);exact zm (h:=⟨n-(k+1),kB,k+1,rfl,rfl,rfl,rfl,kB⟩)
 have hge_k:n≤k:=(by have h:=hc14;simp at h;omega);refine Q6 (Ql (Ql (Qq (Qc (zR (zA (zN ?_)))))));refine Qs ?_;exact QA rfl rfl (fun w hw=>⟨by rfl,hw⟩)
theorem zvE :LdZ I [] none 0 0 []:=⟨zeP I,fun k l x y _ h _=>by simp at h,Nat.le_refl _,fun r (h:r∈[])=>(by cases h),fun x (h:x∈[])=>(by cases h)⟩
variable{rs:List Hy}{a:Option Addr}{zs:List Nt}
theorem LdZ.all (h:LdZ I rs a m c zs):∀ x∈zs,NtM I x:=fun x hx=>h.nt.m x hx (h.frm x hx).1
variable{k:Nat}{r:Hy}{t:Nt}
theorem zvM {a':Option Addr}{m' c':Nat}(h:LdZ I (rs.take k) a m c xs)(hr:rs[k]? =some r)(hok:okN r.bytes=some (Yx t))(hM:NtM I t)(hf:QO t=true)(hS:UV I a' m' c' (zmG xs t)):LdZ I (rs.take (k+1)) a' m' c' (zmG xs t):=by
 have hrm:r∈rs.take (k+1):=(by rw [Za hr];exact List.mem_append_right _ (List.mem_cons_self ..));have hsub:∀ q∈rs.take k,q∈rs.take (k+1):=fun q hq=>(by rw [Za hr];exact List.mem_append_left _ hq);have hlen:(rs.take (k+1)).length=(rs.take k).length+1:=by rw [Za hr,List.length_append];rfl
 cases hd:zfF xs t with
 | true=>
  rw [zeh hd] at hS ⊢;refine ⟨hS,h.srt,by have:=h.len;omega,fun q hq=>?_,fun x hx=>⟨(h.frm x hx).1,(h.frm x hx).2.elim fun q hq=>⟨q,hsub q hq.1,hq.2⟩⟩⟩;rw [Za hr] at hq;rcases List.mem_append.1 hq with hq | hq
  ·
   exact h.mem q hq
  ·
   rw [List.mem_singleton.1 hq];unfold zfF at hd
   cases hx:xs[Xg xs t]? with
   | none=>rw [hx] at hd;cases hd
   | some x=>
    rw [hx] at hd;have hxm:=List.mem_of_getElem? hx;exact ⟨x,hxm,by rw [hok,(zho (h.nt.nd x hxm) hM.nd).1 hd]⟩
 | false=>
  refine ⟨hS,zpJ h.srt hd fun x hx hs hc=>?_,by have:=zqp xs t;have:=h.len;omega,fun q hq=>?_,fun x hx=>?_⟩
  ·
   have hxm:=List.mem_of_getElem? hx;have:=(zho (h.nt.nd x hxm) hM.nd).2 (znb (h.all x hxm).ok hM.ok hc);rw [this] at hs;cases hs
  ·
   rw [Za hr] at hq;rcases List.mem_append.1 hq with hq | hq
   ·
    obtain ⟨x,hx,e⟩:=h.mem q hq;exact ⟨x,(zbd hd).2 (.inr hx),e⟩
   ·
    rw [List.mem_singleton.1 hq];exact ⟨t,(zbd hd).2 (.inl rfl),hok⟩
  ·
   rcases (zbd hd).1 hx with rfl | hx
   ·
    exact ⟨hf,r,hrm,hok⟩
   ·
    exact ⟨(h.frm x hx).1,(h.frm x hx).2.elim fun q hq=>⟨q,hsub q hq.1,hq.2⟩⟩
variable{b:Option Addr}
theorem zws {J:Qv}(h:LdZ I rs a m c zs)(h2:LdZ J rs b n d xs):zs.map Yx=xs.map Yx:=by
 have key:∀ {I:Qv} {a:Option Addr} {m c:Nat} {zs:List Nt},LdZ I rs a m c zs→∀ y,y∈zs.map Yx↔ ∃ r∈rs,okN r.bytes=some y:=by
  intro I a m c zs h y;rw [List.mem_map];constructor
  ·
   rintro ⟨z,hz,rfl⟩;exact (h.frm z hz).2
  ·
   rintro ⟨r,hr,e⟩;obtain ⟨x,hx,e2⟩:=h.mem r hr;rw [e] at e2;exact ⟨x,hx,(Option.some.inj e2).symm⟩
 exact zqh (zlG h.srt) (zlG h2.srt) fun y=>(key h y).trans (key h2 y).symm
def LdA (rs:List Hy)(I:Qv)(e:Int)(a:Option Addr)(m c:Nat)(zs:List Nt):Prop:=UV I a m c zs∧(∀ x∈zs,x.pt.n≤100000)∧zs.length≤4096∧((4096<rs.length∧e=2∧zs=[])∨(rs.length≤4096∧(∃ r∈rs,okN r.bytes=none)∧e=570∧zs=[])∨(rs.length≤4096∧e=0∧LdZ I rs a m c zs))
variable{I':Qv}{e:Int}
theorem LdA.mono (h:LdA rs I e a m c zs)(hI:HLe I I'):LdA rs I' e a m c zs:=⟨h.1.mono hI,h.2.1,h.2.2.1,h.2.2.2.imp id (Or.imp id fun ⟨a,b,c⟩=>⟨a,b,c.mono hI⟩)⟩
variable{v:Value}{L':Go.Kn.Loc}
theorem zsH (h:LdQ rs v I' L'):L'=[]∧∃ e a m c zs,v= .tuple #[.agg #[.slice a m c],.int .i64 e]∧LdA rs I' e a m c zs:=by
 refine ⟨h.1,?_⟩;rcases h.2 with ⟨h1,rfl⟩ | ⟨h1,h2,rfl⟩ | ⟨hl,a,m,c,zs,rfl,hz⟩
 ·
  exact ⟨_,_,_,_,[],rfl,zeP I',fun _ h=>(by cases h),Nat.zero_le _,.inl ⟨h1,rfl,rfl⟩⟩
 ·
  exact ⟨_,_,_,_,[],rfl,zeP I',fun _ h=>(by cases h),Nat.zero_le _,.inr (.inl ⟨h1,h2,rfl,rfl⟩)⟩
 ·
  exact ⟨_,_,_,_,zs,rfl,hz.nt,fun x hx=>(hz.all x hx).nn,by have:=hz.len;omega,.inr (.inr ⟨hl,rfl,hz⟩)⟩
theorem zsD {f:Int}(h:LdA rs I e a m c zs)(h2:LdA rs I f b n d xs):zs.map Yx=xs.map Yx∧e=f:=by
 rcases h.2.2.2 with ⟨h1,rfl,rfl⟩ | ⟨h1,hb,rfl,rfl⟩ | ⟨h1,rfl,hz⟩
 ·
  rcases h2.2.2.2 with ⟨k1,rfl,rfl⟩ | ⟨k1,kb,rfl,rfl⟩ | ⟨k1,rfl,kz⟩
  ·
   exact ⟨rfl,rfl⟩
  ·
   omega
  ·
   omega
 ·
  rcases h2.2.2.2 with ⟨k1,rfl,rfl⟩ | ⟨k1,kb,rfl,rfl⟩ | ⟨k1,rfl,kz⟩
  ·
   omega
  ·
   exact ⟨rfl,rfl⟩
  ·
   obtain ⟨r,hr,e⟩:=hb;obtain ⟨x,hx,e2⟩:=kz.mem r hr;rw [e] at e2;cases e2
 ·
  rcases h2.2.2.2 with ⟨k1,rfl,rfl⟩ | ⟨k1,kb,rfl,rfl⟩ | ⟨k1,rfl,kz⟩
  ·
   omega
  ·
   obtain ⟨r,hr,e⟩:=kb;obtain ⟨x,hx,e2⟩:=hz.mem r hr;rw [e] at e2;cases e2
  ·
   exact ⟨zws hz kz,rfl⟩
def vC (xs:List Nt):Int:=if ZQ xs=true then 0 else 570
def vL {α:Type}(xs:List Nt)(l:List α):List α:=if ZQ xs=true then l else []
theorem zkv (h:zAk xs v I' L'):L'=[]∧∃ a1 n1 c1 a2 n2 c2 a3 n3 c3 a4 n4 c4,v= .tuple #[.slice a1 n1 c1,.slice a2 n2 c2,.slice a3 n3 c3,.slice a4 n4 c4,.int .i64 (vC xs)]∧
  Sl I' 9 Zi a1 n1 c1 (vL xs (wLm xs))∧Sl I' 5 L.encL a2 n2 c2 (vL xs (wLs xs))∧SlP I' a3 n3 c3 (vL xs (wPt xs))∧Sl I' 11 S.encR a4 n4 c4 (vL xs (wRt xs)):=by
 refine ⟨h.1,?_⟩;rcases h.2 with ⟨hv,a1,n1,c1,a2,n2,c2,a3,n3,c3,a4,n4,c4,rfl,h1,h2,h3,h4⟩ | ⟨hv,rfl⟩
 ·
  have e:vC xs=0:=(by unfold vC;rw [if_pos hv]);unfold vL;rw [e,if_pos hv,if_pos hv,if_pos hv,if_pos hv];exact ⟨_,_,_,_,_,_,_,_,_,_,_,_,rfl,h1,h2,h3,h4⟩
 ·
  have e:vC xs=570:=(by unfold vC;rw [if_neg (by rw [hv];simp)]);have hn:¬ZQ xs=true:=(by rw [hv];simp);unfold vL;rw [e,if_neg hn,if_neg hn,if_neg hn,if_neg hn];exact ⟨_,_,_,_,_,_,_,_,_,_,_,_,rfl,Sl.nil,Sl.nil,⟨Sl.nil,fun p hp=>by cases hp⟩,Sl.nil⟩
theorem znO (h:zAn xs v I' L'):L'=[]∧∃ a n c rs,v= .tuple #[.slice a n c,.int .i64 (vC xs)]∧zj9 I' a n c rs∧rs.map (·.bytes)=vL xs (xs.map Jw):=by
 refine ⟨h.1,?_⟩;rcases h.2 with ⟨hv,a,n,c,rs,rfl,h1,h2⟩ | ⟨hv,rfl⟩
 ·
  have e:vC xs=0:=(by unfold vC;rw [if_pos hv]);unfold vL;rw [e,if_pos hv];exact ⟨_,_,_,_,rfl,h1,h2⟩
 ·
  have e:vC xs=570:=(by unfold vC;rw [if_neg (by rw [hv];simp)]);unfold vL;rw [e,if_neg (by rw [hv];simp)];exact ⟨_,_,_,[],rfl,⟨Sl.nil,fun r hr=>by cases hr⟩,rfl⟩
variable{α:Type}{l:List α}
theorem zfU (h:l.length≤xs.length):(vL xs l).length≤xs.length:=by
 unfold vL;split
 ·
  exact h
 ·
  exact Nat.zero_le _
theorem zpw (hN:∀ x∈xs,Nd I x.pt):∀ p∈vL xs (wPt xs),p.n≤100000:=fun p hp=>by
 unfold vL at hp;split at hp
 ·
  rename_i hv;exact zm2 (fun x hx=>zo9 (hN x hx) (by rw [JH (hN x hx).len.symm];exact (Kf hv).2.1 x hx)) p hp
 ·
  cases hp
theorem zvZ (xs:List Nt):(vL xs (wLm xs)).length≤xs.length:=zfU (zbp xs)
theorem zuo (xs:List Nt):(vL xs (wLs xs)).length≤xs.length:=zfU (zbp xs)
theorem zwr (xs:List Nt):(vL xs (wPt xs)).length≤xs.length:=zfU (zbp xs)
theorem zwd (xs:List Nt):(vL xs (wRt xs)).length≤xs.length:=zfU (zbp xs)
theorem zxG:Fun Tryz.prog 64:=.of Tryz.func64 kA kA
theorem ztc (hR:zj9 I av n c rs)(hn:n≤100000)(hb:∀ r∈rs,r.n≤100000):Y7 Tryz.prog 25 [.slice av n c] I [] (LdQ rs):=by
 intro g H w hw;refine qe Tryz.func25 Tryz.ntmps25 hw ?_;have hIc:=zCA I;have hln:=hR.sl.len;refine zR ?_;refine Qt zgl rfl rfl (fun b_2=>?_);refine zA (zN (Qm (zR ?_)));refine zM ?_;refine zQ JY ?_;refine zC (zN ?_);refine zI ?_ ?_<;>intro hc10
 ·
  have h11:4096<n:=(by have h:=hc10;simp at h;omega);refine zR ?_;refine zV (QF (ps:=[]) [_] ziC rfl rfl) ?_;refine zh US ?_;refine zA (zN (Qs (Qf ?_)));exact Zz rfl rfl rfl Vj (by exact zCy) rfl (fun w hw=>⟨_,I,[],rfl,hIc,hw.subL Qx,rfl,.inl ⟨kB,rfl⟩⟩)
 have h11:n≤4096:=(by have h:=hc10;simp at h;omega);refine Qp (Qc (zR ?_));refine zV (QF (ps:=[]) [_] ziC rfl rfl) ?_;refine Qt zgl rfl rfl (fun b_4=>?_);refine zh US ?_;refine zN (Qm (zR (zA (zN (Qr ?_)))));refine zU [(0,_),(2,_),(4,_)] (fun T L0 mz E I' loc'=>∃ (k:Nat) (a4:Option Addr) (m4:Nat) (c4:Nat) (xs:List Nt),mz=n-k∧E=(5,.int .i64 k)::T∧HLe I I'∧[(b_4,.cells #[.slice a4 m4 c4] 59 (0,0)),(b_2,.cells #[.slice none 0 0] 59 (0,0))]=loc'∧k≤n∧LdZ I' (rs.take k) a4 m4 c4 xs) ?_ (h:=⟨0,none,0,0,[],rfl,rfl,zCA _,rfl,Nat.zero_le _,zvE⟩);rintro mz E J1 loc' ⟨k,a4,m4,c4,xs,rfl,rfl,hJ,rfl,hk,hZ⟩;have hR:=hR.mono hJ;have hIc:=hIc.trans hJ;have hB0:=hJ;have hzl:=hZ.len;have hzn:=hZ.nt.sl.len;have htk:(rs.take k).length≤k:=List.length_take_le ..;refine Qm (zR (zM ?_));refine zM ?_;refine zQ JY ?_;refine zC (zN ?_);refine zI ?_ ?_<;>intro hc16
 ·
  have hlt_k:k<n:=(by have h:=hc16;simp at h;omega);obtain ⟨r,hr⟩:∃ y,rs[k]? =some y:=⟨_,List.getElem?_eq_getElem kB⟩;have hrm:=List.mem_of_getElem? hr;have hy:=hR.m r hrm;refine Qp (Qc (Qm (Qr (zR (zM ?_)))));refine zM ?_;refine zV (QC rfl rfl JY hR.sl (fun hg=>kB)) ?_;refine zV (Qd rfl Jm (fun hg=>by exact zCt hR.sl hr rfl)) ?_;refine zpc [_] rfl zxG .nil (zuH hy.sl hy.byte (hb r hrm)) ?_;rintro vv2 I2 L2 hI2 ⟨rfl,cs,bb,rfl,hrd⟩;have hZ:=hZ.mono hI2;have hIc:=hIc.trans hI2;have hB0:=hB0.trans hI2;have hyb:=hy.byte;have hyl:=hy.sl.len;refine zM ?_;refine zE ?_;refine zE ?_;refine Qt UW rfl rfl (fun b_6=>?_);refine VV (old:=Q7 zcX) rfl rfl Vk hrd.1.1 rfl hrd.1.2 rfl (by repeat (first | exact Upd.here | apply Upd.there | apply ZC)) ?_;refine zA (zN (Qm (zR ?_)));refine zM ?_;refine zO (zN ?_);refine zI ?_ ?_<;>intro hc28
  ·
   have hno:okN r.bytes=none:=(by have h:=zdo hrd;have h2:bb=false:=(by simpa using hc28);rw [h2] at h;simpa using h);refine zR ?_;refine zV (QF (ps:=[]) [_] ziC rfl rfl) ?_;refine zh US ?_;refine zA (zN (Qs (Qf (Qj (Qf (Qf (Qj ?_)))))));refine Qf ?_;exact Zz rfl rfl rfl Vj ka rfl (fun w hw=>⟨_,I2,[],rfl,hIc,hw.subL Qx,rfl,.inr (.inl ⟨kB,⟨r,hrm,hno⟩,rfl⟩)⟩)
  obtain ⟨t9,_,rfl,hNd9,hok9⟩:=zet hrd (by rw [zdo hrd];simpa using hc28);have hbl9:r.bytes.length≤100000:=(by have h2:=hb r hrm;omega);have hTM:=zdU hyb hbl9 hok9 hNd9;have hTf:=zcv hyb hbl9 hok9 hNd9;refine Qp (Qc (Qh ?_));refine zF Zx ?_;refine zL YD ?_;refine zV (Qg rfl Q8 (fun hg=>by exact Cells.g0) rfl) ?_;refine zpc [_,_] rfl zxd .nil (zp9 hZ.nt hZ.all hTM kB) ?_;rintro vv3 I3 L3 hI3 ⟨rfl,a5,m5,c5,rfl,hP5⟩;have hZ:=hZ.mono hI3;have hB0:=hB0.trans hI3;have hTM:=hTM.mono hI3;refine zM ?_;refine zE ?_;refine zE ?_;refine zF Zx ?_;refine zS zfl ?_;refine Qb (Qi (Qc (Qh (zM ?_))));refine zB ?_;refine zA (Qb ?_);exact zm (h:=⟨n-(k+1),kB,k+1,_,_,_,_,rfl,rfl,hB0,rfl,kB,zvM hZ hr hok9 hTM hTf hP5⟩)
 have hge_k:n≤k:=(by have h:=hc16;simp at h;omega);obtain rfl:n=k:=kB;rw [ZB hln (Nat.le_refl _)] at hZ;refine Q6 (Ql (Ql (Qq (Qc (zR ?_)))));refine zV (Qg rfl Vj (fun hg=>by exact Cells.g0) rfl) ?_;refine zh US ?_;refine zA (zN (Qs ?_));exact Zz rfl rfl rfl Vj ka rfl (fun w hw=>⟨_,J1,[],rfl,hIc,hw.subL Qx,rfl,.inr (.inr ⟨kB,_,_,_,_,rfl,hZ⟩)⟩)
theorem zzJ:Fun Tryz.prog 21:=.of Tryz.func21 kA kA
theorem zw0:Fun Tryz.prog 23:=.of Tryz.func23 kA kA
theorem zzk:Fun Tryz.prog 25:=.of Tryz.func25 kA kA
theorem zyt:Fun Tryz.prog 30:=.of Tryz.func30 kA kA
set_option maxRecDepth 100000 in
set_option maxHeartbeats 4000000 in
theorem ztq     (hP:UV I av n c xs) (hW:∀ x∈xs,NtW x)  {bn bc:Nat}  (hR:zj9 I bv bn bc rs):ZF Tryz.prog 4 [.agg #[.slice av n c],.slice bv bn bc] I (.bool true):=by
 intro g H w hw;refine qe Tryz.func4 Tryz.ntmps4 hw ?_;have hIc:=zCA I;have hln:=hP.sl.len;have hlr:=hR.sl.len;have hxx:=zwr xs;have hx1:=zvZ xs;have hx3:=zuo xs;have hx4:=zwd xs;refine zR ?_;refine QQ rfl rfl rfl (fun b_2=>?_);refine zA (Qb ?_);refine QH .here (fun I1 hI1 hb1=>?_);have hP:=hP.mono hI1;have hR:=hR.mono hI1;have hIc:=hIc.trans hI1;have h2:=BxI.of hb1;refine Qc (Qm (zR ?_));refine qcV (vs:=[]) rfl zwI (zyC I1) ?_;refine zO (zN ?_);refine zI ?_ ?_<;>intro hc24
 ·
  cases hc24
 refine Qp (Qc (Qm (zR ?_)));refine zF Zx ?_;refine zV (Qd rfl YD (fun hg=>by exact Qz.imm h2.out rfl)) ?_;refine zQ QZ ?_;refine zC ?_;refine zM ?_;refine QK 4 rfl rfl rfl ?_;refine zJ (Qe rfl) ?_;refine qf (vs:=[_]) rfl zwV (fun hg=>zBd hR.sl) ?_;refine zJ (Zy rfl) ?_;refine Zf rfl rfl rfl rfl rfl ?_;refine zN ?_;refine zI ?_ ?_<;>intro hc33
 ·
  refine zR (zA (zN (Qs (Qf ?_))));exact QA rfl rfl (fun w hw=>⟨by rfl,(hw.mono hIc).subL Qx⟩)
 have hfew:n≤30∧zkj rs=true:=(by have h:=hc33;simp at h;exact ⟨kB,h.2⟩);have hfw:=ztp hfew.2;have hn30:=hfew.1;refine Qp (Qc (zR ?_));refine zV (Qg rfl Vj (fun hg=>by exact BxI.cells (vs:=[_]) h2) rfl) ?_;refine zpc [_] rfl znp .nil (zhN hP kB) ?_;rintro vv2 I2 L2 hI2 hWa;have hP:=hP.mono hI2;have hR:=hR.mono hI2;have h2:=h2.mono hI2;have hIc:=hIc.trans hI2;obtain ⟨rfl,aa1,na1,ca1,aa2,na2,ca2,aa3,na3,ca3,aa4,na4,ca4,rfl,hWa1,hWa2,hWa3,hWa4⟩:=zkv hWa;have la1:=hWa1.len;have la2:=hWa2.len;have la3:=hWa3.1.len;have la4:=hWa4.len;refine zM ?_;refine zE ?_;refine zE ?_;refine zE ?_;refine zE ?_;refine zE ?_;refine zA ?_;refine zA ?_;refine zA ?_;refine zA ?_;refine zA ?_;refine zN (zR ?_);refine zV (Qg rfl Vj (fun hg=>by exact BxI.cells (vs:=[_]) h2) rfl) ?_;refine zpc [_] rfl zzJ .nil (zqN hP hW kB) ?_;rintro vv3 I3 L3 hI3 hWb;have hP:=hP.mono hI3;have hR:=hR.mono hI3;have h2:=h2.mono hI3;have hWa1:=hWa1.mono hI3;have hWa2:=hWa2.mono hI3;have hWa3:=hWa3.mono hI3;have hWa4:=hWa4.mono hI3;have hIc:=hIc.trans hI3;obtain ⟨rfl,ab1,nb1,cb1,ab2,nb2,cb2,ab3,nb3,cb3,ab4,nb4,cb4,rfl,hWb1,hWb2,hWb3,hWb4⟩:=zkv hWb;refine zM ?_;refine zE ?_;refine zE ?_;refine zE ?_;refine zE ?_;refine zE ?_;refine zA ?_;refine zA ?_;refine zA ?_;refine zA ?_;refine zA ?_;refine zN (zR ?_);refine zV (Qg rfl Vj (fun hg=>by exact BxI.cells (vs:=[_]) h2) rfl) ?_;refine zpc [_] rfl zrY .nil (zfx hP kB) ?_;rintro vv4 I4 L4 hI4 hRqa;have hP:=hP.mono hI4;have hR:=hR.mono hI4;have h2:=h2.mono hI4;have hWa1:=hWa1.mono hI4;have hWa2:=hWa2.mono hI4;have hWa3:=hWa3.mono hI4;have hWa4:=hWa4.mono hI4;have hWb1:=hWb1.mono hI4;have hWb2:=hWb2.mono hI4;have hWb3:=hWb3.mono hI4;have hWb4:=hWb4.mono hI4;have hIc:=hIc.trans hI4;obtain ⟨rfl,ara,nra,cra,rsa,rfl,hRa,hba⟩:=znO hRqa;have lra:=hRa.sl.len;have lrb:rsa.length≤n:=(by have h:=congrArg List.length hba;rw [List.length_map] at h;have h2:=zfU (xs:=xs) (l:=xs.map Jw) kJ;omega);refine zM ?_;refine zE ?_;refine zE ?_;refine zA ?_;refine zA ?_;refine zN (zR ?_);refine zV (Qg rfl Vj (fun hg=>by exact BxI.cells (vs:=[_]) h2) rfl) ?_;refine zpc [_] rfl zw0 .nil (zjD hP hW kB) ?_;rintro vv5 I5 L5 hI5 hRqb;have hP:=hP.mono hI5;have hR:=hR.mono hI5;have hWa1:=hWa1.mono hI5;have hWa2:=hWa2.mono hI5;have hWa3:=hWa3.mono hI5;have hWa4:=hWa4.mono hI5;have hWb1:=hWb1.mono hI5;have hWb2:=hWb2.mono hI5;have hWb3:=hWb3.mono hI5;have hWb4:=hWb4.mono hI5;have hRa:=hRa.mono hI5;have hIc:=hIc.trans hI5;obtain ⟨rfl,arb,nrb,crb,rsb,rfl,hRb,hbb⟩:=znO hRqb;refine zM ?_;refine zE ?_;refine zE ?_;refine zA ?_;refine zA ?_;refine zN (zR ?_);refine zM ?_;refine zpc [_] rfl zoJ .nil (zmy hR kB (fun r hr=>Nat.le_trans (hfw.2 r hr) kD)) ?_;rintro vv6 I6 L6 hI6 hLqa;have hP:=hP.mono hI6;have hR:=hR.mono hI6;have hWa1:=hWa1.mono hI6;have hWa2:=hWa2.mono hI6;have hWa3:=hWa3.mono hI6;have hWa4:=hWa4.mono hI6;have hWb1:=hWb1.mono hI6;have hWb2:=hWb2.mono hI6;have hWb3:=hWb3.mono hI6;have hWb4:=hWb4.mono hI6;have hRa:=hRa.mono hI6;have hRb:=hRb.mono hI6;have hIc:=hIc.trans hI6;obtain ⟨rfl,ea,ala,mla,cla,zsa,rfl,hLa⟩:=zsH hLqa;have lla:=hLa.1.sl.len;have llb:=hLa.2.2.1;refine zM ?_;refine zE ?_;refine zE ?_;refine Qt zgl rfl rfl (fun b_19=>?_);refine zh US ?_;refine zA (Qb ?_);refine QH .here (fun I7 hI7 hb7=>?_);have hP:=hP.mono hI7;have hR:=hR.mono hI7;have hWa1:=hWa1.mono hI7;have hWa2:=hWa2.mono hI7;have hWa3:=hWa3.mono hI7;have hWa4:=hWa4.mono hI7;have hWb1:=hWb1.mono hI7;have hWb2:=hWb2.mono hI7;have hWb3:=hWb3.mono hI7;have hWb4:=hWb4.mono hI7;have hRa:=hRa.mono hI7;have hRb:=hRb.mono hI7;have hLa:=hLa.mono hI7;have hIc:=hIc.trans hI7;have h19:=BxI.of hb7;refine Qc (zR (zM ?_));refine zpc [_] rfl zzk .nil (ztc hR kB (fun r hr=>Nat.le_trans (hfw.2 r hr) kD)) ?_;rintro vv8 I8 L8 hI8 hLqb;have hP:=hP.mono hI8;have hWa1:=hWa1.mono hI8;have hWa2:=hWa2.mono hI8;have hWa3:=hWa3.mono hI8;have hWa4:=hWa4.mono hI8;have hWb1:=hWb1.mono hI8;have hWb2:=hWb2.mono hI8;have hWb3:=hWb3.mono hI8;have hWb4:=hWb4.mono hI8;have hRa:=hRa.mono hI8;have hRb:=hRb.mono hI8;have hLa:=hLa.mono hI8;have h19:=h19.mono hI8;have hIc:=hIc.trans hI8;obtain ⟨rfl,eb,alb,mlb,clb,zsb,rfl,hLb⟩:=zsH hLqb;obtain rfl:=(zsD hLa hLb).2;refine zM ?_;refine zE ?_;refine zE ?_;refine Qt zgl rfl rfl (fun b_21=>?_);refine zh US ?_;refine zA (Qb ?_);refine QH .here (fun I9 hI9 hb9=>?_);have hP:=hP.mono hI9;have hWa1:=hWa1.mono hI9;have hWa2:=hWa2.mono hI9;have hWa3:=hWa3.mono hI9;have hWa4:=hWa4.mono hI9;have hWb1:=hWb1.mono hI9;have hWb2:=hWb2.mono hI9;have hWb3:=hWb3.mono hI9;have hWb4:=hWb4.mono hI9;have hRa:=hRa.mono hI9;have hRb:=hRb.mono hI9;have hLa:=hLa.mono hI9;have h19:=h19.mono hI9;have hLb:=hLb.mono hI9;have hIc:=hIc.trans hI9;have h21:=BxI.of hb9;refine Qc (zR (zM ?_));refine zM ?_;refine qcV (vs:=[_,_]) rfl zAa (zAD hWa1 hWb1 kB) ?_;refine zM ?_;refine QM (dj:=73) rfl rfl rfl ?_;refine zM ?_;refine QM (dj:=73) rfl rfl rfl ?_;refine zM ?_;refine QM (dj:=73) rfl rfl rfl ?_;refine qcV (vs:=[_,_]) rfl zyR (zBj hWa2 hWb2 kB) ?_;refine zV (QY rfl rfl rfl) ?_;refine zM ?_;refine QM (dj:=78) rfl rfl rfl ?_;refine zM ?_;refine QM (dj:=78) rfl rfl rfl ?_;refine zM ?_;refine QM (dj:=78) rfl rfl rfl ?_;refine qcV (vs:=[_,_]) rfl zyb (zAz hWa3 hWb3 rfl (zpw hP.nd) kB) ?_;refine zV (QY rfl rfl rfl) ?_;refine zM ?_;refine QM (dj:=83) rfl rfl rfl ?_;refine zM ?_;refine QM (dj:=83) rfl rfl rfl ?_;refine zM ?_;refine QM (dj:=83) rfl rfl rfl ?_;refine qcV (vs:=[_,_]) rfl zwO (zAQ hWa4 hWb4 kB) ?_;refine zV (QY rfl rfl rfl) ?_;refine zM ?_;refine QM (dj:=88) rfl rfl rfl ?_;refine zM ?_;refine QM (dj:=88) rfl rfl rfl ?_;refine zM ?_;refine QM (dj:=88) rfl rfl rfl ?_;refine zC ?_;rw [show (vC xs==vC xs)=true by simp];refine zV (QY rfl rfl rfl) ?_;refine zM ?_;refine QM (dj:=93) rfl rfl rfl ?_;refine zM ?_;refine QM (dj:=93) rfl rfl rfl ?_;refine zM ?_;refine QM (dj:=93) rfl rfl rfl ?_;refine qcV (vs:=[_,_]) rfl zyt (zzB hRa hRb (hba.trans hbb.symm) kB) ?_;refine zV (QY rfl rfl rfl) ?_;refine zM ?_;refine QM (dj:=98) rfl rfl rfl ?_;refine zM ?_;refine QM (dj:=98) rfl rfl rfl ?_;refine zM ?_;refine QM (dj:=98) rfl rfl rfl ?_;refine zC ?_;rw [show (vC xs==vC xs)=true by simp];refine zV (QY rfl rfl rfl) ?_;refine zM ?_;refine QM (dj:=103) rfl rfl rfl ?_;refine zF Zx ?_;refine QM (dj:=103) rfl rfl rfl ?_;refine zV (Qd rfl YD (fun hg=>by exact Qz.imm h19.out rfl)) ?_;refine QM (dj:=103) rfl rfl rfl ?_;refine zF Zx ?_;refine QM (dj:=103) rfl rfl rfl ?_;refine zV (Qd rfl YD (fun hg=>by exact Qz.imm h21.out rfl)) ?_;refine QM (dj:=103) rfl rfl rfl ?_;refine qcV (vs:=[_,_]) rfl ziR (zAF hLa.1 hLb.1 (zsD hLa hLb).1 hLa.2.1 kB) ?_;refine zV (QY rfl rfl rfl) ?_;refine zM ?_;refine QM (dj:=110) rfl rfl rfl ?_;refine zM ?_;refine QM (dj:=110) rfl rfl rfl ?_;refine zM ?_;refine QM (dj:=110) rfl rfl rfl ?_;refine zC ?_;rw [show (ea==ea)=true by simp];refine zV (QY rfl rfl rfl) ?_;refine zA (zN (Qs ?_));exact QA rfl rfl (fun w hw=>⟨by rfl,(hw.mono hIc).subL Qx⟩)
end
end Go.Proofs.YtjblkbkmblkgoaaGreat
namespace Go.Kn
section
open Go Go.ChangeShapes Go.WideShapes Go.ChangeAt Go.RowKit
def zaV (W:World):Qv:=fun b=>W.heap[b]?
theorem St.start (W:World):St W (zaV W) (fun _=>none) [] W:=
 ⟨rfl,rfl,rfl,⟨Nat.le_refl _,Nat.le_refl _⟩,fun _ _ h=>h,(fun _ _ h=>by cases h),(fun _ _ h=>by cases h),fun _=>.inr rfl,(fun _ _ h=>by cases h),by simp⟩
variable{W w:World}{loc:Loc}
theorem St.below {H:Qv}(h:St W (zaV W) H loc w):Below W.heap.size W w:=
 ⟨h.os,h.tape,h.out,h.size.1,fun k hk=>by
  have e:W.heap[k]? =some W.heap[k]:=Array.getElem?_eq_getElem hk
  rw [h.imm k _ e,e]⟩
variable{P:Program}{f:FuncId}{v:Value}
theorem ZF.law {args:List Value}(h:ZF P f args (zaV W) v):Calls P f args.toArray W fun e w'=>e= .returned v∧Below W.heap.size W w':=
 (h W _ W (St.start W)).mono fun _ _ ⟨he,hs⟩=>⟨he,hs.below⟩
variable{may:MemPlace→Prop}
theorem zeC (h:Below W.heap.size W w):W.keptBut w may:=by
 refine ⟨h.os,h.output,fun i hi=>?_⟩;rw [h.block i hi];rw [Array.getElem?_eq_getElem hi];cases W.heap[i]<;>simp
variable{H:Type}{W':World}{enc:TypeId×Value→H}
theorem Xr (hl:laidOutB P=true)(hB:Below W.heap.size W W')(sp:Nat→Bool):∀ (ts:List TypeId) (vs:List Value) (ds:List (DataW H)) (ps:List MemPlace),(∀ t∈ts,P.readableRec t=true∧t<P.types.size)→
  DataW.TrodAll enc P W 0 (fun _=>true) true ts vs ds ps→(∀ x∈ps,x.block<W.heap.size∧sp x.block=true)→DataW.TrodAll enc P W' 0 sp true ts vs ds ps
 | [],[],[],ps,_,h,_=>h
 | t::ts,v::vs,d::ds,ps,hr,⟨p,q,h1,h2,e⟩,hlt=>by
  subst e
  exact ⟨p,q,WideElems.Trod_stays hl (hr t (List.mem_cons_self ..)).1 (hr t (List.mem_cons_self ..)).2 h1 (fun x hx=>hB.same (hlt x (List.mem_append_left _ hx)).1) (fun x hx=>(hlt x (List.mem_append_left _ hx)).2),
   Xr hl hB sp ts vs ds q (fun t ht=>hr t (List.mem_cons_of_mem _ ht)) h2 (fun x hx=>hlt x (List.mem_append_right _ hx)),rfl⟩
variable{s:ChangeSpec}{again:Bool}{args:Array Value}{ds:List (DataW H)}{before:List MemPlace}{tb:TypeId}
theorem zqB {f:Func}
  (hl:laidOutB P=true)(hr:f.resultTypes= #[tb])(hb:P.underlying tb=some .bool)(hv:s.vars=[])(hs:(s.fn H (ds++[]))= {results:=[.lit (.bool true)],args:=ds})(hrd:∀ t∈f.params.toList,P.readableRec t=true∧t<P.types.size)
  (hW:DataW.Whole enc P f.params.toList s.vars false W args.toList ds [] before)(hB:Below W.heap.size W W'):s.post enc P f false true false again W args (.bool true) W':=by
 have hlt:∀ x∈before,x.block<W.heap.size:=fun x hx=>(by simpa using hW.lt x hx);have hW0:=hW;obtain ⟨p,q,hA,hV,rfl,hfz,_⟩:=hW;rw [hv] at hV;obtain ⟨_,rfl⟩:=trodVars_none hV;rw [List.append_nil] at hlt hfz hW0
 have hres:∀ (b:Nat) (sp:Nat→Bool) (hd:Bool),DataW.TrodAll enc P W' b sp hd f.resultTypes.toList ((Value.bool true).resultList f.resultTypes.size) [.lit (.bool true)] []:=fun b sp hd=>by
  rw [hr];exact trodAll_mk1 (shut_bool hb true)
 have hargs:∀ sp:Nat→Bool,(∀ x∈p,sp x.block=true)→DataW.TrodAll enc P W' 0 sp true f.params.toList args.toList ds p:=fun sp h=>Xr hl hB sp _ _ _ _ hrd hA (fun x hx=>⟨hlt x hx,h x hx⟩);have hnil:∀ sp:Nat→Bool,DataW.TrodVars enc P W' sp s.vars [] []:=fun sp=>(by rw [hv];rfl);refine ⟨ds,[],p,[],p,[],hW0,?_,?_,?_,zeC hB,fun _=>?_⟩
 ·
  rw [hs];exact hres _ _ _
 ·
  rw [hs];exact hargs _ (fun x hx=>by simpa using hlt x hx)
 ·
  rw [hs];exact hnil _
 ·
  refine ⟨fun j t r ht hr'=>?_,[.lit (.bool true)]++ds,[],[]++p,⟨[]++p,[],trodAll_append (hargs _ (fun _ _=>rfl)) (hres _ _ _),hnil _,by simp,?_,fun h=>by cases h⟩,fun x hx _=>by simpa using hx⟩
  ·
   rw [hr] at ht hr'
   cases j with
   | zero=>simp [Value.resultList] at ht hr';subst ht;subst hr';exact okWide_bool_mk hb _
   | succ j=>simp at ht
  ·
   intro b off hx;rw [hB.frozen (hlt _ (by simpa using hx))];exact hfz b off (by simpa using hx)
variable{u:Value}
theorem zl4 {b o:Nat}(h:W.cell? ⟨b,o,none⟩=some u):Qz (zaV W) [] b o u:=by
 unfold World.cell? at h;split at h
 ·
  rename_i c t fz hb;simp only [Option.isSome_none,Bool.false_eq_true,if_false] at h;exact ⟨c,t,fz,.inl hb,h⟩
 ·
  cases h
variable{t e:TypeId}{size:Nat}{cs:List Value}{x0:DataW H×List MemPlace}{α:Type}
theorem za6 {fuel0:Nat}(enc':α→List Value)(ok:α→Prop)
  (ht:P.underlying t=some (.slice e))(hc:P.cellsOf e=size)(hpos:0<size)(hlen:∀ y,(enc' y).length=size)
  (hel:∀ fuel cs x,DataW.trod enc P W 0 (fun _=>true) true fuel e cs=some x→∃ y,ok y∧enc' y=cs)
  (hf':DataW.trod enc P W 0 (fun _=>true) true fuel0 t cs=some x0):∃ av n c xs,cs=[.slice av n c]∧Sl (zaV W) size enc' av n c xs∧(∀ x∈xs,ok x)∧c≤maxLen:=by
 rcases Go.Deep.open_slice ht hf' with ⟨e1,_⟩ | ⟨a,len0,cap0,m,n,D,Pl,e1,hb,hl,hm,hmm,_,hx⟩
 ·
  subst e1;exact ⟨none,0,0,[],rfl,.nil,(fun x hx=>by cases hx),Nat.zero_le _⟩
 ·
  subst e1;have hlm:len0≤m:=by rw [hmm];simp;exact hl
  have each:∀ i,i<len0→∃ y,ok y∧W.cells? 0 (a.add (i*size)) size=some (enc' y):=fun i hi=>by
   obtain ⟨cs',h1,h2⟩:=hx i kB;obtain ⟨y,hy,e⟩:=hel _ _ _ h2;rw [hc] at h1;exact ⟨y,hy,by rw [h1,e]⟩
  have all:∀ k,k≤len0→∃ xs:List α,xs.length=k∧∀ i x,xs[i]? =some x→ok x∧W.cells? 0 (a.add (i*size)) size=some (enc' x):=by
   intro k
   induction k with
   | zero=>intro _;exact ⟨[],rfl,fun i x h=>by simp at h⟩
   | succ k ih=>
    intro hk;obtain ⟨xs,hl',hxs⟩:=ih kB;obtain ⟨y,hy,hcy⟩:=each k kB;refine ⟨xs++[y],by simp [hl'],fun i x h=>?_⟩;by_cases hi:i<xs.length
    ·
     rw [List.getElem?_append_left hi] at h;exact hxs i x h
    ·
     rw [List.getElem?_append_right kB] at h;have:i=k:=by have:=(List.getElem?_eq_some_iff.1 h).1;simp at this;omega
     subst this;rw [hl'] at h;simp at h;subst h;exact ⟨hy,hcy⟩
  obtain ⟨xs,hl',hxs⟩:=all len0 (Nat.le_refl _)
  have add0:∀ (b o n:Nat),(⟨b,o,none⟩:Addr).add n=⟨b,o+n,none⟩:=fun b o n=>by
   unfold Addr.add;split
   ·
    rename_i e;subst e;rfl
   ·
    rfl
  have hspot:0<xs.length→a.spot=none:=fun hx=>by
   have hx0:xs[0]? =some xs[0]:=List.getElem?_eq_getElem hx;have hp0:0<(enc' xs[0]).length:=(by rw [hlen];exact hpos);obtain ⟨_,h1,h2⟩:=World.cells?_some (hxs 0 _ hx0).2;have h3:=h2 0 hpos;rw [List.getElem?_eq_getElem hp0] at h3;simpa [Addr.add] using World.cell?_spot h3
  have cellat:∀ i x,xs[i]? =some x→∀ j u,(enc' x)[j]? =some u→W.cell? ⟨a.block,a.off+i*size+j,none⟩=some u:=fun i x hx j u hu=>by
   obtain ⟨_,h1,h2⟩:=World.cells?_some (hxs i x hx).2;have hj:j<size:=(by rw [←hlen x];exact (List.getElem?_eq_some_iff.1 hu).1);have h3:=h2 j hj;rw [hu] at h3;have hsp:=hspot (by have:=(List.getElem?_eq_some_iff.1 hx).1;omega);obtain ⟨b,o,sp⟩:=a;simp only at hsp;subst hsp;rw [add0,add0] at h3;exact h3
  refine ⟨some a,len0,cap0,xs,rfl,⟨hl',hl,fun hn=>?_,fun k x hx j u hu=>?_⟩,fun x hx=>?_,hm⟩
  ·
   have:=hspot kB;obtain ⟨b,o,sp⟩:=a;simp only at this;subst this;rfl
  ·
   exact zl4 (cellat k x hx j u hu)
  ·
   obtain ⟨i,hi⟩:=List.getElem?_of_mem hx;exact (hxs i x hi).1
variable{base:Nat}{d:DataW H}{p:List MemPlace}
theorem ztu (enc':α→List Value)(ok:α→Prop)
  (ht:P.underlying t=some (.slice e))(hc:P.cellsOf e=size)(hpos:0<size)(hlen:∀ y,(enc' y).length=size)
  (hel:∀ fuel cs x,DataW.trod enc P W 0 (fun _=>true) true fuel e cs=some x→∃ y,ok y∧enc' y=cs)
  (hv:Value.okWide P W .any base t v)(h:DataW.Trod enc P W 0 (fun _=>true) true t v d p):∃ av n c xs,v= .slice av n c∧Sl (zaV W) size enc' av n c xs∧(∀ x∈xs,ok x)∧c≤maxLen:=by
 obtain ⟨a0,len0,cap0,rfl⟩:=okWide_slice ht hv;obtain ⟨fuel,hf⟩:=h;obtain ⟨av,n,c,xs,e,h1,h2,h3⟩:=za6 enc' ok ht hc hpos hlen hel (cs:=[.slice a0 len0 cap0]) (by simpa [Value.cells] using hf);cases e;exact ⟨_,_,_,xs,rfl,h1,h2,h3⟩
variable{k:IntKind}
theorem zyk (he:P.underlying e=some (.int k))(hk:k= .i64)(fuel:Nat)(cs:List Value)(x:DataW H×List MemPlace)(h:DataW.trod enc P W 0 (fun _=>true) true fuel e cs=some x):
  ∃ y:Int,(-9223372036854775808≤y∧y≤9223372036854775807)∧[Value.int .i64 y]=cs:=by
 subst hk
 obtain ⟨v,hv⟩:∃ v,cs=[v]:=by
  have:=h
  cases fuel with
  | zero=>simp [DataW.trod] at this
  | succ m=>unfold DataW.trod at this;rw [he] at this;split at this<;>simp_all
 subst hv;obtain ⟨n,e,_,w⟩:=DataW.trod_int he h;cases e;simp only [Lit.wf,Bool.and_eq_true,decide_eq_true_eq] at w;exact ⟨n,w,rfl⟩
variable{n:Int}
theorem ZZ (h:(Lit.int .i64 n).wf=true): -9223372036854775808≤n∧n≤9223372036854775807:=by
 simp only [Lit.wf,Bool.and_eq_true,decide_eq_true_eq] at h;exact h
end
section
open Go
theorem JL {H:Type}{enc:TypeId×Value→H}{P:Program}{W:World}{base:Nat}{spare:Nat→Bool}{held:Bool}{t C:Nat}{fs:Array Field}{fuel:Nat}{cs:List Value}{x:DataW H×List MemPlace}(hs:P.underlying t=some (.struct fs))
  (hC:P.cellsOf t=C)(h:DataW.trod enc P W base spare held fuel t cs=some x):
  cs.length=C∧∃ n,∀ (i ty off k:Nat),((fs[i]?).map fun f=>(f.type,f.offset))=some (ty,off)→P.cellsOf ty=k→∃ y,DataW.trod enc P W base spare held n ty ((cs.drop off).take k)=some y:=by
 obtain ⟨xs,n,_,_,hl,hxl,hf⟩:=DataW.trod_struct hs h;refine ⟨hl.trans hC,n,fun i ty off k hi hk=>?_⟩;obtain ⟨f,hfi,e⟩:=Option.map_eq_some_iff.1 hi;cases e;have g:=hf i f hfi;have hix:i<xs.length:=(by rw [hxl];exact (Array.getElem?_eq_some_iff.1 hfi).1);rw [hk,List.getElem?_eq_getElem hix] at g;exact ⟨_,g⟩
end
end Go.Kn
namespace Go.Proofs.YtjblkbkmblkgoaaGreat
section
open Go Go.Kn Go.Proofs
open Go.ChangeShapes Go.WideShapes Go.ChangeAt Go.RowKit
set_option maxRecDepth 100000
theorem zrV:Tryz.prog.underlying 3=some (.int .i64):=kA
theorem zs6:Tryz.prog.underlying 45=some (.struct (Tryz.prog.fieldsOf 45)):=kA
theorem zvy:Tryz.prog.underlying 32=some (.struct (Tryz.prog.fieldsOf 32)):=kA
theorem zwe:Tryz.prog.underlying 30=some (.struct (Tryz.prog.fieldsOf 30)):=kA
theorem zwu:Tryz.prog.underlying 39=some (.struct (Tryz.prog.fieldsOf 39)):=kA
theorem zs7:Tryz.prog.underlying 36=some (.struct (Tryz.prog.fieldsOf 36)):=kA
theorem znU:Tryz.prog.underlying 34=some (.struct (Tryz.prog.fieldsOf 34)):=kA
theorem zvf:Tryz.prog.underlying 37=some (.slice 3):=kA
theorem zuf:Tryz.prog.underlying 41=some (.struct (Tryz.prog.fieldsOf 41)):=kA
theorem zuQ:Tryz.prog.underlying 43=some (.struct (Tryz.prog.fieldsOf 43)):=kA
theorem zrN:Tryz.prog.underlying 9=some .string:=kA
theorem zsZ:Tryz.prog.underlying 5=some (.int .u8):=kA
theorem zk8:Tryz.prog.underlying 80=some (.slice 5):=kA
theorem zvX:Tryz.prog.underlying 57=some (.slice 45):=kA
theorem zk6:Tryz.prog.underlying 59=some (.struct (Tryz.prog.fieldsOf 59)):=kA
theorem zvU:Tryz.prog.underlying 60=some (.slice 80):=kA
variable{n:Int}
theorem zA6 (h:(Lit.int .u8 n).wf=true):0≤n∧n≤255:=by
 simp only [Lit.wf,Bool.and_eq_true,decide_eq_true_eq] at h;exact h
variable{H:Type}{W:World}{c:Value}{enc:TypeId×Value→H}{x:DataW H×List MemPlace}
theorem Ud {n:Nat}(h:DataW.trod enc Tryz.prog W 0 (fun _=>true) true n 3 [c]=some x):∃ k:Int,c= .int .i64 k∧(Lit.int .i64 k).wf=true:=let ⟨k,e,_,w⟩:=DataW.trod_int zrV h;⟨k,(List.cons.inj e).1,w⟩
theorem zAA (fuel:Nat)(cs:List Value)(x:DataW H×List MemPlace)(h:DataW.trod enc Tryz.prog W 0 (fun _=>true) true fuel 5 cs=some x):∃ y:Nat,y≤255∧VT y=cs:=by
 obtain ⟨v,hv⟩:∃ v,cs=[v]:=by
  have:=h
  cases fuel with
  | zero=>simp [DataW.trod] at this
  | succ m=>unfold DataW.trod at this;rw [zsZ] at this;split at this<;>simp_all
 subst hv;obtain ⟨n,e,_,w⟩:=DataW.trod_int zsZ h;cases e;have h2:=zA6 w;refine ⟨n.toNat,kB,?_⟩;show [Value.int .u8 (n.toNat:Int)]=_;rw [Int.toNat_of_nonneg h2.1]
theorem zAv (fuel:Nat)(cs:List Value)(x:DataW H×List MemPlace)(h:DataW.trod enc Tryz.prog W 0 (fun _=>true) true fuel 45 cs=some x):∃ y:Nt,(fun x=>Nd (zaV W) x.pt∧NtW x) y∧Q7 y=cs:=by
 obtain ⟨hl,n0_,f0⟩:=JL (C:=45) zs6 kA h
 match cs,hl with
 | (c0::c1::c2::c3::c4::c5::c6::c7::c8::c9::c10::c11::c12::c13::c14::c15::c16::c17::c18::c19::c20::c21::c22::c23::c24::c25::c26::c27::c28::c29::c30::c31::c32::c33::c34::c35::c36::c37::c38::c39::c40::c41::c42::c43::c44::[]),_=>
  obtain ⟨_,g0_0⟩:=f0 0 3 0 1 kA kA;obtain ⟨n0,e0,w0⟩:=Ud (c:=c0) g0_0;obtain ⟨_,g0_1⟩:=f0 1 32 1 9 kA kA;obtain ⟨_,n1_,f1⟩:=JL (C:=9) zvy kA (show DataW.trod enc Tryz.prog W 0 (fun _=>true) true n0_ 32 [c1,c2,c3,c4,c5,c6,c7,c8,c9]=some _ from g0_1);obtain ⟨_,g1_0⟩:=f1 0 3 0 1 kA kA;obtain ⟨n1,e1,w1⟩:=Ud (c:=c1) g1_0;obtain ⟨_,g1_1⟩:=f1 1 3 1 1 kA kA;obtain ⟨n2,e2,w2⟩:=Ud (c:=c2) g1_1;obtain ⟨_,g1_2⟩:=f1 2 3 2 1 kA kA;obtain ⟨n3,e3,w3⟩:=Ud (c:=c3) g1_2;obtain ⟨_,g1_3⟩:=f1 3 3 3 1 kA kA;obtain ⟨n4,e4,w4⟩:=Ud (c:=c4) g1_3;obtain ⟨_,g1_4⟩:=f1 4 3 4 1 kA kA;obtain ⟨n5,e5,w5⟩:=Ud (c:=c5) g1_4;obtain ⟨_,g1_5⟩:=f1 5 3 5 1 kA kA;obtain ⟨n6,e6,w6⟩:=Ud (c:=c6) g1_5;obtain ⟨_,g1_6⟩:=f1 6 30 6 3 kA kA;obtain ⟨_,n2_,f2⟩:=JL (C:=3) zwe kA (show DataW.trod enc Tryz.prog W 0 (fun _=>true) true n1_ 30 [c7,c8,c9]=some _ from g1_6);obtain ⟨_,g2_0⟩:=f2 0 3 0 1 kA kA;obtain ⟨n7,e7,w7⟩:=Ud (c:=c7) g2_0;obtain ⟨_,g2_1⟩:=f2 1 3 1 1 kA kA;obtain ⟨n8,e8,w8⟩:=Ud (c:=c8) g2_1;obtain ⟨_,g2_2⟩:=f2 2 3 2 1 kA kA;obtain ⟨n9,e9,w9⟩:=Ud (c:=c9) g2_2;obtain ⟨_,g0_2⟩:=f0 2 39 10 19 kA kA;obtain ⟨_,n3_,f3⟩:=JL (C:=19) zwu kA (show DataW.trod enc Tryz.prog W 0 (fun _=>true) true n0_ 39 [c10,c11,c12,c13,c14,c15,c16,c17,c18,c19,c20,c21,c22,c23,c24,c25,c26,c27,c28]=some _ from g0_2);obtain ⟨_,g3_0⟩:=f3 0 3 0 1 kA kA;obtain ⟨n10,e10,w10⟩:=Ud (c:=c10) g3_0;obtain ⟨_,g3_1⟩:=f3 1 3 1 1 kA kA;obtain ⟨n11,e11,w11⟩:=Ud (c:=c11) g3_1;obtain ⟨_,g3_2⟩:=f3 2 3 2 1 kA kA;obtain ⟨n12,e12,w12⟩:=Ud (c:=c12) g3_2;obtain ⟨_,g3_3⟩:=f3 3 3 3 1 kA kA;obtain ⟨n13,e13,w13⟩:=Ud (c:=c13) g3_3;obtain ⟨_,g3_4⟩:=f3 4 36 4 14 kA kA;obtain ⟨_,n4_,f4⟩:=JL (C:=14) zs7 kA (show DataW.trod enc Tryz.prog W 0 (fun _=>true) true n3_ 36 [c14,c15,c16,c17,c18,c19,c20,c21,c22,c23,c24,c25,c26,c27]=some _ from g3_4);obtain ⟨_,g4_0⟩:=f4 0 3 0 1 kA kA;obtain ⟨n14,e14,w14⟩:=Ud (c:=c14) g4_0;obtain ⟨_,g4_1⟩:=f4 1 3 1 1 kA kA;obtain ⟨n15,e15,w15⟩:=Ud (c:=c15) g4_1;obtain ⟨_,g4_2⟩:=f4 2 3 2 1 kA kA;obtain ⟨n16,e16,w16⟩:=Ud (c:=c16) g4_2;obtain ⟨_,g4_3⟩:=f4 3 3 3 1 kA kA;obtain ⟨n17,e17,w17⟩:=Ud (c:=c17) g4_3;obtain ⟨_,g4_4⟩:=f4 4 3 4 1 kA kA;obtain ⟨n18,e18,w18⟩:=Ud (c:=c18) g4_4;obtain ⟨_,g4_5⟩:=f4 5 3 5 1 kA kA;obtain ⟨n19,e19,w19⟩:=Ud (c:=c19) g4_5;obtain ⟨_,g4_6⟩:=f4 6 3 6 1 kA kA;obtain ⟨n20,e20,w20⟩:=Ud (c:=c20) g4_6;obtain ⟨_,g4_7⟩:=f4 7 3 7 1 kA kA;obtain ⟨n21,e21,w21⟩:=Ud (c:=c21) g4_7;obtain ⟨_,g4_8⟩:=f4 8 3 8 1 kA kA;obtain ⟨n22,e22,w22⟩:=Ud (c:=c22) g4_8;obtain ⟨_,g4_9⟩:=f4 9 3 9 1 kA kA;obtain ⟨n23,e23,w23⟩:=Ud (c:=c23) g4_9;obtain ⟨_,g4_10⟩:=f4 10 34 10 2 kA kA;obtain ⟨_,n5_,f5⟩:=JL (C:=2) znU kA (show DataW.trod enc Tryz.prog W 0 (fun _=>true) true n4_ 34 [c24,c25]=some _ from g4_10);obtain ⟨_,g5_0⟩:=f5 0 3 0 1 kA kA;obtain ⟨n24,e24,w24⟩:=Ud (c:=c24) g5_0;obtain ⟨_,g5_1⟩:=f5 1 3 1 1 kA kA;obtain ⟨n25,e25,w25⟩:=Ud (c:=c25) g5_1;obtain ⟨_,g4_11⟩:=f4 11 34 12 2 kA kA;obtain ⟨_,n6_,f6⟩:=JL (C:=2) znU kA (show DataW.trod enc Tryz.prog W 0 (fun _=>true) true n4_ 34 [c26,c27]=some _ from g4_11);obtain ⟨_,g6_0⟩:=f6 0 3 0 1 kA kA;obtain ⟨n26,e26,w26⟩:=Ud (c:=c26) g6_0;obtain ⟨_,g6_1⟩:=f6 1 3 1 1 kA kA;obtain ⟨n27,e27,w27⟩:=Ud (c:=c27) g6_1;obtain ⟨_,g3_5⟩:=f3 5 37 18 1 kA kA;obtain ⟨a28,m28,q28,n28,e28,s28,o28,_⟩:=za6 (t:=37) (e:=3) ZX (fun n:Int=> -9223372036854775808≤n∧n≤9223372036854775807) zvf kA kD YM (fun fuel cs x h=>zyk zrV rfl fuel cs x h) (show DataW.trod enc Tryz.prog W 0 (fun _=>true) true n3_ 37 [c28]=some _ from g3_5);obtain ⟨_,g0_3⟩:=f0 3 41 29 5 kA kA;obtain ⟨_,n7_,f7⟩:=JL (C:=5) zuf kA (show DataW.trod enc Tryz.prog W 0 (fun _=>true) true n0_ 41 [c29,c30,c31,c32,c33]=some _ from g0_3);obtain ⟨_,g7_0⟩:=f7 0 3 0 1 kA kA;obtain ⟨n29,e29,w29⟩:=Ud (c:=c29) g7_0;obtain ⟨_,g7_1⟩:=f7 1 3 1 1 kA kA;obtain ⟨n30,e30,w30⟩:=Ud (c:=c30) g7_1;obtain ⟨_,g7_2⟩:=f7 2 3 2 1 kA kA;obtain ⟨n31,e31,w31⟩:=Ud (c:=c31) g7_2;obtain ⟨_,g7_3⟩:=f7 3 3 3 1 kA kA;obtain ⟨n32,e32,w32⟩:=Ud (c:=c32) g7_3;obtain ⟨_,g7_4⟩:=f7 4 3 4 1 kA kA;obtain ⟨n33,e33,w33⟩:=Ud (c:=c33) g7_4;obtain ⟨_,g0_4⟩:=f0 4 43 34 11 kA kA;obtain ⟨_,n8_,f8⟩:=JL (C:=11) zuQ kA (show DataW.trod enc Tryz.prog W 0 (fun _=>true) true n0_ 43 [c34,c35,c36,c37,c38,c39,c40,c41,c42,c43,c44]=some _ from g0_4);obtain ⟨_,g8_0⟩:=f8 0 3 0 1 kA kA;obtain ⟨n34,e34,w34⟩:=Ud (c:=c34) g8_0;obtain ⟨_,g8_1⟩:=f8 1 3 1 1 kA kA;obtain ⟨n35,e35,w35⟩:=Ud (c:=c35) g8_1;obtain ⟨_,g8_2⟩:=f8 2 3 2 1 kA kA;obtain ⟨n36,e36,w36⟩:=Ud (c:=c36) g8_2;obtain ⟨_,g8_3⟩:=f8 3 3 3 1 kA kA;obtain ⟨n37,e37,w37⟩:=Ud (c:=c37) g8_3;obtain ⟨_,g8_4⟩:=f8 4 3 4 1 kA kA;obtain ⟨n38,e38,w38⟩:=Ud (c:=c38) g8_4;obtain ⟨_,g8_5⟩:=f8 5 3 5 1 kA kA;obtain ⟨n39,e39,w39⟩:=Ud (c:=c39) g8_5;obtain ⟨_,g8_6⟩:=f8 6 9 6 1 kA kA;obtain ⟨n40,e40,_⟩:=DataW.trod_string zrN (show DataW.trod enc Tryz.prog W 0 (fun _=>true) true n8_ 9 [c40]=some _ from g8_6);obtain ⟨_,g8_7⟩:=f8 7 9 7 1 kA kA;obtain ⟨n41,e41,_⟩:=DataW.trod_string zrN (show DataW.trod enc Tryz.prog W 0 (fun _=>true) true n8_ 9 [c41]=some _ from g8_7);obtain ⟨_,g8_8⟩:=f8 8 3 8 1 kA kA;obtain ⟨n42,e42,w42⟩:=Ud (c:=c42) g8_8;obtain ⟨_,g8_9⟩:=f8 9 3 9 1 kA kA;obtain ⟨n43,e43,w43⟩:=Ud (c:=c43) g8_9;obtain ⟨_,g8_10⟩:=f8 10 3 10 1 kA kA;obtain ⟨n44,e44,w44⟩:=Ud (c:=c44) g8_10;cases e0;cases e1;cases e2;cases e3;cases e4;cases e5;cases e6;cases e7;cases e8;cases e9;cases e10;cases e11;cases e12;cases e13;cases e14;cases e15;cases e16;cases e17;cases e18;cases e19;cases e20;cases e21;cases e22;cases e23;cases e24;cases e25;cases e26;cases e27;cases e28;cases e29;cases e30;cases e31;cases e32;cases e33;cases e34;cases e35;cases e36;cases e37;cases e38;cases e39;cases e40;cases e41;cases e42;cases e43;cases e44;exact ⟨⟨n0,⟨n1,n2,n3,n4,n5,n6,n7,n8,n9⟩,⟨n10,n11,n12,n13,⟨n14,n15,n16,n17,n18,n19,n20,n21,n22,n23,n24,n25,n26,n27⟩,a28,m28,q28,n28⟩,⟨n29,n30,n31,n32,n33⟩,⟨n34,n35,n36,n37,n38,n39,n40,n41,n42,n43,n44⟩⟩,⟨s28,⟨List.forall_mem_cons.2 ⟨ZZ w0,List.forall_mem_cons.2 ⟨ZZ w1,List.forall_mem_cons.2 ⟨ZZ w2,List.forall_mem_cons.2 ⟨ZZ w3,List.forall_mem_cons.2 ⟨ZZ w4,List.forall_mem_cons.2 ⟨ZZ w5,List.forall_mem_cons.2 ⟨ZZ w6,List.forall_mem_cons.2 ⟨ZZ w7,List.forall_mem_cons.2 ⟨ZZ w8,List.forall_mem_cons.2 ⟨ZZ w9,List.forall_mem_cons.2 ⟨ZZ w10,List.forall_mem_cons.2 ⟨ZZ w11,List.forall_mem_cons.2 ⟨ZZ w12,List.forall_mem_cons.2 ⟨ZZ w13,List.forall_mem_cons.2 ⟨ZZ w14,List.forall_mem_cons.2 ⟨ZZ w15,List.forall_mem_cons.2 ⟨ZZ w16,List.forall_mem_cons.2 ⟨ZZ w17,List.forall_mem_cons.2 ⟨ZZ w18,List.forall_mem_cons.2 ⟨ZZ w19,List.forall_mem_cons.2 ⟨ZZ w20,List.forall_mem_cons.2 ⟨ZZ w21,List.forall_mem_cons.2 ⟨ZZ w22,List.forall_mem_cons.2 ⟨ZZ w23,List.forall_mem_cons.2 ⟨ZZ w24,List.forall_mem_cons.2 ⟨ZZ w25,List.forall_mem_cons.2 ⟨ZZ w26,List.forall_mem_cons.2 ⟨ZZ w27,List.forall_mem_cons.2 ⟨ZZ w29,List.forall_mem_cons.2 ⟨ZZ w30,List.forall_mem_cons.2 ⟨ZZ w31,List.forall_mem_cons.2 ⟨ZZ w32,List.forall_mem_cons.2 ⟨ZZ w33,List.forall_mem_cons.2 ⟨ZZ w34,List.forall_mem_cons.2 ⟨ZZ w35,List.forall_mem_cons.2 ⟨ZZ w36,List.forall_mem_cons.2 ⟨ZZ w37,List.forall_mem_cons.2 ⟨ZZ w38,List.forall_mem_cons.2 ⟨ZZ w39,List.forall_mem_cons.2 ⟨ZZ w42,List.forall_mem_cons.2 ⟨ZZ w43,List.forall_mem_cons.2 ⟨ZZ w44,fun y hy=>(by cases hy)⟩⟩⟩⟩⟩⟩⟩⟩⟩⟩⟩⟩⟩⟩⟩⟩⟩⟩⟩⟩⟩⟩⟩⟩⟩⟩⟩⟩⟩⟩⟩⟩⟩⟩⟩⟩⟩⟩⟩⟩⟩⟩,o28⟩⟩,rfl⟩
theorem zyH (fuel:Nat)(cs:List Value)(x:DataW H×List MemPlace)(h:DataW.trod enc Tryz.prog W 0 (fun _=>true) true fuel 80 cs=some x):∃ y:Hy,(HyM (zaV W)) y∧WG y=cs:=by
 obtain ⟨v,hv⟩:∃ v,cs=[v]:=by
  have:=h
  cases fuel with
  | zero=>simp [DataW.trod] at this
  | succ m=>unfold DataW.trod at this;rw [zk8] at this;split at this<;>simp_all
 subst hv;obtain ⟨a0,m0,q0,n0,e0,s0,o0,_⟩:=za6 (t:=80) (e:=5) VT (fun y:Nat=>y≤255) zk8 kA kD Y8 (fun fuel cs x h=>zAA fuel cs x h) h;cases e0;exact ⟨⟨a0,m0,q0,n0⟩,⟨s0,fun b hb=>Nat.lt_succ_of_le (o0 b hb)⟩,rfl⟩
variable{base:Nat}{v:Value}{d:DataW H}{p:List MemPlace}
theorem zuw (hv:Value.okWide Tryz.prog W .any base 59 v)(h:DataW.Trod enc Tryz.prog W 0 (fun _=>true) true 59 v d p):
  ∃ av n c xs,v= .agg #[.slice av n c]∧UV (zaV W) av n c xs∧∀ x∈xs,NtW x:=by
 obtain ⟨cs,rfl,_⟩:=okWide_struct zk6 hv;obtain ⟨fuel,hf⟩:=h;obtain ⟨l⟩:=cs;obtain ⟨hl,n0_,f0⟩:=JL (C:=1) zk6 kA hf
 match l,hl with
 | [c0],_=>
  obtain ⟨_,g0_0⟩:=f0 0 57 0 1 kA kA;obtain ⟨a0,m0,q0,n0,e0,s0,o0,_⟩:=za6 (t:=57) (e:=45) Q7 (fun x:Nt=>Nd (zaV W) x.pt∧NtW x) zvX kA kD Zl (fun fuel cs x h=>zAv fuel cs x h) (show DataW.trod enc Tryz.prog W 0 (fun _=>true) true n0_ 57 [c0]=some _ from g0_0);cases e0;exact ⟨a0,m0,q0,n0,rfl,⟨s0,fun x hx=>(o0 x hx).1,fun x hx hf=>zgh (o0 x hx).2 (o0 x hx).1 hf⟩,fun x hx=>(o0 x hx).2⟩
theorem zmN (hv:Value.okWide Tryz.prog W .any base 60 v)(h:DataW.Trod enc Tryz.prog W 0 (fun _=>true) true 60 v d p):
  ∃ av n c xs,v= .slice av n c∧zj9 (zaV W) av n c xs:=by
 obtain ⟨av,n,c,xs,e,hS,hok,_⟩:=ztu (e:=80) WG (HyM (zaV W)) zvU kA kD KS (fun fuel cs x h=>zyH fuel cs x h) hv h;exact ⟨av,n,c,xs,e,⟨hS,hok⟩⟩
end
section
open Go Go.Kn Go.Proofs
open Go.ChangeShapes Go.WideShapes Go.ChangeAt Go.RowKit
theorem own:ownKnob Tryz.prog.godebug=none:=kA
theorem zum:laidOutB Tryz.prog=true:=kA
set_option maxRecDepth 100000 in
theorem UG (os:Os) (started:os.Started) (H:Type) (enc:TypeId×Value→H):
  ReturnsInHanded {} Tryz.checked os 4 .any (Rows.partiesWorldSpecSpec.pre6 enc Tryz.prog Tryz.f4 Rows.partiesWorldSpecRow.domain false) (Rows.partiesWorldSpecSpec.post enc Tryz.prog Tryz.f4 false true false false):=by
 refine returnsInHanded_of_change (C:=Tryz.checked) own started kA Tryz.func4
  (ChangeSpec.witness6 (enc:=enc) (C:=Tryz.checked) false ⟨#[], #[.agg #[.slice none 0 0],.slice none 0 0],[]⟩ 8 kA kA kA kA) ?_
 intro W base args ds gs before hval0 hW hcnd _;have hval:∀ (j:Nat) t v,Tryz.f4.params[j]? =some t→args[j]? =some v→Value.okWide Tryz.prog W .any base t v:=hval0;have hW':=hW;obtain ⟨p,q,hA0,hV,rfl,hfz,hnd⟩:=hW;have hA:DataW.TrodAll enc Tryz.prog W 0 (fun _=>true) true Tryz.f4.params.toList args.toList ds p:=hA0;rw [Tryz.params4] at hA hval;obtain ⟨v0,vs1,d0,ds1,p0,q1,ea,rfl,rfl,h0,hA⟩:=trodAll_cons hA;obtain ⟨v1,vs2,d1,ds2,p1,q2,rfl,rfl,rfl,h1,hA⟩:=trodAll_cons hA;obtain ⟨rfl,rfl,rfl⟩:=trodAll_nil hA;have ea':args= #[v0,v1]:=(by rw [←Array.toArray_toList (xs:=args),ea]);subst ea';obtain ⟨rfl,rfl⟩:=trodVars_none hV;obtain ⟨av,n,c,xs,rfl,hP,hW⟩:=zuw (hval 0 59 v0 rfl rfl) h0;obtain ⟨bv,bn,bc,rs,rfl,hR⟩:=zmN (hval 1 60 v1 rfl rfl) h1;refine (ZF.law (ztq hP hW hR)).mono fun e W' ⟨he,hB⟩=>?_;subst he;exact ⟨_,rfl,zqB zum kA zAw rfl rfl (by rw [Tryz.params4];simp only [List.mem_cons,List.not_mem_nil,or_false,forall_eq_or_imp,forall_eq];exact ⟨⟨kA,of_decide_eq_true kA⟩,⟨kA,of_decide_eq_true kA⟩⟩) hW' hB⟩
end
section
open Go Go.Kn Go.Proofs
open Go.ChangeShapes Go.WideShapes Go.ChangeAt Go.RowKit
theorem V6 {a b:Bool}(h1:a=true)(h2:b=true):(a&&b)=true:=by rw [h1,h2];rfl
theorem jf0:(Rows.partiesWorldSpecRow.wf (OpenSpec.ofChange Rows.partiesWorldSpecSpec))=true:=kA
theorem jf1:(laidOutB Tryz.checked.prog)=true:=kA
theorem jf2:(mapsRowed Tryz.checked.prog)=true:=kA
theorem jf3:(Tryz.f4.params.all (Tryz.checked.prog.readableRec ·))=true:=kA
theorem jf4:(namedTie Tryz.checked.prog Rows.partiesWorldSpecRow.named Rows.partiesWorldSpecSpec.vars)=true:=kA
theorem jf5:(Rows.partiesWorldSpecRow.stops== [])=true:=kA
theorem jf6:(Tryz.checked.prog.stops== [])=true:=kA
theorem jf7:(Rows.partiesWorldSpecRow.knobs== [])=true:=kA
theorem jf8:(Tryz.checked.prog.stopKnobs== [])=true:=kA
theorem jf9:(Rows.partiesWorldSpecRow.inPlace==(Tryz.checked.prog.inPlace 4))=true:=kA
theorem zBU:(Rows.partiesWorldSpecRow.unfollowed==(Tryz.checked.prog.unfollowed 4))=true:=kA
theorem zB9:(Rows.partiesWorldSpecRow.recurses==(Tryz.checked.prog.recurses 4))=true:=kA
theorem zB1:(Rows.partiesWorldSpecRow.named==(Tryz.checked.prog.varsNamed 4))=true:=kA
theorem zBP:(Rows.partiesWorldSpecRow.maps==(Tryz.f4.params.toList++Rows.partiesWorldSpecSpec.plain.varTypes Tryz.checked.prog).any (Tryz.checked.prog.mapsRec ·))=true:=kA
theorem zCq:(Rows.partiesWorldSpecRow.ifaces==(Tryz.f4.params.toList++Rows.partiesWorldSpecSpec.plain.varTypes Tryz.checked.prog).any (Tryz.checked.prog.ifacesRec ·))=true:=kA
theorem zBS:(Rows.partiesWorldSpecRow.mapsOut==Tryz.checked.prog.mapsAmong Tryz.f4.resultTypes.toList)=true:=kA
theorem zCn:(Rows.partiesWorldSpecRow.loops==(Tryz.f4.params.toList++Rows.partiesWorldSpecSpec.plain.varTypes Tryz.checked.prog).any (Tryz.checked.prog.loopsFrom ·))=true:=kA
theorem zCi:(Rows.partiesWorldSpecRow.wideKeys==(Tryz.f4.params.toList++Rows.partiesWorldSpecSpec.plain.varTypes Tryz.checked.prog++Tryz.f4.resultTypes.toList).any (Tryz.checked.prog.wideKeysFrom ·))=true:=kA
theorem zBK:(Rows.partiesWorldSpecSpec.vars.all (Tryz.checked.prog.varReadable ·))=true:=kA
theorem zB4:(Tryz.f4.resultTypes.all (fun t=>Tryz.checked.prog.readableRec t&&decide (t<Tryz.checked.prog.types.size)))=true:=kA
theorem zB7:(Rows.partiesWorldSpecRow.ifacesOut==Tryz.f4.resultTypes.toList.any (Tryz.checked.prog.ifacesRec ·))=true:=kA
theorem zCg:(Rows.partiesWorldSpecRow.loopsOut==Tryz.f4.resultTypes.toList.any (Tryz.checked.prog.loopsFrom ·))=true:=kA
theorem zBW:(Rows.partiesWorldSpecRow.plainKeys==Tryz.checked.prog.plainKeys)=true:=kA
theorem zCp:(Rows.partiesWorldSpecRow.shortTexts.isNone)=true:=kA
theorem zCm:(Tryz.checked.prog.stopsHeard)=true:=kA
theorem zBT:(Tryz.checked.prog.mayEnter)=true:=kA
theorem zCc:(Rows.partiesWorldSpecRow.lifted==Tryz.checked.prog.liftsFinal)=true:=kA
theorem zCr:(Tryz.checked.prog.make==some Rows.partiesWorldSpecRow.make)=true:=kA
theorem zB0:(Rows.partiesWorldSpecRow.pinned==Rows.partiesWorldSpecRow.pinnedBy)=true:=kA
theorem zBZ:(Rows.partiesWorldSpecRow.veiled==(Tryz.f4.params.toList++Rows.partiesWorldSpecSpec.plain.varTypes Tryz.checked.prog++Tryz.f4.resultTypes.toList).any (Tryz.checked.prog.veiledRec ·))=true:=kA
theorem zCs:(Rows.partiesWorldSpecRow.veiledFits Tryz.checked.prog Tryz.f4.params.toList (Tryz.f4.params.toList++Rows.partiesWorldSpecSpec.plain.varTypes Tryz.checked.prog++Tryz.f4.resultTypes.toList))=true:=kA
theorem zxl:joinedFacts Tryz.checked.prog 4 Tryz.f4 Rows.partiesWorldSpecSpec Rows.partiesWorldSpecRow=true:=by
 unfold joinedFacts;exact (V6 (V6 (V6 (V6 (V6 (V6 (V6 (V6 (V6 (V6 (V6 (V6 (V6 (V6 (V6 (V6 (V6 (V6 (V6 (V6 (V6 (V6 (V6 (V6 (V6 (V6 (V6 (V6 (V6 (V6 (V6 jf0 jf1) jf2) jf3) jf4) jf5) jf6) jf7) jf8) jf9) zBU) zB9) zB1) zBP) zCq) zBS) zCn) zCi) zBK) zB4) zB7) zCg) zBW) zCp) zCm) zBT) zCc) zCr) kA) zB0) zBZ) zCs)
theorem partiesWorldSpec_holds:Rows.PartiesWorldSpecSaid:=
 OpenClaim.holds_of_wide 4 Tryz.f4 rfl rfl rfl rfl rfl rfl rfl ⟨rfl,rfl,rfl,rfl,rfl⟩ rfl rfl rfl rfl rfl kA Tryz.func4 zxl
  (of_decide_eq_true kA) (by unfold Func.isWrapper;first | (rw [if_pos (by decide+kernel)];kernel_rfl) | (rw [if_neg (by decide+kernel)];exact ⟨rfl,rfl⟩))
  (fun os started H enc _=>UG os started H enc)
#print axioms partiesWorldSpec_holds
end
end Go.Proofs.YtjblkbkmblkgoaaGreat
