/- apparatusSpec_holds, part H of the proof: what its theorems say holds without further conditions. -/
import Derived.ProofKit
import Derived.Deep.Slices
import Derived.Test.YtodakphagkommaaGreatDoorRows
import Derived.LaidMore
import Derived.MakeChecks
import Derived.Lib.LaidTab
import Derived.Test.YtodakphagkommaaGreatDoorCards
import Derived.Test.YtodakphagkommaaGreatDoorTie
import Derived.Stop.Joined
import Derived.SevenTiedAt
import Derived.Test.YtodakphagkommaaGreatDoorASG
namespace Go.Proofs.YtodakphagkommaaGreatDoor.R
section
open Go Go.Kn Go.Proofs
theorem zxG:ElT Tryz.prog 35 65 3 40:=.of (by kernel_rfl)
theorem zpK:ElT Tryz.prog 63 60 15 120:=.of (by kernel_rfl)
theorem zlE:Fun Tryz.prog 11:=.of Tryz.func11 (by kernel_rfl) (by kernel_rfl)
theorem zpL:Fun Tryz.prog 13:=.of Tryz.func13 (by kernel_rfl) (by kernel_rfl)
theorem zgA:Fun Tryz.prog 14:=.of Tryz.func14 (by kernel_rfl) (by kernel_rfl)
theorem zpB:Fun Tryz.prog 16:=.of Tryz.func16 (by kernel_rfl) (by kernel_rfl)
theorem ziU:Fun Tryz.prog 18:=.of Tryz.func18 (by kernel_rfl) (by kernel_rfl)
theorem zxN:Fun Tryz.prog 19:=.of Tryz.func19 (by kernel_rfl) (by kernel_rfl)
theorem zoT:Fun Tryz.prog 26:=.of Tryz.func26 (by kernel_rfl) (by kernel_rfl)
theorem zw7:PlT Tryz.prog 57 #[(0,1),(1,1),(2,1),(3,1),(4,14),(18,1)] (.agg #[(.int .i64 0),(.int .i64 0),(.int .i64 0),(.int .i64 0),(.int .i64 0),(.int .i64 0),(.int .i64 0),(.int .i64 0),(.int .i64 0),(.int .i64 0),(.int .i64 0),(.int .i64 0),(.int .i64 0),(.int .i64 0),(.int .i64 0),(.int .i64 0),(.int .i64 0),(.int .i64 0),(.slice none 0 0)]):=⟨.of (by kernel_rfl),by kernel_rfl,fun w=>by kernel_rfl⟩
theorem zxg:PlT Tryz.prog 60 #[(0,1),(1,14)] (.agg #[(.bool false),(.int .i64 0),(.int .i64 0),(.int .i64 0),(.int .i64 0),(.int .i64 0),(.int .i64 0),(.int .i64 0),(.int .i64 0),(.int .i64 0),(.int .i64 0),(.int .i64 0),(.int .i64 0),(.int .i64 0),(.int .i64 0)]):=⟨.of (by kernel_rfl),by kernel_rfl,fun w=>by kernel_rfl⟩
theorem zo1:PlT Tryz.prog 65 #[(0,1),(1,1),(2,1)] (.agg #[(.int .i64 0),(.int .i64 0),(.slice none 0 0)]):=⟨.of (by kernel_rfl),by kernel_rfl,fun w=>by kernel_rfl⟩
theorem zwa (I:Qw)(d:Int):Zu Tryz.prog 26 [.int .i64 d] I (.agg (Wa ⟨false,zhQ d⟩).toArray):=by
 intro g H w hw
 refine qe Tryz.func26 Tryz.ntmps26 hw ?_
 refine zR ?_
 refine Qv zmc rfl rfl (fun b_2=>?_)
 refine zN (zR ?_)
 refine zM ?_
 refine zV (QQ (ps:=[(1,_)]) [_,_] zgQ rfl rfl) ?_
 refine zV (QQ (ps:=[(0,_),(1,_)]) [_,_] zgQ rfl rfl) ?_
 refine zV (QQ (ps:=[(4,_),(3,_),(5,_),(6,_),(7,_),(10,_),(11,_)]) [_,_,_,_,_,_,_,_,_,_,_,_,_,_] KA rfl rfl) ?_
 refine zV (QQ (ps:=[(1,_)]) [_,_,_,_,_,_,_,_,_,_,_,_,_,_,_] zxg rfl rfl) ?_
 refine zh zf5 ?_
 refine zN (Qs ?_)
 exact KG rfl rfl zgk (by repeat (first | exact zAj | apply zAi)) rfl (fun w hw=>⟨rfl,hw.drop⟩)
theorem zna {I:Qw}{b t n:Nat}(hs:List Hd){vss:List (List Int)}(hn:hs.length=n)(h:I b=some (.cells (hs.flatMap WL).toArray t (0,0)))(r:zcp I hs vss):SlN I (some ⟨b,0,none⟩) n n vss:=⟨hs,Sl.lit hs hn Zb h,r⟩
theorem zfi {I:Qw}{bv av dv:Option Addr}{n2 c2 n c n3 c3:Nat}{rows:List (List Int)}{cl:List Int}{es:List Em}{no:Int}(hV:SlN I bv n2 c2 rows)(hS:Sl I 1 QP av n c cl)(hE:Sl I 3 Yo dv n3 c3 es)(hDb:V5 I)(hn2:n2≤100000)(hn:n≤100000)(hn3:n3≤100000){rd:List Int}{k:Nat}
  (he:Uu rows no cl es=0)(hr:Vr rows cl es=rd)(hk:rd.length=k):Z4 Tryz.prog 25 [.slice bv n2 c2,.int .i64 no,.slice av n c,.slice dv n3 c3] I [] (fun v I' L=>L=[]∧∃ a1 c1 a2 c2 a3 c3,v= .tuple #[.agg (ZT no a1 n c1 a2 n3 c2 a3 k c3).toArray,.int .i64 0]∧Sl I' 1 QP a1 n c1 cl∧Sl I' 3 Yo a2 n3 c2 es∧Sl I' 1 QP a3 k c3 rd):=by
 intro g H w hw
 refine (zpT hS hV hn2 hE hn3 hn hDb no g H w hw).mono ?_
 rintro ed w' ⟨v,I',L',hed,hI,hs,hMQ⟩
 obtain ⟨rfl,no2,cl2,es2,rd2,a1,q1,c1,a2,q2,c9,a3,q3,c3,rfl,hM1,hM2,hM3,hMy, -⟩:=hMQ.opn
 obtain ⟨rfl,rfl,rfl,rfl⟩:=hMy he
 have l1:=hM1.len.symm.trans hS.len;have l2:=hM2.len.symm.trans hE.len
 subst l1;subst l2;subst hk
 rw [hr] at hM3
 have l3:=hM3.len
 subst l3
 exact ⟨_,I',[],hed,hI,hs,rfl,a1,c1,a2,c9,a3,c3,by rw [he],hM1,hM2,hM3⟩
theorem zyC {I:Qw}{bv a1 a2 a3:Option Addr}{c2 c1 c9 c3:Nat}(hV:SlN I bv 3 c2 [[7],[9],[7]])(h1:Sl I 1 QP a1 2 c1 [5,7])(h2:Sl I 3 Yo a2 0 c9 [])(h3:Sl I 1 QP a3 1 c3 [7])(hDb:V5 I):Z4 Tryz.prog 11 [.slice bv 3 c2,.agg (ZT 1 a1 2 c1 a2 0 c9 a3 1 c3).toArray] I [] (zxV 0 [⟨0,7,[⟨7,[0,2]⟩,⟨9,[1]⟩]⟩]):=by
 have h:=zaJ hV (by decide) h1 h2 h3 (by decide) (by decide) (by decide) 1 hDb
 rw [eK9,(zb7 rfl).trans nK9] at h
 exact h
theorem zwO {I:Qw}(hDb:V5 I):Z4 Tryz.prog 11 [.slice none 0 0,.agg (ZT 0 none 0 0 none 0 0 none 0 0).toArray] I [] (zxV 420 []):=by
 have h:=zaJ (I:=I) (ea1:=none) (ec1:=0) (ea2:=none) (ec2:=0) (ea3:=none) (ec3:=0) SlN.none (by decide) .nil .nil .nil (by decide) (by decide) (by decide) 0 hDb
 rw [eK0] at h
 exact h
theorem zyT {I:Qw}{av:Option Addr}{c:Nat}(hW:SlW I av 2 c wK):Z4 Tryz.prog 27 [.slice av 2 c] I [] (za2 0 [[36110336],[36241408]]):=by
 have h:=ziF hW (by decide)
 rw [zzK,zzQ] at h
 exact h
section
variable {I:Qw} {av bv a1 a2 a3 pv dv:Option Addr} {c c2 c1 c9 c3 pc vn vc:Nat} {vs:List Int} (hW:SlW I av 2 c wK) (hV:SlN I bv 2 c2 [[36110336],[36241408]]) (h1:Sl I 1 QP a1 1 c1 [3]) (h2:Sl I 3 Yo a2 0 c9 []) (h3:Sl I 1 QP a3 1 c3 [36110336]) (hP:SlP I pv 1 pc [ptK]) (hVs:Sl I 1 QP dv vn vc vs) (hvn:vn≤100000) (hDb:V5 I)
include hW hV h1 h2 h3 hP hVs hvn hDb
theorem zxU {f e:Int}{o:Og}(he:orE (opK vs) (sgK vs) 0 f=e)(ho:orO e (ogK vs 0 f)=o):Z4 Tryz.prog 14 [.slice av 2 c,.slice bv 2 c2,.agg (ZT 1 a1 1 c1 a2 0 c9 a3 1 c3).toArray,.slice pv 1 pc,.slice dv vn vc,.int .i64 0,.int .i64 f] I [] (OrQ e o):=by
 subst ho;subst he
 exact znH hW (by decide) hV (by decide) h1 h2 h3 (by decide) (by decide) (by decide) 1 hP (by decide) hVs hvn hDb 0 f
theorem zzJ {e:Int}{l:List (Int×Int)}(he:opK vs=e)(ho:tcF (opK vs) (ogK vs) (sgK vs)=l):Z4 Tryz.prog 16 [.slice av 2 c,.slice bv 2 c2,.agg (ZT 1 a1 1 c1 a2 0 c9 a3 1 c3).toArray,.slice pv 1 pc,.slice dv vn vc] I [] (zzI e l):=by
 subst ho;subst he
 exact zj8 hW (by decide) hV (by decide) h1 h2 h3 (by decide) (by decide) (by decide) 1 hP (by decide) hVs hvn hDb
end
theorem zev {I:Qw}{o:Og}{a1:Option Addr}{n1 c1:Nat}{a2:Option Addr}{n2 c2:Nat}(h1:Sl I 1 QP a1 n1 c1 o.ws)(h2:Sl I 1 QP a2 n2 c2 o.ps){a3:Option Addr}{n3 c3:Nat}{a4:Option Addr}{n4 c4:Nat}(h3:Sl I 1 QP a3 n3 c3 o.ws)(h4:Sl I 1 QP a4 n4 c4 o.ps)(hb1:n1≤100000)(hb2:n2≤100000):Zu Tryz.prog 18 [.agg #[.int .i64 o.k,.int .i64 o.r,.slice a1 n1 c1,.slice a2 n2 c2],.agg #[.int .i64 o.k,.int .i64 o.r,.slice a3 n3 c3,.slice a4 n4 c4]] I (.bool true):=by
 have h:=zrx h1 h2 h3 h4 hb1 hb2
 rw [znC] at h
 exact h
theorem zqr {I:Qw}{a b:Option Addr}{n c d:Nat}(h1:zec I a n c [⟨0,7,[⟨7,[0,2]⟩,⟨9,[1]⟩]⟩])(h2:zec I b 1 d [⟨0,7,[⟨7,[0,2]⟩,⟨9,[1]⟩]⟩]):Zu Tryz.prog 13 [.slice a n c,.slice b 1 d] I (.bool true):=by
 have h:=zgS h1 h2 (by rw [←h1.len];decide) (by decide)
 rw [XM zfh] at h
 exact h
theorem zsw {I:Qw}{b1 b2 b3 b4:Nat}(h1:I b1=some (.cells (([0,2]:List Int).flatMap QP).toArray 3 (0,0)))(h2:I b2=some (.cells (([1]:List Int).flatMap QP).toArray 3 (0,0)))(h3:I b3=some (.cells (([⟨7,⟨some ⟨b1,0,none⟩,2,2⟩⟩,⟨9,⟨some ⟨b2,0,none⟩,1,1⟩⟩]:List Vh).flatMap Xs).toArray 77 (0,0)))
  (h4:I b4=some (.cells (([⟨0,7,⟨some ⟨b3,0,none⟩,2,2⟩⟩]:List Eh).flatMap zad).toArray 74 (0,0))):zec I (some ⟨b4,0,none⟩) 1 1 [⟨0,7,[⟨7,[0,2]⟩,⟨9,[1]⟩]⟩]:=
 ⟨_,Sl.lit _ rfl Zh h4,zak.nil.snoc ⟨rfl,rfl,_,Sl.lit _ rfl Zi h3,(zak.nil.snoc ⟨rfl,Sl.lit _ rfl Qu h1⟩).snoc ⟨rfl,Sl.lit _ rfl Qu h2⟩⟩⟩
set_option maxRecDepth 100000 in
theorem zw5 {I:Qw} (hDb:V5 I):Zu Tryz.prog 9 [] I (.bool true):=by
 intro g H w hw
 refine qe Tryz.func9 Tryz.ntmps9 hw ?_
 have hIc:=zAl I
 refine zR (zA ?_)
 refine zN (zR ?_)
 refine Qp (ps:=[(0,_)]) (m:=[QP 7]) Za rfl (.cons rfl (.nil)) rfl (by simp [Qu]) (by decide) (by decide) rfl rfl (fun b_26=>?_)
 refine Qp (ps:=[(0,_)]) (m:=[QP 9]) Za rfl (.cons rfl (.nil)) rfl (by simp [Qu]) (by decide) (by decide) rfl rfl (fun b_27=>?_)
 refine Qp (ps:=[(0,_)]) (m:=[QP 7]) Za rfl (.cons rfl (.nil)) rfl (by simp [Qu]) (by decide) (by decide) rfl rfl (fun b_28=>?_)
 refine Qp (ps:=[(0,_),(1,_),(2,_)]) (m:=[WL ⟨some ⟨b_26,0,none⟩,1,1⟩,WL ⟨some ⟨b_27,0,none⟩,1,1⟩,WL ⟨some ⟨b_28,0,none⟩,1,1⟩]) UU rfl (.cons rfl (.cons rfl (.cons rfl (.nil)))) rfl (by simp [Zb]) (by decide) (by decide) rfl rfl (fun b_29=>?_)
 refine zA ?_
 refine zN (zR ?_)
 refine zM ?_
 refine Qp (ps:=[(0,_),(1,_)]) (m:=[QP 5,QP 7]) Za rfl (.cons rfl (.cons rfl (.nil))) rfl (by simp [Qu]) (by decide) (by decide) rfl rfl (fun b_32=>?_)
 refine K4 (fun I1 hI1 hall1=>?_)
 have hDb:=hDb.mono hI1;have hIc:=hIc.trans hI1
 have h71:SlN I1 (some ⟨b_29,0,none⟩) 3 3 [[7],[9],[7]]:=zna (vss:=[[7],[9],[7]]) ([⟨some ⟨b_26,0,none⟩,1,1⟩,⟨some ⟨b_27,0,none⟩,1,1⟩,⟨some ⟨b_28,0,none⟩,1,1⟩]:List Hd) rfl (show _=some (Obj.cells (([⟨some ⟨b_26,0,none⟩,1,1⟩,⟨some ⟨b_27,0,none⟩,1,1⟩,⟨some ⟨b_28,0,none⟩,1,1⟩]:List Hd).flatMap WL).toArray 23 (0,0)) from hall1 _ _ (by repeat (first | exact List.mem_cons_self .. | apply List.mem_cons_of_mem))) (((zcp.nil.snoc (hd:=⟨some ⟨b_26,0,none⟩,1,1⟩) (Sl.lit ([7]:List Int) rfl Qu (show _=some (Obj.cells (([7]:List Int).flatMap QP).toArray 3 (0,0)) from hall1 _ _ (by repeat (first | exact List.mem_cons_self .. | apply List.mem_cons_of_mem))))).snoc (hd:=⟨some ⟨b_27,0,none⟩,1,1⟩) (Sl.lit ([9]:List Int) rfl Qu (show _=some (Obj.cells (([9]:List Int).flatMap QP).toArray 3 (0,0)) from hall1 _ _ (by repeat (first | exact List.mem_cons_self .. | apply List.mem_cons_of_mem))))).snoc (hd:=⟨some ⟨b_28,0,none⟩,1,1⟩) (Sl.lit ([7]:List Int) rfl Qu (show _=some (Obj.cells (([7]:List Int).flatMap QP).toArray 3 (0,0)) from hall1 _ _ (by repeat (first | exact List.mem_cons_self .. | apply List.mem_cons_of_mem)))))
 have hC2:Sl I1 1 QP (some ⟨b_32,0,none⟩) 2 2 [5,7]:=(Sl.lit ([5,7]:List Int) rfl Qu (show _=some (Obj.cells (([5,7]:List Int).flatMap QP).toArray 3 (0,0)) from hall1 _ _ (by repeat (first | exact List.mem_cons_self .. | apply List.mem_cons_of_mem))))
 refine QA (cap:=[]) (vs:=[_,_,_,_]) rfl rfl zkL .nil (zfi (no:=1) (es:=[]) (rd:=[7]) (k:=1) h71 hC2 .nil hDb (by decide) (by decide) (by decide) mK9 rK9 rfl) rfl rfl ?_
 rintro vv2 I2 L2 hI2 ⟨rfl,x1,x2,x3,x4,x5,x6,rfl,hx1,hx2,hx3⟩
 have hDb:=hDb.mono hI2;have h71:=h71.mono hI2;have hIc:=hIc.trans hI2
 refine zM ?_
 refine zE ?_
 refine zE ?_
 refine Qv zdZ rfl rfl (fun b_2=>?_)
 refine zh Jb ?_
 refine zA ?_
 refine zN (zR ?_)
 refine zM ?_
 refine zV (Qq rfl ZW (fun hg=>by exact Cells.g0) rfl) ?_
 refine QA (cap:=[]) (vs:=[_,_]) rfl rfl zlE .nil (zyC h71 hx1 hx2 hx3 hDb) rfl rfl ?_
 rintro vv3 I3 L3 hI3 ⟨rfl,ea,en,ec,rfl,hEn⟩
 have hDb:=hDb.mono hI3;have hIc:=hIc.trans hI3
 refine zM ?_
 refine zE ?_
 refine zE ?_
 refine zA ?_
 refine zA ?_
 refine zN (zR ?_)
 refine zV (QQ (ps:=[]) [_,_,_,_] zdH rfl rfl) ?_
 refine QA (cap:=[]) (vs:=[_,_]) rfl rfl zlE .nil (zwO hDb) rfl rfl ?_
 rintro vv4 I4 L4 hI4 ⟨rfl,e0a,e0n,e0c,rfl,_⟩
 have hDb:=hDb.mono hI4;have hEn:=hEn.mono hI4;have hIc:=hIc.trans hI4
 refine zM ?_
 refine zE ?_
 refine zE ?_
 refine zA ?_
 refine zA ?_
 refine zN (zR ?_)
 refine qc (vs:=[_]) rfl zoT (zwa _ _) ?_
 refine Qp (ps:=[(0,_)]) (m:=[Wa ⟨false,zhQ 3⟩]) zpK rfl (.cons rfl (.nil)) rfl (by simp [Zx]) (by decide) (by decide) rfl rfl (fun b_48=>?_)
 refine zV (QQ (ps:=[(0,_),(2,_)]) [_,_,_] zo1 rfl rfl) ?_
 refine qc (vs:=[_]) rfl zoT (zwa _ _) ?_
 refine Qp (ps:=[(0,_)]) (m:=[Wa ⟨false,zhQ 4⟩]) zpK rfl (.cons rfl (.nil)) rfl (by simp [Zx]) (by decide) (by decide) rfl rfl (fun b_51=>?_)
 refine zV (QQ (ps:=[(0,_),(2,_)]) [_,_,_] zo1 rfl rfl) ?_
 refine Qp (ps:=[(0,_),(1,_)]) (m:=[zpG ⟨1,0,some ⟨b_48,0,none⟩,1,1⟩,zpG ⟨2,0,some ⟨b_51,0,none⟩,1,1⟩]) zxG rfl (.cons rfl (.cons rfl (.nil))) rfl (by simp [ZS]) (by decide) (by decide) rfl rfl (fun b_53=>?_)
 refine zA ?_
 refine zN (zR ?_)
 refine zM ?_
 refine K4 (fun I5 hI5 hall5=>?_)
 have hDb:=hDb.mono hI5;have hEn:=hEn.mono hI5;have hIc:=hIc.trans hI5
 have hq1:Sl I5 15 Wa (some ⟨b_48,0,none⟩) 1 1 [⟨false,zhQ 3⟩]:=Sl.lit ([⟨false,zhQ 3⟩]:List Rd) rfl Zx (show _=some (Obj.cells (([⟨false,zhQ 3⟩]:List Rd).flatMap Wa).toArray 60 (0,0)) from hall5 _ _ (by repeat (first | exact List.mem_cons_self .. | apply List.mem_cons_of_mem)))
 have hq2:Sl I5 15 Wa (some ⟨b_51,0,none⟩) 1 1 [⟨false,zhQ 4⟩]:=Sl.lit ([⟨false,zhQ 4⟩]:List Rd) rfl Zx (show _=some (Obj.cells (([⟨false,zhQ 4⟩]:List Rd).flatMap Wa).toArray 60 (0,0)) from hall5 _ _ (by repeat (first | exact List.mem_cons_self .. | apply List.mem_cons_of_mem)))
 have hWK:SlW I5 (some ⟨b_53,0,none⟩) 2 2 wK:=⟨[⟨1,0,some ⟨b_48,0,none⟩,1,1⟩,⟨2,0,some ⟨b_51,0,none⟩,1,1⟩],Sl.lit ([⟨1,0,some ⟨b_48,0,none⟩,1,1⟩,⟨2,0,some ⟨b_51,0,none⟩,1,1⟩]:List Wt) rfl ZS (show _=some (Obj.cells (([⟨1,0,some ⟨b_48,0,none⟩,1,1⟩,⟨2,0,some ⟨b_51,0,none⟩,1,1⟩]:List Wt).flatMap zpG).toArray 65 (0,0)) from hall5 _ _ (by repeat (first | exact List.mem_cons_self .. | apply List.mem_cons_of_mem))),rfl,fun k w x h1 h2=>by
  rcases k with _ | _ | k
  ·
   cases h1;cases h2;exact ⟨rfl,rfl,hq1⟩
  ·
   cases h1;cases h2;exact ⟨rfl,rfl,hq2⟩
  simp at h1⟩
 refine QA (cap:=[]) (vs:=[_]) rfl rfl zok .nil (zyT hWK) rfl rfl ?_
 rintro vv6 I6 L6 hI6 ⟨rfl,ta,tc,rfl,hT⟩
 have hDb:=hDb.mono hI6;have hEn:=hEn.mono hI6;have hWK:=hWK.mono hI6;have hIc:=hIc.trans hI6
 refine zM ?_
 refine zE ?_
 refine zE ?_
 refine zA ?_
 refine zA ?_
 refine zN (zR ?_)
 refine zM ?_
 refine Qp (ps:=[(0,_)]) (m:=[QP 3]) Za rfl (.cons rfl (.nil)) rfl (by simp [Qu]) (by decide) (by decide) rfl rfl (fun b_61=>?_)
 refine K4 (fun I7 hI7 hall7=>?_)
 have hDb:=hDb.mono hI7;have hEn:=hEn.mono hI7;have hWK:=hWK.mono hI7;have hT:=hT.mono hI7;have hIc:=hIc.trans hI7
 have hC3:Sl I7 1 QP (some ⟨b_61,0,none⟩) 1 1 [3]:=(Sl.lit ([3]:List Int) rfl Qu (show _=some (Obj.cells (([3]:List Int).flatMap QP).toArray 3 (0,0)) from hall7 _ _ (by repeat (first | exact List.mem_cons_self .. | apply List.mem_cons_of_mem))))
 refine QA (cap:=[]) (vs:=[_,_,_,_]) rfl rfl zkL .nil (zfi (no:=1) (es:=[]) (rd:=[36110336]) (k:=1) hT hC3 .nil hDb (by decide) (by decide) (by decide) mK rK rfl) rfl rfl ?_
 rintro vv8 I8 L8 hI8 ⟨rfl,y1,y2,y3,y4,y5,y6,rfl,hy1,hy2,hy3⟩
 have hDb:=hDb.mono hI8;have hEn:=hEn.mono hI8;have hWK:=hWK.mono hI8;have hT:=hT.mono hI8;have hIc:=hIc.trans hI8
 refine zM ?_
 refine zE ?_
 refine zE ?_
 refine Qv zdZ rfl rfl (fun b_11=>?_)
 refine zh Jb ?_
 refine zA ?_
 refine zN (zR ?_)
 refine zV (QQ (ps:=[(6,_)]) [_,_,_,_,_,_,_,_,_,_,_,_,_,_] KA rfl rfl) ?_
 refine zV (QQ (ps:=[(0,_),(1,_),(3,_),(4,_)]) [_,_,_,_,_,_,_,_,_,_,_,_,_,_,_,_,_,_,_] zw7 rfl rfl) ?_
 refine Qp (ps:=[(0,_)]) (m:=[YK ptK]) WC rfl (.cons rfl (.nil)) rfl (by simp [Q8]) (by decide) (by decide) rfl rfl (fun b_67=>?_)
 refine zA ?_
 refine zN (zR ?_)
 refine zM ?_
 refine zM ?_
 refine zV (Qq rfl ZW (fun hg=>by exact Cells.g1) rfl) ?_
 refine zM ?_
 refine Qp (ps:=[(0,_)]) (m:=[QP 2]) Za rfl (.cons rfl (.nil)) rfl (by simp [Qu]) (by decide) (by decide) rfl rfl (fun b_73=>?_)
 refine Z1 (b:=b_67) (by repeat (first | exact Zc.here | apply Zc.there)) (fun I9 hI9 h_67=>?_)
 have hDb:=hDb.mono hI9;have hEn:=hEn.mono hI9;have hWK:=hWK.mono hI9;have hT:=hT.mono hI9;have hy1:=hy1.mono hI9;have hy2:=hy2.mono hI9;have hy3:=hy3.mono hI9;have hIc:=hIc.trans hI9
 refine Z1 (b:=b_73) (by repeat (first | exact Zc.here | apply Zc.there)) (fun I10 hI10 h_73=>?_)
 have hDb:=hDb.mono hI10;have hEn:=hEn.mono hI10;have hWK:=hWK.mono hI10;have hT:=hT.mono hI10;have hy1:=hy1.mono hI10;have hy2:=hy2.mono hI10;have hy3:=hy3.mono hI10;have hIc:=hIc.trans hI10
 have h_67:=hI10 _ _ h_67
 have hPK:SlP I10 (some ⟨b_67,0,none⟩) 1 1 [ptK]:=⟨Sl.lit ([ptK]:List Pt) rfl Q8 (show _=some (Obj.cells (([ptK]:List Pt).flatMap YK).toArray 57 (0,0)) from h_67),fun p hp=>by rw [List.mem_singleton] at hp;subst hp;exact .nil⟩
 have hv1:Sl I10 1 QP (some ⟨b_73,0,none⟩) 1 1 [2]:=Sl.lit ([2]:List Int) rfl Qu (show _=some (Obj.cells (([2]:List Int).flatMap QP).toArray 3 (0,0)) from h_73)
 refine QA (cap:=[]) (vs:=[_,_,_,_,_,_,_]) rfl rfl zgA .nil (zxU (vs:=[2]) hWK hT hy1 hy2 hy3 hPK hv1 (by decide) hDb zzt zye) rfl rfl ?_
 rintro vv11 I11 L11 hI11 ⟨rfl,_,rfl,oaA,onA,ocA,obA,omA,odA,rfl,hwA,hzA⟩
 have hDb:=hDb.mono hI11;have hEn:=hEn.mono hI11;have hWK:=hWK.mono hI11;have hT:=hT.mono hI11;have hy1:=hy1.mono hI11;have hy2:=hy2.mono hI11;have hy3:=hy3.mono hI11;have hPK:=hPK.mono hI11;have hIc:=hIc.trans hI11
 refine zM ?_
 refine zE ?_
 refine zE ?_
 refine Qv Xv rfl rfl (fun b_14=>?_)
 refine zh V7 ?_
 refine zA ?_
 refine zN (zR ?_)
 refine zM ?_
 refine zM ?_
 refine zV (Qq rfl ZW (fun hg=>by exact Cells.g1) rfl) ?_
 refine zM ?_
 refine Qp (ps:=[(0,_)]) (m:=[QP 2]) Za rfl (.cons rfl (.nil)) rfl (by simp [Qu]) (by decide) (by decide) rfl rfl (fun b_82=>?_)
 refine Z1 (b:=b_82) (by repeat (first | exact Zc.here | apply Zc.there)) (fun I12 hI12 h_82=>?_)
 have hDb:=hDb.mono hI12;have hEn:=hEn.mono hI12;have hWK:=hWK.mono hI12;have hT:=hT.mono hI12;have hy1:=hy1.mono hI12;have hy2:=hy2.mono hI12;have hy3:=hy3.mono hI12;have hPK:=hPK.mono hI12;have hwA:=hwA.mono hI12;have hzA:=hzA.mono hI12;have hIc:=hIc.trans hI12
 have hv2:Sl I12 1 QP (some ⟨b_82,0,none⟩) 1 1 [2]:=Sl.lit ([2]:List Int) rfl Qu (show _=some (Obj.cells (([2]:List Int).flatMap QP).toArray 3 (0,0)) from h_82)
 refine QA (cap:=[]) (vs:=[_,_,_,_,_,_,_]) rfl rfl zgA .nil (zxU (vs:=[2]) hWK hT hy1 hy2 hy3 hPK hv2 (by decide) hDb zyS zya) rfl rfl ?_
 rintro vv13 I13 L13 hI13 ⟨rfl,_,rfl,oaB,onB,ocB,obB,omB,odB,rfl,hwB,hzB⟩
 have hDb:=hDb.mono hI13;have hEn:=hEn.mono hI13;have hWK:=hWK.mono hI13;have hT:=hT.mono hI13;have hy1:=hy1.mono hI13;have hy2:=hy2.mono hI13;have hy3:=hy3.mono hI13;have hPK:=hPK.mono hI13;have hwA:=hwA.mono hI13;have hzA:=hzA.mono hI13;have hIc:=hIc.trans hI13
 refine zM ?_
 refine zE ?_
 refine zE ?_
 refine Qv Xv rfl rfl (fun b_16=>?_)
 refine zh V7 ?_
 refine zA ?_
 refine zN (zR ?_)
 refine zM ?_
 refine zM ?_
 refine zV (Qq rfl ZW (fun hg=>by exact Cells.g2) rfl) ?_
 refine zM ?_
 refine QA (cap:=[]) (vs:=[_,_,_,_,_,_,_]) rfl rfl zgA .nil (zxU (vs:=[]) hWK hT hy1 hy2 hy3 hPK .nil (by decide) hDb zyu zx5) rfl rfl ?_
 rintro vv14 I14 L14 hI14 ⟨rfl,_,rfl,oaC,onC,ocC,obC,omC,odC,rfl,hwC,hzC⟩
 have hDb:=hDb.mono hI14;have hEn:=hEn.mono hI14;have hWK:=hWK.mono hI14;have hT:=hT.mono hI14;have hy1:=hy1.mono hI14;have hy2:=hy2.mono hI14;have hy3:=hy3.mono hI14;have hPK:=hPK.mono hI14;have hwA:=hwA.mono hI14;have hzA:=hzA.mono hI14;have hwB:=hwB.mono hI14;have hzB:=hzB.mono hI14
 have hIc:=hIc.trans hI14
 refine zM ?_
 refine zE ?_
 refine zE ?_
 refine Qv Xv rfl rfl (fun b_18=>?_)
 refine zh V7 ?_
 refine zA ?_
 refine zN (zR ?_)
 refine zM ?_
 refine zM ?_
 refine zV (Qq rfl ZW (fun hg=>by exact Cells.g3) rfl) ?_
 refine zM ?_
 refine QA (cap:=[]) (vs:=[_,_,_,_,_,_,_]) rfl rfl zgA .nil (zxU (vs:=[]) hWK hT hy1 hy2 hy3 hPK .nil (by decide) hDb zyh zyU) rfl rfl ?_
 rintro vv15 I15 L15 hI15 ⟨rfl,_,rfl,oaD,onD,ocD,obD,omD,odD,rfl,hwD,hzD⟩
 have hDb:=hDb.mono hI15;have hEn:=hEn.mono hI15;have hWK:=hWK.mono hI15;have hT:=hT.mono hI15;have hy1:=hy1.mono hI15;have hy2:=hy2.mono hI15;have hy3:=hy3.mono hI15;have hPK:=hPK.mono hI15;have hwA:=hwA.mono hI15;have hzA:=hzA.mono hI15;have hwB:=hwB.mono hI15;have hzB:=hzB.mono hI15
 have hwC:=hwC.mono hI15;have hzC:=hzC.mono hI15;have hIc:=hIc.trans hI15
 refine zM ?_
 refine zE ?_
 refine zE ?_
 refine Qv Xv rfl rfl (fun b_20=>?_)
 refine zh V7 ?_
 refine zA ?_
 refine zN (zR ?_)
 refine zM ?_
 refine zM ?_
 refine zV (Qq rfl ZW (fun hg=>by exact Cells.g4) rfl) ?_
 refine zM ?_
 refine Qp (ps:=[(0,_)]) (m:=[QP 2]) Za rfl (.cons rfl (.nil)) rfl (by simp [Qu]) (by decide) (by decide) rfl rfl (fun b_107=>?_)
 refine Z1 (b:=b_107) (by repeat (first | exact Zc.here | apply Zc.there)) (fun I16 hI16 h_107=>?_)
 have hDb:=hDb.mono hI16;have hEn:=hEn.mono hI16;have hWK:=hWK.mono hI16;have hT:=hT.mono hI16;have hy1:=hy1.mono hI16;have hy2:=hy2.mono hI16;have hy3:=hy3.mono hI16;have hPK:=hPK.mono hI16;have hwA:=hwA.mono hI16;have hzA:=hzA.mono hI16;have hwB:=hwB.mono hI16;have hzB:=hzB.mono hI16
 have hwC:=hwC.mono hI16;have hzC:=hzC.mono hI16;have hIc:=hIc.trans hI16
 have hv3:Sl I16 1 QP (some ⟨b_107,0,none⟩) 1 1 [2]:=Sl.lit ([2]:List Int) rfl Qu (show _=some (Obj.cells (([2]:List Int).flatMap QP).toArray 3 (0,0)) from h_107)
 refine QA (cap:=[]) (vs:=[_,_,_,_,_]) rfl rfl zpB .nil (zzJ (vs:=[2]) hWK hT hy1 hy2 hy3 hPK hv3 (by decide) hDb zxR zzc) rfl rfl ?_
 rintro vv17 I17 L17 hI17 ⟨rfl,taA,tcA,rfl,hprA⟩
 have hDb:=hDb.mono hI17;have hEn:=hEn.mono hI17;have hWK:=hWK.mono hI17;have hT:=hT.mono hI17;have hy1:=hy1.mono hI17;have hy2:=hy2.mono hI17;have hy3:=hy3.mono hI17;have hPK:=hPK.mono hI17;have hwA:=hwA.mono hI17;have hzA:=hzA.mono hI17;have hwB:=hwB.mono hI17;have hzB:=hzB.mono hI17
 have hwC:=hwC.mono hI17;have hzC:=hzC.mono hI17;have hIc:=hIc.trans hI17
 refine zM ?_
 refine zE ?_
 refine zE ?_
 refine zA ?_
 refine zA ?_
 refine zN (zR ?_)
 refine zM ?_
 refine zM ?_
 refine zV (Qq rfl ZW (fun hg=>by exact Cells.g4) rfl) ?_
 refine zM ?_
 refine QA (cap:=[]) (vs:=[_,_,_,_,_]) rfl rfl zpB .nil (zzJ (vs:=[]) hWK hT hy1 hy2 hy3 hPK .nil (by decide) hDb zxO zzs) rfl rfl ?_
 rintro vv18 I18 L18 hI18 ⟨rfl,taB,tcB,rfl,hprB⟩
 have hEn:=hEn.mono hI18;have hwA:=hwA.mono hI18;have hzA:=hzA.mono hI18;have hwB:=hwB.mono hI18;have hzB:=hzB.mono hI18;have hwC:=hwC.mono hI18;have hzC:=hzC.mono hI18;have hprA:=hprA.mono hI18;have hIc:=hIc.trans hI18
 refine zM ?_
 refine zE ?_
 refine zE ?_
 refine zA ?_
 refine zA (zN (Qk (zR ?_)))
 refine zM ?_
 refine zC ?_
 refine zM ?_
 refine QV 2 rfl rfl rfl ?_
 refine zJ (Qh rfl) ?_
 refine zJ (QI rfl rfl rfl) ?_
 refine Zs rfl rfl rfl rfl rfl ?_
 refine zM ?_
 refine QV 6 rfl rfl rfl ?_
 refine zJ (Qh rfl) ?_
 refine zJ (QI rfl rfl rfl) ?_
 refine Zs rfl rfl rfl rfl rfl ?_
 refine zM ?_
 refine QV 10 rfl rfl rfl ?_
 refine zJ (Qh rfl) ?_
 refine zJ (QI rfl rfl rfl) ?_
 refine Zs rfl rfl rfl rfl rfl ?_
 refine zM ?_
 refine QV 14 rfl rfl rfl ?_
 refine zJ (Qh rfl) ?_
 refine zJ (QI rfl rfl rfl) ?_
 refine Zs rfl rfl rfl rfl rfl ?_
 refine zM ?_
 refine QV 18 rfl rfl rfl ?_
 refine zJ (Qh rfl) ?_
 refine zJ (QI rfl rfl rfl) ?_
 refine Zs rfl rfl rfl rfl rfl ?_
 refine zM ?_
 refine QV 22 rfl rfl rfl ?_
 refine zJ (Qh rfl) ?_
 refine zJ (QI rfl rfl rfl) ?_
 refine Zs rfl rfl rfl rfl rfl ?_
 refine zM ?_
 refine QV 26 rfl rfl rfl ?_
 refine zJ (Qh rfl) ?_
 refine zJ (QI rfl rfl rfl) ?_
 refine Zs rfl rfl rfl rfl rfl ?_
 refine zM ?_
 refine QV 30 rfl rfl rfl ?_
 refine zJ (Qh rfl) ?_
 refine zJ (QI rfl rfl rfl) ?_
 refine Zs rfl rfl rfl rfl rfl ?_
 refine zM ?_
 refine QV 34 rfl rfl rfl ?_
 refine zJ (Qh rfl) ?_
 refine zJ (QI rfl rfl rfl) ?_
 refine Zs rfl rfl rfl rfl rfl ?_
 refine zM ?_
 refine QV 38 rfl rfl rfl ?_
 refine zJ (Qh rfl) ?_
 refine zJ (QI rfl rfl rfl) ?_
 refine Zs rfl rfl rfl rfl rfl ?_
 refine zM ?_
 refine QV 42 rfl rfl rfl ?_
 refine zJ (Qh rfl) ?_
 refine zJ (ZB rfl Us) ?_
 refine zJ (QI rfl rfl rfl) ?_
 refine Zs rfl rfl rfl rfl rfl ?_
 refine zN ?_
 refine zI ?_ ?_<;>intro hc165
 ·
  exact absurd hc165 (by decide)
 refine Qo (Qa (Qk (zR (zM ?_))))
 refine Qp (ps:=[(0,_),(1,_)]) (m:=[QP 0,QP 2]) Za rfl (.cons rfl (.cons rfl (.nil))) rfl (by simp [Qu]) (by decide) (by decide) rfl rfl (fun b_167=>?_)
 refine zV (QQ (ps:=[(0,_),(1,_)]) [_,_] zf1 rfl rfl) ?_
 refine Qp (ps:=[(0,_)]) (m:=[QP 1]) Za rfl (.cons rfl (.nil)) rfl (by simp [Qu]) (by decide) (by decide) rfl rfl (fun b_169=>?_)
 refine zV (QQ (ps:=[(0,_),(1,_)]) [_,_] zf1 rfl rfl) ?_
 refine Qp (ps:=[(0,_),(1,_)]) (m:=[Xs ⟨7,⟨some ⟨b_167,0,none⟩,2,2⟩⟩,Xs ⟨9,⟨some ⟨b_169,0,none⟩,1,1⟩⟩]) zbd rfl (.cons rfl (.cons rfl (.nil))) rfl (by simp [Zi]) (by decide) (by decide) rfl rfl (fun b_171=>?_)
 refine zV (QQ (ps:=[(1,_),(2,_)]) [_,_,_] zjQ rfl rfl) ?_
 refine Qp (ps:=[(0,_)]) (m:=[zad ⟨0,7,⟨some ⟨b_171,0,none⟩,2,2⟩⟩]) za8 rfl (.cons rfl (.nil)) rfl (by simp [Zh]) (by decide) (by decide) rfl rfl (fun b_173=>?_)
 refine Z1 (b:=b_167) (by repeat (first | exact Zc.here | apply Zc.there)) (fun I19 hI19 h_167=>?_)
 have hEn:=hEn.mono hI19;have hwA:=hwA.mono hI19;have hzA:=hzA.mono hI19;have hwB:=hwB.mono hI19;have hzB:=hzB.mono hI19;have hwC:=hwC.mono hI19;have hzC:=hzC.mono hI19;have hprA:=hprA.mono hI19;have hIc:=hIc.trans hI19
 refine Z1 (b:=b_169) (by repeat (first | exact Zc.here | apply Zc.there)) (fun I20 hI20 h_169=>?_)
 have hEn:=hEn.mono hI20;have hwA:=hwA.mono hI20;have hzA:=hzA.mono hI20;have hwB:=hwB.mono hI20;have hzB:=hzB.mono hI20;have hwC:=hwC.mono hI20;have hzC:=hzC.mono hI20;have hprA:=hprA.mono hI20;have hIc:=hIc.trans hI20
 have h_167:=hI20 _ _ h_167
 refine Z1 (b:=b_171) (by repeat (first | exact Zc.here | apply Zc.there)) (fun I21 hI21 h_171=>?_)
 have hEn:=hEn.mono hI21;have hwA:=hwA.mono hI21;have hzA:=hzA.mono hI21;have hwB:=hwB.mono hI21;have hzB:=hzB.mono hI21;have hwC:=hwC.mono hI21;have hzC:=hzC.mono hI21;have hprA:=hprA.mono hI21;have hIc:=hIc.trans hI21
 have h_167:=hI21 _ _ h_167
 have h_169:=hI21 _ _ h_169
 refine Z1 (b:=b_173) (by repeat (first | exact Zc.here | apply Zc.there)) (fun I22 hI22 h_173=>?_)
 have hEn:=hEn.mono hI22;have hwA:=hwA.mono hI22;have hzA:=hzA.mono hI22;have hwB:=hwB.mono hI22;have hzB:=hzB.mono hI22;have hwC:=hwC.mono hI22;have hzC:=hzC.mono hI22;have hprA:=hprA.mono hI22;have hIc:=hIc.trans hI22
 have h_167:=hI22 _ _ h_167
 have h_169:=hI22 _ _ h_169
 have h_171:=hI22 _ _ h_171
 have hOE:=zsw h_167 h_169 h_171 h_173
 refine qc (vs:=[_,_]) rfl zpL (zqr hEn hOE) ?_
 refine zO ?_
 refine zM ?_
 refine QS (dj:=176) rfl rfl rfl ?_
 refine zM ?_
 refine QS (dj:=176) rfl rfl rfl ?_
 refine zV (ZC (ps:=[(0,_),(1,_)]) [_,_] Y1 KI rfl rfl) ?_
 refine QS (dj:=176) rfl rfl rfl ?_
 refine Qp (ps:=[(0,_)]) (m:=[V9 ((0:Int),(5:Int))]) Kh rfl (.cons rfl (.nil)) rfl (by simp [V9]) (by decide) (by decide) rfl rfl (fun b_179=>?_)
 refine Z1 (b:=b_179) (by repeat (first | exact Zc.here | apply Zc.there)) (fun I23 hI23 h_179=>?_)
 have hwA:=hwA.mono hI23;have hzA:=hzA.mono hI23;have hwB:=hwB.mono hI23;have hzB:=hzB.mono hI23;have hwC:=hwC.mono hI23;have hzC:=hzC.mono hI23;have hprA:=hprA.mono hI23;have hIc:=hIc.trans hI23
 have hOP:Sl I23 2 V9 (some ⟨b_179,0,none⟩) 1 1 [((0:Int),(5:Int))]:=Sl.lit _ rfl (fun _=>rfl) h_179
 refine QS (dj:=176) rfl rfl rfl ?_
 refine qc (vs:=[_,_]) rfl zxN (zrD hprA hOP (by decide)) ?_
 refine QS (dj:=176) rfl rfl rfl ?_
 refine zO ?_
 refine zV (ZR rfl rfl rfl) ?_
 refine zN ?_
 refine zI ?_ ?_<;>intro hc182
 ·
  exact absurd hc182 (by decide)
 refine Qo (Qa (zR ?_))
 refine zV (Qq rfl Vi (fun hg=>by exact Cells.g3) rfl) ?_
 refine Qp (ps:=[(0,_)]) (m:=[QP 2]) Za rfl (.cons rfl (.nil)) rfl (by simp [Qu]) (by decide) (by decide) rfl rfl (fun b_184=>?_)
 refine zV (QQ (ps:=[(0,_),(3,_)]) [_,_,_,_] zaA rfl rfl) ?_
 refine Z1 (b:=b_184) (by repeat (first | exact Zc.here | apply Zc.there)) (fun I24 hI24 h_184=>?_)
 have hwA:=hwA.mono hI24;have hzA:=hzA.mono hI24;have hwB:=hwB.mono hI24;have hzB:=hzB.mono hI24;have hwC:=hwC.mono hI24;have hzC:=hzC.mono hI24;have hIc:=hIc.trans hI24
 have hv4:Sl I24 1 QP (some ⟨b_184,0,none⟩) 1 1 [2]:=Sl.lit ([2]:List Int) rfl Qu (show _=some (Obj.cells (([2]:List Int).flatMap QP).toArray 3 (0,0)) from h_184)
 refine qc (vs:=[_,_]) rfl ziU (zev hwA hzA .nil hv4 (by rw [←hwA.len];decide) (by rw [←hzA.len];decide)) ?_
 refine zM ?_
 refine QS (dj:=187) rfl rfl rfl ?_
 refine zV (Qq rfl Vi (fun hg=>by exact Cells.g2) rfl) ?_
 refine QS (dj:=187) rfl rfl rfl ?_
 refine Qp (ps:=[(0,_)]) (m:=[QP 0]) Za rfl (.cons rfl (.nil)) rfl (by simp [Qu]) (by decide) (by decide) rfl rfl (fun b_189=>?_)
 refine QS (dj:=187) rfl rfl rfl ?_
 refine zV (QQ (ps:=[(0,_),(2,_)]) [_,_,_,_] zaA rfl rfl) ?_
 refine Z1 (b:=b_189) (by repeat (first | exact Zc.here | apply Zc.there)) (fun I25 hI25 h_189=>?_)
 have hwB:=hwB.mono hI25;have hzB:=hzB.mono hI25;have hwC:=hwC.mono hI25;have hzC:=hzC.mono hI25;have hIc:=hIc.trans hI25
 have hv5:Sl I25 1 QP (some ⟨b_189,0,none⟩) 1 1 [0]:=Sl.lit ([0]:List Int) rfl Qu (show _=some (Obj.cells (([0]:List Int).flatMap QP).toArray 3 (0,0)) from h_189)
 refine QS (dj:=187) rfl rfl rfl ?_
 refine qc (vs:=[_,_]) rfl ziU (zev hwB hzB hv5 .nil (by rw [←hwB.len];decide) (by rw [←hzB.len];decide)) ?_
 refine zV (ZR rfl rfl rfl) ?_
 refine zM ?_
 refine QS (dj:=193) rfl rfl rfl ?_
 refine zV (Qq rfl Vi (fun hg=>by exact Cells.g1) rfl) ?_
 refine QS (dj:=193) rfl rfl rfl ?_
 refine Qp (ps:=[(0,_)]) (m:=[QP 0]) Za rfl (.cons rfl (.nil)) rfl (by simp [Qu]) (by decide) (by decide) rfl rfl (fun b_195=>?_)
 refine QS (dj:=193) rfl rfl rfl ?_
 refine zV (QQ (ps:=[(0,_),(2,_)]) [_,_,_,_] zaA rfl rfl) ?_
 refine Z1 (b:=b_195) (by repeat (first | exact Zc.here | apply Zc.there)) (fun I26 hI26 h_195=>?_)
 have hwC:=hwC.mono hI26;have hzC:=hzC.mono hI26;have hIc:=hIc.trans hI26
 have hv6:Sl I26 1 QP (some ⟨b_195,0,none⟩) 1 1 [0]:=Sl.lit ([0]:List Int) rfl Qu (show _=some (Obj.cells (([0]:List Int).flatMap QP).toArray 3 (0,0)) from h_195)
 refine QS (dj:=193) rfl rfl rfl ?_
 refine qc (vs:=[_,_]) rfl ziU (zev hwC hzC hv6 .nil (by rw [←hwC.len];decide) (by rw [←hzC.len];decide)) ?_
 refine zV (ZR rfl rfl rfl) ?_
 refine zA (zN (Qs ?_))
 exact zp hIc rfl rfl (by rfl)
end
section
open Go Go.Kn Go.Proofs
theorem ztx {I:Qw}:SlW I none 0 0 []:=⟨[],.nil,rfl,fun k w x h=>by simp at h⟩
theorem zp3 {I:Qw}:SlP I none 0 0 []:=⟨.nil,fun p hp=>by cases hp⟩
theorem zi3 {rows:List (List Int)}{rd:List Int}:∀ k,(zfS rows rd k).length≤k
 | 0=>Nat.le_refl _
 | k+1=>by
  rw [X3,List.length_append]
  have:=zi3 (rows:=rows) (rd:=rd) k
  have h2:(zs8 rows rd k).length≤1:=by unfold zs8;split<;>simp
  omega
theorem zmg {e:Int}{rows:List (List Int)}{rd:List Int}:(zoL e rows rd).length≤rd.length:=by
 unfold zoL;split
 ·
  exact Nat.zero_le _
 ·
  exact zi3 _
theorem zgz {rows:List (List Int)}{q:Nat}:∀ (m:Nat) (o:Option Int),(zmu rows q m o).length≤m∧∀ u∈zmu rows q m o,u.ws.length≤rows.length
 | m,none=>by cases m<;>exact ⟨Nat.zero_le _,fun u hu=>by cases hu⟩
 | 0,some _=>⟨Nat.le_refl _,fun u hu=>by cases hu⟩
 | m+1,some c=>by
  have ih:=zgz (rows:=rows) (q:=q) m (zbG rows q c)
  rw [zaM]
  refine ⟨by rw [List.length_cons];omega,fun u hu=>?_⟩
  rcases List.mem_cons.1 hu with rfl | hu
  ·
   exact zeP
  ·
   exact ih.2 u hu
theorem zmi {e:Int}{rows:List (List Int)}{rd:List Int}(hr:rows.length≤100000):∀ v∈zoL e rows rd,v.vs.length≤100000∧∀ u∈v.vs,u.ws.length≤100000:=by
 intro v hv
 unfold zoL at hv
 split at hv
 ·
  cases hv
 ·
  unfold zfS at hv
  obtain ⟨k,_,hk⟩:=List.mem_flatMap.1 hv
  unfold zs8 at hk
  split at hk
  ·
   rw [List.mem_singleton] at hk
   subst hk
   have h:=zgz (rows:=rows) (q:=k) rows.length (zbG rows k (-1))
   exact ⟨Nat.le_trans h.1 hr,fun u hu=>Nat.le_trans (h.2 u hu) hr⟩
  ·
   cases hk
end
section
open Go Go.Kn Go.Proofs
theorem zvR:Fun Tryz.prog 10:=.of Tryz.func10 (by kernel_rfl) (by kernel_rfl)
theorem zuz:Fun Tryz.prog 12:=.of Tryz.func12 (by kernel_rfl) (by kernel_rfl)
theorem zzq:Fun Tryz.prog 9:=.of Tryz.func9 (by kernel_rfl) (by kernel_rfl)
theorem w_lSpec {I:Qw}{bv:Option Addr}{n2 c2:Nat}{rows:List (List Int)}(hVn:SlN I bv n2 c2 rows){ea1:Option Addr}{en1 ec1:Nat}{ea2:Option Addr}{en2 ec2:Nat}{ea3:Option Addr}{en3 ec3:Nat}{xs:List Int}{es:List Em}{rd:List Int}(hX1:Sl I 1 QP ea1 en1 ec1 xs)(hX2:Sl I 3 Yo ea2 en2 ec2 es)(hX3:Sl I 1 QP ea3 en3 ec3 rd)(no:Int)(hDb:V5 I):Zu Tryz.prog 3 [.slice bv n2 c2,.agg (ZT no ea1 en1 ec1 ea2 en2 ec2 ea3 en3 ec3).toArray] I (.bool true):=by
 intro g H w hw
 refine qe Tryz.func3 Tryz.ntmps3 hw ?_
 have hIc:=zAl I
 have hVl:=hVn.len
 have hX1l:=hX1.len
 have hX2l:=hX2.len
 have hX3l:=hX3.len
 refine zR ?_
 refine Q9 rfl rfl rfl (fun b_3=>?_)
 refine zA (zN (Qk (zR ?_)))
 refine qc (vs:=[]) rfl zzq (zw5 hDb) ?_
 refine zO (zN ?_)
 refine zI ?_ ?_<;>intro hc10
 ·
  cases hc10
 refine Qo (Qa (Qk (zR (zM ?_))))
 refine zV (Qq rfl ZW (fun hg=>by exact Cells.g0) rfl) ?_
 refine qc (vs:=[_,_,_,_,_]) rfl zvR (zrR ztx (by decide) hVn hX1 hX2 hX3 no zp3 (.nil:Sl _ 1 QP none 0 0 [])) ?_
 refine zO (zN ?_)
 refine zI ?_ ?_<;>intro hc14
 ·
  refine zR (zA (zN (Qs (Qb ?_))))
  exact zp hIc rfl rfl (by rfl)
 have hfew:zdb [] rows xs es rd [] []=true:=zjD hc14
 obtain ⟨g1,g2,g3,g4,g5,g6,g7,g8,g9,g10⟩:=ztH hfew
 refine Qo (Qa (zR (zM ?_)))
 refine zV (Qq rfl ZW (fun hg=>by exact Cells.g0) rfl) ?_
 refine QA (cap:=[]) (vs:=[_,_]) rfl rfl zlE .nil (zaJ hVn (by omega) hX1 hX2 hX3 (by omega) (by omega) (by omega) no hDb) rfl rfl ?_
 rintro vv1 I1 L1 hI1 ⟨rfl,ea,en,ec,rfl,hE1⟩
 have hVn:=hVn.mono hI1;have hX1:=hX1.mono hI1;have hX2:=hX2.mono hI1;have hX3:=hX3.mono hI1;have hIc:=hIc.trans hI1
 refine zM ?_
 refine zE ?_
 refine zE ?_
 refine zA ?_
 refine zA ?_
 refine zN (zR ?_)
 refine zM ?_
 refine zV (Qq rfl ZW (fun hg=>by exact Cells.g0) rfl) ?_
 refine QA (cap:=[]) (vs:=[_,_]) rfl rfl zuz .nil (zzb hVn (by omega) hX1 hX2 hX3 (by omega) (by omega) (by omega) no) rfl rfl ?_
 rintro vv2 I2 L2 hI2 ⟨rfl,fa,fn,fc,rfl,hE2⟩
 have hE1:=hE1.mono hI2;have hIc:=hIc.trans hI2
 refine zM ?_
 refine zE ?_
 refine zE ?_
 refine zA ?_
 refine zA ?_
 refine zN (zR ?_)
 refine zM ?_
 refine zM ?_
 refine qc (vs:=[_,_]) rfl zpL (zgS hE1 hE2 (by have:=zmg (e:=UA rows no xs es rd) (rows:=rows) (rd:=rd);rw [hE1.len] at this;omega) (zmi (by omega))) ?_
 refine zM ?_
 refine QG 3 rfl rfl rfl ?_
 refine zK (Qh rfl) ?_
 refine zK (Qh rfl) ?_
 refine zK (QI rfl rfl rfl) ?_
 refine QL rfl rfl rfl rfl rfl ?_
 refine zA (zN (Qs ?_))
 first
 | exact zp hIc rfl rfl (by rw [XM zfh];simp)
end
end Go.Proofs.YtodakphagkommaaGreatDoor.R
namespace Go.Kn
section
open Go Go.ChangeShapes Go.WideShapes Go.ChangeAt Go.RowKit
def Ux (W:World):Qw:=fun b=>W.heap[b]?
theorem St.start (W:World):St W (Ux W) (fun _=>none) [] W:=
 ⟨rfl,rfl,rfl,⟨Nat.le_refl _,Nat.le_refl _⟩,fun _ _ h=>h,(fun _ _ h=>by cases h),(fun _ _ h=>by cases h),fun _=>.inr rfl,(fun _ _ h=>by cases h),by simp⟩
theorem St.below {W w:World}{H:Qw}{loc:Loc}(h:St W (Ux W) H loc w):Below W.heap.size W w:=
 ⟨h.os,h.tape,h.out,h.size.1,fun k hk=>by
  have e:W.heap[k]? =some W.heap[k]:=Array.getElem?_eq_getElem hk
  rw [h.imm k _ e,e]⟩
theorem Zu.law {P:Program}{f:FuncId}{args:List Value}{W:World}{v:Value}(h:Zu P f args (Ux W) v):Calls P f args.toArray W fun e w'=>e= .returned v∧Below W.heap.size W w':=
 (h W _ W (St.start W)).mono fun _ _ ⟨he,hs⟩=>⟨he,hs.below⟩
theorem zbE {W w:World}{may:MemPlace→Prop}(h:Below W.heap.size W w):W.keptBut w may:=by
 refine ⟨h.os,h.output,fun i hi=>?_⟩
 rw [h.block i hi]
 rw [Array.getElem?_eq_getElem hi]
 cases W.heap[i]<;>simp
theorem Wi {H:Type}{enc:TypeId×Value→H}{P:Program}{W W':World}(hl:laidOutB P=true)(hB:Below W.heap.size W W')(sp:Nat→Bool):∀ (ts:List TypeId) (vs:List Value) (ds:List (DataW H)) (ps:List MemPlace),(∀ t∈ts,P.readableRec t=true∧t<P.types.size)→
  DataW.TrodAll enc P W 0 (fun _=>true) true ts vs ds ps→(∀ x∈ps,x.block<W.heap.size∧sp x.block=true)→DataW.TrodAll enc P W' 0 sp true ts vs ds ps
 | [],[],[],ps,_,h,_=>h
 | t::ts,v::vs,d::ds,ps,hr,⟨p,q,h1,h2,e⟩,hlt=>by
  subst e
  exact ⟨p,q,WideElems.Trod_stays hl (hr t (List.mem_cons_self ..)).1 (hr t (List.mem_cons_self ..)).2 h1 (fun x hx=>hB.same (hlt x (List.mem_append_left _ hx)).1) (fun x hx=>(hlt x (List.mem_append_left _ hx)).2),
   Wi hl hB sp ts vs ds q (fun t ht=>hr t (List.mem_cons_of_mem _ ht)) h2 (fun x hx=>hlt x (List.mem_append_right _ hx)),rfl⟩
theorem zmh {H:Type}{enc:TypeId×Value→H}{P:Program}{f:Func}{s:ChangeSpec}{again:Bool}{W W':World}{args:Array Value}{ds:List (DataW H)}{before:List MemPlace}{tb:TypeId}
  (hl:laidOutB P=true)(hr:f.resultTypes= #[tb])(hb:P.underlying tb=some .bool)(hv:s.vars=[])(hs:(s.fn H (ds++[]))= {results:=[.lit (.bool true)],args:=ds})(hrd:∀ t∈f.params.toList,P.readableRec t=true∧t<P.types.size)
  (hW:DataW.Whole enc P f.params.toList s.vars false W args.toList ds [] before)(hB:Below W.heap.size W W'):s.post enc P f false true false again W args (.bool true) W':=by
 have hlt:∀ x∈before,x.block<W.heap.size:=fun x hx=>by simpa using hW.lt x hx
 have hW0:=hW
 obtain ⟨p,q,hA,hV,rfl,hfz,_⟩:=hW
 rw [hv] at hV
 obtain ⟨_,rfl⟩:=trodVars_none hV
 rw [List.append_nil] at hlt hfz hW0
 have hres:∀ (b:Nat) (sp:Nat→Bool) (hd:Bool),DataW.TrodAll enc P W' b sp hd f.resultTypes.toList ((Value.bool true).resultList f.resultTypes.size) [.lit (.bool true)] []:=fun b sp hd=>by
  rw [hr];exact trodAll_mk1 (shut_bool hb true)
 have hargs:∀ sp:Nat→Bool,(∀ x∈p,sp x.block=true)→DataW.TrodAll enc P W' 0 sp true f.params.toList args.toList ds p:=fun sp h=>Wi hl hB sp _ _ _ _ hrd hA (fun x hx=>⟨hlt x hx,h x hx⟩)
 have hnil:∀ sp:Nat→Bool,DataW.TrodVars enc P W' sp s.vars [] []:=fun sp=>by rw [hv];rfl
 refine ⟨ds,[],p,[],p,[],hW0,?_,?_,?_,zbE hB,fun _=>?_⟩
 ·
  rw [hs];exact hres _ _ _
 ·
  rw [hs];exact hargs _ (fun x hx=>by simpa using hlt x hx)
 ·
  rw [hs];exact hnil _
 ·
  refine ⟨fun j t r ht hr'=>?_,[.lit (.bool true)]++ds,[],[]++p,⟨[]++p,[],trodAll_append (hargs _ (fun _ _=>rfl)) (hres _ _ _),hnil _,by simp,?_,fun h=>by cases h⟩,fun x hx _=>by simpa using hx⟩
  ·
   rw [hr] at ht hr'
   cases j with
   | zero=>simp [Value.resultList] at ht hr';subst ht;subst hr';exact okWide_bool_mk hb _
   | succ j=>simp at ht
  ·
   intro b off hx
   rw [hB.frozen (hlt _ (by simpa using hx))]
   exact hfz b off (by simpa using hx)
theorem zde {W:World}{b o:Nat}{u:Value}(h:W.cell? ⟨b,o,none⟩=some u):QY (Ux W) [] b o u:=by
 unfold World.cell? at h
 split at h
 ·
  rename_i c t fz hb
  simp only [Option.isSome_none,Bool.false_eq_true,if_false] at h
  exact ⟨c,t,fz,.inl hb,h⟩
 ·
  cases h
theorem U6 {H:Type}{enc:TypeId×Value→H}{P:Program}{W:World}{t e:TypeId}{size fuel0:Nat}{cs:List Value}{x0:DataW H×List MemPlace}{α:Type}(enc':α→List Value)(ok:α→Prop)
  (ht:P.underlying t=some (.slice e))(hc:P.cellsOf e=size)(hpos:0<size)(hlen:∀ y,(enc' y).length=size)
  (hel:∀ fuel cs x,DataW.trod enc P W 0 (fun _=>true) true fuel e cs=some x→∃ y,ok y∧enc' y=cs)
  (hf':DataW.trod enc P W 0 (fun _=>true) true fuel0 t cs=some x0):∃ av n c xs,cs=[.slice av n c]∧Sl (Ux W) size enc' av n c xs∧(∀ x∈xs,ok x)∧c≤maxLen:=by
 rcases Go.Deep.open_slice ht hf' with ⟨e1,_⟩ | ⟨a,len0,cap0,m,n,D,Pl,e1,hb,hl,hm,hmm,_,hx⟩
 ·
  subst e1
  exact ⟨none,0,0,[],rfl,.nil,(fun x hx=>by cases hx),Nat.zero_le _⟩
 ·
  subst e1
  have hlm:len0≤m:=by rw [hmm];simp;exact hl
  have each:∀ i,i<len0→∃ y,ok y∧W.cells? 0 (a.add (i*size)) size=some (enc' y):=fun i hi=>by
   obtain ⟨cs',h1,h2⟩:=hx i (by omega)
   obtain ⟨y,hy,e⟩:=hel _ _ _ h2
   rw [hc] at h1
   exact ⟨y,hy,by rw [h1,e]⟩
  have all:∀ k,k≤len0→∃ xs:List α,xs.length=k∧∀ i x,xs[i]? =some x→ok x∧W.cells? 0 (a.add (i*size)) size=some (enc' x):=by
   intro k
   induction k with
   | zero=>intro _;exact ⟨[],rfl,fun i x h=>by simp at h⟩
   | succ k ih=>
    intro hk
    obtain ⟨xs,hl',hxs⟩:=ih (by omega)
    obtain ⟨y,hy,hcy⟩:=each k (by omega)
    refine ⟨xs++[y],by simp [hl'],fun i x h=>?_⟩
    by_cases hi:i<xs.length
    ·
     rw [List.getElem?_append_left hi] at h;exact hxs i x h
    ·
     rw [List.getElem?_append_right (by omega)] at h
     have:i=k:=by have:=(List.getElem?_eq_some_iff.1 h).1;simp at this;omega
     subst this
     rw [hl'] at h;simp at h;subst h
     exact ⟨hy,hcy⟩
  obtain ⟨xs,hl',hxs⟩:=all len0 (Nat.le_refl _)
  have add0:∀ (b o n:Nat),(⟨b,o,none⟩:Addr).add n=⟨b,o+n,none⟩:=fun b o n=>by
   unfold Addr.add
   split
   ·
    rename_i e;subst e;rfl
   ·
    rfl
  have hspot:0<xs.length→a.spot=none:=fun hx=>by
   have hx0:xs[0]? =some xs[0]:=List.getElem?_eq_getElem hx
   have hp0:0<(enc' xs[0]).length:=by rw [hlen];exact hpos
   obtain ⟨_,h1,h2⟩:=World.cells?_some (hxs 0 _ hx0).2
   have h3:=h2 0 hpos
   rw [List.getElem?_eq_getElem hp0] at h3
   simpa [Addr.add] using World.cell?_spot h3
  have cellat:∀ i x,xs[i]? =some x→∀ j u,(enc' x)[j]? =some u→W.cell? ⟨a.block,a.off+i*size+j,none⟩=some u:=fun i x hx j u hu=>by
   obtain ⟨_,h1,h2⟩:=World.cells?_some (hxs i x hx).2
   have hj:j<size:=by rw [←hlen x];exact (List.getElem?_eq_some_iff.1 hu).1
   have h3:=h2 j hj
   rw [hu] at h3
   have hsp:=hspot (by have:=(List.getElem?_eq_some_iff.1 hx).1;omega)
   obtain ⟨b,o,sp⟩:=a
   simp only at hsp
   subst hsp
   rw [add0,add0] at h3
   exact h3
  refine ⟨some a,len0,cap0,xs,rfl,⟨hl',hl,fun hn=>?_,fun k x hx j u hu=>?_⟩,fun x hx=>?_,hm⟩
  ·
   have:=hspot (by omega)
   obtain ⟨b,o,sp⟩:=a
   simp only at this
   subst this;rfl
  ·
   exact zde (cellat k x hx j u hu)
  ·
   obtain ⟨i,hi⟩:=List.getElem?_of_mem hx
   exact (hxs i x hi).1
theorem zre {H:Type}{enc:TypeId×Value→H}{P:Program}{W:World}{base:Nat}{t e:TypeId}{size:Nat}{v:Value}{d:DataW H}{p:List MemPlace}{α:Type}(enc':α→List Value)(ok:α→Prop)
  (ht:P.underlying t=some (.slice e))(hc:P.cellsOf e=size)(hpos:0<size)(hlen:∀ y,(enc' y).length=size)
  (hel:∀ fuel cs x,DataW.trod enc P W 0 (fun _=>true) true fuel e cs=some x→∃ y,ok y∧enc' y=cs)
  (hv:Value.okWide P W .any base t v)(h:DataW.Trod enc P W 0 (fun _=>true) true t v d p):∃ av n c xs,v= .slice av n c∧Sl (Ux W) size enc' av n c xs∧(∀ x∈xs,ok x)∧c≤maxLen:=by
 obtain ⟨a0,len0,cap0,rfl⟩:=okWide_slice ht hv
 obtain ⟨fuel,hf⟩:=h
 obtain ⟨av,n,c,xs,e,h1,h2,h3⟩:=U6 enc' ok ht hc hpos hlen hel (cs:=[.slice a0 len0 cap0]) (by simpa [Value.cells] using hf)
 cases e
 exact ⟨_,_,_,xs,rfl,h1,h2,h3⟩
theorem ziY {H:Type}{enc:TypeId×Value→H}{P:Program}{W:World}{e:TypeId}{k:IntKind}(he:P.underlying e=some (.int k))(hk:k= .i64)(fuel:Nat)(cs:List Value)(x:DataW H×List MemPlace)(h:DataW.trod enc P W 0 (fun _=>true) true fuel e cs=some x):
  ∃ y:Int,(-9223372036854775808≤y∧y≤9223372036854775807)∧[Value.int .i64 y]=cs:=by
 subst hk
 obtain ⟨v,hv⟩:∃ v,cs=[v]:=by
  have:=h
  cases fuel with
  | zero=>simp [DataW.trod] at this
  | succ m=>unfold DataW.trod at this;rw [he] at this;split at this<;>simp_all
 subst hv
 obtain ⟨n,e,_,w⟩:=DataW.trod_int he h
 cases e
 simp only [Lit.wf,Bool.and_eq_true,decide_eq_true_eq] at w
 exact ⟨n,w,rfl⟩
end
section
open Go
theorem zgf {H:Type}{enc:TypeId×Value→H}{P:Program}{W:World}{base:Nat}{spare:Nat→Bool}{held:Bool}{t C:Nat}{fs:Array Field}{fuel:Nat}{cs:List Value}{x:DataW H×List MemPlace}(hs:P.underlying t=some (.struct fs))
  (hC:P.cellsOf t=C)(h:DataW.trod enc P W base spare held fuel t cs=some x):
  cs.length=C∧∃ n,∀ (i ty off k:Nat),((fs[i]?).map fun f=>(f.type,f.offset))=some (ty,off)→P.cellsOf ty=k→∃ y,DataW.trod enc P W base spare held n ty ((cs.drop off).take k)=some y:=by
 obtain ⟨xs,n,_,_,hl,hxl,hf⟩:=DataW.trod_struct hs h
 refine ⟨hl.trans hC,n,fun i ty off k hi hk=>?_⟩
 obtain ⟨f,hfi,e⟩:=Option.map_eq_some_iff.1 hi
 cases e
 have g:=hf i f hfi
 have hix:i<xs.length:=by rw [hxl];exact (Array.getElem?_eq_some_iff.1 hfi).1
 rw [hk,List.getElem?_eq_getElem hix] at g
 exact ⟨_,g⟩
end
end Go.Kn
namespace Go.Proofs.YtodakphagkommaaGreatDoor
section
open Go Go.Kn Go.Proofs
open Go.ChangeShapes Go.WideShapes Go.ChangeAt Go.RowKit
set_option maxRecDepth 100000
theorem zat:Tryz.prog.underlying 3=some (.int .i64):=by kernel_rfl
theorem zuc:Tryz.prog.underlying 4=some .bool:=by kernel_rfl
theorem zu9:Tryz.prog.underlying 5=some (.int .u8):=by kernel_rfl
theorem zuR {I:Qw}:∀ (hs:List Hd),(∀ h∈hs,∃ v,Sl I 1 QP h.a h.n h.c v)→∃ vss,zcp I hs vss
 | [],_=>⟨[],zcp.nil⟩
 | x::hs,H=>by
  obtain ⟨vss,hl,hv⟩:=zuR hs fun h hh=>H h (List.mem_cons_of_mem _ hh)
  obtain ⟨v0,h0⟩:=H x (List.mem_cons_self ..)
  refine ⟨v0::vss,by simp [hl],fun k h v a b=>?_⟩
  cases k with
  | zero=>cases a;cases b;exact h0
  | succ k=>exact hv k h v a b
theorem zkw {H:Type}{enc:TypeId×Value→H}{W:World}{base:Nat}{v:Value}{d:DataW H}{p:List MemPlace}(hv:Value.okWide Tryz.prog W .any base 22 v)(h:DataW.Trod enc Tryz.prog W 0 (fun _=>true) true 22 v d p):
  ∃ av n c vss,v= .slice av n c∧SlN (Ux W) av n c vss∧n≤9223372036854775807:=by
 obtain ⟨av,n,c,hs,e,hS,hok,hm⟩:=zre (e:=23) WL (fun h=>∃ v,Sl (Ux W) 1 QP h.a h.n h.c v) (by kernel_rfl) (by kernel_rfl) (by decide) Zb (fun fuel cs x h=>by
  obtain ⟨a,m,q,ys,e,hT,_⟩:=U6 (t:=23) (e:=3) QP (fun _=>True) (by kernel_rfl) (by kernel_rfl) (by decide) Qu (fun fuel cs x h=>by
   obtain ⟨y,_,e⟩:=ziY zat rfl fuel cs x h
   exact ⟨y,trivial,e⟩) h
  exact ⟨⟨a,m,q⟩,⟨ys,hT⟩,e.symm⟩) hv h
 obtain ⟨vss,hr⟩:=zuR hs hok
 exact ⟨av,n,c,vss,e,⟨hs,hS,hr⟩,by have:=hS.cap;simp only [maxLen] at hm;omega⟩
def zjl:List (String×DataW Unit):=[("math/bits.deBruijn32tab",Rows.laid_math_bits_deBruijn32tab),("math/bits.deBruijn64tab",Rows.laid_math_bits_deBruijn64tab)]
theorem zz5:Tryz.prog.globalNamed "math/bits.deBruijn64tab" =some 1:=by kernel_rfl
theorem zz8:(Tryz.prog.globals[1]?).map (·.type)=some 290:=by kernel_rfl
theorem zwT:(Rows.laid_math_bits_deBruijn64tab:DataW Unit)=Lib.tabData .u8 zqV:=by rfl
theorem zvo {W:World}(h:laidMetH Tryz.prog zjl W):V5 (Ux W):=by
 rw [MakeChecks.laidMetH_plain _ _ _ (by kernel_rfl)] at h
 obtain ⟨ps,⟨g0,t0,cs0,f0,p0,q0,hg0,ht0,hv0,hd0,⟨g1,t1,cs1,f1,p1,q1,hg1,ht1,hv1,hd1,_,_⟩,_⟩,_,_⟩:=h
 obtain rfl:=Option.some.inj (zz5.symm.trans hg1)
 obtain rfl:=Option.some.inj (zz8.symm.trans ht1)
 rw [zwT] at hd1
 have hcs:=Lib.cells_of_tab (n:=64) (e:=5) (by kernel_rfl) zu9 (by kernel_rfl) (by kernel_rfl) hd1
 intro i hi
 refine zde ?_
 have:=World.var?_cell hg1 hv1 i
 rw [this]
 have hl:i<zqV.length:=hi
 have e:cs1=(zqV.map fun z=>Value.int .u8 z).toArray:=Array.ext' hcs
 rw [e]
 simp [List.getD,hl]
theorem znG (os:Os)(args:Array Value):laidMetH Tryz.prog zjl ((World.doorLaid Tryz.prog 400 os).forCall (fun _ _=>0) ⟨#[],args,[]⟩).memory:=
 laidMetH_of_parts3 (fuel:=8) (laidMet_of_run' 8 (by kernel_rfl) (by kernel_rfl)) (by kernel_rfl) (by kernel_rfl)
end
section
open Go Go.Kn Go.Proofs
open Go.ChangeShapes Go.WideShapes Go.ChangeAt Go.RowKit
set_option maxRecDepth 100000
theorem zsc:Tryz.prog.underlying 67=some (.struct (Tryz.prog.fieldsOf 67)):=by kernel_rfl
theorem zrZ:Tryz.prog.underlying 24=some (.slice 67):=by kernel_rfl
theorem zex:Tryz.prog.underlying 23=some (.slice 3):=by kernel_rfl
theorem zli:Tryz.prog.underlying 26=some (.struct (Tryz.prog.fieldsOf 26)):=by kernel_rfl
theorem zyl {H:Type}{enc:TypeId×Value→H}{W:World}(fuel:Nat)(cs:List Value)(x:DataW H×List MemPlace)(h:DataW.trod enc Tryz.prog W 0 (fun _=>true) true fuel 67 cs=some x):∃ y:Em,(fun _=>True) y∧Yo y=cs:=by
 obtain ⟨hl,n0_,f0⟩:=zgf (C:=3) zsc (by kernel_rfl) h
 match cs,hl with
 | [c0,c1,c2],_=>
  obtain ⟨_,g0_0⟩:=f0 0 3 0 1 (by kernel_rfl) (by kernel_rfl)
  obtain ⟨n0,e0,_,w0⟩:=DataW.trod_int zat (show DataW.trod enc Tryz.prog W 0 (fun _=>true) true n0_ 3 [c0]=some _ from g0_0)
  obtain ⟨_,g0_1⟩:=f0 1 3 1 1 (by kernel_rfl) (by kernel_rfl)
  obtain ⟨n1,e1,_,w1⟩:=DataW.trod_int zat (show DataW.trod enc Tryz.prog W 0 (fun _=>true) true n0_ 3 [c1]=some _ from g0_1)
  obtain ⟨_,g0_2⟩:=f0 2 3 2 1 (by kernel_rfl) (by kernel_rfl)
  obtain ⟨n2,e2,_,w2⟩:=DataW.trod_int zat (show DataW.trod enc Tryz.prog W 0 (fun _=>true) true n0_ 3 [c2]=some _ from g0_2)
  cases e0;cases e1;cases e2
  exact ⟨⟨n0,n1,n2⟩,trivial,rfl⟩
structure EdS where
 no:Int
 a1:Option Addr
 n1:Nat
 c1:Nat
 a2:Option Addr
 n2:Nat
 c2:Nat
 a3:Option Addr
 n3:Nat
 c3:Nat
def zv5 (e:EdS):List Value:=ZT e.no e.a1 e.n1 e.c1 e.a2 e.n2 e.c2 e.a3 e.n3 e.c3
def zwy (e:EdS):Value:=.agg (zv5 e).toArray
theorem zyI {H:Type}{enc:TypeId×Value→H}{W:World}(fuel:Nat)(cs:List Value)(x:DataW H×List MemPlace)(h:DataW.trod enc Tryz.prog W 0 (fun _=>true) true fuel 26 cs=some x):∃ y:EdS,(fun e=>(∃ xs,Sl (Ux W) 1 QP e.a1 e.n1 e.c1 xs)∧(∃ es,Sl (Ux W) 3 Yo e.a2 e.n2 e.c2 es)∧∃ rd,Sl (Ux W) 1 QP e.a3 e.n3 e.c3 rd) y∧zv5 y=cs:=by
 obtain ⟨hl,n0_,f0⟩:=zgf (C:=4) zli (by kernel_rfl) h
 match cs,hl with
 | [c0,c1,c2,c3],_=>
  obtain ⟨_,g0_0⟩:=f0 0 3 0 1 (by kernel_rfl) (by kernel_rfl)
  obtain ⟨n0,e0,_,w0⟩:=DataW.trod_int zat (show DataW.trod enc Tryz.prog W 0 (fun _=>true) true n0_ 3 [c0]=some _ from g0_0)
  obtain ⟨_,g0_1⟩:=f0 1 23 1 1 (by kernel_rfl) (by kernel_rfl)
  obtain ⟨a1,m1,q1,n1,e1,s1,o1,_⟩:=U6 (t:=23) (e:=3) QP (fun n:Int=> -9223372036854775808≤n∧n≤9223372036854775807) zex (by kernel_rfl) (by decide) Qu (fun fuel cs x h=>ziY zat rfl fuel cs x h) (show DataW.trod enc Tryz.prog W 0 (fun _=>true) true n0_ 23 [c1]=some _ from g0_1)
  obtain ⟨_,g0_2⟩:=f0 2 24 2 1 (by kernel_rfl) (by kernel_rfl)
  obtain ⟨a2,m2,q2,n2,e2,s2,o2,_⟩:=U6 (t:=24) (e:=67) Yo (fun _:Em=>True) zrZ (by kernel_rfl) (by decide) zag (fun fuel cs x h=>zyl fuel cs x h) (show DataW.trod enc Tryz.prog W 0 (fun _=>true) true n0_ 24 [c2]=some _ from g0_2)
  obtain ⟨_,g0_3⟩:=f0 3 23 3 1 (by kernel_rfl) (by kernel_rfl)
  obtain ⟨a3,m3,q3,n3,e3,s3,o3,_⟩:=U6 (t:=23) (e:=3) QP (fun n:Int=> -9223372036854775808≤n∧n≤9223372036854775807) zex (by kernel_rfl) (by decide) Qu (fun fuel cs x h=>ziY zat rfl fuel cs x h) (show DataW.trod enc Tryz.prog W 0 (fun _=>true) true n0_ 23 [c3]=some _ from g0_3)
  cases e0;cases e1;cases e2;cases e3
  exact ⟨⟨n0,a1,m1,q1,a2,m2,q2,a3,m3,q3⟩,⟨⟨n1,s1⟩,⟨n2,s2⟩,⟨n3,s3⟩⟩,rfl⟩
theorem zst {H:Type}{enc:TypeId×Value→H}{W:World}{base:Nat}{v:Value}{d:DataW H}{p:List MemPlace}(hv:Value.okWide Tryz.prog W .any base 26 v)(h:DataW.Trod enc Tryz.prog W 0 (fun _=>true) true 26 v d p):∃ y:EdS,v=zwy y∧(fun e=>(∃ xs,Sl (Ux W) 1 QP e.a1 e.n1 e.c1 xs)∧(∃ es,Sl (Ux W) 3 Yo e.a2 e.n2 e.c2 es)∧∃ rd,Sl (Ux W) 1 QP e.a3 e.n3 e.c3 rd) y:=by
 obtain ⟨cs,rfl,_⟩:=okWide_struct zli hv
 obtain ⟨fuel,hf⟩:=h
 obtain ⟨l⟩:=cs
 obtain ⟨y,hy,e⟩:=zyI fuel l _ hf
 exact ⟨y,by rw [←e];rfl,hy⟩
end
end Go.Proofs.YtodakphagkommaaGreatDoor
namespace Go.Proofs.YtodakphagkommaaGreatDoor.R
section
open Go Go.Kn Go.Proofs
open Go.ChangeShapes Go.WideShapes Go.ChangeAt Go.RowKit
set_option maxRecDepth 100000
theorem zex:Tryz.prog.underlying 23=some (.slice 3):=by kernel_rfl
end
end Go.Proofs.YtodakphagkommaaGreatDoor.R
namespace Go.Proofs.YtodakphagkommaaGreatDoor
section
open Go Go.Kn Go.Proofs
open Go.ChangeShapes Go.WideShapes Go.ChangeAt Go.RowKit
theorem own:ownKnob Tryz.prog.godebug=none:=by kernel_rfl
theorem zqJ:laidOutB Tryz.prog=true:=by kernel_rfl
set_option maxRecDepth 100000 in
theorem Up (os:Os) (started:os.Started) (H:Type) (enc:TypeId×Value→H):
  ReturnsInHanded {} Tryz.checked os 3 .any (fun w args=>(Rows.apparatusSpecSpec.pre enc Tryz.prog Tryz.f3 [] false w args∧laidMetH Tryz.prog zjl w)∧sizedMet enc Tryz.prog Tryz.f3 (OpenSpec.ofChange Rows.apparatusSpecSpec) false w args)
   (Rows.apparatusSpecSpec.post enc Tryz.prog Tryz.f3 false true false false):=by
 refine returnsInHanded_of_change_and (C:=Tryz.checked) (X:=fun w _=>laidMetH Tryz.prog zjl w) (fun _ _ _ hh h=>h.of_heap hh) own started (by kernel_rfl) Tryz.func3
  (ChangeSpec.witness_shaped (enc:=enc) (C:=Tryz.checked) (os:=os) (X:=fun w _=>laidMetH Tryz.prog zjl w) false (World.doorLaid Tryz.prog 400 os) #[.slice none 0 0,.agg #[.int .i64 0,.slice none 0 0,.slice none 0 0,.slice none 0 0]] 8 rfl (World.shaped_of_RefB (by kernel_rfl) (by kernel_rfl)) (by kernel_rfl) (by kernel_rfl) (by kernel_rfl) (znG os _)) ?_
 intro W base args ds gs before hval0 hW _ _ hL _
 have hval:∀ (j:Nat) t v,Tryz.f3.params[j]? =some t→args[j]? =some v→Value.okWide Tryz.prog W .any base t v:=hval0
 have hW':=hW
 obtain ⟨p,q,hA0,hV,rfl,hfz,hnd⟩:=hW
 have hA:DataW.TrodAll enc Tryz.prog W 0 (fun _=>true) true Tryz.f3.params.toList args.toList ds p:=hA0
 rw [Tryz.params3] at hA hval
 obtain ⟨v0,vs1,d0,ds1,p0,q1,ea,rfl,rfl,h0,hA⟩:=trodAll_cons hA
 obtain ⟨v1,vs2,d1,ds2,p1,q2,rfl,rfl,rfl,h1,hA⟩:=trodAll_cons hA
 obtain ⟨rfl,rfl,rfl⟩:=trodAll_nil hA
 have ea':args= #[v0,v1]:=by rw [←Array.toArray_toList (xs:=args),ea]
 subst ea'
 obtain ⟨rfl,rfl⟩:=trodVars_none hV
 have hDb:=zvo hL
 obtain ⟨bv,n2,c2,rows,rfl,hV,hbg⟩:=zkw (hval 0 22 v0 rfl rfl) h0
 obtain ⟨ed,rfl,⟨xs,hX1⟩,⟨es,hX2⟩,⟨rd,hX3⟩⟩:=zst (hval 1 26 v1 rfl rfl) h1
 refine (Zu.law (R.w_lSpec hV hX1 hX2 hX3 ed.no hDb)).mono fun e W' ⟨he,hB⟩=>?_
 subst he
 exact ⟨_,rfl,zmh zqJ (by kernel_rfl) zuc rfl rfl (by rw [Tryz.params3];simp only [List.mem_cons,List.not_mem_nil,or_false,forall_eq_or_imp,forall_eq];exact ⟨⟨by kernel_rfl,of_decide_eq_true (by kernel_rfl)⟩,⟨by kernel_rfl,of_decide_eq_true (by kernel_rfl)⟩⟩) hW' hB⟩
theorem W7:Rows.ApparatusSpecSaid:=
 OpenClaim.holds_of_wide 3 Tryz.f3 rfl rfl rfl rfl rfl rfl rfl ⟨rfl,rfl,rfl,rfl,rfl⟩ rfl rfl rfl rfl rfl (by kernel_rfl) Tryz.func3 (by kernel_rfl)
  (of_decide_eq_true (by kernel_rfl)) (by unfold Func.isWrapper;first | (rw [if_pos (by decide+kernel)];kernel_rfl) | (rw [if_neg (by decide+kernel)];exact ⟨rfl,rfl⟩))
  (fun os started H enc _=>Up os started H enc)
theorem apparatusSpec_holds:Rows.ApparatusSpecCardSaid:=
 Claim7.holds_tied_plain_at .later [] [.data,.data] true (true, "7487adcbb88cd8c76305f1b55bc750fc8aca60cf0a33624839d1e2bb64e58a1a") false
  W7 (fun _ h=>by cases h) (by kernel_rfl) (fun _ h=>by cases h) apparatusSpec_row_tie rfl ⟨rfl,rfl⟩ (by kernel_rfl) rfl
  (fun f fn hf hfn=>by
   obtain rfl:f=3:=Option.some.inj ((show Tryz.prog.funcNamed "kinesphere/kinespherelaw44.ApparatusSpec" =some 3 by kernel_rfl).symm.trans hf) |>.symm
   obtain rfl:fn=Tryz.f3:=(Option.some.inj (Tryz.func3.symm.trans hfn)).symm
   exact ⟨by kernel_rfl,fun j t ht=>by
    rw [Tryz.params3] at ht
    have hm:t∈[22,26]:=by simpa using Array.mem_of_getElem? ht
    have hall:([22,26].all fun u=> !Tryz.prog.wantsStandIn u)=true:=by kernel_rfl
    exact (show Tryz.prog.wantsStandIn t=false by simpa using List.all_eq_true.1 hall t hm)⟩)
  (by kernel_rfl)
#print axioms apparatusSpec_holds
end
end Go.Proofs.YtodakphagkommaaGreatDoor
