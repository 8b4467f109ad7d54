/- apparatusRows_holds, part G of the proof: what its theorems say holds without further conditions. -/
import Derived.ProofKit
import Derived.Deep.Slices
import Derived.Test.YtodakphagkommaaGreatDoorRows
import Derived.LaidMore
import Derived.MakeChecks
import Derived.Lib.LaidTab
import Derived.Test.YtodakphagkommaaGreatDoorCards
import Derived.Test.YtodakphagkommaaGreatDoorTie
import Derived.Stop.Joined
import Derived.SevenTiedAt
import Derived.Test.YtodakphagkommaaGreatDoorARF
namespace Go.Proofs.YtodakphagkommaaGreatDoor.R
section
open Go Go.Kn Go.Proofs
theorem zrB:ElT Tryz.prog 35 65 3 40:=.of (by kernel_rfl)
theorem znU:ElT Tryz.prog 63 60 15 120:=.of (by kernel_rfl)
theorem zi1:Fun Tryz.prog 11:=.of Tryz.func11 (by kernel_rfl) (by kernel_rfl)
theorem zuY:Fun Tryz.prog 13:=.of Tryz.func13 (by kernel_rfl) (by kernel_rfl)
theorem zft:Fun Tryz.prog 14:=.of Tryz.func14 (by kernel_rfl) (by kernel_rfl)
theorem zm5:Fun Tryz.prog 16:=.of Tryz.func16 (by kernel_rfl) (by kernel_rfl)
theorem ziO:Fun Tryz.prog 18:=.of Tryz.func18 (by kernel_rfl) (by kernel_rfl)
theorem zto:Fun Tryz.prog 19:=.of Tryz.func19 (by kernel_rfl) (by kernel_rfl)
theorem zmJ:Fun Tryz.prog 26:=.of Tryz.func26 (by kernel_rfl) (by kernel_rfl)
theorem zsT:PlT Tryz.prog 57 #[(0,1),(1,1),(2,1),(3,1),(4,14),(18,1)] (.agg #[(.int .i64 0),(.int .i64 0),(.int .i64 0),(.int .i64 0),(.int .i64 0),(.int .i64 0),(.int .i64 0),(.int .i64 0),(.int .i64 0),(.int .i64 0),(.int .i64 0),(.int .i64 0),(.int .i64 0),(.int .i64 0),(.int .i64 0),(.int .i64 0),(.int .i64 0),(.int .i64 0),(.slice none 0 0)]):=⟨.of (by kernel_rfl),by kernel_rfl,fun w=>by kernel_rfl⟩
theorem zsx:PlT Tryz.prog 60 #[(0,1),(1,14)] (.agg #[(.bool false),(.int .i64 0),(.int .i64 0),(.int .i64 0),(.int .i64 0),(.int .i64 0),(.int .i64 0),(.int .i64 0),(.int .i64 0),(.int .i64 0),(.int .i64 0),(.int .i64 0),(.int .i64 0),(.int .i64 0),(.int .i64 0)]):=⟨.of (by kernel_rfl),by kernel_rfl,fun w=>by kernel_rfl⟩
theorem znQ:PlT Tryz.prog 65 #[(0,1),(1,1),(2,1)] (.agg #[(.int .i64 0),(.int .i64 0),(.slice none 0 0)]):=⟨.of (by kernel_rfl),by kernel_rfl,fun w=>by kernel_rfl⟩
theorem zur (I:Qu)(d:Int):Zx Tryz.prog 26 [.int .i64 d] I (.agg (UN ⟨false,zgp d⟩).toArray):=by
 intro g H w hw
 refine qe Tryz.func26 Tryz.ntmps26 hw ?_
 refine zR ?_
 refine Qs zk2 rfl rfl (fun b_2=>?_)
 refine zN (zR ?_)
 refine zM ?_
 refine zV (QR (ps:=[(1,_)]) [_,_] ze1 rfl rfl) ?_
 refine zV (QR (ps:=[(0,_),(1,_)]) [_,_] ze1 rfl rfl) ?_
 refine zV (QR (ps:=[(4,_),(3,_),(5,_),(6,_),(7,_),(10,_),(11,_)]) [_,_,_,_,_,_,_,_,_,_,_,_,_,_] UZ rfl rfl) ?_
 refine zV (QR (ps:=[(1,_)]) [_,_,_,_,_,_,_,_,_,_,_,_,_,_,_] zsx rfl rfl) ?_
 refine zh ze0 ?_
 refine zN (Qt ?_)
 exact KB rfl rfl zeA (by repeat (first | exact zxO | apply zxN)) rfl (fun w hw=>⟨rfl,hw.drop⟩)
theorem zlL {I:Qu}{b t n:Nat}(hs:List Hd){vss:List (List Int)}(hn:hs.length=n)(h:I b=some (.cells (hs.flatMap Xc).toArray t (0,0)))(r:zcn I hs vss):SlN I (some ⟨b,0,none⟩) n n vss:=⟨hs,Sl.lit hs hn Q9 h,r⟩
theorem ze9 {I:Qu}{bv av dv:Option Addr}{n2 c2 n c n3 c3:Nat}{rows:List (List Int)}{cl:List Int}{es:List Em}{no:Int}(hV:SlN I bv n2 c2 rows)(hS:Sl I 1 QQ av n c cl)(hE:Sl I 3 Yu dv n3 c3 es)(hDb:VJ I)(hn2:n2≤100000)(hn:n≤100000)(hn3:n3≤100000){rd:List Int}{k:Nat}
  (he:U4 rows no cl es=0)(hr:Vz rows cl es=rd)(hk:rd.length=k):Yb Tryz.prog 25 [.slice bv n2 c2,.int .i64 no,.slice av n c,.slice dv n3 c3] I [] (fun v I' L=>L=[]∧∃ a1 c1 a2 c2 a3 c3,v= .tuple #[.agg (ZZ no a1 n c1 a2 n3 c2 a3 k c3).toArray,.int .i64 0]∧Sl I' 1 QQ a1 n c1 cl∧Sl I' 3 Yu a2 n3 c2 es∧Sl I' 1 QQ a3 k c3 rd):=by
 intro g H w hw
 refine (znP hS hV hn2 hE hn3 hn hDb no g H w hw).mono ?_
 rintro ed w' ⟨v,I',L',hed,hI,hs,hMQ⟩
 obtain ⟨rfl,no2,cl2,es2,rd2,a1,q1,c1,a2,q2,c9,a3,q3,c3,rfl,hM1,hM2,hM3,hMy, -⟩:=hMQ.opn
 obtain ⟨rfl,rfl,rfl,rfl⟩:=hMy he
 have l1:=hM1.len.symm.trans hS.len;have l2:=hM2.len.symm.trans hE.len
 subst l1;subst l2;subst hk
 rw [hr] at hM3
 have l3:=hM3.len
 subst l3
 exact ⟨_,I',[],hed,hI,hs,rfl,a1,c1,a2,c9,a3,c3,by rw [he],hM1,hM2,hM3⟩
theorem zxc {I:Qu}{bv a1 a2 a3:Option Addr}{c2 c1 c9 c3:Nat}(hV:SlN I bv 3 c2 [[7],[9],[7]])(h1:Sl I 1 QQ a1 2 c1 [5,7])(h2:Sl I 3 Yu a2 0 c9 [])(h3:Sl I 1 QQ a3 1 c3 [7])(hDb:VJ I):Yb Tryz.prog 11 [.slice bv 3 c2,.agg (ZZ 1 a1 2 c1 a2 0 c9 a3 1 c3).toArray] I [] (zvF 0 [⟨0,7,[⟨7,[0,2]⟩,⟨9,[1]⟩]⟩]):=by
 have h:=XG hV (by decide) h1 h2 h3 (by decide) (by decide) (by decide) 1 hDb
 rw [eK9,(zaL rfl).trans nK9] at h
 exact h
theorem zuL {I:Qu}(hDb:VJ I):Yb Tryz.prog 11 [.slice none 0 0,.agg (ZZ 0 none 0 0 none 0 0 none 0 0).toArray] I [] (zvF 420 []):=by
 have h:=XG (I:=I) (ea1:=none) (ec1:=0) (ea2:=none) (ec2:=0) (ea3:=none) (ec3:=0) SlN.none (by decide) .nil .nil .nil (by decide) (by decide) (by decide) 0 hDb
 rw [eK0] at h
 exact h
theorem zvL {I:Qu}{av:Option Addr}{c:Nat}(hW:SlW I av 2 c wK):Yb Tryz.prog 27 [.slice av 2 c] I [] (zaB 0 [[36110336],[36241408]]):=by
 have h:=zhw hW (by decide)
 rw [zxn,zxq] at h
 exact h
section
variable {I:Qu} {av bv a1 a2 a3 pv dv:Option Addr} {c c2 c1 c9 c3 pc vn vc:Nat} {vs:List Int} (hW:SlW I av 2 c wK) (hV:SlN I bv 2 c2 [[36110336],[36241408]]) (h1:Sl I 1 QQ a1 1 c1 [3]) (h2:Sl I 3 Yu a2 0 c9 []) (h3:Sl I 1 QQ a3 1 c3 [36110336]) (hP:SlP I pv 1 pc [ptK]) (hVs:Sl I 1 QQ dv vn vc vs) (hvn:vn≤100000) (hDb:VJ I)
include hW hV h1 h2 h3 hP hVs hvn hDb
theorem zvk {f e:Int}{o:Og}(he:orE (opK vs) (sgK vs) 0 f=e)(ho:orO e (ogK vs 0 f)=o):Yb Tryz.prog 14 [.slice av 2 c,.slice bv 2 c2,.agg (ZZ 1 a1 1 c1 a2 0 c9 a3 1 c3).toArray,.slice pv 1 pc,.slice dv vn vc,.int .i64 0,.int .i64 f] I [] (OrQ e o):=by
 subst ho;subst he
 exact zlb hW (by decide) hV (by decide) h1 h2 h3 (by decide) (by decide) (by decide) 1 hP (by decide) hVs hvn hDb 0 f
theorem zxp {e:Int}{l:List (Int×Int)}(he:opK vs=e)(ho:tcF (opK vs) (ogK vs) (sgK vs)=l):Yb Tryz.prog 16 [.slice av 2 c,.slice bv 2 c2,.agg (ZZ 1 a1 1 c1 a2 0 c9 a3 1 c3).toArray,.slice pv 1 pc,.slice dv vn vc] I [] (zxh e l):=by
 subst ho;subst he
 exact ziu hW (by decide) hV (by decide) h1 h2 h3 (by decide) (by decide) (by decide) 1 hP (by decide) hVs hvn hDb
end
theorem zd6 {I:Qu}{o:Og}{a1:Option Addr}{n1 c1:Nat}{a2:Option Addr}{n2 c2:Nat}(h1:Sl I 1 QQ a1 n1 c1 o.ws)(h2:Sl I 1 QQ a2 n2 c2 o.ps){a3:Option Addr}{n3 c3:Nat}{a4:Option Addr}{n4 c4:Nat}(h3:Sl I 1 QQ a3 n3 c3 o.ws)(h4:Sl I 1 QQ a4 n4 c4 o.ps)(hb1:n1≤100000)(hb2:n2≤100000):Zx Tryz.prog 18 [.agg #[.int .i64 o.k,.int .i64 o.r,.slice a1 n1 c1,.slice a2 n2 c2],.agg #[.int .i64 o.k,.int .i64 o.r,.slice a3 n3 c3,.slice a4 n4 c4]] I (.bool true):=by
 have h:=zpo h1 h2 h3 h4 hb1 hb2
 rw [zlQ] at h
 exact h
theorem zpQ {I:Qu}{a b:Option Addr}{n c d:Nat}(h1:zfz I a n c [⟨0,7,[⟨7,[0,2]⟩,⟨9,[1]⟩]⟩])(h2:zfz I b 1 d [⟨0,7,[⟨7,[0,2]⟩,⟨9,[1]⟩]⟩]):Zx Tryz.prog 13 [.slice a n c,.slice b 1 d] I (.bool true):=by
 have h:=zl0 h1 h2 (by rw [←h1.len];decide) (by decide)
 rw [zaQ zlB] at h
 exact h
theorem zpZ {I:Qu}{b1 b2 b3 b4:Nat}(h1:I b1=some (.cells (([0,2]:List Int).flatMap QQ).toArray 3 (0,0)))(h2:I b2=some (.cells (([1]:List Int).flatMap QQ).toArray 3 (0,0)))(h3:I b3=some (.cells (([⟨7,⟨some ⟨b1,0,none⟩,2,2⟩⟩,⟨9,⟨some ⟨b2,0,none⟩,1,1⟩⟩]:List Vh).flatMap zam).toArray 77 (0,0)))
  (h4:I b4=some (.cells (([⟨0,7,⟨some ⟨b3,0,none⟩,2,2⟩⟩]:List Eh).flatMap Wp).toArray 74 (0,0))):zfz I (some ⟨b4,0,none⟩) 1 1 [⟨0,7,[⟨7,[0,2]⟩,⟨9,[1]⟩]⟩]:=
 ⟨_,Sl.lit _ rfl Zm h4,zaf.nil.snoc ⟨rfl,rfl,_,Sl.lit _ rfl Zl h3,(zaf.nil.snoc ⟨rfl,Sl.lit _ rfl Qv h1⟩).snoc ⟨rfl,Sl.lit _ rfl Qv h2⟩⟩⟩
set_option maxRecDepth 100000 in
theorem ztK {I:Qu} (hDb:VJ I):Zx Tryz.prog 9 [] I (.bool true):=by
 intro g H w hw
 refine qe Tryz.func9 Tryz.ntmps9 hw ?_
 have hIc:=zxQ I
 refine zR (zA ?_)
 refine zN (zR ?_)
 refine Qq (ps:=[(0,_)]) (m:=[QQ 7]) Zh rfl (.cons rfl (.nil)) rfl (by simp [Qv]) (by decide) (by decide) rfl rfl (fun b_26=>?_)
 refine Qq (ps:=[(0,_)]) (m:=[QQ 9]) Zh rfl (.cons rfl (.nil)) rfl (by simp [Qv]) (by decide) (by decide) rfl rfl (fun b_27=>?_)
 refine Qq (ps:=[(0,_)]) (m:=[QQ 7]) Zh rfl (.cons rfl (.nil)) rfl (by simp [Qv]) (by decide) (by decide) rfl rfl (fun b_28=>?_)
 refine Qq (ps:=[(0,_),(1,_),(2,_)]) (m:=[Xc ⟨some ⟨b_26,0,none⟩,1,1⟩,Xc ⟨some ⟨b_27,0,none⟩,1,1⟩,Xc ⟨some ⟨b_28,0,none⟩,1,1⟩]) zaz rfl (.cons rfl (.cons rfl (.cons rfl (.nil)))) rfl (by simp [Q9]) (by decide) (by decide) rfl rfl (fun b_29=>?_)
 refine zA ?_
 refine zN (zR ?_)
 refine zM ?_
 refine Qq (ps:=[(0,_),(1,_)]) (m:=[QQ 5,QQ 7]) Zh rfl (.cons rfl (.cons rfl (.nil))) rfl (by simp [Qv]) (by decide) (by decide) rfl rfl (fun b_32=>?_)
 refine Kt (fun I1 hI1 hall1=>?_)
 have hDb:=hDb.mono hI1;have hIc:=hIc.trans hI1
 have h71:SlN I1 (some ⟨b_29,0,none⟩) 3 3 [[7],[9],[7]]:=zlL (vss:=[[7],[9],[7]]) ([⟨some ⟨b_26,0,none⟩,1,1⟩,⟨some ⟨b_27,0,none⟩,1,1⟩,⟨some ⟨b_28,0,none⟩,1,1⟩]:List Hd) rfl (show _=some (Obj.cells (([⟨some ⟨b_26,0,none⟩,1,1⟩,⟨some ⟨b_27,0,none⟩,1,1⟩,⟨some ⟨b_28,0,none⟩,1,1⟩]:List Hd).flatMap Xc).toArray 23 (0,0)) from hall1 _ _ (by repeat (first | exact List.mem_cons_self .. | apply List.mem_cons_of_mem))) (((zcn.nil.snoc (hd:=⟨some ⟨b_26,0,none⟩,1,1⟩) (Sl.lit ([7]:List Int) rfl Qv (show _=some (Obj.cells (([7]:List Int).flatMap QQ).toArray 3 (0,0)) from hall1 _ _ (by repeat (first | exact List.mem_cons_self .. | apply List.mem_cons_of_mem))))).snoc (hd:=⟨some ⟨b_27,0,none⟩,1,1⟩) (Sl.lit ([9]:List Int) rfl Qv (show _=some (Obj.cells (([9]:List Int).flatMap QQ).toArray 3 (0,0)) from hall1 _ _ (by repeat (first | exact List.mem_cons_self .. | apply List.mem_cons_of_mem))))).snoc (hd:=⟨some ⟨b_28,0,none⟩,1,1⟩) (Sl.lit ([7]:List Int) rfl Qv (show _=some (Obj.cells (([7]:List Int).flatMap QQ).toArray 3 (0,0)) from hall1 _ _ (by repeat (first | exact List.mem_cons_self .. | apply List.mem_cons_of_mem)))))
 have hC2:Sl I1 1 QQ (some ⟨b_32,0,none⟩) 2 2 [5,7]:=(Sl.lit ([5,7]:List Int) rfl Qv (show _=some (Obj.cells (([5,7]:List Int).flatMap QQ).toArray 3 (0,0)) from hall1 _ _ (by repeat (first | exact List.mem_cons_self .. | apply List.mem_cons_of_mem))))
 refine Qz (cap:=[]) (vs:=[_,_,_,_]) rfl rfl zjL .nil (ze9 (no:=1) (es:=[]) (rd:=[7]) (k:=1) h71 hC2 .nil hDb (by decide) (by decide) (by decide) mK9 rK9 rfl) rfl rfl ?_
 rintro vv2 I2 L2 hI2 ⟨rfl,x1,x2,x3,x4,x5,x6,rfl,hx1,hx2,hx3⟩
 have hDb:=hDb.mono hI2;have h71:=h71.mono hI2;have hIc:=hIc.trans hI2
 refine zM ?_
 refine zE ?_
 refine zE ?_
 refine Qs zks rfl rfl (fun b_2=>?_)
 refine zh Ky ?_
 refine zA ?_
 refine zN (zR ?_)
 refine zM ?_
 refine zV (Qp rfl Z6 (fun hg=>by exact Cells.g0) rfl) ?_
 refine Qz (cap:=[]) (vs:=[_,_]) rfl rfl zi1 .nil (zxc h71 hx1 hx2 hx3 hDb) rfl rfl ?_
 rintro vv3 I3 L3 hI3 ⟨rfl,ea,en,ec,rfl,hEn⟩
 have hDb:=hDb.mono hI3;have hIc:=hIc.trans hI3
 refine zM ?_
 refine zE ?_
 refine zE ?_
 refine zA ?_
 refine zA ?_
 refine zN (zR ?_)
 refine zV (QR (ps:=[]) [_,_,_,_] znM rfl rfl) ?_
 refine Qz (cap:=[]) (vs:=[_,_]) rfl rfl zi1 .nil (zuL hDb) rfl rfl ?_
 rintro vv4 I4 L4 hI4 ⟨rfl,e0a,e0n,e0c,rfl,_⟩
 have hDb:=hDb.mono hI4;have hEn:=hEn.mono hI4;have hIc:=hIc.trans hI4
 refine zM ?_
 refine zE ?_
 refine zE ?_
 refine zA ?_
 refine zA ?_
 refine zN (zR ?_)
 refine qc (vs:=[_]) rfl zmJ (zur _ _) ?_
 refine Qq (ps:=[(0,_)]) (m:=[UN ⟨false,zgp 3⟩]) znU rfl (.cons rfl (.nil)) rfl (by simp [Zr]) (by decide) (by decide) rfl rfl (fun b_48=>?_)
 refine zV (QR (ps:=[(0,_),(2,_)]) [_,_,_] znQ rfl rfl) ?_
 refine qc (vs:=[_]) rfl zmJ (zur _ _) ?_
 refine Qq (ps:=[(0,_)]) (m:=[UN ⟨false,zgp 4⟩]) znU rfl (.cons rfl (.nil)) rfl (by simp [Zr]) (by decide) (by decide) rfl rfl (fun b_51=>?_)
 refine zV (QR (ps:=[(0,_),(2,_)]) [_,_,_] znQ rfl rfl) ?_
 refine Qq (ps:=[(0,_),(1,_)]) (m:=[znv ⟨1,0,some ⟨b_48,0,none⟩,1,1⟩,znv ⟨2,0,some ⟨b_51,0,none⟩,1,1⟩]) zrB rfl (.cons rfl (.cons rfl (.nil))) rfl (by simp [ZI]) (by decide) (by decide) rfl rfl (fun b_53=>?_)
 refine zA ?_
 refine zN (zR ?_)
 refine zM ?_
 refine Kt (fun I5 hI5 hall5=>?_)
 have hDb:=hDb.mono hI5;have hEn:=hEn.mono hI5;have hIc:=hIc.trans hI5
 have hq1:Sl I5 15 UN (some ⟨b_48,0,none⟩) 1 1 [⟨false,zgp 3⟩]:=Sl.lit ([⟨false,zgp 3⟩]:List Rd) rfl Zr (show _=some (Obj.cells (([⟨false,zgp 3⟩]:List Rd).flatMap UN).toArray 60 (0,0)) from hall5 _ _ (by repeat (first | exact List.mem_cons_self .. | apply List.mem_cons_of_mem)))
 have hq2:Sl I5 15 UN (some ⟨b_51,0,none⟩) 1 1 [⟨false,zgp 4⟩]:=Sl.lit ([⟨false,zgp 4⟩]:List Rd) rfl Zr (show _=some (Obj.cells (([⟨false,zgp 4⟩]:List Rd).flatMap UN).toArray 60 (0,0)) from hall5 _ _ (by repeat (first | exact List.mem_cons_self .. | apply List.mem_cons_of_mem)))
 have hWK:SlW I5 (some ⟨b_53,0,none⟩) 2 2 wK:=⟨[⟨1,0,some ⟨b_48,0,none⟩,1,1⟩,⟨2,0,some ⟨b_51,0,none⟩,1,1⟩],Sl.lit ([⟨1,0,some ⟨b_48,0,none⟩,1,1⟩,⟨2,0,some ⟨b_51,0,none⟩,1,1⟩]:List Wt) rfl ZI (show _=some (Obj.cells (([⟨1,0,some ⟨b_48,0,none⟩,1,1⟩,⟨2,0,some ⟨b_51,0,none⟩,1,1⟩]:List Wt).flatMap znv).toArray 65 (0,0)) from hall5 _ _ (by repeat (first | exact List.mem_cons_self .. | apply List.mem_cons_of_mem))),rfl,fun k w x h1 h2=>by
  rcases k with _ | _ | k
  ·
   cases h1;cases h2;exact ⟨rfl,rfl,hq1⟩
  ·
   cases h1;cases h2;exact ⟨rfl,rfl,hq2⟩
  simp at h1⟩
 refine Qz (cap:=[]) (vs:=[_]) rfl rfl znz .nil (zvL hWK) rfl rfl ?_
 rintro vv6 I6 L6 hI6 ⟨rfl,ta,tc,rfl,hT⟩
 have hDb:=hDb.mono hI6;have hEn:=hEn.mono hI6;have hWK:=hWK.mono hI6;have hIc:=hIc.trans hI6
 refine zM ?_
 refine zE ?_
 refine zE ?_
 refine zA ?_
 refine zA ?_
 refine zN (zR ?_)
 refine zM ?_
 refine Qq (ps:=[(0,_)]) (m:=[QQ 3]) Zh rfl (.cons rfl (.nil)) rfl (by simp [Qv]) (by decide) (by decide) rfl rfl (fun b_61=>?_)
 refine Kt (fun I7 hI7 hall7=>?_)
 have hDb:=hDb.mono hI7;have hEn:=hEn.mono hI7;have hWK:=hWK.mono hI7;have hT:=hT.mono hI7;have hIc:=hIc.trans hI7
 have hC3:Sl I7 1 QQ (some ⟨b_61,0,none⟩) 1 1 [3]:=(Sl.lit ([3]:List Int) rfl Qv (show _=some (Obj.cells (([3]:List Int).flatMap QQ).toArray 3 (0,0)) from hall7 _ _ (by repeat (first | exact List.mem_cons_self .. | apply List.mem_cons_of_mem))))
 refine Qz (cap:=[]) (vs:=[_,_,_,_]) rfl rfl zjL .nil (ze9 (no:=1) (es:=[]) (rd:=[36110336]) (k:=1) hT hC3 .nil hDb (by decide) (by decide) (by decide) mK rK rfl) rfl rfl ?_
 rintro vv8 I8 L8 hI8 ⟨rfl,y1,y2,y3,y4,y5,y6,rfl,hy1,hy2,hy3⟩
 have hDb:=hDb.mono hI8;have hEn:=hEn.mono hI8;have hWK:=hWK.mono hI8;have hT:=hT.mono hI8;have hIc:=hIc.trans hI8
 refine zM ?_
 refine zE ?_
 refine zE ?_
 refine Qs zks rfl rfl (fun b_11=>?_)
 refine zh Ky ?_
 refine zA ?_
 refine zN (zR ?_)
 refine zV (QR (ps:=[(6,_)]) [_,_,_,_,_,_,_,_,_,_,_,_,_,_] UZ rfl rfl) ?_
 refine zV (QR (ps:=[(0,_),(1,_),(3,_),(4,_)]) [_,_,_,_,_,_,_,_,_,_,_,_,_,_,_,_,_,_,_] zsT rfl rfl) ?_
 refine Qq (ps:=[(0,_)]) (m:=[Yt ptK]) Us rfl (.cons rfl (.nil)) rfl (by simp [Q1]) (by decide) (by decide) rfl rfl (fun b_67=>?_)
 refine zA ?_
 refine zN (zR ?_)
 refine zM ?_
 refine zM ?_
 refine zV (Qp rfl Z6 (fun hg=>by exact Cells.g1) rfl) ?_
 refine zM ?_
 refine Qq (ps:=[(0,_)]) (m:=[QQ 2]) Zh rfl (.cons rfl (.nil)) rfl (by simp [Qv]) (by decide) (by decide) rfl rfl (fun b_73=>?_)
 refine ZU (b:=b_67) (by repeat (first | exact Q7.here | apply Q7.there)) (fun I9 hI9 h_67=>?_)
 have hDb:=hDb.mono hI9;have hEn:=hEn.mono hI9;have hWK:=hWK.mono hI9;have hT:=hT.mono hI9;have hy1:=hy1.mono hI9;have hy2:=hy2.mono hI9;have hy3:=hy3.mono hI9;have hIc:=hIc.trans hI9
 refine ZU (b:=b_73) (by repeat (first | exact Q7.here | apply Q7.there)) (fun I10 hI10 h_73=>?_)
 have hDb:=hDb.mono hI10;have hEn:=hEn.mono hI10;have hWK:=hWK.mono hI10;have hT:=hT.mono hI10;have hy1:=hy1.mono hI10;have hy2:=hy2.mono hI10;have hy3:=hy3.mono hI10;have hIc:=hIc.trans hI10
 have h_67:=hI10 _ _ h_67
 have hPK:SlP I10 (some ⟨b_67,0,none⟩) 1 1 [ptK]:=⟨Sl.lit ([ptK]:List Pt) rfl Q1 (show _=some (Obj.cells (([ptK]:List Pt).flatMap Yt).toArray 57 (0,0)) from h_67),fun p hp=>by rw [List.mem_singleton] at hp;subst hp;exact .nil⟩
 have hv1:Sl I10 1 QQ (some ⟨b_73,0,none⟩) 1 1 [2]:=Sl.lit ([2]:List Int) rfl Qv (show _=some (Obj.cells (([2]:List Int).flatMap QQ).toArray 3 (0,0)) from h_73)
 refine Qz (cap:=[]) (vs:=[_,_,_,_,_,_,_]) rfl rfl zft .nil (zvk (vs:=[2]) hWK hT hy1 hy2 hy3 hPK hv1 (by decide) hDb zwR zwH) rfl rfl ?_
 rintro vv11 I11 L11 hI11 ⟨rfl,_,rfl,oaA,onA,ocA,obA,omA,odA,rfl,hwA,hzA⟩
 have hDb:=hDb.mono hI11;have hEn:=hEn.mono hI11;have hWK:=hWK.mono hI11;have hT:=hT.mono hI11;have hy1:=hy1.mono hI11;have hy2:=hy2.mono hI11;have hy3:=hy3.mono hI11;have hPK:=hPK.mono hI11;have hIc:=hIc.trans hI11
 refine zM ?_
 refine zE ?_
 refine zE ?_
 refine Qs WT rfl rfl (fun b_14=>?_)
 refine zh VM ?_
 refine zA ?_
 refine zN (zR ?_)
 refine zM ?_
 refine zM ?_
 refine zV (Qp rfl Z6 (fun hg=>by exact Cells.g1) rfl) ?_
 refine zM ?_
 refine Qq (ps:=[(0,_)]) (m:=[QQ 2]) Zh rfl (.cons rfl (.nil)) rfl (by simp [Qv]) (by decide) (by decide) rfl rfl (fun b_82=>?_)
 refine ZU (b:=b_82) (by repeat (first | exact Q7.here | apply Q7.there)) (fun I12 hI12 h_82=>?_)
 have hDb:=hDb.mono hI12;have hEn:=hEn.mono hI12;have hWK:=hWK.mono hI12;have hT:=hT.mono hI12;have hy1:=hy1.mono hI12;have hy2:=hy2.mono hI12;have hy3:=hy3.mono hI12;have hPK:=hPK.mono hI12;have hwA:=hwA.mono hI12;have hzA:=hzA.mono hI12;have hIc:=hIc.trans hI12
 have hv2:Sl I12 1 QQ (some ⟨b_82,0,none⟩) 1 1 [2]:=Sl.lit ([2]:List Int) rfl Qv (show _=some (Obj.cells (([2]:List Int).flatMap QQ).toArray 3 (0,0)) from h_82)
 refine Qz (cap:=[]) (vs:=[_,_,_,_,_,_,_]) rfl rfl zft .nil (zvk (vs:=[2]) hWK hT hy1 hy2 hy3 hPK hv2 (by decide) hDb zvJ zv2) rfl rfl ?_
 rintro vv13 I13 L13 hI13 ⟨rfl,_,rfl,oaB,onB,ocB,obB,omB,odB,rfl,hwB,hzB⟩
 have hDb:=hDb.mono hI13;have hEn:=hEn.mono hI13;have hWK:=hWK.mono hI13;have hT:=hT.mono hI13;have hy1:=hy1.mono hI13;have hy2:=hy2.mono hI13;have hy3:=hy3.mono hI13;have hPK:=hPK.mono hI13;have hwA:=hwA.mono hI13;have hzA:=hzA.mono hI13;have hIc:=hIc.trans hI13
 refine zM ?_
 refine zE ?_
 refine zE ?_
 refine Qs WT rfl rfl (fun b_16=>?_)
 refine zh VM ?_
 refine zA ?_
 refine zN (zR ?_)
 refine zM ?_
 refine zM ?_
 refine zV (Qp rfl Z6 (fun hg=>by exact Cells.g2) rfl) ?_
 refine zM ?_
 refine Qz (cap:=[]) (vs:=[_,_,_,_,_,_,_]) rfl rfl zft .nil (zvk (vs:=[]) hWK hT hy1 hy2 hy3 hPK .nil (by decide) hDb zwS zxb) rfl rfl ?_
 rintro vv14 I14 L14 hI14 ⟨rfl,_,rfl,oaC,onC,ocC,obC,omC,odC,rfl,hwC,hzC⟩
 have hDb:=hDb.mono hI14;have hEn:=hEn.mono hI14;have hWK:=hWK.mono hI14;have hT:=hT.mono hI14;have hy1:=hy1.mono hI14;have hy2:=hy2.mono hI14;have hy3:=hy3.mono hI14;have hPK:=hPK.mono hI14;have hwA:=hwA.mono hI14;have hzA:=hzA.mono hI14;have hwB:=hwB.mono hI14;have hzB:=hzB.mono hI14
 have hIc:=hIc.trans hI14
 refine zM ?_
 refine zE ?_
 refine zE ?_
 refine Qs WT rfl rfl (fun b_18=>?_)
 refine zh VM ?_
 refine zA ?_
 refine zN (zR ?_)
 refine zM ?_
 refine zM ?_
 refine zV (Qp rfl Z6 (fun hg=>by exact Cells.g3) rfl) ?_
 refine zM ?_
 refine Qz (cap:=[]) (vs:=[_,_,_,_,_,_,_]) rfl rfl zft .nil (zvk (vs:=[]) hWK hT hy1 hy2 hy3 hPK .nil (by decide) hDb zwa zwK) rfl rfl ?_
 rintro vv15 I15 L15 hI15 ⟨rfl,_,rfl,oaD,onD,ocD,obD,omD,odD,rfl,hwD,hzD⟩
 have hDb:=hDb.mono hI15;have hEn:=hEn.mono hI15;have hWK:=hWK.mono hI15;have hT:=hT.mono hI15;have hy1:=hy1.mono hI15;have hy2:=hy2.mono hI15;have hy3:=hy3.mono hI15;have hPK:=hPK.mono hI15;have hwA:=hwA.mono hI15;have hzA:=hzA.mono hI15;have hwB:=hwB.mono hI15;have hzB:=hzB.mono hI15
 have hwC:=hwC.mono hI15;have hzC:=hzC.mono hI15;have hIc:=hIc.trans hI15
 refine zM ?_
 refine zE ?_
 refine zE ?_
 refine Qs WT rfl rfl (fun b_20=>?_)
 refine zh VM ?_
 refine zA ?_
 refine zN (zR ?_)
 refine zM ?_
 refine zM ?_
 refine zV (Qp rfl Z6 (fun hg=>by exact Cells.g4) rfl) ?_
 refine zM ?_
 refine Qq (ps:=[(0,_)]) (m:=[QQ 2]) Zh rfl (.cons rfl (.nil)) rfl (by simp [Qv]) (by decide) (by decide) rfl rfl (fun b_107=>?_)
 refine ZU (b:=b_107) (by repeat (first | exact Q7.here | apply Q7.there)) (fun I16 hI16 h_107=>?_)
 have hDb:=hDb.mono hI16;have hEn:=hEn.mono hI16;have hWK:=hWK.mono hI16;have hT:=hT.mono hI16;have hy1:=hy1.mono hI16;have hy2:=hy2.mono hI16;have hy3:=hy3.mono hI16;have hPK:=hPK.mono hI16;have hwA:=hwA.mono hI16;have hzA:=hzA.mono hI16;have hwB:=hwB.mono hI16;have hzB:=hzB.mono hI16
 have hwC:=hwC.mono hI16;have hzC:=hzC.mono hI16;have hIc:=hIc.trans hI16
 have hv3:Sl I16 1 QQ (some ⟨b_107,0,none⟩) 1 1 [2]:=Sl.lit ([2]:List Int) rfl Qv (show _=some (Obj.cells (([2]:List Int).flatMap QQ).toArray 3 (0,0)) from h_107)
 refine Qz (cap:=[]) (vs:=[_,_,_,_,_]) rfl rfl zm5 .nil (zxp (vs:=[2]) hWK hT hy1 hy2 hy3 hPK hv3 (by decide) hDb zvn zvX) rfl rfl ?_
 rintro vv17 I17 L17 hI17 ⟨rfl,taA,tcA,rfl,hprA⟩
 have hDb:=hDb.mono hI17;have hEn:=hEn.mono hI17;have hWK:=hWK.mono hI17;have hT:=hT.mono hI17;have hy1:=hy1.mono hI17;have hy2:=hy2.mono hI17;have hy3:=hy3.mono hI17;have hPK:=hPK.mono hI17;have hwA:=hwA.mono hI17;have hzA:=hzA.mono hI17;have hwB:=hwB.mono hI17;have hzB:=hzB.mono hI17
 have hwC:=hwC.mono hI17;have hzC:=hzC.mono hI17;have hIc:=hIc.trans hI17
 refine zM ?_
 refine zE ?_
 refine zE ?_
 refine zA ?_
 refine zA ?_
 refine zN (zR ?_)
 refine zM ?_
 refine zM ?_
 refine zV (Qp rfl Z6 (fun hg=>by exact Cells.g4) rfl) ?_
 refine zM ?_
 refine Qz (cap:=[]) (vs:=[_,_,_,_,_]) rfl rfl zm5 .nil (zxp (vs:=[]) hWK hT hy1 hy2 hy3 hPK .nil (by decide) hDb zvt zwQ) rfl rfl ?_
 rintro vv18 I18 L18 hI18 ⟨rfl,taB,tcB,rfl,hprB⟩
 have hEn:=hEn.mono hI18;have hwA:=hwA.mono hI18;have hzA:=hzA.mono hI18;have hwB:=hwB.mono hI18;have hzB:=hzB.mono hI18;have hwC:=hwC.mono hI18;have hzC:=hzC.mono hI18;have hprA:=hprA.mono hI18;have hIc:=hIc.trans hI18
 refine zM ?_
 refine zE ?_
 refine zE ?_
 refine zA ?_
 refine zA (zN (Ql (zR ?_)))
 refine zM ?_
 refine zC ?_
 refine zM ?_
 refine Q2 2 rfl rfl rfl ?_
 refine zJ (Qi rfl) ?_
 refine zJ (QH rfl rfl rfl) ?_
 refine Zz rfl rfl rfl rfl rfl ?_
 refine zM ?_
 refine Q2 6 rfl rfl rfl ?_
 refine zJ (Qi rfl) ?_
 refine zJ (QH rfl rfl rfl) ?_
 refine Zz rfl rfl rfl rfl rfl ?_
 refine zM ?_
 refine Q2 10 rfl rfl rfl ?_
 refine zJ (Qi rfl) ?_
 refine zJ (QH rfl rfl rfl) ?_
 refine Zz rfl rfl rfl rfl rfl ?_
 refine zM ?_
 refine Q2 14 rfl rfl rfl ?_
 refine zJ (Qi rfl) ?_
 refine zJ (QH rfl rfl rfl) ?_
 refine Zz rfl rfl rfl rfl rfl ?_
 refine zM ?_
 refine Q2 18 rfl rfl rfl ?_
 refine zJ (Qi rfl) ?_
 refine zJ (QH rfl rfl rfl) ?_
 refine Zz rfl rfl rfl rfl rfl ?_
 refine zM ?_
 refine Q2 22 rfl rfl rfl ?_
 refine zJ (Qi rfl) ?_
 refine zJ (QH rfl rfl rfl) ?_
 refine Zz rfl rfl rfl rfl rfl ?_
 refine zM ?_
 refine Q2 26 rfl rfl rfl ?_
 refine zJ (Qi rfl) ?_
 refine zJ (QH rfl rfl rfl) ?_
 refine Zz rfl rfl rfl rfl rfl ?_
 refine zM ?_
 refine Q2 30 rfl rfl rfl ?_
 refine zJ (Qi rfl) ?_
 refine zJ (QH rfl rfl rfl) ?_
 refine Zz rfl rfl rfl rfl rfl ?_
 refine zM ?_
 refine Q2 34 rfl rfl rfl ?_
 refine zJ (Qi rfl) ?_
 refine zJ (QH rfl rfl rfl) ?_
 refine Zz rfl rfl rfl rfl rfl ?_
 refine zM ?_
 refine Q2 38 rfl rfl rfl ?_
 refine zJ (Qi rfl) ?_
 refine zJ (QH rfl rfl rfl) ?_
 refine Zz rfl rfl rfl rfl rfl ?_
 refine zM ?_
 refine Q2 42 rfl rfl rfl ?_
 refine zJ (Qi rfl) ?_
 refine zJ (Zp rfl K5) ?_
 refine zJ (QH rfl rfl rfl) ?_
 refine Zz rfl rfl rfl rfl rfl ?_
 refine zN ?_
 refine zI ?_ ?_<;>intro hc165
 ·
  exact absurd hc165 (by decide)
 refine Qo (Qa (Ql (zR (zM ?_))))
 refine Qq (ps:=[(0,_),(1,_)]) (m:=[QQ 0,QQ 2]) Zh rfl (.cons rfl (.cons rfl (.nil))) rfl (by simp [Qv]) (by decide) (by decide) rfl rfl (fun b_167=>?_)
 refine zV (QR (ps:=[(0,_),(1,_)]) [_,_] zhy rfl rfl) ?_
 refine Qq (ps:=[(0,_)]) (m:=[QQ 1]) Zh rfl (.cons rfl (.nil)) rfl (by simp [Qv]) (by decide) (by decide) rfl rfl (fun b_169=>?_)
 refine zV (QR (ps:=[(0,_),(1,_)]) [_,_] zhy rfl rfl) ?_
 refine Qq (ps:=[(0,_),(1,_)]) (m:=[zam ⟨7,⟨some ⟨b_167,0,none⟩,2,2⟩⟩,zam ⟨9,⟨some ⟨b_169,0,none⟩,1,1⟩⟩]) zhd rfl (.cons rfl (.cons rfl (.nil))) rfl (by simp [Zl]) (by decide) (by decide) rfl rfl (fun b_171=>?_)
 refine zV (QR (ps:=[(1,_),(2,_)]) [_,_,_] znd rfl rfl) ?_
 refine Qq (ps:=[(0,_)]) (m:=[Wp ⟨0,7,⟨some ⟨b_171,0,none⟩,2,2⟩⟩]) zgY rfl (.cons rfl (.nil)) rfl (by simp [Zm]) (by decide) (by decide) rfl rfl (fun b_173=>?_)
 refine ZU (b:=b_167) (by repeat (first | exact Q7.here | apply Q7.there)) (fun I19 hI19 h_167=>?_)
 have hEn:=hEn.mono hI19;have hwA:=hwA.mono hI19;have hzA:=hzA.mono hI19;have hwB:=hwB.mono hI19;have hzB:=hzB.mono hI19;have hwC:=hwC.mono hI19;have hzC:=hzC.mono hI19;have hprA:=hprA.mono hI19;have hIc:=hIc.trans hI19
 refine ZU (b:=b_169) (by repeat (first | exact Q7.here | apply Q7.there)) (fun I20 hI20 h_169=>?_)
 have hEn:=hEn.mono hI20;have hwA:=hwA.mono hI20;have hzA:=hzA.mono hI20;have hwB:=hwB.mono hI20;have hzB:=hzB.mono hI20;have hwC:=hwC.mono hI20;have hzC:=hzC.mono hI20;have hprA:=hprA.mono hI20;have hIc:=hIc.trans hI20
 have h_167:=hI20 _ _ h_167
 refine ZU (b:=b_171) (by repeat (first | exact Q7.here | apply Q7.there)) (fun I21 hI21 h_171=>?_)
 have hEn:=hEn.mono hI21;have hwA:=hwA.mono hI21;have hzA:=hzA.mono hI21;have hwB:=hwB.mono hI21;have hzB:=hzB.mono hI21;have hwC:=hwC.mono hI21;have hzC:=hzC.mono hI21;have hprA:=hprA.mono hI21;have hIc:=hIc.trans hI21
 have h_167:=hI21 _ _ h_167
 have h_169:=hI21 _ _ h_169
 refine ZU (b:=b_173) (by repeat (first | exact Q7.here | apply Q7.there)) (fun I22 hI22 h_173=>?_)
 have hEn:=hEn.mono hI22;have hwA:=hwA.mono hI22;have hzA:=hzA.mono hI22;have hwB:=hwB.mono hI22;have hzB:=hzB.mono hI22;have hwC:=hwC.mono hI22;have hzC:=hzC.mono hI22;have hprA:=hprA.mono hI22;have hIc:=hIc.trans hI22
 have h_167:=hI22 _ _ h_167
 have h_169:=hI22 _ _ h_169
 have h_171:=hI22 _ _ h_171
 have hOE:=zpZ h_167 h_169 h_171 h_173
 refine qc (vs:=[_,_]) rfl zuY (zpQ hEn hOE) ?_
 refine zO ?_
 refine zM ?_
 refine QM (dj:=176) rfl rfl rfl ?_
 refine zM ?_
 refine QM (dj:=176) rfl rfl rfl ?_
 refine zV (Zw (ps:=[(0,_),(1,_)]) [_,_] YP Ku rfl rfl) ?_
 refine QM (dj:=176) rfl rfl rfl ?_
 refine Qq (ps:=[(0,_)]) (m:=[VN ((0:Int),(5:Int))]) JH rfl (.cons rfl (.nil)) rfl (by simp [VN]) (by decide) (by decide) rfl rfl (fun b_179=>?_)
 refine ZU (b:=b_179) (by repeat (first | exact Q7.here | apply Q7.there)) (fun I23 hI23 h_179=>?_)
 have hwA:=hwA.mono hI23;have hzA:=hzA.mono hI23;have hwB:=hwB.mono hI23;have hzB:=hzB.mono hI23;have hwC:=hwC.mono hI23;have hzC:=hzC.mono hI23;have hprA:=hprA.mono hI23;have hIc:=hIc.trans hI23
 have hOP:Sl I23 2 VN (some ⟨b_179,0,none⟩) 1 1 [((0:Int),(5:Int))]:=Sl.lit _ rfl (fun _=>rfl) h_179
 refine QM (dj:=176) rfl rfl rfl ?_
 refine qc (vs:=[_,_]) rfl zto (zpl hprA hOP (by decide)) ?_
 refine QM (dj:=176) rfl rfl rfl ?_
 refine zO ?_
 refine zV (ZJ rfl rfl rfl) ?_
 refine zN ?_
 refine zI ?_ ?_<;>intro hc182
 ·
  exact absurd hc182 (by decide)
 refine Qo (Qa (zR ?_))
 refine zV (Qp rfl YV (fun hg=>by exact Cells.g3) rfl) ?_
 refine Qq (ps:=[(0,_)]) (m:=[QQ 2]) Zh rfl (.cons rfl (.nil)) rfl (by simp [Qv]) (by decide) (by decide) rfl rfl (fun b_184=>?_)
 refine zV (QR (ps:=[(0,_),(3,_)]) [_,_,_,_] XZ rfl rfl) ?_
 refine ZU (b:=b_184) (by repeat (first | exact Q7.here | apply Q7.there)) (fun I24 hI24 h_184=>?_)
 have hwA:=hwA.mono hI24;have hzA:=hzA.mono hI24;have hwB:=hwB.mono hI24;have hzB:=hzB.mono hI24;have hwC:=hwC.mono hI24;have hzC:=hzC.mono hI24;have hIc:=hIc.trans hI24
 have hv4:Sl I24 1 QQ (some ⟨b_184,0,none⟩) 1 1 [2]:=Sl.lit ([2]:List Int) rfl Qv (show _=some (Obj.cells (([2]:List Int).flatMap QQ).toArray 3 (0,0)) from h_184)
 refine qc (vs:=[_,_]) rfl ziO (zd6 hwA hzA .nil hv4 (by rw [←hwA.len];decide) (by rw [←hzA.len];decide)) ?_
 refine zM ?_
 refine QM (dj:=187) rfl rfl rfl ?_
 refine zV (Qp rfl YV (fun hg=>by exact Cells.g2) rfl) ?_
 refine QM (dj:=187) rfl rfl rfl ?_
 refine Qq (ps:=[(0,_)]) (m:=[QQ 0]) Zh rfl (.cons rfl (.nil)) rfl (by simp [Qv]) (by decide) (by decide) rfl rfl (fun b_189=>?_)
 refine QM (dj:=187) rfl rfl rfl ?_
 refine zV (QR (ps:=[(0,_),(2,_)]) [_,_,_,_] XZ rfl rfl) ?_
 refine ZU (b:=b_189) (by repeat (first | exact Q7.here | apply Q7.there)) (fun I25 hI25 h_189=>?_)
 have hwB:=hwB.mono hI25;have hzB:=hzB.mono hI25;have hwC:=hwC.mono hI25;have hzC:=hzC.mono hI25;have hIc:=hIc.trans hI25
 have hv5:Sl I25 1 QQ (some ⟨b_189,0,none⟩) 1 1 [0]:=Sl.lit ([0]:List Int) rfl Qv (show _=some (Obj.cells (([0]:List Int).flatMap QQ).toArray 3 (0,0)) from h_189)
 refine QM (dj:=187) rfl rfl rfl ?_
 refine qc (vs:=[_,_]) rfl ziO (zd6 hwB hzB hv5 .nil (by rw [←hwB.len];decide) (by rw [←hzB.len];decide)) ?_
 refine zV (ZJ rfl rfl rfl) ?_
 refine zM ?_
 refine QM (dj:=193) rfl rfl rfl ?_
 refine zV (Qp rfl YV (fun hg=>by exact Cells.g1) rfl) ?_
 refine QM (dj:=193) rfl rfl rfl ?_
 refine Qq (ps:=[(0,_)]) (m:=[QQ 0]) Zh rfl (.cons rfl (.nil)) rfl (by simp [Qv]) (by decide) (by decide) rfl rfl (fun b_195=>?_)
 refine QM (dj:=193) rfl rfl rfl ?_
 refine zV (QR (ps:=[(0,_),(2,_)]) [_,_,_,_] XZ rfl rfl) ?_
 refine ZU (b:=b_195) (by repeat (first | exact Q7.here | apply Q7.there)) (fun I26 hI26 h_195=>?_)
 have hwC:=hwC.mono hI26;have hzC:=hzC.mono hI26;have hIc:=hIc.trans hI26
 have hv6:Sl I26 1 QQ (some ⟨b_195,0,none⟩) 1 1 [0]:=Sl.lit ([0]:List Int) rfl Qv (show _=some (Obj.cells (([0]:List Int).flatMap QQ).toArray 3 (0,0)) from h_195)
 refine QM (dj:=193) rfl rfl rfl ?_
 refine qc (vs:=[_,_]) rfl ziO (zd6 hwC hzC hv6 .nil (by rw [←hwC.len];decide) (by rw [←hzC.len];decide)) ?_
 refine zV (ZJ rfl rfl rfl) ?_
 refine zA (zN (Qt ?_))
 exact zp hIc rfl rfl (by rfl)
end
section
open Go Go.Kn Go.Proofs
theorem zpX {I:Qu}:SlW I none 0 0 []:=⟨[],.nil,rfl,fun k w x h=>by simp at h⟩
theorem zq7 {I:Qu}:SlP I none 0 0 []:=⟨.nil,fun p hp=>by cases hp⟩
theorem ziq {rows:List (List Int)}{rd:List Int}:∀ k,(zaj rows rd k).length≤k
 | 0=>Nat.le_refl _
 | k+1=>by
  rw [XN,List.length_append]
  have:=ziq (rows:=rows) (rd:=rd) k
  have h2:(zm1 rows rd k).length≤1:=by unfold zm1;split<;>simp
  omega
theorem ze6 {rows:List (List Int)}{q:Nat}:∀ (m:Nat) (o:Option Int),(zhP rows q m o).length≤m∧∀ u∈zhP rows q m o,u.ws.length≤rows.length
 | m,none=>by cases m<;>exact ⟨Nat.zero_le _,fun u hu=>by cases hu⟩
 | 0,some _=>⟨Nat.le_refl _,fun u hu=>by cases hu⟩
 | m+1,some c=>by
  have ih:=ze6 (rows:=rows) (q:=q) m (zad rows q c)
  rw [Xx]
  refine ⟨by rw [List.length_cons];omega,fun u hu=>?_⟩
  rcases List.mem_cons.1 hu with rfl | hu
  ·
   exact zdF
  ·
   exact ih.2 u hu
end
section
open Go Go.Kn Go.Proofs
theorem zrK:Fun Tryz.prog 10:=.of Tryz.func10 (by kernel_rfl) (by kernel_rfl)
theorem zvG:Fun Tryz.prog 9:=.of Tryz.func9 (by kernel_rfl) (by kernel_rfl)
end
section
open Go Go.Kn Go.Proofs
theorem zay:Vx (α:=Int×Int) Tryz.prog 79 YA:=ze4 zci
end
end Go.Proofs.YtodakphagkommaaGreatDoor.R
section
namespace Go.Kn
open Go
section
variable {C:Cx} {E:Env} {I:Qu} {loc:Loc} {S:GS} {dst:Option Tmp} {ty:TypeId} {pos:String} {af:Array Edge} {gd:Option (Nat×Bool)} {x y:Operand}
variable {α β:Type} [DecidableEq α] {ek:α→Value} {ev:β→Value} {m:List (α×β)} {a:α}
theorem zcR {t k e r:Nat}{zv:Value}(z v:β)(b:Bool)(hz:ev z=zv)(hv:(Zs m a).getD z=v)(hb:(Zs m a).isSome=b)(hT:MpT C.P t k e zv)(hK:Vx C.P k ek)(hx:QA S E x=some (.map (some r)))(hy:QA S E y=some (ek a))(hm:ZT S=true→Mem I loc r (ZM ek ev m)):
  QT C S E I loc ⟨dst,.lookup t x y true,ty,pos,af,gd⟩ (.tuple #[ev v,.bool b]):=by
 have:=JV (C:=C) (S:=S) (dst:=dst) (ty:=ty) (pos:=pos) (af:=af) (gd:=gd) hT hK hx hy hm
 subst hv;subst hb;subst hz
 cases h:Zs m a with
 | none=>rw [h] at this;exact this
 | some b=>rw [h] at this;exact this
end
end Go.Kn
namespace Go.Proofs.YtodakphagkommaaGreatDoor.R
open Go Go.Kn Go.Proofs
theorem zjz {rows:List (List Int)}{q:Nat}:∀ (m:Nat) (n:Int),zvh rows q m (zad rows q n)→
  (zhP rows q m (zad rows q n)).Pairwise (fun a b=>a.code<b.code)∧(∀ v∈zhP rows q m (zad rows q n),n<v.code∧v.ws=Jl rows q v.code∧∃ r∈rows,r.getD q 0=v.code)∧∀ r∈rows,n<r.getD q 0→∃ v∈zhP rows q m (zad rows q n),v.code=r.getD q 0:=by
 intro m
 induction m with
 | zero=>
  intro n h
  cases ho:zad rows q n with
  | some c=>rw [ho] at h;obtain ⟨m',e,_⟩:=zey h;omega
  | none=>
   rw [XX]
   refine ⟨.nil,(fun v hv=>by cases hv),fun r hr hn=>?_⟩
   obtain ⟨c,h1,_⟩:=(Ww (q:=q) (n:=n) (rows:=rows) (o:=none) (fun b e=>by cases e)).1 r hr hn
   have h2:zad rows q n=some c:=h1
   rw [ho] at h2;cases h2
 | succ m ih=>
  intro n h
  cases ho:zad rows q n with
  | none=>
   rw [XX]
   refine ⟨.nil,(fun v hv=>by cases hv),fun r hr hn=>?_⟩
   obtain ⟨c,h1,_⟩:=(Ww (q:=q) (n:=n) (rows:=rows) (o:=none) (fun b e=>by cases e)).1 r hr hn
   have h2:zad rows q n=some c:=h1
   rw [ho] at h2;cases h2
  | some c=>
   rw [ho] at h
   obtain ⟨m',e,hv⟩:=zey h
   have e:m'=m:=by omega
   subst e
   obtain ⟨h1,h2,h3⟩:=ih c hv
   obtain ⟨hn,hr⟩:=zb2 ho
   rw [Xx]
   refine ⟨List.pairwise_cons.2 ⟨fun v hv=>(h2 v hv).1,h1⟩,fun v hv=>?_,fun r hr hn=>?_⟩
   ·
    rcases List.mem_cons.1 hv with rfl | hv
    ·
     exact ⟨hn,rfl,hr⟩
    ·
     obtain ⟨a,b⟩:=h2 v hv;exact ⟨by omega,b⟩
   ·
    obtain ⟨d,g1,g2⟩:=(Ww (q:=q) (n:=n) (rows:=rows) (o:=none) (fun b e=>by cases e)).1 r hr hn
    have g3:zad rows q n=some d:=g1
    rw [ho] at g3;cases g3
    by_cases e:c=r.getD q 0
    ·
     exact ⟨_,List.mem_cons_self ..,e⟩
    ·
     obtain ⟨v,a,b⟩:=h3 r hr (by omega);exact ⟨v,List.mem_cons_of_mem _ a,b⟩
theorem zdp {rows:List (List Int)}{q:Nat}{c x:Int}:x∈Jl rows q c↔ ∃ (i:Nat) (r:List Int),x=(i:Int)∧rows[i]? =some r∧r.getD q 0=c:=by
 unfold Jl ixF
 rw [List.mem_map]
 constructor
 ·
  rintro ⟨⟨r,i⟩,h,e⟩
  obtain ⟨h1,h2⟩:=List.mem_filter.1 h
  rw [List.mem_iff_getElem?] at h1
  obtain ⟨j,hj⟩:=h1
  rw [List.getElem?_zipIdx] at hj
  cases hr:rows[j]? with
  | none=>rw [hr] at hj;cases hj
  | some r'=>
   rw [hr] at hj
   simp only [Option.map_some,Option.some.injEq,Prod.mk.injEq] at hj
   obtain ⟨rfl,rfl⟩:=hj
   exact ⟨j,r',by rw [←e];simp,hr,by simpa using h2⟩
 ·
  rintro ⟨i,r,rfl,hr,hc⟩
  refine ⟨(r,i),List.mem_filter.2 ⟨?_,by simpa using hc⟩,rfl⟩
  rw [List.mem_iff_getElem?]
  exact ⟨i,by simp [List.getElem?_zipIdx,hr]⟩
theorem zdX {rows:List (List Int)}{q:Nat}{c:Int}:(Jl rows q c).length=rows.countP fun r=>r.getD q 0==c:=by
 unfold Jl ixF
 rw [List.length_map,←List.countP_eq_length_filter]
 have h:=List.countP_map (p:=fun r:List Int=>r.getD q 0==c) (f:=Prod.fst) (l:=rows.zipIdx)
 rw [List.zipIdx_map_fst] at h
 rw [h]
 rfl
structure LcP (rows:List (List Int))(q:Nat)(n:Int)(V:List Vt)(b:Bool):Prop where
 inc:V.Pairwise fun a b=>a.code<b.code
 ws:∀ v∈V,v.ws=Jl rows q v.code∧0<v.ws.length
 all:b=true→∀ r∈rows,∃ v∈V,v.code=r.getD q 0
 few:b=true→(Jl rows q n).length<rows.length
 no:b=false→V=[]∧∀ r∈rows,r.getD q 0=n
 len:V.length≤rows.length
theorem zhI {rows:List (List Int)}{q:Nat}{n:Int}(h0:∀ r∈rows,0≤r.getD q 0)(h:(Jl rows q n).length<rows.length):LcP rows q n (zf9 rows q) true:=by
 obtain ⟨h1,h2,h3⟩:=zjz (rows:=rows) (q:=q) rows.length (-1) zkD
 refine ⟨h1,fun v hv=>?_,fun _ r hr=>h3 r hr (by have:=h0 r hr;omega),fun _=>h,(fun e=>by cases e),(ze6 _ _).1⟩
 obtain ⟨_,a,b⟩:=h2 v hv
 exact ⟨a,by rw [a];exact zh3 b⟩
theorem ztV {rows:List (List Int)}{q:Nat}{n:Int}(h:¬(Jl rows q n).length<rows.length):LcP rows q n [] false:=by
 refine ⟨.nil,(fun v hv=>by cases hv),(fun e=>by cases e),(fun e=>by cases e),fun _=>⟨rfl,?_⟩,Nat.zero_le _⟩
 rw [zdX] at h
 have h1:=List.countP_le_length (p:=fun r:List Int=>r.getD q 0==n) (l:=rows)
 have h2:=List.countP_eq_length.1 (show rows.countP (fun r:List Int=>r.getD q 0==n)=rows.length by omega)
 exact fun r hr=>by simpa using h2 r hr
section
variable {rows:List (List Int)} {q:Nat} {n:Int} {V:List Vt} {b:Bool}
def inA (V:List Vt)(j:Nat)(c:Int):Bool:=(V.take j).any fun v=>v.code==c
theorem zel {j:Nat}{v:Vt}(h:V[j]? =some v)(c:Int):inA V (j+1) c=(inA V j c||v.code==c):=by unfold inA;rw [Xb h]
def gO (V:List Vt)(n:Int)(j:Nat)(c:Int):Int:=if inA V j c then c else n
def zqr (rows:List (List Int))(q i:Nat):Int:=(rows.getD i []).getD q 0
def mC (rows:List (List Int))(q:Nat)(V:List Vt)(j:Nat):Nat:=rows.countP fun r=>inA V j (r.getD q 0)
theorem zxy:mC rows q V 0=0:=by
 unfold mC
 rw [List.countP_eq_zero]
 intro r _ h
 unfold inA at h
 rw [List.take_zero] at h
 cases h
theorem zmG {α:Type}{p r:α→Bool}:∀ {l:List α},(∀ x∈l,p x=true→r x=false)→l.countP (fun x=>p x||r x)=l.countP p+l.countP r
 | [],_=>rfl
 | x::l,h=>by
  have ih:=zmG (p:=p) (r:=r) (l:=l) fun y hy=>h y (List.mem_cons_of_mem _ hy)
  have hx:=h x (List.mem_cons_self ..)
  rw [List.countP_cons,List.countP_cons,List.countP_cons,ih]
  cases hp:p x with
  | true=>rw [hx hp];simp;omega
  | false=>cases r x<;>simp<;>omega
theorem zhT (h:LcP rows q n V b){j:Nat}{v:Vt}(hv:V[j]? =some v):mC rows q V (j+1)=mC rows q V j+v.ws.length:=by
 rw [(h.ws v (List.mem_of_getElem? hv)).1,zdX]
 have e:(fun r:List Int=>r.getD q 0==v.code)=fun r:List Int=>v.code==r.getD q 0:=by funext r;rw [Bool.beq_comm]
 rw [e]
 unfold mC
 rw [show (fun r:List Int=>inA V (j+1) (r.getD q 0))=fun r=>inA V j (r.getD q 0)||v.code==r.getD q 0 from funext fun r=>zel hv _]
 refine zmG fun r _ hr=>?_
 unfold inA at hr
 rw [List.any_eq_true] at hr
 obtain ⟨u,hu,he⟩:=hr
 rw [beq_iff_eq] at he
 obtain ⟨i,hi⟩:=List.getElem?_of_mem hu
 rw [List.getElem?_take] at hi
 split at hi
 ·
  obtain ⟨a1,a2⟩:=List.getElem?_eq_some_iff.1 hi
  obtain ⟨b1,b2⟩:=List.getElem?_eq_some_iff.1 hv
  have:=List.pairwise_iff_getElem.1 h.inc i j a1 b1 (by omega)
  rw [a2,b2] at this
  rw [beq_eq_false_iff_ne];omega
 ·
  cases hi
theorem zwC (h:LcP rows q n V b){j:Nat}{v:Vt}(hv:V[j]? =some v):mC rows q V j+v.ws.length≤rows.length:=by rw [←zhT h hv];exact List.countP_le_length ..
theorem zr1 (h:LcP rows q n V true){k m:Nat}(hm:V.length=m)(hk:m≤k):mC rows q V k=rows.length:=by
 unfold mC
 rw [List.countP_eq_length]
 intro r hr
 obtain ⟨v,hv,e⟩:=h.all rfl r hr
 unfold inA
 rw [List.take_of_length_le (by omega),List.any_eq_true]
 exact ⟨v,hv,by simpa using e⟩
theorem ztb (h : LcP rows q n V b) {k m : Nat} (hm : V.length = m) (hk : m ≤ k) {r : List Int} (hr : r ∈ rows) : gO V n k (r.getD q 0) = r.getD q 0 := by
  unfold gO
  cases b with
  | false => split
             · rfl
             · exact ((h.no rfl).2 r hr).symm
  | true =>
    rw [if_pos]
    obtain ⟨v, hv, e⟩ := h.all rfl r hr
    unfold inA
    rw [List.take_of_length_le (by omega), List.any_eq_true]
    exact ⟨v, hv, by simpa using e⟩
theorem ziN {i:Nat}{r:List Int}(h:rows[i]? =some r):zqr rows q i=r.getD q 0:=by unfold zqr;rw [QY h]
theorem zpU (h:LcP rows q n V b){j:Nat}{v:Vt}(hv:V[j]? =some v){i:Nat}(hi:i<rows.length):(if (i:Int)∈v.ws then v.code else gO V n j (zqr rows q i))=gO V n (j+1) (zqr rows q i):=by
 obtain ⟨r,hr⟩:∃ r,rows[i]? =some r:=⟨_,List.getElem?_eq_getElem hi⟩
 rw [(h.ws v (List.mem_of_getElem? hv)).1,ziN hr]
 unfold gO
 rw [zel hv]
 by_cases e:v.code=r.getD q 0
 ·
  rw [if_pos (zdp.2 ⟨i,r,rfl,hr,e.symm⟩),if_pos (by simp [e]),e]
 ·
  rw [if_neg]
  ·
   have:(v.code==r.getD q 0)=false:=by simpa using e
   rw [this,Bool.or_false]
  ·
   intro hm
   obtain ⟨i',r',e1,e2,e3⟩:=zdp.1 hm
   have:i'=i:=by omega
   subst this
   rw [hr] at e2;cases e2
   exact e e3.symm
theorem zw3 (h:LcP rows q n V b){v:Vt}(hv:v∈V){t:Nat}{x:Int}(hx:v.ws[t]? =some x):∃ i:Nat,x=(i:Int)∧i<rows.length:=by
 have:=List.mem_of_getElem? hx
 rw [(h.ws v hv).1] at this
 obtain ⟨i,r,e,hr,_⟩:=zdp.1 this
 exact ⟨i,e,(List.getElem?_eq_some_iff.1 hr).1⟩
theorem zw8 {g:Nat→Int}{f:Nat→Int}{ws:List Int}{t w m:Nat}{c:Int}(hg:∀ i,i<m→g i=if (i:Int)∈ws.take t then c else f i)(hw:ws[t]? =some (w:Int)):∀ i,i<m→Kv g w c i=if (i:Int)∈ws.take (t+1) then c else f i:=by
 intro i hi
 unfold Kv
 by_cases e:i=w
 ·
  subst e
  rw [if_pos rfl,if_pos]
  rw [List.take_add_one,hw];simp
 ·
  rw [if_neg e,hg i hi,List.take_add_one,hw]
  have:(i:Int)≠(w:Int):=by omega
  simp [this]
theorem zq4 (h:LcP rows q n V true){v:Vt}(hl:V.length=1)(hv:V[0]? =some v):v.code≠n:=by
 intro e
 have hf:=h.few rfl
 have hs:V=[v]:=by
  cases V with
  | nil=>cases hl
  | cons a l=>simp at hl hv;rw [hv,hl]
 have:(Jl rows q n).length=rows.length:=by
  rw [zdX,List.countP_eq_length]
  intro r hr
  obtain ⟨u,hu,e2⟩:=h.all rfl r hr
  rw [hs,List.mem_singleton] at hu
  subst hu
  rw [←e2,e];simp
 omega
theorem zta (h:LcP rows q n V b){k:Nat}{x y:Vt}(hx:V[((k:Int)-1).toNat]? =some x)(hy:V[k]? =some y)(hk:(k:Int)>0):x.code<y.code:=by
 obtain ⟨h1,e1⟩:=List.getElem?_eq_some_iff.1 hx
 obtain ⟨h2,e2⟩:=List.getElem?_eq_some_iff.1 hy
 have:=List.pairwise_iff_getElem.1 h.inc _ _ h1 h2 (by omega)
 rw [e1,e2] at this
 exact this
end
/-! The entries by their loci. -/
def zcD (x:Eh):Value:=.agg (Wp x).toArray
def zEh:Eh:=⟨0,0,⟨none,0,0⟩⟩
def atM (hs:List Eh):List (Int×Eh):=hs.map fun x=>(x.loc,x)
theorem WY {rows:List (List Int)}{rd:List Int}{m:Nat}{e:En}:e∈zaj rows rd m↔ ∃ k:Nat,k<m∧(Jl rows k (rd.getD k 0)).length<rows.length∧e=⟨(k:Int),rd.getD k 0,zf9 rows k⟩:=by
 unfold zaj
 rw [List.mem_flatMap]
 constructor
 ·
  rintro ⟨k,hk,he⟩
  unfold zm1 at he
  split at he
  ·
   rw [List.mem_singleton] at he;exact ⟨k,List.mem_range.1 hk,by assumption,he⟩
  ·
   cases he
 ·
  rintro ⟨k,hk,h,rfl⟩
  exact ⟨k,List.mem_range.2 hk,by unfold zm1;rw [if_pos h];exact List.mem_singleton.2 rfl⟩
theorem zbQ {rows:List (List Int)}{rd:List Int}:∀ m:Nat,(zaj rows rd m).Pairwise fun a b=>a.loc<b.loc
 | 0=>.nil
 | m+1=>by
  by_cases h:(Jl rows m (rd.getD m 0)).length<rows.length
  ·
   rw [zeS h,List.pairwise_append]
   refine ⟨zbQ m,List.pairwise_singleton ..,fun a ha b hb=>?_⟩
   obtain ⟨k,hk,_,rfl⟩:=WY.1 ha
   rw [List.mem_singleton] at hb;subst hb
   show (k:Int)<(m:Int)
   omega
  ·
   rw [zgz h];exact zbQ m
theorem Jj {l:List Eh}{a:Int}(h:∀ x∈l,x.loc≠a):Zs (atM l) a=none:=by
 unfold atM
 induction l with
 | nil=>rfl
 | cons p l ih=>
  rw [List.map_cons];unfold Zs
  rw [if_neg (h p (List.mem_cons_self ..))]
  exact ih fun x hx=>h x (List.mem_cons_of_mem _ hx)
theorem zgO {l:List Eh}{a:Int}{x:Eh}(h:Zs (atM l) a=some x):x∈l∧x.loc=a:=by
 unfold atM at h
 induction l with
 | nil=>cases h
 | cons p l ih=>
  rw [List.map_cons] at h;unfold Zs at h
  split at h
  ·
   cases h;exact ⟨List.mem_cons_self ..,by assumption⟩
  ·
   obtain ⟨a,b⟩:=ih h;exact ⟨List.mem_cons_of_mem _ a,b⟩
section
variable {I:Qu} {hs:List Eh} {rows:List (List Int)} {rd:List Int} {m:Nat}
theorem zcd (hR:WO I hs (zaj rows rd m)){i j:Nat}{x y:Eh}(hx:hs[i]? =some x)(hy:hs[j]? =some y)(h:i<j):x.loc<y.loc:=by
 have hlt:j<hs.length:=(List.getElem?_eq_some_iff.1 hy).1
 rw [hR.1] at hlt
 have e1:=List.getElem?_eq_getElem (show i<(zaj rows rd m).length by omega)
 have e2:=List.getElem?_eq_getElem hlt
 have r1:=hR.2 i _ _ hx e1
 have r2:=hR.2 j _ _ hy e2
 rw [r1.1,r2.1]
 exact List.pairwise_iff_getElem.1 (zbQ m) i j (by omega) hlt h
theorem zlE (hR:WO I hs (zaj rows rd m)){i:Nat}{x:Eh}(hx:hs[i]? =some x):Yp (atM (hs.take i)) x.loc x=atM (hs.take (i+1)):=by
 have hn:Zs (atM (hs.take i)) x.loc=none:=Jj fun y hy=>by
  obtain ⟨j,hj⟩:=List.getElem?_of_mem hy
  rw [List.getElem?_take] at hj
  split at hj
  ·
   have:=zcd hR hj hx (by assumption);omega
  ·
   cases hj
 have hi:Up (atM (hs.take i)) x.loc 0=none:=by
  have:=Jh (atM (hs.take i)) x.loc 0
  rw [hn] at this
  cases h:Up (atM (hs.take i)) x.loc 0 with
  | none=>rfl
  | some p=>rw [h] at this;cases this
 rw [Uv _ _ _ 0 hi,List.take_add_one,hx]
 unfold atM;simp
theorem ztz (hR:WO I hs (zaj rows rd m))(h0:∀ k,k<m→∀ r∈rows,0≤r.getD k 0){k:Nat}(hk:k<m):∃ (v:Eh) (b:Bool) (V:List Vt),(Zs (atM hs) (k:Int)).getD zEh=v∧(Zs (atM hs) (k:Int)).isSome=b∧SlV I v.h.a v.h.n v.h.c V∧LcP rows k (rd.getD k 0) V b:=by
 by_cases h:(Jl rows k (rd.getD k 0)).length<rows.length
 ·
  have hm:(⟨(k:Int),rd.getD k 0,zf9 rows k⟩:En)∈zaj rows rd m:=WY.2 ⟨k,hk,h,rfl⟩
  obtain ⟨i,hi⟩:=List.getElem?_of_mem hm
  obtain ⟨x,hx,r1,r2,r3⟩:=hR.at hi
  cases hg:Zs (atM hs) (k:Int) with
  | none=>
   exfalso
   have:Zs (atM hs) (k:Int)=some x:=by
    have hnd:(atM hs).Pairwise fun a b=>a.1<b.1:=by
     unfold atM
     rw [List.pairwise_map,List.pairwise_iff_getElem]
     intro i j hi hj hij
     exact zcd hR (List.getElem?_eq_getElem hi) (List.getElem?_eq_getElem hj) hij
    have:=X7 (m:=atM hs) (p:=(x.loc,x)) (by
     rw [List.nodup_iff_pairwise_ne,List.pairwise_map];exact hnd.imp fun {a b} h e=>by omega) (List.mem_map.2 ⟨x,List.mem_of_getElem? hx,rfl⟩)
    rw [show (k:Int)=x.loc from r1.symm];exact this
   rw [hg] at this;cases this
  | some y=>
   obtain ⟨h1,h2⟩:=zgO hg
   obtain ⟨j,hj⟩:=List.getElem?_of_mem h1
   have hij:j=i:=by
    rcases Nat.lt_trichotomy j i with h | h | h
    ·
     have:=zcd hR hj hx h;have:x.loc=(k:Int):=r1;omega
    ·
     exact h
    ·
     have:=zcd hR hx hj h;have:x.loc=(k:Int):=r1;omega
   subst hij
   rw [hx] at hj;cases hj
   exact ⟨x,true,zf9 rows k,rfl,rfl,r3,zhI (h0 k hk) h⟩
 ·
  have hg:Zs (atM hs) (k:Int)=none:=Jj fun x hx e=>by
   obtain ⟨i,hi⟩:=List.getElem?_of_mem hx
   have hlt:i<hs.length:=(List.getElem?_eq_some_iff.1 hi).1
   rw [hR.1] at hlt
   have e1:=List.getElem?_eq_getElem hlt
   have r1:=hR.2 i _ _ hi e1
   obtain ⟨k',hk',h',e2⟩:=WY.1 (List.mem_of_getElem? e1)
   rw [e2] at r1
   have:(k':Int)=(k:Int):=by rw [←e];exact r1.1.symm
   have:k'=k:=by omega
   subst this
   exact h h'
  exact ⟨zEh,false,[],by rw [hg];rfl,by rw [hg];rfl,⟨[],.nil,zaf.nil⟩,ztV h⟩
theorem ztW (hR:WO I hs (zaj rows rd m))(h0:∀ k,k<m→∀ r∈rows,0≤r.getD k 0){i:Nat}{x:Eh}(hx:hs[i]? =some x):∃ k:Nat,k<m∧x.loc=(k:Int)∧x.lem=rd.getD k 0∧0<x.h.n:=by
 have hlt:i<hs.length:=(List.getElem?_eq_some_iff.1 hx).1
 rw [hR.1] at hlt
 have e1:=List.getElem?_eq_getElem hlt
 obtain ⟨r1,r2,r3⟩:=hR.2 i _ _ hx e1
 obtain ⟨k,hk,h,e2⟩:=WY.1 (List.mem_of_getElem? e1)
 rw [e2] at r1 r2 r3
 refine ⟨k,hk,r1,r2,?_⟩
 have hl:=r3.len
 have hp:=zhI (h0 k hk) h
 cases hr:rows with
 | nil=>rw [hr] at h;simp at h
 | cons r l=>
  obtain ⟨v,hv,_⟩:=hp.all rfl r (by rw [hr];exact List.mem_cons_self ..)
  have:=List.length_pos_of_mem hv
  have hl:(zf9 rows k).length=x.h.n:=hl
  omega
end
end Go.Proofs.YtodakphagkommaaGreatDoor.R
end
namespace Go.Proofs.YtodakphagkommaaGreatDoor.R
section
open Go Go.Kn Go.Proofs
theorem zsv:AgT Tryz.prog 77 2:=.of (by kernel_rfl)
theorem znF:MpT Tryz.prog 71 3 74 (.agg #[(.int .i64 0),(.int .i64 0),(.slice none 0 0)]):=⟨by kernel_rfl,.of (by kernel_rfl)⟩
theorem zuN:SzT Tryz.prog 77 2:=.of (by kernel_rfl)
theorem zvP:Yi Tryz.prog 77 (.agg #[(.int .i64 0),(.slice none 0 0)]):=.of (by kernel_rfl)
theorem w_lRows {I:Qu}{bv:Option Addr}{n2 c2:Nat}{rows:List (List Int)}(hVn:SlN I bv n2 c2 rows){ea1:Option Addr}{en1 ec1:Nat}{ea2:Option Addr}{en2 ec2:Nat}{ea3:Option Addr}{en3 ec3:Nat}{xs:List Int}{es:List Em}{rd:List Int}(hX1:Sl I 1 QQ ea1 en1 ec1 xs)(hX2:Sl I 3 Yu ea2 en2 ec2 es)(hX3:Sl I 1 QQ ea3 en3 ec3 rd)(no:Int)(hDb:VJ I):Zx Tryz.prog 6 [.slice bv n2 c2,.agg (ZZ no ea1 en1 ec1 ea2 en2 ec2 ea3 en3 ec3).toArray] I (.bool true):=by
 intro g H w hw
 refine qe Tryz.func6 Tryz.ntmps6 hw ?_
 have hIc:=zxQ I
 have hVl:=hVn.len
 have hX1l:=hX1.len
 have hX2l:=hX2.len
 have hX3l:=hX3.len
 refine zR ?_
 refine Q5 rfl rfl rfl (fun b_3=>?_)
 refine zA (zN (Ql (zR ?_)))
 refine qc (vs:=[]) rfl zvG (ztK hDb) ?_
 refine zO (zN ?_)
 refine zI ?_ ?_<;>intro hc25
 ·
  cases hc25
 refine Qo (Qa (Ql (zR (zM ?_))))
 refine zV (Qp rfl Z6 (fun hg=>by exact Cells.g0) rfl) ?_
 refine qc (vs:=[_,_,_,_,_]) rfl zrK (zoR zpX (by decide) hVn hX1 hX2 hX3 no zq7 (.nil:Sl _ 1 QQ none 0 0 [])) ?_
 refine zO (zN ?_)
 refine zI ?_ ?_<;>intro hc29
 ·
  refine zR (zA (zN (Qt (Qc ?_))))
  exact zp hIc rfl rfl (by rfl)
 have hfew:zb4 [] rows xs es rd [] []=true:=zhq hc29
 obtain ⟨g1,g2,g3,g4,g5,g6,g7,g8,g9,g10⟩:=zqX hfew
 refine Qo (Qa (zR (zM ?_)))
 refine zV (Qp rfl Z6 (fun hg=>by exact Cells.g0) rfl) ?_
 refine Qz (cap:=[]) (vs:=[_,_]) rfl rfl zi1 .nil (XG hVn (by omega) hX1 hX2 hX3 (by omega) (by omega) (by omega) no hDb) rfl rfl ?_
 rintro vv1 I1 L1 hI1 ⟨rfl,ea,en,ec,rfl,hE1⟩
 have hVn:=hVn.mono hI1;have hX3:=hX3.mono hI1;have hIc:=hIc.trans hI1
 refine zM ?_
 refine zE ?_
 refine zE ?_
 refine zA ?_
 refine zA (zN (Ql (zR ?_)))
 refine zM ?_
 refine zC (zN ?_)
 refine zI ?_ ?_<;>intro hc37
 ·
  have he0:U8 rows no xs es rd≠0:=by simpa using hc37
  rw [zil he0] at hE1
  have hen:=hE1.len
  obtain rfl:en=0:=hen.symm
  refine zR (zM ?_)
  refine zQ Ki ?_
  refine zC ?_
  refine zA (zN (Qt (Qc ?_)))
  exact zp hIc rfl rfl (by rfl)
 have he0:U8 rows no xs es rd=0:=by simpa using hc37
 obtain ⟨hmk,hrd⟩:=zfb he0
 obtain ⟨hr1,hr6,hr64,hrr⟩:=Ue (Ut (zhW hmk))
 have hrdl:rd.length=(rows.getD 0 []).length:=by rw [hrd];exact U1
 have hX3l:=hX3.len
 have hc0:∀ k,k<rd.length→∀ r∈rows,0≤r.getD k 0:=fun k hk r hr=>by have h1:=hrr r hr;have h2:k<r.length:=(by omega);rw [QY (List.getElem?_eq_getElem h2)];exact (h1.2 _ (List.getElem_mem h2)).1
 rw [zaL he0] at hE1
 have hEn:=hE1.len
 have hEb:=ziq (rows:=rows) (rd:=rd) rd.length
 obtain ⟨hs,hEs,hER⟩:=hE1
 have hEsl:=hEs.len
 refine Qo (Qa (zR ?_))
 refine ZH rfl rfl (fun r_41=>?_)
 refine zA ?_
 refine zN (zR ?_)
 refine zA (zN (Ql (zR ?_)))
 refine zM ?_
 refine zQ Ki ?_
 refine zM (zN (Qm ?_))
 refine zU [(0,_),(3,_),(7,_),(42,_),(43,_)] (fun T L0 mz E I' loc'=>∃ (k:Nat) (m:List (Int×Eh)) (la:Int),mz=en-k∧E=(8,.int .i64 la)::(44,.int .i64 k)::T∧I1=I'∧[(r_41,ZM (Value.int .i64) zcD m),(b_3,.cells (ZZ no ea1 en1 ec1 ea2 en2 ec2 ea3 en3 ec3).toArray 26 (0,0))]=loc'∧k≤en∧m=atM (hs.take k)∧∀ x,hs[k]? =some x→la<x.loc) ?_ (h:=⟨0,[],(-1),rfl,rfl,rfl,rfl,Nat.zero_le _,rfl,(fun x hx=>by obtain ⟨q,_,e,_⟩:=ztW hER hc0 hx;omega)⟩)
 rintro mz E I' loc' ⟨k,m,la,rfl,rfl,rfl,rfl,hk,hm,hla⟩
 refine zR (zC (zN (Ql ?_)))
 refine zI ?_ ?_<;>intro hc45
 ·
  have hlt_k:k<en:=by have h:=hc45;simp at h;omega
  obtain ⟨x,hx⟩:=hEs.at hlt_k
  obtain ⟨q,hq,hxl,hxm,hxn⟩:=ztW hER hc0 hx
  have hgq:rd[x.loc.toNat]? =some (rd.getD q 0):=by rw [hxl];exact Zb rfl hq
  have hlx:=hla x hx
  refine Qo (Qa (Ql (Qm (zR ?_))))
  refine zV (zX Ki hEs) ?_
  refine zV (Qp rfl zfv (fun hg=>by exact zxR hEs hx) rfl) ?_
  refine Qs zkY rfl rfl (fun b_10=>?_)
  refine zh zew ?_
  refine zN (Ql (Ql ?_))
  refine YI mixed (by kernel_rfl) ?_
  refine zq (Qe rfl JM) ?_
  refine zq (Qd rfl Qr (fun hg=>by exact QS.h0 rfl)) ?_
  refine zq (Qi rfl) ?_
  refine zq (QH rfl rfl rfl) ?_
  refine zq (Qi rfl) ?_
  refine Ys 4 rfl rfl rfl ?_
  refine zj (Qe rfl JM) ?_
  refine zj (Qd rfl Qr (fun hg=>by exact QS.h0 rfl)) ?_
  refine zj (Qe rfl YS) ?_
  refine zj (Qd rfl QK (fun hg=>by exact QS.h2 rfl)) ?_
  refine zj (Zp rfl Qw) ?_
  refine zj (QH rfl rfl rfl) ?_
  refine Ju rfl rfl rfl rfl rfl ?_
  refine zq (Qi rfl) ?_
  refine Ys 12 rfl rfl rfl ?_
  refine zj (Qe rfl zaK) ?_
  refine zj (Qd rfl Qr (fun hg=>by exact QS.h0 rfl)) ?_
  refine zj (Qe rfl YS) ?_
  refine zj (Qd rfl QK (fun hg=>by exact QS.h2 rfl)) ?_
  refine zj (Qe rfl JM) ?_
  refine zj (Qd rfl Qr (fun hg=>by exact QS.h0 rfl)) ?_
  refine zj (zX Qw hX3) ?_
  refine zj (Qd rfl Qr (fun hg=>by exact zxJ hX3 hgq rfl)) ?_
  refine zj (QH rfl rfl rfl) ?_
  refine Ju rfl rfl rfl rfl rfl ?_
  refine zq (Qi rfl) ?_
  refine Ys 23 rfl rfl rfl ?_
  refine zj (Qe rfl VX) ?_
  refine zj (Qd rfl WK (fun hg=>by exact QS.h0 rfl)) ?_
  refine zj (Zp rfl JB) ?_
  refine zj (QH rfl rfl rfl) ?_
  refine Ju rfl rfl rfl rfl rfl ?_
  refine YH ?_
  refine Qa ?_
  refine zI ?_ ?_<;>intro hc76
  ·
   exfalso;have h:=hc76;simp only [Bool.or_eq_true,decide_eq_true_eq,beq_iff_eq,bne_iff_ne] at h;omega
  refine Qo (Qa (zR ?_))
  refine zF JM ?_
  refine zL Qr ?_
  refine zA (zN (Qg ?_))
  refine zM ?_
  refine zF JM ?_
  refine zL Qr ?_
  refine zV (Qp rfl zfv (fun hg=>by exact Cells.g0) rfl) ?_
  refine Q6 (m:=m) (ek:=Value.int .i64) (ev:=zcD) (a:=x.loc) x znF ZD rfl rfl rfl rfl (by repeat (first | exact Upd.here | apply Upd.there | apply QJ)) ?_
  refine Qb (Qh (Qa (Qg (zB ?_))))
  refine zM (Qb ?_)
  exact zm (h:=⟨en-(k+1),by omega,k+1,(Yp m x.loc x),x.loc,rfl,rfl,rfl,rfl,by omega,by rw [hm];exact zlE hER hx,fun y hy=>zcd hER hx hy (by omega)⟩)
 have hge_k:en≤k:=by have h:=hc45;simp at h;omega
 have hmT:m=atM hs:=by rw [hm,List.take_of_length_le (by omega)]
 subst hmT
 refine QI (Qf (Qf (Qk (Qa (Ql (zR ?_))))))
 refine zF YS ?_
 refine zL QK ?_
 refine zQ Qw ?_
 refine zM (zN (Qm ?_))
 refine zU [(0,_),(7,_),(85,_),(86,_)] (fun T L0 mz E I' loc'=>∃ (k:Nat),mz=en3-k∧E=(87,.int .i64 k)::T∧I1=I'∧[(r_41,ZM (Value.int .i64) zcD (atM hs)),(b_3,.cells (ZZ no ea1 en1 ec1 ea2 en2 ec2 ea3 en3 ec3).toArray 26 (0,0))]=loc'∧k≤en3) ?_ (h:=⟨0,rfl,rfl,rfl,rfl,Nat.zero_le _⟩)
 rintro mz E I' loc' ⟨k,rfl,rfl,rfl,rfl,hk⟩
 refine zR (zC (zN (Ql ?_)))
 refine zI ?_ ?_<;>intro hc88
 ·
  have hlt_k:k<en3:=by have h:=hc88;simp at h;omega
  have hgr:rd[k]? =some (rd.getD k 0):=Zb rfl (by omega)
  obtain ⟨yh,b,V,hyh,hb,hSV,hLc⟩:=ztz hER hc0 (show k<rd.length by omega)
  have hVln:=hSV.len
  obtain ⟨zs,hVh,hVR⟩:=hSV
  have hVhl:=hVh.len
  obtain ⟨z0,hv0⟩:∃ z0:Vh,yh.h.n≠0→zs[0]? =some z0:=⟨zs.getD 0 ⟨0,⟨none,0,0⟩⟩,fun h=>Zb rfl (by omega)⟩
  refine Qo (Qa (Ql (Qm (zR (zM ?_)))))
  refine zV (zX Qw hX3) ?_
  refine zV (Qd rfl Qr (fun hg=>by exact zxJ hX3 hgr rfl)) ?_
  refine zA ?_
  refine zA ?_
  refine zN (zR ?_)
  refine zM ?_
  refine zM ?_
  refine zV (zcR (m:=atM hs) (ek:=Value.int .i64) (ev:=zcD) (a:=(k:Int)) zEh yh b rfl hyh hb znF ZD rfl rfl (fun _=>.inr (by simp))) ?_
  refine zM ?_
  refine zE ?_
  refine zE ?_
  refine Qs zkY rfl rfl (fun b_13=>?_)
  refine zh zew ?_
  refine zA ?_
  refine zN (zR ?_)
  refine zM ?_
  refine zQ Zk ?_
  refine Q3 YB rfl rfl (by omega) (by decide) rfl rfl (fun b_100=>?_)
  refine zA (Qb ?_)
  rw [show ((n2:Nat):Int).toNat=n2 from rfl,Q4,Ze]
  refine Qa (zR (zA (zN (Ql (zR ?_)))))
  refine zM ?_
  refine zQ Qw ?_
  refine zM (zN (Qm ?_))
  refine zU [(0,_),(7,_),(11,_),(12,_),(13,_),(14,_),(15,_),(16,_),(85,_),(86,_),(87,_),(102,_)] (fun T L0 mz E I' loc'=>∃ (i:Nat) (g:Nat→Int),mz=n2-i∧E=(103,.int .i64 i)::T∧I1=I'∧[(b_100,.cells (Zd (Y1 n2 g)) 3 (0,0)),(b_13,.cells (Wp yh).toArray 74 (0,0)),(r_41,ZM (Value.int .i64) zcD (atM hs)),(b_3,.cells (ZZ no ea1 en1 ec1 ea2 en2 ec2 ea3 en3 ec3).toArray 26 (0,0))]=loc'∧i≤n2∧∀ j,j<i→g j=rd.getD k 0) ?_ (h:=⟨0,(fun _=>0),rfl,rfl,rfl,rfl,Nat.zero_le _,(fun j hj=>by omega)⟩)
  rintro mz E I' loc' ⟨i,g,rfl,rfl,rfl,rfl,hi,hg⟩
  refine zR (zC (zN (Ql ?_)))
  refine zI ?_ ?_<;>intro hc104
  ·
   have hlt_i:i<n2:=by have h:=hc104;simp at h;omega
   refine Qo (Qa (Ql (Qm (zR (zM ?_)))))
   refine zA (zN (Qg ?_))
   refine zM ?_
   refine zM ?_
   refine zM ?_
   refine zV (QZ rfl rfl Qw (fun hg=>by omega)) ?_
   refine ZB rfl rfl Z7 rfl rfl (by repeat (first | exact Upd.here | apply Upd.there | apply QJ)) (zoN (by rw [ZV];omega)) ?_
   refine Qb ?_
   rw [YE,Vu]
   refine Qh (Qa (Qg (zB ?_)))
   refine zM (Qb ?_)
   exact zm (h:=⟨n2-(i+1),by omega,i+1,(Kv g i (rd.getD k 0)),rfl,rfl,rfl,rfl,by omega,fun j hj=>by unfold Kv;split<;>first | rfl | exact hg j (by omega)⟩)
  have hge_i:n2≤i:=by have h:=hc104;simp at h;omega
  refine QI (Qf (Qf (Qk (Qa (Ql (zR ?_))))))
  refine zF VX ?_
  refine zL WK ?_
  refine zQ JB ?_
  refine zM (zN (Qm ?_))
  refine zU [(0,_),(7,_),(11,_),(12,_),(13,_),(14,_),(15,_),(85,_),(86,_),(87,_),(112,_),(113,_)] (fun T L0 mz E I' loc'=>∃ (j:Nat) (g:Nat→Int) (mk:Nat),mz=yh.h.n-j∧E=(16,.int .i64 mk)::(114,.int .i64 j)::T∧I1=I'∧[(b_100,.cells (Zd (Y1 n2 g)) 3 (0,0)),(b_13,.cells (Wp yh).toArray 74 (0,0)),(r_41,ZM (Value.int .i64) zcD (atM hs)),(b_3,.cells (ZZ no ea1 en1 ec1 ea2 en2 ec2 ea3 en3 ec3).toArray 26 (0,0))]=loc'∧j≤yh.h.n∧(∀ i,i<n2→g i=gO V (rd.getD k 0) j (zqr rows k i))∧mk=mC rows k V j) ?_ (h:=⟨0,g,0,rfl,rfl,rfl,rfl,Nat.zero_le _,(fun i hi=>by rw [hg i (by omega)];rfl),zxy.symm⟩)
  rintro mz E I' loc' ⟨j,g,mk,rfl,rfl,rfl,rfl,hj,hg2,hmk⟩
  refine zR (zC (zN (Ql ?_)))
  refine zI ?_ ?_<;>intro hc115
  ·
   have hlt_j:j<yh.h.n:=by have h:=hc115;simp at h;omega
   obtain ⟨vh,hvh⟩:=hVh.at hlt_j
   obtain ⟨v,hv⟩:∃ v,V[j]? =some v:=⟨_,List.getElem?_eq_getElem (by omega)⟩
   obtain ⟨hvc,hWs⟩:=hVR.2 j _ _ hvh hv
   obtain ⟨xp,hxp⟩:∃ xp,zs[((j:Int)-1).toNat]? =some xp:=hVh.at (by omega)
   obtain ⟨vp,hvp⟩:∃ v,V[((j:Int)-1).toNat]? =some v:=⟨_,List.getElem?_eq_getElem (by omega)⟩
   have hxpc:=(hVR.2 _ _ _ hxp hvp).1
   have hWl:=hWs.len
   have hmb:=zwC hLc hv
   have hVb:=hLc.len
   have hwp:=(hLc.ws v (List.mem_of_getElem? hv)).2
   refine Qo (Qa (Ql (Qm (zR (zM ?_)))))
   refine zV (zX JB hVh) ?_
   refine zV (Qp rfl zsv (fun hg=>by exact zxR hVh hvh) rfl) ?_
   refine Qs zvP rfl rfl (fun b_19=>?_)
   refine zA ?_
   refine zh zuN ?_
   refine zN (Ql (Ql ?_))
   refine YI mixed (by kernel_rfl) ?_
   refine zq (Qi rfl) ?_
   refine zq (QH rfl rfl rfl) ?_
   refine zq (Qi rfl) ?_
   refine zbN 2 rfl rfl rfl ?_
   refine zk (Qe rfl VX) ?_
   refine zk (Qd rfl WK (fun hg=>by exact QS.h2 rfl)) ?_
   refine zk (Qi rfl) ?_
   refine zk (ZN rfl rfl rfl (fun hg=>by omega)) ?_
   refine zk (zX JB hVh) ?_
   refine zk (Qe rfl KT) ?_
   refine zk (Qd rfl Qr (fun hg=>by exact zxJ hVh hxp rfl)) ?_
   refine zk (Qe rfl KT) ?_
   refine zk (Qd rfl Qr (fun hg=>by exact QS.h0 rfl)) ?_
   refine zk (QH rfl rfl rfl) ?_
   refine zpR rfl rfl rfl rfl rfl ?_
   refine zq (Qi rfl) ?_
   refine Ys 14 rfl rfl rfl ?_
   refine zj (Qe rfl W7) ?_
   refine zj (Qd rfl QK (fun hg=>by exact QS.h0 rfl)) ?_
   refine zj (Zp rfl Qw) ?_
   refine zj (QH rfl rfl rfl) ?_
   refine Ju rfl rfl rfl rfl rfl ?_
   refine YH ?_
   refine Qa ?_
   refine zI ?_ ?_<;>intro hc138
   ·
    exfalso;have h:=hc138;simp only [Bool.or_eq_true,Bool.and_eq_true,decide_eq_true_eq,beq_iff_eq] at h;rcases h with ⟨h1,h2⟩ | h2
    ·
     have:=zta hLc hvp hv h1;omega
    omega
   refine Qo (Qa (zR ?_))
   refine zF W7 ?_
   refine zL QK ?_
   refine zQ Qw ?_
   refine zM (zN (Qm ?_))
   refine zU [(0,_),(7,_),(11,_),(12,_),(13,_),(14,_),(15,_),(19,_),(85,_),(86,_),(87,_),(112,_),(113,_),(114,_),(140,_),(141,_)] (fun T L0 mz E I' loc'=>∃ (t:Nat) (g:Nat→Int) (mk:Nat),mz=vh.h.n-t∧E=(16,.int .i64 mk)::(142,.int .i64 t)::T∧I1=I'∧[(b_19,.cells (zam vh).toArray 77 (0,0)),(b_100,.cells (Zd (Y1 n2 g)) 3 (0,0)),(b_13,.cells (Wp yh).toArray 74 (0,0)),(r_41,ZM (Value.int .i64) zcD (atM hs)),(b_3,.cells (ZZ no ea1 en1 ec1 ea2 en2 ec2 ea3 en3 ec3).toArray 26 (0,0))]=loc'∧t≤vh.h.n∧(∀ i,i<n2→g i=if (i:Int)∈v.ws.take t then v.code else gO V (rd.getD k 0) j (zqr rows k i))∧mk=mC rows k V j+t) ?_ (h:=⟨0,g,mk,rfl,rfl,rfl,rfl,Nat.zero_le _,(fun i hi=>by rw [hg2 i hi];simp),by rw [hmk,Nat.add_zero]⟩)
   rintro mz E I' loc' ⟨t,g,mk,rfl,rfl,rfl,rfl,ht,hg3,hmk3⟩
   refine zR (zC (zN (Ql ?_)))
   refine zI ?_ ?_<;>intro hc143
   ·
    have hlt_t:t<vh.h.n:=by have h:=hc143;simp at h;omega
    obtain ⟨w0,hw⟩:=hWs.at hlt_t
    obtain ⟨w,rfl,hwn⟩:=zw3 hLc (List.mem_of_getElem? hv) hw
    refine Qo (Qa (Ql (Qm (zR ?_))))
    refine zV (zX Qw hWs) ?_
    refine zV (Qd rfl Qr (fun hg=>by exact zxJ hWs hw rfl)) ?_
    refine zA (zN (Ql (zR ?_)))
    refine zM ?_
    refine zC ?_
    refine zM ?_
    refine Q2 2 rfl rfl rfl ?_
    refine zJ (Qi rfl) ?_
    refine zJ (Qi rfl) ?_
    refine zJ (Zp rfl Zk) ?_
    refine zJ (QH rfl rfl rfl) ?_
    refine Zz rfl rfl rfl rfl rfl ?_
    refine zN ?_
    refine zI ?_ ?_<;>intro hc153
    ·
     exfalso;have h:=hc153;simp only [Bool.or_eq_true,decide_eq_true_eq] at h;omega
    refine Qo (Qa (zR (zM ?_)))
    refine zM ?_
    refine zF KT ?_
    refine zL Qr ?_
    refine zV (QZ rfl rfl Qw (fun hg=>by omega)) ?_
    refine ZB rfl rfl Z7 rfl rfl (by repeat (first | exact Upd.here | apply Upd.there | apply QJ)) (zoN (by rw [ZV];omega)) ?_
    refine Qb ?_
    rw [YE,Vu,hvc]
    refine Qa (Qg (zM ?_))
    refine zB ?_
    refine zA (Qb (Qh (Qa (Qg ?_))))
    refine zB ?_
    refine zM (Qb ?_)
    exact zm (h:=⟨vh.h.n-(t+1),by omega,t+1,(Kv g w v.code),(mk+1),rfl,rfl,rfl,rfl,by omega,zw8 hg3 hw,by rw [hmk3];omega⟩)
   have hge_t:vh.h.n≤t:=by have h:=hc143;simp at h;omega
   have hg3:∀ i,i<n2→g i=if (i:Int)∈v.ws then v.code else gO V (rd.getD k 0) j (zqr rows k i):=fun i hi=>by rw [hg3 i hi,List.take_of_length_le (by omega)]
   have hmk3:mk=mC rows k V j+v.ws.length:=by omega
   refine QI (Qf (Qf (Qk (Qh (Qa (Qg (zB ?_)))))))
   refine zM (Qb ?_)
   exact zm (h:=⟨yh.h.n-(j+1),by omega,j+1,g,mk,rfl,rfl,rfl,rfl,by omega,fun i hi=>by rw [hg3 i hi,←zpU hLc hv (by omega)],by rw [hmk3,zhT hLc hv]⟩)
  have hge_j:yh.h.n≤j:=by have h:=hc115;simp at h;omega
  refine QI (Qf (Qf (Qk (Qa (Ql (zR (zM ?_)))))))
  refine zM ?_
  refine QE 1 rfl rfl rfl ?_
  refine zK (Qi rfl) ?_
  refine zK (Qi rfl) ?_
  refine zK (Zp rfl Zk) ?_
  refine zK (QH rfl rfl rfl) ?_
  refine QO rfl rfl rfl rfl rfl ?_
  refine zM ?_
  refine Q2 7 rfl rfl rfl ?_
  refine zJ (Qi rfl) ?_
  refine zJ (Qi rfl) ?_
  refine QE 9 rfl rfl rfl ?_
  refine zK (Qe rfl VX) ?_
  refine zK (Qd rfl WK (fun hg=>by exact QS.h1 rfl)) ?_
  refine zK (Zp rfl JB) ?_
  refine zK (QH rfl rfl rfl) ?_
  refine zbE rfl rfl rfl (.some rfl rfl rfl rfl gbf) rfl rfl ?_
  refine zJ (Qi rfl) ?_
  refine QE 15 rfl rfl rfl ?_
  refine zK (Qe rfl VX) ?_
  refine zK (Qd rfl WK (fun hg=>by exact QS.h1 rfl)) ?_
  refine zK (zX JB hVh) ?_
  refine zK (Qe rfl KT) ?_
  refine zK (Qd rfl Qr (fun hg=>by exact zxJ hVh (hv0 (by simp [ZT] at hg;omega)) rfl)) ?_
  refine zK (Qi rfl) ?_
  refine zK (QH rfl rfl rfl) ?_
  refine zbE rfl rfl rfl (.some rfl rfl rfl rfl gbf) rfl rfl ?_
  refine Zz rfl rfl rfl rfl rfl ?_
  refine zN ?_
  refine zI ?_ ?_<;>intro hc187
  ·
   exfalso
   have h:=hc187
   cases b
   ·
    simp at h
   have e1:=zr1 (rows:=rows) (q:=k) hLc hVln hge_j
   have e2:yh.h.n=1→z0.code≠rd.getD k 0:=fun e=>by obtain ⟨v0,h0⟩:∃ v,V[0]? =some v:=⟨_,List.getElem?_eq_getElem (by omega)⟩;rw [(hVR.2 0 _ _ (hv0 (by omega)) h0).1];exact zq4 hLc (by omega) h0
   simp only [Bool.true_and,Bool.or_eq_true,Bool.and_eq_true,beq_iff_eq,bne_iff_ne] at h
   rcases h with h | ⟨h1,h2⟩
   ·
    omega
   exact e2 (by omega) h2
  refine Qo (Qa (zR (zM ?_)))
  refine zQ Zk ?_
  refine zM (zN (Qm ?_))
  refine zU [(0,_),(7,_),(11,_),(15,_),(85,_),(86,_),(87,_),(188,_),(189,_)] (fun T L0 mz E I' loc'=>∃ (i:Nat),mz=n2-i∧E=(190,.int .i64 i)::T∧I1=I'∧[(b_100,.cells (Zd (Y1 n2 g)) 3 (0,0)),(b_13,.cells (Wp yh).toArray 74 (0,0)),(r_41,ZM (Value.int .i64) zcD (atM hs)),(b_3,.cells (ZZ no ea1 en1 ec1 ea2 en2 ec2 ea3 en3 ec3).toArray 26 (0,0))]=loc'∧i≤n2) ?_ (h:=⟨0,rfl,rfl,rfl,rfl,Nat.zero_le _⟩)
  rintro mz E I' loc' ⟨i,rfl,rfl,rfl,rfl,hi⟩
  refine zR (zC (zN (Ql ?_)))
  refine zI ?_ ?_<;>intro hc191
  ·
   have hlt_i:i<n2:=by have h:=hc191;simp at h;omega
   obtain ⟨hs9,hVH⟩:=id hVn
   have hHH:=hVH.1
   obtain ⟨hx9,rx,hhx,hrx,hQ⟩:=hVH.at hlt_i
   have hqk:=(hrr rx (List.mem_of_getElem? hrx)).1
   have hQl:=hQ.len
   have hgx:rx[k]? =some (rx.getD k 0):=Zb rfl (by omega)
   refine Qo (Qa (Ql (Qm (zR (zM ?_)))))
   refine zV (zX Zk hHH) ?_
   refine zV (Qd rfl QK (fun hg=>by exact zxJ hHH hhx rfl)) ?_
   refine zA ?_
   refine zA (zN (Ql ?_))
   refine YI mixed (by kernel_rfl) ?_
   refine zq (Qi rfl) ?_
   refine zq (Qi rfl) ?_
   refine zq (Zp rfl Qw) ?_
   refine zq (QH rfl rfl rfl) ?_
   refine zq (Qi rfl) ?_
   refine Ys 4 rfl rfl rfl ?_
   refine zj (Qi rfl) ?_
   refine zj (Qi rfl) ?_
   refine zj (zX Qw hQ) ?_
   refine zj (Qd rfl Qr (fun hg=>by exact zxJ (k:=k) hQ hgx rfl)) ?_
   refine zj (Qi rfl) ?_
   refine zj (Qi rfl) ?_
   refine zj (QZ rfl rfl Qw (fun hg=>by omega)) ?_
   refine zj (Qd rfl Qr (fun hg=>by exact Vs (Yo (by omega)))) ?_
   refine zj (QH rfl rfl rfl) ?_
   refine Ju rfl rfl rfl rfl rfl ?_
   refine YH ?_
   refine Qa ?_
   refine zI ?_ ?_<;>intro hc209
   ·
    exfalso;have h:=hc209;rw [show ((i:Nat):Int).toNat=i from rfl,hg2 i (by omega),ziN hrx,ztb hLc hVln (by omega) (List.mem_of_getElem? hrx)] at h;simp at h;omega
   refine Qo (Qh (Qa (Qg (zB ?_))))
   refine zM (Qb ?_)
   exact zm (h:=⟨n2-(i+1),by omega,i+1,rfl,rfl,rfl,rfl,by omega⟩)
  have hge_i:n2≤i:=by have h:=hc191;simp at h;omega
  refine QI (Qf (Qf (Qk (Qh (Qa (Qg (zB ?_)))))))
  refine zM (Qb ?_)
  exact zm (h:=⟨en3-(k+1),by omega,k+1,rfl,rfl,rfl,rfl,by omega⟩)
 have hge_k:en3≤k:=by have h:=hc88;simp at h;omega
 refine QI (Qf (Qf (Qk (Qa (zR (zA (zN ?_)))))))
 refine Qt ?_
 exact zp hIc rfl rfl (by rfl)
end
end Go.Proofs.YtodakphagkommaaGreatDoor.R
namespace Go.Kn
section
open Go Go.ChangeShapes Go.WideShapes Go.ChangeAt Go.RowKit
def Ud (W:World):Qu:=fun b=>W.heap[b]?
theorem St.start (W:World):St W (Ud W) (fun _=>none) [] W:=
 ⟨rfl,rfl,rfl,⟨Nat.le_refl _,Nat.le_refl _⟩,fun _ _ h=>h,(fun _ _ h=>by cases h),(fun _ _ h=>by cases h),fun _=>.inr rfl,(fun _ _ h=>by cases h),by simp⟩
theorem St.below {W w:World}{H:Qu}{loc:Loc}(h:St W (Ud W) H loc w):Below W.heap.size W w:=
 ⟨h.os,h.tape,h.out,h.size.1,fun k hk=>by
  have e:W.heap[k]? =some W.heap[k]:=Array.getElem?_eq_getElem hk
  rw [h.imm k _ e,e]⟩
theorem Zx.law {P:Program}{f:FuncId}{args:List Value}{W:World}{v:Value}(h:Zx P f args (Ud W) v):Calls P f args.toArray W fun e w'=>e= .returned v∧Below W.heap.size W w':=
 (h W _ W (St.start W)).mono fun _ _ ⟨he,hs⟩=>⟨he,hs.below⟩
theorem zbI {W w:World}{may:MemPlace→Prop}(h:Below W.heap.size W w):W.keptBut w may:=by
 refine ⟨h.os,h.output,fun i hi=>?_⟩
 rw [h.block i hi]
 rw [Array.getElem?_eq_getElem hi]
 cases W.heap[i]<;>simp
theorem U2 {H:Type}{enc:TypeId×Value→H}{P:Program}{W W':World}(hl:laidOutB P=true)(hB:Below W.heap.size W W')(sp:Nat→Bool):∀ (ts:List TypeId) (vs:List Value) (ds:List (DataW H)) (ps:List MemPlace),(∀ t∈ts,P.readableRec t=true∧t<P.types.size)→
  DataW.TrodAll enc P W 0 (fun _=>true) true ts vs ds ps→(∀ x∈ps,x.block<W.heap.size∧sp x.block=true)→DataW.TrodAll enc P W' 0 sp true ts vs ds ps
 | [],[],[],ps,_,h,_=>h
 | t::ts,v::vs,d::ds,ps,hr,⟨p,q,h1,h2,e⟩,hlt=>by
  subst e
  exact ⟨p,q,WideElems.Trod_stays hl (hr t (List.mem_cons_self ..)).1 (hr t (List.mem_cons_self ..)).2 h1 (fun x hx=>hB.same (hlt x (List.mem_append_left _ hx)).1) (fun x hx=>(hlt x (List.mem_append_left _ hx)).2),
   U2 hl hB sp ts vs ds q (fun t ht=>hr t (List.mem_cons_of_mem _ ht)) h2 (fun x hx=>hlt x (List.mem_append_right _ hx)),rfl⟩
theorem zl4 {H:Type}{enc:TypeId×Value→H}{P:Program}{f:Func}{s:ChangeSpec}{again:Bool}{W W':World}{args:Array Value}{ds:List (DataW H)}{before:List MemPlace}{tb:TypeId}
  (hl:laidOutB P=true)(hr:f.resultTypes= #[tb])(hb:P.underlying tb=some .bool)(hv:s.vars=[])(hs:(s.fn H (ds++[]))= {results:=[.lit (.bool true)],args:=ds})(hrd:∀ t∈f.params.toList,P.readableRec t=true∧t<P.types.size)
  (hW:DataW.Whole enc P f.params.toList s.vars false W args.toList ds [] before)(hB:Below W.heap.size W W'):s.post enc P f false true false again W args (.bool true) W':=by
 have hlt:∀ x∈before,x.block<W.heap.size:=fun x hx=>by simpa using hW.lt x hx
 have hW0:=hW
 obtain ⟨p,q,hA,hV,rfl,hfz,_⟩:=hW
 rw [hv] at hV
 obtain ⟨_,rfl⟩:=trodVars_none hV
 rw [List.append_nil] at hlt hfz hW0
 have hres:∀ (b:Nat) (sp:Nat→Bool) (hd:Bool),DataW.TrodAll enc P W' b sp hd f.resultTypes.toList ((Value.bool true).resultList f.resultTypes.size) [.lit (.bool true)] []:=fun b sp hd=>by
  rw [hr];exact trodAll_mk1 (shut_bool hb true)
 have hargs:∀ sp:Nat→Bool,(∀ x∈p,sp x.block=true)→DataW.TrodAll enc P W' 0 sp true f.params.toList args.toList ds p:=fun sp h=>U2 hl hB sp _ _ _ _ hrd hA (fun x hx=>⟨hlt x hx,h x hx⟩)
 have hnil:∀ sp:Nat→Bool,DataW.TrodVars enc P W' sp s.vars [] []:=fun sp=>by rw [hv];rfl
 refine ⟨ds,[],p,[],p,[],hW0,?_,?_,?_,zbI hB,fun _=>?_⟩
 ·
  rw [hs];exact hres _ _ _
 ·
  rw [hs];exact hargs _ (fun x hx=>by simpa using hlt x hx)
 ·
  rw [hs];exact hnil _
 ·
  refine ⟨fun j t r ht hr'=>?_,[.lit (.bool true)]++ds,[],[]++p,⟨[]++p,[],trodAll_append (hargs _ (fun _ _=>rfl)) (hres _ _ _),hnil _,by simp,?_,fun h=>by cases h⟩,fun x hx _=>by simpa using hx⟩
  ·
   rw [hr] at ht hr'
   cases j with
   | zero=>simp [Value.resultList] at ht hr';subst ht;subst hr';exact okWide_bool_mk hb _
   | succ j=>simp at ht
  ·
   intro b off hx
   rw [hB.frozen (hlt _ (by simpa using hx))]
   exact hfz b off (by simpa using hx)
theorem zcg {W:World}{b o:Nat}{u:Value}(h:W.cell? ⟨b,o,none⟩=some u):QS (Ud W) [] b o u:=by
 unfold World.cell? at h
 split at h
 ·
  rename_i c t fz hb
  simp only [Option.isSome_none,Bool.false_eq_true,if_false] at h
  exact ⟨c,t,fz,.inl hb,h⟩
 ·
  cases h
theorem UO {H:Type}{enc:TypeId×Value→H}{P:Program}{W:World}{t e:TypeId}{size fuel0:Nat}{cs:List Value}{x0:DataW H×List MemPlace}{α:Type}(enc':α→List Value)(ok:α→Prop)
  (ht:P.underlying t=some (.slice e))(hc:P.cellsOf e=size)(hpos:0<size)(hlen:∀ y,(enc' y).length=size)
  (hel:∀ fuel cs x,DataW.trod enc P W 0 (fun _=>true) true fuel e cs=some x→∃ y,ok y∧enc' y=cs)
  (hf':DataW.trod enc P W 0 (fun _=>true) true fuel0 t cs=some x0):∃ av n c xs,cs=[.slice av n c]∧Sl (Ud W) size enc' av n c xs∧(∀ x∈xs,ok x)∧c≤maxLen:=by
 rcases Go.Deep.open_slice ht hf' with ⟨e1,_⟩ | ⟨a,len0,cap0,m,n,D,Pl,e1,hb,hl,hm,hmm,_,hx⟩
 ·
  subst e1
  exact ⟨none,0,0,[],rfl,.nil,(fun x hx=>by cases hx),Nat.zero_le _⟩
 ·
  subst e1
  have hlm:len0≤m:=by rw [hmm];simp;exact hl
  have each:∀ i,i<len0→∃ y,ok y∧W.cells? 0 (a.add (i*size)) size=some (enc' y):=fun i hi=>by
   obtain ⟨cs',h1,h2⟩:=hx i (by omega)
   obtain ⟨y,hy,e⟩:=hel _ _ _ h2
   rw [hc] at h1
   exact ⟨y,hy,by rw [h1,e]⟩
  have all:∀ k,k≤len0→∃ xs:List α,xs.length=k∧∀ i x,xs[i]? =some x→ok x∧W.cells? 0 (a.add (i*size)) size=some (enc' x):=by
   intro k
   induction k with
   | zero=>intro _;exact ⟨[],rfl,fun i x h=>by simp at h⟩
   | succ k ih=>
    intro hk
    obtain ⟨xs,hl',hxs⟩:=ih (by omega)
    obtain ⟨y,hy,hcy⟩:=each k (by omega)
    refine ⟨xs++[y],by simp [hl'],fun i x h=>?_⟩
    by_cases hi:i<xs.length
    ·
     rw [List.getElem?_append_left hi] at h;exact hxs i x h
    ·
     rw [List.getElem?_append_right (by omega)] at h
     have:i=k:=by have:=(List.getElem?_eq_some_iff.1 h).1;simp at this;omega
     subst this
     rw [hl'] at h;simp at h;subst h
     exact ⟨hy,hcy⟩
  obtain ⟨xs,hl',hxs⟩:=all len0 (Nat.le_refl _)
  have add0:∀ (b o n:Nat),(⟨b,o,none⟩:Addr).add n=⟨b,o+n,none⟩:=fun b o n=>by
   unfold Addr.add
   split
   ·
    rename_i e;subst e;rfl
   ·
    rfl
  have hspot:0<xs.length→a.spot=none:=fun hx=>by
   have hx0:xs[0]? =some xs[0]:=List.getElem?_eq_getElem hx
   have hp0:0<(enc' xs[0]).length:=by rw [hlen];exact hpos
   obtain ⟨_,h1,h2⟩:=World.cells?_some (hxs 0 _ hx0).2
   have h3:=h2 0 hpos
   rw [List.getElem?_eq_getElem hp0] at h3
   simpa [Addr.add] using World.cell?_spot h3
  have cellat:∀ i x,xs[i]? =some x→∀ j u,(enc' x)[j]? =some u→W.cell? ⟨a.block,a.off+i*size+j,none⟩=some u:=fun i x hx j u hu=>by
   obtain ⟨_,h1,h2⟩:=World.cells?_some (hxs i x hx).2
   have hj:j<size:=by rw [←hlen x];exact (List.getElem?_eq_some_iff.1 hu).1
   have h3:=h2 j hj
   rw [hu] at h3
   have hsp:=hspot (by have:=(List.getElem?_eq_some_iff.1 hx).1;omega)
   obtain ⟨b,o,sp⟩:=a
   simp only at hsp
   subst hsp
   rw [add0,add0] at h3
   exact h3
  refine ⟨some a,len0,cap0,xs,rfl,⟨hl',hl,fun hn=>?_,fun k x hx j u hu=>?_⟩,fun x hx=>?_,hm⟩
  ·
   have:=hspot (by omega)
   obtain ⟨b,o,sp⟩:=a
   simp only at this
   subst this;rfl
  ·
   exact zcg (cellat k x hx j u hu)
  ·
   obtain ⟨i,hi⟩:=List.getElem?_of_mem hx
   exact (hxs i x hi).1
theorem zoq {H:Type}{enc:TypeId×Value→H}{P:Program}{W:World}{base:Nat}{t e:TypeId}{size:Nat}{v:Value}{d:DataW H}{p:List MemPlace}{α:Type}(enc':α→List Value)(ok:α→Prop)
  (ht:P.underlying t=some (.slice e))(hc:P.cellsOf e=size)(hpos:0<size)(hlen:∀ y,(enc' y).length=size)
  (hel:∀ fuel cs x,DataW.trod enc P W 0 (fun _=>true) true fuel e cs=some x→∃ y,ok y∧enc' y=cs)
  (hv:Value.okWide P W .any base t v)(h:DataW.Trod enc P W 0 (fun _=>true) true t v d p):∃ av n c xs,v= .slice av n c∧Sl (Ud W) size enc' av n c xs∧(∀ x∈xs,ok x)∧c≤maxLen:=by
 obtain ⟨a0,len0,cap0,rfl⟩:=okWide_slice ht hv
 obtain ⟨fuel,hf⟩:=h
 obtain ⟨av,n,c,xs,e,h1,h2,h3⟩:=UO enc' ok ht hc hpos hlen hel (cs:=[.slice a0 len0 cap0]) (by simpa [Value.cells] using hf)
 cases e
 exact ⟨_,_,_,xs,rfl,h1,h2,h3⟩
theorem zjr {H:Type}{enc:TypeId×Value→H}{P:Program}{W:World}{e:TypeId}{k:IntKind}(he:P.underlying e=some (.int k))(hk:k= .i64)(fuel:Nat)(cs:List Value)(x:DataW H×List MemPlace)(h:DataW.trod enc P W 0 (fun _=>true) true fuel e cs=some x):
  ∃ y:Int,(-9223372036854775808≤y∧y≤9223372036854775807)∧[Value.int .i64 y]=cs:=by
 subst hk
 obtain ⟨v,hv⟩:∃ v,cs=[v]:=by
  have:=h
  cases fuel with
  | zero=>simp [DataW.trod] at this
  | succ m=>unfold DataW.trod at this;rw [he] at this;split at this<;>simp_all
 subst hv
 obtain ⟨n,e,_,w⟩:=DataW.trod_int he h
 cases e
 simp only [Lit.wf,Bool.and_eq_true,decide_eq_true_eq] at w
 exact ⟨n,w,rfl⟩
end
section
open Go
theorem zfm {H:Type}{enc:TypeId×Value→H}{P:Program}{W:World}{base:Nat}{spare:Nat→Bool}{held:Bool}{t C:Nat}{fs:Array Field}{fuel:Nat}{cs:List Value}{x:DataW H×List MemPlace}(hs:P.underlying t=some (.struct fs))
  (hC:P.cellsOf t=C)(h:DataW.trod enc P W base spare held fuel t cs=some x):
  cs.length=C∧∃ n,∀ (i ty off k:Nat),((fs[i]?).map fun f=>(f.type,f.offset))=some (ty,off)→P.cellsOf ty=k→∃ y,DataW.trod enc P W base spare held n ty ((cs.drop off).take k)=some y:=by
 obtain ⟨xs,n,_,_,hl,hxl,hf⟩:=DataW.trod_struct hs h
 refine ⟨hl.trans hC,n,fun i ty off k hi hk=>?_⟩
 obtain ⟨f,hfi,e⟩:=Option.map_eq_some_iff.1 hi
 cases e
 have g:=hf i f hfi
 have hix:i<xs.length:=by rw [hxl];exact (Array.getElem?_eq_some_iff.1 hfi).1
 rw [hk,List.getElem?_eq_getElem hix] at g
 exact ⟨_,g⟩
end
end Go.Kn
namespace Go.Proofs.YtodakphagkommaaGreatDoor
section
open Go Go.Kn Go.Proofs
open Go.ChangeShapes Go.WideShapes Go.ChangeAt Go.RowKit
set_option maxRecDepth 100000
theorem Xz:Tryz.prog.underlying 3=some (.int .i64):=by kernel_rfl
theorem zu3:Tryz.prog.underlying 4=some .bool:=by kernel_rfl
theorem zuj:Tryz.prog.underlying 5=some (.int .u8):=by kernel_rfl
theorem zr4 {I:Qu}:∀ (hs:List Hd),(∀ h∈hs,∃ v,Sl I 1 QQ h.a h.n h.c v)→∃ vss,zcn I hs vss
 | [],_=>⟨[],zcn.nil⟩
 | x::hs,H=>by
  obtain ⟨vss,hl,hv⟩:=zr4 hs fun h hh=>H h (List.mem_cons_of_mem _ hh)
  obtain ⟨v0,h0⟩:=H x (List.mem_cons_self ..)
  refine ⟨v0::vss,by simp [hl],fun k h v a b=>?_⟩
  cases k with
  | zero=>cases a;cases b;exact h0
  | succ k=>exact hv k h v a b
theorem ziS {H:Type}{enc:TypeId×Value→H}{W:World}{base:Nat}{v:Value}{d:DataW H}{p:List MemPlace}(hv:Value.okWide Tryz.prog W .any base 22 v)(h:DataW.Trod enc Tryz.prog W 0 (fun _=>true) true 22 v d p):
  ∃ av n c vss,v= .slice av n c∧SlN (Ud W) av n c vss∧n≤9223372036854775807:=by
 obtain ⟨av,n,c,hs,e,hS,hok,hm⟩:=zoq (e:=23) Xc (fun h=>∃ v,Sl (Ud W) 1 QQ h.a h.n h.c v) (by kernel_rfl) (by kernel_rfl) (by decide) Q9 (fun fuel cs x h=>by
  obtain ⟨a,m,q,ys,e,hT,_⟩:=UO (t:=23) (e:=3) QQ (fun _=>True) (by kernel_rfl) (by kernel_rfl) (by decide) Qv (fun fuel cs x h=>by
   obtain ⟨y,_,e⟩:=zjr Xz rfl fuel cs x h
   exact ⟨y,trivial,e⟩) h
  exact ⟨⟨a,m,q⟩,⟨ys,hT⟩,e.symm⟩) hv h
 obtain ⟨vss,hr⟩:=zr4 hs hok
 exact ⟨av,n,c,vss,e,⟨hs,hS,hr⟩,by have:=hS.cap;simp only [maxLen] at hm;omega⟩
def zjB:List (String×DataW Unit):=[("math/bits.deBruijn32tab",Rows.laid_math_bits_deBruijn32tab),("math/bits.deBruijn64tab",Rows.laid_math_bits_deBruijn64tab)]
theorem zxu:Tryz.prog.globalNamed "math/bits.deBruijn64tab" =some 1:=by kernel_rfl
theorem zxB:(Tryz.prog.globals[1]?).map (·.type)=some 290:=by kernel_rfl
theorem zuf:(Rows.laid_math_bits_deBruijn64tab:DataW Unit)=Lib.tabData .u8 zoy:=by rfl
theorem zr5 {W:World}(h:laidMetH Tryz.prog zjB W):VJ (Ud W):=by
 rw [MakeChecks.laidMetH_plain _ _ _ (by kernel_rfl)] at h
 obtain ⟨ps,⟨g0,t0,cs0,f0,p0,q0,hg0,ht0,hv0,hd0,⟨g1,t1,cs1,f1,p1,q1,hg1,ht1,hv1,hd1,_,_⟩,_⟩,_,_⟩:=h
 obtain rfl:=Option.some.inj (zxu.symm.trans hg1)
 obtain rfl:=Option.some.inj (zxB.symm.trans ht1)
 rw [zuf] at hd1
 have hcs:=Lib.cells_of_tab (n:=64) (e:=5) (by kernel_rfl) zuj (by kernel_rfl) (by kernel_rfl) hd1
 intro i hi
 refine zcg ?_
 have:=World.var?_cell hg1 hv1 i
 rw [this]
 have hl:i<zoy.length:=hi
 have e:cs1=(zoy.map fun z=>Value.int .u8 z).toArray:=Array.ext' hcs
 rw [e]
 simp [List.getD,hl]
theorem zlj (os:Os)(args:Array Value):laidMetH Tryz.prog zjB ((World.doorLaid Tryz.prog 400 os).forCall (fun _ _=>0) ⟨#[],args,[]⟩).memory:=
 laidMetH_of_parts3 (fuel:=8) (laidMet_of_run' 8 (by kernel_rfl) (by kernel_rfl)) (by kernel_rfl) (by kernel_rfl)
end
section
open Go Go.Kn Go.Proofs
open Go.ChangeShapes Go.WideShapes Go.ChangeAt Go.RowKit
set_option maxRecDepth 100000
theorem zqj:Tryz.prog.underlying 67=some (.struct (Tryz.prog.fieldsOf 67)):=by kernel_rfl
theorem zpY:Tryz.prog.underlying 24=some (.slice 67):=by kernel_rfl
theorem zdV:Tryz.prog.underlying 23=some (.slice 3):=by kernel_rfl
theorem zhV:Tryz.prog.underlying 26=some (.struct (Tryz.prog.fieldsOf 26)):=by kernel_rfl
theorem zwp {H:Type}{enc:TypeId×Value→H}{W:World}(fuel:Nat)(cs:List Value)(x:DataW H×List MemPlace)(h:DataW.trod enc Tryz.prog W 0 (fun _=>true) true fuel 67 cs=some x):∃ y:Em,(fun _=>True) y∧Yu y=cs:=by
 obtain ⟨hl,n0_,f0⟩:=zfm (C:=3) zqj (by kernel_rfl) h
 match cs,hl with
 | [c0,c1,c2],_=>
  obtain ⟨_,g0_0⟩:=f0 0 3 0 1 (by kernel_rfl) (by kernel_rfl)
  obtain ⟨n0,e0,_,w0⟩:=DataW.trod_int Xz (show DataW.trod enc Tryz.prog W 0 (fun _=>true) true n0_ 3 [c0]=some _ from g0_0)
  obtain ⟨_,g0_1⟩:=f0 1 3 1 1 (by kernel_rfl) (by kernel_rfl)
  obtain ⟨n1,e1,_,w1⟩:=DataW.trod_int Xz (show DataW.trod enc Tryz.prog W 0 (fun _=>true) true n0_ 3 [c1]=some _ from g0_1)
  obtain ⟨_,g0_2⟩:=f0 2 3 2 1 (by kernel_rfl) (by kernel_rfl)
  obtain ⟨n2,e2,_,w2⟩:=DataW.trod_int Xz (show DataW.trod enc Tryz.prog W 0 (fun _=>true) true n0_ 3 [c2]=some _ from g0_2)
  cases e0;cases e1;cases e2
  exact ⟨⟨n0,n1,n2⟩,trivial,rfl⟩
structure EdS where
 no:Int
 a1:Option Addr
 n1:Nat
 c1:Nat
 a2:Option Addr
 n2:Nat
 c2:Nat
 a3:Option Addr
 n3:Nat
 c3:Nat
def zsB (e:EdS):List Value:=ZZ e.no e.a1 e.n1 e.c1 e.a2 e.n2 e.c2 e.a3 e.n3 e.c3
def ztt (e:EdS):Value:=.agg (zsB e).toArray
theorem zv1 {H:Type}{enc:TypeId×Value→H}{W:World}(fuel:Nat)(cs:List Value)(x:DataW H×List MemPlace)(h:DataW.trod enc Tryz.prog W 0 (fun _=>true) true fuel 26 cs=some x):∃ y:EdS,(fun e=>(∃ xs,Sl (Ud W) 1 QQ e.a1 e.n1 e.c1 xs)∧(∃ es,Sl (Ud W) 3 Yu e.a2 e.n2 e.c2 es)∧∃ rd,Sl (Ud W) 1 QQ e.a3 e.n3 e.c3 rd) y∧zsB y=cs:=by
 obtain ⟨hl,n0_,f0⟩:=zfm (C:=4) zhV (by kernel_rfl) h
 match cs,hl with
 | [c0,c1,c2,c3],_=>
  obtain ⟨_,g0_0⟩:=f0 0 3 0 1 (by kernel_rfl) (by kernel_rfl)
  obtain ⟨n0,e0,_,w0⟩:=DataW.trod_int Xz (show DataW.trod enc Tryz.prog W 0 (fun _=>true) true n0_ 3 [c0]=some _ from g0_0)
  obtain ⟨_,g0_1⟩:=f0 1 23 1 1 (by kernel_rfl) (by kernel_rfl)
  obtain ⟨a1,m1,q1,n1,e1,s1,o1,_⟩:=UO (t:=23) (e:=3) QQ (fun n:Int=> -9223372036854775808≤n∧n≤9223372036854775807) zdV (by kernel_rfl) (by decide) Qv (fun fuel cs x h=>zjr Xz rfl fuel cs x h) (show DataW.trod enc Tryz.prog W 0 (fun _=>true) true n0_ 23 [c1]=some _ from g0_1)
  obtain ⟨_,g0_2⟩:=f0 2 24 2 1 (by kernel_rfl) (by kernel_rfl)
  obtain ⟨a2,m2,q2,n2,e2,s2,o2,_⟩:=UO (t:=24) (e:=67) Yu (fun _:Em=>True) zpY (by kernel_rfl) (by decide) zaa (fun fuel cs x h=>zwp fuel cs x h) (show DataW.trod enc Tryz.prog W 0 (fun _=>true) true n0_ 24 [c2]=some _ from g0_2)
  obtain ⟨_,g0_3⟩:=f0 3 23 3 1 (by kernel_rfl) (by kernel_rfl)
  obtain ⟨a3,m3,q3,n3,e3,s3,o3,_⟩:=UO (t:=23) (e:=3) QQ (fun n:Int=> -9223372036854775808≤n∧n≤9223372036854775807) zdV (by kernel_rfl) (by decide) Qv (fun fuel cs x h=>zjr Xz rfl fuel cs x h) (show DataW.trod enc Tryz.prog W 0 (fun _=>true) true n0_ 23 [c3]=some _ from g0_3)
  cases e0;cases e1;cases e2;cases e3
  exact ⟨⟨n0,a1,m1,q1,a2,m2,q2,a3,m3,q3⟩,⟨⟨n1,s1⟩,⟨n2,s2⟩,⟨n3,s3⟩⟩,rfl⟩
theorem zpk {H:Type}{enc:TypeId×Value→H}{W:World}{base:Nat}{v:Value}{d:DataW H}{p:List MemPlace}(hv:Value.okWide Tryz.prog W .any base 26 v)(h:DataW.Trod enc Tryz.prog W 0 (fun _=>true) true 26 v d p):∃ y:EdS,v=ztt y∧(fun e=>(∃ xs,Sl (Ud W) 1 QQ e.a1 e.n1 e.c1 xs)∧(∃ es,Sl (Ud W) 3 Yu e.a2 e.n2 e.c2 es)∧∃ rd,Sl (Ud W) 1 QQ e.a3 e.n3 e.c3 rd) y:=by
 obtain ⟨cs,rfl,_⟩:=okWide_struct zhV hv
 obtain ⟨fuel,hf⟩:=h
 obtain ⟨l⟩:=cs
 obtain ⟨y,hy,e⟩:=zv1 fuel l _ hf
 exact ⟨y,by rw [←e];rfl,hy⟩
end
end Go.Proofs.YtodakphagkommaaGreatDoor
namespace Go.Proofs.YtodakphagkommaaGreatDoor.R
section
open Go Go.Kn Go.Proofs
open Go.ChangeShapes Go.WideShapes Go.ChangeAt Go.RowKit
set_option maxRecDepth 100000
theorem zdV:Tryz.prog.underlying 23=some (.slice 3):=by kernel_rfl
end
end Go.Proofs.YtodakphagkommaaGreatDoor.R
namespace Go.Proofs.YtodakphagkommaaGreatDoor
section
open Go Go.Kn Go.Proofs
open Go.ChangeShapes Go.WideShapes Go.ChangeAt Go.RowKit
theorem own:ownKnob Tryz.prog.godebug=none:=by kernel_rfl
theorem zq0:laidOutB Tryz.prog=true:=by kernel_rfl
set_option maxRecDepth 100000 in
theorem KZ (os:Os) (started:os.Started) (H:Type) (enc:TypeId×Value→H):
  ReturnsInHanded {} Tryz.checked os 6 .any (fun w args=>(Rows.apparatusRowsSpec.pre enc Tryz.prog Tryz.f6 [] false w args∧laidMetH Tryz.prog zjB w)∧sizedMet enc Tryz.prog Tryz.f6 (OpenSpec.ofChange Rows.apparatusRowsSpec) false w args)
   (Rows.apparatusRowsSpec.post enc Tryz.prog Tryz.f6 false true false false):=by
 refine returnsInHanded_of_change_and (C:=Tryz.checked) (X:=fun w _=>laidMetH Tryz.prog zjB w) (fun _ _ _ hh h=>h.of_heap hh) own started (by kernel_rfl) Tryz.func6
  (ChangeSpec.witness_shaped (enc:=enc) (C:=Tryz.checked) (os:=os) (X:=fun w _=>laidMetH Tryz.prog zjB w) false (World.doorLaid Tryz.prog 400 os) #[.slice none 0 0,.agg #[.int .i64 0,.slice none 0 0,.slice none 0 0,.slice none 0 0]] 8 rfl (World.shaped_of_RefB (by kernel_rfl) (by kernel_rfl)) (by kernel_rfl) (by kernel_rfl) (by kernel_rfl) (zlj os _)) ?_
 intro W base args ds gs before hval0 hW _ _ hL _
 have hval:∀ (j:Nat) t v,Tryz.f6.params[j]? =some t→args[j]? =some v→Value.okWide Tryz.prog W .any base t v:=hval0
 have hW':=hW
 obtain ⟨p,q,hA0,hV,rfl,hfz,hnd⟩:=hW
 have hA:DataW.TrodAll enc Tryz.prog W 0 (fun _=>true) true Tryz.f6.params.toList args.toList ds p:=hA0
 rw [Tryz.params6] at hA hval
 obtain ⟨v0,vs1,d0,ds1,p0,q1,ea,rfl,rfl,h0,hA⟩:=trodAll_cons hA
 obtain ⟨v1,vs2,d1,ds2,p1,q2,rfl,rfl,rfl,h1,hA⟩:=trodAll_cons hA
 obtain ⟨rfl,rfl,rfl⟩:=trodAll_nil hA
 have ea':args= #[v0,v1]:=by rw [←Array.toArray_toList (xs:=args),ea]
 subst ea'
 obtain ⟨rfl,rfl⟩:=trodVars_none hV
 have hDb:=zr5 hL
 obtain ⟨bv,n2,c2,rows,rfl,hV,hbg⟩:=ziS (hval 0 22 v0 rfl rfl) h0
 obtain ⟨ed,rfl,⟨xs,hX1⟩,⟨es,hX2⟩,⟨rd,hX3⟩⟩:=zpk (hval 1 26 v1 rfl rfl) h1
 refine (Zx.law (R.w_lRows hV hX1 hX2 hX3 ed.no hDb)).mono fun e W' ⟨he,hB⟩=>?_
 subst he
 exact ⟨_,rfl,zl4 zq0 (by kernel_rfl) zu3 rfl rfl (by rw [Tryz.params6];simp only [List.mem_cons,List.not_mem_nil,or_false,forall_eq_or_imp,forall_eq];exact ⟨⟨by kernel_rfl,of_decide_eq_true (by kernel_rfl)⟩,⟨by kernel_rfl,of_decide_eq_true (by kernel_rfl)⟩⟩) hW' hB⟩
theorem Wl:Rows.ApparatusRowsSaid:=
 OpenClaim.holds_of_wide 6 Tryz.f6 rfl rfl rfl rfl rfl rfl rfl ⟨rfl,rfl,rfl,rfl,rfl⟩ rfl rfl rfl rfl rfl (by kernel_rfl) Tryz.func6 (by kernel_rfl)
  (of_decide_eq_true (by kernel_rfl)) (by unfold Func.isWrapper;first | (rw [if_pos (by decide+kernel)];kernel_rfl) | (rw [if_neg (by decide+kernel)];exact ⟨rfl,rfl⟩))
  (fun os started H enc _=>KZ os started H enc)
theorem apparatusRows_holds:Rows.ApparatusRowsCardSaid:=
 Claim7.holds_tied_plain_at .later [] [.data,.data] true (true, "7487adcbb88cd8c76305f1b55bc750fc8aca60cf0a33624839d1e2bb64e58a1a") false
  Wl (fun _ h=>by cases h) (by kernel_rfl) (fun _ h=>by cases h) apparatusRows_row_tie rfl ⟨rfl,rfl⟩ (by kernel_rfl) rfl
  (fun f fn hf hfn=>by
   obtain rfl:f=6:=Option.some.inj ((show Tryz.prog.funcNamed "kinesphere/kinespherelaw44.ApparatusRows" =some 6 by kernel_rfl).symm.trans hf) |>.symm
   obtain rfl:fn=Tryz.f6:=(Option.some.inj (Tryz.func6.symm.trans hfn)).symm
   exact ⟨by kernel_rfl,fun j t ht=>by
    rw [Tryz.params6] at ht
    have hm:t∈[22,26]:=by simpa using Array.mem_of_getElem? ht
    have hall:([22,26].all fun u=> !Tryz.prog.wantsStandIn u)=true:=by kernel_rfl
    exact (show Tryz.prog.wantsStandIn t=false by simpa using List.all_eq_true.1 hall t hm)⟩)
  (by kernel_rfl)
#print axioms apparatusRows_holds
end
end Go.Proofs.YtodakphagkommaaGreatDoor
