/- apparatusLater_holds, part G of the proof: what its theorems say holds without further conditions. -/
import Derived.ProofKit
import Derived.Deep.Slices
import Derived.Test.YtodakphagkommaaGreatDoorRows
import Derived.LaidMore
import Derived.MakeChecks
import Derived.Lib.LaidTab
import Derived.Test.YtodakphagkommaaGreatDoorCards
import Derived.Test.YtodakphagkommaaGreatDoorTie
import Derived.Stop.Joined
import Derived.SevenTiedAt
import Derived.Test.YtodakphagkommaaGreatDoorALF
namespace Go.Proofs.YtodakphagkommaaGreatDoor.R
section
open Go Go.Kn Go.Proofs
theorem ztT:ElT Tryz.prog 35 65 3 40:=.of (by kernel_rfl)
theorem znA:ElT Tryz.prog 63 60 15 120:=.of (by kernel_rfl)
theorem zm7:Fun Tryz.prog 11:=.of Tryz.func11 (by kernel_rfl) (by kernel_rfl)
theorem zuP:Fun Tryz.prog 13:=.of Tryz.func13 (by kernel_rfl) (by kernel_rfl)
theorem zap:Fun Tryz.prog 14:=.of Tryz.func14 (by kernel_rfl) (by kernel_rfl)
theorem zng:Fun Tryz.prog 16:=.of Tryz.func16 (by kernel_rfl) (by kernel_rfl)
theorem zfk:Fun Tryz.prog 18:=.of Tryz.func18 (by kernel_rfl) (by kernel_rfl)
theorem zsL:Fun Tryz.prog 19:=.of Tryz.func19 (by kernel_rfl) (by kernel_rfl)
theorem znp:Fun Tryz.prog 26:=.of Tryz.func26 (by kernel_rfl) (by kernel_rfl)
theorem zs9:PlT Tryz.prog 57 #[(0,1),(1,1),(2,1),(3,1),(4,14),(18,1)] (.agg #[(.int .i64 0),(.int .i64 0),(.int .i64 0),(.int .i64 0),(.int .i64 0),(.int .i64 0),(.int .i64 0),(.int .i64 0),(.int .i64 0),(.int .i64 0),(.int .i64 0),(.int .i64 0),(.int .i64 0),(.int .i64 0),(.int .i64 0),(.int .i64 0),(.int .i64 0),(.int .i64 0),(.slice none 0 0)]):=⟨.of (by kernel_rfl),by kernel_rfl,fun w=>by kernel_rfl⟩
theorem zst:PlT Tryz.prog 60 #[(0,1),(1,14)] (.agg #[(.bool false),(.int .i64 0),(.int .i64 0),(.int .i64 0),(.int .i64 0),(.int .i64 0),(.int .i64 0),(.int .i64 0),(.int .i64 0),(.int .i64 0),(.int .i64 0),(.int .i64 0),(.int .i64 0),(.int .i64 0),(.int .i64 0)]):=⟨.of (by kernel_rfl),by kernel_rfl,fun w=>by kernel_rfl⟩
theorem zmV:PlT Tryz.prog 65 #[(0,1),(1,1),(2,1)] (.agg #[(.int .i64 0),(.int .i64 0),(.slice none 0 0)]):=⟨.of (by kernel_rfl),by kernel_rfl,fun w=>by kernel_rfl⟩
theorem zvI (I:Qu)(d:Int):Zx Tryz.prog 26 [.int .i64 d] I (.agg (JM ⟨false,zgC d⟩).toArray):=by
 intro g H w hw
 refine qe Tryz.func26 Tryz.ntmps26 hw ?_
 refine zR ?_
 refine Qr zln rfl rfl (fun b_2=>?_)
 refine zN (zR ?_)
 refine zM ?_
 refine zV (QR (ps:=[(1,_)]) [_,_] zfQ rfl rfl) ?_
 refine zV (QR (ps:=[(0,_),(1,_)]) [_,_] zfQ rfl rfl) ?_
 refine zV (QR (ps:=[(4,_),(3,_),(5,_),(6,_),(7,_),(10,_),(11,_)]) [_,_,_,_,_,_,_,_,_,_,_,_,_,_] UF rfl rfl) ?_
 refine zV (QR (ps:=[(1,_)]) [_,_,_,_,_,_,_,_,_,_,_,_,_,_,_] zst rfl rfl) ?_
 refine zh zeR ?_
 refine zN (Qs ?_)
 exact Kx rfl rfl ze0 (by repeat (first | exact zyt | apply zys)) rfl (fun w hw=>⟨rfl,hw.drop⟩)
theorem zmw {I:Qu}{b t n:Nat}(hs:List Hd){vss:List (List Int)}(hn:hs.length=n)(h:I b=some (.cells (hs.flatMap WD).toArray t (0,0)))(r:zcp I hs vss):SlN I (some ⟨b,0,none⟩) n n vss:=⟨hs,Sl.lit hs hn Q7 h,r⟩
theorem zfe {I:Qu}{bv av dv:Option Addr}{n2 c2 n c n3 c3:Nat}{rows:List (List Int)}{cl:List Int}{es:List Em}{no:Int}(hV:SlN I bv n2 c2 rows)(hS:Sl I 1 QP av n c cl)(hE:Sl I 3 Yt dv n3 c3 es)(hDb:VF I)(hn2:n2≤100000)(hn:n≤100000)(hn3:n3≤100000){rd:List Int}{k:Nat}
  (he:Wa rows no cl es=0)(hr:Vx rows cl es=rd)(hk:rd.length=k):Yc Tryz.prog 25 [.slice bv n2 c2,.int .i64 no,.slice av n c,.slice dv n3 c3] I [] (fun v I' L=>L=[]∧∃ a1 c1 a2 c2 a3 c3,v= .tuple #[.agg (Z3 no a1 n c1 a2 n3 c2 a3 k c3).toArray,.int .i64 0]∧Sl I' 1 QP a1 n c1 cl∧Sl I' 3 Yt a2 n3 c2 es∧Sl I' 1 QP a3 k c3 rd):=by
 intro g H w hw
 refine (zns hS hV hn2 hE hn3 hn hDb no g H w hw).mono ?_
 rintro ed w' ⟨v,I',L',hed,hI,hs,hMQ⟩
 obtain ⟨rfl,no2,cl2,es2,rd2,a1,q1,c1,a2,q2,c9,a3,q3,c3,rfl,hM1,hM2,hM3,hMy, -⟩:=hMQ.opn
 obtain ⟨rfl,rfl,rfl,rfl⟩:=hMy he
 have l1:=hM1.len.symm.trans hS.len;have l2:=hM2.len.symm.trans hE.len
 subst l1;subst l2;subst hk
 rw [hr] at hM3
 have l3:=hM3.len
 subst l3
 exact ⟨_,I',[],hed,hI,hs,rfl,a1,c1,a2,c9,a3,c3,by rw [he],hM1,hM2,hM3⟩
theorem zwC {I:Qu}{bv a1 a2 a3:Option Addr}{c2 c1 c9 c3:Nat}(hV:SlN I bv 3 c2 [[7],[9],[7]])(h1:Sl I 1 QP a1 2 c1 [5,7])(h2:Sl I 3 Yt a2 0 c9 [])(h3:Sl I 1 QP a3 1 c3 [7])(hDb:VF I):Yc Tryz.prog 11 [.slice bv 3 c2,.agg (Z3 1 a1 2 c1 a2 0 c9 a3 1 c3).toArray] I [] (zxd 0 [⟨0,7,[⟨7,[0,2]⟩,⟨9,[1]⟩]⟩]):=by
 have h:=zcG hV (by decide) h1 h2 h3 (by decide) (by decide) (by decide) 1 hDb
 rw [eK9,(zeW rfl).trans nK9] at h
 exact h
theorem zuo {I:Qu}(hDb:VF I):Yc Tryz.prog 11 [.slice none 0 0,.agg (Z3 0 none 0 0 none 0 0 none 0 0).toArray] I [] (zxd 420 []):=by
 have h:=zcG (I:=I) (ea1:=none) (ec1:=0) (ea2:=none) (ec2:=0) (ea3:=none) (ec3:=0) SlN.none (by decide) .nil .nil .nil (by decide) (by decide) (by decide) 0 hDb
 rw [eK0] at h
 exact h
theorem zwn {I:Qu}{av:Option Addr}{c:Nat}(hW:SlW I av 2 c wK):Yc Tryz.prog 27 [.slice av 2 c] I [] (zaI 0 [[36110336],[36241408]]):=by
 have h:=zhK hW (by decide)
 rw [zx6,zx5] at h
 exact h
section
variable {I:Qu} {av bv a1 a2 a3 pv dv:Option Addr} {c c2 c1 c9 c3 pc vn vc:Nat} {vs:List Int} (hW:SlW I av 2 c wK) (hV:SlN I bv 2 c2 [[36110336],[36241408]]) (h1:Sl I 1 QP a1 1 c1 [3]) (h2:Sl I 3 Yt a2 0 c9 []) (h3:Sl I 1 QP a3 1 c3 [36110336]) (hP:SlP I pv 1 pc [ptK]) (hVs:Sl I 1 QP dv vn vc vs) (hvn:vn≤100000) (hDb:VF I)
include hW hV h1 h2 h3 hP hVs hvn hDb
theorem zv1 {f e:Int}{o:Og}(he:orE (opK vs) (sgK vs) 0 f=e)(ho:orO e (ogK vs 0 f)=o):Yc Tryz.prog 14 [.slice av 2 c,.slice bv 2 c2,.agg (Z3 1 a1 1 c1 a2 0 c9 a3 1 c3).toArray,.slice pv 1 pc,.slice dv vn vc,.int .i64 0,.int .i64 f] I [] (OrQ e o):=by
 subst ho;subst he
 exact zbw hW (by decide) hV (by decide) h1 h2 h3 (by decide) (by decide) (by decide) 1 hP (by decide) hVs hvn hDb 0 f
theorem zxV {e:Int}{l:List (Int×Int)}(he:opK vs=e)(ho:tcF (opK vs) (ogK vs) (sgK vs)=l):Yc Tryz.prog 16 [.slice av 2 c,.slice bv 2 c2,.agg (Z3 1 a1 1 c1 a2 0 c9 a3 1 c3).toArray,.slice pv 1 pc,.slice dv vn vc] I [] (zx4 e l):=by
 subst ho;subst he
 exact zim hW (by decide) hV (by decide) h1 h2 h3 (by decide) (by decide) (by decide) 1 hP (by decide) hVs hvn hDb
end
theorem zdQ {I:Qu}{o:Og}{a1:Option Addr}{n1 c1:Nat}{a2:Option Addr}{n2 c2:Nat}(h1:Sl I 1 QP a1 n1 c1 o.ws)(h2:Sl I 1 QP a2 n2 c2 o.ps){a3:Option Addr}{n3 c3:Nat}{a4:Option Addr}{n4 c4:Nat}(h3:Sl I 1 QP a3 n3 c3 o.ws)(h4:Sl I 1 QP a4 n4 c4 o.ps)(hb1:n1≤100000)(hb2:n2≤100000):Zx Tryz.prog 18 [.agg #[.int .i64 o.k,.int .i64 o.r,.slice a1 n1 c1,.slice a2 n2 c2],.agg #[.int .i64 o.k,.int .i64 o.r,.slice a3 n3 c3,.slice a4 n4 c4]] I (.bool true):=by
 have h:=zj8 h1 h2 h3 h4 hb1 hb2
 rw [zeG] at h
 exact h
theorem zp1 {I:Qu}{a b:Option Addr}{n c d:Nat}(h1:zeS I a n c [⟨0,7,[⟨7,[0,2]⟩,⟨9,[1]⟩]⟩])(h2:zeS I b 1 d [⟨0,7,[⟨7,[0,2]⟩,⟨9,[1]⟩]⟩]):Zx Tryz.prog 13 [.slice a n c,.slice b 1 d] I (.bool true):=by
 have h:=zk1 h1 h2 (by rw [←h1.len];decide) (by decide)
 rw [zaT zk7] at h
 exact h
theorem zql {I:Qu}{b1 b2 b3 b4:Nat}(h1:I b1=some (.cells (([0,2]:List Int).flatMap QP).toArray 3 (0,0)))(h2:I b2=some (.cells (([1]:List Int).flatMap QP).toArray 3 (0,0)))(h3:I b3=some (.cells (([⟨7,⟨some ⟨b1,0,none⟩,2,2⟩⟩,⟨9,⟨some ⟨b2,0,none⟩,1,1⟩⟩]:List Vh).flatMap zba).toArray 77 (0,0)))
  (h4:I b4=some (.cells (([⟨0,7,⟨some ⟨b3,0,none⟩,2,2⟩⟩]:List Eh).flatMap zcI).toArray 74 (0,0))):zeS I (some ⟨b4,0,none⟩) 1 1 [⟨0,7,[⟨7,[0,2]⟩,⟨9,[1]⟩]⟩]:=
 ⟨_,Sl.lit _ rfl Zk h4,zal.nil.snoc ⟨rfl,rfl,_,Sl.lit _ rfl Zl h3,(zal.nil.snoc ⟨rfl,Sl.lit _ rfl Qv h1⟩).snoc ⟨rfl,Sl.lit _ rfl Qv h2⟩⟩⟩
set_option maxRecDepth 100000 in
theorem zuC {I:Qu} (hDb:VF I):Zx Tryz.prog 9 [] I (.bool true):=by
 intro g H w hw
 refine qe Tryz.func9 Tryz.ntmps9 hw ?_
 have hIc:=zyv I
 refine zR (zA ?_)
 refine zN (zR ?_)
 refine Qq (ps:=[(0,_)]) (m:=[QP 7]) Zf rfl (.cons rfl (.nil)) rfl (by simp [Qv]) (by decide) (by decide) rfl rfl (fun b_26=>?_)
 refine Qq (ps:=[(0,_)]) (m:=[QP 9]) Zf rfl (.cons rfl (.nil)) rfl (by simp [Qv]) (by decide) (by decide) rfl rfl (fun b_27=>?_)
 refine Qq (ps:=[(0,_)]) (m:=[QP 7]) Zf rfl (.cons rfl (.nil)) rfl (by simp [Qv]) (by decide) (by decide) rfl rfl (fun b_28=>?_)
 refine Qq (ps:=[(0,_),(1,_),(2,_)]) (m:=[WD ⟨some ⟨b_26,0,none⟩,1,1⟩,WD ⟨some ⟨b_27,0,none⟩,1,1⟩,WD ⟨some ⟨b_28,0,none⟩,1,1⟩]) zag rfl (.cons rfl (.cons rfl (.cons rfl (.nil)))) rfl (by simp [Q7]) (by decide) (by decide) rfl rfl (fun b_29=>?_)
 refine zA ?_
 refine zN (zR ?_)
 refine zM ?_
 refine Qq (ps:=[(0,_),(1,_)]) (m:=[QP 5,QP 7]) Zf rfl (.cons rfl (.cons rfl (.nil))) rfl (by simp [Qv]) (by decide) (by decide) rfl rfl (fun b_32=>?_)
 refine KM (fun I1 hI1 hall1=>?_)
 have hDb:=hDb.mono hI1;have hIc:=hIc.trans hI1
 have h71:SlN I1 (some ⟨b_29,0,none⟩) 3 3 [[7],[9],[7]]:=zmw (vss:=[[7],[9],[7]]) ([⟨some ⟨b_26,0,none⟩,1,1⟩,⟨some ⟨b_27,0,none⟩,1,1⟩,⟨some ⟨b_28,0,none⟩,1,1⟩]:List Hd) rfl (show _=some (Obj.cells (([⟨some ⟨b_26,0,none⟩,1,1⟩,⟨some ⟨b_27,0,none⟩,1,1⟩,⟨some ⟨b_28,0,none⟩,1,1⟩]:List Hd).flatMap WD).toArray 23 (0,0)) from hall1 _ _ (by repeat (first | exact List.mem_cons_self .. | apply List.mem_cons_of_mem))) (((zcp.nil.snoc (hd:=⟨some ⟨b_26,0,none⟩,1,1⟩) (Sl.lit ([7]:List Int) rfl Qv (show _=some (Obj.cells (([7]:List Int).flatMap QP).toArray 3 (0,0)) from hall1 _ _ (by repeat (first | exact List.mem_cons_self .. | apply List.mem_cons_of_mem))))).snoc (hd:=⟨some ⟨b_27,0,none⟩,1,1⟩) (Sl.lit ([9]:List Int) rfl Qv (show _=some (Obj.cells (([9]:List Int).flatMap QP).toArray 3 (0,0)) from hall1 _ _ (by repeat (first | exact List.mem_cons_self .. | apply List.mem_cons_of_mem))))).snoc (hd:=⟨some ⟨b_28,0,none⟩,1,1⟩) (Sl.lit ([7]:List Int) rfl Qv (show _=some (Obj.cells (([7]:List Int).flatMap QP).toArray 3 (0,0)) from hall1 _ _ (by repeat (first | exact List.mem_cons_self .. | apply List.mem_cons_of_mem)))))
 have hC2:Sl I1 1 QP (some ⟨b_32,0,none⟩) 2 2 [5,7]:=(Sl.lit ([5,7]:List Int) rfl Qv (show _=some (Obj.cells (([5,7]:List Int).flatMap QP).toArray 3 (0,0)) from hall1 _ _ (by repeat (first | exact List.mem_cons_self .. | apply List.mem_cons_of_mem))))
 refine Qx (cap:=[]) (vs:=[_,_,_,_]) rfl rfl zic .nil (zfe (no:=1) (es:=[]) (rd:=[7]) (k:=1) h71 hC2 .nil hDb (by decide) (by decide) (by decide) mK9 rK9 rfl) rfl rfl ?_
 rintro vv2 I2 L2 hI2 ⟨rfl,x1,x2,x3,x4,x5,x6,rfl,hx1,hx2,hx3⟩
 have hDb:=hDb.mono hI2;have h71:=h71.mono hI2;have hIc:=hIc.trans hI2
 refine zM ?_
 refine zE ?_
 refine zE ?_
 refine Qr zko rfl rfl (fun b_2=>?_)
 refine zh KK ?_
 refine zA ?_
 refine zN (zR ?_)
 refine zM ?_
 refine zV (Qp rfl ZW (fun hg=>by exact Cells.g0) rfl) ?_
 refine Qx (cap:=[]) (vs:=[_,_]) rfl rfl zm7 .nil (zwC h71 hx1 hx2 hx3 hDb) rfl rfl ?_
 rintro vv3 I3 L3 hI3 ⟨rfl,ea,en,ec,rfl,hEn⟩
 have hDb:=hDb.mono hI3;have hIc:=hIc.trans hI3
 refine zM ?_
 refine zE ?_
 refine zE ?_
 refine zA ?_
 refine zA ?_
 refine zN (zR ?_)
 refine zV (QR (ps:=[]) [_,_,_,_] znl rfl rfl) ?_
 refine Qx (cap:=[]) (vs:=[_,_]) rfl rfl zm7 .nil (zuo hDb) rfl rfl ?_
 rintro vv4 I4 L4 hI4 ⟨rfl,e0a,e0n,e0c,rfl,_⟩
 have hDb:=hDb.mono hI4;have hEn:=hEn.mono hI4;have hIc:=hIc.trans hI4
 refine zM ?_
 refine zE ?_
 refine zE ?_
 refine zA ?_
 refine zA ?_
 refine zN (zR ?_)
 refine qc (vs:=[_]) rfl znp (zvI _ _) ?_
 refine Qq (ps:=[(0,_)]) (m:=[JM ⟨false,zgC 3⟩]) znA rfl (.cons rfl (.nil)) rfl (by simp [Zq]) (by decide) (by decide) rfl rfl (fun b_48=>?_)
 refine zV (QR (ps:=[(0,_),(2,_)]) [_,_,_] zmV rfl rfl) ?_
 refine qc (vs:=[_]) rfl znp (zvI _ _) ?_
 refine Qq (ps:=[(0,_)]) (m:=[JM ⟨false,zgC 4⟩]) znA rfl (.cons rfl (.nil)) rfl (by simp [Zq]) (by decide) (by decide) rfl rfl (fun b_51=>?_)
 refine zV (QR (ps:=[(0,_),(2,_)]) [_,_,_] zmV rfl rfl) ?_
 refine Qq (ps:=[(0,_),(1,_)]) (m:=[zkk ⟨1,0,some ⟨b_48,0,none⟩,1,1⟩,zkk ⟨2,0,some ⟨b_51,0,none⟩,1,1⟩]) ztT rfl (.cons rfl (.cons rfl (.nil))) rfl (by simp [ZI]) (by decide) (by decide) rfl rfl (fun b_53=>?_)
 refine zA ?_
 refine zN (zR ?_)
 refine zM ?_
 refine KM (fun I5 hI5 hall5=>?_)
 have hDb:=hDb.mono hI5;have hEn:=hEn.mono hI5;have hIc:=hIc.trans hI5
 have hq1:Sl I5 15 JM (some ⟨b_48,0,none⟩) 1 1 [⟨false,zgC 3⟩]:=Sl.lit ([⟨false,zgC 3⟩]:List Rd) rfl Zq (show _=some (Obj.cells (([⟨false,zgC 3⟩]:List Rd).flatMap JM).toArray 60 (0,0)) from hall5 _ _ (by repeat (first | exact List.mem_cons_self .. | apply List.mem_cons_of_mem)))
 have hq2:Sl I5 15 JM (some ⟨b_51,0,none⟩) 1 1 [⟨false,zgC 4⟩]:=Sl.lit ([⟨false,zgC 4⟩]:List Rd) rfl Zq (show _=some (Obj.cells (([⟨false,zgC 4⟩]:List Rd).flatMap JM).toArray 60 (0,0)) from hall5 _ _ (by repeat (first | exact List.mem_cons_self .. | apply List.mem_cons_of_mem)))
 have hWK:SlW I5 (some ⟨b_53,0,none⟩) 2 2 wK:=⟨[⟨1,0,some ⟨b_48,0,none⟩,1,1⟩,⟨2,0,some ⟨b_51,0,none⟩,1,1⟩],Sl.lit ([⟨1,0,some ⟨b_48,0,none⟩,1,1⟩,⟨2,0,some ⟨b_51,0,none⟩,1,1⟩]:List Wt) rfl ZI (show _=some (Obj.cells (([⟨1,0,some ⟨b_48,0,none⟩,1,1⟩,⟨2,0,some ⟨b_51,0,none⟩,1,1⟩]:List Wt).flatMap zkk).toArray 65 (0,0)) from hall5 _ _ (by repeat (first | exact List.mem_cons_self .. | apply List.mem_cons_of_mem))),rfl,fun k w x h1 h2=>by
  rcases k with _ | _ | k
  ·
   cases h1;cases h2;exact ⟨rfl,rfl,hq1⟩
  ·
   cases h1;cases h2;exact ⟨rfl,rfl,hq2⟩
  simp at h1⟩
 refine Qx (cap:=[]) (vs:=[_]) rfl rfl zmW .nil (zwn hWK) rfl rfl ?_
 rintro vv6 I6 L6 hI6 ⟨rfl,ta,tc,rfl,hT⟩
 have hDb:=hDb.mono hI6;have hEn:=hEn.mono hI6;have hWK:=hWK.mono hI6;have hIc:=hIc.trans hI6
 refine zM ?_
 refine zE ?_
 refine zE ?_
 refine zA ?_
 refine zA ?_
 refine zN (zR ?_)
 refine zM ?_
 refine Qq (ps:=[(0,_)]) (m:=[QP 3]) Zf rfl (.cons rfl (.nil)) rfl (by simp [Qv]) (by decide) (by decide) rfl rfl (fun b_61=>?_)
 refine KM (fun I7 hI7 hall7=>?_)
 have hDb:=hDb.mono hI7;have hEn:=hEn.mono hI7;have hWK:=hWK.mono hI7;have hT:=hT.mono hI7;have hIc:=hIc.trans hI7
 have hC3:Sl I7 1 QP (some ⟨b_61,0,none⟩) 1 1 [3]:=(Sl.lit ([3]:List Int) rfl Qv (show _=some (Obj.cells (([3]:List Int).flatMap QP).toArray 3 (0,0)) from hall7 _ _ (by repeat (first | exact List.mem_cons_self .. | apply List.mem_cons_of_mem))))
 refine Qx (cap:=[]) (vs:=[_,_,_,_]) rfl rfl zic .nil (zfe (no:=1) (es:=[]) (rd:=[36110336]) (k:=1) hT hC3 .nil hDb (by decide) (by decide) (by decide) mK rK rfl) rfl rfl ?_
 rintro vv8 I8 L8 hI8 ⟨rfl,y1,y2,y3,y4,y5,y6,rfl,hy1,hy2,hy3⟩
 have hDb:=hDb.mono hI8;have hEn:=hEn.mono hI8;have hWK:=hWK.mono hI8;have hT:=hT.mono hI8;have hIc:=hIc.trans hI8
 refine zM ?_
 refine zE ?_
 refine zE ?_
 refine Qr zko rfl rfl (fun b_11=>?_)
 refine zh KK ?_
 refine zA ?_
 refine zN (zR ?_)
 refine zV (QR (ps:=[(6,_)]) [_,_,_,_,_,_,_,_,_,_,_,_,_,_] UF rfl rfl) ?_
 refine zV (QR (ps:=[(0,_),(1,_),(3,_),(4,_)]) [_,_,_,_,_,_,_,_,_,_,_,_,_,_,_,_,_,_,_] zs9 rfl rfl) ?_
 refine Qq (ps:=[(0,_)]) (m:=[Yw ptK]) UK rfl (.cons rfl (.nil)) rfl (by simp [QY]) (by decide) (by decide) rfl rfl (fun b_67=>?_)
 refine zA ?_
 refine zN (zR ?_)
 refine zM ?_
 refine zM ?_
 refine zV (Qp rfl ZW (fun hg=>by exact Cells.g1) rfl) ?_
 refine zM ?_
 refine Qq (ps:=[(0,_)]) (m:=[QP 2]) Zf rfl (.cons rfl (.nil)) rfl (by simp [Qv]) (by decide) (by decide) rfl rfl (fun b_73=>?_)
 refine ZR (b:=b_67) (by repeat (first | exact Q8.here | apply Q8.there)) (fun I9 hI9 h_67=>?_)
 have hDb:=hDb.mono hI9;have hEn:=hEn.mono hI9;have hWK:=hWK.mono hI9;have hT:=hT.mono hI9;have hy1:=hy1.mono hI9;have hy2:=hy2.mono hI9;have hy3:=hy3.mono hI9;have hIc:=hIc.trans hI9
 refine ZR (b:=b_73) (by repeat (first | exact Q8.here | apply Q8.there)) (fun I10 hI10 h_73=>?_)
 have hDb:=hDb.mono hI10;have hEn:=hEn.mono hI10;have hWK:=hWK.mono hI10;have hT:=hT.mono hI10;have hy1:=hy1.mono hI10;have hy2:=hy2.mono hI10;have hy3:=hy3.mono hI10;have hIc:=hIc.trans hI10
 have h_67:=hI10 _ _ h_67
 have hPK:SlP I10 (some ⟨b_67,0,none⟩) 1 1 [ptK]:=⟨Sl.lit ([ptK]:List Pt) rfl QY (show _=some (Obj.cells (([ptK]:List Pt).flatMap Yw).toArray 57 (0,0)) from h_67),fun p hp=>by rw [List.mem_singleton] at hp;subst hp;exact .nil⟩
 have hv1:Sl I10 1 QP (some ⟨b_73,0,none⟩) 1 1 [2]:=Sl.lit ([2]:List Int) rfl Qv (show _=some (Obj.cells (([2]:List Int).flatMap QP).toArray 3 (0,0)) from h_73)
 refine Qx (cap:=[]) (vs:=[_,_,_,_,_,_,_]) rfl rfl zap .nil (zv1 (vs:=[2]) hWK hT hy1 hy2 hy3 hPK hv1 (by decide) hDb zxr zw4) rfl rfl ?_
 rintro vv11 I11 L11 hI11 ⟨rfl,_,rfl,oaA,onA,ocA,obA,omA,odA,rfl,hwA,hzA⟩
 have hDb:=hDb.mono hI11;have hEn:=hEn.mono hI11;have hWK:=hWK.mono hI11;have hT:=hT.mono hI11;have hy1:=hy1.mono hI11;have hy2:=hy2.mono hI11;have hy3:=hy3.mono hI11;have hPK:=hPK.mono hI11;have hIc:=hIc.trans hI11
 refine zM ?_
 refine zE ?_
 refine zE ?_
 refine Qr UM rfl rfl (fun b_14=>?_)
 refine zh Vk ?_
 refine zA ?_
 refine zN (zR ?_)
 refine zM ?_
 refine zM ?_
 refine zV (Qp rfl ZW (fun hg=>by exact Cells.g1) rfl) ?_
 refine zM ?_
 refine Qq (ps:=[(0,_)]) (m:=[QP 2]) Zf rfl (.cons rfl (.nil)) rfl (by simp [Qv]) (by decide) (by decide) rfl rfl (fun b_82=>?_)
 refine ZR (b:=b_82) (by repeat (first | exact Q8.here | apply Q8.there)) (fun I12 hI12 h_82=>?_)
 have hDb:=hDb.mono hI12;have hEn:=hEn.mono hI12;have hWK:=hWK.mono hI12;have hT:=hT.mono hI12;have hy1:=hy1.mono hI12;have hy2:=hy2.mono hI12;have hy3:=hy3.mono hI12;have hPK:=hPK.mono hI12;have hwA:=hwA.mono hI12;have hzA:=hzA.mono hI12;have hIc:=hIc.trans hI12
 have hv2:Sl I12 1 QP (some ⟨b_82,0,none⟩) 1 1 [2]:=Sl.lit ([2]:List Int) rfl Qv (show _=some (Obj.cells (([2]:List Int).flatMap QP).toArray 3 (0,0)) from h_82)
 refine Qx (cap:=[]) (vs:=[_,_,_,_,_,_,_]) rfl rfl zap .nil (zv1 (vs:=[2]) hWK hT hy1 hy2 hy3 hPK hv2 (by decide) hDb zxk zxw) rfl rfl ?_
 rintro vv13 I13 L13 hI13 ⟨rfl,_,rfl,oaB,onB,ocB,obB,omB,odB,rfl,hwB,hzB⟩
 have hDb:=hDb.mono hI13;have hEn:=hEn.mono hI13;have hWK:=hWK.mono hI13;have hT:=hT.mono hI13;have hy1:=hy1.mono hI13;have hy2:=hy2.mono hI13;have hy3:=hy3.mono hI13;have hPK:=hPK.mono hI13;have hwA:=hwA.mono hI13;have hzA:=hzA.mono hI13;have hIc:=hIc.trans hI13
 refine zM ?_
 refine zE ?_
 refine zE ?_
 refine Qr UM rfl rfl (fun b_16=>?_)
 refine zh Vk ?_
 refine zA ?_
 refine zN (zR ?_)
 refine zM ?_
 refine zM ?_
 refine zV (Qp rfl ZW (fun hg=>by exact Cells.g2) rfl) ?_
 refine zM ?_
 refine Qx (cap:=[]) (vs:=[_,_,_,_,_,_,_]) rfl rfl zap .nil (zv1 (vs:=[]) hWK hT hy1 hy2 hy3 hPK .nil (by decide) hDb zwi zwK) rfl rfl ?_
 rintro vv14 I14 L14 hI14 ⟨rfl,_,rfl,oaC,onC,ocC,obC,omC,odC,rfl,hwC,hzC⟩
 have hDb:=hDb.mono hI14;have hEn:=hEn.mono hI14;have hWK:=hWK.mono hI14;have hT:=hT.mono hI14;have hy1:=hy1.mono hI14;have hy2:=hy2.mono hI14;have hy3:=hy3.mono hI14;have hPK:=hPK.mono hI14;have hwA:=hwA.mono hI14;have hzA:=hzA.mono hI14;have hwB:=hwB.mono hI14;have hzB:=hzB.mono hI14
 have hIc:=hIc.trans hI14
 refine zM ?_
 refine zE ?_
 refine zE ?_
 refine Qr UM rfl rfl (fun b_18=>?_)
 refine zh Vk ?_
 refine zA ?_
 refine zN (zR ?_)
 refine zM ?_
 refine zM ?_
 refine zV (Qp rfl ZW (fun hg=>by exact Cells.g3) rfl) ?_
 refine zM ?_
 refine Qx (cap:=[]) (vs:=[_,_,_,_,_,_,_]) rfl rfl zap .nil (zv1 (vs:=[]) hWK hT hy1 hy2 hy3 hPK .nil (by decide) hDb zw2 zwP) rfl rfl ?_
 rintro vv15 I15 L15 hI15 ⟨rfl,_,rfl,oaD,onD,ocD,obD,omD,odD,rfl,hwD,hzD⟩
 have hDb:=hDb.mono hI15;have hEn:=hEn.mono hI15;have hWK:=hWK.mono hI15;have hT:=hT.mono hI15;have hy1:=hy1.mono hI15;have hy2:=hy2.mono hI15;have hy3:=hy3.mono hI15;have hPK:=hPK.mono hI15;have hwA:=hwA.mono hI15;have hzA:=hzA.mono hI15;have hwB:=hwB.mono hI15;have hzB:=hzB.mono hI15
 have hwC:=hwC.mono hI15;have hzC:=hzC.mono hI15;have hIc:=hIc.trans hI15
 refine zM ?_
 refine zE ?_
 refine zE ?_
 refine Qr UM rfl rfl (fun b_20=>?_)
 refine zh Vk ?_
 refine zA ?_
 refine zN (zR ?_)
 refine zM ?_
 refine zM ?_
 refine zV (Qp rfl ZW (fun hg=>by exact Cells.g4) rfl) ?_
 refine zM ?_
 refine Qq (ps:=[(0,_)]) (m:=[QP 2]) Zf rfl (.cons rfl (.nil)) rfl (by simp [Qv]) (by decide) (by decide) rfl rfl (fun b_107=>?_)
 refine ZR (b:=b_107) (by repeat (first | exact Q8.here | apply Q8.there)) (fun I16 hI16 h_107=>?_)
 have hDb:=hDb.mono hI16;have hEn:=hEn.mono hI16;have hWK:=hWK.mono hI16;have hT:=hT.mono hI16;have hy1:=hy1.mono hI16;have hy2:=hy2.mono hI16;have hy3:=hy3.mono hI16;have hPK:=hPK.mono hI16;have hwA:=hwA.mono hI16;have hzA:=hzA.mono hI16;have hwB:=hwB.mono hI16;have hzB:=hzB.mono hI16
 have hwC:=hwC.mono hI16;have hzC:=hzC.mono hI16;have hIc:=hIc.trans hI16
 have hv3:Sl I16 1 QP (some ⟨b_107,0,none⟩) 1 1 [2]:=Sl.lit ([2]:List Int) rfl Qv (show _=some (Obj.cells (([2]:List Int).flatMap QP).toArray 3 (0,0)) from h_107)
 refine Qx (cap:=[]) (vs:=[_,_,_,_,_]) rfl rfl zng .nil (zxV (vs:=[2]) hWK hT hy1 hy2 hy3 hPK hv3 (by decide) hDb zvY zwR) rfl rfl ?_
 rintro vv17 I17 L17 hI17 ⟨rfl,taA,tcA,rfl,hprA⟩
 have hDb:=hDb.mono hI17;have hEn:=hEn.mono hI17;have hWK:=hWK.mono hI17;have hT:=hT.mono hI17;have hy1:=hy1.mono hI17;have hy2:=hy2.mono hI17;have hy3:=hy3.mono hI17;have hPK:=hPK.mono hI17;have hwA:=hwA.mono hI17;have hzA:=hzA.mono hI17;have hwB:=hwB.mono hI17;have hzB:=hzB.mono hI17
 have hwC:=hwC.mono hI17;have hzC:=hzC.mono hI17;have hIc:=hIc.trans hI17
 refine zM ?_
 refine zE ?_
 refine zE ?_
 refine zA ?_
 refine zA ?_
 refine zN (zR ?_)
 refine zM ?_
 refine zM ?_
 refine zV (Qp rfl ZW (fun hg=>by exact Cells.g4) rfl) ?_
 refine zM ?_
 refine Qx (cap:=[]) (vs:=[_,_,_,_,_]) rfl rfl zng .nil (zxV (vs:=[]) hWK hT hy1 hy2 hy3 hPK .nil (by decide) hDb zvR zwF) rfl rfl ?_
 rintro vv18 I18 L18 hI18 ⟨rfl,taB,tcB,rfl,hprB⟩
 have hEn:=hEn.mono hI18;have hwA:=hwA.mono hI18;have hzA:=hzA.mono hI18;have hwB:=hwB.mono hI18;have hzB:=hzB.mono hI18;have hwC:=hwC.mono hI18;have hzC:=hzC.mono hI18;have hprA:=hprA.mono hI18;have hIc:=hIc.trans hI18
 refine zM ?_
 refine zE ?_
 refine zE ?_
 refine zA ?_
 refine zA (zN (Ql (zR ?_)))
 refine zM ?_
 refine zC ?_
 refine zM ?_
 refine Q0 2 rfl rfl rfl ?_
 refine zJ (Qi rfl) ?_
 refine zJ (QJ rfl rfl rfl) ?_
 refine ZA rfl rfl rfl rfl rfl ?_
 refine zM ?_
 refine Q0 6 rfl rfl rfl ?_
 refine zJ (Qi rfl) ?_
 refine zJ (QJ rfl rfl rfl) ?_
 refine ZA rfl rfl rfl rfl rfl ?_
 refine zM ?_
 refine Q0 10 rfl rfl rfl ?_
 refine zJ (Qi rfl) ?_
 refine zJ (QJ rfl rfl rfl) ?_
 refine ZA rfl rfl rfl rfl rfl ?_
 refine zM ?_
 refine Q0 14 rfl rfl rfl ?_
 refine zJ (Qi rfl) ?_
 refine zJ (QJ rfl rfl rfl) ?_
 refine ZA rfl rfl rfl rfl rfl ?_
 refine zM ?_
 refine Q0 18 rfl rfl rfl ?_
 refine zJ (Qi rfl) ?_
 refine zJ (QJ rfl rfl rfl) ?_
 refine ZA rfl rfl rfl rfl rfl ?_
 refine zM ?_
 refine Q0 22 rfl rfl rfl ?_
 refine zJ (Qi rfl) ?_
 refine zJ (QJ rfl rfl rfl) ?_
 refine ZA rfl rfl rfl rfl rfl ?_
 refine zM ?_
 refine Q0 26 rfl rfl rfl ?_
 refine zJ (Qi rfl) ?_
 refine zJ (QJ rfl rfl rfl) ?_
 refine ZA rfl rfl rfl rfl rfl ?_
 refine zM ?_
 refine Q0 30 rfl rfl rfl ?_
 refine zJ (Qi rfl) ?_
 refine zJ (QJ rfl rfl rfl) ?_
 refine ZA rfl rfl rfl rfl rfl ?_
 refine zM ?_
 refine Q0 34 rfl rfl rfl ?_
 refine zJ (Qi rfl) ?_
 refine zJ (QJ rfl rfl rfl) ?_
 refine ZA rfl rfl rfl rfl rfl ?_
 refine zM ?_
 refine Q0 38 rfl rfl rfl ?_
 refine zJ (Qi rfl) ?_
 refine zJ (QJ rfl rfl rfl) ?_
 refine ZA rfl rfl rfl rfl rfl ?_
 refine zM ?_
 refine Q0 42 rfl rfl rfl ?_
 refine zJ (Qi rfl) ?_
 refine zJ (ZH rfl K9) ?_
 refine zJ (QJ rfl rfl rfl) ?_
 refine ZA rfl rfl rfl rfl rfl ?_
 refine zN ?_
 refine zI ?_ ?_<;>intro hc165
 ·
  exact absurd hc165 (by decide)
 refine Qo (Qa (Ql (zR (zM ?_))))
 refine Qq (ps:=[(0,_),(1,_)]) (m:=[QP 0,QP 2]) Zf rfl (.cons rfl (.cons rfl (.nil))) rfl (by simp [Qv]) (by decide) (by decide) rfl rfl (fun b_167=>?_)
 refine zV (QR (ps:=[(0,_),(1,_)]) [_,_] zjb rfl rfl) ?_
 refine Qq (ps:=[(0,_)]) (m:=[QP 1]) Zf rfl (.cons rfl (.nil)) rfl (by simp [Qv]) (by decide) (by decide) rfl rfl (fun b_169=>?_)
 refine zV (QR (ps:=[(0,_),(1,_)]) [_,_] zjb rfl rfl) ?_
 refine Qq (ps:=[(0,_),(1,_)]) (m:=[zba ⟨7,⟨some ⟨b_167,0,none⟩,2,2⟩⟩,zba ⟨9,⟨some ⟨b_169,0,none⟩,1,1⟩⟩]) zjz rfl (.cons rfl (.cons rfl (.nil))) rfl (by simp [Zl]) (by decide) (by decide) rfl rfl (fun b_171=>?_)
 refine zV (QR (ps:=[(1,_),(2,_)]) [_,_,_] zn6 rfl rfl) ?_
 refine Qq (ps:=[(0,_)]) (m:=[zcI ⟨0,7,⟨some ⟨b_171,0,none⟩,2,2⟩⟩]) zhZ rfl (.cons rfl (.nil)) rfl (by simp [Zk]) (by decide) (by decide) rfl rfl (fun b_173=>?_)
 refine ZR (b:=b_167) (by repeat (first | exact Q8.here | apply Q8.there)) (fun I19 hI19 h_167=>?_)
 have hEn:=hEn.mono hI19;have hwA:=hwA.mono hI19;have hzA:=hzA.mono hI19;have hwB:=hwB.mono hI19;have hzB:=hzB.mono hI19;have hwC:=hwC.mono hI19;have hzC:=hzC.mono hI19;have hprA:=hprA.mono hI19;have hIc:=hIc.trans hI19
 refine ZR (b:=b_169) (by repeat (first | exact Q8.here | apply Q8.there)) (fun I20 hI20 h_169=>?_)
 have hEn:=hEn.mono hI20;have hwA:=hwA.mono hI20;have hzA:=hzA.mono hI20;have hwB:=hwB.mono hI20;have hzB:=hzB.mono hI20;have hwC:=hwC.mono hI20;have hzC:=hzC.mono hI20;have hprA:=hprA.mono hI20;have hIc:=hIc.trans hI20
 have h_167:=hI20 _ _ h_167
 refine ZR (b:=b_171) (by repeat (first | exact Q8.here | apply Q8.there)) (fun I21 hI21 h_171=>?_)
 have hEn:=hEn.mono hI21;have hwA:=hwA.mono hI21;have hzA:=hzA.mono hI21;have hwB:=hwB.mono hI21;have hzB:=hzB.mono hI21;have hwC:=hwC.mono hI21;have hzC:=hzC.mono hI21;have hprA:=hprA.mono hI21;have hIc:=hIc.trans hI21
 have h_167:=hI21 _ _ h_167
 have h_169:=hI21 _ _ h_169
 refine ZR (b:=b_173) (by repeat (first | exact Q8.here | apply Q8.there)) (fun I22 hI22 h_173=>?_)
 have hEn:=hEn.mono hI22;have hwA:=hwA.mono hI22;have hzA:=hzA.mono hI22;have hwB:=hwB.mono hI22;have hzB:=hzB.mono hI22;have hwC:=hwC.mono hI22;have hzC:=hzC.mono hI22;have hprA:=hprA.mono hI22;have hIc:=hIc.trans hI22
 have h_167:=hI22 _ _ h_167
 have h_169:=hI22 _ _ h_169
 have h_171:=hI22 _ _ h_171
 have hOE:=zql h_167 h_169 h_171 h_173
 refine qc (vs:=[_,_]) rfl zuP (zp1 hEn hOE) ?_
 refine zO ?_
 refine zM ?_
 refine QM (dj:=176) rfl rfl rfl ?_
 refine zM ?_
 refine QM (dj:=176) rfl rfl rfl ?_
 refine zV (Zw (ps:=[(0,_),(1,_)]) [_,_] YN KI rfl rfl) ?_
 refine QM (dj:=176) rfl rfl rfl ?_
 refine Qq (ps:=[(0,_)]) (m:=[VO ((0:Int),(5:Int))]) JN rfl (.cons rfl (.nil)) rfl (by simp [VO]) (by decide) (by decide) rfl rfl (fun b_179=>?_)
 refine ZR (b:=b_179) (by repeat (first | exact Q8.here | apply Q8.there)) (fun I23 hI23 h_179=>?_)
 have hwA:=hwA.mono hI23;have hzA:=hzA.mono hI23;have hwB:=hwB.mono hI23;have hzB:=hzB.mono hI23;have hwC:=hwC.mono hI23;have hzC:=hzC.mono hI23;have hprA:=hprA.mono hI23;have hIc:=hIc.trans hI23
 have hOP:Sl I23 2 VO (some ⟨b_179,0,none⟩) 1 1 [((0:Int),(5:Int))]:=Sl.lit _ rfl (fun _=>rfl) h_179
 refine QM (dj:=176) rfl rfl rfl ?_
 refine qc (vs:=[_,_]) rfl zsL (zo4 hprA hOP (by decide)) ?_
 refine QM (dj:=176) rfl rfl rfl ?_
 refine zO ?_
 refine zV (ZL rfl rfl rfl) ?_
 refine zN ?_
 refine zI ?_ ?_<;>intro hc182
 ·
  exact absurd hc182 (by decide)
 refine Qo (Qa (zR ?_))
 refine zV (Qp rfl YH (fun hg=>by exact Cells.g3) rfl) ?_
 refine Qq (ps:=[(0,_)]) (m:=[QP 2]) Zf rfl (.cons rfl (.nil)) rfl (by simp [Qv]) (by decide) (by decide) rfl rfl (fun b_184=>?_)
 refine zV (QR (ps:=[(0,_),(3,_)]) [_,_,_,_] XX rfl rfl) ?_
 refine ZR (b:=b_184) (by repeat (first | exact Q8.here | apply Q8.there)) (fun I24 hI24 h_184=>?_)
 have hwA:=hwA.mono hI24;have hzA:=hzA.mono hI24;have hwB:=hwB.mono hI24;have hzB:=hzB.mono hI24;have hwC:=hwC.mono hI24;have hzC:=hzC.mono hI24;have hIc:=hIc.trans hI24
 have hv4:Sl I24 1 QP (some ⟨b_184,0,none⟩) 1 1 [2]:=Sl.lit ([2]:List Int) rfl Qv (show _=some (Obj.cells (([2]:List Int).flatMap QP).toArray 3 (0,0)) from h_184)
 refine qc (vs:=[_,_]) rfl zfk (zdQ hwA hzA .nil hv4 (by rw [←hwA.len];decide) (by rw [←hzA.len];decide)) ?_
 refine zM ?_
 refine QM (dj:=187) rfl rfl rfl ?_
 refine zV (Qp rfl YH (fun hg=>by exact Cells.g2) rfl) ?_
 refine QM (dj:=187) rfl rfl rfl ?_
 refine Qq (ps:=[(0,_)]) (m:=[QP 0]) Zf rfl (.cons rfl (.nil)) rfl (by simp [Qv]) (by decide) (by decide) rfl rfl (fun b_189=>?_)
 refine QM (dj:=187) rfl rfl rfl ?_
 refine zV (QR (ps:=[(0,_),(2,_)]) [_,_,_,_] XX rfl rfl) ?_
 refine ZR (b:=b_189) (by repeat (first | exact Q8.here | apply Q8.there)) (fun I25 hI25 h_189=>?_)
 have hwB:=hwB.mono hI25;have hzB:=hzB.mono hI25;have hwC:=hwC.mono hI25;have hzC:=hzC.mono hI25;have hIc:=hIc.trans hI25
 have hv5:Sl I25 1 QP (some ⟨b_189,0,none⟩) 1 1 [0]:=Sl.lit ([0]:List Int) rfl Qv (show _=some (Obj.cells (([0]:List Int).flatMap QP).toArray 3 (0,0)) from h_189)
 refine QM (dj:=187) rfl rfl rfl ?_
 refine qc (vs:=[_,_]) rfl zfk (zdQ hwB hzB hv5 .nil (by rw [←hwB.len];decide) (by rw [←hzB.len];decide)) ?_
 refine zV (ZL rfl rfl rfl) ?_
 refine zM ?_
 refine QM (dj:=193) rfl rfl rfl ?_
 refine zV (Qp rfl YH (fun hg=>by exact Cells.g1) rfl) ?_
 refine QM (dj:=193) rfl rfl rfl ?_
 refine Qq (ps:=[(0,_)]) (m:=[QP 0]) Zf rfl (.cons rfl (.nil)) rfl (by simp [Qv]) (by decide) (by decide) rfl rfl (fun b_195=>?_)
 refine QM (dj:=193) rfl rfl rfl ?_
 refine zV (QR (ps:=[(0,_),(2,_)]) [_,_,_,_] XX rfl rfl) ?_
 refine ZR (b:=b_195) (by repeat (first | exact Q8.here | apply Q8.there)) (fun I26 hI26 h_195=>?_)
 have hwC:=hwC.mono hI26;have hzC:=hzC.mono hI26;have hIc:=hIc.trans hI26
 have hv6:Sl I26 1 QP (some ⟨b_195,0,none⟩) 1 1 [0]:=Sl.lit ([0]:List Int) rfl Qv (show _=some (Obj.cells (([0]:List Int).flatMap QP).toArray 3 (0,0)) from h_195)
 refine QM (dj:=193) rfl rfl rfl ?_
 refine qc (vs:=[_,_]) rfl zfk (zdQ hwC hzC hv6 .nil (by rw [←hwC.len];decide) (by rw [←hzC.len];decide)) ?_
 refine zV (ZL rfl rfl rfl) ?_
 refine zA (zN (Qs ?_))
 exact zp hIc rfl rfl (by rfl)
end
section
open Go Go.Kn Go.Proofs
theorem zqu (l:List Pt):(zrX l).length≤l.length:=by
 cases l with
 | nil=>exact Nat.le_refl _
 | cons p r=>unfold zrX;rw [List.length_map];exact List.length_filter_le _ _
theorem zmA {on:Int→Int→Bool}{rows:List (List Int)}{es:List Em}{rd:List Int}{l:List Pt}{s f:Int}:(zaB on rows es rd l s f).ws.length≤rows.length+1∧(zaB on rows es rd l s f).ps.length≤l.length+1:=by
 unfold zaB
 split
 ·
  refine ⟨Nat.zero_le _,?_⟩
  have h1:=zqu (XM on l s f)
  have h2:(XM on l s f).length≤l.length:=Nat.le_trans (List.length_filter_le _ _) Wo
  show (zrX (XM on l s f)).length≤_
  omega
 ·
  split
  ·
   unfold or2
   split
   ·
    exact ⟨Nat.zero_le _,by simp⟩
   ·
    exact ⟨Nat.zero_le _,Nat.zero_le _⟩
  ·
   split
   ·
    unfold or3
    split
    ·
     exact ⟨by simp,Nat.zero_le _⟩
    ·
     exact ⟨Nat.zero_le _,Nat.zero_le _⟩
   ·
    split
    ·
     exact ⟨Nat.zero_le _,Nat.zero_le _⟩
    ·
     exact ⟨Nat.le_trans zea (Nat.le_succ _),Nat.zero_le _⟩
end
section
open Go Go.Kn Go.Proofs
theorem ztl:Fun Tryz.prog 10:=.of Tryz.func10 (by kernel_rfl) (by kernel_rfl)
theorem zxy:Fun Tryz.prog 9:=.of Tryz.func9 (by kernel_rfl) (by kernel_rfl)
end
section
open Go Go.Kn Go.Proofs
def LsQ (few:Bool)(e:Int)(s:List Sg)(v:Value)(I:Qu)(L:Go.Kn.Loc):Prop:=L=[]∧∃ a n c b,v= .tuple #[.slice a n c,.bool b]∧(b=true→few=true∧e=0∧Sl I 14 YZ a n c s)
def zgx (vs:List Int)(x:Int):Bool:=vs.any (· ==x)
theorem zjT {vs:List Int}{k:Nat}{y:Int}(h:vs[k]? =some y)(x:Int):zgx (vs.take (k+1)) x=(decide (y=x)||zgx (vs.take k) x):=by
 unfold zgx
 rw [JS h,Bool.or_comm]
 congr 1
def abJ (ps:List Pt)(vs:List Int)(id:Int)(j:Nat)(x:Int):Bool:= !zgx vs id&&(ps.take j).any fun p=>p.id==id&&p.sign==x
def abK (ps:List Pt)(vs us:List Int)(k:Nat)(x:Int):Bool:=(us.take k).any fun id=>abJ ps vs id ps.length x
theorem zqm {ps:List Pt}{vs:List Int}{id:Int}{j:Nat}{p:Pt}(hp:ps[j]? =some p)(h:(p.id==id&& !zgx vs id)=true)(x:Int):abJ ps vs id (j+1) x=(decide (p.sign=x)||abJ ps vs id j x):=by
 rw [Bool.and_eq_true] at h
 unfold abJ
 rw [h.2,JS hp,h.1,Bool.true_and,Bool.true_and,Bool.true_and,Bool.or_comm]
 congr 1
theorem zu6 {ps:List Pt}{vs:List Int}{id:Int}{j:Nat}{p:Pt}(hp:ps[j]? =some p)(h:(p.id==id&& !zgx vs id)=false)(x:Int):abJ ps vs id (j+1) x=abJ ps vs id j x:=by
 unfold abJ
 rw [JS hp]
 cases h1: !zgx vs id with
 | false=>rfl
 | true=>rw [h1,Bool.and_true] at h;rw [h,Bool.false_and,Bool.or_false]
theorem zlt {ps:List Pt}{vs us:List Int}{k:Nat}{y:Int}(h:us[k]? =some y)(x:Int):abK ps vs us (k+1) x=(abK ps vs us k x||abJ ps vs y ps.length x):=by
 unfold abK;rw [JS h]
theorem zug {l l':List Pt}{s:Int}(h:zgz l l' s):or2 l s=or2 l' s:=by
 have key:∀ l:List Pt,l.find? (inP s)=((l.filter fun p=>p.sign==s).find? fun q=>q.kind==2):=fun l=>by
  rw [List.find?_filter]
  exact congrArg (fun g=>l.find? g) (funext fun q=>by unfold inP;cases (q.kind==2)<;>cases (q.sign==s)<;>rfl)
 unfold or2
 rw [key l,key l',h]
theorem ztw {on:Int→Int→Bool}{rows:List (List Int)}{es:List Em}{rd:List Int}{l l':List Pt}{s f:Int}(h:zgz l l' s):zaB on rows es rd l s f=zaB on rows es rd l' s f:=by
 unfold zaB or1
 rw [zhu h,zug h]
theorem zfr {ps:List Pt}{a b:List Int}{p:Pt}(hL:Lst ps)(hp:p∈ps):p.id∈Ur ps a b↔p.id∈a∨p.id∈b:=by
 unfold Ur
 constructor
 ·
  intro h
  obtain ⟨q,hq,e⟩:=List.mem_map.1 h
  obtain ⟨hq1,hq2⟩:=List.mem_filter.1 hq
  have:q=p:=hL.uniq hq1 hp e
  subst this
  simpa using hq2
 ·
  intro h
  exact List.mem_map.2 ⟨p,List.mem_filter.2 ⟨hp,by simpa using h⟩,rfl⟩
theorem zuI {ps:List Pt}{vs us:List Int}(hL:Lst ps){s:Int}(h:abK ps vs (Ur ps vs us) (Ur ps vs us).length s=false):zgz (Yh ps vs) (Yh ps (Ur ps vs us)) s:=by
 unfold zgz Yh
 rw [List.filter_filter,List.filter_filter]
 refine List.filter_congr fun p hp=>?_
 cases hs:p.sign==s with
 | false=>rfl
 | true=>
  rw [Bool.true_and,Bool.true_and,Bool.eq_iff_iff]
  have e1:(vs.any fun x=>x==p.id)=true↔p.id∈vs:=by simp
  have e2:((Ur ps vs us).any fun x=>x==p.id)=true↔p.id∈Ur ps vs us:=by simp
  rw [e1,e2,zfr hL hp]
  constructor
  ·
   exact fun h=>.inl h
  ·
   intro hm
   by_cases hv:p.id∈vs
   ·
    exact hv
   ·
    unfold abK at h
    rw [List.take_length,List.any_eq_false] at h
    refine absurd ?_ (h p.id ((zfr hL hp).2 hm))
    unfold abJ zgx
    rw [List.take_length,Bool.and_eq_true]
    refine ⟨?_,List.any_eq_true.2 ⟨p,hp,by rw [hs];simp⟩⟩
    rw [Bool.not_eq_true',Bool.eq_false_iff]
    intro hc
    rw [List.any_eq_true] at hc
    obtain ⟨y,hy,e⟩:=hc
    rw [beq_iff_eq] at e
    exact hv (e ▸ hy)
theorem zhO {xs:List Sg}{x:Sg}(h:Srt xs)(hx:x∈xs):Z1 xs x.id=some x:=zd5 h hx
theorem zhN {base:List Sg}{ps:List Pt}{vs us:List Int}(h1:zc7 ps base vs=0)(h2:zc7 ps base (Ur ps vs us)=0)(hb:Srt base){x:Sg}(hx:x∈U8 (onF ps) base (Yh ps vs))(ha:abK ps vs (Ur ps vs us) (Ur ps vs us).length x.id=false):
  ∃ y∈U8 (onF ps) base (Yh ps (Ur ps vs us)),y.id=x.id:=by
 obtain ⟨hsto,_,_,_,_,hver,hfit,_⟩:=Uc h1
 obtain ⟨_,_,_,_,_,hver2,hfit2,_⟩:=Uc h2
 have hab:=zuI hsto.lst ha
 have hs1:=Xi hsto hver
 have hs2:=Xi hsto hver2
 have h:=zmt (on:=onF ps) hb hs1 hfit hs2 hfit2 hab
 rw [zhO (zpm (Xf hb hs1 hfit).1) hx] at h
 have h:=h.symm
 exact ⟨x,zbu h,rfl⟩
theorem ziw {e0:Int}{s:List Sg}{sign f:Int}(h0:e0=0)(hf:isF f)(hs:∃ y∈s,y.id=sign):orE e0 s sign f=0:=by
 refine ztQ h0 ?_
 unfold isF at hf
 obtain ⟨y,hy,e⟩:=hs
 rw [Bool.or_eq_false_iff,Bool.or_eq_false_iff]
 refine ⟨⟨by simpa using hf.1,by simpa using hf.2⟩,?_⟩
 rw [Bool.not_eq_false',List.any_eq_true]
 exact ⟨y,hy,by simpa using e⟩
theorem zk2 {o:Og}:orO 0 o=o:=if_neg (by decide)
end
section
open Go Go.Kn Go.Proofs
theorem zof:Fun Tryz.prog 20:=.of Tryz.func20 (by kernel_rfl) (by kernel_rfl)
theorem zuO:Fun Tryz.prog 24:=.of Tryz.func24 (by kernel_rfl) (by kernel_rfl)
theorem zua {I:Qu}{av:Option Addr}{n c:Nat}{ws:List Wr}(hW0:SlW I av n c ws)(hnb:n≤9223372036854775807){bv:Option Addr}{n2 c2:Nat}{rows:List (List Int)}(hVn:SlN I bv n2 c2 rows){ea1:Option Addr}{en1 ec1:Nat}{ea2:Option Addr}{en2 ec2:Nat}{ea3:Option Addr}{en3 ec3:Nat}{xs:List Int}{es:List Em}{rd:List Int}(hX1:Sl I 1 QP ea1 en1 ec1 xs)(hX2:Sl I 3 Yt ea2 en2 ec2 es)(hX3:Sl I 1 QP ea3 en3 ec3 rd)(no:Int){pv:Option Addr}{pn pc:Nat}{ps:List Pt}(hP:SlP I pv pn pc ps){dv:Option Addr}{n3 c3:Nat}{vs:List Int}(hVs:Sl I 1 QP dv n3 c3 vs)(hDb:VF I):Yc Tryz.prog 20 [.slice av n c,.slice bv n2 c2,.agg (Z3 no ea1 en1 ec1 ea2 en2 ec2 ea3 en3 ec3).toArray,.slice pv pn pc,.slice dv n3 c3] I [] (LsQ (za7 ws rows xs es rd ps vs) (zdg (Kl ws rows no xs es rd) ps (Vf ws rows no xs es rd) vs) (U8 (onF ps) (Vf ws rows no xs es rd) (Yh ps vs))):=by
 intro g H w hw
 refine qe Tryz.func20 Tryz.ntmps20 hw ?_
 have hIc:=zyv I
 have hVl:=hVn.len
 have hX1l:=hX1.len
 have hX2l:=hX2.len
 have hX3l:=hX3.len
 have hWl:=hW0.len
 have hPl:=hP.len
 have hVsl:=hVs.len
 refine zR ?_
 refine Q5 rfl rfl rfl (fun b_7=>?_)
 refine zA ?_
 refine zA (zN (Ql (zR ?_)))
 refine zM ?_
 refine zM ?_
 refine zV (Qp rfl ZW (fun hg=>by exact Cells.g0) rfl) ?_
 refine zM ?_
 refine zM ?_
 refine qc (vs:=[_,_,_,_,_]) rfl ztl (zpQ hW0 hnb hVn hX1 hX2 hX3 no hP hVs) ?_
 refine zO (zN ?_)
 refine zI ?_ ?_<;>intro hc20
 ·
  refine zR (zA ?_)
  refine zA (zN (Qs (Qc ?_)))
  exact Zo rfl rfl rfl (fun w hw=>⟨_,I,[],rfl,hIc,hw.drop,rfl,_,_,_,false,rfl,fun h=>by cases h⟩)
 have hfew:za7 ws rows xs es rd ps vs=true:=zd7 hc20
 obtain ⟨g1,g2,g3,g4,g5,g6,g7,g8,g9,g10⟩:=zhE hfew
 refine Qo (Qa (zR (zM ?_)))
 refine zM ?_
 refine zV (Qp rfl ZW (fun hg=>by exact Cells.g0) rfl) ?_
 refine Qx (cap:=[]) (vs:=[_,_,_]) rfl rfl zmL .nil (Go.Proofs.YtodakphagkommaaGreatDoor.w_Signs hW0 (by omega) hVn (by omega) hX1 hX2 hX3 (by omega) (by omega) (by omega) no hDb (fun e=>e ▸ zjk)) rfl rfl ?_
 rintro vv1 I1 L1 hI1 ⟨rfl,as9,cs9,rfl,hSg⟩
 have hP:=hP.mono hI1;have hVs:=hVs.mono hI1;have hIc:=hIc.trans hI1
 have hSg:Sl I1 14 YZ as9 (Vf ws rows no xs es rd).length cs9 (Vf ws rows no xs es rd):=hSg
 refine zM ?_
 refine zE ?_
 refine zE ?_
 refine zA ?_
 refine zA (zN (Ql (zR ?_)))
 refine zM ?_
 refine zC (zN ?_)
 refine zI ?_ ?_<;>intro hc29
 ·
  have he1:(Kl ws rows no xs es rd)≠0:=by simpa using hc29
  refine zR (zA ?_)
  refine zA (zN (Qs (Qc ?_)))
  exact Zo rfl rfl rfl (fun w hw=>⟨_,I1,[],rfl,hIc,hw.drop,rfl,_,_,_,false,rfl,fun h=>by cases h⟩)
 have he1:(Kl ws rows no xs es rd)=0:=by simpa using hc29
 refine Qo (Qa (zR (zM ?_)))
 refine zM ?_
 refine zM ?_
 refine Qx (cap:=[]) (vs:=[_,_,_]) rfl rfl znv .nil (w_Signs hP (by omega) hSg (by have:=za9 (ws:=ws) (rows:=rows) (no:=no) (cl:=xs) (es:=es) (rd:=rd);omega) hVs (by omega)) rfl rfl ?_
 rintro vv2 I2 L2 hI2 ⟨rfl,as8,cs8,rfl,hSs⟩
 have hIc:=hIc.trans hI2
 refine zM ?_
 refine zE ?_
 refine zE ?_
 refine zA ?_
 refine zA ?_
 refine zN (zR ?_)
 refine zM ?_
 refine zM ?_
 refine zC ?_
 refine zA ?_
 refine zA (zN (Qs ?_))
 first
 | exact Zo rfl rfl rfl (fun w hw=>⟨_,I2,[],rfl,hIc,hw.drop,rfl,_,_,_,_,rfl,fun h=>by have he2:zc7 ps (Vf ws rows no xs es rd) vs=0:=beq_iff_eq.1 h;exact ⟨hfew,by rw [zeY he1,he2],by rw [←(Uc he2).2.2.2.2.2.2.2.1];exact hSs⟩⟩)
theorem w_lLater {I:Qu}{av:Option Addr}{n c:Nat}{ws:List Wr}(hW0:SlW I av n c ws)(hnb:n≤9223372036854775807){bv:Option Addr}{n2 c2:Nat}{rows:List (List Int)}(hVn:SlN I bv n2 c2 rows){ea1:Option Addr}{en1 ec1:Nat}{ea2:Option Addr}{en2 ec2:Nat}{ea3:Option Addr}{en3 ec3:Nat}{xs:List Int}{es:List Em}{rd:List Int}(hX1:Sl I 1 QP ea1 en1 ec1 xs)(hX2:Sl I 3 Yt ea2 en2 ec2 es)(hX3:Sl I 1 QP ea3 en3 ec3 rd)(no:Int){pv:Option Addr}{pn pc:Nat}{ps:List Pt}(hP:SlP I pv pn pc ps){dv:Option Addr}{n3 c3:Nat}{vs:List Int}(hVs:Sl I 1 QP dv n3 c3 vs){ev:Option Addr}{n4 c4:Nat}{us:List Int}(hUs:Sl I 1 QP ev n4 c4 us)(hDb:VF I):Zx Tryz.prog 8 [.slice av n c,.slice bv n2 c2,.agg (Z3 no ea1 en1 ec1 ea2 en2 ec2 ea3 en3 ec3).toArray,.slice pv pn pc,.slice dv n3 c3,.slice ev n4 c4] I (.bool true):=by
 intro g H w hw
 refine qe Tryz.func8 Tryz.ntmps8 hw ?_
 have hIc:=zyv I
 have hVl:=hVn.len
 have hX1l:=hX1.len
 have hX2l:=hX2.len
 have hX3l:=hX3.len
 have hWl:=hW0.len
 have hPl:=hP.len
 have hVsl:=hVs.len
 have hUsl:=hUs.len
 refine zR ?_
 refine Q5 rfl rfl rfl (fun b_8=>?_)
 refine zA (zN (Ql (zR ?_)))
 refine qc (vs:=[]) rfl zxy (zuC hDb) ?_
 refine zO (zN ?_)
 refine zI ?_ ?_<;>intro hc35
 ·
  cases hc35
 refine Qo (Qa (zR (zM ?_)))
 refine zM ?_
 refine zV (Qp rfl ZW (fun hg=>by exact Cells.g0) rfl) ?_
 refine zM ?_
 refine zM ?_
 refine Qx (cap:=[]) (vs:=[_,_,_,_,_]) rfl rfl zof .nil (zua hW0 hnb hVn hX1 hX2 hX3 no hP hVs hDb) rfl rfl ?_
 rintro vv1 I1 L1 hI1 ⟨rfl,sa,sn,sc,b1,rfl,hb1⟩
 have hW0:=hW0.mono hI1;have hVn:=hVn.mono hI1;have hX1:=hX1.mono hI1;have hX2:=hX2.mono hI1;have hX3:=hX3.mono hI1;have hP:=hP.mono hI1;have hVs:=hVs.mono hI1;have hUs:=hUs.mono hI1;have hDb:=hDb.mono hI1;have hIc:=hIc.trans hI1
 refine zM ?_
 refine zE ?_
 refine zE ?_
 refine zA ?_
 refine zA (zN (Ql (zR ?_)))
 refine zM ?_
 refine zO (zN ?_)
 refine zI ?_ ?_<;>intro hc46
 ·
  refine zR (zA (zN (Qs (Qc ?_))))
  exact zp hIc rfl rfl (by rfl)
 obtain rfl:b1=true:=zd7 hc46
 obtain ⟨hf1,hs0,hSs⟩:=hb1 rfl
 obtain ⟨g1,g2,g3,g4,g5,g6,g7,g8,g9,g10⟩:=zhE hf1
 obtain ⟨hs1,hs2⟩:=zbb hs0
 have hsn:(U8 (onF ps) (Vf ws rows no xs es rd) (Yh ps vs)).length=sn:=hSs.len
 have hsnb:sn≤2000:=by rw [←hsn];have h1:=zqF (on:=onF ps) (base:=(Vf ws rows no xs es rd)) (l:=Yh ps vs);have h2:=za9 (ws:=ws) (rows:=rows) (no:=no) (cl:=xs) (es:=es) (rd:=rd);have h3:(Yh ps vs).length≤600:=Nat.le_trans (List.length_filter_le _ _) g8;omega
 have hsrt:Srt (Vf ws rows no xs es rd):=zhG (zek (Uc hs2).2.2.2.1).2
 refine Qo (Qa (zR (zM ?_)))
 refine zM ?_
 refine zM ?_
 refine Qx (cap:=[]) (vs:=[_,_,_]) rfl rfl zuO .nil (zpc hP (by omega) hVs (by omega) hUs) rfl rfl ?_
 rintro vv2 I2 L2 hI2 ⟨rfl,ma,mc,rfl,hMs⟩
 have hW0:=hW0.mono hI2;have hVn:=hVn.mono hI2;have hX1:=hX1.mono hI2;have hX2:=hX2.mono hI2;have hX3:=hX3.mono hI2;have hP:=hP.mono hI2;have hVs:=hVs.mono hI2;have hDb:=hDb.mono hI2;have hSs:=hSs.mono hI2;have hIc:=hIc.trans hI2
 obtain ⟨mn,hmn⟩:∃ z,z=(zgD (zgs ps vs us) (Ur ps vs us)).length:=⟨_,rfl⟩
 rw [←hmn] at hMs
 rw [←hmn]
 refine zM ?_
 refine zE ?_
 refine zE ?_
 refine zA ?_
 refine zA (zN (Ql (zR ?_)))
 refine zM ?_
 refine zC (zN ?_)
 refine zI ?_ ?_<;>intro hc55
 ·
  refine zR (zA (zN (Qs (Qc ?_))))
  exact zp hIc rfl rfl (by rfl)
 have hme:zgs ps vs us=0:=by simpa using hc55
 rw [show zgD (zgs ps vs us) (Ur ps vs us)=(Ur ps vs us) from if_neg (by rw [hme];simp)] at hMs
 have hMl:=hMs.len
 have hmnb:mn≤600:=by rw [←hMl];exact Nat.le_trans (by unfold Ur;rw [List.length_map];exact List.length_filter_le _ _) g8
 refine Qo (Qa (Ql (zR (zM ?_))))
 refine zM ?_
 refine zV (Qp rfl ZW (fun hg=>by exact Cells.g0) rfl) ?_
 refine zM ?_
 refine zM ?_
 refine Qx (cap:=[]) (vs:=[_,_,_,_,_]) rfl rfl zof .nil (zua hW0 hnb hVn hX1 hX2 hX3 no hP hMs hDb) rfl rfl ?_
 rintro vv3 I3 L3 hI3 ⟨rfl,ta,tn,tc,b2,rfl,hb2⟩
 have hW0:=hW0.mono hI3;have hVn:=hVn.mono hI3;have hX1:=hX1.mono hI3;have hX2:=hX2.mono hI3;have hX3:=hX3.mono hI3;have hP:=hP.mono hI3;have hVs:=hVs.mono hI3;have hDb:=hDb.mono hI3;have hSs:=hSs.mono hI3;have hMs:=hMs.mono hI3;have hIc:=hIc.trans hI3
 refine zM ?_
 refine zE ?_
 refine zE ?_
 refine zA ?_
 refine zA ?_
 refine zN (zR ?_)
 refine zM ?_
 refine zO (zN ?_)
 refine zI ?_ ?_<;>intro hc66
 ·
  refine zR (zA (zN (Qs (Qc ?_))))
  exact zp hIc rfl rfl (by rfl)
 obtain rfl:b2=true:=zd7 hc66
 obtain ⟨hf2,hs0b,hSb⟩:=hb2 rfl
 obtain ⟨_,hs2b⟩:=zbb hs0b
 refine Qo (Qa (zR ?_))
 refine ZE rfl rfl (fun r_67=>?_)
 refine zA (zN (Ql (zR ?_)))
 refine zM ?_
 refine zQ Qy ?_
 refine zM (zN (Qm ?_))
 refine zU [(0,_),(1,_),(3,_),(4,_),(8,_),(13,_),(15,_),(19,_),(68,_),(69,_)] (fun T L0 mz E I' loc'=>∃ (k:Nat) (m:List (Int×Bool)),mz=n3-k∧E=(70,.int .i64 k)::T∧I3=I'∧[(r_67,ZN (Value.int .i64) Value.bool m),(b_8,.cells (Z3 no ea1 en1 ec1 ea2 en2 ec2 ea3 en3 ec3).toArray 26 (0,0))]=loc'∧k≤n3∧∀ x,za4 m x=zgx (vs.take k) x) ?_ (h:=⟨0,[],rfl,rfl,rfl,rfl,Nat.zero_le _,fun x=>rfl⟩)
 rintro mz E I' loc' ⟨k,m,rfl,rfl,rfl,rfl,hk,hm⟩
 refine zR (zC (zN (Ql ?_)))
 refine zI ?_ ?_<;>intro hc71
 ·
  have hlt_k:k<n3:=by have h:=hc71;simp at h;omega
  obtain ⟨y,hy⟩:=hVs.at hlt_k
  refine Qo (Qa (Ql (Qm (zR ?_))))
  refine zV (zX Qy hVs) ?_
  refine zV (Qd rfl Qt (fun hg=>by exact zyo hVs hy rfl)) ?_
  refine zA (zN (Qg ?_))
  refine zM ?_
  refine zM ?_
  refine Q4 (m:=m) (ek:=Value.int .i64) (ev:=Value.bool) (a:=y) true WK ZD rfl rfl rfl rfl (by repeat (first | exact Upd.here | apply Upd.there | apply QI)) ?_
  refine Qb (Qh (Qa (Qg (zB ?_))))
  refine zM (Qb ?_)
  exact zm (h:=⟨n3-(k+1),by omega,k+1,_,rfl,rfl,rfl,rfl,by omega,fun x=>by rw [KS,hm,zjT hy]⟩)
 have hge_k:n3≤k:=by have h:=hc71;simp at h;omega
 have hm:∀ x,za4 m x=zgx vs x:=fun x=>by rw [hm,List.take_of_length_le (by omega)]
 refine QH (Qe (Qe (Qk (Qa (zR ?_)))))
 refine ZE rfl rfl (fun r_77=>?_)
 refine zA (zN (Ql (zR ?_)))
 refine zM ?_
 refine zQ Qy ?_
 refine zM (zN (Qm ?_))
 refine zU [(0,_),(1,_),(3,_),(4,_),(8,_),(13,_),(15,_),(19,_),(22,_),(78,_),(79,_)] (fun T L0 mz E I' loc'=>∃ (k:Nat) (m2:List (Int×Bool)),mz=mn-k∧E=(80,.int .i64 k)::T∧I3=I'∧[(r_77,ZN (Value.int .i64) Value.bool m2),(r_67,ZN (Value.int .i64) Value.bool m),(b_8,.cells (Z3 no ea1 en1 ec1 ea2 en2 ec2 ea3 en3 ec3).toArray 26 (0,0))]=loc'∧k≤mn∧∀ x,za4 m2 x=abK ps vs (Ur ps vs us) k x) ?_ (h:=⟨0,[],rfl,rfl,rfl,rfl,Nat.zero_le _,fun x=>rfl⟩)
 rintro mz E I' loc' ⟨k,m2,rfl,rfl,rfl,rfl,hk,hm2⟩
 refine zR (zC (zN (Ql ?_)))
 refine zI ?_ ?_<;>intro hc81
 ·
  have hlt_k:k<mn:=by have h:=hc81;simp at h;omega
  obtain ⟨y,hy⟩:=hMs.at hlt_k
  refine Qo (Qa (Ql (Qm (zR ?_))))
  refine zV (zX Qy hMs) ?_
  refine zV (Qd rfl Qt (fun hg=>by exact zyo hMs hy rfl)) ?_
  refine zA ?_
  refine zN (zR ?_)
  refine zM ?_
  refine zQ Zy ?_
  refine zM (zN (Qm ?_))
  refine zU [(0,_),(1,_),(3,_),(4,_),(8,_),(13,_),(15,_),(19,_),(22,_),(24,_),(78,_),(79,_),(80,_),(84,_),(85,_)] (fun T L0 mz E I' loc'=>∃ (j:Nat) (m2:List (Int×Bool)),mz=pn-j∧E=(86,.int .i64 j)::T∧I3=I'∧[(r_77,ZN (Value.int .i64) Value.bool m2),(r_67,ZN (Value.int .i64) Value.bool m),(b_8,.cells (Z3 no ea1 en1 ec1 ea2 en2 ec2 ea3 en3 ec3).toArray 26 (0,0))]=loc'∧j≤pn∧∀ x,za4 m2 x=(abK ps vs (Ur ps vs us) k x||abJ ps vs y j x)) ?_ (h:=⟨0,m2,rfl,rfl,rfl,rfl,Nat.zero_le _,fun x=>by rw [hm2];unfold abJ;rw [List.take_zero,List.any_nil,Bool.and_false,Bool.or_false]⟩)
  rintro mz E I' loc' ⟨j,m2,rfl,rfl,rfl,rfl,hj,hm3⟩
  refine zR (zC (zN (Ql ?_)))
  refine zI ?_ ?_<;>intro hc87
  ·
   have hlt_j:j<pn:=by have h:=hc87;simp at h;omega
   obtain ⟨p,hp⟩:=hP.1.at hlt_j
   refine Qo (Qa (Ql (Qm (zR ?_))))
   refine zV (QE rfl rfl Zy hP.1 (fun hg=>by omega)) ?_
   refine zV (Qp rfl Yr (fun hg=>by exact zyw hP.1 hp) rfl) ?_
   refine Qr K5 rfl rfl (fun b_26=>?_)
   refine zh VM ?_
   refine zN (zR ?_)
   refine zF Zu ?_
   refine zL Qt ?_
   refine zM ?_
   refine zC ?_
   refine zM ?_
   refine QG 4 rfl rfl rfl ?_
   refine zK (Qi rfl) ?_
   refine zK (Qi rfl) ?_
   refine zK (ZY (m:=m) WK ZD rfl rfl (fun _=>.inr (by simp))) ?_
   refine zK (Vd rfl) ?_
   refine QO rfl rfl rfl rfl rfl ?_
   refine zN ?_
   refine zI ?_ ?_<;>intro hc99
   ·
    have hab:(p.id==y&& !zgx vs y)=true:=by rw [←hm];exact hc99
    refine Qg (zM ?_)
    refine zF Ya ?_
    refine zL Qt ?_
    refine Q4 (m:=m2) (ek:=Value.int .i64) (ev:=Value.bool) (a:=p.sign) true WK ZD rfl rfl rfl rfl (by repeat (first | exact Upd.here | apply Upd.there | apply QI)) ?_
    refine Qb (Qh (Qa (Qg (zB ?_))))
    refine zM (Qb ?_)
    exact zm (h:=⟨pn-(j+1),by omega,j+1,_,rfl,rfl,rfl,rfl,by omega,fun x=>by rw [KS,hm3,zqm hp hab,←Bool.or_assoc,←Bool.or_assoc,Bool.or_comm (decide _)]⟩)
   have hab:(p.id==y&& !zgx vs y)=false:=by rw [←hm];exact hc99
   refine Qo (Qh (Qa (Qg (zB ?_))))
   refine zM (Qb ?_)
   exact zm (h:=⟨pn-(j+1),by omega,j+1,_,rfl,rfl,rfl,rfl,by omega,fun x=>by rw [hm3,zu6 hp hab]⟩)
  have hge_j:pn≤j:=by have h:=hc87;simp at h;omega
  refine QH (Qe (Qe (Qk (Qh (Qa (Qg (zB ?_)))))))
  refine zM (Qb ?_)
  exact zm (h:=⟨mn-(k+1),by omega,k+1,_,rfl,rfl,rfl,rfl,by omega,fun x=>by rw [zlt hy,hm3,show j=ps.length by omega]⟩)
 have hge_k:mn≤k:=by have h:=hc81;simp at h;omega
 have hm2:∀ x,za4 m2 x=abK ps vs (Ur ps vs us) (Ur ps vs us).length x:=fun x=>by rw [hm2,show k=(Ur ps vs us).length by omega]
 refine QH (Qe (Qe (Qk (Qa (Ql (zR (zM ?_)))))))
 refine zQ YW ?_
 refine zM (zN (Qm ?_))
 refine zU [(0,_),(1,_),(3,_),(4,_),(8,_),(15,_),(22,_),(105,_),(106,_)] (fun T L0 mz E I' loc'=>∃ (k:Nat),mz=sn-k∧E=(107,.int .i64 k)::T∧HLe I3 I'∧[(r_77,ZN (Value.int .i64) Value.bool m2),(r_67,ZN (Value.int .i64) Value.bool m),(b_8,.cells (Z3 no ea1 en1 ec1 ea2 en2 ec2 ea3 en3 ec3).toArray 26 (0,0))]=loc'∧k≤sn) ?_ (h:=⟨0,rfl,rfl,zyv _,rfl,Nat.zero_le _⟩)
 rintro mz E J7 loc' ⟨k,rfl,rfl,hJ,rfl,hk⟩
 have hW0:=hW0.mono hJ;have hVn:=hVn.mono hJ;have hX1:=hX1.mono hJ;have hX2:=hX2.mono hJ;have hX3:=hX3.mono hJ;have hP:=hP.mono hJ;have hVs:=hVs.mono hJ;have hDb:=hDb.mono hJ;have hSs:=hSs.mono hJ;have hMs:=hMs.mono hJ;have hIc:=hIc.trans hJ
 have hB6:=hJ
 refine zR (zC (zN (Ql ?_)))
 refine zI ?_ ?_<;>intro hc108
 ·
  have hlt_k:k<sn:=by have h:=hc108;simp at h;omega
  obtain ⟨x,hx⟩:=hSs.at hlt_k
  refine Qo (Qa (Ql (Qm (zR ?_))))
  refine zV (zX YW hSs) ?_
  refine zV (Qp rfl ZK (fun hg=>by exact zyw hSs hx) rfl) ?_
  refine Qr WW rfl rfl (fun b_28=>?_)
  refine zh VG ?_
  refine zN (Ql (zR (zM ?_)))
  refine zF ZO ?_
  refine zL Qt ?_
  refine zV (ZY (m:=m2) WK ZD rfl rfl (fun _=>.inr (by simp))) ?_
  refine zN ?_
  refine zI ?_ ?_<;>intro hc114
  ·
   refine QH (Qe (Qk (Qa (Qg (zB ?_)))))
   refine zM (Qb ?_)
   exact zm (h:=⟨sn-(k+1),by omega,k+1,rfl,rfl,hB6,rfl,by omega⟩)
  have hxa:abK ps vs (Ur ps vs us) (Ur ps vs us).length x.id=false:=by rw [←hm2];exact hc114
  refine Qo (Qa (zR (zA (zN (Qm ?_)))))
  refine zU [(0,_),(1,_),(3,_),(4,_),(8,_),(15,_),(22,_),(28,_),(105,_),(106,_),(107,_)] (fun T L0 mz E I' loc'=>∃ (j:Nat),mz=9-j∧E=(29,.int .i64 ((j:Int)+1))::T∧HLe J7 I'∧(b_28,.cells (YZ x).toArray 54 (0,0))::[(r_77,ZN (Value.int .i64) Value.bool m2),(r_67,ZN (Value.int .i64) Value.bool m),(b_8,.cells (Z3 no ea1 en1 ec1 ea2 en2 ec2 ea3 en3 ec3).toArray 26 (0,0))]=loc'∧j≤9) ?_ (h:=⟨0,rfl,rfl,zyv _,rfl,Nat.zero_le _⟩)
  rintro mz E J8 loc' ⟨j,rfl,rfl,hJ,rfl,hj⟩
  have hW0:=hW0.mono hJ;have hVn:=hVn.mono hJ;have hX1:=hX1.mono hJ;have hX2:=hX2.mono hJ;have hX3:=hX3.mono hJ;have hP:=hP.mono hJ;have hVs:=hVs.mono hJ;have hDb:=hDb.mono hJ;have hMs:=hMs.mono hJ;have hB6:=hB6.trans hJ
  have hB8:=hJ
  refine Ql (zR (zM ?_))
  refine zC (zN ?_)
  refine zI ?_ ?_<;>intro hc116
  ·
   have hlt_j:j<9:=by have h:=hc116;simp only [decide_eq_true_eq] at h;omega
   have hjf:isF ((j:Int)+1):=by unfold isF;omega
   have hxm:=List.mem_of_getElem? hx
   have hoe1:=ziw hs0 hjf ⟨x,hxm,rfl⟩
   have hoe2:=ziw hs0b hjf (zhN hs2 hs2b hsrt hxm hxa)
   have hob:=zmA (on:=onF ps) (rows:=rows) (es:=es) (rd:=rd) (l:=Yh ps vs) (s:=x.id) (f:=(j:Int)+1)
   have hvl:(Yh ps vs).length≤600:=Nat.le_trans (List.length_filter_le _ _) g8
   have hog:ogE (zaB (onF ps) rows es rd (Yh ps vs) x.id ((j:Int)+1)) (zaB (onF ps) rows es rd (Yh ps (Ur ps vs us)) x.id ((j:Int)+1))=true:=by rw [ztw (zuI (Uc hs2).1.lst hxa)];exact zeG _
   refine Qo (Qa (Ql (Qm (zR (zM ?_)))))
   refine zM ?_
   refine zV (Qp rfl ZW (fun hg=>by exact Cells.g3) rfl) ?_
   refine zM ?_
   refine zM ?_
   refine zF ZO ?_
   refine zL Qt ?_
   refine zM ?_
   refine Qx (cap:=[]) (vs:=[_,_,_,_,_,_,_]) rfl rfl zap .nil (zbw hW0 (by omega) hVn (by omega) hX1 hX2 hX3 (by omega) (by omega) (by omega) no hP (by omega) hVs (by omega) hDb x.id ((j:Int)+1)) rfl rfl ?_
   rintro vv9 I9 L9 hI9 ⟨rfl,_,rfl,a1,b1,d1,a2,b2,d2,rfl,hw1,hz1⟩
   have hW0:=hW0.mono hI9;have hVn:=hVn.mono hI9;have hX1:=hX1.mono hI9;have hX2:=hX2.mono hI9;have hX3:=hX3.mono hI9;have hP:=hP.mono hI9;have hDb:=hDb.mono hI9;have hMs:=hMs.mono hI9;have hB8:=hB8.trans hI9
   rw [hoe1,zk2]
   rw [hoe1,zk2] at hw1 hz1
   refine zM ?_
   refine zE ?_
   refine zE ?_
   refine Qr UM rfl rfl (fun b_30=>?_)
   refine zh Vk ?_
   refine zA ?_
   refine zN (zR ?_)
   refine zM ?_
   refine zM ?_
   refine zV (Qp rfl ZW (fun hg=>by exact Cells.g4) rfl) ?_
   refine zM ?_
   refine zM ?_
   refine zF ZO ?_
   refine zL Qt ?_
   refine zM ?_
   refine Qx (cap:=[]) (vs:=[_,_,_,_,_,_,_]) rfl rfl zap .nil (zbw hW0 (by omega) hVn (by omega) hX1 hX2 hX3 (by omega) (by omega) (by omega) no hP (by omega) hMs (by omega) hDb x.id ((j:Int)+1)) rfl rfl ?_
   rintro vv10 I10 L10 hI10 ⟨rfl,_,rfl,a3,b3,d3,a4,b4,d4,rfl,hw2,hz2⟩
   have hw1:=hw1.mono hI10;have hz1:=hz1.mono hI10;have hB8:=hB8.trans hI10
   rw [hoe2,zk2]
   rw [hoe2,zk2] at hw2 hz2
   refine zM ?_
   refine zE ?_
   refine zE ?_
   refine Qr UM rfl rfl (fun b_32=>?_)
   refine zh Vk ?_
   refine zA ?_
   refine zN (zR ?_)
   refine zM ?_
   refine zC ?_
   refine zM ?_
   refine Q0 2 rfl rfl rfl ?_
   refine zJ (Qi rfl) ?_
   refine zJ (QJ rfl rfl rfl) ?_
   refine ZA rfl rfl rfl rfl rfl ?_
   refine zM ?_
   refine Q0 6 rfl rfl rfl ?_
   refine zJ (Qp rfl YH (fun hg=>by exact Cells.g1) rfl) ?_
   refine zJ (Qp rfl YH (fun hg=>by exact Cells.g0) rfl) ?_
   refine qf (vs:=[_,_]) rfl zfk (fun hg=>zj8 (o1:=zaB (onF ps) rows es rd (Yh ps vs) x.id ((j:Int)+1)) (o2:=zaB (onF ps) rows es rd (Yh ps (Ur ps vs us)) x.id ((j:Int)+1)) hw1 hz1 hw2 hz2 (by rw [←hw1.len];have:=hob.1;omega) (by rw [←hz1.len];have:=hob.2;omega)) ?_
   refine zJ (Vd rfl) ?_
   refine ZA rfl rfl rfl rfl rfl ?_
   refine zN ?_
   refine zI ?_ ?_<;>intro hc154
   ·
    rw [hog] at hc154
    exact absurd hc154 (by decide)
   refine Qo (Qh (Qa (Qg (zM ?_))))
   refine zB ?_
   refine zA (Qb ?_)
   exact zm (h:=⟨9-(j+1),by omega,j+1,rfl,rfl,hB8,rfl,by omega⟩)
  have hge_j:9≤j:=by have h:=hc116;simp only [decide_eq_false_iff_not] at h;omega
  refine QH (Qe (Qe (Qk (Qh (Qa (Qg (zB ?_)))))))
  refine zM (Qb ?_)
  exact zm (h:=⟨sn-(k+1),by omega,k+1,rfl,rfl,hB6,rfl,by omega⟩)
 have hge_k:sn≤k:=by have h:=hc108;simp at h;omega
 refine QH (Qe (Qe (Qk (Qa (zR (zA (zN ?_)))))))
 refine Qs ?_
 exact zp hIc rfl rfl (by rfl)
end
end Go.Proofs.YtodakphagkommaaGreatDoor.R
namespace Go.Kn
section
open Go Go.ChangeShapes Go.WideShapes Go.ChangeAt Go.RowKit
def Jo (W:World):Qu:=fun b=>W.heap[b]?
theorem St.start (W:World):St W (Jo W) (fun _=>none) [] W:=
 ⟨rfl,rfl,rfl,⟨Nat.le_refl _,Nat.le_refl _⟩,fun _ _ h=>h,(fun _ _ h=>by cases h),(fun _ _ h=>by cases h),fun _=>.inr rfl,(fun _ _ h=>by cases h),by simp⟩
theorem St.below {W w:World}{H:Qu}{loc:Loc}(h:St W (Jo W) H loc w):Below W.heap.size W w:=
 ⟨h.os,h.tape,h.out,h.size.1,fun k hk=>by
  have e:W.heap[k]? =some W.heap[k]:=Array.getElem?_eq_getElem hk
  rw [h.imm k _ e,e]⟩
theorem Zx.law {P:Program}{f:FuncId}{args:List Value}{W:World}{v:Value}(h:Zx P f args (Jo W) v):Calls P f args.toArray W fun e w'=>e= .returned v∧Below W.heap.size W w':=
 (h W _ W (St.start W)).mono fun _ _ ⟨he,hs⟩=>⟨he,hs.below⟩
theorem zb2 {W w:World}{may:MemPlace→Prop}(h:Below W.heap.size W w):W.keptBut w may:=by
 refine ⟨h.os,h.output,fun i hi=>?_⟩
 rw [h.block i hi]
 rw [Array.getElem?_eq_getElem hi]
 cases W.heap[i]<;>simp
theorem UI {H:Type}{enc:TypeId×Value→H}{P:Program}{W W':World}(hl:laidOutB P=true)(hB:Below W.heap.size W W')(sp:Nat→Bool):∀ (ts:List TypeId) (vs:List Value) (ds:List (DataW H)) (ps:List MemPlace),(∀ t∈ts,P.readableRec t=true∧t<P.types.size)→
  DataW.TrodAll enc P W 0 (fun _=>true) true ts vs ds ps→(∀ x∈ps,x.block<W.heap.size∧sp x.block=true)→DataW.TrodAll enc P W' 0 sp true ts vs ds ps
 | [],[],[],ps,_,h,_=>h
 | t::ts,v::vs,d::ds,ps,hr,⟨p,q,h1,h2,e⟩,hlt=>by
  subst e
  exact ⟨p,q,WideElems.Trod_stays hl (hr t (List.mem_cons_self ..)).1 (hr t (List.mem_cons_self ..)).2 h1 (fun x hx=>hB.same (hlt x (List.mem_append_left _ hx)).1) (fun x hx=>(hlt x (List.mem_append_left _ hx)).2),
   UI hl hB sp ts vs ds q (fun t ht=>hr t (List.mem_cons_of_mem _ ht)) h2 (fun x hx=>hlt x (List.mem_append_right _ hx)),rfl⟩
theorem zlK {H:Type}{enc:TypeId×Value→H}{P:Program}{f:Func}{s:ChangeSpec}{again:Bool}{W W':World}{args:Array Value}{ds:List (DataW H)}{before:List MemPlace}{tb:TypeId}
  (hl:laidOutB P=true)(hr:f.resultTypes= #[tb])(hb:P.underlying tb=some .bool)(hv:s.vars=[])(hs:(s.fn H (ds++[]))= {results:=[.lit (.bool true)],args:=ds})(hrd:∀ t∈f.params.toList,P.readableRec t=true∧t<P.types.size)
  (hW:DataW.Whole enc P f.params.toList s.vars false W args.toList ds [] before)(hB:Below W.heap.size W W'):s.post enc P f false true false again W args (.bool true) W':=by
 have hlt:∀ x∈before,x.block<W.heap.size:=fun x hx=>by simpa using hW.lt x hx
 have hW0:=hW
 obtain ⟨p,q,hA,hV,rfl,hfz,_⟩:=hW
 rw [hv] at hV
 obtain ⟨_,rfl⟩:=trodVars_none hV
 rw [List.append_nil] at hlt hfz hW0
 have hres:∀ (b:Nat) (sp:Nat→Bool) (hd:Bool),DataW.TrodAll enc P W' b sp hd f.resultTypes.toList ((Value.bool true).resultList f.resultTypes.size) [.lit (.bool true)] []:=fun b sp hd=>by
  rw [hr];exact trodAll_mk1 (shut_bool hb true)
 have hargs:∀ sp:Nat→Bool,(∀ x∈p,sp x.block=true)→DataW.TrodAll enc P W' 0 sp true f.params.toList args.toList ds p:=fun sp h=>UI hl hB sp _ _ _ _ hrd hA (fun x hx=>⟨hlt x hx,h x hx⟩)
 have hnil:∀ sp:Nat→Bool,DataW.TrodVars enc P W' sp s.vars [] []:=fun sp=>by rw [hv];rfl
 refine ⟨ds,[],p,[],p,[],hW0,?_,?_,?_,zb2 hB,fun _=>?_⟩
 ·
  rw [hs];exact hres _ _ _
 ·
  rw [hs];exact hargs _ (fun x hx=>by simpa using hlt x hx)
 ·
  rw [hs];exact hnil _
 ·
  refine ⟨fun j t r ht hr'=>?_,[.lit (.bool true)]++ds,[],[]++p,⟨[]++p,[],trodAll_append (hargs _ (fun _ _=>rfl)) (hres _ _ _),hnil _,by simp,?_,fun h=>by cases h⟩,fun x hx _=>by simpa using hx⟩
  ·
   rw [hr] at ht hr'
   cases j with
   | zero=>simp [Value.resultList] at ht hr';subst ht;subst hr';exact okWide_bool_mk hb _
   | succ j=>simp at ht
  ·
   intro b off hx
   rw [hB.frozen (hlt _ (by simpa using hx))]
   exact hfz b off (by simpa using hx)
theorem zcF {W:World}{b o:Nat}{u:Value}(h:W.cell? ⟨b,o,none⟩=some u):QV (Jo W) [] b o u:=by
 unfold World.cell? at h
 split at h
 ·
  rename_i c t fz hb
  simp only [Option.isSome_none,Bool.false_eq_true,if_false] at h
  exact ⟨c,t,fz,.inl hb,h⟩
 ·
  cases h
theorem Kh {H:Type}{enc:TypeId×Value→H}{P:Program}{W:World}{t e:TypeId}{size fuel0:Nat}{cs:List Value}{x0:DataW H×List MemPlace}{α:Type}(enc':α→List Value)(ok:α→Prop)
  (ht:P.underlying t=some (.slice e))(hc:P.cellsOf e=size)(hpos:0<size)(hlen:∀ y,(enc' y).length=size)
  (hel:∀ fuel cs x,DataW.trod enc P W 0 (fun _=>true) true fuel e cs=some x→∃ y,ok y∧enc' y=cs)
  (hf':DataW.trod enc P W 0 (fun _=>true) true fuel0 t cs=some x0):∃ av n c xs,cs=[.slice av n c]∧Sl (Jo W) size enc' av n c xs∧(∀ x∈xs,ok x)∧c≤maxLen:=by
 rcases Go.Deep.open_slice ht hf' with ⟨e1,_⟩ | ⟨a,len0,cap0,m,n,D,Pl,e1,hb,hl,hm,hmm,_,hx⟩
 ·
  subst e1
  exact ⟨none,0,0,[],rfl,.nil,(fun x hx=>by cases hx),Nat.zero_le _⟩
 ·
  subst e1
  have hlm:len0≤m:=by rw [hmm];simp;exact hl
  have each:∀ i,i<len0→∃ y,ok y∧W.cells? 0 (a.add (i*size)) size=some (enc' y):=fun i hi=>by
   obtain ⟨cs',h1,h2⟩:=hx i (by omega)
   obtain ⟨y,hy,e⟩:=hel _ _ _ h2
   rw [hc] at h1
   exact ⟨y,hy,by rw [h1,e]⟩
  have all:∀ k,k≤len0→∃ xs:List α,xs.length=k∧∀ i x,xs[i]? =some x→ok x∧W.cells? 0 (a.add (i*size)) size=some (enc' x):=by
   intro k
   induction k with
   | zero=>intro _;exact ⟨[],rfl,fun i x h=>by simp at h⟩
   | succ k ih=>
    intro hk
    obtain ⟨xs,hl',hxs⟩:=ih (by omega)
    obtain ⟨y,hy,hcy⟩:=each k (by omega)
    refine ⟨xs++[y],by simp [hl'],fun i x h=>?_⟩
    by_cases hi:i<xs.length
    ·
     rw [List.getElem?_append_left hi] at h;exact hxs i x h
    ·
     rw [List.getElem?_append_right (by omega)] at h
     have:i=k:=by have:=(List.getElem?_eq_some_iff.1 h).1;simp at this;omega
     subst this
     rw [hl'] at h;simp at h;subst h
     exact ⟨hy,hcy⟩
  obtain ⟨xs,hl',hxs⟩:=all len0 (Nat.le_refl _)
  have add0:∀ (b o n:Nat),(⟨b,o,none⟩:Addr).add n=⟨b,o+n,none⟩:=fun b o n=>by
   unfold Addr.add
   split
   ·
    rename_i e;subst e;rfl
   ·
    rfl
  have hspot:0<xs.length→a.spot=none:=fun hx=>by
   have hx0:xs[0]? =some xs[0]:=List.getElem?_eq_getElem hx
   have hp0:0<(enc' xs[0]).length:=by rw [hlen];exact hpos
   obtain ⟨_,h1,h2⟩:=World.cells?_some (hxs 0 _ hx0).2
   have h3:=h2 0 hpos
   rw [List.getElem?_eq_getElem hp0] at h3
   simpa [Addr.add] using World.cell?_spot h3
  have cellat:∀ i x,xs[i]? =some x→∀ j u,(enc' x)[j]? =some u→W.cell? ⟨a.block,a.off+i*size+j,none⟩=some u:=fun i x hx j u hu=>by
   obtain ⟨_,h1,h2⟩:=World.cells?_some (hxs i x hx).2
   have hj:j<size:=by rw [←hlen x];exact (List.getElem?_eq_some_iff.1 hu).1
   have h3:=h2 j hj
   rw [hu] at h3
   have hsp:=hspot (by have:=(List.getElem?_eq_some_iff.1 hx).1;omega)
   obtain ⟨b,o,sp⟩:=a
   simp only at hsp
   subst hsp
   rw [add0,add0] at h3
   exact h3
  refine ⟨some a,len0,cap0,xs,rfl,⟨hl',hl,fun hn=>?_,fun k x hx j u hu=>?_⟩,fun x hx=>?_,hm⟩
  ·
   have:=hspot (by omega)
   obtain ⟨b,o,sp⟩:=a
   simp only at this
   subst this;rfl
  ·
   exact zcF (cellat k x hx j u hu)
  ·
   obtain ⟨i,hi⟩:=List.getElem?_of_mem hx
   exact (hxs i x hi).1
theorem zbO {H:Type}{enc:TypeId×Value→H}{P:Program}{W:World}{base:Nat}{t e:TypeId}{size:Nat}{v:Value}{d:DataW H}{p:List MemPlace}{α:Type}(enc':α→List Value)(ok:α→Prop)
  (ht:P.underlying t=some (.slice e))(hc:P.cellsOf e=size)(hpos:0<size)(hlen:∀ y,(enc' y).length=size)
  (hel:∀ fuel cs x,DataW.trod enc P W 0 (fun _=>true) true fuel e cs=some x→∃ y,ok y∧enc' y=cs)
  (hv:Value.okWide P W .any base t v)(h:DataW.Trod enc P W 0 (fun _=>true) true t v d p):∃ av n c xs,v= .slice av n c∧Sl (Jo W) size enc' av n c xs∧(∀ x∈xs,ok x)∧c≤maxLen:=by
 obtain ⟨a0,len0,cap0,rfl⟩:=okWide_slice ht hv
 obtain ⟨fuel,hf⟩:=h
 obtain ⟨av,n,c,xs,e,h1,h2,h3⟩:=Kh enc' ok ht hc hpos hlen hel (cs:=[.slice a0 len0 cap0]) (by simpa [Value.cells] using hf)
 cases e
 exact ⟨_,_,_,xs,rfl,h1,h2,h3⟩
theorem zc1 {H:Type}{enc:TypeId×Value→H}{P:Program}{W:World}{e:TypeId}{k:IntKind}(he:P.underlying e=some (.int k))(hk:k= .i64)(fuel:Nat)(cs:List Value)(x:DataW H×List MemPlace)(h:DataW.trod enc P W 0 (fun _=>true) true fuel e cs=some x):
  ∃ y:Int,(-9223372036854775808≤y∧y≤9223372036854775807)∧[Value.int .i64 y]=cs:=by
 subst hk
 obtain ⟨v,hv⟩:∃ v,cs=[v]:=by
  have:=h
  cases fuel with
  | zero=>simp [DataW.trod] at this
  | succ m=>unfold DataW.trod at this;rw [he] at this;split at this<;>simp_all
 subst hv
 obtain ⟨n,e,_,w⟩:=DataW.trod_int he h
 cases e
 simp only [Lit.wf,Bool.and_eq_true,decide_eq_true_eq] at w
 exact ⟨n,w,rfl⟩
end
section
open Go
theorem Y5 {H:Type}{enc:TypeId×Value→H}{P:Program}{W:World}{base:Nat}{spare:Nat→Bool}{held:Bool}{t C:Nat}{fs:Array Field}{fuel:Nat}{cs:List Value}{x:DataW H×List MemPlace}(hs:P.underlying t=some (.struct fs))
  (hC:P.cellsOf t=C)(h:DataW.trod enc P W base spare held fuel t cs=some x):
  cs.length=C∧∃ n,∀ (i ty off k:Nat),((fs[i]?).map fun f=>(f.type,f.offset))=some (ty,off)→P.cellsOf ty=k→∃ y,DataW.trod enc P W base spare held n ty ((cs.drop off).take k)=some y:=by
 obtain ⟨xs,n,_,_,hl,hxl,hf⟩:=DataW.trod_struct hs h
 refine ⟨hl.trans hC,n,fun i ty off k hi hk=>?_⟩
 obtain ⟨f,hfi,e⟩:=Option.map_eq_some_iff.1 hi
 cases e
 have g:=hf i f hfi
 have hix:i<xs.length:=by rw [hxl];exact (Array.getElem?_eq_some_iff.1 hfi).1
 rw [hk,List.getElem?_eq_getElem hix] at g
 exact ⟨_,g⟩
end
end Go.Kn
namespace Go.Proofs.YtodakphagkommaaGreatDoor
section
open Go Go.Kn Go.Proofs
open Go.ChangeShapes Go.WideShapes Go.ChangeAt Go.RowKit
set_option maxRecDepth 100000
theorem ZB:Tryz.prog.underlying 3=some (.int .i64):=by kernel_rfl
theorem zol:Tryz.prog.underlying 4=some .bool:=by kernel_rfl
theorem zth:Tryz.prog.underlying 5=some (.int .u8):=by kernel_rfl
theorem zda {H:Type}{enc:TypeId×Value→H}{W:World}{base:Nat}{v:Value}{d:DataW H}{p:List MemPlace}(hv:Value.okWide Tryz.prog W .any base 23 v)(h:DataW.Trod enc Tryz.prog W 0 (fun _=>true) true 23 v d p):
  ∃ av n c xs,v= .slice av n c∧Sl (Jo W) 1 QP av n c xs∧n≤9223372036854775807:=by
 obtain ⟨av,n,c,xs,e,hS,_,hm⟩:=zbO (e:=3) QP (fun _=>True) (by kernel_rfl) (by kernel_rfl) (by decide) Qv (fun fuel cs x h=>by
  obtain ⟨y,_,e⟩:=zc1 ZB rfl fuel cs x h
  exact ⟨y,trivial,e⟩) hv h
 exact ⟨av,n,c,xs,e,hS,by have:=hS.cap;simp only [maxLen] at hm;omega⟩
theorem ztA {I:Qu}:∀ (hs:List Hd),(∀ h∈hs,∃ v,Sl I 1 QP h.a h.n h.c v)→∃ vss,zcp I hs vss
 | [],_=>⟨[],zcp.nil⟩
 | x::hs,H=>by
  obtain ⟨vss,hl,hv⟩:=ztA hs fun h hh=>H h (List.mem_cons_of_mem _ hh)
  obtain ⟨v0,h0⟩:=H x (List.mem_cons_self ..)
  refine ⟨v0::vss,by simp [hl],fun k h v a b=>?_⟩
  cases k with
  | zero=>cases a;cases b;exact h0
  | succ k=>exact hv k h v a b
theorem ziV {H:Type}{enc:TypeId×Value→H}{W:World}{base:Nat}{v:Value}{d:DataW H}{p:List MemPlace}(hv:Value.okWide Tryz.prog W .any base 22 v)(h:DataW.Trod enc Tryz.prog W 0 (fun _=>true) true 22 v d p):
  ∃ av n c vss,v= .slice av n c∧SlN (Jo W) av n c vss∧n≤9223372036854775807:=by
 obtain ⟨av,n,c,hs,e,hS,hok,hm⟩:=zbO (e:=23) WD (fun h=>∃ v,Sl (Jo W) 1 QP h.a h.n h.c v) (by kernel_rfl) (by kernel_rfl) (by decide) Q7 (fun fuel cs x h=>by
  obtain ⟨a,m,q,ys,e,hT,_⟩:=Kh (t:=23) (e:=3) QP (fun _=>True) (by kernel_rfl) (by kernel_rfl) (by decide) Qv (fun fuel cs x h=>by
   obtain ⟨y,_,e⟩:=zc1 ZB rfl fuel cs x h
   exact ⟨y,trivial,e⟩) h
  exact ⟨⟨a,m,q⟩,⟨ys,hT⟩,e.symm⟩) hv h
 obtain ⟨vss,hr⟩:=ztA hs hok
 exact ⟨av,n,c,vss,e,⟨hs,hS,hr⟩,by have:=hS.cap;simp only [maxLen] at hm;omega⟩
def zgO:List (String×DataW Unit):=[("math/bits.deBruijn32tab",Rows.laid_math_bits_deBruijn32tab),("math/bits.deBruijn64tab",Rows.laid_math_bits_deBruijn64tab)]
theorem zyh:Tryz.prog.globalNamed "math/bits.deBruijn64tab" =some 1:=by kernel_rfl
theorem zyk:(Tryz.prog.globals[1]?).map (·.type)=some 290:=by kernel_rfl
theorem zuQ:(Rows.laid_math_bits_deBruijn64tab:DataW Unit)=Lib.tabData .u8 zqB:=by rfl
theorem zvG {W:World}(h:laidMetH Tryz.prog zgO W):VF (Jo W):=by
 rw [MakeChecks.laidMetH_plain _ _ _ (by kernel_rfl)] at h
 obtain ⟨ps,⟨g0,t0,cs0,f0,p0,q0,hg0,ht0,hv0,hd0,⟨g1,t1,cs1,f1,p1,q1,hg1,ht1,hv1,hd1,_,_⟩,_⟩,_,_⟩:=h
 obtain rfl:=Option.some.inj (zyh.symm.trans hg1)
 obtain rfl:=Option.some.inj (zyk.symm.trans ht1)
 rw [zuQ] at hd1
 have hcs:=Lib.cells_of_tab (n:=64) (e:=5) (by kernel_rfl) zth (by kernel_rfl) (by kernel_rfl) hd1
 intro i hi
 refine zcF ?_
 have:=World.var?_cell hg1 hv1 i
 rw [this]
 have hl:i<zqB.length:=hi
 have e:cs1=(zqB.map fun z=>Value.int .u8 z).toArray:=Array.ext' hcs
 rw [e]
 simp [List.getD,hl]
theorem zll (os:Os)(args:Array Value):laidMetH Tryz.prog zgO ((World.doorLaid Tryz.prog 400 os).forCall (fun _ _=>0) ⟨#[],args,[]⟩).memory:=
 laidMetH_of_parts3 (fuel:=8) (laidMet_of_run' 8 (by kernel_rfl) (by kernel_rfl)) (by kernel_rfl) (by kernel_rfl)
end
section
open Go Go.Kn Go.Proofs
open Go.ChangeShapes Go.WideShapes Go.ChangeAt Go.RowKit
set_option maxRecDepth 100000
theorem zqw:Tryz.prog.underlying 67=some (.struct (Tryz.prog.fieldsOf 67)):=by kernel_rfl
theorem zrn:Tryz.prog.underlying 24=some (.slice 67):=by kernel_rfl
theorem zem:Tryz.prog.underlying 54=some (.struct (Tryz.prog.fieldsOf 54)):=by kernel_rfl
theorem XS:Tryz.prog.underlying 52=some (.struct (Tryz.prog.fieldsOf 52)):=by kernel_rfl
theorem zrI:Tryz.prog.underlying 60=some (.struct (Tryz.prog.fieldsOf 60)):=by kernel_rfl
theorem zpS:Tryz.prog.underlying 63=some (.slice 60):=by kernel_rfl
theorem zqV:Tryz.prog.underlying 65=some (.struct (Tryz.prog.fieldsOf 65)):=by kernel_rfl
theorem zqh:Tryz.prog.underlying 35=some (.slice 65):=by kernel_rfl
theorem zbZ:Tryz.prog.underlying 23=some (.slice 3):=by kernel_rfl
theorem ziB:Tryz.prog.underlying 26=some (.struct (Tryz.prog.fieldsOf 26)):=by kernel_rfl
theorem zw0 {H:Type}{enc:TypeId×Value→H}{W:World}(fuel:Nat)(cs:List Value)(x:DataW H×List MemPlace)(h:DataW.trod enc Tryz.prog W 0 (fun _=>true) true fuel 67 cs=some x):∃ y:Em,(fun _=>True) y∧Yt y=cs:=by
 obtain ⟨hl,n0_,f0⟩:=Y5 (C:=3) zqw (by kernel_rfl) h
 match cs,hl with
 | [c0,c1,c2],_=>
  obtain ⟨_,g0_0⟩:=f0 0 3 0 1 (by kernel_rfl) (by kernel_rfl)
  obtain ⟨n0,e0,_,w0⟩:=DataW.trod_int ZB (show DataW.trod enc Tryz.prog W 0 (fun _=>true) true n0_ 3 [c0]=some _ from g0_0)
  obtain ⟨_,g0_1⟩:=f0 1 3 1 1 (by kernel_rfl) (by kernel_rfl)
  obtain ⟨n1,e1,_,w1⟩:=DataW.trod_int ZB (show DataW.trod enc Tryz.prog W 0 (fun _=>true) true n0_ 3 [c1]=some _ from g0_1)
  obtain ⟨_,g0_2⟩:=f0 2 3 2 1 (by kernel_rfl) (by kernel_rfl)
  obtain ⟨n2,e2,_,w2⟩:=DataW.trod_int ZB (show DataW.trod enc Tryz.prog W 0 (fun _=>true) true n0_ 3 [c2]=some _ from g0_2)
  cases e0;cases e1;cases e2
  exact ⟨⟨n0,n1,n2⟩,trivial,rfl⟩
theorem zwQ {H:Type}{enc:TypeId×Value→H}{W:World}(fuel:Nat)(cs:List Value)(x:DataW H×List MemPlace)(h:DataW.trod enc Tryz.prog W 0 (fun _=>true) true fuel 60 cs=some x):∃ y:Rd,(fun _=>True) y∧JM y=cs:=by
 obtain ⟨hl,n0_,f0⟩:=Y5 (C:=15) zrI (by kernel_rfl) h
 match cs,hl with
 | [c0,c1,c2,c3,c4,c5,c6,c7,c8,c9,c10,c11,c12,c13,c14],_=>
  obtain ⟨_,g0_0⟩:=f0 0 4 0 1 (by kernel_rfl) (by kernel_rfl)
  obtain ⟨n0,e0,_⟩:=DataW.trod_bool zol (show DataW.trod enc Tryz.prog W 0 (fun _=>true) true n0_ 4 [c0]=some _ from g0_0)
  obtain ⟨_,g0_1⟩:=f0 1 54 1 14 (by kernel_rfl) (by kernel_rfl)
  obtain ⟨_,n1_,f1⟩:=Y5 (C:=14) zem (by kernel_rfl) (show DataW.trod enc Tryz.prog W 0 (fun _=>true) true n0_ 54 [c1,c2,c3,c4,c5,c6,c7,c8,c9,c10,c11,c12,c13,c14]=some _ from g0_1)
  obtain ⟨_,g1_0⟩:=f1 0 3 0 1 (by kernel_rfl) (by kernel_rfl)
  obtain ⟨n1,e1,_,w1⟩:=DataW.trod_int ZB (show DataW.trod enc Tryz.prog W 0 (fun _=>true) true n1_ 3 [c1]=some _ from g1_0)
  obtain ⟨_,g1_1⟩:=f1 1 3 1 1 (by kernel_rfl) (by kernel_rfl)
  obtain ⟨n2,e2,_,w2⟩:=DataW.trod_int ZB (show DataW.trod enc Tryz.prog W 0 (fun _=>true) true n1_ 3 [c2]=some _ from g1_1)
  obtain ⟨_,g1_2⟩:=f1 2 3 2 1 (by kernel_rfl) (by kernel_rfl)
  obtain ⟨n3,e3,_,w3⟩:=DataW.trod_int ZB (show DataW.trod enc Tryz.prog W 0 (fun _=>true) true n1_ 3 [c3]=some _ from g1_2)
  obtain ⟨_,g1_3⟩:=f1 3 3 3 1 (by kernel_rfl) (by kernel_rfl)
  obtain ⟨n4,e4,_,w4⟩:=DataW.trod_int ZB (show DataW.trod enc Tryz.prog W 0 (fun _=>true) true n1_ 3 [c4]=some _ from g1_3)
  obtain ⟨_,g1_4⟩:=f1 4 3 4 1 (by kernel_rfl) (by kernel_rfl)
  obtain ⟨n5,e5,_,w5⟩:=DataW.trod_int ZB (show DataW.trod enc Tryz.prog W 0 (fun _=>true) true n1_ 3 [c5]=some _ from g1_4)
  obtain ⟨_,g1_5⟩:=f1 5 3 5 1 (by kernel_rfl) (by kernel_rfl)
  obtain ⟨n6,e6,_,w6⟩:=DataW.trod_int ZB (show DataW.trod enc Tryz.prog W 0 (fun _=>true) true n1_ 3 [c6]=some _ from g1_5)
  obtain ⟨_,g1_6⟩:=f1 6 3 6 1 (by kernel_rfl) (by kernel_rfl)
  obtain ⟨n7,e7,_,w7⟩:=DataW.trod_int ZB (show DataW.trod enc Tryz.prog W 0 (fun _=>true) true n1_ 3 [c7]=some _ from g1_6)
  obtain ⟨_,g1_7⟩:=f1 7 3 7 1 (by kernel_rfl) (by kernel_rfl)
  obtain ⟨n8,e8,_,w8⟩:=DataW.trod_int ZB (show DataW.trod enc Tryz.prog W 0 (fun _=>true) true n1_ 3 [c8]=some _ from g1_7)
  obtain ⟨_,g1_8⟩:=f1 8 3 8 1 (by kernel_rfl) (by kernel_rfl)
  obtain ⟨n9,e9,_,w9⟩:=DataW.trod_int ZB (show DataW.trod enc Tryz.prog W 0 (fun _=>true) true n1_ 3 [c9]=some _ from g1_8)
  obtain ⟨_,g1_9⟩:=f1 9 3 9 1 (by kernel_rfl) (by kernel_rfl)
  obtain ⟨n10,e10,_,w10⟩:=DataW.trod_int ZB (show DataW.trod enc Tryz.prog W 0 (fun _=>true) true n1_ 3 [c10]=some _ from g1_9)
  obtain ⟨_,g1_10⟩:=f1 10 52 10 2 (by kernel_rfl) (by kernel_rfl)
  obtain ⟨_,n2_,f2⟩:=Y5 (C:=2) XS (by kernel_rfl) (show DataW.trod enc Tryz.prog W 0 (fun _=>true) true n1_ 52 [c11,c12]=some _ from g1_10)
  obtain ⟨_,g2_0⟩:=f2 0 3 0 1 (by kernel_rfl) (by kernel_rfl)
  obtain ⟨n11,e11,_,w11⟩:=DataW.trod_int ZB (show DataW.trod enc Tryz.prog W 0 (fun _=>true) true n2_ 3 [c11]=some _ from g2_0)
  obtain ⟨_,g2_1⟩:=f2 1 3 1 1 (by kernel_rfl) (by kernel_rfl)
  obtain ⟨n12,e12,_,w12⟩:=DataW.trod_int ZB (show DataW.trod enc Tryz.prog W 0 (fun _=>true) true n2_ 3 [c12]=some _ from g2_1)
  obtain ⟨_,g1_11⟩:=f1 11 52 12 2 (by kernel_rfl) (by kernel_rfl)
  obtain ⟨_,n3_,f3⟩:=Y5 (C:=2) XS (by kernel_rfl) (show DataW.trod enc Tryz.prog W 0 (fun _=>true) true n1_ 52 [c13,c14]=some _ from g1_11)
  obtain ⟨_,g3_0⟩:=f3 0 3 0 1 (by kernel_rfl) (by kernel_rfl)
  obtain ⟨n13,e13,_,w13⟩:=DataW.trod_int ZB (show DataW.trod enc Tryz.prog W 0 (fun _=>true) true n3_ 3 [c13]=some _ from g3_0)
  obtain ⟨_,g3_1⟩:=f3 1 3 1 1 (by kernel_rfl) (by kernel_rfl)
  obtain ⟨n14,e14,_,w14⟩:=DataW.trod_int ZB (show DataW.trod enc Tryz.prog W 0 (fun _=>true) true n3_ 3 [c14]=some _ from g3_1)
  cases e0;cases e1;cases e2;cases e3;cases e4;cases e5;cases e6;cases e7;cases e8;cases e9;cases e10;cases e11;cases e12;cases e13;cases e14
  exact ⟨⟨n0,⟨n1,n2,n3,n4,n5,n6,n7,n8,n9,n10,n11,n12,n13,n14⟩⟩,trivial,rfl⟩
theorem zwp {H:Type}{enc:TypeId×Value→H}{W:World}(fuel:Nat)(cs:List Value)(x:DataW H×List MemPlace)(h:DataW.trod enc Tryz.prog W 0 (fun _=>true) true fuel 65 cs=some x):∃ y:Wt,(fun w=>∃ rs,Sl (Jo W) 15 JM w.a w.n w.c rs) y∧zkk y=cs:=by
 obtain ⟨hl,n0_,f0⟩:=Y5 (C:=3) zqV (by kernel_rfl) h
 match cs,hl with
 | [c0,c1,c2],_=>
  obtain ⟨_,g0_0⟩:=f0 0 3 0 1 (by kernel_rfl) (by kernel_rfl)
  obtain ⟨n0,e0,_,w0⟩:=DataW.trod_int ZB (show DataW.trod enc Tryz.prog W 0 (fun _=>true) true n0_ 3 [c0]=some _ from g0_0)
  obtain ⟨_,g0_1⟩:=f0 1 3 1 1 (by kernel_rfl) (by kernel_rfl)
  obtain ⟨n1,e1,_,w1⟩:=DataW.trod_int ZB (show DataW.trod enc Tryz.prog W 0 (fun _=>true) true n0_ 3 [c1]=some _ from g0_1)
  obtain ⟨_,g0_2⟩:=f0 2 63 2 1 (by kernel_rfl) (by kernel_rfl)
  obtain ⟨a2,m2,q2,n2,e2,s2,o2,_⟩:=Kh (t:=63) (e:=60) JM (fun _:Rd=>True) zpS (by kernel_rfl) (by decide) Zq (fun fuel cs x h=>zwQ fuel cs x h) (show DataW.trod enc Tryz.prog W 0 (fun _=>true) true n0_ 63 [c2]=some _ from g0_2)
  cases e0;cases e1;cases e2
  exact ⟨⟨n0,n1,a2,m2,q2⟩,⟨n2,s2⟩,rfl⟩
theorem zx2 {I:Qu}:∀ (ws:List Wt),(∀ w∈ws,∃ rs,Sl I 15 JM w.a w.n w.c rs)→∃ xs:List Wr,ws.length=xs.length∧∀ (k:Nat) (w:Wt) (x:Wr),ws[k]? =some w→xs[k]? =some x→w.no=x.no∧w.yr=x.yr∧Sl I 15 JM w.a w.n w.c x.rs
 | [],_=>⟨[],rfl,fun k w x h=>by simp at h⟩
 | y::ws,H=>by
  obtain ⟨xs,hl,hv⟩:=zx2 ws fun w hw=>H w (List.mem_cons_of_mem _ hw)
  obtain ⟨rs,h0⟩:=H y (List.mem_cons_self ..)
  refine ⟨⟨y.no,y.yr,rs⟩::xs,by simp [hl],fun k w x a b=>?_⟩
  cases k with
  | zero=>cases a;cases b;exact ⟨rfl,rfl,h0⟩
  | succ k=>exact hv k w x a b
structure EdS where
 no:Int
 a1:Option Addr
 n1:Nat
 c1:Nat
 a2:Option Addr
 n2:Nat
 c2:Nat
 a3:Option Addr
 n3:Nat
 c3:Nat
def zs6 (e:EdS):List Value:=Z3 e.no e.a1 e.n1 e.c1 e.a2 e.n2 e.c2 e.a3 e.n3 e.c3
def zuq (e:EdS):Value:=.agg (zs6 e).toArray
theorem zxp {H:Type}{enc:TypeId×Value→H}{W:World}(fuel:Nat)(cs:List Value)(x:DataW H×List MemPlace)(h:DataW.trod enc Tryz.prog W 0 (fun _=>true) true fuel 26 cs=some x):∃ y:EdS,(fun e=>(∃ xs,Sl (Jo W) 1 QP e.a1 e.n1 e.c1 xs)∧(∃ es,Sl (Jo W) 3 Yt e.a2 e.n2 e.c2 es)∧∃ rd,Sl (Jo W) 1 QP e.a3 e.n3 e.c3 rd) y∧zs6 y=cs:=by
 obtain ⟨hl,n0_,f0⟩:=Y5 (C:=4) ziB (by kernel_rfl) h
 match cs,hl with
 | [c0,c1,c2,c3],_=>
  obtain ⟨_,g0_0⟩:=f0 0 3 0 1 (by kernel_rfl) (by kernel_rfl)
  obtain ⟨n0,e0,_,w0⟩:=DataW.trod_int ZB (show DataW.trod enc Tryz.prog W 0 (fun _=>true) true n0_ 3 [c0]=some _ from g0_0)
  obtain ⟨_,g0_1⟩:=f0 1 23 1 1 (by kernel_rfl) (by kernel_rfl)
  obtain ⟨a1,m1,q1,n1,e1,s1,o1,_⟩:=Kh (t:=23) (e:=3) QP (fun n:Int=> -9223372036854775808≤n∧n≤9223372036854775807) zbZ (by kernel_rfl) (by decide) Qv (fun fuel cs x h=>zc1 ZB rfl fuel cs x h) (show DataW.trod enc Tryz.prog W 0 (fun _=>true) true n0_ 23 [c1]=some _ from g0_1)
  obtain ⟨_,g0_2⟩:=f0 2 24 2 1 (by kernel_rfl) (by kernel_rfl)
  obtain ⟨a2,m2,q2,n2,e2,s2,o2,_⟩:=Kh (t:=24) (e:=67) Yt (fun _:Em=>True) zrn (by kernel_rfl) (by decide) X9 (fun fuel cs x h=>zw0 fuel cs x h) (show DataW.trod enc Tryz.prog W 0 (fun _=>true) true n0_ 24 [c2]=some _ from g0_2)
  obtain ⟨_,g0_3⟩:=f0 3 23 3 1 (by kernel_rfl) (by kernel_rfl)
  obtain ⟨a3,m3,q3,n3,e3,s3,o3,_⟩:=Kh (t:=23) (e:=3) QP (fun n:Int=> -9223372036854775808≤n∧n≤9223372036854775807) zbZ (by kernel_rfl) (by decide) Qv (fun fuel cs x h=>zc1 ZB rfl fuel cs x h) (show DataW.trod enc Tryz.prog W 0 (fun _=>true) true n0_ 23 [c3]=some _ from g0_3)
  cases e0;cases e1;cases e2;cases e3
  exact ⟨⟨n0,a1,m1,q1,a2,m2,q2,a3,m3,q3⟩,⟨⟨n1,s1⟩,⟨n2,s2⟩,⟨n3,s3⟩⟩,rfl⟩
theorem zow {H:Type}{enc:TypeId×Value→H}{W:World}{base:Nat}{v:Value}{d:DataW H}{p:List MemPlace}(hv:Value.okWide Tryz.prog W .any base 26 v)(h:DataW.Trod enc Tryz.prog W 0 (fun _=>true) true 26 v d p):∃ y:EdS,v=zuq y∧(fun e=>(∃ xs,Sl (Jo W) 1 QP e.a1 e.n1 e.c1 xs)∧(∃ es,Sl (Jo W) 3 Yt e.a2 e.n2 e.c2 es)∧∃ rd,Sl (Jo W) 1 QP e.a3 e.n3 e.c3 rd) y:=by
 obtain ⟨cs,rfl,_⟩:=okWide_struct ziB hv
 obtain ⟨fuel,hf⟩:=h
 obtain ⟨l⟩:=cs
 obtain ⟨y,hy,e⟩:=zxp fuel l _ hf
 exact ⟨y,by rw [←e];rfl,hy⟩
set_option maxRecDepth 100000 in
theorem zoz {H:Type} {enc:TypeId×Value→H} {W:World} {base:Nat} {v:Value} {d:DataW H} {p:List MemPlace} (hv:Value.okWide Tryz.prog W .any base 35 v) (h:DataW.Trod enc Tryz.prog W 0 (fun _=>true) true 35 v d p):
  ∃ av n c xs,v= .slice av n c∧SlW (Jo W) av n c xs∧n≤9223372036854775807:=by
 obtain ⟨av,n,c,ws,e,hS,hok,hm⟩:=zbO (e:=65) zkk (fun w=>∃ rs,Sl (Jo W) 15 JM w.a w.n w.c rs) zqh (by kernel_rfl) (by decide) ZI (fun fuel cs x h=>zwp fuel cs x h) hv h
 obtain ⟨xs,hl,hx⟩:=zx2 ws hok
 exact ⟨av,n,c,xs,e,⟨ws,hS,hl,hx⟩,Nat.le_trans hS.cap hm⟩
end
end Go.Proofs.YtodakphagkommaaGreatDoor
namespace Go.Proofs.YtodakphagkommaaGreatDoor.R
section
open Go Go.Kn Go.Proofs
open Go.ChangeShapes Go.WideShapes Go.ChangeAt Go.RowKit
set_option maxRecDepth 100000
theorem zem:Tryz.prog.underlying 54=some (.struct (Tryz.prog.fieldsOf 54)):=by kernel_rfl
theorem XS:Tryz.prog.underlying 52=some (.struct (Tryz.prog.fieldsOf 52)):=by kernel_rfl
theorem zbZ:Tryz.prog.underlying 23=some (.slice 3):=by kernel_rfl
theorem zqf:Tryz.prog.underlying 57=some (.struct (Tryz.prog.fieldsOf 57)):=by kernel_rfl
theorem zoM:Tryz.prog.underlying 36=some (.slice 57):=by kernel_rfl
theorem zwm {H:Type}{enc:TypeId×Value→H}{W:World}(fuel:Nat)(cs:List Value)(x:DataW H×List MemPlace)(h:DataW.trod enc Tryz.prog W 0 (fun _=>true) true fuel 57 cs=some x):∃ y:Pt,(fun p=>Nd (Jo W) p) y∧Yw y=cs:=by
 obtain ⟨hl,n0_,f0⟩:=Y5 (C:=19) zqf (by kernel_rfl) h
 match cs,hl with
 | [c0,c1,c2,c3,c4,c5,c6,c7,c8,c9,c10,c11,c12,c13,c14,c15,c16,c17,c18],_=>
  obtain ⟨_,g0_0⟩:=f0 0 3 0 1 (by kernel_rfl) (by kernel_rfl)
  obtain ⟨n0,e0,_,w0⟩:=DataW.trod_int ZB (show DataW.trod enc Tryz.prog W 0 (fun _=>true) true n0_ 3 [c0]=some _ from g0_0)
  obtain ⟨_,g0_1⟩:=f0 1 3 1 1 (by kernel_rfl) (by kernel_rfl)
  obtain ⟨n1,e1,_,w1⟩:=DataW.trod_int ZB (show DataW.trod enc Tryz.prog W 0 (fun _=>true) true n0_ 3 [c1]=some _ from g0_1)
  obtain ⟨_,g0_2⟩:=f0 2 3 2 1 (by kernel_rfl) (by kernel_rfl)
  obtain ⟨n2,e2,_,w2⟩:=DataW.trod_int ZB (show DataW.trod enc Tryz.prog W 0 (fun _=>true) true n0_ 3 [c2]=some _ from g0_2)
  obtain ⟨_,g0_3⟩:=f0 3 3 3 1 (by kernel_rfl) (by kernel_rfl)
  obtain ⟨n3,e3,_,w3⟩:=DataW.trod_int ZB (show DataW.trod enc Tryz.prog W 0 (fun _=>true) true n0_ 3 [c3]=some _ from g0_3)
  obtain ⟨_,g0_4⟩:=f0 4 54 4 14 (by kernel_rfl) (by kernel_rfl)
  obtain ⟨_,n1_,f1⟩:=Y5 (C:=14) zem (by kernel_rfl) (show DataW.trod enc Tryz.prog W 0 (fun _=>true) true n0_ 54 [c4,c5,c6,c7,c8,c9,c10,c11,c12,c13,c14,c15,c16,c17]=some _ from g0_4)
  obtain ⟨_,g1_0⟩:=f1 0 3 0 1 (by kernel_rfl) (by kernel_rfl)
  obtain ⟨n4,e4,_,w4⟩:=DataW.trod_int ZB (show DataW.trod enc Tryz.prog W 0 (fun _=>true) true n1_ 3 [c4]=some _ from g1_0)
  obtain ⟨_,g1_1⟩:=f1 1 3 1 1 (by kernel_rfl) (by kernel_rfl)
  obtain ⟨n5,e5,_,w5⟩:=DataW.trod_int ZB (show DataW.trod enc Tryz.prog W 0 (fun _=>true) true n1_ 3 [c5]=some _ from g1_1)
  obtain ⟨_,g1_2⟩:=f1 2 3 2 1 (by kernel_rfl) (by kernel_rfl)
  obtain ⟨n6,e6,_,w6⟩:=DataW.trod_int ZB (show DataW.trod enc Tryz.prog W 0 (fun _=>true) true n1_ 3 [c6]=some _ from g1_2)
  obtain ⟨_,g1_3⟩:=f1 3 3 3 1 (by kernel_rfl) (by kernel_rfl)
  obtain ⟨n7,e7,_,w7⟩:=DataW.trod_int ZB (show DataW.trod enc Tryz.prog W 0 (fun _=>true) true n1_ 3 [c7]=some _ from g1_3)
  obtain ⟨_,g1_4⟩:=f1 4 3 4 1 (by kernel_rfl) (by kernel_rfl)
  obtain ⟨n8,e8,_,w8⟩:=DataW.trod_int ZB (show DataW.trod enc Tryz.prog W 0 (fun _=>true) true n1_ 3 [c8]=some _ from g1_4)
  obtain ⟨_,g1_5⟩:=f1 5 3 5 1 (by kernel_rfl) (by kernel_rfl)
  obtain ⟨n9,e9,_,w9⟩:=DataW.trod_int ZB (show DataW.trod enc Tryz.prog W 0 (fun _=>true) true n1_ 3 [c9]=some _ from g1_5)
  obtain ⟨_,g1_6⟩:=f1 6 3 6 1 (by kernel_rfl) (by kernel_rfl)
  obtain ⟨n10,e10,_,w10⟩:=DataW.trod_int ZB (show DataW.trod enc Tryz.prog W 0 (fun _=>true) true n1_ 3 [c10]=some _ from g1_6)
  obtain ⟨_,g1_7⟩:=f1 7 3 7 1 (by kernel_rfl) (by kernel_rfl)
  obtain ⟨n11,e11,_,w11⟩:=DataW.trod_int ZB (show DataW.trod enc Tryz.prog W 0 (fun _=>true) true n1_ 3 [c11]=some _ from g1_7)
  obtain ⟨_,g1_8⟩:=f1 8 3 8 1 (by kernel_rfl) (by kernel_rfl)
  obtain ⟨n12,e12,_,w12⟩:=DataW.trod_int ZB (show DataW.trod enc Tryz.prog W 0 (fun _=>true) true n1_ 3 [c12]=some _ from g1_8)
  obtain ⟨_,g1_9⟩:=f1 9 3 9 1 (by kernel_rfl) (by kernel_rfl)
  obtain ⟨n13,e13,_,w13⟩:=DataW.trod_int ZB (show DataW.trod enc Tryz.prog W 0 (fun _=>true) true n1_ 3 [c13]=some _ from g1_9)
  obtain ⟨_,g1_10⟩:=f1 10 52 10 2 (by kernel_rfl) (by kernel_rfl)
  obtain ⟨_,n2_,f2⟩:=Y5 (C:=2) XS (by kernel_rfl) (show DataW.trod enc Tryz.prog W 0 (fun _=>true) true n1_ 52 [c14,c15]=some _ from g1_10)
  obtain ⟨_,g2_0⟩:=f2 0 3 0 1 (by kernel_rfl) (by kernel_rfl)
  obtain ⟨n14,e14,_,w14⟩:=DataW.trod_int ZB (show DataW.trod enc Tryz.prog W 0 (fun _=>true) true n2_ 3 [c14]=some _ from g2_0)
  obtain ⟨_,g2_1⟩:=f2 1 3 1 1 (by kernel_rfl) (by kernel_rfl)
  obtain ⟨n15,e15,_,w15⟩:=DataW.trod_int ZB (show DataW.trod enc Tryz.prog W 0 (fun _=>true) true n2_ 3 [c15]=some _ from g2_1)
  obtain ⟨_,g1_11⟩:=f1 11 52 12 2 (by kernel_rfl) (by kernel_rfl)
  obtain ⟨_,n3_,f3⟩:=Y5 (C:=2) XS (by kernel_rfl) (show DataW.trod enc Tryz.prog W 0 (fun _=>true) true n1_ 52 [c16,c17]=some _ from g1_11)
  obtain ⟨_,g3_0⟩:=f3 0 3 0 1 (by kernel_rfl) (by kernel_rfl)
  obtain ⟨n16,e16,_,w16⟩:=DataW.trod_int ZB (show DataW.trod enc Tryz.prog W 0 (fun _=>true) true n3_ 3 [c16]=some _ from g3_0)
  obtain ⟨_,g3_1⟩:=f3 1 3 1 1 (by kernel_rfl) (by kernel_rfl)
  obtain ⟨n17,e17,_,w17⟩:=DataW.trod_int ZB (show DataW.trod enc Tryz.prog W 0 (fun _=>true) true n3_ 3 [c17]=some _ from g3_1)
  obtain ⟨_,g0_5⟩:=f0 5 23 18 1 (by kernel_rfl) (by kernel_rfl)
  obtain ⟨a18,m18,q18,n18,e18,s18,o18,_⟩:=Kh (t:=23) (e:=3) QP (fun n:Int=> -9223372036854775808≤n∧n≤9223372036854775807) zbZ (by kernel_rfl) (by decide) Qv (fun fuel cs x h=>zc1 ZB rfl fuel cs x h) (show DataW.trod enc Tryz.prog W 0 (fun _=>true) true n0_ 23 [c18]=some _ from g0_5)
  cases e0;cases e1;cases e2;cases e3;cases e4;cases e5;cases e6;cases e7;cases e8;cases e9;cases e10;cases e11;cases e12;cases e13;cases e14;cases e15;cases e16;cases e17;cases e18
  exact ⟨⟨n0,n1,n2,n3,⟨n4,n5,n6,n7,n8,n9,n10,n11,n12,n13,n14,n15,n16,n17⟩,a18,m18,q18,n18⟩,s18,rfl⟩
theorem open_ps {H:Type}{enc:TypeId×Value→H}{W:World}{base:Nat}{v:Value}{d:DataW H}{p:List MemPlace}(hv:Value.okWide Tryz.prog W .any base 36 v)(h:DataW.Trod enc Tryz.prog W 0 (fun _=>true) true 36 v d p):
  ∃ av n c xs,v= .slice av n c∧SlP (Jo W) av n c xs:=by
 obtain ⟨av,n,c,xs,e,hS,hok,_⟩:=zbO (e:=57) Yw (fun p=>Nd (Jo W) p) zoM (by kernel_rfl) (by decide) QY (fun fuel cs x h=>zwm fuel cs x h) hv h
 exact ⟨av,n,c,xs,e,⟨hS,hok⟩⟩
end
end Go.Proofs.YtodakphagkommaaGreatDoor.R
