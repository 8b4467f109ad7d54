/- partiesSpec_holds, part C of the proof: what its theorems say holds without further conditions. -/
import Derived.Lib.Hide
import Derived.Shelf.SlSortCmp.WholeK
import Derived.Test.YtjblkbkmblkgoaaGreatProg
import Derived.KernelRfl
import Derived.Test.YtjblkbkmblkgoaaGreatSPB
namespace Go.Proofs.YtjblkbkmblkgoaaGreat
section
open Go Go.Kn Go.Proofs
theorem zai:ArT Tryz.prog 317 4 4 1:=.of kA
theorem zme:Fun Tryz.prog 248:=.of Tryz.func248 kA kA
theorem zg5:SzT Tryz.prog 317 4:=.of kA
theorem zdb:Vv Tryz.prog 317 (.agg #[(.bool false),(.bool false),(.bool false),(.bool false)]):=.of kA
theorem zrL (n:Int):zzR (.int n):=by
 intro I bw bp hW v xs L hO cv hx hok hb;cases hx;exact zp0 hO kB hok
theorem zld (s:List Nat):zzR (.text s):=by
 intro I bw bp hW v xs L hO cv hx hok hb;cases hx;exact zlQ hO (by simp [Va.enc] at hb;omega) hok.1
theorem zd7 (d:Nat):∀ x,Va.depth x≤d→zzR x:=by
 induction d with
 | zero=>
  intro x hd
  cases x with
  | int n=>exact zrL n
  | text s=>exact zld s
  | list l=>simp [Va.depth] at hd
 | succ d ih=>
  intro x hd
  cases x with
  | int n=>exact zrL n
  | text s=>exact zld s
  | list l=>
   intro I bw bp hW v xs L hO cv hx hok hb
   cases hx with
   | list hS hl hr=>exact zcS hW hO hS hl hr (fun k y hy=>ih y (JX (l:=l) (by simp only [Va.depth] at hd;omega) hy)) hok.2 hb
def zyO (x:Va):Prop:=∀ {I:Qu} {cv:Vc} (_hx:VaR I x cv) (_hd:Va.depth x≤1000) (_hok:Va.ok x),ZJ Tryz.prog 248 [.agg (Zg cv).toArray] I (.tuple #[.int .i64 (Va.depth x:Nat),.bool true])
variable{I:Qu}
theorem zfl (n:Int):ZJ Tryz.prog 248 [.agg #[.int .i64 1,.int .i64 n,.string ⟨#[]⟩,.slice none 0 0]] I (.tuple #[.int .i64 0,.bool true]):=by
 intro g H w hw;refine qe Tryz.func248 Tryz.ntmps248 hw ?_;have hIc:=zB6 I;refine zR<|QK rfl rfl rfl (fun b_1=>zA<|zA<|zN (zR<|zF Yv ?_))
 refine zL VZ<|zV (J6 rfl rfl rfl) ?_
 refine zM ?_;refine Qt 3 rfl rfl rfl ?_;refine zK (Qa rfl QO) ?_;refine zK (Qc rfl Zo (fun hg=>by exact Qy.h0 rfl)) ?_;refine zK (QT rfl ZN) ?_;refine zK (QA rfl rfl rfl) ?_;refine QE rfl rfl rfl rfl rfl ?_;refine zF Y3 ?_;refine zL Ql<|zC<|zM<|Qt 12 rfl rfl rfl ?_
 refine zK (Qa rfl QO) ?_;refine zK (Qc rfl Zo (fun hg=>by exact Qy.h0 rfl)) ?_;refine zK (QT rfl ZN) ?_;refine zK (QA rfl rfl rfl) ?_;refine QE rfl rfl rfl rfl rfl ?_;refine zF Y3 ?_;refine zL Ql<|zC<|zM<|Qt 21 rfl rfl rfl ?_
 refine zK (Qa rfl Yv) ?_;refine zK (Qc rfl VZ (fun hg=>by exact Qy.h0 rfl)) ?_;refine zK (J6 rfl rfl rfl)<|QE rfl rfl rfl rfl rfl<|zV (VH (ps:=[(1,_),(2,_),(3,_)]) [_,_,_,_] zai zdb rfl rfl)<|Qp zdb rfl rfl (fun b_4=>zh zg5<|zN (Qm (zR<|zF Zh ?_)))
 refine zL Ql<|zC<|zM<|QI 3 rfl rfl rfl ?_
 refine zJ (Qa rfl Zh) ?_;refine zJ (Qc rfl Ql (fun hg=>by exact Qy.h1 rfl)) ?_;refine zJ (QA rfl rfl rfl)<|Q9 rfl rfl rfl rfl rfl<|zM<|QI 8 rfl rfl rfl ?_
 refine zJ (Qa rfl Zh) ?_;refine zJ (Qc rfl Ql (fun hg=>by exact Qy.h1 rfl))<|zJ (Q8 rfl rfl zai (fun hg=>kB))<|zJ (Qc rfl zbW (fun hg=>by exact Qy.h0 rfl))<|zJ (ZB rfl)<|Q9 rfl rfl rfl rfl rfl<|zN ?_
 refine zI ?_ ?_<;>intro hc50
 ·
  simp [Kz] at hc50
 refine Qr (Qd (Qm (zR<|zF Zh ?_)));refine zL Ql<|zC (zN ?_)
 refine zI ?_ ?_<;>intro hc53
 ·
  exact zR (zA<|zA (zN (Qs (Qf<|Vq rfl rfl rfl (fun w hw=>⟨rfl,(hw.mono hIc).drop⟩)))))
 simp at hc53
theorem zc3 (s:ByteArray):ZJ Tryz.prog 248 [.agg #[.int .i64 2,.int .i64 0,.string s,.slice none 0 0]] I (.tuple #[.int .i64 0,.bool true]):=by
 intro g H w hw;refine qe Tryz.func248 Tryz.ntmps248 hw ?_;have hIc:=zB6 I;refine zR<|QK rfl rfl rfl (fun b_1=>zA<|zA<|zN (zR<|zF Yv ?_))
 refine zL VZ<|zV (J6 rfl rfl rfl) ?_
 refine zM ?_;refine Qt 3 rfl rfl rfl ?_;refine zK (Qa rfl QO) ?_;refine zK (Qc rfl Zo (fun hg=>by exact Qy.h0 rfl)) ?_;refine zK (QT rfl ZN) ?_;refine zK (QA rfl rfl rfl) ?_;refine QE rfl rfl rfl rfl rfl ?_;refine zF Y3 ?_;refine zL Ql<|zC<|zM<|Qt 12 rfl rfl rfl ?_
 refine zK (Qa rfl QO) ?_;refine zK (Qc rfl Zo (fun hg=>by exact Qy.h0 rfl)) ?_;refine zK (QT rfl ZN) ?_;refine zK (QA rfl rfl rfl) ?_;refine QE rfl rfl rfl rfl rfl ?_;refine zF Y3 ?_;refine zL Ql<|zC<|zM<|Qt 21 rfl rfl rfl ?_
 refine zK (Qa rfl Yv) ?_;refine zK (Qc rfl VZ (fun hg=>by exact Qy.h0 rfl)) ?_;refine zK (J6 rfl rfl rfl)<|QE rfl rfl rfl rfl rfl<|zV (VH (ps:=[(1,_),(2,_),(3,_)]) [_,_,_,_] zai zdb rfl rfl)<|Qp zdb rfl rfl (fun b_4=>zh zg5<|zN (Qm (zR<|zF Zh ?_)))
 refine zL Ql<|zC<|zM<|QI 3 rfl rfl rfl ?_
 refine zJ (Qa rfl Zh)<|zJ (Qc rfl Ql (fun hg=>by exact Qy.h1 rfl))<|zJ (QA rfl rfl rfl)<|Q9 rfl rfl rfl rfl rfl<|zM<|QI 8 rfl rfl rfl ?_
 refine zJ (Qa rfl Zh)<|zJ (Qc rfl Ql (fun hg=>by exact Qy.h1 rfl))<|zJ (Q8 rfl rfl zai (fun hg=>kB))<|zJ (Qc rfl zbW (fun hg=>by exact Qy.h0 rfl))<|zJ (ZB rfl)<|Q9 rfl rfl rfl rfl rfl<|zN ?_
 refine zI ?_ ?_<;>intro hc50
 ·
  simp at hc50
 refine Qr (Qd (Qm (zR<|zF Zh ?_)));refine zL Ql<|zC (zN ?_)
 refine zI ?_ ?_<;>intro hc53
 ·
  exact zR (zA<|zA (zN (Qs (Qf<|Vq rfl rfl rfl (fun w hw=>⟨rfl,(hw.mono hIc).drop⟩)))))
 simp at hc53
variable{l:List Va}{hs:List Vc}{a:Option Addr}{c:Nat}
theorem zke {m:Nat}(hS:Sl I 4 Zg a m c hs)(hl:l.length=hs.length)(hr:∀ (k:Nat) (x:Va) (y:Vc),l[k]? =some x→hs[k]? =some y→VaR I x y)(ih:∀ (k:Nat) (x:Va),l[k]? =some x→zyO x)(hok:Va.okL l)(hlm:l.length<2^63)(hd:Va.depthL l≤999):ZJ Tryz.prog 248 [.agg #[.int .i64 3,.int .i64 0,.string ⟨#[]⟩,.slice a m c]] I (.tuple #[.int .i64 (Va.depthL l+1:Nat),.bool true]):=by
 intro g H w hw;refine qe Tryz.func248 Tryz.ntmps248 hw ?_;have hIc:=zB6 I;have hml:=hS.len;refine zR<|QK rfl rfl rfl (fun b_1=>zA<|zA<|zN (zR<|zF Yv ?_))
 refine zL VZ<|zV (J6 rfl rfl rfl) ?_
 refine zM<|Qt 3 rfl rfl rfl ?_
 refine zK (Qa rfl QO) ?_;refine zK (Qc rfl Zo (fun hg=>by exact Qy.h0 rfl)) ?_;refine zK (QT rfl ZN) ?_;refine zK (QA rfl rfl rfl) ?_;refine QE rfl rfl rfl rfl rfl ?_;refine zF Y3 ?_;refine zL Ql<|zC<|zM<|Qt 12 rfl rfl rfl ?_
 refine zK (Qa rfl QO) ?_;refine zK (Qc rfl Zo (fun hg=>by exact Qy.h0 rfl)) ?_;refine zK (QT rfl ZN) ?_;refine zK (QA rfl rfl rfl) ?_;refine QE rfl rfl rfl rfl rfl ?_;refine zF Y3 ?_;refine zL Ql<|zC<|zM<|Qt 21 rfl rfl rfl ?_
 refine zK (Qa rfl Yv) ?_;refine zK (Qc rfl VZ (fun hg=>by exact Qy.h0 rfl)) ?_;refine zK (J6 rfl rfl rfl)<|QE rfl rfl rfl rfl rfl<|zV (VH (ps:=[(1,_),(2,_),(3,_)]) [_,_,_,_] zai zdb rfl rfl)<|Qp zdb rfl rfl (fun b_4=>zh zg5<|zN (Qm (zR<|zF Zh ?_)))
 refine zL Ql<|zC<|zM<|QI 3 rfl rfl rfl ?_
 refine zJ (Qa rfl Zh)<|zJ (Qc rfl Ql (fun hg=>by exact Qy.h1 rfl))<|zJ (QA rfl rfl rfl)<|Q9 rfl rfl rfl rfl rfl<|zM<|QI 8 rfl rfl rfl ?_
 refine zJ (Qa rfl Zh)<|zJ (Qc rfl Ql (fun hg=>by exact Qy.h1 rfl))<|zJ (Q8 rfl rfl zai (fun hg=>kB))<|zJ (Qc rfl zbW (fun hg=>by exact Qy.h0 rfl))<|zJ (ZB rfl)<|Q9 rfl rfl rfl rfl rfl<|zN ?_
 refine zI ?_ ?_<;>intro hc50
 ·
  simp [Kz] at hc50
 refine Qr (Qd (Qm (zR<|zF Zh ?_)));refine zL Ql<|zC (zN ?_)
 refine zI ?_ ?_<;>intro hc53
 ·
  simp at hc53
 refine Qr (Qd (Qm (zR<|zF QO ?_)));refine zL Zo<|zQ ZN<|zM (zN (Qw ?_))
 refine zU [(55,_),(56,_)] (fun T L0 mz E I' loc'=>∃ (k:Nat) (dd:Int),mz=m-k∧E=(2,.int .i64 dd)::(57,.int .i64 k)::T∧I=I'∧L0=loc'∧k≤m∧dd=((Va.depthL (l.take k):Nat):Int)) ?_ (h:=⟨0,0,rfl,rfl,rfl,rfl,Nat.zero_le _,rfl⟩);rintro mz E I' loc' ⟨k,dd,rfl,rfl,rfl,rfl,hk,hdd⟩;refine zR (zC (zN (Qm ?_)));refine zI ?_ ?_<;>intro hc58
 ·
  have hlt_k:k<m:=(by have h:=hc58;simp at h;omega);obtain ⟨cv,hy⟩:∃ y,hs[k]? =some y:=⟨_,List.getElem?_eq_getElem kB⟩;obtain ⟨x,hlx⟩:∃ y,l[k]? =some y:=⟨_,List.getElem?_eq_getElem kB⟩;have hxy:=hr k x cv hlx hy;have hokx:=zaE hok hlx;have hdx:=JX hd hlx;refine Qr (Qd (Qm (Qw (zR<|zV (zX ZN hS)<|zV (Qg rfl Zm (fun hg=>by exact zB7 hS hy) rfl)<|Qp YG rfl rfl (fun b_6=>zh Zx<|zN (zR ?_))))));refine zV (Qg rfl Zm (fun hg=>by exact Cells.g0) rfl)<|qcV (vs:=[_]) rfl zme (ih k x hlx hxy kB hokx)<|zM ?_
  refine zE<|zE<|zA<|zA (zN (Qm (zR<|zM<|zO (zN ?_))))
  refine zI ?_ ?_<;>intro hc67
  ·
   simp at hc67
  refine Qr (Qd (Qh (zM ?_)));refine zM<|zV (VG rfl rfl)<|zA (Qb (Qk (Qd (Qh<|zB<|zM (Qb ?_)))))
  exact zm (h:=⟨m-(k+1),kB,k+1,_,rfl,rfl,rfl,rfl,kB,by rw [zcB hlx,hdd];unfold zcU;split<;>omega⟩)
 have hge_k:m≤k:=(by have h:=hc58;simp at h;omega);have hke:l.take k=l:=List.take_of_length_le kB;rw [hke] at hdd;refine Zk (Qo (Qo (Qz (Qd (zR (zM ?_))))));refine zB<|zA<|zA (zN (Qs ?_))
 exact Vq rfl rfl rfl (fun w hw=>⟨by rw [hdd];rfl,(hw.mono hIc).drop⟩)
theorem zoj (d:Nat):∀ x,Va.depth x≤d→zyO x:=by
 induction d with
 | zero=>
  intro x hd I cv hx _ hok
  cases x with
  | int n=>cases hx;exact zfl n
  | text s=>cases hx;exact zc3 _
  | list l=>simp [Va.depth] at hd
 | succ d ih=>
  intro x hd I cv hx h1 hok
  cases x with
  | int n=>cases hx;exact zfl n
  | text s=>cases hx;exact zc3 _
  | list l=>
   cases hx with
   | list hS hl hr=>exact zke hS hl hr (fun k y hy=>ih y (JX (l:=l) (by simp only [Va.depth] at hd;omega) hy)) hok.2 hok.1 (by simp only [Va.depth] at h1;omega)
variable{x:Va}{cv:Vc}
theorem zpx (hx:VaR I x cv)(hd:Va.depth x≤1000)(hok:Va.ok x):ZJ Tryz.prog 248 [.agg (Zg cv).toArray] I (.tuple #[.int .i64 (Va.depth x:Nat),.bool true]):=zoj _ x (Nat.le_refl _) hx hd hok
theorem zzQ (hx:VaR I x cv)(hd:Va.depth x≤16)(hok:Va.ok x):ZJ Tryz.prog 197 [.agg (Zg cv).toArray] I (.int .i64 0):=by
 intro g H w hw;refine qe Tryz.func197 Tryz.ntmps197 hw ?_;have hIc:=zB6 I;refine zR<|QK rfl rfl rfl (fun b_1=>zA<|zN (zR<|zV (Qg rfl Zm (fun hg=>by exact Cells.g0) rfl)<|qcV (vs:=[_]) rfl zme (zpx hx kB hok)<|zM ?_))
 refine zE ?_;refine zE<|zA<|zA (zN (Qm (Qw (zR<|zM<|zO<|zA (zN ?_)))))
 refine zI ?_ ?_<;>intro hc10
 ·
  simp at hc10
 refine zR (zM<|zC<|zA (zN ?_));refine zI ?_ ?_<;>intro hc13
 ·
  simp at hc13;omega
 exact Qr (Qk (Qd (zR (zA (zN (Qs<|Qx rfl rfl (fun w hw=>⟨rfl,(hw.mono hIc).drop⟩)))))))
theorem ztS:Fun Tryz.prog 197:=.of Tryz.func197 kA kA
theorem zgZ:Fun Tryz.prog 198:=.of Tryz.func198 kA kA
theorem zee (hx:VaR I x cv)(hd:Va.depth x≤16)(hok:Va.ok x)(hb:(Va.enc x).length≤900000):YE Tryz.prog 151 [.agg (Zg cv).toArray] I [] (fun v _I' L'=>∃ bv,v= .tuple #[bv,.int .i64 0]∧XB 5 bv (Va.enc x) L'):=by
 intro g H w hw;refine qe Tryz.func151 Tryz.ntmps151 hw ?_;have hIc:=zB6 I;refine zR<|QK rfl rfl rfl (fun b_1=>zA<|zA (zN (Qm (zR<|zV (Qg rfl Zm (fun hg=>by exact Cells.g0) rfl)<|qcV (vs:=[_]) rfl ztS (zzQ hx hd hok) ?_))))
 refine zA<|zN (zR ?_)
 refine zM<|zC (zN ?_)
 refine zI ?_ ?_<;>intro hc8
 ·
  simp at hc8
 refine Qr (Qd (Qm ?_));rcases VaR.cases hx with ⟨n,rfl,rfl⟩ | ⟨s,rfl,rfl⟩ | ⟨l2,a2,m2,c2,rfl,rfl⟩
 focus
  have hD:=zB6 I;refine Zn<|QJ I [(b_1,.cells (Zg ⟨1,n,⟨#[]⟩,none,0,0⟩).toArray 158 (0,0))] mixed<|zT 1 rfl (Qa rfl Zh) hD<|zT 2 rfl (Qc rfl Ql (fun hg=>by exact Qy.h0 rfl)) hD<|zT 7 rfl (Qg rfl Zm (fun hg=>by exact Cells.g0) rfl) hD<|qd 0 rfl<|zpc [] rfl zgZ .nil (Xj I) ?_
  rintro vv1 I1 L1 hI1 ⟨rfl,bw,bp,rfl,hW⟩;have hx:=hx.mono hI1;have hIc:=hIc.trans hI1;have hD:=hD.trans hI1;refine Qb<|zD hD<|zT 3 rfl (QC rfl) hD<|zT 4 rfl (Q8 rfl rfl Ue (fun hg=>by (dsimp only;omega))) hD<|zT 5 rfl (Qa rfl Jt) hD<|qd 6 rfl<|zV (Qc rfl zaq (fun hg=>by exact Qy.imm hW.1 rfl))<|Qb<|zD hD<|qd 8 rfl<|zpc [_,_] rfl zlD .nil (zd7 _ _ (Nat.le_refl _) hW XB.nil hx hok (by simpa using hb)) ?_
 rotate_left
 focus
  have hD:=zB6 I;refine Zn<|QJ I [(b_1,.cells (Zg ⟨2,0,UY s,none,0,0⟩).toArray 158 (0,0))] mixed<|zT 1 rfl (Qa rfl Zh) hD<|zT 2 rfl (Qc rfl Ql (fun hg=>by exact Qy.h0 rfl)) hD<|zT 7 rfl (Qg rfl Zm (fun hg=>by exact Cells.g0) rfl) hD<|qd 0 rfl<|zpc [] rfl zgZ .nil (Xj I) ?_
  rintro vv3 I3 L3 hI3 ⟨rfl,bw,bp,rfl,hW⟩;have hx:=hx.mono hI3;have hIc:=hIc.trans hI3;have hD:=hD.trans hI3;refine Qb<|zD hD<|zT 3 rfl (QC rfl) hD<|zT 4 rfl (Q8 rfl rfl Ue (fun hg=>by (dsimp only;omega))) hD<|zT 5 rfl (Qa rfl Jt) hD<|qd 6 rfl<|zV (Qc rfl zaq (fun hg=>by exact Qy.imm hW.1 rfl))<|Qb<|zD hD<|qd 8 rfl<|zpc [_,_] rfl znC .nil (zd7 _ _ (Nat.le_refl _) hW XB.nil hx hok (by simpa using hb)) ?_
 rotate_left
 have hD:=zB6 I;refine Zn<|QJ I [(b_1,.cells (Zg ⟨3,0,⟨#[]⟩,a2,m2,c2⟩).toArray 158 (0,0))] mixed<|zT 1 rfl (Qa rfl Zh) hD<|zT 2 rfl (Qc rfl Ql (fun hg=>by exact Qy.h0 rfl)) hD<|zT 7 rfl (Qg rfl Zm (fun hg=>by exact Cells.g0) rfl) hD<|qd 0 rfl<|zpc [] rfl zgZ .nil (Xj I) ?_
 rintro vv5 I5 L5 hI5 ⟨rfl,bw,bp,rfl,hW⟩;have hx:=hx.mono hI5;have hIc:=hIc.trans hI5;have hD:=hD.trans hI5;refine Qb<|zD hD<|zT 3 rfl (QC rfl) hD<|zT 4 rfl (Q8 rfl rfl Ue (fun hg=>by (dsimp only;omega))) hD<|zT 5 rfl (Qa rfl Jt) hD<|qd 6 rfl<|zV (Qc rfl zaq (fun hg=>by exact Qy.imm hW.1 rfl))<|Qb<|zD hD<|qd 8 rfl<|KU (cap:=[ZI bp]) (vs:=[_,_]) rfl rfl znB .nil (zd7 _ _ (Nat.le_refl _) hW XB.nil hx hok (by simpa using hb)) rfl rfl ?_
 all_goals
  rintro vv6 I6 L6 hI6 ⟨rfl,hO2⟩;have hIc:=hIc.trans hI6;have hD:=hD.trans hI6;exact Qb<|zD hD<|zT 9 rfl (QB rfl) hD<|zT 10 rfl (QB rfl) hD<|Qn kA<|Qv<|Qd (Qs<|Vq rfl rfl rfl (fun w hw=>⟨_,I6,_,rfl,hIc,hw.subL (by exact QL),_,rfl,by simpa using hO2⟩))
structure Sg where
 id:Int
 role:Int
 bar:Int
 mark:Int
 kind:Int
 side:Int
 dir:Int
 level:Int
 size:Int
 wth:Int
 fn:Int
 fd:Int
 tn:Int
 td:Int
def zgr (x:Sg):List Value:=[.int .i64 x.id,.int .i64 x.role,.int .i64 x.bar,.int .i64 x.mark,.int .i64 x.kind,.int .i64 x.side,.int .i64 x.dir,.int .i64 x.level,.int .i64 x.size,.int .i64 x.wth,.int .i64 x.fn,.int .i64 x.fd,.int .i64 x.tn,.int .i64 x.td]
def W6 (x:Sg):Value:=.agg (zgr x).toArray
def Kb:Sg:=⟨0,0,0,0,0,0,0,0,0,0,0,0,0,0⟩
theorem zhY (x:Sg):(zgr x).length=14:=rfl
def zkl (x y:Sg):Bool:=x.id==y.id&&(x.role==y.role&&(x.bar==y.bar&&(x.mark==y.mark&&(x.kind==y.kind&&(x.side==y.side&&(x.dir==y.dir&&(x.level==y.level&&(x.size==y.size&&(x.wth==y.wth&&(x.fn==y.fn&&(x.fd==y.fd&&(x.tn==y.tn&&(x.td==y.td&&true)))))))))))))
theorem zbw {x y:Sg}:zkl x y=true↔x=y:=by
 obtain ⟨a1,a2,a3,a4,a5,a6,a7,a8,a9,a10,a11,a12,a13,a14⟩:=x;obtain ⟨b1,b2,b3,b4,b5,b6,b7,b8,b9,b10,b11,b12,b13,b14⟩:=y;simp [zkl]
instance : DecidableEq Sg := fun a b => decidable_of_iff (zkl a b = true) zbw
structure Pt where
 id:Int
 kind:Int
 sign:Int
 field:Int
 nw:Sg
 a:Option Addr
 n:Nat
 c:Nat
 needs:List Int
def Xu (p:Pt):List Value:=[.int .i64 p.id,.int .i64 p.kind,.int .i64 p.sign,.int .i64 p.field,.int .i64 p.nw.id,.int .i64 p.nw.role,.int .i64 p.nw.bar,.int .i64 p.nw.mark,.int .i64 p.nw.kind,.int .i64 p.nw.side,.int .i64 p.nw.dir,.int .i64 p.nw.level,.int .i64 p.nw.size,.int .i64 p.nw.wth,.int .i64 p.nw.fn,.int .i64 p.nw.fd,.int .i64 p.nw.tn,.int .i64 p.nw.td,.slice p.a p.n p.c]
def Uf (p:Pt):Value:=.agg (Xu p).toArray
theorem XC (x:Pt):(Xu x).length=19:=rfl
def JD:Pt:=⟨0,0,0,0,Kb,none,0,0,[]⟩
def Nd (I:Qu)(p:Pt):Prop:=Sl I 1 Z5 p.a p.n p.c p.needs
variable{I':Qu}{p:Pt}
theorem Nd.mono (h:Nd I p)(hI:HLe I I'):Nd I' p:=Sl.mono h hI
def SlP (I:Qu)(av:Option Addr)(n c:Nat)(ps:List Pt):Prop:=Sl I 19 Xu av n c ps∧∀ p∈ps,Nd I p
variable{av:Option Addr}{n:Nat}{ps:List Pt}
theorem SlP.mono (h:SlP I av n c ps)(hI:HLe I I'):SlP I' av n c ps:=⟨h.1.mono hI,fun p hp=>(h.2 p hp).mono hI⟩
theorem SlP.len (h:SlP I av n c ps):ps.length=n:=h.1.len
variable{k:Nat}
theorem SlP.at (h:SlP I av n c ps)(hk:k<n):∃ p,ps[k]? =some p∧Nd I p:=by
 obtain ⟨p,hp⟩:=h.1.at hk;exact ⟨p,hp,h.2 p (List.mem_of_getElem? hp)⟩
def zcR (n:Int):Int:=if n<0 then 0-n else n
def zoz (a b:Int):Int:=(Int.gcd a b:Int)
def WE (n d:Int):Bool:= !(((((decide (d<1)||decide (d>1073741824))||decide (n< -1073741824))||decide (n>1073741824))||(zoz n d != 1)))
def zcL (fn fd tn td:Int):Bool:=(WE fn fd&&WE tn td)&&(decide (fn*td<tn*fd)&&(decide (fn≥0)&&decide (tn≤td)))
/-! ### Signs -/
def zAB (k:Sg):Bool:=within k.id 0 1048576&&within k.role 0 63&&within k.bar 0 4095&&within k.kind 1 9&&within k.mark 1 3&&within k.side 0 2&&within k.dir 0 8&&within k.level 0 3&&within k.size 0 255&&within k.wth 0 64
def frm (k:Sg):Bool:=zAB k&&zcL k.fn k.fd k.tn k.td
def skP (xs:List Sg)(i:Nat):Bool:= !(!frm (xs.getD i Kb)||(decide ((i:Int)>0)&&decide ((xs.getD ((i:Int)-1).toNat Kb).id≥(xs.getD i Kb).id)))
def skB (xs:List Sg):Bool:=(List.range xs.length).all (skP xs)
def zj0 (xs:List Sg):Int:=if xs.length>4096 then 2 else if skB xs then 0 else 360
/-! ### Patches -/
def Uj (x:Sg)(f:Int)(y:Sg):Sg:=
 if f=1 then {x with role:=y.role} else if f=2 then {x with bar:=y.bar} else if f=3 then {x with mark:=y.mark} else if f=4 then {x with side:=y.side} else if f=5 then {x with dir:=y.dir}
 else if f=6 then {x with level:=y.level} else if f=7 then {x with size:=y.size} else if f=8 then {x with wth:=y.wth} else if f=9 then {x with fn:=y.fn,fd:=y.fd,tn:=y.tn,td:=y.td} else x
def zfe:Sg:=⟨0,0,0,3,9,0,0,0,0,0,0,1,1,2⟩
def zfU:Sg:=⟨0,0,0,1,1,0,0,0,0,0,0,1,1,1⟩
def ndP (id:Int)(v:List Int)(i:Nat):Bool:= !((decide (v.getD i 0<1)||decide (v.getD i 0≥id))||(decide ((i:Int)>0)&&decide (v.getD i 0≤v.getD ((i:Int)-1).toNat 0)))
def ndB (id:Int)(v:List Int):Bool:=(List.range v.length).all (ndP id v)
def idB (p:Pt):Bool:=(decide (p.id≥1)&&decide (p.id≤1048576))&&(decide (p.sign≥0)&&decide (p.sign≤1048576))
def U7 (p:Pt):Bool:=
 if p.kind=1 then within p.field 1 9&&(zkl (Uj p.nw p.field Kb) Kb&&frm (Uj zfe p.field p.nw))
 else if p.kind=2 then p.field==0&&(p.nw.id==p.sign&&frm p.nw)
 else if p.kind=3 then p.field==0&&zkl p.nw Kb else false
def Uk (p:Pt):Int:=if p.needs.length>32 then 2 else if ndB p.id p.needs&&(idB p&&U7 p) then 0 else 370
end
end Go.Proofs.YtjblkbkmblkgoaaGreat
section
namespace Go.Proofs.YtjblkbkmblkgoaaGreat
open Go Go.Kn Go.Proofs
structure Lm where
 no:Int
 person:Int
 ends:Int
 lo:Int
 hi:Int
 known:Int
 ck:Int
 cl:Int
 cn:Int
def Zz (x:Lm):List Value:=[.int .i64 x.no,.int .i64 x.person,.int .i64 x.ends,.int .i64 x.lo,.int .i64 x.hi,.int .i64 x.known,.int .i64 x.ck,.int .i64 x.cl,.int .i64 x.cn]
def JA (x:Lm):Value:=.agg (Zz x).toArray
theorem Js (x:Lm):(Zz x).length=9:=rfl
theorem zrW (xs:List Lm):Y4 (xs.flatMap Zz)=true:=YR (fun _=>rfl) xs
def VU:Lm:=⟨0,0,0,0,0,0,0,0,0⟩
def zAp (x y:Lm):Bool:=x.no==y.no&&(x.person==y.person&&(x.ends==y.ends&&(x.lo==y.lo&&(x.hi==y.hi&&(x.known==y.known&&((x.ck==y.ck&&(x.cl==y.cl&&(x.cn==y.cn&&true)))&&true))))))
theorem zpV {x y:Lm}:zAp x y=true↔x=y:=by
 obtain ⟨a1,a2,a3,a4,a5,a6,a7,a8,a9⟩:=x;obtain ⟨b1,b2,b3,b4,b5,b6,b7,b8,b9⟩:=y;simp [zAp]
instance : DecidableEq Lm := fun a b => decidable_of_iff (zAp a b = true) zpV
def VR (n lo hi:Int):Bool:=decide (lo≤n)&&decide (n≤hi)
def zg4 (lo hi:Int)(xs:List Int):Bool:=xs.all fun n=> !(decide (n<lo)||decide (n>hi))
theorem XA (lo hi n:Int):zg4 lo hi [n]=VR n lo hi:=by
 simp only [zg4,List.all_cons,List.all_nil,Bool.and_true,VR];rw [Bool.eq_iff_iff];simp
def zAo:List (Int×Int×Int):=[(0,0,0),(1,3,2),(1,1048576,2),(1,16,0),(0,16,0),(0,500,0),(0,1048576,0)]
def XU (k:Int):Int×Int×Int:=zAo.getD k.toNat (0,0,0)
def zgt (ck cl cn:Int):Bool:=if VR ck 1 6 then (if VR cl 0 (XU ck).2.2 then VR cn (XU ck).1 (XU ck).2.1 else false) else false
theorem zmw {ck cl cn:Int}(h:VR ck 1 6=false):zgt ck cl cn=false:=by unfold zgt;rw [h];rfl
theorem zn2 {ck cl cn:Int}(h:VR ck 1 6=true)(h2:VR cl 0 (XU ck).2.2=false):zgt ck cl cn=false:=by unfold zgt;rw [h,h2];rfl
theorem zpd {ck cl cn:Int}(h:VR ck 1 6=true)(h2:VR cl 0 (XU ck).2.2=true):zgt ck cl cn=VR cn (XU ck).1 (XU ck).2.1:=by unfold zgt;rw [h,h2];rfl
theorem six {ck:Int}(h:VR ck 1 6=true):ck=1∨ck=2∨ck=3∨ck=4∨ck=5∨ck=6:=by
 simp only [VR,Bool.and_eq_true,decide_eq_true_eq] at h;omega
def knM (pre:List Lm):List (Int×Lm):=pre.foldl (fun m y=>JB m y.no y) []
def rpM (pre:List Lm):List (Int×Bool):=pre.foldl (fun m y=>JB m y.ends true) []
def W9 (pre:List Lm):Int:=match pre.getLast? with | none=> -1 | some y=>y.no
theorem WH (pre:List Lm)(x:Lm):knM (pre++[x])=JB (knM pre) x.no x:=by simp [knM]
theorem WD (pre:List Lm)(x:Lm):rpM (pre++[x])=JB (rpM pre) x.ends true:=by simp [rpM]
theorem KC (pre:List Lm)(x:Lm):W9 (pre++[x])=x.no:=by simp [W9]
def zjt (pre:List Lm)(x:Lm):Option Lm:=ZQ (knM pre) (IntKind.i64.wrap (x.ends-1))
def zqR (last:Int)(x:Lm):Bool:=(decide (x.no≤last)||decide (x.no>1048576))|| !VR x.person 0 63
def zo4 (x:Lm):Bool:=((decide (x.lo<0)||decide (x.lo>x.hi))||decide (x.hi>73048))|| !VR x.known 0 134217727
def zo6 (x:Lm):Bool:= !zgt x.ck x.cl x.cn&&(!(x.ck==0&&(x.cl==0&&(x.cn==0&&true)))||x.ends==0)
def zvP (met rep:Bool)(old x:Lm):Bool:=(x.ends != 0)&&(((!met||rep)||old.person != x.person)||decide (old.known>x.known))
def zcP (pre:List Lm)(x:Lm):Bool:=zqR (W9 pre) x||zo4 x||zo6 x||zvP (zjt pre x).isSome ((ZQ (rpM pre) x.ends).getD false) ((zjt pre x).getD VU) x
def zg7 (xs:List Lm):Int:=if xs.length>512 then 2 else if (List.range xs.length).any (fun k=>zcP (xs.take k) (xs.getD k VU)) then 340 else 0
end Go.Proofs.YtjblkbkmblkgoaaGreat
namespace Go.Proofs.YtjblkbkmblkgoaaGreat
open Go Go.Kn Go.Proofs
def zjY (v:Value):List Value:=[v]
theorem zk4 (v:Value):(zjY v).length=1:=rfl
section
variable {α β:Type} [DecidableEq α] {C:Cx} {E:Env} {I:Qu} {loc:Go.Kn.Loc} {S:GS} {dst:Option Tmp} {ty:TypeId} {pos:String} {af:Array Edge} {gd:Option (Nat×Bool)} {x y:Operand} {m:List (α×β)} {a:α} {ek:α→Value} {ev:β→Value}
theorem zfR {t k e r:Nat}{zv:Value}(z v:β)(b:Bool)(hz:ev z=zv)(hv:(ZQ m a).getD z=v)(hb:(ZQ m a).isSome=b)(hT:MpT C.P t k e zv)(hK:KP C.P k ek)(hx:QH S E x=some (.map (some r)))(hy:QH S E y=some (ek a))(hm:Yq S=true→Mem I loc r (YH ek ev m)):
  QZ C S E I loc ⟨dst,.lookup t x y true,ty,pos,af,gd⟩ (.tuple #[ev v,.bool b]):=by
 have:=Z7 (C:=C) (S:=S) (dst:=dst) (ty:=ty) (pos:=pos) (af:=af) (gd:=gd) hT hK hx hy hm;subst hv;subst hb;subst hz
 cases h:ZQ m a with
 | none=>rw [h] at this;exact this
 | some v=>rw [h] at this;exact this
end
theorem ziD {xs:List Lm}(h:xs.length>512):zg7 xs=2:=by unfold zg7;rw [if_pos h]
theorem Je {xs:List Lm}{k:Nat}{x:Lm}(h:¬xs.length>512)(hx:xs[k]? =some x)(hb:zcP (xs.take k) x=true):zg7 xs=340:=by
 unfold zg7;rw [if_neg h,if_pos];rw [List.any_eq_true];refine ⟨k,List.mem_range.2 (List.getElem?_eq_some_iff.1 hx).1,?_⟩;rw [List.getD_eq_getElem?_getD,hx];exact hb
theorem zkH {xs:List Lm}(h:¬xs.length>512)(ha:∀ k x,k<xs.length→xs[k]? =some x→zcP (xs.take k) x=false):zg7 xs=0:=by
 unfold zg7;rw [if_neg h,if_neg];rw [List.any_eq_true];rintro ⟨k,hk,hb⟩;have hk:=List.mem_range.1 hk;have hx:xs[k]? =some (xs[k]):=List.getElem?_eq_getElem hk;have:=ha k _ hk hx;rw [List.getD_eq_getElem?_getD,hx] at hb;rw [show ((some xs[k]:Option Lm).getD VU)=xs[k] from rfl,this] at hb;cases hb
theorem zyi {pre:List Lm}{x:Lm}(h:zqR (W9 pre) x=true):zcP pre x=true:=by simp [zcP,h]
theorem zy6 {pre:List Lm}{x:Lm}(h:zo4 x=true):zcP pre x=true:=by simp [zcP,h]
theorem zwV {pre:List Lm}{x:Lm}(h:zo6 x=true):zcP pre x=true:=by simp [zcP,h]
theorem zyd {pre:List Lm}{x:Lm}(h:zvP (zjt pre x).isSome ((ZQ (rpM pre) x.ends).getD false) ((zjt pre x).getD VU) x=true):zcP pre x=true:=by simp [zcP,h]
theorem zt2 {pre:List Lm}{x:Lm}(h1:zqR (W9 pre) x=false)(h2:zo4 x=false)(h3:zo6 x=false)(h4:zvP (zjt pre x).isSome ((ZQ (rpM pre) x.ends).getD false) ((zjt pre x).getD VU) x=false):zcP pre x=false:=by simp [zcP,h1,h2,h3,h4]
theorem Zs {α:Type}{xs:List α}{k:Nat}{x:α}(h:xs[k]? =some x):xs.take (k+1)=xs.take k++[x]:=by rw [List.take_add_one,h];rfl
theorem Vo {α:Type}{P:Nat→α→Prop}{xs:List α}{k:Nat}{x:α}(hx:xs[k]? =some x)(hall:∀ j y,j<k→xs[j]? =some y→P j y)(hk:P k x):∀ j y,j<k+1→xs[j]? =some y→P j y:=fun j y hj hy=>by
 rcases Nat.lt_or_ge j k with h | h
 ·
  exact hall j y h hy
 ·
  obtain rfl:j=k:=kB;rw [hx] at hy;cases hy;exact hk
end Go.Proofs.YtjblkbkmblkgoaaGreat
end
namespace Go.Kn
section
open Go
section
variable {g:World} {I I' H:Qu} {loc loc' L K A B:Loc} {w w':World}
theorem St.join2 (h:St g I (Kh H L) K w)(hn:(L.map (·.1)).Nodup)(hd:∀ b o,(b,o)∈L→H b=none):St g I H (K++L) w:=by
 have h':=h.swap hn hd;have hK:∀ b o,(b,o)∈K→H b=none:=fun b o hm=>(Wr (h.sepIL b o hm).2).1;refine ⟨h.os,h.tape,h.out,h.size,h.imm,fun b o e=>?_,fun b o hm=>?_,fun b=>?_,fun b o hm=>?_,?_⟩
 ·
  refine h.frm b o ?_;rw [Xw (fun p hp=>by rw [hd b p hp] at e;cases e)];exact e
 ·
  rcases List.mem_append.1 hm with hm | hm
  ·
   exact h.own b o hm
  ·
   exact h'.own b o hm
 ·
  rcases h.sepIH b with e | e
  ·
   exact .inl e
  ·
   exact .inr (Wr e).1
 ·
  rcases List.mem_append.1 hm with hm | hm
  ·
   exact ⟨(h.sepIL b o hm).1,hK b o hm⟩
  ·
   exact ⟨(h'.sepIL b o hm).1,hd b o hm⟩
 ·
  rw [List.map_append,List.nodup_append];refine ⟨h.nodup,hn,fun x hx y hy e=>?_⟩;subst e;obtain ⟨⟨b,o⟩,hm,rfl⟩:=List.mem_map.1 hx;obtain ⟨⟨c,p⟩,hm',e⟩:=List.mem_map.1 hy;simp only at e;subst e;exact (Wr (h.sepIL _ _ hm).2).2 p hm'
theorem St.permL (h:St g I H loc w)(hp:loc'.Perm loc):St g I H loc' w:=h.perm (fun _p=>hp.mem_iff) ((hp.map (·.1)).nodup_iff.2 h.nodup)
end
theorem zc4 {A B C:Loc}(h:Kk B C):Kk (A++B) (A++C):=by
 induction A with
 | nil=>exact h
 | cons x l ih=>exact .keep ih
def zlR {α:Type}(g:World)(Z:Loc)(Jc:List α→Qu→Qu→Loc→Prop)(Jx:Code→List α→Qu→Qu→Loc→Prop)(pre:List α):Exit→Act→World→Prop
 | .normal,_,w=>∃ I H L,Jc pre I H L∧St g I H (L++Z) w
 | .ret,_,w=>∃ I H L,Jx .ret pre I H L∧St g I H (L++Z) w
 | .exit id,_,w=>∃ I H L,Jx (.exit id) pre I H L∧St g I H (L++Z) w
 | _,_,_=>False
section
variable {α:Type} {C:Cx} {Q:Exit→Act→World→Prop} {E E':Env} {I I':Qu} {loc loc' L Z R:Loc}
variable {Jc:List α→Qu→Qu→Loc→Prop} {Jx:Code→List α→Qu→Qu→Loc→Prop} {pre:List α}
theorem zgf (h:Jc pre I C.H L)(hs:Kk (L++Z) loc):At C (zlR C.g Z Jc Jx pre) .normal E I loc:=fun _ _ _ hw=>⟨I,C.H,L,h,hw.subL hs⟩
end
section
variable {α:Type} {P:Program} {N:Nat} {g:World} {p:Nat} {assign body:Code} {f:FuncId} {cap:List Value} {rel:Value→α→Qu→Prop} {xs:List α} {E:Env} {I H:Qu} {L B:Loc}
def zx0 (fn:FuncId)(tmps:Array Value)(p:Nat)(assign body:Code)(df:Nat)(st:LoopState)(pd:Option Code):Obj:=.loop {state:=st,pending:=pd,fn,tmps,params:= #[p],assign,body,defers:=df}
end
section
variable {α:Type} {P:Program} {N:Nat} {g:World} {H:Qu} {Q:Exit→Act→World→Prop} {gop:Operand} {p:Nat} {assign body:Code} {f:FuncId} {cap:List Value} {rel:Value→α→Qu→Prop} {xs:List α} {E:Env} {I:Qu} {L:Loc}
end
/-! ### A loop whose rounds may leave marks and turn the frame -/
section
variable {P:Program} {r:Option Nat} {N:Nat} {g:World} {H:Qu} {Q:Exit→Act→World→Prop} {E E':Env} {I I':Qu} {loc loc' L R:Loc} {ms:List Nat}
end
section
variable {C:Cx} {Q:Exit→Act→World→Prop} {E G:Env} {I I' I0:Qu} {loc loc' loc0 L R:Loc} {ops:Array Oper} {rest:List Oper} {S:GS}
variable {dst:Option Nat} {d:Nat} {ty:TypeId} {pos:String} {af:Array Edge} {gd:Option (Nat×Bool)} {x y z:Operand} {a b c:Int}
def zj2 (u:Value)(want:Bool):Bool:=match u with | .bool b=>b != want | _=>true
theorem zbT {j dj:Nat}{want:Bool}{oj o:Oper}{u:Value}{N:Nat}{D:List Deferred}{a:Act}(hg:o.guard=some (j,want))(hj:ops[j]? =some oj)(hd:oj.dst=some dj)(ha:Uh N D E a)(hl:VT E dj=some u)(hu:zj2 u want=true):Region.wanted o (yielded ops a.tmps)=false:=by
 have h:=ha.env _ _ hl;simp only [Region.wanted,hg]
 cases u with
 | bool b0=>
  rw [Wi hj hd h];cases b0<;>cases want<;>first | rfl | cases hu
 | _=>
  have hy:yielded ops a.tmps j=none:=by
   unfold yielded;simp only [hj,Option.bind_some,hd]
   cases e:a.tmps[dj]? with
   | none=>rfl
   | some v=>
    simp [e] at h;rw [h]
  rw [hy];rfl
theorem Yc {op:Op}{j dj:Nat}{want:Bool}{oj:Oper}{u:Value}(hj:ops[j]? =some oj)(hd:oj.dst=some dj)(hl:VT E dj=some u)(hu:zj2 u want=true)(hN:Nat.blt d C.N=true)
  (h:XO C Q ops rest [] ((d,undef)::E) I loc):XO C Q ops (⟨some d,op,ty,pos,af,some (j,want)⟩::rest) [] E I loc:=by
 intro a w ha hg hw;simp only [wpListIn];rw [zbT (o:=⟨some d,op,ty,pos,af,some (j,want)⟩) rfl hj hd ha hl hu];simp only [Bool.false_eq_true,if_false];exact ⟨fun _ _=>trivial,h _ _ (ha.put hN undef) trivial hw⟩
theorem zph (i:Nat){j dj fuel:Nat}{want:Bool}{oj:Oper}{listed:Array Bool}{op:Op}{u:Value}(hi:ops[i]? =some ⟨some d,op,ty,pos,af,some (j,want)⟩)(hj:ops[j]? =some oj)(hd:oj.dst=some dj)(hlk:VT E dj=some u)(hu:zj2 u want=true)
  (hdf:∀ c,op≠ .defer c)(hN:Nat.blt d C.N=true)
  (hs:Region.noSelect ops=true)(hfr:Region.free .any ops listed i=true)(hr:(Region.ready .any ops listed).contains i=true)(hQ:Yo Q)(hI:HLe I0 I)(hl:Kk loc0 loc)
  (h:XD C Q ops I0 loc0 fuel (listed.setIfInBounds i true) [] ((d,undef)::E) I loc):XD C Q ops I0 loc0 (fuel+1) listed [] E I loc:=by
 intro a w ha hg hw;have hp:=ha.put hN undef;exact Vl (v:=undef) hi hdf (Region.noSelect_spec hs) (fun c a w=>hQ c a d _ w) fuel listed a w (Region.free_spec hi hfr) (by simpa using hr) (.inr ⟨by rw [zbT (o:=⟨some d,op,ty,pos,af,some (j,want)⟩) rfl hj hd ha hlk hu],rfl⟩) ((hw.mono hI).subL hl) (h _ _ hp trivial hw)
theorem zW (i dj:Nat){j fuel:Nat}{want:Bool}{oj:Oper}{listed:Array Bool}{op:Op}{u:Value}(hI:HLe I0 I)(h:XD C Q ops I0 loc0 fuel (listed.setIfInBounds i true) [] ((d,undef)::E) I loc)(hi:ops[i]? =some ⟨some d,op,ty,pos,af,some (j,want)⟩:=by exact rfl)(hj:ops[j]? =some oj:=by exact rfl)(hd:oj.dst=some dj:=by exact rfl)(hlk:VT E dj=some u:=by exact rfl)(hu:zj2 u want=true:=by exact rfl)
  (hdf:∀ c,op≠ .defer c:=by (intro c e;cases e))(hN:Nat.blt d C.N=true:=by exact rfl)(hs:Region.noSelect ops=true:=by kernel_rfl)(hfr:Region.free .any ops listed i=true:=by kernel_rfl)(hr:(Region.ready .any ops listed).contains i=true:=by kernel_rfl)(hQ:Yo Q:=by first | exact JW | (repeat (first | exact UX | with_reducible refine UV ?_ | with_reducible refine Kv ?_)))(hl:Kk loc0 loc:=by repeat (first | exact .refl | exact Qq | refine .keep ?_ | refine .drop ?_ | refine QR ?_)):XD C Q ops I0 loc0 (fuel+1) listed [] E I loc:=zph i hi hj hd hlk hu hdf hN hs hfr hr hQ hI hl h
end
end
end Go.Kn
namespace Go.Proofs.YtjblkbkmblkgoaaGreat
section
open Go Go.Kn Go.Proofs
theorem zhI:AgT Tryz.prog 224 4:=.of kA
theorem zuj:AgT Tryz.prog 225 28:=.of kA
theorem zeP:ArT Tryz.prog 225 7 224 4:=.of kA
theorem znF:QM Tryz.prog 224 1 1:=.of kA
theorem zmF:QM Tryz.prog 224 2 2:=.of kA
theorem zfY:QM Tryz.prog 224 3 3:=.of kA
theorem X5:QM Tryz.prog 30 0 0:=.of kA
theorem JS:QM Tryz.prog 30 1 1:=.of kA
theorem Kt:QM Tryz.prog 30 2 2:=.of kA
theorem zd5:Fun Tryz.prog 158:=.of Tryz.func158 kA kA
theorem zoR:Fun Tryz.prog 159:=.of Tryz.func159 kA kA
theorem zaf:PlT Tryz.prog 224 #[(0,1),(1,1),(2,1),(3,1)] (.agg #[.nilFunc,(.int .i64 0),(.int .i64 0),(.int .i64 0)]):=⟨.of kA,kA,fun w=>kA⟩
theorem zhv:SzT Tryz.prog 224 4:=.of kA
theorem zv8:SzT Tryz.prog 225 28:=.of kA
theorem zma:Vv Tryz.prog 224 (.agg #[.nilFunc,(.int .i64 0),(.int .i64 0),(.int .i64 0)]):=.of kA
theorem zsg:Vv Tryz.prog 225 (.agg #[.nilFunc,(.int .i64 0),(.int .i64 0),(.int .i64 0),.nilFunc,(.int .i64 0),(.int .i64 0),(.int .i64 0),.nilFunc,(.int .i64 0),(.int .i64 0),(.int .i64 0),.nilFunc,(.int .i64 0),(.int .i64 0),(.int .i64 0),.nilFunc,(.int .i64 0),(.int .i64 0),(.int .i64 0),.nilFunc,(.int .i64 0),(.int .i64 0),(.int .i64 0),.nilFunc,(.int .i64 0),(.int .i64 0),(.int .i64 0)]):=.of kA
variable{I:Qu}{av:Option Addr}{xs:List Int}
theorem zdM {n c:Nat}(hS:Sl I 1 Z5 av n c xs)(hn:n≤100000)(lo hi:Int):ZJ Tryz.prog 158 [.int .i64 lo,.int .i64 hi,.slice av n c] I (.bool (zg4 lo hi xs)):=by
 intro g H w hw;refine qe Tryz.func158 Tryz.ntmps158 hw ?_;have hln:=hS.len;refine zR (zA (zN (Qm (zR ?_))));refine zM<|zQ Zb<|zM (zN (Qw ?_))
 refine zU [(0,_),(1,_),(9,_),(10,_)] (fun T L0 mz E I' loc'=>∃ (k:Nat),mz=n-k∧E=(11,.int .i64 k)::T∧I=I'∧L0=loc'∧k≤n∧zg4 lo hi (xs.take k)=true) ?_ (h:=⟨0,rfl,rfl,rfl,rfl,Nat.zero_le _,rfl⟩);rintro mz E I' loc' ⟨k,rfl,rfl,rfl,rfl,hk,hall⟩;refine zR (zC (zN (Qm ?_)));refine zI ?_ ?_<;>intro hc12
 ·
  have hlt_k:k<n:=(by have h:=hc12;simp at h;omega);obtain ⟨x,hx⟩:∃ x,xs[k]? =some x:=⟨_,List.getElem?_eq_getElem kB⟩;refine Qr (Qd (Qm (Qw (zR<|zV (zX Zb hS)<|zV (Qc rfl Ql (fun hg=>by exact zBZ hS hx rfl))<|zA<|zN (zR ?_)))));refine zM ?_;refine zM<|zC<|zM<|QI 3 rfl rfl rfl ?_
  refine zJ (Qe rfl) ?_;refine zJ (Qe rfl)<|zJ (QA rfl rfl rfl)<|Q9 rfl rfl rfl rfl rfl<|zN ?_
  refine zI ?_ ?_<;>intro hc22
  ·
   refine zR (zA (zN (Qs (Qi (Qf (Qf (Qi<|Qf ?_)))))))
   first
   | exact zr rfl rfl (by rw [show zg4 lo hi xs=false from by unfold zg4;rw [←List.take_append_drop (k+1) xs,List.all_append,List.take_add_one,hx,List.all_append];simp only [Option.toList,List.all_cons,List.all_nil];rw [show (decide (x<lo)||decide (x>hi))=true from hc22];simp])
  refine Qr (Qk (Qd (Qh (zB<|zM (Qb ?_)))));exact zm (h:=⟨n-(k+1),kB,k+1,rfl,rfl,rfl,rfl,kB,by unfold zg4 at hall ⊢;rw [List.take_add_one,hx,List.all_append,hall];simp only [Option.toList,List.all_cons,List.all_nil,Bool.and_true,Bool.true_and];rw [show (decide (x<lo)||decide (x>hi))=false from hc22];rfl⟩)
 have hge_k:n≤k:=(by have h:=hc12;simp at h;omega);have hke:xs.take k=xs:=List.take_of_length_le kB;rw [hke] at hall;exact Zk (Qo (Qo (Qz (Qd (zR (zA (zN<|Qs<|zr rfl rfl (by rw [hall]))))))))
def zfp:List Value:=[.nilFunc,.int .i64 0,.int .i64 0,.int .i64 0,.func (.func 210) #[] #[],.int .i64 1,.int .i64 3,.int .i64 2,.func (.func 211) #[] #[],.int .i64 1,.int .i64 1048576,.int .i64 2,.func (.func 212) #[] #[],.int .i64 1,.int .i64 16,.int .i64 0,.func (.func 213) #[] #[],.int .i64 0,.int .i64 16,.int .i64 0,.func (.func 214) #[] #[],.int .i64 0,.int .i64 500,.int .i64 0,.func (.func 215) #[] #[],.int .i64 0,.int .i64 1048576,.int .i64 0]
variable{ck:Int}
theorem zqI (h:VR ck 1 6=true):∃ fn:Nat,((zfp.drop (ck.toNat*4)).take 4)=[.func (.func fn) #[] #[],.int .i64 (XU ck).1,.int .i64 (XU ck).2.1,.int .i64 (XU ck).2.2]:=by
 rcases six h with rfl | rfl | rfl | rfl | rfl | rfl<;>exact ⟨_,rfl⟩
theorem znW (I:Qu):ZJ Tryz.prog 159 [] I (.agg zfp.toArray):=by
 intro g H w hw;refine qe Tryz.func159 Tryz.ntmps159 hw ?_;refine zR<|Qp zsg rfl rfl (fun b_0=>zN (zR ?_))
 refine zV (QD (ps:=[(0,_),(1,_),(2,_),(3,_)]) [_,_,_,_] zaf rfl rfl) ?_;refine zV (QD (ps:=[(0,_),(1,_),(2,_),(3,_)]) [_,_,_,_] zaf rfl rfl) ?_;refine zV (QD (ps:=[(0,_),(1,_),(2,_),(3,_)]) [_,_,_,_] zaf rfl rfl) ?_;refine zV (QD (ps:=[(0,_),(1,_),(2,_),(3,_)]) [_,_,_,_] zaf rfl rfl) ?_;refine zV (QD (ps:=[(0,_),(1,_),(2,_),(3,_)]) [_,_,_,_] zaf rfl rfl) ?_;refine zV (QD (ps:=[(0,_),(1,_),(2,_),(3,_)]) [_,_,_,_] zaf rfl rfl) ?_;refine zV (VH (ps:=[(1,_),(2,_),(3,_),(4,_),(5,_),(6,_)]) [_,_,_,_,_,_,_,_,_,_,_,_,_,_,_,_,_,_,_,_,_,_,_,_,_,_,_,_] zeP zsg rfl rfl) ?_;exact zh zv8<|zN (Qs<|ZM rfl rfl zuj Cells.g0 rfl (fun w hw=>⟨rfl,hw.drop⟩))
theorem zyV (I:Qu)(ck cl cn:Int):ZJ Tryz.prog 93 [.agg #[.int .i64 ck,.int .i64 cl,.int .i64 cn]] I (.bool (zgt ck cl cn)):=by
 intro g H w hw;refine qe Tryz.func93 Tryz.ntmps93 hw ?_;have hIc:=zB6 I;refine zR<|QK rfl rfl rfl (fun b_1=>zA (zN (Qm (zR<|zF X5 ?_))))
 refine zL Ql ?_;refine zpb [(0,_)] [Z5 ck] Vh (fun b_6=>QV (by repeat (first | exact Z1.here | apply Z1.there)) (fun I1 hI1 hb1=>?_));have hIc:=hIc.trans hI1;have hA:=Sl.lit ([ck]:List Int) rfl YL (show I1 b_6=some (Obj.cells (([ck]:List Int).flatMap Z5).toArray 3 (0,0)) from hb1);refine qcV (vs:=[_,_,_]) rfl zd5 (zdM hA kJ 1 6) ?_;rw [XA];refine zO (zN ?_);refine zI ?_ ?_<;>intro hc8
 ·
  have hck:VR ck 1 6=false:=(by simpa using hc8);exact zR (zA (zN (Qs (Qf<|zp hIc rfl rfl (by rw [zmw hck])))))
 have hck:VR ck 1 6=true:=(by simpa using hc8);obtain ⟨fn,hrow⟩:=zqI hck;have h16:=six hck;refine Qr (Qd ?_);refine zY [(1,_)] (fun T L0 E I' loc'=>∃ (p3:Nat),E=(3,ZI p3)::T∧I1=I'∧[(p3,.cells #[.func (.func fn) #[] #[],.int .i64 (XU ck).1,.int .i64 (XU ck).2.1,.int .i64 (XU ck).2.2] 224 (0,0)),(b_1,.cells #[.int .i64 ck,.int .i64 cl,.int .i64 cn] 30 (0,0))]=loc'∧True) ?_ ?_
 ·
  have hD:=zB6 I1;refine Zn<|QJ I1 [(b_1,.cells #[.int .i64 ck,.int .i64 cl,.int .i64 cn] 30 (0,0))] mixed<|zT 1 rfl (Qa rfl X5) hD<|zT 2 rfl (Qc rfl Ql (fun hg=>by exact Qy.h0 rfl)) hD ?_
  refine QU 0 4 rfl rfl kA ?_ ?_
  ·
   refine qcV (vs:=[]) rfl zoR (znW _)<|Qb<|zD hD ?_
   refine QU 3 4 rfl rfl kA ?_ ?_
   focus
    refine zV (Vb (zah rfl rfl zeP zhI (fun hg=>kB)) (congrArg (fun l:List Value=>Value.agg l.toArray) hrow))<|Qb<|zD hD<|qd 4 rfl<|Qp zma rfl rfl (fun b_3=>Qb<|zD hD<|qd 5 rfl ?_)
   rotate_left
   refine Qp zma rfl rfl (fun b_3=>Qb<|zD hD<|qd 3 rfl<|zV (Vb (zah rfl rfl zeP zhI (fun hg=>kB)) (congrArg (fun l:List Value=>Value.agg l.toArray) hrow))<|Qb<|zD hD<|qd 5 rfl ?_)
   all_goals
    exact zh zhv<|Qb<|zD hD<|Qn kA<|Qv<|zm (h:=⟨_,rfl,rfl,rfl,trivial⟩)
  refine Qp zma rfl rfl (fun b_3=>Qb<|zD hD<|qd 0 rfl<|qcV (vs:=[]) rfl zoR (znW _)<|Qb<|zD hD<|qd 3 rfl<|zV (Vb (zah rfl rfl zeP zhI (fun hg=>kB)) (congrArg (fun l:List Value=>Value.agg l.toArray) hrow))<|Qb<|zD hD<|qd 5 rfl ?_);exact zh zhv<|Qb<|zD hD<|Qn kA<|Qv<|zm (h:=⟨_,rfl,rfl,rfl,trivial⟩)
 rintro E I' loc' ⟨p3,rfl,rfl,rfl,_⟩;refine Qm ?_;cases hlb:VR cl 0 (XU ck).2.2
 ·
  refine Qh<|zF zfY ?_
  refine zL Ql<|zF JS ?_
  refine zL Ql ?_;refine zpb [(0,_)] [Z5 cl] Vh (fun b_17=>QV (by repeat (first | exact Z1.here | apply Z1.there)) (fun I3 hI3 hb3=>?_));have hIc:=hIc.trans hI3;have hB:=Sl.lit ([cl]:List Int) rfl YL (show I3 b_17=some (Obj.cells (([cl]:List Int).flatMap Z5).toArray 3 (0,0)) from hb3);refine qcV (vs:=[_,_,_]) rfl zd5 (zdM hB kJ 0 _) ?_;rw [XA];rw [hlb];refine zM<|Yc (dj:=19) rfl rfl rfl rfl rfl<|Yc (dj:=19) rfl rfl rfl rfl rfl<|Yc (dj:=19) rfl rfl rfl rfl rfl<|Yc (dj:=19) rfl rfl rfl rfl rfl<|Yc (dj:=19) rfl rfl rfl rfl rfl<|Yc (dj:=19) rfl rfl rfl rfl rfl<|Yc (dj:=19) rfl rfl rfl rfl rfl<|Yc (dj:=19) rfl rfl rfl rfl rfl<|zV (Ye rfl rfl rfl)<|zA (zN (Qs ?_))
  first
  | exact zp hIc rfl rfl (by rw [zn2 hck hlb]<;>rfl)
 refine Qh<|zF zfY ?_
 refine zL Ql<|zF JS ?_
 refine zL Ql ?_;refine zpb [(0,_)] [Z5 cl] Vh (fun b_17=>QV (by repeat (first | exact Z1.here | apply Z1.there)) (fun I4 hI4 hb4=>?_));have hIc:=hIc.trans hI4;have hB:=Sl.lit ([cl]:List Int) rfl YL (show I4 b_17=some (Obj.cells (([cl]:List Int).flatMap Z5).toArray 3 (0,0)) from hb4);refine qcV (vs:=[_,_,_]) rfl zd5 (zdM hB kJ 0 _) ?_;rw [XA];rw [hlb];refine zM<|QQ (dj:=19) rfl rfl rfl<|zF znF<|QQ (dj:=19) rfl rfl rfl ?_
 refine zL Ql<|QQ (dj:=19) rfl rfl rfl<|zF zmF<|QQ (dj:=19) rfl rfl rfl ?_
 refine zL Ql<|QQ (dj:=19) rfl rfl rfl<|zF Kt<|QQ (dj:=19) rfl rfl rfl ?_
 refine zL Ql<|QQ (dj:=19) rfl rfl rfl ?_
 refine zpb [(0,_)] [Z5 cn] Vh (fun b_26=>QV (by repeat (first | exact Z1.here | apply Z1.there)) (fun I5 hI5 hb5=>?_));have hIc:=hIc.trans hI5;have hC:=Sl.lit ([cn]:List Int) rfl YL (show I5 b_26=some (Obj.cells (([cn]:List Int).flatMap Z5).toArray 3 (0,0)) from hb5);refine QQ (dj:=19) rfl rfl rfl<|qcV (vs:=[_,_,_]) rfl zd5 (zdM hC kJ _ _)<|zV (QY rfl rfl rfl)<|zA (zN (Qs ?_))
 first
 | exact zp hIc rfl rfl (by rw [zpd hck hlb,←XA];rfl)
theorem zaK:AgT Tryz.prog 30 3:=.of kA
theorem zkJ:EqT Tryz.prog 30 [.int,.int,.int]:=⟨kA,kA,kA,kA⟩
theorem YV:QM Tryz.prog 32 0 0:=.of kA
theorem Ju:QM Tryz.prog 32 1 1:=.of kA
theorem Y0:QM Tryz.prog 32 2 2:=.of kA
theorem WF:QM Tryz.prog 32 3 3:=.of kA
theorem KZ:QM Tryz.prog 32 4 4:=.of kA
theorem Kq:QM Tryz.prog 32 5 5:=.of kA
theorem JI:QM Tryz.prog 32 6 6:=.of kA
theorem zsW:Fun Tryz.prog 90:=.of Tryz.func90 kA kA
theorem zyN:Fun Tryz.prog 93:=.of Tryz.func93 kA kA
theorem Q4:MpT Tryz.prog 136 3 4 (.bool false):=⟨kA,.of kA⟩
theorem zcq:PlT Tryz.prog 30 #[(0,1),(1,1),(2,1)] (.agg #[(.int .i64 0),(.int .i64 0),(.int .i64 0)]):=⟨.of kA,kA,fun w=>kA⟩
theorem zmj:ScT Tryz.prog 136:=.of kA
theorem zm5 (I:Qu)(n lo hi:Int):ZJ Tryz.prog 90 [.int .i64 n,.int .i64 lo,.int .i64 hi] I (.bool (VR n lo hi)):=by
 intro g H w hw;refine qe Tryz.func90 Tryz.ntmps90 hw ?_;refine zR (zA<|zN (zR ?_));refine zM ?_;refine zM ?_;refine zC ?_;refine zM<|Qt 3 rfl rfl rfl ?_
 refine zK (Qe rfl) ?_;refine zK (Qe rfl) ?_;refine zK (QA rfl rfl rfl) ?_;exact QE rfl rfl rfl rfl rfl<|zA (zN (Qs<|Qx rfl rfl (fun w hw=>⟨rfl,hw.drop⟩)))
variable{b7:Nat}
theorem zxO {x:Lm}(hX:I b7=some (.cells (Zz x).toArray 32 (0,0)))(b5:Nat)(last:Int):YE Tryz.prog 89 [ZI b7,ZI b5] I [(b5,.cells #[.int .i64 last] 3 (0,0))] (fun v I' L'=>v= .bool (zqR last x)∧I'=I∧L'=[(b5,.cells #[.int .i64 last] 3 (0,0))]):=by
 intro g H w hw;refine qe Tryz.func89 Tryz.ntmps89 hw ?_;refine zR (zA<|zN (zR<|zF YV ?_));refine zV (Qc rfl Ql (fun hg=>by exact Qy.imm hX rfl))<|zL Ql<|zC<|zM<|QI 4 rfl rfl rfl ?_
 refine zJ (Qa rfl YV) ?_;refine zJ (Qc rfl Ql (fun hg=>by exact Qy.imm hX rfl)) ?_;refine zJ (QA rfl rfl rfl)<|Q9 rfl rfl rfl rfl rfl<|zM<|QI 9 rfl rfl rfl ?_
 exact zJ (Qa rfl Ju)<|zJ (Qc rfl Ql (fun hg=>by exact Qy.imm hX rfl))<|qf (vs:=[_,_,_]) rfl zsW (fun hg=>zm5 _ _ _ _)<|zJ (ZB rfl)<|Q9 rfl rfl rfl rfl rfl<|zA (zN (Qs<|Qx rfl rfl (fun w hw=>⟨_,I,_,rfl,zB6 _,hw,rfl,rfl,rfl⟩)))
theorem zzO {x:Lm}(hX:I b7=some (.cells (Zz x).toArray 32 (0,0))):ZJ Tryz.prog 91 [ZI b7] I (.bool (zo4 x)):=by
 intro g H w hw;refine qe Tryz.func91 Tryz.ntmps91 hw ?_;refine zR (zA<|zN (zR<|zF WF ?_));refine zV (Qc rfl Ql (fun hg=>by exact Qy.imm hX rfl))<|zC<|zM<|QI 3 rfl rfl rfl ?_
 refine zJ (Qa rfl WF)<|zJ (Qc rfl Ql (fun hg=>by exact Qy.imm hX rfl))<|zJ (Qa rfl KZ)<|zJ (Qc rfl Ql (fun hg=>by exact Qy.imm hX rfl))<|zJ (QA rfl rfl rfl)<|Q9 rfl rfl rfl rfl rfl<|zM<|QI 10 rfl rfl rfl ?_
 refine zJ (Qa rfl KZ)<|zJ (Qc rfl Ql (fun hg=>by exact Qy.imm hX rfl))<|zJ (QA rfl rfl rfl)<|Q9 rfl rfl rfl rfl rfl<|zM<|QI 15 rfl rfl rfl ?_
 exact zJ (Qa rfl Kq)<|zJ (Qc rfl Ql (fun hg=>by exact Qy.imm hX rfl))<|qf (vs:=[_,_,_]) rfl zsW (fun hg=>zm5 _ _ _ _)<|zJ (ZB rfl)<|Q9 rfl rfl rfl rfl rfl<|zA (zN (Qs<|Qx rfl rfl (fun w hw=>⟨rfl,hw.drop⟩)))
variable{loc:Go.Kn.Loc}
theorem zfn {x:Lm}(hX:I b7=some (.cells (Zz x).toArray 32 (0,0))):Cells I loc b7 (0+6) [.int .i64 x.ck,.int .i64 x.cl,.int .i64 x.cn]:=by
 intro j v hj
 match j,hj with
 | 0,h=>cases h;exact Qy.imm hX rfl
 | 1,h=>cases h;exact Qy.imm hX rfl
 | 2,h=>cases h;exact Qy.imm hX rfl
theorem zxy {x:Lm}(hX:I b7=some (.cells (Zz x).toArray 32 (0,0))):ZJ Tryz.prog 92 [ZI b7] I (.bool (zo6 x)):=by
 intro g H w hw;refine qe Tryz.func92 Tryz.ntmps92 hw ?_;refine zR (zA<|zN (zR<|zF JI ?_));refine zV (Qg rfl zaK (fun hg=>zfn hX) rfl)<|qcV (vs:=[_]) rfl zyN (zyV _ _ _ _)<|zO<|zM<|Qt 4 rfl rfl rfl ?_
 refine zK (Qa rfl JI)<|zK (Qg rfl zaK (fun hg=>by exact zfn hX) rfl)<|zK (QD (ps:=[]) [_,_,_] zcq rfl rfl)<|zK (zog rfl rfl zkJ rfl)<|zK (Qe rfl)<|QI 9 rfl rfl rfl ?_
 exact zJ (Qa rfl Y0)<|zJ (Qc rfl Ql (fun hg=>by exact Qy.imm hX rfl))<|zJ (QA rfl rfl rfl)<|zcD rfl rfl rfl (.some rfl rfl rfl rfl gbt) rfl rfl<|QE rfl rfl rfl rfl rfl<|zA (zN (Qs<|Qx rfl rfl (fun w hw=>⟨rfl,hw.drop⟩)))
variable{met:Bool}{old:Lm}{b5:Nat}{o5:Obj}
theorem zxe {x:Lm}(hX:I b7=some (.cells (Zz x).toArray 32 (0,0))){b9 b4 b8 r16:Nat}(hM:I b9=some (.cells #[.bool met] 4 (0,0)))(h4:I b4=some (.cells #[.map (some r16)] 136 (0,0)))(hO:I b8=some (.cells (Zz old).toArray 32 (0,0)))(m:List (Int×Bool)):YE Tryz.prog 94 [ZI b7,ZI b9,ZI b4,ZI b8] I [(b5,o5),(r16,YH (.int .i64) .bool m)] (fun v I' L'=>v= .bool (zvP met ((ZQ m x.ends).getD false) old x)∧I'=I∧L'=[(b5,o5),(r16,YH (.int .i64) .bool m)]):=by
 intro g H w hw;refine qe Tryz.func94 Tryz.ntmps94 hw ?_;refine zR (zA<|zN (zR<|zF Y0 ?_));refine zV (Qc rfl Ql (fun hg=>by exact Qy.imm hX rfl))<|zC ?_
 refine zM ?_;refine Qt 3 rfl rfl rfl ?_;refine zK (Qc rfl zbW (fun hg=>by exact Qy.imm hM rfl)) ?_;refine zK (ZB rfl) ?_;refine zK (Qe rfl) ?_;refine QI 6 rfl rfl rfl ?_;refine zJ (Qc rfl zmj (fun hg=>by exact Qy.imm h4 rfl)) ?_;refine zJ (Qa rfl Y0) ?_;refine zJ (Qc rfl Ql (fun hg=>by exact Qy.imm hX rfl)) ?_;refine zJ (Y7 (m:=m) (ek:=Value.int .i64) (a:=x.ends) Q4 Zd rfl rfl (fun _=>(by exact Mem.m1)))<|zcD rfl rfl rfl (.some rfl rfl rfl rfl gbt) rfl rfl<|zK (Qe rfl)<|QI 12 rfl rfl rfl ?_
 refine zJ (Qa rfl Ju)<|zJ (Qc rfl Ql (fun hg=>by exact Qy.imm hO rfl))<|zJ (Qa rfl Ju)<|zJ (Qc rfl Ql (fun hg=>by exact Qy.imm hX rfl))<|zJ (QA rfl rfl rfl)<|zcD rfl rfl rfl (.some rfl rfl rfl rfl gbt) rfl rfl<|zK (Qe rfl)<|QI 19 rfl rfl rfl ?_
 exact zJ (Qa rfl Kq)<|zJ (Qc rfl Ql (fun hg=>by exact Qy.imm hO rfl))<|zJ (Qa rfl Kq)<|zJ (Qc rfl Ql (fun hg=>by exact Qy.imm hX rfl))<|zJ (QA rfl rfl rfl)<|zcD rfl rfl rfl (.some rfl rfl rfl rfl gbt) rfl rfl<|QE rfl rfl rfl rfl rfl<|zA (zN (Qs<|Qx rfl rfl (fun w hw=>⟨_,I,_,rfl,zB6 _,hw,rfl,rfl,rfl⟩)))
theorem Km:AgT Tryz.prog 32 9:=.of kA
theorem zs9:ElT Tryz.prog 140 48 1 8:=.of kA
theorem zwv:Fun Tryz.prog 89:=.of Tryz.func89 kA kA
theorem zwr:Fun Tryz.prog 91:=.of Tryz.func91 kA kA
theorem zym:Fun Tryz.prog 92:=.of Tryz.func92 kA kA
theorem zzE:Fun Tryz.prog 94:=.of Tryz.func94 kA kA
theorem zaC:MpT Tryz.prog 135 3 32 (.agg #[(.int .i64 0),(.int .i64 0),(.int .i64 0),(.int .i64 0),(.int .i64 0),(.int .i64 0),(.int .i64 0),(.int .i64 0),(.int .i64 0)]):=⟨kA,.of kA⟩
theorem zi9:ScT Tryz.prog 48:=.of kA
theorem zcK:SlT Tryz.prog 140 48 1:=.of kA
theorem ZY:SlT Tryz.prog 62 32 9:=.of kA
theorem zv9:SzT Tryz.prog 136 1:=.of kA
theorem XP:SzT Tryz.prog 32 9:=.of kA
theorem zwD:Vv Tryz.prog 136 (.map none):=.of kA
theorem zBw:Vv Tryz.prog 3 (.int .i64 0):=.of kA
theorem zfS:Vv Tryz.prog 32 (.agg #[(.int .i64 0),(.int .i64 0),(.int .i64 0),(.int .i64 0),(.int .i64 0),(.int .i64 0),(.int .i64 0),(.int .i64 0),(.int .i64 0)]):=.of kA
theorem zBW:Vv Tryz.prog 4 (.bool false):=.of kA
theorem zlX {n c:Nat}{xs:List Lm}(hS:Sl I 9 Zz av n c xs)(hn:n≤100000):ZJ Tryz.prog 37 [.slice av n c] I (.int .i64 (zg7 xs)):=by
 intro g H w hw;refine qe Tryz.func37 Tryz.ntmps37 hw ?_;have hIc:=zB6 I;have hln:=hS.len;refine zR (zA (zN (Qm (zR ?_))));refine zM<|zQ ZY<|zC (zN ?_)
 refine zI ?_ ?_<;>intro hc14
 ·
  have h5:xs.length>512:=(by have h:=hc14;simp at h;omega);exact zR (zA (zN (Qs (Qf<|zp hIc rfl rfl (by rw [ziD h5])))))
 have h5:¬xs.length>512:=(by have h:=hc14;simp at h;omega);refine Qr (Qd (zR<|Yl rfl rfl (fun r_15=>zA<|zN (zR<|Yl rfl rfl (fun r_16=>Qp zwD rfl rfl (fun b_4=>zS zv9 ?_))))));refine Qb<|QF .here (fun I1 hI1 hb1=>?_)
 have hS:=hS.mono hI1;have hIc:=hIc.trans hI1;have h4:=BxI.of hb1;refine Qd (zR<|Qp zBw rfl rfl (fun b_5=>zS U5<|zN (Qm (zR (zM<|zQ ZY<|zM (zN (Qw ?_)))))));refine zU [(3,_),(4,_),(5,_),(17,_),(18,_)] (fun T L0 mz E I' loc'=>∃ (k:Nat),mz=n-k∧E=(19,.int .i64 k)::T∧HLe I1 I'∧[(b_5,.cells #[.int .i64 (W9 (xs.take k))] 3 (0,0)),(r_16,YH (.int .i64) .bool (rpM (xs.take k))),(r_15,YH (.int .i64) JA (knM (xs.take k)))]=loc'∧k≤n∧(∀ j y,j<k→xs[j]? =some y→zcP (xs.take j) y=false)) ?_ (h:=⟨0,rfl,rfl,zB6 _,rfl,Nat.zero_le _,fun j y h=>absurd h (Nat.not_lt_zero _)⟩);rintro mz E J2 loc' ⟨k,rfl,rfl,hJ,rfl,hk,hall⟩;have hS:=hS.mono hJ;have h4:=h4.mono hJ;have hIc:=hIc.trans hJ;have hB0:=hJ;refine zR (zC (zN (Qm ?_)));refine zI ?_ ?_<;>intro hc20
 ·
  have hlt_k:k<n:=(by have h:=hc20;simp at h;omega);obtain ⟨x,hx⟩:∃ x,xs[k]? =some x:=⟨_,List.getElem?_eq_getElem kB⟩;refine Qr (Qd (Qm (Qw (zR<|zV (zX ZY hS)<|zV (Qg rfl Km (fun hg=>by exact zB7 hS hx) rfl)<|Qp zfS rfl rfl (fun b_7=>zh XP<|zN (zR ?_))))));refine zM<|zF Y0 ?_
  refine zL Ql<|zV (U6 rfl rfl rfl)<|zV (zfR VU ((zjt (xs.take k) x).getD VU) ((zjt (xs.take k) x).isSome) rfl rfl rfl (ek:=Value.int .i64) (ev:=JA) (m:=knM (xs.take k)) (a:=IntKind.i64.wrap (x.ends-1)) zaC Zd rfl rfl (fun _=>(by exact Mem.m3)))<|zM ?_
  refine zE ?_;refine zE ?_;refine Qp zfS rfl rfl (fun b_8=>Qp zBW rfl rfl (fun b_9=>zh XP ?_));refine zS zjL<|zN (Qm (Qm<|QF .here (fun I3 hI3 hb3=>?_)))
  have hS:=hS.mono hI3;have h4:=h4.mono hI3;have hIc:=hIc.trans hI3;have hB0:=hB0.trans hI3;have h9:=BxI.of hb3;refine QF .here (fun I4 hI4 hb4=>?_);have hS:=hS.mono hI4;have h4:=h4.mono hI4;have h9:=h9.mono hI4;have hIc:=hIc.trans hI4;have hB0:=hB0.trans hI4;have h8:=BxI.of hb4;refine QF .here (fun I5 hI5 hb5=>?_);have hS:=hS.mono hI5;have h4:=h4.mono hI5;have h9:=h9.mono hI5;have h8:=h8.mono hI5;have hIc:=hIc.trans hI5;have hB0:=hB0.trans hI5;have h7:=BxI.of hb5;refine Qh<|zV (YP (us:=[]) (vs:=[_,_]) rfl rfl)<|zV (YP (us:=[]) (vs:=[_]) rfl rfl)<|zV (YP (us:=[]) (vs:=[_]) rfl rfl)<|zV (YP (us:=[]) (vs:=[_,_,_,_]) rfl rfl)<|zpb [(0,_),(1,_),(2,_),(3,_)] [zjY (.func (.func 89) #[] #[ZI b_7,ZI b_5]),zjY (.func (.func 91) #[] #[ZI b_7]),zjY (.func (.func 92) #[] #[ZI b_7]),zjY (.func (.func 94) #[] #[ZI b_7,ZI b_9,ZI b_4,ZI b_8])] zs9 (fun b_35=>QV (by repeat (first | exact Z1.here | apply Z1.there)) (fun I6 hI6 hb6=>?_))
  have hS:=hS.mono hI6;have h4:=h4.mono hI6;have h9:=h9.mono hI6;have h8:=h8.mono hI6;have h7:=h7.mono hI6;have hIc:=hIc.trans hI6;have hB0:=hB0.trans hI6;have hF:=Sl.lit ([.func (.func 89) #[] #[ZI b_7,ZI b_5],.func (.func 91) #[] #[ZI b_7],.func (.func 92) #[] #[ZI b_7],.func (.func 94) #[] #[ZI b_7,ZI b_9,ZI b_4,ZI b_8]]:List Value) rfl zk4 (show I6 b_35=some (Obj.cells (([.func (.func 89) #[] #[ZI b_7,ZI b_5],.func (.func 91) #[] #[ZI b_7],.func (.func 92) #[] #[ZI b_7],.func (.func 94) #[] #[ZI b_7,ZI b_9,ZI b_4,ZI b_8]]:List Value).flatMap zjY).toArray 48 (0,0)) from hb6);refine zQ zcK<|zM (zN (Qw ?_))
  refine zU [(3,_),(4,_),(5,_),(7,_),(17,_),(18,_),(19,_),(35,_),(36,_)] (fun T L0 mz E I' loc'=>∃ (i:Nat),mz=4-i∧E=(37,.int .i64 i)::T∧I6=I'∧[(b_5,.cells #[.int .i64 (W9 (xs.take k))] 3 (0,0)),(r_16,YH (.int .i64) .bool (rpM (xs.take k))),(r_15,YH (.int .i64) JA (knM (xs.take k)))]=loc'∧i≤4∧(0<i→zqR (W9 (xs.take k)) x=false)∧(1<i→zo4 x=false)∧(2<i→zo6 x=false)∧(3<i→zvP (zjt (xs.take k) x).isSome ((ZQ (rpM (xs.take k)) x.ends).getD false) ((zjt (xs.take k) x).getD VU) x=false)) ?_ (h:=⟨0,rfl,rfl,rfl,rfl,Nat.zero_le _,fun h=>absurd h kB,fun h=>absurd h kB,fun h=>absurd h kB,fun h=>absurd h kB⟩);rintro mz E I' loc' ⟨i,rfl,rfl,rfl,rfl,hi,q0,q1,q2,q3⟩;refine zR (zC (zN (Qm ?_)));refine zI ?_ ?_<;>intro hc38
  ·
   have hi4:i<4:=(by have h:=hc38;simp at h;omega);refine Qr (Qd (Qm (Qw (Qm ?_))));rcases (show i=0∨i=1∨i=2∨i=3 by omega) with hi | hi | hi | hi
   ·
    have hfi:([.func (.func 89) #[] #[ZI b_7,ZI b_5],.func (.func 91) #[] #[ZI b_7],.func (.func 92) #[] #[ZI b_7],.func (.func 94) #[] #[ZI b_7,ZI b_9,ZI b_4,ZI b_8]]:List Value)[i]? =some (.func (.func 89) #[] #[ZI b_7,ZI b_5]):=(by rw [hi];rfl);refine Qh<|zV (QG rfl rfl zcK kL (fun hg=>kB))<|zV (Qc rfl zi9 (fun hg=>by exact zBZ hF hfi rfl))<|zA<|zN (zR ?_)
    refine zM<|KU (cap:=[ZI b_7,ZI b_5]) (vs:=[]) rfl rfl zwv (.cons .here .nil) (zxO h7.out b_5 _) rfl rfl ?_
    rintro vv8 I8 L8 hI8 ⟨rfl,rfl,rfl⟩;have hIc:=hIc.trans hI8;refine zN ?_;refine zI ?_ ?_<;>intro hc42
    ·
     exact zR (zA (zN (Qs (Qi (Qf (Qf (Qi<|Qf (Qi (Qf (Qf (Qi (Qf<|zp hIc rfl rfl (by rw [Je h5 hx (zyi hc42)])))))))))))))
    refine Qr (Qk (Qd (Qh (zB<|zM (Qb ?_)))));exact Zr _ _ ⟨4-(i+1),kB,i+1,rfl,rfl,rfl,rfl,kB,fun _=>by exact hc42,fun h=>by exact absurd h kB,fun h=>by exact absurd h kB,fun h=>by exact absurd h kB⟩ (.cons rfl (.cons rfl (.cons rfl (.cons rfl (.cons rfl (.cons rfl (.cons rfl (.cons rfl (.cons rfl (.cons rfl .nil)))))))))) (by (try rw [Zs hx,KC,WH,WD]);repeat (first | exact .refl | exact QL | refine Q7 ?_ | refine .drop ?_ | refine QR ?_))
   ·
    have hfi:([.func (.func 89) #[] #[ZI b_7,ZI b_5],.func (.func 91) #[] #[ZI b_7],.func (.func 92) #[] #[ZI b_7],.func (.func 94) #[] #[ZI b_7,ZI b_9,ZI b_4,ZI b_8]]:List Value)[i]? =some (.func (.func 91) #[] #[ZI b_7]):=(by rw [hi];rfl);refine Qh<|zV (QG rfl rfl zcK kL (fun hg=>kB))<|zV (Qc rfl zi9 (fun hg=>by exact zBZ hF hfi rfl))<|zA<|zN (zR ?_)
    refine zM<|KU (cap:=[ZI b_7]) (vs:=[]) rfl rfl zwr .nil ((zzO h7.out).m) rfl rfl ?_
    rintro vv9 I9 L9 hI9 ⟨rfl,rfl,rfl⟩;have hIc:=hIc.trans hI9;refine zN ?_;refine zI ?_ ?_<;>intro hc42
    ·
     exact zR (zA (zN (Qs (Qi (Qf (Qf (Qi<|Qf (Qi (Qf (Qf (Qi (Qf<|zp hIc rfl rfl (by rw [Je h5 hx (zy6 hc42)])))))))))))))
    refine Qr (Qk (Qd (Qh (zB<|zM (Qb ?_)))));exact Zr _ _ ⟨4-(i+1),kB,i+1,rfl,rfl,rfl,rfl,kB,fun _=>by exact q0 kB,fun h=>by exact hc42,fun h=>by exact absurd h kB,fun h=>by exact absurd h kB⟩ (.cons rfl (.cons rfl (.cons rfl (.cons rfl (.cons rfl (.cons rfl (.cons rfl (.cons rfl (.cons rfl (.cons rfl .nil)))))))))) (by (try rw [Zs hx,KC,WH,WD]);repeat (first | exact .refl | exact QL | refine Q7 ?_ | refine .drop ?_ | refine QR ?_))
   ·
    have hfi:([.func (.func 89) #[] #[ZI b_7,ZI b_5],.func (.func 91) #[] #[ZI b_7],.func (.func 92) #[] #[ZI b_7],.func (.func 94) #[] #[ZI b_7,ZI b_9,ZI b_4,ZI b_8]]:List Value)[i]? =some (.func (.func 92) #[] #[ZI b_7]):=(by rw [hi];rfl);refine Qh<|zV (QG rfl rfl zcK kL (fun hg=>kB))<|zV (Qc rfl zi9 (fun hg=>by exact zBZ hF hfi rfl))<|zA<|zN (zR ?_)
    refine zM<|KU (cap:=[ZI b_7]) (vs:=[]) rfl rfl zym .nil ((zxy h7.out).m) rfl rfl ?_
    rintro vv10 I10 L10 hI10 ⟨rfl,rfl,rfl⟩;have hIc:=hIc.trans hI10;refine zN ?_;refine zI ?_ ?_<;>intro hc42
    ·
     exact zR (zA (zN (Qs (Qi (Qf (Qf (Qi<|Qf (Qi (Qf (Qf (Qi (Qf<|zp hIc rfl rfl (by rw [Je h5 hx (zwV hc42)])))))))))))))
    refine Qr (Qk (Qd (Qh (zB<|zM (Qb ?_)))));exact Zr _ _ ⟨4-(i+1),kB,i+1,rfl,rfl,rfl,rfl,kB,fun _=>by exact q0 kB,fun h=>by exact q1 kB,fun h=>by exact hc42,fun h=>by exact absurd h kB⟩ (.cons rfl (.cons rfl (.cons rfl (.cons rfl (.cons rfl (.cons rfl (.cons rfl (.cons rfl (.cons rfl (.cons rfl .nil)))))))))) (by (try rw [Zs hx,KC,WH,WD]);repeat (first | exact .refl | exact QL | refine Q7 ?_ | refine .drop ?_ | refine QR ?_))
   have hfi:([.func (.func 89) #[] #[ZI b_7,ZI b_5],.func (.func 91) #[] #[ZI b_7],.func (.func 92) #[] #[ZI b_7],.func (.func 94) #[] #[ZI b_7,ZI b_9,ZI b_4,ZI b_8]]:List Value)[i]? =some (.func (.func 94) #[] #[ZI b_7,ZI b_9,ZI b_4,ZI b_8]):=(by rw [hi];rfl);refine Qh<|zV (QG rfl rfl zcK kL (fun hg=>kB))<|zV (Qc rfl zi9 (fun hg=>by exact zBZ hF hfi rfl))<|zA<|zN (zR ?_)
   refine zM<|KU (cap:=[ZI b_7,ZI b_9,ZI b_4,ZI b_8]) (vs:=[]) rfl rfl zzE (.cons .here (.cons .here .nil)) (zxe h7.out h9.out h4.out h8.out (rpM (xs.take k))) rfl rfl ?_
   rintro vv11 I11 L11 hI11 ⟨rfl,rfl,rfl⟩;have hIc:=hIc.trans hI11;refine zN ?_;refine zI ?_ ?_<;>intro hc42
   ·
    exact zR (zA (zN (Qs (Qi (Qf (Qf (Qi<|Qf (Qi (Qf (Qf (Qi (Qf<|zp hIc rfl rfl (by rw [Je h5 hx (zyd hc42)])))))))))))))
   refine Qr (Qk (Qd (Qh (zB<|zM (Qb ?_)))));exact Zr _ _ ⟨4-(i+1),kB,i+1,rfl,rfl,rfl,rfl,kB,fun _=>by exact q0 kB,fun h=>by exact q1 kB,fun h=>by exact q2 kB,fun h=>by exact hc42⟩ (.cons rfl (.cons rfl (.cons rfl (.cons rfl (.cons rfl (.cons rfl (.cons rfl (.cons rfl (.cons rfl (.cons rfl .nil)))))))))) (by (try rw [Zs hx,KC,WH,WD]);repeat (first | exact .refl | exact QL | refine Q7 ?_ | refine .drop ?_ | refine QR ?_))
  have hi4:4≤i:=(by have h:=hc38;simp at h;omega);have hbad:zcP (xs.take k) x=false:=zt2 (q0 kB) (q1 kB) (q2 kB) (q3 kB);refine Zk (Qo (Qo (Qz (Qd ?_))));have hD:=zB6 I6;refine Zn<|QJ I6 [] mixed<|zT 0 rfl (Qe rfl) hD<|zT 1 rfl (Qa rfl YV) hD<|zT 2 rfl (Qc rfl Ql (fun hg=>by exact Qy.imm h7.out rfl)) hD<|zT 3 rfl (Qc rfl zmj (fun hg=>by exact Qy.imm h4.out rfl)) hD<|zT 4 rfl (Qa rfl Y0) hD<|zT 5 rfl (Qc rfl Ql (fun hg=>by exact Qy.imm h7.out rfl)) hD<|zT 6 rfl (Qa rfl YV) hD<|zT 7 rfl (Qc rfl Ql (fun hg=>by exact Qy.imm h7.out rfl)) hD<|zT 8 rfl (Qg rfl Km (fun hg=>by exact BxI.cells (vs:=Zz x) h7) rfl) hD<|qd 9 rfl ?_
  refine zS U5 ?_;refine Qb<|zD hD<|qd 10 rfl ?_
  refine zx9 (ek:=Value.int .i64) (ev:=JA) (m:=knM (xs.take k)) (a:=x.no) x zaC Zd ?_;refine Qb<|zD hD<|qd 11 rfl ?_
  refine zx9 (ek:=Value.int .i64) (ev:=Value.bool) (m:=rpM (xs.take k)) (a:=x.ends) true Q4 Zd ?_;refine Qb<|zD hD<|Qn kA<|Qv<|Qk (Qd (Qh (zB<|zM (Qb ?_))))
  exact Zr _ _ ⟨n-(k+1),kB,k+1,rfl,rfl,hB0,rfl,kB,Vo hx hall hbad⟩ (.cons rfl (.cons rfl (.cons rfl (.cons rfl (.cons rfl (.cons rfl .nil)))))) (by (try rw [Zs hx,KC,WH,WD]);repeat (first | exact .refl | exact QL | refine Q7 ?_ | refine .drop ?_ | refine QR ?_))
 have hge_k:n≤k:=(by have h:=hc20;simp at h;omega);exact Zk (Qo (Qo (Qz (Qd (zR (zA (zN<|Qs<|zp hIc rfl rfl (by rw [zkH h5 (fun j y hj hy=>hall j y kB hy)]))))))))
def orF:List Int→Int
 | []=>0
 | x::xs=>if x≠0 then x else orF xs
theorem zbs:∀ {xs:List Int},orF xs=0↔ ∀ x∈xs,x=0
 | []=>by simp [orF]
 | x::xs=>by
  unfold orF;by_cases h:x=0
  ·
   rw [if_neg (by simpa using h),zbs];simp [h]
  ·
   rw [if_pos h];simp [h]
variable{k:Nat}
theorem zqh {x:Int}(hx:xs[k]? =some x)(h:orF (xs.take k)=0)(hne:x≠0):orF xs=x:=by
 induction xs generalizing k with
 | nil=>simp at hx
 | cons y ys ih=>
  cases k with
  | zero=>
   simp at hx;subst hx;unfold orF;rw [if_pos hne]
  | succ k=>
   rw [List.take_succ_cons] at h;unfold orF at h ⊢;by_cases hy:y=0
   ·
    rw [if_neg (by simpa using hy)] at h ⊢;exact ih (by simpa using hx) h
   ·
    rw [if_pos hy] at h;exact absurd h hy
def onS (f:Int→Int→Bool)(p:Pt):Int→Int→Bool:=fun a b=>if a=p.id then p.needs.any (fun n=>n==b||f n b) else f a b
def onF (ps:List Pt):Int→Int→Bool:=ps.foldl onS (fun _ _=>false)
def zkj (ps:List Pt)(n:Int):Bool:=ps.any (fun q=>q.id==n)
def lsP (ps:List Pt)(i:Nat):Bool:= !((decide ((i:Int)>0)&&decide ((ps.getD i JD).id≤(ps.getD ((i:Int)-1).toNat JD).id))||(ps.getD i JD).needs.any (fun n=> !zkj ps n))
def lsB (ps:List Pt):Bool:=(List.range ps.length).all (lsP ps)
def zwN (p q:Pt)(on:Bool):Bool:=if p.sign≠q.sign then true else if q.kind=2 then p.kind != 2&&on else if q.kind=3 then !on else true
def zrT (ps:List Pt):Bool:=ps.all fun p=>ps.all fun q=>p.id==q.id||zwN p q (onF ps p.id q.id)
def zcW (ps:List Pt):Int:=if ps.length>512 then 2 else if orF (ps.map Uk)≠0 then orF (ps.map Uk) else if lsB ps&&zrT ps then 0 else 380
structure Lst (ps:List Pt):Prop where
 pos:∀ p∈ps,1≤p.id
 inc:ps.Pairwise (fun p q=>p.id<q.id)
 has:∀ p∈ps,∀ n∈p.needs,n<p.id∧∃ q∈ps,q.id=n
variable{ps:List Pt}{n:Int}
theorem za9 :zkj ps n=true↔ ∃ q∈ps,q.id=n:=by
 unfold zkj;rw [List.any_eq_true];simp
variable{p:Pt}{a b:Int}
theorem zk6 {f:Int→Int→Bool}(h:a≠p.id):onS f p a b=f a b:=by unfold onS;rw [if_neg h]
theorem WM:∀ (ps:List Pt) {f:Int→Int→Bool} {a b:Int},(∀ p∈ps,p.id≠a)→ps.foldl onS f a b=f a b
 | [],_,_,_,_=>rfl
 | p::ps,f,a,b,h=>by
  rw [List.foldl_cons,WM ps (fun q hq=>h q (List.mem_cons_of_mem _ hq)),zk6 (fun e=>h p (List.mem_cons_self ..) e.symm)]
theorem zpv (h:∀ p∈ps,p.id≠a):onF ps a b=false:=WM ps h
variable{qs:List Pt}
theorem zfO (h:∀ q∈qs,q.id≠p.id):onF (ps++p::qs) p.id b=p.needs.any (fun n=>n==b||onF ps n b):=by
 unfold onF;rw [List.foldl_append,List.foldl_cons,WM qs h];unfold onS;rw [if_pos rfl]
theorem zil (h:∀ q∈qs,q.id≠a):onF (ps++qs) a b=onF ps a b:=by
 unfold onF;rw [List.foldl_append,WM qs h]
theorem Lst.tail_ne (h:Lst (ps++p::qs)):(∀ q∈qs,p.id<q.id)∧(∀ q∈ps,q.id<p.id):=by
 have h1:=h.inc;rw [List.pairwise_append] at h1;exact ⟨(List.pairwise_cons.1 h1.2.1).1,fun q hq=>h1.2.2 q hq p (List.mem_cons_self ..)⟩
variable{α:Type}
theorem zim {xs:List α}{f g:α→Bool}(h:∀ x∈xs,f x=g x):xs.any f=xs.any g:=by
 induction xs with
 | nil=>rfl
 | cons x xs ih=>rw [List.any_cons,List.any_cons,h x (List.mem_cons_self ..),ih fun y hy=>h y (List.mem_cons_of_mem _ hy)]
theorem Lst.on (h:Lst ps)(hp:p∈ps)(b:Int):onF ps p.id b=p.needs.any (fun n=>n==b||onF ps n b):=by
 obtain ⟨l,r,rfl⟩:=List.append_of_mem hp;obtain ⟨h1,h2⟩:=h.tail_ne;rw [zfO (fun q hq e=>by have:=h1 q hq;omega)];refine zim fun n hn=>?_;have hlt:=(h.has p hp n hn).1;rw [zil (ps:=l) (qs:=p::r)];intro q hq e;rcases List.mem_cons.1 hq with rfl | hq
 ·
  omega
 ·
  have:=h1 q hq;omega
theorem Lst.on_iff (h:Lst ps)(hp:p∈ps):onF ps p.id b=true↔ ∃ n∈p.needs,n=b∨onF ps n b=true:=by
 rw [h.on hp,List.any_eq_true];simp
theorem ztZ (h:onF ps a b=true):∃ p∈ps,p.id=a:=by
 by_cases hx:∃ p∈ps,p.id=a
 ·
  exact hx
 ·
  rw [zpv (fun p hp e=>hx ⟨p,hp,e⟩)] at h;cases h
variable{M:Pt→Prop}
theorem Lst.ind (h:Lst ps)(hs:∀ p∈ps,(∀ q∈ps,q.id<p.id→M q)→M p):∀ p∈ps,M p:=by
 have key:∀ (m:Nat) (q:Pt),q∈ps→q.id.toNat≤m→M q:=by
  intro m
  induction m with
  | zero=>
   intro q hq hm;have:=h.pos q hq;omega
  | succ m ih=>
   intro q hq hm;exact hs q hq fun r hr hlt=>ih r hr (by have:=h.pos r hr;omega)
 exact fun p hp=>key _ p hp (Nat.le_refl _)
theorem Lst.on_lt (h:Lst ps)(hon:onF ps a b=true):b<a∧∃ q∈ps,q.id=b:=by
 obtain ⟨p,hp,rfl⟩:=ztZ hon
 revert hon
 refine h.ind (M:=fun p=>onF ps p.id b=true→b<p.id∧∃ q∈ps,q.id=b) (fun p hp ih hon=>?_) p hp;obtain ⟨n,hn,e⟩:=(h.on_iff hp).1 hon;obtain ⟨h1,q,hq,rfl⟩:=h.has p hp n hn;rcases e with rfl | e
 ·
  exact ⟨h1,q,hq,rfl⟩
 ·
  have:=ih q hq h1 e;exact ⟨kB,this.2⟩
theorem Lst.on_irr (h:Lst ps):onF ps a a=false:=by
 cases hon:onF ps a a with
 | false=>rfl
 | true=>have:=(h.on_lt hon).1;omega
theorem ztU {f:Pt→Bool}{x:Int}:x∈(ps.filter f).map (·.id)↔ ∃ p∈ps,f p=true∧p.id=x:=by
 rw [List.mem_map];constructor
 ·
  rintro ⟨p,hp,e⟩;exact ⟨p,(List.mem_filter.1 hp).1,(List.mem_filter.1 hp).2,e⟩
 ·
  rintro ⟨p,hp,hf,e⟩;exact ⟨p,List.mem_filter.2 ⟨hp,hf⟩,e⟩
theorem zr8 (h0:orF (ps.map Uk)=0)(h:lsB ps=true):Lst ps:=by
 have hk:∀ p∈ps,ndB p.id p.needs=true∧idB p=true∧U7 p=true:=fun p hp=>by
  have h1:=zbs.1 h0 (Uk p) (List.mem_map.2 ⟨p,hp,rfl⟩);unfold Uk at h1;split at h1
  ·
   cases h1
  ·
   split at h1
   ·
    rename_i h2;simpa [Bool.and_eq_true] using h2
   ·
    cases h1
 unfold lsB at h;rw [List.all_eq_true] at h;refine ⟨fun p hp=>?_,?_,fun p hp n hn=>?_⟩
 ·
  have:=(hk p hp).2.1;unfold idB at this;simp at this;omega
 ·
  refine zaG (R:=fun p q:Pt=>p.id<q.id) (fun a b c h1 h2=>Int.lt_trans h1 h2) fun k hk=>?_;have h1:=h (k+1) (List.mem_range.2 hk);unfold lsP at h1;rw [show (((k+1:Nat):Int)-1).toNat=k by omega,VL (List.getElem?_eq_getElem hk),VL (List.getElem?_eq_getElem (show k<ps.length by omega))] at h1;simp at h1;have:=h1.1;omega
 ·
  obtain ⟨k,hk1,rfl⟩:=List.mem_iff_getElem.1 hp;have h1:=h k (List.mem_range.2 hk1);unfold lsP at h1;rw [VL (List.getElem?_eq_getElem hk1)] at h1;simp at h1;refine ⟨?_,za9.1 (h1.2 n hn)⟩;obtain ⟨j,hj,rfl⟩:=List.mem_iff_getElem.1 hn;have h2:=(hk _ hp).1;unfold ndB at h2;rw [List.all_eq_true] at h2;have h3:=h2 j (List.mem_range.2 hj);unfold ndP at h3;rw [VL (List.getElem?_eq_getElem hj)] at h3;simp at h3;omega
/-! ### Lists by keys -/
def Ug (x:Sg)(f:Int):Int×Int×Int×Int:=
 if f=1 then (x.role,0,0,0) else if f=2 then (x.bar,0,0,0) else if f=3 then (x.mark,0,0,0) else if f=4 then (x.side,0,0,0) else if f=5 then (x.dir,0,0,0)
 else if f=6 then (x.level,0,0,0) else if f=7 then (x.size,0,0,0) else if f=8 then (x.wth,0,0,0) else if f=9 then (x.fn,x.fd,x.tn,x.td) else (0,0,0,0)
def isF (f:Int):Prop:=1≤f∧f≤9
variable{f:Int}
theorem zgg (h:isF f):f=1∨f=2∨f=3∨f=4∨f=5∨f=6∨f=7∨f=8∨f=9:=by unfold isF at h;omega
variable{x y:Sg}
theorem zjh :(Uj x f y).id=x.id:=by unfold Uj;(repeat' split)<;>rfl
theorem zby :(Uj x f y).kind=x.kind:=by unfold Uj;(repeat' split)<;>rfl
variable{g:Int}
theorem zpR :Ug (Uj x 1 y) g=if g=1 then Ug y g else Ug x g:=by
 rw [show Uj x 1 y= {x with role:=y.role} from rfl];by_cases hg:g=1
 ·
  subst hg;rfl
 ·
  rw [if_neg hg];unfold Ug;simp only [if_neg hg]
theorem zpK :Ug (Uj x 2 y) g=if g=2 then Ug y g else Ug x g:=by
 rw [show Uj x 2 y= {x with bar:=y.bar} from rfl];by_cases hg:g=2
 ·
  subst hg;rfl
 ·
  rw [if_neg hg];unfold Ug;simp only [if_neg hg]
theorem zre :Ug (Uj x 3 y) g=if g=3 then Ug y g else Ug x g:=by
 rw [show Uj x 3 y= {x with mark:=y.mark} from rfl];by_cases hg:g=3
 ·
  subst hg;rfl
 ·
  rw [if_neg hg];unfold Ug;simp only [if_neg hg]
theorem zqz :Ug (Uj x 4 y) g=if g=4 then Ug y g else Ug x g:=by
 rw [show Uj x 4 y= {x with side:=y.side} from rfl];by_cases hg:g=4
 ·
  subst hg;rfl
 ·
  rw [if_neg hg];unfold Ug;simp only [if_neg hg]
theorem zrn :Ug (Uj x 5 y) g=if g=5 then Ug y g else Ug x g:=by
 rw [show Uj x 5 y= {x with dir:=y.dir} from rfl];by_cases hg:g=5
 ·
  subst hg;rfl
 ·
  rw [if_neg hg];unfold Ug;simp only [if_neg hg]
theorem zqm :Ug (Uj x 6 y) g=if g=6 then Ug y g else Ug x g:=by
 rw [show Uj x 6 y= {x with level:=y.level} from rfl];by_cases hg:g=6
 ·
  subst hg;rfl
 ·
  rw [if_neg hg];unfold Ug;simp only [if_neg hg]
theorem zpD :Ug (Uj x 7 y) g=if g=7 then Ug y g else Ug x g:=by
 rw [show Uj x 7 y= {x with size:=y.size} from rfl];by_cases hg:g=7
 ·
  subst hg;rfl
 ·
  rw [if_neg hg];unfold Ug;simp only [if_neg hg]
theorem zqF :Ug (Uj x 8 y) g=if g=8 then Ug y g else Ug x g:=by
 rw [show Uj x 8 y= {x with wth:=y.wth} from rfl];by_cases hg:g=8
 ·
  subst hg;rfl
 ·
  rw [if_neg hg];unfold Ug;simp only [if_neg hg]
theorem zpp :Ug (Uj x 9 y) g=if g=9 then Ug y g else Ug x g:=by
 rw [show Uj x 9 y= {x with fn:=y.fn,fd:=y.fd,tn:=y.tn,td:=y.td} from rfl];by_cases hg:g=9
 ·
  subst hg;rfl
 ·
  rw [if_neg hg];unfold Ug;simp only [if_neg hg]
theorem zd2 (hf:isF f):Ug (Uj x f y) g=if g=f then Ug y g else Ug x g:=by
 rcases zgg hf with rfl | rfl | rfl | rfl | rfl | rfl | rfl | rfl | rfl
 ·
  exact zpR
 ·
  exact zpK
 ·
  exact zre
 ·
  exact zqz
 ·
  exact zrn
 ·
  exact zqm
 ·
  exact zpD
 ·
  exact zqF
 ·
  exact zpp
theorem zsN (h1:x.id=y.id)(h2:x.kind=y.kind)(h:∀ f,isF f→Ug x f=Ug y f):x=y:=by
 have e1:x.role=y.role:=congrArg (fun p=>p.1) (show ((x.role,0,0,0):Int×Int×Int×Int)=(y.role,0,0,0) from h 1 ⟨by decide,by decide⟩);have e2:x.bar=y.bar:=congrArg (fun p=>p.1) (show ((x.bar,0,0,0):Int×Int×Int×Int)=(y.bar,0,0,0) from h 2 ⟨by decide,by decide⟩);have e3:x.mark=y.mark:=congrArg (fun p=>p.1) (show ((x.mark,0,0,0):Int×Int×Int×Int)=(y.mark,0,0,0) from h 3 ⟨by decide,by decide⟩);have e4:x.side=y.side:=congrArg (fun p=>p.1) (show ((x.side,0,0,0):Int×Int×Int×Int)=(y.side,0,0,0) from h 4 ⟨by decide,by decide⟩);have e5:x.dir=y.dir:=congrArg (fun p=>p.1) (show ((x.dir,0,0,0):Int×Int×Int×Int)=(y.dir,0,0,0) from h 5 ⟨by decide,by decide⟩);have e6:x.level=y.level:=congrArg (fun p=>p.1) (show ((x.level,0,0,0):Int×Int×Int×Int)=(y.level,0,0,0) from h 6 ⟨by decide,by decide⟩);have e7:x.size=y.size:=congrArg (fun p=>p.1) (show ((x.size,0,0,0):Int×Int×Int×Int)=(y.size,0,0,0) from h 7 ⟨by decide,by decide⟩);have e8:x.wth=y.wth:=congrArg (fun p=>p.1) (show ((x.wth,0,0,0):Int×Int×Int×Int)=(y.wth,0,0,0) from h 8 ⟨by decide,by decide⟩);have e9:(x.fn,x.fd,x.tn,x.td)=(y.fn,y.fd,y.tn,y.td):=h 9 ⟨by decide,by decide⟩;obtain ⟨a1,a2,a3,a4,a5,a6,a7,a8,a9,a10,a11,a12,a13,a14⟩:=x;obtain ⟨b1,b2,b3,b4,b5,b6,b7,b8,b9,b10,b11,b12,b13,b14⟩:=y;cases h1;cases h2;cases e1;cases e2;cases e3;cases e4;cases e5;cases e6;cases e7;cases e8;cases e9;rfl
theorem ztl:zcL 0 1 1 2=true:=by decide
theorem zvx:zcL 0 1 1 1=true:=by decide
theorem znQ (hf:isF f)(x:Sg):frm (Uj zfU f x)=frm (Uj zfe f x):=by
 rcases zgg hf with rfl | rfl | rfl | rfl | rfl | rfl | rfl | rfl | rfl<;>
 simp [frm,zAB,Uj,zfU,zfe,within,ztl,zvx]
theorem zqN (hf:isF f)(x:Sg):zkl (Uj Kb f x) x=zkl (Uj x f Kb) Kb:=by
 rw [Bool.eq_iff_iff,zbw,zbw];constructor
 ·
  intro h;refine zsN ?_ ?_ fun g hg=>?_
  ·
   rw [zjh,←h,zjh]
  ·
   rw [zby,←h,zby]
  ·
   rw [zd2 hf];by_cases e:g=f
   ·
    rw [if_pos e]
   ·
    rw [if_neg e]
    conv=>lhs;rw [←h]
    rw [zd2 hf,if_neg e]
 ·
  intro h;refine zsN ?_ ?_ fun g hg=>?_
  ·
   rw [zjh];have:=congrArg Sg.id h;rw [zjh] at this;exact this.symm
  ·
   rw [zby];have:=congrArg Sg.kind h;rw [zby] at this;exact this.symm
  ·
   rw [zd2 hf];by_cases e:g=f
   ·
    rw [if_pos e]
   ·
    rw [if_neg e];have:Ug (Uj x f Kb) g=Ug Kb g:=by rw [h]
    rw [zd2 hf,if_neg e] at this;exact this.symm
def zga (x y:Int):Int:=if x<y then -1 else if x>y then 1 else 0
def zAI (n d:Int):List Value:=[.int .i64 n,.int .i64 d]
def za3 (n d:Int):Value:=.agg (zAI n d).toArray
theorem zkQ (h:0≤n∧n≤9223372036854775807):IntKind.u64.wrap n=n:=by
 unfold IntKind.wrap IntKind.signed IntKind.bits;simp;omega
theorem zvs (hn: -1073741824≤n∧n≤1073741824)(h:¬n<0):IntKind.u64.wrap n=zcR n:=by
 rw [zkQ kB];unfold zcR;rw [if_neg h]
theorem zuG (hn: -1073741824≤n∧n≤1073741824)(h:n<0):IntKind.u64.wrap (0-IntKind.u64.wrap n)=zcR n:=by
 unfold zcR;rw [if_pos h];unfold IntKind.wrap IntKind.signed IntKind.bits;simp;omega
def zwS (t b1 b2:Nat)(a b:Int):Go.Kn.Loc:=[(b2,.cells #[.int .u64 b] t (0,0)),(b1,.cells #[.int .u64 a] t (0,0))]
def zeQ (a b:Nat):List Nat:=if a=0 then [] else if b=0 then [a,0] else if a % b=0 then [a,b] else a::zeQ b (a % b)
termination_by b
decreasing_by exact Nat.mod_lt _ kB
theorem zeS (b:Nat):zeQ 0 b=[]:=by rw [zeQ];rfl
theorem zeu {a b:Nat}(ha:a≠0)(hb:b≠0)(h:a % b=0):zeQ a b=[a,b]:=by rw [zeQ,if_neg ha,if_neg hb,if_pos h]
theorem zfW {a b:Nat}(ha:a≠0)(hb:b≠0)(h:a % b≠0):zeQ a b=a::zeQ b (a % b):=by rw [zeQ,if_neg ha,if_neg hb,if_neg h]
theorem zrx:∀ (m:Nat) {a b d:Nat},b≤m→b≠0→(a=0→d=b)→(zeQ a b).getLastD d=Nat.gcd a b:=by
 intro m
 induction m with
 | zero=>intro a b d h1 h2;omega
 | succ m ih=>
  intro a b d h1 h2 hd;by_cases ha:a=0
  ·
   subst ha;rw [zeS,Nat.gcd_zero_left,hd rfl];rfl
  ·
   by_cases h:a % b=0
   ·
    rw [zeu ha h2 h];show b=_;rw [Nat.gcd_comm,Nat.gcd_rec,h,Nat.gcd_zero_left]
   ·
    rw [zfW ha h2 h,List.getLastD_cons,ih (by have:=Nat.mod_lt a (show 0<b by omega);omega) h (fun e=>absurd e h2)];rw [Nat.gcd_comm b,←Nat.gcd_rec,Nat.gcd_comm]
theorem zjz (a b:Nat):((a:Int)).tmod (b:Int)=((a % b:Nat):Int):=by
 rw [Int.tmod_eq_emod_of_nonneg kB];rfl
theorem zrl (ha: -1073741824≤a∧a≤1073741824)(hb: -1073741824≤b∧b≤1073741824): -9223372036854775808≤a*b∧a*b≤9223372036854775807:=by
 have h1:(a*b).natAbs≤1073741824*1073741824:=by
  rw [Int.natAbs_mul];exact Nat.mul_le_mul kB kB
 omega
def zwm (n d:Int):Int:=if WE n d then 0 else 120
variable{d:Int}
theorem zdU (h:WE n d=true):(1≤d∧d≤1073741824)∧ -1073741824≤n∧n≤1073741824:=by
 unfold WE at h;simp at h;omega
theorem zvh (n d:Int):Nat.gcd (zcR n).toNat d.toNat=Int.gcd n d.toNat:=by
 unfold Int.gcd zcR;congr 1;split<;>omega
theorem ZE {b:Nat}(h:0<b):zcU (b:Int) 1=(b:Int):=by
 unfold zcU;split<;>omega
variable{pre:List Nat}
theorem zoY {a0 b0 a b:Nat}(h:zeQ a0 b0=pre++zeQ a b)(ha:a≠0):pre++[a]<+:zeQ a0 b0:=by
 rw [h,zeQ,if_neg ha];have key:∀ l:List Nat,pre++[a]<+:pre++a::l:=fun l=>⟨l,by simp⟩;split
 ·
  exact key _
 ·
  split<;>exact key _
variable{l:List Nat}
theorem zmN {x d:Nat}:(l++[x]).getLastD d=x:=by simp [List.getLastD_eq_getLast?]
theorem zwb (h:((((decide (d<1)||decide (d>1073741824))||decide (n< -1073741824))||decide (n>1073741824))||(zoz n d != 1))=true):WE n d=false:=by unfold WE;rw [h];rfl
theorem zqj (h:((((decide (d<1)||decide (d>1073741824))||decide (n< -1073741824))||decide (n>1073741824))||(zoz n d != 1))=false):WE n d=true:=by unfold WE;rw [h];rfl
/-! ### Fields as cells -/
def foF (f:Int):Nat:=if f=1 then 1 else if f=2 then 2 else if f=3 then 3 else if f=4 then 5 else if f=5 then 6 else if f=6 then 7 else if f=7 then 8 else 9
def zxf (x:Sg)(f:Int):Int:=if f=1 then x.role else if f=2 then x.bar else if f=3 then x.mark else if f=4 then x.side else if f=5 then x.dir else if f=6 then x.level else if f=7 then x.size else x.wth
def zBj (b:Nat):List Value:=[.pointer none,.pointer (some ⟨b,0+1,none⟩),.pointer (some ⟨b,0+2,none⟩),.pointer (some ⟨b,0+3,none⟩),.pointer (some ⟨b,0+5,none⟩),.pointer (some ⟨b,0+6,none⟩),.pointer (some ⟨b,0+7,none⟩),.pointer (some ⟨b,0+8,none⟩),.pointer (some ⟨b,0+9,none⟩)]
theorem zbZ (h:1≤f∧f≤8):f=1∨f=2∨f=3∨f=4∨f=5∨f=6∨f=7∨f=8:=kB
theorem zdx (h:1≤f∧f≤8)(b:Nat):(zBj b)[f.toNat*1]? =some (.pointer (some ⟨b,foF f,none⟩)):=by
 rcases zbZ h with rfl | rfl | rfl | rfl | rfl | rfl | rfl | rfl<;>rfl
theorem zhm (h:1≤f∧f≤8)(x:Sg):zj8 (zgr x) (foF f)=some (.int .i64 (zxf x f)):=by
 rcases zbZ h with rfl | rfl | rfl | rfl | rfl | rfl | rfl | rfl<;>rfl
theorem zvC :Nat.blt (foF f) 14=true:=by
 unfold foF
 repeat' split
 all_goals rfl
theorem znj (h:1≤f∧f≤8)(x y:Sg):(zgr x).toArray.setIfInBounds (foF f) (.int .i64 (zxf y f))=(zgr (Uj x f y)).toArray:=by
 rcases zbZ h with rfl | rfl | rfl | rfl | rfl | rfl | rfl | rfl<;>rfl
def zjD (v:List Int)(k:Nat)(l:Int):Prop:=(k=0→l=0)∧∀ y,v[k-1]? =some y→k≠0→l=y
variable{v:List Int}
theorem zdn {x:Int}(hx:v[k]? =some x):zjD v (k+1) x:=⟨fun h=>kB,fun y hy _=>by simp at hy;rw [hx] at hy;cases hy;rfl⟩
variable{id:Int}
theorem zwu {l x:Int}(hall:(List.range k).all (ndP id v)=true)(hl:zjD v k l)(hx:v[k]? =some x):ndP id v k= !(decide (x≤l)||decide (x≥id)):=by
 unfold ndP;rw [VL hx]
 cases k with
 | zero=>
  rw [hl.1 rfl];rw [Bool.eq_iff_iff];simp;omega
 | succ k=>
  have hk:=(List.getElem?_eq_some_iff.1 hx).1;have hy:v[k]? =some (v[k]' kB):=List.getElem?_eq_getElem _;have e:=hl.2 _ (by rw [Nat.add_sub_cancel];exact hy) kB;rw [show (((k+1:Nat):Int)-1).toNat=k by omega,VL hy,←e]
  have h1:1≤l:=by
   rw [List.all_eq_true] at hall;have:=hall k (List.mem_range.2 kB);unfold ndP at this;rw [VL hy] at this;simp at this;omega
  rw [Bool.eq_iff_iff];simp;omega
theorem zsf (h:p.needs.length>32):Uk p=2:=by unfold Uk;rw [if_pos h]
theorem zwU (h:¬p.needs.length>32)(h2:ndB p.id p.needs=false):Uk p=370:=by unfold Uk;rw [if_neg h,h2];rfl
theorem zfB (h:¬p.needs.length>32)(h2:ndB p.id p.needs=true)(h3:(idB p&&U7 p)=false):Uk p=370:=by unfold Uk;rw [if_neg h,h2,h3];rfl
theorem zhR (h:¬p.needs.length>32)(h2:ndB p.id p.needs=true)(h3:(idB p&&U7 p)=true):Uk p=0:=by unfold Uk;rw [if_neg h,h2,h3];rfl
theorem zuc (h:p.kind=1)(h2:within p.field 1 9=true):U7 p=(zkl (Uj p.nw p.field Kb) Kb&&frm (Uj zfe p.field p.nw)):=by unfold U7;rw [if_pos h,h2,Bool.true_and]
theorem zzJ (h:p.kind=1)(h2:within p.field 1 9=false):(idB p&&U7 p)=false:=by unfold U7;rw [if_pos h,h2,Bool.false_and,Bool.and_false]
theorem zub (h:p.kind=2):U7 p=(p.field==0&&(p.nw.id==p.sign&&frm p.nw)):=by unfold U7;rw [if_neg kB,if_pos h]
theorem zuY (h:p.kind=3):U7 p=(p.field==0&&zkl p.nw Kb):=by unfold U7;rw [if_neg kB,if_neg kB,if_pos h]
theorem zAh (h1:p.kind≠1)(h2:p.kind≠2)(h3:p.kind≠3):(idB p&&U7 p)=false:=by unfold U7;rw [if_neg h1,if_neg h2,if_neg h3,Bool.and_false]
variable{fn fd tn td:Int}
theorem zmq :(zwm fn fd != 0||zwm tn td != 0)= !(WE fn fd&&WE tn td):=by
 unfold zwm;cases WE fn fd<;>cases WE tn td<;>rfl
def zw3 (an ad bn bd:Int):Int:=if WE an ad&&WE bn bd then 0 else 120
def zzo (an ad bn bd:Int):Int:=if WE an ad&&WE bn bd then zga (an*bd) (bn*ad) else 0
theorem ztP :(((zw3 fn fd tn td==0)&&decide (zzo fn fd tn td<0))&&decide (fn≥0)&&decide (tn≤td))=zcL fn fd tn td:=by
 unfold zw3 zzo zcL zga
 cases h:(WE fn fd&&WE tn td) with
 | false=>rfl
 | true=>
  simp only [if_true,Bool.true_and];by_cases h2:fn*td<tn*fd
  ·
   simp [h2]
  ·
   by_cases h3:fn*td>tn*fd<;>simp [h2,h3]
theorem ziy {xs:List Sg}(hx:xs[k]? =some x):skP xs k= !(!frm x||(decide ((k:Int)>0)&&decide ((xs.getD ((k:Int)-1).toNat Kb).id≥x.id))):=by unfold skP;rw [VL hx]
end
end Go.Proofs.YtjblkbkmblkgoaaGreat
namespace Go.Proofs.YtjblkbkmblkgoaaGreat.L
section
open Go Go.Kn Go.Proofs
structure Ls where
 no:Int
 person:Int
 version:Int
 at_:Int
 known:Int
def encL (x:Ls):List Value:=[.int .i64 x.no,.int .i64 x.person,.int .i64 x.version,.int .i64 x.at_,.int .i64 x.known]
def encA (x:Ls):Value:=.agg (encL x).toArray
def Z5 (n:Int):List Value:=[.int .i64 n]
def zeroL:Ls:=⟨0,0,0,0,0⟩
theorem encL_len (x:Ls):(encL x).length=5:=rfl
theorem YL (x:Int):(Z5 x).length=1:=rfl
theorem za5 (xs:List Int):Y4 (xs.flatMap Z5)=true:=YR (fun _=>rfl) xs
def lsEq (x y:Ls):Bool:=x.no==y.no&&(x.person==y.person&&(x.version==y.version&&(x.at_==y.at_&&(x.known==y.known&&true))))
theorem lsEq_iff {x y:Ls}:lsEq x y=true↔x=y:=by
 obtain ⟨a,b,c,d,e⟩:=x;obtain ⟨a',b',c',d',e'⟩:=y;simp [lsEq]
instance : DecidableEq Ls := fun a b => decidable_of_iff (lsEq a b = true) lsEq_iff
def within (n lo hi:Int):Bool:=decide (n≥lo)&&decide (n≤hi)
def zaS (x:Ls):Bool:=within x.no 0 1048576&&within x.person 0 63&&within x.version 0 512&&within x.at_ 0 73048&&within x.known 0 134217727
def zrv (xs:List Ls)(i:Nat):Ls:=xs.getD ((i:Int)-1).toNat zeroL
def ckP (xs:List Ls)(i:Nat):Bool:= !(!zaS (xs.getD i zeroL)||(decide ((i:Int)>0)&&decide ((xs.getD i zeroL).no≤(zrv xs i).no)))
def ckB (xs:List Ls):Bool:=(List.range xs.length).all (ckP xs)
def chk (xs:List Ls):Int:=if xs.length>4096 then 2 else if ckB xs then 0 else 390
variable{p:Nat→Bool}{k:Nat}
theorem Ji (h:(List.range k).all p=true)(hp:p k=true):(List.range (k+1)).all p=true:=by
 rw [List.range_succ,List.all_append,h];simpa using hp
variable{n:Nat}
theorem Ka (hk:k<n)(hp:p k=false):(List.range n).all p=false:=by
 cases h:(List.range n).all p with
 | false=>rfl
 | true=>
  rw [List.all_eq_true] at h;rw [h k (List.mem_range.2 hk)] at hp;cases hp
variable{α:Type}{xs:List α}{d:α}
theorem VL {x:α}(h:xs[k]? =some x):xs.getD k d=x:=by simp [List.getD,h]
theorem Uw (hl:xs.length=n)(h:k<n):xs[k]? =some (xs.getD k d):=by
 have:k<xs.length:=kB;unfold List.getD;rw [List.getElem?_eq_getElem this];rfl
section
variable {xs:List Ls} {vss:List (List Int)} {person day time:Int} {ts:List Int}
end
variable{R:α→α→Prop}{l:List α}
theorem zaG (ht:∀ a b c,R a b→R b c→R a c)(h:∀ k (hk:k+1<l.length),R (l[k]' kB) l[k+1]):l.Pairwise R:=by
 have key:∀ (n i:Nat) (hn:i+n<l.length),0<n→R (l[i]' kB) l[i+n]:=by
  intro n
  induction n with
  | zero=>intro i _ h0;omega
  | succ n ih=>
   intro i hn _;have h2:=h (i+n) kB;by_cases e:n=0
   ·
    subst e;exact h2
   ·
    exact ht _ _ _ (ih i kB kB) h2
 rw [List.pairwise_iff_getElem];intro i j hi hj hij;have:=key (j-i) i kB kB;simpa [show i+(j-i)=j by omega] using this
end
end Go.Proofs.YtjblkbkmblkgoaaGreat.L
namespace Go.Proofs.YtjblkbkmblkgoaaGreat.S
section
open Go Go.Kn
structure Rt where
 no:Int
 kind:Int
 edition:Int
 holder:Int
 sign:Int
 ends:Int
 name:ByteArray
 town:ByteArray
 lo:Int
 hi:Int
 known:Int
def encR (x:Rt):List Value:=[.int .i64 x.no,.int .i64 x.kind,.int .i64 x.edition,.int .i64 x.holder,.int .i64 x.sign,.int .i64 x.ends,.string x.name,.string x.town,.int .i64 x.lo,.int .i64 x.hi,.int .i64 x.known]
def encA (x:Rt):Value:=.agg (encR x).toArray
def Z5 (n:Int):List Value:=[.int .i64 n]
def Xu (p:Int×Int):List Value:=[.int .i64 p.1,.int .i64 p.2]
def zeroR:Rt:=⟨0,0,0,0,0,0,⟨#[]⟩,⟨#[]⟩,0,0,0⟩
theorem encR_len (x:Rt):(encR x).length=11:=rfl
theorem YL (x:Int):(Z5 x).length=1:=rfl
theorem XC (x:Int×Int):(Xu x).length=2:=rfl
def rtEq (x y:Rt):Bool:=
 x.no==y.no&&(x.kind==y.kind&&(x.edition==y.edition&&(x.holder==y.holder&&(x.sign==y.sign&&(x.ends==y.ends&&(Kz x.name y.name&&(Kz x.town y.town&&(x.lo==y.lo&&(x.hi==y.hi&&(x.known==y.known&&true))))))))))
theorem rtEq_iff {x y:Rt}:rtEq x y=true↔x=y:=by
 cases x;cases y;simp only [rtEq,Bool.and_eq_true,beq_iff_eq,zch,Rt.mk.injEq,and_true]
def within (n lo hi:Int):Bool:=decide (lo≤n)&&decide (n≤hi)
def w64 (n:Int):Int:=IntKind.i64.wrap n
def zlF (x:Rt):Bool:=decide (x.lo≥0)&&decide (x.lo≤x.hi)&&decide (x.hi≤73048)&&within x.edition 0 1048576
def heldF (x:Rt):Bool:=rtEq x {x with ends:=0,name:=⟨#[]⟩,town:=⟨#[]⟩ }&&zlF x&&within x.holder 0 63&&within x.sign 0 1048577
def billF (x:Rt):Bool:=rtEq x {x with holder:=0,sign:=0,ends:=0}&&zlF x&&within x.name.size 1 32&&within x.town.size 1 32
def voidF (x:Rt)(bs:List (Int×Rt)):Bool:=match ZQ bs (w64 (x.ends-1)) with
 | none=>false
 | some old=>(old.kind != 4)&&decide (old.known≤x.known)&&rtEq x {zeroR with no:=x.no,kind:=x.kind,ends:=x.ends,known:=x.known}
def zdA (k:Int):Bool:=k==1||k==2||k==3||k==4
def askF (k:Int)(x:Rt)(bs:List (Int×Rt)):Bool:=if k=1 then billF x else if k=2 then heldF x else if k=3 then heldF x else voidF x bs
def rBad (x:Rt)(bs:List (Int×Rt))(last:Int):Bool:= !zdA x.kind||decide (x.no≤last)||decide (x.no>1048576)|| !within x.known 0 134217727|| !askF x.kind x bs
def rGo:List Rt→List (Int×Rt)→Int→Int
 | [],_,_=>0
 | x::xs,bs,last=>if rBad x bs last then 460 else rGo xs (JB bs x.no x) x.no
def rCheck (xs:List Rt):Int:=if xs.length>512 then 2 else rGo xs [] (-1)
def zjQ (x:Rt):Bool:=within x.lo 0 x.hi&&decide (x.hi≤73048)
def zjK (s:ByteArray):Bool:=within s.size 1 32
def zgx (pre:List Rt)(x:Rt):Bool:=pre.any fun y=>(w64 (y.no+1)==x.ends)&&(y.kind != 4)&&decide (y.known≤x.known)
def zcT:ByteArray:=⟨#[]⟩
def WR (x:Rt):Bool:=zjQ x&&within x.edition 0 1048576&&within x.holder 0 63&&within x.sign 0 1048577&&Kz x.name zcT&&Kz x.town zcT&&(x.ends==0)
def Xd (pre:List Rt)(x:Rt):Bool:=
 if x.kind==1 then zjQ x&&within x.edition 0 1048576&&zjK x.name&&zjK x.town&&(x.holder==0)&&(x.sign==0)&&(x.ends==0)
 else if x.kind==2 then WR x
 else if x.kind==3 then WR x
 else if x.kind==4 then zgx pre x&&(x.edition==0)&&(x.holder==0)&&(x.sign==0)&&Kz x.name zcT&&Kz x.town zcT&&(x.lo==0)&&(x.hi==0)
 else false
def Jl (i:Nat)(pre:List Rt)(y x:Rt):Bool:=
 if (!within x.no 0 1048576||(decide ((i:Int)>0)&&decide (x.no≤y.no))|| !within x.known 0 134217727) then false else Xd pre x
def zc6 (xs:List Rt)(i:Nat):Rt:=(xs[((i:Int)-1).toNat]?).getD zeroR
def WU (xs:List Rt)(i:Nat):Bool:=Jl i (xs.take i) (zc6 xs i) ((xs[i]?).getD zeroR)
def fCheck (xs:List Rt):Int:=if xs.length>512 then 2 else if (List.range xs.length).all (WU xs) then 0 else 460
instance : DecidableEq Rt := fun a b => decidable_of_iff (rtEq a b = true) rtEq_iff
theorem X3 {α:Type}{xs:List α}{k:Nat}{x:α}(h:xs[k]? =some x):xs.drop k=x::xs.drop (k+1):=by
 obtain ⟨hk,rfl⟩:=List.getElem?_eq_some_iff.1 h;exact List.drop_eq_getElem_cons hk
theorem Jr {α β:Type}[DecidableEq α](m:List (α×β))(a k:α)(b:β):ZQ (JB m a b) k=if a=k then some b else ZQ m k:=by
 induction m with
 | nil=>simp [JB,ZQ]
 | cons p m ih=>
  simp only [JB];split
  ·
   rename_i h;simp only [ZQ];by_cases h2:a=k
   ·
    simp [h2]
   ·
    simp [h2,h]
  ·
   rename_i h;simp only [ZQ,ih];by_cases h2:a=k
   ·
    subst h2;simp [h]
   ·
    simp [h2]
end
end Go.Proofs.YtjblkbkmblkgoaaGreat.S
namespace Go.Proofs.YtjblkbkmblkgoaaGreat
section
open Go Go.Kn Go.Proofs
structure Nt where
 kind:Int
 lm:Lm
 pt:Pt
 ls:L.Ls
 rt:S.Rt
def Zf (x:Nt):List Value:=[.int .i64 x.kind,.int .i64 x.lm.no,.int .i64 x.lm.person,.int .i64 x.lm.ends,.int .i64 x.lm.lo,.int .i64 x.lm.hi,.int .i64 x.lm.known,.int .i64 x.lm.ck,.int .i64 x.lm.cl,.int .i64 x.lm.cn,.int .i64 x.pt.id,.int .i64 x.pt.kind,.int .i64 x.pt.sign,.int .i64 x.pt.field,.int .i64 x.pt.nw.id,.int .i64 x.pt.nw.role,.int .i64 x.pt.nw.bar,.int .i64 x.pt.nw.mark,.int .i64 x.pt.nw.kind,.int .i64 x.pt.nw.side,.int .i64 x.pt.nw.dir,.int .i64 x.pt.nw.level,.int .i64 x.pt.nw.size,.int .i64 x.pt.nw.wth,.int .i64 x.pt.nw.fn,.int .i64 x.pt.nw.fd,.int .i64 x.pt.nw.tn,.int .i64 x.pt.nw.td,.slice x.pt.a x.pt.n x.pt.c,.int .i64 x.ls.no,.int .i64 x.ls.person,.int .i64 x.ls.version,.int .i64 x.ls.at_,.int .i64 x.ls.known,.int .i64 x.rt.no,.int .i64 x.rt.kind,.int .i64 x.rt.edition,.int .i64 x.rt.holder,.int .i64 x.rt.sign,.int .i64 x.rt.ends,.string x.rt.name,.string x.rt.town,.int .i64 x.rt.lo,.int .i64 x.rt.hi,.int .i64 x.rt.known]
def J0 (x:Nt):Value:=.agg (Zf x).toArray
theorem Z2 (x:Nt):(Zf x).length=45:=rfl
theorem zrO (xs:List S.Rt):Y4 (xs.flatMap S.encR)=true:=YR (fun _=>rfl) xs
theorem zan (xs:List Nt):Y4 (xs.flatMap Zf)=true:=YR (fun _=>rfl) xs
def zcy:Nt:=⟨0,VU,JD,L.zeroL,S.zeroR⟩
def zqG (x y:Lm):Bool:=x.no==y.no&&(x.person==y.person&&(x.ends==y.ends&&(x.lo==y.lo&&(x.hi==y.hi&&(x.known==y.known&&(x.ck==y.ck&&(x.cl==y.cl&&(x.cn==y.cn&&true))))))))
theorem zng {x y:Lm}:zqG x y=true↔x=y:=by
 obtain ⟨a1,a2,a3,a4,a5,a6,a7,a8,a9⟩:=x;obtain ⟨b1,b2,b3,b4,b5,b6,b7,b8,b9⟩:=y;simp [zqG]
def z1 (x:Nt):Bool:=zqG x.lm VU
def z2 (x:Nt):Bool:=((((x.pt.id==0&&x.pt.kind==0)&&x.pt.sign==0)&&x.pt.field==0)&&zkl x.pt.nw Kb)&&((x.pt.n:Int)==0)
def z3 (x:Nt):Bool:=L.lsEq x.ls L.zeroL
def z4 (x:Nt):Bool:=S.rtEq x.rt S.zeroR
def zaJ (x:Nt):Bool:=(((x.kind==1||z1 x)&&(x.kind==2||z2 x))&&(x.kind==3||z3 x))&&(x.kind==4||z4 x)
theorem XX {m:List (Int×Bool)}{k j:Int}{b:Bool}(h:ZQ m j=some b):(ZQ (JB m k true) j).getD false=(k==j||b):=by
 rw [Jr];by_cases e:k=j
 ·
  simp [e]
 ·
  rw [if_neg e,h];simp [e]
theorem zrm {m:List (Int×Bool)}{x:Nt}(h1:ZQ m 1=some (z1 x))(h2:ZQ m 2=some (z2 x))(h3:ZQ m 3=some (z3 x))(h4:ZQ m 4=some (z4 x)):
  (((ZQ (JB m x.kind true) 1).getD false&&(ZQ (JB m x.kind true) 2).getD false)&&(ZQ (JB m x.kind true) 3).getD false&&(ZQ (JB m x.kind true) 4).getD false)=zaJ x:=by
 rw [XX h1,XX h2,XX h3,XX h4];rfl
def lmC (x:Lm):List Lm:=if x.ends=0 then [x] else [⟨IntKind.i64.wrap (x.ends-1),x.person,0,0,0,0,3,0,1⟩,x]
def rtC (x:S.Rt):List S.Rt:=if x.ends=0 then [x] else [⟨IntKind.i64.wrap (x.ends-1),1,0,0,0,0,⟨#[97]⟩,⟨#[97]⟩,0,0,0⟩,x]
def W7 (x:Nt):Int:=if x.kind=1 then zg7 (lmC x.lm) else if x.kind=2 then Uk x.pt else if x.kind=3 then L.chk [x.ls] else if x.kind=4 then S.rCheck (rtC x.rt) else 570
def QN (x:Nt):Bool:=W7 x==0&&zaJ x
def vcI (n:Int):Vc:=⟨1,n,⟨#[]⟩,none,0,0⟩
def vcT (s:ByteArray):Vc:=⟨2,0,s,none,0,0⟩
def zBH (v:Value):Value:=.agg #[.int .i64 3,.int .i64 0,.string ⟨#[]⟩,v]
def zkr:List Nat:=[0,1,2,3,4,5,6,7,8,9,10,11,12,13,14,15,16,17,18,19,20,21,22,23,24,25,26,27,29,30,31,32,33,34,35,36,37,38,39,42,43,44]
def zvo (b:Nat):List Value:=zkr.map fun o=>.pointer (some ⟨b,o,none⟩)
def zBl (b:Nat):Value:=.agg (zvo b).toArray
end
end Go.Proofs.YtjblkbkmblkgoaaGreat
namespace Go.Kn
section
open Go Go.Sort Go.Shelf Go.Lib Go.Proofs
theorem zqB {w w':World}{L:Loc}(h:St w (fun b=>w.heap[b]?) (fun _=>none) L w'):∃ q os',w'=grow (w.drewN q) os':=by
 refine ⟨w'.drawn-w.drawn,w'.heap.extract w.heap.size w'.heap.size,?_⟩;have h1:=h.size
 have hh:w.heap++w'.heap.extract w.heap.size w'.heap.size=w'.heap:=by
  apply Array.ext';apply List.ext_getElem?;intro i;by_cases hi:i<w.heap.size
  ·
   have:=h.imm i _ (Array.getElem?_eq_getElem hi);rw [Array.getElem?_toList,Array.getElem?_toList,this,Array.getElem?_append_left hi,Array.getElem?_eq_getElem hi]
  ·
   rw [Array.getElem?_toList,Array.getElem?_toList,Array.getElem?_append_right kB,Array.getElem?_extract];by_cases h2:i<w'.heap.size
   ·
    rw [if_pos kB,show w.heap.size+(i-w.heap.size)=i by omega]
   ·
    rw [if_neg kB,Array.getElem?_eq_none kB]
 have e1:=h.os;have e2:=h.tape;have e3:=h.out;cases w;cases w';simp only [grow,World.drewN] at*;subst e1;subst e2;subst e3;simp only [World.mk.injEq,true_and,and_true];exact ⟨hh.symm,kB⟩
theorem zmH {α:Type}[Inhabited α]{enc:α→List Value}{k:Nat}(hk:∀ x,(enc x).length=k)(hpos:0<k)(xs:List α):flatK enc k xs.toArray=(xs.flatMap enc).toArray:=by
 have hl:(xs.flatMap enc).length=xs.length*k:=Yp hk xs;apply Array.ext
 ·
  rw [size_flatK];simp [hl]
 ·
  intro t h1 h2;have ht:t<xs.length*k:=(by rw [size_flatK] at h1;simpa using h1);have hq:t / k<xs.length:=(by rw [Nat.div_lt_iff_lt_mul hpos];exact ht);have hr:t % k<k:=Nat.mod_lt _ hpos;have hx:xs[t / k]? =some xs[t / k]:=List.getElem?_eq_getElem hq;have hu:(enc xs[t / k])[t % k]? =some ((enc xs[t / k])[t % k]'(by rw [hk];exact hr)):=List.getElem?_eq_getElem _;have h3:=zcv hk xs (t / k) _ hx (t % k) _ hu;rw [Nat.mul_comm,Nat.div_add_mod] at h3;have h4:=get_flatK enc k xs.toArray t (by simpa using ht);rw [getElem!_pos (flatK enc k xs.toArray) t h1] at h4;rw [h4];have e1:xs.toArray[t / k]! =xs[t / k]'hq:=(by simp [hq]);rw [e1];have e2:(enc (xs[t / k]'hq))[t % k]! =(enc (xs[t / k]'hq))[t % k]'(by rw [hk];exact hr):=getElem!_pos (enc (xs[t / k]'hq)) (t % k) (by rw [hk];exact hr);rw [e2];have e3:(xs.flatMap enc).toArray[t]? =some ((enc xs[t / k])[t % k]'(by rw [hk];exact hr)):=(by simpa using h3);rw [Array.getElem?_eq_getElem h2] at e3;exact (Option.some.inj e3).symm
end
end Go.Kn
namespace Go.Proofs.YtjblkbkmblkgoaaGreat
section
open Go Go.Kn Go.Proofs
theorem Vx:ElT Tryz.prog 57 45 45 392:=.of kA
theorem Wx:ElT Tryz.prog 62 32 9 72:=.of kA
theorem Wv:ElT Tryz.prog 65 43 11 104:=.of kA
theorem Zj:SlT Tryz.prog 57 45 45:=.of kA
theorem Yn:SlT Tryz.prog 65 43 11:=.of kA
theorem zpP:Tryz.prog.underlying 3=some (.int .i64):=kA
variable{zs:List Value}{b:Nat}
theorem zkV {a:Nat}(h:a+b≤zs.length):∃ p q r,zs=p++(q++r)∧p.length=a∧q.length=b:=
 ⟨zs.take a,(zs.drop a).take b,(zs.drop a).drop b,by rw [List.take_append_drop,List.take_append_drop],by rw [List.length_take];omega,by rw [List.length_take,List.length_drop];omega⟩
theorem zri (xs:List Lm):(xs.flatMap Zz).length=xs.length*9:=Yp Js xs
variable{n c:Nat}{cur rest:List Value}
theorem zdX {xs:List Lm}(hl:xs.length=n)(hn:n≤c)(hc:c≤maxLen)(hcur:cur=xs.flatMap Zz++rest)(hs:cur.length=c*9):ZU 32 9 (.slice (some ⟨b,0,none⟩) n c) n (xs.flatMap Zz) [(b,.cells cur.toArray 32 (0,0))]:=by
 subst hcur;refine ⟨by rw [zri,hl],.inr ⟨b,c,_,rfl,rfl,hn,hc,by simpa using hs,?_⟩⟩;rw [List.take_left' (by rw [zri,hl])]
variable{I:Qu}{av:Option Addr}
theorem zjV {xs:List Lm}{L:Go.Kn.Loc}(hO:ZU 32 9 (.slice av n c) n (xs.flatMap Zz) L)(hn:n≤100000)(hl:xs.length=n)(b2:Nat)(y:Lm):YE Tryz.prog 170 [.slice av n c,.int .i64 n,.slice (some ⟨b2,0,none⟩) 1 1] I (L++[(b2,.cells [Zz y].flatten.toArray 32 (0,0))]) (fun v' I' L'=>I'=I∧ZU 32 9 v' (n+1) ((xs.take n++y::xs.drop n).flatMap Zz) L'):=by
 intro g H w hw;refine qe Tryz.func170 Tryz.ntmps170 hw ?_;refine zR (zA<|zN (zR ?_));refine zM ?_;refine zM ?_;refine zV (Z9 rfl rfl ZY (fun hg=>kB))<|zN (zR ?_)
 refine zM<|zQ ZY<|zA (zN (Qm (zR<|zM<|zC (zN ?_))))
 refine zI ?_ ?_<;>intro hc16
 ·
  exact absurd hc16 kC
 refine Qr (Qd (zR (zM<|zQ ZY<|zA (zN (Qm (zR<|zM ?_))))));refine zM<|zC (zN ?_)
 refine zI ?_ ?_<;>intro hc22
 ·
  refine zR (zM ?_);refine zM<|zpa (_) ([Zz y].flatten) (L) rfl rfl Wx hO ⟨rfl,fun _=>rfl,.app zB4⟩ rfl ?_
  intro v' L' hO' _;refine zA (zN (Qs (Qf ?_)));exact Qx rfl rfl (fun w hw=>⟨_,I,_,rfl,zB6 _,hw.subL QL,rfl,by rw [List.take_of_length_le kB,List.drop_eq_nil_of_le kB];simpa [List.flatMap_append] using hO'⟩)
 exact absurd hc22 kJ
variable{i:Nat}{R:List Value}
theorem zks {xs:List Lm}(hl:xs.length=n)(hi:i<n)(hn:n≤100000)(hnc:n≤c)(hcm:c≤maxLen)(hR:(((xs.take i).flatMap Zz)++((xs.drop i).flatMap Zz)++R).length=c*9)(b2:Nat)(hne:b2≠b)(y:Lm):YE Tryz.prog 170 [.slice (some ⟨b,0,none⟩) n c,.int .i64 i,.slice (some ⟨b2,0,none⟩) 1 1] I ([(b,.cells (((xs.take i).flatMap Zz)++((xs.drop i).flatMap Zz)++R).toArray 32 (0,0)),(b2,.cells [Zz y].flatten.toArray 32 (0,0))]) (fun v' I' L'=>I'=I∧ZU 32 9 v' (n+1) ((xs.take i++y::xs.drop i).flatMap Zz) L'):=by
 intro g H w hw;refine qe Tryz.func170 Tryz.ntmps170 hw ?_;have hA:((xs.take i).flatMap Zz).length=i*9:=(by rw [zri,List.length_take];omega);have hB:((xs.drop i).flatMap Zz).length=(n-i)*9:=(by rw [zri,List.length_drop];omega);have hY:[Zz y].flatten.length=9:=rfl;refine zR (zA<|zN (zR ?_));refine zM ?_;refine zM ?_;refine zV (Zy rfl rfl ZY kB)<|zN (zR ?_)
 refine zM<|zQ ZY<|zA (zN (Qm (zR<|zM<|zC (zN ?_))))
 refine zI ?_ ?_<;>intro hc16
 ·
  exact absurd hc16 kC
 refine Qr (Qd (zR (zM<|zQ ZY<|zA (zN (Qm (zR<|zM ?_))))));refine zM<|zC (zN ?_)
 refine zI ?_ ?_<;>intro hc22
 ·
  have h:=hc22;simp at h;omega
 refine Qr (Qd (Qm (zR (zM ?_))));refine zM ?_;refine zB<|zM<|zV (zoG rfl ZY)<|zC (zN ?_)
 refine zI ?_ ?_<;>intro hc31
 ·
  have hgr:c<n+1:=(by have h:=hc31;simp at h;omega);refine zR (zM ?_);refine zM ?_;refine zV (Yw rfl rfl ZY (fun hg=>kB))<|zM ?_
  refine zM ?_;refine zB<|zM ?_
  refine zB ?_;refine zay (ys:=((xs.take i).flatMap Zz)) rfl rfl Wx zpP kB kC kB hA (Cells.part (pre:=[]) (post:=((xs.drop i).flatMap Zz)++R) (by rw [List.nil_append,←List.append_assoc];exact .here) rfl) kB rfl rfl (fun b3 c3 zs hc3 hm3 hz3=>?_);obtain ⟨z1,z2,z3,rfl,hz1,hz2⟩:=zkV (zs:=zs) (a:=9) (b:=(n-i)*9) (by rw [List.length_append,hA] at hz3;omega);refine zA<|zN (zR ?_)
  refine zM ?_;refine zM ?_;refine zV (Zy rfl rfl ZY kB)<|zM ?_
  refine Ki (pre:=((xs.take i).flatMap Zz)) (old:=z1) (post:=z2++z3) (vs:=[Zz y].flatten) (cur':=(((xs.take i).flatMap Zz)++[Zz y].flatten++(z2++z3)).toArray) (by rw [List.append_assoc]) rfl rfl rfl ZY (by show 9=_;simp only [Nat.min_def];split<;>omega) (by rw [hz1];rfl) kB (fun _=>rfl) (.there (.there .here)) rfl rfl rfl .here ?_;refine zN (Qm ?_);have hD:=zB6 I;refine Zn<|QJ I [] mixed<|zT 0 rfl (Qe rfl) hD<|zT 1 rfl (Qe rfl) hD<|zT 2 rfl (Qe rfl) hD<|zT 3 rfl (Ya rfl rfl rfl (fun _=>kB)) hD<|zT 4 rfl (Zy rfl rfl ZY kB) hD<|zT 5 rfl (Qe rfl) hD<|zT 6 rfl (Qe rfl) hD<|zT 7 rfl (Zy rfl rfl ZY kB) hD<|qd 8 rfl ?_
  refine Ki (pre:=((xs.take i).flatMap Zz)++[Zz y].flatten) (old:=z2) (post:=z3) (vs:=((xs.drop i).flatMap Zz)) (cur':=(((xs.take i).flatMap Zz)++[Zz y].flatten++((xs.drop i).flatMap Zz)++z3).toArray) kT rfl rfl rfl ZY (by rw [hB];simp only [Nat.min_def];split<;>omega) (by rw [hz2,hB]) (by rw [List.length_append,hA,hY];omega) (fun _=>rfl) (.there (Cells.part (pre:=((xs.take i).flatMap Zz)) (post:=R) .here (by show 0+_=_;rw [hA];omega))) (zrW _) rfl rfl .here ?_;refine Qb<|zD hD<|Qn kA<|Qv<|Qd (zR (zM<|zA (zN (Qs (Qf ?_)))))
  first
  | exact Qx rfl rfl (fun w hw=>⟨_,I,_,rfl,zB6 _,hw.subL (.keep Qq),rfl,by rw [show (i:Int).toNat+((n:Int)+((1:Nat):Int)-(i:Int)).toNat=n+1 by omega];exact zdX (rest:=z3) (by simp [hl];omega) kB hm3 kN (by simp only [List.length_append,hA,hB,hz1,hz2] at hz3 ⊢;rw [hY];omega)⟩)
 have hgr:n+1≤c:=(by have h:=hc31;simp at h;omega);refine Qr (Qd (Qm ?_));obtain ⟨r5,R2,rfl,hr5⟩:∃ r5 R2,R=r5++R2∧r5.length=9:=⟨R.take 9,R.drop 9,by rw [List.take_append_drop],by rw [List.length_take];simp only [List.length_append,hA,hB] at hR;omega⟩;obtain ⟨p1,p2,hpp,hp1,hp2⟩:∃ p1 p2,((xs.drop i).flatMap Zz)++r5=p1++p2∧p1.length=9∧p2.length=(n-i)*9:=⟨(((xs.drop i).flatMap Zz)++r5).take 9,(((xs.drop i).flatMap Zz)++r5).drop 9,by rw [List.take_append_drop],by rw [List.length_take,List.length_append,hB,hr5];omega,by rw [List.length_drop,List.length_append,hB,hr5];omega⟩;have hcur:(((xs.take i).flatMap Zz)++((xs.drop i).flatMap Zz)++(r5++R2)).toArray=(((xs.take i).flatMap Zz)++p1++p2++R2).toArray:=(by rw [List.append_assoc (((xs.take i).flatMap Zz)++p1),List.append_assoc ((xs.take i).flatMap Zz) p1,←List.append_assoc p1,←hpp];simp only [List.append_assoc]);refine Qh (zM ?_);refine zM ?_;refine zM ?_;refine zB ?_;refine zV (Yw rfl rfl ZY (fun hg=>kB))<|zA (zN (Qm (zR<|zM ?_)))
 refine zM ?_;refine zM ?_;refine zM ?_;refine zB ?_;refine zV (Zy rfl rfl ZY kB)<|Xm rfl rfl rfl Tryz.func222 kA kA kA (by kernel_rfl:Extern.find Tryz.f222=some (Extern.SlicesOverlaps.overlaps #[62,62] #[4])) ZY hne (List.mem_cons_of_mem _ (List.mem_cons_self ..)) (List.mem_cons_self ..) (by rw [List.size_toArray,hR];omega) rfl rfl<|zO (zN ?_)
 refine zI ?_ ?_<;>intro hc68
 ·
  refine Qm ?_;have hD:=zB6 I;refine Zn<|QJ I [] mixed<|zT 0 rfl (Qe rfl) hD<|zT 1 rfl (Qe rfl) hD<|zT 2 rfl (Qe rfl) hD<|zT 3 rfl (Ya rfl rfl rfl (fun _=>kB)) hD<|zT 4 rfl (Zy rfl rfl ZY kB) hD<|zT 5 rfl (Qe rfl) hD<|zT 6 rfl (Qe rfl) hD<|zT 7 rfl (Zy rfl rfl ZY kB) hD<|qd 8 rfl ?_
  refine Ki (pre:=((xs.take i).flatMap Zz)++p1) (old:=p2) (post:=R2) (vs:=((xs.drop i).flatMap Zz)) (cur':=(((xs.take i).flatMap Zz)++p1++((xs.drop i).flatMap Zz)++R2).toArray) hcur rfl rfl rfl ZY (by rw [hB];simp only [Nat.min_def];split<;>omega) (by rw [hp2,hB]) (by rw [List.length_append,hA,hp1];omega) (fun _=>rfl) (Cells.part (pre:=((xs.take i).flatMap Zz)) (post:=r5++R2) .here (by show 0+_=_;rw [hA];omega)) (zrW _) rfl rfl .here ?_;refine Qb<|zD hD<|Qn kA<|Qv<|Qd (zR (zM<|zM ?_))
  refine zV (Zy rfl rfl ZY kB)<|zM ?_
  refine Ki (pre:=((xs.take i).flatMap Zz)) (old:=p1) (post:=((xs.drop i).flatMap Zz)++R2) (vs:=[Zz y].flatten) (cur':=(((xs.take i).flatMap Zz)++[Zz y].flatten++(((xs.drop i).flatMap Zz)++R2)).toArray) (by rw [List.append_assoc (_++_)]) rfl rfl rfl ZY (by show 9=_;simp only [Nat.min_def];split<;>omega) (by rw [hp1];rfl) kB (fun _=>rfl) (.there .here) rfl rfl rfl .here ?_;refine zN (zR ?_);refine zM<|zA (zN (Qs (Qf ?_)))
  first
  | exact Qx rfl rfl (fun w hw=>⟨_,I,_,rfl,zB6 _,hw.subL (.keep Qq),rfl,by rw [show ((n:Int)+((1:Nat):Int)).toNat=n+1 by omega];exact zdX (rest:=R2) (by simp [hl];omega) hgr hcm kN (by simp only [List.length_append,hA,hB,hr5] at hR ⊢;rw [hY];omega)⟩)
 cases hc68
variable{v:Value}
theorem zlU {xs:List Lm}{L:Go.Kn.Loc}(hO:ZU 32 9 v n (xs.flatMap Zz) L)(hn:n≤100000)(hl:xs.length=n)(hi:i≤n)(b2:Nat)(y:Lm):
  YE Tryz.prog 170 [v,.int .i64 i,.slice (some ⟨b2,0,none⟩) 1 1] I (L++[(b2,.cells [Zz y].flatten.toArray 32 (0,0))]) (fun v' I' L'=>I'=I∧ZU 32 9 v' (n+1) ((xs.take i++y::xs.drop i).flatMap Zz) L'):=by
 by_cases hin:i=n
 ·
  subst hin;obtain ⟨av,c,rfl⟩:=hO.shape;exact zjV hO hn hl b2 y
 rcases hO.2 with ⟨_,h0,_⟩ | ⟨b,c,cur,rfl,rfl,hnc,hcm,hcs,ht⟩
 ·
  omega
 intro g H w hw
 have hne:b2≠b:=fun e=>by
  have:=hw.nodup;subst e;simp at this
 have hsplit:(xs.take i).flatMap Zz++(xs.drop i).flatMap Zz=xs.flatMap Zz:=by rw [←List.flatMap_append,List.take_append_drop]
 have hcur:cur=((xs.take i).flatMap Zz++(xs.drop i).flatMap Zz++cur.toList.drop (n*9)).toArray:=by
  rw [hsplit,←ht,List.take_append_drop,Array.toArray_toList]
 rw [hcur] at hw;exact zks hl kB hn hnc hcm (by rw [hsplit,←ht,List.take_append_drop,Array.length_toList,hcs]) b2 hne y g H w hw
theorem zqD (xs:List S.Rt):(xs.flatMap S.encR).length=xs.length*11:=Yp S.encR_len xs
variable{xs:List S.Rt}
theorem zeE (hl:xs.length=n)(hn:n≤c)(hc:c≤maxLen)(hcur:cur=xs.flatMap S.encR++rest)(hs:cur.length=c*11):ZU 43 11 (.slice (some ⟨b,0,none⟩) n c) n (xs.flatMap S.encR) [(b,.cells cur.toArray 43 (0,0))]:=by
 subst hcur;refine ⟨by rw [zqD,hl],.inr ⟨b,c,_,rfl,rfl,hn,hc,by simpa using hs,?_⟩⟩;rw [List.take_left' (by rw [zqD,hl])]
theorem zjB {L:Go.Kn.Loc}(hO:ZU 43 11 (.slice av n c) n (xs.flatMap S.encR) L)(hn:n≤100000)(hl:xs.length=n)(b2:Nat)(y:S.Rt):YE Tryz.prog 171 [.slice av n c,.int .i64 n,.slice (some ⟨b2,0,none⟩) 1 1] I (L++[(b2,.cells [S.encR y].flatten.toArray 43 (0,0))]) (fun v' I' L'=>I'=I∧ZU 43 11 v' (n+1) ((xs.take n++y::xs.drop n).flatMap S.encR) L'):=by
 intro g H w hw;refine qe Tryz.func171 Tryz.ntmps171 hw ?_;refine zR (zA<|zN (zR ?_));refine zM ?_;refine zM ?_;refine zV (Z9 rfl rfl Yn (fun hg=>kB))<|zN (zR ?_)
 refine zM<|zQ Yn<|zA (zN (Qm (zR<|zM<|zC (zN ?_))))
 refine zI ?_ ?_<;>intro hc16
 ·
  exact absurd hc16 kC
 refine Qr (Qd (zR (zM<|zQ Yn<|zA (zN (Qm (zR<|zM ?_))))));refine zM<|zC (zN ?_)
 refine zI ?_ ?_<;>intro hc22
 ·
  refine zR (zM ?_);refine zM<|zpa (_) ([S.encR y].flatten) (L) rfl rfl Wv hO ⟨rfl,fun _=>rfl,.app zB4⟩ rfl ?_
  intro v' L' hO' _;refine zA (zN (Qs (Qf ?_)));exact Qx rfl rfl (fun w hw=>⟨_,I,_,rfl,zB6 _,hw.subL QL,rfl,by rw [List.take_of_length_le kB,List.drop_eq_nil_of_le kB];simpa [List.flatMap_append] using hO'⟩)
 exact absurd hc22 kJ
theorem zkY (hl:xs.length=n)(hi:i<n)(hn:n≤100000)(hnc:n≤c)(hcm:c≤maxLen)(hR:(((xs.take i).flatMap S.encR)++((xs.drop i).flatMap S.encR)++R).length=c*11)(b2:Nat)(hne:b2≠b)(y:S.Rt):YE Tryz.prog 171 [.slice (some ⟨b,0,none⟩) n c,.int .i64 i,.slice (some ⟨b2,0,none⟩) 1 1] I ([(b,.cells (((xs.take i).flatMap S.encR)++((xs.drop i).flatMap S.encR)++R).toArray 43 (0,0)),(b2,.cells [S.encR y].flatten.toArray 43 (0,0))]) (fun v' I' L'=>I'=I∧ZU 43 11 v' (n+1) ((xs.take i++y::xs.drop i).flatMap S.encR) L'):=by
 intro g H w hw;refine qe Tryz.func171 Tryz.ntmps171 hw ?_;have hA:((xs.take i).flatMap S.encR).length=i*11:=(by rw [zqD,List.length_take];omega);have hB:((xs.drop i).flatMap S.encR).length=(n-i)*11:=(by rw [zqD,List.length_drop];omega);have hY:[S.encR y].flatten.length=11:=rfl;refine zR (zA<|zN (zR ?_));refine zM ?_;refine zM ?_;refine zV (Zy rfl rfl Yn kB)<|zN (zR ?_)
 refine zM<|zQ Yn<|zA (zN (Qm (zR<|zM<|zC (zN ?_))))
 refine zI ?_ ?_<;>intro hc16
 ·
  exact absurd hc16 kC
 refine Qr (Qd (zR (zM<|zQ Yn<|zA (zN (Qm (zR<|zM ?_))))));refine zM<|zC (zN ?_)
 refine zI ?_ ?_<;>intro hc22
 ·
  have h:=hc22;simp at h;omega
 refine Qr (Qd (Qm (zR (zM ?_))));refine zM ?_;refine zB<|zM<|zV (zoG rfl Yn)<|zC (zN ?_)
 refine zI ?_ ?_<;>intro hc31
 ·
  have hgr:c<n+1:=(by have h:=hc31;simp at h;omega);refine zR (zM ?_);refine zM ?_;refine zV (Yw rfl rfl Yn (fun hg=>kB))<|zM ?_
  refine zM ?_;refine zB<|zM ?_
  refine zB ?_;refine zay (ys:=((xs.take i).flatMap S.encR)) rfl rfl Wv zpP kB kC kB hA (Cells.part (pre:=[]) (post:=((xs.drop i).flatMap S.encR)++R) (by rw [List.nil_append,←List.append_assoc];exact .here) rfl) kB rfl rfl (fun b3 c3 zs hc3 hm3 hz3=>?_);obtain ⟨z1,z2,z3,rfl,hz1,hz2⟩:=zkV (zs:=zs) (a:=11) (b:=(n-i)*11) (by rw [List.length_append,hA] at hz3;omega);refine zA<|zN (zR ?_)
  refine zM ?_;refine zM ?_;refine zV (Zy rfl rfl Yn kB)<|zM ?_
  refine Ki (pre:=((xs.take i).flatMap S.encR)) (old:=z1) (post:=z2++z3) (vs:=[S.encR y].flatten) (cur':=(((xs.take i).flatMap S.encR)++[S.encR y].flatten++(z2++z3)).toArray) (by rw [List.append_assoc]) rfl rfl rfl Yn (by show 11=_;simp only [Nat.min_def];split<;>omega) (by rw [hz1];rfl) kB (fun _=>rfl) (.there (.there .here)) rfl rfl rfl .here ?_;refine zN (Qm ?_);have hD:=zB6 I;refine Zn<|QJ I [] mixed<|zT 0 rfl (Qe rfl) hD<|zT 1 rfl (Qe rfl) hD<|zT 2 rfl (Qe rfl) hD<|zT 3 rfl (Ya rfl rfl rfl (fun _=>kB)) hD<|zT 4 rfl (Zy rfl rfl Yn kB) hD<|zT 5 rfl (Qe rfl) hD<|zT 6 rfl (Qe rfl) hD<|zT 7 rfl (Zy rfl rfl Yn kB) hD<|qd 8 rfl ?_
  refine Ki (pre:=((xs.take i).flatMap S.encR)++[S.encR y].flatten) (old:=z2) (post:=z3) (vs:=((xs.drop i).flatMap S.encR)) (cur':=(((xs.take i).flatMap S.encR)++[S.encR y].flatten++((xs.drop i).flatMap S.encR)++z3).toArray) kT rfl rfl rfl Yn (by rw [hB];simp only [Nat.min_def];split<;>omega) (by rw [hz2,hB]) (by rw [List.length_append,hA,hY];omega) (fun _=>rfl) (.there (Cells.part (pre:=((xs.take i).flatMap S.encR)) (post:=R) .here (by show 0+_=_;rw [hA];omega))) (zrO _) rfl rfl .here ?_;refine Qb<|zD hD<|Qn kA<|Qv<|Qd (zR (zM<|zA (zN (Qs (Qf ?_)))))
  first
  | exact Qx rfl rfl (fun w hw=>⟨_,I,_,rfl,zB6 _,hw.subL (.keep Qq),rfl,by rw [show (i:Int).toNat+((n:Int)+((1:Nat):Int)-(i:Int)).toNat=n+1 by omega];exact zeE (rest:=z3) (by simp [hl];omega) kB hm3 kN (by simp only [List.length_append,hA,hB,hz1,hz2] at hz3 ⊢;rw [hY];omega)⟩)
 have hgr:n+1≤c:=(by have h:=hc31;simp at h;omega);refine Qr (Qd (Qm ?_));obtain ⟨r5,R2,rfl,hr5⟩:∃ r5 R2,R=r5++R2∧r5.length=11:=⟨R.take 11,R.drop 11,by rw [List.take_append_drop],by rw [List.length_take];simp only [List.length_append,hA,hB] at hR;omega⟩;obtain ⟨p1,p2,hpp,hp1,hp2⟩:∃ p1 p2,((xs.drop i).flatMap S.encR)++r5=p1++p2∧p1.length=11∧p2.length=(n-i)*11:=⟨(((xs.drop i).flatMap S.encR)++r5).take 11,(((xs.drop i).flatMap S.encR)++r5).drop 11,by rw [List.take_append_drop],by rw [List.length_take,List.length_append,hB,hr5];omega,by rw [List.length_drop,List.length_append,hB,hr5];omega⟩;have hcur:(((xs.take i).flatMap S.encR)++((xs.drop i).flatMap S.encR)++(r5++R2)).toArray=(((xs.take i).flatMap S.encR)++p1++p2++R2).toArray:=(by rw [List.append_assoc (((xs.take i).flatMap S.encR)++p1),List.append_assoc ((xs.take i).flatMap S.encR) p1,←List.append_assoc p1,←hpp];simp only [List.append_assoc]);refine Qh (zM ?_);refine zM ?_;refine zM ?_;refine zB ?_;refine zV (Yw rfl rfl Yn (fun hg=>kB))<|zA (zN (Qm (zR<|zM ?_)))
 refine zM ?_;refine zM ?_;refine zM ?_;refine zB ?_;refine zV (Zy rfl rfl Yn kB)<|Xm rfl rfl rfl Tryz.func224 kA kA kA (by kernel_rfl:Extern.find Tryz.f224=some (Extern.SlicesOverlaps.overlaps #[65,65] #[4])) Yn hne (List.mem_cons_of_mem _ (List.mem_cons_self ..)) (List.mem_cons_self ..) (by rw [List.size_toArray,hR];omega) rfl rfl<|zO (zN ?_)
 refine zI ?_ ?_<;>intro hc68
 ·
  refine Qm ?_;have hD:=zB6 I;refine Zn<|QJ I [] mixed<|zT 0 rfl (Qe rfl) hD<|zT 1 rfl (Qe rfl) hD<|zT 2 rfl (Qe rfl) hD<|zT 3 rfl (Ya rfl rfl rfl (fun _=>kB)) hD<|zT 4 rfl (Zy rfl rfl Yn kB) hD<|zT 5 rfl (Qe rfl) hD<|zT 6 rfl (Qe rfl) hD<|zT 7 rfl (Zy rfl rfl Yn kB) hD<|qd 8 rfl ?_
  refine Ki (pre:=((xs.take i).flatMap S.encR)++p1) (old:=p2) (post:=R2) (vs:=((xs.drop i).flatMap S.encR)) (cur':=(((xs.take i).flatMap S.encR)++p1++((xs.drop i).flatMap S.encR)++R2).toArray) hcur rfl rfl rfl Yn (by rw [hB];simp only [Nat.min_def];split<;>omega) (by rw [hp2,hB]) (by rw [List.length_append,hA,hp1];omega) (fun _=>rfl) (Cells.part (pre:=((xs.take i).flatMap S.encR)) (post:=r5++R2) .here (by show 0+_=_;rw [hA];omega)) (zrO _) rfl rfl .here ?_;refine Qb<|zD hD<|Qn kA<|Qv<|Qd (zR (zM<|zM ?_))
  refine zV (Zy rfl rfl Yn kB)<|zM ?_
  refine Ki (pre:=((xs.take i).flatMap S.encR)) (old:=p1) (post:=((xs.drop i).flatMap S.encR)++R2) (vs:=[S.encR y].flatten) (cur':=(((xs.take i).flatMap S.encR)++[S.encR y].flatten++(((xs.drop i).flatMap S.encR)++R2)).toArray) (by rw [List.append_assoc (_++_)]) rfl rfl rfl Yn (by show 11=_;simp only [Nat.min_def];split<;>omega) (by rw [hp1];rfl) kB (fun _=>rfl) (.there .here) rfl rfl rfl .here ?_;refine zN (zR ?_);refine zM<|zA (zN (Qs (Qf ?_)))
  first
  | exact Qx rfl rfl (fun w hw=>⟨_,I,_,rfl,zB6 _,hw.subL (.keep Qq),rfl,by rw [show ((n:Int)+((1:Nat):Int)).toNat=n+1 by omega];exact zeE (rest:=R2) (by simp [hl];omega) hgr hcm kN (by simp only [List.length_append,hA,hB,hr5] at hR ⊢;rw [hY];omega)⟩)
 cases hc68
theorem zno {L:Go.Kn.Loc}(hO:ZU 43 11 v n (xs.flatMap S.encR) L)(hn:n≤100000)(hl:xs.length=n)(hi:i≤n)(b2:Nat)(y:S.Rt):
  YE Tryz.prog 171 [v,.int .i64 i,.slice (some ⟨b2,0,none⟩) 1 1] I (L++[(b2,.cells [S.encR y].flatten.toArray 43 (0,0))]) (fun v' I' L'=>I'=I∧ZU 43 11 v' (n+1) ((xs.take i++y::xs.drop i).flatMap S.encR) L'):=by
 by_cases hin:i=n
 ·
  subst hin;obtain ⟨av,c,rfl⟩:=hO.shape;exact zjB hO hn hl b2 y
 rcases hO.2 with ⟨_,h0,_⟩ | ⟨b,c,cur,rfl,rfl,hnc,hcm,hcs,ht⟩
 ·
  omega
 intro g H w hw
 have hne:b2≠b:=fun e=>by
  have:=hw.nodup;subst e;simp at this
 have hsplit:(xs.take i).flatMap S.encR++(xs.drop i).flatMap S.encR=xs.flatMap S.encR:=by rw [←List.flatMap_append,List.take_append_drop]
 have hcur:cur=((xs.take i).flatMap S.encR++(xs.drop i).flatMap S.encR++cur.toList.drop (n*11)).toArray:=by
  rw [hsplit,←ht,List.take_append_drop,Array.toArray_toList]
 rw [hcur] at hw;exact zkY hl kB hn hnc hcm (by rw [hsplit,←ht,List.take_append_drop,Array.length_toList,hcs]) b2 hne y g H w hw
theorem zqa (xs:List Nt):(xs.flatMap Zf).length=xs.length*45:=Yp Z2 xs
theorem zin {xs:List Nt}(hl:xs.length=n)(hn:n≤c)(hc:c≤maxLen)(hcur:cur=xs.flatMap Zf++rest)(hs:cur.length=c*45):ZU 45 45 (.slice (some ⟨b,0,none⟩) n c) n (xs.flatMap Zf) [(b,.cells cur.toArray 45 (0,0))]:=by
 subst hcur;refine ⟨by rw [zqa,hl],.inr ⟨b,c,_,rfl,rfl,hn,hc,by simpa using hs,?_⟩⟩;rw [List.take_left' (by rw [zqa,hl])]
theorem zkc {xs:List Nt}{L:Go.Kn.Loc}(hO:ZU 45 45 (.slice av n c) n (xs.flatMap Zf) L)(hn:n≤100000)(hl:xs.length=n)(b2:Nat)(y:Nt):YE Tryz.prog 174 [.slice av n c,.int .i64 n,.slice (some ⟨b2,0,none⟩) 1 1] I (L++[(b2,.cells [Zf y].flatten.toArray 45 (0,0))]) (fun v' I' L'=>I'=I∧ZU 45 45 v' (n+1) ((xs.take n++y::xs.drop n).flatMap Zf) L'):=by
 intro g H w hw;refine qe Tryz.func174 Tryz.ntmps174 hw ?_;refine zR (zA<|zN (zR ?_));refine zM ?_;refine zM ?_;refine zV (Z9 rfl rfl Zj (fun hg=>kB))<|zN (zR ?_)
 refine zM<|zQ Zj<|zA (zN (Qm (zR<|zM<|zC (zN ?_))))
 refine zI ?_ ?_<;>intro hc16
 ·
  exact absurd hc16 kC
 refine Qr (Qd (zR (zM<|zQ Zj<|zA (zN (Qm (zR<|zM ?_))))));refine zM<|zC (zN ?_)
 refine zI ?_ ?_<;>intro hc22
 ·
  refine zR (zM ?_);refine zM<|zpa (_) ([Zf y].flatten) (L) rfl rfl Vx hO ⟨rfl,fun _=>rfl,.app zB4⟩ rfl ?_
  intro v' L' hO' _;refine zA (zN (Qs (Qf ?_)));exact Qx rfl rfl (fun w hw=>⟨_,I,_,rfl,zB6 _,hw.subL QL,rfl,by rw [List.take_of_length_le kB,List.drop_eq_nil_of_le kB];simpa [List.flatMap_append] using hO'⟩)
 exact absurd hc22 kJ
theorem zlp {xs:List Nt}(hl:xs.length=n)(hi:i<n)(hn:n≤100000)(hnc:n≤c)(hcm:c≤maxLen)(hR:(((xs.take i).flatMap Zf)++((xs.drop i).flatMap Zf)++R).length=c*45)(b2:Nat)(hne:b2≠b)(y:Nt):YE Tryz.prog 174 [.slice (some ⟨b,0,none⟩) n c,.int .i64 i,.slice (some ⟨b2,0,none⟩) 1 1] I ([(b,.cells (((xs.take i).flatMap Zf)++((xs.drop i).flatMap Zf)++R).toArray 45 (0,0)),(b2,.cells [Zf y].flatten.toArray 45 (0,0))]) (fun v' I' L'=>I'=I∧ZU 45 45 v' (n+1) ((xs.take i++y::xs.drop i).flatMap Zf) L'):=by
 intro g H w hw;refine qe Tryz.func174 Tryz.ntmps174 hw ?_;have hA:((xs.take i).flatMap Zf).length=i*45:=(by rw [zqa,List.length_take];omega);have hB:((xs.drop i).flatMap Zf).length=(n-i)*45:=(by rw [zqa,List.length_drop];omega);have hY:[Zf y].flatten.length=45:=rfl;refine zR (zA<|zN (zR ?_));refine zM ?_;refine zM ?_;refine zV (Zy rfl rfl Zj kB)<|zN (zR ?_)
 refine zM<|zQ Zj<|zA (zN (Qm (zR<|zM<|zC (zN ?_))))
 refine zI ?_ ?_<;>intro hc16
 ·
  exact absurd hc16 kC
 refine Qr (Qd (zR (zM<|zQ Zj<|zA (zN (Qm (zR<|zM ?_))))));refine zM<|zC (zN ?_)
 refine zI ?_ ?_<;>intro hc22
 ·
  have h:=hc22;simp at h;omega
 refine Qr (Qd (Qm (zR (zM ?_))));refine zM ?_;refine zB<|zM<|zV (zoG rfl Zj)<|zC (zN ?_)
 refine zI ?_ ?_<;>intro hc31
 ·
  have hgr:c<n+1:=(by have h:=hc31;simp at h;omega);refine zR (zM ?_);refine zM ?_;refine zV (Yw rfl rfl Zj (fun hg=>kB))<|zM ?_
  refine zM ?_;refine zB<|zM ?_
  refine zB ?_;refine zay (ys:=((xs.take i).flatMap Zf)) rfl rfl Vx zpP kB kC kB hA (Cells.part (pre:=[]) (post:=((xs.drop i).flatMap Zf)++R) (by rw [List.nil_append,←List.append_assoc];exact .here) rfl) kB rfl rfl (fun b3 c3 zs hc3 hm3 hz3=>?_);obtain ⟨z1,z2,z3,rfl,hz1,hz2⟩:=zkV (zs:=zs) (a:=45) (b:=(n-i)*45) (by rw [List.length_append,hA] at hz3;omega);refine zA<|zN (zR ?_)
  refine zM ?_;refine zM ?_;refine zV (Zy rfl rfl Zj kB)<|zM ?_
  refine Ki (pre:=((xs.take i).flatMap Zf)) (old:=z1) (post:=z2++z3) (vs:=[Zf y].flatten) (cur':=(((xs.take i).flatMap Zf)++[Zf y].flatten++(z2++z3)).toArray) (by rw [List.append_assoc]) rfl rfl rfl Zj (by show 45=_;simp only [Nat.min_def];split<;>omega) (by rw [hz1];rfl) kB (fun _=>rfl) (.there (.there .here)) rfl rfl rfl .here ?_;refine zN (Qm ?_);have hD:=zB6 I;refine Zn<|QJ I [] mixed<|zT 0 rfl (Qe rfl) hD<|zT 1 rfl (Qe rfl) hD<|zT 2 rfl (Qe rfl) hD<|zT 3 rfl (Ya rfl rfl rfl (fun _=>kB)) hD<|zT 4 rfl (Zy rfl rfl Zj kB) hD<|zT 5 rfl (Qe rfl) hD<|zT 6 rfl (Qe rfl) hD<|zT 7 rfl (Zy rfl rfl Zj kB) hD<|qd 8 rfl ?_
  refine Ki (pre:=((xs.take i).flatMap Zf)++[Zf y].flatten) (old:=z2) (post:=z3) (vs:=((xs.drop i).flatMap Zf)) (cur':=(((xs.take i).flatMap Zf)++[Zf y].flatten++((xs.drop i).flatMap Zf)++z3).toArray) kT rfl rfl rfl Zj (by rw [hB];simp only [Nat.min_def];split<;>omega) (by rw [hz2,hB]) (by rw [List.length_append,hA,hY];omega) (fun _=>rfl) (.there (Cells.part (pre:=((xs.take i).flatMap Zf)) (post:=R) .here (by show 0+_=_;rw [hA];omega))) (zan _) rfl rfl .here ?_;refine Qb<|zD hD<|Qn kA<|Qv<|Qd (zR (zM<|zA (zN (Qs (Qf ?_)))))
  first
  | exact Qx rfl rfl (fun w hw=>⟨_,I,_,rfl,zB6 _,hw.subL (.keep Qq),rfl,by rw [show (i:Int).toNat+((n:Int)+((1:Nat):Int)-(i:Int)).toNat=n+1 by omega];exact zin (rest:=z3) (by simp [hl];omega) kB hm3 kN (by simp only [List.length_append,hA,hB,hz1,hz2] at hz3 ⊢;rw [hY];omega)⟩)
 have hgr:n+1≤c:=(by have h:=hc31;simp at h;omega);refine Qr (Qd (Qm ?_));obtain ⟨r5,R2,rfl,hr5⟩:∃ r5 R2,R=r5++R2∧r5.length=45:=⟨R.take 45,R.drop 45,by rw [List.take_append_drop],by rw [List.length_take];simp only [List.length_append,hA,hB] at hR;omega⟩;obtain ⟨p1,p2,hpp,hp1,hp2⟩:∃ p1 p2,((xs.drop i).flatMap Zf)++r5=p1++p2∧p1.length=45∧p2.length=(n-i)*45:=⟨(((xs.drop i).flatMap Zf)++r5).take 45,(((xs.drop i).flatMap Zf)++r5).drop 45,by rw [List.take_append_drop],by rw [List.length_take,List.length_append,hB,hr5];omega,by rw [List.length_drop,List.length_append,hB,hr5];omega⟩;have hcur:(((xs.take i).flatMap Zf)++((xs.drop i).flatMap Zf)++(r5++R2)).toArray=(((xs.take i).flatMap Zf)++p1++p2++R2).toArray:=(by rw [List.append_assoc (((xs.take i).flatMap Zf)++p1),List.append_assoc ((xs.take i).flatMap Zf) p1,←List.append_assoc p1,←hpp];simp only [List.append_assoc]);refine Qh (zM ?_);refine zM ?_;refine zM ?_;refine zB ?_;refine zV (Yw rfl rfl Zj (fun hg=>kB))<|zA (zN (Qm (zR<|zM ?_)))
 refine zM ?_;refine zM ?_;refine zM ?_;refine zB ?_;refine zV (Zy rfl rfl Zj kB)<|Xm rfl rfl rfl Tryz.func226 kA kA kA (by kernel_rfl:Extern.find Tryz.f226=some (Extern.SlicesOverlaps.overlaps #[57,57] #[4])) Zj hne (List.mem_cons_of_mem _ (List.mem_cons_self ..)) (List.mem_cons_self ..) (by rw [List.size_toArray,hR];omega) rfl rfl<|zO (zN ?_)
 refine zI ?_ ?_<;>intro hc68
 ·
  refine Qm ?_;have hD:=zB6 I;refine Zn<|QJ I [] mixed<|zT 0 rfl (Qe rfl) hD<|zT 1 rfl (Qe rfl) hD<|zT 2 rfl (Qe rfl) hD<|zT 3 rfl (Ya rfl rfl rfl (fun _=>kB)) hD<|zT 4 rfl (Zy rfl rfl Zj kB) hD<|zT 5 rfl (Qe rfl) hD<|zT 6 rfl (Qe rfl) hD<|zT 7 rfl (Zy rfl rfl Zj kB) hD<|qd 8 rfl ?_
  refine Ki (pre:=((xs.take i).flatMap Zf)++p1) (old:=p2) (post:=R2) (vs:=((xs.drop i).flatMap Zf)) (cur':=(((xs.take i).flatMap Zf)++p1++((xs.drop i).flatMap Zf)++R2).toArray) hcur rfl rfl rfl Zj (by rw [hB];simp only [Nat.min_def];split<;>omega) (by rw [hp2,hB]) (by rw [List.length_append,hA,hp1];omega) (fun _=>rfl) (Cells.part (pre:=((xs.take i).flatMap Zf)) (post:=r5++R2) .here (by show 0+_=_;rw [hA];omega)) (zan _) rfl rfl .here ?_;refine Qb<|zD hD<|Qn kA<|Qv<|Qd (zR (zM<|zM ?_))
  refine zV (Zy rfl rfl Zj kB)<|zM ?_
  refine Ki (pre:=((xs.take i).flatMap Zf)) (old:=p1) (post:=((xs.drop i).flatMap Zf)++R2) (vs:=[Zf y].flatten) (cur':=(((xs.take i).flatMap Zf)++[Zf y].flatten++(((xs.drop i).flatMap Zf)++R2)).toArray) (by rw [List.append_assoc (_++_)]) rfl rfl rfl Zj (by show 45=_;simp only [Nat.min_def];split<;>omega) (by rw [hp1];rfl) kB (fun _=>rfl) (.there .here) rfl rfl rfl .here ?_;refine zN (zR ?_);refine zM<|zA (zN (Qs (Qf ?_)))
  first
  | exact Qx rfl rfl (fun w hw=>⟨_,I,_,rfl,zB6 _,hw.subL (.keep Qq),rfl,by rw [show ((n:Int)+((1:Nat):Int)).toNat=n+1 by omega];exact zin (rest:=R2) (by simp [hl];omega) hgr hcm kN (by simp only [List.length_append,hA,hB,hr5] at hR ⊢;rw [hY];omega)⟩)
 cases hc68
theorem zb1 {xs:List Nt}{L:Go.Kn.Loc}(hO:ZU 45 45 v n (xs.flatMap Zf) L)(hn:n≤100000)(hl:xs.length=n)(hi:i≤n)(b2:Nat)(y:Nt):
  YE Tryz.prog 174 [v,.int .i64 i,.slice (some ⟨b2,0,none⟩) 1 1] I (L++[(b2,.cells [Zf y].flatten.toArray 45 (0,0))]) (fun v' I' L'=>I'=I∧ZU 45 45 v' (n+1) ((xs.take i++y::xs.drop i).flatMap Zf) L'):=by
 by_cases hin:i=n
 ·
  subst hin;obtain ⟨av,c,rfl⟩:=hO.shape;exact zkc hO hn hl b2 y
 rcases hO.2 with ⟨_,h0,_⟩ | ⟨b,c,cur,rfl,rfl,hnc,hcm,hcs,ht⟩
 ·
  omega
 intro g H w hw
 have hne:b2≠b:=fun e=>by
  have:=hw.nodup;subst e;simp at this
 have hsplit:(xs.take i).flatMap Zf++(xs.drop i).flatMap Zf=xs.flatMap Zf:=by rw [←List.flatMap_append,List.take_append_drop]
 have hcur:cur=((xs.take i).flatMap Zf++(xs.drop i).flatMap Zf++cur.toList.drop (n*45)).toArray:=by
  rw [hsplit,←ht,List.take_append_drop,Array.toArray_toList]
 rw [hcur] at hw;exact zlp hl kB hn hnc hcm (by rw [hsplit,←ht,List.take_append_drop,Array.length_toList,hcs]) b2 hne y g H w hw
end
end Go.Proofs.YtjblkbkmblkgoaaGreat
namespace Go.Kn
section
open Go
section
variable {C:Cx} {Q:Exit→Act→World→Prop} {ops:Array Oper} {I0:Qu} {loc0:Loc} {S:GS} {E:Env} {I:Qu} {loc:Loc}
theorem zvO {fuel:Nat}{listed:Array Bool}(b:Bool)(h:XD C Q ops I0 loc0 fuel listed ((b,[])::S) E I loc):XD C Q ops I0 loc0 fuel listed S E I loc:=fun a w ha hg hw=>h a w ha ⟨(fun _ _ e=>by cases e),hg⟩ hw
theorem UN {fuel:Nat}{listed:Array Bool}(j:Nat){oj:Oper}{dj:Nat}{b0:Bool}(_hj:ops[j]? =some oj)(_hd:oj.dst=some dj)(_hl:US S E dj=some (.bool b0))(h:XD C Q ops I0 loc0 fuel listed ((b0,[])::S) E I loc):XD C Q ops I0 loc0 fuel listed S E I loc:=zvO b0 h
theorem zxm (i:Nat){tc ta d ty:Nat}{pos:String}{af:Array Edge}{gd:Option (Nat×Bool)}{b t x:Bool}{G:Env}{fuel:Nat}{listed:Array Bool}
  (hi:ops[i]? =some ⟨some d,.pick (.tmp tc) (.tmp ta) (.const (.bool false)),ty,pos,af,gd⟩)(hb:b=t)(hc:QH S E (.tmp tc)=some (.bool t))(ha':VT G ta=some (.bool x))
  (hG:Zw ops S E ⟨some d,.pick (.tmp tc) (.tmp ta) (.const (.bool false)),ty,pos,af,gd⟩)(hN:Nat.blt d C.N=true)(hf:Yg S E d=true)
  (hs:Region.noSelect ops=true)(hfr:Region.free .any ops listed i=true)(hr:(Region.ready .any ops listed).contains i=true)(hQ:Yo Q)(hI:HLe I0 I)(hl:Kk loc0 loc)
  (h:XD C Q ops I0 loc0 fuel (listed.setIfInBounds i true) (zd6 S E d (.bool (t&&x))) (zet S E d (.bool (t&&x))) I loc):XD C Q ops I0 loc0 (fuel+1) listed ((b,G)::S) E I loc:=by
 intro a w ha hg hw;have hp:=YS ha hg.2 hN hf (.bool (t&&x));refine Vl (v:=bif Yq S then .bool (t&&x) else undef) hi kE (Region.noSelect_spec hs) (fun c a w=>hQ c a d _ w) fuel listed a w (Region.free_spec hi hfr) (by simpa using hr) ?_ ((hw.mono hI).subL hl) (h _ _ hp.1 hp.2 hw);have hwt:=hG.wanted ha hg.2
 cases hcj:Yq S with
 | true=>
  refine .inl ⟨by rw [hwt,hcj],fun w' _=>?_⟩;have e1:a.eval (.tmp tc)= .bool t:=Qj ha hg.2 hcj hc
  have e2:t=true→a.eval (.tmp ta)= .bool x:=fun e=>by
   have:=hg.1 _ _ ha';rw [hcj,hb,e] at this;exact this
  show (execOp a.eval ⟨some d,.pick (.tmp tc) (.tmp ta) (.const (.bool false)),ty,pos,af,gd⟩).run C.P w'= .ok (.value (.bool (t&&x))) w';simp only [execOp,e1,asBool,Sem.run_bind,Sem.run_pure,Result.andThen]
  cases t with
  | true=>simp [e2 rfl]
  | false=>simp [Act.eval]
 | false=>exact .inr ⟨by rw [hwt,hcj],rfl⟩
theorem zqb (i:Nat){oi:Oper}{d:Nat}{v:Value}{fuel:Nat}{listed:Array Bool}(hi:ops[i]? =some oi)(hv:QZ C [] E I0 loc0 oi v)(hG:Zw ops [] E oi)(hd:oi.dst=some d)(hN:Nat.blt d C.N=true)
  (hs:Region.noSelect ops=true)(hfr:Region.free .any ops listed i=true)(hr:(Region.ready .any ops listed).contains i=true)(hQ:Yo Q)(hI:HLe I0 I)(hl:Kk loc0 loc)
  (h:XD C Q ops I0 loc0 fuel (listed.setIfInBounds i true) [] ((d,v)::E) I loc):XD C Q ops I0 loc0 (fuel+1) listed [] E I loc:=UH i hi hv hG hd hN rfl hs hfr hr hQ hI hl h
theorem zt0 (i:Nat){op:Op}{ty:TypeId}{pos:String}{af:Array Edge}{gd:Option (Nat×Bool)}{d:Nat}{v:Value}{fuel:Nat}{listed:Array Bool}(hi:ops[i]? =some ⟨some d,op,ty,pos,af,gd⟩)(hv:QZ C [] E I0 loc0 ⟨some d,op,ty,pos,af,gd⟩ v)(hI:HLe I0 I)(h:XD C Q ops I0 loc0 fuel (listed.setIfInBounds i true) [] ((d,v)::E) I loc)(hG:Zw ops [] E ⟨some d,op,ty,pos,af,gd⟩:=by exact .none rfl)(hN:Nat.blt d C.N=true:=by exact rfl)
  (hs:Region.noSelect ops=true:=by kernel_rfl)(hfr:Region.free .any ops listed i=true:=by kernel_rfl)(hr:(Region.ready .any ops listed).contains i=true:=by kernel_rfl)(hQ:Yo Q:=by first | exact JW | (repeat (first | exact UX | with_reducible refine UV ?_ | with_reducible refine Kv ?_)))(hl:Kk loc0 loc:=by repeat (first | exact .refl | exact Qq | refine .keep ?_ | refine .drop ?_ | refine QR ?_)):XD C Q ops I0 loc0 (fuel+1) listed [] E I loc:=zqb i hi hv hG rfl hN hs hfr hr hQ hI hl h
theorem zpz (i:Nat){oi:Oper}{d:Nat}{v:Value}{b:Bool}{G:Env}{fuel:Nat}{listed:Array Bool}(hi:ops[i]? =some oi)(hv:QZ C ((b,G)::S) E I0 loc0 oi v)(hG:Zw ops ((b,G)::S) E oi)(hd:oi.dst=some d)(hN:Nat.blt d C.N=true)(hf:Yg ((b,G)::S) E d=true)
  (hs:Region.noSelect ops=true)(hfr:Region.free .any ops listed i=true)(hr:(Region.ready .any ops listed).contains i=true)(hQ:Yo Q)(hI:HLe I0 I)(hl:Kk loc0 loc)
  (h:XD C Q ops I0 loc0 fuel (listed.setIfInBounds i true) ((b,(d,v)::G)::S) E I loc):XD C Q ops I0 loc0 (fuel+1) listed ((b,G)::S) E I loc:=UH i hi hv hG hd hN hf hs hfr hr hQ hI hl h
theorem zt1 (i:Nat){op:Op}{ty:TypeId}{pos:String}{af:Array Edge}{gd:Option (Nat×Bool)}{d:Nat}{v:Value}{b:Bool}{G:Env}{fuel:Nat}{listed:Array Bool}(hi:ops[i]? =some ⟨some d,op,ty,pos,af,gd⟩)(hv:QZ C ((b,G)::S) E I0 loc0 ⟨some d,op,ty,pos,af,gd⟩ v)(hI:HLe I0 I)(h:XD C Q ops I0 loc0 fuel (listed.setIfInBounds i true) ((b,(d,v)::G)::S) E I loc)(hG:Zw ops ((b,G)::S) E ⟨some d,op,ty,pos,af,gd⟩:=by first | exact .some rfl rfl rfl rfl gbt | exact .some rfl rfl rfl rfl gbf)(hN:Nat.blt d C.N=true:=by exact rfl)(hf:Yg ((b,G)::S) E d=true:=by exact rfl)
  (hs:Region.noSelect ops=true:=by kernel_rfl)(hfr:Region.free .any ops listed i=true:=by kernel_rfl)(hr:(Region.ready .any ops listed).contains i=true:=by kernel_rfl)(hQ:Yo Q:=by first | exact JW | (repeat (first | exact UX | with_reducible refine UV ?_ | with_reducible refine Kv ?_)))(hl:Kk loc0 loc:=by repeat (first | exact .refl | exact Qq | refine .keep ?_ | refine .drop ?_ | refine QR ?_)):XD C Q ops I0 loc0 (fuel+1) listed ((b,G)::S) E I loc:=zpz i hi hv hG rfl hN hf hs hfr hr hQ hI hl h
theorem zua (i:Nat){tc ta d ty:Nat}{pos:String}{af:Array Edge}{gd:Option (Nat×Bool)}{b t x:Bool}{G:Env}{fuel:Nat}{listed:Array Bool}
  (hi:ops[i]? =some ⟨some d,.pick (.tmp tc) (.tmp ta) (.const (.bool false)),ty,pos,af,gd⟩)(hb:b=t)(hc:QH [] E (.tmp tc)=some (.bool t))(ha':VT G ta=some (.bool x))
  (hG:gd=none)(hN:Nat.blt d C.N=true)
  (hs:Region.noSelect ops=true)(hfr:Region.free .any ops listed i=true)(hr:(Region.ready .any ops listed).contains i=true)(hQ:Yo Q)(hI:HLe I0 I)(hl:Kk loc0 loc)
  (h:XD C Q ops I0 loc0 fuel (listed.setIfInBounds i true) [] ((d,.bool (t&&x))::E) I loc):XD C Q ops I0 loc0 (fuel+1) listed ((b,G)::[]) E I loc:=zxm i hi hb hc ha' (.none hG) hN rfl hs hfr hr hQ hI hl h
theorem zta (i:Nat){tc ta d ty:Nat}{pos:String}{af:Array Edge}{b t x:Bool}{G:Env}{fuel:Nat}{listed:Array Bool}
  (hi:ops[i]? =some ⟨some d,.pick (.tmp tc) (.tmp ta) (.const (.bool false)),ty,pos,af,none⟩)(hb:b=t)(hc:QH [] E (.tmp tc)=some (.bool t))(ha':VT G ta=some (.bool x))(hI:HLe I0 I)
  (h:XD C Q ops I0 loc0 fuel (listed.setIfInBounds i true) [] ((d,.bool (t&&x))::E) I loc)(hN:Nat.blt d C.N=true:=by exact rfl)
  (hs:Region.noSelect ops=true:=by kernel_rfl)(hfr:Region.free .any ops listed i=true:=by kernel_rfl)(hr:(Region.ready .any ops listed).contains i=true:=by kernel_rfl)(hQ:Yo Q:=by first | exact JW | (repeat (first | exact UX | with_reducible refine UV ?_ | with_reducible refine Kv ?_)))(hl:Kk loc0 loc:=by repeat (first | exact .refl | exact Qq | refine .keep ?_ | refine .drop ?_ | refine QR ?_)):XD C Q ops I0 loc0 (fuel+1) listed ((b,G)::[]) E I loc:=zua i hi hb hc ha' rfl hN hs hfr hr hQ hI hl h
end
end
end Go.Kn
section
namespace Go.Kn
open Go
section
variable {α:Type} {C:Cx} {Q:Exit→Act→World→Prop} {E E':Env} {I I':Qu} {loc loc' L R:Loc} {ops:Array Oper} {rest:List Oper} {S:GS}
variable {Jc:List α→Qu→Loc→Prop} {Jx:Code→List α→Qu→Loc→Prop} {pre:List α}
end
section
variable {P:Program} {r:Option Nat} {N:Nat} {g:World} {H:Qu} {Q:Exit→Act→World→Prop} {E E':Env} {I I':Qu} {loc loc' L R:Loc} {ms:List Nat}
end
end Go.Kn
namespace Go.Kn
open Go
section
variable {C:Cx} {Q:Exit→Act→World→Prop} {E E':Env} {I I' I0:Qu} {loc loc' loc0 L R:Loc} {ops:Array Oper} {rest:List Oper} {S:GS}
theorem zaD {c:Code}(h:loc=loc')(hx:X C Q c E I loc'):X C Q c E I loc:=h ▸ hx
theorem zoV (i j k m:Nat){oi oj ok om:Oper}{fuel:Nat}{listed:Array Bool}(hi:ops[i]? =some oi)(hj:ops[j]? =some oj)(hk:ops[k]? =some ok)(hm:ops[m]? =some om)(hr:Region.ready .any ops listed=[i,j,k,m])
  (h1:XO C (fun e a w=>match e with | .normal=>St C.g I0 C.H loc0 w∧Vj C.r C.P .any ops Q (fun w=>St C.g I0 C.H loc0 w) fuel (listed.setIfInBounds i true) a w | e=>Q e a w) ops [oi] S E I loc)
  (h2:XO C (fun e a w=>match e with | .normal=>St C.g I0 C.H loc0 w∧Vj C.r C.P .any ops Q (fun w=>St C.g I0 C.H loc0 w) fuel (listed.setIfInBounds j true) a w | e=>Q e a w) ops [oj] S E I loc)
  (h3:XO C (fun e a w=>match e with | .normal=>St C.g I0 C.H loc0 w∧Vj C.r C.P .any ops Q (fun w=>St C.g I0 C.H loc0 w) fuel (listed.setIfInBounds k true) a w | e=>Q e a w) ops [ok] S E I loc)
  (h4:XO C (fun e a w=>match e with | .normal=>St C.g I0 C.H loc0 w∧Vj C.r C.P .any ops Q (fun w=>St C.g I0 C.H loc0 w) fuel (listed.setIfInBounds m true) a w | e=>Q e a w) ops [om] S E I loc):XD C Q ops I0 loc0 (fuel+1) listed S E I loc:=by
 intro a w ha hg hw;refine ⟨(fun h0=>by rw [hr] at h0;cases h0),fun q hq=>?_⟩;rw [hr] at hq;rcases List.mem_cons.1 hq with e | hq
 ·
  subst e;exact zbN hi ha hg hw h1
 ·
  rcases List.mem_cons.1 hq with e | hq
  ·
   subst e;exact zbN hj ha hg hw h2
  ·
   rcases List.mem_cons.1 hq with e | hq
   ·
    subst e;exact zbN hk ha hg hw h3
   ·
    obtain rfl:=List.mem_singleton.1 hq;exact zbN hm ha hg hw h4
end
end Go.Kn
end
namespace Go.Proofs.YtjblkbkmblkgoaaGreat
section
open Go Go.Kn Go.Proofs
theorem Kj:AgT Tryz.prog 41 5:=.of kA
theorem Y6:AgT Tryz.prog 43 11:=.of kA
theorem zgA:zzS Tryz.prog 32 [.int,.int,.int,.int,.int,.int,.int,.int,.int]:=⟨kA,kA,kA,kA⟩
theorem ziF:EqT Tryz.prog 41 [.int,.int,.int,.int,.int]:=⟨kA,kA,kA,kA⟩
theorem zaW:EqT Tryz.prog 43 [.int,.int,.int,.int,.int,.int,.str,.str,.int,.int,.int]:=⟨kA,kA,kA,kA⟩
theorem Vu:QM Tryz.prog 45 0 0:=.of kA
theorem Vt:QM Tryz.prog 45 1 1:=.of kA
theorem YA:QM Tryz.prog 45 2 10:=.of kA
theorem V9:QM Tryz.prog 45 3 29:=.of kA
theorem YB:QM Tryz.prog 45 4 34:=.of kA
theorem zda:PlT Tryz.prog 32 #[(0,1),(1,1),(2,1),(3,1),(4,1),(5,1),(6,3)] (.agg #[(.int .i64 0),(.int .i64 0),(.int .i64 0),(.int .i64 0),(.int .i64 0),(.int .i64 0),(.int .i64 0),(.int .i64 0),(.int .i64 0)]):=⟨.of kA,kA,fun w=>kA⟩
theorem ziW:PlT Tryz.prog 41 #[(0,1),(1,1),(2,1),(3,1),(4,1)] (.agg #[(.int .i64 0),(.int .i64 0),(.int .i64 0),(.int .i64 0),(.int .i64 0)]):=⟨.of kA,kA,fun w=>kA⟩
theorem WT:PlT Tryz.prog 43 #[(0,1),(1,1),(2,1),(3,1),(4,1),(5,1),(6,1),(7,1),(8,1),(9,1),(10,1)] (.agg #[(.int .i64 0),(.int .i64 0),(.int .i64 0),(.int .i64 0),(.int .i64 0),(.int .i64 0),(.string ⟨#[]⟩),(.string ⟨#[]⟩),(.int .i64 0),(.int .i64 0),(.int .i64 0)]):=⟨.of kA,kA,fun w=>kA⟩
variable{I:Qu}{loc:Go.Kn.Loc}{b:Nat}{x:Nt}
theorem zeB (h:Cells I loc b 0 (Zf x)):Cells I loc b 1 (Zz x.lm):=Cells.part (pre:=[.int .i64 x.kind]) (post:=Xu x.pt++(L.encL x.ls++S.encR x.rt)) h rfl
theorem za6 (h:Cells I loc b 0 (Zf x)):Cells I loc b 10 (Xu x.pt):=Cells.part (pre:=.int .i64 x.kind::Zz x.lm) (post:=L.encL x.ls++S.encR x.rt) h rfl
theorem zdG (h:Cells I loc b 0 (Zf x)):Cells I loc b 29 (L.encL x.ls):=Cells.part (pre:=.int .i64 x.kind::(Zz x.lm++Xu x.pt)) (post:=S.encR x.rt) h rfl
theorem zeb (h:Cells I loc b 0 (Zf x)):Cells I loc b 34 (S.encR x.rt):=Cells.part (pre:=.int .i64 x.kind::(Zz x.lm++(Xu x.pt++L.encL x.ls))) (post:=[]) h rfl
theorem zkh {x:Pt}(h:Cells I loc b 0 (Xu x)):Cells I loc b 4 (zgr x.nw):=Cells.part (pre:=[.int .i64 x.id,.int .i64 x.kind,.int .i64 x.sign,.int .i64 x.field]) (post:=[.slice x.a x.n x.c]) h rfl
theorem Xt (x:Nt):ZJ Tryz.prog 172 [J0 x] I (.bool (zaJ x)):=by
 intro g H w hw;refine qe Tryz.func172 Tryz.ntmps172 hw ?_;have hIc:=zB6 I;refine zR<|QK rfl rfl rfl (fun b_1=>zA (Qb<|QF .here (fun I1 hI1 hb1=>?_)))
 have hIc:=hIc.trans hI1;have h1:=BxI.of hb1;refine Qd (zR<|zF YA ?_);refine zV (Qg rfl VW (fun hg=>by exact za6 (BxI.cells (vs:=Zf x) h1)) rfl)<|Qp zb0 rfl rfl (fun b_3=>zh U0<|Qb<|QF .here (fun I2 hI2 hb2=>?_))
 have h1:=h1.mono hI2;have hIc:=hIc.trans hI2;have h3:=BxI.of hb2;refine Qd ?_;refine zY [(1,_)] (fun T L0 E I' loc'=>∃ (r:Nat) (m:List (Int×Bool)),E=(4,.map (some r))::T∧I2=I'∧[(r,YH (.int .i64) .bool m)]=loc'∧ZQ m 1=some (z1 x)∧ZQ m 2=some (z2 x)∧ZQ m 3=some (z3 x)∧ZQ m 4=some (z4 x)) ?_ ?_
 ·
  have hD:=zB6 I2;refine Zn<|QJ I2 [] mixed<|zt0 1 rfl (Qa rfl Vt) hD<|zt0 2 rfl (Qg rfl Km (fun hg=>by exact zeB (BxI.cells (vs:=Zf x) h1)) rfl) hD<|zt0 3 rfl (QD (ps:=[]) [_,_,_,_,_,_,_,_,_] zda rfl rfl) hD<|zt0 4 rfl (Ww rfl rfl zgA rfl) hD<|zt0 6 rfl (Qa rfl Yk) hD<|zt0 7 rfl (Qc rfl Ql (fun hg=>by exact Qy.imm h3.out rfl)) hD<|zt0 8 rfl (QA rfl rfl rfl) hD<|zt0 9 rfl (Qe rfl) hD<|UN 9 rfl rfl rfl<|zt1 10 rfl (Qa rfl JH) hD ?_
  refine zt1 11 rfl (Qc rfl Ql (fun hg=>by exact Qy.imm h3.out rfl)) hD<|zt1 12 rfl (QA rfl rfl rfl) hD<|zta 13 rfl rfl rfl rfl hD<|zt0 14 rfl (Qe rfl) hD<|UN 14 rfl rfl rfl<|zt1 15 rfl (Qa rfl YK) hD<|zt1 16 rfl (Qc rfl Ql (fun hg=>by exact Qy.imm h3.out rfl)) hD<|zt1 17 rfl (QA rfl rfl rfl) hD<|zta 18 rfl rfl rfl rfl hD<|zt0 19 rfl (Qe rfl) hD<|UN 19 rfl rfl rfl<|zt1 20 rfl (Qa rfl YI) hD ?_
  refine zt1 21 rfl (Qc rfl Ql (fun hg=>by exact Qy.imm h3.out rfl)) hD<|zt1 22 rfl (QA rfl rfl rfl) hD<|zta 23 rfl rfl rfl rfl hD<|zt0 24 rfl (Qe rfl) hD<|UN 24 rfl rfl rfl<|zt1 25 rfl (Qa rfl YU) hD<|zt1 26 rfl (Qg rfl ZP (fun hg=>by exact zkh (BxI.cells (vs:=Xu x.pt) h3)) rfl) hD<|zt1 27 rfl (QD (ps:=[]) [_,_,_,_,_,_,_,_,_,_,_,_,_,_] XW rfl rfl) hD<|zt1 28 rfl (Ww rfl rfl Xb rfl) hD<|zta 29 rfl rfl rfl rfl hD<|zt0 30 rfl (Qe rfl) hD<|UN 30 rfl rfl rfl ?_
  refine zt1 31 rfl (Qa rfl ZZ) hD<|zt1 32 rfl (Qc rfl Vy (fun hg=>by exact Qy.imm h3.out rfl)) hD<|zt1 33 rfl (QT rfl Zb) hD<|zt1 34 rfl (QA rfl rfl rfl) hD<|zta 35 rfl rfl rfl rfl hD<|zt0 37 rfl (Qa rfl V9) hD<|zt0 38 rfl (Qg rfl Kj (fun hg=>by exact zdG (BxI.cells (vs:=Zf x) h1)) rfl) hD<|zt0 39 rfl (QD (ps:=[]) [_,_,_,_,_] ziW rfl rfl) hD<|zt0 40 rfl (Wh rfl rfl ziF rfl) hD<|zt0 42 rfl (Qa rfl YB) hD<|zt0 43 rfl (Qg rfl Y6 (fun hg=>by exact zeb (BxI.cells (vs:=Zf x) h1)) rfl) hD<|zt0 44 rfl (QD (ps:=[]) [_,_,_,_,_,_,_,_,_,_,_] WT rfl rfl) hD ?_
  refine zt0 45 rfl (Wh rfl rfl zaW rfl) hD<|qd 0 rfl<|Yl rfl rfl (fun r_7=>?_)
  refine (show XO _ _ _ _ _ _ _ ((r_7,YH (.int .i64) .bool ([]:List (Int×Bool)))::[]) from ?_);refine Qb<|zD hD ?_
  refine zoV 5 36 41 46 rfl rfl rfl rfl kA ?_ ?_ ?_ ?_
  ·
   refine zpi (ek:=Value.int .i64) (ev:=Value.bool) _ Q4 Zd ?_;refine Qb<|zD hD ?_
   refine VD 36 41 46 rfl rfl rfl kA ?_ ?_ ?_
   ·
    refine zpi (ek:=Value.int .i64) (ev:=Value.bool) _ Q4 Zd ?_;refine Qb<|zD hD ?_
    refine QU 41 46 rfl rfl kA ?_ ?_
    focus
     refine zpi (ek:=Value.int .i64) (ev:=Value.bool) _ Q4 Zd ?_;refine Qb<|zD hD<|qd 46 rfl<|zpi (ek:=Value.int .i64) (ev:=Value.bool) _ Q4 Zd ?_
    rotate_left
    refine zpi (ek:=Value.int .i64) (ev:=Value.bool) _ Q4 Zd ?_;refine Qb<|zD hD<|qd 41 rfl<|zpi (ek:=Value.int .i64) (ev:=Value.bool) _ Q4 Zd ?_
    all_goals
     refine Qb<|zD hD<|zt0 47 rfl (Qe rfl) hD<|zt0 48 rfl (QB rfl) hD<|Qn kA<|Qv ?_
     refine Zr _ _ ⟨_,_,rfl,rfl,rfl,?_,?_,?_,?_⟩ (.cons rfl (.cons rfl .nil)) kD
     all_goals rfl
   ·
    refine zpi (ek:=Value.int .i64) (ev:=Value.bool) _ Q4 Zd ?_;refine Qb<|zD hD ?_
    refine QU 36 46 rfl rfl kA ?_ ?_
    focus
     refine zpi (ek:=Value.int .i64) (ev:=Value.bool) _ Q4 Zd ?_;refine Qb<|zD hD<|qd 46 rfl<|zpi (ek:=Value.int .i64) (ev:=Value.bool) _ Q4 Zd ?_
    rotate_left
    refine zpi (ek:=Value.int .i64) (ev:=Value.bool) _ Q4 Zd ?_;refine Qb<|zD hD<|qd 36 rfl<|zpi (ek:=Value.int .i64) (ev:=Value.bool) _ Q4 Zd ?_
    all_goals
     refine Qb<|zD hD<|zt0 47 rfl (Qe rfl) hD<|zt0 48 rfl (QB rfl) hD<|Qn kA<|Qv ?_
     refine Zr _ _ ⟨_,_,rfl,rfl,rfl,?_,?_,?_,?_⟩ (.cons rfl (.cons rfl .nil)) kD
     all_goals rfl
   refine zpi (ek:=Value.int .i64) (ev:=Value.bool) _ Q4 Zd ?_;refine Qb<|zD hD ?_
   refine QU 36 41 rfl rfl kA ?_ ?_
   focus
    refine zpi (ek:=Value.int .i64) (ev:=Value.bool) _ Q4 Zd ?_;refine Qb<|zD hD<|qd 41 rfl<|zpi (ek:=Value.int .i64) (ev:=Value.bool) _ Q4 Zd ?_
   rotate_left
   refine zpi (ek:=Value.int .i64) (ev:=Value.bool) _ Q4 Zd ?_;refine Qb<|zD hD<|qd 36 rfl<|zpi (ek:=Value.int .i64) (ev:=Value.bool) _ Q4 Zd ?_
   all_goals
    refine Qb<|zD hD<|zt0 47 rfl (Qe rfl) hD<|zt0 48 rfl (QB rfl) hD<|Qn kA<|Qv ?_
    refine Zr _ _ ⟨_,_,rfl,rfl,rfl,?_,?_,?_,?_⟩ (.cons rfl (.cons rfl .nil)) kD
    all_goals rfl
  ·
   refine zpi (ek:=Value.int .i64) (ev:=Value.bool) _ Q4 Zd ?_;refine Qb<|zD hD ?_
   refine VD 5 41 46 rfl rfl rfl kA ?_ ?_ ?_
   ·
    refine zpi (ek:=Value.int .i64) (ev:=Value.bool) _ Q4 Zd ?_;refine Qb<|zD hD ?_
    refine QU 41 46 rfl rfl kA ?_ ?_
    focus
     refine zpi (ek:=Value.int .i64) (ev:=Value.bool) _ Q4 Zd ?_;refine Qb<|zD hD<|qd 46 rfl<|zpi (ek:=Value.int .i64) (ev:=Value.bool) _ Q4 Zd ?_
    rotate_left
    refine zpi (ek:=Value.int .i64) (ev:=Value.bool) _ Q4 Zd ?_;refine Qb<|zD hD<|qd 41 rfl<|zpi (ek:=Value.int .i64) (ev:=Value.bool) _ Q4 Zd ?_
    all_goals
     refine Qb<|zD hD<|zt0 47 rfl (Qe rfl) hD<|zt0 48 rfl (QB rfl) hD<|Qn kA<|Qv ?_
     refine Zr _ _ ⟨_,_,rfl,rfl,rfl,?_,?_,?_,?_⟩ (.cons rfl (.cons rfl .nil)) kD
     all_goals rfl
   ·
    refine zpi (ek:=Value.int .i64) (ev:=Value.bool) _ Q4 Zd ?_;refine Qb<|zD hD ?_
    refine QU 5 46 rfl rfl kA ?_ ?_
    focus
     refine zpi (ek:=Value.int .i64) (ev:=Value.bool) _ Q4 Zd ?_;refine Qb<|zD hD<|qd 46 rfl<|zpi (ek:=Value.int .i64) (ev:=Value.bool) _ Q4 Zd ?_
    rotate_left
    refine zpi (ek:=Value.int .i64) (ev:=Value.bool) _ Q4 Zd ?_;refine Qb<|zD hD<|qd 5 rfl<|zpi (ek:=Value.int .i64) (ev:=Value.bool) _ Q4 Zd ?_
    all_goals
     refine Qb<|zD hD<|zt0 47 rfl (Qe rfl) hD<|zt0 48 rfl (QB rfl) hD<|Qn kA<|Qv ?_
     refine Zr _ _ ⟨_,_,rfl,rfl,rfl,?_,?_,?_,?_⟩ (.cons rfl (.cons rfl .nil)) kD
     all_goals rfl
   refine zpi (ek:=Value.int .i64) (ev:=Value.bool) _ Q4 Zd ?_;refine Qb<|zD hD ?_
   refine QU 5 41 rfl rfl kA ?_ ?_
   focus
    refine zpi (ek:=Value.int .i64) (ev:=Value.bool) _ Q4 Zd ?_;refine Qb<|zD hD<|qd 41 rfl<|zpi (ek:=Value.int .i64) (ev:=Value.bool) _ Q4 Zd ?_
   rotate_left
   refine zpi (ek:=Value.int .i64) (ev:=Value.bool) _ Q4 Zd ?_;refine Qb<|zD hD<|qd 5 rfl<|zpi (ek:=Value.int .i64) (ev:=Value.bool) _ Q4 Zd ?_
   all_goals
    refine Qb<|zD hD<|zt0 47 rfl (Qe rfl) hD<|zt0 48 rfl (QB rfl) hD<|Qn kA<|Qv ?_
    refine Zr _ _ ⟨_,_,rfl,rfl,rfl,?_,?_,?_,?_⟩ (.cons rfl (.cons rfl .nil)) kD
    all_goals rfl
  ·
   refine zpi (ek:=Value.int .i64) (ev:=Value.bool) _ Q4 Zd ?_;refine Qb<|zD hD ?_
   refine VD 5 36 46 rfl rfl rfl kA ?_ ?_ ?_
   ·
    refine zpi (ek:=Value.int .i64) (ev:=Value.bool) _ Q4 Zd ?_;refine Qb<|zD hD ?_
    refine QU 36 46 rfl rfl kA ?_ ?_
    focus
     refine zpi (ek:=Value.int .i64) (ev:=Value.bool) _ Q4 Zd ?_;refine Qb<|zD hD<|qd 46 rfl<|zpi (ek:=Value.int .i64) (ev:=Value.bool) _ Q4 Zd ?_
    rotate_left
    refine zpi (ek:=Value.int .i64) (ev:=Value.bool) _ Q4 Zd ?_;refine Qb<|zD hD<|qd 36 rfl<|zpi (ek:=Value.int .i64) (ev:=Value.bool) _ Q4 Zd ?_
    all_goals
     refine Qb<|zD hD<|zt0 47 rfl (Qe rfl) hD<|zt0 48 rfl (QB rfl) hD<|Qn kA<|Qv ?_
     refine Zr _ _ ⟨_,_,rfl,rfl,rfl,?_,?_,?_,?_⟩ (.cons rfl (.cons rfl .nil)) kD
     all_goals rfl
   ·
    refine zpi (ek:=Value.int .i64) (ev:=Value.bool) _ Q4 Zd ?_;refine Qb<|zD hD ?_
    refine QU 5 46 rfl rfl kA ?_ ?_
    focus
     refine zpi (ek:=Value.int .i64) (ev:=Value.bool) _ Q4 Zd ?_;refine Qb<|zD hD<|qd 46 rfl<|zpi (ek:=Value.int .i64) (ev:=Value.bool) _ Q4 Zd ?_
    rotate_left
    refine zpi (ek:=Value.int .i64) (ev:=Value.bool) _ Q4 Zd ?_;refine Qb<|zD hD<|qd 5 rfl<|zpi (ek:=Value.int .i64) (ev:=Value.bool) _ Q4 Zd ?_
    all_goals
     refine Qb<|zD hD<|zt0 47 rfl (Qe rfl) hD<|zt0 48 rfl (QB rfl) hD<|Qn kA<|Qv ?_
     refine Zr _ _ ⟨_,_,rfl,rfl,rfl,?_,?_,?_,?_⟩ (.cons rfl (.cons rfl .nil)) kD
     all_goals rfl
   refine zpi (ek:=Value.int .i64) (ev:=Value.bool) _ Q4 Zd ?_;refine Qb<|zD hD ?_
   refine QU 5 36 rfl rfl kA ?_ ?_
   focus
    refine zpi (ek:=Value.int .i64) (ev:=Value.bool) _ Q4 Zd ?_;refine Qb<|zD hD<|qd 36 rfl<|zpi (ek:=Value.int .i64) (ev:=Value.bool) _ Q4 Zd ?_
   rotate_left
   refine zpi (ek:=Value.int .i64) (ev:=Value.bool) _ Q4 Zd ?_;refine Qb<|zD hD<|qd 5 rfl<|zpi (ek:=Value.int .i64) (ev:=Value.bool) _ Q4 Zd ?_
   all_goals
    refine Qb<|zD hD<|zt0 47 rfl (Qe rfl) hD<|zt0 48 rfl (QB rfl) hD<|Qn kA<|Qv ?_
    refine Zr _ _ ⟨_,_,rfl,rfl,rfl,?_,?_,?_,?_⟩ (.cons rfl (.cons rfl .nil)) kD
    all_goals rfl
  refine zpi (ek:=Value.int .i64) (ev:=Value.bool) _ Q4 Zd ?_;refine Qb<|zD hD ?_
  refine VD 5 36 41 rfl rfl rfl kA ?_ ?_ ?_
  ·
   refine zpi (ek:=Value.int .i64) (ev:=Value.bool) _ Q4 Zd ?_;refine Qb<|zD hD ?_
   refine QU 36 41 rfl rfl kA ?_ ?_
   focus
    refine zpi (ek:=Value.int .i64) (ev:=Value.bool) _ Q4 Zd ?_;refine Qb<|zD hD<|qd 41 rfl<|zpi (ek:=Value.int .i64) (ev:=Value.bool) _ Q4 Zd ?_
   rotate_left
   refine zpi (ek:=Value.int .i64) (ev:=Value.bool) _ Q4 Zd ?_;refine Qb<|zD hD<|qd 36 rfl<|zpi (ek:=Value.int .i64) (ev:=Value.bool) _ Q4 Zd ?_
   all_goals
    refine Qb<|zD hD<|zt0 47 rfl (Qe rfl) hD<|zt0 48 rfl (QB rfl) hD<|Qn kA<|Qv ?_
    refine Zr _ _ ⟨_,_,rfl,rfl,rfl,?_,?_,?_,?_⟩ (.cons rfl (.cons rfl .nil)) kD
    all_goals rfl
  ·
   refine zpi (ek:=Value.int .i64) (ev:=Value.bool) _ Q4 Zd ?_;refine Qb<|zD hD ?_
   refine QU 5 41 rfl rfl kA ?_ ?_
   focus
    refine zpi (ek:=Value.int .i64) (ev:=Value.bool) _ Q4 Zd ?_;refine Qb<|zD hD<|qd 41 rfl<|zpi (ek:=Value.int .i64) (ev:=Value.bool) _ Q4 Zd ?_
   rotate_left
   refine zpi (ek:=Value.int .i64) (ev:=Value.bool) _ Q4 Zd ?_;refine Qb<|zD hD<|qd 5 rfl<|zpi (ek:=Value.int .i64) (ev:=Value.bool) _ Q4 Zd ?_
   all_goals
    refine Qb<|zD hD<|zt0 47 rfl (Qe rfl) hD<|zt0 48 rfl (QB rfl) hD<|Qn kA<|Qv ?_
    refine Zr _ _ ⟨_,_,rfl,rfl,rfl,?_,?_,?_,?_⟩ (.cons rfl (.cons rfl .nil)) kD
    all_goals rfl
  refine zpi (ek:=Value.int .i64) (ev:=Value.bool) _ Q4 Zd ?_;refine Qb<|zD hD ?_
  refine QU 5 36 rfl rfl kA ?_ ?_
  focus
   refine zpi (ek:=Value.int .i64) (ev:=Value.bool) _ Q4 Zd ?_;refine Qb<|zD hD<|qd 36 rfl<|zpi (ek:=Value.int .i64) (ev:=Value.bool) _ Q4 Zd ?_
  rotate_left
  refine zpi (ek:=Value.int .i64) (ev:=Value.bool) _ Q4 Zd ?_;refine Qb<|zD hD<|qd 5 rfl<|zpi (ek:=Value.int .i64) (ev:=Value.bool) _ Q4 Zd ?_
  all_goals
   refine Qb<|zD hD<|zt0 47 rfl (Qe rfl) hD<|zt0 48 rfl (QB rfl) hD<|Qn kA<|Qv ?_
   refine Zr _ _ ⟨_,_,rfl,rfl,rfl,?_,?_,?_,?_⟩ (.cons rfl (.cons rfl .nil)) kD
   all_goals rfl
 rintro E I' loc' ⟨r,m,rfl,rfl,rfl,hm1,hm2,hm3,hm4⟩;refine zR (zM<|zF Vu ?_);refine zV (Qc rfl Ql (fun hg=>by exact Qy.imm h1.out rfl))<|YM _ Q4 Zd rfl rfl rfl rfl (by repeat (first | exact Upd.here | apply Upd.there | apply ZD))<|zN (zR ?_)
 refine zM<|zV (Y7 Q4 Zd rfl rfl (fun _=>kR))<|zM<|Qt 2 rfl rfl rfl ?_
 refine zK (Qe rfl)<|zK (Y7 Q4 Zd rfl rfl (fun _=>kR))<|QE rfl rfl rfl rfl rfl<|zM<|Qt 6 rfl rfl rfl ?_
 refine zK (Qe rfl)<|zK (Y7 Q4 Zd rfl rfl (fun _=>kR))<|QE rfl rfl rfl rfl rfl<|zM<|Qt 10 rfl rfl rfl ?_
 refine zK (Qe rfl)<|zK (Y7 Q4 Zd rfl rfl (fun _=>kR))<|QE rfl rfl rfl rfl rfl<|zA (zN (Qs ?_))
 exact zp hIc rfl rfl (by rw [zrm hm1 hm2 hm3 hm4])
end
end Go.Proofs.YtjblkbkmblkgoaaGreat
namespace Go.Proofs.YtjblkbkmblkgoaaGreat.L
section
open Go Go.Kn Go.Proofs
theorem Kj:AgT Tryz.prog 41 5:=.of kA
theorem zox:QM Tryz.prog 141 0 0:=.of kA
theorem znO:QM Tryz.prog 141 1 1:=.of kA
theorem zl5:QM Tryz.prog 141 2 2:=.of kA
theorem zly:QM Tryz.prog 141 3 3:=.of kA
theorem zoQ:QM Tryz.prog 141 4 4:=.of kA
theorem Ky:QM Tryz.prog 41 0 0:=.of kA
theorem zbm:QM Tryz.prog 41 1 1:=.of kA
theorem zbg:QM Tryz.prog 41 2 2:=.of kA
theorem zbh:QM Tryz.prog 41 3 3:=.of kA
theorem zbd:QM Tryz.prog 41 4 4:=.of kA
theorem zcb:Fun Tryz.prog 135:=.of Tryz.func135 kA kA
theorem ztr:Fun Tryz.prog 144:=.of Tryz.func144 kA kA
theorem zca:Fun Tryz.prog 160:=.of Tryz.func160 kA kA
theorem zcH:Fun Tryz.prog 190:=.of Tryz.func190 kA kA
theorem zck:Fun Tryz.prog 229:=.of Tryz.func229 kA kA
theorem zzx:Fun Tryz.prog 95:=.of Tryz.func95 kA kA
theorem Zd:KP (α:=Int) Tryz.prog 3 (.int .i64):=zhb kA
theorem mixed:Tryz.prog.follows .mixedOrders=true:=kA
theorem Ql:ScT Tryz.prog 3:=.of kA
theorem K4:SlT Tryz.prog 63 41 5:=.of kA
theorem zaX:SzT Tryz.prog 41 5:=.of kA
theorem zpP:Tryz.prog.underlying 3=some (.int .i64):=kA
theorem zhe:Vv Tryz.prog 41 (.agg #[(.int .i64 0),(.int .i64 0),(.int .i64 0),(.int .i64 0),(.int .i64 0)]):=.of kA
theorem Yi (I:Qu)(n lo hi:Int):ZJ Tryz.prog 160 [.int .i64 n,.int .i64 lo,.int .i64 hi] I (.bool (within n lo hi)):=by
 intro g H w hw;refine qe Tryz.func160 Tryz.ntmps160 hw ?_;refine zR (zA<|zN (zR ?_));refine zM ?_;refine zM<|zC ?_
 refine zM ?_;refine Qt 3 rfl rfl rfl ?_;refine zK (Qe rfl) ?_;refine zK (Qe rfl) ?_;refine zK (QA rfl rfl rfl) ?_;exact QE rfl rfl rfl rfl rfl<|zA (zN (Qs<|zr rfl rfl kW))
theorem Yr (I:Qu)(n lo hi:Int):ZJ Tryz.prog 190 [.int .i64 n,.int .i64 lo,.int .i64 hi] I (.bool (within n lo hi)):=by
 intro g H w hw;refine qe Tryz.func190 Tryz.ntmps190 hw ?_;refine zR (zA<|zN (zR ?_));refine zM ?_;refine zM<|zC ?_
 refine zM ?_;refine Qt 3 rfl rfl rfl ?_;refine zK (Qe rfl) ?_;refine zK (Qe rfl) ?_;refine zK (QA rfl rfl rfl) ?_;exact QE rfl rfl rfl rfl rfl<|zA (zN (Qs<|zr rfl rfl kW))
theorem zhB (I:Qu)(x:Ls):ZJ Tryz.prog 95 [encA x] I (.bool (zaS x)):=by
 intro g H w hw;refine qe Tryz.func95 Tryz.ntmps95 hw ?_;refine zR<|QK rfl rfl rfl (fun b_1=>zA<|zN (zR<|zF zox ?_))
 refine zL Ql<|qcV (vs:=[_,_,_]) rfl zca (Yi I _ _ _)<|zM<|Qt 3 rfl rfl rfl ?_
 refine zK (Qa rfl znO) ?_;refine zK (Qc rfl Ql (fun hg=>by exact Qy.h0 rfl))<|qg (vs:=[_,_,_]) rfl zca (fun hg=>Yi I _ _ _)<|QE rfl rfl rfl rfl rfl<|zM<|Qt 8 rfl rfl rfl ?_
 refine zK (Qa rfl zl5) ?_;refine zK (Qc rfl Ql (fun hg=>by exact Qy.h0 rfl))<|qg (vs:=[_,_,_]) rfl zca (fun hg=>Yi I _ _ _)<|QE rfl rfl rfl rfl rfl<|zM<|Qt 13 rfl rfl rfl ?_
 refine zK (Qa rfl zly) ?_;refine zK (Qc rfl Ql (fun hg=>by exact Qy.h0 rfl))<|qg (vs:=[_,_,_]) rfl zca (fun hg=>Yi I _ _ _)<|QE rfl rfl rfl rfl rfl<|zM<|Qt 18 rfl rfl rfl ?_
 refine zK (Qa rfl zoQ) ?_;exact zK (Qc rfl Ql (fun hg=>by exact Qy.h0 rfl))<|qg (vs:=[_,_,_]) rfl zca (fun hg=>Yi I _ _ _)<|QE rfl rfl rfl rfl rfl<|zA (zN (Qs<|zr rfl rfl kW))
theorem zeq (I:Qu)(x:Ls):ZJ Tryz.prog 144 [encA x] I (.bool (zaS x)):=by
 intro g H w hw;refine qe Tryz.func144 Tryz.ntmps144 hw ?_;refine zR<|QK rfl rfl rfl (fun b_1=>zA<|zN (zR<|zF Ky ?_))
 refine zL Ql<|qcV (vs:=[_,_,_]) rfl zcH (Yr I _ _ _)<|zM<|Qt 3 rfl rfl rfl ?_
 refine zK (Qa rfl zbm) ?_;refine zK (Qc rfl Ql (fun hg=>by exact Qy.h0 rfl))<|qg (vs:=[_,_,_]) rfl zcH (fun hg=>Yr I _ _ _)<|QE rfl rfl rfl rfl rfl<|zM<|Qt 8 rfl rfl rfl ?_
 refine zK (Qa rfl zbg) ?_;refine zK (Qc rfl Ql (fun hg=>by exact Qy.h0 rfl))<|qg (vs:=[_,_,_]) rfl zcH (fun hg=>Yr I _ _ _)<|QE rfl rfl rfl rfl rfl<|zM<|Qt 13 rfl rfl rfl ?_
 refine zK (Qa rfl zbh) ?_;refine zK (Qc rfl Ql (fun hg=>by exact Qy.h0 rfl))<|qg (vs:=[_,_,_]) rfl zcH (fun hg=>Yr I _ _ _)<|QE rfl rfl rfl rfl rfl<|zM<|Qt 18 rfl rfl rfl ?_
 refine zK (Qa rfl zbd) ?_;exact zK (Qc rfl Ql (fun hg=>by exact Qy.h0 rfl))<|qg (vs:=[_,_,_]) rfl zcH (fun hg=>Yr I _ _ _)<|QE rfl rfl rfl rfl rfl<|zA (zN (Qs<|zr rfl rfl kW))
theorem zob (I:Qu)(x:Int):ZJ Tryz.prog 229 [.int .i64 x] I (.bool false):=by
 intro g H w hw;refine qe Tryz.func229 Tryz.ntmps229 hw ?_;refine zR (zA<|zN (zR ?_));refine zM ?_;refine zM<|zC<|zA (zN (Qs ?_))
 exact zr rfl rfl kJ
def zga (x y:Int):Int:=if x<y then -1 else if x>y then 1 else 0
theorem zvg (I:Qu)(x y:Int):ZJ Tryz.prog 183 [.int .i64 x,.int .i64 y] I (.int .i64 (zga x y)):=by
 intro g H w hw;refine qe Tryz.func183 Tryz.ntmps183 hw ?_;refine zR (zA<|zN (zR ?_));refine zM ?_;refine qcV (vs:=[_]) rfl zck (zob I _) ?_;refine zA<|zN (zR ?_)
 refine zM ?_;refine qcV (vs:=[_]) rfl zck (zob I _) ?_;refine zA (zN (Qm (zR<|zM (zN ?_))));refine zI ?_ ?_<;>intro hc11
 ·
  cases hc11
 refine Qr (Qd (Qm (zR (zM (zN ?_)))));refine zI ?_ ?_<;>intro hc13
 ·
  cases hc13
 refine Qr (Qd (Qm (zR (zM ?_))));refine zM<|zC (zN ?_)
 refine zI ?_ ?_<;>intro hc16
 focus
  refine zR (zA (zN (Qs (Qf ?_))))
 rotate_left
 refine Qr (Qd (Qm (zR (zM ?_))));refine zM<|zC (zN ?_)
 refine zI ?_ ?_<;>intro hc19
 focus
  refine zR (zA (zN (Qs (Qf ?_))))
 rotate_left
 refine Qr (Qd (zR (zA (zN (Qs ?_)))))
 all_goals
  exact zr rfl rfl (by unfold zga;first | (rw [if_pos (by simpa using hc16)]) | (rw [if_neg (by simpa using hc16),if_pos (by simpa using hc19)]) | (rw [if_neg (by simpa using hc16),if_neg (by simpa using hc19)]))
variable{I:Qu}{av:Option Addr}{n c:Nat}{xs:List Ls}
theorem w_rcheck (hS:Sl I 5 encL av n c xs)(hn:n≤100000):ZJ Tryz.prog 76 [.slice av n c] I (.int .i64 (chk xs)):=by
 intro g H w hw;refine qe Tryz.func76 Tryz.ntmps76 hw ?_;refine zR (zA (zN (Qm (zR ?_))));refine zM<|zQ K4<|zC (zN ?_)
 refine zI ?_ ?_<;>intro hc6
 ·
  have h6:xs.length>4096:=(by rw [hS.len];simp at hc6;omega);refine zR (zA (zN (Qs (Qf ?_))))
  first
  | exact zr rfl rfl (by unfold chk;rw [if_pos h6])
 have h6:¬xs.length>4096:=(by rw [hS.len];simp at hc6;omega);refine Qr (Qd (Qm (zR (zA (zN (Qw<|zU [(0,_)] (fun T L0 mz E I' loc'=>∃ (k:Nat),mz=n-k∧E=(3,.int .i64 k)::T∧I=I'∧L0=loc'∧k≤n∧(List.range k).all (ckP xs)=true) ?_ (h:=⟨0,rfl,rfl,rfl,rfl,Nat.zero_le _,rfl⟩)))))));rintro mz E I' loc' ⟨k,rfl,rfl,rfl,rfl,hk,hall⟩;refine Qm (zR (zM<|zM<|zQ K4<|zC (zN ?_)));refine zI ?_ ?_<;>intro hc10
 ·
  have hlt_k:k<n:=(by have h:=hc10;simp at h;omega);obtain ⟨x,hx⟩:=hS.at hlt_k;refine Qr (Qd (Qm (Qw (Qm<|Uy mixed kA<|zq (Qe rfl)<|zq (Qe rfl)<|zq (QG rfl rfl K4 kL (fun hg=>kB))<|zq (Qg rfl Kj (fun hg=>by exact zB7 hS hx) rfl)<|Wd (cap:=[]) (vs:=[_]) rfl rfl ztr (zeq I _) rfl rfl<|zq (ZB rfl)<|zq (Qe rfl)<|VF 6 rfl rfl rfl<|zj (Qe rfl)<|zj (QA rfl rfl rfl) ?_))));refine zj (Qe rfl)<|Jd 9 rfl rfl rfl<|zk (Qe rfl)<|zk (Qe rfl)<|zk (QG rfl rfl K4 kL (fun hg=>kB))<|zk (Qa rfl Ky)<|zk (Qc rfl Ql (fun hg=>by exact zB8 hS hx rfl))<|zk (Qe rfl)<|zk (Qe rfl)<|zk (Ya rfl rfl rfl (fun _=>kB))<|zk (QG rfl rfl K4 kL (fun hg=>by (simp [Yq] at hg;omega)))<|zk (Qa rfl Ky) ?_
  refine zk (Qc rfl Ql (fun hg=>by exact zB8 (k:=((k:Int)-1).toNat) hS (Uw (d:=zeroL) hS.len kB) rfl))<|zk (QA rfl rfl rfl)<|zbS rfl rfl rfl (.some rfl rfl rfl rfl gbf) rfl rfl<|K3 rfl rfl rfl rfl rfl<|Uo<|Qd ?_
  refine zI ?_ ?_<;>intro hc36
  ·
   refine zR (zA (zN (Qs (Qi (Qf (Qf (Qi<|Qf ?_)))))))
   first
   | exact zr rfl rfl (by unfold chk ckB;rw [if_neg h6,Ka (k:=k) (by rw [hS.len];exact hlt_k) (by have:=VL (d:=zeroL) hx;unfold ckP zrv;rw [this,hc36];rfl)];rfl)
  refine Qr (Qk (Qd (Qh (zM ?_))));refine zB<|zA (Qb ?_)
  exact zm (h:=⟨n-(k+1),kB,k+1,rfl,rfl,rfl,rfl,kB,Ji hall (by have:=VL (d:=zeroL) hx;unfold ckP zrv;rw [this,hc36];rfl)⟩)
 have hge_k:n≤k:=(by have h:=hc10;simp at h;omega);refine Zk (Qo (Qo (Qz (Qd (zR (zA (zN<|Qs ?_)))))))
 first
 | exact zr rfl rfl (by unfold chk ckB;rw [if_neg h6,hS.len,show n=k by omega,hall];rfl)
variable{x:Ls}
theorem zpF (hx:xs[0]? =some x):ckP xs 0= !(!zaS x||decide (x.no≤ -1)):=by
 unfold ckP;rw [VL hx];rw [show decide (((0:Nat):Int)>0)=false from rfl,Bool.false_and,Bool.or_false]
 cases h:zaS x with
 | false=>rfl
 | true=>
  have:0≤x.no:=by
   unfold zaS within at h;simp only [Bool.and_eq_true,decide_eq_true_eq] at h;omega
  rw [show decide (x.no≤ -1)=false from decide_eq_false kB];rfl
variable{k:Nat}
theorem zv1 {y:Ls}(hx:xs[k+1]? =some x)(hy:xs[k]? =some y):ckP xs (k+1)= !(!zaS x||decide (x.no≤y.no)):=by
 unfold ckP zrv;rw [VL hx,show (((k+1:Nat):Int)-1).toNat=k by omega,VL hy,show decide (((k+1:Nat):Int)>0)=true from decide_eq_true kB,Bool.true_and]
def zv5 (xs:List Ls)(k:Nat)(l:Int):Prop:=(k=0→l= -1)∧∀ y,xs[k-1]? =some y→k≠0→l=y.no
variable{l:Int}
theorem zyD (hx:xs[k]? =some x)(hl:zv5 xs k l):ckP xs k= !(!zaS x||decide (x.no≤l)):=by
 cases k with
 | zero=>rw [hl.1 rfl];exact zpF hx
 | succ k=>
  have hk:=(List.getElem?_eq_some_iff.1 hx).1;have hy:xs[k]? =some (xs[k]' kB):=List.getElem?_eq_getElem _;rw [hl.2 _ (by rw [Nat.add_sub_cancel];exact hy) kB];exact zv1 hx hy
theorem zlI (hx:xs[k]? =some x):zv5 xs (k+1) x.no:=⟨fun h=>kB,fun y hy _=>by simp at hy;rw [hx] at hy;cases hy;rfl⟩
theorem w_check (hS:Sl I 5 encL av n c xs)(hn:n≤100000):ZJ Tryz.prog 38 [.slice av n c] I (.int .i64 (chk xs)):=by
 intro g H w hw;refine qe Tryz.func38 Tryz.ntmps38 hw ?_;refine zR (zA (zN (Qm (zR ?_))));refine zM<|zQ K4<|zC (zN ?_)
 refine zI ?_ ?_<;>intro hc8
 ·
  have h6:xs.length>4096:=(by rw [hS.len];simp at hc8;omega);refine zR (zA (zN (Qs (Qf ?_))))
  first
  | exact zr rfl rfl (by unfold chk;rw [if_pos h6])
 have h6:¬xs.length>4096:=(by rw [hS.len];simp at hc8;omega);refine Qr (Qd (zR (zA (zN (Qm (zR ?_))))));refine zM<|zQ K4<|zM (zN (Qw ?_))
 refine zU [(9,_),(10,_)] (fun T L0 mz E I' loc'=>∃ (k:Nat) (l:Int),mz=n-k∧E=(3,.int .i64 l)::(11,.int .i64 k)::T∧I=I'∧L0=loc'∧k≤n∧(List.range k).all (ckP xs)=true∧zv5 xs k l) ?_ (h:=⟨0, -1,rfl,rfl,rfl,rfl,Nat.zero_le _,rfl,⟨fun _=>rfl,fun _ _ h=>absurd rfl h⟩⟩);rintro mz E I' loc' ⟨k,l,rfl,rfl,rfl,rfl,hk,hall,hl⟩;refine zR (zC (zN (Qm ?_)));refine zI ?_ ?_<;>intro hc12
 ·
  have hlt_k:k<n:=(by have h:=hc12;simp at h;omega);obtain ⟨x,hx⟩:=hS.at hlt_k;refine Qr (Qd (Qm (Qw (zR<|zV (QG rfl rfl K4 kL (fun hg=>kB))<|zV (Qg rfl Kj (fun hg=>by exact zB7 hS hx) rfl)<|Qp zhe rfl rfl (fun b_5=>zh zaX<|zN (Qm (zR ?_)))))));refine zV (Qg rfl Kj (fun hg=>by exact Cells.g0) rfl)<|qcV (vs:=[_]) rfl zzx (zhB I _)<|zO<|zM<|QI 3 rfl rfl rfl ?_
  refine zJ (Qa rfl Ky)<|zJ (Qc rfl Ql (fun hg=>by exact Qy.h0 rfl))<|zJ (Qe rfl)<|zJ (QA rfl rfl rfl)<|Q9 rfl rfl rfl rfl rfl<|zN ?_
  refine zI ?_ ?_<;>intro hc23
  ·
   refine zR (zA (zN (Qs (Qf (Qi (Qf (Qf<|Qi (Qf ?_))))))))
   first
   | exact zr rfl rfl (by unfold chk ckB;rw [if_neg h6,Ka (k:=k) (by rw [hS.len];exact hlt_k) (by rw [zyD hx hl,hc23];rfl)];rfl)
  refine Qr (Qd (Qh<|zF Ky ?_));refine zL Ql<|zA (Qb (Qk (Qd (Qh<|zB<|zM (Qb ?_)))))
  exact zm (h:=⟨n-(k+1),kB,k+1,x.no,rfl,rfl,rfl,rfl,kB,Ji hall (by rw [zyD hx hl,hc23];rfl),zlI hx⟩)
 have hge_k:n≤k:=(by have h:=hc12;simp at h;omega);refine Zk (Qo (Qo (Qz (Qd (zR (zA (zN<|Qs ?_)))))))
 first
 | exact zr rfl rfl (by unfold chk ckB;rw [if_neg h6,hS.len,show n=k by omega,hall];rfl)
end
end Go.Proofs.YtjblkbkmblkgoaaGreat.L
namespace Go.Proofs.YtjblkbkmblkgoaaGreat.S
section
open Go Go.Kn Go.Proofs
theorem Y6:AgT Tryz.prog 43 11:=.of kA
theorem zaW:EqT Tryz.prog 43 [.int,.int,.int,.int,.int,.int,.str,.str,.int,.int,.int]:=⟨kA,kA,kA,kA⟩
theorem Ve:QM Tryz.prog 43 0 0:=.of kA
theorem Jb:QM Tryz.prog 43 1 1:=.of kA
theorem YT:QM Tryz.prog 43 10 10:=.of kA
theorem JL:QM Tryz.prog 43 2 2:=.of kA
theorem Kr:QM Tryz.prog 43 3 3:=.of kA
theorem Kw:QM Tryz.prog 43 4 4:=.of kA
theorem Vp:QM Tryz.prog 43 5 5:=.of kA
theorem JN:QM Tryz.prog 43 6 6:=.of kA
theorem JO:QM Tryz.prog 43 7 7:=.of kA
theorem KA:QM Tryz.prog 43 8 8:=.of kA
theorem JP:QM Tryz.prog 43 9 9:=.of kA
theorem zts:Fun Tryz.prog 100:=.of Tryz.func100 kA kA
theorem zap:Fun Tryz.prog 101:=.of Tryz.func101 kA kA
theorem ztB:Fun Tryz.prog 149:=.of Tryz.func149 kA kA
theorem zvi:Fun Tryz.prog 164:=.of Tryz.func164 kA kA
theorem znl:Fun Tryz.prog 165:=.of Tryz.func165 kA kA
theorem zmA:Fun Tryz.prog 166:=.of Tryz.func166 kA kA
theorem zu5:Fun Tryz.prog 167:=.of Tryz.func167 kA kA
theorem KL:Fun Tryz.prog 193:=.of Tryz.func193 kA kA
theorem zhD:Fun Tryz.prog 194:=.of Tryz.func194 kA kA
theorem zoJ:Fun Tryz.prog 195:=.of Tryz.func195 kA kA
theorem zvG:Fun Tryz.prog 196:=.of Tryz.func196 kA kA
theorem Zd:KP (α:=Int) Tryz.prog 3 (.int .i64):=zhb kA
theorem mixed:Tryz.prog.follows .mixedOrders=true:=kA
theorem U8:MpT Tryz.prog 151 3 43 (.agg #[(.int .i64 0),(.int .i64 0),(.int .i64 0),(.int .i64 0),(.int .i64 0),(.int .i64 0),(.string ⟨#[]⟩),(.string ⟨#[]⟩),(.int .i64 0),(.int .i64 0),(.int .i64 0)]):=⟨kA,.of kA⟩
theorem zbY:MpT Tryz.prog 152 3 154 .nilFunc:=⟨kA,.of kA⟩
theorem WT:PlT Tryz.prog 43 #[(0,1),(1,1),(2,1),(3,1),(4,1),(5,1),(6,1),(7,1),(8,1),(9,1),(10,1)] (.agg #[(.int .i64 0),(.int .i64 0),(.int .i64 0),(.int .i64 0),(.int .i64 0),(.int .i64 0),(.string ⟨#[]⟩),(.string ⟨#[]⟩),(.int .i64 0),(.int .i64 0),(.int .i64 0)]):=⟨.of kA,kA,fun w=>kA⟩
theorem Ql:ScT Tryz.prog 3:=.of kA
theorem VZ:ScT Tryz.prog 9:=.of kA
theorem Yn:SlT Tryz.prog 65 43 11:=.of kA
theorem Uq:SzT Tryz.prog 43 11:=.of kA
theorem zvq:Tryz.prog.underlying 9=some .string:=kA
theorem za0:Vv Tryz.prog 43 (.agg #[(.int .i64 0),(.int .i64 0),(.int .i64 0),(.int .i64 0),(.int .i64 0),(.int .i64 0),(.string ⟨#[]⟩),(.string ⟨#[]⟩),(.int .i64 0),(.int .i64 0),(.int .i64 0)]):=.of kA
theorem Yi (I:Qu)(n lo hi:Int):ZJ Tryz.prog 101 [.int .i64 n,.int .i64 lo,.int .i64 hi] I (.bool (within n lo hi)):=by
 intro g H w hw;refine enter Tryz.func101 rfl Tryz.ntmps101 rfl hw<|zR<|zA<|zN (zR ?_)
 refine zM ?_;refine zM<|zC<|zM<|Qt 3 rfl rfl rfl ?_
 refine zK (Qe rfl) ?_;refine zK (Qe rfl) ?_;refine zK (QA rfl rfl rfl) ?_;refine QE rfl rfl rfl rfl rfl<|zA<|zN<|Qs ?_
 exact Qx rfl rfl (fun w hw=>⟨by rfl,hw.drop⟩)
theorem Yr (I:Qu)(n lo hi:Int):ZJ Tryz.prog 193 [.int .i64 n,.int .i64 lo,.int .i64 hi] I (.bool (within n lo hi)):=by
 intro g H w hw;refine enter Tryz.func193 rfl Tryz.ntmps193 rfl hw<|zR<|zA<|zN (zR ?_)
 refine zM ?_;refine zM<|zC<|zM<|Qt 3 rfl rfl rfl ?_
 refine zK (Qe rfl) ?_;refine zK (Qe rfl) ?_;refine zK (QA rfl rfl rfl) ?_;refine QE rfl rfl rfl rfl rfl<|zA<|zN<|Qs ?_
 exact Qx rfl rfl (fun w hw=>⟨by simp [within,Bool.and_comm],hw.drop⟩)
theorem znh (I:Qu)(x:Rt):ZJ Tryz.prog 165 [encA x] I (.bool (zlF x)):=by
 intro g H w hw;refine enter Tryz.func165 rfl Tryz.ntmps165 rfl hw<|zR<|QK rfl rfl rfl (fun b_1=>zA<|zN (zR<|zF KA ?_))
 refine zV (Qc rfl Ql (fun hg=>by exact Qy.h0 rfl))<|zC<|zM<|Qt 3 rfl rfl rfl ?_
 refine zK (Qa rfl KA) ?_;refine zK (Qc rfl Ql (fun hg=>by exact Qy.h0 rfl))<|zK (Qa rfl JP) ?_
 refine zK (Qc rfl Ql (fun hg=>by exact Qy.h0 rfl)) ?_;refine zK (QA rfl rfl rfl) ?_;refine QE rfl rfl rfl rfl rfl<|zM<|Qt 10 rfl rfl rfl ?_
 refine zK (Qa rfl JP) ?_;refine zK (Qc rfl Ql (fun hg=>by exact Qy.h0 rfl)) ?_;refine zK (QA rfl rfl rfl) ?_;refine QE rfl rfl rfl rfl rfl<|zM<|Qt 15 rfl rfl rfl ?_
 refine zK (Qa rfl JL) ?_;refine zK (Qc rfl Ql (fun hg=>by exact Qy.h0 rfl))<|Yh (cap:=[]) (vs:=[_,_,_]) rfl rfl zap (fun hg=>Yi I _ _ _) (.some rfl rfl rfl rfl gbt) rfl rfl<|QE rfl rfl rfl rfl rfl<|zA<|zN<|Qs ?_
 exact Qx rfl rfl (fun w hw=>⟨by rfl,hw.drop⟩)
theorem zdc (I:Qu)(x:Rt)(m:Value):ZJ Tryz.prog 166 [encA x,m] I (.bool (heldF x)):=by
 intro g H w hw;refine enter Tryz.func166 rfl Tryz.ntmps166 rfl hw<|zR<|QK rfl rfl rfl (fun b_2=>zA<|zN (zR<|zF Ve ?_))
 refine zV (Qc rfl Ql (fun hg=>by exact Qy.h0 rfl))<|zF Jb ?_
 refine zV (Qc rfl Ql (fun hg=>by exact Qy.h0 rfl))<|zF JL ?_
 refine zV (Qc rfl Ql (fun hg=>by exact Qy.h0 rfl))<|zF Kr ?_
 refine zV (Qc rfl Ql (fun hg=>by exact Qy.h0 rfl))<|zF Kw ?_
 refine zV (Qc rfl Ql (fun hg=>by exact Qy.h0 rfl))<|zF KA ?_
 refine zV (Qc rfl Ql (fun hg=>by exact Qy.h0 rfl))<|zF JP ?_
 refine zV (Qc rfl Ql (fun hg=>by exact Qy.h0 rfl))<|zF YT ?_
 refine zV (Qc rfl Ql (fun hg=>by exact Qy.h0 rfl))<|zV (QD (ps:=[(0,_),(1,_),(2,_),(3,_),(4,_),(8,_),(9,_),(10,_)]) [_,_,_,_,_,_,_,_,_,_,_] WT rfl rfl)<|Qp za0 rfl rfl (fun b_5=>V6 rfl rfl Uq rfl rfl rfl rfl kS<|zN (zR<|zV (Qg rfl Y6 (fun hg=>by exact Cells.g1) rfl)<|zV (Qg rfl Y6 (fun hg=>by exact Cells.g0) rfl)<|zV (Wh rfl rfl zaW rfl)<|zM<|Qt 3 rfl rfl rfl ?_))
 refine zK (Qg rfl Y6 (fun hg=>by exact Cells.g1) rfl)<|Yh (cap:=[]) (vs:=[_]) rfl rfl znl (fun hg=>znh I x) (.some rfl rfl rfl rfl gbt) rfl rfl<|QE rfl rfl rfl rfl rfl<|zM<|Qt 7 rfl rfl rfl ?_
 refine zK (Qa rfl Kr) ?_;refine zK (Qc rfl Ql (fun hg=>by exact Qy.h1 rfl))<|Yh (cap:=[]) (vs:=[_,_,_]) rfl rfl zap (fun hg=>Yi I _ _ _) (.some rfl rfl rfl rfl gbt) rfl rfl<|QE rfl rfl rfl rfl rfl<|zM<|Qt 12 rfl rfl rfl ?_
 refine zK (Qa rfl Kw) ?_;refine zK (Qc rfl Ql (fun hg=>by exact Qy.h1 rfl))<|Yh (cap:=[]) (vs:=[_,_,_]) rfl rfl zap (fun hg=>Yi I _ _ _) (.some rfl rfl rfl rfl gbt) rfl rfl<|QE rfl rfl rfl rfl rfl<|zA<|zN<|Qs ?_
 exact Qx rfl rfl (fun w hw=>⟨by rfl,hw.drop⟩)
theorem zyY (I:Qu)(x:Rt)(m:Value):ZJ Tryz.prog 164 [encA x,m] I (.bool (billF x)):=by
 intro g H w hw;refine enter Tryz.func164 rfl Tryz.ntmps164 rfl hw<|zR<|QK rfl rfl rfl (fun b_2=>zA<|zN (zR<|zF Ve ?_))
 refine zV (Qc rfl Ql (fun hg=>by exact Qy.h0 rfl))<|zF Jb ?_
 refine zV (Qc rfl Ql (fun hg=>by exact Qy.h0 rfl))<|zF JL ?_
 refine zV (Qc rfl Ql (fun hg=>by exact Qy.h0 rfl))<|zF JN ?_
 refine zV (Qc rfl VZ (fun hg=>by exact Qy.h0 rfl))<|zF JO ?_
 refine zV (Qc rfl VZ (fun hg=>by exact Qy.h0 rfl))<|zF KA ?_
 refine zV (Qc rfl Ql (fun hg=>by exact Qy.h0 rfl))<|zF JP ?_
 refine zV (Qc rfl Ql (fun hg=>by exact Qy.h0 rfl))<|zF YT ?_
 refine zV (Qc rfl Ql (fun hg=>by exact Qy.h0 rfl))<|zV (QD (ps:=[(0,_),(1,_),(2,_),(6,_),(7,_),(8,_),(9,_),(10,_)]) [_,_,_,_,_,_,_,_,_,_,_] WT rfl rfl)<|Qp za0 rfl rfl (fun b_5=>V6 rfl rfl Uq rfl rfl rfl rfl kS<|zN (zR<|zV (Qg rfl Y6 (fun hg=>by exact Cells.g1) rfl)<|zV (Qg rfl Y6 (fun hg=>by exact Cells.g0) rfl)<|zV (Wh rfl rfl zaW rfl)<|zM<|Qt 3 rfl rfl rfl ?_))
 refine zK (Qg rfl Y6 (fun hg=>by exact Cells.g1) rfl)<|Yh (cap:=[]) (vs:=[_]) rfl rfl znl (fun hg=>znh I x) (.some rfl rfl rfl rfl gbt) rfl rfl<|QE rfl rfl rfl rfl rfl<|zM<|Qt 7 rfl rfl rfl ?_
 refine zK (Qa rfl JN) ?_;refine zK (Qc rfl VZ (fun hg=>by exact Qy.h1 rfl))<|zK (Wa rfl zvq)<|Yh (cap:=[]) (vs:=[_,_,_]) rfl rfl zap (fun hg=>Yi I _ _ _) (.some rfl rfl rfl rfl gbt) rfl rfl<|QE rfl rfl rfl rfl rfl<|zM<|Qt 13 rfl rfl rfl ?_
 refine zK (Qa rfl JO) ?_;refine zK (Qc rfl VZ (fun hg=>by exact Qy.h1 rfl))<|zK (Wa rfl zvq)<|Yh (cap:=[]) (vs:=[_,_,_]) rfl rfl zap (fun hg=>Yi I _ _ _) (.some rfl rfl rfl rfl gbt) rfl rfl<|QE rfl rfl rfl rfl rfl<|zA<|zN<|Qs ?_
 exact Qx rfl rfl (fun w hw=>⟨by rfl,hw.drop⟩)
theorem zmE (I:Qu)(x:Rt):ZJ Tryz.prog 194 [encA x] I (.bool (zjQ x)):=by
 intro g H w hw;refine enter Tryz.func194 rfl Tryz.ntmps194 rfl hw<|zR<|QK rfl rfl rfl (fun b_1=>zA<|zN (zR<|zF KA ?_))
 refine zV (Qc rfl Ql (fun hg=>by exact Qy.h0 rfl))<|zF JP ?_
 refine zV (Qc rfl Ql (fun hg=>by exact Qy.h0 rfl))<|V7 (cap:=[]) (vs:=[_,_,_]) rfl rfl KL (Yr I _ _ _) rfl rfl<|zM<|Qt 5 rfl rfl rfl ?_
 refine zK (Qa rfl JP) ?_;refine zK (Qc rfl Ql (fun hg=>by exact Qy.h0 rfl)) ?_;refine zK (QA rfl rfl rfl) ?_;refine QE rfl rfl rfl rfl rfl<|zA<|zN<|Qs ?_
 exact Qx rfl rfl (fun w hw=>⟨by rfl,hw.drop⟩)
theorem zrI (I:Qu)(s:ByteArray):ZJ Tryz.prog 195 [.string s] I (.bool (zjK s)):=by
 intro g H w hw;refine enter Tryz.func195 rfl Tryz.ntmps195 rfl hw<|zR<|zA<|zN (zR ?_)
 refine zM<|zV (Wa rfl zvq)<|V7 (cap:=[]) (vs:=[_,_,_]) rfl rfl KL (Yr I _ _ _) rfl rfl<|zA<|zN<|Qs ?_
 exact Qx rfl rfl (fun w hw=>⟨by rfl,hw.drop⟩)
end
end Go.Proofs.YtjblkbkmblkgoaaGreat.S
