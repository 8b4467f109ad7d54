/- partiesWorldSpec_holds, part C of the proof: what its theorems say holds without further conditions. -/
import Derived.Lib.Hide
import Derived.Shelf.SlSortCmp.WholeK
import Derived.Test.YtjblkbkmblkgoaaGreatProg
import Derived.KernelRfl
import Derived.Test.YtjblkbkmblkgoaaGreatWSB
namespace Go.Proofs.YtjblkbkmblkgoaaGreat
section
open Go Go.Kn Go.Proofs
theorem zap:ArT Tryz.prog 317 4 4 1:=.of kA
theorem zm1:Fun Tryz.prog 248:=.of Tryz.func248 kA kA
theorem zhe:SzT Tryz.prog 317 4:=.of kA
theorem zdm:Vp Tryz.prog 317 (.agg #[(.bool false),(.bool false),(.bool false),(.bool false)]):=.of kA
theorem zr5 (n:Int):zAo (.int n):=by
 intro I bw bp hW v xs L hO cv hx hok hb;cases hx;exact zrd hO kB hok
theorem zk1 (s:List Nat):zAo (.text s):=by
 intro I bw bp hW v xs L hO cv hx hok hb;cases hx;exact znF hO (by simp [Va.enc] at hb;omega) hok.1
theorem zeR (d:Nat):∀ x,Va.depth x≤d→zAo x:=by
 induction d with
 | zero=>
  intro x hd
  cases x with
  | int n=>exact zr5 n
  | text s=>exact zk1 s
  | list l=>simp [Va.depth] at hd
 | succ d ih=>
  intro x hd
  cases x with
  | int n=>exact zr5 n
  | text s=>exact zk1 s
  | list l=>
   intro I bw bp hW v xs L hO cv hx hok hb
   cases hx with
   | list hS hl hr=>exact zcR hW hO hS hl hr (fun k y hy=>ih y (Kb (l:=l) (by simp only [Va.depth] at hd;omega) hy)) hok.2 hb
def zye (x:Va):Prop:=∀ {I:Qv} {cv:Vc} (_hx:VaR I x cv) (_hd:Va.depth x≤1000) (_hok:Va.ok x),ZF Tryz.prog 248 [.agg (Zd cv).toArray] I (.tuple #[.int .i64 (Va.depth x:Nat),.bool true])
variable{I:Qv}
theorem zfo (n:Int):ZF Tryz.prog 248 [.agg #[.int .i64 1,.int .i64 n,.string ⟨#[]⟩,.slice none 0 0]] I (.tuple #[.int .i64 0,.bool true]):=by
 intro g H w hw;refine qe Tryz.func248 Tryz.ntmps248 hw ?_;have hIc:=zCA I;refine zR<|QQ rfl rfl rfl (fun b_1=>zA<|zA<|zN (zR ?_))
 refine zF Yq ?_;refine zL VS<|zV (Ke rfl rfl rfl) ?_
 refine zM ?_;refine Qu 3 rfl rfl rfl ?_;refine zK (Qa rfl QN) ?_;refine zK (Qd rfl Zh (fun hg=>by exact Qz.h0 rfl)) ?_;refine zK (QV rfl ZI) ?_;refine zK (QE rfl rfl rfl) ?_;refine QD rfl rfl rfl rfl rfl ?_;refine zF YU ?_;refine zL Qn<|zC<|zM<|Qu 12 rfl rfl rfl ?_
 refine zK (Qa rfl QN) ?_;refine zK (Qd rfl Zh (fun hg=>by exact Qz.h0 rfl)) ?_;refine zK (QV rfl ZI) ?_;refine zK (QE rfl rfl rfl) ?_;refine QD rfl rfl rfl rfl rfl ?_;refine zF YU ?_;refine zL Qn<|zC<|zM<|Qu 21 rfl rfl rfl ?_
 refine zK (Qa rfl Yq) ?_;refine zK (Qd rfl VS (fun hg=>by exact Qz.h0 rfl)) ?_;refine zK (Ke rfl rfl rfl)<|QD rfl rfl rfl rfl rfl<|zV (VC (ps:=[(1,_),(2,_),(3,_)]) [_,_,_,_] zap zdm rfl rfl)<|Qt zdm rfl rfl (fun b_4=>zh zhe<|zN (Qm (zR<|zF Ze ?_)))
 refine zL Qn<|zC<|zM<|QK 3 rfl rfl rfl ?_
 refine zJ (Qa rfl Ze) ?_;refine zJ (Qd rfl Qn (fun hg=>by exact Qz.h1 rfl)) ?_;refine zJ (QE rfl rfl rfl)<|Zf rfl rfl rfl rfl rfl<|zM<|QK 8 rfl rfl rfl ?_
 refine zJ (Qa rfl Ze) ?_;refine zJ (Qd rfl Qn (fun hg=>by exact Qz.h1 rfl))<|zJ (ZV rfl rfl zap (fun hg=>kB))<|zJ (Qd rfl XJ (fun hg=>by exact Qz.h0 rfl))<|zJ (Zy rfl)<|Zf rfl rfl rfl rfl rfl<|zN ?_
 refine zI ?_ ?_<;>intro hc50
 ·
  simp [JG] at hc50
 refine Qp (Qc (Qm (zR<|zF Ze ?_)));refine zL Qn<|zC (zN ?_)
 refine zI ?_ ?_<;>intro hc53
 ·
  exact zR (zA<|zA (zN (Qs (Qf<|Y2 rfl rfl rfl (fun w hw=>⟨rfl,(hw.mono hIc).drop⟩)))))
 simp at hc53
theorem zc9 (s:ByteArray):ZF Tryz.prog 248 [.agg #[.int .i64 2,.int .i64 0,.string s,.slice none 0 0]] I (.tuple #[.int .i64 0,.bool true]):=by
 intro g H w hw;refine qe Tryz.func248 Tryz.ntmps248 hw ?_;have hIc:=zCA I;refine zR<|QQ rfl rfl rfl (fun b_1=>zA<|zA<|zN (zR ?_))
 refine zF Yq ?_;refine zL VS<|zV (Ke rfl rfl rfl) ?_
 refine zM ?_;refine Qu 3 rfl rfl rfl ?_;refine zK (Qa rfl QN) ?_;refine zK (Qd rfl Zh (fun hg=>by exact Qz.h0 rfl)) ?_;refine zK (QV rfl ZI) ?_;refine zK (QE rfl rfl rfl) ?_;refine QD rfl rfl rfl rfl rfl ?_;refine zF YU ?_;refine zL Qn<|zC<|zM<|Qu 12 rfl rfl rfl ?_
 refine zK (Qa rfl QN) ?_;refine zK (Qd rfl Zh (fun hg=>by exact Qz.h0 rfl)) ?_;refine zK (QV rfl ZI) ?_;refine zK (QE rfl rfl rfl) ?_;refine QD rfl rfl rfl rfl rfl ?_;refine zF YU ?_;refine zL Qn<|zC<|zM<|Qu 21 rfl rfl rfl ?_
 refine zK (Qa rfl Yq) ?_;refine zK (Qd rfl VS (fun hg=>by exact Qz.h0 rfl))<|zK (Ke rfl rfl rfl)<|QD rfl rfl rfl rfl rfl<|zV (VC (ps:=[(1,_),(2,_),(3,_)]) [_,_,_,_] zap zdm rfl rfl)<|Qt zdm rfl rfl (fun b_4=>zh zhe<|zN (Qm (zR<|zF Ze ?_)))
 refine zL Qn<|zC<|zM<|QK 3 rfl rfl rfl ?_
 refine zJ (Qa rfl Ze)<|zJ (Qd rfl Qn (fun hg=>by exact Qz.h1 rfl))<|zJ (QE rfl rfl rfl)<|Zf rfl rfl rfl rfl rfl<|zM<|QK 8 rfl rfl rfl ?_
 refine zJ (Qa rfl Ze)<|zJ (Qd rfl Qn (fun hg=>by exact Qz.h1 rfl))<|zJ (ZV rfl rfl zap (fun hg=>kB))<|zJ (Qd rfl XJ (fun hg=>by exact Qz.h0 rfl))<|zJ (Zy rfl)<|Zf rfl rfl rfl rfl rfl<|zN ?_
 refine zI ?_ ?_<;>intro hc50
 ·
  simp at hc50
 refine Qp (Qc (Qm (zR<|zF Ze ?_)));refine zL Qn<|zC (zN ?_)
 refine zI ?_ ?_<;>intro hc53
 ·
  exact zR (zA<|zA (zN (Qs (Qf<|Y2 rfl rfl rfl (fun w hw=>⟨rfl,(hw.mono hIc).drop⟩)))))
 simp at hc53
variable{l:List Va}{hs:List Vc}{a:Option Addr}{c:Nat}
theorem zjF {m:Nat}(hS:Sl I 4 Zd a m c hs)(hl:l.length=hs.length)(hr:∀ (k:Nat) (x:Va) (y:Vc),l[k]? =some x→hs[k]? =some y→VaR I x y)(ih:∀ (k:Nat) (x:Va),l[k]? =some x→zye x)(hok:Va.okL l)(hlm:l.length<2^63)(hd:Va.depthL l≤999):ZF Tryz.prog 248 [.agg #[.int .i64 3,.int .i64 0,.string ⟨#[]⟩,.slice a m c]] I (.tuple #[.int .i64 (Va.depthL l+1:Nat),.bool true]):=by
 intro g H w hw;refine qe Tryz.func248 Tryz.ntmps248 hw ?_;have hIc:=zCA I;have hml:=hS.len;refine zR<|QQ rfl rfl rfl (fun b_1=>zA<|zA<|zN (zR ?_))
 refine zF Yq ?_;refine zL VS<|zV (Ke rfl rfl rfl) ?_
 refine zM<|Qu 3 rfl rfl rfl ?_
 refine zK (Qa rfl QN) ?_;refine zK (Qd rfl Zh (fun hg=>by exact Qz.h0 rfl)) ?_;refine zK (QV rfl ZI) ?_;refine zK (QE rfl rfl rfl) ?_;refine QD rfl rfl rfl rfl rfl ?_;refine zF YU ?_;refine zL Qn<|zC<|zM<|Qu 12 rfl rfl rfl ?_
 refine zK (Qa rfl QN) ?_;refine zK (Qd rfl Zh (fun hg=>by exact Qz.h0 rfl)) ?_;refine zK (QV rfl ZI) ?_;refine zK (QE rfl rfl rfl) ?_;refine QD rfl rfl rfl rfl rfl ?_;refine zF YU ?_;refine zL Qn<|zC<|zM<|Qu 21 rfl rfl rfl ?_
 refine zK (Qa rfl Yq) ?_;refine zK (Qd rfl VS (fun hg=>by exact Qz.h0 rfl))<|zK (Ke rfl rfl rfl)<|QD rfl rfl rfl rfl rfl<|zV (VC (ps:=[(1,_),(2,_),(3,_)]) [_,_,_,_] zap zdm rfl rfl)<|Qt zdm rfl rfl (fun b_4=>zh zhe<|zN (Qm (zR<|zF Ze ?_)))
 refine zL Qn<|zC<|zM<|QK 3 rfl rfl rfl ?_
 refine zJ (Qa rfl Ze)<|zJ (Qd rfl Qn (fun hg=>by exact Qz.h1 rfl))<|zJ (QE rfl rfl rfl)<|Zf rfl rfl rfl rfl rfl<|zM<|QK 8 rfl rfl rfl ?_
 refine zJ (Qa rfl Ze)<|zJ (Qd rfl Qn (fun hg=>by exact Qz.h1 rfl))<|zJ (ZV rfl rfl zap (fun hg=>kB))<|zJ (Qd rfl XJ (fun hg=>by exact Qz.h0 rfl))<|zJ (Zy rfl)<|Zf rfl rfl rfl rfl rfl<|zN ?_
 refine zI ?_ ?_<;>intro hc50
 ·
  simp [JG] at hc50
 refine Qp (Qc (Qm (zR<|zF Ze ?_)));refine zL Qn<|zC (zN ?_)
 refine zI ?_ ?_<;>intro hc53
 ·
  simp at hc53
 refine Qp (Qc (Qm (zR<|zF QN ?_)));refine zL Zh<|zQ ZI<|zM (zN (Qr ?_))
 refine zU [(55,_),(56,_)] (fun T L0 mz E I' loc'=>∃ (k:Nat) (dd:Int),mz=m-k∧E=(2,.int .i64 dd)::(57,.int .i64 k)::T∧I=I'∧L0=loc'∧k≤m∧dd=((Va.depthL (l.take k):Nat):Int)) ?_ (h:=⟨0,0,rfl,rfl,rfl,rfl,Nat.zero_le _,rfl⟩);rintro mz E I' loc' ⟨k,dd,rfl,rfl,rfl,rfl,hk,hdd⟩;refine zR (zC (zN (Qm ?_)));refine zI ?_ ?_<;>intro hc58
 ·
  have hlt_k:k<m:=(by have h:=hc58;simp at h;omega);obtain ⟨cv,hy⟩:∃ y,hs[k]? =some y:=⟨_,List.getElem?_eq_getElem kB⟩;obtain ⟨x,hlx⟩:∃ y,l[k]? =some y:=⟨_,List.getElem?_eq_getElem kB⟩;have hxy:=hr k x cv hlx hy;have hokx:=zaw hok hlx;have hdx:=Kb hd hlx;refine Qp (Qc (Qm (Qr (zR<|zV (zX ZI hS)<|zV (Qg rfl Zg (fun hg=>by exact zCB hS hy) rfl)<|Qt Yv rfl rfl (fun b_6=>zh Zs<|zN (zR ?_))))));refine zV (Qg rfl Zg (fun hg=>by exact Cells.g0) rfl)<|qcV (vs:=[_]) rfl zm1 (ih k x hlx hxy kB hokx)<|zM ?_
  refine zE ?_;refine zE<|zA<|zA (zN (Qm (zR<|zM<|zO (zN ?_))))
  refine zI ?_ ?_<;>intro hc67
  ·
   simp at hc67
  refine Qp (Qc (Qh (zM ?_)));refine zM<|zV (VE rfl rfl)<|zA (Qb (Qi (Qc (Qh<|zB<|zM (Qb ?_)))))
  exact zm (h:=⟨m-(k+1),kB,k+1,_,rfl,rfl,rfl,rfl,kB,by rw [zci hlx,hdd];unfold zgq;split<;>omega⟩)
 have hge_k:m≤k:=(by have h:=hc58;simp at h;omega);have hke:l.take k=l:=List.take_of_length_le kB;rw [hke] at hdd;refine Q6 (Ql (Ql (Qq (Qc (zR (zM ?_))))));refine zB<|zA<|zA (zN (Qs ?_))
 exact Y2 rfl rfl rfl (fun w hw=>⟨by rw [hdd];rfl,(hw.mono hIc).drop⟩)
theorem znG (d:Nat):∀ x,Va.depth x≤d→zye x:=by
 induction d with
 | zero=>
  intro x hd I cv hx _ hok
  cases x with
  | int n=>cases hx;exact zfo n
  | text s=>cases hx;exact zc9 _
  | list l=>simp [Va.depth] at hd
 | succ d ih=>
  intro x hd I cv hx h1 hok
  cases x with
  | int n=>cases hx;exact zfo n
  | text s=>cases hx;exact zc9 _
  | list l=>
   cases hx with
   | list hS hl hr=>exact zjF hS hl hr (fun k y hy=>ih y (Kb (l:=l) (by simp only [Va.depth] at hd;omega) hy)) hok.2 hok.1 (by simp only [Va.depth] at h1;omega)
variable{x:Va}{cv:Vc}
theorem zp8 (hx:VaR I x cv)(hd:Va.depth x≤1000)(hok:Va.ok x):ZF Tryz.prog 248 [.agg (Zd cv).toArray] I (.tuple #[.int .i64 (Va.depth x:Nat),.bool true]):=znG _ x (Nat.le_refl _) hx hd hok
theorem zzn (hx:VaR I x cv)(hd:Va.depth x≤16)(hok:Va.ok x):ZF Tryz.prog 197 [.agg (Zd cv).toArray] I (.int .i64 0):=by
 intro g H w hw;refine qe Tryz.func197 Tryz.ntmps197 hw ?_;have hIc:=zCA I;refine zR<|QQ rfl rfl rfl (fun b_1=>zA<|zN (zR<|zV (Qg rfl Zg (fun hg=>by exact Cells.g0) rfl)<|qcV (vs:=[_]) rfl zm1 (zp8 hx kB hok)<|zM ?_))
 refine zE ?_;refine zE<|zA<|zA (zN (Qm (Qr (zR<|zM<|zO<|zA (zN ?_)))))
 refine zI ?_ ?_<;>intro hc10
 ·
  simp at hc10
 refine zR (zM<|zC<|zA (zN ?_));refine zI ?_ ?_<;>intro hc13
 ·
  simp at hc13;omega
 exact Qp (Qi (Qc (zR (zA (zN (Qs<|QA rfl rfl (fun w hw=>⟨rfl,(hw.mono hIc).drop⟩)))))))
theorem zvH:Fun Tryz.prog 197:=.of Tryz.func197 kA kA
theorem zg8:Fun Tryz.prog 198:=.of Tryz.func198 kA kA
theorem zdF (hx:VaR I x cv)(hd:Va.depth x≤16)(hok:Va.ok x)(hb:(Va.enc x).length≤900000):Y7 Tryz.prog 151 [.agg (Zd cv).toArray] I [] (fun v _I' L'=>∃ bv,v= .tuple #[bv,.int .i64 0]∧X2 5 bv (Va.enc x) L'):=by
 intro g H w hw;refine qe Tryz.func151 Tryz.ntmps151 hw ?_;have hIc:=zCA I;refine zR<|QQ rfl rfl rfl (fun b_1=>zA<|zA (zN (Qm (zR<|zV (Qg rfl Zg (fun hg=>by exact Cells.g0) rfl)<|qcV (vs:=[_]) rfl zvH (zzn hx hd hok)<|zA<|zN (zR ?_)))))
 refine zM<|zC (zN ?_)
 refine zI ?_ ?_<;>intro hc8
 ·
  simp at hc8
 refine Qp (Qc (Qm ?_));rcases VaR.cases hx with ⟨n,rfl,rfl⟩ | ⟨s,rfl,rfl⟩ | ⟨l2,a2,m2,c2,rfl,rfl⟩
 ·
  have hD:=zCA I;refine Zm<|QI I [(b_1,.cells (Zd ⟨1,n,⟨#[]⟩,none,0,0⟩).toArray 158 (0,0))] mixed<|zT 1 rfl (Qa rfl Ze) hD<|zT 2 rfl (Qd rfl Qn (fun hg=>by exact Qz.h0 rfl)) hD<|zT 7 rfl (Qg rfl Zg (fun hg=>by exact Cells.g0) rfl) hD<|qd 0 rfl<|zpc [] rfl zg8 .nil (WU I) ?_
  rintro vv1 I1 L1 hI1 ⟨rfl,bw,bp,rfl,hW⟩;have hx:=hx.mono hI1;have hIc:=hIc.trans hI1;have hD:=hD.trans hI1;refine Qb<|zD hD<|zT 3 rfl (QB rfl) hD<|zT 4 rfl (ZV rfl rfl K9 (fun hg=>by (dsimp only;omega))) hD<|zT 5 rfl (Qa rfl Jf) hD<|qd 6 rfl<|zV (Qd rfl X9 (fun hg=>by exact Qz.imm hW.1 rfl))<|Qb<|zD hD<|qd 8 rfl<|zpc [_,_] rfl zm7 .nil (zeR _ _ (Nat.le_refl _) hW X2.nil hx hok (by simpa using hb)) ?_
  rintro vv2 I2 L2 hI2 ⟨rfl,hO2⟩;have hIc:=hIc.trans hI2;have hD:=hD.trans hI2;exact Qb<|zD hD<|zT 9 rfl (Qy rfl) hD<|zT 10 rfl (Qy rfl) hD<|Qo kA<|Qw<|Qc (Qs<|Y2 rfl rfl rfl (fun w hw=>⟨_,I2,_,rfl,hIc,hw.subL (by exact QJ),_,rfl,by simpa using hO2⟩))
 ·
  have hD:=zCA I;refine Zm<|QI I [(b_1,.cells (Zd ⟨2,0,UR s,none,0,0⟩).toArray 158 (0,0))] mixed<|zT 1 rfl (Qa rfl Ze) hD<|zT 2 rfl (Qd rfl Qn (fun hg=>by exact Qz.h0 rfl)) hD<|zT 7 rfl (Qg rfl Zg (fun hg=>by exact Cells.g0) rfl) hD<|qd 0 rfl<|zpc [] rfl zg8 .nil (WU I) ?_
  rintro vv3 I3 L3 hI3 ⟨rfl,bw,bp,rfl,hW⟩;have hx:=hx.mono hI3;have hIc:=hIc.trans hI3;have hD:=hD.trans hI3;refine Qb<|zD hD<|zT 3 rfl (QB rfl) hD<|zT 4 rfl (ZV rfl rfl K9 (fun hg=>by (dsimp only;omega))) hD<|zT 5 rfl (Qa rfl Jf) hD<|qd 6 rfl<|zV (Qd rfl X9 (fun hg=>by exact Qz.imm hW.1 rfl))<|Qb<|zD hD<|qd 8 rfl<|zpc [_,_] rfl zoP .nil (zeR _ _ (Nat.le_refl _) hW X2.nil hx hok (by simpa using hb)) ?_
  rintro vv4 I4 L4 hI4 ⟨rfl,hO2⟩;have hIc:=hIc.trans hI4;have hD:=hD.trans hI4;exact Qb<|zD hD<|zT 9 rfl (Qy rfl) hD<|zT 10 rfl (Qy rfl) hD<|Qo kA<|Qw<|Qc (Qs<|Y2 rfl rfl rfl (fun w hw=>⟨_,I4,_,rfl,hIc,hw.subL (by exact QJ),_,rfl,by simpa using hO2⟩))
 have hD:=zCA I;refine Zm<|QI I [(b_1,.cells (Zd ⟨3,0,⟨#[]⟩,a2,m2,c2⟩).toArray 158 (0,0))] mixed<|zT 1 rfl (Qa rfl Ze) hD<|zT 2 rfl (Qd rfl Qn (fun hg=>by exact Qz.h0 rfl)) hD<|zT 7 rfl (Qg rfl Zg (fun hg=>by exact Cells.g0) rfl) hD<|qd 0 rfl<|zpc [] rfl zg8 .nil (WU I) ?_
 rintro vv5 I5 L5 hI5 ⟨rfl,bw,bp,rfl,hW⟩;have hx:=hx.mono hI5;have hIc:=hIc.trans hI5;have hD:=hD.trans hI5;refine Qb<|zD hD<|zT 3 rfl (QB rfl) hD<|zT 4 rfl (ZV rfl rfl K9 (fun hg=>by (dsimp only;omega))) hD<|zT 5 rfl (Qa rfl Jf) hD<|qd 6 rfl<|zV (Qd rfl X9 (fun hg=>by exact Qz.imm hW.1 rfl))<|Qb<|zD hD<|qd 8 rfl<|KX (cap:=[ZE bp]) (vs:=[_,_]) rfl rfl zkB .nil (zeR _ _ (Nat.le_refl _) hW X2.nil hx hok (by simpa using hb)) rfl rfl ?_
 rintro vv6 I6 L6 hI6 ⟨rfl,hO2⟩;have hIc:=hIc.trans hI6;have hD:=hD.trans hI6;exact Qb<|zD hD<|zT 9 rfl (Qy rfl) hD<|zT 10 rfl (Qy rfl) hD<|Qo kA<|Qw<|Qc (Qs<|Y2 rfl rfl rfl (fun w hw=>⟨_,I6,_,rfl,hIc,hw.subL (by exact QJ),_,rfl,by simpa using hO2⟩))
structure Sg where
 id:Int
 role:Int
 bar:Int
 mark:Int
 kind:Int
 side:Int
 dir:Int
 level:Int
 size:Int
 wth:Int
 fn:Int
 fd:Int
 tn:Int
 td:Int
def zgB (x:Sg):List Value:=[.int .i64 x.id,.int .i64 x.role,.int .i64 x.bar,.int .i64 x.mark,.int .i64 x.kind,.int .i64 x.side,.int .i64 x.dir,.int .i64 x.level,.int .i64 x.size,.int .i64 x.wth,.int .i64 x.fn,.int .i64 x.fd,.int .i64 x.tn,.int .i64 x.td]
def Xa (x:Sg):Value:=.agg (zgB x).toArray
def JZ:Sg:=⟨0,0,0,0,0,0,0,0,0,0,0,0,0,0⟩
theorem zh7 (x:Sg):(zgB x).length=14:=rfl
def zjW (x y:Sg):Bool:=x.id==y.id&&(x.role==y.role&&(x.bar==y.bar&&(x.mark==y.mark&&(x.kind==y.kind&&(x.side==y.side&&(x.dir==y.dir&&(x.level==y.level&&(x.size==y.size&&(x.wth==y.wth&&(x.fn==y.fn&&(x.fd==y.fd&&(x.tn==y.tn&&(x.td==y.td&&true)))))))))))))
theorem XR {x y:Sg}:zjW x y=true↔x=y:=by
 obtain ⟨a1,a2,a3,a4,a5,a6,a7,a8,a9,a10,a11,a12,a13,a14⟩:=x;obtain ⟨b1,b2,b3,b4,b5,b6,b7,b8,b9,b10,b11,b12,b13,b14⟩:=y;simp [zjW]
instance : DecidableEq Sg := fun a b => decidable_of_iff (zjW a b = true) XR
structure Pt where
 id:Int
 kind:Int
 sign:Int
 field:Int
 nw:Sg
 a:Option Addr
 n:Nat
 c:Nat
 needs:List Int
def K2 (p:Pt):List Value:=[.int .i64 p.id,.int .i64 p.kind,.int .i64 p.sign,.int .i64 p.field,.int .i64 p.nw.id,.int .i64 p.nw.role,.int .i64 p.nw.bar,.int .i64 p.nw.mark,.int .i64 p.nw.kind,.int .i64 p.nw.side,.int .i64 p.nw.dir,.int .i64 p.nw.level,.int .i64 p.nw.size,.int .i64 p.nw.wth,.int .i64 p.nw.fn,.int .i64 p.nw.fd,.int .i64 p.nw.tn,.int .i64 p.nw.td,.slice p.a p.n p.c]
def Ko (p:Pt):Value:=.agg (K2 p).toArray
theorem Ju (x:Pt):(K2 x).length=19:=rfl
theorem zj7 (xs:List Pt):YF (xs.flatMap K2)=true:=Z8 (fun _=>rfl) xs
def Jq:Pt:=⟨0,0,0,0,JZ,none,0,0,[]⟩
def Nd (I:Qv)(p:Pt):Prop:=Sl I 1 ZX p.a p.n p.c p.needs
variable{I':Qv}{p:Pt}
theorem Nd.mono (h:Nd I p)(hI:HLe I I'):Nd I' p:=Sl.mono h hI
def SlP (I:Qv)(av:Option Addr)(n c:Nat)(ps:List Pt):Prop:=Sl I 19 K2 av n c ps∧∀ p∈ps,Nd I p
variable{av:Option Addr}{n:Nat}{ps:List Pt}
theorem SlP.mono (h:SlP I av n c ps)(hI:HLe I I'):SlP I' av n c ps:=⟨h.1.mono hI,fun p hp=>(h.2 p hp).mono hI⟩
theorem SlP.len (h:SlP I av n c ps):ps.length=n:=h.1.len
variable{k:Nat}
theorem SlP.at (h:SlP I av n c ps)(hk:k<n):∃ p,ps[k]? =some p∧Nd I p:=by
 obtain ⟨p,hp⟩:=h.1.at hk;exact ⟨p,hp,h.2 p (List.mem_of_getElem? hp)⟩
def zcM (n:Int):Int:=if n<0 then 0-n else n
def zoG (a b:Int):Int:=(Int.gcd a b:Int)
def Wz (n d:Int):Bool:= !(((((decide (d<1)||decide (d>1073741824))||decide (n< -1073741824))||decide (n>1073741824))||(zoG n d != 1)))
def zcf (fn fd tn td:Int):Bool:=(Wz fn fd&&Wz tn td)&&(decide (fn*td<tn*fd)&&(decide (fn≥0)&&decide (tn≤td)))
/-! ### Signs -/
def zBe (k:Sg):Bool:=within k.id 0 1048576&&within k.role 0 63&&within k.bar 0 4095&&within k.kind 1 9&&within k.mark 1 3&&within k.side 0 2&&within k.dir 0 8&&within k.level 0 3&&within k.size 0 255&&within k.wth 0 64
def frm (k:Sg):Bool:=zBe k&&zcf k.fn k.fd k.tn k.td
def skP (xs:List Sg)(i:Nat):Bool:= !(!frm (xs.getD i JZ)||(decide ((i:Int)>0)&&decide ((xs.getD ((i:Int)-1).toNat JZ).id≥(xs.getD i JZ).id)))
def skB (xs:List Sg):Bool:=(List.range xs.length).all (skP xs)
def zjw (xs:List Sg):Int:=if xs.length>4096 then 2 else if skB xs then 0 else 360
/-! ### Patches -/
def Ue (x:Sg)(f:Int)(y:Sg):Sg:=
 if f=1 then {x with role:=y.role} else if f=2 then {x with bar:=y.bar} else if f=3 then {x with mark:=y.mark} else if f=4 then {x with side:=y.side} else if f=5 then {x with dir:=y.dir}
 else if f=6 then {x with level:=y.level} else if f=7 then {x with size:=y.size} else if f=8 then {x with wth:=y.wth} else if f=9 then {x with fn:=y.fn,fd:=y.fd,tn:=y.tn,td:=y.td} else x
def zfG:Sg:=⟨0,0,0,3,9,0,0,0,0,0,0,1,1,2⟩
def zff:Sg:=⟨0,0,0,1,1,0,0,0,0,0,0,1,1,1⟩
def ndP (id:Int)(v:List Int)(i:Nat):Bool:= !((decide (v.getD i 0<1)||decide (v.getD i 0≥id))||(decide ((i:Int)>0)&&decide (v.getD i 0≤v.getD ((i:Int)-1).toNat 0)))
def ndB (id:Int)(v:List Int):Bool:=(List.range v.length).all (ndP id v)
def idB (p:Pt):Bool:=(decide (p.id≥1)&&decide (p.id≤1048576))&&(decide (p.sign≥0)&&decide (p.sign≤1048576))
def U0 (p:Pt):Bool:=
 if p.kind=1 then within p.field 1 9&&(zjW (Ue p.nw p.field JZ) JZ&&frm (Ue zfG p.field p.nw))
 else if p.kind=2 then p.field==0&&(p.nw.id==p.sign&&frm p.nw)
 else if p.kind=3 then p.field==0&&zjW p.nw JZ else false
def KJ (p:Pt):Int:=if p.needs.length>32 then 2 else if ndB p.id p.needs&&(idB p&&U0 p) then 0 else 370
end
end Go.Proofs.YtjblkbkmblkgoaaGreat
section
namespace Go.Proofs.YtjblkbkmblkgoaaGreat
open Go Go.Kn Go.Proofs
structure Lm where
 no:Int
 person:Int
 ends:Int
 lo:Int
 hi:Int
 known:Int
 ck:Int
 cl:Int
 cn:Int
def Zi (x:Lm):List Value:=[.int .i64 x.no,.int .i64 x.person,.int .i64 x.ends,.int .i64 x.lo,.int .i64 x.hi,.int .i64 x.known,.int .i64 x.ck,.int .i64 x.cl,.int .i64 x.cn]
def Jz (x:Lm):Value:=.agg (Zi x).toArray
theorem YI (x:Lm):(Zi x).length=9:=rfl
theorem zaC (xs:List Lm):YF (xs.flatMap Zi)=true:=Z8 (fun _=>rfl) xs
def VP:Lm:=⟨0,0,0,0,0,0,0,0,0⟩
def zAU (x y:Lm):Bool:=x.no==y.no&&(x.person==y.person&&(x.ends==y.ends&&(x.lo==y.lo&&(x.hi==y.hi&&(x.known==y.known&&((x.ck==y.ck&&(x.cl==y.cl&&(x.cn==y.cn&&true)))&&true))))))
theorem zrw {x y:Lm}:zAU x y=true↔x=y:=by
 obtain ⟨a1,a2,a3,a4,a5,a6,a7,a8,a9⟩:=x;obtain ⟨b1,b2,b3,b4,b5,b6,b7,b8,b9⟩:=y;simp [zAU]
instance : DecidableEq Lm := fun a b => decidable_of_iff (zAU a b = true) zrw
def VF (n lo hi:Int):Bool:=decide (lo≤n)&&decide (n≤hi)
def zhG (lo hi:Int)(xs:List Int):Bool:=xs.all fun n=> !(decide (n<lo)||decide (n>hi))
theorem XM (lo hi n:Int):zhG lo hi [n]=VF n lo hi:=by
 simp only [zhG,List.all_cons,List.all_nil,Bool.and_true,VF];rw [Bool.eq_iff_iff];simp
def zBo:List (Int×Int×Int):=[(0,0,0),(1,3,2),(1,1048576,2),(1,16,0),(0,16,0),(0,500,0),(0,1048576,0)]
def Xt (k:Int):Int×Int×Int:=zBo.getD k.toNat (0,0,0)
def zgA (ck cl cn:Int):Bool:=if VF ck 1 6 then (if VF cl 0 (Xt ck).2.2 then VF cn (Xt ck).1 (Xt ck).2.1 else false) else false
theorem zn7 {ck cl cn:Int}(h:VF ck 1 6=false):zgA ck cl cn=false:=by unfold zgA;rw [h];rfl
theorem zoF {ck cl cn:Int}(h:VF ck 1 6=true)(h2:VF cl 0 (Xt ck).2.2=false):zgA ck cl cn=false:=by unfold zgA;rw [h,h2];rfl
theorem zpT {ck cl cn:Int}(h:VF ck 1 6=true)(h2:VF cl 0 (Xt ck).2.2=true):zgA ck cl cn=VF cn (Xt ck).1 (Xt ck).2.1:=by unfold zgA;rw [h,h2];rfl
theorem six {ck:Int}(h:VF ck 1 6=true):ck=1∨ck=2∨ck=3∨ck=4∨ck=5∨ck=6:=by
 simp only [VF,Bool.and_eq_true,decide_eq_true_eq] at h;omega
def knM (pre:List Lm):List (Int×Lm):=pre.foldl (fun m y=>JI m y.no y) []
def rpM (pre:List Lm):List (Int×Bool):=pre.foldl (fun m y=>JI m y.ends true) []
def WP (pre:List Lm):Int:=match pre.getLast? with | none=> -1 | some y=>y.no
theorem Wq (pre:List Lm)(x:Lm):knM (pre++[x])=JI (knM pre) x.no x:=by simp [knM]
theorem Wo (pre:List Lm)(x:Lm):rpM (pre++[x])=JI (rpM pre) x.ends true:=by simp [rpM]
theorem KG (pre:List Lm)(x:Lm):WP (pre++[x])=x.no:=by simp [WP]
def zhY (pre:List Lm)(x:Lm):Option Lm:=ZD (knM pre) (IntKind.i64.wrap (x.ends-1))
def zqD (last:Int)(x:Lm):Bool:=(decide (x.no≤last)||decide (x.no>1048576))|| !VF x.person 0 63
def zoY (x:Lm):Bool:=((decide (x.lo<0)||decide (x.lo>x.hi))||decide (x.hi>73048))|| !VF x.known 0 134217727
def zo4 (x:Lm):Bool:= !zgA x.ck x.cl x.cn&&(!(x.ck==0&&(x.cl==0&&(x.cn==0&&true)))||x.ends==0)
def zvS (met rep:Bool)(old x:Lm):Bool:=(x.ends != 0)&&(((!met||rep)||old.person != x.person)||decide (old.known>x.known))
def zcQ (pre:List Lm)(x:Lm):Bool:=zqD (WP pre) x||zoY x||zo4 x||zvS (zhY pre x).isSome ((ZD (rpM pre) x.ends).getD false) ((zhY pre x).getD VP) x
def za0 (xs:List Lm):Int:=if xs.length>512 then 2 else if (List.range xs.length).any (fun k=>zcQ (xs.take k) (xs.getD k VP)) then 340 else 0
end Go.Proofs.YtjblkbkmblkgoaaGreat
namespace Go.Proofs.YtjblkbkmblkgoaaGreat
open Go Go.Kn Go.Proofs
def zjX (v:Value):List Value:=[v]
theorem zkt (v:Value):(zjX v).length=1:=rfl
section
variable {α β:Type} [DecidableEq α] {C:Cx} {E:Env} {I:Qv} {loc:Go.Kn.Loc} {S:GS} {dst:Option Tmp} {ty:TypeId} {pos:String} {af:Array Edge} {gd:Option (Nat×Bool)} {x y:Operand} {m:List (α×β)} {a:α} {ek:α→Value} {ev:β→Value}
theorem zgo {t k e r:Nat}{zv:Value}(z v:β)(b:Bool)(hz:ev z=zv)(hv:(ZD m a).getD z=v)(hb:(ZD m a).isSome=b)(hT:MpT C.P t k e zv)(hK:KL C.P k ek)(hx:QG S E x=some (.map (some r)))(hy:QG S E y=some (ek a))(hm:Z6 S=true→Mem I loc r (Yw ek ev m)):
  QW C S E I loc ⟨dst,.lookup t x y true,ty,pos,af,gd⟩ (.tuple #[ev v,.bool b]):=by
 have:=Z1 (C:=C) (S:=S) (dst:=dst) (ty:=ty) (pos:=pos) (af:=af) (gd:=gd) hT hK hx hy hm;subst hv;subst hb;subst hz
 cases h:ZD m a with
 | none=>rw [h] at this;exact this
 | some v=>rw [h] at this;exact this
end
theorem zh4 {xs:List Lm}(h:xs.length>512):za0 xs=2:=by unfold za0;rw [if_pos h]
theorem V1 {xs:List Lm}{k:Nat}{x:Lm}(h:¬xs.length>512)(hx:xs[k]? =some x)(hb:zcQ (xs.take k) x=true):za0 xs=340:=by
 unfold za0;rw [if_neg h,if_pos];rw [List.any_eq_true];refine ⟨k,List.mem_range.2 (List.getElem?_eq_some_iff.1 hx).1,?_⟩;rw [List.getD_eq_getElem?_getD,hx];exact hb
theorem zlf {xs:List Lm}(h:¬xs.length>512)(ha:∀ k x,k<xs.length→xs[k]? =some x→zcQ (xs.take k) x=false):za0 xs=0:=by
 unfold za0;rw [if_neg h,if_neg];rw [List.any_eq_true];rintro ⟨k,hk,hb⟩;have hk:=List.mem_range.1 hk;have hx:xs[k]? =some (xs[k]):=List.getElem?_eq_getElem hk;have:=ha k _ hk hx;rw [List.getD_eq_getElem?_getD,hx] at hb;rw [show ((some xs[k]:Option Lm).getD VP)=xs[k] from rfl,this] at hb;cases hb
theorem zyA {pre:List Lm}{x:Lm}(h:zqD (WP pre) x=true):zcQ pre x=true:=by simp [zcQ,h]
theorem zxm {pre:List Lm}{x:Lm}(h:zoY x=true):zcQ pre x=true:=by simp [zcQ,h]
theorem zw1 {pre:List Lm}{x:Lm}(h:zo4 x=true):zcQ pre x=true:=by simp [zcQ,h]
theorem zxo {pre:List Lm}{x:Lm}(h:zvS (zhY pre x).isSome ((ZD (rpM pre) x.ends).getD false) ((zhY pre x).getD VP) x=true):zcQ pre x=true:=by simp [zcQ,h]
theorem ztr {pre:List Lm}{x:Lm}(h1:zqD (WP pre) x=false)(h2:zoY x=false)(h3:zo4 x=false)(h4:zvS (zhY pre x).isSome ((ZD (rpM pre) x.ends).getD false) ((zhY pre x).getD VP) x=false):zcQ pre x=false:=by simp [zcQ,h1,h2,h3,h4]
theorem Za {α:Type}{xs:List α}{k:Nat}{x:α}(h:xs[k]? =some x):xs.take (k+1)=xs.take k++[x]:=by rw [List.take_add_one,h];rfl
theorem VK {α:Type}{P:Nat→α→Prop}{xs:List α}{k:Nat}{x:α}(hx:xs[k]? =some x)(hall:∀ j y,j<k→xs[j]? =some y→P j y)(hk:P k x):∀ j y,j<k+1→xs[j]? =some y→P j y:=fun j y hj hy=>by
 rcases Nat.lt_or_ge j k with h | h
 ·
  exact hall j y h hy
 ·
  obtain rfl:j=k:=kB;rw [hx] at hy;cases hy;exact hk
end Go.Proofs.YtjblkbkmblkgoaaGreat
end
namespace Go.Kn
section
open Go
section
variable {g:World} {I I' H:Qv} {loc loc' L K A B:Loc} {w w':World}
theorem St.join2 (h:St g I (Kh H L) K w)(hn:(L.map (·.1)).Nodup)(hd:∀ b o,(b,o)∈L→H b=none):St g I H (K++L) w:=by
 have h':=h.swap hn hd;have hK:∀ b o,(b,o)∈K→H b=none:=fun b o hm=>(U7 (h.sepIL b o hm).2).1;refine ⟨h.os,h.tape,h.out,h.size,h.imm,fun b o e=>?_,fun b o hm=>?_,fun b=>?_,fun b o hm=>?_,?_⟩
 ·
  refine h.frm b o ?_;rw [XE (fun p hp=>by rw [hd b p hp] at e;cases e)];exact e
 ·
  rcases List.mem_append.1 hm with hm | hm
  ·
   exact h.own b o hm
  ·
   exact h'.own b o hm
 ·
  rcases h.sepIH b with e | e
  ·
   exact .inl e
  ·
   exact .inr (U7 e).1
 ·
  rcases List.mem_append.1 hm with hm | hm
  ·
   exact ⟨(h.sepIL b o hm).1,hK b o hm⟩
  ·
   exact ⟨(h'.sepIL b o hm).1,hd b o hm⟩
 ·
  rw [List.map_append,List.nodup_append];refine ⟨h.nodup,hn,fun x hx y hy e=>?_⟩;subst e;obtain ⟨⟨b,o⟩,hm,rfl⟩:=List.mem_map.1 hx;obtain ⟨⟨c,p⟩,hm',e⟩:=List.mem_map.1 hy;simp only at e;subst e;exact (U7 (h.sepIL _ _ hm).2).2 p hm'
theorem St.permL (h:St g I H loc w)(hp:loc'.Perm loc):St g I H loc' w:=h.perm (fun _p=>hp.mem_iff) ((hp.map (·.1)).nodup_iff.2 h.nodup)
end
theorem zdx {A B C:Loc}(h:Kr B C):Kr (A++B) (A++C):=by
 induction A with
 | nil=>exact h
 | cons x l ih=>exact .keep ih
def zmt {α:Type}(g:World)(Z:Loc)(Jc:List α→Qv→Qv→Loc→Prop)(Jx:Code→List α→Qv→Qv→Loc→Prop)(pre:List α):Exit→Act→World→Prop
 | .normal,_,w=>∃ I H L,Jc pre I H L∧St g I H (L++Z) w
 | .ret,_,w=>∃ I H L,Jx .ret pre I H L∧St g I H (L++Z) w
 | .exit id,_,w=>∃ I H L,Jx (.exit id) pre I H L∧St g I H (L++Z) w
 | _,_,_=>False
section
variable {α:Type} {C:Cx} {Q:Exit→Act→World→Prop} {E E':Env} {I I':Qv} {loc loc' L Z R:Loc}
variable {Jc:List α→Qv→Qv→Loc→Prop} {Jx:Code→List α→Qv→Qv→Loc→Prop} {pre:List α}
theorem zfe (h:Jc pre I C.H L)(hs:Kr (L++Z) loc):At C (zmt C.g Z Jc Jx pre) .normal E I loc:=fun _ _ _ hw=>⟨I,C.H,L,h,hw.subL hs⟩
end
section
variable {α:Type} {P:Program} {N:Nat} {g:World} {p:Nat} {assign body:Code} {f:FuncId} {cap:List Value} {rel:Value→α→Qv→Prop} {xs:List α} {E:Env} {I H:Qv} {L B:Loc}
def zzq (fn:FuncId)(tmps:Array Value)(p:Nat)(assign body:Code)(df:Nat)(st:LoopState)(pd:Option Code):Obj:=.loop {state:=st,pending:=pd,fn,tmps,params:= #[p],assign,body,defers:=df}
end
section
variable {α:Type} {P:Program} {N:Nat} {g:World} {H:Qv} {Q:Exit→Act→World→Prop} {gop:Operand} {p:Nat} {assign body:Code} {f:FuncId} {cap:List Value} {rel:Value→α→Qv→Prop} {xs:List α} {E:Env} {I:Qv} {L:Loc}
end
/-! ### A loop whose rounds may leave marks and turn the frame -/
section
variable {P:Program} {r:Option Nat} {N:Nat} {g:World} {H:Qv} {Q:Exit→Act→World→Prop} {E E':Env} {I I':Qv} {loc loc' L R:Loc} {ms:List Nat}
end
section
variable {C:Cx} {Q:Exit→Act→World→Prop} {E G:Env} {I I' I0:Qv} {loc loc' loc0 L R:Loc} {ops:Array Oper} {rest:List Oper} {S:GS}
variable {dst:Option Nat} {d:Nat} {ty:TypeId} {pos:String} {af:Array Edge} {gd:Option (Nat×Bool)} {x y z:Operand} {a b c:Int}
def zj8 (u:Value)(want:Bool):Bool:=match u with | .bool b=>b != want | _=>true
theorem zcJ {j dj:Nat}{want:Bool}{oj o:Oper}{u:Value}{N:Nat}{D:List Deferred}{a:Act}(hg:o.guard=some (j,want))(hj:ops[j]? =some oj)(hd:oj.dst=some dj)(ha:Uf N D E a)(hl:VN E dj=some u)(hu:zj8 u want=true):Region.wanted o (yielded ops a.tmps)=false:=by
 have h:=ha.env _ _ hl;simp only [Region.wanted,hg]
 cases u with
 | bool b0=>
  rw [U2 hj hd h];cases b0<;>cases want<;>first | rfl | cases hu
 | _=>
  have hy:yielded ops a.tmps j=none:=by
   unfold yielded;simp only [hj,Option.bind_some,hd]
   cases e:a.tmps[dj]? with
   | none=>rfl
   | some v=>
    simp [e] at h;rw [h]
  rw [hy];rfl
theorem Z4 {op:Op}{j dj:Nat}{want:Bool}{oj:Oper}{u:Value}(hj:ops[j]? =some oj)(hd:oj.dst=some dj)(hl:VN E dj=some u)(hu:zj8 u want=true)(hN:Nat.blt d C.N=true)
  (h:XO C Q ops rest [] ((d,undef)::E) I loc):XO C Q ops (⟨some d,op,ty,pos,af,some (j,want)⟩::rest) [] E I loc:=by
 intro a w ha hg hw;simp only [wpListIn];rw [zcJ (o:=⟨some d,op,ty,pos,af,some (j,want)⟩) rfl hj hd ha hl hu];simp only [Bool.false_eq_true,if_false];exact ⟨fun _ _=>trivial,h _ _ (ha.put hN undef) trivial hw⟩
theorem zrk (i:Nat){j dj fuel:Nat}{want:Bool}{oj:Oper}{listed:Array Bool}{op:Op}{u:Value}(hi:ops[i]? =some ⟨some d,op,ty,pos,af,some (j,want)⟩)(hj:ops[j]? =some oj)(hd:oj.dst=some dj)(hlk:VN E dj=some u)(hu:zj8 u want=true)
  (hdf:∀ c,op≠ .defer c)(hN:Nat.blt d C.N=true)
  (hs:Region.noSelect ops=true)(hfr:Region.free .any ops listed i=true)(hr:(Region.ready .any ops listed).contains i=true)(hQ:Yl Q)(hI:HLe I0 I)(hl:Kr loc0 loc)
  (h:XD C Q ops I0 loc0 fuel (listed.setIfInBounds i true) [] ((d,undef)::E) I loc):XD C Q ops I0 loc0 (fuel+1) listed [] E I loc:=by
 intro a w ha hg hw;have hp:=ha.put hN undef;exact Vh (v:=undef) hi hdf (Region.noSelect_spec hs) (fun c a w=>hQ c a d _ w) fuel listed a w (Region.free_spec hi hfr) (by simpa using hr) (.inr ⟨by rw [zcJ (o:=⟨some d,op,ty,pos,af,some (j,want)⟩) rfl hj hd ha hlk hu],rfl⟩) ((hw.mono hI).subL hl) (h _ _ hp trivial hw)
theorem zW (i dj:Nat){j fuel:Nat}{want:Bool}{oj:Oper}{listed:Array Bool}{op:Op}{u:Value}(hI:HLe I0 I)(h:XD C Q ops I0 loc0 fuel (listed.setIfInBounds i true) [] ((d,undef)::E) I loc)(hi:ops[i]? =some ⟨some d,op,ty,pos,af,some (j,want)⟩:=by exact rfl)(hj:ops[j]? =some oj:=by exact rfl)(hd:oj.dst=some dj:=by exact rfl)(hlk:VN E dj=some u:=by exact rfl)(hu:zj8 u want=true:=by exact rfl)
  (hdf:∀ c,op≠ .defer c:=by (intro c e;cases e))(hN:Nat.blt d C.N=true:=by exact rfl)(hs:Region.noSelect ops=true:=by kernel_rfl)(hfr:Region.free .any ops listed i=true:=by kernel_rfl)(hr:(Region.ready .any ops listed).contains i=true:=by kernel_rfl)(hQ:Yl Q:=by first | exact JV | (repeat (first | exact Uy | with_reducible refine UB ?_ | with_reducible refine Ky ?_)))(hl:Kr loc0 loc:=by repeat (first | exact .refl | exact Qx | refine .keep ?_ | refine .drop ?_ | refine QP ?_)):XD C Q ops I0 loc0 (fuel+1) listed [] E I loc:=zrk i hi hj hd hlk hu hdf hN hs hfr hr hQ hI hl h
end
end
end Go.Kn
namespace Go.Proofs.YtjblkbkmblkgoaaGreat
section
open Go Go.Kn Go.Proofs
theorem zhB:AgT Tryz.prog 224 4:=.of kA
theorem zts:AgT Tryz.prog 225 28:=.of kA
theorem zdH:ArT Tryz.prog 225 7 224 4:=.of kA
theorem zl3:QL Tryz.prog 224 1 1:=.of kA
theorem zk0:QL Tryz.prog 224 2 2:=.of kA
theorem zfJ:QL Tryz.prog 224 3 3:=.of kA
theorem Xm:QL Tryz.prog 30 0 0:=.of kA
theorem JM:QL Tryz.prog 30 1 1:=.of kA
theorem Kz:QL Tryz.prog 30 2 2:=.of kA
theorem zdQ:Fun Tryz.prog 158:=.of Tryz.func158 kA kA
theorem zmo:Fun Tryz.prog 159:=.of Tryz.func159 kA kA
theorem zan:PlT Tryz.prog 224 #[(0,1),(1,1),(2,1),(3,1)] (.agg #[.nilFunc,(.int .i64 0),(.int .i64 0),(.int .i64 0)]):=⟨.of kA,kA,fun w=>kA⟩
theorem zhb:SzT Tryz.prog 224 4:=.of kA
theorem ztX:SzT Tryz.prog 225 28:=.of kA
theorem zm6:Vp Tryz.prog 224 (.agg #[.nilFunc,(.int .i64 0),(.int .i64 0),(.int .i64 0)]):=.of kA
theorem zrL:Vp Tryz.prog 225 (.agg #[.nilFunc,(.int .i64 0),(.int .i64 0),(.int .i64 0),.nilFunc,(.int .i64 0),(.int .i64 0),(.int .i64 0),.nilFunc,(.int .i64 0),(.int .i64 0),(.int .i64 0),.nilFunc,(.int .i64 0),(.int .i64 0),(.int .i64 0),.nilFunc,(.int .i64 0),(.int .i64 0),(.int .i64 0),.nilFunc,(.int .i64 0),(.int .i64 0),(.int .i64 0),.nilFunc,(.int .i64 0),(.int .i64 0),(.int .i64 0)]):=.of kA
variable{I:Qv}{av:Option Addr}{xs:List Int}
theorem zd7 {n c:Nat}(hS:Sl I 1 ZX av n c xs)(hn:n≤100000)(lo hi:Int):ZF Tryz.prog 158 [.int .i64 lo,.int .i64 hi,.slice av n c] I (.bool (zhG lo hi xs)):=by
 intro g H w hw;refine qe Tryz.func158 Tryz.ntmps158 hw ?_;have hln:=hS.len;refine zR (zA (zN (Qm (zR ?_))));refine zM<|zQ Q4<|zM (zN (Qr ?_))
 refine zU [(0,_),(1,_),(9,_),(10,_)] (fun T L0 mz E I' loc'=>∃ (k:Nat),mz=n-k∧E=(11,.int .i64 k)::T∧I=I'∧L0=loc'∧k≤n∧zhG lo hi (xs.take k)=true) ?_ (h:=⟨0,rfl,rfl,rfl,rfl,Nat.zero_le _,rfl⟩);rintro mz E I' loc' ⟨k,rfl,rfl,rfl,rfl,hk,hall⟩;refine zR (zC (zN (Qm ?_)));refine zI ?_ ?_<;>intro hc12
 ·
  have hlt_k:k<n:=(by have h:=hc12;simp at h;omega);obtain ⟨x,hx⟩:∃ x,xs[k]? =some x:=⟨_,List.getElem?_eq_getElem kB⟩;refine Qp (Qc (Qm (Qr (zR<|zV (zX Q4 hS)<|zV (Qd rfl Qn (fun hg=>by exact zCt hS hx rfl))<|zA<|zN (zR ?_)))));refine zM ?_;refine zM<|zC<|zM<|QK 3 rfl rfl rfl ?_
  refine zJ (Qe rfl) ?_;refine zJ (Qe rfl)<|zJ (QE rfl rfl rfl)<|Zf rfl rfl rfl rfl rfl<|zN ?_
  refine zI ?_ ?_<;>intro hc22
  ·
   refine zR (zA (zN (Qs (Qj (Qf (Qf (Qj<|Qf ?_)))))))
   first
   | exact zr rfl rfl (by rw [show zhG lo hi xs=false from by unfold zhG;rw [←List.take_append_drop (k+1) xs,List.all_append,List.take_add_one,hx,List.all_append];simp only [Option.toList,List.all_cons,List.all_nil];rw [show (decide (x<lo)||decide (x>hi))=true from hc22];simp])
  refine Qp (Qi (Qc (Qh (zB<|zM (Qb ?_)))));exact zm (h:=⟨n-(k+1),kB,k+1,rfl,rfl,rfl,rfl,kB,by unfold zhG at hall ⊢;rw [List.take_add_one,hx,List.all_append,hall];simp only [Option.toList,List.all_cons,List.all_nil,Bool.and_true,Bool.true_and];rw [show (decide (x<lo)||decide (x>hi))=false from hc22];rfl⟩)
 have hge_k:n≤k:=(by have h:=hc12;simp at h;omega);have hke:xs.take k=xs:=List.take_of_length_le kB;rw [hke] at hall;exact Q6 (Ql (Ql (Qq (Qc (zR (zA (zN<|Qs<|zr rfl rfl (by rw [hall]))))))))
def zf6:List Value:=[.nilFunc,.int .i64 0,.int .i64 0,.int .i64 0,.func (.func 210) #[] #[],.int .i64 1,.int .i64 3,.int .i64 2,.func (.func 211) #[] #[],.int .i64 1,.int .i64 1048576,.int .i64 2,.func (.func 212) #[] #[],.int .i64 1,.int .i64 16,.int .i64 0,.func (.func 213) #[] #[],.int .i64 0,.int .i64 16,.int .i64 0,.func (.func 214) #[] #[],.int .i64 0,.int .i64 500,.int .i64 0,.func (.func 215) #[] #[],.int .i64 0,.int .i64 1048576,.int .i64 0]
variable{ck:Int}
theorem zrA (h:VF ck 1 6=true):∃ fn:Nat,((zf6.drop (ck.toNat*4)).take 4)=[.func (.func fn) #[] #[],.int .i64 (Xt ck).1,.int .i64 (Xt ck).2.1,.int .i64 (Xt ck).2.2]:=by
 rcases six h with rfl | rfl | rfl | rfl | rfl | rfl<;>exact ⟨_,rfl⟩
theorem zmC (I:Qv):ZF Tryz.prog 159 [] I (.agg zf6.toArray):=by
 intro g H w hw;refine qe Tryz.func159 Tryz.ntmps159 hw ?_;refine zR<|Qt zrL rfl rfl (fun b_0=>zN (zR ?_))
 refine zV (QF (ps:=[(0,_),(1,_),(2,_),(3,_)]) [_,_,_,_] zan rfl rfl) ?_;refine zV (QF (ps:=[(0,_),(1,_),(2,_),(3,_)]) [_,_,_,_] zan rfl rfl) ?_;refine zV (QF (ps:=[(0,_),(1,_),(2,_),(3,_)]) [_,_,_,_] zan rfl rfl) ?_;refine zV (QF (ps:=[(0,_),(1,_),(2,_),(3,_)]) [_,_,_,_] zan rfl rfl) ?_;refine zV (QF (ps:=[(0,_),(1,_),(2,_),(3,_)]) [_,_,_,_] zan rfl rfl) ?_;refine zV (QF (ps:=[(0,_),(1,_),(2,_),(3,_)]) [_,_,_,_] zan rfl rfl) ?_;refine zV (VC (ps:=[(1,_),(2,_),(3,_),(4,_),(5,_),(6,_)]) [_,_,_,_,_,_,_,_,_,_,_,_,_,_,_,_,_,_,_,_,_,_,_,_,_,_,_,_] zdH zrL rfl rfl) ?_;exact zh ztX<|zN (Qs<|ZN rfl rfl zts Cells.g0 rfl (fun w hw=>⟨rfl,hw.drop⟩))
theorem zxZ (I:Qv)(ck cl cn:Int):ZF Tryz.prog 93 [.agg #[.int .i64 ck,.int .i64 cl,.int .i64 cn]] I (.bool (zgA ck cl cn)):=by
 intro g H w hw;refine qe Tryz.func93 Tryz.ntmps93 hw ?_;have hIc:=zCA I;refine zR<|QQ rfl rfl rfl (fun b_1=>zA (zN (Qm (zR<|zF Xm ?_))))
 refine zL Qn ?_;refine zpb [(0,_)] [ZX ck] Ve (fun b_6=>QU (by repeat (first | exact Z3.here | apply Z3.there)) (fun I1 hI1 hb1=>?_));have hIc:=hIc.trans hI1;have hA:=Sl.lit ([ck]:List Int) rfl YM (show I1 b_6=some (Obj.cells (([ck]:List Int).flatMap ZX).toArray 3 (0,0)) from hb1);refine qcV (vs:=[_,_,_]) rfl zdQ (zd7 hA kJ 1 6) ?_;rw [XM];refine zO (zN ?_);refine zI ?_ ?_<;>intro hc8
 ·
  have hck:VF ck 1 6=false:=(by simpa using hc8);exact zR (zA (zN (Qs (Qf<|zp hIc rfl rfl (by rw [zn7 hck])))))
 have hck:VF ck 1 6=true:=(by simpa using hc8);obtain ⟨fn,hrow⟩:=zrA hck;have h16:=six hck;refine Qp (Qc ?_);refine zY [(1,_)] (fun T L0 E I' loc'=>∃ (p3:Nat),E=(3,ZE p3)::T∧I1=I'∧[(p3,.cells #[.func (.func fn) #[] #[],.int .i64 (Xt ck).1,.int .i64 (Xt ck).2.1,.int .i64 (Xt ck).2.2] 224 (0,0)),(b_1,.cells #[.int .i64 ck,.int .i64 cl,.int .i64 cn] 30 (0,0))]=loc'∧True) ?_ ?_
 ·
  have hD:=zCA I1;refine Zm<|QI I1 [(b_1,.cells #[.int .i64 ck,.int .i64 cl,.int .i64 cn] 30 (0,0))] mixed<|zT 1 rfl (Qa rfl Xm) hD<|zT 2 rfl (Qd rfl Qn (fun hg=>by exact Qz.h0 rfl)) hD ?_
  refine QS 0 4 rfl rfl kA ?_ ?_
  ·
   refine qcV (vs:=[]) rfl zmo (zmC _)<|Qb<|zD hD ?_
   refine QS 3 4 rfl rfl kA ?_ ?_
   ·
    refine zV (Y4 (X7 rfl rfl zdH zhB (fun hg=>kB)) (congrArg (fun l:List Value=>Value.agg l.toArray) hrow))<|Qb<|zD hD<|qd 4 rfl<|Qt zm6 rfl rfl (fun b_3=>Qb<|zD hD<|qd 5 rfl ?_)
    exact zh zhb<|Qb<|zD hD<|Qo kA<|Qw<|zm (h:=⟨_,rfl,rfl,rfl,trivial⟩)
   refine Qt zm6 rfl rfl (fun b_3=>Qb<|zD hD<|qd 3 rfl<|zV (Y4 (X7 rfl rfl zdH zhB (fun hg=>kB)) (congrArg (fun l:List Value=>Value.agg l.toArray) hrow))<|Qb<|zD hD<|qd 5 rfl ?_);exact zh zhb<|Qb<|zD hD<|Qo kA<|Qw<|zm (h:=⟨_,rfl,rfl,rfl,trivial⟩)
  refine Qt zm6 rfl rfl (fun b_3=>Qb<|zD hD<|qd 0 rfl<|qcV (vs:=[]) rfl zmo (zmC _)<|Qb<|zD hD<|qd 3 rfl<|zV (Y4 (X7 rfl rfl zdH zhB (fun hg=>kB)) (congrArg (fun l:List Value=>Value.agg l.toArray) hrow))<|Qb<|zD hD<|qd 5 rfl ?_);exact zh zhb<|Qb<|zD hD<|Qo kA<|Qw<|zm (h:=⟨_,rfl,rfl,rfl,trivial⟩)
 rintro E I' loc' ⟨p3,rfl,rfl,rfl,_⟩;refine Qm ?_;cases hlb:VF cl 0 (Xt ck).2.2
 ·
  refine Qh<|zF zfJ ?_
  refine zL Qn<|zF JM ?_
  refine zL Qn ?_;refine zpb [(0,_)] [ZX cl] Ve (fun b_17=>QU (by repeat (first | exact Z3.here | apply Z3.there)) (fun I3 hI3 hb3=>?_));have hIc:=hIc.trans hI3;have hB:=Sl.lit ([cl]:List Int) rfl YM (show I3 b_17=some (Obj.cells (([cl]:List Int).flatMap ZX).toArray 3 (0,0)) from hb3);refine qcV (vs:=[_,_,_]) rfl zdQ (zd7 hB kJ 0 _) ?_;rw [XM];rw [hlb];refine zM<|Z4 (dj:=19) rfl rfl rfl rfl rfl<|Z4 (dj:=19) rfl rfl rfl rfl rfl<|Z4 (dj:=19) rfl rfl rfl rfl rfl<|Z4 (dj:=19) rfl rfl rfl rfl rfl<|Z4 (dj:=19) rfl rfl rfl rfl rfl<|Z4 (dj:=19) rfl rfl rfl rfl rfl<|Z4 (dj:=19) rfl rfl rfl rfl rfl<|Z4 (dj:=19) rfl rfl rfl rfl rfl<|zV (Yg rfl rfl rfl)<|zA (zN (Qs ?_))
  first
  | exact zp hIc rfl rfl (by rw [zoF hck hlb]<;>rfl)
 refine Qh<|zF zfJ ?_
 refine zL Qn<|zF JM ?_
 refine zL Qn ?_;refine zpb [(0,_)] [ZX cl] Ve (fun b_17=>QU (by repeat (first | exact Z3.here | apply Z3.there)) (fun I4 hI4 hb4=>?_));have hIc:=hIc.trans hI4;have hB:=Sl.lit ([cl]:List Int) rfl YM (show I4 b_17=some (Obj.cells (([cl]:List Int).flatMap ZX).toArray 3 (0,0)) from hb4);refine qcV (vs:=[_,_,_]) rfl zdQ (zd7 hB kJ 0 _) ?_;rw [XM];rw [hlb];refine zM<|QM (dj:=19) rfl rfl rfl<|zF zl3<|QM (dj:=19) rfl rfl rfl ?_
 refine zL Qn<|QM (dj:=19) rfl rfl rfl<|zF zk0<|QM (dj:=19) rfl rfl rfl ?_
 refine zL Qn<|QM (dj:=19) rfl rfl rfl<|zF Kz<|QM (dj:=19) rfl rfl rfl ?_
 refine zL Qn<|QM (dj:=19) rfl rfl rfl ?_
 refine zpb [(0,_)] [ZX cn] Ve (fun b_26=>QU (by repeat (first | exact Z3.here | apply Z3.there)) (fun I5 hI5 hb5=>?_));have hIc:=hIc.trans hI5;have hC:=Sl.lit ([cn]:List Int) rfl YM (show I5 b_26=some (Obj.cells (([cn]:List Int).flatMap ZX).toArray 3 (0,0)) from hb5);refine QM (dj:=19) rfl rfl rfl<|qcV (vs:=[_,_,_]) rfl zdQ (zd7 hC kJ _ _)<|zV (QY rfl rfl rfl)<|zA (zN (Qs ?_))
 first
 | exact zp hIc rfl rfl (by rw [zpT hck hlb,←XM];rfl)
theorem zaF:AgT Tryz.prog 30 3:=.of kA
theorem zlc:EqT Tryz.prog 30 [.int,.int,.int]:=⟨kA,kA,kA,kA⟩
theorem Yy:QL Tryz.prog 32 0 0:=.of kA
theorem Js:QL Tryz.prog 32 1 1:=.of kA
theorem YY:QL Tryz.prog 32 2 2:=.of kA
theorem Wy:QL Tryz.prog 32 3 3:=.of kA
theorem KW:QL Tryz.prog 32 4 4:=.of kA
theorem KB:QL Tryz.prog 32 5 5:=.of kA
theorem JT:QL Tryz.prog 32 6 6:=.of kA
theorem zsL:Fun Tryz.prog 90:=.of Tryz.func90 kA kA
theorem zxR:Fun Tryz.prog 93:=.of Tryz.func93 kA kA
theorem Q3:MpT Tryz.prog 136 3 4 (.bool false):=⟨kA,.of kA⟩
theorem zbV:PlT Tryz.prog 30 #[(0,1),(1,1),(2,1)] (.agg #[(.int .i64 0),(.int .i64 0),(.int .i64 0)]):=⟨.of kA,kA,fun w=>kA⟩
theorem zmS:ScT Tryz.prog 136:=.of kA
theorem zom (I:Qv)(n lo hi:Int):ZF Tryz.prog 90 [.int .i64 n,.int .i64 lo,.int .i64 hi] I (.bool (VF n lo hi)):=by
 intro g H w hw;refine qe Tryz.func90 Tryz.ntmps90 hw ?_;refine zR (zA<|zN (zR ?_));refine zM ?_;refine zM ?_;refine zC ?_;refine zM<|Qu 3 rfl rfl rfl ?_
 refine zK (Qe rfl) ?_;refine zK (Qe rfl) ?_;refine zK (QE rfl rfl rfl) ?_;exact QD rfl rfl rfl rfl rfl<|zA (zN (Qs<|QA rfl rfl (fun w hw=>⟨rfl,hw.drop⟩)))
variable{b7:Nat}
theorem zz4 {x:Lm}(hX:I b7=some (.cells (Zi x).toArray 32 (0,0)))(b5:Nat)(last:Int):Y7 Tryz.prog 89 [ZE b7,ZE b5] I [(b5,.cells #[.int .i64 last] 3 (0,0))] (fun v I' L'=>v= .bool (zqD last x)∧I'=I∧L'=[(b5,.cells #[.int .i64 last] 3 (0,0))]):=by
 intro g H w hw;refine qe Tryz.func89 Tryz.ntmps89 hw ?_;refine zR (zA<|zN (zR ?_));refine zF Yy ?_;refine zV (Qd rfl Qn (fun hg=>by exact Qz.imm hX rfl))<|zL Qn<|zC<|zM<|QK 4 rfl rfl rfl ?_
 refine zJ (Qa rfl Yy) ?_;refine zJ (Qd rfl Qn (fun hg=>by exact Qz.imm hX rfl)) ?_;refine zJ (QE rfl rfl rfl)<|Zf rfl rfl rfl rfl rfl<|zM<|QK 9 rfl rfl rfl ?_
 exact zJ (Qa rfl Js)<|zJ (Qd rfl Qn (fun hg=>by exact Qz.imm hX rfl))<|qf (vs:=[_,_,_]) rfl zsL (fun hg=>zom _ _ _ _)<|zJ (Zy rfl)<|Zf rfl rfl rfl rfl rfl<|zA (zN (Qs<|QA rfl rfl (fun w hw=>⟨_,I,_,rfl,zCA _,hw,rfl,rfl,rfl⟩)))
theorem zxz {x:Lm}(hX:I b7=some (.cells (Zi x).toArray 32 (0,0))):ZF Tryz.prog 91 [ZE b7] I (.bool (zoY x)):=by
 intro g H w hw;refine qe Tryz.func91 Tryz.ntmps91 hw ?_;refine zR (zA<|zN (zR ?_));refine zF Wy ?_;refine zV (Qd rfl Qn (fun hg=>by exact Qz.imm hX rfl)) ?_;refine zC ?_;refine zM<|QK 3 rfl rfl rfl ?_
 refine zJ (Qa rfl Wy)<|zJ (Qd rfl Qn (fun hg=>by exact Qz.imm hX rfl))<|zJ (Qa rfl KW)<|zJ (Qd rfl Qn (fun hg=>by exact Qz.imm hX rfl))<|zJ (QE rfl rfl rfl)<|Zf rfl rfl rfl rfl rfl<|zM<|QK 10 rfl rfl rfl ?_
 refine zJ (Qa rfl KW)<|zJ (Qd rfl Qn (fun hg=>by exact Qz.imm hX rfl))<|zJ (QE rfl rfl rfl)<|Zf rfl rfl rfl rfl rfl<|zM<|QK 15 rfl rfl rfl ?_
 exact zJ (Qa rfl KB)<|zJ (Qd rfl Qn (fun hg=>by exact Qz.imm hX rfl))<|qf (vs:=[_,_,_]) rfl zsL (fun hg=>zom _ _ _ _)<|zJ (Zy rfl)<|Zf rfl rfl rfl rfl rfl<|zA (zN (Qs<|QA rfl rfl (fun w hw=>⟨rfl,hw.drop⟩)))
variable{loc:Go.Kn.Loc}
theorem zfS {x:Lm}(hX:I b7=some (.cells (Zi x).toArray 32 (0,0))):Cells I loc b7 (0+6) [.int .i64 x.ck,.int .i64 x.cl,.int .i64 x.cn]:=by
 intro j v hj
 match j,hj with
 | 0,h=>cases h;exact Qz.imm hX rfl
 | 1,h=>cases h;exact Qz.imm hX rfl
 | 2,h=>cases h;exact Qz.imm hX rfl
theorem zy0 {x:Lm}(hX:I b7=some (.cells (Zi x).toArray 32 (0,0))):ZF Tryz.prog 92 [ZE b7] I (.bool (zo4 x)):=by
 intro g H w hw;refine qe Tryz.func92 Tryz.ntmps92 hw ?_;refine zR (zA<|zN (zR ?_));refine zF JT ?_;refine zV (Qg rfl zaF (fun hg=>zfS hX) rfl) ?_;refine qcV (vs:=[_]) rfl zxR (zxZ _ _ _ _) ?_;refine zO ?_;refine zM<|Qu 4 rfl rfl rfl ?_
 refine zK (Qa rfl JT)<|zK (Qg rfl zaF (fun hg=>by exact zfS hX) rfl)<|zK (QF (ps:=[]) [_,_,_] zbV rfl rfl)<|zK (ze5 rfl rfl zlc rfl)<|zK (Qe rfl)<|QK 9 rfl rfl rfl ?_
 exact zJ (Qa rfl YY)<|zJ (Qd rfl Qn (fun hg=>by exact Qz.imm hX rfl))<|zJ (QE rfl rfl rfl)<|zb2 rfl rfl rfl (.some rfl rfl rfl rfl gbt) rfl rfl<|QD rfl rfl rfl rfl rfl<|zA (zN (Qs<|QA rfl rfl (fun w hw=>⟨rfl,hw.drop⟩)))
variable{met:Bool}{old:Lm}{b5:Nat}{o5:Obj}
theorem zAb {x:Lm}(hX:I b7=some (.cells (Zi x).toArray 32 (0,0))){b9 b4 b8 r16:Nat}(hM:I b9=some (.cells #[.bool met] 4 (0,0)))(h4:I b4=some (.cells #[.map (some r16)] 136 (0,0)))(hO:I b8=some (.cells (Zi old).toArray 32 (0,0)))(m:List (Int×Bool)):Y7 Tryz.prog 94 [ZE b7,ZE b9,ZE b4,ZE b8] I [(b5,o5),(r16,Yw (.int .i64) .bool m)] (fun v I' L'=>v= .bool (zvS met ((ZD m x.ends).getD false) old x)∧I'=I∧L'=[(b5,o5),(r16,Yw (.int .i64) .bool m)]):=by
 intro g H w hw;refine qe Tryz.func94 Tryz.ntmps94 hw ?_;refine zR (zA<|zN (zR ?_));refine zF YY ?_;refine zV (Qd rfl Qn (fun hg=>by exact Qz.imm hX rfl))<|zC<|zM<|Qu 3 rfl rfl rfl ?_
 refine zK (Qd rfl XJ (fun hg=>by exact Qz.imm hM rfl)) ?_;refine zK (Zy rfl) ?_;refine zK (Qe rfl)<|QK 6 rfl rfl rfl<|zJ (Qd rfl zmS (fun hg=>by exact Qz.imm h4 rfl))<|zJ (Qa rfl YY)<|zJ (Qd rfl Qn (fun hg=>by exact Qz.imm hX rfl))<|zJ (YZ (m:=m) (ek:=Value.int .i64) (a:=x.ends) Q3 Zc rfl rfl (fun _=>(by exact Mem.m1)))<|zb2 rfl rfl rfl (.some rfl rfl rfl rfl gbt) rfl rfl<|zK (Qe rfl)<|QK 12 rfl rfl rfl ?_
 refine zJ (Qa rfl Js)<|zJ (Qd rfl Qn (fun hg=>by exact Qz.imm hO rfl))<|zJ (Qa rfl Js)<|zJ (Qd rfl Qn (fun hg=>by exact Qz.imm hX rfl))<|zJ (QE rfl rfl rfl)<|zb2 rfl rfl rfl (.some rfl rfl rfl rfl gbt) rfl rfl<|zK (Qe rfl)<|QK 19 rfl rfl rfl ?_
 exact zJ (Qa rfl KB)<|zJ (Qd rfl Qn (fun hg=>by exact Qz.imm hO rfl))<|zJ (Qa rfl KB)<|zJ (Qd rfl Qn (fun hg=>by exact Qz.imm hX rfl))<|zJ (QE rfl rfl rfl)<|zb2 rfl rfl rfl (.some rfl rfl rfl rfl gbt) rfl rfl<|QD rfl rfl rfl rfl rfl<|zA (zN (Qs<|QA rfl rfl (fun w hw=>⟨_,I,_,rfl,zCA _,hw,rfl,rfl,rfl⟩)))
theorem Jr:AgT Tryz.prog 32 9:=.of kA
theorem zt5:ElT Tryz.prog 140 48 1 8:=.of kA
theorem zxf:Fun Tryz.prog 89:=.of Tryz.func89 kA kA
theorem zzF:Fun Tryz.prog 91:=.of Tryz.func91 kA kA
theorem zzf:Fun Tryz.prog 92:=.of Tryz.func92 kA kA
theorem zxQ:Fun Tryz.prog 94:=.of Tryz.func94 kA kA
theorem zar:MpT Tryz.prog 135 3 32 (.agg #[(.int .i64 0),(.int .i64 0),(.int .i64 0),(.int .i64 0),(.int .i64 0),(.int .i64 0),(.int .i64 0),(.int .i64 0),(.int .i64 0)]):=⟨kA,.of kA⟩
theorem zjq:ScT Tryz.prog 48:=.of kA
theorem zbX:SlT Tryz.prog 140 48 1:=.of kA
theorem ZO:SlT Tryz.prog 62 32 9:=.of kA
theorem zv5:SzT Tryz.prog 136 1:=.of kA
theorem Xo:SzT Tryz.prog 32 9:=.of kA
theorem zzy:Vp Tryz.prog 136 (.map none):=.of kA
theorem zB6:Vp Tryz.prog 3 (.int .i64 0):=.of kA
theorem zeY:Vp Tryz.prog 32 (.agg #[(.int .i64 0),(.int .i64 0),(.int .i64 0),(.int .i64 0),(.int .i64 0),(.int .i64 0),(.int .i64 0),(.int .i64 0),(.int .i64 0)]):=.of kA
theorem zBM:Vp Tryz.prog 4 (.bool false):=.of kA
theorem zlv {n c:Nat}{xs:List Lm}(hS:Sl I 9 Zi av n c xs)(hn:n≤100000):ZF Tryz.prog 37 [.slice av n c] I (.int .i64 (za0 xs)):=by
 intro g H w hw;refine qe Tryz.func37 Tryz.ntmps37 hw ?_;have hIc:=zCA I;have hln:=hS.len;refine zR (zA (zN (Qm (zR ?_))));refine zM<|zQ ZO<|zC (zN ?_)
 refine zI ?_ ?_<;>intro hc14
 ·
  have h5:xs.length>512:=(by have h:=hc14;simp at h;omega);exact zR (zA (zN (Qs (Qf<|zp hIc rfl rfl (by rw [zh4 h5])))))
 have h5:¬xs.length>512:=(by have h:=hc14;simp at h;omega);refine Qp (Qc (zR<|Yf rfl rfl (fun r_15=>zA<|zN (zR<|Yf rfl rfl (fun r_16=>Qt zzy rfl rfl (fun b_4=>zS zv5<|Qb<|QH .here (fun I1 hI1 hb1=>?_)))))));have hS:=hS.mono hI1;have hIc:=hIc.trans hI1;have h4:=BxI.of hb1;refine Qc (zR<|Qt zB6 rfl rfl (fun b_5=>zS UT<|zN (Qm (zR (zM<|zQ ZO<|zM (zN (Qr<|zU [(3,_),(4,_),(5,_),(17,_),(18,_)] (fun T L0 mz E I' loc'=>∃ (k:Nat),mz=n-k∧E=(19,.int .i64 k)::T∧HLe I1 I'∧[(b_5,.cells #[.int .i64 (WP (xs.take k))] 3 (0,0)),(r_16,Yw (.int .i64) .bool (rpM (xs.take k))),(r_15,Yw (.int .i64) Jz (knM (xs.take k)))]=loc'∧k≤n∧(∀ j y,j<k→xs[j]? =some y→zcQ (xs.take j) y=false)) ?_ (h:=⟨0,rfl,rfl,zCA _,rfl,Nat.zero_le _,fun j y h=>absurd h (Nat.not_lt_zero _)⟩))))))));rintro mz E J2 loc' ⟨k,rfl,rfl,hJ,rfl,hk,hall⟩;have hS:=hS.mono hJ;have h4:=h4.mono hJ;have hIc:=hIc.trans hJ;have hB0:=hJ;refine zR (zC (zN (Qm ?_)));refine zI ?_ ?_<;>intro hc20
 ·
  have hlt_k:k<n:=(by have h:=hc20;simp at h;omega);obtain ⟨x,hx⟩:∃ x,xs[k]? =some x:=⟨_,List.getElem?_eq_getElem kB⟩;refine Qp (Qc (Qm (Qr (zR<|zV (zX ZO hS)<|zV (Qg rfl Jr (fun hg=>by exact zCB hS hx) rfl)<|Qt zeY rfl rfl (fun b_7=>zh Xo<|zN (zR ?_))))));refine zM<|zF YY ?_
  refine zL Qn ?_;refine zV (UU rfl rfl rfl)<|zV (zgo VP ((zhY (xs.take k) x).getD VP) ((zhY (xs.take k) x).isSome) rfl rfl rfl (ek:=Value.int .i64) (ev:=Jz) (m:=knM (xs.take k)) (a:=IntKind.i64.wrap (x.ends-1)) zar Zc rfl rfl (fun _=>(by exact Mem.m3)))<|zM ?_
  refine zE ?_;refine zE ?_;refine Qt zeY rfl rfl (fun b_8=>?_);refine Qt zBM rfl rfl (fun b_9=>?_);refine zh Xo ?_;refine zS zgf ?_;refine zN (Qm (Qm ?_));refine QH .here (fun I3 hI3 hb3=>?_);have hS:=hS.mono hI3;have h4:=h4.mono hI3;have hIc:=hIc.trans hI3;have hB0:=hB0.trans hI3;have h9:=BxI.of hb3;refine QH .here (fun I4 hI4 hb4=>?_);have hS:=hS.mono hI4;have h4:=h4.mono hI4;have h9:=h9.mono hI4;have hIc:=hIc.trans hI4;have hB0:=hB0.trans hI4;have h8:=BxI.of hb4;refine QH .here (fun I5 hI5 hb5=>?_);have hS:=hS.mono hI5;have h4:=h4.mono hI5;have h9:=h9.mono hI5;have h8:=h8.mono hI5;have hIc:=hIc.trans hI5;have hB0:=hB0.trans hI5;have h7:=BxI.of hb5;refine Qh<|zV (YJ (us:=[]) (vs:=[_,_]) rfl rfl)<|zV (YJ (us:=[]) (vs:=[_]) rfl rfl)<|zV (YJ (us:=[]) (vs:=[_]) rfl rfl)<|zV (YJ (us:=[]) (vs:=[_,_,_,_]) rfl rfl)<|zpb [(0,_),(1,_),(2,_),(3,_)] [zjX (.func (.func 89) #[] #[ZE b_7,ZE b_5]),zjX (.func (.func 91) #[] #[ZE b_7]),zjX (.func (.func 92) #[] #[ZE b_7]),zjX (.func (.func 94) #[] #[ZE b_7,ZE b_9,ZE b_4,ZE b_8])] zt5 (fun b_35=>QU (by repeat (first | exact Z3.here | apply Z3.there)) (fun I6 hI6 hb6=>?_))
  have hS:=hS.mono hI6;have h4:=h4.mono hI6;have h9:=h9.mono hI6;have h8:=h8.mono hI6;have h7:=h7.mono hI6;have hIc:=hIc.trans hI6;have hB0:=hB0.trans hI6;have hF:=Sl.lit ([.func (.func 89) #[] #[ZE b_7,ZE b_5],.func (.func 91) #[] #[ZE b_7],.func (.func 92) #[] #[ZE b_7],.func (.func 94) #[] #[ZE b_7,ZE b_9,ZE b_4,ZE b_8]]:List Value) rfl zkt (show I6 b_35=some (Obj.cells (([.func (.func 89) #[] #[ZE b_7,ZE b_5],.func (.func 91) #[] #[ZE b_7],.func (.func 92) #[] #[ZE b_7],.func (.func 94) #[] #[ZE b_7,ZE b_9,ZE b_4,ZE b_8]]:List Value).flatMap zjX).toArray 48 (0,0)) from hb6);refine zQ zbX<|zM (zN (Qr<|zU [(3,_),(4,_),(5,_),(7,_),(17,_),(18,_),(19,_),(35,_),(36,_)] (fun T L0 mz E I' loc'=>∃ (i:Nat),mz=4-i∧E=(37,.int .i64 i)::T∧I6=I'∧[(b_5,.cells #[.int .i64 (WP (xs.take k))] 3 (0,0)),(r_16,Yw (.int .i64) .bool (rpM (xs.take k))),(r_15,Yw (.int .i64) Jz (knM (xs.take k)))]=loc'∧i≤4∧(0<i→zqD (WP (xs.take k)) x=false)∧(1<i→zoY x=false)∧(2<i→zo4 x=false)∧(3<i→zvS (zhY (xs.take k) x).isSome ((ZD (rpM (xs.take k)) x.ends).getD false) ((zhY (xs.take k) x).getD VP) x=false)) ?_ (h:=⟨0,rfl,rfl,rfl,rfl,Nat.zero_le _,fun h=>absurd h kB,fun h=>absurd h kB,fun h=>absurd h kB,fun h=>absurd h kB⟩)))
  rintro mz E I' loc' ⟨i,rfl,rfl,rfl,rfl,hi,q0,q1,q2,q3⟩;refine zR (zC (zN (Qm ?_)));refine zI ?_ ?_<;>intro hc38
  ·
   have hi4:i<4:=(by have h:=hc38;simp at h;omega);refine Qp (Qc (Qm (Qr (Qm ?_))));rcases (show i=0∨i=1∨i=2∨i=3 by omega) with hi | hi | hi | hi
   ·
    have hfi:([.func (.func 89) #[] #[ZE b_7,ZE b_5],.func (.func 91) #[] #[ZE b_7],.func (.func 92) #[] #[ZE b_7],.func (.func 94) #[] #[ZE b_7,ZE b_9,ZE b_4,ZE b_8]]:List Value)[i]? =some (.func (.func 89) #[] #[ZE b_7,ZE b_5]):=(by rw [hi];rfl);refine Qh<|zV (QC rfl rfl zbX kH (fun hg=>kB))<|zV (Qd rfl zjq (fun hg=>by exact zCt hF hfi rfl))<|zA<|zN (zR ?_)
    refine zM<|KX (cap:=[ZE b_7,ZE b_5]) (vs:=[]) rfl rfl zxf (.cons .here .nil) (zz4 h7.out b_5 _) rfl rfl ?_
    rintro vv8 I8 L8 hI8 ⟨rfl,rfl,rfl⟩;have hIc:=hIc.trans hI8;refine zN ?_;refine zI ?_ ?_<;>intro hc42
    ·
     exact zR (zA (zN (Qs (Qj (Qf (Qf (Qj<|Qf (Qj (Qf (Qf (Qj (Qf<|zp hIc rfl rfl (by rw [V1 h5 hx (zyA hc42)])))))))))))))
    refine Qp (Qi (Qc (Qh (zB<|zM (Qb ?_)))));exact Zk _ _ ⟨4-(i+1),kB,i+1,rfl,rfl,rfl,rfl,kB,fun _=>by exact hc42,fun h=>by exact absurd h kB,fun h=>by exact absurd h kB,fun h=>by exact absurd h kB⟩ (.cons rfl (.cons rfl (.cons rfl (.cons rfl (.cons rfl (.cons rfl (.cons rfl (.cons rfl (.cons rfl (.cons rfl .nil)))))))))) (by (try rw [Za hx,KG,Wq,Wo]);repeat (first | exact .refl | exact QJ | refine Q5 ?_ | refine .drop ?_ | refine QP ?_))
   ·
    have hfi:([.func (.func 89) #[] #[ZE b_7,ZE b_5],.func (.func 91) #[] #[ZE b_7],.func (.func 92) #[] #[ZE b_7],.func (.func 94) #[] #[ZE b_7,ZE b_9,ZE b_4,ZE b_8]]:List Value)[i]? =some (.func (.func 91) #[] #[ZE b_7]):=(by rw [hi];rfl);refine Qh<|zV (QC rfl rfl zbX kH (fun hg=>kB))<|zV (Qd rfl zjq (fun hg=>by exact zCt hF hfi rfl))<|zA<|zN (zR ?_)
    refine zM<|KX (cap:=[ZE b_7]) (vs:=[]) rfl rfl zzF .nil ((zxz h7.out).m) rfl rfl ?_
    rintro vv9 I9 L9 hI9 ⟨rfl,rfl,rfl⟩;have hIc:=hIc.trans hI9;refine zN ?_;refine zI ?_ ?_<;>intro hc42
    ·
     exact zR (zA (zN (Qs (Qj (Qf (Qf (Qj<|Qf (Qj (Qf (Qf (Qj (Qf<|zp hIc rfl rfl (by rw [V1 h5 hx (zxm hc42)])))))))))))))
    refine Qp (Qi (Qc (Qh (zB<|zM (Qb ?_)))));exact Zk _ _ ⟨4-(i+1),kB,i+1,rfl,rfl,rfl,rfl,kB,fun _=>by exact q0 kB,fun h=>by exact hc42,fun h=>by exact absurd h kB,fun h=>by exact absurd h kB⟩ (.cons rfl (.cons rfl (.cons rfl (.cons rfl (.cons rfl (.cons rfl (.cons rfl (.cons rfl (.cons rfl (.cons rfl .nil)))))))))) (by (try rw [Za hx,KG,Wq,Wo]);repeat (first | exact .refl | exact QJ | refine Q5 ?_ | refine .drop ?_ | refine QP ?_))
   ·
    have hfi:([.func (.func 89) #[] #[ZE b_7,ZE b_5],.func (.func 91) #[] #[ZE b_7],.func (.func 92) #[] #[ZE b_7],.func (.func 94) #[] #[ZE b_7,ZE b_9,ZE b_4,ZE b_8]]:List Value)[i]? =some (.func (.func 92) #[] #[ZE b_7]):=(by rw [hi];rfl);refine Qh<|zV (QC rfl rfl zbX kH (fun hg=>kB))<|zV (Qd rfl zjq (fun hg=>by exact zCt hF hfi rfl))<|zA<|zN (zR ?_)
    refine zM<|KX (cap:=[ZE b_7]) (vs:=[]) rfl rfl zzf .nil ((zy0 h7.out).m) rfl rfl ?_
    rintro vv10 I10 L10 hI10 ⟨rfl,rfl,rfl⟩;have hIc:=hIc.trans hI10;refine zN ?_;refine zI ?_ ?_<;>intro hc42
    ·
     exact zR (zA (zN (Qs (Qj (Qf (Qf (Qj<|Qf (Qj (Qf (Qf (Qj (Qf<|zp hIc rfl rfl (by rw [V1 h5 hx (zw1 hc42)])))))))))))))
    refine Qp (Qi (Qc (Qh (zB<|zM (Qb ?_)))));exact Zk _ _ ⟨4-(i+1),kB,i+1,rfl,rfl,rfl,rfl,kB,fun _=>by exact q0 kB,fun h=>by exact q1 kB,fun h=>by exact hc42,fun h=>by exact absurd h kB⟩ (.cons rfl (.cons rfl (.cons rfl (.cons rfl (.cons rfl (.cons rfl (.cons rfl (.cons rfl (.cons rfl (.cons rfl .nil)))))))))) (by (try rw [Za hx,KG,Wq,Wo]);repeat (first | exact .refl | exact QJ | refine Q5 ?_ | refine .drop ?_ | refine QP ?_))
   have hfi:([.func (.func 89) #[] #[ZE b_7,ZE b_5],.func (.func 91) #[] #[ZE b_7],.func (.func 92) #[] #[ZE b_7],.func (.func 94) #[] #[ZE b_7,ZE b_9,ZE b_4,ZE b_8]]:List Value)[i]? =some (.func (.func 94) #[] #[ZE b_7,ZE b_9,ZE b_4,ZE b_8]):=(by rw [hi];rfl);refine Qh<|zV (QC rfl rfl zbX kH (fun hg=>kB))<|zV (Qd rfl zjq (fun hg=>by exact zCt hF hfi rfl))<|zA<|zN (zR ?_)
   refine zM<|KX (cap:=[ZE b_7,ZE b_9,ZE b_4,ZE b_8]) (vs:=[]) rfl rfl zxQ (.cons .here (.cons .here .nil)) (zAb h7.out h9.out h4.out h8.out (rpM (xs.take k))) rfl rfl ?_
   rintro vv11 I11 L11 hI11 ⟨rfl,rfl,rfl⟩;have hIc:=hIc.trans hI11;refine zN ?_;refine zI ?_ ?_<;>intro hc42
   ·
    exact zR (zA (zN (Qs (Qj (Qf (Qf (Qj<|Qf (Qj (Qf (Qf (Qj (Qf<|zp hIc rfl rfl (by rw [V1 h5 hx (zxo hc42)])))))))))))))
   refine Qp (Qi (Qc (Qh (zB<|zM (Qb ?_)))));exact Zk _ _ ⟨4-(i+1),kB,i+1,rfl,rfl,rfl,rfl,kB,fun _=>by exact q0 kB,fun h=>by exact q1 kB,fun h=>by exact q2 kB,fun h=>by exact hc42⟩ (.cons rfl (.cons rfl (.cons rfl (.cons rfl (.cons rfl (.cons rfl (.cons rfl (.cons rfl (.cons rfl (.cons rfl .nil)))))))))) (by (try rw [Za hx,KG,Wq,Wo]);repeat (first | exact .refl | exact QJ | refine Q5 ?_ | refine .drop ?_ | refine QP ?_))
  have hi4:4≤i:=(by have h:=hc38;simp at h;omega);have hbad:zcQ (xs.take k) x=false:=ztr (q0 kB) (q1 kB) (q2 kB) (q3 kB);refine Q6 (Ql (Ql (Qq (Qc ?_))));have hD:=zCA I6;refine Zm<|QI I6 [] mixed<|zT 0 rfl (Qe rfl) hD<|zT 1 rfl (Qa rfl Yy) hD<|zT 2 rfl (Qd rfl Qn (fun hg=>by exact Qz.imm h7.out rfl)) hD<|zT 3 rfl (Qd rfl zmS (fun hg=>by exact Qz.imm h4.out rfl)) hD<|zT 4 rfl (Qa rfl YY) hD<|zT 5 rfl (Qd rfl Qn (fun hg=>by exact Qz.imm h7.out rfl)) hD<|zT 6 rfl (Qa rfl Yy) hD<|zT 7 rfl (Qd rfl Qn (fun hg=>by exact Qz.imm h7.out rfl)) hD<|zT 8 rfl (Qg rfl Jr (fun hg=>by exact BxI.cells (vs:=Zi x) h7) rfl) hD<|qd 9 rfl ?_
  refine zS UT ?_;refine Qb<|zD hD<|qd 10 rfl ?_
  refine zx9 (ek:=Value.int .i64) (ev:=Jz) (m:=knM (xs.take k)) (a:=x.no) x zar Zc ?_;refine Qb<|zD hD<|qd 11 rfl ?_
  refine zx9 (ek:=Value.int .i64) (ev:=Value.bool) (m:=rpM (xs.take k)) (a:=x.ends) true Q3 Zc ?_;refine Qb<|zD hD<|Qo kA<|Qw<|Qi (Qc (Qh (zB<|zM (Qb ?_))))
  exact Zk _ _ ⟨n-(k+1),kB,k+1,rfl,rfl,hB0,rfl,kB,VK hx hall hbad⟩ (.cons rfl (.cons rfl (.cons rfl (.cons rfl (.cons rfl (.cons rfl .nil)))))) (by (try rw [Za hx,KG,Wq,Wo]);repeat (first | exact .refl | exact QJ | refine Q5 ?_ | refine .drop ?_ | refine QP ?_))
 have hge_k:n≤k:=(by have h:=hc20;simp at h;omega);exact Q6 (Ql (Ql (Qq (Qc (zR (zA (zN<|Qs<|zp hIc rfl rfl (by rw [zlf h5 (fun j y hj hy=>hall j y kB hy)]))))))))
def orF:List Int→Int
 | []=>0
 | x::xs=>if x≠0 then x else orF xs
theorem XG:∀ {xs:List Int},orF xs=0↔ ∀ x∈xs,x=0
 | []=>by simp [orF]
 | x::xs=>by
  unfold orF;by_cases h:x=0
  ·
   rw [if_neg (by simpa using h),XG];simp [h]
  ·
   rw [if_pos h];simp [h]
variable{k:Nat}
theorem zq8 {x:Int}(hx:xs[k]? =some x)(h:orF (xs.take k)=0)(hne:x≠0):orF xs=x:=by
 induction xs generalizing k with
 | nil=>simp at hx
 | cons y ys ih=>
  cases k with
  | zero=>
   simp at hx;subst hx;unfold orF;rw [if_pos hne]
  | succ k=>
   rw [List.take_succ_cons] at h;unfold orF at h ⊢;by_cases hy:y=0
   ·
    rw [if_neg (by simpa using hy)] at h ⊢;exact ih (by simpa using hx) h
   ·
    rw [if_pos hy] at h;exact absurd h hy
def onS (f:Int→Int→Bool)(p:Pt):Int→Int→Bool:=fun a b=>if a=p.id then p.needs.any (fun n=>n==b||f n b) else f a b
def onF (ps:List Pt):Int→Int→Bool:=ps.foldl onS (fun _ _=>false)
def zg0 (ps:List Pt)(n:Int):Bool:=ps.any (fun q=>q.id==n)
def lsP (ps:List Pt)(i:Nat):Bool:= !((decide ((i:Int)>0)&&decide ((ps.getD i Jq).id≤(ps.getD ((i:Int)-1).toNat Jq).id))||(ps.getD i Jq).needs.any (fun n=> !zg0 ps n))
def lsB (ps:List Pt):Bool:=(List.range ps.length).all (lsP ps)
def zeU (p q:Pt)(on:Bool):Bool:=if p.sign≠q.sign then true else if q.kind=2 then p.kind != 2&&on else if q.kind=3 then !on else true
def zoZ (ps:List Pt):Bool:=ps.all fun p=>ps.all fun q=>p.id==q.id||zeU p q (onF ps p.id q.id)
def WD (ps:List Pt):Int:=if ps.length>512 then 2 else if orF (ps.map KJ)≠0 then orF (ps.map KJ) else if lsB ps&&zoZ ps then 0 else 380
structure Lst (ps:List Pt):Prop where
 pos:∀ p∈ps,1≤p.id
 inc:ps.Pairwise (fun p q=>p.id<q.id)
 has:∀ p∈ps,∀ n∈p.needs,n<p.id∧∃ q∈ps,q.id=n
variable{ps:List Pt}{n:Int}
theorem zbc :zg0 ps n=true↔ ∃ q∈ps,q.id=n:=by
 unfold zg0;rw [List.any_eq_true];simp
variable{p:Pt}
theorem Lst.uniq (h:Lst ps){q:Pt}(hp:p∈ps)(hq:q∈ps)(e:p.id=q.id):p=q:=by
 obtain ⟨i,hi⟩:=List.getElem?_of_mem hp;obtain ⟨j,hj⟩:=List.getElem?_of_mem hq;obtain ⟨hi1,hi2⟩:=List.getElem?_eq_some_iff.1 hi;obtain ⟨hj1,hj2⟩:=List.getElem?_eq_some_iff.1 hj;by_cases hij:i=j
 ·
  subst hij;rw [hi] at hj;exact Option.some.inj hj
 ·
  rcases Nat.lt_or_gt_of_ne hij with hlt | hlt
  ·
   have:=List.pairwise_iff_getElem.1 h.inc i j hi1 hj1 hlt;rw [hi2,hj2] at this;omega
  ·
   have:=List.pairwise_iff_getElem.1 h.inc j i hj1 hi1 hlt;rw [hi2,hj2] at this;omega
variable{a b:Int}
theorem zms {f:Int→Int→Bool}(h:a≠p.id):onS f p a b=f a b:=by unfold onS;rw [if_neg h]
theorem WC:∀ (ps:List Pt) {f:Int→Int→Bool} {a b:Int},(∀ p∈ps,p.id≠a)→ps.foldl onS f a b=f a b
 | [],_,_,_,_=>rfl
 | p::ps,f,a,b,h=>by
  rw [List.foldl_cons,WC ps (fun q hq=>h q (List.mem_cons_of_mem _ hq)),zms (fun e=>h p (List.mem_cons_self ..) e.symm)]
theorem zrf (h:∀ p∈ps,p.id≠a):onF ps a b=false:=WC ps h
variable{qs:List Pt}
theorem zfm (h:∀ q∈qs,q.id≠p.id):onF (ps++p::qs) p.id b=p.needs.any (fun n=>n==b||onF ps n b):=by
 unfold onF;rw [List.foldl_append,List.foldl_cons,WC qs h];unfold onS;rw [if_pos rfl]
theorem zjm (h:∀ q∈qs,q.id≠a):onF (ps++qs) a b=onF ps a b:=by
 unfold onF;rw [List.foldl_append,WC qs h]
theorem Lst.tail_ne (h:Lst (ps++p::qs)):(∀ q∈qs,p.id<q.id)∧(∀ q∈ps,q.id<p.id):=by
 have h1:=h.inc;rw [List.pairwise_append] at h1;exact ⟨(List.pairwise_cons.1 h1.2.1).1,fun q hq=>h1.2.2 q hq p (List.mem_cons_self ..)⟩
variable{α:Type}
theorem zii {xs:List α}{f g:α→Bool}(h:∀ x∈xs,f x=g x):xs.any f=xs.any g:=by
 induction xs with
 | nil=>rfl
 | cons x xs ih=>rw [List.any_cons,List.any_cons,h x (List.mem_cons_self ..),ih fun y hy=>h y (List.mem_cons_of_mem _ hy)]
theorem Lst.on (h:Lst ps)(hp:p∈ps)(b:Int):onF ps p.id b=p.needs.any (fun n=>n==b||onF ps n b):=by
 obtain ⟨l,r,rfl⟩:=List.append_of_mem hp;obtain ⟨h1,h2⟩:=h.tail_ne;rw [zfm (fun q hq e=>by have:=h1 q hq;omega)];refine zii fun n hn=>?_;have hlt:=(h.has p hp n hn).1;rw [zjm (ps:=l) (qs:=p::r)];intro q hq e;rcases List.mem_cons.1 hq with rfl | hq
 ·
  omega
 ·
  have:=h1 q hq;omega
theorem Lst.on_iff (h:Lst ps)(hp:p∈ps):onF ps p.id b=true↔ ∃ n∈p.needs,n=b∨onF ps n b=true:=by
 rw [h.on hp,List.any_eq_true];simp
theorem zuJ (h:onF ps a b=true):∃ p∈ps,p.id=a:=by
 by_cases hx:∃ p∈ps,p.id=a
 ·
  exact hx
 ·
  rw [zrf (fun p hp e=>hx ⟨p,hp,e⟩)] at h;cases h
variable{M:Pt→Prop}
theorem Lst.ind (h:Lst ps)(hs:∀ p∈ps,(∀ q∈ps,q.id<p.id→M q)→M p):∀ p∈ps,M p:=by
 have key:∀ (m:Nat) (q:Pt),q∈ps→q.id.toNat≤m→M q:=by
  intro m
  induction m with
  | zero=>
   intro q hq hm;have:=h.pos q hq;omega
  | succ m ih=>
   intro q hq hm;exact hs q hq fun r hr hlt=>ih r hr (by have:=h.pos r hr;omega)
 exact fun p hp=>key _ p hp (Nat.le_refl _)
theorem Lst.on_lt (h:Lst ps)(hon:onF ps a b=true):b<a∧∃ q∈ps,q.id=b:=by
 obtain ⟨p,hp,rfl⟩:=zuJ hon
 revert hon
 refine h.ind (M:=fun p=>onF ps p.id b=true→b<p.id∧∃ q∈ps,q.id=b) (fun p hp ih hon=>?_) p hp;obtain ⟨n,hn,e⟩:=(h.on_iff hp).1 hon;obtain ⟨h1,q,hq,rfl⟩:=h.has p hp n hn;rcases e with rfl | e
 ·
  exact ⟨h1,q,hq,rfl⟩
 ·
  have:=ih q hq h1 e;exact ⟨kB,this.2⟩
theorem Lst.on_irr (h:Lst ps):onF ps a a=false:=by
 cases hon:onF ps a a with
 | false=>rfl
 | true=>have:=(h.on_lt hon).1;omega
theorem zwg {f:Pt→Bool}{x:Int}:x∈(ps.filter f).map (·.id)↔ ∃ p∈ps,f p=true∧p.id=x:=by
 rw [List.mem_map];constructor
 ·
  rintro ⟨p,hp,e⟩;exact ⟨p,(List.mem_filter.1 hp).1,(List.mem_filter.1 hp).2,e⟩
 ·
  rintro ⟨p,hp,hf,e⟩;exact ⟨p,List.mem_filter.2 ⟨hp,hf⟩,e⟩
theorem zlJ (h0:orF (ps.map KJ)=0)(h:lsB ps=true):Lst ps:=by
 have hk:∀ p∈ps,ndB p.id p.needs=true∧idB p=true∧U0 p=true:=fun p hp=>by
  have h1:=XG.1 h0 (KJ p) (List.mem_map.2 ⟨p,hp,rfl⟩);unfold KJ at h1;split at h1
  ·
   cases h1
  ·
   split at h1
   ·
    rename_i h2;simpa [Bool.and_eq_true] using h2
   ·
    cases h1
 unfold lsB at h;rw [List.all_eq_true] at h;refine ⟨fun p hp=>?_,?_,fun p hp n hn=>?_⟩
 ·
  have:=(hk p hp).2.1;unfold idB at this;simp at this;omega
 ·
  refine zaG (R:=fun p q:Pt=>p.id<q.id) (fun a b c h1 h2=>Int.lt_trans h1 h2) fun k hk=>?_;have h1:=h (k+1) (List.mem_range.2 hk);unfold lsP at h1;rw [show (((k+1:Nat):Int)-1).toNat=k by omega,Vu (List.getElem?_eq_getElem hk),Vu (List.getElem?_eq_getElem (show k<ps.length by omega))] at h1;simp at h1;have:=h1.1;omega
 ·
  obtain ⟨k,hk1,rfl⟩:=List.mem_iff_getElem.1 hp;have h1:=h k (List.mem_range.2 hk1);unfold lsP at h1;rw [Vu (List.getElem?_eq_getElem hk1)] at h1;simp at h1;refine ⟨?_,zbc.1 (h1.2 n hn)⟩;obtain ⟨j,hj,rfl⟩:=List.mem_iff_getElem.1 hn;have h2:=(hk _ hp).1;unfold ndB at h2;rw [List.all_eq_true] at h2;have h3:=h2 j (List.mem_range.2 hj);unfold ndP at h3;rw [Vu (List.getElem?_eq_getElem hj)] at h3;simp at h3;omega
/-! ### Lists by keys -/
def Ub (x:Sg)(f:Int):Int×Int×Int×Int:=
 if f=1 then (x.role,0,0,0) else if f=2 then (x.bar,0,0,0) else if f=3 then (x.mark,0,0,0) else if f=4 then (x.side,0,0,0) else if f=5 then (x.dir,0,0,0)
 else if f=6 then (x.level,0,0,0) else if f=7 then (x.size,0,0,0) else if f=8 then (x.wth,0,0,0) else if f=9 then (x.fn,x.fd,x.tn,x.td) else (0,0,0,0)
def isF (f:Int):Prop:=1≤f∧f≤9
variable{f:Int}
theorem ze6 (h:isF f):f=1∨f=2∨f=3∨f=4∨f=5∨f=6∨f=7∨f=8∨f=9:=by unfold isF at h;omega
variable{x y:Sg}
theorem zjn :(Ue x f y).id=x.id:=by unfold Ue;(repeat' split)<;>rfl
theorem za7 :(Ue x f y).kind=x.kind:=by unfold Ue;(repeat' split)<;>rfl
variable{g:Int}
theorem zrr :Ub (Ue x 1 y) g=if g=1 then Ub y g else Ub x g:=by
 rw [show Ue x 1 y= {x with role:=y.role} from rfl];by_cases hg:g=1
 ·
  subst hg;rfl
 ·
  rw [if_neg hg];unfold Ub;simp only [if_neg hg]
theorem zpE :Ub (Ue x 2 y) g=if g=2 then Ub y g else Ub x g:=by
 rw [show Ue x 2 y= {x with bar:=y.bar} from rfl];by_cases hg:g=2
 ·
  subst hg;rfl
 ·
  rw [if_neg hg];unfold Ub;simp only [if_neg hg]
theorem zp6 :Ub (Ue x 3 y) g=if g=3 then Ub y g else Ub x g:=by
 rw [show Ue x 3 y= {x with mark:=y.mark} from rfl];by_cases hg:g=3
 ·
  subst hg;rfl
 ·
  rw [if_neg hg];unfold Ub;simp only [if_neg hg]
theorem zqd :Ub (Ue x 4 y) g=if g=4 then Ub y g else Ub x g:=by
 rw [show Ue x 4 y= {x with side:=y.side} from rfl];by_cases hg:g=4
 ·
  subst hg;rfl
 ·
  rw [if_neg hg];unfold Ub;simp only [if_neg hg]
theorem zp1 :Ub (Ue x 5 y) g=if g=5 then Ub y g else Ub x g:=by
 rw [show Ue x 5 y= {x with dir:=y.dir} from rfl];by_cases hg:g=5
 ·
  subst hg;rfl
 ·
  rw [if_neg hg];unfold Ub;simp only [if_neg hg]
theorem zpe :Ub (Ue x 6 y) g=if g=6 then Ub y g else Ub x g:=by
 rw [show Ue x 6 y= {x with level:=y.level} from rfl];by_cases hg:g=6
 ·
  subst hg;rfl
 ·
  rw [if_neg hg];unfold Ub;simp only [if_neg hg]
theorem zqX :Ub (Ue x 7 y) g=if g=7 then Ub y g else Ub x g:=by
 rw [show Ue x 7 y= {x with size:=y.size} from rfl];by_cases hg:g=7
 ·
  subst hg;rfl
 ·
  rw [if_neg hg];unfold Ub;simp only [if_neg hg]
theorem zre :Ub (Ue x 8 y) g=if g=8 then Ub y g else Ub x g:=by
 rw [show Ue x 8 y= {x with wth:=y.wth} from rfl];by_cases hg:g=8
 ·
  subst hg;rfl
 ·
  rw [if_neg hg];unfold Ub;simp only [if_neg hg]
theorem zq6 :Ub (Ue x 9 y) g=if g=9 then Ub y g else Ub x g:=by
 rw [show Ue x 9 y= {x with fn:=y.fn,fd:=y.fd,tn:=y.tn,td:=y.td} from rfl];by_cases hg:g=9
 ·
  subst hg;rfl
 ·
  rw [if_neg hg];unfold Ub;simp only [if_neg hg]
theorem zep (hf:isF f):Ub (Ue x f y) g=if g=f then Ub y g else Ub x g:=by
 rcases ze6 hf with rfl | rfl | rfl | rfl | rfl | rfl | rfl | rfl | rfl
 ·
  exact zrr
 ·
  exact zpE
 ·
  exact zp6
 ·
  exact zqd
 ·
  exact zp1
 ·
  exact zpe
 ·
  exact zqX
 ·
  exact zre
 ·
  exact zq6
theorem zsP (h1:x.id=y.id)(h2:x.kind=y.kind)(h:∀ f,isF f→Ub x f=Ub y f):x=y:=by
 have e1:x.role=y.role:=congrArg (fun p=>p.1) (show ((x.role,0,0,0):Int×Int×Int×Int)=(y.role,0,0,0) from h 1 ⟨by decide,by decide⟩);have e2:x.bar=y.bar:=congrArg (fun p=>p.1) (show ((x.bar,0,0,0):Int×Int×Int×Int)=(y.bar,0,0,0) from h 2 ⟨by decide,by decide⟩);have e3:x.mark=y.mark:=congrArg (fun p=>p.1) (show ((x.mark,0,0,0):Int×Int×Int×Int)=(y.mark,0,0,0) from h 3 ⟨by decide,by decide⟩);have e4:x.side=y.side:=congrArg (fun p=>p.1) (show ((x.side,0,0,0):Int×Int×Int×Int)=(y.side,0,0,0) from h 4 ⟨by decide,by decide⟩);have e5:x.dir=y.dir:=congrArg (fun p=>p.1) (show ((x.dir,0,0,0):Int×Int×Int×Int)=(y.dir,0,0,0) from h 5 ⟨by decide,by decide⟩);have e6:x.level=y.level:=congrArg (fun p=>p.1) (show ((x.level,0,0,0):Int×Int×Int×Int)=(y.level,0,0,0) from h 6 ⟨by decide,by decide⟩);have e7:x.size=y.size:=congrArg (fun p=>p.1) (show ((x.size,0,0,0):Int×Int×Int×Int)=(y.size,0,0,0) from h 7 ⟨by decide,by decide⟩);have e8:x.wth=y.wth:=congrArg (fun p=>p.1) (show ((x.wth,0,0,0):Int×Int×Int×Int)=(y.wth,0,0,0) from h 8 ⟨by decide,by decide⟩);have e9:(x.fn,x.fd,x.tn,x.td)=(y.fn,y.fd,y.tn,y.td):=h 9 ⟨by decide,by decide⟩;obtain ⟨a1,a2,a3,a4,a5,a6,a7,a8,a9,a10,a11,a12,a13,a14⟩:=x;obtain ⟨b1,b2,b3,b4,b5,b6,b7,b8,b9,b10,b11,b12,b13,b14⟩:=y;cases h1;cases h2;cases e1;cases e2;cases e3;cases e4;cases e5;cases e6;cases e7;cases e8;cases e9;rfl
theorem zu4:zcf 0 1 1 2=true:=by decide
theorem zuE:zcf 0 1 1 1=true:=by decide
theorem zlI (hf:isF f)(x:Sg):frm (Ue zff f x)=frm (Ue zfG f x):=by
 rcases ze6 hf with rfl | rfl | rfl | rfl | rfl | rfl | rfl | rfl | rfl<;>
 simp [frm,zBe,Ue,zff,zfG,within,zu4,zuE]
theorem zrn (hf:isF f)(x:Sg):zjW (Ue JZ f x) x=zjW (Ue x f JZ) JZ:=by
 rw [Bool.eq_iff_iff,XR,XR];constructor
 ·
  intro h;refine zsP ?_ ?_ fun g hg=>?_
  ·
   rw [zjn,←h,zjn]
  ·
   rw [za7,←h,za7]
  ·
   rw [zep hf];by_cases e:g=f
   ·
    rw [if_pos e]
   ·
    rw [if_neg e]
    conv=>lhs;rw [←h]
    rw [zep hf,if_neg e]
 ·
  intro h;refine zsP ?_ ?_ fun g hg=>?_
  ·
   rw [zjn];have:=congrArg Sg.id h;rw [zjn] at this;exact this.symm
  ·
   rw [za7];have:=congrArg Sg.kind h;rw [za7] at this;exact this.symm
  ·
   rw [zep hf];by_cases e:g=f
   ·
    rw [if_pos e]
   ·
    rw [if_neg e];have:Ub (Ue x f JZ) g=Ub JZ g:=by rw [h]
    rw [zep hf,if_neg e] at this;exact this.symm
def zgz (x y:Int):Int:=if x<y then -1 else if x>y then 1 else 0
def zBp (n d:Int):List Value:=[.int .i64 n,.int .i64 d]
def zaU (n d:Int):Value:=.agg (zBp n d).toArray
theorem zk5 (h:0≤n∧n≤9223372036854775807):IntKind.u64.wrap n=n:=by
 unfold IntKind.wrap IntKind.signed IntKind.bits;simp;omega
theorem zvu (hn: -1073741824≤n∧n≤1073741824)(h:¬n<0):IntKind.u64.wrap n=zcM n:=by
 rw [zk5 kB];unfold zcM;rw [if_neg h]
theorem zww (hn: -1073741824≤n∧n≤1073741824)(h:n<0):IntKind.u64.wrap (0-IntKind.u64.wrap n)=zcM n:=by
 unfold zcM;rw [if_pos h];unfold IntKind.wrap IntKind.signed IntKind.bits;simp;omega
def zzl (t b1 b2:Nat)(a b:Int):Go.Kn.Loc:=[(b2,.cells #[.int .u64 b] t (0,0)),(b1,.cells #[.int .u64 a] t (0,0))]
def zeS (a b:Nat):List Nat:=if a=0 then [] else if b=0 then [a,0] else if a % b=0 then [a,b] else a::zeS b (a % b)
termination_by b
decreasing_by exact Nat.mod_lt _ kB
theorem ze1 (b:Nat):zeS 0 b=[]:=by rw [zeS];rfl
theorem zea {a b:Nat}(ha:a≠0)(hb:b≠0)(h:a % b=0):zeS a b=[a,b]:=by rw [zeS,if_neg ha,if_neg hb,if_pos h]
theorem zfv {a b:Nat}(ha:a≠0)(hb:b≠0)(h:a % b≠0):zeS a b=a::zeS b (a % b):=by rw [zeS,if_neg ha,if_neg hb,if_neg h]
theorem zps:∀ (m:Nat) {a b d:Nat},b≤m→b≠0→(a=0→d=b)→(zeS a b).getLastD d=Nat.gcd a b:=by
 intro m
 induction m with
 | zero=>intro a b d h1 h2;omega
 | succ m ih=>
  intro a b d h1 h2 hd;by_cases ha:a=0
  ·
   subst ha;rw [ze1,Nat.gcd_zero_left,hd rfl];rfl
  ·
   by_cases h:a % b=0
   ·
    rw [zea ha h2 h];show b=_;rw [Nat.gcd_comm,Nat.gcd_rec,h,Nat.gcd_zero_left]
   ·
    rw [zfv ha h2 h,List.getLastD_cons,ih (by have:=Nat.mod_lt a (show 0<b by omega);omega) h (fun e=>absurd e h2)];rw [Nat.gcd_comm b,←Nat.gcd_rec,Nat.gcd_comm]
theorem ziK (a b:Nat):((a:Int)).tmod (b:Int)=((a % b:Nat):Int):=by
 rw [Int.tmod_eq_emod_of_nonneg kB];rfl
theorem zpx (ha: -1073741824≤a∧a≤1073741824)(hb: -1073741824≤b∧b≤1073741824): -9223372036854775808≤a*b∧a*b≤9223372036854775807:=by
 have h1:(a*b).natAbs≤1073741824*1073741824:=by
  rw [Int.natAbs_mul];exact Nat.mul_le_mul kB kB
 omega
def zwC (n d:Int):Int:=if Wz n d then 0 else 120
variable{d:Int}
theorem zdE (h:Wz n d=true):(1≤d∧d≤1073741824)∧ -1073741824≤n∧n≤1073741824:=by
 unfold Wz at h;simp at h;omega
theorem ztl (n d:Int):Nat.gcd (zcM n).toNat d.toNat=Int.gcd n d.toNat:=by
 unfold Int.gcd zcM;congr 1;split<;>omega
theorem Zw {b:Nat}(h:0<b):zgq (b:Int) 1=(b:Int):=by
 unfold zgq;split<;>omega
variable{pre:List Nat}
theorem zng {a0 b0 a b:Nat}(h:zeS a0 b0=pre++zeS a b)(ha:a≠0):pre++[a]<+:zeS a0 b0:=by
 rw [h,zeS,if_neg ha];have key:∀ l:List Nat,pre++[a]<+:pre++a::l:=fun l=>⟨l,by simp⟩;split
 ·
  exact key _
 ·
  split<;>exact key _
variable{l:List Nat}
theorem znK {x d:Nat}:(l++[x]).getLastD d=x:=by simp [List.getLastD_eq_getLast?]
theorem zti (h:((((decide (d<1)||decide (d>1073741824))||decide (n< -1073741824))||decide (n>1073741824))||(zoG n d != 1))=true):Wz n d=false:=by unfold Wz;rw [h];rfl
theorem zpp (h:((((decide (d<1)||decide (d>1073741824))||decide (n< -1073741824))||decide (n>1073741824))||(zoG n d != 1))=false):Wz n d=true:=by unfold Wz;rw [h];rfl
/-! ### Fields as cells -/
def foF (f:Int):Nat:=if f=1 then 1 else if f=2 then 2 else if f=3 then 3 else if f=4 then 5 else if f=5 then 6 else if f=6 then 7 else if f=7 then 8 else 9
def zxa (x:Sg)(f:Int):Int:=if f=1 then x.role else if f=2 then x.bar else if f=3 then x.mark else if f=4 then x.side else if f=5 then x.dir else if f=6 then x.level else if f=7 then x.size else x.wth
def zBC (b:Nat):List Value:=[.pointer none,.pointer (some ⟨b,0+1,none⟩),.pointer (some ⟨b,0+2,none⟩),.pointer (some ⟨b,0+3,none⟩),.pointer (some ⟨b,0+5,none⟩),.pointer (some ⟨b,0+6,none⟩),.pointer (some ⟨b,0+7,none⟩),.pointer (some ⟨b,0+8,none⟩),.pointer (some ⟨b,0+9,none⟩)]
theorem zcK (h:1≤f∧f≤8):f=1∨f=2∨f=3∨f=4∨f=5∨f=6∨f=7∨f=8:=kB
theorem zdp (h:1≤f∧f≤8)(b:Nat):(zBC b)[f.toNat*1]? =some (.pointer (some ⟨b,foF f,none⟩)):=by
 rcases zcK h with rfl | rfl | rfl | rfl | rfl | rfl | rfl | rfl<;>rfl
theorem zhM (h:1≤f∧f≤8)(x:Sg):zki (zgB x) (foF f)=some (.int .i64 (zxa x f)):=by
 rcases zcK h with rfl | rfl | rfl | rfl | rfl | rfl | rfl | rfl<;>rfl
theorem zwn :Nat.blt (foF f) 14=true:=by
 unfold foF
 repeat' split
 all_goals rfl
theorem zlk (h:1≤f∧f≤8)(x y:Sg):(zgB x).toArray.setIfInBounds (foF f) (.int .i64 (zxa y f))=(zgB (Ue x f y)).toArray:=by
 rcases zcK h with rfl | rfl | rfl | rfl | rfl | rfl | rfl | rfl<;>rfl
def zjI (v:List Int)(k:Nat)(l:Int):Prop:=(k=0→l=0)∧∀ y,v[k-1]? =some y→k≠0→l=y
variable{v:List Int}
theorem zdd {x:Int}(hx:v[k]? =some x):zjI v (k+1) x:=⟨fun h=>kB,fun y hy _=>by simp at hy;rw [hx] at hy;cases hy;rfl⟩
variable{id:Int}
theorem zwT {l x:Int}(hall:(List.range k).all (ndP id v)=true)(hl:zjI v k l)(hx:v[k]? =some x):ndP id v k= !(decide (x≤l)||decide (x≥id)):=by
 unfold ndP;rw [Vu hx]
 cases k with
 | zero=>
  rw [hl.1 rfl];rw [Bool.eq_iff_iff];simp;omega
 | succ k=>
  have hk:=(List.getElem?_eq_some_iff.1 hx).1;have hy:v[k]? =some (v[k]' kB):=List.getElem?_eq_getElem _;have e:=hl.2 _ (by rw [Nat.add_sub_cancel];exact hy) kB;rw [show (((k+1:Nat):Int)-1).toNat=k by omega,Vu hy,←e]
  have h1:1≤l:=by
   rw [List.all_eq_true] at hall;have:=hall k (List.mem_range.2 kB);unfold ndP at this;rw [Vu hy] at this;simp at this;omega
  rw [Bool.eq_iff_iff];simp;omega
theorem zrJ (h:p.needs.length>32):KJ p=2:=by unfold KJ;rw [if_pos h]
theorem zyT (h:¬p.needs.length>32)(h2:ndB p.id p.needs=false):KJ p=370:=by unfold KJ;rw [if_neg h,h2];rfl
theorem zgb (h:¬p.needs.length>32)(h2:ndB p.id p.needs=true)(h3:(idB p&&U0 p)=false):KJ p=370:=by unfold KJ;rw [if_neg h,h2,h3];rfl
theorem zjg (h:¬p.needs.length>32)(h2:ndB p.id p.needs=true)(h3:(idB p&&U0 p)=true):KJ p=0:=by unfold KJ;rw [if_neg h,h2,h3];rfl
theorem zu8 (h:p.kind=1)(h2:within p.field 1 9=true):U0 p=(zjW (Ue p.nw p.field JZ) JZ&&frm (Ue zfG p.field p.nw)):=by unfold U0;rw [if_pos h,h2,Bool.true_and]
theorem zzH (h:p.kind=1)(h2:within p.field 1 9=false):(idB p&&U0 p)=false:=by unfold U0;rw [if_pos h,h2,Bool.false_and,Bool.and_false]
theorem zv0 (h:p.kind=2):U0 p=(p.field==0&&(p.nw.id==p.sign&&frm p.nw)):=by unfold U0;rw [if_neg kB,if_pos h]
theorem zud (h:p.kind=3):U0 p=(p.field==0&&zjW p.nw JZ):=by unfold U0;rw [if_neg kB,if_neg kB,if_pos h]
theorem zAE (h1:p.kind≠1)(h2:p.kind≠2)(h3:p.kind≠3):(idB p&&U0 p)=false:=by unfold U0;rw [if_neg h1,if_neg h2,if_neg h3,Bool.and_false]
variable{fn fd tn td:Int}
theorem zmI :(zwC fn fd != 0||zwC tn td != 0)= !(Wz fn fd&&Wz tn td):=by
 unfold zwC;cases Wz fn fd<;>cases Wz tn td<;>rfl
def zwW (an ad bn bd:Int):Int:=if Wz an ad&&Wz bn bd then 0 else 120
def zzG (an ad bn bd:Int):Int:=if Wz an ad&&Wz bn bd then zgz (an*bd) (bn*ad) else 0
theorem ztU :(((zwW fn fd tn td==0)&&decide (zzG fn fd tn td<0))&&decide (fn≥0)&&decide (tn≤td))=zcf fn fd tn td:=by
 unfold zwW zzG zcf zgz
 cases h:(Wz fn fd&&Wz tn td) with
 | false=>rfl
 | true=>
  simp only [if_true,Bool.true_and];by_cases h2:fn*td<tn*fd
  ·
   simp [h2]
  ·
   by_cases h3:fn*td>tn*fd<;>simp [h2,h3]
theorem zja {xs:List Sg}(hx:xs[k]? =some x):skP xs k= !(!frm x||(decide ((k:Int)>0)&&decide ((xs.getD ((k:Int)-1).toNat JZ).id≥x.id))):=by unfold skP;rw [Vu hx]
end
end Go.Proofs.YtjblkbkmblkgoaaGreat
namespace Go.Proofs.YtjblkbkmblkgoaaGreat.L
section
open Go Go.Kn Go.Proofs
structure Ls where
 no:Int
 person:Int
 version:Int
 at_:Int
 known:Int
def encL (x:Ls):List Value:=[.int .i64 x.no,.int .i64 x.person,.int .i64 x.version,.int .i64 x.at_,.int .i64 x.known]
def encA (x:Ls):Value:=.agg (encL x).toArray
def ZX (n:Int):List Value:=[.int .i64 n]
structure Hd where
 a:Option Addr
 n:Nat
 c:Nat
def zmf (h:Hd):List Value:=[.slice h.a h.n h.c]
def zeroL:Ls:=⟨0,0,0,0,0⟩
theorem encL_len (x:Ls):(encL x).length=5:=rfl
theorem YM (x:Int):(ZX x).length=1:=rfl
theorem zei (x:Hd):(zmf x).length=1:=rfl
theorem one_L (xs:List Ls):YF (xs.flatMap encL)=true:=Z8 (fun _=>rfl) xs
theorem zaY (xs:List Int):YF (xs.flatMap ZX)=true:=Z8 (fun _=>rfl) xs
theorem zzd (xs:List Hd):YF (xs.flatMap zmf)=true:=Z8 (fun _=>rfl) xs
def lsEq (x y:Ls):Bool:=x.no==y.no&&(x.person==y.person&&(x.version==y.version&&(x.at_==y.at_&&(x.known==y.known&&true))))
theorem lsEq_iff {x y:Ls}:lsEq x y=true↔x=y:=by
 obtain ⟨a,b,c,d,e⟩:=x;obtain ⟨a',b',c',d',e'⟩:=y;simp [lsEq]
instance : DecidableEq Ls := fun a b => decidable_of_iff (lsEq a b = true) lsEq_iff
def within (n lo hi:Int):Bool:=decide (n≥lo)&&decide (n≤hi)
def zaI (x:Ls):Bool:=within x.no 0 1048576&&within x.person 0 63&&within x.version 0 512&&within x.at_ 0 73048&&within x.known 0 134217727
def zpD (xs:List Ls)(i:Nat):Ls:=xs.getD ((i:Int)-1).toNat zeroL
def ckP (xs:List Ls)(i:Nat):Bool:= !(!zaI (xs.getD i zeroL)||(decide ((i:Int)>0)&&decide ((xs.getD i zeroL).no≤(zpD xs i).no)))
def ckB (xs:List Ls):Bool:=(List.range xs.length).all (ckP xs)
def chk (xs:List Ls):Int:=if xs.length>4096 then 2 else if ckB xs then 0 else 390
variable{p:Nat→Bool}{k:Nat}
theorem VH (h:(List.range k).all p=true)(hp:p k=true):(List.range (k+1)).all p=true:=by
 rw [List.range_succ,List.all_append,h];simpa using hp
variable{n:Nat}
theorem VY (hk:k<n)(hp:p k=false):(List.range n).all p=false:=by
 cases h:(List.range n).all p with
 | false=>rfl
 | true=>
  rw [List.all_eq_true] at h;rw [h k (List.mem_range.2 hk)] at hp;cases hp
variable{α:Type}{xs:List α}{d:α}
theorem Vu {x:α}(h:xs[k]? =some x):xs.getD k d=x:=by simp [List.getD,h]
theorem KR (hl:xs.length=n)(h:k<n):xs[k]? =some (xs.getD k d):=by
 have:k<xs.length:=kB;unfold List.getD;rw [List.getElem?_eq_getElem this];rfl
def zBY (v:List Int):Bool:= !((decide ((v.length:Int)>40)&&decide ((v.length:Int)≤512))||decide ((v.length:Int)>600))
def zkj (xs:List Ls)(vss:List (List Int))(target:List Int):Bool:=
 !(((((((decide ((xs.length:Int)>60)&&decide ((xs.length:Int)≤4096))||decide ((xs.length:Int)>5000))||(decide ((vss.length:Int)>20)&&decide ((vss.length:Int)≤512)))||decide ((vss.length:Int)>600))||(decide ((target.length:Int)>40)&&decide ((target.length:Int)≤512)))||decide ((target.length:Int)>600)))&&
 vss.all zBY
section
variable {xs:List Ls} {vss:List (List Int)} {person day time:Int} {ts:List Int}
end
variable{R:α→α→Prop}{l:List α}
theorem zaG (ht:∀ a b c,R a b→R b c→R a c)(h:∀ k (hk:k+1<l.length),R (l[k]' kB) l[k+1]):l.Pairwise R:=by
 have key:∀ (n i:Nat) (hn:i+n<l.length),0<n→R (l[i]' kB) l[i+n]:=by
  intro n
  induction n with
  | zero=>intro i _ h0;omega
  | succ n ih=>
   intro i hn _;have h2:=h (i+n) kB;by_cases e:n=0
   ·
    subst e;exact h2
   ·
    exact ht _ _ _ (ih i kB kB) h2
 rw [List.pairwise_iff_getElem];intro i j hi hj hij;have:=key (j-i) i kB kB;simpa [show i+(j-i)=j by omega] using this
end
end Go.Proofs.YtjblkbkmblkgoaaGreat.L
namespace Go.Proofs.YtjblkbkmblkgoaaGreat.S
section
open Go Go.Kn
structure Rt where
 no:Int
 kind:Int
 edition:Int
 holder:Int
 sign:Int
 ends:Int
 name:ByteArray
 town:ByteArray
 lo:Int
 hi:Int
 known:Int
def encR (x:Rt):List Value:=[.int .i64 x.no,.int .i64 x.kind,.int .i64 x.edition,.int .i64 x.holder,.int .i64 x.sign,.int .i64 x.ends,.string x.name,.string x.town,.int .i64 x.lo,.int .i64 x.hi,.int .i64 x.known]
def encA (x:Rt):Value:=.agg (encR x).toArray
def ZX (n:Int):List Value:=[.int .i64 n]
def K2 (p:Int×Int):List Value:=[.int .i64 p.1,.int .i64 p.2]
def zeroR:Rt:=⟨0,0,0,0,0,0,⟨#[]⟩,⟨#[]⟩,0,0,0⟩
theorem encR_len (x:Rt):(encR x).length=11:=rfl
theorem YM (x:Int):(ZX x).length=1:=rfl
theorem Ju (x:Int×Int):(K2 x).length=2:=rfl
def rtEq (x y:Rt):Bool:=
 x.no==y.no&&(x.kind==y.kind&&(x.edition==y.edition&&(x.holder==y.holder&&(x.sign==y.sign&&(x.ends==y.ends&&(JG x.name y.name&&(JG x.town y.town&&(x.lo==y.lo&&(x.hi==y.hi&&(x.known==y.known&&true))))))))))
theorem rtEq_iff {x y:Rt}:rtEq x y=true↔x=y:=by
 cases x;cases y;simp only [rtEq,Bool.and_eq_true,beq_iff_eq,zbE,Rt.mk.injEq,and_true]
def within (n lo hi:Int):Bool:=decide (lo≤n)&&decide (n≤hi)
def w64 (n:Int):Int:=IntKind.i64.wrap n
def zl5 (x:Rt):Bool:=decide (x.lo≥0)&&decide (x.lo≤x.hi)&&decide (x.hi≤73048)&&within x.edition 0 1048576
def heldF (x:Rt):Bool:=rtEq x {x with ends:=0,name:=⟨#[]⟩,town:=⟨#[]⟩ }&&zl5 x&&within x.holder 0 63&&within x.sign 0 1048577
def billF (x:Rt):Bool:=rtEq x {x with holder:=0,sign:=0,ends:=0}&&zl5 x&&within x.name.size 1 32&&within x.town.size 1 32
def voidF (x:Rt)(bs:List (Int×Rt)):Bool:=match ZD bs (w64 (x.ends-1)) with
 | none=>false
 | some old=>(old.kind != 4)&&decide (old.known≤x.known)&&rtEq x {zeroR with no:=x.no,kind:=x.kind,ends:=x.ends,known:=x.known}
def zc7 (k:Int):Bool:=k==1||k==2||k==3||k==4
def askF (k:Int)(x:Rt)(bs:List (Int×Rt)):Bool:=if k=1 then billF x else if k=2 then heldF x else if k=3 then heldF x else voidF x bs
def rBad (x:Rt)(bs:List (Int×Rt))(last:Int):Bool:= !zc7 x.kind||decide (x.no≤last)||decide (x.no>1048576)|| !within x.known 0 134217727|| !askF x.kind x bs
def rGo:List Rt→List (Int×Rt)→Int→Int
 | [],_,_=>0
 | x::xs,bs,last=>if rBad x bs last then 460 else rGo xs (JI bs x.no x) x.no
def rCheck (xs:List Rt):Int:=if xs.length>512 then 2 else rGo xs [] (-1)
def zkc (x:Rt):Bool:=within x.lo 0 x.hi&&decide (x.hi≤73048)
def zkd (s:ByteArray):Bool:=within s.size 1 32
def zgS (pre:List Rt)(x:Rt):Bool:=pre.any fun y=>(w64 (y.no+1)==x.ends)&&(y.kind != 4)&&decide (y.known≤x.known)
def zcV:ByteArray:=⟨#[]⟩
def WE (x:Rt):Bool:=zkc x&&within x.edition 0 1048576&&within x.holder 0 63&&within x.sign 0 1048577&&JG x.name zcV&&JG x.town zcV&&(x.ends==0)
def WR (pre:List Rt)(x:Rt):Bool:=
 if x.kind==1 then zkc x&&within x.edition 0 1048576&&zkd x.name&&zkd x.town&&(x.holder==0)&&(x.sign==0)&&(x.ends==0)
 else if x.kind==2 then WE x
 else if x.kind==3 then WE x
 else if x.kind==4 then zgS pre x&&(x.edition==0)&&(x.holder==0)&&(x.sign==0)&&JG x.name zcV&&JG x.town zcV&&(x.lo==0)&&(x.hi==0)
 else false
def Jo (i:Nat)(pre:List Rt)(y x:Rt):Bool:=
 if (!within x.no 0 1048576||(decide ((i:Int)>0)&&decide (x.no≤y.no))|| !within x.known 0 134217727) then false else WR pre x
def zc4 (xs:List Rt)(i:Nat):Rt:=(xs[((i:Int)-1).toNat]?).getD zeroR
def WL (xs:List Rt)(i:Nat):Bool:=Jo i (xs.take i) (zc4 xs i) ((xs[i]?).getD zeroR)
def fCheck (xs:List Rt):Int:=if xs.length>512 then 2 else if (List.range xs.length).all (WL xs) then 0 else 460
instance : DecidableEq Rt := fun a b => decidable_of_iff (rtEq a b = true) rtEq_iff
def zCe (x:Rt):Bool:=decide ((x.name.size:Int)>100)||decide ((x.town.size:Int)>100)
def zkj (xs:List Rt):Bool:=if (xs.take 600).any zCe then false else decide ((xs.length:Int)≤120)||(decide ((xs.length:Int)>512)&&decide ((xs.length:Int)≤600))
theorem XC {α:Type}{xs:List α}{k:Nat}{x:α}(h:xs[k]? =some x):xs.drop k=x::xs.drop (k+1):=by
 obtain ⟨hk,rfl⟩:=List.getElem?_eq_some_iff.1 h;exact List.drop_eq_getElem_cons hk
theorem Jh {α β:Type}[DecidableEq α](m:List (α×β))(a k:α)(b:β):ZD (JI m a b) k=if a=k then some b else ZD m k:=by
 induction m with
 | nil=>simp [JI,ZD]
 | cons p m ih=>
  simp only [JI];split
  ·
   rename_i h;simp only [ZD];by_cases h2:a=k
   ·
    simp [h2]
   ·
    simp [h2,h]
  ·
   rename_i h;simp only [ZD,ih];by_cases h2:a=k
   ·
    subst h2;simp [h]
   ·
    simp [h2]
end
end Go.Proofs.YtjblkbkmblkgoaaGreat.S
namespace Go.Proofs.YtjblkbkmblkgoaaGreat
section
open Go Go.Kn Go.Proofs
structure Nt where
 kind:Int
 lm:Lm
 pt:Pt
 ls:L.Ls
 rt:S.Rt
def Q7 (x:Nt):List Value:=[.int .i64 x.kind,.int .i64 x.lm.no,.int .i64 x.lm.person,.int .i64 x.lm.ends,.int .i64 x.lm.lo,.int .i64 x.lm.hi,.int .i64 x.lm.known,.int .i64 x.lm.ck,.int .i64 x.lm.cl,.int .i64 x.lm.cn,.int .i64 x.pt.id,.int .i64 x.pt.kind,.int .i64 x.pt.sign,.int .i64 x.pt.field,.int .i64 x.pt.nw.id,.int .i64 x.pt.nw.role,.int .i64 x.pt.nw.bar,.int .i64 x.pt.nw.mark,.int .i64 x.pt.nw.kind,.int .i64 x.pt.nw.side,.int .i64 x.pt.nw.dir,.int .i64 x.pt.nw.level,.int .i64 x.pt.nw.size,.int .i64 x.pt.nw.wth,.int .i64 x.pt.nw.fn,.int .i64 x.pt.nw.fd,.int .i64 x.pt.nw.tn,.int .i64 x.pt.nw.td,.slice x.pt.a x.pt.n x.pt.c,.int .i64 x.ls.no,.int .i64 x.ls.person,.int .i64 x.ls.version,.int .i64 x.ls.at_,.int .i64 x.ls.known,.int .i64 x.rt.no,.int .i64 x.rt.kind,.int .i64 x.rt.edition,.int .i64 x.rt.holder,.int .i64 x.rt.sign,.int .i64 x.rt.ends,.string x.rt.name,.string x.rt.town,.int .i64 x.rt.lo,.int .i64 x.rt.hi,.int .i64 x.rt.known]
def Kj (x:Nt):Value:=.agg (Q7 x).toArray
theorem Zl (x:Nt):(Q7 x).length=45:=rfl
theorem zaO (xs:List S.Rt):YF (xs.flatMap S.encR)=true:=Z8 (fun _=>rfl) xs
theorem V8 (xs:List Nt):YF (xs.flatMap Q7)=true:=Z8 (fun _=>rfl) xs
def zcX:Nt:=⟨0,VP,Jq,L.zeroL,S.zeroR⟩
def zpk (x y:Lm):Bool:=x.no==y.no&&(x.person==y.person&&(x.ends==y.ends&&(x.lo==y.lo&&(x.hi==y.hi&&(x.known==y.known&&(x.ck==y.ck&&(x.cl==y.cl&&(x.cn==y.cn&&true))))))))
theorem zmu {x y:Lm}:zpk x y=true↔x=y:=by
 obtain ⟨a1,a2,a3,a4,a5,a6,a7,a8,a9⟩:=x;obtain ⟨b1,b2,b3,b4,b5,b6,b7,b8,b9⟩:=y;simp [zpk]
def z1 (x:Nt):Bool:=zpk x.lm VP
def z2 (x:Nt):Bool:=((((x.pt.id==0&&x.pt.kind==0)&&x.pt.sign==0)&&x.pt.field==0)&&zjW x.pt.nw JZ)&&((x.pt.n:Int)==0)
def z3 (x:Nt):Bool:=L.lsEq x.ls L.zeroL
def z4 (x:Nt):Bool:=S.rtEq x.rt S.zeroR
def zaP (x:Nt):Bool:=(((x.kind==1||z1 x)&&(x.kind==2||z2 x))&&(x.kind==3||z3 x))&&(x.kind==4||z4 x)
theorem X3 {m:List (Int×Bool)}{k j:Int}{b:Bool}(h:ZD m j=some b):(ZD (JI m k true) j).getD false=(k==j||b):=by
 rw [Jh];by_cases e:k=j
 ·
  simp [e]
 ·
  rw [if_neg e,h];simp [e]
theorem zpB {m:List (Int×Bool)}{x:Nt}(h1:ZD m 1=some (z1 x))(h2:ZD m 2=some (z2 x))(h3:ZD m 3=some (z3 x))(h4:ZD m 4=some (z4 x)):
  (((ZD (JI m x.kind true) 1).getD false&&(ZD (JI m x.kind true) 2).getD false)&&(ZD (JI m x.kind true) 3).getD false&&(ZD (JI m x.kind true) 4).getD false)=zaP x:=by
 rw [X3 h1,X3 h2,X3 h3,X3 h4];rfl
def lmC (x:Lm):List Lm:=if x.ends=0 then [x] else [⟨IntKind.i64.wrap (x.ends-1),x.person,0,0,0,0,3,0,1⟩,x]
def rtC (x:S.Rt):List S.Rt:=if x.ends=0 then [x] else [⟨IntKind.i64.wrap (x.ends-1),1,0,0,0,0,⟨#[97]⟩,⟨#[97]⟩,0,0,0⟩,x]
def WV (x:Nt):Int:=if x.kind=1 then za0 (lmC x.lm) else if x.kind=2 then KJ x.pt else if x.kind=3 then L.chk [x.ls] else if x.kind=4 then S.rCheck (rtC x.rt) else 570
def QO (x:Nt):Bool:=WV x==0&&zaP x
def vcI (n:Int):Vc:=⟨1,n,⟨#[]⟩,none,0,0⟩
def vcT (s:ByteArray):Vc:=⟨2,0,s,none,0,0⟩
def zBX (v:Value):Value:=.agg #[.int .i64 3,.int .i64 0,.string ⟨#[]⟩,v]
def zkk:List Nat:=[0,1,2,3,4,5,6,7,8,9,10,11,12,13,14,15,16,17,18,19,20,21,22,23,24,25,26,27,29,30,31,32,33,34,35,36,37,38,39,42,43,44]
def zup (b:Nat):List Value:=zkk.map fun o=>.pointer (some ⟨b,o,none⟩)
def zBH (b:Nat):Value:=.agg (zup b).toArray
end
end Go.Proofs.YtjblkbkmblkgoaaGreat
namespace Go.Kn
section
open Go Go.Sort Go.Shelf Go.Lib Go.Proofs
theorem zpX {w w':World}{L:Loc}(h:St w (fun b=>w.heap[b]?) (fun _=>none) L w'):∃ q os',w'=grow (w.drewN q) os':=by
 refine ⟨w'.drawn-w.drawn,w'.heap.extract w.heap.size w'.heap.size,?_⟩;have h1:=h.size
 have hh:w.heap++w'.heap.extract w.heap.size w'.heap.size=w'.heap:=by
  apply Array.ext';apply List.ext_getElem?;intro i;by_cases hi:i<w.heap.size
  ·
   have:=h.imm i _ (Array.getElem?_eq_getElem hi);rw [Array.getElem?_toList,Array.getElem?_toList,this,Array.getElem?_append_left hi,Array.getElem?_eq_getElem hi]
  ·
   rw [Array.getElem?_toList,Array.getElem?_toList,Array.getElem?_append_right kB,Array.getElem?_extract];by_cases h2:i<w'.heap.size
   ·
    rw [if_pos kB,show w.heap.size+(i-w.heap.size)=i by omega]
   ·
    rw [if_neg kB,Array.getElem?_eq_none kB]
 have e1:=h.os;have e2:=h.tape;have e3:=h.out;cases w;cases w';simp only [grow,World.drewN] at*;subst e1;subst e2;subst e3;simp only [World.mk.injEq,true_and,and_true];exact ⟨hh.symm,kB⟩
theorem zl0 {α:Type}[Inhabited α]{enc:α→List Value}{k:Nat}(hk:∀ x,(enc x).length=k)(hpos:0<k)(xs:List α):flatK enc k xs.toArray=(xs.flatMap enc).toArray:=by
 have hl:(xs.flatMap enc).length=xs.length*k:=Yh hk xs;apply Array.ext
 ·
  rw [size_flatK];simp [hl]
 ·
  intro t h1 h2;have ht:t<xs.length*k:=(by rw [size_flatK] at h1;simpa using h1);have hq:t / k<xs.length:=(by rw [Nat.div_lt_iff_lt_mul hpos];exact ht);have hr:t % k<k:=Nat.mod_lt _ hpos;have hx:xs[t / k]? =some xs[t / k]:=List.getElem?_eq_getElem hq;have hu:(enc xs[t / k])[t % k]? =some ((enc xs[t / k])[t % k]'(by rw [hk];exact hr)):=List.getElem?_eq_getElem _;have h3:=zbM hk xs (t / k) _ hx (t % k) _ hu;rw [Nat.mul_comm,Nat.div_add_mod] at h3;have h4:=get_flatK enc k xs.toArray t (by simpa using ht);rw [getElem!_pos (flatK enc k xs.toArray) t h1] at h4;rw [h4];have e1:xs.toArray[t / k]! =xs[t / k]'hq:=(by simp [hq]);rw [e1];have e2:(enc (xs[t / k]'hq))[t % k]! =(enc (xs[t / k]'hq))[t % k]'(by rw [hk];exact hr):=getElem!_pos (enc (xs[t / k]'hq)) (t % k) (by rw [hk];exact hr);rw [e2];have e3:(xs.flatMap enc).toArray[t]? =some ((enc xs[t / k])[t % k]'(by rw [hk];exact hr)):=(by simpa using h3);rw [Array.getElem?_eq_getElem h2] at e3;exact (Option.some.inj e3).symm
end
end Go.Kn
namespace Go.Proofs.YtjblkbkmblkgoaaGreat
section
open Go Go.Kn Go.Proofs
theorem ZH:ElT Tryz.prog 57 45 45 392:=.of kA
theorem VQ:ElT Tryz.prog 62 32 9 72:=.of kA
theorem VM:ElT Tryz.prog 65 43 11 104:=.of kA
theorem QZ:SlT Tryz.prog 57 45 45:=.of kA
theorem Z0:SlT Tryz.prog 65 43 11:=.of kA
theorem zpY:Tryz.prog.underlying 3=some (.int .i64):=kA
variable{zs:List Value}{b:Nat}
theorem zlP {a:Nat}(h:a+b≤zs.length):∃ p q r,zs=p++(q++r)∧p.length=a∧q.length=b:=
 ⟨zs.take a,(zs.drop a).take b,(zs.drop a).drop b,by rw [List.take_append_drop,List.take_append_drop],by rw [List.length_take];omega,by rw [List.length_take,List.length_drop];omega⟩
theorem zqE (xs:List Lm):(xs.flatMap Zi).length=xs.length*9:=Yh YI xs
variable{n c:Nat}{cur rest:List Value}
theorem zeD {xs:List Lm}(hl:xs.length=n)(hn:n≤c)(hc:c≤maxLen)(hcur:cur=xs.flatMap Zi++rest)(hs:cur.length=c*9):ZP 32 9 (.slice (some ⟨b,0,none⟩) n c) n (xs.flatMap Zi) [(b,.cells cur.toArray 32 (0,0))]:=by
 subst hcur;refine ⟨by rw [zqE,hl],.inr ⟨b,c,_,rfl,rfl,hn,hc,by simpa using hs,?_⟩⟩;rw [List.take_left' (by rw [zqE,hl])]
variable{I:Qv}{av:Option Addr}
theorem zjv {xs:List Lm}{L:Go.Kn.Loc}(hO:ZP 32 9 (.slice av n c) n (xs.flatMap Zi) L)(hn:n≤100000)(hl:xs.length=n)(b2:Nat)(y:Lm):Y7 Tryz.prog 170 [.slice av n c,.int .i64 n,.slice (some ⟨b2,0,none⟩) 1 1] I (L++[(b2,.cells [Zi y].flatten.toArray 32 (0,0))]) (fun v' I' L'=>I'=I∧ZP 32 9 v' (n+1) ((xs.take n++y::xs.drop n).flatMap Zi) L'):=by
 intro g H w hw;refine qe Tryz.func170 Tryz.ntmps170 hw ?_;refine zR (zA<|zN (zR ?_));refine zM ?_;refine zM ?_;refine zV (YS rfl rfl ZO (fun hg=>kB))<|zN (zR ?_)
 refine zM<|zQ ZO<|zA (zN (Qm (zR<|zM<|zC (zN ?_))))
 refine zI ?_ ?_<;>intro hc16
 ·
  exact absurd hc16 kD
 refine Qp (Qc (zR (zM<|zQ ZO<|zA (zN (Qm (zR<|zM ?_))))));refine zM<|zC (zN ?_)
 refine zI ?_ ?_<;>intro hc22
 ·
  refine zR (zM ?_);refine zM<|zpa (_) ([Zi y].flatten) (L) rfl rfl VQ hO ⟨rfl,fun _=>rfl,.app zCy⟩ rfl ?_
  intro v' L' hO' _;refine zA (zN (Qs (Qf ?_)));exact QA rfl rfl (fun w hw=>⟨_,I,_,rfl,zCA _,hw.subL QJ,rfl,by rw [List.take_of_length_le kB,List.drop_eq_nil_of_le kB];simpa [List.flatMap_append] using hO'⟩)
 exact absurd hc22 kJ
variable{i:Nat}{R:List Value}
theorem zkM {xs:List Lm}(hl:xs.length=n)(hi:i<n)(hn:n≤100000)(hnc:n≤c)(hcm:c≤maxLen)(hR:(((xs.take i).flatMap Zi)++((xs.drop i).flatMap Zi)++R).length=c*9)(b2:Nat)(hne:b2≠b)(y:Lm):Y7 Tryz.prog 170 [.slice (some ⟨b,0,none⟩) n c,.int .i64 i,.slice (some ⟨b2,0,none⟩) 1 1] I ([(b,.cells (((xs.take i).flatMap Zi)++((xs.drop i).flatMap Zi)++R).toArray 32 (0,0)),(b2,.cells [Zi y].flatten.toArray 32 (0,0))]) (fun v' I' L'=>I'=I∧ZP 32 9 v' (n+1) ((xs.take i++y::xs.drop i).flatMap Zi) L'):=by
 intro g H w hw;refine qe Tryz.func170 Tryz.ntmps170 hw ?_;have hA:((xs.take i).flatMap Zi).length=i*9:=(by rw [zqE,List.length_take];omega);have hB:((xs.drop i).flatMap Zi).length=(n-i)*9:=(by rw [zqE,List.length_drop];omega);have hY:[Zi y].flatten.length=9:=rfl;refine zR (zA<|zN (zR ?_));refine zM ?_;refine zM ?_;refine zV (Zr rfl rfl ZO kB)<|zN (zR ?_)
 refine zM<|zQ ZO<|zA (zN (Qm (zR<|zM<|zC (zN ?_))))
 refine zI ?_ ?_<;>intro hc16
 ·
  exact absurd hc16 kD
 refine Qp (Qc (zR (zM<|zQ ZO<|zA (zN (Qm (zR<|zM ?_))))));refine zM<|zC (zN ?_)
 refine zI ?_ ?_<;>intro hc22
 ·
  have h:=hc22;simp at h;omega
 refine Qp (Qc (Qm (zR (zM ?_))));refine zM ?_;refine zB<|zM<|zV (zny rfl ZO)<|zC (zN ?_)
 refine zI ?_ ?_<;>intro hc31
 ·
  have hgr:c<n+1:=(by have h:=hc31;simp at h;omega);refine zR (zM ?_);refine zM ?_;refine zV (Vf rfl rfl ZO (fun hg=>kB))<|zM ?_
  refine zM ?_;refine zB<|zM ?_
  refine zB ?_;refine zaa (ys:=((xs.take i).flatMap Zi)) rfl rfl VQ zpY kB kD kB hA (Cells.part (pre:=[]) (post:=((xs.drop i).flatMap Zi)++R) (by rw [List.nil_append,←List.append_assoc];exact .here) rfl) kB rfl rfl (fun b3 c3 zs hc3 hm3 hz3=>?_);obtain ⟨z1,z2,z3,rfl,hz1,hz2⟩:=zlP (zs:=zs) (a:=9) (b:=(n-i)*9) (by rw [List.length_append,hA] at hz3;omega);refine zA<|zN (zR ?_)
  refine zM ?_;refine zM ?_;refine zV (Zr rfl rfl ZO kB)<|zM ?_
  refine Kl (pre:=((xs.take i).flatMap Zi)) (old:=z1) (post:=z2++z3) (vs:=[Zi y].flatten) (cur':=(((xs.take i).flatMap Zi)++[Zi y].flatten++(z2++z3)).toArray) (by rw [List.append_assoc]) rfl rfl rfl ZO (by show 9=_;simp only [Nat.min_def];split<;>omega) (by rw [hz1];rfl) kB (fun _=>rfl) (.there (.there .here)) rfl rfl rfl .here ?_;refine zN (Qm ?_);have hD:=zCA I;refine Zm<|QI I [] mixed<|zT 0 rfl (Qe rfl) hD<|zT 1 rfl (Qe rfl) hD<|zT 2 rfl (Qe rfl) hD<|zT 3 rfl (Yr rfl rfl rfl (fun _=>kB)) hD<|zT 4 rfl (Zr rfl rfl ZO kB) hD<|zT 5 rfl (Qe rfl) hD<|zT 6 rfl (Qe rfl) hD<|zT 7 rfl (Zr rfl rfl ZO kB) hD<|qd 8 rfl ?_
  refine Kl (pre:=((xs.take i).flatMap Zi)++[Zi y].flatten) (old:=z2) (post:=z3) (vs:=((xs.drop i).flatMap Zi)) (cur':=(((xs.take i).flatMap Zi)++[Zi y].flatten++((xs.drop i).flatMap Zi)++z3).toArray) kW rfl rfl rfl ZO (by rw [hB];simp only [Nat.min_def];split<;>omega) (by rw [hz2,hB]) (by rw [List.length_append,hA,hY];omega) (fun _=>rfl) (.there (Cells.part (pre:=((xs.take i).flatMap Zi)) (post:=R) .here (by show 0+_=_;rw [hA];omega))) (zaC _) rfl rfl .here ?_;refine Qb<|zD hD<|Qo kA<|Qw<|Qc (zR (zM<|zA (zN (Qs (Qf ?_)))))
  first
  | exact QA rfl rfl (fun w hw=>⟨_,I,_,rfl,zCA _,hw.subL (.keep Qx),rfl,by rw [show (i:Int).toNat+((n:Int)+((1:Nat):Int)-(i:Int)).toNat=n+1 by omega];exact zeD (rest:=z3) (by simp [hl];omega) kB hm3 kP (by simp only [List.length_append,hA,hB,hz1,hz2] at hz3 ⊢;rw [hY];omega)⟩)
 have hgr:n+1≤c:=(by have h:=hc31;simp at h;omega);refine Qp (Qc (Qm ?_));obtain ⟨r5,R2,rfl,hr5⟩:∃ r5 R2,R=r5++R2∧r5.length=9:=⟨R.take 9,R.drop 9,by rw [List.take_append_drop],by rw [List.length_take];simp only [List.length_append,hA,hB] at hR;omega⟩;obtain ⟨p1,p2,hpp,hp1,hp2⟩:∃ p1 p2,((xs.drop i).flatMap Zi)++r5=p1++p2∧p1.length=9∧p2.length=(n-i)*9:=⟨(((xs.drop i).flatMap Zi)++r5).take 9,(((xs.drop i).flatMap Zi)++r5).drop 9,by rw [List.take_append_drop],by rw [List.length_take,List.length_append,hB,hr5];omega,by rw [List.length_drop,List.length_append,hB,hr5];omega⟩;have hcur:(((xs.take i).flatMap Zi)++((xs.drop i).flatMap Zi)++(r5++R2)).toArray=(((xs.take i).flatMap Zi)++p1++p2++R2).toArray:=(by rw [List.append_assoc (((xs.take i).flatMap Zi)++p1),List.append_assoc ((xs.take i).flatMap Zi) p1,←List.append_assoc p1,←hpp];simp only [List.append_assoc]);refine Qh (zM<|zM ?_);refine zM ?_;refine zB ?_;refine zV (Vf rfl rfl ZO (fun hg=>kB))<|zA (zN (Qm (zR<|zM ?_)))
 refine zM ?_;refine zM ?_;refine zM ?_;refine zB ?_;refine zV (Zr rfl rfl ZO kB)<|WT rfl rfl rfl Tryz.func222 kA kA kA (by kernel_rfl:Extern.find Tryz.f222=some (Extern.SlicesOverlaps.overlaps #[62,62] #[4])) ZO hne (List.mem_cons_of_mem _ (List.mem_cons_self ..)) (List.mem_cons_self ..) (by rw [List.size_toArray,hR];omega) rfl rfl<|zO (zN ?_)
 refine zI ?_ ?_<;>intro hc68
 ·
  refine Qm ?_;have hD:=zCA I;refine Zm<|QI I [] mixed<|zT 0 rfl (Qe rfl) hD<|zT 1 rfl (Qe rfl) hD<|zT 2 rfl (Qe rfl) hD<|zT 3 rfl (Yr rfl rfl rfl (fun _=>kB)) hD<|zT 4 rfl (Zr rfl rfl ZO kB) hD<|zT 5 rfl (Qe rfl) hD<|zT 6 rfl (Qe rfl) hD<|zT 7 rfl (Zr rfl rfl ZO kB) hD<|qd 8 rfl ?_
  refine Kl (pre:=((xs.take i).flatMap Zi)++p1) (old:=p2) (post:=R2) (vs:=((xs.drop i).flatMap Zi)) (cur':=(((xs.take i).flatMap Zi)++p1++((xs.drop i).flatMap Zi)++R2).toArray) hcur rfl rfl rfl ZO (by rw [hB];simp only [Nat.min_def];split<;>omega) (by rw [hp2,hB]) (by rw [List.length_append,hA,hp1];omega) (fun _=>rfl) (Cells.part (pre:=((xs.take i).flatMap Zi)) (post:=r5++R2) .here (by show 0+_=_;rw [hA];omega)) (zaC _) rfl rfl .here ?_;refine Qb<|zD hD<|Qo kA<|Qw<|Qc (zR (zM<|zM ?_))
  refine zV (Zr rfl rfl ZO kB)<|zM ?_
  refine Kl (pre:=((xs.take i).flatMap Zi)) (old:=p1) (post:=((xs.drop i).flatMap Zi)++R2) (vs:=[Zi y].flatten) (cur':=(((xs.take i).flatMap Zi)++[Zi y].flatten++(((xs.drop i).flatMap Zi)++R2)).toArray) (by rw [List.append_assoc (_++_)]) rfl rfl rfl ZO (by show 9=_;simp only [Nat.min_def];split<;>omega) (by rw [hp1];rfl) kB (fun _=>rfl) (.there .here) rfl rfl rfl .here ?_;refine zN (zR ?_);refine zM<|zA (zN (Qs (Qf ?_)))
  first
  | exact QA rfl rfl (fun w hw=>⟨_,I,_,rfl,zCA _,hw.subL (.keep Qx),rfl,by rw [show ((n:Int)+((1:Nat):Int)).toNat=n+1 by omega];exact zeD (rest:=R2) (by simp [hl];omega) hgr hcm kP (by simp only [List.length_append,hA,hB,hr5] at hR ⊢;rw [hY];omega)⟩)
 cases hc68
variable{v:Value}
theorem zmF {xs:List Lm}{L:Go.Kn.Loc}(hO:ZP 32 9 v n (xs.flatMap Zi) L)(hn:n≤100000)(hl:xs.length=n)(hi:i≤n)(b2:Nat)(y:Lm):
  Y7 Tryz.prog 170 [v,.int .i64 i,.slice (some ⟨b2,0,none⟩) 1 1] I (L++[(b2,.cells [Zi y].flatten.toArray 32 (0,0))]) (fun v' I' L'=>I'=I∧ZP 32 9 v' (n+1) ((xs.take i++y::xs.drop i).flatMap Zi) L'):=by
 by_cases hin:i=n
 ·
  subst hin;obtain ⟨av,c,rfl⟩:=hO.shape;exact zjv hO hn hl b2 y
 rcases hO.2 with ⟨_,h0,_⟩ | ⟨b,c,cur,rfl,rfl,hnc,hcm,hcs,ht⟩
 ·
  omega
 intro g H w hw
 have hne:b2≠b:=fun e=>by
  have:=hw.nodup;subst e;simp at this
 have hsplit:(xs.take i).flatMap Zi++(xs.drop i).flatMap Zi=xs.flatMap Zi:=by rw [←List.flatMap_append,List.take_append_drop]
 have hcur:cur=((xs.take i).flatMap Zi++(xs.drop i).flatMap Zi++cur.toList.drop (n*9)).toArray:=by
  rw [hsplit,←ht,List.take_append_drop,Array.toArray_toList]
 rw [hcur] at hw;exact zkM hl kB hn hnc hcm (by rw [hsplit,←ht,List.take_append_drop,Array.length_toList,hcs]) b2 hne y g H w hw
theorem zqJ (xs:List S.Rt):(xs.flatMap S.encR).length=xs.length*11:=Yh S.encR_len xs
variable{xs:List S.Rt}
theorem zey (hl:xs.length=n)(hn:n≤c)(hc:c≤maxLen)(hcur:cur=xs.flatMap S.encR++rest)(hs:cur.length=c*11):ZP 43 11 (.slice (some ⟨b,0,none⟩) n c) n (xs.flatMap S.encR) [(b,.cells cur.toArray 43 (0,0))]:=by
 subst hcur;refine ⟨by rw [zqJ,hl],.inr ⟨b,c,_,rfl,rfl,hn,hc,by simpa using hs,?_⟩⟩;rw [List.take_left' (by rw [zqJ,hl])]
theorem zjy {L:Go.Kn.Loc}(hO:ZP 43 11 (.slice av n c) n (xs.flatMap S.encR) L)(hn:n≤100000)(hl:xs.length=n)(b2:Nat)(y:S.Rt):Y7 Tryz.prog 171 [.slice av n c,.int .i64 n,.slice (some ⟨b2,0,none⟩) 1 1] I (L++[(b2,.cells [S.encR y].flatten.toArray 43 (0,0))]) (fun v' I' L'=>I'=I∧ZP 43 11 v' (n+1) ((xs.take n++y::xs.drop n).flatMap S.encR) L'):=by
 intro g H w hw;refine qe Tryz.func171 Tryz.ntmps171 hw ?_;refine zR (zA<|zN (zR ?_));refine zM ?_;refine zM ?_;refine zV (YS rfl rfl Z0 (fun hg=>kB))<|zN (zR ?_)
 refine zM<|zQ Z0<|zA (zN (Qm (zR<|zM<|zC (zN ?_))))
 refine zI ?_ ?_<;>intro hc16
 ·
  exact absurd hc16 kD
 refine Qp (Qc (zR (zM<|zQ Z0<|zA (zN (Qm (zR<|zM ?_))))));refine zM<|zC (zN ?_)
 refine zI ?_ ?_<;>intro hc22
 ·
  refine zR (zM ?_);refine zM<|zpa (_) ([S.encR y].flatten) (L) rfl rfl VM hO ⟨rfl,fun _=>rfl,.app zCy⟩ rfl ?_
  intro v' L' hO' _;refine zA (zN (Qs (Qf ?_)));exact QA rfl rfl (fun w hw=>⟨_,I,_,rfl,zCA _,hw.subL QJ,rfl,by rw [List.take_of_length_le kB,List.drop_eq_nil_of_le kB];simpa [List.flatMap_append] using hO'⟩)
 exact absurd hc22 kJ
theorem zm8 (hl:xs.length=n)(hi:i<n)(hn:n≤100000)(hnc:n≤c)(hcm:c≤maxLen)(hR:(((xs.take i).flatMap S.encR)++((xs.drop i).flatMap S.encR)++R).length=c*11)(b2:Nat)(hne:b2≠b)(y:S.Rt):Y7 Tryz.prog 171 [.slice (some ⟨b,0,none⟩) n c,.int .i64 i,.slice (some ⟨b2,0,none⟩) 1 1] I ([(b,.cells (((xs.take i).flatMap S.encR)++((xs.drop i).flatMap S.encR)++R).toArray 43 (0,0)),(b2,.cells [S.encR y].flatten.toArray 43 (0,0))]) (fun v' I' L'=>I'=I∧ZP 43 11 v' (n+1) ((xs.take i++y::xs.drop i).flatMap S.encR) L'):=by
 intro g H w hw;refine qe Tryz.func171 Tryz.ntmps171 hw ?_;have hA:((xs.take i).flatMap S.encR).length=i*11:=(by rw [zqJ,List.length_take];omega);have hB:((xs.drop i).flatMap S.encR).length=(n-i)*11:=(by rw [zqJ,List.length_drop];omega);have hY:[S.encR y].flatten.length=11:=rfl;refine zR (zA<|zN (zR ?_));refine zM ?_;refine zM ?_;refine zV (Zr rfl rfl Z0 kB)<|zN (zR ?_)
 refine zM<|zQ Z0<|zA (zN (Qm (zR<|zM<|zC (zN ?_))))
 refine zI ?_ ?_<;>intro hc16
 ·
  exact absurd hc16 kD
 refine Qp (Qc (zR (zM<|zQ Z0<|zA (zN (Qm (zR<|zM ?_))))));refine zM<|zC (zN ?_)
 refine zI ?_ ?_<;>intro hc22
 ·
  have h:=hc22;simp at h;omega
 refine Qp (Qc (Qm (zR (zM ?_))));refine zM ?_;refine zB<|zM<|zV (zny rfl Z0)<|zC (zN ?_)
 refine zI ?_ ?_<;>intro hc31
 ·
  have hgr:c<n+1:=(by have h:=hc31;simp at h;omega);refine zR (zM ?_);refine zM ?_;refine zV (Vf rfl rfl Z0 (fun hg=>kB))<|zM ?_
  refine zM ?_;refine zB<|zM ?_
  refine zB ?_;refine zaa (ys:=((xs.take i).flatMap S.encR)) rfl rfl VM zpY kB kD kB hA (Cells.part (pre:=[]) (post:=((xs.drop i).flatMap S.encR)++R) (by rw [List.nil_append,←List.append_assoc];exact .here) rfl) kB rfl rfl (fun b3 c3 zs hc3 hm3 hz3=>?_);obtain ⟨z1,z2,z3,rfl,hz1,hz2⟩:=zlP (zs:=zs) (a:=11) (b:=(n-i)*11) (by rw [List.length_append,hA] at hz3;omega);refine zA<|zN (zR ?_)
  refine zM ?_;refine zM ?_;refine zV (Zr rfl rfl Z0 kB)<|zM ?_
  refine Kl (pre:=((xs.take i).flatMap S.encR)) (old:=z1) (post:=z2++z3) (vs:=[S.encR y].flatten) (cur':=(((xs.take i).flatMap S.encR)++[S.encR y].flatten++(z2++z3)).toArray) (by rw [List.append_assoc]) rfl rfl rfl Z0 (by show 11=_;simp only [Nat.min_def];split<;>omega) (by rw [hz1];rfl) kB (fun _=>rfl) (.there (.there .here)) rfl rfl rfl .here ?_;refine zN (Qm ?_);have hD:=zCA I;refine Zm<|QI I [] mixed<|zT 0 rfl (Qe rfl) hD<|zT 1 rfl (Qe rfl) hD<|zT 2 rfl (Qe rfl) hD<|zT 3 rfl (Yr rfl rfl rfl (fun _=>kB)) hD<|zT 4 rfl (Zr rfl rfl Z0 kB) hD<|zT 5 rfl (Qe rfl) hD<|zT 6 rfl (Qe rfl) hD<|zT 7 rfl (Zr rfl rfl Z0 kB) hD<|qd 8 rfl ?_
  refine Kl (pre:=((xs.take i).flatMap S.encR)++[S.encR y].flatten) (old:=z2) (post:=z3) (vs:=((xs.drop i).flatMap S.encR)) (cur':=(((xs.take i).flatMap S.encR)++[S.encR y].flatten++((xs.drop i).flatMap S.encR)++z3).toArray) kW rfl rfl rfl Z0 (by rw [hB];simp only [Nat.min_def];split<;>omega) (by rw [hz2,hB]) (by rw [List.length_append,hA,hY];omega) (fun _=>rfl) (.there (Cells.part (pre:=((xs.take i).flatMap S.encR)) (post:=R) .here (by show 0+_=_;rw [hA];omega))) (zaO _) rfl rfl .here ?_;refine Qb<|zD hD<|Qo kA<|Qw<|Qc (zR (zM<|zA (zN (Qs (Qf ?_)))))
  first
  | exact QA rfl rfl (fun w hw=>⟨_,I,_,rfl,zCA _,hw.subL (.keep Qx),rfl,by rw [show (i:Int).toNat+((n:Int)+((1:Nat):Int)-(i:Int)).toNat=n+1 by omega];exact zey (rest:=z3) (by simp [hl];omega) kB hm3 kP (by simp only [List.length_append,hA,hB,hz1,hz2] at hz3 ⊢;rw [hY];omega)⟩)
 have hgr:n+1≤c:=(by have h:=hc31;simp at h;omega);refine Qp (Qc (Qm ?_));obtain ⟨r5,R2,rfl,hr5⟩:∃ r5 R2,R=r5++R2∧r5.length=11:=⟨R.take 11,R.drop 11,by rw [List.take_append_drop],by rw [List.length_take];simp only [List.length_append,hA,hB] at hR;omega⟩;obtain ⟨p1,p2,hpp,hp1,hp2⟩:∃ p1 p2,((xs.drop i).flatMap S.encR)++r5=p1++p2∧p1.length=11∧p2.length=(n-i)*11:=⟨(((xs.drop i).flatMap S.encR)++r5).take 11,(((xs.drop i).flatMap S.encR)++r5).drop 11,by rw [List.take_append_drop],by rw [List.length_take,List.length_append,hB,hr5];omega,by rw [List.length_drop,List.length_append,hB,hr5];omega⟩;have hcur:(((xs.take i).flatMap S.encR)++((xs.drop i).flatMap S.encR)++(r5++R2)).toArray=(((xs.take i).flatMap S.encR)++p1++p2++R2).toArray:=(by rw [List.append_assoc (((xs.take i).flatMap S.encR)++p1),List.append_assoc ((xs.take i).flatMap S.encR) p1,←List.append_assoc p1,←hpp];simp only [List.append_assoc]);refine Qh (zM<|zM ?_);refine zM ?_;refine zB ?_;refine zV (Vf rfl rfl Z0 (fun hg=>kB))<|zA (zN (Qm (zR<|zM ?_)))
 refine zM ?_;refine zM ?_;refine zM ?_;refine zB ?_;refine zV (Zr rfl rfl Z0 kB)<|WT rfl rfl rfl Tryz.func224 kA kA kA (by kernel_rfl:Extern.find Tryz.f224=some (Extern.SlicesOverlaps.overlaps #[65,65] #[4])) Z0 hne (List.mem_cons_of_mem _ (List.mem_cons_self ..)) (List.mem_cons_self ..) (by rw [List.size_toArray,hR];omega) rfl rfl<|zO (zN ?_)
 refine zI ?_ ?_<;>intro hc68
 ·
  refine Qm ?_;have hD:=zCA I;refine Zm<|QI I [] mixed<|zT 0 rfl (Qe rfl) hD<|zT 1 rfl (Qe rfl) hD<|zT 2 rfl (Qe rfl) hD<|zT 3 rfl (Yr rfl rfl rfl (fun _=>kB)) hD<|zT 4 rfl (Zr rfl rfl Z0 kB) hD<|zT 5 rfl (Qe rfl) hD<|zT 6 rfl (Qe rfl) hD<|zT 7 rfl (Zr rfl rfl Z0 kB) hD<|qd 8 rfl ?_
  refine Kl (pre:=((xs.take i).flatMap S.encR)++p1) (old:=p2) (post:=R2) (vs:=((xs.drop i).flatMap S.encR)) (cur':=(((xs.take i).flatMap S.encR)++p1++((xs.drop i).flatMap S.encR)++R2).toArray) hcur rfl rfl rfl Z0 (by rw [hB];simp only [Nat.min_def];split<;>omega) (by rw [hp2,hB]) (by rw [List.length_append,hA,hp1];omega) (fun _=>rfl) (Cells.part (pre:=((xs.take i).flatMap S.encR)) (post:=r5++R2) .here (by show 0+_=_;rw [hA];omega)) (zaO _) rfl rfl .here ?_;refine Qb<|zD hD<|Qo kA<|Qw<|Qc (zR (zM<|zM ?_))
  refine zV (Zr rfl rfl Z0 kB)<|zM ?_
  refine Kl (pre:=((xs.take i).flatMap S.encR)) (old:=p1) (post:=((xs.drop i).flatMap S.encR)++R2) (vs:=[S.encR y].flatten) (cur':=(((xs.take i).flatMap S.encR)++[S.encR y].flatten++(((xs.drop i).flatMap S.encR)++R2)).toArray) (by rw [List.append_assoc (_++_)]) rfl rfl rfl Z0 (by show 11=_;simp only [Nat.min_def];split<;>omega) (by rw [hp1];rfl) kB (fun _=>rfl) (.there .here) rfl rfl rfl .here ?_;refine zN (zR ?_);refine zM<|zA (zN (Qs (Qf ?_)))
  first
  | exact QA rfl rfl (fun w hw=>⟨_,I,_,rfl,zCA _,hw.subL (.keep Qx),rfl,by rw [show ((n:Int)+((1:Nat):Int)).toNat=n+1 by omega];exact zey (rest:=R2) (by simp [hl];omega) hgr hcm kP (by simp only [List.length_append,hA,hB,hr5] at hR ⊢;rw [hY];omega)⟩)
 cases hc68
theorem zoB {L:Go.Kn.Loc}(hO:ZP 43 11 v n (xs.flatMap S.encR) L)(hn:n≤100000)(hl:xs.length=n)(hi:i≤n)(b2:Nat)(y:S.Rt):
  Y7 Tryz.prog 171 [v,.int .i64 i,.slice (some ⟨b2,0,none⟩) 1 1] I (L++[(b2,.cells [S.encR y].flatten.toArray 43 (0,0))]) (fun v' I' L'=>I'=I∧ZP 43 11 v' (n+1) ((xs.take i++y::xs.drop i).flatMap S.encR) L'):=by
 by_cases hin:i=n
 ·
  subst hin;obtain ⟨av,c,rfl⟩:=hO.shape;exact zjy hO hn hl b2 y
 rcases hO.2 with ⟨_,h0,_⟩ | ⟨b,c,cur,rfl,rfl,hnc,hcm,hcs,ht⟩
 ·
  omega
 intro g H w hw
 have hne:b2≠b:=fun e=>by
  have:=hw.nodup;subst e;simp at this
 have hsplit:(xs.take i).flatMap S.encR++(xs.drop i).flatMap S.encR=xs.flatMap S.encR:=by rw [←List.flatMap_append,List.take_append_drop]
 have hcur:cur=((xs.take i).flatMap S.encR++(xs.drop i).flatMap S.encR++cur.toList.drop (n*11)).toArray:=by
  rw [hsplit,←ht,List.take_append_drop,Array.toArray_toList]
 rw [hcur] at hw;exact zm8 hl kB hn hnc hcm (by rw [hsplit,←ht,List.take_append_drop,Array.length_toList,hcs]) b2 hne y g H w hw
theorem zqT (xs:List Nt):(xs.flatMap Q7).length=xs.length*45:=Yh Zl xs
theorem ziN {xs:List Nt}(hl:xs.length=n)(hn:n≤c)(hc:c≤maxLen)(hcur:cur=xs.flatMap Q7++rest)(hs:cur.length=c*45):ZP 45 45 (.slice (some ⟨b,0,none⟩) n c) n (xs.flatMap Q7) [(b,.cells cur.toArray 45 (0,0))]:=by
 subst hcur;refine ⟨by rw [zqT,hl],.inr ⟨b,c,_,rfl,rfl,hn,hc,by simpa using hs,?_⟩⟩;rw [List.take_left' (by rw [zqT,hl])]
theorem zka {xs:List Nt}{L:Go.Kn.Loc}(hO:ZP 45 45 (.slice av n c) n (xs.flatMap Q7) L)(hn:n≤100000)(hl:xs.length=n)(b2:Nat)(y:Nt):Y7 Tryz.prog 174 [.slice av n c,.int .i64 n,.slice (some ⟨b2,0,none⟩) 1 1] I (L++[(b2,.cells [Q7 y].flatten.toArray 45 (0,0))]) (fun v' I' L'=>I'=I∧ZP 45 45 v' (n+1) ((xs.take n++y::xs.drop n).flatMap Q7) L'):=by
 intro g H w hw;refine qe Tryz.func174 Tryz.ntmps174 hw ?_;refine zR (zA<|zN (zR ?_));refine zM ?_;refine zM ?_;refine zV (YS rfl rfl QZ (fun hg=>kB))<|zN (zR ?_)
 refine zM<|zQ QZ<|zA (zN (Qm (zR<|zM<|zC (zN ?_))))
 refine zI ?_ ?_<;>intro hc16
 ·
  exact absurd hc16 kD
 refine Qp (Qc (zR (zM<|zQ QZ<|zA (zN (Qm (zR<|zM ?_))))));refine zM<|zC (zN ?_)
 refine zI ?_ ?_<;>intro hc22
 ·
  refine zR (zM ?_);refine zM<|zpa (_) ([Q7 y].flatten) (L) rfl rfl ZH hO ⟨rfl,fun _=>rfl,.app zCy⟩ rfl ?_
  intro v' L' hO' _;refine zA (zN (Qs (Qf ?_)));exact QA rfl rfl (fun w hw=>⟨_,I,_,rfl,zCA _,hw.subL QJ,rfl,by rw [List.take_of_length_le kB,List.drop_eq_nil_of_le kB];simpa [List.flatMap_append] using hO'⟩)
 exact absurd hc22 kJ
theorem zky {xs:List Nt}(hl:xs.length=n)(hi:i<n)(hn:n≤100000)(hnc:n≤c)(hcm:c≤maxLen)(hR:(((xs.take i).flatMap Q7)++((xs.drop i).flatMap Q7)++R).length=c*45)(b2:Nat)(hne:b2≠b)(y:Nt):Y7 Tryz.prog 174 [.slice (some ⟨b,0,none⟩) n c,.int .i64 i,.slice (some ⟨b2,0,none⟩) 1 1] I ([(b,.cells (((xs.take i).flatMap Q7)++((xs.drop i).flatMap Q7)++R).toArray 45 (0,0)),(b2,.cells [Q7 y].flatten.toArray 45 (0,0))]) (fun v' I' L'=>I'=I∧ZP 45 45 v' (n+1) ((xs.take i++y::xs.drop i).flatMap Q7) L'):=by
 intro g H w hw;refine qe Tryz.func174 Tryz.ntmps174 hw ?_;have hA:((xs.take i).flatMap Q7).length=i*45:=(by rw [zqT,List.length_take];omega);have hB:((xs.drop i).flatMap Q7).length=(n-i)*45:=(by rw [zqT,List.length_drop];omega);have hY:[Q7 y].flatten.length=45:=rfl;refine zR (zA<|zN (zR ?_));refine zM ?_;refine zM ?_;refine zV (Zr rfl rfl QZ kB)<|zN (zR ?_)
 refine zM<|zQ QZ<|zA (zN (Qm (zR<|zM<|zC (zN ?_))))
 refine zI ?_ ?_<;>intro hc16
 ·
  exact absurd hc16 kD
 refine Qp (Qc (zR (zM<|zQ QZ<|zA (zN (Qm (zR<|zM ?_))))));refine zM<|zC (zN ?_)
 refine zI ?_ ?_<;>intro hc22
 ·
  have h:=hc22;simp at h;omega
 refine Qp (Qc (Qm (zR (zM ?_))));refine zM ?_;refine zB<|zM<|zV (zny rfl QZ)<|zC (zN ?_)
 refine zI ?_ ?_<;>intro hc31
 ·
  have hgr:c<n+1:=(by have h:=hc31;simp at h;omega);refine zR (zM ?_);refine zM ?_;refine zV (Vf rfl rfl QZ (fun hg=>kB))<|zM ?_
  refine zM ?_;refine zB<|zM ?_
  refine zB ?_;refine zaa (ys:=((xs.take i).flatMap Q7)) rfl rfl ZH zpY kB kD kB hA (Cells.part (pre:=[]) (post:=((xs.drop i).flatMap Q7)++R) (by rw [List.nil_append,←List.append_assoc];exact .here) rfl) kB rfl rfl (fun b3 c3 zs hc3 hm3 hz3=>?_);obtain ⟨z1,z2,z3,rfl,hz1,hz2⟩:=zlP (zs:=zs) (a:=45) (b:=(n-i)*45) (by rw [List.length_append,hA] at hz3;omega);refine zA<|zN (zR ?_)
  refine zM ?_;refine zM ?_;refine zV (Zr rfl rfl QZ kB)<|zM ?_
  refine Kl (pre:=((xs.take i).flatMap Q7)) (old:=z1) (post:=z2++z3) (vs:=[Q7 y].flatten) (cur':=(((xs.take i).flatMap Q7)++[Q7 y].flatten++(z2++z3)).toArray) (by rw [List.append_assoc]) rfl rfl rfl QZ (by show 45=_;simp only [Nat.min_def];split<;>omega) (by rw [hz1];rfl) kB (fun _=>rfl) (.there (.there .here)) rfl rfl rfl .here ?_;refine zN (Qm ?_);have hD:=zCA I;refine Zm<|QI I [] mixed<|zT 0 rfl (Qe rfl) hD<|zT 1 rfl (Qe rfl) hD<|zT 2 rfl (Qe rfl) hD<|zT 3 rfl (Yr rfl rfl rfl (fun _=>kB)) hD<|zT 4 rfl (Zr rfl rfl QZ kB) hD<|zT 5 rfl (Qe rfl) hD<|zT 6 rfl (Qe rfl) hD<|zT 7 rfl (Zr rfl rfl QZ kB) hD<|qd 8 rfl ?_
  refine Kl (pre:=((xs.take i).flatMap Q7)++[Q7 y].flatten) (old:=z2) (post:=z3) (vs:=((xs.drop i).flatMap Q7)) (cur':=(((xs.take i).flatMap Q7)++[Q7 y].flatten++((xs.drop i).flatMap Q7)++z3).toArray) kW rfl rfl rfl QZ (by rw [hB];simp only [Nat.min_def];split<;>omega) (by rw [hz2,hB]) (by rw [List.length_append,hA,hY];omega) (fun _=>rfl) (.there (Cells.part (pre:=((xs.take i).flatMap Q7)) (post:=R) .here (by show 0+_=_;rw [hA];omega))) (V8 _) rfl rfl .here ?_;refine Qb<|zD hD<|Qo kA<|Qw<|Qc (zR (zM<|zA (zN (Qs (Qf ?_)))))
  first
  | exact QA rfl rfl (fun w hw=>⟨_,I,_,rfl,zCA _,hw.subL (.keep Qx),rfl,by rw [show (i:Int).toNat+((n:Int)+((1:Nat):Int)-(i:Int)).toNat=n+1 by omega];exact ziN (rest:=z3) (by simp [hl];omega) kB hm3 kP (by simp only [List.length_append,hA,hB,hz1,hz2] at hz3 ⊢;rw [hY];omega)⟩)
 have hgr:n+1≤c:=(by have h:=hc31;simp at h;omega);refine Qp (Qc (Qm ?_));obtain ⟨r5,R2,rfl,hr5⟩:∃ r5 R2,R=r5++R2∧r5.length=45:=⟨R.take 45,R.drop 45,by rw [List.take_append_drop],by rw [List.length_take];simp only [List.length_append,hA,hB] at hR;omega⟩;obtain ⟨p1,p2,hpp,hp1,hp2⟩:∃ p1 p2,((xs.drop i).flatMap Q7)++r5=p1++p2∧p1.length=45∧p2.length=(n-i)*45:=⟨(((xs.drop i).flatMap Q7)++r5).take 45,(((xs.drop i).flatMap Q7)++r5).drop 45,by rw [List.take_append_drop],by rw [List.length_take,List.length_append,hB,hr5];omega,by rw [List.length_drop,List.length_append,hB,hr5];omega⟩;have hcur:(((xs.take i).flatMap Q7)++((xs.drop i).flatMap Q7)++(r5++R2)).toArray=(((xs.take i).flatMap Q7)++p1++p2++R2).toArray:=(by rw [List.append_assoc (((xs.take i).flatMap Q7)++p1),List.append_assoc ((xs.take i).flatMap Q7) p1,←List.append_assoc p1,←hpp];simp only [List.append_assoc]);refine Qh (zM<|zM ?_);refine zM ?_;refine zB ?_;refine zV (Vf rfl rfl QZ (fun hg=>kB))<|zA (zN (Qm (zR<|zM ?_)))
 refine zM ?_;refine zM ?_;refine zM ?_;refine zB ?_;refine zV (Zr rfl rfl QZ kB)<|WT rfl rfl rfl Tryz.func226 kA kA kA (by kernel_rfl:Extern.find Tryz.f226=some (Extern.SlicesOverlaps.overlaps #[57,57] #[4])) QZ hne (List.mem_cons_of_mem _ (List.mem_cons_self ..)) (List.mem_cons_self ..) (by rw [List.size_toArray,hR];omega) rfl rfl<|zO (zN ?_)
 refine zI ?_ ?_<;>intro hc68
 ·
  refine Qm ?_;have hD:=zCA I;refine Zm<|QI I [] mixed<|zT 0 rfl (Qe rfl) hD<|zT 1 rfl (Qe rfl) hD<|zT 2 rfl (Qe rfl) hD<|zT 3 rfl (Yr rfl rfl rfl (fun _=>kB)) hD<|zT 4 rfl (Zr rfl rfl QZ kB) hD<|zT 5 rfl (Qe rfl) hD<|zT 6 rfl (Qe rfl) hD<|zT 7 rfl (Zr rfl rfl QZ kB) hD<|qd 8 rfl ?_
  refine Kl (pre:=((xs.take i).flatMap Q7)++p1) (old:=p2) (post:=R2) (vs:=((xs.drop i).flatMap Q7)) (cur':=(((xs.take i).flatMap Q7)++p1++((xs.drop i).flatMap Q7)++R2).toArray) hcur rfl rfl rfl QZ (by rw [hB];simp only [Nat.min_def];split<;>omega) (by rw [hp2,hB]) (by rw [List.length_append,hA,hp1];omega) (fun _=>rfl) (Cells.part (pre:=((xs.take i).flatMap Q7)) (post:=r5++R2) .here (by show 0+_=_;rw [hA];omega)) (V8 _) rfl rfl .here ?_;refine Qb<|zD hD<|Qo kA<|Qw<|Qc (zR (zM<|zM ?_))
  refine zV (Zr rfl rfl QZ kB)<|zM ?_
  refine Kl (pre:=((xs.take i).flatMap Q7)) (old:=p1) (post:=((xs.drop i).flatMap Q7)++R2) (vs:=[Q7 y].flatten) (cur':=(((xs.take i).flatMap Q7)++[Q7 y].flatten++(((xs.drop i).flatMap Q7)++R2)).toArray) (by rw [List.append_assoc (_++_)]) rfl rfl rfl QZ (by show 45=_;simp only [Nat.min_def];split<;>omega) (by rw [hp1];rfl) kB (fun _=>rfl) (.there .here) rfl rfl rfl .here ?_;refine zN (zR ?_);refine zM<|zA (zN (Qs (Qf ?_)))
  first
  | exact QA rfl rfl (fun w hw=>⟨_,I,_,rfl,zCA _,hw.subL (.keep Qx),rfl,by rw [show ((n:Int)+((1:Nat):Int)).toNat=n+1 by omega];exact ziN (rest:=R2) (by simp [hl];omega) hgr hcm kP (by simp only [List.length_append,hA,hB,hr5] at hR ⊢;rw [hY];omega)⟩)
 cases hc68
theorem zbG {xs:List Nt}{L:Go.Kn.Loc}(hO:ZP 45 45 v n (xs.flatMap Q7) L)(hn:n≤100000)(hl:xs.length=n)(hi:i≤n)(b2:Nat)(y:Nt):
  Y7 Tryz.prog 174 [v,.int .i64 i,.slice (some ⟨b2,0,none⟩) 1 1] I (L++[(b2,.cells [Q7 y].flatten.toArray 45 (0,0))]) (fun v' I' L'=>I'=I∧ZP 45 45 v' (n+1) ((xs.take i++y::xs.drop i).flatMap Q7) L'):=by
 by_cases hin:i=n
 ·
  subst hin;obtain ⟨av,c,rfl⟩:=hO.shape;exact zka hO hn hl b2 y
 rcases hO.2 with ⟨_,h0,_⟩ | ⟨b,c,cur,rfl,rfl,hnc,hcm,hcs,ht⟩
 ·
  omega
 intro g H w hw
 have hne:b2≠b:=fun e=>by
  have:=hw.nodup;subst e;simp at this
 have hsplit:(xs.take i).flatMap Q7++(xs.drop i).flatMap Q7=xs.flatMap Q7:=by rw [←List.flatMap_append,List.take_append_drop]
 have hcur:cur=((xs.take i).flatMap Q7++(xs.drop i).flatMap Q7++cur.toList.drop (n*45)).toArray:=by
  rw [hsplit,←ht,List.take_append_drop,Array.toArray_toList]
 rw [hcur] at hw;exact zky hl kB hn hnc hcm (by rw [hsplit,←ht,List.take_append_drop,Array.length_toList,hcs]) b2 hne y g H w hw
end
end Go.Proofs.YtjblkbkmblkgoaaGreat
namespace Go.Kn
section
open Go
section
variable {C:Cx} {Q:Exit→Act→World→Prop} {ops:Array Oper} {I0:Qv} {loc0:Loc} {S:GS} {E:Env} {I:Qv} {loc:Loc}
theorem zs1 {fuel:Nat}{listed:Array Bool}(b:Bool)(h:XD C Q ops I0 loc0 fuel listed ((b,[])::S) E I loc):XD C Q ops I0 loc0 fuel listed S E I loc:=fun a w ha hg hw=>h a w ha ⟨(fun _ _ e=>by cases e),hg⟩ hw
theorem Ux {fuel:Nat}{listed:Array Bool}(j:Nat){oj:Oper}{dj:Nat}{b0:Bool}(_hj:ops[j]? =some oj)(_hd:oj.dst=some dj)(_hl:Uz S E dj=some (.bool b0))(h:XD C Q ops I0 loc0 fuel listed ((b0,[])::S) E I loc):XD C Q ops I0 loc0 fuel listed S E I loc:=zs1 b0 h
theorem zxJ (i:Nat){tc ta d ty:Nat}{pos:String}{af:Array Edge}{gd:Option (Nat×Bool)}{b t x:Bool}{G:Env}{fuel:Nat}{listed:Array Bool}
  (hi:ops[i]? =some ⟨some d,.pick (.tmp tc) (.tmp ta) (.const (.bool false)),ty,pos,af,gd⟩)(hb:b=t)(hc:QG S E (.tmp tc)=some (.bool t))(ha':VN G ta=some (.bool x))
  (hG:Zt ops S E ⟨some d,.pick (.tmp tc) (.tmp ta) (.const (.bool false)),ty,pos,af,gd⟩)(hN:Nat.blt d C.N=true)(hf:Yb S E d=true)
  (hs:Region.noSelect ops=true)(hfr:Region.free .any ops listed i=true)(hr:(Region.ready .any ops listed).contains i=true)(hQ:Yl Q)(hI:HLe I0 I)(hl:Kr loc0 loc)
  (h:XD C Q ops I0 loc0 fuel (listed.setIfInBounds i true) (zex S E d (.bool (t&&x))) (zeH S E d (.bool (t&&x))) I loc):XD C Q ops I0 loc0 (fuel+1) listed ((b,G)::S) E I loc:=by
 intro a w ha hg hw;have hp:=YH ha hg.2 hN hf (.bool (t&&x));refine Vh (v:=bif Z6 S then .bool (t&&x) else undef) hi kE (Region.noSelect_spec hs) (fun c a w=>hQ c a d _ w) fuel listed a w (Region.free_spec hi hfr) (by simpa using hr) ?_ ((hw.mono hI).subL hl) (h _ _ hp.1 hp.2 hw);have hwt:=hG.wanted ha hg.2
 cases hcj:Z6 S with
 | true=>
  refine .inl ⟨by rw [hwt,hcj],fun w' _=>?_⟩;have e1:a.eval (.tmp tc)= .bool t:=Qk ha hg.2 hcj hc
  have e2:t=true→a.eval (.tmp ta)= .bool x:=fun e=>by
   have:=hg.1 _ _ ha';rw [hcj,hb,e] at this;exact this
  show (execOp a.eval ⟨some d,.pick (.tmp tc) (.tmp ta) (.const (.bool false)),ty,pos,af,gd⟩).run C.P w'= .ok (.value (.bool (t&&x))) w';simp only [execOp,e1,asBool,Sem.run_bind,Sem.run_pure,Result.andThen]
  cases t with
  | true=>simp [e2 rfl]
  | false=>simp [Act.eval]
 | false=>exact .inr ⟨by rw [hwt,hcj],rfl⟩
theorem zrD (i:Nat){oi:Oper}{d:Nat}{v:Value}{fuel:Nat}{listed:Array Bool}(hi:ops[i]? =some oi)(hv:QW C [] E I0 loc0 oi v)(hG:Zt ops [] E oi)(hd:oi.dst=some d)(hN:Nat.blt d C.N=true)
  (hs:Region.noSelect ops=true)(hfr:Region.free .any ops listed i=true)(hr:(Region.ready .any ops listed).contains i=true)(hQ:Yl Q)(hI:HLe I0 I)(hl:Kr loc0 loc)
  (h:XD C Q ops I0 loc0 fuel (listed.setIfInBounds i true) [] ((d,v)::E) I loc):XD C Q ops I0 loc0 (fuel+1) listed [] E I loc:=UH i hi hv hG hd hN rfl hs hfr hr hQ hI hl h
theorem zt0 (i:Nat){op:Op}{ty:TypeId}{pos:String}{af:Array Edge}{gd:Option (Nat×Bool)}{d:Nat}{v:Value}{fuel:Nat}{listed:Array Bool}(hi:ops[i]? =some ⟨some d,op,ty,pos,af,gd⟩)(hv:QW C [] E I0 loc0 ⟨some d,op,ty,pos,af,gd⟩ v)(hI:HLe I0 I)(h:XD C Q ops I0 loc0 fuel (listed.setIfInBounds i true) [] ((d,v)::E) I loc)(hG:Zt ops [] E ⟨some d,op,ty,pos,af,gd⟩:=by exact .none rfl)(hN:Nat.blt d C.N=true:=by exact rfl)
  (hs:Region.noSelect ops=true:=by kernel_rfl)(hfr:Region.free .any ops listed i=true:=by kernel_rfl)(hr:(Region.ready .any ops listed).contains i=true:=by kernel_rfl)(hQ:Yl Q:=by first | exact JV | (repeat (first | exact Uy | with_reducible refine UB ?_ | with_reducible refine Ky ?_)))(hl:Kr loc0 loc:=by repeat (first | exact .refl | exact Qx | refine .keep ?_ | refine .drop ?_ | refine QP ?_)):XD C Q ops I0 loc0 (fuel+1) listed [] E I loc:=zrD i hi hv hG rfl hN hs hfr hr hQ hI hl h
theorem zo7 (i:Nat){oi:Oper}{d:Nat}{v:Value}{b:Bool}{G:Env}{fuel:Nat}{listed:Array Bool}(hi:ops[i]? =some oi)(hv:QW C ((b,G)::S) E I0 loc0 oi v)(hG:Zt ops ((b,G)::S) E oi)(hd:oi.dst=some d)(hN:Nat.blt d C.N=true)(hf:Yb ((b,G)::S) E d=true)
  (hs:Region.noSelect ops=true)(hfr:Region.free .any ops listed i=true)(hr:(Region.ready .any ops listed).contains i=true)(hQ:Yl Q)(hI:HLe I0 I)(hl:Kr loc0 loc)
  (h:XD C Q ops I0 loc0 fuel (listed.setIfInBounds i true) ((b,(d,v)::G)::S) E I loc):XD C Q ops I0 loc0 (fuel+1) listed ((b,G)::S) E I loc:=UH i hi hv hG hd hN hf hs hfr hr hQ hI hl h
theorem zt1 (i:Nat){op:Op}{ty:TypeId}{pos:String}{af:Array Edge}{gd:Option (Nat×Bool)}{d:Nat}{v:Value}{b:Bool}{G:Env}{fuel:Nat}{listed:Array Bool}(hi:ops[i]? =some ⟨some d,op,ty,pos,af,gd⟩)(hv:QW C ((b,G)::S) E I0 loc0 ⟨some d,op,ty,pos,af,gd⟩ v)(hI:HLe I0 I)(h:XD C Q ops I0 loc0 fuel (listed.setIfInBounds i true) ((b,(d,v)::G)::S) E I loc)(hG:Zt ops ((b,G)::S) E ⟨some d,op,ty,pos,af,gd⟩:=by first | exact .some rfl rfl rfl rfl gbt | exact .some rfl rfl rfl rfl gbf)(hN:Nat.blt d C.N=true:=by exact rfl)(hf:Yb ((b,G)::S) E d=true:=by exact rfl)
  (hs:Region.noSelect ops=true:=by kernel_rfl)(hfr:Region.free .any ops listed i=true:=by kernel_rfl)(hr:(Region.ready .any ops listed).contains i=true:=by kernel_rfl)(hQ:Yl Q:=by first | exact JV | (repeat (first | exact Uy | with_reducible refine UB ?_ | with_reducible refine Ky ?_)))(hl:Kr loc0 loc:=by repeat (first | exact .refl | exact Qx | refine .keep ?_ | refine .drop ?_ | refine QP ?_)):XD C Q ops I0 loc0 (fuel+1) listed ((b,G)::S) E I loc:=zo7 i hi hv hG rfl hN hf hs hfr hr hQ hI hl h
theorem zwA (i:Nat){tc ta d ty:Nat}{pos:String}{af:Array Edge}{gd:Option (Nat×Bool)}{b t x:Bool}{G:Env}{fuel:Nat}{listed:Array Bool}
  (hi:ops[i]? =some ⟨some d,.pick (.tmp tc) (.tmp ta) (.const (.bool false)),ty,pos,af,gd⟩)(hb:b=t)(hc:QG [] E (.tmp tc)=some (.bool t))(ha':VN G ta=some (.bool x))
  (hG:gd=none)(hN:Nat.blt d C.N=true)
  (hs:Region.noSelect ops=true)(hfr:Region.free .any ops listed i=true)(hr:(Region.ready .any ops listed).contains i=true)(hQ:Yl Q)(hI:HLe I0 I)(hl:Kr loc0 loc)
  (h:XD C Q ops I0 loc0 fuel (listed.setIfInBounds i true) [] ((d,.bool (t&&x))::E) I loc):XD C Q ops I0 loc0 (fuel+1) listed ((b,G)::[]) E I loc:=zxJ i hi hb hc ha' (.none hG) hN rfl hs hfr hr hQ hI hl h
theorem zta (i:Nat){tc ta d ty:Nat}{pos:String}{af:Array Edge}{b t x:Bool}{G:Env}{fuel:Nat}{listed:Array Bool}
  (hi:ops[i]? =some ⟨some d,.pick (.tmp tc) (.tmp ta) (.const (.bool false)),ty,pos,af,none⟩)(hb:b=t)(hc:QG [] E (.tmp tc)=some (.bool t))(ha':VN G ta=some (.bool x))(hI:HLe I0 I)
  (h:XD C Q ops I0 loc0 fuel (listed.setIfInBounds i true) [] ((d,.bool (t&&x))::E) I loc)(hN:Nat.blt d C.N=true:=by exact rfl)
  (hs:Region.noSelect ops=true:=by kernel_rfl)(hfr:Region.free .any ops listed i=true:=by kernel_rfl)(hr:(Region.ready .any ops listed).contains i=true:=by kernel_rfl)(hQ:Yl Q:=by first | exact JV | (repeat (first | exact Uy | with_reducible refine UB ?_ | with_reducible refine Ky ?_)))(hl:Kr loc0 loc:=by repeat (first | exact .refl | exact Qx | refine .keep ?_ | refine .drop ?_ | refine QP ?_)):XD C Q ops I0 loc0 (fuel+1) listed ((b,G)::[]) E I loc:=zwA i hi hb hc ha' rfl hN hs hfr hr hQ hI hl h
end
end
end Go.Kn
section
namespace Go.Kn
open Go
section
variable {α:Type} {C:Cx} {Q:Exit→Act→World→Prop} {E E':Env} {I I':Qv} {loc loc' L R:Loc} {ops:Array Oper} {rest:List Oper} {S:GS}
variable {Jc:List α→Qv→Loc→Prop} {Jx:Code→List α→Qv→Loc→Prop} {pre:List α}
end
section
variable {P:Program} {r:Option Nat} {N:Nat} {g:World} {H:Qv} {Q:Exit→Act→World→Prop} {E E':Env} {I I':Qv} {loc loc' L R:Loc} {ms:List Nat}
end
end Go.Kn
namespace Go.Kn
open Go
section
variable {C:Cx} {Q:Exit→Act→World→Prop} {E E':Env} {I I' I0:Qv} {loc loc' loc0 L R:Loc} {ops:Array Oper} {rest:List Oper} {S:GS}
theorem zeK {c:Code}(h:loc=loc')(hx:X C Q c E I loc'):X C Q c E I loc:=h ▸ hx
theorem zlD (i j k m:Nat){oi oj ok om:Oper}{fuel:Nat}{listed:Array Bool}(hi:ops[i]? =some oi)(hj:ops[j]? =some oj)(hk:ops[k]? =some ok)(hm:ops[m]? =some om)(hr:Region.ready .any ops listed=[i,j,k,m])
  (h1:XO C (fun e a w=>match e with | .normal=>St C.g I0 C.H loc0 w∧Vl C.r C.P .any ops Q (fun w=>St C.g I0 C.H loc0 w) fuel (listed.setIfInBounds i true) a w | e=>Q e a w) ops [oi] S E I loc)
  (h2:XO C (fun e a w=>match e with | .normal=>St C.g I0 C.H loc0 w∧Vl C.r C.P .any ops Q (fun w=>St C.g I0 C.H loc0 w) fuel (listed.setIfInBounds j true) a w | e=>Q e a w) ops [oj] S E I loc)
  (h3:XO C (fun e a w=>match e with | .normal=>St C.g I0 C.H loc0 w∧Vl C.r C.P .any ops Q (fun w=>St C.g I0 C.H loc0 w) fuel (listed.setIfInBounds k true) a w | e=>Q e a w) ops [ok] S E I loc)
  (h4:XO C (fun e a w=>match e with | .normal=>St C.g I0 C.H loc0 w∧Vl C.r C.P .any ops Q (fun w=>St C.g I0 C.H loc0 w) fuel (listed.setIfInBounds m true) a w | e=>Q e a w) ops [om] S E I loc):XD C Q ops I0 loc0 (fuel+1) listed S E I loc:=by
 intro a w ha hg hw;refine ⟨(fun h0=>by rw [hr] at h0;cases h0),fun q hq=>?_⟩;rw [hr] at hq;rcases List.mem_cons.1 hq with e | hq
 ·
  subst e;exact zb3 hi ha hg hw h1
 ·
  rcases List.mem_cons.1 hq with e | hq
  ·
   subst e;exact zb3 hj ha hg hw h2
  ·
   rcases List.mem_cons.1 hq with e | hq
   ·
    subst e;exact zb3 hk ha hg hw h3
   ·
    obtain rfl:=List.mem_singleton.1 hq;exact zb3 hm ha hg hw h4
end
end Go.Kn
end
namespace Go.Proofs.YtjblkbkmblkgoaaGreat
section
open Go Go.Kn Go.Proofs
theorem Jp:AgT Tryz.prog 41 5:=.of kA
theorem YE:AgT Tryz.prog 43 11:=.of kA
theorem zeA:zAl Tryz.prog 32 [.int,.int,.int,.int,.int,.int,.int,.int,.int]:=⟨kA,kA,kA,kA⟩
theorem zeW:EqT Tryz.prog 41 [.int,.int,.int,.int,.int]:=⟨kA,kA,kA,kA⟩
theorem XL:EqT Tryz.prog 43 [.int,.int,.int,.int,.int,.int,.str,.str,.int,.int,.int]:=⟨kA,kA,kA,kA⟩
theorem YV:QL Tryz.prog 45 0 0:=.of kA
theorem YX:QL Tryz.prog 45 1 1:=.of kA
theorem Yi:QL Tryz.prog 45 2 10:=.of kA
theorem Vy:QL Tryz.prog 45 3 29:=.of kA
theorem Yj:QL Tryz.prog 45 4 34:=.of kA
theorem zdv:PlT Tryz.prog 32 #[(0,1),(1,1),(2,1),(3,1),(4,1),(5,1),(6,3)] (.agg #[(.int .i64 0),(.int .i64 0),(.int .i64 0),(.int .i64 0),(.int .i64 0),(.int .i64 0),(.int .i64 0),(.int .i64 0),(.int .i64 0)]):=⟨.of kA,kA,fun w=>kA⟩
theorem ziU:PlT Tryz.prog 41 #[(0,1),(1,1),(2,1),(3,1),(4,1)] (.agg #[(.int .i64 0),(.int .i64 0),(.int .i64 0),(.int .i64 0),(.int .i64 0)]):=⟨.of kA,kA,fun w=>kA⟩
theorem WM:PlT Tryz.prog 43 #[(0,1),(1,1),(2,1),(3,1),(4,1),(5,1),(6,1),(7,1),(8,1),(9,1),(10,1)] (.agg #[(.int .i64 0),(.int .i64 0),(.int .i64 0),(.int .i64 0),(.int .i64 0),(.int .i64 0),(.string ⟨#[]⟩),(.string ⟨#[]⟩),(.int .i64 0),(.int .i64 0),(.int .i64 0)]):=⟨.of kA,kA,fun w=>kA⟩
variable{I:Qv}{loc:Go.Kn.Loc}{b:Nat}{x:Nt}
theorem zdW (h:Cells I loc b 0 (Q7 x)):Cells I loc b 1 (Zi x.lm):=Cells.part (pre:=[.int .i64 x.kind]) (post:=K2 x.pt++(L.encL x.ls++S.encR x.rt)) h rfl
theorem za1 (h:Cells I loc b 0 (Q7 x)):Cells I loc b 10 (K2 x.pt):=Cells.part (pre:=.int .i64 x.kind::Zi x.lm) (post:=L.encL x.ls++S.encR x.rt) h rfl
theorem zdJ (h:Cells I loc b 0 (Q7 x)):Cells I loc b 29 (L.encL x.ls):=Cells.part (pre:=.int .i64 x.kind::(Zi x.lm++K2 x.pt)) (post:=S.encR x.rt) h rfl
theorem zez (h:Cells I loc b 0 (Q7 x)):Cells I loc b 34 (S.encR x.rt):=Cells.part (pre:=.int .i64 x.kind::(Zi x.lm++(K2 x.pt++L.encL x.ls))) (post:=[]) h rfl
theorem zkb {x:Pt}(h:Cells I loc b 0 (K2 x)):Cells I loc b 4 (zgB x.nw):=Cells.part (pre:=[.int .i64 x.id,.int .i64 x.kind,.int .i64 x.sign,.int .i64 x.field]) (post:=[.slice x.a x.n x.c]) h rfl
theorem WQ (x:Nt):ZF Tryz.prog 172 [Kj x] I (.bool (zaP x)):=by
 intro g H w hw;refine qe Tryz.func172 Tryz.ntmps172 hw ?_;have hIc:=zCA I;refine zR<|QQ rfl rfl rfl (fun b_1=>zA (Qb<|QH .here (fun I1 hI1 hb1=>?_)))
 have hIc:=hIc.trans hI1;have h1:=BxI.of hb1;refine Qc (zR<|zF Yi<|zV (Qg rfl Y6 (fun hg=>by exact za1 (BxI.cells (vs:=Q7 x) h1)) rfl)<|Qt zco rfl rfl (fun b_3=>zh UP<|Qb<|QH .here (fun I2 hI2 hb2=>?_)));have h1:=h1.mono hI2;have hIc:=hIc.trans hI2;have h3:=BxI.of hb2;refine Qc ?_;refine zY [(1,_)] (fun T L0 E I' loc'=>∃ (r:Nat) (m:List (Int×Bool)),E=(4,.map (some r))::T∧I2=I'∧[(r,Yw (.int .i64) .bool m)]=loc'∧ZD m 1=some (z1 x)∧ZD m 2=some (z2 x)∧ZD m 3=some (z3 x)∧ZD m 4=some (z4 x)) ?_ ?_
 ·
  have hD:=zCA I2;refine Zm<|QI I2 [] mixed<|zt0 1 rfl (Qa rfl YX) hD<|zt0 2 rfl (Qg rfl Jr (fun hg=>by exact zdW (BxI.cells (vs:=Q7 x) h1)) rfl) hD<|zt0 3 rfl (QF (ps:=[]) [_,_,_,_,_,_,_,_,_] zdv rfl rfl) hD<|zt0 4 rfl (U4 rfl rfl zeA rfl) hD<|zt0 6 rfl (Qa rfl ZR) hD<|zt0 7 rfl (Qd rfl Qn (fun hg=>by exact Qz.imm h3.out rfl)) hD<|zt0 8 rfl (QE rfl rfl rfl) hD<|zt0 9 rfl (Qe rfl) hD<|Ux 9 rfl rfl rfl<|zt1 10 rfl (Qa rfl V2) hD ?_
  refine zt1 11 rfl (Qd rfl Qn (fun hg=>by exact Qz.imm h3.out rfl)) hD<|zt1 12 rfl (QE rfl rfl rfl) hD<|zta 13 rfl rfl rfl rfl hD<|zt0 14 rfl (Qe rfl) hD<|Ux 14 rfl rfl rfl<|zt1 15 rfl (Qa rfl Ym) hD<|zt1 16 rfl (Qd rfl Qn (fun hg=>by exact Qz.imm h3.out rfl)) hD<|zt1 17 rfl (QE rfl rfl rfl) hD<|zta 18 rfl rfl rfl rfl hD<|zt0 19 rfl (Qe rfl) hD<|Ux 19 rfl rfl rfl<|zt1 20 rfl (Qa rfl Yz) hD ?_
  refine zt1 21 rfl (Qd rfl Qn (fun hg=>by exact Qz.imm h3.out rfl)) hD<|zt1 22 rfl (QE rfl rfl rfl) hD<|zta 23 rfl rfl rfl rfl hD<|zt0 24 rfl (Qe rfl) hD<|Ux 24 rfl rfl rfl<|zt1 25 rfl (Qa rfl YL) hD<|zt1 26 rfl (Qg rfl ZJ (fun hg=>by exact zkb (BxI.cells (vs:=K2 x.pt) h3)) rfl) hD<|zt1 27 rfl (QF (ps:=[]) [_,_,_,_,_,_,_,_,_,_,_,_,_,_] XZ rfl rfl) hD<|zt1 28 rfl (U4 rfl rfl W7 rfl) hD<|zta 29 rfl rfl rfl rfl hD<|zt0 30 rfl (Qe rfl) hD<|Ux 30 rfl rfl rfl ?_
  refine zt1 31 rfl (Qa rfl ZL) hD<|zt1 32 rfl (Qd rfl YW (fun hg=>by exact Qz.imm h3.out rfl)) hD<|zt1 33 rfl (QV rfl Q4) hD<|zt1 34 rfl (QE rfl rfl rfl) hD<|zta 35 rfl rfl rfl rfl hD<|zt0 37 rfl (Qa rfl Vy) hD<|zt0 38 rfl (Qg rfl Jp (fun hg=>by exact zdJ (BxI.cells (vs:=Q7 x) h1)) rfl) hD<|zt0 39 rfl (QF (ps:=[]) [_,_,_,_,_] ziU rfl rfl) hD<|zt0 40 rfl (U6 rfl rfl zeW rfl) hD<|zt0 42 rfl (Qa rfl Yj) hD<|zt0 43 rfl (Qg rfl YE (fun hg=>by exact zez (BxI.cells (vs:=Q7 x) h1)) rfl) hD<|zt0 44 rfl (QF (ps:=[]) [_,_,_,_,_,_,_,_,_,_,_] WM rfl rfl) hD ?_
  refine zt0 45 rfl (U6 rfl rfl XL rfl) hD<|qd 0 rfl<|Yf rfl rfl (fun r_7=>?_)
  refine (show XO _ _ _ _ _ _ _ ((r_7,Yw (.int .i64) .bool ([]:List (Int×Bool)))::[]) from ?_);refine Qb<|zD hD ?_
  refine zlD 5 36 41 46 rfl rfl rfl rfl kA ?_ ?_ ?_ ?_
  ·
   refine zpi (ek:=Value.int .i64) (ev:=Value.bool) _ Q3 Zc ?_;refine Qb<|zD hD ?_
   refine V0 36 41 46 rfl rfl rfl kA ?_ ?_ ?_
   ·
    refine zpi (ek:=Value.int .i64) (ev:=Value.bool) _ Q3 Zc ?_;refine Qb<|zD hD ?_
    refine QS 41 46 rfl rfl kA ?_ ?_
    ·
     refine zpi (ek:=Value.int .i64) (ev:=Value.bool) _ Q3 Zc ?_;refine Qb<|zD hD<|qd 46 rfl<|zpi (ek:=Value.int .i64) (ev:=Value.bool) _ Q3 Zc ?_
     refine Qb<|zD hD<|zt0 47 rfl (Qe rfl) hD<|zt0 48 rfl (Qy rfl) hD<|Qo kA<|Qw ?_
     refine Zk _ _ ⟨_,_,rfl,rfl,rfl,?_,?_,?_,?_⟩ (.cons rfl (.cons rfl .nil)) kC
     all_goals rfl
    refine zpi (ek:=Value.int .i64) (ev:=Value.bool) _ Q3 Zc ?_;refine Qb<|zD hD<|qd 41 rfl<|zpi (ek:=Value.int .i64) (ev:=Value.bool) _ Q3 Zc ?_
    refine Qb<|zD hD<|zt0 47 rfl (Qe rfl) hD<|zt0 48 rfl (Qy rfl) hD<|Qo kA<|Qw ?_
    refine Zk _ _ ⟨_,_,rfl,rfl,rfl,?_,?_,?_,?_⟩ (.cons rfl (.cons rfl .nil)) kC
    all_goals rfl
   ·
    refine zpi (ek:=Value.int .i64) (ev:=Value.bool) _ Q3 Zc ?_;refine Qb<|zD hD ?_
    refine QS 36 46 rfl rfl kA ?_ ?_
    ·
     refine zpi (ek:=Value.int .i64) (ev:=Value.bool) _ Q3 Zc ?_;refine Qb<|zD hD<|qd 46 rfl<|zpi (ek:=Value.int .i64) (ev:=Value.bool) _ Q3 Zc ?_
     refine Qb<|zD hD<|zt0 47 rfl (Qe rfl) hD<|zt0 48 rfl (Qy rfl) hD<|Qo kA<|Qw ?_
     refine Zk _ _ ⟨_,_,rfl,rfl,rfl,?_,?_,?_,?_⟩ (.cons rfl (.cons rfl .nil)) kC
     all_goals rfl
    refine zpi (ek:=Value.int .i64) (ev:=Value.bool) _ Q3 Zc ?_;refine Qb<|zD hD<|qd 36 rfl<|zpi (ek:=Value.int .i64) (ev:=Value.bool) _ Q3 Zc ?_
    refine Qb<|zD hD<|zt0 47 rfl (Qe rfl) hD<|zt0 48 rfl (Qy rfl) hD<|Qo kA<|Qw ?_
    refine Zk _ _ ⟨_,_,rfl,rfl,rfl,?_,?_,?_,?_⟩ (.cons rfl (.cons rfl .nil)) kC
    all_goals rfl
   refine zpi (ek:=Value.int .i64) (ev:=Value.bool) _ Q3 Zc ?_;refine Qb<|zD hD ?_
   refine QS 36 41 rfl rfl kA ?_ ?_
   ·
    refine zpi (ek:=Value.int .i64) (ev:=Value.bool) _ Q3 Zc ?_;refine Qb<|zD hD<|qd 41 rfl<|zpi (ek:=Value.int .i64) (ev:=Value.bool) _ Q3 Zc ?_
    refine Qb<|zD hD<|zt0 47 rfl (Qe rfl) hD<|zt0 48 rfl (Qy rfl) hD<|Qo kA<|Qw ?_
    refine Zk _ _ ⟨_,_,rfl,rfl,rfl,?_,?_,?_,?_⟩ (.cons rfl (.cons rfl .nil)) kC
    all_goals rfl
   refine zpi (ek:=Value.int .i64) (ev:=Value.bool) _ Q3 Zc ?_;refine Qb<|zD hD<|qd 36 rfl<|zpi (ek:=Value.int .i64) (ev:=Value.bool) _ Q3 Zc ?_
   refine Qb<|zD hD<|zt0 47 rfl (Qe rfl) hD<|zt0 48 rfl (Qy rfl) hD<|Qo kA<|Qw ?_
   refine Zk _ _ ⟨_,_,rfl,rfl,rfl,?_,?_,?_,?_⟩ (.cons rfl (.cons rfl .nil)) kC
   all_goals rfl
  ·
   refine zpi (ek:=Value.int .i64) (ev:=Value.bool) _ Q3 Zc ?_;refine Qb<|zD hD ?_
   refine V0 5 41 46 rfl rfl rfl kA ?_ ?_ ?_
   ·
    refine zpi (ek:=Value.int .i64) (ev:=Value.bool) _ Q3 Zc ?_;refine Qb<|zD hD ?_
    refine QS 41 46 rfl rfl kA ?_ ?_
    ·
     refine zpi (ek:=Value.int .i64) (ev:=Value.bool) _ Q3 Zc ?_;refine Qb<|zD hD<|qd 46 rfl<|zpi (ek:=Value.int .i64) (ev:=Value.bool) _ Q3 Zc ?_
     refine Qb<|zD hD<|zt0 47 rfl (Qe rfl) hD<|zt0 48 rfl (Qy rfl) hD<|Qo kA<|Qw ?_
     refine Zk _ _ ⟨_,_,rfl,rfl,rfl,?_,?_,?_,?_⟩ (.cons rfl (.cons rfl .nil)) kC
     all_goals rfl
    refine zpi (ek:=Value.int .i64) (ev:=Value.bool) _ Q3 Zc ?_;refine Qb<|zD hD<|qd 41 rfl<|zpi (ek:=Value.int .i64) (ev:=Value.bool) _ Q3 Zc ?_
    refine Qb<|zD hD<|zt0 47 rfl (Qe rfl) hD<|zt0 48 rfl (Qy rfl) hD<|Qo kA<|Qw ?_
    refine Zk _ _ ⟨_,_,rfl,rfl,rfl,?_,?_,?_,?_⟩ (.cons rfl (.cons rfl .nil)) kC
    all_goals rfl
   ·
    refine zpi (ek:=Value.int .i64) (ev:=Value.bool) _ Q3 Zc ?_;refine Qb<|zD hD ?_
    refine QS 5 46 rfl rfl kA ?_ ?_
    ·
     refine zpi (ek:=Value.int .i64) (ev:=Value.bool) _ Q3 Zc ?_;refine Qb<|zD hD<|qd 46 rfl<|zpi (ek:=Value.int .i64) (ev:=Value.bool) _ Q3 Zc ?_
     refine Qb<|zD hD<|zt0 47 rfl (Qe rfl) hD<|zt0 48 rfl (Qy rfl) hD<|Qo kA<|Qw ?_
     refine Zk _ _ ⟨_,_,rfl,rfl,rfl,?_,?_,?_,?_⟩ (.cons rfl (.cons rfl .nil)) kC
     all_goals rfl
    refine zpi (ek:=Value.int .i64) (ev:=Value.bool) _ Q3 Zc ?_;refine Qb<|zD hD<|qd 5 rfl<|zpi (ek:=Value.int .i64) (ev:=Value.bool) _ Q3 Zc ?_
    refine Qb<|zD hD<|zt0 47 rfl (Qe rfl) hD<|zt0 48 rfl (Qy rfl) hD<|Qo kA<|Qw ?_
    refine Zk _ _ ⟨_,_,rfl,rfl,rfl,?_,?_,?_,?_⟩ (.cons rfl (.cons rfl .nil)) kC
    all_goals rfl
   refine zpi (ek:=Value.int .i64) (ev:=Value.bool) _ Q3 Zc ?_;refine Qb<|zD hD ?_
   refine QS 5 41 rfl rfl kA ?_ ?_
   ·
    refine zpi (ek:=Value.int .i64) (ev:=Value.bool) _ Q3 Zc ?_;refine Qb<|zD hD<|qd 41 rfl<|zpi (ek:=Value.int .i64) (ev:=Value.bool) _ Q3 Zc ?_
    refine Qb<|zD hD<|zt0 47 rfl (Qe rfl) hD<|zt0 48 rfl (Qy rfl) hD<|Qo kA<|Qw ?_
    refine Zk _ _ ⟨_,_,rfl,rfl,rfl,?_,?_,?_,?_⟩ (.cons rfl (.cons rfl .nil)) kC
    all_goals rfl
   refine zpi (ek:=Value.int .i64) (ev:=Value.bool) _ Q3 Zc ?_;refine Qb<|zD hD<|qd 5 rfl<|zpi (ek:=Value.int .i64) (ev:=Value.bool) _ Q3 Zc ?_
   refine Qb<|zD hD<|zt0 47 rfl (Qe rfl) hD<|zt0 48 rfl (Qy rfl) hD<|Qo kA<|Qw ?_
   refine Zk _ _ ⟨_,_,rfl,rfl,rfl,?_,?_,?_,?_⟩ (.cons rfl (.cons rfl .nil)) kC
   all_goals rfl
  ·
   refine zpi (ek:=Value.int .i64) (ev:=Value.bool) _ Q3 Zc ?_;refine Qb<|zD hD ?_
   refine V0 5 36 46 rfl rfl rfl kA ?_ ?_ ?_
   ·
    refine zpi (ek:=Value.int .i64) (ev:=Value.bool) _ Q3 Zc ?_;refine Qb<|zD hD ?_
    refine QS 36 46 rfl rfl kA ?_ ?_
    ·
     refine zpi (ek:=Value.int .i64) (ev:=Value.bool) _ Q3 Zc ?_;refine Qb<|zD hD<|qd 46 rfl<|zpi (ek:=Value.int .i64) (ev:=Value.bool) _ Q3 Zc ?_
     refine Qb<|zD hD<|zt0 47 rfl (Qe rfl) hD<|zt0 48 rfl (Qy rfl) hD<|Qo kA<|Qw ?_
     refine Zk _ _ ⟨_,_,rfl,rfl,rfl,?_,?_,?_,?_⟩ (.cons rfl (.cons rfl .nil)) kC
     all_goals rfl
    refine zpi (ek:=Value.int .i64) (ev:=Value.bool) _ Q3 Zc ?_;refine Qb<|zD hD<|qd 36 rfl<|zpi (ek:=Value.int .i64) (ev:=Value.bool) _ Q3 Zc ?_
    refine Qb<|zD hD<|zt0 47 rfl (Qe rfl) hD<|zt0 48 rfl (Qy rfl) hD<|Qo kA<|Qw ?_
    refine Zk _ _ ⟨_,_,rfl,rfl,rfl,?_,?_,?_,?_⟩ (.cons rfl (.cons rfl .nil)) kC
    all_goals rfl
   ·
    refine zpi (ek:=Value.int .i64) (ev:=Value.bool) _ Q3 Zc ?_;refine Qb<|zD hD ?_
    refine QS 5 46 rfl rfl kA ?_ ?_
    ·
     refine zpi (ek:=Value.int .i64) (ev:=Value.bool) _ Q3 Zc ?_;refine Qb<|zD hD<|qd 46 rfl<|zpi (ek:=Value.int .i64) (ev:=Value.bool) _ Q3 Zc ?_
     refine Qb<|zD hD<|zt0 47 rfl (Qe rfl) hD<|zt0 48 rfl (Qy rfl) hD<|Qo kA<|Qw ?_
     refine Zk _ _ ⟨_,_,rfl,rfl,rfl,?_,?_,?_,?_⟩ (.cons rfl (.cons rfl .nil)) kC
     all_goals rfl
    refine zpi (ek:=Value.int .i64) (ev:=Value.bool) _ Q3 Zc ?_;refine Qb<|zD hD<|qd 5 rfl<|zpi (ek:=Value.int .i64) (ev:=Value.bool) _ Q3 Zc ?_
    refine Qb<|zD hD<|zt0 47 rfl (Qe rfl) hD<|zt0 48 rfl (Qy rfl) hD<|Qo kA<|Qw ?_
    refine Zk _ _ ⟨_,_,rfl,rfl,rfl,?_,?_,?_,?_⟩ (.cons rfl (.cons rfl .nil)) kC
    all_goals rfl
   refine zpi (ek:=Value.int .i64) (ev:=Value.bool) _ Q3 Zc ?_;refine Qb<|zD hD ?_
   refine QS 5 36 rfl rfl kA ?_ ?_
   ·
    refine zpi (ek:=Value.int .i64) (ev:=Value.bool) _ Q3 Zc ?_;refine Qb<|zD hD<|qd 36 rfl<|zpi (ek:=Value.int .i64) (ev:=Value.bool) _ Q3 Zc ?_
    refine Qb<|zD hD<|zt0 47 rfl (Qe rfl) hD<|zt0 48 rfl (Qy rfl) hD<|Qo kA<|Qw ?_
    refine Zk _ _ ⟨_,_,rfl,rfl,rfl,?_,?_,?_,?_⟩ (.cons rfl (.cons rfl .nil)) kC
    all_goals rfl
   refine zpi (ek:=Value.int .i64) (ev:=Value.bool) _ Q3 Zc ?_;refine Qb<|zD hD<|qd 5 rfl<|zpi (ek:=Value.int .i64) (ev:=Value.bool) _ Q3 Zc ?_
   refine Qb<|zD hD<|zt0 47 rfl (Qe rfl) hD<|zt0 48 rfl (Qy rfl) hD<|Qo kA<|Qw ?_
   refine Zk _ _ ⟨_,_,rfl,rfl,rfl,?_,?_,?_,?_⟩ (.cons rfl (.cons rfl .nil)) kC
   all_goals rfl
  refine zpi (ek:=Value.int .i64) (ev:=Value.bool) _ Q3 Zc ?_;refine Qb<|zD hD ?_
  refine V0 5 36 41 rfl rfl rfl kA ?_ ?_ ?_
  ·
   refine zpi (ek:=Value.int .i64) (ev:=Value.bool) _ Q3 Zc ?_;refine Qb<|zD hD ?_
   refine QS 36 41 rfl rfl kA ?_ ?_
   ·
    refine zpi (ek:=Value.int .i64) (ev:=Value.bool) _ Q3 Zc ?_;refine Qb<|zD hD<|qd 41 rfl<|zpi (ek:=Value.int .i64) (ev:=Value.bool) _ Q3 Zc ?_
    refine Qb<|zD hD<|zt0 47 rfl (Qe rfl) hD<|zt0 48 rfl (Qy rfl) hD<|Qo kA<|Qw ?_
    refine Zk _ _ ⟨_,_,rfl,rfl,rfl,?_,?_,?_,?_⟩ (.cons rfl (.cons rfl .nil)) kC
    all_goals rfl
   refine zpi (ek:=Value.int .i64) (ev:=Value.bool) _ Q3 Zc ?_;refine Qb<|zD hD<|qd 36 rfl<|zpi (ek:=Value.int .i64) (ev:=Value.bool) _ Q3 Zc ?_
   refine Qb<|zD hD<|zt0 47 rfl (Qe rfl) hD<|zt0 48 rfl (Qy rfl) hD<|Qo kA<|Qw ?_
   refine Zk _ _ ⟨_,_,rfl,rfl,rfl,?_,?_,?_,?_⟩ (.cons rfl (.cons rfl .nil)) kC
   all_goals rfl
  ·
   refine zpi (ek:=Value.int .i64) (ev:=Value.bool) _ Q3 Zc ?_;refine Qb<|zD hD ?_
   refine QS 5 41 rfl rfl kA ?_ ?_
   ·
    refine zpi (ek:=Value.int .i64) (ev:=Value.bool) _ Q3 Zc ?_;refine Qb<|zD hD<|qd 41 rfl<|zpi (ek:=Value.int .i64) (ev:=Value.bool) _ Q3 Zc ?_
    refine Qb<|zD hD<|zt0 47 rfl (Qe rfl) hD<|zt0 48 rfl (Qy rfl) hD<|Qo kA<|Qw ?_
    refine Zk _ _ ⟨_,_,rfl,rfl,rfl,?_,?_,?_,?_⟩ (.cons rfl (.cons rfl .nil)) kC
    all_goals rfl
   refine zpi (ek:=Value.int .i64) (ev:=Value.bool) _ Q3 Zc ?_;refine Qb<|zD hD<|qd 5 rfl<|zpi (ek:=Value.int .i64) (ev:=Value.bool) _ Q3 Zc ?_
   refine Qb<|zD hD<|zt0 47 rfl (Qe rfl) hD<|zt0 48 rfl (Qy rfl) hD<|Qo kA<|Qw ?_
   refine Zk _ _ ⟨_,_,rfl,rfl,rfl,?_,?_,?_,?_⟩ (.cons rfl (.cons rfl .nil)) kC
   all_goals rfl
  refine zpi (ek:=Value.int .i64) (ev:=Value.bool) _ Q3 Zc ?_;refine Qb<|zD hD ?_
  refine QS 5 36 rfl rfl kA ?_ ?_
  ·
   refine zpi (ek:=Value.int .i64) (ev:=Value.bool) _ Q3 Zc ?_;refine Qb<|zD hD<|qd 36 rfl<|zpi (ek:=Value.int .i64) (ev:=Value.bool) _ Q3 Zc ?_
   refine Qb<|zD hD<|zt0 47 rfl (Qe rfl) hD<|zt0 48 rfl (Qy rfl) hD<|Qo kA<|Qw ?_
   refine Zk _ _ ⟨_,_,rfl,rfl,rfl,?_,?_,?_,?_⟩ (.cons rfl (.cons rfl .nil)) kC
   all_goals rfl
  refine zpi (ek:=Value.int .i64) (ev:=Value.bool) _ Q3 Zc ?_;refine Qb<|zD hD<|qd 5 rfl<|zpi (ek:=Value.int .i64) (ev:=Value.bool) _ Q3 Zc ?_
  refine Qb<|zD hD<|zt0 47 rfl (Qe rfl) hD<|zt0 48 rfl (Qy rfl) hD<|Qo kA<|Qw ?_
  refine Zk _ _ ⟨_,_,rfl,rfl,rfl,?_,?_,?_,?_⟩ (.cons rfl (.cons rfl .nil)) kC
  all_goals rfl
 rintro E I' loc' ⟨r,m,rfl,rfl,rfl,hm1,hm2,hm3,hm4⟩;refine zR (zM<|zF YV ?_);refine zV (Qd rfl Qn (fun hg=>by exact Qz.imm h1.out rfl))<|YC _ Q3 Zc rfl rfl rfl rfl (by repeat (first | exact Upd.here | apply Upd.there | apply ZC))<|zN (zR ?_)
 refine zM<|zV (YZ Q3 Zc rfl rfl (fun _=>kS))<|zM<|Qu 2 rfl rfl rfl ?_
 refine zK (Qe rfl)<|zK (YZ Q3 Zc rfl rfl (fun _=>kS))<|QD rfl rfl rfl rfl rfl<|zM<|Qu 6 rfl rfl rfl ?_
 refine zK (Qe rfl)<|zK (YZ Q3 Zc rfl rfl (fun _=>kS))<|QD rfl rfl rfl rfl rfl<|zM<|Qu 10 rfl rfl rfl ?_
 refine zK (Qe rfl)<|zK (YZ Q3 Zc rfl rfl (fun _=>kS))<|QD rfl rfl rfl rfl rfl<|zA (zN (Qs ?_))
 exact zp hIc rfl rfl (by rw [zpB hm1 hm2 hm3 hm4])
end
end Go.Proofs.YtjblkbkmblkgoaaGreat
namespace Go.Proofs.YtjblkbkmblkgoaaGreat.L
section
open Go Go.Kn Go.Proofs
theorem Jp:AgT Tryz.prog 41 5:=.of kA
theorem zoT:QL Tryz.prog 141 0 0:=.of kA
theorem zlg:QL Tryz.prog 141 1 1:=.of kA
theorem zn2:QL Tryz.prog 141 2 2:=.of kA
theorem zl8:QL Tryz.prog 141 3 3:=.of kA
theorem zmr:QL Tryz.prog 141 4 4:=.of kA
theorem JQ:QL Tryz.prog 41 0 0:=.of kA
theorem za9:QL Tryz.prog 41 1 1:=.of kA
theorem zbe:QL Tryz.prog 41 2 2:=.of kA
theorem zba:QL Tryz.prog 41 3 3:=.of kA
theorem zbh:QL Tryz.prog 41 4 4:=.of kA
theorem zbJ:Fun Tryz.prog 135:=.of Tryz.func135 kA kA
theorem ztM:Fun Tryz.prog 144:=.of Tryz.func144 kA kA
theorem zbD:Fun Tryz.prog 160:=.of Tryz.func160 kA kA
theorem zb5:Fun Tryz.prog 190:=.of Tryz.func190 kA kA
theorem zcA:Fun Tryz.prog 229:=.of Tryz.func229 kA kA
theorem zyF:Fun Tryz.prog 95:=.of Tryz.func95 kA kA
theorem Zc:KL (α:=Int) Tryz.prog 3 (.int .i64):=zhi kA
theorem mixed:Tryz.prog.follows .mixedOrders=true:=kA
theorem Qn:ScT Tryz.prog 3:=.of kA
theorem Jj:SlT Tryz.prog 63 41 5:=.of kA
theorem zaz:SzT Tryz.prog 41 5:=.of kA
theorem zpY:Tryz.prog.underlying 3=some (.int .i64):=kA
theorem zhz:Vp Tryz.prog 41 (.agg #[(.int .i64 0),(.int .i64 0),(.int .i64 0),(.int .i64 0),(.int .i64 0)]):=.of kA
theorem Z7 (I:Qv)(n lo hi:Int):ZF Tryz.prog 160 [.int .i64 n,.int .i64 lo,.int .i64 hi] I (.bool (within n lo hi)):=by
 intro g H w hw;refine qe Tryz.func160 Tryz.ntmps160 hw ?_;refine zR (zA<|zN (zR ?_));refine zM ?_;refine zM<|zC ?_
 refine zM ?_;refine Qu 3 rfl rfl rfl ?_;refine zK (Qe rfl) ?_;refine zK (Qe rfl) ?_;refine zK (QE rfl rfl rfl) ?_;exact QD rfl rfl rfl rfl rfl<|zA (zN (Qs<|zr rfl rfl kU))
theorem Yn (I:Qv)(n lo hi:Int):ZF Tryz.prog 190 [.int .i64 n,.int .i64 lo,.int .i64 hi] I (.bool (within n lo hi)):=by
 intro g H w hw;refine qe Tryz.func190 Tryz.ntmps190 hw ?_;refine zR (zA<|zN (zR ?_));refine zM ?_;refine zM<|zC ?_
 refine zM ?_;refine Qu 3 rfl rfl rfl ?_;refine zK (Qe rfl) ?_;refine zK (Qe rfl) ?_;refine zK (QE rfl rfl rfl) ?_;exact QD rfl rfl rfl rfl rfl<|zA (zN (Qs<|zr rfl rfl kU))
theorem zg2 (I:Qv)(x:Ls):ZF Tryz.prog 95 [encA x] I (.bool (zaI x)):=by
 intro g H w hw;refine qe Tryz.func95 Tryz.ntmps95 hw ?_;refine zR<|QQ rfl rfl rfl (fun b_1=>zA<|zN (zR ?_))
 refine zF zoT ?_;refine zL Qn<|qcV (vs:=[_,_,_]) rfl zbD (Z7 I _ _ _)<|zM<|Qu 3 rfl rfl rfl ?_
 refine zK (Qa rfl zlg) ?_;refine zK (Qd rfl Qn (fun hg=>by exact Qz.h0 rfl))<|qg (vs:=[_,_,_]) rfl zbD (fun hg=>Z7 I _ _ _)<|QD rfl rfl rfl rfl rfl<|zM<|Qu 8 rfl rfl rfl ?_
 refine zK (Qa rfl zn2) ?_;refine zK (Qd rfl Qn (fun hg=>by exact Qz.h0 rfl))<|qg (vs:=[_,_,_]) rfl zbD (fun hg=>Z7 I _ _ _)<|QD rfl rfl rfl rfl rfl<|zM<|Qu 13 rfl rfl rfl ?_
 refine zK (Qa rfl zl8) ?_;refine zK (Qd rfl Qn (fun hg=>by exact Qz.h0 rfl))<|qg (vs:=[_,_,_]) rfl zbD (fun hg=>Z7 I _ _ _)<|QD rfl rfl rfl rfl rfl<|zM<|Qu 18 rfl rfl rfl ?_
 refine zK (Qa rfl zmr) ?_;exact zK (Qd rfl Qn (fun hg=>by exact Qz.h0 rfl))<|qg (vs:=[_,_,_]) rfl zbD (fun hg=>Z7 I _ _ _)<|QD rfl rfl rfl rfl rfl<|zA (zN (Qs<|zr rfl rfl kU))
theorem zd8 (I:Qv)(x:Ls):ZF Tryz.prog 144 [encA x] I (.bool (zaI x)):=by
 intro g H w hw;refine qe Tryz.func144 Tryz.ntmps144 hw ?_;refine zR<|QQ rfl rfl rfl (fun b_1=>zA<|zN (zR ?_))
 refine zF JQ ?_;refine zL Qn<|qcV (vs:=[_,_,_]) rfl zb5 (Yn I _ _ _)<|zM<|Qu 3 rfl rfl rfl ?_
 refine zK (Qa rfl za9) ?_;refine zK (Qd rfl Qn (fun hg=>by exact Qz.h0 rfl))<|qg (vs:=[_,_,_]) rfl zb5 (fun hg=>Yn I _ _ _)<|QD rfl rfl rfl rfl rfl<|zM<|Qu 8 rfl rfl rfl ?_
 refine zK (Qa rfl zbe) ?_;refine zK (Qd rfl Qn (fun hg=>by exact Qz.h0 rfl))<|qg (vs:=[_,_,_]) rfl zb5 (fun hg=>Yn I _ _ _)<|QD rfl rfl rfl rfl rfl<|zM<|Qu 13 rfl rfl rfl ?_
 refine zK (Qa rfl zba) ?_;refine zK (Qd rfl Qn (fun hg=>by exact Qz.h0 rfl))<|qg (vs:=[_,_,_]) rfl zb5 (fun hg=>Yn I _ _ _)<|QD rfl rfl rfl rfl rfl<|zM<|Qu 18 rfl rfl rfl ?_
 refine zK (Qa rfl zbh) ?_;exact zK (Qd rfl Qn (fun hg=>by exact Qz.h0 rfl))<|qg (vs:=[_,_,_]) rfl zb5 (fun hg=>Yn I _ _ _)<|QD rfl rfl rfl rfl rfl<|zA (zN (Qs<|zr rfl rfl kU))
theorem zlH (I:Qv)(x:Int):ZF Tryz.prog 229 [.int .i64 x] I (.bool false):=by
 intro g H w hw;refine qe Tryz.func229 Tryz.ntmps229 hw ?_;refine zR (zA<|zN (zR ?_));refine zM ?_;refine zM<|zC<|zA (zN (Qs ?_))
 exact zr rfl rfl kJ
def zgz (x y:Int):Int:=if x<y then -1 else if x>y then 1 else 0
theorem ztj (I:Qv)(x y:Int):ZF Tryz.prog 183 [.int .i64 x,.int .i64 y] I (.int .i64 (zgz x y)):=by
 intro g H w hw;refine qe Tryz.func183 Tryz.ntmps183 hw ?_;refine zR (zA<|zN (zR ?_));refine zM<|qcV (vs:=[_]) rfl zcA (zlH I _)<|zA<|zN (zR ?_)
 refine zM<|qcV (vs:=[_]) rfl zcA (zlH I _)<|zA (zN (Qm (zR<|zM (zN ?_))))
 refine zI ?_ ?_<;>intro hc11
 ·
  cases hc11
 refine Qp (Qc (Qm (zR (zM (zN ?_)))));refine zI ?_ ?_<;>intro hc13
 ·
  cases hc13
 refine Qp (Qc (Qm (zR (zM ?_))));refine zM<|zC (zN ?_)
 refine zI ?_ ?_<;>intro hc16
 ·
  refine zR (zA (zN (Qs (Qf ?_))));exact zr rfl rfl (by unfold zgz;first | (rw [if_pos (by simpa using hc16)]) | (rw [if_neg (by simpa using hc16),if_pos (by simpa using hc19)]) | (rw [if_neg (by simpa using hc16),if_neg (by simpa using hc19)]))
 refine Qp (Qc (Qm (zR (zM ?_))));refine zM<|zC (zN ?_)
 refine zI ?_ ?_<;>intro hc19
 ·
  refine zR (zA (zN (Qs (Qf ?_))));exact zr rfl rfl (by unfold zgz;first | (rw [if_pos (by simpa using hc16)]) | (rw [if_neg (by simpa using hc16),if_pos (by simpa using hc19)]) | (rw [if_neg (by simpa using hc16),if_neg (by simpa using hc19)]))
 refine Qp (Qc (zR (zA (zN (Qs ?_)))));exact zr rfl rfl (by unfold zgz;first | (rw [if_pos (by simpa using hc16)]) | (rw [if_neg (by simpa using hc16),if_pos (by simpa using hc19)]) | (rw [if_neg (by simpa using hc16),if_neg (by simpa using hc19)]))
variable{I:Qv}{av:Option Addr}{n c:Nat}{xs:List Ls}
theorem w_rcheck (hS:Sl I 5 encL av n c xs)(hn:n≤100000):ZF Tryz.prog 76 [.slice av n c] I (.int .i64 (chk xs)):=by
 intro g H w hw;refine qe Tryz.func76 Tryz.ntmps76 hw ?_;refine zR (zA (zN (Qm (zR ?_))));refine zM<|zQ Jj<|zC (zN ?_)
 refine zI ?_ ?_<;>intro hc6
 ·
  have h6:xs.length>4096:=(by rw [hS.len];simp at hc6;omega);refine zR (zA (zN (Qs (Qf ?_))))
  first
  | exact zr rfl rfl (by unfold chk;rw [if_pos h6])
 have h6:¬xs.length>4096:=(by rw [hS.len];simp at hc6;omega);refine Qp (Qc (Qm (zR (zA (zN (Qr<|zU [(0,_)] (fun T L0 mz E I' loc'=>∃ (k:Nat),mz=n-k∧E=(3,.int .i64 k)::T∧I=I'∧L0=loc'∧k≤n∧(List.range k).all (ckP xs)=true) ?_ (h:=⟨0,rfl,rfl,rfl,rfl,Nat.zero_le _,rfl⟩)))))));rintro mz E I' loc' ⟨k,rfl,rfl,rfl,rfl,hk,hall⟩;refine Qm (zR (zM<|zM<|zQ Jj<|zC (zN ?_)));refine zI ?_ ?_<;>intro hc10
 ·
  have hlt_k:k<n:=(by have h:=hc10;simp at h;omega);obtain ⟨x,hx⟩:=hS.at hlt_k;refine Qp (Qc (Qm (Qr (Qm<|Kq mixed kA<|zq (Qe rfl)<|zq (Qe rfl)<|zq (QC rfl rfl Jj kH (fun hg=>kB))<|zq (Qg rfl Jp (fun hg=>by exact zCB hS hx) rfl)<|Wh (cap:=[]) (vs:=[_]) rfl rfl ztM (zd8 I _) rfl rfl<|zq (Zy rfl)<|zq (Qe rfl)<|Vx 6 rfl rfl rfl<|zj (Qe rfl)<|zj (QE rfl rfl rfl) ?_))));refine zj (Qe rfl)<|Vw 9 rfl rfl rfl<|zk (Qe rfl)<|zk (Qe rfl)<|zk (QC rfl rfl Jj kH (fun hg=>kB))<|zk (Qa rfl JQ)<|zk (Qd rfl Qn (fun hg=>by exact zCC hS hx rfl))<|zk (Qe rfl)<|zk (Qe rfl)<|zk (Yr rfl rfl rfl (fun _=>kB))<|zk (QC rfl rfl Jj kH (fun hg=>by (simp [Z6] at hg;omega)))<|zk (Qa rfl JQ) ?_
  refine zk (Qd rfl Qn (fun hg=>by exact zCC (k:=((k:Int)-1).toNat) hS (KR (d:=zeroL) hS.len kB) rfl))<|zk (QE rfl rfl rfl)<|zcr rfl rfl rfl (.some rfl rfl rfl rfl gbf) rfl rfl<|KY rfl rfl rfl rfl rfl<|Kt<|Qc ?_
  refine zI ?_ ?_<;>intro hc36
  ·
   refine zR (zA (zN (Qs (Qj (Qf (Qf (Qj<|Qf ?_)))))))
   first
   | exact zr rfl rfl (by unfold chk ckB;rw [if_neg h6,VY (k:=k) (by rw [hS.len];exact hlt_k) (by have:=Vu (d:=zeroL) hx;unfold ckP zpD;rw [this,hc36];rfl)];rfl)
  refine Qp (Qi (Qc (Qh (zM ?_))));refine zB<|zA (Qb ?_)
  exact zm (h:=⟨n-(k+1),kB,k+1,rfl,rfl,rfl,rfl,kB,VH hall (by have:=Vu (d:=zeroL) hx;unfold ckP zpD;rw [this,hc36];rfl)⟩)
 have hge_k:n≤k:=(by have h:=hc10;simp at h;omega);refine Q6 (Ql (Ql (Qq (Qc (zR (zA (zN<|Qs ?_)))))))
 first
 | exact zr rfl rfl (by unfold chk ckB;rw [if_neg h6,hS.len,show n=k by omega,hall];rfl)
variable{x:Ls}
theorem zqe (hx:xs[0]? =some x):ckP xs 0= !(!zaI x||decide (x.no≤ -1)):=by
 unfold ckP;rw [Vu hx];rw [show decide (((0:Nat):Int)>0)=false from rfl,Bool.false_and,Bool.or_false]
 cases h:zaI x with
 | false=>rfl
 | true=>
  have:0≤x.no:=by
   unfold zaI within at h;simp only [Bool.and_eq_true,decide_eq_true_eq] at h;omega
  rw [show decide (x.no≤ -1)=false from decide_eq_false kB];rfl
variable{k:Nat}
theorem zu7 {y:Ls}(hx:xs[k+1]? =some x)(hy:xs[k]? =some y):ckP xs (k+1)= !(!zaI x||decide (x.no≤y.no)):=by
 unfold ckP zpD;rw [Vu hx,show (((k+1:Nat):Int)-1).toNat=k by omega,Vu hy,show decide (((k+1:Nat):Int)>0)=true from decide_eq_true kB,Bool.true_and]
def zt8 (xs:List Ls)(k:Nat)(l:Int):Prop:=(k=0→l= -1)∧∀ y,xs[k-1]? =some y→k≠0→l=y.no
variable{l:Int}
theorem zzp (hx:xs[k]? =some x)(hl:zt8 xs k l):ckP xs k= !(!zaI x||decide (x.no≤l)):=by
 cases k with
 | zero=>rw [hl.1 rfl];exact zqe hx
 | succ k=>
  have hk:=(List.getElem?_eq_some_iff.1 hx).1;have hy:xs[k]? =some (xs[k]' kB):=List.getElem?_eq_getElem _;rw [hl.2 _ (by rw [Nat.add_sub_cancel];exact hy) kB];exact zu7 hx hy
theorem zn5 (hx:xs[k]? =some x):zt8 xs (k+1) x.no:=⟨fun h=>kB,fun y hy _=>by simp at hy;rw [hx] at hy;cases hy;rfl⟩
theorem w_check (hS:Sl I 5 encL av n c xs)(hn:n≤100000):ZF Tryz.prog 38 [.slice av n c] I (.int .i64 (chk xs)):=by
 intro g H w hw;refine qe Tryz.func38 Tryz.ntmps38 hw ?_;refine zR (zA (zN (Qm (zR ?_))));refine zM<|zQ Jj<|zC (zN ?_)
 refine zI ?_ ?_<;>intro hc8
 ·
  have h6:xs.length>4096:=(by rw [hS.len];simp at hc8;omega);refine zR (zA (zN (Qs (Qf ?_))))
  first
  | exact zr rfl rfl (by unfold chk;rw [if_pos h6])
 have h6:¬xs.length>4096:=(by rw [hS.len];simp at hc8;omega);refine Qp (Qc (zR (zA (zN (Qm (zR ?_))))));refine zM<|zQ Jj<|zM (zN (Qr ?_))
 refine zU [(9,_),(10,_)] (fun T L0 mz E I' loc'=>∃ (k:Nat) (l:Int),mz=n-k∧E=(3,.int .i64 l)::(11,.int .i64 k)::T∧I=I'∧L0=loc'∧k≤n∧(List.range k).all (ckP xs)=true∧zt8 xs k l) ?_ (h:=⟨0, -1,rfl,rfl,rfl,rfl,Nat.zero_le _,rfl,⟨fun _=>rfl,fun _ _ h=>absurd rfl h⟩⟩);rintro mz E I' loc' ⟨k,l,rfl,rfl,rfl,rfl,hk,hall,hl⟩;refine zR (zC (zN (Qm ?_)));refine zI ?_ ?_<;>intro hc12
 ·
  have hlt_k:k<n:=(by have h:=hc12;simp at h;omega);obtain ⟨x,hx⟩:=hS.at hlt_k;refine Qp (Qc (Qm (Qr (zR<|zV (QC rfl rfl Jj kH (fun hg=>kB))<|zV (Qg rfl Jp (fun hg=>by exact zCB hS hx) rfl)<|Qt zhz rfl rfl (fun b_5=>zh zaz<|zN (Qm (zR ?_)))))));refine zV (Qg rfl Jp (fun hg=>by exact Cells.g0) rfl)<|qcV (vs:=[_]) rfl zyF (zg2 I _)<|zO<|zM<|QK 3 rfl rfl rfl ?_
  refine zJ (Qa rfl JQ)<|zJ (Qd rfl Qn (fun hg=>by exact Qz.h0 rfl))<|zJ (Qe rfl)<|zJ (QE rfl rfl rfl)<|Zf rfl rfl rfl rfl rfl<|zN ?_
  refine zI ?_ ?_<;>intro hc23
  ·
   refine zR (zA (zN (Qs (Qf (Qj (Qf (Qf<|Qj (Qf ?_))))))))
   first
   | exact zr rfl rfl (by unfold chk ckB;rw [if_neg h6,VY (k:=k) (by rw [hS.len];exact hlt_k) (by rw [zzp hx hl,hc23];rfl)];rfl)
  refine Qp (Qc (Qh<|zF JQ ?_));refine zL Qn<|zA (Qb (Qi (Qc (Qh<|zB<|zM (Qb ?_)))))
  exact zm (h:=⟨n-(k+1),kB,k+1,x.no,rfl,rfl,rfl,rfl,kB,VH hall (by rw [zzp hx hl,hc23];rfl),zn5 hx⟩)
 have hge_k:n≤k:=(by have h:=hc12;simp at h;omega);refine Q6 (Ql (Ql (Qq (Qc (zR (zA (zN<|Qs ?_)))))))
 first
 | exact zr rfl rfl (by unfold chk ckB;rw [if_neg h6,hS.len,show n=k by omega,hall];rfl)
end
end Go.Proofs.YtjblkbkmblkgoaaGreat.L
namespace Go.Proofs.YtjblkbkmblkgoaaGreat.S
section
open Go Go.Kn Go.Proofs
theorem YE:AgT Tryz.prog 43 11:=.of kA
theorem XL:EqT Tryz.prog 43 [.int,.int,.int,.int,.int,.int,.str,.str,.int,.int,.int]:=⟨kA,kA,kA,kA⟩
theorem YT:QL Tryz.prog 43 0 0:=.of kA
theorem V5:QL Tryz.prog 43 1 1:=.of kA
theorem YG:QL Tryz.prog 43 10 10:=.of kA
theorem JR:QL Tryz.prog 43 2 2:=.of kA
theorem KA:QL Tryz.prog 43 3 3:=.of kA
theorem Kw:QL Tryz.prog 43 4 4:=.of kA
theorem Vm:QL Tryz.prog 43 5 5:=.of kA
theorem JO:QL Tryz.prog 43 6 6:=.of kA
theorem JU:QL Tryz.prog 43 7 7:=.of kA
theorem KC:QL Tryz.prog 43 8 8:=.of kA
theorem JN:QL Tryz.prog 43 9 9:=.of kA
theorem ztm:Fun Tryz.prog 100:=.of Tryz.func100 kA kA
theorem zai:Fun Tryz.prog 101:=.of Tryz.func101 kA kA
theorem zui:Fun Tryz.prog 149:=.of Tryz.func149 kA kA
theorem zuA:Fun Tryz.prog 164:=.of Tryz.func164 kA kA
theorem zmA:Fun Tryz.prog 165:=.of Tryz.func165 kA kA
theorem zos:Fun Tryz.prog 166:=.of Tryz.func166 kA kA
theorem zv1:Fun Tryz.prog 167:=.of Tryz.func167 kA kA
theorem KQ:Fun Tryz.prog 193:=.of Tryz.func193 kA kA
theorem zhD:Fun Tryz.prog 194:=.of Tryz.func194 kA kA
theorem zof:Fun Tryz.prog 195:=.of Tryz.func195 kA kA
theorem zvd:Fun Tryz.prog 196:=.of Tryz.func196 kA kA
theorem Zc:KL (α:=Int) Tryz.prog 3 (.int .i64):=zhi kA
theorem mixed:Tryz.prog.follows .mixedOrders=true:=kA
theorem Wb:MpT Tryz.prog 151 3 43 (.agg #[(.int .i64 0),(.int .i64 0),(.int .i64 0),(.int .i64 0),(.int .i64 0),(.int .i64 0),(.string ⟨#[]⟩),(.string ⟨#[]⟩),(.int .i64 0),(.int .i64 0),(.int .i64 0)]):=⟨kA,.of kA⟩
theorem zct:MpT Tryz.prog 152 3 154 .nilFunc:=⟨kA,.of kA⟩
theorem WM:PlT Tryz.prog 43 #[(0,1),(1,1),(2,1),(3,1),(4,1),(5,1),(6,1),(7,1),(8,1),(9,1),(10,1)] (.agg #[(.int .i64 0),(.int .i64 0),(.int .i64 0),(.int .i64 0),(.int .i64 0),(.int .i64 0),(.string ⟨#[]⟩),(.string ⟨#[]⟩),(.int .i64 0),(.int .i64 0),(.int .i64 0)]):=⟨.of kA,kA,fun w=>kA⟩
theorem Qn:ScT Tryz.prog 3:=.of kA
theorem VS:ScT Tryz.prog 9:=.of kA
theorem Z0:SlT Tryz.prog 65 43 11:=.of kA
theorem Uo:SzT Tryz.prog 43 11:=.of kA
theorem zv4:Tryz.prog.underlying 9=some .string:=kA
theorem za2:Vp Tryz.prog 43 (.agg #[(.int .i64 0),(.int .i64 0),(.int .i64 0),(.int .i64 0),(.int .i64 0),(.int .i64 0),(.string ⟨#[]⟩),(.string ⟨#[]⟩),(.int .i64 0),(.int .i64 0),(.int .i64 0)]):=.of kA
theorem Z7 (I:Qv)(n lo hi:Int):ZF Tryz.prog 101 [.int .i64 n,.int .i64 lo,.int .i64 hi] I (.bool (within n lo hi)):=by
 intro g H w hw;refine enter Tryz.func101 rfl Tryz.ntmps101 rfl hw<|zR<|zA<|zN (zR ?_)
 refine zM ?_;refine zM<|zC<|zM<|Qu 3 rfl rfl rfl ?_
 refine zK (Qe rfl) ?_;refine zK (Qe rfl) ?_;refine zK (QE rfl rfl rfl) ?_;exact QD rfl rfl rfl rfl rfl<|zA<|zN<|Qs<|QA rfl rfl (fun w hw=>⟨by rfl,hw.drop⟩)
theorem Yn (I:Qv)(n lo hi:Int):ZF Tryz.prog 193 [.int .i64 n,.int .i64 lo,.int .i64 hi] I (.bool (within n lo hi)):=by
 intro g H w hw;refine enter Tryz.func193 rfl Tryz.ntmps193 rfl hw<|zR<|zA<|zN (zR ?_)
 refine zM ?_;refine zM<|zC<|zM<|Qu 3 rfl rfl rfl ?_
 refine zK (Qe rfl) ?_;refine zK (Qe rfl) ?_;refine zK (QE rfl rfl rfl) ?_;refine QD rfl rfl rfl rfl rfl<|zA<|zN<|Qs ?_
 exact QA rfl rfl (fun w hw=>⟨by simp [within,Bool.and_comm],hw.drop⟩)
theorem zmQ (I:Qv)(x:Rt):ZF Tryz.prog 165 [encA x] I (.bool (zl5 x)):=by
 intro g H w hw;refine enter Tryz.func165 rfl Tryz.ntmps165 rfl hw<|zR<|QQ rfl rfl rfl (fun b_1=>zA<|zN (zR ?_))
 refine zF KC ?_;refine zV (Qd rfl Qn (fun hg=>by exact Qz.h0 rfl))<|zC<|zM<|Qu 3 rfl rfl rfl ?_
 refine zK (Qa rfl KC) ?_;refine zK (Qd rfl Qn (fun hg=>by exact Qz.h0 rfl))<|zK (Qa rfl JN) ?_
 refine zK (Qd rfl Qn (fun hg=>by exact Qz.h0 rfl))<|zK (QE rfl rfl rfl) ?_
 refine QD rfl rfl rfl rfl rfl<|zM<|Qu 10 rfl rfl rfl ?_
 refine zK (Qa rfl JN) ?_;refine zK (Qd rfl Qn (fun hg=>by exact Qz.h0 rfl))<|zK (QE rfl rfl rfl) ?_
 refine QD rfl rfl rfl rfl rfl<|zM<|Qu 15 rfl rfl rfl ?_
 refine zK (Qa rfl JR) ?_;exact zK (Qd rfl Qn (fun hg=>by exact Qz.h0 rfl))<|Yd (cap:=[]) (vs:=[_,_,_]) rfl rfl zai (fun hg=>Z7 I _ _ _) (.some rfl rfl rfl rfl gbt) rfl rfl<|QD rfl rfl rfl rfl rfl<|zA<|zN<|Qs<|QA rfl rfl (fun w hw=>⟨by rfl,hw.drop⟩)
theorem zdr (I:Qv)(x:Rt)(m:Value):ZF Tryz.prog 166 [encA x,m] I (.bool (heldF x)):=by
 intro g H w hw;refine enter Tryz.func166 rfl Tryz.ntmps166 rfl hw<|zR<|QQ rfl rfl rfl (fun b_2=>zA<|zN (zR ?_))
 refine zF YT ?_;refine zV (Qd rfl Qn (fun hg=>by exact Qz.h0 rfl))<|zF V5 ?_
 refine zV (Qd rfl Qn (fun hg=>by exact Qz.h0 rfl))<|zF JR ?_
 refine zV (Qd rfl Qn (fun hg=>by exact Qz.h0 rfl))<|zF KA ?_
 refine zV (Qd rfl Qn (fun hg=>by exact Qz.h0 rfl))<|zF Kw ?_
 refine zV (Qd rfl Qn (fun hg=>by exact Qz.h0 rfl))<|zF KC ?_
 refine zV (Qd rfl Qn (fun hg=>by exact Qz.h0 rfl))<|zF JN ?_
 refine zV (Qd rfl Qn (fun hg=>by exact Qz.h0 rfl))<|zF YG ?_
 refine zV (Qd rfl Qn (fun hg=>by exact Qz.h0 rfl))<|zV (QF (ps:=[(0,_),(1,_),(2,_),(3,_),(4,_),(8,_),(9,_),(10,_)]) [_,_,_,_,_,_,_,_,_,_,_] WM rfl rfl)<|Qt za2 rfl rfl (fun b_5=>VV rfl rfl Uo rfl rfl rfl rfl kT<|zN (zR<|zV (Qg rfl YE (fun hg=>by exact Cells.g1) rfl)<|zV (Qg rfl YE (fun hg=>by exact Cells.g0) rfl)<|zV (U6 rfl rfl XL rfl)<|zM<|Qu 3 rfl rfl rfl<|zK (Qg rfl YE (fun hg=>by exact Cells.g1) rfl)<|Yd (cap:=[]) (vs:=[_]) rfl rfl zmA (fun hg=>zmQ I x) (.some rfl rfl rfl rfl gbt) rfl rfl ?_))
 refine QD rfl rfl rfl rfl rfl<|zM<|Qu 7 rfl rfl rfl ?_
 refine zK (Qa rfl KA) ?_;refine zK (Qd rfl Qn (fun hg=>by exact Qz.h1 rfl))<|Yd (cap:=[]) (vs:=[_,_,_]) rfl rfl zai (fun hg=>Z7 I _ _ _) (.some rfl rfl rfl rfl gbt) rfl rfl<|QD rfl rfl rfl rfl rfl<|zM<|Qu 12 rfl rfl rfl ?_
 refine zK (Qa rfl Kw) ?_;exact zK (Qd rfl Qn (fun hg=>by exact Qz.h1 rfl))<|Yd (cap:=[]) (vs:=[_,_,_]) rfl rfl zai (fun hg=>Z7 I _ _ _) (.some rfl rfl rfl rfl gbt) rfl rfl<|QD rfl rfl rfl rfl rfl<|zA<|zN<|Qs<|QA rfl rfl (fun w hw=>⟨by rfl,hw.drop⟩)
theorem zz3 (I:Qv)(x:Rt)(m:Value):ZF Tryz.prog 164 [encA x,m] I (.bool (billF x)):=by
 intro g H w hw;refine enter Tryz.func164 rfl Tryz.ntmps164 rfl hw<|zR<|QQ rfl rfl rfl (fun b_2=>zA<|zN (zR ?_))
 refine zF YT ?_;refine zV (Qd rfl Qn (fun hg=>by exact Qz.h0 rfl))<|zF V5 ?_
 refine zV (Qd rfl Qn (fun hg=>by exact Qz.h0 rfl))<|zF JR ?_
 refine zV (Qd rfl Qn (fun hg=>by exact Qz.h0 rfl))<|zF JO ?_
 refine zV (Qd rfl VS (fun hg=>by exact Qz.h0 rfl))<|zF JU ?_
 refine zV (Qd rfl VS (fun hg=>by exact Qz.h0 rfl))<|zF KC ?_
 refine zV (Qd rfl Qn (fun hg=>by exact Qz.h0 rfl))<|zF JN ?_
 refine zV (Qd rfl Qn (fun hg=>by exact Qz.h0 rfl))<|zF YG ?_
 refine zV (Qd rfl Qn (fun hg=>by exact Qz.h0 rfl))<|zV (QF (ps:=[(0,_),(1,_),(2,_),(6,_),(7,_),(8,_),(9,_),(10,_)]) [_,_,_,_,_,_,_,_,_,_,_] WM rfl rfl)<|Qt za2 rfl rfl (fun b_5=>VV rfl rfl Uo rfl rfl rfl rfl kT<|zN (zR<|zV (Qg rfl YE (fun hg=>by exact Cells.g1) rfl)<|zV (Qg rfl YE (fun hg=>by exact Cells.g0) rfl)<|zV (U6 rfl rfl XL rfl)<|zM<|Qu 3 rfl rfl rfl<|zK (Qg rfl YE (fun hg=>by exact Cells.g1) rfl)<|Yd (cap:=[]) (vs:=[_]) rfl rfl zmA (fun hg=>zmQ I x) (.some rfl rfl rfl rfl gbt) rfl rfl ?_))
 refine QD rfl rfl rfl rfl rfl<|zM<|Qu 7 rfl rfl rfl ?_
 refine zK (Qa rfl JO) ?_;refine zK (Qd rfl VS (fun hg=>by exact Qz.h1 rfl))<|zK (U9 rfl zv4)<|Yd (cap:=[]) (vs:=[_,_,_]) rfl rfl zai (fun hg=>Z7 I _ _ _) (.some rfl rfl rfl rfl gbt) rfl rfl<|QD rfl rfl rfl rfl rfl<|zM<|Qu 13 rfl rfl rfl ?_
 refine zK (Qa rfl JU) ?_;exact zK (Qd rfl VS (fun hg=>by exact Qz.h1 rfl))<|zK (U9 rfl zv4)<|Yd (cap:=[]) (vs:=[_,_,_]) rfl rfl zai (fun hg=>Z7 I _ _ _) (.some rfl rfl rfl rfl gbt) rfl rfl<|QD rfl rfl rfl rfl rfl<|zA<|zN<|Qs<|QA rfl rfl (fun w hw=>⟨by rfl,hw.drop⟩)
theorem zkQ (I:Qv)(x:Rt):ZF Tryz.prog 194 [encA x] I (.bool (zkc x)):=by
 intro g H w hw;refine enter Tryz.func194 rfl Tryz.ntmps194 rfl hw<|zR<|QQ rfl rfl rfl (fun b_1=>zA<|zN (zR ?_))
 refine zF KC ?_;refine zV (Qd rfl Qn (fun hg=>by exact Qz.h0 rfl))<|zF JN ?_
 refine zV (Qd rfl Qn (fun hg=>by exact Qz.h0 rfl))<|VW (cap:=[]) (vs:=[_,_,_]) rfl rfl KQ (Yn I _ _ _) rfl rfl<|zM<|Qu 5 rfl rfl rfl ?_
 refine zK (Qa rfl JN) ?_;refine zK (Qd rfl Qn (fun hg=>by exact Qz.h0 rfl))<|zK (QE rfl rfl rfl) ?_
 exact QD rfl rfl rfl rfl rfl<|zA<|zN<|Qs<|QA rfl rfl (fun w hw=>⟨by rfl,hw.drop⟩)
theorem zsn (I:Qv)(s:ByteArray):ZF Tryz.prog 195 [.string s] I (.bool (zkd s)):=by
 intro g H w hw;refine enter Tryz.func195 rfl Tryz.ntmps195 rfl hw<|zR<|zA<|zN (zR ?_)
 exact zM<|zV (U9 rfl zv4)<|VW (cap:=[]) (vs:=[_,_,_]) rfl rfl KQ (Yn I _ _ _) rfl rfl<|zA<|zN<|Qs<|QA rfl rfl (fun w hw=>⟨by rfl,hw.drop⟩)
end
end Go.Proofs.YtjblkbkmblkgoaaGreat.S
