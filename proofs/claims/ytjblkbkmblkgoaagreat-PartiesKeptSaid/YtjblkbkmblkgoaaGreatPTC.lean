/- partiesKept_holds, part C of the proof: what its theorems say holds without further conditions. -/
import Derived.Lib.Hide
import Derived.Shelf.SlSortCmp.WholeK
import Derived.Test.YtjblkbkmblkgoaaGreatProg
import Derived.KernelRfl
import Derived.Test.YtjblkbkmblkgoaaGreatPTB
namespace Go.Proofs.YtjblkbkmblkgoaaGreat
section
open Go Go.Kn Go.Proofs
theorem XM:ArT Tryz.prog 317 4 4 1:=.of (by kernel_rfl)
theorem zlk:Fun Tryz.prog 248:=.of Tryz.func248 (by kernel_rfl) (by kernel_rfl)
theorem zfW:SzT Tryz.prog 317 4:=.of (by kernel_rfl)
theorem zcp:Y7 Tryz.prog 317 (.agg #[(.bool false),(.bool false),(.bool false),(.bool false)]):=.of (by kernel_rfl)
theorem zqc (n:Int):zxf (.int n):=by
 intro I bw bp hW v xs L hO cv hx hok hb
 cases hx;exact znG hO (by omega) hok
theorem zlI (s:List Nat):zxf (.text s):=by
 intro I bw bp hW v xs L hO cv hx hok hb
 cases hx;exact zjs hO (by simp [Va.enc] at hb;omega) hok.1
theorem zcF (d:Nat):∀ x,Va.depth x≤d→zxf x:=by
 induction d with
 | zero=>
  intro x hd
  cases x with
  | int n=>exact zqc n
  | text s=>exact zlI s
  | list l=>simp [Va.depth] at hd
 | succ d ih=>
  intro x hd
  cases x with
  | int n=>exact zqc n
  | text s=>exact zlI s
  | list l=>
   intro I bw bp hW v xs L hO cv hx hok hb
   cases hx with
   | list hS hl hr=>exact zcb hW hO hS hl hr (fun k y hy=>ih y (JB (l:=l) (by simp only [Va.depth] at hd;omega) hy)) hok.2 hb
def zuV (x:Va):Prop:=∀ {I:Qt} {cv:Vc} (_hx:VaR I x cv) (_hd:Va.depth x≤1000) (_hok:Va.ok x),ZA Tryz.prog 248 [.agg (Q7 cv).toArray] I (.tuple #[.int .i64 (Va.depth x:Nat),.bool true])
theorem zdZ {I:Qt}(n:Int):ZA Tryz.prog 248 [.agg #[.int .i64 1,.int .i64 n,.string ⟨#[]⟩,.slice none 0 0]] I (.tuple #[.int .i64 0,.bool true]):=by
 intro g H w hw
 refine qe Tryz.func248 Tryz.ntmps248 hw ?_
 have hIc:=zzm I
 refine zR ?_
 refine QR rfl rfl rfl (fun b_1=>?_)
 refine zA ?_
 refine zA ?_
 refine zN (zR ?_)
 refine zF Yt ?_
 refine zL VI ?_
 refine zV (Ki rfl rfl rfl) ?_
 refine zM ?_
 refine Qp 3 rfl rfl rfl ?_
 refine zK (Qa rfl QU) ?_
 refine zK (Qc rfl Zp (fun hg=>by exact QA.h0 rfl)) ?_
 refine zK (Q4 rfl Z7) ?_
 refine zK (QD rfl rfl rfl) ?_
 refine Qy rfl rfl rfl rfl rfl ?_
 refine zF YT ?_
 refine zL Ql ?_
 refine zC ?_
 refine zM ?_
 refine Qp 12 rfl rfl rfl ?_
 refine zK (Qa rfl QU) ?_
 refine zK (Qc rfl Zp (fun hg=>by exact QA.h0 rfl)) ?_
 refine zK (Q4 rfl Z7) ?_
 refine zK (QD rfl rfl rfl) ?_
 refine Qy rfl rfl rfl rfl rfl ?_
 refine zF YT ?_
 refine zL Ql ?_
 refine zC ?_
 refine zM ?_
 refine Qp 21 rfl rfl rfl ?_
 refine zK (Qa rfl Yt) ?_
 refine zK (Qc rfl VI (fun hg=>by exact QA.h0 rfl)) ?_
 refine zK (Ki rfl rfl rfl) ?_
 refine Qy rfl rfl rfl rfl rfl ?_
 refine zV (Vn (ps:=[(1,_),(2,_),(3,_)]) [_,_,_,_] XM zcp rfl rfl) ?_
 refine Qq zcp rfl rfl (fun b_4=>?_)
 refine zh zfW ?_
 refine zN (Qm (zR ?_))
 refine zF Zc ?_
 refine zL Ql ?_
 refine zC ?_
 refine zM ?_
 refine QM 3 rfl rfl rfl ?_
 refine zJ (Qa rfl Zc) ?_
 refine zJ (Qc rfl Ql (fun hg=>by exact QA.h1 rfl)) ?_
 refine zJ (QD rfl rfl rfl) ?_
 refine Zb rfl rfl rfl rfl rfl ?_
 refine zM ?_
 refine QM 8 rfl rfl rfl ?_
 refine zJ (Qa rfl Zc) ?_
 refine zJ (Qc rfl Ql (fun hg=>by exact QA.h1 rfl)) ?_
 refine zJ (ZI rfl rfl XM (fun hg=>by omega)) ?_
 refine zJ (Qc rfl zo9 (fun hg=>by exact QA.h0 rfl)) ?_
 refine zJ (Zs rfl) ?_
 refine Zb rfl rfl rfl rfl rfl ?_
 refine zN ?_
 refine zI ?_ ?_<;>intro hc50
 ·
  simp [Kr] at hc50
 refine Qr (Qd (Qm (zR ?_)))
 refine zF Zc ?_
 refine zL Ql ?_
 refine zC (zN ?_)
 refine zI ?_ ?_<;>intro hc53
 ·
  refine zR (zA ?_)
  refine zA (zN (Qs (Qe ?_)))
  exact Jj rfl rfl rfl (fun w hw=>⟨rfl,(hw.mono hIc).drop⟩)
 simp at hc53
theorem zcy {I:Qt}(s:ByteArray):ZA Tryz.prog 248 [.agg #[.int .i64 2,.int .i64 0,.string s,.slice none 0 0]] I (.tuple #[.int .i64 0,.bool true]):=by
 intro g H w hw
 refine qe Tryz.func248 Tryz.ntmps248 hw ?_
 have hIc:=zzm I
 refine zR ?_
 refine QR rfl rfl rfl (fun b_1=>?_)
 refine zA ?_
 refine zA ?_
 refine zN (zR ?_)
 refine zF Yt ?_
 refine zL VI ?_
 refine zV (Ki rfl rfl rfl) ?_
 refine zM ?_
 refine Qp 3 rfl rfl rfl ?_
 refine zK (Qa rfl QU) ?_
 refine zK (Qc rfl Zp (fun hg=>by exact QA.h0 rfl)) ?_
 refine zK (Q4 rfl Z7) ?_
 refine zK (QD rfl rfl rfl) ?_
 refine Qy rfl rfl rfl rfl rfl ?_
 refine zF YT ?_
 refine zL Ql ?_
 refine zC ?_
 refine zM ?_
 refine Qp 12 rfl rfl rfl ?_
 refine zK (Qa rfl QU) ?_
 refine zK (Qc rfl Zp (fun hg=>by exact QA.h0 rfl)) ?_
 refine zK (Q4 rfl Z7) ?_
 refine zK (QD rfl rfl rfl) ?_
 refine Qy rfl rfl rfl rfl rfl ?_
 refine zF YT ?_
 refine zL Ql ?_
 refine zC ?_
 refine zM ?_
 refine Qp 21 rfl rfl rfl ?_
 refine zK (Qa rfl Yt) ?_
 refine zK (Qc rfl VI (fun hg=>by exact QA.h0 rfl)) ?_
 refine zK (Ki rfl rfl rfl) ?_
 refine Qy rfl rfl rfl rfl rfl ?_
 refine zV (Vn (ps:=[(1,_),(2,_),(3,_)]) [_,_,_,_] XM zcp rfl rfl) ?_
 refine Qq zcp rfl rfl (fun b_4=>?_)
 refine zh zfW ?_
 refine zN (Qm (zR ?_))
 refine zF Zc ?_
 refine zL Ql ?_
 refine zC ?_
 refine zM ?_
 refine QM 3 rfl rfl rfl ?_
 refine zJ (Qa rfl Zc) ?_
 refine zJ (Qc rfl Ql (fun hg=>by exact QA.h1 rfl)) ?_
 refine zJ (QD rfl rfl rfl) ?_
 refine Zb rfl rfl rfl rfl rfl ?_
 refine zM ?_
 refine QM 8 rfl rfl rfl ?_
 refine zJ (Qa rfl Zc) ?_
 refine zJ (Qc rfl Ql (fun hg=>by exact QA.h1 rfl)) ?_
 refine zJ (ZI rfl rfl XM (fun hg=>by omega)) ?_
 refine zJ (Qc rfl zo9 (fun hg=>by exact QA.h0 rfl)) ?_
 refine zJ (Zs rfl) ?_
 refine Zb rfl rfl rfl rfl rfl ?_
 refine zN ?_
 refine zI ?_ ?_<;>intro hc50
 ·
  simp at hc50
 refine Qr (Qd (Qm (zR ?_)))
 refine zF Zc ?_
 refine zL Ql ?_
 refine zC (zN ?_)
 refine zI ?_ ?_<;>intro hc53
 ·
  refine zR (zA ?_)
  refine zA (zN (Qs (Qe ?_)))
  exact Jj rfl rfl rfl (fun w hw=>⟨rfl,(hw.mono hIc).drop⟩)
 simp at hc53
theorem zhS {I:Qt}{l:List Va}{hs:List Vc}{a:Option Addr}{m c:Nat}(hS:Sl I 4 Q7 a m c hs)(hl:l.length=hs.length)(hr:∀ (k:Nat) (x:Va) (y:Vc),l[k]? =some x→hs[k]? =some y→VaR I x y)(ih:∀ (k:Nat) (x:Va),l[k]? =some x→zuV x)(hok:Va.okL l)(hlm:l.length<2^63)(hd:Va.depthL l≤999):ZA Tryz.prog 248 [.agg #[.int .i64 3,.int .i64 0,.string ⟨#[]⟩,.slice a m c]] I (.tuple #[.int .i64 (Va.depthL l+1:Nat),.bool true]):=by
 intro g H w hw
 refine qe Tryz.func248 Tryz.ntmps248 hw ?_
 have hIc:=zzm I
 have hml:=hS.len
 refine zR ?_
 refine QR rfl rfl rfl (fun b_1=>?_)
 refine zA ?_
 refine zA ?_
 refine zN (zR ?_)
 refine zF Yt ?_
 refine zL VI ?_
 refine zV (Ki rfl rfl rfl) ?_
 refine zM ?_
 refine Qp 3 rfl rfl rfl ?_
 refine zK (Qa rfl QU) ?_
 refine zK (Qc rfl Zp (fun hg=>by exact QA.h0 rfl)) ?_
 refine zK (Q4 rfl Z7) ?_
 refine zK (QD rfl rfl rfl) ?_
 refine Qy rfl rfl rfl rfl rfl ?_
 refine zF YT ?_
 refine zL Ql ?_
 refine zC ?_
 refine zM ?_
 refine Qp 12 rfl rfl rfl ?_
 refine zK (Qa rfl QU) ?_
 refine zK (Qc rfl Zp (fun hg=>by exact QA.h0 rfl)) ?_
 refine zK (Q4 rfl Z7) ?_
 refine zK (QD rfl rfl rfl) ?_
 refine Qy rfl rfl rfl rfl rfl ?_
 refine zF YT ?_
 refine zL Ql ?_
 refine zC ?_
 refine zM ?_
 refine Qp 21 rfl rfl rfl ?_
 refine zK (Qa rfl Yt) ?_
 refine zK (Qc rfl VI (fun hg=>by exact QA.h0 rfl)) ?_
 refine zK (Ki rfl rfl rfl) ?_
 refine Qy rfl rfl rfl rfl rfl ?_
 refine zV (Vn (ps:=[(1,_),(2,_),(3,_)]) [_,_,_,_] XM zcp rfl rfl) ?_
 refine Qq zcp rfl rfl (fun b_4=>?_)
 refine zh zfW ?_
 refine zN (Qm (zR ?_))
 refine zF Zc ?_
 refine zL Ql ?_
 refine zC ?_
 refine zM ?_
 refine QM 3 rfl rfl rfl ?_
 refine zJ (Qa rfl Zc) ?_
 refine zJ (Qc rfl Ql (fun hg=>by exact QA.h1 rfl)) ?_
 refine zJ (QD rfl rfl rfl) ?_
 refine Zb rfl rfl rfl rfl rfl ?_
 refine zM ?_
 refine QM 8 rfl rfl rfl ?_
 refine zJ (Qa rfl Zc) ?_
 refine zJ (Qc rfl Ql (fun hg=>by exact QA.h1 rfl)) ?_
 refine zJ (ZI rfl rfl XM (fun hg=>by omega)) ?_
 refine zJ (Qc rfl zo9 (fun hg=>by exact QA.h0 rfl)) ?_
 refine zJ (Zs rfl) ?_
 refine Zb rfl rfl rfl rfl rfl ?_
 refine zN ?_
 refine zI ?_ ?_<;>intro hc50
 ·
  simp [Kr] at hc50
 refine Qr (Qd (Qm (zR ?_)))
 refine zF Zc ?_
 refine zL Ql ?_
 refine zC (zN ?_)
 refine zI ?_ ?_<;>intro hc53
 ·
  simp at hc53
 refine Qr (Qd (Qm (zR ?_)))
 refine zF QU ?_
 refine zL Zp ?_
 refine zQ Z7 ?_
 refine zM (zN (Qw ?_))
 refine zU [(55,_),(56,_)] (fun T L0 mz E I' loc'=>∃ (k:Nat) (dd:Int),mz=m-k∧E=(2,.int .i64 dd)::(57,.int .i64 k)::T∧I=I'∧L0=loc'∧k≤m∧dd=((Va.depthL (l.take k):Nat):Int)) ?_ (h:=⟨0,0,rfl,rfl,rfl,rfl,Nat.zero_le _,rfl⟩)
 rintro mz E I' loc' ⟨k,dd,rfl,rfl,rfl,rfl,hk,hdd⟩
 refine zR (zC (zN (Qm ?_)))
 refine zI ?_ ?_<;>intro hc58
 ·
  have hlt_k:k<m:=by have h:=hc58;simp at h;omega
  obtain ⟨cv,hy⟩:∃ y,hs[k]? =some y:=⟨_,List.getElem?_eq_getElem (by omega)⟩
  obtain ⟨x,hlx⟩:∃ y,l[k]? =some y:=⟨_,List.getElem?_eq_getElem (by omega)⟩
  have hxy:=hr k x cv hlx hy
  have hokx:=zd3 hok hlx
  have hdx:=JB hd hlx
  refine Qr (Qd (Qm (Qw (zR ?_))))
  refine zV (zX Z7 hS) ?_
  refine zV (Qg rfl Zq (fun hg=>by exact zzn hS hy) rfl) ?_
  refine Qq YK rfl rfl (fun b_6=>?_)
  refine zh ZD ?_
  refine zN (zR ?_)
  refine zV (Qg rfl Zq (fun hg=>by exact Cells.g0) rfl) ?_
  refine qcV (vs:=[_]) rfl zlk (ih k x hlx hxy (by omega) hokx) ?_
  refine zM ?_
  refine zE ?_
  refine zE ?_
  refine zA ?_
  refine zA (zN (Qm (zR ?_)))
  refine zM ?_
  refine zO (zN ?_)
  refine zI ?_ ?_<;>intro hc67
  ·
   simp at hc67
  refine Qr (Qd (Qi (zM ?_)))
  refine zM ?_
  refine zV (Vm rfl rfl) ?_
  refine zA (Qb (Qk (Qd (Qi ?_))))
  refine zB ?_
  refine zM (Qb ?_)
  exact zm (h:=⟨m-(k+1),by omega,k+1,_,rfl,rfl,rfl,rfl,by omega,by rw [zbm hlx,hdd];unfold zfa;split<;>omega⟩)
 have hge_k:m≤k:=by have h:=hc58;simp at h;omega
 have hke:l.take k=l:=List.take_of_length_le (by omega)
 rw [hke] at hdd
 refine Zi (Qo (Qo (Qz (Qd (zR (zM ?_))))))
 refine zB ?_
 refine zA ?_
 refine zA (zN (Qs ?_))
 exact Jj rfl rfl rfl (fun w hw=>⟨by rw [hdd];rfl,(hw.mono hIc).drop⟩)
theorem ziU (d:Nat):∀ x,Va.depth x≤d→zuV x:=by
 induction d with
 | zero=>
  intro x hd I cv hx _ hok
  cases x with
  | int n=>cases hx;exact zdZ n
  | text s=>cases hx;exact zcy _
  | list l=>simp [Va.depth] at hd
 | succ d ih=>
  intro x hd I cv hx h1 hok
  cases x with
  | int n=>cases hx;exact zdZ n
  | text s=>cases hx;exact zcy _
  | list l=>
   cases hx with
   | list hS hl hr=>exact zhS hS hl hr (fun k y hy=>ih y (JB (l:=l) (by simp only [Va.depth] at hd;omega) hy)) hok.2 hok.1 (by simp only [Va.depth] at h1;omega)
theorem zpk {I:Qt}{x:Va}{cv:Vc}(hx:VaR I x cv)(hd:Va.depth x≤1000)(hok:Va.ok x):ZA Tryz.prog 248 [.agg (Q7 cv).toArray] I (.tuple #[.int .i64 (Va.depth x:Nat),.bool true]):=ziU _ x (Nat.le_refl _) hx hd hok
theorem zvg {I:Qt}{x:Va}{cv:Vc}(hx:VaR I x cv)(hd:Va.depth x≤16)(hok:Va.ok x):ZA Tryz.prog 197 [.agg (Q7 cv).toArray] I (.int .i64 0):=by
 intro g H w hw
 refine qe Tryz.func197 Tryz.ntmps197 hw ?_
 have hIc:=zzm I
 refine zR ?_
 refine QR rfl rfl rfl (fun b_1=>?_)
 refine zA ?_
 refine zN (zR ?_)
 refine zV (Qg rfl Zq (fun hg=>by exact Cells.g0) rfl) ?_
 refine qcV (vs:=[_]) rfl zlk (zpk hx (by omega) hok) ?_
 refine zM ?_
 refine zE ?_
 refine zE ?_
 refine zA ?_
 refine zA (zN (Qm (Qw (zR ?_))))
 refine zM ?_
 refine zO ?_
 refine zA (zN ?_)
 refine zI ?_ ?_<;>intro hc10
 ·
  simp at hc10
 refine zR (zM ?_)
 refine zC ?_
 refine zA (zN ?_)
 refine zI ?_ ?_<;>intro hc13
 ·
  simp at hc13;omega
 refine Qr (Qk (Qd (zR (zA (zN (Qs ?_))))))
 exact Qv rfl rfl (fun w hw=>⟨rfl,(hw.mono hIc).drop⟩)
end
section
open Go Go.Kn Go.Proofs
theorem ztp:Fun Tryz.prog 197:=.of Tryz.func197 (by kernel_rfl) (by kernel_rfl)
theorem zfj:Fun Tryz.prog 198:=.of Tryz.func198 (by kernel_rfl) (by kernel_rfl)
theorem zdc {I:Qt}{x:Va}{cv:Vc}(hx:VaR I x cv)(hd:Va.depth x≤16)(hok:Va.ok x)(hb:(Va.enc x).length≤900000):Vl Tryz.prog 151 [.agg (Q7 cv).toArray] I [] (fun v I' L'=>∃ bv,v= .tuple #[bv,.int .i64 0]∧WI 5 bv (Va.enc x) L'):=by
 intro g H w hw
 refine qe Tryz.func151 Tryz.ntmps151 hw ?_
 have hIc:=zzm I
 refine zR ?_
 refine QR rfl rfl rfl (fun b_1=>?_)
 refine zA ?_
 refine zA (zN (Qm (zR ?_)))
 refine zV (Qg rfl Zq (fun hg=>by exact Cells.g0) rfl) ?_
 refine qcV (vs:=[_]) rfl ztp (zvg hx hd hok) ?_
 refine zA ?_
 refine zN (zR ?_)
 refine zM ?_
 refine zC (zN ?_)
 refine zI ?_ ?_<;>intro hc8
 ·
  simp at hc8
 refine Qr (Qd (Qm ?_))
 rcases VaR.cases hx with ⟨n,rfl,rfl⟩ | ⟨s,rfl,rfl⟩ | ⟨l2,a2,m2,c2,rfl,rfl⟩
 ·
  have hD:=zzm I
  refine Zt ?_
  refine QQ I [(b_1,.cells (Q7 ⟨1,n,⟨#[]⟩,none,0,0⟩).toArray 158 (0,0))] mixed ?_
  refine zT 1 rfl (Qa rfl Zc) hD ?_
  refine zT 2 rfl (Qc rfl Ql (fun hg=>by exact QA.h0 rfl)) hD ?_
  refine zT 7 rfl (Qg rfl Zq (fun hg=>by exact Cells.g0) rfl) hD ?_
  refine qd 0 rfl ?_
  refine zpc [] rfl zfj .nil (WE I) ?_
  rintro vv1 I1 L1 hI1 ⟨rfl,bw,bp,rfl,hW⟩
  have hx:=hx.mono hI1;have hIc:=hIc.trans hI1;have hD:=hD.trans hI1
  refine Qb ?_
  refine zD hD ?_
  refine zT 3 rfl (QI rfl) hD ?_
  refine zT 4 rfl (ZI rfl rfl KE (fun hg=>by (dsimp only;omega))) hD ?_
  refine zT 5 rfl (Qa rfl VP) hD ?_
  refine qd 6 rfl ?_
  refine zV (Qc rfl Xy (fun hg=>by exact QA.imm hW.1 rfl)) ?_
  refine Qb ?_
  refine zD hD ?_
  refine qd 8 rfl ?_
  refine zpc [_,_] rfl ziJ .nil (zcF _ _ (Nat.le_refl _) hW WI.nil hx hok (by simpa using hb)) ?_
  rintro vv2 I2 L2 hI2 ⟨rfl,hO2⟩
  have hIc:=hIc.trans hI2;have hD:=hD.trans hI2
  refine Qb ?_
  refine zD hD ?_
  refine zT 9 rfl (QC rfl) hD ?_
  refine zT 10 rfl (QC rfl) hD ?_
  refine Qn (by kernel_rfl) ?_
  refine Qx ?_
  refine Qd (Qs ?_)
  exact Jj rfl rfl rfl (fun w hw=>⟨_,I2,_,rfl,hIc,hw.subL (by exact QJ),_,rfl,by simpa using hO2⟩)
 ·
  have hD:=zzm I
  refine Zt ?_
  refine QQ I [(b_1,.cells (Q7 ⟨2,0,U8 s,none,0,0⟩).toArray 158 (0,0))] mixed ?_
  refine zT 1 rfl (Qa rfl Zc) hD ?_
  refine zT 2 rfl (Qc rfl Ql (fun hg=>by exact QA.h0 rfl)) hD ?_
  refine zT 7 rfl (Qg rfl Zq (fun hg=>by exact Cells.g0) rfl) hD ?_
  refine qd 0 rfl ?_
  refine zpc [] rfl zfj .nil (WE I) ?_
  rintro vv3 I3 L3 hI3 ⟨rfl,bw,bp,rfl,hW⟩
  have hx:=hx.mono hI3;have hIc:=hIc.trans hI3;have hD:=hD.trans hI3
  refine Qb ?_
  refine zD hD ?_
  refine zT 3 rfl (QI rfl) hD ?_
  refine zT 4 rfl (ZI rfl rfl KE (fun hg=>by (dsimp only;omega))) hD ?_
  refine zT 5 rfl (Qa rfl VP) hD ?_
  refine qd 6 rfl ?_
  refine zV (Qc rfl Xy (fun hg=>by exact QA.imm hW.1 rfl)) ?_
  refine Qb ?_
  refine zD hD ?_
  refine qd 8 rfl ?_
  refine zpc [_,_] rfl zmn .nil (zcF _ _ (Nat.le_refl _) hW WI.nil hx hok (by simpa using hb)) ?_
  rintro vv4 I4 L4 hI4 ⟨rfl,hO2⟩
  have hIc:=hIc.trans hI4;have hD:=hD.trans hI4
  refine Qb ?_
  refine zD hD ?_
  refine zT 9 rfl (QC rfl) hD ?_
  refine zT 10 rfl (QC rfl) hD ?_
  refine Qn (by kernel_rfl) ?_
  refine Qx ?_
  refine Qd (Qs ?_)
  exact Jj rfl rfl rfl (fun w hw=>⟨_,I4,_,rfl,hIc,hw.subL (by exact QJ),_,rfl,by simpa using hO2⟩)
 have hD:=zzm I
 refine Zt ?_
 refine QQ I [(b_1,.cells (Q7 ⟨3,0,⟨#[]⟩,a2,m2,c2⟩).toArray 158 (0,0))] mixed ?_
 refine zT 1 rfl (Qa rfl Zc) hD ?_
 refine zT 2 rfl (Qc rfl Ql (fun hg=>by exact QA.h0 rfl)) hD ?_
 refine zT 7 rfl (Qg rfl Zq (fun hg=>by exact Cells.g0) rfl) hD ?_
 refine qd 0 rfl ?_
 refine zpc [] rfl zfj .nil (WE I) ?_
 rintro vv5 I5 L5 hI5 ⟨rfl,bw,bp,rfl,hW⟩
 have hx:=hx.mono hI5;have hIc:=hIc.trans hI5;have hD:=hD.trans hI5
 refine Qb ?_
 refine zD hD ?_
 refine zT 3 rfl (QI rfl) hD ?_
 refine zT 4 rfl (ZI rfl rfl KE (fun hg=>by (dsimp only;omega))) hD ?_
 refine zT 5 rfl (Qa rfl VP) hD ?_
 refine qd 6 rfl ?_
 refine zV (Qc rfl Xy (fun hg=>by exact QA.imm hW.1 rfl)) ?_
 refine Qb ?_
 refine zD hD ?_
 refine qd 8 rfl ?_
 refine Ks (cap:=[Zw bp]) (vs:=[_,_]) rfl rfl zjt .nil (zcF _ _ (Nat.le_refl _) hW WI.nil hx hok (by simpa using hb)) rfl rfl ?_
 rintro vv6 I6 L6 hI6 ⟨rfl,hO2⟩
 have hIc:=hIc.trans hI6;have hD:=hD.trans hI6
 refine Qb ?_
 refine zD hD ?_
 refine zT 9 rfl (QC rfl) hD ?_
 refine zT 10 rfl (QC rfl) hD ?_
 refine Qn (by kernel_rfl) ?_
 refine Qx ?_
 refine Qd (Qs ?_)
 exact Jj rfl rfl rfl (fun w hw=>⟨_,I6,_,rfl,hIc,hw.subL (by exact QJ),_,rfl,by simpa using hO2⟩)
end
section
open Go Go.Kn Go.Proofs
structure Sg where
 id:Int
 role:Int
 bar:Int
 mark:Int
 kind:Int
 side:Int
 dir:Int
 level:Int
 size:Int
 wth:Int
 fn:Int
 fd:Int
 tn:Int
 td:Int
def zfc (x:Sg):List Value:=[.int .i64 x.id,.int .i64 x.role,.int .i64 x.bar,.int .i64 x.mark,.int .i64 x.kind,.int .i64 x.side,.int .i64 x.dir,.int .i64 x.level,.int .i64 x.size,.int .i64 x.wth,.int .i64 x.fn,.int .i64 x.fd,.int .i64 x.tn,.int .i64 x.td]
def Wl (x:Sg):Value:=.agg (zfc x).toArray
def Jz:Sg:=⟨0,0,0,0,0,0,0,0,0,0,0,0,0,0⟩
theorem zgx (x:Sg):(zfc x).length=14:=rfl
def ziA (x y:Sg):Bool:=x.id==y.id&&(x.role==y.role&&(x.bar==y.bar&&(x.mark==y.mark&&(x.kind==y.kind&&(x.side==y.side&&(x.dir==y.dir&&(x.level==y.level&&(x.size==y.size&&(x.wth==y.wth&&(x.fn==y.fn&&(x.fd==y.fd&&(x.tn==y.tn&&(x.td==y.td&&true)))))))))))))
theorem zaC {x y:Sg}:ziA x y=true↔x=y:=by
 obtain ⟨a1,a2,a3,a4,a5,a6,a7,a8,a9,a10,a11,a12,a13,a14⟩:=x
 obtain ⟨b1,b2,b3,b4,b5,b6,b7,b8,b9,b10,b11,b12,b13,b14⟩:=y
 simp [ziA]
instance : DecidableEq Sg := fun a b => decidable_of_iff (ziA a b = true) zaC
structure Pt where
 id:Int
 kind:Int
 sign:Int
 field:Int
 nw:Sg
 a:Option Addr
 n:Nat
 c:Nat
 needs:List Int
def WG (p:Pt):List Value:=[.int .i64 p.id,.int .i64 p.kind,.int .i64 p.sign,.int .i64 p.field,.int .i64 p.nw.id,.int .i64 p.nw.role,.int .i64 p.nw.bar,.int .i64 p.nw.mark,.int .i64 p.nw.kind,.int .i64 p.nw.side,.int .i64 p.nw.dir,.int .i64 p.nw.level,.int .i64 p.nw.size,.int .i64 p.nw.wth,.int .i64 p.nw.fn,.int .i64 p.nw.fd,.int .i64 p.nw.tn,.int .i64 p.nw.td,.slice p.a p.n p.c]
def KD (p:Pt):Value:=.agg (WG p).toArray
theorem Xf (x:Pt):(WG x).length=19:=rfl
def Jh:Pt:=⟨0,0,0,0,Jz,none,0,0,[]⟩
def Nd (I:Qt)(p:Pt):Prop:=Sl I 1 Z1 p.a p.n p.c p.needs
theorem Nd.mono {I I':Qt}{p:Pt}(h:Nd I p)(hI:HLe I I'):Nd I' p:=Sl.mono h hI
def SlP (I:Qt)(av:Option Addr)(n c:Nat)(ps:List Pt):Prop:=Sl I 19 WG av n c ps∧∀ p∈ps,Nd I p
theorem SlP.mono {I I':Qt}{av:Option Addr}{n c:Nat}{ps:List Pt}(h:SlP I av n c ps)(hI:HLe I I'):SlP I' av n c ps:=⟨h.1.mono hI,fun p hp=>(h.2 p hp).mono hI⟩
theorem SlP.len {I:Qt}{av:Option Addr}{n c:Nat}{ps:List Pt}(h:SlP I av n c ps):ps.length=n:=h.1.len
theorem SlP.at {I:Qt}{av:Option Addr}{n c:Nat}{ps:List Pt}(h:SlP I av n c ps){k:Nat}(hk:k<n):∃ p,ps[k]? =some p∧Nd I p:=by
 obtain ⟨p,hp⟩:=h.1.at hk
 exact ⟨p,hp,h.2 p (List.mem_of_getElem? hp)⟩
def zbZ (n:Int):Int:=if n<0 then 0-n else n
def zlv (a b:Int):Int:=(Int.gcd a b:Int)
def UW (n d:Int):Bool:= !(((((decide (d<1)||decide (d>1073741824))||decide (n< -1073741824))||decide (n>1073741824))||(zlv n d != 1)))
def za7 (fn fd tn td:Int):Bool:=(UW fn fd&&UW tn td)&&(decide (fn*td<tn*fd)&&(decide (fn≥0)&&decide (tn≤td)))
/-! ### Signs -/
def zxn (k:Sg):Bool:=within k.id 0 1048576&&within k.role 0 63&&within k.bar 0 4095&&within k.kind 1 9&&within k.mark 1 3&&within k.side 0 2&&within k.dir 0 8&&within k.level 0 3&&within k.size 0 255&&within k.wth 0 64
def frm (k:Sg):Bool:=zxn k&&za7 k.fn k.fd k.tn k.td
def skP (xs:List Sg)(i:Nat):Bool:= !(!frm (xs.getD i Jz)||(decide ((i:Int)>0)&&decide ((xs.getD ((i:Int)-1).toNat Jz).id≥(xs.getD i Jz).id)))
def skB (xs:List Sg):Bool:=(List.range xs.length).all (skP xs)
def zh2 (xs:List Sg):Int:=if xs.length>4096 then 2 else if skB xs then 0 else 360
/-! ### Patches -/
def KN (x:Sg)(f:Int)(y:Sg):Sg:=
 if f=1 then {x with role:=y.role} else if f=2 then {x with bar:=y.bar} else if f=3 then {x with mark:=y.mark} else if f=4 then {x with side:=y.side} else if f=5 then {x with dir:=y.dir}
 else if f=6 then {x with level:=y.level} else if f=7 then {x with size:=y.size} else if f=8 then {x with wth:=y.wth} else if f=9 then {x with fn:=y.fn,fd:=y.fd,tn:=y.tn,td:=y.td} else x
def zeJ:Sg:=⟨0,0,0,3,9,0,0,0,0,0,0,1,1,2⟩
def zei:Sg:=⟨0,0,0,1,1,0,0,0,0,0,0,1,1,1⟩
def ndP (id:Int)(v:List Int)(i:Nat):Bool:= !((decide (v.getD i 0<1)||decide (v.getD i 0≥id))||(decide ((i:Int)>0)&&decide (v.getD i 0≤v.getD ((i:Int)-1).toNat 0)))
def ndB (id:Int)(v:List Int):Bool:=(List.range v.length).all (ndP id v)
def idB (p:Pt):Bool:=(decide (p.id≥1)&&decide (p.id≤1048576))&&(decide (p.sign≥0)&&decide (p.sign≤1048576))
def Ur (p:Pt):Bool:=
 if p.kind=1 then within p.field 1 9&&(ziA (KN p.nw p.field Jz) Jz&&frm (KN zeJ p.field p.nw))
 else if p.kind=2 then p.field==0&&(p.nw.id==p.sign&&frm p.nw)
 else if p.kind=3 then p.field==0&&ziA p.nw Jz else false
def KO (p:Pt):Int:=if p.needs.length>32 then 2 else if ndB p.id p.needs&&(idB p&&Ur p) then 0 else 370
end
end Go.Proofs.YtjblkbkmblkgoaaGreat
section
namespace Go.Proofs.YtjblkbkmblkgoaaGreat
open Go Go.Kn Go.Proofs
structure Lm where
 no:Int
 person:Int
 ends:Int
 lo:Int
 hi:Int
 known:Int
 ck:Int
 cl:Int
 cn:Int
def Zl (x:Lm):List Value:=[.int .i64 x.no,.int .i64 x.person,.int .i64 x.ends,.int .i64 x.lo,.int .i64 x.hi,.int .i64 x.known,.int .i64 x.ck,.int .i64 x.cl,.int .i64 x.cn]
def V8 (x:Lm):Value:=.agg (Zl x).toArray
theorem V3 (x:Lm):(Zl x).length=9:=rfl
theorem zpP (xs:List Lm):YL (xs.flatMap Zl)=true:=YJ (fun _=>rfl) xs
def Vt:Lm:=⟨0,0,0,0,0,0,0,0,0⟩
def zxE (x y:Lm):Bool:=x.no==y.no&&(x.person==y.person&&(x.ends==y.ends&&(x.lo==y.lo&&(x.hi==y.hi&&(x.known==y.known&&((x.ck==y.ck&&(x.cl==y.cl&&(x.cn==y.cn&&true)))&&true))))))
theorem zoY {x y:Lm}:zxE x y=true↔x=y:=by
 obtain ⟨a1,a2,a3,a4,a5,a6,a7,a8,a9⟩:=x
 obtain ⟨b1,b2,b3,b4,b5,b6,b7,b8,b9⟩:=y
 simp [zxE]
instance : DecidableEq Lm := fun a b => decidable_of_iff (zxE a b = true) zoY
def Vp (n lo hi:Int):Bool:=decide (lo≤n)&&decide (n≤hi)
def zfy (lo hi:Int)(xs:List Int):Bool:=xs.all fun n=> !(decide (n<lo)||decide (n>hi))
theorem WO (lo hi n:Int):zfy lo hi [n]=Vp n lo hi:=by
 simp only [zfy,List.all_cons,List.all_nil,Bool.and_true,Vp]
 rw [Bool.eq_iff_iff];simp
def zxT:List (Int×Int×Int):=[(0,0,0),(1,3,2),(1,1048576,2),(1,16,0),(0,16,0),(0,500,0),(0,1048576,0)]
def WJ (k:Int):Int×Int×Int:=zxT.getD k.toNat (0,0,0)
def zfd (ck cl cn:Int):Bool:=if Vp ck 1 6 then (if Vp cl 0 (WJ ck).2.2 then Vp cn (WJ ck).1 (WJ ck).2.1 else false) else false
theorem zls {ck cl cn:Int}(h:Vp ck 1 6=false):zfd ck cl cn=false:=by unfold zfd;rw [h];rfl
theorem zkd {ck cl cn:Int}(h:Vp ck 1 6=true)(h2:Vp cl 0 (WJ ck).2.2=false):zfd ck cl cn=false:=by unfold zfd;rw [h,h2];rfl
theorem zno {ck cl cn:Int}(h:Vp ck 1 6=true)(h2:Vp cl 0 (WJ ck).2.2=true):zfd ck cl cn=Vp cn (WJ ck).1 (WJ ck).2.1:=by unfold zfd;rw [h,h2];rfl
theorem six {ck:Int}(h:Vp ck 1 6=true):ck=1∨ck=2∨ck=3∨ck=4∨ck=5∨ck=6:=by
 simp only [Vp,Bool.and_eq_true,decide_eq_true_eq] at h;omega
def knM (pre:List Lm):List (Int×Lm):=pre.foldl (fun m y=>Ji m y.no y) []
def rpM (pre:List Lm):List (Int×Bool):=pre.foldl (fun m y=>Ji m y.ends true) []
def Wo (pre:List Lm):Int:=match pre.getLast? with | none=> -1 | some y=>y.no
theorem U2 (pre:List Lm)(x:Lm):knM (pre++[x])=Ji (knM pre) x.no x:=by simp [knM]
theorem US (pre:List Lm)(x:Lm):rpM (pre++[x])=Ji (rpM pre) x.ends true:=by simp [rpM]
theorem Ka (pre:List Lm)(x:Lm):Wo (pre++[x])=x.no:=by simp [Wo]
def zg1 (pre:List Lm)(x:Lm):Option Lm:=Zx (knM pre) (IntKind.i64.wrap (x.ends-1))
def znn (last:Int)(x:Lm):Bool:=(decide (x.no≤last)||decide (x.no>1048576))|| !Vp x.person 0 63
def zmX (x:Lm):Bool:=((decide (x.lo<0)||decide (x.lo>x.hi))||decide (x.hi>73048))|| !Vp x.known 0 134217727
def zmR (x:Lm):Bool:= !zfd x.ck x.cl x.cn&&(!(x.ck==0&&(x.cl==0&&(x.cn==0&&true)))||x.ends==0)
def zrg (met rep:Bool)(old x:Lm):Bool:=(x.ends != 0)&&(((!met||rep)||old.person != x.person)||decide (old.known>x.known))
def zb2 (pre:List Lm)(x:Lm):Bool:=znn (Wo pre) x||zmX x||zmR x||zrg (zg1 pre x).isSome ((Zx (rpM pre) x.ends).getD false) ((zg1 pre x).getD Vt) x
def zfI (xs:List Lm):Int:=if xs.length>512 then 2 else if (List.range xs.length).any (fun k=>zb2 (xs.take k) (xs.getD k Vt)) then 340 else 0
end Go.Proofs.YtjblkbkmblkgoaaGreat
namespace Go.Proofs.YtjblkbkmblkgoaaGreat
open Go Go.Kn Go.Proofs
def zcU (v:Value):List Value:=[v]
theorem zdN (v:Value):(zcU v).length=1:=rfl
section
variable {α β:Type} [DecidableEq α] {C:Cx} {E:Env} {I:Qt} {loc:Go.Kn.Loc} {S:GS} {dst:Option Tmp} {ty:TypeId} {pos:String} {af:Array Edge} {gd:Option (Nat×Bool)} {x y:Operand} {m:List (α×β)} {a:α} {ek:α→Value} {ev:β→Value}
theorem zd1 {t k e r:Nat}{zv:Value}(z v:β)(b:Bool)(hz:ev z=zv)(hv:(Zx m a).getD z=v)(hb:(Zx m a).isSome=b)(hT:MpT C.P t k e zv)(hK:Kf C.P k ek)(hx:QE S E x=some (.map (some r)))(hy:QE S E y=some (ek a))(hm:Yf S=true→Mem I loc r (Yk ek ev m)):
  QV C S E I loc ⟨dst,.lookup t x y true,ty,pos,af,gd⟩ (.tuple #[ev v,.bool b]):=by
 have:=ZQ (C:=C) (S:=S) (dst:=dst) (ty:=ty) (pos:=pos) (af:=af) (gd:=gd) hT hK hx hy hm
 subst hv;subst hb;subst hz
 cases h:Zx m a with
 | none=>rw [h] at this;exact this
 | some v=>rw [h] at this;exact this
end
theorem zhJ {xs:List Lm}(h:xs.length>512):zfI xs=2:=by unfold zfI;rw [if_pos h]
theorem VE {xs:List Lm}{k:Nat}{x:Lm}(h:¬xs.length>512)(hx:xs[k]? =some x)(hb:zb2 (xs.take k) x=true):zfI xs=340:=by
 unfold zfI;rw [if_neg h,if_pos]
 rw [List.any_eq_true]
 refine ⟨k,List.mem_range.2 (List.getElem?_eq_some_iff.1 hx).1,?_⟩
 rw [List.getD_eq_getElem?_getD,hx];exact hb
theorem zi1 {xs:List Lm}(h:¬xs.length>512)(ha:∀ k x,k<xs.length→xs[k]? =some x→zb2 (xs.take k) x=false):zfI xs=0:=by
 unfold zfI;rw [if_neg h,if_neg]
 rw [List.any_eq_true]
 rintro ⟨k,hk,hb⟩
 have hk:=List.mem_range.1 hk
 have hx:xs[k]? =some (xs[k]):=List.getElem?_eq_getElem hk
 have:=ha k _ hk hx
 rw [List.getD_eq_getElem?_getD,hx] at hb
 rw [show ((some xs[k]:Option Lm).getD Vt)=xs[k] from rfl,this] at hb;cases hb
theorem zv5 {pre:List Lm}{x:Lm}(h:znn (Wo pre) x=true):zb2 pre x=true:=by simp [zb2,h]
theorem zvN {pre:List Lm}{x:Lm}(h:zmX x=true):zb2 pre x=true:=by simp [zb2,h]
theorem zum {pre:List Lm}{x:Lm}(h:zmR x=true):zb2 pre x=true:=by simp [zb2,h]
theorem zvj {pre:List Lm}{x:Lm}(h:zrg (zg1 pre x).isSome ((Zx (rpM pre) x.ends).getD false) ((zg1 pre x).getD Vt) x=true):zb2 pre x=true:=by simp [zb2,h]
theorem zrb {pre:List Lm}{x:Lm}(h1:znn (Wo pre) x=false)(h2:zmX x=false)(h3:zmR x=false)(h4:zrg (zg1 pre x).isSome ((Zx (rpM pre) x.ends).getD false) ((zg1 pre x).getD Vt) x=false):zb2 pre x=false:=by simp [zb2,h1,h2,h3,h4]
theorem Zh {α:Type}{xs:List α}{k:Nat}{x:α}(h:xs[k]? =some x):xs.take (k+1)=xs.take k++[x]:=by rw [List.take_add_one,h];rfl
theorem VA {α:Type}{P:Nat→α→Prop}{xs:List α}{k:Nat}{x:α}(hx:xs[k]? =some x)(hall:∀ j y,j<k→xs[j]? =some y→P j y)(hk:P k x):∀ j y,j<k+1→xs[j]? =some y→P j y:=fun j y hj hy=>by
 rcases Nat.lt_or_ge j k with h | h
 ·
  exact hall j y h hy
 ·
  obtain rfl:j=k:=by omega
  rw [hx] at hy;cases hy;exact hk
end Go.Proofs.YtjblkbkmblkgoaaGreat
end
namespace Go.Kn
section
open Go
section
variable {g:World} {I I' H:Qt} {loc loc' L K A B:Loc} {w w':World}
theorem St.join2 (h:St g I (JM H L) K w)(hn:(L.map (·.1)).Nodup)(hd:∀ b o,(b,o)∈L→H b=none):St g I H (K++L) w:=by
 have h':=h.swap hn hd
 have hK:∀ b o,(b,o)∈K→H b=none:=fun b o hm=>(UM (h.sepIL b o hm).2).1
 refine ⟨h.os,h.tape,h.out,h.size,h.imm,fun b o e=>?_,fun b o hm=>?_,fun b=>?_,fun b o hm=>?_,?_⟩
 ·
  refine h.frm b o ?_
  rw [WM (fun p hp=>by rw [hd b p hp] at e;cases e)];exact e
 ·
  rcases List.mem_append.1 hm with hm | hm
  ·
   exact h.own b o hm
  ·
   exact h'.own b o hm
 ·
  rcases h.sepIH b with e | e
  ·
   exact .inl e
  ·
   exact .inr (UM e).1
 ·
  rcases List.mem_append.1 hm with hm | hm
  ·
   exact ⟨(h.sepIL b o hm).1,hK b o hm⟩
  ·
   exact ⟨(h'.sepIL b o hm).1,hd b o hm⟩
 ·
  rw [List.map_append,List.nodup_append]
  refine ⟨h.nodup,hn,fun x hx y hy e=>?_⟩
  subst e
  obtain ⟨⟨b,o⟩,hm,rfl⟩:=List.mem_map.1 hx
  obtain ⟨⟨c,p⟩,hm',e⟩:=List.mem_map.1 hy
  simp only at e;subst e
  exact (UM (h.sepIL _ _ hm).2).2 p hm'
theorem St.permL (h:St g I H loc w)(hp:loc'.Perm loc):St g I H loc' w:=h.perm (fun p=>hp.mem_iff) ((hp.map (·.1)).nodup_iff.2 h.nodup)
end
theorem zct {A B C:Loc}(h:JQ B C):JQ (A++B) (A++C):=by
 induction A with
 | nil=>exact h
 | cons x l ih=>exact .keep ih
def ziN {α:Type}(g:World)(Z:Loc)(Jc:List α→Qt→Qt→Loc→Prop)(Jx:Code→List α→Qt→Qt→Loc→Prop)(pre:List α):Exit→Act→World→Prop
 | .normal,_,w=>∃ I H L,Jc pre I H L∧St g I H (L++Z) w
 | .ret,_,w=>∃ I H L,Jx .ret pre I H L∧St g I H (L++Z) w
 | .exit id,_,w=>∃ I H L,Jx (.exit id) pre I H L∧St g I H (L++Z) w
 | _,_,_=>False
section
variable {α:Type} {C:Cx} {Q:Exit→Act→World→Prop} {E E':Env} {I I':Qt} {loc loc' L Z R:Loc}
variable {Jc:List α→Qt→Qt→Loc→Prop} {Jx:Code→List α→Qt→Qt→Loc→Prop} {pre:List α}
theorem zeD (h:Jc pre I C.H L)(hs:JQ (L++Z) loc):At C (ziN C.g Z Jc Jx pre) .normal E I loc:=fun _ _ _ hw=>⟨I,C.H,L,h,hw.subL hs⟩
end
section
variable {α:Type} {P:Program} {N:Nat} {g:World} {p:Nat} {assign body:Code} {f:FuncId} {cap:List Value} {rel:Value→α→Qt→Prop} {xs:List α} {E:Env} {I H:Qt} {L B:Loc}
def zuD (fn:FuncId)(tmps:Array Value)(p:Nat)(assign body:Code)(df:Nat)(st:LoopState)(pd:Option Code):Obj:=.loop {state:=st,pending:=pd,fn,tmps,params:= #[p],assign,body,defers:=df}
end
section
variable {α:Type} {P:Program} {N:Nat} {g:World} {H:Qt} {Q:Exit→Act→World→Prop} {gop:Operand} {p:Nat} {assign body:Code} {f:FuncId} {cap:List Value} {rel:Value→α→Qt→Prop} {xs:List α} {E:Env} {I:Qt} {L:Loc}
end
/-! ### A loop whose rounds may leave marks and turn the frame -/
section
variable {P:Program} {r:Option Nat} {N:Nat} {g:World} {H:Qt} {Q:Exit→Act→World→Prop} {E E':Env} {I I':Qt} {loc loc' L R:Loc} {ms:List Nat}
end
end
section
open Go
section
variable {C:Cx} {Q:Exit→Act→World→Prop} {E G:Env} {I I' I0:Qt} {loc loc' loc0 L R:Loc} {ops:Array Oper} {rest:List Oper} {S:GS}
variable {dst:Option Nat} {d:Nat} {ty:TypeId} {pos:String} {af:Array Edge} {gd:Option (Nat×Bool)} {x y z:Operand} {a b c:Int}
def zia (u:Value)(want:Bool):Bool:=match u with | .bool b=>b != want | _=>true
theorem zbN {j dj:Nat}{want:Bool}{oj o:Oper}{u:Value}{N:Nat}{D:List Deferred}{a:Act}(hg:o.guard=some (j,want))(hj:ops[j]? =some oj)(hd:oj.dst=some dj)(ha:KP N D E a)(hl:Vu E dj=some u)(hu:zia u want=true):Region.wanted o (yielded ops a.tmps)=false:=by
 have h:=ha.env _ _ hl
 simp only [Region.wanted,hg]
 cases u with
 | bool b0=>
  rw [UF hj hd h]
  cases b0<;>cases want<;>first | rfl | cases hu
 | _=>
  have hy:yielded ops a.tmps j=none:=by
   unfold yielded
   simp only [hj,Option.bind_some,hd]
   cases e:a.tmps[dj]? with
   | none=>rfl
   | some v=>
    simp [e] at h;rw [h]
  rw [hy];rfl
theorem ZV {op:Op}{j dj:Nat}{want:Bool}{oj:Oper}{u:Value}(hj:ops[j]? =some oj)(hd:oj.dst=some dj)(hl:Vu E dj=some u)(hu:zia u want=true)(hN:Nat.blt d C.N=true)
  (h:XO C Q ops rest [] ((d,undef)::E) I loc):XO C Q ops (⟨some d,op,ty,pos,af,some (j,want)⟩::rest) [] E I loc:=by
 intro a w ha hg hw
 simp only [wpListIn]
 rw [zbN (o:=⟨some d,op,ty,pos,af,some (j,want)⟩) rfl hj hd ha hl hu]
 simp only [Bool.false_eq_true,if_false]
 exact ⟨fun _ _=>trivial,h _ _ (ha.put hN undef) trivial hw⟩
theorem znf (i:Nat){j dj fuel:Nat}{want:Bool}{oj:Oper}{listed:Array Bool}{op:Op}{u:Value}(hi:ops[i]? =some ⟨some d,op,ty,pos,af,some (j,want)⟩)(hj:ops[j]? =some oj)(hd:oj.dst=some dj)(hlk:Vu E dj=some u)(hu:zia u want=true)
  (hdf:∀ c,op≠ .defer c)(hN:Nat.blt d C.N=true)
  (hs:Region.noSelect ops=true)(hfr:Region.free .any ops listed i=true)(hr:(Region.ready .any ops listed).contains i=true)(hQ:Yb Q)(hI:HLe I0 I)(hl:JQ loc0 loc)
  (h:XD C Q ops I0 loc0 fuel (listed.setIfInBounds i true) [] ((d,undef)::E) I loc):XD C Q ops I0 loc0 (fuel+1) listed [] E I loc:=by
 intro a w ha hg hw
 have hp:=ha.put hN undef
 refine YV (v:=undef) hi hdf (Region.noSelect_spec hs) (fun c a w=>hQ c a d _ w) fuel listed a w (Region.free_spec hi hfr) (by simpa using hr) ?_ ((hw.mono hI).subL hl) (h _ _ hp trivial hw)
 exact .inr ⟨by rw [zbN (o:=⟨some d,op,ty,pos,af,some (j,want)⟩) rfl hj hd ha hlk hu],rfl⟩
theorem zW (i dj:Nat){j fuel:Nat}{want:Bool}{oj:Oper}{listed:Array Bool}{op:Op}{u:Value}(hI:HLe I0 I)(h:XD C Q ops I0 loc0 fuel (listed.setIfInBounds i true) [] ((d,undef)::E) I loc)(hi:ops[i]? =some ⟨some d,op,ty,pos,af,some (j,want)⟩:=by exact rfl)(hj:ops[j]? =some oj:=by exact rfl)(hd:oj.dst=some dj:=by exact rfl)(hlk:Vu E dj=some u:=by exact rfl)(hu:zia u want=true:=by exact rfl)
  (hdf:∀ c,op≠ .defer c:=by (intro c e;cases e))(hN:Nat.blt d C.N=true:=by exact rfl)(hs:Region.noSelect ops=true:=by kernel_rfl)(hfr:Region.free .any ops listed i=true:=by kernel_rfl)(hr:(Region.ready .any ops listed).contains i=true:=by kernel_rfl)(hQ:Yb Q:=by first | exact JE | (repeat (first | exact Ue | with_reducible refine Ua ?_ | with_reducible refine J0 ?_)))(hl:JQ loc0 loc:=by repeat (first | exact .refl | exact QB | refine .keep ?_ | refine .drop ?_ | refine QO ?_)):XD C Q ops I0 loc0 (fuel+1) listed [] E I loc:=znf i hi hj hd hlk hu hdf hN hs hfr hr hQ hI hl h
end
end
end Go.Kn
namespace Go.Proofs.YtjblkbkmblkgoaaGreat
section
open Go Go.Kn Go.Proofs
theorem zgc:AgT Tryz.prog 224 4:=.of (by kernel_rfl)
theorem zsu:AgT Tryz.prog 225 28:=.of (by kernel_rfl)
theorem zc5:ArT Tryz.prog 225 7 224 4:=.of (by kernel_rfl)
theorem zkf:QL Tryz.prog 224 1 1:=.of (by kernel_rfl)
theorem zjR:QL Tryz.prog 224 2 2:=.of (by kernel_rfl)
theorem zdM:QL Tryz.prog 224 3 3:=.of (by kernel_rfl)
theorem WX:QL Tryz.prog 30 0 0:=.of (by kernel_rfl)
theorem Jr:QL Tryz.prog 30 1 1:=.of (by kernel_rfl)
theorem JX:QL Tryz.prog 30 2 2:=.of (by kernel_rfl)
theorem zdk:Fun Tryz.prog 158:=.of Tryz.func158 (by kernel_rfl) (by kernel_rfl)
theorem zkS:Fun Tryz.prog 159:=.of Tryz.func159 (by kernel_rfl) (by kernel_rfl)
theorem XR:PlT Tryz.prog 224 #[(0,1),(1,1),(2,1),(3,1)] (.agg #[.nilFunc,(.int .i64 0),(.int .i64 0),(.int .i64 0)]):=⟨.of (by kernel_rfl),by kernel_rfl,fun w=>by kernel_rfl⟩
theorem zf1:SzT Tryz.prog 224 4:=.of (by kernel_rfl)
theorem zrB:SzT Tryz.prog 225 28:=.of (by kernel_rfl)
theorem ziP:Y7 Tryz.prog 224 (.agg #[.nilFunc,(.int .i64 0),(.int .i64 0),(.int .i64 0)]):=.of (by kernel_rfl)
theorem zpA:Y7 Tryz.prog 225 (.agg #[.nilFunc,(.int .i64 0),(.int .i64 0),(.int .i64 0),.nilFunc,(.int .i64 0),(.int .i64 0),(.int .i64 0),.nilFunc,(.int .i64 0),(.int .i64 0),(.int .i64 0),.nilFunc,(.int .i64 0),(.int .i64 0),(.int .i64 0),.nilFunc,(.int .i64 0),(.int .i64 0),(.int .i64 0),.nilFunc,(.int .i64 0),(.int .i64 0),(.int .i64 0),.nilFunc,(.int .i64 0),(.int .i64 0),(.int .i64 0)]):=.of (by kernel_rfl)
theorem zcZ {I:Qt}{av:Option Addr}{n c:Nat}{xs:List Int}(hS:Sl I 1 Z1 av n c xs)(hn:n≤100000)(lo hi:Int):ZA Tryz.prog 158 [.int .i64 lo,.int .i64 hi,.slice av n c] I (.bool (zfy lo hi xs)):=by
 intro g H w hw
 refine qe Tryz.func158 Tryz.ntmps158 hw ?_
 have hln:=hS.len
 refine zR (zA (zN (Qm (zR ?_))))
 refine zM ?_
 refine zQ ZE ?_
 refine zM (zN (Qw ?_))
 refine zU [(0,_),(1,_),(9,_),(10,_)] (fun T L0 mz E I' loc'=>∃ (k:Nat),mz=n-k∧E=(11,.int .i64 k)::T∧I=I'∧L0=loc'∧k≤n∧zfy lo hi (xs.take k)=true) ?_ (h:=⟨0,rfl,rfl,rfl,rfl,Nat.zero_le _,rfl⟩)
 rintro mz E I' loc' ⟨k,rfl,rfl,rfl,rfl,hk,hall⟩
 refine zR (zC (zN (Qm ?_)))
 refine zI ?_ ?_<;>intro hc12
 ·
  have hlt_k:k<n:=by have h:=hc12;simp at h;omega
  obtain ⟨x,hx⟩:∃ x,xs[k]? =some x:=⟨_,List.getElem?_eq_getElem (by omega)⟩
  refine Qr (Qd (Qm (Qw (zR ?_))))
  refine zV (zX ZE hS) ?_
  refine zV (Qc rfl Ql (fun hg=>by exact zzf hS hx rfl)) ?_
  refine zA ?_
  refine zN (zR ?_)
  refine zM ?_
  refine zM ?_
  refine zC ?_
  refine zM ?_
  refine QM 3 rfl rfl rfl ?_
  refine zJ (Qf rfl) ?_
  refine zJ (Qf rfl) ?_
  refine zJ (QD rfl rfl rfl) ?_
  refine Zb rfl rfl rfl rfl rfl ?_
  refine zN ?_
  refine zI ?_ ?_<;>intro hc22
  ·
   refine zR (zA (zN (Qs (Qj (Qe (Qe (Qj ?_)))))))
   refine Qe ?_
   first
   | exact zr rfl rfl (by rw [show zfy lo hi xs=false from by unfold zfy;rw [←List.take_append_drop (k+1) xs,List.all_append,List.take_add_one,hx,List.all_append];simp only [Option.toList,List.all_cons,List.all_nil];rw [show (decide (x<lo)||decide (x>hi))=true from hc22];simp])
  refine Qr (Qk (Qd (Qi (zB ?_))))
  refine zM (Qb ?_)
  exact zm (h:=⟨n-(k+1),by omega,k+1,rfl,rfl,rfl,rfl,by omega,by unfold zfy at hall ⊢;rw [List.take_add_one,hx,List.all_append,hall];simp only [Option.toList,List.all_cons,List.all_nil,Bool.and_true,Bool.true_and];rw [show (decide (x<lo)||decide (x>hi))=false from hc22];rfl⟩)
 have hge_k:n≤k:=by have h:=hc12;simp at h;omega
 have hke:xs.take k=xs:=List.take_of_length_le (by omega)
 rw [hke] at hall
 refine Zi (Qo (Qo (Qz (Qd (zR (zA (zN ?_)))))))
 refine Qs ?_
 exact zr rfl rfl (by rw [hall])
def zeg:List Value:=[.nilFunc,.int .i64 0,.int .i64 0,.int .i64 0,.func (.func 210) #[] #[],.int .i64 1,.int .i64 3,.int .i64 2,.func (.func 211) #[] #[],.int .i64 1,.int .i64 1048576,.int .i64 2,.func (.func 212) #[] #[],.int .i64 1,.int .i64 16,.int .i64 0,.func (.func 213) #[] #[],.int .i64 0,.int .i64 16,.int .i64 0,.func (.func 214) #[] #[],.int .i64 0,.int .i64 500,.int .i64 0,.func (.func 215) #[] #[],.int .i64 0,.int .i64 1048576,.int .i64 0]
theorem znJ {ck:Int}(h:Vp ck 1 6=true):∃ fn:Nat,((zeg.drop (ck.toNat*4)).take 4)=[.func (.func fn) #[] #[],.int .i64 (WJ ck).1,.int .i64 (WJ ck).2.1,.int .i64 (WJ ck).2.2]:=by
 rcases six h with rfl | rfl | rfl | rfl | rfl | rfl<;>exact ⟨_,rfl⟩
theorem zkD (I:Qt):ZA Tryz.prog 159 [] I (.agg zeg.toArray):=by
 intro g H w hw
 refine qe Tryz.func159 Tryz.ntmps159 hw ?_
 refine zR ?_
 refine Qq zpA rfl rfl (fun b_0=>?_)
 refine zN (zR ?_)
 refine zV (QK (ps:=[(0,_),(1,_),(2,_),(3,_)]) [_,_,_,_] XR rfl rfl) ?_
 refine zV (QK (ps:=[(0,_),(1,_),(2,_),(3,_)]) [_,_,_,_] XR rfl rfl) ?_
 refine zV (QK (ps:=[(0,_),(1,_),(2,_),(3,_)]) [_,_,_,_] XR rfl rfl) ?_
 refine zV (QK (ps:=[(0,_),(1,_),(2,_),(3,_)]) [_,_,_,_] XR rfl rfl) ?_
 refine zV (QK (ps:=[(0,_),(1,_),(2,_),(3,_)]) [_,_,_,_] XR rfl rfl) ?_
 refine zV (QK (ps:=[(0,_),(1,_),(2,_),(3,_)]) [_,_,_,_] XR rfl rfl) ?_
 refine zV (Vn (ps:=[(1,_),(2,_),(3,_),(4,_),(5,_),(6,_)]) [_,_,_,_,_,_,_,_,_,_,_,_,_,_,_,_,_,_,_,_,_,_,_,_,_,_,_,_] zc5 zpA rfl rfl) ?_
 refine zh zrB ?_
 refine zN (Qs ?_)
 exact ZX rfl rfl zsu Cells.g0 rfl (fun w hw=>⟨rfl,hw.drop⟩)
theorem zwl (I:Qt)(ck cl cn:Int):ZA Tryz.prog 93 [.agg #[.int .i64 ck,.int .i64 cl,.int .i64 cn]] I (.bool (zfd ck cl cn)):=by
 intro g H w hw
 refine qe Tryz.func93 Tryz.ntmps93 hw ?_
 have hIc:=zzm I
 refine zR ?_
 refine QR rfl rfl rfl (fun b_1=>?_)
 refine zA (zN (Qm (zR ?_)))
 refine zF WX ?_
 refine zL Ql ?_
 refine zpb [(0,_)] [Z1 ck] Y9 (fun b_6=>?_)
 refine QT (by repeat (first | exact ZR.here | apply ZR.there)) (fun I1 hI1 hb1=>?_)
 have hIc:=hIc.trans hI1
 have hA:=Sl.lit ([ck]:List Int) rfl YF (show I1 b_6=some (Obj.cells (([ck]:List Int).flatMap Z1).toArray 3 (0,0)) from hb1)
 refine qcV (vs:=[_,_,_]) rfl zdk (zcZ hA (by simp) 1 6) ?_
 rw [WO]
 refine zO (zN ?_)
 refine zI ?_ ?_<;>intro hc8
 ·
  have hck:Vp ck 1 6=false:=by simpa using hc8
  refine zR (zA (zN (Qs (Qe ?_))))
  exact zp hIc rfl rfl (by rw [zls hck])
 have hck:Vp ck 1 6=true:=by simpa using hc8
 obtain ⟨fn,hrow⟩:=znJ hck
 have h16:=six hck
 refine Qr (Qd ?_)
 refine zY [(1,_)] (fun T L0 E I' loc'=>∃ (p3:Nat),E=(3,Zw p3)::T∧I1=I'∧[(p3,.cells #[.func (.func fn) #[] #[],.int .i64 (WJ ck).1,.int .i64 (WJ ck).2.1,.int .i64 (WJ ck).2.2] 224 (0,0)),(b_1,.cells #[.int .i64 ck,.int .i64 cl,.int .i64 cn] 30 (0,0))]=loc'∧True) ?_ ?_
 ·
  have hD:=zzm I1
  refine Zt ?_
  refine QQ I1 [(b_1,.cells #[.int .i64 ck,.int .i64 cl,.int .i64 cn] 30 (0,0))] mixed ?_
  refine zT 1 rfl (Qa rfl WX) hD ?_
  refine zT 2 rfl (Qc rfl Ql (fun hg=>by exact QA.h0 rfl)) hD ?_
  refine QW 0 4 rfl rfl (by kernel_rfl) ?_ ?_
  ·
   refine qcV (vs:=[]) rfl zkS (zkD _) ?_
   refine Qb ?_
   refine zD hD ?_
   refine QW 3 4 rfl rfl (by kernel_rfl) ?_ ?_
   ·
    refine zV (JW (XE rfl rfl zc5 zgc (fun hg=>by omega)) (congrArg (fun l:List Value=>Value.agg l.toArray) hrow)) ?_
    refine Qb ?_
    refine zD hD ?_
    refine qd 4 rfl ?_
    refine Qq ziP rfl rfl (fun b_3=>?_)
    refine Qb ?_
    refine zD hD ?_
    refine qd 5 rfl ?_
    refine zh zf1 ?_
    refine Qb ?_
    refine zD hD ?_
    refine Qn (by kernel_rfl) ?_
    refine Qx ?_
    exact zm (h:=⟨_,rfl,rfl,rfl,trivial⟩)
   refine Qq ziP rfl rfl (fun b_3=>?_)
   refine Qb ?_
   refine zD hD ?_
   refine qd 3 rfl ?_
   refine zV (JW (XE rfl rfl zc5 zgc (fun hg=>by omega)) (congrArg (fun l:List Value=>Value.agg l.toArray) hrow)) ?_
   refine Qb ?_
   refine zD hD ?_
   refine qd 5 rfl ?_
   refine zh zf1 ?_
   refine Qb ?_
   refine zD hD ?_
   refine Qn (by kernel_rfl) ?_
   refine Qx ?_
   exact zm (h:=⟨_,rfl,rfl,rfl,trivial⟩)
  refine Qq ziP rfl rfl (fun b_3=>?_)
  refine Qb ?_
  refine zD hD ?_
  refine qd 0 rfl ?_
  refine qcV (vs:=[]) rfl zkS (zkD _) ?_
  refine Qb ?_
  refine zD hD ?_
  refine qd 3 rfl ?_
  refine zV (JW (XE rfl rfl zc5 zgc (fun hg=>by omega)) (congrArg (fun l:List Value=>Value.agg l.toArray) hrow)) ?_
  refine Qb ?_
  refine zD hD ?_
  refine qd 5 rfl ?_
  refine zh zf1 ?_
  refine Qb ?_
  refine zD hD ?_
  refine Qn (by kernel_rfl) ?_
  refine Qx ?_
  exact zm (h:=⟨_,rfl,rfl,rfl,trivial⟩)
 rintro E I' loc' ⟨p3,rfl,rfl,rfl,_⟩
 refine Qm ?_
 cases hlb:Vp cl 0 (WJ ck).2.2
 ·
  refine Qi ?_
  refine zF zdM ?_
  refine zL Ql ?_
  refine zF Jr ?_
  refine zL Ql ?_
  refine zpb [(0,_)] [Z1 cl] Y9 (fun b_17=>?_)
  refine QT (by repeat (first | exact ZR.here | apply ZR.there)) (fun I3 hI3 hb3=>?_)
  have hIc:=hIc.trans hI3
  have hB:=Sl.lit ([cl]:List Int) rfl YF (show I3 b_17=some (Obj.cells (([cl]:List Int).flatMap Z1).toArray 3 (0,0)) from hb3)
  refine qcV (vs:=[_,_,_]) rfl zdk (zcZ hB (by simp) 0 _) ?_
  rw [WO]
  rw [hlb]
  refine zM ?_
  refine ZV (dj:=19) rfl rfl rfl rfl rfl ?_
  refine ZV (dj:=19) rfl rfl rfl rfl rfl ?_
  refine ZV (dj:=19) rfl rfl rfl rfl rfl ?_
  refine ZV (dj:=19) rfl rfl rfl rfl rfl ?_
  refine ZV (dj:=19) rfl rfl rfl rfl rfl ?_
  refine ZV (dj:=19) rfl rfl rfl rfl rfl ?_
  refine ZV (dj:=19) rfl rfl rfl rfl rfl ?_
  refine ZV (dj:=19) rfl rfl rfl rfl rfl ?_
  refine zV (Y0 rfl rfl rfl) ?_
  refine zA (zN (Qs ?_))
  first
  | exact zp hIc rfl rfl (by rw [zkd hck hlb]<;>rfl)
 refine Qi ?_
 refine zF zdM ?_
 refine zL Ql ?_
 refine zF Jr ?_
 refine zL Ql ?_
 refine zpb [(0,_)] [Z1 cl] Y9 (fun b_17=>?_)
 refine QT (by repeat (first | exact ZR.here | apply ZR.there)) (fun I4 hI4 hb4=>?_)
 have hIc:=hIc.trans hI4
 have hB:=Sl.lit ([cl]:List Int) rfl YF (show I4 b_17=some (Obj.cells (([cl]:List Int).flatMap Z1).toArray 3 (0,0)) from hb4)
 refine qcV (vs:=[_,_,_]) rfl zdk (zcZ hB (by simp) 0 _) ?_
 rw [WO]
 rw [hlb]
 refine zM ?_
 refine QN (dj:=19) rfl rfl rfl ?_
 refine zF zkf ?_
 refine QN (dj:=19) rfl rfl rfl ?_
 refine zL Ql ?_
 refine QN (dj:=19) rfl rfl rfl ?_
 refine zF zjR ?_
 refine QN (dj:=19) rfl rfl rfl ?_
 refine zL Ql ?_
 refine QN (dj:=19) rfl rfl rfl ?_
 refine zF JX ?_
 refine QN (dj:=19) rfl rfl rfl ?_
 refine zL Ql ?_
 refine QN (dj:=19) rfl rfl rfl ?_
 refine zpb [(0,_)] [Z1 cn] Y9 (fun b_26=>?_)
 refine QT (by repeat (first | exact ZR.here | apply ZR.there)) (fun I5 hI5 hb5=>?_)
 have hIc:=hIc.trans hI5
 have hC:=Sl.lit ([cn]:List Int) rfl YF (show I5 b_26=some (Obj.cells (([cn]:List Int).flatMap Z1).toArray 3 (0,0)) from hb5)
 refine QN (dj:=19) rfl rfl rfl ?_
 refine qcV (vs:=[_,_,_]) rfl zdk (zcZ hC (by simp) _ _) ?_
 refine zV (Q5 rfl rfl rfl) ?_
 refine zA (zN (Qs ?_))
 first
 | exact zp hIc rfl rfl (by rw [zno hck hlb,←WO];rfl)
end
section
open Go Go.Kn Go.Proofs
theorem X6:AgT Tryz.prog 30 3:=.of (by kernel_rfl)
theorem zl4:EqT Tryz.prog 30 [.int,.int,.int]:=⟨by kernel_rfl,by kernel_rfl,by kernel_rfl,by kernel_rfl⟩
theorem Yw:QL Tryz.prog 32 0 0:=.of (by kernel_rfl)
theorem V0:QL Tryz.prog 32 1 1:=.of (by kernel_rfl)
theorem YH:QL Tryz.prog 32 2 2:=.of (by kernel_rfl)
theorem UX:QL Tryz.prog 32 3 3:=.of (by kernel_rfl)
theorem Ku:QL Tryz.prog 32 4 4:=.of (by kernel_rfl)
theorem J6:QL Tryz.prog 32 5 5:=.of (by kernel_rfl)
theorem Js:QL Tryz.prog 32 6 6:=.of (by kernel_rfl)
theorem zqm:Fun Tryz.prog 90:=.of Tryz.func90 (by kernel_rfl) (by kernel_rfl)
theorem zvR:Fun Tryz.prog 93:=.of Tryz.func93 (by kernel_rfl) (by kernel_rfl)
theorem QY:MpT Tryz.prog 136 3 4 (.bool false):=⟨by kernel_rfl,.of (by kernel_rfl)⟩
theorem zck:PlT Tryz.prog 30 #[(0,1),(1,1),(2,1)] (.agg #[(.int .i64 0),(.int .i64 0),(.int .i64 0)]):=⟨.of (by kernel_rfl),by kernel_rfl,fun w=>by kernel_rfl⟩
theorem zme:ScT Tryz.prog 136:=.of (by kernel_rfl)
theorem zjQ (I:Qt)(n lo hi:Int):ZA Tryz.prog 90 [.int .i64 n,.int .i64 lo,.int .i64 hi] I (.bool (Vp n lo hi)):=by
 intro g H w hw
 refine qe Tryz.func90 Tryz.ntmps90 hw ?_
 refine zR (zA ?_)
 refine zN (zR ?_)
 refine zM ?_
 refine zM ?_
 refine zC ?_
 refine zM ?_
 refine Qp 3 rfl rfl rfl ?_
 refine zK (Qf rfl) ?_
 refine zK (Qf rfl) ?_
 refine zK (QD rfl rfl rfl) ?_
 refine Qy rfl rfl rfl rfl rfl ?_
 refine zA (zN (Qs ?_))
 exact Qv rfl rfl (fun w hw=>⟨rfl,hw.drop⟩)
theorem zuh {I:Qt}{b7:Nat}{x:Lm}(hX:I b7=some (.cells (Zl x).toArray 32 (0,0)))(b5:Nat)(last:Int):Vl Tryz.prog 89 [Zw b7,Zw b5] I [(b5,.cells #[.int .i64 last] 3 (0,0))] (fun v I' L'=>v= .bool (znn last x)∧I'=I∧L'=[(b5,.cells #[.int .i64 last] 3 (0,0))]):=by
 intro g H w hw
 refine qe Tryz.func89 Tryz.ntmps89 hw ?_
 refine zR (zA ?_)
 refine zN (zR ?_)
 refine zF Yw ?_
 refine zV (Qc rfl Ql (fun hg=>by exact QA.imm hX rfl)) ?_
 refine zL Ql ?_
 refine zC ?_
 refine zM ?_
 refine QM 4 rfl rfl rfl ?_
 refine zJ (Qa rfl Yw) ?_
 refine zJ (Qc rfl Ql (fun hg=>by exact QA.imm hX rfl)) ?_
 refine zJ (QD rfl rfl rfl) ?_
 refine Zb rfl rfl rfl rfl rfl ?_
 refine zM ?_
 refine QM 9 rfl rfl rfl ?_
 refine zJ (Qa rfl V0) ?_
 refine zJ (Qc rfl Ql (fun hg=>by exact QA.imm hX rfl)) ?_
 refine qf (vs:=[_,_,_]) rfl zqm (fun hg=>zjQ _ _ _ _) ?_
 refine zJ (Zs rfl) ?_
 refine Zb rfl rfl rfl rfl rfl ?_
 refine zA (zN (Qs ?_))
 exact Qv rfl rfl (fun w hw=>⟨_,I,_,rfl,zzm _,hw,rfl,rfl,rfl⟩)
theorem zwn {I:Qt}{b7:Nat}{x:Lm}(hX:I b7=some (.cells (Zl x).toArray 32 (0,0))):ZA Tryz.prog 91 [Zw b7] I (.bool (zmX x)):=by
 intro g H w hw
 refine qe Tryz.func91 Tryz.ntmps91 hw ?_
 refine zR (zA ?_)
 refine zN (zR ?_)
 refine zF UX ?_
 refine zV (Qc rfl Ql (fun hg=>by exact QA.imm hX rfl)) ?_
 refine zC ?_
 refine zM ?_
 refine QM 3 rfl rfl rfl ?_
 refine zJ (Qa rfl UX) ?_
 refine zJ (Qc rfl Ql (fun hg=>by exact QA.imm hX rfl)) ?_
 refine zJ (Qa rfl Ku) ?_
 refine zJ (Qc rfl Ql (fun hg=>by exact QA.imm hX rfl)) ?_
 refine zJ (QD rfl rfl rfl) ?_
 refine Zb rfl rfl rfl rfl rfl ?_
 refine zM ?_
 refine QM 10 rfl rfl rfl ?_
 refine zJ (Qa rfl Ku) ?_
 refine zJ (Qc rfl Ql (fun hg=>by exact QA.imm hX rfl)) ?_
 refine zJ (QD rfl rfl rfl) ?_
 refine Zb rfl rfl rfl rfl rfl ?_
 refine zM ?_
 refine QM 15 rfl rfl rfl ?_
 refine zJ (Qa rfl J6) ?_
 refine zJ (Qc rfl Ql (fun hg=>by exact QA.imm hX rfl)) ?_
 refine qf (vs:=[_,_,_]) rfl zqm (fun hg=>zjQ _ _ _ _) ?_
 refine zJ (Zs rfl) ?_
 refine Zb rfl rfl rfl rfl rfl ?_
 refine zA (zN (Qs ?_))
 exact Qv rfl rfl (fun w hw=>⟨rfl,hw.drop⟩)
theorem zd7 {I:Qt}{loc:Go.Kn.Loc}{b7:Nat}{x:Lm}(hX:I b7=some (.cells (Zl x).toArray 32 (0,0))):Cells I loc b7 (0+6) [.int .i64 x.ck,.int .i64 x.cl,.int .i64 x.cn]:=by
 intro j v hj
 match j,hj with
 | 0,h=>cases h;exact QA.imm hX rfl
 | 1,h=>cases h;exact QA.imm hX rfl
 | 2,h=>cases h;exact QA.imm hX rfl
theorem zuC {I:Qt}{b7:Nat}{x:Lm}(hX:I b7=some (.cells (Zl x).toArray 32 (0,0))):ZA Tryz.prog 92 [Zw b7] I (.bool (zmR x)):=by
 intro g H w hw
 refine qe Tryz.func92 Tryz.ntmps92 hw ?_
 refine zR (zA ?_)
 refine zN (zR ?_)
 refine zF Js ?_
 refine zV (Qg rfl X6 (fun hg=>zd7 hX) rfl) ?_
 refine qcV (vs:=[_]) rfl zvR (zwl _ _ _ _) ?_
 refine zO ?_
 refine zM ?_
 refine Qp 4 rfl rfl rfl ?_
 refine zK (Qa rfl Js) ?_
 refine zK (Qg rfl X6 (fun hg=>by exact zd7 hX) rfl) ?_
 refine zK (QK (ps:=[]) [_,_,_] zck rfl rfl) ?_
 refine zK (zlr rfl rfl zl4 rfl) ?_
 refine zK (Qf rfl) ?_
 refine QM 9 rfl rfl rfl ?_
 refine zJ (Qa rfl YH) ?_
 refine zJ (Qc rfl Ql (fun hg=>by exact QA.imm hX rfl)) ?_
 refine zJ (QD rfl rfl rfl) ?_
 refine za6 rfl rfl rfl (.some rfl rfl rfl rfl gbt) rfl rfl ?_
 refine Qy rfl rfl rfl rfl rfl ?_
 refine zA (zN (Qs ?_))
 exact Qv rfl rfl (fun w hw=>⟨rfl,hw.drop⟩)
theorem zuG {I:Qt}{b7:Nat}{x:Lm}(hX:I b7=some (.cells (Zl x).toArray 32 (0,0))){b9 b4 b8 r16:Nat}{met:Bool}{old:Lm}(hM:I b9=some (.cells #[.bool met] 4 (0,0)))(h4:I b4=some (.cells #[.map (some r16)] 136 (0,0)))(hO:I b8=some (.cells (Zl old).toArray 32 (0,0)))(m:List (Int×Bool)){b5:Nat}{o5:Obj}:Vl Tryz.prog 94 [Zw b7,Zw b9,Zw b4,Zw b8] I [(b5,o5),(r16,Yk (.int .i64) .bool m)] (fun v I' L'=>v= .bool (zrg met ((Zx m x.ends).getD false) old x)∧I'=I∧L'=[(b5,o5),(r16,Yk (.int .i64) .bool m)]):=by
 intro g H w hw
 refine qe Tryz.func94 Tryz.ntmps94 hw ?_
 refine zR (zA ?_)
 refine zN (zR ?_)
 refine zF YH ?_
 refine zV (Qc rfl Ql (fun hg=>by exact QA.imm hX rfl)) ?_
 refine zC ?_
 refine zM ?_
 refine Qp 3 rfl rfl rfl ?_
 refine zK (Qc rfl zo9 (fun hg=>by exact QA.imm hM rfl)) ?_
 refine zK (Zs rfl) ?_
 refine zK (Qf rfl) ?_
 refine QM 6 rfl rfl rfl ?_
 refine zJ (Qc rfl zme (fun hg=>by exact QA.imm h4 rfl)) ?_
 refine zJ (Qa rfl YH) ?_
 refine zJ (Qc rfl Ql (fun hg=>by exact QA.imm hX rfl)) ?_
 refine zJ (YI (m:=m) (ek:=Value.int .i64) (a:=x.ends) QY Q3 rfl rfl (fun _=>(by exact Mem.m1))) ?_
 refine za6 rfl rfl rfl (.some rfl rfl rfl rfl gbt) rfl rfl ?_
 refine zK (Qf rfl) ?_
 refine QM 12 rfl rfl rfl ?_
 refine zJ (Qa rfl V0) ?_
 refine zJ (Qc rfl Ql (fun hg=>by exact QA.imm hO rfl)) ?_
 refine zJ (Qa rfl V0) ?_
 refine zJ (Qc rfl Ql (fun hg=>by exact QA.imm hX rfl)) ?_
 refine zJ (QD rfl rfl rfl) ?_
 refine za6 rfl rfl rfl (.some rfl rfl rfl rfl gbt) rfl rfl ?_
 refine zK (Qf rfl) ?_
 refine QM 19 rfl rfl rfl ?_
 refine zJ (Qa rfl J6) ?_
 refine zJ (Qc rfl Ql (fun hg=>by exact QA.imm hO rfl)) ?_
 refine zJ (Qa rfl J6) ?_
 refine zJ (Qc rfl Ql (fun hg=>by exact QA.imm hX rfl)) ?_
 refine zJ (QD rfl rfl rfl) ?_
 refine za6 rfl rfl rfl (.some rfl rfl rfl rfl gbt) rfl rfl ?_
 refine Qy rfl rfl rfl rfl rfl ?_
 refine zA (zN (Qs ?_))
 exact Qv rfl rfl (fun w hw=>⟨_,I,_,rfl,zzm _,hw,rfl,rfl,rfl⟩)
end
section
open Go Go.Kn Go.Proofs
theorem JP:AgT Tryz.prog 32 9:=.of (by kernel_rfl)
theorem zrM:ElT Tryz.prog 140 48 1 8:=.of (by kernel_rfl)
theorem zw0:Fun Tryz.prog 89:=.of Tryz.func89 (by kernel_rfl) (by kernel_rfl)
theorem zwm:Fun Tryz.prog 91:=.of Tryz.func91 (by kernel_rfl) (by kernel_rfl)
theorem zu9:Fun Tryz.prog 92:=.of Tryz.func92 (by kernel_rfl) (by kernel_rfl)
theorem zvF:Fun Tryz.prog 94:=.of Tryz.func94 (by kernel_rfl) (by kernel_rfl)
theorem Xx:MpT Tryz.prog 135 3 32 (.agg #[(.int .i64 0),(.int .i64 0),(.int .i64 0),(.int .i64 0),(.int .i64 0),(.int .i64 0),(.int .i64 0),(.int .i64 0),(.int .i64 0)]):=⟨by kernel_rfl,.of (by kernel_rfl)⟩
theorem zgw:ScT Tryz.prog 48:=.of (by kernel_rfl)
theorem zbS:SlT Tryz.prog 140 48 1:=.of (by kernel_rfl)
theorem ZJ:SlT Tryz.prog 62 32 9:=.of (by kernel_rfl)
theorem zqA:SzT Tryz.prog 136 1:=.of (by kernel_rfl)
theorem X4:SzT Tryz.prog 32 9:=.of (by kernel_rfl)
theorem zv4:Y7 Tryz.prog 136 (.map none):=.of (by kernel_rfl)
theorem zzb:Y7 Tryz.prog 3 (.int .i64 0):=.of (by kernel_rfl)
theorem zeS:Y7 Tryz.prog 32 (.agg #[(.int .i64 0),(.int .i64 0),(.int .i64 0),(.int .i64 0),(.int .i64 0),(.int .i64 0),(.int .i64 0),(.int .i64 0),(.int .i64 0)]):=.of (by kernel_rfl)
theorem zza:Y7 Tryz.prog 4 (.bool false):=.of (by kernel_rfl)
theorem zlC {I:Qt}{av:Option Addr}{n c:Nat}{xs:List Lm}(hS:Sl I 9 Zl av n c xs)(hn:n≤100000):ZA Tryz.prog 37 [.slice av n c] I (.int .i64 (zfI xs)):=by
 intro g H w hw
 refine qe Tryz.func37 Tryz.ntmps37 hw ?_
 have hIc:=zzm I
 have hln:=hS.len
 refine zR (zA (zN (Qm (zR ?_))))
 refine zM ?_
 refine zQ ZJ ?_
 refine zC (zN ?_)
 refine zI ?_ ?_<;>intro hc14
 ·
  have h5:xs.length>512:=by have h:=hc14;simp at h;omega
  refine zR (zA (zN (Qs (Qe ?_))))
  exact zp hIc rfl rfl (by rw [zhJ h5])
 have h5:¬xs.length>512:=by have h:=hc14;simp at h;omega
 refine Qr (Qd (zR ?_))
 refine Z3 rfl rfl (fun r_15=>?_)
 refine zA ?_
 refine zN (zR ?_)
 refine Z3 rfl rfl (fun r_16=>?_)
 refine Qq zv4 rfl rfl (fun b_4=>?_)
 refine zS zqA ?_
 refine Qb ?_
 refine QH .here (fun I1 hI1 hb1=>?_)
 have hS:=hS.mono hI1;have hIc:=hIc.trans hI1
 have h4:=BxI.of hb1
 refine Qd (zR ?_)
 refine Qq zzb rfl rfl (fun b_5=>?_)
 refine zS U6 ?_
 refine zN (Qm (zR (zM ?_)))
 refine zQ ZJ ?_
 refine zM (zN (Qw ?_))
 refine zU [(3,_),(4,_),(5,_),(17,_),(18,_)] (fun T L0 mz E I' loc'=>∃ (k:Nat),mz=n-k∧E=(19,.int .i64 k)::T∧HLe I1 I'∧[(b_5,.cells #[.int .i64 (Wo (xs.take k))] 3 (0,0)),(r_16,Yk (.int .i64) .bool (rpM (xs.take k))),(r_15,Yk (.int .i64) V8 (knM (xs.take k)))]=loc'∧k≤n∧(∀ j y,j<k→xs[j]? =some y→zb2 (xs.take j) y=false)) ?_ (h:=⟨0,rfl,rfl,zzm _,rfl,Nat.zero_le _,fun j y h=>absurd h (Nat.not_lt_zero _)⟩)
 rintro mz E J2 loc' ⟨k,rfl,rfl,hJ,rfl,hk,hall⟩
 have hS:=hS.mono hJ;have h4:=h4.mono hJ;have hIc:=hIc.trans hJ
 have hB0:=hJ
 refine zR (zC (zN (Qm ?_)))
 refine zI ?_ ?_<;>intro hc20
 ·
  have hlt_k:k<n:=by have h:=hc20;simp at h;omega
  obtain ⟨x,hx⟩:∃ x,xs[k]? =some x:=⟨_,List.getElem?_eq_getElem (by omega)⟩
  refine Qr (Qd (Qm (Qw (zR ?_))))
  refine zV (zX ZJ hS) ?_
  refine zV (Qg rfl JP (fun hg=>by exact zzn hS hx) rfl) ?_
  refine Qq zeS rfl rfl (fun b_7=>?_)
  refine zh X4 ?_
  refine zN (zR ?_)
  refine zM ?_
  refine zF YH ?_
  refine zL Ql ?_
  refine zV (WV rfl rfl rfl) ?_
  refine zV (zd1 Vt ((zg1 (xs.take k) x).getD Vt) ((zg1 (xs.take k) x).isSome) rfl rfl rfl (ek:=Value.int .i64) (ev:=V8) (m:=knM (xs.take k)) (a:=IntKind.i64.wrap (x.ends-1)) Xx Q3 rfl rfl (fun _=>(by exact Mem.m3))) ?_
  refine zM ?_
  refine zE ?_
  refine zE ?_
  refine Qq zeS rfl rfl (fun b_8=>?_)
  refine Qq zza rfl rfl (fun b_9=>?_)
  refine zh X4 ?_
  refine zS zxq ?_
  refine zN (Qm (Qm ?_))
  refine QH .here (fun I3 hI3 hb3=>?_)
  have hS:=hS.mono hI3;have h4:=h4.mono hI3;have hIc:=hIc.trans hI3;have hB0:=hB0.trans hI3
  have h9:=BxI.of hb3
  refine QH .here (fun I4 hI4 hb4=>?_)
  have hS:=hS.mono hI4;have h4:=h4.mono hI4;have h9:=h9.mono hI4;have hIc:=hIc.trans hI4;have hB0:=hB0.trans hI4
  have h8:=BxI.of hb4
  refine QH .here (fun I5 hI5 hb5=>?_)
  have hS:=hS.mono hI5;have h4:=h4.mono hI5;have h9:=h9.mono hI5;have h8:=h8.mono hI5;have hIc:=hIc.trans hI5;have hB0:=hB0.trans hI5
  have h7:=BxI.of hb5
  refine Qi ?_
  refine zV (Yu (us:=[]) (vs:=[_,_]) rfl rfl) ?_
  refine zV (Yu (us:=[]) (vs:=[_]) rfl rfl) ?_
  refine zV (Yu (us:=[]) (vs:=[_]) rfl rfl) ?_
  refine zV (Yu (us:=[]) (vs:=[_,_,_,_]) rfl rfl) ?_
  refine zpb [(0,_),(1,_),(2,_),(3,_)] [zcU (.func (.func 89) #[] #[Zw b_7,Zw b_5]),zcU (.func (.func 91) #[] #[Zw b_7]),zcU (.func (.func 92) #[] #[Zw b_7]),zcU (.func (.func 94) #[] #[Zw b_7,Zw b_9,Zw b_4,Zw b_8])] zrM (fun b_35=>?_)
  refine QT (by repeat (first | exact ZR.here | apply ZR.there)) (fun I6 hI6 hb6=>?_)
  have hS:=hS.mono hI6;have h4:=h4.mono hI6;have h9:=h9.mono hI6;have h8:=h8.mono hI6;have h7:=h7.mono hI6;have hIc:=hIc.trans hI6;have hB0:=hB0.trans hI6
  have hF:=Sl.lit ([.func (.func 89) #[] #[Zw b_7,Zw b_5],.func (.func 91) #[] #[Zw b_7],.func (.func 92) #[] #[Zw b_7],.func (.func 94) #[] #[Zw b_7,Zw b_9,Zw b_4,Zw b_8]]:List Value) rfl zdN (show I6 b_35=some (Obj.cells (([.func (.func 89) #[] #[Zw b_7,Zw b_5],.func (.func 91) #[] #[Zw b_7],.func (.func 92) #[] #[Zw b_7],.func (.func 94) #[] #[Zw b_7,Zw b_9,Zw b_4,Zw b_8]]:List Value).flatMap zcU).toArray 48 (0,0)) from hb6)
  refine zQ zbS ?_
  refine zM (zN (Qw ?_))
  refine zU [(3,_),(4,_),(5,_),(7,_),(17,_),(18,_),(19,_),(35,_),(36,_)] (fun T L0 mz E I' loc'=>∃ (i:Nat),mz=4-i∧E=(37,.int .i64 i)::T∧I6=I'∧[(b_5,.cells #[.int .i64 (Wo (xs.take k))] 3 (0,0)),(r_16,Yk (.int .i64) .bool (rpM (xs.take k))),(r_15,Yk (.int .i64) V8 (knM (xs.take k)))]=loc'∧i≤4∧(0<i→znn (Wo (xs.take k)) x=false)∧(1<i→zmX x=false)∧(2<i→zmR x=false)∧(3<i→zrg (zg1 (xs.take k) x).isSome ((Zx (rpM (xs.take k)) x.ends).getD false) ((zg1 (xs.take k) x).getD Vt) x=false)) ?_ (h:=⟨0,rfl,rfl,rfl,rfl,Nat.zero_le _,fun h=>absurd h (by omega),fun h=>absurd h (by omega),fun h=>absurd h (by omega),fun h=>absurd h (by omega)⟩)
  rintro mz E I' loc' ⟨i,rfl,rfl,rfl,rfl,hi,q0,q1,q2,q3⟩
  refine zR (zC (zN (Qm ?_)))
  refine zI ?_ ?_<;>intro hc38
  ·
   have hi4:i<4:=by have h:=hc38;simp at h;omega
   refine Qr (Qd (Qm (Qw (Qm ?_))))
   rcases (show i=0∨i=1∨i=2∨i=3 by omega) with hi | hi | hi | hi
   ·
    have hfi:([.func (.func 89) #[] #[Zw b_7,Zw b_5],.func (.func 91) #[] #[Zw b_7],.func (.func 92) #[] #[Zw b_7],.func (.func 94) #[] #[Zw b_7,Zw b_9,Zw b_4,Zw b_8]]:List Value)[i]? =some (.func (.func 89) #[] #[Zw b_7,Zw b_5]):=by rw [hi];rfl
    refine Qi ?_
    refine zV (QG rfl rfl zbS (by assumption) (fun hg=>by omega)) ?_
    refine zV (Qc rfl zgw (fun hg=>by exact zzf hF hfi rfl)) ?_
    refine zA ?_
    refine zN (zR ?_)
    refine zM ?_
    refine Ks (cap:=[Zw b_7,Zw b_5]) (vs:=[]) rfl rfl zw0 (.cons .here .nil) (zuh h7.out b_5 _) rfl rfl ?_
    rintro vv8 I8 L8 hI8 ⟨rfl,rfl,rfl⟩
    have hIc:=hIc.trans hI8
    refine zN ?_
    refine zI ?_ ?_<;>intro hc42
    ·
     refine zR (zA (zN (Qs (Qj (Qe (Qe (Qj ?_)))))))
     refine Qe (Qj (Qe (Qe (Qj (Qe ?_)))))
     exact zp hIc rfl rfl (by rw [VE h5 hx (zv5 hc42)])
    refine Qr (Qk (Qd (Qi (zB ?_))))
    refine zM (Qb ?_)
    exact Q9 _ _ ⟨4-(i+1),by omega,i+1,rfl,rfl,rfl,rfl,by omega,fun _=>by exact hc42,fun h=>by exact absurd h (by omega),fun h=>by exact absurd h (by omega),fun h=>by exact absurd h (by omega)⟩ (.cons rfl (.cons rfl (.cons rfl (.cons rfl (.cons rfl (.cons rfl (.cons rfl (.cons rfl (.cons rfl (.cons rfl .nil)))))))))) (by (try rw [Zh hx,Ka,U2,US]);repeat (first | exact .refl | exact QJ | refine QZ ?_ | refine .drop ?_ | refine QO ?_))
   ·
    have hfi:([.func (.func 89) #[] #[Zw b_7,Zw b_5],.func (.func 91) #[] #[Zw b_7],.func (.func 92) #[] #[Zw b_7],.func (.func 94) #[] #[Zw b_7,Zw b_9,Zw b_4,Zw b_8]]:List Value)[i]? =some (.func (.func 91) #[] #[Zw b_7]):=by rw [hi];rfl
    refine Qi ?_
    refine zV (QG rfl rfl zbS (by assumption) (fun hg=>by omega)) ?_
    refine zV (Qc rfl zgw (fun hg=>by exact zzf hF hfi rfl)) ?_
    refine zA ?_
    refine zN (zR ?_)
    refine zM ?_
    refine Ks (cap:=[Zw b_7]) (vs:=[]) rfl rfl zwm .nil ((zwn h7.out).m) rfl rfl ?_
    rintro vv9 I9 L9 hI9 ⟨rfl,rfl,rfl⟩
    have hIc:=hIc.trans hI9
    refine zN ?_
    refine zI ?_ ?_<;>intro hc42
    ·
     refine zR (zA (zN (Qs (Qj (Qe (Qe (Qj ?_)))))))
     refine Qe (Qj (Qe (Qe (Qj (Qe ?_)))))
     exact zp hIc rfl rfl (by rw [VE h5 hx (zvN hc42)])
    refine Qr (Qk (Qd (Qi (zB ?_))))
    refine zM (Qb ?_)
    exact Q9 _ _ ⟨4-(i+1),by omega,i+1,rfl,rfl,rfl,rfl,by omega,fun _=>by exact q0 (by omega),fun h=>by exact hc42,fun h=>by exact absurd h (by omega),fun h=>by exact absurd h (by omega)⟩ (.cons rfl (.cons rfl (.cons rfl (.cons rfl (.cons rfl (.cons rfl (.cons rfl (.cons rfl (.cons rfl (.cons rfl .nil)))))))))) (by (try rw [Zh hx,Ka,U2,US]);repeat (first | exact .refl | exact QJ | refine QZ ?_ | refine .drop ?_ | refine QO ?_))
   ·
    have hfi:([.func (.func 89) #[] #[Zw b_7,Zw b_5],.func (.func 91) #[] #[Zw b_7],.func (.func 92) #[] #[Zw b_7],.func (.func 94) #[] #[Zw b_7,Zw b_9,Zw b_4,Zw b_8]]:List Value)[i]? =some (.func (.func 92) #[] #[Zw b_7]):=by rw [hi];rfl
    refine Qi ?_
    refine zV (QG rfl rfl zbS (by assumption) (fun hg=>by omega)) ?_
    refine zV (Qc rfl zgw (fun hg=>by exact zzf hF hfi rfl)) ?_
    refine zA ?_
    refine zN (zR ?_)
    refine zM ?_
    refine Ks (cap:=[Zw b_7]) (vs:=[]) rfl rfl zu9 .nil ((zuC h7.out).m) rfl rfl ?_
    rintro vv10 I10 L10 hI10 ⟨rfl,rfl,rfl⟩
    have hIc:=hIc.trans hI10
    refine zN ?_
    refine zI ?_ ?_<;>intro hc42
    ·
     refine zR (zA (zN (Qs (Qj (Qe (Qe (Qj ?_)))))))
     refine Qe (Qj (Qe (Qe (Qj (Qe ?_)))))
     exact zp hIc rfl rfl (by rw [VE h5 hx (zum hc42)])
    refine Qr (Qk (Qd (Qi (zB ?_))))
    refine zM (Qb ?_)
    exact Q9 _ _ ⟨4-(i+1),by omega,i+1,rfl,rfl,rfl,rfl,by omega,fun _=>by exact q0 (by omega),fun h=>by exact q1 (by omega),fun h=>by exact hc42,fun h=>by exact absurd h (by omega)⟩ (.cons rfl (.cons rfl (.cons rfl (.cons rfl (.cons rfl (.cons rfl (.cons rfl (.cons rfl (.cons rfl (.cons rfl .nil)))))))))) (by (try rw [Zh hx,Ka,U2,US]);repeat (first | exact .refl | exact QJ | refine QZ ?_ | refine .drop ?_ | refine QO ?_))
   have hfi:([.func (.func 89) #[] #[Zw b_7,Zw b_5],.func (.func 91) #[] #[Zw b_7],.func (.func 92) #[] #[Zw b_7],.func (.func 94) #[] #[Zw b_7,Zw b_9,Zw b_4,Zw b_8]]:List Value)[i]? =some (.func (.func 94) #[] #[Zw b_7,Zw b_9,Zw b_4,Zw b_8]):=by rw [hi];rfl
   refine Qi ?_
   refine zV (QG rfl rfl zbS (by assumption) (fun hg=>by omega)) ?_
   refine zV (Qc rfl zgw (fun hg=>by exact zzf hF hfi rfl)) ?_
   refine zA ?_
   refine zN (zR ?_)
   refine zM ?_
   refine Ks (cap:=[Zw b_7,Zw b_9,Zw b_4,Zw b_8]) (vs:=[]) rfl rfl zvF (.cons .here (.cons .here .nil)) (zuG h7.out h9.out h4.out h8.out (rpM (xs.take k))) rfl rfl ?_
   rintro vv11 I11 L11 hI11 ⟨rfl,rfl,rfl⟩
   have hIc:=hIc.trans hI11
   refine zN ?_
   refine zI ?_ ?_<;>intro hc42
   ·
    refine zR (zA (zN (Qs (Qj (Qe (Qe (Qj ?_)))))))
    refine Qe (Qj (Qe (Qe (Qj (Qe ?_)))))
    exact zp hIc rfl rfl (by rw [VE h5 hx (zvj hc42)])
   refine Qr (Qk (Qd (Qi (zB ?_))))
   refine zM (Qb ?_)
   exact Q9 _ _ ⟨4-(i+1),by omega,i+1,rfl,rfl,rfl,rfl,by omega,fun _=>by exact q0 (by omega),fun h=>by exact q1 (by omega),fun h=>by exact q2 (by omega),fun h=>by exact hc42⟩ (.cons rfl (.cons rfl (.cons rfl (.cons rfl (.cons rfl (.cons rfl (.cons rfl (.cons rfl (.cons rfl (.cons rfl .nil)))))))))) (by (try rw [Zh hx,Ka,U2,US]);repeat (first | exact .refl | exact QJ | refine QZ ?_ | refine .drop ?_ | refine QO ?_))
  have hi4:4≤i:=by have h:=hc38;simp at h;omega
  have hbad:zb2 (xs.take k) x=false:=zrb (q0 (by omega)) (q1 (by omega)) (q2 (by omega)) (q3 (by omega))
  refine Zi (Qo (Qo (Qz (Qd ?_))))
  have hD:=zzm I6
  refine Zt ?_
  refine QQ I6 [] mixed ?_
  refine zT 0 rfl (Qf rfl) hD ?_
  refine zT 1 rfl (Qa rfl Yw) hD ?_
  refine zT 2 rfl (Qc rfl Ql (fun hg=>by exact QA.imm h7.out rfl)) hD ?_
  refine zT 3 rfl (Qc rfl zme (fun hg=>by exact QA.imm h4.out rfl)) hD ?_
  refine zT 4 rfl (Qa rfl YH) hD ?_
  refine zT 5 rfl (Qc rfl Ql (fun hg=>by exact QA.imm h7.out rfl)) hD ?_
  refine zT 6 rfl (Qa rfl Yw) hD ?_
  refine zT 7 rfl (Qc rfl Ql (fun hg=>by exact QA.imm h7.out rfl)) hD ?_
  refine zT 8 rfl (Qg rfl JP (fun hg=>by exact BxI.cells (vs:=Zl x) h7) rfl) hD ?_
  refine qd 9 rfl ?_
  refine zS U6 ?_
  refine Qb ?_
  refine zD hD ?_
  refine qd 10 rfl ?_
  refine Z6 (ek:=Value.int .i64) (ev:=V8) (m:=knM (xs.take k)) (a:=x.no) x Xx Q3 rfl rfl rfl rfl (by repeat (first | exact Upd.here | apply Upd.there | apply Qu)) ?_
  refine Qb ?_
  refine zD hD ?_
  refine qd 11 rfl ?_
  refine Z6 (ek:=Value.int .i64) (ev:=Value.bool) (m:=rpM (xs.take k)) (a:=x.ends) true QY Q3 rfl rfl rfl rfl (by repeat (first | exact Upd.here | apply Upd.there | apply Qu)) ?_
  refine Qb ?_
  refine zD hD ?_
  refine Qn (by kernel_rfl) ?_
  refine Qx ?_
  refine Qk (Qd (Qi (zB ?_)))
  refine zM (Qb ?_)
  exact Q9 _ _ ⟨n-(k+1),by omega,k+1,rfl,rfl,hB0,rfl,by omega,VA hx hall hbad⟩ (.cons rfl (.cons rfl (.cons rfl (.cons rfl (.cons rfl (.cons rfl .nil)))))) (by (try rw [Zh hx,Ka,U2,US]);repeat (first | exact .refl | exact QJ | refine QZ ?_ | refine .drop ?_ | refine QO ?_))
 have hge_k:n≤k:=by have h:=hc20;simp at h;omega
 refine Zi (Qo (Qo (Qz (Qd (zR (zA (zN ?_)))))))
 refine Qs ?_
 exact zp hIc rfl rfl (by rw [zi1 h5 (fun j y hj hy=>hall j y (by omega) hy)])
end
section
open Go Go.Kn Go.Proofs
def orF:List Int→Int
 | []=>0
 | x::xs=>if x≠0 then x else orF xs
theorem zas:∀ {xs:List Int},orF xs=0↔ ∀ x∈xs,x=0
 | []=>by simp [orF]
 | x::xs=>by
  unfold orF
  by_cases h:x=0
  ·
   rw [if_neg (by simpa using h),zas];simp [h]
  ·
   rw [if_pos h];simp [h]
theorem zm4 {xs:List Int}{k:Nat}{x:Int}(hx:xs[k]? =some x)(h:orF (xs.take k)=0)(hne:x≠0):orF xs=x:=by
 induction xs generalizing k with
 | nil=>simp at hx
 | cons y ys ih=>
  cases k with
  | zero=>
   simp at hx;subst hx
   unfold orF;rw [if_pos hne]
  | succ k=>
   rw [List.take_succ_cons] at h
   unfold orF at h ⊢
   by_cases hy:y=0
   ·
    rw [if_neg (by simpa using hy)] at h ⊢
    exact ih (by simpa using hx) h
   ·
    rw [if_pos hy] at h;exact absurd h hy
def onS (f:Int→Int→Bool)(p:Pt):Int→Int→Bool:=fun a b=>if a=p.id then p.needs.any (fun n=>n==b||f n b) else f a b
def onF (ps:List Pt):Int→Int→Bool:=ps.foldl onS (fun _ _=>false)
def ziF (ps:List Pt)(n:Int):Bool:=ps.any (fun q=>q.id==n)
def lsP (ps:List Pt)(i:Nat):Bool:= !((decide ((i:Int)>0)&&decide ((ps.getD i Jh).id≤(ps.getD ((i:Int)-1).toNat Jh).id))||(ps.getD i Jh).needs.any (fun n=> !ziF ps n))
def lsB (ps:List Pt):Bool:=(List.range ps.length).all (lsP ps)
def zvb (p q:Pt)(on:Bool):Bool:=if p.sign≠q.sign then true else if q.kind=2 then p.kind != 2&&on else if q.kind=3 then !on else true
def zpo (ps:List Pt):Bool:=ps.all fun p=>ps.all fun q=>p.id==q.id||zvb p q (onF ps p.id q.id)
def zb5 (ps:List Pt):Int:=if ps.length>512 then 2 else if orF (ps.map KO)≠0 then orF (ps.map KO) else if lsB ps&&zpo ps then 0 else 380
structure Lst (ps:List Pt):Prop where
 pos:∀ p∈ps,1≤p.id
 inc:ps.Pairwise (fun p q=>p.id<q.id)
 has:∀ p∈ps,∀ n∈p.needs,n<p.id∧∃ q∈ps,q.id=n
theorem zaG {ps:List Pt}{n:Int}:ziF ps n=true↔ ∃ q∈ps,q.id=n:=by
 unfold ziF
 rw [List.any_eq_true]
 simp
theorem zkw {f:Int→Int→Bool}{p:Pt}{a b:Int}(h:a≠p.id):onS f p a b=f a b:=by unfold onS;rw [if_neg h]
theorem UT:∀ (ps:List Pt) {f:Int→Int→Bool} {a b:Int},(∀ p∈ps,p.id≠a)→ps.foldl onS f a b=f a b
 | [],_,_,_,_=>rfl
 | p::ps,f,a,b,h=>by
  rw [List.foldl_cons,UT ps (fun q hq=>h q (List.mem_cons_of_mem _ hq)),zkw (fun e=>h p (List.mem_cons_self ..) e.symm)]
theorem zoM {ps:List Pt}{a b:Int}(h:∀ p∈ps,p.id≠a):onF ps a b=false:=UT ps h
theorem zea {ps qs:List Pt}{p:Pt}{b:Int}(h:∀ q∈qs,q.id≠p.id):onF (ps++p::qs) p.id b=p.needs.any (fun n=>n==b||onF ps n b):=by
 unfold onF
 rw [List.foldl_append,List.foldl_cons,UT qs h]
 unfold onS;rw [if_pos rfl]
theorem zgv {ps qs:List Pt}{a b:Int}(h:∀ q∈qs,q.id≠a):onF (ps++qs) a b=onF ps a b:=by
 unfold onF
 rw [List.foldl_append,UT qs h]
theorem Lst.tail_ne {ps qs:List Pt}{p:Pt}(h:Lst (ps++p::qs)):(∀ q∈qs,p.id<q.id)∧(∀ q∈ps,q.id<p.id):=by
 have h1:=h.inc
 rw [List.pairwise_append] at h1
 exact ⟨(List.pairwise_cons.1 h1.2.1).1,fun q hq=>h1.2.2 q hq p (List.mem_cons_self ..)⟩
theorem zgB {α:Type}{xs:List α}{f g:α→Bool}(h:∀ x∈xs,f x=g x):xs.any f=xs.any g:=by
 induction xs with
 | nil=>rfl
 | cons x xs ih=>rw [List.any_cons,List.any_cons,h x (List.mem_cons_self ..),ih fun y hy=>h y (List.mem_cons_of_mem _ hy)]
theorem Lst.on {ps:List Pt}(h:Lst ps){p:Pt}(hp:p∈ps)(b:Int):onF ps p.id b=p.needs.any (fun n=>n==b||onF ps n b):=by
 obtain ⟨l,r,rfl⟩:=List.append_of_mem hp
 obtain ⟨h1,h2⟩:=h.tail_ne
 rw [zea (fun q hq e=>by have:=h1 q hq;omega)]
 refine zgB fun n hn=>?_
 have hlt:=(h.has p hp n hn).1
 rw [zgv (ps:=l) (qs:=p::r)]
 intro q hq e
 rcases List.mem_cons.1 hq with rfl | hq
 ·
  omega
 ·
  have:=h1 q hq;omega
theorem Lst.on_iff {ps:List Pt}(h:Lst ps){p:Pt}(hp:p∈ps){b:Int}:onF ps p.id b=true↔ ∃ n∈p.needs,n=b∨onF ps n b=true:=by
 rw [h.on hp,List.any_eq_true]
 simp
theorem zqV {ps:List Pt}{a b:Int}(h:onF ps a b=true):∃ p∈ps,p.id=a:=by
 by_cases hx:∃ p∈ps,p.id=a
 ·
  exact hx
 ·
  rw [zoM (fun p hp e=>hx ⟨p,hp,e⟩)] at h;cases h
theorem Lst.ind {ps:List Pt}(h:Lst ps){M:Pt→Prop}(hs:∀ p∈ps,(∀ q∈ps,q.id<p.id→M q)→M p):∀ p∈ps,M p:=by
 have key:∀ (m:Nat) (q:Pt),q∈ps→q.id.toNat≤m→M q:=by
  intro m
  induction m with
  | zero=>
   intro q hq hm
   have:=h.pos q hq;omega
  | succ m ih=>
   intro q hq hm
   exact hs q hq fun r hr hlt=>ih r hr (by have:=h.pos r hr;omega)
 exact fun p hp=>key _ p hp (Nat.le_refl _)
theorem Lst.on_lt {ps:List Pt}(h:Lst ps){a b:Int}(hon:onF ps a b=true):b<a∧∃ q∈ps,q.id=b:=by
 obtain ⟨p,hp,rfl⟩:=zqV hon
 revert hon
 refine h.ind (M:=fun p=>onF ps p.id b=true→b<p.id∧∃ q∈ps,q.id=b) (fun p hp ih hon=>?_) p hp
 obtain ⟨n,hn,e⟩:=(h.on_iff hp).1 hon
 obtain ⟨h1,q,hq,rfl⟩:=h.has p hp n hn
 rcases e with rfl | e
 ·
  exact ⟨h1,q,hq,rfl⟩
 ·
  have:=ih q hq h1 e
  exact ⟨by omega,this.2⟩
theorem Lst.on_irr {ps:List Pt}(h:Lst ps){a:Int}:onF ps a a=false:=by
 cases hon:onF ps a a with
 | false=>rfl
 | true=>have:=(h.on_lt hon).1;omega
end
section
open Go Go.Kn Go.Proofs
theorem zsN {ps:List Pt}{f:Pt→Bool}{x:Int}:x∈(ps.filter f).map (·.id)↔ ∃ p∈ps,f p=true∧p.id=x:=by
 rw [List.mem_map]
 constructor
 ·
  rintro ⟨p,hp,e⟩
  exact ⟨p,(List.mem_filter.1 hp).1,(List.mem_filter.1 hp).2,e⟩
 ·
  rintro ⟨p,hp,hf,e⟩
  exact ⟨p,List.mem_filter.2 ⟨hp,hf⟩,e⟩
theorem zpL {ps:List Pt}(h0:orF (ps.map KO)=0)(h:lsB ps=true):Lst ps:=by
 have hk:∀ p∈ps,ndB p.id p.needs=true∧idB p=true∧Ur p=true:=fun p hp=>by
  have h1:=zas.1 h0 (KO p) (List.mem_map.2 ⟨p,hp,rfl⟩)
  unfold KO at h1
  split at h1
  ·
   cases h1
  ·
   split at h1
   ·
    rename_i h2
    simpa [Bool.and_eq_true] using h2
   ·
    cases h1
 unfold lsB at h
 rw [List.all_eq_true] at h
 refine ⟨fun p hp=>?_,?_,fun p hp n hn=>?_⟩
 ·
  have:=(hk p hp).2.1
  unfold idB at this
  simp at this
  omega
 ·
  refine XT (R:=fun p q:Pt=>p.id<q.id) (fun a b c h1 h2=>Int.lt_trans h1 h2) fun k hk=>?_
  have h1:=h (k+1) (List.mem_range.2 hk)
  unfold lsP at h1
  rw [show (((k+1:Nat):Int)-1).toNat=k by omega,Vk (List.getElem?_eq_getElem hk),Vk (List.getElem?_eq_getElem (show k<ps.length by omega))] at h1
  simp at h1
  have:=h1.1
  omega
 ·
  obtain ⟨k,hk1,rfl⟩:=List.mem_iff_getElem.1 hp
  have h1:=h k (List.mem_range.2 hk1)
  unfold lsP at h1
  rw [Vk (List.getElem?_eq_getElem hk1)] at h1
  simp at h1
  refine ⟨?_,zaG.1 (h1.2 n hn)⟩
  obtain ⟨j,hj,rfl⟩:=List.mem_iff_getElem.1 hn
  have h2:=(hk _ hp).1
  unfold ndB at h2
  rw [List.all_eq_true] at h2
  have h3:=h2 j (List.mem_range.2 hj)
  unfold ndP at h3
  rw [Vk (List.getElem?_eq_getElem hj)] at h3
  simp at h3
  omega
end
section
open Go Go.Kn Go.Proofs
/-! ### Lists by keys -/
def KJ (x:Sg)(f:Int):Int×Int×Int×Int:=
 if f=1 then (x.role,0,0,0) else if f=2 then (x.bar,0,0,0) else if f=3 then (x.mark,0,0,0) else if f=4 then (x.side,0,0,0) else if f=5 then (x.dir,0,0,0)
 else if f=6 then (x.level,0,0,0) else if f=7 then (x.size,0,0,0) else if f=8 then (x.wth,0,0,0) else if f=9 then (x.fn,x.fd,x.tn,x.td) else (0,0,0,0)
def isF (f:Int):Prop:=1≤f∧f≤9
theorem zeP {f:Int}(h:isF f):f=1∨f=2∨f=3∨f=4∨f=5∨f=6∨f=7∨f=8∨f=9:=by unfold isF at h;omega
theorem zhl {x y:Sg}{f:Int}:(KN x f y).id=x.id:=by unfold KN;(repeat' split)<;>rfl
theorem zan {x y:Sg}{f:Int}:(KN x f y).kind=x.kind:=by unfold KN;(repeat' split)<;>rfl
theorem zn2 {x y:Sg}{g:Int}:KJ (KN x 1 y) g=if g=1 then KJ y g else KJ x g:=by
 rw [show KN x 1 y= {x with role:=y.role} from rfl]
 by_cases hg:g=1
 ·
  subst hg;rfl
 ·
  rw [if_neg hg]
  unfold KJ
  simp only [if_neg hg]
theorem zpe {x y:Sg}{g:Int}:KJ (KN x 2 y) g=if g=2 then KJ y g else KJ x g:=by
 rw [show KN x 2 y= {x with bar:=y.bar} from rfl]
 by_cases hg:g=2
 ·
  subst hg;rfl
 ·
  rw [if_neg hg]
  unfold KJ
  simp only [if_neg hg]
theorem zoB {x y:Sg}{g:Int}:KJ (KN x 3 y) g=if g=3 then KJ y g else KJ x g:=by
 rw [show KN x 3 y= {x with mark:=y.mark} from rfl]
 by_cases hg:g=3
 ·
  subst hg;rfl
 ·
  rw [if_neg hg]
  unfold KJ
  simp only [if_neg hg]
theorem znX {x y:Sg}{g:Int}:KJ (KN x 4 y) g=if g=4 then KJ y g else KJ x g:=by
 rw [show KN x 4 y= {x with side:=y.side} from rfl]
 by_cases hg:g=4
 ·
  subst hg;rfl
 ·
  rw [if_neg hg]
  unfold KJ
  simp only [if_neg hg]
theorem znd {x y:Sg}{g:Int}:KJ (KN x 5 y) g=if g=5 then KJ y g else KJ x g:=by
 rw [show KN x 5 y= {x with dir:=y.dir} from rfl]
 by_cases hg:g=5
 ·
  subst hg;rfl
 ·
  rw [if_neg hg]
  unfold KJ
  simp only [if_neg hg]
theorem zor {x y:Sg}{g:Int}:KJ (KN x 6 y) g=if g=6 then KJ y g else KJ x g:=by
 rw [show KN x 6 y= {x with level:=y.level} from rfl]
 by_cases hg:g=6
 ·
  subst hg;rfl
 ·
  rw [if_neg hg]
  unfold KJ
  simp only [if_neg hg]
theorem znL {x y:Sg}{g:Int}:KJ (KN x 7 y) g=if g=7 then KJ y g else KJ x g:=by
 rw [show KN x 7 y= {x with size:=y.size} from rfl]
 by_cases hg:g=7
 ·
  subst hg;rfl
 ·
  rw [if_neg hg]
  unfold KJ
  simp only [if_neg hg]
theorem zoN {x y:Sg}{g:Int}:KJ (KN x 8 y) g=if g=8 then KJ y g else KJ x g:=by
 rw [show KN x 8 y= {x with wth:=y.wth} from rfl]
 by_cases hg:g=8
 ·
  subst hg;rfl
 ·
  rw [if_neg hg]
  unfold KJ
  simp only [if_neg hg]
theorem zpd {x y:Sg}{g:Int}:KJ (KN x 9 y) g=if g=9 then KJ y g else KJ x g:=by
 rw [show KN x 9 y= {x with fn:=y.fn,fd:=y.fd,tn:=y.tn,td:=y.td} from rfl]
 by_cases hg:g=9
 ·
  subst hg;rfl
 ·
  rw [if_neg hg]
  unfold KJ
  simp only [if_neg hg]
theorem zdw {x y:Sg}{f g:Int}(hf:isF f):KJ (KN x f y) g=if g=f then KJ y g else KJ x g:=by
 rcases zeP hf with rfl | rfl | rfl | rfl | rfl | rfl | rfl | rfl | rfl
 ·
  exact zn2
 ·
  exact zpe
 ·
  exact zoB
 ·
  exact znX
 ·
  exact znd
 ·
  exact zor
 ·
  exact znL
 ·
  exact zoN
 ·
  exact zpd
theorem zps {x y:Sg}(h1:x.id=y.id)(h2:x.kind=y.kind)(h:∀ f,isF f→KJ x f=KJ y f):x=y:=by
 have e1:x.role=y.role:=congrArg (fun p=>p.1) (show ((x.role,0,0,0):Int×Int×Int×Int)=(y.role,0,0,0) from h 1 ⟨by decide,by decide⟩)
 have e2:x.bar=y.bar:=congrArg (fun p=>p.1) (show ((x.bar,0,0,0):Int×Int×Int×Int)=(y.bar,0,0,0) from h 2 ⟨by decide,by decide⟩)
 have e3:x.mark=y.mark:=congrArg (fun p=>p.1) (show ((x.mark,0,0,0):Int×Int×Int×Int)=(y.mark,0,0,0) from h 3 ⟨by decide,by decide⟩)
 have e4:x.side=y.side:=congrArg (fun p=>p.1) (show ((x.side,0,0,0):Int×Int×Int×Int)=(y.side,0,0,0) from h 4 ⟨by decide,by decide⟩)
 have e5:x.dir=y.dir:=congrArg (fun p=>p.1) (show ((x.dir,0,0,0):Int×Int×Int×Int)=(y.dir,0,0,0) from h 5 ⟨by decide,by decide⟩)
 have e6:x.level=y.level:=congrArg (fun p=>p.1) (show ((x.level,0,0,0):Int×Int×Int×Int)=(y.level,0,0,0) from h 6 ⟨by decide,by decide⟩)
 have e7:x.size=y.size:=congrArg (fun p=>p.1) (show ((x.size,0,0,0):Int×Int×Int×Int)=(y.size,0,0,0) from h 7 ⟨by decide,by decide⟩)
 have e8:x.wth=y.wth:=congrArg (fun p=>p.1) (show ((x.wth,0,0,0):Int×Int×Int×Int)=(y.wth,0,0,0) from h 8 ⟨by decide,by decide⟩)
 have e9:(x.fn,x.fd,x.tn,x.td)=(y.fn,y.fd,y.tn,y.td):=h 9 ⟨by decide,by decide⟩
 obtain ⟨a1,a2,a3,a4,a5,a6,a7,a8,a9,a10,a11,a12,a13,a14⟩:=x
 obtain ⟨b1,b2,b3,b4,b5,b6,b7,b8,b9,b10,b11,b12,b13,b14⟩:=y
 cases h1;cases h2;cases e1;cases e2;cases e3;cases e4;cases e5;cases e6;cases e7;cases e8;cases e9
 rfl
end
section
open Go Go.Kn Go.Proofs
theorem zs2:za7 0 1 1 2=true:=by decide
theorem zq8:za7 0 1 1 1=true:=by decide
theorem zl2 {f:Int}(hf:isF f)(x:Sg):frm (KN zei f x)=frm (KN zeJ f x):=by
 rcases zeP hf with rfl | rfl | rfl | rfl | rfl | rfl | rfl | rfl | rfl<;>
 simp [frm,zxn,KN,zei,zeJ,within,zs2,zq8]
theorem zn8 {f:Int}(hf:isF f)(x:Sg):ziA (KN Jz f x) x=ziA (KN x f Jz) Jz:=by
 rw [Bool.eq_iff_iff,zaC,zaC]
 constructor
 ·
  intro h
  refine zps ?_ ?_ fun g hg=>?_
  ·
   rw [zhl,←h,zhl]
  ·
   rw [zan,←h,zan]
  ·
   rw [zdw hf]
   by_cases e:g=f
   ·
    rw [if_pos e]
   ·
    rw [if_neg e]
    conv=>lhs;rw [←h]
    rw [zdw hf,if_neg e]
 ·
  intro h
  refine zps ?_ ?_ fun g hg=>?_
  ·
   rw [zhl]
   have:=congrArg Sg.id h
   rw [zhl] at this
   exact this.symm
  ·
   rw [zan]
   have:=congrArg Sg.kind h
   rw [zan] at this
   exact this.symm
  ·
   rw [zdw hf]
   by_cases e:g=f
   ·
    rw [if_pos e]
   ·
    rw [if_neg e]
    have:KJ (KN x f Jz) g=KJ Jz g:=by rw [h]
    rw [zdw hf,if_neg e] at this
    exact this.symm
end
section
open Go Go.Kn Go.Proofs
def zff (x y:Int):Int:=if x<y then -1 else if x>y then 1 else 0
def zxp (n d:Int):List Value:=[.int .i64 n,.int .i64 d]
def zae (n d:Int):Value:=.agg (zxp n d).toArray
theorem ziL {n:Int}(h:0≤n∧n≤9223372036854775807):IntKind.u64.wrap n=n:=by
 unfold IntKind.wrap IntKind.signed IntKind.bits
 simp
 omega
theorem zsR {n:Int}(hn: -1073741824≤n∧n≤1073741824)(h:¬n<0):IntKind.u64.wrap n=zbZ n:=by
 rw [ziL (by omega)]
 unfold zbZ;rw [if_neg h]
theorem ztl {n:Int}(hn: -1073741824≤n∧n≤1073741824)(h:n<0):IntKind.u64.wrap (0-IntKind.u64.wrap n)=zbZ n:=by
 unfold zbZ;rw [if_pos h]
 unfold IntKind.wrap IntKind.signed IntKind.bits
 simp
 omega
def zwF (t b1 b2:Nat)(a b:Int):Go.Kn.Loc:=[(b2,.cells #[.int .u64 b] t (0,0)),(b1,.cells #[.int .u64 a] t (0,0))]
def zdH (a b:Nat):List Nat:=if a=0 then [] else if b=0 then [a,0] else if a % b=0 then [a,b] else a::zdH b (a % b)
termination_by b
decreasing_by exact Nat.mod_lt _ (by omega)
theorem zef (b:Nat):zdH 0 b=[]:=by rw [zdH];rfl
theorem zc3 {a b:Nat}(ha:a≠0)(hb:b≠0)(h:a % b=0):zdH a b=[a,b]:=by rw [zdH,if_neg ha,if_neg hb,if_pos h]
theorem zeu {a b:Nat}(ha:a≠0)(hb:b≠0)(h:a % b≠0):zdH a b=a::zdH b (a % b):=by rw [zdH,if_neg ha,if_neg hb,if_neg h]
theorem zoR:∀ (m:Nat) {a b d:Nat},b≤m→b≠0→(a=0→d=b)→(zdH a b).getLastD d=Nat.gcd a b:=by
 intro m
 induction m with
 | zero=>intro a b d h1 h2;omega
 | succ m ih=>
  intro a b d h1 h2 hd
  by_cases ha:a=0
  ·
   subst ha;rw [zef,Nat.gcd_zero_left,hd rfl];rfl
  ·
   by_cases h:a % b=0
   ·
    rw [zc3 ha h2 h]
    show b=_
    rw [Nat.gcd_comm,Nat.gcd_rec,h,Nat.gcd_zero_left]
   ·
    rw [zeu ha h2 h,List.getLastD_cons,ih (by have:=Nat.mod_lt a (show 0<b by omega);omega) h (fun e=>absurd e h2)]
    rw [Nat.gcd_comm b,←Nat.gcd_rec,Nat.gcd_comm]
theorem zgl (a b:Nat):((a:Int)).tmod (b:Int)=((a % b:Nat):Int):=by
 rw [Int.tmod_eq_emod_of_nonneg (by omega)];rfl
theorem zn1 {a b:Int}(ha: -1073741824≤a∧a≤1073741824)(hb: -1073741824≤b∧b≤1073741824): -9223372036854775808≤a*b∧a*b≤9223372036854775807:=by
 have h1:(a*b).natAbs≤1073741824*1073741824:=by
  rw [Int.natAbs_mul]
  exact Nat.mul_le_mul (by omega) (by omega)
 omega
def ztT (n d:Int):Int:=if UW n d then 0 else 120
theorem zds {n d:Int}(h:UW n d=true):(1≤d∧d≤1073741824)∧ -1073741824≤n∧n≤1073741824:=by
 unfold UW at h
 simp at h
 omega
theorem zqS (n d:Int):Nat.gcd (zbZ n).toNat d.toNat=Int.gcd n d.toNat:=by
 unfold Int.gcd zbZ
 congr 1
 split<;>omega
theorem Zo {b:Nat}(h:0<b):zfa (b:Int) 1=(b:Int):=by
 unfold zfa
 split<;>omega
theorem zmh {a0 b0 a b:Nat}{pre:List Nat}(h:zdH a0 b0=pre++zdH a b)(ha:a≠0):pre++[a]<+:zdH a0 b0:=by
 rw [h,zdH,if_neg ha]
 have key:∀ l:List Nat,pre++[a]<+:pre++a::l:=fun l=>⟨l,by simp⟩
 split
 ·
  exact key _
 ·
  split<;>exact key _
theorem zkq {l:List Nat}{x d:Nat}:(l++[x]).getLastD d=x:=by simp [List.getLastD_eq_getLast?]
theorem zqI {n d:Int}(h:((((decide (d<1)||decide (d>1073741824))||decide (n< -1073741824))||decide (n>1073741824))||(zlv n d != 1))=true):UW n d=false:=by unfold UW;rw [h];rfl
theorem zna {n d:Int}(h:((((decide (d<1)||decide (d>1073741824))||decide (n< -1073741824))||decide (n>1073741824))||(zlv n d != 1))=false):UW n d=true:=by unfold UW;rw [h];rfl
/-! ### Fields as cells -/
def foF (f:Int):Nat:=if f=1 then 1 else if f=2 then 2 else if f=3 then 3 else if f=4 then 5 else if f=5 then 6 else if f=6 then 7 else if f=7 then 8 else 9
def zuf (x:Sg)(f:Int):Int:=if f=1 then x.role else if f=2 then x.bar else if f=3 then x.mark else if f=4 then x.side else if f=5 then x.dir else if f=6 then x.level else if f=7 then x.size else x.wth
def zyw (b:Nat):List Value:=[.pointer none,.pointer (some ⟨b,0+1,none⟩),.pointer (some ⟨b,0+2,none⟩),.pointer (some ⟨b,0+3,none⟩),.pointer (some ⟨b,0+5,none⟩),.pointer (some ⟨b,0+6,none⟩),.pointer (some ⟨b,0+7,none⟩),.pointer (some ⟨b,0+8,none⟩),.pointer (some ⟨b,0+9,none⟩)]
theorem zbD {f:Int}(h:1≤f∧f≤8):f=1∨f=2∨f=3∨f=4∨f=5∨f=6∨f=7∨f=8:=by omega
theorem zco {f:Int}(h:1≤f∧f≤8)(b:Nat):(zyw b)[f.toNat*1]? =some (.pointer (some ⟨b,foF f,none⟩)):=by
 rcases zbD h with rfl | rfl | rfl | rfl | rfl | rfl | rfl | rfl<;>rfl
theorem zgb {f:Int}(h:1≤f∧f≤8)(x:Sg):ziB (zfc x) (foF f)=some (.int .i64 (zuf x f)):=by
 rcases zbD h with rfl | rfl | rfl | rfl | rfl | rfl | rfl | rfl<;>rfl
theorem zrq {f:Int}:Nat.blt (foF f) 14=true:=by
 unfold foF
 repeat' split
 all_goals rfl
theorem zjj {f:Int}(h:1≤f∧f≤8)(x y:Sg):(zfc x).toArray.setIfInBounds (foF f) (.int .i64 (zuf y f))=(zfc (KN x f y)).toArray:=by
 rcases zbD h with rfl | rfl | rfl | rfl | rfl | rfl | rfl | rfl<;>rfl
def zh7 (v:List Int)(k:Nat)(l:Int):Prop:=(k=0→l=0)∧∀ y,v[k-1]? =some y→k≠0→l=y
theorem zcj {v:List Int}{k:Nat}{x:Int}(hx:v[k]? =some x):zh7 v (k+1) x:=⟨fun h=>by omega,fun y hy _=>by simp at hy;rw [hx] at hy;cases hy;rfl⟩
theorem ztZ {id:Int}{v:List Int}{k:Nat}{l x:Int}(hall:(List.range k).all (ndP id v)=true)(hl:zh7 v k l)(hx:v[k]? =some x):ndP id v k= !(decide (x≤l)||decide (x≥id)):=by
 unfold ndP
 rw [Vk hx]
 cases k with
 | zero=>
  rw [hl.1 rfl]
  rw [Bool.eq_iff_iff];simp;omega
 | succ k=>
  have hk:=(List.getElem?_eq_some_iff.1 hx).1
  have hy:v[k]? =some (v[k]'(by omega)):=List.getElem?_eq_getElem _
  have e:=hl.2 _ (by rw [Nat.add_sub_cancel];exact hy) (by omega)
  rw [show (((k+1:Nat):Int)-1).toNat=k by omega,Vk hy,←e]
  have h1:1≤l:=by
   rw [List.all_eq_true] at hall
   have:=hall k (List.mem_range.2 (by omega))
   unfold ndP at this
   rw [Vk hy] at this
   simp at this
   omega
  rw [Bool.eq_iff_iff];simp;omega
theorem zpt {p:Pt}(h:p.needs.length>32):KO p=2:=by unfold KO;rw [if_pos h]
theorem zwc {p:Pt}(h:¬p.needs.length>32)(h2:ndB p.id p.needs=false):KO p=370:=by unfold KO;rw [if_neg h,h2];rfl
theorem zdO {p:Pt}(h:¬p.needs.length>32)(h2:ndB p.id p.needs=true)(h3:(idB p&&Ur p)=false):KO p=370:=by unfold KO;rw [if_neg h,h2,h3];rfl
theorem zg0 {p:Pt}(h:¬p.needs.length>32)(h2:ndB p.id p.needs=true)(h3:(idB p&&Ur p)=true):KO p=0:=by unfold KO;rw [if_neg h,h2,h3];rfl
theorem zsY {p:Pt}(h:p.kind=1)(h2:within p.field 1 9=true):Ur p=(ziA (KN p.nw p.field Jz) Jz&&frm (KN zeJ p.field p.nw)):=by unfold Ur;rw [if_pos h,h2,Bool.true_and]
theorem zw8 {p:Pt}(h:p.kind=1)(h2:within p.field 1 9=false):(idB p&&Ur p)=false:=by unfold Ur;rw [if_pos h,h2,Bool.false_and,Bool.and_false]
theorem zsn {p:Pt}(h:p.kind=2):Ur p=(p.field==0&&(p.nw.id==p.sign&&frm p.nw)):=by unfold Ur;rw [if_neg (by omega),if_pos h]
theorem ztG {p:Pt}(h:p.kind=3):Ur p=(p.field==0&&ziA p.nw Jz):=by unfold Ur;rw [if_neg (by omega),if_neg (by omega),if_pos h]
theorem zxN {p:Pt}(h1:p.kind≠1)(h2:p.kind≠2)(h3:p.kind≠3):(idB p&&Ur p)=false:=by unfold Ur;rw [if_neg h1,if_neg h2,if_neg h3,Bool.and_false]
theorem zmz {fn fd tn td:Int}:(ztT fn fd != 0||ztT tn td != 0)= !(UW fn fd&&UW tn td):=by
 unfold ztT
 cases UW fn fd<;>cases UW tn td<;>rfl
def zvs (an ad bn bd:Int):Int:=if UW an ad&&UW bn bd then 0 else 120
def zxb (an ad bn bd:Int):Int:=if UW an ad&&UW bn bd then zff (an*bd) (bn*ad) else 0
theorem zrw {fn fd tn td:Int}:(((zvs fn fd tn td==0)&&decide (zxb fn fd tn td<0))&&decide (fn≥0)&&decide (tn≤td))=za7 fn fd tn td:=by
 unfold zvs zxb za7 zff
 cases h:(UW fn fd&&UW tn td) with
 | false=>rfl
 | true=>
  simp only [if_true,Bool.true_and]
  by_cases h2:fn*td<tn*fd
  ·
   simp [h2,Bool.and_assoc]
  ·
   by_cases h3:fn*td>tn*fd<;>simp [h2,h3]
theorem zg7 {xs:List Sg}{k:Nat}{x:Sg}(hx:xs[k]? =some x):skP xs k= !(!frm x||(decide ((k:Int)>0)&&decide ((xs.getD ((k:Int)-1).toNat Jz).id≥x.id))):=by unfold skP;rw [Vk hx]
end
end Go.Proofs.YtjblkbkmblkgoaaGreat
namespace Go.Proofs.YtjblkbkmblkgoaaGreat.L
section
open Go Go.Kn Go.Proofs
structure Ls where
 no:Int
 person:Int
 version:Int
 at_:Int
 known:Int
def encL (x:Ls):List Value:=[.int .i64 x.no,.int .i64 x.person,.int .i64 x.version,.int .i64 x.at_,.int .i64 x.known]
def encA (x:Ls):Value:=.agg (encL x).toArray
def Z1 (n:Int):List Value:=[.int .i64 n]
def zeroL:Ls:=⟨0,0,0,0,0⟩
theorem encL_len (x:Ls):(encL x).length=5:=rfl
theorem YF (x:Int):(Z1 x).length=1:=rfl
theorem zba (xs:List Int):YL (xs.flatMap Z1)=true:=YJ (fun _=>rfl) xs
def lsEq (x y:Ls):Bool:=x.no==y.no&&(x.person==y.person&&(x.version==y.version&&(x.at_==y.at_&&(x.known==y.known&&true))))
theorem lsEq_iff {x y:Ls}:lsEq x y=true↔x=y:=by
 obtain ⟨a,b,c,d,e⟩:=x
 obtain ⟨a',b',c',d',e'⟩:=y
 simp [lsEq]
instance : DecidableEq Ls := fun a b => decidable_of_iff (lsEq a b = true) lsEq_iff
def within (n lo hi:Int):Bool:=decide (n≥lo)&&decide (n≤hi)
def XS (x:Ls):Bool:=within x.no 0 1048576&&within x.person 0 63&&within x.version 0 512&&within x.at_ 0 73048&&within x.known 0 134217727
def zm3 (xs:List Ls)(i:Nat):Ls:=xs.getD ((i:Int)-1).toNat zeroL
def ckP (xs:List Ls)(i:Nat):Bool:= !(!XS (xs.getD i zeroL)||(decide ((i:Int)>0)&&decide ((xs.getD i zeroL).no≤(zm3 xs i).no)))
def ckB (xs:List Ls):Bool:=(List.range xs.length).all (ckP xs)
def chk (xs:List Ls):Int:=if xs.length>4096 then 2 else if ckB xs then 0 else 390
theorem VJ {p:Nat→Bool}{k:Nat}(h:(List.range k).all p=true)(hp:p k=true):(List.range (k+1)).all p=true:=by
 rw [List.range_succ,List.all_append,h];simpa using hp
theorem JI {p:Nat→Bool}{n k:Nat}(hk:k<n)(hp:p k=false):(List.range n).all p=false:=by
 cases h:(List.range n).all p with
 | false=>rfl
 | true=>
  rw [List.all_eq_true] at h
  rw [h k (List.mem_range.2 hk)] at hp;cases hp
theorem Vk {α:Type}{xs:List α}{k:Nat}{x d:α}(h:xs[k]? =some x):xs.getD k d=x:=by simp [List.getD,h]
theorem KQ {α:Type}{xs:List α}{n k:Nat}{d:α}(hl:xs.length=n)(h:k<n):xs[k]? =some (xs.getD k d):=by
 have:k<xs.length:=by omega
 unfold List.getD
 rw [List.getElem?_eq_getElem this];rfl
def zyH (v:List Int):Bool:= !((decide ((v.length:Int)>40)&&decide ((v.length:Int)≤512))||decide ((v.length:Int)>600))
def ziy (xs:List Ls)(vss:List (List Int))(target:List Int):Bool:=
 !(((((((decide ((xs.length:Int)>60)&&decide ((xs.length:Int)≤4096))||decide ((xs.length:Int)>5000))||(decide ((vss.length:Int)>20)&&decide ((vss.length:Int)≤512)))||decide ((vss.length:Int)>600))||(decide ((target.length:Int)>40)&&decide ((target.length:Int)≤512)))||decide ((target.length:Int)>600)))&&
 vss.all zyH
section
variable {xs:List Ls} {vss:List (List Int)} {person day time:Int} {ts:List Int}
end
theorem XT {α:Type}{R:α→α→Prop}(ht:∀ a b c,R a b→R b c→R a c){l:List α}(h:∀ k (hk:k+1<l.length),R (l[k]'(by omega)) l[k+1]):l.Pairwise R:=by
 have key:∀ (n i:Nat) (hn:i+n<l.length),0<n→R (l[i]'(by omega)) l[i+n]:=by
  intro n
  induction n with
  | zero=>intro i _ h0;omega
  | succ n ih=>
   intro i hn _
   have h2:=h (i+n) (by omega)
   by_cases e:n=0
   ·
    subst e;exact h2
   ·
    exact ht _ _ _ (ih i (by omega) (by omega)) h2
 rw [List.pairwise_iff_getElem]
 intro i j hi hj hij
 have:=key (j-i) i (by omega) (by omega)
 simpa [show i+(j-i)=j by omega] using this
end
end Go.Proofs.YtjblkbkmblkgoaaGreat.L
namespace Go.Proofs.YtjblkbkmblkgoaaGreat.S
section
open Go Go.Kn
structure Rt where
 no:Int
 kind:Int
 edition:Int
 holder:Int
 sign:Int
 ends:Int
 name:ByteArray
 town:ByteArray
 lo:Int
 hi:Int
 known:Int
def encR (x:Rt):List Value:=[.int .i64 x.no,.int .i64 x.kind,.int .i64 x.edition,.int .i64 x.holder,.int .i64 x.sign,.int .i64 x.ends,.string x.name,.string x.town,.int .i64 x.lo,.int .i64 x.hi,.int .i64 x.known]
def encA (x:Rt):Value:=.agg (encR x).toArray
def Z1 (n:Int):List Value:=[.int .i64 n]
def WG (p:Int×Int):List Value:=[.int .i64 p.1,.int .i64 p.2]
def zeroR:Rt:=⟨0,0,0,0,0,0,⟨#[]⟩,⟨#[]⟩,0,0,0⟩
theorem encR_len (x:Rt):(encR x).length=11:=rfl
theorem YF (x:Int):(Z1 x).length=1:=rfl
theorem Xf (x:Int×Int):(WG x).length=2:=rfl
def rtEq (x y:Rt):Bool:=
 x.no==y.no&&(x.kind==y.kind&&(x.edition==y.edition&&(x.holder==y.holder&&(x.sign==y.sign&&(x.ends==y.ends&&(Kr x.name y.name&&(Kr x.town y.town&&(x.lo==y.lo&&(x.hi==y.hi&&(x.known==y.known&&true))))))))))
theorem rtEq_iff {x y:Rt}:rtEq x y=true↔x=y:=by
 cases x;cases y
 simp only [rtEq,Bool.and_eq_true,beq_iff_eq,za4,Rt.mk.injEq,and_true]
def within (n lo hi:Int):Bool:=decide (lo≤n)&&decide (n≤hi)
def w64 (n:Int):Int:=IntKind.i64.wrap n
def zju (x:Rt):Bool:=decide (x.lo≥0)&&decide (x.lo≤x.hi)&&decide (x.hi≤73048)&&within x.edition 0 1048576
def heldF (x:Rt):Bool:=rtEq x {x with ends:=0,name:=⟨#[]⟩,town:=⟨#[]⟩ }&&zju x&&within x.holder 0 63&&within x.sign 0 1048577
def billF (x:Rt):Bool:=rtEq x {x with holder:=0,sign:=0,ends:=0}&&zju x&&within x.name.size 1 32&&within x.town.size 1 32
def voidF (x:Rt)(bs:List (Int×Rt)):Bool:=match Zx bs (w64 (x.ends-1)) with
 | none=>false
 | some old=>(old.kind != 4)&&decide (old.known≤x.known)&&rtEq x {zeroR with no:=x.no,kind:=x.kind,ends:=x.ends,known:=x.known}
def zcA (k:Int):Bool:=k==1||k==2||k==3||k==4
def askF (k:Int)(x:Rt)(bs:List (Int×Rt)):Bool:=if k=1 then billF x else if k=2 then heldF x else if k=3 then heldF x else voidF x bs
def rBad (x:Rt)(bs:List (Int×Rt))(last:Int):Bool:= !zcA x.kind||decide (x.no≤last)||decide (x.no>1048576)|| !within x.known 0 134217727|| !askF x.kind x bs
def rGo:List Rt→List (Int×Rt)→Int→Int
 | [],_,_=>0
 | x::xs,bs,last=>if rBad x bs last then 460 else rGo xs (Ji bs x.no x) x.no
def rCheck (xs:List Rt):Int:=if xs.length>512 then 2 else rGo xs [] (-1)
def zib (x:Rt):Bool:=within x.lo 0 x.hi&&decide (x.hi≤73048)
def zh5 (s:ByteArray):Bool:=within s.size 1 32
def zga (pre:List Rt)(x:Rt):Bool:=pre.any fun y=>(w64 (y.no+1)==x.ends)&&(y.kind != 4)&&decide (y.known≤x.known)
def zb6:ByteArray:=⟨#[]⟩
def U5 (x:Rt):Bool:=zib x&&within x.edition 0 1048576&&within x.holder 0 63&&within x.sign 0 1048577&&Kr x.name zb6&&Kr x.town zb6&&(x.ends==0)
def Wx (pre:List Rt)(x:Rt):Bool:=
 if x.kind==1 then zib x&&within x.edition 0 1048576&&zh5 x.name&&zh5 x.town&&(x.holder==0)&&(x.sign==0)&&(x.ends==0)
 else if x.kind==2 then U5 x
 else if x.kind==3 then U5 x
 else if x.kind==4 then zga pre x&&(x.edition==0)&&(x.holder==0)&&(x.sign==0)&&Kr x.name zb6&&Kr x.town zb6&&(x.lo==0)&&(x.hi==0)
 else false
def VQ (i:Nat)(pre:List Rt)(y x:Rt):Bool:=
 if (!within x.no 0 1048576||(decide ((i:Int)>0)&&decide (x.no≤y.no))|| !within x.known 0 134217727) then false else Wx pre x
def zcx (xs:List Rt)(i:Nat):Rt:=(xs[((i:Int)-1).toNat]?).getD zeroR
def U9 (xs:List Rt)(i:Nat):Bool:=VQ i (xs.take i) (zcx xs i) ((xs[i]?).getD zeroR)
def fCheck (xs:List Rt):Int:=if xs.length>512 then 2 else if (List.range xs.length).all (U9 xs) then 0 else 460
instance : DecidableEq Rt := fun a b => decidable_of_iff (rtEq a b = true) rtEq_iff
def zyM (x:Rt):Bool:=decide ((x.name.size:Int)>100)||decide ((x.town.size:Int)>100)
def ziy (xs:List Rt):Bool:=if (xs.take 600).any zyM then false else decide ((xs.length:Int)≤120)||(decide ((xs.length:Int)>512)&&decide ((xs.length:Int)≤600))
theorem WT {α:Type}{xs:List α}{k:Nat}{x:α}(h:xs[k]? =some x):xs.drop k=x::xs.drop (k+1):=by
 obtain ⟨hk,rfl⟩:=List.getElem?_eq_some_iff.1 h
 exact List.drop_eq_getElem_cons hk
theorem V2 {α β:Type}[DecidableEq α](m:List (α×β))(a k:α)(b:β):Zx (Ji m a b) k=if a=k then some b else Zx m k:=by
 induction m with
 | nil=>simp [Ji,Zx]
 | cons p m ih=>
  simp only [Ji]
  split
  ·
   rename_i h
   simp only [Zx]
   by_cases h2:a=k
   ·
    simp [h2]
   ·
    simp [h2,h]
  ·
   rename_i h
   simp only [Zx,ih]
   by_cases h2:a=k
   ·
    subst h2;simp [h]
   ·
    simp [h2]
end
end Go.Proofs.YtjblkbkmblkgoaaGreat.S
namespace Go.Proofs.YtjblkbkmblkgoaaGreat
section
open Go Go.Kn Go.Proofs
structure Nt where
 kind:Int
 lm:Lm
 pt:Pt
 ls:L.Ls
 rt:S.Rt
def Q6 (x:Nt):List Value:=[.int .i64 x.kind,.int .i64 x.lm.no,.int .i64 x.lm.person,.int .i64 x.lm.ends,.int .i64 x.lm.lo,.int .i64 x.lm.hi,.int .i64 x.lm.known,.int .i64 x.lm.ck,.int .i64 x.lm.cl,.int .i64 x.lm.cn,.int .i64 x.pt.id,.int .i64 x.pt.kind,.int .i64 x.pt.sign,.int .i64 x.pt.field,.int .i64 x.pt.nw.id,.int .i64 x.pt.nw.role,.int .i64 x.pt.nw.bar,.int .i64 x.pt.nw.mark,.int .i64 x.pt.nw.kind,.int .i64 x.pt.nw.side,.int .i64 x.pt.nw.dir,.int .i64 x.pt.nw.level,.int .i64 x.pt.nw.size,.int .i64 x.pt.nw.wth,.int .i64 x.pt.nw.fn,.int .i64 x.pt.nw.fd,.int .i64 x.pt.nw.tn,.int .i64 x.pt.nw.td,.slice x.pt.a x.pt.n x.pt.c,.int .i64 x.ls.no,.int .i64 x.ls.person,.int .i64 x.ls.version,.int .i64 x.ls.at_,.int .i64 x.ls.known,.int .i64 x.rt.no,.int .i64 x.rt.kind,.int .i64 x.rt.edition,.int .i64 x.rt.holder,.int .i64 x.rt.sign,.int .i64 x.rt.ends,.string x.rt.name,.string x.rt.town,.int .i64 x.rt.lo,.int .i64 x.rt.hi,.int .i64 x.rt.known]
def Kj (x:Nt):Value:=.agg (Q6 x).toArray
theorem YN (x:Nt):(Q6 x).length=45:=rfl
theorem zpH (xs:List S.Rt):YL (xs.flatMap S.encR)=true:=YJ (fun _=>rfl) xs
theorem znh (xs:List Nt):YL (xs.flatMap Q6)=true:=YJ (fun _=>rfl) xs
def zet:Nt:=⟨0,Vt,Jh,L.zeroL,S.zeroR⟩
def znv (x y:Lm):Bool:=x.no==y.no&&(x.person==y.person&&(x.ends==y.ends&&(x.lo==y.lo&&(x.hi==y.hi&&(x.known==y.known&&(x.ck==y.ck&&(x.cl==y.cl&&(x.cn==y.cn&&true))))))))
theorem zlb {x y:Lm}:znv x y=true↔x=y:=by
 obtain ⟨a1,a2,a3,a4,a5,a6,a7,a8,a9⟩:=x
 obtain ⟨b1,b2,b3,b4,b5,b6,b7,b8,b9⟩:=y
 simp [znv]
def z1 (x:Nt):Bool:=znv x.lm Vt
def z2 (x:Nt):Bool:=((((x.pt.id==0&&x.pt.kind==0)&&x.pt.sign==0)&&x.pt.field==0)&&ziA x.pt.nw Jz)&&((x.pt.n:Int)==0)
def z3 (x:Nt):Bool:=L.lsEq x.ls L.zeroL
def z4 (x:Nt):Bool:=S.rtEq x.rt S.zeroR
def zaa (x:Nt):Bool:=(((x.kind==1||z1 x)&&(x.kind==2||z2 x))&&(x.kind==3||z3 x))&&(x.kind==4||z4 x)
theorem WH {m:List (Int×Bool)}{k j:Int}{b:Bool}(h:Zx m j=some b):(Zx (Ji m k true) j).getD false=(k==j||b):=by
 rw [V2]
 by_cases e:k=j
 ·
  simp [e]
 ·
  rw [if_neg e,h];simp [e]
theorem zoS {m:List (Int×Bool)}{x:Nt}(h1:Zx m 1=some (z1 x))(h2:Zx m 2=some (z2 x))(h3:Zx m 3=some (z3 x))(h4:Zx m 4=some (z4 x)):
  (((Zx (Ji m x.kind true) 1).getD false&&(Zx (Ji m x.kind true) 2).getD false)&&(Zx (Ji m x.kind true) 3).getD false&&(Zx (Ji m x.kind true) 4).getD false)=zaa x:=by
 rw [WH h1,WH h2,WH h3,WH h4];rfl
def lmC (x:Lm):List Lm:=if x.ends=0 then [x] else [⟨IntKind.i64.wrap (x.ends-1),x.person,0,0,0,0,3,0,1⟩,x]
def rtC (x:S.Rt):List S.Rt:=if x.ends=0 then [x] else [⟨IntKind.i64.wrap (x.ends-1),1,0,0,0,0,⟨#[97]⟩,⟨#[97]⟩,0,0,0⟩,x]
def Wg (x:Nt):Int:=if x.kind=1 then zfI (lmC x.lm) else if x.kind=2 then KO x.pt else if x.kind=3 then L.chk [x.ls] else if x.kind=4 then S.rCheck (rtC x.rt) else 570
def QP (x:Nt):Bool:=Wg x==0&&zaa x
def vcI (n:Int):Vc:=⟨1,n,⟨#[]⟩,none,0,0⟩
def vcT (s:ByteArray):Vc:=⟨2,0,s,none,0,0⟩
def zy6 (v:Value):Value:=.agg #[.int .i64 3,.int .i64 0,.string ⟨#[]⟩,v]
def ziw:List Nat:=[0,1,2,3,4,5,6,7,8,9,10,11,12,13,14,15,16,17,18,19,20,21,22,23,24,25,26,27,29,30,31,32,33,34,35,36,37,38,39,42,43,44]
def ztM (b:Nat):List Value:=ziw.map fun o=>.pointer (some ⟨b,o,none⟩)
def zyt (b:Nat):Value:=.agg (ztM b).toArray
end
end Go.Proofs.YtjblkbkmblkgoaaGreat
namespace Go.Kn
section
open Go Go.Sort Go.Shelf Go.Lib Go.Proofs
theorem zo1 {w w':World}{L:Loc}(h:St w (fun b=>w.heap[b]?) (fun _=>none) L w'):∃ q os',w'=grow (w.drewN q) os':=by
 refine ⟨w'.drawn-w.drawn,w'.heap.extract w.heap.size w'.heap.size,?_⟩
 have h1:=h.size
 have hh:w.heap++w'.heap.extract w.heap.size w'.heap.size=w'.heap:=by
  apply Array.ext'
  apply List.ext_getElem?
  intro i
  by_cases hi:i<w.heap.size
  ·
   have:=h.imm i _ (Array.getElem?_eq_getElem hi)
   rw [Array.getElem?_toList,Array.getElem?_toList,this,Array.getElem?_append_left hi,Array.getElem?_eq_getElem hi]
  ·
   rw [Array.getElem?_toList,Array.getElem?_toList,Array.getElem?_append_right (by omega),Array.getElem?_extract]
   by_cases h2:i<w'.heap.size
   ·
    rw [if_pos (by omega),show w.heap.size+(i-w.heap.size)=i by omega]
   ·
    rw [if_neg (by omega),Array.getElem?_eq_none (by omega)]
 have e1:=h.os;have e2:=h.tape;have e3:=h.out
 cases w;cases w'
 simp only [grow,World.drewN] at*
 subst e1;subst e2;subst e3
 simp only [World.mk.injEq,true_and,and_true]
 exact ⟨hh.symm,by omega⟩
theorem zkF {α:Type}[Inhabited α]{enc:α→List Value}{k:Nat}(hk:∀ x,(enc x).length=k)(hpos:0<k)(xs:List α):flatK enc k xs.toArray=(xs.flatMap enc).toArray:=by
 have hl:(xs.flatMap enc).length=xs.length*k:=YE hk xs
 apply Array.ext
 ·
  rw [size_flatK];simp [hl]
 ·
  intro t h1 h2
  have ht:t<xs.length*k:=by rw [size_flatK] at h1;simpa using h1
  have hq:t / k<xs.length:=by rw [Nat.div_lt_iff_lt_mul hpos];exact ht
  have hr:t % k<k:=Nat.mod_lt _ hpos
  have hx:xs[t / k]? =some xs[t / k]:=List.getElem?_eq_getElem hq
  have hu:(enc xs[t / k])[t % k]? =some ((enc xs[t / k])[t % k]'(by rw [hk];exact hr)):=List.getElem?_eq_getElem _
  have h3:=zbX hk xs (t / k) _ hx (t % k) _ hu
  rw [Nat.mul_comm,Nat.div_add_mod] at h3
  have h4:=get_flatK enc k xs.toArray t (by simpa using ht)
  rw [getElem!_pos (flatK enc k xs.toArray) t h1] at h4
  rw [h4]
  have e1:xs.toArray[t / k]! =xs[t / k]'hq:=by simp [hq]
  rw [e1]
  have e2:(enc (xs[t / k]'hq))[t % k]! =(enc (xs[t / k]'hq))[t % k]'(by rw [hk];exact hr):=getElem!_pos (enc (xs[t / k]'hq)) (t % k) (by rw [hk];exact hr)
  rw [e2]
  have e3:(xs.flatMap enc).toArray[t]? =some ((enc xs[t / k])[t % k]'(by rw [hk];exact hr)):=by simpa using h3
  rw [Array.getElem?_eq_getElem h2] at e3
  exact (Option.some.inj e3).symm
end
end Go.Kn
namespace Go.Proofs.YtjblkbkmblkgoaaGreat
section
open Go Go.Kn Go.Proofs
theorem Ut:ElT Tryz.prog 57 45 45 392:=.of (by kernel_rfl)
theorem UB:ElT Tryz.prog 62 32 9 72:=.of (by kernel_rfl)
theorem Uz:ElT Tryz.prog 65 43 11 104:=.of (by kernel_rfl)
theorem Za:SlT Tryz.prog 57 45 45:=.of (by kernel_rfl)
theorem Z9:SlT Tryz.prog 65 43 11:=.of (by kernel_rfl)
theorem zo4:Tryz.prog.underlying 3=some (.int .i64):=by kernel_rfl
theorem zmL {zs:List Value}{a b:Nat}(h:a+b≤zs.length):∃ p q r,zs=p++(q++r)∧p.length=a∧q.length=b:=
 ⟨zs.take a,(zs.drop a).take b,(zs.drop a).drop b,by rw [List.take_append_drop,List.take_append_drop],by rw [List.length_take];omega,by rw [List.length_take,List.length_drop];omega⟩
theorem zok (xs:List Lm):(xs.flatMap Zl).length=xs.length*9:=YE V3 xs
theorem zdF {b n c:Nat}{xs:List Lm}{cur rest:List Value}(hl:xs.length=n)(hn:n≤c)(hc:c≤maxLen)(hcur:cur=xs.flatMap Zl++rest)(hs:cur.length=c*9):Ya 32 9 (.slice (some ⟨b,0,none⟩) n c) n (xs.flatMap Zl) [(b,.cells cur.toArray 32 (0,0))]:=by
 subst hcur
 refine ⟨by rw [zok,hl],.inr ⟨b,c,_,rfl,rfl,hn,hc,by simpa using hs,?_⟩⟩
 rw [List.take_left' (by rw [zok,hl])]
theorem zih {I:Qt}{av:Option Addr}{n c:Nat}{xs:List Lm}{L:Go.Kn.Loc}(hO:Ya 32 9 (.slice av n c) n (xs.flatMap Zl) L)(hn:n≤100000)(hl:xs.length=n)(b2:Nat)(y:Lm):Vl Tryz.prog 170 [.slice av n c,.int .i64 n,.slice (some ⟨b2,0,none⟩) 1 1] I (L++[(b2,.cells [Zl y].flatten.toArray 32 (0,0))]) (fun v' I' L'=>I'=I∧Ya 32 9 v' (n+1) ((xs.take n++y::xs.drop n).flatMap Zl) L'):=by
 intro g H w hw
 refine qe Tryz.func170 Tryz.ntmps170 hw ?_
 refine zR (zA ?_)
 refine zN (zR ?_)
 refine zM ?_
 refine zM ?_
 refine zV (Ve rfl rfl ZJ (fun hg=>by omega)) ?_
 refine zN (zR ?_)
 refine zM ?_
 refine zQ ZJ ?_
 refine zA (zN (Qm (zR ?_)))
 refine zM ?_
 refine zC (zN ?_)
 refine zI ?_ ?_<;>intro hc16
 ·
  exact absurd hc16 (by decide)
 refine Qr (Qd (zR (zM ?_)))
 refine zQ ZJ ?_
 refine zA (zN (Qm (zR ?_)))
 refine zM ?_
 refine zM ?_
 refine zC (zN ?_)
 refine zI ?_ ?_<;>intro hc22
 ·
  refine zR (zM ?_)
  refine zM ?_
  refine zpa (_) ([Zl y].flatten) (L) rfl rfl UB hO ⟨rfl,fun _=>rfl,.app zzk⟩ rfl ?_
  intro v' L' hO' _
  refine zA (zN (Qs (Qe ?_)))
  exact Qv rfl rfl (fun w hw=>⟨_,I,_,rfl,zzm _,hw.subL QJ,rfl,by rw [List.take_of_length_le (by omega),List.drop_eq_nil_of_le (by omega)];simpa [List.flatMap_append] using hO'⟩)
 exact absurd hc22 (by simp)
theorem zld {I:Qt}{b n c i:Nat}{xs:List Lm}{R:List Value}(hl:xs.length=n)(hi:i<n)(hn:n≤100000)(hnc:n≤c)(hcm:c≤maxLen)(hR:(((xs.take i).flatMap Zl)++((xs.drop i).flatMap Zl)++R).length=c*9)(b2:Nat)(hne:b2≠b)(y:Lm):Vl Tryz.prog 170 [.slice (some ⟨b,0,none⟩) n c,.int .i64 i,.slice (some ⟨b2,0,none⟩) 1 1] I ([(b,.cells (((xs.take i).flatMap Zl)++((xs.drop i).flatMap Zl)++R).toArray 32 (0,0)),(b2,.cells [Zl y].flatten.toArray 32 (0,0))]) (fun v' I' L'=>I'=I∧Ya 32 9 v' (n+1) ((xs.take i++y::xs.drop i).flatMap Zl) L'):=by
 intro g H w hw
 refine qe Tryz.func170 Tryz.ntmps170 hw ?_
 have hA:((xs.take i).flatMap Zl).length=i*9:=by rw [zok,List.length_take];omega
 have hB:((xs.drop i).flatMap Zl).length=(n-i)*9:=by rw [zok,List.length_drop];omega
 have hY:[Zl y].flatten.length=9:=rfl
 refine zR (zA ?_)
 refine zN (zR ?_)
 refine zM ?_
 refine zM ?_
 refine zV (Zj rfl rfl ZJ (by omega)) ?_
 refine zN (zR ?_)
 refine zM ?_
 refine zQ ZJ ?_
 refine zA (zN (Qm (zR ?_)))
 refine zM ?_
 refine zC (zN ?_)
 refine zI ?_ ?_<;>intro hc16
 ·
  exact absurd hc16 (by decide)
 refine Qr (Qd (zR (zM ?_)))
 refine zQ ZJ ?_
 refine zA (zN (Qm (zR ?_)))
 refine zM ?_
 refine zM ?_
 refine zC (zN ?_)
 refine zI ?_ ?_<;>intro hc22
 ·
  have h:=hc22;simp at h;omega
 refine Qr (Qd (Qm (zR (zM ?_))))
 refine zM ?_
 refine zB ?_
 refine zM ?_
 refine zV (zjS rfl ZJ) ?_
 refine zC (zN ?_)
 refine zI ?_ ?_<;>intro hc31
 ·
  have hgr:c<n+1:=by have h:=hc31;simp at h;omega
  refine zR (zM ?_)
  refine zM ?_
  refine zV (VM rfl rfl ZJ (fun hg=>by omega)) ?_
  refine zM ?_
  refine zM ?_
  refine zB ?_
  refine zM ?_
  refine zB ?_
  refine Xs (ys:=((xs.take i).flatMap Zl)) rfl rfl UB zo4 (by omega) (by decide) (by omega) hA (Cells.part (pre:=[]) (post:=((xs.drop i).flatMap Zl)++R) (by rw [List.nil_append,←List.append_assoc];exact .here) rfl) (by omega) rfl rfl (fun b3 c3 zs hc3 hm3 hz3=>?_)
  obtain ⟨z1,z2,z3,rfl,hz1,hz2⟩:=zmL (zs:=zs) (a:=9) (b:=(n-i)*9) (by rw [List.length_append,hA] at hz3;omega)
  refine zA ?_
  refine zN (zR ?_)
  refine zM ?_
  refine zM ?_
  refine zV (Zj rfl rfl ZJ (by omega)) ?_
  refine zM ?_
  refine JN (pre:=((xs.take i).flatMap Zl)) (old:=z1) (post:=z2++z3) (vs:=[Zl y].flatten) (cur':=(((xs.take i).flatMap Zl)++[Zl y].flatten++(z2++z3)).toArray) (by rw [List.append_assoc]) rfl rfl rfl ZJ (by show 9=_;simp only [Nat.min_def];split<;>omega) (by rw [hz1];rfl) (by omega) (fun _=>rfl) (.there (.there .here)) rfl rfl rfl .here ?_
  refine zN (Qm ?_)
  have hD:=zzm I
  refine Zt ?_
  refine QQ I [] mixed ?_
  refine zT 0 rfl (Qf rfl) hD ?_
  refine zT 1 rfl (Qf rfl) hD ?_
  refine zT 2 rfl (Qf rfl) hD ?_
  refine zT 3 rfl (Yz rfl rfl rfl (fun _=>by omega)) hD ?_
  refine zT 4 rfl (Zj rfl rfl ZJ (by omega)) hD ?_
  refine zT 5 rfl (Qf rfl) hD ?_
  refine zT 6 rfl (Qf rfl) hD ?_
  refine zT 7 rfl (Zj rfl rfl ZJ (by omega)) hD ?_
  refine qd 8 rfl ?_
  refine JN (pre:=((xs.take i).flatMap Zl)++[Zl y].flatten) (old:=z2) (post:=z3) (vs:=((xs.drop i).flatMap Zl)) (cur':=(((xs.take i).flatMap Zl)++[Zl y].flatten++((xs.drop i).flatMap Zl)++z3).toArray) (by rw [List.append_assoc,List.append_assoc,List.append_assoc]) rfl rfl rfl ZJ (by rw [hB];simp only [Nat.min_def];split<;>omega) (by rw [hz2,hB]) (by rw [List.length_append,hA,hY];omega) (fun _=>rfl) (.there (Cells.part (pre:=((xs.take i).flatMap Zl)) (post:=R) .here (by show 0+_=_;rw [hA];omega))) (zpP _) rfl rfl .here ?_
  refine Qb ?_
  refine zD hD ?_
  refine Qn (by kernel_rfl) ?_
  refine Qx ?_
  refine Qd (zR (zM ?_))
  refine zA (zN (Qs (Qe ?_)))
  first
  | exact Qv rfl rfl (fun w hw=>⟨_,I,_,rfl,zzm _,hw.subL (.keep QB),rfl,by rw [show (i:Int).toNat+((n:Int)+((1:Nat):Int)-(i:Int)).toNat=n+1 by omega];exact zdF (rest:=z3) (by simp [hl];omega) (by omega) hm3 (by simp [List.flatMap_append,List.flatMap_cons]) (by simp only [List.length_append,hA,hB,hz1,hz2] at hz3 ⊢;rw [hY];omega)⟩)
 have hgr:n+1≤c:=by have h:=hc31;simp at h;omega
 refine Qr (Qd (Qm ?_))
 obtain ⟨r5,R2,rfl,hr5⟩:∃ r5 R2,R=r5++R2∧r5.length=9:=⟨R.take 9,R.drop 9,by rw [List.take_append_drop],by rw [List.length_take];simp only [List.length_append,hA,hB] at hR;omega⟩
 obtain ⟨p1,p2,hpp,hp1,hp2⟩:∃ p1 p2,((xs.drop i).flatMap Zl)++r5=p1++p2∧p1.length=9∧p2.length=(n-i)*9:=⟨(((xs.drop i).flatMap Zl)++r5).take 9,(((xs.drop i).flatMap Zl)++r5).drop 9,by rw [List.take_append_drop],by rw [List.length_take,List.length_append,hB,hr5];omega,by rw [List.length_drop,List.length_append,hB,hr5];omega⟩
 have hcur:(((xs.take i).flatMap Zl)++((xs.drop i).flatMap Zl)++(r5++R2)).toArray=(((xs.take i).flatMap Zl)++p1++p2++R2).toArray:=by rw [List.append_assoc (((xs.take i).flatMap Zl)++p1),List.append_assoc ((xs.take i).flatMap Zl) p1,←List.append_assoc p1,←hpp];simp only [List.append_assoc]
 refine Qi (zM ?_)
 refine zM ?_
 refine zM ?_
 refine zB ?_
 refine zV (VM rfl rfl ZJ (fun hg=>by omega)) ?_
 refine zA (zN (Qm (zR ?_)))
 refine zM ?_
 refine zM ?_
 refine zM ?_
 refine zM ?_
 refine zB ?_
 refine zV (Zj rfl rfl ZJ (by omega)) ?_
 refine WA rfl rfl rfl Tryz.func222 (by kernel_rfl) (by kernel_rfl) (by kernel_rfl) (by kernel_rfl:Extern.find Tryz.f222=some (Extern.SlicesOverlaps.overlaps #[62,62] #[4])) ZJ hne (List.mem_cons_of_mem _ (List.mem_cons_self ..)) (List.mem_cons_self ..) (by rw [List.size_toArray,hR];omega) rfl rfl ?_
 refine zO (zN ?_)
 refine zI ?_ ?_<;>intro hc68
 ·
  refine Qm ?_
  have hD:=zzm I
  refine Zt ?_
  refine QQ I [] mixed ?_
  refine zT 0 rfl (Qf rfl) hD ?_
  refine zT 1 rfl (Qf rfl) hD ?_
  refine zT 2 rfl (Qf rfl) hD ?_
  refine zT 3 rfl (Yz rfl rfl rfl (fun _=>by omega)) hD ?_
  refine zT 4 rfl (Zj rfl rfl ZJ (by omega)) hD ?_
  refine zT 5 rfl (Qf rfl) hD ?_
  refine zT 6 rfl (Qf rfl) hD ?_
  refine zT 7 rfl (Zj rfl rfl ZJ (by omega)) hD ?_
  refine qd 8 rfl ?_
  refine JN (pre:=((xs.take i).flatMap Zl)++p1) (old:=p2) (post:=R2) (vs:=((xs.drop i).flatMap Zl)) (cur':=(((xs.take i).flatMap Zl)++p1++((xs.drop i).flatMap Zl)++R2).toArray) hcur rfl rfl rfl ZJ (by rw [hB];simp only [Nat.min_def];split<;>omega) (by rw [hp2,hB]) (by rw [List.length_append,hA,hp1];omega) (fun _=>rfl) (Cells.part (pre:=((xs.take i).flatMap Zl)) (post:=r5++R2) .here (by show 0+_=_;rw [hA];omega)) (zpP _) rfl rfl .here ?_
  refine Qb ?_
  refine zD hD ?_
  refine Qn (by kernel_rfl) ?_
  refine Qx ?_
  refine Qd (zR (zM ?_))
  refine zM ?_
  refine zV (Zj rfl rfl ZJ (by omega)) ?_
  refine zM ?_
  refine JN (pre:=((xs.take i).flatMap Zl)) (old:=p1) (post:=((xs.drop i).flatMap Zl)++R2) (vs:=[Zl y].flatten) (cur':=(((xs.take i).flatMap Zl)++[Zl y].flatten++(((xs.drop i).flatMap Zl)++R2)).toArray) (by rw [List.append_assoc (_++_)]) rfl rfl rfl ZJ (by show 9=_;simp only [Nat.min_def];split<;>omega) (by rw [hp1];rfl) (by omega) (fun _=>rfl) (.there .here) rfl rfl rfl .here ?_
  refine zN (zR ?_)
  refine zM ?_
  refine zA (zN (Qs (Qe ?_)))
  first
  | exact Qv rfl rfl (fun w hw=>⟨_,I,_,rfl,zzm _,hw.subL (.keep QB),rfl,by rw [show ((n:Int)+((1:Nat):Int)).toNat=n+1 by omega];exact zdF (rest:=R2) (by simp [hl];omega) hgr hcm (by simp [List.flatMap_append,List.flatMap_cons]) (by simp only [List.length_append,hA,hB,hr5] at hR ⊢;rw [hY];omega)⟩)
 cases hc68
theorem zjF {I:Qt}{v:Value}{n:Nat}{xs:List Lm}{L:Go.Kn.Loc}(hO:Ya 32 9 v n (xs.flatMap Zl) L)(hn:n≤100000)(hl:xs.length=n){i:Nat}(hi:i≤n)(b2:Nat)(y:Lm):
  Vl Tryz.prog 170 [v,.int .i64 i,.slice (some ⟨b2,0,none⟩) 1 1] I (L++[(b2,.cells [Zl y].flatten.toArray 32 (0,0))]) (fun v' I' L'=>I'=I∧Ya 32 9 v' (n+1) ((xs.take i++y::xs.drop i).flatMap Zl) L'):=by
 by_cases hin:i=n
 ·
  subst hin
  obtain ⟨av,c,rfl⟩:=hO.shape
  exact zih hO hn hl b2 y
 rcases hO.2 with ⟨_,h0,_⟩ | ⟨b,c,cur,rfl,rfl,hnc,hcm,hcs,ht⟩
 ·
  omega
 intro g H w hw
 have hne:b2≠b:=fun e=>by
  have:=hw.nodup
  subst e
  simp at this
 have hsplit:(xs.take i).flatMap Zl++(xs.drop i).flatMap Zl=xs.flatMap Zl:=by rw [←List.flatMap_append,List.take_append_drop]
 have hcur:cur=((xs.take i).flatMap Zl++(xs.drop i).flatMap Zl++cur.toList.drop (n*9)).toArray:=by
  rw [hsplit,←ht,List.take_append_drop,Array.toArray_toList]
 rw [hcur] at hw
 exact zld hl (by omega) hn hnc hcm (by rw [hsplit,←ht,List.take_append_drop,Array.length_toList,hcs]) b2 hne y g H w hw
theorem zop (xs:List S.Rt):(xs.flatMap S.encR).length=xs.length*11:=YE S.encR_len xs
theorem zdB {b n c:Nat}{xs:List S.Rt}{cur rest:List Value}(hl:xs.length=n)(hn:n≤c)(hc:c≤maxLen)(hcur:cur=xs.flatMap S.encR++rest)(hs:cur.length=c*11):Ya 43 11 (.slice (some ⟨b,0,none⟩) n c) n (xs.flatMap S.encR) [(b,.cells cur.toArray 43 (0,0))]:=by
 subst hcur
 refine ⟨by rw [zop,hl],.inr ⟨b,c,_,rfl,rfl,hn,hc,by simpa using hs,?_⟩⟩
 rw [List.take_left' (by rw [zop,hl])]
theorem zhO {I:Qt}{av:Option Addr}{n c:Nat}{xs:List S.Rt}{L:Go.Kn.Loc}(hO:Ya 43 11 (.slice av n c) n (xs.flatMap S.encR) L)(hn:n≤100000)(hl:xs.length=n)(b2:Nat)(y:S.Rt):Vl Tryz.prog 171 [.slice av n c,.int .i64 n,.slice (some ⟨b2,0,none⟩) 1 1] I (L++[(b2,.cells [S.encR y].flatten.toArray 43 (0,0))]) (fun v' I' L'=>I'=I∧Ya 43 11 v' (n+1) ((xs.take n++y::xs.drop n).flatMap S.encR) L'):=by
 intro g H w hw
 refine qe Tryz.func171 Tryz.ntmps171 hw ?_
 refine zR (zA ?_)
 refine zN (zR ?_)
 refine zM ?_
 refine zM ?_
 refine zV (Ve rfl rfl Z9 (fun hg=>by omega)) ?_
 refine zN (zR ?_)
 refine zM ?_
 refine zQ Z9 ?_
 refine zA (zN (Qm (zR ?_)))
 refine zM ?_
 refine zC (zN ?_)
 refine zI ?_ ?_<;>intro hc16
 ·
  exact absurd hc16 (by decide)
 refine Qr (Qd (zR (zM ?_)))
 refine zQ Z9 ?_
 refine zA (zN (Qm (zR ?_)))
 refine zM ?_
 refine zM ?_
 refine zC (zN ?_)
 refine zI ?_ ?_<;>intro hc22
 ·
  refine zR (zM ?_)
  refine zM ?_
  refine zpa (_) ([S.encR y].flatten) (L) rfl rfl Uz hO ⟨rfl,fun _=>rfl,.app zzk⟩ rfl ?_
  intro v' L' hO' _
  refine zA (zN (Qs (Qe ?_)))
  exact Qv rfl rfl (fun w hw=>⟨_,I,_,rfl,zzm _,hw.subL QJ,rfl,by rw [List.take_of_length_le (by omega),List.drop_eq_nil_of_le (by omega)];simpa [List.flatMap_append] using hO'⟩)
 exact absurd hc22 (by simp)
theorem ziV {I:Qt}{b n c i:Nat}{xs:List S.Rt}{R:List Value}(hl:xs.length=n)(hi:i<n)(hn:n≤100000)(hnc:n≤c)(hcm:c≤maxLen)(hR:(((xs.take i).flatMap S.encR)++((xs.drop i).flatMap S.encR)++R).length=c*11)(b2:Nat)(hne:b2≠b)(y:S.Rt):Vl Tryz.prog 171 [.slice (some ⟨b,0,none⟩) n c,.int .i64 i,.slice (some ⟨b2,0,none⟩) 1 1] I ([(b,.cells (((xs.take i).flatMap S.encR)++((xs.drop i).flatMap S.encR)++R).toArray 43 (0,0)),(b2,.cells [S.encR y].flatten.toArray 43 (0,0))]) (fun v' I' L'=>I'=I∧Ya 43 11 v' (n+1) ((xs.take i++y::xs.drop i).flatMap S.encR) L'):=by
 intro g H w hw
 refine qe Tryz.func171 Tryz.ntmps171 hw ?_
 have hA:((xs.take i).flatMap S.encR).length=i*11:=by rw [zop,List.length_take];omega
 have hB:((xs.drop i).flatMap S.encR).length=(n-i)*11:=by rw [zop,List.length_drop];omega
 have hY:[S.encR y].flatten.length=11:=rfl
 refine zR (zA ?_)
 refine zN (zR ?_)
 refine zM ?_
 refine zM ?_
 refine zV (Zj rfl rfl Z9 (by omega)) ?_
 refine zN (zR ?_)
 refine zM ?_
 refine zQ Z9 ?_
 refine zA (zN (Qm (zR ?_)))
 refine zM ?_
 refine zC (zN ?_)
 refine zI ?_ ?_<;>intro hc16
 ·
  exact absurd hc16 (by decide)
 refine Qr (Qd (zR (zM ?_)))
 refine zQ Z9 ?_
 refine zA (zN (Qm (zR ?_)))
 refine zM ?_
 refine zM ?_
 refine zC (zN ?_)
 refine zI ?_ ?_<;>intro hc22
 ·
  have h:=hc22;simp at h;omega
 refine Qr (Qd (Qm (zR (zM ?_))))
 refine zM ?_
 refine zB ?_
 refine zM ?_
 refine zV (zjS rfl Z9) ?_
 refine zC (zN ?_)
 refine zI ?_ ?_<;>intro hc31
 ·
  have hgr:c<n+1:=by have h:=hc31;simp at h;omega
  refine zR (zM ?_)
  refine zM ?_
  refine zV (VM rfl rfl Z9 (fun hg=>by omega)) ?_
  refine zM ?_
  refine zM ?_
  refine zB ?_
  refine zM ?_
  refine zB ?_
  refine Xs (ys:=((xs.take i).flatMap S.encR)) rfl rfl Uz zo4 (by omega) (by decide) (by omega) hA (Cells.part (pre:=[]) (post:=((xs.drop i).flatMap S.encR)++R) (by rw [List.nil_append,←List.append_assoc];exact .here) rfl) (by omega) rfl rfl (fun b3 c3 zs hc3 hm3 hz3=>?_)
  obtain ⟨z1,z2,z3,rfl,hz1,hz2⟩:=zmL (zs:=zs) (a:=11) (b:=(n-i)*11) (by rw [List.length_append,hA] at hz3;omega)
  refine zA ?_
  refine zN (zR ?_)
  refine zM ?_
  refine zM ?_
  refine zV (Zj rfl rfl Z9 (by omega)) ?_
  refine zM ?_
  refine JN (pre:=((xs.take i).flatMap S.encR)) (old:=z1) (post:=z2++z3) (vs:=[S.encR y].flatten) (cur':=(((xs.take i).flatMap S.encR)++[S.encR y].flatten++(z2++z3)).toArray) (by rw [List.append_assoc]) rfl rfl rfl Z9 (by show 11=_;simp only [Nat.min_def];split<;>omega) (by rw [hz1];rfl) (by omega) (fun _=>rfl) (.there (.there .here)) rfl rfl rfl .here ?_
  refine zN (Qm ?_)
  have hD:=zzm I
  refine Zt ?_
  refine QQ I [] mixed ?_
  refine zT 0 rfl (Qf rfl) hD ?_
  refine zT 1 rfl (Qf rfl) hD ?_
  refine zT 2 rfl (Qf rfl) hD ?_
  refine zT 3 rfl (Yz rfl rfl rfl (fun _=>by omega)) hD ?_
  refine zT 4 rfl (Zj rfl rfl Z9 (by omega)) hD ?_
  refine zT 5 rfl (Qf rfl) hD ?_
  refine zT 6 rfl (Qf rfl) hD ?_
  refine zT 7 rfl (Zj rfl rfl Z9 (by omega)) hD ?_
  refine qd 8 rfl ?_
  refine JN (pre:=((xs.take i).flatMap S.encR)++[S.encR y].flatten) (old:=z2) (post:=z3) (vs:=((xs.drop i).flatMap S.encR)) (cur':=(((xs.take i).flatMap S.encR)++[S.encR y].flatten++((xs.drop i).flatMap S.encR)++z3).toArray) (by rw [List.append_assoc,List.append_assoc,List.append_assoc]) rfl rfl rfl Z9 (by rw [hB];simp only [Nat.min_def];split<;>omega) (by rw [hz2,hB]) (by rw [List.length_append,hA,hY];omega) (fun _=>rfl) (.there (Cells.part (pre:=((xs.take i).flatMap S.encR)) (post:=R) .here (by show 0+_=_;rw [hA];omega))) (zpH _) rfl rfl .here ?_
  refine Qb ?_
  refine zD hD ?_
  refine Qn (by kernel_rfl) ?_
  refine Qx ?_
  refine Qd (zR (zM ?_))
  refine zA (zN (Qs (Qe ?_)))
  first
  | exact Qv rfl rfl (fun w hw=>⟨_,I,_,rfl,zzm _,hw.subL (.keep QB),rfl,by rw [show (i:Int).toNat+((n:Int)+((1:Nat):Int)-(i:Int)).toNat=n+1 by omega];exact zdB (rest:=z3) (by simp [hl];omega) (by omega) hm3 (by simp [List.flatMap_append,List.flatMap_cons]) (by simp only [List.length_append,hA,hB,hz1,hz2] at hz3 ⊢;rw [hY];omega)⟩)
 have hgr:n+1≤c:=by have h:=hc31;simp at h;omega
 refine Qr (Qd (Qm ?_))
 obtain ⟨r5,R2,rfl,hr5⟩:∃ r5 R2,R=r5++R2∧r5.length=11:=⟨R.take 11,R.drop 11,by rw [List.take_append_drop],by rw [List.length_take];simp only [List.length_append,hA,hB] at hR;omega⟩
 obtain ⟨p1,p2,hpp,hp1,hp2⟩:∃ p1 p2,((xs.drop i).flatMap S.encR)++r5=p1++p2∧p1.length=11∧p2.length=(n-i)*11:=⟨(((xs.drop i).flatMap S.encR)++r5).take 11,(((xs.drop i).flatMap S.encR)++r5).drop 11,by rw [List.take_append_drop],by rw [List.length_take,List.length_append,hB,hr5];omega,by rw [List.length_drop,List.length_append,hB,hr5];omega⟩
 have hcur:(((xs.take i).flatMap S.encR)++((xs.drop i).flatMap S.encR)++(r5++R2)).toArray=(((xs.take i).flatMap S.encR)++p1++p2++R2).toArray:=by rw [List.append_assoc (((xs.take i).flatMap S.encR)++p1),List.append_assoc ((xs.take i).flatMap S.encR) p1,←List.append_assoc p1,←hpp];simp only [List.append_assoc]
 refine Qi (zM ?_)
 refine zM ?_
 refine zM ?_
 refine zB ?_
 refine zV (VM rfl rfl Z9 (fun hg=>by omega)) ?_
 refine zA (zN (Qm (zR ?_)))
 refine zM ?_
 refine zM ?_
 refine zM ?_
 refine zM ?_
 refine zB ?_
 refine zV (Zj rfl rfl Z9 (by omega)) ?_
 refine WA rfl rfl rfl Tryz.func224 (by kernel_rfl) (by kernel_rfl) (by kernel_rfl) (by kernel_rfl:Extern.find Tryz.f224=some (Extern.SlicesOverlaps.overlaps #[65,65] #[4])) Z9 hne (List.mem_cons_of_mem _ (List.mem_cons_self ..)) (List.mem_cons_self ..) (by rw [List.size_toArray,hR];omega) rfl rfl ?_
 refine zO (zN ?_)
 refine zI ?_ ?_<;>intro hc68
 ·
  refine Qm ?_
  have hD:=zzm I
  refine Zt ?_
  refine QQ I [] mixed ?_
  refine zT 0 rfl (Qf rfl) hD ?_
  refine zT 1 rfl (Qf rfl) hD ?_
  refine zT 2 rfl (Qf rfl) hD ?_
  refine zT 3 rfl (Yz rfl rfl rfl (fun _=>by omega)) hD ?_
  refine zT 4 rfl (Zj rfl rfl Z9 (by omega)) hD ?_
  refine zT 5 rfl (Qf rfl) hD ?_
  refine zT 6 rfl (Qf rfl) hD ?_
  refine zT 7 rfl (Zj rfl rfl Z9 (by omega)) hD ?_
  refine qd 8 rfl ?_
  refine JN (pre:=((xs.take i).flatMap S.encR)++p1) (old:=p2) (post:=R2) (vs:=((xs.drop i).flatMap S.encR)) (cur':=(((xs.take i).flatMap S.encR)++p1++((xs.drop i).flatMap S.encR)++R2).toArray) hcur rfl rfl rfl Z9 (by rw [hB];simp only [Nat.min_def];split<;>omega) (by rw [hp2,hB]) (by rw [List.length_append,hA,hp1];omega) (fun _=>rfl) (Cells.part (pre:=((xs.take i).flatMap S.encR)) (post:=r5++R2) .here (by show 0+_=_;rw [hA];omega)) (zpH _) rfl rfl .here ?_
  refine Qb ?_
  refine zD hD ?_
  refine Qn (by kernel_rfl) ?_
  refine Qx ?_
  refine Qd (zR (zM ?_))
  refine zM ?_
  refine zV (Zj rfl rfl Z9 (by omega)) ?_
  refine zM ?_
  refine JN (pre:=((xs.take i).flatMap S.encR)) (old:=p1) (post:=((xs.drop i).flatMap S.encR)++R2) (vs:=[S.encR y].flatten) (cur':=(((xs.take i).flatMap S.encR)++[S.encR y].flatten++(((xs.drop i).flatMap S.encR)++R2)).toArray) (by rw [List.append_assoc (_++_)]) rfl rfl rfl Z9 (by show 11=_;simp only [Nat.min_def];split<;>omega) (by rw [hp1];rfl) (by omega) (fun _=>rfl) (.there .here) rfl rfl rfl .here ?_
  refine zN (zR ?_)
  refine zM ?_
  refine zA (zN (Qs (Qe ?_)))
  first
  | exact Qv rfl rfl (fun w hw=>⟨_,I,_,rfl,zzm _,hw.subL (.keep QB),rfl,by rw [show ((n:Int)+((1:Nat):Int)).toNat=n+1 by omega];exact zdB (rest:=R2) (by simp [hl];omega) hgr hcm (by simp [List.flatMap_append,List.flatMap_cons]) (by simp only [List.length_append,hA,hB,hr5] at hR ⊢;rw [hY];omega)⟩)
 cases hc68
theorem zlz {I:Qt}{v:Value}{n:Nat}{xs:List S.Rt}{L:Go.Kn.Loc}(hO:Ya 43 11 v n (xs.flatMap S.encR) L)(hn:n≤100000)(hl:xs.length=n){i:Nat}(hi:i≤n)(b2:Nat)(y:S.Rt):
  Vl Tryz.prog 171 [v,.int .i64 i,.slice (some ⟨b2,0,none⟩) 1 1] I (L++[(b2,.cells [S.encR y].flatten.toArray 43 (0,0))]) (fun v' I' L'=>I'=I∧Ya 43 11 v' (n+1) ((xs.take i++y::xs.drop i).flatMap S.encR) L'):=by
 by_cases hin:i=n
 ·
  subst hin
  obtain ⟨av,c,rfl⟩:=hO.shape
  exact zhO hO hn hl b2 y
 rcases hO.2 with ⟨_,h0,_⟩ | ⟨b,c,cur,rfl,rfl,hnc,hcm,hcs,ht⟩
 ·
  omega
 intro g H w hw
 have hne:b2≠b:=fun e=>by
  have:=hw.nodup
  subst e
  simp at this
 have hsplit:(xs.take i).flatMap S.encR++(xs.drop i).flatMap S.encR=xs.flatMap S.encR:=by rw [←List.flatMap_append,List.take_append_drop]
 have hcur:cur=((xs.take i).flatMap S.encR++(xs.drop i).flatMap S.encR++cur.toList.drop (n*11)).toArray:=by
  rw [hsplit,←ht,List.take_append_drop,Array.toArray_toList]
 rw [hcur] at hw
 exact ziV hl (by omega) hn hnc hcm (by rw [hsplit,←ht,List.take_append_drop,Array.length_toList,hcs]) b2 hne y g H w hw
theorem znC (xs:List Nt):(xs.flatMap Q6).length=xs.length*45:=YE YN xs
theorem zhz {b n c:Nat}{xs:List Nt}{cur rest:List Value}(hl:xs.length=n)(hn:n≤c)(hc:c≤maxLen)(hcur:cur=xs.flatMap Q6++rest)(hs:cur.length=c*45):Ya 45 45 (.slice (some ⟨b,0,none⟩) n c) n (xs.flatMap Q6) [(b,.cells cur.toArray 45 (0,0))]:=by
 subst hcur
 refine ⟨by rw [znC,hl],.inr ⟨b,c,_,rfl,rfl,hn,hc,by simpa using hs,?_⟩⟩
 rw [List.take_left' (by rw [znC,hl])]
theorem zhQ {I:Qt}{av:Option Addr}{n c:Nat}{xs:List Nt}{L:Go.Kn.Loc}(hO:Ya 45 45 (.slice av n c) n (xs.flatMap Q6) L)(hn:n≤100000)(hl:xs.length=n)(b2:Nat)(y:Nt):Vl Tryz.prog 174 [.slice av n c,.int .i64 n,.slice (some ⟨b2,0,none⟩) 1 1] I (L++[(b2,.cells [Q6 y].flatten.toArray 45 (0,0))]) (fun v' I' L'=>I'=I∧Ya 45 45 v' (n+1) ((xs.take n++y::xs.drop n).flatMap Q6) L'):=by
 intro g H w hw
 refine qe Tryz.func174 Tryz.ntmps174 hw ?_
 refine zR (zA ?_)
 refine zN (zR ?_)
 refine zM ?_
 refine zM ?_
 refine zV (Ve rfl rfl Za (fun hg=>by omega)) ?_
 refine zN (zR ?_)
 refine zM ?_
 refine zQ Za ?_
 refine zA (zN (Qm (zR ?_)))
 refine zM ?_
 refine zC (zN ?_)
 refine zI ?_ ?_<;>intro hc16
 ·
  exact absurd hc16 (by decide)
 refine Qr (Qd (zR (zM ?_)))
 refine zQ Za ?_
 refine zA (zN (Qm (zR ?_)))
 refine zM ?_
 refine zM ?_
 refine zC (zN ?_)
 refine zI ?_ ?_<;>intro hc22
 ·
  refine zR (zM ?_)
  refine zM ?_
  refine zpa (_) ([Q6 y].flatten) (L) rfl rfl Ut hO ⟨rfl,fun _=>rfl,.app zzk⟩ rfl ?_
  intro v' L' hO' _
  refine zA (zN (Qs (Qe ?_)))
  exact Qv rfl rfl (fun w hw=>⟨_,I,_,rfl,zzm _,hw.subL QJ,rfl,by rw [List.take_of_length_le (by omega),List.drop_eq_nil_of_le (by omega)];simpa [List.flatMap_append] using hO'⟩)
 exact absurd hc22 (by simp)
theorem zlj {I:Qt}{b n c i:Nat}{xs:List Nt}{R:List Value}(hl:xs.length=n)(hi:i<n)(hn:n≤100000)(hnc:n≤c)(hcm:c≤maxLen)(hR:(((xs.take i).flatMap Q6)++((xs.drop i).flatMap Q6)++R).length=c*45)(b2:Nat)(hne:b2≠b)(y:Nt):Vl Tryz.prog 174 [.slice (some ⟨b,0,none⟩) n c,.int .i64 i,.slice (some ⟨b2,0,none⟩) 1 1] I ([(b,.cells (((xs.take i).flatMap Q6)++((xs.drop i).flatMap Q6)++R).toArray 45 (0,0)),(b2,.cells [Q6 y].flatten.toArray 45 (0,0))]) (fun v' I' L'=>I'=I∧Ya 45 45 v' (n+1) ((xs.take i++y::xs.drop i).flatMap Q6) L'):=by
 intro g H w hw
 refine qe Tryz.func174 Tryz.ntmps174 hw ?_
 have hA:((xs.take i).flatMap Q6).length=i*45:=by rw [znC,List.length_take];omega
 have hB:((xs.drop i).flatMap Q6).length=(n-i)*45:=by rw [znC,List.length_drop];omega
 have hY:[Q6 y].flatten.length=45:=rfl
 refine zR (zA ?_)
 refine zN (zR ?_)
 refine zM ?_
 refine zM ?_
 refine zV (Zj rfl rfl Za (by omega)) ?_
 refine zN (zR ?_)
 refine zM ?_
 refine zQ Za ?_
 refine zA (zN (Qm (zR ?_)))
 refine zM ?_
 refine zC (zN ?_)
 refine zI ?_ ?_<;>intro hc16
 ·
  exact absurd hc16 (by decide)
 refine Qr (Qd (zR (zM ?_)))
 refine zQ Za ?_
 refine zA (zN (Qm (zR ?_)))
 refine zM ?_
 refine zM ?_
 refine zC (zN ?_)
 refine zI ?_ ?_<;>intro hc22
 ·
  have h:=hc22;simp at h;omega
 refine Qr (Qd (Qm (zR (zM ?_))))
 refine zM ?_
 refine zB ?_
 refine zM ?_
 refine zV (zjS rfl Za) ?_
 refine zC (zN ?_)
 refine zI ?_ ?_<;>intro hc31
 ·
  have hgr:c<n+1:=by have h:=hc31;simp at h;omega
  refine zR (zM ?_)
  refine zM ?_
  refine zV (VM rfl rfl Za (fun hg=>by omega)) ?_
  refine zM ?_
  refine zM ?_
  refine zB ?_
  refine zM ?_
  refine zB ?_
  refine Xs (ys:=((xs.take i).flatMap Q6)) rfl rfl Ut zo4 (by omega) (by decide) (by omega) hA (Cells.part (pre:=[]) (post:=((xs.drop i).flatMap Q6)++R) (by rw [List.nil_append,←List.append_assoc];exact .here) rfl) (by omega) rfl rfl (fun b3 c3 zs hc3 hm3 hz3=>?_)
  obtain ⟨z1,z2,z3,rfl,hz1,hz2⟩:=zmL (zs:=zs) (a:=45) (b:=(n-i)*45) (by rw [List.length_append,hA] at hz3;omega)
  refine zA ?_
  refine zN (zR ?_)
  refine zM ?_
  refine zM ?_
  refine zV (Zj rfl rfl Za (by omega)) ?_
  refine zM ?_
  refine JN (pre:=((xs.take i).flatMap Q6)) (old:=z1) (post:=z2++z3) (vs:=[Q6 y].flatten) (cur':=(((xs.take i).flatMap Q6)++[Q6 y].flatten++(z2++z3)).toArray) (by rw [List.append_assoc]) rfl rfl rfl Za (by show 45=_;simp only [Nat.min_def];split<;>omega) (by rw [hz1];rfl) (by omega) (fun _=>rfl) (.there (.there .here)) rfl rfl rfl .here ?_
  refine zN (Qm ?_)
  have hD:=zzm I
  refine Zt ?_
  refine QQ I [] mixed ?_
  refine zT 0 rfl (Qf rfl) hD ?_
  refine zT 1 rfl (Qf rfl) hD ?_
  refine zT 2 rfl (Qf rfl) hD ?_
  refine zT 3 rfl (Yz rfl rfl rfl (fun _=>by omega)) hD ?_
  refine zT 4 rfl (Zj rfl rfl Za (by omega)) hD ?_
  refine zT 5 rfl (Qf rfl) hD ?_
  refine zT 6 rfl (Qf rfl) hD ?_
  refine zT 7 rfl (Zj rfl rfl Za (by omega)) hD ?_
  refine qd 8 rfl ?_
  refine JN (pre:=((xs.take i).flatMap Q6)++[Q6 y].flatten) (old:=z2) (post:=z3) (vs:=((xs.drop i).flatMap Q6)) (cur':=(((xs.take i).flatMap Q6)++[Q6 y].flatten++((xs.drop i).flatMap Q6)++z3).toArray) (by rw [List.append_assoc,List.append_assoc,List.append_assoc]) rfl rfl rfl Za (by rw [hB];simp only [Nat.min_def];split<;>omega) (by rw [hz2,hB]) (by rw [List.length_append,hA,hY];omega) (fun _=>rfl) (.there (Cells.part (pre:=((xs.take i).flatMap Q6)) (post:=R) .here (by show 0+_=_;rw [hA];omega))) (znh _) rfl rfl .here ?_
  refine Qb ?_
  refine zD hD ?_
  refine Qn (by kernel_rfl) ?_
  refine Qx ?_
  refine Qd (zR (zM ?_))
  refine zA (zN (Qs (Qe ?_)))
  first
  | exact Qv rfl rfl (fun w hw=>⟨_,I,_,rfl,zzm _,hw.subL (.keep QB),rfl,by rw [show (i:Int).toNat+((n:Int)+((1:Nat):Int)-(i:Int)).toNat=n+1 by omega];exact zhz (rest:=z3) (by simp [hl];omega) (by omega) hm3 (by simp [List.flatMap_append,List.flatMap_cons]) (by simp only [List.length_append,hA,hB,hz1,hz2] at hz3 ⊢;rw [hY];omega)⟩)
 have hgr:n+1≤c:=by have h:=hc31;simp at h;omega
 refine Qr (Qd (Qm ?_))
 obtain ⟨r5,R2,rfl,hr5⟩:∃ r5 R2,R=r5++R2∧r5.length=45:=⟨R.take 45,R.drop 45,by rw [List.take_append_drop],by rw [List.length_take];simp only [List.length_append,hA,hB] at hR;omega⟩
 obtain ⟨p1,p2,hpp,hp1,hp2⟩:∃ p1 p2,((xs.drop i).flatMap Q6)++r5=p1++p2∧p1.length=45∧p2.length=(n-i)*45:=⟨(((xs.drop i).flatMap Q6)++r5).take 45,(((xs.drop i).flatMap Q6)++r5).drop 45,by rw [List.take_append_drop],by rw [List.length_take,List.length_append,hB,hr5];omega,by rw [List.length_drop,List.length_append,hB,hr5];omega⟩
 have hcur:(((xs.take i).flatMap Q6)++((xs.drop i).flatMap Q6)++(r5++R2)).toArray=(((xs.take i).flatMap Q6)++p1++p2++R2).toArray:=by rw [List.append_assoc (((xs.take i).flatMap Q6)++p1),List.append_assoc ((xs.take i).flatMap Q6) p1,←List.append_assoc p1,←hpp];simp only [List.append_assoc]
 refine Qi (zM ?_)
 refine zM ?_
 refine zM ?_
 refine zB ?_
 refine zV (VM rfl rfl Za (fun hg=>by omega)) ?_
 refine zA (zN (Qm (zR ?_)))
 refine zM ?_
 refine zM ?_
 refine zM ?_
 refine zM ?_
 refine zB ?_
 refine zV (Zj rfl rfl Za (by omega)) ?_
 refine WA rfl rfl rfl Tryz.func226 (by kernel_rfl) (by kernel_rfl) (by kernel_rfl) (by kernel_rfl:Extern.find Tryz.f226=some (Extern.SlicesOverlaps.overlaps #[57,57] #[4])) Za hne (List.mem_cons_of_mem _ (List.mem_cons_self ..)) (List.mem_cons_self ..) (by rw [List.size_toArray,hR];omega) rfl rfl ?_
 refine zO (zN ?_)
 refine zI ?_ ?_<;>intro hc68
 ·
  refine Qm ?_
  have hD:=zzm I
  refine Zt ?_
  refine QQ I [] mixed ?_
  refine zT 0 rfl (Qf rfl) hD ?_
  refine zT 1 rfl (Qf rfl) hD ?_
  refine zT 2 rfl (Qf rfl) hD ?_
  refine zT 3 rfl (Yz rfl rfl rfl (fun _=>by omega)) hD ?_
  refine zT 4 rfl (Zj rfl rfl Za (by omega)) hD ?_
  refine zT 5 rfl (Qf rfl) hD ?_
  refine zT 6 rfl (Qf rfl) hD ?_
  refine zT 7 rfl (Zj rfl rfl Za (by omega)) hD ?_
  refine qd 8 rfl ?_
  refine JN (pre:=((xs.take i).flatMap Q6)++p1) (old:=p2) (post:=R2) (vs:=((xs.drop i).flatMap Q6)) (cur':=(((xs.take i).flatMap Q6)++p1++((xs.drop i).flatMap Q6)++R2).toArray) hcur rfl rfl rfl Za (by rw [hB];simp only [Nat.min_def];split<;>omega) (by rw [hp2,hB]) (by rw [List.length_append,hA,hp1];omega) (fun _=>rfl) (Cells.part (pre:=((xs.take i).flatMap Q6)) (post:=r5++R2) .here (by show 0+_=_;rw [hA];omega)) (znh _) rfl rfl .here ?_
  refine Qb ?_
  refine zD hD ?_
  refine Qn (by kernel_rfl) ?_
  refine Qx ?_
  refine Qd (zR (zM ?_))
  refine zM ?_
  refine zV (Zj rfl rfl Za (by omega)) ?_
  refine zM ?_
  refine JN (pre:=((xs.take i).flatMap Q6)) (old:=p1) (post:=((xs.drop i).flatMap Q6)++R2) (vs:=[Q6 y].flatten) (cur':=(((xs.take i).flatMap Q6)++[Q6 y].flatten++(((xs.drop i).flatMap Q6)++R2)).toArray) (by rw [List.append_assoc (_++_)]) rfl rfl rfl Za (by show 45=_;simp only [Nat.min_def];split<;>omega) (by rw [hp1];rfl) (by omega) (fun _=>rfl) (.there .here) rfl rfl rfl .here ?_
  refine zN (zR ?_)
  refine zM ?_
  refine zA (zN (Qs (Qe ?_)))
  first
  | exact Qv rfl rfl (fun w hw=>⟨_,I,_,rfl,zzm _,hw.subL (.keep QB),rfl,by rw [show ((n:Int)+((1:Nat):Int)).toNat=n+1 by omega];exact zhz (rest:=R2) (by simp [hl];omega) hgr hcm (by simp [List.flatMap_append,List.flatMap_cons]) (by simp only [List.length_append,hA,hB,hr5] at hR ⊢;rw [hY];omega)⟩)
 cases hc68
theorem zbA {I:Qt}{v:Value}{n:Nat}{xs:List Nt}{L:Go.Kn.Loc}(hO:Ya 45 45 v n (xs.flatMap Q6) L)(hn:n≤100000)(hl:xs.length=n){i:Nat}(hi:i≤n)(b2:Nat)(y:Nt):
  Vl Tryz.prog 174 [v,.int .i64 i,.slice (some ⟨b2,0,none⟩) 1 1] I (L++[(b2,.cells [Q6 y].flatten.toArray 45 (0,0))]) (fun v' I' L'=>I'=I∧Ya 45 45 v' (n+1) ((xs.take i++y::xs.drop i).flatMap Q6) L'):=by
 by_cases hin:i=n
 ·
  subst hin
  obtain ⟨av,c,rfl⟩:=hO.shape
  exact zhQ hO hn hl b2 y
 rcases hO.2 with ⟨_,h0,_⟩ | ⟨b,c,cur,rfl,rfl,hnc,hcm,hcs,ht⟩
 ·
  omega
 intro g H w hw
 have hne:b2≠b:=fun e=>by
  have:=hw.nodup
  subst e
  simp at this
 have hsplit:(xs.take i).flatMap Q6++(xs.drop i).flatMap Q6=xs.flatMap Q6:=by rw [←List.flatMap_append,List.take_append_drop]
 have hcur:cur=((xs.take i).flatMap Q6++(xs.drop i).flatMap Q6++cur.toList.drop (n*45)).toArray:=by
  rw [hsplit,←ht,List.take_append_drop,Array.toArray_toList]
 rw [hcur] at hw
 exact zlj hl (by omega) hn hnc hcm (by rw [hsplit,←ht,List.take_append_drop,Array.length_toList,hcs]) b2 hne y g H w hw
end
end Go.Proofs.YtjblkbkmblkgoaaGreat
namespace Go.Kn
section
open Go
section
variable {C:Cx} {Q:Exit→Act→World→Prop} {ops:Array Oper} {I0:Qt} {loc0:Loc} {S:GS} {E:Env} {I:Qt} {loc:Loc}
theorem ztF {fuel:Nat}{listed:Array Bool}(b:Bool)(h:XD C Q ops I0 loc0 fuel listed ((b,[])::S) E I loc):XD C Q ops I0 loc0 fuel listed S E I loc:=fun a w ha hg hw=>h a w ha ⟨(fun _ _ e=>by cases e),hg⟩ hw
theorem Ub {fuel:Nat}{listed:Array Bool}(j:Nat){oj:Oper}{dj:Nat}{b0:Bool}(_hj:ops[j]? =some oj)(_hd:oj.dst=some dj)(_hl:Uc S E dj=some (.bool b0))(h:XD C Q ops I0 loc0 fuel listed ((b0,[])::S) E I loc):XD C Q ops I0 loc0 fuel listed S E I loc:=ztF b0 h
theorem zwJ (i:Nat){tc ta d ty:Nat}{pos:String}{af:Array Edge}{gd:Option (Nat×Bool)}{b t x:Bool}{G:Env}{fuel:Nat}{listed:Array Bool}
  (hi:ops[i]? =some ⟨some d,.pick (.tmp tc) (.tmp ta) (.const (.bool false)),ty,pos,af,gd⟩)(hb:b=t)(hc:QE S E (.tmp tc)=some (.bool t))(ha':Vu G ta=some (.bool x))
  (hG:Zk ops S E ⟨some d,.pick (.tmp tc) (.tmp ta) (.const (.bool false)),ty,pos,af,gd⟩)(hN:Nat.blt d C.N=true)(hf:Z5 S E d=true)
  (hs:Region.noSelect ops=true)(hfr:Region.free .any ops listed i=true)(hr:(Region.ready .any ops listed).contains i=true)(hQ:Yb Q)(hI:HLe I0 I)(hl:JQ loc0 loc)
  (h:XD C Q ops I0 loc0 fuel (listed.setIfInBounds i true) (zdy S E d (.bool (t&&x))) (zcK S E d (.bool (t&&x))) I loc):XD C Q ops I0 loc0 (fuel+1) listed ((b,G)::S) E I loc:=by
 intro a w ha hg hw
 have hp:=Yv ha hg.2 hN hf (.bool (t&&x))
 refine YV (v:=bif Yf S then .bool (t&&x) else undef) hi (by intro c e;cases e) (Region.noSelect_spec hs) (fun c a w=>hQ c a d _ w) fuel listed a w (Region.free_spec hi hfr) (by simpa using hr) ?_ ((hw.mono hI).subL hl) (h _ _ hp.1 hp.2 hw)
 have hwt:=hG.wanted ha hg.2
 cases hcj:Yf S with
 | true=>
  refine .inl ⟨by rw [hwt,hcj],fun w' _=>?_⟩
  have e1:a.eval (.tmp tc)= .bool t:=Qh ha hg.2 hcj hc
  have e2:t=true→a.eval (.tmp ta)= .bool x:=fun e=>by
   have:=hg.1 _ _ ha'
   rw [hcj,hb,e] at this;exact this
  show (execOp a.eval ⟨some d,.pick (.tmp tc) (.tmp ta) (.const (.bool false)),ty,pos,af,gd⟩).run C.P w'= .ok (.value (.bool (t&&x))) w'
  simp only [execOp,e1,asBool,Sem.run_bind,Sem.run_pure,Result.andThen]
  cases t with
  | true=>simp [e2 rfl]
  | false=>simp [Act.eval]
 | false=>exact .inr ⟨by rw [hwt,hcj],rfl⟩
theorem znK (i:Nat){oi:Oper}{d:Nat}{v:Value}{fuel:Nat}{listed:Array Bool}(hi:ops[i]? =some oi)(hv:QV C [] E I0 loc0 oi v)(hG:Zk ops [] E oi)(hd:oi.dst=some d)(hN:Nat.blt d C.N=true)
  (hs:Region.noSelect ops=true)(hfr:Region.free .any ops listed i=true)(hr:(Region.ready .any ops listed).contains i=true)(hQ:Yb Q)(hI:HLe I0 I)(hl:JQ loc0 loc)
  (h:XD C Q ops I0 loc0 fuel (listed.setIfInBounds i true) [] ((d,v)::E) I loc):XD C Q ops I0 loc0 (fuel+1) listed [] E I loc:=K7 i hi hv hG hd hN rfl hs hfr hr hQ hI hl h
theorem zt0 (i:Nat){oi:Oper}{d:Nat}{v:Value}{fuel:Nat}{listed:Array Bool}(hi:ops[i]? =some oi)(hv:QV C [] E I0 loc0 oi v)(hI:HLe I0 I)(h:XD C Q ops I0 loc0 fuel (listed.setIfInBounds i true) [] ((d,v)::E) I loc)(hG:Zk ops [] E oi:=by exact .none rfl)(hd:oi.dst=some d:=by exact rfl)(hN:Nat.blt d C.N=true:=by exact rfl)
  (hs:Region.noSelect ops=true:=by kernel_rfl)(hfr:Region.free .any ops listed i=true:=by kernel_rfl)(hr:(Region.ready .any ops listed).contains i=true:=by kernel_rfl)(hQ:Yb Q:=by first | exact JE | (repeat (first | exact Ue | with_reducible refine Ua ?_ | with_reducible refine J0 ?_)))(hl:JQ loc0 loc:=by repeat (first | exact .refl | exact QB | refine .keep ?_ | refine .drop ?_ | refine QO ?_)):XD C Q ops I0 loc0 (fuel+1) listed [] E I loc:=znK i hi hv hG hd hN hs hfr hr hQ hI hl h
theorem zn5 (i:Nat){oi:Oper}{d:Nat}{v:Value}{b:Bool}{G:Env}{fuel:Nat}{listed:Array Bool}(hi:ops[i]? =some oi)(hv:QV C ((b,G)::S) E I0 loc0 oi v)(hG:Zk ops ((b,G)::S) E oi)(hd:oi.dst=some d)(hN:Nat.blt d C.N=true)(hf:Z5 ((b,G)::S) E d=true)
  (hs:Region.noSelect ops=true)(hfr:Region.free .any ops listed i=true)(hr:(Region.ready .any ops listed).contains i=true)(hQ:Yb Q)(hI:HLe I0 I)(hl:JQ loc0 loc)
  (h:XD C Q ops I0 loc0 fuel (listed.setIfInBounds i true) ((b,(d,v)::G)::S) E I loc):XD C Q ops I0 loc0 (fuel+1) listed ((b,G)::S) E I loc:=K7 i hi hv hG hd hN hf hs hfr hr hQ hI hl h
theorem zt1 (i:Nat){oi:Oper}{d:Nat}{v:Value}{b:Bool}{G:Env}{fuel:Nat}{listed:Array Bool}(hi:ops[i]? =some oi)(hv:QV C ((b,G)::S) E I0 loc0 oi v)(hI:HLe I0 I)(h:XD C Q ops I0 loc0 fuel (listed.setIfInBounds i true) ((b,(d,v)::G)::S) E I loc)(hG:Zk ops ((b,G)::S) E oi:=by first | exact .some rfl rfl rfl rfl gbt | exact .some rfl rfl rfl rfl gbf)(hd:oi.dst=some d:=by exact rfl)(hN:Nat.blt d C.N=true:=by exact rfl)(hf:Z5 ((b,G)::S) E d=true:=by exact rfl)
  (hs:Region.noSelect ops=true:=by kernel_rfl)(hfr:Region.free .any ops listed i=true:=by kernel_rfl)(hr:(Region.ready .any ops listed).contains i=true:=by kernel_rfl)(hQ:Yb Q:=by first | exact JE | (repeat (first | exact Ue | with_reducible refine Ua ?_ | with_reducible refine J0 ?_)))(hl:JQ loc0 loc:=by repeat (first | exact .refl | exact QB | refine .keep ?_ | refine .drop ?_ | refine QO ?_)):XD C Q ops I0 loc0 (fuel+1) listed ((b,G)::S) E I loc:=zn5 i hi hv hG hd hN hf hs hfr hr hQ hI hl h
theorem ztc (i:Nat){tc ta d ty:Nat}{pos:String}{af:Array Edge}{gd:Option (Nat×Bool)}{b t x:Bool}{G:Env}{fuel:Nat}{listed:Array Bool}
  (hi:ops[i]? =some ⟨some d,.pick (.tmp tc) (.tmp ta) (.const (.bool false)),ty,pos,af,gd⟩)(hb:b=t)(hc:QE [] E (.tmp tc)=some (.bool t))(ha':Vu G ta=some (.bool x))
  (hG:gd=none)(hN:Nat.blt d C.N=true)
  (hs:Region.noSelect ops=true)(hfr:Region.free .any ops listed i=true)(hr:(Region.ready .any ops listed).contains i=true)(hQ:Yb Q)(hI:HLe I0 I)(hl:JQ loc0 loc)
  (h:XD C Q ops I0 loc0 fuel (listed.setIfInBounds i true) [] ((d,.bool (t&&x))::E) I loc):XD C Q ops I0 loc0 (fuel+1) listed ((b,G)::[]) E I loc:=zwJ i hi hb hc ha' (.none hG) hN rfl hs hfr hr hQ hI hl h
theorem zta (i:Nat){tc ta d ty:Nat}{pos:String}{af:Array Edge}{gd:Option (Nat×Bool)}{b t x:Bool}{G:Env}{fuel:Nat}{listed:Array Bool}
  (hi:ops[i]? =some ⟨some d,.pick (.tmp tc) (.tmp ta) (.const (.bool false)),ty,pos,af,gd⟩)(hb:b=t)(hc:QE [] E (.tmp tc)=some (.bool t))(ha':Vu G ta=some (.bool x))(hI:HLe I0 I)
  (h:XD C Q ops I0 loc0 fuel (listed.setIfInBounds i true) [] ((d,.bool (t&&x))::E) I loc)(hG:gd=none:=by exact rfl)(hN:Nat.blt d C.N=true:=by exact rfl)
  (hs:Region.noSelect ops=true:=by kernel_rfl)(hfr:Region.free .any ops listed i=true:=by kernel_rfl)(hr:(Region.ready .any ops listed).contains i=true:=by kernel_rfl)(hQ:Yb Q:=by first | exact JE | (repeat (first | exact Ue | with_reducible refine Ua ?_ | with_reducible refine J0 ?_)))(hl:JQ loc0 loc:=by repeat (first | exact .refl | exact QB | refine .keep ?_ | refine .drop ?_ | refine QO ?_)):XD C Q ops I0 loc0 (fuel+1) listed ((b,G)::[]) E I loc:=ztc i hi hb hc ha' hG hN hs hfr hr hQ hI hl h
end
end
end Go.Kn
section
namespace Go.Kn
open Go
section
variable {α:Type} {C:Cx} {Q:Exit→Act→World→Prop} {E E':Env} {I I':Qt} {loc loc' L R:Loc} {ops:Array Oper} {rest:List Oper} {S:GS}
variable {Jc:List α→Qt→Loc→Prop} {Jx:Code→List α→Qt→Loc→Prop} {pre:List α}
end
section
variable {P:Program} {r:Option Nat} {N:Nat} {g:World} {H:Qt} {Q:Exit→Act→World→Prop} {E E':Env} {I I':Qt} {loc loc' L R:Loc} {ms:List Nat}
end
end Go.Kn
namespace Go.Kn
open Go
section
variable {C:Cx} {Q:Exit→Act→World→Prop} {E E':Env} {I I' I0:Qt} {loc loc' loc0 L R:Loc} {ops:Array Oper} {rest:List Oper} {S:GS}
theorem zgh {c:Code}(h:loc=loc')(hx:X C Q c E I loc'):X C Q c E I loc:=h ▸ hx
theorem zjx (i j k m:Nat){oi oj ok om:Oper}{fuel:Nat}{listed:Array Bool}(hi:ops[i]? =some oi)(hj:ops[j]? =some oj)(hk:ops[k]? =some ok)(hm:ops[m]? =some om)(hr:Region.ready .any ops listed=[i,j,k,m])
  (h1:XO C (fun e a w=>match e with | .normal=>St C.g I0 C.H loc0 w∧YX C.r C.P .any ops Q (fun w=>St C.g I0 C.H loc0 w) fuel (listed.setIfInBounds i true) a w | e=>Q e a w) ops [oi] S E I loc)
  (h2:XO C (fun e a w=>match e with | .normal=>St C.g I0 C.H loc0 w∧YX C.r C.P .any ops Q (fun w=>St C.g I0 C.H loc0 w) fuel (listed.setIfInBounds j true) a w | e=>Q e a w) ops [oj] S E I loc)
  (h3:XO C (fun e a w=>match e with | .normal=>St C.g I0 C.H loc0 w∧YX C.r C.P .any ops Q (fun w=>St C.g I0 C.H loc0 w) fuel (listed.setIfInBounds k true) a w | e=>Q e a w) ops [ok] S E I loc)
  (h4:XO C (fun e a w=>match e with | .normal=>St C.g I0 C.H loc0 w∧YX C.r C.P .any ops Q (fun w=>St C.g I0 C.H loc0 w) fuel (listed.setIfInBounds m true) a w | e=>Q e a w) ops [om] S E I loc):XD C Q ops I0 loc0 (fuel+1) listed S E I loc:=by
 intro a w ha hg hw
 refine ⟨(fun h0=>by rw [hr] at h0;cases h0),fun q hq=>?_⟩
 rw [hr] at hq
 rcases List.mem_cons.1 hq with e | hq
 ·
  subst e;exact zbT hi ha hg hw h1
 ·
  rcases List.mem_cons.1 hq with e | hq
  ·
   subst e;exact zbT hj ha hg hw h2
  ·
   rcases List.mem_cons.1 hq with e | hq
   ·
    subst e;exact zbT hk ha hg hw h3
   ·
    obtain rfl:=List.mem_singleton.1 hq;exact zbT hm ha hg hw h4
end
end Go.Kn
end
namespace Go.Proofs.YtjblkbkmblkgoaaGreat
section
open Go Go.Kn Go.Proofs
theorem JR:AgT Tryz.prog 41 5:=.of (by kernel_rfl)
theorem YC:AgT Tryz.prog 43 11:=.of (by kernel_rfl)
theorem zfR:zxd Tryz.prog 32 [.int,.int,.int,.int,.int,.int,.int,.int,.int]:=⟨by kernel_rfl,by kernel_rfl,by kernel_rfl,by kernel_rfl⟩
theorem zhm:EqT Tryz.prog 41 [.int,.int,.int,.int,.int]:=⟨by kernel_rfl,by kernel_rfl,by kernel_rfl,by kernel_rfl⟩
theorem XZ:EqT Tryz.prog 43 [.int,.int,.int,.int,.int,.int,.str,.str,.int,.int,.int]:=⟨by kernel_rfl,by kernel_rfl,by kernel_rfl,by kernel_rfl⟩
theorem Y3:QL Tryz.prog 45 0 0:=.of (by kernel_rfl)
theorem Vg:QL Tryz.prog 45 1 1:=.of (by kernel_rfl)
theorem Yo:QL Tryz.prog 45 2 10:=.of (by kernel_rfl)
theorem VX:QL Tryz.prog 45 3 29:=.of (by kernel_rfl)
theorem Yl:QL Tryz.prog 45 4 34:=.of (by kernel_rfl)
theorem zeQ:PlT Tryz.prog 32 #[(0,1),(1,1),(2,1),(3,1),(4,1),(5,1),(6,3)] (.agg #[(.int .i64 0),(.int .i64 0),(.int .i64 0),(.int .i64 0),(.int .i64 0),(.int .i64 0),(.int .i64 0),(.int .i64 0),(.int .i64 0)]):=⟨.of (by kernel_rfl),by kernel_rfl,fun w=>by kernel_rfl⟩
theorem zj3:PlT Tryz.prog 41 #[(0,1),(1,1),(2,1),(3,1),(4,1)] (.agg #[(.int .i64 0),(.int .i64 0),(.int .i64 0),(.int .i64 0),(.int .i64 0)]):=⟨.of (by kernel_rfl),by kernel_rfl,fun w=>by kernel_rfl⟩
theorem Xg:PlT Tryz.prog 43 #[(0,1),(1,1),(2,1),(3,1),(4,1),(5,1),(6,1),(7,1),(8,1),(9,1),(10,1)] (.agg #[(.int .i64 0),(.int .i64 0),(.int .i64 0),(.int .i64 0),(.int .i64 0),(.int .i64 0),(.string ⟨#[]⟩),(.string ⟨#[]⟩),(.int .i64 0),(.int .i64 0),(.int .i64 0)]):=⟨.of (by kernel_rfl),by kernel_rfl,fun w=>by kernel_rfl⟩
theorem zc2 {I:Qt}{loc:Go.Kn.Loc}{b:Nat}{x:Nt}(h:Cells I loc b 0 (Q6 x)):Cells I loc b 1 (Zl x.lm):=Cells.part (pre:=[.int .i64 x.kind]) (post:=WG x.pt++(L.encL x.ls++S.encR x.rt)) h rfl
theorem zai {I:Qt}{loc:Go.Kn.Loc}{b:Nat}{x:Nt}(h:Cells I loc b 0 (Q6 x)):Cells I loc b 10 (WG x.pt):=Cells.part (pre:=.int .i64 x.kind::Zl x.lm) (post:=L.encL x.ls++S.encR x.rt) h rfl
theorem zdx {I:Qt}{loc:Go.Kn.Loc}{b:Nat}{x:Nt}(h:Cells I loc b 0 (Q6 x)):Cells I loc b 29 (L.encL x.ls):=Cells.part (pre:=.int .i64 x.kind::(Zl x.lm++WG x.pt)) (post:=S.encR x.rt) h rfl
theorem zdf {I:Qt}{loc:Go.Kn.Loc}{b:Nat}{x:Nt}(h:Cells I loc b 0 (Q6 x)):Cells I loc b 34 (S.encR x.rt):=Cells.part (pre:=.int .i64 x.kind::(Zl x.lm++(WG x.pt++L.encL x.ls))) (post:=[]) h rfl
theorem zir {I:Qt}{loc:Go.Kn.Loc}{b:Nat}{x:Pt}(h:Cells I loc b 0 (WG x)):Cells I loc b 4 (zfc x.nw):=Cells.part (pre:=[.int .i64 x.id,.int .i64 x.kind,.int .i64 x.sign,.int .i64 x.field]) (post:=[.slice x.a x.n x.c]) h rfl
theorem WC {I:Qt}(x:Nt):ZA Tryz.prog 172 [Kj x] I (.bool (zaa x)):=by
 intro g H w hw
 refine qe Tryz.func172 Tryz.ntmps172 hw ?_
 have hIc:=zzm I
 refine zR ?_
 refine QR rfl rfl rfl (fun b_1=>?_)
 refine zA (Qb ?_)
 refine QH .here (fun I1 hI1 hb1=>?_)
 have hIc:=hIc.trans hI1
 have h1:=BxI.of hb1
 refine Qd (zR ?_)
 refine zF Yo ?_
 refine zV (Qg rfl Vs (fun hg=>by exact zai (BxI.cells (vs:=Q6 x) h1)) rfl) ?_
 refine Qq za9 rfl rfl (fun b_3=>?_)
 refine zh UH ?_
 refine Qb ?_
 refine QH .here (fun I2 hI2 hb2=>?_)
 have h1:=h1.mono hI2;have hIc:=hIc.trans hI2
 have h3:=BxI.of hb2
 refine Qd ?_
 refine zY [(1,_)] (fun T L0 E I' loc'=>∃ (r:Nat) (m:List (Int×Bool)),E=(4,.map (some r))::T∧I2=I'∧[(r,Yk (.int .i64) .bool m)]=loc'∧Zx m 1=some (z1 x)∧Zx m 2=some (z2 x)∧Zx m 3=some (z3 x)∧Zx m 4=some (z4 x)) ?_ ?_
 ·
  have hD:=zzm I2
  refine Zt ?_
  refine QQ I2 [] mixed ?_
  refine zt0 1 rfl (Qa rfl Vg) hD ?_
  refine zt0 2 rfl (Qg rfl JP (fun hg=>by exact zc2 (BxI.cells (vs:=Q6 x) h1)) rfl) hD ?_
  refine zt0 3 rfl (QK (ps:=[]) [_,_,_,_,_,_,_,_,_] zeQ rfl rfl) hD ?_
  refine zt0 4 rfl (UO rfl rfl zfR rfl) hD ?_
  refine zt0 6 rfl (Qa rfl Z2) hD ?_
  refine zt0 7 rfl (Qc rfl Ql (fun hg=>by exact QA.imm h3.out rfl)) hD ?_
  refine zt0 8 rfl (QD rfl rfl rfl) hD ?_
  refine zt0 9 rfl (Qf rfl) hD ?_
  refine Ub 9 rfl rfl rfl ?_
  refine zt1 10 rfl (Qa rfl Jv) hD ?_
  refine zt1 11 rfl (Qc rfl Ql (fun hg=>by exact QA.imm h3.out rfl)) hD ?_
  refine zt1 12 rfl (QD rfl rfl rfl) hD ?_
  refine zta 13 rfl rfl rfl rfl hD ?_
  refine zt0 14 rfl (Qf rfl) hD ?_
  refine Ub 14 rfl rfl rfl ?_
  refine zt1 15 rfl (Qa rfl Yn) hD ?_
  refine zt1 16 rfl (Qc rfl Ql (fun hg=>by exact QA.imm h3.out rfl)) hD ?_
  refine zt1 17 rfl (QD rfl rfl rfl) hD ?_
  refine zta 18 rfl rfl rfl rfl hD ?_
  refine zt0 19 rfl (Qf rfl) hD ?_
  refine Ub 19 rfl rfl rfl ?_
  refine zt1 20 rfl (Qa rfl Ym) hD ?_
  refine zt1 21 rfl (Qc rfl Ql (fun hg=>by exact QA.imm h3.out rfl)) hD ?_
  refine zt1 22 rfl (QD rfl rfl rfl) hD ?_
  refine zta 23 rfl rfl rfl rfl hD ?_
  refine zt0 24 rfl (Qf rfl) hD ?_
  refine Ub 24 rfl rfl rfl ?_
  refine zt1 25 rfl (Qa rfl Yy) hD ?_
  refine zt1 26 rfl (Qg rfl ZC (fun hg=>by exact zir (BxI.cells (vs:=WG x.pt) h3)) rfl) hD ?_
  refine zt1 27 rfl (QK (ps:=[]) [_,_,_,_,_,_,_,_,_,_,_,_,_,_] X3 rfl rfl) hD ?_
  refine zt1 28 rfl (UO rfl rfl Wr rfl) hD ?_
  refine zta 29 rfl rfl rfl rfl hD ?_
  refine zt0 30 rfl (Qf rfl) hD ?_
  refine Ub 30 rfl rfl rfl ?_
  refine zt1 31 rfl (Qa rfl ZK) hD ?_
  refine zt1 32 rfl (Qc rfl Y5 (fun hg=>by exact QA.imm h3.out rfl)) hD ?_
  refine zt1 33 rfl (Q4 rfl ZE) hD ?_
  refine zt1 34 rfl (QD rfl rfl rfl) hD ?_
  refine zta 35 rfl rfl rfl rfl hD ?_
  refine zt0 37 rfl (Qa rfl VX) hD ?_
  refine zt0 38 rfl (Qg rfl JR (fun hg=>by exact zdx (BxI.cells (vs:=Q6 x) h1)) rfl) hD ?_
  refine zt0 39 rfl (QK (ps:=[]) [_,_,_,_,_] zj3 rfl rfl) hD ?_
  refine zt0 40 rfl (UJ rfl rfl zhm rfl) hD ?_
  refine zt0 42 rfl (Qa rfl Yl) hD ?_
  refine zt0 43 rfl (Qg rfl YC (fun hg=>by exact zdf (BxI.cells (vs:=Q6 x) h1)) rfl) hD ?_
  refine zt0 44 rfl (QK (ps:=[]) [_,_,_,_,_,_,_,_,_,_,_] Xg rfl rfl) hD ?_
  refine zt0 45 rfl (UJ rfl rfl XZ rfl) hD ?_
  refine qd 0 rfl ?_
  refine Z3 rfl rfl (fun r_7=>?_)
  refine (show XO _ _ _ _ _ _ _ ((r_7,Yk (.int .i64) .bool ([]:List (Int×Bool)))::[]) from ?_)
  refine Qb ?_
  refine zD hD ?_
  refine zjx 5 36 41 46 rfl rfl rfl rfl (by kernel_rfl) ?_ ?_ ?_ ?_
  ·
   refine QF (ek:=Value.int .i64) (ev:=Value.bool) _ QY Q3 rfl rfl rfl rfl (by repeat (first | exact Upd.here | apply Upd.there | apply Qu)) ?_
   refine Qb ?_
   refine zD hD ?_
   refine VD 36 41 46 rfl rfl rfl (by kernel_rfl) ?_ ?_ ?_
   ·
    refine QF (ek:=Value.int .i64) (ev:=Value.bool) _ QY Q3 rfl rfl rfl rfl (by repeat (first | exact Upd.here | apply Upd.there | apply Qu)) ?_
    refine Qb ?_
    refine zD hD ?_
    refine QW 41 46 rfl rfl (by kernel_rfl) ?_ ?_
    ·
     refine QF (ek:=Value.int .i64) (ev:=Value.bool) _ QY Q3 rfl rfl rfl rfl (by repeat (first | exact Upd.here | apply Upd.there | apply Qu)) ?_
     refine Qb ?_
     refine zD hD ?_
     refine qd 46 rfl ?_
     refine QF (ek:=Value.int .i64) (ev:=Value.bool) _ QY Q3 rfl rfl rfl rfl (by repeat (first | exact Upd.here | apply Upd.there | apply Qu)) ?_
     refine Qb ?_
     refine zD hD ?_
     refine zt0 47 rfl (Qf rfl) hD ?_
     refine zt0 48 rfl (QC rfl) hD ?_
     refine Qn (by kernel_rfl) ?_
     refine Qx ?_
     refine Q9 _ _ ⟨_,_,rfl,rfl,rfl,?_,?_,?_,?_⟩ (.cons rfl (.cons rfl .nil)) (by repeat (first | exact .refl | exact QJ | refine QZ ?_ | refine .drop ?_ | refine QO ?_))
     all_goals rfl
    refine QF (ek:=Value.int .i64) (ev:=Value.bool) _ QY Q3 rfl rfl rfl rfl (by repeat (first | exact Upd.here | apply Upd.there | apply Qu)) ?_
    refine Qb ?_
    refine zD hD ?_
    refine qd 41 rfl ?_
    refine QF (ek:=Value.int .i64) (ev:=Value.bool) _ QY Q3 rfl rfl rfl rfl (by repeat (first | exact Upd.here | apply Upd.there | apply Qu)) ?_
    refine Qb ?_
    refine zD hD ?_
    refine zt0 47 rfl (Qf rfl) hD ?_
    refine zt0 48 rfl (QC rfl) hD ?_
    refine Qn (by kernel_rfl) ?_
    refine Qx ?_
    refine Q9 _ _ ⟨_,_,rfl,rfl,rfl,?_,?_,?_,?_⟩ (.cons rfl (.cons rfl .nil)) (by repeat (first | exact .refl | exact QJ | refine QZ ?_ | refine .drop ?_ | refine QO ?_))
    all_goals rfl
   ·
    refine QF (ek:=Value.int .i64) (ev:=Value.bool) _ QY Q3 rfl rfl rfl rfl (by repeat (first | exact Upd.here | apply Upd.there | apply Qu)) ?_
    refine Qb ?_
    refine zD hD ?_
    refine QW 36 46 rfl rfl (by kernel_rfl) ?_ ?_
    ·
     refine QF (ek:=Value.int .i64) (ev:=Value.bool) _ QY Q3 rfl rfl rfl rfl (by repeat (first | exact Upd.here | apply Upd.there | apply Qu)) ?_
     refine Qb ?_
     refine zD hD ?_
     refine qd 46 rfl ?_
     refine QF (ek:=Value.int .i64) (ev:=Value.bool) _ QY Q3 rfl rfl rfl rfl (by repeat (first | exact Upd.here | apply Upd.there | apply Qu)) ?_
     refine Qb ?_
     refine zD hD ?_
     refine zt0 47 rfl (Qf rfl) hD ?_
     refine zt0 48 rfl (QC rfl) hD ?_
     refine Qn (by kernel_rfl) ?_
     refine Qx ?_
     refine Q9 _ _ ⟨_,_,rfl,rfl,rfl,?_,?_,?_,?_⟩ (.cons rfl (.cons rfl .nil)) (by repeat (first | exact .refl | exact QJ | refine QZ ?_ | refine .drop ?_ | refine QO ?_))
     all_goals rfl
    refine QF (ek:=Value.int .i64) (ev:=Value.bool) _ QY Q3 rfl rfl rfl rfl (by repeat (first | exact Upd.here | apply Upd.there | apply Qu)) ?_
    refine Qb ?_
    refine zD hD ?_
    refine qd 36 rfl ?_
    refine QF (ek:=Value.int .i64) (ev:=Value.bool) _ QY Q3 rfl rfl rfl rfl (by repeat (first | exact Upd.here | apply Upd.there | apply Qu)) ?_
    refine Qb ?_
    refine zD hD ?_
    refine zt0 47 rfl (Qf rfl) hD ?_
    refine zt0 48 rfl (QC rfl) hD ?_
    refine Qn (by kernel_rfl) ?_
    refine Qx ?_
    refine Q9 _ _ ⟨_,_,rfl,rfl,rfl,?_,?_,?_,?_⟩ (.cons rfl (.cons rfl .nil)) (by repeat (first | exact .refl | exact QJ | refine QZ ?_ | refine .drop ?_ | refine QO ?_))
    all_goals rfl
   refine QF (ek:=Value.int .i64) (ev:=Value.bool) _ QY Q3 rfl rfl rfl rfl (by repeat (first | exact Upd.here | apply Upd.there | apply Qu)) ?_
   refine Qb ?_
   refine zD hD ?_
   refine QW 36 41 rfl rfl (by kernel_rfl) ?_ ?_
   ·
    refine QF (ek:=Value.int .i64) (ev:=Value.bool) _ QY Q3 rfl rfl rfl rfl (by repeat (first | exact Upd.here | apply Upd.there | apply Qu)) ?_
    refine Qb ?_
    refine zD hD ?_
    refine qd 41 rfl ?_
    refine QF (ek:=Value.int .i64) (ev:=Value.bool) _ QY Q3 rfl rfl rfl rfl (by repeat (first | exact Upd.here | apply Upd.there | apply Qu)) ?_
    refine Qb ?_
    refine zD hD ?_
    refine zt0 47 rfl (Qf rfl) hD ?_
    refine zt0 48 rfl (QC rfl) hD ?_
    refine Qn (by kernel_rfl) ?_
    refine Qx ?_
    refine Q9 _ _ ⟨_,_,rfl,rfl,rfl,?_,?_,?_,?_⟩ (.cons rfl (.cons rfl .nil)) (by repeat (first | exact .refl | exact QJ | refine QZ ?_ | refine .drop ?_ | refine QO ?_))
    all_goals rfl
   refine QF (ek:=Value.int .i64) (ev:=Value.bool) _ QY Q3 rfl rfl rfl rfl (by repeat (first | exact Upd.here | apply Upd.there | apply Qu)) ?_
   refine Qb ?_
   refine zD hD ?_
   refine qd 36 rfl ?_
   refine QF (ek:=Value.int .i64) (ev:=Value.bool) _ QY Q3 rfl rfl rfl rfl (by repeat (first | exact Upd.here | apply Upd.there | apply Qu)) ?_
   refine Qb ?_
   refine zD hD ?_
   refine zt0 47 rfl (Qf rfl) hD ?_
   refine zt0 48 rfl (QC rfl) hD ?_
   refine Qn (by kernel_rfl) ?_
   refine Qx ?_
   refine Q9 _ _ ⟨_,_,rfl,rfl,rfl,?_,?_,?_,?_⟩ (.cons rfl (.cons rfl .nil)) (by repeat (first | exact .refl | exact QJ | refine QZ ?_ | refine .drop ?_ | refine QO ?_))
   all_goals rfl
  ·
   refine QF (ek:=Value.int .i64) (ev:=Value.bool) _ QY Q3 rfl rfl rfl rfl (by repeat (first | exact Upd.here | apply Upd.there | apply Qu)) ?_
   refine Qb ?_
   refine zD hD ?_
   refine VD 5 41 46 rfl rfl rfl (by kernel_rfl) ?_ ?_ ?_
   ·
    refine QF (ek:=Value.int .i64) (ev:=Value.bool) _ QY Q3 rfl rfl rfl rfl (by repeat (first | exact Upd.here | apply Upd.there | apply Qu)) ?_
    refine Qb ?_
    refine zD hD ?_
    refine QW 41 46 rfl rfl (by kernel_rfl) ?_ ?_
    ·
     refine QF (ek:=Value.int .i64) (ev:=Value.bool) _ QY Q3 rfl rfl rfl rfl (by repeat (first | exact Upd.here | apply Upd.there | apply Qu)) ?_
     refine Qb ?_
     refine zD hD ?_
     refine qd 46 rfl ?_
     refine QF (ek:=Value.int .i64) (ev:=Value.bool) _ QY Q3 rfl rfl rfl rfl (by repeat (first | exact Upd.here | apply Upd.there | apply Qu)) ?_
     refine Qb ?_
     refine zD hD ?_
     refine zt0 47 rfl (Qf rfl) hD ?_
     refine zt0 48 rfl (QC rfl) hD ?_
     refine Qn (by kernel_rfl) ?_
     refine Qx ?_
     refine Q9 _ _ ⟨_,_,rfl,rfl,rfl,?_,?_,?_,?_⟩ (.cons rfl (.cons rfl .nil)) (by repeat (first | exact .refl | exact QJ | refine QZ ?_ | refine .drop ?_ | refine QO ?_))
     all_goals rfl
    refine QF (ek:=Value.int .i64) (ev:=Value.bool) _ QY Q3 rfl rfl rfl rfl (by repeat (first | exact Upd.here | apply Upd.there | apply Qu)) ?_
    refine Qb ?_
    refine zD hD ?_
    refine qd 41 rfl ?_
    refine QF (ek:=Value.int .i64) (ev:=Value.bool) _ QY Q3 rfl rfl rfl rfl (by repeat (first | exact Upd.here | apply Upd.there | apply Qu)) ?_
    refine Qb ?_
    refine zD hD ?_
    refine zt0 47 rfl (Qf rfl) hD ?_
    refine zt0 48 rfl (QC rfl) hD ?_
    refine Qn (by kernel_rfl) ?_
    refine Qx ?_
    refine Q9 _ _ ⟨_,_,rfl,rfl,rfl,?_,?_,?_,?_⟩ (.cons rfl (.cons rfl .nil)) (by repeat (first | exact .refl | exact QJ | refine QZ ?_ | refine .drop ?_ | refine QO ?_))
    all_goals rfl
   ·
    refine QF (ek:=Value.int .i64) (ev:=Value.bool) _ QY Q3 rfl rfl rfl rfl (by repeat (first | exact Upd.here | apply Upd.there | apply Qu)) ?_
    refine Qb ?_
    refine zD hD ?_
    refine QW 5 46 rfl rfl (by kernel_rfl) ?_ ?_
    ·
     refine QF (ek:=Value.int .i64) (ev:=Value.bool) _ QY Q3 rfl rfl rfl rfl (by repeat (first | exact Upd.here | apply Upd.there | apply Qu)) ?_
     refine Qb ?_
     refine zD hD ?_
     refine qd 46 rfl ?_
     refine QF (ek:=Value.int .i64) (ev:=Value.bool) _ QY Q3 rfl rfl rfl rfl (by repeat (first | exact Upd.here | apply Upd.there | apply Qu)) ?_
     refine Qb ?_
     refine zD hD ?_
     refine zt0 47 rfl (Qf rfl) hD ?_
     refine zt0 48 rfl (QC rfl) hD ?_
     refine Qn (by kernel_rfl) ?_
     refine Qx ?_
     refine Q9 _ _ ⟨_,_,rfl,rfl,rfl,?_,?_,?_,?_⟩ (.cons rfl (.cons rfl .nil)) (by repeat (first | exact .refl | exact QJ | refine QZ ?_ | refine .drop ?_ | refine QO ?_))
     all_goals rfl
    refine QF (ek:=Value.int .i64) (ev:=Value.bool) _ QY Q3 rfl rfl rfl rfl (by repeat (first | exact Upd.here | apply Upd.there | apply Qu)) ?_
    refine Qb ?_
    refine zD hD ?_
    refine qd 5 rfl ?_
    refine QF (ek:=Value.int .i64) (ev:=Value.bool) _ QY Q3 rfl rfl rfl rfl (by repeat (first | exact Upd.here | apply Upd.there | apply Qu)) ?_
    refine Qb ?_
    refine zD hD ?_
    refine zt0 47 rfl (Qf rfl) hD ?_
    refine zt0 48 rfl (QC rfl) hD ?_
    refine Qn (by kernel_rfl) ?_
    refine Qx ?_
    refine Q9 _ _ ⟨_,_,rfl,rfl,rfl,?_,?_,?_,?_⟩ (.cons rfl (.cons rfl .nil)) (by repeat (first | exact .refl | exact QJ | refine QZ ?_ | refine .drop ?_ | refine QO ?_))
    all_goals rfl
   refine QF (ek:=Value.int .i64) (ev:=Value.bool) _ QY Q3 rfl rfl rfl rfl (by repeat (first | exact Upd.here | apply Upd.there | apply Qu)) ?_
   refine Qb ?_
   refine zD hD ?_
   refine QW 5 41 rfl rfl (by kernel_rfl) ?_ ?_
   ·
    refine QF (ek:=Value.int .i64) (ev:=Value.bool) _ QY Q3 rfl rfl rfl rfl (by repeat (first | exact Upd.here | apply Upd.there | apply Qu)) ?_
    refine Qb ?_
    refine zD hD ?_
    refine qd 41 rfl ?_
    refine QF (ek:=Value.int .i64) (ev:=Value.bool) _ QY Q3 rfl rfl rfl rfl (by repeat (first | exact Upd.here | apply Upd.there | apply Qu)) ?_
    refine Qb ?_
    refine zD hD ?_
    refine zt0 47 rfl (Qf rfl) hD ?_
    refine zt0 48 rfl (QC rfl) hD ?_
    refine Qn (by kernel_rfl) ?_
    refine Qx ?_
    refine Q9 _ _ ⟨_,_,rfl,rfl,rfl,?_,?_,?_,?_⟩ (.cons rfl (.cons rfl .nil)) (by repeat (first | exact .refl | exact QJ | refine QZ ?_ | refine .drop ?_ | refine QO ?_))
    all_goals rfl
   refine QF (ek:=Value.int .i64) (ev:=Value.bool) _ QY Q3 rfl rfl rfl rfl (by repeat (first | exact Upd.here | apply Upd.there | apply Qu)) ?_
   refine Qb ?_
   refine zD hD ?_
   refine qd 5 rfl ?_
   refine QF (ek:=Value.int .i64) (ev:=Value.bool) _ QY Q3 rfl rfl rfl rfl (by repeat (first | exact Upd.here | apply Upd.there | apply Qu)) ?_
   refine Qb ?_
   refine zD hD ?_
   refine zt0 47 rfl (Qf rfl) hD ?_
   refine zt0 48 rfl (QC rfl) hD ?_
   refine Qn (by kernel_rfl) ?_
   refine Qx ?_
   refine Q9 _ _ ⟨_,_,rfl,rfl,rfl,?_,?_,?_,?_⟩ (.cons rfl (.cons rfl .nil)) (by repeat (first | exact .refl | exact QJ | refine QZ ?_ | refine .drop ?_ | refine QO ?_))
   all_goals rfl
  ·
   refine QF (ek:=Value.int .i64) (ev:=Value.bool) _ QY Q3 rfl rfl rfl rfl (by repeat (first | exact Upd.here | apply Upd.there | apply Qu)) ?_
   refine Qb ?_
   refine zD hD ?_
   refine VD 5 36 46 rfl rfl rfl (by kernel_rfl) ?_ ?_ ?_
   ·
    refine QF (ek:=Value.int .i64) (ev:=Value.bool) _ QY Q3 rfl rfl rfl rfl (by repeat (first | exact Upd.here | apply Upd.there | apply Qu)) ?_
    refine Qb ?_
    refine zD hD ?_
    refine QW 36 46 rfl rfl (by kernel_rfl) ?_ ?_
    ·
     refine QF (ek:=Value.int .i64) (ev:=Value.bool) _ QY Q3 rfl rfl rfl rfl (by repeat (first | exact Upd.here | apply Upd.there | apply Qu)) ?_
     refine Qb ?_
     refine zD hD ?_
     refine qd 46 rfl ?_
     refine QF (ek:=Value.int .i64) (ev:=Value.bool) _ QY Q3 rfl rfl rfl rfl (by repeat (first | exact Upd.here | apply Upd.there | apply Qu)) ?_
     refine Qb ?_
     refine zD hD ?_
     refine zt0 47 rfl (Qf rfl) hD ?_
     refine zt0 48 rfl (QC rfl) hD ?_
     refine Qn (by kernel_rfl) ?_
     refine Qx ?_
     refine Q9 _ _ ⟨_,_,rfl,rfl,rfl,?_,?_,?_,?_⟩ (.cons rfl (.cons rfl .nil)) (by repeat (first | exact .refl | exact QJ | refine QZ ?_ | refine .drop ?_ | refine QO ?_))
     all_goals rfl
    refine QF (ek:=Value.int .i64) (ev:=Value.bool) _ QY Q3 rfl rfl rfl rfl (by repeat (first | exact Upd.here | apply Upd.there | apply Qu)) ?_
    refine Qb ?_
    refine zD hD ?_
    refine qd 36 rfl ?_
    refine QF (ek:=Value.int .i64) (ev:=Value.bool) _ QY Q3 rfl rfl rfl rfl (by repeat (first | exact Upd.here | apply Upd.there | apply Qu)) ?_
    refine Qb ?_
    refine zD hD ?_
    refine zt0 47 rfl (Qf rfl) hD ?_
    refine zt0 48 rfl (QC rfl) hD ?_
    refine Qn (by kernel_rfl) ?_
    refine Qx ?_
    refine Q9 _ _ ⟨_,_,rfl,rfl,rfl,?_,?_,?_,?_⟩ (.cons rfl (.cons rfl .nil)) (by repeat (first | exact .refl | exact QJ | refine QZ ?_ | refine .drop ?_ | refine QO ?_))
    all_goals rfl
   ·
    refine QF (ek:=Value.int .i64) (ev:=Value.bool) _ QY Q3 rfl rfl rfl rfl (by repeat (first | exact Upd.here | apply Upd.there | apply Qu)) ?_
    refine Qb ?_
    refine zD hD ?_
    refine QW 5 46 rfl rfl (by kernel_rfl) ?_ ?_
    ·
     refine QF (ek:=Value.int .i64) (ev:=Value.bool) _ QY Q3 rfl rfl rfl rfl (by repeat (first | exact Upd.here | apply Upd.there | apply Qu)) ?_
     refine Qb ?_
     refine zD hD ?_
     refine qd 46 rfl ?_
     refine QF (ek:=Value.int .i64) (ev:=Value.bool) _ QY Q3 rfl rfl rfl rfl (by repeat (first | exact Upd.here | apply Upd.there | apply Qu)) ?_
     refine Qb ?_
     refine zD hD ?_
     refine zt0 47 rfl (Qf rfl) hD ?_
     refine zt0 48 rfl (QC rfl) hD ?_
     refine Qn (by kernel_rfl) ?_
     refine Qx ?_
     refine Q9 _ _ ⟨_,_,rfl,rfl,rfl,?_,?_,?_,?_⟩ (.cons rfl (.cons rfl .nil)) (by repeat (first | exact .refl | exact QJ | refine QZ ?_ | refine .drop ?_ | refine QO ?_))
     all_goals rfl
    refine QF (ek:=Value.int .i64) (ev:=Value.bool) _ QY Q3 rfl rfl rfl rfl (by repeat (first | exact Upd.here | apply Upd.there | apply Qu)) ?_
    refine Qb ?_
    refine zD hD ?_
    refine qd 5 rfl ?_
    refine QF (ek:=Value.int .i64) (ev:=Value.bool) _ QY Q3 rfl rfl rfl rfl (by repeat (first | exact Upd.here | apply Upd.there | apply Qu)) ?_
    refine Qb ?_
    refine zD hD ?_
    refine zt0 47 rfl (Qf rfl) hD ?_
    refine zt0 48 rfl (QC rfl) hD ?_
    refine Qn (by kernel_rfl) ?_
    refine Qx ?_
    refine Q9 _ _ ⟨_,_,rfl,rfl,rfl,?_,?_,?_,?_⟩ (.cons rfl (.cons rfl .nil)) (by repeat (first | exact .refl | exact QJ | refine QZ ?_ | refine .drop ?_ | refine QO ?_))
    all_goals rfl
   refine QF (ek:=Value.int .i64) (ev:=Value.bool) _ QY Q3 rfl rfl rfl rfl (by repeat (first | exact Upd.here | apply Upd.there | apply Qu)) ?_
   refine Qb ?_
   refine zD hD ?_
   refine QW 5 36 rfl rfl (by kernel_rfl) ?_ ?_
   ·
    refine QF (ek:=Value.int .i64) (ev:=Value.bool) _ QY Q3 rfl rfl rfl rfl (by repeat (first | exact Upd.here | apply Upd.there | apply Qu)) ?_
    refine Qb ?_
    refine zD hD ?_
    refine qd 36 rfl ?_
    refine QF (ek:=Value.int .i64) (ev:=Value.bool) _ QY Q3 rfl rfl rfl rfl (by repeat (first | exact Upd.here | apply Upd.there | apply Qu)) ?_
    refine Qb ?_
    refine zD hD ?_
    refine zt0 47 rfl (Qf rfl) hD ?_
    refine zt0 48 rfl (QC rfl) hD ?_
    refine Qn (by kernel_rfl) ?_
    refine Qx ?_
    refine Q9 _ _ ⟨_,_,rfl,rfl,rfl,?_,?_,?_,?_⟩ (.cons rfl (.cons rfl .nil)) (by repeat (first | exact .refl | exact QJ | refine QZ ?_ | refine .drop ?_ | refine QO ?_))
    all_goals rfl
   refine QF (ek:=Value.int .i64) (ev:=Value.bool) _ QY Q3 rfl rfl rfl rfl (by repeat (first | exact Upd.here | apply Upd.there | apply Qu)) ?_
   refine Qb ?_
   refine zD hD ?_
   refine qd 5 rfl ?_
   refine QF (ek:=Value.int .i64) (ev:=Value.bool) _ QY Q3 rfl rfl rfl rfl (by repeat (first | exact Upd.here | apply Upd.there | apply Qu)) ?_
   refine Qb ?_
   refine zD hD ?_
   refine zt0 47 rfl (Qf rfl) hD ?_
   refine zt0 48 rfl (QC rfl) hD ?_
   refine Qn (by kernel_rfl) ?_
   refine Qx ?_
   refine Q9 _ _ ⟨_,_,rfl,rfl,rfl,?_,?_,?_,?_⟩ (.cons rfl (.cons rfl .nil)) (by repeat (first | exact .refl | exact QJ | refine QZ ?_ | refine .drop ?_ | refine QO ?_))
   all_goals rfl
  refine QF (ek:=Value.int .i64) (ev:=Value.bool) _ QY Q3 rfl rfl rfl rfl (by repeat (first | exact Upd.here | apply Upd.there | apply Qu)) ?_
  refine Qb ?_
  refine zD hD ?_
  refine VD 5 36 41 rfl rfl rfl (by kernel_rfl) ?_ ?_ ?_
  ·
   refine QF (ek:=Value.int .i64) (ev:=Value.bool) _ QY Q3 rfl rfl rfl rfl (by repeat (first | exact Upd.here | apply Upd.there | apply Qu)) ?_
   refine Qb ?_
   refine zD hD ?_
   refine QW 36 41 rfl rfl (by kernel_rfl) ?_ ?_
   ·
    refine QF (ek:=Value.int .i64) (ev:=Value.bool) _ QY Q3 rfl rfl rfl rfl (by repeat (first | exact Upd.here | apply Upd.there | apply Qu)) ?_
    refine Qb ?_
    refine zD hD ?_
    refine qd 41 rfl ?_
    refine QF (ek:=Value.int .i64) (ev:=Value.bool) _ QY Q3 rfl rfl rfl rfl (by repeat (first | exact Upd.here | apply Upd.there | apply Qu)) ?_
    refine Qb ?_
    refine zD hD ?_
    refine zt0 47 rfl (Qf rfl) hD ?_
    refine zt0 48 rfl (QC rfl) hD ?_
    refine Qn (by kernel_rfl) ?_
    refine Qx ?_
    refine Q9 _ _ ⟨_,_,rfl,rfl,rfl,?_,?_,?_,?_⟩ (.cons rfl (.cons rfl .nil)) (by repeat (first | exact .refl | exact QJ | refine QZ ?_ | refine .drop ?_ | refine QO ?_))
    all_goals rfl
   refine QF (ek:=Value.int .i64) (ev:=Value.bool) _ QY Q3 rfl rfl rfl rfl (by repeat (first | exact Upd.here | apply Upd.there | apply Qu)) ?_
   refine Qb ?_
   refine zD hD ?_
   refine qd 36 rfl ?_
   refine QF (ek:=Value.int .i64) (ev:=Value.bool) _ QY Q3 rfl rfl rfl rfl (by repeat (first | exact Upd.here | apply Upd.there | apply Qu)) ?_
   refine Qb ?_
   refine zD hD ?_
   refine zt0 47 rfl (Qf rfl) hD ?_
   refine zt0 48 rfl (QC rfl) hD ?_
   refine Qn (by kernel_rfl) ?_
   refine Qx ?_
   refine Q9 _ _ ⟨_,_,rfl,rfl,rfl,?_,?_,?_,?_⟩ (.cons rfl (.cons rfl .nil)) (by repeat (first | exact .refl | exact QJ | refine QZ ?_ | refine .drop ?_ | refine QO ?_))
   all_goals rfl
  ·
   refine QF (ek:=Value.int .i64) (ev:=Value.bool) _ QY Q3 rfl rfl rfl rfl (by repeat (first | exact Upd.here | apply Upd.there | apply Qu)) ?_
   refine Qb ?_
   refine zD hD ?_
   refine QW 5 41 rfl rfl (by kernel_rfl) ?_ ?_
   ·
    refine QF (ek:=Value.int .i64) (ev:=Value.bool) _ QY Q3 rfl rfl rfl rfl (by repeat (first | exact Upd.here | apply Upd.there | apply Qu)) ?_
    refine Qb ?_
    refine zD hD ?_
    refine qd 41 rfl ?_
    refine QF (ek:=Value.int .i64) (ev:=Value.bool) _ QY Q3 rfl rfl rfl rfl (by repeat (first | exact Upd.here | apply Upd.there | apply Qu)) ?_
    refine Qb ?_
    refine zD hD ?_
    refine zt0 47 rfl (Qf rfl) hD ?_
    refine zt0 48 rfl (QC rfl) hD ?_
    refine Qn (by kernel_rfl) ?_
    refine Qx ?_
    refine Q9 _ _ ⟨_,_,rfl,rfl,rfl,?_,?_,?_,?_⟩ (.cons rfl (.cons rfl .nil)) (by repeat (first | exact .refl | exact QJ | refine QZ ?_ | refine .drop ?_ | refine QO ?_))
    all_goals rfl
   refine QF (ek:=Value.int .i64) (ev:=Value.bool) _ QY Q3 rfl rfl rfl rfl (by repeat (first | exact Upd.here | apply Upd.there | apply Qu)) ?_
   refine Qb ?_
   refine zD hD ?_
   refine qd 5 rfl ?_
   refine QF (ek:=Value.int .i64) (ev:=Value.bool) _ QY Q3 rfl rfl rfl rfl (by repeat (first | exact Upd.here | apply Upd.there | apply Qu)) ?_
   refine Qb ?_
   refine zD hD ?_
   refine zt0 47 rfl (Qf rfl) hD ?_
   refine zt0 48 rfl (QC rfl) hD ?_
   refine Qn (by kernel_rfl) ?_
   refine Qx ?_
   refine Q9 _ _ ⟨_,_,rfl,rfl,rfl,?_,?_,?_,?_⟩ (.cons rfl (.cons rfl .nil)) (by repeat (first | exact .refl | exact QJ | refine QZ ?_ | refine .drop ?_ | refine QO ?_))
   all_goals rfl
  refine QF (ek:=Value.int .i64) (ev:=Value.bool) _ QY Q3 rfl rfl rfl rfl (by repeat (first | exact Upd.here | apply Upd.there | apply Qu)) ?_
  refine Qb ?_
  refine zD hD ?_
  refine QW 5 36 rfl rfl (by kernel_rfl) ?_ ?_
  ·
   refine QF (ek:=Value.int .i64) (ev:=Value.bool) _ QY Q3 rfl rfl rfl rfl (by repeat (first | exact Upd.here | apply Upd.there | apply Qu)) ?_
   refine Qb ?_
   refine zD hD ?_
   refine qd 36 rfl ?_
   refine QF (ek:=Value.int .i64) (ev:=Value.bool) _ QY Q3 rfl rfl rfl rfl (by repeat (first | exact Upd.here | apply Upd.there | apply Qu)) ?_
   refine Qb ?_
   refine zD hD ?_
   refine zt0 47 rfl (Qf rfl) hD ?_
   refine zt0 48 rfl (QC rfl) hD ?_
   refine Qn (by kernel_rfl) ?_
   refine Qx ?_
   refine Q9 _ _ ⟨_,_,rfl,rfl,rfl,?_,?_,?_,?_⟩ (.cons rfl (.cons rfl .nil)) (by repeat (first | exact .refl | exact QJ | refine QZ ?_ | refine .drop ?_ | refine QO ?_))
   all_goals rfl
  refine QF (ek:=Value.int .i64) (ev:=Value.bool) _ QY Q3 rfl rfl rfl rfl (by repeat (first | exact Upd.here | apply Upd.there | apply Qu)) ?_
  refine Qb ?_
  refine zD hD ?_
  refine qd 5 rfl ?_
  refine QF (ek:=Value.int .i64) (ev:=Value.bool) _ QY Q3 rfl rfl rfl rfl (by repeat (first | exact Upd.here | apply Upd.there | apply Qu)) ?_
  refine Qb ?_
  refine zD hD ?_
  refine zt0 47 rfl (Qf rfl) hD ?_
  refine zt0 48 rfl (QC rfl) hD ?_
  refine Qn (by kernel_rfl) ?_
  refine Qx ?_
  refine Q9 _ _ ⟨_,_,rfl,rfl,rfl,?_,?_,?_,?_⟩ (.cons rfl (.cons rfl .nil)) (by repeat (first | exact .refl | exact QJ | refine QZ ?_ | refine .drop ?_ | refine QO ?_))
  all_goals rfl
 rintro E I' loc' ⟨r,m,rfl,rfl,rfl,hm1,hm2,hm3,hm4⟩
 refine zR (zM ?_)
 refine zF Y3 ?_
 refine zV (Qc rfl Ql (fun hg=>by exact QA.imm h1.out rfl)) ?_
 refine Z6 _ QY Q3 rfl rfl rfl rfl (by repeat (first | exact Upd.here | apply Upd.there | apply Qu)) ?_
 refine zN (zR ?_)
 refine zM ?_
 refine zV (YI QY Q3 rfl rfl (fun _=>(by exact Mem.m0))) ?_
 refine zM ?_
 refine Qp 2 rfl rfl rfl ?_
 refine zK (Qf rfl) ?_
 refine zK (YI QY Q3 rfl rfl (fun _=>(by exact Mem.m0))) ?_
 refine Qy rfl rfl rfl rfl rfl ?_
 refine zM ?_
 refine Qp 6 rfl rfl rfl ?_
 refine zK (Qf rfl) ?_
 refine zK (YI QY Q3 rfl rfl (fun _=>(by exact Mem.m0))) ?_
 refine Qy rfl rfl rfl rfl rfl ?_
 refine zM ?_
 refine Qp 10 rfl rfl rfl ?_
 refine zK (Qf rfl) ?_
 refine zK (YI QY Q3 rfl rfl (fun _=>(by exact Mem.m0))) ?_
 refine Qy rfl rfl rfl rfl rfl ?_
 refine zA (zN (Qs ?_))
 exact zp hIc rfl rfl (by rw [zoS hm1 hm2 hm3 hm4])
end
end Go.Proofs.YtjblkbkmblkgoaaGreat
namespace Go.Proofs.YtjblkbkmblkgoaaGreat.L
section
open Go Go.Kn Go.Proofs
theorem JR:AgT Tryz.prog 41 5:=.of (by kernel_rfl)
theorem ziK:QL Tryz.prog 141 0 0:=.of (by kernel_rfl)
theorem zkc:QL Tryz.prog 141 1 1:=.of (by kernel_rfl)
theorem ziG:QL Tryz.prog 141 2 2:=.of (by kernel_rfl)
theorem zj6:QL Tryz.prog 141 3 3:=.of (by kernel_rfl)
theorem zi6:QL Tryz.prog 141 4 4:=.of (by kernel_rfl)
theorem JT:QL Tryz.prog 41 0 0:=.of (by kernel_rfl)
theorem zaA:QL Tryz.prog 41 1 1:=.of (by kernel_rfl)
theorem zay:QL Tryz.prog 41 2 2:=.of (by kernel_rfl)
theorem zav:QL Tryz.prog 41 3 3:=.of (by kernel_rfl)
theorem zaJ:QL Tryz.prog 41 4 4:=.of (by kernel_rfl)
theorem zbb:Fun Tryz.prog 135:=.of Tryz.func135 (by kernel_rfl) (by kernel_rfl)
theorem zsW:Fun Tryz.prog 144:=.of Tryz.func144 (by kernel_rfl) (by kernel_rfl)
theorem zbO:Fun Tryz.prog 160:=.of Tryz.func160 (by kernel_rfl) (by kernel_rfl)
theorem zbh:Fun Tryz.prog 190:=.of Tryz.func190 (by kernel_rfl) (by kernel_rfl)
theorem zbe:Fun Tryz.prog 229:=.of Tryz.func229 (by kernel_rfl) (by kernel_rfl)
theorem zu1:Fun Tryz.prog 95:=.of Tryz.func95 (by kernel_rfl) (by kernel_rfl)
theorem Q3:Kf (α:=Int) Tryz.prog 3 (.int .i64):=zfD (by kernel_rfl)
theorem mixed:Tryz.prog.follows .mixedOrders=true:=by kernel_rfl
theorem Ql:ScT Tryz.prog 3:=.of (by kernel_rfl)
theorem Kz:SlT Tryz.prog 63 41 5:=.of (by kernel_rfl)
theorem zbI:SzT Tryz.prog 41 5:=.of (by kernel_rfl)
theorem zo4:Tryz.prog.underlying 3=some (.int .i64):=by kernel_rfl
theorem zfU:Y7 Tryz.prog 41 (.agg #[(.int .i64 0),(.int .i64 0),(.int .i64 0),(.int .i64 0),(.int .i64 0)]):=.of (by kernel_rfl)
end
section
open Go Go.Kn Go.Proofs
theorem Z0 (I:Qt)(n lo hi:Int):ZA Tryz.prog 160 [.int .i64 n,.int .i64 lo,.int .i64 hi] I (.bool (within n lo hi)):=by
 intro g H w hw
 refine qe Tryz.func160 Tryz.ntmps160 hw ?_
 refine zR (zA ?_)
 refine zN (zR ?_)
 refine zM ?_
 refine zM ?_
 refine zC ?_
 refine zM ?_
 refine Qp 3 rfl rfl rfl ?_
 refine zK (Qf rfl) ?_
 refine zK (Qf rfl) ?_
 refine zK (QD rfl rfl rfl) ?_
 refine Qy rfl rfl rfl rfl rfl ?_
 refine zA (zN (Qs ?_))
 exact zr rfl rfl (by rfl)
theorem Yg (I:Qt)(n lo hi:Int):ZA Tryz.prog 190 [.int .i64 n,.int .i64 lo,.int .i64 hi] I (.bool (within n lo hi)):=by
 intro g H w hw
 refine qe Tryz.func190 Tryz.ntmps190 hw ?_
 refine zR (zA ?_)
 refine zN (zR ?_)
 refine zM ?_
 refine zM ?_
 refine zC ?_
 refine zM ?_
 refine Qp 3 rfl rfl rfl ?_
 refine zK (Qf rfl) ?_
 refine zK (Qf rfl) ?_
 refine zK (QD rfl rfl rfl) ?_
 refine Qy rfl rfl rfl rfl rfl ?_
 refine zA (zN (Qs ?_))
 exact zr rfl rfl (by rfl)
theorem zfH (I:Qt)(x:Ls):ZA Tryz.prog 95 [encA x] I (.bool (XS x)):=by
 intro g H w hw
 refine qe Tryz.func95 Tryz.ntmps95 hw ?_
 refine zR ?_
 refine QR rfl rfl rfl (fun b_1=>?_)
 refine zA ?_
 refine zN (zR ?_)
 refine zF ziK ?_
 refine zL Ql ?_
 refine qcV (vs:=[_,_,_]) rfl zbO (Z0 I _ _ _) ?_
 refine zM ?_
 refine Qp 3 rfl rfl rfl ?_
 refine zK (Qa rfl zkc) ?_
 refine zK (Qc rfl Ql (fun hg=>by exact QA.h0 rfl)) ?_
 refine qg (vs:=[_,_,_]) rfl zbO (fun hg=>Z0 I _ _ _) ?_
 refine Qy rfl rfl rfl rfl rfl ?_
 refine zM ?_
 refine Qp 8 rfl rfl rfl ?_
 refine zK (Qa rfl ziG) ?_
 refine zK (Qc rfl Ql (fun hg=>by exact QA.h0 rfl)) ?_
 refine qg (vs:=[_,_,_]) rfl zbO (fun hg=>Z0 I _ _ _) ?_
 refine Qy rfl rfl rfl rfl rfl ?_
 refine zM ?_
 refine Qp 13 rfl rfl rfl ?_
 refine zK (Qa rfl zj6) ?_
 refine zK (Qc rfl Ql (fun hg=>by exact QA.h0 rfl)) ?_
 refine qg (vs:=[_,_,_]) rfl zbO (fun hg=>Z0 I _ _ _) ?_
 refine Qy rfl rfl rfl rfl rfl ?_
 refine zM ?_
 refine Qp 18 rfl rfl rfl ?_
 refine zK (Qa rfl zi6) ?_
 refine zK (Qc rfl Ql (fun hg=>by exact QA.h0 rfl)) ?_
 refine qg (vs:=[_,_,_]) rfl zbO (fun hg=>Z0 I _ _ _) ?_
 refine Qy rfl rfl rfl rfl rfl ?_
 refine zA (zN (Qs ?_))
 exact zr rfl rfl (by rfl)
theorem zdC (I:Qt)(x:Ls):ZA Tryz.prog 144 [encA x] I (.bool (XS x)):=by
 intro g H w hw
 refine qe Tryz.func144 Tryz.ntmps144 hw ?_
 refine zR ?_
 refine QR rfl rfl rfl (fun b_1=>?_)
 refine zA ?_
 refine zN (zR ?_)
 refine zF JT ?_
 refine zL Ql ?_
 refine qcV (vs:=[_,_,_]) rfl zbh (Yg I _ _ _) ?_
 refine zM ?_
 refine Qp 3 rfl rfl rfl ?_
 refine zK (Qa rfl zaA) ?_
 refine zK (Qc rfl Ql (fun hg=>by exact QA.h0 rfl)) ?_
 refine qg (vs:=[_,_,_]) rfl zbh (fun hg=>Yg I _ _ _) ?_
 refine Qy rfl rfl rfl rfl rfl ?_
 refine zM ?_
 refine Qp 8 rfl rfl rfl ?_
 refine zK (Qa rfl zay) ?_
 refine zK (Qc rfl Ql (fun hg=>by exact QA.h0 rfl)) ?_
 refine qg (vs:=[_,_,_]) rfl zbh (fun hg=>Yg I _ _ _) ?_
 refine Qy rfl rfl rfl rfl rfl ?_
 refine zM ?_
 refine Qp 13 rfl rfl rfl ?_
 refine zK (Qa rfl zav) ?_
 refine zK (Qc rfl Ql (fun hg=>by exact QA.h0 rfl)) ?_
 refine qg (vs:=[_,_,_]) rfl zbh (fun hg=>Yg I _ _ _) ?_
 refine Qy rfl rfl rfl rfl rfl ?_
 refine zM ?_
 refine Qp 18 rfl rfl rfl ?_
 refine zK (Qa rfl zaJ) ?_
 refine zK (Qc rfl Ql (fun hg=>by exact QA.h0 rfl)) ?_
 refine qg (vs:=[_,_,_]) rfl zbh (fun hg=>Yg I _ _ _) ?_
 refine Qy rfl rfl rfl rfl rfl ?_
 refine zA (zN (Qs ?_))
 exact zr rfl rfl (by rfl)
theorem zk8 (I:Qt)(x:Int):ZA Tryz.prog 229 [.int .i64 x] I (.bool false):=by
 intro g H w hw
 refine qe Tryz.func229 Tryz.ntmps229 hw ?_
 refine zR (zA ?_)
 refine zN (zR ?_)
 refine zM ?_
 refine zM ?_
 refine zC ?_
 refine zA (zN (Qs ?_))
 exact zr rfl rfl (by simp)
def zff (x y:Int):Int:=if x<y then -1 else if x>y then 1 else 0
theorem zsr (I:Qt)(x y:Int):ZA Tryz.prog 183 [.int .i64 x,.int .i64 y] I (.int .i64 (zff x y)):=by
 intro g H w hw
 refine qe Tryz.func183 Tryz.ntmps183 hw ?_
 refine zR (zA ?_)
 refine zN (zR ?_)
 refine zM ?_
 refine qcV (vs:=[_]) rfl zbe (zk8 I _) ?_
 refine zA ?_
 refine zN (zR ?_)
 refine zM ?_
 refine qcV (vs:=[_]) rfl zbe (zk8 I _) ?_
 refine zA (zN (Qm (zR ?_)))
 refine zM (zN ?_)
 refine zI ?_ ?_<;>intro hc11
 ·
  cases hc11
 refine Qr (Qd (Qm (zR (zM (zN ?_)))))
 refine zI ?_ ?_<;>intro hc13
 ·
  cases hc13
 refine Qr (Qd (Qm (zR (zM ?_))))
 refine zM ?_
 refine zC (zN ?_)
 refine zI ?_ ?_<;>intro hc16
 ·
  refine zR (zA (zN (Qs (Qe ?_))))
  exact zr rfl rfl (by unfold zff;first | (rw [if_pos (by simpa using hc16)]) | (rw [if_neg (by simpa using hc16),if_pos (by simpa using hc19)]) | (rw [if_neg (by simpa using hc16),if_neg (by simpa using hc19)]))
 refine Qr (Qd (Qm (zR (zM ?_))))
 refine zM ?_
 refine zC (zN ?_)
 refine zI ?_ ?_<;>intro hc19
 ·
  refine zR (zA (zN (Qs (Qe ?_))))
  exact zr rfl rfl (by unfold zff;first | (rw [if_pos (by simpa using hc16)]) | (rw [if_neg (by simpa using hc16),if_pos (by simpa using hc19)]) | (rw [if_neg (by simpa using hc16),if_neg (by simpa using hc19)]))
 refine Qr (Qd (zR (zA (zN (Qs ?_)))))
 exact zr rfl rfl (by unfold zff;first | (rw [if_pos (by simpa using hc16)]) | (rw [if_neg (by simpa using hc16),if_pos (by simpa using hc19)]) | (rw [if_neg (by simpa using hc16),if_neg (by simpa using hc19)]))
theorem w_rcheck {I:Qt}{av:Option Addr}{n c:Nat}{xs:List Ls}(hS:Sl I 5 encL av n c xs)(hn:n≤100000):ZA Tryz.prog 76 [.slice av n c] I (.int .i64 (chk xs)):=by
 intro g H w hw
 refine qe Tryz.func76 Tryz.ntmps76 hw ?_
 refine zR (zA (zN (Qm (zR ?_))))
 refine zM ?_
 refine zQ Kz ?_
 refine zC (zN ?_)
 refine zI ?_ ?_<;>intro hc6
 ·
  have h6:xs.length>4096:=by rw [hS.len];simp at hc6;omega
  refine zR (zA (zN (Qs (Qe ?_))))
  first
  | exact zr rfl rfl (by unfold chk;rw [if_pos h6])
 have h6:¬xs.length>4096:=by rw [hS.len];simp at hc6;omega
 refine Qr (Qd (Qm (zR (zA (zN (Qw ?_))))))
 refine zU [(0,_)] (fun T L0 mz E I' loc'=>∃ (k:Nat),mz=n-k∧E=(3,.int .i64 k)::T∧I=I'∧L0=loc'∧k≤n∧(List.range k).all (ckP xs)=true) ?_ (h:=⟨0,rfl,rfl,rfl,rfl,Nat.zero_le _,rfl⟩)
 rintro mz E I' loc' ⟨k,rfl,rfl,rfl,rfl,hk,hall⟩
 refine Qm (zR (zM ?_))
 refine zM ?_
 refine zQ Kz ?_
 refine zC (zN ?_)
 refine zI ?_ ?_<;>intro hc10
 ·
  have hlt_k:k<n:=by have h:=hc10;simp at h;omega
  obtain ⟨x,hx⟩:=hS.at hlt_k
  refine Qr (Qd (Qm (Qw (Qm ?_))))
  refine Xi mixed (by kernel_rfl) ?_
  refine zq (Qf rfl) ?_
  refine zq (Qf rfl) ?_
  refine zq (QG rfl rfl Kz (by assumption) (fun hg=>by omega)) ?_
  refine zq (Qg rfl JR (fun hg=>by exact zzn hS hx) rfl) ?_
  refine UD (cap:=[]) (vs:=[_]) rfl rfl zsW (zdC I _) rfl rfl ?_
  refine zq (Zs rfl) ?_
  refine zq (Qf rfl) ?_
  refine VZ 6 rfl rfl rfl ?_
  refine zj (Qf rfl) ?_
  refine zj (QD rfl rfl rfl) ?_
  refine zj (Qf rfl) ?_
  refine VB 9 rfl rfl rfl ?_
  refine zk (Qf rfl) ?_
  refine zk (Qf rfl) ?_
  refine zk (QG rfl rfl Kz (by assumption) (fun hg=>by omega)) ?_
  refine zk (Qa rfl JT) ?_
  refine zk (Qc rfl Ql (fun hg=>by exact zzo hS hx rfl)) ?_
  refine zk (Qf rfl) ?_
  refine zk (Qf rfl) ?_
  refine zk (Yz rfl rfl rfl (fun _=>by omega)) ?_
  refine zk (QG rfl rfl Kz (by assumption) (fun hg=>by (simp [Yf] at hg;omega))) ?_
  refine zk (Qa rfl JT) ?_
  refine zk (Qc rfl Ql (fun hg=>by exact zzo (k:=((k:Int)-1).toNat) hS (KQ (d:=zeroL) hS.len (by omega)) rfl)) ?_
  refine zk (QD rfl rfl rfl) ?_
  refine zbG rfl rfl rfl (.some rfl rfl rfl rfl gbf) rfl rfl ?_
  refine UN rfl rfl rfl rfl rfl ?_
  refine WP ?_
  refine Qd ?_
  refine zI ?_ ?_<;>intro hc36
  ·
   refine zR (zA (zN (Qs (Qj (Qe (Qe (Qj ?_)))))))
   refine Qe ?_
   first
   | exact zr rfl rfl (by unfold chk ckB;rw [if_neg h6,JI (k:=k) (by rw [hS.len];exact hlt_k) (by have:=Vk (d:=zeroL) hx;unfold ckP zm3;rw [this,hc36];rfl)];rfl)
  refine Qr (Qk (Qd (Qi (zM ?_))))
  refine zB ?_
  refine zA (Qb ?_)
  exact zm (h:=⟨n-(k+1),by omega,k+1,rfl,rfl,rfl,rfl,by omega,VJ hall (by have:=Vk (d:=zeroL) hx;unfold ckP zm3;rw [this,hc36];rfl)⟩)
 have hge_k:n≤k:=by have h:=hc10;simp at h;omega
 refine Zi (Qo (Qo (Qz (Qd (zR (zA (zN ?_)))))))
 refine Qs ?_
 first
 | exact zr rfl rfl (by unfold chk ckB;rw [if_neg h6,hS.len,show n=k by omega,hall];rfl)
theorem znW {xs:List Ls}{x:Ls}(hx:xs[0]? =some x):ckP xs 0= !(!XS x||decide (x.no≤ -1)):=by
 unfold ckP
 rw [Vk hx]
 rw [show decide (((0:Nat):Int)>0)=false from rfl,Bool.false_and,Bool.or_false]
 cases h:XS x with
 | false=>rfl
 | true=>
  have:0≤x.no:=by
   unfold XS within at h
   simp only [Bool.and_eq_true,decide_eq_true_eq] at h
   omega
  rw [show decide (x.no≤ -1)=false from decide_eq_false (by omega)];rfl
theorem ztE {xs:List Ls}{k:Nat}{x y:Ls}(hx:xs[k+1]? =some x)(hy:xs[k]? =some y):ckP xs (k+1)= !(!XS x||decide (x.no≤y.no)):=by
 unfold ckP zm3
 rw [Vk hx,show (((k+1:Nat):Int)-1).toNat=k by omega,Vk hy,show decide (((k+1:Nat):Int)>0)=true from decide_eq_true (by omega),Bool.true_and]
def zsF (xs:List Ls)(k:Nat)(l:Int):Prop:=(k=0→l= -1)∧∀ y,xs[k-1]? =some y→k≠0→l=y.no
theorem zwr {xs:List Ls}{k:Nat}{x:Ls}{l:Int}(hx:xs[k]? =some x)(hl:zsF xs k l):ckP xs k= !(!XS x||decide (x.no≤l)):=by
 cases k with
 | zero=>rw [hl.1 rfl];exact znW hx
 | succ k=>
  have hk:=(List.getElem?_eq_some_iff.1 hx).1
  have hy:xs[k]? =some (xs[k]'(by omega)):=List.getElem?_eq_getElem _
  rw [hl.2 _ (by rw [Nat.add_sub_cancel];exact hy) (by omega)];exact ztE hx hy
theorem zmD {xs:List Ls}{k:Nat}{x:Ls}(hx:xs[k]? =some x):zsF xs (k+1) x.no:=⟨fun h=>by omega,fun y hy _=>by simp at hy;rw [hx] at hy;cases hy;rfl⟩
theorem w_check {I:Qt}{av:Option Addr}{n c:Nat}{xs:List Ls}(hS:Sl I 5 encL av n c xs)(hn:n≤100000):ZA Tryz.prog 38 [.slice av n c] I (.int .i64 (chk xs)):=by
 intro g H w hw
 refine qe Tryz.func38 Tryz.ntmps38 hw ?_
 refine zR (zA (zN (Qm (zR ?_))))
 refine zM ?_
 refine zQ Kz ?_
 refine zC (zN ?_)
 refine zI ?_ ?_<;>intro hc8
 ·
  have h6:xs.length>4096:=by rw [hS.len];simp at hc8;omega
  refine zR (zA (zN (Qs (Qe ?_))))
  first
  | exact zr rfl rfl (by unfold chk;rw [if_pos h6])
 have h6:¬xs.length>4096:=by rw [hS.len];simp at hc8;omega
 refine Qr (Qd (zR (zA (zN (Qm (zR ?_))))))
 refine zM ?_
 refine zQ Kz ?_
 refine zM (zN (Qw ?_))
 refine zU [(9,_),(10,_)] (fun T L0 mz E I' loc'=>∃ (k:Nat) (l:Int),mz=n-k∧E=(3,.int .i64 l)::(11,.int .i64 k)::T∧I=I'∧L0=loc'∧k≤n∧(List.range k).all (ckP xs)=true∧zsF xs k l) ?_ (h:=⟨0, -1,rfl,rfl,rfl,rfl,Nat.zero_le _,rfl,⟨fun _=>rfl,fun _ _ h=>absurd rfl h⟩⟩)
 rintro mz E I' loc' ⟨k,l,rfl,rfl,rfl,rfl,hk,hall,hl⟩
 refine zR (zC (zN (Qm ?_)))
 refine zI ?_ ?_<;>intro hc12
 ·
  have hlt_k:k<n:=by have h:=hc12;simp at h;omega
  obtain ⟨x,hx⟩:=hS.at hlt_k
  refine Qr (Qd (Qm (Qw (zR ?_))))
  refine zV (QG rfl rfl Kz (by assumption) (fun hg=>by omega)) ?_
  refine zV (Qg rfl JR (fun hg=>by exact zzn hS hx) rfl) ?_
  refine Qq zfU rfl rfl (fun b_5=>?_)
  refine zh zbI ?_
  refine zN (Qm (zR ?_))
  refine zV (Qg rfl JR (fun hg=>by exact Cells.g0) rfl) ?_
  refine qcV (vs:=[_]) rfl zu1 (zfH I _) ?_
  refine zO ?_
  refine zM ?_
  refine QM 3 rfl rfl rfl ?_
  refine zJ (Qa rfl JT) ?_
  refine zJ (Qc rfl Ql (fun hg=>by exact QA.h0 rfl)) ?_
  refine zJ (Qf rfl) ?_
  refine zJ (QD rfl rfl rfl) ?_
  refine Zb rfl rfl rfl rfl rfl ?_
  refine zN ?_
  refine zI ?_ ?_<;>intro hc23
  ·
   refine zR (zA (zN (Qs (Qe (Qj (Qe (Qe ?_)))))))
   refine Qj (Qe ?_)
   first
   | exact zr rfl rfl (by unfold chk ckB;rw [if_neg h6,JI (k:=k) (by rw [hS.len];exact hlt_k) (by rw [zwr hx hl,hc23];rfl)];rfl)
  refine Qr (Qd (Qi ?_))
  refine zF JT ?_
  refine zL Ql ?_
  refine zA (Qb (Qk (Qd (Qi ?_))))
  refine zB ?_
  refine zM (Qb ?_)
  exact zm (h:=⟨n-(k+1),by omega,k+1,x.no,rfl,rfl,rfl,rfl,by omega,VJ hall (by rw [zwr hx hl,hc23];rfl),zmD hx⟩)
 have hge_k:n≤k:=by have h:=hc12;simp at h;omega
 refine Zi (Qo (Qo (Qz (Qd (zR (zA (zN ?_)))))))
 refine Qs ?_
 first
 | exact zr rfl rfl (by unfold chk ckB;rw [if_neg h6,hS.len,show n=k by omega,hall];rfl)
end
end Go.Proofs.YtjblkbkmblkgoaaGreat.L
namespace Go.Proofs.YtjblkbkmblkgoaaGreat.S
section
open Go Go.Kn Go.Proofs
theorem YC:AgT Tryz.prog 43 11:=.of (by kernel_rfl)
theorem XZ:EqT Tryz.prog 43 [.int,.int,.int,.int,.int,.int,.str,.str,.int,.int,.int]:=⟨by kernel_rfl,by kernel_rfl,by kernel_rfl,by kernel_rfl⟩
theorem YP:QL Tryz.prog 43 0 0:=.of (by kernel_rfl)
theorem VC:QL Tryz.prog 43 1 1:=.of (by kernel_rfl)
theorem Ys:QL Tryz.prog 43 10 10:=.of (by kernel_rfl)
theorem Jw:QL Tryz.prog 43 2 2:=.of (by kernel_rfl)
theorem JS:QL Tryz.prog 43 3 3:=.of (by kernel_rfl)
theorem JU:QL Tryz.prog 43 4 4:=.of (by kernel_rfl)
theorem YZ:QL Tryz.prog 43 5 5:=.of (by kernel_rfl)
theorem Jl:QL Tryz.prog 43 6 6:=.of (by kernel_rfl)
theorem Jo:QL Tryz.prog 43 7 7:=.of (by kernel_rfl)
theorem JV:QL Tryz.prog 43 8 8:=.of (by kernel_rfl)
theorem Jn:QL Tryz.prog 43 9 9:=.of (by kernel_rfl)
theorem zqH:Fun Tryz.prog 100:=.of Tryz.func100 (by kernel_rfl) (by kernel_rfl)
theorem XJ:Fun Tryz.prog 101:=.of Tryz.func101 (by kernel_rfl) (by kernel_rfl)
theorem zr8:Fun Tryz.prog 149:=.of Tryz.func149 (by kernel_rfl) (by kernel_rfl)
theorem zsZ:Fun Tryz.prog 164:=.of Tryz.func164 (by kernel_rfl) (by kernel_rfl)
theorem zjn:Fun Tryz.prog 165:=.of Tryz.func165 (by kernel_rfl) (by kernel_rfl)
theorem zlV:Fun Tryz.prog 166:=.of Tryz.func166 (by kernel_rfl) (by kernel_rfl)
theorem zqL:Fun Tryz.prog 167:=.of Tryz.func167 (by kernel_rfl) (by kernel_rfl)
theorem Ko:Fun Tryz.prog 193:=.of Tryz.func193 (by kernel_rfl) (by kernel_rfl)
theorem zfZ:Fun Tryz.prog 194:=.of Tryz.func194 (by kernel_rfl) (by kernel_rfl)
theorem zkn:Fun Tryz.prog 195:=.of Tryz.func195 (by kernel_rfl) (by kernel_rfl)
theorem zsd:Fun Tryz.prog 196:=.of Tryz.func196 (by kernel_rfl) (by kernel_rfl)
theorem Q3:Kf (α:=Int) Tryz.prog 3 (.int .i64):=zfD (by kernel_rfl)
theorem mixed:Tryz.prog.follows .mixedOrders=true:=by kernel_rfl
theorem UA:MpT Tryz.prog 151 3 43 (.agg #[(.int .i64 0),(.int .i64 0),(.int .i64 0),(.int .i64 0),(.int .i64 0),(.int .i64 0),(.string ⟨#[]⟩),(.string ⟨#[]⟩),(.int .i64 0),(.int .i64 0),(.int .i64 0)]):=⟨by kernel_rfl,.of (by kernel_rfl)⟩
theorem zbn:MpT Tryz.prog 152 3 154 .nilFunc:=⟨by kernel_rfl,.of (by kernel_rfl)⟩
theorem Xg:PlT Tryz.prog 43 #[(0,1),(1,1),(2,1),(3,1),(4,1),(5,1),(6,1),(7,1),(8,1),(9,1),(10,1)] (.agg #[(.int .i64 0),(.int .i64 0),(.int .i64 0),(.int .i64 0),(.int .i64 0),(.int .i64 0),(.string ⟨#[]⟩),(.string ⟨#[]⟩),(.int .i64 0),(.int .i64 0),(.int .i64 0)]):=⟨.of (by kernel_rfl),by kernel_rfl,fun w=>by kernel_rfl⟩
theorem Ql:ScT Tryz.prog 3:=.of (by kernel_rfl)
theorem VI:ScT Tryz.prog 9:=.of (by kernel_rfl)
theorem Z9:SlT Tryz.prog 65 43 11:=.of (by kernel_rfl)
theorem Um:SzT Tryz.prog 43 11:=.of (by kernel_rfl)
theorem zrj:Tryz.prog.underlying 9=some .string:=by kernel_rfl
theorem zaj:Y7 Tryz.prog 43 (.agg #[(.int .i64 0),(.int .i64 0),(.int .i64 0),(.int .i64 0),(.int .i64 0),(.int .i64 0),(.string ⟨#[]⟩),(.string ⟨#[]⟩),(.int .i64 0),(.int .i64 0),(.int .i64 0)]):=.of (by kernel_rfl)
end
section
open Go Go.Kn Go.Proofs
theorem Z0 (I:Qt)(n lo hi:Int):ZA Tryz.prog 101 [.int .i64 n,.int .i64 lo,.int .i64 hi] I (.bool (within n lo hi)):=by
 intro g H w hw
 refine enter Tryz.func101 rfl Tryz.ntmps101 rfl hw ?_
 refine zR ?_
 refine zA ?_
 refine zN (zR ?_)
 refine zM ?_
 refine zM ?_
 refine zC ?_
 refine zM ?_
 refine Qp 3 rfl rfl rfl ?_
 refine zK (Qf rfl) ?_
 refine zK (Qf rfl) ?_
 refine zK (QD rfl rfl rfl) ?_
 refine Qy rfl rfl rfl rfl rfl ?_
 refine zA ?_
 refine zN ?_
 refine Qs ?_
 exact Qv rfl rfl (fun w hw=>⟨by rfl,hw.drop⟩)
theorem Yg (I:Qt)(n lo hi:Int):ZA Tryz.prog 193 [.int .i64 n,.int .i64 lo,.int .i64 hi] I (.bool (within n lo hi)):=by
 intro g H w hw
 refine enter Tryz.func193 rfl Tryz.ntmps193 rfl hw ?_
 refine zR ?_
 refine zA ?_
 refine zN (zR ?_)
 refine zM ?_
 refine zM ?_
 refine zC ?_
 refine zM ?_
 refine Qp 3 rfl rfl rfl ?_
 refine zK (Qf rfl) ?_
 refine zK (Qf rfl) ?_
 refine zK (QD rfl rfl rfl) ?_
 refine Qy rfl rfl rfl rfl rfl ?_
 refine zA ?_
 refine zN ?_
 refine Qs ?_
 exact Qv rfl rfl (fun w hw=>⟨by simp [within,Bool.and_comm],hw.drop⟩)
theorem zjo (I:Qt)(x:Rt):ZA Tryz.prog 165 [encA x] I (.bool (zju x)):=by
 intro g H w hw
 refine enter Tryz.func165 rfl Tryz.ntmps165 rfl hw ?_
 refine zR ?_
 refine QR rfl rfl rfl (fun b_1=>?_)
 refine zA ?_
 refine zN (zR ?_)
 refine zF JV ?_
 refine zV (Qc rfl Ql (fun hg=>by exact QA.h0 rfl)) ?_
 refine zC ?_
 refine zM ?_
 refine Qp 3 rfl rfl rfl ?_
 refine zK (Qa rfl JV) ?_
 refine zK (Qc rfl Ql (fun hg=>by exact QA.h0 rfl)) ?_
 refine zK (Qa rfl Jn) ?_
 refine zK (Qc rfl Ql (fun hg=>by exact QA.h0 rfl)) ?_
 refine zK (QD rfl rfl rfl) ?_
 refine Qy rfl rfl rfl rfl rfl ?_
 refine zM ?_
 refine Qp 10 rfl rfl rfl ?_
 refine zK (Qa rfl Jn) ?_
 refine zK (Qc rfl Ql (fun hg=>by exact QA.h0 rfl)) ?_
 refine zK (QD rfl rfl rfl) ?_
 refine Qy rfl rfl rfl rfl rfl ?_
 refine zM ?_
 refine Qp 15 rfl rfl rfl ?_
 refine zK (Qa rfl Jw) ?_
 refine zK (Qc rfl Ql (fun hg=>by exact QA.h0 rfl)) ?_
 refine ZZ (cap:=[]) (vs:=[_,_,_]) rfl rfl XJ (fun hg=>Z0 I _ _ _) (.some rfl rfl rfl rfl gbt) rfl rfl ?_
 refine Qy rfl rfl rfl rfl rfl ?_
 refine zA ?_
 refine zN ?_
 refine Qs ?_
 exact Qv rfl rfl (fun w hw=>⟨by rfl,hw.drop⟩)
theorem zcw (I:Qt)(x:Rt)(m:Value):ZA Tryz.prog 166 [encA x,m] I (.bool (heldF x)):=by
 intro g H w hw
 refine enter Tryz.func166 rfl Tryz.ntmps166 rfl hw ?_
 refine zR ?_
 refine QR rfl rfl rfl (fun b_2=>?_)
 refine zA ?_
 refine zN (zR ?_)
 refine zF YP ?_
 refine zV (Qc rfl Ql (fun hg=>by exact QA.h0 rfl)) ?_
 refine zF VC ?_
 refine zV (Qc rfl Ql (fun hg=>by exact QA.h0 rfl)) ?_
 refine zF Jw ?_
 refine zV (Qc rfl Ql (fun hg=>by exact QA.h0 rfl)) ?_
 refine zF JS ?_
 refine zV (Qc rfl Ql (fun hg=>by exact QA.h0 rfl)) ?_
 refine zF JU ?_
 refine zV (Qc rfl Ql (fun hg=>by exact QA.h0 rfl)) ?_
 refine zF JV ?_
 refine zV (Qc rfl Ql (fun hg=>by exact QA.h0 rfl)) ?_
 refine zF Jn ?_
 refine zV (Qc rfl Ql (fun hg=>by exact QA.h0 rfl)) ?_
 refine zF Ys ?_
 refine zV (Qc rfl Ql (fun hg=>by exact QA.h0 rfl)) ?_
 refine zV (QK (ps:=[(0,_),(1,_),(2,_),(3,_),(4,_),(8,_),(9,_),(10,_)]) [_,_,_,_,_,_,_,_,_,_,_] Xg rfl rfl) ?_
 refine Qq zaj rfl rfl (fun b_5=>?_)
 refine Y8 rfl rfl Um rfl rfl rfl rfl (by exact Upd.u0) ?_
 refine zN (zR ?_)
 refine zV (Qg rfl YC (fun hg=>by exact Cells.g1) rfl) ?_
 refine zV (Qg rfl YC (fun hg=>by exact Cells.g0) rfl) ?_
 refine zV (UJ rfl rfl XZ rfl) ?_
 refine zM ?_
 refine Qp 3 rfl rfl rfl ?_
 refine zK (Qg rfl YC (fun hg=>by exact Cells.g1) rfl) ?_
 refine ZZ (cap:=[]) (vs:=[_]) rfl rfl zjn (fun hg=>zjo I x) (.some rfl rfl rfl rfl gbt) rfl rfl ?_
 refine Qy rfl rfl rfl rfl rfl ?_
 refine zM ?_
 refine Qp 7 rfl rfl rfl ?_
 refine zK (Qa rfl JS) ?_
 refine zK (Qc rfl Ql (fun hg=>by exact QA.h1 rfl)) ?_
 refine ZZ (cap:=[]) (vs:=[_,_,_]) rfl rfl XJ (fun hg=>Z0 I _ _ _) (.some rfl rfl rfl rfl gbt) rfl rfl ?_
 refine Qy rfl rfl rfl rfl rfl ?_
 refine zM ?_
 refine Qp 12 rfl rfl rfl ?_
 refine zK (Qa rfl JU) ?_
 refine zK (Qc rfl Ql (fun hg=>by exact QA.h1 rfl)) ?_
 refine ZZ (cap:=[]) (vs:=[_,_,_]) rfl rfl XJ (fun hg=>Z0 I _ _ _) (.some rfl rfl rfl rfl gbt) rfl rfl ?_
 refine Qy rfl rfl rfl rfl rfl ?_
 refine zA ?_
 refine zN ?_
 refine Qs ?_
 exact Qv rfl rfl (fun w hw=>⟨by rfl,hw.drop⟩)
theorem zuu (I:Qt)(x:Rt)(m:Value):ZA Tryz.prog 164 [encA x,m] I (.bool (billF x)):=by
 intro g H w hw
 refine enter Tryz.func164 rfl Tryz.ntmps164 rfl hw ?_
 refine zR ?_
 refine QR rfl rfl rfl (fun b_2=>?_)
 refine zA ?_
 refine zN (zR ?_)
 refine zF YP ?_
 refine zV (Qc rfl Ql (fun hg=>by exact QA.h0 rfl)) ?_
 refine zF VC ?_
 refine zV (Qc rfl Ql (fun hg=>by exact QA.h0 rfl)) ?_
 refine zF Jw ?_
 refine zV (Qc rfl Ql (fun hg=>by exact QA.h0 rfl)) ?_
 refine zF Jl ?_
 refine zV (Qc rfl VI (fun hg=>by exact QA.h0 rfl)) ?_
 refine zF Jo ?_
 refine zV (Qc rfl VI (fun hg=>by exact QA.h0 rfl)) ?_
 refine zF JV ?_
 refine zV (Qc rfl Ql (fun hg=>by exact QA.h0 rfl)) ?_
 refine zF Jn ?_
 refine zV (Qc rfl Ql (fun hg=>by exact QA.h0 rfl)) ?_
 refine zF Ys ?_
 refine zV (Qc rfl Ql (fun hg=>by exact QA.h0 rfl)) ?_
 refine zV (QK (ps:=[(0,_),(1,_),(2,_),(6,_),(7,_),(8,_),(9,_),(10,_)]) [_,_,_,_,_,_,_,_,_,_,_] Xg rfl rfl) ?_
 refine Qq zaj rfl rfl (fun b_5=>?_)
 refine Y8 rfl rfl Um rfl rfl rfl rfl (by exact Upd.u0) ?_
 refine zN (zR ?_)
 refine zV (Qg rfl YC (fun hg=>by exact Cells.g1) rfl) ?_
 refine zV (Qg rfl YC (fun hg=>by exact Cells.g0) rfl) ?_
 refine zV (UJ rfl rfl XZ rfl) ?_
 refine zM ?_
 refine Qp 3 rfl rfl rfl ?_
 refine zK (Qg rfl YC (fun hg=>by exact Cells.g1) rfl) ?_
 refine ZZ (cap:=[]) (vs:=[_]) rfl rfl zjn (fun hg=>zjo I x) (.some rfl rfl rfl rfl gbt) rfl rfl ?_
 refine Qy rfl rfl rfl rfl rfl ?_
 refine zM ?_
 refine Qp 7 rfl rfl rfl ?_
 refine zK (Qa rfl Jl) ?_
 refine zK (Qc rfl VI (fun hg=>by exact QA.h1 rfl)) ?_
 refine zK (Us rfl zrj) ?_
 refine ZZ (cap:=[]) (vs:=[_,_,_]) rfl rfl XJ (fun hg=>Z0 I _ _ _) (.some rfl rfl rfl rfl gbt) rfl rfl ?_
 refine Qy rfl rfl rfl rfl rfl ?_
 refine zM ?_
 refine Qp 13 rfl rfl rfl ?_
 refine zK (Qa rfl Jo) ?_
 refine zK (Qc rfl VI (fun hg=>by exact QA.h1 rfl)) ?_
 refine zK (Us rfl zrj) ?_
 refine ZZ (cap:=[]) (vs:=[_,_,_]) rfl rfl XJ (fun hg=>Z0 I _ _ _) (.some rfl rfl rfl rfl gbt) rfl rfl ?_
 refine Qy rfl rfl rfl rfl rfl ?_
 refine zA ?_
 refine zN ?_
 refine Qs ?_
 exact Qv rfl rfl (fun w hw=>⟨by rfl,hw.drop⟩)
theorem zmJ (I:Qt)(x:Rt):ZA Tryz.prog 194 [encA x] I (.bool (zib x)):=by
 intro g H w hw
 refine enter Tryz.func194 rfl Tryz.ntmps194 rfl hw ?_
 refine zR ?_
 refine QR rfl rfl rfl (fun b_1=>?_)
 refine zA ?_
 refine zN (zR ?_)
 refine zF JV ?_
 refine zV (Qc rfl Ql (fun hg=>by exact QA.h0 rfl)) ?_
 refine zF Jn ?_
 refine zV (Qc rfl Ql (fun hg=>by exact QA.h0 rfl)) ?_
 refine Vw (cap:=[]) (vs:=[_,_,_]) rfl rfl Ko (Yg I _ _ _) rfl rfl ?_
 refine zM ?_
 refine Qp 5 rfl rfl rfl ?_
 refine zK (Qa rfl Jn) ?_
 refine zK (Qc rfl Ql (fun hg=>by exact QA.h0 rfl)) ?_
 refine zK (QD rfl rfl rfl) ?_
 refine Qy rfl rfl rfl rfl rfl ?_
 refine zA ?_
 refine zN ?_
 refine Qs ?_
 exact Qv rfl rfl (fun w hw=>⟨by rfl,hw.drop⟩)
theorem zpG (I:Qt)(s:ByteArray):ZA Tryz.prog 195 [.string s] I (.bool (zh5 s)):=by
 intro g H w hw
 refine enter Tryz.func195 rfl Tryz.ntmps195 rfl hw ?_
 refine zR ?_
 refine zA ?_
 refine zN (zR ?_)
 refine zM ?_
 refine zV (Us rfl zrj) ?_
 refine Vw (cap:=[]) (vs:=[_,_,_]) rfl rfl Ko (Yg I _ _ _) rfl rfl ?_
 refine zA ?_
 refine zN ?_
 refine Qs ?_
 exact Qv rfl rfl (fun w hw=>⟨by rfl,hw.drop⟩)
end
end Go.Proofs.YtjblkbkmblkgoaaGreat.S
