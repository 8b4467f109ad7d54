/- partiesWorldSpec_holds, part H of the proof: what its theorems say holds without further conditions. -/
import Derived.Test.YtjblkbkmblkgoaaGreatWSG
namespace Go.Proofs.YtjblkbkmblkgoaaGreat
section
open Go Go.Kn Go.Proofs
theorem zAp (I:Qv)(a0 b0:Nat)(_ha:a0≤1073741824)(_hb:b0≤1073741824):ZF Tryz.prog 288 [.int .i64 a0,.int .i64 b0] I (.int .i64 (Nat.gcd a0 b0:Nat)):=by
 intro g H w hw;refine qe Tryz.func288 Tryz.ntmps288 hw ?_;refine zR (zA (zN (Qm (Qr<|zd0 [] .nil (fun T L0 mz E I' loc'=>∃ (a b:Nat),mz=(b+1)∧E=(0,.int .i64 a)::(1,.int .i64 b)::T∧I=I'∧L0=loc'∧Nat.gcd a b=Nat.gcd a0 b0) _ _ _ _ ⟨a0,b0,rfl,rfl,rfl,rfl,rfl⟩ (.cons rfl (.cons rfl .nil)) (zCA _) rfl ?_))));rintro mz E I' loc' ⟨a,b,rfl,rfl,rfl,rfl,hgc⟩;refine Qm (zR (zM<|zC (zN ?_)));refine zI ?_ ?_<;>intro hc7
 ·
  have hbp:0<b:=(by have h:=hc7;simp at h;omega);refine Qp (Qc (Qr (zR (zM ?_))));refine zM ?_;refine zV (Ya rfl rfl (fun hg=>kB)) ?_;rw [ziK];refine zA<|zN (zR ?_)
  exact zM<|zA (zN (Qh<|zM<|zA (Qb (Qi<|zm (h:=⟨a % b+1,Nat.succ_lt_succ (Nat.mod_lt _ hbp),b,a % b,rfl,rfl,rfl,rfl,zp2 hgc⟩)))))
 have hb0:b=0:=(by have h:=hc7;simp at h;omega);refine Q6 (Ql (Ql (Qq (Qc (zR (zM<|zA (zN (Qs ?_))))))));exact zr rfl rfl (by rw [←hgc,hb0,Nat.gcd_zero_right])
theorem zxC (I:Qv)(a b:Int)(ha:0≤a∧a≤1073741824)(hb:0≤b∧b≤1073741824):ZF Tryz.prog 288 [.int .i64 a,.int .i64 b] I (.int .i64 (zoG a b)):=by
 have h:=zAp I a.toNat b.toNat kB kB;rw [Int.toNat_of_nonneg ha.1,Int.toNat_of_nonneg hb.1,zpV ha.1 hb.1] at h;exact h
theorem zy9 (I:Qv)(n:Int)(hn: -1073741824≤n∧n≤1073741824):ZF Tryz.prog 289 [.int .i64 n] I (.int .i64 (zcM n)):=by
 intro g H w hw;refine qe Tryz.func289 Tryz.ntmps289 hw ?_;refine zR (zA (zN (Qm (zR ?_))));refine zM<|zC (zN ?_)
 refine zI ?_ ?_<;>intro hc4
 ·
  refine zR (zM<|zV (zje rfl)<|zA (zN (Qs (Qf ?_))))
  first
  | exact zr rfl rfl (by unfold zcM;rw [if_pos (by simpa using hc4),zdS kB])
 refine Qp (Qc (zR (zM<|zA (zN (Qs ?_)))))
 first
 | exact zr rfl rfl (by unfold zcM;rw [if_neg (by simpa using hc4)])
theorem zkH (I:Qv)(n d:Int):ZF Tryz.prog 286 [zaU (n) (d)] I (.bool (Wz n d)):=by
 intro g H w hw;refine qe Tryz.func286 Tryz.ntmps286 hw ?_;refine zR<|QQ rfl rfl rfl (fun b_1=>zA (zN (Qm<|Kq mixed kA<|zq (Qa rfl Vn) ?_)))
 refine zq (Qd rfl Qn (fun hg=>by exact Qz.h0 rfl))<|zq (QE rfl rfl rfl)<|zq (Qe rfl)<|Vw 3 rfl rfl rfl<|zk (Qa rfl Vn)<|zk (Qd rfl Qn (fun hg=>by exact Qz.h0 rfl))<|zk (QE rfl rfl rfl)<|UA rfl rfl rfl rfl rfl<|zq (Qe rfl)<|Vw 8 rfl rfl rfl<|zk (Qa rfl Y0)<|zk (Qd rfl Qn (fun hg=>by exact Qz.h0 rfl)) ?_
 refine zk (QE rfl rfl rfl)<|UA rfl rfl rfl rfl rfl<|zq (Qe rfl)<|Vw 13 rfl rfl rfl<|zk (Qa rfl Y0)<|zk (Qd rfl Qn (fun hg=>by exact Qz.h0 rfl))<|zk (QE rfl rfl rfl)<|UA rfl rfl rfl rfl rfl<|zq (Qe rfl)<|Vw 18 rfl rfl rfl<|zk (Qa rfl Y0)<|zk (Qd rfl Qn (fun hg=>by exact Qz.h0 rfl)) ?_
 exact Jn (cap:=[]) (vs:=[_]) rfl rfl ztS (fun hg=>zy9 I n (by simp [Z6] at hg;omega)) (.some rfl rfl rfl rfl gbt) rfl rfl<|zk (Qa rfl Vn)<|zk (Qd rfl Qn (fun hg=>by exact Qz.h0 rfl))<|Jn (cap:=[]) (vs:=[_,_]) rfl rfl zs4 (fun hg=>zxC I _ d (ztH (by simp [Z6] at hg;omega)) (by simp [Z6] at hg;omega)) (.some rfl rfl rfl rfl gbt) rfl rfl<|zk (QE rfl rfl rfl)<|UA rfl rfl rfl rfl rfl<|zq (Qy rfl)<|Kt<|Qc (Qs<|zr rfl rfl (by rw [←zq4]))
theorem zyI (I:Qv)(an ad bn bd:Int):ZF Tryz.prog 283 [zaU (an) (ad),zaU (bn) (bd)] I (.bool (Wz an ad&&Wz bn bd)):=by
 intro g H w hw;refine qe Tryz.func283 Tryz.ntmps283 hw ?_;refine zR<|QQ rfl rfl rfl (fun b_2=>QQ rfl rfl rfl (fun b_3=>zA<|zN (zR<|zV (Qg rfl JD (fun hg=>by exact Cells.g1) rfl)<|qcV (vs:=[_]) rfl zlr (zkH I _ _)<|zM<|Qu 2 rfl rfl rfl ?_)))
 refine zK (Qg rfl JD (fun hg=>by exact Cells.g0) rfl)<|qg (vs:=[_]) rfl zlr (fun hg=>zkH I _ _)<|QD rfl rfl rfl rfl rfl<|zA (zN (Qs ?_))
 exact zr rfl rfl kU
theorem zy6 (I:Qv)(an ad bn bd:Int)(ha:Wz an ad=true)(hb:Wz bn bd=true):ZF Tryz.prog 284 [zaU (an) (ad),zaU (bn) (bd)] I (.bool (decide (an*bd<bn*ad))):=by
 intro g H w hw;refine qe Tryz.func284 Tryz.ntmps284 hw ?_;have ⟨ha1,ha2⟩:=zdE ha;have ⟨hb1,hb2⟩:=zdE hb;refine zR<|QQ rfl rfl rfl (fun b_2=>QQ rfl rfl rfl (fun b_3=>zA<|zN (zR ?_)))
 refine zF Y0 ?_;refine zL Qn<|zF Vn ?_
 refine zL Qn ?_;refine zV (Yr rfl rfl rfl (fun _=>by exact zpx kB kB))<|zF Y0 ?_
 refine zL Qn<|zF Vn ?_
 refine zL Qn ?_;refine zV (Yr rfl rfl rfl (fun _=>by exact zpx kB kB))<|zC<|zA (zN (Qs ?_))
 exact zr rfl rfl kU
theorem JK (I:Qv)(n lo hi:Int):ZF Tryz.prog 279 [.int .i64 n,.int .i64 lo,.int .i64 hi] I (.bool (within n lo hi)):=by
 intro g H w hw;refine qe Tryz.func279 Tryz.ntmps279 hw ?_;refine zR (zA<|zN (zR ?_));refine zM ?_;refine zM<|zC<|zM<|Qu 3 rfl rfl rfl ?_
 refine zK (Qe rfl) ?_;refine zK (Qe rfl) ?_;refine zK (QE rfl rfl rfl) ?_;refine QD rfl rfl rfl rfl rfl<|zA (zN (Qs ?_))
 exact zr rfl rfl kU
theorem zxq (I:Qv)(an ad bn bd:Int):ZF Tryz.prog 280 [zaU (an) (ad),zaU (bn) (bd)] I (.bool (zcf an ad bn bd)):=by
 intro g H w hw;refine qe Tryz.func280 Tryz.ntmps280 hw ?_;refine zR<|QQ rfl rfl rfl (fun b_2=>QQ rfl rfl rfl (fun b_3=>zA<|zN (zR<|zV (Qg rfl JD (fun hg=>by exact Cells.g1) rfl)<|zV (Qg rfl JD (fun hg=>by exact Cells.g0) rfl)<|qcV (vs:=[_,_]) rfl zvW (zyI I _ _ _ _)<|zA<|zN (zR ?_))))
 refine zM ?_;refine zM<|Qu 1 rfl rfl rfl ?_
 refine zK (Qa rfl Y0) ?_;refine zK (Qd rfl Qn (fun hg=>by exact Qz.h1 rfl))<|zK (QE rfl rfl rfl) ?_
 refine QD rfl rfl rfl rfl rfl ?_;refine zM<|Qu 6 rfl rfl rfl ?_
 refine zK (Qg rfl JD (fun hg=>by exact Cells.g1) rfl)<|zK (Qg rfl JD (fun hg=>by exact Cells.g0) rfl)<|qg (vs:=[_,_]) rfl zwj (fun hg=>zy6 I _ _ _ _ (by simp [Z6] at hg;exact hg.1.1) (by simp [Z6] at hg;exact hg.1.2))<|QD rfl rfl rfl rfl rfl ?_
 refine zM<|Qu 11 rfl rfl rfl ?_
 refine zK (Qa rfl Y0) ?_;refine zK (Qd rfl Qn (fun hg=>by exact Qz.h0 rfl))<|zK (Qa rfl Vn) ?_
 refine zK (Qd rfl Qn (fun hg=>by exact Qz.h0 rfl))<|zK (QE rfl rfl rfl) ?_
 refine QD rfl rfl rfl rfl rfl<|zA (zN (Qs ?_))
 exact zr rfl rfl (by rw [←zpF])
theorem zA4 (I:Qv)(x:Sg):ZF Tryz.prog 277 [Xa x] I (.bool (frm x)):=by
 intro g H w hw;refine qe Tryz.func277 Tryz.ntmps277 hw ?_;refine zR<|QQ rfl rfl rfl (fun b_1=>zA (zN (Qm (zR<|zF JS ?_))))
 refine zL Qn<|qcV (vs:=[_,_,_]) rfl Ua (JK I _ _ _)<|zO<|zM ?_
 refine QK 4 rfl rfl rfl ?_;refine zJ (Qa rfl Uv)<|zJ (Qd rfl Qn (fun hg=>by exact Qz.h0 rfl))<|qf (vs:=[_,_,_]) rfl Ua (fun hg=>JK I _ _ _)<|zJ (Zy rfl)<|Zf rfl rfl rfl rfl rfl ?_
 refine zM ?_;refine QK 10 rfl rfl rfl ?_;refine zJ (Qa rfl UI)<|zJ (Qd rfl Qn (fun hg=>by exact Qz.h0 rfl))<|qf (vs:=[_,_,_]) rfl Ua (fun hg=>JK I _ _ _)<|zJ (Zy rfl)<|Zf rfl rfl rfl rfl rfl ?_
 refine zM ?_;refine QK 16 rfl rfl rfl ?_;refine zJ (Qa rfl zbs)<|zJ (Qd rfl Qn (fun hg=>by exact Qz.h0 rfl))<|qf (vs:=[_,_,_]) rfl Ua (fun hg=>JK I _ _ _)<|zJ (Zy rfl)<|Zf rfl rfl rfl rfl rfl ?_
 refine zM ?_;refine QK 22 rfl rfl rfl ?_;refine zJ (Qa rfl UM)<|zJ (Qd rfl Qn (fun hg=>by exact Qz.h0 rfl))<|qf (vs:=[_,_,_]) rfl Ua (fun hg=>JK I _ _ _)<|zJ (Zy rfl)<|Zf rfl rfl rfl rfl rfl<|zN ?_
 refine zI ?_ ?_<;>intro hc30
 ·
  exact zR (zA (zN (Qs (Qf<|zr rfl rfl (by exact congrArg (fun b=>Ending.returned (Value.bool b)) (zAZ hc30).symm)))))
 refine Qp (Qc (Qm (zR<|zF Uw ?_)));refine zL Qn<|qcV (vs:=[_,_,_]) rfl Ua (JK I _ _ _)<|zO<|zM ?_
 refine QK 4 rfl rfl rfl ?_;refine zJ (Qa rfl UD)<|zJ (Qd rfl Qn (fun hg=>by exact Qz.h0 rfl))<|qf (vs:=[_,_,_]) rfl Ua (fun hg=>JK I _ _ _)<|zJ (Zy rfl)<|Zf rfl rfl rfl rfl rfl ?_
 refine zM ?_;refine QK 10 rfl rfl rfl ?_;refine zJ (Qa rfl UL)<|zJ (Qd rfl Qn (fun hg=>by exact Qz.h0 rfl))<|qf (vs:=[_,_,_]) rfl Ua (fun hg=>JK I _ _ _)<|zJ (Zy rfl)<|Zf rfl rfl rfl rfl rfl ?_
 refine zM ?_;refine QK 16 rfl rfl rfl ?_;refine zJ (Qa rfl UC)<|zJ (Qd rfl Qn (fun hg=>by exact Qz.h0 rfl))<|qf (vs:=[_,_,_]) rfl Ua (fun hg=>JK I _ _ _)<|zJ (Zy rfl)<|Zf rfl rfl rfl rfl rfl ?_
 refine zM ?_;refine QK 22 rfl rfl rfl ?_;refine zJ (Qa rfl UE)<|zJ (Qd rfl Qn (fun hg=>by exact Qz.h0 rfl))<|qf (vs:=[_,_,_]) rfl Ua (fun hg=>JK I _ _ _)<|zJ (Zy rfl)<|Zf rfl rfl rfl rfl rfl<|zN ?_
 refine zI ?_ ?_<;>intro hc58
 ·
  exact zR (zA (zN (Qs (Qf<|zr rfl rfl (by exact congrArg (fun b=>Ending.returned (Value.bool b)) (zBg hc58).symm)))))
 refine Qp (Qc (zR<|zF Ji ?_));refine zV (Qg rfl JD (fun hg=>by exact Cells.s0 (vs:=[_,_]) rfl) rfl)<|zF Jt ?_
 refine zV (Qg rfl JD (fun hg=>by exact Cells.s0 (vs:=[_,_]) rfl) rfl)<|qcV (vs:=[_,_]) rfl zvV (zxq I _ _ _ _)<|zA (zN (Qs ?_))
 exact zr rfl rfl (by exact congrArg (fun b=>Ending.returned (Value.bool b)) (zAq hc30 hc58).symm)
variable{I:Qv}{av:Option Addr}{n c:Nat}{xs:List Sg}
theorem zu5 (hS:Sl I 14 zgB av n c xs)(hn:n≤100000):ZF Tryz.prog 275 [.slice av n c] I (.bool (skB xs)):=by
 intro g H w hw;refine qe Tryz.func275 Tryz.ntmps275 hw ?_;refine zR (zA (zN (Qm (zR<|zA (zN (Qr<|zU [(0,_)] (fun T L0 mz E I' loc'=>∃ (k:Nat),mz=n-k∧E=(3,.int .i64 k)::T∧I=I'∧L0=loc'∧k≤n∧(List.range k).all (skP xs)=true) ?_ (h:=⟨0,rfl,rfl,rfl,rfl,Nat.zero_le _,rfl⟩)))))));rintro mz E I' loc' ⟨k,rfl,rfl,rfl,rfl,hk,hall⟩;refine Qm (zR (zM<|zM ?_));refine zQ UK<|zC (zN ?_)
 refine zI ?_ ?_<;>intro hc7
 ·
  have hlt_k:k<n:=(by have h:=hc7;simp at h;omega);obtain ⟨x,hx⟩:=hS.at hlt_k;refine Qp (Qc (Qm (Qr (Qm<|Kq mixed kA<|zq (Qe rfl)<|zq (Qe rfl)<|zq (QC rfl rfl UK kH (fun hg=>kB))<|zq (Qg rfl ZJ (fun hg=>by exact zCB hS hx) rfl)<|Wh (cap:=[]) (vs:=[_]) rfl rfl zvz (zA4 I _) rfl rfl<|zq (Zy rfl)<|zq (Qe rfl)<|Vx 6 rfl rfl rfl<|zj (Qe rfl)<|zj (QE rfl rfl rfl) ?_))));refine zj (Qe rfl)<|Vw 9 rfl rfl rfl<|zk (Qe rfl)<|zk (Qe rfl)<|zk (QC rfl rfl UK kH (fun hg=>kB))<|zk (Qa rfl JS)<|zk (Qd rfl Qn (fun hg=>by exact zCt hS hx rfl))<|zk (Qe rfl)<|zk (Qe rfl)<|zk (Yr rfl rfl rfl (fun hg=>kB))<|zk (QC rfl rfl UK kH (fun hg=>by (simp [Z6] at hg;omega)))<|zk (Qa rfl JS) ?_
  refine zk (Qd rfl Qn (fun hg=>by exact zCt (k:=((k:Int)-1).toNat) hS (KR (d:=JZ) hS.len (by simp [Z6] at hg;omega)) rfl))<|zk (QE rfl rfl rfl)<|zcr rfl rfl rfl (.some rfl rfl rfl rfl gbf) rfl rfl<|KY rfl rfl rfl rfl rfl<|Kt<|Qc ?_
  refine zI ?_ ?_<;>intro hc33
  ·
   refine zR (zA (zN (Qs (Qj (Qf (Qf (Qj<|Qf ?_)))))))
   first
   | exact zr rfl rfl (by unfold skB;rw [VY (k:=k) (by rw [hS.len];exact hlt_k) (by rw [zja hx];exact congrArg (! ·) hc33)])
  refine Qp (Qi (Qc (Qh (zM ?_))));refine zB<|zA (Qb ?_)
  exact zm (h:=⟨n-(k+1),kB,k+1,rfl,rfl,rfl,rfl,kB,VH hall (by rw [zja hx];exact congrArg (! ·) hc33)⟩)
 have hge_k:n≤k:=(by have h:=hc7;simp at h;omega);refine Q6 (Ql (Ql (Qq (Qc (zR (zA (zN<|Qs ?_)))))))
 first
 | exact zr rfl rfl (by unfold skB;rw [hS.len,show n=k by omega,hall])
theorem zxF (hS:Sl I 14 zgB av n c xs)(hn:n≤100000):ZF Tryz.prog 267 [.slice av n c] I (.int .i64 (zjw xs)):=by
 intro g H w hw;refine qe Tryz.func267 Tryz.ntmps267 hw ?_;refine zR (zA (zN (Qm (zR ?_))));refine zM ?_;refine zQ UK<|zC (zN ?_)
 refine zI ?_ ?_<;>intro hc5
 ·
  have h6:xs.length>4096:=(by rw [hS.len];simp at hc5;omega);exact zR (zA (zN (Qs (Qf<|zr rfl rfl (by rw [zyr h6])))))
 have h6:¬xs.length>4096:=(by rw [hS.len];simp at hc5;omega);refine Qp (Qc (Qm (zR (zM ?_))));refine qcV (vs:=[_]) rfl zv8 (zu5 hS hn)<|zO (zN ?_)
 refine zI ?_ ?_<;>intro hc8
 ·
  exact zR (zA (zN (Qs (Qf<|zr rfl rfl (by rw [zxL h6 (by simpa using hc8)])))))
 exact Qp (Qc (zR (zA (zN (Qs<|zr rfl rfl (by rw [zwK h6 (by simpa using hc8)]))))))
theorem zrH (I:Qv)(x:Sg):ZF Tryz.prog 246 [Xa x] I (.bool (frm x)):=by
 intro g H w hw;refine qe Tryz.func246 Tryz.ntmps246 hw ?_;have hIc:=zCA I;refine zR<|QQ rfl rfl rfl (fun b_1=>zA<|zN (zR<|zV (Qg rfl ZJ (fun hg=>by exact Cells.g0) rfl)<|zpb [(0,_)] [zgB x] znw (fun b_5=>QU .here (fun I1 hI1 hb1=>?_))))
 have hIc:=hIc.trans hI1;have hS:=Sl.lit [x] rfl zh7 (show _=some (Obj.cells (([x]:List Sg).flatMap zgB).toArray 36 (0,0)) from hb1);refine qcV (vs:=[_]) rfl zuV (zxF hS kD)<|zA<|zN (zR ?_)
 refine zM<|zC<|zA (zN (Qs ?_))
 exact zp hIc rfl rfl (by rw [zmw])
theorem zxX (I:Qv)(x:Sg)(f:Int)(y:Sg):ZF Tryz.prog 245 [Xa x,.int .i64 f,Xa y] I (Xa (Ue x f y)):=by
 intro g H w hw;refine qe Tryz.func245 Tryz.ntmps245 hw ?_;refine zR<|QQ rfl rfl rfl (fun b_3=>QQ rfl rfl rfl (fun b_5=>Qt zhA rfl rfl (fun b_6=>zN (Qm (zR (zM (zN (Qr (zR<|zC<|zA (zN ?_))))))))))
 refine zI ?_ ?_<;>intro hc8
 ·
  have hfk:f=1:=(by simpa using hc8);subst hfk;refine Qh<|zF Uv ?_
  refine zL Qn<|zF Uv ?_
  refine zS UT ?_;refine Qb (Qi (Qc (zR ?_)));refine zV (Qg rfl ZJ (fun hg=>by exact Cells.g2) rfl) ?_;refine zh Jk ?_;refine zN (Qs ?_);exact ZN rfl rfl ZJ Cells.g0 rfl (fun w hw=>⟨rfl,hw.drop⟩)
 have hg1:f≠1:=(by simpa using hc8);refine zR (zC<|zA (zN ?_));refine zI ?_ ?_<;>intro hc13
 ·
  have hfk:f=2:=(by simpa using hc13);subst hfk;refine Qh<|zF UI ?_
  refine zL Qn<|zF UI ?_
  refine zS UT<|Qb (Qi (Qc (zR ?_)))
  refine zV (Qg rfl ZJ (fun hg=>by exact Cells.g2) rfl) ?_;exact zh Jk<|zN (Qs<|ZN rfl rfl ZJ Cells.g0 rfl (fun w hw=>⟨rfl,hw.drop⟩))
 have hg2:f≠2:=(by simpa using hc13);refine zR (zC<|zA (zN ?_));refine zI ?_ ?_<;>intro hc18
 ·
  have hfk:f=3:=(by simpa using hc18);subst hfk;refine Qh<|zF UM ?_
  refine zL Qn<|zF UM ?_
  refine zS UT<|Qb (Qi (Qc (zR ?_)))
  refine zV (Qg rfl ZJ (fun hg=>by exact Cells.g2) rfl) ?_;exact zh Jk<|zN (Qs<|ZN rfl rfl ZJ Cells.g0 rfl (fun w hw=>⟨rfl,hw.drop⟩))
 have hg3:f≠3:=(by simpa using hc18);refine zR (zC<|zA (zN ?_));refine zI ?_ ?_<;>intro hc23
 ·
  have hfk:f=4:=(by simpa using hc23);subst hfk;refine Qh<|zF Uw ?_
  refine zL Qn<|zF Uw ?_
  refine zS UT<|Qb (Qi (Qc (zR ?_)))
  refine zV (Qg rfl ZJ (fun hg=>by exact Cells.g2) rfl) ?_;exact zh Jk<|zN (Qs<|ZN rfl rfl ZJ Cells.g0 rfl (fun w hw=>⟨rfl,hw.drop⟩))
 have hg4:f≠4:=(by simpa using hc23);refine zR (zC<|zA (zN ?_));refine zI ?_ ?_<;>intro hc28
 ·
  have hfk:f=5:=(by simpa using hc28);subst hfk;refine Qh<|zF UD ?_
  refine zL Qn<|zF UD ?_
  refine zS UT<|Qb (Qi (Qc (zR ?_)))
  refine zV (Qg rfl ZJ (fun hg=>by exact Cells.g2) rfl) ?_;exact zh Jk<|zN (Qs<|ZN rfl rfl ZJ Cells.g0 rfl (fun w hw=>⟨rfl,hw.drop⟩))
 have hg5:f≠5:=(by simpa using hc28);refine zR (zC<|zA (zN ?_));refine zI ?_ ?_<;>intro hc33
 ·
  have hfk:f=6:=(by simpa using hc33);subst hfk;refine Qh<|zF UL ?_
  refine zL Qn<|zF UL ?_
  refine zS UT<|Qb (Qi (Qc (zR ?_)))
  refine zV (Qg rfl ZJ (fun hg=>by exact Cells.g2) rfl) ?_;exact zh Jk<|zN (Qs<|ZN rfl rfl ZJ Cells.g0 rfl (fun w hw=>⟨rfl,hw.drop⟩))
 have hg6:f≠6:=(by simpa using hc33);refine zR (zC<|zA (zN ?_));refine zI ?_ ?_<;>intro hc38
 ·
  have hfk:f=7:=(by simpa using hc38);subst hfk;refine Qh<|zF UC ?_
  refine zL Qn<|zF UC ?_
  refine zS UT<|Qb (Qi (Qc (zR ?_)))
  refine zV (Qg rfl ZJ (fun hg=>by exact Cells.g2) rfl) ?_;exact zh Jk<|zN (Qs<|ZN rfl rfl ZJ Cells.g0 rfl (fun w hw=>⟨rfl,hw.drop⟩))
 have hg7:f≠7:=(by simpa using hc38);refine zR (zC<|zA (zN ?_));refine zI ?_ ?_<;>intro hc43
 ·
  have hfk:f=8:=(by simpa using hc43);subst hfk;refine Qh<|zF UE ?_
  refine zL Qn<|zF UE ?_
  refine zS UT<|Qb (Qi (Qc (zR ?_)))
  refine zV (Qg rfl ZJ (fun hg=>by exact Cells.g2) rfl) ?_;exact zh Jk<|zN (Qs<|ZN rfl rfl ZJ Cells.g0 rfl (fun w hw=>⟨rfl,hw.drop⟩))
 have hg8:f≠8:=(by simpa using hc43);refine zR (zC<|zA (zN ?_));refine zI ?_ ?_<;>intro hc48
 ·
  have hfk:f=9:=(by simpa using hc48);subst hfk;refine zR<|zF Ji ?_
  refine zV (Qg rfl JD (fun hg=>by exact Cells.s1 (vs:=[_,_]) rfl) rfl)<|zF Ji ?_
  refine Yu rfl rfl zit rfl rfl rfl rfl (by repeat (first | exact Upd.here | apply Upd.there | apply ZC))<|zN (Qh<|zF Jt ?_)
  refine zV (Qg rfl JD (fun hg=>by exact Cells.s1 (vs:=[_,_]) rfl) rfl)<|zF Jt ?_
  refine Yu rfl rfl zit rfl rfl rfl rfl (by repeat (first | exact Upd.here | apply Upd.there | apply ZC))<|Qb (Qi (Qc (zR ?_)))
  refine zV (Qg rfl ZJ (fun hg=>by exact Cells.g2) rfl) ?_;exact zh Jk<|zN (Qs<|ZN rfl rfl ZJ Cells.g0 rfl (fun w hw=>⟨rfl,hw.drop⟩))
 have hg9:f≠9:=(by simpa using hc48);refine Qp (Qi (Qc (zR<|zV (Qg rfl ZJ (fun hg=>by exact Cells.g2) rfl) ?_)));refine zh Jk<|zN (Qs ?_)
 first
 | exact ZN rfl rfl ZJ Cells.g0 rfl (fun w hw=>⟨by unfold Ue;rw [if_neg hg1,if_neg hg2,if_neg hg3,if_neg hg4,if_neg hg5,if_neg hg6,if_neg hg7,if_neg hg8,if_neg hg9];rfl,hw.drop⟩)
theorem zs2 (I:Qv):ZF Tryz.prog 247 [] I (Xa zff):=by
 intro g H w hw;refine qe Tryz.func247 Tryz.ntmps247 hw ?_;refine zR<|Qt zhA rfl rfl (fun b_0=>zN (zR<|zV (QF (ps:=[(1,_)]) [_,_] zc3 rfl rfl) ?_))
 refine zV (QF (ps:=[(0,_),(1,_)]) [_,_] zc3 rfl rfl) ?_;refine zV (QF (ps:=[(3,_),(4,_),(10,_),(11,_)]) [_,_,_,_,_,_,_,_,_,_,_,_,_,_] XZ rfl rfl) ?_;exact zh Jk<|zN (Qs<|ZN rfl rfl ZJ Cells.g0 rfl (fun w hw=>⟨rfl,hw.drop⟩))
def idP (t:Int)(p:Pt):Bool:=p.id==t
def zst (ps:List Pt)(t:Int):Int:=zkm (idP t) ps
variable{ps:List Pt}
theorem zsB {t:Int}:decide (zst ps t<0)= !zg0 ps t:=zyL
variable{k:Nat}{p:Pt}
theorem zyf (_hL:∀ p∈ps,∀ q∈ps,p.id=q.id→p=q)(hnd:(ps.map (·.id)).Nodup)(hp:ps[k]? =some p):zst ps p.id=k:=by
 refine zcE (k:=k) (x:=p) ?_ hp (by simp [idP]);rw [List.any_eq_false];intro q hq;obtain ⟨j,hj⟩:=List.getElem?_of_mem hq;have hjk:j<k:=(by have:=(List.getElem?_eq_some_iff.1 hj).1;rw [List.length_take] at this;omega);rw [List.getElem?_take,if_pos hjk] at hj;intro e;have e:q.id=p.id:=(by simpa [idP] using e);obtain ⟨hj1,hj2⟩:=List.getElem?_eq_some_iff.1 hj;obtain ⟨hk1,hk2⟩:=List.getElem?_eq_some_iff.1 hp;have h1:(ps.map (·.id))[j]'(by simpa using hj1)=(ps.map (·.id))[k]'(by simpa using hk1):=(by simp [hj2,hk2,e]);have:=(List.getElem_inj hnd).1 h1;omega
theorem Lst.nodup (h:Lst ps):(ps.map (·.id)).Nodup:=by
 unfold List.Nodup;rw [List.pairwise_map];exact h.inc.imp fun {a b:Pt} (h:a.id<b.id)=>Int.ne_of_lt h
theorem Lst.fnd (h:Lst ps)(hp:ps[k]? =some p):zst ps p.id=k:=zyf (fun _p hp _q hq e=>h.uniq hp hq e) h.nodup hp
variable{y:Int}
theorem Lst.need_at (h:Lst ps)(hp:ps[k]? =some p)(hy:y∈p.needs):∃ m q,m<k∧ps[m]? =some q∧q.id=y∧zst ps y=m:=by
 obtain ⟨q,hq,e⟩:=h.before hp hy;obtain ⟨m,hm⟩:=List.getElem?_of_mem hq;have hmk:m<k:=(by have:=(List.getElem?_eq_some_iff.1 hm).1;rw [List.length_take] at this;omega);rw [List.getElem?_take,if_pos hmk] at hm;exact ⟨m,q,hmk,hm,e,by rw [←e];exact h.fnd hm⟩
variable{i j:Nat}{q:Pt}
theorem Lst.lt_at (h:Lst ps)(hp:ps[i]? =some p)(hq:ps[j]? =some q)(hlt:p.id<q.id):i<j:=by
 obtain ⟨hi1,hi2⟩:=List.getElem?_eq_some_iff.1 hp;obtain ⟨hj1,hj2⟩:=List.getElem?_eq_some_iff.1 hq;by_cases e:i=j
 ·
  subst e;rw [hp] at hq;cases hq;omega
 ·
  by_cases e2:j<i
  ·
   have:=List.pairwise_iff_getElem.1 h.inc j i hj1 hi1 e2;rw [hi2,hj2] at this;omega
  ·
   omega
def zc2 (ps:List Pt)(f:Nat→Pt→Bool)(row:List Bool):Prop:=row.length=ps.length∧∀ j q,ps[j]? =some q→row[j]? =some (f j q)
variable{f:Nat→Pt→Bool}{row:List Bool}
theorem zc2.congr {g:Nat→Pt→Bool}(h:zc2 ps f row)(e:∀ j q,ps[j]? =some q→f j q=g j q):zc2 ps g row:=⟨h.1,fun j q hq=>by rw [←e j q hq];exact h.2 j q hq⟩
theorem zc2.new (h:ps.length=n):zc2 ps (fun _ _=>false) (List.replicate n false):=⟨by simp [h],fun j q hq=>by
 have:=(List.getElem?_eq_some_iff.1 hq).1
 rw [List.getElem?_replicate,if_pos kB]⟩
theorem zc2.set (h:zc2 ps f row)(m:Nat)(b:Bool):zc2 ps (fun j q=>if j=m then b else f j q) (row.set m b):=⟨by rw [List.length_set,h.1],fun j q hq=>by
 show _=some (if j=m then b else f j q);rw [List.getElem?_set];have hj:=(List.getElem?_eq_some_iff.1 hq).1;by_cases e:m=j
 ·
  subst e;rw [if_pos rfl,if_pos (by rw [h.1];exact hj),if_pos rfl]
 ·
  rw [if_neg e,if_neg (fun e2:j=m=>e e2.symm)];exact h.2 j q hq⟩
theorem zc2.eq {f:Pt→Bool}(h:zc2 ps (fun _=>f) row):row=ps.map f:=by
 refine List.ext_getElem? fun j=>?_;rw [List.getElem?_map]
 cases hq:ps[j]? with
 | some q=>rw [h.2 j q hq];rfl
 | none=>
  rw [List.getElem?_eq_none_iff] at hq;exact List.getElem?_eq_none (by rw [h.1];exact hq)
def zjU (ps:List Pt)(p:Pt):List Bool:=ps.map fun q=>onF ps p.id q.id
def Wg (row:List Bool):Array Value:=(row.flatMap zso).toArray
theorem Xu (row:List Bool):row.flatMap zso=row.map Value.bool:=by
 induction row with
 | nil=>rfl
 | cons b row ih=>rw [List.flatMap_cons,ih];rfl
theorem zdB (row:List Bool)(m:Nat)(b:Bool):(Wg row).setIfInBounds ((m:Int).toNat*1) (.bool b)=Wg (row.set m b):=by
 unfold Wg;rw [Xu,Xu,Nat.mul_one,List.setIfInBounds_toArray,List.map_set];rfl
variable{m:Nat}
theorem zBD (h:m<row.length):Nat.blt ((m:Int).toNat*1) (Wg row).size=true:=by
 unfold Wg;rw [List.size_toArray,Yh ziE,Nat.mul_one,Nat.mul_one];rw [Nat.blt_eq];exact h
theorem zjE (n:Nat):(List.replicate n (Value.bool false)).toArray=Wg (List.replicate n false):=by
 unfold Wg;rw [Xu,List.map_replicate]
variable{l:Go.Kn.Loc}{t:TypeId}{fz:Nat×Nat}{x:Bool}
theorem zjY {b:Nat}(h:row[j]? =some x):Qz I ((b,.cells (Wg row) t fz)::l) b ((j:Int).toNat*1) (.bool x):=by
 refine zCv ?_;rw [V7];unfold Wg;rw [Xu,Nat.mul_one];simp [h]
def SlM {β:Type}(enc:β→List Value)(size:Nat)(I:Qv)(av:Option Addr)(n c:Nat)(rows:List (List β)):Prop:=
 ∃ hs:List Hd,Sl I 1 zmf av n c hs∧hs.length=rows.length∧∀ (k:Nat) (h:Hd) (r:List β),hs[k]? =some h→rows[k]? =some r→Sl I size enc h.a h.n h.c r
variable{β:Type}{size:Nat}{enc:β→List Value}{rows:List (List β)}
theorem SlM.len (h:SlM enc size I av n c rows):rows.length=n:=by
 obtain ⟨hs,h1,h2,_⟩:=h;rw [←h2,h1.len]
theorem SlM.at (h:SlM enc size I av n c rows)(hk:k<n):∃ hs hd r,Sl I 1 zmf av n c hs∧hs[k]? =some hd∧rows[k]? =some r∧Sl I size enc hd.a hd.n hd.c r:=by
 have hl:=h.len;obtain ⟨hs,h1,h2,h3⟩:=h;obtain ⟨hd,hh⟩:=h1.at hk;exact ⟨hs,hd,rows[k]' kB,h1,hh,List.getElem?_eq_getElem _,h3 k _ _ hh (List.getElem?_eq_getElem _)⟩
variable{u:Value}
theorem Qz.seg {b off:Nat}{cur vs:List Value}(h:(cur.drop off).take n=vs)(hu:vs[0]? =some u):Qz I ((b,.cells cur.toArray t fz)::l) b off u:=by
 refine zCv ?_;rw [V7,←hu,←h,List.getElem?_take];split
 ·
  simp
 ·
  rename_i hn;rw [←h,List.getElem?_take,if_neg hn] at hu;cases hu
variable{α:Type}{P:α→Bool}
theorem zpH {xs:List α}{x:α}(hx:xs[k]? =some x):(xs.take (k+1)).any P=((xs.take k).any P||P x):=by rw [Wi hx,List.any_append];simp
variable{id:Int}{v:List Int}
/-! ### The list's order -/
theorem zsj {x:Int}(hx:v[k]? =some x):ndP id v k= !((decide (x<1)||decide (x≥id))||(decide ((k:Int)>0)&&decide (x≤v.getD ((k:Int)-1).toNat 0))):=by unfold ndP;rw [Vu hx]
variable{b:Bool}
theorem zw2 {a:Bool}(h:a=false)(h2:b=false):(!(a||b))=true:=by rw [h,h2];rfl
theorem zAS {a:Bool}(h:a=true):(!(a||b))=false:=by rw [h];rfl
theorem zAO {a:Bool}(h:b=true):(!(a||b))=false:=by rw [h];simp
theorem znm (hx:ps[k]? =some p):lsP ps k= !((decide ((k:Int)>0)&&decide (p.id≤(ps.getD ((k:Int)-1).toNat Jq).id))||p.needs.any (fun n=> !zg0 ps n)):=by unfold lsP;rw [Vu hx]
theorem X5 (hp:ps[i]? =some p)(h:(ps.all fun q=>p.id==q.id||zeU p q (onF ps p.id q.id))=false):zoZ ps=false:=by unfold zoZ;exact zaD hp h
/-! ### The rows of all patches -/
def zpq (ps:List Pt)(p:Pt)(k:Nat)(q:Pt):Bool:=(p.needs.take k).any fun m=>m==q.id||onF ps m q.id
theorem zkT (h:ps.length=n):zc2 ps (fun _=>zpq ps p 0) (List.replicate n false):=(zc2.new h).congr fun j q hq=>by simp [zpq]
def zqG (ps:List Pt)(p:Pt)(k:Nat)(y:Int)(j:Nat)(i:Nat)(q:Pt):Bool:=(zpq ps p k q||y==q.id)||(decide (i<j)&&onF ps y q.id)
theorem zt9 (hL:Lst ps)(h:zc2 ps (fun _=>zpq ps p k) row)(hq:ps[m]? =some q)(hy:q.id=y):zc2 ps (zqG ps p k y 0) (row.set m true):=(h.set m true).congr fun i r hr=>by
 unfold zqG;by_cases e:i=m
 ·
  subst e;rw [hq] at hr;cases hr;simp [hy]
 ·
  rw [if_neg e]
  have:¬y=r.id:=fun e2=>by
   have h1:=hL.fnd hr;have h2:=hL.fnd hq;rw [hy,e2,h1] at h2;omega
  simp [this]
theorem zqO (h:zc2 ps (zqG ps p k y j) row)(hq:ps[j]? =some q)(hb:row[j]? =some b):zc2 ps (zqG ps p k y (j+1)) (row.set j (b||onF ps y q.id)):=(h.set j _).congr fun i r hr=>by
 by_cases e:i=j
 ·
  subst e;rw [hq] at hr;cases hr;rw [if_pos rfl];have:=h.2 i q hq;rw [hb] at this;cases this;unfold zqG;simp
 ·
  rw [if_neg e];unfold zqG;rw [show decide (i<j)=decide (i<j+1) from by rw [Bool.eq_iff_iff];simp;omega]
theorem zrc (hL:Lst ps)(hk:p.needs[k]? =some y)(hq:ps[m]? =some q)(hy:q.id=y)(h:zc2 ps (zqG ps p k y m) row):zc2 ps (fun _=>zpq ps p (k+1)) row:=h.congr fun i r hr=>by
 unfold zqG zpq;rw [zpH hk,Bool.or_assoc];congr 1;congr 1;by_cases e:i<m
 ·
  simp [e]
 ·
  have:onF ps y r.id=false:=by
   cases ho:onF ps y r.id with
   | false=>rfl
   | true=>
    have h1:=(hL.on_lt ho).1;have:=hL.lt_at hr hq kB;omega
  rw [this,Bool.and_false]
theorem zp7 (hL:Lst ps)(hp:p∈ps)(h:zc2 ps (fun _=>zpq ps p p.needs.length) row):row=zjU ps p:=by
 refine (h.congr (g:=fun _ q=>onF ps p.id q.id) fun i q hq=>?_).eq;unfold zpq;rw [List.take_of_length_le (Nat.le_refl _),hL.on hp]
def zaW (I:Qv)(ps:List Pt)(n:Nat)(hs:List Hd)(i:Nat):Prop:=hs.length=i∧∀ (k:Nat) (h:Hd) (p:Pt),hs[k]? =some h→ps[k]? =some p→h.n=n∧Sl I 1 zso h.a h.n h.c (zjU ps p)
variable{I':Qv}{hs:List Hd}
theorem zaW.mono (h:zaW I ps n hs i)(hI:HLe I I'):zaW I' ps n hs i:=⟨h.1,fun k x p a b=>⟨(h.2 k x p a b).1,(h.2 k x p a b).2.mono hI⟩⟩
theorem zaW.nil :zaW I ps n [] 0:=⟨rfl,fun k h p hk _=>by simp at hk⟩
variable{a:Option Addr}
theorem zaW.snoc (h:zaW I ps n hs i)(hp:ps[i]? =some p)(hr:Sl I 1 zso a n c (zjU ps p)):zaW I ps n (hs++[⟨a,n,c⟩]) (i+1):=⟨by rw [List.length_append,h.1];rfl,fun k x q hx hq=>by
 by_cases e:k<hs.length
 ·
  rw [List.getElem?_append_left e] at hx;exact h.2 k x q hx hq
 ·
  have hk:=(List.getElem?_eq_some_iff.1 hx).1;rw [List.length_append,List.length_singleton] at hk;have:k=hs.length:=kB;subst this;rw [List.getElem?_append_right (Nat.le_refl _),Nat.sub_self] at hx;simp at hx;subst hx;rw [h.1] at hq;rw [hp] at hq;cases hq
  exact ⟨rfl,hr⟩⟩
theorem zaW.slm (h:zaW I ps n hs n)(hn:ps.length=n)(hS:Sl I 1 zmf av n c hs):SlM zso 1 I av n c (ps.map (zjU ps)):=
 ⟨hs,hS,by rw [hS.len,List.length_map,hn],fun k x r hx hr=>by
  rw [List.getElem?_map,Option.map_eq_some_iff] at hr;obtain ⟨p,hp,rfl⟩:=hr
  exact (h.2 k x p hx hp).2⟩
/-! ### Lists of IDs as rows -/
def zCo (ps:List Pt)(n:Nat):Value→Qv→Go.Kn.Loc→Prop:=fun v I' L=>L=[]∧∃ av c,v= .slice av n c∧SlM zso 1 I' av n c (ps.map (zjU ps))
theorem zBb (p:Pt)(hN:Nd I p)(hpn:p.n≤100000):ZF Tryz.prog 191 [Ko p] I (.bool (zp3 p)):=by
 intro g H w hw;refine qe Tryz.func191 Tryz.ntmps191 hw ?_;have hN:Sl I 1 ZX p.a p.n p.c p.needs:=hN;refine zR<|QQ rfl rfl rfl (fun b_1=>zA (zN (Qm (zR<|zF ZR ?_))))
 refine zL Qn<|zC<|zM ?_
 refine QK 3 rfl rfl rfl ?_;refine zJ (Qa rfl ZR)<|zJ (Qd rfl Qn (fun hg=>by exact Qz.h0 rfl))<|zJ (QE rfl rfl rfl)<|Zf rfl rfl rfl rfl rfl ?_
 refine zM ?_;refine QK 8 rfl rfl rfl ?_;refine zJ (Qa rfl Ym)<|zJ (Qd rfl Qn (fun hg=>by exact Qz.h0 rfl))<|zJ (QE rfl rfl rfl)<|Zf rfl rfl rfl rfl rfl ?_
 refine zM ?_;refine QK 13 rfl rfl rfl ?_;refine zJ (Qa rfl Ym)<|zJ (Qd rfl Qn (fun hg=>by exact Qz.h0 rfl))<|zJ (QE rfl rfl rfl)<|Zf rfl rfl rfl rfl rfl<|zN ?_
 refine zI ?_ ?_<;>intro hc21
 ·
  have hi:idB p=false:=(by have h:=hc21;rw [zsh] at h;simpa using h);exact zR (zA (zN (Qs (Qf<|zr rfl rfl (by rw [zyq hi])))))
 have hi:idB p=true:=(by have h:=hc21;rw [zsh] at h;simpa using h);refine Qp (Qc (Qm (zR (zA (zN (Qr<|zU [(1,_)] (fun T L0 mz E I' loc'=>∃ (k:Nat),mz=p.n-k∧E=(3,.int .i64 k)::T∧I=I'∧L0=loc'∧k≤p.n∧(List.range k).all (ndP p.id p.needs)=true) ?_ (h:=⟨0,rfl,rfl,rfl,rfl,Nat.zero_le _,rfl⟩)))))));rintro mz E I' loc' ⟨k,rfl,rfl,rfl,rfl,hk,hall⟩;refine Qm (zR (zM<|zF ZL ?_));refine zL YW<|zQ Q4<|zC (zN ?_)
 refine zI ?_ ?_<;>intro hc26
 ·
  have hlt_k:k<p.n:=(by have h:=hc26;simp at h;omega);obtain ⟨x,hx⟩:=hN.at hlt_k;refine Qp (Qc (Qm (Qr (Qm<|Kq mixed kA<|zq (Qa rfl ZL) ?_))));refine zq (Qd rfl YW (fun hg=>by exact Qz.h0 rfl))<|zq (Qe rfl)<|zq (QC rfl rfl Q4 kH (fun hg=>kB))<|zq (Qd rfl Qn (fun hg=>by exact zCt hN hx rfl))<|zq (QE rfl rfl rfl)<|zq (Qe rfl)<|Vx 6 rfl rfl rfl<|zj (Qa rfl ZL)<|zj (Qd rfl YW (fun hg=>by exact Qz.h0 rfl))<|zj (Qe rfl)<|zj (QC rfl rfl Q4 kH (fun hg=>kB))<|zj (Qd rfl Qn (fun hg=>by exact zCt hN hx rfl)) ?_
  refine zj (Qa rfl ZR)<|zj (Qd rfl Qn (fun hg=>by exact Qz.h0 rfl))<|zj (QE rfl rfl rfl)<|KY rfl rfl rfl rfl rfl<|zq (Qe rfl)<|Vx 16 rfl rfl rfl<|zj (Qe rfl)<|zj (QE rfl rfl rfl)<|zj (Qe rfl)<|Vw 19 rfl rfl rfl<|zk (Qa rfl ZL)<|zk (Qd rfl YW (fun hg=>by exact Qz.h0 rfl)) ?_
  refine zk (Qe rfl)<|zk (QC rfl rfl Q4 kH (fun hg=>kB))<|zk (Qd rfl Qn (fun hg=>by exact zCt hN hx rfl))<|zk (Qa rfl ZL)<|zk (Qd rfl YW (fun hg=>by exact Qz.h0 rfl))<|zk (Qe rfl)<|zk (Yr rfl rfl rfl (fun hg=>kB))<|zk (QC rfl rfl Q4 kH (fun hg=>by (simp [Z6] at hg;omega)))<|zk (Qd rfl Qn (fun hg=>by exact zCt (k:=((k:Int)-1).toNat) hN (KR (d:=0) hN.len (by simp [Z6] at hg;omega)) rfl))<|zk (QE rfl rfl rfl)<|zcr rfl rfl rfl (.some rfl rfl rfl rfl gbf) rfl rfl<|KY rfl rfl rfl rfl rfl ?_
  refine Kt<|Qc ?_
  refine zI ?_ ?_<;>intro hc62
  ·
   have hnd:ndB p.id p.needs=false:=(by unfold ndB;exact VY (k:=k) (by rw [hN.len];exact hlt_k) (by rw [zsj hx,hc62];rfl));exact zR (zA (zN (Qs (Qj (Qf (Qf (Qj<|Qf<|zr rfl rfl (by rw [zw8 hnd]))))))))
  refine Qp (Qi (Qc (Qh (zM ?_))));refine zB<|zA (Qb ?_)
  exact zm (h:=⟨p.n-(k+1),kB,k+1,rfl,rfl,rfl,rfl,kB,VH hall (by rw [zsj hx,hc62];rfl)⟩)
 have hge_k:p.n≤k:=(by have h:=hc26;simp at h;omega);have hnd:ndB p.id p.needs=true:=(by unfold ndB;rw [hN.len,show p.n=k by omega];exact hall);refine Q6 (Ql (Ql (Qq (Qc (Qm (zR<|zF V2 ?_))))));refine zL Qn<|zN (Qr (zR (zC<|zA (zN ?_))))
 refine zI ?_ ?_<;>intro hc65
 ·
  have hk:p.kind=1:=(by simpa using hc65);refine Qm (zR<|zF Yz ?_);refine zL Qn<|zC<|zM ?_
  refine QK 3 rfl rfl rfl ?_;refine zJ (Qa rfl Yz)<|zJ (Qd rfl Qn (fun hg=>by exact Qz.h0 rfl))<|zJ (QE rfl rfl rfl)<|Zf rfl rfl rfl rfl rfl<|zN ?_
  refine zI ?_ ?_<;>intro hc74
  ·
   exact zR (zA (zN (Qs (Qf (Qj (Qf<|zr rfl rfl (by rw [znW hi hnd,zAN hk hc74])))))))
  refine Qp (Qc (Qm<|Kq mixed kA<|zq (QF (ps:=[]) [_,_,_,_,_,_,_,_,_,_,_,_,_,_] XZ rfl rfl)<|zq (Qa rfl Yz) ?_));refine zq (Qd rfl Qn (fun hg=>by exact Qz.h0 rfl))<|zq (Qa rfl YL)<|zq (Qg rfl ZJ (fun hg=>by exact Cells.s0 (vs:=[_,_,_,_,_,_,_,_,_,_,_,_,_,_]) rfl) rfl)<|Wh (cap:=[]) (vs:=[_,_,_]) rfl rfl zn6 (zxX I JZ p.field p.nw) rfl rfl<|zq (Qa rfl YL)<|zq (Qg rfl ZJ (fun hg=>by exact Cells.s0 (vs:=[_,_,_,_,_,_,_,_,_,_,_,_,_,_]) rfl) rfl)<|zq (U4 rfl rfl W7 rfl)<|zq (Qe rfl)<|Vw 9 rfl rfl rfl<|Jn (cap:=[]) (vs:=[]) rfl rfl zwx (fun hg=>zs2 I) (.some rfl rfl rfl rfl gbt) rfl rfl<|zk (Qa rfl Yz)<|zk (Qd rfl Qn (fun hg=>by exact Qz.h0 rfl)) ?_
  refine zk (Qa rfl YL)<|zk (Qg rfl ZJ (fun hg=>by exact Cells.s0 (vs:=[_,_,_,_,_,_,_,_,_,_,_,_,_,_]) rfl) rfl)<|Jn (cap:=[]) (vs:=[_,_,_]) rfl rfl zn6 (fun hg=>zxX I zff p.field p.nw) (.some rfl rfl rfl rfl gbt) rfl rfl<|Jn (cap:=[]) (vs:=[_]) rfl rfl zoz (fun hg=>zrH I _) (.some rfl rfl rfl rfl gbt) rfl rfl<|UA rfl rfl rfl rfl rfl<|zq (Qy rfl)<|Kt<|Qc (Qs (Qj (Qf ?_)))
  first
  | exact zr rfl rfl (by rw [znW hi hnd,←zux hk hc74];rfl)
 have hk1:p.kind≠1:=(by simpa using hc65);refine zR (zC<|zA (zN ?_));refine zI ?_ ?_<;>intro hc93
 ·
  have hk:p.kind=2:=(by simpa using hc93);refine zR<|zF Yz ?_
  refine zL Qn<|zC<|zM<|Qu 3 rfl rfl rfl ?_
  refine zK (Qa rfl YL)<|zK (Qa rfl JS) ?_
  refine zK (Qd rfl Qn (fun hg=>by exact Qz.h0 rfl))<|zK (Qa rfl Ym) ?_
  refine zK (Qd rfl Qn (fun hg=>by exact Qz.h0 rfl))<|zK (QE rfl rfl rfl) ?_
  refine QD rfl rfl rfl rfl rfl ?_;refine zM<|Qu 11 rfl rfl rfl ?_
  refine zK (Qa rfl YL)<|zK (Qg rfl ZJ (fun hg=>by exact Cells.s0 (vs:=[_,_,_,_,_,_,_,_,_,_,_,_,_,_]) rfl) rfl)<|qg (vs:=[_]) rfl zoz (fun hg=>zrH I _)<|QD rfl rfl rfl rfl rfl<|zA (zN (Qs (Qj (Qf ?_))))
  exact zr rfl rfl (by rw [znW hi hnd,zv0 hk,←Bool.and_assoc])
 have hk2:p.kind≠2:=(by simpa using hc93);refine zR (zC<|zA (zN ?_));refine zI ?_ ?_<;>intro hc111
 ·
  have hk:p.kind=3:=(by simpa using hc111);refine zR<|zF Yz ?_
  refine zL Qn<|zC<|zM<|Qu 3 rfl rfl rfl ?_
  refine zK (Qa rfl YL)<|zK (Qg rfl ZJ (fun hg=>by exact Cells.s0 (vs:=[_,_,_,_,_,_,_,_,_,_,_,_,_,_]) rfl) rfl)<|zK (QF (ps:=[]) [_,_,_,_,_,_,_,_,_,_,_,_,_,_] XZ rfl rfl)<|zK (U4 rfl rfl W7 rfl)<|QD rfl rfl rfl rfl rfl<|zA (zN (Qs (Qj (Qf ?_))))
  first
  | exact zr rfl rfl (by rw [znW hi hnd,zud hk];rfl)
 have hk3:p.kind≠3:=(by simpa using hc111);refine Qp (Qi (Qc (zR (zA (zN (Qs ?_))))))
 first
 | exact zr rfl rfl (by rw [znW hi hnd];unfold U0;rw [if_neg hk1,if_neg hk2,if_neg hk3])
theorem zsT (p:Pt)(hN:Nd I p):ZF Tryz.prog 145 [Ko p] I (.int .i64 (KJ p)):=by
 intro g H w hw;refine qe Tryz.func145 Tryz.ntmps145 hw ?_;refine zR<|QQ rfl rfl rfl (fun b_1=>zA (zN (Qm (zR<|zF ZL ?_))))
 refine zL YW<|zQ Q4<|zC (zN ?_)
 refine zI ?_ ?_<;>intro hc7
 ·
  have hlen:p.needs.length>32:=(by rw [(show Sl _ 1 ZX p.a p.n p.c p.needs from hN).len];simp at hc7;omega);exact zR (zA (zN (Qs (Qf<|zr rfl rfl (by rw [zrJ hlen])))))
 have hlen:¬p.needs.length>32:=(by rw [(show Sl _ 1 ZX p.a p.n p.c p.needs from hN).len];simp at hc7;omega);refine Qp (Qc (zR<|zV (Qg rfl Y6 (fun hg=>by exact Cells.g0) rfl)<|qcV (vs:=[_]) rfl zwi (zBb p hN (by have:=(show Sl _ 1 ZX p.a p.n p.c p.needs from hN).len;omega))<|zA (zN (Qm (zR<|zM<|zO (zN ?_))))));refine zI ?_ ?_<;>intro hc11
 ·
  exact zR (zA (zN (Qs (Qf<|zr rfl rfl (by rw [←zmU hlen,if_neg (by simpa using hc11)])))))
 exact Qp (Qc (zR (zA (zN (Qs<|zr rfl rfl (by rw [←zmU hlen,if_pos (by simpa using hc11)]))))))
theorem zrM (hP:SlP I av n c ps)(hn:n≤100000)(t:Int):ZF Tryz.prog 192 [.slice av n c,.int .i64 t] I (.int .i64 (zst ps t)):=by
 intro g H w hw;refine qe Tryz.func192 Tryz.ntmps192 hw ?_;refine zR (zA (zN (Qm (zR<|zA (zN (Qr<|zU [(0,_),(1,_)] (fun T L0 mz E I' loc'=>∃ (k:Nat),mz=n-k∧E=(5,.int .i64 k)::T∧I=I'∧L0=loc'∧k≤n∧(ps.take k).any (idP t)=false) ?_ (h:=⟨0,rfl,rfl,rfl,rfl,Nat.zero_le _,by simp⟩)))))));rintro mz E I' loc' ⟨k,rfl,rfl,rfl,rfl,hk,hno⟩;refine Qm (zR (zM<|zM ?_));refine zQ Yk<|zC (zN ?_)
 refine zI ?_ ?_<;>intro hc9
 ·
  have hlt_k:k<n:=(by have h:=hc9;simp at h;omega);have hP1:=hP.1;obtain ⟨p,hp⟩:=hP1.at hlt_k;refine Qp (Qc (Qm (Qr (zR (zM ?_)))));refine zM ?_;refine zV (QC rfl rfl Yk kH (fun hg=>kB))<|zF ZR ?_
  refine zV (Qd rfl Qn (fun hg=>by exact zCC hP1 hp rfl))<|zM<|zC (zN ?_)
  refine zI ?_ ?_<;>intro hc18
  ·
   refine zR (zM<|zA (zN (Qs (Qj (Qf (Qf (Qj (Qf ?_))))))))
   first
   | exact zr rfl rfl (by unfold zst;rw [zcE hno hp hc18])
  refine Qp (Qi (Qc (Qh (zM ?_))));exact zB<|zA (Qb<|zm (h:=⟨n-(k+1),kB,k+1,rfl,rfl,rfl,rfl,kB,zav hp hno hc18⟩))
 have hge_k:n≤k:=(by have h:=hc9;simp at h;omega);refine Q6 (Ql (Ql (Qq (Qc (zR (zA (zN<|Qs ?_)))))))
 first
 | exact zr rfl rfl (by unfold zst;rw [zbb hP.len hge_k hno])
theorem zBi (I:Qv)(p q:Pt)(on:Bool):ZF Tryz.prog 148 [Ko p,Ko q,.bool on] I (.bool (zeU p q on)):=by
 intro g H w hw;refine qe Tryz.func148 Tryz.ntmps148 hw ?_;refine zR<|QQ rfl rfl rfl (fun b_3=>QQ rfl rfl rfl (fun b_4=>zA (zN (Qm (zR<|zF Ym ?_)))))
 refine zL Qn<|zF Ym ?_
 refine zL Qn<|zC (zN ?_)
 refine zI ?_ ?_<;>intro hc11
 ·
  have h1:p.sign≠q.sign:=(by simpa using hc11);refine zR (zA (zN (Qs (Qf ?_))))
  first
  | exact zr rfl rfl (by unfold zeU;rw [if_pos h1])
 have h1:¬p.sign≠q.sign:=(by simpa using hc11);refine Qp (Qc (Qm (zR<|zF V2 ?_)));refine zL Qn<|zN (Qr (zR (zC<|zA (zN ?_))))
 refine zI ?_ ?_<;>intro hc14
 ·
  have h2:q.kind=2:=(by simpa using hc14);refine zR<|zF V2 ?_
  refine zL Qn<|zC<|zM<|Qu 3 rfl rfl rfl ?_
  refine zK (Qe rfl)<|QD rfl rfl rfl rfl rfl<|zA (zN (Qs (Qj (Qf ?_))))
  first
  | exact zr rfl rfl (by unfold zeU;rw [if_neg h1,if_pos h2])
 have h2:¬q.kind=2:=(by simpa using hc14);refine zR (zC<|zA (zN ?_));refine zI ?_ ?_<;>intro hc22
 ·
  have h3:q.kind=3:=(by simpa using hc22);refine zR (zM<|zO<|zA (zN (Qs (Qj (Qf ?_)))))
  first
  | exact zr rfl rfl (by unfold zeU;rw [if_neg h1,if_neg h2,if_pos h3])
 have h3:¬q.kind=3:=(by simpa using hc22);refine Qp (Qi (Qc (zR (zA (zN (Qs ?_))))))
 first
 | exact zr rfl rfl (by unfold zeU;rw [if_neg h1,if_neg h2,if_neg h3])
theorem zAe (hP:SlP I av n c ps)(hn:n≤100000)(hnd:∀ p∈ps,p.n≤100000):ZF Tryz.prog 146 [.slice av n c] I (.bool (lsB ps)):=by
 intro g H w hw;refine qe Tryz.func146 Tryz.ntmps146 hw ?_;refine zR (zA (zN (Qm (zR<|zA (zN (Qr<|zU [(0,_)] (fun T L0 mz E I' loc'=>∃ (k:Nat),mz=n-k∧E=(3,.int .i64 k)::T∧I=I'∧L0=loc'∧k≤n∧(List.range k).all (lsP ps)=true) ?_ (h:=⟨0,rfl,rfl,rfl,rfl,Nat.zero_le _,rfl⟩)))))));rintro mz E I' loc' ⟨k,rfl,rfl,rfl,rfl,hk,hall⟩;refine Qm (zR (zM<|zM ?_));refine zQ Yk<|zC (zN ?_)
 refine zI ?_ ?_<;>intro hc8
 ·
  have hlt_k:k<n:=(by have h:=hc8;simp at h;omega);have hP1:=hP.1;obtain ⟨p,hp,hN⟩:=hP.at hlt_k;have hpm:=List.mem_of_getElem? hp;have hN:Sl I 1 ZX p.a p.n p.c p.needs:=hN;have hpn:=hnd p hpm;refine Qp (Qc (Qm (Qr (Qm (Qm<|Kq mixed kA<|zq (Qe rfl)<|zq (QE rfl rfl rfl)<|zq (Qe rfl)<|Vw 2 rfl rfl rfl<|zk (Qe rfl)<|zk (Qe rfl)<|zk (QC rfl rfl Yk kH (fun hg=>kB))<|zk (Qa rfl ZR)<|zk (Qd rfl Qn (fun hg=>by exact zCC hP1 hp rfl))<|zk (Qe rfl) ?_)))));refine zk (Qe rfl)<|zk (Yr rfl rfl rfl (fun hg=>kB))<|zk (QC rfl rfl Yk kH (fun hg=>by (simp [Z6] at hg;omega)))<|zk (Qa rfl ZR)<|zk (Qd rfl Qn (fun hg=>by exact zCC (k:=((k:Int)-1).toNat) hP1 (KR (d:=Jq) hP.len (by simp [Z6] at hg;omega)) rfl))<|zk (QE rfl rfl rfl)<|UA rfl rfl rfl rfl rfl<|Kt<|Qc ?_
  refine zI ?_ ?_<;>intro hc26
  ·
   refine zR (zA (zN (Qs (Qf (Qj (Qf (Qf<|Qj (Qf ?_))))))))
   first
   | exact zr rfl rfl (by unfold lsB;rw [VY (k:=k) (by rw [hP.len];exact hlt_k) (by rw [znm hp];exact zAS hc26)])
  refine Qp (Qc (zR (zA (zN (Qr<|zU [(0,_),(3,_)] (fun T L0 mz E I' loc'=>∃ (j:Nat),mz=p.n-j∧E=(4,.int .i64 j)::T∧I=I'∧L0=loc'∧j≤p.n∧(p.needs.take j).any (fun n=> !zg0 ps n)=false) ?_ (h:=⟨0,rfl,rfl,rfl,rfl,Nat.zero_le _,by simp⟩))))));rintro mz E I' loc' ⟨j,rfl,rfl,rfl,rfl,hj,hno⟩;refine Qm (zR (zM<|zM ?_));refine zM ?_;refine zV (QC rfl rfl Yk kH (fun hg=>kB))<|zF ZL ?_
  refine zV (Qd rfl YW (fun hg=>by exact zCC hP1 hp rfl))<|zQ Q4<|zC (zN ?_)
  refine zI ?_ ?_<;>intro hc34
  ·
   have hlt_j:j<p.n:=(by have h:=hc34;simp at h;omega);obtain ⟨y,hy⟩:=hN.at hlt_j;refine Qp (Qc (Qm (Qr (zR (zM ?_)))));refine zM ?_;refine zM ?_;refine zV (QC rfl rfl Yk kH (fun hg=>kB))<|zF ZL ?_
   refine zV (Qd rfl YW (fun hg=>by exact zCC hP1 hp rfl))<|zM ?_
   refine zV (QC rfl rfl Q4 kH (fun hg=>kB))<|zV (Qd rfl Qn (fun hg=>by exact zCt hN hy rfl))<|qcV (vs:=[_,_]) rfl zlN (zrM hP hn _)<|zC (zN ?_)
   refine zI ?_ ?_<;>intro hc47
   ·
    refine zR (zA (zN (Qs (Qj (Qf (Qf (Qj<|Qj (Qf (Qf (Qj (Qf ?_)))))))))))
    first
    | exact zr rfl rfl (by unfold lsB;rw [VY (k:=k) (by rw [hP.len];exact hlt_k) (by rw [znm hp];exact zAO (zhp hy (by rw [zsB] at hc47;exact hc47)))])
   refine Qp (Qi (Qc (Qh (zM ?_))));refine zB<|zA (Qb ?_)
   exact zm (h:=⟨p.n-(j+1),kB,j+1,rfl,rfl,rfl,rfl,kB,zav hy hno (by rw [zsB] at hc47;exact hc47)⟩)
  have hge_j:p.n≤j:=(by have h:=hc34;simp at h;omega);rw [ZB hN.len hge_j] at hno;refine Q6 (Ql (Ql (Qq (Qi (Qc (Qh (zM ?_)))))));refine zB<|zA (Qb ?_)
  exact zm (h:=⟨n-(k+1),kB,k+1,rfl,rfl,rfl,rfl,kB,VH hall (by rw [znm hp];exact zw2 hc26 hno)⟩)
 have hge_k:n≤k:=(by have h:=hc8;simp at h;omega);refine Q6 (Ql (Ql (Qq (Qc (zR (zA (zN<|Qs ?_)))))))
 first
 | exact zr rfl rfl (by unfold lsB;rw [hP.len,show n=k by omega,hall])
theorem ztZ:Fun Tryz.prog 155:=.of Tryz.func155 kA kA
theorem zbF:Fun Tryz.prog 156:=.of Tryz.func156 kA kA
theorem zs3:Fun Tryz.prog 157:=.of Tryz.func157 kA kA
theorem zk2:Fun Tryz.prog 75:=.of Tryz.func75 kA kA
theorem zlM:Fun Tryz.prog 76:=.of Tryz.func76 kA kA
theorem zk3:Fun Tryz.prog 78:=.of Tryz.func78 kA kA
theorem zsl:PlT Tryz.prog 39 #[(0,1),(1,1),(2,1),(3,1),(4,14),(18,1)] (.agg #[(.int .i64 0),(.int .i64 0),(.int .i64 0),(.int .i64 0),(.int .i64 0),(.int .i64 0),(.int .i64 0),(.int .i64 0),(.int .i64 0),(.int .i64 0),(.int .i64 0),(.int .i64 0),(.int .i64 0),(.int .i64 0),(.int .i64 0),(.int .i64 0),(.int .i64 0),(.int .i64 0),(.slice none 0 0)]):=⟨.of kA,kA,fun w=>kA⟩
theorem zyl (hP:Nd I p)(hQ:Nd I q)(hn:q.n≤100000):ZF Tryz.prog 85 [Ko p,Ko q] I (.bool (smP p q)):=by
 intro g H w hw;refine qe Tryz.func85 Tryz.ntmps85 hw ?_;have hIc:=zCA I;have hl1:p.needs.length=p.n:=hP.len;have hl2:q.needs.length=q.n:=hQ.len;refine zR<|QQ rfl rfl rfl (fun b_2=>QQ rfl rfl rfl (fun b_3=>zA (Qb<|QH .here (fun I1 hI1 hb1=>?_))))
 have hP:=hP.mono hI1;have hQ:=hQ.mono hI1;have hIc:=hIc.trans hI1;have h3:=BxI.of hb1;refine QH .here (fun I2 hI2 hb2=>?_);have hP:=hP.mono hI2;have hQ:=hQ.mono hI2;have h3:=h3.mono hI2;have hIc:=hIc.trans hI2;have h2:=BxI.of hb2;refine Qc (Qm (zR<|zF ZR ?_));refine zV (Qd rfl Qn (fun hg=>by exact Qz.imm h2.out rfl))<|zF ZR ?_
 refine zV (Qd rfl Qn (fun hg=>by exact Qz.imm h3.out rfl))<|zC<|zM ?_
 refine QK 5 rfl rfl rfl ?_;refine zJ (Qa rfl V2)<|zJ (Qd rfl Qn (fun hg=>by exact Qz.imm h2.out rfl))<|zJ (Qa rfl V2)<|zJ (Qd rfl Qn (fun hg=>by exact Qz.imm h3.out rfl))<|zJ (QE rfl rfl rfl)<|Zf rfl rfl rfl rfl rfl ?_
 refine zM ?_;refine QK 12 rfl rfl rfl ?_;refine zJ (Qa rfl Ym)<|zJ (Qd rfl Qn (fun hg=>by exact Qz.imm h2.out rfl))<|zJ (Qa rfl Ym)<|zJ (Qd rfl Qn (fun hg=>by exact Qz.imm h3.out rfl))<|zJ (QE rfl rfl rfl)<|Zf rfl rfl rfl rfl rfl ?_
 refine zM ?_;refine QK 19 rfl rfl rfl ?_;refine zJ (Qa rfl Yz)<|zJ (Qd rfl Qn (fun hg=>by exact Qz.imm h2.out rfl))<|zJ (Qa rfl Yz)<|zJ (Qd rfl Qn (fun hg=>by exact Qz.imm h3.out rfl))<|zJ (QE rfl rfl rfl)<|Zf rfl rfl rfl rfl rfl ?_
 refine zM ?_;refine QK 26 rfl rfl rfl ?_;refine zJ (Qa rfl YL)<|zJ (Qg rfl ZJ (fun hg=>by exact zkb (BxI.cells (vs:=K2 p) h2)) rfl)<|zJ (Qa rfl YL)<|zJ (Qg rfl ZJ (fun hg=>by exact zkb (BxI.cells (vs:=K2 q) h3)) rfl)<|zJ (zhk rfl rfl W7 rfl)<|Zf rfl rfl rfl rfl rfl ?_
 refine zM ?_;refine QK 33 rfl rfl rfl ?_;refine zJ (Qa rfl ZL)<|zJ (Qd rfl YW (fun hg=>by exact Qz.imm h2.out rfl))<|zJ (QV rfl Q4)<|zJ (Qa rfl ZL)<|zJ (Qd rfl YW (fun hg=>by exact Qz.imm h3.out rfl))<|zJ (QV rfl Q4)<|zJ (QE rfl rfl rfl)<|Zf rfl rfl rfl rfl rfl<|zN ?_
 refine zI ?_ ?_<;>intro hc47
 ·
  have hcc:smC p q=true:=hc47;exact zR (zA (zN (Qs (Qf<|QA rfl rfl (fun w hw=>⟨by rw [zzR hcc],(hw.mono hIc).subL Qx⟩)))))
 have hcc:smC p q=false:=hc47;have hnn:=zzV hcc;refine Qp (Qc (Qm (zR (zA (zN (Qr<|zU [(2,_),(3,_)] (fun T L0 mz E I' loc'=>∃ (k:Nat),mz=p.n-k∧E=(5,.int .i64 k)::T∧I2=I'∧L0=loc'∧k≤p.n∧p.needs.take k=q.needs.take k) ?_ (h:=⟨0,rfl,rfl,rfl,rfl,Nat.zero_le _,rfl⟩)))))));rintro mz E I' loc' ⟨k,rfl,rfl,rfl,rfl,hk,htk⟩;refine Qm (zR (zM<|zF ZL ?_));refine zV (Qd rfl YW (fun hg=>by exact Qz.imm h2.out rfl))<|zQ Q4<|zC (zN ?_)
 refine zI ?_ ?_<;>intro hc52
 ·
  have hlt_k:k<p.n:=(by have h:=hc52;simp at h;omega);obtain ⟨x,hx⟩:∃ y,p.needs[k]? =some y:=⟨_,List.getElem?_eq_getElem kB⟩;obtain ⟨y,hy⟩:∃ y,q.needs[k]? =some y:=⟨_,List.getElem?_eq_getElem kB⟩;refine Qp (Qc (Qm (Qr (Qm ?_))));have hD:=zCA I2;refine Zm<|QI I2 [] mixed<|zT 0 rfl (Qa rfl ZL) hD<|zT 1 rfl (Qd rfl YW (fun hg=>by exact Qz.imm h2.out rfl)) hD<|zT 2 rfl (Qe rfl) hD<|zT 3 rfl (zX Q4 hP) hD<|zT 4 rfl (Qd rfl Qn (fun hg=>by exact zCt hP hx rfl)) hD<|zT 5 rfl (Qa rfl ZL) hD<|zT 6 rfl (Qd rfl YW (fun hg=>by exact Qz.imm h3.out rfl)) hD<|zT 7 rfl (Qe rfl) hD<|zT 8 rfl (zX Q4 hQ) hD<|zT 9 rfl (Qd rfl Qn (fun hg=>by exact zCt hQ hy rfl)) hD ?_
  refine zT 10 rfl (QE rfl rfl rfl) hD<|Qo kA<|Qw<|Qc ?_
  refine zI ?_ ?_<;>intro hc65
  ·
   have hxy:x≠y:=(by simpa using hc65);exact zR (zA (zN (Qs (Qj (Qf (Qf (Qj<|Qf<|QA rfl rfl (fun w hw=>⟨by rw [zqx hcc,decide_eq_false (zzg hx hy hxy)],(hw.mono hIc).subL Qx⟩))))))))
  have hxy:x=y:=(by simpa using hc65);refine Qp (Qi (Qc (Qh (zM ?_))));exact zB<|zA (Qb<|zm (h:=⟨p.n-(k+1),kB,k+1,rfl,rfl,rfl,rfl,kB,zaA htk hx hy hxy⟩))
 have hge_k:p.n≤k:=(by have h:=hc52;simp at h;omega);rw [ZB hl1 hge_k,ZB hl2 kB] at htk;refine Q6 (Ql (Ql (Qq (Qc (zR (zA (zN<|Qs ?_)))))));exact QA rfl rfl (fun w hw=>⟨by rw [zqx hcc,htk];simp,(hw.mono hIc).subL Qx⟩)
theorem zcw {x:Nt}(hN:Nd I x.pt):ZF Tryz.prog 156 [Ko x.pt] I (.bool (z2 x)):=by
 intro g H w hw;refine qe Tryz.func156 Tryz.ntmps156 hw ?_;have hIc:=zCA I;refine zR<|QQ rfl rfl rfl (fun b_1=>zA (Qb<|QH .here (fun I1 hI1 hb1=>?_)))
 have hN:=hN.mono hI1;have hIc:=hIc.trans hI1;have h1:=BxI.of hb1;refine Qc (zR<|zV (Qg rfl Y6 (fun hg=>by exact BxI.cells (vs:=K2 x.pt) h1) rfl)<|zV (QF (ps:=[]) [_,_,_,_,_,_,_,_,_,_,_,_,_,_,_,_,_,_,_] zsl rfl rfl)<|qcV (vs:=[_,_]) rfl zlz (zyl (q:=Jq) hN (show Nd _ Jq from Sl.nil) kD)<|zA (zN (Qs ?_)));exact QA rfl rfl (fun w hw=>⟨by rw [zAu hN],(hw.mono hIc).subL Qx⟩)
theorem zrz (x:Lm)(hw8: -9223372036854775808≤x.ends∧x.ends≤9223372036854775807):ZF Tryz.prog 155 [Jz x] I (.bool (za0 (lmC x)==0)):=by
 intro g H w hw;refine qe Tryz.func155 Tryz.ntmps155 hw ?_;have hIc:=zCA I;refine zR<|QQ rfl rfl rfl (fun b_1=>zA (Qb<|QH .here (fun I1 hI1 hb1=>?_)))
 have hIc:=hIc.trans hI1;have h1:=BxI.of hb1;refine Qc (zR<|zV (Qg rfl Jr (fun hg=>by exact BxI.cells (vs:=Zi x) h1) rfl)<|zpb [(0,_)] [Zi x] VQ (fun b_6=>QU (by repeat (first | exact Z3.here | apply Z3.there)) (fun I2 hI2 hb2=>?_)));have h1:=h1.mono hI2;have hIc:=hIc.trans hI2;have hF:=Sl.lit [x] rfl YI (show I2 b_6=some (Obj.cells ([x].flatMap Zi).toArray 32 (0,0)) from hb2);refine zA (zN (Qm (zR<|zF YY ?_)));refine zV (Qd rfl Qn (fun hg=>by exact Qz.imm h1.out rfl))<|zC (zN ?_)
 refine zI ?_ ?_<;>intro hc9
 ·
  have hlC:=zBl (x:=x) (by simpa using hc9);refine Qh<|zF YY ?_
  refine zV (Qd rfl Qn (fun hg=>by exact Qz.imm h1.out rfl))<|zV (UU rfl rfl rfl)<|zF Js ?_
  refine zV (Qd rfl Qn (fun hg=>by exact Qz.imm h1.out rfl))<|zV (QF (ps:=[(0,_),(2,_)]) [_,_,_] zbV rfl rfl) ?_
  refine zV (QF (ps:=[(0,_),(1,_),(6,_)]) [_,_,_,_,_,_,_,_,_] zdv rfl rfl)<|zV (Qg rfl Jr (fun hg=>by exact BxI.cells (vs:=Zi x) h1) rfl)<|zpb [(0,_),(1,_)] [Zi (⟨IntKind.i64.wrap (x.ends-1),x.person,0,0,0,0,3,0,1⟩),Zi x] VQ (fun b_18=>QU (by repeat (first | exact Z3.here | apply Z3.there)) (fun I3 hI3 hb3=>?_))
  have hF:=hF.mono hI3;have hIc:=hIc.trans hI3;have hF:=Sl.lit ([⟨IntKind.i64.wrap (x.ends-1),x.person,0,0,0,0,3,0,1⟩,x]:List Lm) rfl YI (show I3 b_18=some (Obj.cells (([⟨IntKind.i64.wrap (x.ends-1),x.person,0,0,0,0,3,0,1⟩,x]:List Lm).flatMap Zi).toArray 32 (0,0)) from hb3);refine zA<|zN (zR ?_)
  refine zM ?_;refine qcV (vs:=[_]) rfl zk2 (zov hF kD (by rw [←hlC];exact zys hw8))<|zA<|zN (zR ?_)
  refine zM<|zC<|zA (zN (Qs ?_))
  exact QA rfl rfl (fun w hw=>⟨by rw [hlC],(hw.mono hIc).subL Qx⟩)
 have hlC:=zBh (x:=x) (by simpa using hc9);refine Qp (Qc (zR (zM ?_)));refine qcV (vs:=[_]) rfl zk2 (zov hF kD (by rw [←hlC];exact zys hw8))<|zA<|zN (zR ?_)
 refine zM<|zC<|zA (zN (Qs ?_))
 exact QA rfl rfl (fun w hw=>⟨by rw [hlC],(hw.mono hIc).subL Qx⟩)
theorem zd8 (x:S.Rt)(hw8:S.okR x):ZF Tryz.prog 157 [S.encA x] I (.bool (S.rCheck (rtC x)==0)):=by
 intro g H w hw;refine qe Tryz.func157 Tryz.ntmps157 hw ?_;have hIc:=zCA I;refine zR<|QQ rfl rfl rfl (fun b_1=>zA (Qb<|QH .here (fun I1 hI1 hb1=>?_)))
 have hIc:=hIc.trans hI1;have h1:=BxI.of hb1;refine Qc (zR<|zV (Qg rfl YE (fun hg=>by exact BxI.cells (vs:=S.encR x) h1) rfl)<|zpb [(0,_)] [S.encR x] VM (fun b_6=>QU (by repeat (first | exact Z3.here | apply Z3.there)) (fun I2 hI2 hb2=>?_)));have h1:=h1.mono hI2;have hIc:=hIc.trans hI2;have hF:=Sl.lit [x] rfl S.encR_len (show I2 b_6=some (Obj.cells ([x].flatMap S.encR).toArray 43 (0,0)) from hb2);refine zA (zN (Qm (zR<|zF Vm ?_)));refine zV (Qd rfl Qn (fun hg=>by exact Qz.imm h1.out rfl))<|zC (zN ?_)
 refine zI ?_ ?_<;>intro hc9
 ·
  have hlC:=zAV (x:=x) (by simpa using hc9);refine Qh<|zF Vm ?_
  refine zV (Qd rfl Qn (fun hg=>by exact Qz.imm h1.out rfl))<|zV (UU rfl rfl rfl)<|zV (QF (ps:=[(0,_),(1,_),(6,_),(7,_)]) [_,_,_,_,_,_,_,_,_,_,_] WM rfl rfl)<|zV (Qg rfl YE (fun hg=>by exact BxI.cells (vs:=S.encR x) h1) rfl)<|zpb [(0,_),(1,_)] [S.encR (⟨IntKind.i64.wrap (x.ends-1),1,0,0,0,0,⟨#[97]⟩,⟨#[97]⟩,0,0,0⟩),S.encR x] VM (fun b_15=>QU (by repeat (first | exact Z3.here | apply Z3.there)) (fun I3 hI3 hb3=>?_))
  have hF:=hF.mono hI3;have hIc:=hIc.trans hI3;have hF:=Sl.lit ([⟨IntKind.i64.wrap (x.ends-1),1,0,0,0,0,⟨#[97]⟩,⟨#[97]⟩,0,0,0⟩,x]:List S.Rt) rfl S.encR_len (show I3 b_15=some (Obj.cells (([⟨IntKind.i64.wrap (x.ends-1),1,0,0,0,0,⟨#[97]⟩,⟨#[97]⟩,0,0,0⟩,x]:List S.Rt).flatMap S.encR).toArray 43 (0,0)) from hb3);refine zA<|zN (zR ?_)
  refine zM ?_;refine qcV (vs:=[_]) rfl zk3 (S.w_rcheck hF kD)<|zA<|zN (zR ?_)
  refine zM<|zC<|zA (zN (Qs ?_))
  exact QA rfl rfl (fun w hw=>⟨by rw [←zlB hw8,hlC],(hw.mono hIc).subL Qx⟩)
 have hlC:=zAY (x:=x) (by simpa using hc9);refine Qp (Qc (zR (zM ?_)));refine qcV (vs:=[_]) rfl zk3 (S.w_rcheck hF kD)<|zA<|zN (zR ?_)
 refine zM<|zC<|zA (zN (Qs ?_))
 exact QA rfl rfl (fun w hw=>⟨by rw [←zlB hw8,hlC],(hw.mono hIc).subL Qx⟩)
theorem Xx (x:Nt)(hN:Nd I x.pt)(hW:NtW x):ZF Tryz.prog 87 [Kj x] I (.bool (QO x)):=by
 intro g H w hw;refine qe Tryz.func87 Tryz.ntmps87 hw ?_;have hIc:=zCA I;refine zR<|QQ rfl rfl rfl (fun b_1=>zA (Qb<|QH .here (fun I1 hI1 hb1=>?_)))
 have hN:=hN.mono hI1;have hIc:=hIc.trans hI1;have h1:=BxI.of hb1;refine Qc (zR<|zF YX ?_);refine zV (Qg rfl Jr (fun hg=>by exact zdW (BxI.cells (vs:=Q7 x) h1)) rfl)<|zV (QF (ps:=[]) [_,_,_,_,_,_,_,_,_] zdv rfl rfl)<|zV (U4 rfl rfl zeA rfl) ?_
 rw [show (x.lm.no==0&&(x.lm.person==0&&(x.lm.ends==0&&(x.lm.lo==0&&(x.lm.hi==0&&(x.lm.known==0&&(x.lm.ck==0&&(x.lm.cl==0&&(x.lm.cn==0&&true)))))))))=z1 x from rfl];refine zA<|zN (zR ?_)
 refine zF Vy ?_;refine zV (Qg rfl Jp (fun hg=>by exact zdJ (BxI.cells (vs:=Q7 x) h1)) rfl)<|zV (QF (ps:=[]) [_,_,_,_,_] ziU rfl rfl)<|zV (U6 rfl rfl zeW rfl)<|zA<|zN (zR ?_)
 refine zF Yj ?_;refine zV (Qg rfl YE (fun hg=>by exact zez (BxI.cells (vs:=Q7 x) h1)) rfl)<|zV (QF (ps:=[]) [_,_,_,_,_,_,_,_,_,_,_] WM rfl rfl)<|zV (U6 rfl rfl XL rfl)<|zA (zN (Qm (zR<|zF YV ?_)))
 refine zV (Qd rfl Qn (fun hg=>by exact Qz.imm h1.out rfl))<|zN (Qr (zR (zC<|zA (zN ?_))))
 refine zI ?_ ?_<;>intro hc20
 ·
  have k1:x.kind=1:=(by simpa using hc20);refine zR<|zF YX ?_
  refine zV (Qg rfl Jr (fun hg=>by exact zdW (BxI.cells (vs:=Q7 x) h1)) rfl)<|qcV (vs:=[_]) rfl ztZ (zrz x.lm hW.lm)<|zM<|Qu 3 rfl rfl rfl ?_
  refine zK (Qa rfl Yi)<|zK (Qg rfl Y6 (fun hg=>by exact za1 (BxI.cells (vs:=Q7 x) h1)) rfl)<|qg (vs:=[_]) rfl zbF (fun hg=>zcw hN)<|QD rfl rfl rfl rfl rfl ?_
  refine zM<|Qu 8 rfl rfl rfl ?_
  refine zK (Qe rfl)<|QD rfl rfl rfl rfl rfl ?_
  refine zM<|Qu 11 rfl rfl rfl ?_
  refine zK (Qe rfl)<|QD rfl rfl rfl rfl rfl<|zA (zN (Qs (Qj (Qf ?_))))
  exact QA rfl rfl (fun w hw=>⟨by rw [zw5 k1];rfl,(hw.mono hIc).subL Qx⟩)
 have k1:¬x.kind=1:=(by simpa using hc20);refine zR (zC<|zA (zN ?_));refine zI ?_ ?_<;>intro hc36
 ·
  have k2:x.kind=2:=(by simpa using hc36);refine zR (zM ?_);refine zM<|Qu 1 rfl rfl rfl ?_
  refine zK (Qa rfl Yi)<|zK (Qg rfl Y6 (fun hg=>by exact za1 (BxI.cells (vs:=Q7 x) h1)) rfl)<|qg (vs:=[_]) rfl znv (fun hg=>zsT x.pt hN)<|zK (QE rfl rfl rfl) ?_
  refine QD rfl rfl rfl rfl rfl ?_;refine zM<|Qu 7 rfl rfl rfl ?_
  refine zK (Qe rfl)<|QD rfl rfl rfl rfl rfl ?_
  refine zM<|Qu 10 rfl rfl rfl ?_
  refine zK (Qe rfl)<|QD rfl rfl rfl rfl rfl<|zA (zN (Qs (Qj (Qf ?_))))
  exact QA rfl rfl (fun w hw=>⟨by rw [zyy k2];rfl,(hw.mono hIc).subL Qx⟩)
 have k2:¬x.kind=2:=(by simpa using hc36);refine zR (zC<|zA (zN ?_));refine zI ?_ ?_<;>intro hc51
 ·
  have k3:x.kind=3:=(by simpa using hc51);refine Qm ?_;rcases (show (z1 x=true∧z2 x=true∧(L.chk [x.ls]==0)=true)∨(z1 x=true∧z2 x=true∧(L.chk [x.ls]==0)=false)∨(z1 x=true∧z2 x=false)∨z1 x=false by cases z1 x<;>cases z2 x<;>cases (L.chk [x.ls]==0)<;>simp) with ⟨h1z,h2z,hlz⟩ | ⟨h1z,h2z,hlz⟩ | ⟨h1z,h2z⟩ | h1z
  ·
   refine Qh (zM ?_);refine zM ?_;rw [h1z];refine QM (dj:=54) rfl rfl rfl<|zF Yi<|QM (dj:=54) rfl rfl rfl<|zV (Qg rfl Y6 (fun hg=>by exact za1 (BxI.cells (vs:=Q7 x) h1)) rfl)<|QM (dj:=54) rfl rfl rfl<|qcV (vs:=[_]) rfl zbF (zcw hN)<|zV (QY rfl rfl rfl) ?_
   rw [h2z];refine zM<|QM (dj:=59) rfl rfl rfl<|zF Vy<|QM (dj:=59) rfl rfl rfl<|zV (Qg rfl Jp (fun hg=>by exact zdJ (BxI.cells (vs:=Q7 x) h1)) rfl)<|QM (dj:=59) rfl rfl rfl<|zpb [(0,_)] [_] JB (fun b_62=>QU (by repeat (first | exact Z3.here | apply Z3.there)) (fun I2 hI2 hb2=>?_))
   have hIc:=hIc.trans hI2;have hF:=Sl.lit [x.ls] rfl L.encL_len (show I2 b_62=some (Obj.cells ([x.ls].flatMap L.encL).toArray 41 (0,0)) from hb2);refine QM (dj:=59) rfl rfl rfl<|qcV (vs:=[_]) rfl zlM (L.w_rcheck hF kD)<|QM (dj:=59) rfl rfl rfl<|zC ?_
   rw [hlz];refine zV (QY rfl rfl rfl)<|zM<|QM (dj:=66) rfl rfl rfl<|zM<|zV (QY rfl rfl rfl)<|zA (zN (Qs (Qj (Qf ?_))))
   exact QA rfl rfl (fun w hw=>⟨by rw [ziX k3,h1z,h2z,hlz];rfl,(hw.mono hIc).subL Qx⟩)
  ·
   refine Qh (zM ?_);refine zM ?_;rw [h1z];refine QM (dj:=54) rfl rfl rfl<|zF Yi<|QM (dj:=54) rfl rfl rfl<|zV (Qg rfl Y6 (fun hg=>by exact za1 (BxI.cells (vs:=Q7 x) h1)) rfl)<|QM (dj:=54) rfl rfl rfl<|qcV (vs:=[_]) rfl zbF (zcw hN)<|zV (QY rfl rfl rfl) ?_
   rw [h2z];refine zM<|QM (dj:=59) rfl rfl rfl<|zF Vy<|QM (dj:=59) rfl rfl rfl<|zV (Qg rfl Jp (fun hg=>by exact zdJ (BxI.cells (vs:=Q7 x) h1)) rfl)<|QM (dj:=59) rfl rfl rfl<|zpb [(0,_)] [_] JB (fun b_62=>QU (by repeat (first | exact Z3.here | apply Z3.there)) (fun I3 hI3 hb3=>?_))
   have hIc:=hIc.trans hI3;have hF:=Sl.lit [x.ls] rfl L.encL_len (show I3 b_62=some (Obj.cells ([x.ls].flatMap L.encL).toArray 41 (0,0)) from hb3);refine QM (dj:=59) rfl rfl rfl<|qcV (vs:=[_]) rfl zlM (L.w_rcheck hF kD)<|QM (dj:=59) rfl rfl rfl<|zC ?_
   rw [hlz];refine zV (QY rfl rfl rfl)<|zM<|Z4 (dj:=66) rfl rfl rfl rfl rfl<|zV (Yg rfl rfl rfl)<|zA (zN (Qs (Qj (Qf ?_))))
   exact QA rfl rfl (fun w hw=>⟨by rw [ziX k3,h1z,h2z,hlz];rfl,(hw.mono hIc).subL Qx⟩)
  ·
   refine Qh (zM ?_);refine zM ?_;rw [h1z];refine QM (dj:=54) rfl rfl rfl<|zF Yi<|QM (dj:=54) rfl rfl rfl<|zV (Qg rfl Y6 (fun hg=>by exact za1 (BxI.cells (vs:=Q7 x) h1)) rfl)<|QM (dj:=54) rfl rfl rfl<|qcV (vs:=[_]) rfl zbF (zcw hN)<|zV (QY rfl rfl rfl) ?_
   rw [h2z];refine zM<|Z4 (dj:=59) rfl rfl rfl rfl rfl<|Z4 (dj:=59) rfl rfl rfl rfl rfl<|Z4 (dj:=59) rfl rfl rfl rfl rfl<|Z4 (dj:=59) rfl rfl rfl rfl rfl<|Z4 (dj:=59) rfl rfl rfl rfl rfl<|zV (Yg rfl rfl rfl) ?_
   refine zM ?_;refine Z4 (dj:=66) rfl rfl rfl rfl rfl<|zV (Yg rfl rfl rfl)<|zA (zN (Qs (Qj (Qf ?_))))
   exact QA rfl rfl (fun w hw=>⟨by rw [ziX k3,h1z,h2z];rfl,(hw.mono hIc).subL Qx⟩)
  refine Qh (zM ?_);refine zM ?_;rw [h1z];refine Z4 (dj:=54) rfl rfl rfl rfl rfl<|Z4 (dj:=54) rfl rfl rfl rfl rfl<|Z4 (dj:=54) rfl rfl rfl rfl rfl<|zV (Yg rfl rfl rfl)<|zM<|Z4 (dj:=59) rfl rfl rfl rfl rfl<|Z4 (dj:=59) rfl rfl rfl rfl rfl<|Z4 (dj:=59) rfl rfl rfl rfl rfl<|Z4 (dj:=59) rfl rfl rfl rfl rfl<|Z4 (dj:=59) rfl rfl rfl rfl rfl<|zV (Yg rfl rfl rfl)<|zM ?_
  refine Z4 (dj:=66) rfl rfl rfl rfl rfl<|zV (Yg rfl rfl rfl)<|zA (zN (Qs (Qj (Qf ?_))))
  exact QA rfl rfl (fun w hw=>⟨by rw [ziX k3,h1z];rfl,(hw.mono hIc).subL Qx⟩)
 have k3:¬x.kind=3:=(by simpa using hc51);refine zR (zC<|zA (zN ?_));refine zI ?_ ?_<;>intro hc69
 ·
  have k4:x.kind=4:=(by simpa using hc69);refine zR (zM ?_);refine zM<|Qu 1 rfl rfl rfl ?_
  refine zK (Qa rfl Yi)<|zK (Qg rfl Y6 (fun hg=>by exact za1 (BxI.cells (vs:=Q7 x) h1)) rfl)<|qg (vs:=[_]) rfl zbF (fun hg=>zcw hN)<|QD rfl rfl rfl rfl rfl ?_
  refine zM<|Qu 6 rfl rfl rfl ?_
  refine zK (Qe rfl)<|QD rfl rfl rfl rfl rfl ?_
  refine zM<|Qu 9 rfl rfl rfl ?_
  refine zK (Qa rfl Yj)<|zK (Qg rfl YE (fun hg=>by exact zez (BxI.cells (vs:=Q7 x) h1)) rfl)<|qg (vs:=[_]) rfl zs3 (fun hg=>zd8 x.rt hW.rt)<|QD rfl rfl rfl rfl rfl<|zA (zN (Qs (Qj (Qf ?_))))
  exact QA rfl rfl (fun w hw=>⟨by rw [zzK k4];rfl,(hw.mono hIc).subL Qx⟩)
 have k4:¬x.kind=4:=(by simpa using hc69);exact Qp (Qi (Qc (zR (zA (zN (Qs<|QA rfl rfl (fun w hw=>⟨by rw [zwh k1 k2 k3 k4],(hw.mono hIc).subL Qx⟩)))))))
theorem zh3:Fun Tryz.prog 87:=.of Tryz.func87 kA kA
theorem zji {xs:List Nt}(hP:UV I av n c xs)(hW:∀ x∈xs,NtW x)(hn:n≤100000):ZF Tryz.prog 36 [.agg #[.slice av n c]] I (.bool (ZQ xs)):=by
 intro g H w hw;refine qe Tryz.func36 Tryz.ntmps36 hw ?_;have hIc:=zCA I;have hln:=hP.sl.len;refine zR<|QQ rfl rfl rfl (fun b_1=>zA (Qb<|QH .here (fun I1 hI1 hb1=>?_)))
 have hP:=hP.mono hI1;have hIc:=hIc.trans hI1;have h1:=BxI.of hb1;refine Qc (Qm (zR (zA (zN (Qr<|zU [(1,_)] (fun T L0 mz E I' loc'=>∃ (k:Nat),mz=n-k∧E=(3,.int .i64 k)::T∧HLe I1 I'∧L0=loc'∧k≤n∧(∀ j y,j<k→xs[j]? =some y→zcO (xs.take j) y=false)) ?_ (h:=⟨0,rfl,rfl,zCA _,rfl,Nat.zero_le _,fun j y h=>absurd h (Nat.not_lt_zero _)⟩))))));rintro mz E J2 loc' ⟨k,rfl,rfl,hJ,rfl,hk,hall⟩;have hP:=hP.mono hJ;have h1:=h1.mono hJ;have hIc:=hIc.trans hJ;have hB0:=hJ;refine Qm (zR (zM<|zF Zx ?_));refine zV (Qd rfl YD (fun hg=>by exact Qz.imm h1.out rfl))<|zQ QZ<|zC (zN ?_)
 refine zI ?_ ?_<;>intro hc8
 ·
  have hlt_k:k<n:=(by have h:=hc8;simp at h;omega);obtain ⟨x,hx⟩:∃ x,xs[k]? =some x:=⟨_,List.getElem?_eq_getElem kB⟩;have hxm:x∈xs:=List.mem_of_getElem? hx;refine Qp (Qc (Qm (Qr (Qm ?_))));rcases (show QO x=false∨(QO x=true∧k=0)∨(QO x=true∧0<k) by cases QO x<;>simp<;>omega) with hf | ⟨hf,hk⟩ | ⟨hf,hk⟩
  ·
   have hD:=zCA J2;refine Zm<|QI J2 [] mixed<|zT 0 rfl (Qa rfl Zx) hD<|zT 1 rfl (Qd rfl YD (fun hg=>by exact Qz.imm h1.out rfl)) hD<|zT 2 rfl (Qe rfl) hD<|zT 3 rfl (QC rfl rfl QZ hP.sl (fun hg=>kB)) hD<|zT 4 rfl (Qg rfl Q8 (fun hg=>by exact zCB hP.sl hx) rfl) hD<|qd 5 rfl<|qcV (vs:=[_]) rfl zh3 (Xx x (hP.nd x hxm) (hW x hxm))<|Qb<|zD hD<|zT 6 rfl (Zy rfl) hD ?_
   rw [hf];refine zT 7 rfl (Qe rfl) hD ?_;refine zW 8 18 hD ?_;refine zW 9 18 hD ?_;refine zW 10 18 hD ?_;refine zW 11 21 hD ?_;refine zW 12 21 hD ?_;refine zW 13 21 hD ?_;refine zW 14 21 hD ?_;refine zW 15 21 hD ?_;refine zW 16 21 hD ?_;refine zW 17 21 hD ?_;refine zW 18 21 hD ?_;refine zW 19 21 hD ?_;refine zW 20 21 hD ?_;refine zW 21 21 hD ?_;refine zW 22 21 hD ?_;refine zW 23 21 hD ?_;refine zW 24 18 hD<|zT 25 rfl (Yg rfl rfl rfl) hD<|Qo kA<|Qw<|Qc ?_
   refine zI ?_ ?_<;>intro hc36
   ·
    exact zR (zA (zN (Qs (Qj (Qf (Qf (Qj<|Qf<|QA rfl rfl (fun w hw=>⟨by rw [XY hx (zfH (pre:=xs.take k) hf)],(hw.mono hIc).subL Qx⟩))))))))
   cases hc36
  ·
   have hk0:decide ((k:Int)>0)=false:=(by simp;omega);have hD:=zCA J2;refine Zm<|QI J2 [] mixed<|zT 0 rfl (Qa rfl Zx) hD<|zT 1 rfl (Qd rfl YD (fun hg=>by exact Qz.imm h1.out rfl)) hD<|zT 2 rfl (Qe rfl) hD<|zT 3 rfl (QC rfl rfl QZ hP.sl (fun hg=>kB)) hD<|zT 4 rfl (Qg rfl Q8 (fun hg=>by exact zCB hP.sl hx) rfl) hD<|qd 5 rfl<|qcV (vs:=[_]) rfl zh3 (Xx x (hP.nd x hxm) (hW x hxm))<|Qb<|zD hD<|zT 6 rfl (Zy rfl) hD ?_
   rw [hf];refine zT 7 rfl (Qe rfl) hD<|zw 8 18 rfl (Qe rfl) hD<|zw 9 18 rfl (QE rfl rfl rfl) hD ?_
   rw [hk0];refine zw 10 18 rfl (Qe rfl) hD<|zW 11 21 hD ?_
   refine zW 12 21 hD ?_;refine zW 13 21 hD ?_;refine zW 14 21 hD ?_;refine zW 15 21 hD ?_;refine zW 16 21 hD ?_;refine zW 17 21 hD ?_;refine zW 18 21 hD ?_;refine zW 19 21 hD ?_;refine zW 20 21 hD ?_;refine zW 21 21 hD ?_;refine zW 22 21 hD ?_;refine zW 23 21 hD ?_;refine zw 24 18 rfl (Yg rfl rfl rfl) hD<|zT 25 rfl (QY rfl rfl rfl) hD<|Qo kA<|Qw<|Qc ?_
   refine zI ?_ ?_<;>intro hc36
   ·
    cases hc36
   have hbad:zcO (xs.take k) x=false:=(by rw [hk];exact zdN hf);refine Qp (Qi (Qc (Qh (zM ?_))));exact zB<|zA (Qb<|zm (h:=⟨n-(k+1),kB,k+1,rfl,rfl,hB0,rfl,kB,VK hx hall hbad⟩))
  have hk0:decide ((k:Int)>0)=true:=(by simp;omega);obtain ⟨y,hy⟩:∃ y,xs[((k:Int)-1).toNat]? =some y:=⟨_,List.getElem?_eq_getElem kB⟩;have hym:y∈xs:=List.mem_of_getElem? hy;have hfy:=zcb (hall _ y kB hy);have hD:=zCA J2;refine Zm<|QI J2 [] mixed<|zT 0 rfl (Qa rfl Zx) hD<|zT 1 rfl (Qd rfl YD (fun hg=>by exact Qz.imm h1.out rfl)) hD<|zT 2 rfl (Qe rfl) hD<|zT 3 rfl (QC rfl rfl QZ hP.sl (fun hg=>kB)) hD<|zT 4 rfl (Qg rfl Q8 (fun hg=>by exact zCB hP.sl hx) rfl) hD<|qd 5 rfl<|qcV (vs:=[_]) rfl zh3 (Xx x (hP.nd x hxm) (hW x hxm))<|Qb<|zD hD<|zT 6 rfl (Zy rfl) hD ?_
  rw [hf];refine zT 7 rfl (Qe rfl) hD<|zw 8 18 rfl (Qe rfl) hD<|zw 9 18 rfl (QE rfl rfl rfl) hD ?_
  rw [hk0];refine zw 10 18 rfl (Qe rfl) hD<|zw 11 21 rfl (Qa rfl Zx) hD<|zw 12 21 rfl (Qd rfl YD (fun hg=>by exact Qz.imm h1.out rfl)) hD<|zw 13 21 rfl (Qe rfl) hD<|zw 14 21 rfl (Yr rfl rfl rfl (fun hg=>kB)) hD<|zw 15 21 rfl (QC rfl rfl QZ hP.sl (fun hg=>kB)) hD<|zw 16 21 rfl (Qg rfl Q8 (fun hg=>by exact zCB hP.sl hy) rfl) hD<|zw 17 21 rfl (Qa rfl Zx) hD<|zw 18 21 rfl (Qd rfl YD (fun hg=>by exact Qz.imm h1.out rfl)) hD<|zw 19 21 rfl (Qe rfl) hD<|zw 20 21 rfl (QC rfl rfl QZ hP.sl (fun hg=>kB)) hD<|zw 21 21 rfl (Qg rfl Q8 (fun hg=>by exact zCB hP.sl hx) rfl) hD ?_
  refine qd 22 rfl<|QM (dj:=21) rfl rfl rfl<|zpc [_,_] rfl zsF .nil (zi1 y x (hP.m y hym hfy) (hP.m x hxm hf)) ?_
  rintro vv3 I3 L3 hI3 ⟨rfl,rfl⟩;have hIc:=hIc.trans hI3;have hB0:=hB0.trans hI3;have hD:=hD.trans hI3;refine Qb<|zD hD<|zw 23 21 rfl (Zy rfl) hD<|zw 24 18 rfl (QY rfl rfl rfl) hD<|zT 25 rfl (QY rfl rfl rfl) hD<|Qo kA<|Qw<|Qc ?_
  refine zI ?_ ?_<;>intro hc36
  ·
   refine zR (zA (zN (Qs (Qj (Qf (Qf (Qj<|Qf ?_)))))));exact QA rfl rfl (fun w hw=>⟨by rw [XY hx ((Un hf hk hy).trans (by rw [←zft];exact hc36))],(hw.mono hIc).subL Qx⟩)
  have hbad:zcO (xs.take k) x=false:=(Un hf hk hy).trans (by rw [←zft];exact hc36);refine Qp (Qi (Qc (Qh (zM ?_))));exact zB<|zA (Qb<|zm (h:=⟨n-(k+1),kB,k+1,rfl,rfl,hB0,rfl,kB,VK hx hall hbad⟩))
 have hge_k:n≤k:=(by have h:=hc8;simp at h;omega);refine Q6 (Ql (Ql (Qq (Qc (zR<|zF Zx ?_)))));refine zV (Qd rfl YD (fun hg=>by exact Qz.imm h1.out rfl))<|zQ QZ<|zC<|zA (zN (Qs ?_))
 exact QA rfl rfl (fun w hw=>⟨by rw [zeg (fun j y hj hy=>hall j y kB hy),hln],(hw.mono hIc).subL Qx⟩)
def zkj (rs:List Hy):Bool:= !((decide ((rs.length:Int)>40)&&decide ((rs.length:Int)≤4096))||decide ((rs.length:Int)>4200))&&rs.all (fun r=>decide (r.n≤2000))
variable{rs:List Hy}
theorem ztp (h:zkj rs=true):rs.length≤4200∧∀ r∈rs,r.n≤2000:=by
 unfold zkj at h;simp only [Bool.and_eq_true,Bool.not_eq_true',Bool.or_eq_false_iff,decide_eq_false_iff_not,List.all_eq_true,decide_eq_true_eq] at h;exact ⟨kB,h.2⟩
theorem zxw (h:((decide ((rs.length:Int)>40)&&decide ((rs.length:Int)≤4096))||decide ((rs.length:Int)>4200))=true):zkj rs=false:=by unfold zkj;rw [h];rfl
variable{r:Hy}
theorem zvG (hr:r∈rs)(h:¬r.n≤2000):zkj rs=false:=by
 unfold zkj;rw [Bool.and_eq_false_iff];exact .inr (List.all_eq_false.2 ⟨r,hr,by simpa using h⟩)
theorem ztL (h:((decide ((rs.length:Int)>40)&&decide ((rs.length:Int)≤4096))||decide ((rs.length:Int)>4200))=false)(h2:∀ r∈rs,r.n≤2000):zkj rs=true:=by
 unfold zkj;rw [h,Bool.not_false,Bool.true_and,List.all_eq_true];exact fun r hr=>by simpa using h2 r hr
variable{zs:List Nt}
theorem LdZ.mono (h:LdZ I rs a m c zs)(hI:HLe I I'):LdZ I' rs a m c zs:=⟨h.nt.mono hI,h.srt,h.len,h.mem,h.frm⟩
theorem zlG {xs:List Nt}(h:zdh xs):zdh (xs.map Yx):=zrF (List.pairwise_map.2 ((zfD h).imp fun {a b} h=>by rw [zbi];exact h))
theorem zwV:Fun Tryz.prog 19:=.of Tryz.func19 kA kA
theorem zse:Fun Tryz.prog 36:=.of Tryz.func36 kA kA
theorem zBd (hS:Sl I 1 WG av n c rs):ZF Tryz.prog 19 [.slice av n c] I (.bool (zkj rs)):=by
 intro g H w hw;refine qe Tryz.func19 Tryz.ntmps19 hw ?_;have hln:=hS.len;subst hln;refine zR (zA (zN (Qm (zR ?_))));refine zM ?_;refine zQ JY<|zC<|zM<|Qu 3 rfl rfl rfl ?_
 refine zK (Qe rfl)<|zK (QV rfl JY) ?_
 refine zK (QE rfl rfl rfl) ?_;refine QD rfl rfl rfl rfl rfl ?_;refine zM ?_;refine QK 8 rfl rfl rfl ?_;refine zJ (Qe rfl) ?_;refine zJ (QV rfl JY) ?_;refine zJ (QE rfl rfl rfl) ?_;refine Zf rfl rfl rfl rfl rfl ?_;refine zN ?_;refine zI ?_ ?_<;>intro hc16
 ·
  exact zR (zA (zN (Qs (Qf<|QA rfl rfl (fun w hw=>⟨by rw [zxw hc16],hw⟩)))))
 have hlen:rs.length≤4200:=(by have h:=hc16;simp at h;omega);refine Qp (Qc (Qm (zR (zA (zN (Qr<|zU [(0,_)] (fun T L0 mz E I' loc'=>∃ (k:Nat),mz=rs.length-k∧E=(3,.int .i64 k)::T∧I=I'∧L0=loc'∧k≤rs.length∧(∀ j y,j<k→rs[j]? =some y→y.n≤2000)) ?_ (h:=⟨0,rfl,rfl,rfl,rfl,Nat.zero_le _,fun j y h=>absurd h (Nat.not_lt_zero _)⟩)))))));rintro mz E I' loc' ⟨k,rfl,rfl,rfl,rfl,hk,hall⟩;refine Qm (zR (zM<|zM ?_));refine zQ JY<|zC (zN ?_)
 refine zI ?_ ?_<;>intro hc20
 ·
  have hlt_k:k<rs.length:=(by have h:=hc20;simp at h;omega);obtain ⟨x,hx⟩:∃ x,rs[k]? =some x:=⟨_,List.getElem?_eq_getElem kB⟩;refine Qp (Qc (Qm (Qr (zR (zM ?_)))));refine zM ?_;refine zV (zX JY hS) ?_;refine zV (Qd rfl Jm (fun hg=>by exact zCt hS hx rfl))<|zQ Ks<|zC (zN ?_)
  refine zI ?_ ?_<;>intro hc28
  ·
   refine zR (zA (zN (Qs (Qj (Qf (Qf (Qj<|Qf ?_)))))));exact QA rfl rfl (fun w hw=>⟨by rw [zvG (List.mem_of_getElem? hx) (by have h:=hc28;simp at h;omega)],hw⟩)
  have hok9:x.n≤2000:=(by have h:=hc28;simp at h;omega);refine Qp (Qi (Qc (Qh (zM ?_))));exact zB<|zA (Qb<|zm (h:=⟨rs.length-(k+1),kB,k+1,rfl,rfl,rfl,rfl,kB,VK hx hall hok9⟩))
 have hge_k:rs.length≤k:=(by have h:=hc20;simp at h;omega);refine Q6 (Ql (Ql (Qq (Qc (zR (zA (zN<|Qs ?_)))))));exact QA rfl rfl (fun w hw=>⟨by rw [ztL hc16 (fun r hr=>by obtain ⟨j,hj⟩:=List.mem_iff_getElem?.1 hr;exact hall j r (by have h:=(List.getElem?_eq_some_iff.1 hj).1;omega) hj)],hw⟩)
section
variable {α:Type} {num:Nt→Int} {prt:Nt→α} {kind:Int} {chk:List α→Int} {d:α} {nf:α→Int}
theorem zjo {m:List (Int×α)}{p:Int×α}{k:Int}:ZD (m++[p]) k=(ZD m k).or (if p.1=k then some p.2 else none):=by
 induction m with
 | nil=>simp [ZD]
 | cons q m ih=>
  rw [List.cons_append,ZD,ZD,ih];split<;>simp
theorem Wv {m:List (Int×α)}{k:Int}:k∈m.map (·.1)↔ ∃ v,ZD m k=some v:=by
 induction m with
 | nil=>simp [ZD]
 | cons q m ih=>
  rw [List.map_cons,List.mem_cons,ih,ZD];by_cases h:q.1=k
  ·
   simp [h]
  ·
   rw [if_neg h];constructor
   ·
    rintro (e | e)
    ·
     exact absurd e.symm h
    ·
     exact e
   ·
    exact .inr
theorem ztt (xs:List Nt)(k:Int):∀ m:List (Int×α),ZD (xs.foldl (Xe num prt kind) m) k=(ZD m k).or ((xs.find? fun x=>x.kind==kind&&num x==k).map prt):=by
 induction xs with
 | nil=>intro m;simp
 | cons x xs ih=>
  intro m;rw [List.foldl_cons,ih,List.find?_cons];unfold Xe;cases hk:x.kind==kind
  ·
   simp
  ·
   by_cases hn:num x=k
   ·
    subst hn
    cases hg:ZD m (num x) with
    | none=>simp [zjo,hg]
    | some v=>simp [hg]
   ·
    rw [Bool.true_and];have e:(num x==k)=false:=(by simpa using hn);simp only [Bool.true_and,e];split
    ·
     rw [zjo,if_neg hn,Option.or_none]
    ·
     rfl
theorem zjs (xs:List Nt)(k:Int):ZD (Z9 num prt kind xs) k=(xs.find? fun x=>x.kind==kind&&num x==k).map prt:=by
 unfold Z9;rw [ztt];rfl
theorem zjA (xs:List Nt):((Z9 num prt kind xs).map (·.1)).Nodup:=by
 have key:∀ (ys:List Nt) (m:List (Int×α)),(m.map (·.1)).Nodup→((ys.foldl (Xe num prt kind) m).map (·.1)).Nodup:=by
  intro ys
  induction ys with
  | nil=>intro m h;exact h
  | cons y ys ih=>
   intro m h;rw [List.foldl_cons];refine ih _ ?_;unfold Xe;split
   ·
    rename_i hc;rw [List.map_append,List.nodup_append];refine ⟨h,by simp,fun a ha b hb=>?_⟩;have hb':b=num y:=(by simpa using hb);subst hb';rintro rfl;obtain ⟨v,hv⟩:=Wv.1 ha;rw [hv] at hc;simp at hc
   ·
    exact h
 exact key xs [] List.nodup_nil
theorem zrB (xs:List Nt):(UO ((Z9 num prt kind xs).map (·.1))).Pairwise (· < ·):=by
 have hp:(UO ((Z9 num prt kind xs).map (·.1))).Pairwise (fun a b=>decide (a≤b)=true):=List.pairwise_mergeSort (by intro a b c;simp;omega) (by intro a b;simp;omega) _;have hn:(UO ((Z9 num prt kind xs).map (·.1))).Nodup:=(List.mergeSort_perm _ _).nodup_iff.2 (zjA xs);refine (hp.and hn).imp fun {a b} h=>?_;have h1:=h.1;have h2:=h.2;simp at h1;omega
theorem zqn {xs:List Nt}{k:Int}:k∈UO ((Z9 num prt kind xs).map (·.1))↔ ∃ x∈xs,x.kind=kind∧num x=k:=by
 rw [show k∈UO ((Z9 num prt kind xs).map (·.1))↔k∈(Z9 num prt kind xs).map (·.1) from (List.mergeSort_perm _ _).mem_iff,Wv,zjs];constructor
 ·
  rintro ⟨v,hv⟩
  cases hf:xs.find? fun x=>x.kind==kind&&num x==k with
  | none=>rw [hf] at hv;cases hv
  | some x=>
   have:=List.find?_some hf;simp at this;exact ⟨x,List.mem_of_find?_eq_some hf,this⟩
 ·
  rintro ⟨x,hx,h1,h2⟩
  cases hf:xs.find? fun x=>x.kind==kind&&num x==k with
  | none=>
   have:=List.find?_eq_none.1 hf x hx;simp [h1,h2] at this
  | some y=>exact ⟨_,rfl⟩
def WF (nf:α→Int)(a:List α)(m:Int):Nat:=(a.takeWhile fun y=>decide (nf y<m)).length
theorem zhL : ∀ {a : List α} {k : Nat} {m : Int}, k ≤ a.length → (∀ j y, j < k → a[j]? = some y → nf y < m) → (∀ y, a[k]? = some y → ¬ nf y < m) → k = WF nf a m
  | [], k, m, h, _, _ => by have : k = 0 := by simpa using h
                            subst this; rfl
  | y :: a, 0, m, _, _, h => by
    have := h y rfl;simp [WF, this]
  | y :: a, k + 1, m, hl, h1, h2 => by
    have hy := h1 0 y kB rfl;have := zhL (a := a) (k := k) (m := m) (by simpa using hl) (fun j z hj hz => h1 (j + 1) z kB (by simpa using hz)) (fun z hz => h2 z (by simpa using hz));unfold WF;rw [List.takeWhile_cons, if_pos (by simpa using hy), List.length_cons, this]; rfl
def zBt (eqv:α→α→Bool):Option α→α→Bool
 | none,_=>false
 | some y,z=>eqv y z
end
def V4 (x:Nt):Int:=if x.kind=1 then x.lm.no else if x.kind=2 then x.pt.id else if x.kind=3 then x.ls.no else x.rt.no
theorem zxp (y:Nt)(h:y.kind=1):V4 y=y.lm.no:=by unfold V4;rw [if_pos h]
theorem zyx (y:Nt)(h:y.kind=2):V4 y=y.pt.id:=by unfold V4;rw [if_neg kB,if_pos h]
theorem zza (y:Nt)(h:y.kind=3):V4 y=y.ls.no:=by unfold V4;rw [if_neg kB,if_neg kB,if_pos h]
theorem zBn (y:Nt)(h:y.kind=4):V4 y=y.rt.no:=by unfold V4;rw [if_neg kB,if_neg kB,if_neg kB]
section
variable {I:Qv} {xs:List Nt} (hN:∀ x∈xs,Nd I x.pt) (hv:ZQ xs=true) {i:Nat} {x:Nt} (hx:xs[i]? =some x) {b:Bool}
include hN hv hx
end
section
variable {α:Type} {num:Nt→Int} {prt:Nt→α} {kind:Int} {chk:List α→Int} {d:α}
end
theorem zo6 {a:List α}{y:α}{P:α→Prop}(h:∀ j z,j<k→a[j]? =some z→P z)(hy:a[k]? =some y)(hp:P y):∀ j z,j<k+1→a[j]? =some z→P z:=fun j z hj hz=>by
 rcases Nat.lt_or_ge j k with h1 | h1
 ·
  exact h j z h1 hz
 ·
  obtain rfl:j=k:=kB;rw [hy] at hz;cases hz;exact hp
end
end Go.Proofs.YtjblkbkmblkgoaaGreat
namespace Go.Kn
section
open Go
section
variable {C:Cx} {S:GS} {E:Env} {I:Qv} {loc:Loc} {dst:Option Tmp} {ty:TypeId} {pos:String} {af:Array Edge} {gd:Option (Nat×Bool)} {x y z:Operand}
theorem zju {t e size n c:Nat}{av:Option Addr}{k k':IntKind}{i q:Int}(hx:QG S E x=some (.slice av n c))(hy:QG S E y=some (.int k i))(hz:QG S E z=some (.int k' q))(hT:SlT C.P t e size)(hb:Z6 S=true→(0≤q∧q≤(c:Int))∧0≤i∧i≤q):
  QW C S E I loc ⟨dst,.slice t x (some y) (some z) none,ty,pos,af,gd⟩ (.slice (zo3 av c i.toNat size) (q.toNat -i.toNat) (c-i.toNat)):=
 .of kE fun a w ha hg hc _=>by
  obtain ⟨h1,j,h2,h3⟩:=hT;have hq:=(hb hc).1;have hi:0≤i∧i≤((q.toNat:Nat):Int):=(by have:=(hb hc).2;omega);simp only [execOp,Option.map_none,Option.map_some,Qk ha hg hc hx,Qk ha hg hc hy,Qk ha hg hc hz,Instr.sliceAt,Instr.slice,Instr.sliceBounds,Instr.sliceBound,asIntOf,Sem.run_bind,Sem.run_pure,run_underlying h1,Result.andThen,if_pos hq,if_pos hi,run_sizeOf h2,h3,zo3]
theorem Sl.part {α:Type}{size:Nat}{enc:α→List Value}{av:Option Addr}{n c:Nat}{xs:List α}(h:Sl I size enc av n c xs){k q:Nat}(hk:k≤q)(hq:q≤n):Sl I size enc (zo3 av c k size) (q-k) (c-k) ((xs.take q).drop k):=
 (h.take hq).drop hk
end
end
end Go.Kn
namespace Go.Proofs.YtjblkbkmblkgoaaGreat
section
open Go Go.Kn Go.Proofs
theorem zAw:Tryz.prog.underlying 4=some .bool:=kA
end
end Go.Proofs.YtjblkbkmblkgoaaGreat
namespace Go.Kn
section
open Go
def NxQ (bs:List Nat)(n k x k':Nat)(bad:Bool):Prop:=(bad=false∧bs[k]? =some x∧k'=k+1)∨(bad=true∧n≤k∧x=0∧k'=k)
def NuQ (bs:List Nat)(k u k':Nat)(bad:Bool):Prop:=(bad=false∧VU 0 (bs.drop k)=some (u,bs.drop k'))∨(bad=true∧u=0∧VU 0 (bs.drop k)=none)
section
variable {bs:List Nat} {n k i u c k':Nat} {bad:Bool}
theorem zpd (hi:i≤9):(((((i:Int)==9)&&decide ((c:Int)>1))||(decide ((i:Int)>0)&&((c:Int)==0))))= !((i==0||c != 0)&&(decide (i<9)||decide (c≤1))):=by
 rw [Bool.eq_iff_iff];simp only [Bool.or_eq_true,Bool.and_eq_true,beq_iff_eq,decide_eq_true_eq,Bool.not_eq_true',Bool.and_eq_false_iff,Bool.or_eq_false_iff,beq_eq_false_iff_ne,bne_eq_false_iff_eq,decide_eq_false_iff_not];omega
theorem zeF (h:bs[k+i]? =some c):(bs.drop k)[i]? =some c:=by rw [List.getElem?_drop];exact h
theorem zq0:(bs.drop k).drop (i+1)=bs.drop (k+i+1):=by rw [List.drop_drop];congr 1
theorem zwc (hn:bs.length=n)(h:VU 0 (bs.drop k)=(VU i ((bs.drop k).drop i)).map fun x=>(u+x.1,x.2))(hq:NxQ bs n (k+i) c k' bad)(hb:((i==0||c != 0)&&(decide (i<9)||decide (c≤1)))=false):VU 0 (bs.drop k)=none:=by
 rcases hq with ⟨_,hc,_⟩ | ⟨_,hk,_,_⟩
 ·
  exact zid h (zeF hc) hb
 ·
  exact zgF h kQ
theorem zub (hn:bs.length=n)(h:VU 0 (bs.drop k)=(VU i ((bs.drop k).drop i)).map fun x=>(u+x.1,x.2))(hq:NxQ bs n (k+i) c k' bad)(hb:((i==0||c != 0)&&(decide (i<9)||decide (c≤1)))=true)(hu:u<128^i)(hl:c<128):NuQ bs k (u+c % 128*128^i) k' bad:=by
 rcases hq with ⟨rfl,hc,rfl⟩ | ⟨rfl,hk,rfl,rfl⟩
 ·
  refine .inl ⟨rfl,?_⟩;rw [ziT h (zeF hc) hb hl,zq0]
 ·
  have hi:i=0:=(by simpa using hb);subst hi;have:u=0:=by simpa using hu
  subst this;exact .inr ⟨rfl,by simp,zgF h kQ⟩
theorem zuO (hq:NxQ bs n (k+i) c k' bad)(hl:¬c<128):bad=false∧bs[k+i]? =some c∧k'=k+i+1:=by
 rcases hq with h | ⟨_,_,h,_⟩
 ·
  exact h
 ·
  omega
theorem zlo (hq:NxQ bs n k c k' bad)(hl:c≠0):bad=false∧bs[k]? =some c∧k'=k+1:=by
 rcases hq with h | ⟨_,_,h,_⟩
 ·
  exact h
 ·
  omega
end
def VlQ (D:Nat)(I:Qv)(bs:List Nat)(k:Nat)(cv:Vc)(k':Nat)(bad:Bool):Prop:=(bad=false∧∃ x,Ku D (bs.drop k)=some (x,bs.drop k')∧VaR I x cv)∨(bad=true∧Ku D (bs.drop k)=none)
theorem zth {u m:Nat}(h:u+m<2^64):IntKind.u64.wrap ((u:Int)+(m:Int))=((u+m:Nat):Int):=by rw [ZS ⟨kB,kB⟩];simp
theorem zee {u:Nat}(h:u+1<2^64):IntKind.u64.wrap ((u:Int)+1)=((u+1:Nat):Int):=by rw [ZS ⟨kB,kB⟩];simp
theorem zzb (c:Nat):(c:Int).tmod 128=((c % 128:Nat):Int):=by rw [Int.tmod_eq_emod_of_nonneg kB];simp
theorem zBA {u:Nat}(h:u<2^64):IntKind.u64.wrap ((u:Int).tdiv 2)=((u / 2:Nat):Int):=by
 rw [Int.tdiv_eq_ediv_of_nonneg kB,ZS ⟨kB,kB⟩];simp
theorem zBN (u:Nat):(u:Int).tmod 2=((u % 2:Nat):Int):=by rw [Int.tmod_eq_emod_of_nonneg kB];simp
theorem zxK {u:Nat}(h:u % 2=1): -((u / 2:Nat):Int)-1=zcU u:=by unfold zcU;rw [if_pos h]
theorem zze {u:Nat}(h:¬u % 2=1):((u / 2:Nat):Int)=zcU u:=by unfold zcU;rw [if_neg h]
theorem VlQ.mono {D:Nat}{I I':Qv}{bs:List Nat}{k k':Nat}{cv:Vc}{bad:Bool}(h:VlQ D I bs k cv k' bad)(hI:HLe I I'):VlQ D I' bs k cv k' bad:=by
 rcases h with ⟨a,x,b,c⟩ | h
 ·
  exact .inl ⟨a,x,b,c.mono hI⟩
 ·
  exact .inr h
section
variable {D:Nat} {I:Qv} {bs:List Nat} {n k c u k1 k2 k3:Nat} {b2 b3:Bool}
theorem get0 (h:bs[k]? =some c):(bs.drop k)[0]? =some c:=by rw [List.getElem?_drop];exact h
theorem zgQ:(bs.drop k).drop 1=bs.drop (k+1):=by rw [List.drop_drop]
theorem zz6 (hn:bs.length=n)(hq:NxQ bs n k c k1 b2)(h1:c≠1)(h2:c≠2)(h3:c≠3):Ku D (bs.drop k)=none:=by
 rcases hq with ⟨_,hc,_⟩ | ⟨_,hk,_,_⟩
 ·
  exact zoL (get0 hc) h1 h2 h3
 ·
  exact zmV kQ
theorem zsx (hx:bs[k]? =some 1)(h:NuQ bs (k+1) u k2 b2):VlQ D I bs k ⟨1,zcU u,⟨#[]⟩,none,0,0⟩ k2 b2:=by
 rcases h with ⟨rfl,h⟩ | ⟨rfl,_,h⟩
 ·
  exact .inl ⟨rfl,_,znY (get0 hx) (by rw [zgQ];exact h),.int _⟩
 ·
  exact .inr ⟨rfl,zi4 (get0 hx) (by rw [zgQ];exact h)⟩
theorem zsi (hn:bs.length=n)(hk:k2≤n)(h:NuQ bs (k+1) u k2 b2)(hc:(b2||decide ((u:Int)>(n:Int)-(k2:Int)))=false):b2=false∧u≤n-k2∧zcL (bs.drop (k+1))=some (u,bs.drop k2):=by
 rw [Bool.or_eq_false_iff,decide_eq_false_iff_not] at hc;rcases h with ⟨rfl,h⟩ | ⟨rfl,_,_⟩
 ·
  exact ⟨rfl,kB,zfO h kQ⟩
 ·
  exact absurd hc.1 kD
theorem zl7 (hn:bs.length=n)(hk:k2≤n)(h:NuQ bs (k+1) u k2 b2)(hc:(b2||decide ((u:Int)>(n:Int)-(k2:Int)))=true):zcL (bs.drop (k+1))=none:=by
 rcases h with ⟨rfl,h⟩ | ⟨rfl,_,h⟩
 ·
  rw [Bool.false_or,decide_eq_true_eq] at hc;exact zfM h kQ
 ·
  exact znN h
theorem zp0 (hn:bs.length=n)(hk:k2≤n)(hx:bs[k]? =some 2)(h:NuQ bs (k+1) u k2 b2)(hc:(b2||decide ((u:Int)>(n:Int)-(k2:Int)))=true):Ku D (bs.drop k)=none:=
 zfs (get0 hx) (by rw [zgQ];exact zl7 hn hk h hc)
theorem zu2:(bs.take (k2+u)).drop k2=(bs.drop k2).take u:=by
 rw [List.drop_take];congr 1;omega
theorem zuq (hx:bs[k]? =some 2)(h:zcL (bs.drop (k+1))=some (u,bs.drop k2)):VlQ D I bs k ⟨2,0,UR ((bs.drop k2).take u),none,0,0⟩ (k2+u) false:=
 .inl ⟨rfl,.text ((bs.drop k2).take u),by rw [ziy (get0 hx) (by rw [zgQ];exact h),List.drop_drop],.text _⟩
theorem zqv (hn:bs.length=n)(hk:k2≤n){dep:Int}(hd:dep+D=16)(hx:bs[k]? =some 3)(h:NuQ bs (k+1) u k2 b2)(hc:((b2||decide ((u:Int)>(n:Int)-(k2:Int)))||(dep==16))=true):Ku D (bs.drop k)=none:=by
 rw [Bool.or_eq_true,beq_iff_eq] at hc;rcases hc with hc | hc
 ·
  exact zfr (get0 hx) (by rw [zgQ];exact zl7 hn hk h hc)
 ·
  exact zgp kB (get0 hx)
def LoB (D:Nat)(I:Qv)(bs:List Nat)(u k2 i:Nat)(hs:List Vc)(k3:Nat)(b3:Bool):Prop:=(b3=false∧∃ xs,zlW I xs hs∧LoQ (Ku D) u (bs.drop k2) i xs (bs.drop k3))∨(b3=true∧X6 (Ku D) u (bs.drop k2)=none)
theorem LoB.mono {I':Qv}{i:Nat}{hs:List Vc}(h:LoB D I bs u k2 i hs k3 b3)(hI:HLe I I'):LoB D I' bs u k2 i hs k3 b3:=by
 rcases h with ⟨a,xs,b,c⟩ | h
 ·
  exact .inl ⟨a,xs,b.mono hI,c⟩
 ·
  exact .inr h
theorem LoB.start:LoB D I bs u k2 0 [] k2 false:=.inl ⟨rfl,[],.nil,.start⟩
theorem LoB.step {i k4:Nat}{hs:List Vc}{cv:Vc}{b4:Bool}(h:LoB D I bs u k2 i hs k3 false)(hi:i<u)(hv:VlQ D I bs k3 cv k4 b4):LoB D I bs u k2 (i+1) (hs++[cv]) k4 b4:=by
 rcases h with ⟨_,xs,hr,hl⟩ | ⟨h,_⟩
 ·
  rcases hv with ⟨rfl,x,hd,hx⟩ | ⟨rfl,hd⟩
  ·
   exact .inl ⟨rfl,xs++[x],hr.snoc hx,hl.step hi hd⟩
  ·
   exact .inr ⟨rfl,hl.bad hi hd⟩
 ·
  cases h
theorem zwf {i:Nat}{hs:List Vc}{a:Option Addr}{cc:Nat}(hx:bs[k]? =some 3)(h:zcL (bs.drop (k+1))=some (u,bs.drop k2))(hlo:LoB D I bs u k2 i hs k3 b3)(he:(decide ((i:Int)<(u:Int))&& !b3)=false)(hS:Sl I 4 Zd a hs.length cc hs):
  VlQ (D+1) I bs k ⟨3,0,⟨#[]⟩,a,hs.length,cc⟩ k3 b3:=by
 rcases hlo with ⟨rfl,xs,hr,hl⟩ | ⟨rfl,hl⟩
 ·
  have hi:u≤i:=(by simp at he;omega);exact .inl ⟨rfl,.list xs,zh2 (get0 hx) (by rw [zgQ];exact h) (hl.done hi),.list hS hr.1 hr.2⟩
 ·
  exact .inr ⟨rfl,zbI (get0 hx) (by rw [zgQ];exact h) hl⟩
end
section
variable {I:Qv} {bs:List Nat} {n k2:Nat} {b2:Bool} {cv:Vc} {x:Va}
theorem znA (hn:bs.length=n)(hk:k2≤n)(hb:∀ c∈bs,c<256)(hl:n≤100000)(h:VlQ 16 I bs 0 cv k2 b2):
  (b2=true∧zaf bs=none)∨(b2=false∧(((k2:Nat):Int) != ((n:Nat):Int))=true∧zaf bs=none)∨(b2=false∧(((k2:Nat):Int) != ((n:Nat):Int))=false∧∃ x,zaf bs=some x∧VaR I x cv∧Va.enc x=bs∧Va.depth x≤16∧Va.ok x):=by
 rcases h with ⟨h1,x,hd,hx⟩ | ⟨h1,hd⟩
 ·
  rw [List.drop_zero] at hd;by_cases e:k2=n
  ·
   subst e;rw [List.drop_of_length_le kB] at hd;have h2:=zbw hb kB hd;exact .inr (.inr ⟨h1,by simp,x,zgr hd rfl,hx,by rw [h2.1.trans (List.append_nil _)],h2.2⟩)
  ·
   exact .inr (.inl ⟨h1,by simp;omega,zfX hd kQ⟩)
 ·
  rw [List.drop_zero] at hd;exact .inl ⟨h1,zfi hd⟩
theorem zzX (h:VlQ 16 I bs 0 cv k2 false)(hd:zaf bs=some x):VaR I x cv:=by
 rcases h with ⟨_,y,hy,hx⟩ | ⟨h,_⟩
 ·
  rw [List.drop_zero] at hy;unfold zaf at hd;rw [hy] at hd
  cases e:bs.drop k2 with
  | nil=>rw [e] at hd;cases hd;exact hx
  | cons a l=>rw [e] at hd;cases hd
 ·
  cases h
theorem zkX {a b:List Nat}(h:a=b):(!(JG (UR a) (UR b)))=false:=by rw [h];simp [JG]
end
end
end Go.Kn
namespace Go.Proofs.YtjblkbkmblkgoaaGreat
section
open Go Go.Kn Go.Proofs
theorem Wj:QL Tryz.prog 257 0 0:=.of kA
theorem Vs:QL Tryz.prog 257 1 1:=.of kA
theorem Vq:QL Tryz.prog 257 2 2:=.of kA
theorem zmj:Fun Tryz.prog 234:=.of Tryz.func234 kA kA
variable{I:Qv}{a:Option Addr}{n c k:Nat}{bs:List Nat}
theorem znV (hS:Sl I 1 VT a n c bs)(hb:∀ x∈bs,x<256)(rb:Nat)(hk:k≤n)(hn:n≤1000000):Y7 Tryz.prog 234 [ZE rb] I [(rb,.cells #[.slice a n c,.int .i64 (k:Nat),.bool false] 257 (0,0))] (fun v I' L'=>∃ (x k':Nat) (bad:Bool),v= .int .u8 x∧x<256∧k'≤n∧I'=I∧L'=[(rb,.cells #[.slice a n c,.int .i64 (k':Nat),.bool bad] 257 (0,0))]∧NxQ bs n k x k' bad):=by
 intro g H w hw;refine qe Tryz.func234 Tryz.ntmps234 hw ?_;have hIc:=zCA I;have hln:=hS.len;have hcap:=hS.cap;refine zR (zA (zN (Qm (Qm<|Kq mixed kA<|zq (Qe rfl)<|zq (QB rfl)<|zq (Qa rfl Vs) ?_))));refine zq (Qd rfl Qn (fun hg=>by exact Qz.h0 rfl))<|zq (Qe rfl)<|zq (QB rfl)<|zq (Qa rfl Wj) ?_
 refine zq (Qd rfl Jm (fun hg=>by exact Qz.h0 rfl))<|zq (QV rfl Ks)<|zq (QE rfl rfl rfl)<|Kt<|Qc ?_
 refine zI ?_ ?_<;>intro hc12
 ·
  refine zR (zM<|zV (QB rfl) ?_);refine zF Vq ?_;refine zS zgf ?_;refine zN (zR<|zA (zN (Qs (Qf ?_))));exact QA rfl rfl (fun w hw=>⟨_,I,_,rfl,hIc,hw.subL kF,0,k,true,rfl,by decide,hk,rfl,rfl,.inr ⟨rfl,by have h:=hc12;simp at h;omega,rfl,rfl⟩⟩)
 have hlt:k<n:=(by have h:=hc12;simp at h;omega);obtain ⟨x,hx⟩:∃ y,bs[k]? =some y:=⟨_,List.getElem?_eq_getElem kB⟩;have hx256:=hb x (List.mem_of_getElem? hx);refine Qp (Qc (zR (zM<|zV (QB rfl) ?_)));refine zF Vs ?_;refine zL Qn ?_;refine zB<|zV (QB rfl) ?_
 refine zF Vs ?_;refine zS UT<|zN (Qm<|Kq mixed kA<|zq (Qe rfl)<|zq (QB rfl)<|zq (Qa rfl Wj) ?_)
 refine zq (Qd rfl Jm (fun hg=>by exact Qz.h0 rfl))<|zq (Qe rfl)<|zq (QB rfl)<|zq (Qa rfl Vs) ?_
 refine zq (Qd rfl Qn (fun hg=>by exact Qz.h0 rfl)) ?_;refine zq (Yr rfl rfl rfl (fun hg=>kB)) ?_;rw [show ((k:Nat):Int)+1-1=((k:Nat):Int) by omega];refine zq (QC rfl rfl Ks kH (fun hg=>kB))<|zq (Qd rfl zu6 (fun hg=>by exact zCt hS hx rfl))<|zq (Qy rfl)<|Kt<|Qc (Qs ?_)
 exact QA rfl rfl (fun w hw=>⟨_,I,_,rfl,hIc,hw.subL kF,x,k+1,false,rfl,hx256,hlt,rfl,rfl,.inl ⟨rfl,hx,rfl⟩⟩)
variable{k0:Nat}
theorem zbK (hS:Sl I 1 VT a n c bs)(hb:∀ x∈bs,x<256)(rb:Nat)(hk:k0≤n)(hn:n≤1000000):Y7 Tryz.prog 235 [ZE rb] I [(rb,.cells #[.slice a n c,.int .i64 (k0:Nat),.bool false] 257 (0,0))] (fun v I' L'=>∃ (u k':Nat) (bad:Bool),v= .int .u64 u∧u<2^64∧k'≤n∧I'=I∧L'=[(rb,.cells #[.slice a n c,.int .i64 (k':Nat),.bool bad] 257 (0,0))]∧NuQ bs k0 u k' bad):=by
 intro g H w hw;refine qe Tryz.func235 Tryz.ntmps235 hw ?_;have hIc:=zCA I;have hln:=hS.len;refine zR (zA<|zN (zR<|zA (zN (Qm (zR<|zA (zN (Qr<|zU [(0,_)] (fun T L0 mz E I' loc'=>∃ (i:Nat) (u:Nat),mz=10-i∧E=(3,.int .u64 u)::(4,.int .i64 i)::T∧I=I'∧[(rb,.cells #[.slice a n c,.int .i64 (k0+i:Nat),.bool false] 257 (0,0))]=loc'∧i≤10∧k0+i≤n∧u<128^i∧VU 0 (bs.drop k0)=((VU i ((bs.drop k0).drop i)).map fun x=>(u+x.1,x.2))∧i≤9) ?_ (h:=⟨0,0,rfl,rfl,rfl,rfl,Nat.zero_le _,hk,by decide,zfT,Nat.zero_le _⟩))))))));rintro mz E I' loc' ⟨i,u,rfl,rfl,rfl,rfl,hi,hki,hu,hnum,hi9⟩;refine Qm (zR (zM<|zV (QB rfl) ?_));refine zF Vq ?_;refine zL XJ<|zO (zN ?_)
 refine zI ?_ ?_<;>intro hc10
 ·
  refine Qp (Qc (Qm (Qr (zR (zM<|zpc [_] rfl zmj (.cons .here .nil) (znV hS hb rb (k:=k0+i) kB hn) ?_)))));rintro vv2 I2 L2 hI2 ⟨c0,k1,b1,rfl,hc256,hk1,rfl,rfl,hq⟩;have hIc:=hIc.trans hI2;have hrc:=zpd (i:=i) (c:=c0) hi9;refine zA (zN (Qm (zR<|zM<|zC<|zM<|Qu 2 rfl rfl rfl ?_)));refine zK (Qe rfl) ?_;refine zK (QE rfl rfl rfl) ?_;refine QD rfl rfl rfl rfl rfl ?_;refine zM ?_;refine QK 6 rfl rfl rfl ?_;refine zJ (Qe rfl) ?_;refine zJ (QE rfl rfl rfl) ?_;refine zJ (Qe rfl) ?_;refine Qu 9 rfl rfl rfl ?_;refine zK (Qe rfl) ?_;refine zK (QE rfl rfl rfl)<|ztz rfl rfl rfl (.some rfl rfl rfl rfl gbf) rfl rfl<|Zf rfl rfl rfl rfl rfl<|zN ?_
  refine zI ?_ ?_<;>intro hc28
  ·
   have hcb:((i==0||c0 != 0)&&(decide (i<9)||decide (c0≤1)))=false:=(Bool.not_eq_true' _).mp (hrc.symm.trans hc28);refine zR (zM<|zV (QB rfl) ?_);refine zF Vq ?_;refine zS zgf ?_;refine zN (zR<|zA (zN (Qs (Qf (Qj (Qf (Qf (Qj<|Qf ?_))))))));exact QA rfl rfl (fun w hw=>⟨_,I2,_,rfl,hIc,hw.subL kF,0,k1,true,rfl,by decide,hk1,rfl,rfl,.inr ⟨rfl,rfl,zwc hln hnum hq hcb⟩⟩)
  have hcond:((i==0||c0 != 0)&&(decide (i<9)||decide (c0≤1)))=true:=(Bool.not_eq_false' _).mp (hrc.symm.trans hc28);have hsm:=ze7 hi9 hcond hu;refine Qp (Qc (zR (zM ?_)));refine zM<|zV (Y4 (Ya rfl rfl (fun hg=>by decide)) (congrArg (Value.int .u8) (zzb c0)))<|zV (Y4 (ZM rfl zgv) (congrArg (Value.int .u64) (ZS ⟨kB,kB⟩)))<|zM ?_
  refine zB<|zV (Y4 (zn8 rfl rfl (fun hg=>kB)) (congrArg (Value.int .u64) (zzL hi9 (by have:=hsm.1;omega))))<|zV (Y4 (UU rfl rfl rfl) (congrArg (Value.int .u64) (zth hsm.1)))<|zA<|zN (zR ?_)
  refine zM<|zC (zN ?_)
  refine zI ?_ ?_<;>intro hc41
  ·
   have hl:c0<128:=(by have h:=hc41;simp at h;omega);refine zR (zM<|zA (zN (Qs (Qj (Qf (Qf (Qj (Qf ?_))))))));exact QA rfl rfl (fun w hw=>⟨_,I2,_,rfl,hIc,hw.subL kF,_,k1,b1,rfl,hsm.1,hk1,rfl,rfl,zub hln hnum hq hcond hu hl⟩)
  have hge:¬c0<128:=(by have h:=hc41;simp at h;omega);obtain ⟨rfl,hc0,rfl⟩:=zuO hq hge;have hlt9:=znq hi9 hcond hge;refine Qp (Qi (Qc (Qh (zM ?_))));exact zB<|zA (Qb<|zm (h:=⟨10-(i+1),kB,i+1,_,rfl,rfl,rfl,rfl,kB,kB,hsm.2 hlt9,zjd hnum (zeF hc0) hcond hge,kB⟩))
 cases hc10
theorem zgV:Fun Tryz.prog 187:=.of Tryz.func187 kA kA
theorem zhJ:Fun Tryz.prog 235:=.of Tryz.func235 kA kA
def zBu (D:Nat):Prop:=∀ (dep:Int),0≤dep→dep+D=16→∀ {I:Qv} {a:Option Addr} {n c:Nat} {bs:List Nat} (_hS:Sl I 1 VT a n c bs) (_hb:∀ x∈bs,x<256) (rb:Nat) {k:Nat} (_hk:k≤n) (_hn:n≤100000),Y7 Tryz.prog 187 [ZE rb,.int .i64 dep] I [(rb,.cells #[.slice a n c,.int .i64 (k:Nat),.bool false] 257 (0,0))] (fun v I' L'=>∃ (cv:Vc) (k':Nat) (bad:Bool),v= .agg (Zd cv).toArray∧k'≤n∧L'=[(rb,.cells #[.slice a n c,.int .i64 (k':Nat),.bool bad] 257 (0,0))]∧VlQ D I' bs k cv k' bad)
variable{D:Nat}{dep:Int}
theorem zcB (ih:∀ D',D=D'+1→zBu D')(hdp0:0≤dep)(hdp:dep+D=16)(hS:Sl I 1 VT a n c bs)(hb:∀ x∈bs,x<256)(rb:Nat)(hk:k≤n)(hn:n≤100000):Y7 Tryz.prog 187 [ZE rb,.int .i64 dep] I [(rb,.cells #[.slice a n c,.int .i64 (k:Nat),.bool false] 257 (0,0))] (fun v I' L'=>∃ (cv:Vc) (k':Nat) (bad:Bool),v= .agg (Zd cv).toArray∧k'≤n∧L'=[(rb,.cells #[.slice a n c,.int .i64 (k':Nat),.bool bad] 257 (0,0))]∧VlQ D I' bs k cv k' bad):=by
 intro g H w hw;refine qe Tryz.func187 Tryz.ntmps187 hw ?_;have hIc:=zCA I;have hln:=hS.len;have hcap:=hS.cap;refine zR ?_;refine Qt Yv rfl rfl (fun b_4=>?_);refine zN (Qm (zR (zM ?_)));refine zpc [_] rfl zmj (.cons (.there .here) .nil) (znV hS hb rb hk kB) ?_;rintro vv1 I1 L1 hI1 ⟨c0,k1,b1,rfl,hc256,hk1,rfl,rfl,hq⟩;have hS:=hS.mono hI1;have hIc:=hIc.trans hI1;refine zN (Qr (zR (zC ?_)));refine zA (zN ?_);refine zI ?_ ?_<;>intro hc12
 ·
  have hcn:c0=1:=(by have h:=hc12;simp at h;omega);subst hcn;obtain ⟨rfl,hx0,rfl⟩:=zlo hq kD;refine zR (zM ?_);refine zpc [_] rfl zhJ (.cons .here .nil) (zbK hS hb rb (k0:=k+1) kB kB) ?_;rintro vv2 I2 L2 hI2 ⟨u,k2,b2,rfl,hu64,hk2,rfl,rfl,hnu⟩;have hIc:=hIc.trans hI2;refine zA (zN (Qm (zR ?_)));refine zM ?_;refine zV (Y4 (Ya rfl rfl (fun hg=>by decide)) (congrArg (Value.int .u64) (zBN u))) ?_;refine zC (zN ?_);refine zI ?_ ?_<;>intro hc18
  ·
   have hodd:u % 2=1:=(by have h:=hc18;simp at h;omega);refine zR (zM ?_);refine zV (Y4 (zmi rfl rfl (fun hg=>by decide)) (congrArg (Value.int .u64) (zBA hu64))) ?_;refine zV (Y4 (ZM rfl KK) (congrArg (Value.int .i64) (YA ⟨kB,kB⟩))) ?_;refine zV (zje rfl) ?_;rw [show IntKind.i64.wrap (0-((u / 2:Nat):Int))= -((u / 2:Nat):Int) by rw [YA ⟨kB,kB⟩];omega];refine zB ?_;rw [zxK hodd];refine zV (QF (ps:=[(0,_),(1,_)]) [_,_,_,_] Vo rfl rfl) ?_;refine zh Zs ?_;refine zN (Qs (Qf (Qj (Qf ?_))));exact ZN rfl rfl Zg Cells.g1 rfl (fun w hw=>⟨_,I2,_,rfl,hIc,hw.subL kF,⟨1,zcU u,⟨#[]⟩,none,0,0⟩,k2,b2,rfl,hk2,rfl,zsx hx0 hnu⟩)
  have hodd:¬u % 2=1:=(by have h:=hc18;simp at h;omega);refine Qp (Qc (zR (zM ?_)));refine zV (Y4 (zmi rfl rfl (fun hg=>by decide)) (congrArg (Value.int .u64) (zBA hu64))) ?_;refine zV (Y4 (ZM rfl KK) (congrArg (Value.int .i64) (YA ⟨kB,kB⟩))) ?_;rw [zze hodd];refine zV (QF (ps:=[(0,_),(1,_)]) [_,_,_,_] Vo rfl rfl) ?_;refine zh Zs ?_;refine zN (Qs (Qj (Qf ?_)));exact ZN rfl rfl Zg Cells.g1 rfl (fun w hw=>⟨_,I2,_,rfl,hIc,hw.subL kF,⟨1,zcU u,⟨#[]⟩,none,0,0⟩,k2,b2,rfl,hk2,rfl,zsx hx0 hnu⟩)
 have hn1:c0≠1:=(by have h:=hc12;simp at h;omega);refine zR (zC ?_);refine zA (zN ?_);refine zI ?_ ?_<;>intro hc29
 ·
  have hcn:c0=2:=(by have h:=hc29;simp at h;omega);subst hcn;obtain ⟨rfl,hx0,rfl⟩:=zlo hq kD;refine zR (zM ?_);refine zpc [_] rfl zhJ (.cons .here .nil) (zbK hS hb rb (k0:=k+1) kB kB) ?_;rintro vv3 I3 L3 hI3 ⟨u,k2,b2,rfl,hu64,hk2,rfl,rfl,hnu⟩;have hS:=hS.mono hI3;have hIc:=hIc.trans hI3;refine zA (zN (Qm (Qm ?_)));refine Kq mixed kA ?_;refine zq (Qe rfl) ?_;refine zq (QB rfl) ?_;refine zq (Qa rfl Vq) ?_;refine zq (Qd rfl XJ (fun hg=>by exact Qz.h0 rfl)) ?_;refine zq (Qe rfl) ?_;refine Vx 4 rfl rfl rfl ?_;refine zj (Qe rfl) ?_;refine zj (Qe rfl) ?_;refine zj (QB rfl) ?_;refine zj (Qa rfl Wj) ?_;refine zj (Qd rfl Jm (fun hg=>by exact Qz.h0 rfl)) ?_;refine zj (QV rfl Ks) ?_;refine zj (Qe rfl) ?_;refine zj (QB rfl) ?_;refine zj (Qa rfl Vs) ?_;refine zj (Qd rfl Qn (fun hg=>by exact Qz.h0 rfl)) ?_;refine zj (Yr rfl rfl rfl (fun hg=>kB)) ?_;refine zj (Y4 (ZM rfl VA) (congrArg (Value.int .u64) (ZS ⟨kB,kB⟩))) ?_;refine zj (QE rfl rfl rfl) ?_;refine KY rfl rfl rfl rfl rfl ?_;refine Kt ?_;refine Qc ?_;refine zI ?_ ?_<;>intro hc51
  ·
   refine zR (zM ?_);refine zV (QB rfl) ?_;refine zF Vq ?_;refine zS zgf ?_;refine zN (zR ?_);refine zV (QF (ps:=[]) [_,_,_,_] Vo rfl rfl) ?_;refine zh Zs ?_;refine zN (Qs (Qf (Qj (Qf ?_))));exact ZN rfl rfl Zg Cells.g1 rfl (fun w hw=>⟨_,I3,_,rfl,hIc,hw.subL kF,Ul,k2,true,rfl,hk2,rfl,.inr ⟨rfl,zp0 hln hk2 hx0 hnu hc51⟩⟩)
  obtain ⟨rfl,hfit,hlen⟩:=zsi hln hk2 hnu hc51;refine Qp (Qc (zR (zM ?_)));refine zM ?_;refine zV (QB rfl) ?_;refine zF Vs ?_;refine zL Qn ?_;refine zM ?_;refine zV (Y4 (ZM rfl KK) (congrArg (Value.int .i64) (YA ⟨kB,kB⟩))) ?_;refine zB ?_;rw [show ((k2:Nat):Int)+((u:Nat):Int)=((k2+u:Nat):Int) by omega];refine zV (QB rfl) ?_;refine zF Vs ?_;refine zS UT ?_;refine zN (Qm ?_);have hD:=zCA I3;refine Zm ?_;refine QI I3 [(rb,.cells #[.slice a n c,.int .i64 (k2+u:Nat),.bool false] 257 (0,0))] mixed ?_;refine zT 0 rfl (Qe rfl) hD ?_;refine zT 1 rfl (QB rfl) hD ?_;refine zT 2 rfl (Qa rfl Wj) hD ?_;refine zT 3 rfl (Qd rfl Jm (fun hg=>by exact Qz.h0 rfl)) hD ?_;refine zT 4 rfl (Qe rfl) hD ?_;refine zT 5 rfl (QB rfl) hD ?_;refine zT 6 rfl (Qa rfl Vs) hD ?_;refine zT 7 rfl (Qd rfl Qn (fun hg=>by exact Qz.h0 rfl)) hD ?_;refine zT 8 rfl (Qe rfl) hD ?_;refine zT 9 rfl (Y4 (ZM rfl KK) (congrArg (Value.int .i64) (YA ⟨kB,kB⟩))) hD ?_;refine zT 10 rfl (Yr rfl rfl rfl (fun hg=>kB)) hD ?_;rw [show ((k2+u:Nat):Int)-((u:Nat):Int)=((k2:Nat):Int) by omega];refine zT 11 rfl (Qe rfl) hD ?_;refine zT 12 rfl (QB rfl) hD ?_;refine zT 13 rfl (Qa rfl Vs) hD ?_;refine zT 14 rfl (Qd rfl Qn (fun hg=>by exact Qz.h0 rfl)) hD ?_;refine zT 15 rfl (zju rfl rfl rfl Ks (fun hg=>kB)) hD ?_;refine zT 16 rfl (Y4 (Zp rfl bst (fun hg=>Sl.part hS (k:=k2) (q:=k2+u) kB kB)) (congrArg (fun l=>Value.string (UR l)) (zu2 (bs:=bs) (k2:=k2) (u:=u)))) hD ?_;refine zT 17 rfl (QF (ps:=[(0,_),(2,_)]) [_,_,_,_] Vo rfl rfl) hD ?_;refine qd 18 rfl ?_;refine zh Zs ?_;refine Qb ?_;refine zD hD ?_;refine Qo kA ?_;refine Qw ?_;refine Qc (Qs (Qj (Qf ?_)));exact ZN rfl rfl Zg Cells.g1 rfl (fun w hw=>⟨_,I3,_,rfl,hIc,hw.subL kF,⟨2,0,UR ((bs.drop k2).take u),none,0,0⟩,(k2+u),false,rfl,kB,rfl,zuq hx0 hlen⟩)
 have hn2:c0≠2:=(by have h:=hc29;simp at h;omega);refine zR (zC ?_);refine zA (zN ?_);refine zI ?_ ?_<;>intro hc84
 ·
  have hcn:c0=3:=(by have h:=hc84;simp at h;omega);subst hcn;obtain ⟨rfl,hx0,rfl⟩:=zlo hq kD;refine zR (zM ?_);refine zpc [_] rfl zhJ (.cons .here .nil) (zbK hS hb rb (k0:=k+1) kB kB) ?_;rintro vv4 I4 L4 hI4 ⟨u,k2,b2,rfl,hu64,hk2,rfl,rfl,hnu⟩;have hS:=hS.mono hI4;have hIc:=hIc.trans hI4;refine zA (zN (Qm (Qm ?_)));refine Kq mixed kA ?_;refine zq (Qe rfl) ?_;refine zq (QB rfl) ?_;refine zq (Qa rfl Vq) ?_;refine zq (Qd rfl XJ (fun hg=>by exact Qz.h0 rfl)) ?_;refine zq (Qe rfl) ?_;refine Vx 4 rfl rfl rfl ?_;refine zj (Qe rfl) ?_;refine zj (Qe rfl) ?_;refine zj (QB rfl) ?_;refine zj (Qa rfl Wj) ?_;refine zj (Qd rfl Jm (fun hg=>by exact Qz.h0 rfl)) ?_;refine zj (QV rfl Ks) ?_;refine zj (Qe rfl) ?_;refine zj (QB rfl) ?_;refine zj (Qa rfl Vs) ?_;refine zj (Qd rfl Qn (fun hg=>by exact Qz.h0 rfl)) ?_;refine zj (Yr rfl rfl rfl (fun hg=>kB)) ?_;refine zj (Y4 (ZM rfl VA) (congrArg (Value.int .u64) (ZS ⟨kB,kB⟩))) ?_;refine zj (QE rfl rfl rfl) ?_;refine KY rfl rfl rfl rfl rfl ?_;refine zq (Qe rfl) ?_;refine Vx 19 rfl rfl rfl ?_;refine zj (Qe rfl) ?_;refine zj (QE rfl rfl rfl) ?_;refine KY rfl rfl rfl rfl rfl ?_;refine Kt ?_;refine Qc ?_;refine zI ?_ ?_<;>intro hc110
  ·
   refine zR (zM ?_);refine zV (QB rfl) ?_;refine zF Vq ?_;refine zS zgf ?_;refine zN (zR ?_);refine zV (QF (ps:=[]) [_,_,_,_] Vo rfl rfl) ?_;refine zh Zs ?_;refine zN (Qs (Qf (Qj (Qf ?_))));exact ZN rfl rfl Zg Cells.g1 rfl (fun w hw=>⟨_,I4,_,rfl,hIc,hw.subL kF,Ul,k2,true,rfl,hk2,rfl,.inr ⟨rfl,zqv hln hk2 hdp hx0 hnu hc110⟩⟩)
  have hcc:=hc110;rw [Bool.or_eq_false_iff] at hcc;obtain ⟨rfl,hfit,hlen⟩:=zsi hln hk2 hnu hcc.1;obtain ⟨D',rfl⟩:∃ D',D=D'+1:=⟨D-1,by have h:=hcc.2;simp at h;omega⟩;have hih:=ih D' rfl;refine Qp (Qc (zR ?_));refine zV (QF (ps:=[(0,_)]) [_,_,_,_] Vo rfl rfl) ?_;refine Qt Yv rfl rfl (fun b_8=>?_);refine zh Zs ?_;refine zN (Qm (Qm ?_));refine zr3 (_::_::_) (.swap _ _ _) ?_;refine Qh (zA (zN (Qr ?_)));refine zU [(0,_),(1,_),(4,_),(7,_),(8,_)] (fun T L0 mz E I' loc'=>∃ (i:Nat) (v3:Value) (hs:List Vc) (k3:Nat) (b3:Bool) (L:Go.Kn.Loc),mz=u-i∧E=(9,.int .u64 i)::T∧HLe I4 I'∧L++[(rb,.cells #[.slice a n c,.int .i64 (k3:Nat),.bool b3] 257 (0,0)),(b_8,.cells #[.int .i64 3,.int .i64 0,.string ⟨#[]⟩,v3] 158 (0,0)),(b_4,.cells (Zd Ul).toArray 158 (0,0))]=loc'∧i≤u∧ZP 158 4 v3 hs.length (hs.flatMap Zd) L∧LoB D' I' bs u k2 i hs k3 b3∧hs.length≤i∧k3≤n) ?_ (h:=⟨0,_,[],k2,false,[],rfl,rfl,zCA _,rfl,Nat.zero_le _,ZP.nil,LoB.start,Nat.le_refl _,hk2⟩);rintro mz E J5 loc' ⟨i,v3,hs,k3,b3,L,rfl,rfl,hJ,rfl,hi,hO,hlo,hhi,hk3⟩;have hS:=hS.mono hJ;have hIc:=hIc.trans hJ;have hB1:=hJ;refine Qm (zR (zM ?_));refine zM ?_;refine zC ?_;refine zM ?_;refine Qu 3 rfl rfl rfl ?_;refine zK (Qe rfl) ?_;refine zK (QB rfl) ?_;refine zK (Qa rfl Vq) ?_;refine zK (Qd rfl XJ (fun hg=>by (repeat (first | exact zCv rfl | apply zCu | apply zCw)))) ?_;refine zK (Zy rfl) ?_;refine QD rfl rfl rfl rfl rfl ?_;refine zN ?_;refine zI ?_ ?_<;>intro hc125
  ·
   have hlt_i:i<u:=(by have h:=hc125;simp at h;omega);obtain rfl:b3=false:=(by have h:=hc125;simp at h;exact h.2);refine Qp (Qc (Qm (Qr ?_)));have hD:=zCA J5;refine Zm ?_;refine QI J5 [] mixed ?_;refine zT 0 rfl (Qa rfl QN) hD ?_;refine zT 2 rfl (Qe rfl) hD ?_;refine zT 3 rfl (Qe rfl) hD ?_;refine zT 4 rfl (Yr rfl rfl rfl (fun hg=>kB)) hD ?_;refine QS 1 5 rfl rfl kA ?_ ?_
   ·
    refine zV (Qd rfl Zh (fun hg=>by (repeat (first | exact zCv rfl | apply zCu | apply zCw)))) ?_;refine Qb ?_;refine zD hD ?_;refine qd 5 rfl ?_;refine zpc [_,_] rfl zgV (by repeat (first | exact .cons .here .nil | exact Zb | exact QR | apply Q0 | apply QX)) (hih (dep+1) kB (by push_cast at hdp;omega) hS hb rb hk3 hn) ?_;rintro vv6 I6 L6 hI6 ⟨cv,k4,b4,rfl,hk4,rfl,hvl⟩;have hlo:=hlo.mono hI6;have hB1:=hB1.trans hI6;have hD:=hD.trans hI6;refine Qb ?_;refine zD hD ?_;refine qd 6 rfl ?_;refine zpb [(0,_)] [Zd cv] ZA (fun b_134=>?_);refine Qb ?_;refine zD hD ?_;refine qd 7 rfl ?_;refine zpa (_) ([cv].flatMap Zd) (L) rfl rfl ZA hO ⟨rfl,fun _=>rfl,by repeat (first | exact zCy | apply zCx | apply zCz)⟩ (VL [cv]) ?_;intro v9 L9 hO9 _;rw [←List.flatMap_append] at hO9;obtain ⟨a8,c8,rfl⟩:=hO9.shape;refine Qb ?_;refine zD hD ?_;refine zT 8 rfl (Qa rfl QN) hD ?_;refine qd 9 rfl ?_;refine zS YR ?_;refine Qb ?_;refine zD hD ?_;refine Qo kA ?_;refine Qw ?_;refine Qi (Qc (Qh (zM ?_)));refine zV (Y4 (UU rfl rfl rfl) (congrArg (Value.int .u64) (zee kB))) ?_;refine zA (Qb ?_);exact zm (h:=⟨u-(i+1),kB,i+1,_,hs++[cv],k4,b4,L9,rfl,rfl,hB1,rfl,kB,by rw [List.length_append,List.length_singleton];exact hO9,hlo.step hlt_i hvl,by rw [List.length_append,List.length_singleton];omega,hk4⟩)
   refine zpc [_,_] rfl zgV (by repeat (first | exact .cons .here .nil | exact Zb | exact QR | apply Q0 | apply QX)) (hih (dep+1) kB (by push_cast at hdp;omega) hS hb rb hk3 hn) ?_;rintro vv7 I7 L7 hI7 ⟨cv,k4,b4,rfl,hk4,rfl,hvl⟩;have hlo:=hlo.mono hI7;have hB1:=hB1.trans hI7;have hD:=hD.trans hI7;refine Qb ?_;refine zD hD ?_;refine QS 1 6 rfl rfl kA ?_ ?_
   ·
    refine zV (Qd rfl Zh (fun hg=>by (repeat (first | exact zCv rfl | apply zCu | apply zCw)))) ?_;refine Qb ?_;refine zD hD ?_;refine qd 6 rfl ?_;refine zpb [(0,_)] [Zd cv] ZA (fun b_134=>?_);refine Qb ?_;refine zD hD ?_;refine qd 7 rfl ?_;refine zpa (_) ([cv].flatMap Zd) (L) rfl rfl ZA hO ⟨rfl,fun _=>rfl,by repeat (first | exact zCy | apply zCx | apply zCz)⟩ (VL [cv]) ?_;intro v9 L9 hO9 _;rw [←List.flatMap_append] at hO9;obtain ⟨a8,c8,rfl⟩:=hO9.shape;refine Qb ?_;refine zD hD ?_;refine zT 8 rfl (Qa rfl QN) hD ?_;refine qd 9 rfl ?_;refine zS YR ?_;refine Qb ?_;refine zD hD ?_;refine Qo kA ?_;refine Qw ?_;refine Qi (Qc (Qh (zM ?_)));refine zV (Y4 (UU rfl rfl rfl) (congrArg (Value.int .u64) (zee kB))) ?_;refine zA (Qb ?_);exact zm (h:=⟨u-(i+1),kB,i+1,_,hs++[cv],k4,b4,L9,rfl,rfl,hB1,rfl,kB,by rw [List.length_append,List.length_singleton];exact hO9,hlo.step hlt_i hvl,by rw [List.length_append,List.length_singleton];omega,hk4⟩)
   refine zpb [(0,_)] [Zd cv] ZA (fun b_134=>?_);refine Qb ?_;refine zD hD ?_;refine qd 1 rfl ?_;refine zV (Qd rfl Zh (fun hg=>by (repeat (first | exact zCv rfl | apply zCu | apply zCw)))) ?_;refine Qb ?_;refine zD hD ?_;refine qd 7 rfl ?_;refine zpa (_) ([cv].flatMap Zd) (L) rfl rfl ZA hO ⟨rfl,fun _=>rfl,by repeat (first | exact zCy | apply zCx | apply zCz)⟩ (VL [cv]) ?_;intro v9 L9 hO9 _;rw [←List.flatMap_append] at hO9;obtain ⟨a8,c8,rfl⟩:=hO9.shape;refine Qb ?_;refine zD hD ?_;refine zT 8 rfl (Qa rfl QN) hD ?_;refine qd 9 rfl ?_;refine zS YR ?_;refine Qb ?_;refine zD hD ?_;refine Qo kA ?_;refine Qw ?_;refine Qi (Qc (Qh (zM ?_)));refine zV (Y4 (UU rfl rfl rfl) (congrArg (Value.int .u64) (zee kB))) ?_;refine zA (Qb ?_);exact zm (h:=⟨u-(i+1),kB,i+1,_,hs++[cv],k4,b4,L9,rfl,rfl,hB1,rfl,kB,by rw [List.length_append,List.length_singleton];exact hO9,hlo.step hlt_i hvl,by rw [List.length_append,List.length_singleton];omega,hk4⟩)
  refine zx4 hO Vd (fun I8 hI8 a9 c9 e9 hS9=>?_);subst e9;have hlo:=hlo.mono hI8;have hIc:=hIc.trans hI8;refine Q6 (Ql (Ql (Qq (Qc (zR ?_)))));refine zV (Qg rfl Zg (fun hg=>by exact Cells.g1) rfl) ?_;refine zh Zs ?_;refine zN (Qs (Qj (Qf ?_)));exact ZN rfl rfl Zg Cells.g2 rfl (fun w hw=>⟨_,I8,_,rfl,hIc,hw.subL kF,⟨3,0,⟨#[]⟩,a9,hs.length,c9⟩,k3,b3,rfl,hk3,rfl,zwf hx0 hlen hlo hc125 hS9⟩)
 have hn3:c0≠3:=(by have h:=hc84;simp at h;omega);refine Qp (Qi (Qc (zR (zM ?_))));refine zV (QB rfl) ?_;refine zF Vq ?_;refine zS zgf ?_;refine zN (zR ?_);refine zV (QF (ps:=[]) [_,_,_,_] Vo rfl rfl) ?_;refine zh Zs ?_;refine zN (Qs ?_);exact ZN rfl rfl Zg Cells.g1 rfl (fun w hw=>⟨_,I1,_,rfl,hIc,hw.subL kF,Ul,k1,true,rfl,hk1,rfl,.inr ⟨rfl,zz6 hln hq hn1 hn2 hn3⟩⟩)
theorem zur:PlT Tryz.prog 257 #[(0,1),(1,1),(2,1)] (.agg #[(.slice none 0 0),(.int .i64 0),(.bool false)]):=⟨.of kA,kA,fun w=>kA⟩
theorem zxc (D:Nat):zBu D:=by
 induction D with
 | zero=>intro dep h0 hdp I a n c bs hS hb rb k hk hn;exact zcB (D:=0) (fun D' h=>kB) h0 hdp hS hb rb hk hn
 | succ D ih=>intro dep h0 hdp I a n c bs hS hb rb k hk hn;exact zcB (D:=D+1) (fun D' h=>Nat.succ.inj h ▸ ih) h0 hdp hS hb rb hk hn
theorem zld (hS:Sl I 1 VT a n c bs)(hb:∀ x∈bs,x<256)(hn:n≤100000):Y7 Tryz.prog 132 [.slice a n c] I [] (zjH bs):=by
 intro g H w hw;refine qe Tryz.func132 Tryz.ntmps132 hw ?_;have hIc:=zCA I;have hln:=hS.len;refine zR<|Qt Yv rfl rfl (fun b_2=>?_)
 refine zA<|zN (zR ?_)
 refine zM<|zV (QF (ps:=[(0,_)]) [_,_,_] zur rfl rfl)<|QQ rfl rfl rfl (fun b_8=>zA<|zN (zR ?_))
 refine zM<|zpc [_,_] rfl zgV (.cons .here .nil) (zxc 16 0 kD rfl hS hb b_8 (k:=0) kB hn) ?_
 rintro vv1 I1 L1 hI1 ⟨cv,k2,b2,rfl,hk2,rfl,hvl⟩;have hS:=hS.mono hI1;have hIc:=hIc.trans hI1;have h3:=znA hln hk2 hb hn hvl;refine Qt Yv rfl rfl (fun b_5=>zh Zs<|zN (Qm (Qm ?_)));rcases h3 with ⟨rfl,hdn⟩ | ⟨rfl,hkn,hdn⟩ | ⟨rfl,hkn,x,hdx,hxr,henc,hdp,hok⟩
 ·
  have hD:=zCA I1;refine Zm<|QI I1 [(b_5,.cells (Zd cv).toArray 158 (0,0)),(b_8,.cells #[.slice a n c,.int .i64 (k2:Nat),.bool true] 257 (0,0))] mixed<|zT 0 rfl (Qe rfl) hD<|zT 1 rfl (QB rfl) hD<|zT 2 rfl (Qa rfl Vq) hD<|zT 3 rfl (Qd rfl XJ (fun hg=>by exact Qz.h1 rfl)) hD<|zT 4 rfl (Qe rfl) hD ?_
  refine zW 5 15 hD ?_;refine zW 6 15 hD ?_;refine zW 7 15 hD ?_;refine zW 8 15 hD ?_;refine zW 9 15 hD ?_;refine zW 10 15 hD ?_;refine zW 11 15 hD<|zT 12 rfl (Yg rfl rfl rfl) hD<|zT 13 rfl (Qe rfl) hD ?_
  refine zW 14 24 hD ?_;refine zW 15 24 hD ?_;refine zW 16 24 hD<|zT 17 rfl (Yg rfl rfl rfl) hD<|zT 18 rfl (Qe rfl) hD ?_
  refine zW 19 29 hD ?_;refine zW 20 29 hD ?_;refine zW 21 29 hD ?_;refine zW 22 29 hD ?_;refine zW 23 29 hD ?_;refine zW 24 29 hD<|zT 25 rfl (Yg rfl rfl rfl) hD<|Qo kA<|Qw<|Qc ?_
  refine zI ?_ ?_<;>intro hc36
  ·
   refine zR<|zV (QF (ps:=[]) [_,_,_,_] Vo rfl rfl) ?_
   refine zh Zs ?_;refine zA (zN (Qs (Qf ?_)));exact Zz rfl rfl rfl Zg Cells.g2 rfl (fun w hw=>⟨_,I1,[],rfl,hIc,hw.subL Qx,zjH.bad hdn⟩)
  cases hc36
 ·
  have hD:=zCA I1;refine Zm<|QI I1 [(b_5,.cells (Zd cv).toArray 158 (0,0)),(b_8,.cells #[.slice a n c,.int .i64 (k2:Nat),.bool false] 257 (0,0))] mixed<|zT 0 rfl (Qe rfl) hD<|zT 1 rfl (QB rfl) hD<|zT 2 rfl (Qa rfl Vq) hD<|zT 3 rfl (Qd rfl XJ (fun hg=>by exact Qz.h1 rfl)) hD<|zT 4 rfl (Qe rfl) hD<|zw 5 15 rfl (Qe rfl) hD<|zw 6 15 rfl (QB rfl) hD<|zw 7 15 rfl (Qa rfl Vs) hD<|zw 8 15 rfl (Qd rfl Qn (fun hg=>by exact Qz.h1 rfl)) hD<|zw 9 15 rfl (Qe rfl) hD ?_
  refine zw 10 15 rfl (QV rfl Ks) hD<|zw 11 15 rfl (QE rfl rfl rfl) hD ?_
  rw [hkn];refine zT 12 rfl (QY rfl rfl rfl) hD<|zT 13 rfl (Qe rfl) hD ?_
  refine zW 14 24 hD ?_;refine zW 15 24 hD ?_;refine zW 16 24 hD<|zT 17 rfl (Yg rfl rfl rfl) hD<|zT 18 rfl (Qe rfl) hD ?_
  refine zW 19 29 hD ?_;refine zW 20 29 hD ?_;refine zW 21 29 hD ?_;refine zW 22 29 hD ?_;refine zW 23 29 hD ?_;refine zW 24 29 hD<|zT 25 rfl (Yg rfl rfl rfl) hD<|Qo kA<|Qw<|Qc ?_
  refine zI ?_ ?_<;>intro hc36
  ·
   refine zR<|zV (QF (ps:=[]) [_,_,_,_] Vo rfl rfl) ?_
   refine zh Zs ?_;refine zA (zN (Qs (Qf ?_)));exact Zz rfl rfl rfl Zg Cells.g2 rfl (fun w hw=>⟨_,I1,[],rfl,hIc,hw.subL Qx,zjH.bad hdn⟩)
  cases hc36
 have hD:=zCA I1;refine Zm<|QI I1 [(b_5,.cells (Zd cv).toArray 158 (0,0)),(b_8,.cells #[.slice a n c,.int .i64 (k2:Nat),.bool false] 257 (0,0))] mixed<|zT 0 rfl (Qe rfl) hD<|zT 1 rfl (QB rfl) hD<|zT 2 rfl (Qa rfl Vq) hD<|zT 3 rfl (Qd rfl XJ (fun hg=>by exact Qz.h1 rfl)) hD<|zT 4 rfl (Qe rfl) hD<|zw 5 15 rfl (Qe rfl) hD<|zw 6 15 rfl (QB rfl) hD<|zw 7 15 rfl (Qa rfl Vs) hD<|zw 8 15 rfl (Qd rfl Qn (fun hg=>by exact Qz.h1 rfl)) hD<|zw 9 15 rfl (Qe rfl) hD ?_
 refine zw 10 15 rfl (QV rfl Ks) hD<|zw 11 15 rfl (QE rfl rfl rfl) hD ?_
 rw [hkn];refine zT 12 rfl (QY rfl rfl rfl) hD<|zT 13 rfl (Qe rfl) hD<|zw 14 24 rfl (Qg rfl Zg (fun hg=>by exact Cells.g0) rfl) hD<|qd 15 rfl<|QM (dj:=24) rfl rfl rfl<|qcV (vs:=[_]) rfl zoE (zhW hxr hdp hok (by rw [henc];omega))<|Qb<|zD hD<|zw 16 24 rfl (QE rfl rfl rfl) hD<|zT 17 rfl (QY rfl rfl rfl) hD<|zT 18 rfl (Qe rfl) hD<|zw 19 29 rfl (Qg rfl Zg (fun hg=>by exact Cells.g0) rfl) hD ?_
 refine zw 22 29 rfl (Qe rfl) hD<|zw 23 29 rfl (Zp rfl bst (fun hg=>hS)) hD<|qd 20 rfl<|QM (dj:=29) rfl rfl rfl<|zpc [_] rfl zgD .nil (zfb _ x (Nat.le_refl _) (fun _ _=>trivial) hxr hok (by rw [henc];omega)) ?_
 rintro vv2 I2 L2 hI2 ⟨rfl,a9,c9,rfl,hS9⟩;have hvl:=hvl.mono hI2;have hIc:=hIc.trans hI2;have hD:=hD.trans hI2;refine Qb<|zD hD<|qd 21 rfl<|QM (dj:=29) rfl rfl rfl<|zV (Zp rfl bst (fun hg=>hS9))<|Qb<|zD hD<|zw 24 29 rfl (Y4 (Ke rfl rfl rfl) (congrArg Value.bool (zkX henc))) hD<|zT 25 rfl (QY rfl rfl rfl) hD<|Qo kA<|Qw<|Qc ?_
 refine zI ?_ ?_<;>intro hc36
 ·
  cases hc36
 refine Qp (Qc (zR<|zV (Qg rfl Zg (fun hg=>by exact Cells.g0) rfl) ?_));refine zh Zs ?_;refine zA (zN (Qs ?_));exact Zz rfl rfl rfl Zg Cells.g2 rfl (fun w hw=>⟨_,I2,[],rfl,hIc,hw.subL Qx,zjH.ok hdx (zzX hvl hdx)⟩)
def zwD (I:Qv)(ys:List Vc)(n:Nat)(b:Bool)(a:Option Addr)(m c:Nat):Prop:=
 (b=true∧m=n∧Sl I 1 ZX a m c (ys.map (·.n))∧∀ (j:Nat) (y:Vc),ys[j]? =some y→(y.k != 1)=false)∨(b=false∧∃ (j:Nat) (y:Vc),ys[j]? =some y∧(y.k != 1)=true)
variable{ys:List Vc}{b:Bool}{m:Nat}
theorem zwD.mono {I':Qv}(h:zwD I ys n b a m c)(hI:HLe I I'):zwD I' ys n b a m c:=by
 rcases h with ⟨h1,h2,h3,h4⟩ | h
 ·
  exact .inl ⟨h1,h2,h3.mono hI,h4⟩
 ·
  exact .inr h
section
variable {I:Qv} {bs:List Nat} {cv:Vc} {l:List Va} {hs:List Vc} {u v w:Vc} {q:List Va} {qs:List Vc} {b:Bool} {a:Option Addr} {m c:Nat}
theorem ziG (h:RdP I bs cv l hs)(hi:zwD I (hs.take 42) 42 b a m c)(hu:hs[42]? =some u)(hv:hs[43]? =some v)(hw:hs[44]? =some w):
  ((((!b||u.k != 3)||v.k != 2)||w.k != 2)=true→okN bs=none)∧((((!b||u.k != 3)||v.k != 2)||w.k != 2)=false→b=true∧m=42∧Sl I 1 ZX a m c ((hs.take 42).map (·.n))∧∃ q qs,RtP I bs l hs u v w q qs):=by
 rcases hi with ⟨rfl,h2,h3,h4⟩ | ⟨rfl,j,y,hy,hne⟩
 ·
  have hall:∀ j y,j<42→hs[j]? =some y→(y.k != 1)=false:=fun j y hj hy=>h4 j y (by rw [List.getElem?_take,if_pos hj];exact hy);have ht:=zhv h hall hu hv hw;exact ⟨fun e=>ht.1 (by simpa using e),fun e=>⟨rfl,h2,h3,ht.2 (by simpa using e)⟩⟩
 ·
  rw [List.getElem?_take] at hy;split at hy
  ·
   rename_i hj;exact ⟨fun _=>zr1 h hj hy hne,fun e=>by simp at e⟩
  ·
   cases hy
theorem zlw (h:RtP I bs l hs u v w q qs)(hi:zwD I qs u.m b a m c):(b=false→okN bs=none)∧(b=true→m=u.m∧Sl I 1 ZX a m c (qs.map (·.n))∧∀ j y,j<qs.length→qs[j]? =some y→(y.k != 1)=false):=by
 rcases hi with ⟨rfl,h2,h3,h4⟩ | ⟨rfl,j,y,hy,hne⟩
 ·
  exact ⟨fun e=>by simp at e,fun _=>⟨h2,h3,fun j y _ hy=>h4 j y hy⟩⟩
 ·
  exact ⟨fun _=>zml h hy hne,fun e=>by simp at e⟩
theorem Zo {I:Qv}{loc:Go.Kn.Loc}{hs:List Vc}{a:Option Addr}{c:Nat}(hL:Sl I 1 ZX a 42 c ((hs.take 42).map (·.n)))(hm:42≤hs.length)(k:Nat)(hk:k<42):Qz I loc (Ab a) (Ao a+k*1) (.int .i64 (zdA hs 42 k)):=by
 obtain ⟨y,hy⟩:∃ y,hs[k]? =some y:=⟨_,List.getElem?_eq_getElem kB⟩;have e:zdA hs 42 k=y.n:=(by unfold zdA;rw [if_pos hk,List.getD_eq_getElem?_getD,hy];rfl);rw [e];exact zCt hL (by rw [List.getElem?_map,List.getElem?_take,if_pos hk,hy];rfl) rfl
theorem zmq {x:Va}(h:isI x=true)(hok:Va.ok x): -9223372036854775808≤zis x∧zis x≤9223372036854775807:=by
 cases x with
 | int n=>exact hok
 | text s=>cases h
 | list l=>cases h
theorem zBO (h:RtP I bs l hs u v w q qs)(hb:∀ c∈bs,c<256)(hl:bs.length<2^63)(hall:∀ j y,j<qs.length→qs[j]? =some y→(y.k != 1)=false)(a:Option Addr)(n c:Nat):NtW (Up (zdA hs 42) a n c (qs.map (·.n)) v.s w.s):=by
 have hok:Va.okL l:=by
  have hd:=h.dec;unfold zaf at hd
  cases e:Ku 16 bs with
  | none=>rw [e] at hd;cases hd
  | some x=>
   obtain ⟨x,r⟩:=x;rw [e] at hd
   cases r with
   | nil=>cases hd;exact (zbw hb hl e).2.2.2
   | cons _ _=>cases hd
 constructor
 ·
  intro y hy;rw [show Y3 (Up (zdA hs 42) a n c (qs.map (·.n)) v.s w.s)=(List.range 42).map (zdA hs 42) from rfl] at hy;obtain ⟨j,hj,rfl⟩:=List.mem_map.1 hy;have hj':j<42:=List.mem_range.1 hj;rw [←h.nums j hj'];obtain ⟨x,hx⟩:∃ x,l[j]? =some x:=⟨_,List.getElem?_eq_getElem (by rw [h.len];omega)⟩;rw [List.getD_eq_getElem?_getD,hx];refine zmq ?_ (zaw hok hx);exact List.all_eq_true.1 h.ints x (List.mem_of_getElem? (i:=j) (by rw [List.getElem?_take,if_pos hj',hx]))
 ·
  intro y hy;have hy':y∈qs.map (·.n):=hy;obtain ⟨z,hz,rfl⟩:=List.mem_map.1 hy';obtain ⟨j,hj⟩:=List.mem_iff_getElem?.1 hz;have hjl:=(List.getElem?_eq_some_iff.1 hj).1;obtain ⟨s,s2,hd,_,_⟩:=h.drop
  have h42:l[42]? =some (.list q):=by
   have:=congrArg (fun l=>l[0]?) hd;simpa [List.getElem?_drop] using this
  have hq:Va.okL q:=(zaw hok h42).2;obtain ⟨x,hx⟩:∃ x,q[j]? =some x:=⟨_,List.getElem?_eq_getElem (by rw [h.qlen];exact hjl)⟩;have hr:=h.rel j x z hx hj;have hi:isI x=true:=(by rw [zag hr];simpa using hall j z hjl hj);rw [←zd2 hr hi];exact zmq hi (zaw hq hx)
end
theorem zkS (hS:Sl I 4 Zd a n c ys)(hn:n≤100000):Y7 Tryz.prog 133 [.slice a n c] I [] (fun v I' L'=>L'=[]∧∃ (b:Bool) (a':Option Addr) (m c':Nat),v= .tuple #[.slice a' m c',.bool b]∧zwD I' ys n b a' m c'):=by
 intro g H w hw;refine qe Tryz.func133 Tryz.ntmps133 hw ?_;have hIc:=zCA I;have hln:=hS.len;refine zR (zA<|zA<|zN (zR<|zA (zN (Qm (zR<|zA (zN (Qr<|zU [(0,_)] (fun T L0 mz E I' loc'=>∃ (k:Nat) (v:Value) (L:Go.Kn.Loc),mz=n-k∧E=(4,v)::(5,.int .i64 k)::T∧I=I'∧L=loc'∧k≤n∧ZP 3 1 v k (((ys.take k).map (·.n)).flatMap ZX) L∧(∀ j y,j<k→ys[j]? =some y→(y.k != 1)=false)) ?_ (h:=⟨0,_,[],rfl,rfl,rfl,rfl,Nat.zero_le _,ZP.nil,fun j y h=>absurd h (Nat.not_lt_zero _)⟩))))))));rintro mz E I' loc' ⟨k,v,L,rfl,rfl,rfl,rfl,hk,hO,hall⟩;refine Qm (zR (zM<|zM ?_));refine zQ ZI<|zC (zN ?_)
 refine zI ?_ ?_<;>intro hc9
 ·
  have hlt_k:k<n:=(by have h:=hc9;simp at h;omega);obtain ⟨y,hy⟩:∃ y,ys[k]? =some y:=⟨_,List.getElem?_eq_getElem kB⟩;refine Qp (Qc (Qm (Qr (Qm (zR (zM ?_))))));refine zM ?_;refine zV (zX ZI hS)<|zF Ze ?_
  refine zV (Qd rfl Qn (fun hg=>by exact zCt hS hy rfl))<|zC (zN ?_)
  refine zI ?_ ?_<;>intro hc17
  ·
   exact zR (zA<|zA (zN (Qs (Qf (Qj (Qf (Qf (Qj<|Qf<|Y2 rfl rfl rfl (fun w hw=>⟨_,I,[],rfl,hIc,hw.subL Qx,rfl,_,_,_,_,rfl,.inr ⟨rfl,k,y,hy,hc17⟩⟩)))))))))
  refine Qp (Qc (Qh (zM ?_)));refine zM ?_;refine zM ?_;refine zV (zX ZI hS)<|zF YU ?_
  refine zV (Qd rfl Qn (fun hg=>by exact zCC hS hy (j:=1) rfl))<|zpb [(0,_)] [ZX y.n] Ve (fun b_24=>?_)
  refine zpa (_) (([y.n]:List Int).flatMap ZX) (L) rfl rfl Ve hO ⟨rfl,fun _=>rfl,by repeat (first | exact zCy | apply zCx | apply zCz)⟩ (zaY [y.n]) ?_;intro v2 L2 hO2 _;rw [←List.flatMap_append] at hO2;refine zA (Qb (Qi (Qc (Qh<|zM ?_))));refine zB<|zA (Qb ?_)
  exact zm (h:=⟨n-(k+1),kB,k+1,_,_,rfl,rfl,rfl,rfl,kB,by rw [Za hy,List.map_append];exact hO2,VK hy hall hc17⟩)
 have hge_k:n≤k:=(by have h:=hc9;simp at h;omega);obtain rfl:n=k:=kB;have hke:ys.take n=ys:=List.take_of_length_le kB;rw [hke] at hO;refine Q6 (Ql (Ql (Qq (Qc (Qm<|zx4 hO YM (fun I2 hI2 af2 cf2 ef2 hZ=>?_))))));subst ef2;have hIc:=hIc.trans hI2;refine Qh (zM<|zA<|zA (zN (Qs ?_)));exact Y2 rfl rfl rfl (fun w hw=>⟨_,I2,[],rfl,hIc,hw.subL Qx,rfl,_,_,_,_,rfl,.inl ⟨rfl,rfl,hZ,fun j y hy=>hall j y (by have h:=(List.getElem?_eq_some_iff.1 hy).1;omega) hy⟩⟩)
theorem zuM:Fun Tryz.prog 132:=.of Tryz.func132 kA kA
theorem zmn:Fun Tryz.prog 133:=.of Tryz.func133 kA kA
variable{av:Option Addr}
set_option maxRecDepth 100000 in
set_option maxHeartbeats 1600000 in
theorem zuH     (hS:Sl I 1 VT av n c bs) (hb:∀ x∈bs,x<256) (hn:n≤100000):Y7 Tryz.prog 64 [.slice av n c] I [] (fun v I' L'=>L'=[]∧∃ (cs:List Value) (b:Bool),v= .tuple #[.agg cs.toArray,.bool b]∧zqZ bs I' cs b):=by
 intro g H w hw;refine qe Tryz.func64 Tryz.ntmps64 hw ?_;have hIc:=zCA I;have hbl:=hS.len;refine zR<|Qt UW rfl rfl (fun b_2=>?_)
 refine zA<|zN (zR ?_)
 refine zM<|zpc [_] rfl zuM .nil (zld hS hb hn) ?_
 rintro vv1 I1 L1 hI1 hq0;have hIc:=hIc.trans hI1;obtain ⟨rfl,cv,e,rfl,hq⟩:=zdk hq0;refine zM ?_;refine zE ?_;refine zE ?_;refine Qt Yv rfl rfl (fun b_4=>zh Zs<|zA (Qb<|QH .here (fun I2 hI2 hb2=>?_)));have hq:=hq.mono hI2;have hIc:=hIc.trans hI2;have h4:=BxI.of hb2;refine Qc (Qm (zR (zM<|zC<|zM ?_)));refine QK 2 rfl rfl rfl ?_;refine zJ (Qa rfl Ze)<|zJ (Qd rfl Qn (fun hg=>by exact Qz.imm h4.out rfl))<|zJ (QE rfl rfl rfl)<|Zf rfl rfl rfl rfl rfl ?_
 refine zM ?_;refine QK 7 rfl rfl rfl ?_;refine zJ (Qa rfl QN)<|zJ (Qd rfl Zh (fun hg=>by exact Qz.imm h4.out rfl))<|zJ (QV rfl ZI)<|zJ (QE rfl rfl rfl)<|Zf rfl rfl rfl rfl rfl<|zN ?_
 refine zI ?_ ?_<;>intro hc29
 ·
  have hno:=zsJ hq hc29;refine zR<|zV (QF (ps:=[]) [_,_,_,_,_,_,_,_,_,_,_,_,_,_,_,_,_,_,_,_,_,_,_,_,_,_,_,_,_,_,_,_,_,_,_,_,_,_,_,_,_,_,_,_,_] zda rfl rfl) ?_
  refine zh Vk ?_;refine zA (zN (Qs (Qf ?_)));exact Zz rfl rfl rfl Q8 kV rfl (fun w hw=>⟨_,I2,[],rfl,hIc,hw.subL Qx,rfl,_,_,rfl,zbW rfl rfl hno⟩)
 obtain ⟨l,hs,hR⟩:=zkJ hq hc29;have hm45:=hR.m;have hcapR:=hR.sl.cap;have hl45:=hR.hlen;have hm42:42≤hs.length:=kB;obtain ⟨u,hu⟩:∃ y,hs[42]? =some y:=⟨_,List.getElem?_eq_getElem kB⟩;obtain ⟨v3,hv⟩:∃ y,hs[43]? =some y:=⟨_,List.getElem?_eq_getElem kB⟩;obtain ⟨w4,hw4⟩:∃ y,hs[44]? =some y:=⟨_,List.getElem?_eq_getElem kB⟩;refine Qp (Qc (zR<|zF QN ?_));refine zV (Qd rfl Zh (fun hg=>by exact Qz.imm h4.out rfl))<|zV (Vf rfl rfl ZI (fun hg=>kB))<|zpc [_] rfl zmn .nil (zkS (hR.sl.take (k:=42) kB) kD) ?_
 rintro vv3 I3 L3 hI3 ⟨rfl,bI,aI,mI,cI,rfl,hQ4⟩;have h4:=h4.mono hI3;have hR:=hR.mono hI3;have hIc:=hIc.trans hI3;refine zM ?_;refine zE ?_;refine zE<|zA<|zA (zN (Qm (zR<|zM<|zO<|zM ?_)))
 refine QK 2 rfl rfl rfl ?_;refine zJ (Qa rfl QN)<|zJ (Qd rfl Zh (fun hg=>by exact Qz.imm h4.out rfl))<|zJ (QC rfl rfl ZI hR.sl (fun hg=>kB))<|zJ (Qa rfl Ze)<|zJ (Qd rfl Qn (fun hg=>by exact zCt hR.sl hu rfl))<|zJ (QE rfl rfl rfl)<|Zf rfl rfl rfl rfl rfl ?_
 refine zM ?_;refine QK 10 rfl rfl rfl ?_;refine zJ (Qa rfl QN)<|zJ (Qd rfl Zh (fun hg=>by exact Qz.imm h4.out rfl))<|zJ (QC rfl rfl ZI hR.sl (fun hg=>kB))<|zJ (Qa rfl Ze)<|zJ (Qd rfl Qn (fun hg=>by exact zCt hR.sl hv rfl))<|zJ (QE rfl rfl rfl)<|Zf rfl rfl rfl rfl rfl ?_
 refine zM ?_;refine QK 18 rfl rfl rfl ?_;refine zJ (Qa rfl QN)<|zJ (Qd rfl Zh (fun hg=>by exact Qz.imm h4.out rfl))<|zJ (QC rfl rfl ZI hR.sl (fun hg=>kB))<|zJ (Qa rfl Ze)<|zJ (Qd rfl Qn (fun hg=>by exact zCt hR.sl hw4 rfl))<|zJ (QE rfl rfl rfl)<|Zf rfl rfl rfl rfl rfl<|zN ?_
 refine zI ?_ ?_<;>intro hc63
 ·
  have hno:=(ziG hR hQ4 hu hv hw4).1 hc63;refine zR<|zV (QF (ps:=[]) [_,_,_,_,_,_,_,_,_,_,_,_,_,_,_,_,_,_,_,_,_,_,_,_,_,_,_,_,_,_,_,_,_,_,_,_,_,_,_,_,_,_,_,_,_] zda rfl rfl) ?_
  refine zh Vk ?_;refine zA (zN (Qs (Qf ?_)));exact Zz rfl rfl rfl Q8 kV rfl (fun w hw=>⟨_,I3,[],rfl,hIc,hw.subL Qx,rfl,_,_,rfl,zbW rfl rfl hno⟩)
 obtain ⟨rfl,rfl,hL,q,qs,hT⟩:=(ziG hR hQ4 hu hv hw4).2 hc63;have hql:=hT.sl.len;have hum:u.m≤100000:=(by have h:=zsV hT hb kB;omega);refine Qp (Qc (zR<|zF QN ?_));refine zV (Qd rfl Zh (fun hg=>by exact Qz.imm h4.out rfl))<|zV (QC rfl rfl ZI hR.sl (fun hg=>kB))<|zF QN ?_
 refine zV (Qd rfl Zh (fun hg=>by exact zCC hR.sl hu (j:=3) rfl))<|zpc [_] rfl zmn .nil (zkS hT.sl hum) ?_
 rintro vv4 I4 L4 hI4 ⟨rfl,bJ,a8,m8,c8,rfl,hQ7⟩;have h4:=h4.mono hI4;have hR:=hR.mono hI4;have hT:=hT.mono hI4;have hL:=hL.mono hI4;have hIc:=hIc.trans hI4;refine zM ?_;refine zE ?_;refine zE<|zA<|zA (zN (Qm (zR<|zM<|zO (zN ?_))))
 refine zI ?_ ?_<;>intro hc75
 ·
  have hno:=(zlw hT hQ7).1 (by simpa using hc75);refine zR<|zV (QF (ps:=[]) [_,_,_,_,_,_,_,_,_,_,_,_,_,_,_,_,_,_,_,_,_,_,_,_,_,_,_,_,_,_,_,_,_,_,_,_,_,_,_,_,_,_,_,_,_] zda rfl rfl) ?_
  refine zh Vk ?_;refine zA (zN (Qs (Qf ?_)));exact Zz rfl rfl rfl Q8 kV rfl (fun w hw=>⟨_,I4,[],rfl,hIc,hw.subL Qx,rfl,_,_,rfl,zbW rfl rfl hno⟩)
 obtain ⟨rfl,hN8,hall2⟩:=(zlw hT hQ7).2 (by simpa using hc75);refine Qp (Qc (zR (zM<|zV (zX Q4 hL)<|zV (Qd rfl Qn (fun hg=>Zo hL hm42 0 kD))<|zV (QF (ps:=[(0,_)]) [_,_,_,_,_,_,_,_,_,_,_,_,_,_,_,_,_,_,_,_,_,_,_,_,_,_,_,_,_,_,_,_,_,_,_,_,_,_,_,_,_,_,_,_,_] zda rfl rfl)<|Qt UW rfl rfl (fun b_10=>zh Vk<|zN (Qm ?_)))));have hD:=zCA I4;refine Zm<|QI I4 [] mixed<|zT 0 rfl (Qe rfl) hD<|zT 1 rfl (zX Q4 hL) hD<|zT 2 rfl (Qd rfl Qn (fun hg=>Zo hL hm42 1 kD)) hD<|zT 3 rfl (Qe rfl) hD<|zT 4 rfl (zX Q4 hL) hD<|zT 5 rfl (Qd rfl Qn (fun hg=>Zo hL hm42 2 kD)) hD<|zT 6 rfl (Qe rfl) hD<|zT 7 rfl (zX Q4 hL) hD<|zT 8 rfl (Qd rfl Qn (fun hg=>Zo hL hm42 3 kD)) hD<|zT 9 rfl (Qe rfl) hD ?_
 refine zT 10 rfl (zX Q4 hL) hD<|zT 11 rfl (Qd rfl Qn (fun hg=>Zo hL hm42 4 kD)) hD<|zT 12 rfl (Qe rfl) hD<|zT 13 rfl (zX Q4 hL) hD<|zT 14 rfl (Qd rfl Qn (fun hg=>Zo hL hm42 5 kD)) hD<|zT 15 rfl (Qe rfl) hD<|zT 16 rfl (zX Q4 hL) hD<|zT 17 rfl (Qd rfl Qn (fun hg=>Zo hL hm42 6 kD)) hD<|zT 18 rfl (Qe rfl) hD<|zT 19 rfl (zX Q4 hL) hD<|zT 20 rfl (Qd rfl Qn (fun hg=>Zo hL hm42 7 kD)) hD<|zT 21 rfl (Qe rfl) hD ?_
 refine zT 22 rfl (zX Q4 hL) hD<|zT 23 rfl (Qd rfl Qn (fun hg=>Zo hL hm42 8 kD)) hD<|zT 24 rfl (Qe rfl) hD<|zT 25 rfl (zX Q4 hL) hD<|zT 26 rfl (Qd rfl Qn (fun hg=>Zo hL hm42 9 kD)) hD<|zT 27 rfl (QF (ps:=[(0,_),(1,_),(2,_)]) [_,_,_] zbV rfl rfl) hD<|zT 28 rfl (QF (ps:=[(0,_),(1,_),(2,_),(3,_),(4,_),(5,_),(6,_)]) [_,_,_,_,_,_,_,_,_] zdv rfl rfl) hD<|zT 29 rfl (Qa rfl YX) hD<|qd 30 rfl<|Yu rfl rfl Xo rfl rfl rfl rfl (by repeat (first | exact Upd.here | apply Upd.there | apply ZC))<|Qb<|zD hD ?_
 refine Qo kA<|Qw<|Qc (Qm ?_)
 have hD:=zCA I4;refine Zm<|QI I4 [] mixed<|zT 0 rfl (Qe rfl) hD<|zT 1 rfl (zX Q4 hL) hD<|zT 2 rfl (Qd rfl Qn (fun hg=>Zo hL hm42 14 kD)) hD<|zT 3 rfl (Qe rfl) hD<|zT 4 rfl (zX Q4 hL) hD<|zT 5 rfl (Qd rfl Qn (fun hg=>Zo hL hm42 15 kD)) hD<|zT 6 rfl (Qe rfl) hD<|zT 7 rfl (zX Q4 hL) hD<|zT 8 rfl (Qd rfl Qn (fun hg=>Zo hL hm42 16 kD)) hD<|zT 9 rfl (Qe rfl) hD ?_
 refine zT 10 rfl (zX Q4 hL) hD<|zT 11 rfl (Qd rfl Qn (fun hg=>Zo hL hm42 17 kD)) hD<|zT 12 rfl (Qe rfl) hD<|zT 13 rfl (zX Q4 hL) hD<|zT 14 rfl (Qd rfl Qn (fun hg=>Zo hL hm42 18 kD)) hD<|zT 15 rfl (Qe rfl) hD<|zT 16 rfl (zX Q4 hL) hD<|zT 17 rfl (Qd rfl Qn (fun hg=>Zo hL hm42 19 kD)) hD<|zT 18 rfl (Qe rfl) hD<|zT 19 rfl (zX Q4 hL) hD<|zT 20 rfl (Qd rfl Qn (fun hg=>Zo hL hm42 20 kD)) hD<|zT 21 rfl (Qe rfl) hD ?_
 refine zT 22 rfl (zX Q4 hL) hD<|zT 23 rfl (Qd rfl Qn (fun hg=>Zo hL hm42 21 kD)) hD<|zT 24 rfl (Qe rfl) hD<|zT 25 rfl (zX Q4 hL) hD<|zT 26 rfl (Qd rfl Qn (fun hg=>Zo hL hm42 22 kD)) hD<|zT 27 rfl (Qe rfl) hD<|zT 28 rfl (zX Q4 hL) hD<|zT 29 rfl (Qd rfl Qn (fun hg=>Zo hL hm42 23 kD)) hD<|zT 30 rfl (Qe rfl) hD<|zT 31 rfl (zX Q4 hL) hD<|zT 32 rfl (Qd rfl Qn (fun hg=>Zo hL hm42 24 kD)) hD<|zT 33 rfl (Qe rfl) hD ?_
 refine zT 34 rfl (zX Q4 hL) hD<|zT 35 rfl (Qd rfl Qn (fun hg=>Zo hL hm42 25 kD)) hD<|zT 36 rfl (QF (ps:=[(0,_),(1,_)]) [_,_] zc3 rfl rfl) hD<|zT 37 rfl (Qe rfl) hD<|zT 38 rfl (zX Q4 hL) hD<|zT 39 rfl (Qd rfl Qn (fun hg=>Zo hL hm42 26 kD)) hD<|zT 40 rfl (Qe rfl) hD<|zT 41 rfl (zX Q4 hL) hD<|zT 42 rfl (Qd rfl Qn (fun hg=>Zo hL hm42 27 kD)) hD<|zT 43 rfl (QF (ps:=[(0,_),(1,_)]) [_,_] zc3 rfl rfl) hD<|zT 44 rfl (QF (ps:=[(0,_),(1,_),(2,_),(3,_),(4,_),(5,_),(6,_),(7,_),(8,_),(9,_),(10,_),(11,_)]) [_,_,_,_,_,_,_,_,_,_,_,_,_,_] XZ rfl rfl) hD<|qd 45 rfl ?_
 refine Qt zhA rfl rfl (fun b_11=>Qb<|zD hD<|qd 46 rfl ?_);refine zh Jk ?_;refine Qb<|zD hD<|Qo kA<|Qw<|QH .here (fun I5 hI5 hb5=>?_)
 have h4:=h4.mono hI5;have hR:=hR.mono hI5;have hT:=hT.mono hI5;have hL:=hL.mono hI5;have hN8:=hN8.mono hI5;have hIc:=hIc.trans hI5;have h11:=BxI.of hb5;refine Qc (Qm ?_);have hD:=zCA I5;refine Zm<|QI I5 [] mixed<|zT 0 rfl (Qe rfl) hD<|zT 1 rfl (zX Q4 hL) hD<|zT 2 rfl (Qd rfl Qn (fun hg=>Zo hL hm42 10 kD)) hD<|zT 3 rfl (Qe rfl) hD<|zT 4 rfl (zX Q4 hL) hD<|zT 5 rfl (Qd rfl Qn (fun hg=>Zo hL hm42 11 kD)) hD<|zT 6 rfl (Qe rfl) hD<|zT 7 rfl (zX Q4 hL) hD<|zT 8 rfl (Qd rfl Qn (fun hg=>Zo hL hm42 12 kD)) hD<|zT 9 rfl (Qe rfl) hD ?_
 refine zT 10 rfl (zX Q4 hL) hD<|zT 11 rfl (Qd rfl Qn (fun hg=>Zo hL hm42 13 kD)) hD<|zT 12 rfl (Qg rfl ZJ (fun hg=>by exact BxI.cells (vs:=_) h11) rfl) hD<|zT 13 rfl (Qe rfl) hD<|zT 14 rfl (QF (ps:=[(0,_),(1,_),(2,_),(3,_),(4,_),(5,_)]) [_,_,_,_,_,_,_,_,_,_,_,_,_,_,_,_,_,_,_] zsl rfl rfl) hD<|zT 15 rfl (Qa rfl Yi) hD<|qd 16 rfl<|Yu rfl rfl UP rfl rfl rfl rfl (by repeat (first | exact Upd.here | apply Upd.there | apply ZC))<|Qb<|zD hD<|Qo kA<|Qw ?_
 refine Qc (Qm ?_);have hD:=zCA I5;refine Zm<|QI I5 [] mixed<|zT 0 rfl (Qe rfl) hD<|zT 1 rfl (zX Q4 hL) hD<|zT 2 rfl (Qd rfl Qn (fun hg=>Zo hL hm42 28 kD)) hD<|zT 3 rfl (Qe rfl) hD<|zT 4 rfl (zX Q4 hL) hD<|zT 5 rfl (Qd rfl Qn (fun hg=>Zo hL hm42 29 kD)) hD<|zT 6 rfl (Qe rfl) hD<|zT 7 rfl (zX Q4 hL) hD<|zT 8 rfl (Qd rfl Qn (fun hg=>Zo hL hm42 30 kD)) hD<|zT 9 rfl (Qe rfl) hD ?_
 refine zT 10 rfl (zX Q4 hL) hD<|zT 11 rfl (Qd rfl Qn (fun hg=>Zo hL hm42 31 kD)) hD<|zT 12 rfl (Qe rfl) hD<|zT 13 rfl (zX Q4 hL) hD<|zT 14 rfl (Qd rfl Qn (fun hg=>Zo hL hm42 32 kD)) hD<|zT 15 rfl (QF (ps:=[(0,_),(1,_),(2,_),(3,_),(4,_)]) [_,_,_,_,_] ziU rfl rfl) hD<|zT 16 rfl (Qa rfl Vy) hD<|qd 17 rfl<|Yu rfl rfl zaz rfl rfl rfl rfl (by repeat (first | exact Upd.here | apply Upd.there | apply ZC))<|Qb<|zD hD<|Qo kA ?_
 refine Qw<|Qc (Qm ?_)
 have hD:=zCA I5;refine Zm<|QI I5 [] mixed<|zT 0 rfl (Qe rfl) hD<|zT 1 rfl (zX Q4 hL) hD<|zT 2 rfl (Qd rfl Qn (fun hg=>Zo hL hm42 33 kD)) hD<|zT 3 rfl (Qe rfl) hD<|zT 4 rfl (zX Q4 hL) hD<|zT 5 rfl (Qd rfl Qn (fun hg=>Zo hL hm42 34 kD)) hD<|zT 6 rfl (Qe rfl) hD<|zT 7 rfl (zX Q4 hL) hD<|zT 8 rfl (Qd rfl Qn (fun hg=>Zo hL hm42 35 kD)) hD<|zT 9 rfl (Qe rfl) hD ?_
 refine zT 10 rfl (zX Q4 hL) hD<|zT 11 rfl (Qd rfl Qn (fun hg=>Zo hL hm42 36 kD)) hD<|zT 12 rfl (Qe rfl) hD<|zT 13 rfl (zX Q4 hL) hD<|zT 14 rfl (Qd rfl Qn (fun hg=>Zo hL hm42 37 kD)) hD<|zT 15 rfl (Qe rfl) hD<|zT 16 rfl (zX Q4 hL) hD<|zT 17 rfl (Qd rfl Qn (fun hg=>Zo hL hm42 38 kD)) hD<|zT 18 rfl (Qe rfl) hD<|zT 19 rfl (zX Q4 hL) hD<|zT 20 rfl (Qd rfl Qn (fun hg=>Zo hL hm42 39 kD)) hD<|zT 21 rfl (Qe rfl) hD ?_
 refine zT 22 rfl (zX Q4 hL) hD<|zT 23 rfl (Qd rfl Qn (fun hg=>Zo hL hm42 40 kD)) hD<|zT 24 rfl (Qe rfl) hD<|zT 25 rfl (zX Q4 hL) hD<|zT 26 rfl (Qd rfl Qn (fun hg=>Zo hL hm42 41 kD)) hD<|zT 27 rfl (Qa rfl QN) hD<|zT 28 rfl (Qd rfl Zh (fun hg=>by exact Qz.imm h4.out rfl)) hD<|zT 29 rfl (QC rfl rfl ZI hR.sl (fun hg=>kB)) hD<|zT 30 rfl (Qa rfl Yq) hD<|zT 31 rfl (Qd rfl VS (fun hg=>by exact zCC hR.sl hv (j:=2) rfl)) hD<|zT 32 rfl (Qa rfl QN) hD<|zT 33 rfl (Qd rfl Zh (fun hg=>by exact Qz.imm h4.out rfl)) hD ?_
 refine zT 34 rfl (QC rfl rfl ZI hR.sl (fun hg=>kB)) hD<|zT 35 rfl (Qa rfl Yq) hD<|zT 36 rfl (Qd rfl VS (fun hg=>by exact zCC hR.sl hw4 (j:=2) rfl)) hD<|zT 37 rfl (QF (ps:=[(0,_),(1,_),(2,_),(3,_),(4,_),(5,_),(8,_),(9,_),(10,_),(6,_),(7,_)]) [_,_,_,_,_,_,_,_,_,_,_] WM rfl rfl) hD<|zT 38 rfl (Qa rfl Yj) hD<|qd 39 rfl<|Yu rfl rfl Uo rfl rfl rfl rfl (by repeat (first | exact Upd.here | apply Upd.there | apply ZC))<|Qb<|zD hD<|Qo kA<|Qw<|Qc (Qm ?_)
 refine zeK (loc':=[(b_10,.cells (Q7 (Up (zdA hs 42) a8 u.m c8 (qs.map (·.n)) v3.s w4.s)).toArray 45 (0,0)),(b_2,.cells (Q7 zcX).toArray 45 (0,0))]) kU<|QH .here (fun I6 hI6 hb6=>?_)
 have hT:=hT.mono hI6;have hN8:=hN8.mono hI6;have hIc:=hIc.trans hI6;have h10:=BxI.of hb6;have hF:=zsO (a:=a8) (c:=c8) hT hall2 hT.sl.len;have hNd2:Nd I6 (Up (zdA hs 42) a8 u.m c8 (qs.map (·.n)) v3.s w4.s).pt:=hN8;have hW2:=zBO hT hb kB hall2 a8 u.m c8;have hD:=zCA I6;refine Zm<|QI I6 [] mixed<|zT 0 rfl (Qg rfl Q8 (fun hg=>by exact BxI.cells (vs:=Q7 (Up (zdA hs 42) a8 u.m c8 (qs.map (·.n)) v3.s w4.s)) h10) rfl) hD<|zT 1 rfl (Qg rfl Q8 (fun hg=>by exact BxI.cells (vs:=Q7 (Up (zdA hs 42) a8 u.m c8 (qs.map (·.n)) v3.s w4.s)) h10) rfl) hD<|qd 2 rfl<|qcV (vs:=[_]) rfl zh3 (Xx _ hNd2 hW2)<|Qb<|zD hD<|qd 3 rfl ?_
 refine zh Vk ?_;exact Qb<|zD hD<|zT 4 rfl (Qy rfl) hD<|Qo kA<|Qw<|Qc (Qs<|Zz rfl rfl rfl Q8 kV rfl (fun w hw=>⟨_,I6,[],rfl,hIc,hw.subL Qx,rfl,_,_,rfl,zly hF hNd2⟩))
def zko (C:List Nt)(k:Nat)(x:Nt):Bool:=zBt (fun y z=>V4 y==V4 z) C[k]? x
def zkO (kind:Int)(C:List Nt)(x:Nt):List Nt:=if x.kind=kind then (if zko C (WF V4 C (V4 x)) x=true then C else C.take (WF V4 C (V4 x))++x::C.drop (WF V4 C (V4 x))) else C
def YN (kind:Int)(xs:List Nt):List Nt:=xs.foldl (zkO kind) []
variable{kind:Int}{xs:List Nt}{x:Nt}
theorem KD (hx:xs[k]? =some x):YN kind (xs.take (k+1))=zkO kind (YN kind (xs.take k)) x:=by
 unfold YN;rw [Za hx,List.foldl_append];rfl
structure zB5 (kind:Int)(xs C:List Nt):Prop where
 srt:(C.map V4).Pairwise (· < ·)
 fst:∀ y∈C,y.kind=kind∧xs.find? (fun z=>z.kind==kind&&V4 z==V4 y)=some y
 all:∀ x∈xs,x.kind=kind→V4 x∈C.map V4
variable{α:Type}{nf:α→Int}
theorem zoW {a:List α}{m:Int}:WF nf a m≤a.length∧(∀ j y,j<WF nf a m→a[j]? =some y→nf y<m)∧∀ y,a[WF nf a m]? =some y→¬nf y<m:=by
 unfold WF
 induction a with
 | nil=>exact ⟨Nat.le_refl _,fun j y h _=>absurd h (Nat.not_lt_zero _),fun y h=>by simp at h⟩
 | cons b a ih=>
  rw [List.takeWhile_cons];by_cases hb:nf b<m
  ·
   rw [if_pos (by simpa using hb)];refine ⟨by simpa using ih.1,fun j y hj hy=>?_,fun y hy=>?_⟩
   ·
    cases j with
    | zero=>cases hy;exact hb
    | succ j=>exact ih.2.1 j y (by simpa using hj) (by simpa using hy)
   ·
    exact ih.2.2 y (by simpa using hy)
  ·
   rw [if_neg (by simpa using hb)];exact ⟨Nat.zero_le _,fun j y h _=>absurd h (Nat.not_lt_zero _),fun y hy=>by cases hy;exact hb⟩
theorem zmH (xs:List Nt):∀ k,k≤xs.length→zB5 kind (xs.take k) (YN kind (xs.take k)):=by
 intro k
 induction k with
 | zero=>intro _;exact ⟨List.Pairwise.nil,fun y h=>by simp [YN] at h,fun x h=>by simp at h⟩
 | succ k ih=>
  intro hk;obtain ⟨x,hx⟩:∃ x,xs[k]? =some x:=⟨_,List.getElem?_eq_getElem kB⟩;have hp:=ih kB;rw [KD hx,Za hx];have hC:∃ C,C=YN kind (xs.take k):=⟨_,rfl⟩;have hB:∃ B,B=xs.take k:=⟨_,rfl⟩;obtain ⟨C,hC⟩:=hC;obtain ⟨B,hB⟩:=hB;rw [←hC,←hB] at hp ⊢
  have keep:∀ y∈C,y.kind=kind∧(B++[x]).find? (fun z=>z.kind==kind&&V4 z==V4 y)=some y:=fun y hy=>by
   have:=hp.fst y hy;exact ⟨this.1,by rw [List.find?_append,this.2];rfl⟩
  unfold zkO;by_cases hkd:x.kind=kind
  ·
   rw [if_pos hkd];obtain ⟨l1,l2,l3⟩:=zoW (nf:=V4) (a:=C) (m:=V4 x);generalize WF V4 C (V4 x)=q at l1 l2 l3 ⊢
   cases hh:zko C q x with
   | true=>
    rw [if_pos rfl];unfold zko zBt at hh
    cases hy:C[q]? with
    | none=>rw [hy] at hh;cases hh
    | some y=>
     rw [hy] at hh;have hn:V4 y=V4 x:=(by simpa using hh);refine ⟨hp.srt,keep,fun z hz hzk=>?_⟩;rcases List.mem_append.1 hz with hz | hz
     ·
      exact hp.all z hz hzk
     ·
      rw [List.mem_singleton.1 hz,←hn];exact List.mem_map.2 ⟨y,List.mem_of_getElem? hy,rfl⟩
   | false=>
    rw [if_neg kJ]
    have hgt:∀ y∈C.drop q,V4 x<V4 y:=by
     intro y hy;obtain ⟨j,hj⟩:=List.mem_iff_getElem?.1 hy;rw [List.getElem?_drop] at hj;have hq:q<C.length:=(by have:=(List.getElem?_eq_some_iff.1 hj).1;omega);obtain ⟨z,hz⟩:∃ z,C[q]? =some z:=⟨_,List.getElem?_eq_getElem hq⟩;have h1:=l3 z hz
     have h2:V4 z≠V4 x:=by
      unfold zko zBt at hh;rw [hz] at hh;simpa using hh
     have hzy:V4 z≤V4 y:=by
      cases j with
      | zero=>rw [Nat.add_zero,hz] at hj;cases hj;exact Int.le_refl _
      | succ j=>
       have:=List.pairwise_iff_getElem.1 hp.srt q (q+(j+1)) (by simpa using hq) (by have:=(List.getElem?_eq_some_iff.1 hj).1;simpa using this) kB;rw [List.getElem_map,List.getElem_map,(List.getElem?_eq_some_iff.1 hz).2,(List.getElem?_eq_some_iff.1 hj).2] at this;omega
     omega
    have hlt:∀ y∈C.take q,V4 y<V4 x:=by
     intro y hy;obtain ⟨j,hj⟩:=List.mem_iff_getElem?.1 hy;rw [List.getElem?_take] at hj;split at hj
     ·
      rename_i h;exact l2 j y h hj
     ·
      cases hj
    have hno:B.find? (fun z=>z.kind==kind&&V4 z==V4 x)=none:=by
     rw [List.find?_eq_none];intro z hz hzp;simp at hzp;obtain ⟨y,hy,e⟩:=List.mem_map.1 (hp.all z hz hzp.1);rw [←List.take_append_drop q C] at hy;rcases List.mem_append.1 hy with hy | hy
     ·
      have:=hlt y hy;omega
     ·
      have:=hgt y hy;omega
    have hsp:(C.map V4).Pairwise (· < ·):=hp.srt;rw [←List.take_append_drop q C,List.map_append,List.pairwise_append] at hsp;refine ⟨?_,fun y hy=>?_,fun z hz hzk=>?_⟩
    ·
     rw [List.map_append,List.map_cons,List.pairwise_append,List.pairwise_cons];refine ⟨hsp.1,⟨fun a ha=>?_,hsp.2.1⟩,fun a ha b hb=>?_⟩
     ·
      obtain ⟨y,hy,rfl⟩:=List.mem_map.1 ha;exact hgt y hy
     ·
      obtain ⟨y,hy,rfl⟩:=List.mem_map.1 ha;rcases List.mem_cons.1 hb with rfl | hb
      ·
       exact hlt y hy
      ·
       exact hsp.2.2 _ ha _ hb
    ·
     rcases List.mem_append.1 hy with hy | hy
     ·
      exact keep y (List.mem_of_mem_take hy)
     ·
      rcases List.mem_cons.1 hy with rfl | hy
      ·
       exact ⟨hkd,by rw [List.find?_append,hno];simp [hkd]⟩
      ·
       exact keep y (List.mem_of_mem_drop hy)
    ·
     rw [List.map_append,List.map_cons];rcases List.mem_append.1 hz with hz | hz
     ·
      have h:=hp.all z hz hzk;rw [←List.take_append_drop q C,List.map_append] at h;rcases List.mem_append.1 h with h | h
      ·
       exact List.mem_append_left _ h
      ·
       exact List.mem_append_right _ (List.mem_cons_of_mem _ h)
     ·
      rw [List.mem_singleton.1 hz];exact List.mem_append_right _ (List.mem_cons_self ..)
  ·
   rw [if_neg hkd];refine ⟨hp.srt,keep,fun z hz hzk=>?_⟩;rcases List.mem_append.1 hz with hz | hz
   ·
    exact hp.all z hz hzk
   ·
    rw [List.mem_singleton.1 hz] at hzk;exact absurd hzk hkd
theorem znB:∀ {xs ys:List Int},xs.Pairwise (· < ·)→ys.Pairwise (· < ·)→(∀ y,y∈xs↔y∈ys)→xs=ys
 | [],[],_,_,_=>rfl
 | [],b::bs,_,_,h=>by have:=(h b).2 (List.mem_cons_self ..);cases this
 | a::as',[],_,_,h=>by have:=(h a).1 (List.mem_cons_self ..);cases this
 | a::xs,b::ys,hx,hy,h=>by
  rw [List.pairwise_cons] at hx hy
  have e:a=b:=by
   rcases List.mem_cons.1 ((h a).1 (List.mem_cons_self ..)) with e | h1
   ·
    exact e
   ·
    rcases List.mem_cons.1 ((h b).2 (List.mem_cons_self ..)) with e | h2
    ·
     exact e.symm
    ·
     have:=hx.1 b h2;have:=hy.1 a h1;omega
  subst e;rw [znB hx.2 hy.2 fun y=>?_];constructor
  ·
   intro hm;rcases List.mem_cons.1 ((h y).1 (List.mem_cons_of_mem _ hm)) with e | h1
   ·
    subst e;have:=hx.1 y hm;omega
   ·
    exact h1
  ·
   intro hm;rcases List.mem_cons.1 ((h y).2 (List.mem_cons_of_mem _ hm)) with e | h1
   ·
    subst e;have:=hy.1 y hm;omega
   ·
    exact h1
section
variable {α:Type} {num:Nt→Int} {prt:Nt→α} {kind:Int} {chk:List α→Int} {d:α}
def zwF (prt:Nt→α)(chk:List α→Int)(l:List α)(y:Nt):List α:=if (chk (l++[prt y])==0)=true then l++[prt y] else l
def Km (prt:Nt→α)(chk:List α→Int)(C:List Nt):List α:=C.foldl (zwF prt chk) []
theorem zix {C:List Nt}{k:Nat}{y:Nt}(hy:C[k]? =some y):Km prt chk (C.take (k+1))=zwF prt chk (Km prt chk (C.take k)) y:=by
 unfold Km;rw [Za hy,List.foldl_append];rfl
theorem zhr {C:List Nt}:∀ p∈Km prt chk C,∃ y∈C,p=prt y:=by
 have key:∀ (ys:List Nt) (l:List α),(∀ y∈ys,y∈C)→(∀ p∈l,∃ y∈C,p=prt y)→∀ p∈ys.foldl (zwF prt chk) l,∃ y∈C,p=prt y:=by
  intro ys
  induction ys with
  | nil=>intro l _ h;exact h
  | cons y ys ih=>
   intro l hy h;rw [List.foldl_cons];refine ih _ (fun z hz=>hy z (List.mem_cons_of_mem _ hz)) fun p hp=>?_;unfold zwF at hp;split at hp
   ·
    rcases List.mem_append.1 hp with hp | hp
    ·
     exact h p hp
    ·
     exact ⟨y,hy y (List.mem_cons_self ..),List.mem_singleton.1 hp⟩
   ·
    exact h p hp
 exact key C [] (fun _ h=>h) (fun _ h=>by cases h)
theorem zd4 {xs:List Nt}(hnum:∀ y,y.kind=kind→V4 y=num y):Km prt chk (YN kind xs)=zcY num prt kind chk d xs:=by
 have hp:=zmH (kind:=kind) xs xs.length (Nat.le_refl _);rw [List.take_length] at hp
 have hns:UO ((Z9 num prt kind xs).map (·.1))=(YN kind xs).map V4:=by
  refine znB (zrB xs) hp.srt fun n=>?_;rw [zqn];constructor
  ·
   rintro ⟨x,hx,hk,rfl⟩;rw [←hnum x hk];exact hp.all x hx hk
  ·
   intro h;obtain ⟨y,hy,rfl⟩:=List.mem_map.1 h;have:=hp.fst y hy;exact ⟨y,List.mem_of_find?_eq_some this.2,this.1,(hnum y this.1).symm⟩
 have hget:∀ y∈YN kind xs,(ZD (Z9 num prt kind xs) (V4 y)).getD d=prt y:=by
  intro y hy;have h:=hp.fst y hy;rw [zjs]
  have e:(fun x:Nt=>x.kind==kind&&num x==V4 y)=fun z=>z.kind==kind&&V4 z==V4 y:=by
   funext z;by_cases hz:z.kind=kind
   ·
    rw [hnum z hz]
   ·
    have:(z.kind==kind)=false:=by simpa using hz
    rw [this];rfl
  rw [e,h.2];rfl
 unfold zcY zgw Km;rw [hns,List.foldl_map]
 have key:∀ (C:List Nt) (l:List α),(∀ y∈C,(ZD (Z9 num prt kind xs) (V4 y)).getD d=prt y)→C.foldl (zwF prt chk) l=C.foldl (fun l y=>zeV chk d (Z9 num prt kind xs) l (V4 y)) l:=by
  intro C
  induction C with
  | nil=>intro l _;rfl
  | cons y C ih=>
   intro l h;rw [List.foldl_cons,List.foldl_cons,ih _ fun z hz=>h z (List.mem_cons_of_mem _ hz)];congr 1;unfold zwF zeV;rw [h y (List.mem_cons_self ..)]
 exact key _ _ hget
end
theorem zdD :(YN kind xs).length≤xs.length:=by
 have key:∀ (ys:List Nt) (C:List Nt),(ys.foldl (zkO kind) C).length≤C.length+ys.length:=by
  intro ys
  induction ys with
  | nil=>intro C;simp
  | cons y ys ih=>
   intro C;rw [List.foldl_cons];refine Nat.le_trans (ih _) ?_;unfold zkO;split
   ·
    split
    ·
     simp
    ·
     simp only [List.length_append,List.length_take,List.length_cons,List.length_drop];omega
   ·
    simp
 have h:=key xs [];simpa [YN] using h
theorem Wm :∀ y∈YN kind xs,y∈xs:=fun y hy=>by
 have hp:=zmH (kind:=kind) xs xs.length (Nat.le_refl _);rw [List.take_length] at hp;exact List.mem_of_find?_eq_some (hp.fst y hy).2
theorem zBk (xs:List Nt):Km (fun x=>x.lm) za0 (YN 1 xs)=wLm xs:=zd4 zxp
theorem zAt (xs:List Nt):Km (fun x=>x.pt) WD (YN 2 xs)=wPt xs:=zd4 zyx
theorem zA2 (xs:List Nt):Km (fun x=>x.ls) L.chk (YN 3 xs)=wLs xs:=zd4 zza
theorem zAH (xs:List Nt):Km (fun x=>x.rt) S.rCheck (YN 4 xs)=wRt xs:=zd4 zBn
variable{C:List Nt}
theorem zqU (hk:x.kind=kind)(hl:WF V4 C (V4 x)=k)(hh:zko C k x=true):zkO kind C x=C:=by unfold zkO;rw [if_pos hk,hl,if_pos hh]
theorem Wx (hk:x.kind=kind)(hl:WF V4 C (V4 x)=k)(hh:zko C k x=false):zkO kind C x=C.take k++x::C.drop k:=by unfold zkO;rw [if_pos hk,hl,if_neg (by rw [hh];simp)]
theorem ztf (hk:¬x.kind=kind):zkO kind C x=C:=by unfold zkO;rw [if_neg hk]
variable{y:Nt}
theorem zxx (hW:∀ x∈xs,NtW x)(hC:∀ y∈C,y∈xs)(hy:y∈xs):∀ z∈Km (fun x=>x.lm) za0 C++[y.lm], -9223372036854775808≤z.ends∧z.ends≤9223372036854775807:=fun z hz=>by
 rcases List.mem_append.1 hz with hz | hz
 ·
  obtain ⟨u,hu,rfl⟩:=zhr z hz;exact (hW u (hC u hu)).lm
 ·
  rw [List.mem_singleton.1 hz];exact (hW y hy).lm
theorem zxk (hW:∀ x∈xs,NtW x)(hC:∀ y∈C,y∈xs)(hy:y∈xs):∀ z∈Km (fun x=>x.rt) S.rCheck C++[y.rt],S.okR z:=fun z hz=>by
 rcases List.mem_append.1 hz with hz | hz
 ·
  obtain ⟨u,hu,rfl⟩:=zhr z hz;exact (hW u (hC u hu)).rt
 ·
  rw [List.mem_singleton.1 hz];exact (hW y hy).rt
theorem zxP (hN:∀ x∈xs,Nd I x.pt)(hC:∀ y∈C,y∈xs)(hy:y∈xs):∀ z∈Km (fun x=>x.pt) WD C++[y.pt],Nd I z:=fun z hz=>by
 rcases List.mem_append.1 hz with hz | hz
 ·
  obtain ⟨u,hu,rfl⟩:=zhr z hz;exact hN u (hC u hu)
 ·
  rw [List.mem_singleton.1 hz];exact hN y hy
variable{P:Program}{v:Value}{f:Nat}
theorem zvr {xs:List S.Rt}(h:ZF P f [v] I (.int .i64 (S.fCheck xs)))(hok:∀ z∈xs,S.okR z):ZF P f [v] I (.int .i64 (S.rCheck xs)):=by rw [S.check_eq hok];exact h
variable{prt:Nt→α}{chk:List α→Int}
theorem zbf (hy:C[k]? =some y)(hc:(chk (Km prt chk (C.take k)++[prt y])==0)=true):Km prt chk (C.take (k+1))=Km prt chk (C.take k)++[prt y]:=by rw [zix hy];exact if_pos hc
theorem zej (hy:C[k]? =some y)(hc:(chk (Km prt chk (C.take k)++[prt y])==0)=false):Km prt chk (C.take (k+1))=Km prt chk (C.take k):=by rw [zix hy];exact if_neg (by rw [hc];simp)
theorem zxD {t:Nt}(hok:Va.ok (KU t))(hS:Sl I 1 VT a (Jw t).length c (Jw t)):HyM I ⟨a,(Jw t).length,c,Jw t⟩:=⟨hS,K5 _ hok⟩
theorem zem:Fun Tryz.prog 140:=.of Tryz.func140 kA kA
theorem zdR (I:Qv)(x:Nt):ZF Tryz.prog 140 [Kj x] I (.int .i64 (V4 x)):=by
 intro g H w hw;refine qe Tryz.func140 Tryz.ntmps140 hw ?_;have hIc:=zCA I;refine zR<|QQ rfl rfl rfl (fun b_1=>zA (Qb<|QH .here (fun I1 hI1 hb1=>?_)))
 have hIc:=hIc.trans hI1;have h1:=BxI.of hb1;refine Qc (Qm (zR<|zF YV ?_));refine zV (Qd rfl Qn (fun hg=>by exact Qz.imm h1.out rfl))<|zN (Qr (zR (zC<|zA (zN ?_))))
 refine zI ?_ ?_<;>intro hc5
 ·
  refine zR<|zF YX<|zF Yy ?_
  refine zV (Qd rfl Qn (fun hg=>by exact Qz.imm h1.out rfl))<|zA (zN (Qs (Qj (Qf ?_))))
  exact QA rfl rfl (fun w hw=>⟨by rw [zxp x (by simpa using hc5)],(hw.mono hIc).subL Qx⟩)
 have k1:¬x.kind=1:=(by simpa using hc5);refine zR (zC<|zA (zN ?_));refine zI ?_ ?_<;>intro hc10
 ·
  refine zR<|zF Yi<|zF ZR ?_
  refine zV (Qd rfl Qn (fun hg=>by exact Qz.imm h1.out rfl))<|zA (zN (Qs (Qj (Qf ?_))))
  exact QA rfl rfl (fun w hw=>⟨by rw [zyx x (by simpa using hc10)],(hw.mono hIc).subL Qx⟩)
 have k2:¬x.kind=2:=(by simpa using hc10);refine zR (zC<|zA (zN ?_));refine zI ?_ ?_<;>intro hc15
 ·
  refine zR<|zF Vy<|zF JQ ?_
  refine zV (Qd rfl Qn (fun hg=>by exact Qz.imm h1.out rfl))<|zA (zN (Qs (Qj (Qf ?_))))
  exact QA rfl rfl (fun w hw=>⟨by rw [zza x (by simpa using hc15)],(hw.mono hIc).subL Qx⟩)
 have k3:¬x.kind=3:=(by simpa using hc15);refine Qp (Qi (Qc (zR<|zF Yj<|zF YT ?_)));refine zV (Qd rfl Qn (fun hg=>by exact Qz.imm h1.out rfl))<|zA (zN (Qs ?_))
 exact QA rfl rfl (fun w hw=>⟨by unfold V4;rw [if_neg k1,if_neg k2,if_neg k3],(hw.mono hIc).subL Qx⟩)
theorem zi7 (hP:UV I av n c xs)(hn:n≤100000)(kd:Int):Y7 Tryz.prog 74 [.agg #[.slice av n c],.int .i64 kd] I [] (fun v I' L'=>L'=[]∧∃ a m c',v= .slice a m c'∧Sl I' 45 Q7 a m c' (YN kd xs)):=by
 intro g H w hw;refine qe Tryz.func74 Tryz.ntmps74 hw ?_;have hIc:=zCA I;have hln:=hP.sl.len;refine zR<|QQ rfl rfl rfl (fun b_2=>zA (Qb<|QH .here (fun I1 hI1 hb1=>?_)))
 have hP:=hP.mono hI1;have hIc:=hIc.trans hI1;have h2:=BxI.of hb1;refine Qc (zR (zA (zN (Qm (zR<|zA (zN (Qr<|zU [(1,_),(2,_)] (fun T L0 mz E I' loc'=>∃ (i:Nat) (a5:Option Addr) (m5:Nat) (c5:Nat),mz=n-i∧E=(5,.slice a5 m5 c5)::(6,.int .i64 i)::T∧HLe I1 I'∧L0=loc'∧i≤n∧Sl I' 45 Q7 a5 m5 c5 (YN kd (xs.take i))∧m5≤i) ?_ (h:=⟨0,none,0,0,rfl,rfl,zCA _,rfl,Nat.zero_le _,Sl.nil,Nat.le_refl _⟩))))))));rintro mz E J2 loc' ⟨i,a5,m5,c5,rfl,rfl,hJ,rfl,hi,hA,hm5⟩;have hP:=hP.mono hJ;have h2:=h2.mono hJ;have hIc:=hIc.trans hJ;have hB0:=hJ;have hla:=hA.len;have hca:=hA.cap;refine Qm (zR (zM<|zF Zx ?_));refine zV (Qd rfl YD (fun hg=>by exact Qz.imm h2.out rfl))<|zQ QZ<|zC (zN ?_)
 refine zI ?_ ?_<;>intro hc13
 ·
  have hlt_i:i<n:=(by have h:=hc13;simp at h;omega);obtain ⟨x,hx⟩:∃ y,xs[i]? =some y:=⟨_,List.getElem?_eq_getElem kB⟩;refine Qp (Qc (Qm (Qr (zR<|zF Zx ?_))));refine zV (Qd rfl YD (fun hg=>by exact Qz.imm h2.out rfl))<|zM ?_
  refine zV (QC rfl rfl QZ hP.sl (fun hg=>kB))<|zV (Qg rfl Q8 (fun hg=>by exact zCB hP.sl hx) rfl)<|Qt UW rfl rfl (fun b_7=>zh Vk ?_)
  refine Qb<|QH .here (fun I3 hI3 hb3=>?_)
  have hA:=hA.mono hI3;have hB0:=hB0.trans hI3;have h7:=BxI.of hb3;refine Qc (Qm (zR<|zF YV ?_));refine zV (Qd rfl Qn (fun hg=>by exact Qz.imm h7.out rfl))<|zM<|zC (zN ?_)
  refine zI ?_ ?_<;>intro hc24
  ·
   have hkx:¬x.kind=kd:=(by simpa using hc24);refine Q6 (Ql (Qq (Qc (Qh (zM ?_)))));refine zB<|zA (Qb ?_)
   first
   | exact zm (h:=⟨n-(i+1),kB,i+1,_,_,_,rfl,rfl,hB0,rfl,kB,by rw [KD hx,ztf hkx];exact hA,kB⟩)
  have hkx:x.kind=kd:=(by simpa using hc24);refine Qp (Qc (zR (zA (zN ?_))));refine zY [(1,_),(2,_),(5,_),(6,_),(7,_)] (fun T L0 E I' loc'=>∃ (k:Nat),E=(8,.int .i64 k)::T∧HLe I3 I'∧L0=loc'∧WF V4 (YN kd (xs.take i)) (V4 x)=k∧k≤m5) ?_ ?_
  ·
   have hK2:=zCA I3;refine Qr<|zU [(1,_),(2,_),(5,_),(6,_),(7,_)] (fun T L0 mz E I' loc'=>∃ (k:Nat),mz=m5-k∧E=(8,.int .i64 k)::T∧HLe I3 I'∧L0=loc'∧k≤m5∧(∀ (j:Nat) (y:Nt),j<k→(YN kd (xs.take i))[j]? =some y→V4 y<V4 x)) ?_ (h:=⟨0,rfl,rfl,zCA _,rfl,Nat.zero_le _,fun j y h=>absurd h (Nat.not_lt_zero _)⟩)
   rintro mz E J4 loc' ⟨k,rfl,rfl,hJ,rfl,hk,hall⟩;have hA:=hA.mono hJ;have h7:=h7.mono hJ;have hK2:=hK2.trans hJ;have hB2:=hJ;refine Qm (Qm ?_);rcases Nat.lt_or_ge k m5 with hkn | hkn
   ·
    obtain ⟨y,hy⟩:∃ y,(YN kd (xs.take i))[k]? =some y:=⟨_,List.getElem?_eq_getElem kB⟩;have hD:=zCA J4;refine Zm<|QI J4 [] mixed<|zT 0 rfl (Qe rfl) hD<|zT 1 rfl (Qe rfl) hD<|zT 2 rfl (QV rfl QZ) hD<|zT 3 rfl (QE rfl rfl rfl) hD ?_
    rw [show decide (((k:Nat):Int)<((m5:Nat):Int))=true by simp;omega];refine zT 4 rfl (Qe rfl) hD<|zw 5 29 rfl (Qe rfl) hD<|zw 6 29 rfl (Qe rfl) hD<|zw 7 29 rfl (zX QZ hA) hD<|zw 8 29 rfl (Qg rfl Q8 (fun hg=>by exact zCB hA hy) rfl) hD<|zw 10 29 rfl (Qg rfl Q8 (fun hg=>by exact BxI.cells (vs:=Q7 x) h7) rfl) hD<|qd 9 rfl<|QM (dj:=29) rfl rfl rfl<|qcV (vs:=[_]) rfl zem (zdR _ y)<|Qb<|zD hD<|qd 11 rfl ?_
    refine QM (dj:=29) rfl rfl rfl<|qcV (vs:=[_]) rfl zem (zdR _ x)<|Qb<|zD hD<|zw 12 29 rfl (QE rfl rfl rfl) hD<|zT 13 rfl (QY rfl rfl rfl) hD<|Qo kA<|Qw<|Qc ?_
    refine zI ?_ ?_<;>intro hc38
    ·
     have hyl:V4 y<V4 x:=(by simpa using hc38);refine Qp (Qc (Qr (Qh (zM ?_))));exact zB<|zA (Qb (Qi<|zm (h:=⟨m5-(k+1),kB,k+1,rfl,rfl,hB2,rfl,kB,zo6 hall hy hyl⟩)))
    have hkp:WF V4 (YN kd (xs.take i)) (V4 x)=k:=(zhL kB hall (fun z hz=>by rw [hy] at hz;cases hz;simpa using hc38)).symm;exact Q6 (Ql (Ql (Qq<|zm (h:=⟨_,rfl,hK2,rfl,hkp,hk⟩))))
   have hD:=zCA J4;refine Zm<|QI J4 [] mixed<|zT 0 rfl (Qe rfl) hD<|zT 1 rfl (Qe rfl) hD<|zT 2 rfl (QV rfl QZ) hD<|zT 3 rfl (QE rfl rfl rfl) hD ?_
   rw [show decide (((k:Nat):Int)<((m5:Nat):Int))=false by simp;omega];refine zT 4 rfl (Qe rfl) hD ?_;refine zW 5 29 hD ?_;refine zW 6 29 hD ?_;refine zW 7 29 hD ?_;refine zW 8 29 hD ?_;refine zW 9 29 hD ?_;refine zW 10 29 hD ?_;refine zW 11 29 hD ?_;refine zW 12 29 hD<|zT 13 rfl (Yg rfl rfl rfl) hD<|Qo kA<|Qw<|Qc ?_
   refine zI ?_ ?_<;>intro hc38
   ·
    cases hc38
   have hkp:WF V4 (YN kd (xs.take i)) (V4 x)=k:=(zhL kB hall (fun z hz=>by have h:=(List.getElem?_eq_some_iff.1 hz).1;omega)).symm;exact Q6 (Ql (Ql (Qq<|zm (h:=⟨_,rfl,hK2,rfl,hkp,hk⟩))))
  rintro E J5 loc' ⟨k,rfl,hJ5,rfl,hkp,hk⟩;have hA:=hA.mono hJ5;have h7:=h7.mono hJ5;have hB0:=hB0.trans hJ5;refine Qm (Qm ?_);rcases Nat.lt_or_ge k m5 with hkn | hkn
  ·
   obtain ⟨y,hy⟩:∃ y,(YN kd (xs.take i))[k]? =some y:=⟨_,List.getElem?_eq_getElem kB⟩;have hD:=zCA J5;refine Zm<|QI J5 [] mixed<|zT 0 rfl (Qe rfl) hD<|zT 1 rfl (Qe rfl) hD<|zT 2 rfl (QV rfl QZ) hD<|zT 3 rfl (QE rfl rfl rfl) hD ?_
   rw [show decide (((k:Nat):Int)<((m5:Nat):Int))=true by simp;omega];refine zT 4 rfl (Qe rfl) hD<|zw 5 45 rfl (Qe rfl) hD<|zw 6 45 rfl (Qe rfl) hD<|zw 7 45 rfl (zX QZ hA) hD<|zw 8 45 rfl (Qg rfl Q8 (fun hg=>by exact zCB hA hy) rfl) hD<|zw 10 45 rfl (Qg rfl Q8 (fun hg=>by exact BxI.cells (vs:=Q7 x) h7) rfl) hD<|qd 9 rfl<|QM (dj:=45) rfl rfl rfl<|qcV (vs:=[_]) rfl zem (zdR _ y)<|Qb<|zD hD<|qd 11 rfl ?_
   refine QM (dj:=45) rfl rfl rfl<|qcV (vs:=[_]) rfl zem (zdR _ x)<|Qb<|zD hD<|zw 12 45 rfl (QE rfl rfl rfl) hD<|zT 13 rfl (QY rfl rfl rfl) hD<|Qo kA<|Qw<|Qc ?_
   refine zI ?_ ?_<;>intro hc54
   ·
    have hh:zko (YN kd (xs.take i)) k x=true:=(by unfold zko;rw [hy];exact hc54);refine Q6 (Ql (Qq (Qc (Qh (zM ?_)))));refine zB<|zA (Qb ?_)
    first
    | exact zm (h:=⟨n-(i+1),kB,i+1,_,_,_,rfl,rfl,hB0,rfl,kB,by rw [KD hx,zqU hkx hkp hh];exact hA,kB⟩)
   have hh:zko (YN kd (xs.take i)) k x=false:=(by unfold zko;rw [hy];exact hc54);refine Qp (Qc ?_);have hD:=zCA J5;refine Zm<|QI J5 [] mixed<|zT 1 rfl (Qe rfl) hD<|zT 2 rfl (Qe rfl) hD<|zT 3 rfl (Vf rfl rfl QZ (fun hg=>kB)) hD<|zT 5 rfl (Qg rfl Q8 (fun hg=>by exact BxI.cells (vs:=Q7 x) h7) rfl) hD<|zT 8 rfl (Qe rfl) hD<|zT 9 rfl (Qe rfl) hD<|zT 10 rfl (YS rfl rfl QZ (fun hg=>kB)) hD ?_
   refine QS 0 6 rfl rfl kA ?_ ?_
   ·
    refine zpb [] [] ZH (fun b_55=>Qb<|zD hD ?_);refine QS 4 6 rfl rfl kA ?_ ?_
    ·
     refine zpa (_) (((YN kd (xs.take i)).take k).flatMap Q7) ([(b_55,_)]) rfl rfl ZH ZP.new ((hA.take hk).src Zl) (V8 _) ?_;intro v1 L1 hO1 _;rw [List.nil_append] at hO1;refine Qb<|zD hD<|qd 6 rfl<|zpb [(0,_)] [Q7 x] ZH (fun b_61=>Qb<|zD hD<|qd 7 rfl<|zpa (v1) ([x].flatMap Q7) (L1) rfl rfl ZH hO1 ⟨rfl,fun _=>rfl,by repeat (first | exact zCy | apply zCx | apply zCz)⟩ (V8 [x]) ?_)
     intro v2 L2 hO2 _;refine Qb<|zD hD<|qd 11 rfl<|zpa (v2) (((YN kd (xs.take i)).drop k).flatMap Q7) (L2) rfl rfl ZH hO2 ((hA.drop hk).src Zl) (V8 _) ?_
     intro v3 L3 hO3 _;refine ZT (xs:=(YN kd (xs.take i)).take k++x::(YN kd (xs.take i)).drop k) kM Zl kD (by repeat (first | exact .cons .here .nil | exact Zb | exact QR | apply Q0 | apply QX)) (fun I6 hI6 af6 cf6 ef6 hR=>?_);subst ef6;have hB0:=hB0.trans hI6;have hD:=hD.trans hI6;refine Qb<|zD hD<|zT 12 rfl (Qy rfl) hD<|Qo kA<|Qw ?_
     refine Qi (Qc (Qh (zM ?_)));refine zB<|zA (Qb ?_)
     first
     | exact zm (h:=⟨n-(i+1),kB,i+1,_,_,_,rfl,rfl,hB0,rfl,kB,by rw [KD hx,Wx hkx hkp hh];exact hR,kB⟩)
    refine zpb [(0,_)] [Q7 x] ZH (fun b_61=>Qb<|zD hD<|qd 4 rfl<|zpa (_) (((YN kd (xs.take i)).take k).flatMap Q7) ([(b_55,_)]) rfl rfl ZH ZP.new ((hA.take hk).src Zl) (V8 _) ?_);intro v1 L1 hO1 _;rw [List.nil_append] at hO1;refine Qb<|zD hD<|qd 7 rfl<|zpa (v1) ([x].flatMap Q7) (L1) rfl rfl ZH hO1 ⟨rfl,fun _=>rfl,by repeat (first | exact zCy | apply zCx | apply zCz)⟩ (V8 [x]) ?_
    intro v2 L2 hO2 _;refine Qb<|zD hD<|qd 11 rfl<|zpa (v2) (((YN kd (xs.take i)).drop k).flatMap Q7) (L2) rfl rfl ZH hO2 ((hA.drop hk).src Zl) (V8 _) ?_
    intro v3 L3 hO3 _;refine ZT (xs:=(YN kd (xs.take i)).take k++x::(YN kd (xs.take i)).drop k) kM Zl kD (by repeat (first | exact .cons .here .nil | exact Zb | exact QR | apply Q0 | apply QX)) (fun I7 hI7 af7 cf7 ef7 hR=>?_);subst ef7;have hB0:=hB0.trans hI7;have hD:=hD.trans hI7;refine Qb<|zD hD<|zT 12 rfl (Qy rfl) hD<|Qo kA<|Qw ?_
    refine Qi (Qc (Qh (zM ?_)));refine zB<|zA (Qb ?_)
    first
    | exact zm (h:=⟨n-(i+1),kB,i+1,_,_,_,rfl,rfl,hB0,rfl,kB,by rw [KD hx,Wx hkx hkp hh];exact hR,kB⟩)
   refine zpb [(0,_)] [Q7 x] ZH (fun b_61=>Qb<|zD hD<|qd 0 rfl<|zpb [] [] ZH (fun b_55=>Qb<|zD hD<|qd 4 rfl<|zpa (_) (((YN kd (xs.take i)).take k).flatMap Q7) ([(b_55,_)]) rfl rfl ZH ZP.new ((hA.take hk).src Zl) (V8 _) ?_));intro v1 L1 hO1 _;rw [List.nil_append] at hO1;refine Qb<|zD hD<|qd 7 rfl<|zpa (v1) ([x].flatMap Q7) (L1) rfl rfl ZH hO1 ⟨rfl,fun _=>rfl,by repeat (first | exact zCy | apply zCx | apply zCz)⟩ (V8 [x]) ?_
   intro v2 L2 hO2 _;refine Qb<|zD hD<|qd 11 rfl<|zpa (v2) (((YN kd (xs.take i)).drop k).flatMap Q7) (L2) rfl rfl ZH hO2 ((hA.drop hk).src Zl) (V8 _) ?_
   intro v3 L3 hO3 _;refine ZT (xs:=(YN kd (xs.take i)).take k++x::(YN kd (xs.take i)).drop k) kM Zl kD (by repeat (first | exact .cons .here .nil | exact Zb | exact QR | apply Q0 | apply QX)) (fun I8 hI8 af8 cf8 ef8 hR=>?_);subst ef8;have hB0:=hB0.trans hI8;have hD:=hD.trans hI8;refine Qb<|zD hD<|zT 12 rfl (Qy rfl) hD<|Qo kA<|Qw ?_
   refine Qi (Qc (Qh (zM ?_)));refine zB<|zA (Qb ?_)
   first
   | exact zm (h:=⟨n-(i+1),kB,i+1,_,_,_,rfl,rfl,hB0,rfl,kB,by rw [KD hx,Wx hkx hkp hh];exact hR,kB⟩)
  have hy:(YN kd (xs.take i))[k]? =none:=List.getElem?_eq_none kB;have hD:=zCA J5;refine Zm<|QI J5 [] mixed<|zT 0 rfl (Qe rfl) hD<|zT 1 rfl (Qe rfl) hD<|zT 2 rfl (QV rfl QZ) hD<|zT 3 rfl (QE rfl rfl rfl) hD ?_
  rw [show decide (((k:Nat):Int)<((m5:Nat):Int))=false by simp;omega];refine zT 4 rfl (Qe rfl) hD ?_;refine zW 5 45 hD ?_;refine zW 6 45 hD ?_;refine zW 7 45 hD ?_;refine zW 8 45 hD ?_;refine zW 9 45 hD ?_;refine zW 10 45 hD ?_;refine zW 11 45 hD ?_;refine zW 12 45 hD<|zT 13 rfl (Yg rfl rfl rfl) hD<|Qo kA<|Qw<|Qc ?_
  refine zI ?_ ?_<;>intro hc54
  ·
   cases hc54
  have hh:zko (YN kd (xs.take i)) k x=false:=(by unfold zko;rw [hy];rfl);refine Qp (Qc ?_);have hD:=zCA J5;refine Zm<|QI J5 [] mixed<|zT 1 rfl (Qe rfl) hD<|zT 2 rfl (Qe rfl) hD<|zT 3 rfl (Vf rfl rfl QZ (fun hg=>kB)) hD<|zT 5 rfl (Qg rfl Q8 (fun hg=>by exact BxI.cells (vs:=Q7 x) h7) rfl) hD<|zT 8 rfl (Qe rfl) hD<|zT 9 rfl (Qe rfl) hD<|zT 10 rfl (YS rfl rfl QZ (fun hg=>kB)) hD ?_
  refine QS 0 6 rfl rfl kA ?_ ?_
  ·
   refine zpb [] [] ZH (fun b_55=>Qb<|zD hD ?_);refine QS 4 6 rfl rfl kA ?_ ?_
   ·
    refine zpa (_) (((YN kd (xs.take i)).take k).flatMap Q7) ([(b_55,_)]) rfl rfl ZH ZP.new ((hA.take hk).src Zl) (V8 _) ?_;intro v1 L1 hO1 _;rw [List.nil_append] at hO1;refine Qb<|zD hD<|qd 6 rfl<|zpb [(0,_)] [Q7 x] ZH (fun b_61=>Qb<|zD hD<|qd 7 rfl<|zpa (v1) ([x].flatMap Q7) (L1) rfl rfl ZH hO1 ⟨rfl,fun _=>rfl,by repeat (first | exact zCy | apply zCx | apply zCz)⟩ (V8 [x]) ?_)
    intro v2 L2 hO2 _;refine Qb<|zD hD<|qd 11 rfl<|zpa (v2) (((YN kd (xs.take i)).drop k).flatMap Q7) (L2) rfl rfl ZH hO2 ((hA.drop hk).src Zl) (V8 _) ?_
    intro v3 L3 hO3 _;refine ZT (xs:=(YN kd (xs.take i)).take k++x::(YN kd (xs.take i)).drop k) kM Zl kD (by repeat (first | exact .cons .here .nil | exact Zb | exact QR | apply Q0 | apply QX)) (fun I9 hI9 af9 cf9 ef9 hR=>?_);subst ef9;have hB0:=hB0.trans hI9;have hD:=hD.trans hI9;refine Qb<|zD hD<|zT 12 rfl (Qy rfl) hD<|Qo kA<|Qw ?_
    refine Qi (Qc (Qh (zM ?_)));refine zB<|zA (Qb ?_)
    first
    | exact zm (h:=⟨n-(i+1),kB,i+1,_,_,_,rfl,rfl,hB0,rfl,kB,by rw [KD hx,Wx hkx hkp hh];exact hR,kB⟩)
   refine zpb [(0,_)] [Q7 x] ZH (fun b_61=>Qb<|zD hD<|qd 4 rfl<|zpa (_) (((YN kd (xs.take i)).take k).flatMap Q7) ([(b_55,_)]) rfl rfl ZH ZP.new ((hA.take hk).src Zl) (V8 _) ?_);intro v1 L1 hO1 _;rw [List.nil_append] at hO1;refine Qb<|zD hD<|qd 7 rfl<|zpa (v1) ([x].flatMap Q7) (L1) rfl rfl ZH hO1 ⟨rfl,fun _=>rfl,by repeat (first | exact zCy | apply zCx | apply zCz)⟩ (V8 [x]) ?_
   intro v2 L2 hO2 _;refine Qb<|zD hD<|qd 11 rfl<|zpa (v2) (((YN kd (xs.take i)).drop k).flatMap Q7) (L2) rfl rfl ZH hO2 ((hA.drop hk).src Zl) (V8 _) ?_
   intro v3 L3 hO3 _;refine ZT (xs:=(YN kd (xs.take i)).take k++x::(YN kd (xs.take i)).drop k) kM Zl kD (by repeat (first | exact .cons .here .nil | exact Zb | exact QR | apply Q0 | apply QX)) (fun I10 hI10 af10 cf10 ef10 hR=>?_);subst ef10;have hB0:=hB0.trans hI10;have hD:=hD.trans hI10;refine Qb<|zD hD<|zT 12 rfl (Qy rfl) hD<|Qo kA<|Qw ?_
   refine Qi (Qc (Qh (zM ?_)));refine zB<|zA (Qb ?_)
   first
   | exact zm (h:=⟨n-(i+1),kB,i+1,_,_,_,rfl,rfl,hB0,rfl,kB,by rw [KD hx,Wx hkx hkp hh];exact hR,kB⟩)
  refine zpb [(0,_)] [Q7 x] ZH (fun b_61=>Qb<|zD hD<|qd 0 rfl<|zpb [] [] ZH (fun b_55=>Qb<|zD hD<|qd 4 rfl<|zpa (_) (((YN kd (xs.take i)).take k).flatMap Q7) ([(b_55,_)]) rfl rfl ZH ZP.new ((hA.take hk).src Zl) (V8 _) ?_));intro v1 L1 hO1 _;rw [List.nil_append] at hO1;refine Qb<|zD hD<|qd 7 rfl<|zpa (v1) ([x].flatMap Q7) (L1) rfl rfl ZH hO1 ⟨rfl,fun _=>rfl,by repeat (first | exact zCy | apply zCx | apply zCz)⟩ (V8 [x]) ?_
  intro v2 L2 hO2 _;refine Qb<|zD hD<|qd 11 rfl<|zpa (v2) (((YN kd (xs.take i)).drop k).flatMap Q7) (L2) rfl rfl ZH hO2 ((hA.drop hk).src Zl) (V8 _) ?_
  intro v3 L3 hO3 _;refine ZT (xs:=(YN kd (xs.take i)).take k++x::(YN kd (xs.take i)).drop k) kM Zl kD (by repeat (first | exact .cons .here .nil | exact Zb | exact QR | apply Q0 | apply QX)) (fun I11 hI11 af11 cf11 ef11 hR=>?_);subst ef11;have hB0:=hB0.trans hI11;have hD:=hD.trans hI11;refine Qb<|zD hD<|zT 12 rfl (Qy rfl) hD<|Qo kA<|Qw ?_
  refine Qi (Qc (Qh (zM ?_)));refine zB<|zA (Qb ?_)
  first
  | exact zm (h:=⟨n-(i+1),kB,i+1,_,_,_,rfl,rfl,hB0,rfl,kB,by rw [KD hx,Wx hkx hkp hh];exact hR,kB⟩)
 have hge_i:n≤i:=(by have h:=hc13;simp at h;omega);rw [ZB hln hge_i] at hA;refine Q6 (Ql (Ql (Qq (Qc (zR (zM<|zA (zN (Qs ?_))))))));exact QA rfl rfl (fun w hw=>⟨_,J2,[],rfl,hIc,hw.subL Qx,rfl,_,_,_,rfl,hA⟩)
variable{ps:List Pt}{t:Int}
theorem zqu (hP:SlP I av n c ps)(hn:n≤100000)(h:zst ps t=m):ZF Tryz.prog 192 [.slice av n c,.int .i64 t] I (.int .i64 (m:Int)):=h ▸ zrM hP hn t
theorem zA3 (hP:SlP I av n c ps)(hn:n≤100000)(hL:Lst ps)(hnd:∀ p∈ps,p.n≤100000):Y7 Tryz.prog 147 [.slice av n c] I [] (zCo ps n):=by
 intro g H w hw;refine qe Tryz.func147 Tryz.ntmps147 hw ?_;have hIc:=zCA I;refine zR (zA<|zN (zR<|zA (zN (Qm (zR<|zA (zN (Qr<|zU [(0,_)] (fun T L0 mz E I' loc'=>∃ (k:Nat) (v:Value) (hs:List Hd) (L:Go.Kn.Loc),mz=n-k∧E=(3,v)::(4,.int .i64 k)::T∧HLe I I'∧L=loc'∧k≤n∧ZP 211 1 v k (hs.flatMap zmf) L∧zaW I' ps n hs k) ?_ (h:=⟨0,_,[],[],rfl,rfl,zCA _,rfl,Nat.zero_le _,ZP.nil,zaW.nil⟩))))))));rintro mz E J1 loc' ⟨k,v,hs,L,rfl,rfl,hJ,rfl,hk,hO,hq⟩;have hP:=hP.mono hJ;have hIc:=hIc.trans hJ;have hB0:=hJ;refine Qm (zR (zM<|zM ?_));refine zQ Yk<|zC (zN ?_)
 refine zI ?_ ?_<;>intro hc12
 ·
  have hlt_k:k<n:=(by have h:=hc12;simp at h;omega);have hP1:=hP.1;obtain ⟨p,hp,hN⟩:=hP.at hlt_k;have hpm:=List.mem_of_getElem? hp;have hN:Sl J1 1 ZX p.a p.n p.c p.needs:=hN;have hpn:=hnd p hpm;refine Qp (Qc (Qm (Qr (zR (zM ?_)))));refine zQ Yk ?_;refine zgk ztk rfl rfl kB kD rfl rfl (fun b_17=>zA (Qb ?_));have e0:((n:Int)).toNat=n:=rfl;rw [e0,zjE];refine Qc (Qm (zR (zA (zN (Qr<|zU [(0,_),(3,_),(4,_),(5,_)] (fun T L0 mz E I' loc'=>∃ (j:Nat) (row:List Bool),mz=p.n-j∧E=(6,.int .i64 j)::T∧J1=I'∧(b_17,.cells (Wg row) 4 (0,0))::L=loc'∧j≤p.n∧zc2 ps (fun _=>zpq ps p j) row) ?_ (h:=⟨0,List.replicate n false,rfl,rfl,rfl,rfl,Nat.zero_le _,zkT hP.len⟩))))));rintro mz E I' loc' ⟨j,row,rfl,rfl,rfl,rfl,hj,hr⟩;refine Qm (zR (zM<|zM ?_));refine zM ?_;refine zV (QC rfl rfl Yk kH (fun hg=>by first | omega | (simp [Z6] at hg;omega)))<|zF ZL ?_
  refine zV (Qd rfl YW (fun hg=>by first | exact zCC hP1 hp rfl | exact zCt hN hy rfl | exact zjY hbi | exact zCu (Qz.seg hseg rfl) | exact zCt hRow hrb rfl | (repeat (first | exact zCv rfl | apply zCu | apply zCw))))<|zQ Q4<|zC (zN ?_)
  refine zI ?_ ?_<;>intro hc25
  ·
   have hlt_j:j<p.n:=(by have h:=hc25;simp at h;omega);obtain ⟨y,hy⟩:=hN.at hlt_j;obtain ⟨m,q,hmk,hqm,hqy,hfm⟩:=hL.need_at hp (List.mem_of_getElem? hy);refine Qp (Qc (Qm (Qr (zR (zM ?_)))));refine zM ?_;refine zM ?_;refine zV (QC rfl rfl Yk kH (fun hg=>by first | omega | (simp [Z6] at hg;omega)))<|zF ZL ?_
   refine zV (Qd rfl YW (fun hg=>by first | exact zCC hP1 hp rfl | exact zCt hN hy rfl | exact zjY hbi | exact zCu (Qz.seg hseg rfl) | exact zCt hRow hrb rfl | (repeat (first | exact zCv rfl | apply zCu | apply zCw))))<|zM ?_
   refine zV (QC rfl rfl Q4 kH (fun hg=>by first | omega | (simp [Z6] at hg;omega)))<|zV (Qd rfl Qn (fun hg=>by first | exact zCC hP1 hp rfl | exact zCt hN hy rfl | exact zjY hbi | exact zCu (Qz.seg hseg rfl) | exact zCt hRow hrb rfl | (repeat (first | exact zCv rfl | apply zCu | apply zCw))))<|qcV (vs:=[_,_]) rfl zlN (zqu hP hn hfm)<|zA<|zN (zR ?_)
   refine zM ?_;refine zM ?_;refine zV (VB rfl rfl zb7 (fun hg=>by first | omega | (simp [Z6] at hg;omega)))<|Jv rfl rfl zgf rfl rfl (by repeat (first | exact Upd.here | apply Upd.there | apply ZC)) (zBD (by rw [hr.1,hP.len];omega))<|Qb ?_
   rw [zdB];refine Qc (Qm ?_);obtain ⟨hd,hhd⟩:∃ hd,hs[m]? =some hd:=⟨_,List.getElem?_eq_getElem (by rw [hq.1];exact hmk)⟩;obtain ⟨hmi2,bo,co,cur,rfl,rfl,hseg,hle,hset⟩:=hO.spot zei kD hhd;obtain ⟨hdn,hRow⟩:=hq.2 m hd q hhd hqm;refine Qh (zA (zN (Qr<|zU [(0,_),(3,_),(4,_),(5,_),(6,_),(7,_)] (fun T L0 mz E I' loc'=>∃ (i:Nat) (row2:List Bool),mz=m-i∧E=(8,.int .i64 i)::T∧J1=I'∧(b_17,.cells (Wg row2) 4 (0,0))::[(bo,.cells cur.toArray 211 (0,0))]=loc'∧i≤m∧zc2 ps (zqG ps p j y i) row2) ?_ (h:=⟨0,row.set m true,rfl,rfl,rfl,rfl,Nat.zero_le _,zt9 hL hr hqm hqy⟩))));rintro mz E I' loc' ⟨i,row2,rfl,rfl,rfl,rfl,hi,hr2⟩;refine Qm (zR (zM<|zM<|zC (zN ?_)));refine zI ?_ ?_<;>intro hc43
   ·
    have hlt_i:i<m:=(by have h:=hc43;simp at h;omega);obtain ⟨qi,hqi⟩:=hP.1.at (show i<n by omega);have hbi:=hr2.2 i qi hqi;have hrb:(zjU ps q)[i]? =some (onF ps y qi.id):=(by rw [←hqy];simp [zjU,hqi]);refine Qp (Qc (Qm (Qr (Qh (zM ?_)))));refine zM ?_;refine zM ?_;refine zM ?_;refine zV (VB rfl rfl zb7 (fun hg=>by first | omega | (simp [Z6] at hg;omega))) ?_;refine zV (Qd rfl XJ (fun hg=>by first | exact zCC hP1 hp rfl | exact zCt hN hy rfl | exact zjY hbi | exact zCu (Qz.seg hseg rfl) | exact zCt hRow hrb rfl | (repeat (first | exact zCv rfl | apply zCu | apply zCw))))<|zM ?_
    refine QK 6 rfl rfl rfl ?_;refine zJ (Qe rfl)<|zJ (Qe rfl)<|zJ (VB rfl rfl zk9 (fun hg=>by first | omega | (simp [Z6] at hg;omega)))<|zJ (Qd rfl zoO (fun hg=>by first | exact zCC hP1 hp rfl | exact zCt hN hy rfl | exact zjY hbi | exact zCu (Qz.seg hseg rfl) | exact zCt hRow hrb rfl | (repeat (first | exact zCv rfl | apply zCu | apply zCw))))<|zJ (Qe rfl)<|zJ (zX zb7 hRow)<|zJ (Qd rfl XJ (fun hg=>by first | exact zCC hP1 hp rfl | exact zCt hN hy rfl | exact zjY hbi | exact zCu (Qz.seg hseg rfl) | exact zCt hRow hrb rfl | (repeat (first | exact zCv rfl | apply zCu | apply zCw))))<|Zf rfl rfl rfl rfl rfl<|zV (VB rfl rfl zb7 (fun hg=>by first | omega | (simp [Z6] at hg;omega)))<|Jv rfl rfl zgf rfl rfl (by repeat (first | exact Upd.here | apply Upd.there | apply ZC)) (zBD (by rw [hr2.1,hP.len];omega))<|Qb ?_
    rw [zdB];refine Qi (Qc (Qh (zM ?_)));exact zB<|zA (Qb<|zm (h:=⟨m-(i+1),kB,i+1,_,rfl,rfl,rfl,rfl,kB,zqO hr2 hqi hbi⟩))
   have hge_i:m≤i:=(by have h:=hc43;simp at h;omega);have him:i=m:=kB;subst him;refine Q6 (Ql (Ql (Qq (Qi (Qc (Qh (zM ?_)))))));exact zB<|zA (Qb<|zm (h:=⟨p.n-(j+1),kB,j+1,_,rfl,rfl,rfl,rfl,kB,zrc hL hy hqm hqy hr2⟩))
  have hge_j:p.n≤j:=(by have h:=hc25;simp at h;omega);have hj:j=p.needs.length:=(by rw [hN.len];omega);subst hj;have hrd:=zp7 hL hpm hr;subst hrd;refine Q6 (Ql (Ql (Qq (Qc<|QH .here (fun I4 hI4 hb4=>?_)))));have hP:=hP.mono hI4;have hq:=hq.mono hI4;have hB0:=hB0.trans hI4;have hbR:=hb4;have hrow:Sl I4 1 zso (some ⟨b_17,0,none⟩) n n (zjU ps p):=Sl.lit _ (by simp [zjU,hP.len]) ziE hbR;refine Qh (zM ?_);refine zM ?_;refine zpb [(0,_)] [zmf ⟨some ⟨b_17,0,none⟩,n,n⟩] zlq (fun b_64=>?_);refine zpa (_) ([(⟨some ⟨b_17,0,none⟩,n,n⟩:Hd)].flatMap zmf) (L) rfl rfl zlq hO ⟨rfl,fun _=>rfl,zCy⟩ (zzd _) ?_;intro v9 L9 hO9 _;rw [←List.flatMap_append] at hO9;refine zA (Qb (Qi (Qc (Qh<|zM ?_))));exact zB<|zA (Qb<|zm (h:=⟨n-(k+1),kB,k+1,_,_,_,rfl,rfl,hB0,rfl,kB,hO9,hq.snoc hp hrow⟩))
 have hge_k:n≤k:=(by have h:=hc12;simp at h;omega);have hkn:k=n:=kB;subst hkn;refine Q6 (Ql (Ql (Qq (Qc (zR (zM<|zA (zN (Qs ?_))))))));exact QA rfl rfl (fun w hw=>by obtain ⟨I9,h91,h92,h93⟩:=ZP.res hO zei kD hw;obtain ⟨_,a9,c9,e9,h94⟩:=h93;rw [hq.1] at e9 h94;exact ⟨_,I9,[],rfl,hIc.trans h91,h92,rfl,a9,c9,e9,(hq.mono h91).slm hP.len h94⟩)
variable{p q:Pt}{i:Nat}
theorem zAT (_hp:ps[i]? =some p)(hq:ps[k]? =some q)(hp:ps[i]? =some p)(h:(((i:Int) != (k:Int))&& !zeU p q b)=false):(p.id==q.id||zeU p q b)=true:=by
 by_cases e:i=k
 ·
  subst e;rw [hp] at hq;cases hq;simp
 have:((i:Int) != (k:Int))=true:=by rw [bne_iff_ne];omega
 rw [this,Bool.true_and] at h;simp at h;simp [h]
theorem zkK (hL:Lst ps)(hp:ps[i]? =some p)(hq:ps[k]? =some q)(h:(((i:Int) != (k:Int))&& !zeU p q b)=true):(p.id==q.id||zeU p q b)=false:=by
 rw [Bool.and_eq_true] at h;have h1:i≠k:=(by have:=h.1;rw [bne_iff_ne] at this;omega);have h2:zeU p q b=false:=(by simpa using h.2);rw [h2,Bool.or_false,beq_eq_false_iff_ne];intro e;have e1:=hL.fnd hp;have e2:=hL.fnd hq;rw [e,e2] at e1;omega
theorem zxI (hP:SlP I av n c ps)(hn:n≤100000):ZF Tryz.prog 77 [.slice av n c] I (.int .i64 (WD ps)):=by
 intro g H w hw;refine qe Tryz.func77 Tryz.ntmps77 hw ?_;have hIc:=zCA I;refine zR (zA (zN (Qm (zR ?_))));refine zM ?_;refine zQ Yk<|zC (zN ?_)
 refine zI ?_ ?_<;>intro hc10
 ·
  have hlen:ps.length>512:=(by rw [hP.len];simp at hc10;omega);refine zR (zA (zN (Qs (Qf ?_))))
  first
  | exact zp hIc rfl rfl (by rw [zdb hlen])
  | exact zp hIc rfl rfl (by rw [hbad])
  | exact zp hIc rfl rfl (by rw [zdt hlen h0 hls])
  | exact zp hIc rfl rfl (by rw [zau hlen h0 hls (X5 hp (zaD hq (zkK hL hp hq hc63)))])
  | exact zp hIc rfl rfl (by rw [zdy hlen h0 hls htg])
 have hlen:¬ps.length>512:=(by rw [hP.len];simp at hc10;omega);refine Qp (Qc (Qm (zR (zA (zN (Qr<|zU [(0,_)] (fun T L0 mz E I' loc'=>∃ (k:Nat),mz=n-k∧E=(3,.int .i64 k)::T∧I=I'∧L0=loc'∧k≤n∧orF ((ps.take k).map KJ)=0) ?_ (h:=⟨0,rfl,rfl,rfl,rfl,Nat.zero_le _,rfl⟩)))))));rintro mz E I' loc' ⟨k,rfl,rfl,rfl,rfl,hk,h0⟩;refine Qm (zR (zM<|zM ?_));refine zQ Yk<|zC (zN ?_)
 refine zI ?_ ?_<;>intro hc14
 ·
  have hlt_k:k<n:=(by have h:=hc14;simp at h;omega);have hP1:=hP.1;obtain ⟨p,hp,hN⟩:=hP.at hlt_k;refine Qp (Qc (Qm (Qr (zR (zM ?_)))));refine zM ?_;refine zV (QC rfl rfl Yk kH (fun hg=>by first | omega | (simp [Z6] at hg;omega)))<|zV (Qg rfl Y6 (fun hg=>by first | exact zCB hP1 hp | exact zCB hP.1 hp | exact zCB hP.1 hq | (repeat (first | exact zCy | exact Cells.s0 (vs:=[_,_,_,_,_,_,_,_,_,_,_,_,_,_,_,_,_,_,_]) rfl | apply zCx | apply zCz))) rfl)<|qcV (vs:=[_]) rfl znv (zsT p hN)<|zA<|zN (zR ?_)
  refine zM<|zC (zN ?_)
  refine zI ?_ ?_<;>intro hc23
  ·
   have hbad:WD ps=KJ p:=zrQ hlen hp h0 (by simpa using hc23);refine zR (zM<|zA (zN (Qs (Qj (Qf (Qf (Qj (Qf ?_))))))))
   first
   | exact zp hIc rfl rfl (by rw [zdb hlen])
   | exact zp hIc rfl rfl (by rw [hbad])
   | exact zp hIc rfl rfl (by rw [zdt hlen h0 hls])
   | exact zp hIc rfl rfl (by rw [zau hlen h0 hls (X5 hp (zaD hq (zkK hL hp hq hc63)))])
   | exact zp hIc rfl rfl (by rw [zdy hlen h0 hls htg])
  have hpk:KJ p=0:=(by simpa using hc23);refine Qp (Qi (Qc (Qh (zM ?_))));exact zB<|zA (Qb<|zm (h:=⟨n-(k+1),kB,k+1,rfl,rfl,rfl,rfl,kB,znu hp h0 hpk⟩))
 have hge_k:n≤k:=(by have h:=hc14;simp at h;omega);have h0:orF (ps.map KJ)=0:=(by rw [ZB hP.len hge_k] at h0;exact h0);have hz:∀ p∈ps,KJ p=0:=fun p hp=>XG.1 h0 _ (List.mem_map.2 ⟨p,hp,rfl⟩);have hnd:=zz7 hP hz;refine Q6 (Ql (Ql (Qq (Qc (Qm (zR (zM<|qcV (vs:=[_]) rfl zwB (zAe hP hn hnd)<|zO (zN ?_))))))));refine zI ?_ ?_<;>intro hc27
 ·
  have hls:lsB ps=false:=(by simpa using hc27);refine zR (zA (zN (Qs (Qf ?_))))
  first
  | exact zp hIc rfl rfl (by rw [zdb hlen])
  | exact zp hIc rfl rfl (by rw [hbad])
  | exact zp hIc rfl rfl (by rw [zdt hlen h0 hls])
  | exact zp hIc rfl rfl (by rw [zau hlen h0 hls (X5 hp (zaD hq (zkK hL hp hq hc63)))])
  | exact zp hIc rfl rfl (by rw [zdy hlen h0 hls htg])
 have hls:lsB ps=true:=(by simpa using hc27);have hL:Lst ps:=zlJ h0 hls;refine Qp (Qc (zR (zM<|zpc [_] rfl ztA .nil (zA3 hP hn hL hnd) ?_)));rintro vv2 I2 L2 hI2 ⟨rfl,ao,co,rfl,hM⟩;have hP:=hP.mono hI2;have hIc:=hIc.trans hI2;refine zA (zN (Qm (zR<|zA (zN (Qr ?_)))));refine zU [(0,_),(5,_)] (fun T L0 mz E I' loc'=>∃ (i:Nat),mz=n-i∧E=(6,.int .i64 i)::T∧I2=I'∧L0=loc'∧i≤n∧((ps.take i).all fun p=>ps.all fun q=>(p.id==q.id||zeU p q (onF ps p.id q.id)))=true) ?_ (h:=⟨0,rfl,rfl,rfl,rfl,Nat.zero_le _,by simp⟩);rintro mz E I' loc' ⟨i,rfl,rfl,rfl,rfl,hi,htg⟩;refine Qm (zR (zM<|zM ?_));refine zQ Yk<|zC (zN ?_)
 refine zI ?_ ?_<;>intro hc33
 ·
  have hlt_i:i<n:=(by have h:=hc33;simp at h;omega);obtain ⟨p,hp⟩:=hP.1.at hlt_i;obtain ⟨hs,hd,r,hH,hhd,hrr,hRow⟩:=hM.at hlt_i;have hr:r=zjU ps p:=(by rw [List.getElem?_map,hp] at hrr;exact (Option.some.inj hrr).symm);subst hr;have hdn:n=hd.n:=(by rw [←hRow.len,←hP.len];simp [zjU]);refine Qp (Qc (Qm (Qr (zR (zA (zN (Qr<|zU [(0,_),(5,_),(6,_)] (fun T L0 mz E I' loc'=>∃ (k:Nat),mz=n-k∧E=(7,.int .i64 k)::T∧I2=I'∧L0=loc'∧k≤n∧((ps.take k).all fun q=>(p.id==q.id||zeU p q (onF ps p.id q.id)))=true) ?_ (h:=⟨0,rfl,rfl,rfl,rfl,Nat.zero_le _,by simp⟩))))))));rintro mz E I' loc' ⟨k,rfl,rfl,rfl,rfl,hk,hq0⟩;refine Qm (zR (zM<|zM ?_));refine zQ Yk<|zC (zN ?_)
  refine zI ?_ ?_<;>intro hc39
  ·
   have hlt_k:k<n:=(by have h:=hc39;simp at h;omega);obtain ⟨q,hq⟩:=hP.1.at hlt_k;have hb:(zjU ps p)[k]? =some (onF ps p.id q.id):=(by simp [zjU,hq]);refine Qp (Qc (Qm (Qr (Qm<|Kq mixed kA<|zq (Qe rfl)<|zq (Qe rfl)<|zq (QE rfl rfl rfl)<|zq (Qe rfl)<|Vw 3 rfl rfl rfl<|zk (Qe rfl)<|zk (Qe rfl)<|zk (QC rfl rfl Yk hP.1 (fun hg=>by first | omega | (simp [Z6] at hg;omega)))<|zk (Qg rfl Y6 (fun hg=>by first | exact zCB hP1 hp | exact zCB hP.1 hp | exact zCB hP.1 hq | (repeat (first | exact zCy | exact Cells.s0 (vs:=[_,_,_,_,_,_,_,_,_,_,_,_,_,_,_,_,_,_,_]) rfl | apply zCx | apply zCz))) rfl)<|zk (Qe rfl) ?_))));refine zk (Qe rfl)<|zk (QC rfl rfl Yk hP.1 (fun hg=>by first | omega | (simp [Z6] at hg;omega)))<|zk (Qg rfl Y6 (fun hg=>by first | exact zCB hP1 hp | exact zCB hP.1 hp | exact zCB hP.1 hq | (repeat (first | exact zCy | exact Cells.s0 (vs:=[_,_,_,_,_,_,_,_,_,_,_,_,_,_,_,_,_,_,_]) rfl | apply zCx | apply zCz))) rfl)<|zk (Qe rfl)<|zk (Qe rfl)<|zk (zX zk9 hH)<|zk (Qd rfl zoO (fun hg=>by first | exact zCt hH hhd rfl | exact zCt hRow hb rfl | (repeat (first | exact zCv rfl | apply zCu | apply zCw))))<|zk (Qe rfl)<|zk (zX zb7 hRow)<|zk (Qd rfl XJ (fun hg=>by first | exact zCt hH hhd rfl | exact zCt hRow hb rfl | (repeat (first | exact zCv rfl | apply zCu | apply zCw))))<|Jn (cap:=[]) (vs:=[_,_,_]) rfl rfl zvB (fun hg=>zBi _ p q (onF ps p.id q.id)) (.some rfl rfl rfl rfl gbt) rfl rfl<|zk (Zy rfl) ?_
   refine UA rfl rfl rfl rfl rfl<|Kt<|Qc ?_
   refine zI ?_ ?_<;>intro hc63
   ·
    refine zR (zA (zN (Qs (Qj (Qf (Qf (Qj<|Qj (Qf (Qf (Qj (Qf ?_)))))))))))
    first
    | exact zp hIc rfl rfl (by rw [zdb hlen])
    | exact zp hIc rfl rfl (by rw [hbad])
    | exact zp hIc rfl rfl (by rw [zdt hlen h0 hls])
    | exact zp hIc rfl rfl (by rw [zau hlen h0 hls (X5 hp (zaD hq (zkK hL hp hq hc63)))])
    | exact zp hIc rfl rfl (by rw [zdy hlen h0 hls htg])
   refine Qp (Qi (Qc (Qh (zM ?_))));exact zB<|zA (Qb<|zm (h:=⟨n-(k+1),kB,k+1,rfl,rfl,rfl,rfl,kB,zgH hq hq0 (zAT hp hq hp hc63)⟩))
  have hge_k:n≤k:=(by have h:=hc39;simp at h;omega);rw [ZB hP.len hge_k] at hq0;have hrow:=hq0;refine Q6 (Ql (Ql (Qq (Qi (Qc (Qh (zM ?_)))))));exact zB<|zA (Qb<|zm (h:=⟨n-(i+1),kB,i+1,rfl,rfl,rfl,rfl,kB,zgH hp htg hrow⟩))
 have hge_i:n≤i:=(by have h:=hc33;simp at h;omega);rw [ZB hP.len hge_i] at htg;refine Q6 (Ql (Ql (Qq (Qc (zR (zA (zN<|Qs ?_)))))))
 first
 | exact zp hIc rfl rfl (by rw [zdb hlen])
 | exact zp hIc rfl rfl (by rw [hbad])
 | exact zp hIc rfl rfl (by rw [zdt hlen h0 hls])
 | exact zp hIc rfl rfl (by rw [zau hlen h0 hls (X5 hp (zaD hq (zkK hL hp hq hc63)))])
 | exact zp hIc rfl rfl (by rw [zdy hlen h0 hls htg])
end
end Go.Proofs.YtjblkbkmblkgoaaGreat
