/- partiesSpec_holds, part H of the proof: what its theorems say holds without further conditions. -/
import Derived.Test.YtjblkbkmblkgoaaGreatSPG
namespace Go.Proofs.YtjblkbkmblkgoaaGreat
section
open Go Go.Kn Go.Proofs
theorem zz4 (I:Qu)(a0 b0:Nat)(_ha:a0≤1073741824)(_hb:b0≤1073741824):ZJ Tryz.prog 288 [.int .i64 a0,.int .i64 b0] I (.int .i64 (Nat.gcd a0 b0:Nat)):=by
 intro g H w hw;refine qe Tryz.func288 Tryz.ntmps288 hw ?_;refine zR (zA (zN (Qm (Qw<|zeF [] .nil (fun T L0 mz E I' loc'=>∃ (a b:Nat),mz=(b+1)∧E=(0,.int .i64 a)::(1,.int .i64 b)::T∧I=I'∧L0=loc'∧Nat.gcd a b=Nat.gcd a0 b0) _ _ _ _ ⟨a0,b0,rfl,rfl,rfl,rfl,rfl⟩ (.cons rfl (.cons rfl .nil)) (zB6 _) rfl ?_))));rintro mz E I' loc' ⟨a,b,rfl,rfl,rfl,rfl,hgc⟩;refine Qm (zR (zM<|zC (zN ?_)));refine zI ?_ ?_<;>intro hc7
 ·
  have hbp:0<b:=(by have h:=hc7;simp at h;omega);refine Qr (Qd (Qw (zR (zM ?_))));refine zM ?_;refine zV (Yd rfl rfl (fun hg=>kB)) ?_;rw [zjz];refine zA<|zN (zR ?_)
  exact zM<|zA (zN (Qh<|zM<|zA (Qb (Qk<|zm (h:=⟨a % b+1,Nat.succ_lt_succ (Nat.mod_lt _ hbp),b,a % b,rfl,rfl,rfl,rfl,zqM hgc⟩)))))
 have hb0:b=0:=(by have h:=hc7;simp at h;omega);exact Zk (Qo (Qo (Qz (Qd (zR (zM<|zA (zN (Qs<|zr rfl rfl (by rw [←hgc,hb0,Nat.gcd_zero_right])))))))))
theorem zxE (I:Qu)(a b:Int)(ha:0≤a∧a≤1073741824)(hb:0≤b∧b≤1073741824):ZJ Tryz.prog 288 [.int .i64 a,.int .i64 b] I (.int .i64 (zoz a b)):=by
 have h:=zz4 I a.toNat b.toNat kB kB;rw [Int.toNat_of_nonneg ha.1,Int.toNat_of_nonneg hb.1,zpY ha.1 hb.1] at h;exact h
theorem zxc (I:Qu)(n:Int)(hn: -1073741824≤n∧n≤1073741824):ZJ Tryz.prog 289 [.int .i64 n] I (.int .i64 (zcR n)):=by
 intro g H w hw;refine qe Tryz.func289 Tryz.ntmps289 hw ?_;refine zR (zA (zN (Qm (zR ?_))));refine zM<|zC (zN ?_)
 refine zI ?_ ?_<;>intro hc4
 ·
  refine zR (zM<|zV (zi8 rfl)<|zA (zN (Qs (Qf ?_))))
  first
  | exact zr rfl rfl (by unfold zcR;rw [if_pos (by simpa using hc4),zer kB])
 refine Qr (Qd (zR (zM<|zA (zN (Qs ?_)))))
 first
 | exact zr rfl rfl (by unfold zcR;rw [if_neg (by simpa using hc4)])
theorem zlO (I:Qu)(n d:Int):ZJ Tryz.prog 286 [za3 (n) (d)] I (.bool (WE n d)):=by
 intro g H w hw;refine qe Tryz.func286 Tryz.ntmps286 hw ?_;refine zR<|QK rfl rfl rfl (fun b_1=>zA (zN (Qm<|Uy mixed kA<|zq (Qa rfl Vr) ?_)))
 refine zq (Qc rfl Ql (fun hg=>by exact Qy.h0 rfl))<|zq (QA rfl rfl rfl)<|zq (Qe rfl)<|Jd 3 rfl rfl rfl<|zk (Qa rfl Vr)<|zk (Qc rfl Ql (fun hg=>by exact Qy.h0 rfl))<|zk (QA rfl rfl rfl)<|Xs rfl rfl rfl rfl rfl<|zq (Qe rfl)<|Jd 8 rfl rfl rfl<|zk (Qa rfl Y2)<|zk (Qc rfl Ql (fun hg=>by exact Qy.h0 rfl)) ?_
 refine zk (QA rfl rfl rfl)<|Xs rfl rfl rfl rfl rfl<|zq (Qe rfl)<|Jd 13 rfl rfl rfl<|zk (Qa rfl Y2)<|zk (Qc rfl Ql (fun hg=>by exact Qy.h0 rfl))<|zk (QA rfl rfl rfl)<|Xs rfl rfl rfl rfl rfl<|zq (Qe rfl)<|Jd 18 rfl rfl rfl<|zk (Qa rfl Y2)<|zk (Qc rfl Ql (fun hg=>by exact Qy.h0 rfl)) ?_
 exact JU (cap:=[]) (vs:=[_]) rfl rfl zuS (fun hg=>zxc I n (by simp [Yq] at hg;omega)) (.some rfl rfl rfl rfl gbt) rfl rfl<|zk (Qa rfl Vr)<|zk (Qc rfl Ql (fun hg=>by exact Qy.h0 rfl))<|JU (cap:=[]) (vs:=[_,_]) rfl rfl zvf (fun hg=>zxE I _ d (zuv (by simp [Yq] at hg;omega)) (by simp [Yq] at hg;omega)) (.some rfl rfl rfl rfl gbt) rfl rfl<|zk (QA rfl rfl rfl)<|Xs rfl rfl rfl rfl rfl<|zq (QB rfl)<|Uo<|Qd (Qs<|zr rfl rfl (by rw [←zqs]))
theorem zzL (I:Qu)(an ad bn bd:Int):ZJ Tryz.prog 283 [za3 (an) (ad),za3 (bn) (bd)] I (.bool (WE an ad&&WE bn bd)):=by
 intro g H w hw;refine qe Tryz.func283 Tryz.ntmps283 hw ?_;refine zR<|QK rfl rfl rfl (fun b_2=>QK rfl rfl rfl (fun b_3=>zA<|zN (zR<|zV (Qg rfl Jz (fun hg=>by exact Cells.g1) rfl)<|qcV (vs:=[_]) rfl znA (zlO I _ _)<|zM<|Qt 2 rfl rfl rfl ?_)))
 exact zK (Qg rfl Jz (fun hg=>by exact Cells.g0) rfl)<|qg (vs:=[_]) rfl znA (fun hg=>zlO I _ _)<|QE rfl rfl rfl rfl rfl<|zA (zN (Qs<|zr rfl rfl kW))
theorem zxu (I:Qu)(an ad bn bd:Int)(ha:WE an ad=true)(hb:WE bn bd=true):ZJ Tryz.prog 284 [za3 (an) (ad),za3 (bn) (bd)] I (.bool (decide (an*bd<bn*ad))):=by
 intro g H w hw;refine qe Tryz.func284 Tryz.ntmps284 hw ?_;have ⟨ha1,ha2⟩:=zdU ha;have ⟨hb1,hb2⟩:=zdU hb;refine zR<|QK rfl rfl rfl (fun b_2=>QK rfl rfl rfl (fun b_3=>zA<|zN (zR<|zF Y2 ?_)))
 refine zL Ql<|zF Vr ?_
 refine zL Ql ?_;refine zV (Ya rfl rfl rfl (fun _=>by exact zrl kB kB))<|zF Y2 ?_
 refine zL Ql<|zF Vr ?_
 refine zL Ql ?_;exact zV (Ya rfl rfl rfl (fun _=>by exact zrl kB kB))<|zC<|zA (zN (Qs<|zr rfl rfl kW))
theorem JQ (I:Qu)(n lo hi:Int):ZJ Tryz.prog 279 [.int .i64 n,.int .i64 lo,.int .i64 hi] I (.bool (within n lo hi)):=by
 intro g H w hw;refine qe Tryz.func279 Tryz.ntmps279 hw ?_;refine zR (zA<|zN (zR ?_));refine zM ?_;refine zM<|zC ?_
 refine zM<|Qt 3 rfl rfl rfl ?_
 refine zK (Qe rfl) ?_;refine zK (Qe rfl) ?_;refine zK (QA rfl rfl rfl) ?_;exact QE rfl rfl rfl rfl rfl<|zA (zN (Qs<|zr rfl rfl kW))
theorem zwW (I:Qu)(an ad bn bd:Int):ZJ Tryz.prog 280 [za3 (an) (ad),za3 (bn) (bd)] I (.bool (zcL an ad bn bd)):=by
 intro g H w hw;refine qe Tryz.func280 Tryz.ntmps280 hw ?_;refine zR<|QK rfl rfl rfl (fun b_2=>QK rfl rfl rfl (fun b_3=>zA<|zN (zR<|zV (Qg rfl Jz (fun hg=>by exact Cells.g1) rfl)<|zV (Qg rfl Jz (fun hg=>by exact Cells.g0) rfl)<|qcV (vs:=[_,_]) rfl zv0 (zzL I _ _ _ _) ?_)))
 refine zA<|zN (zR ?_)
 refine zM ?_;refine zM<|Qt 1 rfl rfl rfl ?_
 refine zK (Qa rfl Y2) ?_;refine zK (Qc rfl Ql (fun hg=>by exact Qy.h1 rfl)) ?_;refine zK (QA rfl rfl rfl) ?_;refine QE rfl rfl rfl rfl rfl<|zM<|Qt 6 rfl rfl rfl ?_
 refine zK (Qg rfl Jz (fun hg=>by exact Cells.g1) rfl)<|zK (Qg rfl Jz (fun hg=>by exact Cells.g0) rfl)<|qg (vs:=[_,_]) rfl zur (fun hg=>zxu I _ _ _ _ (by simp [Yq] at hg;exact hg.1.1) (by simp [Yq] at hg;exact hg.1.2))<|QE rfl rfl rfl rfl rfl<|zM<|Qt 11 rfl rfl rfl ?_
 refine zK (Qa rfl Y2) ?_;refine zK (Qc rfl Ql (fun hg=>by exact Qy.h0 rfl))<|zK (Qa rfl Vr) ?_
 refine zK (Qc rfl Ql (fun hg=>by exact Qy.h0 rfl)) ?_;refine zK (QA rfl rfl rfl) ?_;exact QE rfl rfl rfl rfl rfl<|zA (zN (Qs<|zr rfl rfl (by rw [←zpB])))
theorem zzZ (I:Qu)(x:Sg):ZJ Tryz.prog 277 [W6 x] I (.bool (frm x)):=by
 intro g H w hw;refine qe Tryz.func277 Tryz.ntmps277 hw ?_;refine zR<|QK rfl rfl rfl (fun b_1=>zA (zN (Qm (zR<|zF JJ ?_))))
 refine zL Ql<|qcV (vs:=[_,_,_]) rfl K9 (JQ I _ _ _)<|zO<|zM ?_
 refine QI 4 rfl rfl rfl ?_;refine zJ (Qa rfl UT)<|zJ (Qc rfl Ql (fun hg=>by exact Qy.h0 rfl))<|qf (vs:=[_,_,_]) rfl K9 (fun hg=>JQ I _ _ _)<|zJ (ZB rfl)<|Q9 rfl rfl rfl rfl rfl ?_
 refine zM ?_;refine QI 10 rfl rfl rfl ?_;refine zJ (Qa rfl UG)<|zJ (Qc rfl Ql (fun hg=>by exact Qy.h0 rfl))<|qf (vs:=[_,_,_]) rfl K9 (fun hg=>JQ I _ _ _)<|zJ (ZB rfl)<|Q9 rfl rfl rfl rfl rfl ?_
 refine zM ?_;refine QI 16 rfl rfl rfl ?_;refine zJ (Qa rfl zbk)<|zJ (Qc rfl Ql (fun hg=>by exact Qy.h0 rfl))<|qf (vs:=[_,_,_]) rfl K9 (fun hg=>JQ I _ _ _)<|zJ (ZB rfl)<|Q9 rfl rfl rfl rfl rfl ?_
 refine zM ?_;refine QI 22 rfl rfl rfl ?_;refine zJ (Qa rfl UU)<|zJ (Qc rfl Ql (fun hg=>by exact Qy.h0 rfl))<|qf (vs:=[_,_,_]) rfl K9 (fun hg=>JQ I _ _ _)<|zJ (ZB rfl)<|Q9 rfl rfl rfl rfl rfl ?_
 refine zN ?_;refine zI ?_ ?_<;>intro hc30
 ·
  exact zR (zA (zN (Qs (Qf<|zr rfl rfl (by exact congrArg (fun b=>Ending.returned (Value.bool b)) (zA1 hc30).symm)))))
 refine Qr (Qd (Qm (zR<|zF UK ?_)));refine zL Ql<|qcV (vs:=[_,_,_]) rfl K9 (JQ I _ _ _)<|zO<|zM ?_
 refine QI 4 rfl rfl rfl ?_;refine zJ (Qa rfl UW)<|zJ (Qc rfl Ql (fun hg=>by exact Qy.h0 rfl))<|qf (vs:=[_,_,_]) rfl K9 (fun hg=>JQ I _ _ _)<|zJ (ZB rfl)<|Q9 rfl rfl rfl rfl rfl ?_
 refine zM ?_;refine QI 10 rfl rfl rfl ?_;refine zJ (Qa rfl UJ)<|zJ (Qc rfl Ql (fun hg=>by exact Qy.h0 rfl))<|qf (vs:=[_,_,_]) rfl K9 (fun hg=>JQ I _ _ _)<|zJ (ZB rfl)<|Q9 rfl rfl rfl rfl rfl ?_
 refine zM ?_;refine QI 16 rfl rfl rfl ?_;refine zJ (Qa rfl UO)<|zJ (Qc rfl Ql (fun hg=>by exact Qy.h0 rfl))<|qf (vs:=[_,_,_]) rfl K9 (fun hg=>JQ I _ _ _)<|zJ (ZB rfl)<|Q9 rfl rfl rfl rfl rfl ?_
 refine zM ?_;refine QI 22 rfl rfl rfl ?_;refine zJ (Qa rfl UQ)<|zJ (Qc rfl Ql (fun hg=>by exact Qy.h0 rfl))<|qf (vs:=[_,_,_]) rfl K9 (fun hg=>JQ I _ _ _)<|zJ (ZB rfl)<|Q9 rfl rfl rfl rfl rfl ?_
 refine zN ?_;refine zI ?_ ?_<;>intro hc58
 ·
  exact zR (zA (zN (Qs (Qf<|zr rfl rfl (by exact congrArg (fun b=>Ending.returned (Value.bool b)) (zAP hc58).symm)))))
 refine Qr (Qd (zR<|zF Jv ?_));refine zV (Qg rfl Jz (fun hg=>by exact Cells.s0 (vs:=[_,_]) rfl) rfl)<|zF Jo ?_
 refine zV (Qg rfl Jz (fun hg=>by exact Cells.s0 (vs:=[_,_]) rfl) rfl)<|qcV (vs:=[_,_]) rfl zuE (zwW I _ _ _ _) ?_
 exact zA (zN (Qs<|zr rfl rfl (by exact congrArg (fun b=>Ending.returned (Value.bool b)) (zAN hc30 hc58).symm)))
variable{I:Qu}{av:Option Addr}{n c:Nat}{xs:List Sg}
theorem zuf (hS:Sl I 14 zgr av n c xs)(hn:n≤100000):ZJ Tryz.prog 275 [.slice av n c] I (.bool (skB xs)):=by
 intro g H w hw;refine qe Tryz.func275 Tryz.ntmps275 hw ?_;refine zR (zA (zN (Qm (zR<|zA (zN (Qw<|zU [(0,_)] (fun T L0 mz E I' loc'=>∃ (k:Nat),mz=n-k∧E=(3,.int .i64 k)::T∧I=I'∧L0=loc'∧k≤n∧(List.range k).all (skP xs)=true) ?_ (h:=⟨0,rfl,rfl,rfl,rfl,Nat.zero_le _,rfl⟩)))))));rintro mz E I' loc' ⟨k,rfl,rfl,rfl,rfl,hk,hall⟩;refine Qm (zR (zM<|zM<|zQ UP<|zC (zN ?_)));refine zI ?_ ?_<;>intro hc7
 ·
  have hlt_k:k<n:=(by have h:=hc7;simp at h;omega);obtain ⟨x,hx⟩:=hS.at hlt_k;refine Qr (Qd (Qm (Qw (Qm<|Uy mixed kA<|zq (Qe rfl)<|zq (Qe rfl)<|zq (QG rfl rfl UP kL (fun hg=>kB))<|zq (Qg rfl ZP (fun hg=>by exact zB7 hS hx) rfl)<|Wd (cap:=[]) (vs:=[_]) rfl rfl zvc (zzZ I _) rfl rfl<|zq (ZB rfl)<|zq (Qe rfl)<|VF 6 rfl rfl rfl<|zj (Qe rfl)<|zj (QA rfl rfl rfl) ?_))));refine zj (Qe rfl)<|Jd 9 rfl rfl rfl<|zk (Qe rfl)<|zk (Qe rfl)<|zk (QG rfl rfl UP kL (fun hg=>kB))<|zk (Qa rfl JJ)<|zk (Qc rfl Ql (fun hg=>by exact zBZ hS hx rfl))<|zk (Qe rfl)<|zk (Qe rfl)<|zk (Ya rfl rfl rfl (fun hg=>kB))<|zk (QG rfl rfl UP kL (fun hg=>by (simp [Yq] at hg;omega)))<|zk (Qa rfl JJ) ?_
  refine zk (Qc rfl Ql (fun hg=>by exact zBZ (k:=((k:Int)-1).toNat) hS (Uw (d:=Kb) hS.len (by simp [Yq] at hg;omega)) rfl))<|zk (QA rfl rfl rfl)<|zbS rfl rfl rfl (.some rfl rfl rfl rfl gbf) rfl rfl<|K3 rfl rfl rfl rfl rfl<|Uo<|Qd ?_
  refine zI ?_ ?_<;>intro hc33
  ·
   refine zR (zA (zN (Qs (Qi (Qf (Qf (Qi<|Qf ?_)))))))
   first
   | exact zr rfl rfl (by unfold skB;rw [Ka (k:=k) (by rw [hS.len];exact hlt_k) (by rw [ziy hx];exact congrArg (! ·) hc33)])
  refine Qr (Qk (Qd (Qh (zM ?_))));refine zB<|zA (Qb ?_)
  exact zm (h:=⟨n-(k+1),kB,k+1,rfl,rfl,rfl,rfl,kB,Ji hall (by rw [ziy hx];exact congrArg (! ·) hc33)⟩)
 have hge_k:n≤k:=(by have h:=hc7;simp at h;omega);refine Zk (Qo (Qo (Qz (Qd (zR (zA (zN<|Qs ?_)))))))
 first
 | exact zr rfl rfl (by unfold skB;rw [hS.len,show n=k by omega,hall])
theorem zzN (hS:Sl I 14 zgr av n c xs)(hn:n≤100000):ZJ Tryz.prog 267 [.slice av n c] I (.int .i64 (zj0 xs)):=by
 intro g H w hw;refine qe Tryz.func267 Tryz.ntmps267 hw ?_;refine zR (zA (zN (Qm (zR ?_))));refine zM<|zQ UP<|zC (zN ?_)
 refine zI ?_ ?_<;>intro hc5
 ·
  have h6:xs.length>4096:=(by rw [hS.len];simp at hc5;omega);exact zR (zA (zN (Qs (Qf<|zr rfl rfl (by rw [zwL h6])))))
 have h6:¬xs.length>4096:=(by rw [hS.len];simp at hc5;omega);refine Qr (Qd (Qm (zR (zM ?_))));refine qcV (vs:=[_]) rfl ztC (zuf hS hn)<|zO (zN ?_)
 refine zI ?_ ?_<;>intro hc8
 ·
  exact zR (zA (zN (Qs (Qf<|zr rfl rfl (by rw [zyC h6 (by simpa using hc8)])))))
 exact Qr (Qd (zR (zA (zN (Qs<|zr rfl rfl (by rw [zzy h6 (by simpa using hc8)]))))))
theorem zsS (I:Qu)(x:Sg):ZJ Tryz.prog 246 [W6 x] I (.bool (frm x)):=by
 intro g H w hw;refine qe Tryz.func246 Tryz.ntmps246 hw ?_;have hIc:=zB6 I;refine zR<|QK rfl rfl rfl (fun b_1=>zA<|zN (zR<|zV (Qg rfl ZP (fun hg=>by exact Cells.g0) rfl)<|zpb [(0,_)] [zgr x] zlo (fun b_5=>QV .here (fun I1 hI1 hb1=>?_))))
 have hIc:=hIc.trans hI1;have hS:=Sl.lit [x] rfl zhY (show _=some (Obj.cells (([x]:List Sg).flatMap zgr).toArray 36 (0,0)) from hb1);refine qcV (vs:=[_]) rfl zt8 (zzN hS kC) ?_;refine zA<|zN (zR ?_)
 refine zM<|zC<|zA (zN (Qs ?_))
 exact zp hIc rfl rfl (by rw [zk5])
theorem zyB (I:Qu)(x:Sg)(f:Int)(y:Sg):ZJ Tryz.prog 245 [W6 x,.int .i64 f,W6 y] I (W6 (Uj x f y)):=by
 intro g H w hw;refine qe Tryz.func245 Tryz.ntmps245 hw ?_;refine zR<|QK rfl rfl rfl (fun b_3=>QK rfl rfl rfl (fun b_5=>Qp zhH rfl rfl (fun b_6=>zN (Qm (zR (zM (zN (Qw (zR<|zC<|zA (zN ?_))))))))))
 refine zI ?_ ?_<;>intro hc8
 ·
  have hfk:f=1:=(by simpa using hc8);subst hfk;refine Qh<|zF UT ?_
  refine zL Ql<|zF UT ?_
  refine zS U5 ?_;refine Qb (Qk (Qd (zR ?_)));refine zV (Qg rfl ZP (fun hg=>by exact Cells.g2) rfl) ?_;refine zh Jn ?_;refine zN (Qs ?_);exact ZM rfl rfl ZP Cells.g0 rfl (fun w hw=>⟨rfl,hw.drop⟩)
 have hg1:f≠1:=(by simpa using hc8);refine zR (zC<|zA (zN ?_));refine zI ?_ ?_<;>intro hc13
 ·
  have hfk:f=2:=(by simpa using hc13);subst hfk;refine Qh<|zF UG ?_
  refine zL Ql<|zF UG ?_
  refine zS U5<|Qb (Qk (Qd (zR ?_)))
  refine zV (Qg rfl ZP (fun hg=>by exact Cells.g2) rfl) ?_;exact zh Jn<|zN (Qs<|ZM rfl rfl ZP Cells.g0 rfl (fun w hw=>⟨rfl,hw.drop⟩))
 have hg2:f≠2:=(by simpa using hc13);refine zR (zC<|zA (zN ?_));refine zI ?_ ?_<;>intro hc18
 ·
  have hfk:f=3:=(by simpa using hc18);subst hfk;refine Qh<|zF UU ?_
  refine zL Ql<|zF UU ?_
  refine zS U5<|Qb (Qk (Qd (zR ?_)))
  refine zV (Qg rfl ZP (fun hg=>by exact Cells.g2) rfl) ?_;exact zh Jn<|zN (Qs<|ZM rfl rfl ZP Cells.g0 rfl (fun w hw=>⟨rfl,hw.drop⟩))
 have hg3:f≠3:=(by simpa using hc18);refine zR (zC<|zA (zN ?_));refine zI ?_ ?_<;>intro hc23
 ·
  have hfk:f=4:=(by simpa using hc23);subst hfk;refine Qh<|zF UK ?_
  refine zL Ql<|zF UK ?_
  refine zS U5<|Qb (Qk (Qd (zR ?_)))
  refine zV (Qg rfl ZP (fun hg=>by exact Cells.g2) rfl) ?_;exact zh Jn<|zN (Qs<|ZM rfl rfl ZP Cells.g0 rfl (fun w hw=>⟨rfl,hw.drop⟩))
 have hg4:f≠4:=(by simpa using hc23);refine zR (zC<|zA (zN ?_));refine zI ?_ ?_<;>intro hc28
 ·
  have hfk:f=5:=(by simpa using hc28);subst hfk;refine Qh<|zF UW ?_
  refine zL Ql<|zF UW ?_
  refine zS U5<|Qb (Qk (Qd (zR ?_)))
  refine zV (Qg rfl ZP (fun hg=>by exact Cells.g2) rfl) ?_;exact zh Jn<|zN (Qs<|ZM rfl rfl ZP Cells.g0 rfl (fun w hw=>⟨rfl,hw.drop⟩))
 have hg5:f≠5:=(by simpa using hc28);refine zR (zC<|zA (zN ?_));refine zI ?_ ?_<;>intro hc33
 ·
  have hfk:f=6:=(by simpa using hc33);subst hfk;refine Qh<|zF UJ ?_
  refine zL Ql<|zF UJ ?_
  refine zS U5<|Qb (Qk (Qd (zR ?_)))
  refine zV (Qg rfl ZP (fun hg=>by exact Cells.g2) rfl) ?_;exact zh Jn<|zN (Qs<|ZM rfl rfl ZP Cells.g0 rfl (fun w hw=>⟨rfl,hw.drop⟩))
 have hg6:f≠6:=(by simpa using hc33);refine zR (zC<|zA (zN ?_));refine zI ?_ ?_<;>intro hc38
 ·
  have hfk:f=7:=(by simpa using hc38);subst hfk;refine Qh<|zF UO ?_
  refine zL Ql<|zF UO ?_
  refine zS U5<|Qb (Qk (Qd (zR ?_)))
  refine zV (Qg rfl ZP (fun hg=>by exact Cells.g2) rfl) ?_;exact zh Jn<|zN (Qs<|ZM rfl rfl ZP Cells.g0 rfl (fun w hw=>⟨rfl,hw.drop⟩))
 have hg7:f≠7:=(by simpa using hc38);refine zR (zC<|zA (zN ?_));refine zI ?_ ?_<;>intro hc43
 ·
  have hfk:f=8:=(by simpa using hc43);subst hfk;refine Qh<|zF UQ ?_
  refine zL Ql<|zF UQ ?_
  refine zS U5<|Qb (Qk (Qd (zR ?_)))
  refine zV (Qg rfl ZP (fun hg=>by exact Cells.g2) rfl) ?_;exact zh Jn<|zN (Qs<|ZM rfl rfl ZP Cells.g0 rfl (fun w hw=>⟨rfl,hw.drop⟩))
 have hg8:f≠8:=(by simpa using hc43);refine zR (zC<|zA (zN ?_));refine zI ?_ ?_<;>intro hc48
 ·
  have hfk:f=9:=(by simpa using hc48);subst hfk;refine zR<|zF Jv ?_
  refine zV (Qg rfl Jz (fun hg=>by exact Cells.s1 (vs:=[_,_]) rfl) rfl)<|zF Jv ?_
  refine Z0 rfl rfl zih rfl rfl rfl rfl (by repeat (first | exact Upd.here | apply Upd.there | apply ZD))<|zN (Qh<|zF Jo ?_)
  refine zV (Qg rfl Jz (fun hg=>by exact Cells.s1 (vs:=[_,_]) rfl) rfl)<|zF Jo ?_
  refine Z0 rfl rfl zih rfl rfl rfl rfl (by repeat (first | exact Upd.here | apply Upd.there | apply ZD))<|Qb (Qk (Qd (zR ?_)))
  refine zV (Qg rfl ZP (fun hg=>by exact Cells.g2) rfl) ?_;exact zh Jn<|zN (Qs<|ZM rfl rfl ZP Cells.g0 rfl (fun w hw=>⟨rfl,hw.drop⟩))
 have hg9:f≠9:=(by simpa using hc48);refine Qr (Qk (Qd (zR<|zV (Qg rfl ZP (fun hg=>by exact Cells.g2) rfl) ?_)));refine zh Jn<|zN (Qs ?_)
 first
 | exact ZM rfl rfl ZP Cells.g0 rfl (fun w hw=>⟨by unfold Uj;rw [if_neg hg1,if_neg hg2,if_neg hg3,if_neg hg4,if_neg hg5,if_neg hg6,if_neg hg7,if_neg hg8,if_neg hg9];rfl,hw.drop⟩)
theorem zuP (I:Qu):ZJ Tryz.prog 247 [] I (W6 zfU):=by
 intro g H w hw;refine qe Tryz.func247 Tryz.ntmps247 hw ?_;refine zR<|Qp zhH rfl rfl (fun b_0=>zN (zR<|zV (QD (ps:=[(1,_)]) [_,_] zdq rfl rfl) ?_))
 refine zV (QD (ps:=[(0,_),(1,_)]) [_,_] zdq rfl rfl) ?_;refine zV (QD (ps:=[(3,_),(4,_),(10,_),(11,_)]) [_,_,_,_,_,_,_,_,_,_,_,_,_,_] XW rfl rfl) ?_;exact zh Jn<|zN (Qs<|ZM rfl rfl ZP Cells.g0 rfl (fun w hw=>⟨rfl,hw.drop⟩))
variable{id x:Int}{v:List Int}{k:Nat}
theorem zsp (hx:v[k]? =some x):ndP id v k= !((decide (x<1)||decide (x≥id))||(decide ((k:Int)>0)&&decide (x≤v.getD ((k:Int)-1).toNat 0))):=by unfold ndP;rw [VL hx]
theorem zAS (p:Pt)(hN:Nd I p)(hpn:p.n≤100000):ZJ Tryz.prog 191 [Uf p] I (.bool (zpt p)):=by
 intro g H w hw;refine qe Tryz.func191 Tryz.ntmps191 hw ?_;have hN:Sl I 1 Z5 p.a p.n p.c p.needs:=hN;refine zR<|QK rfl rfl rfl (fun b_1=>zA (zN (Qm (zR<|zF Yk ?_))))
 refine zL Ql<|zC ?_
 refine zM ?_;refine QI 3 rfl rfl rfl ?_;refine zJ (Qa rfl Yk)<|zJ (Qc rfl Ql (fun hg=>by exact Qy.h0 rfl))<|zJ (QA rfl rfl rfl)<|Q9 rfl rfl rfl rfl rfl ?_
 refine zM ?_;refine QI 8 rfl rfl rfl ?_;refine zJ (Qa rfl YK)<|zJ (Qc rfl Ql (fun hg=>by exact Qy.h0 rfl))<|zJ (QA rfl rfl rfl)<|Q9 rfl rfl rfl rfl rfl ?_
 refine zM ?_;refine QI 13 rfl rfl rfl ?_;refine zJ (Qa rfl YK)<|zJ (Qc rfl Ql (fun hg=>by exact Qy.h0 rfl))<|zJ (QA rfl rfl rfl)<|Q9 rfl rfl rfl rfl rfl ?_
 refine zN ?_;refine zI ?_ ?_<;>intro hc21
 ·
  have hi:idB p=false:=(by have h:=hc21;rw [zrZ] at h;simpa using h);exact zR (zA (zN (Qs (Qf<|zr rfl rfl (by rw [zzG hi])))))
 have hi:idB p=true:=(by have h:=hc21;rw [zrZ] at h;simpa using h);refine Qr (Qd (Qm (zR (zA (zN (Qw<|zU [(1,_)] (fun T L0 mz E I' loc'=>∃ (k:Nat),mz=p.n-k∧E=(3,.int .i64 k)::T∧I=I'∧L0=loc'∧k≤p.n∧(List.range k).all (ndP p.id p.needs)=true) ?_ (h:=⟨0,rfl,rfl,rfl,rfl,Nat.zero_le _,rfl⟩)))))));rintro mz E I' loc' ⟨k,rfl,rfl,rfl,rfl,hk,hall⟩;refine Qm (zR (zM<|zF ZZ ?_));refine zL Vy<|zQ Zb<|zC (zN ?_)
 refine zI ?_ ?_<;>intro hc26
 ·
  have hlt_k:k<p.n:=(by have h:=hc26;simp at h;omega);obtain ⟨x,hx⟩:=hN.at hlt_k;refine Qr (Qd (Qm (Qw (Qm<|Uy mixed kA<|zq (Qa rfl ZZ) ?_))));refine zq (Qc rfl Vy (fun hg=>by exact Qy.h0 rfl))<|zq (Qe rfl)<|zq (QG rfl rfl Zb kL (fun hg=>kB))<|zq (Qc rfl Ql (fun hg=>by exact zBZ hN hx rfl))<|zq (QA rfl rfl rfl)<|zq (Qe rfl)<|VF 6 rfl rfl rfl<|zj (Qa rfl ZZ)<|zj (Qc rfl Vy (fun hg=>by exact Qy.h0 rfl))<|zj (Qe rfl)<|zj (QG rfl rfl Zb kL (fun hg=>kB))<|zj (Qc rfl Ql (fun hg=>by exact zBZ hN hx rfl)) ?_
  refine zj (Qa rfl Yk)<|zj (Qc rfl Ql (fun hg=>by exact Qy.h0 rfl))<|zj (QA rfl rfl rfl)<|K3 rfl rfl rfl rfl rfl<|zq (Qe rfl)<|VF 16 rfl rfl rfl<|zj (Qe rfl)<|zj (QA rfl rfl rfl)<|zj (Qe rfl)<|Jd 19 rfl rfl rfl<|zk (Qa rfl ZZ)<|zk (Qc rfl Vy (fun hg=>by exact Qy.h0 rfl)) ?_
  refine zk (Qe rfl)<|zk (QG rfl rfl Zb kL (fun hg=>kB))<|zk (Qc rfl Ql (fun hg=>by exact zBZ hN hx rfl))<|zk (Qa rfl ZZ)<|zk (Qc rfl Vy (fun hg=>by exact Qy.h0 rfl))<|zk (Qe rfl)<|zk (Ya rfl rfl rfl (fun hg=>kB))<|zk (QG rfl rfl Zb kL (fun hg=>by (simp [Yq] at hg;omega)))<|zk (Qc rfl Ql (fun hg=>by exact zBZ (k:=((k:Int)-1).toNat) hN (Uw (d:=0) hN.len (by simp [Yq] at hg;omega)) rfl))<|zk (QA rfl rfl rfl)<|zbS rfl rfl rfl (.some rfl rfl rfl rfl gbf) rfl rfl<|K3 rfl rfl rfl rfl rfl ?_
  refine Uo<|Qd ?_
  refine zI ?_ ?_<;>intro hc62
  ·
   have hnd:ndB p.id p.needs=false:=(by unfold ndB;exact Ka (k:=k) (by rw [hN.len];exact hlt_k) (by rw [zsp hx,hc62];rfl));exact zR (zA (zN (Qs (Qi (Qf (Qf (Qi<|Qf<|zr rfl rfl (by rw [zwK hnd]))))))))
  refine Qr (Qk (Qd (Qh (zM ?_))));refine zB<|zA (Qb ?_)
  exact zm (h:=⟨p.n-(k+1),kB,k+1,rfl,rfl,rfl,rfl,kB,Ji hall (by rw [zsp hx,hc62];rfl)⟩)
 have hge_k:p.n≤k:=(by have h:=hc26;simp at h;omega);have hnd:ndB p.id p.needs=true:=(by unfold ndB;rw [hN.len,show p.n=k by omega];exact hall);refine Zk (Qo (Qo (Qz (Qd (Qm (zR<|zF JH ?_))))));refine zL Ql<|zN (Qw (zR (zC<|zA (zN ?_))))
 refine zI ?_ ?_<;>intro hc65
 ·
  have hk:p.kind=1:=(by simpa using hc65);refine Qm (zR<|zF YI ?_);refine zL Ql<|zC ?_
  refine zM ?_;refine QI 3 rfl rfl rfl ?_;refine zJ (Qa rfl YI)<|zJ (Qc rfl Ql (fun hg=>by exact Qy.h0 rfl))<|zJ (QA rfl rfl rfl)<|Q9 rfl rfl rfl rfl rfl ?_
  refine zN ?_;refine zI ?_ ?_<;>intro hc74
  ·
   exact zR (zA (zN (Qs (Qf (Qi (Qf<|zr rfl rfl (by rw [zmt hi hnd,zz8 hk hc74])))))))
  refine Qr (Qd (Qm<|Uy mixed kA<|zq (QD (ps:=[]) [_,_,_,_,_,_,_,_,_,_,_,_,_,_] XW rfl rfl)<|zq (Qa rfl YI) ?_));refine zq (Qc rfl Ql (fun hg=>by exact Qy.h0 rfl))<|zq (Qa rfl YU)<|zq (Qg rfl ZP (fun hg=>by exact Cells.s0 (vs:=[_,_,_,_,_,_,_,_,_,_,_,_,_,_]) rfl) rfl)<|Wd (cap:=[]) (vs:=[_,_,_]) rfl rfl zn0 (zyB I Kb p.field p.nw) rfl rfl<|zq (Qa rfl YU)<|zq (Qg rfl ZP (fun hg=>by exact Cells.s0 (vs:=[_,_,_,_,_,_,_,_,_,_,_,_,_,_]) rfl) rfl)<|zq (Ww rfl rfl Xb rfl)<|zq (Qe rfl)<|Jd 9 rfl rfl rfl<|JU (cap:=[]) (vs:=[]) rfl rfl zwa (fun hg=>zuP I) (.some rfl rfl rfl rfl gbt) rfl rfl<|zk (Qa rfl YI)<|zk (Qc rfl Ql (fun hg=>by exact Qy.h0 rfl)) ?_
  refine zk (Qa rfl YU)<|zk (Qg rfl ZP (fun hg=>by exact Cells.s0 (vs:=[_,_,_,_,_,_,_,_,_,_,_,_,_,_]) rfl) rfl)<|JU (cap:=[]) (vs:=[_,_,_]) rfl rfl zn0 (fun hg=>zyB I zfU p.field p.nw) (.some rfl rfl rfl rfl gbt) rfl rfl<|JU (cap:=[]) (vs:=[_]) rfl rfl zm3 (fun hg=>zsS I _) (.some rfl rfl rfl rfl gbt) rfl rfl<|Xs rfl rfl rfl rfl rfl<|zq (QB rfl)<|Uo<|Qd (Qs (Qi (Qf ?_)))
  first
  | exact zr rfl rfl (by rw [zmt hi hnd,←ztM hk hc74];rfl)
 have hk1:p.kind≠1:=(by simpa using hc65);refine zR (zC<|zA (zN ?_));refine zI ?_ ?_<;>intro hc93
 ·
  have hk:p.kind=2:=(by simpa using hc93);refine zR<|zF YI ?_
  refine zL Ql<|zC ?_
  refine zM<|Qt 3 rfl rfl rfl ?_
  refine zK (Qa rfl YU)<|zK (Qa rfl JJ) ?_
  refine zK (Qc rfl Ql (fun hg=>by exact Qy.h0 rfl))<|zK (Qa rfl YK) ?_
  refine zK (Qc rfl Ql (fun hg=>by exact Qy.h0 rfl)) ?_;refine zK (QA rfl rfl rfl) ?_;refine QE rfl rfl rfl rfl rfl<|zM<|Qt 11 rfl rfl rfl ?_
  exact zK (Qa rfl YU)<|zK (Qg rfl ZP (fun hg=>by exact Cells.s0 (vs:=[_,_,_,_,_,_,_,_,_,_,_,_,_,_]) rfl) rfl)<|qg (vs:=[_]) rfl zm3 (fun hg=>zsS I _)<|QE rfl rfl rfl rfl rfl<|zA (zN (Qs (Qi (Qf<|zr rfl rfl (by rw [zmt hi hnd,zub hk,←Bool.and_assoc])))))
 have hk2:p.kind≠2:=(by simpa using hc93);refine zR (zC<|zA (zN ?_));refine zI ?_ ?_<;>intro hc111
 ·
  have hk:p.kind=3:=(by simpa using hc111);refine zR<|zF YI ?_
  refine zL Ql<|zC ?_
  refine zM<|Qt 3 rfl rfl rfl ?_
  refine zK (Qa rfl YU)<|zK (Qg rfl ZP (fun hg=>by exact Cells.s0 (vs:=[_,_,_,_,_,_,_,_,_,_,_,_,_,_]) rfl) rfl)<|zK (QD (ps:=[]) [_,_,_,_,_,_,_,_,_,_,_,_,_,_] XW rfl rfl)<|zK (Ww rfl rfl Xb rfl)<|QE rfl rfl rfl rfl rfl<|zA (zN (Qs (Qi (Qf ?_))))
  first
  | exact zr rfl rfl (by rw [zmt hi hnd,zuY hk];rfl)
 have hk3:p.kind≠3:=(by simpa using hc111);refine Qr (Qk (Qd (zR (zA (zN (Qs ?_))))))
 first
 | exact zr rfl rfl (by rw [zmt hi hnd];unfold U7;rw [if_neg hk1,if_neg hk2,if_neg hk3])
theorem zzd (p:Pt)(hN:Nd I p):ZJ Tryz.prog 145 [Uf p] I (.int .i64 (Uk p)):=by
 intro g H w hw;refine qe Tryz.func145 Tryz.ntmps145 hw ?_;refine zR<|QK rfl rfl rfl (fun b_1=>zA (zN (Qm (zR<|zF ZZ ?_))))
 refine zL Vy<|zQ Zb<|zC (zN ?_)
 refine zI ?_ ?_<;>intro hc7
 ·
  have hlen:p.needs.length>32:=(by rw [(show Sl _ 1 Z5 p.a p.n p.c p.needs from hN).len];simp at hc7;omega);exact zR (zA (zN (Qs (Qf<|zr rfl rfl (by rw [zsf hlen])))))
 have hlen:¬p.needs.length>32:=(by rw [(show Sl _ 1 Z5 p.a p.n p.c p.needs from hN).len];simp at hc7;omega);refine Qr (Qd (zR<|zV (Qg rfl VW (fun hg=>by exact Cells.g0) rfl)<|qcV (vs:=[_]) rfl zwj (zAS p hN (by have:=(show Sl _ 1 Z5 p.a p.n p.c p.needs from hN).len;omega)) ?_));refine zA (zN (Qm (zR<|zM<|zO (zN ?_))));refine zI ?_ ?_<;>intro hc11
 ·
  exact zR (zA (zN (Qs (Qf<|zr rfl rfl (by rw [←zmb hlen,if_neg (by simpa using hc11)])))))
 exact Qr (Qd (zR (zA (zN (Qs<|zr rfl rfl (by rw [←zmb hlen,if_pos (by simpa using hc11)]))))))
theorem zto:Fun Tryz.prog 155:=.of Tryz.func155 kA kA
theorem zbK:Fun Tryz.prog 156:=.of Tryz.func156 kA kA
theorem zu2:Fun Tryz.prog 157:=.of Tryz.func157 kA kA
theorem zrF:Fun Tryz.prog 75:=.of Tryz.func75 kA kA
theorem zsb:Fun Tryz.prog 76:=.of Tryz.func76 kA kA
theorem zsA:Fun Tryz.prog 78:=.of Tryz.func78 kA kA
theorem zrQ:PlT Tryz.prog 39 #[(0,1),(1,1),(2,1),(3,1),(4,14),(18,1)] (.agg #[(.int .i64 0),(.int .i64 0),(.int .i64 0),(.int .i64 0),(.int .i64 0),(.int .i64 0),(.int .i64 0),(.int .i64 0),(.int .i64 0),(.int .i64 0),(.int .i64 0),(.int .i64 0),(.int .i64 0),(.int .i64 0),(.int .i64 0),(.int .i64 0),(.int .i64 0),(.int .i64 0),(.slice none 0 0)]):=⟨.of kA,kA,fun w=>kA⟩
theorem zxQ {p q:Pt}(hP:Nd I p)(hQ:Nd I q)(hn:q.n≤100000):ZJ Tryz.prog 85 [Uf p,Uf q] I (.bool (smP p q)):=by
 intro g H w hw;refine qe Tryz.func85 Tryz.ntmps85 hw ?_;have hIc:=zB6 I;have hl1:p.needs.length=p.n:=hP.len;have hl2:q.needs.length=q.n:=hQ.len;refine zR<|QK rfl rfl rfl (fun b_2=>QK rfl rfl rfl (fun b_3=>zA (Qb<|QF .here (fun I1 hI1 hb1=>?_))))
 have hP:=hP.mono hI1;have hQ:=hQ.mono hI1;have hIc:=hIc.trans hI1;have h3:=BxI.of hb1;refine QF .here (fun I2 hI2 hb2=>?_);have hP:=hP.mono hI2;have hQ:=hQ.mono hI2;have h3:=h3.mono hI2;have hIc:=hIc.trans hI2;have h2:=BxI.of hb2;refine Qd (Qm (zR<|zF Yk ?_));refine zV (Qc rfl Ql (fun hg=>by exact Qy.imm h2.out rfl))<|zF Yk ?_
 refine zV (Qc rfl Ql (fun hg=>by exact Qy.imm h3.out rfl))<|zC ?_
 refine zM ?_;refine QI 5 rfl rfl rfl ?_;refine zJ (Qa rfl JH)<|zJ (Qc rfl Ql (fun hg=>by exact Qy.imm h2.out rfl))<|zJ (Qa rfl JH)<|zJ (Qc rfl Ql (fun hg=>by exact Qy.imm h3.out rfl))<|zJ (QA rfl rfl rfl)<|Q9 rfl rfl rfl rfl rfl ?_
 refine zM ?_;refine QI 12 rfl rfl rfl ?_;refine zJ (Qa rfl YK)<|zJ (Qc rfl Ql (fun hg=>by exact Qy.imm h2.out rfl))<|zJ (Qa rfl YK)<|zJ (Qc rfl Ql (fun hg=>by exact Qy.imm h3.out rfl))<|zJ (QA rfl rfl rfl)<|Q9 rfl rfl rfl rfl rfl ?_
 refine zM ?_;refine QI 19 rfl rfl rfl ?_;refine zJ (Qa rfl YI)<|zJ (Qc rfl Ql (fun hg=>by exact Qy.imm h2.out rfl))<|zJ (Qa rfl YI)<|zJ (Qc rfl Ql (fun hg=>by exact Qy.imm h3.out rfl))<|zJ (QA rfl rfl rfl)<|Q9 rfl rfl rfl rfl rfl ?_
 refine zM ?_;refine QI 26 rfl rfl rfl ?_;refine zJ (Qa rfl YU)<|zJ (Qg rfl ZP (fun hg=>by exact zkh (BxI.cells (vs:=Xu p) h2)) rfl)<|zJ (Qa rfl YU)<|zJ (Qg rfl ZP (fun hg=>by exact zkh (BxI.cells (vs:=Xu q) h3)) rfl)<|zJ (zkz rfl rfl Xb rfl)<|Q9 rfl rfl rfl rfl rfl ?_
 refine zM ?_;refine QI 33 rfl rfl rfl ?_;refine zJ (Qa rfl ZZ)<|zJ (Qc rfl Vy (fun hg=>by exact Qy.imm h2.out rfl))<|zJ (QT rfl Zb)<|zJ (Qa rfl ZZ)<|zJ (Qc rfl Vy (fun hg=>by exact Qy.imm h3.out rfl))<|zJ (QT rfl Zb)<|zJ (QA rfl rfl rfl)<|Q9 rfl rfl rfl rfl rfl ?_
 refine zN ?_;refine zI ?_ ?_<;>intro hc47
 ·
  have hcc:smC p q=true:=hc47;exact zR (zA (zN (Qs (Qf<|Qx rfl rfl (fun w hw=>⟨by rw [zzF hcc],(hw.mono hIc).subL Qq⟩)))))
 have hcc:smC p q=false:=hc47;have hnn:=zzq hcc;refine Qr (Qd (Qm (zR (zA (zN (Qw<|zU [(2,_),(3,_)] (fun T L0 mz E I' loc'=>∃ (k:Nat),mz=p.n-k∧E=(5,.int .i64 k)::T∧I2=I'∧L0=loc'∧k≤p.n∧p.needs.take k=q.needs.take k) ?_ (h:=⟨0,rfl,rfl,rfl,rfl,Nat.zero_le _,rfl⟩)))))));rintro mz E I' loc' ⟨k,rfl,rfl,rfl,rfl,hk,htk⟩;refine Qm (zR (zM<|zF ZZ ?_));refine zV (Qc rfl Vy (fun hg=>by exact Qy.imm h2.out rfl))<|zQ Zb<|zC (zN ?_)
 refine zI ?_ ?_<;>intro hc52
 ·
  have hlt_k:k<p.n:=(by have h:=hc52;simp at h;omega);obtain ⟨x,hx⟩:∃ y,p.needs[k]? =some y:=⟨_,List.getElem?_eq_getElem kB⟩;obtain ⟨y,hy⟩:∃ y,q.needs[k]? =some y:=⟨_,List.getElem?_eq_getElem kB⟩;refine Qr (Qd (Qm (Qw (Qm ?_))));have hD:=zB6 I2;refine Zn<|QJ I2 [] mixed<|zT 0 rfl (Qa rfl ZZ) hD<|zT 1 rfl (Qc rfl Vy (fun hg=>by exact Qy.imm h2.out rfl)) hD<|zT 2 rfl (Qe rfl) hD<|zT 3 rfl (zX Zb hP) hD<|zT 4 rfl (Qc rfl Ql (fun hg=>by exact zBZ hP hx rfl)) hD<|zT 5 rfl (Qa rfl ZZ) hD<|zT 6 rfl (Qc rfl Vy (fun hg=>by exact Qy.imm h3.out rfl)) hD<|zT 7 rfl (Qe rfl) hD<|zT 8 rfl (zX Zb hQ) hD<|zT 9 rfl (Qc rfl Ql (fun hg=>by exact zBZ hQ hy rfl)) hD ?_
  refine zT 10 rfl (QA rfl rfl rfl) hD<|Qn kA<|Qv<|Qd ?_
  refine zI ?_ ?_<;>intro hc65
  ·
   have hxy:x≠y:=(by simpa using hc65);exact zR (zA (zN (Qs (Qi (Qf (Qf (Qi<|Qf<|Qx rfl rfl (fun w hw=>⟨by rw [zpC hcc,decide_eq_false (zxD hx hy hxy)],(hw.mono hIc).subL Qq⟩))))))))
  have hxy:x=y:=(by simpa using hc65);refine Qr (Qk (Qd (Qh (zM ?_))));exact zB<|zA (Qb<|zm (h:=⟨p.n-(k+1),kB,k+1,rfl,rfl,rfl,rfl,kB,zaH htk hx hy hxy⟩))
 have hge_k:p.n≤k:=(by have h:=hc52;simp at h;omega);rw [ZR hl1 hge_k,ZR hl2 kB] at htk;refine Zk (Qo (Qo (Qz (Qd (zR (zA (zN<|Qs ?_)))))));exact Qx rfl rfl (fun w hw=>⟨by rw [zpC hcc,htk];simp,(hw.mono hIc).subL Qq⟩)
theorem zb5 {x:Nt}(hN:Nd I x.pt):ZJ Tryz.prog 156 [Uf x.pt] I (.bool (z2 x)):=by
 intro g H w hw;refine qe Tryz.func156 Tryz.ntmps156 hw ?_;have hIc:=zB6 I;refine zR<|QK rfl rfl rfl (fun b_1=>zA (Qb<|QF .here (fun I1 hI1 hb1=>?_)))
 have hN:=hN.mono hI1;have hIc:=hIc.trans hI1;have h1:=BxI.of hb1;refine Qd (zR<|zV (Qg rfl VW (fun hg=>by exact BxI.cells (vs:=Xu x.pt) h1) rfl)<|zV (QD (ps:=[]) [_,_,_,_,_,_,_,_,_,_,_,_,_,_,_,_,_,_,_] zrQ rfl rfl)<|qcV (vs:=[_,_]) rfl zs0 (zxQ (q:=JD) hN (show Nd _ JD from Sl.nil) kC) ?_);refine zA (zN (Qs ?_));exact Qx rfl rfl (fun w hw=>⟨by rw [zAJ hN],(hw.mono hIc).subL Qq⟩)
theorem zqq (x:Lm)(hw8: -9223372036854775808≤x.ends∧x.ends≤9223372036854775807):ZJ Tryz.prog 155 [JA x] I (.bool (zg7 (lmC x)==0)):=by
 intro g H w hw;refine qe Tryz.func155 Tryz.ntmps155 hw ?_;have hIc:=zB6 I;refine zR<|QK rfl rfl rfl (fun b_1=>zA (Qb<|QF .here (fun I1 hI1 hb1=>?_)))
 have hIc:=hIc.trans hI1;have h1:=BxI.of hb1;refine Qd (zR<|zV (Qg rfl Km (fun hg=>by exact BxI.cells (vs:=Zz x) h1) rfl)<|zpb [(0,_)] [Zz x] Wx (fun b_6=>QV (by repeat (first | exact Z1.here | apply Z1.there)) (fun I2 hI2 hb2=>?_)));have h1:=h1.mono hI2;have hIc:=hIc.trans hI2;have hF:=Sl.lit [x] rfl Js (show I2 b_6=some (Obj.cells ([x].flatMap Zz).toArray 32 (0,0)) from hb2);refine zA (zN (Qm (zR<|zF Y0 ?_)));refine zV (Qc rfl Ql (fun hg=>by exact Qy.imm h1.out rfl))<|zC (zN ?_)
 refine zI ?_ ?_<;>intro hc9
 focus
  have hlC:=zz7 (x:=x) (by simpa using hc9);refine Qh<|zF Y0 ?_
  refine zV (Qc rfl Ql (fun hg=>by exact Qy.imm h1.out rfl))<|zV (U6 rfl rfl rfl)<|zF Ju ?_
  refine zV (Qc rfl Ql (fun hg=>by exact Qy.imm h1.out rfl))<|zV (QD (ps:=[(0,_),(2,_)]) [_,_,_] zcq rfl rfl) ?_
  refine zV (QD (ps:=[(0,_),(1,_),(6,_)]) [_,_,_,_,_,_,_,_,_] zda rfl rfl)<|zV (Qg rfl Km (fun hg=>by exact BxI.cells (vs:=Zz x) h1) rfl)<|zpb [(0,_),(1,_)] [Zz (⟨IntKind.i64.wrap (x.ends-1),x.person,0,0,0,0,3,0,1⟩),Zz x] Wx (fun b_18=>QV (by repeat (first | exact Z1.here | apply Z1.there)) (fun I3 hI3 hb3=>?_))
  have hF:=hF.mono hI3;have hIc:=hIc.trans hI3;have hF:=Sl.lit ([⟨IntKind.i64.wrap (x.ends-1),x.person,0,0,0,0,3,0,1⟩,x]:List Lm) rfl Js (show I3 b_18=some (Obj.cells (([⟨IntKind.i64.wrap (x.ends-1),x.person,0,0,0,0,3,0,1⟩,x]:List Lm).flatMap Zz).toArray 32 (0,0)) from hb3);refine zA<|zN (zR ?_)
  refine zM ?_
 rotate_left
 have hlC:=zAT (x:=x) (by simpa using hc9);refine Qr (Qd (zR (zM ?_)))
 all_goals
  refine qcV (vs:=[_]) rfl zrF (zsU hF kC (by rw [←hlC];exact zwz hw8)) ?_;refine zA<|zN (zR ?_)
  refine zM<|zC<|zA (zN (Qs ?_))
  exact Qx rfl rfl (fun w hw=>⟨by rw [hlC],(hw.mono hIc).subL Qq⟩)
theorem zeq (x:S.Rt)(hw8:S.okR x):ZJ Tryz.prog 157 [S.encA x] I (.bool (S.rCheck (rtC x)==0)):=by
 intro g H w hw;refine qe Tryz.func157 Tryz.ntmps157 hw ?_;have hIc:=zB6 I;refine zR<|QK rfl rfl rfl (fun b_1=>zA (Qb<|QF .here (fun I1 hI1 hb1=>?_)))
 have hIc:=hIc.trans hI1;have h1:=BxI.of hb1;refine Qd (zR<|zV (Qg rfl Y6 (fun hg=>by exact BxI.cells (vs:=S.encR x) h1) rfl)<|zpb [(0,_)] [S.encR x] Wv (fun b_6=>QV (by repeat (first | exact Z1.here | apply Z1.there)) (fun I2 hI2 hb2=>?_)));have h1:=h1.mono hI2;have hIc:=hIc.trans hI2;have hF:=Sl.lit [x] rfl S.encR_len (show I2 b_6=some (Obj.cells ([x].flatMap S.encR).toArray 43 (0,0)) from hb2);refine zA (zN (Qm (zR<|zF Vp ?_)));refine zV (Qc rfl Ql (fun hg=>by exact Qy.imm h1.out rfl))<|zC (zN ?_)
 refine zI ?_ ?_<;>intro hc9
 focus
  have hlC:=zz6 (x:=x) (by simpa using hc9);refine Qh<|zF Vp ?_
  refine zV (Qc rfl Ql (fun hg=>by exact Qy.imm h1.out rfl))<|zV (U6 rfl rfl rfl)<|zV (QD (ps:=[(0,_),(1,_),(6,_),(7,_)]) [_,_,_,_,_,_,_,_,_,_,_] WT rfl rfl)<|zV (Qg rfl Y6 (fun hg=>by exact BxI.cells (vs:=S.encR x) h1) rfl)<|zpb [(0,_),(1,_)] [S.encR (⟨IntKind.i64.wrap (x.ends-1),1,0,0,0,0,⟨#[97]⟩,⟨#[97]⟩,0,0,0⟩),S.encR x] Wv (fun b_15=>QV (by repeat (first | exact Z1.here | apply Z1.there)) (fun I3 hI3 hb3=>?_))
  have hF:=hF.mono hI3;have hIc:=hIc.trans hI3;have hF:=Sl.lit ([⟨IntKind.i64.wrap (x.ends-1),1,0,0,0,0,⟨#[97]⟩,⟨#[97]⟩,0,0,0⟩,x]:List S.Rt) rfl S.encR_len (show I3 b_15=some (Obj.cells (([⟨IntKind.i64.wrap (x.ends-1),1,0,0,0,0,⟨#[97]⟩,⟨#[97]⟩,0,0,0⟩,x]:List S.Rt).flatMap S.encR).toArray 43 (0,0)) from hb3);refine zA<|zN (zR ?_)
  refine zM ?_
 rotate_left
 have hlC:=zz2 (x:=x) (by simpa using hc9);refine Qr (Qd (zR (zM ?_)))
 all_goals
  refine qcV (vs:=[_]) rfl zsA (S.w_rcheck hF kC) ?_;refine zA<|zN (zR ?_)
  refine zM<|zC<|zA (zN (Qs ?_))
  exact Qx rfl rfl (fun w hw=>⟨by rw [←zl6 hw8,hlC],(hw.mono hIc).subL Qq⟩)
theorem Wg (x:Nt)(hN:Nd I x.pt)(hW:NtW x):ZJ Tryz.prog 87 [J0 x] I (.bool (QN x)):=by
 intro g H w hw;refine qe Tryz.func87 Tryz.ntmps87 hw ?_;have hIc:=zB6 I;refine zR<|QK rfl rfl rfl (fun b_1=>zA (Qb<|QF .here (fun I1 hI1 hb1=>?_)))
 have hN:=hN.mono hI1;have hIc:=hIc.trans hI1;have h1:=BxI.of hb1;refine Qd (zR<|zF Vt ?_);refine zV (Qg rfl Km (fun hg=>by exact zeB (BxI.cells (vs:=Zf x) h1)) rfl)<|zV (QD (ps:=[]) [_,_,_,_,_,_,_,_,_] zda rfl rfl)<|zV (Ww rfl rfl zgA rfl) ?_
 rw [show (x.lm.no==0&&(x.lm.person==0&&(x.lm.ends==0&&(x.lm.lo==0&&(x.lm.hi==0&&(x.lm.known==0&&(x.lm.ck==0&&(x.lm.cl==0&&(x.lm.cn==0&&true)))))))))=z1 x from rfl];refine zA<|zN (zR<|zF V9 ?_)
 refine zV (Qg rfl Kj (fun hg=>by exact zdG (BxI.cells (vs:=Zf x) h1)) rfl)<|zV (QD (ps:=[]) [_,_,_,_,_] ziW rfl rfl)<|zV (Wh rfl rfl ziF rfl)<|zA<|zN (zR<|zF YB ?_)
 refine zV (Qg rfl Y6 (fun hg=>by exact zeb (BxI.cells (vs:=Zf x) h1)) rfl)<|zV (QD (ps:=[]) [_,_,_,_,_,_,_,_,_,_,_] WT rfl rfl)<|zV (Wh rfl rfl zaW rfl)<|zA (zN (Qm (zR<|zF Vu ?_)))
 refine zV (Qc rfl Ql (fun hg=>by exact Qy.imm h1.out rfl))<|zN (Qw (zR (zC<|zA (zN ?_))))
 refine zI ?_ ?_<;>intro hc20
 ·
  have k1:x.kind=1:=(by simpa using hc20);refine zR<|zF Vt ?_
  refine zV (Qg rfl Km (fun hg=>by exact zeB (BxI.cells (vs:=Zf x) h1)) rfl)<|qcV (vs:=[_]) rfl zto (zqq x.lm hW.lm)<|zM<|Qt 3 rfl rfl rfl ?_
  refine zK (Qa rfl YA)<|zK (Qg rfl VW (fun hg=>by exact za6 (BxI.cells (vs:=Zf x) h1)) rfl)<|qg (vs:=[_]) rfl zbK (fun hg=>zb5 hN)<|QE rfl rfl rfl rfl rfl<|zM<|Qt 8 rfl rfl rfl ?_
  refine zK (Qe rfl)<|QE rfl rfl rfl rfl rfl<|zM<|Qt 11 rfl rfl rfl ?_
  refine zK (Qe rfl)<|QE rfl rfl rfl rfl rfl<|zA (zN (Qs (Qi (Qf ?_))))
  exact Qx rfl rfl (fun w hw=>⟨by rw [zzf k1];rfl,(hw.mono hIc).subL Qq⟩)
 have k1:¬x.kind=1:=(by simpa using hc20);refine zR (zC<|zA (zN ?_));refine zI ?_ ?_<;>intro hc36
 ·
  have k2:x.kind=2:=(by simpa using hc36);refine zR (zM ?_);refine zM<|Qt 1 rfl rfl rfl ?_
  refine zK (Qa rfl YA)<|zK (Qg rfl VW (fun hg=>by exact za6 (BxI.cells (vs:=Zf x) h1)) rfl)<|qg (vs:=[_]) rfl zvE (fun hg=>zzd x.pt hN)<|zK (QA rfl rfl rfl) ?_
  refine QE rfl rfl rfl rfl rfl<|zM<|Qt 7 rfl rfl rfl ?_
  refine zK (Qe rfl)<|QE rfl rfl rfl rfl rfl<|zM<|Qt 10 rfl rfl rfl ?_
  refine zK (Qe rfl)<|QE rfl rfl rfl rfl rfl<|zA (zN (Qs (Qi (Qf ?_))))
  exact Qx rfl rfl (fun w hw=>⟨by rw [zyy k2];rfl,(hw.mono hIc).subL Qq⟩)
 have k2:¬x.kind=2:=(by simpa using hc36);refine zR (zC<|zA (zN ?_));refine zI ?_ ?_<;>intro hc51
 ·
  have k3:x.kind=3:=(by simpa using hc51);refine Qm ?_;rcases (show (z1 x=true∧z2 x=true∧(L.chk [x.ls]==0)=true)∨(z1 x=true∧z2 x=true∧(L.chk [x.ls]==0)=false)∨(z1 x=true∧z2 x=false)∨z1 x=false by cases z1 x<;>cases z2 x<;>cases (L.chk [x.ls]==0)<;>simp) with ⟨h1z,h2z,hlz⟩ | ⟨h1z,h2z,hlz⟩ | ⟨h1z,h2z⟩ | h1z
  ·
   refine Qh (zM ?_);refine zM ?_;rw [h1z];refine QQ (dj:=54) rfl rfl rfl<|zF YA<|QQ (dj:=54) rfl rfl rfl<|zV (Qg rfl VW (fun hg=>by exact za6 (BxI.cells (vs:=Zf x) h1)) rfl)<|QQ (dj:=54) rfl rfl rfl<|qcV (vs:=[_]) rfl zbK (zb5 hN)<|zV (QY rfl rfl rfl) ?_
   rw [h2z];refine zM<|QQ (dj:=59) rfl rfl rfl<|zF V9<|QQ (dj:=59) rfl rfl rfl<|zV (Qg rfl Kj (fun hg=>by exact zdG (BxI.cells (vs:=Zf x) h1)) rfl)<|QQ (dj:=59) rfl rfl rfl<|zpb [(0,_)] [_] zb6 (fun b_62=>QV (by repeat (first | exact Z1.here | apply Z1.there)) (fun I2 hI2 hb2=>?_))
   have hIc:=hIc.trans hI2;have hF:=Sl.lit [x.ls] rfl L.encL_len (show I2 b_62=some (Obj.cells ([x.ls].flatMap L.encL).toArray 41 (0,0)) from hb2);refine QQ (dj:=59) rfl rfl rfl<|qcV (vs:=[_]) rfl zsb (L.w_rcheck hF kC)<|QQ (dj:=59) rfl rfl rfl<|zC ?_
   rw [hlz];refine zV (QY rfl rfl rfl)<|zM<|QQ (dj:=66) rfl rfl rfl<|zM<|zV (QY rfl rfl rfl)<|zA (zN (Qs (Qi (Qf ?_))))
   exact Qx rfl rfl (fun w hw=>⟨by rw [zi2 k3,h1z,h2z,hlz];rfl,(hw.mono hIc).subL Qq⟩)
  ·
   refine Qh (zM ?_);refine zM ?_;rw [h1z];refine QQ (dj:=54) rfl rfl rfl<|zF YA<|QQ (dj:=54) rfl rfl rfl<|zV (Qg rfl VW (fun hg=>by exact za6 (BxI.cells (vs:=Zf x) h1)) rfl)<|QQ (dj:=54) rfl rfl rfl<|qcV (vs:=[_]) rfl zbK (zb5 hN)<|zV (QY rfl rfl rfl) ?_
   rw [h2z];refine zM<|QQ (dj:=59) rfl rfl rfl<|zF V9<|QQ (dj:=59) rfl rfl rfl<|zV (Qg rfl Kj (fun hg=>by exact zdG (BxI.cells (vs:=Zf x) h1)) rfl)<|QQ (dj:=59) rfl rfl rfl<|zpb [(0,_)] [_] zb6 (fun b_62=>QV (by repeat (first | exact Z1.here | apply Z1.there)) (fun I3 hI3 hb3=>?_))
   have hIc:=hIc.trans hI3;have hF:=Sl.lit [x.ls] rfl L.encL_len (show I3 b_62=some (Obj.cells ([x.ls].flatMap L.encL).toArray 41 (0,0)) from hb3);refine QQ (dj:=59) rfl rfl rfl<|qcV (vs:=[_]) rfl zsb (L.w_rcheck hF kC)<|QQ (dj:=59) rfl rfl rfl<|zC ?_
   rw [hlz];refine zV (QY rfl rfl rfl)<|zM<|Yc (dj:=66) rfl rfl rfl rfl rfl<|zV (Ye rfl rfl rfl)<|zA (zN (Qs (Qi (Qf ?_))))
   exact Qx rfl rfl (fun w hw=>⟨by rw [zi2 k3,h1z,h2z,hlz];rfl,(hw.mono hIc).subL Qq⟩)
  ·
   refine Qh (zM ?_);refine zM ?_;rw [h1z];refine QQ (dj:=54) rfl rfl rfl<|zF YA<|QQ (dj:=54) rfl rfl rfl<|zV (Qg rfl VW (fun hg=>by exact za6 (BxI.cells (vs:=Zf x) h1)) rfl)<|QQ (dj:=54) rfl rfl rfl<|qcV (vs:=[_]) rfl zbK (zb5 hN)<|zV (QY rfl rfl rfl) ?_
   rw [h2z];refine zM<|Yc (dj:=59) rfl rfl rfl rfl rfl<|Yc (dj:=59) rfl rfl rfl rfl rfl<|Yc (dj:=59) rfl rfl rfl rfl rfl<|Yc (dj:=59) rfl rfl rfl rfl rfl<|Yc (dj:=59) rfl rfl rfl rfl rfl<|zV (Ye rfl rfl rfl) ?_
   refine zM ?_;refine Yc (dj:=66) rfl rfl rfl rfl rfl<|zV (Ye rfl rfl rfl)<|zA (zN (Qs (Qi (Qf ?_))))
   exact Qx rfl rfl (fun w hw=>⟨by rw [zi2 k3,h1z,h2z];rfl,(hw.mono hIc).subL Qq⟩)
  refine Qh (zM ?_);refine zM ?_;rw [h1z];refine Yc (dj:=54) rfl rfl rfl rfl rfl<|Yc (dj:=54) rfl rfl rfl rfl rfl<|Yc (dj:=54) rfl rfl rfl rfl rfl<|zV (Ye rfl rfl rfl)<|zM<|Yc (dj:=59) rfl rfl rfl rfl rfl<|Yc (dj:=59) rfl rfl rfl rfl rfl<|Yc (dj:=59) rfl rfl rfl rfl rfl<|Yc (dj:=59) rfl rfl rfl rfl rfl<|Yc (dj:=59) rfl rfl rfl rfl rfl<|zV (Ye rfl rfl rfl)<|zM ?_
  refine Yc (dj:=66) rfl rfl rfl rfl rfl<|zV (Ye rfl rfl rfl)<|zA (zN (Qs (Qi (Qf ?_))))
  exact Qx rfl rfl (fun w hw=>⟨by rw [zi2 k3,h1z];rfl,(hw.mono hIc).subL Qq⟩)
 have k3:¬x.kind=3:=(by simpa using hc51);refine zR (zC<|zA (zN ?_));refine zI ?_ ?_<;>intro hc69
 ·
  have k4:x.kind=4:=(by simpa using hc69);refine zR (zM ?_);refine zM<|Qt 1 rfl rfl rfl ?_
  refine zK (Qa rfl YA)<|zK (Qg rfl VW (fun hg=>by exact za6 (BxI.cells (vs:=Zf x) h1)) rfl)<|qg (vs:=[_]) rfl zbK (fun hg=>zb5 hN)<|QE rfl rfl rfl rfl rfl<|zM<|Qt 6 rfl rfl rfl ?_
  refine zK (Qe rfl)<|QE rfl rfl rfl rfl rfl<|zM<|Qt 9 rfl rfl rfl ?_
  refine zK (Qa rfl YB)<|zK (Qg rfl Y6 (fun hg=>by exact zeb (BxI.cells (vs:=Zf x) h1)) rfl)<|qg (vs:=[_]) rfl zu2 (fun hg=>zeq x.rt hW.rt)<|QE rfl rfl rfl rfl rfl<|zA (zN (Qs (Qi (Qf ?_))))
  exact Qx rfl rfl (fun w hw=>⟨by rw [zzk k4];rfl,(hw.mono hIc).subL Qq⟩)
 have k4:¬x.kind=4:=(by simpa using hc69);exact Qr (Qk (Qd (zR (zA (zN (Qs<|Qx rfl rfl (fun w hw=>⟨by rw [zut k1 k2 k3 k4],(hw.mono hIc).subL Qq⟩)))))))
theorem zfx:Fun Tryz.prog 87:=.of Tryz.func87 kA kA
theorem zpl {xs:List Nt}(hP:WB I av n c xs)(hW:∀ x∈xs,NtW x)(hn:n≤100000):ZJ Tryz.prog 36 [.agg #[.slice av n c]] I (.bool (ZT xs)):=by
 intro g H w hw;refine qe Tryz.func36 Tryz.ntmps36 hw ?_;have hIc:=zB6 I;have hln:=hP.sl.len;refine zR<|QK rfl rfl rfl (fun b_1=>zA (Qb<|QF .here (fun I1 hI1 hb1=>?_)))
 have hP:=hP.mono hI1;have hIc:=hIc.trans hI1;have h1:=BxI.of hb1;refine Qd (Qm (zR (zA (zN (Qw<|zU [(1,_)] (fun T L0 mz E I' loc'=>∃ (k:Nat),mz=n-k∧E=(3,.int .i64 k)::T∧HLe I1 I'∧L0=loc'∧k≤n∧(∀ j y,j<k→xs[j]? =some y→zcQ (xs.take j) y=false)) ?_ (h:=⟨0,rfl,rfl,zB6 _,rfl,Nat.zero_le _,fun j y h=>absurd h (Nat.not_lt_zero _)⟩))))));rintro mz E J2 loc' ⟨k,rfl,rfl,hJ,rfl,hk,hall⟩;have hP:=hP.mono hJ;have h1:=h1.mono hJ;have hIc:=hIc.trans hJ;have hB0:=hJ;refine Qm (zR (zM<|zF ZK ?_));refine zV (Qc rfl Y1 (fun hg=>by exact Qy.imm h1.out rfl))<|zQ Zj<|zC (zN ?_)
 refine zI ?_ ?_<;>intro hc8
 ·
  have hlt_k:k<n:=(by have h:=hc8;simp at h;omega);obtain ⟨x,hx⟩:∃ x,xs[k]? =some x:=⟨_,List.getElem?_eq_getElem kB⟩;have hxm:x∈xs:=List.mem_of_getElem? hx;refine Qr (Qd (Qm (Qw (Qm ?_))));rcases (show QN x=false∨(QN x=true∧k=0)∨(QN x=true∧0<k) by cases QN x<;>simp<;>omega) with hf | ⟨hf,hk⟩ | ⟨hf,hk⟩
  ·
   have hD:=zB6 J2;refine Zn<|QJ J2 [] mixed<|zT 0 rfl (Qa rfl ZK) hD<|zT 1 rfl (Qc rfl Y1 (fun hg=>by exact Qy.imm h1.out rfl)) hD<|zT 2 rfl (Qe rfl) hD<|zT 3 rfl (QG rfl rfl Zj hP.sl (fun hg=>kB)) hD<|zT 4 rfl (Qg rfl Zc (fun hg=>by exact zB7 hP.sl hx) rfl) hD<|qd 5 rfl<|qcV (vs:=[_]) rfl zfx (Wg x (hP.nd x hxm) (hW x hxm))<|Qb<|zD hD<|zT 6 rfl (ZB rfl) hD ?_
   rw [hf];refine zT 7 rfl (Qe rfl) hD ?_;refine zW 8 18 hD ?_;refine zW 9 18 hD ?_;refine zW 10 18 hD ?_;refine zW 11 21 hD ?_;refine zW 12 21 hD ?_;refine zW 13 21 hD ?_;refine zW 14 21 hD ?_;refine zW 15 21 hD ?_;refine zW 16 21 hD ?_;refine zW 17 21 hD ?_;refine zW 18 21 hD ?_;refine zW 19 21 hD ?_;refine zW 20 21 hD ?_;refine zW 21 21 hD ?_;refine zW 22 21 hD ?_;refine zW 23 21 hD ?_;refine zW 24 18 hD<|zT 25 rfl (Ye rfl rfl rfl) hD<|Qn kA<|Qv<|Qd ?_
   refine zI ?_ ?_<;>intro hc36
   ·
    exact zR (zA (zN (Qs (Qi (Qf (Qf (Qi<|Qf<|Qx rfl rfl (fun w hw=>⟨by rw [X4 hx (zgh (pre:=xs.take k) hf)],(hw.mono hIc).subL Qq⟩))))))))
   cases hc36
  focus
   have hk0:decide ((k:Int)>0)=false:=(by simp;omega);have hD:=zB6 J2;refine Zn<|QJ J2 [] mixed<|zT 0 rfl (Qa rfl ZK) hD<|zT 1 rfl (Qc rfl Y1 (fun hg=>by exact Qy.imm h1.out rfl)) hD<|zT 2 rfl (Qe rfl) hD<|zT 3 rfl (QG rfl rfl Zj hP.sl (fun hg=>kB)) hD<|zT 4 rfl (Qg rfl Zc (fun hg=>by exact zB7 hP.sl hx) rfl) hD<|qd 5 rfl<|qcV (vs:=[_]) rfl zfx (Wg x (hP.nd x hxm) (hW x hxm))<|Qb<|zD hD<|zT 6 rfl (ZB rfl) hD ?_
   rw [hf];refine zT 7 rfl (Qe rfl) hD<|zw 8 18 rfl (Qe rfl) hD<|zw 9 18 rfl (QA rfl rfl rfl) hD ?_
   rw [hk0];refine zw 10 18 rfl (Qe rfl) hD<|zW 11 21 hD ?_
   refine zW 12 21 hD ?_;refine zW 13 21 hD ?_;refine zW 14 21 hD ?_;refine zW 15 21 hD ?_;refine zW 16 21 hD ?_;refine zW 17 21 hD ?_;refine zW 18 21 hD ?_;refine zW 19 21 hD ?_;refine zW 20 21 hD ?_;refine zW 21 21 hD ?_;refine zW 22 21 hD ?_;refine zW 23 21 hD ?_;refine zw 24 18 rfl (Ye rfl rfl rfl) hD<|zT 25 rfl (QY rfl rfl rfl) hD<|Qn kA<|Qv<|Qd ?_
   refine zI ?_ ?_<;>intro hc36
   ·
    cases hc36
   have hbad:zcQ (xs.take k) x=false:=by rw [hk];exact zeH hf
  rotate_left
  have hk0:decide ((k:Int)>0)=true:=(by simp;omega);obtain ⟨y,hy⟩:∃ y,xs[((k:Int)-1).toNat]? =some y:=⟨_,List.getElem?_eq_getElem kB⟩;have hym:y∈xs:=List.mem_of_getElem? hy;have hfy:=zcO (hall _ y kB hy);have hD:=zB6 J2;refine Zn<|QJ J2 [] mixed<|zT 0 rfl (Qa rfl ZK) hD<|zT 1 rfl (Qc rfl Y1 (fun hg=>by exact Qy.imm h1.out rfl)) hD<|zT 2 rfl (Qe rfl) hD<|zT 3 rfl (QG rfl rfl Zj hP.sl (fun hg=>kB)) hD<|zT 4 rfl (Qg rfl Zc (fun hg=>by exact zB7 hP.sl hx) rfl) hD<|qd 5 rfl<|qcV (vs:=[_]) rfl zfx (Wg x (hP.nd x hxm) (hW x hxm))<|Qb<|zD hD<|zT 6 rfl (ZB rfl) hD ?_
  rw [hf];refine zT 7 rfl (Qe rfl) hD<|zw 8 18 rfl (Qe rfl) hD<|zw 9 18 rfl (QA rfl rfl rfl) hD ?_
  rw [hk0];refine zw 10 18 rfl (Qe rfl) hD<|zw 11 21 rfl (Qa rfl ZK) hD<|zw 12 21 rfl (Qc rfl Y1 (fun hg=>by exact Qy.imm h1.out rfl)) hD<|zw 13 21 rfl (Qe rfl) hD<|zw 14 21 rfl (Ya rfl rfl rfl (fun hg=>kB)) hD<|zw 15 21 rfl (QG rfl rfl Zj hP.sl (fun hg=>kB)) hD<|zw 16 21 rfl (Qg rfl Zc (fun hg=>by exact zB7 hP.sl hy) rfl) hD<|zw 17 21 rfl (Qa rfl ZK) hD<|zw 18 21 rfl (Qc rfl Y1 (fun hg=>by exact Qy.imm h1.out rfl)) hD<|zw 19 21 rfl (Qe rfl) hD<|zw 20 21 rfl (QG rfl rfl Zj hP.sl (fun hg=>kB)) hD<|zw 21 21 rfl (Qg rfl Zc (fun hg=>by exact zB7 hP.sl hx) rfl) hD ?_
  refine qd 22 rfl<|QQ (dj:=21) rfl rfl rfl<|zpc [_,_] rfl zrS .nil (zjx y x (hP.m y hym hfy) (hP.m x hxm hf)) ?_
  rintro vv3 I3 L3 hI3 ⟨rfl,rfl⟩;have hIc:=hIc.trans hI3;have hB0:=hB0.trans hI3;have hD:=hD.trans hI3;refine Qb<|zD hD<|zw 23 21 rfl (ZB rfl) hD<|zw 24 18 rfl (QY rfl rfl rfl) hD<|zT 25 rfl (QY rfl rfl rfl) hD<|Qn kA<|Qv<|Qd ?_
  refine zI ?_ ?_<;>intro hc36
  ·
   refine zR (zA (zN (Qs (Qi (Qf (Qf (Qi<|Qf ?_)))))));exact Qx rfl rfl (fun w hw=>⟨by rw [X4 hx ((UA hf hk hy).trans (by rw [←zfy];exact hc36))],(hw.mono hIc).subL Qq⟩)
  have hbad:zcQ (xs.take k) x=false:=(UA hf hk hy).trans (by rw [←zfy];exact hc36)
  all_goals
   refine Qr (Qk (Qd (Qh (zM ?_))));exact zB<|zA (Qb<|zm (h:=⟨n-(k+1),kB,k+1,rfl,rfl,hB0,rfl,kB,Vo hx hall hbad⟩))
 have hge_k:n≤k:=(by have h:=hc8;simp at h;omega);refine Zk (Qo (Qo (Qz (Qd (zR<|zF ZK ?_)))));refine zV (Qc rfl Y1 (fun hg=>by exact Qy.imm h1.out rfl))<|zQ Zj<|zC<|zA (zN (Qs ?_))
 exact Qx rfl rfl (fun w hw=>⟨by rw [zea (fun j y hj hy=>hall j y kB hy),hln],(hw.mono hIc).subL Qq⟩)
theorem zxh:Fun Tryz.prog 36:=.of Tryz.func36 kA kA
end
end Go.Proofs.YtjblkbkmblkgoaaGreat
namespace Go.Kn
section
open Go
section
variable {C:Cx} {S:GS} {E:Env} {I:Qu} {loc:Loc} {dst:Option Tmp} {ty:TypeId} {pos:String} {af:Array Edge} {gd:Option (Nat×Bool)} {x y z:Operand}
theorem zjJ {t e size n c:Nat}{av:Option Addr}{k k':IntKind}{i q:Int}(hx:QH S E x=some (.slice av n c))(hy:QH S E y=some (.int k i))(hz:QH S E z=some (.int k' q))(hT:SlT C.P t e size)(hb:Yq S=true→(0≤q∧q≤(c:Int))∧0≤i∧i≤q):
  QZ C S E I loc ⟨dst,.slice t x (some y) (some z) none,ty,pos,af,gd⟩ (.slice (zo3 av c i.toNat size) (q.toNat -i.toNat) (c-i.toNat)):=
 .of kE fun a w ha hg hc _=>by
  obtain ⟨h1,j,h2,h3⟩:=hT;have hq:=(hb hc).1;have hi:0≤i∧i≤((q.toNat:Nat):Int):=(by have:=(hb hc).2;omega);simp only [execOp,Option.map_none,Option.map_some,Qj ha hg hc hx,Qj ha hg hc hy,Qj ha hg hc hz,Instr.sliceAt,Instr.slice,Instr.sliceBounds,Instr.sliceBound,asIntOf,Sem.run_bind,Sem.run_pure,run_underlying h1,Result.andThen,if_pos hq,if_pos hi,run_sizeOf h2,h3,zo3]
theorem Sl.part {α:Type}{size:Nat}{enc:α→List Value}{av:Option Addr}{n c:Nat}{xs:List α}(h:Sl I size enc av n c xs){k q:Nat}(hk:k≤q)(hq:q≤n):Sl I size enc (zo3 av c k size) (q-k) (c-k) ((xs.take q).drop k):=
 (h.take hq).drop hk
end
end
end Go.Kn
namespace Go.Proofs.YtjblkbkmblkgoaaGreat
section
open Go Go.Kn Go.Proofs
theorem zAs:Tryz.prog.underlying 4=some .bool:=kA
end
end Go.Proofs.YtjblkbkmblkgoaaGreat
namespace Go.Kn
section
open Go
def NxQ (bs:List Nat)(n k x k':Nat)(bad:Bool):Prop:=(bad=false∧bs[k]? =some x∧k'=k+1)∨(bad=true∧n≤k∧x=0∧k'=k)
def NuQ (bs:List Nat)(k u k':Nat)(bad:Bool):Prop:=(bad=false∧V0 0 (bs.drop k)=some (u,bs.drop k'))∨(bad=true∧u=0∧V0 0 (bs.drop k)=none)
section
variable {bs:List Nat} {n k i u c k':Nat} {bad:Bool}
theorem zqc (hi:i≤9):(((((i:Int)==9)&&decide ((c:Int)>1))||(decide ((i:Int)>0)&&((c:Int)==0))))= !((i==0||c != 0)&&(decide (i<9)||decide (c≤1))):=by
 rw [Bool.eq_iff_iff];simp only [Bool.or_eq_true,Bool.and_eq_true,beq_iff_eq,decide_eq_true_eq,Bool.not_eq_true',Bool.and_eq_false_iff,Bool.or_eq_false_iff,beq_eq_false_iff_ne,bne_eq_false_iff_eq,decide_eq_false_iff_not];omega
theorem zdQ (h:bs[k+i]? =some c):(bs.drop k)[i]? =some c:=by rw [List.getElem?_drop];exact h
theorem zqL:(bs.drop k).drop (i+1)=bs.drop (k+i+1):=by rw [List.drop_drop];congr 1
theorem ztb (hn:bs.length=n)(h:V0 0 (bs.drop k)=(V0 i ((bs.drop k).drop i)).map fun x=>(u+x.1,x.2))(hq:NxQ bs n (k+i) c k' bad)(hb:((i==0||c != 0)&&(decide (i<9)||decide (c≤1)))=false):V0 0 (bs.drop k)=none:=by
 rcases hq with ⟨_,hc,_⟩ | ⟨_,hk,_,_⟩
 ·
  exact zh0 h (zdQ hc) hb
 ·
  exact zhM h kP
theorem zue (hn:bs.length=n)(h:V0 0 (bs.drop k)=(V0 i ((bs.drop k).drop i)).map fun x=>(u+x.1,x.2))(hq:NxQ bs n (k+i) c k' bad)(hb:((i==0||c != 0)&&(decide (i<9)||decide (c≤1)))=true)(hu:u<128^i)(hl:c<128):NuQ bs k (u+c % 128*128^i) k' bad:=by
 rcases hq with ⟨rfl,hc,rfl⟩ | ⟨rfl,hk,rfl,rfl⟩
 ·
  refine .inl ⟨rfl,?_⟩;rw [zir h (zdQ hc) hb hl,zqL]
 ·
  have hi:i=0:=(by simpa using hb);subst hi;have:u=0:=by simpa using hu
  subst this;exact .inr ⟨rfl,by simp,zhM h kP⟩
theorem zuF (hq:NxQ bs n (k+i) c k' bad)(hl:¬c<128):bad=false∧bs[k+i]? =some c∧k'=k+i+1:=by
 rcases hq with h | ⟨_,_,h,_⟩
 ·
  exact h
 ·
  omega
theorem znS (hq:NxQ bs n k c k' bad)(hl:c≠0):bad=false∧bs[k]? =some c∧k'=k+1:=by
 rcases hq with h | ⟨_,_,h,_⟩
 ·
  exact h
 ·
  omega
end
def VlQ (D:Nat)(I:Qu)(bs:List Nat)(k:Nat)(cv:Vc)(k':Nat)(bad:Bool):Prop:=(bad=false∧∃ x,Kl D (bs.drop k)=some (x,bs.drop k')∧VaR I x cv)∨(bad=true∧Kl D (bs.drop k)=none)
theorem zvR {u m:Nat}(h:u+m<2^64):IntKind.u64.wrap ((u:Int)+(m:Int))=((u+m:Nat):Int):=by rw [ZW ⟨kB,kB⟩];simp
theorem zes {u:Nat}(h:u+1<2^64):IntKind.u64.wrap ((u:Int)+1)=((u+1:Nat):Int):=by rw [ZW ⟨kB,kB⟩];simp
theorem zzz (c:Nat):(c:Int).tmod 128=((c % 128:Nat):Int):=by rw [Int.tmod_eq_emod_of_nonneg kB];simp
theorem zBk {u:Nat}(h:u<2^64):IntKind.u64.wrap ((u:Int).tdiv 2)=((u / 2:Nat):Int):=by
 rw [Int.tdiv_eq_ediv_of_nonneg kB,ZW ⟨kB,kB⟩];simp
theorem zBD (u:Nat):(u:Int).tmod 2=((u % 2:Nat):Int):=by rw [Int.tmod_eq_emod_of_nonneg kB];simp
theorem zyj {u:Nat}(h:u % 2=1): -((u / 2:Nat):Int)-1=zc0 u:=by unfold zc0;rw [if_pos h]
theorem zyA {u:Nat}(h:¬u % 2=1):((u / 2:Nat):Int)=zc0 u:=by unfold zc0;rw [if_neg h]
theorem VlQ.mono {D:Nat}{I I':Qu}{bs:List Nat}{k k':Nat}{cv:Vc}{bad:Bool}(h:VlQ D I bs k cv k' bad)(hI:HLe I I'):VlQ D I' bs k cv k' bad:=by
 rcases h with ⟨a,x,b,c⟩ | h
 ·
  exact .inl ⟨a,x,b,c.mono hI⟩
 ·
  exact .inr h
section
variable {D:Nat} {I:Qu} {bs:List Nat} {n k c u k1 k2 k3:Nat} {b2 b3:Bool}
theorem get0 (h:bs[k]? =some c):(bs.drop k)[0]? =some c:=by rw [List.getElem?_drop];exact h
theorem zhh:(bs.drop k).drop 1=bs.drop (k+1):=by rw [List.drop_drop]
theorem zwQ (hn:bs.length=n)(hq:NxQ bs n k c k1 b2)(h1:c≠1)(h2:c≠2)(h3:c≠3):Kl D (bs.drop k)=none:=by
 rcases hq with ⟨_,hc,_⟩ | ⟨_,hk,_,_⟩
 ·
  exact znq (get0 hc) h1 h2 h3
 ·
  exact zmh kP
theorem zrC (hx:bs[k]? =some 1)(h:NuQ bs (k+1) u k2 b2):VlQ D I bs k ⟨1,zc0 u,⟨#[]⟩,none,0,0⟩ k2 b2:=by
 rcases h with ⟨rfl,h⟩ | ⟨rfl,_,h⟩
 ·
  exact .inl ⟨rfl,_,zoE (get0 hx) (by rw [zhh];exact h),.int _⟩
 ·
  exact .inr ⟨rfl,zi3 (get0 hx) (by rw [zhh];exact h)⟩
theorem zsG (hn:bs.length=n)(hk:k2≤n)(h:NuQ bs (k+1) u k2 b2)(hc:(b2||decide ((u:Int)>(n:Int)-(k2:Int)))=false):b2=false∧u≤n-k2∧zcs (bs.drop (k+1))=some (u,bs.drop k2):=by
 rw [Bool.or_eq_false_iff,decide_eq_false_iff_not] at hc;rcases h with ⟨rfl,h⟩ | ⟨rfl,_,_⟩
 ·
  exact ⟨rfl,kB,zfa h kP⟩
 ·
  exact absurd hc.1 kC
theorem zmO (hn:bs.length=n)(hk:k2≤n)(h:NuQ bs (k+1) u k2 b2)(hc:(b2||decide ((u:Int)>(n:Int)-(k2:Int)))=true):zcs (bs.drop (k+1))=none:=by
 rcases h with ⟨rfl,h⟩ | ⟨rfl,_,h⟩
 ·
  rw [Bool.false_or,decide_eq_true_eq] at hc;exact zge h kP
 ·
  exact zmP h
theorem zrq (hn:bs.length=n)(hk:k2≤n)(hx:bs[k]? =some 2)(h:NuQ bs (k+1) u k2 b2)(hc:(b2||decide ((u:Int)>(n:Int)-(k2:Int)))=true):Kl D (bs.drop k)=none:=
 zfE (get0 hx) (by rw [zhh];exact zmO hn hk h hc)
theorem zvb:(bs.take (k2+u)).drop k2=(bs.drop k2).take u:=by
 rw [List.drop_take];congr 1;omega
theorem ztj (hx:bs[k]? =some 2)(h:zcs (bs.drop (k+1))=some (u,bs.drop k2)):VlQ D I bs k ⟨2,0,UY ((bs.drop k2).take u),none,0,0⟩ (k2+u) false:=
 .inl ⟨rfl,.text ((bs.drop k2).take u),by rw [zjy (get0 hx) (by rw [zhh];exact h),List.drop_drop],.text _⟩
theorem zp4 (hn:bs.length=n)(hk:k2≤n){dep:Int}(hd:dep+D=16)(hx:bs[k]? =some 3)(h:NuQ bs (k+1) u k2 b2)(hc:((b2||decide ((u:Int)>(n:Int)-(k2:Int)))||(dep==16))=true):Kl D (bs.drop k)=none:=by
 rw [Bool.or_eq_true,beq_iff_eq] at hc;rcases hc with hc | hc
 ·
  exact zfP (get0 hx) (by rw [zhh];exact zmO hn hk h hc)
 ·
  exact zf1 kB (get0 hx)
def LoB (D:Nat)(I:Qu)(bs:List Nat)(u k2 i:Nat)(hs:List Vc)(k3:Nat)(b3:Bool):Prop:=(b3=false∧∃ xs,zoA I xs hs∧LoQ (Kl D) u (bs.drop k2) i xs (bs.drop k3))∨(b3=true∧zac (Kl D) u (bs.drop k2)=none)
theorem LoB.mono {I':Qu}{i:Nat}{hs:List Vc}(h:LoB D I bs u k2 i hs k3 b3)(hI:HLe I I'):LoB D I' bs u k2 i hs k3 b3:=by
 rcases h with ⟨a,xs,b,c⟩ | h
 ·
  exact .inl ⟨a,xs,b.mono hI,c⟩
 ·
  exact .inr h
theorem LoB.start:LoB D I bs u k2 0 [] k2 false:=.inl ⟨rfl,[],.nil,.start⟩
theorem LoB.step {i k4:Nat}{hs:List Vc}{cv:Vc}{b4:Bool}(h:LoB D I bs u k2 i hs k3 false)(hi:i<u)(hv:VlQ D I bs k3 cv k4 b4):LoB D I bs u k2 (i+1) (hs++[cv]) k4 b4:=by
 rcases h with ⟨_,xs,hr,hl⟩ | ⟨h,_⟩
 ·
  rcases hv with ⟨rfl,x,hd,hx⟩ | ⟨rfl,hd⟩
  ·
   exact .inl ⟨rfl,xs++[x],hr.snoc hx,hl.step hi hd⟩
  ·
   exact .inr ⟨rfl,hl.bad hi hd⟩
 ·
  cases h
theorem zs8 {i:Nat}{hs:List Vc}{a:Option Addr}{cc:Nat}(hx:bs[k]? =some 3)(h:zcs (bs.drop (k+1))=some (u,bs.drop k2))(hlo:LoB D I bs u k2 i hs k3 b3)(he:(decide ((i:Int)<(u:Int))&& !b3)=false)(hS:Sl I 4 Zg a hs.length cc hs):
  VlQ (D+1) I bs k ⟨3,0,⟨#[]⟩,a,hs.length,cc⟩ k3 b3:=by
 rcases hlo with ⟨rfl,xs,hr,hl⟩ | ⟨rfl,hl⟩
 ·
  have hi:u≤i:=(by simp at he;omega);exact .inl ⟨rfl,.list xs,zje (get0 hx) (by rw [zhh];exact h) (hl.done hi),.list hS hr.1 hr.2⟩
 ·
  exact .inr ⟨rfl,zcc (get0 hx) (by rw [zhh];exact h) hl⟩
end
section
variable {I:Qu} {bs:List Nat} {n k2:Nat} {b2:Bool} {cv:Vc} {x:Va}
theorem zmI (hn:bs.length=n)(hk:k2≤n)(hb:∀ c∈bs,c<256)(hl:n≤100000)(h:VlQ 16 I bs 0 cv k2 b2):
  (b2=true∧zad bs=none)∨(b2=false∧(((k2:Nat):Int) != ((n:Nat):Int))=true∧zad bs=none)∨(b2=false∧(((k2:Nat):Int) != ((n:Nat):Int))=false∧∃ x,zad bs=some x∧VaR I x cv∧Va.enc x=bs∧Va.depth x≤16∧Va.ok x):=by
 rcases h with ⟨h1,x,hd,hx⟩ | ⟨h1,hd⟩
 ·
  rw [List.drop_zero] at hd;by_cases e:k2=n
  ·
   subst e;rw [List.drop_of_length_le kB] at hd;have h2:=zbo hb kB hd;exact .inr (.inr ⟨h1,by simp,x,zfd hd rfl,hx,by rw [h2.1.trans (List.append_nil _)],h2.2⟩)
  ·
   exact .inr (.inl ⟨h1,by simp;omega,ze4 hd kP⟩)
 ·
  rw [List.drop_zero] at hd;exact .inl ⟨h1,zfJ hd⟩
theorem zyl (h:VlQ 16 I bs 0 cv k2 false)(hd:zad bs=some x):VaR I x cv:=by
 rcases h with ⟨_,y,hy,hx⟩ | ⟨h,_⟩
 ·
  rw [List.drop_zero] at hy;unfold zad at hd;rw [hy] at hd
  cases e:bs.drop k2 with
  | nil=>rw [e] at hd;cases hd;exact hx
  | cons a l=>rw [e] at hd;cases hd
 ·
  cases h
theorem zth {a b:List Nat}(h:a=b):(!(Kz (UY a) (UY b)))=false:=by rw [h];simp [Kz]
end
end
end Go.Kn
namespace Go.Proofs.YtjblkbkmblkgoaaGreat
section
open Go Go.Kn Go.Proofs
theorem Wq:QM Tryz.prog 257 0 0:=.of kA
theorem Vz:QM Tryz.prog 257 1 1:=.of kA
theorem Vw:QM Tryz.prog 257 2 2:=.of kA
theorem zov:Fun Tryz.prog 234:=.of Tryz.func234 kA kA
variable{I:Qu}{a:Option Addr}{n c k:Nat}{bs:List Nat}
theorem zn6 (hS:Sl I 1 VY a n c bs)(hb:∀ x∈bs,x<256)(rb:Nat)(hk:k≤n)(hn:n≤1000000):YE Tryz.prog 234 [ZI rb] I [(rb,.cells #[.slice a n c,.int .i64 (k:Nat),.bool false] 257 (0,0))] (fun v I' L'=>∃ (x k':Nat) (bad:Bool),v= .int .u8 x∧x<256∧k'≤n∧I'=I∧L'=[(rb,.cells #[.slice a n c,.int .i64 (k':Nat),.bool bad] 257 (0,0))]∧NxQ bs n k x k' bad):=by
 intro g H w hw;refine qe Tryz.func234 Tryz.ntmps234 hw ?_;have hIc:=zB6 I;have hln:=hS.len;have hcap:=hS.cap;refine zR (zA (zN (Qm (Qm<|Uy mixed kA<|zq (Qe rfl)<|zq (QC rfl)<|zq (Qa rfl Vz) ?_))));refine zq (Qc rfl Ql (fun hg=>by exact Qy.h0 rfl))<|zq (Qe rfl)<|zq (QC rfl)<|zq (Qa rfl Wq) ?_
 refine zq (Qc rfl V5 (fun hg=>by exact Qy.h0 rfl))<|zq (QT rfl Kc)<|zq (QA rfl rfl rfl)<|Uo<|Qd ?_
 refine zI ?_ ?_<;>intro hc12
 ·
  refine zR (zM<|zV (QC rfl) ?_);refine zF Vw ?_;refine zS zjL ?_;refine zN (zR<|zA (zN (Qs (Qf ?_))));exact Qx rfl rfl (fun w hw=>⟨_,I,_,rfl,hIc,hw.subL kG,0,k,true,rfl,by decide,hk,rfl,rfl,.inr ⟨rfl,by have h:=hc12;simp at h;omega,rfl,rfl⟩⟩)
 have hlt:k<n:=(by have h:=hc12;simp at h;omega);obtain ⟨x,hx⟩:∃ y,bs[k]? =some y:=⟨_,List.getElem?_eq_getElem kB⟩;have hx256:=hb x (List.mem_of_getElem? hx);refine Qr (Qd (zR (zM<|zV (QC rfl) ?_)));refine zF Vz ?_;refine zL Ql ?_;refine zB<|zV (QC rfl) ?_
 refine zF Vz ?_;refine zS U5<|zN (Qm<|Uy mixed kA<|zq (Qe rfl)<|zq (QC rfl)<|zq (Qa rfl Wq) ?_)
 refine zq (Qc rfl V5 (fun hg=>by exact Qy.h0 rfl))<|zq (Qe rfl)<|zq (QC rfl)<|zq (Qa rfl Vz) ?_
 refine zq (Qc rfl Ql (fun hg=>by exact Qy.h0 rfl)) ?_;refine zq (Ya rfl rfl rfl (fun hg=>kB)) ?_;rw [show ((k:Nat):Int)+1-1=((k:Nat):Int) by omega];refine zq (QG rfl rfl Kc kL (fun hg=>kB))<|zq (Qc rfl zvv (fun hg=>by exact zBZ hS hx rfl))<|zq (QB rfl)<|Uo<|Qd (Qs ?_)
 exact Qx rfl rfl (fun w hw=>⟨_,I,_,rfl,hIc,hw.subL kG,x,k+1,false,rfl,hx256,hlt,rfl,rfl,.inl ⟨rfl,hx,rfl⟩⟩)
variable{k0:Nat}
theorem zbJ (hS:Sl I 1 VY a n c bs)(hb:∀ x∈bs,x<256)(rb:Nat)(hk:k0≤n)(hn:n≤1000000):YE Tryz.prog 235 [ZI rb] I [(rb,.cells #[.slice a n c,.int .i64 (k0:Nat),.bool false] 257 (0,0))] (fun v I' L'=>∃ (u k':Nat) (bad:Bool),v= .int .u64 u∧u<2^64∧k'≤n∧I'=I∧L'=[(rb,.cells #[.slice a n c,.int .i64 (k':Nat),.bool bad] 257 (0,0))]∧NuQ bs k0 u k' bad):=by
 intro g H w hw;refine qe Tryz.func235 Tryz.ntmps235 hw ?_;have hIc:=zB6 I;have hln:=hS.len;refine zR (zA<|zN (zR<|zA (zN (Qm (zR<|zA (zN (Qw<|zU [(0,_)] (fun T L0 mz E I' loc'=>∃ (i:Nat) (u:Nat),mz=10-i∧E=(3,.int .u64 u)::(4,.int .i64 i)::T∧I=I'∧[(rb,.cells #[.slice a n c,.int .i64 (k0+i:Nat),.bool false] 257 (0,0))]=loc'∧i≤10∧k0+i≤n∧u<128^i∧V0 0 (bs.drop k0)=((V0 i ((bs.drop k0).drop i)).map fun x=>(u+x.1,x.2))∧i≤9) ?_ (h:=⟨0,0,rfl,rfl,rfl,rfl,Nat.zero_le _,hk,by decide,zfM,Nat.zero_le _⟩))))))));rintro mz E I' loc' ⟨i,u,rfl,rfl,rfl,rfl,hi,hki,hu,hnum,hi9⟩;refine Qm (zR (zM<|zV (QC rfl) ?_));refine zF Vw ?_;refine zL zbW<|zO (zN ?_)
 refine zI ?_ ?_<;>intro hc10
 ·
  refine Qr (Qd (Qm (Qw (zR (zM<|zpc [_] rfl zov (.cons .here .nil) (zn6 hS hb rb (k:=k0+i) kB hn) ?_)))));rintro vv2 I2 L2 hI2 ⟨c0,k1,b1,rfl,hc256,hk1,rfl,rfl,hq⟩;have hIc:=hIc.trans hI2;have hrc:=zqc (i:=i) (c:=c0) hi9;refine zA (zN (Qm (zR<|zM<|zC ?_)));refine zM<|Qt 2 rfl rfl rfl ?_
  refine zK (Qe rfl) ?_;refine zK (QA rfl rfl rfl) ?_;refine QE rfl rfl rfl rfl rfl ?_;refine zM ?_;refine QI 6 rfl rfl rfl ?_;refine zJ (Qe rfl) ?_;refine zJ (QA rfl rfl rfl) ?_;refine zJ (Qe rfl) ?_;refine Qt 9 rfl rfl rfl ?_;refine zK (Qe rfl) ?_;refine zK (QA rfl rfl rfl)<|zvt rfl rfl rfl (.some rfl rfl rfl rfl gbf) rfl rfl<|Q9 rfl rfl rfl rfl rfl ?_
  refine zN ?_;refine zI ?_ ?_<;>intro hc28
  ·
   have hcb:((i==0||c0 != 0)&&(decide (i<9)||decide (c0≤1)))=false:=(Bool.not_eq_true' _).mp (hrc.symm.trans hc28);refine zR (zM<|zV (QC rfl) ?_);refine zF Vw ?_;refine zS zjL ?_;refine zN (zR<|zA (zN (Qs (Qf (Qi (Qf (Qf (Qi<|Qf ?_))))))));exact Qx rfl rfl (fun w hw=>⟨_,I2,_,rfl,hIc,hw.subL kG,0,k1,true,rfl,by decide,hk1,rfl,rfl,.inr ⟨rfl,rfl,ztb hln hnum hq hcb⟩⟩)
  have hcond:((i==0||c0 != 0)&&(decide (i<9)||decide (c0≤1)))=true:=(Bool.not_eq_false' _).mp (hrc.symm.trans hc28);have hsm:=zfZ hi9 hcond hu;refine Qr (Qd (zR (zM ?_)));refine zM<|zV (Vb (Yd rfl rfl (fun hg=>by decide)) (congrArg (Value.int .u8) (zzz c0)))<|zV (Vb (ZS rfl zf9) (congrArg (Value.int .u64) (ZW ⟨kB,kB⟩)))<|zM ?_
  refine zB<|zV (Vb (znw rfl rfl (fun hg=>kB)) (congrArg (Value.int .u64) (zxi hi9 (by have:=hsm.1;omega))))<|zV (Vb (U6 rfl rfl rfl) (congrArg (Value.int .u64) (zvR hsm.1)))<|zA<|zN (zR ?_)
  refine zM<|zC (zN ?_)
  refine zI ?_ ?_<;>intro hc41
  ·
   have hl:c0<128:=(by have h:=hc41;simp at h;omega);refine zR (zM<|zA (zN (Qs (Qi (Qf (Qf (Qi (Qf ?_))))))));exact Qx rfl rfl (fun w hw=>⟨_,I2,_,rfl,hIc,hw.subL kG,_,k1,b1,rfl,hsm.1,hk1,rfl,rfl,zue hln hnum hq hcond hu hl⟩)
  have hge:¬c0<128:=(by have h:=hc41;simp at h;omega);obtain ⟨rfl,hc0,rfl⟩:=zuF hq hge;have hlt9:=znM hi9 hcond hge;refine Qr (Qk (Qd (Qh (zM ?_))));exact zB<|zA (Qb<|zm (h:=⟨10-(i+1),kB,i+1,_,rfl,rfl,rfl,rfl,kB,kB,hsm.2 hlt9,zh8 hnum (zdQ hc0) hcond hge,kB⟩))
 cases hc10
theorem zhi:Fun Tryz.prog 187:=.of Tryz.func187 kA kA
theorem zgF:Fun Tryz.prog 235:=.of Tryz.func235 kA kA
def zBm (D:Nat):Prop:=∀ (dep:Int),0≤dep→dep+D=16→∀ {I:Qu} {a:Option Addr} {n c:Nat} {bs:List Nat} (_hS:Sl I 1 VY a n c bs) (_hb:∀ x∈bs,x<256) (rb:Nat) {k:Nat} (_hk:k≤n) (_hn:n≤100000),YE Tryz.prog 187 [ZI rb,.int .i64 dep] I [(rb,.cells #[.slice a n c,.int .i64 (k:Nat),.bool false] 257 (0,0))] (fun v I' L'=>∃ (cv:Vc) (k':Nat) (bad:Bool),v= .agg (Zg cv).toArray∧k'≤n∧L'=[(rb,.cells #[.slice a n c,.int .i64 (k':Nat),.bool bad] 257 (0,0))]∧VlQ D I' bs k cv k' bad)
variable{D:Nat}{dep:Int}
theorem zcM (ih:∀ D',D=D'+1→zBm D')(hdp0:0≤dep)(hdp:dep+D=16)(hS:Sl I 1 VY a n c bs)(hb:∀ x∈bs,x<256)(rb:Nat)(hk:k≤n)(hn:n≤100000):YE Tryz.prog 187 [ZI rb,.int .i64 dep] I [(rb,.cells #[.slice a n c,.int .i64 (k:Nat),.bool false] 257 (0,0))] (fun v I' L'=>∃ (cv:Vc) (k':Nat) (bad:Bool),v= .agg (Zg cv).toArray∧k'≤n∧L'=[(rb,.cells #[.slice a n c,.int .i64 (k':Nat),.bool bad] 257 (0,0))]∧VlQ D I' bs k cv k' bad):=by
 intro g H w hw;refine qe Tryz.func187 Tryz.ntmps187 hw ?_;have hIc:=zB6 I;have hln:=hS.len;have hcap:=hS.cap;refine zR<|Qp YG rfl rfl (fun b_4=>zN (Qm (zR (zM<|zpc [_] rfl zov (.cons (.there .here) .nil) (zn6 hS hb rb hk kB) ?_))))
 rintro vv1 I1 L1 hI1 ⟨c0,k1,b1,rfl,hc256,hk1,rfl,rfl,hq⟩;have hS:=hS.mono hI1;have hIc:=hIc.trans hI1;refine zN (Qw (zR (zC<|zA (zN ?_))));refine zI ?_ ?_<;>intro hc12
 ·
  have hcn:c0=1:=(by have h:=hc12;simp at h;omega);subst hcn;obtain ⟨rfl,hx0,rfl⟩:=znS hq kC;refine zR (zM<|zpc [_] rfl zgF (.cons .here .nil) (zbJ hS hb rb (k0:=k+1) kB kB) ?_);rintro vv2 I2 L2 hI2 ⟨u,k2,b2,rfl,hu64,hk2,rfl,rfl,hnu⟩;have hIc:=hIc.trans hI2;refine zA (zN (Qm (zR<|zM<|zV (Vb (Yd rfl rfl (fun hg=>by decide)) (congrArg (Value.int .u64) (zBD u)))<|zC (zN ?_))));refine zI ?_ ?_<;>intro hc18
  focus
   have hodd:u % 2=1:=(by have h:=hc18;simp at h;omega);refine zR (zM<|zV (Vb (znf rfl rfl (fun hg=>by decide)) (congrArg (Value.int .u64) (zBk hu64)))<|zV (Vb (ZS rfl KG) (congrArg (Value.int .i64) (YJ ⟨kB,kB⟩)))<|zV (zi8 rfl) ?_);rw [show IntKind.i64.wrap (0-((u / 2:Nat):Int))= -((u / 2:Nat):Int) by rw [YJ ⟨kB,kB⟩];omega];refine zB ?_;rw [zyj hodd];refine zV (QD (ps:=[(0,_),(1,_)]) [_,_,_,_] Vs rfl rfl) ?_;refine zh Zx<|zN (Qs (Qf (Qi (Qf ?_))))
  rotate_left
  have hodd:¬u % 2=1:=(by have h:=hc18;simp at h;omega);refine Qr (Qd (zR (zM<|zV (Vb (znf rfl rfl (fun hg=>by decide)) (congrArg (Value.int .u64) (zBk hu64)))<|zV (Vb (ZS rfl KG) (congrArg (Value.int .i64) (YJ ⟨kB,kB⟩))) ?_)));rw [zyA hodd];refine zV (QD (ps:=[(0,_),(1,_)]) [_,_,_,_] Vs rfl rfl) ?_;refine zh Zx<|zN (Qs (Qi (Qf ?_)))
  all_goals
   exact ZM rfl rfl Zm Cells.g1 rfl (fun w hw=>⟨_,I2,_,rfl,hIc,hw.subL kG,⟨1,zc0 u,⟨#[]⟩,none,0,0⟩,k2,b2,rfl,hk2,rfl,zrC hx0 hnu⟩)
 have hn1:c0≠1:=(by have h:=hc12;simp at h;omega);refine zR (zC<|zA (zN ?_));refine zI ?_ ?_<;>intro hc29
 ·
  have hcn:c0=2:=(by have h:=hc29;simp at h;omega);subst hcn;obtain ⟨rfl,hx0,rfl⟩:=znS hq kC;refine zR (zM<|zpc [_] rfl zgF (.cons .here .nil) (zbJ hS hb rb (k0:=k+1) kB kB) ?_);rintro vv3 I3 L3 hI3 ⟨u,k2,b2,rfl,hu64,hk2,rfl,rfl,hnu⟩;have hS:=hS.mono hI3;have hIc:=hIc.trans hI3;refine zA (zN (Qm (Qm<|Uy mixed kA<|zq (Qe rfl)<|zq (QC rfl)<|zq (Qa rfl Vw) ?_)));refine zq (Qc rfl zbW (fun hg=>by exact Qy.h0 rfl))<|zq (Qe rfl)<|VF 4 rfl rfl rfl<|zj (Qe rfl)<|zj (Qe rfl)<|zj (QC rfl)<|zj (Qa rfl Wq)<|zj (Qc rfl V5 (fun hg=>by exact Qy.h0 rfl))<|zj (QT rfl Kc)<|zj (Qe rfl)<|zj (QC rfl)<|zj (Qa rfl Vz) ?_
  refine zj (Qc rfl Ql (fun hg=>by exact Qy.h0 rfl))<|zj (Ya rfl rfl rfl (fun hg=>kB))<|zj (Vb (ZS rfl VK) (congrArg (Value.int .u64) (ZW ⟨kB,kB⟩)))<|zj (QA rfl rfl rfl)<|K3 rfl rfl rfl rfl rfl<|Uo<|Qd ?_
  refine zI ?_ ?_<;>intro hc51
  ·
   refine zR (zM<|zV (QC rfl) ?_);refine zF Vw ?_;refine zS zjL ?_;refine zN (zR<|zV (QD (ps:=[]) [_,_,_,_] Vs rfl rfl) ?_);refine zh Zx<|zN (Qs (Qf (Qi (Qf ?_))))
   exact ZM rfl rfl Zm Cells.g1 rfl (fun w hw=>⟨_,I3,_,rfl,hIc,hw.subL kG,Um,k2,true,rfl,hk2,rfl,.inr ⟨rfl,zrq hln hk2 hx0 hnu hc51⟩⟩)
  obtain ⟨rfl,hfit,hlen⟩:=zsG hln hk2 hnu hc51;refine Qr (Qd (zR (zM ?_)));refine zM<|zV (QC rfl) ?_
  refine zF Vz ?_;refine zL Ql ?_;refine zM ?_;refine zV (Vb (ZS rfl KG) (congrArg (Value.int .i64) (YJ ⟨kB,kB⟩))) ?_;refine zB ?_;rw [show ((k2:Nat):Int)+((u:Nat):Int)=((k2+u:Nat):Int) by omega];refine zV (QC rfl) ?_;refine zF Vz ?_;refine zS U5<|zN (Qm ?_)
  have hD:=zB6 I3;refine Zn<|QJ I3 [(rb,.cells #[.slice a n c,.int .i64 (k2+u:Nat),.bool false] 257 (0,0))] mixed<|zT 0 rfl (Qe rfl) hD<|zT 1 rfl (QC rfl) hD<|zT 2 rfl (Qa rfl Wq) hD<|zT 3 rfl (Qc rfl V5 (fun hg=>by exact Qy.h0 rfl)) hD<|zT 4 rfl (Qe rfl) hD<|zT 5 rfl (QC rfl) hD<|zT 6 rfl (Qa rfl Vz) hD<|zT 7 rfl (Qc rfl Ql (fun hg=>by exact Qy.h0 rfl)) hD<|zT 8 rfl (Qe rfl) hD<|zT 9 rfl (Vb (ZS rfl KG) (congrArg (Value.int .i64) (YJ ⟨kB,kB⟩))) hD ?_
  refine zT 10 rfl (Ya rfl rfl rfl (fun hg=>kB)) hD ?_;rw [show ((k2+u:Nat):Int)-((u:Nat):Int)=((k2:Nat):Int) by omega];refine zT 11 rfl (Qe rfl) hD<|zT 12 rfl (QC rfl) hD<|zT 13 rfl (Qa rfl Vz) hD<|zT 14 rfl (Qc rfl Ql (fun hg=>by exact Qy.h0 rfl)) hD<|zT 15 rfl (zjJ rfl rfl rfl Kc (fun hg=>kB)) hD ?_
  refine zT 16 rfl (Vb (Zv rfl bst (fun hg=>Sl.part hS (k:=k2) (q:=k2+u) kB kB)) (congrArg (fun l=>Value.string (UY l)) (zvb (bs:=bs) (k2:=k2) (u:=u)))) hD<|zT 17 rfl (QD (ps:=[(0,_),(2,_)]) [_,_,_,_] Vs rfl rfl) hD<|qd 18 rfl ?_
  refine zh Zx ?_;refine Qb<|zD hD<|Qn kA<|Qv<|Qd (Qs (Qi (Qf ?_)))
  exact ZM rfl rfl Zm Cells.g1 rfl (fun w hw=>⟨_,I3,_,rfl,hIc,hw.subL kG,⟨2,0,UY ((bs.drop k2).take u),none,0,0⟩,(k2+u),false,rfl,kB,rfl,ztj hx0 hlen⟩)
 have hn2:c0≠2:=(by have h:=hc29;simp at h;omega);refine zR (zC<|zA (zN ?_));refine zI ?_ ?_<;>intro hc84
 ·
  have hcn:c0=3:=(by have h:=hc84;simp at h;omega);subst hcn;obtain ⟨rfl,hx0,rfl⟩:=znS hq kC;refine zR (zM<|zpc [_] rfl zgF (.cons .here .nil) (zbJ hS hb rb (k0:=k+1) kB kB) ?_);rintro vv4 I4 L4 hI4 ⟨u,k2,b2,rfl,hu64,hk2,rfl,rfl,hnu⟩;have hS:=hS.mono hI4;have hIc:=hIc.trans hI4;refine zA (zN (Qm (Qm<|Uy mixed kA<|zq (Qe rfl)<|zq (QC rfl)<|zq (Qa rfl Vw) ?_)));refine zq (Qc rfl zbW (fun hg=>by exact Qy.h0 rfl))<|zq (Qe rfl)<|VF 4 rfl rfl rfl<|zj (Qe rfl)<|zj (Qe rfl)<|zj (QC rfl)<|zj (Qa rfl Wq)<|zj (Qc rfl V5 (fun hg=>by exact Qy.h0 rfl))<|zj (QT rfl Kc)<|zj (Qe rfl)<|zj (QC rfl)<|zj (Qa rfl Vz) ?_
  refine zj (Qc rfl Ql (fun hg=>by exact Qy.h0 rfl))<|zj (Ya rfl rfl rfl (fun hg=>kB))<|zj (Vb (ZS rfl VK) (congrArg (Value.int .u64) (ZW ⟨kB,kB⟩)))<|zj (QA rfl rfl rfl)<|K3 rfl rfl rfl rfl rfl<|zq (Qe rfl)<|VF 19 rfl rfl rfl<|zj (Qe rfl)<|zj (QA rfl rfl rfl)<|K3 rfl rfl rfl rfl rfl<|Uo<|Qd ?_
  refine zI ?_ ?_<;>intro hc110
  ·
   refine zR (zM<|zV (QC rfl) ?_);refine zF Vw ?_;refine zS zjL ?_;refine zN (zR<|zV (QD (ps:=[]) [_,_,_,_] Vs rfl rfl) ?_);refine zh Zx<|zN (Qs (Qf (Qi (Qf ?_))))
   exact ZM rfl rfl Zm Cells.g1 rfl (fun w hw=>⟨_,I4,_,rfl,hIc,hw.subL kG,Um,k2,true,rfl,hk2,rfl,.inr ⟨rfl,zp4 hln hk2 hdp hx0 hnu hc110⟩⟩)
  have hcc:=hc110;rw [Bool.or_eq_false_iff] at hcc;obtain ⟨rfl,hfit,hlen⟩:=zsG hln hk2 hnu hcc.1;obtain ⟨D',rfl⟩:∃ D',D=D'+1:=⟨D-1,by have h:=hcc.2;simp at h;omega⟩;have hih:=ih D' rfl;refine Qr (Qd (zR<|zV (QD (ps:=[(0,_)]) [_,_,_,_] Vs rfl rfl)<|Qp YG rfl rfl (fun b_8=>?_)));refine zh Zx<|zN (Qm (Qm<|zsF (_::_::_) (.swap _ _ _)<|Qh (zA (zN (Qw<|zU [(0,_),(1,_),(4,_),(7,_),(8,_)] (fun T L0 mz E I' loc'=>∃ (i:Nat) (v3:Value) (hs:List Vc) (k3:Nat) (b3:Bool) (L:Go.Kn.Loc),mz=u-i∧E=(9,.int .u64 i)::T∧HLe I4 I'∧L++[(rb,.cells #[.slice a n c,.int .i64 (k3:Nat),.bool b3] 257 (0,0)),(b_8,.cells #[.int .i64 3,.int .i64 0,.string ⟨#[]⟩,v3] 158 (0,0)),(b_4,.cells (Zg Um).toArray 158 (0,0))]=loc'∧i≤u∧ZU 158 4 v3 hs.length (hs.flatMap Zg) L∧LoB D' I' bs u k2 i hs k3 b3∧hs.length≤i∧k3≤n) ?_ (h:=⟨0,_,[],k2,false,[],rfl,rfl,zB6 _,rfl,Nat.zero_le _,ZU.nil,LoB.start,Nat.le_refl _,hk2⟩))))))
  rintro mz E J5 loc' ⟨i,v3,hs,k3,b3,L,rfl,rfl,hJ,rfl,hi,hO,hlo,hhi,hk3⟩;have hS:=hS.mono hJ;have hIc:=hIc.trans hJ;have hB1:=hJ;refine Qm (zR (zM<|zM<|zC ?_));refine zM<|Qt 3 rfl rfl rfl ?_
  refine zK (Qe rfl)<|zK (QC rfl)<|zK (Qa rfl Vw) ?_
  refine zK (Qc rfl zbW (fun hg=>by (repeat (first | exact zB1 rfl | apply zB0 | apply zB2))))<|zK (ZB rfl)<|QE rfl rfl rfl rfl rfl<|zN ?_
  refine zI ?_ ?_<;>intro hc125
  ·
   have hlt_i:i<u:=(by have h:=hc125;simp at h;omega);obtain rfl:b3=false:=(by have h:=hc125;simp at h;exact h.2);refine Qr (Qd (Qm (Qw ?_)));have hD:=zB6 J5;refine Zn<|QJ J5 [] mixed<|zT 0 rfl (Qa rfl QO) hD<|zT 2 rfl (Qe rfl) hD<|zT 3 rfl (Qe rfl) hD<|zT 4 rfl (Ya rfl rfl rfl (fun hg=>kB)) hD ?_
   refine QU 1 5 rfl rfl kA ?_ ?_
   focus
    refine zV (Qc rfl Zo (fun hg=>by (repeat (first | exact zB1 rfl | apply zB0 | apply zB2))))<|Qb<|zD hD<|qd 5 rfl<|zpc [_,_] rfl zhi (by repeat (first | exact .cons .here .nil | exact ZL | exact Zi | apply ZF | apply ZC)) (hih (dep+1) kB (by push_cast at hdp;omega) hS hb rb hk3 hn) ?_
    rintro vv6 I6 L6 hI6 ⟨cv,k4,b4,rfl,hk4,rfl,hvl⟩;have hlo:=hlo.mono hI6;have hB1:=hB1.trans hI6;have hD:=hD.trans hI6;refine Qb<|zD hD<|qd 6 rfl<|zpb [(0,_)] [Zg cv] ZG (fun b_134=>?_)
   rotate_left
   refine zpc [_,_] rfl zhi (by repeat (first | exact .cons .here .nil | exact ZL | exact Zi | apply ZF | apply ZC)) (hih (dep+1) kB (by push_cast at hdp;omega) hS hb rb hk3 hn) ?_;rintro vv7 I7 L7 hI7 ⟨cv,k4,b4,rfl,hk4,rfl,hvl⟩;have hlo:=hlo.mono hI7;have hB1:=hB1.trans hI7;have hD:=hD.trans hI7;refine Qb<|zD hD ?_
   refine QU 1 6 rfl rfl kA ?_ ?_
   focus
    refine zV (Qc rfl Zo (fun hg=>by (repeat (first | exact zB1 rfl | apply zB0 | apply zB2))))<|Qb<|zD hD<|qd 6 rfl<|zpb [(0,_)] [Zg cv] ZG (fun b_134=>?_)
   rotate_left
   refine zpb [(0,_)] [Zg cv] ZG (fun b_134=>Qb<|zD hD<|qd 1 rfl<|zV (Qc rfl Zo (fun hg=>by (repeat (first | exact zB1 rfl | apply zB0 | apply zB2)))) ?_)
   all_goals
    refine Qb<|zD hD<|qd 7 rfl<|zpa (_) ([cv].flatMap Zg) (L) rfl rfl ZG hO ⟨rfl,fun _=>rfl,by repeat (first | exact zB4 | apply zB3 | apply zB5)⟩ (VS [cv]) ?_
    intro v9 L9 hO9 _;rw [←List.flatMap_append] at hO9;obtain ⟨a8,c8,rfl⟩:=hO9.shape;refine Qb<|zD hD<|zT 8 rfl (Qa rfl QO) hD<|qd 9 rfl ?_
    refine zS YY ?_;refine Qb<|zD hD<|Qn kA<|Qv ?_
    refine Qk (Qd (Qh (zM ?_)));refine zV (Vb (U6 rfl rfl rfl) (congrArg (Value.int .u64) (zes kB)))<|zA (Qb ?_)
    exact zm (h:=⟨u-(i+1),kB,i+1,_,hs++[cv],k4,b4,L9,rfl,rfl,hB1,rfl,kB,by rw [List.length_append,List.length_singleton];exact hO9,hlo.step hlt_i hvl,by rw [List.length_append,List.length_singleton];omega,hk4⟩)
  refine zx4 hO Vg (fun I8 hI8 a9 c9 e9 hS9=>?_);subst e9;have hlo:=hlo.mono hI8;have hIc:=hIc.trans hI8;refine Zk (Qo (Qo (Qz (Qd (zR<|zV (Qg rfl Zm (fun hg=>by exact Cells.g1) rfl) ?_)))));refine zh Zx<|zN (Qs (Qi (Qf ?_)))
  exact ZM rfl rfl Zm Cells.g2 rfl (fun w hw=>⟨_,I8,_,rfl,hIc,hw.subL kG,⟨3,0,⟨#[]⟩,a9,hs.length,c9⟩,k3,b3,rfl,hk3,rfl,zs8 hx0 hlen hlo hc125 hS9⟩)
 have hn3:c0≠3:=(by have h:=hc84;simp at h;omega);refine Qr (Qk (Qd (zR (zM<|zV (QC rfl) ?_))));refine zF Vw ?_;refine zS zjL ?_;refine zN (zR<|zV (QD (ps:=[]) [_,_,_,_] Vs rfl rfl) ?_);refine zh Zx<|zN (Qs ?_)
 exact ZM rfl rfl Zm Cells.g1 rfl (fun w hw=>⟨_,I1,_,rfl,hIc,hw.subL kG,Um,k1,true,rfl,hk1,rfl,.inr ⟨rfl,zwQ hln hq hn1 hn2 hn3⟩⟩)
theorem zuM:PlT Tryz.prog 257 #[(0,1),(1,1),(2,1)] (.agg #[(.slice none 0 0),(.int .i64 0),(.bool false)]):=⟨.of kA,kA,fun w=>kA⟩
theorem zw5 (D:Nat):zBm D:=by
 induction D with
 | zero=>intro dep h0 hdp I a n c bs hS hb rb k hk hn;exact zcM (D:=0) (fun D' h=>kB) h0 hdp hS hb rb hk hn
 | succ D ih=>intro dep h0 hdp I a n c bs hS hb rb k hk hn;exact zcM (D:=D+1) (fun D' h=>Nat.succ.inj h ▸ ih) h0 hdp hS hb rb hk hn
theorem znU (hS:Sl I 1 VY a n c bs)(hb:∀ x∈bs,x<256)(hn:n≤100000):YE Tryz.prog 132 [.slice a n c] I [] (zkb bs):=by
 intro g H w hw;refine qe Tryz.func132 Tryz.ntmps132 hw ?_;have hIc:=zB6 I;have hln:=hS.len;refine zR<|Qp YG rfl rfl (fun b_2=>?_)
 refine zA<|zN (zR ?_)
 refine zM<|zV (QD (ps:=[(0,_)]) [_,_,_] zuM rfl rfl)<|QK rfl rfl rfl (fun b_8=>zA<|zN (zR ?_))
 refine zM<|zpc [_,_] rfl zhi (.cons .here .nil) (zw5 16 0 kC rfl hS hb b_8 (k:=0) kB hn) ?_
 rintro vv1 I1 L1 hI1 ⟨cv,k2,b2,rfl,hk2,rfl,hvl⟩;have hS:=hS.mono hI1;have hIc:=hIc.trans hI1;have h3:=zmI hln hk2 hb hn hvl;refine Qp YG rfl rfl (fun b_5=>?_);refine zh Zx<|zN (Qm (Qm ?_))
 rcases h3 with ⟨rfl,hdn⟩ | ⟨rfl,hkn,hdn⟩ | ⟨rfl,hkn,x,hdx,hxr,henc,hdp,hok⟩
 ·
  have hD:=zB6 I1;refine Zn<|QJ I1 [(b_5,.cells (Zg cv).toArray 158 (0,0)),(b_8,.cells #[.slice a n c,.int .i64 (k2:Nat),.bool true] 257 (0,0))] mixed<|zT 0 rfl (Qe rfl) hD<|zT 1 rfl (QC rfl) hD<|zT 2 rfl (Qa rfl Vw) hD<|zT 3 rfl (Qc rfl zbW (fun hg=>by exact Qy.h1 rfl)) hD<|zT 4 rfl (Qe rfl) hD ?_
  refine zW 5 15 hD ?_;refine zW 6 15 hD ?_;refine zW 7 15 hD ?_;refine zW 8 15 hD ?_;refine zW 9 15 hD ?_;refine zW 10 15 hD ?_;refine zW 11 15 hD<|zT 12 rfl (Ye rfl rfl rfl) hD<|zT 13 rfl (Qe rfl) hD ?_
  refine zW 14 24 hD ?_;refine zW 15 24 hD ?_;refine zW 16 24 hD<|zT 17 rfl (Ye rfl rfl rfl) hD<|zT 18 rfl (Qe rfl) hD ?_
  refine zW 19 29 hD ?_;refine zW 20 29 hD ?_;refine zW 21 29 hD ?_;refine zW 22 29 hD ?_;refine zW 23 29 hD ?_;refine zW 24 29 hD<|zT 25 rfl (Ye rfl rfl rfl) hD<|Qn kA<|Qv<|Qd ?_
  refine zI ?_ ?_<;>intro hc36
  ·
   refine zR<|zV (QD (ps:=[]) [_,_,_,_] Vs rfl rfl) ?_
   refine zh Zx ?_;refine zA (zN (Qs (Qf ?_)));exact Q2 rfl rfl rfl Zm Cells.g2 rfl (fun w hw=>⟨_,I1,[],rfl,hIc,hw.subL Qq,zkb.bad hdn⟩)
  cases hc36
 ·
  have hD:=zB6 I1;refine Zn<|QJ I1 [(b_5,.cells (Zg cv).toArray 158 (0,0)),(b_8,.cells #[.slice a n c,.int .i64 (k2:Nat),.bool false] 257 (0,0))] mixed<|zT 0 rfl (Qe rfl) hD<|zT 1 rfl (QC rfl) hD<|zT 2 rfl (Qa rfl Vw) hD<|zT 3 rfl (Qc rfl zbW (fun hg=>by exact Qy.h1 rfl)) hD<|zT 4 rfl (Qe rfl) hD<|zw 5 15 rfl (Qe rfl) hD<|zw 6 15 rfl (QC rfl) hD<|zw 7 15 rfl (Qa rfl Vz) hD<|zw 8 15 rfl (Qc rfl Ql (fun hg=>by exact Qy.h1 rfl)) hD<|zw 9 15 rfl (Qe rfl) hD ?_
  refine zw 10 15 rfl (QT rfl Kc) hD<|zw 11 15 rfl (QA rfl rfl rfl) hD ?_
  rw [hkn];refine zT 12 rfl (QY rfl rfl rfl) hD<|zT 13 rfl (Qe rfl) hD ?_
  refine zW 14 24 hD ?_;refine zW 15 24 hD ?_;refine zW 16 24 hD<|zT 17 rfl (Ye rfl rfl rfl) hD<|zT 18 rfl (Qe rfl) hD ?_
  refine zW 19 29 hD ?_;refine zW 20 29 hD ?_;refine zW 21 29 hD ?_;refine zW 22 29 hD ?_;refine zW 23 29 hD ?_;refine zW 24 29 hD<|zT 25 rfl (Ye rfl rfl rfl) hD<|Qn kA<|Qv<|Qd ?_
  refine zI ?_ ?_<;>intro hc36
  ·
   refine zR<|zV (QD (ps:=[]) [_,_,_,_] Vs rfl rfl) ?_
   refine zh Zx ?_;refine zA (zN (Qs (Qf ?_)));exact Q2 rfl rfl rfl Zm Cells.g2 rfl (fun w hw=>⟨_,I1,[],rfl,hIc,hw.subL Qq,zkb.bad hdn⟩)
  cases hc36
 have hD:=zB6 I1;refine Zn<|QJ I1 [(b_5,.cells (Zg cv).toArray 158 (0,0)),(b_8,.cells #[.slice a n c,.int .i64 (k2:Nat),.bool false] 257 (0,0))] mixed<|zT 0 rfl (Qe rfl) hD<|zT 1 rfl (QC rfl) hD<|zT 2 rfl (Qa rfl Vw) hD<|zT 3 rfl (Qc rfl zbW (fun hg=>by exact Qy.h1 rfl)) hD<|zT 4 rfl (Qe rfl) hD<|zw 5 15 rfl (Qe rfl) hD<|zw 6 15 rfl (QC rfl) hD<|zw 7 15 rfl (Qa rfl Vz) hD<|zw 8 15 rfl (Qc rfl Ql (fun hg=>by exact Qy.h1 rfl)) hD<|zw 9 15 rfl (Qe rfl) hD ?_
 refine zw 10 15 rfl (QT rfl Kc) hD<|zw 11 15 rfl (QA rfl rfl rfl) hD ?_
 rw [hkn];refine zT 12 rfl (QY rfl rfl rfl) hD<|zT 13 rfl (Qe rfl) hD<|zw 14 24 rfl (Qg rfl Zm (fun hg=>by exact Cells.g0) rfl) hD<|qd 15 rfl<|QQ (dj:=24) rfl rfl rfl<|qcV (vs:=[_]) rfl znx (ziE hxr hdp hok (by rw [henc];omega))<|Qb<|zD hD<|zw 16 24 rfl (QA rfl rfl rfl) hD<|zT 17 rfl (QY rfl rfl rfl) hD<|zT 18 rfl (Qe rfl) hD<|zw 19 29 rfl (Qg rfl Zm (fun hg=>by exact Cells.g0) rfl) hD ?_
 refine zw 22 29 rfl (Qe rfl) hD<|zw 23 29 rfl (Zv rfl bst (fun hg=>hS)) hD<|qd 20 rfl<|QQ (dj:=29) rfl rfl rfl<|zpc [_] rfl zgH .nil (zfA _ x (Nat.le_refl _) (fun _ _=>trivial) hxr hok (by rw [henc];omega)) ?_
 rintro vv2 I2 L2 hI2 ⟨rfl,a9,c9,rfl,hS9⟩;have hvl:=hvl.mono hI2;have hIc:=hIc.trans hI2;have hD:=hD.trans hI2;refine Qb<|zD hD<|qd 21 rfl<|QQ (dj:=29) rfl rfl rfl<|zV (Zv rfl bst (fun hg=>hS9))<|Qb<|zD hD<|zw 24 29 rfl (Vb (J6 rfl rfl rfl) (congrArg Value.bool (zth henc))) hD<|zT 25 rfl (QY rfl rfl rfl) hD<|Qn kA<|Qv<|Qd ?_
 refine zI ?_ ?_<;>intro hc36
 ·
  cases hc36
 refine Qr (Qd (zR<|zV (Qg rfl Zm (fun hg=>by exact Cells.g0) rfl) ?_));refine zh Zx ?_;refine zA (zN (Qs ?_));exact Q2 rfl rfl rfl Zm Cells.g2 rfl (fun w hw=>⟨_,I2,[],rfl,hIc,hw.subL Qq,zkb.ok hdx (zyl hvl hdx)⟩)
def zwl (I:Qu)(ys:List Vc)(n:Nat)(b:Bool)(a:Option Addr)(m c:Nat):Prop:=
 (b=true∧m=n∧Sl I 1 Z5 a m c (ys.map (·.n))∧∀ (j:Nat) (y:Vc),ys[j]? =some y→(y.k != 1)=false)∨(b=false∧∃ (j:Nat) (y:Vc),ys[j]? =some y∧(y.k != 1)=true)
variable{ys:List Vc}{b:Bool}
theorem zwl.mono {I':Qu}{m:Nat}(h:zwl I ys n b a m c)(hI:HLe I I'):zwl I' ys n b a m c:=by
 rcases h with ⟨h1,h2,h3,h4⟩ | h
 ·
  exact .inl ⟨h1,h2,h3.mono hI,h4⟩
 ·
  exact .inr h
section
variable {I:Qu} {bs:List Nat} {cv:Vc} {l:List Va} {hs:List Vc} {u v w:Vc} {q:List Va} {qs:List Vc} {b:Bool} {a:Option Addr} {m c:Nat}
theorem zjl (h:RdP I bs cv l hs)(hi:zwl I (hs.take 42) 42 b a m c)(hu:hs[42]? =some u)(hv:hs[43]? =some v)(hw:hs[44]? =some w):
  ((((!b||u.k != 3)||v.k != 2)||w.k != 2)=true→okN bs=none)∧((((!b||u.k != 3)||v.k != 2)||w.k != 2)=false→b=true∧m=42∧Sl I 1 Z5 a m c ((hs.take 42).map (·.n))∧∃ q qs,RtP I bs l hs u v w q qs):=by
 rcases hi with ⟨rfl,h2,h3,h4⟩ | ⟨rfl,j,y,hy,hne⟩
 ·
  have hall:∀ j y,j<42→hs[j]? =some y→(y.k != 1)=false:=fun j y hj hy=>h4 j y (by rw [List.getElem?_take,if_pos hj];exact hy);have ht:=zhC h hall hu hv hw;exact ⟨fun e=>ht.1 (by simpa using e),fun e=>⟨rfl,h2,h3,ht.2 (by simpa using e)⟩⟩
 ·
  rw [List.getElem?_take] at hy;split at hy
  ·
   rename_i hj;exact ⟨fun _=>zsh h hj hy hne,fun e=>by simp at e⟩
  ·
   cases hy
theorem znK (h:RtP I bs l hs u v w q qs)(hi:zwl I qs u.m b a m c):(b=false→okN bs=none)∧(b=true→m=u.m∧Sl I 1 Z5 a m c (qs.map (·.n))∧∀ j y,j<qs.length→qs[j]? =some y→(y.k != 1)=false):=by
 rcases hi with ⟨rfl,h2,h3,h4⟩ | ⟨rfl,j,y,hy,hne⟩
 ·
  exact ⟨fun e=>by simp at e,fun _=>⟨h2,h3,fun j y _ hy=>h4 j y hy⟩⟩
 ·
  exact ⟨fun _=>znP h hy hne,fun e=>by simp at e⟩
theorem Zt {I:Qu}{loc:Go.Kn.Loc}{hs:List Vc}{a:Option Addr}{c:Nat}(hL:Sl I 1 Z5 a 42 c ((hs.take 42).map (·.n)))(hm:42≤hs.length)(k:Nat)(hk:k<42):Qy I loc (Ab a) (Ao a+k*1) (.int .i64 (zdf hs 42 k)):=by
 obtain ⟨y,hy⟩:∃ y,hs[k]? =some y:=⟨_,List.getElem?_eq_getElem kB⟩;have e:zdf hs 42 k=y.n:=(by unfold zdf;rw [if_pos hk,List.getD_eq_getElem?_getD,hy];rfl);rw [e];exact zBZ hL (by rw [List.getElem?_map,List.getElem?_take,if_pos hk,hy];rfl) rfl
theorem zmv {x:Va}(h:isI x=true)(hok:Va.ok x): -9223372036854775808≤zjb x∧zjb x≤9223372036854775807:=by
 cases x with
 | int n=>exact hok
 | text s=>cases h
 | list l=>cases h
theorem zBM (h:RtP I bs l hs u v w q qs)(hb:∀ c∈bs,c<256)(hl:bs.length<2^63)(hall:∀ j y,j<qs.length→qs[j]? =some y→(y.k != 1)=false)(a:Option Addr)(n c:Nat):NtW (Uv (zdf hs 42) a n c (qs.map (·.n)) v.s w.s):=by
 have hok:Va.okL l:=by
  have hd:=h.dec;unfold zad at hd
  cases e:Kl 16 bs with
  | none=>rw [e] at hd;cases hd
  | some x=>
   obtain ⟨x,r⟩:=x;rw [e] at hd
   cases r with
   | nil=>cases hd;exact (zbo hb hl e).2.2.2
   | cons _ _=>cases hd
 constructor
 ·
  intro y hy;rw [show Y9 (Uv (zdf hs 42) a n c (qs.map (·.n)) v.s w.s)=(List.range 42).map (zdf hs 42) from rfl] at hy;obtain ⟨j,hj,rfl⟩:=List.mem_map.1 hy;have hj':j<42:=List.mem_range.1 hj;rw [←h.nums j hj'];obtain ⟨x,hx⟩:∃ x,l[j]? =some x:=⟨_,List.getElem?_eq_getElem (by rw [h.len];omega)⟩;rw [List.getD_eq_getElem?_getD,hx];refine zmv ?_ (zaE hok hx);exact List.all_eq_true.1 h.ints x (List.mem_of_getElem? (i:=j) (by rw [List.getElem?_take,if_pos hj',hx]))
 ·
  intro y hy;have hy':y∈qs.map (·.n):=hy;obtain ⟨z,hz,rfl⟩:=List.mem_map.1 hy';obtain ⟨j,hj⟩:=List.mem_iff_getElem?.1 hz;have hjl:=(List.getElem?_eq_some_iff.1 hj).1;obtain ⟨s,s2,hd,_,_⟩:=h.drop
  have h42:l[42]? =some (.list q):=by
   have:=congrArg (fun l=>l[0]?) hd;simpa [List.getElem?_drop] using this
  have hq:Va.okL q:=(zaE hok h42).2;obtain ⟨x,hx⟩:∃ x,q[j]? =some x:=⟨_,List.getElem?_eq_getElem (by rw [h.qlen];exact hjl)⟩;have hr:=h.rel j x z hx hj;have hi:isI x=true:=(by rw [zao hr];simpa using hall j z hjl hj);rw [←zdL hr hi];exact zmv hi (zaE hq hx)
end
theorem zkC (hS:Sl I 4 Zg a n c ys)(hn:n≤100000):YE Tryz.prog 133 [.slice a n c] I [] (fun v I' L'=>L'=[]∧∃ (b:Bool) (a':Option Addr) (m c':Nat),v= .tuple #[.slice a' m c',.bool b]∧zwl I' ys n b a' m c'):=by
 intro g H w hw;refine qe Tryz.func133 Tryz.ntmps133 hw ?_;have hIc:=zB6 I;have hln:=hS.len;refine zR (zA<|zA<|zN (zR<|zA (zN (Qm (zR<|zA (zN (Qw<|zU [(0,_)] (fun T L0 mz E I' loc'=>∃ (k:Nat) (v:Value) (L:Go.Kn.Loc),mz=n-k∧E=(4,v)::(5,.int .i64 k)::T∧I=I'∧L=loc'∧k≤n∧ZU 3 1 v k (((ys.take k).map (·.n)).flatMap Z5) L∧(∀ j y,j<k→ys[j]? =some y→(y.k != 1)=false)) ?_ (h:=⟨0,_,[],rfl,rfl,rfl,rfl,Nat.zero_le _,ZU.nil,fun j y h=>absurd h (Nat.not_lt_zero _)⟩))))))));rintro mz E I' loc' ⟨k,v,L,rfl,rfl,rfl,rfl,hk,hO,hall⟩;refine Qm (zR (zM<|zM<|zQ ZN<|zC (zN ?_)));refine zI ?_ ?_<;>intro hc9
 ·
  have hlt_k:k<n:=(by have h:=hc9;simp at h;omega);obtain ⟨y,hy⟩:∃ y,ys[k]? =some y:=⟨_,List.getElem?_eq_getElem kB⟩;refine Qr (Qd (Qm (Qw (Qm (zR (zM ?_))))));refine zM ?_;refine zV (zX ZN hS)<|zF Zh ?_
  refine zV (Qc rfl Ql (fun hg=>by exact zBZ hS hy rfl))<|zC (zN ?_)
  refine zI ?_ ?_<;>intro hc17
  ·
   exact zR (zA<|zA (zN (Qs (Qf (Qi (Qf (Qf (Qi<|Qf<|Vq rfl rfl rfl (fun w hw=>⟨_,I,[],rfl,hIc,hw.subL Qq,rfl,_,_,_,_,rfl,.inr ⟨rfl,k,y,hy,hc17⟩⟩)))))))))
  refine Qr (Qd (Qh (zM ?_)));refine zM ?_;refine zM ?_;refine zV (zX ZN hS)<|zF Y3 ?_
  refine zV (Qc rfl Ql (fun hg=>by exact zB8 hS hy (j:=1) rfl))<|zpb [(0,_)] [Z5 y.n] Vh (fun b_24=>zpa (_) (([y.n]:List Int).flatMap Z5) (L) rfl rfl Vh hO ⟨rfl,fun _=>rfl,by repeat (first | exact zB4 | apply zB3 | apply zB5)⟩ (za5 [y.n]) ?_)
  intro v2 L2 hO2 _;rw [←List.flatMap_append] at hO2;refine zA (Qb (Qk (Qd (Qh<|zM ?_))));refine zB<|zA (Qb ?_)
  exact zm (h:=⟨n-(k+1),kB,k+1,_,_,rfl,rfl,rfl,rfl,kB,by rw [Zs hy,List.map_append];exact hO2,Vo hy hall hc17⟩)
 have hge_k:n≤k:=(by have h:=hc9;simp at h;omega);obtain rfl:n=k:=kB;have hke:ys.take n=ys:=List.take_of_length_le kB;rw [hke] at hO;refine Zk (Qo (Qo (Qz (Qd (Qm<|zx4 hO YL (fun I2 hI2 af2 cf2 ef2 hZ=>?_))))));subst ef2;have hIc:=hIc.trans hI2;refine Qh (zM<|zA<|zA (zN (Qs ?_)));exact Vq rfl rfl rfl (fun w hw=>⟨_,I2,[],rfl,hIc,hw.subL Qq,rfl,_,_,_,_,rfl,.inl ⟨rfl,rfl,hZ,fun j y hy=>hall j y (by have h:=(List.getElem?_eq_some_iff.1 hy).1;omega) hy⟩⟩)
theorem zvN:Fun Tryz.prog 132:=.of Tryz.func132 kA kA
theorem zl2:Fun Tryz.prog 133:=.of Tryz.func133 kA kA
variable{av:Option Addr}
set_option maxRecDepth 100000 in
set_option maxHeartbeats 1600000 in
theorem zkB     (hS:Sl I 1 VY av n c bs) (hb:∀ x∈bs,x<256) (hn:n≤100000):YE Tryz.prog 64 [.slice av n c] I [] (fun v I' L'=>L'=[]∧∃ (cs:List Value) (b:Bool),v= .tuple #[.agg cs.toArray,.bool b]∧zwo bs I' cs b):=by
 intro g H w hw;refine qe Tryz.func64 Tryz.ntmps64 hw ?_;have hIc:=zB6 I;have hbl:=hS.len;refine zR<|Qp U2 rfl rfl (fun b_2=>?_)
 refine zA<|zN (zR ?_)
 refine zM<|zpc [_] rfl zvN .nil (znU hS hb hn) ?_
 rintro vv1 I1 L1 hI1 hq0;have hIc:=hIc.trans hI1;obtain ⟨rfl,cv,e,rfl,hq⟩:=zdr hq0;refine zM ?_;refine zE<|zE<|Qp YG rfl rfl (fun b_4=>?_)
 refine zh Zx<|zA (Qb<|QF .here (fun I2 hI2 hb2=>?_))
 have hq:=hq.mono hI2;have hIc:=hIc.trans hI2;have h4:=BxI.of hb2;refine Qd (Qm (zR (zM<|zC ?_)));refine zM ?_;refine QI 2 rfl rfl rfl ?_;refine zJ (Qa rfl Zh)<|zJ (Qc rfl Ql (fun hg=>by exact Qy.imm h4.out rfl))<|zJ (QA rfl rfl rfl)<|Q9 rfl rfl rfl rfl rfl ?_
 refine zM ?_;refine QI 7 rfl rfl rfl ?_;refine zJ (Qa rfl QO)<|zJ (Qc rfl Zo (fun hg=>by exact Qy.imm h4.out rfl))<|zJ (QT rfl ZN)<|zJ (QA rfl rfl rfl)<|Q9 rfl rfl rfl rfl rfl ?_
 refine zN ?_;refine zI ?_ ?_<;>intro hc29
 ·
  have hno:=zsw hq hc29;refine zR<|zV (QD (ps:=[]) [_,_,_,_,_,_,_,_,_,_,_,_,_,_,_,_,_,_,_,_,_,_,_,_,_,_,_,_,_,_,_,_,_,_,_,_,_,_,_,_,_,_,_,_,_] zc2 rfl rfl) ?_
  refine zh Vk ?_;refine zA (zN (Qs (Qf ?_)));exact Q2 rfl rfl rfl Zc kF rfl (fun w hw=>⟨_,I2,[],rfl,hIc,hw.subL Qq,rfl,_,_,rfl,zcg rfl rfl hno⟩)
 obtain ⟨l,hs,hR⟩:=zoS hq hc29;have hm45:=hR.m;have hcapR:=hR.sl.cap;have hl45:=hR.hlen;have hm42:42≤hs.length:=kB;obtain ⟨u,hu⟩:∃ y,hs[42]? =some y:=⟨_,List.getElem?_eq_getElem kB⟩;obtain ⟨v3,hv⟩:∃ y,hs[43]? =some y:=⟨_,List.getElem?_eq_getElem kB⟩;obtain ⟨w4,hw4⟩:∃ y,hs[44]? =some y:=⟨_,List.getElem?_eq_getElem kB⟩;refine Qr (Qd (zR<|zF QO ?_));refine zV (Qc rfl Zo (fun hg=>by exact Qy.imm h4.out rfl))<|zV (Yw rfl rfl ZN (fun hg=>kB))<|zpc [_] rfl zl2 .nil (zkC (hR.sl.take (k:=42) kB) kC) ?_
 rintro vv3 I3 L3 hI3 ⟨rfl,bI,aI,mI,cI,rfl,hQ4⟩;have h4:=h4.mono hI3;have hR:=hR.mono hI3;have hIc:=hIc.trans hI3;refine zM ?_;refine zE<|zE<|zA<|zA (zN (Qm (zR<|zM<|zO<|zM ?_)))
 refine QI 2 rfl rfl rfl ?_;refine zJ (Qa rfl QO)<|zJ (Qc rfl Zo (fun hg=>by exact Qy.imm h4.out rfl))<|zJ (QG rfl rfl ZN hR.sl (fun hg=>kB))<|zJ (Qa rfl Zh)<|zJ (Qc rfl Ql (fun hg=>by exact zBZ hR.sl hu rfl))<|zJ (QA rfl rfl rfl)<|Q9 rfl rfl rfl rfl rfl ?_
 refine zM ?_;refine QI 10 rfl rfl rfl ?_;refine zJ (Qa rfl QO)<|zJ (Qc rfl Zo (fun hg=>by exact Qy.imm h4.out rfl))<|zJ (QG rfl rfl ZN hR.sl (fun hg=>kB))<|zJ (Qa rfl Zh)<|zJ (Qc rfl Ql (fun hg=>by exact zBZ hR.sl hv rfl))<|zJ (QA rfl rfl rfl)<|Q9 rfl rfl rfl rfl rfl ?_
 refine zM ?_;refine QI 18 rfl rfl rfl ?_;refine zJ (Qa rfl QO)<|zJ (Qc rfl Zo (fun hg=>by exact Qy.imm h4.out rfl))<|zJ (QG rfl rfl ZN hR.sl (fun hg=>kB))<|zJ (Qa rfl Zh)<|zJ (Qc rfl Ql (fun hg=>by exact zBZ hR.sl hw4 rfl))<|zJ (QA rfl rfl rfl)<|Q9 rfl rfl rfl rfl rfl ?_
 refine zN ?_;refine zI ?_ ?_<;>intro hc63
 ·
  have hno:=(zjl hR hQ4 hu hv hw4).1 hc63;refine zR<|zV (QD (ps:=[]) [_,_,_,_,_,_,_,_,_,_,_,_,_,_,_,_,_,_,_,_,_,_,_,_,_,_,_,_,_,_,_,_,_,_,_,_,_,_,_,_,_,_,_,_,_] zc2 rfl rfl) ?_
  refine zh Vk ?_;refine zA (zN (Qs (Qf ?_)));exact Q2 rfl rfl rfl Zc kF rfl (fun w hw=>⟨_,I3,[],rfl,hIc,hw.subL Qq,rfl,_,_,rfl,zcg rfl rfl hno⟩)
 obtain ⟨rfl,rfl,hL,q,qs,hT⟩:=(zjl hR hQ4 hu hv hw4).2 hc63;have hql:=hT.sl.len;have hum:u.m≤100000:=(by have h:=zse hT hb kB;omega);refine Qr (Qd (zR<|zF QO ?_));refine zV (Qc rfl Zo (fun hg=>by exact Qy.imm h4.out rfl))<|zV (QG rfl rfl ZN hR.sl (fun hg=>kB))<|zF QO ?_
 refine zV (Qc rfl Zo (fun hg=>by exact zB8 hR.sl hu (j:=3) rfl))<|zpc [_] rfl zl2 .nil (zkC hT.sl hum) ?_
 rintro vv4 I4 L4 hI4 ⟨rfl,bJ,a8,m8,c8,rfl,hQ7⟩;have h4:=h4.mono hI4;have hR:=hR.mono hI4;have hT:=hT.mono hI4;have hL:=hL.mono hI4;have hIc:=hIc.trans hI4;refine zM ?_;refine zE<|zE<|zA<|zA (zN (Qm (zR<|zM<|zO (zN ?_))))
 refine zI ?_ ?_<;>intro hc75
 ·
  have hno:=(znK hT hQ7).1 (by simpa using hc75);refine zR<|zV (QD (ps:=[]) [_,_,_,_,_,_,_,_,_,_,_,_,_,_,_,_,_,_,_,_,_,_,_,_,_,_,_,_,_,_,_,_,_,_,_,_,_,_,_,_,_,_,_,_,_] zc2 rfl rfl) ?_
  refine zh Vk ?_;refine zA (zN (Qs (Qf ?_)));exact Q2 rfl rfl rfl Zc kF rfl (fun w hw=>⟨_,I4,[],rfl,hIc,hw.subL Qq,rfl,_,_,rfl,zcg rfl rfl hno⟩)
 obtain ⟨rfl,hN8,hall2⟩:=(znK hT hQ7).2 (by simpa using hc75);refine Qr (Qd (zR (zM<|zV (zX Zb hL)<|zV (Qc rfl Ql (fun hg=>Zt hL hm42 0 kC))<|zV (QD (ps:=[(0,_)]) [_,_,_,_,_,_,_,_,_,_,_,_,_,_,_,_,_,_,_,_,_,_,_,_,_,_,_,_,_,_,_,_,_,_,_,_,_,_,_,_,_,_,_,_,_] zc2 rfl rfl)<|Qp U2 rfl rfl (fun b_10=>?_))));refine zh Vk<|zN (Qm ?_)
 have hD:=zB6 I4;refine Zn<|QJ I4 [] mixed<|zT 0 rfl (Qe rfl) hD<|zT 1 rfl (zX Zb hL) hD<|zT 2 rfl (Qc rfl Ql (fun hg=>Zt hL hm42 1 kC)) hD<|zT 3 rfl (Qe rfl) hD<|zT 4 rfl (zX Zb hL) hD<|zT 5 rfl (Qc rfl Ql (fun hg=>Zt hL hm42 2 kC)) hD<|zT 6 rfl (Qe rfl) hD<|zT 7 rfl (zX Zb hL) hD<|zT 8 rfl (Qc rfl Ql (fun hg=>Zt hL hm42 3 kC)) hD<|zT 9 rfl (Qe rfl) hD ?_
 refine zT 10 rfl (zX Zb hL) hD<|zT 11 rfl (Qc rfl Ql (fun hg=>Zt hL hm42 4 kC)) hD<|zT 12 rfl (Qe rfl) hD<|zT 13 rfl (zX Zb hL) hD<|zT 14 rfl (Qc rfl Ql (fun hg=>Zt hL hm42 5 kC)) hD<|zT 15 rfl (Qe rfl) hD<|zT 16 rfl (zX Zb hL) hD<|zT 17 rfl (Qc rfl Ql (fun hg=>Zt hL hm42 6 kC)) hD<|zT 18 rfl (Qe rfl) hD<|zT 19 rfl (zX Zb hL) hD<|zT 20 rfl (Qc rfl Ql (fun hg=>Zt hL hm42 7 kC)) hD<|zT 21 rfl (Qe rfl) hD ?_
 refine zT 22 rfl (zX Zb hL) hD<|zT 23 rfl (Qc rfl Ql (fun hg=>Zt hL hm42 8 kC)) hD<|zT 24 rfl (Qe rfl) hD<|zT 25 rfl (zX Zb hL) hD<|zT 26 rfl (Qc rfl Ql (fun hg=>Zt hL hm42 9 kC)) hD<|zT 27 rfl (QD (ps:=[(0,_),(1,_),(2,_)]) [_,_,_] zcq rfl rfl) hD<|zT 28 rfl (QD (ps:=[(0,_),(1,_),(2,_),(3,_),(4,_),(5,_),(6,_)]) [_,_,_,_,_,_,_,_,_] zda rfl rfl) hD<|zT 29 rfl (Qa rfl Vt) hD<|qd 30 rfl<|Z0 rfl rfl XP rfl rfl rfl rfl (by repeat (first | exact Upd.here | apply Upd.there | apply ZD))<|Qb<|zD hD ?_
 refine Qn kA<|Qv<|Qd (Qm ?_)
 have hD:=zB6 I4;refine Zn<|QJ I4 [] mixed<|zT 0 rfl (Qe rfl) hD<|zT 1 rfl (zX Zb hL) hD<|zT 2 rfl (Qc rfl Ql (fun hg=>Zt hL hm42 14 kC)) hD<|zT 3 rfl (Qe rfl) hD<|zT 4 rfl (zX Zb hL) hD<|zT 5 rfl (Qc rfl Ql (fun hg=>Zt hL hm42 15 kC)) hD<|zT 6 rfl (Qe rfl) hD<|zT 7 rfl (zX Zb hL) hD<|zT 8 rfl (Qc rfl Ql (fun hg=>Zt hL hm42 16 kC)) hD<|zT 9 rfl (Qe rfl) hD ?_
 refine zT 10 rfl (zX Zb hL) hD<|zT 11 rfl (Qc rfl Ql (fun hg=>Zt hL hm42 17 kC)) hD<|zT 12 rfl (Qe rfl) hD<|zT 13 rfl (zX Zb hL) hD<|zT 14 rfl (Qc rfl Ql (fun hg=>Zt hL hm42 18 kC)) hD<|zT 15 rfl (Qe rfl) hD<|zT 16 rfl (zX Zb hL) hD<|zT 17 rfl (Qc rfl Ql (fun hg=>Zt hL hm42 19 kC)) hD<|zT 18 rfl (Qe rfl) hD<|zT 19 rfl (zX Zb hL) hD<|zT 20 rfl (Qc rfl Ql (fun hg=>Zt hL hm42 20 kC)) hD<|zT 21 rfl (Qe rfl) hD ?_
 refine zT 22 rfl (zX Zb hL) hD<|zT 23 rfl (Qc rfl Ql (fun hg=>Zt hL hm42 21 kC)) hD<|zT 24 rfl (Qe rfl) hD<|zT 25 rfl (zX Zb hL) hD<|zT 26 rfl (Qc rfl Ql (fun hg=>Zt hL hm42 22 kC)) hD<|zT 27 rfl (Qe rfl) hD<|zT 28 rfl (zX Zb hL) hD<|zT 29 rfl (Qc rfl Ql (fun hg=>Zt hL hm42 23 kC)) hD<|zT 30 rfl (Qe rfl) hD<|zT 31 rfl (zX Zb hL) hD<|zT 32 rfl (Qc rfl Ql (fun hg=>Zt hL hm42 24 kC)) hD<|zT 33 rfl (Qe rfl) hD ?_
 refine zT 34 rfl (zX Zb hL) hD<|zT 35 rfl (Qc rfl Ql (fun hg=>Zt hL hm42 25 kC)) hD<|zT 36 rfl (QD (ps:=[(0,_),(1,_)]) [_,_] zdq rfl rfl) hD<|zT 37 rfl (Qe rfl) hD<|zT 38 rfl (zX Zb hL) hD<|zT 39 rfl (Qc rfl Ql (fun hg=>Zt hL hm42 26 kC)) hD<|zT 40 rfl (Qe rfl) hD<|zT 41 rfl (zX Zb hL) hD<|zT 42 rfl (Qc rfl Ql (fun hg=>Zt hL hm42 27 kC)) hD<|zT 43 rfl (QD (ps:=[(0,_),(1,_)]) [_,_] zdq rfl rfl) hD<|zT 44 rfl (QD (ps:=[(0,_),(1,_),(2,_),(3,_),(4,_),(5,_),(6,_),(7,_),(8,_),(9,_),(10,_),(11,_)]) [_,_,_,_,_,_,_,_,_,_,_,_,_,_] XW rfl rfl) hD<|qd 45 rfl ?_
 refine Qp zhH rfl rfl (fun b_11=>Qb<|zD hD<|qd 46 rfl ?_);refine zh Jn ?_;refine Qb<|zD hD<|Qn kA<|Qv<|QF .here (fun I5 hI5 hb5=>?_)
 have h4:=h4.mono hI5;have hR:=hR.mono hI5;have hT:=hT.mono hI5;have hL:=hL.mono hI5;have hN8:=hN8.mono hI5;have hIc:=hIc.trans hI5;have h11:=BxI.of hb5;refine Qd (Qm ?_);have hD:=zB6 I5;refine Zn<|QJ I5 [] mixed<|zT 0 rfl (Qe rfl) hD<|zT 1 rfl (zX Zb hL) hD<|zT 2 rfl (Qc rfl Ql (fun hg=>Zt hL hm42 10 kC)) hD<|zT 3 rfl (Qe rfl) hD<|zT 4 rfl (zX Zb hL) hD<|zT 5 rfl (Qc rfl Ql (fun hg=>Zt hL hm42 11 kC)) hD<|zT 6 rfl (Qe rfl) hD<|zT 7 rfl (zX Zb hL) hD<|zT 8 rfl (Qc rfl Ql (fun hg=>Zt hL hm42 12 kC)) hD<|zT 9 rfl (Qe rfl) hD ?_
 refine zT 10 rfl (zX Zb hL) hD<|zT 11 rfl (Qc rfl Ql (fun hg=>Zt hL hm42 13 kC)) hD<|zT 12 rfl (Qg rfl ZP (fun hg=>by exact BxI.cells (vs:=_) h11) rfl) hD<|zT 13 rfl (Qe rfl) hD<|zT 14 rfl (QD (ps:=[(0,_),(1,_),(2,_),(3,_),(4,_),(5,_)]) [_,_,_,_,_,_,_,_,_,_,_,_,_,_,_,_,_,_,_] zrQ rfl rfl) hD<|zT 15 rfl (Qa rfl YA) hD<|qd 16 rfl<|Z0 rfl rfl U0 rfl rfl rfl rfl (by repeat (first | exact Upd.here | apply Upd.there | apply ZD))<|Qb<|zD hD<|Qn kA<|Qv ?_
 refine Qd (Qm ?_);have hD:=zB6 I5;refine Zn<|QJ I5 [] mixed<|zT 0 rfl (Qe rfl) hD<|zT 1 rfl (zX Zb hL) hD<|zT 2 rfl (Qc rfl Ql (fun hg=>Zt hL hm42 28 kC)) hD<|zT 3 rfl (Qe rfl) hD<|zT 4 rfl (zX Zb hL) hD<|zT 5 rfl (Qc rfl Ql (fun hg=>Zt hL hm42 29 kC)) hD<|zT 6 rfl (Qe rfl) hD<|zT 7 rfl (zX Zb hL) hD<|zT 8 rfl (Qc rfl Ql (fun hg=>Zt hL hm42 30 kC)) hD<|zT 9 rfl (Qe rfl) hD ?_
 refine zT 10 rfl (zX Zb hL) hD<|zT 11 rfl (Qc rfl Ql (fun hg=>Zt hL hm42 31 kC)) hD<|zT 12 rfl (Qe rfl) hD<|zT 13 rfl (zX Zb hL) hD<|zT 14 rfl (Qc rfl Ql (fun hg=>Zt hL hm42 32 kC)) hD<|zT 15 rfl (QD (ps:=[(0,_),(1,_),(2,_),(3,_),(4,_)]) [_,_,_,_,_] ziW rfl rfl) hD<|zT 16 rfl (Qa rfl V9) hD<|qd 17 rfl<|Z0 rfl rfl zaX rfl rfl rfl rfl (by repeat (first | exact Upd.here | apply Upd.there | apply ZD))<|Qb<|zD hD<|Qn kA ?_
 refine Qv<|Qd (Qm ?_)
 have hD:=zB6 I5;refine Zn<|QJ I5 [] mixed<|zT 0 rfl (Qe rfl) hD<|zT 1 rfl (zX Zb hL) hD<|zT 2 rfl (Qc rfl Ql (fun hg=>Zt hL hm42 33 kC)) hD<|zT 3 rfl (Qe rfl) hD<|zT 4 rfl (zX Zb hL) hD<|zT 5 rfl (Qc rfl Ql (fun hg=>Zt hL hm42 34 kC)) hD<|zT 6 rfl (Qe rfl) hD<|zT 7 rfl (zX Zb hL) hD<|zT 8 rfl (Qc rfl Ql (fun hg=>Zt hL hm42 35 kC)) hD<|zT 9 rfl (Qe rfl) hD ?_
 refine zT 10 rfl (zX Zb hL) hD<|zT 11 rfl (Qc rfl Ql (fun hg=>Zt hL hm42 36 kC)) hD<|zT 12 rfl (Qe rfl) hD<|zT 13 rfl (zX Zb hL) hD<|zT 14 rfl (Qc rfl Ql (fun hg=>Zt hL hm42 37 kC)) hD<|zT 15 rfl (Qe rfl) hD<|zT 16 rfl (zX Zb hL) hD<|zT 17 rfl (Qc rfl Ql (fun hg=>Zt hL hm42 38 kC)) hD<|zT 18 rfl (Qe rfl) hD<|zT 19 rfl (zX Zb hL) hD<|zT 20 rfl (Qc rfl Ql (fun hg=>Zt hL hm42 39 kC)) hD<|zT 21 rfl (Qe rfl) hD ?_
 refine zT 22 rfl (zX Zb hL) hD<|zT 23 rfl (Qc rfl Ql (fun hg=>Zt hL hm42 40 kC)) hD<|zT 24 rfl (Qe rfl) hD<|zT 25 rfl (zX Zb hL) hD<|zT 26 rfl (Qc rfl Ql (fun hg=>Zt hL hm42 41 kC)) hD<|zT 27 rfl (Qa rfl QO) hD<|zT 28 rfl (Qc rfl Zo (fun hg=>by exact Qy.imm h4.out rfl)) hD<|zT 29 rfl (QG rfl rfl ZN hR.sl (fun hg=>kB)) hD<|zT 30 rfl (Qa rfl Yv) hD<|zT 31 rfl (Qc rfl VZ (fun hg=>by exact zB8 hR.sl hv (j:=2) rfl)) hD<|zT 32 rfl (Qa rfl QO) hD<|zT 33 rfl (Qc rfl Zo (fun hg=>by exact Qy.imm h4.out rfl)) hD ?_
 refine zT 34 rfl (QG rfl rfl ZN hR.sl (fun hg=>kB)) hD<|zT 35 rfl (Qa rfl Yv) hD<|zT 36 rfl (Qc rfl VZ (fun hg=>by exact zB8 hR.sl hw4 (j:=2) rfl)) hD<|zT 37 rfl (QD (ps:=[(0,_),(1,_),(2,_),(3,_),(4,_),(5,_),(8,_),(9,_),(10,_),(6,_),(7,_)]) [_,_,_,_,_,_,_,_,_,_,_] WT rfl rfl) hD<|zT 38 rfl (Qa rfl YB) hD<|qd 39 rfl<|Z0 rfl rfl Uq rfl rfl rfl rfl (by repeat (first | exact Upd.here | apply Upd.there | apply ZD))<|Qb<|zD hD<|Qn kA<|Qv<|Qd (Qm ?_)
 refine zaD (loc':=[(b_10,.cells (Zf (Uv (zdf hs 42) a8 u.m c8 (qs.map (·.n)) v3.s w4.s)).toArray 45 (0,0)),(b_2,.cells (Zf zcy).toArray 45 (0,0))]) kW<|QF .here (fun I6 hI6 hb6=>?_)
 have hT:=hT.mono hI6;have hN8:=hN8.mono hI6;have hIc:=hIc.trans hI6;have h10:=BxI.of hb6;have hF:=zs3 (a:=a8) (c:=c8) hT hall2 hT.sl.len;have hNd2:Nd I6 (Uv (zdf hs 42) a8 u.m c8 (qs.map (·.n)) v3.s w4.s).pt:=hN8;have hW2:=zBM hT hb kB hall2 a8 u.m c8;have hD:=zB6 I6;refine Zn<|QJ I6 [] mixed<|zT 0 rfl (Qg rfl Zc (fun hg=>by exact BxI.cells (vs:=Zf (Uv (zdf hs 42) a8 u.m c8 (qs.map (·.n)) v3.s w4.s)) h10) rfl) hD<|zT 1 rfl (Qg rfl Zc (fun hg=>by exact BxI.cells (vs:=Zf (Uv (zdf hs 42) a8 u.m c8 (qs.map (·.n)) v3.s w4.s)) h10) rfl) hD<|qd 2 rfl<|qcV (vs:=[_]) rfl zfx (Wg _ hNd2 hW2)<|Qb<|zD hD<|qd 3 rfl ?_
 refine zh Vk ?_;exact Qb<|zD hD<|zT 4 rfl (QB rfl) hD<|Qn kA<|Qv<|Qd (Qs<|Q2 rfl rfl rfl Zc kF rfl (fun w hw=>⟨_,I6,[],rfl,hIc,hw.subL Qq,rfl,_,_,rfl,znm hF hNd2⟩))
theorem zsX:Fun Tryz.prog 64:=.of Tryz.func64 kA kA
def zhg (a:Int):Bool:=decide (a≥0)&&decide (a<24)
theorem zy9 (x:Pk):(((zhg x.frm&&zhg x.to_)&&(x.frm != x.to_))&&decide ((x.n:Int)≤1048576))=pkV x:=by
 unfold pkV lkV zhg zk8 zcU;rw [Bool.eq_iff_iff];simp only [Bool.and_eq_true,decide_eq_true_eq,bne_iff_ne];split<;>split<;>omega
theorem zsm (x:Int×Int):((!zhg x.1|| !zhg x.2)||decide (x.1≥x.2))= !lkV x.1 x.2:=by
 unfold lkV zhg;rw [Bool.eq_iff_iff];simp only [Bool.or_eq_true,decide_eq_true_eq,Bool.not_eq_true',Bool.and_eq_false_iff,decide_eq_false_iff_not];omega
theorem zus (x y:Int×Int):decide (K6 [y.1,y.2] [x.1,x.2]≥0)=(decide (x.1<y.1)||(x.1==y.1&&decide (x.2≤y.2))):=by
 rw [Bool.eq_iff_iff];simp only [Bool.or_eq_true,Bool.and_eq_true,decide_eq_true_eq,beq_iff_eq];unfold K6 K6 K6 zga
 repeat' split
 all_goals omega
variable{xs:List (Int×Int)}{x:Int×Int}
theorem zdP {y:Int×Int}(h:lkV x.1 x.2=true)(hk:0<k)(hy:xs[((k:Int)-1).toNat]? =some y):zcX (xs.take k) x=(decide (x.1<y.1)||(x.1==y.1&&decide (x.2≤y.2))):=by rw [zcx h hk hy,zus]
variable{α:Type}{P:α→Bool}
theorem zlT {xs:List α}{x:α}(hx:xs[k]? =some x)(h:P x=true):xs.any P=true:=List.any_eq_true.2 ⟨x,List.mem_of_getElem? hx,h⟩
theorem zsB (v y:Int×Int):(y.1==v.1&&y.2==v.2)=zt9 v y:=by
 unfold zt9;rw [Bool.eq_iff_iff];simp only [Bool.and_eq_true,beq_iff_eq];exact ⟨fun h=>⟨h.1.symm,h.2.symm⟩,fun h=>⟨h.1.symm,h.2.symm⟩⟩
variable{ks:List (Int×Int)}{an:Nat}
theorem zxF (hl:ks.length=an)(hk:k≤an):k=0∨(0<k∧∃ y,ks[((k:Int)-1).toNat]? =some y∧decide (x.1<y.1)=true)∨(0<k∧∃ y,ks[((k:Int)-1).toNat]? =some y∧decide (x.1<y.1)=false∧(x.1==y.1)=true)∨(0<k∧∃ y,ks[((k:Int)-1).toNat]? =some y∧decide (x.1<y.1)=false∧(x.1==y.1)=false):=by
 rcases Nat.eq_zero_or_pos k with h | h
 ·
  exact .inl h
 ·
  obtain ⟨y,hy⟩:∃ y,ks[((k:Int)-1).toNat]? =some y:=⟨_,List.getElem?_eq_getElem kB⟩
  cases h1:decide (x.1<y.1) with
  | true=>exact .inr (.inl ⟨h,y,hy,h1⟩)
  | false=>
   cases h2:x.1==y.1 with
   | true=>exact .inr (.inr (.inl ⟨h,y,hy,h1,h2⟩))
   | false=>exact .inr (.inr (.inr ⟨h,y,hy,h1,h2⟩))
theorem zon:Fun Tryz.prog 130:=.of Tryz.func130 kA kA
theorem zd1:Fun Tryz.prog 131:=.of Tryz.func131 kA kA
theorem zig (I:Qu)(a:Int):ZJ Tryz.prog 131 [.int .i64 a] I (.bool (zhg a)):=by
 intro g H w hw;refine qe Tryz.func131 Tryz.ntmps131 hw ?_;refine zR (zA<|zN (zR ?_));refine zM<|zC ?_
 refine zM<|Qt 2 rfl rfl rfl ?_
 refine zK (Qe rfl) ?_;refine zK (QA rfl rfl rfl) ?_;refine QE rfl rfl rfl rfl rfl<|zA (zN (Qs ?_))
 exact Qx rfl rfl (fun w hw=>⟨by rfl,hw⟩)
theorem ziV (I:Qu)(x:Pk):ZJ Tryz.prog 130 [KW x] I (.bool (pkV x)):=by
 intro g H w hw;refine qe Tryz.func130 Tryz.ntmps130 hw ?_;have hIc:=zB6 I;refine zR<|QK rfl rfl rfl (fun b_1=>zA (Qb<|QF .here (fun I1 hI1 hb1=>?_)))
 have hIc:=hIc.trans hI1;have h1:=BxI.of hb1;refine Qd (zR<|zF Jw ?_);refine zV (Qc rfl Ql (fun hg=>by exact Qy.imm h1.out rfl))<|qcV (vs:=[_]) rfl zd1 (zig _ _)<|zM<|Qt 3 rfl rfl rfl ?_
 refine zK (Qa rfl VO) ?_;refine zK (Qc rfl Ql (fun hg=>by exact Qy.imm h1.out rfl))<|qg (vs:=[_]) rfl zd1 (fun hg=>zig _ _)<|QE rfl rfl rfl rfl rfl<|zM<|Qt 8 rfl rfl rfl ?_
 refine zK (Qa rfl Jw) ?_;refine zK (Qc rfl Ql (fun hg=>by exact Qy.imm h1.out rfl))<|zK (Qa rfl VO) ?_
 refine zK (Qc rfl Ql (fun hg=>by exact Qy.imm h1.out rfl)) ?_;refine zK (QA rfl rfl rfl) ?_;refine QE rfl rfl rfl rfl rfl<|zM<|Qt 15 rfl rfl rfl ?_
 refine zK (Qa rfl JR) ?_;refine zK (Qc rfl V5 (fun hg=>by exact Qy.imm h1.out rfl)) ?_;refine zK (QT rfl Kc) ?_;refine zK (QA rfl rfl rfl) ?_;refine QE rfl rfl rfl rfl rfl<|zA (zN (Qs ?_))
 exact Qx rfl rfl (fun w hw=>⟨by rw [←zy9],(hw.mono hIc).subL Qq⟩)
variable{qa aa:Option Addr}{qn qc ac:Nat}{qs:List Pk}
theorem zia (hQ:Sl I 3 Q6 qa qn qc qs)(hqn:qn≤100000)(hA:Sl I 2 VI aa an ac ks)(han:an≤100000):ZJ Tryz.prog 63 [.agg #[.slice qa qn qc,.slice aa an ac]] I (.int .i64 (Ud qs ks)):=by
 intro g H w hw;refine qe Tryz.func63 Tryz.ntmps63 hw ?_;have hIc:=zB6 I;have hlq:=hQ.len;have hla:=hA.len;refine zR<|QK rfl rfl rfl (fun b_1=>zA (Qb<|QF .here (fun I1 hI1 hb1=>?_)))
 have hQ:=hQ.mono hI1;have hA:=hA.mono hI1;have hIc:=hIc.trans hI1;have h1:=BxI.of hb1;refine Qd (Qm (zR<|zF QP ?_));refine zV (Qc rfl Q5 (fun hg=>by exact Qy.imm h1.out rfl))<|zQ Q0<|zC (zN ?_)
 refine zI ?_ ?_<;>intro hc9
 ·
  have hbg:(decide ((qs.length:Int)>4096)||qs.any (fun x=> !pkV x))=true:=(by rw [hlq,hc9];rfl);exact zR (zA (zN (Qs (Qf<|Qx rfl rfl (fun w hw=>⟨by rw [zdK hbg],(hw.mono hIc).subL Qq⟩)))))
 refine Qr (Qd (Qm (zR (zA (zN (Qw<|zU [(1,_)] (fun T L0 mz E I' loc'=>∃ (k:Nat),mz=qn-k∧E=(3,.int .i64 k)::T∧I1=I'∧L0=loc'∧k≤qn∧(qs.take k).any (fun x=> !pkV x)=false) ?_ (h:=⟨0,rfl,rfl,rfl,rfl,Nat.zero_le _,rfl⟩)))))));rintro mz E I' loc' ⟨k,rfl,rfl,rfl,rfl,hk,hno⟩;refine Qm (zR (zM<|zF QP ?_));refine zV (Qc rfl Q5 (fun hg=>by exact Qy.imm h1.out rfl))<|zQ Q0<|zC (zN ?_)
 refine zI ?_ ?_<;>intro hc14
 ·
  have hlt_k:k<qn:=(by have h:=hc14;simp at h;omega);obtain ⟨x,hx⟩:∃ x,qs[k]? =some x:=⟨_,List.getElem?_eq_getElem kB⟩;refine Qr (Qd (Qm (Qw (zR<|zF QP ?_))));refine zV (Qc rfl Q5 (fun hg=>by exact Qy.imm h1.out rfl)) ?_;refine zM ?_;refine zV (zX Q0 hQ) ?_;refine zV (Qg rfl YO (fun hg=>by exact zB7 hQ hx) rfl)<|qcV (vs:=[_]) rfl zon (ziV _ x)<|zO (zN ?_)
  refine zI ?_ ?_<;>intro hc23
  ·
   have hbg:(decide ((qs.length:Int)>4096)||qs.any (fun x=> !pkV x))=true:=(by rw [zlT hx hc23];simp);exact zR (zA (zN (Qs (Qi (Qf (Qf (Qi<|Qf<|Qx rfl rfl (fun w hw=>⟨by rw [zdK hbg],(hw.mono hIc).subL Qq⟩))))))))
  refine Qr (Qk (Qd (Qh (zM ?_))));exact zB<|zA (Qb<|zm (h:=⟨qn-(k+1),kB,k+1,rfl,rfl,rfl,rfl,kB,U1 hx hno hc23⟩))
 have hge_k:qn≤k:=(by have h:=hc14;simp at h;omega);rw [ZR hlq hge_k] at hno;have h13:(decide ((qs.length:Int)>4096)||qs.any (fun x=> !pkV x))=false:=(by rw [hno,hlq,hc9];rfl);refine Zk (Qo (Qo (Qz (Qd (Qm (zR (zA<|zN (Qw<|zU [(1,_)] (fun T L0 mz E I' loc'=>∃ (k:Nat),mz=an-k∧E=(4,.int .i64 k)::T∧HLe I1 I'∧L0=loc'∧k≤an∧(∀ j y,j<k→ks[j]? =some y→zcX (ks.take j) y=false)) ?_ (h:=⟨0,rfl,rfl,zB6 _,rfl,Nat.zero_le _,fun j y h=>absurd h (Nat.not_lt_zero _)⟩)))))))));rintro mz E J3 loc' ⟨k,rfl,rfl,hJ,rfl,hk,hall⟩;have hA:=hA.mono hJ;have h1:=h1.mono hJ;have hIc:=hIc.trans hJ;have hB2:=hJ;refine Qm (zR (zM<|zF Yx ?_));refine zV (Qc rfl Jj (fun hg=>by exact Qy.imm h1.out rfl))<|zQ VX<|zC (zN ?_)
 refine zI ?_ ?_<;>intro hc28
 ·
  have hlt_k:k<an:=(by have h:=hc28;simp at h;omega);obtain ⟨x,hx⟩:∃ x,ks[k]? =some x:=⟨_,List.getElem?_eq_getElem kB⟩;refine Qr (Qd (Qm (Qw (zR<|zF Yx ?_))));refine zV (Qc rfl Jj (fun hg=>by exact Qy.imm h1.out rfl)) ?_;refine zM ?_;refine zV (zX VX hA) ?_;refine zV (Qg rfl Ub (fun hg=>by exact zB7 hA hx) rfl)<|Qp zsz rfl rfl (fun b_5=>?_)
  refine zh zle ?_;refine Qb<|QF .here (fun I4 hI4 hb4=>?_)
  have hA:=hA.mono hI4;have h1:=h1.mono hI4;have hIc:=hIc.trans hI4;have hB2:=hB2.trans hI4;have h5:=BxI.of hb4;refine Qd (Qm (zR<|zV (Q8 rfl rfl Vf (fun hg=>by decide))<|zV (Qc rfl Ql (fun hg=>by exact Qy.imm h5.out rfl))<|qcV (vs:=[_]) rfl zd1 (zig _ _)<|zO<|zM ?_));refine QI 4 rfl rfl rfl<|zJ (Q8 rfl rfl Vf (fun hg=>by decide))<|zJ (Qc rfl Ql (fun hg=>by exact Qy.imm h5.out rfl))<|qf (vs:=[_]) rfl zd1 (fun hg=>zig _ _)<|zJ (ZB rfl)<|Q9 rfl rfl rfl rfl rfl ?_
  refine zM ?_;refine QI 10 rfl rfl rfl<|zJ (Q8 rfl rfl Vf (fun hg=>by decide))<|zJ (Qc rfl Ql (fun hg=>by exact Qy.imm h5.out rfl))<|zJ (Q8 rfl rfl Vf (fun hg=>by decide))<|zJ (Qc rfl Ql (fun hg=>by exact Qy.imm h5.out rfl))<|zJ (QA rfl rfl rfl)<|Q9 rfl rfl rfl rfl rfl ?_
  refine zN ?_;refine zI ?_ ?_<;>intro hc52
  ·
   have hf:lkV x.1 x.2=false:=(Bool.not_eq_true' _).mp ((zsm x).symm.trans hc52);exact zR (zA (zN (Qs (Qf (Qi (Qf (Qf<|Qi (Qf<|Qx rfl rfl (fun w hw=>⟨by rw [Xv h13 hx (zgc hf)],(hw.mono hIc).subL Qq⟩)))))))))
  have hf:lkV x.1 x.2=true:=(Bool.not_eq_false' _).mp ((zsm x).symm.trans hc52);refine Qr (Qd (Qm ?_));rcases (show k=0∨(0<k∧∃ y,ks[((k:Int)-1).toNat]? =some y∧decide (x.1<y.1)=true)∨(0<k∧∃ y,ks[((k:Int)-1).toNat]? =some y∧decide (x.1<y.1)=false∧(x.1==y.1)=true)∨(0<k∧∃ y,ks[((k:Int)-1).toNat]? =some y∧decide (x.1<y.1)=false∧(x.1==y.1)=false) from zxF hla kB) with hk | ⟨hk,y,hy,g1⟩ | ⟨hk,y,hy,g1,g2⟩ | ⟨hk,y,hy,g1,g2⟩
  focus
   have hk0:decide ((k:Int)>0)=false:=(by simp;omega);have hD:=zB6 I4;refine Zn<|QJ I4 [] mixed<|zT 0 rfl (Qe rfl) hD<|zT 1 rfl (QA rfl rfl rfl) hD ?_
   rw [hk0];refine zT 2 rfl (Qe rfl) hD ?_;refine zW 3 55 hD ?_;refine zW 4 55 hD ?_;refine zW 5 55 hD ?_;refine zW 6 55 hD ?_;refine zW 7 55 hD ?_;refine zW 8 55 hD ?_;refine zW 9 55 hD ?_;refine zW 10 55 hD ?_;refine zW 11 55 hD ?_;refine zW 12 55 hD ?_;refine zW 13 55 hD ?_;refine zW 14 66 hD ?_;refine zW 15 66 hD ?_;refine zW 16 66 hD ?_;refine zW 17 66 hD ?_;refine zW 18 66 hD ?_;refine zW 19 66 hD ?_;refine zW 20 66 hD ?_;refine zW 21 66 hD ?_;refine zW 22 66 hD ?_;refine zW 23 66 hD ?_;refine zW 24 66 hD ?_;refine zW 25 77 hD ?_;refine zW 26 77 hD ?_;refine zW 27 77 hD ?_;refine zW 28 77 hD ?_;refine zW 29 77 hD ?_;refine zW 30 77 hD ?_;refine zW 31 77 hD ?_;refine zW 32 77 hD ?_;refine zW 33 77 hD ?_;refine zW 34 77 hD ?_;refine zW 35 66 hD ?_;refine zW 36 55 hD<|zT 37 rfl (Ye rfl rfl rfl) hD<|Qn kA<|Qv<|Qd ?_
   refine zI ?_ ?_<;>intro hc90
   ·
    cases hc90
   have hbad:zcX (ks.take k) x=false:=by rw [hk];exact ziz hf
  rotate_left
  ·
   have hk0:decide ((k:Int)>0)=true:=(by simp;omega);have hbr:=zdP hf hk hy;have hD:=zB6 I4;refine Zn<|QJ I4 [] mixed<|zT 0 rfl (Qe rfl) hD<|zT 1 rfl (QA rfl rfl rfl) hD ?_
   rw [hk0];refine zT 2 rfl (Qe rfl) hD<|zw 3 55 rfl (Q8 rfl rfl Vf (fun hg=>by decide)) hD<|zw 4 55 rfl (Qc rfl Ql (fun hg=>by exact Qy.imm h5.out rfl)) hD<|zw 5 55 rfl (Qa rfl Yx) hD<|zw 6 55 rfl (Qc rfl Jj (fun hg=>by exact Qy.imm h1.out rfl)) hD<|zw 7 55 rfl (Qe rfl) hD<|zw 8 55 rfl (Ya rfl rfl rfl (fun hg=>kB)) hD<|zw 9 55 rfl (zX VX hA) hD<|zw 10 55 rfl (Q8 rfl rfl Vf (fun hg=>by decide)) hD<|zw 11 55 rfl (Qc rfl Ql (fun hg=>by exact zBZ hA hy rfl)) hD<|zw 12 55 rfl (QA rfl rfl rfl) hD ?_
   rw [g1];refine zw 13 55 rfl (Qe rfl) hD<|zW 14 66 hD ?_
   refine zW 15 66 hD ?_;refine zW 16 66 hD ?_;refine zW 17 66 hD ?_;refine zW 18 66 hD ?_;refine zW 19 66 hD ?_;refine zW 20 66 hD ?_;refine zW 21 66 hD ?_;refine zW 22 66 hD ?_;refine zW 23 66 hD ?_;refine zW 24 66 hD ?_;refine zW 25 77 hD ?_;refine zW 26 77 hD ?_;refine zW 27 77 hD ?_;refine zW 28 77 hD ?_;refine zW 29 77 hD ?_;refine zW 30 77 hD ?_;refine zW 31 77 hD ?_;refine zW 32 77 hD ?_;refine zW 33 77 hD ?_;refine zW 34 77 hD ?_;refine zW 35 66 hD ?_;refine zw 36 55 rfl (Ye rfl rfl rfl) hD<|zT 37 rfl (QY rfl rfl rfl) hD<|Qn kA<|Qv<|Qd ?_
   refine zI ?_ ?_<;>intro hc90
   ·
    have hbad:zcX (ks.take k) x=true:=(by rw [hbr,g1];rfl);exact zR (zA (zN (Qs (Qi (Qf (Qf (Qi<|Qf<|Qx rfl rfl (fun w hw=>⟨by rw [Xv h13 hx hbad],(hw.mono hIc).subL Qq⟩))))))))
   cases hc90
  focus
   have hk0:decide ((k:Int)>0)=true:=(by simp;omega);have hbr:=zdP hf hk hy;have hD:=zB6 I4;refine Zn<|QJ I4 [] mixed<|zT 0 rfl (Qe rfl) hD<|zT 1 rfl (QA rfl rfl rfl) hD ?_
   rw [hk0];refine zT 2 rfl (Qe rfl) hD<|zw 3 55 rfl (Q8 rfl rfl Vf (fun hg=>by decide)) hD<|zw 4 55 rfl (Qc rfl Ql (fun hg=>by exact Qy.imm h5.out rfl)) hD<|zw 5 55 rfl (Qa rfl Yx) hD<|zw 6 55 rfl (Qc rfl Jj (fun hg=>by exact Qy.imm h1.out rfl)) hD<|zw 7 55 rfl (Qe rfl) hD<|zw 8 55 rfl (Ya rfl rfl rfl (fun hg=>kB)) hD<|zw 9 55 rfl (zX VX hA) hD<|zw 10 55 rfl (Q8 rfl rfl Vf (fun hg=>by decide)) hD<|zw 11 55 rfl (Qc rfl Ql (fun hg=>by exact zBZ hA hy rfl)) hD<|zw 12 55 rfl (QA rfl rfl rfl) hD ?_
   rw [g1];refine zw 13 55 rfl (Qe rfl) hD<|zw 14 66 rfl (Q8 rfl rfl Vf (fun hg=>by decide)) hD<|zw 15 66 rfl (Qc rfl Ql (fun hg=>by exact Qy.imm h5.out rfl)) hD<|zw 16 66 rfl (Qa rfl Yx) hD<|zw 17 66 rfl (Qc rfl Jj (fun hg=>by exact Qy.imm h1.out rfl)) hD<|zw 18 66 rfl (Qe rfl) hD<|zw 19 66 rfl (Ya rfl rfl rfl (fun hg=>kB)) hD<|zw 20 66 rfl (zX VX hA) hD<|zw 21 66 rfl (Q8 rfl rfl Vf (fun hg=>by decide)) hD<|zw 22 66 rfl (Qc rfl Ql (fun hg=>by exact zBZ hA hy rfl)) hD<|zw 23 66 rfl (QA rfl rfl rfl) hD ?_
   rw [g2];refine zw 24 66 rfl (Qe rfl) hD<|zw 25 77 rfl (Q8 rfl rfl Vf (fun hg=>by decide)) hD<|zw 26 77 rfl (Qc rfl Ql (fun hg=>by exact Qy.imm h5.out rfl)) hD<|zw 27 77 rfl (Qa rfl Yx) hD<|zw 28 77 rfl (Qc rfl Jj (fun hg=>by exact Qy.imm h1.out rfl)) hD<|zw 29 77 rfl (Qe rfl) hD<|zw 30 77 rfl (Ya rfl rfl rfl (fun hg=>kB)) hD<|zw 31 77 rfl (zX VX hA) hD<|zw 32 77 rfl (Q8 rfl rfl Vf (fun hg=>by decide)) hD<|zw 33 77 rfl (Qc rfl Ql (fun hg=>by exact zB8 hA hy (j:=1) rfl)) hD<|zw 34 77 rfl (QA rfl rfl rfl) hD<|zw 35 66 rfl (QY rfl rfl rfl) hD ?_
   refine zw 36 55 rfl (QY rfl rfl rfl) hD<|zT 37 rfl (QY rfl rfl rfl) hD<|Qn kA<|Qv<|Qd ?_
   refine zI ?_ ?_<;>intro hc90
   ·
    have hbad:zcX (ks.take k) x=true:=(by rw [hbr,g1,g2];exact hc90);exact zR (zA (zN (Qs (Qi (Qf (Qf (Qi<|Qf<|Qx rfl rfl (fun w hw=>⟨by rw [Xv h13 hx hbad],(hw.mono hIc).subL Qq⟩))))))))
   have hbad:zcX (ks.take k) x=false:=by rw [hbr,g1,g2];exact hc90
  rotate_left
  have hk0:decide ((k:Int)>0)=true:=(by simp;omega);have hbr:=zdP hf hk hy;have hD:=zB6 I4;refine Zn<|QJ I4 [] mixed<|zT 0 rfl (Qe rfl) hD<|zT 1 rfl (QA rfl rfl rfl) hD ?_
  rw [hk0];refine zT 2 rfl (Qe rfl) hD<|zw 3 55 rfl (Q8 rfl rfl Vf (fun hg=>by decide)) hD<|zw 4 55 rfl (Qc rfl Ql (fun hg=>by exact Qy.imm h5.out rfl)) hD<|zw 5 55 rfl (Qa rfl Yx) hD<|zw 6 55 rfl (Qc rfl Jj (fun hg=>by exact Qy.imm h1.out rfl)) hD<|zw 7 55 rfl (Qe rfl) hD<|zw 8 55 rfl (Ya rfl rfl rfl (fun hg=>kB)) hD<|zw 9 55 rfl (zX VX hA) hD<|zw 10 55 rfl (Q8 rfl rfl Vf (fun hg=>by decide)) hD<|zw 11 55 rfl (Qc rfl Ql (fun hg=>by exact zBZ hA hy rfl)) hD<|zw 12 55 rfl (QA rfl rfl rfl) hD ?_
  rw [g1];refine zw 13 55 rfl (Qe rfl) hD<|zw 14 66 rfl (Q8 rfl rfl Vf (fun hg=>by decide)) hD<|zw 15 66 rfl (Qc rfl Ql (fun hg=>by exact Qy.imm h5.out rfl)) hD<|zw 16 66 rfl (Qa rfl Yx) hD<|zw 17 66 rfl (Qc rfl Jj (fun hg=>by exact Qy.imm h1.out rfl)) hD<|zw 18 66 rfl (Qe rfl) hD<|zw 19 66 rfl (Ya rfl rfl rfl (fun hg=>kB)) hD<|zw 20 66 rfl (zX VX hA) hD<|zw 21 66 rfl (Q8 rfl rfl Vf (fun hg=>by decide)) hD<|zw 22 66 rfl (Qc rfl Ql (fun hg=>by exact zBZ hA hy rfl)) hD<|zw 23 66 rfl (QA rfl rfl rfl) hD ?_
  rw [g2];refine zw 24 66 rfl (Qe rfl) hD<|zW 25 77 hD ?_
  refine zW 26 77 hD ?_;refine zW 27 77 hD ?_;refine zW 28 77 hD ?_;refine zW 29 77 hD ?_;refine zW 30 77 hD ?_;refine zW 31 77 hD ?_;refine zW 32 77 hD ?_;refine zW 33 77 hD ?_;refine zW 34 77 hD ?_;refine zw 35 66 rfl (Ye rfl rfl rfl) hD ?_;refine zw 36 55 rfl (QY rfl rfl rfl) hD<|zT 37 rfl (QY rfl rfl rfl) hD<|Qn kA<|Qv<|Qd ?_
  refine zI ?_ ?_<;>intro hc90
  ·
   cases hc90
  have hbad:zcX (ks.take k) x=false:=by rw [hbr,g1,g2];rfl
  all_goals
   refine Qr (Qk (Qd (Qh (zM ?_))));exact zB<|zA (Qb<|zm (h:=⟨an-(k+1),kB,k+1,rfl,rfl,hB2,rfl,kB,Vo hx hall hbad⟩))
 have hge_k:an≤k:=(by have h:=hc28;simp at h;omega);refine Zk (Qo (Qo (Qz (Qd (zR (zA (zN<|Qs ?_)))))));exact Qx rfl rfl (fun w hw=>⟨by rw [zgz h13 (fun j y hj hy=>hall j y kB hy)],(hw.mono hIc).subL Qq⟩)
theorem zid:Fun Tryz.prog 63:=.of Tryz.func63 kA kA
theorem zhr (hQ:Sl I 3 Q6 qa qn qc qs)(hqn:qn≤100000)(hA:Sl I 2 VI aa an ac ks)(han:an≤100000)(i:Int):ZJ Tryz.prog 120 [.agg #[.slice qa qn qc,.slice aa an ac],.int .i64 i] I (.int .i64 (atE qs ks i)):=by
 intro g H w hw;refine qe Tryz.func120 Tryz.ntmps120 hw ?_;have hIc:=zB6 I;have hlq:=hQ.len;refine zR<|QK rfl rfl rfl (fun b_2=>zA (Qb<|QF .here (fun I1 hI1 hb1=>?_)))
 have hQ:=hQ.mono hI1;have hA:=hA.mono hI1;have hIc:=hIc.trans hI1;have h2:=BxI.of hb1;refine Qd (Qm (zR<|zV (Qg rfl Zl (fun hg=>by exact BxI.cells (vs:=[_,_]) h2) rfl)<|qcV (vs:=[_]) rfl zid (zia hQ hqn hA han)<|zC (zN ?_)));refine zI ?_ ?_<;>intro hc7
 ·
  exact zR (zA (zN (Qs (Qf<|Qx rfl rfl (fun w hw=>⟨by rw [(zBh (i:=i) hc7).1],(hw.mono hIc).subL Qq⟩)))))
 refine Qr (Qd (Qm (zR (zM<|zC ?_))));refine zM ?_;refine QI 2 rfl rfl rfl ?_;refine zJ (Qe rfl) ?_;refine zJ (Qa rfl QP) ?_;refine zJ (Qc rfl Q5 (fun hg=>by exact Qy.imm h2.out rfl)) ?_;refine zJ (QT rfl Q0) ?_;refine zJ (QA rfl rfl rfl) ?_;refine Q9 rfl rfl rfl rfl rfl ?_;refine zN ?_;refine zI ?_ ?_<;>intro hc16
 ·
  refine zR (zA (zN (Qs (Qf ?_))));exact Qx rfl rfl (fun w hw=>⟨by rw [(zBb (i:=i) (ks:=ks) hc7 (by rw [hlq];exact hc16)).1],(hw.mono hIc).subL Qq⟩)
 have h18:0≤i∧i<(qn:Int):=(by have h:=hc16;simp at h;omega);obtain ⟨x,hx⟩:∃ y,qs[i.toNat]? =some y:=⟨_,List.getElem?_eq_getElem kB⟩;refine Qr (Qd (zR (zA (zN (Qs ?_)))));exact Qx rfl rfl (fun w hw=>⟨by rw [(zAk (i:=i) (ks:=ks) hc7 (by rw [hlq];exact hc16) hx).1],(hw.mono hIc).subL Qq⟩)
theorem zAm (_hQ:Sl I 3 Q6 qa qn qc qs)(_hqn:qn≤100000)(hA:Sl I 2 VI aa an ac ks)(han:an≤100000)(q:Pk):ZJ Tryz.prog 181 [.agg #[.slice qa qn qc,.slice aa an ac],.int .i64 q.frm,.int .i64 q.to_] I (.bool (zjC ks q)):=by
 intro g H w hw;refine qe Tryz.func181 Tryz.ntmps181 hw ?_;have hIc:=zB6 I;have hla:=hA.len;refine zR<|QK rfl rfl rfl (fun b_3=>zA (Qb<|QF .here (fun I1 hI1 hb1=>?_)))
 have hA:=hA.mono hI1;have hIc:=hIc.trans hI1;have h3:=BxI.of hb1;refine Qd (Qm (zR (zA (zN (Qw<|zU [(1,_),(2,_),(3,_)] (fun T L0 mz E I' loc'=>∃ (k:Nat),mz=an-k∧E=(7,.int .i64 k)::T∧I1=I'∧L0=loc'∧k≤an∧(ks.take k).any (zt9 (zk8 q.frm q.to_,zcU q.frm q.to_))=false) ?_ (h:=⟨0,rfl,rfl,rfl,rfl,Nat.zero_le _,rfl⟩))))));rintro mz E I' loc' ⟨k,rfl,rfl,rfl,rfl,hk,hno⟩;refine Qm (zR (zM<|zF Yx ?_));refine zV (Qc rfl Jj (fun hg=>by exact Qy.imm h3.out rfl))<|zQ VX<|zC (zN ?_)
 refine zI ?_ ?_<;>intro hc12
 ·
  have hlt_k:k<an:=(by have h:=hc12;simp at h;omega);obtain ⟨x,hx⟩:∃ x,ks[k]? =some x:=⟨_,List.getElem?_eq_getElem kB⟩;refine Qr (Qd (Qm (Qw (zR<|zF Yx ?_))));refine zV (Qc rfl Jj (fun hg=>by exact Qy.imm h3.out rfl)) ?_;refine zM ?_;refine zV (zX VX hA)<|zV (Q8 rfl rfl Vf (fun hg=>by decide)) ?_
  refine zV (Qc rfl Ql (fun hg=>by exact zBZ hA hx rfl)) ?_;refine zM ?_;refine zM ?_;refine zV (zrK rfl rfl)<|zC ?_
  refine zM<|Qt 10 rfl rfl rfl ?_
  refine zK (Qa rfl Yx) ?_;refine zK (Qc rfl Jj (fun hg=>by exact Qy.imm h3.out rfl))<|zK (Qe rfl)<|zK (zX VX hA)<|zK (Q8 rfl rfl Vf (fun hg=>by decide))<|zK (Qc rfl Ql (fun hg=>by exact zB8 hA hx (j:=1) rfl))<|zK (Qe rfl) ?_
  refine zK (Qe rfl)<|zK (VG rfl rfl)<|zK (QA rfl rfl rfl) ?_
  refine QE rfl rfl rfl rfl rfl<|zN ?_
  refine zI ?_ ?_<;>intro hc36
  ·
   refine zR (zA (zN (Qs (Qi (Qf (Qf (Qi<|Qf ?_)))))));exact Qx rfl rfl (fun w hw=>⟨by unfold zjC;rw [zlT hx ((zsB (zk8 q.frm q.to_,zcU q.frm q.to_) x).symm.trans hc36)],(hw.mono hIc).subL Qq⟩)
  refine Qr (Qk (Qd (Qh (zM ?_))));exact zB<|zA (Qb<|zm (h:=⟨an-(k+1),kB,k+1,rfl,rfl,rfl,rfl,kB,U1 hx hno ((zsB _ x).symm.trans hc36)⟩))
 have hge_k:an≤k:=(by have h:=hc12;simp at h;omega);rw [ZR hla hge_k] at hno;refine Zk (Qo (Qo (Qz (Qd (zR (zA (zN<|Qs ?_)))))));exact Qx rfl rfl (fun w hw=>⟨by unfold zjC;rw [hno],(hw.mono hIc).subL Qq⟩)
theorem zds:PlT Tryz.prog 26 #[(0,1),(1,1)] (.agg #[(.slice none 0 0),(.slice none 0 0)]):=⟨.of kA,kA,fun w=>kA⟩
variable{j:Nat}
theorem zco (hQ:Sl I 3 Q6 qa qn qc qs)(hqn:qn≤100000)(_hA:Sl I 2 VI aa an ac ks)(_han:an≤100000)(hj:j<qn):YE Tryz.prog 121 [.agg #[.slice qa qn qc,.slice aa an ac],.int .i64 (j:Nat)] I [] (fun v I' L'=>∃ a m c,v= .agg #[.slice a m c,.slice aa an ac]∧m+1=qn∧Sl I' 3 Q6 a m c (qs.eraseIdx j)∧L'=[]):=by
 intro g H w hw;refine qe Tryz.func121 Tryz.ntmps121 hw ?_;have hIc:=zB6 I;have hlq:=hQ.len;have hcq:=hQ.cap;refine zR<|QK rfl rfl rfl (fun b_2=>Qp JC rfl rfl (fun b_4=>zN ?_))
 refine zY [(2,_),(4,_)] (fun T L0 E I' loc'=>∃ (v:Value) (L:Go.Kn.Loc),E=T∧I=I'∧L++[(b_4,.cells #[.slice none 0 0,.slice none 0 0] 26 (0,0)),(b_2,.cells #[v,.slice aa an ac] 26 (0,0))]=loc'∧ZU 99 3 v (qn-1) ((qs.eraseIdx j).flatMap Q6) L) ?_ ?_
 ·
  have hD:=zB6 I;refine Zn<|QJ I [] mixed<|zT 1 rfl (Qa rfl QP) hD<|zT 3 rfl (Qe rfl) hD<|zT 6 rfl (Qa rfl QP) hD<|zT 8 rfl (Qe rfl) hD<|zT 9 rfl (Ya rfl rfl rfl (fun hg=>kB)) hD ?_
  refine VD 0 2 7 rfl rfl rfl kA ?_ ?_ ?_
  focus
   refine zpb [] [] Za (fun b_5=>Qb<|zD hD ?_);refine QU 2 7 rfl rfl kA ?_ ?_
   ·
    refine zL Q5 ?_;refine Qb<|zD hD<|zT 4 rfl (Yw rfl rfl Q0 (fun hg=>kB)) hD ?_
    refine QU 5 7 rfl rfl kA ?_ ?_
    focus
     refine zpa (_) ((qs.take j).flatMap Q6) ([(b_5,_)]) rfl rfl Za ZU.new ((hQ.take (Nat.le_of_lt hj)).src QX) (YN _) ?_;intro v1 L1 hO1 _;rw [List.nil_append] at hO1;refine Qb<|zD hD<|qd 7 rfl<|zV (Qc rfl Q5 (fun hg=>by (repeat (first | exact zB1 rfl | apply zB0 | apply zB2))))<|Qb<|zD hD<|zT 10 rfl (Z9 rfl rfl Q0 (fun hg=>kB)) hD ?_
    rotate_left
    refine zL Q5 ?_;refine Qb<|zD hD<|zT 10 rfl (Z9 rfl rfl Q0 (fun hg=>kB)) hD<|qd 5 rfl<|zpa (_) ((qs.take j).flatMap Q6) ([(b_5,_)]) rfl rfl Za ZU.new ((hQ.take (Nat.le_of_lt hj)).src QX) (YN _) ?_
    intro v1 L1 hO1 _;rw [List.nil_append] at hO1;refine Qb<|zD hD ?_
    all_goals
     refine qd 11 rfl<|zpa (v1) ((qs.drop (j+1)).flatMap Q6) (L1) rfl rfl Za hO1 ((hQ.drop (k:=j+1) kB).src QX) (YN _) ?_
     intro v2 L2 hO2 _;rw [←List.flatMap_append,←List.eraseIdx_eq_take_drop_succ] at hO2;obtain ⟨a2,c2,rfl⟩:=hO2.shape;refine Qb<|zD hD<|zT 12 rfl (Qa rfl QP) hD<|qd 13 rfl ?_
     refine zS Z3 ?_;refine Qb<|zD hD<|Qn kA<|Qv ?_
     exact zm (h:=⟨_,_,rfl,rfl,rfl,by rw [show qn-1=0+j+(qn-(j+1)) by omega];exact hO2⟩)
   refine zL Q5 ?_;refine Qb<|zD hD<|zT 10 rfl (Z9 rfl rfl Q0 (fun hg=>kB)) hD<|qd 2 rfl ?_
   refine zL Q5 ?_;refine Qb<|zD hD<|zT 4 rfl (Yw rfl rfl Q0 (fun hg=>kB)) hD ?_
  rotate_left
  focus
   refine zL Q5 ?_;refine Qb<|zD hD<|zT 4 rfl (Yw rfl rfl Q0 (fun hg=>kB)) hD ?_
   refine QU 0 7 rfl rfl kA ?_ ?_
   ·
    refine zpb [] [] Za (fun b_5=>Qb<|zD hD ?_);refine QU 5 7 rfl rfl kA ?_ ?_
    focus
     refine zpa (_) ((qs.take j).flatMap Q6) ([(b_5,_)]) rfl rfl Za ZU.new ((hQ.take (Nat.le_of_lt hj)).src QX) (YN _) ?_;intro v1 L1 hO1 _;rw [List.nil_append] at hO1;refine Qb<|zD hD<|qd 7 rfl<|zV (Qc rfl Q5 (fun hg=>by (repeat (first | exact zB1 rfl | apply zB0 | apply zB2))))<|Qb<|zD hD<|zT 10 rfl (Z9 rfl rfl Q0 (fun hg=>kB)) hD ?_
    rotate_left
    refine zL Q5 ?_;refine Qb<|zD hD<|zT 10 rfl (Z9 rfl rfl Q0 (fun hg=>kB)) hD<|qd 5 rfl<|zpa (_) ((qs.take j).flatMap Q6) ([(b_5,_)]) rfl rfl Za ZU.new ((hQ.take (Nat.le_of_lt hj)).src QX) (YN _) ?_
    intro v1 L1 hO1 _;rw [List.nil_append] at hO1;refine Qb<|zD hD ?_
    all_goals
     refine qd 11 rfl<|zpa (v1) ((qs.drop (j+1)).flatMap Q6) (L1) rfl rfl Za hO1 ((hQ.drop (k:=j+1) kB).src QX) (YN _) ?_
     intro v2 L2 hO2 _;rw [←List.flatMap_append,←List.eraseIdx_eq_take_drop_succ] at hO2;obtain ⟨a2,c2,rfl⟩:=hO2.shape;refine Qb<|zD hD<|zT 12 rfl (Qa rfl QP) hD<|qd 13 rfl ?_
     refine zS Z3 ?_;refine Qb<|zD hD<|Qn kA<|Qv ?_
     exact zm (h:=⟨_,_,rfl,rfl,rfl,by rw [show qn-1=0+j+(qn-(j+1)) by omega];exact hO2⟩)
   refine zL Q5 ?_;refine Qb<|zD hD<|zT 10 rfl (Z9 rfl rfl Q0 (fun hg=>kB)) hD<|qd 0 rfl<|zpb [] [] Za (fun b_5=>Qb<|zD hD ?_)
  rotate_left
  refine zL Q5 ?_;refine Qb<|zD hD<|zT 10 rfl (Z9 rfl rfl Q0 (fun hg=>kB)) hD ?_
  refine QU 0 2 rfl rfl kA ?_ ?_
  focus
   refine zpb [] [] Za (fun b_5=>Qb<|zD hD<|qd 2 rfl ?_);refine zL Q5 ?_;refine Qb<|zD hD<|zT 4 rfl (Yw rfl rfl Q0 (fun hg=>kB)) hD ?_
  rotate_left
  refine zL Q5 ?_;refine Qb<|zD hD<|zT 4 rfl (Yw rfl rfl Q0 (fun hg=>kB)) hD<|qd 0 rfl<|zpb [] [] Za (fun b_5=>Qb<|zD hD ?_)
  all_goals
   refine qd 5 rfl<|zpa (_) ((qs.take j).flatMap Q6) ([(b_5,_)]) rfl rfl Za ZU.new ((hQ.take (Nat.le_of_lt hj)).src QX) (YN _) ?_
   intro v1 L1 hO1 _;rw [List.nil_append] at hO1;refine Qb<|zD hD<|qd 11 rfl<|zpa (v1) ((qs.drop (j+1)).flatMap Q6) (L1) rfl rfl Za hO1 ((hQ.drop (k:=j+1) kB).src QX) (YN _) ?_
   intro v2 L2 hO2 _;rw [←List.flatMap_append,←List.eraseIdx_eq_take_drop_succ] at hO2;obtain ⟨a2,c2,rfl⟩:=hO2.shape;refine Qb<|zD hD<|zT 12 rfl (Qa rfl QP) hD<|qd 13 rfl ?_
   refine zS Z3 ?_;refine Qb<|zD hD<|Qn kA<|Qv ?_
   exact zm (h:=⟨_,_,rfl,rfl,rfl,by rw [show qn-1=0+j+(qn-(j+1)) by omega];exact hO2⟩)
 rintro E I' loc' ⟨v,L,rfl,rfl,rfl,hO⟩;refine Qm<|zx4 hO QX (fun I2 hI2 af2 cf2 ef2 hZ=>?_)
 subst ef2;have hIc:=hIc.trans hI2;refine Qh<|zV (Qg rfl Zl (fun hg=>by exact Cells.g1) rfl) ?_
 exact zh ZO<|zN (Qs<|ZM rfl rfl Zl zB4 rfl (fun w hw=>⟨_,I2,[],rfl,hIc,hw.subL Qq,_,_,_,rfl,kB,hZ,rfl⟩))
theorem zix (hQ:Sl I 3 Q6 qa qn qc qs)(hqn:qn≤100000)(hA:Sl I 2 VI aa an ac ks)(han:an≤100000)(x:Pk):YE Tryz.prog 122 [.agg #[.slice qa qn qc,.slice aa an ac],KW x] I [] (fun v I' L'=>∃ a m c a2 m2 c2,v= .tuple #[.agg #[.slice a m c,.slice a2 m2 c2],.int .i64 (KH qs ks x)]∧L'=[]∧zdC I' (KH qs ks x) a m c a2 m2 c2 (qs++[x]) aa an ac∧(KH qs ks x=0→m=qn+1)):=by
 intro g H w hw;refine qe Tryz.func122 Tryz.ntmps122 hw ?_;have hIc:=zB6 I;have hlq:=hQ.len;have hcq:=hQ.cap;refine zR<|QK rfl rfl rfl (fun b_2=>QK rfl rfl rfl (fun b_3=>Qp JC rfl rfl (fun b_4=>zA (Qb<|QF (.there .here) (fun I1 hI1 hb1=>?_)))))
 have hQ:=hQ.mono hI1;have hA:=hA.mono hI1;have hIc:=hIc.trans hI1;have h3:=BxI.of hb1;refine Qd (Qm (zR<|zV (Qg rfl Zl (fun hg=>by exact Cells.g1) rfl)<|qcV (vs:=[_]) rfl zid (zia hQ hqn hA han)<|zC ?_));refine zM ?_;refine QI 3 rfl rfl rfl ?_;refine zJ (Qg rfl YO (fun hg=>by exact BxI.cells (vs:=Q6 x) h3) rfl)<|qf (vs:=[_]) rfl zon (fun hg=>ziV _ x) ?_
 refine zJ (ZB rfl)<|Q9 rfl rfl rfl rfl rfl ?_
 refine zN ?_;refine zI ?_ ?_<;>intro hc13
 ·
  have hs1:=zsL hc13;refine zR<|zV (QD (ps:=[]) [_,_] zds rfl rfl) ?_
  refine zh ZO ?_;refine zA (zN (Qs (Qf ?_)))
  first
  | exact Q2 rfl rfl rfl Zl zB4 rfl (fun w hw=>⟨_,I1,[],rfl,hIc,hw.subL Qq,_,_,_,_,_,_,by rw [hs1]<;>rfl,rfl,KK (by rw [hs1];decide),fun h=>by rw [hs1] at h;cases h⟩)
 refine Qr (Qd (Qm (zR<|zF QP ?_)));refine zL Q5<|zQ Q0<|zC (zN ?_)
 refine zI ?_ ?_<;>intro hc18
 ·
  have hs2:=zst hc13 (by rw [hlq];exact hc18);refine zR<|zV (QD (ps:=[]) [_,_] zds rfl rfl) ?_
  refine zh ZO ?_;refine zA (zN (Qs (Qf ?_)))
  first
  | exact Q2 rfl rfl rfl Zl zB4 rfl (fun w hw=>⟨_,I1,[],rfl,hIc,hw.subL Qq,_,_,_,_,_,_,by rw [hs2]<;>rfl,rfl,KK (by rw [hs2];decide),fun h=>by rw [hs2] at h;cases h⟩)
 have hs3:=ziJ hc13 (by rw [hlq];exact hc18);refine Qr (Qd ?_);refine zY [(2,_),(4,_)] (fun T L0 E I' loc'=>∃ (v:Value) (L:Go.Kn.Loc),E=T∧I1=I'∧L++[(b_4,.cells #[.slice none 0 0,.slice none 0 0] 26 (0,0)),(b_2,.cells #[v,.slice aa an ac] 26 (0,0))]=loc'∧ZU 99 3 v (qn+1) ((qs++[x]).flatMap Q6) L) ?_ ?_
 ·
  have hD:=zB6 I1;refine Zn<|QJ I1 [] mixed<|zT 1 rfl (Qa rfl QP) hD<|zT 4 rfl (Qg rfl YO (fun hg=>by exact BxI.cells (vs:=Q6 x) h3) rfl) hD ?_
  refine VD 0 2 5 rfl rfl rfl kA ?_ ?_ ?_
  focus
   refine zpb [] [] Za (fun b_20=>Qb<|zD hD ?_);refine QU 2 5 rfl rfl kA ?_ ?_
   ·
    refine zL Q5 ?_;refine Qb<|zD hD ?_
    refine QU 3 5 rfl rfl kA ?_ ?_
    focus
     refine zpa (_) (qs.flatMap Q6) ([(b_20,_)]) rfl rfl Za ZU.new (hQ.src QX) (YN _) ?_;intro v1 L1 hO1 _;rw [List.nil_append] at hO1;refine Qb<|zD hD<|qd 5 rfl<|zpb [(0,_)] [Q6 x] Za (fun b_25=>?_)
    rotate_left
    refine zpb [(0,_)] [Q6 x] Za (fun b_25=>Qb<|zD hD<|qd 3 rfl<|zpa (_) (qs.flatMap Q6) ([(b_20,_)]) rfl rfl Za ZU.new (hQ.src QX) (YN _) ?_);intro v1 L1 hO1 _;rw [List.nil_append] at hO1
    all_goals
     refine Qb<|zD hD<|qd 6 rfl<|zpa (v1) ([x].flatMap Q6) (L1) rfl rfl Za hO1 ⟨rfl,fun _=>rfl,by repeat (first | exact zB4 | apply zB3 | apply zB5)⟩ (YN [x]) ?_
     intro v2 L2 hO2 _;rw [←List.flatMap_append] at hO2;obtain ⟨a2,c2,rfl⟩:=hO2.shape;refine Qb<|zD hD<|zT 7 rfl (Qa rfl QP) hD<|qd 8 rfl ?_
     refine zS Z3 ?_;refine Qb<|zD hD<|Qn kA<|Qv ?_
     exact zm (h:=⟨_,_,rfl,rfl,rfl,by rw [show qn+1=0+qn+1 by omega];exact hO2⟩)
   refine zpb [(0,_)] [Q6 x] Za (fun b_25=>Qb<|zD hD<|qd 2 rfl ?_);refine zL Q5 ?_
  rotate_left
  focus
   refine zL Q5 ?_;refine Qb<|zD hD ?_
   refine QU 0 5 rfl rfl kA ?_ ?_
   ·
    refine zpb [] [] Za (fun b_20=>Qb<|zD hD ?_);refine QU 3 5 rfl rfl kA ?_ ?_
    focus
     refine zpa (_) (qs.flatMap Q6) ([(b_20,_)]) rfl rfl Za ZU.new (hQ.src QX) (YN _) ?_;intro v1 L1 hO1 _;rw [List.nil_append] at hO1;refine Qb<|zD hD<|qd 5 rfl<|zpb [(0,_)] [Q6 x] Za (fun b_25=>?_)
    rotate_left
    refine zpb [(0,_)] [Q6 x] Za (fun b_25=>Qb<|zD hD<|qd 3 rfl<|zpa (_) (qs.flatMap Q6) ([(b_20,_)]) rfl rfl Za ZU.new (hQ.src QX) (YN _) ?_);intro v1 L1 hO1 _;rw [List.nil_append] at hO1
    all_goals
     refine Qb<|zD hD<|qd 6 rfl<|zpa (v1) ([x].flatMap Q6) (L1) rfl rfl Za hO1 ⟨rfl,fun _=>rfl,by repeat (first | exact zB4 | apply zB3 | apply zB5)⟩ (YN [x]) ?_
     intro v2 L2 hO2 _;rw [←List.flatMap_append] at hO2;obtain ⟨a2,c2,rfl⟩:=hO2.shape;refine Qb<|zD hD<|zT 7 rfl (Qa rfl QP) hD<|qd 8 rfl ?_
     refine zS Z3 ?_;refine Qb<|zD hD<|Qn kA<|Qv ?_
     exact zm (h:=⟨_,_,rfl,rfl,rfl,by rw [show qn+1=0+qn+1 by omega];exact hO2⟩)
   refine zpb [(0,_)] [Q6 x] Za (fun b_25=>Qb<|zD hD<|qd 0 rfl<|zpb [] [] Za (fun b_20=>?_))
  rotate_left
  refine zpb [(0,_)] [Q6 x] Za (fun b_25=>Qb<|zD hD ?_);refine QU 0 2 rfl rfl kA ?_ ?_
  focus
   refine zpb [] [] Za (fun b_20=>Qb<|zD hD<|qd 2 rfl ?_);refine zL Q5 ?_
  rotate_left
  refine zL Q5 ?_;refine Qb<|zD hD<|qd 0 rfl<|zpb [] [] Za (fun b_20=>?_)
  all_goals
   refine Qb<|zD hD<|qd 3 rfl<|zpa (_) (qs.flatMap Q6) ([(b_20,_)]) rfl rfl Za ZU.new (hQ.src QX) (YN _) ?_
   intro v1 L1 hO1 _;rw [List.nil_append] at hO1;refine Qb<|zD hD<|qd 6 rfl<|zpa (v1) ([x].flatMap Q6) (L1) rfl rfl Za hO1 ⟨rfl,fun _=>rfl,by repeat (first | exact zB4 | apply zB3 | apply zB5)⟩ (YN [x]) ?_
   intro v2 L2 hO2 _;rw [←List.flatMap_append] at hO2;obtain ⟨a2,c2,rfl⟩:=hO2.shape;refine Qb<|zD hD<|zT 7 rfl (Qa rfl QP) hD<|qd 8 rfl ?_
   refine zS Z3 ?_;refine Qb<|zD hD<|Qn kA<|Qv ?_
   exact zm (h:=⟨_,_,rfl,rfl,rfl,by rw [show qn+1=0+qn+1 by omega];exact hO2⟩)
 rintro E I' loc' ⟨v,L,rfl,rfl,rfl,hO⟩;refine Qm<|zx4 hO QX (fun I3 hI3 af3 cf3 ef3 hZ=>?_)
 subst ef3;have hIc:=hIc.trans hI3;refine Qh<|zV (Qg rfl Zl (fun hg=>by exact Cells.g1) rfl) ?_
 refine zh ZO ?_;refine zA (zN (Qs ?_))
 first
 | exact Q2 rfl rfl rfl Zl zB4 rfl (fun w hw=>⟨_,I3,[],rfl,hIc,hw.subL Qq,_,_,_,_,_,_,by rw [hs3]<;>rfl,rfl,Wc hs3 hZ,fun _=>rfl⟩)
theorem zgY:Fun Tryz.prog 120:=.of Tryz.func120 kA kA
theorem zgW:Fun Tryz.prog 121:=.of Tryz.func121 kA kA
theorem zd9:Fun Tryz.prog 122:=.of Tryz.func122 kA kA
theorem ztc:Fun Tryz.prog 181:=.of Tryz.func181 kA kA
theorem zzc (hQ:Sl I 3 Q6 qa qn qc qs)(hqn:qn≤100000)(hA:Sl I 2 VI aa an ac ks)(han:an≤100000)(i:Int):YE Tryz.prog 56 [.agg #[.slice qa qn qc,.slice aa an ac],.int .i64 i] I [] (fun v I' L'=>∃ a m c a2 m2 c2,v= .tuple #[.agg #[.slice a m c,.slice a2 m2 c2],.int .i64 (atE qs ks i)]∧L'=[]∧zdC I' (atE qs ks i) a m c a2 m2 c2 (qs.eraseIdx i.toNat) aa an ac):=by
 intro g H w hw;refine qe Tryz.func56 Tryz.ntmps56 hw ?_;have hIc:=zB6 I;refine zR<|QK rfl rfl rfl (fun b_2=>Qp JC rfl rfl (fun b_4=>zA (Qb<|QF (.there .here) (fun I1 hI1 hb1=>?_))))
 have hQ:=hQ.mono hI1;have hA:=hA.mono hI1;have hIc:=hIc.trans hI1;have h2:=BxI.of hb1;refine Qd (zR<|zV (Qg rfl Zl (fun hg=>by exact BxI.cells (vs:=[_,_]) h2) rfl)<|zM ?_);refine qcV (vs:=[_,_]) rfl zgY (zhr hQ hqn hA han i) ?_;refine zA (zN (Qm (zR<|zM<|zC (zN ?_))));refine zI ?_ ?_<;>intro hc11
 ·
  have he:atE qs ks i≠0:=(by simpa using hc11);refine zR<|zV (QD (ps:=[]) [_,_] zds rfl rfl)<|zM<|zh ZO ?_
  refine zA (zN (Qs (Qf ?_)));exact Q2 rfl rfl rfl Zl zB4 rfl (fun w hw=>⟨_,I1,[],rfl,hIc,hw.subL Qq,_,_,_,_,_,_,rfl,rfl,KK he⟩)
 have he:atE qs ks i=0:=(by simpa using hc11);have hr:0≤i∧i<(qn:Int):=(by have h:=WL he;rw [hQ.len] at h;exact h);obtain ⟨j,rfl⟩:∃ j:Nat,i=(j:Int):=⟨i.toNat,kB⟩;have hj:j<qn:=kB;obtain ⟨x,hx⟩:∃ y,qs[j]? =some y:=⟨_,List.getElem?_eq_getElem (by have:=hQ.len;omega)⟩;have hap:atP qs ks (j:Int)=x:=(by unfold atP;rw [if_pos he,List.getD_eq_getElem?_getD,Int.toNat_natCast,hx];rfl);refine Qr (Qd (zR<|zV (Qg rfl Zl (fun hg=>by exact BxI.cells (vs:=[_,_]) h2) rfl)<|zM<|zpc [_,_] rfl zgW .nil (zco hQ hqn hA han hj) ?_));rintro vv2 I2 L2 hI2 ⟨a4,m4,c4,rfl,hm4,hZ,rfl⟩;have hIc:=hIc.trans hI2;refine zh ZO ?_;refine zA (zN (Qs ?_));exact Q2 rfl rfl rfl Zl zB4 rfl (fun w hw=>⟨_,I2,[],rfl,hIc,hw.subL Qq,_,_,_,_,_,_,by rw [he],rfl,Wc he hZ⟩)
theorem zqy (hQ:Sl I 3 Q6 qa qn qc qs)(hqn:qn≤100000)(hA:Sl I 2 VI aa an ac ks)(han:an≤100000)(i:Int):YE Tryz.prog 57 [.agg #[.slice qa qn qc,.slice aa an ac],.int .i64 i] I [] (fun v I' L'=>∃ a m c a2 m2 c2,v= .tuple #[.agg #[.slice a m c,.slice a2 m2 c2],.int .i64 (UE qs ks i)]∧L'=[]∧zdC I' (UE qs ks i) a m c a2 m2 c2 (qs++[atP qs ks i]) aa an ac):=by
 intro g H w hw;refine qe Tryz.func57 Tryz.ntmps57 hw ?_;have hIc:=zB6 I;refine zR<|QK rfl rfl rfl (fun b_2=>Qp JC rfl rfl (fun b_4=>zA (Qb<|QF (.there .here) (fun I1 hI1 hb1=>?_))))
 have hQ:=hQ.mono hI1;have hA:=hA.mono hI1;have hIc:=hIc.trans hI1;have h2:=BxI.of hb1;refine Qd (zR<|zV (Qg rfl Zl (fun hg=>by exact BxI.cells (vs:=[_,_]) h2) rfl)<|zM ?_);refine qcV (vs:=[_,_]) rfl zgY (zhr hQ hqn hA han i) ?_;refine zA (zN (Qm (zR<|zM<|zC (zN ?_))));refine zI ?_ ?_<;>intro hc11
 ·
  have he:atE qs ks i≠0:=(by simpa using hc11);refine zR<|zV (QD (ps:=[]) [_,_] zds rfl rfl)<|zM<|zh ZO ?_
  refine zA (zN (Qs (Qf ?_)));exact Q2 rfl rfl rfl Zl zB4 rfl (fun w hw=>⟨_,I1,[],rfl,hIc,hw.subL Qq,_,_,_,_,_,_,by rw [show UE qs ks i=atE qs ks i from if_neg he],rfl,KK (by rw [show UE qs ks i=atE qs ks i from if_neg he];exact he)⟩)
 have he:atE qs ks i=0:=(by simpa using hc11);have hr:0≤i∧i<(qn:Int):=(by have h:=WL he;rw [hQ.len] at h;exact h);obtain ⟨j,rfl⟩:∃ j:Nat,i=(j:Int):=⟨i.toNat,kB⟩;have hj:j<qn:=kB;obtain ⟨x,hx⟩:∃ y,qs[j]? =some y:=⟨_,List.getElem?_eq_getElem (by have:=hQ.len;omega)⟩;have hap:atP qs ks (j:Int)=x:=(by unfold atP;rw [if_pos he,List.getD_eq_getElem?_getD,Int.toNat_natCast,hx];rfl);have hre:UE qs ks (j:Int)=KH qs ks x:=(by unfold UE;rw [if_pos he,hap]);refine Qr (Qd (Qm ?_));have hD:=zB6 I1;refine Zn<|QJ I1 [] mixed<|zT 0 rfl (Qg rfl Zl (fun hg=>by exact BxI.cells (vs:=[_,_]) h2) rfl) hD<|zT 1 rfl (Qa rfl QP) hD<|zT 2 rfl (Qc rfl Q5 (fun hg=>by exact Qy.imm h2.out rfl)) hD<|zT 3 rfl (Qe rfl) hD<|zT 4 rfl (zX Q0 hQ) hD<|zT 5 rfl (Qg rfl YO (fun hg=>by exact zB7 hQ hx) rfl) hD<|qd 6 rfl<|zpc [_,_] rfl zd9 .nil (zix hQ hqn hA han x) ?_
 rintro vv2 I2 L2 hI2 ⟨a4,m4,c4,a5,m5,c5,rfl,rfl,hZ,hmZ⟩;have hIc:=hIc.trans hI2;have hD:=hD.trans hI2;refine Qb<|zD hD<|zT 7 rfl (QS rfl rfl) hD<|zT 8 rfl (QS rfl rfl) hD<|qd 9 rfl ?_
 refine zh ZO ?_;refine Qb<|zD hD<|zT 10 rfl (QB rfl) hD<|Qn kA<|Qv<|Qd (Qs ?_)
 exact Q2 rfl rfl rfl Zl zB4 rfl (fun w hw=>⟨_,I2,[],rfl,hIc,hw.subL Qq,_,_,_,_,_,_,by rw [hre]<;>rfl,rfl,by rw [hre,hap];exact hZ⟩)
theorem zow (hQ:Sl I 3 Q6 qa qn qc qs)(hqn:qn≤100000)(hA:Sl I 2 VI aa an ac ks)(han:an≤100000)(i:Int):YE Tryz.prog 119 [.agg #[.slice qa qn qc,.slice aa an ac],.int .i64 i] I [] (fun v I' L'=>∃ pk a m c a2 m2 c2,v= .tuple #[KW pk,.agg #[.slice a m c,.slice a2 m2 c2],.int .i64 (atE qs ks i)]∧L'=[]∧(atE qs ks i=0→pk=VN qs ks i)∧zdC I' (atE qs ks i) a m c a2 m2 c2 (qs.eraseIdx i.toNat) aa an ac):=by
 intro g H w hw;refine qe Tryz.func119 Tryz.ntmps119 hw ?_;have hIc:=zB6 I;refine zR<|QK rfl rfl rfl (fun b_2=>Qp XM rfl rfl (fun b_4=>Qp JC rfl rfl (fun b_5=>zA (Qb<|QF (.there (.there .here)) (fun I1 hI1 hb1=>?_)))))
 have hQ:=hQ.mono hI1;have hA:=hA.mono hI1;have hIc:=hIc.trans hI1;have h2:=BxI.of hb1;refine Qd (zR<|zV (Qg rfl Zl (fun hg=>by exact BxI.cells (vs:=[_,_]) h2) rfl)<|zM ?_);refine qcV (vs:=[_,_]) rfl zgY (zhr hQ hqn hA han i) ?_;refine zA (zN (Qm (zR<|zM<|zC (zN ?_))));refine zI ?_ ?_<;>intro hc13
 ·
  have he:atE qs ks i≠0:=(by simpa using hc13);refine zR<|zV (QD (ps:=[]) [_,_,_] zbP rfl rfl) ?_
  refine zV (QD (ps:=[]) [_,_] zds rfl rfl)<|zM ?_
  refine zh VE ?_;refine zh ZO ?_;exact zA (zN (Qs (Qf<|Ut rfl rfl rfl rfl (.ag YO kF rfl) (.ag Zl kF rfl) (fun w hw=>⟨_,I1,[],rfl,hIc,hw.subL Qq,Wf,_,_,_,_,_,_,rfl,rfl,fun h=>absurd h he,KK he⟩))))
 have he:atE qs ks i=0:=(by simpa using hc13);have hr:0≤i∧i<(qn:Int):=(by have h:=WL he;rw [hQ.len] at h;exact h);obtain ⟨j,rfl⟩:∃ j:Nat,i=(j:Int):=⟨i.toNat,kB⟩;have hj:j<qn:=kB;obtain ⟨x,hx⟩:∃ y,qs[j]? =some y:=⟨_,List.getElem?_eq_getElem (by have:=hQ.len;omega)⟩;have hap:atP qs ks (j:Int)=x:=(by unfold atP;rw [if_pos he,List.getD_eq_getElem?_getD,Int.toNat_natCast,hx];rfl);refine Qr (Qd (zR<|zF QP ?_));refine zV (Qc rfl Q5 (fun hg=>by exact Qy.imm h2.out rfl)) ?_;refine zM ?_;refine zV (zX Q0 hQ) ?_;refine zV (Qg rfl YO (fun hg=>by exact zB7 hQ hx) rfl)<|Qp XM rfl rfl (fun b_8=>?_)
 refine zh VE<|zN (Qm (zR ?_))
 refine zV (Qg rfl Zl (fun hg=>by exact BxI.cells (vs:=[_,_]) h2) rfl)<|zF Jw ?_
 refine zL Ql<|zF VO ?_
 refine zL Ql<|qcV (vs:=[_,_,_]) rfl ztc (zAm hQ hqn hA han x)<|zN ?_
 refine zI ?_ ?_<;>intro hc27
 focus
  have hcut:zjC ks (atP qs ks (j:Int))=true:=(by rw [hap];exact hc27);refine Qh<|zV (QD (ps:=[]) [_,_,_] zbP rfl rfl) ?_
  refine zh VE<|zN (Qm ?_)
  refine zaD (loc':=[(b_8,.cells (Q6 (VN qs ks (j:Int))).toArray 99 (0,0)),(b_5,.cells #[.slice none 0 0,.slice none 0 0] 26 (0,0)),(b_4,.cells (Q6 Wf).toArray 99 (0,0))]) (by (rw [ziO hcut];rfl)) ?_
 rotate_left
 have hcut:zjC ks (atP qs ks (j:Int))=false:=(by rw [hap];exact hc27);refine Qr (Qd (Qm ?_));refine zaD (loc':=[(b_8,.cells (Q6 (VN qs ks (j:Int))).toArray 99 (0,0)),(b_5,.cells #[.slice none 0 0,.slice none 0 0] 26 (0,0)),(b_4,.cells (Q6 Wf).toArray 99 (0,0))]) (by (rw [zkP hcut,hap]<;>rfl)) ?_
 all_goals
  have hD:=zB6 I1;refine Zn<|QJ I1 [(b_8,.cells (Q6 (VN qs ks (j:Int))).toArray 99 (0,0))] mixed<|zT 0 rfl (Qg rfl YO (fun hg=>by exact Cells.g0) rfl) hD<|zT 1 rfl (Qg rfl Zl (fun hg=>by exact BxI.cells (vs:=[_,_]) h2) rfl) hD<|zT 2 rfl (Qe rfl) hD<|qd 3 rfl<|zpc [_,_] rfl zgW .nil (zco hQ hqn hA han hj) ?_
  rintro vv3 I3 L3 hI3 ⟨a4,m4,c4,rfl,hm4,hZ,rfl⟩;have hIc:=hIc.trans hI3;have hD:=hD.trans hI3;refine Qb<|zD hD<|qd 4 rfl ?_
  refine zh VE ?_;refine Qb<|zD hD<|qd 5 rfl ?_
  refine zh ZO ?_;refine Qb<|zD hD<|zT 6 rfl (QB rfl) hD<|Qn kA<|Qv<|Qd (Qs ?_)
  exact Ut rfl rfl rfl rfl (.ag YO kF rfl) (.ag Zl kF rfl) (fun w hw=>⟨_,I3,[],rfl,hIc,hw.subL Qq,VN qs ks (j:Int),_,_,_,_,_,_,by rw [he]<;>rfl,rfl,fun _=>rfl,Wc he hZ⟩)
def zsZ (x:Pe):Bool:=decide ((x.n:Int)>30)
def zwn (q:Pk):Bool:=decide ((q.n:Int)>2000)
def zdi (pn qn an:Nat):Bool:=(decide ((pn:Int)>5)&&decide ((pn:Int)≤24))|| !(decide ((qn:Int)≤40)&&decide ((an:Int)≤40))
def zbI (pn qn an:Nat)(ps:List Pe)(qs:List Pk):Bool:= !zdi pn qn an&& !((ps.take 30).any zsZ)&& !(qs.any zwn)
variable{pn:Nat}{ps:List Pe}
theorem zAx (h:zdi pn qn an=true):zbI pn qn an ps qs=false:=by unfold zbI;rw [h];rfl
theorem zAd {x:Pe}(hx:ps[k]? =some x)(hk:k<30)(h:zsZ x=true):zbI pn qn an ps qs=false:=by
 have e:(ps.take 30).any zsZ=true:=List.any_eq_true.2 ⟨x,List.mem_of_getElem? (i:=k) (by rw [List.getElem?_take_of_lt hk];exact hx),h⟩;unfold zbI;rw [e];simp
theorem zAM {x:Pk}(hx:qs[k]? =some x)(h:zwn x=true):zbI pn qn an ps qs=false:=by
 have e:qs.any zwn=true:=List.any_eq_true.2 ⟨x,List.mem_of_getElem? hx,h⟩;unfold zbI;rw [e];simp
theorem zAZ (h:zdi pn qn an=false)(h1:(ps.take 30).any zsZ=false)(h2:qs.any zwn=false):zbI pn qn an ps qs=true:=by
 unfold zbI;rw [h,h1,h2];rfl
theorem zpQ (h:(ps.take k).any zsZ=false)(hk:k≤30)(hg:pn≤k∨30≤k)(hl:ps.length=pn):(ps.take 30).any zsZ=false:=by
 rcases hg with hg | hg
 ·
  have e:ps.take 30=ps.take k:=(by rw [List.take_of_length_le kB,List.take_of_length_le kB]);rw [e];exact h
 ·
  rw [show (30:Nat)=k by omega];exact h
structure zrz (pn qn an:Nat)(ps:List Pe)(qs:List Pk):Prop where
 p:pn≤5∨24<pn
 q:qn≤40
 k:an≤40
 n:pn≤5→∀ x∈ps,x.n≤30
 d:∀ q∈qs,q.n≤2000
theorem zAQ (hl:ps.length=pn)(h:zbI pn qn an ps qs=true):zrz pn qn an ps qs:=by
 unfold zbI at h;simp only [Bool.and_eq_true,Bool.not_eq_true'] at h;obtain ⟨⟨h1,h2⟩,h3⟩:=h;unfold zdi at h1;simp only [Bool.or_eq_false_iff,Bool.and_eq_false_iff,decide_eq_false_iff_not,Bool.not_eq_false',Bool.and_eq_true,decide_eq_true_eq] at h1;refine ⟨kB,kB,kB,fun hp x hx=>?_,fun q hq=>?_⟩
 ·
  rw [List.take_of_length_le kB,List.any_eq_false] at h2;have:=h2 x hx;unfold zsZ at this;simp only [decide_eq_true_eq] at this;omega
 ·
  rw [List.any_eq_false] at h3;have:=h3 q hq;unfold zwn at this;simp only [decide_eq_true_eq] at this;omega
theorem znt {x:Pk}(h:(okN x.data).isSome=b):((!b||decide (x.frm≥(pn:Int)))||decide (x.to_≥(pn:Int)))=KJ pn x:=by
 unfold KJ zcU;rw [h,Bool.or_assoc];congr 1;rw [Bool.eq_iff_iff];simp only [Bool.or_eq_true,decide_eq_true_eq];split<;>omega
theorem zbc (h:24<pn):zkq pn ps qs ks=570:=zoC (by
 have e:decide ((pn:Int)>24)=true:=by simp;omega
 rw [e,Bool.or_true];rfl)
theorem zxa:Fun Tryz.prog 45:=.of Tryz.func45 kA kA
theorem zsk:Fun Tryz.prog 59:=.of Tryz.func59 kA kA
theorem zwB (_hQ:Sl I 3 Q6 qa qn qc qs)(_hA:Sl I 2 VI aa an ac ks):ZJ Tryz.prog 45 [.agg #[.slice qa qn qc,.slice aa an ac]] I (.bool (decide ((qn:Int)≤40)&&decide ((an:Int)≤40))):=by
 intro g H w hw;refine qe Tryz.func45 Tryz.ntmps45 hw ?_;have hIc:=zB6 I;refine zR<|QK rfl rfl rfl (fun b_1=>zA (Qb<|QF .here (fun I1 hI1 hb1=>?_)))
 have hIc:=hIc.trans hI1;have h1:=BxI.of hb1;refine Qd (zR<|zF QP ?_);refine zV (Qc rfl Q5 (fun hg=>by exact Qy.imm h1.out rfl))<|zQ Q0<|zC ?_
 refine zM<|Qt 4 rfl rfl rfl ?_
 refine zK (Qa rfl Yx) ?_;refine zK (Qc rfl Jj (fun hg=>by exact Qy.imm h1.out rfl)) ?_;refine zK (QT rfl VX) ?_;refine zK (QA rfl rfl rfl) ?_;refine QE rfl rfl rfl rfl rfl<|zA (zN (Qs ?_))
 exact Qx rfl rfl (fun w hw=>⟨by rfl,(hw.mono hIc).subL Qq⟩)
variable{pa:Option Addr}{pc:Nat}
theorem zAK (hR:RmP I pa pn pc qa qn qc aa an ac ps qs ks):ZJ Tryz.prog 11 [.agg #[.slice pa pn pc,.slice qa qn qc,.slice aa an ac]] I (.bool (zbI pn qn an ps qs)):=by
 intro g H w hw;refine qe Tryz.func11 Tryz.ntmps11 hw ?_;have hIc:=zB6 I;have hlp:=hR.pe.len;have hlq:=hR.q.len;have hcp:=hR.pe.cap;have hcq:=hR.q.cap;refine zR<|QK rfl rfl rfl (fun b_1=>zA (Qb<|QF .here (fun I1 hI1 hb1=>?_)))
 have hR:=hR.mono hI1;have hIc:=hIc.trans hI1;have h1:=BxI.of hb1;refine Qd (Qm (zR<|zF Zp ?_));refine zV (Qc rfl Z6 (fun hg=>by exact Qy.imm h1.out rfl))<|zQ Z4<|zC ?_
 refine zM<|Qt 4 rfl rfl rfl ?_
 refine zK (Qa rfl Zp) ?_;refine zK (Qc rfl Z6 (fun hg=>by exact Qy.imm h1.out rfl)) ?_;refine zK (QT rfl Z4) ?_;refine zK (QA rfl rfl rfl) ?_;refine QE rfl rfl rfl rfl rfl<|zM ?_
 refine QI 10 rfl rfl rfl ?_;refine zJ (Qa rfl ZH)<|zJ (Qg rfl Zl (fun hg=>by exact Cells.part (pre:=[.slice pa pn pc]) (vs:=[.slice qa qn qc,.slice aa an ac]) (post:=[]) (BxI.cells (vs:=[_,_,_]) h1) rfl) rfl)<|qf (vs:=[_]) rfl zxa (fun hg=>zwB hR.q hR.k)<|zJ (ZB rfl)<|Q9 rfl rfl rfl rfl rfl ?_
 refine zN ?_;refine zI ?_ ?_<;>intro hc20
 ·
  have h20:zdi pn qn an=true:=hc20;exact zR (zA (zN (Qs (Qf<|Qx rfl rfl (fun w hw=>⟨by rw [zAx h20],(hw.mono hIc).subL Qq⟩)))))
 have h20:zdi pn qn an=false:=hc20;have hqn:qn≤40:=(by have h:=hc20;simp at h;omega);refine Qr (Qd (Qm (zR (zA (zN (Qw<|zU [(1,_)] (fun T L0 mz E I' loc'=>∃ (k:Nat),mz=pn-k∧E=(3,.int .i64 k)::T∧I1=I'∧L0=loc'∧k≤pn∧(ps.take k).any zsZ=false∧k≤30) ?_ (h:=⟨0,rfl,rfl,rfl,rfl,Nat.zero_le _,rfl,kB⟩)))))));rintro mz E I' loc' ⟨k,rfl,rfl,rfl,rfl,hk,hno,hk30⟩;refine Qm (zR (zM<|zF Zp ?_));refine zV (Qc rfl Z6 (fun hg=>by exact Qy.imm h1.out rfl))<|zQ Z4<|zC ?_
 refine zM<|Qt 5 rfl rfl rfl ?_
 refine zK (Qe rfl) ?_;refine zK (QA rfl rfl rfl) ?_;refine QE rfl rfl rfl rfl rfl<|zN ?_
 refine zI ?_ ?_<;>intro hc29
 ·
  have hlt_k:k<pn∧k<30:=(by have h:=hc29;simp at h;omega);obtain ⟨x,hx⟩:∃ y,ps[k]? =some y:=⟨_,List.getElem?_eq_getElem kB⟩;refine Qr (Qd (Qm (Qw (zR<|zF Zp ?_))));refine zV (Qc rfl Z6 (fun hg=>by exact Qy.imm h1.out rfl)) ?_;refine zM ?_;refine zV (QG rfl rfl Z4 hR.pe (fun hg=>kB))<|zF ZK ?_
  refine zV (Qc rfl Y1 (fun hg=>by exact zBZ hR.pe hx rfl))<|zQ Zj<|zC (zN ?_)
  refine zI ?_ ?_<;>intro hc39
  ·
   exact zR (zA (zN (Qs (Qi (Qf (Qf (Qi<|Qf<|Qx rfl rfl (fun w hw=>⟨by rw [zAd hx hlt_k.2 hc39],(hw.mono hIc).subL Qq⟩))))))))
  refine Qr (Qk (Qd (Qh (zM ?_))));exact zB<|zA (Qb<|zm (h:=⟨pn-(k+1),kB,k+1,rfl,rfl,rfl,rfl,kB,U1 hx hno hc39,kB⟩))
 have hge_k:pn≤k∨30≤k:=(by have h:=hc29;simp at h;omega);have hno1:=zpQ hno hk30 hge_k hlp;refine Zk (Qo (Qo (Qz (Qd (Qm (zR (zA<|zN (Qw<|zU [(1,_)] (fun T L0 mz E I' loc'=>∃ (j:Nat),mz=qn-j∧E=(4,.int .i64 j)::T∧I1=I'∧L0=loc'∧j≤qn∧(qs.take j).any zwn=false) ?_ (h:=⟨0,rfl,rfl,rfl,rfl,Nat.zero_le _,rfl⟩)))))))));rintro mz E I' loc' ⟨j,rfl,rfl,rfl,rfl,hj,hno2⟩;refine Qm (zR (zM<|zF ZH<|zF QP ?_));refine zV (Qc rfl Q5 (fun hg=>by exact Qy.imm h1.out rfl))<|zQ Q0<|zC (zN ?_)
 refine zI ?_ ?_<;>intro hc45
 ·
  have hlt_j:j<qn:=(by have h:=hc45;simp at h;omega);obtain ⟨y,hy⟩:∃ y,qs[j]? =some y:=⟨_,List.getElem?_eq_getElem kB⟩;refine Qr (Qd (Qm (Qw (zR<|zF ZH<|zF QP ?_))));refine zV (Qc rfl Q5 (fun hg=>by exact Qy.imm h1.out rfl)) ?_;refine zM ?_;refine zV (QG rfl rfl Q0 hR.q (fun hg=>kB))<|zF JR ?_
  refine zV (Qc rfl V5 (fun hg=>by exact zB8 hR.q hy (j:=2) rfl))<|zQ Kc<|zC (zN ?_)
  refine zI ?_ ?_<;>intro hc56
  ·
   exact zR (zA (zN (Qs (Qi (Qf (Qf (Qi<|Qf<|Qx rfl rfl (fun w hw=>⟨by rw [zAM hy hc56],(hw.mono hIc).subL Qq⟩))))))))
  refine Qr (Qk (Qd (Qh (zM ?_))));exact zB<|zA (Qb<|zm (h:=⟨qn-(j+1),kB,j+1,rfl,rfl,rfl,rfl,kB,U1 hy hno2 hc56⟩))
 have hge_j:qn≤j:=(by have h:=hc45;simp at h;omega);rw [ZR hlq hge_j] at hno2;refine Zk (Qo (Qo (Qz (Qd (zR (zA (zN<|Qs ?_)))))));exact Qx rfl rfl (fun w hw=>⟨by rw [zAZ h20 hno1 hno2],(hw.mono hIc).subL Qq⟩)
theorem zhK (_hR:RmP I pa pn pc qa qn qc aa an ac ps qs ks)(i:Int):ZJ Tryz.prog 116 [.agg #[.slice pa pn pc,.slice qa qn qc,.slice aa an ac],.int .i64 i] I (.bool (decide (i≥0)&&decide (i<(pn:Int)))):=by
 intro g H w hw;refine qe Tryz.func116 Tryz.ntmps116 hw ?_;have hIc:=zB6 I;refine zR<|QK rfl rfl rfl (fun b_2=>zA (Qb<|QF .here (fun I1 hI1 hb1=>?_)))
 have hIc:=hIc.trans hI1;have h2:=BxI.of hb1;refine Qd (zR (zM<|zC ?_));refine zM<|Qt 2 rfl rfl rfl ?_
 refine zK (Qe rfl)<|zK (Qa rfl Zp) ?_
 refine zK (Qc rfl Z6 (fun hg=>by exact Qy.imm h2.out rfl)) ?_;refine zK (QT rfl Z4) ?_;refine zK (QA rfl rfl rfl) ?_;refine QE rfl rfl rfl rfl rfl<|zA (zN (Qs ?_))
 exact Qx rfl rfl (fun w hw=>⟨by rfl,(hw.mono hIc).subL Qq⟩)
theorem zii (I:Qu):ZJ Tryz.prog 59 [] I (znk):=by
 intro g H w hw;refine qe Tryz.func59 Tryz.ntmps59 hw ?_;refine zR<|Qp JC rfl rfl (fun b_0=>zN (zR<|zV (QD (ps:=[]) [_,_] zds rfl rfl) ?_))
 exact zh ZO<|zN (Qs<|ZM rfl rfl Zl zB4 rfl (fun w hw=>⟨by rfl,hw.drop⟩))
theorem zAY (I:Qu)(n:Int):YE Tryz.prog 15 [.int .i64 n] I [] (fun v I' L'=>I'=I∧(((decide (n<1)||decide (n>24))=true∧L'=[]∧v= .tuple #[.agg #[.slice none 0 0,.slice none 0 0,.slice none 0 0],.int .i64 1])∨((decide (n<1)||decide (n>24))=false∧∃ b,L'=[(b,.cells (List.replicate n.toNat (Value.slice none 0 0)).toArray 59 (0,0))]∧v= .tuple #[.agg #[.slice (some ⟨b,0,none⟩) n.toNat n.toNat,.slice none 0 0,.slice none 0 0],.int .i64 0]))):=by
 intro g H w hw;refine qe Tryz.func15 Tryz.ntmps15 hw ?_;refine zR<|Qp JY rfl rfl (fun b_2=>?_)
 refine zA (zN (Qm (zR<|zM<|zC ?_)));refine zM ?_;refine QI 2 rfl rfl rfl ?_;refine zJ (Qe rfl) ?_;refine zJ (QA rfl rfl rfl)<|Q9 rfl rfl rfl rfl rfl ?_
 refine zN ?_;refine zI ?_ ?_<;>intro hc9
 ·
  refine zR<|zV (QD (ps:=[]) [_,_,_] KT rfl rfl) ?_
  refine zh ZX ?_;refine zA (zN (Qs (Qf ?_)));exact Q2 rfl rfl rfl Zu .here rfl (fun w hw=>⟨_,I,_,rfl,zB6 _,hw.drop,rfl,.inl ⟨hc9,rfl,rfl⟩⟩)
 have h9:1≤n∧n≤24:=(by have h:=hc9;simp at h;omega);refine Qr (Qd (Qm ?_));have hD:=zB6 I;refine Zn<|QJ I [] mixed<|zT 0 rfl (Qe rfl) hD ?_
 refine QU 1 2 rfl rfl kA ?_ ?_
 focus
  refine Kx ziA rfl rfl kB kC rfl rfl (fun b_12=>Qb<|zD hD<|qd 2 rfl<|qcV (vs:=[]) rfl zsk (zii _) ?_)
 rotate_left
 refine qcV (vs:=[]) rfl zsk (zii _)<|Qb<|zD hD<|qd 1 rfl<|Kx ziA rfl rfl kB kC rfl rfl (fun b_12=>?_)
 all_goals
  refine Qb<|zD hD<|zT 3 rfl (QD (ps:=[(0,_),(1,_)]) [_,_,_] KT rfl rfl) hD<|qd 4 rfl ?_
  refine zh ZX ?_;exact Qb<|zD hD<|zT 5 rfl (QB rfl) hD<|Qn kA<|Qv<|Qd (Qs<|Q2 rfl rfl rfl Zu (.there .here) rfl (fun w hw=>⟨_,I,_,rfl,zB6 _,hw.subL (.keep (.drop .refl)),rfl,.inr ⟨hc9,_,rfl,rfl⟩⟩))
theorem zfI (hR:RmP I pa pn pc qa qn qc aa an ac ps qs ks)(hb:24<pn)(hqn:qn≤100000)(han:an≤100000):YE Tryz.prog 16 [.agg #[.slice pa pn pc,.slice qa qn qc,.slice aa an ac]] I [] (fun v _I' L'=>L'=[]∧v= .int .i64 (WQ (YD ps qs ks))):=by
 intro g H w hw;refine qe Tryz.func16 Tryz.ntmps16 hw ?_;have hIc:=zB6 I;have h24:decide ((pn:Int)>24)=true:=(by simp;omega);refine zR<|QK rfl rfl rfl (fun b_1=>zA (Qb<|QF .here (fun I1 hI1 hb1=>?_)))
 have hR:=hR.mono hI1;have hIc:=hIc.trans hI1;have h1:=BxI.of hb1;refine Qd (Qm (zR<|zF Zp ?_));refine zV (Qc rfl Z6 (fun hg=>by exact Qy.imm h1.out rfl))<|zQ Z4<|zC ?_
 refine zM ?_;refine QI 4 rfl rfl rfl ?_;refine zJ (Qa rfl Zp)<|zJ (Qc rfl Z6 (fun hg=>by exact Qy.imm h1.out rfl))<|zJ (QT rfl Z4)<|zJ (QA rfl rfl rfl)<|Q9 rfl rfl rfl rfl rfl ?_
 refine zM ?_;refine QI 10 rfl rfl rfl ?_;refine zJ (Qa rfl ZH)<|zJ (Qg rfl Zl (fun hg=>by exact Cells.part (pre:=[.slice pa pn pc]) (vs:=[.slice qa qn qc,.slice aa an ac]) (post:=[]) (BxI.cells (vs:=[_,_,_]) h1) rfl) rfl)<|qf (vs:=[_]) rfl ziI (fun hg=>zi7 hR.q hqn hR.k han)<|zJ (QA rfl rfl rfl)<|Q9 rfl rfl rfl rfl rfl ?_
 refine zN ?_;refine zI ?_ ?_<;>intro hc24
 ·
  exact zR (zA (zN (Qs (Qf<|Qx rfl rfl (fun w hw=>⟨_,I1,[],rfl,hIc,by exact hw.drop,rfl,by rw [KI hR,zbc hb]⟩)))))
 rw [h24,Bool.or_true] at hc24;cases hc24
theorem zeU (hR:RmP I pa pn pc qa qn qc aa an ac ps qs ks)(hb:24<pn)(hqn:qn≤100000)(han:an≤100000):YE Tryz.prog 17 [.agg #[.slice pa pn pc,.slice qa qn qc,.slice aa an ac]] I [] (fun v _I' L'=>L'=[]∧v= .int .i64 (WQ (YD ps qs ks))):=by
 intro g H w hw;refine qe Tryz.func17 Tryz.ntmps17 hw ?_;have hIc:=zB6 I;have h24:decide ((pn:Int)>24)=true:=(by simp;omega);refine zR<|QK rfl rfl rfl (fun b_1=>zA (Qb<|QF .here (fun I1 hI1 hb1=>?_)))
 have hR:=hR.mono hI1;have hIc:=hIc.trans hI1;have h1:=BxI.of hb1;refine Qd (Qm (zR<|zF Zp ?_));refine zV (Qc rfl Z6 (fun hg=>by exact Qy.imm h1.out rfl))<|zQ Z4<|zC ?_
 refine zM ?_;refine QI 4 rfl rfl rfl ?_;refine zJ (Qa rfl Zp)<|zJ (Qc rfl Z6 (fun hg=>by exact Qy.imm h1.out rfl))<|zJ (QT rfl Z4)<|zJ (QA rfl rfl rfl)<|Q9 rfl rfl rfl rfl rfl ?_
 refine zM ?_;refine QI 10 rfl rfl rfl ?_;refine zJ (Qa rfl ZH)<|zJ (Qg rfl Zl (fun hg=>by exact Cells.part (pre:=[.slice pa pn pc]) (vs:=[.slice qa qn qc,.slice aa an ac]) (post:=[]) (BxI.cells (vs:=[_,_,_]) h1) rfl) rfl)<|qf (vs:=[_]) rfl zid (fun hg=>zia hR.q hqn hR.k han)<|zJ (QA rfl rfl rfl)<|Q9 rfl rfl rfl rfl rfl ?_
 refine zN ?_;refine zI ?_ ?_<;>intro hc23
 ·
  exact zR (zA (zN (Qs (Qf<|Qx rfl rfl (fun w hw=>⟨_,I1,[],rfl,hIc,by exact hw.drop,rfl,by rw [KI hR,zbc hb]⟩)))))
 rw [h24,Bool.or_true] at hc23;cases hc23
theorem znT (hR:RmP I pa pn pc qa qn qc aa an ac ps qs ks)(hpn:pn≤100000)(hqn:qn≤100000)(han:an≤100000)(hnn:∀ x∈ps,x.n≤100000)(hdl:∀ q∈qs,q.n≤100000)(hnw:∀ x∈ps,∀ y∈x.notes,NtW y):YE Tryz.prog 17 [.agg #[.slice pa pn pc,.slice qa qn qc,.slice aa an ac]] I [] (fun v _I' L'=>L'=[]∧v= .int .i64 (WQ (YD ps qs ks))):=by
 intro g H w hw;refine qe Tryz.func17 Tryz.ntmps17 hw ?_;have hIc:=zB6 I;have hlp:=hR.pe.len;have hlq:=hR.q.len;refine zR<|QK rfl rfl rfl (fun b_1=>zA (Qb<|QF .here (fun I1 hI1 hb1=>?_)))
 have hR:=hR.mono hI1;have hIc:=hIc.trans hI1;have h1:=BxI.of hb1;refine Qd (Qm (zR<|zF Zp ?_));refine zV (Qc rfl Z6 (fun hg=>by exact Qy.imm h1.out rfl))<|zQ Z4<|zC ?_
 refine zM ?_;refine QI 4 rfl rfl rfl ?_;refine zJ (Qa rfl Zp)<|zJ (Qc rfl Z6 (fun hg=>by exact Qy.imm h1.out rfl))<|zJ (QT rfl Z4)<|zJ (QA rfl rfl rfl)<|Q9 rfl rfl rfl rfl rfl ?_
 refine zM ?_;refine QI 10 rfl rfl rfl ?_;refine zJ (Qa rfl ZH)<|zJ (Qg rfl Zl (fun hg=>by exact Cells.part (pre:=[.slice pa pn pc]) (vs:=[.slice qa qn qc,.slice aa an ac]) (post:=[]) (BxI.cells (vs:=[_,_,_]) h1) rfl) rfl)<|qf (vs:=[_]) rfl zid (fun hg=>zia hR.q hqn hR.k han)<|zJ (QA rfl rfl rfl)<|Q9 rfl rfl rfl rfl rfl ?_
 refine zN ?_;refine zI ?_ ?_<;>intro hc23
 ·
  have h24:=hc23;exact zR (zA (zN (Qs (Qf<|Qx rfl rfl (fun w hw=>⟨_,I1,[],rfl,hIc,by exact hw.drop,rfl,by rw [KI hR,zoC h24]⟩)))))
 have h24:=hc23;refine Qr (Qd (Qm (zR (zA (zN (Qw<|zU [(1,_)] (fun T L0 mz E I' loc'=>∃ (k:Nat),mz=pn-k∧E=(3,.int .i64 k)::T∧I1=I'∧L0=loc'∧k≤pn∧(ps.take k).any (fun x=> !ZT x.notes)=false) ?_ (h:=⟨0,rfl,rfl,rfl,rfl,Nat.zero_le _,rfl⟩)))))));rintro mz E I' loc' ⟨k,rfl,rfl,rfl,rfl,hk,hno⟩;refine Qm (zR (zM<|zF Zp ?_));refine zV (Qc rfl Z6 (fun hg=>by exact Qy.imm h1.out rfl))<|zQ Z4<|zC (zN ?_)
 refine zI ?_ ?_<;>intro hc28
 ·
  have hlt_k:k<pn:=(by have h:=hc28;simp at h;omega);obtain ⟨x,hx⟩:∃ y,ps[k]? =some y:=⟨_,List.getElem?_eq_getElem kB⟩;have hxm:=List.mem_of_getElem? hx;refine Qr (Qd (Qm (Qw (zR<|zF Zp ?_))));refine zV (Qc rfl Z6 (fun hg=>by exact Qy.imm h1.out rfl)) ?_;refine zM ?_;refine zV (QG rfl rfl Z4 hR.pe (fun hg=>kB))<|zV (Qg rfl Up (fun hg=>by exact zB7 hR.pe hx) rfl)<|qcV (vs:=[_]) rfl zxh (zpl (hR.nt x hxm) (hnw x hxm) (hnn x hxm))<|zO (zN ?_)
  refine zI ?_ ?_<;>intro hc37
  ·
   exact zR (zA (zN (Qs (Qi (Qf (Qf (Qi<|Qf<|Qx rfl rfl (fun w hw=>⟨_,I1,[],rfl,hIc,by exact hw.drop,rfl,by rw [KI hR,zsq h24 hx hc37]⟩))))))))
  refine Qr (Qk (Qd (Qh (zM ?_))));exact zB<|zA (Qb<|zm (h:=⟨pn-(k+1),kB,k+1,rfl,rfl,rfl,rfl,kB,U1 hx hno hc37⟩))
 have hge_k:pn≤k:=(by have h:=hc28;simp at h;omega);rw [ZR hlp hge_k] at hno;refine Zk (Qo (Qo (Qz (Qd (Qm (zR (zA<|zN (Qw<|zU [(1,_)] (fun T L0 mz E I' loc'=>∃ (j:Nat),mz=qn-j∧E=(4,.int .i64 j)::T∧HLe I1 I'∧L0=loc'∧j≤qn∧(qs.take j).any (KJ pn)=false) ?_ (h:=⟨0,rfl,rfl,zB6 _,rfl,Nat.zero_le _,rfl⟩)))))))));rintro mz E J3 loc' ⟨j,rfl,rfl,hJ,rfl,hj,hno2⟩;have hR:=hR.mono hJ;have h1:=h1.mono hJ;have hIc:=hIc.trans hJ;have hB2:=hJ;refine Qm (zR (zM<|zF ZH<|zF QP ?_));refine zV (Qc rfl Q5 (fun hg=>by exact Qy.imm h1.out rfl))<|zQ Q0<|zC (zN ?_)
 refine zI ?_ ?_<;>intro hc43
 ·
  have hlt_j:j<qn:=(by have h:=hc43;simp at h;omega);obtain ⟨y,hy⟩:∃ y,qs[j]? =some y:=⟨_,List.getElem?_eq_getElem kB⟩;have hym:=List.mem_of_getElem? hy;refine Qr (Qd (Qm (Qw (zR<|zF ZH<|zF QP ?_))));refine zV (Qc rfl Q5 (fun hg=>by exact Qy.imm h1.out rfl)) ?_;refine zM ?_;refine zV (QG rfl rfl Q0 hR.q (fun hg=>kB)) ?_;refine zV (Qg rfl YO (fun hg=>by exact zB7 hR.q hy) rfl)<|Qp XM rfl rfl (fun b_5=>?_)
  refine zh VE<|zN (zR<|zF JR ?_)
  refine zL V5<|zpc [_] rfl zsX .nil (zkB (hR.pk y hym).sl (hR.pk y hym).byte (hdl y hym)) ?_
  rintro vv4 I4 L4 hI4 ⟨rfl,cs,bb,rfl,hrd⟩;have hR:=hR.mono hI4;have h1:=h1.mono hI4;have hIc:=hIc.trans hI4;have hB2:=hB2.trans hI4;refine zM ?_;refine zE<|zE<|Qp U2 rfl rfl (fun b_6=>V6 (old:=Zf zcy) rfl rfl Vk hrd.1.1 rfl hrd.1.2 rfl (by repeat (first | exact Upd.here | apply Upd.there | apply ZD)) ?_)
  refine zA<|zN (zR ?_)
  refine zM<|zO<|zM ?_
  refine QI 2 rfl rfl rfl ?_;refine zJ (Qa rfl Jw)<|zJ (Qc rfl Ql (fun hg=>by exact Qy.h1 rfl))<|zJ (Qa rfl Zp)<|zJ (Qc rfl Z6 (fun hg=>by exact Qy.imm h1.out rfl))<|zJ (QT rfl Z4)<|zJ (QA rfl rfl rfl)<|Q9 rfl rfl rfl rfl rfl ?_
  refine zM ?_;refine QI 10 rfl rfl rfl ?_;refine zJ (Qa rfl VO)<|zJ (Qc rfl Ql (fun hg=>by exact Qy.h1 rfl))<|zJ (Qa rfl Zp)<|zJ (Qc rfl Z6 (fun hg=>by exact Qy.imm h1.out rfl))<|zJ (QT rfl Z4)<|zJ (QA rfl rfl rfl)<|Q9 rfl rfl rfl rfl rfl ?_
  refine zN ?_;refine zI ?_ ?_<;>intro hc75
  ·
   have hbk:KJ pn y=true:=(znt (zdd hrd)).symm.trans hc75;exact zR (zA (zN (Qs (Qi (Qf (Qf (Qi<|Qf<|Qx rfl rfl (fun w hw=>⟨_,I4,[],rfl,hIc,by exact hw.drop,rfl,by rw [KI hR,zr5 h24 hno hy hbk]⟩))))))))
  have hbk:KJ pn y=false:=(znt (zdd hrd)).symm.trans hc75;refine Qr (Qk (Qd (Qh (zM ?_))));exact zB<|zA (Qb<|zm (h:=⟨qn-(j+1),kB,j+1,rfl,rfl,hB2,rfl,kB,U1 hy hno2 hbk⟩))
 have hge_j:qn≤j:=(by have h:=hc43;simp at h;omega);rw [ZR hlq hge_j] at hno2;refine Zk (Qo (Qo (Qz (Qd (zR (zA (zN<|Qs ?_)))))));exact Qx rfl rfl (fun w hw=>⟨_,J3,[],rfl,hIc,by exact hw.drop,rfl,by rw [KI hR,zsv h24 hno hno2]⟩)
end
end Go.Proofs.YtjblkbkmblkgoaaGreat
