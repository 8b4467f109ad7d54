/- apparatusValue_holds, part F of the proof: what its theorems say holds without further conditions. -/
import Derived.Test.YtodakphagkommaaGreatDoorAVE
namespace Go.Proofs.YtodakphagkommaaGreatDoor.R
section
open Go Go.Kn Go.Proofs
theorem zpM (x:Sg):(We [x]==0)=frm x:=by
 unfold We skB skP
 cases h:frm x<;>simp [h]
theorem zgS (a b c d x y:Bool):(((((a&&b)&&c)&&d)&&x)&&y)=(((a&&b)&&(c&&d))&&(x&&y)):=by simp only [Bool.and_assoc]
theorem zo3 (a b c d x y z:Bool):((((((a&&b)&&c)&&d)&&x)&&y)&&z)=(((a&&b)&&(c&&d))&&(x&&(y&&z))):=by simp only [Bool.and_assoc]
theorem zoz (I:Qu)(x:Sg):Zy Tryz.prog 147 [JO x] I (.bool (frm x)):=by
 intro g H w hw
 refine qe Tryz.func147 Tryz.ntmps147 hw ?_
 have hIc:=zAh I
 refine zR ?_
 refine Q2 rfl rfl rfl (fun b_1=>?_)
 refine zA ?_
 refine zN (zR ?_)
 refine zV (Qo rfl Q9 (fun hg=>by exact Cells.g0) rfl) ?_
 refine Qq (ps:=[(0,_)]) (m:=[YU x]) Uz rfl (.cons rfl (.nil)) rfl (by simp [Z6]) (by decide) (by decide) rfl rfl (fun b_4=>?_)
 refine ZW .here (fun I1 hI1 hb1=>?_)
 have hIc:=hIc.trans hI1
 have hS:=Sl.lit [x] rfl Z6 (show _=some (Obj.cells (([x]:List Sg).flatMap YU).toArray 54 (0,0)) from hb1)
 refine qc (vs:=[_]) rfl ze4 (zfD hS (by decide)) ?_
 refine zC ?_
 refine zA (zN (Qt ?_))
 exact zp hIc rfl rfl (by rw [zpM])
theorem zv7 {I:Qu}(p:Pt)(hN:Nd I p):Zy Tryz.prog 86 [WJ p] I (.int .i64 (Ko p)):=by
 intro g H w hw
 refine qe Tryz.func86 Tryz.ntmps86 hw ?_
 have hN:Sl I 1 QQ p.a p.n p.c p.needs:=hN
 refine zR ?_
 refine Q2 rfl rfl rfl (fun b_1=>?_)
 refine zA (zN (Ql (zR ?_)))
 refine zF Ul ?_
 refine zL QJ ?_
 refine zQ Qw ?_
 refine zC (zN ?_)
 refine zI ?_ ?_<;>intro hc11
 ·
  have hlen:p.needs.length>32:=by rw [hN.len];simp at hc11;omega
  refine zR (zA (zN (Qt (Qc ?_))))
  exact zr rfl rfl (by rw [zwb hlen])
 have hlen:¬p.needs.length>32:=by rw [hN.len];simp at hc11;omega
 have hpn:p.n≤100000:=by have:=hN.len;omega
 refine Qn (Qa (zR (zA (zN (Ql (zR ?_))))))
 refine zF Ul ?_
 refine zL QJ ?_
 refine zQ Qw ?_
 refine zM (zN (Qm ?_))
 refine zU [(1,_),(13,_),(14,_)] (fun T L0 mz E I' loc'=>∃ (k:Nat) (l:Int),mz=p.n-k∧E=(3,.int .i64 l)::(15,.int .i64 k)::T∧I=I'∧L0=loc'∧k≤p.n∧(List.range k).all (ndP p.id p.needs)=true∧zhe p.needs k l) ?_ (h:=⟨0,0,rfl,rfl,rfl,rfl,Nat.zero_le _,rfl,⟨fun _=>rfl,fun y hy h=>absurd rfl h⟩⟩)
 rintro mz E I' loc' ⟨k,l,rfl,rfl,rfl,rfl,hk,hall,hl⟩
 refine zR (zC (zN (Ql ?_)))
 refine zI ?_ ?_<;>intro hc16
 ·
  have hlt_k:k<p.n:=by have h:=hc16;simp at h;omega
  obtain ⟨x,hx⟩:=hN.at hlt_k
  refine Qn (Qa (Ql (Qm (zR ?_))))
  refine zV (QE rfl rfl Qw (by assumption) (fun hg=>by omega)) ?_
  refine zV (Qe rfl Qr (fun hg=>by exact zAa hN hx rfl)) ?_
  refine zA (zN (Ql (zR ?_)))
  refine zM ?_
  refine zM ?_
  refine zC ?_
  refine zM ?_
  refine QR 3 rfl rfl rfl ?_
  refine zJ (Qi rfl) ?_
  refine zJ (Qd rfl Zw) ?_
  refine zJ (Qe rfl Qr (fun hg=>by exact QT.h0 rfl)) ?_
  refine zJ (QG rfl rfl rfl) ?_
  refine Zo rfl rfl rfl rfl rfl ?_
  refine zN ?_
  refine zI ?_ ?_<;>intro hc27
  ·
   have hnd:ndB p.id p.needs=false:=by unfold ndB;exact Kd (k:=k) (by rw [hN.len];exact hlt_k) (by rw [zv5 hall hl hx,hc27];rfl)
   refine zR (zA (zN (Qt (Qc (Qp (Qc (Qc ?_)))))))
   refine Qp (Qc ?_)
   exact zr rfl rfl (by rw [zvE hlen hnd])
  refine Qn (Qa (Qg (zM ?_)))
  refine zA (Qb (Qf (Qa (Qg ?_))))
  refine zB ?_
  refine zM (Qb ?_)
  exact zm (h:=⟨p.n-(k+1),by omega,k+1,_,rfl,rfl,rfl,rfl,by omega,Jv hall (by rw [zv5 hall hl hx,hc27];rfl),za2 hx⟩)
 have hge_k:p.n≤k:=by have h:=hc16;simp at h;omega
 have hnd:ndB p.id p.needs=true:=by unfold ndB;rw [hN.len,show p.n=k by omega];exact hall
 refine QI (Qh (Qh (Qk (Qa (zR ?_)))))
 refine zF Zw ?_
 refine zL Qr ?_
 refine zC ?_
 refine zM ?_
 refine QH 3 rfl rfl rfl ?_
 refine zK (Qd rfl Zw) ?_
 refine zK (Qe rfl Qr (fun hg=>by exact QT.h0 rfl)) ?_
 refine zK (QG rfl rfl rfl) ?_
 refine QP rfl rfl rfl rfl rfl ?_
 refine zM ?_
 refine QH 8 rfl rfl rfl ?_
 refine zK (Qd rfl Yc) ?_
 refine zK (Qe rfl Qr (fun hg=>by exact QT.h0 rfl)) ?_
 refine zK (QG rfl rfl rfl) ?_
 refine QP rfl rfl rfl rfl rfl ?_
 refine zM ?_
 refine QH 13 rfl rfl rfl ?_
 refine zK (Qd rfl Yc) ?_
 refine zK (Qe rfl Qr (fun hg=>by exact QT.h0 rfl)) ?_
 refine zK (QG rfl rfl rfl) ?_
 refine QP rfl rfl rfl rfl rfl ?_
 refine zA (zN (Ql (zR ?_)))
 refine zF JY ?_
 refine zL Qr ?_
 refine zN (Qm (zR (zC ?_)))
 refine zA (zN ?_)
 refine zI ?_ ?_<;>intro hc50
 ·
  have hk:p.kind=1:=by simpa using hc50
  refine Ql (zR ?_)
  refine zF Jn ?_
  refine zL Qr ?_
  refine zC ?_
  refine zM ?_
  refine QR 3 rfl rfl rfl ?_
  refine zJ (Qd rfl Jn) ?_
  refine zJ (Qe rfl Qr (fun hg=>by exact QT.h0 rfl)) ?_
  refine zJ (QG rfl rfl rfl) ?_
  refine Zo rfl rfl rfl rfl rfl ?_
  refine zN ?_
  refine zI ?_ ?_<;>intro hc59
  ·
   have hb:(idB p&&UU p)=false:=zub hk (by unfold Yy;simp at hc59 ⊢;omega)
   refine zR (zA (zN (Qt (Qc (Qp (Qc ?_))))))
   exact zr rfl rfl (by rw [zdb hlen hnd hb])
  have hf:isF p.field:=by have h:=hc59;unfold isF;simp at h;omega
  have hw1:Yy p.field 1 9=true:=by have h:=hc59;unfold Yy;simp at h ⊢;omega
  refine Qn (Qa (zR ?_))
  refine zV (QS (ps:=[(1,_)]) [_,_] zfH rfl rfl) ?_
  refine zV (QS (ps:=[(0,_),(1,_)]) [_,_] zfH rfl rfl) ?_
  refine zV (QS (ps:=[(3,_),(4,_),(10,_),(11,_)]) [_,_,_,_,_,_,_,_,_,_,_,_,_,_] WD rfl rfl) ?_
  refine Qs Wv rfl rfl (fun b_7=>?_)
  refine zh Ye ?_
  refine zN (Qg (zM ?_))
  refine zM ?_
  refine QH 1 rfl rfl rfl ?_
  refine zK (Qd rfl VO) ?_
  refine zK (Qo rfl Q9 (fun hg=>by exact Cells.s1 (vs:=[_,_,_,_,_,_,_,_,_,_,_,_,_,_]) rfl) rfl) ?_
  refine zK (Qd rfl Jn) ?_
  refine zK (Qe rfl Qr (fun hg=>by exact QT.h1 rfl)) ?_
  refine zK (QS (ps:=[]) [_,_,_,_,_,_,_,_,_,_,_,_,_,_] WD rfl rfl) ?_
  refine qg (vs:=[_,_,_]) rfl zjR (fun hg=>zuN I p.nw p.field YC hf) ?_
  refine zK (QS (ps:=[]) [_,_,_,_,_,_,_,_,_,_,_,_,_,_] WD rfl rfl) ?_
  refine zK (zbq rfl rfl Ks rfl) ?_
  refine QP rfl rfl rfl rfl rfl ?_
  refine zM ?_
  refine QH 11 rfl rfl rfl ?_
  refine zK (Qo rfl Q9 (fun hg=>by exact Cells.g0) rfl) ?_
  refine zK (Qd rfl Jn) ?_
  refine zK (Qe rfl Qr (fun hg=>by exact QT.h1 rfl)) ?_
  refine zK (Qd rfl VO) ?_
  refine zK (Qo rfl Q9 (fun hg=>by exact Cells.s1 (vs:=[_,_,_,_,_,_,_,_,_,_,_,_,_,_]) rfl) rfl) ?_
  refine qg (vs:=[_,_,_]) rfl zjR (fun hg=>zuN I zgD p.field p.nw hf) ?_
  refine qg (vs:=[_]) rfl zjG (fun hg=>zoz I _) ?_
  refine QP rfl rfl rfl rfl rfl ?_
  refine zA (Qb (Qf (Qa (Ql (zR ?_)))))
  refine zM ?_
  refine zO (zN ?_)
  refine zI ?_ ?_<;>intro hc119
  ·
   have hb:(idB p&&UU p)=false:=by (exact (show (idB p&&UU p)=false from by rw [zuU hk hw1];exact (zgS _ _ _ _ _ _).symm.trans ((Bool.not_eq_true' _).mp hc119)))
   refine zR (zA (zN (Qt (Qc ?_))))
   exact zr rfl rfl (by rw [zdb hlen hnd hb])
  have hb:(idB p&&UU p)=true:=by (exact (show (idB p&&UU p)=true from by rw [zuU hk hw1];exact (zgS _ _ _ _ _ _).symm.trans ((Bool.not_eq_false' _).mp hc119)))
  refine Qn (Qa (zR (zA (zN (Qt ?_)))))
  exact zr rfl rfl (by rw [zgf hlen hnd hb])
 have hk1:p.kind≠1:=by simpa using hc50
 refine zR (zC ?_)
 refine zA (zN ?_)
 refine zI ?_ ?_<;>intro hc83
 ·
  have hk:p.kind=2:=by simpa using hc83
  refine Qg (zM ?_)
  refine zM ?_
  refine QH 1 rfl rfl rfl ?_
  refine zK (Qd rfl Jn) ?_
  refine zK (Qe rfl Qr (fun hg=>by exact QT.h0 rfl)) ?_
  refine zK (QG rfl rfl rfl) ?_
  refine QP rfl rfl rfl rfl rfl ?_
  refine zM ?_
  refine QH 6 rfl rfl rfl ?_
  refine zK (Qd rfl VO) ?_
  refine zK (Qd rfl ZM) ?_
  refine zK (Qe rfl Qr (fun hg=>by exact QT.h0 rfl)) ?_
  refine zK (Qd rfl Yc) ?_
  refine zK (Qe rfl Qr (fun hg=>by exact QT.h0 rfl)) ?_
  refine zK (QG rfl rfl rfl) ?_
  refine QP rfl rfl rfl rfl rfl ?_
  refine zM ?_
  refine QH 14 rfl rfl rfl ?_
  refine zK (Qd rfl VO) ?_
  refine zK (Qo rfl Q9 (fun hg=>by exact Cells.s0 (vs:=[_,_,_,_,_,_,_,_,_,_,_,_,_,_]) rfl) rfl) ?_
  refine qg (vs:=[_]) rfl zjG (fun hg=>zoz I _) ?_
  refine QP rfl rfl rfl rfl rfl ?_
  refine zA (Qb (Qf (Qa (Ql (zR ?_)))))
  refine zM ?_
  refine zO (zN ?_)
  refine zI ?_ ?_<;>intro hc119
  ·
   have hb:(idB p&&UU p)=false:=by (exact (show (idB p&&UU p)=false from by rw [zwm hk];exact (zo3 _ _ _ _ _ _ _).symm.trans ((Bool.not_eq_true' _).mp hc119)))
   refine zR (zA (zN (Qt (Qc ?_))))
   exact zr rfl rfl (by rw [zdb hlen hnd hb])
  have hb:(idB p&&UU p)=true:=by (exact (show (idB p&&UU p)=true from by rw [zwm hk];exact (zo3 _ _ _ _ _ _ _).symm.trans ((Bool.not_eq_false' _).mp hc119)))
  refine Qn (Qa (zR (zA (zN (Qt ?_)))))
  exact zr rfl rfl (by rw [zgf hlen hnd hb])
 have hk2:p.kind≠2:=by simpa using hc83
 refine zR (zC ?_)
 refine zA (zN ?_)
 refine zI ?_ ?_<;>intro hc104
 ·
  have hk:p.kind=3:=by simpa using hc104
  refine Qg (zM ?_)
  refine zM ?_
  refine QH 1 rfl rfl rfl ?_
  refine zK (Qd rfl Jn) ?_
  refine zK (Qe rfl Qr (fun hg=>by exact QT.h0 rfl)) ?_
  refine zK (QG rfl rfl rfl) ?_
  refine QP rfl rfl rfl rfl rfl ?_
  refine zM ?_
  refine QH 6 rfl rfl rfl ?_
  refine zK (Qd rfl VO) ?_
  refine zK (Qo rfl Q9 (fun hg=>by exact Cells.s0 (vs:=[_,_,_,_,_,_,_,_,_,_,_,_,_,_]) rfl) rfl) ?_
  refine zK (QS (ps:=[]) [_,_,_,_,_,_,_,_,_,_,_,_,_,_] WD rfl rfl) ?_
  refine zK (zbq rfl rfl Ks rfl) ?_
  refine QP rfl rfl rfl rfl rfl ?_
  refine zA (Qb (Qf (Qa (Ql (zR ?_)))))
  refine zM ?_
  refine zO (zN ?_)
  refine zI ?_ ?_<;>intro hc119
  ·
   have hb:(idB p&&UU p)=false:=by (exact (show (idB p&&UU p)=false from by rw [zwo hk];exact (zgS _ _ _ _ _ _).symm.trans ((Bool.not_eq_true' _).mp hc119)))
   refine zR (zA (zN (Qt (Qc ?_))))
   exact zr rfl rfl (by rw [zdb hlen hnd hb])
  have hb:(idB p&&UU p)=true:=by (exact (show (idB p&&UU p)=true from by rw [zwo hk];exact (zgS _ _ _ _ _ _).symm.trans ((Bool.not_eq_false' _).mp hc119)))
  refine Qn (Qa (zR (zA (zN (Qt ?_)))))
  exact zr rfl rfl (by rw [zgf hlen hnd hb])
 have hk3:p.kind≠3:=by simpa using hc104
 refine Qg (zA (Qb (Qf (Qa (Ql (zR ?_))))))
 refine zM ?_
 refine zO (zN ?_)
 refine zI ?_ ?_<;>intro hc119
 ·
  have hb:(idB p&&UU p)=false:=by exact zyf hk1 hk2 hk3
  refine zR (zA (zN (Qt (Qc ?_))))
  exact zr rfl rfl (by rw [zdb hlen hnd hb])
 have hb:(idB p&&UU p)=true:=by (exfalso;have h:=hc119;simp at h)
 refine Qn (Qa (zR (zA (zN (Qt ?_)))))
 exact zr rfl rfl (by rw [zgf hlen hnd hb])
theorem zzc {I:Qu}{av:Option Addr}{n c:Nat}{xs:List Int}(hS:Sl I 1 QQ av n c xs)(hn:n≤100000){fid:Nat}{cap:List Value}{P:Int→Bool}(hF:Fun Tryz.prog fid)(hf:∀ x∈xs,Zy Tryz.prog fid ([.int .i64 x]++cap) I (.bool (P x))):Zy Tryz.prog 148 [.slice av n c,.func (.func fid) #[] cap.toArray] I (.int .i64 (Uk P xs)):=by
 intro g H w hw
 refine qe Tryz.func148 Tryz.ntmps148 hw ?_
 have hS:=hS
 refine zR (zA (zN (Ql (zR ?_))))
 refine zM ?_
 refine zQ Qw ?_
 refine zM (zN (Qm ?_))
 refine zU [(0,_),(1,_),(7,_)] (fun T L0 mz E I' loc'=>∃ (k:Nat),mz=n-k∧E=(8,.int .i64 k)::T∧I=I'∧L0=loc'∧k≤n∧(xs.take k).any P=false) ?_ (h:=⟨0,rfl,rfl,rfl,rfl,Nat.zero_le _,rfl⟩)
 rintro mz E I' loc' ⟨k,rfl,rfl,rfl,rfl,hk,hno⟩
 refine zR (zC (zN (Ql ?_)))
 refine zI ?_ ?_<;>intro hc9
 ·
  have hlt_k:k<n:=by have h:=hc9;simp at h;omega
  obtain ⟨x,hx⟩:=hS.at hlt_k
  refine Qn (Qa (Ql (Qm (zR (zM ?_)))))
  refine zA ?_
  refine zN (zR ?_)
  refine zM ?_
  refine zM ?_
  refine zM ?_
  refine zV (QE rfl rfl Qw (by assumption) (fun hg=>by omega)) ?_
  refine zV (Qe rfl Qr (fun hg=>by exact zAa hS hx rfl)) ?_
  refine YY (cap:=cap) (vs:=[_]) rfl rfl hF (hf x (List.mem_of_getElem? hx)) rfl rfl ?_
  refine zN ?_
  refine zI ?_ ?_<;>intro hc16
  ·
   refine zR (zM ?_)
   refine zA (zN (Qt (Qp (Qc (Qc (Qp (Qc ?_)))))))
   exact zr rfl rfl (by rw [JE hno hx hc16])
  refine Qn (Qf (Qa (Qg (zB ?_))))
  refine zM (Qb ?_)
  exact zm (h:=⟨n-(k+1),by omega,k+1,rfl,rfl,rfl,rfl,by omega,Vb hx hno hc16⟩)
 have hge_k:n≤k:=by have h:=hc9;simp at h;omega
 refine QI (Qh (Qh (Qk (Qa (zR (zA (zN ?_)))))))
 refine Qt ?_
 exact zr rfl rfl (by rw [VQ hS.len hge_k hno])
theorem zuH {I:Qu}{av:Option Addr}{n c:Nat}{xs:List Int}(hS:Sl I 1 QQ av n c xs)(hn:n≤100000){fid:Nat}{cap:List Value}{P:Int→Bool}(hF:Fun Tryz.prog fid)(hf:∀ x∈xs,Zy Tryz.prog fid ([.int .i64 x]++cap) I (.bool (P x))):Zy Tryz.prog 87 [.slice av n c,.func (.func fid) #[] cap.toArray] I (.bool (xs.any P)):=by
 intro g H w hw
 refine qe Tryz.func87 Tryz.ntmps87 hw ?_
 refine zR (zA ?_)
 refine zN (zR ?_)
 refine zM ?_
 refine zM ?_
 refine qc (vs:=[_,_]) rfl zih (zzc hS hn hF hf) ?_
 refine zC ?_
 refine zA (zN (Qt ?_))
 exact zr rfl rfl (by rw [←K1])
theorem zuW {I:Qu}{av:Option Addr}{n c:Nat}{ps:List Pt}(hP:SlP I av n c ps)(hn:n≤100000){fid:Nat}{cap:List Value}{P:Pt→Bool}(hF:Fun Tryz.prog fid)(hf:∀ x∈ps,Zy Tryz.prog fid ([WJ x]++cap) I (.bool (P x))):Zy Tryz.prog 169 [.slice av n c,.func (.func fid) #[] cap.toArray] I (.int .i64 (Uk P ps)):=by
 intro g H w hw
 refine qe Tryz.func169 Tryz.ntmps169 hw ?_
 have hS:=hP.1
 refine zR (zA (zN (Ql (zR ?_))))
 refine zM ?_
 refine zQ ZB ?_
 refine zM (zN (Qm ?_))
 refine zU [(0,_),(1,_),(7,_)] (fun T L0 mz E I' loc'=>∃ (k:Nat),mz=n-k∧E=(8,.int .i64 k)::T∧I=I'∧L0=loc'∧k≤n∧(ps.take k).any P=false) ?_ (h:=⟨0,rfl,rfl,rfl,rfl,Nat.zero_le _,rfl⟩)
 rintro mz E I' loc' ⟨k,rfl,rfl,rfl,rfl,hk,hno⟩
 refine zR (zC (zN (Ql ?_)))
 refine zI ?_ ?_<;>intro hc9
 ·
  have hlt_k:k<n:=by have h:=hc9;simp at h;omega
  obtain ⟨x,hx⟩:=hS.at hlt_k
  refine Qn (Qa (Ql (Qm (zR (zM ?_)))))
  refine zA ?_
  refine zN (zR ?_)
  refine zM ?_
  refine zM ?_
  refine zM ?_
  refine zV (QE rfl rfl ZB (by assumption) (fun hg=>by omega)) ?_
  refine zV (Qo rfl Yv (fun hg=>by exact zAi hS hx) rfl) ?_
  refine YY (cap:=cap) (vs:=[_]) rfl rfl hF (hf x (List.mem_of_getElem? hx)) rfl rfl ?_
  refine zN ?_
  refine zI ?_ ?_<;>intro hc16
  ·
   refine zR (zM ?_)
   refine zA (zN (Qt (Qp (Qc (Qc (Qp (Qc ?_)))))))
   exact zr rfl rfl (by rw [JE hno hx hc16])
  refine Qn (Qf (Qa (Qg (zB ?_))))
  refine zM (Qb ?_)
  exact zm (h:=⟨n-(k+1),by omega,k+1,rfl,rfl,rfl,rfl,by omega,Vb hx hno hc16⟩)
 have hge_k:n≤k:=by have h:=hc9;simp at h;omega
 refine QI (Qh (Qh (Qk (Qa (zR (zA (zN ?_)))))))
 refine Qt ?_
 exact zr rfl rfl (by rw [VQ hS.len hge_k hno])
theorem zuR {I:Qu}{av:Option Addr}{n c:Nat}{ps:List Pt}(hP:SlP I av n c ps)(hn:n≤100000){fid:Nat}{cap:List Value}{P:Pt→Bool}(hF:Fun Tryz.prog fid)(hf:∀ x∈ps,Zy Tryz.prog fid ([WJ x]++cap) I (.bool (P x))):Zy Tryz.prog 116 [.slice av n c,.func (.func fid) #[] cap.toArray] I (.bool (ps.any P)):=by
 intro g H w hw
 refine qe Tryz.func116 Tryz.ntmps116 hw ?_
 refine zR (zA ?_)
 refine zN (zR ?_)
 refine zM ?_
 refine zM ?_
 refine qc (vs:=[_,_]) rfl zev (zuW hP hn hF hf) ?_
 refine zC ?_
 refine zA (zN (Qt ?_))
 exact zr rfl rfl (by rw [←K1])
theorem zyF {I:Qu}{b r:Nat}{s:List (Int×Bool)}(hb:I b=some (.cells #[.map (some r)] 167 (0,0)))(hr:I r=some (ZQ (Value.int .i64) Value.bool s))(x:Int):Zy Tryz.prog 88 [.int .i64 x,.pointer (some ⟨b,0,none⟩)] I (.bool (!zdn s x)):=by
 intro g H w hw
 refine qe Tryz.func88 Tryz.ntmps88 hw ?_
 refine zR (zA ?_)
 refine zN (zR ?_)
 refine zV (Qe rfl zju (fun hg=>by exact .imm hb rfl)) ?_
 refine zM ?_
 refine zV (Ya VK ZG rfl rfl (fun _=>.inl hr)) ?_
 refine zO ?_
 refine zA (zN (Qt ?_))
 exact zr rfl rfl (by rfl)
end
section
open Go Go.Kn Go.Proofs
def zp4 (ps:List Pt):List Int:=ps.map (·.id)
def lsQ (ps:List Pt)(i:Nat):Bool:= !((decide ((i:Int)>0)&&decide ((ps.getD i WS).id≤(ps.getD ((i:Int)-1).toNat WS).id))||(ps.getD i WS).needs.any (fun n=> !zaW (ps.take i) n))
theorem zpF {ps:List Pt}{k:Nat}{p:Pt}{l:Int}{s:List (Int×Bool)}(hp:ps[k]? =some p)(h1:1≤p.id)(hl:zhe (zp4 ps) k l)(hs:∀ x,zdn s x=zaW (ps.take k) x):lsQ ps k= !(decide (p.id≤l)||p.needs.any fun x=> !zdn s x):=by
 unfold lsQ
 rw [QU hp]
 simp only [hs]
 congr 2
 cases k with
 | zero=>
  rw [hl.1 rfl,Bool.eq_iff_iff];simp;omega
 | succ k=>
  have hk:=(List.getElem?_eq_some_iff.1 hp).1
  have hy:ps[k]? =some (ps[k]'(by omega)):=List.getElem?_eq_getElem _
  have e:=hl.2 (ps[k]'(by omega)).id (by rw [Nat.add_sub_cancel];simp [zp4,hy]) (by omega)
  rw [show (((k+1:Nat):Int)-1).toNat=k by omega,QU hy,←e,Bool.eq_iff_iff];simp
theorem zhs {ps:List Pt}{k:Nat}{p:Pt}(hp:ps[k]? =some p):zhe (zp4 ps) (k+1) p.id:=za2 (by simp [zp4,hp])
theorem znV {ps:List Pt}{k:Nat}{p:Pt}(hp:ps[k]? =some p)(x:Int):zaW (ps.take (k+1)) x=(decide (p.id=x)||zaW (ps.take k) x):=by
 unfold zaW
 rw [Z4 hp,List.any_append,Bool.eq_iff_iff]
 simp [or_comm]
theorem znX {ps:List Pt}{k:Nat}{n:Int}(h:zaW (ps.take k) n=true):zaW ps n=true:=by
 obtain ⟨q,hq,e⟩:=Jt.1 h
 exact Jt.2 ⟨q,List.mem_of_mem_take hq,e⟩
theorem zj8 {ps:List Pt}(h0:orF (ps.map Ko)=0):(List.range ps.length).all (lsQ ps)=lsB ps:=by
 rw [Bool.eq_iff_iff]
 constructor
 ·
  intro h
  unfold lsB
  rw [List.all_eq_true] at h ⊢
  intro i hi
  have:=h i hi
  unfold lsQ at this
  unfold lsP
  simp only [Bool.not_eq_true',Bool.or_eq_false_iff] at this ⊢
  refine ⟨this.1,?_⟩
  have h2:=this.2
  rw [List.any_eq_false] at h2 ⊢
  intro n hn hc
  refine h2 n hn ?_
  rw [Bool.not_eq_true'] at hc ⊢
  cases hh:zaW (ps.take i) n with
  | false=>rfl
  | true=>rw [znX hh] at hc;cases hc
 ·
  intro h
  have hL:=zhT h0 h
  unfold lsB at h
  rw [List.all_eq_true] at h ⊢
  intro i hi
  have:=h i hi
  unfold lsP at this
  unfold lsQ
  simp only [Bool.not_eq_true',Bool.or_eq_false_iff] at this ⊢
  refine ⟨this.1,?_⟩
  rw [List.any_eq_false]
  intro n hn hc
  have hk:ps[i]? =some (ps.getD i WS):=Q4 rfl (List.mem_range.1 hi)
  obtain ⟨q,hq,e⟩:=hL.before hk hn
  rw [Jt.2 ⟨q,hq,e⟩] at hc
  cases hc
/-! ### Inserts and removes of a sign -/
def Js (k:Int)(ps:List Pt)(s:Int):List Int:=(ps.filter fun q=>q.kind==k&&q.sign==s).map (·.id)
theorem Un {c:Int}{ps:List Pt}{k:Nat}{p:Pt}(hp:ps[k]? =some p)(s:Int):Js c (ps.take (k+1)) s=Js c (ps.take k) s++(if p.kind=c∧p.sign=s then [p.id] else []):=by
 unfold Js
 rw [Z4 hp,List.filter_append,List.map_append]
 congr 1
 by_cases h:p.kind=c∧p.sign=s
 ·
  rw [if_pos h];simp [h.1,h.2]
 ·
  rw [if_neg h]
  have:(p.kind==c&&p.sign==s)=false:=by
   rw [Bool.eq_false_iff];intro hc;simp at hc;exact h hc
  simp [this]
theorem WA {c:Int}{ps:List Pt}{s x:Int}:x∈Js c ps s↔ ∃ q∈ps,q.kind=c∧q.sign=s∧q.id=x:=by
 unfold Js
 rw [zeI]
 simp [and_assoc]
def zg7 (mi:List (Int×Int))(ps:List Pt):Prop:=∀ s,Js 2 ps s=(ZE mi s).toList
theorem zg7.nil {ps:List Pt}:zg7 [] (ps.take 0):=fun s=>by simp [Js,ZE]
theorem zg7.put {mi:List (Int×Int)}{ps:List Pt}{k:Nat}{p:Pt}(h:zg7 mi (ps.take k))(hp:ps[k]? =some p)(hk:p.kind=2)(hn:ZE mi p.sign=none):zg7 (YA mi p.sign p.id) (ps.take (k+1)):=fun s=>by
 rw [Un hp,h s,YE]
 by_cases e:p.sign=s
 ·
  subst e;rw [if_pos ⟨hk,rfl⟩,if_pos rfl,hn];rfl
 ·
  rw [if_neg (fun q=>e q.2),if_neg e,List.append_nil]
theorem zg7.skip {mi:List (Int×Int)}{ps:List Pt}{k:Nat}{p:Pt}(h:zg7 mi (ps.take k))(hp:ps[k]? =some p)(hk:p.kind≠2):zg7 mi (ps.take (k+1)):=fun s=>by
 rw [Un hp,h s,if_neg (fun q=>hk q.1),List.append_nil]
def Xn (mr:List (Int×(Value×Nat×List Value)))(ps:List Pt):Prop:=∀ s,((ZE mr s).getD Jw).2.2=(Js 3 ps s).flatMap QQ
theorem Xn.nil {ps:List Pt}:Xn [] (ps.take 0):=fun s=>by simp [Js,ZE,Jw]
theorem Xn.put {mr:List (Int×(Value×Nat×List Value))}{ps:List Pt}{k n:Nat}{p:Pt}{v:Value}(h:Xn mr (ps.take k))(hp:ps[k]? =some p)(hk:p.kind=3):Xn (YA mr p.sign (v,n,((ZE mr p.sign).getD Jw).2.2++[p.id].flatMap QQ)) (ps.take (k+1)):=fun s=>by
 rw [Un hp,YE]
 by_cases e:p.sign=s
 ·
  subst e;rw [if_pos rfl,if_pos ⟨hk,rfl⟩,List.flatMap_append,←h];rfl
 ·
  rw [if_neg e,if_neg (fun q=>e q.2),List.append_nil,h s]
theorem Xn.skip {mr:List (Int×(Value×Nat×List Value))}{ps:List Pt}{k:Nat}{p:Pt}(h:Xn mr (ps.take k))(hp:ps[k]? =some p)(hk:p.kind≠3):Xn mr (ps.take (k+1)):=fun s=>by
 rw [Un hp,h s,if_neg (fun q=>hk q.1),List.append_nil]
theorem zae {c:Int}{ps:List Pt}{s:Int}:(Js c ps s).length≤ps.length:=by
 unfold Js
 rw [List.length_map]
 exact List.length_filter_le _ _
theorem zoI {I:Qu}{e:Nat}{mr:List (Int×(Value×Nat×List Value))}{ps:List Pt}{L:Go.Kn.Loc}(h:Xn mr ps)(hA:Vz e 1 (mr.map (·.2)) L)(hI:∀ b o,(b,o)∈L→I b=some o)(s:Int):
  ∃ av c,((ZE mr s).getD Jw).1= .slice av (Js 3 ps s).length c∧Sl I 1 QQ av (Js 3 ps s).length c (Js 3 ps s):=by
 obtain ⟨A,Lt,B,rfl,hO,_⟩:=hA.at s
 rw [h s] at hO
 obtain ⟨av,c,e1,e2⟩:=hO.sl Qv (by decide) (fun b o hb=>hI b o (by simp [hb]))
 have hn:=e2.len
 rw [←hn] at e1 e2
 exact ⟨av,c,e1,e2⟩
theorem zof {e:Nat}{mr:List (Int×(Value×Nat×List Value))}{ps:List Pt}{s:Int}{L:Go.Kn.Loc}(h:Xn mr ps)(hO:OwnS e 1 ((ZE mr s).getD Jw).1 ((ZE mr s).getD Jw).2.1 ((ZE mr s).getD Jw).2.2 L):((ZE mr s).getD Jw).2.1≤ps.length:=by
 have h1:=hO.1
 rw [h s,zzQ] at h1
 have h2:=zae (c:=3) (ps:=ps) (s:=s)
 omega
theorem zhL {x y:Nat×Obj}{A L B:Go.Kn.Loc}:(x::y::(A++(L++B))).Perm (L++(x::y::(A++B))):=List.perm_append_comm_assoc (x::y::A) L B
def tgP (ps:List Pt)(p:Pt):Bool:= !(((Js 2 ps p.sign).any fun i=>p.id != i&& !onF ps p.id i)||(Js 3 ps p.sign).any (onF ps p.id))
theorem ziB {ps:List Pt}(hL:Lst ps){mi:List (Int×Int)}(hi:zg7 mi ps):zkN ps=ps.all (tgP ps):=by
 unfold zkN
 rw [Bool.eq_iff_iff,List.all_eq_true,List.all_eq_true]
 refine forall_congr' fun p=>forall_congr' fun hp=>?_
 unfold tgP
 rw [List.all_eq_true]
 simp only [Bool.not_eq_true',Bool.or_eq_false_iff,List.any_eq_false,WA]
 constructor
 ·
  intro h
  constructor
  ·
   rintro x ⟨q,hq,h2,hs,rfl⟩ hc
   have:=h q hq
   unfold zoK at this
   rw [if_neg (by simpa using hs.symm),if_pos h2] at this
   simp at this hc
   rcases this with e | e
   ·
    exact hc.1 e
   ·
    rw [hc.2] at e;cases e.2
  ·
   rintro x ⟨q,hq,h3,hs,rfl⟩ hc
   have:=h q hq
   unfold zoK at this
   rw [if_neg (by simpa using hs.symm),if_neg (by omega),if_pos h3] at this
   simp at this
   rcases this with e | e
   ·
    rw [e,hL.on_irr] at hc;cases hc
   ·
    rw [e] at hc;cases hc
 ·
  rintro ⟨h1,h2⟩ q hq
  unfold zoK
  by_cases hs:p.sign=q.sign
  ·
   rw [if_neg (by simpa using hs)]
   by_cases e:p.id=q.id
   ·
    simp [e]
   ·
    by_cases k2:q.kind=2
    ·
     rw [if_pos k2]
     have:=h1 q.id ⟨q,hq,k2,hs.symm,rfl⟩
     have hk:p.kind≠2:=fun k=>e (by
      have hm1:=WA.2 ⟨p,hp,k,rfl,rfl⟩
      have hm2:=WA.2 ⟨q,hq,k2,hs.symm,rfl⟩
      rw [hi p.sign] at hm1 hm2
      cases hg:ZE mi p.sign with
      | none=>rw [hg] at hm1;cases hm1
      | some z=>rw [hg] at hm1 hm2;simp at hm1 hm2;rw [hm1,hm2])
     simp [e] at this
     simp [this,hk]
    ·
     rw [if_neg k2]
     by_cases k3:q.kind=3
     ·
      rw [if_pos k3]
      have:=h2 q.id ⟨q,hq,k3,hs.symm,rfl⟩
      simp at this
      simp [this]
     ·
      rw [if_neg k3];simp
  ·
   rw [if_pos hs];simp
theorem zrf {ps:List Pt}(hL:Lst ps){mi:List (Int×Int)}{k:Nat}{p:Pt}{id:Int}(h:zg7 mi (ps.take k))(hp:ps[k]? =some p)(hk:p.kind=2)(hn:ZE mi p.sign=some id):zkN ps=false:=by
 have hm:id∈Js 2 (ps.take k) p.sign:=by rw [h,hn];simp
 obtain ⟨q,hq,k2,hs,rfl⟩:=WA.1 hm
 have hlt:=hL.fresh hp q hq
 unfold zkN
 rw [Bool.eq_false_iff]
 intro hc
 rw [List.all_eq_true] at hc
 have h1:=hc p (List.mem_of_getElem? hp)
 rw [List.all_eq_true] at h1
 have h2:=h1 q (List.mem_of_mem_take hq)
 unfold zoK at h2
 rw [if_neg (by simpa using hs.symm),if_pos k2] at h2
 simp [hk] at h2
 omega
theorem zov {ps:List Pt}{p:Pt}{mi:List (Int×Int)}(hi:zg7 mi ps):((ZE mi p.sign).isSome&&(p.id != (ZE mi p.sign).getD 0)&& !onF ps p.id ((ZE mi p.sign).getD 0))=((Js 2 ps p.sign).any fun i=>p.id != i&& !onF ps p.id i):=by
 rw [hi p.sign]
 cases ZE mi p.sign with
 | none=>rfl
 | some x=>simp
theorem zuw {ps:List Pt}(h:ps.length>512):Uf ps=2:=by unfold Uf;rw [if_pos h]
theorem zwS {ps:List Pt}(h:¬ps.length>512){k:Nat}{p:Pt}(hp:ps[k]? =some p)(h0:orF ((ps.take k).map Ko)=0)(h1:Ko p≠0):Uf ps=Ko p:=by
 have:orF (ps.map Ko)=Ko p:=zlY (k:=k) (by simp [hp]) (by rw [←List.map_take];exact h0) h1
 unfold Uf;rw [if_neg h,this,if_pos h1]
theorem zug {ps:List Pt}(h:¬ps.length>512)(h0:orF (ps.map Ko)=0)(h1:lsB ps=false):Uf ps=380:=by unfold Uf;rw [if_neg h,if_neg (by omega),h1];rfl
theorem zk6 {ps:List Pt}(h:¬ps.length>512)(h0:orF (ps.map Ko)=0)(h1:lsB ps=true)(h2:zkN ps=false):Uf ps=380:=by unfold Uf;rw [if_neg h,if_neg (by omega),h1,h2];rfl
theorem ztT {ps:List Pt}(h:¬ps.length>512)(h0:orF (ps.map Ko)=0)(h1:lsB ps=true)(h2:zkN ps=true):Uf ps=0:=by unfold Uf;rw [if_neg h,if_neg (by omega),h1,h2];rfl
theorem zrY {ps:List Pt}{k:Nat}{p:Pt}(hp:ps[k]? =some p)(h0:orF ((ps.take k).map Ko)=0)(h1:Ko p=0):orF ((ps.take (k+1)).map Ko)=0:=by
 rw [Kv] at h0 ⊢
 intro x hx
 rw [Z4 hp,List.map_append,List.mem_append] at hx
 rcases hx with hx | hx
 ·
  exact h0 x hx
 ·
  simp at hx;rw [hx,h1]
theorem zmU {p:Pt}(h:Ko p=0):1≤p.id∧p.id≤1048576∧0≤p.sign∧p.sign≤1048576∧p.needs.length≤32:=by
 unfold Ko at h
 split at h
 ·
  cases h
 ·
  split at h
  ·
   rename_i h1 h2
   simp only [Bool.and_eq_true] at h2
   have h3:=h2.2.1
   unfold idB at h3
   simp at h3
   omega
  ·
   cases h
theorem zvL {I:Qu}{av:Option Addr}{n c:Nat}{ps:List Pt}(hP:SlP I av n c ps)(hz:∀ p∈ps,Ko p=0):∀ p∈ps,p.n≤100000:=fun p hp=>by
 have h1:Sl I 1 QQ p.a p.n p.c p.needs:=hP.2 p hp
 have h2:=hz p hp
 have h3:=h1.len
 unfold Ko at h2
 split at h2
 ·
  cases h2
 ·
  omega
theorem zvw {I:Qu}{av:Option Addr}{n c:Nat}{ps:List Pt}(hP:SlP I av n c ps)(h:Uf ps=0):∀ p∈ps,p.n≤100000:=zvL hP fun p hp=>Kv.1 (UP h).2.1 _ (List.mem_map.2 ⟨p,hp,rfl⟩)
end
section
open Go Go.Kn Go.Proofs
theorem zvY {I:Qu}{av:Option Addr}{n c:Nat}{ps:List Pt}(hP:SlP I av n c ps)(hn:n≤100000):Zy Tryz.prog 48 [.slice av n c] I (.int .i64 (Uf ps)):=by
 intro g H w hw
 refine qe Tryz.func48 Tryz.ntmps48 hw ?_
 have hIc:=zAh I
 refine zR (zA (zN (Ql (zR ?_))))
 refine zM ?_
 refine zQ ZB ?_
 refine zC (zN ?_)
 refine zI ?_ ?_<;>intro hc24
 ·
  have hlen:ps.length>512:=by rw [hP.len];simp at hc24;omega
  refine zR (zA (zN (Qt (Qc ?_))))
  exact zp hIc rfl rfl (by rw [zuw hlen])
 have hlen:¬ps.length>512:=by rw [hP.len];simp at hc24;omega
 refine Qn (Qa (Ql (zR (zM ?_))))
 refine zQ ZB ?_
 refine zM (zN (Qm ?_))
 refine zU [(0,_),(25,_),(26,_)] (fun T L0 mz E I' loc'=>∃ (k:Nat) (e:Int),mz=n-k∧E=(27,.int .i64 k)::T∧I=I'∧L0=loc'∧k≤n∧e=0∧orF ((ps.take k).map Ko)=0) ?_ (h:=⟨0,0,rfl,rfl,rfl,rfl,Nat.zero_le _,rfl,rfl⟩)
 rintro mz E I' loc' ⟨k,e,rfl,rfl,rfl,rfl,hk,he,h0⟩
 refine zR (zC (zN (Ql ?_)))
 refine zI ?_ ?_<;>intro hc28
 ·
  have hlt_k:k<n:=by have h:=hc28;simp at h;omega
  have hP1:=hP.1
  obtain ⟨p,hp,hN⟩:=hP.at hlt_k
  have hpm:=List.mem_of_getElem? hp
  have hN:Sl I 1 QQ p.a p.n p.c p.needs:=hN
  refine Qn (Qa (Ql (Qm (zR ?_))))
  refine zV (QE rfl rfl ZB (by assumption) (fun hg=>by omega)) ?_
  refine zV (Qo rfl Yv (fun hg=>by exact zAi hP1 hp) rfl) ?_
  refine Qs Uu rfl rfl (fun b_4=>?_)
  refine zh V9 ?_
  refine zN (zR ?_)
  refine zV (Qo rfl Yv (fun hg=>by exact Cells.g0) rfl) ?_
  refine qc (vs:=[_]) rfl zwX (zv7 p hN) ?_
  refine zA ?_
  refine zN (zR ?_)
  refine zM ?_
  refine zC (zN ?_)
  refine zI ?_ ?_<;>intro hc34
  ·
   have hbad:Uf ps=Ko p:=zwS hlen hp h0 (by simpa using hc34)
   refine zR (zM ?_)
   refine zA (zN (Qt (Qp (Qc (Qc (Qp (Qc ?_)))))))
   exact zp hIc rfl rfl (by rw [hbad])
  have hpk:Ko p=0:=by simpa using hc34
  refine Qn (Qf (Qa (Qg (zB ?_))))
  refine zM (Qb ?_)
  exact zm (h:=⟨n-(k+1),by omega,k+1,_,rfl,rfl,rfl,rfl,by omega,hpk,zrY hp h0 hpk⟩)
 have hge_k:n≤k:=by have h:=hc28;simp at h;omega
 have h0:orF (ps.map Ko)=0:=by rw [ZH hP.len hge_k] at h0;exact h0
 have hz:∀ p∈ps,Ko p=0:=fun p hp=>Kv.1 h0 _ (List.mem_map.2 ⟨p,hp,rfl⟩)
 have hnd:=zvL hP hz
 refine QI (Qh (Qh (Qk (Qa (zR ?_)))))
 refine ZL rfl rfl (fun r_37=>?_)
 refine Qs zvJ rfl rfl (fun b_5=>?_)
 refine zS ztq ?_
 refine zA (zN (Ql (zR ?_)))
 refine zM ?_
 refine zQ ZB ?_
 refine zM (zN (Qm ?_))
 refine zU [(0,_),(5,_),(38,_),(39,_)] (fun T L0 mz E I' loc'=>∃ (k:Nat) (l:Int) (s:List (Int×Bool)),mz=n-k∧E=(6,.int .i64 l)::(40,.int .i64 k)::T∧I=I'∧[(b_5,.cells #[.map (some r_37)] 167 (0,0)),(r_37,ZQ (Value.int .i64) Value.bool s)]=loc'∧k≤n∧(List.range k).all (lsQ ps)=true∧zhe (zp4 ps) k l∧∀ x,zdn s x=zaW (ps.take k) x) ?_ (h:=⟨0,0,[],rfl,rfl,rfl,rfl,Nat.zero_le _,rfl,⟨fun _=>rfl,fun y hy h=>absurd rfl h⟩,fun x=>rfl⟩)
 rintro mz E I' loc' ⟨k,l,s,rfl,rfl,rfl,rfl,hk,hall,hl,hs⟩
 refine zR (zC (zN (Ql ?_)))
 refine zI ?_ ?_<;>intro hc41
 ·
  have hlt_k:k<n:=by have h:=hc41;simp at h;omega
  have hP1:=hP.1
  obtain ⟨p,hp,hN⟩:=hP.at hlt_k
  have hpm:=List.mem_of_getElem? hp
  have hN:Sl I 1 QQ p.a p.n p.c p.needs:=hN
  have hpn:=hnd p hpm
  have hp1:=(zmU (hz p hpm)).1
  refine Qn (Qa (Ql (Qm (zR ?_))))
  refine zV (QE rfl rfl ZB (by assumption) (fun hg=>by omega)) ?_
  refine zV (Qo rfl Yv (fun hg=>by exact zAi hP1 hp) rfl) ?_
  refine Qs Uu rfl rfl (fun b_8=>?_)
  refine zh V9 ?_
  refine zN (Ql (zR ?_))
  refine zF Zw ?_
  refine zL Qr ?_
  refine zM ?_
  refine zC ?_
  refine zM ?_
  refine QR 4 rfl rfl rfl ?_
  refine zJ (Qd rfl Ul) ?_
  refine zJ (Qe rfl QJ (fun hg=>by exact QT.h0 rfl)) ?_
  refine zJ (Zd (us:=[]) (vs:=[_]) rfl rfl) ?_
  refine ziw (cap:=[]) (vs:=[_,_]) rfl rfl ziS QD (fun hg=>zlv.ofV fun I' hI' hL'=>zuH (cap:=[.pointer (some ⟨b_5,0,none⟩)]) (hN.mono hI') hpn zvg (fun x _=>zyF (b:=b_5) (r:=r_37) (s:=s) (hL' b_5 _ (by simp)) (hL' r_37 _ (by simp)) x)) (.some rfl rfl rfl rfl gbf) rfl rfl ?_
  refine Zo rfl rfl rfl rfl rfl ?_
  refine zN ?_
  refine zI ?_ ?_<;>intro hc53
  ·
   have hbad:Uf ps=380:=zug hlen h0 (by rw [←zj8 h0];exact Kd (k:=k) (by rw [hP.len];exact hlt_k) (by rw [zpF hp hp1 hl hs];exact congrArg (! ·) hc53))
   refine zR (zA (zN (Qt (Qc (Qp (Qc (Qc ?_)))))))
   refine Qp (Qc ?_)
   exact zp hIc rfl rfl (by rw [hbad])
  refine Qn (Qa ?_)
  have hD:=zAh I
  refine Jl ?_
  refine Z0 I [(b_8,.cells (Yx p).toArray 57 (0,0)),(b_5,.cells #[.map (some r_37)] 167 (0,0))] mixed ?_
  refine zT 0 rfl (Qe rfl zju (fun hg=>by exact QT.h1 rfl)) hD ?_
  refine zT 1 rfl (Qd rfl Zw) hD ?_
  refine zT 2 rfl (Qe rfl Qr (fun hg=>by exact QT.h0 rfl)) hD ?_
  refine zT 3 rfl (Qd rfl Zw) hD ?_
  refine zT 4 rfl (Qe rfl Qr (fun hg=>by exact QT.h0 rfl)) hD ?_
  refine qd 5 rfl ?_
  refine Q7 (m:=s) (ek:=Value.int .i64) (ev:=Value.bool) (a:=p.id) true VK ZG rfl rfl rfl rfl (by repeat (first | exact Upd.here | apply Upd.there | apply QK)) ?_
  refine Qb ?_
  refine zD hD ?_
  refine zT 6 rfl (ZF rfl) hD ?_
  refine QF (by kernel_rfl) ?_
  refine QO ?_
  refine Qf (Qa (Qg (zB ?_)))
  refine zM (Qb ?_)
  exact zm (h:=⟨n-(k+1),by omega,k+1,_,_,rfl,rfl,rfl,rfl,by omega,Jv hall (by rw [zpF hp hp1 hl hs];exact congrArg (! ·) hc53),zhs hp,fun x=>by rw [WG,hs,znV hp]⟩)
 have hge_k:n≤k:=by have h:=hc41;simp at h;omega
 have hls:lsB ps=true:=by rw [←zj8 h0,hP.len,show n=k by omega];exact hall
 have hL:Lst ps:=zhT h0 hls
 refine QI (Qh (Qh (Qk (Qa (zR (zM ?_))))))
 refine Qz (cap:=[]) (vs:=[_]) rfl rfl zj9 .nil (zb1 hP hn hL hnd) rfl rfl ?_
 rintro vv3 I3 L3 hI3 ⟨rfl,r9,rfl,hOn⟩
 have hP:=hP.mono hI3;have hIc:=hIc.trans hI3
 refine zA ?_
 refine zN (zR ?_)
 refine ZL rfl rfl (fun r_62=>?_)
 refine ZL rfl rfl (fun r_63=>?_)
 refine zA ?_
 refine zA (zN (Ql (Ql ?_)))
 refine XN [(r_63,ZQ (Value.int .i64) Xp []),(r_62,ZQ (Value.int .i64) (Value.int .i64) [])] (by repeat (first | exact Wh | exact .refl | refine .keep ?_ | refine .drop ?_)) ?_
 refine Qg (zM ?_)
 refine zQ ZB ?_
 refine zM (zN (Qm ?_))
 refine zU [(0,_),(9,_),(10,_),(11,_),(64,_),(65,_)] (fun T L0 mz E I' loc'=>∃ (k:Nat) (mi:List (Int×Int)) (mr:List (Int×(Value×Nat×List Value))) (L:Go.Kn.Loc),mz=n-k∧E=(66,.int .i64 k)::T∧I3=I'∧(r_63,ZQ (Value.int .i64) Xp mr)::(r_62,ZQ (Value.int .i64) (Value.int .i64) mi)::L=loc'∧k≤n∧zg7 mi (ps.take k)∧Xn mr (ps.take k)∧Vz 3 1 (mr.map (·.2)) L) ?_ (h:=⟨0,[],[],[],rfl,rfl,rfl,rfl,Nat.zero_le _,zg7.nil,Xn.nil,Vz.nil⟩)
 rintro mz E I' loc' ⟨k,mi,mr,L,rfl,rfl,rfl,rfl,hk,hmi,hmr,hAll⟩
 refine zR (zC (zN (Ql ?_)))
 refine zI ?_ ?_<;>intro hc67
 ·
  have hlt_k:k<n:=by have h:=hc67;simp at h;omega
  have hP1:=hP.1
  obtain ⟨p,hp,hN⟩:=hP.at hlt_k
  have hpm:=List.mem_of_getElem? hp
  have hN:Sl I3 1 QQ p.a p.n p.c p.needs:=hN
  have hpn:=hnd p hpm
  refine Qn (Qa (Ql (Qm (zR ?_))))
  refine zV (QE rfl rfl ZB (by assumption) (fun hg=>by omega)) ?_
  refine zV (Qo rfl Yv (fun hg=>by exact zAi hP1 hp) rfl) ?_
  refine Qs Uu rfl rfl (fun b_13=>?_)
  refine zh V9 ?_
  refine zN (zR ?_)
  refine zF JY ?_
  refine zL Qr ?_
  refine zN (Qm (zR (zC ?_)))
  refine zA (zN ?_)
  refine zI ?_ ?_<;>intro hc72
  ·
   have hk2:p.kind=2:=by simpa using hc72
   refine Ql (zR (zM ?_))
   refine zF Yc ?_
   refine zL Qr ?_
   refine zV (KV (m:=mi) (ek:=Value.int .i64) (a:=p.sign) Vv ZG rfl rfl (fun _=>.inr (by simp))) ?_
   refine zM ?_
   refine zE ?_
   refine zE ?_
   refine zA ?_
   refine zA ?_
   refine zN (zR ?_)
   refine zM (zN ?_)
   refine zI ?_ ?_<;>intro hc81
   ·
    obtain ⟨id,hid⟩:=Option.isSome_iff_exists.1 hc81
    have hbad:Uf ps=380:=zk6 hlen h0 hls (zrf hL hmi hp hk2 hid)
    refine zR (zA (zN (Qt (Qc (Qp (Qp (Qc ?_)))))))
    refine Qc (Qp (Qc ?_))
    exact zp hIc rfl rfl (by rw [hbad])
   have hnone:ZE mi p.sign=none:=by simpa using hc81
   refine Qn (Qa (Qg (zM ?_)))
   refine zF Yc ?_
   refine zL Qr ?_
   refine zF Zw ?_
   refine zL Qr ?_
   refine Q7 (m:=mi) (ek:=Value.int .i64) (ev:=Value.int .i64) (a:=p.sign) p.id Vv ZG rfl rfl rfl rfl (by repeat (first | exact Upd.here | apply Upd.there | apply QK)) ?_
   refine Qb (Qf (Qf (Qa (Qg (zB ?_)))))
   refine zM (Qb ?_)
   exact zm (h:=⟨n-(k+1),by omega,k+1,_,_,_,rfl,rfl,rfl,rfl,by omega,hmi.put hp hk2 hnone,hmr.skip hp (by omega),hAll⟩)
  have hk2n:p.kind≠2:=by simpa using hc72
  refine zR (zC ?_)
  refine zA (zN ?_)
  refine zI ?_ ?_<;>intro hc87
  ·
   have hk3:p.kind=3:=by simpa using hc87
   obtain ⟨A,Lt,B,rfl,hOt,hset⟩:=hAll.at p.sign
   have hq:=zof hmr hOt
   have hq2:=List.length_take_le k ps
   have hD:=zAh I3
   refine Jl ?_
   refine Z0 I3 [(b_13,.cells (Yx p).toArray 57 (0,0))] mixed ?_
   refine zT 0 rfl (Qi rfl) hD ?_
   refine zT 1 rfl (Qd rfl Yc) hD ?_
   refine zT 2 rfl (Qe rfl Qr (fun hg=>by exact QT.h0 rfl)) hD ?_
   refine zT 3 rfl (Qi rfl) hD ?_
   refine zT 4 rfl (Qd rfl Yc) hD ?_
   refine zT 5 rfl (Qe rfl Qr (fun hg=>by exact QT.h0 rfl)) hD ?_
   refine zT 7 rfl (Qd rfl Zw) hD ?_
   refine zT 8 rfl (Qe rfl Qr (fun hg=>by exact QT.h0 rfl)) hD ?_
   refine Zt 6 9 rfl rfl (by kernel_rfl) ?_ ?_
   ·
    refine zV (VH (m:=mr) (ek:=Value.int .i64) (a:=p.sign) Va ZG rfl rfl (fun _=>.inr (by simp))) ?_
    refine Qb ?_
    refine zD hD ?_
    refine qd 9 rfl ?_
    refine Qq (ps:=[(0,_)]) (m:=[QQ p.id]) Zh rfl (.cons rfl (.nil)) rfl (by simp [Qv]) (by decide) (by decide) rfl rfl (fun b_98=>?_)
    refine Qb ?_
    refine zD hD ?_
    refine qd 10 rfl ?_
    refine QY (v:=_) (ys:=[p.id].flatMap QQ) (L:=Lt) rfl rfl Zh hOt (by repeat (first | exact .cons .here .nil | exact QD | exact Qx | apply QC | apply QB)) ⟨rfl,fun _=>rfl,zAf⟩ (Kk [p.id]) (by omega) rfl rfl ?_
    intro v9 L9 hO9 _
    refine Qb ?_
    refine zD hD ?_
    refine qd 11 rfl ?_
    refine Q7 (m:=mr) (ek:=Value.int .i64) (ev:=Xp) (a:=p.sign) (v9,((ZE mr p.sign).getD Jw).2.1+1,((ZE mr p.sign).getD Jw).2.2++[p.id].flatMap QQ) Va ZG rfl rfl rfl rfl (by (repeat (first | exact Upd.here | apply Upd.there | apply QK))) ?_
    refine Qb ?_
    refine zD hD ?_
    refine QF (by kernel_rfl) ?_
    refine QO ?_
    refine Qf (Qf (Qa (Qg (zB ?_))))
    refine zM (Qb ?_)
    exact JD _ _ (L9++((r_63,_)::(r_62,_)::(A++B))) ⟨n-(k+1),by omega,k+1,_,_,A++(L9++B),rfl,rfl,rfl,rfl,by omega,hmi.skip hp hk2n,hmr.put hp hk3,hset (v9,_,_) L9 hO9⟩ (.cons rfl (.cons rfl (.cons rfl (.cons rfl (.cons rfl (.cons rfl (.cons rfl .nil))))))) zhL (by repeat (first | exact .refl | exact Zj | refine Yk ?_ | refine .drop ?_ | refine Z7 ?_))
   refine Qq (ps:=[(0,_)]) (m:=[QQ p.id]) Zh rfl (.cons rfl (.nil)) rfl (by simp [Qv]) (by decide) (by decide) rfl rfl (fun b_98=>?_)
   refine Qb ?_
   refine zD hD ?_
   refine qd 6 rfl ?_
   refine zV (VH (m:=mr) (ek:=Value.int .i64) (a:=p.sign) Va ZG rfl rfl (fun _=>.inr (by simp))) ?_
   refine Qb ?_
   refine zD hD ?_
   refine qd 10 rfl ?_
   refine QY (v:=_) (ys:=[p.id].flatMap QQ) (L:=Lt) rfl rfl Zh hOt (by repeat (first | exact .cons .here .nil | exact QD | exact Qx | apply QC | apply QB)) ⟨rfl,fun _=>rfl,zAf⟩ (Kk [p.id]) (by omega) rfl rfl ?_
   intro v9 L9 hO9 _
   refine Qb ?_
   refine zD hD ?_
   refine qd 11 rfl ?_
   refine Q7 (m:=mr) (ek:=Value.int .i64) (ev:=Xp) (a:=p.sign) (v9,((ZE mr p.sign).getD Jw).2.1+1,((ZE mr p.sign).getD Jw).2.2++[p.id].flatMap QQ) Va ZG rfl rfl rfl rfl (by (repeat (first | exact Upd.here | apply Upd.there | apply QK))) ?_
   refine Qb ?_
   refine zD hD ?_
   refine QF (by kernel_rfl) ?_
   refine QO ?_
   refine Qf (Qf (Qa (Qg (zB ?_))))
   refine zM (Qb ?_)
   exact JD _ _ (L9++((r_63,_)::(r_62,_)::(A++B))) ⟨n-(k+1),by omega,k+1,_,_,A++(L9++B),rfl,rfl,rfl,rfl,by omega,hmi.skip hp hk2n,hmr.put hp hk3,hset (v9,_,_) L9 hO9⟩ (.cons rfl (.cons rfl (.cons rfl (.cons rfl (.cons rfl (.cons rfl (.cons rfl .nil))))))) zhL (by repeat (first | exact .refl | exact Zj | refine Yk ?_ | refine .drop ?_ | refine Z7 ?_))
  have hk3n:p.kind≠3:=by simpa using hc87
  refine Qn (Qf (Qf (Qa (Qg (zB ?_)))))
  refine zM (Qb ?_)
  exact zm (h:=⟨n-(k+1),by omega,k+1,_,_,_,rfl,rfl,rfl,rfl,by omega,hmi.skip hp hk2n,hmr.skip hp hk3n,hAll⟩)
 have hge_k:n≤k:=by have h:=hc67;simp at h;omega
 rw [ZH hP.len hge_k] at hmi hmr
 refine QI (Qh (Qh (Qk (Qa (Ql (Ql ?_))))))
 refine VJ (fun I5 hI5 hb5=>?_)
 have hP:=hP.mono hI5;have hOn:=hOn.mono hI5;have hIc:=hIc.trans hI5
 have hmiI:I5 r_62=some (ZQ (Value.int .i64) (Value.int .i64) mi):=hb5 _ _ (by simp)
 have hmrI:I5 r_63=some (ZQ (Value.int .i64) Xp mr):=hb5 _ _ (by simp)
 have hrem:=zoI hmr hAll (fun b o h=>hb5 b o (by simp [h]))
 obtain ⟨m,hm1,hm2⟩:=hOn
 refine Qg (zM ?_)
 refine zQ ZB ?_
 refine zM (zN (Qm ?_))
 refine zU [(9,_),(10,_),(11,_),(101,_),(102,_)] (fun T L0 mz E I' loc'=>∃ (k:Nat),mz=n-k∧E=(103,.int .i64 k)::T∧I5=I'∧[]=loc'∧k≤n∧(ps.take k).all (tgP ps)=true) ?_ (h:=⟨0,rfl,rfl,rfl,rfl,Nat.zero_le _,rfl⟩)
 rintro mz E I' loc' ⟨k,rfl,rfl,rfl,rfl,hk,htg⟩
 refine zR (zC (zN (Ql ?_)))
 refine zI ?_ ?_<;>intro hc104
 ·
  have hlt_k:k<n:=by have h:=hc104;simp at h;omega
  have hP1:=hP.1
  obtain ⟨p,hp,hN⟩:=hP.at hlt_k
  have hpm:=List.mem_of_getElem? hp
  have hN:Sl I5 1 QQ p.a p.n p.c p.needs:=hN
  have hpn:=hnd p hpm
  obtain ⟨ref,hget,sn,hsn,hsq⟩:=hm2.get ⟨p,hpm,rfl⟩
  refine Qn (Qa (Ql (Qm (zR ?_))))
  refine zV (QE rfl rfl ZB (by assumption) (fun hg=>by omega)) ?_
  refine zV (Qo rfl Yv (fun hg=>by exact zAi hP1 hp) rfl) ?_
  refine Qs Uu rfl rfl (fun b_17=>?_)
  refine zh V9 ?_
  refine zN (Ql (zR (zM ?_)))
  refine zF Yc ?_
  refine zL Qr ?_
  refine zV (KV (m:=mi) (ek:=Value.int .i64) (a:=p.sign) Vv ZG rfl rfl (fun _=>.inl hmiI)) ?_
  refine zM ?_
  refine zE ?_
  refine zE ?_
  refine zA ?_
  refine zA ?_
  refine zN (zR ?_)
  refine zM ?_
  refine zM ?_
  refine QH 1 rfl rfl rfl ?_
  refine zK (Qd rfl Zw) ?_
  refine zK (Qe rfl Qr (fun hg=>by exact QT.h0 rfl)) ?_
  refine zK (Qi rfl) ?_
  refine zK (QG rfl rfl rfl) ?_
  refine QP rfl rfl rfl rfl rfl ?_
  refine zM ?_
  refine QH 7 rfl rfl rfl ?_
  refine zK (Qi rfl) ?_
  refine zK (Qd rfl Zw) ?_
  refine zK (Qe rfl Qr (fun hg=>by exact QT.h0 rfl)) ?_
  refine zK (YM (m:=m) (ek:=Value.int .i64) (ev:=zcP) (a:=p.id) hget KP ZG rfl rfl (fun _=>.inl hm1)) ?_
  refine zK (Qi rfl) ?_
  refine zK (Ya (m:=sn) VK ZG rfl rfl (fun _=>.inl hsn)) ?_
  refine zK (Ve rfl) ?_
  refine QP rfl rfl rfl rfl rfl ?_
  refine zN ?_
  refine zI ?_ ?_<;>intro hc129
  ·
   have hA:=hc129
   simp only [show ∀ x,(ZE sn x).getD false=onF ps p.id x from fun x=>hsq.mem x] at hA
   have hbad:Uf ps=380:=zk6 hlen h0 hls (by rw [ziB hL hmi];exact ziq hp (by unfold tgP;rw [←zov hmi,hA];rfl))
   refine zR (zA (zN (Qt (Qc (Qp (Qc (Qc ?_)))))))
   refine Qp (Qc ?_)
   exact zp hIc rfl rfl (by rw [hbad])
  have hA:=hc129
  simp only [show ∀ x,(ZE sn x).getD false=onF ps p.id x from fun x=>hsq.mem x] at hA
  refine Qn (Qa (Ql ?_))
  obtain ⟨av2,c2,hv2,hS2⟩:=hrem p.sign
  have hk3l:=zae (c:=3) (ps:=ps) (s:=p.sign)
  have hpl:=hP.len
  refine Qg (zM ?_)
  refine zF Yc ?_
  refine zL Qr ?_
  refine zV (YG (m:=mr) (ek:=Value.int .i64) (a:=p.sign) hv2 Va ZG rfl rfl (fun _=>.inl hmrI)) ?_
  refine zQ Qw ?_
  refine zM (zN (Qm ?_))
  refine zU [(9,_),(10,_),(11,_),(17,_),(101,_),(102,_),(103,_),(133,_),(134,_)] (fun T L0 mz E I' loc'=>∃ (j:Nat),mz=(Js 3 ps p.sign).length-j∧E=(135,.int .i64 j)::T∧I5=I'∧[(b_17,.cells (Yx p).toArray 57 (0,0))]=loc'∧j≤(Js 3 ps p.sign).length∧((Js 3 ps p.sign).take j).any (onF ps p.id)=false) ?_ (h:=⟨0,rfl,rfl,rfl,rfl,Nat.zero_le _,rfl⟩)
  rintro mz E I' loc' ⟨j,rfl,rfl,rfl,rfl,hj,hno⟩
  refine zR (zC (zN (Ql ?_)))
  refine zI ?_ ?_<;>intro hc136
  ·
   have hlt_j:j<(Js 3 ps p.sign).length:=by have h:=hc136;simp at h;omega
   obtain ⟨y,hy⟩:=hS2.at hlt_j
   refine Qn (Qa (Ql (Qm (zR ?_))))
   refine zV (QE rfl rfl Qw (by assumption) (fun hg=>by omega)) ?_
   refine zV (Qe rfl Qr (fun hg=>by exact zAa hS2 hy rfl)) ?_
   refine zA ?_
   refine zN (zR ?_)
   refine zM ?_
   refine zF Zw ?_
   refine zL Qr ?_
   refine zV (YM (m:=m) (ek:=Value.int .i64) (ev:=zcP) (a:=p.id) hget KP ZG rfl rfl (fun _=>.inl hm1)) ?_
   refine zM ?_
   refine zV (Ya (m:=sn) VK ZG rfl rfl (fun _=>.inl hsn)) ?_
   refine zN ?_
   refine zI ?_ ?_<;>intro hc144
   ·
    have hon:=hc144
    simp only [show ∀ x,(ZE sn x).getD false=onF ps p.id x from fun x=>hsq.mem x] at hon
    have hbad:Uf ps=380:=zk6 hlen h0 hls (by rw [ziB hL hmi];exact ziq hp (by unfold tgP;rw [Kt hy hon,Bool.or_true];rfl))
    refine zR (zA (zN (Qt (Qp (Qc (Qc (Qp ?_)))))))
    refine Qp (Qc (Qc (Qp (Qc ?_))))
    exact zp hIc rfl rfl (by rw [hbad])
   have hon:=hc144
   simp only [show ∀ x,(ZE sn x).getD false=onF ps p.id x from fun x=>hsq.mem x] at hon
   refine Qn (Qf (Qa (Qg (zB ?_))))
   refine zM (Qb ?_)
   exact zm (h:=⟨(Js 3 ps p.sign).length-(j+1),by omega,j+1,rfl,rfl,rfl,rfl,by omega,Vb hy hno hon⟩)
  have hge_j:(Js 3 ps p.sign).length≤j:=by have h:=hc136;simp at h;omega
  rw [ZH rfl hge_j] at hno
  have htp:tgP ps p=true:=by unfold tgP;rw [←zov hmi,hA,hno];rfl
  refine QI (Qh (Qh (Qk (Qf (Qa (Qg (zB ?_)))))))
  refine zM (Qb ?_)
  exact zm (h:=⟨n-(k+1),by omega,k+1,rfl,rfl,rfl,rfl,by omega,zii hp htg htp⟩)
 have hge_k:n≤k:=by have h:=hc104;simp at h;omega
 have htog:zkN ps=true:=by rw [ziB hL hmi];rw [ZH hP.len hge_k] at htg;exact htg
 refine QI (Qh (Qh (Qk (Qa (zR (zA (zN ?_)))))))
 refine Qt ?_
 exact zp hIc rfl rfl (by rw [ztT hlen h0 hls htog])
end
section
open Go Go.Kn Go.Proofs
def znm (e:Int)(xs:List Int):Value→Qu→Go.Kn.Loc→Prop:=fun v I' L=>L=[]∧∃ av c,v= .tuple #[.slice av xs.length c,.int .i64 e]∧Sl I' 1 QQ av xs.length c xs
theorem znm.empty {e:Int}{xs:List Int}{I:Qu}(h:xs=[]):znm e xs (.tuple #[.slice none 0 0,.int .i64 e]) I []:=by
 subst h
 exact ⟨rfl,none,0,rfl,.nil⟩
theorem znm.good {e e':Int}{xs ys:List Int}{I:Qu}{av:Option Addr}{n c:Nat}(h:e=e')(hx:ys=xs)(hS:Sl I 1 QQ av n c ys):znm e' xs (.tuple #[.slice av n c,.int .i64 e]) I []:=by
 subst h;subst hx
 have hn:=hS.len
 subst hn
 exact ⟨rfl,av,c,rfl,hS⟩
def clE (ps:List Pt)(ids:List Int):Int:=if ids.length>512 then 2 else if chB ps ids then 0 else 380
theorem zuQ {ps:List Pt}{ids:List Int}(h:ids.length>512):clE ps ids=2:=by unfold clE;rw [if_pos h]
theorem ztg {ps:List Pt}{ids:List Int}(h:¬ids.length>512)(h2:chB ps ids=false):clE ps ids=380:=by unfold clE;rw [if_neg h,h2];rfl
theorem zvD {ps:List Pt}{ids:List Int}(h:¬ids.length>512)(h2:chB ps ids=true):clE ps ids=0:=by unfold clE;rw [if_neg h,h2];rfl
theorem zvp {ps:List Pt}{ids:List Int}(h:zqh ids=false):chB ps ids=false:=by unfold chB;rw [h];rfl
theorem zu4 {ps:List Pt}{ids:List Int}{k:Nat}{x:Int}(hx:ids[k]? =some x)(h:zaW ps x=false):chB ps ids=false:=by unfold chB;rw [ziq hx h,Bool.and_false]
theorem zud {ps:List Pt}{ids:List Int}(h:zqh ids=true)(h2:ids.all (zaW ps)=true):chB ps ids=true:=by unfold chB;rw [h,h2];rfl
def ze5 (ps:List Pt)(ids:List Int)(k:Nat)(zs:List Int)(S:Int→Bool):Prop:=∀ x,x∈zs↔(x∈ids∨∃ n∈ids.take k,onF ps n x=true)∨S x=true
theorem ze5.start {ps:List Pt}{ids:List Int}:ze5 ps ids 0 ids (fun _=>false):=fun x=>by simp
theorem ze5.put {ps:List Pt}{ids zs:List Int}{k:Nat}{S S':Int→Bool}{a:Int}(h:ze5 ps ids k zs S)(e:∀ x,S' x=(decide (a=x)||S x)):ze5 ps ids k (zs++[a]) S':=fun x=>by
 rw [List.mem_append,h x,e x]
 simp only [List.mem_singleton,Bool.or_eq_true,decide_eq_true_eq]
 constructor
 ·
  rintro (h | h)
  ·
   rcases h with h | h
   ·
    exact .inl h
   ·
    exact .inr (.inr h)
  ·
   exact .inr (.inl h.symm)
 ·
  rintro (h | h | h)
  ·
   exact .inl (.inl h)
  ·
   exact .inr h.symm
  ·
   exact .inl (.inr h)
theorem ze5.next {ps:List Pt}{ids zs:List Int}{k:Nat}{S:Int→Bool}{n:Int}(h:ze5 ps ids k zs S)(hn:ids[k]? =some n)(e:∀ x,S x=onF ps n x):ze5 ps ids (k+1) zs (fun _=>false):=fun x=>by
 rw [h x,e x,Z4 hn]
 simp only [List.mem_append,List.mem_singleton,Bool.false_eq_true,or_false]
 constructor
 ·
  rintro (h | h)
  ·
   rcases h with h | ⟨m,hm,h⟩
   ·
    exact .inl h
   ·
    exact .inr ⟨m,.inl hm,h⟩
  ·
   exact .inr ⟨n,.inr rfl,h⟩
 ·
  rintro (h | ⟨m,hm | rfl,h⟩)
  ·
   exact .inl (.inl h)
  ·
   exact .inl (.inr ⟨m,hm,h⟩)
  ·
   exact .inr h
theorem ze5.congr {ps:List Pt}{ids zs:List Int}{k:Nat}{S S':Int→Bool}(h:ze5 ps ids k zs S)(e:∀ x,S x=S' x):ze5 ps ids k zs S':=fun x=>by rw [h x,e x]
theorem zmS {ps:List Pt}{ids zs:List Int}{n:Nat}(hL:Lst ps)(h:ze5 ps ids n zs (fun _=>false))(hn:ids.length=n)(hall:ids.all (zaW ps)=true):Lib.compact (YL (zs++[]))=ze8 ps ids:=by
 rw [List.append_nil]
 refine zdW (Um hL ids) fun x=>?_
 rw [h x,WT,←hn,List.take_length]
 simp only [Bool.false_eq_true,or_false]
 constructor
 ·
  rintro (hx | ⟨m,hm,ho⟩)
  ·
   exact ⟨Jt.1 (List.all_eq_true.1 hall x hx),x,hx,.inl rfl⟩
  ·
   exact ⟨(hL.on_lt ho).2,m,hm,.inr ho⟩
 ·
  rintro ⟨_,m,hm,rfl | ho⟩
  ·
   exact .inl hm
  ·
   exact .inr ⟨m,hm,ho⟩
theorem zws {ps:List Pt}(hL:Lst ps){a:Int}{sn:List (Int×Bool)}(h:zaz sn (onF ps a)):sn.length≤ps.length:=by
 have:=List.Nodup.length_le_of_subset h.nodup (l₂:=zp4 ps) (fun x hx=>by
  obtain ⟨_,q,hq,e⟩:=hL.on_lt (h.key.2 hx)
  exact List.mem_map.2 ⟨q,hq,e⟩)
 simpa [zp4] using this
theorem OnL.hit {I:Qu}{m:List (Int×Nat)}{ps:List Pt}(h:OnL I m ps){a:Int}{ref:Nat}(hg:ZE m a=some ref):zaW ps a=true∧OnS I ref (onF ps a):=by
 have hm:=Ur hg
 refine ⟨?_,h.2 _ hm⟩
 have hk:a∈m.map (·.1):=List.mem_map.2 ⟨_,hm,rfl⟩
 rw [h.1] at hk
 obtain ⟨q,hq,e⟩:=List.mem_map.1 hk
 exact Jt.2 ⟨q,hq,e⟩
theorem OnL.miss {I:Qu}{m:List (Int×Nat)}{ps:List Pt}(h:OnL I m ps){a:Int}(hg:ZE m a=none):zaW ps a=false:=by
 cases hh:zaW ps a with
 | false=>rfl
 | true=>
  obtain ⟨ref,h1,_⟩:=h.get (Jt.1 hh)
  rw [hg] at h1;cases h1
def vrE (ps:List Pt)(v:List Int):Int:=if v.length>512 then 2 else if zlu ps v then 0 else 380
theorem zwV {ps:List Pt}(hL:Lst ps){v:List Int}{w:Int}(h:w=(zm0 (clE ps v) (ze8 ps v)).length):(if ((clE ps v==0)&&(w != (v.length:Int)))=true then 380 else clE ps v)=vrE ps v:=by
 unfold vrE
 by_cases h1:v.length>512
 ·
  rw [if_pos h1,zuQ h1];rfl
 ·
  rw [if_neg h1]
  cases hc:chB ps v with
  | false=>
   rw [ztg h1 hc]
   unfold zlu
   rw [hc];rfl
  | true=>
   rw [zvD h1 hc,zk2 rfl] at*
   have h2:=zs7 hL hc
   subst h
   cases hv:zlu ps v with
   | true=>
    rw [hv] at h2
    simp at h2
    simp [h2]
   | false=>
    rw [hv] at h2
    simp at h2
    rw [if_pos]
    ·
     rfl
    ·
     simp;omega
theorem zoc {ps:List Pt}{v:List Int}(h:vrE ps v=0):zlu ps v=true:=by
 unfold vrE at h
 split at h
 ·
  cases h
 ·
  split at h
  ·
   assumption
  ·
   cases h
theorem zdm (x:Nat×Obj)(L:Go.Kn.Loc):(x::L).Perm (L++[x]):=(List.perm_append_comm (l₁:=L) (l₂:=[x])).symm
end
section
open Go Go.Kn Go.Proofs
theorem zk0 {I:Qu}{av:Option Addr}{n c:Nat}{ps:List Pt}(hP:SlP I av n c ps)(hn:n≤512)(hL:Lst ps)(hnd:∀ p∈ps,p.n≤100000){bv:Option Addr}{n2 c2:Nat}{ys:List Int}(hT:Sl I 1 QQ bv n2 c2 ys)(hn2:n2≤100000):Yf Tryz.prog 90 [.slice av n c,.slice bv n2 c2] I [] (znm (clE ps ys) (zm0 (clE ps ys) (ze8 ps ys))):=by
 intro g H w hw
 refine qe Tryz.func90 Tryz.ntmps90 hw ?_
 have hIc:=zAh I
 refine zR (zA ?_)
 refine zA (zN (Ql (zR ?_)))
 refine zM ?_
 refine zQ Qw ?_
 refine zC (zN ?_)
 refine zI ?_ ?_<;>intro hc12
 ·
  have hlen:ys.length>512:=by rw [hT.len];simp at hc12;omega
  refine zR (zA ?_)
  refine zA (zN (Qt (Qc ?_)))
  first
  | exact ZA rfl rfl rfl (fun w hw=>⟨_,I,[],rfl,hIc,hw.drop,by rw [zuQ hlen];exact znm.empty rfl⟩)
 have hlen:¬ys.length>512:=by rw [hT.len];simp at hc12;omega
 refine Qn (Qa (zR (zM ?_)))
 refine Qz (cap:=[]) (vs:=[_]) rfl rfl zj9 .nil (zb1 hP (by omega) hL hnd) rfl rfl ?_
 rintro vv1 I1 L1 hI1 ⟨rfl,r9,rfl,hOn⟩
 have hP:=hP.mono hI1;have hT:=hT.mono hI1;have hIc:=hIc.trans hI1
 refine zA ?_
 refine zN (zR ?_)
 refine zM ?_
 refine Qz (cap:=[]) (vs:=[_]) rfl rfl zld .nil (zbw hT (by omega)) rfl rfl ?_
 rintro vv2 I2 L2 hI2 ⟨rfl,hO⟩
 have hP:=hP.mono hI2;have hT:=hT.mono hI2;have hOn:=hOn.mono hI2;have hIc:=hIc.trans hI2
 refine zA (zN (Ql (Ql ?_)))
 refine XN _ Zj ?_
 refine Qg (zM ?_)
 refine zQ Qw ?_
 refine zM (zN (Qm ?_))
 refine zU [(1,_),(6,_),(17,_),(18,_)] (fun T L0 mz E I' loc'=>∃ (k:Nat) (zs:List Int) (v:Value) (q:Nat) (L:Go.Kn.Loc),mz=n2-k∧E=(4,v)::(19,.int .i64 k)::T∧I2=I'∧L=loc'∧k≤n2∧OwnS 3 1 v q (zs.flatMap QQ) L∧q≤n2+512*k∧ze5 ps ys k zs (fun _=>false)∧(ys.take k).all (zaW ps)=true) ?_ (h:=⟨0,ys,_,n2,_,rfl,rfl,rfl,rfl,Nat.zero_le _,hO,by omega,ze5.start,rfl⟩)
 rintro mz E I' loc' ⟨k,zs,v,q,L,rfl,rfl,rfl,rfl,hk,hO,hq5,hM,hall⟩
 refine zR (zC (zN (Ql ?_)))
 refine zI ?_ ?_<;>intro hc20
 ·
  have hlt_k:k<n2:=by have h:=hc20;simp at h;omega
  obtain ⟨y,hy⟩:=hT.at hlt_k
  refine Qn (Qa (Ql (Qm (zR ?_))))
  refine zV (QE rfl rfl Qw (by assumption) (fun hg=>by omega)) ?_
  refine zV (Qe rfl Qr (fun hg=>by exact zAa hT hy rfl)) ?_
  refine zA (zN (Ql (Ql ?_)))
  obtain ⟨m,hm1,hm2⟩:=hOn
  refine Qg (zM ?_)
  refine zM ?_
  refine zV (za1 (m:=m) (ek:=Value.int .i64) KP ZG rfl rfl (fun _=>.inl hm1)) ?_
  refine zV (zh8 rfl rfl zqd) ?_
  refine zN ?_
  refine zI ?_ ?_<;>intro hc26
  ·
   have hmiss:zaW ps y=false:=hm2.miss (Option.isNone_iff_eq_none.1 hc26)
   have hbad:clE ps ys=380:=ztg hlen (zu4 hy hmiss)
   refine zR (zA ?_)
   refine zA (zN (Qt (Qc (Qp (Qc (Qc (Qp ?_)))))))
   refine Qc ?_
   first
   | exact ZA rfl rfl rfl (fun w hw=>⟨_,I2,[],rfl,hIc,hw.drop,by rw [hbad];exact znm.empty rfl⟩)
  obtain ⟨ref,hget⟩:∃ ref,ZE m y=some ref:=by cases hg:ZE m y with | none=>rw [hg] at hc26;cases hc26 | some r=>exact ⟨r,rfl⟩
  obtain ⟨hhas,sn,hsn,hsq⟩:=hm2.hit hget
  have hfew:=zws hL hsq
  have hpl:=hP.len
  refine Qn (Qa (zR (zM ?_)))
  refine zM ?_
  refine zV (za1 (m:=m) (ek:=Value.int .i64) KP ZG rfl rfl (fun _=>.inl hm1)) ?_
  rw [hget]
  refine JU (ek:=Value.int .i64) (ev:=Value.bool) (m:=sn) rfl VK rfl rfl (.inl hsn) (fun b_30=>?_)
  refine zN (Qm ?_)
  refine zU [(1,_),(6,_),(17,_),(18,_),(19,_),(30,_)] (fun T L0 mz E I' loc'=>∃ (seen:List Nat) (zs:List Int) (v:Value) (q:Nat) (L:Go.Kn.Loc),mz=sn.length-seen.length∧E=(4,v)::T∧I2=I'∧(b_30,YT ref sn.length seen)::L=loc'∧OwnS 3 1 v q (zs.flatMap QQ) L∧q≤n2+512*k+seen.length∧ze5 ps ys k zs (zlF sn seen)∧seen.Nodup∧∀ i∈seen,i<sn.length) ?_ (h:=⟨[],zs,v,q,L,rfl,rfl,rfl,rfl,hO,by simpa using hq5,hM.congr (fun x=>(zbT sn x).symm),.nil,fun i h=>by cases h⟩)
  rintro mz E I' loc' ⟨seen,zs,v,q,L,rfl,rfl,rfl,rfl,hO,hq5,hM,hnd2,hlt⟩
  have hsl:=JI hnd2 hlt
  refine zR ?_
  refine JT (ek:=Value.int .i64) (ev:=Value.bool) (m:=sn) (fun s'=>(b_30,YT ref sn.length s')::L) rfl (fun s'=>.here) rfl rfl rfl rfl rfl (.inl hsn) (by simp) ?_
  intro t tv s' hno hyes
  refine zN (Ql ?_)
  refine zI ?_ ?_<;>intro hc32
  ·
   obtain ⟨i,q,hq,hns,rfl⟩:=hyes hc32
   refine Qn (Qa (Qm (zR ?_)))
   refine zV (JV (ek:=Value.int .i64) (ev:=Value.bool) (m:=sn) (p:=q) (seen:=seen) (i:=i) rfl (.inl hsn) (.inr (by simp)) hq) ?_
   refine zE ?_
   refine zA (zN (Qg ?_))
   refine zM ?_
   refine zM ?_
   refine Qq (ps:=[(0,_)]) (m:=[QQ q.1]) Zh rfl (.cons rfl (.nil)) rfl (by simp [Qv]) (by decide) (by decide) rfl rfl (fun b_37=>?_)
   refine QY (v:=_) (ys:=[q.1].flatMap QQ) (L:=L) rfl rfl Zh hO (by repeat (first | exact .cons .here .nil | exact QD | exact Qx | apply QC | apply QB)) ⟨rfl,fun _=>rfl,zAf⟩ (Kk [q.1]) (by omega) rfl rfl ?_
   intro v9 L9 hO9 _;rw [←List.flatMap_append] at hO9
   refine zA (Qb (Qf ?_))
   have hnd3:(seen++[i]).Nodup:=List.nodup_append.2 ⟨hnd2,by simp,fun a ha b hb e=>hns (by simp at hb;subst hb;subst e;exact ha)⟩
   have hlt3:∀ j∈seen++[i],j<sn.length:=fun j hj=>(List.mem_append.1 hj).elim (hlt j) (fun h=>by simp at h;subst h;exact (List.getElem?_eq_some_iff.1 hq).1)
   have hsl2:=JI hnd3 hlt3
   rw [List.length_append,List.length_singleton] at hsl2
   exact JD _ _ (L9++[(b_30,_)]) ⟨sn.length-(seen++[i]).length,by rw [List.length_append,List.length_singleton];omega,seen++[i],zs++[q.1],v9,_,L9,rfl,rfl,rfl,rfl,hO9,by rw [List.length_append,List.length_singleton];omega,hM.put (fun x=>X6 hq x),hnd3,hlt3⟩ (.cons rfl (.cons rfl (.cons rfl (.cons rfl (.cons rfl (.cons rfl (.cons rfl .nil))))))) (zdm _ _) (by repeat (first | exact .refl | exact Zj | refine Yk ?_ | refine .drop ?_ | refine Z7 ?_))
  obtain ⟨rfl,hall2⟩:=hno hc32
  refine QI (Qh (Qh (Qk (Qf (Qa (Qg (zB ?_)))))))
  refine zM (Qb ?_)
  exact zm (h:=⟨n2-(k+1),by omega,k+1,zs,v,q,L,rfl,rfl,rfl,rfl,by omega,hO,by omega,(hM.next hy (fun x=>zbA hsq hall2 x)),zii hy hall hhas⟩)
 have hge_k:n2≤k:=by have h:=hc20;simp at h;omega
 rw [ZH hT.len hge_k] at hall
 have hk2:n2=k:=by omega
 refine QI (Qh (Qh (Qk (Qa (Ql (zR (zM ?_)))))))
 refine qc (vs:=[_]) rfl zsl (zwY hT hn2) ?_
 refine zO (zN ?_)
 refine zI ?_ ?_<;>intro hc42
 ·
  have hbad:clE ps ys=380:=ztg hlen (zvp (by simpa using hc42))
  refine zR (zA ?_)
  refine zA (zN (Qt (Qc ?_)))
  first
  | exact ZA rfl rfl rfl (fun w hw=>⟨_,I2,[],rfl,hIc,hw.drop,by rw [hbad];exact znm.empty rfl⟩)
 have hgood:clE ps ys=0:=zvD hlen (zud (by simpa using hc42) hall)
 refine Qn (Qa (Ql ?_))
 refine Vr hO Qv (by decide) (by repeat (first | exact .cons .here .nil | exact QD | exact Qx | apply QC | apply QB)) (fun I5 hI5 af5 cf5 ef5 hZ=>?_)
 subst ef5
 have hT:=hT.mono hI5;have hIc:=hIc.trans hI5
 refine Qg (zM ?_)
 refine Qz (cap:=[]) (vs:=[_,_]) rfl rfl zw9 .nil (zqw hZ (by have:=hT.len;omega) .nil (by omega)) rfl rfl ?_
 rintro vv6 I6 L6 hI6 ⟨rfl,av9,c9,rfl,hR⟩
 have hT:=hT.mono hI6;have hIc:=hIc.trans hI6
 refine zA ?_
 refine zA (zN (Qt ?_))
 first
 | exact ZA rfl rfl rfl (fun w hw=>⟨_,I6,[],rfl,hIc,hw.drop,by rw [hgood];exact znm.good rfl (by rw [zk2 rfl];exact zmS hL hM (by rw [hT.len];omega) hall) hR⟩)
theorem zit {I:Qu}{av:Option Addr}{n c:Nat}{ps:List Pt}(hP:SlP I av n c ps)(hn:n≤512)(hL:Lst ps)(hnd:∀ p∈ps,p.n≤100000){bv:Option Addr}{n2 c2:Nat}{ys:List Int}(hT:Sl I 1 QQ bv n2 c2 ys)(hn2:n2≤100000):Zy Tryz.prog 49 [.slice av n c,.slice bv n2 c2] I (.int .i64 (vrE ps ys)):=by
 intro g H w hw
 refine qe Tryz.func49 Tryz.ntmps49 hw ?_
 have hIc:=zAh I
 refine zR (zA ?_)
 refine zN (zR ?_)
 refine zM ?_
 refine zM ?_
 refine Qz (cap:=[]) (vs:=[_,_]) rfl rfl zvR .nil (zk0 hP hn hL hnd hT hn2) rfl rfl ?_
 rintro vv1 I1 L1 hI1 ⟨rfl,av9,c9,rfl,hR⟩
 have hT:=hT.mono hI1;have hIc:=hIc.trans hI1
 refine zM ?_
 refine zE ?_
 refine zE ?_
 refine zA ?_
 refine zA (zN (Ql (zR ?_)))
 refine zM ?_
 refine zC ?_
 refine zM ?_
 refine QH 2 rfl rfl rfl ?_
 refine zK (Qi rfl) ?_
 refine zK (Zr rfl Qw) ?_
 refine zK (Qi rfl) ?_
 refine zK (Zr rfl Qw) ?_
 refine zK (QG rfl rfl rfl) ?_
 refine QP rfl rfl rfl rfl rfl ?_
 refine zN ?_
 refine zI ?_ ?_<;>intro hc20
 ·
  have hv:vrE ps ys=380:=by rw [←zwV (v:=ys) hL rfl,hT.len,if_pos hc20]
  refine zR (zA (zN (Qt (Qc ?_))))
  exact zp hIc rfl rfl (by rw [hv]<;>rfl)
 have hv:vrE ps ys=clE ps ys:=by rw [←zwV (v:=ys) hL rfl,hT.len,if_neg (by rw [hc20];exact Bool.false_ne_true)]
 refine Qn (Qa (zR (zM ?_)))
 refine zA (zN (Qt ?_))
 exact zp hIc rfl rfl (by rw [hv]<;>rfl)
end
section
open Go Go.Kn Go.Proofs
abbrev zlo:=Value×Nat×List Value
theorem zth {ps:List Pt}{ws:List Int}{k:Nat}{p:Pt}(hp:ps[k]? =some p)(h:(ws.any fun x=>x==p.id)=false):Z9 (ps.take (k+1)) ws=Z9 (ps.take k) ws:=by
 unfold Z9
 rw [Z4 hp,List.filter_append,List.filter_cons,h];simp
theorem zlX {ps:List Pt}{ws:List Int}{k:Nat}{p:Pt}(hp:ps[k]? =some p)(h:(ws.any fun x=>x==p.id)=true):Z9 (ps.take (k+1)) ws=Z9 (ps.take k) ws++[p]:=by
 unfold Z9
 rw [Z4 hp,List.filter_append,List.filter_cons,h];rfl
/-! ### Removes -/
theorem Xn.start:Xn [] []:=fun _s=>rfl
theorem Xn.put' {mr:List (Int×zlo)}{l:List Pt}{n:Nat}{p:Pt}{v:Value}(h:Xn mr l)(hk:p.kind=3):Xn (YA mr p.sign (v,n,((ZE mr p.sign).getD Jw).2.2++[p.id].flatMap QQ)) (l++[p]):=by
 have h1:Xn mr ((l++[p]).take l.length):=by simpa using h
 have:=Xn.put (v:=v) (n:=n) h1 (show (l++[p])[l.length]? =some p by simp) hk
 rw [show (l++[p]).take (l.length+1)=l++[p] from List.take_of_length_le (by simp)] at this
 exact this
theorem Xn.skip' {mr:List (Int×zlo)}{l:List Pt}{p:Pt}(h:Xn mr l)(hk:p.kind≠3):Xn mr (l++[p]):=by
 have h1:Xn mr ((l++[p]).take l.length):=by simpa using h
 have:=Xn.skip h1 (show (l++[p])[l.length]? =some p by simp) hk
 rw [show (l++[p]).take (l.length+1)=l++[p] from List.take_of_length_le (by simp)] at this
 exact this
/-! ### Sets -/
def zhG (ms:List ((Int×Int)×zlo))(l:List Pt):Prop:=∀ q:Int×Int,((ZE ms q).getD Jw).2.2=(stF l q.1 q.2).flatMap Yx
theorem zhG.start:zhG [] []:=fun _q=>rfl
theorem zgR (l:List Pt)(p:Pt)(s f:Int):stF (l++[p]) s f=stF l s f++(if p.kind=1∧p.sign=s∧p.field=f then [p] else []):=by
 unfold stF
 rw [List.filter_append]
 congr 1
 by_cases h:p.kind=1∧p.sign=s∧p.field=f
 ·
  rw [if_pos h];simp [h.1,h.2.1,h.2.2]
 ·
  rw [if_neg h]
  have:(p.kind==1&&(p.sign==s&&p.field==f))=false:=by
   rw [Bool.eq_false_iff];intro hc;simp at hc;exact h hc
  simp [this]
theorem zhG.put {ms:List ((Int×Int)×zlo)}{l:List Pt}{n:Nat}{p:Pt}{v:Value}(h:zhG ms l)(hk:p.kind=1):zhG (YA ms (p.sign,p.field) (v,n,((ZE ms (p.sign,p.field)).getD Jw).2.2++[p].flatMap Yx)) (l++[p]):=fun q=>by
 rw [zgR,YE]
 by_cases e:(p.sign,p.field)=q
 ·
  subst e;rw [if_pos rfl,if_pos ⟨hk,rfl,rfl⟩,List.flatMap_append,←h];rfl
 ·
  rw [if_neg e,if_neg (fun h2=>e (Prod.ext h2.2.1 h2.2.2)),List.append_nil,h q]
theorem zhG.skip {ms:List ((Int×Int)×zlo)}{l:List Pt}{p:Pt}(h:zhG ms l)(hk:p.kind≠1):zhG ms (l++[p]):=fun q=>by
 rw [zgR,if_neg (fun h2=>hk h2.1),List.append_nil,h q]
theorem WL {l:List Pt}{s f:Int}:(stF l s f).length≤l.length:=List.length_filter_le _ _
theorem zwH {e:Nat}{ms:List ((Int×Int)×zlo)}{l:List Pt}{q:Int×Int}{L:Go.Kn.Loc}(h:zhG ms l)(hO:OwnS e 19 ((ZE ms q).getD Jw).1 ((ZE ms q).getD Jw).2.1 ((ZE ms q).getD Jw).2.2 L):((ZE ms q).getD Jw).2.1≤l.length:=by
 have h1:=hO.1
 rw [h q,ZT Q0] at h1
 have h2:=WL (l:=l) (s:=q.1) (f:=q.2)
 omega
theorem ztU {I:Qu}{e:Nat}{ms:List ((Int×Int)×zlo)}{l:List Pt}{L:Go.Kn.Loc}(h:zhG ms l)(hA:Vz e 19 (ms.map (·.2)) L)(hI:∀ b o,(b,o)∈L→I b=some o)(q:Int×Int):
  ∃ av c,((ZE ms q).getD Jw).1= .slice av (stF l q.1 q.2).length c∧Sl I 19 Yx av (stF l q.1 q.2).length c (stF l q.1 q.2):=by
 obtain ⟨A,Lt,B,rfl,hO,_⟩:=hA.at q
 rw [h q] at hO
 obtain ⟨av,c,e1,e2⟩:=hO.sl Q0 (by decide) (fun b o hb=>hI b o (by simp [hb]))
 have hn:=e2.len
 rw [←hn] at e1 e2
 exact ⟨av,c,e1,e2⟩
/-! ### Signs that are known -/
def zdy (s:List (Int×Bool))(bs:List Sg)(l:List Pt):Prop:=∀ x,zdn s x=(WP bs x||zhw l x)
theorem zio {bs:List Sg}{k:Nat}{b:Sg}(hb:bs[k]? =some b)(x:Int):WP (bs.take (k+1)) x=(decide (b.id=x)||WP (bs.take k) x):=by
 unfold WP
 rw [Z4 hb,List.any_append,Bool.eq_iff_iff]
 simp [or_comm]
theorem zdX (l:List Pt)(p:Pt)(x:Int):zhw (l++[p]) x=(zhw l x||(p.kind==2&&p.sign==x)):=by
 unfold zhw
 rw [List.any_append];simp
theorem zdy.put {s:List (Int×Bool)}{bs:List Sg}{l:List Pt}{p:Pt}(h:zdy s bs l)(hk:p.kind=2):zdy (YA s p.sign true) bs (l++[p]):=fun x=>by
 rw [WG,h x,zdX,hk,Bool.eq_iff_iff]
 simp only [Bool.or_eq_true,decide_eq_true_eq,Bool.and_eq_true,beq_iff_eq,true_and]
 constructor
 ·
  rintro (h | h | h)
  ·
   exact .inr (.inr h)
  ·
   exact .inl h
  ·
   exact .inr (.inl h)
 ·
  rintro (h | h | h)
  ·
   exact .inr (.inl h)
  ·
   exact .inr (.inr h)
  ·
   exact .inl h
theorem zdy.skip {s:List (Int×Bool)}{bs:List Sg}{l:List Pt}{p:Pt}(h:zdy s bs l)(hk:p.kind≠2):zdy s bs (l++[p]):=fun x=>by
 rw [h x,zdX,show (p.kind==2)=false by simpa using hk,Bool.false_and,Bool.or_false]
theorem zhz {s:List (Int×Bool)}{bs:List Sg}{n:Nat}(h:∀ x,zdn s x=WP (bs.take n) x)(hn:bs.length≤n):zdy s bs []:=fun x=>by
 rw [h x,List.take_of_length_le hn];simp [zhw]
theorem ztm {ps:List Pt}(hL:Lst ps){k:Nat}{p q:Pt}(hp:ps[k]? =some p)(hq:q∈ps)(h:q.id<p.id):q∈ps.take k:=by
 obtain ⟨j,hj⟩:=List.getElem?_of_mem hq
 obtain ⟨hj1,hj2⟩:=List.getElem?_eq_some_iff.1 hj
 obtain ⟨hk1,hk2⟩:=List.getElem?_eq_some_iff.1 hp
 rw [List.mem_take_iff_getElem]
 refine ⟨j,?_,hj2⟩
 have hjk:j<k:=by
  rcases Nat.lt_or_ge j k with h3 | h3
  ·
   exact h3
  ·
   exfalso
   by_cases e:k=j
   ·
    subst e;rw [hp] at hj;cases hj;omega
   ·
    have:=List.pairwise_iff_getElem.1 hL.inc k j hk1 hj1 (by omega)
    rw [hj2,hk2] at this;omega
 omega
theorem zbG {l:List Pt}{s:Int}:zhw l s=true↔ ∃ q∈l,q.kind=2∧q.sign=s:=by
 unfold zhw
 rw [List.any_eq_true];simp
theorem zgh {ps:List Pt}{ws:List Int}{bs:List Sg}{k:Nat}{p:Pt}{kn:Bool}(hS:Sto ps)(hp:ps[k]? =some p)(_hin:(ws.any fun x=>x==p.id)=true)(hkn:kn=(WP bs p.sign||zhw (Z9 (ps.take k) ws) p.sign)):
  (kn==(p.kind==2))= !zsF bs (Z9 ps ws) p:=by
 subst hkn
 have hpm:=List.mem_of_getElem? hp
 unfold zsF
 by_cases hk:p.kind=2
 ·
  have h1:zhw (Z9 (ps.take k) ws) p.sign=false:=by
   rw [Bool.eq_false_iff]
   intro hc
   obtain ⟨q,hq,hq2,hqs⟩:=zbG.1 hc
   obtain ⟨hq1,_⟩:=Y3.1 hq
   have hlt:=hS.lst.fresh hp q hq1
   rcases hS.ins hpm (List.mem_of_mem_take hq1) hqs.symm hq2 with rfl | ⟨h,_⟩
   ·
    omega
   ·
    exact h hk
  rw [h1,hk];simp
 ·
  have h1:zhw (Z9 (ps.take k) ws) p.sign=zhw (Z9 ps ws) p.sign:=by
   rw [Bool.eq_iff_iff,zbG,zbG]
   constructor
   ·
    rintro ⟨q,hq,h⟩
    obtain ⟨hq1,hq2⟩:=Y3.1 hq
    exact ⟨q,Y3.2 ⟨List.mem_of_mem_take hq1,hq2⟩,h⟩
   ·
    rintro ⟨q,hq,h2,hs⟩
    obtain ⟨hq1,hq2⟩:=Y3.1 hq
    rcases hS.ins hpm hq1 hs.symm h2 with rfl | ⟨_,h⟩
    ·
     exact absurd h2 hk
    ·
     exact ⟨q,Y3.2 ⟨ztm hS.lst hp hq1 (hS.lst.on_lt h).1,hq2⟩,h2,hs⟩
  rw [h1,show (p.kind==2)=false by simpa using hk]
  have:(p.kind != 2)=true:=by simpa using hk
  rw [this]
  cases WP bs p.sign<;>cases zhw (Z9 ps ws) p.sign<;>rfl
/-! ### Signs that are inserted -/
def zca (l:List Pt):List Sg:=(l.filter fun p=>p.kind==2).map (·.nw)
theorem zmr {l:List Pt}{p:Pt}(h:p.kind=2):zca (l++[p])=zca l++[p.nw]:=by
 unfold zca;rw [List.filter_append];simp [h]
theorem zb8 {l:List Pt}{p:Pt}(h:p.kind≠2):zca (l++[p])=zca l:=by
 unfold zca;rw [List.filter_append];simp [h]
theorem zmp (xs:List Sg)(k:Sg):(zd5 xs k).Perm (k::xs):=by
 unfold zd5
 refine List.perm_middle.trans (List.Perm.cons _ ?_)
 rw [List.takeWhile_append_dropWhile]
theorem zcx:∀ (l:List Pt) (bs:List Sg),(Wk bs l).Perm (bs++zca l)
 | [],bs=>by unfold Wk zca;simp
 | p::l,bs=>by
  have h:=zcx l (if p.kind=2 then zd5 bs p.nw else bs)
  have e:Wk bs (p::l)=Wk (if p.kind=2 then zd5 bs p.nw else bs) l:=rfl
  rw [e]
  refine h.trans ?_
  by_cases hk:p.kind=2
  ·
   rw [if_pos hk]
   have e2:zca (p::l)=p.nw::zca l:=by unfold zca;simp [hk]
   rw [e2]
   exact ((zmp bs p.nw).append_right _).trans List.perm_middle.symm
  ·
   rw [if_neg hk]
   have e2:zca (p::l)=zca l:=by unfold zca;simp [hk]
   rw [e2]
theorem zi8 {xs ys:List Sg}(h1:Srt xs)(h2:Srt ys)(hp:∀ a,a∈xs↔a∈ys):xs=ys:=by
 have key:∀ {xs ys:List Sg},Srt ys→(∀ a∈xs,a∈ys)→∀ s x,Yr xs s=some x→Yr ys s=some x:=fun h hm s x hx=>by
  have:=zis h (hm x (zf8 hx))
  rw [zsw hx] at this
  exact this
 refine zqf h1 h2 fun s=>?_
 cases hx:Yr xs s with
 | some x=>exact (key h2 (fun a ha=>(hp a).1 ha) s x hx).symm
 | none=>
  cases hy:Yr ys s with
  | none=>rfl
  | some y=>rw [key h1 (fun a ha=>(hp a).2 ha) s y hy] at hx;cases hx
theorem zmw {bs zs:List Sg}{l:List Pt}(hb:Srt bs)(hS:Sto l)(hf:zhd bs l=true)(hp:zs.Perm (bs++zca l))(hs:zs.Pairwise (fun x y=>Go.Proofs.ltOf zpo y x=false)):zs=Wk bs l:=by
 have h1:=(zmN hb hS hf).1
 have hp2:=zcx l bs
 have hnd:((Wk bs l).map (·.id)).Nodup:=by
  rw [List.nodup_iff_pairwise_ne,List.pairwise_map]
  exact List.Pairwise.imp (fun {a b} h=>by omega) h1
 have hnd2:((bs++zca l).map (·.id)).Nodup:=(hp2.map (·.id)).nodup_iff.1 hnd
 exact zi8 (zmM hp hs hnd2) h1 fun a=>(hp.trans hp2.symm).mem_iff
/-! ### The state -/
def zxD (I:Qu)(r:Nat)(l:List Pt):Prop:=∃ ms:List ((Int×Int)×zlo),I r=some (ZQ YD Xp ms)∧∀ q:Int×Int,∃ av c,((ZE ms q).getD Jw).1= .slice av (stF l q.1 q.2).length c∧Sl I 19 Yx av (stF l q.1 q.2).length c (stF l q.1 q.2)
theorem zxD.mono {I I':Qu}{r:Nat}{l:List Pt}(h:zxD I r l)(hI:HLe I I'):zxD I' r l:=by
 obtain ⟨ms,h1,h2⟩:=h
 exact ⟨ms,hI _ _ h1,fun q=>by obtain ⟨av,c,h3,h4⟩:=h2 q;exact ⟨av,c,h3,h4.mono hI⟩⟩
def zxO (I:Qu)(r:Nat)(l:List Pt):Prop:=∃ mr:List (Int×zlo),I r=some (ZQ (Value.int .i64) Xp mr)∧∀ s,∃ av c,((ZE mr s).getD Jw).1= .slice av (rmF l s).length c∧Sl I 1 QQ av (rmF l s).length c (rmF l s)
theorem zxO.mono {I I':Qu}{r:Nat}{l:List Pt}(h:zxO I r l)(hI:HLe I I'):zxO I' r l:=by
 obtain ⟨mr,h1,h2⟩:=h
 exact ⟨mr,hI _ _ h1,fun s=>by obtain ⟨av,c,h3,h4⟩:=h2 s;exact ⟨av,c,h3,h4.mono hI⟩⟩
structure StQ (I:Qu)(ps l:List Pt)(xs:List Sg)(r1 r2 r3:Nat)(av:Option Addr)(n c:Nat):Prop where
 on:OnM I r1 ps
 set:zxD I r2 l
 rem:zxO I r3 l
 sg:Sl I 14 YU av n c xs
 sub:∀ p∈l,p∈ps
 nd:∀ p∈ps,Nd I p
 lst:Lst ps
 few:ps.length≤512
 fewl:l.length≤512
theorem StQ.mono {I I':Qu}{ps l:List Pt}{xs:List Sg}{r1 r2 r3:Nat}{av:Option Addr}{n c:Nat}(h:StQ I ps l xs r1 r2 r3 av n c)(hI:HLe I I'):StQ I' ps l xs r1 r2 r3 av n c:=
 ⟨h.on.mono hI,h.set.mono hI,h.rem.mono hI,h.sg.mono hI,h.sub,fun p hp=>(h.nd p hp).mono hI,h.lst,h.few,h.fewl⟩
def stA (r1 r2 r3:Nat)(av:Option Addr)(n c:Nat):Value:=.agg #[.map (some r1),.map (some r2),.map (some r3),.slice av n c]
def RdQ (e:Int)(ps l:List Pt)(xs:List Sg):Value→Qu→Go.Kn.Loc→Prop:=fun v I' L=>L=[]∧∃ m1 m2 m3 av n c,v= .tuple #[.agg #[.map m1,.map m2,.map m3,.slice av n c],.int .i64 e]∧(e=0→∃ r1 r2 r3,m1=some r1∧m2=some r2∧m3=some r3∧StQ I' ps l xs r1 r2 r3 av n c)
theorem zsP {ps:List Pt}{bs:List Sg}{ws:List Int}(h:Uf ps≠0):zaL ps bs ws=Uf ps:=by unfold zaL;rw [if_pos h]
theorem zq5 {ps:List Pt}{bs:List Sg}{ws:List Int}(h:Uf ps=0)(h2:We bs≠0):zaL ps bs ws=We bs:=by unfold zaL;rw [if_neg (by omega),if_pos h2]
theorem zvQ {ps:List Pt}{bs:List Sg}{ws:List Int}(h:Uf ps=0)(h2:We bs=0)(h3:vrE ps ws≠0):zaL ps bs ws=vrE ps ws:=by
 unfold zaL;rw [if_neg (by omega),if_neg (by omega)]
 unfold vrE at*
 split
 ·
  rfl
 ·
  rename_i h4
  rw [if_neg h4] at h3
  cases hv:zlu ps ws with
  | true=>rw [hv] at h3;exact absurd rfl h3
  | false=>rfl
theorem zoy {ps:List Pt}{ws:List Int}(h:vrE ps ws=0):¬ws.length>512:=fun h2=>by unfold vrE at h;rw [if_pos h2] at h;cases h
theorem zv1 {ps:List Pt}{bs:List Sg}{ws:List Int}(h:Uf ps=0)(h2:We bs=0)(h3:vrE ps ws=0)(h4:zhd bs (Z9 ps ws)=false):zaL ps bs ws=380:=by
 unfold zaL;rw [if_neg (by omega),if_neg (by omega),if_neg (zoy h3),h4,Bool.and_false];rfl
theorem zzh {ps:List Pt}{bs:List Sg}{ws:List Int}(h:Uf ps=0)(h2:We bs=0)(h3:vrE ps ws=0)(h4:zhd bs (Z9 ps ws)=true):zaL ps bs ws=0:=by
 unfold zaL;rw [if_neg (by omega),if_neg (by omega),if_neg (zoy h3),h4,zoc h3];rfl
theorem zqk {ps:List Pt}{bs:List Sg}{ws:List Int}{p:Pt}(hp:p∈ps)(hin:(ws.any fun x=>x==p.id)=true)(h:zsF bs (Z9 ps ws) p=false):zhd bs (Z9 ps ws)=false:=by
 unfold zhd
 exact List.all_eq_false.2 ⟨p,List.mem_filter.2 ⟨hp,hin⟩,by rw [h];exact Bool.false_ne_true⟩
theorem zw8 {x a b c:Nat×Obj}{Lg Ls Lr:Go.Kn.Loc}:(x::(Lg++(a::b::c::(Ls++Lr)))).Perm (Lg++(x::a::b::c::(Ls++Lr))):=List.perm_middle.symm
theorem zwz {x a b c:Nat×Obj}{Lg A L B Lr:Go.Kn.Loc}:(x::(Lg++(a::b::c::((A++(L++B))++Lr)))).Perm (L++(x::(Lg++(a::b::c::(A++(B++Lr)))))):=by
 have h1:((A++(L++B))++Lr).Perm (L++(A++(B++Lr))):=by
  rw [List.append_assoc,List.append_assoc];exact List.perm_append_comm_assoc A L _
 have h2:(x::(Lg++(a::b::c::((A++(L++B))++Lr)))).Perm (x::(Lg++(a::b::c::(L++(A++(B++Lr)))))):=((h1.cons c |>.cons b |>.cons a).append_left Lg).cons x
 refine h2.trans ?_
 have h3:(a::b::c::(L++(A++(B++Lr)))).Perm (L++(a::b::c::(A++(B++Lr)))):=List.perm_append_comm_assoc [a,b,c] L _
 refine ((h3.append_left Lg).cons x).trans ?_
 exact List.perm_append_comm_assoc (x::Lg) L _
theorem zpx {x a b c:Nat×Obj}{Lg A L B Ls:Go.Kn.Loc}:(x::(Lg++(a::b::c::(Ls++(A++(L++B)))))).Perm (L++(x::(Lg++(a::b::c::(Ls++(A++B)))))):=by
 have h1:(Ls++(A++(L++B))).Perm (L++(Ls++(A++B))):=by
  refine ((List.perm_append_comm_assoc A L B).append_left Ls).trans (List.perm_append_comm_assoc Ls L _)
 have h2:=((h1.cons c |>.cons b |>.cons a).append_left Lg).cons x
 refine h2.trans ?_
 have h3:(a::b::c::(L++(Ls++(A++B)))).Perm (L++(a::b::c::(Ls++(A++B)))):=List.perm_append_comm_assoc [a,b,c] L _
 refine ((h3.append_left Lg).cons x).trans ?_
 exact List.perm_append_comm_assoc (x::Lg) L _
end
section
open Go Go.Kn Go.Proofs
theorem zt5 {I:Qu}{av:Option Addr}{n c:Nat}{ps:List Pt}(hP:SlP I av n c ps)(hn:n≤100000){bv:Option Addr}{n2 c2:Nat}{bs:List Sg}(hB:Sl I 14 YU bv n2 c2 bs)(hn2:n2≤100000){dv:Option Addr}{n3 c3:Nat}{ws:List Int}(hV:Sl I 1 QQ dv n3 c3 ws)(hn3:n3≤100000):Yf Tryz.prog 83 [.slice av n c,.slice bv n2 c2,.slice dv n3 c3] I [] (RdQ (zaL ps bs ws) ps (Z9 ps ws) (Wk bs (Z9 ps ws))):=by
 intro g H w hw
 refine qe Tryz.func83 Tryz.ntmps83 hw ?_
 have hIc:=zAh I
 refine zR ?_
 refine Qs zpK rfl rfl (fun b_6=>?_)
 refine zA (zN (Ql (zR ?_)))
 refine zM ?_
 refine qc (vs:=[_]) rfl zxi (zvY hP hn) ?_
 refine zA ?_
 refine zN (zR ?_)
 refine zM ?_
 refine zC (zN ?_)
 refine zI ?_ ?_<;>intro hc19
 ·
  have hck:Uf ps≠0:=by simpa using hc19
  refine zR ?_
  refine zV (Qo rfl Vx (fun hg=>by exact Cells.g0) rfl) ?_
  refine zM ?_
  refine zh UB ?_
  refine zA (zN (Qt (Qc ?_)))
  first
  | exact Zu rfl rfl rfl Vx (by repeat (first | exact zAf | apply zAe | apply zAg)) rfl (fun w hw=>⟨_,I,[],rfl,hIc,hw.drop,rfl,_,_,_,_,_,_,by rw [zsP hck],fun h0=>absurd h0 (by rw [zsP hck];exact hck)⟩)
 have hck:Uf ps=0:=by simpa using hc19
 have hn5:n≤512:=by have:=(UP hck).1;rw [hP.len] at this;omega
 have hL:=zb5 hck
 have hnd:=zvw hP hck
 have hSto:=zbz hck
 refine Qn (Qa (Ql (zR (zM ?_))))
 refine qc (vs:=[_]) rfl ze4 (zfD hB hn2) ?_
 refine zA ?_
 refine zN (zR ?_)
 refine zM ?_
 refine zC (zN ?_)
 refine zI ?_ ?_<;>intro hc25
 ·
  have hcg:We bs≠0:=by simpa using hc25
  refine zR ?_
  refine zV (Qo rfl Vx (fun hg=>by exact Cells.g0) rfl) ?_
  refine zM ?_
  refine zh UB ?_
  refine zA (zN (Qt (Qc ?_)))
  first
  | exact Zu rfl rfl rfl Vx (by repeat (first | exact zAf | apply zAe | apply zAg)) rfl (fun w hw=>⟨_,I,[],rfl,hIc,hw.drop,rfl,_,_,_,_,_,_,by rw [zq5 hck hcg],fun h0=>absurd h0 (by rw [zq5 hck hcg];exact hcg)⟩)
 have hcg:We bs=0:=by simpa using hc25
 refine Qn (Qa (Ql (zR (zM ?_))))
 refine zM ?_
 refine qc (vs:=[_,_]) rfl zvC (zit hP hn5 hL hnd hV hn3) ?_
 refine zA ?_
 refine zN (zR ?_)
 refine zM ?_
 refine zC (zN ?_)
 refine zI ?_ ?_<;>intro hc32
 ·
  have hcv:vrE ps ws≠0:=by simpa using hc32
  refine zR ?_
  refine zV (Qo rfl Vx (fun hg=>by exact Cells.g0) rfl) ?_
  refine zM ?_
  refine zh UB ?_
  refine zA (zN (Qt (Qc ?_)))
  first
  | exact Zu rfl rfl rfl Vx (by repeat (first | exact zAf | apply zAe | apply zAg)) rfl (fun w hw=>⟨_,I,[],rfl,hIc,hw.drop,rfl,_,_,_,_,_,_,by rw [zvQ hck hcg hcv],fun h0=>absurd h0 (by rw [zvQ hck hcg hcv];exact hcv)⟩)
 have hcv:vrE ps ws=0:=by simpa using hc32
 have hVer:=(zgt hL).1 (zoc hcv)
 refine Qn (Qa (zR (zM ?_)))
 refine Qz (cap:=[]) (vs:=[_]) rfl rfl zj9 .nil (zb1 hP hn hL hnd) rfl rfl ?_
 rintro vv1 I1 L1 hI1 ⟨rfl,r9,rfl,hOn⟩
 have hP:=hP.mono hI1;have hB:=hB.mono hI1;have hV:=hV.mono hI1;have hIc:=hIc.trans hI1
 refine ZL rfl rfl (fun r_37=>?_)
 refine ZL rfl rfl (fun r_38=>?_)
 refine zM ?_
 refine Qz (cap:=[]) (vs:=[_]) rfl rfl zqm .nil (zmo hB (by omega)) rfl rfl ?_
 rintro vv2 I2 L2 hI2 ⟨rfl,hO⟩
 have hP:=hP.mono hI2;have hB:=hB.mono hI2;have hV:=hV.mono hI2;have hOn:=hOn.mono hI2;have hIc:=hIc.trans hI2
 obtain ⟨Lg,hLg⟩:∃ Lg,Lg=L2:=⟨_,rfl⟩
 subst hLg
 obtain ⟨vg,hvg⟩:∃ z,z=vv2:=⟨_,rfl⟩
 subst hvg
 obtain ⟨va,vn,vc,rfl⟩:=hO.val
 refine zV (QS (ps:=[(0,_),(1,_),(2,_),(3,_)]) [_,_,_,_] zq3 rfl rfl) ?_
 refine Y1 rfl rfl UB rfl rfl rfl rfl (by (repeat (first | exact Upd.here | apply Upd.there | apply QK))) ?_
 refine zN (zR ?_)
 refine ZL rfl rfl (fun r_42=>?_)
 refine zA (zN (Ql (zR ?_)))
 refine zM ?_
 refine zQ YW ?_
 refine zM (zN (Qm ?_))
 refine zU [(0,_),(2,_),(6,_),(8,_),(43,_),(44,_)] (fun T L0 mz E I' loc'=>∃ (k:Nat) (s:List (Int×Bool)),mz=n2-k∧E=(45,.int .i64 k)::T∧I2=I'∧(r_42,ZQ (Value.int .i64) Value.bool s)::(Lg++[(r_38,ZQ (Value.int .i64) Xp []),(r_37,ZQ YD Xp []),(b_6,.cells #[.map (some r9),.map (some r_37),.map (some r_38),.slice va vn vc] 159 (0,0))])=loc'∧k≤n2∧∀ x,zdn s x=WP (bs.take k) x) ?_ (h:=⟨0,[],rfl,rfl,rfl,rfl,Nat.zero_le _,fun x=>rfl⟩)
 rintro mz E I' loc' ⟨k,s,rfl,rfl,rfl,rfl,hk,hs⟩
 refine zR (zC (zN (Ql ?_)))
 refine zI ?_ ?_<;>intro hc46
 ·
  have hlt_k:k<n2:=by have h:=hc46;simp at h;omega
  obtain ⟨b,hb⟩:=hB.at hlt_k
  refine Qn (Qa (Ql (Qm (zR ?_))))
  refine zV (QE rfl rfl YW (by assumption) (fun hg=>by omega)) ?_
  refine zV (Qo rfl Q9 (fun hg=>by exact zAi hB hb) rfl) ?_
  refine Qs Wv rfl rfl (fun b_10=>?_)
  refine zh Ye ?_
  refine zN (Qg (zM ?_))
  refine zF ZM ?_
  refine zL Qr ?_
  refine Q7 (m:=s) (ek:=Value.int .i64) (ev:=Value.bool) (a:=b.id) true VK ZG rfl rfl rfl rfl (by repeat (first | exact Upd.here | apply Upd.there | apply QK)) ?_
  refine Qb (Qf (Qa (Qg (zB ?_))))
  refine zM (Qb ?_)
  exact zm (h:=⟨n2-(k+1),by omega,k+1,_,rfl,rfl,rfl,rfl,by omega,fun x=>by rw [WG,hs,zio hb]⟩)
 have hge_k:n2≤k:=by have h:=hc46;simp at h;omega
 have hkn:=zhz hs (by rw [hB.len];exact hge_k)
 refine QI (Qh (Qh (Qk (Qa (Ql (zR (zM ?_)))))))
 refine zQ ZB ?_
 refine zM (zN (Qm ?_))
 refine zU [(2,_),(6,_),(8,_),(53,_),(54,_)] (fun T L0 mz E I' loc'=>∃ (k:Nat) (s:List (Int×Bool)) (vg:Value) (q:Nat) (Lg:Go.Kn.Loc) (ms:List ((Int×Int)×zlo)) (Ls:Go.Kn.Loc) (mr:List (Int×zlo)) (Lr:Go.Kn.Loc),mz=n-k∧E=(55,.int .i64 k)::T∧I2=I'∧(r_42,ZQ (Value.int .i64) Value.bool s)::(Lg++((r_38,ZQ (Value.int .i64) Xp mr)::(r_37,ZQ YD Xp ms)::(b_6,.cells #[.map (some r9),.map (some r_37),.map (some r_38),vg] 159 (0,0))::(Ls++Lr)))=loc'∧k≤n∧zdy s bs (Z9 (ps.take k) ws)∧OwnS 54 14 vg q ((bs++zca (Z9 (ps.take k) ws)).flatMap YU) Lg∧q≤n2+k∧zhG ms (Z9 (ps.take k) ws)∧Vz 57 19 (ms.map (·.2)) Ls∧Xn mr (Z9 (ps.take k) ws)∧Vz 3 1 (mr.map (·.2)) Lr∧(Z9 (ps.take k) ws).all (zsF bs (Z9 ps ws))=true) ?_ (h:=⟨0,s,_,n2,Lg,[],[],[],[],rfl,rfl,rfl,rfl,Nat.zero_le _,hkn,by rw [show bs++zca (Z9 (ps.take 0) ws)=bs from List.append_nil _];exact hO,Nat.le_refl _,zhG.start,Vz.nil,Xn.start,Vz.nil,rfl⟩)
 rintro mz E I' loc' ⟨k,s,vg,q,Lg,ms,Ls,mr,Lr,rfl,rfl,rfl,rfl,hk,hkn,hO,hq,hsm,hAllS,hrm,hAllR,hfit⟩
 obtain ⟨va,vn,vc,rfl⟩:=hO.val
 refine zR (zC (zN (Ql ?_)))
 refine zI ?_ ?_<;>intro hc56
 ·
  have hlt_k:k<n:=by have h:=hc56;simp at h;omega
  have hP1:=hP.1
  obtain ⟨p,hp,hN⟩:=hP.at hlt_k
  have hpm:=List.mem_of_getElem? hp
  have hN:Sl I2 1 QQ p.a p.n p.c p.needs:=hN
  have hpn:=hnd p hpm
  refine Qn (Qa (Ql (Qm (zR ?_))))
  refine zV (QE rfl rfl ZB (by assumption) (fun hg=>by omega)) ?_
  refine zV (Qo rfl Yv (fun hg=>by exact zAi hP1 hp) rfl) ?_
  refine Qs Uu rfl rfl (fun b_12=>?_)
  refine zh V9 ?_
  refine zN (Ql (zR (zM ?_)))
  refine zF Zw ?_
  refine zL Qr ?_
  refine qc (vs:=[_,_]) rfl zqG (zyw hV hn3 hVer.inc _) ?_
  refine zM ?_
  refine zE ?_
  refine zE ?_
  refine zA ?_
  refine zA ?_
  refine zN (zR ?_)
  refine zM ?_
  refine zO (zN ?_)
  refine zI ?_ ?_<;>intro hc67
  ·
   have hin:(ws.any fun x=>x==p.id)=false:=(Bool.not_eq_true' _).mp hc67
   have hT:=zth hp hin
   refine QI (Qh (Qk (Qa (Qg (zB ?_)))))
   refine zM (Qb ?_)
   first
   | exact zm (h:=⟨n-(k+1),by omega,k+1,_,_,_,_,_,_,_,_,rfl,rfl,rfl,rfl,by omega,by rw [hT];exact hkn,by rw [hT];exact hO,by omega,by rw [hT];exact hsm,hAllS,by rw [hT];exact hrm,hAllR,by rw [hT];exact hfit⟩)
  have hin:(ws.any fun x=>x==p.id)=true:=(Bool.not_eq_false' _).mp hc67
  have hT:=zlX hp hin
  refine Qn (Qa (Ql (zR (zM ?_))))
  refine zF Yc ?_
  refine zL Qr ?_
  refine zV (Ya (m:=s) VK ZG rfl rfl (fun _=>(by exact Mem.m1))) ?_
  refine zF JY ?_
  refine zL Qr ?_
  refine zC ?_
  refine zV (zmz rfl rfl zyR) ?_
  refine zN ?_
  refine zI ?_ ?_<;>intro hc75
  ·
   have h75:(zdn s p.sign==(p.kind==2))=true:=hc75
   rw [zgh hSto hp hin (hkn p.sign)] at h75
   have hfp:=(Bool.not_eq_true' _).mp h75
   have hfb:=zqk hpm hin hfp
   refine zR ?_
   refine zV (Qo rfl Vx (fun hg=>by (repeat (first | exact zAf | apply zAe | apply zAg))) rfl) ?_
   refine Y1 rfl rfl UB rfl rfl rfl rfl (by (repeat (first | exact Upd.here | apply Upd.there | apply QK))) ?_
   refine zA (zN (Qt (Qc (Qp (Qc (Qc (Qp ?_)))))))
   refine Qc ?_
   first
   | exact Zu rfl rfl rfl Vx (by repeat (first | exact zAf | apply zAe | apply zAg)) rfl (fun w hw=>⟨_,I2,[],rfl,hIc,hw.drop,rfl,_,_,_,_,_,_,by rw [zv1 hck hcg hcv hfb],fun h0=>absurd h0 (by rw [zv1 hck hcg hcv hfb];exact (by decide))⟩)
  have h75:(zdn s p.sign==(p.kind==2))=false:=hc75
  rw [zgh hSto hp hin (hkn p.sign)] at h75
  have hfp:=(Bool.not_eq_false' _).mp h75
  refine Qn (Qa (zR ?_))
  refine zF JY ?_
  refine zL Qr ?_
  refine zN (Qm (zR (zC ?_)))
  refine zA (zN ?_)
  refine zI ?_ ?_<;>intro hc79
  ·
   have hk2:p.kind=2:=by simpa using hc79
   refine zR (zM ?_)
   refine zF Yc ?_
   refine zL Qr ?_
   refine Q7 (m:=s) (ek:=Value.int .i64) (ev:=Value.bool) (a:=p.sign) true VK ZG rfl rfl rfl rfl (by repeat (first | exact Upd.here | apply Upd.there | apply QK)) ?_
   refine zN (Qg ?_)
   refine zF Wf ?_
   refine zV (Qe rfl zd1 (fun hg=>by (repeat (first | exact zAc rfl | apply zAb | apply zAd)))) ?_
   refine zF VO ?_
   refine zV (Qo rfl Q9 (fun hg=>by exact Cells.s0 (vs:=[_,_,_,_,_,_,_,_,_,_,_,_,_,_]) rfl) rfl) ?_
   refine Qq (ps:=[(0,_)]) (m:=[YU p.nw]) Uz rfl (.cons rfl (.nil)) rfl (by simp [Z6]) (by decide) (by decide) rfl rfl (fun b_88=>?_)
   refine QY (v:=_) (ys:=[p.nw].flatMap YU) (L:=Lg) rfl rfl Uz hO (by repeat (first | exact .cons .here .nil | exact QD | exact Qx | apply QC | apply QB)) ⟨rfl,fun _=>rfl,zAf⟩ (znb [p.nw]) (by omega) rfl rfl ?_
   intro v9 L9 hO9 _;rw [←List.flatMap_append] at hO9;obtain ⟨va9,vn9,vc9,rfl⟩:=hO9.val
   refine zF Wf ?_
   refine ZI rfl rfl zpv rfl rfl (by (repeat (first | exact Upd.here | apply Upd.there | apply QK))) rfl ?_
   refine Qb (Qf (Qf (Qa (Qg (zB ?_)))))
   refine zM (Qb ?_)
   first
   | exact JD _ _ (L9++((r_42,_)::(r_38,_)::(r_37,_)::(b_6,_)::(Ls++Lr))) ⟨n-(k+1),by omega,k+1,_,_,_,L9,ms,Ls,mr,Lr,rfl,rfl,rfl,rfl,by omega,by rw [hT];exact hkn.put hk2,by rw [hT,zmr hk2,←List.append_assoc];exact hO9,by omega,by rw [hT];exact hsm.skip (by omega),hAllS,by rw [hT];exact hrm.skip' (by omega),hAllR,by rw [hT,List.all_append,hfit];simp [hfp]⟩ (.cons rfl (.cons rfl (.cons rfl (.cons rfl (.cons rfl (.cons rfl .nil)))))) zw8 (by repeat (first | exact .refl | exact Zj | refine Yk ?_ | refine .drop ?_ | refine Z7 ?_))
  have hk2n:p.kind≠2:=by simpa using hc79
  refine zR (zC ?_)
  refine zA (zN ?_)
  refine zI ?_ ?_<;>intro hc91
  ·
   have hk1:p.kind=1:=by simpa using hc91
   refine zR ?_
   refine zF Yc ?_
   refine zL Qr ?_
   refine zF Jn ?_
   refine zL Qr ?_
   refine zV (Zz (ps:=[(0,_),(1,_)]) [_,_] Y0 Ub rfl rfl) ?_
   refine Qs Ub rfl rfl (fun b_15=>?_)
   refine zh zi0 ?_
   refine zN ?_
   obtain ⟨A,Lt,B,hLs,hOt,hset⟩:=hAllS.at (p.sign,p.field)
   subst hLs
   rw [List.append_assoc A,List.append_assoc Lt]
   have hq0:=zwH hsm hOt
   have hq2:(Z9 (ps.take k) ws).length≤k:=Nat.le_trans (List.length_filter_le ..) (List.length_take_le k ps)
   refine Qg ?_
   refine zF zaF ?_
   refine zV (Qe rfl zfg (fun hg=>by (repeat (first | exact zAc rfl | apply zAb | apply zAd)))) ?_
   refine zV (Qo rfl zbi (fun hg=>by exact Cells.g0) rfl) ?_
   refine zV (Qo rfl Yv (fun hg=>by exact Cells.g1) rfl) ?_
   refine Qq (ps:=[(0,_)]) (m:=[Yx p]) Wd rfl (.cons rfl (.nil)) rfl (by simp [Q0]) (by decide) (by decide) rfl rfl (fun b_103=>?_)
   refine zeQ (m:=ms) (ek:=YD) (ev:=Xp) (a:=(p.sign,p.field)) Jw rfl zej za7 rfl rfl rfl rfl (by (repeat (first | exact Upd.here | apply Upd.there | apply QK))) ?_
   refine zE ?_
   refine QY (v:=_) (ys:=[p].flatMap Yx) (L:=Lt) rfl rfl Wd hOt (by repeat (first | exact .cons .here .nil | exact QD | exact Qx | apply QC | apply QB)) ⟨rfl,fun _=>rfl,zAf⟩ (zlC [p]) (by omega) rfl rfl ?_
   intro v9 L9 hO9 _
   refine zE ?_
   refine zbF (ek:=YD) (ev:=Xp) (m:=YA ms (p.sign,p.field) ((ZE ms (p.sign,p.field)).getD Jw)) (a:=(p.sign,p.field)) (v9,((ZE ms (p.sign,p.field)).getD Jw).2.1+1,((ZE ms (p.sign,p.field)).getD Jw).2.2++[p].flatMap Yx) ((ZE ms (p.sign,p.field)).getD Jw) (by rw [YE,if_pos rfl]) rfl (by rw [ziH];exact rfl) rfl rfl (by repeat (first | exact Upd.here | apply Upd.there | apply QK)) ?_
   rw [zdl]
   refine Qb (Qf (Qf (Qa (Qg (zB ?_)))))
   refine zM (Qb ?_)
   first
   | exact JD _ _ (L9++((r_42,_)::(Lg++((r_38,_)::(r_37,_)::(b_6,_)::(A++(B++Lr)))))) ⟨n-(k+1),by omega,k+1,s,_,q,Lg,_,A++(L9++B),mr,Lr,rfl,rfl,rfl,rfl,by omega,by rw [hT];exact hkn.skip (by omega),by rw [hT,zb8 (by omega)];exact hO,by omega,by rw [hT];exact hsm.put hk1,hset (v9,_,_) L9 hO9,by rw [hT];exact hrm.skip' (by omega),hAllR,by rw [hT,List.all_append,hfit];simp [hfp]⟩ (.cons rfl (.cons rfl (.cons rfl (.cons rfl (.cons rfl (.cons rfl .nil)))))) zwz (by repeat (first | exact .refl | exact Zj | refine Yk ?_ | refine .drop ?_ | refine Z7 ?_))
  have hk1n:p.kind≠1:=by simpa using hc91
  refine zR (zC ?_)
  refine zA (zN ?_)
  refine zI ?_ ?_<;>intro hc107
  ·
   have hk3:p.kind=3:=by simpa using hc107
   obtain ⟨A,Lt,B,hLr,hOt,hset⟩:=hAllR.at p.sign
   subst hLr
   have hq0:=zof hrm hOt
   have hq2:(Z9 (ps.take k) ws).length≤k:=Nat.le_trans (List.length_filter_le ..) (List.length_take_le k ps)
   have hD:=zAh I2
   refine Jl ?_
   refine Z0 I2 [(b_12,.cells (Yx p).toArray 57 (0,0)),(b_6,.cells #[.map (some r9),.map (some r_37),.map (some r_38),.slice va vn vc] 159 (0,0))] mixed ?_
   refine zT 0 rfl (Qd rfl U4) hD ?_
   refine zT 1 rfl (Qe rfl zgd (fun hg=>by exact QT.h1 rfl)) hD ?_
   refine zT 2 rfl (Qd rfl Yc) hD ?_
   refine zT 3 rfl (Qe rfl Qr (fun hg=>by exact QT.h0 rfl)) hD ?_
   refine zT 4 rfl (Qd rfl U4) hD ?_
   refine zT 5 rfl (Qe rfl zgd (fun hg=>by exact QT.h1 rfl)) hD ?_
   refine zT 6 rfl (Qd rfl Yc) hD ?_
   refine zT 7 rfl (Qe rfl Qr (fun hg=>by exact QT.h0 rfl)) hD ?_
   refine zT 9 rfl (Qd rfl Zw) hD ?_
   refine zT 10 rfl (Qe rfl Qr (fun hg=>by exact QT.h0 rfl)) hD ?_
   refine Zt 8 11 rfl rfl (by kernel_rfl) ?_ ?_
   ·
    refine zV (VH (m:=mr) (ek:=Value.int .i64) (a:=p.sign) Va ZG rfl rfl (fun _=>.inr (by simp))) ?_
    refine Qb ?_
    refine zD hD ?_
    refine qd 11 rfl ?_
    refine Qq (ps:=[(0,_)]) (m:=[QQ p.id]) Zh rfl (.cons rfl (.nil)) rfl (by simp [Qv]) (by decide) (by decide) rfl rfl (fun b_120=>?_)
    refine Qb ?_
    refine zD hD ?_
    refine qd 12 rfl ?_
    refine QY (v:=_) (ys:=[p.id].flatMap QQ) (L:=Lt) rfl rfl Zh hOt (by repeat (first | exact .cons .here .nil | exact QD | exact Qx | apply QC | apply QB)) ⟨rfl,fun _=>rfl,zAf⟩ (Kk [p.id]) (by omega) rfl rfl ?_
    intro v9 L9 hO9 _
    refine Qb ?_
    refine zD hD ?_
    refine qd 13 rfl ?_
    refine Q7 (m:=mr) (ek:=Value.int .i64) (ev:=Xp) (a:=p.sign) (v9,((ZE mr p.sign).getD Jw).2.1+1,((ZE mr p.sign).getD Jw).2.2++[p.id].flatMap QQ) Va ZG rfl rfl rfl rfl (by (repeat (first | exact Upd.here | apply Upd.there | apply QK))) ?_
    refine Qb ?_
    refine zD hD ?_
    refine QF (by kernel_rfl) ?_
    refine QO ?_
    refine Qf (Qf (Qa (Qg (zB ?_))))
    refine zM (Qb ?_)
    first
    | exact JD _ _ (L9++((r_42,_)::(Lg++((r_38,_)::(r_37,_)::(b_6,_)::(Ls++(A++B)))))) ⟨n-(k+1),by omega,k+1,s,_,q,Lg,ms,Ls,_,A++(L9++B),rfl,rfl,rfl,rfl,by omega,by rw [hT];exact hkn.skip (by omega),by rw [hT,zb8 (by omega)];exact hO,by omega,by rw [hT];exact hsm.skip (by omega),hAllS,by rw [hT];exact hrm.put' hk3,hset (v9,_,_) L9 hO9,by rw [hT,List.all_append,hfit];simp [hfp]⟩ (.cons rfl (.cons rfl (.cons rfl (.cons rfl (.cons rfl (.cons rfl .nil)))))) zpx (by repeat (first | exact .refl | exact Zj | refine Yk ?_ | refine .drop ?_ | refine Z7 ?_))
   refine Qq (ps:=[(0,_)]) (m:=[QQ p.id]) Zh rfl (.cons rfl (.nil)) rfl (by simp [Qv]) (by decide) (by decide) rfl rfl (fun b_120=>?_)
   refine Qb ?_
   refine zD hD ?_
   refine qd 8 rfl ?_
   refine zV (VH (m:=mr) (ek:=Value.int .i64) (a:=p.sign) Va ZG rfl rfl (fun _=>.inr (by simp))) ?_
   refine Qb ?_
   refine zD hD ?_
   refine qd 12 rfl ?_
   refine QY (v:=_) (ys:=[p.id].flatMap QQ) (L:=Lt) rfl rfl Zh hOt (by repeat (first | exact .cons .here .nil | exact QD | exact Qx | apply QC | apply QB)) ⟨rfl,fun _=>rfl,zAf⟩ (Kk [p.id]) (by omega) rfl rfl ?_
   intro v9 L9 hO9 _
   refine Qb ?_
   refine zD hD ?_
   refine qd 13 rfl ?_
   refine Q7 (m:=mr) (ek:=Value.int .i64) (ev:=Xp) (a:=p.sign) (v9,((ZE mr p.sign).getD Jw).2.1+1,((ZE mr p.sign).getD Jw).2.2++[p.id].flatMap QQ) Va ZG rfl rfl rfl rfl (by (repeat (first | exact Upd.here | apply Upd.there | apply QK))) ?_
   refine Qb ?_
   refine zD hD ?_
   refine QF (by kernel_rfl) ?_
   refine QO ?_
   refine Qf (Qf (Qa (Qg (zB ?_))))
   refine zM (Qb ?_)
   first
   | exact JD _ _ (L9++((r_42,_)::(Lg++((r_38,_)::(r_37,_)::(b_6,_)::(Ls++(A++B)))))) ⟨n-(k+1),by omega,k+1,s,_,q,Lg,ms,Ls,_,A++(L9++B),rfl,rfl,rfl,rfl,by omega,by rw [hT];exact hkn.skip (by omega),by rw [hT,zb8 (by omega)];exact hO,by omega,by rw [hT];exact hsm.skip (by omega),hAllS,by rw [hT];exact hrm.put' hk3,hset (v9,_,_) L9 hO9,by rw [hT,List.all_append,hfit];simp [hfp]⟩ (.cons rfl (.cons rfl (.cons rfl (.cons rfl (.cons rfl (.cons rfl .nil)))))) zpx (by repeat (first | exact .refl | exact Zj | refine Yk ?_ | refine .drop ?_ | refine Z7 ?_))
  have hk3n:p.kind≠3:=by simpa using hc107
  refine Qn (Qf (Qf (Qa (Qg (zB ?_)))))
  refine zM (Qb ?_)
  first
  | exact zm (h:=⟨n-(k+1),by omega,k+1,_,_,_,_,_,_,_,_,rfl,rfl,rfl,rfl,by omega,by rw [hT];exact hkn.skip hk2n,by rw [hT,zb8 hk2n];exact hO,by omega,by rw [hT];exact hsm.skip hk1n,hAllS,by rw [hT];exact hrm.skip' hk3n,hAllR,by rw [hT,List.all_append,hfit];simp [hfp]⟩)
 have hge_k:n≤k:=by have h:=hc56;simp at h;omega
 have hTn:Z9 (ps.take k) ws=Z9 ps ws:=by rw [ZH hP.len hge_k]
 rw [hTn] at hkn hO hsm hrm hfit
 have hfitB:zhd bs (Z9 ps ws)=true:=hfit
 refine QI (Qh (Qh (Qk (Qa (zR ?_)))))
 refine zF Wf ?_
 refine zV (Qe rfl zd1 (fun hg=>by (repeat (first | exact zAc rfl | apply zAb | apply zAd)))) ?_
 refine Qz (cap:=[]) (vs:=[_,_]) rfl rfl zr8 (by repeat (first | exact .cons .here .nil | exact QD | exact Qx | apply QC | apply QB)) (zrl 54 _ hO (by omega) _) rfl rfl ?_
 rintro vv5 I5 L5 hI5 ⟨rfl,rfl,zs2,hperm,hsort,hO2⟩
 have hP:=hP.mono hI5;have hOn:=hOn.mono hI5;have hIc:=hIc.trans hI5
 refine Qb ?_
 have hz2:zs2=Wk bs (Z9 ps ws):=zmw (ziM (zeS hcg).2) (XA hSto hVer) hfitB hperm hsort
 rw [hz2] at hO2
 refine Qa (zR ?_)
 refine zV (Qo rfl Vx (fun hg=>by (repeat (first | exact zAf | apply zAe | apply zAg))) rfl) ?_
 refine Y1 rfl rfl UB rfl rfl rfl rfl (by (repeat (first | exact Upd.here | apply Upd.there | apply QK))) ?_
 refine zA (zN (Qt ?_))
 first
 | exact Zu rfl rfl rfl Vx (by repeat (first | exact zAf | apply zAe | apply zAg)) rfl (fun w hw=>by obtain ⟨I9,h91,h92,h93⟩:=hw.freezeAll;obtain ⟨av9,c9,hv9,hS9⟩:=hO2.sl Z6 (by decide) (fun b o hb=>h93 b o (by simp [hb]));cases hv9;exact ⟨_,I9,[],rfl,hIc.trans h91,h92,rfl,_,_,_,_,_,_,by rw [zzh hck hcg hcv hfitB],fun _=>⟨_,_,_,rfl,rfl,rfl,⟨hOn.mono h91,⟨ms,h93 r_37 _ (by simp),ztU hsm hAllS (fun b o hb=>h93 b o (by simp [hb]))⟩,⟨mr,h93 r_38 _ (by simp),zoI hrm hAllR (fun b o hb=>h93 b o (by simp [hb]))⟩,hS9,fun p hp=>(Y3.1 hp).1,fun p hp=>(hP.2 p hp).mono h91,hL,by rw [hP.len];exact hn5,Nat.le_trans (List.length_filter_le ..) (by rw [hP.len];exact hn5)⟩⟩⟩)
end
section
open Go Go.Kn Go.Proofs
def zeH (P:Pt→Bool)(xs:List Pt):List Int:=(xs.filter P).map (·.id)
theorem zhY {P:Pt→Bool}{xs:List Pt}:zeH P (xs.take 0)=[]:=by unfold zeH;simp
theorem zne {P:Pt→Bool}{xs:List Pt}{k:Nat}{p:Pt}(hp:xs[k]? =some p)(h:P p=true):zeH P (xs.take (k+1))=zeH P (xs.take k)++[p.id]:=by
 unfold zeH
 rw [Z4 hp,List.filter_append,List.filter_cons,if_pos h];simp
theorem zrL {P:Pt→Bool}{xs:List Pt}{k:Nat}{p:Pt}(hp:xs[k]? =some p)(h:P p=false):zeH P (xs.take (k+1))=zeH P (xs.take k):=by
 unfold zeH
 rw [Z4 hp,List.filter_append,List.filter_cons,if_neg (by rw [h];exact Bool.false_ne_true)];simp
def zxC (on:Int→Int→Bool)(l:List Pt)(s:Int)(p:Pt):Bool:=(rmF l s).any fun i=> !on i p.id
def unL (on:Int→Int→Bool)(l:List Pt)(s f:Int):List Int:=zeH (zxC on l s) (stF l s f)
def unK (on:Int→Int→Bool)(l:List Pt)(s:Int)(k:Nat):List Int:=(List.range k).flatMap fun (j:Nat)=>unL on l s ((j:Int)+1)
theorem zf3 (on:Int→Int→Bool)(l:List Pt)(s:Int)(k:Nat):unK on l s (k+1)=unK on l s k++unL on l s ((k:Int)+1):=by
 unfold unK
 rw [List.range_succ,List.flatMap_append];simp
theorem zqn {on:Int→Int→Bool}{l:List Pt}{s:Int}(k:Nat):(unK on l s k).length≤k*l.length:=by
 induction k with
 | zero=>simp [unK]
 | succ k ih=>
  rw [zf3,List.length_append,Nat.succ_mul]
  have h1:(unL on l s ((k:Int)+1)).length≤l.length:=by
   unfold unL zeH
   rw [List.length_map]
   exact Nat.le_trans (List.length_filter_le ..) WL
  omega
theorem znT {on:Int→Int→Bool}{l xs:List Pt}{s:Int}{k j e q:Nat}{v:Value}{P:Pt→Bool}{L:Go.Kn.Loc}(hO:OwnS e 1 v q ((unK on l s k++zeH P (xs.take j)).flatMap QQ) L)(hk:k≤9)(hl:l.length≤512)(hx:xs.length≤512):q≤10000:=by
 have h1:=hO.1
 rw [zzQ,List.length_append] at h1
 have h2:(unK on l s k).length≤9*512:=Nat.le_trans (zqn k) (Nat.mul_le_mul hk hl)
 have h3:(zeH P (xs.take j)).length≤xs.length:=by
  unfold zeH
  rw [List.length_map]
  refine Nat.le_trans (List.length_filter_le ..) ?_
  rw [List.length_take];omega
 omega
theorem zjl {on:Int→Int→Bool}{l:List Pt}{s:Int}(hok:∀ p∈l,zsY p){x:Int}:x∈unK on l s 9↔x∈(unF on l s).map (·.id):=by
 unfold unK unL zeH unF unB
 rw [List.mem_flatMap]
 simp only [List.mem_map,List.mem_filter,List.mem_range,UH,Bool.and_eq_true,beq_iff_eq]
 constructor
 ·
  rintro ⟨j,hj,p,⟨⟨hp,hk,hs,hf⟩,hu⟩,rfl⟩
  exact ⟨p,⟨hp,hs,hk,by rw [hs];exact hu⟩,rfl⟩
 ·
  rintro ⟨p,⟨hp,hs,hk,hu⟩,rfl⟩
  have hf:=((hok p hp).set hk).1
  unfold isF at hf
  refine ⟨(p.field-1).toNat,by omega,p,⟨⟨hp,hk,hs,by omega⟩,by rw [hs] at hu;exact hu⟩,rfl⟩
theorem zzg {on:Int→Int→Bool}{l:List Pt}{s:Int}(hok:∀ p∈l,zsY p):((((rmF l s).length:Int)==0)||decide (((unK on l s 9).length:Int)>0))=exB on l s:=by
 unfold exB
 have h1:(unK on l s 9).length=0↔unF on l s=[]:=by
  constructor
  ·
   intro h
   have h2:=List.length_eq_zero_iff.1 h
   cases hu:unF on l s with
   | nil=>rfl
   | cons p us=>
    have:p.id∈unK on l s 9:=(zjl hok).2 (by rw [hu];simp)
    rw [h2] at this;cases this
  ·
   intro h
   cases hu:unK on l s 9 with
   | nil=>rfl
   | cons x us=>
    have:x∈(unF on l s).map (·.id):=(zjl hok).1 (by rw [hu];simp)
    rw [h] at this;cases this
 congr 1
 ·
  cases rmF l s with
  | nil=>rfl
  | cons x us=>simp;omega
 ·
  cases hu:unF on l s with
  | nil=>rw [h1.2 hu];rfl
  | cons p us=>
   have:(unK on l s 9).length≠0:=fun h=>by rw [h1.1 h] at hu;cases hu
   simp;omega
theorem zvt {ps l:List Pt}(hsub:∀ p∈l,p∈ps){s i:Int}(h:i∈rmF l s):∃ q∈ps,q.id=i:=by
 obtain ⟨q,hq,_,_,e⟩:=ztp.1 h
 exact ⟨q,hsub q hq,e⟩
theorem zvW {l:List Pt}{s:Int}:(rmF l s).length≤l.length:=zae (c:=3)
def zdd (on:Int→Int→Bool)(xs:List Pt)(p:Pt):Bool:= !xs.any fun q=>on q.id p.id
theorem zuX (on:Int→Int→Bool)(l:List Pt)(s f:Int):XP on l s f=(stF l s f).filter (zdd on (stF l s f)):=rfl
theorem Xe {P:Pt→Bool}{xs:List Pt}{k:Nat}{p:Pt}(hp:xs[k]? =some p)(h:P p=true):(xs.take (k+1)).filter P=(xs.take k).filter P++[p]:=by
 rw [Z4 hp,List.filter_append,List.filter_cons,if_pos h];simp
theorem za4 {P:Pt→Bool}{xs:List Pt}{k:Nat}{p:Pt}(hp:xs[k]? =some p)(h:P p=false):(xs.take (k+1)).filter P=(xs.take k).filter P:=by
 rw [Z4 hp,List.filter_append,List.filter_cons,if_neg (by rw [h];exact Bool.false_ne_true)];simp
theorem zk1 {P:Pt→Bool}{xs:List Pt}{k:Nat}{p:Pt}(hp:xs[k]? =some p)(h:P p=true):(xs.take k).filter P++[p]<+:xs.filter P:=by
 rw [←Xe hp h]
 exact ⟨(xs.drop (k+1)).filter P,by rw [←List.filter_append,List.take_append_drop]⟩
end
section
open Go Go.Kn Go.Proofs
theorem zyB {I:Qu}{b1 b2 r1 r2 r3:Nat}{av:Option Addr}{n c:Nat}{p:Pt}{ps:List Pt}(h1:I b1=some (.cells #[.map (some r1),.map (some r2),.map (some r3),.slice av n c] 159 (0,0)))(h2:I b2=some (.cells (Yx p).toArray 57 (0,0)))(hOn:OnM I r1 ps)(id:Int)(hid:∃ q∈ps,q.id=id):Zy Tryz.prog 232 [.int .i64 id,.pointer (some ⟨b1,0,none⟩),.pointer (some ⟨b2,0,none⟩)] I (.bool (!onF ps id p.id)):=by
 intro g H w hw
 refine qe Tryz.func232 Tryz.ntmps232 hw ?_
 obtain ⟨m,hm1,hm2⟩:=hOn
 obtain ⟨ref,hget,sn,hsn,hsq⟩:=hm2.get hid
 refine zR (zA ?_)
 refine zN (zR ?_)
 refine zF zdx ?_
 refine zV (Qe rfl zh3 (fun hg=>by exact .imm h1 rfl)) ?_
 refine zM ?_
 refine zV (YM (m:=m) (ek:=Value.int .i64) (ev:=zcP) (a:=id) hget KP ZG rfl rfl (fun _=>.inl hm1)) ?_
 refine zF Zw ?_
 refine zV (Qe rfl Qr (fun hg=>by exact .imm h2 rfl)) ?_
 refine zV (Ya (m:=sn) VK ZG rfl rfl (fun _=>.inl hsn)) ?_
 refine zO ?_
 refine zA (zN (Qt ?_))
 exact zr rfl rfl (by rw [show (ZE sn p.id).getD false=onF ps id p.id from hsq.mem _])
theorem zm2 {I:Qu}{ps l:List Pt}{xs:List Sg}{r1 r2 r3:Nat}{av:Option Addr}{n c:Nat}(hx:StQ I ps l xs r1 r2 r3 av n c)(s:Int):Yf Tryz.prog 193 [stA r1 r2 r3 av n c,.int .i64 s] I [] (zbv 1 QQ (unK (onF ps) l s 9)):=by
 intro g H w hw
 refine qe Tryz.func193 Tryz.ntmps193 hw ?_
 have hIc:=zAh I
 obtain ⟨ms,hms,hset⟩:=hx.set
 obtain ⟨mr,hmr,hrem⟩:=hx.rem
 obtain ⟨av3,c3,hv3,hS3⟩:=hrem s
 have hfl:=hx.fewl
 have hrl:=zvW (l:=l) (s:=s)
 refine zR ?_
 refine Q2 rfl rfl rfl (fun b_2=>?_)
 refine zA (zN (Ql (Ql ?_)))
 refine XN ((b_2,.cells #[.map (some r1),.map (some r2),.map (some r3),.slice av n c] 159 (0,0))::[]) .refl ?_
 refine Qg (zA (zN (Qm ?_)))
 refine zU [(1,_),(2,_)] (fun T L0 mz E I' loc'=>∃ (k:Nat) (v:Value) (q:Nat) (L:Go.Kn.Loc),mz=9-k∧E=(4,v)::(5,.int .i64 ((k:Int)+1))::T∧I=I'∧(b_2,.cells #[.map (some r1),.map (some r2),.map (some r3),.slice av n c] 159 (0,0))::L=loc'∧k≤9∧OwnS 3 1 v q ((unK (onF ps) l s k).flatMap QQ) L∧True) ?_ (h:=⟨0,_,0,[],rfl,rfl,rfl,rfl,Nat.zero_le _,OwnS.nil,trivial⟩)
 rintro mz E I' loc' ⟨k,v,q,L,rfl,rfl,rfl,rfl,hk,hO,_⟩
 refine Ql (zR (zM ?_))
 refine zC (zN ?_)
 refine zI ?_ ?_<;>intro hc9
 ·
  have hlt_k:k<9:=by have h:=hc9;simp at h;omega
  refine Qn (Qa (Ql (Qm (Ql ?_))))
  obtain ⟨av2,c2,hv2,hS2⟩:=hset (s,(k:Int)+1)
  dsimp only at hv2 hS2
  have hstl:=WL (l:=l) (s:=s) (f:=(k:Int)+1)
  refine Qg ?_
  refine zF zaF ?_
  refine zL zfg ?_
  refine zM ?_
  refine zM ?_
  refine zV (Zz (ps:=[(0,_),(1,_)]) [_,_] Y0 Ub rfl rfl) ?_
  refine zV (YG (m:=ms) (ek:=YD) (a:=(s,(k:Int)+1)) hv2 zej za7 rfl rfl (fun _=>.inl hms)) ?_
  refine zQ ZB ?_
  refine zM (zN (Qm ?_))
  refine zU [(1,_),(2,_),(5,_),(17,_),(18,_)] (fun T L0 mz E I' loc'=>∃ (j:Nat) (v:Value) (q:Nat) (L:Go.Kn.Loc),mz=(stF l s ((k:Int)+1)).length-j∧E=(4,v)::(19,.int .i64 j)::T∧I=I'∧(b_2,.cells #[.map (some r1),.map (some r2),.map (some r3),.slice av n c] 159 (0,0))::L=loc'∧j≤(stF l s ((k:Int)+1)).length∧OwnS 3 1 v q ((unK (onF ps) l s k++zeH (zxC (onF ps) l s) ((stF l s ((k:Int)+1)).take j)).flatMap QQ) L∧True) ?_ (h:=⟨0,v,q,L,rfl,rfl,rfl,rfl,Nat.zero_le _,by rw [zhY,List.append_nil];exact hO,trivial⟩)
  rintro mz E I' loc' ⟨j,v,q,L,rfl,rfl,rfl,rfl,hj,hO,_⟩
  refine zR (zC (zN (Ql ?_)))
  refine zI ?_ ?_<;>intro hc20
  ·
   have hlt_j:j<(stF l s ((k:Int)+1)).length:=by have h:=hc20;simp at h;omega
   obtain ⟨p,hp⟩:=hS2.at hlt_j
   refine Qn (Qa (Ql (Qm (zR ?_))))
   refine zV (QE rfl rfl ZB (by assumption) (fun hg=>by omega)) ?_
   refine zV (Qo rfl Yv (fun hg=>by exact zAi hS2 hp) rfl) ?_
   refine Qs Uu rfl rfl (fun b_7=>?_)
   refine zh V9 ?_
   refine zN (zR ?_)
   refine zF U4 ?_
   refine zL zgd ?_
   refine zM ?_
   refine zV (YG (m:=mr) (ek:=Value.int .i64) (a:=s) hv3 Va ZG rfl rfl (fun _=>.inl hmr)) ?_
   refine zV (Zd (us:=[]) (vs:=[_,_]) rfl rfl) ?_
   refine Wg (cap:=[]) (vs:=[_,_]) rfl rfl ziS QD (zlv.ofV fun I' hI' hL'=>zuH (cap:=[.pointer (some ⟨b_2,0,none⟩),.pointer (some ⟨b_7,0,none⟩)]) (hS3.mono hI') (by omega) zsV (fun i hi=>zyB (b1:=b_2) (b2:=b_7) (r1:=r1) (r2:=r2) (r3:=r3) (av:=av) (n:=n) (c:=c) (p:=p) (hL' b_2 _ (by simp)) (hL' b_7 _ (by simp)) (hx.on.mono hI') i (zvt hx.sub hi))) rfl rfl ?_
   refine zN ?_
   refine zI ?_ ?_<;>intro hc28
   ·
    have hq:=znT hO (by omega) hfl (by omega)
    refine Qg (zM ?_)
    refine zF Zw ?_
    refine zL Qr ?_
    refine Qq (ps:=[(0,_)]) (m:=[QQ p.id]) Zh rfl (.cons rfl (.nil)) rfl (by simp [Qv]) (by decide) (by decide) rfl rfl (fun b_32=>?_)
    refine QY (v:=_) (ys:=[p.id].flatMap QQ) (L:=L) rfl rfl Zh hO (by repeat (first | exact .cons .here .nil | exact QD | exact Qx | apply QC | apply QB)) ⟨rfl,fun _=>rfl,zAf⟩ (Kk [p.id]) (by omega) rfl rfl ?_
    intro v9 L9 hO9 _;rw [←List.flatMap_append,List.append_assoc] at hO9
    refine zA (Qb (Qf (Qa (Qg ?_))))
    refine zB ?_
    refine zM (Qb ?_)
    first
    | exact JD _ _ (L9++[(b_2,_)]) ⟨(stF l s ((k:Int)+1)).length-(j+1),by omega,j+1,_,_,L9,rfl,rfl,rfl,rfl,by omega,by rw [zne (P:=zxC (onF ps) l s) hp hc28];exact hO9,trivial⟩ (.cons rfl (.cons rfl (.cons rfl (.cons rfl (.cons rfl (.cons rfl (.cons rfl .nil))))))) (zdm _ _) (by repeat (first | exact .refl | exact Zj | refine Yk ?_ | refine .drop ?_ | refine Z7 ?_))
   refine Qn (Qf (Qa (Qg (zB ?_))))
   refine zM (Qb ?_)
   first
   | exact zm (h:=⟨(stF l s ((k:Int)+1)).length-(j+1),by omega,j+1,_,_,_,rfl,rfl,rfl,rfl,by omega,by rw [zrL (P:=zxC (onF ps) l s) hp hc28];exact hO,trivial⟩)
  have hge_j:(stF l s ((k:Int)+1)).length≤j:=by have h:=hc20;simp at h;omega
  rw [ZH rfl hge_j] at hO
  refine QI (Qh (Qh (Qk (Qf (Qa (Qg (zM ?_)))))))
  refine zB ?_
  refine zA (Qb ?_)
  exact zm (h:=⟨9-(k+1),by omega,k+1,_,_,_,rfl,rfl,rfl,rfl,by omega,by rw [zf3];exact hO,trivial⟩)
 have hge_k:9≤k:=by have h:=hc9;simp at h;omega
 have hk9:k=9:=by omega
 subst hk9
 refine QI (Qh (Qh (Qk (Qa (zR (zM ?_))))))
 refine zA (zN (Qt ?_))
 exact Zx rfl rfl (fun w hw=>by obtain ⟨I9,h91,h92,h93⟩:=OwnS.res hO Qv (by decide) (hw.subL (by repeat (first | exact .refl | refine .drop ?_)));exact ⟨_,I9,[],rfl,hIc.trans h91,h92,h93⟩)
theorem zje {I:Qu}{ps l:List Pt}{xs:List Sg}{r1 r2 r3:Nat}{av:Option Addr}{n c:Nat}(hx:StQ I ps l xs r1 r2 r3 av n c)(s:Int):Yf Tryz.prog 193 [stA r1 r2 r3 av n c,.int .i64 s] I [] (fun u _I9 L9=>L9=[]∧∃ a9 c9,u= .slice a9 (unK (onF ps) l s 9).length c9):=
 (zm2 hx s).mono fun v I' L' _ h=>by
  obtain ⟨h1,a9,c9,h2,_⟩:=h
  exact ⟨h1,a9,c9,h2⟩
theorem zm4 {I:Qu}{ps l:List Pt}{xs:List Sg}{r1 r2 r3:Nat}{av:Option Addr}{n c:Nat}(hx:StQ I ps l xs r1 r2 r3 av n c)(hok:∀ p∈l,zsY p)(s:Int):Zy Tryz.prog 143 [stA r1 r2 r3 av n c,.int .i64 s] I (.bool (exB (onF ps) l s)):=by
 intro g H w hw
 refine qe Tryz.func143 Tryz.ntmps143 hw ?_
 have hIc:=zAh I
 obtain ⟨mr,hmr,hrem⟩:=hx.rem
 obtain ⟨av3,c3,hv3,hS3⟩:=hrem s
 refine zR ?_
 refine Q2 rfl rfl rfl (fun b_2=>?_)
 refine zA ?_
 refine zN (zR ?_)
 refine zF U4 ?_
 refine zL zgd ?_
 refine zM ?_
 refine zV (YG (m:=mr) (ek:=Value.int .i64) (a:=s) hv3 Va ZG rfl rfl (fun _=>.inl hmr)) ?_
 refine zQ Qw ?_
 refine zC ?_
 refine zM ?_
 refine QR 6 rfl rfl rfl ?_
 refine zJ (Qo rfl Vx (fun hg=>by exact Cells.g0) rfl) ?_
 refine zJ (Qi rfl) ?_
 refine zjS (cap:=[]) (vs:=[_,_]) rfl rfl zsL (fun hg=>zje hx s) ⟨_,rfl,none,0,rfl⟩ (.some rfl rfl rfl rfl gbf) rfl rfl ?_
 rintro vv I9 L9 hI9 ⟨rfl,a9,c9,rfl⟩
 have hIc:=hIc.trans hI9
 refine zJ (Zr rfl Qw) ?_
 refine zJ (QG rfl rfl rfl) ?_
 refine Zo rfl rfl rfl rfl rfl ?_
 refine zA (zN (Qt ?_))
 exact zp hIc rfl rfl (by rw [←zzg hok])
end
section
open Go Go.Kn Go.Proofs
theorem zsu {I:Qu}{b1 b2 r1 r2 r3:Nat}{av:Option Addr}{n c:Nat}{p:Pt}{ps:List Pt}(h1:I b1=some (.cells #[.map (some r1),.map (some r2),.map (some r3),.slice av n c] 159 (0,0)))(h2:I b2=some (.cells (Yx p).toArray 57 (0,0)))(hOn:OnM I r1 ps)(q:Pt)(hid:∃ z∈ps,z.id=q.id):Zy Tryz.prog 195 [WJ q,.pointer (some ⟨b1,0,none⟩),.pointer (some ⟨b2,0,none⟩)] I (.bool (onF ps q.id p.id)):=by
 intro g H w hw
 refine qe Tryz.func195 Tryz.ntmps195 hw ?_
 obtain ⟨m,hm1,hm2⟩:=hOn
 obtain ⟨ref,hget,sn,hsn,hsq⟩:=hm2.get hid
 refine zR ?_
 refine Q2 rfl rfl rfl (fun b_3=>?_)
 refine zA ?_
 refine zN (zR ?_)
 refine zF zdx ?_
 refine zV (Qe rfl zh3 (fun hg=>by exact .imm h1 rfl)) ?_
 refine zF Zw ?_
 refine zL Qr ?_
 refine zV (YM (m:=m) (ek:=Value.int .i64) (ev:=zcP) (a:=q.id) hget KP ZG rfl rfl (fun _=>.inl hm1)) ?_
 refine zF Zw ?_
 refine zV (Qe rfl Qr (fun hg=>by exact .imm h2 rfl)) ?_
 refine zV (Ya (m:=sn) VK ZG rfl rfl (fun _=>.inl hsn)) ?_
 refine zA (zN (Qt ?_))
 exact zr rfl rfl (by rw [show (ZE sn p.id).getD false=onF ps q.id p.id from hsq.mem _])
def zzT (I:Qu)(r1 r2 r3:Nat)(av:Option Addr)(n c:Nat)(s f:Int)(b1 b2 b3:Nat):Prop:=I b1=some (.cells #[.map (some r1),.map (some r2),.map (some r3),.slice av n c] 159 (0,0))∧I b2=some (.cells #[.int .i64 s] 3 (0,0))∧I b3=some (.cells #[.int .i64 f] 3 (0,0))
theorem zmJ (I:Qu)(r1 r2 r3:Nat)(av:Option Addr)(n c:Nat)(s f:Int):Yf Tryz.prog 144 [stA r1 r2 r3 av n c,.int .i64 s,.int .i64 f] I [] (fun v I' L=>L=[]∧∃ b1 b2 b3,v= .func (.func 194) #[] [Zc b1,Zc b2,Zc b3].toArray∧zzT I' r1 r2 r3 av n c s f b1 b2 b3):=by
 intro g H w hw
 refine qe Tryz.func144 Tryz.ntmps144 hw ?_
 have hIc:=zAh I
 refine zR ?_
 refine Q2 rfl rfl rfl (fun b_3=>?_)
 refine Q2 rfl rfl rfl (fun b_4=>?_)
 refine Q2 rfl rfl rfl (fun b_5=>?_)
 refine zA (zN (Ql ?_))
 refine Zg .here (fun I1 hI1 hb1=>?_)
 have hIc:=hIc.trans hI1
 have h3:=hb1
 refine Zg .here (fun I2 hI2 hb2=>?_)
 have hIc:=hIc.trans hI2
 have h2:=hb2
 have h3:=hI2 _ _ h3
 refine Zg .here (fun I3 hI3 hb3=>?_)
 have hIc:=hIc.trans hI3
 have h1:=hb3
 have h3:=hI3 _ _ h3;have h2:=hI3 _ _ h2
 refine Qg ?_
 refine zV (Zd (us:=[]) (vs:=[_,_,_]) rfl rfl) ?_
 refine zA (zN (Qt ?_))
 exact Zx rfl rfl (fun w hw=>⟨_,I3,[],rfl,hIc,hw.drop,rfl,b_3,b_4,b_5,rfl,h1,h2,h3⟩)
theorem zp5 {I : Qu} {ps l : List Pt} {xs : List Sg} {r1 r2 r3 : Nat} {av : Option Addr} {n c : Nat} (hx : StQ I ps l xs r1 r2 r3 av n c) {s f : Int} {b1 b2 b3 : Nat} (hcap : zzT I r1 r2 r3 av n c s f b1 b2 b3) : zz6 Tryz.prog 194 [Zc b1, Zc b2, Zc b3] I WJ (XP (onF ps) l s f) := by
  rw [zuX]
  intro g y J Jx hY I0 H w h0 hJ hw
  obtain ⟨h1, h2, h3⟩ := hcap
  have hx := hx.mono h0
  have h1 := h0 _ _ h1; have h2 := h0 _ _ h2; have h3 := h0 _ _ h3
  refine qe Tryz.func194 Tryz.ntmps194 hw ?_
  obtain ⟨ms, hms, hset⟩ := hx.set
  obtain ⟨av2, c2, hv2, hS2⟩ := hset (s, f)
  dsimp only at hv2 hS2
  have hln := Nat.le_trans (WL (l := l) (s := s) (f := f)) hx.fewl
  refine zR ?_
  refine zF zaF ?_
  refine zV (Qe rfl zfg (fun hg => by exact QT.imm h1 rfl)) ?_
  refine zV (Qe rfl Qr (fun hg => by exact QT.imm h2 rfl)) ?_
  refine zV (Qe rfl Qr (fun hg => by exact QT.imm h3 rfl)) ?_
  refine zV (Zz (ps := [(0, _), (1, _)]) [_, _] Y0 Ub rfl rfl) ?_
  refine zV (YG (m := ms) (ek := YD) (a := (s, f)) hv2 zej za7 rfl rfl (fun _ => .inl hms)) ?_
  refine zA ?_
  refine zN (zR ?_)
  refine zM ?_
  refine zQ ZB ?_
  refine zM (zN (Qm ?_))
  refine zex (fun m E I' H' loc' => ∃ (k : Nat), m = (stF l s f).length - k ∧ E = [(0, .func (.yield y) #[] #[]), (1, Zc b1), (5, .slice av2 (stF l s f).length c2), (14, .slice av2 (stF l s f).length c2), (15, .int .i64 (stF l s f).length), (16, .int .i64 k)] ∧ loc' = [] ∧ HLe I0 I' ∧ k ≤ (stF l s f).length ∧ J (((stF l s f).take k).filter (zdd (onF ps) (stF l s f))) I' H') _ _ _ ⟨0, rfl, rfl, rfl, zAh _, Nat.zero_le _, hJ⟩ (.cons rfl (.cons rfl (.cons rfl (.cons rfl (.cons rfl (.cons rfl .nil)))))) rfl ?_
  rintro m E I' H' loc' ⟨k, rfl, rfl, rfl, hI1, hk, hJk⟩
  have hS2 := hS2.mono hI1
  have hx := hx.mono hI1
  have h1 := hI1 _ _ h1
  have hI0 := h0.trans hI1
  refine zR (zC (zN (Ql ?_)))
  refine zI ?_ ?_ <;> intro hc17
  · skip
    have hlt : k < (stF l s f).length := by simpa using hc17
    obtain ⟨p, hp⟩ := hS2.at hlt
    refine Qn (Qa (Ql (Qm (zR ?_))))
    refine zV (QE rfl rfl ZB (by assumption) (fun hg => by omega)) ?_
    refine zV (Qo rfl Yv (fun hg => by exact zAi hS2 hp) rfl) ?_
    refine Qs Uu rfl rfl (fun b_7 => ?_)
    refine zh V9 ?_
    refine zN (Ql ?_)
    have hpc : ∀ {b : Bool} {G : Env}, ZY [(b, G)] = true → b = zdd (onF ps) (stF l s f) p → zdd (onF ps) (stF l s f) p = true := fun h e => by rw [← e]; simpa [ZY] using h
    refine Qg (zM ?_)
    refine zV (Zd (us := []) (vs := [_, _]) rfl rfl) ?_
    refine Wg (cap := []) (vs := [_, _]) rfl rfl zk8 QD (zlv.ofV fun I' hI' hL' => zuR (cap := [.pointer (some ⟨b1, 0, none⟩), .pointer (some ⟨b_7, 0, none⟩)]) (SlP.mono ⟨hS2, fun p hp => hx.nd p (hx.sub p (UH.1 hp).1)⟩ hI') (by omega) zqZ (fun q hq => zsu (b1 := b1) (b2 := b_7) (r1 := r1) (r2 := r2) (r3 := r3) (av := av) (n := n) (c := c) (p := p) (hI' _ _ h1) (hL' b_7 _ (by simp)) (hx.on.mono hI') q ⟨q, hx.sub q (UH.1 hq).1, rfl⟩)) rfl rfl ?_
    refine zO ?_
    refine zM ?_
    refine QH 4 rfl rfl rfl ?_
    refine zK (Qi rfl) ?_
    refine zK (Qo rfl Yv (fun hg => by exact Cells.g0) rfl) ?_
    refine zdk (vs := [_]) (Post := fun b I2 H2 => if b then J (((stF l s f).take k).filter (zdd (onF ps) (stF l s f)) ++ [p]) I2 H2 else Jx (((stF l s f).take k).filter (zdd (onF ps) (stF l s f)) ++ [p]) I2 H2) rfl rfl (.some rfl rfl rfl rfl gbt) rfl rfl (fun hcj => hY _ p _ _ (zk1 hp (hpc hcj rfl)) hI0 hJk) ?_
    rintro b I2 H2 hI2 hyes hno
    refine zK (Ve rfl) ?_
    refine QP rfl rfl rfl rfl rfl ?_
    refine zN ?_
    refine zI ?_ ?_ <;> intro hc29
    · skip
      refine Qt (Qp (Qc (Qc (Qp ?_))))
      first
      | (exact YR rfl (fun w hw => ⟨_, I2, H2, rfl, hI1.trans hI2, hw.drop, .inr ⟨_, zk1 hp (show zdd (onF ps) (stF l s f) p = true from ((Bool.and_eq_true _ _).mp (show (zdd (onF ps) (stF l s f) p && !b) = true from hc29)).1), by have hc : (zdd (onF ps) (stF l s f) p && !b) = true := hc29; rw [Bool.and_eq_true, Bool.not_eq_true'] at hc; have h9 := hyes (show ZY [(zdd (onF ps) (stF l s f) p, _)] = true from by rw [hc.1]; rfl); rw [hc.2] at h9; exact h9⟩⟩))
    · skip
      refine Qn (Qf (Qa (Qg (zB ?_))))
      refine zM (Qb ?_)
      have hyes := fun (e : zdd (onF ps) (stF l s f) p = true) => hyes (show ZY [(zdd (onF ps) (stF l s f) p, _)] = true from by rw [e]; rfl)
      have hno := fun (e : zdd (onF ps) (stF l s f) p = false) => hno (show ZY [(zdd (onF ps) (stF l s f) p, _)] = false from by rw [e]; rfl)
      have hc : (zdd (onF ps) (stF l s f) p && !b) = false := hc29
      have hJ2 : J (((stF l s f).take (k + 1)).filter (zdd (onF ps) (stF l s f))) I2 H2 := by
        cases hA : zdd (onF ps) (stF l s f) p with
        | true => rw [Xe hp hA]; rw [hA] at hc; have hb : b = true := by simpa using hc
                  subst hb; exact hyes hA
        | false => rw [za4 hp hA]; obtain ⟨e1, e2⟩ := hno hA; rw [e1, e2]; exact hJk
      exact XW rfl rfl rfl _ [] ⟨(stF l s f).length - (k + 1), by omega, k + 1, rfl, rfl, rfl, hI1.trans hI2, by omega, hJ2⟩ (.cons rfl (.cons rfl (.cons rfl (.cons rfl (.cons rfl (.cons rfl .nil)))))) (.drop .refl)
  · skip
    have hge : (stF l s f).length ≤ k := by simpa using hc17
    refine QI (Qh (Qh (Qk ?_)))
    first
    | (exact VI (YR rfl (fun w hw => ⟨_, I', H', rfl, hI1, hw, .inl (by rw [ZH rfl hge] at hJk; exact hJk)⟩)))
end
section
open Go Go.Kn Go.Proofs
theorem zaV {α:Type}{C:Cx}{E:Env}{I:Qu}{loc loc':Go.Kn.Loc}{Jc:List α→Qu→Go.Kn.Loc→Prop}{Jx:Code→List α→Qu→Go.Kn.Loc→Prop}{pre:List α}{id:Nat}(h:Jx (.exit id) pre I loc')(hs:KJ loc' loc):At C (zbo C.g C.H Jc Jx pre) (.exit id) E I loc:=fun _ _ _ hw=>⟨I,loc',h,hw.subL hs⟩
theorem zxS (I:Qu)(b:Nat)(x:Sg)(f:Int)(y:Sg)(hf:isF f):Yf Tryz.prog 145 [Zc b,.int .i64 f,JO y] I [(b,.cells (YU x).toArray 54 (0,0))] (fun v I' L=>v= .tuple #[]∧I'=I∧L=[(b,.cells (YU (Ju x f y)).toArray 54 (0,0))]):=by
 intro g H w hw
 refine qe Tryz.func145 Tryz.ntmps145 hw ?_
 refine zR ?_
 refine Q2 rfl rfl rfl (fun b_5=>?_)
 refine zN (zR ?_)
 refine zM (zN (Qm (zR ?_)))
 refine zC ?_
 refine zA (zN ?_)
 refine zI ?_ ?_<;>intro hc7
 ·
  have hfk:f=1:=by simpa using hc7
  subst hfk
  refine Qg (zM ?_)
  refine zF Jo ?_
  refine zL Qr ?_
  refine zV (Q1 rfl) ?_
  refine zF Jo ?_
  refine zS Z2 ?_
  refine Qb (Qf ?_)
  exact VI (YR rfl (fun w hw=>⟨_,I,_,rfl,zAh _,hw.subL (.drop .refl),rfl,rfl,rfl⟩))
 have hg1:f≠1:=by simpa using hc7
 refine zR (zC ?_)
 refine zA (zN ?_)
 refine zI ?_ ?_<;>intro hc14
 ·
  have hfk:f=2:=by simpa using hc14
  subst hfk
  refine Qg (zM ?_)
  refine zF Je ?_
  refine zL Qr ?_
  refine zV (Q1 rfl) ?_
  refine zF Je ?_
  refine zS Z2 ?_
  refine Qb (Qf ?_)
  exact VI (YR rfl (fun w hw=>⟨_,I,_,rfl,zAh _,hw.subL (.drop .refl),rfl,rfl,rfl⟩))
 have hg2:f≠2:=by simpa using hc14
 refine zR (zC ?_)
 refine zA (zN ?_)
 refine zI ?_ ?_<;>intro hc21
 ·
  have hfk:f=3:=by simpa using hc21
  subst hfk
  refine Qg (zM ?_)
  refine zF Y4 ?_
  refine zL Qr ?_
  refine zV (Q1 rfl) ?_
  refine zF Y4 ?_
  refine zS Z2 ?_
  refine Qb (Qf ?_)
  exact VI (YR rfl (fun w hw=>⟨_,I,_,rfl,zAh _,hw.subL (.drop .refl),rfl,rfl,rfl⟩))
 have hg3:f≠3:=by simpa using hc21
 refine zR (zC ?_)
 refine zA (zN ?_)
 refine zI ?_ ?_<;>intro hc28
 ·
  have hfk:f=4:=by simpa using hc28
  subst hfk
  refine Qg (zM ?_)
  refine zF Jr ?_
  refine zL Qr ?_
  refine zV (Q1 rfl) ?_
  refine zF Jr ?_
  refine zS Z2 ?_
  refine Qb (Qf ?_)
  exact VI (YR rfl (fun w hw=>⟨_,I,_,rfl,zAh _,hw.subL (.drop .refl),rfl,rfl,rfl⟩))
 have hg4:f≠4:=by simpa using hc28
 refine zR (zC ?_)
 refine zA (zN ?_)
 refine zI ?_ ?_<;>intro hc35
 ·
  have hfk:f=5:=by simpa using hc35
  subst hfk
  refine Qg (zM ?_)
  refine zF Jj ?_
  refine zL Qr ?_
  refine zV (Q1 rfl) ?_
  refine zF Jj ?_
  refine zS Z2 ?_
  refine Qb (Qf ?_)
  exact VI (YR rfl (fun w hw=>⟨_,I,_,rfl,zAh _,hw.subL (.drop .refl),rfl,rfl,rfl⟩))
 have hg5:f≠5:=by simpa using hc35
 refine zR (zC ?_)
 refine zA (zN ?_)
 refine zI ?_ ?_<;>intro hc42
 ·
  have hfk:f=6:=by simpa using hc42
  subst hfk
  refine Qg (zM ?_)
  refine zF Jm ?_
  refine zL Qr ?_
  refine zV (Q1 rfl) ?_
  refine zF Jm ?_
  refine zS Z2 ?_
  refine Qb (Qf ?_)
  exact VI (YR rfl (fun w hw=>⟨_,I,_,rfl,zAh _,hw.subL (.drop .refl),rfl,rfl,rfl⟩))
 have hg6:f≠6:=by simpa using hc42
 refine zR (zC ?_)
 refine zA (zN ?_)
 refine zI ?_ ?_<;>intro hc49
 ·
  have hfk:f=7:=by simpa using hc49
  subst hfk
  refine Qg (zM ?_)
  refine zF Jf ?_
  refine zL Qr ?_
  refine zV (Q1 rfl) ?_
  refine zF Jf ?_
  refine zS Z2 ?_
  refine Qb (Qf ?_)
  exact VI (YR rfl (fun w hw=>⟨_,I,_,rfl,zAh _,hw.subL (.drop .refl),rfl,rfl,rfl⟩))
 have hg7:f≠7:=by simpa using hc49
 refine zR (zC ?_)
 refine zA (zN ?_)
 refine zI ?_ ?_<;>intro hc56
 ·
  have hfk:f=8:=by simpa using hc56
  subst hfk
  refine Qg (zM ?_)
  refine zF Jp ?_
  refine zL Qr ?_
  refine zV (Q1 rfl) ?_
  refine zF Jp ?_
  refine zS Z2 ?_
  refine Qb (Qf ?_)
  exact VI (YR rfl (fun w hw=>⟨_,I,_,rfl,zAh _,hw.subL (.drop .refl),rfl,rfl,rfl⟩))
 have hg8:f≠8:=by simpa using hc56
 refine zR (zC ?_)
 refine zA (zN ?_)
 refine zI ?_ ?_<;>intro hc63
 ·
  have hfk:f=9:=by simpa using hc63
  subst hfk
  have hD:=zAh I
  refine Jl ?_
  refine Z0 I [(b_5,.cells (JO y).cells 54 (0,0))] mixed ?_
  refine zT 0 rfl (Qi rfl) hD ?_
  refine zT 1 rfl (Qi rfl) hD ?_
  refine zT 2 rfl (Qd rfl YZ) hD ?_
  refine zT 3 rfl (Qo rfl Vf (fun hg=>by exact Cells.s0 (vs:=[_,_]) rfl) rfl) hD ?_
  refine zT 4 rfl (Qd rfl Y2) hD ?_
  refine zT 5 rfl (Qo rfl Vf (fun hg=>by exact Cells.s0 (vs:=[_,_]) rfl) rfl) hD ?_
  refine zT 6 rfl (Q1 rfl) hD ?_
  refine zT 7 rfl (Qd rfl YZ) hD ?_
  refine qd 8 rfl ?_
  refine Vm rfl rfl Xq rfl rfl rfl rfl (by repeat (first | exact Upd.here | apply Upd.there | apply QK)) ?_
  refine Qb ?_
  refine zD hD ?_
  refine zT 9 rfl (Q1 rfl) hD ?_
  refine zT 10 rfl (Qd rfl Y2) hD ?_
  refine qd 11 rfl ?_
  refine Vm rfl rfl Xq rfl rfl rfl rfl (by repeat (first | exact Upd.here | apply Upd.there | apply QK)) ?_
  refine Qb ?_
  refine zD hD ?_
  refine QF (by kernel_rfl) ?_
  refine QO ?_
  refine Qf ?_
  exact VI (YR rfl (fun w hw=>⟨_,I,_,rfl,zAh _,hw.subL (.drop .refl),rfl,rfl,rfl⟩))
 have hg9:f≠9:=by simpa using hc63
 refine Qn (Qf ?_)
 first
 | (exfalso;unfold isF at hf;omega)
end
section
open Go Go.Kn Go.Proofs
def exL (on:Int→Int→Bool)(l:List Pt)(xs:List Sg):List Sg:=(xs.filter fun x=>exB on l x.id).map (zhI on l)
theorem ztZ {on:Int→Int→Bool}{l:List Pt}{xs:List Sg}{k:Nat}{x:Sg}(hx:xs[k]? =some x)(h:exB on l x.id=true):exL on l (xs.take (k+1))=exL on l (xs.take k)++[zhI on l x]:=by
 unfold exL
 rw [Z4 hx,List.filter_append,List.filter_cons,if_pos h];simp
theorem zyl {on:Int→Int→Bool}{l:List Pt}{xs:List Sg}{k:Nat}{x:Sg}(hx:xs[k]? =some x)(h:exB on l x.id=false):exL on l (xs.take (k+1))=exL on l (xs.take k):=by
 unfold exL
 rw [Z4 hx,List.filter_append,List.filter_cons,if_neg (by rw [h];exact Bool.false_ne_true)];simp
theorem zrt {on:Int→Int→Bool}{l:List Pt}{xs:List Sg}:exL on l (xs.take 0)=[]:=by unfold exL;simp
def exE (on:Int→Int→Bool)(l:List Pt)(xs:List Sg):Int:=if (exL on l xs).length>4096 then 2 else 0
def zlB (e:Int)(xs:List Sg):Value→Qu→Go.Kn.Loc→Prop:=fun v I' L=>L=[]∧∃ av c,v= .tuple #[.slice av xs.length c,.int .i64 e]∧Sl I' 14 YU av xs.length c xs
theorem zlB.empty {e:Int}{xs:List Sg}{I:Qu}(h:xs=[]):zlB e xs (.tuple #[.slice none 0 0,.int .i64 e]) I []:=by
 subst h
 exact ⟨rfl,none,0,rfl,.nil⟩
theorem zlB.good {e e':Int}{xs ys:List Sg}{I:Qu}{av:Option Addr}{n c:Nat}(h:e=e')(hx:ys=xs)(hS:Sl I 14 YU av n c ys):zlB e' xs (.tuple #[.slice av n c,.int .i64 e]) I []:=by
 subst h;subst hx
 have hn:=hS.len
 subst hn
 exact ⟨rfl,av,c,rfl,hS⟩
theorem zl3 {x:Sg}{f:Int}{l:List Pt}(h:l=[]):zn0 x f l=x:=by subst h;rfl
theorem zms {x:Sg}{f:Int}{l:List Pt}{p:Pt}(h:[p]<+:l):zn0 x f l=Ju x f p.nw:=by
 obtain ⟨t,rfl⟩:=h;rfl
theorem zfU {on:Int→Int→Bool}{l:List Pt}{x y:Sg}{k:Nat}(hy:y=zep on l x k):zn0 y ((k:Int)+1) (XP on l y.id ((k:Int)+1))=zep on l x (k+1):=by
 subst hy
 rw [zaP,(zeb k).1]
theorem zxV {k:Nat}(h:k<9):isF ((k:Int)+1):=by unfold isF;omega
theorem zkk {on:Int→Int→Bool}{l:List Pt}{x:Sg}:x=zep on l x 0:=rfl
theorem zrk {ps:List Pt}{bs:List Sg}{ws:List Int}(h:zaL ps bs ws≠0):zdL ps bs ws=zaL ps bs ws:=by unfold zdL;rw [if_pos h]
theorem zoi {ps:List Pt}{bs:List Sg}{ws:List Int}(h:zaL ps bs ws=0):zdL ps bs ws=exE (onF ps) (Z9 ps ws) (Wk bs (Z9 ps ws)):=by unfold zdL;rw [if_neg (by omega)];rfl
theorem zjP {ps:List Pt}{bs:List Sg}{ws:List Int}(h:zaL ps bs ws=0):Uf ps=0:=by
 by_cases h2:Uf ps=0
 ·
  exact h2
 ·
  rw [zsP h2] at h;exact h
theorem zyL {ps:List Pt}{bs:List Sg}{ws:List Int}(h:zaL ps bs ws=0):We bs=0:=by
 by_cases h2:We bs=0
 ·
  exact h2
 ·
  rw [zq5 (zjP h) h2] at h;exact h
theorem zuO {ps:List Pt}{bs:List Sg}{ws:List Int}(h:zaL ps bs ws=0):∀ p∈Z9 ps ws,zsY p:=fun p hp=>(zbz (zjP h)).ok p (Y3.1 hp).1
theorem zmO (bs:List Sg)(l:List Pt):(Wk bs l).length≤bs.length+l.length:=by
 have h:=(zcx l bs).length_eq
 rw [h,List.length_append]
 unfold zca
 rw [List.length_map]
 have:=List.length_filter_le (fun p:Pt=>p.kind==2) l
 omega
end
section
open Go Go.Kn Go.Proofs
theorem zhO {I:Qu}{ps l:List Pt}{xs:List Sg}{r1 r2 r3:Nat}{av:Option Addr}{n c:Nat}(hx:StQ I ps l xs r1 r2 r3 av n c)(hn:n≤100000)(hok:∀ p∈l,zsY p):Yf Tryz.prog 84 [stA r1 r2 r3 av n c] I [] (zlB (exE (onF ps) l xs) (zm0 (exE (onF ps) l xs) (exL (onF ps) l xs))):=by
 intro g H w hw
 refine zeF Tryz.func84 rfl Tryz.ntmps84 rfl hw ?_
 have hIc:=zAh I
 refine zR ?_
 refine Q2 rfl rfl rfl (fun b_1=>?_)
 refine zA ?_
 refine zA (zN (Ql (Ql ?_)))
 refine XN ((b_1,.cells #[.map (some r1),.map (some r2),.map (some r3),.slice av n c] 159 (0,0))::([]++MB _)) .refl ?_
 refine Qg ?_
 refine zF Wf ?_
 refine zL zd1 ?_
 refine zQ YW ?_
 refine zM (zN (Qm ?_))
 refine UE [(1,_),(9,_),(10,_)] (.cons rfl (.cons rfl (.cons rfl .nil))) (fun T L0 mz ms E I' loc'=>∃ (j:Nat) (v:Value) (q:Nat) (L:Go.Kn.Loc),mz=n-j∧E=(2,v)::(11,.int .i64 j)::T∧HLe I I'∧(b_1,.cells #[.map (some r1),.map (some r2),.map (some r3),.slice av n c] 159 (0,0))::(L++MB ms)=loc'∧j≤n∧OwnS 54 14 v q ((exL (onF ps) l (xs.take j)).flatMap YU) L∧q≤j) _ _ _ _ ⟨0,_,0,[],rfl,rfl,zAh _,rfl,Nat.zero_le _,by rw [zrt];exact OwnS.nil,Nat.le_refl _⟩ (.cons rfl (.cons rfl (.cons rfl (.cons rfl (.cons rfl .nil))))) (zAh _) rfl ?_
 rintro mz ms E J1 loc' ⟨j,v,q,L,rfl,rfl,hJ,rfl,hj,hO,hq⟩
 have hx:=hx.mono hJ;have hIc:=hIc.trans hJ
 have hB0:=hJ
 refine zR (zC (zN (Ql ?_)))
 refine zI ?_ ?_<;>intro hc12
 ·
  have hlt_j:j<n:=by have h:=hc12;simp at h;omega
  have hS:=hx.sg
  obtain ⟨x,hxx⟩:=hS.at hlt_j
  refine Qn (Qa (Ql (Qm (zR ?_))))
  refine zV (QE rfl rfl YW (by assumption) (fun hg=>by omega)) ?_
  refine zV (Qo rfl Q9 (fun hg=>by exact zAi hS hxx) rfl) ?_
  refine Qs Wv rfl rfl (fun b_5=>?_)
  refine zh Ye ?_
  refine zN (Ql (zR ?_))
  refine zV (Qo rfl Vx (fun hg=>by exact Cells.g1) rfl) ?_
  refine zF ZM ?_
  refine zL Qr ?_
  refine qc (vs:=[_,_]) rfl zsa (zm4 hx hok _) ?_
  refine zO (zN ?_)
  refine zI ?_ ?_<;>intro hc19
  ·
   have hex:=(Bool.not_eq_true' _).mp hc19
   refine QI (Qh (Qk (Qa (Qg (zB ?_)))))
   refine zM (Qb ?_)
   first
   | exact zd (h:=⟨n-(j+1),by omega,j+1,_,_,_,rfl,rfl,hB0,rfl,by omega,by rw [zyl hxx hex];exact hO,by omega⟩)
  have hex:=(Bool.not_eq_false' _).mp hc19
  refine Qn (Qa (Ql (zR ?_)))
  refine Qs zvz rfl rfl (fun b_6=>?_)
  refine zS Z2 ?_
  refine zN (Qm ?_)
  refine UE [(1,_),(2,_),(5,_),(9,_),(10,_),(11,_)] (.cons rfl (.cons rfl (.cons rfl (.cons rfl (.cons rfl (.cons rfl .nil)))))) (fun T L0 mz ms E I' loc'=>∃ (k:Nat) (b6:Nat) (y:Sg),mz=9-k∧E=(6,Zc b6)::T∧HLe J1 I'∧(b6,.cells #[.int .i64 ((k:Int)+1)] 3 (0,0))::(b_5,.cells (YU y).toArray 54 (0,0))::(b_1,.cells #[.map (some r1),.map (some r2),.map (some r3),.slice av n c] 159 (0,0))::(L++MB ms)=loc'∧k≤9∧y=zep (onF ps) l x k) _ _ _ _ ⟨0,b_6,x,rfl,rfl,zAh _,rfl,Nat.zero_le _,zkk⟩ (.cons rfl (.cons rfl (.cons rfl (.cons rfl (.cons rfl (.cons rfl (.cons rfl .nil))))))) (zAh _) rfl ?_
  rintro mz ms E J2 loc' ⟨k,b6,y,rfl,rfl,hJ,rfl,hk,hy⟩
  have hx:=hx.mono hJ;have hB0:=hB0.trans hJ
  have hB2:=hJ
  refine Ql (zR ?_)
  refine zL Qr ?_
  refine zC (zN ?_)
  refine zI ?_ ?_<;>intro hc21
  ·
   have hlt_k:k<9:=by have h:=hc21;simp at h;omega
   refine Qn (Qa (Ql (Qm (zR ?_))))
   refine zV (Qo rfl Vx (fun hg=>by exact Cells.g2) rfl) ?_
   refine zF ZM ?_
   refine zL Qr ?_
   refine zL Qr ?_
   refine Qz (cap:=[]) (vs:=[_,_,_]) rfl rfl zrS .nil (zmJ _ _ _ _ _ _ _ _ _) rfl rfl ?_
   rintro vv3 I3 L3 hI3 ⟨rfl,c1,c2,c3,rfl,hcap⟩
   have hx:=hx.mono hI3;have hB2:=hB2.trans hI3
   refine zN (Qm ?_)
   refine Xj (K:=[]) (L:=(b6,.cells #[.int .i64 ((k:Int)+1)] 3 (0,0))::(b_5,.cells (YU y).toArray 54 (0,0))::(b_1,.cells #[.map (some r1),.map (some r2),.map (some r3),.slice av n c] 159 (0,0))::L) (enc:=WJ) (xs:=XP (onF ps) l y.id ((k:Int)+1)) (fun pre I' loc'=>pre=[]∧loc'=(b6,.cells #[.int .i64 ((k:Int)+1)] 3 (0,0))::(b_5,.cells (YU y).toArray 54 (0,0))::(b_1,.cells #[.map (some r1),.map (some r2),.map (some r3),.slice av n c] 159 (0,0))::L) (fun cd pre I' loc'=>cd= .exit 4∧∃ p,pre=[p]∧loc'=(b_5,.cells (YU (Ju y ((k:Int)+1) p.nw)).toArray 54 (0,0))::(b6,.cells #[.int .i64 ((k:Int)+1)] 3 (0,0))::(b_1,.cells #[.map (some r1),.map (some r2),.map (some r3),.slice av n c] 159 (0,0))::L) (fun pre p E2 I2 loc2=>∃ b7:Nat,E2=[(5,Zc b_5),(6,Zc b6),(7,Zc b7)]∧pre=[]∧loc2=(b7,.cells (Yx p).toArray 57 (0,0))::(b6,.cells #[.int .i64 ((k:Int)+1)] 3 (0,0))::(b_5,.cells (YU y).toArray 54 (0,0))::(b_1,.cells #[.map (some r1),.map (some r2),.map (some r3),.slice av n c] 159 (0,0))::L) rfl ztk (zp5 hx hcap) rfl ⟨rfl,rfl⟩ ?_ ?_ ?_ ?_
   ·
    rintro l9 pre p I1 loc1 H1 hpre hI1 ⟨rfl,rfl⟩
    refine Qg ?_
    refine Qs Uu rfl rfl (fun b_7=>?_)
    refine zh V9 ?_
    refine Qb ?_
    exact zcF _ ⟨zAh _,b_7,rfl,rfl,rfl⟩ (.cons rfl (.cons rfl (.cons rfl .nil)))
   ·
    rintro l9 pre p E2 I2 loc2 H2 hpre hI2 ⟨b7,rfl,rfl,rfl⟩
    refine Qm (zR ?_)
    refine zL Qr ?_
    refine zF VO ?_
    refine zV (Qo rfl Q9 (fun hg=>by exact Cells.s0 (vs:=[_,_,_,_,_,_,_,_,_,_,_,_,_,_]) rfl) rfl) ?_
    refine Qz (cap:=[]) (vs:=[_,_,_]) rfl rfl zse (by repeat (first | exact .cons .here .nil | exact QD | exact Qx | apply QC | apply QB)) (zxS _ b_5 y _ p.nw (zxV hlt_k)) rfl rfl ?_
    rintro vv4 I4 L4 hI4 ⟨rfl,rfl,rfl⟩
    refine zN (QI ?_)
    refine zbK rfl ?_
    exact zaV ⟨zAh _,rfl,p,rfl,rfl⟩ (by repeat (first | exact .refl | refine .keep ?_ | refine .drop ?_))
   ·
    rintro bd I1 loc1 hI1 ⟨hnil,rfl⟩
    have hB2:=hB2.trans hI1
    have hy2:y=zep (onF ps) l x (k+1):=by rw [←zfU hy,zl3 hnil]
    refine Qf (Qf (Qa (Ql (zR ?_))))
    refine zL Qr ?_
    refine zN (Qg ?_)
    refine Qs zvz rfl rfl (fun b_6=>?_)
    refine zS Z2 ?_
    refine zN (Qg ?_)
    refine zL Qr ?_
    refine zB ?_
    refine zS Z2 ?_
    refine Qb ?_
    exact zn (h:=⟨9-(k+1),by omega,k+1,_,_,rfl,rfl,hB2,rfl,by omega,hy2⟩)
   rintro cd bd pre I1 loc1 hI1 hpre ⟨rfl,p,rfl,rfl⟩
   have hB2:=hB2.trans hI1
   have hy2:(Ju y ((k:Int)+1) p.nw)=zep (onF ps) l x (k+1):=by rw [←zfU hy,zms hpre]
   refine QI (Qk (Qf (Qa (Ql (zR ?_)))))
   refine zL Qr ?_
   refine zN (Qg ?_)
   refine Qs zvz rfl rfl (fun b_6=>?_)
   refine zS Z2 ?_
   refine zN (Qg ?_)
   refine zL Qr ?_
   refine zB ?_
   refine zS Z2 ?_
   refine Qb ?_
   exact zn (h:=⟨9-(k+1),by omega,k+1,_,_,rfl,rfl,hB2,rfl,by omega,hy2⟩)
  have hge_k:9≤k:=by have h:=hc21;simp at h;omega
  have hk9:k=9:=by omega
  subst hk9
  have hy:y=zhI (onF ps) l x:=hy
  subst hy
  refine QI (Qh (Qh (Qk (Qa (Qg (zM ?_))))))
  refine zV (Qo rfl Q9 (fun hg=>by exact Cells.g1) rfl) ?_
  refine Qq (ps:=[(0,_)]) (m:=[YU (zhI (onF ps) l x)]) Uz rfl (.cons rfl (.nil)) rfl (by simp [Z6]) (by decide) (by decide) rfl rfl (fun b_37=>?_)
  refine QY (v:=_) (ys:=[zhI (onF ps) l x].flatMap YU) (L:=L) rfl rfl Uz hO (by repeat (first | exact .cons .here .nil | exact QD | exact Qx | apply QC | apply QB)) ⟨rfl,fun _=>rfl,zAf⟩ (znb [zhI (onF ps) l x]) (by omega) rfl rfl ?_
  intro v9 L9 hO9 _;rw [←List.flatMap_append] at hO9
  refine zA (Qb (Qf (Qa (Qg ?_))))
  refine zB ?_
  refine zM (Qb ?_)
  first
  | exact zmf rfl rfl rfl _ _ (L9++((b_1,_)::MB _)) ⟨n-(j+1),by omega,j+1,v9,_,L9,rfl,rfl,hB0,rfl,by omega,by rw [ztZ hxx hex];exact hO9,by omega⟩ (.cons rfl (.cons rfl (.cons rfl (.cons rfl (.cons rfl .nil))))) List.perm_middle.symm (by repeat (first | exact .refl | exact Zj | refine Yk ?_ | refine .drop ?_ | refine Z7 ?_))
 have hge_j:n≤j:=by have h:=hc12;simp at h;omega
 obtain ⟨va,vc,rfl⟩:=zd6 hO
 rw [List.take_of_length_le (by rw [hx.sg.len];exact hge_j)] at hO
 refine QI (Qh (Qh (Qk (Qa (Ql (zR (zM ?_)))))))
 refine zQ YW ?_
 refine zC (zN ?_)
 refine zI ?_ ?_<;>intro hc42
 ·
  have hbig:exE (onF ps) l xs=2:=by unfold exE;rw [if_pos];have h1:=hO.1;rw [ZT Z6] at h1;simp at hc42;omega
  refine zR (zA ?_)
  refine zA (zN (Qt (Qc ?_)))
  first
  | exact Uh (L:=_::L) (fun a ha w hw=>zvM rfl rfl rfl a ha w) (fun w hw=>⟨_,J1,[],rfl,hIc,hw.drop,by rw [hbig];exact zlB.empty rfl⟩)
 have hbig:exE (onF ps) l xs=0:=by unfold exE;rw [if_neg];have h1:=hO.1;rw [ZT Z6] at h1;simp at hc42;omega
 refine Qn (Qa (zR (zM ?_)))
 refine zA ?_
 refine zA (zN (Qt ?_))
 first
 | exact Uh (L:=_::L) (fun a ha w hw=>zvM rfl rfl rfl a ha w) (fun w hw=>by obtain ⟨I9,h91,h92,h93⟩:=OwnS.res hO Z6 (by decide) (hw.subL (.drop .refl));obtain ⟨_,a9,c9,e9,h94⟩:=h93;cases e9;exact ⟨_,I9,[],rfl,hIc.trans h91,h92,by rw [hbig];exact zlB.good rfl rfl h94⟩)
end
section
open Go Go.Kn Go.Proofs
theorem w_Signs {I:Qu}{av:Option Addr}{n c:Nat}{ps:List Pt}(hP:SlP I av n c ps)(hn:n≤100000){bv:Option Addr}{n2 c2:Nat}{bs:List Sg}(hB:Sl I 14 YU bv n2 c2 bs)(hn2:n2≤100000){dv:Option Addr}{n3 c3:Nat}{ws:List Int}(hV:Sl I 1 QQ dv n3 c3 ws)(hn3:n3≤100000):Yf Tryz.prog 45 [.slice av n c,.slice bv n2 c2,.slice dv n3 c3] I [] (zlB (zdL ps bs ws) (zge ps bs ws)):=by
 intro g H w hw
 refine qe Tryz.func45 Tryz.ntmps45 hw ?_
 have hIc:=zAh I
 refine zR (zA ?_)
 refine zA ?_
 refine zN (zR ?_)
 refine zM ?_
 refine zM ?_
 refine zM ?_
 refine Qz (cap:=[]) (vs:=[_,_,_]) rfl rfl zxs .nil (zt5 hP hn hB hn2 hV hn3) rfl rfl ?_
 rintro vv1 I1 L1 hI1 ⟨rfl,m1,m2,m3,a9,n9,c9,rfl,hst⟩
 have hIc:=hIc.trans hI1
 refine zM ?_
 refine zE ?_
 refine zE ?_
 refine Qs zpK rfl rfl (fun b_8=>?_)
 refine zh UB ?_
 refine zA (zN (Ql (zR ?_)))
 refine zM ?_
 refine zC (zN ?_)
 refine zI ?_ ?_<;>intro hc17
 ·
  have he:zaL ps bs ws≠0:=by simpa using hc17
  refine zR (zM ?_)
  refine zA ?_
  refine zA (zN (Qt (Qc ?_)))
  first
  | exact ZA rfl rfl rfl (fun w hw=>⟨_,I1,[],rfl,hIc,hw.drop,by unfold zge;rw [zrk he];exact zlB.empty (zmR he)⟩)
 have he:zaL ps bs ws=0:=by simpa using hc17
 obtain ⟨r1,r2,r3,rfl,rfl,rfl,hx⟩:=hst he
 have hn9:n9≤5000:=by have h1:=hx.sg.len;have h2:=zmO bs (Z9 ps ws);have h3:=hx.fewl;have h4:=(zeS (zyL he)).1;omega
 refine Qn (Qa (zR ?_))
 refine zV (Qo rfl Vx (fun hg=>by exact Cells.g0) rfl) ?_
 refine Qz (cap:=[]) (vs:=[_]) rfl rfl ztK .nil (zhO hx (by omega) (zuO he)) rfl rfl ?_
 rintro vv2 I2 L2 hI2 ⟨rfl,av8,c8,rfl,hR⟩
 have hIc:=hIc.trans hI2
 refine zE ?_
 refine zE ?_
 refine zA ?_
 refine zA (zN (Qt ?_))
 first
 | exact ZA rfl rfl rfl (fun w hw=>⟨_,I2,[],rfl,hIc,hw.drop,zlB.good (zoi he).symm (by unfold zge;rw [zoi he];rfl) hR⟩)
end
section
open Go Go.Kn Go.Proofs
def zfj (ps:List Pt)(p:Pt):List Bool:=ps.map fun q=>onF ps p.id q.id
end
section
open Go Go.Kn Go.Proofs
def atI (ps:List Pt)(x:Int):Pt:=ps.getD x.toNat WS
end
end Go.Proofs.YtodakphagkommaaGreatDoor.R
namespace Go.Kn
section
open Go
section
variable {C:Cx} {Q:Exit→Act→World→Prop} {E:Env} {I:Qu} {loc:Loc} {ops:Array Oper} {rest:List Oper} {dst:Option Tmp} {ty:TypeId} {pos:String} {af:Array Edge} {gd:Option (Nat×Bool)} {x:Operand}
theorem zl9 {t e n c b off t':Nat}{z:Value}{zc A:List Value}(F:List Value→Loc)(hx:QA [] E x=some (.slice (some ⟨b,off,none⟩) n c))(hT:C.P.underlying t=some (.slice e))(hz:Yu C.P e z)(hzc:z.cells=zc.toArray)(h1:Yz zc=true)
  (hle:off+n*zc.length≤A.length)(hG:gd=none)(hdst:dst=none)(hu:∀ zs:List Value,Upd loc b (.cells A.toArray t' (0,0)) (.cells (A.take off++(zs++A.drop (off+n*zc.length))).toArray t' (0,0)) (F zs))
  (h:∀ zs:List Value,zs.length=n*zc.length→XO C Q ops rest [] E I (F zs)):
  XO C Q ops (⟨dst,.call ⟨.builtin .clear, #[x], #[t]⟩,ty,pos,af,gd⟩::rest) [] E I loc:=
 Yg hG (by intro c e;cases e) fun a w ha hw=>by
  subst hdst
  have hsz:(Builtin.zeroCells z.cells n).toList.length=n*zc.length:=by rw [Array.length_toList,KT,hzc];simp
  have hz1:∀ v∈(Builtin.zeroCells z.cells n).toList,v.oneCell'=true:=by
   intro v hv
   rw [Array.mem_toList_iff] at hv
   unfold Builtin.zeroCells at hv
   rw [hzc] at hv
   simp at hv
   obtain ⟨q,hq,h2⟩:=hv
   have hp:0<zc.length:=Nat.pos_of_ne_zero fun e=>by rw [e] at hq;simp at hq
   rw [List.getElem?_eq_getElem (Nat.mod_lt _ hp)] at h2
   exact JB h1 v (by rw [←h2];exact List.getElem_mem _)
  have e:A=A.take off++((A.drop off).take (n*zc.length)++A.drop (off+n*zc.length)):=by
   have:(A.drop off).take (n*zc.length)++A.drop (off+n*zc.length)=A.drop off:=by rw [←List.drop_drop];exact List.take_append_drop _ _
   rw [this,List.take_append_drop]
  have hu2:=hu (Builtin.zeroCells z.cells n).toList
  have hu3:Upd loc b (.cells (A.take off++((A.drop off).take (n*zc.length)++A.drop (off+n*zc.length))).toArray t' (0,0)) (.cells (A.take off++((Builtin.zeroCells z.cells n).toList++A.drop (off+n*zc.length))).toArray t' (0,0)) (F (Builtin.zeroCells z.cells n).toList):=by rw [←e];exact hu2
  obtain ⟨w',hr,hs'⟩:=Vn (P:=C.P) (off:=off) (Builtin.zeroCells z.cells n).toList (A.take off) w loc _ b t' ((A.drop off).take (n*zc.length)) 0 (by rw [List.length_take];omega) (by rw [hsz,List.length_take,List.length_drop];omega) hz1 hw hu3
  have hrun:(Builtin.clear_ #[t] ty #[.slice (some ⟨b,off,none⟩) n c]).run C.P w= .ok (.tuple #[]) w':=by
   have h0:n=0→w'=w:=by
    intro hn;subst hn
    have:(Builtin.zeroCells z.cells 0).toList=[]:=List.length_eq_zero_iff.1 (by rw [hsz];omega)
    rw [this] at hr
    simp [storeCells] at hr
    exact hr.symm
   cases n with
   | zero=>rw [h0 rfl];simp [Builtin.clear_,run_underlying hT,Result.andThen]
   | succ k=>simp [Builtin.clear_,Sem.run_bind,run_underlying hT,Result.andThen,Z1 hz,hr]
  simp only [execOp,resolve,List.map_toArray,List.map_cons,List.map_nil,Qj (S:=[]) ha trivial rfl hx,Sem.run_bind,Sem.run_pure,Result.andThen,invoke,builtin,hrun,Oper.uponIn_value]
  exact h _ hsz _ _ ha trivial hs'
end
end
section
open Go
section
variable {C:Cx} {Q:Exit→Act→World→Prop} {E:Env} {I:Qu} {loc L R:Loc} {ops:Array Oper} {rest:List Oper} {dst:Option Tmp} {d:Nat} {ty:TypeId} {pos:String} {af:Array Edge} {gd:Option (Nat×Bool)}
theorem zkK {P:Program}{a:Act}{w:World}{f:FuncId}{pre cap:List Value}{l:List Operand}{vs:List Value}{tys:Array TypeId}{cal:Operand}
  (he:a.eval cal= .func (.func f) pre.toArray cap.toArray)(hl:l.map a.eval=vs)(hF:Fun P f):
  (execOp a.eval ⟨dst,.call ⟨.value cal,l.toArray,tys⟩,ty,pos,af,gd⟩).run P w= .ok (.enter f (pre++(vs++cap)).toArray) w:=by
 simp only [execOp,resolve,he,List.map_toArray,hl,Deferred.ofValue,Sem.run_bind,Sem.run_pure,Result.andThen,invoke,VW hF]
 simp
theorem ziO {f:FuncId}{pre cap:List Value}{l:List Operand}{vs:List Value}{tys:Array TypeId}{cal:Operand}{K:Value→Qu→Loc→Prop}
  (he:QA [] E cal=some (.func (.func f) pre.toArray cap.toArray))(hl:l.map (QA [] E)=vs.map some)(hF:Fun C.P f)(hsp:YN loc L R)(hc:Yf C.P f (pre++(vs++cap)) I L K)
  (hG:gd=none)(hN:Nat.blt d C.N=true)(h:∀ v I' L',HLe I I'→K v I' L'→XO C Q ops rest [] ((d,v)::E) I' (L'++R)):
  XO C Q ops (⟨some d,.call ⟨.value cal,l.toArray,tys⟩,ty,pos,af,gd⟩::rest) [] E I loc:=by
 intro a w ha hg hw
 have hG':Zn ops [] E ⟨some d,.call ⟨.value cal,l.toArray,tys⟩,ty,pos,af,gd⟩:=.none hG
 simp only [wpListIn]
 rw [hG'.wanted ha hg]
 simp only [ZY,if_true,Oper.wpIn]
 refine ⟨fun _ _=>trivial,?_⟩
 rw [Oper.semAt_eq _ _ _ (by intro c e;cases e),zkK (Qj ha hg rfl he) (VL ha hg rfl hl) hF,Oper.uponIn_enter]
 refine ⟨by simp [FR],Xb.2 ((hc.frame hsp hw).mono ?_)⟩
 rintro e w' ⟨v,I',L',rfl,hI,hs,hk⟩
 have hp:=Yh ha hg hN rfl v
 exact h v I' L' hI hk _ _ hp.1 hp.2 hs
end
end
end Go.Kn
namespace Go.Proofs.YtodakphagkommaaGreatDoor.R
section
open Go Go.Kn Go.Proofs
structure Tx where
 bv:Option Addr
 n2:Nat
 c2:Nat
 no:Int
 a1:Option Addr
 n1:Nat
 d1:Nat
 a2:Option Addr
 n3:Nat
 d2:Nat
 a3:Option Addr
 n4:Nat
 d3:Nat
 r:Nat
 lv:Option Addr
 ln:Nat
 lc:Nat
 sv:Option Addr
 sn:Nat
 sc:Nat
def Kw (t:Tx):List Value:=[.slice t.bv t.n2 t.c2,.int .i64 t.no,.slice t.a1 t.n1 t.d1,.slice t.a2 t.n3 t.d2,.slice t.a3 t.n4 t.d3,.map (some t.r),.slice t.lv t.ln t.lc,.slice t.sv t.sn t.sc]
structure zhD (I:Qu)(t:Tx)(rows:List (List Int))(es:List Em)(rd:List Int)(ps l:List Pt)(s:List Sg):Prop where
 V:SlN I t.bv t.n2 t.c2 rows
 E:Sl I 3 YB t.a2 t.n3 t.d2 es
 R:Sl I 1 QQ t.a3 t.n4 t.d3 rd
 M:OnM I t.r ps
 L:SlP I t.lv t.ln t.lc l
 S:Sl I 14 YU t.sv t.sn t.sc s
 b2:t.n2≤100000
 b3:t.n3≤100000
 b4:t.n4≤100000
 bl:t.ln≤100000
 bs:t.sn≤100000
 sub:∀ q∈l,∃ z∈ps,z.id=q.id
theorem zhD.mono {I I':Qu}{t:Tx}{rows:List (List Int)}{es:List Em}{rd:List Int}{ps l:List Pt}{s:List Sg}(h:zhD I t rows es rd ps l s)(hI:HLe I I'):zhD I' t rows es rd ps l s:=
 ⟨h.V.mono hI,h.E.mono hI,h.R.mono hI,h.M.mono hI,h.L.mono hI,h.S.mono hI,h.b2,h.b3,h.b4,h.bl,h.bs,h.sub⟩
def zku:List Pt→List Int
 | []=>[]
 | p::r=>((p::r).filter fun q=>WK q.nw p.nw).map (·.id)
def zOg:Og:=⟨0,0,[],[]⟩
def zkF (rows:List (List Int))(q:Nat)(c:Int):Int:=if Uk (fun r:List Int=>r.getD q 0==c) rows<0 then Uk (zoB q) rows else Uk (fun r:List Int=>r.getD q 0==c) rows
def or1 (on:Int→Int→Bool)(l:List Pt)(s f:Int):Og×Bool:=(⟨3,0,[],zku (XP on l s f)⟩,decide (0<(XP on l s f).length))
def inP (s:Int)(q:Pt):Bool:=q.kind==2&&q.sign==s
def or2 (l:List Pt)(s:Int):Og×Bool:=match l.find? (inP s) with
 | some q=>(⟨3,0,[],[q.id]⟩,true)
 | none=>(zOg,false)
def isT (f:Int):Bool:=f==2||f==3||f==9
def or3 (rows:List (List Int))(rd:List Int)(s f:Int):Og×Bool:=if isT f then (⟨1,0,[zkF rows s.toNat (rd.getD s.toNat 0)],[]⟩,true) else (zOg,false)
def or4 (es:List Em)(s:Int):Og×Bool:=(⟨2,2,[],[]⟩,es.any (ztx s))
def or5 (rows:List (List Int))(rd:List Int)(s:Int):Og×Bool:=(⟨1,0,Uc rows s.toNat (rd.getD s.toNat 0),[]⟩,true)
def orK (on:Int→Int→Bool)(rows:List (List Int))(es:List Em)(rd:List Int)(l:List Pt)(s f:Int)(k:Nat):Og×Bool:=
 if k=0 then or1 on l s f else if k=1 then or2 l s else if k=2 then or3 rows rd s f else if k=3 then or4 es s else or5 rows rd s
def zaK (on:Int→Int→Bool)(rows:List (List Int))(es:List Em)(rd:List Int)(l:List Pt)(s f:Int):Og:=
 if (or1 on l s f).2 then (or1 on l s f).1 else if (or2 l s).2 then (or2 l s).1 else if (or3 rows rd s f).2 then (or3 rows rd s f).1 else if (or4 es s).2 then (or4 es s).1 else (or5 rows rd s).1
theorem zkI {on:Int→Int→Bool}{rows:List (List Int)}{es:List Em}{rd:List Int}{l:List Pt}{s f:Int}{k:Nat}(hk:k<5)(h:∀ j,j<k→(orK on rows es rd l s f j).2=false)(hy:(orK on rows es rd l s f k).2=true):(orK on rows es rd l s f k).1=zaK on rows es rd l s f:=by
 have e0:0<k→(or1 on l s f).2=false:=h 0
 have e1:1<k→(or2 l s).2=false:=h 1
 have e2:2<k→(or3 rows rd s f).2=false:=h 2
 have e3:3<k→(or4 es s).2=false:=h 3
 unfold zaK
 match k,hk with
 | 0,_=>rw [if_pos (show (or1 on l s f).2=true from hy)];rfl
 | 1,_=>rw [if_neg (by rw [e0 (by decide)];decide),if_pos (show (or2 l s).2=true from hy)];rfl
 | 2,_=>rw [if_neg (by rw [e0 (by decide)];decide),if_neg (by rw [e1 (by decide)];decide),if_pos (show (or3 rows rd s f).2=true from hy)];rfl
 | 3,_=>rw [if_neg (by rw [e0 (by decide)];decide),if_neg (by rw [e1 (by decide)];decide),if_neg (by rw [e2 (by decide)];decide),if_pos (show (or4 es s).2=true from hy)];rfl
 | 4,_=>rw [if_neg (by rw [e0 (by decide)];decide),if_neg (by rw [e1 (by decide)];decide),if_neg (by rw [e2 (by decide)];decide),if_neg (by rw [e3 (by decide)];decide)];rfl
def OgV (I:Qu)(o:Og)(vs:List Value):Prop:=∃ a n c b m d,vs=[.int .i64 o.k,.int .i64 o.r,.slice a n c,.slice b m d]∧Sl I 1 QQ a n c o.ws∧Sl I 1 QQ b m d o.ps
def FrQ (q:Og×Bool)(v:Value)(I:Qu)(L:Go.Kn.Loc):Prop:=L=[]∧∃ vs,v= .tuple #[.agg vs.toArray,.bool q.2]∧OgV I q.1 vs
theorem zoE {I:Qu}{b n t:Nat}{A:List Value}{zs:List Pt}(hA:A.take (n*19)=zs.flatMap Yx){k:Nat}{p:Pt}(hp:zs[k]? =some p){loc:Go.Kn.Loc}:Cells I ((b,.cells A.toArray t (0,0))::loc) b (k*19) (Yx p):=by
 intro j u hu
 have hl:=X4 Q0 zs k p hp j u hu
 have:A[k*19+j]? =some u:=by
  rw [←hA,List.getElem?_take] at hl
  split at hl
  ·
   exact hl
  ·
   cases hl
 exact .here (by rw [Vq];simpa using this)
theorem zqv {B:List Value}{i n c:Nat}{p:Pt}(hl:B.length=c*19)(hn:n≤c)(hi:i<n):(VF B (i*19) (Yx p)).length=c*19:=by
 rw [X3 (n:=19) (by omega) (Q0 p)]
 simp only [List.length_append,List.length_take,List.length_drop,Q0];omega
theorem znz {B:List Value}{zs:List Pt}{i n c:Nat}{p:Pt}(hB:B.take (n*19)=zs.flatMap Yx)(hl:B.length=c*19)(hn:n≤c)(hz:zs.length=n)(hi:i<n):(VF B (i*19) (Yx p)).take (n*19)=(zs.set i p).flatMap Yx:=by
 rw [X3 (n:=19) (by omega) (Q0 p)]
 have hz2:zs.set i p=zs.take i++p::zs.drop (i+1):=by rw [List.set_eq_take_append_cons_drop,if_pos (by omega)]
 have hf:∀ k,k≤n→(zs.take k).flatMap Yx=B.take (k*19):=by
  intro k hk
  have h1:zs.flatMap Yx=(zs.take k).flatMap Yx++(zs.drop k).flatMap Yx:=by rw [←List.flatMap_append,List.take_append_drop]
  have h2:((zs.take k).flatMap Yx).length=k*19:=by rw [ZT Q0,List.length_take];congr 1;omega
  have h3:=congrArg (List.take (k*19)) h1
  rw [←hB,List.take_take,Nat.min_eq_left (by omega),List.take_append_of_le_length (by omega),←h2,List.take_length] at h3
  rw [←h3,h2]
 have hd:(zs.drop (i+1)).flatMap Yx=(B.take (n*19)).drop ((i+1)*19):=by
  have h1:zs.flatMap Yx=(zs.take (i+1)).flatMap Yx++(zs.drop (i+1)).flatMap Yx:=by rw [←List.flatMap_append,List.take_append_drop]
  have h2:((zs.take (i+1)).flatMap Yx).length=(i+1)*19:=by rw [ZT Q0,List.length_take];congr 1;omega
  rw [hB,h1,←h2,List.drop_left]
 rw [hz2,List.flatMap_append,List.flatMap_cons,hf i (by omega),hd]
 have e1:(B.take (i*19)).length=i*19:=by rw [List.length_take];omega
 have t1:(B.take (i*19)).take (n*19)=B.take (i*19):=List.take_of_length_le (by rw [e1];omega)
 have t2:(Yx p).take (n*19-i*19)=Yx p:=List.take_of_length_le (by rw [Q0];omega)
 rw [List.take_append,e1,t1,List.take_append,t2,Q0,List.drop_take]
 rw [show (i+1)*19=i*19+19 by omega,show n*19-i*19-19=n*19-(i*19+19) by omega]
structure DlQ (P:Pt→Bool)(ps:List Pt)(n c i j:Nat)(zs:List Pt)(B:List Value):Prop where
 hB:B.take (n*19)=zs.flatMap Yx
 hz:zs.length=n
 hl:B.length=c*19
 hk:zs.take i=(ps.take j).filter fun p=> !P p
 hd:zs.drop j=ps.drop j
 hij:i<j
 hjn:j≤n
theorem DlQ.at {P:Pt→Bool}{ps:List Pt}{n c i j:Nat}{zs:List Pt}{B:List Value}(h:DlQ P ps n c i j zs B){p:Pt}(hp:ps[j]? =some p):zs[j]? =some p:=by
 have h1:=congrArg (fun l=>l[0]?) h.hd
 simp only [List.getElem?_drop,Nat.add_zero] at h1
 rw [h1];exact hp
theorem DlQ.keep {P:Pt→Bool}{ps:List Pt}{n c i j:Nat}{zs:List Pt}{B:List Value}(h:DlQ P ps n c i j zs B){p:Pt}(hp:ps[j]? =some p)(hP:P p=false)(hn:n≤c)(hjn:j<n):DlQ P ps n c (i+1) (j+1) (zs.set i p) (VF B (i*19) (Yx p)):=
  ⟨znz h.hB h.hl hn h.hz (by have:=h.hij;omega),by rw [List.length_set];exact h.hz,zqv h.hl hn (by have:=h.hij;omega),
   by rw [Xe (P:=fun p=> !P p) hp (by rw [hP];rfl),←h.hk,List.take_add_one,List.take_set_of_le (by omega),List.getElem?_set_self (by have:=h.hij;have:=h.hz;omega)];rfl,
   by rw [List.drop_set_of_lt (by have:=h.hij;omega)];have h1:=congrArg (List.drop 1) h.hd;rw [List.drop_drop,List.drop_drop] at h1;exact h1,by have:=h.hij;omega,by omega⟩
theorem DlQ.drop {P:Pt→Bool}{ps:List Pt}{n c i j:Nat}{zs:List Pt}{B:List Value}(h:DlQ P ps n c i j zs B){p:Pt}(hp:ps[j]? =some p)(hP:P p=true)(hjn:j<n):DlQ P ps n c i (j+1) zs B:=
 ⟨h.hB,h.hz,h.hl,by rw [za4 (P:=fun p=> !P p) hp (by rw [hP];rfl)];exact h.hk,by have h1:=congrArg (List.drop 1) h.hd;rw [List.drop_drop,List.drop_drop] at h1;exact h1,by have:=h.hij;omega,by omega⟩
theorem DlQ.new {P:Pt→Bool}{ps:List Pt}{n c i:Nat}{A:List Value}{p:Pt}(hA:A.take (n*19)=ps.flatMap Yx)(hz:ps.length=n)(hl:A.length=c*19)(hi:ps[i]? =some p)(hP:P p=true)(hno:(ps.take i).any P=false):DlQ P ps n c i (i+1) ps A:=
 ⟨hA,hz,hl,by
  rw [za4 (P:=fun p=> !P p) hi (by rw [hP];rfl),List.filter_eq_self.2]
  intro q hq;rw [List.any_eq_false] at hno;simpa using hno q hq,rfl,by omega,by have:=(List.getElem?_eq_some_iff.1 hi).1;omega⟩
theorem DlQ.own {P:Pt→Bool}{ps:List Pt}{n c i j:Nat}{zs:List Pt}{B zc:List Value}{b t:Nat}(h:DlQ P ps n c i j zs B)(hj:n≤j)(hps:ps.length=n)(hn:n≤c)(hc:c≤maxLen)(hzc:zc.length=(n-i)*19):
  OwnS t 19 (.slice (some ⟨b,0,none⟩) i c) i ((ps.filter fun p=> !P p).flatMap Yx) [(b,.cells (B.take (0+i*19)++(zc++B.drop (0+i*19+(n-i)*19))).toArray t (0,0))]:=by
 rw [Nat.zero_add]
 have hij:=h.hij
 have hjn:=h.hjn
 have hBl:=h.hl
 have e1:(B.take (i*19)).length=i*19:=by rw [List.length_take];omega
 have hf:ps.filter (fun p=> !P p)=zs.take i:=by rw [h.hk,List.take_of_length_le (by omega)]
 have hfl:(ps.filter fun p=> !P p).flatMap Yx=B.take (i*19):=by
  rw [hf]
  have h1:zs.flatMap Yx=(zs.take i).flatMap Yx++(zs.drop i).flatMap Yx:=by rw [←List.flatMap_append,List.take_append_drop]
  have h2:((zs.take i).flatMap Yx).length=i*19:=by rw [ZT Q0,List.length_take];have:=h.hz;congr 1;omega
  have h3:=congrArg (List.take (i*19)) h1
  rw [←h.hB,List.take_take,Nat.min_eq_left (by omega),List.take_append_of_le_length (by omega),←h2,List.take_length] at h3
  rw [←h3,h2]
 refine ⟨by rw [hfl,e1],.inr ⟨b,c,_,rfl,rfl,by omega,hc,?_,?_⟩⟩
 ·
  simp only [List.size_toArray,List.length_append,e1,hzc,List.length_drop];omega
 ·
  rw [hfl]
  show ((B.take (i*19)++(zc++B.drop (i*19+(n-i)*19)))).take (i*19)=_
  rw [List.take_append_of_le_length (by omega),List.take_of_length_le (by omega)]
theorem zyo {P:Pt→Bool}{ps:List Pt}{n c i j:Nat}{zs:List Pt}{B:List Value}(h:DlQ P ps n c i j zs B)(hn:n≤c)(hj:j<n):Nat.ble (i*19+19) (c*19)=true:=Nat.ble_eq_true_of_le (by have:=h.hij;omega)
theorem zuD {P:Pt→Bool}{ps:List Pt}{n c i j:Nat}{zs:List Pt}{B:List Value}(h:DlQ P ps n c i j zs B)(hn:n≤c):0+i*19+(n-i)*19≤c*19:=by have:=h.hij;have:=h.hjn;omega
theorem zy1 {b n c t:Nat}{A:List Value}{ps:List Pt}(_hA:A.take (n*19)=ps.flatMap Yx)(hAl:A.length=c*19)(_hl:ps.length=n)(hnc:n≤c)(hc:c≤maxLen):OwnS t 19 (.slice (some ⟨b,0,none⟩) n c) n (A.take (n*19)) [(b,.cells A.toArray t (0,0))]:=
 ⟨by rw [List.length_take];omega,.inr ⟨b,c,_,rfl,rfl,hnc,hc,by simp [hAl],by simp⟩⟩
theorem zc2 {α:Type}{xs:List α}{P:α→Bool}(h:xs.any P=true):∃ (i:Nat) (x:α),Uk P xs=(i:Nat)∧xs[i]? =some x∧P x=true∧(xs.take i).any P=false:=by
 obtain ⟨x,hx,hp⟩:=List.any_eq_true.1 h
 have hl:=List.findIdx_lt_length_of_exists ⟨x,hx,hp⟩
 refine ⟨xs.findIdx P,xs[xs.findIdx P],by unfold Uk;rw [h];rfl,List.getElem?_eq_getElem hl,List.findIdx_getElem,?_⟩
 rw [List.any_eq_false]
 intro y hy
 obtain ⟨k,hk,rfl⟩:=List.getElem_of_mem hy
 rw [List.length_take] at hk
 rw [List.getElem_take]
 exact Bool.eq_false_iff.1 (List.not_of_lt_findIdx (Nat.lt_of_lt_of_le hk (Nat.min_le_left ..)))
def zkQ (ls:List Pt)(k:Nat):List Pt:=(ls.take k).filter fun q=>WK q.nw ((ls.getD 0 WS).nw)
theorem zxZ {ls:List Pt}:((zkQ ls 0).map (·.id)).flatMap QQ=[]:=by unfold zkQ;rw [List.take_zero];rfl
theorem zqz {ls:List Pt}{k:Nat}{p:Pt}(hp:ls[k]? =some p)(h:WK p.nw ((ls.getD 0 WS).nw)=true):(zkQ ls (k+1)).map (·.id)=(zkQ ls k).map (·.id)++[p.id]:=by
 unfold zkQ;rw [Xe hp h,List.map_append];rfl
theorem zvK {ls:List Pt}{k:Nat}{p:Pt}(hp:ls[k]? =some p)(h:WK p.nw ((ls.getD 0 WS).nw)=false):(zkQ ls (k+1)).map (·.id)=(zkQ ls k).map (·.id):=by
 unfold zkQ;rw [za4 hp h]
theorem zrP {ls:List Pt}{k m:Nat}(hm:ls.length=m)(hk:k=m):(zkQ ls k).map (·.id)=zku ls:=by
 unfold zkQ;rw [List.take_of_length_le (by omega)]
 cases ls with
 | nil=>rfl
 | cons p r=>rfl
theorem zxg {on:Int→Int→Bool}{l:List Pt}{s f:Int}{m:Nat}(hm:(XP on l s f).length=m):(or1 on l s f).2=decide ((m:Int)>0):=by
 show decide (0<(XP on l s f).length)=_
 rw [hm];cases m<;>simp
theorem zcA {l:List Pt}{s:Int}{k:Nat}{p:Pt}(hno:(l.take k).any (inP s)=false)(hp:l[k]? =some p)(h:inP s p=true):or2 l s=(⟨3,0,[],[p.id]⟩,true):=by
 have:l.find? (inP s)=some p:=by
  have e:l=l.take k++p::l.drop (k+1):=by
   rw [←ZO hp,List.take_append_drop]
  rw [e,List.find?_append,List.find?_eq_none.2 (by rw [List.any_eq_false] at hno;exact hno),List.find?_cons,h];rfl
 unfold or2;rw [this]
theorem zgu {l:List Pt}{s:Int}(hno:l.any (inP s)=false):or2 l s=(zOg,false):=by
 unfold or2;rw [List.find?_eq_none.2 (by rw [List.any_eq_false] at hno;exact hno)]
theorem zbr {rows:List (List Int)}{rd:List Int}{q:Nat}{f:Int}(h:isT f=true):or3 rows rd (q:Int) f=(⟨1,0,[zkF rows q (rd.getD q 0)],[]⟩,true):=if_pos h
theorem zgo {rows:List (List Int)}{rd:List Int}{s:Int}{f:Int}(h:isT f=false):or3 rows rd s f=(zOg,false):=if_neg (by rw [h];decide)
theorem zyq {rows:List (List Int)}{q:Nat}{c:Int}(h:decide (Uk (fun r:List Int=>r.getD q 0==c) rows<0)=true):Uk (zoB q) rows=zkF rows q c:=by unfold zkF;rw [if_pos (by simpa using h)]
theorem zyC {rows:List (List Int)}{q:Nat}{c:Int}(h:decide (Uk (fun r:List Int=>r.getD q 0==c) rows<0)=false):Uk (fun r:List Int=>r.getD q 0==c) rows=zkF rows q c:=by unfold zkF;rw [if_neg (by simpa using h)]
def zeT (f:Nat)(t:Tx)(k:Nat):List Value:=[.func (.func (f+k)) #[.agg (Kw t).toArray] #[]]
theorem zzX {k:Nat}(h:k<5):([0,1,2,3,4]:List Nat)[k]? =some k:=by
 match k,h with
 | 0,_=>rfl
 | 1,_=>rfl
 | 2,_=>rfl
 | 3,_=>rfl
 | 4,_=>rfl
theorem zjz {f:Int}:([2,3,9]:List Int).any (fun y=>f==y)=isT f:=by simp only [List.any_cons,List.any_nil,Bool.or_false,isT,Bool.or_assoc]
theorem zrU {b:Bool}(h:(!b)=true):b=false:=by cases b<;>simp_all
theorem ziL {b:Bool}(h:(!b)=false):b=true:=by cases b<;>simp_all
end
section
open Go Go.Kn Go.Proofs
theorem zq8:Fun Tryz.prog 170:=.of Tryz.func170 (by kernel_rfl) (by kernel_rfl)
theorem ztQ:Fun Tryz.prog 69:=.of Tryz.func69 (by kernel_rfl) (by kernel_rfl)
theorem za3:MpT Tryz.prog 55 3 4 (.bool false):=⟨by kernel_rfl,.of (by kernel_rfl)⟩
theorem zc8:MpT Tryz.prog 96 3 55 (.map none):=⟨by kernel_rfl,.of (by kernel_rfl)⟩
theorem zwd:Tryz.prog.underlying 36=some (.slice 57):=by kernel_rfl
theorem zyH {I:Qu}{av:Option Addr}{n c:Nat}{xs:List Sg}(hS:Sl I 14 YU av n c xs)(hn:n≤100000){fid:Nat}{cap:List Value}{P:Sg→Bool}(hF:Fun Tryz.prog fid)(hf:∀ x∈xs,Zy Tryz.prog fid ([JO x]++cap) I (.bool (P x))):Zy Tryz.prog 69 [.slice av n c,.func (.func fid) #[] cap.toArray] I (.int .i64 (Uk P xs)):=by
 intro g H w hw
 refine qe Tryz.func69 Tryz.ntmps69 hw ?_
 have hS:=hS
 refine zR (zA (zN (Ql (zR ?_))))
 refine zM ?_
 refine zQ YW ?_
 refine zM (zN (Qm ?_))
 refine zU [(0,_),(1,_),(7,_)] (fun T L0 mz E I' loc'=>∃ (k:Nat),mz=n-k∧E=(8,.int .i64 k)::T∧I=I'∧L0=loc'∧k≤n∧(xs.take k).any P=false) ?_ (h:=⟨0,rfl,rfl,rfl,rfl,Nat.zero_le _,rfl⟩)
 rintro mz E I' loc' ⟨k,rfl,rfl,rfl,rfl,hk,hno⟩
 refine zR (zC (zN (Ql ?_)))
 refine zI ?_ ?_<;>intro hc9
 ·
  have hlt_k:k<n:=by have h:=hc9;simp at h;omega
  obtain ⟨x,hx⟩:=hS.at hlt_k
  refine Qn (Qa (Ql (Qm (zR (zM ?_)))))
  refine zA ?_
  refine zN (zR ?_)
  refine zM ?_
  refine zM ?_
  refine zM ?_
  refine zV (QE rfl rfl YW (by assumption) (fun hg=>by omega)) ?_
  refine zV (Qo rfl Q9 (fun hg=>by exact zAi hS hx) rfl) ?_
  refine YY (cap:=cap) (vs:=[_]) rfl rfl hF (hf x (List.mem_of_getElem? hx)) rfl rfl ?_
  refine zN ?_
  refine zI ?_ ?_<;>intro hc16
  ·
   refine zR (zM ?_)
   refine zA (zN (Qt (Qp (Qc (Qc (Qp (Qc ?_)))))))
   exact zr rfl rfl (by rw [JE hno hx hc16])
  refine Qn (Qf (Qa (Qg (zB ?_))))
  refine zM (Qb ?_)
  exact zm (h:=⟨n-(k+1),by omega,k+1,rfl,rfl,rfl,rfl,by omega,Vb hx hno hc16⟩)
 have hge_k:n≤k:=by have h:=hc9;simp at h;omega
 refine QI (Qh (Qh (Qk (Qa (zR (zA (zN ?_)))))))
 refine Qt ?_
 exact zr rfl rfl (by rw [VQ hS.len hge_k hno])
theorem zy0 {I:Qu}{av:Option Addr}{n c:Nat}{xs:List Sg}(hS:Sl I 14 YU av n c xs)(hn:n≤100000){fid:Nat}{cap:List Value}{P:Sg→Bool}(hF:Fun Tryz.prog fid)(hf:∀ x∈xs,Zy Tryz.prog fid ([JO x]++cap) I (.bool (P x))):Zy Tryz.prog 37 [.slice av n c,.func (.func fid) #[] cap.toArray] I (.bool (xs.any P)):=by
 intro g H w hw
 refine qe Tryz.func37 Tryz.ntmps37 hw ?_
 refine zR (zA ?_)
 refine zN (zR ?_)
 refine zM ?_
 refine zM ?_
 refine qc (vs:=[_,_]) rfl ztQ (zyH hS hn hF hf) ?_
 refine zC ?_
 refine zA (zN (Qt ?_))
 exact zr rfl rfl (by rw [←K1])
theorem zzt {I:Qu}{av:Option Addr}{n c:Nat}{xs:List Em}(hS:Sl I 3 YB av n c xs)(hn:n≤100000){fid:Nat}{cap:List Value}{P:Em→Bool}(hF:Fun Tryz.prog fid)(hf:∀ x∈xs,Zy Tryz.prog fid ([.agg (YB x).toArray]++cap) I (.bool (P x))):Zy Tryz.prog 170 [.slice av n c,.func (.func fid) #[] cap.toArray] I (.int .i64 (Uk P xs)):=by
 intro g H w hw
 refine qe Tryz.func170 Tryz.ntmps170 hw ?_
 have hS:=hS
 refine zR (zA (zN (Ql (zR ?_))))
 refine zM ?_
 refine zQ KC ?_
 refine zM (zN (Qm ?_))
 refine zU [(0,_),(1,_),(7,_)] (fun T L0 mz E I' loc'=>∃ (k:Nat),mz=n-k∧E=(8,.int .i64 k)::T∧I=I'∧L0=loc'∧k≤n∧(xs.take k).any P=false) ?_ (h:=⟨0,rfl,rfl,rfl,rfl,Nat.zero_le _,rfl⟩)
 rintro mz E I' loc' ⟨k,rfl,rfl,rfl,rfl,hk,hno⟩
 refine zR (zC (zN (Ql ?_)))
 refine zI ?_ ?_<;>intro hc9
 ·
  have hlt_k:k<n:=by have h:=hc9;simp at h;omega
  obtain ⟨x,hx⟩:=hS.at hlt_k
  refine Qn (Qa (Ql (Qm (zR (zM ?_)))))
  refine zA ?_
  refine zN (zR ?_)
  refine zM ?_
  refine zM ?_
  refine zM ?_
  refine zV (QE rfl rfl KC (by assumption) (fun hg=>by omega)) ?_
  refine zV (Qo rfl zjD (fun hg=>by exact zAi hS hx) rfl) ?_
  refine YY (cap:=cap) (vs:=[_]) rfl rfl hF (hf x (List.mem_of_getElem? hx)) rfl rfl ?_
  refine zN ?_
  refine zI ?_ ?_<;>intro hc16
  ·
   refine zR (zM ?_)
   refine zA (zN (Qt (Qp (Qc (Qc (Qp (Qc ?_)))))))
   exact zr rfl rfl (by rw [JE hno hx hc16])
  refine Qn (Qf (Qa (Qg (zB ?_))))
  refine zM (Qb ?_)
  exact zm (h:=⟨n-(k+1),by omega,k+1,rfl,rfl,rfl,rfl,by omega,Vb hx hno hc16⟩)
 have hge_k:n≤k:=by have h:=hc9;simp at h;omega
 refine QI (Qh (Qh (Qk (Qa (zR (zA (zN ?_)))))))
 refine Qt ?_
 exact zr rfl rfl (by rw [VQ hS.len hge_k hno])
theorem zx5 {I:Qu}{av:Option Addr}{n c:Nat}{xs:List Em}(hS:Sl I 3 YB av n c xs)(hn:n≤100000){fid:Nat}{cap:List Value}{P:Em→Bool}(hF:Fun Tryz.prog fid)(hf:∀ x∈xs,Zy Tryz.prog fid ([.agg (YB x).toArray]++cap) I (.bool (P x))):Zy Tryz.prog 121 [.slice av n c,.func (.func fid) #[] cap.toArray] I (.bool (xs.any P)):=by
 intro g H w hw
 refine qe Tryz.func121 Tryz.ntmps121 hw ?_
 refine zR (zA ?_)
 refine zN (zR ?_)
 refine zM ?_
 refine zM ?_
 refine qc (vs:=[_,_]) rfl zq8 (zzt hS hn hF hf) ?_
 refine zC ?_
 refine zA (zN (Qt ?_))
 exact zr rfl rfl (by rw [←K1])
theorem zmV {I:Qu}{av:Option Addr}{n c:Nat}{xs:List Pt}(hS:Sl I 19 Yx av n c xs)(hn:n≤400000):Yf Tryz.prog 114 [.slice av n c] I [] (fun v I' L=>I'=I∧OwnS 57 19 v n (xs.flatMap Yx) L):=by
 intro g H w hw
 refine qe Tryz.func114 Tryz.ntmps114 hw ?_
 refine zR (zA (zN (Ql (zR ?_))))
 refine zM ?_
 refine zV (X1 rfl rfl ZB) ?_
 refine zN ?_
 refine zI ?_ ?_<;>intro hc4
 ·
  have hn0:n=0:=Decidable.byContradiction fun h=>by have:=hS.base h;rw [this] at hc4;cases hc4
  have hl:=hS.len
  subst hn0
  have hx0:=List.eq_nil_of_length_eq_zero hl
  subst hx0
  refine zR (zA (zN (Qt (Qc ?_))))
  exact Zx rfl rfl (fun w hw=>⟨_,I,_,rfl,zAh _,hw,rfl,OwnS.nil⟩)
 refine Qn (Qa (zR ?_))
 refine Qq (ps:=[]) (m:=[]) Wd rfl (.nil) rfl (by simp) (by decide) (by decide) rfl rfl (fun b_5=>?_)
 refine zM ?_
 refine QY (v:=_) (ys:=xs.flatMap Yx) (L:=[(b_5,_)]) rfl rfl Wd OwnS.new (by repeat (first | exact .cons .here .nil | exact QD | exact Qx | apply QC | apply QB)) (hS.src Q0) (zlC _) (by omega) rfl rfl ?_
 intro v1 L1 hO1 _;rw [List.nil_append,Nat.zero_add] at hO1
 refine zA (zN (Qt ?_))
 exact Zx rfl rfl (fun w hw=>⟨_,I,_,rfl,zAh _,hw.subL Zj,rfl,hO1⟩)
theorem zun {I:Qu}{av:Option Addr}{n c:Nat}{rows:List (List Int)}(hV:SlN I av n c rows)(hn:n≤100000){fid:Nat}{cap:List Value}{P:List Int→Bool}(hF:Fun Tryz.prog fid)(hf:∀ (h:Hd) (r:List Int),r∈rows→Sl I 1 QQ h.a h.n h.c r→Zy Tryz.prog fid ([.slice h.a h.n h.c]++cap) I (.bool (P r))):Zy Tryz.prog 100 [.slice av n c,.func (.func fid) #[] cap.toArray] I (.int .i64 (Uk P rows)):=by
 intro g H w hw
 refine qe Tryz.func100 Tryz.ntmps100 hw ?_
 have hVl:=hV.len
 obtain ⟨hs,hVH⟩:=id hV
 have hS:=hVH.1
 refine zR (zA (zN (Ql (zR ?_))))
 refine zM ?_
 refine zQ Zp ?_
 refine zM (zN (Qm ?_))
 refine zU [(0,_),(1,_),(7,_)] (fun T L0 mz E I' loc'=>∃ (k:Nat),mz=n-k∧E=(8,.int .i64 k)::T∧I=I'∧L0=loc'∧k≤n∧(rows.take k).any P=false) ?_ (h:=⟨0,rfl,rfl,rfl,rfl,Nat.zero_le _,rfl⟩)
 rintro mz E I' loc' ⟨k,rfl,rfl,rfl,rfl,hk,hno⟩
 refine zR (zC (zN (Ql ?_)))
 refine zI ?_ ?_<;>intro hc9
 ·
  have hlt_k:k<n:=by have h:=hc9;simp at h;omega
  obtain ⟨hx1,rx,hx,hrx,hQ⟩:=hVH.at hlt_k
  refine Qn (Qa (Ql (Qm (zR (zM ?_)))))
  refine zA ?_
  refine zN (zR ?_)
  refine zM ?_
  refine zM ?_
  refine zM ?_
  refine zV (QE rfl rfl Zp (by assumption) (fun hg=>by omega)) ?_
  refine zV (Qe rfl QJ (fun hg=>by exact zAa hS hx rfl)) ?_
  refine YY (cap:=cap) (vs:=[_]) rfl rfl hF (hf hx1 rx (List.mem_of_getElem? hrx) hQ) rfl rfl ?_
  refine zN ?_
  refine zI ?_ ?_<;>intro hc16
  ·
   refine zR (zM ?_)
   refine zA (zN (Qt (Qp (Qc (Qc (Qp (Qc ?_)))))))
   exact zr rfl rfl (by rw [JE hno hrx hc16])
  refine Qn (Qf (Qa (Qg (zB ?_))))
  refine zM (Qb ?_)
  exact zm (h:=⟨n-(k+1),by omega,k+1,rfl,rfl,rfl,rfl,by omega,Vb hrx hno hc16⟩)
 have hge_k:n≤k:=by have h:=hc9;simp at h;omega
 refine QI (Qh (Qh (Qk (Qa (zR (zA (zN ?_)))))))
 refine Qt ?_
 exact zr rfl rfl (by rw [VQ hVl hge_k hno])
theorem zx9 {I:Qu}{b n c:Nat}{A:List Value}{ps:List Pt}(hA:A.take (n*19)=ps.flatMap Yx)(hl:ps.length=n)(hn:n≤100000){fid:Nat}{cap:List Value}{P:Pt→Bool}(hF:Fun Tryz.prog fid)(hf:∀ x∈ps,Zy Tryz.prog fid ([WJ x]++cap) I (.bool (P x))):Yf Tryz.prog 169 [.slice (some ⟨b,0,none⟩) n c,.func (.func fid) #[] cap.toArray] I [(b,.cells A.toArray 57 (0,0))] (fun u I' L=>u= .int .i64 (Uk P ps)∧I'=I∧L=[(b,.cells A.toArray 57 (0,0))]):=by
 intro g H w hw
 refine qe Tryz.func169 Tryz.ntmps169 hw ?_
 refine zR (zA (zN (Ql (zR ?_))))
 refine zM ?_
 refine zQ ZB ?_
 refine zM (zN (Qm ?_))
 refine zU [(0,_),(1,_),(7,_)] (fun T L0 mz E I' loc'=>∃ (k:Nat),mz=n-k∧E=(8,.int .i64 k)::T∧I=I'∧L0=loc'∧k≤n∧(ps.take k).any P=false) ?_ (h:=⟨0,rfl,rfl,rfl,rfl,Nat.zero_le _,rfl⟩)
 rintro mz E I' loc' ⟨k,rfl,rfl,rfl,rfl,hk,hno⟩
 refine zR (zC (zN (Ql ?_)))
 refine zI ?_ ?_<;>intro hc9
 ·
  have hlt_k:k<n:=by have h:=hc9;simp at h;omega
  obtain ⟨x,hx⟩:∃ x,ps[k]? =some x:=⟨_,List.getElem?_eq_getElem (by omega)⟩
  refine Qn (Qa (Ql (Qm (zR (zM ?_)))))
  refine zA ?_
  refine zN (zR ?_)
  refine zM ?_
  refine zM ?_
  refine zM ?_
  refine zV (Q6 rfl rfl ZB (fun hg=>by omega)) ?_
  refine zV (Qo rfl Yv (fun hg=>by exact zoE hA hx) rfl) ?_
  refine YY (cap:=cap) (vs:=[_]) rfl rfl hF (hf x (List.mem_of_getElem? hx)) rfl rfl ?_
  refine zN ?_
  refine zI ?_ ?_<;>intro hc16
  ·
   refine zR (zM ?_)
   refine zA (zN (Qt (Qp (Qc (Qc (Qp (Qc ?_)))))))
   exact Zx rfl rfl (fun w hw=>⟨_,I,_,rfl,zAh _,hw,by rw [JE hno hx hc16],rfl,rfl⟩)
  refine Qn (Qf (Qa (Qg (zB ?_))))
  refine zM (Qb ?_)
  exact zm (h:=⟨n-(k+1),by omega,k+1,rfl,rfl,rfl,rfl,by omega,Vb hx hno hc16⟩)
 have hge_k:n≤k:=by have h:=hc9;simp at h;omega
 refine QI (Qh (Qh (Qk (Qa (zR (zA (zN ?_)))))))
 refine Qt ?_
 exact Zx rfl rfl (fun w hw=>⟨_,I,_,rfl,zAh _,hw,by rw [VQ hl hge_k hno],rfl,rfl⟩)
theorem zuA {I:Qu}{b n c:Nat}{A:List Value}{ps:List Pt}(hA:A.take (n*19)=ps.flatMap Yx)(hAl:A.length=c*19)(hl:ps.length=n)(hnc:n≤c)(hc:c≤maxLen)(hn:n≤100000){fid:Nat}{cap:List Value}{P:Pt→Bool}(hF:Fun Tryz.prog fid)(hf:∀ x∈ps,Zy Tryz.prog fid ([WJ x]++cap) I (.bool (P x))):Yf Tryz.prog 113 [.slice (some ⟨b,0,none⟩) n c,.func (.func fid) #[] cap.toArray] I [(b,.cells A.toArray 57 (0,0))] (fun u I' L=>I'=I∧∃ m,OwnS 57 19 u m ((ps.filter fun p=> !P p).flatMap Yx) L):=by
 intro g H w hw
 refine qe Tryz.func113 Tryz.ntmps113 hw ?_
 refine zR (zA ?_)
 refine zN (zR ?_)
 refine zM ?_
 refine zM ?_
 refine Qz (cap:=[]) (vs:=[_,_]) rfl rfl zev QD (zx9 hA hl hn hF hf) rfl rfl ?_
 rintro vv1 I1 L1 hI1 ⟨rfl,rfl,rfl⟩
 refine zA (zN (Ql (zR ?_)))
 refine zM ?_
 refine zC (zN ?_)
 refine zI ?_ ?_<;>intro hc12
 ·
  have hno:ps.any P=false:=by cases h:ps.any P with | false=>rfl | true=>(obtain ⟨i,x,h1,h2,h3,h4⟩:=zsG h;rw [h1] at hc12;simp at hc12)
  refine zR (zM ?_)
  refine zA (zN (Qt (Qc ?_)))
  first
  | exact Zx rfl rfl (fun w hw=>⟨_,I1,_,rfl,zAh _,hw,rfl,_,by rw [List.filter_eq_self.2 (fun q hq=>by rw [List.any_eq_false] at hno;simpa using hno q hq),←hA];exact zy1 hA hAl hl hnc hc⟩)
 obtain ⟨i,x,hix,hi,hPi,hno⟩:∃ (i:Nat) (x:Pt),Uk P ps=(i:Nat)∧ps[i]? =some x∧P x=true∧(ps.take i).any P=false:=zc2 (by cases h:ps.any P with | true=>rfl | false=>(unfold Uk at hc12;rw [h] at hc12;simp at hc12))
 have hil:=(List.getElem?_eq_some_iff.1 hi).1
 rw [hix]
 refine Qn (Qa (Ql (zR (zM ?_))))
 refine zB ?_
 refine zA (zN (Qm ?_))
 refine zU [(0,_),(1,_)] (fun T L0 mz E I' loc'=>∃ (i j:Nat) (zs:List Pt) (B:List Value),mz=n-j∧E=(5,.int .i64 i)::(6,.int .i64 j)::T∧I1=I'∧[(b,.cells B.toArray 57 (0,0))]=loc'∧DlQ P ps n c i j zs B) ?_ (h:=⟨i,i+1,ps,A,rfl,rfl,rfl,rfl,DlQ.new hA hl hAl hi hPi hno⟩)
 rintro mz E I' loc' ⟨i,j,zs,B,rfl,rfl,rfl,rfl,hD⟩
 have hij:=hD.hij
 have hjn:=hD.hjn
 refine Ql (zR (zM ?_))
 refine zM ?_
 refine zQ ZB ?_
 refine zC (zN ?_)
 refine zI ?_ ?_<;>intro hc19
 ·
  have hlt:j<n:=by have h:=hc19;simp at h;omega
  obtain ⟨x,hx⟩:∃ x,ps[j]? =some x:=⟨_,List.getElem?_eq_getElem (by omega)⟩
  have hz:=hD.at hx
  refine Qn (Qa (Ql (Qm (zR (zM ?_)))))
  refine zM ?_
  refine zV (Q6 rfl rfl ZB (fun hg=>by omega)) ?_
  refine zV (Qo rfl Yv (fun hg=>by exact zoE hD.hB hz) rfl) ?_
  refine Qs Uu rfl rfl (fun b_7=>?_)
  refine zh V9 ?_
  refine zN (zR ?_)
  refine zM ?_
  refine zV (Qo rfl Yv (fun hg=>by exact Cells.g0) rfl) ?_
  refine YY (cap:=cap) (vs:=[_]) rfl rfl hF (hf x (List.mem_of_getElem? hx)) rfl rfl ?_
  refine zO (zN ?_)
  refine zI ?_ ?_<;>intro hc29
  ·
   refine zR (zM ?_)
   refine zM ?_
   refine zV (Qo rfl Yv (fun hg=>by exact Cells.g0) rfl) ?_
   refine zV (Q6 rfl rfl ZB (fun hg=>by omega)) ?_
   refine Vm (A:=B) rfl rfl V9 rfl (by rw [hD.hl];exact zyo hD hnc hlt) rfl rfl (by repeat (first | exact Upd.here | apply Upd.there | apply QK)) ?_
   refine zN (Qg (zM ?_))
   refine zB ?_
   refine zA (Qb (Qf (Qa (Qg ?_))))
   refine zM ?_
   refine zB ?_
   refine zA (Qb ?_)
   exact zm (h:=⟨n-(j+1),by omega,i+1,j+1,_,_,rfl,rfl,rfl,rfl,hD.keep hx (by simpa using hc29) hnc hlt⟩)
  refine Qn (Qf (Qa (Qg (zM ?_))))
  refine zB ?_
  refine zA (Qb ?_)
  exact zm (h:=⟨n-(j+1),by omega,i,j+1,_,_,rfl,rfl,rfl,rfl,hD.drop hx (by simpa using hc29) hlt⟩)
 have hge:n≤j:=by have h:=hc19;simp at h;omega
 refine QI (Qh (Qh (Qk (Qa (zR (zM ?_))))))
 refine zM ?_
 refine zV (ze3 rfl rfl ZB (by omega)) ?_
 refine zl9 (A:=B) (fun zs=>[(b,.cells (B.take (0+i*19)++(zs++B.drop (0+i*19+(n-i)*19))).toArray 57 (0,0))]) rfl zwd Uu rfl rfl (by rw [hD.hl];exact zuD hD hnc) rfl rfl (fun zs=>.here) (fun zc hzc=>?_)
 refine zN (zR ?_)
 refine zM ?_
 refine zM ?_
 refine zV (za8 rfl rfl ZB (fun hg=>by omega)) ?_
 refine zA (zN (Qt ?_))
 exact Zx rfl rfl (fun w hw=>⟨_,I1,_,rfl,zAh _,hw,rfl,_,hD.own hge hl hnc hc hzc⟩)
end
section
open Go Go.Kn Go.Proofs
theorem zeL:AgT Tryz.prog 104 2:=.of (by kernel_rfl)
theorem JK:AgT Tryz.prog 98 8:=.of (by kernel_rfl)
theorem zsf:Ar2 Tryz.prog 104 3 .i64:=⟨by kernel_rfl,by kernel_rfl,by kernel_rfl,by kernel_rfl,by kernel_rfl⟩
theorem V3:ArT Tryz.prog 104 2 3 1:=.of (by kernel_rfl)
theorem Wo:QZ Tryz.prog 98 2 5:=.of (by kernel_rfl)
theorem XE:QZ Tryz.prog 98 3 6:=.of (by kernel_rfl)
theorem zqD:Fun Tryz.prog 112:=.of Tryz.func112 (by kernel_rfl) (by kernel_rfl)
theorem zs4:Fun Tryz.prog 113:=.of Tryz.func113 (by kernel_rfl) (by kernel_rfl)
theorem zrJ:Fun Tryz.prog 114:=.of Tryz.func114 (by kernel_rfl) (by kernel_rfl)
theorem zrE:Fun Tryz.prog 115:=.of Tryz.func115 (by kernel_rfl) (by kernel_rfl)
theorem zqg:Fun Tryz.prog 117:=.of Tryz.func117 (by kernel_rfl) (by kernel_rfl)
theorem zrr:Fun Tryz.prog 118:=.of Tryz.func118 (by kernel_rfl) (by kernel_rfl)
theorem zdP:ScT Tryz.prog 36:=.of (by kernel_rfl)
theorem zdr:ScT Tryz.prog 96:=.of (by kernel_rfl)
theorem zoV:SzT Tryz.prog 36 1:=.of (by kernel_rfl)
theorem zhP:Yu Tryz.prog 104 (.agg #[(.int .i64 0),(.int .i64 0)]):=.of (by kernel_rfl)
theorem zyU:Yu Tryz.prog 36 (.slice none 0 0):=.of (by kernel_rfl)
theorem zwk {I:Qu}{fid:Nat}{cap:List Value}{P:Pt→Bool}(hF:Fun Tryz.prog fid)(hf:∀ x∈([]:List Pt),Zy Tryz.prog fid ([WJ x]++cap) I (.bool (P x))):Yf Tryz.prog 113 [.slice none 0 0,.func (.func fid) #[] cap.toArray] I [] (fun u I' L=>I'=I∧∃ m,OwnS 57 19 u m (([]:List Pt).flatMap Yx) L):=by
 intro g H w hw
 refine qe Tryz.func113 Tryz.ntmps113 hw ?_
 refine zR (zA ?_)
 refine zN (zR ?_)
 refine zM ?_
 refine zM ?_
 refine qc (vs:=[_,_]) rfl zev (zuW (ps:=[]) ⟨.nil,fun x hx=>by cases hx⟩ (by omega) hF hf) ?_
 refine zA (zN (Ql (zR ?_)))
 refine zM ?_
 refine zC (zN ?_)
 refine zI ?_ ?_<;>intro hc12
 ·
  refine zR (zM ?_)
  refine zA (zN (Qt (Qc ?_)))
  exact Zx rfl rfl (fun w hw=>⟨_,I,[],rfl,zAh _,hw.drop,rfl,0,OwnS.nil⟩)
 exact absurd hc12 (by simp [Uk])
theorem zus {I:Qu}{v:Value}{n:Nat}{L0:Go.Kn.Loc}{ps:List Pt}(hO:OwnS 57 19 v n (ps.flatMap Yx) L0)(hn:n≤100000){fid:Nat}{cap:List Value}{P:Pt→Bool}(hF:Fun Tryz.prog fid)(hf:∀ x∈ps,Zy Tryz.prog fid ([WJ x]++cap) I (.bool (P x))):Yf Tryz.prog 113 [v,.func (.func fid) #[] cap.toArray] I L0 (fun u I' L=>I'=I∧∃ m,OwnS 57 19 u m ((ps.filter fun p=> !P p).flatMap Yx) L):=by
 obtain ⟨hlen,⟨rfl,rfl,rfl⟩ | ⟨b,c,cur,rfl,rfl,hnc,hcm,hsz,htk⟩⟩:=hO
 ·
  obtain rfl:ps=[]:=by
   rw [ZT Q0] at hlen
   exact List.length_eq_zero_iff.1 (by omega)
  exact zwk hF hf
 have hl:ps.length=n:=by rw [ZT Q0] at hlen;omega
 have h:=zuA (b:=b) (A:=cur.toList) (c:=c) htk (by rw [Array.length_toList];exact hsz) hl hnc hcm hn hF hf
 rw [Array.toArray_toList] at h
 exact h
theorem zsH {I:Qu}{t:Tx}{ps:List Pt}(hOn:OnM I t.r ps)(p:Pt)(hid:∃ z∈ps,z.id=p.id)(i:Int):Zy Tryz.prog 118 [.agg (Kw t).toArray,WJ p,.int .i64 i] I (.bool (onF ps p.id i)):=by
 intro g H w hw
 refine qe Tryz.func118 Tryz.ntmps118 hw ?_
 obtain ⟨m,hm1,hm2⟩:=hOn
 obtain ⟨ref,hget,sn,hsn,hsq⟩:=hm2.get hid
 refine zR ?_
 refine Q2 rfl rfl rfl (fun b_3=>?_)
 refine Q2 rfl rfl rfl (fun b_4=>?_)
 refine zA ?_
 refine zN (zR ?_)
 refine zF Wo ?_
 refine zL zdr ?_
 refine zF Zw ?_
 refine zL Qr ?_
 refine zV (YM (m:=m) (ek:=Value.int .i64) (ev:=zcP) (a:=p.id) hget zc8 ZG rfl rfl (fun _=>.inl hm1)) ?_
 refine zM ?_
 refine zV (Ya (m:=sn) za3 ZG rfl rfl (fun _=>.inl hsn)) ?_
 refine zA (zN (Qt ?_))
 exact zr rfl rfl (by rw [show (ZE sn i).getD false=onF ps p.id i from hsq.mem _])
theorem zqW {I:Qu}{b1 b2:Nat}{t:Tx}{p:Pt}{ps:List Pt}(h1:I b1=some (.cells (Kw t).toArray 98 (0,0)))(h2:I b2=some (.cells (Yx p).toArray 57 (0,0)))(hOn:OnM I t.r ps)(q:Pt)(hid:∃ z∈ps,z.id=q.id):Zy Tryz.prog 117 [WJ q,.pointer (some ⟨b1,0,none⟩),.pointer (some ⟨b2,0,none⟩)] I (.bool (onF ps q.id p.id)):=by
 intro g H w hw
 refine qe Tryz.func117 Tryz.ntmps117 hw ?_
 refine zR ?_
 refine Q2 rfl rfl rfl (fun b_3=>?_)
 refine zA ?_
 refine zN (zR ?_)
 refine zV (Qo rfl JK (fun hg=>by exact Cells.imm h1) rfl) ?_
 refine zV (Qo rfl Yv (fun hg=>by exact Cells.g0) rfl) ?_
 refine zF Zw ?_
 refine zV (Qe rfl Qr (fun hg=>by exact .imm h2 rfl)) ?_
 refine qc (vs:=[_,_,_]) rfl zrr (zsH hOn q hid _) ?_
 refine zA (zN (Qt ?_))
 exact zr rfl rfl (by rfl)
theorem zwj {I:Qu}{b1 b2:Nat}{t:Tx}{ps:List Pt}{av:Option Addr}{n c:Nat}{xs:List Pt}(h1:I b1=some (.cells #[.slice av n c] 36 (0,0)))(h2:I b2=some (.cells (Kw t).toArray 98 (0,0)))(hOn:OnM I t.r ps)(hX:SlP I av n c xs)(hn:n≤100000)(hsub:∀ q∈xs,∃ z∈ps,z.id=q.id)(p:Pt):Zy Tryz.prog 115 [WJ p,.pointer (some ⟨b1,0,none⟩),.pointer (some ⟨b2,0,none⟩)] I (.bool (xs.any fun q=>onF ps q.id p.id)):=by
 intro g H w hw
 refine qe Tryz.func115 Tryz.ntmps115 hw ?_
 refine zR ?_
 refine Q2 rfl rfl rfl (fun b_3=>?_)
 refine zA ?_
 refine zN (zR ?_)
 refine zV (Qe rfl zdP (fun hg=>by exact .imm h1 rfl)) ?_
 refine zV (Zd (us:=[]) (vs:=[_,_]) rfl rfl) ?_
 refine Wg (cap:=[]) (vs:=[_,_]) rfl rfl zk8 QD (zlv.ofV fun I' hI' hL'=>zuR (cap:=[.pointer (some ⟨b2,0,none⟩),.pointer (some ⟨b_3,0,none⟩)]) (hX.mono hI') hn zqg (fun q hq=>zqW (b1:=b2) (b2:=b_3) (t:=t) (p:=p) (hI' _ _ h2) (hL' b_3 _ (.head _)) (hOn.mono hI') q (hsub q hq))) rfl rfl ?_
 refine zA (zN (Qt ?_))
 exact zr rfl rfl (by rfl)
theorem zq6 {I:Qu}{t:Tx}{rows:List (List Int)}{es:List Em}{rd:List Int}{ps l:List Pt}{sg:List Sg}(hT:zhD I t rows es rd ps l sg)(s f:Int):Yf Tryz.prog 112 [.agg (Kw t).toArray,.agg #[.int .i64 s,.int .i64 f]] I [] (zbv 19 Yx (stF l s f)):=by
 intro g H w hw
 refine qe Tryz.func112 Tryz.ntmps112 hw ?_
 have hIc:=zAh I
 have hSl:=hT.L.1
 have hbl:=hT.bl
 refine zR ?_
 refine Q2 rfl rfl rfl (fun b_2=>?_)
 refine Q2 rfl rfl rfl (fun b_3=>?_)
 refine zA (zN (Ql (zR ?_)))
 refine zF XE ?_
 refine zL zdP ?_
 refine zQ ZB ?_
 refine zM (zN (Qm ?_))
 refine zU [(3,_),(8,_),(9,_)] (fun T L0 mz E I' loc'=>∃ (k:Nat) (v:Value) (q:Nat) (L:Go.Kn.Loc),mz=t.ln-k∧E=(4,v)::(10,.int .i64 k)::T∧I=I'∧L++[(b_3,.cells #[.int .i64 s,.int .i64 f] 104 (0,0)),(b_2,.cells (Kw t).toArray 98 (0,0))]=loc'∧k≤t.ln∧OwnS 57 19 v q ((stF (l.take k) s f).flatMap Yx) L∧q≤k) ?_ (h:=⟨0,_,0,[],rfl,rfl,rfl,rfl,Nat.zero_le _,by rw [List.take_zero];exact OwnS.nil,Nat.le_refl _⟩)
 rintro mz E I' loc' ⟨k,v,q,L,rfl,rfl,rfl,rfl,hk,hO,hq⟩
 refine zR (zC (zN (Ql ?_)))
 refine zI ?_ ?_<;>intro hc11
 ·
  have hlt_k:k<t.ln:=by have h:=hc11;simp at h;omega
  obtain ⟨p,hp⟩:=hSl.at hlt_k
  refine Qn (Qa (Ql (Qm (zR ?_))))
  refine zV (zX ZB hSl) ?_
  refine zV (Qo rfl Yv (fun hg=>by exact zAi hSl hp) rfl) ?_
  refine Qs Uu rfl rfl (fun b_6=>?_)
  refine zh V9 ?_
  refine zN (zR ?_)
  refine zF JY ?_
  refine zL Qr ?_
  refine zC ?_
  refine zM ?_
  refine QH 3 rfl rfl rfl ?_
  refine zK (Qd rfl Yc) ?_
  refine zK (Qe rfl Qr (fun hg=>by exact QT.h0 rfl)) ?_
  refine zK (Qd rfl Jn) ?_
  refine zK (Qe rfl Qr (fun hg=>by exact QT.h0 rfl)) ?_
  refine zK (Zz (ps:=[(0,_),(1,_)]) [_,_] V3 zhP rfl rfl) ?_
  refine zK (Qo rfl zeL (fun hg=>by (repeat (first | exact zAf | apply zAe | apply zAg))) rfl) ?_
  refine zK (zrC rfl rfl zsf) ?_
  refine QP rfl rfl rfl rfl rfl ?_
  refine zN ?_
  refine zI ?_ ?_<;>intro hc25
  ·
   have hst:(p.kind==1&&(p.sign==s&&p.field==f))=true:=by simpa using hc25
   refine Qg (zM ?_)
   refine zV (Qo rfl Yv (fun hg=>by exact Cells.g0) rfl) ?_
   refine Qq (ps:=[(0,_)]) (m:=[Yx p]) Wd rfl (.cons rfl (.nil)) rfl (by simp [Q0]) (by decide) (by decide) rfl rfl (fun b_28=>?_)
   refine QY (v:=_) (ys:=[p].flatMap Yx) (L:=L) rfl rfl Wd hO (by repeat (first | exact .cons .here .nil | exact QD | exact Qx | apply QC | apply QB)) ⟨rfl,fun _=>rfl,by repeat (first | exact zAf | apply zAe | apply zAg)⟩ (zlC _) (by omega) rfl rfl ?_
   intro v9 L9 hO9 _;rw [←List.flatMap_append] at hO9
   refine zA (Qb (Qf (Qa (Qg ?_))))
   refine zB ?_
   refine zM (Qb ?_)
   first
   | exact zm (h:=⟨t.ln-(k+1),by omega,k+1,_,_,_,rfl,rfl,rfl,rfl,by omega,by rw [show stF (l.take (k+1)) s f=stF (l.take k) s f++[p] from Xe hp hst];exact hO9,by omega⟩)
  have hst:(p.kind==1&&(p.sign==s&&p.field==f))=false:=by simpa using hc25
  refine Qn (Qf (Qa (Qg (zB ?_))))
  refine zM (Qb ?_)
  first
  | exact zm (h:=⟨t.ln-(k+1),by omega,k+1,_,_,_,rfl,rfl,rfl,rfl,by omega,by rw [show stF (l.take (k+1)) s f=stF (l.take k) s f from za4 hp hst];exact hO,by omega⟩)
 have hge_k:t.ln≤k:=by have h:=hc11;simp at h;omega
 rw [ZH hSl.len hge_k] at hO
 refine QI (Qh (Qh (Qk (Qa (zR (zM ?_))))))
 refine zA (zN (Qt ?_))
 exact Zx rfl rfl (fun w hw=>by obtain ⟨I9,h91,h92,h93⟩:=OwnS.res hO Q0 (by decide) (hw.subL (by exact Zj));exact ⟨_,I9,[],rfl,hIc.trans h91,h92,h93⟩)
theorem zvn {I:Qu}{t:Tx}{rows:List (List Int)}{es:List Em}{rd:List Int}{ps l:List Pt}{sg:List Sg}(hT:zhD I t rows es rd ps l sg)(s f:Int):Yf Tryz.prog 70 [.agg (Kw t).toArray,.agg #[.int .i64 s,.int .i64 f]] I [] (FrQ (or1 (onF ps) l s f)):=by
 intro g H w hw
 refine qe Tryz.func70 Tryz.ntmps70 hw ?_
 have hIc:=zAh I
 have hbl:=hT.bl
 refine zR ?_
 refine Q2 rfl rfl rfl (fun b_2=>?_)
 refine Q2 rfl rfl rfl (fun b_3=>?_)
 refine Qs W6 rfl rfl (fun b_4=>?_)
 refine zA ?_
 refine zN (zR ?_)
 refine zV (Qo rfl JK (fun hg=>by exact Cells.g2) rfl) ?_
 refine zV (Qo rfl zeL (fun hg=>by exact Cells.g1) rfl) ?_
 refine Qz (cap:=[]) (vs:=[_,_]) rfl rfl zqD .nil (zq6 hT s f) rfl rfl ?_
 rintro vv1 I1 L1 hI1 ⟨rfl,a9,c9,rfl,hSA⟩
 have hT:=hT.mono hI1;have hIc:=hIc.trans hI1
 have hSA:Sl I1 19 Yx a9 (stF l s f).length c9 (stF l s f):=hSA
 have hsl:(stF l s f).length≤100000:=Nat.le_trans WL (by rw [hT.L.1.len];exact hbl)
 refine Qs zyU rfl rfl (fun b_6=>?_)
 refine zS zoV ?_
 refine zN (Ql ?_)
 refine Zg (b:=b_2) (by repeat (first | exact Q8.here | apply Q8.there)) (fun I2 hI2 hb2=>?_)
 have hT:=hT.mono hI2;have hSA:=hSA.mono hI2;have hIc:=hIc.trans hI2
 have h2:=hb2
 refine Zg (b:=b_6) (by repeat (first | exact Q8.here | apply Q8.there)) (fun I3 hI3 hb3=>?_)
 have hT:=hT.mono hI3;have hSA:=hSA.mono hI3;have hIc:=hIc.trans hI3
 have h2:=hI3 _ _ h2
 have h6:=hb3
 refine Qg ?_
 refine zV (Qe rfl zdP (fun hg=>by exact .imm h6 rfl)) ?_
 refine Qz (cap:=[]) (vs:=[_]) rfl rfl zrJ .nil (zmV hSA (by omega)) rfl rfl ?_
 rintro vv4 I4 L4 hI4 ⟨rfl,hO⟩
 have hT:=hT.mono hI4;have hSA:=hSA.mono hI4;have hIc:=hIc.trans hI4
 refine zV (Zd (us:=[]) (vs:=[_,_]) rfl rfl) ?_
 refine Qz (cap:=[]) (vs:=[_,_]) rfl rfl zs4 (by repeat (first | exact .cons .here .nil | exact QD | exact Qx | apply QC | apply QB)) (zus hO hsl zrE (cap:=[.pointer (some ⟨b_6,0,none⟩),.pointer (some ⟨b_2,0,none⟩)]) (fun x hx=>zwj h6 h2 hT.M ⟨hSA,fun q hq=>hT.L.2 q (UH.1 hq).1⟩ hsl (fun q hq=>hT.sub q (UH.1 hq).1) x)) rfl rfl ?_
 rintro vv5 I5 L5 hI5 ⟨rfl,m,hO2⟩
 have hIc:=hIc.trans hI5
 refine zA (zN (Ql (Ql ?_)))
 refine Vr hO2 Q0 (by decide) (by repeat (first | exact .cons .here .nil | exact QD | exact Qx | apply QC | apply QB)) (fun I6 hI6 af6 cf6 ef6 hLt=>?_)
 subst ef6
 have hIc:=hIc.trans hI6
 have hLt:Sl I6 19 Yx _ m _ (XP (onF ps) l s f):=hLt
 have hm:=hLt.len
 have hml:m≤100000:=by rw [←hm];exact Nat.le_trans (List.length_filter_le ..) hsl
 refine Qg (zM ?_)
 refine zQ ZB ?_
 refine zM (zN (Qm ?_))
 refine zU [(4,_),(7,_),(17,_),(18,_)] (fun T L0 mz E I' loc'=>∃ (k:Nat) (v:Value) (q:Nat) (L:Go.Kn.Loc),mz=m-k∧E=(19,.int .i64 k)::T∧I6=I'∧L++[(b_4,.cells #[.int .i64 0,.int .i64 0,.slice none 0 0,v] 38 (0,0)),(b_3,.cells #[.int .i64 s,.int .i64 f] 104 (0,0))]=loc'∧k≤m∧OwnS 3 1 v q (((zkQ (XP (onF ps) l s f) k).map (·.id)).flatMap QQ) L∧q≤k) ?_ (h:=⟨0,_,0,[],rfl,rfl,rfl,rfl,Nat.zero_le _,by rw [zxZ];exact OwnS.nil,Nat.le_refl _⟩)
 rintro mz E I' loc' ⟨k,v,q,L,rfl,rfl,rfl,rfl,hk,hO,hq⟩
 obtain ⟨va4,vc4,rfl⟩:=zd6 hO
 refine zR (zC (zN (Ql ?_)))
 refine zI ?_ ?_<;>intro hc20
 ·
  have hlt_k:k<m:=by have h:=hc20;simp at h;omega
  obtain ⟨p,hp⟩:=hLt.at hlt_k
  obtain ⟨p0,hp0⟩:=hLt.at (k:=0) (by omega)
  refine Qn (Qa (Ql (Qm (zR ?_))))
  refine zV (zX ZB hLt) ?_
  refine zV (Qo rfl Yv (fun hg=>by exact zAi hLt hp) rfl) ?_
  refine Qs Uu rfl rfl (fun b_9=>?_)
  refine zh V9 ?_
  refine zN (Ql ?_)
  refine YF mixed (by kernel_rfl) ?_
  refine zq (Qd rfl VO) ?_
  refine zq (Qo rfl Q9 (fun hg=>by exact Cells.s0 (vs:=[_,_,_,_,_,_,_,_,_,_,_,_,_,_]) rfl) rfl) ?_
  refine zq (Qi rfl) ?_
  refine zq (zX ZB hLt) ?_
  refine zq (Qd rfl VO) ?_
  refine zq (Qo rfl Q9 (fun hg=>by exact Sl.seg (vs:=YU p0.nw) (o:=4) hLt hp0 rfl) rfl) ?_
  refine zq (zbq rfl rfl Ks rfl) ?_
  refine YK ?_
  refine Qa ?_
  refine zI ?_ ?_<;>intro hc29
  ·
   have hq29:WK p.nw p0.nw=true:=hc29
   rw [←QU (d:=WS) hp0] at hq29
   refine Qg ?_
   refine zF JQ ?_
   refine zV (Qe rfl QJ (fun hg=>by (repeat (first | exact zAc rfl | apply zAb | apply zAd)))) ?_
   refine zF Zw ?_
   refine zL Qr ?_
   refine Qq (ps:=[(0,_)]) (m:=[QQ p.id]) Zh rfl (.cons rfl (.nil)) rfl (by simp [Qv]) (by decide) (by decide) rfl rfl (fun b_34=>?_)
   refine QY (v:=_) (ys:=[p.id].flatMap QQ) (L:=L) rfl rfl Zh hO (by repeat (first | exact .cons .here .nil | exact QD | exact Qx | apply QC | apply QB)) ⟨rfl,fun _=>rfl,by repeat (first | exact zAf | apply zAe | apply zAg)⟩ (Kk _) (by omega) rfl rfl ?_
   intro v9 L9 hO9 _;obtain ⟨va9,vc9,rfl⟩:=zd6 hO9;rw [←List.flatMap_append] at hO9
   refine zF JQ ?_
   refine ZI rfl rfl Zk rfl rfl (by (repeat (first | exact Upd.here | apply Upd.there | apply QK))) rfl ?_
   refine Qb (Qf (Qa (Qg (zB ?_))))
   refine zM (Qb ?_)
   first
   | exact zm (h:=⟨m-(k+1),by omega,k+1,_,_,_,rfl,rfl,rfl,rfl,by omega,by rw [zqz hp hq29];exact hO9,by omega⟩)
  have hq29:WK p.nw p0.nw=false:=hc29
  rw [←QU (d:=WS) hp0] at hq29
  refine Qn (Qf (Qa (Qg (zB ?_))))
  refine zM (Qb ?_)
  first
  | exact zm (h:=⟨m-(k+1),by omega,k+1,_,_,_,rfl,rfl,rfl,rfl,by omega,by rw [zvK hp hq29];exact hO,by omega⟩)
 have hge_k:m≤k:=by have h:=hc20;simp at h;omega
 have hke:k=m:=by omega
 refine QI (Qh (Qh (Qk (Qa (zR ?_)))))
 refine zF XC ?_
 refine ZI rfl rfl Z2 rfl rfl (by (repeat (first | exact Upd.here | apply Upd.there | apply QK))) rfl ?_
 refine zN (zR ?_)
 refine zV (Qo rfl Y6 (fun hg=>by (repeat (first | exact zAf | apply zAe | apply zAg))) rfl) ?_
 refine zM ?_
 refine zQ ZB ?_
 refine zC ?_
 refine Y1 rfl rfl VY rfl rfl rfl rfl (by (repeat (first | exact Upd.here | apply Upd.there | apply QK))) ?_
 refine zA (zN (Qt ?_))
 exact Zu rfl rfl rfl Y6 (vs:=[.int .i64 3,.int .i64 0,.slice none 0 0,.slice va4 _ vc4]) (by repeat (first | exact zAf | apply zAe | apply zAg)) rfl (fun w hw=>by obtain ⟨I9,av9,c9,h1',h2',e9,h4'⟩:=OwnS.freeze (R:=[_,_]) hO Qv (by decide) hw;cases e9;exact ⟨_,I9,[],rfl,hIc.trans h1',h2'.drop,rfl,[.int .i64 3,.int .i64 0,.slice none 0 0,.slice va4 _ vc4],by rw [zxg hm],_,_,_,_,_,_,rfl,.nil,by show Sl _ 1 QQ _ _ _ (zku _);rw [←zrP hm hke];exact h4'⟩)
end
section
open Go Go.Kn Go.Proofs
theorem zrW:ElT Tryz.prog 146 145 1 8:=.of (by kernel_rfl)
theorem zci:QZ Tryz.prog 98 0 0:=.of (by kernel_rfl)
theorem zbP:QZ Tryz.prog 98 1 1:=.of (by kernel_rfl)
theorem zr2:Fun Tryz.prog 119:=.of Tryz.func119 (by kernel_rfl) (by kernel_rfl)
theorem zrV:Fun Tryz.prog 120:=.of Tryz.func120 (by kernel_rfl) (by kernel_rfl)
theorem zqA:Fun Tryz.prog 121:=.of Tryz.func121 (by kernel_rfl) (by kernel_rfl)
theorem zqO:Fun Tryz.prog 122:=.of Tryz.func122 (by kernel_rfl) (by kernel_rfl)
theorem zrN:Fun Tryz.prog 123:=.of Tryz.func123 (by kernel_rfl) (by kernel_rfl)
theorem zuP:Fun Tryz.prog 70:=.of Tryz.func70 (by kernel_rfl) (by kernel_rfl)
theorem zur:Fun Tryz.prog 71:=.of Tryz.func71 (by kernel_rfl) (by kernel_rfl)
theorem zuu:Fun Tryz.prog 72:=.of Tryz.func72 (by kernel_rfl) (by kernel_rfl)
theorem zwa:Fun Tryz.prog 73:=.of Tryz.func73 (by kernel_rfl) (by kernel_rfl)
theorem ztM:Fun Tryz.prog 74:=.of Tryz.func74 (by kernel_rfl) (by kernel_rfl)
theorem zpW:ScT Tryz.prog 145:=.of (by kernel_rfl)
theorem zh0:SlT Tryz.prog 146 145 1:=.of (by kernel_rfl)
theorem zy6 {I:Qu}{t:Tx}{rows:List (List Int)}{es:List Em}{rd:List Int}{ps l:List Pt}{sg:List Sg}(hT:zhD I t rows es rd ps l sg)(s f:Int):Yf Tryz.prog 71 [.agg (Kw t).toArray,.agg #[.int .i64 s,.int .i64 f]] I [] (FrQ (or2 l s)):=by
 intro g H w hw
 refine qe Tryz.func71 Tryz.ntmps71 hw ?_
 have hIc:=zAh I
 have hSl:=hT.L.1
 have hbl:=hT.bl
 refine zR ?_
 refine Q2 rfl rfl rfl (fun b_2=>?_)
 refine Q2 rfl rfl rfl (fun b_3=>?_)
 refine Qs W6 rfl rfl (fun b_4=>?_)
 refine zA (zN (Ql (zR ?_)))
 refine zF XE ?_
 refine zL zdP ?_
 refine zQ ZB ?_
 refine zM (zN (Qm ?_))
 refine zU [(3,_),(4,_),(9,_),(10,_)] (fun T L0 mz E I' loc'=>∃ (k:Nat),mz=t.ln-k∧E=(11,.int .i64 k)::T∧I=I'∧L0=loc'∧k≤t.ln∧(l.take k).any (inP s)=false) ?_ (h:=⟨0,rfl,rfl,rfl,rfl,Nat.zero_le _,rfl⟩)
 rintro mz E I' loc' ⟨k,rfl,rfl,rfl,rfl,hk,hno⟩
 refine zR (zC (zN (Ql ?_)))
 refine zI ?_ ?_<;>intro hc12
 ·
  have hlt_k:k<t.ln:=by have h:=hc12;simp at h;omega
  obtain ⟨p,hp⟩:=hSl.at hlt_k
  refine Qn (Qa (Ql (Qm (zR ?_))))
  refine zV (zX ZB hSl) ?_
  refine zV (Qo rfl Yv (fun hg=>by exact zAi hSl hp) rfl) ?_
  refine Qs Uu rfl rfl (fun b_7=>?_)
  refine zh V9 ?_
  refine zN (zR ?_)
  refine zF JY ?_
  refine zL Qr ?_
  refine zC ?_
  refine zM ?_
  refine QH 3 rfl rfl rfl ?_
  refine zK (Qd rfl Yc) ?_
  refine zK (Qe rfl Qr (fun hg=>by exact QT.h0 rfl)) ?_
  refine zK (Zq rfl rfl V3 (fun hg=>by decide)) ?_
  refine zK (Qe rfl Qr (fun hg=>by exact QT.h2 rfl)) ?_
  refine zK (QG rfl rfl rfl) ?_
  refine QP rfl rfl rfl rfl rfl ?_
  refine zN ?_
  refine zI ?_ ?_<;>intro hc24
  ·
   have hc24:inP s p=true:=hc24
   refine zR ?_
   refine zF Zw ?_
   refine zL Qr ?_
   refine Qq (ps:=[(0,_)]) (m:=[QQ p.id]) Zh rfl (.cons rfl (.nil)) rfl (by simp [Qv]) (by decide) (by decide) rfl rfl (fun b_27=>?_)
   refine zV (QS (ps:=[(0,_),(3,_)]) [_,_,_,_] zaS rfl rfl) ?_
   refine zh VY ?_
   refine zA (zN (Qt (Qp (Qc (Qc (Qp (Qc ?_)))))))
   first
   | exact Zu rfl rfl rfl Y6 (vs:=[.int .i64 3,.int .i64 0,.slice none 0 0,.slice (some ⟨b_27,0,none⟩) 1 1]) (by repeat (first | exact zAf | apply zAe | apply zAg)) rfl (fun w hw=>by obtain ⟨I9,h91,h92,h93⟩:=hw.freezeAll;exact ⟨_,I9,[],rfl,hIc.trans h91,h92,rfl,[.int .i64 3,.int .i64 0,.slice none 0 0,.slice (some ⟨b_27,0,none⟩) 1 1],by rw [zcA hno hp hc24],none,0,0,_,_,_,by rw [zcA hno hp hc24],by rw [zcA hno hp hc24];exact .nil,by rw [zcA hno hp hc24];exact Sl.lit (t:=3) [_] rfl Qv (h93 b_27 _ (by simp [QQ]))⟩)
  have hc24:inP s p=false:=hc24
  refine Qn (Qf (Qa (Qg (zB ?_))))
  refine zM (Qb ?_)
  exact zm (h:=⟨t.ln-(k+1),by omega,k+1,rfl,rfl,rfl,rfl,by omega,Vb hp hno hc24⟩)
 have hge_k:t.ln≤k:=by have h:=hc12;simp at h;omega
 rw [ZH hSl.len hge_k] at hno
 refine QI (Qh (Qh (Qk (Qa (zR ?_)))))
 refine zV (Qo rfl Y6 (fun hg=>by exact Cells.g0) rfl) ?_
 refine zh VY ?_
 refine zA (zN (Qt ?_))
 first
 | exact Zu rfl rfl rfl Y6 (vs:=[.int .i64 0,.int .i64 0,.slice none 0 0,.slice none 0 0]) (by repeat (first | exact zAf | apply zAe | apply zAg)) rfl (fun w hw=>⟨_,I,[],rfl,zAh _,hw.drop,rfl,[.int .i64 0,.int .i64 0,.slice none 0 0,.slice none 0 0],by rw [zgu hno],none,0,0,none,0,0,by rw [zgu hno];rfl,by rw [zgu hno];exact .nil,by rw [zgu hno];exact .nil⟩)
theorem zyD {I:Qu}{b1 b2:Nat}{t:Tx}{q:Nat}{f:Int}{h:Hd}{r rd:List Int}(h1:I b1=some (.cells #[.int .i64 (q:Nat),.int .i64 f] 104 (0,0)))(h2:I b2=some (.cells (Kw t).toArray 98 (0,0)))(hQ:Sl I 1 QQ h.a h.n h.c r)(hR:Sl I 1 QQ t.a3 t.n4 t.d3 rd)(hqr:q<r.length)(hqd:q<rd.length):Zy Tryz.prog 119 [.slice h.a h.n h.c,.pointer (some ⟨b1,0,none⟩),.pointer (some ⟨b2,0,none⟩)] I (.bool (r.getD q 0==rd.getD q 0)):=by
 intro g H w hw
 refine qe Tryz.func119 Tryz.ntmps119 hw ?_
 have hQl:=hQ.len
 have hRl:=hR.len
 refine zR (zA (zN (Ql ?_)))
 refine YF mixed (by kernel_rfl) ?_
 refine zq (Qi rfl) ?_
 refine zq (Zq rfl rfl V3 (fun hg=>by decide)) ?_
 refine zq (Qe rfl Qr (fun hg=>by exact QT.imm h1 rfl)) ?_
 refine zq (zX Qw hQ) ?_
 refine zq (Qe rfl Qr (fun hg=>by exact zAa (k:=q) hQ (Q4 (d:=0) rfl (by omega)) rfl)) ?_
 refine zq (Qd rfl zbP) ?_
 refine zq (Qd rfl Ji) ?_
 refine zq (Qe rfl QJ (fun hg=>by exact QT.imm h2 rfl)) ?_
 refine zq (Zq rfl rfl V3 (fun hg=>by decide)) ?_
 refine zq (Qe rfl Qr (fun hg=>by exact QT.imm h1 rfl)) ?_
 refine zq (zX Qw hR) ?_
 refine zq (Qe rfl Qr (fun hg=>by exact zAa (k:=q) hR (Q4 (d:=0) rfl (by omega)) rfl)) ?_
 refine zq (QG rfl rfl rfl) ?_
 refine zq (ZF rfl) ?_
 refine YK ?_
 refine Qa (Qt ?_)
 exact zr rfl rfl (by rfl)
theorem zyj {I:Qu}{b1:Nat}{q:Nat}{f:Int}{h:Hd}{r:List Int}(h1:I b1=some (.cells #[.int .i64 (q:Nat),.int .i64 f] 104 (0,0)))(hQ:Sl I 1 QQ h.a h.n h.c r)(hqr:q<r.length):Zy Tryz.prog 120 [.slice h.a h.n h.c,.pointer (some ⟨b1,0,none⟩)] I (.bool (zoB q r)):=by
 intro g H w hw
 refine qe Tryz.func120 Tryz.ntmps120 hw ?_
 have hQl:=hQ.len
 refine zR (zA ?_)
 refine zN (zR ?_)
 refine zM ?_
 refine zV (Zq rfl rfl V3 (fun hg=>by decide)) ?_
 refine zV (Qe rfl Qr (fun hg=>by exact QT.imm h1 rfl)) ?_
 refine zV (zX Qw hQ) ?_
 refine zV (Qe rfl Qr (fun hg=>by exact zAa (k:=q) hQ (Q4 (d:=0) rfl (by omega)) rfl)) ?_
 refine zC ?_
 refine zM ?_
 refine QH 6 rfl rfl rfl ?_
 refine zK (Qi rfl) ?_
 refine zK (Zq rfl rfl V3 (fun hg=>by decide)) ?_
 refine zK (Qe rfl Qr (fun hg=>by exact QT.imm h1 rfl)) ?_
 refine zK (zX Qw hQ) ?_
 refine zK (Qe rfl Qr (fun hg=>by exact zAa (k:=q) hQ (Q4 (d:=0) rfl (by omega)) rfl)) ?_
 refine zK (QG rfl rfl rfl) ?_
 refine QP rfl rfl rfl rfl rfl ?_
 refine zA (zN (Qt ?_))
 exact zr rfl rfl (by rfl)
theorem zyd {I:Qu}{b1:Nat}{q:Nat}{f:Int}(h1:I b1=some (.cells #[.int .i64 (q:Nat),.int .i64 f] 104 (0,0)))(e:Em):Zy Tryz.prog 122 [.agg (YB e).toArray,.pointer (some ⟨b1,0,none⟩)] I (.bool (ztx (q:Int) e)):=by
 intro g H w hw
 refine qe Tryz.func122 Tryz.ntmps122 hw ?_
 refine zR ?_
 refine Q2 rfl rfl rfl (fun b_2=>?_)
 refine zA ?_
 refine zN (zR ?_)
 refine zF VR ?_
 refine zL Qr ?_
 refine zV (Zq rfl rfl V3 (fun hg=>by decide)) ?_
 refine zV (Qe rfl Qr (fun hg=>by exact QT.imm h1 rfl)) ?_
 refine zC ?_
 refine zM ?_
 refine QH 5 rfl rfl rfl ?_
 refine zK (Qd rfl XY) ?_
 refine zK (Qe rfl Qr (fun hg=>by exact QT.h0 rfl)) ?_
 refine zK (QG rfl rfl rfl) ?_
 refine QP rfl rfl rfl rfl rfl ?_
 refine zA (zN (Qt ?_))
 exact zr rfl rfl (by rfl)
theorem zwC {I:Qu}{t:Tx}{rows:List (List Int)}{es:List Em}{rd:List Int}{ps l:List Pt}{sg:List Sg}(hT:zhD I t rows es rd ps l sg)(q:Nat)(f:Int)(hqd:q<rd.length)(hqr:∀ r∈rows,q<r.length):Yf Tryz.prog 72 [.agg (Kw t).toArray,.agg #[.int .i64 (q:Nat),.int .i64 f]] I [] (FrQ (or3 rows rd (q:Int) f)):=by
 intro g H w hw
 refine qe Tryz.func72 Tryz.ntmps72 hw ?_
 have hIc:=zAh I
 refine zR ?_
 refine Q2 rfl rfl rfl (fun b_2=>?_)
 refine Q2 rfl rfl rfl (fun b_3=>?_)
 refine Qs W6 rfl rfl (fun b_4=>?_)
 refine zA (zN (Ql (zR ?_)))
 refine Qq (ps:=[(0,_),(1,_),(2,_)]) (m:=[QQ (2:Int),QQ (3:Int),QQ (9:Int)]) Zh rfl (.cons rfl (.cons rfl (.cons rfl (.nil)))) rfl (by simp [Qv]) (by decide) (by decide) rfl rfl (fun b_7=>?_)
 refine zV (Zq rfl rfl V3 (fun hg=>by decide)) ?_
 refine zL Qr ?_
 refine Wg (cap:=[]) (vs:=[_,_]) rfl rfl zdA QD (zlv.ofV fun I' hI' hL'=>Kf (Sl.lit (t:=3) [2,3,9] rfl Qv (hL' b_7 _ (.head _))) (by decide) _) rfl rfl ?_
 refine zO (zN ?_)
 refine zI ?_ ?_<;>intro hc11
 ·
  have hf:isT f=false:=by rw [←zjz];exact zrU hc11
  refine zR ?_
  refine zV (Qo rfl Y6 (fun hg=>by exact Cells.g1) rfl) ?_
  refine zh VY ?_
  refine zA (zN (Qt (Qc ?_)))
  first
  | exact Zu rfl rfl rfl Y6 (vs:=[.int .i64 0,.int .i64 0,.slice none 0 0,.slice none 0 0]) (by repeat (first | exact zAf | apply zAe | apply zAg)) rfl (fun w hw=>⟨_,I,[],rfl,hIc,hw.drop,rfl,[.int .i64 0,.int .i64 0,.slice none 0 0,.slice none 0 0],by rw [zgo hf],none,0,0,none,0,0,by rw [zgo hf];rfl,by rw [zgo hf];exact .nil,by rw [zgo hf];exact .nil⟩)
 have hf:isT f=true:=by rw [←zjz];exact ziL hc11
 refine Qn (Qa (Ql ?_))
 refine Zg (b:=b_2) (by repeat (first | exact Q8.here | apply Q8.there)) (fun I1 hI1 hb1=>?_)
 have hT:=hT.mono hI1;have hIc:=hIc.trans hI1
 have h2:=hb1
 refine Zg (b:=b_3) (by repeat (first | exact Q8.here | apply Q8.there)) (fun I2 hI2 hb2=>?_)
 have hT:=hT.mono hI2;have hIc:=hIc.trans hI2
 have h2:=hI2 _ _ h2
 have h3:=hb2
 refine Qg ?_
 refine zF zci ?_
 refine zV (Qe rfl KH (fun hg=>by exact .imm h2 rfl)) ?_
 refine zV (Zd (us:=[]) (vs:=[_,_]) rfl rfl) ?_
 refine qc (vs:=[_,_]) rfl zcl (zun (cap:=[.pointer (some ⟨b_3,0,none⟩),.pointer (some ⟨b_2,0,none⟩)]) hT.V hT.b2 zr2 (fun h r hr hQ=>zyD h3 h2 hQ hT.R (hqr r hr) hqd)) ?_
 refine zA (zN ?_)
 refine zY [(4,_)] (fun T L0 E I' loc'=>∃ (i:Int),E=(6,.int .i64 i)::T∧I2=I'∧L0=loc'∧i=zkF rows q (rd.getD q 0)) ?_ ?_
 ·
  refine zR (zM ?_)
  refine zC (zN ?_)
  refine zI ?_ ?_<;>intro hc18
  ·
   refine Qg ?_
   refine zF zci ?_
   refine zV (Qe rfl KH (fun hg=>by exact .imm h2 rfl)) ?_
   refine zV (Zd (us:=[]) (vs:=[_]) rfl rfl) ?_
   refine qc (vs:=[_,_]) rfl zcl (zun (cap:=[.pointer (some ⟨b_3,0,none⟩)]) hT.V hT.b2 zrV (fun h r hr hQ=>zyj h3 hQ (hqr r hr))) ?_
   refine zA (Qb ?_)
   exact zm (h:=⟨_,rfl,rfl,rfl,zyq hc18⟩)
  refine Qn ?_
  exact zm (h:=⟨_,rfl,rfl,rfl,zyC hc18⟩)
 rintro E I' loc' ⟨i,rfl,rfl,rfl,hi⟩
 refine zR (zM ?_)
 refine Qq (ps:=[(0,_)]) (m:=[QQ i]) Zh rfl (.cons rfl (.nil)) rfl (by simp [Qv]) (by decide) (by decide) rfl rfl (fun b_24=>?_)
 refine zV (QS (ps:=[(0,_),(2,_)]) [_,_,_,_] zaS rfl rfl) ?_
 refine zh VY ?_
 refine zA (zN (Qt ?_))
 first
 | exact Zu rfl rfl rfl Y6 (vs:=[.int .i64 1,.int .i64 0,.slice (some ⟨b_24,0,none⟩) 1 1,.slice none 0 0]) (by repeat (first | exact zAf | apply zAe | apply zAg)) rfl (fun w hw=>by obtain ⟨I9,h91,h92,h93⟩:=hw.freezeAll;exact ⟨_,I9,[],rfl,hIc.trans h91,h92,rfl,[.int .i64 1,.int .i64 0,.slice (some ⟨b_24,0,none⟩) 1 1,.slice none 0 0],by rw [zbr hf],_,_,_,none,0,0,by rw [zbr hf],by rw [zbr hf];exact Sl.lit (t:=3) [_] rfl Qv (by rw [←hi];exact h93 b_24 _ (by simp [QQ])),by rw [zbr hf];exact .nil⟩)
theorem zuS {I:Qu}{t:Tx}{rows:List (List Int)}{es:List Em}{rd:List Int}{ps l:List Pt}{sg:List Sg}(hT:zhD I t rows es rd ps l sg)(q:Nat)(f:Int):Yf Tryz.prog 73 [.agg (Kw t).toArray,.agg #[.int .i64 (q:Nat),.int .i64 f]] I [] (FrQ (or4 es (q:Int))):=by
 intro g H w hw
 refine qe Tryz.func73 Tryz.ntmps73 hw ?_
 have hIc:=zAh I
 refine zR ?_
 refine Q2 rfl rfl rfl (fun b_2=>?_)
 refine Q2 rfl rfl rfl (fun b_3=>?_)
 refine Qs W6 rfl rfl (fun b_4=>?_)
 refine zA (zN (Ql ?_))
 refine Zg (b:=b_2) (by repeat (first | exact Q8.here | apply Q8.there)) (fun I1 hI1 hb1=>?_)
 have hT:=hT.mono hI1;have hIc:=hIc.trans hI1
 have h2:=hb1
 refine Zg (b:=b_3) (by repeat (first | exact Q8.here | apply Q8.there)) (fun I2 hI2 hb2=>?_)
 have hT:=hT.mono hI2;have hIc:=hIc.trans hI2
 have h2:=hI2 _ _ h2
 have h3:=hb2
 refine Qg ?_
 refine zF zbP ?_
 refine zF XJ ?_
 refine zV (Qe rfl zgM (fun hg=>by exact .imm h2 rfl)) ?_
 refine zV (Zd (us:=[]) (vs:=[_]) rfl rfl) ?_
 refine qc (vs:=[_,_]) rfl zqA (zx5 (cap:=[.pointer (some ⟨b_3,0,none⟩)]) hT.E hT.b3 zqO (fun e he=>zyd h3 e)) ?_
 refine zA ?_
 refine zN (zR ?_)
 refine zV (QS (ps:=[(0,_),(1,_)]) [_,_,_,_] zaS rfl rfl) ?_
 refine zM ?_
 refine zh VY ?_
 refine zA (zN (Qt ?_))
 exact Zu rfl rfl rfl Y6 (vs:=[.int .i64 2,.int .i64 2,.slice none 0 0,.slice none 0 0]) (by repeat (first | exact zAf | apply zAe | apply zAg)) rfl (fun w hw=>⟨_,I2,[],rfl,hIc,hw.drop,rfl,[.int .i64 2,.int .i64 2,.slice none 0 0,.slice none 0 0],rfl,none,0,0,none,0,0,rfl,.nil,.nil⟩)
theorem zpN {I:Qu}{t:Tx}{rows:List (List Int)}{es:List Em}{rd:List Int}{ps l:List Pt}{sg:List Sg}(hT:zhD I t rows es rd ps l sg)(q:Nat)(f:Int)(hqd:q<rd.length)(hqr:∀ r∈rows,q<r.length):Yf Tryz.prog 74 [.agg (Kw t).toArray,.agg #[.int .i64 (q:Nat),.int .i64 f]] I [] (FrQ (or5 rows rd (q:Int))):=by
 intro g H w hw
 refine qe Tryz.func74 Tryz.ntmps74 hw ?_
 have hIc:=zAh I
 have hRl:=hT.R.len
 refine zR ?_
 refine Q2 rfl rfl rfl (fun b_2=>?_)
 refine Q2 rfl rfl rfl (fun b_3=>?_)
 refine Qs W6 rfl rfl (fun b_4=>?_)
 refine zA (zN (Ql ?_))
 have hD:=zAh I
 refine Jl ?_
 refine Z0 I [(b_3,.cells #[.int .i64 (q:Nat),.int .i64 f] 104 (0,0)),(b_2,.cells (Kw t).toArray 98 (0,0))] mixed ?_
 refine zT 0 rfl (Qd rfl zci) hD ?_
 refine zT 1 rfl (Qe rfl KH (fun hg=>by exact QT.h1 rfl)) hD ?_
 refine zT 2 rfl (Zq rfl rfl V3 (fun hg=>by decide)) hD ?_
 refine zT 3 rfl (Qe rfl Qr (fun hg=>by exact QT.h0 rfl)) hD ?_
 refine zT 4 rfl (Qd rfl zbP) hD ?_
 refine zT 5 rfl (Qd rfl Ji) hD ?_
 refine zT 6 rfl (Qe rfl QJ (fun hg=>by exact QT.h1 rfl)) hD ?_
 refine zT 7 rfl (Zq rfl rfl V3 (fun hg=>by decide)) hD ?_
 refine zT 8 rfl (Qe rfl Qr (fun hg=>by exact QT.h0 rfl)) hD ?_
 refine zT 9 rfl (QE rfl rfl Qw hT.R (fun hg=>by omega)) hD ?_
 refine zT 10 rfl (Qe rfl Qr (fun hg=>by exact zAa (k:=q) hT.R (Q4 (d:=0) rfl (by omega)) rfl)) hD ?_
 refine qd 11 rfl ?_
 refine Qz (cap:=[]) (vs:=[_,_,_]) rfl rfl zrN .nil (zzw hT.V hT.b2 q hqr _) rfl rfl ?_
 rintro vv1 I1 L1 hI1 ⟨rfl,a9,c9,rfl,hH⟩
 have hIc:=hIc.trans hI1;have hD:=hD.trans hI1
 refine Qb ?_
 refine zD hD ?_
 refine zT 12 rfl (QS (ps:=[(0,_),(2,_)]) [_,_,_,_] zaS rfl rfl) hD ?_
 refine qd 13 rfl ?_
 refine zh VY ?_
 refine Qb ?_
 refine zD hD ?_
 refine zT 14 rfl (ZF rfl) hD ?_
 refine QF (by kernel_rfl) ?_
 refine QO ?_
 refine Qa (Qt ?_)
 exact Zu rfl rfl rfl Y6 (vs:=[.int .i64 1,.int .i64 0,.slice a9 _ c9,.slice none 0 0]) (by repeat (first | exact zAf | apply zAe | apply zAg)) rfl (fun w hw=>⟨_,I1,[],rfl,hIc,hw.drop,rfl,[.int .i64 1,.int .i64 0,.slice a9 _ c9,.slice none 0 0],rfl,_,_,_,none,0,0,rfl,hH,.nil⟩)
theorem zve {I:Qu}{t:Tx}{rows:List (List Int)}{es:List Em}{rd:List Int}{ps l:List Pt}{sg:List Sg}(hT:zhD I t rows es rd ps l sg)(s f:Int)(hrg:(or2 l s).2=false→∃ q:Nat,s=q∧q<rd.length∧∀ r∈rows,q<r.length){k:Nat}(hk:k<5)(hall:∀ j,j<k→(orK (onF ps) rows es rd l s f j).2=false):Yf Tryz.prog (70+k) [.agg (Kw t).toArray,.agg #[.int .i64 s,.int .i64 f]] I [] (FrQ (orK (onF ps) rows es rd l s f k)):=by
 match k,hk with
 | 0,_=>exact zvn hT s f
 | 1,_=>exact zy6 hT s f
 | 2,_=>obtain ⟨q,rfl,h1,h2⟩:=hrg (hall 1 (by decide));exact zwC hT q f h1 h2
 | 3,_=>obtain ⟨q,rfl,h1,h2⟩:=hrg (hall 1 (by decide));exact zuS hT q f
 | 4,_=>obtain ⟨q,rfl,h1,h2⟩:=hrg (hall 1 (by decide));exact zpN hT q f h1 h2
theorem zw5 {k:Nat}(hk:k<5):Fun Tryz.prog (70+k):=by
 match k,hk with
 | 0,_=>exact zuP
 | 1,_=>exact zur
 | 2,_=>exact zuu
 | 3,_=>exact zwa
 | 4,_=>exact ztM
theorem zxb {I:Qu}{t:Tx}{rows:List (List Int)}{es:List Em}{rd:List Int}{ps l:List Pt}{sg:List Sg}(hT:zhD I t rows es rd ps l sg)(s f:Int)(hrg:(or2 l s).2=false→∃ q:Nat,s=q∧q<rd.length∧∀ r∈rows,q<r.length):Yf Tryz.prog 39 [.agg (Kw t).toArray,.agg #[.int .i64 s,.int .i64 f]] I [] (OgQ (zaK (onF ps) rows es rd l s f)):=by
 intro g H w hw
 refine qe Tryz.func39 Tryz.ntmps39 hw ?_
 have hIc:=zAh I
 refine zR ?_
 refine Q2 rfl rfl rfl (fun b_2=>?_)
 refine Q2 rfl rfl rfl (fun b_3=>?_)
 refine Qs W6 rfl rfl (fun b_4=>?_)
 refine zN (Ql (zR ?_))
 refine zV (Qo rfl JK (fun hg=>by exact Cells.g2) rfl) ?_
 refine zV (Zd (us:=[_]) (vs:=[]) rfl rfl) ?_
 refine zV (Qo rfl JK (fun hg=>by exact Cells.g2) rfl) ?_
 refine zV (Zd (us:=[_]) (vs:=[]) rfl rfl) ?_
 refine zV (Qo rfl JK (fun hg=>by exact Cells.g2) rfl) ?_
 refine zV (Zd (us:=[_]) (vs:=[]) rfl rfl) ?_
 refine zV (Qo rfl JK (fun hg=>by exact Cells.g2) rfl) ?_
 refine zV (Zd (us:=[_]) (vs:=[]) rfl rfl) ?_
 refine zV (Qo rfl JK (fun hg=>by exact Cells.g2) rfl) ?_
 refine zV (Zd (us:=[_]) (vs:=[]) rfl rfl) ?_
 refine Qq (ps:=[(0,_),(1,_),(2,_),(3,_),(4,_)]) (m:=[zeT 70 t 0,zeT 70 t 1,zeT 70 t 2,zeT 70 t 3,zeT 70 t 4]) zrW rfl (.cons rfl (.cons rfl (.cons rfl (.cons rfl (.cons rfl (.nil)))))) rfl (by simp [zeT]) (by decide) (by decide) rfl rfl (fun b_19=>?_)
 refine zQ zh0 ?_
 refine zM (Qb ?_)
 refine Zg (b:=b_19) (by repeat (first | exact Q8.here | apply Q8.there)) (fun I1 hI1 hb1=>?_)
 have hT:=hT.mono hI1;have hIc:=hIc.trans hI1
 have h9:=hb1
 have hFn:=Sl.lit (enc:=zeT 70 t) (size:=1) (t:=145) [0,1,2,3,4] rfl (fun _=>rfl) h9
 refine Qa (Qm ?_)
 refine zU [(3,_),(4,_),(19,_),(20,_)] (fun T L0 mz E I' loc'=>∃ (k:Nat),mz=5-k∧E=(21,.int .i64 k)::T∧HLe I1 I'∧L0=loc'∧k≤5∧∀ j,j<k→(orK (onF ps) rows es rd l s f j).2=false) ?_ (h:=⟨0,rfl,rfl,zAh _,rfl,Nat.zero_le _,fun j h=>absurd h (by omega)⟩)
 rintro mz E J2 loc' ⟨k,rfl,rfl,hJ,rfl,hk,hall⟩
 have hT:=hT.mono hJ;have hFn:=hFn.mono hJ;have hIc:=hIc.trans hJ
 have hB0:=hJ
 refine zR (zC (zN (Ql ?_)))
 refine zI ?_ ?_<;>intro hc22
 ·
  have hlt_k:k<5:=by have h:=hc22;simp at h;omega
  have hj:([0,1,2,3,4]:List Nat)[k]? =some k:=zzX hlt_k
  refine Qn (Qa (Ql (Qm (zR ?_))))
  refine zV (zX zh0 hFn (hb:=fun hg=>by simp only [List.length_cons,List.length_nil];omega)) ?_
  refine zV (Qe rfl zpW (fun hg=>by exact zAa hFn hj rfl)) ?_
  refine zA ?_
  refine zN (zR ?_)
  refine zM ?_
  refine zV (Qo rfl zeL (fun hg=>by exact Cells.g1) rfl) ?_
  refine ziO (pre:=[_]) (cap:=[]) (vs:=[_]) rfl rfl (zw5 hlt_k) .nil (zve hT s f hrg hlt_k hall) rfl rfl ?_
  rintro vv3 I3 L3 hI3 ⟨rfl,_,rfl,a1,n1,c1,a2,n2,c2,rfl,hw1,hw2⟩
  have hIc:=hIc.trans hI3;have hB0:=hB0.trans hI3
  refine zM ?_
  refine zE ?_
  refine zE ?_
  refine Qs W6 rfl rfl (fun b_7=>?_)
  refine zh VY ?_
  refine zA ?_
  refine zN (zR ?_)
  refine zM (zN ?_)
  refine zI ?_ ?_<;>intro hc31
  ·
   refine zR ?_
   refine zV (Qo rfl Y6 (fun hg=>by exact Cells.g0) rfl) ?_
   refine zh VY ?_
   refine zN (Qt (Qp (Qc (Qc (Qp (Qc ?_))))))
   exact Ys rfl rfl Y6 (vs:=[.int .i64 _,.int .i64 _,.slice a1 n1 c1,.slice a2 n2 c2]) (by repeat (first | exact zAf | apply zAe | apply zAg)) rfl (fun w hw=>⟨_,I3,[],rfl,hIc,hw.drop,rfl,_,_,_,_,_,_,by rw [←zkI hlt_k hall hc31],by rw [←zkI hlt_k hall hc31];exact hw1,by rw [←zkI hlt_k hall hc31];exact hw2⟩)
  refine Qn (Qf (Qa (Qg (zB ?_))))
  refine zM (Qb ?_)
  exact zm (h:=⟨5-(k+1),by omega,k+1,rfl,rfl,hB0,rfl,by omega,fun j hj=>by rcases Nat.lt_succ_iff_lt_or_eq.1 hj with h | h;exact hall j h;rw [h];exact hc31⟩)
 exact absurd (hall 4 (by have h:=hc22;simp at h;omega)) (by simp [orK,or5])
end
section
open Go Go.Kn Go.Proofs
def zd7 (e1:Int)(ps:List Pt)(bs:List Sg)(vs:List Int):Int:=if e1≠0 then e1 else zdL ps bs vs
theorem zoj {e1:Int}{ps:List Pt}{bs:List Sg}{vs:List Int}(h:e1≠0):zd7 e1 ps bs vs=e1:=if_pos h
theorem zfq {e1:Int}{ps:List Pt}{bs:List Sg}{vs:List Int}(h:e1=0):zd7 e1 ps bs vs=zdL ps bs vs:=if_neg (by omega)
theorem UA {ps:List Pt}{bs:List Sg}{vs:List Int}(h:zdL ps bs vs=0):Sto ps∧ps.length≤512∧(∀ p∈ps,p.needs.length≤32)∧We bs=0∧vs.length≤512∧Ver ps vs∧zhd bs (Z9 ps vs)=true∧zge ps bs vs=X5 (onF ps) bs (Z9 ps vs)∧(X5 (onF ps) bs (Z9 ps vs)).length≤4096:=by
 have hs:=h
 unfold zdL at h
 split at h
 ·
  exact absurd h (by assumption)
 ·
  split at h
  ·
   cases h
  ·
   rename_i hp hl
   have hp:zaL ps bs vs=0:=by simpa using hp
   unfold zaL at hp
   split at hp
   ·
    exact absurd hp (by assumption)
   ·
    rename_i hc
    have hc:Uf ps=0:=by simpa using hc
    split at hp
    ·
     exact absurd hp (by assumption)
    ·
     rename_i hg
     split at hp
     ·
      cases hp
     ·
      rename_i hv
      split at hp
      ·
       rename_i hb
       rw [Bool.and_eq_true] at hb
       have hk:=UP hc
       refine ⟨zbz hc,hk.1,fun p hm=>?_,by simpa using hg,by omega,(zgt (zb5 hc)).1 hb.1,hb.2,?_,by omega⟩
       ·
        have h0:Ko p=0:=Kv.1 hk.2.1 _ (List.mem_map.2 ⟨p,hm,rfl⟩)
        unfold Ko at h0
        split at h0
        ·
         cases h0
        ·
         omega
       ·
        unfold zge zm0;rw [if_neg (by rw [hs];simp)]
      ·
       cases hp
def OpQ (e:Int)(rows:List (List Int))(es:List Em)(rd:List Int)(ps l:List Pt)(s:List Sg)(v:Value)(I:Qu)(L:Go.Kn.Loc):Prop:=
 L=[]∧∃ vs,v= .tuple #[.agg vs.toArray,.int .i64 e]∧vs.length=8∧Yz vs=true∧(e=0→∃ t,vs=Kw t∧zhD I t rows es rd ps l s)
theorem zfu {α β:Type}[DecidableEq α]{m:List (α×β)}{a:α}{b:β}:ZE (YA m a b) a=some b:=by rw [YE,if_pos rfl]
theorem znN {α β:Type}[DecidableEq α]{m:List (α×β)}{a a':α}{b:β}(h:a≠a'):ZE (YA m a b) a'=ZE m a':=by rw [YE,if_neg h]
theorem zfv {ws:List Wr}{rows:List (List Int)}{rd:List Int}:∀ {k:Nat} {l:List Sg},W0 ws rows rd k=some l→l.length≤k
 | 0,l,h=>by cases h;exact Nat.le_refl _
 | k+1,l,h=>by
  unfold W0 at h
  cases h1:W0 ws rows rd k with
  | none=>rw [h1] at h;cases h
  | some l1=>
   rw [h1] at h
   have h2:=zfv h1
   dsimp only at h
   split at h
   ·
    cases h
   ·
    cases h;omega
   ·
    cases h;rw [List.length_append,List.length_singleton];omega
theorem zb3 {ws:List Wr}{rows:List (List Int)}{no:Int}{cl:List Int}{es:List Em}{rd:List Int}:(Vk ws rows no cl es rd).length≤rd.length:=by
 by_cases h:Km ws rows no cl es rd=0
 ·
  unfold Vk
  rw [if_neg (by omega)]
  cases h1:W0 ws rows rd rd.length with
  | none=>exact Nat.zero_le _
  | some l=>exact zfv h1
 ·
  rw [zkZ h];exact Nat.zero_le _
theorem zjq {vs:List Int}{a:Int}:vs.any (fun y=>a==y)=vs.any (· ==a):=by congr 1;funext y;rw [Bool.eq_iff_iff,beq_iff_eq,beq_iff_eq];exact eq_comm
theorem zrs {ps:List Pt}(hL:Lst ps){k:Nat}{p:Pt}(hp:ps[k]? =some p){n:Int}(hn:n∈p.needs):p.id≠n:=by
 have h1:=hL.on_lt (hL.on_need (List.mem_of_getElem? hp) hn)
 omega
end
end Go.Proofs.YtodakphagkommaaGreatDoor.R
