/- partiesOrder_holds, part G of the proof: what its theorems say holds without further conditions. -/
import Derived.Lib.Bytealg
import Derived.ProofKit
import Derived.Deep.Slices
import Derived.Test.YtjblkbkmblkgoaaGreatPOF
namespace Go.Proofs.YtjblkbkmblkgoaaGreat
section
open Go Go.Kn Go.Proofs
theorem zly:Fun Tryz.prog 169:=.of Tryz.func169 (by kernel_rfl) (by kernel_rfl)
theorem zq2:Fun Tryz.prog 221:=.of Tryz.func221 (by kernel_rfl) (by kernel_rfl)
def zt3 (x:Va):Prop:=∀ {I:Qv} {cv:Vc} (_hx:VaR I x cv) (_hok:Va.ok x) (_hb:(Va.enc x).length≤900000),Vl Tryz.prog 169 [.agg (Zp cv).toArray] I [] (YQ (Va.enc x))
theorem zdL (I:Qv){n:Int}(hn: -9223372036854775808≤n∧n≤9223372036854775807):Vl Tryz.prog 169 [.agg #[.int .i64 1,.int .i64 n,.string ⟨#[]⟩,.slice none 0 0]] I [] (YQ (Va.enc (.int n))):=by
 intro g H w hw
 refine qe Tryz.func169 Tryz.ntmps169 hw ?_
 have hIc:=zwQ I
 have h10:=KB (zls hn)
 refine zR ?_
 refine Zd rfl rfl rfl (fun b_1=>?_)
 refine zA (Qb ?_)
 refine QN .here (fun I1 hI1 hb1=>?_)
 have hIc:=hIc.trans hI1
 have h1:=BxI.of hb1
 refine Qc (Qr (zR ?_))
 refine zF Zt ?_
 refine zV (Qd rfl Qy (fun hg=>by exact QG.imm h1.out rfl)) ?_
 refine zN (QE (zR (zC ?_)))
 refine zA (zN ?_)
 refine zI ?_ ?_<;>intro hc7
 ·
  refine zR ?_
  refine Ql (ps:=[(0,_)]) (m:=[VN 1]) Y8 rfl (.cons rfl (.nil)) rfl (by simp [ZW]) (by decide) (by decide) rfl rfl (fun b_9=>?_)
  refine zF YY ?_
  refine zV (Qd rfl Qy (fun hg=>by exact QG.imm h1.out rfl)) ?_
  refine qcV (vs:=[_]) rfl zq2 (zsN _ hn) ?_
  refine QC (cap:=[]) (vs:=[_]) rfl rfl zaD .nil (zgp (zz n) (zls hn) _) rfl rfl ?_
  rintro vv2 I2 L2 hI2 ⟨rfl,a9,c9,rfl,hS9⟩
  have hIc:=hIc.trans hI2
  refine QW (v:=_) (ys:=(Jr (zz n):List Nat).flatMap VN) (L:=[(b_9,_)]) rfl rfl Y8 (zi6 1) (by repeat (first | exact .cons .here .nil | exact Qu | exact Qq | apply Qo | apply Qn)) (hS9.src ZW) (za8 _) (by omega) rfl rfl ?_
  intro v9 L9 hO9 _;rw [←List.flatMap_append] at hO9
  refine zA (Qb ?_)
  refine Zv hO9 ZW (by decide) (by repeat (first | exact .cons .here .nil | exact Qu | exact Qq | apply Qo | apply Qn)) (fun I3 hI3 af3 cf3 ef3 hZ=>?_)
  subst ef3
  have hIc:=hIc.trans hI3
  refine Qc (QF (Qz (Qi ?_)))
  exact QR rfl rfl (fun w hw=>⟨_,I3,[],rfl,hIc,by exact hw,zbB hZ (by simp [Va.enc])⟩)
 simp at hc7
theorem zbQ (I:Qv)(s:ByteArray)(hs:s.size≤900000):Vl Tryz.prog 169 [.agg #[.int .i64 2,.int .i64 0,.string s,.slice none 0 0]] I [] (YQ (Va.enc (.text (Kz s)))):=by
 intro g H w hw
 refine qe Tryz.func169 Tryz.ntmps169 hw ?_
 have hIc:=zwQ I
 have h10:=KB (u:=s.size) (by omega)
 refine zR ?_
 refine Zd rfl rfl rfl (fun b_1=>?_)
 refine zA (Qb ?_)
 refine QN .here (fun I1 hI1 hb1=>?_)
 have hIc:=hIc.trans hI1
 have h1:=BxI.of hb1
 refine Qc (Qr (zR ?_))
 refine zF Zt ?_
 refine zV (Qd rfl Qy (fun hg=>by exact QG.imm h1.out rfl)) ?_
 refine zN (QE (zR (zC ?_)))
 refine zA (zN ?_)
 refine zI ?_ ?_<;>intro hc7
 ·
  simp at hc7
 refine zR (zC ?_)
 refine zA (zN ?_)
 refine zI ?_ ?_<;>intro hc15
 ·
  refine Qr ?_
  have hD:=zwQ I1
  refine ZK ?_
  refine QZ I1 [] mixed ?_
  refine zT 1 rfl (Qa rfl YE) hD ?_
  refine zT 2 rfl (Qd rfl JJ (fun hg=>by exact QG.imm h1.out rfl)) hD ?_
  refine zT 3 rfl (Wo rfl ztD) hD ?_
  refine zT 4 rfl (Jv (Z3 rfl VV) (congrArg (Value.int .u64) (Yo (n:=(s.size:Int)) ⟨by omega,by omega⟩))) hD ?_
  refine zT 7 rfl (Qa rfl YE) hD ?_
  refine zT 8 rfl (Qd rfl JJ (fun hg=>by exact QG.imm h1.out rfl)) hD ?_
  refine Q8 0 5 rfl rfl (by kernel_rfl) ?_ ?_
  ·
   refine Ql (ps:=[(0,_)]) (m:=[VN 2]) Y8 rfl (.cons rfl (.nil)) rfl (by simp [ZW]) (by decide) (by decide) rfl rfl (fun b_17=>?_)
   refine Qb ?_
   refine zD hD ?_
   refine qd 5 rfl ?_
   refine QC (cap:=[]) (vs:=[_]) rfl rfl zaD .nil (zgp s.size (by omega) _) rfl rfl ?_
   rintro vv2 I2 L2 hI2 ⟨rfl,a9,c9,rfl,hS9⟩
   have hIc:=hIc.trans hI2;have hD:=hD.trans hI2
   refine Qb ?_
   refine zD hD ?_
   refine qd 6 rfl ?_
   refine QW (v:=_) (ys:=(Jr s.size:List Nat).flatMap VN) (L:=[(b_17,_)]) rfl rfl Y8 (zi6 2) (by repeat (first | exact .cons .here .nil | exact Qu | exact Qq | apply Qo | apply Qn)) (hS9.src ZW) (za8 _) (by omega) rfl rfl ?_
   intro v9 L9 hO9 _;rw [←List.flatMap_append] at hO9
   refine Qb ?_
   refine zD hD ?_
   refine qd 9 rfl ?_
   refine W8 rfl rfl Y8 ztD hO9 (by repeat (first | exact .cons .here .nil | exact Qu | exact Qq | apply Qo | apply Qn)) (by omega) rfl rfl ?_
   intro v11 L11 hO11
   have hO12:Ym 5 1 v11 (1+(Jr s.size).length+s.size) ((([2]++Jr s.size)++Kz s).flatMap VN) L11:=by rw [List.flatMap_append];exact hO11
   refine Qb ?_
   refine zD hD ?_
   refine zT 10 rfl (QB rfl) hD ?_
   refine Qm (by kernel_rfl) ?_
   refine QA ?_
   refine Zv hO12 ZW (by decide) (by repeat (first | exact .cons .here .nil | exact Qu | exact Qq | apply Qo | apply Qn)) (fun I3 hI3 af3 cf3 ef3 hZ=>?_)
   subst ef3
   have hIc:=hIc.trans hI3
   refine Qc (QF (Qz (Qi ?_)))
   exact QR rfl rfl (fun w hw=>⟨_,I3,[],rfl,hIc,by exact hw,zbB hZ (by rw [Va.enc,Jf];simp)⟩)
  refine QC (cap:=[]) (vs:=[_]) rfl rfl zaD .nil (zgp s.size (by omega) _) rfl rfl ?_
  rintro vv4 I4 L4 hI4 ⟨rfl,a9,c9,rfl,hS9⟩
  have hIc:=hIc.trans hI4;have hD:=hD.trans hI4
  refine Qb ?_
  refine zD hD ?_
  refine qd 0 rfl ?_
  refine Ql (ps:=[(0,_)]) (m:=[VN 2]) Y8 rfl (.cons rfl (.nil)) rfl (by simp [ZW]) (by decide) (by decide) rfl rfl (fun b_17=>?_)
  refine Qb ?_
  refine zD hD ?_
  refine qd 6 rfl ?_
  refine QW (v:=_) (ys:=(Jr s.size:List Nat).flatMap VN) (L:=[(b_17,_)]) rfl rfl Y8 (zi6 2) (by repeat (first | exact .cons .here .nil | exact Qu | exact Qq | apply Qo | apply Qn)) (hS9.src ZW) (za8 _) (by omega) rfl rfl ?_
  intro v9 L9 hO9 _;rw [←List.flatMap_append] at hO9
  refine Qb ?_
  refine zD hD ?_
  refine qd 9 rfl ?_
  refine W8 rfl rfl Y8 ztD hO9 (by repeat (first | exact .cons .here .nil | exact Qu | exact Qq | apply Qo | apply Qn)) (by omega) rfl rfl ?_
  intro v11 L11 hO11
  have hO12:Ym 5 1 v11 (1+(Jr s.size).length+s.size) ((([2]++Jr s.size)++Kz s).flatMap VN) L11:=by rw [List.flatMap_append];exact hO11
  refine Qb ?_
  refine zD hD ?_
  refine zT 10 rfl (QB rfl) hD ?_
  refine Qm (by kernel_rfl) ?_
  refine QA ?_
  refine Zv hO12 ZW (by decide) (by repeat (first | exact .cons .here .nil | exact Qu | exact Qq | apply Qo | apply Qn)) (fun I5 hI5 af5 cf5 ef5 hZ=>?_)
  subst ef5
  have hIc:=hIc.trans hI5
  refine Qc (QF (Qz (Qi ?_)))
  exact QR rfl rfl (fun w hw=>⟨_,I5,[],rfl,hIc,by exact hw,zbB hZ (by rw [Va.enc,Jf];simp)⟩)
 simp at hc15
theorem zhp {I:Qv}{l:List Va}{hs:List Vc}{a:Option Addr}{m c:Nat}(hS:Sl I 4 Zp a m c hs)(hl:l.length=hs.length)(hr:∀ (k:Nat) (x:Va) (y:Vc),l[k]? =some x→hs[k]? =some y→VaR I x y)(hm:m≤1000000)(ih:∀ (k:Nat) (x:Va),l[k]? =some x→zt3 x)(hok:Va.okL l)(hb:(Va.enc (.list l)).length≤900000):Vl Tryz.prog 169 [.agg #[.int .i64 3,.int .i64 0,.string ⟨#[]⟩,.slice a m c]] I [] (YQ (Va.enc (.list l))):=by
 intro g H w hw
 refine qe Tryz.func169 Tryz.ntmps169 hw ?_
 have hIc:=zwQ I
 have hml:=hS.len
 have hel:(Va.enc (.list l)).length=(Jr l.length).length+(Va.encL l).length+1:=by simp [Va.enc]
 have h10:=KB (u:=l.length) (by omega)
 refine zR ?_
 refine Zd rfl rfl rfl (fun b_1=>?_)
 refine zA (Qb ?_)
 refine QN .here (fun I1 hI1 hb1=>?_)
 have hS:=hS.mono hI1;have hIc:=hIc.trans hI1
 have h1:=BxI.of hb1
 refine Qc (Qr (zR ?_))
 refine zF Zt ?_
 refine zV (Qd rfl Qy (fun hg=>by exact QG.imm h1.out rfl)) ?_
 refine zN (QE (zR (zC ?_)))
 refine zA (zN ?_)
 refine zI ?_ ?_<;>intro hc7
 ·
  simp at hc7
 refine zR (zC ?_)
 refine zA (zN ?_)
 refine zI ?_ ?_<;>intro hc15
 ·
  simp at hc15
 refine Qw (Qp (Qc (zR ?_)))
 refine Ql (ps:=[(0,_)]) (m:=[VN 3]) Y8 rfl (.cons rfl (.nil)) rfl (by simp [ZW]) (by decide) (by decide) rfl rfl (fun b_27=>?_)
 refine zF Q6 ?_
 refine zV (Qd rfl ZI (fun hg=>by exact QG.imm h1.out rfl)) ?_
 refine zQ Yh ?_
 refine zV (Jv (Z3 rfl VV) (congrArg (Value.int .u64) ((Yo (n:=(m:Int)) ⟨by omega,by omega⟩).trans (show (m:Int)=(l.length:Int) by omega)))) ?_
 refine QC (cap:=[]) (vs:=[_]) rfl rfl zaD .nil (zgp l.length (by omega) _) rfl rfl ?_
 rintro vv2 I2 L2 hI2 ⟨rfl,a9,c9,rfl,hS9⟩
 have hS:=hS.mono hI2;have h1:=h1.mono hI2;have hIc:=hIc.trans hI2
 refine QW (v:=_) (ys:=(Jr l.length:List Nat).flatMap VN) (L:=[(b_27,_)]) rfl rfl Y8 (zi6 3) (by repeat (first | exact .cons .here .nil | exact Qu | exact Qq | apply Qo | apply Qn)) (hS9.src ZW) (za8 _) (by omega) rfl rfl ?_
 intro v9 L9 hO9 _;rw [←List.flatMap_append] at hO9
 refine zA (zN (Qr (zR ?_)))
 refine zA (zN (QE ?_))
 refine zU [(1,_)] (fun T L0 mz E I' loc'=>∃ (k:Nat) (v:Value) (Lw:Go.Kn.Loc),mz=m-k∧E=(3,v)::(4,.int .i64 k)::T∧HLe I2 I'∧Lw=loc'∧k≤m∧Wb 5 v (3::(Jr l.length++Va.encL (l.take k))) Lw) ?_ (h:=⟨0,_,_,rfl,rfl,zwQ _,rfl,Nat.zero_le _,by rw [List.append_nil,List.take_zero,show (3::(Jr l.length++Va.encL []):List Nat)=[3]++Jr l.length by simp [Va.encL]];exact Wb.app (xs:=[3]) (by rw [List.length_singleton];exact hO9)⟩)
 rintro mz E J3 loc' ⟨k,v,Lw,rfl,rfl,hJ,rfl,hk,hO⟩
 have hS:=hS.mono hJ;have h1:=h1.mono hJ;have hIc:=hIc.trans hJ
 have hB1:=hJ
 refine Qr (zR (zM ?_))
 refine zF Q6 ?_
 refine zV (Qd rfl ZI (fun hg=>by exact QG.imm h1.out rfl)) ?_
 refine zQ Yh ?_
 refine zC (zN ?_)
 refine zI ?_ ?_<;>intro hc38
 ·
  have hlt_k:k<m:=by have h:=hc38;simp at h;omega
  obtain ⟨cv,hy⟩:∃ y,hs[k]? =some y:=⟨_,List.getElem?_eq_getElem (by omega)⟩
  obtain ⟨x,hlx⟩:∃ y,l[k]? =some y:=⟨_,List.getElem?_eq_getElem (by omega)⟩
  have hxy:=(hr k x cv hlx hy).mono hIc
  have hokx:=zdh hok hlx
  have hle:=zcm (l:=l) (k+1)
  rw [X9 hlx,List.length_append] at hle
  have hxl:((3::(Jr l.length++Va.encL (l.take k))):List Nat).length=(Jr l.length).length+(Va.encL (l.take k)).length+1:=by simp
  refine Qw (Qc (Qr (QE (Qk (zM ?_)))))
  refine zF Q6 ?_
  refine zV (Qd rfl ZI (fun hg=>by exact QG.imm h1.out rfl)) ?_
  refine zM ?_
  refine zV (zX Yh hS) ?_
  refine zV (Qg rfl ZJ (fun hg=>by exact zwR hS hy) rfl) ?_
  refine QC (cap:=[]) (vs:=[_]) rfl rfl zly .nil (ih k x hlx hxy hokx (by omega)) rfl rfl ?_
  rintro vv4 I4 L4 hI4 ⟨rfl,a8,c8,rfl,hS8⟩
  have hB1:=hB1.trans hI4
  refine QW (v:=_) (ys:=(Va.enc x).flatMap VN) (L:=Lw) rfl rfl Y8 hO (by repeat (first | exact .cons .here .nil | exact Qu | exact Qq | apply Qo | apply Qn)) (hS8.src ZW) (za8 _) (by omega) rfl rfl ?_
  intro v9 L9 hO9 _;rw [←List.flatMap_append] at hO9
  refine zA (Qb (Qp (Qc (Qk ?_))))
  refine zM ?_
  refine zB ?_
  refine zA (Qb ?_)
  exact zm (h:=⟨m-(k+1),by omega,k+1,_,_,rfl,rfl,hB1,rfl,by omega,by rw [X9 hlx,←List.append_assoc,←List.cons_append];exact Wb.app hO9⟩)
 have hge_k:m≤k:=by have h:=hc38;simp at h;omega
 have hke:l.take k=l:=List.take_of_length_le (by omega)
 rw [hke] at hO
 refine ZC (Qt (Qt (QD (Qc (Qr ?_)))))
 refine Zv hO ZW (by decide) (by repeat (first | exact .cons .here .nil | exact Qu | exact Qq | apply Qo | apply Qn)) (fun I5 hI5 af5 cf5 ef5 hZ=>?_)
 subst ef5
 have hIc:=hIc.trans hI5
 refine Qk (zM ?_)
 refine zA (zN (QF ?_))
 exact QR rfl rfl (fun w hw=>⟨_,I5,[],rfl,hIc,by exact hw,zbB hZ (by simp [Va.enc])⟩)
theorem zij (d:Nat):∀ x,Va.depth x≤d→(∀ {I:Qv} {cv:Vc},VaR I x cv→(Va.enc x).length≤900000→True)→zt3 x:=by
 induction d with
 | zero=>
  intro x hd _ I cv hx hok hb
  cases x with
  | int n=>cases hx;exact zdL I hok
  | text s=>cases hx;have h:=zbQ I (UC s) (by rw [K4];simp only [Va.enc,List.length_cons,List.length_append] at hb;omega);rw [VW hok.1] at h;exact h
  | list l=>simp [Va.depth] at hd
 | succ d ih=>
  intro x hd _ I cv hx hok hb
  cases x with
  | int n=>cases hx;exact zdL I hok
  | text s=>cases hx;have h:=zbQ I (UC s) (by rw [K4];simp only [Va.enc,List.length_cons,List.length_append] at hb;omega);rw [VW hok.1] at h;exact h
  | list l=>
   cases hx with
   | list hS hl hr=>
    have hle:=Va.encL_len l
    have hml:=hS.len
    exact zhp hS hl hr (by simp only [Va.enc,List.length_cons,List.length_append] at hb;dsimp only;omega) (fun k y hy=>ih y (Jj (l:=l) (by simp only [Va.depth] at hd;omega) hy) (fun _ _=>trivial)) hok.2 hb
end
section
open Go Go.Kn Go.Proofs
theorem zqJ:Fun Tryz.prog 168:=.of Tryz.func168 (by kernel_rfl) (by kernel_rfl)
theorem ziT (d:Nat):∀ x,Va.depth x≤d→ztY x:=by
 induction d with
 | zero=>
  intro x hd I cv hx hb
  cases x with
  | int n=>cases hx;exact zep _ n
  | text s=>cases hx;exact zbG _ _
  | list l=>simp [Va.depth] at hd
 | succ d ih=>
  intro x hd I cv hx hb
  cases x with
  | int n=>cases hx;exact zep _ n
  | text s=>cases hx;exact zbG _ _
  | list l=>
   cases hx with
   | list hS hl hr=>
    have hle:=Va.encL_len l
    have hml:=hS.len
    have hb2:(Va.encL l).length≤900000:=by simp only [Va.enc,List.length_cons,List.length_append] at hb;omega
    exact zhx hS hl hr (by dsimp only;omega) (fun k y hy=>ih y (Jj (l:=l) (by simp only [Va.depth] at hd;omega) hy)) hb2
theorem zkr (d:Nat):∀ x,Va.depth x≤d→ztl x:=by
 induction d with
 | zero=>
  intro x hd I cv hx h1 hb
  cases x with
  | int n=>cases hx;exact zd1 _ n
  | text s=>cases hx;exact zb0 _ _
  | list l=>simp [Va.depth] at hd
 | succ d ih=>
  intro x hd I cv hx h1 hb
  cases x with
  | int n=>cases hx;exact zd1 _ n
  | text s=>cases hx;exact zb0 _ _
  | list l=>
   cases hx with
   | list hS hl hr=>
    have hle:=Va.encL_len l
    have hml:=hS.len
    have hb2:(Va.encL l).length≤900000:=by simp only [Va.enc,List.length_cons,List.length_append] at hb;omega
    exact zhk hS hl hr (by dsimp only;omega) (fun k y hy=>ih y (Jj (l:=l) (by simp only [Va.depth] at hd;omega) hy)) (by simp only [Va.depth] at h1;omega) hb2
theorem znD {I:Qv}{x:Va}{cv:Vc}(hx:VaR I x cv)(hd:Va.depth x≤16)(hok:Va.ok x)(hb:(Va.enc x).length≤900000):Yb Tryz.prog 168 [.agg (Zp cv).toArray] I (.int .i64 0):=by
 intro g H w hw
 refine qe Tryz.func168 Tryz.ntmps168 hw ?_
 have hIc:=zwQ I
 refine zR ?_
 refine Zd rfl rfl rfl (fun b_1=>?_)
 refine zA (Qb ?_)
 refine QN .here (fun I1 hI1 hb1=>?_)
 have hx:=hx.mono hI1;have hIc:=hIc.trans hI1
 have h1:=BxI.of hb1
 refine Qc (Qr (zR ?_))
 refine zV (Qg rfl ZJ (fun hg=>by exact BxI.cells (vs:=Zp cv) h1) rfl) ?_
 refine qcV (vs:=[_]) rfl zhZ (ziT _ x (Nat.le_refl _) hx hb) ?_
 refine zO (zN ?_)
 refine zI ?_ ?_<;>intro hc5
 ·
  simp at hc5
 refine Qw (Qc (Qr (zR ?_)))
 refine zV (Qg rfl ZJ (fun hg=>by exact BxI.cells (vs:=Zp cv) h1) rfl) ?_
 refine qcV (vs:=[_]) rfl zks (zkr _ x (Nat.le_refl _) hx (by omega) hb) ?_
 refine zC (zN ?_)
 refine zI ?_ ?_<;>intro hc8
 ·
  simp at hc8;omega
 refine Qw (Qc (zR (zA (zN (QF ?_)))))
 exact QR rfl rfl (fun w hw=>⟨by rfl,(hw.mono hIc).subL Qe⟩)
theorem Wv {I:Qv}{x:Va}{cv:Vc}(hx:VaR I x cv)(hd:Va.depth x≤16)(hok:Va.ok x)(hb:(Va.enc x).length≤900000):Vl Tryz.prog 105 [.agg (Zp cv).toArray] I [] (fun v I' L'=>L'=[]∧∃ a c,v= .tuple #[.slice a (Va.enc x).length c,.int .i64 0]∧Sl I' 1 VN a (Va.enc x).length c (Va.enc x)):=by
 intro g H w hw
 refine qe Tryz.func105 Tryz.ntmps105 hw ?_
 have hIc:=zwQ I
 refine zR ?_
 refine Zd rfl rfl rfl (fun b_1=>?_)
 refine zA ?_
 refine zA (Qb ?_)
 refine QN .here (fun I1 hI1 hb1=>?_)
 have hx:=hx.mono hI1;have hIc:=hIc.trans hI1
 have h1:=BxI.of hb1
 refine Qc (zR ?_)
 refine zV (Qg rfl ZJ (fun hg=>by exact BxI.cells (vs:=Zp cv) h1) rfl) ?_
 refine qcV (vs:=[_]) rfl zqJ (znD hx hd hok hb) ?_
 refine zA (zN (Qr (zR ?_)))
 refine zM ?_
 refine zC (zN ?_)
 refine zI ?_ ?_<;>intro hc8
 ·
  simp at hc8
 refine Qw (Qc (zR ?_))
 refine zV (Qg rfl ZJ (fun hg=>by exact BxI.cells (vs:=Zp cv) h1) rfl) ?_
 refine QC (cap:=[]) (vs:=[_]) rfl rfl zly .nil (zij _ x (Nat.le_refl _) (fun _ _=>trivial) hx hok hb) rfl rfl ?_
 rintro vv2 I2 L2 hI2 ⟨rfl,a9,c9,rfl,hS9⟩
 have hIc:=hIc.trans hI2
 refine zA ?_
 refine zA (zN (QF ?_))
 exact Vq rfl rfl rfl (fun w hw=>⟨_,I2,[],rfl,hIc,hw.subL Qe,rfl,_,_,rfl,hS9⟩)
end
section
open Go Go.Kn Go.Proofs
set_option maxRecDepth 100000 in
theorem zs1 (I:Qv) (x:Nt):Vl Tryz.prog 102 [JL x] I [] (fun v I' L'=>L'=[]∧∃ a c,v= .slice a 42 c∧Sl I' 1 Yg a 42 c (VI x)):=by
 intro g H w hw
 refine qe Tryz.func102 Tryz.ntmps102 hw ?_
 have hIc:=zwQ I
 refine zR ?_
 refine Zd rfl rfl rfl (fun b_1=>?_)
 refine zA (Qb ?_)
 refine QN .here (fun I1 hI1 hb1=>?_)
 have hIc:=hIc.trans hI1
 have h1:=BxI.of hb1
 refine Qc (zR ?_)
 refine zF VM ?_
 refine zV (Qg rfl K8 (fun hg=>by exact zeO (BxI.cells (vs:=Zn x) h1)) rfl) ?_
 refine Qs zeD rfl rfl (fun b_3=>?_)
 refine zh zbf ?_
 refine Qb ?_
 refine QN .here (fun I2 hI2 hb2=>?_)
 have h1:=h1.mono hI2;have hIc:=hIc.trans hI2
 have h3:=BxI.of hb2
 refine Qc (zR ?_)
 refine zF Vw ?_
 refine zV (Qg rfl JZ (fun hg=>by exact zhs (BxI.cells (vs:=Zn x) h1)) rfl) ?_
 refine Qs zaw rfl rfl (fun b_4=>?_)
 refine zh K9 ?_
 refine Qb ?_
 refine QN .here (fun I3 hI3 hb3=>?_)
 have h1:=h1.mono hI3;have h3:=h3.mono hI3;have hIc:=hIc.trans hI3
 have h4:=BxI.of hb3
 refine Qc (zR ?_)
 refine zF Jh ?_
 refine zV (Qg rfl VR (fun hg=>by exact zmp (BxI.cells (vs:=WX x.pt) h4)) rfl) ?_
 refine Qs zmq rfl rfl (fun b_5=>?_)
 refine zh zau ?_
 refine Qb ?_
 refine QN .here (fun I4 hI4 hb4=>?_)
 have h1:=h1.mono hI4;have h3:=h3.mono hI4;have h4:=h4.mono hI4;have hIc:=hIc.trans hI4
 have h5:=BxI.of hb4
 refine Qc (zR ?_)
 refine zF Kb ?_
 refine zV (Qg rfl KP (fun hg=>by exact zhz (BxI.cells (vs:=Zn x) h1)) rfl) ?_
 refine Qs ze0 rfl rfl (fun b_6=>?_)
 refine zh zaV ?_
 refine Qb ?_
 refine QN .here (fun I5 hI5 hb5=>?_)
 have h1:=h1.mono hI5;have h3:=h3.mono hI5;have h4:=h4.mono hI5;have h5:=h5.mono hI5;have hIc:=hIc.trans hI5
 have h6:=BxI.of hb5
 refine Qc (zR ?_)
 refine zF YR ?_
 refine zV (Qg rfl VH (fun hg=>by exact ze8 (BxI.cells (vs:=Zn x) h1)) rfl) ?_
 refine Qs zax rfl rfl (fun b_7=>?_)
 refine zh Uc ?_
 refine Qb ?_
 refine QN .here (fun I6 hI6 hb6=>?_)
 have h1:=h1.mono hI6;have h3:=h3.mono hI6;have h4:=h4.mono hI6;have h5:=h5.mono hI6;have h6:=h6.mono hI6;have hIc:=hIc.trans hI6
 have h7:=BxI.of hb6
 refine Qc (zR ?_)
 refine zF Vm ?_
 refine zV (Qd rfl Qy (fun hg=>by exact QG.imm h1.out rfl)) ?_
 refine zF Jz ?_
 refine zV (Qd rfl Qy (fun hg=>by exact QG.imm h3.out rfl)) ?_
 refine zF Um ?_
 refine zV (Qd rfl Qy (fun hg=>by exact QG.imm h3.out rfl)) ?_
 refine zF Jw ?_
 refine zV (Qd rfl Qy (fun hg=>by exact QG.imm h3.out rfl)) ?_
 refine zF XW ?_
 refine zV (Qd rfl Qy (fun hg=>by exact QG.imm h3.out rfl)) ?_
 refine zF X6 ?_
 refine zV (Qd rfl Qy (fun hg=>by exact QG.imm h3.out rfl)) ?_
 refine zF Wg ?_
 refine zV (Qd rfl Qy (fun hg=>by exact QG.imm h3.out rfl)) ?_
 refine zF Uw ?_
 refine zF XV ?_
 refine zV (Qd rfl Qy (fun hg=>by exact QG.imm h3.out rfl)) ?_
 refine zF Uw ?_
 refine zF XS ?_
 refine zV (Qd rfl Qy (fun hg=>by exact QG.imm h3.out rfl)) ?_
 refine zF Uw ?_
 refine zF zcN ?_
 refine zV (Qd rfl Qy (fun hg=>by exact QG.imm h3.out rfl)) ?_
 refine Ql (ps:=[(0,_),(1,_),(2,_),(3,_),(4,_),(5,_),(6,_),(7,_),(8,_),(9,_)]) (m:=[Yg x.kind,Yg x.lm.no,Yg x.lm.person,Yg x.lm.ends,Yg x.lm.lo,Yg x.lm.hi,Yg x.lm.known,Yg x.lm.ck,Yg x.lm.cl,Yg x.lm.cn]) Y9 rfl (.cons rfl (.cons rfl (.cons rfl (.cons rfl (.cons rfl (.cons rfl (.cons rfl (.cons rfl (.cons rfl (.cons rfl (.nil))))))))))) rfl (by simp [Q5,Zw]) (by decide) (by decide) rfl rfl (fun b_42=>?_)
 refine zA ?_
 refine zN (zR ?_)
 refine zM ?_
 refine zF YG ?_
 refine zV (Qd rfl Qy (fun hg=>by exact QG.imm h4.out rfl)) ?_
 refine zF KE ?_
 refine zV (Qd rfl Qy (fun hg=>by exact QG.imm h4.out rfl)) ?_
 refine zF Vj ?_
 refine zV (Qd rfl Qy (fun hg=>by exact QG.imm h4.out rfl)) ?_
 refine zF V4 ?_
 refine zV (Qd rfl Qy (fun hg=>by exact QG.imm h4.out rfl)) ?_
 refine zF Uq ?_
 refine zV (Qd rfl Qy (fun hg=>by exact QG.imm h5.out rfl)) ?_
 refine zF XK ?_
 refine zV (Qd rfl Qy (fun hg=>by exact QG.imm h5.out rfl)) ?_
 refine zF X1 ?_
 refine zV (Qd rfl Qy (fun hg=>by exact QG.imm h5.out rfl)) ?_
 refine zF XJ ?_
 refine zV (Qd rfl Qy (fun hg=>by exact QG.imm h5.out rfl)) ?_
 refine zF zcu ?_
 refine zV (Qd rfl Qy (fun hg=>by exact QG.imm h5.out rfl)) ?_
 refine zF X8 ?_
 refine zV (Qd rfl Qy (fun hg=>by exact QG.imm h5.out rfl)) ?_
 refine zF XN ?_
 refine zV (Qd rfl Qy (fun hg=>by exact QG.imm h5.out rfl)) ?_
 refine zF XL ?_
 refine zV (Qd rfl Qy (fun hg=>by exact QG.imm h5.out rfl)) ?_
 refine zF X4 ?_
 refine zV (Qd rfl Qy (fun hg=>by exact QG.imm h5.out rfl)) ?_
 refine zF XU ?_
 refine zV (Qd rfl Qy (fun hg=>by exact QG.imm h5.out rfl)) ?_
 refine zF Kq ?_
 refine zF Jd ?_
 refine zV (Qd rfl Qy (fun hg=>by exact QG.imm h5.out rfl)) ?_
 refine zF Kq ?_
 refine zF JE ?_
 refine zV (Qd rfl Qy (fun hg=>by exact QG.imm h5.out rfl)) ?_
 refine zF Ku ?_
 refine zF Jd ?_
 refine zV (Qd rfl Qy (fun hg=>by exact QG.imm h5.out rfl)) ?_
 refine zF Ku ?_
 refine zF JE ?_
 refine zV (Qd rfl Qy (fun hg=>by exact QG.imm h5.out rfl)) ?_
 refine Ql (ps:=[(0,_),(1,_),(2,_),(3,_),(4,_),(5,_),(6,_),(7,_),(8,_),(9,_),(10,_),(11,_),(12,_),(13,_),(14,_),(15,_),(16,_),(17,_)]) (m:=[Yg x.pt.id,Yg x.pt.kind,Yg x.pt.sign,Yg x.pt.field,Yg x.pt.nw.id,Yg x.pt.nw.role,Yg x.pt.nw.bar,Yg x.pt.nw.mark,Yg x.pt.nw.kind,Yg x.pt.nw.side,Yg x.pt.nw.dir,Yg x.pt.nw.level,Yg x.pt.nw.size,Yg x.pt.nw.wth,Yg x.pt.nw.fn,Yg x.pt.nw.fd,Yg x.pt.nw.tn,Yg x.pt.nw.td]) Y9 rfl (.cons rfl (.cons rfl (.cons rfl (.cons rfl (.cons rfl (.cons rfl (.cons rfl (.cons rfl (.cons rfl (.cons rfl (.cons rfl (.cons rfl (.cons rfl (.cons rfl (.cons rfl (.cons rfl (.cons rfl (.cons rfl (.nil))))))))))))))))))) rfl (by simp [Q5,Zw]) (by decide) (by decide) rfl rfl (fun b_84=>?_)
 refine QW (v:=_) (ys:=([x.pt.id,x.pt.kind,x.pt.sign,x.pt.field,x.pt.nw.id,x.pt.nw.role,x.pt.nw.bar,x.pt.nw.mark,x.pt.nw.kind,x.pt.nw.side,x.pt.nw.dir,x.pt.nw.level,x.pt.nw.size,x.pt.nw.wth,x.pt.nw.fn,x.pt.nw.fd,x.pt.nw.tn,x.pt.nw.td]:List Int).flatMap Yg) (L:=[(b_42,_)]) rfl rfl Y9 (zwC [x.kind,x.lm.no,x.lm.person,x.lm.ends,x.lm.lo,x.lm.hi,x.lm.known,x.lm.ck,x.lm.cl,x.lm.cn] rfl rfl (by decide)) (by repeat (first | exact .cons .here .nil | exact Qu | exact Qq | apply Qo | apply Qn)) ⟨rfl,fun _=>rfl,by repeat (first | exact zwO | apply zwN | apply zwP)⟩ (zbk [x.pt.id,x.pt.kind,x.pt.sign,x.pt.field,x.pt.nw.id,x.pt.nw.role,x.pt.nw.bar,x.pt.nw.mark,x.pt.nw.kind,x.pt.nw.side,x.pt.nw.dir,x.pt.nw.level,x.pt.nw.size,x.pt.nw.wth,x.pt.nw.fn,x.pt.nw.fd,x.pt.nw.tn,x.pt.nw.td]) (by omega) rfl rfl ?_
 intro v2 L2 hO2 _;rw [←List.flatMap_append] at hO2
 refine zA ?_
 refine zN (zR ?_)
 refine zM ?_
 refine zF Up ?_
 refine zV (Qd rfl Qy (fun hg=>by exact QG.imm h6.out rfl)) ?_
 refine zF zcb ?_
 refine zV (Qd rfl Qy (fun hg=>by exact QG.imm h6.out rfl)) ?_
 refine zF zcJ ?_
 refine zV (Qd rfl Qy (fun hg=>by exact QG.imm h6.out rfl)) ?_
 refine zF zb8 ?_
 refine zV (Qd rfl Qy (fun hg=>by exact QG.imm h6.out rfl)) ?_
 refine zF zcv ?_
 refine zV (Qd rfl Qy (fun hg=>by exact QG.imm h6.out rfl)) ?_
 refine Ql (ps:=[(0,_),(1,_),(2,_),(3,_),(4,_)]) (m:=[Yg x.ls.no,Yg x.ls.person,Yg x.ls.version,Yg x.ls.at_,Yg x.ls.known]) Y9 rfl (.cons rfl (.cons rfl (.cons rfl (.cons rfl (.cons rfl (.nil)))))) rfl (by simp [Q5,Zw]) (by decide) (by decide) rfl rfl (fun b_97=>?_)
 refine QW (v:=_) (ys:=([x.ls.no,x.ls.person,x.ls.version,x.ls.at_,x.ls.known]:List Int).flatMap Yg) (L:=L2) rfl rfl Y9 hO2 (by repeat (first | exact .cons .here .nil | exact Qu | exact Qq | apply Qo | apply Qn)) ⟨rfl,fun _=>rfl,by repeat (first | exact zwO | apply zwN | apply zwP)⟩ (zbk [x.ls.no,x.ls.person,x.ls.version,x.ls.at_,x.ls.known]) (by omega) rfl rfl ?_
 intro v3 L3 hO3 _;rw [←List.flatMap_append] at hO3
 refine zA ?_
 refine zN (zR ?_)
 refine zM ?_
 refine zF VJ ?_
 refine zV (Qd rfl Qy (fun hg=>by exact QG.imm h7.out rfl)) ?_
 refine zF Ji ?_
 refine zV (Qd rfl Qy (fun hg=>by exact QG.imm h7.out rfl)) ?_
 refine zF Us ?_
 refine zV (Qd rfl Qy (fun hg=>by exact QG.imm h7.out rfl)) ?_
 refine zF Wd ?_
 refine zV (Qd rfl Qy (fun hg=>by exact QG.imm h7.out rfl)) ?_
 refine zF WN ?_
 refine zV (Qd rfl Qy (fun hg=>by exact QG.imm h7.out rfl)) ?_
 refine zF JB ?_
 refine zV (Qd rfl Qy (fun hg=>by exact QG.imm h7.out rfl)) ?_
 refine zF KK ?_
 refine zV (Qd rfl Qy (fun hg=>by exact QG.imm h7.out rfl)) ?_
 refine zF KJ ?_
 refine zV (Qd rfl Qy (fun hg=>by exact QG.imm h7.out rfl)) ?_
 refine zF Vd ?_
 refine zV (Qd rfl Qy (fun hg=>by exact QG.imm h7.out rfl)) ?_
 refine Ql (ps:=[(0,_),(1,_),(2,_),(3,_),(4,_),(5,_),(6,_),(7,_),(8,_)]) (m:=[Yg x.rt.no,Yg x.rt.kind,Yg x.rt.edition,Yg x.rt.holder,Yg x.rt.sign,Yg x.rt.ends,Yg x.rt.lo,Yg x.rt.hi,Yg x.rt.known]) Y9 rfl (.cons rfl (.cons rfl (.cons rfl (.cons rfl (.cons rfl (.cons rfl (.cons rfl (.cons rfl (.cons rfl (.nil)))))))))) rfl (by simp [Q5,Zw]) (by decide) (by decide) rfl rfl (fun b_118=>?_)
 refine QW (v:=_) (ys:=([x.rt.no,x.rt.kind,x.rt.edition,x.rt.holder,x.rt.sign,x.rt.ends,x.rt.lo,x.rt.hi,x.rt.known]:List Int).flatMap Yg) (L:=L3) rfl rfl Y9 hO3 (by repeat (first | exact .cons .here .nil | exact Qu | exact Qq | apply Qo | apply Qn)) ⟨rfl,fun _=>rfl,by repeat (first | exact zwO | apply zwN | apply zwP)⟩ (zbk [x.rt.no,x.rt.kind,x.rt.edition,x.rt.holder,x.rt.sign,x.rt.ends,x.rt.lo,x.rt.hi,x.rt.known]) (by omega) rfl rfl ?_
 intro v4 L4 hO4 _;rw [←List.flatMap_append] at hO4
 refine zA (Qb ?_)
 refine Zv hO4 Zw (by decide) (by repeat (first | exact .cons .here .nil | exact Qu | exact Qq | apply Qo | apply Qn)) (fun I7 hI7 af7 cf7 ef7 hZ=>?_)
 subst ef7
 have hIc:=hIc.trans hI7
 refine Qc (QF ?_)
 exact QR rfl rfl (fun w hw=>⟨_,I7,[],rfl,hIc,hw.subL Qe,rfl,_,_,rfl,hZ⟩)
end
section
open Go Go.Kn Go.Proofs
theorem zo5:Fun Tryz.prog 102:=.of Tryz.func102 (by kernel_rfl) (by kernel_rfl)
theorem zcs:Fun Tryz.prog 103:=.of Tryz.func103 (by kernel_rfl) (by kernel_rfl)
theorem zay:Fun Tryz.prog 104:=.of Tryz.func104 (by kernel_rfl) (by kernel_rfl)
theorem zcW:Fun Tryz.prog 105:=.of Tryz.func105 (by kernel_rfl) (by kernel_rfl)
set_option maxRecDepth 100000 in
theorem Xo {I:Qv} (x:Nt) (hN:Nd I x.pt) (hnn:x.pt.n≤100000) (hok:Va.ok (JT x)) (hb:(JR x).length≤900000):Vl Tryz.prog 43 [JL x] I [] (YQ (JR x)):=by
 intro g H w hw
 refine qe Tryz.func43 Tryz.ntmps43 hw ?_
 have hIc:=zwQ I
 have hnl:x.pt.needs.length=x.pt.n:=hN.len
 refine zR ?_
 refine Zd rfl rfl rfl (fun b_1=>?_)
 refine zA (Qb ?_)
 refine QN .here (fun I1 hI1 hb1=>?_)
 have hN:=hN.mono hI1;have hIc:=hIc.trans hI1
 have h1:=BxI.of hb1
 refine Qc (zR ?_)
 refine zV (Q0 (ps:=[(0,_)]) [_,_,_,_] Kj rfl rfl) ?_
 refine Qs YX rfl rfl (fun b_3=>?_)
 refine zh ZS ?_
 refine zN (zR ?_)
 refine zV (Qg rfl Zr (fun hg=>by exact BxI.cells (vs:=Zn x) h1) rfl) ?_
 refine QC (cap:=[]) (vs:=[_]) rfl rfl zo5 .nil (zs1 _ x) rfl rfl ?_
 rintro vv2 I2 L2 hI2 ⟨rfl,an,cn,rfl,hNu⟩
 have hN:=hN.mono hI2;have h1:=h1.mono hI2;have hIc:=hIc.trans hI2
 refine zA (zN (Qr (zR ?_)))
 refine zA (zN (QE ?_))
 refine zU [(1,_),(3,_),(4,_)] (fun T L0 mz E I' loc'=>∃ (k:Nat) (v:Value) (L:Go.Kn.Loc),mz=42-k∧E=(5,.int .i64 k)::T∧I2=I'∧L++[(b_3,.cells #[.int .i64 3,.int .i64 0,.string ⟨#[]⟩,v] 158 (0,0))]=loc'∧k≤42∧Ym 158 4 v k ((((VI x).take k).map vcI).flatMap Zp) L) ?_ (h:=⟨0,_,[],rfl,rfl,rfl,rfl,Nat.zero_le _,Ym.nil⟩)
 rintro mz E I' loc' ⟨k,v,L,rfl,rfl,rfl,rfl,hk,hO⟩
 refine Qr (zR (zM ?_))
 refine zM ?_
 refine zQ Yl ?_
 refine zC (zN ?_)
 refine zI ?_ ?_<;>intro hc16
 ·
  have hlt_k:k<42:=by have h:=hc16;simp at h;omega
  obtain ⟨y,hy⟩:∃ y,(VI x)[k]? =some y:=⟨_,List.getElem?_eq_getElem (by rw [YP];omega)⟩
  refine Qw (Qc (Qr (QE ?_)))
  have hD:=zwQ I2
  refine ZK ?_
  refine QZ I2 [] mixed ?_
  refine zT 0 rfl (Qa rfl Q6) hD ?_
  refine zT 2 rfl (Qh rfl) hD ?_
  refine zT 3 rfl (Qh rfl) hD ?_
  refine zT 4 rfl (zX Yl hNu) hD ?_
  refine zT 5 rfl (Qd rfl Qy (fun hg=>by exact zwJ hNu hy rfl)) hD ?_
  refine Q8 1 6 rfl rfl (by kernel_rfl) ?_ ?_
  ·
   refine zV (Qd rfl ZI (fun hg=>by exact zwM (QG.h0 rfl))) ?_
   refine Qb ?_
   refine zD hD ?_
   refine qd 6 rfl ?_
   refine qcV (vs:=[_]) rfl zcs (zfU _ _) ?_
   refine Qb ?_
   refine zD hD ?_
   refine qd 7 rfl ?_
   refine Ql (ps:=[(0,_)]) (m:=[Zp (vcI y)]) ZQ rfl (.cons rfl (.nil)) rfl (by simp [ZB,Q5]) (by decide) (by decide) rfl rfl (fun b_26=>?_)
   refine Qb ?_
   refine zD hD ?_
   refine qd 8 rfl ?_
   refine QW (v:=_) (ys:=([vcI y]:List Vc).flatMap Zp) (L:=L) rfl rfl ZQ hO (by repeat (first | exact .cons .here .nil | exact Qu | exact Qq | apply Qo | apply Qn)) ⟨rfl,fun _=>rfl,by repeat (first | exact zwO | apply zwN | apply zwP)⟩ (VX [vcI y]) (by omega) rfl rfl ?_
   intro v2 L2 hO2 _;rw [←List.flatMap_append] at hO2;obtain ⟨a2,c2,rfl⟩:=hO2.shape
   refine Qb ?_
   refine zD hD ?_
   refine zT 9 rfl (Qa rfl Q6) hD ?_
   refine qd 10 rfl ?_
   refine Zg rfl rfl Y5 rfl rfl (by (repeat (first | exact Upd.here | apply Upd.there | apply Qx))) rfl ?_
   refine Qb ?_
   refine zD hD ?_
   refine Qm (by kernel_rfl) ?_
   refine QA ?_
   refine Qp (Qc (Qk (zM ?_)))
   refine zB ?_
   refine zA (Qb ?_)
   exact zm (h:=⟨42-(k+1),by omega,k+1,_,_,rfl,rfl,rfl,rfl,by omega,by rw [ZD hy,List.map_append];exact hO2⟩)
  refine qcV (vs:=[_]) rfl zcs (zfU _ _) ?_
  refine Qb ?_
  refine zD hD ?_
  refine Q8 1 7 rfl rfl (by kernel_rfl) ?_ ?_
  ·
   refine zV (Qd rfl ZI (fun hg=>by exact zwM (QG.h0 rfl))) ?_
   refine Qb ?_
   refine zD hD ?_
   refine qd 7 rfl ?_
   refine Ql (ps:=[(0,_)]) (m:=[Zp (vcI y)]) ZQ rfl (.cons rfl (.nil)) rfl (by simp [ZB,Q5]) (by decide) (by decide) rfl rfl (fun b_26=>?_)
   refine Qb ?_
   refine zD hD ?_
   refine qd 8 rfl ?_
   refine QW (v:=_) (ys:=([vcI y]:List Vc).flatMap Zp) (L:=L) rfl rfl ZQ hO (by repeat (first | exact .cons .here .nil | exact Qu | exact Qq | apply Qo | apply Qn)) ⟨rfl,fun _=>rfl,by repeat (first | exact zwO | apply zwN | apply zwP)⟩ (VX [vcI y]) (by omega) rfl rfl ?_
   intro v2 L2 hO2 _;rw [←List.flatMap_append] at hO2;obtain ⟨a2,c2,rfl⟩:=hO2.shape
   refine Qb ?_
   refine zD hD ?_
   refine zT 9 rfl (Qa rfl Q6) hD ?_
   refine qd 10 rfl ?_
   refine Zg rfl rfl Y5 rfl rfl (by (repeat (first | exact Upd.here | apply Upd.there | apply Qx))) rfl ?_
   refine Qb ?_
   refine zD hD ?_
   refine Qm (by kernel_rfl) ?_
   refine QA ?_
   refine Qp (Qc (Qk (zM ?_)))
   refine zB ?_
   refine zA (Qb ?_)
   exact zm (h:=⟨42-(k+1),by omega,k+1,_,_,rfl,rfl,rfl,rfl,by omega,by rw [ZD hy,List.map_append];exact hO2⟩)
  refine Ql (ps:=[(0,_)]) (m:=[Zp (vcI y)]) ZQ rfl (.cons rfl (.nil)) rfl (by simp [ZB,Q5]) (by decide) (by decide) rfl rfl (fun b_26=>?_)
  refine Qb ?_
  refine zD hD ?_
  refine qd 1 rfl ?_
  refine zV (Qd rfl ZI (fun hg=>by (repeat (first | exact zwL rfl | apply zwK | apply zwM)))) ?_
  refine Qb ?_
  refine zD hD ?_
  refine qd 8 rfl ?_
  refine QW (v:=_) (ys:=([vcI y]:List Vc).flatMap Zp) (L:=L) rfl rfl ZQ hO (by repeat (first | exact .cons .here .nil | exact Qu | exact Qq | apply Qo | apply Qn)) ⟨rfl,fun _=>rfl,by repeat (first | exact zwO | apply zwN | apply zwP)⟩ (VX [vcI y]) (by omega) rfl rfl ?_
  intro v2 L2 hO2 _;rw [←List.flatMap_append] at hO2;obtain ⟨a2,c2,rfl⟩:=hO2.shape
  refine Qb ?_
  refine zD hD ?_
  refine zT 9 rfl (Qa rfl Q6) hD ?_
  refine qd 10 rfl ?_
  refine Zg rfl rfl Y5 rfl rfl (by (repeat (first | exact Upd.here | apply Upd.there | apply Qx))) rfl ?_
  refine Qb ?_
  refine zD hD ?_
  refine Qm (by kernel_rfl) ?_
  refine QA ?_
  refine Qp (Qc (Qk (zM ?_)))
  refine zB ?_
  refine zA (Qb ?_)
  exact zm (h:=⟨42-(k+1),by omega,k+1,_,_,rfl,rfl,rfl,rfl,by omega,by rw [ZD hy,List.map_append];exact hO2⟩)
 have hge_k:42≤k:=by have h:=hc16;simp at h;omega
 obtain rfl:k=42:=by omega
 have hke:(VI x).take 42=VI x:=rfl
 rw [hke] at hO
 refine ZC (Qt (Qt (QD (Qc (zR ?_)))))
 refine zV (Q0 (ps:=[(0,_)]) [_,_,_,_] Kj rfl rfl) ?_
 refine Qs YX rfl rfl (fun b_6=>?_)
 refine zh ZS ?_
 refine zN (Qr (zR (zA (zN (QE ?_)))))
 refine zU [(1,_),(3,_),(6,_)] (fun T L0 mz E I' loc'=>∃ (j:Nat) (vq:Value) (Lq:Go.Kn.Loc),mz=x.pt.n-j∧E=(7,.int .i64 j)::T∧I2=I'∧Lq++((b_6,.cells #[.int .i64 3,.int .i64 0,.string ⟨#[]⟩,vq] 158 (0,0))::(L++[(b_3,.cells #[.int .i64 3,.int .i64 0,.string ⟨#[]⟩,v] 158 (0,0))]))=loc'∧j≤x.pt.n∧Ym 158 4 vq j (((x.pt.needs.take j).map vcI).flatMap Zp) Lq) ?_ (h:=⟨0,_,[],rfl,rfl,rfl,rfl,Nat.zero_le _,Ym.nil⟩)
 rintro mz E I' loc' ⟨j,vq,Lq,rfl,rfl,rfl,rfl,hj,hOq⟩
 refine Qr (zR (zM ?_))
 refine zF Vw ?_
 refine zF Y7 ?_
 refine zV (Qd rfl Ke (fun hg=>by exact QG.imm h1.out rfl)) ?_
 refine zQ Yl ?_
 refine zC (zN ?_)
 refine zI ?_ ?_<;>intro hc35
 ·
  have hlt_j:j<x.pt.n:=by have h:=hc35;simp at h;omega
  obtain ⟨z,hz⟩:∃ y,x.pt.needs[j]? =some y:=⟨_,List.getElem?_eq_getElem (by omega)⟩
  refine Qw (Qc (Qr (QE ?_)))
  have hD:=zwQ I2
  refine ZK ?_
  refine QZ I2 [] mixed ?_
  refine zT 0 rfl (Qa rfl Q6) hD ?_
  refine zT 2 rfl (Qa rfl Vw) hD ?_
  refine zT 3 rfl (Qa rfl Y7) hD ?_
  refine zT 4 rfl (Qd rfl Ke (fun hg=>by exact QG.imm h1.out rfl)) hD ?_
  refine zT 5 rfl (Qh rfl) hD ?_
  refine zT 6 rfl (zX Yl hN) hD ?_
  refine zT 7 rfl (Qd rfl Qy (fun hg=>by exact zwJ hN hz rfl)) hD ?_
  refine Q8 1 8 rfl rfl (by kernel_rfl) ?_ ?_
  ·
   refine zV (Qd rfl ZI (fun hg=>by exact zwM (QG.h0 rfl))) ?_
   refine Qb ?_
   refine zD hD ?_
   refine qd 8 rfl ?_
   refine qcV (vs:=[_]) rfl zcs (zfU _ _) ?_
   refine Qb ?_
   refine zD hD ?_
   refine qd 9 rfl ?_
   refine Ql (ps:=[(0,_)]) (m:=[Zp (vcI z)]) ZQ rfl (.cons rfl (.nil)) rfl (by simp [ZB,Q5]) (by decide) (by decide) rfl rfl (fun b_47=>?_)
   refine Qb ?_
   refine zD hD ?_
   refine qd 10 rfl ?_
   refine QW (v:=_) (ys:=([vcI z]:List Vc).flatMap Zp) (L:=Lq) rfl rfl ZQ hOq (by repeat (first | exact .cons .here .nil | exact Qu | exact Qq | apply Qo | apply Qn)) ⟨rfl,fun _=>rfl,by repeat (first | exact zwO | apply zwN | apply zwP)⟩ (VX [vcI z]) (by omega) rfl rfl ?_
   intro v2 L2 hO2 _;rw [←List.flatMap_append] at hO2;obtain ⟨a2,c2,rfl⟩:=hO2.shape
   refine Qb ?_
   refine zD hD ?_
   refine zT 11 rfl (Qa rfl Q6) hD ?_
   refine qd 12 rfl ?_
   refine Zg rfl rfl Y5 rfl rfl (by (repeat (first | exact Upd.here | apply Upd.there | apply Qx))) rfl ?_
   refine Qb ?_
   refine zD hD ?_
   refine Qm (by kernel_rfl) ?_
   refine QA ?_
   refine Qp (Qc (Qk (zM ?_)))
   refine zB ?_
   refine zA (Qb ?_)
   exact zm (h:=⟨x.pt.n-(j+1),by omega,j+1,_,_,rfl,rfl,rfl,rfl,by omega,by rw [ZD hz,List.map_append];exact hO2⟩)
  refine qcV (vs:=[_]) rfl zcs (zfU _ _) ?_
  refine Qb ?_
  refine zD hD ?_
  refine Q8 1 9 rfl rfl (by kernel_rfl) ?_ ?_
  ·
   refine zV (Qd rfl ZI (fun hg=>by exact zwM (QG.h0 rfl))) ?_
   refine Qb ?_
   refine zD hD ?_
   refine qd 9 rfl ?_
   refine Ql (ps:=[(0,_)]) (m:=[Zp (vcI z)]) ZQ rfl (.cons rfl (.nil)) rfl (by simp [ZB,Q5]) (by decide) (by decide) rfl rfl (fun b_47=>?_)
   refine Qb ?_
   refine zD hD ?_
   refine qd 10 rfl ?_
   refine QW (v:=_) (ys:=([vcI z]:List Vc).flatMap Zp) (L:=Lq) rfl rfl ZQ hOq (by repeat (first | exact .cons .here .nil | exact Qu | exact Qq | apply Qo | apply Qn)) ⟨rfl,fun _=>rfl,by repeat (first | exact zwO | apply zwN | apply zwP)⟩ (VX [vcI z]) (by omega) rfl rfl ?_
   intro v2 L2 hO2 _;rw [←List.flatMap_append] at hO2;obtain ⟨a2,c2,rfl⟩:=hO2.shape
   refine Qb ?_
   refine zD hD ?_
   refine zT 11 rfl (Qa rfl Q6) hD ?_
   refine qd 12 rfl ?_
   refine Zg rfl rfl Y5 rfl rfl (by (repeat (first | exact Upd.here | apply Upd.there | apply Qx))) rfl ?_
   refine Qb ?_
   refine zD hD ?_
   refine Qm (by kernel_rfl) ?_
   refine QA ?_
   refine Qp (Qc (Qk (zM ?_)))
   refine zB ?_
   refine zA (Qb ?_)
   exact zm (h:=⟨x.pt.n-(j+1),by omega,j+1,_,_,rfl,rfl,rfl,rfl,by omega,by rw [ZD hz,List.map_append];exact hO2⟩)
  refine Ql (ps:=[(0,_)]) (m:=[Zp (vcI z)]) ZQ rfl (.cons rfl (.nil)) rfl (by simp [ZB,Q5]) (by decide) (by decide) rfl rfl (fun b_47=>?_)
  refine Qb ?_
  refine zD hD ?_
  refine qd 1 rfl ?_
  refine zV (Qd rfl ZI (fun hg=>by (repeat (first | exact zwL rfl | apply zwK | apply zwM)))) ?_
  refine Qb ?_
  refine zD hD ?_
  refine qd 10 rfl ?_
  refine QW (v:=_) (ys:=([vcI z]:List Vc).flatMap Zp) (L:=Lq) rfl rfl ZQ hOq (by repeat (first | exact .cons .here .nil | exact Qu | exact Qq | apply Qo | apply Qn)) ⟨rfl,fun _=>rfl,by repeat (first | exact zwO | apply zwN | apply zwP)⟩ (VX [vcI z]) (by omega) rfl rfl ?_
  intro v2 L2 hO2 _;rw [←List.flatMap_append] at hO2;obtain ⟨a2,c2,rfl⟩:=hO2.shape
  refine Qb ?_
  refine zD hD ?_
  refine zT 11 rfl (Qa rfl Q6) hD ?_
  refine qd 12 rfl ?_
  refine Zg rfl rfl Y5 rfl rfl (by (repeat (first | exact Upd.here | apply Upd.there | apply Qx))) rfl ?_
  refine Qb ?_
  refine zD hD ?_
  refine Qm (by kernel_rfl) ?_
  refine QA ?_
  refine Qp (Qc (Qk (zM ?_)))
  refine zB ?_
  refine zA (Qb ?_)
  exact zm (h:=⟨x.pt.n-(j+1),by omega,j+1,_,_,rfl,rfl,rfl,rfl,by omega,by rw [ZD hz,List.map_append];exact hO2⟩)
 have hge_j:x.pt.n≤j:=by have h:=hc35;simp at h;omega
 obtain rfl:j=x.pt.n:=by omega
 have hke2:x.pt.needs.take x.pt.n=x.pt.needs:=List.take_of_length_le (by omega)
 rw [hke2] at hOq
 refine ZC (Qt (Qt (QD (Qc (Qr ?_)))))
 obtain ⟨a7,c7,rfl⟩:=hOq.shape
 refine Zv hOq ZB (by decide) (by repeat (first | exact .cons .here .nil | exact Qu | exact Qq | apply Qo | apply Qn)) (fun I5 hI5 a6 c6 ef5 hM6=>?_)
 cases ef5
 have h1:=h1.mono hI5;have hIc:=hIc.trans hI5
 refine QN (b:=b_6) (by repeat (first | exact Ya.here | apply Ya.there)) (fun I6 hI6 hb6=>?_)
 have h1:=h1.mono hI6;have hM6:=hM6.mono hI6;have hIc:=hIc.trans hI6
 have h6:=BxI.of hb6
 have hD:=zwQ I6
 refine ZK ?_
 refine QZ I6 [] mixed ?_
 refine zT 0 rfl (Qa rfl Q6) hD ?_
 refine zT 2 rfl (Qg rfl ZJ (fun hg=>by exact BxI.cells (vs:=[_,_,_,_]) h6) rfl) hD ?_
 refine zT 3 rfl (Qa rfl YR) hD ?_
 refine zT 4 rfl (Qa rfl UA) hD ?_
 refine zT 5 rfl (Qd rfl JJ (fun hg=>by exact QG.imm h1.out rfl)) hD ?_
 refine zT 7 rfl (Qa rfl YR) hD ?_
 refine zT 8 rfl (Qa rfl Uv) hD ?_
 refine zT 9 rfl (Qd rfl JJ (fun hg=>by exact QG.imm h1.out rfl)) hD ?_
 refine Q8 1 6 rfl rfl (by kernel_rfl) ?_ ?_
 ·
  refine zV (Qd rfl ZI (fun hg=>by exact zwM (QG.h0 rfl))) ?_
  refine Qb ?_
  refine zD hD ?_
  refine qd 6 rfl ?_
  refine qcV (vs:=[_]) rfl zay (zap _ _) ?_
  refine Qb ?_
  refine zD hD ?_
  refine qd 10 rfl ?_
  refine qcV (vs:=[_]) rfl zay (zap _ _) ?_
  refine Qb ?_
  refine zD hD ?_
  refine qd 11 rfl ?_
  refine Ql (ps:=[(0,_),(1,_),(2,_)]) (m:=[Zp ⟨3,0,⟨#[]⟩,a7,x.pt.n,c7⟩,Zp (vcT x.rt.name),Zp (vcT x.rt.town)]) ZQ rfl (.cons rfl (.cons rfl (.cons rfl (.nil)))) rfl (by simp [ZB,Q5]) (by decide) (by decide) rfl rfl (fun b_61=>?_)
  refine Qb ?_
  refine zD hD ?_
  refine qd 12 rfl ?_
  refine QW (v:=_) (ys:=([⟨3,0,⟨#[]⟩,a7,x.pt.n,c7⟩,vcT x.rt.name,vcT x.rt.town]:List Vc).flatMap Zp) (L:=L) rfl rfl ZQ hO (by repeat (first | exact .cons .here .nil | exact Qu | exact Qq | apply Qo | apply Qn)) ⟨rfl,fun _=>rfl,by repeat (first | exact zwO | apply zwN | apply zwP)⟩ (VX [⟨3,0,⟨#[]⟩,a7,x.pt.n,c7⟩,vcT x.rt.name,vcT x.rt.town]) (by omega) rfl rfl ?_
  intro v8 L8 hO8 _;rw [←List.flatMap_append] at hO8;obtain ⟨a8,c8,rfl⟩:=hO8.shape
  refine Qb ?_
  refine zD hD ?_
  refine zT 13 rfl (Qa rfl Q6) hD ?_
  refine qd 14 rfl ?_
  refine Zg rfl rfl Y5 rfl rfl (by (repeat (first | exact Upd.here | apply Upd.there | apply Qx))) rfl ?_
  refine Qb ?_
  refine zD hD ?_
  refine Qm (by kernel_rfl) ?_
  refine QA ?_
  refine Qc (Qr ?_)
  refine Zv hO8 ZB (by decide) (by repeat (first | exact .cons .here .nil | exact Qu | exact Qq | apply Qo | apply Qn)) (fun I7 hI7 a9 c9 ef7 hM8=>?_)
  cases ef7
  have hM6:=hM6.mono hI7;have hIc:=hIc.trans hI7
  refine Qk ?_
  refine zV (Qg rfl ZJ (fun hg=>by exact Cells.g1) rfl) ?_
  refine QC (cap:=[]) (vs:=[_]) rfl rfl zcW .nil (Wv (x:=JT x) (cv:=⟨3,0,⟨#[]⟩,_,45,_⟩) (U5 hM6 hM8) (Jg x) hok hb) rfl rfl ?_
  rintro vv8 I8 L8 hI8 ⟨rfl,ae,ce,rfl,hS9⟩
  have hIc:=hIc.trans hI8
  refine zM ?_
  refine zE ?_
  refine zE ?_
  refine zA ?_
  refine zA ?_
  refine zN (zR ?_)
  refine zM ?_
  refine zA (zN (QF ?_))
  exact QR rfl rfl (fun w hw=>⟨_,I8,[],rfl,hIc,hw.subL Qe,zbB hS9 rfl⟩)
 refine qcV (vs:=[_]) rfl zay (zap _ _) ?_
 refine Qb ?_
 refine zD hD ?_
 refine Q8 1 10 rfl rfl (by kernel_rfl) ?_ ?_
 ·
  refine zV (Qd rfl ZI (fun hg=>by exact zwM (QG.h0 rfl))) ?_
  refine Qb ?_
  refine zD hD ?_
  refine qd 10 rfl ?_
  refine qcV (vs:=[_]) rfl zay (zap _ _) ?_
  refine Qb ?_
  refine zD hD ?_
  refine qd 11 rfl ?_
  refine Ql (ps:=[(0,_),(1,_),(2,_)]) (m:=[Zp ⟨3,0,⟨#[]⟩,a7,x.pt.n,c7⟩,Zp (vcT x.rt.name),Zp (vcT x.rt.town)]) ZQ rfl (.cons rfl (.cons rfl (.cons rfl (.nil)))) rfl (by simp [ZB,Q5]) (by decide) (by decide) rfl rfl (fun b_61=>?_)
  refine Qb ?_
  refine zD hD ?_
  refine qd 12 rfl ?_
  refine QW (v:=_) (ys:=([⟨3,0,⟨#[]⟩,a7,x.pt.n,c7⟩,vcT x.rt.name,vcT x.rt.town]:List Vc).flatMap Zp) (L:=L) rfl rfl ZQ hO (by repeat (first | exact .cons .here .nil | exact Qu | exact Qq | apply Qo | apply Qn)) ⟨rfl,fun _=>rfl,by repeat (first | exact zwO | apply zwN | apply zwP)⟩ (VX [⟨3,0,⟨#[]⟩,a7,x.pt.n,c7⟩,vcT x.rt.name,vcT x.rt.town]) (by omega) rfl rfl ?_
  intro v8 L8 hO8 _;rw [←List.flatMap_append] at hO8;obtain ⟨a8,c8,rfl⟩:=hO8.shape
  refine Qb ?_
  refine zD hD ?_
  refine zT 13 rfl (Qa rfl Q6) hD ?_
  refine qd 14 rfl ?_
  refine Zg rfl rfl Y5 rfl rfl (by (repeat (first | exact Upd.here | apply Upd.there | apply Qx))) rfl ?_
  refine Qb ?_
  refine zD hD ?_
  refine Qm (by kernel_rfl) ?_
  refine QA ?_
  refine Qc (Qr ?_)
  refine Zv hO8 ZB (by decide) (by repeat (first | exact .cons .here .nil | exact Qu | exact Qq | apply Qo | apply Qn)) (fun I9 hI9 a9 c9 ef9 hM8=>?_)
  cases ef9
  have hM6:=hM6.mono hI9;have hIc:=hIc.trans hI9
  refine Qk ?_
  refine zV (Qg rfl ZJ (fun hg=>by exact Cells.g1) rfl) ?_
  refine QC (cap:=[]) (vs:=[_]) rfl rfl zcW .nil (Wv (x:=JT x) (cv:=⟨3,0,⟨#[]⟩,_,45,_⟩) (U5 hM6 hM8) (Jg x) hok hb) rfl rfl ?_
  rintro vv10 I10 L10 hI10 ⟨rfl,ae,ce,rfl,hS9⟩
  have hIc:=hIc.trans hI10
  refine zM ?_
  refine zE ?_
  refine zE ?_
  refine zA ?_
  refine zA ?_
  refine zN (zR ?_)
  refine zM ?_
  refine zA (zN (QF ?_))
  exact QR rfl rfl (fun w hw=>⟨_,I10,[],rfl,hIc,hw.subL Qe,zbB hS9 rfl⟩)
 refine qcV (vs:=[_]) rfl zay (zap _ _) ?_
 refine Qb ?_
 refine zD hD ?_
 refine Q8 1 11 rfl rfl (by kernel_rfl) ?_ ?_
 ·
  refine zV (Qd rfl ZI (fun hg=>by exact zwM (QG.h0 rfl))) ?_
  refine Qb ?_
  refine zD hD ?_
  refine qd 11 rfl ?_
  refine Ql (ps:=[(0,_),(1,_),(2,_)]) (m:=[Zp ⟨3,0,⟨#[]⟩,a7,x.pt.n,c7⟩,Zp (vcT x.rt.name),Zp (vcT x.rt.town)]) ZQ rfl (.cons rfl (.cons rfl (.cons rfl (.nil)))) rfl (by simp [ZB,Q5]) (by decide) (by decide) rfl rfl (fun b_61=>?_)
  refine Qb ?_
  refine zD hD ?_
  refine qd 12 rfl ?_
  refine QW (v:=_) (ys:=([⟨3,0,⟨#[]⟩,a7,x.pt.n,c7⟩,vcT x.rt.name,vcT x.rt.town]:List Vc).flatMap Zp) (L:=L) rfl rfl ZQ hO (by repeat (first | exact .cons .here .nil | exact Qu | exact Qq | apply Qo | apply Qn)) ⟨rfl,fun _=>rfl,by repeat (first | exact zwO | apply zwN | apply zwP)⟩ (VX [⟨3,0,⟨#[]⟩,a7,x.pt.n,c7⟩,vcT x.rt.name,vcT x.rt.town]) (by omega) rfl rfl ?_
  intro v8 L8 hO8 _;rw [←List.flatMap_append] at hO8;obtain ⟨a8,c8,rfl⟩:=hO8.shape
  refine Qb ?_
  refine zD hD ?_
  refine zT 13 rfl (Qa rfl Q6) hD ?_
  refine qd 14 rfl ?_
  refine Zg rfl rfl Y5 rfl rfl (by (repeat (first | exact Upd.here | apply Upd.there | apply Qx))) rfl ?_
  refine Qb ?_
  refine zD hD ?_
  refine Qm (by kernel_rfl) ?_
  refine QA ?_
  refine Qc (Qr ?_)
  refine Zv hO8 ZB (by decide) (by repeat (first | exact .cons .here .nil | exact Qu | exact Qq | apply Qo | apply Qn)) (fun I11 hI11 a9 c9 ef11 hM8=>?_)
  cases ef11
  have hM6:=hM6.mono hI11;have hIc:=hIc.trans hI11
  refine Qk ?_
  refine zV (Qg rfl ZJ (fun hg=>by exact Cells.g1) rfl) ?_
  refine QC (cap:=[]) (vs:=[_]) rfl rfl zcW .nil (Wv (x:=JT x) (cv:=⟨3,0,⟨#[]⟩,_,45,_⟩) (U5 hM6 hM8) (Jg x) hok hb) rfl rfl ?_
  rintro vv12 I12 L12 hI12 ⟨rfl,ae,ce,rfl,hS9⟩
  have hIc:=hIc.trans hI12
  refine zM ?_
  refine zE ?_
  refine zE ?_
  refine zA ?_
  refine zA ?_
  refine zN (zR ?_)
  refine zM ?_
  refine zA (zN (QF ?_))
  exact QR rfl rfl (fun w hw=>⟨_,I12,[],rfl,hIc,hw.subL Qe,zbB hS9 rfl⟩)
 refine Ql (ps:=[(0,_),(1,_),(2,_)]) (m:=[Zp ⟨3,0,⟨#[]⟩,a7,x.pt.n,c7⟩,Zp (vcT x.rt.name),Zp (vcT x.rt.town)]) ZQ rfl (.cons rfl (.cons rfl (.cons rfl (.nil)))) rfl (by simp [ZB,Q5]) (by decide) (by decide) rfl rfl (fun b_61=>?_)
 refine Qb ?_
 refine zD hD ?_
 refine qd 1 rfl ?_
 refine zV (Qd rfl ZI (fun hg=>by (repeat (first | exact zwL rfl | apply zwK | apply zwM)))) ?_
 refine Qb ?_
 refine zD hD ?_
 refine qd 12 rfl ?_
 refine QW (v:=_) (ys:=([⟨3,0,⟨#[]⟩,a7,x.pt.n,c7⟩,vcT x.rt.name,vcT x.rt.town]:List Vc).flatMap Zp) (L:=L) rfl rfl ZQ hO (by repeat (first | exact .cons .here .nil | exact Qu | exact Qq | apply Qo | apply Qn)) ⟨rfl,fun _=>rfl,by repeat (first | exact zwO | apply zwN | apply zwP)⟩ (VX [⟨3,0,⟨#[]⟩,a7,x.pt.n,c7⟩,vcT x.rt.name,vcT x.rt.town]) (by omega) rfl rfl ?_
 intro v8 L8 hO8 _;rw [←List.flatMap_append] at hO8;obtain ⟨a8,c8,rfl⟩:=hO8.shape
 refine Qb ?_
 refine zD hD ?_
 refine zT 13 rfl (Qa rfl Q6) hD ?_
 refine qd 14 rfl ?_
 refine Zg rfl rfl Y5 rfl rfl (by (repeat (first | exact Upd.here | apply Upd.there | apply Qx))) rfl ?_
 refine Qb ?_
 refine zD hD ?_
 refine Qm (by kernel_rfl) ?_
 refine QA ?_
 refine Qc (Qr ?_)
 refine Zv hO8 ZB (by decide) (by repeat (first | exact .cons .here .nil | exact Qu | exact Qq | apply Qo | apply Qn)) (fun I13 hI13 a9 c9 ef13 hM8=>?_)
 cases ef13
 have hM6:=hM6.mono hI13;have hIc:=hIc.trans hI13
 refine Qk ?_
 refine zV (Qg rfl ZJ (fun hg=>by exact Cells.g1) rfl) ?_
 refine QC (cap:=[]) (vs:=[_]) rfl rfl zcW .nil (Wv (x:=JT x) (cv:=⟨3,0,⟨#[]⟩,_,45,_⟩) (U5 hM6 hM8) (Jg x) hok hb) rfl rfl ?_
 rintro vv14 I14 L14 hI14 ⟨rfl,ae,ce,rfl,hS9⟩
 have hIc:=hIc.trans hI14
 refine zM ?_
 refine zE ?_
 refine zE ?_
 refine zA ?_
 refine zA ?_
 refine zN (zR ?_)
 refine zM ?_
 refine zA (zN (QF ?_))
 exact QR rfl rfl (fun w hw=>⟨_,I14,[],rfl,hIc,hw.subL Qe,zbB hS9 rfl⟩)
end
section
open Go Go.Kn Go.Proofs
def zoF (no ver:Int):Nt:=⟨3,V1,JM,⟨no,2,ver,40,8⟩,S.zeroR⟩
def Yu (no of:Int):Nt:=⟨1,⟨no,1,of,0,9,0,4,0,0⟩,JM,L.zeroL,S.zeroR⟩
abbrev n35:Nt:=zoF 3 5
def zbr (m:Nat):Rd:=⟨List.replicate m [],[],[]⟩
theorem zfs {m:Nat}(hm:1≤m∧m≤24):Kn m (zbr m) []:=
 ⟨hm,by simp [zbr],rfl,fun xs hx=>(by rw [List.eq_of_mem_replicate hx];rfl),fun xs hx y hy=>(by rw [List.eq_of_mem_replicate hx] at hy;cases hy),fun p hp=>(by cases hp),fun t ht=>(by cases ht)⟩
theorem zjh {x:Nt}(h:(VI x).all (fun y=>decide (-1000≤y)&&decide (y≤1000))=true)(hn:x.pt.needs=[]):NtW x:=by
 refine ⟨fun y hy=>?_,fun y hy=>by rw [hn] at hy;cases hy⟩
 have:=List.all_eq_true.1 h y hy
 rw [Bool.and_eq_true,decide_eq_true_eq,decide_eq_true_eq] at this
 omega
theorem zmR:NtW n35:=zjh (by decide) rfl
theorem zg4 (I:Qv):Nd I n35.pt:=Sl.nil
theorem znA:Q7 n35=true:=by kernel_rfl
theorem Xp:TkN n35:=by
 obtain ⟨h1,h2⟩:=zb2 zmR rfl znA
 exact ⟨h1,znA,h2⟩
def e35:Ev:=⟨1,1,0,0,n35⟩
def eT0:Ev:=⟨1,0,0,0,zcZ⟩
def eD0:Ev:=⟨3,0,0,0,zcZ⟩
def rr1:Rd:=⟨[[],[n35]],[pkN 1 0 n35],[]⟩
def rr2:Rd:=⟨[[n35],[n35]],[],[]⟩
theorem zco:zdu (zbr 2)=0:=(zfs (m:=2) (by decide)).chk (by decide)
theorem zu0:doF (zbr 2) (Yw e35)=(0,rr1):=by
 rw [UL zco,zqj rfl]
 have h:Q7 (Yw e35).note=true:=znA
 unfold KL
 rw [if_pos (by kernel_rfl),if_pos h]
 rfl
theorem zwa:doF (zbr 2) (Yw eT0)=(570,zeroR):=by
 rw [UL zco,zqj rfl]
 have h:Q7 (Yw eT0).note=false:=by kernel_rfl
 unfold KL
 rw [if_pos (by kernel_rfl),h]
 rfl
theorem zwE:doF (zbr 2) (Yw eD0)=(1,zeroR):=by
 rw [UL zco,zq7 rfl]
 have h:atE (zbr 2).qs (zbr 2).ks (Yw eD0).at_=1:=by kernel_rfl
 unfold zaL
 rw [h,if_pos (by decide)]
theorem zj8:Kn 2 rr1 [n35]:=by
 have h:=((zfs (m:=2) (by decide)).step (x:=e35) (by decide) (fun _ _=>Xp) zu0).1
 exact h
theorem zv0:doF rr1 (Yw eD0)=(0,rr2):=by
 have hn:=zj8.net (by decide)
 rw [UL (zj8.chk (by decide)),zq7 rfl]
 obtain ⟨h1,h2⟩:=zvH (qs:=rr1.qs) (ks:=rr1.ks) (i:=0) (x:=pkN 1 0 n35) (by rw [hn];rfl) (by kernel_rfl) rfl
 have e1:atE rr1.qs rr1.ks (Yw eD0).at_=0:=h1
 have e2:V7 rr1.qs rr1.ks (Yw eD0).at_=pkN 1 0 n35:=(zcz (qs:=rr1.qs)).trans h2
 have e3:okN (pkN 1 0 n35).data=some n35:=zcw Xp
 unfold zaL
 rw [e1,e2,if_neg (by decide),if_neg (by decide),e3]
 rfl
theorem zs0:Kn 2 rr2 [n35]:=(zj8.step (x:=eD0) (by decide) (fun h=>absurd h (by decide)) zv0).1
theorem zq4:zdu rr2=0:=zs0.chk (by decide)
/-! ### Notes that are the same but for their heads -/
theorem zfE {I:Qv}{x y:Nt}(hx:Nd I x.pt)(hy:Nd I y.pt):smN x y=true↔Yp x=Yp y:=by
 have l1:x.pt.needs.length=x.pt.n:=hx.len
 have l2:y.pt.needs.length=y.pt.n:=hy.len
 obtain ⟨k,lm,⟨i,kd,s,fd,nw,a,n,c,nd⟩,ls,rt⟩:=x
 obtain ⟨k',lm',⟨i',kd',s',fd',nw',a',n',c',nd'⟩,ls',rt'⟩:=y
 dsimp only at l1 l2
 subst l1;subst l2
 unfold smN smP smC Yp
 simp only [Bool.and_eq_true,beq_iff_eq,zlE,L.lsEq_iff,S.rtEq_iff,Bool.not_eq_true',Bool.or_eq_false_iff,bne_eq_false_iff_eq,decide_eq_true_eq,Bool.not_eq_false',zgm,Nt.mk.injEq,Pt.mk.injEq]
 constructor
 ·
  rintro ⟨⟨⟨⟨h1,h2⟩,⟨⟨⟨⟨⟨h3,h4⟩,h5⟩,h6⟩,h7⟩,_⟩,h9⟩,h10⟩,h11⟩
  subst h9
  exact ⟨h1,h2,⟨h3,h4,h5,h6,h7,trivial,rfl,trivial,rfl⟩,h10,h11⟩
 ·
  rintro ⟨h1,h2,⟨h3,h4,h5,h6,h7,_,_,_,h9⟩,h10,h11⟩
  subst h9
  exact ⟨⟨⟨⟨h1,h2⟩,⟨⟨⟨⟨⟨h3,h4⟩,h5⟩,h6⟩,h7⟩,rfl⟩,rfl⟩,h10⟩,h11⟩
theorem ze2 {I:Qv}:∀ {xs ys:List Nt},(∀ x∈xs,Nd I x.pt)→(∀ y∈ys,Nd I y.pt)→(smL xs ys=true↔xs.map Yp=ys.map Yp)
 | [],[],_,_=>by simp [smL]
 | [],_::_,_,_=>by simp [smL]
 | _::_,[],_,_=>by simp [smL]
 | x::xs,y::ys,hx,hy=>by
  rw [smL,Bool.and_eq_true,zfE (hx x (List.mem_cons_self ..)) (hy y (List.mem_cons_self ..)),ze2 (fun z hz=>hx z (List.mem_cons_of_mem _ hz)) (fun z hz=>hy z (List.mem_cons_of_mem _ hz))]
  simp
theorem znP {α:Type}{num:Nt→Int}{prt:Nt→α}{kind:Int}{chk:List α→Int}{d:α}(h1:∀ x,num (Yp x)=num x)(h2:∀ x,prt (Yp x)=prt x)(xs:List Nt):zdG num prt kind chk d (xs.map Yp)=zdG num prt kind chk d xs:=by
 have e:Yv num prt kind (xs.map Yp)=Yv num prt kind xs:=by
  unfold Yv
  rw [List.foldl_map]
  congr 1
  funext m x
  unfold zav
  rw [h1,h2];rfl
 unfold zdG
 rw [e]
theorem zo9 {xs:List Nt}(h:xs.map Yp=[n35]):wLs xs=[n35.ls]:=by
 have e:=znP (num:=fun x=>x.ls.no) (prt:=fun x=>x.ls) (kind:=3) (chk:=L.chk) (d:=L.zeroL) (fun _=>rfl) (fun _=>rfl) xs
 unfold wLs
 rw [←e,h]
 unfold zdG
 have e1:Yv (fun x=>x.ls.no) (fun x=>x.ls) 3 [n35]=[(3,n35.ls)]:=by kernel_rfl
 rw [e1]
 have e2:zbu (([(3,n35.ls)]:List (Int×L.Ls)).map (·.1))=[3]:=by simp [zbu]
 rw [e2]
 rfl
/-! ### A world of limits -/
def hL:List Nt:=[Yu 2 0,Yu 4 4,Yu 5 3]
theorem zkw {no of:Int}(h1:0≤no∧no≤100)(h2:0≤of∧of≤100):NtW (Yu no of):=by
 refine ⟨fun y hy=>?_,fun y hy=>by cases hy⟩
 simp only [VI,Yu,JM,L.zeroL,S.zeroR,KU,List.mem_cons,List.not_mem_nil,or_false] at hy
 omega
theorem ziF (I:Qv){x:Nt}(hx:x∈hL):NtM I x∧Q7 x=true:=by
 simp only [hL,List.mem_cons,List.not_mem_nil,or_false] at hx
 rcases hx with rfl | rfl | rfl
 ·
  have h:Q7 (Yu 2 0)=true:=by kernel_rfl
  exact ⟨zgO (zkw (by decide) (by decide)) Sl.nil h,h⟩
 ·
  have h:Q7 (Yu 4 4)=true:=by kernel_rfl
  exact ⟨zgO (zkw (by decide) (by decide)) Sl.nil h,h⟩
 ·
  have h:Q7 (Yu 5 3)=true:=by kernel_rfl
  exact ⟨zgO (zkw (by decide) (by decide)) Sl.nil h,h⟩
theorem zuF:wLm hL=[(Yu 2 0).lm,(Yu 5 3).lm]:=by
 unfold wLm zdG
 have e1:Yv (fun x=>x.lm.no) (fun x=>x.lm) 1 hL=[(2,(Yu 2 0).lm),(4,(Yu 4 4).lm),(5,(Yu 5 3).lm)]:=by kernel_rfl
 rw [e1]
 have e2:zbu (([(2,(Yu 2 0).lm),(4,(Yu 4 4).lm),(5,(Yu 5 3).lm)]:List (Int×Lm)).map (·.1))=[2,4,5]:=by
  unfold zbu
  exact List.mergeSort_of_pairwise (by simp)
 rw [e2]
 rfl
end
section
open Go Go.Kn Go.Proofs
theorem zbX (x y:Nt):YN x y=Lib.compareBytes ((JR x).map UInt8.ofNat) ((JR y).map UInt8.ofNat):=by
 unfold YN zuZ XA UC
 simp
def hB (a b:Nat):List Nat:=[3,45,1,2,1,a,1,2,1,b,1,0,1,18,1,0,1,8,1,0,1,0]++(List.replicate 32 [1,0]).flatten++[3,0,2,0,2,0]
theorem XI (no of:Nat)(h1:no<64)(h2:of<64):JR (Yu no of)=hB (2*no) (2*of):=by
 have e1:zz (no:Int)=2*no:=by unfold zz;rw [if_pos (by omega)];omega
 have e2:zz (of:Int)=2*of:=by unfold zz;rw [if_pos (by omega)];omega
 have z0:zz 0=0:=by decide
 have z1:zz 1=2:=by decide
 have z4:zz 4=8:=by decide
 have z9:zz 9=18:=by decide
 have n0:Jr 0=[0]:=Vi (by decide)
 have n2:Jr 2=[2]:=Vi (by decide)
 have n8:Jr 8=[8]:=Vi (by decide)
 have n18:Jr 18=[18]:=Vi (by decide)
 have n45:Jr 45=[45]:=Vi (by decide)
 have na:Jr (2*no)=[2*no]:=Vi (by omega)
 have nb:Jr (2*of)=[2*of]:=Vi (by omega)
 have hbt:Kz (⟨#[]⟩:ByteArray)=[]:=rfl
 unfold JR JT
 simp only [VI,Yu,JM,KU,L.zeroL,S.zeroR,hbt,List.map_cons,List.map_nil,List.cons_append,List.nil_append,Va.enc,Va.encL,List.length_cons,List.length_nil,Nat.zero_add,Nat.reduceAdd,e1,e2,z0,z1,z4,z9,n0,n2,n8,n18,n45,na,nb,List.append_nil]
 rfl
theorem zoI:YN (Yu 2 0) (Yu 4 4)<0:=by
 rw [zbX,show Yu 2 0=Yu ((2:Nat):Int) ((0:Nat):Int) from rfl,show Yu 4 4=Yu ((4:Nat):Int) ((4:Nat):Int) from rfl,XI 2 0 (by decide) (by decide),XI 4 4 (by decide) (by decide)]
 decide
theorem zoX:YN (Yu 4 4) (Yu 5 3)<0:=by
 rw [zbX,show Yu 4 4=Yu ((4:Nat):Int) ((4:Nat):Int) from rfl,show Yu 5 3=Yu ((5:Nat):Int) ((3:Nat):Int) from rfl,XI 4 4 (by decide) (by decide),XI 5 3 (by decide) (by decide)]
 decide
theorem X5 {x:Nt}{xs:List Nt}(h:zbU xs)(hx:∀ y∈xs,YN x y<0):zbU (x::xs):=by
 intro k l u v hkl hu hv
 cases l with
 | zero=>omega
 | succ l=>
  cases k with
  | zero=>
   simp only [List.getElem?_cons_zero,Option.some.injEq] at hu
   subst hu
   exact hx v (List.mem_of_getElem? (by simpa using hv))
  | succ k=>exact h k l u v (by omega) (by simpa using hu) (by simpa using hv)
theorem zig:zbU []:=fun k l x y _ hx=>by simp at hx
theorem zmm:Z9 hL=true:=by
 have h3:zbU hL:=X5 (X5 (X5 zig (fun y hy=>by cases hy)) (fun y hy=>by rw [List.mem_singleton.1 hy];exact zoX)) fun y hy=>by
  simp only [List.mem_cons,List.not_mem_nil,or_false] at hy
  rcases hy with rfl | rfl
  ·
   exact zoI
  ·
   exact Vv zoI zoX
 exact WD h3 (fun x hx=>(ziF (fun _=>none) hx).2) (by decide)
theorem zeC {xs:List Nt}{y:Nt}(h:xs.map Yp=[y]):∃ x,xs=[x]∧Yp x=y:=by
 cases xs with
 | nil=>cases h
 | cons x l=>
  cases l with
  | nil=>exact ⟨x,rfl,List.head_eq_of_cons_eq h⟩
  | cons z l=>
   have:=congrArg List.length h
   simp at this
theorem zdw {xs:List Nt}(h:xs.map Yp=[n35]){I:Qv}(hN:∀ x∈xs,Nd I x.pt):Z9 xs=true:=by
 obtain ⟨x,rfl,e⟩:=zeC h
 have hn:Sl I 1 Yg x.pt.a x.pt.n x.pt.c x.pt.needs:=hN x (List.mem_singleton.2 rfl)
 have hf:Q7 x=true:=by rw [←V9 hn.len.symm,e];exact znA
 exact WD (X5 zig fun y hy=>by cases hy) (fun y hy=>by rw [List.mem_singleton.1 hy];exact hf) (by simp)
theorem zpf:okN []=none:=by kernel_rfl
theorem zr3 {I:Qv}{rs:List Hy}{a:Option Addr}{m c:Nat}{zs:List Nt}(h:LdZ I rs a m c zs)(hr:rs≠[])(hb:∀ r∈rs,r.bytes=JR n35):zs.map Yp=[n35]:=by
 have hz:∀ x∈zs,Yp x=n35:=fun x hx=>by
  obtain ⟨_,r,hr2,e⟩:=h.frm x hx
  rw [hb r hr2,zcw Xp] at e
  exact (Option.some.inj e).symm
 match zs,h,hz with
 | [],h,_=>
  obtain ⟨r,l,rfl⟩:=List.exists_cons_of_ne_nil hr
  obtain ⟨x,hx,_⟩:=h.mem r (List.mem_cons_self ..)
  cases hx
 | [x],_,hz=>rw [List.map_singleton,hz x (List.mem_singleton.2 rfl)]
 | x::y::l,h,hz=>
  have h1:=h.srt 0 1 x y (by decide) rfl rfl
  have e1:=hz x (List.mem_cons_self ..)
  have e2:=hz y (by simp)
  rw [←zcx,e1,e2,JK] at h1
  omega
def zwd (n:Int)(v:Value)(I':Qv)(L':Go.Kn.Loc):Prop:=L'=[]∧∃ vr,v= .tuple #[vr,.int .i64 (if (decide (n<1)||decide (n>24))=true then 1 else 0)]∧RmV I' vr (if (decide (n<1)||decide (n>24))=true then zeroR else zbr n.toNat)
theorem zpX {I:Qv}{b m t:Nat}(hm:m≤maxLen)(hb:I b=some (.cells (List.replicate m (Value.slice none 0 0)).toArray t (0,0))):RmV I (.agg #[.slice (some ⟨b,0,none⟩) m m,.slice none 0 0,.slice none 0 0]) (zbr m):=by
 refine ⟨_,_,_,_,_,_,_,_,_,List.replicate m ⟨none,0,0,[]⟩,[],rfl,⟨⟨by simp,Nat.le_refl _,fun _=>rfl,fun k x hx j u hu=>?_⟩,fun x hx=>?_,.nil,fun _ h=>(by cases h),.nil⟩,?_⟩
 ·
  have hj:j=0:=by have:=(List.getElem?_eq_some_iff.1 hu).1;simp [Wc] at this;omega
  subst hj
  have hk:=(List.getElem?_eq_some_iff.1 hx).1
  rw [List.length_replicate] at hk
  have ex:x=⟨none,0,0,[]⟩:=List.eq_of_mem_replicate (List.mem_of_getElem? hx)
  subst ex
  have hu:u= .slice none 0 0:=by simpa [Wc] using hu.symm
  subst hu
  refine QG.imm hb ?_
  show zhH _ (0+k*1+0)=_
  rw [Nat.zero_add,Nat.mul_one,Nat.add_zero,Jb]
  simp [hk]
 ·
  rw [List.eq_of_mem_replicate hx]
  exact ⟨.nil,fun _ h=>(by cases h),fun _ h=>(by cases h)⟩
 ·
  simp [Vn,zbr,dtP]
theorem zrd {I:Qv}{pa qa aa:Option Addr}{pn pc qn qc an ac:Nat}{ps:List Pe}{qs:List Pk}{ks:List (Int×Int)}{r:Rd}(_hR:RmP I pa pn pc qa qn qc aa an ac ps qs ks)(e:Vn ps qs ks=r){i:Nat}{xs:List Nt}(hi:r.ps[i]? =some xs):∃ pe,ps[i]? =some pe∧pe.notes.map Yp=xs:=by
 subst e
 simp only [Vn,dtP,List.getElem?_map] at hi
 cases h:ps[i]? with
 | none=>rw [h] at hi;cases hi
 | some pe=>rw [h] at hi;exact ⟨pe,rfl,Option.some.inj hi⟩
theorem Yx {I:Qv}{pa qa aa:Option Addr}{pn pc qn qc an ac:Nat}{ps:List Pe}{qs:List Pk}{ks:List (Int×Int)}{r:Rd}(hR:RmP I pa pn pc qa qn qc aa an ac ps qs ks)(e:Vn ps qs ks=r):pn=r.ps.length∧qn=r.qs.length∧ks=r.ks:=by
 subst e
 exact ⟨by rw [←hR.pe.len];exact (zcj ps).symm,by rw [←hR.q.len];simp [Vn],rfl⟩
theorem zvr {I:Qv}{pa qa aa:Option Addr}{pn pc qn qc an ac:Nat}{ps:List Pe}{qs:List Pk}{ks:List (Int×Int)}{r:Rd}(_hR:RmP I pa pn pc qa qn qc aa an ac ps qs ks)(e:Vn ps qs ks=r){i:Nat}{p:Pk}(hi:r.qs[i]? =some p):∃ q,qs[i]? =some q∧Vg q=p:=by
 subst e
 simp only [Vn,List.getElem?_map] at hi
 cases h:qs[i]? with
 | none=>rw [h] at hi;cases hi
 | some q=>rw [h] at hi;exact ⟨q,rfl,Option.some.inj hi⟩
structure SmR (r:Rd):Prop where
 p:r.ps.length≤24
 nn:∀ xs∈r.ps,xs.length≤1000
 q:r.qs.length≤3000
 dl:∀ p∈r.qs,p.data.length≤2000
 k:r.ks.length≤100
theorem SmR.use {I:Qv}{pa qa aa:Option Addr}{pn pc qn qc an ac:Nat}{ps:List Pe}{qs:List Pk}{ks:List (Int×Int)}(hR:RmP I pa pn pc qa qn qc aa an ac ps qs ks)(h:SmR (Vn ps qs ks)):pn≤100000∧qn≤100000∧an≤100000∧(∀ x∈ps,x.n≤100000)∧(∀ q∈qs,q.n≤100000)∧(qn+24≤4096∧∀ pe∈ps,qn+pe.n≤4096):=by
 obtain ⟨h1,h2,_⟩:=Yx hR rfl
 have hp:=h.p;have hq:=h.q;have hk:=h.k
 have hkl:=hR.k.len
 have hn:∀ x∈ps,x.n≤1000:=fun x hx=>by
  have h3:=h.nn (x.notes.map Yp) (List.mem_map.2 ⟨x,hx,rfl⟩)
  have:=(hR.nt x hx).sl.len
  rw [List.length_map] at h3;omega
 refine ⟨by omega,by omega,?_,fun x hx=>by have:=hn x hx;omega,fun q hq2=>?_,by omega,fun pe hpe=>by have:=hn pe hpe;omega⟩
 ·
  have:(Vn ps qs ks).ks.length=ks.length:=rfl
  omega
 ·
  have h3:=h.dl (Vg q) (List.mem_map.2 ⟨q,hq2,rfl⟩)
  have:=(hR.pk q hq2).sl.len
  have e:(Vg q).data=q.data:=rfl
  rw [e] at h3;omega
theorem zaK {m:Nat}(hm:m≤24):SmR (zbr m):=⟨by simp [zbr];exact hm,fun xs hx=>(by rw [List.eq_of_mem_replicate hx];exact Nat.zero_le _),by simp [zbr],fun p hp=>(by cases hp),by simp [zbr]⟩
theorem ztc:SmR rr1:=⟨by decide,fun xs hx=>by
  simp only [rr1,List.mem_cons,List.not_mem_nil,or_false] at hx
  rcases hx with rfl | rfl<;>simp,by decide,fun p hp=>(by
  rw [List.mem_singleton.1 (show p∈[pkN 1 0 n35] from hp)];exact Xp.2.2),by decide⟩
theorem zua:SmR rr2:=⟨by decide,fun xs hx=>by
  simp only [rr2,List.mem_cons,List.not_mem_nil,or_false] at hx
  rcases hx with rfl | rfl<;>simp,by decide,fun p hp=>(by cases hp),by decide⟩
theorem zrp:SmR zeroR:=⟨by decide,fun xs hx=>(by cases hx),by decide,fun p hp=>(by cases hp),by decide⟩
theorem zlB {xs:List Nt}{v:Value}{I':Qv}{L':Go.Kn.Loc}(h:zvY xs v I' L')(hv:Z9 xs=true):L'=[]∧∃ a1 n1 c1 a2 n2 c2 a3 n3 c3 a4 n4 c4,v= .tuple #[.slice a1 n1 c1,.slice a2 n2 c2,.slice a3 n3 c3,.slice a4 n4 c4,.int .i64 0]∧Sl I' 9 ZL a1 n1 c1 (wLm xs)∧Sl I' 5 L.encL a2 n2 c2 (wLs xs)∧SlP I' a3 n3 c3 (wPt xs)∧Sl I' 11 S.encR a4 n4 c4 (wRt xs):=by
 rcases h.2 with ⟨_,h2⟩ | ⟨h1,_⟩
 ·
  exact ⟨h.1,h2⟩
 ·
  rw [hv] at h1;cases h1
theorem zp5 {xs:List Nt}{v:Value}{I':Qv}{L':Go.Kn.Loc}(h:zvU xs v I' L')(hv:Z9 xs=true):L'=[]∧∃ a n c rs,v= .tuple #[.slice a n c,.int .i64 0]∧zp6 I' a n c rs∧rs.map (·.bytes)=xs.map JR:=by
 rcases h.2 with ⟨_,h2⟩ | ⟨h1,_⟩
 ·
  exact ⟨h.1,h2⟩
 ·
  rw [hv] at h1;cases h1
theorem zte {rs:List Hy}{v:Value}{I':Qv}{L':Go.Kn.Loc}(h:LdQ rs v I' L')(hl:rs.length≤4096)(hn:∀ r∈rs,okN r.bytes≠none):L'=[]∧∃ a m c zs,v= .tuple #[.agg #[.slice a m c],.int .i64 0]∧LdZ I' rs a m c zs:=by
 rcases h.2 with ⟨h1,_⟩ | ⟨_,⟨r,h1,h2⟩,_⟩ | ⟨_,h2⟩
 ·
  omega
 ·
  exact absurd h2 (hn r h1)
 ·
  exact ⟨h.1,h2⟩
theorem zvv {rs:List Hy}{v:Value}{I':Qv}{L':Go.Kn.Loc}(h:LdQ rs v I' L')(hl:rs.length≤4096)(hn:∃ r∈rs,okN r.bytes=none):L'=[]∧v= .tuple #[.agg #[.slice none 0 0],.int .i64 570]:=by
 rcases h.2 with ⟨h1,_⟩ | ⟨_,_,h2⟩ | ⟨_,a,m,c,zs,_,h2⟩
 ·
  omega
 ·
  exact ⟨h.1,h2⟩
 ·
  obtain ⟨r,hr,e⟩:=hn
  obtain ⟨x,_,e2⟩:=h2.mem r hr
  rw [e] at e2;cases e2
theorem zbJ (s:ByteArray):Xb s s=true:=zde.2 rfl
theorem zmv {I:Qv}:RmP I none 0 0 none 0 0 none 0 0 [] [] []:=⟨.nil,fun _ h=>(by cases h),.nil,fun _ h=>(by cases h),.nil⟩
theorem zmt:zdu zeroR=570:=by kernel_rfl
theorem ztx {I:Qv}{a:Option Addr}{n c:Nat}{xs:List Nt}(h:UB I a n c xs)(e:xs.map Yp=[]):n=0:=by
 have:=h.sl.len
 have h2:=congrArg List.length e
 rw [List.length_map] at h2
 rw [←this,h2];rfl
theorem zrC {I:Qv}{xs:List Nt}(hN:∀ x∈xs,Nd I x.pt)(e:xs.map Yp=[n35]):smL xs [n35]=true:=
 (ze2 hN (fun y hy=>by rw [List.mem_singleton.1 hy];exact Sl.nil)).2 e
theorem zjG {I:Qv}{xs:List Nt}(hN:∀ x∈xs,Nd I x.pt)(e:xs.map Yp=[n35]):∀ x∈xs,x.pt.n≤100000:=fun x hx=>by
 obtain ⟨y,rfl,e2⟩:=zeC e
 rw [List.mem_singleton.1 hx]
 have h:Sl I 1 Yg y.pt.a y.pt.n y.pt.c y.pt.needs:=hN y (List.mem_singleton.2 rfl)
 have h3:y.pt.needs.length=(Yp y).pt.n:=rfl
 rw [e2] at h3
 have:=h.len
 have:(n35.pt.n:Nat)=0:=rfl
 omega
theorem zrv {I:Qv}{a:Option Addr}{n c:Nat}{rs:List Hy}{xs:List Nt}(h:zp6 I a n c rs)(hb:rs.map (·.bytes)=xs.map JR)(hx:xs.map Yp=[n35]):rs.length=1∧(∀ r∈rs,r.bytes=JR n35)∧∀ r∈rs,r.n≤100000:=by
 obtain ⟨x,rfl,e⟩:=zeC hx
 have em:JR x=JR n35:=by rw [←e];rfl
 have hl:=congrArg List.length hb
 rw [List.length_map,List.length_map] at hl
 have hr:∀ r∈rs,r.bytes=JR n35:=fun r hr=>by
  have h1:r.bytes∈rs.map (·.bytes):=List.mem_map.2 ⟨r,hr,rfl⟩
  rw [hb,List.map_singleton,List.mem_singleton,em] at h1;exact h1
 refine ⟨hl,hr,fun r h2=>?_⟩
 have h3:=(h.m r h2).sl.len
 rw [hr r h2] at h3
 have:=Xp.2.2
 omega
end
section
open Go Go.Kn Go.Proofs
theorem zoo:PlT Tryz.prog 45 #[(0,1),(1,9),(10,19),(29,5),(34,11)] (.agg #[(.int .i64 0),(.int .i64 0),(.int .i64 0),(.int .i64 0),(.int .i64 0),(.int .i64 0),(.int .i64 0),(.int .i64 0),(.int .i64 0),(.int .i64 0),(.int .i64 0),(.int .i64 0),(.int .i64 0),(.int .i64 0),(.int .i64 0),(.int .i64 0),(.int .i64 0),(.int .i64 0),(.int .i64 0),(.int .i64 0),(.int .i64 0),(.int .i64 0),(.int .i64 0),(.int .i64 0),(.int .i64 0),(.int .i64 0),(.int .i64 0),(.int .i64 0),(.slice none 0 0),(.int .i64 0),(.int .i64 0),(.int .i64 0),(.int .i64 0),(.int .i64 0),(.int .i64 0),(.int .i64 0),(.int .i64 0),(.int .i64 0),(.int .i64 0),(.int .i64 0),(.string ⟨#[]⟩),(.string ⟨#[]⟩),(.int .i64 0),(.int .i64 0),(.int .i64 0)]):=⟨.of (by kernel_rfl),by kernel_rfl,fun w=>by kernel_rfl⟩
theorem zdn (I:Qv)(no ver:Int):Yb Tryz.prog 42 [.int .i64 no,.int .i64 ver] I (JL (zoF no ver)):=by
 intro g H w hw
 refine qe Tryz.func42 Tryz.ntmps42 hw ?_
 refine zR ?_
 refine Qs Wm rfl rfl (fun b_4=>?_)
 refine zN (zR ?_)
 refine zM ?_
 refine zM ?_
 refine zV (Q0 (ps:=[(0,_),(1,_),(2,_),(3,_),(4,_)]) [_,_,_,_,_] znT rfl rfl) ?_
 refine zV (Q0 (ps:=[(0,_),(3,_)]) [_,_,_,_,_,_,_,_,_,_,_,_,_,_,_,_,_,_,_,_,_,_,_,_,_,_,_,_,_,_,_,_,_,_,_,_,_,_,_,_,_,_,_,_,_] zoo rfl rfl) ?_
 refine zh VY ?_
 refine zN (QF ?_)
 exact Y6 rfl rfl Zr zwO rfl (fun w hw=>⟨by rfl,hw.drop⟩)
theorem zbF (I:Qv)(no of:Int):Yb Tryz.prog 44 [.int .i64 no,.int .i64 of] I (JL (Yu no of)):=by
 intro g H w hw
 refine qe Tryz.func44 Tryz.ntmps44 hw ?_
 refine zR ?_
 refine Qs Wm rfl rfl (fun b_4=>?_)
 refine zN (zR ?_)
 refine zM ?_
 refine zM ?_
 refine zV (Q0 (ps:=[(0,_)]) [_,_,_] zlt rfl rfl) ?_
 refine zV (Q0 (ps:=[(0,_),(1,_),(2,_),(4,_),(6,_)]) [_,_,_,_,_,_,_,_,_] zkN rfl rfl) ?_
 refine zV (Q0 (ps:=[(0,_),(1,_)]) [_,_,_,_,_,_,_,_,_,_,_,_,_,_,_,_,_,_,_,_,_,_,_,_,_,_,_,_,_,_,_,_,_,_,_,_,_,_,_,_,_,_,_,_,_] zoo rfl rfl) ?_
 refine zh VY ?_
 refine zN (QF ?_)
 exact Y6 rfl rfl Zr zwO rfl (fun w hw=>⟨by rfl,hw.drop⟩)
theorem zla (I:Qv)(n:Int):Vl Tryz.prog 14 [.int .i64 n] I [] (zwd n):=by
 have h:=zvd I n
 by_cases hb:(decide (n<1)||decide (n>24))=true
 ·
  intro g H w hw
  refine (h g H w hw).mono ?_
  rintro e w' ⟨v,I',L',h1,h2,h3,rfl,⟨_,rfl,rfl⟩ | ⟨h4,_⟩⟩
  ·
   exact ⟨_,_,_,h1,h2,h3,rfl,_,by rw [if_pos hb],by rw [if_pos hb];exact zg5⟩
  rw [hb] at h4;cases h4
 have hb2:(decide (n<1)||decide (n>24))=false:=by simpa using hb
 refine KF.m (Bad:=fun _=>False) (KF.frz (h.p (Bad:=fun _=>False)) fun v I' L' hI hq=>?_) (fun v hv=>hv)
 obtain ⟨rfl,⟨h4,_⟩ | ⟨_,b,rfl,rfl⟩⟩:=hq
 ·
  rw [hb2] at h4;cases h4
 refine ⟨[],b,_,.here,fun I2 h2 hb3=>⟨rfl,_,by rw [if_neg hb],?_⟩⟩
 rw [if_neg hb]
 have hn:1≤n∧n≤24:=by simpa using hb2
 exact zpX (Nat.le_trans (show n.toNat≤24 by omega) (by decide)) hb3
theorem zaI {I:Qv}{pa qa aa:Option Addr}{pn pc qn qc an ac:Nat}{ps:List Pe}{qs:List Pk}{ks:List (Int×Int)}(hR:RmP I pa pn pc qa qn qc aa an ac ps qs ks){r:Rd}(he:Vn ps qs ks=r)(hs:SmR r)(x:Ev)(hE:EvM I x){R:Int×Rd}(e:doF r (Yw x)=R):Vl Tryz.prog 12 [.agg #[.slice pa pn pc,.slice qa qn qc,.slice aa an ac],.agg (zaB x).toArray] I [] (DoQ R):=by
 subst he;subst e
 obtain ⟨h1,h2,h3,h4,h5,h6⟩:=SmR.use hR hs
 exact zwf hR h1 h2 h3 h4 h5 (fun _=>h6) x hE
theorem zgT {I:Qv}{pa qa aa:Option Addr}{pn pc qn qc an ac:Nat}{ps:List Pe}{qs:List Pk}{ks:List (Int×Int)}(hR:RmP I pa pn pc qa qn qc aa an ac ps qs ks){r:Rd}(he:Vn ps qs ks=r)(hs:SmR r){e:Int}(hc:zdu r=e):Vl Tryz.prog 16 [.agg #[.slice pa pn pc,.slice qa qn qc,.slice aa an ac]] I [] (fun v I' L'=>L'=[]∧v= .int .i64 e):=by
 subst he;subst hc
 obtain ⟨h1,h2,h3,h4,h5,_⟩:=SmR.use hR hs
 exact ziu hR h1 h2 h3 h4 h5
end
section
open Go Go.Kn Go.Proofs
theorem zmC:zgV Tryz.prog 45 3 29 5:=.of (by kernel_rfl)
theorem K2:Fun Tryz.prog 12:=.of Tryz.func12 (by kernel_rfl) (by kernel_rfl)
theorem ziQ:Fun Tryz.prog 14:=.of Tryz.func14 (by kernel_rfl) (by kernel_rfl)
theorem zoU:Fun Tryz.prog 20:=.of Tryz.func20 (by kernel_rfl) (by kernel_rfl)
theorem zuM:Fun Tryz.prog 22:=.of Tryz.func22 (by kernel_rfl) (by kernel_rfl)
theorem zod:Fun Tryz.prog 24:=.of Tryz.func24 (by kernel_rfl) (by kernel_rfl)
theorem zfQ:Fun Tryz.prog 31:=.of Tryz.func31 (by kernel_rfl) (by kernel_rfl)
theorem zeu:Fun Tryz.prog 42:=.of Tryz.func42 (by kernel_rfl) (by kernel_rfl)
theorem Xh:Fun Tryz.prog 43:=.of Tryz.func43 (by kernel_rfl) (by kernel_rfl)
theorem zke:Fun Tryz.prog 44:=.of Tryz.func44 (by kernel_rfl) (by kernel_rfl)
theorem zaA:PlT Tryz.prog 47 #[(0,1),(1,1),(2,1),(3,1),(4,45)] (.agg #[(.int .i64 0),(.int .i64 0),(.int .i64 0),(.int .i64 0),(.int .i64 0),(.int .i64 0),(.int .i64 0),(.int .i64 0),(.int .i64 0),(.int .i64 0),(.int .i64 0),(.int .i64 0),(.int .i64 0),(.int .i64 0),(.int .i64 0),(.int .i64 0),(.int .i64 0),(.int .i64 0),(.int .i64 0),(.int .i64 0),(.int .i64 0),(.int .i64 0),(.int .i64 0),(.int .i64 0),(.int .i64 0),(.int .i64 0),(.int .i64 0),(.int .i64 0),(.int .i64 0),(.int .i64 0),(.int .i64 0),(.int .i64 0),(.slice none 0 0),(.int .i64 0),(.int .i64 0),(.int .i64 0),(.int .i64 0),(.int .i64 0),(.int .i64 0),(.int .i64 0),(.int .i64 0),(.int .i64 0),(.int .i64 0),(.int .i64 0),(.string ⟨#[]⟩),(.string ⟨#[]⟩),(.int .i64 0),(.int .i64 0),(.int .i64 0)]):=⟨.of (by kernel_rfl),by kernel_rfl,fun w=>by kernel_rfl⟩
theorem zuf:PlT Tryz.prog 59 #[(0,1)] (.agg #[(.slice none 0 0)]):=⟨.of (by kernel_rfl),by kernel_rfl,fun w=>by kernel_rfl⟩
theorem zqn {I:Qv}{av:Option Addr}{n c:Nat}{bv:Option Addr}{n2 c2:Nat}{xs:List Nt}(hS:UB I av n c xs)(hT:Sl I 45 Zn bv n2 c2 [n35])(hd:xs.map Yp=[n35])(hn:n≤100000):Yb Tryz.prog 31 [.slice av n c,.slice bv n2 c2] I (.bool true):=by
 have h:=zr7 hS.sl hT hS.nd (fun y hy=>by rw [List.mem_singleton.1 hy];exact Sl.nil) (zjG hS.nd hd) hn
 rw [zrC hS.nd hd] at h;exact h
set_option maxRecDepth 100000 in
set_option maxHeartbeats 4000000 in
theorem zsj (I:Qv):Yb Tryz.prog 10 [] I (.bool true):=by
 intro g H w hw
 refine qe Tryz.func10 Tryz.ntmps10 hw ?_
 have hIc:=zwQ I
 refine zR (zA ?_)
 refine zN (zR ?_)
 refine QC (cap:=[]) (vs:=[_]) rfl rfl ziQ .nil (zla _ 2) rfl rfl ?_
 rintro vv1 I1 L1 hI1 ⟨rfl,vr1,rfl,hV1⟩
 have hIc:=hIc.trans hI1
 obtain ⟨pa1,pn1,pc1,qa1,qn1,qc1,aa1,an1,ac1,ps1,qs1,rfl,hR1,he1⟩:=(show RmV _ vr1 (zbr 2) from hV1)
 obtain rfl:pn1=2:=(Yx hR1 he1).1
 obtain rfl:qn1=0:=(Yx hR1 he1).2.1
 refine zM ?_
 refine zE ?_
 refine zE ?_
 refine Qs Kw rfl rfl (fun b_1=>?_)
 refine zh YS ?_
 refine zA (Qb ?_)
 refine QN .here (fun I2 hI2 hb2=>?_)
 have hR1:=hR1.mono hI2;have hIc:=hIc.trans hI2
 have h1:=BxI.of hb2
 refine Qc (zR ?_)
 refine QC (cap:=[]) (vs:=[_]) rfl rfl ziQ .nil (zla _ 0) rfl rfl ?_
 rintro vv3 I3 L3 hI3 ⟨rfl,vr3,rfl,hV3⟩
 have hR1:=hR1.mono hI3;have h1:=h1.mono hI3;have hIc:=hIc.trans hI3
 obtain ⟨pa3,pn3,pc3,qa3,qn3,qc3,aa3,an3,ac3,ps3,qs3,rfl,hR3,he3⟩:=(show RmV _ vr3 (zeroR) from hV3)
 refine zM ?_
 refine zE ?_
 refine zE ?_
 refine Qs Kw rfl rfl (fun b_3=>?_)
 refine zh YS ?_
 refine zA (Qb ?_)
 refine QN .here (fun I4 hI4 hb4=>?_)
 have hR1:=hR1.mono hI4;have h1:=h1.mono hI4;have hIc:=hIc.trans hI4
 have h3:=BxI.of hb4
 refine Qc ?_
 refine zY [(1,_),(2,_),(4,_)] (fun T L0 E I' loc'=>∃ (b5:Nat) (pa5:Option Addr) (pn5:Nat) (pc5:Nat) (qa5:Option Addr) (qn5:Nat) (qc5:Nat) (aa5:Option Addr) (an5:Nat) (ac5:Nat) (ps5:List Pe) (qs5:List Pk),E=(5,ZM b5)::(6,.int .i64 0)::T∧HLe I4 I'∧[]=loc'∧BxI I' b5 (.cells #[.slice pa5 pn5 pc5,.slice qa5 qn5 qc5,.slice aa5 an5 ac5] 28 (0,0))∧RmP I' pa5 pn5 pc5 qa5 qn5 qc5 aa5 an5 ac5 ps5 qs5 []∧Vn ps5 qs5 []=rr1) ?_ ?_
 ·
  have hKc3:=zwQ I4
  have hD:=zwQ I4
  refine ZK ?_
  refine QZ I4 [] mixed ?_
  refine zT 0 rfl (Qg rfl YA (fun hg=>by exact BxI.cells (vs:=[_,_,_]) h1) rfl) hD ?_
  refine Q8 1 7 rfl rfl (by kernel_rfl) ?_ ?_
  ·
   refine qcV (vs:=[_,_]) rfl zeu (zdn _ 3 5) ?_
   refine Qb ?_
   refine zD hD ?_
   refine zT 2 rfl (Q0 (ps:=[(0,_),(1,_),(4,_)]) [_,_,_,_,_,_,_,_,_,_,_,_,_,_,_,_,_,_,_,_,_,_,_,_,_,_,_,_,_,_,_,_,_,_,_,_,_,_,_,_,_,_,_,_,_,_,_,_,_] zaA rfl rfl) hD ?_
   refine Q8 3 7 rfl rfl (by kernel_rfl) ?_ ?_
   ·
    refine QC (cap:=[]) (vs:=[_,_]) rfl rfl K2 .nil (zaI hR1 he1 (zaK (by decide)) e35 ⟨zg4 _,zmR⟩ zu0) rfl rfl ?_
    rintro vv5 I5 L5 hI5 ⟨rfl,vr5,rfl,hV5⟩
    have hKc3:=hKc3.trans hI5;have hD:=hD.trans hI5
    obtain ⟨pa5,pn5,pc5,qa5,qn5,qc5,aa5,an5,ac5,ps5,qs5,rfl,hR5,he5⟩:=(show RmV _ vr5 (rr1) from hV5)
    refine Qb ?_
    refine zD hD ?_
    refine zT 4 rfl (Qh rfl) hD ?_
    refine zT 5 rfl (Q4 rfl rfl) hD ?_
    refine zT 6 rfl (Q4 rfl rfl) hD ?_
    refine qd 7 rfl ?_
    refine Qs Kw rfl rfl (fun b_5=>?_)
    refine Qb ?_
    refine zD hD ?_
    refine qd 8 rfl ?_
    refine zh YS ?_
    refine Q9 (b:=b_5) (by repeat (first | exact Ya.here | apply Ya.there)) (fun I6 hI6 hb6=>?_)
    have hR5:=hR5.mono hI6;have hKc3:=hKc3.trans hI6;have hD:=hD.trans hI6
    have h5:=BxI.of hb6
    refine Qb ?_
    refine zD hD ?_
    refine zT 9 rfl (QB rfl) hD ?_
    refine Qm (by kernel_rfl) ?_
    refine QA ?_
    exact zm (h:=⟨_,_,_,_,_,_,_,_,_,_,_,_,rfl,hKc3,rfl,h5,hR5,he5⟩)
   refine Qs Kw rfl rfl (fun b_5=>?_)
   refine Qb ?_
   refine zD hD ?_
   refine qd 3 rfl ?_
   refine QC (cap:=[]) (vs:=[_,_]) rfl rfl K2 .nil (zaI hR1 he1 (zaK (by decide)) e35 ⟨zg4 _,zmR⟩ zu0) rfl rfl ?_
   rintro vv7 I7 L7 hI7 ⟨rfl,vr5,rfl,hV5⟩
   have hKc3:=hKc3.trans hI7;have hD:=hD.trans hI7
   obtain ⟨pa5,pn5,pc5,qa5,qn5,qc5,aa5,an5,ac5,ps5,qs5,rfl,hR5,he5⟩:=(show RmV _ vr5 (rr1) from hV5)
   refine Qb ?_
   refine zD hD ?_
   refine zT 4 rfl (Qh rfl) hD ?_
   refine zT 5 rfl (Q4 rfl rfl) hD ?_
   refine zT 6 rfl (Q4 rfl rfl) hD ?_
   refine qd 8 rfl ?_
   refine zh YS ?_
   refine Q9 (b:=b_5) (by repeat (first | exact Ya.here | apply Ya.there)) (fun I8 hI8 hb8=>?_)
   have hR5:=hR5.mono hI8;have hKc3:=hKc3.trans hI8;have hD:=hD.trans hI8
   have h5:=BxI.of hb8
   refine Qb ?_
   refine zD hD ?_
   refine zT 9 rfl (QB rfl) hD ?_
   refine Qm (by kernel_rfl) ?_
   refine QA ?_
   exact zm (h:=⟨_,_,_,_,_,_,_,_,_,_,_,_,rfl,hKc3,rfl,h5,hR5,he5⟩)
  refine Qs Kw rfl rfl (fun b_5=>?_)
  refine Qb ?_
  refine zD hD ?_
  refine qd 1 rfl ?_
  refine qcV (vs:=[_,_]) rfl zeu (zdn _ 3 5) ?_
  refine Qb ?_
  refine zD hD ?_
  refine zT 2 rfl (Q0 (ps:=[(0,_),(1,_),(4,_)]) [_,_,_,_,_,_,_,_,_,_,_,_,_,_,_,_,_,_,_,_,_,_,_,_,_,_,_,_,_,_,_,_,_,_,_,_,_,_,_,_,_,_,_,_,_,_,_,_,_] zaA rfl rfl) hD ?_
  refine qd 3 rfl ?_
  refine QC (cap:=[]) (vs:=[_,_]) rfl rfl K2 .nil (zaI hR1 he1 (zaK (by decide)) e35 ⟨zg4 _,zmR⟩ zu0) rfl rfl ?_
  rintro vv9 I9 L9 hI9 ⟨rfl,vr5,rfl,hV5⟩
  have hKc3:=hKc3.trans hI9;have hD:=hD.trans hI9
  obtain ⟨pa5,pn5,pc5,qa5,qn5,qc5,aa5,an5,ac5,ps5,qs5,rfl,hR5,he5⟩:=(show RmV _ vr5 (rr1) from hV5)
  refine Qb ?_
  refine zD hD ?_
  refine zT 4 rfl (Qh rfl) hD ?_
  refine zT 5 rfl (Q4 rfl rfl) hD ?_
  refine zT 6 rfl (Q4 rfl rfl) hD ?_
  refine qd 8 rfl ?_
  refine zh YS ?_
  refine Q9 (b:=b_5) (by repeat (first | exact Ya.here | apply Ya.there)) (fun I10 hI10 hb10=>?_)
  have hR5:=hR5.mono hI10;have hKc3:=hKc3.trans hI10;have hD:=hD.trans hI10
  have h5:=BxI.of hb10
  refine Qb ?_
  refine zD hD ?_
  refine zT 9 rfl (QB rfl) hD ?_
  refine Qm (by kernel_rfl) ?_
  refine QA ?_
  exact zm (h:=⟨_,_,_,_,_,_,_,_,_,_,_,_,rfl,hKc3,rfl,h5,hR5,he5⟩)
 rintro E J11 loc' ⟨b5,pa5,pn5,pc5,qa5,qn5,qc5,aa5,an5,ac5,ps5,qs5,rfl,hJ3,rfl,h5,hR5,he5⟩
 have hR1:=hR1.mono hJ3;have h1:=h1.mono hJ3;have hIc:=hIc.trans hJ3
 obtain rfl:pn5=2:=(Yx hR5 he5).1
 obtain rfl:qn5=1:=(Yx hR5 he5).2.1
 refine zR ?_
 refine zV (Qg rfl YA (fun hg=>by exact BxI.cells (vs:=[_,_,_]) h1) rfl) ?_
 refine zV (Q0 (ps:=[(0,_)]) [_,_,_,_,_,_,_,_,_,_,_,_,_,_,_,_,_,_,_,_,_,_,_,_,_,_,_,_,_,_,_,_,_,_,_,_,_,_,_,_,_,_,_,_,_,_,_,_,_] zaA rfl rfl) ?_
 refine QC (cap:=[]) (vs:=[_,_]) rfl rfl K2 .nil (zaI hR1 he1 (zaK (by decide)) eT0 ⟨Sl.nil,U7⟩ zwa) rfl rfl ?_
 rintro vv12 I12 L12 hI12 ⟨rfl,vr7,rfl,hV7⟩
 have hR1:=hR1.mono hI12;have h1:=h1.mono hI12;have h5:=h5.mono hI12;have hR5:=hR5.mono hI12;have hIc:=hIc.trans hI12
 obtain ⟨pa7,pn7,pc7,qa7,qn7,qc7,aa7,an7,ac7,ps7,qs7,rfl,hR7,he7⟩:=(show RmV _ vr7 (zeroR) from hV7)
 refine zM ?_
 refine zE ?_
 refine zE ?_
 refine Qs Kw rfl rfl (fun b_7=>?_)
 refine zh YS ?_
 refine zA (Qb ?_)
 refine QN .here (fun I13 hI13 hb13=>?_)
 have hR1:=hR1.mono hI13;have h1:=h1.mono hI13;have h5:=h5.mono hI13;have hR5:=hR5.mono hI13;have hIc:=hIc.trans hI13
 have h7:=BxI.of hb13
 refine Qc (zR ?_)
 refine zV (Qg rfl YA (fun hg=>by exact BxI.cells (vs:=[_,_,_]) h1) rfl) ?_
 refine zV (Q0 (ps:=[(0,_)]) [_,_,_,_,_,_,_,_,_,_,_,_,_,_,_,_,_,_,_,_,_,_,_,_,_,_,_,_,_,_,_,_,_,_,_,_,_,_,_,_,_,_,_,_,_,_,_,_,_] zaA rfl rfl) ?_
 refine QC (cap:=[]) (vs:=[_,_]) rfl rfl K2 .nil (zaI hR1 he1 (zaK (by decide)) eD0 ⟨Sl.nil,U7⟩ zwE) rfl rfl ?_
 rintro vv14 I14 L14 hI14 ⟨rfl,vr9,rfl,hV9⟩
 have h1:=h1.mono hI14;have h5:=h5.mono hI14;have hR5:=hR5.mono hI14;have hIc:=hIc.trans hI14
 obtain ⟨pa9,pn9,pc9,qa9,qn9,qc9,aa9,an9,ac9,ps9,qs9,rfl,hR9,he9⟩:=(show RmV _ vr9 (zeroR) from hV9)
 refine zM ?_
 refine zE ?_
 refine zE ?_
 refine Qs Kw rfl rfl (fun b_9=>?_)
 refine zh YS ?_
 refine zA (Qb ?_)
 refine QN .here (fun I15 hI15 hb15=>?_)
 have h1:=h1.mono hI15;have h5:=h5.mono hI15;have hR5:=hR5.mono hI15;have hIc:=hIc.trans hI15
 have h9:=BxI.of hb15
 refine Qc (zR ?_)
 refine zV (Qg rfl YA (fun hg=>by exact BxI.cells (vs:=[_,_,_]) h5) rfl) ?_
 refine zV (Q0 (ps:=[(0,_)]) [_,_,_,_,_,_,_,_,_,_,_,_,_,_,_,_,_,_,_,_,_,_,_,_,_,_,_,_,_,_,_,_,_,_,_,_,_,_,_,_,_,_,_,_,_,_,_,_,_] zaA rfl rfl) ?_
 refine QC (cap:=[]) (vs:=[_,_]) rfl rfl K2 .nil (zaI hR5 he5 ztc eD0 ⟨Sl.nil,U7⟩ zv0) rfl rfl ?_
 rintro vv16 I16 L16 hI16 ⟨rfl,vr11,rfl,hV11⟩
 have h1:=h1.mono hI16;have h5:=h5.mono hI16;have hR5:=hR5.mono hI16;have hIc:=hIc.trans hI16
 obtain ⟨pa11,pn11,pc11,qa11,qn11,qc11,aa11,an11,ac11,ps11,qs11,rfl,hR11,he11⟩:=(show RmV _ vr11 (rr2) from hV11)
 obtain rfl:pn11=2:=(Yx hR11 he11).1
 obtain rfl:qn11=0:=(Yx hR11 he11).2.1
 refine zM ?_
 refine zE ?_
 refine zE ?_
 refine Qs Kw rfl rfl (fun b_11=>?_)
 refine zh YS ?_
 refine zA (Qb ?_)
 refine QN .here (fun I17 hI17 hb17=>?_)
 have h1:=h1.mono hI17;have h5:=h5.mono hI17;have hR5:=hR5.mono hI17;have hR11:=hR11.mono hI17;have hIc:=hIc.trans hI17
 have h11:=BxI.of hb17
 refine Qc (Qr (zR (zM ?_)))
 refine zC ?_
 refine zM ?_
 refine Ze 2 rfl rfl rfl ?_
 refine zJ (Qa rfl ZR) ?_
 refine zJ (Qd rfl YV (fun hg=>by exact QG.imm h1.out rfl)) ?_
 refine zJ (Zc rfl YK) ?_
 refine zJ (QV rfl rfl rfl) ?_
 refine ZP rfl rfl rfl rfl rfl ?_
 refine zM ?_
 refine Ze 8 rfl rfl rfl ?_
 refine zJ (Qh rfl) ?_
 refine zJ (QV rfl rfl rfl) ?_
 refine ZP rfl rfl rfl rfl rfl ?_
 refine zM ?_
 refine Ze 12 rfl rfl rfl ?_
 refine zJ (Qh rfl) ?_
 refine zJ (QV rfl rfl rfl) ?_
 refine ZP rfl rfl rfl rfl rfl ?_
 refine zM ?_
 refine Ze 16 rfl rfl rfl ?_
 refine zJ (Qa rfl ZR) ?_
 refine zJ (Qd rfl YV (fun hg=>by exact QG.imm h5.out rfl)) ?_
 refine zJ (Zc rfl YK) ?_
 refine zJ (QV rfl rfl rfl) ?_
 refine ZP rfl rfl rfl rfl rfl ?_
 refine zM ?_
 refine Ze 22 rfl rfl rfl ?_
 refine zJ (Qh rfl) ?_
 refine zJ (QV rfl rfl rfl) ?_
 refine ZP rfl rfl rfl rfl rfl ?_
 refine zM ?_
 refine Ze 26 rfl rfl rfl ?_
 refine zJ (Qh rfl) ?_
 refine zJ (QV rfl rfl rfl) ?_
 refine ZP rfl rfl rfl rfl rfl ?_
 refine zM ?_
 refine Ze 30 rfl rfl rfl ?_
 refine zJ (Qh rfl) ?_
 refine zJ (QV rfl rfl rfl) ?_
 refine ZP rfl rfl rfl rfl rfl ?_
 refine zM ?_
 refine Ze 34 rfl rfl rfl ?_
 refine zJ (Qa rfl ZR) ?_
 refine zJ (Qd rfl YV (fun hg=>by exact QG.imm h11.out rfl)) ?_
 refine zJ (Zc rfl YK) ?_
 refine zJ (QV rfl rfl rfl) ?_
 refine ZP rfl rfl rfl rfl rfl ?_
 refine zN ?_
 refine zI ?_ ?_<;>intro hc103
 ·
  exact absurd hc103 (by decide)
 refine Qw (Qc (zR ?_))
 refine qcV (vs:=[_,_]) rfl zeu (zdn _ 3 5) ?_
 refine Ql (ps:=[(0,_)]) (m:=[Zn n35]) Vf rfl (.cons rfl (.nil)) rfl (by simp [Q5,VG]) (by decide) (by decide) rfl rfl (fun b_105=>?_)
 refine zA (Qb ?_)
 refine QN .here (fun I18 hI18 hb18=>?_)
 have h1:=h1.mono hI18;have h5:=h5.mono hI18;have hR5:=hR5.mono hI18;have hR11:=hR11.mono hI18;have h11:=h11.mono hI18;have hIc:=hIc.trans hI18
 have h13:=Sl.lit (enc:=Zn) [n35] rfl Q5 hb18
 refine Qc (Qr ?_)
 obtain ⟨q5,hq5,hq5e⟩:=zvr hR5 he5 (i:=0) rfl
 have hq5M:=hR5.pk q5 (List.mem_of_getElem? hq5)
 have hdq5:UC q5.data=UC (JR n35):=congrArg (fun p:Pk=>UC p.data) hq5e
 obtain ⟨pb,hppb,hdpb⟩:=zrd hR5 he5 (i:=1) (xs:=[n35]) rfl
 have hnpb:=hR5.nt pb (List.mem_of_getElem? hppb)
 obtain ⟨pa,hppa,hdpa⟩:=zrd hR5 he5 (i:=0) (xs:=[]) rfl
 have hnpa:=hR5.nt pa (List.mem_of_getElem? hppa)
 have hpa0:(((pa.n:Nat):Int)==0)=true:=by rw [ztx hnpa hdpa];rfl
 have hpbl:pb.n≤100000:=by have h1:=hnpb.sl.len;have h2:=congrArg List.length hdpb;rw [List.length_map] at h2;simp at h2;omega
 have hD:=zwQ I18
 refine ZK ?_
 refine QZ I18 [] mixed ?_
 refine zT 0 rfl (Qa rfl Z1) hD ?_
 refine zT 1 rfl (Qa rfl Zi) hD ?_
 refine zT 2 rfl (Qd rfl Zo (fun hg=>by exact QG.imm h5.out rfl)) hD ?_
 refine zT 3 rfl (Zc rfl Zl) hD ?_
 refine zT 4 rfl (QV rfl rfl rfl) hD ?_
 refine zT 5 rfl (Qh rfl) hD ?_
 refine zw 6 111 rfl (Qa rfl Z1) hD ?_
 refine zw 7 111 rfl (Qa rfl Zi) hD ?_
 refine zw 8 111 rfl (Qd rfl Zo (fun hg=>by exact QG.imm h5.out rfl)) hD ?_
 refine zw 9 111 rfl (QX rfl rfl Zl hR5.q (fun hg=>by omega)) hD ?_
 refine zw 10 111 rfl (Qa rfl Ul) hD ?_
 refine zw 11 111 rfl (Qd rfl KT (fun hg=>by exact zwS hR5.q hq5 (j:=2) rfl)) hD ?_
 refine zw 12 111 rfl (ZG rfl bst (fun hg=>hq5M.sl)) hD ?_
 refine qd 13 rfl ?_
 refine Q2 (dj:=111) rfl rfl rfl ?_
 refine qcV (vs:=[_,_]) rfl zeu (zdn _ 3 5) ?_
 refine Qb ?_
 refine zD hD ?_
 refine qd 14 rfl ?_
 refine Q2 (dj:=111) rfl rfl rfl ?_
 refine QC (cap:=[]) (vs:=[_]) rfl rfl Xh .nil (Xo n35 (zg4 _) (by decide) Xp.1 (Nat.le_trans Xp.2.2 (by decide))) rfl rfl ?_
 rintro vv19 I19 L19 hI19 ⟨rfl,am,cm,rfl,hSm⟩
 have h1:=h1.mono hI19;have h5:=h5.mono hI19;have hR5:=hR5.mono hI19;have hR11:=hR11.mono hI19;have h11:=h11.mono hI19;have h13:=h13.mono hI19;have hnpb:=hnpb.mono hI19;have hIc:=hIc.trans hI19;have hD:=hD.trans hI19
 refine Qb ?_
 refine zD hD ?_
 refine qd 15 rfl ?_
 refine Q2 (dj:=111) rfl rfl rfl ?_
 refine zV (ZG rfl bst (fun hg=>hSm)) ?_
 refine Qb ?_
 refine zD hD ?_
 refine zw 16 111 rfl (UM rfl rfl rfl) hD ?_
 rw [hdq5,zbJ]
 refine zT 17 rfl (Zz rfl rfl rfl) hD ?_
 refine zT 18 rfl (Qh rfl) hD ?_
 refine zw 19 124 rfl (Qa rfl ZR) hD ?_
 refine zw 24 124 rfl (Qh rfl) hD ?_
 refine qd 20 rfl ?_
 refine Q2 (dj:=124) rfl rfl rfl ?_
 refine zV (Qd rfl YV (fun hg=>by exact QG.imm h5.out rfl)) ?_
 refine Qb ?_
 refine zD hD ?_
 refine qd 21 rfl ?_
 refine Q2 (dj:=124) rfl rfl rfl ?_
 refine zV (QX rfl rfl YK hR5.pe (fun hg=>by omega)) ?_
 refine Qb ?_
 refine zD hD ?_
 refine zw 22 124 rfl (Qa rfl Yi) hD ?_
 refine qd 23 rfl ?_
 refine Q2 (dj:=124) rfl rfl rfl ?_
 refine zV (Qd rfl VU (fun hg=>by exact zwJ hR5.pe hppb rfl)) ?_
 refine Qb ?_
 refine zD hD ?_
 refine qd 25 rfl ?_
 refine Q2 (dj:=124) rfl rfl rfl ?_
 refine qcV (vs:=[_,_]) rfl zfQ (zqn hnpb h13 hdpb (by omega)) ?_
 refine Qb ?_
 refine zD hD ?_
 refine zT 26 rfl (Zz rfl rfl rfl) hD ?_
 refine zT 27 rfl (Qh rfl) hD ?_
 refine zw 28 133 rfl (Qa rfl ZR) hD ?_
 refine qd 29 rfl ?_
 refine Q2 (dj:=133) rfl rfl rfl ?_
 refine zV (Qd rfl YV (fun hg=>by exact QG.imm h5.out rfl)) ?_
 refine Qb ?_
 refine zD hD ?_
 refine qd 30 rfl ?_
 refine Q2 (dj:=133) rfl rfl rfl ?_
 refine zV (QX rfl rfl YK hR5.pe (fun hg=>by omega)) ?_
 refine Qb ?_
 refine zD hD ?_
 refine zw 31 133 rfl (Qa rfl Yi) hD ?_
 refine qd 32 rfl ?_
 refine Q2 (dj:=133) rfl rfl rfl ?_
 refine zV (Qd rfl VU (fun hg=>by exact zwJ hR5.pe hppa rfl)) ?_
 refine Qb ?_
 refine zD hD ?_
 refine zw 33 133 rfl (Zc rfl Zu) hD ?_
 refine zw 34 133 rfl (QV rfl rfl rfl) hD ?_
 rw [hpa0]
 refine zT 35 rfl (Zz rfl rfl rfl) hD ?_
 refine zT 36 rfl (QB rfl) hD ?_
 refine Qm (by kernel_rfl) ?_
 refine QA ?_
 refine Qc (Qr ?_)
 obtain ⟨pf,hppf,hdpf⟩:=zrd hR11 he11 (i:=0) (xs:=[n35]) rfl
 have hnpf:=hR11.nt pf (List.mem_of_getElem? hppf)
 have hpfl:pf.n≤100000:=by have h1:=hnpf.sl.len;have h2:=congrArg List.length hdpf;rw [List.length_map] at h2;simp at h2;omega
 refine Qk ?_
 refine zF ZR ?_
 refine zV (Qd rfl YV (fun hg=>by exact QG.imm h11.out rfl)) ?_
 refine zV (QX rfl rfl YK hR11.pe (fun hg=>by omega)) ?_
 refine zV (Qg rfl KR (fun hg=>by exact zwR hR11.pe hppf) rfl) ?_
 refine QC (cap:=[]) (vs:=[_]) rfl rfl zoU .nil (zkK hnpf (by omega)) rfl rfl ?_
 rintro vv20 I20 L20 hI20 hW0
 have h1:=h1.mono hI20;have hR11:=hR11.mono hI20;have h11:=h11.mono hI20;have h13:=h13.mono hI20;have hnpf:=hnpf.mono hI20;have hIc:=hIc.trans hI20
 obtain ⟨rfl,a15,n15,c15,a16,n16,c16,a17,n17,c17,a18,n18,c18,rfl,hS15,hS16,_,_⟩:=zlB hW0 (zdw hdpf hnpf.nd)
 rw [zo9 hdpf] at hS16
 obtain rfl:n16=1:=hS16.len.symm
 refine zM ?_
 refine zE ?_
 refine zE ?_
 refine zE ?_
 refine zE ?_
 refine zE ?_
 refine zA ?_
 refine zA ?_
 refine zA ?_
 refine zA ?_
 refine zA ?_
 refine zN (zR ?_)
 refine qcV (vs:=[_,_]) rfl zke (zbF _ 2 0) ?_
 refine qcV (vs:=[_,_]) rfl zke (zbF _ 4 4) ?_
 refine qcV (vs:=[_,_]) rfl zke (zbF _ 5 3) ?_
 refine Ql (ps:=[(0,_),(1,_),(2,_)]) (m:=[Zn (Yu 2 0),Zn (Yu 4 4),Zn (Yu 5 3)]) Vf rfl (.cons rfl (.cons rfl (.cons rfl (.nil)))) rfl (by simp [Q5,VG]) (by decide) (by decide) rfl rfl (fun b_157=>?_)
 refine zV (Q0 (ps:=[(0,_)]) [_] zuf rfl rfl) ?_
 refine Q9 (by repeat (first | exact Ya.here | apply Ya.there)) (fun I21 hI21 hb21=>?_)
 have h1:=h1.mono hI21;have hR11:=hR11.mono hI21;have h11:=h11.mono hI21;have h13:=h13.mono hI21;have hnpf:=hnpf.mono hI21;have hS16:=hS16.mono hI21;have hIc:=hIc.trans hI21
 have hLl:=Sl.lit (enc:=Zn) hL rfl Q5 hb21
 refine QC (cap:=[]) (vs:=[_]) rfl rfl zoU .nil (zkK ⟨hLl,fun x hx=>(ziF _ hx).1.nd,fun x hx _=>(ziF _ hx).1⟩ (by decide)) rfl rfl ?_
 rintro vv22 I22 L22 hI22 hW0
 have h1:=h1.mono hI22;have hR11:=hR11.mono hI22;have h11:=h11.mono hI22;have h13:=h13.mono hI22;have hnpf:=hnpf.mono hI22;have hS16:=hS16.mono hI22;have hIc:=hIc.trans hI22
 obtain ⟨rfl,a20,n20,c20,a21,n21,c21,a22,n22,c22,a23,n23,c23,rfl,hS20,_,_,_⟩:=zlB hW0 zmm
 rw [zuF] at hS20
 obtain rfl:n20=2:=hS20.len.symm
 refine zM ?_
 refine zE ?_
 refine zE ?_
 refine zE ?_
 refine zE ?_
 refine zE ?_
 refine zA ?_
 refine zA ?_
 refine zA ?_
 refine zA ?_
 refine zA ?_
 refine zN (zR ?_)
 refine zF ZR ?_
 refine zV (Qd rfl YV (fun hg=>by exact QG.imm h11.out rfl)) ?_
 refine zV (QX rfl rfl YK hR11.pe (fun hg=>by omega)) ?_
 refine zV (Qg rfl KR (fun hg=>by exact zwR hR11.pe hppf) rfl) ?_
 refine QC (cap:=[]) (vs:=[_]) rfl rfl zuM .nil (zlz hnpf (by omega)) rfl rfl ?_
 rintro vv23 I23 L23 hI23 hW0
 have h1:=h1.mono hI23;have hR11:=hR11.mono hI23;have h11:=h11.mono hI23;have h13:=h13.mono hI23;have hnpf:=hnpf.mono hI23;have hS16:=hS16.mono hI23;have hS20:=hS20.mono hI23;have hIc:=hIc.trans hI23
 obtain ⟨rfl,a25,n25,c25,rs0,rfl,hRc,hrb⟩:=zp5 hW0 (zdw hdpf hnpf.nd)
 obtain ⟨rsl,rsb,rsn⟩:=zrv hRc hrb hdpf
 obtain rfl:n25=1:=by have h:=hRc.sl.len;omega
 refine zM ?_
 refine zE ?_
 refine zE ?_
 refine zA ?_
 refine zA ?_
 refine zN (zR ?_)
 refine Ql (ps:=[]) (m:=[]) zbM rfl (.nil) rfl (by simp [Q5,VG]) (by decide) (by decide) rfl rfl (fun b_174=>?_)
 refine zM ?_
 refine QW (v:=_) (ys:=rs0.flatMap zbz) (L:=[(b_174,_)]) rfl rfl zbM Ym.new (by repeat (first | exact .cons .here .nil | exact Qu | exact Qq | apply Qo | apply Qn)) (hRc.sl.src VG) (zjW _) (by omega) rfl rfl ?_
 intro v8 L8 hO8 _;rw [List.nil_append,Nat.zero_add] at hO8
 refine zM ?_
 refine QW (v:=_) (ys:=rs0.flatMap zbz) (L:=L8) rfl rfl zbM hO8 (by repeat (first | exact .cons .here .nil | exact Qu | exact Qq | apply Qo | apply Qn)) (hRc.sl.src VG) (zjW _) (by omega) rfl rfl ?_
 intro v9 L9 hO9 _;rw [←List.flatMap_append] at hO9
 refine YJ hO9 VG (by decide) (by repeat (first | exact .cons .here .nil | exact Qu | exact Qq | apply Qo | apply Qn)) (fun I24 hI24 af24 cf24 ef24 hZr=>?_)
 subst ef24
 have h1:=h1.mono hI24;have hR11:=hR11.mono hI24;have h11:=h11.mono hI24;have h13:=h13.mono hI24;have hnpf:=hnpf.mono hI24;have hS16:=hS16.mono hI24;have hS20:=hS20.mono hI24;have hRc:=hRc.mono hI24;have hIc:=hIc.trans hI24
 refine QC (cap:=[]) (vs:=[_]) rfl rfl zod .nil (zoL (rs:=rs0++rs0) ⟨hZr,fun r hr=>(List.mem_append.1 hr).elim (hRc.m r) (hRc.m r)⟩ (by omega) (fun r hr=>rsn r ((List.mem_append.1 hr).elim id id))) rfl rfl ?_
 rintro vv25 I25 L25 hI25 hLd0
 have h1:=h1.mono hI25;have hR11:=hR11.mono hI25;have h11:=h11.mono hI25;have h13:=h13.mono hI25;have hnpf:=hnpf.mono hI25;have hS16:=hS16.mono hI25;have hS20:=hS20.mono hI25;have hIc:=hIc.trans hI25
 obtain ⟨rfl,a27,m27,c27,zs27,rfl,hLz⟩:=zte hLd0 (by rw [List.length_append,rsl];decide) (fun r hr=>by rw [rsb r ((List.mem_append.1 hr).elim id id),zcw Xp];simp)
 have hLn:=hLz.nt
 have hdz:=zr3 hLz (by intro h;rw [List.append_eq_nil_iff] at h;rw [h.1] at rsl;cases rsl) (fun r hr=>rsb r ((List.mem_append.1 hr).elim id id))
 refine zM ?_
 refine zE ?_
 refine zE ?_
 refine Qs znp rfl rfl (fun b_27=>?_)
 refine zh zbC ?_
 refine zA (Qb ?_)
 refine QN .here (fun I26 hI26 hb26=>?_)
 have h1:=h1.mono hI26;have hR11:=hR11.mono hI26;have h11:=h11.mono hI26;have h13:=h13.mono hI26;have hnpf:=hnpf.mono hI26;have hS16:=hS16.mono hI26;have hS20:=hS20.mono hI26;have hLn:=hLn.mono hI26;have hIc:=hIc.trans hI26
 have h27:=BxI.of hb26
 refine Qc (zR ?_)
 refine Ql (ps:=[(0,_)]) (m:=[zbz ⟨none,0,0,[]⟩]) zbM rfl (.cons rfl (.nil)) rfl (by simp [Q5,VG]) (by decide) (by decide) rfl rfl (fun b_183=>?_)
 refine Q9 (by repeat (first | exact Ya.here | apply Ya.there)) (fun I27 hI27 hb27=>?_)
 have h1:=h1.mono hI27;have hR11:=hR11.mono hI27;have h11:=h11.mono hI27;have h13:=h13.mono hI27;have hnpf:=hnpf.mono hI27;have hS16:=hS16.mono hI27;have hS20:=hS20.mono hI27;have hLn:=hLn.mono hI27;have h27:=h27.mono hI27;have hIc:=hIc.trans hI27
 have hNl:=Sl.lit (enc:=zbz) [(⟨none,0,0,[]⟩:Hy)] rfl VG hb27
 refine QC (cap:=[]) (vs:=[_]) rfl rfl zod .nil (zoL (rs:=[⟨none,0,0,[]⟩]) ⟨hNl,fun r hr=>by rw [List.mem_singleton.1 hr];exact ⟨.nil,fun _ h=>(by cases h)⟩⟩ (by decide) (fun r hr=>by rw [List.mem_singleton.1 hr];decide)) rfl rfl ?_
 rintro vv28 I28 L28 hI28 hLd0
 have h1:=h1.mono hI28;have hR11:=hR11.mono hI28;have h11:=h11.mono hI28;have h13:=h13.mono hI28;have hnpf:=hnpf.mono hI28;have hS16:=hS16.mono hI28;have hS20:=hS20.mono hI28;have hLn:=hLn.mono hI28;have h27:=h27.mono hI28;have hIc:=hIc.trans hI28
 obtain ⟨rfl,rfl⟩:=zvv hLd0 (by decide) ⟨_,List.mem_singleton.2 rfl,zpf⟩
 refine zM ?_
 refine zE ?_
 refine zE ?_
 refine Qs znp rfl rfl (fun b_29=>?_)
 refine zh zbC ?_
 refine zA (Qb ?_)
 refine QN .here (fun I29 hI29 hb29=>?_)
 have h1:=h1.mono hI29;have hR11:=hR11.mono hI29;have h11:=h11.mono hI29;have h13:=h13.mono hI29;have hnpf:=hnpf.mono hI29;have hS16:=hS16.mono hI29;have hS20:=hS20.mono hI29;have hLn:=hLn.mono hI29;have h27:=h27.mono hI29;have hIc:=hIc.trans hI29
 have h29:=BxI.of hb29
 refine Qc (zR (zM ?_))
 refine zM ?_
 refine Q2 (dj:=188) rfl rfl rfl ?_
 refine zF ZR ?_
 refine Q2 (dj:=188) rfl rfl rfl ?_
 refine zV (Qd rfl YV (fun hg=>by exact QG.imm h11.out rfl)) ?_
 refine Q2 (dj:=188) rfl rfl rfl ?_
 refine zV (QX rfl rfl YK hR11.pe (fun hg=>by omega)) ?_
 refine Q2 (dj:=188) rfl rfl rfl ?_
 refine zF Yi ?_
 refine Q2 (dj:=188) rfl rfl rfl ?_
 refine zV (Qd rfl VU (fun hg=>by exact zwJ hR11.pe hppf rfl)) ?_
 refine Q2 (dj:=188) rfl rfl rfl ?_
 refine zM ?_
 refine Q2 (dj:=188) rfl rfl rfl ?_
 refine qcV (vs:=[_,_]) rfl zfQ (zqn hnpf h13 hdpf (by omega)) ?_
 refine zV (Zz rfl rfl rfl) ?_
 refine zM ?_
 refine Q2 (dj:=197) rfl rfl rfl ?_
 refine zF Z1 ?_
 refine Q2 (dj:=197) rfl rfl rfl ?_
 refine zF Zi ?_
 refine Q2 (dj:=197) rfl rfl rfl ?_
 refine zV (Qd rfl Zo (fun hg=>by exact QG.imm h11.out rfl)) ?_
 refine Q2 (dj:=197) rfl rfl rfl ?_
 refine zQ Zl ?_
 refine Q2 (dj:=197) rfl rfl rfl ?_
 refine zC ?_
 refine zV (Zz rfl rfl rfl) ?_
 refine zM ?_
 refine Q2 (dj:=204) rfl rfl rfl ?_
 refine zV (Q0 (ps:=[]) [_,_,_] zgy rfl rfl) ?_
 refine Q2 (dj:=204) rfl rfl rfl ?_
 refine QC (cap:=[]) (vs:=[_]) rfl rfl zkP .nil (zgT zmv (r:=zeroR) rfl zrp zmt) rfl rfl ?_
 rintro vv30 I30 L30 hI30 ⟨rfl,rfl⟩
 have h1:=h1.mono hI30;have hR11:=hR11.mono hI30;have h11:=h11.mono hI30;have h13:=h13.mono hI30;have hS16:=hS16.mono hI30;have hS20:=hS20.mono hI30;have hLn:=hLn.mono hI30;have h27:=h27.mono hI30;have hIc:=hIc.trans hI30
 refine Q2 (dj:=204) rfl rfl rfl ?_
 refine zC ?_
 refine zV (Zz rfl rfl rfl) ?_
 refine zM ?_
 refine Q2 (dj:=209) rfl rfl rfl ?_
 refine zV (Qg rfl YA (fun hg=>by exact BxI.cells (vs:=[_,_,_]) h11) rfl) ?_
 refine Q2 (dj:=209) rfl rfl rfl ?_
 refine QC (cap:=[]) (vs:=[_]) rfl rfl zkP .nil (zgT hR11 he11 zua zq4) rfl rfl ?_
 rintro vv31 I31 L31 hI31 ⟨rfl,rfl⟩
 have h1:=h1.mono hI31;have h13:=h13.mono hI31;have hS16:=hS16.mono hI31;have hS20:=hS20.mono hI31;have hLn:=hLn.mono hI31;have h27:=h27.mono hI31;have hIc:=hIc.trans hI31
 refine Q2 (dj:=209) rfl rfl rfl ?_
 refine zC ?_
 refine zV (Zz rfl rfl rfl) ?_
 refine zA (zN (Qr ?_))
 have hzl:m27≤100000:=by have h1:=hLn.sl.len;have h2:=congrArg List.length hdz;rw [List.length_map] at h2;simp at h2;omega
 have hD:=zwQ I31
 refine ZK ?_
 refine QZ I31 [] mixed ?_
 refine zT 0 rfl (Qh rfl) hD ?_
 refine zT 1 rfl (Qh rfl) hD ?_
 refine zw 2 215 rfl (Qh rfl) hD ?_
 refine zw 3 215 rfl (QV rfl rfl rfl) hD ?_
 refine zT 4 rfl (Zz rfl rfl rfl) hD ?_
 refine zT 5 rfl (Qh rfl) hD ?_
 refine zw 6 219 rfl (Qh rfl) hD ?_
 refine zw 7 219 rfl (QV rfl rfl rfl) hD ?_
 refine zT 8 rfl (Zz rfl rfl rfl) hD ?_
 refine zT 9 rfl (Qh rfl) hD ?_
 refine zw 10 223 rfl (Qh rfl) hD ?_
 refine zw 11 223 rfl (QV rfl rfl rfl) hD ?_
 refine zT 12 rfl (Zz rfl rfl rfl) hD ?_
 refine zT 13 rfl (Qh rfl) hD ?_
 refine zw 14 227 rfl (Qh rfl) hD ?_
 refine zw 15 227 rfl (QV rfl rfl rfl) hD ?_
 refine zT 16 rfl (Zz rfl rfl rfl) hD ?_
 refine zT 17 rfl (Qh rfl) hD ?_
 refine zw 18 231 rfl (Qh rfl) hD ?_
 refine zw 19 231 rfl (QV rfl rfl rfl) hD ?_
 refine zT 20 rfl (Zz rfl rfl rfl) hD ?_
 refine zT 21 rfl (Qh rfl) hD ?_
 refine zw 22 235 rfl (Qh rfl) hD ?_
 refine zw 23 235 rfl (Zc rfl YH) hD ?_
 refine zw 24 235 rfl (QV rfl rfl rfl) hD ?_
 refine zT 25 rfl (Zz rfl rfl rfl) hD ?_
 refine zT 26 rfl (Qh rfl) hD ?_
 refine zw 27 240 rfl (Qh rfl) hD ?_
 refine zw 28 240 rfl (zX YH hS20) hD ?_
 refine zw 29 240 rfl (Qa rfl Jz) hD ?_
 refine zw 30 240 rfl (Qd rfl Qy (fun hg=>by exact zwJ hS20 (k:=0) rfl rfl)) hD ?_
 refine zw 31 240 rfl (QV rfl rfl rfl) hD ?_
 refine zT 32 rfl (Zz rfl rfl rfl) hD ?_
 refine zT 33 rfl (Qh rfl) hD ?_
 refine zw 34 247 rfl (Qh rfl) hD ?_
 refine zw 35 247 rfl (zX YH hS20) hD ?_
 refine zw 36 247 rfl (Qa rfl Jz) hD ?_
 refine zw 37 247 rfl (Qd rfl Qy (fun hg=>by exact zwJ hS20 (k:=1) rfl rfl)) hD ?_
 refine zw 38 247 rfl (QV rfl rfl rfl) hD ?_
 refine zT 39 rfl (Zz rfl rfl rfl) hD ?_
 refine zT 40 rfl (Qh rfl) hD ?_
 refine zw 41 254 rfl (Qh rfl) hD ?_
 refine zw 42 254 rfl (Zc rfl Wt) hD ?_
 refine zw 43 254 rfl (QV rfl rfl rfl) hD ?_
 refine zT 44 rfl (Zz rfl rfl rfl) hD ?_
 refine zT 45 rfl (Qh rfl) hD ?_
 refine zw 46 259 rfl (Qh rfl) hD ?_
 refine zw 47 259 rfl (zX Wt hS16) hD ?_
 refine zw 48 259 rfl (Qg rfl KP (fun hg=>by exact zwR hS16 (k:=0) rfl) rfl) hD ?_
 refine qd 49 rfl ?_
 refine Q2 (dj:=259) rfl rfl rfl ?_
 refine qcV (vs:=[_,_]) rfl zeu (zdn _ 3 5) ?_
 refine Qb ?_
 refine zD hD ?_
 refine qd 50 rfl ?_
 refine Q2 (dj:=259) rfl rfl rfl ?_
 refine zV (zg6 [_,_,_,_,_] rfl zmC rfl) ?_
 refine Qb ?_
 refine zD hD ?_
 refine zw 51 259 rfl (WG rfl rfl zk1 rfl) hD ?_
 refine zT 52 rfl (Zz rfl rfl rfl) hD ?_
 refine zT 53 rfl (Qh rfl) hD ?_
 refine zw 54 267 rfl (Qh rfl) hD ?_
 refine zw 55 267 rfl (Zc rfl zfH) hD ?_
 refine zw 56 267 rfl (QV rfl rfl rfl) hD ?_
 refine zT 57 rfl (Zz rfl rfl rfl) hD ?_
 refine zT 58 rfl (Qh rfl) hD ?_
 refine zw 59 272 rfl (Qa rfl Yi) hD ?_
 refine zw 60 272 rfl (Qd rfl VU (fun hg=>by exact QG.imm h27.out rfl)) hD ?_
 refine zw 61 272 rfl (Qh rfl) hD ?_
 refine qd 62 rfl ?_
 refine Q2 (dj:=272) rfl rfl rfl ?_
 refine qcV (vs:=[_,_]) rfl zfQ (zqn hLn h13 hdz (by omega)) ?_
 refine Qb ?_
 refine zD hD ?_
 refine zT 63 rfl (Zz rfl rfl rfl) hD ?_
 refine zT 64 rfl (QB rfl) hD ?_
 refine Qm (by kernel_rfl) ?_
 refine QA ?_
 refine Qc (QF ?_)
 exact QR rfl rfl (fun w hw=>⟨by rfl,(hw.mono hIc).subL Qe⟩)
end
section
open Go Go.Kn Go.Proofs
theorem zoE {α:Type}:∀ {xs l:List α},xs.Nodup→(∀ x∈xs,x∈l)→xs.length≤l.length
 | [],_,_,_=>Nat.zero_le _
 | x::xs,l,hn,hs=>by
  obtain ⟨h1,h2⟩:=List.nodup_cons.1 hn
  obtain ⟨s,t,rfl⟩:=List.append_of_mem (hs x (List.mem_cons_self ..))
  have h:=zoE (xs:=xs) (l:=s++t) h2 fun y hy=>by
   have h3:=hs y (List.mem_cons_of_mem _ hy)
   rcases List.mem_append.1 h3 with h3 | h3
   ·
    exact List.mem_append_left _ h3
   ·
    rcases List.mem_cons.1 h3 with rfl | h3
    ·
     exact absurd hy h1
    ·
     exact List.mem_append_right _ h3
  simp only [List.length_append,List.length_cons] at h ⊢
  omega
theorem ziW {xs:List Nt}(h:zbU xs):xs.Nodup:=by
 refine List.pairwise_iff_getElem.2 fun i j hi hj hij e=>?_
 have:=h i j xs[i] xs[j] hij (List.getElem?_eq_getElem hi) (List.getElem?_eq_getElem hj)
 rw [e,JK] at this
 omega
theorem Kn.few {m:Nat}{r:Rd}{told:List Nt}(h:Kn m r told){xs:List Nt}(hx:xs∈r.ps):xs.length≤told.length:=by
 have e:(told.map Yp).length=told.length:=List.length_map ..
 rw [←e]
 exact zoE (ziW (VD (h.val xs hx)).1) fun y hy=>by
  obtain ⟨t,h1,h2⟩:=h.mem xs hx y hy
  exact List.mem_map.2 ⟨t,h1,h2⟩
theorem Kn.sm {m:Nat}{r:Rd}{told:List Nt}(h:Kn m r told)(ht:told.length≤1000)(hq:r.qs.length≤3000):SmR r:=
 ⟨by rw [h.len];exact h.m0.2,fun xs hx=>Nat.le_trans (h.few hx) ht,hq,fun p hp=>by
  obtain ⟨t,h1,h2⟩:=(h.pk p hp).data
  rw [h2];exact (h.tok t h1).2.2,by rw [h.ks];exact Nat.zero_le _⟩
structure KS (I:Qv)(m k:Nat)(r:Rd)(ts:List Nt):Prop where
 kn:Kn m r ts
 nd:∀ t∈ts,Nd I t.pt
 tl:ts.length≤k
 ql:r.qs.length≤14*k
theorem KS.mono {I I':Qv}{m k:Nat}{r:Rd}{ts:List Nt}(h:KS I m k r ts)(hI:HLe I I'):KS I' m k r ts:=⟨h.kn,fun t ht=>(h.nd t ht).mono hI,h.tl,h.ql⟩
theorem KS.zero {I:Qv}{m:Nat}(hm:1≤m∧m≤24):KS I m 0 (zbr m) []:=⟨zfs hm,fun t ht=>(by cases ht),by simp,by simp [zbr]⟩
theorem KS.skip {I:Qv}{m k:Nat}{r:Rd}{ts:List Nt}(h:KS I m k r ts):KS I m (k+1) r ts:=⟨h.kn,h.nd,by have:=h.tl;omega,by have:=h.ql;omega⟩
theorem KS.sm {I:Qv}{m k:Nat}{r:Rd}{ts:List Nt}(h:KS I m k r ts)(hk:k≤100):SmR r:=h.kn.sm (by have:=h.tl;omega) (by have:=h.ql;omega)
theorem KS.le {I:Qv}{m k k':Nat}{r:Rd}{ts:List Nt}(h:KS I m k r ts)(hk:k≤k'):KS I m k' r ts:=⟨h.kn,h.nd,by have:=h.tl;omega,by have:=h.ql;omega⟩
theorem zk4 {c:Nat}:∀ (l:List Nat) (a:Nat),a≤c→(∀ b∈l,b≤c)→l.foldl max a≤c
 | [],_,h,_=>h
 | b::l,a,h,hl=>by
  rw [List.foldl_cons]
  exact zk4 l _ (by have:=hl b (List.mem_cons_self ..);omega) fun x hx=>hl x (List.mem_cons_of_mem _ hx)
def zcY (x:Ev)(ts:List Nt):List Nt:=if x.kind=1 then ts++[x.note] else ts
theorem zeL {x:Ev}{ts:List Nt}(h:x.kind=1):zcY x ts=ts++[x.note]:=if_pos h
theorem zqK {x:Ev}{ts:List Nt}(h:¬x.kind=1):zcY x ts=ts:=if_neg h
theorem zvs {I:Qv}{x:Ev}(hE:EvM I x)(h:Q7 (Yp x.note)=true):TkN x.note:=by
 have hl:x.note.pt.needs.length=x.note.pt.n:=hE.nd.len
 obtain ⟨h1,h2⟩:=zb2 hE.w hl (by rw [←hE.form];exact h)
 exact ⟨h1,h,h2⟩
theorem KS.step {I:Qv}{m k:Nat}{r r':Rd}{ts:List Nt}{x:Ev}(h:KS I m k r ts)(hk:k<14)(hm4:m≤14)(hE:EvM I x)(hd:doF r (Yw x)=(0,r')):KS I m (k+1) r' (zcY x ts)∧Grow r.ps r'.ps:=by
 have hq:=h.ql;have ht:=h.tl;have hm:=h.kn.m0
 obtain ⟨h1,h2,h3⟩:=h.kn.step (by omega) (fun _ hf=>zvs hE hf) hd
 have h4:(r.ps.map List.length).foldl max 0≤14:=zk4 _ _ (by omega) fun b hb=>by
  obtain ⟨xs,hx,rfl⟩:=List.mem_map.1 hb
  have:=h.kn.few hx
  omega
 refine ⟨⟨h1,fun t ht2=>?_,?_,by omega⟩,h2⟩
 ·
  unfold zcY at ht2
  split at ht2
  ·
   rcases List.mem_append.1 ht2 with ht2 | ht2
   ·
    exact h.nd t ht2
   ·
    rw [List.mem_singleton.1 ht2];exact hE.nd
  ·
   exact h.nd t ht2
 ·
  unfold zcY
  split
  ·
   simp;omega
  ·
   omega
/-! ### The peers' notes as they lie in memory -/
section
variable {I:Qv} {pa qa aa:Option Addr} {pn pc qn qc an ac m k:Nat} {ps:List Pe} {qs:List Pk} {ks:List (Int×Int)} {r:Rd} {ts:List Nt}
theorem zsB (e:Vn ps qs ks=r){pe:Pe}{i:Nat}(hp:ps[i]? =some pe):r.ps[i]? =some (pe.notes.map Yp):=by
 subst e;simp [Vn,dtP,hp]
theorem znj {x:Nt}(hN:Nd I x.pt)(hf:Q7 (Yp x)=true):x.pt.n≤100000:=by
 have hl:x.pt.needs.length=x.pt.n:=hN.len
 have:=(W6 hl (by rw [←V9 hl.symm];exact hf)).1
 omega
end
structure EvS (I:Qv)(av:Option Addr)(n c:Nat)(xs:List Ev):Prop where
 sl:Sl I 49 zaB av n c xs
 m:∀ x∈xs,EvM I x
theorem EvS.mono {I I':Qv}{av:Option Addr}{n c:Nat}{xs:List Ev}(h:EvS I av n c xs)(hI:HLe I I'):EvS I' av n c xs:=⟨h.sl.mono hI,fun x hx=>(h.m x hx).mono hI⟩
theorem zcG (n:Int):(n != n)=false:=by simp
theorem ztp {rm:Int}(h:0≤rm∧rm≤255):∃ M:Nat,1+rm.tmod 4=(M:Int)∧1≤M∧M≤4:=by
 have e:rm.tmod 4=rm % 4:=Int.tmod_eq_emod_of_nonneg h.1
 rw [e]
 exact ⟨(1+rm % 4).toNat,by omega,by omega,by omega⟩
end
section
open Go Go.Kn Go.Proofs
theorem ztN:Fun Tryz.prog 10:=.of Tryz.func10 (by kernel_rfl) (by kernel_rfl)
theorem zkY:SlT Tryz.prog 79 47 49:=.of (by kernel_rfl)
theorem zth:SzT Tryz.prog 47 49:=.of (by kernel_rfl)
theorem zvl:Ve Tryz.prog 47 (.agg #[(.int .i64 0),(.int .i64 0),(.int .i64 0),(.int .i64 0),(.int .i64 0),(.int .i64 0),(.int .i64 0),(.int .i64 0),(.int .i64 0),(.int .i64 0),(.int .i64 0),(.int .i64 0),(.int .i64 0),(.int .i64 0),(.int .i64 0),(.int .i64 0),(.int .i64 0),(.int .i64 0),(.int .i64 0),(.int .i64 0),(.int .i64 0),(.int .i64 0),(.int .i64 0),(.int .i64 0),(.int .i64 0),(.int .i64 0),(.int .i64 0),(.int .i64 0),(.int .i64 0),(.int .i64 0),(.int .i64 0),(.int .i64 0),(.slice none 0 0),(.int .i64 0),(.int .i64 0),(.int .i64 0),(.int .i64 0),(.int .i64 0),(.int .i64 0),(.int .i64 0),(.int .i64 0),(.int .i64 0),(.int .i64 0),(.int .i64 0),(.string ⟨#[]⟩),(.string ⟨#[]⟩),(.int .i64 0),(.int .i64 0),(.int .i64 0)]):=.of (by kernel_rfl)
theorem zr8 (I:Qv){m:Nat}(hm:1≤m∧m≤24):Vl Tryz.prog 14 [.int .i64 m] I [] (fun v I' L'=>L'=[]∧∃ vr,v= .tuple #[vr,.int .i64 0]∧RmV I' vr (zbr m)):=by
 intro g H w hw
 refine (zla I m g H w hw).mono ?_
 rintro e w' ⟨v,I',L',h1,h2,h3,rfl,vr,rfl,hV⟩
 have hb:¬(decide ((m:Int)<1)||decide ((m:Int)>24))=true:=by simp;omega
 rw [if_neg hb] at hV
 exact ⟨_,_,_,h1,h2,h3,rfl,vr,by rw [if_neg hb],hV⟩
end
section
open Go Go.Kn Go.Proofs
theorem zgQ {xs:List Nt}(h:zbU xs):xs.Pairwise (fun x y=>YN x y<0):=
 List.pairwise_iff_getElem.2 fun i j hi hj hij=>h i j _ _ hij (List.getElem?_eq_getElem hi) (List.getElem?_eq_getElem hj)
theorem zrY {xs:List Nt}(h:xs.Pairwise (fun x y=>YN x y<0)):zbU xs:=fun i j x y hij hx hy=>by
 obtain ⟨hi,rfl⟩:=List.getElem?_eq_some_iff.1 hx
 obtain ⟨hj,rfl⟩:=List.getElem?_eq_some_iff.1 hy
 exact List.pairwise_iff_getElem.1 h i j hi hj hij
theorem zoR:∀ {xs ys:List Nt},xs.Pairwise (fun x y=>YN x y<0)→ys.Pairwise (fun x y=>YN x y<0)→(∀ y,y∈xs↔y∈ys)→xs=ys
 | [],[],_,_,_=>rfl
 | [],b::bs,_,_,h=>by have:=(h b).2 (List.mem_cons_self ..);cases this
 | a::al,[],_,_,h=>by have:=(h a).1 (List.mem_cons_self ..);cases this
 | a::al,b::bs,hx,hz,h=>by
  obtain ⟨x1,x2⟩:=List.pairwise_cons.1 hx
  obtain ⟨y1,y2⟩:=List.pairwise_cons.1 hz
  have e:a=b:=by
   rcases List.mem_cons.1 ((h a).1 (List.mem_cons_self ..)) with e | h1
   ·
    exact e
   ·
    rcases List.mem_cons.1 ((h b).2 (List.mem_cons_self ..)) with e | h2
    ·
     exact e.symm
    ·
     have h3:=y1 a h1
     have h4:=x1 b h2
     rw [Kv] at h4
     omega
  subst e
  refine congrArg _ (zoR x2 y2 fun y=>⟨fun hy=>?_,fun hy=>?_⟩)
  ·
   rcases List.mem_cons.1 ((h y).1 (List.mem_cons_of_mem _ hy)) with rfl | h1
   ·
    have:=x1 y hy;rw [JK] at this;omega
   ·
    exact h1
  ·
   rcases List.mem_cons.1 ((h y).2 (List.mem_cons_of_mem _ hy)) with rfl | h1
   ·
    have:=y1 y hy;rw [JK] at this;omega
   ·
    exact h1
theorem zmj {xs ys:List Nt}(hx:zbU xs)(hy:zbU ys)(h:∀ y,y∈xs↔y∈ys):xs=ys:=zoR (zgQ hx) (zgQ hy) h
def Can (y:Nt):Prop:=Va.ok (JT y)∧Yp y=y
theorem ziM {t:Nt}(h:TkN t):Can (Yp t):=⟨by rw [zcn];exact h.1,rfl⟩
theorem zti {x y:Nt}(hx:Can x)(hy:Can y)(h:YN x y=0):x=y:=by rw [←hx.2,←hy.2];exact zfw hx.1 hy.1 h
theorem zf1 {xs ys:List Nt}{t:Nt}(h:zf5 xs t=some ys)(hx:∀ x∈xs,Can x)(ht:Can t)(y:Nt):y∈ys↔y∈xs∨y=t:=by
 unfold zf5 at h
 split at h
 ·
  rename_i hh
  cases h
  refine ⟨fun h=>.inl h,fun h=>?_⟩
  rcases h with h | rfl
  ·
   exact h
  ·
   obtain ⟨z,h1,h2⟩:=zqO hh
   rw [←zti (hx z h1) ht h2];exact h1
 ·
  split at h
  ·
   cases h
   rw [UO];exact ⟨fun h=>h.symm,fun h=>h.symm⟩
  ·
   cases h
theorem zqW {xs:List Nt}(t:Nt)(h:xs.length<4096):∃ ys,zf5 xs t=some ys:=by
 unfold zf5
 rw [if_pos h]
 split<;>exact ⟨_,rfl⟩
def Has (r:Rd)(i:Nat)(y:Nt):Prop:=(∃ xs,r.ps[i]? =some xs∧y∈xs)∨∃ p∈r.qs,p.to_=(i:Int)∧okN p.data=some y
theorem Kn.can {m:Nat}{r:Rd}{told:List Nt}(h:Kn m r told){xs:List Nt}(hx:xs∈r.ps):∀ y∈xs,Can y:=fun y hy=>by
 obtain ⟨t,h1,rfl⟩:=h.mem xs hx y hy
 exact ziM (h.tok t h1)
section
variable {m:Nat} {r:Rd} {told:List Nt} {x:Ev}
theorem Kn.at (h:Kn m r told)(hq:r.qs.length≤4096){i:Int}(h0:0≤i)(h1:i<(r.qs.length:Int)):∃ p,r.qs[i.toNat]? =some p∧atE r.qs r.ks i=0∧atP r.qs r.ks i=p:=by
 have hx:r.qs[i.toNat]? =some r.qs[i.toNat]:=List.getElem?_eq_getElem (by omega)
 exact ⟨_,hx,zvH (by rw [h.net hq];rfl) (by simp;omega) hx⟩
theorem Kn.dlv (h:Kn m r told)(hq:r.qs.length≤4096)(ht:told.length<4096)(hk:x.kind=3)(h0:0≤x.at_)(h1:x.at_<(r.qs.length:Int)):
  ∃ r',doF r (Yw x)=(0,r')∧r'.qs.length+1=r.qs.length∧∀ i y,Has r' i y↔Has r i y:=by
 obtain ⟨p,hp,ha,hap⟩:=h.at hq h0 h1
 have hpm:=List.mem_of_getElem? hp
 have hg:=h.pk p hpm
 obtain ⟨t,htm,hok⟩:=hg.read h.tok
 have hdl:V7 r.qs r.ks x.at_=p:=by rw [h.ks] at hap ⊢;rw [zcz];exact hap
 have hto:p.to_.toNat<r.ps.length:=by have:=hg.to_;rw [h.len];omega
 have hxs:r.ps[p.to_.toNat]? =some r.ps[p.to_.toNat]:=List.getElem?_eq_getElem hto
 have hxm:=List.mem_of_getElem? hxs
 obtain ⟨ys,hy⟩:=zqW (xs:=r.ps[p.to_.toNat]) (Yp t) (by have:=h.few hxm;omega)
 have hl:XC r.ps p.to_.toNat (Yp t)=some (r.ps.set p.to_.toNat ys):=by unfold XC;rw [hxs,Option.bind_some,hy];rfl
 have hiff:=zf1 hy (h.can hxm) (ziM (h.tok t htm))
 refine ⟨⟨r.ps.set p.to_.toNat ys,r.qs.eraseIdx x.at_.toNat,r.ks⟩,?_,?_,fun i y=>?_⟩
 ·
  rw [UL (h.chk hq)]
  unfold XR
  have e1:(Yw x).kind=3:=hk
  rw [if_neg (by rw [e1];decide),if_neg (by rw [e1];decide),if_pos e1]
  unfold zaL
  have e2:(Yw x).at_=x.at_:=rfl
  rw [e2,if_neg (by rw [ha];simp),hdl,if_neg hg.ne,hok,Option.bind_some,hl]
 ·
  show (r.qs.eraseIdx x.at_.toNat).length+1=_
  rw [List.length_eraseIdx,if_pos (by omega)];omega
 ·
  constructor
  ·
   rintro (⟨zs,hz,hyz⟩ | ⟨q,hqm,hqt,hqo⟩)
   ·
    simp only [List.getElem?_set] at hz
    split at hz
    ·
     rename_i e
     simp only [Option.some.injEq] at hz;subst hz
     rcases (hiff y).1 hyz with h2 | rfl
     ·
      exact .inl ⟨_,by rw [←e];exact hxs,h2⟩
     ·
      exact .inr ⟨p,hpm,by have:=hg.to_;omega,hok⟩
    ·
     exact .inl ⟨zs,hz,hyz⟩
   ·
    exact .inr ⟨q,(List.eraseIdx_sublist ..).mem hqm,hqt,hqo⟩
  ·
   rintro (⟨zs,hz,hyz⟩ | ⟨q,hqm,hqt,hqo⟩)
   ·
    by_cases e:p.to_.toNat=i
    ·
     rw [←e,hxs] at hz;cases hz
     exact .inl ⟨ys,by simp only [List.getElem?_set];rw [if_pos e,if_pos hto],(hiff y).2 (.inl hyz)⟩
    ·
     exact .inl ⟨zs,by simp only [List.getElem?_set];rw [if_neg e];exact hz,hyz⟩
   ·
    obtain ⟨j,hj⟩:=List.mem_iff_getElem?.1 hqm
    by_cases e:j=x.at_.toNat
    ·
     subst e
     rw [hp] at hj;cases hj
     rw [hok] at hqo;cases hqo
     have e3:p.to_.toNat=i:=by omega
     exact .inl ⟨ys,by simp only [List.getElem?_set];rw [if_pos e3,if_pos hto],(hiff _).2 (.inr rfl)⟩
    ·
     exact .inr ⟨q,List.mem_eraseIdx_iff_getElem?.2 ⟨j,e,hj⟩,hqt,hqo⟩
theorem Kn.rep (h:Kn m r told)(hq:r.qs.length<4096)(hk:x.kind=5)(h0:0≤x.at_)(h1:x.at_<(r.qs.length:Int)):
  ∃ r',doF r (Yw x)=(0,r')∧r'.qs.length=r.qs.length+1∧∀ i y,Has r' i y↔Has r i y:=by
 obtain ⟨p,hp,ha,hap⟩:=h.at (by omega) h0 h1
 have hpm:=List.mem_of_getElem? hp
 have hg:=h.pk p hpm
 refine ⟨⟨r.ps,r.qs++[p],r.ks⟩,?_,by simp,fun i y=>?_⟩
 ·
  rw [UL (h.chk (by omega))]
  unfold XR
  have e1:(Yw x).kind=5:=hk
  rw [if_neg (by rw [e1];decide),if_neg (by rw [e1];decide),if_neg (by rw [e1];decide),if_neg (by rw [e1];decide),if_pos e1]
  unfold za6
  have e2:(Yw x).at_=x.at_:=rfl
  have e3:UE r.qs r.ks x.at_=0:=by
   unfold UE
   rw [if_pos ha,hap]
   exact zhX (by rw [h.net (by omega),hg.ok h.m0.2 h.tok];rfl) (by simp;omega)
  rw [e2,if_neg (by rw [e3];simp),hap]
 ·
  unfold Has
  refine ⟨fun h=>h.imp id ?_,fun h=>h.imp id ?_⟩
  ·
   rintro ⟨q,hqm,h2⟩
   rcases List.mem_append.1 hqm with h3 | h3
   ·
    exact ⟨q,h3,h2⟩
   ·
    rw [List.mem_singleton.1 h3] at h2;exact ⟨p,hpm,h2⟩
  ·
   rintro ⟨q,hqm,h2⟩
   exact ⟨q,List.mem_append_left _ hqm,h2⟩
end
end
end Go.Proofs.YtjblkbkmblkgoaaGreat
namespace Go.Kn
section
open Go Go.Proofs
theorem Xi:∀ (a b:List UInt8),Op.bytesLess a b=decide (Lib.compareBytes a b<0)
 | [],[]=>rfl
 | [],_::_=>rfl
 | _::_,[]=>rfl
 | x::a,y::b=>by
  unfold Op.bytesLess Lib.compareBytes
  rw [Xi a b]
  by_cases h:x<y
  ·
   simp [h]
  ·
   by_cases h2:y<x
   ·
    have:(x==y)=false:=by
     rw [beq_eq_false_iff_ne];rintro rfl;exact h h2
    simp [h,h2,this]
   ·
    have e:x=y:=UInt8.le_antisymm (UInt8.not_lt.1 h2) (UInt8.not_lt.1 h)
    subst e;simp [h]
section
variable {C:Cx} {E:Env} {I:Qv} {loc:Loc} {S:GS} {dst:Option Tmp} {pos:String} {af:Array Edge} {gd:Option (Nat×Bool)} {x y:Operand}
theorem U2 {t t' ty:TypeId}{s1 s2:ByteArray}(hx:QH S E x=some (.string s1))(hy:QH S E y=some (.string s2)):Za C S E I loc ⟨dst,.binOp .lss t x y t',ty,pos,af,gd⟩ (.bool (decide (Lib.compareBytes s1.data.toList s2.data.toList<0))):=
 .of (by intro c e;cases e) fun a w ha hg hc _=>by
  have e1:∀ op x y t (a b:ByteArray),(eqGuard op t x y (.string a) (.string b)).run C.P w= .ok () w:=by intros;unfold eqGuard;rename_i op _ _ _ _ _;cases op<;>rfl
  have e3:decide (Lib.compareBytes s1.data.toList s2.data.toList<0)=Op.bytesLess s1.toList s2.toList:=by rw [ByteArray.toList_eq,ByteArray.toList_eq,Xi]
  rw [e3]
  simp only [execOp,Qj ha hg hc hx,Qj ha hg hc hy,Sem.run_bind,e1,Result.andThen]
  rfl
end
end
end Go.Kn
namespace Go.Proofs.YtjblkbkmblkgoaaGreat
section
open Go Go.Kn Go.Proofs
def US:List Nt→Nt→Nat
 | [],_=>0
 | x::xs,t=>if YN x t<0 then US xs t+1 else 0
theorem zc5:∀ (xs:List Nt) (t:Nt),US xs t≤xs.length
 | [],_=>Nat.le_refl _
 | x::xs,t=>by
  unfold US
  have:=zc5 xs t
  split<;>simp<;>omega
theorem zfe:∀ {xs:List Nt} {t:Nt} {j:Nat} {x:Nt},j<US xs t→xs[j]? =some x→YN x t<0
 | [],_,_,_,h,_=>absurd h (Nat.not_lt_zero _)
 | x::xs,t,j,y,h,hy=>by
  unfold US at h
  split at h
  ·
   rename_i hx
   cases j with
   | zero=>simp at hy;subst hy;exact hx
   | succ j=>exact zfe (xs:=xs) (j:=j) (by omega) (by simpa using hy)
  ·
   omega
theorem ze9:∀ {xs:List Nt} {t:Nt} {x:Nt},xs[US xs t]? =some x→¬YN x t<0
 | [],_,_,h=>by simp [US] at h
 | x::xs,t,y,h=>by
  unfold US at h
  split at h
  ·
   rename_i hx
   exact ze9 (xs:=xs) (by simpa using h)
  ·
   rename_i hx
   simp at h;subst h;exact hx
theorem ziS {xs:List Nt}{t:Nt}{k:Nat}(h:∀ (j:Nat) (x:Nt),j<k→xs[j]? =some x→YN x t<0)(hk:k≤xs.length)(hn:∀ x,xs[k]? =some x→¬YN x t<0):US xs t=k:=by
 rcases Nat.lt_trichotomy (US xs t) k with h1 | h1 | h1
 ·
  have h2:xs[US xs t]? =some xs[US xs t]:=List.getElem?_eq_getElem (by omega)
  exact absurd (h _ _ h1 h2) (ze9 h2)
 ·
  exact h1
 ·
  have hl:k<xs.length:=by have:=zc5 xs t;omega
  have h2:xs[k]? =some xs[k]:=List.getElem?_eq_getElem hl
  exact absurd (zfe h1 h2) (hn _ h2)
def zdo (xs:List Nt)(t:Nt):Bool:=match xs[US xs t]? with | some x=>smN x t | none=>false
def zh4 (xs:List Nt)(t:Nt):List Nt:=if zdo xs t=true then xs else xs.take (US xs t)++t::xs.drop (US xs t)
theorem zaE {xs:List Nt}{t x:Nt}(h:xs[US xs t]? =some x):zdo xs t=smN x t:=by unfold zdo;rw [h]
theorem zjF {xs:List Nt}{t:Nt}(h:xs.length≤US xs t):zdo xs t=false:=by unfold zdo;rw [List.getElem?_eq_none h]
theorem zc2 {xs:List Nt}{t:Nt}(h:zdo xs t=true):zh4 xs t=xs:=if_pos h
theorem zci {xs:List Nt}{t:Nt}(h:zdo xs t=false):zh4 xs t=xs.take (US xs t)++t::xs.drop (US xs t):=if_neg (by rw [h];simp)
theorem zrN {xs:List Nt}{t x:Nt}{k:Nat}(h:∀ (j:Nat) (x:Nt),j<k→xs[j]? =some x→YN x t<0)(hx:xs[k]? =some x)(hl:YN x t<0):∀ (j:Nat) (x:Nt),j<k+1→xs[j]? =some x→YN x t<0:=fun j y hj hy=>by
 rcases Nat.lt_succ_iff_lt_or_eq.1 hj with h1 | rfl
 ·
  exact h j y h1 hy
 ·
  rw [hx] at hy;cases hy;exact hl
theorem znQ {xs:List Nt}{t:Nt}(h:zbU xs)(hd:zdo xs t=false)(hc:∀ x,xs[US xs t]? =some x→smN x t=false→YN x t≠0):zbU (zh4 xs t):=by
 rw [zci hd]
 have hle:=zc5 xs t
 have hgt:∀ (j:Nat) (x:Nt),US xs t≤j→xs[j]? =some x→YN t x<0:=fun j x hj hx=>by
  have hl:=(List.getElem?_eq_some_iff.1 hx).1
  have h2:xs[US xs t]? =some xs[US xs t]:=List.getElem?_eq_getElem (by omega)
  have h3:=ze9 h2
  have h4:=hc _ h2 (by rw [←zaE h2];exact hd)
  have h5:YN t xs[US xs t]<0:=by rw [Kv];omega
  rcases Nat.eq_or_lt_of_le hj with rfl | h6
  ·
   rw [h2] at hx;cases hx;exact h5
  ·
   exact Vv h5 (h _ _ _ _ h6 h2 hx)
 refine zrY (List.pairwise_append.2 ⟨(zgQ h).sublist (List.take_sublist ..),List.pairwise_cons.2 ⟨fun y hy=>?_,(zgQ h).sublist (List.drop_sublist ..)⟩,fun x hx y hy=>?_⟩)
 ·
  obtain ⟨j,hj⟩:=List.mem_iff_getElem?.1 hy
  rw [List.getElem?_drop] at hj
  exact hgt _ _ (by omega) hj
 ·
  obtain ⟨i,hi⟩:=List.mem_iff_getElem?.1 hx
  have hil:=(List.getElem?_eq_some_iff.1 hi).1
  rw [List.length_take] at hil
  rw [List.getElem?_take_of_lt (by omega)] at hi
  have h7:=zfe (t:=t) (by omega) hi
  rcases List.mem_cons.1 hy with rfl | hy
  ·
   exact h7
  ·
   obtain ⟨j,hj⟩:=List.mem_iff_getElem?.1 hy
   rw [List.getElem?_drop] at hj
   exact Vv h7 (hgt _ _ (by omega) hj)
theorem XX {xs:List Nt}{t y:Nt}(hd:zdo xs t=false):y∈zh4 xs t↔y=t∨y∈xs:=by
 rw [zci hd,List.mem_append,List.mem_cons]
 have e:y∈xs↔y∈xs.take (US xs t)∨y∈xs.drop (US xs t):=by rw [←List.mem_append,List.take_append_drop]
 rw [e]
 constructor
 ·
  rintro (h | h | h)
  ·
   exact .inr (.inl h)
  ·
   exact .inl h
  ·
   exact .inr (.inr h)
 ·
  rintro (h | h | h)
  ·
   exact .inr (.inl h)
  ·
   exact .inl h
  ·
   exact .inr (.inr h)
theorem zmw (xs:List Nt)(t:Nt):(zh4 xs t).length≤xs.length+1:=by
 unfold zh4
 have:=zc5 xs t
 split
 ·
  omega
 ·
  simp;omega
theorem zc7 {xs:List Nt}{t:Nt}{p:Nt→Prop}(h:∀ x∈xs,p x)(ht:p t):∀ x∈zh4 xs t,p x:=fun x hx=>by
 cases hd:zdo xs t with
 | true=>rw [zc2 hd] at hx;exact h x hx
 | false=>
  rcases (XX hd).1 hx with rfl | hx
  ·
   exact ht
  ·
   exact h x hx
theorem zc4 {I:Qv}{av a:Option Addr}{n c m c2 k:Nat}{xs:List Nt}{t:Nt}(hP:UB I av n c xs)(hT:NtM I t)(hR:Sl I 45 Zn a m c2 (xs.take k++t::xs.drop k))(hk:US xs t=k)(hh:zdo xs t=false):UB I a m c2 (zh4 xs t):=
 ⟨by rw [zci hh,hk];exact hR,zc7 (p:=fun x=>Nd I x.pt) hP.nd hT.nd,zc7 (p:=fun x=>Q7 x=true→NtM I x) hP.m fun _=>hT⟩
end
section
open Go Go.Kn Go.Proofs
theorem zuD:Fun Tryz.prog 88:=.of Tryz.func88 (by kernel_rfl) (by kernel_rfl)
theorem zmy {I:Qv}(x y:Nt)(hX:NtM I x)(hY:NtM I y):Vl Tryz.prog 88 [JL x,JL y] I [] (fun v I' L'=>L'=[]∧v= .bool (decide (YN x y<0))):=by
 intro g H w hw
 refine qe Tryz.func88 Tryz.ntmps88 hw ?_
 have hIc:=zwQ I
 refine zR ?_
 refine Zd rfl rfl rfl (fun b_2=>?_)
 refine Zd rfl rfl rfl (fun b_3=>?_)
 refine zA (Qb ?_)
 refine QN .here (fun I1 hI1 hb1=>?_)
 have hX:=hX.mono hI1;have hY:=hY.mono hI1;have hIc:=hIc.trans hI1
 have h3:=BxI.of hb1
 refine QN .here (fun I2 hI2 hb2=>?_)
 have hX:=hX.mono hI2;have hY:=hY.mono hI2;have h3:=h3.mono hI2;have hIc:=hIc.trans hI2
 have h2:=BxI.of hb2
 refine Qc (Qr ?_)
 have hD:=zwQ I2
 refine ZK ?_
 refine QZ I2 [] mixed ?_
 refine zT 0 rfl (Qg rfl Zr (fun hg=>by exact BxI.cells (vs:=Zn x) h2) rfl) hD ?_
 refine Q8 1 3 rfl rfl (by kernel_rfl) ?_ ?_
 ·
  refine QC (cap:=[]) (vs:=[_]) rfl rfl Xh .nil (Xo x hX.nd hX.nn hX.ok hX.len) rfl rfl ?_
  rintro vv3 I3 L3 hI3 ⟨rfl,a1,c1,rfl,hS1⟩
  have hY:=hY.mono hI3;have h3:=h3.mono hI3;have hIc:=hIc.trans hI3;have hD:=hD.trans hI3
  refine Qb ?_
  refine zD hD ?_
  refine Q8 2 3 rfl rfl (by kernel_rfl) ?_ ?_
  ·
   refine zV (ZG rfl bst (fun hg=>hS1)) ?_
   refine Qb ?_
   refine zD hD ?_
   refine qd 3 rfl ?_
   refine zV (Qg rfl Zr (fun hg=>by exact BxI.cells (vs:=Zn y) h3) rfl) ?_
   refine Qb ?_
   refine zD hD ?_
   refine qd 4 rfl ?_
   refine QC (cap:=[]) (vs:=[_]) rfl rfl Xh .nil (Xo y hY.nd hY.nn hY.ok hY.len) rfl rfl ?_
   rintro vv4 I4 L4 hI4 ⟨rfl,a2,c2,rfl,hS2⟩
   have hIc:=hIc.trans hI4;have hD:=hD.trans hI4
   refine Qb ?_
   refine zD hD ?_
   refine qd 5 rfl ?_
   refine zV (ZG rfl bst (fun hg=>hS2)) ?_
   refine Qb ?_
   refine zD hD ?_
   refine zT 6 rfl (U2 rfl rfl) hD ?_
   refine zT 7 rfl (QB rfl) hD ?_
   refine Qm (by kernel_rfl) ?_
   refine QA ?_
   refine Qc (QF ?_)
   exact QR rfl rfl (fun w hw=>⟨_,I4,[],rfl,hIc,hw.subL Qe,rfl,rfl⟩)
  refine zV (Qg rfl Zr (fun hg=>by exact BxI.cells (vs:=Zn y) h3) rfl) ?_
  refine Qb ?_
  refine zD hD ?_
  refine Q8 2 4 rfl rfl (by kernel_rfl) ?_ ?_
  ·
   refine zV (ZG rfl bst (fun hg=>hS1)) ?_
   refine Qb ?_
   refine zD hD ?_
   refine qd 4 rfl ?_
   refine QC (cap:=[]) (vs:=[_]) rfl rfl Xh .nil (Xo y hY.nd hY.nn hY.ok hY.len) rfl rfl ?_
   rintro vv5 I5 L5 hI5 ⟨rfl,a2,c2,rfl,hS2⟩
   have hIc:=hIc.trans hI5;have hD:=hD.trans hI5
   refine Qb ?_
   refine zD hD ?_
   refine qd 5 rfl ?_
   refine zV (ZG rfl bst (fun hg=>hS2)) ?_
   refine Qb ?_
   refine zD hD ?_
   refine zT 6 rfl (U2 rfl rfl) hD ?_
   refine zT 7 rfl (QB rfl) hD ?_
   refine Qm (by kernel_rfl) ?_
   refine QA ?_
   refine Qc (QF ?_)
   exact QR rfl rfl (fun w hw=>⟨_,I5,[],rfl,hIc,hw.subL Qe,rfl,rfl⟩)
  refine QC (cap:=[]) (vs:=[_]) rfl rfl Xh .nil (Xo y hY.nd hY.nn hY.ok hY.len) rfl rfl ?_
  rintro vv6 I6 L6 hI6 ⟨rfl,a2,c2,rfl,hS2⟩
  have hS1:=hS1.mono hI6;have hIc:=hIc.trans hI6;have hD:=hD.trans hI6
  refine Qb ?_
  refine zD hD ?_
  refine Q8 2 5 rfl rfl (by kernel_rfl) ?_ ?_
  ·
   refine zV (ZG rfl bst (fun hg=>hS1)) ?_
   refine Qb ?_
   refine zD hD ?_
   refine qd 5 rfl ?_
   refine zV (ZG rfl bst (fun hg=>hS2)) ?_
   refine Qb ?_
   refine zD hD ?_
   refine zT 6 rfl (U2 rfl rfl) hD ?_
   refine zT 7 rfl (QB rfl) hD ?_
   refine Qm (by kernel_rfl) ?_
   refine QA ?_
   refine Qc (QF ?_)
   exact QR rfl rfl (fun w hw=>⟨_,I6,[],rfl,hIc,hw.subL Qe,rfl,rfl⟩)
  refine zV (ZG rfl bst (fun hg=>hS2)) ?_
  refine Qb ?_
  refine zD hD ?_
  refine qd 2 rfl ?_
  refine zV (ZG rfl bst (fun hg=>hS1)) ?_
  refine Qb ?_
  refine zD hD ?_
  refine zT 6 rfl (U2 rfl rfl) hD ?_
  refine zT 7 rfl (QB rfl) hD ?_
  refine Qm (by kernel_rfl) ?_
  refine QA ?_
  refine Qc (QF ?_)
  exact QR rfl rfl (fun w hw=>⟨_,I6,[],rfl,hIc,hw.subL Qe,rfl,rfl⟩)
 refine zV (Qg rfl Zr (fun hg=>by exact BxI.cells (vs:=Zn y) h3) rfl) ?_
 refine Qb ?_
 refine zD hD ?_
 refine qd 1 rfl ?_
 refine QC (cap:=[]) (vs:=[_]) rfl rfl Xh .nil (Xo x hX.nd hX.nn hX.ok hX.len) rfl rfl ?_
 rintro vv7 I7 L7 hI7 ⟨rfl,a1,c1,rfl,hS1⟩
 have hY:=hY.mono hI7;have hIc:=hIc.trans hI7;have hD:=hD.trans hI7
 refine Qb ?_
 refine zD hD ?_
 refine Q8 2 4 rfl rfl (by kernel_rfl) ?_ ?_
 ·
  refine zV (ZG rfl bst (fun hg=>hS1)) ?_
  refine Qb ?_
  refine zD hD ?_
  refine qd 4 rfl ?_
  refine QC (cap:=[]) (vs:=[_]) rfl rfl Xh .nil (Xo y hY.nd hY.nn hY.ok hY.len) rfl rfl ?_
  rintro vv8 I8 L8 hI8 ⟨rfl,a2,c2,rfl,hS2⟩
  have hIc:=hIc.trans hI8;have hD:=hD.trans hI8
  refine Qb ?_
  refine zD hD ?_
  refine qd 5 rfl ?_
  refine zV (ZG rfl bst (fun hg=>hS2)) ?_
  refine Qb ?_
  refine zD hD ?_
  refine zT 6 rfl (U2 rfl rfl) hD ?_
  refine zT 7 rfl (QB rfl) hD ?_
  refine Qm (by kernel_rfl) ?_
  refine QA ?_
  refine Qc (QF ?_)
  exact QR rfl rfl (fun w hw=>⟨_,I8,[],rfl,hIc,hw.subL Qe,rfl,rfl⟩)
 refine QC (cap:=[]) (vs:=[_]) rfl rfl Xh .nil (Xo y hY.nd hY.nn hY.ok hY.len) rfl rfl ?_
 rintro vv9 I9 L9 hI9 ⟨rfl,a2,c2,rfl,hS2⟩
 have hS1:=hS1.mono hI9;have hIc:=hIc.trans hI9;have hD:=hD.trans hI9
 refine Qb ?_
 refine zD hD ?_
 refine Q8 2 5 rfl rfl (by kernel_rfl) ?_ ?_
 ·
  refine zV (ZG rfl bst (fun hg=>hS1)) ?_
  refine Qb ?_
  refine zD hD ?_
  refine qd 5 rfl ?_
  refine zV (ZG rfl bst (fun hg=>hS2)) ?_
  refine Qb ?_
  refine zD hD ?_
  refine zT 6 rfl (U2 rfl rfl) hD ?_
  refine zT 7 rfl (QB rfl) hD ?_
  refine Qm (by kernel_rfl) ?_
  refine QA ?_
  refine Qc (QF ?_)
  exact QR rfl rfl (fun w hw=>⟨_,I9,[],rfl,hIc,hw.subL Qe,rfl,rfl⟩)
 refine zV (ZG rfl bst (fun hg=>hS2)) ?_
 refine Qb ?_
 refine zD hD ?_
 refine qd 2 rfl ?_
 refine zV (ZG rfl bst (fun hg=>hS1)) ?_
 refine Qb ?_
 refine zD hD ?_
 refine zT 6 rfl (U2 rfl rfl) hD ?_
 refine zT 7 rfl (QB rfl) hD ?_
 refine Qm (by kernel_rfl) ?_
 refine QA ?_
 refine Qc (QF ?_)
 exact QR rfl rfl (fun w hw=>⟨_,I9,[],rfl,hIc,hw.subL Qe,rfl,rfl⟩)
theorem zne {I:Qv}{av:Option Addr}{n c:Nat}{xs:List Nt}{t:Nt}(hP:UB I av n c xs)(hM:∀ x∈xs,NtM I x)(hT:NtM I t)(hn:n<4096):Vl Tryz.prog 84 [.slice av n c,JL t] I [] (fun v I' L'=>L'=[]∧∃ a m c,v= .tuple #[.slice a m c,.int .i64 0]∧UB I' a m c (zh4 xs t)):=by
 intro g H w hw
 refine qe Tryz.func84 Tryz.ntmps84 hw ?_
 have hIc:=zwQ I
 have hln:=hP.sl.len
 have hcap:=hP.sl.cap
 refine zR ?_
 refine Zd rfl rfl rfl (fun b_3=>?_)
 refine zA ?_
 refine zA (Qb ?_)
 refine QN .here (fun I1 hI1 hb1=>?_)
 have hP:=hP.mono hI1;have hT:=hT.mono hI1;have hIc:=hIc.trans hI1
 have h3:=BxI.of hb1
 refine Qc (zR (zA (zN ?_)))
 refine zY [(0,_),(3,_)] (fun T L0 E I' loc'=>∃ (k:Nat),E=(6,.int .i64 k)::T∧HLe I1 I'∧L0=loc'∧US xs t=k∧k≤n) ?_ ?_
 ·
  have hK0:=zwQ I1
  refine QE ?_
  refine zU [(0,_),(3,_)] (fun T L0 mz E I' loc'=>∃ (k:Nat),mz=n-k∧E=(6,.int .i64 k)::T∧HLe I1 I'∧L0=loc'∧k≤n∧(∀ (j:Nat) (x:Nt),j<k→xs[j]? =some x→YN x t<0)) ?_ (h:=⟨0,rfl,rfl,zwQ _,rfl,Nat.zero_le _,fun j x h=>absurd h (Nat.not_lt_zero _)⟩)
  rintro mz E J2 loc' ⟨k,rfl,rfl,hJ,rfl,hk,hall⟩
  have hP:=hP.mono hJ;have hT:=hT.mono hJ;have h3:=h3.mono hJ;have hIc:=hIc.trans hJ;have hK0:=hK0.trans hJ
  have hB0:=hJ
  refine Qr (Qr ?_)
  rcases Nat.lt_or_ge k n with hkn | hkn
  ·
   obtain ⟨x,hx⟩:∃ y,xs[k]? =some y:=⟨_,List.getElem?_eq_getElem (by omega)⟩
   have hxm:=List.mem_of_getElem? hx
   have hD:=zwQ J2
   refine ZK ?_
   refine QZ J2 [] mixed ?_
   refine zT 0 rfl (Qh rfl) hD ?_
   refine zT 1 rfl (Qh rfl) hD ?_
   refine zT 2 rfl (Zc rfl Zu) hD ?_
   refine zT 3 rfl (QV rfl rfl rfl) hD ?_
   rw [show decide (((k:Nat):Int)<((n:Nat):Int))=true by simp;omega]
   refine zT 4 rfl (Qh rfl) hD ?_
   refine zw 5 11 rfl (Qh rfl) hD ?_
   refine zw 6 11 rfl (Qh rfl) hD ?_
   refine zw 7 11 rfl (QX rfl rfl Zu hP.sl (fun hg=>by omega)) hD ?_
   refine zw 8 11 rfl (Qg rfl Zr (fun hg=>by exact zwR hP.sl hx) rfl) hD ?_
   refine zw 9 11 rfl (Qg rfl Zr (fun hg=>by exact BxI.cells (vs:=Zn t) h3) rfl) hD ?_
   refine qd 10 rfl ?_
   refine Q2 (dj:=11) rfl rfl rfl ?_
   refine QC (cap:=[]) (vs:=[_,_]) rfl rfl zuD .nil (zmy x t ((hM x hxm).mono hIc) hT) rfl rfl ?_
   rintro vv3 I3 L3 hI3 ⟨rfl,rfl⟩
   have hK0:=hK0.trans hI3;have hB0:=hB0.trans hI3;have hD:=hD.trans hI3
   refine Qb ?_
   refine zD hD ?_
   refine zT 11 rfl (Zz rfl rfl rfl) hD ?_
   refine Qm (by kernel_rfl) ?_
   refine QA ?_
   refine Qc ?_
   refine zI ?_ ?_<;>intro hc18
   ·
    have hbt:YN x t<0:=by simpa using hc18
    refine Qw (Qc (QE (Qk (zM ?_))))
    refine zB ?_
    refine zA (Qb (Qp ?_))
    exact zm (h:=⟨n-(k+1),by omega,k+1,rfl,rfl,hB0,rfl,by omega,zrN hall hx hbt⟩)
   have hkp:US xs t=k:=ziS hall (by omega) (fun y hy=>by rw [hx] at hy;cases hy;simpa using hc18)
   refine ZC (Qt (Qt (QD ?_)))
   exact zm (h:=⟨_,rfl,hK0,rfl,hkp,hk⟩)
  have hD:=zwQ J2
  refine ZK ?_
  refine QZ J2 [] mixed ?_
  refine zT 0 rfl (Qh rfl) hD ?_
  refine zT 1 rfl (Qh rfl) hD ?_
  refine zT 2 rfl (Zc rfl Zu) hD ?_
  refine zT 3 rfl (QV rfl rfl rfl) hD ?_
  rw [show decide (((k:Nat):Int)<((n:Nat):Int))=false by simp;omega]
  refine zT 4 rfl (Qh rfl) hD ?_
  refine zW 5 11 hD ?_
  refine zW 6 11 hD ?_
  refine zW 7 11 hD ?_
  refine zW 8 11 hD ?_
  refine zW 9 11 hD ?_
  refine zW 10 11 hD ?_
  refine zT 11 rfl (Kh rfl rfl rfl) hD ?_
  refine Qm (by kernel_rfl) ?_
  refine QA ?_
  refine Qc ?_
  refine zI ?_ ?_<;>intro hc18
  ·
   cases hc18
  have hkp:US xs t=k:=ziS hall (by omega) (fun y hy=>by have h:=(List.getElem?_eq_some_iff.1 hy).1;omega)
  refine ZC (Qt (Qt (QD ?_)))
  exact zm (h:=⟨_,rfl,hK0,rfl,hkp,hk⟩)
 rintro E J4 loc' ⟨k,rfl,hJ5,rfl,hkp,hk⟩
 have hP:=hP.mono hJ5;have hT:=hT.mono hJ5;have h3:=h3.mono hJ5;have hIc:=hIc.trans hJ5
 refine zY [(0,_),(3,_),(6,_)] (fun T L0 E I' loc'=>E=T∧HLe J4 I'∧L0=loc'∧zdo xs t=false) ?_ ?_
 ·
  have hKc4:=zwQ J4
  refine Qr ?_
  rcases Nat.lt_or_ge k n with hkn | hkn
  ·
   obtain ⟨x,hx⟩:∃ y,xs[k]? =some y:=⟨_,List.getElem?_eq_getElem (by omega)⟩
   have hxm:=List.mem_of_getElem? hx
   have hD:=zwQ J4
   refine zjT mixed ?_
   refine zT 0 rfl (Qh rfl) hD ?_
   refine zT 1 rfl (Qh rfl) hD ?_
   refine zT 2 rfl (Zc rfl Zu) hD ?_
   refine zT 3 rfl (QV rfl rfl rfl) hD ?_
   rw [show decide (((k:Nat):Int)<((n:Nat):Int))=true by simp;omega]
   refine zT 4 rfl (Qh rfl) hD ?_
   refine zw 5 25 rfl (Qh rfl) hD ?_
   refine zw 6 25 rfl (Qh rfl) hD ?_
   refine zw 7 25 rfl (QX rfl rfl Zu hP.sl (fun hg=>by omega)) hD ?_
   refine zw 8 25 rfl (Qg rfl Zr (fun hg=>by exact zwR hP.sl hx) rfl) hD ?_
   refine zw 9 25 rfl (Qg rfl Zr (fun hg=>by exact BxI.cells (vs:=Zn t) h3) rfl) hD ?_
   refine qd 10 rfl ?_
   refine Q2 (dj:=25) rfl rfl rfl ?_
   refine qcV (vs:=[_,_]) rfl zn7 (zsE (hP.nd x hxm) hT.nd (hM x hxm).nn) ?_
   refine Qb ?_
   refine zD hD ?_
   refine zT 11 rfl (Zz rfl rfl rfl) hD ?_
   refine Qm (by kernel_rfl) ?_
   refine QA ?_
   refine Qc ?_
   refine zI ?_ ?_<;>intro hc32
   ·
    have hh:zdo xs t=true:=by rw [zaE (by rw [hkp];exact hx)];exact hc32
    refine zR (zM ?_)
    refine zA ?_
    refine zA (zN (QF (Qi ?_)))
    exact Vq rfl rfl rfl (fun w hw=>⟨_,J4,[],rfl,hIc,hw.subL Qe,rfl,_,_,_,rfl,by rw [zc2 hh];exact hP⟩)
   have hh:zdo xs t=false:=by rw [zaE (by rw [hkp];exact hx)];simpa using hc32
   refine Qw ?_
   exact zm (h:=⟨rfl,hKc4,rfl,hh⟩)
  have hD:=zwQ J4
  refine zjT mixed ?_
  refine zT 0 rfl (Qh rfl) hD ?_
  refine zT 1 rfl (Qh rfl) hD ?_
  refine zT 2 rfl (Zc rfl Zu) hD ?_
  refine zT 3 rfl (QV rfl rfl rfl) hD ?_
  rw [show decide (((k:Nat):Int)<((n:Nat):Int))=false by simp;omega]
  refine zT 4 rfl (Qh rfl) hD ?_
  refine zW 5 25 hD ?_
  refine zW 6 25 hD ?_
  refine zW 7 25 hD ?_
  refine zW 8 25 hD ?_
  refine zW 9 25 hD ?_
  refine zW 10 25 hD ?_
  refine zT 11 rfl (Kh rfl rfl rfl) hD ?_
  refine Qm (by kernel_rfl) ?_
  refine QA ?_
  refine Qc ?_
  refine zI ?_ ?_<;>intro hc32
  ·
   cases hc32
  have hh:zdo xs t=false:=zjF (by omega)
  refine Qw ?_
  exact zm (h:=⟨rfl,hKc4,rfl,hh⟩)
 rintro E J5 loc' ⟨rfl,hJ7,rfl,hh⟩
 have hP:=hP.mono hJ7;have hT:=hT.mono hJ7;have h3:=h3.mono hJ7;have hIc:=hIc.trans hJ7
 refine Qr (zR (zM ?_))
 refine zQ Zu ?_
 refine zC (zN ?_)
 refine zI ?_ ?_<;>intro hc36
 ·
  have h:=hc36
  simp at h
  omega
 refine Qw (Qc (Qr ?_))
 have hD:=zwQ J5
 refine ZK ?_
 refine QZ J5 [] mixed ?_
 refine zT 1 rfl (Qh rfl) hD ?_
 refine zT 2 rfl (Qh rfl) hD ?_
 refine zT 3 rfl (VS rfl rfl Zu (fun hg=>by omega)) hD ?_
 refine zT 5 rfl (Qg rfl Zr (fun hg=>by exact BxI.cells (vs:=Zn t) h3) rfl) hD ?_
 refine zT 8 rfl (Qh rfl) hD ?_
 refine zT 9 rfl (Qh rfl) hD ?_
 refine zT 10 rfl (Vh rfl rfl Zu (fun hg=>by omega)) hD ?_
 refine Q8 0 6 rfl rfl (by kernel_rfl) ?_ ?_
 ·
  refine Ql (ps:=[]) (m:=[]) Vf rfl (.nil) rfl (by simp [Q5]) (by decide) (by decide) rfl rfl (fun b_37=>?_)
  refine Qb ?_
  refine zD hD ?_
  refine Q8 4 6 rfl rfl (by kernel_rfl) ?_ ?_
  ·
   refine QW (v:=_) (ys:=(xs.take k).flatMap Zn) (L:=[(b_37,_)]) rfl rfl Vf Ym.new (by repeat (first | exact .cons .here .nil | exact Qu | exact Qq | apply Qo | apply Qn)) ((hP.sl.take hk).src Q5) (W0 _) (by omega) rfl rfl ?_
   intro v1 L1 hO1 _;rw [List.nil_append] at hO1
   refine Qb ?_
   refine zD hD ?_
   refine qd 6 rfl ?_
   refine Ql (ps:=[(0,_)]) (m:=[Zn t]) Vf rfl (.cons rfl (.nil)) rfl (by simp [Q5]) (by decide) (by decide) rfl rfl (fun b_43=>?_)
   refine Qb ?_
   refine zD hD ?_
   refine qd 7 rfl ?_
   refine QW (v:=v1) (ys:=[t].flatMap Zn) (L:=L1) rfl rfl Vf hO1 (by repeat (first | exact .cons .here .nil | exact Qu | exact Qq | apply Qo | apply Qn)) ⟨rfl,fun _=>rfl,by repeat (first | exact zwO | apply zwN | apply zwP)⟩ (W0 [t]) (by omega) rfl rfl ?_
   intro v2 L2 hO2 _
   refine Qb ?_
   refine zD hD ?_
   refine qd 11 rfl ?_
   refine QW (v:=v2) (ys:=(xs.drop k).flatMap Zn) (L:=L2) rfl rfl Vf hO2 (by repeat (first | exact .cons .here .nil | exact Qu | exact Qq | apply Qo | apply Qn)) ((hP.sl.drop hk).src Q5) (W0 _) (by omega) rfl rfl ?_
   intro v3 L3 hO3 _
   refine Qb ?_
   refine zD hD ?_
   refine zT 12 rfl (QB rfl) hD ?_
   refine zT 13 rfl (QB rfl) hD ?_
   refine Qm (by kernel_rfl) ?_
   refine QA ?_
   refine Zv (xs:=xs.take k++t::xs.drop k) (by simpa [List.flatMap_append] using hO3) Q5 (by decide) (by repeat (first | exact .cons .here .nil | exact Qu | exact Qq | apply Qo | apply Qn)) (fun I6 hI6 af6 cf6 ef6 hR=>?_)
   subst ef6
   have hP:=hP.mono hI6;have hT:=hT.mono hI6;have hIc:=hIc.trans hI6
   refine Qc (QF ?_)
   exact Vq rfl rfl rfl (fun w hw=>⟨_,I6,[],rfl,hIc,hw.subL Qe,rfl,_,_,_,rfl,zc4 hP hT hR hkp hh⟩)
  refine Ql (ps:=[(0,_)]) (m:=[Zn t]) Vf rfl (.cons rfl (.nil)) rfl (by simp [Q5]) (by decide) (by decide) rfl rfl (fun b_43=>?_)
  refine Qb ?_
  refine zD hD ?_
  refine qd 4 rfl ?_
  refine QW (v:=_) (ys:=(xs.take k).flatMap Zn) (L:=[(b_37,_)]) rfl rfl Vf Ym.new (by repeat (first | exact .cons .here .nil | exact Qu | exact Qq | apply Qo | apply Qn)) ((hP.sl.take hk).src Q5) (W0 _) (by omega) rfl rfl ?_
  intro v1 L1 hO1 _;rw [List.nil_append] at hO1
  refine Qb ?_
  refine zD hD ?_
  refine qd 7 rfl ?_
  refine QW (v:=v1) (ys:=[t].flatMap Zn) (L:=L1) rfl rfl Vf hO1 (by repeat (first | exact .cons .here .nil | exact Qu | exact Qq | apply Qo | apply Qn)) ⟨rfl,fun _=>rfl,by repeat (first | exact zwO | apply zwN | apply zwP)⟩ (W0 [t]) (by omega) rfl rfl ?_
  intro v2 L2 hO2 _
  refine Qb ?_
  refine zD hD ?_
  refine qd 11 rfl ?_
  refine QW (v:=v2) (ys:=(xs.drop k).flatMap Zn) (L:=L2) rfl rfl Vf hO2 (by repeat (first | exact .cons .here .nil | exact Qu | exact Qq | apply Qo | apply Qn)) ((hP.sl.drop hk).src Q5) (W0 _) (by omega) rfl rfl ?_
  intro v3 L3 hO3 _
  refine Qb ?_
  refine zD hD ?_
  refine zT 12 rfl (QB rfl) hD ?_
  refine zT 13 rfl (QB rfl) hD ?_
  refine Qm (by kernel_rfl) ?_
  refine QA ?_
  refine Zv (xs:=xs.take k++t::xs.drop k) (by simpa [List.flatMap_append] using hO3) Q5 (by decide) (by repeat (first | exact .cons .here .nil | exact Qu | exact Qq | apply Qo | apply Qn)) (fun I7 hI7 af7 cf7 ef7 hR=>?_)
  subst ef7
  have hP:=hP.mono hI7;have hT:=hT.mono hI7;have hIc:=hIc.trans hI7
  refine Qc (QF ?_)
  exact Vq rfl rfl rfl (fun w hw=>⟨_,I7,[],rfl,hIc,hw.subL Qe,rfl,_,_,_,rfl,zc4 hP hT hR hkp hh⟩)
 refine Ql (ps:=[(0,_)]) (m:=[Zn t]) Vf rfl (.cons rfl (.nil)) rfl (by simp [Q5]) (by decide) (by decide) rfl rfl (fun b_43=>?_)
 refine Qb ?_
 refine zD hD ?_
 refine qd 0 rfl ?_
 refine Ql (ps:=[]) (m:=[]) Vf rfl (.nil) rfl (by simp [Q5]) (by decide) (by decide) rfl rfl (fun b_37=>?_)
 refine Qb ?_
 refine zD hD ?_
 refine qd 4 rfl ?_
 refine QW (v:=_) (ys:=(xs.take k).flatMap Zn) (L:=[(b_37,_)]) rfl rfl Vf Ym.new (by repeat (first | exact .cons .here .nil | exact Qu | exact Qq | apply Qo | apply Qn)) ((hP.sl.take hk).src Q5) (W0 _) (by omega) rfl rfl ?_
 intro v1 L1 hO1 _;rw [List.nil_append] at hO1
 refine Qb ?_
 refine zD hD ?_
 refine qd 7 rfl ?_
 refine QW (v:=v1) (ys:=[t].flatMap Zn) (L:=L1) rfl rfl Vf hO1 (by repeat (first | exact .cons .here .nil | exact Qu | exact Qq | apply Qo | apply Qn)) ⟨rfl,fun _=>rfl,by repeat (first | exact zwO | apply zwN | apply zwP)⟩ (W0 [t]) (by omega) rfl rfl ?_
 intro v2 L2 hO2 _
 refine Qb ?_
 refine zD hD ?_
 refine qd 11 rfl ?_
 refine QW (v:=v2) (ys:=(xs.drop k).flatMap Zn) (L:=L2) rfl rfl Vf hO2 (by repeat (first | exact .cons .here .nil | exact Qu | exact Qq | apply Qo | apply Qn)) ((hP.sl.drop hk).src Q5) (W0 _) (by omega) rfl rfl ?_
 intro v3 L3 hO3 _
 refine Qb ?_
 refine zD hD ?_
 refine zT 12 rfl (QB rfl) hD ?_
 refine zT 13 rfl (QB rfl) hD ?_
 refine Qm (by kernel_rfl) ?_
 refine QA ?_
 refine Zv (xs:=xs.take k++t::xs.drop k) (by simpa [List.flatMap_append] using hO3) Q5 (by decide) (by repeat (first | exact .cons .here .nil | exact Qu | exact Qq | apply Qo | apply Qn)) (fun I8 hI8 af8 cf8 ef8 hR=>?_)
 subst ef8
 have hP:=hP.mono hI8;have hT:=hT.mono hI8;have hIc:=hIc.trans hI8
 refine Qc (QF ?_)
 exact Vq rfl rfl rfl (fun w hw=>⟨_,I8,[],rfl,hIc,hw.subL Qe,rfl,_,_,_,rfl,zc4 hP hT hR hkp hh⟩)
end
section
open Go Go.Kn Go.Proofs
structure TlS (I:Qv)(a:Option Addr)(n c:Nat)(us ts:List Nt):Prop where
 sl:UB I a n c us
 srt:zbU us
 tk:∀ u∈us,TkN u
 mem:∀ y,(∃ u∈us,Yp u=y)↔ ∃ t∈ts,Yp t=y
 len:us.length≤ts.length
theorem TlS.mono {I I':Qv}{a:Option Addr}{n c:Nat}{us ts:List Nt}(h:TlS I a n c us ts)(hI:HLe I I'):TlS I' a n c us ts:=⟨h.sl.mono hI,h.srt,h.tk,h.mem,h.len⟩
theorem znJ (I:Qv):UB I none 0 0 []:=⟨.nil,fun x hx=>(by cases hx),fun x hx=>(by cases hx)⟩
theorem TlS.nil (I:Qv):TlS I none 0 0 [] []:=⟨znJ I,fun k l x y _ hx=>(by simp at hx),fun u hu=>(by cases hu),fun y=>Iff.rfl,Nat.le_refl _⟩
theorem zuT {I:Qv}{a:Option Addr}{n c:Nat}{us:List Nt}(hS:UB I a n c us){u:Nt}(hu:u∈us)(h:TkN u):NtM I u:=by
 have hl:u.pt.needs.length=u.pt.n:=(hS.nd u hu).len
 exact hS.m u hu (by rw [←V9 hl.symm];exact h.2.1)
theorem TlS.ntM {I:Qv}{a:Option Addr}{n c:Nat}{us ts:List Nt}(h:TlS I a n c us ts):∀ u∈us,NtM I u:=fun u hu=>zuT h.sl hu (h.tk u hu)
theorem zqy {I:Qv}{x y:Nt}(hx:Nd I x.pt)(hy:Nd I y.pt)(tx:TkN x)(ty:TkN y)(h:smN x y=false):YN x y≠0:=fun e=>by
 have:=(zfE hx hy).2 (zfw tx.1 ty.1 e)
 rw [h] at this;cases this
theorem TlS.add {I:Qv}{a a':Option Addr}{n c n' c':Nat}{us ts:List Nt}{t:Nt}(h:TlS I a n c us ts)(hN:Nd I t.pt)(ht:TkN t)(hS:UB I a' n' c' (zh4 us t)):TlS I a' n' c' (zh4 us t) (ts++[t]):=by
 cases hh:zdo us t with
 | true=>
  rw [zc2 hh] at hS ⊢
  refine ⟨hS,h.srt,h.tk,fun y=>?_,by have:=h.len;simp;omega⟩
  rw [h.mem]
  refine ⟨fun ⟨u,h1,h2⟩=>⟨u,List.mem_append_left _ h1,h2⟩,fun ⟨u,h1,h2⟩=>?_⟩
  rcases List.mem_append.1 h1 with h1 | h1
  ·
   exact ⟨u,h1,h2⟩
  ·
   rw [List.mem_singleton.1 h1] at h2
   unfold zdo at hh
   cases hx:us[US us t]? with
   | none=>rw [hx] at hh;cases hh
   | some x=>
    rw [hx] at hh
    have hm:=List.mem_of_getElem? hx
    have:=(zfE (h.sl.nd x hm) hN).1 hh
    exact (h.mem y).1 ⟨x,hm,by rw [this];exact h2⟩
 | false=>
  refine ⟨hS,znQ h.srt hh fun x hx he=>zqy (h.sl.nd x (List.mem_of_getElem? hx)) hN (h.tk x (List.mem_of_getElem? hx)) ht he,zc7 h.tk ht,fun y=>?_,by have:=zmw us t;have:=h.len;simp;omega⟩
  constructor
  ·
   rintro ⟨u,hu,e⟩
   rcases (XX hh).1 hu with rfl | hu
   ·
    exact ⟨u,by simp,e⟩
   ·
    obtain ⟨v,h1,h2⟩:=(h.mem y).1 ⟨u,hu,e⟩
    exact ⟨v,List.mem_append_left _ h1,h2⟩
  ·
   rintro ⟨v,hv,e⟩
   rcases List.mem_append.1 hv with hv | hv
   ·
    obtain ⟨u,h1,h2⟩:=(h.mem y).2 ⟨v,hv,e⟩
    exact ⟨u,(XX hh).2 (.inr h1),h2⟩
   ·
    rw [List.mem_singleton.1 hv] at e
    exact ⟨t,(XX hh).2 (.inl rfl),e⟩
def Kr (r:Rd)(ts:List Nt):Prop:=∀ t∈ts,∃ (i:Nat) (xs:List Nt),r.ps[i]? =some xs∧Yp t∈xs
theorem Kr.grow {r r':Rd}{ts:List Nt}(h:Kr r ts)(hg:Grow r.ps r'.ps)(hl:r'.ps.length=r.ps.length):Kr r' ts:=fun t ht=>by
 obtain ⟨i,xs,h1,h2⟩:=h t ht
 have hi:=(List.getElem?_eq_some_iff.1 h1).1
 have h3:r'.ps[i]? =some r'.ps[i]:=List.getElem?_eq_getElem (by omega)
 exact ⟨i,_,h3,hg i xs _ h1 h3 _ h2⟩
theorem zhc {m:Nat}{r r':Rd}{told:List Nt}{x:Ev}(h:Kn m r told)(hq:r.qs.length≤4096)(hk:x.kind=1)(ht:TkN x.note)(hd:doF r (Yw x)=(0,r')):∃ (i:Nat) (xs:List Nt),r'.ps[i]? =some xs∧Yp x.note∈xs:=by
 rw [UL (h.chk hq)] at hd
 unfold XR at hd
 rw [if_pos (show (Yw x).kind=1 from hk)] at hd
 unfold KL at hd
 split at hd
 ·
  split at hd
  ·
   split at hd
   ·
    cases hd
   ·
    rename_i P hP
    have hP:XC r.ps x.peer.toNat (Yp x.note)=some P:=hP
    cases hd
    obtain ⟨xs,ys,h1,h2,rfl⟩:=zdW hP
    have hl:=(List.getElem?_eq_some_iff.1 h1).1
    refine ⟨x.peer.toNat,ys,?_,(zf1 h2 (h.can (List.mem_of_getElem? h1)) (ziM ht) _).2 (.inr rfl)⟩
    simp [List.getElem?_set,hl]
  ·
   cases hd
 ·
  cases hd
theorem Kr.step {I:Qv}{m k:Nat}{r r':Rd}{ts:List Nt}{x:Ev}(h:Kr r ts)(hK:KS I m k r ts)(hk:k<14)(hK2:KS I m (k+1) r' (zcY x ts))(hg:Grow r.ps r'.ps)(hd:doF r (Yw x)=(0,r')):Kr r' (zcY x ts):=by
 have h1:=h.grow hg (by rw [hK2.kn.len,hK.kn.len])
 unfold zcY
 split
 ·
  rename_i hx
  intro t ht
  rcases List.mem_append.1 ht with ht | ht
  ·
   exact h1 t ht
  ·
   rw [List.mem_singleton.1 ht]
   exact zhc hK.kn (by have:=hK.ql;omega) hx (hK2.kn.tok x.note (by rw [zeL hx];simp)) hd
 ·
  exact h1
theorem zt4 {r:Rd}{x:Ev}(h:(doF r x).1≠0):(doF r x).2=zeroR:=by
 unfold doF at h ⊢
 split
 ·
  rfl
 ·
  rename_i hc
  rw [if_neg hc] at h
  rw [zjP h]
def AcQ (m:Nat)(v:Value)(I':Qv)(L':Go.Kn.Loc):Prop:=L'=[]∧∃ vr a n c us R ts,v= .tuple #[vr,.slice a n c,.bool true]∧RmV I' vr R∧KS I' m 14 R ts∧TlS I' a n c us ts∧Kr R ts
end
section
open Go Go.Kn Go.Proofs
theorem ztT:Fun Tryz.prog 84:=.of Tryz.func84 (by kernel_rfl) (by kernel_rfl)
set_option maxRecDepth 100000 in
set_option maxHeartbeats 4000000 in
theorem zqw {I:Qv} {av:Option Addr} {n c:Nat} {xs:List Ev} (hE:EvS I av n c xs) (hn14:n≤14) {M:Nat} (hM1:1≤M) (hM4:M≤4):Vl Tryz.prog 32 [.int .i64 M,.slice av n c] I [] (AcQ M):=by
 intro g H w hw
 refine qe Tryz.func32 Tryz.ntmps32 hw ?_
 have hIc:=zwQ I
 have hln:=hE.sl.len
 refine zR ?_
 refine Qs Kw rfl rfl (fun b_4=>?_)
 refine zA ?_
 refine zA ?_
 refine zN (zR ?_)
 refine zM ?_
 refine QC (cap:=[]) (vs:=[_]) rfl rfl ziQ .nil (zr8 I (m:=M) ⟨hM1,by omega⟩) rfl rfl ?_
 rintro vv1 I1 L1 hI1 ⟨rfl,vr1,rfl,hV1⟩
 have hE:=hE.mono hI1;have hIc:=hIc.trans hI1
 obtain ⟨pa1,pn1,pc1,qa1,qn1,qc1,aa1,an1,ac1,ps1,qs1,rfl,hR1,he1⟩:=(show RmV _ vr1 (zbr M) from hV1)
 have hpn1:pn1=M:=by have h:=(Yx hR1 he1).1;simp [zbr] at h;exact h
 refine zM ?_
 refine zE ?_
 refine zE ?_
 refine zh YS ?_
 refine zA (zN (Qr (zR ?_)))
 refine zM ?_
 refine zC ?_
 refine zM ?_
 refine Q2 (dj:=19) rfl rfl rfl ?_
 refine zF ZR ?_
 refine Q2 (dj:=19) rfl rfl rfl ?_
 refine zL YV ?_
 refine Q2 (dj:=19) rfl rfl rfl ?_
 refine zQ YK ?_
 refine Q2 (dj:=19) rfl rfl rfl ?_
 refine zM ?_
 refine Q2 (dj:=19) rfl rfl rfl ?_
 refine zC ?_
 rw [show (((pn1:Nat):Int) != ((M:Nat):Int))=false by rw [hpn1,zcG]]
 refine zV (Zz rfl rfl rfl) ?_
 refine zN ?_
 refine zI ?_ ?_<;>intro hc25
 ·
  exact absurd hc25 (by decide)
 refine Qw (Qc (Qr (zR (zM ?_))))
 refine zQ zkY ?_
 refine zM (zN (QE ?_))
 refine zU [(0,_),(4,_),(27,_),(28,_)] (fun T L0 mz E I' loc'=>∃ (k:Nat) (ta:Option Addr) (tn:Nat) (tc:Nat) (us:List Nt) (ts:List Nt) (pa:Option Addr) (pn:Nat) (pc:Nat) (qa:Option Addr) (qn:Nat) (qc:Nat) (aa:Option Addr) (an:Nat) (ac:Nat) (ps:List Pe) (qs:List Pk) (ks:List (Int×Int)) (R:Rd),mz=n-k∧E=(5,.slice ta tn tc)::(29,.int .i64 k)::T∧HLe I1 I'∧[(b_4,.cells #[.slice pa pn pc,.slice qa qn qc,.slice aa an ac] 28 (0,0))]=loc'∧k≤n∧TlS I' ta tn tc us ts∧RmP I' pa pn pc qa qn qc aa an ac ps qs ks∧Vn ps qs ks=R∧KS I' M k R ts∧Kr R ts) ?_ (h:=⟨0,none,0,0,[],[],_,_,_,_,_,_,_,_,_,_,_,_,zbr M,rfl,rfl,zwQ _,rfl,Nat.zero_le _,TlS.nil _,hR1,he1,KS.zero ⟨hM1,by omega⟩,fun t ht=>(by cases ht)⟩)
 rintro mz E J2 loc' ⟨k,ta,tn,tc,us,ts,pa,pn,pc,qa,qn,qc,aa,an,ac,ps,qs,ks,R,rfl,rfl,hJ,rfl,hk,hT,hR,he,hK,hKr⟩
 have hE:=hE.mono hJ;have hIc:=hIc.trans hJ
 have hB0:=hJ
 have htl:=hK.tl
 refine zR (zC (zN (Qr ?_)))
 refine zI ?_ ?_<;>intro hc30
 ·
  have hlt_k:k<n:=by have h:=hc30;simp at h;omega
  obtain ⟨x,hx⟩:∃ y,xs[k]? =some y:=⟨_,List.getElem?_eq_getElem (by omega)⟩
  have hxm:=List.mem_of_getElem? hx
  refine Qw (Qc (Qr (QE (zR ?_))))
  refine zV (QX rfl rfl zkY hE.sl (fun hg=>by omega)) ?_
  refine zV (Qg rfl zkF (fun hg=>by exact zwR hE.sl hx) rfl) ?_
  refine Qs zvl rfl rfl (fun b_9=>?_)
  refine zh zth ?_
  refine Qb ?_
  refine QN .here (fun I3 hI3 hb3=>?_)
  have hE:=hE.mono hI3;have hT:=hT.mono hI3;have hR:=hR.mono hI3;have hK:=hK.mono hI3;have hB0:=hB0.trans hI3
  have h9:=BxI.of hb3
  refine Qc (zR ?_)
  refine zV (Qg rfl YA (fun hg=>by exact Cells.g0) rfl) ?_
  refine zV (Qg rfl zkF (fun hg=>by exact BxI.cells (vs:=zaB x) h9) rfl) ?_
  refine QC (cap:=[]) (vs:=[_,_]) rfl rfl K2 .nil (zaI hR he (hK.sm (by omega)) x (hE.m x hxm) rfl) rfl rfl ?_
  rintro vv4 I4 L4 hI4 ⟨rfl,vr2,rfl,hV2⟩
  have hE:=hE.mono hI4;have hT:=hT.mono hI4;have hR:=hR.mono hI4;have hK:=hK.mono hI4;have h9:=h9.mono hI4;have hB0:=hB0.trans hI4
  have hz2:(doF R (Yw x)).1≠0→(doF R (Yw x)).2=zeroR:=zt4
  obtain ⟨pa2,pn2,pc2,qa2,qn2,qc2,aa2,an2,ac2,ps2,qs2,rfl,hR2,he2⟩:=hV2
  refine zM ?_
  refine zE ?_
  refine zE ?_
  refine Qs Kw rfl rfl (fun b_10=>?_)
  refine zh YS ?_
  refine zA (Qb ?_)
  refine QN .here (fun I5 hI5 hb5=>?_)
  have hE:=hE.mono hI5;have hT:=hT.mono hI5;have hR:=hR.mono hI5;have hK:=hK.mono hI5;have h9:=h9.mono hI5;have hR2:=hR2.mono hI5;have hB0:=hB0.trans hI5
  have h10:=BxI.of hb5
  refine Qc (Qr (zR (zM ?_)))
  refine zC (zN ?_)
  refine zI ?_ ?_<;>intro hc40
  ·
   have hz:=hz2 (by simpa using hc40)
   rw [hz] at he2 hR2
   have h1:pn2=0:=(Yx hR2 he2).1
   have h2:qn2=0:=(Yx hR2 he2).2.1
   refine Qr (zR ?_)
   refine zF ZR ?_
   refine zV (Qd rfl YV (fun hg=>by exact QG.imm h10.out rfl)) ?_
   refine zQ YK ?_
   refine zF Z1 ?_
   refine zF Zi ?_
   refine zV (Qd rfl Zo (fun hg=>by exact QG.imm h10.out rfl)) ?_
   refine zQ Zl ?_
   refine zB ?_
   refine zC (zN ?_)
   refine zI ?_ ?_<;>intro hc49
   ·
    rw [h1,h2] at hc49
    exact absurd hc49 (by decide)
   have hT9:=hT
   have hR9:=hR
   have he9:=he
   have hK9:=hK.skip
   have hKr9:=hKr
   refine Qw (Qc (ZC (Qt (QD (Qc (Qk (zB ?_)))))))
   refine zM (Qb ?_)
   exact zm (h:=⟨n-(k+1),by omega,k+1,_,_,_,_,_,_,_,_,_,_,_,_,_,_,_,_,_,_,rfl,rfl,hB0,rfl,by omega,hT9,hR9,he9,hK9,hKr9⟩)
  have h0:(doF R (Yw x)).1=0:=by simpa using hc40
  have hd0:doF R (Yw x)=(0,(doF R (Yw x)).2):=Prod.ext h0 rfl
  obtain ⟨hK2,hG⟩:=hK.step (by omega) (by omega) (hE.m x hxm) hd0
  have hKr2:=hKr.step hK (by omega) hK2 hG hd0
  have hpn2:pn2=M:=by rw [(Yx hR2 he2).1];exact hK2.kn.len
  have hqn2:qn2≤200:=by rw [(Yx hR2 he2).2.1];have h:=hK2.ql;omega
  refine Qw (Qc (Qr (zR ?_)))
  refine zF ZR ?_
  refine zV (Qd rfl YV (fun hg=>by exact QG.imm h10.out rfl)) ?_
  refine zQ YK ?_
  refine zM ?_
  refine zC ?_
  rw [show (((pn2:Nat):Int) != ((M:Nat):Int))=false by rw [hpn2,zcG]]
  refine zM ?_
  refine Q2 (dj:=56) rfl rfl rfl ?_
  refine zF Z1 ?_
  refine Q2 (dj:=56) rfl rfl rfl ?_
  refine zF Zi ?_
  refine Q2 (dj:=56) rfl rfl rfl ?_
  refine zV (Qd rfl Zo (fun hg=>by exact QG.imm h10.out rfl)) ?_
  refine Q2 (dj:=56) rfl rfl rfl ?_
  refine zQ Zl ?_
  refine Q2 (dj:=56) rfl rfl rfl ?_
  refine zC ?_
  refine zV (Zz rfl rfl rfl) ?_
  refine zN ?_
  refine zI ?_ ?_<;>intro hc62
  ·
   have h:=hc62
   simp at h
   omega
  refine Qw (Qc ?_)
  refine zY [(0,_),(4,_),(10,_),(27,_),(28,_),(29,_)] (fun T L0 E I' loc'=>∃ (a2:Option Addr) (n2 c2:Nat) (us2:List Nt),E=(5,.slice a2 n2 c2)::T∧HLe I5 I'∧[(b_4,.cells #[.slice pa pn pc,.slice qa qn qc,.slice aa an ac] 28 (0,0))]=loc'∧TlS I' a2 n2 c2 us2 (zcY x ts)) ?_ ?_
  ·
   have hKc13:=zwQ I5
   refine zR ?_
   refine zF zcL ?_
   refine zV (Qd rfl Qy (fun hg=>by exact QG.imm h9.out rfl)) ?_
   refine zC (zN ?_)
   refine zI ?_ ?_<;>intro hc66
   ·
    have hk1:x.kind=1:=by simpa using hc66
    have htk:=hK2.kn.tok x.note (by rw [zeL hk1];simp)
    have hTM:NtM _ x.note:=(hE.m x hxm).msg (by rw [←(hE.m x hxm).form];exact htk.2.1)
    refine zR (zM ?_)
    refine zF XT ?_
    refine zV (Qg rfl Zr (fun hg=>by exact Cells.part (pre:=[_,_,_,_]) (vs:=Zn x.note) (post:=[]) (BxI.cells (vs:=zaB x) h9) rfl) rfl) ?_
    refine QC (cap:=[]) (vs:=[_,_]) rfl rfl ztT .nil (zne hT.sl hT.ntM hTM (by have h:=hT.sl.sl.len;have h2:=hT.len;omega)) rfl rfl ?_
    rintro vv6 I6 L6 hI6 ⟨rfl,ta3,tn3,tc3,rfl,hS3⟩
    have hE:=hE.mono hI6;have hT:=hT.mono hI6;have hKc13:=hKc13.trans hI6
    refine zM ?_
    refine zE ?_
    refine zE ?_
    refine zA ?_
    refine zA ?_
    refine zN (zR ?_)
    refine zM ?_
    refine zC (zN ?_)
    refine zI ?_ ?_<;>intro hc75
    ·
     exact absurd hc75 (by decide)
    have hT7:=hT.add (hE.m x hxm).nd htk hS3
    rw [←zeL hk1] at hT7
    refine Qw ?_
    exact zm (h:=⟨_,_,_,_,rfl,hKc13,rfl,hT7⟩)
   have hT7:=hT
   rw [←zqK (x:=x) (ts:=ts) (by simpa using hc66)] at hT7
   refine Qw ?_
   exact zm (h:=⟨_,_,_,_,rfl,hKc13,rfl,hT7⟩)
  rintro E J7 loc' ⟨a2,n2,c2,us2,rfl,hJ6,rfl,hT2⟩
  have hR2:=hR2.mono hJ6;have h10:=h10.mono hJ6;have hK2:=hK2.mono hJ6;have hB0:=hB0.trans hJ6
  refine Qk ?_
  refine zV (Qg rfl YA (fun hg=>by exact BxI.cells (vs:=[_,_,_]) h10) rfl) ?_
  refine zh YS ?_
  refine Qb ?_
  have hR9:=hR2
  have he9:=he2
  have hK9:=hK2
  have hT9:=hT2
  have hKr9:=hKr2
  refine Qp (Qc (Qk (zB ?_)))
  refine zM (Qb ?_)
  exact zm (h:=⟨n-(k+1),by omega,k+1,_,_,_,_,_,_,_,_,_,_,_,_,_,_,_,_,_,_,rfl,rfl,hB0,rfl,by omega,hT9,hR9,he9,hK9,hKr9⟩)
 have hge_k:n≤k:=by have h:=hc30;simp at h;omega
 have hK14:=hK.le (k':=14) (by omega)
 refine ZC (Qt (Qt (QD (Qc (zR ?_)))))
 refine zV (Qg rfl YA (fun hg=>by exact Cells.g0) rfl) ?_
 refine zM ?_
 refine zh YS ?_
 refine zA ?_
 refine zA (zN (QF ?_))
 exact znv rfl rfl rfl rfl (.ag YA (vs:=[_,_,_]) .here rfl) (fun w hw=>⟨_,J2,[],rfl,hIc,hw.subL Qe,rfl,_,_,_,_,_,_,_,rfl,⟨_,_,_,_,_,_,_,_,_,_,_,rfl,by rw [(Yx hR he).2.2] at hR;exact hR,by rw [←(Yx hR he).2.2];exact he⟩,hK14,hT,hKr⟩)
end
section
open Go Go.Kn Go.Proofs
def evA (k at_:Int):Ev:=⟨k,0,0,at_,zcZ⟩
theorem znq (I:Qv)(k a:Int):EvM I (evA k a):=⟨Sl.nil,U7⟩
def zcB (r r':Rd):Prop:=∀ (i:Nat) (y:Nt),Has r' i y↔Has r i y
theorem zcB.trans {r r' r'':Rd}(h:zcB r r')(h2:zcB r' r''):zcB r r'':=fun i y=>(h2 i y).trans (h i y)
theorem zoy {w:Int}{q:Nat}(hw:0≤w)(hq:0<q):0≤w.tmod q∧w.tmod q<(q:Int):=by
 rw [Int.tmod_eq_emod_of_nonneg hw]
 exact ⟨Int.emod_nonneg _ (by omega),Int.emod_lt_of_pos _ (by omega)⟩
theorem Kn.rep' {m:Nat}{r:Rd}{told:List Nt}{w:Int}(h:Kn m r told)(hw:0≤w)(hq:0<r.qs.length)(hq2:r.qs.length≤3000){q:Nat}(e:q=r.qs.length):
  ∃ r',doF r (Yw (evA 5 (w.tmod q)))=(0,r')∧r'.qs.length=r.qs.length+1∧zcB r r'∧Kn m r' told:=by
 subst e
 obtain ⟨h1,h2⟩:=zoy hw hq
 obtain ⟨r',a,b,c⟩:=h.rep (x:=evA 5 (w.tmod r.qs.length)) (by omega) rfl h1 h2
 exact ⟨r',a,b,c,by have:=(h.step (x:=evA 5 (w.tmod r.qs.length)) (by omega) (fun e=>by cases e) a).1;exact this⟩
theorem Kn.dlv' {m:Nat}{r:Rd}{told:List Nt}{w:Int}(h:Kn m r told)(ht:told.length≤1000)(hw:0≤w)(hq:0<r.qs.length)(hq2:r.qs.length≤3000){q:Nat}(e:q=r.qs.length):
  ∃ r',doF r (Yw (evA 3 (w.tmod q)))=(0,r')∧r'.qs.length+1=r.qs.length∧zcB r r'∧Kn m r' told:=by
 subst e
 obtain ⟨h1,h2⟩:=zoy hw hq
 obtain ⟨r',a,b,c⟩:=h.dlv (x:=evA 3 (w.tmod r.qs.length)) (by omega) (by omega) rfl h1 h2
 exact ⟨r',a,b,c,by have:=(h.step (x:=evA 3 (w.tmod r.qs.length)) (by omega) (fun e=>by cases e) a).1;exact this⟩
structure Dn (m:Nat)(r r':Rd)(told:List Nt):Prop where
 kn:Kn m r' told
 qs:r'.qs=[]
 has:zcB r r'
def DrQ (m:Nat)(r:Rd)(told:List Nt)(v:Value)(I':Qv)(L':Go.Kn.Loc):Prop:=L'=[]∧∃ vr r',v= .tuple #[vr,.bool true]∧RmV I' vr r'∧Dn m r r' told
theorem Dn.mem {m:Nat}{r r':Rd}{told:List Nt}(h:Dn m r r' told){i:Nat}{xs:List Nt}(hx:r'.ps[i]? =some xs)(y:Nt):y∈xs↔Has r i y:=by
 rw [←h.has i y]
 constructor
 ·
  exact fun hy=>.inl ⟨xs,hx,hy⟩
 ·
  rintro (⟨zs,hz,hy⟩ | ⟨p,hp,_⟩)
  ·
   rw [hx] at hz;cases hz;exact hy
  ·
   rw [h.qs] at hp;cases hp
theorem Dn.eq {m:Nat}{r a b:Rd}{told:List Nt}(h1:Dn m r a told)(h2:Dn m r b told):a=b:=by
 have hp:a.ps=b.ps:=by
  refine List.ext_getElem? fun i=>?_
  rcases Nat.lt_or_ge i m with hi | hi
  ·
   have e1:a.ps[i]? =some (a.ps[i]'(by rw [h1.kn.len];exact hi)):=List.getElem?_eq_getElem _
   have e2:b.ps[i]? =some (b.ps[i]'(by rw [h2.kn.len];exact hi)):=List.getElem?_eq_getElem _
   rw [e1,e2]
   refine congrArg some (zmj (VD (h1.kn.val _ (List.mem_of_getElem? e1))).1 (VD (h2.kn.val _ (List.mem_of_getElem? e2))).1 fun y=>?_)
   rw [h1.mem e1,h2.mem e2]
  ·
   rw [List.getElem?_eq_none (by rw [h1.kn.len];exact hi),List.getElem?_eq_none (by rw [h2.kn.len];exact hi)]
 have hq:a.qs=b.qs:=by rw [h1.qs,h2.qs]
 have hk:a.ks=b.ks:=by rw [h1.kn.ks,h2.kn.ks]
 cases a;cases b
 simp only at hp hq hk
 subst hp;subst hq;subst hk;rfl
end
section
open Go Go.Kn Go.Proofs
set_option maxRecDepth 100000 in
set_option maxHeartbeats 4000000 in
theorem zdV {I:Qv} {pa0 qa0 aa0:Option Addr} {pn0 pc0 qn0 qc0 an0 ac0:Nat} {ps0:List Pe} {qs0:List Pk} {ks0:List (Int×Int)} {R0:Rd} (hR0:RmP I pa0 pn0 pc0 qa0 qn0 qc0 aa0 an0 ac0 ps0 qs0 ks0) (he0:Vn ps0 qs0 ks0=R0) {told:List Nt} (hk0:Kn pn0 R0 told) (ht:told.length≤1000) (hq0:R0.qs.length≤2000) {ob:Option Addr} {on oc:Nat} {os:List Nat} (hY:Sl I 1 VN ob on oc os) (hy8:∀ y∈os,y≤255) (hon:on≤100):Vl Tryz.prog 33 [.agg #[.slice pa0 pn0 pc0,.slice qa0 qn0 qc0,.slice aa0 an0 ac0],.slice ob on oc] I [] (DrQ pn0 R0 told):=by
 intro g H w hw
 refine qe Tryz.func33 Tryz.ntmps33 hw ?_
 have hIc:=zwQ I
 have hlo:=hY.len
 have hqq:=(Yx hR0 he0).2.1
 refine zR ?_
 refine Zd rfl rfl rfl (fun b_2=>?_)
 refine Qs Kw rfl rfl (fun b_4=>?_)
 refine zA ?_
 refine zN (zR ?_)
 refine zF ZR ?_
 refine zL YV ?_
 refine zQ YK ?_
 refine zA (zN (Qr (zR ?_)))
 refine zA (zN (QE ?_))
 refine zU [(1,_),(2,_),(4,_),(6,_)] (fun T L0 mz E I' loc'=>∃ (k:Nat) (pa:Option Addr) (pn:Nat) (pc:Nat) (qa:Option Addr) (qn:Nat) (qc:Nat) (aa:Option Addr) (an:Nat) (ac:Nat) (ps:List Pe) (qs:List Pk) (ks:List (Int×Int)) (R:Rd),mz=(on-k)+R.qs.length∧E=(7,.int .i64 k)::T∧HLe I I'∧[(b_4,.cells #[.slice none 0 0,.slice none 0 0,.slice none 0 0] 28 (0,0)),(b_2,.cells #[.slice pa pn pc,.slice qa qn qc,.slice aa an ac] 28 (0,0))]=loc'∧RmP I' pa pn pc qa qn qc aa an ac ps qs ks∧Vn ps qs ks=R∧Kn pn0 R told∧zcB R0 R∧R.qs.length≤R0.qs.length∧k+R.qs.length≤on+R0.qs.length) ?_ (h:=⟨0,_,_,_,_,_,_,_,_,_,_,_,_,R0,rfl,rfl,zwQ _,rfl,hR0,he0,hk0,fun i y=>Iff.rfl,Nat.le_refl _,by omega⟩)
 rintro mz E J1 loc' ⟨k,pa,pn,pc,qa,qn,qc,aa,an,ac,ps,qs,ks,R,rfl,rfl,hJ,rfl,hR,he,hk,hs,hl,hkq⟩
 have hY:=hY.mono hJ;have hIc:=hIc.trans hJ
 have hB0:=hJ
 have hqn:qn=R.qs.length:=(Yx hR he).2.1
 refine Qr (zR ?_)
 refine zF Z1 ?_
 refine zF Zi ?_
 refine zL Zo ?_
 refine zQ Zl ?_
 refine zC (zN ?_)
 refine zI ?_ ?_<;>intro hc21
 ·
  have hqp:0<qn:=by have h:=hc21;simp at h;omega
  refine Qw (Qc (Qr (QE (zR (zA (zN ?_))))))
  refine zY [(1,_),(2,_),(4,_),(6,_),(7,_)] (fun T L0 E I' loc'=>∃ (w:Int),E=(8,.int .i64 w)::T∧HLe J1 I'∧[(b_4,.cells #[.slice none 0 0,.slice none 0 0,.slice none 0 0] 28 (0,0)),(b_2,.cells #[.slice pa pn pc,.slice qa qn qc,.slice aa an ac] 28 (0,0))]=loc'∧0≤w∧w≤255) ?_ ?_
  ·
   have hKc6:=zwQ J1
   refine Qr ?_
   rcases Nat.lt_or_ge k on with hkn | hkn
   ·
    obtain ⟨b,hb⟩:∃ y,os[k]? =some y:=⟨_,List.getElem?_eq_getElem (by omega)⟩
    have hb8:=hy8 b (List.mem_of_getElem? hb)
    refine Qk (zM ?_)
    refine zM ?_
    refine zQ JI ?_
    refine zC (zN ?_)
    refine zI ?_ ?_<;>intro hc27
    ·
     refine Qk (zM ?_)
     refine zM ?_
     refine zV (zX JI hY) ?_
     refine zV (Qd rfl zmb (fun hg=>by exact zwJ hY hb rfl)) ?_
     refine zV (Z3 rfl zeI) ?_
     rw [Vk (n:=((b:Nat):Int)) (by omega)]
     refine zA (Qb ?_)
     first
     | exact zm (h:=⟨_,rfl,hKc6,rfl,by omega,by omega⟩)
    have h:=hc27
    simp at h
    omega
   refine Qk (zM ?_)
   refine zM ?_
   refine zQ JI ?_
   refine zC (zN ?_)
   refine zI ?_ ?_<;>intro hc27
   ·
    have h:=hc27
    simp at h
    omega
   refine Qw ?_
   first
   | exact zm (h:=⟨_,rfl,hKc6,rfl,by omega,by omega⟩)
  rintro E J2 loc' ⟨w,rfl,hJ4,rfl,hw0,hw1⟩
  have hY:=hY.mono hJ4;have hR:=hR.mono hJ4;have hB0:=hB0.trans hJ4
  refine zY [(1,_),(2,_),(4,_),(6,_),(7,_),(8,_)] (fun T L0 E I' loc'=>∃ (pa2:Option Addr) (pn2:Nat) (pc2:Nat) (qa2:Option Addr) (qn2:Nat) (qc2:Nat) (aa2:Option Addr) (an2:Nat) (ac2:Nat) (ps2:List Pe) (qs2:List Pk) (ks2:List (Int×Int)) (R2:Rd),E=T∧HLe J2 I'∧[(b_4,.cells #[.slice none 0 0,.slice none 0 0,.slice none 0 0] 28 (0,0)),(b_2,.cells #[.slice pa2 pn2 pc2,.slice qa2 qn2 qc2,.slice aa2 an2 ac2] 28 (0,0))]=loc'∧RmP I' pa2 pn2 pc2 qa2 qn2 qc2 aa2 an2 ac2 ps2 qs2 ks2∧Vn ps2 qs2 ks2=R2∧Kn pn0 R2 told∧zcB R0 R2∧(R2.qs.length=R.qs.length∨(R2.qs.length=R.qs.length+1∧k<on))) ?_ ?_
  ·
   have hKc8:=zwQ J2
   refine Qr ?_
   rcases Nat.lt_or_ge k on with hkn | hkn
   ·
    obtain ⟨b,hb⟩:∃ y,os[k]? =some y:=⟨_,List.getElem?_eq_getElem (by omega)⟩
    refine Qk (zM ?_)
    refine zM ?_
    refine zQ JI ?_
    refine zC ?_
    rw [show decide (((k:Nat):Int)<((on:Nat):Int))=true by simp;omega]
    refine zM ?_
    refine Q2 (dj:=37) rfl rfl rfl ?_
    refine zM ?_
    refine Q2 (dj:=37) rfl rfl rfl ?_
    refine zM ?_
    refine Q2 (dj:=37) rfl rfl rfl ?_
    refine zV (zX JI hY) ?_
    refine Q2 (dj:=37) rfl rfl rfl ?_
    refine zV (Qd rfl zmb (fun hg=>by exact zwJ hY hb rfl)) ?_
    refine Q2 (dj:=37) rfl rfl rfl ?_
    refine zC ?_
    refine zV (Zz rfl rfl rfl) ?_
    refine zN ?_
    refine zI ?_ ?_<;>intro hc43
    ·
     obtain ⟨r9,hd9,hl9,hs9,hk9⟩:=hk.rep' (w:=w) (by omega) (by omega) (by omega) hqn
     refine zY [(1,_),(2,_),(4,_),(6,_),(7,_),(8,_)] (fun T L0 E I' loc'=>∃ (b9:Nat) (pa9:Option Addr) (pn9:Nat) (pc9:Nat) (qa9:Option Addr) (qn9:Nat) (qc9:Nat) (aa9:Option Addr) (an9:Nat) (ac9:Nat) (ps9:List Pe) (qs9:List Pk) (ks9:List (Int×Int)),E=(9,ZM b9)::(10,.int .i64 0)::T∧HLe J2 I'∧[(b_4,.cells #[.slice none 0 0,.slice none 0 0,.slice none 0 0] 28 (0,0)),(b_2,.cells #[.slice pa pn pc,.slice qa qn qc,.slice aa an ac] 28 (0,0))]=loc'∧BxI I' b9 (.cells #[.slice pa9 pn9 pc9,.slice qa9 qn9 qc9,.slice aa9 an9 ac9] 28 (0,0))∧RmP I' pa9 pn9 pc9 qa9 qn9 qc9 aa9 an9 ac9 ps9 qs9 ks9∧Vn ps9 qs9 ks9=r9) ?_ ?_
     ·
      have hKc9:=zwQ J2
      have hD:=zwQ J2
      refine ZK ?_
      refine QZ J2 [(b_4,.cells #[.slice none 0 0,.slice none 0 0,.slice none 0 0] 28 (0,0)),(b_2,.cells #[.slice pa pn pc,.slice qa qn qc,.slice aa an ac] 28 (0,0))] mixed ?_
      refine zT 0 rfl (Qg rfl YA (fun hg=>by exact Cells.g1) rfl) hD ?_
      refine zT 1 rfl (Qh rfl) hD ?_
      refine zT 2 rfl (Qa rfl Z1) hD ?_
      refine zT 3 rfl (Qa rfl Zi) hD ?_
      refine zT 4 rfl (Qd rfl Zo (fun hg=>by exact QG.h1 rfl)) hD ?_
      refine zT 5 rfl (Zc rfl Zl) hD ?_
      refine zT 6 rfl (Yc rfl rfl (fun hg=>by omega)) hD ?_
      refine zT 7 rfl (Q0 (ps:=[(0,_),(3,_)]) [_,_,_,_,_,_,_,_,_,_,_,_,_,_,_,_,_,_,_,_,_,_,_,_,_,_,_,_,_,_,_,_,_,_,_,_,_,_,_,_,_,_,_,_,_,_,_,_,_] zaA rfl rfl) hD ?_
      refine Q8 8 12 rfl rfl (by kernel_rfl) ?_ ?_
      ·
       refine QC (cap:=[]) (vs:=[_,_]) rfl rfl K2 .nil (zaI hR he (hk.sm (by omega) (by omega)) (evA 5 (w.tmod qn)) (znq _ _ _) hd9) rfl rfl ?_
       rintro vv3 I3 L3 hI3 ⟨rfl,vr9,rfl,hV9⟩
       have hKc9:=hKc9.trans hI3;have hD:=hD.trans hI3
       obtain ⟨pa9,pn9,pc9,qa9,qn9,qc9,aa9,an9,ac9,ps9,qs9,rfl,hR9,he9⟩:=(show RmV _ vr9 (r9) from hV9)
       refine Qb ?_
       refine zD hD ?_
       refine zT 9 rfl (Qh rfl) hD ?_
       refine zT 10 rfl (Q4 rfl rfl) hD ?_
       refine zT 11 rfl (Q4 rfl rfl) hD ?_
       refine qd 12 rfl ?_
       refine Qs Kw rfl rfl (fun b_9=>?_)
       refine Qb ?_
       refine zD hD ?_
       refine qd 13 rfl ?_
       refine zh YS ?_
       refine Q9 (b:=b_9) (by repeat (first | exact Ya.here | apply Ya.there)) (fun I4 hI4 hb4=>?_)
       have hR9:=hR9.mono hI4;have hKc9:=hKc9.trans hI4;have hD:=hD.trans hI4
       have h9:=BxI.of hb4
       refine Qb ?_
       refine zD hD ?_
       refine zT 14 rfl (QB rfl) hD ?_
       refine Qm (by kernel_rfl) ?_
       refine QA ?_
       exact zm (h:=⟨_,_,_,_,_,_,_,_,_,_,_,_,_,rfl,hKc9,rfl,h9,hR9,he9⟩)
      refine Qs Kw rfl rfl (fun b_9=>?_)
      refine Qb ?_
      refine zD hD ?_
      refine qd 8 rfl ?_
      refine QC (cap:=[]) (vs:=[_,_]) rfl rfl K2 .nil (zaI hR he (hk.sm (by omega) (by omega)) (evA 5 (w.tmod qn)) (znq _ _ _) hd9) rfl rfl ?_
      rintro vv5 I5 L5 hI5 ⟨rfl,vr9,rfl,hV9⟩
      have hKc9:=hKc9.trans hI5;have hD:=hD.trans hI5
      obtain ⟨pa9,pn9,pc9,qa9,qn9,qc9,aa9,an9,ac9,ps9,qs9,rfl,hR9,he9⟩:=(show RmV _ vr9 (r9) from hV9)
      refine Qb ?_
      refine zD hD ?_
      refine zT 9 rfl (Qh rfl) hD ?_
      refine zT 10 rfl (Q4 rfl rfl) hD ?_
      refine zT 11 rfl (Q4 rfl rfl) hD ?_
      refine qd 13 rfl ?_
      refine zh YS ?_
      refine Q9 (b:=b_9) (by repeat (first | exact Ya.here | apply Ya.there)) (fun I6 hI6 hb6=>?_)
      have hR9:=hR9.mono hI6;have hKc9:=hKc9.trans hI6;have hD:=hD.trans hI6
      have h9:=BxI.of hb6
      refine Qb ?_
      refine zD hD ?_
      refine zT 14 rfl (QB rfl) hD ?_
      refine Qm (by kernel_rfl) ?_
      refine QA ?_
      exact zm (h:=⟨_,_,_,_,_,_,_,_,_,_,_,_,_,rfl,hKc9,rfl,h9,hR9,he9⟩)
     rintro E J7 loc' ⟨b9,pa9,pn9,pc9,qa9,qn9,qc9,aa9,an9,ac9,ps9,qs9,ks9,rfl,hJ9,rfl,h9,hR9,he9⟩
     have hKc8:=hKc8.trans hJ9
     have hpn9:pn9=pn0:=by rw [(Yx hR9 he9).1];exact hk9.len
     refine Qr (zR (zM ?_))
     refine zC ?_
     refine zM ?_
     refine Ze 2 rfl rfl rfl ?_
     refine zJ (Qa rfl ZR) ?_
     refine zJ (Qd rfl YV (fun hg=>by exact QG.imm h9.out rfl)) ?_
     refine zJ (Zc rfl YK) ?_
     refine zJ (Qh rfl) ?_
     refine zJ (QV rfl rfl rfl) ?_
     refine ZP rfl rfl rfl rfl rfl ?_
     refine zM ?_
     refine Ze 9 rfl rfl rfl ?_
     refine zJ (Qa rfl Z1) ?_
     refine zJ (Qa rfl Zi) ?_
     refine zJ (Qd rfl Zo (fun hg=>by exact QG.imm h9.out rfl)) ?_
     refine zJ (Zc rfl Zl) ?_
     refine zJ (Qa rfl Z1) ?_
     refine zJ (Qa rfl Zi) ?_
     refine zJ (Qd rfl Zo (fun hg=>by exact QG.h1 rfl)) ?_
     refine zJ (Zc rfl Zl) ?_
     refine zJ (VZ rfl rfl rfl (fun hg=>by omega)) ?_
     refine zJ (QV rfl rfl rfl) ?_
     refine ZP rfl rfl rfl rfl rfl ?_
     refine zN ?_
     refine zI ?_ ?_<;>intro hc76
     ·
      have h:=hc76
      have h2:=(Yx hR9 he9).2.1
      simp [hpn9] at h
      omega
     refine Qw (Qc (Qk ?_))
     refine zV (Qg rfl YA (fun hg=>by exact BxI.cells (vs:=[_,_,_]) h9) rfl) ?_
     refine zh YS ?_
     refine Qb ?_
     have hR7:=hR9
     have he7:=he9
     have hk7:=hk9
     have hs7:=hs.trans hs9
     have hl7:r9.qs.length=R.qs.length∨(r9.qs.length=R.qs.length+1∧k<on):=.inr ⟨hl9,hkn⟩
     exact zm (h:=⟨_,_,_,_,_,_,_,_,_,_,_,_,_,rfl,hKc8,rfl,hR7,he7,hk7,hs7,hl7⟩)
    have hR7:=hR
    have he7:=he
    have hk7:=hk
    have hs7:=hs
    have hl7:R.qs.length=R.qs.length∨(R.qs.length=R.qs.length+1∧k<on):=.inl rfl
    refine Qw ?_
    exact zm (h:=⟨_,_,_,_,_,_,_,_,_,_,_,_,_,rfl,hKc8,rfl,hR7,he7,hk7,hs7,hl7⟩)
   refine Qk (zM ?_)
   refine zM ?_
   refine zQ JI ?_
   refine zC ?_
   rw [show decide (((k:Nat):Int)<((on:Nat):Int))=false by simp;omega]
   refine zM ?_
   refine Vu (dj:=37) rfl rfl rfl rfl rfl ?_
   refine Vu (dj:=37) rfl rfl rfl rfl rfl ?_
   refine Vu (dj:=37) rfl rfl rfl rfl rfl ?_
   refine Vu (dj:=37) rfl rfl rfl rfl rfl ?_
   refine Vu (dj:=37) rfl rfl rfl rfl rfl ?_
   refine zV (Kh rfl rfl rfl) ?_
   refine zN ?_
   refine zI ?_ ?_<;>intro hc43
   ·
    cases hc43
   have hR7:=hR
   have he7:=he
   have hk7:=hk
   have hs7:=hs
   have hl7:R.qs.length=R.qs.length∨(R.qs.length=R.qs.length+1∧k<on):=.inl rfl
   refine Qw ?_
   exact zm (h:=⟨_,_,_,_,_,_,_,_,_,_,_,_,_,rfl,hKc8,rfl,hR7,he7,hk7,hs7,hl7⟩)
  rintro E J8 loc' ⟨pa2,pn2,pc2,qa2,qn2,qc2,aa2,an2,ac2,ps2,qs2,ks2,R2,rfl,hJ6,rfl,hR2,he2,hk2,hs2,hl2⟩
  have hB0:=hB0.trans hJ6
  have hqn2:qn2=R2.qs.length:=(Yx hR2 he2).2.1
  obtain ⟨r8,hd8,hl8,hs8,hk8⟩:=hk2.dlv' (w:=w) ht (by omega) (by omega) (by omega) hqn2
  refine zR ?_
  refine zF Z1 ?_
  refine zF Zi ?_
  refine zL Zo ?_
  refine zQ Zl ?_
  refine zA (zN ?_)
  refine zY [(1,_),(2,_),(4,_),(6,_),(7,_),(11,_)] (fun T L0 E I' loc'=>∃ (b8:Nat) (pa8:Option Addr) (pn8:Nat) (pc8:Nat) (qa8:Option Addr) (qn8:Nat) (qc8:Nat) (aa8:Option Addr) (an8:Nat) (ac8:Nat) (ps8:List Pe) (qs8:List Pk) (ks8:List (Int×Int)),E=(12,ZM b8)::(13,.int .i64 0)::T∧HLe J8 I'∧[(b_4,.cells #[.slice none 0 0,.slice none 0 0,.slice none 0 0] 28 (0,0)),(b_2,.cells #[.slice pa2 pn2 pc2,.slice qa2 qn2 qc2,.slice aa2 an2 ac2] 28 (0,0))]=loc'∧BxI I' b8 (.cells #[.slice pa8 pn8 pc8,.slice qa8 qn8 qc8,.slice aa8 an8 ac8] 28 (0,0))∧RmP I' pa8 pn8 pc8 qa8 qn8 qc8 aa8 an8 ac8 ps8 qs8 ks8∧Vn ps8 qs8 ks8=r8) ?_ ?_
  ·
   have hKc14:=zwQ J8
   have hD:=zwQ J8
   refine ZK ?_
   refine QZ J8 [(b_4,.cells #[.slice none 0 0,.slice none 0 0,.slice none 0 0] 28 (0,0)),(b_2,.cells #[.slice pa2 pn2 pc2,.slice qa2 qn2 qc2,.slice aa2 an2 ac2] 28 (0,0))] mixed ?_
   refine zT 0 rfl (Qg rfl YA (fun hg=>by exact Cells.g1) rfl) hD ?_
   refine zT 1 rfl (Qh rfl) hD ?_
   refine zT 2 rfl (Qh rfl) hD ?_
   refine zT 3 rfl (Yc rfl rfl (fun hg=>by omega)) hD ?_
   refine zT 4 rfl (Q0 (ps:=[(0,_),(3,_)]) [_,_,_,_,_,_,_,_,_,_,_,_,_,_,_,_,_,_,_,_,_,_,_,_,_,_,_,_,_,_,_,_,_,_,_,_,_,_,_,_,_,_,_,_,_,_,_,_,_] zaA rfl rfl) hD ?_
   refine Q8 5 9 rfl rfl (by kernel_rfl) ?_ ?_
   ·
    refine QC (cap:=[]) (vs:=[_,_]) rfl rfl K2 .nil (zaI hR2 he2 (hk2.sm (by omega) (by omega)) (evA 3 (w.tmod qn2)) (znq _ _ _) hd8) rfl rfl ?_
    rintro vv9 I9 L9 hI9 ⟨rfl,vr8,rfl,hV8⟩
    have hKc14:=hKc14.trans hI9;have hD:=hD.trans hI9
    obtain ⟨pa8,pn8,pc8,qa8,qn8,qc8,aa8,an8,ac8,ps8,qs8,rfl,hR8,he8⟩:=(show RmV _ vr8 (r8) from hV8)
    refine Qb ?_
    refine zD hD ?_
    refine zT 6 rfl (Qh rfl) hD ?_
    refine zT 7 rfl (Q4 rfl rfl) hD ?_
    refine zT 8 rfl (Q4 rfl rfl) hD ?_
    refine qd 9 rfl ?_
    refine Qs Kw rfl rfl (fun b_12=>?_)
    refine Qb ?_
    refine zD hD ?_
    refine qd 10 rfl ?_
    refine zh YS ?_
    refine Q9 (b:=b_12) (by repeat (first | exact Ya.here | apply Ya.there)) (fun I10 hI10 hb10=>?_)
    have hR8:=hR8.mono hI10;have hKc14:=hKc14.trans hI10;have hD:=hD.trans hI10
    have h8:=BxI.of hb10
    refine Qb ?_
    refine zD hD ?_
    refine zT 11 rfl (QB rfl) hD ?_
    refine Qm (by kernel_rfl) ?_
    refine QA ?_
    exact zm (h:=⟨_,_,_,_,_,_,_,_,_,_,_,_,_,rfl,hKc14,rfl,h8,hR8,he8⟩)
   refine Qs Kw rfl rfl (fun b_12=>?_)
   refine Qb ?_
   refine zD hD ?_
   refine qd 5 rfl ?_
   refine QC (cap:=[]) (vs:=[_,_]) rfl rfl K2 .nil (zaI hR2 he2 (hk2.sm (by omega) (by omega)) (evA 3 (w.tmod qn2)) (znq _ _ _) hd8) rfl rfl ?_
   rintro vv11 I11 L11 hI11 ⟨rfl,vr8,rfl,hV8⟩
   have hKc14:=hKc14.trans hI11;have hD:=hD.trans hI11
   obtain ⟨pa8,pn8,pc8,qa8,qn8,qc8,aa8,an8,ac8,ps8,qs8,rfl,hR8,he8⟩:=(show RmV _ vr8 (r8) from hV8)
   refine Qb ?_
   refine zD hD ?_
   refine zT 6 rfl (Qh rfl) hD ?_
   refine zT 7 rfl (Q4 rfl rfl) hD ?_
   refine zT 8 rfl (Q4 rfl rfl) hD ?_
   refine qd 10 rfl ?_
   refine zh YS ?_
   refine Q9 (b:=b_12) (by repeat (first | exact Ya.here | apply Ya.there)) (fun I12 hI12 hb12=>?_)
   have hR8:=hR8.mono hI12;have hKc14:=hKc14.trans hI12;have hD:=hD.trans hI12
   have h8:=BxI.of hb12
   refine Qb ?_
   refine zD hD ?_
   refine zT 11 rfl (QB rfl) hD ?_
   refine Qm (by kernel_rfl) ?_
   refine QA ?_
   exact zm (h:=⟨_,_,_,_,_,_,_,_,_,_,_,_,_,rfl,hKc14,rfl,h8,hR8,he8⟩)
  rintro E J13 loc' ⟨b8,pa8,pn8,pc8,qa8,qn8,qc8,aa8,an8,ac8,ps8,qs8,ks8,rfl,hJ8,rfl,h8,hR8,he8⟩
  have hB0:=hB0.trans hJ8
  have hpn8:pn8=pn0:=by rw [(Yx hR8 he8).1];exact hk8.len
  refine Qr (zR (zM ?_))
  refine zC ?_
  refine zM ?_
  refine Ze 2 rfl rfl rfl ?_
  refine zJ (Qa rfl ZR) ?_
  refine zJ (Qd rfl YV (fun hg=>by exact QG.imm h8.out rfl)) ?_
  refine zJ (Zc rfl YK) ?_
  refine zJ (Qh rfl) ?_
  refine zJ (QV rfl rfl rfl) ?_
  refine ZP rfl rfl rfl rfl rfl ?_
  refine zM ?_
  refine Ze 9 rfl rfl rfl ?_
  refine zJ (Qa rfl Z1) ?_
  refine zJ (Qa rfl Zi) ?_
  refine zJ (Qd rfl Zo (fun hg=>by exact QG.imm h8.out rfl)) ?_
  refine zJ (Zc rfl Zl) ?_
  refine zJ (Qh rfl) ?_
  refine zJ (VZ rfl rfl rfl (fun hg=>by omega)) ?_
  refine zJ (QV rfl rfl rfl) ?_
  refine ZP rfl rfl rfl rfl rfl ?_
  refine zN ?_
  refine zI ?_ ?_<;>intro hc109
  ·
   have h:=hc109
   have h2:=(Yx hR8 he8).2.1
   simp [hpn8] at h
   omega
  refine Qw (Qc (Qk ?_))
  refine zV (Qg rfl YA (fun hg=>by exact BxI.cells (vs:=[_,_,_]) h8) rfl) ?_
  refine zh YS ?_
  refine Qb (Qp (Qc (Qk (zM ?_))))
  refine zB ?_
  refine zA (Qb ?_)
  exact zm (h:=⟨(on-(k+1))+r8.qs.length,by omega,k+1,_,_,_,_,_,_,_,_,_,_,_,_,r8,rfl,rfl,hB0,rfl,hR8,he8,hk8,hs2.trans hs8,by omega,by omega⟩)
 have hq00:R.qs=[]:=by have h:=hc21;simp at h;exact List.eq_nil_of_length_eq_zero (by omega)
 refine ZC (Qt (Qt (QD (Qc (zR ?_)))))
 refine zV (Qg rfl YA (fun hg=>by exact Cells.g1) rfl) ?_
 refine zh YS ?_
 refine zA (zN (QF ?_))
 exact Z0 rfl rfl rfl YA .here rfl (fun w hw=>⟨_,J1,[],rfl,hIc,hw.subL Qe,rfl,_,R,rfl,⟨_,_,_,_,_,_,_,_,_,_,_,rfl,by rw [(Yx hR he).2.2] at hR;exact hR,by rw [←(Yx hR he).2.2];exact he⟩,hk,hq00,hs⟩)
end
section
open Go Go.Kn Go.Proofs
theorem zrs {x y:Pk}(h:Vg x=Vg y):x.frm=y.frm∧x.to_=y.to_∧x.data=y.data:=by
 obtain ⟨f,t,a,n,c,d⟩:=x
 obtain ⟨f',t',a',n',c',d'⟩:=y
 simp only [Vg,Pk.mk.injEq] at h
 exact ⟨h.1,h.2.1,h.2.2.2.2.2⟩
theorem zoQ {α β:Type}{f:α→β}{xs ys:List α}(h:xs.map f=ys.map f){k:Nat}{x y:α}(hx:xs[k]? =some x)(hy:ys[k]? =some y):f x=f y:=by
 have:=congrArg (·[k]?) h
 simp only [List.getElem?_map,hx,hy,Option.map_some,Option.some.injEq] at this
 exact this
theorem zk6 {α β:Type}{f:α→β}{xs ys:List α}(h:xs.map f=ys.map f):xs.length=ys.length:=by
 have:=congrArg List.length h
 simpa using this
theorem zmr {ps ps':List Pe}{qs qs':List Pk}{ks ks':List (Int×Int)}{r:Rd}(h:Vn ps qs ks=r)(h':Vn ps' qs' ks'=r):ps.map (fun pe=>pe.notes.map Yp)=ps'.map (fun pe=>pe.notes.map Yp)∧qs.map Vg=qs'.map Vg∧ks=ks':=by
 rw [←h'] at h
 simp only [Vn,dtP,Rd.mk.injEq] at h
 exact h
theorem eqI {a b:Int}(h:a=b):(a==b)=true:=by rw [h];simp
theorem znO {I:Qv}{a b:Option Addr}{n c m d:Nat}{xs ys:List Nt}(hS:UB I a n c xs)(hT:UB I b m d ys)(h:xs.map Yp=ys.map Yp):smL xs ys=true:=
 (ze2 hS.nd hT.nd).2 h
theorem zjy {I:Qv}{a:Option Addr}{n c:Nat}{xs:List Nt}(hS:UB I a n c xs)(hv:Z9 (xs.map Yp)=true):∀ x∈xs,x.pt.n≤100000:=fun x hx=>
 znj (hS.nd x hx) ((VD hv).2.1 _ (List.mem_map.2 ⟨x,hx,rfl⟩))
end
section
open Go Go.Kn Go.Proofs
theorem zrr:Fun Tryz.prog 134:=.of Tryz.func134 (by kernel_rfl) (by kernel_rfl)
theorem zsw:Fun Tryz.prog 65:=.of Tryz.func65 (by kernel_rfl) (by kernel_rfl)
theorem zvK {I:Qv}{x y:Pk}(hX:PkM I x)(hY:PkM I y)(he:Vg x=Vg y):Yb Tryz.prog 134 [K5 x,K5 y] I (.bool true):=by
 intro g H w hw
 refine qe Tryz.func134 Tryz.ntmps134 hw ?_
 have hIc:=zwQ I
 obtain ⟨e1,e2,e3⟩:=zrs he
 refine zR ?_
 refine Zd rfl rfl rfl (fun b_2=>?_)
 refine Zd rfl rfl rfl (fun b_3=>?_)
 refine zA (Qb ?_)
 refine QN .here (fun I1 hI1 hb1=>?_)
 have hX:=hX.mono hI1;have hY:=hY.mono hI1;have hIc:=hIc.trans hI1
 have h3:=BxI.of hb1
 refine QN .here (fun I2 hI2 hb2=>?_)
 have hX:=hX.mono hI2;have hY:=hY.mono hI2;have h3:=h3.mono hI2;have hIc:=hIc.trans hI2
 have h2:=BxI.of hb2
 refine Qc (zR ?_)
 refine zF Uj ?_
 refine zV (Qd rfl Qy (fun hg=>by exact QG.imm h2.out rfl)) ?_
 refine zF Uj ?_
 refine zV (Qd rfl Qy (fun hg=>by exact QG.imm h3.out rfl)) ?_
 refine zC ?_
 rw [eqI e1]
 refine zM ?_
 refine Q2 (dj:=10) rfl rfl rfl ?_
 refine zF KI ?_
 refine Q2 (dj:=10) rfl rfl rfl ?_
 refine zV (Qd rfl Qy (fun hg=>by exact QG.imm h2.out rfl)) ?_
 refine Q2 (dj:=10) rfl rfl rfl ?_
 refine zF KI ?_
 refine Q2 (dj:=10) rfl rfl rfl ?_
 refine zV (Qd rfl Qy (fun hg=>by exact QG.imm h3.out rfl)) ?_
 refine Q2 (dj:=10) rfl rfl rfl ?_
 refine zC ?_
 rw [eqI e2]
 refine zV (Zz rfl rfl rfl) ?_
 refine zM ?_
 refine Q2 (dj:=17) rfl rfl rfl ?_
 refine zF Ul ?_
 refine Q2 (dj:=17) rfl rfl rfl ?_
 refine zV (Qd rfl KT (fun hg=>by exact QG.imm h2.out rfl)) ?_
 refine Q2 (dj:=17) rfl rfl rfl ?_
 refine zV (ZG rfl bst (fun hg=>hX.sl)) ?_
 refine Q2 (dj:=17) rfl rfl rfl ?_
 refine zF Ul ?_
 refine Q2 (dj:=17) rfl rfl rfl ?_
 refine zV (Qd rfl KT (fun hg=>by exact QG.imm h3.out rfl)) ?_
 refine Q2 (dj:=17) rfl rfl rfl ?_
 refine zV (ZG rfl bst (fun hg=>hY.sl)) ?_
 refine Q2 (dj:=17) rfl rfl rfl ?_
 refine zV (UM rfl rfl rfl) ?_
 rw [e3,zbJ]
 refine zV (Zz rfl rfl rfl) ?_
 refine zA (zN (QF ?_))
 exact QR rfl rfl (fun w hw=>⟨by rfl,(hw.mono hIc).subL Qe⟩)
theorem zum {I:Qv}{qa1:Option Addr}{qn1 qc1:Nat}{aa1:Option Addr}{an1 ac1:Nat}{qs1:List Pk}{ks1:List (Int×Int)}(hQ1:Sl I 3 ZN qa1 qn1 qc1 qs1)(hM1:∀ q∈qs1,PkM I q)(hK1:Sl I 2 JS aa1 an1 ac1 ks1){qa2:Option Addr}{qn2 qc2:Nat}{aa2:Option Addr}{an2 ac2:Nat}{qs2:List Pk}{ks2:List (Int×Int)}(hQ2:Sl I 3 ZN qa2 qn2 qc2 qs2)(hM2:∀ q∈qs2,PkM I q)(hK2:Sl I 2 JS aa2 an2 ac2 ks2)(hq:qs1.map Vg=qs2.map Vg)(hk:ks1=ks2)(hn1:qn1≤100000)(ha1:an1≤100000):Yb Tryz.prog 65 [.agg #[.slice qa1 qn1 qc1,.slice aa1 an1 ac1],.agg #[.slice qa2 qn2 qc2,.slice aa2 an2 ac2]] I (.bool true):=by
 intro g H w hw
 refine qe Tryz.func65 Tryz.ntmps65 hw ?_
 have hIc:=zwQ I
 have hl1:=hQ1.len
 have hl2:=hQ2.len
 have hl3:=hK1.len
 have hl4:=hK2.len
 have hl5:=zk6 hq
 subst hk
 refine zR ?_
 refine Zd rfl rfl rfl (fun b_2=>?_)
 refine Zd rfl rfl rfl (fun b_3=>?_)
 refine zA (Qb ?_)
 refine QN .here (fun I1 hI1 hb1=>?_)
 have hQ1:=hQ1.mono hI1;have hQ2:=hQ2.mono hI1;have hK1:=hK1.mono hI1;have hK2:=hK2.mono hI1;have hIc:=hIc.trans hI1
 have h3:=BxI.of hb1
 refine QN .here (fun I2 hI2 hb2=>?_)
 have hQ1:=hQ1.mono hI2;have hQ2:=hQ2.mono hI2;have hK1:=hK1.mono hI2;have hK2:=hK2.mono hI2;have h3:=h3.mono hI2;have hIc:=hIc.trans hI2
 have h2:=BxI.of hb2
 refine Qc (Qr (zR ?_))
 refine zF Zi ?_
 refine zV (Qd rfl Zo (fun hg=>by exact QG.imm h2.out rfl)) ?_
 refine zQ Zl ?_
 refine zF Zi ?_
 refine zV (Qd rfl Zo (fun hg=>by exact QG.imm h3.out rfl)) ?_
 refine zQ Zl ?_
 refine zC ?_
 refine zM ?_
 refine Ze 7 rfl rfl rfl ?_
 refine zJ (Qa rfl Kc) ?_
 refine zJ (Qd rfl Xx (fun hg=>by exact QG.imm h2.out rfl)) ?_
 refine zJ (Zc rfl UJ) ?_
 refine zJ (Qa rfl Kc) ?_
 refine zJ (Qd rfl Xx (fun hg=>by exact QG.imm h3.out rfl)) ?_
 refine zJ (Zc rfl UJ) ?_
 refine zJ (QV rfl rfl rfl) ?_
 refine ZP rfl rfl rfl rfl rfl ?_
 refine zN ?_
 refine zI ?_ ?_<;>intro hc22
 ·
  have h:=hc22
  simp at h
  omega
 refine Qw (Qc (Qr (zR (zA (zN (QE ?_))))))
 refine zU [(2,_),(3,_)] (fun T L0 mz E I' loc'=>∃ (k:Nat),mz=qn1-k∧E=(5,.int .i64 k)::T∧HLe I2 I'∧L0=loc'∧k≤qn1) ?_ (h:=⟨0,rfl,rfl,zwQ _,rfl,Nat.zero_le _⟩)
 rintro mz E J3 loc' ⟨k,rfl,rfl,hJ,rfl,hk⟩
 have hQ1:=hQ1.mono hJ;have hQ2:=hQ2.mono hJ;have hK1:=hK1.mono hJ;have hK2:=hK2.mono hJ;have h3:=h3.mono hJ;have h2:=h2.mono hJ;have hIc:=hIc.trans hJ
 have hB0:=hJ
 refine Qr (zR (zM ?_))
 refine zF Zi ?_
 refine zV (Qd rfl Zo (fun hg=>by exact QG.imm h2.out rfl)) ?_
 refine zQ Zl ?_
 refine zC (zN ?_)
 refine zI ?_ ?_<;>intro hc27
 ·
  have hlt_k:k<qn1:=by have h:=hc27;simp at h;omega
  obtain ⟨x,hx⟩:∃ y,qs1[k]? =some y:=⟨_,List.getElem?_eq_getElem (by omega)⟩
  obtain ⟨y,hy⟩:∃ y,qs2[k]? =some y:=⟨_,List.getElem?_eq_getElem (by omega)⟩
  refine Qw (Qc (Qr (QE (Qr ?_))))
  have hD:=zwQ J3
  refine ZK ?_
  refine QZ J3 [] mixed ?_
  refine zT 0 rfl (Qa rfl Zi) hD ?_
  refine zT 1 rfl (Qd rfl Zo (fun hg=>by exact QG.imm h2.out rfl)) hD ?_
  refine zT 2 rfl (Qh rfl) hD ?_
  refine zT 3 rfl (zX Zl hQ1) hD ?_
  refine zT 4 rfl (Qg rfl VB (fun hg=>by exact zwR hQ1 hx) rfl) hD ?_
  refine zT 5 rfl (Qa rfl Zi) hD ?_
  refine zT 6 rfl (Qd rfl Zo (fun hg=>by exact QG.imm h3.out rfl)) hD ?_
  refine zT 7 rfl (Qh rfl) hD ?_
  refine zT 8 rfl (zX Zl hQ2) hD ?_
  refine zT 9 rfl (Qg rfl VB (fun hg=>by exact zwR hQ2 hy) rfl) hD ?_
  refine qd 10 rfl ?_
  refine qcV (vs:=[_,_]) rfl zrr (zvK ((hM1 x (List.mem_of_getElem? hx)).mono hIc) ((hM2 y (List.mem_of_getElem? hy)).mono hIc) (zoQ hq hx hy)) ?_
  refine Qb ?_
  refine zD hD ?_
  refine zT 11 rfl (Yz rfl) hD ?_
  refine Qm (by kernel_rfl) ?_
  refine QA ?_
  refine Qc ?_
  refine zI ?_ ?_<;>intro hc41
  ·
   cases hc41
  refine Qw (Qp (Qc (Qk (zM ?_))))
  refine zB ?_
  refine zA (Qb ?_)
  exact zm (h:=⟨qn1-(k+1),by omega,k+1,rfl,rfl,hB0,rfl,by omega⟩)
 have hge_k:qn1≤k:=by have h:=hc27;simp at h;omega
 refine ZC (Qt (Qt (QD (Qc (Qr (zR (zA ?_)))))))
 refine zN (QE ?_)
 refine zU [(2,_),(3,_)] (fun T L0 mz E I' loc'=>∃ (k:Nat),mz=an1-k∧E=(6,.int .i64 k)::T∧HLe J3 I'∧L0=loc'∧k≤an1) ?_ (h:=⟨0,rfl,rfl,zwQ _,rfl,Nat.zero_le _⟩)
 rintro mz E J4 loc' ⟨k,rfl,rfl,hJ,rfl,hk⟩
 have hK1:=hK1.mono hJ;have hK2:=hK2.mono hJ;have h3:=h3.mono hJ;have h2:=h2.mono hJ;have hIc:=hIc.trans hJ
 have hB2:=hJ
 refine Qr (zR (zM ?_))
 refine zF Kc ?_
 refine zV (Qd rfl Xx (fun hg=>by exact QG.imm h2.out rfl)) ?_
 refine zQ UJ ?_
 refine zC (zN ?_)
 refine zI ?_ ?_<;>intro hc46
 ·
  have hlt_k:k<an1:=by have h:=hc46;simp at h;omega
  obtain ⟨u,hu⟩:∃ y,ks1[k]? =some y:=⟨_,List.getElem?_eq_getElem (by omega)⟩
  refine Qw (Qc (Qr (QE (Qr ?_))))
  have hD:=zwQ J4
  refine ZK ?_
  refine QZ J4 [] mixed ?_
  refine zT 0 rfl (Qa rfl Kc) hD ?_
  refine zT 1 rfl (Qd rfl Xx (fun hg=>by exact QG.imm h2.out rfl)) hD ?_
  refine zT 2 rfl (Qh rfl) hD ?_
  refine zT 3 rfl (zX UJ hK1) hD ?_
  refine zT 4 rfl (Qg rfl KC (fun hg=>by exact zwR hK1 hu) rfl) hD ?_
  refine zT 5 rfl (Qa rfl Kc) hD ?_
  refine zT 6 rfl (Qd rfl Xx (fun hg=>by exact QG.imm h3.out rfl)) hD ?_
  refine zT 7 rfl (Qh rfl) hD ?_
  refine zT 8 rfl (zX UJ hK2) hD ?_
  refine zT 9 rfl (Qg rfl KC (fun hg=>by exact zwR hK2 hu) rfl) hD ?_
  refine zT 10 rfl (zqX rfl rfl zjr) hD ?_
  refine Qm (by kernel_rfl) ?_
  refine QA ?_
  refine Qc ?_
  refine zI ?_ ?_<;>intro hc59
  ·
   exact absurd hc59 (by simp)
  refine Qw (Qp (Qc (Qk (zM ?_))))
  refine zB ?_
  refine zA (Qb ?_)
  exact zm (h:=⟨an1-(k+1),by omega,k+1,rfl,rfl,hB2,rfl,by omega⟩)
 have hge_k:an1≤k:=by have h:=hc46;simp at h;omega
 refine ZC (Qt (Qt (QD (Qc (zR (zA (zN ?_)))))))
 refine QF ?_
 exact QR rfl rfl (fun w hw=>⟨by rfl,(hw.mono hIc).subL Qe⟩)
theorem zvQ {I:Qv}{av bv:Option Addr}{n c m d:Nat}{xs ys:List Nt}(hS:UB I av n c xs)(hT:UB I bv m d ys)(h:xs.map Yp=ys.map Yp)(hsm:∀ x∈xs,x.pt.n≤100000)(hn:n≤100000):Yb Tryz.prog 31 [.slice av n c,.slice bv m d] I (.bool true):=by
 have h2:=zr7 hS.sl hT.sl hS.nd hT.nd hsm hn
 rw [znO hS hT h] at h2;exact h2
theorem zvC {I:Qv}{R:Rd}{pa1 qa1 aa1:Option Addr}{pn1 pc1 qn1 qc1 an1 ac1:Nat}{ps1:List Pe}{qs1:List Pk}{ks1:List (Int×Int)}(hR1:RmP I pa1 pn1 pc1 qa1 qn1 qc1 aa1 an1 ac1 ps1 qs1 ks1)(he1:Vn ps1 qs1 ks1=R){pa2 qa2 aa2:Option Addr}{pn2 pc2 qn2 qc2 an2 ac2:Nat}{ps2:List Pe}{qs2:List Pk}{ks2:List (Int×Int)}(hR2:RmP I pa2 pn2 pc2 qa2 qn2 qc2 aa2 an2 ac2 ps2 qs2 ks2)(he2:Vn ps2 qs2 ks2=R)(hv:∀ xs∈R.ps,Z9 xs=true)(hsm:SmR R):Yb Tryz.prog 18 [.agg #[.slice pa1 pn1 pc1,.slice qa1 qn1 qc1,.slice aa1 an1 ac1],.agg #[.slice pa2 pn2 pc2,.slice qa2 qn2 qc2,.slice aa2 an2 ac2]] I (.bool true):=by
 intro g H w hw
 refine qe Tryz.func18 Tryz.ntmps18 hw ?_
 have hIc:=zwQ I
 obtain ⟨e1,e2,e3⟩:=zmr he1 he2
 have hl1:=hR1.pe.len
 have hl2:=hR2.pe.len
 have hl3:=zk6 e1
 have hsmU:=SmR.use hR1 (by rw [he1];exact hsm)
 refine zR ?_
 refine Zd rfl rfl rfl (fun b_2=>?_)
 refine Zd rfl rfl rfl (fun b_3=>?_)
 refine zA (Qb ?_)
 refine QN .here (fun I1 hI1 hb1=>?_)
 have hR1:=hR1.mono hI1;have hR2:=hR2.mono hI1;have hIc:=hIc.trans hI1
 have h3:=BxI.of hb1
 refine QN .here (fun I2 hI2 hb2=>?_)
 have hR1:=hR1.mono hI2;have hR2:=hR2.mono hI2;have h3:=h3.mono hI2;have hIc:=hIc.trans hI2
 have h2:=BxI.of hb2
 refine Qc (Qr (zR ?_))
 refine zF ZR ?_
 refine zV (Qd rfl YV (fun hg=>by exact QG.imm h2.out rfl)) ?_
 refine zQ YK ?_
 refine zF ZR ?_
 refine zV (Qd rfl YV (fun hg=>by exact QG.imm h3.out rfl)) ?_
 refine zQ YK ?_
 refine zC ?_
 rw [show (((pn1:Nat):Int) != ((pn2:Nat):Int))=false by rw [show pn1=pn2 by omega,zcG]]
 refine zM ?_
 refine Q2 (dj:=13) rfl rfl rfl ?_
 refine zF Z1 ?_
 refine Q2 (dj:=13) rfl rfl rfl ?_
 refine zV (Qg rfl ZY (fun hg=>by exact Cells.part (pre:=[_]) (vs:=[_,_]) (post:=[]) (BxI.cells (vs:=[_,_,_]) h2) rfl) rfl) ?_
 refine Q2 (dj:=13) rfl rfl rfl ?_
 refine zF Z1 ?_
 refine Q2 (dj:=13) rfl rfl rfl ?_
 refine zV (Qg rfl ZY (fun hg=>by exact Cells.part (pre:=[_]) (vs:=[_,_]) (post:=[]) (BxI.cells (vs:=[_,_,_]) h3) rfl) rfl) ?_
 refine Q2 (dj:=13) rfl rfl rfl ?_
 refine qcV (vs:=[_,_]) rfl zsw (zum hR1.q hR1.pk hR1.k hR2.q hR2.pk hR2.k e2 e3 hsmU.2.1 hsmU.2.2.1) ?_
 refine Q2 (dj:=13) rfl rfl rfl ?_
 refine zO ?_
 refine zV (Zz rfl rfl rfl) ?_
 refine zN ?_
 refine zI ?_ ?_<;>intro hc20
 ·
  cases hc20
 refine Qw (Qc (Qr (zR (zA (zN (QE ?_))))))
 refine zU [(2,_),(3,_)] (fun T L0 mz E I' loc'=>∃ (k:Nat),mz=pn1-k∧E=(5,.int .i64 k)::T∧HLe I2 I'∧L0=loc'∧k≤pn1) ?_ (h:=⟨0,rfl,rfl,zwQ _,rfl,Nat.zero_le _⟩)
 rintro mz E J3 loc' ⟨k,rfl,rfl,hJ,rfl,hk⟩
 have hR1:=hR1.mono hJ;have hR2:=hR2.mono hJ;have h3:=h3.mono hJ;have h2:=h2.mono hJ;have hIc:=hIc.trans hJ
 have hB0:=hJ
 refine Qr (zR (zM ?_))
 refine zF ZR ?_
 refine zV (Qd rfl YV (fun hg=>by exact QG.imm h2.out rfl)) ?_
 refine zQ YK ?_
 refine zC (zN ?_)
 refine zI ?_ ?_<;>intro hc25
 ·
  have hlt_k:k<pn1:=by have h:=hc25;simp at h;omega
  obtain ⟨x,hx⟩:∃ y,ps1[k]? =some y:=⟨_,List.getElem?_eq_getElem (by omega)⟩
  obtain ⟨y,hy⟩:∃ y,ps2[k]? =some y:=⟨_,List.getElem?_eq_getElem (by omega)⟩
  have hxm:=List.mem_of_getElem? hx
  have hym:=List.mem_of_getElem? hy
  have hsmn:=hsmU.1
  refine Qw (Qc (Qr (QE (Qr ?_))))
  have hD:=zwQ J3
  refine ZK ?_
  refine QZ J3 [] mixed ?_
  refine zT 0 rfl (Qa rfl ZR) hD ?_
  refine zT 1 rfl (Qd rfl YV (fun hg=>by exact QG.imm h2.out rfl)) hD ?_
  refine zT 2 rfl (Qh rfl) hD ?_
  refine zT 3 rfl (QX rfl rfl YK hR1.pe (fun hg=>by omega)) hD ?_
  refine zT 4 rfl (Qa rfl Yi) hD ?_
  refine zT 5 rfl (Qd rfl VU (fun hg=>by exact zwJ hR1.pe hx rfl)) hD ?_
  refine zT 6 rfl (Qa rfl ZR) hD ?_
  refine zT 7 rfl (Qd rfl YV (fun hg=>by exact QG.imm h3.out rfl)) hD ?_
  refine zT 8 rfl (Qh rfl) hD ?_
  refine zT 9 rfl (QX rfl rfl YK hR2.pe (fun hg=>by omega)) hD ?_
  refine zT 10 rfl (Qa rfl Yi) hD ?_
  refine zT 11 rfl (Qd rfl VU (fun hg=>by exact zwJ hR2.pe hy rfl)) hD ?_
  refine qd 12 rfl ?_
  refine qcV (vs:=[_,_]) rfl zfQ (zvQ (hR1.nt x hxm) (hR2.nt y hym) (zoQ e1 hx hy) (zjy (hR1.nt x hxm) (hv _ (List.mem_of_getElem? (zsB he1 hx)))) (hsmU.2.2.2.1 x hxm)) ?_
  refine Qb ?_
  refine zD hD ?_
  refine zT 13 rfl (Yz rfl) hD ?_
  refine Qm (by kernel_rfl) ?_
  refine QA ?_
  refine Qc ?_
  refine zI ?_ ?_<;>intro hc41
  ·
   cases hc41
  refine Qw (Qp (Qc (Qk (zM ?_))))
  refine zB ?_
  refine zA (Qb ?_)
  exact zm (h:=⟨pn1-(k+1),by omega,k+1,rfl,rfl,hB0,rfl,by omega⟩)
 have hge_k:pn1≤k:=by have h:=hc25;simp at h;omega
 refine ZC (Qt (Qt (QD (Qc (zR (zA (zN ?_)))))))
 refine QF ?_
 exact QR rfl rfl (fun w hw=>⟨by rfl,(hw.mono hIc).subL Qe⟩)
end
section
open Go Go.Kn Go.Proofs
theorem zs3:Fun Tryz.prog 18:=.of Tryz.func18 (by kernel_rfl) (by kernel_rfl)
theorem zuk:Fun Tryz.prog 32:=.of Tryz.func32 (by kernel_rfl) (by kernel_rfl)
theorem znW:Fun Tryz.prog 33:=.of Tryz.func33 (by kernel_rfl) (by kernel_rfl)
set_option maxRecDepth 100000 in
set_option maxHeartbeats 4000000 in
theorem zpv {I:Qv} {av:Option Addr} {n c:Nat} {xs:List Ev} (hE:EvS I av n c xs) (rm:Int) (hr:0≤rm∧rm≤255) {ob:Option Addr} {on oc:Nat} {os2:List Nat} (hY:Sl I 1 VN ob on oc os2) (hy8:∀ y∈os2,y≤255):Yb Tryz.prog 7 [.int .u8 rm,.slice av n c,.slice ob on oc] I (.bool true):=by
 intro g H w hw
 refine qe Tryz.func7 Tryz.ntmps7 hw ?_
 have hIc:=zwQ I
 have hln:=hE.sl.len
 obtain ⟨M,hM,hM1,hM4⟩:=ztp hr
 refine zR (zA (zN (Qr (zR ?_))))
 refine qcV (vs:=[]) rfl ztN (zsj I) ?_
 refine zO (zN ?_)
 refine zI ?_ ?_<;>intro hc15
 ·
  cases hc15
 refine Qw (Qc (Qr (zR (zM ?_))))
 refine zQ zkY ?_
 refine zC ?_
 refine zM ?_
 refine Ze 3 rfl rfl rfl ?_
 refine zJ (Qh rfl) ?_
 refine zJ (Zc rfl JI) ?_
 refine zJ (QV rfl rfl rfl) ?_
 refine ZP rfl rfl rfl rfl rfl ?_
 refine zN ?_
 refine zI ?_ ?_<;>intro hc23
 ·
  refine zR (zA (zN (QF (Qi ?_))))
  exact QR rfl rfl (fun w hw=>⟨by rfl,(hw.mono hIc).subL Qe⟩)
 have hnn:n≤14∧on≤100:=by have h:=hc23;simp at h;omega
 obtain ⟨hn14,hon⟩:=hnn
 refine Qw (Qc (zR (zM ?_)))
 refine zV (Z3 rfl zeI) ?_
 rw [Vk (n:=rm) (by omega)]
 refine zV (Yc rfl rfl (fun hg=>by decide)) ?_
 refine zB ?_
 rw [hM]
 refine zM ?_
 refine QC (cap:=[]) (vs:=[_,_]) rfl rfl zuk .nil (zqw hE hn14 hM1 hM4) rfl rfl ?_
 rintro vv1 I1 L1 hI1 ⟨rfl,vr1,ta,tn,tc,us,R1,ts,rfl,hV1,hK1,hT1,hKr1⟩
 have hY:=hY.mono hI1;have hIc:=hIc.trans hI1
 obtain ⟨pa1,pn1,pc1,qa1,qn1,qc1,aa1,an1,ac1,ps1,qs1,rfl,hR1,he1⟩:=(show RmV _ vr1 (R1) from hV1)
 have hk1:Kn pn1 R1 ts:=by rw [(Yx hR1 he1).1,hK1.kn.len];exact hK1.kn
 refine zM ?_
 refine zE ?_
 refine zE ?_
 refine zE ?_
 refine Qs Kw rfl rfl (fun b_7=>?_)
 refine zh YS ?_
 refine zA ?_
 refine zA (Qb ?_)
 refine QN .here (fun I2 hI2 hb2=>?_)
 have hY:=hY.mono hI2;have hR1:=hR1.mono hI2;have hIc:=hIc.trans hI2
 have h7:=BxI.of hb2
 refine Qc (Qr (zR (zM ?_)))
 refine zO (zN ?_)
 refine zI ?_ ?_<;>intro hc35
 ·
  cases hc35
 refine Qw (Qc (zR ?_))
 refine zV (Qg rfl YA (fun hg=>by exact BxI.cells (vs:=[_,_,_]) h7) rfl) ?_
 refine QC (cap:=[]) (vs:=[_,_]) rfl rfl znW .nil (zdV hR1 he1 hk1 (by have h:=hK1.tl;omega) (by have h:=hK1.ql;omega) Sl.nil (fun y hy=>(by cases hy)) (by omega)) rfl rfl ?_
 rintro vv3 I3 L3 hI3 ⟨rfl,vr2,r2,rfl,hV2,hD2⟩
 have hY:=hY.mono hI3;have hR1:=hR1.mono hI3;have h7:=h7.mono hI3;have hIc:=hIc.trans hI3
 obtain ⟨pa2,pn2,pc2,qa2,qn2,qc2,aa2,an2,ac2,ps2,qs2,rfl,hR2,he2⟩:=(show RmV _ vr2 (r2) from hV2)
 refine zM ?_
 refine zE ?_
 refine zE ?_
 refine Qs Kw rfl rfl (fun b_10=>?_)
 refine zh YS ?_
 refine zA (Qb ?_)
 refine QN .here (fun I4 hI4 hb4=>?_)
 have hY:=hY.mono hI4;have hR1:=hR1.mono hI4;have h7:=h7.mono hI4;have hR2:=hR2.mono hI4;have hIc:=hIc.trans hI4
 have h10:=BxI.of hb4
 refine Qc (zR ?_)
 refine zV (Qg rfl YA (fun hg=>by exact BxI.cells (vs:=[_,_,_]) h7) rfl) ?_
 refine zM ?_
 refine QC (cap:=[]) (vs:=[_,_]) rfl rfl znW .nil (zdV hR1 he1 hk1 (by have h:=hK1.tl;omega) (by have h:=hK1.ql;omega) hY hy8 hon) rfl rfl ?_
 rintro vv5 I5 L5 hI5 ⟨rfl,vr3,r3,rfl,hV3,hD3⟩
 have hR2:=hR2.mono hI5;have h10:=h10.mono hI5;have hIc:=hIc.trans hI5
 obtain rfl:=hD2.eq hD3
 obtain ⟨pa3,pn3,pc3,qa3,qn3,qc3,aa3,an3,ac3,ps3,qs3,rfl,hR3,he3⟩:=(show RmV _ vr3 (r2) from hV3)
 refine zM ?_
 refine zE ?_
 refine zE ?_
 refine Qs Kw rfl rfl (fun b_12=>?_)
 refine zh YS ?_
 refine zA (Qb ?_)
 refine QN .here (fun I6 hI6 hb6=>?_)
 have hR2:=hR2.mono hI6;have h10:=h10.mono hI6;have hR3:=hR3.mono hI6;have hIc:=hIc.trans hI6
 have h12:=BxI.of hb6
 refine Qc (zR (zM ?_))
 refine zM ?_
 refine Q2 (dj:=48) rfl rfl rfl ?_
 refine zM ?_
 refine zV (Zz rfl rfl rfl) ?_
 refine zM ?_
 refine Q2 (dj:=51) rfl rfl rfl ?_
 refine zV (Qg rfl YA (fun hg=>by exact BxI.cells (vs:=[_,_,_]) h10) rfl) ?_
 refine Q2 (dj:=51) rfl rfl rfl ?_
 refine zV (Qg rfl YA (fun hg=>by exact BxI.cells (vs:=[_,_,_]) h12) rfl) ?_
 refine Q2 (dj:=51) rfl rfl rfl ?_
 refine qcV (vs:=[_,_]) rfl zs3 (zvC hR2 he2 hR3 he3 hD2.kn.val (hD2.kn.sm (by have h:=hK1.tl;omega) (by rw [hD2.qs];exact Nat.zero_le _))) ?_
 refine zV (Zz rfl rfl rfl) ?_
 refine zA (zN (QF ?_))
 exact QR rfl rfl (fun w hw=>⟨by rfl,(hw.mono hIc).subL Qe⟩)
end
end Go.Proofs.YtjblkbkmblkgoaaGreat
namespace Go.Kn
section
open Go Go.ChangeShapes Go.WideShapes Go.ChangeAt Go.RowKit
def zbv (W:World):Qv:=fun b=>W.heap[b]?
theorem St.start (W:World):St W (zbv W) (fun _=>none) [] W:=
 ⟨rfl,rfl,rfl,⟨Nat.le_refl _,Nat.le_refl _⟩,fun _ _ h=>h,(fun _ _ h=>by cases h),(fun _ _ h=>by cases h),fun _=>.inr rfl,(fun _ _ h=>by cases h),by simp⟩
theorem St.below {W w:World}{H:Qv}{loc:Loc}(h:St W (zbv W) H loc w):Below W.heap.size W w:=
 ⟨h.os,h.tape,h.out,h.size.1,fun k hk=>by
  have e:W.heap[k]? =some W.heap[k]:=Array.getElem?_eq_getElem hk
  rw [h.imm k _ e,e]⟩
theorem Yb.law {P:Program}{f:FuncId}{args:List Value}{W:World}{v:Value}(h:Yb P f args (zbv W) v):Calls P f args.toArray W fun e w'=>e= .returned v∧Below W.heap.size W w':=
 (h W _ W (St.start W)).mono fun _ _ ⟨he,hs⟩=>⟨he,hs.below⟩
theorem zcU {W w:World}{may:MemPlace→Prop}(h:Below W.heap.size W w):W.keptBut w may:=by
 refine ⟨h.os,h.output,fun i hi=>?_⟩
 rw [h.block i hi]
 rw [Array.getElem?_eq_getElem hi]
 cases W.heap[i]<;>simp
theorem WH {H:Type}{enc:TypeId×Value→H}{P:Program}{W W':World}(hl:laidOutB P=true)(hB:Below W.heap.size W W')(sp:Nat→Bool):∀ (ts:List TypeId) (vs:List Value) (ds:List (DataW H)) (ps:List MemPlace),(∀ t∈ts,P.readableRec t=true∧t<P.types.size)→
  DataW.TrodAll enc P W 0 (fun _=>true) true ts vs ds ps→(∀ x∈ps,x.block<W.heap.size∧sp x.block=true)→DataW.TrodAll enc P W' 0 sp true ts vs ds ps
 | [],[],[],ps,_,h,_=>h
 | t::ts,v::vs,d::ds,ps,hr,⟨p,q,h1,h2,e⟩,hlt=>by
  subst e
  exact ⟨p,q,WideElems.Trod_stays hl (hr t (List.mem_cons_self ..)).1 (hr t (List.mem_cons_self ..)).2 h1 (fun x hx=>hB.same (hlt x (List.mem_append_left _ hx)).1) (fun x hx=>(hlt x (List.mem_append_left _ hx)).2),
   WH hl hB sp ts vs ds q (fun t ht=>hr t (List.mem_cons_of_mem _ ht)) h2 (fun x hx=>hlt x (List.mem_append_right _ hx)),rfl⟩
theorem znd {H:Type}{enc:TypeId×Value→H}{P:Program}{f:Func}{s:ChangeSpec}{again:Bool}{W W':World}{args:Array Value}{ds:List (DataW H)}{before:List MemPlace}{tb:TypeId}
  (hl:laidOutB P=true)(hr:f.resultTypes= #[tb])(hb:P.underlying tb=some .bool)(hv:s.vars=[])(hs:(s.fn H (ds++[]))= {results:=[.lit (.bool true)],args:=ds})(hrd:∀ t∈f.params.toList,P.readableRec t=true∧t<P.types.size)
  (hW:DataW.Whole enc P f.params.toList s.vars false W args.toList ds [] before)(hB:Below W.heap.size W W'):s.post enc P f false true false again W args (.bool true) W':=by
 have hlt:∀ x∈before,x.block<W.heap.size:=fun x hx=>by simpa using hW.lt x hx
 have hW0:=hW
 obtain ⟨p,q,hA,hV,rfl,hfz,_⟩:=hW
 rw [hv] at hV
 obtain ⟨_,rfl⟩:=trodVars_none hV
 rw [List.append_nil] at hlt hfz hW0
 have hres:∀ (b:Nat) (sp:Nat→Bool) (hd:Bool),DataW.TrodAll enc P W' b sp hd f.resultTypes.toList ((Value.bool true).resultList f.resultTypes.size) [.lit (.bool true)] []:=fun b sp hd=>by
  rw [hr];exact trodAll_mk1 (shut_bool hb true)
 have hargs:∀ sp:Nat→Bool,(∀ x∈p,sp x.block=true)→DataW.TrodAll enc P W' 0 sp true f.params.toList args.toList ds p:=fun sp h=>WH hl hB sp _ _ _ _ hrd hA (fun x hx=>⟨hlt x hx,h x hx⟩)
 have hnil:∀ sp:Nat→Bool,DataW.TrodVars enc P W' sp s.vars [] []:=fun sp=>by rw [hv];rfl
 refine ⟨ds,[],p,[],p,[],hW0,?_,?_,?_,zcU hB,fun _=>?_⟩
 ·
  rw [hs];exact hres _ _ _
 ·
  rw [hs];exact hargs _ (fun x hx=>by simpa using hlt x hx)
 ·
  rw [hs];exact hnil _
 ·
  refine ⟨fun j t r ht hr'=>?_,[.lit (.bool true)]++ds,[],[]++p,⟨[]++p,[],trodAll_append (hargs _ (fun _ _=>rfl)) (hres _ _ _),hnil _,by simp,?_,fun h=>by cases h⟩,fun x hx _=>by simpa using hx⟩
  ·
   rw [hr] at ht hr'
   cases j with
   | zero=>simp [Value.resultList] at ht hr';subst ht;subst hr';exact okWide_bool_mk hb _
   | succ j=>simp at ht
  ·
   intro b off hx
   rw [hB.frozen (hlt _ (by simpa using hx))]
   exact hfz b off (by simpa using hx)
theorem zlo {W:World}{b o:Nat}{u:Value}(h:W.cell? ⟨b,o,none⟩=some u):QG (zbv W) [] b o u:=by
 unfold World.cell? at h
 split at h
 ·
  rename_i c t fz hb
  simp only [Option.isSome_none,Bool.false_eq_true,if_false] at h
  exact ⟨c,t,fz,.inl hb,h⟩
 ·
  cases h
theorem zg3 {H:Type}{enc:TypeId×Value→H}{P:Program}{W:World}{t e:TypeId}{size fuel0:Nat}{cs:List Value}{x0:DataW H×List MemPlace}{α:Type}(enc':α→List Value)(ok:α→Prop)
  (ht:P.underlying t=some (.slice e))(hc:P.cellsOf e=size)(hpos:0<size)(hlen:∀ y,(enc' y).length=size)
  (hel:∀ fuel cs x,DataW.trod enc P W 0 (fun _=>true) true fuel e cs=some x→∃ y,ok y∧enc' y=cs)
  (hf':DataW.trod enc P W 0 (fun _=>true) true fuel0 t cs=some x0):∃ av n c xs,cs=[.slice av n c]∧Sl (zbv W) size enc' av n c xs∧(∀ x∈xs,ok x)∧c≤maxLen:=by
 rcases Go.Deep.open_slice ht hf' with ⟨e1,_⟩ | ⟨a,len0,cap0,m,n,D,Pl,e1,hb,hl,hm,hmm,_,hx⟩
 ·
  subst e1
  exact ⟨none,0,0,[],rfl,.nil,(fun x hx=>by cases hx),Nat.zero_le _⟩
 ·
  subst e1
  have hlm:len0≤m:=by rw [hmm];simp;exact hl
  have each:∀ i,i<len0→∃ y,ok y∧W.cells? 0 (a.add (i*size)) size=some (enc' y):=fun i hi=>by
   obtain ⟨cs',h1,h2⟩:=hx i (by omega)
   obtain ⟨y,hy,e⟩:=hel _ _ _ h2
   rw [hc] at h1
   exact ⟨y,hy,by rw [h1,e]⟩
  have all:∀ k,k≤len0→∃ xs:List α,xs.length=k∧∀ i x,xs[i]? =some x→ok x∧W.cells? 0 (a.add (i*size)) size=some (enc' x):=by
   intro k
   induction k with
   | zero=>intro _;exact ⟨[],rfl,fun i x h=>by simp at h⟩
   | succ k ih=>
    intro hk
    obtain ⟨xs,hl',hxs⟩:=ih (by omega)
    obtain ⟨y,hy,hcy⟩:=each k (by omega)
    refine ⟨xs++[y],by simp [hl'],fun i x h=>?_⟩
    by_cases hi:i<xs.length
    ·
     rw [List.getElem?_append_left hi] at h;exact hxs i x h
    ·
     rw [List.getElem?_append_right (by omega)] at h
     have:i=k:=by have:=(List.getElem?_eq_some_iff.1 h).1;simp at this;omega
     subst this
     rw [hl'] at h;simp at h;subst h
     exact ⟨hy,hcy⟩
  obtain ⟨xs,hl',hxs⟩:=all len0 (Nat.le_refl _)
  have add0:∀ (b o n:Nat),(⟨b,o,none⟩:Addr).add n=⟨b,o+n,none⟩:=fun b o n=>by
   unfold Addr.add
   split
   ·
    rename_i e;subst e;rfl
   ·
    rfl
  have hspot:0<xs.length→a.spot=none:=fun hx=>by
   have hx0:xs[0]? =some xs[0]:=List.getElem?_eq_getElem hx
   have hp0:0<(enc' xs[0]).length:=by rw [hlen];exact hpos
   obtain ⟨_,h1,h2⟩:=World.cells?_some (hxs 0 _ hx0).2
   have h3:=h2 0 hpos
   rw [List.getElem?_eq_getElem hp0] at h3
   simpa [Addr.add] using World.cell?_spot h3
  have cellat:∀ i x,xs[i]? =some x→∀ j u,(enc' x)[j]? =some u→W.cell? ⟨a.block,a.off+i*size+j,none⟩=some u:=fun i x hx j u hu=>by
   obtain ⟨_,h1,h2⟩:=World.cells?_some (hxs i x hx).2
   have hj:j<size:=by rw [←hlen x];exact (List.getElem?_eq_some_iff.1 hu).1
   have h3:=h2 j hj
   rw [hu] at h3
   have hsp:=hspot (by have:=(List.getElem?_eq_some_iff.1 hx).1;omega)
   obtain ⟨b,o,sp⟩:=a
   simp only at hsp
   subst hsp
   rw [add0,add0] at h3
   exact h3
  refine ⟨some a,len0,cap0,xs,rfl,⟨hl',hl,fun hn=>?_,fun k x hx j u hu=>?_⟩,fun x hx=>?_,hm⟩
  ·
   have:=hspot (by omega)
   obtain ⟨b,o,sp⟩:=a
   simp only at this
   subst this;rfl
  ·
   exact zlo (cellat k x hx j u hu)
  ·
   obtain ⟨i,hi⟩:=List.getElem?_of_mem hx
   exact (hxs i x hi).1
theorem zku {H:Type}{enc:TypeId×Value→H}{P:Program}{W:World}{base:Nat}{t e:TypeId}{size:Nat}{v:Value}{d:DataW H}{p:List MemPlace}{α:Type}(enc':α→List Value)(ok:α→Prop)
  (ht:P.underlying t=some (.slice e))(hc:P.cellsOf e=size)(hpos:0<size)(hlen:∀ y,(enc' y).length=size)
  (hel:∀ fuel cs x,DataW.trod enc P W 0 (fun _=>true) true fuel e cs=some x→∃ y,ok y∧enc' y=cs)
  (hv:Value.okWide P W .any base t v)(h:DataW.Trod enc P W 0 (fun _=>true) true t v d p):∃ av n c xs,v= .slice av n c∧Sl (zbv W) size enc' av n c xs∧(∀ x∈xs,ok x)∧c≤maxLen:=by
 obtain ⟨a0,len0,cap0,rfl⟩:=okWide_slice ht hv
 obtain ⟨fuel,hf⟩:=h
 obtain ⟨av,n,c,xs,e,h1,h2,h3⟩:=zg3 enc' ok ht hc hpos hlen hel (cs:=[.slice a0 len0 cap0]) (by simpa [Value.cells] using hf)
 cases e
 exact ⟨_,_,_,xs,rfl,h1,h2,h3⟩
theorem zsI {H:Type}{enc:TypeId×Value→H}{P:Program}{W:World}{e:TypeId}{k:IntKind}(he:P.underlying e=some (.int k))(hk:k= .i64)(fuel:Nat)(cs:List Value)(x:DataW H×List MemPlace)(h:DataW.trod enc P W 0 (fun _=>true) true fuel e cs=some x):
  ∃ y:Int,(-9223372036854775808≤y∧y≤9223372036854775807)∧[Value.int .i64 y]=cs:=by
 subst hk
 obtain ⟨v,hv⟩:∃ v,cs=[v]:=by
  have:=h
  cases fuel with
  | zero=>simp [DataW.trod] at this
  | succ m=>unfold DataW.trod at this;rw [he] at this;split at this<;>simp_all
 subst hv
 obtain ⟨n,e,_,w⟩:=DataW.trod_int he h
 cases e
 simp only [Lit.wf,Bool.and_eq_true,decide_eq_true_eq] at w
 exact ⟨n,w,rfl⟩
theorem Z5 {n:Int}(h:(Lit.int .i64 n).wf=true): -9223372036854775808≤n∧n≤9223372036854775807:=by
 simp only [Lit.wf,Bool.and_eq_true,decide_eq_true_eq] at h
 exact h
end
section
open Go
theorem Je {H:Type}{enc:TypeId×Value→H}{P:Program}{W:World}{base:Nat}{spare:Nat→Bool}{held:Bool}{t C:Nat}{fs:Array Field}{fuel:Nat}{cs:List Value}{x:DataW H×List MemPlace}(hs:P.underlying t=some (.struct fs))
  (hC:P.cellsOf t=C)(h:DataW.trod enc P W base spare held fuel t cs=some x):
  cs.length=C∧∃ n,∀ (i ty off k:Nat),((fs[i]?).map fun f=>(f.type,f.offset))=some (ty,off)→P.cellsOf ty=k→∃ y,DataW.trod enc P W base spare held n ty ((cs.drop off).take k)=some y:=by
 obtain ⟨xs,n,_,_,hl,hxl,hf⟩:=DataW.trod_struct hs h
 refine ⟨hl.trans hC,n,fun i ty off k hi hk=>?_⟩
 obtain ⟨f,hfi,e⟩:=Option.map_eq_some_iff.1 hi
 cases e
 have g:=hf i f hfi
 have hix:i<xs.length:=by rw [hxl];exact (Array.getElem?_eq_some_iff.1 hfi).1
 rw [hk,List.getElem?_eq_getElem hix] at g
 exact ⟨_,g⟩
end
end Go.Kn
