/- partiesConverge_holds, part G of the proof: what its theorems say holds without further conditions. -/
import Derived.Lib.Bytealg
import Derived.Test.YtjblkbkmblkgoaaGreatPCF
namespace Go.Proofs.YtjblkbkmblkgoaaGreat
section
open Go Go.Kn Go.Proofs
theorem zka:Fun Tryz.prog 169:=.of Tryz.func169 (by kernel_rfl) (by kernel_rfl)
theorem zqC:Fun Tryz.prog 221:=.of Tryz.func221 (by kernel_rfl) (by kernel_rfl)
def zur (x:Va):Prop:=∀ {I:Qv} {cv:Vc} (_hx:VaR I x cv) (_hok:Va.ok x) (_hb:(Va.enc x).length≤900000),Vi Tryz.prog 169 [.agg (Zo cv).toArray] I [] (YQ (Va.enc x))
theorem zdS (I:Qv){n:Int}(hn: -9223372036854775808≤n∧n≤9223372036854775807):Vi Tryz.prog 169 [.agg #[.int .i64 1,.int .i64 n,.string ⟨#[]⟩,.slice none 0 0]] I [] (YQ (Va.enc (.int n))):=by
 intro g H w hw
 refine qe Tryz.func169 Tryz.ntmps169 hw ?_
 have hIc:=zxd I
 have h10:=KJ (zkr hn)
 refine zR ?_
 refine Zh rfl rfl rfl (fun b_1=>?_)
 refine zA (Qb ?_)
 refine QO .here (fun I1 hI1 hb1=>?_)
 have hIc:=hIc.trans hI1
 have h1:=BxI.of hb1
 refine Qc (Qq (zR ?_))
 refine zF Zs ?_
 refine zV (Qd rfl QA (fun hg=>by exact QG.imm h1.out rfl)) ?_
 refine zN (QD (zR (zC ?_)))
 refine zA (zN ?_)
 refine zI ?_ ?_<;>intro hc7
 ·
  refine zR ?_
  refine Ql (ps:=[(0,_)]) (m:=[VL 1]) Y8 rfl (.cons rfl (.nil)) rfl (by simp [ZW]) (by decide) (by decide) rfl rfl (fun b_9=>?_)
  refine zF YY ?_
  refine zV (Qd rfl QA (fun hg=>by exact QG.imm h1.out rfl)) ?_
  refine qcV (vs:=[_]) rfl zqC (zt6 _ hn) ?_
  refine QE (cap:=[]) (vs:=[_]) rfl rfl zbt .nil (zge (zz n) (zkr hn) _) rfl rfl ?_
  rintro vv2 I2 L2 hI2 ⟨rfl,a9,c9,rfl,hS9⟩
  have hIc:=hIc.trans hI2
  refine QX (v:=_) (ys:=(Jt (zz n):List Nat).flatMap VL) (L:=[(b_9,_)]) rfl rfl Y8 (zlm 1) (by repeat (first | exact .cons .here .nil | exact Qu | exact Qr | apply Qp | apply Qo)) (hS9.src ZW) (zaP _) (by omega) rfl rfl ?_
  intro v9 L9 hO9 _;rw [←List.flatMap_append] at hO9
  refine zA (Qb ?_)
  refine Zw hO9 ZW (by decide) (by repeat (first | exact .cons .here .nil | exact Qu | exact Qr | apply Qp | apply Qo)) (fun I3 hI3 af3 cf3 ef3 hZ=>?_)
  subst ef3
  have hIc:=hIc.trans hI3
  refine Qc (QF (Qz (Qi ?_)))
  exact QP rfl rfl (fun w hw=>⟨_,I3,[],rfl,hIc,by exact hw,zbB hZ (by simp [Va.enc])⟩)
 simp at hc7
theorem zbR (I:Qv)(s:ByteArray)(hs:s.size≤900000):Vi Tryz.prog 169 [.agg #[.int .i64 2,.int .i64 0,.string s,.slice none 0 0]] I [] (YQ (Va.enc (.text (Kv s)))):=by
 intro g H w hw
 refine qe Tryz.func169 Tryz.ntmps169 hw ?_
 have hIc:=zxd I
 have h10:=KJ (u:=s.size) (by omega)
 refine zR ?_
 refine Zh rfl rfl rfl (fun b_1=>?_)
 refine zA (Qb ?_)
 refine QO .here (fun I1 hI1 hb1=>?_)
 have hIc:=hIc.trans hI1
 have h1:=BxI.of hb1
 refine Qc (Qq (zR ?_))
 refine zF Zs ?_
 refine zV (Qd rfl QA (fun hg=>by exact QG.imm h1.out rfl)) ?_
 refine zN (QD (zR (zC ?_)))
 refine zA (zN ?_)
 refine zI ?_ ?_<;>intro hc7
 ·
  simp at hc7
 refine zR (zC ?_)
 refine zA (zN ?_)
 refine zI ?_ ?_<;>intro hc15
 ·
  refine Qq ?_
  have hD:=zxd I1
  refine ZL ?_
  refine Q0 I1 [] mixed ?_
  refine zT 1 rfl (Qa rfl YH) hD ?_
  refine zT 2 rfl (Qd rfl JP (fun hg=>by exact QG.imm h1.out rfl)) hD ?_
  refine zT 3 rfl (Wo rfl zsX) hD ?_
  refine zT 4 rfl (JG (Z6 rfl VS) (congrArg (Value.int .u64) (Yr (n:=(s.size:Int)) ⟨by omega,by omega⟩))) hD ?_
  refine zT 7 rfl (Qa rfl YH) hD ?_
  refine zT 8 rfl (Qd rfl JP (fun hg=>by exact QG.imm h1.out rfl)) hD ?_
  refine Q8 0 5 rfl rfl (by kernel_rfl) ?_ ?_
  ·
   refine Ql (ps:=[(0,_)]) (m:=[VL 2]) Y8 rfl (.cons rfl (.nil)) rfl (by simp [ZW]) (by decide) (by decide) rfl rfl (fun b_17=>?_)
   refine Qb ?_
   refine zD hD ?_
   refine qd 5 rfl ?_
   refine QE (cap:=[]) (vs:=[_]) rfl rfl zbt .nil (zge s.size (by omega) _) rfl rfl ?_
   rintro vv2 I2 L2 hI2 ⟨rfl,a9,c9,rfl,hS9⟩
   have hIc:=hIc.trans hI2;have hD:=hD.trans hI2
   refine Qb ?_
   refine zD hD ?_
   refine qd 6 rfl ?_
   refine QX (v:=_) (ys:=(Jt s.size:List Nat).flatMap VL) (L:=[(b_17,_)]) rfl rfl Y8 (zlm 2) (by repeat (first | exact .cons .here .nil | exact Qu | exact Qr | apply Qp | apply Qo)) (hS9.src ZW) (zaP _) (by omega) rfl rfl ?_
   intro v9 L9 hO9 _;rw [←List.flatMap_append] at hO9
   refine Qb ?_
   refine zD hD ?_
   refine qd 9 rfl ?_
   refine WX rfl rfl Y8 zsX hO9 (by repeat (first | exact .cons .here .nil | exact Qu | exact Qr | apply Qp | apply Qo)) (by omega) rfl rfl ?_
   intro v11 L11 hO11
   have hO12:Yp 5 1 v11 (1+(Jt s.size).length+s.size) ((([2]++Jt s.size)++Kv s).flatMap VL) L11:=by rw [List.flatMap_append];exact hO11
   refine Qb ?_
   refine zD hD ?_
   refine zT 10 rfl (QC rfl) hD ?_
   refine Qm (by kernel_rfl) ?_
   refine Qy ?_
   refine Zw hO12 ZW (by decide) (by repeat (first | exact .cons .here .nil | exact Qu | exact Qr | apply Qp | apply Qo)) (fun I3 hI3 af3 cf3 ef3 hZ=>?_)
   subst ef3
   have hIc:=hIc.trans hI3
   refine Qc (QF (Qz (Qi ?_)))
   exact QP rfl rfl (fun w hw=>⟨_,I3,[],rfl,hIc,by exact hw,zbB hZ (by rw [Va.enc,Jf];simp)⟩)
  refine QE (cap:=[]) (vs:=[_]) rfl rfl zbt .nil (zge s.size (by omega) _) rfl rfl ?_
  rintro vv4 I4 L4 hI4 ⟨rfl,a9,c9,rfl,hS9⟩
  have hIc:=hIc.trans hI4;have hD:=hD.trans hI4
  refine Qb ?_
  refine zD hD ?_
  refine qd 0 rfl ?_
  refine Ql (ps:=[(0,_)]) (m:=[VL 2]) Y8 rfl (.cons rfl (.nil)) rfl (by simp [ZW]) (by decide) (by decide) rfl rfl (fun b_17=>?_)
  refine Qb ?_
  refine zD hD ?_
  refine qd 6 rfl ?_
  refine QX (v:=_) (ys:=(Jt s.size:List Nat).flatMap VL) (L:=[(b_17,_)]) rfl rfl Y8 (zlm 2) (by repeat (first | exact .cons .here .nil | exact Qu | exact Qr | apply Qp | apply Qo)) (hS9.src ZW) (zaP _) (by omega) rfl rfl ?_
  intro v9 L9 hO9 _;rw [←List.flatMap_append] at hO9
  refine Qb ?_
  refine zD hD ?_
  refine qd 9 rfl ?_
  refine WX rfl rfl Y8 zsX hO9 (by repeat (first | exact .cons .here .nil | exact Qu | exact Qr | apply Qp | apply Qo)) (by omega) rfl rfl ?_
  intro v11 L11 hO11
  have hO12:Yp 5 1 v11 (1+(Jt s.size).length+s.size) ((([2]++Jt s.size)++Kv s).flatMap VL) L11:=by rw [List.flatMap_append];exact hO11
  refine Qb ?_
  refine zD hD ?_
  refine zT 10 rfl (QC rfl) hD ?_
  refine Qm (by kernel_rfl) ?_
  refine Qy ?_
  refine Zw hO12 ZW (by decide) (by repeat (first | exact .cons .here .nil | exact Qu | exact Qr | apply Qp | apply Qo)) (fun I5 hI5 af5 cf5 ef5 hZ=>?_)
  subst ef5
  have hIc:=hIc.trans hI5
  refine Qc (QF (Qz (Qi ?_)))
  exact QP rfl rfl (fun w hw=>⟨_,I5,[],rfl,hIc,by exact hw,zbB hZ (by rw [Va.enc,Jf];simp)⟩)
 simp at hc15
theorem zhB {I:Qv}{l:List Va}{hs:List Vc}{a:Option Addr}{m c:Nat}(hS:Sl I 4 Zo a m c hs)(hl:l.length=hs.length)(hr:∀ (k:Nat) (x:Va) (y:Vc),l[k]? =some x→hs[k]? =some y→VaR I x y)(hm:m≤1000000)(ih:∀ (k:Nat) (x:Va),l[k]? =some x→zur x)(hok:Va.okL l)(hb:(Va.enc (.list l)).length≤900000):Vi Tryz.prog 169 [.agg #[.int .i64 3,.int .i64 0,.string ⟨#[]⟩,.slice a m c]] I [] (YQ (Va.enc (.list l))):=by
 intro g H w hw
 refine qe Tryz.func169 Tryz.ntmps169 hw ?_
 have hIc:=zxd I
 have hml:=hS.len
 have hel:(Va.enc (.list l)).length=(Jt l.length).length+(Va.encL l).length+1:=by simp [Va.enc]
 have h10:=KJ (u:=l.length) (by omega)
 refine zR ?_
 refine Zh rfl rfl rfl (fun b_1=>?_)
 refine zA (Qb ?_)
 refine QO .here (fun I1 hI1 hb1=>?_)
 have hS:=hS.mono hI1;have hIc:=hIc.trans hI1
 have h1:=BxI.of hb1
 refine Qc (Qq (zR ?_))
 refine zF Zs ?_
 refine zV (Qd rfl QA (fun hg=>by exact QG.imm h1.out rfl)) ?_
 refine zN (QD (zR (zC ?_)))
 refine zA (zN ?_)
 refine zI ?_ ?_<;>intro hc7
 ·
  simp at hc7
 refine zR (zC ?_)
 refine zA (zN ?_)
 refine zI ?_ ?_<;>intro hc15
 ·
  simp at hc15
 refine Qw (Qn (Qc (zR ?_)))
 refine Ql (ps:=[(0,_)]) (m:=[VL 3]) Y8 rfl (.cons rfl (.nil)) rfl (by simp [ZW]) (by decide) (by decide) rfl rfl (fun b_27=>?_)
 refine zF Q5 ?_
 refine zV (Qd rfl ZI (fun hg=>by exact QG.imm h1.out rfl)) ?_
 refine zQ Yj ?_
 refine zV (JG (Z6 rfl VS) (congrArg (Value.int .u64) ((Yr (n:=(m:Int)) ⟨by omega,by omega⟩).trans (show (m:Int)=(l.length:Int) by omega)))) ?_
 refine QE (cap:=[]) (vs:=[_]) rfl rfl zbt .nil (zge l.length (by omega) _) rfl rfl ?_
 rintro vv2 I2 L2 hI2 ⟨rfl,a9,c9,rfl,hS9⟩
 have hS:=hS.mono hI2;have h1:=h1.mono hI2;have hIc:=hIc.trans hI2
 refine QX (v:=_) (ys:=(Jt l.length:List Nat).flatMap VL) (L:=[(b_27,_)]) rfl rfl Y8 (zlm 3) (by repeat (first | exact .cons .here .nil | exact Qu | exact Qr | apply Qp | apply Qo)) (hS9.src ZW) (zaP _) (by omega) rfl rfl ?_
 intro v9 L9 hO9 _;rw [←List.flatMap_append] at hO9
 refine zA (zN (Qq (zR ?_)))
 refine zA (zN (QD ?_))
 refine zU [(1,_)] (fun T L0 mz E I' loc'=>∃ (k:Nat) (v:Value) (Lw:Go.Kn.Loc),mz=m-k∧E=(3,v)::(4,.int .i64 k)::T∧HLe I2 I'∧Lw=loc'∧k≤m∧WK 5 v (3::(Jt l.length++Va.encL (l.take k))) Lw) ?_ (h:=⟨0,_,_,rfl,rfl,zxd _,rfl,Nat.zero_le _,by rw [List.append_nil,List.take_zero,show (3::(Jt l.length++Va.encL []):List Nat)=[3]++Jt l.length by simp [Va.encL]];exact WK.app (xs:=[3]) (by rw [List.length_singleton];exact hO9)⟩)
 rintro mz E J3 loc' ⟨k,v,Lw,rfl,rfl,hJ,rfl,hk,hO⟩
 have hS:=hS.mono hJ;have h1:=h1.mono hJ;have hIc:=hIc.trans hJ
 have hB1:=hJ
 refine Qq (zR (zM ?_))
 refine zF Q5 ?_
 refine zV (Qd rfl ZI (fun hg=>by exact QG.imm h1.out rfl)) ?_
 refine zQ Yj ?_
 refine zC (zN ?_)
 refine zI ?_ ?_<;>intro hc38
 ·
  have hlt_k:k<m:=by have h:=hc38;simp at h;omega
  obtain ⟨cv,hy⟩:∃ y,hs[k]? =some y:=⟨_,List.getElem?_eq_getElem (by omega)⟩
  obtain ⟨x,hlx⟩:∃ y,l[k]? =some y:=⟨_,List.getElem?_eq_getElem (by omega)⟩
  have hxy:=(hr k x cv hlx hy).mono hIc
  have hokx:=zdp hok hlx
  have hle:=zc4 (l:=l) (k+1)
  rw [zah hlx,List.length_append] at hle
  have hxl:((3::(Jt l.length++Va.encL (l.take k))):List Nat).length=(Jt l.length).length+(Va.encL (l.take k)).length+1:=by simp
  refine Qw (Qc (Qq (QD (Qk (zM ?_)))))
  refine zF Q5 ?_
  refine zV (Qd rfl ZI (fun hg=>by exact QG.imm h1.out rfl)) ?_
  refine zM ?_
  refine zV (zX Yj hS) ?_
  refine zV (Qg rfl ZH (fun hg=>by exact zxe hS hy) rfl) ?_
  refine QE (cap:=[]) (vs:=[_]) rfl rfl zka .nil (ih k x hlx hxy hokx (by omega)) rfl rfl ?_
  rintro vv4 I4 L4 hI4 ⟨rfl,a8,c8,rfl,hS8⟩
  have hB1:=hB1.trans hI4
  refine QX (v:=_) (ys:=(Va.enc x).flatMap VL) (L:=Lw) rfl rfl Y8 hO (by repeat (first | exact .cons .here .nil | exact Qu | exact Qr | apply Qp | apply Qo)) (hS8.src ZW) (zaP _) (by omega) rfl rfl ?_
  intro v9 L9 hO9 _;rw [←List.flatMap_append] at hO9
  refine zA (Qb (Qn (Qc (Qk ?_))))
  refine zM ?_
  refine zB ?_
  refine zA (Qb ?_)
  exact zm (h:=⟨m-(k+1),by omega,k+1,_,_,rfl,rfl,hB1,rfl,by omega,by rw [zah hlx,←List.append_assoc,←List.cons_append];exact WK.app hO9⟩)
 have hge_k:m≤k:=by have h:=hc38;simp at h;omega
 have hke:l.take k=l:=List.take_of_length_le (by omega)
 rw [hke] at hO
 refine Zy (Qs (Qs (QB (Qc (Qq ?_)))))
 refine Zw hO ZW (by decide) (by repeat (first | exact .cons .here .nil | exact Qu | exact Qr | apply Qp | apply Qo)) (fun I5 hI5 af5 cf5 ef5 hZ=>?_)
 subst ef5
 have hIc:=hIc.trans hI5
 refine Qk (zM ?_)
 refine zA (zN (QF ?_))
 exact QP rfl rfl (fun w hw=>⟨_,I5,[],rfl,hIc,by exact hw,zbB hZ (by simp [Va.enc])⟩)
theorem zjA (d:Nat):∀ x,Va.depth x≤d→(∀ {I:Qv} {cv:Vc},VaR I x cv→(Va.enc x).length≤900000→True)→zur x:=by
 induction d with
 | zero=>
  intro x hd _ I cv hx hok hb
  cases x with
  | int n=>cases hx;exact zdS I hok
  | text s=>cases hx;have h:=zbR I (UE s) (by rw [Ue];simp only [Va.enc,List.length_cons,List.length_append] at hb;omega);rw [VV hok.1] at h;exact h
  | list l=>simp [Va.depth] at hd
 | succ d ih=>
  intro x hd _ I cv hx hok hb
  cases x with
  | int n=>cases hx;exact zdS I hok
  | text s=>cases hx;have h:=zbR I (UE s) (by rw [Ue];simp only [Va.enc,List.length_cons,List.length_append] at hb;omega);rw [VV hok.1] at h;exact h
  | list l=>
   cases hx with
   | list hS hl hr=>
    have hle:=Va.encL_len l
    have hml:=hS.len
    exact zhB hS hl hr (by simp only [Va.enc,List.length_cons,List.length_append] at hb;dsimp only;omega) (fun k y hy=>ih y (Jl (l:=l) (by simp only [Va.depth] at hd;omega) hy) (fun _ _=>trivial)) hok.2 hb
end
section
open Go Go.Kn Go.Proofs
theorem zrL:Fun Tryz.prog 168:=.of Tryz.func168 (by kernel_rfl) (by kernel_rfl)
theorem zlJ (d:Nat):∀ x,Va.depth x≤d→ztg x:=by
 induction d with
 | zero=>
  intro x hd I cv hx hb
  cases x with
  | int n=>cases hx;exact zel _ n
  | text s=>cases hx;exact zb3 _ _
  | list l=>simp [Va.depth] at hd
 | succ d ih=>
  intro x hd I cv hx hb
  cases x with
  | int n=>cases hx;exact zel _ n
  | text s=>cases hx;exact zb3 _ _
  | list l=>
   cases hx with
   | list hS hl hr=>
    have hle:=Va.encL_len l
    have hml:=hS.len
    have hb2:(Va.encL l).length≤900000:=by simp only [Va.enc,List.length_cons,List.length_append] at hb;omega
    exact zhs hS hl hr (by dsimp only;omega) (fun k y hy=>ih y (Jl (l:=l) (by simp only [Va.depth] at hd;omega) hy)) hb2
theorem zj9 (d:Nat):∀ x,Va.depth x≤d→zts x:=by
 induction d with
 | zero=>
  intro x hd I cv hx h1 hb
  cases x with
  | int n=>cases hx;exact zeq _ n
  | text s=>cases hx;exact zbS _ _
  | list l=>simp [Va.depth] at hd
 | succ d ih=>
  intro x hd I cv hx h1 hb
  cases x with
  | int n=>cases hx;exact zeq _ n
  | text s=>cases hx;exact zbS _ _
  | list l=>
   cases hx with
   | list hS hl hr=>
    have hle:=Va.encL_len l
    have hml:=hS.len
    have hb2:(Va.encL l).length≤900000:=by simp only [Va.enc,List.length_cons,List.length_append] at hb;omega
    exact zhu hS hl hr (by dsimp only;omega) (fun k y hy=>ih y (Jl (l:=l) (by simp only [Va.depth] at hd;omega) hy)) (by simp only [Va.depth] at h1;omega) hb2
theorem zmJ {I:Qv}{x:Va}{cv:Vc}(hx:VaR I x cv)(hd:Va.depth x≤16)(hok:Va.ok x)(hb:(Va.enc x).length≤900000):Yc Tryz.prog 168 [.agg (Zo cv).toArray] I (.int .i64 0):=by
 intro g H w hw
 refine qe Tryz.func168 Tryz.ntmps168 hw ?_
 have hIc:=zxd I
 refine zR ?_
 refine Zh rfl rfl rfl (fun b_1=>?_)
 refine zA (Qb ?_)
 refine QO .here (fun I1 hI1 hb1=>?_)
 have hx:=hx.mono hI1;have hIc:=hIc.trans hI1
 have h1:=BxI.of hb1
 refine Qc (Qq (zR ?_))
 refine zV (Qg rfl ZH (fun hg=>by exact BxI.cells (vs:=Zo cv) h1) rfl) ?_
 refine qcV (vs:=[_]) rfl zji (zlJ _ x (Nat.le_refl _) hx hb) ?_
 refine zO (zN ?_)
 refine zI ?_ ?_<;>intro hc5
 ·
  simp at hc5
 refine Qw (Qc (Qq (zR ?_)))
 refine zV (Qg rfl ZH (fun hg=>by exact BxI.cells (vs:=Zo cv) h1) rfl) ?_
 refine qcV (vs:=[_]) rfl zjY (zj9 _ x (Nat.le_refl _) hx (by omega) hb) ?_
 refine zC (zN ?_)
 refine zI ?_ ?_<;>intro hc8
 ·
  simp at hc8;omega
 refine Qw (Qc (zR (zA (zN (QF ?_)))))
 exact QP rfl rfl (fun w hw=>⟨by rfl,(hw.mono hIc).subL Qe⟩)
theorem WF {I:Qv}{x:Va}{cv:Vc}(hx:VaR I x cv)(hd:Va.depth x≤16)(hok:Va.ok x)(hb:(Va.enc x).length≤900000):Vi Tryz.prog 105 [.agg (Zo cv).toArray] I [] (fun v I' L'=>L'=[]∧∃ a c,v= .tuple #[.slice a (Va.enc x).length c,.int .i64 0]∧Sl I' 1 VL a (Va.enc x).length c (Va.enc x)):=by
 intro g H w hw
 refine qe Tryz.func105 Tryz.ntmps105 hw ?_
 have hIc:=zxd I
 refine zR ?_
 refine Zh rfl rfl rfl (fun b_1=>?_)
 refine zA ?_
 refine zA (Qb ?_)
 refine QO .here (fun I1 hI1 hb1=>?_)
 have hx:=hx.mono hI1;have hIc:=hIc.trans hI1
 have h1:=BxI.of hb1
 refine Qc (zR ?_)
 refine zV (Qg rfl ZH (fun hg=>by exact BxI.cells (vs:=Zo cv) h1) rfl) ?_
 refine qcV (vs:=[_]) rfl zrL (zmJ hx hd hok hb) ?_
 refine zA (zN (Qq (zR ?_)))
 refine zM ?_
 refine zC (zN ?_)
 refine zI ?_ ?_<;>intro hc8
 ·
  simp at hc8
 refine Qw (Qc (zR ?_))
 refine zV (Qg rfl ZH (fun hg=>by exact BxI.cells (vs:=Zo cv) h1) rfl) ?_
 refine QE (cap:=[]) (vs:=[_]) rfl rfl zka .nil (zjA _ x (Nat.le_refl _) (fun _ _=>trivial) hx hok hb) rfl rfl ?_
 rintro vv2 I2 L2 hI2 ⟨rfl,a9,c9,rfl,hS9⟩
 have hIc:=hIc.trans hI2
 refine zA ?_
 refine zA (zN (QF ?_))
 exact Vs rfl rfl rfl (fun w hw=>⟨_,I2,[],rfl,hIc,hw.subL Qe,rfl,_,_,rfl,hS9⟩)
end
section
open Go Go.Kn Go.Proofs
set_option maxRecDepth 100000 in
theorem zun (I:Qv) (x:Nt):Vi Tryz.prog 102 [JK x] I [] (fun v I' L'=>L'=[]∧∃ a c,v= .slice a 42 c∧Sl I' 1 Yk a 42 c (VE x)):=by
 intro g H w hw
 refine qe Tryz.func102 Tryz.ntmps102 hw ?_
 have hIc:=zxd I
 refine zR ?_
 refine Zh rfl rfl rfl (fun b_1=>?_)
 refine zA (Qb ?_)
 refine QO .here (fun I1 hI1 hb1=>?_)
 have hIc:=hIc.trans hI1
 have h1:=BxI.of hb1
 refine Qc (zR ?_)
 refine zF VI ?_
 refine zV (Qg rfl Kt (fun hg=>by exact zfO (BxI.cells (vs:=Zn x) h1)) rfl) ?_
 refine Qt zfn rfl rfl (fun b_3=>?_)
 refine zh zaH ?_
 refine Qb ?_
 refine QO .here (fun I2 hI2 hb2=>?_)
 have h1:=h1.mono hI2;have hIc:=hIc.trans hI2
 have h3:=BxI.of hb2
 refine Qc (zR ?_)
 refine zF Vv ?_
 refine zV (Qg rfl JA (fun hg=>by exact zhz (BxI.cells (vs:=Zn x) h1)) rfl) ?_
 refine Qt zaL rfl rfl (fun b_4=>?_)
 refine zh Uk ?_
 refine Qb ?_
 refine QO .here (fun I3 hI3 hb3=>?_)
 have h1:=h1.mono hI3;have h3:=h3.mono hI3;have hIc:=hIc.trans hI3
 have h4:=BxI.of hb3
 refine Qc (zR ?_)
 refine zF Jh ?_
 refine zV (Qg rfl VR (fun hg=>by exact zmL (BxI.cells (vs:=W5 x.pt) h4)) rfl) ?_
 refine Qt zmu rfl rfl (fun b_5=>?_)
 refine zh zbd ?_
 refine Qb ?_
 refine QO .here (fun I4 hI4 hb4=>?_)
 have h1:=h1.mono hI4;have h3:=h3.mono hI4;have h4:=h4.mono hI4;have hIc:=hIc.trans hI4
 have h5:=BxI.of hb4
 refine Qc (zR ?_)
 refine zF JX ?_
 refine zV (Qg rfl JZ (fun hg=>by exact zhO (BxI.cells (vs:=Zn x) h1)) rfl) ?_
 refine Qt zeM rfl rfl (fun b_6=>?_)
 refine zh zan ?_
 refine Qb ?_
 refine QO .here (fun I5 hI5 hb5=>?_)
 have h1:=h1.mono hI5;have h3:=h3.mono hI5;have h4:=h4.mono hI5;have h5:=h5.mono hI5;have hIc:=hIc.trans hI5
 have h6:=BxI.of hb5
 refine Qc (zR ?_)
 refine zF YR ?_
 refine zV (Qg rfl Vn (fun hg=>by exact ze2 (BxI.cells (vs:=Zn x) h1)) rfl) ?_
 refine Qt zbq rfl rfl (fun b_7=>?_)
 refine zh K8 ?_
 refine Qb ?_
 refine QO .here (fun I6 hI6 hb6=>?_)
 have h1:=h1.mono hI6;have h3:=h3.mono hI6;have h4:=h4.mono hI6;have h5:=h5.mono hI6;have h6:=h6.mono hI6;have hIc:=hIc.trans hI6
 have h7:=BxI.of hb6
 refine Qc (zR ?_)
 refine zF Vl ?_
 refine zV (Qd rfl QA (fun hg=>by exact QG.imm h1.out rfl)) ?_
 refine zF JE ?_
 refine zV (Qd rfl QA (fun hg=>by exact QG.imm h3.out rfl)) ?_
 refine zF Uv ?_
 refine zV (Qd rfl QA (fun hg=>by exact QG.imm h3.out rfl)) ?_
 refine zF JH ?_
 refine zV (Qd rfl QA (fun hg=>by exact QG.imm h3.out rfl)) ?_
 refine zF X8 ?_
 refine zV (Qd rfl QA (fun hg=>by exact QG.imm h3.out rfl)) ?_
 refine zF zac ?_
 refine zV (Qd rfl QA (fun hg=>by exact QG.imm h3.out rfl)) ?_
 refine zF Ww ?_
 refine zV (Qd rfl QA (fun hg=>by exact QG.imm h3.out rfl)) ?_
 refine zF Uu ?_
 refine zF XZ ?_
 refine zV (Qd rfl QA (fun hg=>by exact QG.imm h3.out rfl)) ?_
 refine zF Uu ?_
 refine zF X5 ?_
 refine zV (Qd rfl QA (fun hg=>by exact QG.imm h3.out rfl)) ?_
 refine zF Uu ?_
 refine zF zcs ?_
 refine zV (Qd rfl QA (fun hg=>by exact QG.imm h3.out rfl)) ?_
 refine Ql (ps:=[(0,_),(1,_),(2,_),(3,_),(4,_),(5,_),(6,_),(7,_),(8,_),(9,_)]) (m:=[Yk x.kind,Yk x.lm.no,Yk x.lm.person,Yk x.lm.ends,Yk x.lm.lo,Yk x.lm.hi,Yk x.lm.known,Yk x.lm.ck,Yk x.lm.cl,Yk x.lm.cn]) Y9 rfl (.cons rfl (.cons rfl (.cons rfl (.cons rfl (.cons rfl (.cons rfl (.cons rfl (.cons rfl (.cons rfl (.cons rfl (.nil))))))))))) rfl (by simp [Q4,Zx]) (by decide) (by decide) rfl rfl (fun b_42=>?_)
 refine zA ?_
 refine zN (zR ?_)
 refine zM ?_
 refine zF YI ?_
 refine zV (Qd rfl QA (fun hg=>by exact QG.imm h4.out rfl)) ?_
 refine zF KM ?_
 refine zV (Qd rfl QA (fun hg=>by exact QG.imm h4.out rfl)) ?_
 refine zF Vj ?_
 refine zV (Qd rfl QA (fun hg=>by exact QG.imm h4.out rfl)) ?_
 refine zF V2 ?_
 refine zV (Qd rfl QA (fun hg=>by exact QG.imm h4.out rfl)) ?_
 refine zF Us ?_
 refine zV (Qd rfl QA (fun hg=>by exact QG.imm h5.out rfl)) ?_
 refine zF XU ?_
 refine zV (Qd rfl QA (fun hg=>by exact QG.imm h5.out rfl)) ?_
 refine zF zad ?_
 refine zV (Qd rfl QA (fun hg=>by exact QG.imm h5.out rfl)) ?_
 refine zF XP ?_
 refine zV (Qd rfl QA (fun hg=>by exact QG.imm h5.out rfl)) ?_
 refine zF zcT ?_
 refine zV (Qd rfl QA (fun hg=>by exact QG.imm h5.out rfl)) ?_
 refine zF zab ?_
 refine zV (Qd rfl QA (fun hg=>by exact QG.imm h5.out rfl)) ?_
 refine zF XR ?_
 refine zV (Qd rfl QA (fun hg=>by exact QG.imm h5.out rfl)) ?_
 refine zF zae ?_
 refine zV (Qd rfl QA (fun hg=>by exact QG.imm h5.out rfl)) ?_
 refine zF XW ?_
 refine zV (Qd rfl QA (fun hg=>by exact QG.imm h5.out rfl)) ?_
 refine zF XX ?_
 refine zV (Qd rfl QA (fun hg=>by exact QG.imm h5.out rfl)) ?_
 refine zF Ks ?_
 refine zF Je ?_
 refine zV (Qd rfl QA (fun hg=>by exact QG.imm h5.out rfl)) ?_
 refine zF Ks ?_
 refine zF JF ?_
 refine zV (Qd rfl QA (fun hg=>by exact QG.imm h5.out rfl)) ?_
 refine zF Kz ?_
 refine zF Je ?_
 refine zV (Qd rfl QA (fun hg=>by exact QG.imm h5.out rfl)) ?_
 refine zF Kz ?_
 refine zF JF ?_
 refine zV (Qd rfl QA (fun hg=>by exact QG.imm h5.out rfl)) ?_
 refine Ql (ps:=[(0,_),(1,_),(2,_),(3,_),(4,_),(5,_),(6,_),(7,_),(8,_),(9,_),(10,_),(11,_),(12,_),(13,_),(14,_),(15,_),(16,_),(17,_)]) (m:=[Yk x.pt.id,Yk x.pt.kind,Yk x.pt.sign,Yk x.pt.field,Yk x.pt.nw.id,Yk x.pt.nw.role,Yk x.pt.nw.bar,Yk x.pt.nw.mark,Yk x.pt.nw.kind,Yk x.pt.nw.side,Yk x.pt.nw.dir,Yk x.pt.nw.level,Yk x.pt.nw.size,Yk x.pt.nw.wth,Yk x.pt.nw.fn,Yk x.pt.nw.fd,Yk x.pt.nw.tn,Yk x.pt.nw.td]) Y9 rfl (.cons rfl (.cons rfl (.cons rfl (.cons rfl (.cons rfl (.cons rfl (.cons rfl (.cons rfl (.cons rfl (.cons rfl (.cons rfl (.cons rfl (.cons rfl (.cons rfl (.cons rfl (.cons rfl (.cons rfl (.cons rfl (.nil))))))))))))))))))) rfl (by simp [Q4,Zx]) (by decide) (by decide) rfl rfl (fun b_84=>?_)
 refine QX (v:=_) (ys:=([x.pt.id,x.pt.kind,x.pt.sign,x.pt.field,x.pt.nw.id,x.pt.nw.role,x.pt.nw.bar,x.pt.nw.mark,x.pt.nw.kind,x.pt.nw.side,x.pt.nw.dir,x.pt.nw.level,x.pt.nw.size,x.pt.nw.wth,x.pt.nw.fn,x.pt.nw.fd,x.pt.nw.tn,x.pt.nw.td]:List Int).flatMap Yk) (L:=[(b_42,_)]) rfl rfl Y9 (zwK [x.kind,x.lm.no,x.lm.person,x.lm.ends,x.lm.lo,x.lm.hi,x.lm.known,x.lm.ck,x.lm.cl,x.lm.cn] rfl rfl (by decide)) (by repeat (first | exact .cons .here .nil | exact Qu | exact Qr | apply Qp | apply Qo)) ⟨rfl,fun _=>rfl,by repeat (first | exact zxb | apply zxa | apply zxc)⟩ (zbh [x.pt.id,x.pt.kind,x.pt.sign,x.pt.field,x.pt.nw.id,x.pt.nw.role,x.pt.nw.bar,x.pt.nw.mark,x.pt.nw.kind,x.pt.nw.side,x.pt.nw.dir,x.pt.nw.level,x.pt.nw.size,x.pt.nw.wth,x.pt.nw.fn,x.pt.nw.fd,x.pt.nw.tn,x.pt.nw.td]) (by omega) rfl rfl ?_
 intro v2 L2 hO2 _;rw [←List.flatMap_append] at hO2
 refine zA ?_
 refine zN (zR ?_)
 refine zM ?_
 refine zF Ut ?_
 refine zV (Qd rfl QA (fun hg=>by exact QG.imm h6.out rfl)) ?_
 refine zF zc2 ?_
 refine zV (Qd rfl QA (fun hg=>by exact QG.imm h6.out rfl)) ?_
 refine zF zcM ?_
 refine zV (Qd rfl QA (fun hg=>by exact QG.imm h6.out rfl)) ?_
 refine zF zcm ?_
 refine zV (Qd rfl QA (fun hg=>by exact QG.imm h6.out rfl)) ?_
 refine zF zcC ?_
 refine zV (Qd rfl QA (fun hg=>by exact QG.imm h6.out rfl)) ?_
 refine Ql (ps:=[(0,_),(1,_),(2,_),(3,_),(4,_)]) (m:=[Yk x.ls.no,Yk x.ls.person,Yk x.ls.version,Yk x.ls.at_,Yk x.ls.known]) Y9 rfl (.cons rfl (.cons rfl (.cons rfl (.cons rfl (.cons rfl (.nil)))))) rfl (by simp [Q4,Zx]) (by decide) (by decide) rfl rfl (fun b_97=>?_)
 refine QX (v:=_) (ys:=([x.ls.no,x.ls.person,x.ls.version,x.ls.at_,x.ls.known]:List Int).flatMap Yk) (L:=L2) rfl rfl Y9 hO2 (by repeat (first | exact .cons .here .nil | exact Qu | exact Qr | apply Qp | apply Qo)) ⟨rfl,fun _=>rfl,by repeat (first | exact zxb | apply zxa | apply zxc)⟩ (zbh [x.ls.no,x.ls.person,x.ls.version,x.ls.at_,x.ls.known]) (by omega) rfl rfl ?_
 intro v3 L3 hO3 _;rw [←List.flatMap_append] at hO3
 refine zA ?_
 refine zN (zR ?_)
 refine zM ?_
 refine zF VJ ?_
 refine zV (Qd rfl QA (fun hg=>by exact QG.imm h7.out rfl)) ?_
 refine zF Jj ?_
 refine zV (Qd rfl QA (fun hg=>by exact QG.imm h7.out rfl)) ?_
 refine zF Ul ?_
 refine zV (Qd rfl QA (fun hg=>by exact QG.imm h7.out rfl)) ?_
 refine zF Wu ?_
 refine zV (Qd rfl QA (fun hg=>by exact QG.imm h7.out rfl)) ?_
 refine zF WM ?_
 refine zV (Qd rfl QA (fun hg=>by exact QG.imm h7.out rfl)) ?_
 refine zF JI ?_
 refine zV (Qd rfl QA (fun hg=>by exact QG.imm h7.out rfl)) ?_
 refine zF KP ?_
 refine zV (Qd rfl QA (fun hg=>by exact QG.imm h7.out rfl)) ?_
 refine zF KH ?_
 refine zV (Qd rfl QA (fun hg=>by exact QG.imm h7.out rfl)) ?_
 refine zF Vd ?_
 refine zV (Qd rfl QA (fun hg=>by exact QG.imm h7.out rfl)) ?_
 refine Ql (ps:=[(0,_),(1,_),(2,_),(3,_),(4,_),(5,_),(6,_),(7,_),(8,_)]) (m:=[Yk x.rt.no,Yk x.rt.kind,Yk x.rt.edition,Yk x.rt.holder,Yk x.rt.sign,Yk x.rt.ends,Yk x.rt.lo,Yk x.rt.hi,Yk x.rt.known]) Y9 rfl (.cons rfl (.cons rfl (.cons rfl (.cons rfl (.cons rfl (.cons rfl (.cons rfl (.cons rfl (.cons rfl (.nil)))))))))) rfl (by simp [Q4,Zx]) (by decide) (by decide) rfl rfl (fun b_118=>?_)
 refine QX (v:=_) (ys:=([x.rt.no,x.rt.kind,x.rt.edition,x.rt.holder,x.rt.sign,x.rt.ends,x.rt.lo,x.rt.hi,x.rt.known]:List Int).flatMap Yk) (L:=L3) rfl rfl Y9 hO3 (by repeat (first | exact .cons .here .nil | exact Qu | exact Qr | apply Qp | apply Qo)) ⟨rfl,fun _=>rfl,by repeat (first | exact zxb | apply zxa | apply zxc)⟩ (zbh [x.rt.no,x.rt.kind,x.rt.edition,x.rt.holder,x.rt.sign,x.rt.ends,x.rt.lo,x.rt.hi,x.rt.known]) (by omega) rfl rfl ?_
 intro v4 L4 hO4 _;rw [←List.flatMap_append] at hO4
 refine zA (Qb ?_)
 refine Zw hO4 Zx (by decide) (by repeat (first | exact .cons .here .nil | exact Qu | exact Qr | apply Qp | apply Qo)) (fun I7 hI7 af7 cf7 ef7 hZ=>?_)
 subst ef7
 have hIc:=hIc.trans hI7
 refine Qc (QF ?_)
 exact QP rfl rfl (fun w hw=>⟨_,I7,[],rfl,hIc,hw.subL Qe,rfl,_,_,rfl,hZ⟩)
end
section
open Go Go.Kn Go.Proofs
theorem zpo:Fun Tryz.prog 102:=.of Tryz.func102 (by kernel_rfl) (by kernel_rfl)
theorem zcu:Fun Tryz.prog 103:=.of Tryz.func103 (by kernel_rfl) (by kernel_rfl)
theorem zaE:Fun Tryz.prog 104:=.of Tryz.func104 (by kernel_rfl) (by kernel_rfl)
theorem zcc:Fun Tryz.prog 105:=.of Tryz.func105 (by kernel_rfl) (by kernel_rfl)
set_option maxRecDepth 100000 in
theorem XB {I:Qv} (x:Nt) (hN:Nd I x.pt) (hnn:x.pt.n≤100000) (hok:Va.ok (JW x)) (hb:(JU x).length≤900000):Vi Tryz.prog 43 [JK x] I [] (YQ (JU x)):=by
 intro g H w hw
 refine qe Tryz.func43 Tryz.ntmps43 hw ?_
 have hIc:=zxd I
 have hnl:x.pt.needs.length=x.pt.n:=hN.len
 refine zR ?_
 refine Zh rfl rfl rfl (fun b_1=>?_)
 refine zA (Qb ?_)
 refine QO .here (fun I1 hI1 hb1=>?_)
 have hN:=hN.mono hI1;have hIc:=hIc.trans hI1
 have h1:=BxI.of hb1
 refine Qc (zR ?_)
 refine zV (QZ (ps:=[(0,_)]) [_,_,_,_] Km rfl rfl) ?_
 refine Qt YX rfl rfl (fun b_3=>?_)
 refine zh ZT ?_
 refine zN (zR ?_)
 refine zV (Qg rfl Zr (fun hg=>by exact BxI.cells (vs:=Zn x) h1) rfl) ?_
 refine QE (cap:=[]) (vs:=[_]) rfl rfl zpo .nil (zun _ x) rfl rfl ?_
 rintro vv2 I2 L2 hI2 ⟨rfl,an,cn,rfl,hNu⟩
 have hN:=hN.mono hI2;have h1:=h1.mono hI2;have hIc:=hIc.trans hI2
 refine zA (zN (Qq (zR ?_)))
 refine zA (zN (QD ?_))
 refine zU [(1,_),(3,_),(4,_)] (fun T L0 mz E I' loc'=>∃ (k:Nat) (v:Value) (L:Go.Kn.Loc),mz=42-k∧E=(5,.int .i64 k)::T∧I2=I'∧L++[(b_3,.cells #[.int .i64 3,.int .i64 0,.string ⟨#[]⟩,v] 158 (0,0))]=loc'∧k≤42∧Yp 158 4 v k ((((VE x).take k).map vcI).flatMap Zo) L) ?_ (h:=⟨0,_,[],rfl,rfl,rfl,rfl,Nat.zero_le _,Yp.nil⟩)
 rintro mz E I' loc' ⟨k,v,L,rfl,rfl,rfl,rfl,hk,hO⟩
 refine Qq (zR (zM ?_))
 refine zM ?_
 refine zQ Yo ?_
 refine zC (zN ?_)
 refine zI ?_ ?_<;>intro hc16
 ·
  have hlt_k:k<42:=by have h:=hc16;simp at h;omega
  obtain ⟨y,hy⟩:∃ y,(VE x)[k]? =some y:=⟨_,List.getElem?_eq_getElem (by rw [YT];omega)⟩
  refine Qw (Qc (Qq (QD ?_)))
  have hD:=zxd I2
  refine ZL ?_
  refine Q0 I2 [] mixed ?_
  refine zT 0 rfl (Qa rfl Q5) hD ?_
  refine zT 2 rfl (Qh rfl) hD ?_
  refine zT 3 rfl (Qh rfl) hD ?_
  refine zT 4 rfl (zX Yo hNu) hD ?_
  refine zT 5 rfl (Qd rfl QA (fun hg=>by exact zw6 hNu hy rfl)) hD ?_
  refine Q8 1 6 rfl rfl (by kernel_rfl) ?_ ?_
  ·
   refine zV (Qd rfl ZI (fun hg=>by exact zw9 (QG.h0 rfl))) ?_
   refine Qb ?_
   refine zD hD ?_
   refine qd 6 rfl ?_
   refine qcV (vs:=[_]) rfl zcu (zgV _ _) ?_
   refine Qb ?_
   refine zD hD ?_
   refine qd 7 rfl ?_
   refine Ql (ps:=[(0,_)]) (m:=[Zo (vcI y)]) ZO rfl (.cons rfl (.nil)) rfl (by simp [ZB,Q4]) (by decide) (by decide) rfl rfl (fun b_26=>?_)
   refine Qb ?_
   refine zD hD ?_
   refine qd 8 rfl ?_
   refine QX (v:=_) (ys:=([vcI y]:List Vc).flatMap Zo) (L:=L) rfl rfl ZO hO (by repeat (first | exact .cons .here .nil | exact Qu | exact Qr | apply Qp | apply Qo)) ⟨rfl,fun _=>rfl,by repeat (first | exact zxb | apply zxa | apply zxc)⟩ (VT [vcI y]) (by omega) rfl rfl ?_
   intro v2 L2 hO2 _;rw [←List.flatMap_append] at hO2;obtain ⟨a2,c2,rfl⟩:=hO2.shape
   refine Qb ?_
   refine zD hD ?_
   refine zT 9 rfl (Qa rfl Q5) hD ?_
   refine qd 10 rfl ?_
   refine Zg rfl rfl Y5 rfl rfl (by (repeat (first | exact Upd.here | apply Upd.there | apply Qx))) rfl ?_
   refine Qb ?_
   refine zD hD ?_
   refine Qm (by kernel_rfl) ?_
   refine Qy ?_
   refine Qn (Qc (Qk (zM ?_)))
   refine zB ?_
   refine zA (Qb ?_)
   exact zm (h:=⟨42-(k+1),by omega,k+1,_,_,rfl,rfl,rfl,rfl,by omega,by rw [ZD hy,List.map_append];exact hO2⟩)
  refine qcV (vs:=[_]) rfl zcu (zgV _ _) ?_
  refine Qb ?_
  refine zD hD ?_
  refine Q8 1 7 rfl rfl (by kernel_rfl) ?_ ?_
  ·
   refine zV (Qd rfl ZI (fun hg=>by exact zw9 (QG.h0 rfl))) ?_
   refine Qb ?_
   refine zD hD ?_
   refine qd 7 rfl ?_
   refine Ql (ps:=[(0,_)]) (m:=[Zo (vcI y)]) ZO rfl (.cons rfl (.nil)) rfl (by simp [ZB,Q4]) (by decide) (by decide) rfl rfl (fun b_26=>?_)
   refine Qb ?_
   refine zD hD ?_
   refine qd 8 rfl ?_
   refine QX (v:=_) (ys:=([vcI y]:List Vc).flatMap Zo) (L:=L) rfl rfl ZO hO (by repeat (first | exact .cons .here .nil | exact Qu | exact Qr | apply Qp | apply Qo)) ⟨rfl,fun _=>rfl,by repeat (first | exact zxb | apply zxa | apply zxc)⟩ (VT [vcI y]) (by omega) rfl rfl ?_
   intro v2 L2 hO2 _;rw [←List.flatMap_append] at hO2;obtain ⟨a2,c2,rfl⟩:=hO2.shape
   refine Qb ?_
   refine zD hD ?_
   refine zT 9 rfl (Qa rfl Q5) hD ?_
   refine qd 10 rfl ?_
   refine Zg rfl rfl Y5 rfl rfl (by (repeat (first | exact Upd.here | apply Upd.there | apply Qx))) rfl ?_
   refine Qb ?_
   refine zD hD ?_
   refine Qm (by kernel_rfl) ?_
   refine Qy ?_
   refine Qn (Qc (Qk (zM ?_)))
   refine zB ?_
   refine zA (Qb ?_)
   exact zm (h:=⟨42-(k+1),by omega,k+1,_,_,rfl,rfl,rfl,rfl,by omega,by rw [ZD hy,List.map_append];exact hO2⟩)
  refine Ql (ps:=[(0,_)]) (m:=[Zo (vcI y)]) ZO rfl (.cons rfl (.nil)) rfl (by simp [ZB,Q4]) (by decide) (by decide) rfl rfl (fun b_26=>?_)
  refine Qb ?_
  refine zD hD ?_
  refine qd 1 rfl ?_
  refine zV (Qd rfl ZI (fun hg=>by (repeat (first | exact zw8 rfl | apply zw7 | apply zw9)))) ?_
  refine Qb ?_
  refine zD hD ?_
  refine qd 8 rfl ?_
  refine QX (v:=_) (ys:=([vcI y]:List Vc).flatMap Zo) (L:=L) rfl rfl ZO hO (by repeat (first | exact .cons .here .nil | exact Qu | exact Qr | apply Qp | apply Qo)) ⟨rfl,fun _=>rfl,by repeat (first | exact zxb | apply zxa | apply zxc)⟩ (VT [vcI y]) (by omega) rfl rfl ?_
  intro v2 L2 hO2 _;rw [←List.flatMap_append] at hO2;obtain ⟨a2,c2,rfl⟩:=hO2.shape
  refine Qb ?_
  refine zD hD ?_
  refine zT 9 rfl (Qa rfl Q5) hD ?_
  refine qd 10 rfl ?_
  refine Zg rfl rfl Y5 rfl rfl (by (repeat (first | exact Upd.here | apply Upd.there | apply Qx))) rfl ?_
  refine Qb ?_
  refine zD hD ?_
  refine Qm (by kernel_rfl) ?_
  refine Qy ?_
  refine Qn (Qc (Qk (zM ?_)))
  refine zB ?_
  refine zA (Qb ?_)
  exact zm (h:=⟨42-(k+1),by omega,k+1,_,_,rfl,rfl,rfl,rfl,by omega,by rw [ZD hy,List.map_append];exact hO2⟩)
 have hge_k:42≤k:=by have h:=hc16;simp at h;omega
 obtain rfl:k=42:=by omega
 have hke:(VE x).take 42=VE x:=rfl
 rw [hke] at hO
 refine Zy (Qs (Qs (QB (Qc (zR ?_)))))
 refine zV (QZ (ps:=[(0,_)]) [_,_,_,_] Km rfl rfl) ?_
 refine Qt YX rfl rfl (fun b_6=>?_)
 refine zh ZT ?_
 refine zN (Qq (zR (zA (zN (QD ?_)))))
 refine zU [(1,_),(3,_),(6,_)] (fun T L0 mz E I' loc'=>∃ (j:Nat) (vq:Value) (Lq:Go.Kn.Loc),mz=x.pt.n-j∧E=(7,.int .i64 j)::T∧I2=I'∧Lq++((b_6,.cells #[.int .i64 3,.int .i64 0,.string ⟨#[]⟩,vq] 158 (0,0))::(L++[(b_3,.cells #[.int .i64 3,.int .i64 0,.string ⟨#[]⟩,v] 158 (0,0))]))=loc'∧j≤x.pt.n∧Yp 158 4 vq j (((x.pt.needs.take j).map vcI).flatMap Zo) Lq) ?_ (h:=⟨0,_,[],rfl,rfl,rfl,rfl,Nat.zero_le _,Yp.nil⟩)
 rintro mz E I' loc' ⟨j,vq,Lq,rfl,rfl,rfl,rfl,hj,hOq⟩
 refine Qq (zR (zM ?_))
 refine zF Vv ?_
 refine zF Y6 ?_
 refine zV (Qd rfl Kb (fun hg=>by exact QG.imm h1.out rfl)) ?_
 refine zQ Yo ?_
 refine zC (zN ?_)
 refine zI ?_ ?_<;>intro hc35
 ·
  have hlt_j:j<x.pt.n:=by have h:=hc35;simp at h;omega
  obtain ⟨z,hz⟩:∃ y,x.pt.needs[j]? =some y:=⟨_,List.getElem?_eq_getElem (by omega)⟩
  refine Qw (Qc (Qq (QD ?_)))
  have hD:=zxd I2
  refine ZL ?_
  refine Q0 I2 [] mixed ?_
  refine zT 0 rfl (Qa rfl Q5) hD ?_
  refine zT 2 rfl (Qa rfl Vv) hD ?_
  refine zT 3 rfl (Qa rfl Y6) hD ?_
  refine zT 4 rfl (Qd rfl Kb (fun hg=>by exact QG.imm h1.out rfl)) hD ?_
  refine zT 5 rfl (Qh rfl) hD ?_
  refine zT 6 rfl (zX Yo hN) hD ?_
  refine zT 7 rfl (Qd rfl QA (fun hg=>by exact zw6 hN hz rfl)) hD ?_
  refine Q8 1 8 rfl rfl (by kernel_rfl) ?_ ?_
  ·
   refine zV (Qd rfl ZI (fun hg=>by exact zw9 (QG.h0 rfl))) ?_
   refine Qb ?_
   refine zD hD ?_
   refine qd 8 rfl ?_
   refine qcV (vs:=[_]) rfl zcu (zgV _ _) ?_
   refine Qb ?_
   refine zD hD ?_
   refine qd 9 rfl ?_
   refine Ql (ps:=[(0,_)]) (m:=[Zo (vcI z)]) ZO rfl (.cons rfl (.nil)) rfl (by simp [ZB,Q4]) (by decide) (by decide) rfl rfl (fun b_47=>?_)
   refine Qb ?_
   refine zD hD ?_
   refine qd 10 rfl ?_
   refine QX (v:=_) (ys:=([vcI z]:List Vc).flatMap Zo) (L:=Lq) rfl rfl ZO hOq (by repeat (first | exact .cons .here .nil | exact Qu | exact Qr | apply Qp | apply Qo)) ⟨rfl,fun _=>rfl,by repeat (first | exact zxb | apply zxa | apply zxc)⟩ (VT [vcI z]) (by omega) rfl rfl ?_
   intro v2 L2 hO2 _;rw [←List.flatMap_append] at hO2;obtain ⟨a2,c2,rfl⟩:=hO2.shape
   refine Qb ?_
   refine zD hD ?_
   refine zT 11 rfl (Qa rfl Q5) hD ?_
   refine qd 12 rfl ?_
   refine Zg rfl rfl Y5 rfl rfl (by (repeat (first | exact Upd.here | apply Upd.there | apply Qx))) rfl ?_
   refine Qb ?_
   refine zD hD ?_
   refine Qm (by kernel_rfl) ?_
   refine Qy ?_
   refine Qn (Qc (Qk (zM ?_)))
   refine zB ?_
   refine zA (Qb ?_)
   exact zm (h:=⟨x.pt.n-(j+1),by omega,j+1,_,_,rfl,rfl,rfl,rfl,by omega,by rw [ZD hz,List.map_append];exact hO2⟩)
  refine qcV (vs:=[_]) rfl zcu (zgV _ _) ?_
  refine Qb ?_
  refine zD hD ?_
  refine Q8 1 9 rfl rfl (by kernel_rfl) ?_ ?_
  ·
   refine zV (Qd rfl ZI (fun hg=>by exact zw9 (QG.h0 rfl))) ?_
   refine Qb ?_
   refine zD hD ?_
   refine qd 9 rfl ?_
   refine Ql (ps:=[(0,_)]) (m:=[Zo (vcI z)]) ZO rfl (.cons rfl (.nil)) rfl (by simp [ZB,Q4]) (by decide) (by decide) rfl rfl (fun b_47=>?_)
   refine Qb ?_
   refine zD hD ?_
   refine qd 10 rfl ?_
   refine QX (v:=_) (ys:=([vcI z]:List Vc).flatMap Zo) (L:=Lq) rfl rfl ZO hOq (by repeat (first | exact .cons .here .nil | exact Qu | exact Qr | apply Qp | apply Qo)) ⟨rfl,fun _=>rfl,by repeat (first | exact zxb | apply zxa | apply zxc)⟩ (VT [vcI z]) (by omega) rfl rfl ?_
   intro v2 L2 hO2 _;rw [←List.flatMap_append] at hO2;obtain ⟨a2,c2,rfl⟩:=hO2.shape
   refine Qb ?_
   refine zD hD ?_
   refine zT 11 rfl (Qa rfl Q5) hD ?_
   refine qd 12 rfl ?_
   refine Zg rfl rfl Y5 rfl rfl (by (repeat (first | exact Upd.here | apply Upd.there | apply Qx))) rfl ?_
   refine Qb ?_
   refine zD hD ?_
   refine Qm (by kernel_rfl) ?_
   refine Qy ?_
   refine Qn (Qc (Qk (zM ?_)))
   refine zB ?_
   refine zA (Qb ?_)
   exact zm (h:=⟨x.pt.n-(j+1),by omega,j+1,_,_,rfl,rfl,rfl,rfl,by omega,by rw [ZD hz,List.map_append];exact hO2⟩)
  refine Ql (ps:=[(0,_)]) (m:=[Zo (vcI z)]) ZO rfl (.cons rfl (.nil)) rfl (by simp [ZB,Q4]) (by decide) (by decide) rfl rfl (fun b_47=>?_)
  refine Qb ?_
  refine zD hD ?_
  refine qd 1 rfl ?_
  refine zV (Qd rfl ZI (fun hg=>by (repeat (first | exact zw8 rfl | apply zw7 | apply zw9)))) ?_
  refine Qb ?_
  refine zD hD ?_
  refine qd 10 rfl ?_
  refine QX (v:=_) (ys:=([vcI z]:List Vc).flatMap Zo) (L:=Lq) rfl rfl ZO hOq (by repeat (first | exact .cons .here .nil | exact Qu | exact Qr | apply Qp | apply Qo)) ⟨rfl,fun _=>rfl,by repeat (first | exact zxb | apply zxa | apply zxc)⟩ (VT [vcI z]) (by omega) rfl rfl ?_
  intro v2 L2 hO2 _;rw [←List.flatMap_append] at hO2;obtain ⟨a2,c2,rfl⟩:=hO2.shape
  refine Qb ?_
  refine zD hD ?_
  refine zT 11 rfl (Qa rfl Q5) hD ?_
  refine qd 12 rfl ?_
  refine Zg rfl rfl Y5 rfl rfl (by (repeat (first | exact Upd.here | apply Upd.there | apply Qx))) rfl ?_
  refine Qb ?_
  refine zD hD ?_
  refine Qm (by kernel_rfl) ?_
  refine Qy ?_
  refine Qn (Qc (Qk (zM ?_)))
  refine zB ?_
  refine zA (Qb ?_)
  exact zm (h:=⟨x.pt.n-(j+1),by omega,j+1,_,_,rfl,rfl,rfl,rfl,by omega,by rw [ZD hz,List.map_append];exact hO2⟩)
 have hge_j:x.pt.n≤j:=by have h:=hc35;simp at h;omega
 obtain rfl:j=x.pt.n:=by omega
 have hke2:x.pt.needs.take x.pt.n=x.pt.needs:=List.take_of_length_le (by omega)
 rw [hke2] at hOq
 refine Zy (Qs (Qs (QB (Qc (Qq ?_)))))
 obtain ⟨a7,c7,rfl⟩:=hOq.shape
 refine Zw hOq ZB (by decide) (by repeat (first | exact .cons .here .nil | exact Qu | exact Qr | apply Qp | apply Qo)) (fun I5 hI5 a6 c6 ef5 hM6=>?_)
 cases ef5
 have h1:=h1.mono hI5;have hIc:=hIc.trans hI5
 refine QO (b:=b_6) (by repeat (first | exact Yd.here | apply Yd.there)) (fun I6 hI6 hb6=>?_)
 have h1:=h1.mono hI6;have hM6:=hM6.mono hI6;have hIc:=hIc.trans hI6
 have h6:=BxI.of hb6
 have hD:=zxd I6
 refine ZL ?_
 refine Q0 I6 [] mixed ?_
 refine zT 0 rfl (Qa rfl Q5) hD ?_
 refine zT 2 rfl (Qg rfl ZH (fun hg=>by exact BxI.cells (vs:=[_,_,_,_]) h6) rfl) hD ?_
 refine zT 3 rfl (Qa rfl YR) hD ?_
 refine zT 4 rfl (Qa rfl Uy) hD ?_
 refine zT 5 rfl (Qd rfl JP (fun hg=>by exact QG.imm h1.out rfl)) hD ?_
 refine zT 7 rfl (Qa rfl YR) hD ?_
 refine zT 8 rfl (Qa rfl Uq) hD ?_
 refine zT 9 rfl (Qd rfl JP (fun hg=>by exact QG.imm h1.out rfl)) hD ?_
 refine Q8 1 6 rfl rfl (by kernel_rfl) ?_ ?_
 ·
  refine zV (Qd rfl ZI (fun hg=>by exact zw9 (QG.h0 rfl))) ?_
  refine Qb ?_
  refine zD hD ?_
  refine qd 6 rfl ?_
  refine qcV (vs:=[_]) rfl zaE (zaK _ _) ?_
  refine Qb ?_
  refine zD hD ?_
  refine qd 10 rfl ?_
  refine qcV (vs:=[_]) rfl zaE (zaK _ _) ?_
  refine Qb ?_
  refine zD hD ?_
  refine qd 11 rfl ?_
  refine Ql (ps:=[(0,_),(1,_),(2,_)]) (m:=[Zo ⟨3,0,⟨#[]⟩,a7,x.pt.n,c7⟩,Zo (vcT x.rt.name),Zo (vcT x.rt.town)]) ZO rfl (.cons rfl (.cons rfl (.cons rfl (.nil)))) rfl (by simp [ZB,Q4]) (by decide) (by decide) rfl rfl (fun b_61=>?_)
  refine Qb ?_
  refine zD hD ?_
  refine qd 12 rfl ?_
  refine QX (v:=_) (ys:=([⟨3,0,⟨#[]⟩,a7,x.pt.n,c7⟩,vcT x.rt.name,vcT x.rt.town]:List Vc).flatMap Zo) (L:=L) rfl rfl ZO hO (by repeat (first | exact .cons .here .nil | exact Qu | exact Qr | apply Qp | apply Qo)) ⟨rfl,fun _=>rfl,by repeat (first | exact zxb | apply zxa | apply zxc)⟩ (VT [⟨3,0,⟨#[]⟩,a7,x.pt.n,c7⟩,vcT x.rt.name,vcT x.rt.town]) (by omega) rfl rfl ?_
  intro v8 L8 hO8 _;rw [←List.flatMap_append] at hO8;obtain ⟨a8,c8,rfl⟩:=hO8.shape
  refine Qb ?_
  refine zD hD ?_
  refine zT 13 rfl (Qa rfl Q5) hD ?_
  refine qd 14 rfl ?_
  refine Zg rfl rfl Y5 rfl rfl (by (repeat (first | exact Upd.here | apply Upd.there | apply Qx))) rfl ?_
  refine Qb ?_
  refine zD hD ?_
  refine Qm (by kernel_rfl) ?_
  refine Qy ?_
  refine Qc (Qq ?_)
  refine Zw hO8 ZB (by decide) (by repeat (first | exact .cons .here .nil | exact Qu | exact Qr | apply Qp | apply Qo)) (fun I7 hI7 a9 c9 ef7 hM8=>?_)
  cases ef7
  have hM6:=hM6.mono hI7;have hIc:=hIc.trans hI7
  refine Qk ?_
  refine zV (Qg rfl ZH (fun hg=>by exact Cells.g1) rfl) ?_
  refine QE (cap:=[]) (vs:=[_]) rfl rfl zcc .nil (WF (x:=JW x) (cv:=⟨3,0,⟨#[]⟩,_,45,_⟩) (UV hM6 hM8) (Jg x) hok hb) rfl rfl ?_
  rintro vv8 I8 L8 hI8 ⟨rfl,ae,ce,rfl,hS9⟩
  have hIc:=hIc.trans hI8
  refine zM ?_
  refine zE ?_
  refine zE ?_
  refine zA ?_
  refine zA ?_
  refine zN (zR ?_)
  refine zM ?_
  refine zA (zN (QF ?_))
  exact QP rfl rfl (fun w hw=>⟨_,I8,[],rfl,hIc,hw.subL Qe,zbB hS9 rfl⟩)
 refine qcV (vs:=[_]) rfl zaE (zaK _ _) ?_
 refine Qb ?_
 refine zD hD ?_
 refine Q8 1 10 rfl rfl (by kernel_rfl) ?_ ?_
 ·
  refine zV (Qd rfl ZI (fun hg=>by exact zw9 (QG.h0 rfl))) ?_
  refine Qb ?_
  refine zD hD ?_
  refine qd 10 rfl ?_
  refine qcV (vs:=[_]) rfl zaE (zaK _ _) ?_
  refine Qb ?_
  refine zD hD ?_
  refine qd 11 rfl ?_
  refine Ql (ps:=[(0,_),(1,_),(2,_)]) (m:=[Zo ⟨3,0,⟨#[]⟩,a7,x.pt.n,c7⟩,Zo (vcT x.rt.name),Zo (vcT x.rt.town)]) ZO rfl (.cons rfl (.cons rfl (.cons rfl (.nil)))) rfl (by simp [ZB,Q4]) (by decide) (by decide) rfl rfl (fun b_61=>?_)
  refine Qb ?_
  refine zD hD ?_
  refine qd 12 rfl ?_
  refine QX (v:=_) (ys:=([⟨3,0,⟨#[]⟩,a7,x.pt.n,c7⟩,vcT x.rt.name,vcT x.rt.town]:List Vc).flatMap Zo) (L:=L) rfl rfl ZO hO (by repeat (first | exact .cons .here .nil | exact Qu | exact Qr | apply Qp | apply Qo)) ⟨rfl,fun _=>rfl,by repeat (first | exact zxb | apply zxa | apply zxc)⟩ (VT [⟨3,0,⟨#[]⟩,a7,x.pt.n,c7⟩,vcT x.rt.name,vcT x.rt.town]) (by omega) rfl rfl ?_
  intro v8 L8 hO8 _;rw [←List.flatMap_append] at hO8;obtain ⟨a8,c8,rfl⟩:=hO8.shape
  refine Qb ?_
  refine zD hD ?_
  refine zT 13 rfl (Qa rfl Q5) hD ?_
  refine qd 14 rfl ?_
  refine Zg rfl rfl Y5 rfl rfl (by (repeat (first | exact Upd.here | apply Upd.there | apply Qx))) rfl ?_
  refine Qb ?_
  refine zD hD ?_
  refine Qm (by kernel_rfl) ?_
  refine Qy ?_
  refine Qc (Qq ?_)
  refine Zw hO8 ZB (by decide) (by repeat (first | exact .cons .here .nil | exact Qu | exact Qr | apply Qp | apply Qo)) (fun I9 hI9 a9 c9 ef9 hM8=>?_)
  cases ef9
  have hM6:=hM6.mono hI9;have hIc:=hIc.trans hI9
  refine Qk ?_
  refine zV (Qg rfl ZH (fun hg=>by exact Cells.g1) rfl) ?_
  refine QE (cap:=[]) (vs:=[_]) rfl rfl zcc .nil (WF (x:=JW x) (cv:=⟨3,0,⟨#[]⟩,_,45,_⟩) (UV hM6 hM8) (Jg x) hok hb) rfl rfl ?_
  rintro vv10 I10 L10 hI10 ⟨rfl,ae,ce,rfl,hS9⟩
  have hIc:=hIc.trans hI10
  refine zM ?_
  refine zE ?_
  refine zE ?_
  refine zA ?_
  refine zA ?_
  refine zN (zR ?_)
  refine zM ?_
  refine zA (zN (QF ?_))
  exact QP rfl rfl (fun w hw=>⟨_,I10,[],rfl,hIc,hw.subL Qe,zbB hS9 rfl⟩)
 refine qcV (vs:=[_]) rfl zaE (zaK _ _) ?_
 refine Qb ?_
 refine zD hD ?_
 refine Q8 1 11 rfl rfl (by kernel_rfl) ?_ ?_
 ·
  refine zV (Qd rfl ZI (fun hg=>by exact zw9 (QG.h0 rfl))) ?_
  refine Qb ?_
  refine zD hD ?_
  refine qd 11 rfl ?_
  refine Ql (ps:=[(0,_),(1,_),(2,_)]) (m:=[Zo ⟨3,0,⟨#[]⟩,a7,x.pt.n,c7⟩,Zo (vcT x.rt.name),Zo (vcT x.rt.town)]) ZO rfl (.cons rfl (.cons rfl (.cons rfl (.nil)))) rfl (by simp [ZB,Q4]) (by decide) (by decide) rfl rfl (fun b_61=>?_)
  refine Qb ?_
  refine zD hD ?_
  refine qd 12 rfl ?_
  refine QX (v:=_) (ys:=([⟨3,0,⟨#[]⟩,a7,x.pt.n,c7⟩,vcT x.rt.name,vcT x.rt.town]:List Vc).flatMap Zo) (L:=L) rfl rfl ZO hO (by repeat (first | exact .cons .here .nil | exact Qu | exact Qr | apply Qp | apply Qo)) ⟨rfl,fun _=>rfl,by repeat (first | exact zxb | apply zxa | apply zxc)⟩ (VT [⟨3,0,⟨#[]⟩,a7,x.pt.n,c7⟩,vcT x.rt.name,vcT x.rt.town]) (by omega) rfl rfl ?_
  intro v8 L8 hO8 _;rw [←List.flatMap_append] at hO8;obtain ⟨a8,c8,rfl⟩:=hO8.shape
  refine Qb ?_
  refine zD hD ?_
  refine zT 13 rfl (Qa rfl Q5) hD ?_
  refine qd 14 rfl ?_
  refine Zg rfl rfl Y5 rfl rfl (by (repeat (first | exact Upd.here | apply Upd.there | apply Qx))) rfl ?_
  refine Qb ?_
  refine zD hD ?_
  refine Qm (by kernel_rfl) ?_
  refine Qy ?_
  refine Qc (Qq ?_)
  refine Zw hO8 ZB (by decide) (by repeat (first | exact .cons .here .nil | exact Qu | exact Qr | apply Qp | apply Qo)) (fun I11 hI11 a9 c9 ef11 hM8=>?_)
  cases ef11
  have hM6:=hM6.mono hI11;have hIc:=hIc.trans hI11
  refine Qk ?_
  refine zV (Qg rfl ZH (fun hg=>by exact Cells.g1) rfl) ?_
  refine QE (cap:=[]) (vs:=[_]) rfl rfl zcc .nil (WF (x:=JW x) (cv:=⟨3,0,⟨#[]⟩,_,45,_⟩) (UV hM6 hM8) (Jg x) hok hb) rfl rfl ?_
  rintro vv12 I12 L12 hI12 ⟨rfl,ae,ce,rfl,hS9⟩
  have hIc:=hIc.trans hI12
  refine zM ?_
  refine zE ?_
  refine zE ?_
  refine zA ?_
  refine zA ?_
  refine zN (zR ?_)
  refine zM ?_
  refine zA (zN (QF ?_))
  exact QP rfl rfl (fun w hw=>⟨_,I12,[],rfl,hIc,hw.subL Qe,zbB hS9 rfl⟩)
 refine Ql (ps:=[(0,_),(1,_),(2,_)]) (m:=[Zo ⟨3,0,⟨#[]⟩,a7,x.pt.n,c7⟩,Zo (vcT x.rt.name),Zo (vcT x.rt.town)]) ZO rfl (.cons rfl (.cons rfl (.cons rfl (.nil)))) rfl (by simp [ZB,Q4]) (by decide) (by decide) rfl rfl (fun b_61=>?_)
 refine Qb ?_
 refine zD hD ?_
 refine qd 1 rfl ?_
 refine zV (Qd rfl ZI (fun hg=>by (repeat (first | exact zw8 rfl | apply zw7 | apply zw9)))) ?_
 refine Qb ?_
 refine zD hD ?_
 refine qd 12 rfl ?_
 refine QX (v:=_) (ys:=([⟨3,0,⟨#[]⟩,a7,x.pt.n,c7⟩,vcT x.rt.name,vcT x.rt.town]:List Vc).flatMap Zo) (L:=L) rfl rfl ZO hO (by repeat (first | exact .cons .here .nil | exact Qu | exact Qr | apply Qp | apply Qo)) ⟨rfl,fun _=>rfl,by repeat (first | exact zxb | apply zxa | apply zxc)⟩ (VT [⟨3,0,⟨#[]⟩,a7,x.pt.n,c7⟩,vcT x.rt.name,vcT x.rt.town]) (by omega) rfl rfl ?_
 intro v8 L8 hO8 _;rw [←List.flatMap_append] at hO8;obtain ⟨a8,c8,rfl⟩:=hO8.shape
 refine Qb ?_
 refine zD hD ?_
 refine zT 13 rfl (Qa rfl Q5) hD ?_
 refine qd 14 rfl ?_
 refine Zg rfl rfl Y5 rfl rfl (by (repeat (first | exact Upd.here | apply Upd.there | apply Qx))) rfl ?_
 refine Qb ?_
 refine zD hD ?_
 refine Qm (by kernel_rfl) ?_
 refine Qy ?_
 refine Qc (Qq ?_)
 refine Zw hO8 ZB (by decide) (by repeat (first | exact .cons .here .nil | exact Qu | exact Qr | apply Qp | apply Qo)) (fun I13 hI13 a9 c9 ef13 hM8=>?_)
 cases ef13
 have hM6:=hM6.mono hI13;have hIc:=hIc.trans hI13
 refine Qk ?_
 refine zV (Qg rfl ZH (fun hg=>by exact Cells.g1) rfl) ?_
 refine QE (cap:=[]) (vs:=[_]) rfl rfl zcc .nil (WF (x:=JW x) (cv:=⟨3,0,⟨#[]⟩,_,45,_⟩) (UV hM6 hM8) (Jg x) hok hb) rfl rfl ?_
 rintro vv14 I14 L14 hI14 ⟨rfl,ae,ce,rfl,hS9⟩
 have hIc:=hIc.trans hI14
 refine zM ?_
 refine zE ?_
 refine zE ?_
 refine zA ?_
 refine zA ?_
 refine zN (zR ?_)
 refine zM ?_
 refine zA (zN (QF ?_))
 exact QP rfl rfl (fun w hw=>⟨_,I14,[],rfl,hIc,hw.subL Qe,zbB hS9 rfl⟩)
end
section
open Go Go.Kn Go.Proofs
def zoB (no ver:Int):Nt:=⟨3,V3,Jv,⟨no,2,ver,40,8⟩,S.zeroR⟩
def Yy (no of:Int):Nt:=⟨1,⟨no,1,of,0,9,0,4,0,0⟩,Jv,L.zeroL,S.zeroR⟩
abbrev n35:Nt:=zoB 3 5
def zbz (m:Nat):Rd:=⟨List.replicate m [],[],[]⟩
theorem zfx {m:Nat}(hm:1≤m∧m≤24):Kn m (zbz m) []:=
 ⟨hm,by simp [zbz],rfl,fun xs hx=>(by rw [List.eq_of_mem_replicate hx];rfl),fun xs hx y hy=>(by rw [List.eq_of_mem_replicate hx] at hy;cases hy),fun p hp=>(by cases hp),fun t ht=>(by cases ht)⟩
theorem zlf {x:Nt}(h:(VE x).all (fun y=>decide (-1000≤y)&&decide (y≤1000))=true)(hn:x.pt.needs=[]):NtW x:=by
 refine ⟨fun y hy=>?_,fun y hy=>by rw [hn] at hy;cases hy⟩
 have:=List.all_eq_true.1 h y hy
 rw [Bool.and_eq_true,decide_eq_true_eq,decide_eq_true_eq] at this
 omega
theorem zmf:NtW n35:=zlf (by decide) rfl
theorem zgS (I:Qv):Nd I n35.pt:=Sl.nil
theorem zm6:Q7 n35=true:=by kernel_rfl
theorem XC:TkN n35:=by
 obtain ⟨h1,h2⟩:=zc0 zmf rfl zm6
 exact ⟨h1,zm6,h2⟩
def e35:Ev:=⟨1,1,0,0,n35⟩
def eT0:Ev:=⟨1,0,0,0,zbD⟩
def eD0:Ev:=⟨3,0,0,0,zbD⟩
def rr1:Rd:=⟨[[],[n35]],[pkN 1 0 n35],[]⟩
def rr2:Rd:=⟨[[n35],[n35]],[],[]⟩
theorem zcK:zdz (zbz 2)=0:=(zfx (m:=2) (by decide)).chk (by decide)
theorem zvk:doF (zbz 2) (Yx e35)=(0,rr1):=by
 rw [K2 zcK,zq9 rfl]
 have h:Q7 (Yx e35).note=true:=zm6
 unfold KR
 rw [if_pos (by kernel_rfl),if_pos h]
 rfl
theorem zwv:doF (zbz 2) (Yx eT0)=(570,zeroR):=by
 rw [K2 zcK,zq9 rfl]
 have h:Q7 (Yx eT0).note=false:=by kernel_rfl
 unfold KR
 rw [if_pos (by kernel_rfl),h]
 rfl
theorem zwW:doF (zbz 2) (Yx eD0)=(1,zeroR):=by
 rw [K2 zcK,zrr rfl]
 have h:atE (zbz 2).qs (zbz 2).ks (Yx eD0).at_=1:=by kernel_rfl
 unfold zaM
 rw [h,if_pos (by decide)]
theorem zkH:Kn 2 rr1 [n35]:=by
 have h:=((zfx (m:=2) (by decide)).step (x:=e35) (by decide) (fun _ _=>XC) zvk).1
 exact h
theorem zwo:doF rr1 (Yx eD0)=(0,rr2):=by
 have hn:=zkH.net (by decide)
 rw [K2 (zkH.chk (by decide)),zrr rfl]
 obtain ⟨h1,h2⟩:=zwc (qs:=rr1.qs) (ks:=rr1.ks) (i:=0) (x:=pkN 1 0 n35) (by rw [hn];rfl) (by kernel_rfl) rfl
 have e1:atE rr1.qs rr1.ks (Yx eD0).at_=0:=h1
 have e2:V8 rr1.qs rr1.ks (Yx eD0).at_=pkN 1 0 n35:=(zcp (qs:=rr1.qs)).trans h2
 have e3:okN (pkN 1 0 n35).data=some n35:=WS XC
 unfold zaM
 rw [e1,e2,if_neg (by decide),if_neg (by decide),e3]
 rfl
theorem ztr:Kn 2 rr2 [n35]:=(zkH.step (x:=eD0) (by decide) (fun h=>absurd h (by decide)) zwo).1
theorem zqy:zdz rr2=0:=ztr.chk (by decide)
/-! ### Notes that are the same but for their heads -/
theorem zfj {I:Qv}{x y:Nt}(hx:Nd I x.pt)(hy:Nd I y.pt):smN x y=true↔Z2 x=Z2 y:=by
 have l1:x.pt.needs.length=x.pt.n:=hx.len
 have l2:y.pt.needs.length=y.pt.n:=hy.len
 obtain ⟨k,lm,⟨i,kd,s,fd,nw,a,n,c,nd⟩,ls,rt⟩:=x
 obtain ⟨k',lm',⟨i',kd',s',fd',nw',a',n',c',nd'⟩,ls',rt'⟩:=y
 dsimp only at l1 l2
 subst l1;subst l2
 unfold smN smP smC Z2
 simp only [Bool.and_eq_true,beq_iff_eq,zk8,L.lsEq_iff,S.rtEq_iff,Bool.not_eq_true',Bool.or_eq_false_iff,bne_eq_false_iff_eq,decide_eq_true_eq,Bool.not_eq_false',zcJ,Nt.mk.injEq,Pt.mk.injEq]
 constructor
 ·
  rintro ⟨⟨⟨⟨h1,h2⟩,⟨⟨⟨⟨⟨h3,h4⟩,h5⟩,h6⟩,h7⟩,_⟩,h9⟩,h10⟩,h11⟩
  subst h9
  exact ⟨h1,h2,⟨h3,h4,h5,h6,h7,trivial,rfl,trivial,rfl⟩,h10,h11⟩
 ·
  rintro ⟨h1,h2,⟨h3,h4,h5,h6,h7,_,_,_,h9⟩,h10,h11⟩
  subst h9
  exact ⟨⟨⟨⟨h1,h2⟩,⟨⟨⟨⟨⟨h3,h4⟩,h5⟩,h6⟩,h7⟩,rfl⟩,rfl⟩,h10⟩,h11⟩
theorem zfu {I:Qv}:∀ {xs ys:List Nt},(∀ x∈xs,Nd I x.pt)→(∀ y∈ys,Nd I y.pt)→(smL xs ys=true↔xs.map Z2=ys.map Z2)
 | [],[],_,_=>by simp [smL]
 | [],_::_,_,_=>by simp [smL]
 | _::_,[],_,_=>by simp [smL]
 | x::xs,y::ys,hx,hy=>by
  rw [smL,Bool.and_eq_true,zfj (hx x (List.mem_cons_self ..)) (hy y (List.mem_cons_self ..)),zfu (fun z hz=>hx z (List.mem_cons_of_mem _ hz)) (fun z hz=>hy z (List.mem_cons_of_mem _ hz))]
  simp
theorem KQ {α:Type}{num:Nt→Int}{prt:Nt→α}{kind:Int}{chk:List α→Int}{d:α}(h1:∀ x,num (Z2 x)=num x)(h2:∀ x,prt (Z2 x)=prt x)(xs:List Nt):zaq num prt kind chk d (xs.map Z2)=zaq num prt kind chk d xs:=by
 have e:Yi num prt kind (xs.map Z2)=Yi num prt kind xs:=by
  unfold Yi
  rw [List.foldl_map]
  congr 1
  funext m x
  unfold U5
  rw [h1,h2];rfl
 unfold zaq
 rw [e]
theorem zq7 {xs:List Nt}(h:xs.map Z2=[n35]):wLs xs=[n35.ls]:=by
 have e:=KQ (num:=fun x=>x.ls.no) (prt:=fun x=>x.ls) (kind:=3) (chk:=L.chk) (d:=L.zeroL) (fun _=>rfl) (fun _=>rfl) xs
 unfold wLs
 rw [←e,h]
 unfold zaq
 have e1:Yi (fun x=>x.ls.no) (fun x=>x.ls) 3 [n35]=[(3,n35.ls)]:=by kernel_rfl
 rw [e1]
 have e2:Xd (([(3,n35.ls)]:List (Int×L.Ls)).map (·.1))=[3]:=by simp [Xd]
 rw [e2]
 rfl
/-! ### A world of limits -/
def hL:List Nt:=[Yy 2 0,Yy 4 4,Yy 5 3]
theorem zim {no of:Int}(h1:0≤no∧no≤100)(h2:0≤of∧of≤100):NtW (Yy no of):=by
 refine ⟨fun y hy=>?_,fun y hy=>by cases hy⟩
 simp only [VE,Yy,Jv,L.zeroL,S.zeroR,KY,List.mem_cons,List.not_mem_nil,or_false] at hy
 omega
theorem zj0 (I:Qv){x:Nt}(hx:x∈hL):NtM I x∧Q7 x=true:=by
 simp only [hL,List.mem_cons,List.not_mem_nil,or_false] at hx
 rcases hx with rfl | rfl | rfl
 ·
  have h:Q7 (Yy 2 0)=true:=by kernel_rfl
  exact ⟨zfW (zim (by decide) (by decide)) Sl.nil h,h⟩
 ·
  have h:Q7 (Yy 4 4)=true:=by kernel_rfl
  exact ⟨zfW (zim (by decide) (by decide)) Sl.nil h,h⟩
 ·
  have h:Q7 (Yy 5 3)=true:=by kernel_rfl
  exact ⟨zfW (zim (by decide) (by decide)) Sl.nil h,h⟩
theorem ztT:wLm hL=[(Yy 2 0).lm,(Yy 5 3).lm]:=by
 unfold wLm zaq
 have e1:Yi (fun x=>x.lm.no) (fun x=>x.lm) 1 hL=[(2,(Yy 2 0).lm),(4,(Yy 4 4).lm),(5,(Yy 5 3).lm)]:=by kernel_rfl
 rw [e1]
 have e2:Xd (([(2,(Yy 2 0).lm),(4,(Yy 4 4).lm),(5,(Yy 5 3).lm)]:List (Int×Lm)).map (·.1))=[2,4,5]:=by
  unfold Xd
  exact List.mergeSort_of_pairwise (by simp)
 rw [e2]
 rfl
end
section
open Go Go.Kn Go.Proofs
theorem zbM (x y:Nt):YN x y=Lib.compareBytes ((JU x).map UInt8.ofNat) ((JU y).map UInt8.ofNat):=by
 unfold YN zvn XG UE
 simp
def hB (a b:Nat):List Nat:=[3,45,1,2,1,a,1,2,1,b,1,0,1,18,1,0,1,8,1,0,1,0]++(List.replicate 32 [1,0]).flatten++[3,0,2,0,2,0]
theorem XM (no of:Nat)(h1:no<64)(h2:of<64):JU (Yy no of)=hB (2*no) (2*of):=by
 have e1:zz (no:Int)=2*no:=by unfold zz;rw [if_pos (by omega)];omega
 have e2:zz (of:Int)=2*of:=by unfold zz;rw [if_pos (by omega)];omega
 have z0:zz 0=0:=by decide
 have z1:zz 1=2:=by decide
 have z4:zz 4=8:=by decide
 have z9:zz 9=18:=by decide
 have n0:Jt 0=[0]:=Vh (by decide)
 have n2:Jt 2=[2]:=Vh (by decide)
 have n8:Jt 8=[8]:=Vh (by decide)
 have n18:Jt 18=[18]:=Vh (by decide)
 have n45:Jt 45=[45]:=Vh (by decide)
 have na:Jt (2*no)=[2*no]:=Vh (by omega)
 have nb:Jt (2*of)=[2*of]:=Vh (by omega)
 have hbt:Kv (⟨#[]⟩:ByteArray)=[]:=rfl
 unfold JU JW
 simp only [VE,Yy,Jv,KY,L.zeroL,S.zeroR,hbt,List.map_cons,List.map_nil,List.cons_append,List.nil_append,Va.enc,Va.encL,List.length_cons,List.length_nil,Nat.zero_add,Nat.reduceAdd,e1,e2,z0,z1,z4,z9,n0,n2,n8,n18,n45,na,nb,List.append_nil]
 rfl
theorem zoF:YN (Yy 2 0) (Yy 4 4)<0:=by
 rw [zbM,show Yy 2 0=Yy ((2:Nat):Int) ((0:Nat):Int) from rfl,show Yy 4 4=Yy ((4:Nat):Int) ((4:Nat):Int) from rfl,XM 2 0 (by decide) (by decide),XM 4 4 (by decide) (by decide)]
 decide
theorem zoI:YN (Yy 4 4) (Yy 5 3)<0:=by
 rw [zbM,show Yy 4 4=Yy ((4:Nat):Int) ((4:Nat):Int) from rfl,show Yy 5 3=Yy ((5:Nat):Int) ((3:Nat):Int) from rfl,XM 4 4 (by decide) (by decide),XM 5 3 (by decide) (by decide)]
 decide
theorem X2 {x:Nt}{xs:List Nt}(h:zb6 xs)(hx:∀ y∈xs,YN x y<0):zb6 (x::xs):=by
 intro k l u v hkl hu hv
 cases l with
 | zero=>omega
 | succ l=>
  cases k with
  | zero=>
   simp only [List.getElem?_cons_zero,Option.some.injEq] at hu
   subst hu
   exact hx v (List.mem_of_getElem? (by simpa using hv))
  | succ k=>exact h k l u v (by omega) (by simpa using hu) (by simpa using hv)
theorem zie:zb6 []:=fun k l x y _ hx=>by simp at hx
theorem znB:Z3 hL=true:=by
 have h3:zb6 hL:=X2 (X2 (X2 zie (fun y hy=>by cases hy)) (fun y hy=>by rw [List.mem_singleton.1 hy];exact zoI)) fun y hy=>by
  simp only [List.mem_cons,List.not_mem_nil,or_false] at hy
  rcases hy with rfl | rfl
  ·
   exact zoF
  ·
   exact Vx zoF zoI
 exact Wd h3 (fun x hx=>(zj0 (fun _=>none) hx).2) (by decide)
theorem zeK {xs:List Nt}{y:Nt}(h:xs.map Z2=[y]):∃ x,xs=[x]∧Z2 x=y:=by
 cases xs with
 | nil=>cases h
 | cons x l=>
  cases l with
  | nil=>exact ⟨x,rfl,List.head_eq_of_cons_eq h⟩
  | cons z l=>
   have:=congrArg List.length h
   simp at this
theorem zdB {xs:List Nt}(h:xs.map Z2=[n35]){I:Qv}(hN:∀ x∈xs,Nd I x.pt):Z3 xs=true:=by
 obtain ⟨x,rfl,e⟩:=zeK h
 have hn:Sl I 1 Yk x.pt.a x.pt.n x.pt.c x.pt.needs:=hN x (List.mem_singleton.2 rfl)
 have hf:Q7 x=true:=by rw [←Jd hn.len.symm,e];exact zm6
 exact Wd (X2 zie fun y hy=>by cases hy) (fun y hy=>by rw [List.mem_singleton.1 hy];exact hf) (by simp)
theorem zqq:okN []=none:=by kernel_rfl
theorem zuv {I:Qv}{rs:List Hy}{a:Option Addr}{m c:Nat}{zs:List Nt}(h:LdZ I rs a m c zs)(hr:rs≠[])(hb:∀ r∈rs,r.bytes=JU n35):zs.map Z2=[n35]:=by
 have hz:∀ x∈zs,Z2 x=n35:=fun x hx=>by
  obtain ⟨_,r,hr2,e⟩:=h.frm x hx
  rw [hb r hr2,WS XC] at e
  exact (Option.some.inj e).symm
 match zs,h,hz with
 | [],h,_=>
  obtain ⟨r,l,rfl⟩:=List.exists_cons_of_ne_nil hr
  obtain ⟨x,hx,_⟩:=h.mem r (List.mem_cons_self ..)
  cases hx
 | [x],_,hz=>rw [List.map_singleton,hz x (List.mem_singleton.2 rfl)]
 | x::y::l,h,hz=>
  have h1:=h.srt 0 1 x y (by decide) rfl rfl
  have e1:=hz x (List.mem_cons_self ..)
  have e2:=hz y (by simp)
  rw [←X7,e1,e2,JV] at h1
  omega
def zw3 (n:Int)(v:Value)(I':Qv)(L':Go.Kn.Loc):Prop:=L'=[]∧∃ vr,v= .tuple #[vr,.int .i64 (if (decide (n<1)||decide (n>24))=true then 1 else 0)]∧RmV I' vr (if (decide (n<1)||decide (n>24))=true then zeroR else zbz n.toNat)
theorem zrq {I:Qv}{b m t:Nat}(hm:m≤maxLen)(hb:I b=some (.cells (List.replicate m (Value.slice none 0 0)).toArray t (0,0))):RmV I (.agg #[.slice (some ⟨b,0,none⟩) m m,.slice none 0 0,.slice none 0 0]) (zbz m):=by
 refine ⟨_,_,_,_,_,_,_,_,_,List.replicate m ⟨none,0,0,[]⟩,[],rfl,⟨⟨by simp,Nat.le_refl _,fun _=>rfl,fun k x hx j u hu=>?_⟩,fun x hx=>?_,.nil,fun _ h=>(by cases h),.nil⟩,?_⟩
 ·
  have hj:j=0:=by have:=(List.getElem?_eq_some_iff.1 hu).1;simp [UO] at this;omega
  subst hj
  have hk:=(List.getElem?_eq_some_iff.1 hx).1
  rw [List.length_replicate] at hk
  have ex:x=⟨none,0,0,[]⟩:=List.eq_of_mem_replicate (List.mem_of_getElem? hx)
  subst ex
  have hu:u= .slice none 0 0:=by simpa [UO] using hu.symm
  subst hu
  refine QG.imm hb ?_
  show zhW _ (0+k*1+0)=_
  rw [Nat.zero_add,Nat.mul_one,Nat.add_zero,Jb]
  simp [hk]
 ·
  rw [List.eq_of_mem_replicate hx]
  exact ⟨.nil,fun _ h=>(by cases h),fun _ h=>(by cases h)⟩
 ·
  simp [Vr,zbz,dtP]
theorem zqH {I:Qv}{pa qa aa:Option Addr}{pn pc qn qc an ac:Nat}{ps:List Pe}{qs:List Pk}{ks:List (Int×Int)}{r:Rd}(_hR:RmP I pa pn pc qa qn qc aa an ac ps qs ks)(e:Vr ps qs ks=r){i:Nat}{xs:List Nt}(hi:r.ps[i]? =some xs):∃ pe,ps[i]? =some pe∧pe.notes.map Z2=xs:=by
 subst e
 simp only [Vr,dtP,List.getElem?_map] at hi
 cases h:ps[i]? with
 | none=>rw [h] at hi;cases hi
 | some pe=>rw [h] at hi;exact ⟨pe,rfl,Option.some.inj hi⟩
theorem Z0 {I:Qv}{pa qa aa:Option Addr}{pn pc qn qc an ac:Nat}{ps:List Pe}{qs:List Pk}{ks:List (Int×Int)}{r:Rd}(hR:RmP I pa pn pc qa qn qc aa an ac ps qs ks)(e:Vr ps qs ks=r):pn=r.ps.length∧qn=r.qs.length∧ks=r.ks:=by
 subst e
 exact ⟨by rw [←hR.pe.len];exact (zcX ps).symm,by rw [←hR.q.len];simp [Vr],rfl⟩
theorem zvs {I:Qv}{pa qa aa:Option Addr}{pn pc qn qc an ac:Nat}{ps:List Pe}{qs:List Pk}{ks:List (Int×Int)}{r:Rd}(_hR:RmP I pa pn pc qa qn qc aa an ac ps qs ks)(e:Vr ps qs ks=r){i:Nat}{p:Pk}(hi:r.qs[i]? =some p):∃ q,qs[i]? =some q∧Vz q=p:=by
 subst e
 simp only [Vr,List.getElem?_map] at hi
 cases h:qs[i]? with
 | none=>rw [h] at hi;cases hi
 | some q=>rw [h] at hi;exact ⟨q,rfl,Option.some.inj hi⟩
structure SmR (r:Rd):Prop where
 p:r.ps.length≤24
 nn:∀ xs∈r.ps,xs.length≤1000
 q:r.qs.length≤3000
 dl:∀ p∈r.qs,p.data.length≤2000
 k:r.ks.length≤100
theorem SmR.use {I:Qv}{pa qa aa:Option Addr}{pn pc qn qc an ac:Nat}{ps:List Pe}{qs:List Pk}{ks:List (Int×Int)}(hR:RmP I pa pn pc qa qn qc aa an ac ps qs ks)(h:SmR (Vr ps qs ks)):pn≤100000∧qn≤100000∧an≤100000∧(∀ x∈ps,x.n≤100000)∧(∀ q∈qs,q.n≤100000)∧(qn+24≤4096∧∀ pe∈ps,qn+pe.n≤4096):=by
 obtain ⟨h1,h2,_⟩:=Z0 hR rfl
 have hp:=h.p;have hq:=h.q;have hk:=h.k
 have hkl:=hR.k.len
 have hn:∀ x∈ps,x.n≤1000:=fun x hx=>by
  have h3:=h.nn (x.notes.map Z2) (List.mem_map.2 ⟨x,hx,rfl⟩)
  have:=(hR.nt x hx).sl.len
  rw [List.length_map] at h3;omega
 refine ⟨by omega,by omega,?_,fun x hx=>by have:=hn x hx;omega,fun q hq2=>?_,by omega,fun pe hpe=>by have:=hn pe hpe;omega⟩
 ·
  have:(Vr ps qs ks).ks.length=ks.length:=rfl
  omega
 ·
  have h3:=h.dl (Vz q) (List.mem_map.2 ⟨q,hq2,rfl⟩)
  have:=(hR.pk q hq2).sl.len
  have e:(Vz q).data=q.data:=rfl
  rw [e] at h3;omega
theorem zbi {m:Nat}(hm:m≤24):SmR (zbz m):=⟨by simp [zbz];exact hm,fun xs hx=>(by rw [List.eq_of_mem_replicate hx];exact Nat.zero_le _),by simp [zbz],fun p hp=>(by cases hp),by simp [zbz]⟩
theorem zu8:SmR rr1:=⟨by decide,fun xs hx=>by
  simp only [rr1,List.mem_cons,List.not_mem_nil,or_false] at hx
  rcases hx with rfl | rfl<;>simp,by decide,fun p hp=>(by
  rw [List.mem_singleton.1 (show p∈[pkN 1 0 n35] from hp)];exact XC.2.2),by decide⟩
theorem zuu:SmR rr2:=⟨by decide,fun xs hx=>by
  simp only [rr2,List.mem_cons,List.not_mem_nil,or_false] at hx
  rcases hx with rfl | rfl<;>simp,by decide,fun p hp=>(by cases hp),by decide⟩
theorem zqG:SmR zeroR:=⟨by decide,fun xs hx=>(by cases hx),by decide,fun p hp=>(by cases hp),by decide⟩
theorem zdd {xs:List Nt}{v:Value}{I':Qv}{L':Go.Kn.Loc}(h:zwp xs v I' L')(hv:Z3 xs=true):L'=[]∧∃ a1 n1 c1 a2 n2 c2 a3 n3 c3 a4 n4 c4,v= .tuple #[.slice a1 n1 c1,.slice a2 n2 c2,.slice a3 n3 c3,.slice a4 n4 c4,.int .i64 0]∧Sl I' 9 ZJ a1 n1 c1 (wLm xs)∧Sl I' 5 L.encL a2 n2 c2 (wLs xs)∧SlP I' a3 n3 c3 (wPt xs)∧Sl I' 11 S.encR a4 n4 c4 (wRt xs):=by
 rcases h.2 with ⟨_,h2⟩ | ⟨h1,_⟩
 ·
  exact ⟨h.1,h2⟩
 ·
  rw [hv] at h1;cases h1
theorem zpp {xs:List Nt}{v:Value}{I':Qv}{L':Go.Kn.Loc}(h:zwq xs v I' L')(hv:Z3 xs=true):L'=[]∧∃ a n c rs,v= .tuple #[.slice a n c,.int .i64 0]∧zrH I' a n c rs∧rs.map (·.bytes)=xs.map JU:=by
 rcases h.2 with ⟨_,h2⟩ | ⟨h1,_⟩
 ·
  exact ⟨h.1,h2⟩
 ·
  rw [hv] at h1;cases h1
theorem zu4 {rs:List Hy}{v:Value}{I':Qv}{L':Go.Kn.Loc}(h:LdQ rs v I' L')(hl:rs.length≤4096)(hn:∀ r∈rs,okN r.bytes≠none):L'=[]∧∃ a m c zs,v= .tuple #[.agg #[.slice a m c],.int .i64 0]∧LdZ I' rs a m c zs:=by
 rcases h.2 with ⟨h1,_⟩ | ⟨_,⟨r,h1,h2⟩,_⟩ | ⟨_,h2⟩
 ·
  omega
 ·
  exact absurd h2 (hn r h1)
 ·
  exact ⟨h.1,h2⟩
theorem zvV {rs:List Hy}{v:Value}{I':Qv}{L':Go.Kn.Loc}(h:LdQ rs v I' L')(hl:rs.length≤4096)(hn:∃ r∈rs,okN r.bytes=none):L'=[]∧v= .tuple #[.agg #[.slice none 0 0],.int .i64 570]:=by
 rcases h.2 with ⟨h1,_⟩ | ⟨_,_,h2⟩ | ⟨_,a,m,c,zs,_,h2⟩
 ·
  omega
 ·
  exact ⟨h.1,h2⟩
 ·
  obtain ⟨r,hr,e⟩:=hn
  obtain ⟨x,_,e2⟩:=h2.mem r hr
  rw [e] at e2;cases e2
theorem zhD (s:ByteArray):UC s s=true:=zej.2 rfl
theorem znQ {I:Qv}:RmP I none 0 0 none 0 0 none 0 0 [] [] []:=⟨.nil,fun _ h=>(by cases h),.nil,fun _ h=>(by cases h),.nil⟩
theorem zmb:zdz zeroR=570:=by kernel_rfl
theorem ztu {I:Qv}{a:Option Addr}{n c:Nat}{xs:List Nt}(h:K9 I a n c xs)(e:xs.map Z2=[]):n=0:=by
 have:=h.sl.len
 have h2:=congrArg List.length e
 rw [List.length_map] at h2
 rw [←this,h2];rfl
theorem zqJ {I:Qv}{xs:List Nt}(hN:∀ x∈xs,Nd I x.pt)(e:xs.map Z2=[n35]):smL xs [n35]=true:=
 (zfu hN (fun y hy=>by rw [List.mem_singleton.1 hy];exact Sl.nil)).2 e
theorem zj4 {I:Qv}{xs:List Nt}(hN:∀ x∈xs,Nd I x.pt)(e:xs.map Z2=[n35]):∀ x∈xs,x.pt.n≤100000:=fun x hx=>by
 obtain ⟨y,rfl,e2⟩:=zeK e
 rw [List.mem_singleton.1 hx]
 have h:Sl I 1 Yk y.pt.a y.pt.n y.pt.c y.pt.needs:=hN y (List.mem_singleton.2 rfl)
 have h3:y.pt.needs.length=(Z2 y).pt.n:=rfl
 rw [e2] at h3
 have:=h.len
 have:(n35.pt.n:Nat)=0:=rfl
 omega
theorem zrZ {I:Qv}{a:Option Addr}{n c:Nat}{rs:List Hy}{xs:List Nt}(h:zrH I a n c rs)(hb:rs.map (·.bytes)=xs.map JU)(hx:xs.map Z2=[n35]):rs.length=1∧(∀ r∈rs,r.bytes=JU n35)∧∀ r∈rs,r.n≤100000:=by
 obtain ⟨x,rfl,e⟩:=zeK hx
 have em:JU x=JU n35:=by rw [←e];rfl
 have hl:=congrArg List.length hb
 rw [List.length_map,List.length_map] at hl
 have hr:∀ r∈rs,r.bytes=JU n35:=fun r hr=>by
  have h1:r.bytes∈rs.map (·.bytes):=List.mem_map.2 ⟨r,hr,rfl⟩
  rw [hb,List.map_singleton,List.mem_singleton,em] at h1;exact h1
 refine ⟨hl,hr,fun r h2=>?_⟩
 have h3:=(h.m r h2).sl.len
 rw [hr r h2] at h3
 have:=XC.2.2
 omega
end
section
open Go Go.Kn Go.Proofs
theorem zoT:PlT Tryz.prog 45 #[(0,1),(1,9),(10,19),(29,5),(34,11)] (.agg #[(.int .i64 0),(.int .i64 0),(.int .i64 0),(.int .i64 0),(.int .i64 0),(.int .i64 0),(.int .i64 0),(.int .i64 0),(.int .i64 0),(.int .i64 0),(.int .i64 0),(.int .i64 0),(.int .i64 0),(.int .i64 0),(.int .i64 0),(.int .i64 0),(.int .i64 0),(.int .i64 0),(.int .i64 0),(.int .i64 0),(.int .i64 0),(.int .i64 0),(.int .i64 0),(.int .i64 0),(.int .i64 0),(.int .i64 0),(.int .i64 0),(.int .i64 0),(.slice none 0 0),(.int .i64 0),(.int .i64 0),(.int .i64 0),(.int .i64 0),(.int .i64 0),(.int .i64 0),(.int .i64 0),(.int .i64 0),(.int .i64 0),(.int .i64 0),(.int .i64 0),(.string ⟨#[]⟩),(.string ⟨#[]⟩),(.int .i64 0),(.int .i64 0),(.int .i64 0)]):=⟨.of (by kernel_rfl),by kernel_rfl,fun w=>by kernel_rfl⟩
theorem zd6 (I:Qv)(no ver:Int):Yc Tryz.prog 42 [.int .i64 no,.int .i64 ver] I (JK (zoB no ver)):=by
 intro g H w hw
 refine qe Tryz.func42 Tryz.ntmps42 hw ?_
 refine zR ?_
 refine Qt Wj rfl rfl (fun b_4=>?_)
 refine zN (zR ?_)
 refine zM ?_
 refine zM ?_
 refine zV (QZ (ps:=[(0,_),(1,_),(2,_),(3,_),(4,_)]) [_,_,_,_,_] zoM rfl rfl) ?_
 refine zV (QZ (ps:=[(0,_),(3,_)]) [_,_,_,_,_,_,_,_,_,_,_,_,_,_,_,_,_,_,_,_,_,_,_,_,_,_,_,_,_,_,_,_,_,_,_,_,_,_,_,_,_,_,_,_,_] zoT rfl rfl) ?_
 refine zh VX ?_
 refine zN (QF ?_)
 exact Y7 rfl rfl Zr zxb rfl (fun w hw=>⟨by rfl,hw.drop⟩)
theorem zbQ (I:Qv)(no of:Int):Yc Tryz.prog 44 [.int .i64 no,.int .i64 of] I (JK (Yy no of)):=by
 intro g H w hw
 refine qe Tryz.func44 Tryz.ntmps44 hw ?_
 refine zR ?_
 refine Qt Wj rfl rfl (fun b_4=>?_)
 refine zN (zR ?_)
 refine zM ?_
 refine zM ?_
 refine zV (QZ (ps:=[(0,_)]) [_,_,_] zkt rfl rfl) ?_
 refine zV (QZ (ps:=[(0,_),(1,_),(2,_),(4,_),(6,_)]) [_,_,_,_,_,_,_,_,_] zjo rfl rfl) ?_
 refine zV (QZ (ps:=[(0,_),(1,_)]) [_,_,_,_,_,_,_,_,_,_,_,_,_,_,_,_,_,_,_,_,_,_,_,_,_,_,_,_,_,_,_,_,_,_,_,_,_,_,_,_,_,_,_,_,_] zoT rfl rfl) ?_
 refine zh VX ?_
 refine zN (QF ?_)
 exact Y7 rfl rfl Zr zxb rfl (fun w hw=>⟨by rfl,hw.drop⟩)
theorem zlo (I:Qv)(n:Int):Vi Tryz.prog 14 [.int .i64 n] I [] (zw3 n):=by
 have h:=zvG I n
 by_cases hb:(decide (n<1)||decide (n>24))=true
 ·
  intro g H w hw
  refine (h g H w hw).mono ?_
  rintro e w' ⟨v,I',L',h1,h2,h3,rfl,⟨_,rfl,rfl⟩ | ⟨h4,_⟩⟩
  ·
   exact ⟨_,_,_,h1,h2,h3,rfl,_,by rw [if_pos hb],by rw [if_pos hb];exact zg1⟩
  rw [hb] at h4;cases h4
 have hb2:(decide (n<1)||decide (n>24))=false:=by simpa using hb
 refine KN.m (Bad:=fun _=>False) (KN.frz (h.p (Bad:=fun _=>False)) fun v I' L' hI hq=>?_) (fun v hv=>hv)
 obtain ⟨rfl,⟨h4,_⟩ | ⟨_,b,rfl,rfl⟩⟩:=hq
 ·
  rw [hb2] at h4;cases h4
 refine ⟨[],b,_,.here,fun I2 h2 hb3=>⟨rfl,_,by rw [if_neg hb],?_⟩⟩
 rw [if_neg hb]
 have hn:1≤n∧n≤24:=by simpa using hb2
 exact zrq (Nat.le_trans (show n.toNat≤24 by omega) (by decide)) hb3
theorem XK {I:Qv}{pa qa aa:Option Addr}{pn pc qn qc an ac:Nat}{ps:List Pe}{qs:List Pk}{ks:List (Int×Int)}(hR:RmP I pa pn pc qa qn qc aa an ac ps qs ks){r:Rd}(he:Vr ps qs ks=r)(hs:SmR r)(x:Ev)(hE:EvM I x){R:Int×Rd}(e:doF r (Yx x)=R):Vi Tryz.prog 12 [.agg #[.slice pa pn pc,.slice qa qn qc,.slice aa an ac],.agg (zav x).toArray] I [] (DoQ R):=by
 subst he;subst e
 obtain ⟨h1,h2,h3,h4,h5,h6⟩:=SmR.use hR hs
 exact zwM hR h1 h2 h3 h4 h5 (fun _=>h6) x hE
theorem zg9 {I:Qv}{pa qa aa:Option Addr}{pn pc qn qc an ac:Nat}{ps:List Pe}{qs:List Pk}{ks:List (Int×Int)}(hR:RmP I pa pn pc qa qn qc aa an ac ps qs ks){r:Rd}(he:Vr ps qs ks=r)(hs:SmR r){e:Int}(hc:zdz r=e):Vi Tryz.prog 16 [.agg #[.slice pa pn pc,.slice qa qn qc,.slice aa an ac]] I [] (fun v I' L'=>L'=[]∧v= .int .i64 e):=by
 subst he;subst hc
 obtain ⟨h1,h2,h3,h4,h5,_⟩:=SmR.use hR hs
 exact zjc hR h1 h2 h3 h4 h5
end
section
open Go Go.Kn Go.Proofs
theorem zmE:zhg Tryz.prog 45 3 29 5:=.of (by kernel_rfl)
theorem KV:Fun Tryz.prog 12:=.of Tryz.func12 (by kernel_rfl) (by kernel_rfl)
theorem zlG:Fun Tryz.prog 14:=.of Tryz.func14 (by kernel_rfl) (by kernel_rfl)
theorem zgU:Fun Tryz.prog 20:=.of Tryz.func20 (by kernel_rfl) (by kernel_rfl)
theorem zsk:Fun Tryz.prog 22:=.of Tryz.func22 (by kernel_rfl) (by kernel_rfl)
theorem zof:Fun Tryz.prog 24:=.of Tryz.func24 (by kernel_rfl) (by kernel_rfl)
theorem zha:Fun Tryz.prog 31:=.of Tryz.func31 (by kernel_rfl) (by kernel_rfl)
theorem zeB:Fun Tryz.prog 42:=.of Tryz.func42 (by kernel_rfl) (by kernel_rfl)
theorem Xx:Fun Tryz.prog 43:=.of Tryz.func43 (by kernel_rfl) (by kernel_rfl)
theorem zi5:Fun Tryz.prog 44:=.of Tryz.func44 (by kernel_rfl) (by kernel_rfl)
theorem Xq:PlT Tryz.prog 47 #[(0,1),(1,1),(2,1),(3,1),(4,45)] (.agg #[(.int .i64 0),(.int .i64 0),(.int .i64 0),(.int .i64 0),(.int .i64 0),(.int .i64 0),(.int .i64 0),(.int .i64 0),(.int .i64 0),(.int .i64 0),(.int .i64 0),(.int .i64 0),(.int .i64 0),(.int .i64 0),(.int .i64 0),(.int .i64 0),(.int .i64 0),(.int .i64 0),(.int .i64 0),(.int .i64 0),(.int .i64 0),(.int .i64 0),(.int .i64 0),(.int .i64 0),(.int .i64 0),(.int .i64 0),(.int .i64 0),(.int .i64 0),(.int .i64 0),(.int .i64 0),(.int .i64 0),(.int .i64 0),(.slice none 0 0),(.int .i64 0),(.int .i64 0),(.int .i64 0),(.int .i64 0),(.int .i64 0),(.int .i64 0),(.int .i64 0),(.int .i64 0),(.int .i64 0),(.int .i64 0),(.int .i64 0),(.string ⟨#[]⟩),(.string ⟨#[]⟩),(.int .i64 0),(.int .i64 0),(.int .i64 0)]):=⟨.of (by kernel_rfl),by kernel_rfl,fun w=>by kernel_rfl⟩
theorem ztD:PlT Tryz.prog 59 #[(0,1)] (.agg #[(.slice none 0 0)]):=⟨.of (by kernel_rfl),by kernel_rfl,fun w=>by kernel_rfl⟩
theorem zpV {I:Qv}{av:Option Addr}{n c:Nat}{bv:Option Addr}{n2 c2:Nat}{xs:List Nt}(hS:K9 I av n c xs)(hT:Sl I 45 Zn bv n2 c2 [n35])(hd:xs.map Z2=[n35])(hn:n≤100000):Yc Tryz.prog 31 [.slice av n c,.slice bv n2 c2] I (.bool true):=by
 have h:=zuN hS.sl hT hS.nd (fun y hy=>by rw [List.mem_singleton.1 hy];exact Sl.nil) (zj4 hS.nd hd) hn
 rw [zqJ hS.nd hd] at h;exact h
set_option maxRecDepth 100000 in
set_option maxHeartbeats 4000000 in
theorem zs3 (I:Qv):Yc Tryz.prog 10 [] I (.bool true):=by
 intro g H w hw
 refine qe Tryz.func10 Tryz.ntmps10 hw ?_
 have hIc:=zxd I
 refine zR (zA ?_)
 refine zN (zR ?_)
 refine QE (cap:=[]) (vs:=[_]) rfl rfl zlG .nil (zlo _ 2) rfl rfl ?_
 rintro vv1 I1 L1 hI1 ⟨rfl,vr1,rfl,hV1⟩
 have hIc:=hIc.trans hI1
 obtain ⟨pa1,pn1,pc1,qa1,qn1,qc1,aa1,an1,ac1,ps1,qs1,rfl,hR1,he1⟩:=(show RmV _ vr1 (zbz 2) from hV1)
 obtain rfl:pn1=2:=(Z0 hR1 he1).1
 obtain rfl:qn1=0:=(Z0 hR1 he1).2.1
 refine zM ?_
 refine zE ?_
 refine zE ?_
 refine Qt Kx rfl rfl (fun b_1=>?_)
 refine zh YK ?_
 refine zA (Qb ?_)
 refine QO .here (fun I2 hI2 hb2=>?_)
 have hR1:=hR1.mono hI2;have hIc:=hIc.trans hI2
 have h1:=BxI.of hb2
 refine Qc (zR ?_)
 refine QE (cap:=[]) (vs:=[_]) rfl rfl zlG .nil (zlo _ 0) rfl rfl ?_
 rintro vv3 I3 L3 hI3 ⟨rfl,vr3,rfl,hV3⟩
 have hR1:=hR1.mono hI3;have h1:=h1.mono hI3;have hIc:=hIc.trans hI3
 obtain ⟨pa3,pn3,pc3,qa3,qn3,qc3,aa3,an3,ac3,ps3,qs3,rfl,hR3,he3⟩:=(show RmV _ vr3 (zeroR) from hV3)
 refine zM ?_
 refine zE ?_
 refine zE ?_
 refine Qt Kx rfl rfl (fun b_3=>?_)
 refine zh YK ?_
 refine zA (Qb ?_)
 refine QO .here (fun I4 hI4 hb4=>?_)
 have hR1:=hR1.mono hI4;have h1:=h1.mono hI4;have hIc:=hIc.trans hI4
 have h3:=BxI.of hb4
 refine Qc ?_
 refine zY [(1,_),(2,_),(4,_)] (fun T L0 E I' loc'=>∃ (b5:Nat) (pa5:Option Addr) (pn5:Nat) (pc5:Nat) (qa5:Option Addr) (qn5:Nat) (qc5:Nat) (aa5:Option Addr) (an5:Nat) (ac5:Nat) (ps5:List Pe) (qs5:List Pk),E=(5,ZK b5)::(6,.int .i64 0)::T∧HLe I4 I'∧[]=loc'∧BxI I' b5 (.cells #[.slice pa5 pn5 pc5,.slice qa5 qn5 qc5,.slice aa5 an5 ac5] 28 (0,0))∧RmP I' pa5 pn5 pc5 qa5 qn5 qc5 aa5 an5 ac5 ps5 qs5 []∧Vr ps5 qs5 []=rr1) ?_ ?_
 ·
  have hKc3:=zxd I4
  have hD:=zxd I4
  refine ZL ?_
  refine Q0 I4 [] mixed ?_
  refine zT 0 rfl (Qg rfl YE (fun hg=>by exact BxI.cells (vs:=[_,_,_]) h1) rfl) hD ?_
  refine Q8 1 7 rfl rfl (by kernel_rfl) ?_ ?_
  ·
   refine qcV (vs:=[_,_]) rfl zeB (zd6 _ 3 5) ?_
   refine Qb ?_
   refine zD hD ?_
   refine zT 2 rfl (QZ (ps:=[(0,_),(1,_),(4,_)]) [_,_,_,_,_,_,_,_,_,_,_,_,_,_,_,_,_,_,_,_,_,_,_,_,_,_,_,_,_,_,_,_,_,_,_,_,_,_,_,_,_,_,_,_,_,_,_,_,_] Xq rfl rfl) hD ?_
   refine Q8 3 7 rfl rfl (by kernel_rfl) ?_ ?_
   ·
    refine QE (cap:=[]) (vs:=[_,_]) rfl rfl KV .nil (XK hR1 he1 (zbi (by decide)) e35 ⟨zgS _,zmf⟩ zvk) rfl rfl ?_
    rintro vv5 I5 L5 hI5 ⟨rfl,vr5,rfl,hV5⟩
    have hKc3:=hKc3.trans hI5;have hD:=hD.trans hI5
    obtain ⟨pa5,pn5,pc5,qa5,qn5,qc5,aa5,an5,ac5,ps5,qs5,rfl,hR5,he5⟩:=(show RmV _ vr5 (rr1) from hV5)
    refine Qb ?_
    refine zD hD ?_
    refine zT 4 rfl (Qh rfl) hD ?_
    refine zT 5 rfl (Q3 rfl rfl) hD ?_
    refine zT 6 rfl (Q3 rfl rfl) hD ?_
    refine qd 7 rfl ?_
    refine Qt Kx rfl rfl (fun b_5=>?_)
    refine Qb ?_
    refine zD hD ?_
    refine qd 8 rfl ?_
    refine zh YK ?_
    refine Za (b:=b_5) (by repeat (first | exact Yd.here | apply Yd.there)) (fun I6 hI6 hb6=>?_)
    have hR5:=hR5.mono hI6;have hKc3:=hKc3.trans hI6;have hD:=hD.trans hI6
    have h5:=BxI.of hb6
    refine Qb ?_
    refine zD hD ?_
    refine zT 9 rfl (QC rfl) hD ?_
    refine Qm (by kernel_rfl) ?_
    refine Qy ?_
    exact zm (h:=⟨_,_,_,_,_,_,_,_,_,_,_,_,rfl,hKc3,rfl,h5,hR5,he5⟩)
   refine Qt Kx rfl rfl (fun b_5=>?_)
   refine Qb ?_
   refine zD hD ?_
   refine qd 3 rfl ?_
   refine QE (cap:=[]) (vs:=[_,_]) rfl rfl KV .nil (XK hR1 he1 (zbi (by decide)) e35 ⟨zgS _,zmf⟩ zvk) rfl rfl ?_
   rintro vv7 I7 L7 hI7 ⟨rfl,vr5,rfl,hV5⟩
   have hKc3:=hKc3.trans hI7;have hD:=hD.trans hI7
   obtain ⟨pa5,pn5,pc5,qa5,qn5,qc5,aa5,an5,ac5,ps5,qs5,rfl,hR5,he5⟩:=(show RmV _ vr5 (rr1) from hV5)
   refine Qb ?_
   refine zD hD ?_
   refine zT 4 rfl (Qh rfl) hD ?_
   refine zT 5 rfl (Q3 rfl rfl) hD ?_
   refine zT 6 rfl (Q3 rfl rfl) hD ?_
   refine qd 8 rfl ?_
   refine zh YK ?_
   refine Za (b:=b_5) (by repeat (first | exact Yd.here | apply Yd.there)) (fun I8 hI8 hb8=>?_)
   have hR5:=hR5.mono hI8;have hKc3:=hKc3.trans hI8;have hD:=hD.trans hI8
   have h5:=BxI.of hb8
   refine Qb ?_
   refine zD hD ?_
   refine zT 9 rfl (QC rfl) hD ?_
   refine Qm (by kernel_rfl) ?_
   refine Qy ?_
   exact zm (h:=⟨_,_,_,_,_,_,_,_,_,_,_,_,rfl,hKc3,rfl,h5,hR5,he5⟩)
  refine Qt Kx rfl rfl (fun b_5=>?_)
  refine Qb ?_
  refine zD hD ?_
  refine qd 1 rfl ?_
  refine qcV (vs:=[_,_]) rfl zeB (zd6 _ 3 5) ?_
  refine Qb ?_
  refine zD hD ?_
  refine zT 2 rfl (QZ (ps:=[(0,_),(1,_),(4,_)]) [_,_,_,_,_,_,_,_,_,_,_,_,_,_,_,_,_,_,_,_,_,_,_,_,_,_,_,_,_,_,_,_,_,_,_,_,_,_,_,_,_,_,_,_,_,_,_,_,_] Xq rfl rfl) hD ?_
  refine qd 3 rfl ?_
  refine QE (cap:=[]) (vs:=[_,_]) rfl rfl KV .nil (XK hR1 he1 (zbi (by decide)) e35 ⟨zgS _,zmf⟩ zvk) rfl rfl ?_
  rintro vv9 I9 L9 hI9 ⟨rfl,vr5,rfl,hV5⟩
  have hKc3:=hKc3.trans hI9;have hD:=hD.trans hI9
  obtain ⟨pa5,pn5,pc5,qa5,qn5,qc5,aa5,an5,ac5,ps5,qs5,rfl,hR5,he5⟩:=(show RmV _ vr5 (rr1) from hV5)
  refine Qb ?_
  refine zD hD ?_
  refine zT 4 rfl (Qh rfl) hD ?_
  refine zT 5 rfl (Q3 rfl rfl) hD ?_
  refine zT 6 rfl (Q3 rfl rfl) hD ?_
  refine qd 8 rfl ?_
  refine zh YK ?_
  refine Za (b:=b_5) (by repeat (first | exact Yd.here | apply Yd.there)) (fun I10 hI10 hb10=>?_)
  have hR5:=hR5.mono hI10;have hKc3:=hKc3.trans hI10;have hD:=hD.trans hI10
  have h5:=BxI.of hb10
  refine Qb ?_
  refine zD hD ?_
  refine zT 9 rfl (QC rfl) hD ?_
  refine Qm (by kernel_rfl) ?_
  refine Qy ?_
  exact zm (h:=⟨_,_,_,_,_,_,_,_,_,_,_,_,rfl,hKc3,rfl,h5,hR5,he5⟩)
 rintro E J11 loc' ⟨b5,pa5,pn5,pc5,qa5,qn5,qc5,aa5,an5,ac5,ps5,qs5,rfl,hJ3,rfl,h5,hR5,he5⟩
 have hR1:=hR1.mono hJ3;have h1:=h1.mono hJ3;have hIc:=hIc.trans hJ3
 obtain rfl:pn5=2:=(Z0 hR5 he5).1
 obtain rfl:qn5=1:=(Z0 hR5 he5).2.1
 refine zR ?_
 refine zV (Qg rfl YE (fun hg=>by exact BxI.cells (vs:=[_,_,_]) h1) rfl) ?_
 refine zV (QZ (ps:=[(0,_)]) [_,_,_,_,_,_,_,_,_,_,_,_,_,_,_,_,_,_,_,_,_,_,_,_,_,_,_,_,_,_,_,_,_,_,_,_,_,_,_,_,_,_,_,_,_,_,_,_,_] Xq rfl rfl) ?_
 refine QE (cap:=[]) (vs:=[_,_]) rfl rfl KV .nil (XK hR1 he1 (zbi (by decide)) eT0 ⟨Sl.nil,Um⟩ zwv) rfl rfl ?_
 rintro vv12 I12 L12 hI12 ⟨rfl,vr7,rfl,hV7⟩
 have hR1:=hR1.mono hI12;have h1:=h1.mono hI12;have h5:=h5.mono hI12;have hR5:=hR5.mono hI12;have hIc:=hIc.trans hI12
 obtain ⟨pa7,pn7,pc7,qa7,qn7,qc7,aa7,an7,ac7,ps7,qs7,rfl,hR7,he7⟩:=(show RmV _ vr7 (zeroR) from hV7)
 refine zM ?_
 refine zE ?_
 refine zE ?_
 refine Qt Kx rfl rfl (fun b_7=>?_)
 refine zh YK ?_
 refine zA (Qb ?_)
 refine QO .here (fun I13 hI13 hb13=>?_)
 have hR1:=hR1.mono hI13;have h1:=h1.mono hI13;have h5:=h5.mono hI13;have hR5:=hR5.mono hI13;have hIc:=hIc.trans hI13
 have h7:=BxI.of hb13
 refine Qc (zR ?_)
 refine zV (Qg rfl YE (fun hg=>by exact BxI.cells (vs:=[_,_,_]) h1) rfl) ?_
 refine zV (QZ (ps:=[(0,_)]) [_,_,_,_,_,_,_,_,_,_,_,_,_,_,_,_,_,_,_,_,_,_,_,_,_,_,_,_,_,_,_,_,_,_,_,_,_,_,_,_,_,_,_,_,_,_,_,_,_] Xq rfl rfl) ?_
 refine QE (cap:=[]) (vs:=[_,_]) rfl rfl KV .nil (XK hR1 he1 (zbi (by decide)) eD0 ⟨Sl.nil,Um⟩ zwW) rfl rfl ?_
 rintro vv14 I14 L14 hI14 ⟨rfl,vr9,rfl,hV9⟩
 have h1:=h1.mono hI14;have h5:=h5.mono hI14;have hR5:=hR5.mono hI14;have hIc:=hIc.trans hI14
 obtain ⟨pa9,pn9,pc9,qa9,qn9,qc9,aa9,an9,ac9,ps9,qs9,rfl,hR9,he9⟩:=(show RmV _ vr9 (zeroR) from hV9)
 refine zM ?_
 refine zE ?_
 refine zE ?_
 refine Qt Kx rfl rfl (fun b_9=>?_)
 refine zh YK ?_
 refine zA (Qb ?_)
 refine QO .here (fun I15 hI15 hb15=>?_)
 have h1:=h1.mono hI15;have h5:=h5.mono hI15;have hR5:=hR5.mono hI15;have hIc:=hIc.trans hI15
 have h9:=BxI.of hb15
 refine Qc (zR ?_)
 refine zV (Qg rfl YE (fun hg=>by exact BxI.cells (vs:=[_,_,_]) h5) rfl) ?_
 refine zV (QZ (ps:=[(0,_)]) [_,_,_,_,_,_,_,_,_,_,_,_,_,_,_,_,_,_,_,_,_,_,_,_,_,_,_,_,_,_,_,_,_,_,_,_,_,_,_,_,_,_,_,_,_,_,_,_,_] Xq rfl rfl) ?_
 refine QE (cap:=[]) (vs:=[_,_]) rfl rfl KV .nil (XK hR5 he5 zu8 eD0 ⟨Sl.nil,Um⟩ zwo) rfl rfl ?_
 rintro vv16 I16 L16 hI16 ⟨rfl,vr11,rfl,hV11⟩
 have h1:=h1.mono hI16;have h5:=h5.mono hI16;have hR5:=hR5.mono hI16;have hIc:=hIc.trans hI16
 obtain ⟨pa11,pn11,pc11,qa11,qn11,qc11,aa11,an11,ac11,ps11,qs11,rfl,hR11,he11⟩:=(show RmV _ vr11 (rr2) from hV11)
 obtain rfl:pn11=2:=(Z0 hR11 he11).1
 obtain rfl:qn11=0:=(Z0 hR11 he11).2.1
 refine zM ?_
 refine zE ?_
 refine zE ?_
 refine Qt Kx rfl rfl (fun b_11=>?_)
 refine zh YK ?_
 refine zA (Qb ?_)
 refine QO .here (fun I17 hI17 hb17=>?_)
 have h1:=h1.mono hI17;have h5:=h5.mono hI17;have hR5:=hR5.mono hI17;have hR11:=hR11.mono hI17;have hIc:=hIc.trans hI17
 have h11:=BxI.of hb17
 refine Qc (Qq (zR (zM ?_)))
 refine zC ?_
 refine zM ?_
 refine Ze 2 rfl rfl rfl ?_
 refine zJ (Qa rfl ZR) ?_
 refine zJ (Qd rfl YW (fun hg=>by exact QG.imm h1.out rfl)) ?_
 refine zJ (Q9 rfl YJ) ?_
 refine zJ (QT rfl rfl rfl) ?_
 refine ZP rfl rfl rfl rfl rfl ?_
 refine zM ?_
 refine Ze 8 rfl rfl rfl ?_
 refine zJ (Qh rfl) ?_
 refine zJ (QT rfl rfl rfl) ?_
 refine ZP rfl rfl rfl rfl rfl ?_
 refine zM ?_
 refine Ze 12 rfl rfl rfl ?_
 refine zJ (Qh rfl) ?_
 refine zJ (QT rfl rfl rfl) ?_
 refine ZP rfl rfl rfl rfl rfl ?_
 refine zM ?_
 refine Ze 16 rfl rfl rfl ?_
 refine zJ (Qa rfl ZR) ?_
 refine zJ (Qd rfl YW (fun hg=>by exact QG.imm h5.out rfl)) ?_
 refine zJ (Q9 rfl YJ) ?_
 refine zJ (QT rfl rfl rfl) ?_
 refine ZP rfl rfl rfl rfl rfl ?_
 refine zM ?_
 refine Ze 22 rfl rfl rfl ?_
 refine zJ (Qh rfl) ?_
 refine zJ (QT rfl rfl rfl) ?_
 refine ZP rfl rfl rfl rfl rfl ?_
 refine zM ?_
 refine Ze 26 rfl rfl rfl ?_
 refine zJ (Qh rfl) ?_
 refine zJ (QT rfl rfl rfl) ?_
 refine ZP rfl rfl rfl rfl rfl ?_
 refine zM ?_
 refine Ze 30 rfl rfl rfl ?_
 refine zJ (Qh rfl) ?_
 refine zJ (QT rfl rfl rfl) ?_
 refine ZP rfl rfl rfl rfl rfl ?_
 refine zM ?_
 refine Ze 34 rfl rfl rfl ?_
 refine zJ (Qa rfl ZR) ?_
 refine zJ (Qd rfl YW (fun hg=>by exact QG.imm h11.out rfl)) ?_
 refine zJ (Q9 rfl YJ) ?_
 refine zJ (QT rfl rfl rfl) ?_
 refine ZP rfl rfl rfl rfl rfl ?_
 refine zN ?_
 refine zI ?_ ?_<;>intro hc103
 ·
  exact absurd hc103 (by decide)
 refine Qw (Qc (zR ?_))
 refine qcV (vs:=[_,_]) rfl zeB (zd6 _ 3 5) ?_
 refine Ql (ps:=[(0,_)]) (m:=[Zn n35]) Ve rfl (.cons rfl (.nil)) rfl (by simp [Q4,VD]) (by decide) (by decide) rfl rfl (fun b_105=>?_)
 refine zA (Qb ?_)
 refine QO .here (fun I18 hI18 hb18=>?_)
 have h1:=h1.mono hI18;have h5:=h5.mono hI18;have hR5:=hR5.mono hI18;have hR11:=hR11.mono hI18;have h11:=h11.mono hI18;have hIc:=hIc.trans hI18
 have h13:=Sl.lit (enc:=Zn) [n35] rfl Q4 hb18
 refine Qc (Qq ?_)
 obtain ⟨q5,hq5,hq5e⟩:=zvs hR5 he5 (i:=0) rfl
 have hq5M:=hR5.pk q5 (List.mem_of_getElem? hq5)
 have hdq5:UE q5.data=UE (JU n35):=congrArg (fun p:Pk=>UE p.data) hq5e
 obtain ⟨pb,hppb,hdpb⟩:=zqH hR5 he5 (i:=1) (xs:=[n35]) rfl
 have hnpb:=hR5.nt pb (List.mem_of_getElem? hppb)
 obtain ⟨pa,hppa,hdpa⟩:=zqH hR5 he5 (i:=0) (xs:=[]) rfl
 have hnpa:=hR5.nt pa (List.mem_of_getElem? hppa)
 have hpa0:(((pa.n:Nat):Int)==0)=true:=by rw [ztu hnpa hdpa];rfl
 have hpbl:pb.n≤100000:=by have h1:=hnpb.sl.len;have h2:=congrArg List.length hdpb;rw [List.length_map] at h2;simp at h2;omega
 have hD:=zxd I18
 refine ZL ?_
 refine Q0 I18 [] mixed ?_
 refine zT 0 rfl (Qa rfl ZY) hD ?_
 refine zT 1 rfl (Qa rfl Zk) hD ?_
 refine zT 2 rfl (Qd rfl Zq (fun hg=>by exact QG.imm h5.out rfl)) hD ?_
 refine zT 3 rfl (Q9 rfl Zl) hD ?_
 refine zT 4 rfl (QT rfl rfl rfl) hD ?_
 refine zT 5 rfl (Qh rfl) hD ?_
 refine zw 6 111 rfl (Qa rfl ZY) hD ?_
 refine zw 7 111 rfl (Qa rfl Zk) hD ?_
 refine zw 8 111 rfl (Qd rfl Zq (fun hg=>by exact QG.imm h5.out rfl)) hD ?_
 refine zw 9 111 rfl (QV rfl rfl Zl hR5.q (fun hg=>by omega)) hD ?_
 refine zw 10 111 rfl (Qa rfl XT) hD ?_
 refine zw 11 111 rfl (Qd rfl UH (fun hg=>by exact zxf hR5.q hq5 (j:=2) rfl)) hD ?_
 refine zw 12 111 rfl (ZM rfl bst (fun hg=>hq5M.sl)) hD ?_
 refine qd 13 rfl ?_
 refine Q6 (dj:=111) rfl rfl rfl ?_
 refine qcV (vs:=[_,_]) rfl zeB (zd6 _ 3 5) ?_
 refine Qb ?_
 refine zD hD ?_
 refine qd 14 rfl ?_
 refine Q6 (dj:=111) rfl rfl rfl ?_
 refine QE (cap:=[]) (vs:=[_]) rfl rfl Xx .nil (XB n35 (zgS _) (by decide) XC.1 (Nat.le_trans XC.2.2 (by decide))) rfl rfl ?_
 rintro vv19 I19 L19 hI19 ⟨rfl,am,cm,rfl,hSm⟩
 have h1:=h1.mono hI19;have h5:=h5.mono hI19;have hR5:=hR5.mono hI19;have hR11:=hR11.mono hI19;have h11:=h11.mono hI19;have h13:=h13.mono hI19;have hnpb:=hnpb.mono hI19;have hIc:=hIc.trans hI19;have hD:=hD.trans hI19
 refine Qb ?_
 refine zD hD ?_
 refine qd 15 rfl ?_
 refine Q6 (dj:=111) rfl rfl rfl ?_
 refine zV (ZM rfl bst (fun hg=>hSm)) ?_
 refine Qb ?_
 refine zD hD ?_
 refine zw 16 111 rfl (Wa rfl rfl rfl) hD ?_
 rw [hdq5,zhD]
 refine zT 17 rfl (Zv rfl rfl rfl) hD ?_
 refine zT 18 rfl (Qh rfl) hD ?_
 refine zw 19 124 rfl (Qa rfl ZR) hD ?_
 refine zw 24 124 rfl (Qh rfl) hD ?_
 refine qd 20 rfl ?_
 refine Q6 (dj:=124) rfl rfl rfl ?_
 refine zV (Qd rfl YW (fun hg=>by exact QG.imm h5.out rfl)) ?_
 refine Qb ?_
 refine zD hD ?_
 refine qd 21 rfl ?_
 refine Q6 (dj:=124) rfl rfl rfl ?_
 refine zV (QV rfl rfl YJ hR5.pe (fun hg=>by omega)) ?_
 refine Qb ?_
 refine zD hD ?_
 refine zw 22 124 rfl (Qa rfl Ym) hD ?_
 refine qd 23 rfl ?_
 refine Q6 (dj:=124) rfl rfl rfl ?_
 refine zV (Qd rfl VW (fun hg=>by exact zw6 hR5.pe hppb rfl)) ?_
 refine Qb ?_
 refine zD hD ?_
 refine qd 25 rfl ?_
 refine Q6 (dj:=124) rfl rfl rfl ?_
 refine qcV (vs:=[_,_]) rfl zha (zpV hnpb h13 hdpb (by omega)) ?_
 refine Qb ?_
 refine zD hD ?_
 refine zT 26 rfl (Zv rfl rfl rfl) hD ?_
 refine zT 27 rfl (Qh rfl) hD ?_
 refine zw 28 133 rfl (Qa rfl ZR) hD ?_
 refine qd 29 rfl ?_
 refine Q6 (dj:=133) rfl rfl rfl ?_
 refine zV (Qd rfl YW (fun hg=>by exact QG.imm h5.out rfl)) ?_
 refine Qb ?_
 refine zD hD ?_
 refine qd 30 rfl ?_
 refine Q6 (dj:=133) rfl rfl rfl ?_
 refine zV (QV rfl rfl YJ hR5.pe (fun hg=>by omega)) ?_
 refine Qb ?_
 refine zD hD ?_
 refine zw 31 133 rfl (Qa rfl Ym) hD ?_
 refine qd 32 rfl ?_
 refine Q6 (dj:=133) rfl rfl rfl ?_
 refine zV (Qd rfl VW (fun hg=>by exact zw6 hR5.pe hppa rfl)) ?_
 refine Qb ?_
 refine zD hD ?_
 refine zw 33 133 rfl (Q9 rfl Zu) hD ?_
 refine zw 34 133 rfl (QT rfl rfl rfl) hD ?_
 rw [hpa0]
 refine zT 35 rfl (Zv rfl rfl rfl) hD ?_
 refine zT 36 rfl (QC rfl) hD ?_
 refine Qm (by kernel_rfl) ?_
 refine Qy ?_
 refine Qc (Qq ?_)
 obtain ⟨pf,hppf,hdpf⟩:=zqH hR11 he11 (i:=0) (xs:=[n35]) rfl
 have hnpf:=hR11.nt pf (List.mem_of_getElem? hppf)
 have hpfl:pf.n≤100000:=by have h1:=hnpf.sl.len;have h2:=congrArg List.length hdpf;rw [List.length_map] at h2;simp at h2;omega
 refine Qk ?_
 refine zF ZR ?_
 refine zV (Qd rfl YW (fun hg=>by exact QG.imm h11.out rfl)) ?_
 refine zV (QV rfl rfl YJ hR11.pe (fun hg=>by omega)) ?_
 refine zV (Qg rfl Jm (fun hg=>by exact zxe hR11.pe hppf) rfl) ?_
 refine QE (cap:=[]) (vs:=[_]) rfl rfl zgU .nil (zdg hnpf (by omega)) rfl rfl ?_
 rintro vv20 I20 L20 hI20 hW0
 have h1:=h1.mono hI20;have hR11:=hR11.mono hI20;have h11:=h11.mono hI20;have h13:=h13.mono hI20;have hnpf:=hnpf.mono hI20;have hIc:=hIc.trans hI20
 obtain ⟨rfl,a15,n15,c15,a16,n16,c16,a17,n17,c17,a18,n18,c18,rfl,hS15,hS16,_,_⟩:=zdd hW0 (zdB hdpf hnpf.nd)
 rw [zq7 hdpf] at hS16
 obtain rfl:n16=1:=hS16.len.symm
 refine zM ?_
 refine zE ?_
 refine zE ?_
 refine zE ?_
 refine zE ?_
 refine zE ?_
 refine zA ?_
 refine zA ?_
 refine zA ?_
 refine zA ?_
 refine zA ?_
 refine zN (zR ?_)
 refine qcV (vs:=[_,_]) rfl zi5 (zbQ _ 2 0) ?_
 refine qcV (vs:=[_,_]) rfl zi5 (zbQ _ 4 4) ?_
 refine qcV (vs:=[_,_]) rfl zi5 (zbQ _ 5 3) ?_
 refine Ql (ps:=[(0,_),(1,_),(2,_)]) (m:=[Zn (Yy 2 0),Zn (Yy 4 4),Zn (Yy 5 3)]) Ve rfl (.cons rfl (.cons rfl (.cons rfl (.nil)))) rfl (by simp [Q4,VD]) (by decide) (by decide) rfl rfl (fun b_157=>?_)
 refine zV (QZ (ps:=[(0,_)]) [_] ztD rfl rfl) ?_
 refine Za (by repeat (first | exact Yd.here | apply Yd.there)) (fun I21 hI21 hb21=>?_)
 have h1:=h1.mono hI21;have hR11:=hR11.mono hI21;have h11:=h11.mono hI21;have h13:=h13.mono hI21;have hnpf:=hnpf.mono hI21;have hS16:=hS16.mono hI21;have hIc:=hIc.trans hI21
 have hLl:=Sl.lit (enc:=Zn) hL rfl Q4 hb21
 refine QE (cap:=[]) (vs:=[_]) rfl rfl zgU .nil (zdg ⟨hLl,fun x hx=>(zj0 _ hx).1.nd,fun x hx _=>(zj0 _ hx).1⟩ (by decide)) rfl rfl ?_
 rintro vv22 I22 L22 hI22 hW0
 have h1:=h1.mono hI22;have hR11:=hR11.mono hI22;have h11:=h11.mono hI22;have h13:=h13.mono hI22;have hnpf:=hnpf.mono hI22;have hS16:=hS16.mono hI22;have hIc:=hIc.trans hI22
 obtain ⟨rfl,a20,n20,c20,a21,n21,c21,a22,n22,c22,a23,n23,c23,rfl,hS20,_,_,_⟩:=zdd hW0 znB
 rw [ztT] at hS20
 obtain rfl:n20=2:=hS20.len.symm
 refine zM ?_
 refine zE ?_
 refine zE ?_
 refine zE ?_
 refine zE ?_
 refine zE ?_
 refine zA ?_
 refine zA ?_
 refine zA ?_
 refine zA ?_
 refine zA ?_
 refine zN (zR ?_)
 refine zF ZR ?_
 refine zV (Qd rfl YW (fun hg=>by exact QG.imm h11.out rfl)) ?_
 refine zV (QV rfl rfl YJ hR11.pe (fun hg=>by omega)) ?_
 refine zV (Qg rfl Jm (fun hg=>by exact zxe hR11.pe hppf) rfl) ?_
 refine QE (cap:=[]) (vs:=[_]) rfl rfl zsk .nil (ziY hnpf (by omega)) rfl rfl ?_
 rintro vv23 I23 L23 hI23 hW0
 have h1:=h1.mono hI23;have hR11:=hR11.mono hI23;have h11:=h11.mono hI23;have h13:=h13.mono hI23;have hnpf:=hnpf.mono hI23;have hS16:=hS16.mono hI23;have hS20:=hS20.mono hI23;have hIc:=hIc.trans hI23
 obtain ⟨rfl,a25,n25,c25,rs0,rfl,hRc,hrb⟩:=zpp hW0 (zdB hdpf hnpf.nd)
 obtain ⟨rsl,rsb,rsn⟩:=zrZ hRc hrb hdpf
 obtain rfl:n25=1:=by have h:=hRc.sl.len;omega
 refine zM ?_
 refine zE ?_
 refine zE ?_
 refine zA ?_
 refine zA ?_
 refine zN (zR ?_)
 refine Ql (ps:=[]) (m:=[]) zbJ rfl (.nil) rfl (by simp [Q4,VD]) (by decide) (by decide) rfl rfl (fun b_174=>?_)
 refine zM ?_
 refine QX (v:=_) (ys:=rs0.flatMap zbC) (L:=[(b_174,_)]) rfl rfl zbJ Yp.new (by repeat (first | exact .cons .here .nil | exact Qu | exact Qr | apply Qp | apply Qo)) (hRc.sl.src VD) (zjy _) (by omega) rfl rfl ?_
 intro v8 L8 hO8 _;rw [List.nil_append,Nat.zero_add] at hO8
 refine zM ?_
 refine QX (v:=_) (ys:=rs0.flatMap zbC) (L:=L8) rfl rfl zbJ hO8 (by repeat (first | exact .cons .here .nil | exact Qu | exact Qr | apply Qp | apply Qo)) (hRc.sl.src VD) (zjy _) (by omega) rfl rfl ?_
 intro v9 L9 hO9 _;rw [←List.flatMap_append] at hO9
 refine YM hO9 VD (by decide) (by repeat (first | exact .cons .here .nil | exact Qu | exact Qr | apply Qp | apply Qo)) (fun I24 hI24 af24 cf24 ef24 hZr=>?_)
 subst ef24
 have h1:=h1.mono hI24;have hR11:=hR11.mono hI24;have h11:=h11.mono hI24;have h13:=h13.mono hI24;have hnpf:=hnpf.mono hI24;have hS16:=hS16.mono hI24;have hS20:=hS20.mono hI24;have hRc:=hRc.mono hI24;have hIc:=hIc.trans hI24
 refine QE (cap:=[]) (vs:=[_]) rfl rfl zof .nil (zoq (rs:=rs0++rs0) ⟨hZr,fun r hr=>(List.mem_append.1 hr).elim (hRc.m r) (hRc.m r)⟩ (by omega) (fun r hr=>rsn r ((List.mem_append.1 hr).elim id id))) rfl rfl ?_
 rintro vv25 I25 L25 hI25 hLd0
 have h1:=h1.mono hI25;have hR11:=hR11.mono hI25;have h11:=h11.mono hI25;have h13:=h13.mono hI25;have hnpf:=hnpf.mono hI25;have hS16:=hS16.mono hI25;have hS20:=hS20.mono hI25;have hIc:=hIc.trans hI25
 obtain ⟨rfl,a27,m27,c27,zs27,rfl,hLz⟩:=zu4 hLd0 (by rw [List.length_append,rsl];decide) (fun r hr=>by rw [rsb r ((List.mem_append.1 hr).elim id id),WS XC];simp)
 have hLn:=hLz.nt
 have hdz:=zuv hLz (by intro h;rw [List.append_eq_nil_iff] at h;rw [h.1] at rsl;cases rsl) (fun r hr=>rsb r ((List.mem_append.1 hr).elim id id))
 refine zM ?_
 refine zE ?_
 refine zE ?_
 refine Qt zig rfl rfl (fun b_27=>?_)
 refine zh zaO ?_
 refine zA (Qb ?_)
 refine QO .here (fun I26 hI26 hb26=>?_)
 have h1:=h1.mono hI26;have hR11:=hR11.mono hI26;have h11:=h11.mono hI26;have h13:=h13.mono hI26;have hnpf:=hnpf.mono hI26;have hS16:=hS16.mono hI26;have hS20:=hS20.mono hI26;have hLn:=hLn.mono hI26;have hIc:=hIc.trans hI26
 have h27:=BxI.of hb26
 refine Qc (zR ?_)
 refine Ql (ps:=[(0,_)]) (m:=[zbC ⟨none,0,0,[]⟩]) zbJ rfl (.cons rfl (.nil)) rfl (by simp [Q4,VD]) (by decide) (by decide) rfl rfl (fun b_183=>?_)
 refine Za (by repeat (first | exact Yd.here | apply Yd.there)) (fun I27 hI27 hb27=>?_)
 have h1:=h1.mono hI27;have hR11:=hR11.mono hI27;have h11:=h11.mono hI27;have h13:=h13.mono hI27;have hnpf:=hnpf.mono hI27;have hS16:=hS16.mono hI27;have hS20:=hS20.mono hI27;have hLn:=hLn.mono hI27;have h27:=h27.mono hI27;have hIc:=hIc.trans hI27
 have hNl:=Sl.lit (enc:=zbC) [(⟨none,0,0,[]⟩:Hy)] rfl VD hb27
 refine QE (cap:=[]) (vs:=[_]) rfl rfl zof .nil (zoq (rs:=[⟨none,0,0,[]⟩]) ⟨hNl,fun r hr=>by rw [List.mem_singleton.1 hr];exact ⟨.nil,fun _ h=>(by cases h)⟩⟩ (by decide) (fun r hr=>by rw [List.mem_singleton.1 hr];decide)) rfl rfl ?_
 rintro vv28 I28 L28 hI28 hLd0
 have h1:=h1.mono hI28;have hR11:=hR11.mono hI28;have h11:=h11.mono hI28;have h13:=h13.mono hI28;have hnpf:=hnpf.mono hI28;have hS16:=hS16.mono hI28;have hS20:=hS20.mono hI28;have hLn:=hLn.mono hI28;have h27:=h27.mono hI28;have hIc:=hIc.trans hI28
 obtain ⟨rfl,rfl⟩:=zvV hLd0 (by decide) ⟨_,List.mem_singleton.2 rfl,zqq⟩
 refine zM ?_
 refine zE ?_
 refine zE ?_
 refine Qt zig rfl rfl (fun b_29=>?_)
 refine zh zaO ?_
 refine zA (Qb ?_)
 refine QO .here (fun I29 hI29 hb29=>?_)
 have h1:=h1.mono hI29;have hR11:=hR11.mono hI29;have h11:=h11.mono hI29;have h13:=h13.mono hI29;have hnpf:=hnpf.mono hI29;have hS16:=hS16.mono hI29;have hS20:=hS20.mono hI29;have hLn:=hLn.mono hI29;have h27:=h27.mono hI29;have hIc:=hIc.trans hI29
 have h29:=BxI.of hb29
 refine Qc (zR (zM ?_))
 refine zM ?_
 refine Q6 (dj:=188) rfl rfl rfl ?_
 refine zF ZR ?_
 refine Q6 (dj:=188) rfl rfl rfl ?_
 refine zV (Qd rfl YW (fun hg=>by exact QG.imm h11.out rfl)) ?_
 refine Q6 (dj:=188) rfl rfl rfl ?_
 refine zV (QV rfl rfl YJ hR11.pe (fun hg=>by omega)) ?_
 refine Q6 (dj:=188) rfl rfl rfl ?_
 refine zF Ym ?_
 refine Q6 (dj:=188) rfl rfl rfl ?_
 refine zV (Qd rfl VW (fun hg=>by exact zw6 hR11.pe hppf rfl)) ?_
 refine Q6 (dj:=188) rfl rfl rfl ?_
 refine zM ?_
 refine Q6 (dj:=188) rfl rfl rfl ?_
 refine qcV (vs:=[_,_]) rfl zha (zpV hnpf h13 hdpf (by omega)) ?_
 refine zV (Zv rfl rfl rfl) ?_
 refine zM ?_
 refine Q6 (dj:=197) rfl rfl rfl ?_
 refine zF ZY ?_
 refine Q6 (dj:=197) rfl rfl rfl ?_
 refine zF Zk ?_
 refine Q6 (dj:=197) rfl rfl rfl ?_
 refine zV (Qd rfl Zq (fun hg=>by exact QG.imm h11.out rfl)) ?_
 refine Q6 (dj:=197) rfl rfl rfl ?_
 refine zQ Zl ?_
 refine Q6 (dj:=197) rfl rfl rfl ?_
 refine zC ?_
 refine zV (Zv rfl rfl rfl) ?_
 refine zM ?_
 refine Q6 (dj:=204) rfl rfl rfl ?_
 refine zV (QZ (ps:=[]) [_,_,_] zgA rfl rfl) ?_
 refine Q6 (dj:=204) rfl rfl rfl ?_
 refine QE (cap:=[]) (vs:=[_]) rfl rfl ziZ .nil (zg9 znQ (r:=zeroR) rfl zqG zmb) rfl rfl ?_
 rintro vv30 I30 L30 hI30 ⟨rfl,rfl⟩
 have h1:=h1.mono hI30;have hR11:=hR11.mono hI30;have h11:=h11.mono hI30;have h13:=h13.mono hI30;have hS16:=hS16.mono hI30;have hS20:=hS20.mono hI30;have hLn:=hLn.mono hI30;have h27:=h27.mono hI30;have hIc:=hIc.trans hI30
 refine Q6 (dj:=204) rfl rfl rfl ?_
 refine zC ?_
 refine zV (Zv rfl rfl rfl) ?_
 refine zM ?_
 refine Q6 (dj:=209) rfl rfl rfl ?_
 refine zV (Qg rfl YE (fun hg=>by exact BxI.cells (vs:=[_,_,_]) h11) rfl) ?_
 refine Q6 (dj:=209) rfl rfl rfl ?_
 refine QE (cap:=[]) (vs:=[_]) rfl rfl ziZ .nil (zg9 hR11 he11 zuu zqy) rfl rfl ?_
 rintro vv31 I31 L31 hI31 ⟨rfl,rfl⟩
 have h1:=h1.mono hI31;have h13:=h13.mono hI31;have hS16:=hS16.mono hI31;have hS20:=hS20.mono hI31;have hLn:=hLn.mono hI31;have h27:=h27.mono hI31;have hIc:=hIc.trans hI31
 refine Q6 (dj:=209) rfl rfl rfl ?_
 refine zC ?_
 refine zV (Zv rfl rfl rfl) ?_
 refine zA (zN (Qq ?_))
 have hzl:m27≤100000:=by have h1:=hLn.sl.len;have h2:=congrArg List.length hdz;rw [List.length_map] at h2;simp at h2;omega
 have hD:=zxd I31
 refine ZL ?_
 refine Q0 I31 [] mixed ?_
 refine zT 0 rfl (Qh rfl) hD ?_
 refine zT 1 rfl (Qh rfl) hD ?_
 refine zw 2 215 rfl (Qh rfl) hD ?_
 refine zw 3 215 rfl (QT rfl rfl rfl) hD ?_
 refine zT 4 rfl (Zv rfl rfl rfl) hD ?_
 refine zT 5 rfl (Qh rfl) hD ?_
 refine zw 6 219 rfl (Qh rfl) hD ?_
 refine zw 7 219 rfl (QT rfl rfl rfl) hD ?_
 refine zT 8 rfl (Zv rfl rfl rfl) hD ?_
 refine zT 9 rfl (Qh rfl) hD ?_
 refine zw 10 223 rfl (Qh rfl) hD ?_
 refine zw 11 223 rfl (QT rfl rfl rfl) hD ?_
 refine zT 12 rfl (Zv rfl rfl rfl) hD ?_
 refine zT 13 rfl (Qh rfl) hD ?_
 refine zw 14 227 rfl (Qh rfl) hD ?_
 refine zw 15 227 rfl (QT rfl rfl rfl) hD ?_
 refine zT 16 rfl (Zv rfl rfl rfl) hD ?_
 refine zT 17 rfl (Qh rfl) hD ?_
 refine zw 18 231 rfl (Qh rfl) hD ?_
 refine zw 19 231 rfl (QT rfl rfl rfl) hD ?_
 refine zT 20 rfl (Zv rfl rfl rfl) hD ?_
 refine zT 21 rfl (Qh rfl) hD ?_
 refine zw 22 235 rfl (Qh rfl) hD ?_
 refine zw 23 235 rfl (Q9 rfl Yu) hD ?_
 refine zw 24 235 rfl (QT rfl rfl rfl) hD ?_
 refine zT 25 rfl (Zv rfl rfl rfl) hD ?_
 refine zT 26 rfl (Qh rfl) hD ?_
 refine zw 27 240 rfl (Qh rfl) hD ?_
 refine zw 28 240 rfl (zX Yu hS20) hD ?_
 refine zw 29 240 rfl (Qa rfl JE) hD ?_
 refine zw 30 240 rfl (Qd rfl QA (fun hg=>by exact zw6 hS20 (k:=0) rfl rfl)) hD ?_
 refine zw 31 240 rfl (QT rfl rfl rfl) hD ?_
 refine zT 32 rfl (Zv rfl rfl rfl) hD ?_
 refine zT 33 rfl (Qh rfl) hD ?_
 refine zw 34 247 rfl (Qh rfl) hD ?_
 refine zw 35 247 rfl (zX Yu hS20) hD ?_
 refine zw 36 247 rfl (Qa rfl JE) hD ?_
 refine zw 37 247 rfl (Qd rfl QA (fun hg=>by exact zw6 hS20 (k:=1) rfl rfl)) hD ?_
 refine zw 38 247 rfl (QT rfl rfl rfl) hD ?_
 refine zT 39 rfl (Zv rfl rfl rfl) hD ?_
 refine zT 40 rfl (Qh rfl) hD ?_
 refine zw 41 254 rfl (Qh rfl) hD ?_
 refine zw 42 254 rfl (Q9 rfl JY) hD ?_
 refine zw 43 254 rfl (QT rfl rfl rfl) hD ?_
 refine zT 44 rfl (Zv rfl rfl rfl) hD ?_
 refine zT 45 rfl (Qh rfl) hD ?_
 refine zw 46 259 rfl (Qh rfl) hD ?_
 refine zw 47 259 rfl (zX JY hS16) hD ?_
 refine zw 48 259 rfl (Qg rfl JZ (fun hg=>by exact zxe hS16 (k:=0) rfl) rfl) hD ?_
 refine qd 49 rfl ?_
 refine Q6 (dj:=259) rfl rfl rfl ?_
 refine qcV (vs:=[_,_]) rfl zeB (zd6 _ 3 5) ?_
 refine Qb ?_
 refine zD hD ?_
 refine qd 50 rfl ?_
 refine Q6 (dj:=259) rfl rfl rfl ?_
 refine zV (zhC [_,_,_,_,_] rfl zmE rfl) ?_
 refine Qb ?_
 refine zD hD ?_
 refine zw 51 259 rfl (Wz rfl rfl zgs rfl) hD ?_
 refine zT 52 rfl (Zv rfl rfl rfl) hD ?_
 refine zT 53 rfl (Qh rfl) hD ?_
 refine zw 54 267 rfl (Qh rfl) hD ?_
 refine zw 55 267 rfl (Q9 rfl zhd) hD ?_
 refine zw 56 267 rfl (QT rfl rfl rfl) hD ?_
 refine zT 57 rfl (Zv rfl rfl rfl) hD ?_
 refine zT 58 rfl (Qh rfl) hD ?_
 refine zw 59 272 rfl (Qa rfl Ym) hD ?_
 refine zw 60 272 rfl (Qd rfl VW (fun hg=>by exact QG.imm h27.out rfl)) hD ?_
 refine zw 61 272 rfl (Qh rfl) hD ?_
 refine qd 62 rfl ?_
 refine Q6 (dj:=272) rfl rfl rfl ?_
 refine qcV (vs:=[_,_]) rfl zha (zpV hLn h13 hdz (by omega)) ?_
 refine Qb ?_
 refine zD hD ?_
 refine zT 63 rfl (Zv rfl rfl rfl) hD ?_
 refine zT 64 rfl (QC rfl) hD ?_
 refine Qm (by kernel_rfl) ?_
 refine Qy ?_
 refine Qc (QF ?_)
 exact QP rfl rfl (fun w hw=>⟨by rfl,(hw.mono hIc).subL Qe⟩)
end
section
open Go Go.Kn Go.Proofs
theorem zpa {α:Type}:∀ {xs l:List α},xs.Nodup→(∀ x∈xs,x∈l)→xs.length≤l.length
 | [],_,_,_=>Nat.zero_le _
 | x::xs,l,hn,hs=>by
  obtain ⟨h1,h2⟩:=List.nodup_cons.1 hn
  obtain ⟨s,t,rfl⟩:=List.append_of_mem (hs x (List.mem_cons_self ..))
  have h:=zpa (xs:=xs) (l:=s++t) h2 fun y hy=>by
   have h3:=hs y (List.mem_cons_of_mem _ hy)
   rcases List.mem_append.1 h3 with h3 | h3
   ·
    exact List.mem_append_left _ h3
   ·
    rcases List.mem_cons.1 h3 with rfl | h3
    ·
     exact absurd hy h1
    ·
     exact List.mem_append_right _ h3
  simp only [List.length_append,List.length_cons] at h ⊢
  omega
theorem ziR {xs:List Nt}(h:zb6 xs):xs.Nodup:=by
 refine List.pairwise_iff_getElem.2 fun i j hi hj hij e=>?_
 have:=h i j xs[i] xs[j] hij (List.getElem?_eq_getElem hi) (List.getElem?_eq_getElem hj)
 rw [e,JV] at this
 omega
theorem Kn.few {m:Nat}{r:Rd}{told:List Nt}(h:Kn m r told){xs:List Nt}(hx:xs∈r.ps):xs.length≤told.length:=by
 have e:(told.map Z2).length=told.length:=List.length_map ..
 rw [←e]
 exact zpa (ziR (V5 (h.val xs hx)).1) fun y hy=>by
  obtain ⟨t,h1,h2⟩:=h.mem xs hx y hy
  exact List.mem_map.2 ⟨t,h1,h2⟩
theorem Kn.sm {m:Nat}{r:Rd}{told:List Nt}(h:Kn m r told)(ht:told.length≤1000)(hq:r.qs.length≤3000):SmR r:=
 ⟨by rw [h.len];exact h.m0.2,fun xs hx=>Nat.le_trans (h.few hx) ht,hq,fun p hp=>by
  obtain ⟨t,h1,h2⟩:=(h.pk p hp).data
  rw [h2];exact (h.tok t h1).2.2,by rw [h.ks];exact Nat.zero_le _⟩
structure KS (I:Qv)(m k:Nat)(r:Rd)(ts:List Nt):Prop where
 kn:Kn m r ts
 nd:∀ t∈ts,Nd I t.pt
 tl:ts.length≤k
 ql:r.qs.length≤14*k
theorem KS.mono {I I':Qv}{m k:Nat}{r:Rd}{ts:List Nt}(h:KS I m k r ts)(hI:HLe I I'):KS I' m k r ts:=⟨h.kn,fun t ht=>(h.nd t ht).mono hI,h.tl,h.ql⟩
theorem KS.zero {I:Qv}{m:Nat}(hm:1≤m∧m≤24):KS I m 0 (zbz m) []:=⟨zfx hm,fun t ht=>(by cases ht),by simp,by simp [zbz]⟩
theorem KS.skip {I:Qv}{m k:Nat}{r:Rd}{ts:List Nt}(h:KS I m k r ts):KS I m (k+1) r ts:=⟨h.kn,h.nd,by have:=h.tl;omega,by have:=h.ql;omega⟩
theorem KS.sm {I:Qv}{m k:Nat}{r:Rd}{ts:List Nt}(h:KS I m k r ts)(hk:k≤100):SmR r:=h.kn.sm (by have:=h.tl;omega) (by have:=h.ql;omega)
theorem KS.le {I:Qv}{m k k':Nat}{r:Rd}{ts:List Nt}(h:KS I m k r ts)(hk:k≤k'):KS I m k' r ts:=⟨h.kn,h.nd,by have:=h.tl;omega,by have:=h.ql;omega⟩
theorem zle {c:Nat}:∀ (l:List Nat) (a:Nat),a≤c→(∀ b∈l,b≤c)→l.foldl max a≤c
 | [],_,h,_=>h
 | b::l,a,h,hl=>by
  rw [List.foldl_cons]
  exact zle l _ (by have:=hl b (List.mem_cons_self ..);omega) fun x hx=>hl x (List.mem_cons_of_mem _ hx)
def zck (x:Ev)(ts:List Nt):List Nt:=if x.kind=1 then ts++[x.note] else ts
theorem zeW {x:Ev}{ts:List Nt}(h:x.kind=1):zck x ts=ts++[x.note]:=if_pos h
theorem zrW {x:Ev}{ts:List Nt}(h:¬x.kind=1):zck x ts=ts:=if_neg h
theorem zvI {I:Qv}{x:Ev}(hE:EvM I x)(h:Q7 (Z2 x.note)=true):TkN x.note:=by
 have hl:x.note.pt.needs.length=x.note.pt.n:=hE.nd.len
 obtain ⟨h1,h2⟩:=zc0 hE.w hl (by rw [←hE.form];exact h)
 exact ⟨h1,h,h2⟩
theorem KS.step {I:Qv}{m k:Nat}{r r':Rd}{ts:List Nt}{x:Ev}(h:KS I m k r ts)(hk:k<14)(hm4:m≤14)(hE:EvM I x)(hd:doF r (Yx x)=(0,r')):KS I m (k+1) r' (zck x ts)∧Grow r.ps r'.ps:=by
 have hq:=h.ql;have ht:=h.tl;have hm:=h.kn.m0
 obtain ⟨h1,h2,h3⟩:=h.kn.step (by omega) (fun _ hf=>zvI hE hf) hd
 have h4:(r.ps.map List.length).foldl max 0≤14:=zle _ _ (by omega) fun b hb=>by
  obtain ⟨xs,hx,rfl⟩:=List.mem_map.1 hb
  have:=h.kn.few hx
  omega
 refine ⟨⟨h1,fun t ht2=>?_,?_,by omega⟩,h2⟩
 ·
  unfold zck at ht2
  split at ht2
  ·
   rcases List.mem_append.1 ht2 with ht2 | ht2
   ·
    exact h.nd t ht2
   ·
    rw [List.mem_singleton.1 ht2];exact hE.nd
  ·
   exact h.nd t ht2
 ·
  unfold zck
  split
  ·
   simp;omega
  ·
   omega
/-! ### The peers' notes as they lie in memory -/
section
variable {I:Qv} {pa qa aa:Option Addr} {pn pc qn qc an ac m k:Nat} {ps:List Pe} {qs:List Pk} {ks:List (Int×Int)} {r:Rd} {ts:List Nt}
theorem WN (e:Vr ps qs ks=r){pe:Pe}{i:Nat}(hp:ps[i]? =some pe):r.ps[i]? =some (pe.notes.map Z2):=by
 subst e;simp [Vr,dtP,hp]
theorem znM {x:Nt}(hN:Nd I x.pt)(hf:Q7 (Z2 x)=true):x.pt.n≤100000:=by
 have hl:x.pt.needs.length=x.pt.n:=hN.len
 have:=(W0 hl (by rw [←Jd hl.symm];exact hf)).1
 omega
end
structure EvS (I:Qv)(av:Option Addr)(n c:Nat)(xs:List Ev):Prop where
 sl:Sl I 49 zav av n c xs
 m:∀ x∈xs,EvM I x
theorem EvS.mono {I I':Qv}{av:Option Addr}{n c:Nat}{xs:List Ev}(h:EvS I av n c xs)(hI:HLe I I'):EvS I' av n c xs:=⟨h.sl.mono hI,fun x hx=>(h.m x hx).mono hI⟩
theorem zcd (n:Int):(n != n)=false:=by simp
theorem zsD {rm:Int}(h:0≤rm∧rm≤255):∃ M:Nat,1+rm.tmod 4=(M:Int)∧1≤M∧M≤4:=by
 have e:rm.tmod 4=rm % 4:=Int.tmod_eq_emod_of_nonneg h.1
 rw [e]
 exact ⟨(1+rm % 4).toNat,by omega,by omega,by omega⟩
end
section
open Go Go.Kn Go.Proofs
theorem zsT:Fun Tryz.prog 10:=.of Tryz.func10 (by kernel_rfl) (by kernel_rfl)
theorem zjd:SlT Tryz.prog 79 47 49:=.of (by kernel_rfl)
theorem zsF:SzT Tryz.prog 47 49:=.of (by kernel_rfl)
theorem zvF:Vf Tryz.prog 47 (.agg #[(.int .i64 0),(.int .i64 0),(.int .i64 0),(.int .i64 0),(.int .i64 0),(.int .i64 0),(.int .i64 0),(.int .i64 0),(.int .i64 0),(.int .i64 0),(.int .i64 0),(.int .i64 0),(.int .i64 0),(.int .i64 0),(.int .i64 0),(.int .i64 0),(.int .i64 0),(.int .i64 0),(.int .i64 0),(.int .i64 0),(.int .i64 0),(.int .i64 0),(.int .i64 0),(.int .i64 0),(.int .i64 0),(.int .i64 0),(.int .i64 0),(.int .i64 0),(.int .i64 0),(.int .i64 0),(.int .i64 0),(.int .i64 0),(.slice none 0 0),(.int .i64 0),(.int .i64 0),(.int .i64 0),(.int .i64 0),(.int .i64 0),(.int .i64 0),(.int .i64 0),(.int .i64 0),(.int .i64 0),(.int .i64 0),(.int .i64 0),(.string ⟨#[]⟩),(.string ⟨#[]⟩),(.int .i64 0),(.int .i64 0),(.int .i64 0)]):=.of (by kernel_rfl)
theorem zuy (I:Qv){m:Nat}(hm:1≤m∧m≤24):Vi Tryz.prog 14 [.int .i64 m] I [] (fun v I' L'=>L'=[]∧∃ vr,v= .tuple #[vr,.int .i64 0]∧RmV I' vr (zbz m)):=by
 intro g H w hw
 refine (zlo I m g H w hw).mono ?_
 rintro e w' ⟨v,I',L',h1,h2,h3,rfl,vr,rfl,hV⟩
 have hb:¬(decide ((m:Int)<1)||decide ((m:Int)>24))=true:=by simp;omega
 rw [if_neg hb] at hV
 exact ⟨_,_,_,h1,h2,h3,rfl,vr,by rw [if_neg hb],hV⟩
end
section
open Go Go.Kn Go.Proofs
theorem zeg {xs:List Nt}(h:zb6 xs):xs.Pairwise (fun x y=>YN x y<0):=
 List.pairwise_iff_getElem.2 fun i j hi hj hij=>h i j _ _ hij (List.getElem?_eq_getElem hi) (List.getElem?_eq_getElem hj)
theorem zon {xs:List Nt}(h:xs.Pairwise (fun x y=>YN x y<0)):zb6 xs:=fun i j x y hij hx hy=>by
 obtain ⟨hi,rfl⟩:=List.getElem?_eq_some_iff.1 hx
 obtain ⟨hj,rfl⟩:=List.getElem?_eq_some_iff.1 hy
 exact List.pairwise_iff_getElem.1 h i j hi hj hij
theorem zn9:∀ {xs ys:List Nt},xs.Pairwise (fun x y=>YN x y<0)→ys.Pairwise (fun x y=>YN x y<0)→(∀ y,y∈xs↔y∈ys)→xs=ys
 | [],[],_,_,_=>rfl
 | [],b::bs,_,_,h=>by have:=(h b).2 (List.mem_cons_self ..);cases this
 | a::al,[],_,_,h=>by have:=(h a).1 (List.mem_cons_self ..);cases this
 | a::al,b::bs,hx,hz,h=>by
  obtain ⟨x1,x2⟩:=List.pairwise_cons.1 hx
  obtain ⟨y1,y2⟩:=List.pairwise_cons.1 hz
  have e:a=b:=by
   rcases List.mem_cons.1 ((h a).1 (List.mem_cons_self ..)) with e | h1
   ·
    exact e
   ·
    rcases List.mem_cons.1 ((h b).2 (List.mem_cons_self ..)) with e | h2
    ·
     exact e.symm
    ·
     have h3:=y1 a h1
     have h4:=x1 b h2
     rw [Ku] at h4
     omega
  subst e
  refine congrArg _ (zn9 x2 y2 fun y=>⟨fun hy=>?_,fun hy=>?_⟩)
  ·
   rcases List.mem_cons.1 ((h y).1 (List.mem_cons_of_mem _ hy)) with rfl | h1
   ·
    have:=x1 y hy;rw [JV] at this;omega
   ·
    exact h1
  ·
   rcases List.mem_cons.1 ((h y).2 (List.mem_cons_of_mem _ hy)) with rfl | h1
   ·
    have:=y1 y hy;rw [JV] at this;omega
   ·
    exact h1
theorem zmc {xs ys:List Nt}(hx:zb6 xs)(hy:zb6 ys)(h:∀ y,y∈xs↔y∈ys):xs=ys:=zn9 (zeg hx) (zeg hy) h
def Can (y:Nt):Prop:=Va.ok (JW y)∧Z2 y=y
theorem zla {t:Nt}(h:TkN t):Can (Z2 t):=⟨by rw [zcD];exact h.1,rfl⟩
theorem ztl {x y:Nt}(hx:Can x)(hy:Can y)(h:YN x y=0):x=y:=by rw [←hx.2,←hy.2];exact zeR hx.1 hy.1 h
theorem zgf {xs ys:List Nt}{t:Nt}(h:zf3 xs t=some ys)(hx:∀ x∈xs,Can x)(ht:Can t)(y:Nt):y∈ys↔y∈xs∨y=t:=by
 unfold zf3 at h
 split at h
 ·
  rename_i hh
  cases h
  refine ⟨fun h=>.inl h,fun h=>?_⟩
  rcases h with h | rfl
  ·
   exact h
  ·
   obtain ⟨z,h1,h2⟩:=zrG hh
   rw [←ztl (hx z h1) ht h2];exact h1
 ·
  split at h
  ·
   cases h
   rw [UZ];exact ⟨fun h=>h.symm,fun h=>h.symm⟩
  ·
   cases h
theorem zpW {xs:List Nt}(t:Nt)(h:xs.length<4096):∃ ys,zf3 xs t=some ys:=by
 unfold zf3
 rw [if_pos h]
 split<;>exact ⟨_,rfl⟩
def Has (r:Rd)(i:Nat)(y:Nt):Prop:=(∃ xs,r.ps[i]? =some xs∧y∈xs)∨∃ p∈r.qs,p.to_=(i:Int)∧okN p.data=some y
theorem Kn.can {m:Nat}{r:Rd}{told:List Nt}(h:Kn m r told){xs:List Nt}(hx:xs∈r.ps):∀ y∈xs,Can y:=fun y hy=>by
 obtain ⟨t,h1,rfl⟩:=h.mem xs hx y hy
 exact zla (h.tok t h1)
section
variable {m:Nat} {r:Rd} {told:List Nt} {x:Ev}
theorem Kn.at (h:Kn m r told)(hq:r.qs.length≤4096){i:Int}(h0:0≤i)(h1:i<(r.qs.length:Int)):∃ p,r.qs[i.toNat]? =some p∧atE r.qs r.ks i=0∧atP r.qs r.ks i=p:=by
 have hx:r.qs[i.toNat]? =some r.qs[i.toNat]:=List.getElem?_eq_getElem (by omega)
 exact ⟨_,hx,zwc (by rw [h.net hq];rfl) (by simp;omega) hx⟩
theorem Kn.dlv (h:Kn m r told)(hq:r.qs.length≤4096)(ht:told.length<4096)(hk:x.kind=3)(h0:0≤x.at_)(h1:x.at_<(r.qs.length:Int)):
  ∃ r',doF r (Yx x)=(0,r')∧r'.qs.length+1=r.qs.length∧∀ i y,Has r' i y↔Has r i y:=by
 obtain ⟨p,hp,ha,hap⟩:=h.at hq h0 h1
 have hpm:=List.mem_of_getElem? hp
 have hg:=h.pk p hpm
 obtain ⟨t,htm,hok⟩:=hg.read h.tok
 have hdl:V8 r.qs r.ks x.at_=p:=by rw [h.ks] at hap ⊢;rw [zcp];exact hap
 have hto:p.to_.toNat<r.ps.length:=by have:=hg.to_;rw [h.len];omega
 have hxs:r.ps[p.to_.toNat]? =some r.ps[p.to_.toNat]:=List.getElem?_eq_getElem hto
 have hxm:=List.mem_of_getElem? hxs
 obtain ⟨ys,hy⟩:=zpW (xs:=r.ps[p.to_.toNat]) (Z2 t) (by have:=h.few hxm;omega)
 have hl:XI r.ps p.to_.toNat (Z2 t)=some (r.ps.set p.to_.toNat ys):=by unfold XI;rw [hxs,Option.bind_some,hy];rfl
 have hiff:=zgf hy (h.can hxm) (zla (h.tok t htm))
 refine ⟨⟨r.ps.set p.to_.toNat ys,r.qs.eraseIdx x.at_.toNat,r.ks⟩,?_,?_,fun i y=>?_⟩
 ·
  rw [K2 (h.chk hq)]
  unfold XJ
  have e1:(Yx x).kind=3:=hk
  rw [if_neg (by rw [e1];decide),if_neg (by rw [e1];decide),if_pos e1]
  unfold zaM
  have e2:(Yx x).at_=x.at_:=rfl
  rw [e2,if_neg (by rw [ha];simp),hdl,if_neg hg.ne,hok,Option.bind_some,hl]
 ·
  show (r.qs.eraseIdx x.at_.toNat).length+1=_
  rw [List.length_eraseIdx,if_pos (by omega)];omega
 ·
  constructor
  ·
   rintro (⟨zs,hz,hyz⟩ | ⟨q,hqm,hqt,hqo⟩)
   ·
    simp only [List.getElem?_set] at hz
    split at hz
    ·
     rename_i e
     simp only [Option.some.injEq] at hz;subst hz
     rcases (hiff y).1 hyz with h2 | rfl
     ·
      exact .inl ⟨_,by rw [←e];exact hxs,h2⟩
     ·
      exact .inr ⟨p,hpm,by have:=hg.to_;omega,hok⟩
    ·
     exact .inl ⟨zs,hz,hyz⟩
   ·
    exact .inr ⟨q,(List.eraseIdx_sublist ..).mem hqm,hqt,hqo⟩
  ·
   rintro (⟨zs,hz,hyz⟩ | ⟨q,hqm,hqt,hqo⟩)
   ·
    by_cases e:p.to_.toNat=i
    ·
     rw [←e,hxs] at hz;cases hz
     exact .inl ⟨ys,by simp only [List.getElem?_set];rw [if_pos e,if_pos hto],(hiff y).2 (.inl hyz)⟩
    ·
     exact .inl ⟨zs,by simp only [List.getElem?_set];rw [if_neg e];exact hz,hyz⟩
   ·
    obtain ⟨j,hj⟩:=List.mem_iff_getElem?.1 hqm
    by_cases e:j=x.at_.toNat
    ·
     subst e
     rw [hp] at hj;cases hj
     rw [hok] at hqo;cases hqo
     have e3:p.to_.toNat=i:=by omega
     exact .inl ⟨ys,by simp only [List.getElem?_set];rw [if_pos e3,if_pos hto],(hiff _).2 (.inr rfl)⟩
    ·
     exact .inr ⟨q,List.mem_eraseIdx_iff_getElem?.2 ⟨j,e,hj⟩,hqt,hqo⟩
theorem Kn.rep (h:Kn m r told)(hq:r.qs.length<4096)(hk:x.kind=5)(h0:0≤x.at_)(h1:x.at_<(r.qs.length:Int)):
  ∃ r',doF r (Yx x)=(0,r')∧r'.qs.length=r.qs.length+1∧∀ i y,Has r' i y↔Has r i y:=by
 obtain ⟨p,hp,ha,hap⟩:=h.at (by omega) h0 h1
 have hpm:=List.mem_of_getElem? hp
 have hg:=h.pk p hpm
 refine ⟨⟨r.ps,r.qs++[p],r.ks⟩,?_,by simp,fun i y=>?_⟩
 ·
  rw [K2 (h.chk (by omega))]
  unfold XJ
  have e1:(Yx x).kind=5:=hk
  rw [if_neg (by rw [e1];decide),if_neg (by rw [e1];decide),if_neg (by rw [e1];decide),if_neg (by rw [e1];decide),if_pos e1]
  unfold zaI
  have e2:(Yx x).at_=x.at_:=rfl
  have e3:UD r.qs r.ks x.at_=0:=by
   unfold UD
   rw [if_pos ha,hap]
   exact zj8 (by rw [h.net (by omega),hg.ok h.m0.2 h.tok];rfl) (by simp;omega)
  rw [e2,if_neg (by rw [e3];simp),hap]
 ·
  unfold Has
  refine ⟨fun h=>h.imp id ?_,fun h=>h.imp id ?_⟩
  ·
   rintro ⟨q,hqm,h2⟩
   rcases List.mem_append.1 hqm with h3 | h3
   ·
    exact ⟨q,h3,h2⟩
   ·
    rw [List.mem_singleton.1 h3] at h2;exact ⟨p,hpm,h2⟩
  ·
   rintro ⟨q,hqm,h2⟩
   exact ⟨q,List.mem_append_left _ hqm,h2⟩
theorem Kn.syn (h:Kn m r told)(hq:r.qs.length≤4096)(hk:x.kind=2){i j:Nat}(hi:x.peer=i)(hj:x.to_=j)(h1:i<m)(h2:j<m)(hne:i≠j){xs:List Nt}(hx:r.ps[i]? =some xs):
  ∃ r',doF r (Yx x)=(0,r')∧r'.ps=r.ps∧r'.qs.length=r.qs.length+xs.length∧∀ k y,Has r' k y↔Has r k y∨(k=j∧y∈xs):=by
 refine ⟨⟨r.ps,r.qs++xs.map (pkN i j),r.ks⟩,?_,rfl,by simp,fun k y=>?_⟩
 ·
  rw [K2 (h.chk hq)]
  unfold XJ
  have e1:(Yx x).kind=2:=hk
  rw [if_neg (by rw [e1];decide),if_pos e1]
  unfold WT
  have e2:(Yx x).peer=i:=hi
  have e3:(Yx x).to_=j:=hj
  rw [e2,e3,if_pos]
  ·
   have e4:r.ps.getD ((i:Int)).toNat []=xs:=by rw [List.getD_eq_getElem?_getD,Int.toNat_natCast,hx];rfl
   rw [e4]
  ·
   have h3:=h.len
   simp only [Bool.and_eq_true,zcA,bne_iff_ne]
   omega
 ·
  have hxm:=List.mem_of_getElem? hx
  unfold Has
  constructor
  ·
   rintro (h3 | ⟨q,hqm,h4,h5⟩)
   ·
    exact .inl (.inl h3)
   ·
    rcases List.mem_append.1 hqm with h3 | h3
    ·
     exact .inl (.inr ⟨q,h3,h4,h5⟩)
    ·
     obtain ⟨z,hz,rfl⟩:=List.mem_map.1 h3
     obtain ⟨t,ht,rfl⟩:=h.mem xs hxm z hz
     have h6:okN (JU (Z2 t))=some (Z2 t):=WS (zot (h.tok t ht))
     have h7:okN (pkN i j (Z2 t)).data=some (Z2 t):=h6
     rw [h7] at h5;cases h5
     have h8:(j:Int)=(k:Int):=h4
     exact .inr ⟨by omega,hz⟩
  ·
   rintro ((h3 | ⟨q,hqm,h4⟩) | ⟨rfl,hy⟩)
   ·
    exact .inl h3
   ·
    exact .inr ⟨q,List.mem_append_left _ hqm,h4⟩
   ·
    obtain ⟨t,ht,e⟩:=h.mem xs hxm y hy
    refine .inr ⟨pkN i k y,List.mem_append_right _ (List.mem_map.2 ⟨y,hy,rfl⟩),rfl,?_⟩
    subst e
    exact WS (zot (h.tok t ht))
end
end
end Go.Proofs.YtjblkbkmblkgoaaGreat
namespace Go.Kn
section
open Go Go.Proofs
theorem Xv:∀ (a b:List UInt8),Op.bytesLess a b=decide (Lib.compareBytes a b<0)
 | [],[]=>rfl
 | [],_::_=>rfl
 | _::_,[]=>rfl
 | x::a,y::b=>by
  unfold Op.bytesLess Lib.compareBytes
  rw [Xv a b]
  by_cases h:x<y
  ·
   simp [h]
  ·
   by_cases h2:y<x
   ·
    have:(x==y)=false:=by
     rw [beq_eq_false_iff_ne];rintro rfl;exact h h2
    simp [h,h2,this]
   ·
    have e:x=y:=UInt8.le_antisymm (UInt8.not_lt.1 h2) (UInt8.not_lt.1 h)
    subst e;simp [h]
section
variable {C:Cx} {E:Env} {I:Qv} {loc:Loc} {S:GS} {dst:Option Tmp} {pos:String} {af:Array Edge} {gd:Option (Nat×Bool)} {x y:Operand}
theorem U3 {t t' ty:TypeId}{s1 s2:ByteArray}(hx:QH S E x=some (.string s1))(hy:QH S E y=some (.string s2)):Zb C S E I loc ⟨dst,.binOp .lss t x y t',ty,pos,af,gd⟩ (.bool (decide (Lib.compareBytes s1.data.toList s2.data.toList<0))):=
 .of (by intro c e;cases e) fun a w ha hg hc _=>by
  have e1:∀ op x y t (a b:ByteArray),(eqGuard op t x y (.string a) (.string b)).run C.P w= .ok () w:=by intros;unfold eqGuard;rename_i op _ _ _ _ _;cases op<;>rfl
  have e3:decide (Lib.compareBytes s1.data.toList s2.data.toList<0)=Op.bytesLess s1.toList s2.toList:=by rw [ByteArray.toList_eq,ByteArray.toList_eq,Xv]
  rw [e3]
  simp only [execOp,Qj ha hg hc hx,Qj ha hg hc hy,Sem.run_bind,e1,Result.andThen]
  rfl
end
end
end Go.Kn
namespace Go.Proofs.YtjblkbkmblkgoaaGreat
section
open Go Go.Kn Go.Proofs
def U1:List Nt→Nt→Nat
 | [],_=>0
 | x::xs,t=>if YN x t<0 then U1 xs t+1 else 0
theorem zb9:∀ (xs:List Nt) (t:Nt),U1 xs t≤xs.length
 | [],_=>Nat.le_refl _
 | x::xs,t=>by
  unfold U1
  have:=zb9 xs t
  split<;>simp<;>omega
theorem zeO:∀ {xs:List Nt} {t:Nt} {j:Nat} {x:Nt},j<U1 xs t→xs[j]? =some x→YN x t<0
 | [],_,_,_,h,_=>absurd h (Nat.not_lt_zero _)
 | x::xs,t,j,y,h,hy=>by
  unfold U1 at h
  split at h
  ·
   rename_i hx
   cases j with
   | zero=>simp at hy;subst hy;exact hx
   | succ j=>exact zeO (xs:=xs) (j:=j) (by omega) (by simpa using hy)
  ·
   omega
theorem zeX:∀ {xs:List Nt} {t:Nt} {x:Nt},xs[U1 xs t]? =some x→¬YN x t<0
 | [],_,_,h=>by simp [U1] at h
 | x::xs,t,y,h=>by
  unfold U1 at h
  split at h
  ·
   rename_i hx
   exact zeX (xs:=xs) (by simpa using h)
  ·
   rename_i hx
   simp at h;subst h;exact hx
theorem zku {xs:List Nt}{t:Nt}{k:Nat}(h:∀ (j:Nat) (x:Nt),j<k→xs[j]? =some x→YN x t<0)(hk:k≤xs.length)(hn:∀ x,xs[k]? =some x→¬YN x t<0):U1 xs t=k:=by
 rcases Nat.lt_trichotomy (U1 xs t) k with h1 | h1 | h1
 ·
  have h2:xs[U1 xs t]? =some xs[U1 xs t]:=List.getElem?_eq_getElem (by omega)
  exact absurd (h _ _ h1 h2) (zeX h2)
 ·
  exact h1
 ·
  have hl:k<xs.length:=by have:=zb9 xs t;omega
  have h2:xs[k]? =some xs[k]:=List.getElem?_eq_getElem hl
  exact absurd (zeO h1 h2) (hn _ h2)
def zes (xs:List Nt)(t:Nt):Bool:=match xs[U1 xs t]? with | some x=>smN x t | none=>false
def zkm (xs:List Nt)(t:Nt):List Nt:=if zes xs t=true then xs else xs.take (U1 xs t)++t::xs.drop (U1 xs t)
theorem zaD {xs:List Nt}{t x:Nt}(h:xs[U1 xs t]? =some x):zes xs t=smN x t:=by unfold zes;rw [h]
theorem zk2 {xs:List Nt}{t:Nt}(h:xs.length≤U1 xs t):zes xs t=false:=by unfold zes;rw [List.getElem?_eq_none h]
theorem zb8 {xs:List Nt}{t:Nt}(h:zes xs t=true):zkm xs t=xs:=if_pos h
theorem zde {xs:List Nt}{t:Nt}(h:zes xs t=false):zkm xs t=xs.take (U1 xs t)++t::xs.drop (U1 xs t):=if_neg (by rw [h];simp)
theorem zqg {xs:List Nt}{t x:Nt}{k:Nat}(h:∀ (j:Nat) (x:Nt),j<k→xs[j]? =some x→YN x t<0)(hx:xs[k]? =some x)(hl:YN x t<0):∀ (j:Nat) (x:Nt),j<k+1→xs[j]? =some x→YN x t<0:=fun j y hj hy=>by
 rcases Nat.lt_succ_iff_lt_or_eq.1 hj with h1 | rfl
 ·
  exact h j y h1 hy
 ·
  rw [hx] at hy;cases hy;exact hl
theorem znm {xs:List Nt}{t:Nt}(h:zb6 xs)(hd:zes xs t=false)(hc:∀ x,xs[U1 xs t]? =some x→smN x t=false→YN x t≠0):zb6 (zkm xs t):=by
 rw [zde hd]
 have hle:=zb9 xs t
 have hgt:∀ (j:Nat) (x:Nt),U1 xs t≤j→xs[j]? =some x→YN t x<0:=fun j x hj hx=>by
  have hl:=(List.getElem?_eq_some_iff.1 hx).1
  have h2:xs[U1 xs t]? =some xs[U1 xs t]:=List.getElem?_eq_getElem (by omega)
  have h3:=zeX h2
  have h4:=hc _ h2 (by rw [←zaD h2];exact hd)
  have h5:YN t xs[U1 xs t]<0:=by rw [Ku];omega
  rcases Nat.eq_or_lt_of_le hj with rfl | h6
  ·
   rw [h2] at hx;cases hx;exact h5
  ·
   exact Vx h5 (h _ _ _ _ h6 h2 hx)
 refine zon (List.pairwise_append.2 ⟨(zeg h).sublist (List.take_sublist ..),List.pairwise_cons.2 ⟨fun y hy=>?_,(zeg h).sublist (List.drop_sublist ..)⟩,fun x hx y hy=>?_⟩)
 ·
  obtain ⟨j,hj⟩:=List.mem_iff_getElem?.1 hy
  rw [List.getElem?_drop] at hj
  exact hgt _ _ (by omega) hj
 ·
  obtain ⟨i,hi⟩:=List.mem_iff_getElem?.1 hx
  have hil:=(List.getElem?_eq_some_iff.1 hi).1
  rw [List.length_take] at hil
  rw [List.getElem?_take_of_lt (by omega)] at hi
  have h7:=zeO (t:=t) (by omega) hi
  rcases List.mem_cons.1 hy with rfl | hy
  ·
   exact h7
  ·
   obtain ⟨j,hj⟩:=List.mem_iff_getElem?.1 hy
   rw [List.getElem?_drop] at hj
   exact Vx h7 (hgt _ _ (by omega) hj)
theorem XL {xs:List Nt}{t y:Nt}(hd:zes xs t=false):y∈zkm xs t↔y=t∨y∈xs:=by
 rw [zde hd,List.mem_append,List.mem_cons]
 have e:y∈xs↔y∈xs.take (U1 xs t)∨y∈xs.drop (U1 xs t):=by rw [←List.mem_append,List.take_append_drop]
 rw [e]
 constructor
 ·
  rintro (h | h | h)
  ·
   exact .inr (.inl h)
  ·
   exact .inl h
  ·
   exact .inr (.inr h)
 ·
  rintro (h | h | h)
  ·
   exact .inr (.inl h)
  ·
   exact .inl h
  ·
   exact .inr (.inr h)
theorem zm2 (xs:List Nt)(t:Nt):(zkm xs t).length≤xs.length+1:=by
 unfold zkm
 have:=zb9 xs t
 split
 ·
  omega
 ·
  simp;omega
theorem zcW {xs:List Nt}{t:Nt}{p:Nt→Prop}(h:∀ x∈xs,p x)(ht:p t):∀ x∈zkm xs t,p x:=fun x hx=>by
 cases hd:zes xs t with
 | true=>rw [zb8 hd] at hx;exact h x hx
 | false=>
  rcases (XL hd).1 hx with rfl | hx
  ·
   exact ht
  ·
   exact h x hx
theorem zcr {I:Qv}{av a:Option Addr}{n c m c2 k:Nat}{xs:List Nt}{t:Nt}(hP:K9 I av n c xs)(hT:NtM I t)(hR:Sl I 45 Zn a m c2 (xs.take k++t::xs.drop k))(hk:U1 xs t=k)(hh:zes xs t=false):K9 I a m c2 (zkm xs t):=
 ⟨by rw [zde hh,hk];exact hR,zcW (p:=fun x=>Nd I x.pt) hP.nd hT.nd,zcW (p:=fun x=>Q7 x=true→NtM I x) hP.m fun _=>hT⟩
end
section
open Go Go.Kn Go.Proofs
theorem zvj:Fun Tryz.prog 88:=.of Tryz.func88 (by kernel_rfl) (by kernel_rfl)
theorem zn3 {I:Qv}(x y:Nt)(hX:NtM I x)(hY:NtM I y):Vi Tryz.prog 88 [JK x,JK y] I [] (fun v I' L'=>L'=[]∧v= .bool (decide (YN x y<0))):=by
 intro g H w hw
 refine qe Tryz.func88 Tryz.ntmps88 hw ?_
 have hIc:=zxd I
 refine zR ?_
 refine Zh rfl rfl rfl (fun b_2=>?_)
 refine Zh rfl rfl rfl (fun b_3=>?_)
 refine zA (Qb ?_)
 refine QO .here (fun I1 hI1 hb1=>?_)
 have hX:=hX.mono hI1;have hY:=hY.mono hI1;have hIc:=hIc.trans hI1
 have h3:=BxI.of hb1
 refine QO .here (fun I2 hI2 hb2=>?_)
 have hX:=hX.mono hI2;have hY:=hY.mono hI2;have h3:=h3.mono hI2;have hIc:=hIc.trans hI2
 have h2:=BxI.of hb2
 refine Qc (Qq ?_)
 have hD:=zxd I2
 refine ZL ?_
 refine Q0 I2 [] mixed ?_
 refine zT 0 rfl (Qg rfl Zr (fun hg=>by exact BxI.cells (vs:=Zn x) h2) rfl) hD ?_
 refine Q8 1 3 rfl rfl (by kernel_rfl) ?_ ?_
 ·
  refine QE (cap:=[]) (vs:=[_]) rfl rfl Xx .nil (XB x hX.nd hX.nn hX.ok hX.len) rfl rfl ?_
  rintro vv3 I3 L3 hI3 ⟨rfl,a1,c1,rfl,hS1⟩
  have hY:=hY.mono hI3;have h3:=h3.mono hI3;have hIc:=hIc.trans hI3;have hD:=hD.trans hI3
  refine Qb ?_
  refine zD hD ?_
  refine Q8 2 3 rfl rfl (by kernel_rfl) ?_ ?_
  ·
   refine zV (ZM rfl bst (fun hg=>hS1)) ?_
   refine Qb ?_
   refine zD hD ?_
   refine qd 3 rfl ?_
   refine zV (Qg rfl Zr (fun hg=>by exact BxI.cells (vs:=Zn y) h3) rfl) ?_
   refine Qb ?_
   refine zD hD ?_
   refine qd 4 rfl ?_
   refine QE (cap:=[]) (vs:=[_]) rfl rfl Xx .nil (XB y hY.nd hY.nn hY.ok hY.len) rfl rfl ?_
   rintro vv4 I4 L4 hI4 ⟨rfl,a2,c2,rfl,hS2⟩
   have hIc:=hIc.trans hI4;have hD:=hD.trans hI4
   refine Qb ?_
   refine zD hD ?_
   refine qd 5 rfl ?_
   refine zV (ZM rfl bst (fun hg=>hS2)) ?_
   refine Qb ?_
   refine zD hD ?_
   refine zT 6 rfl (U3 rfl rfl) hD ?_
   refine zT 7 rfl (QC rfl) hD ?_
   refine Qm (by kernel_rfl) ?_
   refine Qy ?_
   refine Qc (QF ?_)
   exact QP rfl rfl (fun w hw=>⟨_,I4,[],rfl,hIc,hw.subL Qe,rfl,rfl⟩)
  refine zV (Qg rfl Zr (fun hg=>by exact BxI.cells (vs:=Zn y) h3) rfl) ?_
  refine Qb ?_
  refine zD hD ?_
  refine Q8 2 4 rfl rfl (by kernel_rfl) ?_ ?_
  ·
   refine zV (ZM rfl bst (fun hg=>hS1)) ?_
   refine Qb ?_
   refine zD hD ?_
   refine qd 4 rfl ?_
   refine QE (cap:=[]) (vs:=[_]) rfl rfl Xx .nil (XB y hY.nd hY.nn hY.ok hY.len) rfl rfl ?_
   rintro vv5 I5 L5 hI5 ⟨rfl,a2,c2,rfl,hS2⟩
   have hIc:=hIc.trans hI5;have hD:=hD.trans hI5
   refine Qb ?_
   refine zD hD ?_
   refine qd 5 rfl ?_
   refine zV (ZM rfl bst (fun hg=>hS2)) ?_
   refine Qb ?_
   refine zD hD ?_
   refine zT 6 rfl (U3 rfl rfl) hD ?_
   refine zT 7 rfl (QC rfl) hD ?_
   refine Qm (by kernel_rfl) ?_
   refine Qy ?_
   refine Qc (QF ?_)
   exact QP rfl rfl (fun w hw=>⟨_,I5,[],rfl,hIc,hw.subL Qe,rfl,rfl⟩)
  refine QE (cap:=[]) (vs:=[_]) rfl rfl Xx .nil (XB y hY.nd hY.nn hY.ok hY.len) rfl rfl ?_
  rintro vv6 I6 L6 hI6 ⟨rfl,a2,c2,rfl,hS2⟩
  have hS1:=hS1.mono hI6;have hIc:=hIc.trans hI6;have hD:=hD.trans hI6
  refine Qb ?_
  refine zD hD ?_
  refine Q8 2 5 rfl rfl (by kernel_rfl) ?_ ?_
  ·
   refine zV (ZM rfl bst (fun hg=>hS1)) ?_
   refine Qb ?_
   refine zD hD ?_
   refine qd 5 rfl ?_
   refine zV (ZM rfl bst (fun hg=>hS2)) ?_
   refine Qb ?_
   refine zD hD ?_
   refine zT 6 rfl (U3 rfl rfl) hD ?_
   refine zT 7 rfl (QC rfl) hD ?_
   refine Qm (by kernel_rfl) ?_
   refine Qy ?_
   refine Qc (QF ?_)
   exact QP rfl rfl (fun w hw=>⟨_,I6,[],rfl,hIc,hw.subL Qe,rfl,rfl⟩)
  refine zV (ZM rfl bst (fun hg=>hS2)) ?_
  refine Qb ?_
  refine zD hD ?_
  refine qd 2 rfl ?_
  refine zV (ZM rfl bst (fun hg=>hS1)) ?_
  refine Qb ?_
  refine zD hD ?_
  refine zT 6 rfl (U3 rfl rfl) hD ?_
  refine zT 7 rfl (QC rfl) hD ?_
  refine Qm (by kernel_rfl) ?_
  refine Qy ?_
  refine Qc (QF ?_)
  exact QP rfl rfl (fun w hw=>⟨_,I6,[],rfl,hIc,hw.subL Qe,rfl,rfl⟩)
 refine zV (Qg rfl Zr (fun hg=>by exact BxI.cells (vs:=Zn y) h3) rfl) ?_
 refine Qb ?_
 refine zD hD ?_
 refine qd 1 rfl ?_
 refine QE (cap:=[]) (vs:=[_]) rfl rfl Xx .nil (XB x hX.nd hX.nn hX.ok hX.len) rfl rfl ?_
 rintro vv7 I7 L7 hI7 ⟨rfl,a1,c1,rfl,hS1⟩
 have hY:=hY.mono hI7;have hIc:=hIc.trans hI7;have hD:=hD.trans hI7
 refine Qb ?_
 refine zD hD ?_
 refine Q8 2 4 rfl rfl (by kernel_rfl) ?_ ?_
 ·
  refine zV (ZM rfl bst (fun hg=>hS1)) ?_
  refine Qb ?_
  refine zD hD ?_
  refine qd 4 rfl ?_
  refine QE (cap:=[]) (vs:=[_]) rfl rfl Xx .nil (XB y hY.nd hY.nn hY.ok hY.len) rfl rfl ?_
  rintro vv8 I8 L8 hI8 ⟨rfl,a2,c2,rfl,hS2⟩
  have hIc:=hIc.trans hI8;have hD:=hD.trans hI8
  refine Qb ?_
  refine zD hD ?_
  refine qd 5 rfl ?_
  refine zV (ZM rfl bst (fun hg=>hS2)) ?_
  refine Qb ?_
  refine zD hD ?_
  refine zT 6 rfl (U3 rfl rfl) hD ?_
  refine zT 7 rfl (QC rfl) hD ?_
  refine Qm (by kernel_rfl) ?_
  refine Qy ?_
  refine Qc (QF ?_)
  exact QP rfl rfl (fun w hw=>⟨_,I8,[],rfl,hIc,hw.subL Qe,rfl,rfl⟩)
 refine QE (cap:=[]) (vs:=[_]) rfl rfl Xx .nil (XB y hY.nd hY.nn hY.ok hY.len) rfl rfl ?_
 rintro vv9 I9 L9 hI9 ⟨rfl,a2,c2,rfl,hS2⟩
 have hS1:=hS1.mono hI9;have hIc:=hIc.trans hI9;have hD:=hD.trans hI9
 refine Qb ?_
 refine zD hD ?_
 refine Q8 2 5 rfl rfl (by kernel_rfl) ?_ ?_
 ·
  refine zV (ZM rfl bst (fun hg=>hS1)) ?_
  refine Qb ?_
  refine zD hD ?_
  refine qd 5 rfl ?_
  refine zV (ZM rfl bst (fun hg=>hS2)) ?_
  refine Qb ?_
  refine zD hD ?_
  refine zT 6 rfl (U3 rfl rfl) hD ?_
  refine zT 7 rfl (QC rfl) hD ?_
  refine Qm (by kernel_rfl) ?_
  refine Qy ?_
  refine Qc (QF ?_)
  exact QP rfl rfl (fun w hw=>⟨_,I9,[],rfl,hIc,hw.subL Qe,rfl,rfl⟩)
 refine zV (ZM rfl bst (fun hg=>hS2)) ?_
 refine Qb ?_
 refine zD hD ?_
 refine qd 2 rfl ?_
 refine zV (ZM rfl bst (fun hg=>hS1)) ?_
 refine Qb ?_
 refine zD hD ?_
 refine zT 6 rfl (U3 rfl rfl) hD ?_
 refine zT 7 rfl (QC rfl) hD ?_
 refine Qm (by kernel_rfl) ?_
 refine Qy ?_
 refine Qc (QF ?_)
 exact QP rfl rfl (fun w hw=>⟨_,I9,[],rfl,hIc,hw.subL Qe,rfl,rfl⟩)
theorem znL {I:Qv}{av:Option Addr}{n c:Nat}{xs:List Nt}{t:Nt}(hP:K9 I av n c xs)(hM:∀ x∈xs,NtM I x)(hT:NtM I t)(hn:n<4096):Vi Tryz.prog 84 [.slice av n c,JK t] I [] (fun v I' L'=>L'=[]∧∃ a m c,v= .tuple #[.slice a m c,.int .i64 0]∧K9 I' a m c (zkm xs t)):=by
 intro g H w hw
 refine qe Tryz.func84 Tryz.ntmps84 hw ?_
 have hIc:=zxd I
 have hln:=hP.sl.len
 have hcap:=hP.sl.cap
 refine zR ?_
 refine Zh rfl rfl rfl (fun b_3=>?_)
 refine zA ?_
 refine zA (Qb ?_)
 refine QO .here (fun I1 hI1 hb1=>?_)
 have hP:=hP.mono hI1;have hT:=hT.mono hI1;have hIc:=hIc.trans hI1
 have h3:=BxI.of hb1
 refine Qc (zR (zA (zN ?_)))
 refine zY [(0,_),(3,_)] (fun T L0 E I' loc'=>∃ (k:Nat),E=(6,.int .i64 k)::T∧HLe I1 I'∧L0=loc'∧U1 xs t=k∧k≤n) ?_ ?_
 ·
  have hK0:=zxd I1
  refine QD ?_
  refine zU [(0,_),(3,_)] (fun T L0 mz E I' loc'=>∃ (k:Nat),mz=n-k∧E=(6,.int .i64 k)::T∧HLe I1 I'∧L0=loc'∧k≤n∧(∀ (j:Nat) (x:Nt),j<k→xs[j]? =some x→YN x t<0)) ?_ (h:=⟨0,rfl,rfl,zxd _,rfl,Nat.zero_le _,fun j x h=>absurd h (Nat.not_lt_zero _)⟩)
  rintro mz E J2 loc' ⟨k,rfl,rfl,hJ,rfl,hk,hall⟩
  have hP:=hP.mono hJ;have hT:=hT.mono hJ;have h3:=h3.mono hJ;have hIc:=hIc.trans hJ;have hK0:=hK0.trans hJ
  have hB0:=hJ
  refine Qq (Qq ?_)
  rcases Nat.lt_or_ge k n with hkn | hkn
  ·
   obtain ⟨x,hx⟩:∃ y,xs[k]? =some y:=⟨_,List.getElem?_eq_getElem (by omega)⟩
   have hxm:=List.mem_of_getElem? hx
   have hD:=zxd J2
   refine ZL ?_
   refine Q0 J2 [] mixed ?_
   refine zT 0 rfl (Qh rfl) hD ?_
   refine zT 1 rfl (Qh rfl) hD ?_
   refine zT 2 rfl (Q9 rfl Zu) hD ?_
   refine zT 3 rfl (QT rfl rfl rfl) hD ?_
   rw [show decide (((k:Nat):Int)<((n:Nat):Int))=true by simp;omega]
   refine zT 4 rfl (Qh rfl) hD ?_
   refine zw 5 11 rfl (Qh rfl) hD ?_
   refine zw 6 11 rfl (Qh rfl) hD ?_
   refine zw 7 11 rfl (QV rfl rfl Zu hP.sl (fun hg=>by omega)) hD ?_
   refine zw 8 11 rfl (Qg rfl Zr (fun hg=>by exact zxe hP.sl hx) rfl) hD ?_
   refine zw 9 11 rfl (Qg rfl Zr (fun hg=>by exact BxI.cells (vs:=Zn t) h3) rfl) hD ?_
   refine qd 10 rfl ?_
   refine Q6 (dj:=11) rfl rfl rfl ?_
   refine QE (cap:=[]) (vs:=[_,_]) rfl rfl zvj .nil (zn3 x t ((hM x hxm).mono hIc) hT) rfl rfl ?_
   rintro vv3 I3 L3 hI3 ⟨rfl,rfl⟩
   have hK0:=hK0.trans hI3;have hB0:=hB0.trans hI3;have hD:=hD.trans hI3
   refine Qb ?_
   refine zD hD ?_
   refine zT 11 rfl (Zv rfl rfl rfl) hD ?_
   refine Qm (by kernel_rfl) ?_
   refine Qy ?_
   refine Qc ?_
   refine zI ?_ ?_<;>intro hc18
   ·
    have hbt:YN x t<0:=by simpa using hc18
    refine Qw (Qc (QD (Qk (zM ?_))))
    refine zB ?_
    refine zA (Qb (Qn ?_))
    exact zm (h:=⟨n-(k+1),by omega,k+1,rfl,rfl,hB0,rfl,by omega,zqg hall hx hbt⟩)
   have hkp:U1 xs t=k:=zku hall (by omega) (fun y hy=>by rw [hx] at hy;cases hy;simpa using hc18)
   refine Zy (Qs (Qs (QB ?_)))
   exact zm (h:=⟨_,rfl,hK0,rfl,hkp,hk⟩)
  have hD:=zxd J2
  refine ZL ?_
  refine Q0 J2 [] mixed ?_
  refine zT 0 rfl (Qh rfl) hD ?_
  refine zT 1 rfl (Qh rfl) hD ?_
  refine zT 2 rfl (Q9 rfl Zu) hD ?_
  refine zT 3 rfl (QT rfl rfl rfl) hD ?_
  rw [show decide (((k:Nat):Int)<((n:Nat):Int))=false by simp;omega]
  refine zT 4 rfl (Qh rfl) hD ?_
  refine zW 5 11 hD ?_
  refine zW 6 11 hD ?_
  refine zW 7 11 hD ?_
  refine zW 8 11 hD ?_
  refine zW 9 11 hD ?_
  refine zW 10 11 hD ?_
  refine zT 11 rfl (Kl rfl rfl rfl) hD ?_
  refine Qm (by kernel_rfl) ?_
  refine Qy ?_
  refine Qc ?_
  refine zI ?_ ?_<;>intro hc18
  ·
   cases hc18
  have hkp:U1 xs t=k:=zku hall (by omega) (fun y hy=>by have h:=(List.getElem?_eq_some_iff.1 hy).1;omega)
  refine Zy (Qs (Qs (QB ?_)))
  exact zm (h:=⟨_,rfl,hK0,rfl,hkp,hk⟩)
 rintro E J4 loc' ⟨k,rfl,hJ5,rfl,hkp,hk⟩
 have hP:=hP.mono hJ5;have hT:=hT.mono hJ5;have h3:=h3.mono hJ5;have hIc:=hIc.trans hJ5
 refine zY [(0,_),(3,_),(6,_)] (fun T L0 E I' loc'=>E=T∧HLe J4 I'∧L0=loc'∧zes xs t=false) ?_ ?_
 ·
  have hKc4:=zxd J4
  refine Qq ?_
  rcases Nat.lt_or_ge k n with hkn | hkn
  ·
   obtain ⟨x,hx⟩:∃ y,xs[k]? =some y:=⟨_,List.getElem?_eq_getElem (by omega)⟩
   have hxm:=List.mem_of_getElem? hx
   have hD:=zxd J4
   refine Xc mixed ?_
   refine zT 0 rfl (Qh rfl) hD ?_
   refine zT 1 rfl (Qh rfl) hD ?_
   refine zT 2 rfl (Q9 rfl Zu) hD ?_
   refine zT 3 rfl (QT rfl rfl rfl) hD ?_
   rw [show decide (((k:Nat):Int)<((n:Nat):Int))=true by simp;omega]
   refine zT 4 rfl (Qh rfl) hD ?_
   refine zw 5 25 rfl (Qh rfl) hD ?_
   refine zw 6 25 rfl (Qh rfl) hD ?_
   refine zw 7 25 rfl (QV rfl rfl Zu hP.sl (fun hg=>by omega)) hD ?_
   refine zw 8 25 rfl (Qg rfl Zr (fun hg=>by exact zxe hP.sl hx) rfl) hD ?_
   refine zw 9 25 rfl (Qg rfl Zr (fun hg=>by exact BxI.cells (vs:=Zn t) h3) rfl) hD ?_
   refine qd 10 rfl ?_
   refine Q6 (dj:=25) rfl rfl rfl ?_
   refine qcV (vs:=[_,_]) rfl zoP (zud (hP.nd x hxm) hT.nd (hM x hxm).nn) ?_
   refine Qb ?_
   refine zD hD ?_
   refine zT 11 rfl (Zv rfl rfl rfl) hD ?_
   refine Qm (by kernel_rfl) ?_
   refine Qy ?_
   refine Qc ?_
   refine zI ?_ ?_<;>intro hc32
   ·
    have hh:zes xs t=true:=by rw [zaD (by rw [hkp];exact hx)];exact hc32
    refine zR (zM ?_)
    refine zA ?_
    refine zA (zN (QF (Qi ?_)))
    exact Vs rfl rfl rfl (fun w hw=>⟨_,J4,[],rfl,hIc,hw.subL Qe,rfl,_,_,_,rfl,by rw [zb8 hh];exact hP⟩)
   have hh:zes xs t=false:=by rw [zaD (by rw [hkp];exact hx)];simpa using hc32
   refine Qw ?_
   exact zm (h:=⟨rfl,hKc4,rfl,hh⟩)
  have hD:=zxd J4
  refine Xc mixed ?_
  refine zT 0 rfl (Qh rfl) hD ?_
  refine zT 1 rfl (Qh rfl) hD ?_
  refine zT 2 rfl (Q9 rfl Zu) hD ?_
  refine zT 3 rfl (QT rfl rfl rfl) hD ?_
  rw [show decide (((k:Nat):Int)<((n:Nat):Int))=false by simp;omega]
  refine zT 4 rfl (Qh rfl) hD ?_
  refine zW 5 25 hD ?_
  refine zW 6 25 hD ?_
  refine zW 7 25 hD ?_
  refine zW 8 25 hD ?_
  refine zW 9 25 hD ?_
  refine zW 10 25 hD ?_
  refine zT 11 rfl (Kl rfl rfl rfl) hD ?_
  refine Qm (by kernel_rfl) ?_
  refine Qy ?_
  refine Qc ?_
  refine zI ?_ ?_<;>intro hc32
  ·
   cases hc32
  have hh:zes xs t=false:=zk2 (by omega)
  refine Qw ?_
  exact zm (h:=⟨rfl,hKc4,rfl,hh⟩)
 rintro E J5 loc' ⟨rfl,hJ7,rfl,hh⟩
 have hP:=hP.mono hJ7;have hT:=hT.mono hJ7;have h3:=h3.mono hJ7;have hIc:=hIc.trans hJ7
 refine Qq (zR (zM ?_))
 refine zQ Zu ?_
 refine zC (zN ?_)
 refine zI ?_ ?_<;>intro hc36
 ·
  have h:=hc36
  simp at h
  omega
 refine Qw (Qc (Qq ?_))
 have hD:=zxd J5
 refine ZL ?_
 refine Q0 J5 [] mixed ?_
 refine zT 1 rfl (Qh rfl) hD ?_
 refine zT 2 rfl (Qh rfl) hD ?_
 refine zT 3 rfl (VQ rfl rfl Zu (fun hg=>by omega)) hD ?_
 refine zT 5 rfl (Qg rfl Zr (fun hg=>by exact BxI.cells (vs:=Zn t) h3) rfl) hD ?_
 refine zT 8 rfl (Qh rfl) hD ?_
 refine zT 9 rfl (Qh rfl) hD ?_
 refine zT 10 rfl (Vg rfl rfl Zu (fun hg=>by omega)) hD ?_
 refine Q8 0 6 rfl rfl (by kernel_rfl) ?_ ?_
 ·
  refine Ql (ps:=[]) (m:=[]) Ve rfl (.nil) rfl (by simp [Q4]) (by decide) (by decide) rfl rfl (fun b_37=>?_)
  refine Qb ?_
  refine zD hD ?_
  refine Q8 4 6 rfl rfl (by kernel_rfl) ?_ ?_
  ·
   refine QX (v:=_) (ys:=(xs.take k).flatMap Zn) (L:=[(b_37,_)]) rfl rfl Ve Yp.new (by repeat (first | exact .cons .here .nil | exact Qu | exact Qr | apply Qp | apply Qo)) ((hP.sl.take hk).src Q4) (Xf _) (by omega) rfl rfl ?_
   intro v1 L1 hO1 _;rw [List.nil_append] at hO1
   refine Qb ?_
   refine zD hD ?_
   refine qd 6 rfl ?_
   refine Ql (ps:=[(0,_)]) (m:=[Zn t]) Ve rfl (.cons rfl (.nil)) rfl (by simp [Q4]) (by decide) (by decide) rfl rfl (fun b_43=>?_)
   refine Qb ?_
   refine zD hD ?_
   refine qd 7 rfl ?_
   refine QX (v:=v1) (ys:=[t].flatMap Zn) (L:=L1) rfl rfl Ve hO1 (by repeat (first | exact .cons .here .nil | exact Qu | exact Qr | apply Qp | apply Qo)) ⟨rfl,fun _=>rfl,by repeat (first | exact zxb | apply zxa | apply zxc)⟩ (Xf [t]) (by omega) rfl rfl ?_
   intro v2 L2 hO2 _
   refine Qb ?_
   refine zD hD ?_
   refine qd 11 rfl ?_
   refine QX (v:=v2) (ys:=(xs.drop k).flatMap Zn) (L:=L2) rfl rfl Ve hO2 (by repeat (first | exact .cons .here .nil | exact Qu | exact Qr | apply Qp | apply Qo)) ((hP.sl.drop hk).src Q4) (Xf _) (by omega) rfl rfl ?_
   intro v3 L3 hO3 _
   refine Qb ?_
   refine zD hD ?_
   refine zT 12 rfl (QC rfl) hD ?_
   refine zT 13 rfl (QC rfl) hD ?_
   refine Qm (by kernel_rfl) ?_
   refine Qy ?_
   refine Zw (xs:=xs.take k++t::xs.drop k) (by simpa [List.flatMap_append] using hO3) Q4 (by decide) (by repeat (first | exact .cons .here .nil | exact Qu | exact Qr | apply Qp | apply Qo)) (fun I6 hI6 af6 cf6 ef6 hR=>?_)
   subst ef6
   have hP:=hP.mono hI6;have hT:=hT.mono hI6;have hIc:=hIc.trans hI6
   refine Qc (QF ?_)
   exact Vs rfl rfl rfl (fun w hw=>⟨_,I6,[],rfl,hIc,hw.subL Qe,rfl,_,_,_,rfl,zcr hP hT hR hkp hh⟩)
  refine Ql (ps:=[(0,_)]) (m:=[Zn t]) Ve rfl (.cons rfl (.nil)) rfl (by simp [Q4]) (by decide) (by decide) rfl rfl (fun b_43=>?_)
  refine Qb ?_
  refine zD hD ?_
  refine qd 4 rfl ?_
  refine QX (v:=_) (ys:=(xs.take k).flatMap Zn) (L:=[(b_37,_)]) rfl rfl Ve Yp.new (by repeat (first | exact .cons .here .nil | exact Qu | exact Qr | apply Qp | apply Qo)) ((hP.sl.take hk).src Q4) (Xf _) (by omega) rfl rfl ?_
  intro v1 L1 hO1 _;rw [List.nil_append] at hO1
  refine Qb ?_
  refine zD hD ?_
  refine qd 7 rfl ?_
  refine QX (v:=v1) (ys:=[t].flatMap Zn) (L:=L1) rfl rfl Ve hO1 (by repeat (first | exact .cons .here .nil | exact Qu | exact Qr | apply Qp | apply Qo)) ⟨rfl,fun _=>rfl,by repeat (first | exact zxb | apply zxa | apply zxc)⟩ (Xf [t]) (by omega) rfl rfl ?_
  intro v2 L2 hO2 _
  refine Qb ?_
  refine zD hD ?_
  refine qd 11 rfl ?_
  refine QX (v:=v2) (ys:=(xs.drop k).flatMap Zn) (L:=L2) rfl rfl Ve hO2 (by repeat (first | exact .cons .here .nil | exact Qu | exact Qr | apply Qp | apply Qo)) ((hP.sl.drop hk).src Q4) (Xf _) (by omega) rfl rfl ?_
  intro v3 L3 hO3 _
  refine Qb ?_
  refine zD hD ?_
  refine zT 12 rfl (QC rfl) hD ?_
  refine zT 13 rfl (QC rfl) hD ?_
  refine Qm (by kernel_rfl) ?_
  refine Qy ?_
  refine Zw (xs:=xs.take k++t::xs.drop k) (by simpa [List.flatMap_append] using hO3) Q4 (by decide) (by repeat (first | exact .cons .here .nil | exact Qu | exact Qr | apply Qp | apply Qo)) (fun I7 hI7 af7 cf7 ef7 hR=>?_)
  subst ef7
  have hP:=hP.mono hI7;have hT:=hT.mono hI7;have hIc:=hIc.trans hI7
  refine Qc (QF ?_)
  exact Vs rfl rfl rfl (fun w hw=>⟨_,I7,[],rfl,hIc,hw.subL Qe,rfl,_,_,_,rfl,zcr hP hT hR hkp hh⟩)
 refine Ql (ps:=[(0,_)]) (m:=[Zn t]) Ve rfl (.cons rfl (.nil)) rfl (by simp [Q4]) (by decide) (by decide) rfl rfl (fun b_43=>?_)
 refine Qb ?_
 refine zD hD ?_
 refine qd 0 rfl ?_
 refine Ql (ps:=[]) (m:=[]) Ve rfl (.nil) rfl (by simp [Q4]) (by decide) (by decide) rfl rfl (fun b_37=>?_)
 refine Qb ?_
 refine zD hD ?_
 refine qd 4 rfl ?_
 refine QX (v:=_) (ys:=(xs.take k).flatMap Zn) (L:=[(b_37,_)]) rfl rfl Ve Yp.new (by repeat (first | exact .cons .here .nil | exact Qu | exact Qr | apply Qp | apply Qo)) ((hP.sl.take hk).src Q4) (Xf _) (by omega) rfl rfl ?_
 intro v1 L1 hO1 _;rw [List.nil_append] at hO1
 refine Qb ?_
 refine zD hD ?_
 refine qd 7 rfl ?_
 refine QX (v:=v1) (ys:=[t].flatMap Zn) (L:=L1) rfl rfl Ve hO1 (by repeat (first | exact .cons .here .nil | exact Qu | exact Qr | apply Qp | apply Qo)) ⟨rfl,fun _=>rfl,by repeat (first | exact zxb | apply zxa | apply zxc)⟩ (Xf [t]) (by omega) rfl rfl ?_
 intro v2 L2 hO2 _
 refine Qb ?_
 refine zD hD ?_
 refine qd 11 rfl ?_
 refine QX (v:=v2) (ys:=(xs.drop k).flatMap Zn) (L:=L2) rfl rfl Ve hO2 (by repeat (first | exact .cons .here .nil | exact Qu | exact Qr | apply Qp | apply Qo)) ((hP.sl.drop hk).src Q4) (Xf _) (by omega) rfl rfl ?_
 intro v3 L3 hO3 _
 refine Qb ?_
 refine zD hD ?_
 refine zT 12 rfl (QC rfl) hD ?_
 refine zT 13 rfl (QC rfl) hD ?_
 refine Qm (by kernel_rfl) ?_
 refine Qy ?_
 refine Zw (xs:=xs.take k++t::xs.drop k) (by simpa [List.flatMap_append] using hO3) Q4 (by decide) (by repeat (first | exact .cons .here .nil | exact Qu | exact Qr | apply Qp | apply Qo)) (fun I8 hI8 af8 cf8 ef8 hR=>?_)
 subst ef8
 have hP:=hP.mono hI8;have hT:=hT.mono hI8;have hIc:=hIc.trans hI8
 refine Qc (QF ?_)
 exact Vs rfl rfl rfl (fun w hw=>⟨_,I8,[],rfl,hIc,hw.subL Qe,rfl,_,_,_,rfl,zcr hP hT hR hkp hh⟩)
end
section
open Go Go.Kn Go.Proofs
structure TlS (I:Qv)(a:Option Addr)(n c:Nat)(us ts:List Nt):Prop where
 sl:K9 I a n c us
 srt:zb6 us
 tk:∀ u∈us,TkN u
 mem:∀ y,(∃ u∈us,Z2 u=y)↔ ∃ t∈ts,Z2 t=y
 len:us.length≤ts.length
theorem TlS.mono {I I':Qv}{a:Option Addr}{n c:Nat}{us ts:List Nt}(h:TlS I a n c us ts)(hI:HLe I I'):TlS I' a n c us ts:=⟨h.sl.mono hI,h.srt,h.tk,h.mem,h.len⟩
theorem znA (I:Qv):K9 I none 0 0 []:=⟨.nil,fun x hx=>(by cases hx),fun x hx=>(by cases hx)⟩
theorem TlS.nil (I:Qv):TlS I none 0 0 [] []:=⟨znA I,fun k l x y _ hx=>(by simp at hx),fun u hu=>(by cases hu),fun y=>Iff.rfl,Nat.le_refl _⟩
theorem zuK {I:Qv}{a:Option Addr}{n c:Nat}{us:List Nt}(hS:K9 I a n c us){u:Nt}(hu:u∈us)(h:TkN u):NtM I u:=by
 have hl:u.pt.needs.length=u.pt.n:=(hS.nd u hu).len
 exact hS.m u hu (by rw [←Jd hl.symm];exact h.2.1)
theorem TlS.ntM {I:Qv}{a:Option Addr}{n c:Nat}{us ts:List Nt}(h:TlS I a n c us ts):∀ u∈us,NtM I u:=fun u hu=>zuK h.sl hu (h.tk u hu)
theorem zpD {I:Qv}{x y:Nt}(hx:Nd I x.pt)(hy:Nd I y.pt)(tx:TkN x)(ty:TkN y)(h:smN x y=false):YN x y≠0:=fun e=>by
 have:=(zfj hx hy).2 (zeR tx.1 ty.1 e)
 rw [h] at this;cases this
theorem TlS.add {I:Qv}{a a':Option Addr}{n c n' c':Nat}{us ts:List Nt}{t:Nt}(h:TlS I a n c us ts)(hN:Nd I t.pt)(ht:TkN t)(hS:K9 I a' n' c' (zkm us t)):TlS I a' n' c' (zkm us t) (ts++[t]):=by
 cases hh:zes us t with
 | true=>
  rw [zb8 hh] at hS ⊢
  refine ⟨hS,h.srt,h.tk,fun y=>?_,by have:=h.len;simp;omega⟩
  rw [h.mem]
  refine ⟨fun ⟨u,h1,h2⟩=>⟨u,List.mem_append_left _ h1,h2⟩,fun ⟨u,h1,h2⟩=>?_⟩
  rcases List.mem_append.1 h1 with h1 | h1
  ·
   exact ⟨u,h1,h2⟩
  ·
   rw [List.mem_singleton.1 h1] at h2
   unfold zes at hh
   cases hx:us[U1 us t]? with
   | none=>rw [hx] at hh;cases hh
   | some x=>
    rw [hx] at hh
    have hm:=List.mem_of_getElem? hx
    have:=(zfj (h.sl.nd x hm) hN).1 hh
    exact (h.mem y).1 ⟨x,hm,by rw [this];exact h2⟩
 | false=>
  refine ⟨hS,znm h.srt hh fun x hx he=>zpD (h.sl.nd x (List.mem_of_getElem? hx)) hN (h.tk x (List.mem_of_getElem? hx)) ht he,zcW h.tk ht,fun y=>?_,by have:=zm2 us t;have:=h.len;simp;omega⟩
  constructor
  ·
   rintro ⟨u,hu,e⟩
   rcases (XL hh).1 hu with rfl | hu
   ·
    exact ⟨u,by simp,e⟩
   ·
    obtain ⟨v,h1,h2⟩:=(h.mem y).1 ⟨u,hu,e⟩
    exact ⟨v,List.mem_append_left _ h1,h2⟩
  ·
   rintro ⟨v,hv,e⟩
   rcases List.mem_append.1 hv with hv | hv
   ·
    obtain ⟨u,h1,h2⟩:=(h.mem y).2 ⟨v,hv,e⟩
    exact ⟨u,(XL hh).2 (.inr h1),h2⟩
   ·
    rw [List.mem_singleton.1 hv] at e
    exact ⟨t,(XL hh).2 (.inl rfl),e⟩
def Kr (r:Rd)(ts:List Nt):Prop:=∀ t∈ts,∃ (i:Nat) (xs:List Nt),r.ps[i]? =some xs∧Z2 t∈xs
theorem Kr.grow {r r':Rd}{ts:List Nt}(h:Kr r ts)(hg:Grow r.ps r'.ps)(hl:r'.ps.length=r.ps.length):Kr r' ts:=fun t ht=>by
 obtain ⟨i,xs,h1,h2⟩:=h t ht
 have hi:=(List.getElem?_eq_some_iff.1 h1).1
 have h3:r'.ps[i]? =some r'.ps[i]:=List.getElem?_eq_getElem (by omega)
 exact ⟨i,_,h3,hg i xs _ h1 h3 _ h2⟩
theorem zhG {m:Nat}{r r':Rd}{told:List Nt}{x:Ev}(h:Kn m r told)(hq:r.qs.length≤4096)(hk:x.kind=1)(ht:TkN x.note)(hd:doF r (Yx x)=(0,r')):∃ (i:Nat) (xs:List Nt),r'.ps[i]? =some xs∧Z2 x.note∈xs:=by
 rw [K2 (h.chk hq)] at hd
 unfold XJ at hd
 rw [if_pos (show (Yx x).kind=1 from hk)] at hd
 unfold KR at hd
 split at hd
 ·
  split at hd
  ·
   split at hd
   ·
    cases hd
   ·
    rename_i P hP
    have hP:XI r.ps x.peer.toNat (Z2 x.note)=some P:=hP
    cases hd
    obtain ⟨xs,ys,h1,h2,rfl⟩:=zdw hP
    have hl:=(List.getElem?_eq_some_iff.1 h1).1
    refine ⟨x.peer.toNat,ys,?_,(zgf h2 (h.can (List.mem_of_getElem? h1)) (zla ht) _).2 (.inr rfl)⟩
    simp [List.getElem?_set,hl]
  ·
   cases hd
 ·
  cases hd
theorem Kr.step {I:Qv}{m k:Nat}{r r':Rd}{ts:List Nt}{x:Ev}(h:Kr r ts)(hK:KS I m k r ts)(hk:k<14)(hK2:KS I m (k+1) r' (zck x ts))(hg:Grow r.ps r'.ps)(hd:doF r (Yx x)=(0,r')):Kr r' (zck x ts):=by
 have h1:=h.grow hg (by rw [hK2.kn.len,hK.kn.len])
 unfold zck
 split
 ·
  rename_i hx
  intro t ht
  rcases List.mem_append.1 ht with ht | ht
  ·
   exact h1 t ht
  ·
   rw [List.mem_singleton.1 ht]
   exact zhG hK.kn (by have:=hK.ql;omega) hx (hK2.kn.tok x.note (by rw [zeW hx];simp)) hd
 ·
  exact h1
theorem zus {r:Rd}{x:Ev}(h:(doF r x).1≠0):(doF r x).2=zeroR:=by
 unfold doF at h ⊢
 split
 ·
  rfl
 ·
  rename_i hc
  rw [if_neg hc] at h
  rw [zk6 h]
def AcQ (m:Nat)(v:Value)(I':Qv)(L':Go.Kn.Loc):Prop:=L'=[]∧∃ vr a n c us R ts,v= .tuple #[vr,.slice a n c,.bool true]∧RmV I' vr R∧KS I' m 14 R ts∧TlS I' a n c us ts∧Kr R ts
end
section
open Go Go.Kn Go.Proofs
theorem zt2:Fun Tryz.prog 84:=.of Tryz.func84 (by kernel_rfl) (by kernel_rfl)
set_option maxRecDepth 100000 in
set_option maxHeartbeats 4000000 in
theorem zrp {I:Qv} {av:Option Addr} {n c:Nat} {xs:List Ev} (hE:EvS I av n c xs) (hn14:n≤14) {M:Nat} (hM1:1≤M) (hM4:M≤4):Vi Tryz.prog 32 [.int .i64 M,.slice av n c] I [] (AcQ M):=by
 intro g H w hw
 refine qe Tryz.func32 Tryz.ntmps32 hw ?_
 have hIc:=zxd I
 have hln:=hE.sl.len
 refine zR ?_
 refine Qt Kx rfl rfl (fun b_4=>?_)
 refine zA ?_
 refine zA ?_
 refine zN (zR ?_)
 refine zM ?_
 refine QE (cap:=[]) (vs:=[_]) rfl rfl zlG .nil (zuy I (m:=M) ⟨hM1,by omega⟩) rfl rfl ?_
 rintro vv1 I1 L1 hI1 ⟨rfl,vr1,rfl,hV1⟩
 have hE:=hE.mono hI1;have hIc:=hIc.trans hI1
 obtain ⟨pa1,pn1,pc1,qa1,qn1,qc1,aa1,an1,ac1,ps1,qs1,rfl,hR1,he1⟩:=(show RmV _ vr1 (zbz M) from hV1)
 have hpn1:pn1=M:=by have h:=(Z0 hR1 he1).1;simp [zbz] at h;exact h
 refine zM ?_
 refine zE ?_
 refine zE ?_
 refine zh YK ?_
 refine zA (zN (Qq (zR ?_)))
 refine zM ?_
 refine zC ?_
 refine zM ?_
 refine Q6 (dj:=19) rfl rfl rfl ?_
 refine zF ZR ?_
 refine Q6 (dj:=19) rfl rfl rfl ?_
 refine zL YW ?_
 refine Q6 (dj:=19) rfl rfl rfl ?_
 refine zQ YJ ?_
 refine Q6 (dj:=19) rfl rfl rfl ?_
 refine zM ?_
 refine Q6 (dj:=19) rfl rfl rfl ?_
 refine zC ?_
 rw [show (((pn1:Nat):Int) != ((M:Nat):Int))=false by rw [hpn1,zcd]]
 refine zV (Zv rfl rfl rfl) ?_
 refine zN ?_
 refine zI ?_ ?_<;>intro hc25
 ·
  exact absurd hc25 (by decide)
 refine Qw (Qc (Qq (zR (zM ?_))))
 refine zQ zjd ?_
 refine zM (zN (QD ?_))
 refine zU [(0,_),(4,_),(27,_),(28,_)] (fun T L0 mz E I' loc'=>∃ (k:Nat) (ta:Option Addr) (tn:Nat) (tc:Nat) (us:List Nt) (ts:List Nt) (pa:Option Addr) (pn:Nat) (pc:Nat) (qa:Option Addr) (qn:Nat) (qc:Nat) (aa:Option Addr) (an:Nat) (ac:Nat) (ps:List Pe) (qs:List Pk) (ks:List (Int×Int)) (R:Rd),mz=n-k∧E=(5,.slice ta tn tc)::(29,.int .i64 k)::T∧HLe I1 I'∧[(b_4,.cells #[.slice pa pn pc,.slice qa qn qc,.slice aa an ac] 28 (0,0))]=loc'∧k≤n∧TlS I' ta tn tc us ts∧RmP I' pa pn pc qa qn qc aa an ac ps qs ks∧Vr ps qs ks=R∧KS I' M k R ts∧Kr R ts) ?_ (h:=⟨0,none,0,0,[],[],_,_,_,_,_,_,_,_,_,_,_,_,zbz M,rfl,rfl,zxd _,rfl,Nat.zero_le _,TlS.nil _,hR1,he1,KS.zero ⟨hM1,by omega⟩,fun t ht=>(by cases ht)⟩)
 rintro mz E J2 loc' ⟨k,ta,tn,tc,us,ts,pa,pn,pc,qa,qn,qc,aa,an,ac,ps,qs,ks,R,rfl,rfl,hJ,rfl,hk,hT,hR,he,hK,hKr⟩
 have hE:=hE.mono hJ;have hIc:=hIc.trans hJ
 have hB0:=hJ
 have htl:=hK.tl
 refine zR (zC (zN (Qq ?_)))
 refine zI ?_ ?_<;>intro hc30
 ·
  have hlt_k:k<n:=by have h:=hc30;simp at h;omega
  obtain ⟨x,hx⟩:∃ y,xs[k]? =some y:=⟨_,List.getElem?_eq_getElem (by omega)⟩
  have hxm:=List.mem_of_getElem? hx
  refine Qw (Qc (Qq (QD (zR ?_))))
  refine zV (QV rfl rfl zjd hE.sl (fun hg=>by omega)) ?_
  refine zV (Qg rfl zlP (fun hg=>by exact zxe hE.sl hx) rfl) ?_
  refine Qt zvF rfl rfl (fun b_9=>?_)
  refine zh zsF ?_
  refine Qb ?_
  refine QO .here (fun I3 hI3 hb3=>?_)
  have hE:=hE.mono hI3;have hT:=hT.mono hI3;have hR:=hR.mono hI3;have hK:=hK.mono hI3;have hB0:=hB0.trans hI3
  have h9:=BxI.of hb3
  refine Qc (zR ?_)
  refine zV (Qg rfl YE (fun hg=>by exact Cells.g0) rfl) ?_
  refine zV (Qg rfl zlP (fun hg=>by exact BxI.cells (vs:=zav x) h9) rfl) ?_
  refine QE (cap:=[]) (vs:=[_,_]) rfl rfl KV .nil (XK hR he (hK.sm (by omega)) x (hE.m x hxm) rfl) rfl rfl ?_
  rintro vv4 I4 L4 hI4 ⟨rfl,vr2,rfl,hV2⟩
  have hE:=hE.mono hI4;have hT:=hT.mono hI4;have hR:=hR.mono hI4;have hK:=hK.mono hI4;have h9:=h9.mono hI4;have hB0:=hB0.trans hI4
  have hz2:(doF R (Yx x)).1≠0→(doF R (Yx x)).2=zeroR:=zus
  obtain ⟨pa2,pn2,pc2,qa2,qn2,qc2,aa2,an2,ac2,ps2,qs2,rfl,hR2,he2⟩:=hV2
  refine zM ?_
  refine zE ?_
  refine zE ?_
  refine Qt Kx rfl rfl (fun b_10=>?_)
  refine zh YK ?_
  refine zA (Qb ?_)
  refine QO .here (fun I5 hI5 hb5=>?_)
  have hE:=hE.mono hI5;have hT:=hT.mono hI5;have hR:=hR.mono hI5;have hK:=hK.mono hI5;have h9:=h9.mono hI5;have hR2:=hR2.mono hI5;have hB0:=hB0.trans hI5
  have h10:=BxI.of hb5
  refine Qc (Qq (zR (zM ?_)))
  refine zC (zN ?_)
  refine zI ?_ ?_<;>intro hc40
  ·
   have hz:=hz2 (by simpa using hc40)
   rw [hz] at he2 hR2
   have h1:pn2=0:=(Z0 hR2 he2).1
   have h2:qn2=0:=(Z0 hR2 he2).2.1
   refine Qq (zR ?_)
   refine zF ZR ?_
   refine zV (Qd rfl YW (fun hg=>by exact QG.imm h10.out rfl)) ?_
   refine zQ YJ ?_
   refine zF ZY ?_
   refine zF Zk ?_
   refine zV (Qd rfl Zq (fun hg=>by exact QG.imm h10.out rfl)) ?_
   refine zQ Zl ?_
   refine zB ?_
   refine zC (zN ?_)
   refine zI ?_ ?_<;>intro hc49
   ·
    rw [h1,h2] at hc49
    exact absurd hc49 (by decide)
   have hT9:=hT
   have hR9:=hR
   have he9:=he
   have hK9:=hK.skip
   have hKr9:=hKr
   refine Qw (Qc (Zy (Qs (QB (Qc (Qk (zB ?_)))))))
   refine zM (Qb ?_)
   exact zm (h:=⟨n-(k+1),by omega,k+1,_,_,_,_,_,_,_,_,_,_,_,_,_,_,_,_,_,_,rfl,rfl,hB0,rfl,by omega,hT9,hR9,he9,hK9,hKr9⟩)
  have h0:(doF R (Yx x)).1=0:=by simpa using hc40
  have hd0:doF R (Yx x)=(0,(doF R (Yx x)).2):=Prod.ext h0 rfl
  obtain ⟨hK2,hG⟩:=hK.step (by omega) (by omega) (hE.m x hxm) hd0
  have hKr2:=hKr.step hK (by omega) hK2 hG hd0
  have hpn2:pn2=M:=by rw [(Z0 hR2 he2).1];exact hK2.kn.len
  have hqn2:qn2≤200:=by rw [(Z0 hR2 he2).2.1];have h:=hK2.ql;omega
  refine Qw (Qc (Qq (zR ?_)))
  refine zF ZR ?_
  refine zV (Qd rfl YW (fun hg=>by exact QG.imm h10.out rfl)) ?_
  refine zQ YJ ?_
  refine zM ?_
  refine zC ?_
  rw [show (((pn2:Nat):Int) != ((M:Nat):Int))=false by rw [hpn2,zcd]]
  refine zM ?_
  refine Q6 (dj:=56) rfl rfl rfl ?_
  refine zF ZY ?_
  refine Q6 (dj:=56) rfl rfl rfl ?_
  refine zF Zk ?_
  refine Q6 (dj:=56) rfl rfl rfl ?_
  refine zV (Qd rfl Zq (fun hg=>by exact QG.imm h10.out rfl)) ?_
  refine Q6 (dj:=56) rfl rfl rfl ?_
  refine zQ Zl ?_
  refine Q6 (dj:=56) rfl rfl rfl ?_
  refine zC ?_
  refine zV (Zv rfl rfl rfl) ?_
  refine zN ?_
  refine zI ?_ ?_<;>intro hc62
  ·
   have h:=hc62
   simp at h
   omega
  refine Qw (Qc ?_)
  refine zY [(0,_),(4,_),(10,_),(27,_),(28,_),(29,_)] (fun T L0 E I' loc'=>∃ (a2:Option Addr) (n2 c2:Nat) (us2:List Nt),E=(5,.slice a2 n2 c2)::T∧HLe I5 I'∧[(b_4,.cells #[.slice pa pn pc,.slice qa qn qc,.slice aa an ac] 28 (0,0))]=loc'∧TlS I' a2 n2 c2 us2 (zck x ts)) ?_ ?_
  ·
   have hKc13:=zxd I5
   refine zR ?_
   refine zF zdc ?_
   refine zV (Qd rfl QA (fun hg=>by exact QG.imm h9.out rfl)) ?_
   refine zC (zN ?_)
   refine zI ?_ ?_<;>intro hc66
   ·
    have hk1:x.kind=1:=by simpa using hc66
    have htk:=hK2.kn.tok x.note (by rw [zeW hk1];simp)
    have hTM:NtM _ x.note:=(hE.m x hxm).msg (by rw [←(hE.m x hxm).form];exact htk.2.1)
    refine zR (zM ?_)
    refine zF XN ?_
    refine zV (Qg rfl Zr (fun hg=>by exact Cells.part (pre:=[_,_,_,_]) (vs:=Zn x.note) (post:=[]) (BxI.cells (vs:=zav x) h9) rfl) rfl) ?_
    refine QE (cap:=[]) (vs:=[_,_]) rfl rfl zt2 .nil (znL hT.sl hT.ntM hTM (by have h:=hT.sl.sl.len;have h2:=hT.len;omega)) rfl rfl ?_
    rintro vv6 I6 L6 hI6 ⟨rfl,ta3,tn3,tc3,rfl,hS3⟩
    have hE:=hE.mono hI6;have hT:=hT.mono hI6;have hKc13:=hKc13.trans hI6
    refine zM ?_
    refine zE ?_
    refine zE ?_
    refine zA ?_
    refine zA ?_
    refine zN (zR ?_)
    refine zM ?_
    refine zC (zN ?_)
    refine zI ?_ ?_<;>intro hc75
    ·
     exact absurd hc75 (by decide)
    have hT7:=hT.add (hE.m x hxm).nd htk hS3
    rw [←zeW hk1] at hT7
    refine Qw ?_
    exact zm (h:=⟨_,_,_,_,rfl,hKc13,rfl,hT7⟩)
   have hT7:=hT
   rw [←zrW (x:=x) (ts:=ts) (by simpa using hc66)] at hT7
   refine Qw ?_
   exact zm (h:=⟨_,_,_,_,rfl,hKc13,rfl,hT7⟩)
  rintro E J7 loc' ⟨a2,n2,c2,us2,rfl,hJ6,rfl,hT2⟩
  have hR2:=hR2.mono hJ6;have h10:=h10.mono hJ6;have hK2:=hK2.mono hJ6;have hB0:=hB0.trans hJ6
  refine Qk ?_
  refine zV (Qg rfl YE (fun hg=>by exact BxI.cells (vs:=[_,_,_]) h10) rfl) ?_
  refine zh YK ?_
  refine Qb ?_
  have hR9:=hR2
  have he9:=he2
  have hK9:=hK2
  have hT9:=hT2
  have hKr9:=hKr2
  refine Qn (Qc (Qk (zB ?_)))
  refine zM (Qb ?_)
  exact zm (h:=⟨n-(k+1),by omega,k+1,_,_,_,_,_,_,_,_,_,_,_,_,_,_,_,_,_,_,rfl,rfl,hB0,rfl,by omega,hT9,hR9,he9,hK9,hKr9⟩)
 have hge_k:n≤k:=by have h:=hc30;simp at h;omega
 have hK14:=hK.le (k':=14) (by omega)
 refine Zy (Qs (Qs (QB (Qc (zR ?_)))))
 refine zV (Qg rfl YE (fun hg=>by exact Cells.g0) rfl) ?_
 refine zM ?_
 refine zh YK ?_
 refine zA ?_
 refine zA (zN (QF ?_))
 exact zm7 rfl rfl rfl rfl (.ag YE (vs:=[_,_,_]) .here rfl) (fun w hw=>⟨_,J2,[],rfl,hIc,hw.subL Qe,rfl,_,_,_,_,_,_,_,rfl,⟨_,_,_,_,_,_,_,_,_,_,_,rfl,by rw [(Z0 hR he).2.2] at hR;exact hR,by rw [←(Z0 hR he).2.2];exact he⟩,hK14,hT,hKr⟩)
end
section
open Go Go.Kn Go.Proofs
def evA (k at_:Int):Ev:=⟨k,0,0,at_,zbD⟩
theorem zni (I:Qv)(k a:Int):EvM I (evA k a):=⟨Sl.nil,Um⟩
def zcQ (r r':Rd):Prop:=∀ (i:Nat) (y:Nt),Has r' i y↔Has r i y
theorem zcQ.trans {r r' r'':Rd}(h:zcQ r r')(h2:zcQ r' r''):zcQ r r'':=fun i y=>(h2 i y).trans (h i y)
theorem zpc {w:Int}{q:Nat}(hw:0≤w)(hq:0<q):0≤w.tmod q∧w.tmod q<(q:Int):=by
 rw [Int.tmod_eq_emod_of_nonneg hw]
 exact ⟨Int.emod_nonneg _ (by omega),Int.emod_lt_of_pos _ (by omega)⟩
theorem Kn.rep' {m:Nat}{r:Rd}{told:List Nt}{w:Int}(h:Kn m r told)(hw:0≤w)(hq:0<r.qs.length)(hq2:r.qs.length≤3000){q:Nat}(e:q=r.qs.length):
  ∃ r',doF r (Yx (evA 5 (w.tmod q)))=(0,r')∧r'.qs.length=r.qs.length+1∧zcQ r r'∧Kn m r' told:=by
 subst e
 obtain ⟨h1,h2⟩:=zpc hw hq
 obtain ⟨r',a,b,c⟩:=h.rep (x:=evA 5 (w.tmod r.qs.length)) (by omega) rfl h1 h2
 exact ⟨r',a,b,c,by have:=(h.step (x:=evA 5 (w.tmod r.qs.length)) (by omega) (fun e=>by cases e) a).1;exact this⟩
theorem Kn.dlv' {m:Nat}{r:Rd}{told:List Nt}{w:Int}(h:Kn m r told)(ht:told.length≤1000)(hw:0≤w)(hq:0<r.qs.length)(hq2:r.qs.length≤3000){q:Nat}(e:q=r.qs.length):
  ∃ r',doF r (Yx (evA 3 (w.tmod q)))=(0,r')∧r'.qs.length+1=r.qs.length∧zcQ r r'∧Kn m r' told:=by
 subst e
 obtain ⟨h1,h2⟩:=zpc hw hq
 obtain ⟨r',a,b,c⟩:=h.dlv (x:=evA 3 (w.tmod r.qs.length)) (by omega) (by omega) rfl h1 h2
 exact ⟨r',a,b,c,by have:=(h.step (x:=evA 3 (w.tmod r.qs.length)) (by omega) (fun e=>by cases e) a).1;exact this⟩
structure Dn (m:Nat)(r r':Rd)(told:List Nt):Prop where
 kn:Kn m r' told
 qs:r'.qs=[]
 has:zcQ r r'
def DrQ (m:Nat)(r:Rd)(told:List Nt)(v:Value)(I':Qv)(L':Go.Kn.Loc):Prop:=L'=[]∧∃ vr r',v= .tuple #[vr,.bool true]∧RmV I' vr r'∧Dn m r r' told
theorem Dn.mem {m:Nat}{r r':Rd}{told:List Nt}(h:Dn m r r' told){i:Nat}{xs:List Nt}(hx:r'.ps[i]? =some xs)(y:Nt):y∈xs↔Has r i y:=by
 rw [←h.has i y]
 constructor
 ·
  exact fun hy=>.inl ⟨xs,hx,hy⟩
 ·
  rintro (⟨zs,hz,hy⟩ | ⟨p,hp,_⟩)
  ·
   rw [hx] at hz;cases hz;exact hy
  ·
   rw [h.qs] at hp;cases hp
end
section
open Go Go.Kn Go.Proofs
set_option maxRecDepth 100000 in
set_option maxHeartbeats 4000000 in
theorem zkJ {I:Qv} {pa0 qa0 aa0:Option Addr} {pn0 pc0 qn0 qc0 an0 ac0:Nat} {ps0:List Pe} {qs0:List Pk} {ks0:List (Int×Int)} {R0:Rd} (hR0:RmP I pa0 pn0 pc0 qa0 qn0 qc0 aa0 an0 ac0 ps0 qs0 ks0) (he0:Vr ps0 qs0 ks0=R0) {told:List Nt} (hk0:Kn pn0 R0 told) (ht:told.length≤1000) (hq0:R0.qs.length≤2000) {ob:Option Addr} {on oc:Nat} {os:List Nat} (hY:Sl I 1 VL ob on oc os) (hy8:∀ y∈os,y≤255) (hon:on≤100):Vi Tryz.prog 33 [.agg #[.slice pa0 pn0 pc0,.slice qa0 qn0 qc0,.slice aa0 an0 ac0],.slice ob on oc] I [] (DrQ pn0 R0 told):=by
 intro g H w hw
 refine qe Tryz.func33 Tryz.ntmps33 hw ?_
 have hIc:=zxd I
 have hlo:=hY.len
 have hqq:=(Z0 hR0 he0).2.1
 refine zR ?_
 refine Zh rfl rfl rfl (fun b_2=>?_)
 refine Qt Kx rfl rfl (fun b_4=>?_)
 refine zA ?_
 refine zN (zR ?_)
 refine zF ZR ?_
 refine zL YW ?_
 refine zQ YJ ?_
 refine zA (zN (Qq (zR ?_)))
 refine zA (zN (QD ?_))
 refine zU [(1,_),(2,_),(4,_),(6,_)] (fun T L0 mz E I' loc'=>∃ (k:Nat) (pa:Option Addr) (pn:Nat) (pc:Nat) (qa:Option Addr) (qn:Nat) (qc:Nat) (aa:Option Addr) (an:Nat) (ac:Nat) (ps:List Pe) (qs:List Pk) (ks:List (Int×Int)) (R:Rd),mz=(on-k)+R.qs.length∧E=(7,.int .i64 k)::T∧HLe I I'∧[(b_4,.cells #[.slice none 0 0,.slice none 0 0,.slice none 0 0] 28 (0,0)),(b_2,.cells #[.slice pa pn pc,.slice qa qn qc,.slice aa an ac] 28 (0,0))]=loc'∧RmP I' pa pn pc qa qn qc aa an ac ps qs ks∧Vr ps qs ks=R∧Kn pn0 R told∧zcQ R0 R∧R.qs.length≤R0.qs.length∧k+R.qs.length≤on+R0.qs.length) ?_ (h:=⟨0,_,_,_,_,_,_,_,_,_,_,_,_,R0,rfl,rfl,zxd _,rfl,hR0,he0,hk0,fun i y=>Iff.rfl,Nat.le_refl _,by omega⟩)
 rintro mz E J1 loc' ⟨k,pa,pn,pc,qa,qn,qc,aa,an,ac,ps,qs,ks,R,rfl,rfl,hJ,rfl,hR,he,hk,hs,hl,hkq⟩
 have hY:=hY.mono hJ;have hIc:=hIc.trans hJ
 have hB0:=hJ
 have hqn:qn=R.qs.length:=(Z0 hR he).2.1
 refine Qq (zR ?_)
 refine zF ZY ?_
 refine zF Zk ?_
 refine zL Zq ?_
 refine zQ Zl ?_
 refine zC (zN ?_)
 refine zI ?_ ?_<;>intro hc21
 ·
  have hqp:0<qn:=by have h:=hc21;simp at h;omega
  refine Qw (Qc (Qq (QD (zR (zA (zN ?_))))))
  refine zY [(1,_),(2,_),(4,_),(6,_),(7,_)] (fun T L0 E I' loc'=>∃ (w:Int),E=(8,.int .i64 w)::T∧HLe J1 I'∧[(b_4,.cells #[.slice none 0 0,.slice none 0 0,.slice none 0 0] 28 (0,0)),(b_2,.cells #[.slice pa pn pc,.slice qa qn qc,.slice aa an ac] 28 (0,0))]=loc'∧0≤w∧w≤255) ?_ ?_
  ·
   have hKc6:=zxd J1
   refine Qq ?_
   rcases Nat.lt_or_ge k on with hkn | hkn
   ·
    obtain ⟨b,hb⟩:∃ y,os[k]? =some y:=⟨_,List.getElem?_eq_getElem (by omega)⟩
    have hb8:=hy8 b (List.mem_of_getElem? hb)
    refine Qk (zM ?_)
    refine zM ?_
    refine zQ JT ?_
    refine zC (zN ?_)
    refine zI ?_ ?_<;>intro hc27
    ·
     refine Qk (zM ?_)
     refine zM ?_
     refine zV (zX JT hY) ?_
     refine zV (Qd rfl zm8 (fun hg=>by exact zw6 hY hb rfl)) ?_
     refine zV (Z6 rfl ze8) ?_
     rw [Vk (n:=((b:Nat):Int)) (by omega)]
     refine zA (Qb ?_)
     first
     | exact zm (h:=⟨_,rfl,hKc6,rfl,by omega,by omega⟩)
    have h:=hc27
    simp at h
    omega
   refine Qk (zM ?_)
   refine zM ?_
   refine zQ JT ?_
   refine zC (zN ?_)
   refine zI ?_ ?_<;>intro hc27
   ·
    have h:=hc27
    simp at h
    omega
   refine Qw ?_
   first
   | exact zm (h:=⟨_,rfl,hKc6,rfl,by omega,by omega⟩)
  rintro E J2 loc' ⟨w,rfl,hJ4,rfl,hw0,hw1⟩
  have hY:=hY.mono hJ4;have hR:=hR.mono hJ4;have hB0:=hB0.trans hJ4
  refine zY [(1,_),(2,_),(4,_),(6,_),(7,_),(8,_)] (fun T L0 E I' loc'=>∃ (pa2:Option Addr) (pn2:Nat) (pc2:Nat) (qa2:Option Addr) (qn2:Nat) (qc2:Nat) (aa2:Option Addr) (an2:Nat) (ac2:Nat) (ps2:List Pe) (qs2:List Pk) (ks2:List (Int×Int)) (R2:Rd),E=T∧HLe J2 I'∧[(b_4,.cells #[.slice none 0 0,.slice none 0 0,.slice none 0 0] 28 (0,0)),(b_2,.cells #[.slice pa2 pn2 pc2,.slice qa2 qn2 qc2,.slice aa2 an2 ac2] 28 (0,0))]=loc'∧RmP I' pa2 pn2 pc2 qa2 qn2 qc2 aa2 an2 ac2 ps2 qs2 ks2∧Vr ps2 qs2 ks2=R2∧Kn pn0 R2 told∧zcQ R0 R2∧(R2.qs.length=R.qs.length∨(R2.qs.length=R.qs.length+1∧k<on))) ?_ ?_
  ·
   have hKc8:=zxd J2
   refine Qq ?_
   rcases Nat.lt_or_ge k on with hkn | hkn
   ·
    obtain ⟨b,hb⟩:∃ y,os[k]? =some y:=⟨_,List.getElem?_eq_getElem (by omega)⟩
    refine Qk (zM ?_)
    refine zM ?_
    refine zQ JT ?_
    refine zC ?_
    rw [show decide (((k:Nat):Int)<((on:Nat):Int))=true by simp;omega]
    refine zM ?_
    refine Q6 (dj:=37) rfl rfl rfl ?_
    refine zM ?_
    refine Q6 (dj:=37) rfl rfl rfl ?_
    refine zM ?_
    refine Q6 (dj:=37) rfl rfl rfl ?_
    refine zV (zX JT hY) ?_
    refine Q6 (dj:=37) rfl rfl rfl ?_
    refine zV (Qd rfl zm8 (fun hg=>by exact zw6 hY hb rfl)) ?_
    refine Q6 (dj:=37) rfl rfl rfl ?_
    refine zC ?_
    refine zV (Zv rfl rfl rfl) ?_
    refine zN ?_
    refine zI ?_ ?_<;>intro hc43
    ·
     obtain ⟨r9,hd9,hl9,hs9,hk9⟩:=hk.rep' (w:=w) (by omega) (by omega) (by omega) hqn
     refine zY [(1,_),(2,_),(4,_),(6,_),(7,_),(8,_)] (fun T L0 E I' loc'=>∃ (b9:Nat) (pa9:Option Addr) (pn9:Nat) (pc9:Nat) (qa9:Option Addr) (qn9:Nat) (qc9:Nat) (aa9:Option Addr) (an9:Nat) (ac9:Nat) (ps9:List Pe) (qs9:List Pk) (ks9:List (Int×Int)),E=(9,ZK b9)::(10,.int .i64 0)::T∧HLe J2 I'∧[(b_4,.cells #[.slice none 0 0,.slice none 0 0,.slice none 0 0] 28 (0,0)),(b_2,.cells #[.slice pa pn pc,.slice qa qn qc,.slice aa an ac] 28 (0,0))]=loc'∧BxI I' b9 (.cells #[.slice pa9 pn9 pc9,.slice qa9 qn9 qc9,.slice aa9 an9 ac9] 28 (0,0))∧RmP I' pa9 pn9 pc9 qa9 qn9 qc9 aa9 an9 ac9 ps9 qs9 ks9∧Vr ps9 qs9 ks9=r9) ?_ ?_
     ·
      have hKc9:=zxd J2
      have hD:=zxd J2
      refine ZL ?_
      refine Q0 J2 [(b_4,.cells #[.slice none 0 0,.slice none 0 0,.slice none 0 0] 28 (0,0)),(b_2,.cells #[.slice pa pn pc,.slice qa qn qc,.slice aa an ac] 28 (0,0))] mixed ?_
      refine zT 0 rfl (Qg rfl YE (fun hg=>by exact Cells.g1) rfl) hD ?_
      refine zT 1 rfl (Qh rfl) hD ?_
      refine zT 2 rfl (Qa rfl ZY) hD ?_
      refine zT 3 rfl (Qa rfl Zk) hD ?_
      refine zT 4 rfl (Qd rfl Zq (fun hg=>by exact QG.h1 rfl)) hD ?_
      refine zT 5 rfl (Q9 rfl Zl) hD ?_
      refine zT 6 rfl (Yg rfl rfl (fun hg=>by omega)) hD ?_
      refine zT 7 rfl (QZ (ps:=[(0,_),(3,_)]) [_,_,_,_,_,_,_,_,_,_,_,_,_,_,_,_,_,_,_,_,_,_,_,_,_,_,_,_,_,_,_,_,_,_,_,_,_,_,_,_,_,_,_,_,_,_,_,_,_] Xq rfl rfl) hD ?_
      refine Q8 8 12 rfl rfl (by kernel_rfl) ?_ ?_
      ·
       refine QE (cap:=[]) (vs:=[_,_]) rfl rfl KV .nil (XK hR he (hk.sm (by omega) (by omega)) (evA 5 (w.tmod qn)) (zni _ _ _) hd9) rfl rfl ?_
       rintro vv3 I3 L3 hI3 ⟨rfl,vr9,rfl,hV9⟩
       have hKc9:=hKc9.trans hI3;have hD:=hD.trans hI3
       obtain ⟨pa9,pn9,pc9,qa9,qn9,qc9,aa9,an9,ac9,ps9,qs9,rfl,hR9,he9⟩:=(show RmV _ vr9 (r9) from hV9)
       refine Qb ?_
       refine zD hD ?_
       refine zT 9 rfl (Qh rfl) hD ?_
       refine zT 10 rfl (Q3 rfl rfl) hD ?_
       refine zT 11 rfl (Q3 rfl rfl) hD ?_
       refine qd 12 rfl ?_
       refine Qt Kx rfl rfl (fun b_9=>?_)
       refine Qb ?_
       refine zD hD ?_
       refine qd 13 rfl ?_
       refine zh YK ?_
       refine Za (b:=b_9) (by repeat (first | exact Yd.here | apply Yd.there)) (fun I4 hI4 hb4=>?_)
       have hR9:=hR9.mono hI4;have hKc9:=hKc9.trans hI4;have hD:=hD.trans hI4
       have h9:=BxI.of hb4
       refine Qb ?_
       refine zD hD ?_
       refine zT 14 rfl (QC rfl) hD ?_
       refine Qm (by kernel_rfl) ?_
       refine Qy ?_
       exact zm (h:=⟨_,_,_,_,_,_,_,_,_,_,_,_,_,rfl,hKc9,rfl,h9,hR9,he9⟩)
      refine Qt Kx rfl rfl (fun b_9=>?_)
      refine Qb ?_
      refine zD hD ?_
      refine qd 8 rfl ?_
      refine QE (cap:=[]) (vs:=[_,_]) rfl rfl KV .nil (XK hR he (hk.sm (by omega) (by omega)) (evA 5 (w.tmod qn)) (zni _ _ _) hd9) rfl rfl ?_
      rintro vv5 I5 L5 hI5 ⟨rfl,vr9,rfl,hV9⟩
      have hKc9:=hKc9.trans hI5;have hD:=hD.trans hI5
      obtain ⟨pa9,pn9,pc9,qa9,qn9,qc9,aa9,an9,ac9,ps9,qs9,rfl,hR9,he9⟩:=(show RmV _ vr9 (r9) from hV9)
      refine Qb ?_
      refine zD hD ?_
      refine zT 9 rfl (Qh rfl) hD ?_
      refine zT 10 rfl (Q3 rfl rfl) hD ?_
      refine zT 11 rfl (Q3 rfl rfl) hD ?_
      refine qd 13 rfl ?_
      refine zh YK ?_
      refine Za (b:=b_9) (by repeat (first | exact Yd.here | apply Yd.there)) (fun I6 hI6 hb6=>?_)
      have hR9:=hR9.mono hI6;have hKc9:=hKc9.trans hI6;have hD:=hD.trans hI6
      have h9:=BxI.of hb6
      refine Qb ?_
      refine zD hD ?_
      refine zT 14 rfl (QC rfl) hD ?_
      refine Qm (by kernel_rfl) ?_
      refine Qy ?_
      exact zm (h:=⟨_,_,_,_,_,_,_,_,_,_,_,_,_,rfl,hKc9,rfl,h9,hR9,he9⟩)
     rintro E J7 loc' ⟨b9,pa9,pn9,pc9,qa9,qn9,qc9,aa9,an9,ac9,ps9,qs9,ks9,rfl,hJ9,rfl,h9,hR9,he9⟩
     have hKc8:=hKc8.trans hJ9
     have hpn9:pn9=pn0:=by rw [(Z0 hR9 he9).1];exact hk9.len
     refine Qq (zR (zM ?_))
     refine zC ?_
     refine zM ?_
     refine Ze 2 rfl rfl rfl ?_
     refine zJ (Qa rfl ZR) ?_
     refine zJ (Qd rfl YW (fun hg=>by exact QG.imm h9.out rfl)) ?_
     refine zJ (Q9 rfl YJ) ?_
     refine zJ (Qh rfl) ?_
     refine zJ (QT rfl rfl rfl) ?_
     refine ZP rfl rfl rfl rfl rfl ?_
     refine zM ?_
     refine Ze 9 rfl rfl rfl ?_
     refine zJ (Qa rfl ZY) ?_
     refine zJ (Qa rfl Zk) ?_
     refine zJ (Qd rfl Zq (fun hg=>by exact QG.imm h9.out rfl)) ?_
     refine zJ (Q9 rfl Zl) ?_
     refine zJ (Qa rfl ZY) ?_
     refine zJ (Qa rfl Zk) ?_
     refine zJ (Qd rfl Zq (fun hg=>by exact QG.h1 rfl)) ?_
     refine zJ (Q9 rfl Zl) ?_
     refine zJ (VO rfl rfl rfl (fun hg=>by omega)) ?_
     refine zJ (QT rfl rfl rfl) ?_
     refine ZP rfl rfl rfl rfl rfl ?_
     refine zN ?_
     refine zI ?_ ?_<;>intro hc76
     ·
      have h:=hc76
      have h2:=(Z0 hR9 he9).2.1
      simp [hpn9] at h
      omega
     refine Qw (Qc (Qk ?_))
     refine zV (Qg rfl YE (fun hg=>by exact BxI.cells (vs:=[_,_,_]) h9) rfl) ?_
     refine zh YK ?_
     refine Qb ?_
     have hR7:=hR9
     have he7:=he9
     have hk7:=hk9
     have hs7:=hs.trans hs9
     have hl7:r9.qs.length=R.qs.length∨(r9.qs.length=R.qs.length+1∧k<on):=.inr ⟨hl9,hkn⟩
     exact zm (h:=⟨_,_,_,_,_,_,_,_,_,_,_,_,_,rfl,hKc8,rfl,hR7,he7,hk7,hs7,hl7⟩)
    have hR7:=hR
    have he7:=he
    have hk7:=hk
    have hs7:=hs
    have hl7:R.qs.length=R.qs.length∨(R.qs.length=R.qs.length+1∧k<on):=.inl rfl
    refine Qw ?_
    exact zm (h:=⟨_,_,_,_,_,_,_,_,_,_,_,_,_,rfl,hKc8,rfl,hR7,he7,hk7,hs7,hl7⟩)
   refine Qk (zM ?_)
   refine zM ?_
   refine zQ JT ?_
   refine zC ?_
   rw [show decide (((k:Nat):Int)<((on:Nat):Int))=false by simp;omega]
   refine zM ?_
   refine Vu (dj:=37) rfl rfl rfl rfl rfl ?_
   refine Vu (dj:=37) rfl rfl rfl rfl rfl ?_
   refine Vu (dj:=37) rfl rfl rfl rfl rfl ?_
   refine Vu (dj:=37) rfl rfl rfl rfl rfl ?_
   refine Vu (dj:=37) rfl rfl rfl rfl rfl ?_
   refine zV (Kl rfl rfl rfl) ?_
   refine zN ?_
   refine zI ?_ ?_<;>intro hc43
   ·
    cases hc43
   have hR7:=hR
   have he7:=he
   have hk7:=hk
   have hs7:=hs
   have hl7:R.qs.length=R.qs.length∨(R.qs.length=R.qs.length+1∧k<on):=.inl rfl
   refine Qw ?_
   exact zm (h:=⟨_,_,_,_,_,_,_,_,_,_,_,_,_,rfl,hKc8,rfl,hR7,he7,hk7,hs7,hl7⟩)
  rintro E J8 loc' ⟨pa2,pn2,pc2,qa2,qn2,qc2,aa2,an2,ac2,ps2,qs2,ks2,R2,rfl,hJ6,rfl,hR2,he2,hk2,hs2,hl2⟩
  have hB0:=hB0.trans hJ6
  have hqn2:qn2=R2.qs.length:=(Z0 hR2 he2).2.1
  obtain ⟨r8,hd8,hl8,hs8,hk8⟩:=hk2.dlv' (w:=w) ht (by omega) (by omega) (by omega) hqn2
  refine zR ?_
  refine zF ZY ?_
  refine zF Zk ?_
  refine zL Zq ?_
  refine zQ Zl ?_
  refine zA (zN ?_)
  refine zY [(1,_),(2,_),(4,_),(6,_),(7,_),(11,_)] (fun T L0 E I' loc'=>∃ (b8:Nat) (pa8:Option Addr) (pn8:Nat) (pc8:Nat) (qa8:Option Addr) (qn8:Nat) (qc8:Nat) (aa8:Option Addr) (an8:Nat) (ac8:Nat) (ps8:List Pe) (qs8:List Pk) (ks8:List (Int×Int)),E=(12,ZK b8)::(13,.int .i64 0)::T∧HLe J8 I'∧[(b_4,.cells #[.slice none 0 0,.slice none 0 0,.slice none 0 0] 28 (0,0)),(b_2,.cells #[.slice pa2 pn2 pc2,.slice qa2 qn2 qc2,.slice aa2 an2 ac2] 28 (0,0))]=loc'∧BxI I' b8 (.cells #[.slice pa8 pn8 pc8,.slice qa8 qn8 qc8,.slice aa8 an8 ac8] 28 (0,0))∧RmP I' pa8 pn8 pc8 qa8 qn8 qc8 aa8 an8 ac8 ps8 qs8 ks8∧Vr ps8 qs8 ks8=r8) ?_ ?_
  ·
   have hKc14:=zxd J8
   have hD:=zxd J8
   refine ZL ?_
   refine Q0 J8 [(b_4,.cells #[.slice none 0 0,.slice none 0 0,.slice none 0 0] 28 (0,0)),(b_2,.cells #[.slice pa2 pn2 pc2,.slice qa2 qn2 qc2,.slice aa2 an2 ac2] 28 (0,0))] mixed ?_
   refine zT 0 rfl (Qg rfl YE (fun hg=>by exact Cells.g1) rfl) hD ?_
   refine zT 1 rfl (Qh rfl) hD ?_
   refine zT 2 rfl (Qh rfl) hD ?_
   refine zT 3 rfl (Yg rfl rfl (fun hg=>by omega)) hD ?_
   refine zT 4 rfl (QZ (ps:=[(0,_),(3,_)]) [_,_,_,_,_,_,_,_,_,_,_,_,_,_,_,_,_,_,_,_,_,_,_,_,_,_,_,_,_,_,_,_,_,_,_,_,_,_,_,_,_,_,_,_,_,_,_,_,_] Xq rfl rfl) hD ?_
   refine Q8 5 9 rfl rfl (by kernel_rfl) ?_ ?_
   ·
    refine QE (cap:=[]) (vs:=[_,_]) rfl rfl KV .nil (XK hR2 he2 (hk2.sm (by omega) (by omega)) (evA 3 (w.tmod qn2)) (zni _ _ _) hd8) rfl rfl ?_
    rintro vv9 I9 L9 hI9 ⟨rfl,vr8,rfl,hV8⟩
    have hKc14:=hKc14.trans hI9;have hD:=hD.trans hI9
    obtain ⟨pa8,pn8,pc8,qa8,qn8,qc8,aa8,an8,ac8,ps8,qs8,rfl,hR8,he8⟩:=(show RmV _ vr8 (r8) from hV8)
    refine Qb ?_
    refine zD hD ?_
    refine zT 6 rfl (Qh rfl) hD ?_
    refine zT 7 rfl (Q3 rfl rfl) hD ?_
    refine zT 8 rfl (Q3 rfl rfl) hD ?_
    refine qd 9 rfl ?_
    refine Qt Kx rfl rfl (fun b_12=>?_)
    refine Qb ?_
    refine zD hD ?_
    refine qd 10 rfl ?_
    refine zh YK ?_
    refine Za (b:=b_12) (by repeat (first | exact Yd.here | apply Yd.there)) (fun I10 hI10 hb10=>?_)
    have hR8:=hR8.mono hI10;have hKc14:=hKc14.trans hI10;have hD:=hD.trans hI10
    have h8:=BxI.of hb10
    refine Qb ?_
    refine zD hD ?_
    refine zT 11 rfl (QC rfl) hD ?_
    refine Qm (by kernel_rfl) ?_
    refine Qy ?_
    exact zm (h:=⟨_,_,_,_,_,_,_,_,_,_,_,_,_,rfl,hKc14,rfl,h8,hR8,he8⟩)
   refine Qt Kx rfl rfl (fun b_12=>?_)
   refine Qb ?_
   refine zD hD ?_
   refine qd 5 rfl ?_
   refine QE (cap:=[]) (vs:=[_,_]) rfl rfl KV .nil (XK hR2 he2 (hk2.sm (by omega) (by omega)) (evA 3 (w.tmod qn2)) (zni _ _ _) hd8) rfl rfl ?_
   rintro vv11 I11 L11 hI11 ⟨rfl,vr8,rfl,hV8⟩
   have hKc14:=hKc14.trans hI11;have hD:=hD.trans hI11
   obtain ⟨pa8,pn8,pc8,qa8,qn8,qc8,aa8,an8,ac8,ps8,qs8,rfl,hR8,he8⟩:=(show RmV _ vr8 (r8) from hV8)
   refine Qb ?_
   refine zD hD ?_
   refine zT 6 rfl (Qh rfl) hD ?_
   refine zT 7 rfl (Q3 rfl rfl) hD ?_
   refine zT 8 rfl (Q3 rfl rfl) hD ?_
   refine qd 10 rfl ?_
   refine zh YK ?_
   refine Za (b:=b_12) (by repeat (first | exact Yd.here | apply Yd.there)) (fun I12 hI12 hb12=>?_)
   have hR8:=hR8.mono hI12;have hKc14:=hKc14.trans hI12;have hD:=hD.trans hI12
   have h8:=BxI.of hb12
   refine Qb ?_
   refine zD hD ?_
   refine zT 11 rfl (QC rfl) hD ?_
   refine Qm (by kernel_rfl) ?_
   refine Qy ?_
   exact zm (h:=⟨_,_,_,_,_,_,_,_,_,_,_,_,_,rfl,hKc14,rfl,h8,hR8,he8⟩)
  rintro E J13 loc' ⟨b8,pa8,pn8,pc8,qa8,qn8,qc8,aa8,an8,ac8,ps8,qs8,ks8,rfl,hJ8,rfl,h8,hR8,he8⟩
  have hB0:=hB0.trans hJ8
  have hpn8:pn8=pn0:=by rw [(Z0 hR8 he8).1];exact hk8.len
  refine Qq (zR (zM ?_))
  refine zC ?_
  refine zM ?_
  refine Ze 2 rfl rfl rfl ?_
  refine zJ (Qa rfl ZR) ?_
  refine zJ (Qd rfl YW (fun hg=>by exact QG.imm h8.out rfl)) ?_
  refine zJ (Q9 rfl YJ) ?_
  refine zJ (Qh rfl) ?_
  refine zJ (QT rfl rfl rfl) ?_
  refine ZP rfl rfl rfl rfl rfl ?_
  refine zM ?_
  refine Ze 9 rfl rfl rfl ?_
  refine zJ (Qa rfl ZY) ?_
  refine zJ (Qa rfl Zk) ?_
  refine zJ (Qd rfl Zq (fun hg=>by exact QG.imm h8.out rfl)) ?_
  refine zJ (Q9 rfl Zl) ?_
  refine zJ (Qh rfl) ?_
  refine zJ (VO rfl rfl rfl (fun hg=>by omega)) ?_
  refine zJ (QT rfl rfl rfl) ?_
  refine ZP rfl rfl rfl rfl rfl ?_
  refine zN ?_
  refine zI ?_ ?_<;>intro hc109
  ·
   have h:=hc109
   have h2:=(Z0 hR8 he8).2.1
   simp [hpn8] at h
   omega
  refine Qw (Qc (Qk ?_))
  refine zV (Qg rfl YE (fun hg=>by exact BxI.cells (vs:=[_,_,_]) h8) rfl) ?_
  refine zh YK ?_
  refine Qb (Qn (Qc (Qk (zM ?_))))
  refine zB ?_
  refine zA (Qb ?_)
  exact zm (h:=⟨(on-(k+1))+r8.qs.length,by omega,k+1,_,_,_,_,_,_,_,_,_,_,_,_,r8,rfl,rfl,hB0,rfl,hR8,he8,hk8,hs2.trans hs8,by omega,by omega⟩)
 have hq00:R.qs=[]:=by have h:=hc21;simp at h;exact List.eq_nil_of_length_eq_zero (by omega)
 refine Zy (Qs (Qs (QB (Qc (zR ?_)))))
 refine zV (Qg rfl YE (fun hg=>by exact Cells.g1) rfl) ?_
 refine zh YK ?_
 refine zA (zN (QF ?_))
 exact Z1 rfl rfl rfl YE .here rfl (fun w hw=>⟨_,J1,[],rfl,hIc,hw.subL Qe,rfl,_,R,rfl,⟨_,_,_,_,_,_,_,_,_,_,_,rfl,by rw [(Z0 hR he).2.2] at hR;exact hR,by rw [←(Z0 hR he).2.2];exact he⟩,hk,hq00,hs⟩)
end
section
open Go Go.Kn Go.Proofs
theorem zu5 {α β:Type}{f:α→β}{xs ys:List α}(h:xs.map f=ys.map f){k:Nat}{x y:α}(hx:xs[k]? =some x)(hy:ys[k]? =some y):f x=f y:=by
 have:=congrArg (·[k]?) h
 simp only [List.getElem?_map,hx,hy,Option.map_some,Option.some.injEq] at this
 exact this
theorem zqN {α β:Type}{f:α→β}{xs ys:List α}(h:xs.map f=ys.map f):xs.length=ys.length:=by
 have:=congrArg List.length h
 simpa using this
theorem znx {I:Qv}{a b:Option Addr}{n c m d:Nat}{xs ys:List Nt}(hS:K9 I a n c xs)(hT:K9 I b m d ys)(h:xs.map Z2=ys.map Z2):smL xs ys=true:=
 (zfu hS.nd hT.nd).2 h
theorem zjJ {I:Qv}{a:Option Addr}{n c:Nat}{xs:List Nt}(hS:K9 I a n c xs)(hv:Z3 (xs.map Z2)=true):∀ x∈xs,x.pt.n≤100000:=fun x hx=>
 znM (hS.nd x hx) ((V5 hv).2.1 _ (List.mem_map.2 ⟨x,hx,rfl⟩))
end
section
open Go Go.Kn Go.Proofs
theorem zv2 {I:Qv}{av bv:Option Addr}{n c m d:Nat}{xs ys:List Nt}(hS:K9 I av n c xs)(hT:K9 I bv m d ys)(h:xs.map Z2=ys.map Z2)(hsm:∀ x∈xs,x.pt.n≤100000)(hn:n≤100000):Yc Tryz.prog 31 [.slice av n c,.slice bv m d] I (.bool true):=by
 have h2:=zuN hS.sl hT.sl hS.nd hT.nd hsm hn
 rw [znx hS hT h] at h2;exact h2
end
section
open Go Go.Kn Go.Proofs
theorem zuz:Fun Tryz.prog 32:=.of Tryz.func32 (by kernel_rfl) (by kernel_rfl)
theorem zuV:Fun Tryz.prog 33:=.of Tryz.func33 (by kernel_rfl) (by kernel_rfl)
end
section
open Go Go.Kn Go.Proofs
def zbV (p:Pt):Pt:={p with a:=none,n:=p.needs.length,c:=0}
section
variable {α:Type} {num:Nt→Int} {prt:Nt→α} {kind:Int} {chk:List α→Int} {d:α} {f:α→α}
theorem zgd (m:List (Int×α))(k:Int):ZS (m.map fun p=>(p.1,f p.2)) k=(ZS m k).map f:=by
 induction m with
 | nil=>rfl
 | cons p m ih=>
  show ZS ((p.1,f p.2)::m.map _) k=_
  unfold ZS
  split
  ·
   rfl
  ·
   exact ih
theorem zmQ (h1:∀ x,num (Z2 x)=num x)(h2:∀ x,prt (Z2 x)=f (prt x))(xs:List Nt):Yi num prt kind (xs.map Z2)=(Yi num prt kind xs).map fun p=>(p.1,f p.2):=by
 have key:∀ (xs:List Nt) (m:List (Int×α)),(xs.map Z2).foldl (U5 num prt kind) (m.map fun p=>(p.1,f p.2))=(xs.foldl (U5 num prt kind) m).map fun p=>(p.1,f p.2):=by
  intro xs
  induction xs with
  | nil=>intro m;rfl
  | cons x xs ih=>
   intro m
   rw [List.map_cons,List.foldl_cons,List.foldl_cons,←ih]
   congr 1
   unfold U5
   rw [zgd,h1,h2,show (Z2 x).kind=x.kind from rfl,Option.isSome_map]
   split
   ·
    rw [List.map_append];rfl
   ·
    rfl
 exact key xs []
theorem znG (h1:∀ x,num (Z2 x)=num x)(h2:∀ x,prt (Z2 x)=f (prt x))(h3:∀ l,chk (l.map f)=chk l)(h4:f d=d)(xs:List Nt):zaq num prt kind chk d (xs.map Z2)=(zaq num prt kind chk d xs).map f:=by
 unfold zaq
 rw [zmQ h1 h2,List.map_map]
 have e1:((fun p:Int×α=>p.1) ∘ fun p:Int×α=>(p.1,f p.2))=fun p=>p.1:=rfl
 rw [e1]
 have key:∀ (ns:List Int) (l:List α),ns.foldl (zcH chk d ((Yi num prt kind xs).map fun p=>(p.1,f p.2))) (l.map f)=(ns.foldl (zcH chk d (Yi num prt kind xs)) l).map f:=by
  intro ns
  induction ns with
  | nil=>intro l;rfl
  | cons n ns ih=>
   intro l
   rw [List.foldl_cons,List.foldl_cons,←ih]
   congr 1
   unfold zcH
   rw [zgd]
   have e2:((ZS (Yi num prt kind xs) n).map f).getD d=f ((ZS (Yi num prt kind xs) n).getD d):=by
    cases ZS (Yi num prt kind xs) n with
    | none=>exact h4.symm
    | some _=>rfl
   rw [e2,show l.map f++[f ((ZS (Yi num prt kind xs) n).getD d)]=(l++[(ZS (Yi num prt kind xs) n).getD d]).map f by rw [List.map_append];rfl,h3]
   split<;>rfl
 exact key _ []
theorem znn (xs:List Nt):(zaq num prt kind chk d xs).length≤xs.length:=by
 have k1:∀ (xs:List Nt) (m:List (Int×α)),(xs.foldl (U5 num prt kind) m).length≤m.length+xs.length:=by
  intro xs
  induction xs with
  | nil=>intro m;simp
  | cons x xs ih=>
   intro m
   rw [List.foldl_cons]
   have h1:(U5 num prt kind m x).length≤m.length+1:=by unfold U5;split<;>simp
   have:=ih (U5 num prt kind m x)
   simp only [List.length_cons];omega
 have k2:∀ (ns:List Int) (m:List (Int×α)) (l:List α),(ns.foldl (zcH chk d m) l).length≤l.length+ns.length:=by
  intro ns m
  induction ns with
  | nil=>intro l;simp
  | cons n ns ih=>
   intro l
   rw [List.foldl_cons]
   have h1:(zcH chk d m l n).length≤l.length+1:=by unfold zcH;split<;>simp
   have:=ih (zcH chk d m l n)
   simp only [List.length_cons];omega
 unfold zaq zfK
 have h1:=k2 (Xd ((Yi num prt kind xs).map (·.1))) (Yi num prt kind xs) []
 have h2:=k1 xs []
 rw [zlM,List.length_map] at h1
 simp only [List.length_nil,Nat.zero_add] at h1 h2
 unfold Yi at h1
 exact Nat.le_trans h1 h2
end
theorem zmM (ps:List Pt)(n:Int):zfJ (ps.map zbV) n=zfJ ps n:=by
 unfold zfJ;rw [List.any_map];rfl
theorem zgq (ps:List Pt)(i:Nat):(ps.map zbV).getD i Jv=zbV (ps.getD i Jv):=by
 rw [List.getD_eq_getElem?_getD,List.getD_eq_getElem?_getD,List.getElem?_map]
 cases ps[i]? <;>rfl
theorem zrh (ps:List Pt):onF (ps.map zbV)=onF ps:=by
 unfold onF
 rw [List.foldl_map]
 congr 1
theorem zmN (ps:List Pt):X4 (ps.map zbV)=X4 ps:=by
 have e1:(ps.map zbV).map KL=ps.map KL:=by rw [List.map_map];rfl
 have e2:lsB (ps.map zbV)=lsB ps:=by
  unfold lsB
  rw [List.length_map]
  congr 1
  funext i
  unfold lsP
  rw [zgq,zgq]
  simp only [zmM]
  rfl
 have e3:zjp (ps.map zbV)=zjp ps:=by
  unfold zjp
  rw [zrh,List.all_map]
  congr 1
  funext p
  show ((ps.map zbV).all _)=_
  rw [List.all_map]
  rfl
 unfold X4
 rw [e1,e2,e3,List.length_map]
theorem zj6 (xs:List Nt):wPt (xs.map Z2)=(wPt xs).map zbV:=znG (num:=fun x=>x.pt.id) (prt:=fun x=>x.pt) (f:=zbV) (fun _=>rfl) (fun _=>rfl) zmN rfl xs
theorem zva {xs ys:List Nt}(h:xs.map Z2=ys.map Z2):(wPt xs).map zbV=(wPt ys).map zbV:=by rw [←zj6,h,zj6]
theorem zuW {xs ys:List Nt}(h:xs.map Z2=ys.map Z2):wLm xs=wLm ys:=by
 unfold wLm;rw [←KQ (fun _=>rfl) (fun _=>rfl) xs,h,KQ (fun _=>rfl) (fun _=>rfl) ys]
theorem zsn {xs ys:List Nt}(h:xs.map Z2=ys.map Z2):wLs xs=wLs ys:=by
 unfold wLs;rw [←KQ (fun _=>rfl) (fun _=>rfl) xs,h,KQ (fun _=>rfl) (fun _=>rfl) ys]
theorem zuR {xs ys:List Nt}(h:xs.map Z2=ys.map Z2):wRt xs=wRt ys:=by
 unfold wRt;rw [←KQ (fun _=>rfl) (fun _=>rfl) xs,h,KQ (fun _=>rfl) (fun _=>rfl) ys]
theorem zks {xs:List Nt}(h:∀ x∈xs,x.pt.n≤100000):∀ p∈wPt xs,p.n≤100000:=fun p hp=>by
 rcases zc7 p hp with rfl | ⟨x,hx,rfl⟩
 ·
  exact Nat.zero_le _
 ·
  exact h x hx
theorem zqp {I:Qv}{p q:Pt}(hp:Nd I p)(hq:Nd I q)(h:zbV p=zbV q):smP p q=true:=by
 have l1:p.needs.length=p.n:=hp.len
 have l2:q.needs.length=q.n:=hq.len
 obtain ⟨i,kd,s,fd,nw,a,n,c,nd⟩:=p
 obtain ⟨i',kd',s',fd',nw',a',n',c',nd'⟩:=q
 simp only [zbV,Pt.mk.injEq] at h
 obtain ⟨rfl,rfl,rfl,rfl,rfl,_,h2,_,rfl⟩:=h
 dsimp only at l1 l2
 subst l1;subst l2
 unfold smP smC
 have e:zlZ nw nw=true:=zcJ.2 rfl
 simp [e]
/-! ### Everybody sends to everybody -/
def JQ (m:Nat)(r1 r:Rd)(i j:Nat):Prop:=r.ps=r1.ps∧∀ (k:Nat) (y:Nt),k<m→(Has r k y↔Has r1 k y∨∃ (l:Nat) (xs:List Nt),r1.ps[l]? =some xs∧y∈xs∧l≠k∧(l<i∨(l=i∧k<j)))
theorem JQ.zero (m:Nat)(r:Rd):JQ m r r 0 0:=⟨rfl,fun k y _=>⟨.inl,fun h=>h.elim id fun ⟨l,xs,_,_,_,h⟩=>by omega⟩⟩
theorem JQ.skip {m:Nat}{r1 r:Rd}{i:Nat}(h:JQ m r1 r i i):JQ m r1 r i (i+1):=⟨h.1,fun k y hk=>(h.2 k y hk).trans ⟨fun q=>q.imp id fun ⟨l,xs,a,b,c,d⟩=>⟨l,xs,a,b,c,by omega⟩,fun q=>q.imp id fun ⟨l,xs,a,b,c,d⟩=>⟨l,xs,a,b,c,by omega⟩⟩⟩
theorem JQ.row {m:Nat}{r1 r:Rd}{i:Nat}(h:JQ m r1 r i m):JQ m r1 r (i+1) 0:=⟨h.1,fun k y hk=>(h.2 k y hk).trans ⟨fun q=>q.imp id fun ⟨l,xs,a,b,c,d⟩=>⟨l,xs,a,b,c,by omega⟩,fun q=>q.imp id fun ⟨l,xs,a,b,c,d⟩=>⟨l,xs,a,b,c,by omega⟩⟩⟩
theorem JQ.step {m:Nat}{r1 r r':Rd}{i j:Nat}{xs:List Nt}(h:JQ m r1 r i j)(hne:i≠j)(hx:r.ps[i]? =some xs)(hp:r'.ps=r.ps)(hh:∀ k y,Has r' k y↔Has r k y∨(k=j∧y∈xs)):JQ m r1 r' i (j+1):=by
 refine ⟨hp.trans h.1,fun k y hk=>(hh k y).trans ?_⟩
 rw [h.2 k y hk]
 have hx1:r1.ps[i]? =some xs:=by rw [←h.1];exact hx
 constructor
 ·
  rintro ((q | ⟨l,zs,a,b,c,d⟩) | ⟨rfl,hy⟩)
  ·
   exact .inl q
  ·
   exact .inr ⟨l,zs,a,b,c,by omega⟩
  ·
   exact .inr ⟨i,xs,hx1,hy,hne,by omega⟩
 ·
  rintro (q | ⟨l,zs,a,b,c,d⟩)
  ·
   exact .inl (.inl q)
  ·
   by_cases e:l=i∧k=j
   ·
    obtain ⟨rfl,rfl⟩:=e
    rw [hx1] at a;cases a
    exact .inr ⟨rfl,b⟩
   ·
    exact .inl (.inr ⟨l,zs,a,b,c,by omega⟩)
theorem zf5 {I:Qv}{m k:Nat}{r1 r r':Rd}{ts us:List Nt}{a:Option Addr}{n c:Nat}(hK:Kn m r1 ts)(hr:Kr r1 ts)(hT:TlS I a n c us ts)(hs:JQ m r1 r m 0)(hD:Dn m r r' ts){xs:List Nt}(hx:r'.ps[k]? =some xs):xs=us.map Z2:=by
 have hk:k<m:=by have:=(List.getElem?_eq_some_iff.1 hx).1;rw [hD.kn.len] at this;exact this
 refine zmc (V5 (hD.kn.val _ (List.mem_of_getElem? hx))).1 (zon (List.pairwise_map.2 ((zeg hT.srt).imp fun {a b} h=>by rw [X7];exact h))) fun y=>?_
 rw [List.mem_map,hT.mem]
 constructor
 ·
  exact fun hy=>hD.kn.mem _ (List.mem_of_getElem? hx) y hy
 ·
  rintro ⟨t,ht,rfl⟩
  obtain ⟨i,zs,h1,h2⟩:=hr t ht
  rw [hD.mem hx,hs.2 k _ hk]
  by_cases e:i=k
  ·
   subst e;exact .inl (.inl ⟨zs,h1,h2⟩)
  ·
   have hi:=(List.getElem?_eq_some_iff.1 h1).1
   rw [hK.len] at hi
   exact .inr ⟨i,zs,h1,h2,e,.inl hi⟩
def evS (i j:Int):Ev:=⟨2,i,j,0,zbD⟩
theorem zvR (I:Qv)(i j:Int):EvM I (evS i j):=⟨Sl.nil,Um⟩
theorem Kn.syn' {m:Nat}{r:Rd}{told:List Nt}(h:Kn m r told)(hq:r.qs.length≤3000){i j:Nat}(h1:i<m)(h2:j<m)(hne:i≠j){xs:List Nt}(hx:r.ps[i]? =some xs):
  ∃ r',doF r (Yx (evS i j))=(0,r')∧r'.ps=r.ps∧r'.qs.length=r.qs.length+xs.length∧(∀ k y,Has r' k y↔Has r k y∨(k=j∧y∈xs))∧Kn m r' told:=by
 obtain ⟨r',a,b,c,d⟩:=h.syn (x:=evS i j) (by omega) rfl (i:=i) (j:=j) rfl rfl h1 h2 hne hx
 exact ⟨r',a,b,c,d,by have:=(h.step (x:=evS i j) (by omega) (fun e=>by cases e) a).1;exact this⟩
end
section
open Go Go.Kn Go.Proofs
theorem zty:Fun Tryz.prog 26:=.of Tryz.func26 (by kernel_rfl) (by kernel_rfl)
theorem ztH:Fun Tryz.prog 27:=.of Tryz.func27 (by kernel_rfl) (by kernel_rfl)
theorem zsN:Fun Tryz.prog 28:=.of Tryz.func28 (by kernel_rfl) (by kernel_rfl)
theorem ztm:Fun Tryz.prog 29:=.of Tryz.func29 (by kernel_rfl) (by kernel_rfl)
theorem zvA {I:Qv}{av bv:Option Addr}{n c m d:Nat}{xs:List Lm}(hS:Sl I 9 ZJ av n c xs)(hT:Sl I 9 ZJ bv m d xs)(hn:n≤100000):Yc Tryz.prog 26 [.slice av n c,.slice bv m d] I (.bool true):=by
 intro g H w hw
 refine qe Tryz.func26 Tryz.ntmps26 hw ?_
 have hl1:=hS.len
 have hl2:=hT.len
 refine zR (zA (zN (Qq (zR ?_))))
 refine zM ?_
 refine zQ Yu ?_
 refine zM ?_
 refine zQ Yu ?_
 refine zC (zN ?_)
 refine zI ?_ ?_<;>intro hc10
 ·
  have h:=hc10
  simp at h
  omega
 refine Qw (Qc (Qq (zR (zA (zN (QD ?_))))))
 refine zU [(0,_),(1,_)] (fun T L0 mz E I' loc'=>∃ (k:Nat),mz=n-k∧E=(5,.int .i64 k)::T∧I=I'∧L0=loc'∧k≤n) ?_ (h:=⟨0,rfl,rfl,rfl,rfl,Nat.zero_le _⟩)
 rintro mz E I' loc' ⟨k,rfl,rfl,rfl,rfl,hk⟩
 refine Qq (zR (zM ?_))
 refine zM ?_
 refine zQ Yu ?_
 refine zC (zN ?_)
 refine zI ?_ ?_<;>intro hc14
 ·
  have hlt_k:k<n:=by have h:=hc14;simp at h;omega
  obtain ⟨x,hx⟩:∃ y,xs[k]? =some y:=⟨_,List.getElem?_eq_getElem (by omega)⟩
  refine Qw (Qc (Qq (QD (Qq ?_))))
  have hD:=zxd I
  refine Xc mixed ?_
  refine zT 0 rfl (Qh rfl) hD ?_
  refine zT 1 rfl (Qh rfl) hD ?_
  refine zT 2 rfl (zX Yu hS) hD ?_
  refine zT 3 rfl (Qg rfl Kt (fun hg=>by exact zxe hS hx) rfl) hD ?_
  refine zT 4 rfl (Qh rfl) hD ?_
  refine zT 5 rfl (Qh rfl) hD ?_
  refine zT 6 rfl (zX Yu hT) hD ?_
  refine zT 7 rfl (Qg rfl Kt (fun hg=>by exact zxe hT hx) rfl) hD ?_
  refine zT 8 rfl (ziK rfl rfl ze7 rfl) hD ?_
  refine Qm (by kernel_rfl) ?_
  refine Qy ?_
  refine Qc ?_
  refine zI ?_ ?_<;>intro hc25
  ·
   exact absurd hc25 (by simp [UC])
  refine Qw (Qn (Qc (Qk (zM ?_))))
  refine zB ?_
  refine zA (Qb ?_)
  exact zm (h:=⟨n-(k+1),by omega,k+1,rfl,rfl,rfl,rfl,by omega⟩)
 have hge_k:n≤k:=by have h:=hc14;simp at h;omega
 refine Zy (Qs (Qs (QB (Qc (zR (zA (zN ?_)))))))
 refine QF ?_
 exact QP rfl rfl (fun w hw=>⟨by rfl,hw⟩)
theorem zvS {I:Qv}{av bv:Option Addr}{n c m d:Nat}{xs:List L.Ls}(hS:Sl I 5 L.encL av n c xs)(hT:Sl I 5 L.encL bv m d xs)(hn:n≤100000):Yc Tryz.prog 27 [.slice av n c,.slice bv m d] I (.bool true):=by
 intro g H w hw
 refine qe Tryz.func27 Tryz.ntmps27 hw ?_
 have hl1:=hS.len
 have hl2:=hT.len
 refine zR (zA (zN (Qq (zR ?_))))
 refine zM ?_
 refine zQ JY ?_
 refine zM ?_
 refine zQ JY ?_
 refine zC (zN ?_)
 refine zI ?_ ?_<;>intro hc10
 ·
  have h:=hc10
  simp at h
  omega
 refine Qw (Qc (Qq (zR (zA (zN (QD ?_))))))
 refine zU [(0,_),(1,_)] (fun T L0 mz E I' loc'=>∃ (k:Nat),mz=n-k∧E=(5,.int .i64 k)::T∧I=I'∧L0=loc'∧k≤n) ?_ (h:=⟨0,rfl,rfl,rfl,rfl,Nat.zero_le _⟩)
 rintro mz E I' loc' ⟨k,rfl,rfl,rfl,rfl,hk⟩
 refine Qq (zR (zM ?_))
 refine zM ?_
 refine zQ JY ?_
 refine zC (zN ?_)
 refine zI ?_ ?_<;>intro hc14
 ·
  have hlt_k:k<n:=by have h:=hc14;simp at h;omega
  obtain ⟨x,hx⟩:∃ y,xs[k]? =some y:=⟨_,List.getElem?_eq_getElem (by omega)⟩
  refine Qw (Qc (Qq (QD (Qq ?_))))
  have hD:=zxd I
  refine Xc mixed ?_
  refine zT 0 rfl (Qh rfl) hD ?_
  refine zT 1 rfl (Qh rfl) hD ?_
  refine zT 2 rfl (zX JY hS) hD ?_
  refine zT 3 rfl (Qg rfl JZ (fun hg=>by exact zxe hS hx) rfl) hD ?_
  refine zT 4 rfl (Qh rfl) hD ?_
  refine zT 5 rfl (Qh rfl) hD ?_
  refine zT 6 rfl (zX JY hT) hD ?_
  refine zT 7 rfl (Qg rfl JZ (fun hg=>by exact zxe hT hx) rfl) hD ?_
  refine zT 8 rfl (zjf rfl rfl zgs rfl) hD ?_
  refine Qm (by kernel_rfl) ?_
  refine Qy ?_
  refine Qc ?_
  refine zI ?_ ?_<;>intro hc25
  ·
   exact absurd hc25 (by simp [UC])
  refine Qw (Qn (Qc (Qk (zM ?_))))
  refine zB ?_
  refine zA (Qb ?_)
  exact zm (h:=⟨n-(k+1),by omega,k+1,rfl,rfl,rfl,rfl,by omega⟩)
 have hge_k:n≤k:=by have h:=hc14;simp at h;omega
 refine Zy (Qs (Qs (QB (Qc (zR (zA (zN ?_)))))))
 refine QF ?_
 exact QP rfl rfl (fun w hw=>⟨by rfl,hw⟩)
theorem zvO {I:Qv}{av bv:Option Addr}{n c m d:Nat}{xs:List S.Rt}(hS:Sl I 11 S.encR av n c xs)(hT:Sl I 11 S.encR bv m d xs)(hn:n≤100000):Yc Tryz.prog 29 [.slice av n c,.slice bv m d] I (.bool true):=by
 intro g H w hw
 refine qe Tryz.func29 Tryz.ntmps29 hw ?_
 have hl1:=hS.len
 have hl2:=hT.len
 refine zR (zA (zN (Qq (zR ?_))))
 refine zM ?_
 refine zQ YA ?_
 refine zM ?_
 refine zQ YA ?_
 refine zC (zN ?_)
 refine zI ?_ ?_<;>intro hc10
 ·
  have h:=hc10
  simp at h
  omega
 refine Qw (Qc (Qq (zR (zA (zN (QD ?_))))))
 refine zU [(0,_),(1,_)] (fun T L0 mz E I' loc'=>∃ (k:Nat),mz=n-k∧E=(5,.int .i64 k)::T∧I=I'∧L0=loc'∧k≤n) ?_ (h:=⟨0,rfl,rfl,rfl,rfl,Nat.zero_le _⟩)
 rintro mz E I' loc' ⟨k,rfl,rfl,rfl,rfl,hk⟩
 refine Qq (zR (zM ?_))
 refine zM ?_
 refine zQ YA ?_
 refine zC (zN ?_)
 refine zI ?_ ?_<;>intro hc14
 ·
  have hlt_k:k<n:=by have h:=hc14;simp at h;omega
  obtain ⟨x,hx⟩:∃ y,xs[k]? =some y:=⟨_,List.getElem?_eq_getElem (by omega)⟩
  refine Qw (Qc (Qq (QD (Qq ?_))))
  have hD:=zxd I
  refine Xc mixed ?_
  refine zT 0 rfl (Qh rfl) hD ?_
  refine zT 1 rfl (Qh rfl) hD ?_
  refine zT 2 rfl (zX YA hS) hD ?_
  refine zT 3 rfl (Qg rfl Vn (fun hg=>by exact zxe hS hx) rfl) hD ?_
  refine zT 4 rfl (Qh rfl) hD ?_
  refine zT 5 rfl (Qh rfl) hD ?_
  refine zT 6 rfl (zX YA hT) hD ?_
  refine zT 7 rfl (Qg rfl Vn (fun hg=>by exact zxe hT hx) rfl) hD ?_
  refine zT 8 rfl (zjf rfl rfl Xo rfl) hD ?_
  refine Qm (by kernel_rfl) ?_
  refine Qy ?_
  refine Qc ?_
  refine zI ?_ ?_<;>intro hc25
  ·
   exact absurd hc25 (by simp [UC])
  refine Qw (Qn (Qc (Qk (zM ?_))))
  refine zB ?_
  refine zA (Qb ?_)
  exact zm (h:=⟨n-(k+1),by omega,k+1,rfl,rfl,rfl,rfl,by omega⟩)
 have hge_k:n≤k:=by have h:=hc14;simp at h;omega
 refine Zy (Qs (Qs (QB (Qc (zR (zA (zN ?_)))))))
 refine QF ?_
 exact QP rfl rfl (fun w hw=>⟨by rfl,hw⟩)
theorem zvf {I:Qv}{p q:Pt}(hP:Nd I p)(hQ:Nd I q)(hn:p.n≤100000)(h:zbV p=zbV q):Yc Tryz.prog 85 [KW p,KW q] I (.bool true):=by
 have h2:=zsP hP hQ hn
 rw [zqp hP hQ h] at h2;exact h2
theorem zvH {I:Qv}{av bv:Option Addr}{n c m d:Nat}{xs ys:List Pt}(hS:SlP I av n c xs)(hT:SlP I bv m d ys)(he:xs.map zbV=ys.map zbV)(hsm:∀ p∈xs,p.n≤100000)(hn:n≤100000):Yc Tryz.prog 28 [.slice av n c,.slice bv m d] I (.bool true):=by
 intro g H w hw
 refine qe Tryz.func28 Tryz.ntmps28 hw ?_
 have hl1:=hS.1.len
 have hl2:=hT.1.len
 have hl3:=zqN he
 refine zR (zA (zN (Qq (zR ?_))))
 refine zM ?_
 refine zQ V4 ?_
 refine zM ?_
 refine zQ V4 ?_
 refine zC (zN ?_)
 refine zI ?_ ?_<;>intro hc10
 ·
  have h:=hc10
  simp at h
  omega
 refine Qw (Qc (Qq (zR (zA (zN (QD ?_))))))
 refine zU [(0,_),(1,_)] (fun T L0 mz E I' loc'=>∃ (k:Nat),mz=n-k∧E=(5,.int .i64 k)::T∧I=I'∧L0=loc'∧k≤n) ?_ (h:=⟨0,rfl,rfl,rfl,rfl,Nat.zero_le _⟩)
 rintro mz E I' loc' ⟨k,rfl,rfl,rfl,rfl,hk⟩
 refine Qq (zR (zM ?_))
 refine zM ?_
 refine zQ V4 ?_
 refine zC (zN ?_)
 refine zI ?_ ?_<;>intro hc14
 ·
  have hlt_k:k<n:=by have h:=hc14;simp at h;omega
  obtain ⟨x,hx⟩:∃ y,xs[k]? =some y:=⟨_,List.getElem?_eq_getElem (by omega)⟩
  obtain ⟨y,hy⟩:∃ y,ys[k]? =some y:=⟨_,List.getElem?_eq_getElem (by omega)⟩
  refine Qw (Qc (Qq (QD (Qq ?_))))
  have hD:=zxd I
  refine ZL ?_
  refine Q0 I [] mixed ?_
  refine zT 0 rfl (Qh rfl) hD ?_
  refine zT 1 rfl (Qh rfl) hD ?_
  refine zT 2 rfl (QV rfl rfl V4 hS.1 (fun hg=>by omega)) hD ?_
  refine zT 3 rfl (Qg rfl JA (fun hg=>by exact zxe hS.1 hx) rfl) hD ?_
  refine zT 4 rfl (Qh rfl) hD ?_
  refine zT 5 rfl (Qh rfl) hD ?_
  refine zT 6 rfl (QV rfl rfl V4 hT.1 (fun hg=>by omega)) hD ?_
  refine zT 7 rfl (Qg rfl JA (fun hg=>by exact zxe hT.1 hy) rfl) hD ?_
  refine qd 8 rfl ?_
  refine qcV (vs:=[_,_]) rfl zoK (zvf (hS.2 x (List.mem_of_getElem? hx)) (hT.2 y (List.mem_of_getElem? hy)) (hsm x (List.mem_of_getElem? hx)) (zu5 he hx hy)) ?_
  refine Qb ?_
  refine zD hD ?_
  refine zT 9 rfl (Yz rfl) hD ?_
  refine Qm (by kernel_rfl) ?_
  refine Qy ?_
  refine Qc ?_
  refine zI ?_ ?_<;>intro hc26
  ·
   cases hc26
  refine Qw (Qn (Qc (Qk (zM ?_))))
  refine zB ?_
  refine zA (Qb ?_)
  exact zm (h:=⟨n-(k+1),by omega,k+1,rfl,rfl,rfl,rfl,by omega⟩)
 have hge_k:n≤k:=by have h:=hc14;simp at h;omega
 refine Zy (Qs (Qs (QB (Qc (zR (zA (zN ?_)))))))
 refine QF ?_
 exact QP rfl rfl (fun w hw=>⟨by rfl,hw⟩)
theorem zsU {I:Qv}{av bv:Option Addr}{n c m d:Nat}{xs ys:List Nt}(hP:K9 I av n c xs)(hQ:K9 I bv m d ys)(he:xs.map Z2=ys.map Z2)(hv:Z3 xs=true)(hv2:Z3 ys=true)(hsm:∀ x∈xs,x.pt.n≤100000)(hn:n≤100000)(hm:m≤100000):Vi Tryz.prog 34 [.agg #[.slice av n c],.agg #[.slice bv m d]] I [] (fun v I' L'=>L'=[]∧v= .bool true):=by
 intro g H w hw
 refine qe Tryz.func34 Tryz.ntmps34 hw ?_
 have hIc:=zxd I
 have hlx:=hP.sl.len
 have tkl:∀ {α:Type} {num:Nt→Int} {prt:Nt→α} {kind:Int} {chk:List α→Int} {d:α} {q:Nat},(zaq num prt kind chk d xs).length=q→q≤100000:=fun {α num prt kind chk d q} h=>by have h2:=znn (num:=num) (prt:=prt) (kind:=kind) (chk:=chk) (d:=d) xs;omega
 refine zR ?_
 refine Zh rfl rfl rfl (fun b_2=>?_)
 refine Zh rfl rfl rfl (fun b_3=>?_)
 refine zA (Qb ?_)
 refine QO .here (fun I1 hI1 hb1=>?_)
 have hP:=hP.mono hI1;have hQ:=hQ.mono hI1;have hIc:=hIc.trans hI1
 have h3:=BxI.of hb1
 refine QO .here (fun I2 hI2 hb2=>?_)
 have hP:=hP.mono hI2;have hQ:=hQ.mono hI2;have h3:=h3.mono hI2;have hIc:=hIc.trans hI2
 have h2:=BxI.of hb2
 refine Qc (zR ?_)
 refine zV (Qg rfl Jm (fun hg=>by exact BxI.cells (vs:=[_]) h2) rfl) ?_
 refine QE (cap:=[]) (vs:=[_]) rfl rfl zgU .nil (zdg hP hn) rfl rfl ?_
 rintro vv3 I3 L3 hI3 hWa
 have hQ:=hQ.mono hI3;have h3:=h3.mono hI3;have hIc:=hIc.trans hI3
 obtain ⟨rfl,aa1,na1,ca1,aa2,na2,ca2,aa3,na3,ca3,aa4,na4,ca4,rfl,hSa1,hSa2,hSa3,hSa4⟩:=zdd hWa hv
 refine zM ?_
 refine zE ?_
 refine zE ?_
 refine zE ?_
 refine zE ?_
 refine zE ?_
 refine zA ?_
 refine zA ?_
 refine zA ?_
 refine zA ?_
 refine zA ?_
 refine zN (zR ?_)
 refine zV (Qg rfl Jm (fun hg=>by exact BxI.cells (vs:=[_]) h3) rfl) ?_
 refine QE (cap:=[]) (vs:=[_]) rfl rfl zgU .nil (zdg hQ hm) rfl rfl ?_
 rintro vv4 I4 L4 hI4 hWb
 have hSa1:=hSa1.mono hI4;have hSa2:=hSa2.mono hI4;have hSa3:=hSa3.mono hI4;have hSa4:=hSa4.mono hI4;have hIc:=hIc.trans hI4
 obtain ⟨rfl,ab1,nb1,cb1,ab2,nb2,cb2,ab3,nb3,cb3,ab4,nb4,cb4,rfl,hSb1,hSb2,hSb3,hSb4⟩:=zdd hWb hv2
 rw [←zuW he] at hSb1
 rw [←zsn he] at hSb2
 rw [←zuR he] at hSb4
 refine zM ?_
 refine zE ?_
 refine zE ?_
 refine zE ?_
 refine zE ?_
 refine zE ?_
 refine zA ?_
 refine zA ?_
 refine zA ?_
 refine zA ?_
 refine zA ?_
 refine zN (zR ?_)
 refine zM ?_
 refine zC ?_
 refine zM ?_
 refine Q6 (dj:=33) rfl rfl rfl ?_
 refine zM ?_
 refine Q6 (dj:=33) rfl rfl rfl ?_
 refine zC ?_
 refine zV (Zv rfl rfl rfl) ?_
 refine zM ?_
 refine Q6 (dj:=37) rfl rfl rfl ?_
 refine zM ?_
 refine Q6 (dj:=37) rfl rfl rfl ?_
 refine zM ?_
 refine Q6 (dj:=37) rfl rfl rfl ?_
 refine qcV (vs:=[_,_]) rfl zty (zvA hSa1 hSb1 (tkl hSa1.len)) ?_
 refine zV (Zv rfl rfl rfl) ?_
 refine zM ?_
 refine Q6 (dj:=42) rfl rfl rfl ?_
 refine zM ?_
 refine Q6 (dj:=42) rfl rfl rfl ?_
 refine zM ?_
 refine Q6 (dj:=42) rfl rfl rfl ?_
 refine qcV (vs:=[_,_]) rfl ztH (zvS hSa2 hSb2 (tkl hSa2.len)) ?_
 refine zV (Zv rfl rfl rfl) ?_
 refine zM ?_
 refine Q6 (dj:=47) rfl rfl rfl ?_
 refine zM ?_
 refine Q6 (dj:=47) rfl rfl rfl ?_
 refine zM ?_
 refine Q6 (dj:=47) rfl rfl rfl ?_
 refine qcV (vs:=[_,_]) rfl zsN (zvH hSa3 hSb3 (zva he) (zks hsm) (tkl hSa3.1.len)) ?_
 refine zV (Zv rfl rfl rfl) ?_
 refine zM ?_
 refine Q6 (dj:=52) rfl rfl rfl ?_
 refine zM ?_
 refine Q6 (dj:=52) rfl rfl rfl ?_
 refine zM ?_
 refine Q6 (dj:=52) rfl rfl rfl ?_
 refine qcV (vs:=[_,_]) rfl ztm (zvO hSa4 hSb4 (tkl hSa4.len)) ?_
 refine zV (Zv rfl rfl rfl) ?_
 refine zA (zN (QF ?_))
 exact QP rfl rfl (fun w hw=>⟨_,I4,[],rfl,hIc,hw.subL Qe,rfl,by rfl⟩)
end
section
open Go Go.Kn Go.Proofs
theorem zul:Fun Tryz.prog 34:=.of Tryz.func34 (by kernel_rfl) (by kernel_rfl)
set_option maxRecDepth 100000 in
set_option maxHeartbeats 4000000 in
theorem zht {I:Qv} {av:Option Addr} {n c:Nat} {xs:List Ev} (hE:EvS I av n c xs) (rm:Int) (hr:0≤rm∧rm≤255) {ob:Option Addr} {on oc:Nat} {os2:List Nat} (hY:Sl I 1 VL ob on oc os2) (hy8:∀ y∈os2,y≤255):Yc Tryz.prog 5 [.int .u8 rm,.slice av n c,.slice ob on oc] I (.bool true):=by
 intro g H w hw
 refine qe Tryz.func5 Tryz.ntmps5 hw ?_
 have hIc:=zxd I
 have hln:=hE.sl.len
 obtain ⟨M,hM,hM1,hM4⟩:=zsD hr
 refine zR (zA (zN (Qq (zR ?_))))
 refine qcV (vs:=[]) rfl zsT (zs3 I) ?_
 refine zO (zN ?_)
 refine zI ?_ ?_<;>intro hc19
 ·
  cases hc19
 refine Qw (Qc (Qq (zR (zM ?_))))
 refine zQ zjd ?_
 refine zC ?_
 refine zM ?_
 refine Ze 3 rfl rfl rfl ?_
 refine zJ (Qh rfl) ?_
 refine zJ (Q9 rfl JT) ?_
 refine zJ (QT rfl rfl rfl) ?_
 refine ZP rfl rfl rfl rfl rfl ?_
 refine zN ?_
 refine zI ?_ ?_<;>intro hc27
 ·
  refine zR (zA (zN (QF (Qi ?_))))
  exact QP rfl rfl (fun w hw=>⟨by rfl,(hw.mono hIc).subL Qe⟩)
 have hnn:n≤14∧on≤100:=by have h:=hc27;simp at h;omega
 obtain ⟨hn14,hon⟩:=hnn
 refine Qw (Qc (zR (zM ?_)))
 refine zV (Z6 rfl ze8) ?_
 rw [Vk (n:=rm) (by omega)]
 refine zV (Yg rfl rfl (fun hg=>by decide)) ?_
 refine zB ?_
 rw [hM]
 refine zM ?_
 refine QE (cap:=[]) (vs:=[_,_]) rfl rfl zuz .nil (zrp hE hn14 hM1 hM4) rfl rfl ?_
 rintro vv1 I1 L1 hI1 ⟨rfl,vr1,ta,tn,tc,us,R1,ts,rfl,hV1,hK1,hT1,hKr1⟩
 have hE:=hE.mono hI1;have hY:=hY.mono hI1;have hIc:=hIc.trans hI1
 obtain ⟨pa1,pn1,pc1,qa1,qn1,qc1,aa1,an1,ac1,ps1,qs1,rfl,hR1,he1⟩:=(show RmV _ vr1 (R1) from hV1)
 obtain rfl:M=pn1:=by rw [(Z0 hR1 he1).1];exact hK1.kn.len.symm
 have htl:=hK1.tl
 refine zM ?_
 refine zE ?_
 refine zE ?_
 refine zE ?_
 refine Qt Kx rfl rfl (fun b_7=>?_)
 refine zh YK ?_
 refine zA ?_
 refine zA (Qb ?_)
 skip
 refine Qc (Qq (zR (zM ?_)))
 refine zO (zN ?_)
 refine zI ?_ ?_<;>intro hc39
 ·
  cases hc39
 refine Qw (Qc (zR ?_))
 refine zF ZR ?_
 refine zL YW ?_
 refine zQ YJ ?_
 refine zA (zN (Qq (zR ?_)))
 refine zM ?_
 refine zM (zN (QD ?_))
 refine zU [(2,_),(7,_),(8,_),(10,_),(43,_)] (fun T L0 mz E I' loc'=>∃ (i:Nat) (pa:Option Addr) (pn:Nat) (pc:Nat) (qa:Option Addr) (qn:Nat) (qc:Nat) (aa:Option Addr) (an:Nat) (ac:Nat) (ps:List Pe) (qs:List Pk) (ks:List (Int×Int)) (R:Rd),mz=M-i∧E=(44,.int .i64 i)::T∧HLe I1 I'∧[(b_7,.cells #[.slice pa pn pc,.slice qa qn qc,.slice aa an ac] 28 (0,0))]=loc'∧i≤M∧RmP I' pa pn pc qa qn qc aa an ac ps qs ks∧Vr ps qs ks=R∧Kn M R ts∧JQ M R1 R i 0∧R.qs.length≤196+14*(4*i+0)) ?_ (h:=⟨0,_,_,_,_,_,_,_,_,_,_,_,_,R1,rfl,rfl,zxd _,rfl,Nat.zero_le _,hR1,he1,hK1.kn,JQ.zero _ _,by have h:=hK1.ql;omega⟩)
 rintro mz E J2 loc' ⟨i,pa,pn,pc,qa,qn,qc,aa,an,ac,ps,qs,ks,R,rfl,rfl,hJ,rfl,hi,hRo,heo,hko,hso,hqo⟩
 have hE:=hE.mono hJ;have hY:=hY.mono hJ;have hR1:=hR1.mono hJ;have hT1:=hT1.mono hJ;have hIc:=hIc.trans hJ
 have hB0:=hJ
 refine zR (zC (zN (Qq ?_)))
 refine zI ?_ ?_<;>intro hc45
 ·
  have hlt_i:i<M:=by have h:=hc45;simp at h;omega
  refine Qw (Qc (Qq (QD (zR (zM ?_)))))
  refine zA ?_
  refine zN (zR ?_)
  refine zM ?_
  refine zM (zN (QD ?_))
  refine zU [(2,_),(7,_),(8,_),(10,_),(11,_),(43,_),(44,_),(47,_)] (fun T L0 mz E I' loc'=>∃ (j:Nat) (pa:Option Addr) (pn:Nat) (pc:Nat) (qa:Option Addr) (qn:Nat) (qc:Nat) (aa:Option Addr) (an:Nat) (ac:Nat) (ps:List Pe) (qs:List Pk) (ks:List (Int×Int)) (R:Rd),mz=M-j∧E=(48,.int .i64 j)::T∧HLe J2 I'∧[(b_7,.cells #[.slice pa pn pc,.slice qa qn qc,.slice aa an ac] 28 (0,0))]=loc'∧j≤M∧RmP I' pa pn pc qa qn qc aa an ac ps qs ks∧Vr ps qs ks=R∧Kn M R ts∧JQ M R1 R i j∧R.qs.length≤196+14*(4*i+j)) ?_ (h:=⟨0,_,_,_,_,_,_,_,_,_,_,_,_,_,rfl,rfl,zxd _,rfl,Nat.zero_le _,hRo,heo,hko,hso,hqo⟩)
  rintro mz E J3 loc' ⟨j,pa,pn,pc,qa,qn,qc,aa,an,ac,ps,qs,ks,R,rfl,rfl,hJ,rfl,hj,hR,he,hk,hs,hql⟩
  have hE:=hE.mono hJ;have hY:=hY.mono hJ;have hR1:=hR1.mono hJ;have hT1:=hT1.mono hJ;have hRo:=hRo.mono hJ;have hB0:=hB0.trans hJ
  have hB2:=hJ
  refine zR (zC (zN (Qq ?_)))
  refine zI ?_ ?_<;>intro hc49
  ·
   have hlt_j:j<M:=by have h:=hc49;simp at h;omega
   refine Qw (Qc (Qq (QD (zR (zM ?_)))))
   refine zA (zN (Qq (zR ?_)))
   refine zM ?_
   refine zM ?_
   refine zC (zN ?_)
   refine zI ?_ ?_<;>intro hc53
   ·
    obtain rfl:j=i:=by have h:=hc53;simp at h;omega
    have hR9:=hR
    have he9:=he
    have hk9:=hk
    have hs9:=hs.skip
    have hl9:R.qs.length≤196+14*(4*j+(j+1)):=by omega
    refine Zy (Qs (QB (Qc (Qk (zB ?_)))))
    refine zM (Qb ?_)
    exact zm (h:=⟨M-(j+1),by omega,j+1,_,_,_,_,_,_,_,_,_,_,_,_,_,rfl,rfl,hB2,rfl,by omega,hR9,he9,hk9,hs9,by omega⟩)
   have hij:i≠j:=by intro h;apply absurd hc53;simp [h]
   have hpl0:=hR.pe.len
   have hqnR:=(Z0 hR he).2.1
   have hpnR:pn=M:=by rw [(Z0 hR he).1];exact hk.len
   obtain ⟨pe,hpe⟩:∃ y,ps[i]? =some y:=⟨_,List.getElem?_eq_getElem (by omega)⟩
   have hpm:=List.mem_of_getElem? hpe
   have hpl:pe.notes.length=pe.n:=(hR.nt pe hpm).sl.len
   have hpf:pe.n≤14:=by have h1:=hk.few (List.mem_of_getElem? (WN he hpe));rw [List.length_map] at h1;omega
   obtain ⟨r8,hd8,hp8,hl8,hh8,hk8⟩:=hk.syn' (by omega) (i:=i) (j:=j) (by omega) (by omega) hij (WN he hpe)
   refine Qw (Qc (zR ?_))
   refine zV (Qg rfl YE (fun hg=>by exact Cells.g0) rfl) ?_
   refine zM ?_
   refine zM ?_
   refine zV (QZ (ps:=[(0,_),(1,_),(2,_)]) [_,_,_,_,_,_,_,_,_,_,_,_,_,_,_,_,_,_,_,_,_,_,_,_,_,_,_,_,_,_,_,_,_,_,_,_,_,_,_,_,_,_,_,_,_,_,_,_,_] Xq rfl rfl) ?_
   refine QE (cap:=[]) (vs:=[_,_]) rfl rfl KV .nil (XK hR he (hk.sm (by omega) (by omega)) (evS i j) (zvR _ _ _) hd8) rfl rfl ?_
   rintro vv4 I4 L4 hI4 ⟨rfl,vr8,rfl,hV8⟩
   have hE:=hE.mono hI4;have hY:=hY.mono hI4;have hR1:=hR1.mono hI4;have hT1:=hT1.mono hI4;have hRo:=hRo.mono hI4;have hR:=hR.mono hI4;have hB0:=hB0.trans hI4;have hB2:=hB2.trans hI4
   obtain ⟨pa8,pn8,pc8,qa8,qn8,qc8,aa8,an8,ac8,ps8,qs8,rfl,hR8,he8⟩:=(show RmV _ vr8 (r8) from hV8)
   have hpn8:pn8=M:=by rw [(Z0 hR8 he8).1];exact hk8.len
   have hqn8:qn8=qn+pe.n:=by rw [(Z0 hR8 he8).2.1,hl8,List.length_map,hpl,(Z0 hR he).2.1]
   refine zM ?_
   refine zE ?_
   refine zE ?_
   refine Qt Kx rfl rfl (fun b_13=>?_)
   refine zh YK ?_
   refine zA (Qb ?_)
   refine QO .here (fun I5 hI5 hb5=>?_)
   have hE:=hE.mono hI5;have hY:=hY.mono hI5;have hR1:=hR1.mono hI5;have hT1:=hT1.mono hI5;have hRo:=hRo.mono hI5;have hR:=hR.mono hI5;have hR8:=hR8.mono hI5;have hB0:=hB0.trans hI5;have hB2:=hB2.trans hI5
   have h13:=BxI.of hb5
   refine Qc (Qq (Qq ?_))
   have hD:=zxd I5
   refine Xc mixed ?_
   refine zT 0 rfl (Qh rfl) hD ?_
   refine zT 1 rfl (QT rfl rfl rfl) hD ?_
   refine zT 2 rfl (Qh rfl) hD ?_
   refine zw 3 64 rfl (Qa rfl ZR) hD ?_
   refine zw 4 64 rfl (Qd rfl YW (fun hg=>by exact QG.imm h13.out rfl)) hD ?_
   refine zw 5 64 rfl (Q9 rfl YJ) hD ?_
   refine zw 6 64 rfl (Qh rfl) hD ?_
   refine zw 7 64 rfl (QT rfl rfl rfl) hD ?_
   rw [show (((pn8:Nat):Int) != ((M:Nat):Int))=false by rw [hpn8,zcd]]
   refine zT 8 rfl (Zv rfl rfl rfl) hD ?_
   refine zT 9 rfl (Qh rfl) hD ?_
   refine zw 10 71 rfl (Qa rfl ZY) hD ?_
   refine zw 11 71 rfl (Qa rfl Zk) hD ?_
   refine zw 12 71 rfl (Qd rfl Zq (fun hg=>by exact QG.imm h13.out rfl)) hD ?_
   refine zw 13 71 rfl (Q9 rfl Zl) hD ?_
   refine zw 14 71 rfl (Qa rfl ZY) hD ?_
   refine zw 15 71 rfl (Qa rfl Zk) hD ?_
   refine zw 16 71 rfl (Qd rfl Zq (fun hg=>by exact QG.h0 rfl)) hD ?_
   refine zw 17 71 rfl (Q9 rfl Zl) hD ?_
   refine zw 18 71 rfl (Qa rfl ZR) hD ?_
   refine zw 19 71 rfl (Qd rfl YW (fun hg=>by exact QG.h0 rfl)) hD ?_
   refine zw 20 71 rfl (Qh rfl) hD ?_
   refine zw 21 71 rfl (QV rfl rfl YJ hR.pe (fun hg=>by omega)) hD ?_
   refine zw 22 71 rfl (Qa rfl Ym) hD ?_
   refine zw 23 71 rfl (Qd rfl VW (fun hg=>by exact zw6 hR.pe hpe rfl)) hD ?_
   refine zw 24 71 rfl (Q9 rfl Zu) hD ?_
   refine zw 25 71 rfl (VO rfl rfl rfl (fun hg=>by omega)) hD ?_
   refine zw 26 71 rfl (QT rfl rfl rfl) hD ?_
   rw [show (((qn8:Nat):Int) != ((qn:Nat):Int)+((pe.n:Nat):Int))=false by rw [hqn8];simp]
   refine zT 27 rfl (Zv rfl rfl rfl) hD ?_
   refine zT 28 rfl (Qh rfl) hD ?_
   refine zw 29 90 rfl (Qa rfl ZY) hD ?_
   refine zw 30 90 rfl (Qa rfl Zk) hD ?_
   refine zw 31 90 rfl (Qd rfl Zq (fun hg=>by exact QG.imm h13.out rfl)) hD ?_
   refine zw 32 90 rfl (Q9 rfl Zl) hD ?_
   refine zw 33 90 rfl (QT rfl rfl rfl) hD ?_
   refine zT 34 rfl (Zv rfl rfl rfl) hD ?_
   refine Qm (by kernel_rfl) ?_
   refine Qy ?_
   refine Qc ?_
   refine zI ?_ ?_<;>intro hc96
   ·
    have h:=hc96
    have h2:=(Z0 hR8 he8).2.1
    rw [hl8,List.length_map] at h2
    simp at h
    omega
   have hR9:=hR8
   have he9:=he8
   have hk9:=hk8
   have hs9:=hs.step hij (WN he hpe) hp8 hh8
   have hl9:r8.qs.length≤196+14*(4*i+(j+1)):=by rw [hl8,List.length_map];omega
   refine Qw (Qc (Qk ?_))
   refine zV (Qg rfl YE (fun hg=>by exact BxI.cells (vs:=[_,_,_]) h13) rfl) ?_
   refine zh YK ?_
   refine Qb (Qn (Qc (Qk (zB ?_))))
   refine zM (Qb ?_)
   exact zm (h:=⟨M-(j+1),by omega,j+1,_,_,_,_,_,_,_,_,_,_,_,_,_,rfl,rfl,hB2,rfl,by omega,hR9,he9,hk9,hs9,by omega⟩)
  have hge_j:M≤j:=by have h:=hc49;simp at h;omega
  obtain rfl:M=j:=by omega
  refine Zy (Qs (Qs (QB (Qn (Qc (Qk (zB ?_)))))))
  refine zM (Qb ?_)
  exact zm (h:=⟨M-(i+1),by omega,i+1,_,_,_,_,_,_,_,_,_,_,_,_,_,rfl,rfl,hB0,rfl,by omega,hR,he,hk,hs.row,by omega⟩)
 have hge_i:M≤i:=by have h:=hc45;simp at h;omega
 obtain rfl:M=i:=by omega
 have hkp:Kn pn R ts:=by rw [(Z0 hRo heo).1,hko.len];exact hko
 refine Zy (Qs (Qs (QB (Qc (zR ?_)))))
 refine zV (Qg rfl YE (fun hg=>by exact Cells.g0) rfl) ?_
 refine zM ?_
 refine QE (cap:=[]) (vs:=[_,_]) rfl rfl zuV .nil (zkJ hRo heo hkp (by omega) (by omega) hY hy8 hon) rfl rfl ?_
 rintro vv6 I6 L6 hI6 ⟨rfl,vr3,r3,rfl,hV3,hD3⟩
 have hT1:=hT1.mono hI6;have hRo:=hRo.mono hI6;have hIc:=hIc.trans hI6
 obtain ⟨pa3,pn3,pc3,qa3,qn3,qc3,aa3,an3,ac3,ps3,qs3,rfl,hR3,he3⟩:=(show RmV _ vr3 (r3) from hV3)
 have hD3p:Dn M R r3 ts:=by rw [show pn=M by rw [(Z0 hRo heo).1,hko.len]] at hD3;exact hD3
 have hpn3:pn3=M:=by rw [(Z0 hR3 he3).1];exact hD3p.kn.len
 refine zM ?_
 refine zE ?_
 refine zE ?_
 refine Qt Kx rfl rfl (fun b_15=>?_)
 refine zh YK ?_
 refine zA (Qb ?_)
 refine QO .here (fun I7 hI7 hb7=>?_)
 have hT1:=hT1.mono hI7;have hR3:=hR3.mono hI7;have hIc:=hIc.trans hI7
 have h15:=BxI.of hb7
 refine Qc (Qq (zR (zM ?_)))
 refine zO (zN ?_)
 refine zI ?_ ?_<;>intro hc107
 ·
  cases hc107
 refine Qw (Qc (Qq (zR ?_)))
 refine zF ZR ?_
 refine zV (Qd rfl YW (fun hg=>by exact QG.imm h15.out rfl)) ?_
 refine zQ YJ ?_
 refine zM (zN (QD ?_))
 refine zU [(8,_),(15,_),(109,_),(110,_)] (fun T L0 mz E I' loc'=>∃ (q:Nat),mz=pn3-q∧E=(111,.int .i64 q)::T∧HLe I7 I'∧[(b_7,.cells #[.slice pa pn pc,.slice qa qn qc,.slice aa an ac] 28 (0,0))]=loc'∧q≤pn3) ?_ (h:=⟨0,rfl,rfl,zxd _,rfl,Nat.zero_le _⟩)
 rintro mz E J8 loc' ⟨q,rfl,rfl,hJ,rfl,hq⟩
 have hT1:=hT1.mono hJ;have hR3:=hR3.mono hJ;have h15:=h15.mono hJ;have hIc:=hIc.trans hJ
 have hB4:=hJ
 refine zR (zC (zN (Qq ?_)))
 refine zI ?_ ?_<;>intro hc112
 ·
  have hlt_q:q<pn3:=by have h:=hc112;simp at h;omega
  have hlp3:=hR3.pe.len
  obtain ⟨x,hx⟩:∃ y,ps3[q]? =some y:=⟨_,List.getElem?_eq_getElem (by omega)⟩
  have hxm:=List.mem_of_getElem? hx
  obtain ⟨z,hz⟩:∃ y,ps3[0]? =some y:=⟨_,List.getElem?_eq_getElem (by omega)⟩
  have hzm:=List.mem_of_getElem? hz
  have hxe:=zf5 hK1.kn hKr1 hT1 hso hD3p (WN he3 hx)
  have hze:=zf5 hK1.kn hKr1 hT1 hso hD3p (WN he3 hz)
  have hvX:=hD3.kn.val _ (List.mem_of_getElem? (WN he3 hx))
  have hvZ:=hD3.kn.val _ (List.mem_of_getElem? (WN he3 hz))
  have hsx:=zjJ (hR3.nt x hxm) hvX
  have hvx:Z3 x.notes=true:=by rw [←zax (hR3.nt x hxm)];exact hvX
  have hvz:Z3 z.notes=true:=by rw [←zax (hR3.nt z hzm)];exact hvZ
  have hfx:x.n≤14:=by have h1:=hD3.kn.few (List.mem_of_getElem? (WN he3 hx));have h2:=(hR3.nt x hxm).sl.len;rw [List.length_map] at h1;omega
  have hfz:z.n≤14:=by have h1:=hD3.kn.few (List.mem_of_getElem? (WN he3 hz));have h2:=(hR3.nt z hzm).sl.len;rw [List.length_map] at h1;omega
  refine Qw (Qc (Qq (QD (zR ?_))))
  refine zV (QV rfl rfl YJ hR3.pe (fun hg=>by omega)) ?_
  refine zV (Qg rfl Jm (fun hg=>by exact zxe hR3.pe hx) rfl) ?_
  refine Qt zig rfl rfl (fun b_17=>?_)
  refine zh zaO ?_
  refine Qb ?_
  refine QO .here (fun I9 hI9 hb9=>?_)
  have hT1:=hT1.mono hI9;have hR3:=hR3.mono hI9;have h15:=h15.mono hI9;have hB4:=hB4.trans hI9
  have h17:=BxI.of hb9
  refine Qc (Qq ?_)
  have hD:=zxd I9
  refine ZL ?_
  refine Q0 I9 [(b_7,.cells #[.slice pa pn pc,.slice qa qn qc,.slice aa an ac] 28 (0,0))] mixed ?_
  refine zT 0 rfl (Qa rfl Ym) hD ?_
  refine zT 1 rfl (Qd rfl VW (fun hg=>by exact QG.imm h17.out rfl)) hD ?_
  refine zT 2 rfl (Qh rfl) hD ?_
  refine qd 3 rfl ?_
  refine qcV (vs:=[_,_]) rfl zha (zv2 (hR3.nt x hxm) hT1.sl hxe hsx (by omega)) ?_
  refine Qb ?_
  refine zD hD ?_
  refine zT 4 rfl (Yz rfl) hD ?_
  refine zT 5 rfl (Qh rfl) hD ?_
  refine zw 6 120 rfl (Qg rfl Jm (fun hg=>by exact BxI.cells (vs:=UO x) h17) rfl) hD ?_
  refine zw 7 120 rfl (Qa rfl ZR) hD ?_
  refine zw 8 120 rfl (Qd rfl YW (fun hg=>by exact QG.imm h15.out rfl)) hD ?_
  refine zw 9 120 rfl (QV rfl rfl YJ hR3.pe (fun hg=>by omega)) hD ?_
  refine zw 10 120 rfl (Qg rfl Jm (fun hg=>by exact zxe hR3.pe hz) rfl) hD ?_
  refine qd 11 rfl ?_
  refine Q6 (dj:=120) rfl rfl rfl ?_
  refine QE (cap:=[]) (vs:=[_,_]) rfl rfl zul .nil (zsU (hR3.nt x hxm) (hR3.nt z hzm) (hxe.trans hze.symm) hvx hvz hsx (by omega) (by omega)) rfl rfl ?_
  rintro vv10 I10 L10 hI10 ⟨rfl,rfl⟩
  have hB4:=hB4.trans hI10;have hD:=hD.trans hI10
  refine Qb ?_
  refine zD hD ?_
  refine zw 12 120 rfl (Yz rfl) hD ?_
  refine zT 13 rfl (Zv rfl rfl rfl) hD ?_
  refine Qm (by kernel_rfl) ?_
  refine Qy ?_
  refine Qc ?_
  refine zI ?_ ?_<;>intro hc128
  ·
   exact absurd hc128 (by decide)
  refine Qw (Qn (Qc (Qk (zB ?_))))
  refine zM (Qb ?_)
  exact zm (h:=⟨pn3-(q+1),by omega,q+1,rfl,rfl,hB4,rfl,by omega⟩)
 have hge_q:pn3≤q:=by have h:=hc112;simp at h;omega
 refine Zy (Qs (Qs (QB (Qc (zR (zA (zN ?_)))))))
 refine QF ?_
 exact QP rfl rfl (fun w hw=>⟨by rfl,(hw.mono hIc).subL Qe⟩)
end
end Go.Proofs.YtjblkbkmblkgoaaGreat
