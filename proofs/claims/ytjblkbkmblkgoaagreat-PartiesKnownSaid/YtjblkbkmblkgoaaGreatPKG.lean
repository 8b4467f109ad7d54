/- partiesKnown_holds, part G of the proof: what its theorems say holds without further conditions. -/
import Derived.ProofKit
import Derived.Deep.Slices
import Derived.Test.YtjblkbkmblkgoaaGreatRows
import Derived.Test.YtjblkbkmblkgoaaGreatPKF
namespace Go.Proofs.YtjblkbkmblkgoaaGreat
section
open Go Go.Kn Go.Proofs
theorem zjF:Fun Tryz.prog 169:=.of Tryz.func169 (by kernel_rfl) (by kernel_rfl)
theorem zqy:Fun Tryz.prog 221:=.of Tryz.func221 (by kernel_rfl) (by kernel_rfl)
def zsj (x:Va):Prop:=∀ {I:Qu} {cv:Vc} (_hx:VaR I x cv) (_hok:Va.ok x) (_hb:(Va.enc x).length≤900000),Vh Tryz.prog 169 [.agg (Zl cv).toArray] I [] (YQ (Va.enc x))
theorem zdM (I:Qu){n:Int}(hn: -9223372036854775808≤n∧n≤9223372036854775807):Vh Tryz.prog 169 [.agg #[.int .i64 1,.int .i64 n,.string ⟨#[]⟩,.slice none 0 0]] I [] (YQ (Va.enc (.int n))):=by
 intro g H w hw
 refine qe Tryz.func169 Tryz.ntmps169 hw ?_
 have hIc:=zvV I
 have h10:=Kw (zkB hn)
 refine zR ?_
 refine Zf rfl rfl rfl (fun b_1=>?_)
 refine zA (Qb ?_)
 refine QQ .here (fun I1 hI1 hb1=>?_)
 have hIc:=hIc.trans hI1
 have h1:=BxI.of hb1
 refine Qc (Qr (zR ?_))
 refine zF Zn ?_
 refine zV (Qd rfl Qy (fun hg=>by exact QH.imm h1.out rfl)) ?_
 refine zN (QB (zR (zC ?_)))
 refine zA (zN ?_)
 refine zI ?_ ?_<;>intro hc7
 ·
  refine zR ?_
  refine Ql (ps:=[(0,_)]) (m:=[VU 1]) Y3 rfl (.cons rfl (.nil)) rfl (by simp [ZW]) (by decide) (by decide) rfl rfl (fun b_9=>?_)
  refine zF YR ?_
  refine zV (Qd rfl Qy (fun hg=>by exact QH.imm h1.out rfl)) ?_
  refine qcV (vs:=[_]) rfl zqy (zrN _ hn) ?_
  refine QF (cap:=[]) (vs:=[_]) rfl rfl zaD .nil (zfw (zz n) (zkB hn) _) rfl rfl ?_
  rintro vv2 I2 L2 hI2 ⟨rfl,a9,c9,rfl,hS9⟩
  have hIc:=hIc.trans hI2
  refine Q4 (v:=_) (ys:=(Jn (zz n):List Nat).flatMap VU) (L:=[(b_9,_)]) rfl rfl Y3 (zib 1) (by repeat (first | exact .cons .here .nil | exact Qv | exact Qq | apply Qp | apply Qo)) (hS9.src ZW) (zaR _) (by omega) rfl rfl ?_
  intro v9 L9 hO9 _;rw [←List.flatMap_append] at hO9
  refine zA (Qb ?_)
  refine Zy hO9 ZW (by decide) (by repeat (first | exact .cons .here .nil | exact Qv | exact Qq | apply Qp | apply Qo)) (fun I3 hI3 af3 cf3 ef3 hZ=>?_)
  subst ef3
  have hIc:=hIc.trans hI3
  refine Qc (QE (Qx (Qh ?_)))
  exact QS rfl rfl (fun w hw=>⟨_,I3,[],rfl,hIc,by exact hw,zbn hZ (by simp [Va.enc])⟩)
 simp at hc7
theorem zbw (I:Qu)(s:ByteArray)(hs:s.size≤900000):Vh Tryz.prog 169 [.agg #[.int .i64 2,.int .i64 0,.string s,.slice none 0 0]] I [] (YQ (Va.enc (.text (Kj s)))):=by
 intro g H w hw
 refine qe Tryz.func169 Tryz.ntmps169 hw ?_
 have hIc:=zvV I
 have h10:=Kw (u:=s.size) (by omega)
 refine zR ?_
 refine Zf rfl rfl rfl (fun b_1=>?_)
 refine zA (Qb ?_)
 refine QQ .here (fun I1 hI1 hb1=>?_)
 have hIc:=hIc.trans hI1
 have h1:=BxI.of hb1
 refine Qc (Qr (zR ?_))
 refine zF Zn ?_
 refine zV (Qd rfl Qy (fun hg=>by exact QH.imm h1.out rfl)) ?_
 refine zN (QB (zR (zC ?_)))
 refine zA (zN ?_)
 refine zI ?_ ?_<;>intro hc7
 ·
  simp at hc7
 refine zR (zC ?_)
 refine zA (zN ?_)
 refine zI ?_ ?_<;>intro hc15
 ·
  refine Qr ?_
  have hD:=zvV I1
  refine ZO ?_
  refine Q3 I1 [] mixed ?_
  refine zT 1 rfl (Qa rfl Yw) hD ?_
  refine zT 2 rfl (Qd rfl JL (fun hg=>by exact QH.imm h1.out rfl)) hD ?_
  refine zT 3 rfl (Ww rfl ztq) hD ?_
  refine zT 4 rfl (JA (Z5 rfl VN) (congrArg (Value.int .u64) (Ym (n:=(s.size:Int)) ⟨by omega,by omega⟩))) hD ?_
  refine zT 7 rfl (Qa rfl Yw) hD ?_
  refine zT 8 rfl (Qd rfl JL (fun hg=>by exact QH.imm h1.out rfl)) hD ?_
  refine Zb 0 5 rfl rfl (by kernel_rfl) ?_ ?_
  ·
   refine Ql (ps:=[(0,_)]) (m:=[VU 2]) Y3 rfl (.cons rfl (.nil)) rfl (by simp [ZW]) (by decide) (by decide) rfl rfl (fun b_17=>?_)
   refine Qb ?_
   refine zD hD ?_
   refine qd 5 rfl ?_
   refine QF (cap:=[]) (vs:=[_]) rfl rfl zaD .nil (zfw s.size (by omega) _) rfl rfl ?_
   rintro vv2 I2 L2 hI2 ⟨rfl,a9,c9,rfl,hS9⟩
   have hIc:=hIc.trans hI2;have hD:=hD.trans hI2
   refine Qb ?_
   refine zD hD ?_
   refine qd 6 rfl ?_
   refine Q4 (v:=_) (ys:=(Jn s.size:List Nat).flatMap VU) (L:=[(b_17,_)]) rfl rfl Y3 (zib 2) (by repeat (first | exact .cons .here .nil | exact Qv | exact Qq | apply Qp | apply Qo)) (hS9.src ZW) (zaR _) (by omega) rfl rfl ?_
   intro v9 L9 hO9 _;rw [←List.flatMap_append] at hO9
   refine Qb ?_
   refine zD hD ?_
   refine qd 9 rfl ?_
   refine WS rfl rfl Y3 ztq hO9 (by repeat (first | exact .cons .here .nil | exact Qv | exact Qq | apply Qp | apply Qo)) (by omega) rfl rfl ?_
   intro v11 L11 hO11
   have hO12:Yk 5 1 v11 (1+(Jn s.size).length+s.size) ((([2]++Jn s.size)++Kj s).flatMap VU) L11:=by rw [List.flatMap_append];exact hO11
   refine Qb ?_
   refine zD hD ?_
   refine zT 10 rfl (QD rfl) hD ?_
   refine Qn (by kernel_rfl) ?_
   refine QA ?_
   refine Zy hO12 ZW (by decide) (by repeat (first | exact .cons .here .nil | exact Qv | exact Qq | apply Qp | apply Qo)) (fun I3 hI3 af3 cf3 ef3 hZ=>?_)
   subst ef3
   have hIc:=hIc.trans hI3
   refine Qc (QE (Qx (Qh ?_)))
   exact QS rfl rfl (fun w hw=>⟨_,I3,[],rfl,hIc,by exact hw,zbn hZ (by rw [Va.enc,V7];simp)⟩)
  refine QF (cap:=[]) (vs:=[_]) rfl rfl zaD .nil (zfw s.size (by omega) _) rfl rfl ?_
  rintro vv4 I4 L4 hI4 ⟨rfl,a9,c9,rfl,hS9⟩
  have hIc:=hIc.trans hI4;have hD:=hD.trans hI4
  refine Qb ?_
  refine zD hD ?_
  refine qd 0 rfl ?_
  refine Ql (ps:=[(0,_)]) (m:=[VU 2]) Y3 rfl (.cons rfl (.nil)) rfl (by simp [ZW]) (by decide) (by decide) rfl rfl (fun b_17=>?_)
  refine Qb ?_
  refine zD hD ?_
  refine qd 6 rfl ?_
  refine Q4 (v:=_) (ys:=(Jn s.size:List Nat).flatMap VU) (L:=[(b_17,_)]) rfl rfl Y3 (zib 2) (by repeat (first | exact .cons .here .nil | exact Qv | exact Qq | apply Qp | apply Qo)) (hS9.src ZW) (zaR _) (by omega) rfl rfl ?_
  intro v9 L9 hO9 _;rw [←List.flatMap_append] at hO9
  refine Qb ?_
  refine zD hD ?_
  refine qd 9 rfl ?_
  refine WS rfl rfl Y3 ztq hO9 (by repeat (first | exact .cons .here .nil | exact Qv | exact Qq | apply Qp | apply Qo)) (by omega) rfl rfl ?_
  intro v11 L11 hO11
  have hO12:Yk 5 1 v11 (1+(Jn s.size).length+s.size) ((([2]++Jn s.size)++Kj s).flatMap VU) L11:=by rw [List.flatMap_append];exact hO11
  refine Qb ?_
  refine zD hD ?_
  refine zT 10 rfl (QD rfl) hD ?_
  refine Qn (by kernel_rfl) ?_
  refine QA ?_
  refine Zy hO12 ZW (by decide) (by repeat (first | exact .cons .here .nil | exact Qv | exact Qq | apply Qp | apply Qo)) (fun I5 hI5 af5 cf5 ef5 hZ=>?_)
  subst ef5
  have hIc:=hIc.trans hI5
  refine Qc (QE (Qx (Qh ?_)))
  exact QS rfl rfl (fun w hw=>⟨_,I5,[],rfl,hIc,by exact hw,zbn hZ (by rw [Va.enc,V7];simp)⟩)
 simp at hc15
theorem zhc {I:Qu}{l:List Va}{hs:List Vc}{a:Option Addr}{m c:Nat}(hS:Sl I 4 Zl a m c hs)(hl:l.length=hs.length)(hr:∀ (k:Nat) (x:Va) (y:Vc),l[k]? =some x→hs[k]? =some y→VaR I x y)(hm:m≤1000000)(ih:∀ (k:Nat) (x:Va),l[k]? =some x→zsj x)(hok:Va.okL l)(hb:(Va.enc (.list l)).length≤900000):Vh Tryz.prog 169 [.agg #[.int .i64 3,.int .i64 0,.string ⟨#[]⟩,.slice a m c]] I [] (YQ (Va.enc (.list l))):=by
 intro g H w hw
 refine qe Tryz.func169 Tryz.ntmps169 hw ?_
 have hIc:=zvV I
 have hml:=hS.len
 have hel:(Va.enc (.list l)).length=(Jn l.length).length+(Va.encL l).length+1:=by simp [Va.enc]
 have h10:=Kw (u:=l.length) (by omega)
 refine zR ?_
 refine Zf rfl rfl rfl (fun b_1=>?_)
 refine zA (Qb ?_)
 refine QQ .here (fun I1 hI1 hb1=>?_)
 have hS:=hS.mono hI1;have hIc:=hIc.trans hI1
 have h1:=BxI.of hb1
 refine Qc (Qr (zR ?_))
 refine zF Zn ?_
 refine zV (Qd rfl Qy (fun hg=>by exact QH.imm h1.out rfl)) ?_
 refine zN (QB (zR (zC ?_)))
 refine zA (zN ?_)
 refine zI ?_ ?_<;>intro hc7
 ·
  simp at hc7
 refine zR (zC ?_)
 refine zA (zN ?_)
 refine zI ?_ ?_<;>intro hc15
 ·
  simp at hc15
 refine Qz (Qm (Qc (zR ?_)))
 refine Ql (ps:=[(0,_)]) (m:=[VU 3]) Y3 rfl (.cons rfl (.nil)) rfl (by simp [ZW]) (by decide) (by decide) rfl rfl (fun b_27=>?_)
 refine zF Q0 ?_
 refine zV (Qd rfl ZG (fun hg=>by exact QH.imm h1.out rfl)) ?_
 refine zQ Ye ?_
 refine zV (JA (Z5 rfl VN) (congrArg (Value.int .u64) ((Ym (n:=(m:Int)) ⟨by omega,by omega⟩).trans (show (m:Int)=(l.length:Int) by omega)))) ?_
 refine QF (cap:=[]) (vs:=[_]) rfl rfl zaD .nil (zfw l.length (by omega) _) rfl rfl ?_
 rintro vv2 I2 L2 hI2 ⟨rfl,a9,c9,rfl,hS9⟩
 have hS:=hS.mono hI2;have h1:=h1.mono hI2;have hIc:=hIc.trans hI2
 refine Q4 (v:=_) (ys:=(Jn l.length:List Nat).flatMap VU) (L:=[(b_27,_)]) rfl rfl Y3 (zib 3) (by repeat (first | exact .cons .here .nil | exact Qv | exact Qq | apply Qp | apply Qo)) (hS9.src ZW) (zaR _) (by omega) rfl rfl ?_
 intro v9 L9 hO9 _;rw [←List.flatMap_append] at hO9
 refine zA (zN (Qr (zR ?_)))
 refine zA (zN (QB ?_))
 refine zU [(1,_)] (fun T L0 mz E I' loc'=>∃ (k:Nat) (v:Value) (Lw:Go.Kn.Loc),mz=m-k∧E=(3,v)::(4,.int .i64 k)::T∧HLe I2 I'∧Lw=loc'∧k≤m∧UP 5 v (3::(Jn l.length++Va.encL (l.take k))) Lw) ?_ (h:=⟨0,_,_,rfl,rfl,zvV _,rfl,Nat.zero_le _,by rw [List.append_nil,List.take_zero,show (3::(Jn l.length++Va.encL []):List Nat)=[3]++Jn l.length by simp [Va.encL]];exact UP.app (xs:=[3]) (by rw [List.length_singleton];exact hO9)⟩)
 rintro mz E J3 loc' ⟨k,v,Lw,rfl,rfl,hJ,rfl,hk,hO⟩
 have hS:=hS.mono hJ;have h1:=h1.mono hJ;have hIc:=hIc.trans hJ
 have hB1:=hJ
 refine Qr (zR (zM ?_))
 refine zF Q0 ?_
 refine zV (Qd rfl ZG (fun hg=>by exact QH.imm h1.out rfl)) ?_
 refine zQ Ye ?_
 refine zC (zN ?_)
 refine zI ?_ ?_<;>intro hc38
 ·
  have hlt_k:k<m:=by have h:=hc38;simp at h;omega
  obtain ⟨cv,hy⟩:∃ y,hs[k]? =some y:=⟨_,List.getElem?_eq_getElem (by omega)⟩
  obtain ⟨x,hlx⟩:∃ y,l[k]? =some y:=⟨_,List.getElem?_eq_getElem (by omega)⟩
  have hxy:=(hr k x cv hlx hy).mono hIc
  have hokx:=zcV hok hlx
  have hle:=zcg (l:=l) (k+1)
  rw [Xv hlx,List.length_append] at hle
  have hxl:((3::(Jn l.length++Va.encL (l.take k))):List Nat).length=(Jn l.length).length+(Va.encL (l.take k)).length+1:=by simp
  refine Qz (Qc (Qr (QB (Qk (zM ?_)))))
  refine zF Q0 ?_
  refine zV (Qd rfl ZG (fun hg=>by exact QH.imm h1.out rfl)) ?_
  refine zM ?_
  refine zV (zX Ye hS) ?_
  refine zV (Qg rfl ZH (fun hg=>by exact zvW hS hy) rfl) ?_
  refine QF (cap:=[]) (vs:=[_]) rfl rfl zjF .nil (ih k x hlx hxy hokx (by omega)) rfl rfl ?_
  rintro vv4 I4 L4 hI4 ⟨rfl,a8,c8,rfl,hS8⟩
  have hB1:=hB1.trans hI4
  refine Q4 (v:=_) (ys:=(Va.enc x).flatMap VU) (L:=Lw) rfl rfl Y3 hO (by repeat (first | exact .cons .here .nil | exact Qv | exact Qq | apply Qp | apply Qo)) (hS8.src ZW) (zaR _) (by omega) rfl rfl ?_
  intro v9 L9 hO9 _;rw [←List.flatMap_append] at hO9
  refine zA (Qb (Qm (Qc (Qk ?_))))
  refine zM ?_
  refine zB ?_
  refine zA (Qb ?_)
  exact zm (h:=⟨m-(k+1),by omega,k+1,_,_,rfl,rfl,hB1,rfl,by omega,by rw [Xv hlx,←List.append_assoc,←List.cons_append];exact UP.app hO9⟩)
 have hge_k:m≤k:=by have h:=hc38;simp at h;omega
 have hke:l.take k=l:=List.take_of_length_le (by omega)
 rw [hke] at hO
 refine ZF (Qt (Qt (QC (Qc (Qr ?_)))))
 refine Zy hO ZW (by decide) (by repeat (first | exact .cons .here .nil | exact Qv | exact Qq | apply Qp | apply Qo)) (fun I5 hI5 af5 cf5 ef5 hZ=>?_)
 subst ef5
 have hIc:=hIc.trans hI5
 refine Qk (zM ?_)
 refine zA (zN (QE ?_))
 exact QS rfl rfl (fun w hw=>⟨_,I5,[],rfl,hIc,by exact hw,zbn hZ (by simp [Va.enc])⟩)
theorem zi9 (d:Nat):∀ x,Va.depth x≤d→(∀ {I:Qu} {cv:Vc},VaR I x cv→(Va.enc x).length≤900000→True)→zsj x:=by
 induction d with
 | zero=>
  intro x hd _ I cv hx hok hb
  cases x with
  | int n=>cases hx;exact zdM I hok
  | text s=>cases hx;have h:=zbw I (Un s) (by rw [KO];simp only [Va.enc,List.length_cons,List.length_append] at hb;omega);rw [VS hok.1] at h;exact h
  | list l=>simp [Va.depth] at hd
 | succ d ih=>
  intro x hd _ I cv hx hok hb
  cases x with
  | int n=>cases hx;exact zdM I hok
  | text s=>cases hx;have h:=zbw I (Un s) (by rw [KO];simp only [Va.enc,List.length_cons,List.length_append] at hb;omega);rw [VS hok.1] at h;exact h
  | list l=>
   cases hx with
   | list hS hl hr=>
    have hle:=Va.encL_len l
    have hml:=hS.len
    exact zhc hS hl hr (by simp only [Va.enc,List.length_cons,List.length_append] at hb;dsimp only;omega) (fun k y hy=>ih y (Jm (l:=l) (by simp only [Va.depth] at hd;omega) hy) (fun _ _=>trivial)) hok.2 hb
end
section
open Go Go.Kn Go.Proofs
theorem zpJ:Fun Tryz.prog 168:=.of Tryz.func168 (by kernel_rfl) (by kernel_rfl)
theorem zk3 (d:Nat):∀ x,Va.depth x≤d→ztt x:=by
 induction d with
 | zero=>
  intro x hd I cv hx hb
  cases x with
  | int n=>cases hx;exact zdm _ n
  | text s=>cases hx;exact zbB _ _
  | list l=>simp [Va.depth] at hd
 | succ d ih=>
  intro x hd I cv hx hb
  cases x with
  | int n=>cases hx;exact zdm _ n
  | text s=>cases hx;exact zbB _ _
  | list l=>
   cases hx with
   | list hS hl hr=>
    have hle:=Va.encL_len l
    have hml:=hS.len
    have hb2:(Va.encL l).length≤900000:=by simp only [Va.enc,List.length_cons,List.length_append] at hb;omega
    exact zgU hS hl hr (by dsimp only;omega) (fun k y hy=>ih y (Jm (l:=l) (by simp only [Va.depth] at hd;omega) hy)) hb2
theorem zhU (d:Nat):∀ x,Va.depth x≤d→zsM x:=by
 induction d with
 | zero=>
  intro x hd I cv hx h1 hb
  cases x with
  | int n=>cases hx;exact zdU _ n
  | text s=>cases hx;exact zby _ _
  | list l=>simp [Va.depth] at hd
 | succ d ih=>
  intro x hd I cv hx h1 hb
  cases x with
  | int n=>cases hx;exact zdU _ n
  | text s=>cases hx;exact zby _ _
  | list l=>
   cases hx with
   | list hS hl hr=>
    have hle:=Va.encL_len l
    have hml:=hS.len
    have hb2:(Va.encL l).length≤900000:=by simp only [Va.enc,List.length_cons,List.length_append] at hb;omega
    exact zgM hS hl hr (by dsimp only;omega) (fun k y hy=>ih y (Jm (l:=l) (by simp only [Va.depth] at hd;omega) hy)) (by simp only [Va.depth] at h1;omega) hb2
theorem zna {I:Qu}{x:Va}{cv:Vc}(hx:VaR I x cv)(hd:Va.depth x≤16)(_hok:Va.ok x)(hb:(Va.enc x).length≤900000):Ya Tryz.prog 168 [.agg (Zl cv).toArray] I (.int .i64 0):=by
 intro g H w hw
 refine qe Tryz.func168 Tryz.ntmps168 hw ?_
 have hIc:=zvV I
 refine zR ?_
 refine Zf rfl rfl rfl (fun b_1=>?_)
 refine zA (Qb ?_)
 refine QQ .here (fun I1 hI1 hb1=>?_)
 have hx:=hx.mono hI1;have hIc:=hIc.trans hI1
 have h1:=BxI.of hb1
 refine Qc (Qr (zR ?_))
 refine zV (Qg rfl ZH (fun hg=>by exact BxI.cells (vs:=Zl cv) h1) rfl) ?_
 refine qcV (vs:=[_]) rfl ziu (zk3 _ x (Nat.le_refl _) hx hb) ?_
 refine zO (zN ?_)
 refine zI ?_ ?_<;>intro hc5
 ·
  simp at hc5
 refine Qz (Qc (Qr (zR ?_)))
 refine zV (Qg rfl ZH (fun hg=>by exact BxI.cells (vs:=Zl cv) h1) rfl) ?_
 refine qcV (vs:=[_]) rfl zjm (zhU _ x (Nat.le_refl _) hx (by omega) hb) ?_
 refine zC (zN ?_)
 refine zI ?_ ?_<;>intro hc8
 ·
  simp at hc8;omega
 refine Qz (Qc (zR (zA (zN (QE ?_)))))
 exact QS rfl rfl (fun w hw=>⟨by rfl,(hw.mono hIc).subL Qf⟩)
theorem U4 {I:Qu}{x:Va}{cv:Vc}(hx:VaR I x cv)(hd:Va.depth x≤16)(hok:Va.ok x)(hb:(Va.enc x).length≤900000):Vh Tryz.prog 105 [.agg (Zl cv).toArray] I [] (fun v I' L'=>L'=[]∧∃ a c,v= .tuple #[.slice a (Va.enc x).length c,.int .i64 0]∧Sl I' 1 VU a (Va.enc x).length c (Va.enc x)):=by
 intro g H w hw
 refine qe Tryz.func105 Tryz.ntmps105 hw ?_
 have hIc:=zvV I
 refine zR ?_
 refine Zf rfl rfl rfl (fun b_1=>?_)
 refine zA ?_
 refine zA (Qb ?_)
 refine QQ .here (fun I1 hI1 hb1=>?_)
 have hx:=hx.mono hI1;have hIc:=hIc.trans hI1
 have h1:=BxI.of hb1
 refine Qc (zR ?_)
 refine zV (Qg rfl ZH (fun hg=>by exact BxI.cells (vs:=Zl cv) h1) rfl) ?_
 refine qcV (vs:=[_]) rfl zpJ (zna hx hd hok hb) ?_
 refine zA (zN (Qr (zR ?_)))
 refine zM ?_
 refine zC (zN ?_)
 refine zI ?_ ?_<;>intro hc8
 ·
  simp at hc8
 refine Qz (Qc (zR ?_))
 refine zV (Qg rfl ZH (fun hg=>by exact BxI.cells (vs:=Zl cv) h1) rfl) ?_
 refine QF (cap:=[]) (vs:=[_]) rfl rfl zjF .nil (zi9 _ x (Nat.le_refl _) (fun _ _=>trivial) hx hok hb) rfl rfl ?_
 rintro vv2 I2 L2 hI2 ⟨rfl,a9,c9,rfl,hS9⟩
 have hIc:=hIc.trans hI2
 refine zA ?_
 refine zA (zN (QE ?_))
 exact V2 rfl rfl rfl (fun w hw=>⟨_,I2,[],rfl,hIc,hw.subL Qf,rfl,_,_,rfl,hS9⟩)
end
section
open Go Go.Kn Go.Proofs
set_option maxRecDepth 100000 in
theorem zrV (I:Qu) (x:Nt):Vh Tryz.prog 102 [JH x] I [] (fun v I' L'=>L'=[]∧∃ a c,v= .slice a 42 c∧Sl I' 1 Yd a 42 c (Vr x)):=by
 intro g H w hw
 refine qe Tryz.func102 Tryz.ntmps102 hw ?_
 have hIc:=zvV I
 refine zR ?_
 refine Zf rfl rfl rfl (fun b_1=>?_)
 refine zA (Qb ?_)
 refine QQ .here (fun I1 hI1 hb1=>?_)
 have hIc:=hIc.trans hI1
 have h1:=BxI.of hb1
 refine Qc (zR ?_)
 refine zF VB ?_
 refine zV (Qg rfl K2 (fun hg=>by exact zee (BxI.cells (vs:=Zm x) h1)) rfl) ?_
 refine Qs zel rfl rfl (fun b_3=>?_)
 refine zh zaX ?_
 refine Qb ?_
 refine QQ .here (fun I2 hI2 hb2=>?_)
 have h1:=h1.mono hI2;have hIc:=hIc.trans hI2
 have h3:=BxI.of hb2
 refine Qc (zR ?_)
 refine zF Vk ?_
 refine zV (Qg rfl JS (fun hg=>by exact zgP (BxI.cells (vs:=Zm x) h1)) rfl) ?_
 refine Qs za9 rfl rfl (fun b_4=>?_)
 refine zh K5 ?_
 refine Qb ?_
 refine QQ .here (fun I3 hI3 hb3=>?_)
 have h1:=h1.mono hI3;have h3:=h3.mono hI3;have hIc:=hIc.trans hI3
 have h4:=BxI.of hb3
 refine Qc (zR ?_)
 refine zF V6 ?_
 refine zV (Qg rfl VI (fun hg=>by exact zlQ (BxI.cells (vs:=WV x.pt) h4)) rfl) ?_
 refine Qs zl8 rfl rfl (fun b_5=>?_)
 refine zh zac ?_
 refine Qb ?_
 refine QQ .here (fun I4 hI4 hb4=>?_)
 have h1:=h1.mono hI4;have h3:=h3.mono hI4;have h4:=h4.mono hI4;have hIc:=hIc.trans hI4
 have h5:=BxI.of hb4
 refine Qc (zR ?_)
 refine zF JY ?_
 refine zV (Qg rfl KE (fun hg=>by exact zg2 (BxI.cells (vs:=Zm x) h1)) rfl) ?_
 refine Qs zem rfl rfl (fun b_6=>?_)
 refine zh zaQ ?_
 refine Qb ?_
 refine QQ .here (fun I5 hI5 hb5=>?_)
 have h1:=h1.mono hI5;have h3:=h3.mono hI5;have h4:=h4.mono hI5;have h5:=h5.mono hI5;have hIc:=hIc.trans hI5
 have h6:=BxI.of hb5
 refine Qc (zR ?_)
 refine zF YI ?_
 refine zV (Qg rfl Vz (fun hg=>by exact zeW (BxI.cells (vs:=Zm x) h1)) rfl) ?_
 refine Qs zau rfl rfl (fun b_7=>?_)
 refine zh KR ?_
 refine Qb ?_
 refine QQ .here (fun I6 hI6 hb6=>?_)
 have h1:=h1.mono hI6;have h3:=h3.mono hI6;have h4:=h4.mono hI6;have h5:=h5.mono hI6;have h6:=h6.mono hI6;have hIc:=hIc.trans hI6
 have h7:=BxI.of hb6
 refine Qc (zR ?_)
 refine zF Y8 ?_
 refine zV (Qd rfl Qy (fun hg=>by exact QH.imm h1.out rfl)) ?_
 refine zF Jz ?_
 refine zV (Qd rfl Qy (fun hg=>by exact QH.imm h3.out rfl)) ?_
 refine zF Ub ?_
 refine zV (Qd rfl Qy (fun hg=>by exact QH.imm h3.out rfl)) ?_
 refine zF Jr ?_
 refine zV (Qd rfl Qy (fun hg=>by exact QH.imm h3.out rfl)) ?_
 refine zF XJ ?_
 refine zV (Qd rfl Qy (fun hg=>by exact QH.imm h3.out rfl)) ?_
 refine zF Xo ?_
 refine zV (Qd rfl Qy (fun hg=>by exact QH.imm h3.out rfl)) ?_
 refine zF UY ?_
 refine zV (Qd rfl Qy (fun hg=>by exact QH.imm h3.out rfl)) ?_
 refine zF Ua ?_
 refine zF XN ?_
 refine zV (Qd rfl Qy (fun hg=>by exact QH.imm h3.out rfl)) ?_
 refine zF Ua ?_
 refine zF XR ?_
 refine zV (Qd rfl Qy (fun hg=>by exact QH.imm h3.out rfl)) ?_
 refine zF Ua ?_
 refine zF zcc ?_
 refine zV (Qd rfl Qy (fun hg=>by exact QH.imm h3.out rfl)) ?_
 refine Ql (ps:=[(0,_),(1,_),(2,_),(3,_),(4,_),(5,_),(6,_),(7,_),(8,_),(9,_)]) (m:=[Yd x.kind,Yd x.lm.no,Yd x.lm.person,Yd x.lm.ends,Yd x.lm.lo,Yd x.lm.hi,Yd x.lm.known,Yd x.lm.ck,Yd x.lm.cl,Yd x.lm.cn]) Y1 rfl (.cons rfl (.cons rfl (.cons rfl (.cons rfl (.cons rfl (.cons rfl (.cons rfl (.cons rfl (.cons rfl (.cons rfl (.nil))))))))))) rfl (by simp [Zu]) (by decide) (by decide) rfl rfl (fun b_42=>?_)
 refine zA ?_
 refine zN (zR ?_)
 refine zM ?_
 refine zF Yz ?_
 refine zV (Qd rfl Qy (fun hg=>by exact QH.imm h4.out rfl)) ?_
 refine zF Ku ?_
 refine zV (Qd rfl Qy (fun hg=>by exact QH.imm h4.out rfl)) ?_
 refine zF Y9 ?_
 refine zV (Qd rfl Qy (fun hg=>by exact QH.imm h4.out rfl)) ?_
 refine zF VP ?_
 refine zV (Qd rfl Qy (fun hg=>by exact QH.imm h4.out rfl)) ?_
 refine zF K9 ?_
 refine zV (Qd rfl Qy (fun hg=>by exact QH.imm h5.out rfl)) ?_
 refine zF XG ?_
 refine zV (Qd rfl Qy (fun hg=>by exact QH.imm h5.out rfl)) ?_
 refine zF XM ?_
 refine zV (Qd rfl Qy (fun hg=>by exact QH.imm h5.out rfl)) ?_
 refine zF XP ?_
 refine zV (Qd rfl Qy (fun hg=>by exact QH.imm h5.out rfl)) ?_
 refine zF zca ?_
 refine zV (Qd rfl Qy (fun hg=>by exact QH.imm h5.out rfl)) ?_
 refine zF Xn ?_
 refine zV (Qd rfl Qy (fun hg=>by exact QH.imm h5.out rfl)) ?_
 refine zF Xr ?_
 refine zV (Qd rfl Qy (fun hg=>by exact QH.imm h5.out rfl)) ?_
 refine zF Xs ?_
 refine zV (Qd rfl Qy (fun hg=>by exact QH.imm h5.out rfl)) ?_
 refine zF XE ?_
 refine zV (Qd rfl Qy (fun hg=>by exact QH.imm h5.out rfl)) ?_
 refine zF Xu ?_
 refine zV (Qd rfl Qy (fun hg=>by exact QH.imm h5.out rfl)) ?_
 refine zF Kk ?_
 refine zF Jb ?_
 refine zV (Qd rfl Qy (fun hg=>by exact QH.imm h5.out rfl)) ?_
 refine zF Kk ?_
 refine zF Jv ?_
 refine zV (Qd rfl Qy (fun hg=>by exact QH.imm h5.out rfl)) ?_
 refine zF Kl ?_
 refine zF Jb ?_
 refine zV (Qd rfl Qy (fun hg=>by exact QH.imm h5.out rfl)) ?_
 refine zF Kl ?_
 refine zF Jv ?_
 refine zV (Qd rfl Qy (fun hg=>by exact QH.imm h5.out rfl)) ?_
 refine Ql (ps:=[(0,_),(1,_),(2,_),(3,_),(4,_),(5,_),(6,_),(7,_),(8,_),(9,_),(10,_),(11,_),(12,_),(13,_),(14,_),(15,_),(16,_),(17,_)]) (m:=[Yd x.pt.id,Yd x.pt.kind,Yd x.pt.sign,Yd x.pt.field,Yd x.pt.nw.id,Yd x.pt.nw.role,Yd x.pt.nw.bar,Yd x.pt.nw.mark,Yd x.pt.nw.kind,Yd x.pt.nw.side,Yd x.pt.nw.dir,Yd x.pt.nw.level,Yd x.pt.nw.size,Yd x.pt.nw.wth,Yd x.pt.nw.fn,Yd x.pt.nw.fd,Yd x.pt.nw.tn,Yd x.pt.nw.td]) Y1 rfl (.cons rfl (.cons rfl (.cons rfl (.cons rfl (.cons rfl (.cons rfl (.cons rfl (.cons rfl (.cons rfl (.cons rfl (.cons rfl (.cons rfl (.cons rfl (.cons rfl (.cons rfl (.cons rfl (.cons rfl (.cons rfl (.nil))))))))))))))))))) rfl (by simp [Zu]) (by decide) (by decide) rfl rfl (fun b_84=>?_)
 refine Q4 (v:=_) (ys:=([x.pt.id,x.pt.kind,x.pt.sign,x.pt.field,x.pt.nw.id,x.pt.nw.role,x.pt.nw.bar,x.pt.nw.mark,x.pt.nw.kind,x.pt.nw.side,x.pt.nw.dir,x.pt.nw.level,x.pt.nw.size,x.pt.nw.wth,x.pt.nw.fn,x.pt.nw.fd,x.pt.nw.tn,x.pt.nw.td]:List Int).flatMap Yd) (L:=[(b_42,_)]) rfl rfl Y1 (zva [x.kind,x.lm.no,x.lm.person,x.lm.ends,x.lm.lo,x.lm.hi,x.lm.known,x.lm.ck,x.lm.cl,x.lm.cn] rfl rfl (by decide)) (by repeat (first | exact .cons .here .nil | exact Qv | exact Qq | apply Qp | apply Qo)) ⟨rfl,fun _=>rfl,by repeat (first | exact zvT | apply zvS | apply zvU)⟩ (X3 [x.pt.id,x.pt.kind,x.pt.sign,x.pt.field,x.pt.nw.id,x.pt.nw.role,x.pt.nw.bar,x.pt.nw.mark,x.pt.nw.kind,x.pt.nw.side,x.pt.nw.dir,x.pt.nw.level,x.pt.nw.size,x.pt.nw.wth,x.pt.nw.fn,x.pt.nw.fd,x.pt.nw.tn,x.pt.nw.td]) (by omega) rfl rfl ?_
 intro v2 L2 hO2 _;rw [←List.flatMap_append] at hO2
 refine zA ?_
 refine zN (zR ?_)
 refine zM ?_
 refine zF Um ?_
 refine zV (Qd rfl Qy (fun hg=>by exact QH.imm h6.out rfl)) ?_
 refine zF zbT ?_
 refine zV (Qd rfl Qy (fun hg=>by exact QH.imm h6.out rfl)) ?_
 refine zF zbZ ?_
 refine zV (Qd rfl Qy (fun hg=>by exact QH.imm h6.out rfl)) ?_
 refine zF zce ?_
 refine zV (Qd rfl Qy (fun hg=>by exact QH.imm h6.out rfl)) ?_
 refine zF zb4 ?_
 refine zV (Qd rfl Qy (fun hg=>by exact QH.imm h6.out rfl)) ?_
 refine Ql (ps:=[(0,_),(1,_),(2,_),(3,_),(4,_)]) (m:=[Yd x.ls.no,Yd x.ls.person,Yd x.ls.version,Yd x.ls.at_,Yd x.ls.known]) Y1 rfl (.cons rfl (.cons rfl (.cons rfl (.cons rfl (.cons rfl (.nil)))))) rfl (by simp [Zu]) (by decide) (by decide) rfl rfl (fun b_97=>?_)
 refine Q4 (v:=_) (ys:=([x.ls.no,x.ls.person,x.ls.version,x.ls.at_,x.ls.known]:List Int).flatMap Yd) (L:=L2) rfl rfl Y1 hO2 (by repeat (first | exact .cons .here .nil | exact Qv | exact Qq | apply Qp | apply Qo)) ⟨rfl,fun _=>rfl,by repeat (first | exact zvT | apply zvS | apply zvU)⟩ (X3 [x.ls.no,x.ls.person,x.ls.version,x.ls.at_,x.ls.known]) (by omega) rfl rfl ?_
 intro v3 L3 hO3 _;rw [←List.flatMap_append] at hO3
 refine zA ?_
 refine zN (zR ?_)
 refine zM ?_
 refine zF VE ?_
 refine zV (Qd rfl Qy (fun hg=>by exact QH.imm h7.out rfl)) ?_
 refine zF V5 ?_
 refine zV (Qd rfl Qy (fun hg=>by exact QH.imm h7.out rfl)) ?_
 refine zF Uf ?_
 refine zV (Qd rfl Qy (fun hg=>by exact QH.imm h7.out rfl)) ?_
 refine zF Wx ?_
 refine zV (Qd rfl Qy (fun hg=>by exact QH.imm h7.out rfl)) ?_
 refine zF Wi ?_
 refine zV (Qd rfl Qy (fun hg=>by exact QH.imm h7.out rfl)) ?_
 refine zF Ju ?_
 refine zV (Qd rfl Qy (fun hg=>by exact QH.imm h7.out rfl)) ?_
 refine zF Kx ?_
 refine zV (Qd rfl Qy (fun hg=>by exact QH.imm h7.out rfl)) ?_
 refine zF Ky ?_
 refine zV (Qd rfl Qy (fun hg=>by exact QH.imm h7.out rfl)) ?_
 refine zF Y5 ?_
 refine zV (Qd rfl Qy (fun hg=>by exact QH.imm h7.out rfl)) ?_
 refine Ql (ps:=[(0,_),(1,_),(2,_),(3,_),(4,_),(5,_),(6,_),(7,_),(8,_)]) (m:=[Yd x.rt.no,Yd x.rt.kind,Yd x.rt.edition,Yd x.rt.holder,Yd x.rt.sign,Yd x.rt.ends,Yd x.rt.lo,Yd x.rt.hi,Yd x.rt.known]) Y1 rfl (.cons rfl (.cons rfl (.cons rfl (.cons rfl (.cons rfl (.cons rfl (.cons rfl (.cons rfl (.cons rfl (.nil)))))))))) rfl (by simp [Zu]) (by decide) (by decide) rfl rfl (fun b_118=>?_)
 refine Q4 (v:=_) (ys:=([x.rt.no,x.rt.kind,x.rt.edition,x.rt.holder,x.rt.sign,x.rt.ends,x.rt.lo,x.rt.hi,x.rt.known]:List Int).flatMap Yd) (L:=L3) rfl rfl Y1 hO3 (by repeat (first | exact .cons .here .nil | exact Qv | exact Qq | apply Qp | apply Qo)) ⟨rfl,fun _=>rfl,by repeat (first | exact zvT | apply zvS | apply zvU)⟩ (X3 [x.rt.no,x.rt.kind,x.rt.edition,x.rt.holder,x.rt.sign,x.rt.ends,x.rt.lo,x.rt.hi,x.rt.known]) (by omega) rfl rfl ?_
 intro v4 L4 hO4 _;rw [←List.flatMap_append] at hO4
 refine zA (Qb ?_)
 refine Zy hO4 Zu (by decide) (by repeat (first | exact .cons .here .nil | exact Qv | exact Qq | apply Qp | apply Qo)) (fun I7 hI7 af7 cf7 ef7 hZ=>?_)
 subst ef7
 have hIc:=hIc.trans hI7
 refine Qc (QE ?_)
 exact QS rfl rfl (fun w hw=>⟨_,I7,[],rfl,hIc,hw.subL Qf,rfl,_,_,rfl,hZ⟩)
end
section
open Go Go.Kn Go.Proofs
theorem zqp:Fun Tryz.prog 102:=.of Tryz.func102 (by kernel_rfl) (by kernel_rfl)
theorem zcE:Fun Tryz.prog 103:=.of Tryz.func103 (by kernel_rfl) (by kernel_rfl)
theorem X1:Fun Tryz.prog 104:=.of Tryz.func104 (by kernel_rfl) (by kernel_rfl)
theorem zcA:Fun Tryz.prog 105:=.of Tryz.func105 (by kernel_rfl) (by kernel_rfl)
set_option maxRecDepth 100000 in
theorem zrE {I:Qu} (x:Nt) (hN:Nd I x.pt) (hnn:x.pt.n≤100000) (hok:Va.ok (JZ x)) (hb:(JM x).length≤900000):Vh Tryz.prog 43 [JH x] I [] (YQ (JM x)):=by
 intro g H w hw
 refine qe Tryz.func43 Tryz.ntmps43 hw ?_
 have hIc:=zvV I
 have hnl:x.pt.needs.length=x.pt.n:=hN.len
 refine zR ?_
 refine Zf rfl rfl rfl (fun b_1=>?_)
 refine zA (Qb ?_)
 refine QQ .here (fun I1 hI1 hb1=>?_)
 have hN:=hN.mono hI1;have hIc:=hIc.trans hI1
 have h1:=BxI.of hb1
 refine Qc (zR ?_)
 refine zV (QY (ps:=[(0,_)]) [_,_,_,_] J6 rfl rfl) ?_
 refine Qs YN rfl rfl (fun b_3=>?_)
 refine zh ZP ?_
 refine zN (zR ?_)
 refine zV (Qg rfl Zr (fun hg=>by exact BxI.cells (vs:=Zm x) h1) rfl) ?_
 refine QF (cap:=[]) (vs:=[_]) rfl rfl zqp .nil (zrV _ x) rfl rfl ?_
 rintro vv2 I2 L2 hI2 ⟨rfl,an,cn,rfl,hNu⟩
 have hN:=hN.mono hI2;have h1:=h1.mono hI2;have hIc:=hIc.trans hI2
 refine zA (zN (Qr (zR ?_)))
 refine zA (zN (QB ?_))
 refine zU [(1,_),(3,_),(4,_)] (fun T L0 mz E I' loc'=>∃ (k:Nat) (v:Value) (L:Go.Kn.Loc),mz=42-k∧E=(5,.int .i64 k)::T∧I2=I'∧L++[(b_3,.cells #[.int .i64 3,.int .i64 0,.string ⟨#[]⟩,v] 158 (0,0))]=loc'∧k≤42∧Yk 158 4 v k ((((Vr x).take k).map vcI).flatMap Zl) L) ?_ (h:=⟨0,_,[],rfl,rfl,rfl,rfl,Nat.zero_le _,Yk.nil⟩)
 rintro mz E I' loc' ⟨k,v,L,rfl,rfl,rfl,rfl,hk,hO⟩
 refine Qr (zR (zM ?_))
 refine zM ?_
 refine zQ Yh ?_
 refine zC (zN ?_)
 refine zI ?_ ?_<;>intro hc16
 ·
  have hlt_k:k<42:=by have h:=hc16;simp at h;omega
  obtain ⟨y,hy⟩:∃ y,(Vr x)[k]? =some y:=⟨_,List.getElem?_eq_getElem (by rw [YG];omega)⟩
  refine Qz (Qc (Qr (QB ?_)))
  have hD:=zvV I2
  refine ZO ?_
  refine Q3 I2 [] mixed ?_
  refine zT 0 rfl (Qa rfl Q0) hD ?_
  refine zT 2 rfl (Qj rfl) hD ?_
  refine zT 3 rfl (Qj rfl) hD ?_
  refine zT 4 rfl (zX Yh hNu) hD ?_
  refine zT 5 rfl (Qd rfl Qy (fun hg=>by exact zvO hNu hy rfl)) hD ?_
  refine Zb 1 6 rfl rfl (by kernel_rfl) ?_ ?_
  ·
   refine zV (Qd rfl ZG (fun hg=>by exact zvR (QH.h0 rfl))) ?_
   refine Qb ?_
   refine zD hD ?_
   refine qd 6 rfl ?_
   refine qcV (vs:=[_]) rfl zcE (zgp _ _) ?_
   refine Qb ?_
   refine zD hD ?_
   refine qd 7 rfl ?_
   refine Ql (ps:=[(0,_)]) (m:=[Zl (vcI y)]) ZL rfl (.cons rfl (.nil)) rfl (by simp [Zx]) (by decide) (by decide) rfl rfl (fun b_26=>?_)
   refine Qb ?_
   refine zD hD ?_
   refine qd 8 rfl ?_
   refine Q4 (v:=_) (ys:=([vcI y]:List Vc).flatMap Zl) (L:=L) rfl rfl ZL hO (by repeat (first | exact .cons .here .nil | exact Qv | exact Qq | apply Qp | apply Qo)) ⟨rfl,fun _=>rfl,by repeat (first | exact zvT | apply zvS | apply zvU)⟩ (VQ [vcI y]) (by omega) rfl rfl ?_
   intro v2 L2 hO2 _;rw [←List.flatMap_append] at hO2;obtain ⟨a2,c2,rfl⟩:=hO2.shape
   refine Qb ?_
   refine zD hD ?_
   refine zT 9 rfl (Qa rfl Q0) hD ?_
   refine qd 10 rfl ?_
   refine Q9 rfl rfl Y0 rfl rfl (by (repeat (first | exact Upd.here | apply Upd.there | apply Qw))) rfl ?_
   refine Qb ?_
   refine zD hD ?_
   refine Qn (by kernel_rfl) ?_
   refine QA ?_
   refine Qm (Qc (Qk (zM ?_)))
   refine zB ?_
   refine zA (Qb ?_)
   exact zm (h:=⟨42-(k+1),by omega,k+1,_,_,rfl,rfl,rfl,rfl,by omega,by rw [ZA hy,List.map_append];exact hO2⟩)
  refine qcV (vs:=[_]) rfl zcE (zgp _ _) ?_
  refine Qb ?_
  refine zD hD ?_
  refine Zb 1 7 rfl rfl (by kernel_rfl) ?_ ?_
  ·
   refine zV (Qd rfl ZG (fun hg=>by exact zvR (QH.h0 rfl))) ?_
   refine Qb ?_
   refine zD hD ?_
   refine qd 7 rfl ?_
   refine Ql (ps:=[(0,_)]) (m:=[Zl (vcI y)]) ZL rfl (.cons rfl (.nil)) rfl (by simp [Zx]) (by decide) (by decide) rfl rfl (fun b_26=>?_)
   refine Qb ?_
   refine zD hD ?_
   refine qd 8 rfl ?_
   refine Q4 (v:=_) (ys:=([vcI y]:List Vc).flatMap Zl) (L:=L) rfl rfl ZL hO (by repeat (first | exact .cons .here .nil | exact Qv | exact Qq | apply Qp | apply Qo)) ⟨rfl,fun _=>rfl,by repeat (first | exact zvT | apply zvS | apply zvU)⟩ (VQ [vcI y]) (by omega) rfl rfl ?_
   intro v2 L2 hO2 _;rw [←List.flatMap_append] at hO2;obtain ⟨a2,c2,rfl⟩:=hO2.shape
   refine Qb ?_
   refine zD hD ?_
   refine zT 9 rfl (Qa rfl Q0) hD ?_
   refine qd 10 rfl ?_
   refine Q9 rfl rfl Y0 rfl rfl (by (repeat (first | exact Upd.here | apply Upd.there | apply Qw))) rfl ?_
   refine Qb ?_
   refine zD hD ?_
   refine Qn (by kernel_rfl) ?_
   refine QA ?_
   refine Qm (Qc (Qk (zM ?_)))
   refine zB ?_
   refine zA (Qb ?_)
   exact zm (h:=⟨42-(k+1),by omega,k+1,_,_,rfl,rfl,rfl,rfl,by omega,by rw [ZA hy,List.map_append];exact hO2⟩)
  refine Ql (ps:=[(0,_)]) (m:=[Zl (vcI y)]) ZL rfl (.cons rfl (.nil)) rfl (by simp [Zx]) (by decide) (by decide) rfl rfl (fun b_26=>?_)
  refine Qb ?_
  refine zD hD ?_
  refine qd 1 rfl ?_
  refine zV (Qd rfl ZG (fun hg=>by (repeat (first | exact zvQ rfl | apply zvP | apply zvR)))) ?_
  refine Qb ?_
  refine zD hD ?_
  refine qd 8 rfl ?_
  refine Q4 (v:=_) (ys:=([vcI y]:List Vc).flatMap Zl) (L:=L) rfl rfl ZL hO (by repeat (first | exact .cons .here .nil | exact Qv | exact Qq | apply Qp | apply Qo)) ⟨rfl,fun _=>rfl,by repeat (first | exact zvT | apply zvS | apply zvU)⟩ (VQ [vcI y]) (by omega) rfl rfl ?_
  intro v2 L2 hO2 _;rw [←List.flatMap_append] at hO2;obtain ⟨a2,c2,rfl⟩:=hO2.shape
  refine Qb ?_
  refine zD hD ?_
  refine zT 9 rfl (Qa rfl Q0) hD ?_
  refine qd 10 rfl ?_
  refine Q9 rfl rfl Y0 rfl rfl (by (repeat (first | exact Upd.here | apply Upd.there | apply Qw))) rfl ?_
  refine Qb ?_
  refine zD hD ?_
  refine Qn (by kernel_rfl) ?_
  refine QA ?_
  refine Qm (Qc (Qk (zM ?_)))
  refine zB ?_
  refine zA (Qb ?_)
  exact zm (h:=⟨42-(k+1),by omega,k+1,_,_,rfl,rfl,rfl,rfl,by omega,by rw [ZA hy,List.map_append];exact hO2⟩)
 have hge_k:42≤k:=by have h:=hc16;simp at h;omega
 obtain rfl:k=42:=by omega
 have hke:(Vr x).take 42=Vr x:=rfl
 rw [hke] at hO
 refine ZF (Qt (Qt (QC (Qc (zR ?_)))))
 refine zV (QY (ps:=[(0,_)]) [_,_,_,_] J6 rfl rfl) ?_
 refine Qs YN rfl rfl (fun b_6=>?_)
 refine zh ZP ?_
 refine zN (Qr (zR (zA (zN (QB ?_)))))
 refine zU [(1,_),(3,_),(6,_)] (fun T L0 mz E I' loc'=>∃ (j:Nat) (vq:Value) (Lq:Go.Kn.Loc),mz=x.pt.n-j∧E=(7,.int .i64 j)::T∧I2=I'∧Lq++((b_6,.cells #[.int .i64 3,.int .i64 0,.string ⟨#[]⟩,vq] 158 (0,0))::(L++[(b_3,.cells #[.int .i64 3,.int .i64 0,.string ⟨#[]⟩,v] 158 (0,0))]))=loc'∧j≤x.pt.n∧Yk 158 4 vq j (((x.pt.needs.take j).map vcI).flatMap Zl) Lq) ?_ (h:=⟨0,_,[],rfl,rfl,rfl,rfl,Nat.zero_le _,Yk.nil⟩)
 rintro mz E I' loc' ⟨j,vq,Lq,rfl,rfl,rfl,rfl,hj,hOq⟩
 refine Qr (zR (zM ?_))
 refine zF Vk ?_
 refine zF YY ?_
 refine zV (Qd rfl JW (fun hg=>by exact QH.imm h1.out rfl)) ?_
 refine zQ Yh ?_
 refine zC (zN ?_)
 refine zI ?_ ?_<;>intro hc35
 ·
  have hlt_j:j<x.pt.n:=by have h:=hc35;simp at h;omega
  obtain ⟨z,hz⟩:∃ y,x.pt.needs[j]? =some y:=⟨_,List.getElem?_eq_getElem (by omega)⟩
  refine Qz (Qc (Qr (QB ?_)))
  have hD:=zvV I2
  refine ZO ?_
  refine Q3 I2 [] mixed ?_
  refine zT 0 rfl (Qa rfl Q0) hD ?_
  refine zT 2 rfl (Qa rfl Vk) hD ?_
  refine zT 3 rfl (Qa rfl YY) hD ?_
  refine zT 4 rfl (Qd rfl JW (fun hg=>by exact QH.imm h1.out rfl)) hD ?_
  refine zT 5 rfl (Qj rfl) hD ?_
  refine zT 6 rfl (zX Yh hN) hD ?_
  refine zT 7 rfl (Qd rfl Qy (fun hg=>by exact zvO hN hz rfl)) hD ?_
  refine Zb 1 8 rfl rfl (by kernel_rfl) ?_ ?_
  ·
   refine zV (Qd rfl ZG (fun hg=>by exact zvR (QH.h0 rfl))) ?_
   refine Qb ?_
   refine zD hD ?_
   refine qd 8 rfl ?_
   refine qcV (vs:=[_]) rfl zcE (zgp _ _) ?_
   refine Qb ?_
   refine zD hD ?_
   refine qd 9 rfl ?_
   refine Ql (ps:=[(0,_)]) (m:=[Zl (vcI z)]) ZL rfl (.cons rfl (.nil)) rfl (by simp [Zx]) (by decide) (by decide) rfl rfl (fun b_47=>?_)
   refine Qb ?_
   refine zD hD ?_
   refine qd 10 rfl ?_
   refine Q4 (v:=_) (ys:=([vcI z]:List Vc).flatMap Zl) (L:=Lq) rfl rfl ZL hOq (by repeat (first | exact .cons .here .nil | exact Qv | exact Qq | apply Qp | apply Qo)) ⟨rfl,fun _=>rfl,by repeat (first | exact zvT | apply zvS | apply zvU)⟩ (VQ [vcI z]) (by omega) rfl rfl ?_
   intro v2 L2 hO2 _;rw [←List.flatMap_append] at hO2;obtain ⟨a2,c2,rfl⟩:=hO2.shape
   refine Qb ?_
   refine zD hD ?_
   refine zT 11 rfl (Qa rfl Q0) hD ?_
   refine qd 12 rfl ?_
   refine Q9 rfl rfl Y0 rfl rfl (by (repeat (first | exact Upd.here | apply Upd.there | apply Qw))) rfl ?_
   refine Qb ?_
   refine zD hD ?_
   refine Qn (by kernel_rfl) ?_
   refine QA ?_
   refine Qm (Qc (Qk (zM ?_)))
   refine zB ?_
   refine zA (Qb ?_)
   exact zm (h:=⟨x.pt.n-(j+1),by omega,j+1,_,_,rfl,rfl,rfl,rfl,by omega,by rw [ZA hz,List.map_append];exact hO2⟩)
  refine qcV (vs:=[_]) rfl zcE (zgp _ _) ?_
  refine Qb ?_
  refine zD hD ?_
  refine Zb 1 9 rfl rfl (by kernel_rfl) ?_ ?_
  ·
   refine zV (Qd rfl ZG (fun hg=>by exact zvR (QH.h0 rfl))) ?_
   refine Qb ?_
   refine zD hD ?_
   refine qd 9 rfl ?_
   refine Ql (ps:=[(0,_)]) (m:=[Zl (vcI z)]) ZL rfl (.cons rfl (.nil)) rfl (by simp [Zx]) (by decide) (by decide) rfl rfl (fun b_47=>?_)
   refine Qb ?_
   refine zD hD ?_
   refine qd 10 rfl ?_
   refine Q4 (v:=_) (ys:=([vcI z]:List Vc).flatMap Zl) (L:=Lq) rfl rfl ZL hOq (by repeat (first | exact .cons .here .nil | exact Qv | exact Qq | apply Qp | apply Qo)) ⟨rfl,fun _=>rfl,by repeat (first | exact zvT | apply zvS | apply zvU)⟩ (VQ [vcI z]) (by omega) rfl rfl ?_
   intro v2 L2 hO2 _;rw [←List.flatMap_append] at hO2;obtain ⟨a2,c2,rfl⟩:=hO2.shape
   refine Qb ?_
   refine zD hD ?_
   refine zT 11 rfl (Qa rfl Q0) hD ?_
   refine qd 12 rfl ?_
   refine Q9 rfl rfl Y0 rfl rfl (by (repeat (first | exact Upd.here | apply Upd.there | apply Qw))) rfl ?_
   refine Qb ?_
   refine zD hD ?_
   refine Qn (by kernel_rfl) ?_
   refine QA ?_
   refine Qm (Qc (Qk (zM ?_)))
   refine zB ?_
   refine zA (Qb ?_)
   exact zm (h:=⟨x.pt.n-(j+1),by omega,j+1,_,_,rfl,rfl,rfl,rfl,by omega,by rw [ZA hz,List.map_append];exact hO2⟩)
  refine Ql (ps:=[(0,_)]) (m:=[Zl (vcI z)]) ZL rfl (.cons rfl (.nil)) rfl (by simp [Zx]) (by decide) (by decide) rfl rfl (fun b_47=>?_)
  refine Qb ?_
  refine zD hD ?_
  refine qd 1 rfl ?_
  refine zV (Qd rfl ZG (fun hg=>by (repeat (first | exact zvQ rfl | apply zvP | apply zvR)))) ?_
  refine Qb ?_
  refine zD hD ?_
  refine qd 10 rfl ?_
  refine Q4 (v:=_) (ys:=([vcI z]:List Vc).flatMap Zl) (L:=Lq) rfl rfl ZL hOq (by repeat (first | exact .cons .here .nil | exact Qv | exact Qq | apply Qp | apply Qo)) ⟨rfl,fun _=>rfl,by repeat (first | exact zvT | apply zvS | apply zvU)⟩ (VQ [vcI z]) (by omega) rfl rfl ?_
  intro v2 L2 hO2 _;rw [←List.flatMap_append] at hO2;obtain ⟨a2,c2,rfl⟩:=hO2.shape
  refine Qb ?_
  refine zD hD ?_
  refine zT 11 rfl (Qa rfl Q0) hD ?_
  refine qd 12 rfl ?_
  refine Q9 rfl rfl Y0 rfl rfl (by (repeat (first | exact Upd.here | apply Upd.there | apply Qw))) rfl ?_
  refine Qb ?_
  refine zD hD ?_
  refine Qn (by kernel_rfl) ?_
  refine QA ?_
  refine Qm (Qc (Qk (zM ?_)))
  refine zB ?_
  refine zA (Qb ?_)
  exact zm (h:=⟨x.pt.n-(j+1),by omega,j+1,_,_,rfl,rfl,rfl,rfl,by omega,by rw [ZA hz,List.map_append];exact hO2⟩)
 have hge_j:x.pt.n≤j:=by have h:=hc35;simp at h;omega
 obtain rfl:j=x.pt.n:=by omega
 have hke2:x.pt.needs.take x.pt.n=x.pt.needs:=List.take_of_length_le (by omega)
 rw [hke2] at hOq
 refine ZF (Qt (Qt (QC (Qc (Qr ?_)))))
 obtain ⟨a7,c7,rfl⟩:=hOq.shape
 refine Zy hOq Zx (by decide) (by repeat (first | exact .cons .here .nil | exact Qv | exact Qq | apply Qp | apply Qo)) (fun I5 hI5 a6 c6 ef5 hM6=>?_)
 cases ef5
 have h1:=h1.mono hI5;have hIc:=hIc.trans hI5
 refine QQ (b:=b_6) (by repeat (first | exact Yj.here | apply Yj.there)) (fun I6 hI6 hb6=>?_)
 have h1:=h1.mono hI6;have hM6:=hM6.mono hI6;have hIc:=hIc.trans hI6
 have h6:=BxI.of hb6
 have hD:=zvV I6
 refine ZO ?_
 refine Q3 I6 [] mixed ?_
 refine zT 0 rfl (Qa rfl Q0) hD ?_
 refine zT 2 rfl (Qg rfl ZH (fun hg=>by exact BxI.cells (vs:=[_,_,_,_]) h6) rfl) hD ?_
 refine zT 3 rfl (Qa rfl YI) hD ?_
 refine zT 4 rfl (Qa rfl Uk) hD ?_
 refine zT 5 rfl (Qd rfl JL (fun hg=>by exact QH.imm h1.out rfl)) hD ?_
 refine zT 7 rfl (Qa rfl YI) hD ?_
 refine zT 8 rfl (Qa rfl Ud) hD ?_
 refine zT 9 rfl (Qd rfl JL (fun hg=>by exact QH.imm h1.out rfl)) hD ?_
 refine Zb 1 6 rfl rfl (by kernel_rfl) ?_ ?_
 ·
  refine zV (Qd rfl ZG (fun hg=>by exact zvR (QH.h0 rfl))) ?_
  refine Qb ?_
  refine zD hD ?_
  refine qd 6 rfl ?_
  refine qcV (vs:=[_]) rfl X1 (zaB _ _) ?_
  refine Qb ?_
  refine zD hD ?_
  refine qd 10 rfl ?_
  refine qcV (vs:=[_]) rfl X1 (zaB _ _) ?_
  refine Qb ?_
  refine zD hD ?_
  refine qd 11 rfl ?_
  refine Ql (ps:=[(0,_),(1,_),(2,_)]) (m:=[Zl ⟨3,0,⟨#[]⟩,a7,x.pt.n,c7⟩,Zl (vcT x.rt.name),Zl (vcT x.rt.town)]) ZL rfl (.cons rfl (.cons rfl (.cons rfl (.nil)))) rfl (by simp [Zx]) (by decide) (by decide) rfl rfl (fun b_61=>?_)
  refine Qb ?_
  refine zD hD ?_
  refine qd 12 rfl ?_
  refine Q4 (v:=_) (ys:=([⟨3,0,⟨#[]⟩,a7,x.pt.n,c7⟩,vcT x.rt.name,vcT x.rt.town]:List Vc).flatMap Zl) (L:=L) rfl rfl ZL hO (by repeat (first | exact .cons .here .nil | exact Qv | exact Qq | apply Qp | apply Qo)) ⟨rfl,fun _=>rfl,by repeat (first | exact zvT | apply zvS | apply zvU)⟩ (VQ [⟨3,0,⟨#[]⟩,a7,x.pt.n,c7⟩,vcT x.rt.name,vcT x.rt.town]) (by omega) rfl rfl ?_
  intro v8 L8 hO8 _;rw [←List.flatMap_append] at hO8;obtain ⟨a8,c8,rfl⟩:=hO8.shape
  refine Qb ?_
  refine zD hD ?_
  refine zT 13 rfl (Qa rfl Q0) hD ?_
  refine qd 14 rfl ?_
  refine Q9 rfl rfl Y0 rfl rfl (by (repeat (first | exact Upd.here | apply Upd.there | apply Qw))) rfl ?_
  refine Qb ?_
  refine zD hD ?_
  refine Qn (by kernel_rfl) ?_
  refine QA ?_
  refine Qc (Qr ?_)
  refine Zy hO8 Zx (by decide) (by repeat (first | exact .cons .here .nil | exact Qv | exact Qq | apply Qp | apply Qo)) (fun I7 hI7 a9 c9 ef7 hM8=>?_)
  cases ef7
  have hM6:=hM6.mono hI7;have hIc:=hIc.trans hI7
  refine Qk ?_
  refine zV (Qg rfl ZH (fun hg=>by exact Cells.g1) rfl) ?_
  refine QF (cap:=[]) (vs:=[_]) rfl rfl zcA .nil (U4 (x:=JZ x) (cv:=⟨3,0,⟨#[]⟩,_,45,_⟩) (UL hM6 hM8) (V8 x) hok hb) rfl rfl ?_
  rintro vv8 I8 L8 hI8 ⟨rfl,ae,ce,rfl,hS9⟩
  have hIc:=hIc.trans hI8
  refine zM ?_
  refine zE ?_
  refine zE ?_
  refine zA ?_
  refine zA ?_
  refine zN (zR ?_)
  refine zM ?_
  refine zA (zN (QE ?_))
  exact QS rfl rfl (fun w hw=>⟨_,I8,[],rfl,hIc,hw.subL Qf,zbn hS9 rfl⟩)
 refine qcV (vs:=[_]) rfl X1 (zaB _ _) ?_
 refine Qb ?_
 refine zD hD ?_
 refine Zb 1 10 rfl rfl (by kernel_rfl) ?_ ?_
 ·
  refine zV (Qd rfl ZG (fun hg=>by exact zvR (QH.h0 rfl))) ?_
  refine Qb ?_
  refine zD hD ?_
  refine qd 10 rfl ?_
  refine qcV (vs:=[_]) rfl X1 (zaB _ _) ?_
  refine Qb ?_
  refine zD hD ?_
  refine qd 11 rfl ?_
  refine Ql (ps:=[(0,_),(1,_),(2,_)]) (m:=[Zl ⟨3,0,⟨#[]⟩,a7,x.pt.n,c7⟩,Zl (vcT x.rt.name),Zl (vcT x.rt.town)]) ZL rfl (.cons rfl (.cons rfl (.cons rfl (.nil)))) rfl (by simp [Zx]) (by decide) (by decide) rfl rfl (fun b_61=>?_)
  refine Qb ?_
  refine zD hD ?_
  refine qd 12 rfl ?_
  refine Q4 (v:=_) (ys:=([⟨3,0,⟨#[]⟩,a7,x.pt.n,c7⟩,vcT x.rt.name,vcT x.rt.town]:List Vc).flatMap Zl) (L:=L) rfl rfl ZL hO (by repeat (first | exact .cons .here .nil | exact Qv | exact Qq | apply Qp | apply Qo)) ⟨rfl,fun _=>rfl,by repeat (first | exact zvT | apply zvS | apply zvU)⟩ (VQ [⟨3,0,⟨#[]⟩,a7,x.pt.n,c7⟩,vcT x.rt.name,vcT x.rt.town]) (by omega) rfl rfl ?_
  intro v8 L8 hO8 _;rw [←List.flatMap_append] at hO8;obtain ⟨a8,c8,rfl⟩:=hO8.shape
  refine Qb ?_
  refine zD hD ?_
  refine zT 13 rfl (Qa rfl Q0) hD ?_
  refine qd 14 rfl ?_
  refine Q9 rfl rfl Y0 rfl rfl (by (repeat (first | exact Upd.here | apply Upd.there | apply Qw))) rfl ?_
  refine Qb ?_
  refine zD hD ?_
  refine Qn (by kernel_rfl) ?_
  refine QA ?_
  refine Qc (Qr ?_)
  refine Zy hO8 Zx (by decide) (by repeat (first | exact .cons .here .nil | exact Qv | exact Qq | apply Qp | apply Qo)) (fun I9 hI9 a9 c9 ef9 hM8=>?_)
  cases ef9
  have hM6:=hM6.mono hI9;have hIc:=hIc.trans hI9
  refine Qk ?_
  refine zV (Qg rfl ZH (fun hg=>by exact Cells.g1) rfl) ?_
  refine QF (cap:=[]) (vs:=[_]) rfl rfl zcA .nil (U4 (x:=JZ x) (cv:=⟨3,0,⟨#[]⟩,_,45,_⟩) (UL hM6 hM8) (V8 x) hok hb) rfl rfl ?_
  rintro vv10 I10 L10 hI10 ⟨rfl,ae,ce,rfl,hS9⟩
  have hIc:=hIc.trans hI10
  refine zM ?_
  refine zE ?_
  refine zE ?_
  refine zA ?_
  refine zA ?_
  refine zN (zR ?_)
  refine zM ?_
  refine zA (zN (QE ?_))
  exact QS rfl rfl (fun w hw=>⟨_,I10,[],rfl,hIc,hw.subL Qf,zbn hS9 rfl⟩)
 refine qcV (vs:=[_]) rfl X1 (zaB _ _) ?_
 refine Qb ?_
 refine zD hD ?_
 refine Zb 1 11 rfl rfl (by kernel_rfl) ?_ ?_
 ·
  refine zV (Qd rfl ZG (fun hg=>by exact zvR (QH.h0 rfl))) ?_
  refine Qb ?_
  refine zD hD ?_
  refine qd 11 rfl ?_
  refine Ql (ps:=[(0,_),(1,_),(2,_)]) (m:=[Zl ⟨3,0,⟨#[]⟩,a7,x.pt.n,c7⟩,Zl (vcT x.rt.name),Zl (vcT x.rt.town)]) ZL rfl (.cons rfl (.cons rfl (.cons rfl (.nil)))) rfl (by simp [Zx]) (by decide) (by decide) rfl rfl (fun b_61=>?_)
  refine Qb ?_
  refine zD hD ?_
  refine qd 12 rfl ?_
  refine Q4 (v:=_) (ys:=([⟨3,0,⟨#[]⟩,a7,x.pt.n,c7⟩,vcT x.rt.name,vcT x.rt.town]:List Vc).flatMap Zl) (L:=L) rfl rfl ZL hO (by repeat (first | exact .cons .here .nil | exact Qv | exact Qq | apply Qp | apply Qo)) ⟨rfl,fun _=>rfl,by repeat (first | exact zvT | apply zvS | apply zvU)⟩ (VQ [⟨3,0,⟨#[]⟩,a7,x.pt.n,c7⟩,vcT x.rt.name,vcT x.rt.town]) (by omega) rfl rfl ?_
  intro v8 L8 hO8 _;rw [←List.flatMap_append] at hO8;obtain ⟨a8,c8,rfl⟩:=hO8.shape
  refine Qb ?_
  refine zD hD ?_
  refine zT 13 rfl (Qa rfl Q0) hD ?_
  refine qd 14 rfl ?_
  refine Q9 rfl rfl Y0 rfl rfl (by (repeat (first | exact Upd.here | apply Upd.there | apply Qw))) rfl ?_
  refine Qb ?_
  refine zD hD ?_
  refine Qn (by kernel_rfl) ?_
  refine QA ?_
  refine Qc (Qr ?_)
  refine Zy hO8 Zx (by decide) (by repeat (first | exact .cons .here .nil | exact Qv | exact Qq | apply Qp | apply Qo)) (fun I11 hI11 a9 c9 ef11 hM8=>?_)
  cases ef11
  have hM6:=hM6.mono hI11;have hIc:=hIc.trans hI11
  refine Qk ?_
  refine zV (Qg rfl ZH (fun hg=>by exact Cells.g1) rfl) ?_
  refine QF (cap:=[]) (vs:=[_]) rfl rfl zcA .nil (U4 (x:=JZ x) (cv:=⟨3,0,⟨#[]⟩,_,45,_⟩) (UL hM6 hM8) (V8 x) hok hb) rfl rfl ?_
  rintro vv12 I12 L12 hI12 ⟨rfl,ae,ce,rfl,hS9⟩
  have hIc:=hIc.trans hI12
  refine zM ?_
  refine zE ?_
  refine zE ?_
  refine zA ?_
  refine zA ?_
  refine zN (zR ?_)
  refine zM ?_
  refine zA (zN (QE ?_))
  exact QS rfl rfl (fun w hw=>⟨_,I12,[],rfl,hIc,hw.subL Qf,zbn hS9 rfl⟩)
 refine Ql (ps:=[(0,_),(1,_),(2,_)]) (m:=[Zl ⟨3,0,⟨#[]⟩,a7,x.pt.n,c7⟩,Zl (vcT x.rt.name),Zl (vcT x.rt.town)]) ZL rfl (.cons rfl (.cons rfl (.cons rfl (.nil)))) rfl (by simp [Zx]) (by decide) (by decide) rfl rfl (fun b_61=>?_)
 refine Qb ?_
 refine zD hD ?_
 refine qd 1 rfl ?_
 refine zV (Qd rfl ZG (fun hg=>by (repeat (first | exact zvQ rfl | apply zvP | apply zvR)))) ?_
 refine Qb ?_
 refine zD hD ?_
 refine qd 12 rfl ?_
 refine Q4 (v:=_) (ys:=([⟨3,0,⟨#[]⟩,a7,x.pt.n,c7⟩,vcT x.rt.name,vcT x.rt.town]:List Vc).flatMap Zl) (L:=L) rfl rfl ZL hO (by repeat (first | exact .cons .here .nil | exact Qv | exact Qq | apply Qp | apply Qo)) ⟨rfl,fun _=>rfl,by repeat (first | exact zvT | apply zvS | apply zvU)⟩ (VQ [⟨3,0,⟨#[]⟩,a7,x.pt.n,c7⟩,vcT x.rt.name,vcT x.rt.town]) (by omega) rfl rfl ?_
 intro v8 L8 hO8 _;rw [←List.flatMap_append] at hO8;obtain ⟨a8,c8,rfl⟩:=hO8.shape
 refine Qb ?_
 refine zD hD ?_
 refine zT 13 rfl (Qa rfl Q0) hD ?_
 refine qd 14 rfl ?_
 refine Q9 rfl rfl Y0 rfl rfl (by (repeat (first | exact Upd.here | apply Upd.there | apply Qw))) rfl ?_
 refine Qb ?_
 refine zD hD ?_
 refine Qn (by kernel_rfl) ?_
 refine QA ?_
 refine Qc (Qr ?_)
 refine Zy hO8 Zx (by decide) (by repeat (first | exact .cons .here .nil | exact Qv | exact Qq | apply Qp | apply Qo)) (fun I13 hI13 a9 c9 ef13 hM8=>?_)
 cases ef13
 have hM6:=hM6.mono hI13;have hIc:=hIc.trans hI13
 refine Qk ?_
 refine zV (Qg rfl ZH (fun hg=>by exact Cells.g1) rfl) ?_
 refine QF (cap:=[]) (vs:=[_]) rfl rfl zcA .nil (U4 (x:=JZ x) (cv:=⟨3,0,⟨#[]⟩,_,45,_⟩) (UL hM6 hM8) (V8 x) hok hb) rfl rfl ?_
 rintro vv14 I14 L14 hI14 ⟨rfl,ae,ce,rfl,hS9⟩
 have hIc:=hIc.trans hI14
 refine zM ?_
 refine zE ?_
 refine zE ?_
 refine zA ?_
 refine zA ?_
 refine zN (zR ?_)
 refine zM ?_
 refine zA (zN (QE ?_))
 exact QS rfl rfl (fun w hw=>⟨_,I14,[],rfl,hIc,hw.subL Qf,zbn hS9 rfl⟩)
end
section
open Go Go.Kn Go.Proofs
def znW (no ver:Int):Nt:=⟨3,VK,JF,⟨no,2,ver,40,8⟩,S.zeroR⟩
def Yr (no of:Int):Nt:=⟨1,⟨no,1,of,0,9,0,4,0,0⟩,JF,L.zeroL,S.zeroR⟩
abbrev n35:Nt:=znW 3 5
def zbb (m:Nat):Rd:=⟨List.replicate m [],[],[]⟩
theorem ze9 {m:Nat}(hm:1≤m∧m≤24):Kn m (zbb m) []:=
 ⟨hm,by simp [zbb],rfl,fun xs hx=>(by rw [List.eq_of_mem_replicate hx];rfl),fun xs hx y hy=>(by rw [List.eq_of_mem_replicate hx] at hy;cases hy),fun p hp=>(by cases hp),fun t ht=>(by cases ht)⟩
theorem zhw {x:Nt}(h:(Vr x).all (fun y=>decide (-1000≤y)&&decide (y≤1000))=true)(hn:x.pt.needs=[]):NtW x:=by
 refine ⟨fun y hy=>?_,fun y hy=>by rw [hn] at hy;cases hy⟩
 have:=List.all_eq_true.1 h y hy
 rw [Bool.and_eq_true,decide_eq_true_eq,decide_eq_true_eq] at this
 omega
theorem zm7:NtW n35:=zhw (by decide) rfl
theorem zfU (I:Qu):Nd I n35.pt:=Sl.nil
theorem zlC:Q2 n35=true:=by kernel_rfl
theorem W0:TkN n35:=by
 obtain ⟨h1,h2⟩:=zbS zm7 rfl zlC
 exact ⟨h1,zlC,h2⟩
def e35:Ev:=⟨1,1,0,0,n35⟩
def eT0:Ev:=⟨1,0,0,0,zds⟩
def eD0:Ev:=⟨3,0,0,0,zds⟩
def rr1:Rd:=⟨[[],[n35]],[pkN 1 0 n35],[]⟩
def rr2:Rd:=⟨[[n35],[n35]],[],[]⟩
theorem zb9:zcL (zbb 2)=0:=(ze9 (m:=2) (by decide)).chk (by decide)
theorem zuc:doF (zbb 2) (YK e35)=(0,rr1):=by
 rw [zaS zb9,zok rfl]
 have h:Q2 (YK e35).note=true:=zlC
 unfold KI
 rw [if_pos (by kernel_rfl),if_pos h]
 rfl
theorem zvh:doF (zbb 2) (YK eT0)=(570,zeroR):=by
 rw [zaS zb9,zok rfl]
 have h:Q2 (YK eT0).note=false:=by kernel_rfl
 unfold KI
 rw [if_pos (by kernel_rfl),h]
 rfl
theorem zvb:doF (zbb 2) (YK eD0)=(1,zeroR):=by
 rw [zaS zb9,zpv rfl]
 have h:atE (zbb 2).qs (zbb 2).ks (YK eD0).at_=1:=by kernel_rfl
 unfold zbc
 rw [h,if_pos (by decide)]
theorem zkn:Kn 2 rr1 [n35]:=by
 have h:=((ze9 (m:=2) (by decide)).step (x:=e35) (by decide) (fun _ _=>W0) zuc).1
 exact h
theorem zu3:doF rr1 (YK eD0)=(0,rr2):=by
 have hn:=zkn.net (by decide)
 rw [zaS (zkn.chk (by decide)),zpv rfl]
 obtain ⟨h1,h2⟩:=zu1 (qs:=rr1.qs) (ks:=rr1.ks) (i:=0) (x:=pkN 1 0 n35) (by rw [hn];rfl) (by kernel_rfl) rfl
 have e1:atE rr1.qs rr1.ks (YK eD0).at_=0:=h1
 have e2:VY rr1.qs rr1.ks (YK eD0).at_=pkN 1 0 n35:=(zfV (qs:=rr1.qs)).trans h2
 have e3:okN (pkN 1 0 n35).data=some n35:=zcn W0
 unfold zbc
 rw [e1,e2,if_neg (by decide),if_neg (by decide),e3]
 rfl
theorem zso:Kn 2 rr2 [n35]:=(zkn.step (x:=eD0) (by decide) (fun h=>absurd h (by decide)) zu3).1
theorem zp8:zcL rr2=0:=zso.chk (by decide)
/-! ### Notes that are the same but for their heads -/
theorem ze6 {I:Qu}{x y:Nt}(hx:Nd I x.pt)(hy:Nd I y.pt):smN x y=true↔YA x=YA y:=by
 have l1:x.pt.needs.length=x.pt.n:=hx.len
 have l2:y.pt.needs.length=y.pt.n:=hy.len
 obtain ⟨k,lm,⟨i,kd,s,fd,nw,a,n,c,nd⟩,ls,rt⟩:=x
 obtain ⟨k',lm',⟨i',kd',s',fd',nw',a',n',c',nd'⟩,ls',rt'⟩:=y
 dsimp only at l1 l2
 subst l1;subst l2
 unfold smN smP smC YA
 simp only [Bool.and_eq_true,beq_iff_eq,zhX,L.lsEq_iff,S.rtEq_iff,Bool.not_eq_true',Bool.or_eq_false_iff,bne_eq_false_iff_eq,decide_eq_true_eq,Bool.not_eq_false',zfI,Nt.mk.injEq,Pt.mk.injEq]
 constructor
 ·
  rintro ⟨⟨⟨⟨h1,h2⟩,⟨⟨⟨⟨⟨h3,h4⟩,h5⟩,h6⟩,h7⟩,_⟩,h9⟩,h10⟩,h11⟩
  subst h9
  exact ⟨h1,h2,⟨h3,h4,h5,h6,h7,trivial,rfl,trivial,rfl⟩,h10,h11⟩
 ·
  rintro ⟨h1,h2,⟨h3,h4,h5,h6,h7,_,_,_,h9⟩,h10,h11⟩
  subst h9
  exact ⟨⟨⟨⟨h1,h2⟩,⟨⟨⟨⟨⟨h3,h4⟩,h5⟩,h6⟩,h7⟩,rfl⟩,rfl⟩,h10⟩,h11⟩
theorem ziw {I:Qu}:∀ {xs ys:List Nt},(∀ x∈xs,Nd I x.pt)→(∀ y∈ys,Nd I y.pt)→(smL xs ys=true↔xs.map YA=ys.map YA)
 | [],[],_,_=>by simp [smL]
 | [],_::_,_,_=>by simp [smL]
 | _::_,[],_,_=>by simp [smL]
 | x::xs,y::ys,hx,hy=>by
  rw [smL,Bool.and_eq_true,ze6 (hx x (List.mem_cons_self ..)) (hy y (List.mem_cons_self ..)),ziw (fun z hz=>hx z (List.mem_cons_of_mem _ hz)) (fun z hz=>hy z (List.mem_cons_of_mem _ hz))]
  simp
theorem zl4 {α:Type}{num:Nt→Int}{prt:Nt→α}{kind:Int}{chk:List α→Int}{d:α}(h1:∀ x,num (YA x)=num x)(h2:∀ x,prt (YA x)=prt x)(xs:List Nt):zdP num prt kind chk d (xs.map YA)=zdP num prt kind chk d xs:=by
 have e:Ys num prt kind (xs.map YA)=Ys num prt kind xs:=by
  unfold Ys
  rw [List.foldl_map]
  congr 1
  funext m x
  unfold za8
  rw [h1,h2];rfl
 unfold zdP
 rw [e]
theorem zqn {xs:List Nt}(h:xs.map YA=[n35]):wLs xs=[n35.ls]:=by
 have e:=zl4 (num:=fun x=>x.ls.no) (prt:=fun x=>x.ls) (kind:=3) (chk:=L.chk) (d:=L.zeroL) (fun _=>rfl) (fun _=>rfl) xs
 unfold wLs
 rw [←e,h]
 unfold zdP
 have e1:Ys (fun x=>x.ls.no) (fun x=>x.ls) 3 [n35]=[(3,n35.ls)]:=by kernel_rfl
 rw [e1]
 have e2:zbj (([(3,n35.ls)]:List (Int×L.Ls)).map (·.1))=[3]:=by simp [zbj]
 rw [e2]
 rfl
/-! ### A world of limits -/
def hL:List Nt:=[Yr 2 0,Yr 4 4,Yr 5 3]
theorem ziB {no of:Int}(h1:0≤no∧no≤100)(h2:0≤of∧of≤100):NtW (Yr no of):=by
 refine ⟨fun y hy=>?_,fun y hy=>by cases hy⟩
 simp only [Vr,Yr,JF,L.zeroL,S.zeroR,KH,List.mem_cons,List.not_mem_nil,or_false] at hy
 omega
theorem zie (I:Qu){x:Nt}(hx:x∈hL):NtM I x∧Q2 x=true:=by
 simp only [hL,List.mem_cons,List.not_mem_nil,or_false] at hx
 rcases hx with rfl | rfl | rfl
 ·
  have h:Q2 (Yr 2 0)=true:=by kernel_rfl
  exact ⟨zf5 (ziB (by decide) (by decide)) Sl.nil h,h⟩
 ·
  have h:Q2 (Yr 4 4)=true:=by kernel_rfl
  exact ⟨zf5 (ziB (by decide) (by decide)) Sl.nil h,h⟩
 ·
  have h:Q2 (Yr 5 3)=true:=by kernel_rfl
  exact ⟨zf5 (ziB (by decide) (by decide)) Sl.nil h,h⟩
theorem zry:wLm hL=[(Yr 2 0).lm,(Yr 5 3).lm]:=by
 unfold wLm zdP
 have e1:Ys (fun x=>x.lm.no) (fun x=>x.lm) 1 hL=[(2,(Yr 2 0).lm),(4,(Yr 4 4).lm),(5,(Yr 5 3).lm)]:=by kernel_rfl
 rw [e1]
 have e2:zbj (([(2,(Yr 2 0).lm),(4,(Yr 4 4).lm),(5,(Yr 5 3).lm)]:List (Int×Lm)).map (·.1))=[2,4,5]:=by
  unfold zbj
  exact List.mergeSort_of_pairwise (by simp)
 rw [e2]
 rfl
end
section
open Go Go.Kn Go.Proofs
theorem zbC (x y:Nt):Vn x y=Lib.compareBytes ((JM x).map UInt8.ofNat) ((JM y).map UInt8.ofNat):=by
 unfold Vn zub Xj Un
 simp
def hB (a b:Nat):List Nat:=[3,45,1,2,1,a,1,2,1,b,1,0,1,18,1,0,1,8,1,0,1,0]++(List.replicate 32 [1,0]).flatten++[3,0,2,0,2,0]
theorem XS (no of:Nat)(h1:no<64)(h2:of<64):JM (Yr no of)=hB (2*no) (2*of):=by
 have e1:zz (no:Int)=2*no:=by unfold zz;rw [if_pos (by omega)];omega
 have e2:zz (of:Int)=2*of:=by unfold zz;rw [if_pos (by omega)];omega
 have z0:zz 0=0:=by decide
 have z1:zz 1=2:=by decide
 have z4:zz 4=8:=by decide
 have z9:zz 9=18:=by decide
 have n0:Jn 0=[0]:=Y7 (by decide)
 have n2:Jn 2=[2]:=Y7 (by decide)
 have n8:Jn 8=[8]:=Y7 (by decide)
 have n18:Jn 18=[18]:=Y7 (by decide)
 have n45:Jn 45=[45]:=Y7 (by decide)
 have na:Jn (2*no)=[2*no]:=Y7 (by omega)
 have nb:Jn (2*of)=[2*of]:=Y7 (by omega)
 have hbt:Kj (⟨#[]⟩:ByteArray)=[]:=rfl
 unfold JM JZ
 simp only [Vr,Yr,JF,KH,L.zeroL,S.zeroR,hbt,List.map_cons,List.map_nil,List.cons_append,List.nil_append,Va.enc,Va.encL,List.length_cons,List.length_nil,Nat.zero_add,Nat.reduceAdd,e1,e2,z0,z1,z4,z9,n0,n2,n8,n18,n45,na,nb,List.append_nil]
 rfl
theorem zn0:Vn (Yr 2 0) (Yr 4 4)<0:=by
 rw [zbC,show Yr 2 0=Yr ((2:Nat):Int) ((0:Nat):Int) from rfl,show Yr 4 4=Yr ((4:Nat):Int) ((4:Nat):Int) from rfl,XS 2 0 (by decide) (by decide),XS 4 4 (by decide) (by decide)]
 decide
theorem znN:Vn (Yr 4 4) (Yr 5 3)<0:=by
 rw [zbC,show Yr 4 4=Yr ((4:Nat):Int) ((4:Nat):Int) from rfl,show Yr 5 3=Yr ((5:Nat):Int) ((3:Nat):Int) from rfl,XS 4 4 (by decide) (by decide),XS 5 3 (by decide) (by decide)]
 decide
theorem Xz {x:Nt}{xs:List Nt}(h:zhf xs)(hx:∀ y∈xs,Vn x y<0):zhf (x::xs):=by
 intro k l u v hkl hu hv
 cases l with
 | zero=>omega
 | succ l=>
  cases k with
  | zero=>
   simp only [List.getElem?_cons_zero,Option.some.injEq] at hu
   subst hu
   exact hx v (List.mem_of_getElem? (by simpa using hv))
  | succ k=>exact h k l u v (by omega) (by simpa using hu) (by simpa using hv)
theorem zjA:zhf []:=fun k l x y _ hx=>by simp at hx
theorem zmt:Yc hL=true:=by
 have h3:zhf hL:=Xz (Xz (Xz zjA (fun y hy=>by cases hy)) (fun y hy=>by rw [List.mem_singleton.1 hy];exact znN)) fun y hy=>by
  simp only [List.mem_cons,List.not_mem_nil,or_false] at hy
  rcases hy with rfl | rfl
  ·
   exact zn0
  ·
   exact V1 zn0 znN
 exact Wd h3 (fun x hx=>(zie (fun _=>none) hx).2) (by decide)
theorem zfc {xs:List Nt}{y:Nt}(h:xs.map YA=[y]):∃ x,xs=[x]∧YA x=y:=by
 cases xs with
 | nil=>cases h
 | cons x l=>
  cases l with
  | nil=>exact ⟨x,rfl,List.head_eq_of_cons_eq h⟩
  | cons z l=>
   have:=congrArg List.length h
   simp at this
theorem zcZ {xs:List Nt}(h:xs.map YA=[n35]){I:Qu}(hN:∀ x∈xs,Nd I x.pt):Yc xs=true:=by
 obtain ⟨x,rfl,e⟩:=zfc h
 have hn:Sl I 1 Yd x.pt.a x.pt.n x.pt.c x.pt.needs:=hN x (List.mem_singleton.2 rfl)
 have hf:Q2 x=true:=by rw [←JB hn.len.symm,e];exact zlC
 exact Wd (Xz zjA fun y hy=>by cases hy) (fun y hy=>by rw [List.mem_singleton.1 hy];exact hf) (by simp)
theorem zoS:okN []=none:=by kernel_rfl
theorem zto {I:Qu}{rs:List Hy}{a:Option Addr}{m c:Nat}{zs:List Nt}(h:LdZ I rs a m c zs)(hr:rs≠[])(hb:∀ r∈rs,r.bytes=JM n35):zs.map YA=[n35]:=by
 have hz:∀ x∈zs,YA x=n35:=fun x hx=>by
  obtain ⟨_,r,hr2,e⟩:=h.frm x hx
  rw [hb r hr2,zcn W0] at e
  exact (Option.some.inj e).symm
 match zs,h,hz with
 | [],h,_=>
  obtain ⟨r,l,rfl⟩:=List.exists_cons_of_ne_nil hr
  obtain ⟨x,hx,_⟩:=h.mem r (List.mem_cons_self ..)
  cases hx
 | [x],_,hz=>rw [List.map_singleton,hz x (List.mem_singleton.2 rfl)]
 | x::y::l,h,hz=>
  have h1:=h.srt 0 1 x y (by decide) rfl rfl
  have e1:=hz x (List.mem_cons_self ..)
  have e2:=hz y (by simp)
  rw [←zcd,e1,e2,KX] at h1
  omega
def zvx (n:Int)(v:Value)(I':Qu)(L':Go.Kn.Loc):Prop:=L'=[]∧∃ vr,v= .tuple #[vr,.int .i64 (if (decide (n<1)||decide (n>24))=true then 1 else 0)]∧RmV I' vr (if (decide (n<1)||decide (n>24))=true then zeroR else zbb n.toNat)
theorem zpN {I:Qu}{b m t:Nat}(_hm:m≤maxLen)(hb:I b=some (.cells (List.replicate m (Value.slice none 0 0)).toArray t (0,0))):RmV I (.agg #[.slice (some ⟨b,0,none⟩) m m,.slice none 0 0,.slice none 0 0]) (zbb m):=by
 refine ⟨_,_,_,_,_,_,_,_,_,List.replicate m ⟨none,0,0,[]⟩,[],rfl,⟨⟨by simp,Nat.le_refl _,fun _=>rfl,fun k x hx j u hu=>?_⟩,fun x hx=>?_,.nil,fun _ h=>(by cases h),.nil⟩,?_⟩
 ·
  have hj:j=0:=by have:=(List.getElem?_eq_some_iff.1 hu).1;simp [Wo] at this;omega
  subst hj
  have hk:=(List.getElem?_eq_some_iff.1 hx).1
  rw [List.length_replicate] at hk
  have ex:x=⟨none,0,0,[]⟩:=List.eq_of_mem_replicate (List.mem_of_getElem? hx)
  subst ex
  have hu:u= .slice none 0 0:=by simpa [Wo] using hu.symm
  subst hu
  refine QH.imm hb ?_
  show zhg _ (0+k*1+0)=_
  rw [Nat.zero_add,Nat.mul_one,Nat.add_zero,V0]
  simp [hk]
 ·
  rw [List.eq_of_mem_replicate hx]
  exact ⟨.nil,fun _ h=>(by cases h),fun _ h=>(by cases h)⟩
 ·
  simp [Vi,zbb,dtP]
theorem zoi {I:Qu}{pa qa aa:Option Addr}{pn pc qn qc an ac:Nat}{ps:List Pe}{qs:List Pk}{ks:List (Int×Int)}{r:Rd}(_hR:RmP I pa pn pc qa qn qc aa an ac ps qs ks)(e:Vi ps qs ks=r){i:Nat}{xs:List Nt}(hi:r.ps[i]? =some xs):∃ pe,ps[i]? =some pe∧pe.notes.map YA=xs:=by
 subst e
 simp only [Vi,dtP,List.getElem?_map] at hi
 cases h:ps[i]? with
 | none=>rw [h] at hi;cases hi
 | some pe=>rw [h] at hi;exact ⟨pe,rfl,Option.some.inj hi⟩
theorem Up {I:Qu}{pa qa aa:Option Addr}{pn pc qn qc an ac:Nat}{ps:List Pe}{qs:List Pk}{ks:List (Int×Int)}{r:Rd}(hR:RmP I pa pn pc qa qn qc aa an ac ps qs ks)(e:Vi ps qs ks=r):pn=r.ps.length∧qn=r.qs.length∧ks=r.ks:=by
 subst e
 exact ⟨by rw [←hR.pe.len];exact (zcr ps).symm,by rw [←hR.q.len];simp [Vi],rfl⟩
theorem zut {I:Qu}{pa qa aa:Option Addr}{pn pc qn qc an ac:Nat}{ps:List Pe}{qs:List Pk}{ks:List (Int×Int)}{r:Rd}(_hR:RmP I pa pn pc qa qn qc aa an ac ps qs ks)(e:Vi ps qs ks=r){i:Nat}{p:Pk}(hi:r.qs[i]? =some p):∃ q,qs[i]? =some q∧Vq q=p:=by
 subst e
 simp only [Vi,List.getElem?_map] at hi
 cases h:qs[i]? with
 | none=>rw [h] at hi;cases hi
 | some q=>rw [h] at hi;exact ⟨q,rfl,Option.some.inj hi⟩
structure SmR (r:Rd):Prop where
 p:r.ps.length≤24
 nn:∀ xs∈r.ps,xs.length≤1000
 q:r.qs.length≤3000
 dl:∀ p∈r.qs,p.data.length≤2000
 k:r.ks.length≤100
theorem SmR.use {I:Qu}{pa qa aa:Option Addr}{pn pc qn qc an ac:Nat}{ps:List Pe}{qs:List Pk}{ks:List (Int×Int)}(hR:RmP I pa pn pc qa qn qc aa an ac ps qs ks)(h:SmR (Vi ps qs ks)):pn≤100000∧qn≤100000∧an≤100000∧(∀ x∈ps,x.n≤100000)∧(∀ q∈qs,q.n≤100000)∧(qn+24≤4096∧∀ pe∈ps,qn+pe.n≤4096):=by
 obtain ⟨h1,h2,_⟩:=Up hR rfl
 have hp:=h.p;have hq:=h.q;have hk:=h.k
 have hkl:=hR.k.len
 have hn:∀ x∈ps,x.n≤1000:=fun x hx=>by
  have h3:=h.nn (x.notes.map YA) (List.mem_map.2 ⟨x,hx,rfl⟩)
  have:=(hR.nt x hx).sl.len
  rw [List.length_map] at h3;omega
 refine ⟨by omega,by omega,?_,fun x hx=>by have:=hn x hx;omega,fun q hq2=>?_,by omega,fun pe hpe=>by have:=hn pe hpe;omega⟩
 ·
  have:(Vi ps qs ks).ks.length=ks.length:=rfl
  omega
 ·
  have h3:=h.dl (Vq q) (List.mem_map.2 ⟨q,hq2,rfl⟩)
  have:=(hR.pk q hq2).sl.len
  have e:(Vq q).data=q.data:=rfl
  rw [e] at h3;omega
theorem zai {m:Nat}(hm:m≤24):SmR (zbb m):=⟨by simp [zbb];exact hm,fun xs hx=>(by rw [List.eq_of_mem_replicate hx];exact Nat.zero_le _),by simp [zbb],fun p hp=>(by cases hp),by simp [zbb]⟩
theorem zrR:SmR rr1:=⟨by decide,fun xs hx=>by
  simp only [rr1,List.mem_cons,List.not_mem_nil,or_false] at hx
  rcases hx with rfl | rfl<;>simp,by decide,fun p hp=>(by
  rw [List.mem_singleton.1 (show p∈[pkN 1 0 n35] from hp)];exact W0.2.2),by decide⟩
theorem zsG:SmR rr2:=⟨by decide,fun xs hx=>by
  simp only [rr2,List.mem_cons,List.not_mem_nil,or_false] at hx
  rcases hx with rfl | rfl<;>simp,by decide,fun p hp=>(by cases hp),by decide⟩
theorem zoZ:SmR zeroR:=⟨by decide,fun xs hx=>(by cases hx),by decide,fun p hp=>(by cases hp),by decide⟩
theorem ziM {xs:List Nt}{v:Value}{I':Qu}{L':Go.Kn.Loc}(h:zu8 xs v I' L')(hv:Yc xs=true):L'=[]∧∃ a1 n1 c1 a2 n2 c2 a3 n3 c3 a4 n4 c4,v= .tuple #[.slice a1 n1 c1,.slice a2 n2 c2,.slice a3 n3 c3,.slice a4 n4 c4,.int .i64 0]∧Sl I' 9 ZI a1 n1 c1 (wLm xs)∧Sl I' 5 L.encL a2 n2 c2 (wLs xs)∧SlP I' a3 n3 c3 (wPt xs)∧Sl I' 11 S.encR a4 n4 c4 (wRt xs):=by
 rcases h.2 with ⟨_,h2⟩ | ⟨h1,_⟩
 ·
  exact ⟨h.1,h2⟩
 ·
  rw [hv] at h1;cases h1
theorem zoH {xs:List Nt}{v:Value}{I':Qu}{L':Go.Kn.Loc}(h:zu2 xs v I' L')(hv:Yc xs=true):L'=[]∧∃ a n c rs,v= .tuple #[.slice a n c,.int .i64 0]∧zq3 I' a n c rs∧rs.map (·.bytes)=xs.map JM:=by
 rcases h.2 with ⟨_,h2⟩ | ⟨h1,_⟩
 ·
  exact ⟨h.1,h2⟩
 ·
  rw [hv] at h1;cases h1
theorem zrT {rs:List Hy}{v:Value}{I':Qu}{L':Go.Kn.Loc}(h:LdQ rs v I' L')(hl:rs.length≤4096)(hn:∀ r∈rs,okN r.bytes≠none):L'=[]∧∃ a m c zs,v= .tuple #[.agg #[.slice a m c],.int .i64 0]∧LdZ I' rs a m c zs:=by
 rcases h.2 with ⟨h1,_⟩ | ⟨_,⟨r,h1,h2⟩,_⟩ | ⟨_,h2⟩
 ·
  omega
 ·
  exact absurd h2 (hn r h1)
 ·
  exact ⟨h.1,h2⟩
theorem zuw {rs:List Hy}{v:Value}{I':Qu}{L':Go.Kn.Loc}(h:LdQ rs v I' L')(hl:rs.length≤4096)(hn:∃ r∈rs,okN r.bytes=none):L'=[]∧v= .tuple #[.agg #[.slice none 0 0],.int .i64 570]:=by
 rcases h.2 with ⟨h1,_⟩ | ⟨_,_,h2⟩ | ⟨_,a,m,c,zs,_,h2⟩
 ·
  omega
 ·
  exact ⟨h.1,h2⟩
 ·
  obtain ⟨r,hr,e⟩:=hn
  obtain ⟨x,_,e2⟩:=h2.mem r hr
  rw [e] at e2;cases e2
theorem zg3 (s:ByteArray):WU s s=true:=zdd.2 rfl
theorem zll {I:Qu}:RmP I none 0 0 none 0 0 none 0 0 [] [] []:=⟨.nil,fun _ h=>(by cases h),.nil,fun _ h=>(by cases h),.nil⟩
theorem zmh:zcL zeroR=570:=by kernel_rfl
theorem ztF {I:Qu}{a:Option Addr}{n c:Nat}{xs:List Nt}(h:zbh I a n c xs)(e:xs.map YA=[]):n=0:=by
 have:=h.sl.len
 have h2:=congrArg List.length e
 rw [List.length_map] at h2
 rw [←this,h2];rfl
theorem zpf {I:Qu}{xs:List Nt}(hN:∀ x∈xs,Nd I x.pt)(e:xs.map YA=[n35]):smL xs [n35]=true:=
 (ziw hN (fun y hy=>by rw [List.mem_singleton.1 hy];exact Sl.nil)).2 e
theorem zjW {I:Qu}{xs:List Nt}(hN:∀ x∈xs,Nd I x.pt)(e:xs.map YA=[n35]):∀ x∈xs,x.pt.n≤100000:=fun x hx=>by
 obtain ⟨y,rfl,e2⟩:=zfc e
 rw [List.mem_singleton.1 hx]
 have h:Sl I 1 Yd y.pt.a y.pt.n y.pt.c y.pt.needs:=hN y (List.mem_singleton.2 rfl)
 have h3:y.pt.needs.length=(YA y).pt.n:=rfl
 rw [e2] at h3
 have:=h.len
 have:(n35.pt.n:Nat)=0:=rfl
 omega
theorem zpX {I:Qu}{a:Option Addr}{n c:Nat}{rs:List Hy}{xs:List Nt}(h:zq3 I a n c rs)(hb:rs.map (·.bytes)=xs.map JM)(hx:xs.map YA=[n35]):rs.length=1∧(∀ r∈rs,r.bytes=JM n35)∧∀ r∈rs,r.n≤100000:=by
 obtain ⟨x,rfl,e⟩:=zfc hx
 have em:JM x=JM n35:=by rw [←e];rfl
 have hl:=congrArg List.length hb
 rw [List.length_map,List.length_map] at hl
 have hr:∀ r∈rs,r.bytes=JM n35:=fun r hr=>by
  have h1:r.bytes∈rs.map (·.bytes):=List.mem_map.2 ⟨r,hr,rfl⟩
  rw [hb,List.map_singleton,List.mem_singleton,em] at h1;exact h1
 refine ⟨hl,hr,fun r h2=>?_⟩
 have h3:=(h.m r h2).sl.len
 rw [hr r h2] at h3
 have:=W0.2.2
 omega
end
section
open Go Go.Kn Go.Proofs
theorem znu:PlT Tryz.prog 45 #[(0,1),(1,9),(10,19),(29,5),(34,11)] (.agg #[(.int .i64 0),(.int .i64 0),(.int .i64 0),(.int .i64 0),(.int .i64 0),(.int .i64 0),(.int .i64 0),(.int .i64 0),(.int .i64 0),(.int .i64 0),(.int .i64 0),(.int .i64 0),(.int .i64 0),(.int .i64 0),(.int .i64 0),(.int .i64 0),(.int .i64 0),(.int .i64 0),(.int .i64 0),(.int .i64 0),(.int .i64 0),(.int .i64 0),(.int .i64 0),(.int .i64 0),(.int .i64 0),(.int .i64 0),(.int .i64 0),(.int .i64 0),(.slice none 0 0),(.int .i64 0),(.int .i64 0),(.int .i64 0),(.int .i64 0),(.int .i64 0),(.int .i64 0),(.int .i64 0),(.int .i64 0),(.int .i64 0),(.int .i64 0),(.int .i64 0),(.string ⟨#[]⟩),(.string ⟨#[]⟩),(.int .i64 0),(.int .i64 0),(.int .i64 0)]):=⟨.of (by kernel_rfl),by kernel_rfl,fun w=>by kernel_rfl⟩
theorem zdH (I:Qu)(no ver:Int):Ya Tryz.prog 42 [.int .i64 no,.int .i64 ver] I (JH (znW no ver)):=by
 intro g H w hw
 refine qe Tryz.func42 Tryz.ntmps42 hw ?_
 refine zR ?_
 refine Qs KM rfl rfl (fun b_4=>?_)
 refine zN (zR ?_)
 refine zM ?_
 refine zM ?_
 refine zV (QY (ps:=[(0,_),(1,_),(2,_),(3,_),(4,_)]) [_,_,_,_,_] znL rfl rfl) ?_
 refine zV (QY (ps:=[(0,_),(3,_)]) [_,_,_,_,_,_,_,_,_,_,_,_,_,_,_,_,_,_,_,_,_,_,_,_,_,_,_,_,_,_,_,_,_,_,_,_,_,_,_,_,_,_,_,_,_] znu rfl rfl) ?_
 refine zh Vp ?_
 refine zN (QE ?_)
 exact YZ rfl rfl Zr zvT rfl (fun w hw=>⟨by rfl,hw.drop⟩)
theorem zbp (I:Qu)(no of:Int):Ya Tryz.prog 44 [.int .i64 no,.int .i64 of] I (JH (Yr no of)):=by
 intro g H w hw
 refine qe Tryz.func44 Tryz.ntmps44 hw ?_
 refine zR ?_
 refine Qs KM rfl rfl (fun b_4=>?_)
 refine zN (zR ?_)
 refine zM ?_
 refine zM ?_
 refine zV (QY (ps:=[(0,_)]) [_,_,_] zh7 rfl rfl) ?_
 refine zV (QY (ps:=[(0,_),(1,_),(2,_),(4,_),(6,_)]) [_,_,_,_,_,_,_,_,_] zjK rfl rfl) ?_
 refine zV (QY (ps:=[(0,_),(1,_)]) [_,_,_,_,_,_,_,_,_,_,_,_,_,_,_,_,_,_,_,_,_,_,_,_,_,_,_,_,_,_,_,_,_,_,_,_,_,_,_,_,_,_,_,_,_] znu rfl rfl) ?_
 refine zh Vp ?_
 refine zN (QE ?_)
 exact YZ rfl rfl Zr zvT rfl (fun w hw=>⟨by rfl,hw.drop⟩)
theorem ziy (I:Qu)(n:Int):Vh Tryz.prog 14 [.int .i64 n] I [] (zvx n):=by
  have h:=zue I n
  by_cases hb:(decide (n<1)||decide (n>24))=true
  · intro g H w hw
    refine (h g H w hw).mono ?_
    rintro e w' ⟨v,I',L',h1,h2,h3,rfl,⟨_,rfl,rfl⟩ | ⟨h4,_⟩⟩
    · exact ⟨_,_,_,h1,h2,h3,rfl,_,by rw [if_pos hb],by rw [if_pos hb];exact zfB⟩
    · rw [hb] at h4;cases h4
  · have hb2:(decide (n<1)||decide (n>24))=false:=by simpa using hb
    refine KA.m (Bad:=fun _=>False) (KA.frz (h.p (Bad:=fun _=>False)) fun v I' L' hI hq=>?_) (fun v hv=>hv)
    obtain ⟨rfl,⟨h4,_⟩ | ⟨_,b,rfl,rfl⟩⟩:=hq
    · rw [hb2] at h4;cases h4
    · refine ⟨[],b,_,.here,fun I2 h2 hb3=>⟨rfl,_,by rw [if_neg hb],?_⟩⟩
      rw [if_neg hb]
      have hn:1≤n∧n≤24:=by simpa using hb2
      exact zpN (Nat.le_trans (show n.toNat≤24 by omega) (by decide)) hb3
theorem zeI {I:Qu}{pa qa aa:Option Addr}{pn pc qn qc an ac:Nat}{ps:List Pe}{qs:List Pk}{ks:List (Int×Int)}(hR:RmP I pa pn pc qa qn qc aa an ac ps qs ks){r:Rd}(he:Vi ps qs ks=r)(hs:SmR r)(x:Ev)(hE:EvM I x){R:Int×Rd}(e:doF r (YK x)=R):Vh Tryz.prog 12 [.agg #[.slice pa pn pc,.slice qa qn qc,.slice aa an ac],.agg (zav x).toArray] I [] (DoQ R):=by
 subst he;subst e
 obtain ⟨h1,h2,h3,h4,h5,h6⟩:=SmR.use hR hs
 exact zvr hR h1 h2 h3 h4 h5 (fun _=>h6) x hE
theorem zci {I:Qu}{pa qa aa:Option Addr}{pn pc qn qc an ac:Nat}{ps:List Pe}{qs:List Pk}{ks:List (Int×Int)}(hR:RmP I pa pn pc qa qn qc aa an ac ps qs ks){r:Rd}(he:Vi ps qs ks=r)(hs:SmR r){e:Int}(hc:zcL r=e):Vh Tryz.prog 16 [.agg #[.slice pa pn pc,.slice qa qn qc,.slice aa an ac]] I [] (fun v _I' L'=>L'=[]∧v= .int .i64 e):=by
 subst he;subst hc
 obtain ⟨h1,h2,h3,h4,h5,_⟩:=SmR.use hR hs
 exact zkk hR h1 h2 h3 h4 h5
end
section
open Go Go.Kn Go.Proofs
theorem zml:zf7 Tryz.prog 45 3 29 5:=.of (by kernel_rfl)
theorem zaF:Fun Tryz.prog 12:=.of Tryz.func12 (by kernel_rfl) (by kernel_rfl)
theorem zkY:Fun Tryz.prog 14:=.of Tryz.func14 (by kernel_rfl) (by kernel_rfl)
theorem znP:Fun Tryz.prog 20:=.of Tryz.func20 (by kernel_rfl) (by kernel_rfl)
theorem zs9:Fun Tryz.prog 22:=.of Tryz.func22 (by kernel_rfl) (by kernel_rfl)
theorem znl:Fun Tryz.prog 24:=.of Tryz.func24 (by kernel_rfl) (by kernel_rfl)
theorem zk9:Fun Tryz.prog 31:=.of Tryz.func31 (by kernel_rfl) (by kernel_rfl)
theorem zdW:Fun Tryz.prog 42:=.of Tryz.func42 (by kernel_rfl) (by kernel_rfl)
theorem zs4:Fun Tryz.prog 43:=.of Tryz.func43 (by kernel_rfl) (by kernel_rfl)
theorem ziD:Fun Tryz.prog 44:=.of Tryz.func44 (by kernel_rfl) (by kernel_rfl)
theorem zdX:PlT Tryz.prog 47 #[(0,1),(1,1),(2,1),(3,1),(4,45)] (.agg #[(.int .i64 0),(.int .i64 0),(.int .i64 0),(.int .i64 0),(.int .i64 0),(.int .i64 0),(.int .i64 0),(.int .i64 0),(.int .i64 0),(.int .i64 0),(.int .i64 0),(.int .i64 0),(.int .i64 0),(.int .i64 0),(.int .i64 0),(.int .i64 0),(.int .i64 0),(.int .i64 0),(.int .i64 0),(.int .i64 0),(.int .i64 0),(.int .i64 0),(.int .i64 0),(.int .i64 0),(.int .i64 0),(.int .i64 0),(.int .i64 0),(.int .i64 0),(.int .i64 0),(.int .i64 0),(.int .i64 0),(.int .i64 0),(.slice none 0 0),(.int .i64 0),(.int .i64 0),(.int .i64 0),(.int .i64 0),(.int .i64 0),(.int .i64 0),(.int .i64 0),(.int .i64 0),(.int .i64 0),(.int .i64 0),(.int .i64 0),(.string ⟨#[]⟩),(.string ⟨#[]⟩),(.int .i64 0),(.int .i64 0),(.int .i64 0)]):=⟨.of (by kernel_rfl),by kernel_rfl,fun w=>by kernel_rfl⟩
theorem zrY:PlT Tryz.prog 59 #[(0,1)] (.agg #[(.slice none 0 0)]):=⟨.of (by kernel_rfl),by kernel_rfl,fun w=>by kernel_rfl⟩
theorem zqc {I:Qu}{av:Option Addr}{n c:Nat}{bv:Option Addr}{n2 c2:Nat}{xs:List Nt}(hS:zbh I av n c xs)(hT:Sl I 45 Zm bv n2 c2 [n35])(hd:xs.map YA=[n35])(hn:n≤100000):Ya Tryz.prog 31 [.slice av n c,.slice bv n2 c2] I (.bool true):=by
 have h:=zuA hS.sl hT hS.nd (fun y hy=>by rw [List.mem_singleton.1 hy];exact Sl.nil) (zjW hS.nd hd) hn
 rw [zpf hS.nd hd] at h;exact h
set_option maxRecDepth 100000 in
set_option maxHeartbeats 4000000 in
theorem zsE (I:Qu):Ya Tryz.prog 10 [] I (.bool true):=by
 intro g H w hw
 refine qe Tryz.func10 Tryz.ntmps10 hw ?_
 have hIc:=zvV I
 refine zR (zA ?_)
 refine zN (zR ?_)
 refine QF (cap:=[]) (vs:=[_]) rfl rfl zkY .nil (ziy _ 2) rfl rfl ?_
 rintro vv1 I1 L1 hI1 ⟨rfl,vr1,rfl,hV1⟩
 have hIc:=hIc.trans hI1
 obtain ⟨pa1,pn1,pc1,qa1,qn1,qc1,aa1,an1,ac1,ps1,qs1,rfl,hR1,he1⟩:=(show RmV _ vr1 (zbb 2) from hV1)
 obtain rfl:pn1=2:=(Up hR1 he1).1
 obtain rfl:qn1=0:=(Up hR1 he1).2.1
 refine zM ?_
 refine zE ?_
 refine zE ?_
 refine Qs Xi rfl rfl (fun b_1=>?_)
 refine zh VX ?_
 refine zA (Qb ?_)
 refine QQ .here (fun I2 hI2 hb2=>?_)
 have hR1:=hR1.mono hI2;have hIc:=hIc.trans hI2
 have h1:=BxI.of hb2
 refine Qc (zR ?_)
 refine QF (cap:=[]) (vs:=[_]) rfl rfl zkY .nil (ziy _ 0) rfl rfl ?_
 rintro vv3 I3 L3 hI3 ⟨rfl,vr3,rfl,hV3⟩
 have hR1:=hR1.mono hI3;have h1:=h1.mono hI3;have hIc:=hIc.trans hI3
 obtain ⟨pa3,pn3,pc3,qa3,qn3,qc3,aa3,an3,ac3,ps3,qs3,rfl,hR3,he3⟩:=(show RmV _ vr3 (zeroR) from hV3)
 refine zM ?_
 refine zE ?_
 refine zE ?_
 refine Qs Xi rfl rfl (fun b_3=>?_)
 refine zh VX ?_
 refine zA (Qb ?_)
 refine QQ .here (fun I4 hI4 hb4=>?_)
 have hR1:=hR1.mono hI4;have h1:=h1.mono hI4;have hIc:=hIc.trans hI4
 have h3:=BxI.of hb4
 refine Qc ?_
 refine zY [(1,_),(2,_),(4,_)] (fun T L0 E I' loc'=>∃ (b5:Nat) (pa5:Option Addr) (pn5:Nat) (pc5:Nat) (qa5:Option Addr) (qn5:Nat) (qc5:Nat) (aa5:Option Addr) (an5:Nat) (ac5:Nat) (ps5:List Pe) (qs5:List Pk),E=(5,ZJ b5)::(6,.int .i64 0)::T∧HLe I4 I'∧[]=loc'∧BxI I' b5 (.cells #[.slice pa5 pn5 pc5,.slice qa5 qn5 qc5,.slice aa5 an5 ac5] 28 (0,0))∧RmP I' pa5 pn5 pc5 qa5 qn5 qc5 aa5 an5 ac5 ps5 qs5 []∧Vi ps5 qs5 []=rr1) ?_ ?_
 ·
  have hKc3:=zvV I4
  have hD:=zvV I4
  refine ZO ?_
  refine Q3 I4 [] mixed ?_
  refine zT 0 rfl (Qg rfl Vu (fun hg=>by exact BxI.cells (vs:=[_,_,_]) h1) rfl) hD ?_
  refine Zb 1 7 rfl rfl (by kernel_rfl) ?_ ?_
  ·
   refine qcV (vs:=[_,_]) rfl zdW (zdH _ 3 5) ?_
   refine Qb ?_
   refine zD hD ?_
   refine zT 2 rfl (QY (ps:=[(0,_),(1,_),(4,_)]) [_,_,_,_,_,_,_,_,_,_,_,_,_,_,_,_,_,_,_,_,_,_,_,_,_,_,_,_,_,_,_,_,_,_,_,_,_,_,_,_,_,_,_,_,_,_,_,_,_] zdX rfl rfl) hD ?_
   refine Zb 3 7 rfl rfl (by kernel_rfl) ?_ ?_
   ·
    refine QF (cap:=[]) (vs:=[_,_]) rfl rfl zaF .nil (zeI hR1 he1 (zai (by decide)) e35 ⟨zfU _,zm7⟩ zuc) rfl rfl ?_
    rintro vv5 I5 L5 hI5 ⟨rfl,vr5,rfl,hV5⟩
    have hKc3:=hKc3.trans hI5;have hD:=hD.trans hI5
    obtain ⟨pa5,pn5,pc5,qa5,qn5,qc5,aa5,an5,ac5,ps5,qs5,rfl,hR5,he5⟩:=(show RmV _ vr5 (rr1) from hV5)
    refine Qb ?_
    refine zD hD ?_
    refine zT 4 rfl (Qj rfl) hD ?_
    refine zT 5 rfl (Zc rfl rfl) hD ?_
    refine zT 6 rfl (Zc rfl rfl) hD ?_
    refine qd 7 rfl ?_
    refine Qs Xi rfl rfl (fun b_5=>?_)
    refine Qb ?_
    refine zD hD ?_
    refine qd 8 rfl ?_
    refine zh VX ?_
    refine Q8 (b:=b_5) (by repeat (first | exact Yj.here | apply Yj.there)) (fun I6 hI6 hb6=>?_)
    have hR5:=hR5.mono hI6;have hKc3:=hKc3.trans hI6;have hD:=hD.trans hI6
    have h5:=BxI.of hb6
    refine Qb ?_
    refine zD hD ?_
    refine zT 9 rfl (QD rfl) hD ?_
    refine Qn (by kernel_rfl) ?_
    refine QA ?_
    exact zm (h:=⟨_,_,_,_,_,_,_,_,_,_,_,_,rfl,hKc3,rfl,h5,hR5,he5⟩)
   refine Qs Xi rfl rfl (fun b_5=>?_)
   refine Qb ?_
   refine zD hD ?_
   refine qd 3 rfl ?_
   refine QF (cap:=[]) (vs:=[_,_]) rfl rfl zaF .nil (zeI hR1 he1 (zai (by decide)) e35 ⟨zfU _,zm7⟩ zuc) rfl rfl ?_
   rintro vv7 I7 L7 hI7 ⟨rfl,vr5,rfl,hV5⟩
   have hKc3:=hKc3.trans hI7;have hD:=hD.trans hI7
   obtain ⟨pa5,pn5,pc5,qa5,qn5,qc5,aa5,an5,ac5,ps5,qs5,rfl,hR5,he5⟩:=(show RmV _ vr5 (rr1) from hV5)
   refine Qb ?_
   refine zD hD ?_
   refine zT 4 rfl (Qj rfl) hD ?_
   refine zT 5 rfl (Zc rfl rfl) hD ?_
   refine zT 6 rfl (Zc rfl rfl) hD ?_
   refine qd 8 rfl ?_
   refine zh VX ?_
   refine Q8 (b:=b_5) (by repeat (first | exact Yj.here | apply Yj.there)) (fun I8 hI8 hb8=>?_)
   have hR5:=hR5.mono hI8;have hKc3:=hKc3.trans hI8;have hD:=hD.trans hI8
   have h5:=BxI.of hb8
   refine Qb ?_
   refine zD hD ?_
   refine zT 9 rfl (QD rfl) hD ?_
   refine Qn (by kernel_rfl) ?_
   refine QA ?_
   exact zm (h:=⟨_,_,_,_,_,_,_,_,_,_,_,_,rfl,hKc3,rfl,h5,hR5,he5⟩)
  refine Qs Xi rfl rfl (fun b_5=>?_)
  refine Qb ?_
  refine zD hD ?_
  refine qd 1 rfl ?_
  refine qcV (vs:=[_,_]) rfl zdW (zdH _ 3 5) ?_
  refine Qb ?_
  refine zD hD ?_
  refine zT 2 rfl (QY (ps:=[(0,_),(1,_),(4,_)]) [_,_,_,_,_,_,_,_,_,_,_,_,_,_,_,_,_,_,_,_,_,_,_,_,_,_,_,_,_,_,_,_,_,_,_,_,_,_,_,_,_,_,_,_,_,_,_,_,_] zdX rfl rfl) hD ?_
  refine qd 3 rfl ?_
  refine QF (cap:=[]) (vs:=[_,_]) rfl rfl zaF .nil (zeI hR1 he1 (zai (by decide)) e35 ⟨zfU _,zm7⟩ zuc) rfl rfl ?_
  rintro vv9 I9 L9 hI9 ⟨rfl,vr5,rfl,hV5⟩
  have hKc3:=hKc3.trans hI9;have hD:=hD.trans hI9
  obtain ⟨pa5,pn5,pc5,qa5,qn5,qc5,aa5,an5,ac5,ps5,qs5,rfl,hR5,he5⟩:=(show RmV _ vr5 (rr1) from hV5)
  refine Qb ?_
  refine zD hD ?_
  refine zT 4 rfl (Qj rfl) hD ?_
  refine zT 5 rfl (Zc rfl rfl) hD ?_
  refine zT 6 rfl (Zc rfl rfl) hD ?_
  refine qd 8 rfl ?_
  refine zh VX ?_
  refine Q8 (b:=b_5) (by repeat (first | exact Yj.here | apply Yj.there)) (fun I10 hI10 hb10=>?_)
  have hR5:=hR5.mono hI10;have hKc3:=hKc3.trans hI10;have hD:=hD.trans hI10
  have h5:=BxI.of hb10
  refine Qb ?_
  refine zD hD ?_
  refine zT 9 rfl (QD rfl) hD ?_
  refine Qn (by kernel_rfl) ?_
  refine QA ?_
  exact zm (h:=⟨_,_,_,_,_,_,_,_,_,_,_,_,rfl,hKc3,rfl,h5,hR5,he5⟩)
 rintro E J11 loc' ⟨b5,pa5,pn5,pc5,qa5,qn5,qc5,aa5,an5,ac5,ps5,qs5,rfl,hJ3,rfl,h5,hR5,he5⟩
 have hR1:=hR1.mono hJ3;have h1:=h1.mono hJ3;have hIc:=hIc.trans hJ3
 obtain rfl:pn5=2:=(Up hR5 he5).1
 obtain rfl:qn5=1:=(Up hR5 he5).2.1
 refine zR ?_
 refine zV (Qg rfl Vu (fun hg=>by exact BxI.cells (vs:=[_,_,_]) h1) rfl) ?_
 refine zV (QY (ps:=[(0,_)]) [_,_,_,_,_,_,_,_,_,_,_,_,_,_,_,_,_,_,_,_,_,_,_,_,_,_,_,_,_,_,_,_,_,_,_,_,_,_,_,_,_,_,_,_,_,_,_,_,_] zdX rfl rfl) ?_
 refine QF (cap:=[]) (vs:=[_,_]) rfl rfl zaF .nil (zeI hR1 he1 (zai (by decide)) eT0 ⟨Sl.nil,XF⟩ zvh) rfl rfl ?_
 rintro vv12 I12 L12 hI12 ⟨rfl,vr7,rfl,hV7⟩
 have hR1:=hR1.mono hI12;have h1:=h1.mono hI12;have h5:=h5.mono hI12;have hR5:=hR5.mono hI12;have hIc:=hIc.trans hI12
 obtain ⟨pa7,pn7,pc7,qa7,qn7,qc7,aa7,an7,ac7,ps7,qs7,rfl,hR7,he7⟩:=(show RmV _ vr7 (zeroR) from hV7)
 refine zM ?_
 refine zE ?_
 refine zE ?_
 refine Qs Xi rfl rfl (fun b_7=>?_)
 refine zh VX ?_
 refine zA (Qb ?_)
 refine QQ .here (fun I13 hI13 hb13=>?_)
 have hR1:=hR1.mono hI13;have h1:=h1.mono hI13;have h5:=h5.mono hI13;have hR5:=hR5.mono hI13;have hIc:=hIc.trans hI13
 have h7:=BxI.of hb13
 refine Qc (zR ?_)
 refine zV (Qg rfl Vu (fun hg=>by exact BxI.cells (vs:=[_,_,_]) h1) rfl) ?_
 refine zV (QY (ps:=[(0,_)]) [_,_,_,_,_,_,_,_,_,_,_,_,_,_,_,_,_,_,_,_,_,_,_,_,_,_,_,_,_,_,_,_,_,_,_,_,_,_,_,_,_,_,_,_,_,_,_,_,_] zdX rfl rfl) ?_
 refine QF (cap:=[]) (vs:=[_,_]) rfl rfl zaF .nil (zeI hR1 he1 (zai (by decide)) eD0 ⟨Sl.nil,XF⟩ zvb) rfl rfl ?_
 rintro vv14 I14 L14 hI14 ⟨rfl,vr9,rfl,hV9⟩
 have h1:=h1.mono hI14;have h5:=h5.mono hI14;have hR5:=hR5.mono hI14;have hIc:=hIc.trans hI14
 obtain ⟨pa9,pn9,pc9,qa9,qn9,qc9,aa9,an9,ac9,ps9,qs9,rfl,hR9,he9⟩:=(show RmV _ vr9 (zeroR) from hV9)
 refine zM ?_
 refine zE ?_
 refine zE ?_
 refine Qs Xi rfl rfl (fun b_9=>?_)
 refine zh VX ?_
 refine zA (Qb ?_)
 refine QQ .here (fun I15 hI15 hb15=>?_)
 have h1:=h1.mono hI15;have h5:=h5.mono hI15;have hR5:=hR5.mono hI15;have hIc:=hIc.trans hI15
 have h9:=BxI.of hb15
 refine Qc (zR ?_)
 refine zV (Qg rfl Vu (fun hg=>by exact BxI.cells (vs:=[_,_,_]) h5) rfl) ?_
 refine zV (QY (ps:=[(0,_)]) [_,_,_,_,_,_,_,_,_,_,_,_,_,_,_,_,_,_,_,_,_,_,_,_,_,_,_,_,_,_,_,_,_,_,_,_,_,_,_,_,_,_,_,_,_,_,_,_,_] zdX rfl rfl) ?_
 refine QF (cap:=[]) (vs:=[_,_]) rfl rfl zaF .nil (zeI hR5 he5 zrR eD0 ⟨Sl.nil,XF⟩ zu3) rfl rfl ?_
 rintro vv16 I16 L16 hI16 ⟨rfl,vr11,rfl,hV11⟩
 have h1:=h1.mono hI16;have h5:=h5.mono hI16;have hR5:=hR5.mono hI16;have hIc:=hIc.trans hI16
 obtain ⟨pa11,pn11,pc11,qa11,qn11,qc11,aa11,an11,ac11,ps11,qs11,rfl,hR11,he11⟩:=(show RmV _ vr11 (rr2) from hV11)
 obtain rfl:pn11=2:=(Up hR11 he11).1
 obtain rfl:qn11=0:=(Up hR11 he11).2.1
 refine zM ?_
 refine zE ?_
 refine zE ?_
 refine Qs Xi rfl rfl (fun b_11=>?_)
 refine zh VX ?_
 refine zA (Qb ?_)
 refine QQ .here (fun I17 hI17 hb17=>?_)
 have h1:=h1.mono hI17;have h5:=h5.mono hI17;have hR5:=hR5.mono hI17;have hR11:=hR11.mono hI17;have hIc:=hIc.trans hI17
 have h11:=BxI.of hb17
 refine Qc (Qr (zR (zM ?_)))
 refine zC ?_
 refine zM ?_
 refine Zg 2 rfl rfl rfl ?_
 refine zJ (Qa rfl Yg) ?_
 refine zJ (Qd rfl Vs (fun hg=>by exact QH.imm h1.out rfl)) ?_
 refine zJ (Zi rfl Vg) ?_
 refine zJ (QX rfl rfl rfl) ?_
 refine ZS rfl rfl rfl rfl rfl ?_
 refine zM ?_
 refine Zg 8 rfl rfl rfl ?_
 refine zJ (Qj rfl) ?_
 refine zJ (QX rfl rfl rfl) ?_
 refine ZS rfl rfl rfl rfl rfl ?_
 refine zM ?_
 refine Zg 12 rfl rfl rfl ?_
 refine zJ (Qj rfl) ?_
 refine zJ (QX rfl rfl rfl) ?_
 refine ZS rfl rfl rfl rfl rfl ?_
 refine zM ?_
 refine Zg 16 rfl rfl rfl ?_
 refine zJ (Qa rfl Yg) ?_
 refine zJ (Qd rfl Vs (fun hg=>by exact QH.imm h5.out rfl)) ?_
 refine zJ (Zi rfl Vg) ?_
 refine zJ (QX rfl rfl rfl) ?_
 refine ZS rfl rfl rfl rfl rfl ?_
 refine zM ?_
 refine Zg 22 rfl rfl rfl ?_
 refine zJ (Qj rfl) ?_
 refine zJ (QX rfl rfl rfl) ?_
 refine ZS rfl rfl rfl rfl rfl ?_
 refine zM ?_
 refine Zg 26 rfl rfl rfl ?_
 refine zJ (Qj rfl) ?_
 refine zJ (QX rfl rfl rfl) ?_
 refine ZS rfl rfl rfl rfl rfl ?_
 refine zM ?_
 refine Zg 30 rfl rfl rfl ?_
 refine zJ (Qj rfl) ?_
 refine zJ (QX rfl rfl rfl) ?_
 refine ZS rfl rfl rfl rfl rfl ?_
 refine zM ?_
 refine Zg 34 rfl rfl rfl ?_
 refine zJ (Qa rfl Yg) ?_
 refine zJ (Qd rfl Vs (fun hg=>by exact QH.imm h11.out rfl)) ?_
 refine zJ (Zi rfl Vg) ?_
 refine zJ (QX rfl rfl rfl) ?_
 refine ZS rfl rfl rfl rfl rfl ?_
 refine zN ?_
 refine zI ?_ ?_<;>intro hc103
 ·
  exact absurd hc103 (by decide)
 refine Qz (Qc (zR ?_))
 refine qcV (vs:=[_,_]) rfl zdW (zdH _ 3 5) ?_
 refine Ql (ps:=[(0,_)]) (m:=[Zm n35]) Ko rfl (.cons rfl (.nil)) rfl (by simp [Zd]) (by decide) (by decide) rfl rfl (fun b_105=>?_)
 refine zA (Qb ?_)
 refine QQ .here (fun I18 hI18 hb18=>?_)
 have h1:=h1.mono hI18;have h5:=h5.mono hI18;have hR5:=hR5.mono hI18;have hR11:=hR11.mono hI18;have h11:=h11.mono hI18;have hIc:=hIc.trans hI18
 have h13:=Sl.lit (enc:=Zm) [n35] rfl Zd hb18
 refine Qc (Qr ?_)
 obtain ⟨q5,hq5,hq5e⟩:=zut hR5 he5 (i:=0) rfl
 have hq5M:=hR5.pk q5 (List.mem_of_getElem? hq5)
 have hdq5:Un q5.data=Un (JM n35):=congrArg (fun p:Pk=>Un p.data) hq5e
 obtain ⟨pb,hppb,hdpb⟩:=zoi hR5 he5 (i:=1) (xs:=[n35]) rfl
 have hnpb:=hR5.nt pb (List.mem_of_getElem? hppb)
 obtain ⟨pa,hppa,hdpa⟩:=zoi hR5 he5 (i:=0) (xs:=[]) rfl
 have hnpa:=hR5.nt pa (List.mem_of_getElem? hppa)
 have hpa0:(((pa.n:Nat):Int)==0)=true:=by rw [ztF hnpa hdpa];rfl
 have hpbl:pb.n≤100000:=by have h1:=hnpb.sl.len;have h2:=congrArg List.length hdpb;rw [List.length_map] at h2;simp at h2;omega
 have hD:=zvV I18
 refine ZO ?_
 refine Q3 I18 [] mixed ?_
 refine zT 0 rfl (Qa rfl YP) hD ?_
 refine zT 1 rfl (Qa rfl Zt) hD ?_
 refine zT 2 rfl (Qd rfl ZB (fun hg=>by exact QH.imm h5.out rfl)) hD ?_
 refine zT 3 rfl (Zi rfl Zp) hD ?_
 refine zT 4 rfl (QX rfl rfl rfl) hD ?_
 refine zT 5 rfl (Qj rfl) hD ?_
 refine zw 6 111 rfl (Qa rfl YP) hD ?_
 refine zw 7 111 rfl (Qa rfl Zt) hD ?_
 refine zw 8 111 rfl (Qd rfl ZB (fun hg=>by exact QH.imm h5.out rfl)) hD ?_
 refine zw 9 111 rfl (QV rfl rfl Zp hR5.q (fun hg=>by omega)) hD ?_
 refine zw 10 111 rfl (Qa rfl Xw) hD ?_
 refine zw 11 111 rfl (Qd rfl Ur (fun hg=>by exact zvX hR5.q hq5 (j:=2) rfl)) hD ?_
 refine zw 12 111 rfl (VZ rfl bst (fun hg=>hq5M.sl)) hD ?_
 refine qd 13 rfl ?_
 refine Zo (dj:=111) rfl rfl rfl ?_
 refine qcV (vs:=[_,_]) rfl zdW (zdH _ 3 5) ?_
 refine Qb ?_
 refine zD hD ?_
 refine qd 14 rfl ?_
 refine Zo (dj:=111) rfl rfl rfl ?_
 refine QF (cap:=[]) (vs:=[_]) rfl rfl zs4 .nil (zrE n35 (zfU _) (by decide) W0.1 (Nat.le_trans W0.2.2 (by decide))) rfl rfl ?_
 rintro vv19 I19 L19 hI19 ⟨rfl,am,cm,rfl,hSm⟩
 have h1:=h1.mono hI19;have h5:=h5.mono hI19;have hR5:=hR5.mono hI19;have hR11:=hR11.mono hI19;have h11:=h11.mono hI19;have h13:=h13.mono hI19;have hnpb:=hnpb.mono hI19;have hIc:=hIc.trans hI19;have hD:=hD.trans hI19
 refine Qb ?_
 refine zD hD ?_
 refine qd 15 rfl ?_
 refine Zo (dj:=111) rfl rfl rfl ?_
 refine zV (VZ rfl bst (fun hg=>hSm)) ?_
 refine Qb ?_
 refine zD hD ?_
 refine zw 16 111 rfl (Ws rfl rfl rfl) hD ?_
 rw [hdq5,zg3]
 refine zT 17 rfl (ZN rfl rfl rfl) hD ?_
 refine zT 18 rfl (Qj rfl) hD ?_
 refine zw 19 124 rfl (Qa rfl Yg) hD ?_
 refine zw 24 124 rfl (Qj rfl) hD ?_
 refine qd 20 rfl ?_
 refine Zo (dj:=124) rfl rfl rfl ?_
 refine zV (Qd rfl Vs (fun hg=>by exact QH.imm h5.out rfl)) ?_
 refine Qb ?_
 refine zD hD ?_
 refine qd 21 rfl ?_
 refine Zo (dj:=124) rfl rfl rfl ?_
 refine zV (QV rfl rfl Vg hR5.pe (fun hg=>by omega)) ?_
 refine Qb ?_
 refine zD hD ?_
 refine zw 22 124 rfl (Qa rfl Z6) hD ?_
 refine qd 23 rfl ?_
 refine Zo (dj:=124) rfl rfl rfl ?_
 refine zV (Qd rfl Vw (fun hg=>by exact zvO hR5.pe hppb rfl)) ?_
 refine Qb ?_
 refine zD hD ?_
 refine qd 25 rfl ?_
 refine Zo (dj:=124) rfl rfl rfl ?_
 refine qcV (vs:=[_,_]) rfl zk9 (zqc hnpb h13 hdpb (by omega)) ?_
 refine Qb ?_
 refine zD hD ?_
 refine zT 26 rfl (ZN rfl rfl rfl) hD ?_
 refine zT 27 rfl (Qj rfl) hD ?_
 refine zw 28 133 rfl (Qa rfl Yg) hD ?_
 refine qd 29 rfl ?_
 refine Zo (dj:=133) rfl rfl rfl ?_
 refine zV (Qd rfl Vs (fun hg=>by exact QH.imm h5.out rfl)) ?_
 refine Qb ?_
 refine zD hD ?_
 refine qd 30 rfl ?_
 refine Zo (dj:=133) rfl rfl rfl ?_
 refine zV (QV rfl rfl Vg hR5.pe (fun hg=>by omega)) ?_
 refine Qb ?_
 refine zD hD ?_
 refine zw 31 133 rfl (Qa rfl Z6) hD ?_
 refine qd 32 rfl ?_
 refine Zo (dj:=133) rfl rfl rfl ?_
 refine zV (Qd rfl Vw (fun hg=>by exact zvO hR5.pe hppa rfl)) ?_
 refine Qb ?_
 refine zD hD ?_
 refine zw 33 133 rfl (Zi rfl Zs) hD ?_
 refine zw 34 133 rfl (QX rfl rfl rfl) hD ?_
 rw [hpa0]
 refine zT 35 rfl (ZN rfl rfl rfl) hD ?_
 refine zT 36 rfl (QD rfl) hD ?_
 refine Qn (by kernel_rfl) ?_
 refine QA ?_
 refine Qc (Qr ?_)
 obtain ⟨pf,hppf,hdpf⟩:=zoi hR11 he11 (i:=0) (xs:=[n35]) rfl
 have hnpf:=hR11.nt pf (List.mem_of_getElem? hppf)
 have hpfl:pf.n≤100000:=by have h1:=hnpf.sl.len;have h2:=congrArg List.length hdpf;rw [List.length_map] at h2;simp at h2;omega
 refine Qk ?_
 refine zF Yg ?_
 refine zV (Qd rfl Vs (fun hg=>by exact QH.imm h11.out rfl)) ?_
 refine zV (QV rfl rfl Vg hR11.pe (fun hg=>by omega)) ?_
 refine zV (Qg rfl Kq (fun hg=>by exact zvW hR11.pe hppf) rfl) ?_
 refine QF (cap:=[]) (vs:=[_]) rfl rfl znP .nil (zh2 hnpf (by omega)) rfl rfl ?_
 rintro vv20 I20 L20 hI20 hW0
 have h1:=h1.mono hI20;have hR11:=hR11.mono hI20;have h11:=h11.mono hI20;have h13:=h13.mono hI20;have hnpf:=hnpf.mono hI20;have hIc:=hIc.trans hI20
 obtain ⟨rfl,a15,n15,c15,a16,n16,c16,a17,n17,c17,a18,n18,c18,rfl,hS15,hS16,_,_⟩:=ziM hW0 (zcZ hdpf hnpf.nd)
 rw [zqn hdpf] at hS16
 obtain rfl:n16=1:=hS16.len.symm
 refine zM ?_
 refine zE ?_
 refine zE ?_
 refine zE ?_
 refine zE ?_
 refine zE ?_
 refine zA ?_
 refine zA ?_
 refine zA ?_
 refine zA ?_
 refine zA ?_
 refine zN (zR ?_)
 refine qcV (vs:=[_,_]) rfl ziD (zbp _ 2 0) ?_
 refine qcV (vs:=[_,_]) rfl ziD (zbp _ 4 4) ?_
 refine qcV (vs:=[_,_]) rfl ziD (zbp _ 5 3) ?_
 refine Ql (ps:=[(0,_),(1,_),(2,_)]) (m:=[Zm (Yr 2 0),Zm (Yr 4 4),Zm (Yr 5 3)]) Ko rfl (.cons rfl (.cons rfl (.cons rfl (.nil)))) rfl (by simp [Zd]) (by decide) (by decide) rfl rfl (fun b_157=>?_)
 refine zV (QY (ps:=[(0,_)]) [_] zrY rfl rfl) ?_
 refine Q8 (by repeat (first | exact Yj.here | apply Yj.there)) (fun I21 hI21 hb21=>?_)
 have h1:=h1.mono hI21;have hR11:=hR11.mono hI21;have h11:=h11.mono hI21;have h13:=h13.mono hI21;have hnpf:=hnpf.mono hI21;have hS16:=hS16.mono hI21;have hIc:=hIc.trans hI21
 have hLl:=Sl.lit (enc:=Zm) hL rfl Zd hb21
 refine QF (cap:=[]) (vs:=[_]) rfl rfl znP .nil (zh2 ⟨hLl,fun x hx=>(zie _ hx).1.nd,fun x hx _=>(zie _ hx).1⟩ (by decide)) rfl rfl ?_
 rintro vv22 I22 L22 hI22 hW0
 have h1:=h1.mono hI22;have hR11:=hR11.mono hI22;have h11:=h11.mono hI22;have h13:=h13.mono hI22;have hnpf:=hnpf.mono hI22;have hS16:=hS16.mono hI22;have hIc:=hIc.trans hI22
 obtain ⟨rfl,a20,n20,c20,a21,n21,c21,a22,n22,c22,a23,n23,c23,rfl,hS20,_,_,_⟩:=ziM hW0 zmt
 rw [zry] at hS20
 obtain rfl:n20=2:=hS20.len.symm
 refine zM ?_
 refine zE ?_
 refine zE ?_
 refine zE ?_
 refine zE ?_
 refine zE ?_
 refine zA ?_
 refine zA ?_
 refine zA ?_
 refine zA ?_
 refine zA ?_
 refine zN (zR ?_)
 refine zF Yg ?_
 refine zV (Qd rfl Vs (fun hg=>by exact QH.imm h11.out rfl)) ?_
 refine zV (QV rfl rfl Vg hR11.pe (fun hg=>by omega)) ?_
 refine zV (Qg rfl Kq (fun hg=>by exact zvW hR11.pe hppf) rfl) ?_
 refine QF (cap:=[]) (vs:=[_]) rfl rfl zs9 .nil (zju hnpf (by omega)) rfl rfl ?_
 rintro vv23 I23 L23 hI23 hW0
 have h1:=h1.mono hI23;have hR11:=hR11.mono hI23;have h11:=h11.mono hI23;have h13:=h13.mono hI23;have hnpf:=hnpf.mono hI23;have hS16:=hS16.mono hI23;have hS20:=hS20.mono hI23;have hIc:=hIc.trans hI23
 obtain ⟨rfl,a25,n25,c25,rs0,rfl,hRc,hrb⟩:=zoH hW0 (zcZ hdpf hnpf.nd)
 obtain ⟨rsl,rsb,rsn⟩:=zpX hRc hrb hdpf
 obtain rfl:n25=1:=by have h:=hRc.sl.len;omega
 refine zM ?_
 refine zE ?_
 refine zE ?_
 refine zA ?_
 refine zA ?_
 refine zN (zR ?_)
 refine Ql (ps:=[]) (m:=[]) zbI rfl (.nil) rfl (by simp) (by decide) (by decide) rfl rfl (fun b_174=>?_)
 refine zM ?_
 refine Q4 (v:=_) (ys:=rs0.flatMap zbf) (L:=[(b_174,_)]) rfl rfl zbI Yk.new (by repeat (first | exact .cons .here .nil | exact Qv | exact Qq | apply Qp | apply Qo)) (hRc.sl.src Vt) (zk8 _) (by omega) rfl rfl ?_
 intro v8 L8 hO8 _;rw [List.nil_append,Nat.zero_add] at hO8
 refine zM ?_
 refine Q4 (v:=_) (ys:=rs0.flatMap zbf) (L:=L8) rfl rfl zbI hO8 (by repeat (first | exact .cons .here .nil | exact Qv | exact Qq | apply Qp | apply Qo)) (hRc.sl.src Vt) (zk8 _) (by omega) rfl rfl ?_
 intro v9 L9 hO9 _;rw [←List.flatMap_append] at hO9
 refine YE hO9 Vt (by decide) (by repeat (first | exact .cons .here .nil | exact Qv | exact Qq | apply Qp | apply Qo)) (fun I24 hI24 af24 cf24 ef24 hZr=>?_)
 subst ef24
 have h1:=h1.mono hI24;have hR11:=hR11.mono hI24;have h11:=h11.mono hI24;have h13:=h13.mono hI24;have hnpf:=hnpf.mono hI24;have hS16:=hS16.mono hI24;have hS20:=hS20.mono hI24;have hRc:=hRc.mono hI24;have hIc:=hIc.trans hI24
 refine QF (cap:=[]) (vs:=[_]) rfl rfl znl .nil (znq (rs:=rs0++rs0) ⟨hZr,fun r hr=>(List.mem_append.1 hr).elim (hRc.m r) (hRc.m r)⟩ (by omega) (fun r hr=>rsn r ((List.mem_append.1 hr).elim id id))) rfl rfl ?_
 rintro vv25 I25 L25 hI25 hLd0
 have h1:=h1.mono hI25;have hR11:=hR11.mono hI25;have h11:=h11.mono hI25;have h13:=h13.mono hI25;have hnpf:=hnpf.mono hI25;have hS16:=hS16.mono hI25;have hS20:=hS20.mono hI25;have hIc:=hIc.trans hI25
 obtain ⟨rfl,a27,m27,c27,zs27,rfl,hLz⟩:=zrT hLd0 (by rw [List.length_append,rsl];decide) (fun r hr=>by rw [rsb r ((List.mem_append.1 hr).elim id id),zcn W0];simp)
 have hLn:=hLz.nt
 have hdz:=zto hLz (by intro h;rw [List.append_eq_nil_iff] at h;rw [h.1] at rsl;cases rsl) (fun r hr=>rsb r ((List.mem_append.1 hr).elim id id))
 refine zM ?_
 refine zE ?_
 refine zE ?_
 refine Qs zk1 rfl rfl (fun b_27=>?_)
 refine zh zag ?_
 refine zA (Qb ?_)
 refine QQ .here (fun I26 hI26 hb26=>?_)
 have h1:=h1.mono hI26;have hR11:=hR11.mono hI26;have h11:=h11.mono hI26;have h13:=h13.mono hI26;have hnpf:=hnpf.mono hI26;have hS16:=hS16.mono hI26;have hS20:=hS20.mono hI26;have hLn:=hLn.mono hI26;have hIc:=hIc.trans hI26
 have h27:=BxI.of hb26
 refine Qc (zR ?_)
 refine Ql (ps:=[(0,_)]) (m:=[zbf ⟨none,0,0,[]⟩]) zbI rfl (.cons rfl (.nil)) rfl (by simp [Vt]) (by decide) (by decide) rfl rfl (fun b_183=>?_)
 refine Q8 (by repeat (first | exact Yj.here | apply Yj.there)) (fun I27 hI27 hb27=>?_)
 have h1:=h1.mono hI27;have hR11:=hR11.mono hI27;have h11:=h11.mono hI27;have h13:=h13.mono hI27;have hnpf:=hnpf.mono hI27;have hS16:=hS16.mono hI27;have hS20:=hS20.mono hI27;have hLn:=hLn.mono hI27;have h27:=h27.mono hI27;have hIc:=hIc.trans hI27
 have hNl:=Sl.lit (enc:=zbf) [(⟨none,0,0,[]⟩:Hy)] rfl Vt hb27
 refine QF (cap:=[]) (vs:=[_]) rfl rfl znl .nil (znq (rs:=[⟨none,0,0,[]⟩]) ⟨hNl,fun r hr=>by rw [List.mem_singleton.1 hr];exact ⟨.nil,fun _ h=>(by cases h)⟩⟩ (by decide) (fun r hr=>by rw [List.mem_singleton.1 hr];decide)) rfl rfl ?_
 rintro vv28 I28 L28 hI28 hLd0
 have h1:=h1.mono hI28;have hR11:=hR11.mono hI28;have h11:=h11.mono hI28;have h13:=h13.mono hI28;have hnpf:=hnpf.mono hI28;have hS16:=hS16.mono hI28;have hS20:=hS20.mono hI28;have hLn:=hLn.mono hI28;have h27:=h27.mono hI28;have hIc:=hIc.trans hI28
 obtain ⟨rfl,rfl⟩:=zuw hLd0 (by decide) ⟨_,List.mem_singleton.2 rfl,zoS⟩
 refine zM ?_
 refine zE ?_
 refine zE ?_
 refine Qs zk1 rfl rfl (fun b_29=>?_)
 refine zh zag ?_
 refine zA (Qb ?_)
 refine QQ .here (fun I29 hI29 hb29=>?_)
 have h1:=h1.mono hI29;have hR11:=hR11.mono hI29;have h11:=h11.mono hI29;have h13:=h13.mono hI29;have hnpf:=hnpf.mono hI29;have hS16:=hS16.mono hI29;have hS20:=hS20.mono hI29;have hLn:=hLn.mono hI29;have h27:=h27.mono hI29;have hIc:=hIc.trans hI29
 have h29:=BxI.of hb29
 refine Qc (zR (zM ?_))
 refine zM ?_
 refine Zo (dj:=188) rfl rfl rfl ?_
 refine zF Yg ?_
 refine Zo (dj:=188) rfl rfl rfl ?_
 refine zV (Qd rfl Vs (fun hg=>by exact QH.imm h11.out rfl)) ?_
 refine Zo (dj:=188) rfl rfl rfl ?_
 refine zV (QV rfl rfl Vg hR11.pe (fun hg=>by omega)) ?_
 refine Zo (dj:=188) rfl rfl rfl ?_
 refine zF Z6 ?_
 refine Zo (dj:=188) rfl rfl rfl ?_
 refine zV (Qd rfl Vw (fun hg=>by exact zvO hR11.pe hppf rfl)) ?_
 refine Zo (dj:=188) rfl rfl rfl ?_
 refine zM ?_
 refine Zo (dj:=188) rfl rfl rfl ?_
 refine qcV (vs:=[_,_]) rfl zk9 (zqc hnpf h13 hdpf (by omega)) ?_
 refine zV (ZN rfl rfl rfl) ?_
 refine zM ?_
 refine Zo (dj:=197) rfl rfl rfl ?_
 refine zF YP ?_
 refine Zo (dj:=197) rfl rfl rfl ?_
 refine zF Zt ?_
 refine Zo (dj:=197) rfl rfl rfl ?_
 refine zV (Qd rfl ZB (fun hg=>by exact QH.imm h11.out rfl)) ?_
 refine Zo (dj:=197) rfl rfl rfl ?_
 refine zQ Zp ?_
 refine Zo (dj:=197) rfl rfl rfl ?_
 refine zC ?_
 refine zV (ZN rfl rfl rfl) ?_
 refine zM ?_
 refine Zo (dj:=204) rfl rfl rfl ?_
 refine zV (QY (ps:=[]) [_,_,_] zgs rfl rfl) ?_
 refine Zo (dj:=204) rfl rfl rfl ?_
 refine QF (cap:=[]) (vs:=[_]) rfl rfl zfr .nil (zci zll (r:=zeroR) rfl zoZ zmh) rfl rfl ?_
 rintro vv30 I30 L30 hI30 ⟨rfl,rfl⟩
 have h1:=h1.mono hI30;have hR11:=hR11.mono hI30;have h11:=h11.mono hI30;have h13:=h13.mono hI30;have hS16:=hS16.mono hI30;have hS20:=hS20.mono hI30;have hLn:=hLn.mono hI30;have h27:=h27.mono hI30;have hIc:=hIc.trans hI30
 refine Zo (dj:=204) rfl rfl rfl ?_
 refine zC ?_
 refine zV (ZN rfl rfl rfl) ?_
 refine zM ?_
 refine Zo (dj:=209) rfl rfl rfl ?_
 refine zV (Qg rfl Vu (fun hg=>by exact BxI.cells (vs:=[_,_,_]) h11) rfl) ?_
 refine Zo (dj:=209) rfl rfl rfl ?_
 refine QF (cap:=[]) (vs:=[_]) rfl rfl zfr .nil (zci hR11 he11 zsG zp8) rfl rfl ?_
 rintro vv31 I31 L31 hI31 ⟨rfl,rfl⟩
 have h1:=h1.mono hI31;have h13:=h13.mono hI31;have hS16:=hS16.mono hI31;have hS20:=hS20.mono hI31;have hLn:=hLn.mono hI31;have h27:=h27.mono hI31;have hIc:=hIc.trans hI31
 refine Zo (dj:=209) rfl rfl rfl ?_
 refine zC ?_
 refine zV (ZN rfl rfl rfl) ?_
 refine zA (zN (Qr ?_))
 have hzl:m27≤100000:=by have h1:=hLn.sl.len;have h2:=congrArg List.length hdz;rw [List.length_map] at h2;simp at h2;omega
 have hD:=zvV I31
 refine ZO ?_
 refine Q3 I31 [] mixed ?_
 refine zT 0 rfl (Qj rfl) hD ?_
 refine zT 1 rfl (Qj rfl) hD ?_
 refine zw 2 215 rfl (Qj rfl) hD ?_
 refine zw 3 215 rfl (QX rfl rfl rfl) hD ?_
 refine zT 4 rfl (ZN rfl rfl rfl) hD ?_
 refine zT 5 rfl (Qj rfl) hD ?_
 refine zw 6 219 rfl (Qj rfl) hD ?_
 refine zw 7 219 rfl (QX rfl rfl rfl) hD ?_
 refine zT 8 rfl (ZN rfl rfl rfl) hD ?_
 refine zT 9 rfl (Qj rfl) hD ?_
 refine zw 10 223 rfl (Qj rfl) hD ?_
 refine zw 11 223 rfl (QX rfl rfl rfl) hD ?_
 refine zT 12 rfl (ZN rfl rfl rfl) hD ?_
 refine zT 13 rfl (Qj rfl) hD ?_
 refine zw 14 227 rfl (Qj rfl) hD ?_
 refine zw 15 227 rfl (QX rfl rfl rfl) hD ?_
 refine zT 16 rfl (ZN rfl rfl rfl) hD ?_
 refine zT 17 rfl (Qj rfl) hD ?_
 refine zw 18 231 rfl (Qj rfl) hD ?_
 refine zw 19 231 rfl (QX rfl rfl rfl) hD ?_
 refine zT 20 rfl (ZN rfl rfl rfl) hD ?_
 refine zT 21 rfl (Qj rfl) hD ?_
 refine zw 22 235 rfl (Qj rfl) hD ?_
 refine zw 23 235 rfl (Zi rfl YC) hD ?_
 refine zw 24 235 rfl (QX rfl rfl rfl) hD ?_
 refine zT 25 rfl (ZN rfl rfl rfl) hD ?_
 refine zT 26 rfl (Qj rfl) hD ?_
 refine zw 27 240 rfl (Qj rfl) hD ?_
 refine zw 28 240 rfl (zX YC hS20) hD ?_
 refine zw 29 240 rfl (Qa rfl Jz) hD ?_
 refine zw 30 240 rfl (Qd rfl Qy (fun hg=>by exact zvO hS20 (k:=0) rfl rfl)) hD ?_
 refine zw 31 240 rfl (QX rfl rfl rfl) hD ?_
 refine zT 32 rfl (ZN rfl rfl rfl) hD ?_
 refine zT 33 rfl (Qj rfl) hD ?_
 refine zw 34 247 rfl (Qj rfl) hD ?_
 refine zw 35 247 rfl (zX YC hS20) hD ?_
 refine zw 36 247 rfl (Qa rfl Jz) hD ?_
 refine zw 37 247 rfl (Qd rfl Qy (fun hg=>by exact zvO hS20 (k:=1) rfl rfl)) hD ?_
 refine zw 38 247 rfl (QX rfl rfl rfl) hD ?_
 refine zT 39 rfl (ZN rfl rfl rfl) hD ?_
 refine zT 40 rfl (Qj rfl) hD ?_
 refine zw 41 254 rfl (Qj rfl) hD ?_
 refine zw 42 254 rfl (Zi rfl WA) hD ?_
 refine zw 43 254 rfl (QX rfl rfl rfl) hD ?_
 refine zT 44 rfl (ZN rfl rfl rfl) hD ?_
 refine zT 45 rfl (Qj rfl) hD ?_
 refine zw 46 259 rfl (Qj rfl) hD ?_
 refine zw 47 259 rfl (zX WA hS16) hD ?_
 refine zw 48 259 rfl (Qg rfl KE (fun hg=>by exact zvW hS16 (k:=0) rfl) rfl) hD ?_
 refine qd 49 rfl ?_
 refine Zo (dj:=259) rfl rfl rfl ?_
 refine qcV (vs:=[_,_]) rfl zdW (zdH _ 3 5) ?_
 refine Qb ?_
 refine zD hD ?_
 refine qd 50 rfl ?_
 refine Zo (dj:=259) rfl rfl rfl ?_
 refine zV (zg0 [_,_,_,_,_] rfl zml rfl) ?_
 refine Qb ?_
 refine zD hD ?_
 refine zw 51 259 rfl (Wy rfl rfl zkp rfl) hD ?_
 refine zT 52 rfl (ZN rfl rfl rfl) hD ?_
 refine zT 53 rfl (Qj rfl) hD ?_
 refine zw 54 267 rfl (Qj rfl) hD ?_
 refine zw 55 267 rfl (Zi rfl zfK) hD ?_
 refine zw 56 267 rfl (QX rfl rfl rfl) hD ?_
 refine zT 57 rfl (ZN rfl rfl rfl) hD ?_
 refine zT 58 rfl (Qj rfl) hD ?_
 refine zw 59 272 rfl (Qa rfl Z6) hD ?_
 refine zw 60 272 rfl (Qd rfl Vw (fun hg=>by exact QH.imm h27.out rfl)) hD ?_
 refine zw 61 272 rfl (Qj rfl) hD ?_
 refine qd 62 rfl ?_
 refine Zo (dj:=272) rfl rfl rfl ?_
 refine qcV (vs:=[_,_]) rfl zk9 (zqc hLn h13 hdz (by omega)) ?_
 refine Qb ?_
 refine zD hD ?_
 refine zT 63 rfl (ZN rfl rfl rfl) hD ?_
 refine zT 64 rfl (QD rfl) hD ?_
 refine Qn (by kernel_rfl) ?_
 refine QA ?_
 refine Qc (QE ?_)
 exact QS rfl rfl (fun w hw=>⟨by rfl,(hw.mono hIc).subL Qf⟩)
end
section
open Go Go.Kn Go.Proofs
theorem zog {α:Type}:∀ {xs l:List α},xs.Nodup→(∀ x∈xs,x∈l)→xs.length≤l.length
 | [],_,_,_=>Nat.zero_le _
 | x::xs,l,hn,hs=>by
  obtain ⟨h1,h2⟩:=List.nodup_cons.1 hn
  obtain ⟨s,t,rfl⟩:=List.append_of_mem (hs x (List.mem_cons_self ..))
  have h:=zog (xs:=xs) (l:=s++t) h2 fun y hy=>by
   have h3:=hs y (List.mem_cons_of_mem _ hy)
   rcases List.mem_append.1 h3 with h3 | h3
   ·
    exact List.mem_append_left _ h3
   ·
    rcases List.mem_cons.1 h3 with rfl | h3
    ·
     exact absurd hy h1
    ·
     exact List.mem_append_right _ h3
  simp only [List.length_append,List.length_cons] at h ⊢
  omega
theorem zkZ {xs:List Nt}(h:zhf xs):xs.Nodup:=by
 refine List.pairwise_iff_getElem.2 fun i j hi hj hij e=>?_
 have:=h i j xs[i] xs[j] hij (List.getElem?_eq_getElem hi) (List.getElem?_eq_getElem hj)
 rw [e,KX] at this
 omega
theorem Kn.few {m:Nat}{r:Rd}{told:List Nt}(h:Kn m r told){xs:List Nt}(hx:xs∈r.ps):xs.length≤told.length:=by
 have e:(told.map YA).length=told.length:=List.length_map ..
 rw [←e]
 exact zog (zkZ (Jl (h.val xs hx)).1) fun y hy=>by
  obtain ⟨t,h1,h2⟩:=h.mem xs hx y hy
  exact List.mem_map.2 ⟨t,h1,h2⟩
theorem Kn.sm {m:Nat}{r:Rd}{told:List Nt}(h:Kn m r told)(ht:told.length≤1000)(hq:r.qs.length≤3000):SmR r:=
 ⟨by rw [h.len];exact h.m0.2,fun xs hx=>Nat.le_trans (h.few hx) ht,hq,fun p hp=>by
  obtain ⟨t,h1,h2⟩:=(h.pk p hp).data
  rw [h2];exact (h.tok t h1).2.2,by rw [h.ks];exact Nat.zero_le _⟩
structure KS (I:Qu)(m k:Nat)(r:Rd)(ts:List Nt):Prop where
 kn:Kn m r ts
 nd:∀ t∈ts,Nd I t.pt
 tl:ts.length≤k
 ql:r.qs.length≤14*k
theorem KS.mono {I I':Qu}{m k:Nat}{r:Rd}{ts:List Nt}(h:KS I m k r ts)(hI:HLe I I'):KS I' m k r ts:=⟨h.kn,fun t ht=>(h.nd t ht).mono hI,h.tl,h.ql⟩
theorem KS.zero {I:Qu}{m:Nat}(hm:1≤m∧m≤24):KS I m 0 (zbb m) []:=⟨ze9 hm,fun t ht=>(by cases ht),by simp,by simp [zbb]⟩
theorem KS.skip {I:Qu}{m k:Nat}{r:Rd}{ts:List Nt}(h:KS I m k r ts):KS I m (k+1) r ts:=⟨h.kn,h.nd,by have:=h.tl;omega,by have:=h.ql;omega⟩
theorem KS.sm {I:Qu}{m k:Nat}{r:Rd}{ts:List Nt}(h:KS I m k r ts)(hk:k≤100):SmR r:=h.kn.sm (by have:=h.tl;omega) (by have:=h.ql;omega)
theorem KS.chk {I:Qu}{m k:Nat}{r:Rd}{ts:List Nt}(h:KS I m k r ts)(hk:k≤100):zcL r=0:=h.kn.chk (by have:=h.ql;omega)
theorem zjR {c:Nat}:∀ (l:List Nat) (a:Nat),a≤c→(∀ b∈l,b≤c)→l.foldl max a≤c
 | [],_,h,_=>h
 | b::l,a,h,hl=>by
  rw [List.foldl_cons]
  exact zjR l _ (by have:=hl b (List.mem_cons_self ..);omega) fun x hx=>hl x (List.mem_cons_of_mem _ hx)
def zap (x:Ev)(ts:List Nt):List Nt:=if x.kind=1 then ts++[x.note] else ts
theorem zom {x:Ev}{ts:List Nt}(h:x.kind=1):zap x ts=ts++[x.note]:=if_pos h
theorem zqA {x:Ev}{ts:List Nt}(h:¬x.kind=1):zap x ts=ts:=if_neg h
theorem zug {I:Qu}{x:Ev}(hE:EvM I x)(h:Q2 (YA x.note)=true):TkN x.note:=by
 have hl:x.note.pt.needs.length=x.note.pt.n:=hE.nd.len
 obtain ⟨h1,h2⟩:=zbS hE.w hl (by rw [←hE.form];exact h)
 exact ⟨h1,h,h2⟩
theorem KS.step {I:Qu}{m k:Nat}{r r':Rd}{ts:List Nt}{x:Ev}(h:KS I m k r ts)(hk:k<14)(hm4:m≤14)(hE:EvM I x)(hd:doF r (YK x)=(0,r')):KS I m (k+1) r' (zap x ts)∧Grow r.ps r'.ps:=by
 have hq:=h.ql;have ht:=h.tl;have hm:=h.kn.m0
 obtain ⟨h1,h2,h3⟩:=h.kn.step (by omega) (fun _ hf=>zug hE hf) hd
 have h4:(r.ps.map List.length).foldl max 0≤14:=zjR _ _ (by omega) fun b hb=>by
  obtain ⟨xs,hx,rfl⟩:=List.mem_map.1 hb
  have:=h.kn.few hx
  omega
 refine ⟨⟨h1,fun t ht2=>?_,?_,by omega⟩,h2⟩
 ·
  unfold zap at ht2
  split at ht2
  ·
   rcases List.mem_append.1 ht2 with ht2 | ht2
   ·
    exact h.nd t ht2
   ·
    rw [List.mem_singleton.1 ht2];exact hE.nd
  ·
   exact h.nd t ht2
 ·
  unfold zap
  split
  ·
   simp;omega
  ·
   omega
/-! ### The peers' notes as they lie in memory -/
section
variable {I:Qu} {pa qa aa:Option Addr} {pn pc qn qc an ac m k:Nat} {ps:List Pe} {qs:List Pk} {ks:List (Int×Int)} {r:Rd} {ts:List Nt}
theorem zdl (e:Vi ps qs ks=r){pe:Pe}{i:Nat}(hp:ps[i]? =some pe):r.ps[i]? =some (pe.notes.map YA):=by
 subst e;simp [Vi,dtP,hp]
theorem zfE (hR:RmP I pa pn pc qa qn qc aa an ac ps qs ks)(e:Vi ps qs ks=r)(h:KS I m k r ts){pe:Pe}{i:Nat}(hp:ps[i]? =some pe):pe.n≤ts.length:=by
 have h1:=h.kn.few (List.mem_of_getElem? (zdl e hp))
 have h2:=(hR.nt pe (List.mem_of_getElem? hp)).sl.len
 rw [List.length_map] at h1
 omega
theorem zfN {x:Nt}(hN:Nd I x.pt)(hf:Q2 (YA x)=true):x.pt.n≤100000:=by
 have hl:x.pt.needs.length=x.pt.n:=hN.len
 have:=(WR hl (by rw [←JB hl.symm];exact hf)).1
 omega
theorem KS.small (h:KS I m k r ts):∀ t∈ts,t.pt.n≤100000:=fun t ht=>zfN (h.nd t ht) (h.kn.tok t ht).2.1
theorem zlP (hR:RmP I pa pn pc qa qn qc aa an ac ps qs ks)(e:Vi ps qs ks=r)(h:KS I m k r ts){pe:Pe}{i:Nat}(hp:ps[i]? =some pe):∀ x∈pe.notes,x.pt.n≤100000:=fun x hx=>by
 have hS:=hR.nt pe (List.mem_of_getElem? hp)
 exact zfN (hS.nd x hx) ((Jl (h.kn.val _ (List.mem_of_getElem? (zdl e hp)))).2.1 _ (List.mem_map.2 ⟨x,hx,rfl⟩))
theorem zmR (hR:RmP I pa pn pc qa qn qc aa an ac ps qs ks)(e:Vi ps qs ks=r)(h:KS I m k r ts){pe:Pe}{i:Nat}(hp:ps[i]? =some pe){x:Nt}(hx:x∈pe.notes):(ts.any fun t=>smN t x)=true:=by
 obtain ⟨t,h1,h2⟩:=h.kn.mem _ (List.mem_of_getElem? (zdl e hp)) (YA x) (List.mem_map.2 ⟨x,hx,rfl⟩)
 exact List.any_eq_true.2 ⟨t,h1,(ze6 (h.nd t h1) ((hR.nt pe (List.mem_of_getElem? hp)).nd x hx)).2 h2⟩
theorem zmk {pa' qa' aa':Option Addr}{pn' pc' qn' qc' an' ac':Nat}{ps':List Pe}{qs':List Pk}{ks':List (Int×Int)}{r':Rd}(hR:RmP I pa pn pc qa qn qc aa an ac ps qs ks)(e:Vi ps qs ks=r)(hR':RmP I pa' pn' pc' qa' qn' qc' aa' an' ac' ps' qs' ks')(e':Vi ps' qs' ks'=r')(hg:Grow r.ps r'.ps)
  {pe pe':Pe}{i:Nat}(hp:ps[i]? =some pe)(hp':ps'[i]? =some pe'){x:Nt}(hx:x∈pe.notes):(pe'.notes.any fun t=>smN t x)=true:=by
 have h1:=hg i _ _ (zdl e hp) (zdl e' hp') (YA x) (List.mem_map.2 ⟨x,hx,rfl⟩)
 obtain ⟨y,h2,h3⟩:=List.mem_map.1 h1
 exact List.any_eq_true.2 ⟨y,h2,(ze6 ((hR'.nt pe' (List.mem_of_getElem? hp')).nd y h2) ((hR.nt pe (List.mem_of_getElem? hp)).nd x hx)).2 h3⟩
end
structure EvS (I:Qu)(av:Option Addr)(n c:Nat)(xs:List Ev):Prop where
 sl:Sl I 49 zav av n c xs
 m:∀ x∈xs,EvM I x
theorem EvS.mono {I I':Qu}{av:Option Addr}{n c:Nat}{xs:List Ev}(h:EvS I av n c xs)(hI:HLe I I'):EvS I' av n c xs:=⟨h.sl.mono hI,fun x hx=>(h.m x hx).mono hI⟩
theorem zgA (n:Int):(n != n)=false:=by simp
theorem zrA {rm:Int}(h:0≤rm∧rm≤255):∃ M:Nat,1+rm.tmod 4=(M:Int)∧1≤M∧M≤4:=by
 have e:rm.tmod 4=rm % 4:=Int.tmod_eq_emod_of_nonneg h.1
 rw [e]
 exact ⟨(1+rm % 4).toNat,by omega,by omega,by omega⟩
end
section
open Go Go.Kn Go.Proofs
theorem zsT:Fun Tryz.prog 10:=.of Tryz.func10 (by kernel_rfl) (by kernel_rfl)
theorem znY:Fun Tryz.prog 35:=.of Tryz.func35 (by kernel_rfl) (by kernel_rfl)
theorem ziN:SlT Tryz.prog 79 47 49:=.of (by kernel_rfl)
theorem zsx:SzT Tryz.prog 47 49:=.of (by kernel_rfl)
theorem zuj:Y6 Tryz.prog 47 (.agg #[(.int .i64 0),(.int .i64 0),(.int .i64 0),(.int .i64 0),(.int .i64 0),(.int .i64 0),(.int .i64 0),(.int .i64 0),(.int .i64 0),(.int .i64 0),(.int .i64 0),(.int .i64 0),(.int .i64 0),(.int .i64 0),(.int .i64 0),(.int .i64 0),(.int .i64 0),(.int .i64 0),(.int .i64 0),(.int .i64 0),(.int .i64 0),(.int .i64 0),(.int .i64 0),(.int .i64 0),(.int .i64 0),(.int .i64 0),(.int .i64 0),(.int .i64 0),(.int .i64 0),(.int .i64 0),(.int .i64 0),(.int .i64 0),(.slice none 0 0),(.int .i64 0),(.int .i64 0),(.int .i64 0),(.int .i64 0),(.int .i64 0),(.int .i64 0),(.int .i64 0),(.int .i64 0),(.int .i64 0),(.int .i64 0),(.int .i64 0),(.string ⟨#[]⟩),(.string ⟨#[]⟩),(.int .i64 0),(.int .i64 0),(.int .i64 0)]):=.of (by kernel_rfl)
theorem zr6 (I:Qu){m:Nat}(hm:1≤m∧m≤24):Vh Tryz.prog 14 [.int .i64 m] I [] (fun v I' L'=>L'=[]∧∃ vr,v= .tuple #[vr,.int .i64 0]∧RmV I' vr (zbb m)):=by
 intro g H w hw
 refine (ziy I m g H w hw).mono ?_
 rintro e w' ⟨v,I',L',h1,h2,h3,rfl,vr,rfl,hV⟩
 have hb:¬(decide ((m:Int)<1)||decide ((m:Int)>24))=true:=by simp;omega
 rw [if_neg hb] at hV
 exact ⟨_,_,_,h1,h2,h3,rfl,vr,by rw [if_neg hb],hV⟩
theorem zr9 {I:Qu}{av:Option Addr}{n c:Nat}{xs:List Nt}{t:Nt}(hS:zbh I av n c xs)(hsm:∀ x∈xs,x.pt.n≤100000)(hn:n≤100000)(hT:Nd I t.pt)(h:(xs.any fun x=>smN x t)=true):Ya Tryz.prog 35 [.slice av n c,JH t] I (.bool true):=by
 have h2:=zsh hS.sl hS.nd hsm hn hT
 rw [h] at h2;exact h2
theorem zsB {I:Qu}{v:Value}{m:Nat}{r:Rd}{ts:List Nt}{t:Nt}{k:Nat}{L:Go.Kn.Loc}(hO:Yk 45 45 v ts.length (ts.flatMap Zm) L)(hK:KS I m k r ts)(hn:ts.length≤100000)(hT:Nd I t.pt)(h:(ts.any fun x=>smN x t)=true):zfX Tryz.prog 35 [v,JH t] I L (.bool true):=
 zfX.ofV fun I' hI hL=>by
  obtain ⟨a,c,rfl,hS⟩:=hO.sl Zd (by decide) hL
  have h2:=zsh hS (fun x hx=>(hK.nd x hx).mono hI) hK.small hn (hT.mono hI)
  rw [h] at h2;exact h2
set_option maxRecDepth 100000 in
set_option maxHeartbeats 4000000 in
theorem zqs {I:Qu} {av:Option Addr} {n c:Nat} {xs:List Ev} (hE:EvS I av n c xs) (rm:Int) (hr:0≤rm∧rm≤255):Ya Tryz.prog 6 [.int .u8 rm,.slice av n c] I (.bool true):=by
 intro g H w hw
 refine qe Tryz.func6 Tryz.ntmps6 hw ?_
 have hIc:=zvV I
 have hln:=hE.sl.len
 obtain ⟨M,hM,hM1,hM4⟩:=zrA hr
 refine zR (zA (zN (Qr (zR ?_))))
 refine qcV (vs:=[]) rfl zsT (zsE I) ?_
 refine zO (zN ?_)
 refine zI ?_ ?_<;>intro hc20
 ·
  cases hc20
 refine Qz (Qc (Qr (zR (zM ?_))))
 refine zQ ziN ?_
 refine zC (zN ?_)
 refine zI ?_ ?_<;>intro hc23
 ·
  refine zR (zA (zN (QE (Qh ?_))))
  exact QS rfl rfl (fun w hw=>⟨by rfl,(hw.mono hIc).subL Qf⟩)
 have hn14:n≤14:=by have h:=hc23;simp at h;omega
 refine Qz (Qc (zR (zM ?_)))
 refine zV (Z5 rfl zje) ?_
 rw [Vj (n:=rm) (by omega)]
 refine zV (Yi rfl rfl (fun hg=>by decide)) ?_
 refine zB ?_
 rw [hM]
 refine zA ?_
 refine zN (zR ?_)
 refine zM ?_
 refine QF (cap:=[]) (vs:=[_]) rfl rfl zkY .nil (zr6 I (m:=M) ⟨hM1,by omega⟩) rfl rfl ?_
 rintro vv1 I1 L1 hI1 ⟨rfl,vr1,rfl,hV1⟩
 have hE:=hE.mono hI1;have hIc:=hIc.trans hI1
 obtain ⟨pa1,pn1,pc1,qa1,qn1,qc1,aa1,an1,ac1,ps1,qs1,rfl,hR1,he1⟩:=(show RmV _ vr1 (zbb M) from hV1)
 have hpn1:pn1=M:=by have h:=(Up hR1 he1).1;simp [zbb] at h;exact h
 refine zM ?_
 refine zE ?_
 refine zE ?_
 refine Qs Xi rfl rfl (fun b_6=>?_)
 refine zh VX ?_
 refine zA (zN (Qr (zR ?_)))
 refine zM ?_
 refine zC ?_
 refine zM ?_
 refine Zo (dj:=35) rfl rfl rfl ?_
 refine zF Yg ?_
 refine Zo (dj:=35) rfl rfl rfl ?_
 refine zL Vs ?_
 refine Zo (dj:=35) rfl rfl rfl ?_
 refine zQ Vg ?_
 refine Zo (dj:=35) rfl rfl rfl ?_
 refine zM ?_
 refine Zo (dj:=35) rfl rfl rfl ?_
 refine zC ?_
 rw [show (((pn1:Nat):Int) != ((M:Nat):Int))=false by rw [hpn1,zgA]]
 refine zV (ZN rfl rfl rfl) ?_
 refine zN ?_
 refine zI ?_ ?_<;>intro hc41
 ·
  exact absurd hc41 (by decide)
 refine Qz (Qc (zR (zA (zN (Qr (zR ?_))))))
 refine zM ?_
 refine zQ ziN ?_
 refine zM (zN (QB ?_))
 refine zU [(5,_),(6,_),(42,_),(43,_)] (fun T L0 mz E I' loc'=>∃ (k:Nat) (v:Value) (Lt:Go.Kn.Loc) (ts:List Nt) (pa:Option Addr) (pn:Nat) (pc:Nat) (qa:Option Addr) (qn:Nat) (qc:Nat) (aa:Option Addr) (an:Nat) (ac:Nat) (ps:List Pe) (qs:List Pk) (ks:List (Int×Int)) (R:Rd),mz=n-k∧E=(8,v)::(44,.int .i64 k)::T∧HLe I1 I'∧Lt++[(b_6,.cells #[.slice pa pn pc,.slice qa qn qc,.slice aa an ac] 28 (0,0))]=loc'∧k≤n∧Yk 45 45 v ts.length (ts.flatMap Zm) Lt∧RmP I' pa pn pc qa qn qc aa an ac ps qs ks∧Vi ps qs ks=R∧KS I' M k R ts) ?_ (h:=⟨0,_,[],[],_,_,_,_,_,_,_,_,_,_,_,_,zbb M,rfl,rfl,zvV _,rfl,Nat.zero_le _,Yk.nil,hR1,he1,KS.zero ⟨hM1,by omega⟩⟩)
 rintro mz E J2 loc' ⟨k,v,Lt,ts,pa,pn,pc,qa,qn,qc,aa,an,ac,ps,qs,ks,R,rfl,rfl,hJ,rfl,hk,hO,hR,he,hK⟩
 have hE:=hE.mono hJ;have hIc:=hIc.trans hJ
 have hB0:=hJ
 have htl:=hK.tl
 refine zR (zC (zN (Qr ?_)))
 refine zI ?_ ?_<;>intro hc45
 ·
  have hlt_k:k<n:=by have h:=hc45;simp at h;omega
  obtain ⟨x,hx⟩:∃ y,xs[k]? =some y:=⟨_,List.getElem?_eq_getElem (by omega)⟩
  have hxm:=List.mem_of_getElem? hx
  refine Qz (Qc (Qr (QB (zR ?_))))
  refine zV (QV rfl rfl ziN hE.sl (fun hg=>by omega)) ?_
  refine zV (Qg rfl zj3 (fun hg=>by exact zvW hE.sl hx) rfl) ?_
  refine Qs zuj rfl rfl (fun b_10=>?_)
  refine zh zsx ?_
  refine Qb ?_
  refine QQ .here (fun I3 hI3 hb3=>?_)
  have hE:=hE.mono hI3;have hR:=hR.mono hI3;have hK:=hK.mono hI3;have hB0:=hB0.trans hI3
  have h10:=BxI.of hb3
  refine Qc (zR ?_)
  refine zV (Qg rfl Vu (fun hg=>by exact zvU .here) rfl) ?_
  refine zV (Qg rfl zj3 (fun hg=>by exact BxI.cells (vs:=zav x) h10) rfl) ?_
  refine QF (cap:=[]) (vs:=[_,_]) rfl rfl zaF .nil (zeI hR he (hK.sm (by omega)) x (hE.m x hxm) rfl) rfl rfl ?_
  rintro vv4 I4 L4 hI4 ⟨rfl,vr2,rfl,hV2⟩
  have hE:=hE.mono hI4;have hR:=hR.mono hI4;have hK:=hK.mono hI4;have h10:=h10.mono hI4;have hB0:=hB0.trans hI4
  obtain ⟨pa2,pn2,pc2,qa2,qn2,qc2,aa2,an2,ac2,ps2,qs2,rfl,hR2,he2⟩:=hV2
  refine zM ?_
  refine zE ?_
  refine zE ?_
  refine Qs Xi rfl rfl (fun b_11=>?_)
  refine zh VX ?_
  refine zA (Qb ?_)
  refine QQ .here (fun I5 hI5 hb5=>?_)
  have hE:=hE.mono hI5;have hR:=hR.mono hI5;have hK:=hK.mono hI5;have h10:=h10.mono hI5;have hR2:=hR2.mono hI5;have hB0:=hB0.trans hI5
  have h11:=BxI.of hb5
  refine Qc (Qr (zR (zM ?_)))
  refine zC (zN ?_)
  refine zI ?_ ?_<;>intro hc55
  ·
   have hO9:=hO
   have hR9:=hR
   have he9:=he
   have hK9:=hK.skip
   refine ZF (Qt (QC (Qc (Qk (zB ?_)))))
   refine zM (Qb ?_)
   exact zm (h:=⟨n-(k+1),by omega,k+1,_,_,_,_,_,_,_,_,_,_,_,_,_,_,_,_,rfl,rfl,hB0,rfl,by omega,hO9,hR9,he9,hK9⟩)
  have h0:(doF R (YK x)).1=0:=by simpa using hc55
  obtain ⟨hK2,hG⟩:=hK.step (by omega) (by omega) (hE.m x hxm) (Prod.ext h0 rfl:doF R (YK x)=(0,(doF R (YK x)).2))
  have hpn2:pn2=M:=by rw [(Up hR2 he2).1];exact hK2.kn.len
  refine Qz (Qc (Qr (zR ?_)))
  refine zF Yg ?_
  refine zV (Qd rfl Vs (fun hg=>by exact QH.imm h11.out rfl)) ?_
  refine zQ Vg ?_
  refine zM ?_
  refine zC ?_
  rw [show (((pn2:Nat):Int) != ((M:Nat):Int))=false by rw [hpn2,zgA]]
  refine zM ?_
  refine Zo (dj:=61) rfl rfl rfl ?_
  refine zV (Qg rfl Vu (fun hg=>by exact BxI.cells (vs:=[_,_,_]) h11) rfl) ?_
  refine Zo (dj:=61) rfl rfl rfl ?_
  refine QF (cap:=[]) (vs:=[_]) rfl rfl zfr .nil (zci hR2 he2 (hK2.sm (by omega)) (hK2.chk (by omega))) rfl rfl ?_
  rintro vv6 I6 L6 hI6 ⟨rfl,rfl⟩
  have hR:=hR.mono hI6;have hK:=hK.mono hI6;have h10:=h10.mono hI6;have hR2:=hR2.mono hI6;have h11:=h11.mono hI6;have hK2:=hK2.mono hI6;have hB0:=hB0.trans hI6
  refine Zo (dj:=61) rfl rfl rfl ?_
  refine zC ?_
  refine zV (ZN rfl rfl rfl) ?_
  refine zN ?_
  refine zI ?_ ?_<;>intro hc65
  ·
   exact absurd hc65 (by decide)
  refine Qz (Qc ?_)
  refine zY [(5,_),(6,_),(11,_),(42,_),(43,_),(44,_)] (fun T L0 E I' loc'=>∃ (v2:Value) (L2:Go.Kn.Loc),E=(8,v2)::T∧HLe I6 I'∧L2++[(b_6,.cells #[.slice pa pn pc,.slice qa qn qc,.slice aa an ac] 28 (0,0))]=loc'∧Yk 45 45 v2 (zap x ts).length ((zap x ts).flatMap Zm) L2) ?_ ?_
  ·
   have hKc17:=zvV I6
   refine zR ?_
   refine zF zcy ?_
   refine zV (Qd rfl Qy (fun hg=>by exact QH.imm h10.out rfl)) ?_
   refine zC (zN ?_)
   refine zI ?_ ?_<;>intro hc68
   ·
    have hk1:x.kind=1:=by simpa using hc68
    refine Qk (zM ?_)
    refine zF Xt ?_
    refine zV (Qg rfl Zr (fun hg=>by exact Cells.part (pre:=[_,_,_,_]) (vs:=Zm x.note) (post:=[]) (BxI.cells (vs:=zav x) h10) rfl) rfl) ?_
    refine Ql (ps:=[(0,_)]) (m:=[Zm x.note]) Ko rfl (.cons rfl (.nil)) rfl (by simp [Zd]) (by decide) (by decide) rfl rfl (fun b_72=>?_)
    refine Q4 (v:=_) (ys:=[x.note].flatMap Zm) (L:=Lt) rfl rfl Ko hO (by repeat (first | exact .cons .here .nil | exact Qv | exact Qq | apply Qp | apply Qo)) ⟨rfl,fun _=>rfl,by repeat (first | exact zvT | apply zvS | apply zvU)⟩ (zin [x.note]) (by omega) rfl rfl ?_
    intro v8 L8 hO8 _;rw [←List.flatMap_append] at hO8
    refine zA (Qb ?_)
    have hO7:Yk 45 45 v8 (zap x ts).length ((zap x ts).flatMap Zm) L8:=by rw [zom hk1,List.length_append];exact hO8
    exact zm (h:=⟨_,_,rfl,hKc17,rfl,hO7⟩)
   have hO7:Yk 45 45 v (zap x ts).length ((zap x ts).flatMap Zm) Lt:=by rw [zqA (by simpa using hc68)];exact hO
   refine Qz ?_
   exact zm (h:=⟨_,_,rfl,hKc17,rfl,hO7⟩)
  rintro E J7 loc' ⟨v2,L2,rfl,hJ6,rfl,hO2⟩
  have hR:=hR.mono hJ6;have hK:=hK.mono hJ6;have hR2:=hR2.mono hJ6;have h11:=h11.mono hJ6;have hK2:=hK2.mono hJ6;have hB0:=hB0.trans hJ6
  obtain ⟨ta,tc,rfl⟩:=hO2.shape
  refine Qr (zR ?_)
  refine zF Yg ?_
  refine zV (Qd rfl Vs (fun hg=>by exact QH.imm h11.out rfl)) ?_
  refine zQ Vg ?_
  refine zM (zN (QB ?_))
  refine zU [(5,_),(6,_),(8,_),(11,_),(42,_),(43,_),(44,_),(75,_),(76,_)] (fun T L0 mz E I' loc'=>∃ (i:Nat),mz=pn2-i∧E=(77,.int .i64 i)::T∧HLe J7 I'∧L2++[(b_6,.cells #[.slice pa pn pc,.slice qa qn qc,.slice aa an ac] 28 (0,0))]=loc'∧i≤pn2) ?_ (h:=⟨0,rfl,rfl,zvV _,rfl,Nat.zero_le _⟩)
  rintro mz E J8 loc' ⟨i,rfl,rfl,hJ,rfl,hi⟩
  have hR:=hR.mono hJ;have hK:=hK.mono hJ;have hR2:=hR2.mono hJ;have h11:=h11.mono hJ;have hK2:=hK2.mono hJ;have hB0:=hB0.trans hJ
  have hB2:=hJ
  refine zR (zC (zN (Qr ?_)))
  refine zI ?_ ?_<;>intro hc78
  ·
   have hlt_i:i<pn2:=by have h:=hc78;simp at h;omega
   have hlq2:=hR2.pe.len
   obtain ⟨pe,hpe⟩:∃ y,ps2[i]? =some y:=⟨_,List.getElem?_eq_getElem (by omega)⟩
   have hpm:=List.mem_of_getElem? hpe
   have hpnO:pn=M:=by rw [(Up hR he).1];exact hK.kn.len
   have hlqO:=hR.pe.len
   obtain ⟨po,hpo⟩:∃ y,ps[i]? =some y:=⟨_,List.getElem?_eq_getElem (by omega)⟩
   have hpom:=List.mem_of_getElem? hpo
   have hpf:=zfE hR2 he2 hK2 hpe
   have htl2:=hK2.tl
   have hpf2:=zfE hR he hK hpo
   refine Qz (Qc (Qr (QB (zR (zM ?_)))))
   refine zV (QV rfl rfl Vg hR2.pe (fun hg=>by omega)) ?_
   refine zV (Qg rfl Kq (fun hg=>by exact zvW hR2.pe hpe) rfl) ?_
   refine Qs zk1 rfl rfl (fun b_14=>?_)
   refine zA ?_
   refine zh zag ?_
   refine Qb ?_
   refine QQ .here (fun I9 hI9 hb9=>?_)
   have hR:=hR.mono hI9;have hR2:=hR2.mono hI9;have hK2:=hK2.mono hI9;have hB2:=hB2.trans hI9
   have h14:=BxI.of hb9
   refine Qc (Qr (zR ?_))
   refine zF Z6 ?_
   refine zV (Qd rfl Vw (fun hg=>by exact QH.imm h14.out rfl)) ?_
   refine zQ Zs ?_
   refine zM ?_
   refine zQ Zs ?_
   refine zC (zN ?_)
   refine zI ?_ ?_<;>intro hc87
   ·
    have h:=zfE hR2 he2 hK2 hpe
    have h2:=hc87
    simp at h2
    omega
   refine Qz (Qc (Qr (zR ?_)))
   refine zF Z6 ?_
   refine zV (Qd rfl Vw (fun hg=>by exact QH.imm h14.out rfl)) ?_
   refine zQ Zs ?_
   refine zM (zN (QB ?_))
   refine zU [(5,_),(6,_),(8,_),(11,_),(13,_),(14,_),(42,_),(43,_),(44,_),(75,_),(76,_),(77,_),(89,_),(90,_)] (fun T L0 mz E I' loc'=>∃ (j:Nat),mz=pe.n-j∧E=(91,.int .i64 j)::T∧HLe I9 I'∧L2++[(b_6,.cells #[.slice pa pn pc,.slice qa qn qc,.slice aa an ac] 28 (0,0))]=loc'∧j≤pe.n) ?_ (h:=⟨0,rfl,rfl,zvV _,rfl,Nat.zero_le _⟩)
   rintro mz E J10 loc' ⟨j,rfl,rfl,hJ,rfl,hj⟩
   have hR:=hR.mono hJ;have hR2:=hR2.mono hJ;have hK2:=hK2.mono hJ;have h14:=h14.mono hJ;have hB2:=hB2.trans hJ
   have hB4:=hJ
   refine zR (zC (zN (Qr ?_)))
   refine zI ?_ ?_<;>intro hc92
   ·
    have hlt_j:j<pe.n:=by have h:=hc92;simp at h;omega
    have hlj:=(hR2.nt pe hpm).sl.len
    obtain ⟨y,hy⟩:∃ y,pe.notes[j]? =some y:=⟨_,List.getElem?_eq_getElem (by omega)⟩
    have hym:=List.mem_of_getElem? hy
    refine Qz (Qc (Qr (QB (zR ?_))))
    refine zV (QV rfl rfl Zs (hR2.nt pe hpm).sl (fun hg=>by omega)) ?_
    refine zV (Qg rfl Zr (fun hg=>by exact zvW (hR2.nt pe hpm).sl hy) rfl) ?_
    refine Qs KM rfl rfl (fun b_16=>?_)
    refine zh Vp ?_
    refine Qb ?_
    refine QQ .here (fun I11 hI11 hb11=>?_)
    have hR2:=hR2.mono hI11;have hK2:=hK2.mono hI11;have hB4:=hB4.trans hI11
    have h16:=BxI.of hb11
    refine Qc (zR (zM ?_))
    refine zV (Qg rfl Zr (fun hg=>by exact BxI.cells (vs:=Zm y) h16) rfl) ?_
    refine zjt (cap:=[]) (L:=L2) (vs:=[_,_]) rfl rfl znY Qq (zsB hO2 hK2 (by have h:=hK2.tl;omega) ((hR2.nt pe hpm).nd y hym) (zmR hR2 he2 hK2 hpe hym)) rfl rfl ?_
    refine zO (zN ?_)
    refine zI ?_ ?_<;>intro hc98
    ·
     exact absurd hc98 (by decide)
    refine Qz (Qm (Qc (Qk (zB ?_))))
    refine zM (Qb ?_)
    exact zm (h:=⟨pe.n-(j+1),by omega,j+1,rfl,rfl,hB4,rfl,by omega⟩)
   have hge_j:pe.n≤j:=by have h:=hc92;simp at h;omega
   refine ZF (Qt (Qt (QC (Qc (zR ?_)))))
   refine zF Yg ?_
   refine zV (Qd rfl Vs (fun hg=>by exact zvR (zvQ rfl))) ?_
   refine zM ?_
   refine zV (QV rfl rfl Vg hR.pe (fun hg=>by omega)) ?_
   refine zF Z6 ?_
   refine zV (Qd rfl Vw (fun hg=>by exact zvO hR.pe hpo rfl)) ?_
   refine zQ Zs ?_
   refine zM (zN (QB ?_))
   refine zU [(5,_),(6,_),(8,_),(11,_),(14,_),(42,_),(43,_),(44,_),(75,_),(76,_),(77,_),(105,_),(106,_)] (fun T L0 mz E I' loc'=>∃ (q:Nat),mz=po.n-q∧E=(107,.int .i64 q)::T∧HLe J10 I'∧L2++[(b_6,.cells #[.slice pa pn pc,.slice qa qn qc,.slice aa an ac] 28 (0,0))]=loc'∧q≤po.n) ?_ (h:=⟨0,rfl,rfl,zvV _,rfl,Nat.zero_le _⟩)
   rintro mz E J12 loc' ⟨q,rfl,rfl,hJ,rfl,hq⟩
   have hR:=hR.mono hJ;have hR2:=hR2.mono hJ;have hK2:=hK2.mono hJ;have h14:=h14.mono hJ;have hB2:=hB2.trans hJ
   have hB6:=hJ
   refine zR (zC (zN (Qr ?_)))
   refine zI ?_ ?_<;>intro hc108
   ·
    have hlt_q:q<po.n:=by have h:=hc108;simp at h;omega
    have hlz:=(hR.nt po hpom).sl.len
    obtain ⟨z,hz⟩:∃ y,po.notes[q]? =some y:=⟨_,List.getElem?_eq_getElem (by omega)⟩
    have hzm:=List.mem_of_getElem? hz
    refine Qz (Qc (Qr (QB (zR ?_))))
    refine zV (QV rfl rfl Zs (hR.nt po hpom).sl (fun hg=>by omega)) ?_
    refine zV (Qg rfl Zr (fun hg=>by exact zvW (hR.nt po hpom).sl hz) rfl) ?_
    refine Qs KM rfl rfl (fun b_18=>?_)
    refine zh Vp ?_
    refine Qb ?_
    refine QQ .here (fun I13 hI13 hb13=>?_)
    have hR:=hR.mono hI13;have hR2:=hR2.mono hI13;have hK2:=hK2.mono hI13;have h14:=h14.mono hI13;have hB6:=hB6.trans hI13
    have h18:=BxI.of hb13
    refine Qc (zR ?_)
    refine zF Z6 ?_
    refine zV (Qd rfl Vw (fun hg=>by exact QH.imm h14.out rfl)) ?_
    refine zV (Qg rfl Zr (fun hg=>by exact BxI.cells (vs:=Zm z) h18) rfl) ?_
    refine qcV (vs:=[_,_]) rfl znY (zr9 (hR2.nt pe hpm) (zlP hR2 he2 hK2 hpe) (by have h:=zfE hR2 he2 hK2 hpe;have h2:=hK2.tl;omega) ((hR.nt po hpom).nd z hzm) (zmk hR he hR2 he2 hG hpo hpe hzm)) ?_
    refine zO (zN ?_)
    refine zI ?_ ?_<;>intro hc115
    ·
     exact absurd hc115 (by decide)
    refine Qz (Qm (Qc (Qk (zB ?_))))
    refine zM (Qb ?_)
    exact zm (h:=⟨po.n-(q+1),by omega,q+1,rfl,rfl,hB6,rfl,by omega⟩)
   have hge_q:po.n≤q:=by have h:=hc108;simp at h;omega
   refine ZF (Qt (Qt (QC (Qm (Qc (Qk (zB ?_)))))))
   refine zM (Qb ?_)
   exact zm (h:=⟨pn2-(i+1),by omega,i+1,rfl,rfl,hB2,rfl,by omega⟩)
  have hge_i:pn2≤i:=by have h:=hc78;simp at h;omega
  refine ZF (Qt (Qt (QC (Qc (Qk ?_)))))
  refine zV (Qg rfl Vu (fun hg=>by exact BxI.cells (vs:=[_,_,_]) h11) rfl) ?_
  refine Y2 rfl rfl VX rfl rfl rfl rfl (by (repeat (first | exact Upd.here | apply Upd.there | apply Qw))) ?_
  refine Qb ?_
  have hO9:=hO2
  have hR9:=hR2
  have he9:=he2
  have hK9:=hK2
  refine Qm (Qc (Qk (zB ?_)))
  refine zM (Qb ?_)
  exact zm (h:=⟨n-(k+1),by omega,k+1,_,_,_,_,_,_,_,_,_,_,_,_,_,_,_,_,rfl,rfl,hB0,rfl,by omega,hO9,hR9,he9,hK9⟩)
 have hge_k:n≤k:=by have h:=hc45;simp at h;omega
 refine ZF (Qt (Qt (QC (Qc (zR (zA (zN ?_)))))))
 refine QE ?_
 exact QS rfl rfl (fun w hw=>⟨by rfl,(hw.mono hIc).subL Qf⟩)
end
end Go.Proofs.YtjblkbkmblkgoaaGreat
namespace Go.Kn
section
open Go Go.ChangeShapes Go.WideShapes Go.ChangeAt Go.RowKit
def zbN (W:World):Qu:=fun b=>W.heap[b]?
theorem St.start (W:World):St W (zbN W) (fun _=>none) [] W:=
 ⟨rfl,rfl,rfl,⟨Nat.le_refl _,Nat.le_refl _⟩,fun _ _ h=>h,(fun _ _ h=>by cases h),(fun _ _ h=>by cases h),fun _=>.inr rfl,(fun _ _ h=>by cases h),by simp⟩
theorem St.below {W w:World}{H:Qu}{loc:Loc}(h:St W (zbN W) H loc w):Below W.heap.size W w:=
 ⟨h.os,h.tape,h.out,h.size.1,fun k hk=>by
  have e:W.heap[k]? =some W.heap[k]:=Array.getElem?_eq_getElem hk
  rw [h.imm k _ e,e]⟩
theorem Ya.law {P:Program}{f:FuncId}{args:List Value}{W:World}{v:Value}(h:Ya P f args (zbN W) v):Calls P f args.toArray W fun e w'=>e= .returned v∧Below W.heap.size W w':=
 (h W _ W (St.start W)).mono fun _ _ ⟨he,hs⟩=>⟨he,hs.below⟩
theorem zcm {W w:World}{may:MemPlace→Prop}(h:Below W.heap.size W w):W.keptBut w may:=by
 refine ⟨h.os,h.output,fun i hi=>?_⟩
 rw [h.block i hi]
 rw [Array.getElem?_eq_getElem hi]
 cases W.heap[i]<;>simp
theorem Wa {H:Type}{enc:TypeId×Value→H}{P:Program}{W W':World}(hl:laidOutB P=true)(hB:Below W.heap.size W W')(sp:Nat→Bool):∀ (ts:List TypeId) (vs:List Value) (ds:List (DataW H)) (ps:List MemPlace),(∀ t∈ts,P.readableRec t=true∧t<P.types.size)→
  DataW.TrodAll enc P W 0 (fun _=>true) true ts vs ds ps→(∀ x∈ps,x.block<W.heap.size∧sp x.block=true)→DataW.TrodAll enc P W' 0 sp true ts vs ds ps
 | [],[],[],ps,_,h,_=>h
 | t::ts,v::vs,d::ds,ps,hr,⟨p,q,h1,h2,e⟩,hlt=>by
  subst e
  exact ⟨p,q,WideElems.Trod_stays hl (hr t (List.mem_cons_self ..)).1 (hr t (List.mem_cons_self ..)).2 h1 (fun x hx=>hB.same (hlt x (List.mem_append_left _ hx)).1) (fun x hx=>(hlt x (List.mem_append_left _ hx)).2),
   Wa hl hB sp ts vs ds q (fun t ht=>hr t (List.mem_cons_of_mem _ ht)) h2 (fun x hx=>hlt x (List.mem_append_right _ hx)),rfl⟩
theorem zlX {H:Type}{enc:TypeId×Value→H}{P:Program}{f:Func}{s:ChangeSpec}{again:Bool}{W W':World}{args:Array Value}{ds:List (DataW H)}{before:List MemPlace}{tb:TypeId}
  (hl:laidOutB P=true)(hr:f.resultTypes= #[tb])(hb:P.underlying tb=some .bool)(hv:s.vars=[])(hs:(s.fn H (ds++[]))= {results:=[.lit (.bool true)],args:=ds})(hrd:∀ t∈f.params.toList,P.readableRec t=true∧t<P.types.size)
  (hW:DataW.Whole enc P f.params.toList s.vars false W args.toList ds [] before)(hB:Below W.heap.size W W'):s.post enc P f false true false again W args (.bool true) W':=by
 have hlt:∀ x∈before,x.block<W.heap.size:=fun x hx=>by simpa using hW.lt x hx
 have hW0:=hW
 obtain ⟨p,q,hA,hV,rfl,hfz,_⟩:=hW
 rw [hv] at hV
 obtain ⟨_,rfl⟩:=trodVars_none hV
 rw [List.append_nil] at hlt hfz hW0
 have hres:∀ (b:Nat) (sp:Nat→Bool) (hd:Bool),DataW.TrodAll enc P W' b sp hd f.resultTypes.toList ((Value.bool true).resultList f.resultTypes.size) [.lit (.bool true)] []:=fun b sp hd=>by
  rw [hr];exact trodAll_mk1 (shut_bool hb true)
 have hargs:∀ sp:Nat→Bool,(∀ x∈p,sp x.block=true)→DataW.TrodAll enc P W' 0 sp true f.params.toList args.toList ds p:=fun sp h=>Wa hl hB sp _ _ _ _ hrd hA (fun x hx=>⟨hlt x hx,h x hx⟩)
 have hnil:∀ sp:Nat→Bool,DataW.TrodVars enc P W' sp s.vars [] []:=fun sp=>by rw [hv];rfl
 refine ⟨ds,[],p,[],p,[],hW0,?_,?_,?_,zcm hB,fun _=>?_⟩
 ·
  rw [hs];exact hres _ _ _
 ·
  rw [hs];exact hargs _ (fun x hx=>by simpa using hlt x hx)
 ·
  rw [hs];exact hnil _
 ·
  refine ⟨fun j t r ht hr'=>?_,[.lit (.bool true)]++ds,[],[]++p,⟨[]++p,[],trodAll_append (hargs _ (fun _ _=>rfl)) (hres _ _ _),hnil _,by simp,?_,fun h=>by cases h⟩,fun x hx _=>by simpa using hx⟩
  ·
   rw [hr] at ht hr'
   cases j with
   | zero=>simp [Value.resultList] at ht hr';subst ht;subst hr';exact okWide_bool_mk hb _
   | succ j=>simp at ht
  ·
   intro b off hx
   rw [hB.frozen (hlt _ (by simpa using hx))]
   exact hfz b off (by simpa using hx)
theorem zjd {W:World}{b o:Nat}{u:Value}(h:W.cell? ⟨b,o,none⟩=some u):QH (zbN W) [] b o u:=by
 unfold World.cell? at h
 split at h
 ·
  rename_i c t fz hb
  simp only [Option.isSome_none,Bool.false_eq_true,if_false] at h
  exact ⟨c,t,fz,.inl hb,h⟩
 ·
  cases h
theorem zgt {H:Type}{enc:TypeId×Value→H}{P:Program}{W:World}{t e:TypeId}{size fuel0:Nat}{cs:List Value}{x0:DataW H×List MemPlace}{α:Type}(enc':α→List Value)(ok:α→Prop)
  (ht:P.underlying t=some (.slice e))(hc:P.cellsOf e=size)(hpos:0<size)(hlen:∀ y,(enc' y).length=size)
  (hel:∀ fuel cs x,DataW.trod enc P W 0 (fun _=>true) true fuel e cs=some x→∃ y,ok y∧enc' y=cs)
  (hf':DataW.trod enc P W 0 (fun _=>true) true fuel0 t cs=some x0):∃ av n c xs,cs=[.slice av n c]∧Sl (zbN W) size enc' av n c xs∧(∀ x∈xs,ok x)∧c≤maxLen:=by
 rcases Go.Deep.open_slice ht hf' with ⟨e1,_⟩ | ⟨a,len0,cap0,m,n,D,Pl,e1,hb,hl,hm,hmm,_,hx⟩
 ·
  subst e1
  exact ⟨none,0,0,[],rfl,.nil,(fun x hx=>by cases hx),Nat.zero_le _⟩
 ·
  subst e1
  have hlm:len0≤m:=by rw [hmm];simp;exact hl
  have each:∀ i,i<len0→∃ y,ok y∧W.cells? 0 (a.add (i*size)) size=some (enc' y):=fun i hi=>by
   obtain ⟨cs',h1,h2⟩:=hx i (by omega)
   obtain ⟨y,hy,e⟩:=hel _ _ _ h2
   rw [hc] at h1
   exact ⟨y,hy,by rw [h1,e]⟩
  have all:∀ k,k≤len0→∃ xs:List α,xs.length=k∧∀ i x,xs[i]? =some x→ok x∧W.cells? 0 (a.add (i*size)) size=some (enc' x):=by
   intro k
   induction k with
   | zero=>intro _;exact ⟨[],rfl,fun i x h=>by simp at h⟩
   | succ k ih=>
    intro hk
    obtain ⟨xs,hl',hxs⟩:=ih (by omega)
    obtain ⟨y,hy,hcy⟩:=each k (by omega)
    refine ⟨xs++[y],by simp [hl'],fun i x h=>?_⟩
    by_cases hi:i<xs.length
    ·
     rw [List.getElem?_append_left hi] at h;exact hxs i x h
    ·
     rw [List.getElem?_append_right (by omega)] at h
     have:i=k:=by have:=(List.getElem?_eq_some_iff.1 h).1;simp at this;omega
     subst this
     rw [hl'] at h;simp at h;subst h
     exact ⟨hy,hcy⟩
  obtain ⟨xs,hl',hxs⟩:=all len0 (Nat.le_refl _)
  have add0:∀ (b o n:Nat),(⟨b,o,none⟩:Addr).add n=⟨b,o+n,none⟩:=fun b o n=>by
   unfold Addr.add
   split
   ·
    rename_i e;subst e;rfl
   ·
    rfl
  have hspot:0<xs.length→a.spot=none:=fun hx=>by
   have hx0:xs[0]? =some xs[0]:=List.getElem?_eq_getElem hx
   have hp0:0<(enc' xs[0]).length:=by rw [hlen];exact hpos
   obtain ⟨_,h1,h2⟩:=World.cells?_some (hxs 0 _ hx0).2
   have h3:=h2 0 hpos
   rw [List.getElem?_eq_getElem hp0] at h3
   simpa [Addr.add] using World.cell?_spot h3
  have cellat:∀ i x,xs[i]? =some x→∀ j u,(enc' x)[j]? =some u→W.cell? ⟨a.block,a.off+i*size+j,none⟩=some u:=fun i x hx j u hu=>by
   obtain ⟨_,h1,h2⟩:=World.cells?_some (hxs i x hx).2
   have hj:j<size:=by rw [←hlen x];exact (List.getElem?_eq_some_iff.1 hu).1
   have h3:=h2 j hj
   rw [hu] at h3
   have hsp:=hspot (by have:=(List.getElem?_eq_some_iff.1 hx).1;omega)
   obtain ⟨b,o,sp⟩:=a
   simp only at hsp
   subst hsp
   rw [add0,add0] at h3
   exact h3
  refine ⟨some a,len0,cap0,xs,rfl,⟨hl',hl,fun hn=>?_,fun k x hx j u hu=>?_⟩,fun x hx=>?_,hm⟩
  ·
   have:=hspot (by omega)
   obtain ⟨b,o,sp⟩:=a
   simp only at this
   subst this;rfl
  ·
   exact zjd (cellat k x hx j u hu)
  ·
   obtain ⟨i,hi⟩:=List.getElem?_of_mem hx
   exact (hxs i x hi).1
theorem zpY {H:Type}{enc:TypeId×Value→H}{P:Program}{W:World}{base:Nat}{t e:TypeId}{size:Nat}{v:Value}{d:DataW H}{p:List MemPlace}{α:Type}(enc':α→List Value)(ok:α→Prop)
  (ht:P.underlying t=some (.slice e))(hc:P.cellsOf e=size)(hpos:0<size)(hlen:∀ y,(enc' y).length=size)
  (hel:∀ fuel cs x,DataW.trod enc P W 0 (fun _=>true) true fuel e cs=some x→∃ y,ok y∧enc' y=cs)
  (hv:Value.okWide P W .any base t v)(h:DataW.Trod enc P W 0 (fun _=>true) true t v d p):∃ av n c xs,v= .slice av n c∧Sl (zbN W) size enc' av n c xs∧(∀ x∈xs,ok x)∧c≤maxLen:=by
 obtain ⟨a0,len0,cap0,rfl⟩:=okWide_slice ht hv
 obtain ⟨fuel,hf⟩:=h
 obtain ⟨av,n,c,xs,e,h1,h2,h3⟩:=zgt enc' ok ht hc hpos hlen hel (cs:=[.slice a0 len0 cap0]) (by simpa [Value.cells] using hf)
 cases e
 exact ⟨_,_,_,xs,rfl,h1,h2,h3⟩
theorem zsf {H:Type}{enc:TypeId×Value→H}{P:Program}{W:World}{e:TypeId}{k:IntKind}(he:P.underlying e=some (.int k))(hk:k= .i64)(fuel:Nat)(cs:List Value)(x:DataW H×List MemPlace)(h:DataW.trod enc P W 0 (fun _=>true) true fuel e cs=some x):
  ∃ y:Int,(-9223372036854775808≤y∧y≤9223372036854775807)∧[Value.int .i64 y]=cs:=by
 subst hk
 obtain ⟨v,hv⟩:∃ v,cs=[v]:=by
  have:=h
  cases fuel with
  | zero=>simp [DataW.trod] at this
  | succ m=>unfold DataW.trod at this;rw [he] at this;split at this<;>simp_all
 subst hv
 obtain ⟨n,e,_,w⟩:=DataW.trod_int he h
 cases e
 simp only [Lit.wf,Bool.and_eq_true,decide_eq_true_eq] at w
 exact ⟨n,w,rfl⟩
theorem Z1 {n:Int}(h:(Lit.int .i64 n).wf=true): -9223372036854775808≤n∧n≤9223372036854775807:=by
 simp only [Lit.wf,Bool.and_eq_true,decide_eq_true_eq] at h
 exact h
end
section
open Go
theorem V9 {H:Type}{enc:TypeId×Value→H}{P:Program}{W:World}{base:Nat}{spare:Nat→Bool}{held:Bool}{t C:Nat}{fs:Array Field}{fuel:Nat}{cs:List Value}{x:DataW H×List MemPlace}(hs:P.underlying t=some (.struct fs))
  (hC:P.cellsOf t=C)(h:DataW.trod enc P W base spare held fuel t cs=some x):
  cs.length=C∧∃ n,∀ (i ty off k:Nat),((fs[i]?).map fun f=>(f.type,f.offset))=some (ty,off)→P.cellsOf ty=k→∃ y,DataW.trod enc P W base spare held n ty ((cs.drop off).take k)=some y:=by
 obtain ⟨xs,n,_,_,hl,hxl,hf⟩:=DataW.trod_struct hs h
 refine ⟨hl.trans hC,n,fun i ty off k hi hk=>?_⟩
 obtain ⟨f,hfi,e⟩:=Option.map_eq_some_iff.1 hi
 cases e
 have g:=hf i f hfi
 have hix:i<xs.length:=by rw [hxl];exact (Array.getElem?_eq_some_iff.1 hfi).1
 rw [hk,List.getElem?_eq_getElem hix] at g
 exact ⟨_,g⟩
end
end Go.Kn
namespace Go.Proofs.YtjblkbkmblkgoaaGreat
section
open Go Go.Kn Go.Proofs
open Go.ChangeShapes Go.WideShapes Go.ChangeAt Go.RowKit
set_option maxRecDepth 100000
theorem ZQ:Tryz.prog.underlying 3=some (.int .i64):=by kernel_rfl
theorem zqq:Tryz.prog.underlying 45=some (.struct (Tryz.prog.fieldsOf 45)):=by kernel_rfl
theorem zpq:Tryz.prog.underlying 32=some (.struct (Tryz.prog.fieldsOf 32)):=by kernel_rfl
theorem zpM:Tryz.prog.underlying 30=some (.struct (Tryz.prog.fieldsOf 30)):=by kernel_rfl
theorem zpd:Tryz.prog.underlying 39=some (.struct (Tryz.prog.fieldsOf 39)):=by kernel_rfl
theorem zqL:Tryz.prog.underlying 36=some (.struct (Tryz.prog.fieldsOf 36)):=by kernel_rfl
theorem zkD:Tryz.prog.underlying 34=some (.struct (Tryz.prog.fieldsOf 34)):=by kernel_rfl
theorem zoU:Tryz.prog.underlying 37=some (.slice 3):=by kernel_rfl
theorem zpV:Tryz.prog.underlying 41=some (.struct (Tryz.prog.fieldsOf 41)):=by kernel_rfl
theorem zp1:Tryz.prog.underlying 43=some (.struct (Tryz.prog.fieldsOf 43)):=by kernel_rfl
theorem znA:Tryz.prog.underlying 9=some .string:=by kernel_rfl
theorem zpA:Tryz.prog.underlying 47=some (.struct (Tryz.prog.fieldsOf 47)):=by kernel_rfl
theorem zp0:Tryz.prog.underlying 79=some (.slice 47):=by kernel_rfl
theorem ztr:Tryz.prog.underlying 5=some (.int .u8):=by kernel_rfl
theorem zuf:Tryz.prog.underlying 4=some .bool:=by kernel_rfl
theorem zuI {n:Int}(h:(Lit.int .u8 n).wf=true):0≤n∧n≤255:=by
 simp only [Lit.wf,Bool.and_eq_true,decide_eq_true_eq] at h
 exact h
theorem zuk {H:Type}{enc:TypeId×Value→H}{W:World}(fuel:Nat)(cs:List Value)(x:DataW H×List MemPlace)(h:DataW.trod enc Tryz.prog W 0 (fun _=>true) true fuel 47 cs=some x):∃ y:Ev,(EvM (zbN W)) y∧zav y=cs:=by
 obtain ⟨hl,n0_,f0⟩:=V9 (C:=49) zpA (by kernel_rfl) h
 match cs,hl with
 | (c0::c1::c2::c3::c4::c5::c6::c7::c8::c9::c10::c11::c12::c13::c14::c15::c16::c17::c18::c19::c20::c21::c22::c23::c24::c25::c26::c27::c28::c29::c30::c31::c32::c33::c34::c35::c36::c37::c38::c39::c40::c41::c42::c43::c44::c45::c46::c47::c48::[]),_=>
  obtain ⟨_,g0_0⟩:=f0 0 3 0 1 (by kernel_rfl) (by kernel_rfl)
  obtain ⟨n0,e0,_,w0⟩:=DataW.trod_int ZQ (show DataW.trod enc Tryz.prog W 0 (fun _=>true) true n0_ 3 [c0]=some _ from g0_0)
  obtain ⟨_,g0_1⟩:=f0 1 3 1 1 (by kernel_rfl) (by kernel_rfl)
  obtain ⟨n1,e1,_,w1⟩:=DataW.trod_int ZQ (show DataW.trod enc Tryz.prog W 0 (fun _=>true) true n0_ 3 [c1]=some _ from g0_1)
  obtain ⟨_,g0_2⟩:=f0 2 3 2 1 (by kernel_rfl) (by kernel_rfl)
  obtain ⟨n2,e2,_,w2⟩:=DataW.trod_int ZQ (show DataW.trod enc Tryz.prog W 0 (fun _=>true) true n0_ 3 [c2]=some _ from g0_2)
  obtain ⟨_,g0_3⟩:=f0 3 3 3 1 (by kernel_rfl) (by kernel_rfl)
  obtain ⟨n3,e3,_,w3⟩:=DataW.trod_int ZQ (show DataW.trod enc Tryz.prog W 0 (fun _=>true) true n0_ 3 [c3]=some _ from g0_3)
  obtain ⟨_,g0_4⟩:=f0 4 45 4 45 (by kernel_rfl) (by kernel_rfl)
  obtain ⟨_,n1_,f1⟩:=V9 (C:=45) zqq (by kernel_rfl) (show DataW.trod enc Tryz.prog W 0 (fun _=>true) true n0_ 45 (c4::c5::c6::c7::c8::c9::c10::c11::c12::c13::c14::c15::c16::c17::c18::c19::c20::c21::c22::c23::c24::c25::c26::c27::c28::c29::c30::c31::c32::c33::c34::c35::c36::c37::c38::c39::c40::c41::c42::c43::c44::c45::c46::c47::c48::[])=some _ from g0_4)
  obtain ⟨_,g1_0⟩:=f1 0 3 0 1 (by kernel_rfl) (by kernel_rfl)
  obtain ⟨n4,e4,_,w4⟩:=DataW.trod_int ZQ (show DataW.trod enc Tryz.prog W 0 (fun _=>true) true n1_ 3 [c4]=some _ from g1_0)
  obtain ⟨_,g1_1⟩:=f1 1 32 1 9 (by kernel_rfl) (by kernel_rfl)
  obtain ⟨_,n2_,f2⟩:=V9 (C:=9) zpq (by kernel_rfl) (show DataW.trod enc Tryz.prog W 0 (fun _=>true) true n1_ 32 [c5,c6,c7,c8,c9,c10,c11,c12,c13]=some _ from g1_1)
  obtain ⟨_,g2_0⟩:=f2 0 3 0 1 (by kernel_rfl) (by kernel_rfl)
  obtain ⟨n5,e5,_,w5⟩:=DataW.trod_int ZQ (show DataW.trod enc Tryz.prog W 0 (fun _=>true) true n2_ 3 [c5]=some _ from g2_0)
  obtain ⟨_,g2_1⟩:=f2 1 3 1 1 (by kernel_rfl) (by kernel_rfl)
  obtain ⟨n6,e6,_,w6⟩:=DataW.trod_int ZQ (show DataW.trod enc Tryz.prog W 0 (fun _=>true) true n2_ 3 [c6]=some _ from g2_1)
  obtain ⟨_,g2_2⟩:=f2 2 3 2 1 (by kernel_rfl) (by kernel_rfl)
  obtain ⟨n7,e7,_,w7⟩:=DataW.trod_int ZQ (show DataW.trod enc Tryz.prog W 0 (fun _=>true) true n2_ 3 [c7]=some _ from g2_2)
  obtain ⟨_,g2_3⟩:=f2 3 3 3 1 (by kernel_rfl) (by kernel_rfl)
  obtain ⟨n8,e8,_,w8⟩:=DataW.trod_int ZQ (show DataW.trod enc Tryz.prog W 0 (fun _=>true) true n2_ 3 [c8]=some _ from g2_3)
  obtain ⟨_,g2_4⟩:=f2 4 3 4 1 (by kernel_rfl) (by kernel_rfl)
  obtain ⟨n9,e9,_,w9⟩:=DataW.trod_int ZQ (show DataW.trod enc Tryz.prog W 0 (fun _=>true) true n2_ 3 [c9]=some _ from g2_4)
  obtain ⟨_,g2_5⟩:=f2 5 3 5 1 (by kernel_rfl) (by kernel_rfl)
  obtain ⟨n10,e10,_,w10⟩:=DataW.trod_int ZQ (show DataW.trod enc Tryz.prog W 0 (fun _=>true) true n2_ 3 [c10]=some _ from g2_5)
  obtain ⟨_,g2_6⟩:=f2 6 30 6 3 (by kernel_rfl) (by kernel_rfl)
  obtain ⟨_,n3_,f3⟩:=V9 (C:=3) zpM (by kernel_rfl) (show DataW.trod enc Tryz.prog W 0 (fun _=>true) true n2_ 30 [c11,c12,c13]=some _ from g2_6)
  obtain ⟨_,g3_0⟩:=f3 0 3 0 1 (by kernel_rfl) (by kernel_rfl)
  obtain ⟨n11,e11,_,w11⟩:=DataW.trod_int ZQ (show DataW.trod enc Tryz.prog W 0 (fun _=>true) true n3_ 3 [c11]=some _ from g3_0)
  obtain ⟨_,g3_1⟩:=f3 1 3 1 1 (by kernel_rfl) (by kernel_rfl)
  obtain ⟨n12,e12,_,w12⟩:=DataW.trod_int ZQ (show DataW.trod enc Tryz.prog W 0 (fun _=>true) true n3_ 3 [c12]=some _ from g3_1)
  obtain ⟨_,g3_2⟩:=f3 2 3 2 1 (by kernel_rfl) (by kernel_rfl)
  obtain ⟨n13,e13,_,w13⟩:=DataW.trod_int ZQ (show DataW.trod enc Tryz.prog W 0 (fun _=>true) true n3_ 3 [c13]=some _ from g3_2)
  obtain ⟨_,g1_2⟩:=f1 2 39 10 19 (by kernel_rfl) (by kernel_rfl)
  obtain ⟨_,n4_,f4⟩:=V9 (C:=19) zpd (by kernel_rfl) (show DataW.trod enc Tryz.prog W 0 (fun _=>true) true n1_ 39 [c14,c15,c16,c17,c18,c19,c20,c21,c22,c23,c24,c25,c26,c27,c28,c29,c30,c31,c32]=some _ from g1_2)
  obtain ⟨_,g4_0⟩:=f4 0 3 0 1 (by kernel_rfl) (by kernel_rfl)
  obtain ⟨n14,e14,_,w14⟩:=DataW.trod_int ZQ (show DataW.trod enc Tryz.prog W 0 (fun _=>true) true n4_ 3 [c14]=some _ from g4_0)
  obtain ⟨_,g4_1⟩:=f4 1 3 1 1 (by kernel_rfl) (by kernel_rfl)
  obtain ⟨n15,e15,_,w15⟩:=DataW.trod_int ZQ (show DataW.trod enc Tryz.prog W 0 (fun _=>true) true n4_ 3 [c15]=some _ from g4_1)
  obtain ⟨_,g4_2⟩:=f4 2 3 2 1 (by kernel_rfl) (by kernel_rfl)
  obtain ⟨n16,e16,_,w16⟩:=DataW.trod_int ZQ (show DataW.trod enc Tryz.prog W 0 (fun _=>true) true n4_ 3 [c16]=some _ from g4_2)
  obtain ⟨_,g4_3⟩:=f4 3 3 3 1 (by kernel_rfl) (by kernel_rfl)
  obtain ⟨n17,e17,_,w17⟩:=DataW.trod_int ZQ (show DataW.trod enc Tryz.prog W 0 (fun _=>true) true n4_ 3 [c17]=some _ from g4_3)
  obtain ⟨_,g4_4⟩:=f4 4 36 4 14 (by kernel_rfl) (by kernel_rfl)
  obtain ⟨_,n5_,f5⟩:=V9 (C:=14) zqL (by kernel_rfl) (show DataW.trod enc Tryz.prog W 0 (fun _=>true) true n4_ 36 [c18,c19,c20,c21,c22,c23,c24,c25,c26,c27,c28,c29,c30,c31]=some _ from g4_4)
  obtain ⟨_,g5_0⟩:=f5 0 3 0 1 (by kernel_rfl) (by kernel_rfl)
  obtain ⟨n18,e18,_,w18⟩:=DataW.trod_int ZQ (show DataW.trod enc Tryz.prog W 0 (fun _=>true) true n5_ 3 [c18]=some _ from g5_0)
  obtain ⟨_,g5_1⟩:=f5 1 3 1 1 (by kernel_rfl) (by kernel_rfl)
  obtain ⟨n19,e19,_,w19⟩:=DataW.trod_int ZQ (show DataW.trod enc Tryz.prog W 0 (fun _=>true) true n5_ 3 [c19]=some _ from g5_1)
  obtain ⟨_,g5_2⟩:=f5 2 3 2 1 (by kernel_rfl) (by kernel_rfl)
  obtain ⟨n20,e20,_,w20⟩:=DataW.trod_int ZQ (show DataW.trod enc Tryz.prog W 0 (fun _=>true) true n5_ 3 [c20]=some _ from g5_2)
  obtain ⟨_,g5_3⟩:=f5 3 3 3 1 (by kernel_rfl) (by kernel_rfl)
  obtain ⟨n21,e21,_,w21⟩:=DataW.trod_int ZQ (show DataW.trod enc Tryz.prog W 0 (fun _=>true) true n5_ 3 [c21]=some _ from g5_3)
  obtain ⟨_,g5_4⟩:=f5 4 3 4 1 (by kernel_rfl) (by kernel_rfl)
  obtain ⟨n22,e22,_,w22⟩:=DataW.trod_int ZQ (show DataW.trod enc Tryz.prog W 0 (fun _=>true) true n5_ 3 [c22]=some _ from g5_4)
  obtain ⟨_,g5_5⟩:=f5 5 3 5 1 (by kernel_rfl) (by kernel_rfl)
  obtain ⟨n23,e23,_,w23⟩:=DataW.trod_int ZQ (show DataW.trod enc Tryz.prog W 0 (fun _=>true) true n5_ 3 [c23]=some _ from g5_5)
  obtain ⟨_,g5_6⟩:=f5 6 3 6 1 (by kernel_rfl) (by kernel_rfl)
  obtain ⟨n24,e24,_,w24⟩:=DataW.trod_int ZQ (show DataW.trod enc Tryz.prog W 0 (fun _=>true) true n5_ 3 [c24]=some _ from g5_6)
  obtain ⟨_,g5_7⟩:=f5 7 3 7 1 (by kernel_rfl) (by kernel_rfl)
  obtain ⟨n25,e25,_,w25⟩:=DataW.trod_int ZQ (show DataW.trod enc Tryz.prog W 0 (fun _=>true) true n5_ 3 [c25]=some _ from g5_7)
  obtain ⟨_,g5_8⟩:=f5 8 3 8 1 (by kernel_rfl) (by kernel_rfl)
  obtain ⟨n26,e26,_,w26⟩:=DataW.trod_int ZQ (show DataW.trod enc Tryz.prog W 0 (fun _=>true) true n5_ 3 [c26]=some _ from g5_8)
  obtain ⟨_,g5_9⟩:=f5 9 3 9 1 (by kernel_rfl) (by kernel_rfl)
  obtain ⟨n27,e27,_,w27⟩:=DataW.trod_int ZQ (show DataW.trod enc Tryz.prog W 0 (fun _=>true) true n5_ 3 [c27]=some _ from g5_9)
  obtain ⟨_,g5_10⟩:=f5 10 34 10 2 (by kernel_rfl) (by kernel_rfl)
  obtain ⟨_,n6_,f6⟩:=V9 (C:=2) zkD (by kernel_rfl) (show DataW.trod enc Tryz.prog W 0 (fun _=>true) true n5_ 34 [c28,c29]=some _ from g5_10)
  obtain ⟨_,g6_0⟩:=f6 0 3 0 1 (by kernel_rfl) (by kernel_rfl)
  obtain ⟨n28,e28,_,w28⟩:=DataW.trod_int ZQ (show DataW.trod enc Tryz.prog W 0 (fun _=>true) true n6_ 3 [c28]=some _ from g6_0)
  obtain ⟨_,g6_1⟩:=f6 1 3 1 1 (by kernel_rfl) (by kernel_rfl)
  obtain ⟨n29,e29,_,w29⟩:=DataW.trod_int ZQ (show DataW.trod enc Tryz.prog W 0 (fun _=>true) true n6_ 3 [c29]=some _ from g6_1)
  obtain ⟨_,g5_11⟩:=f5 11 34 12 2 (by kernel_rfl) (by kernel_rfl)
  obtain ⟨_,n7_,f7⟩:=V9 (C:=2) zkD (by kernel_rfl) (show DataW.trod enc Tryz.prog W 0 (fun _=>true) true n5_ 34 [c30,c31]=some _ from g5_11)
  obtain ⟨_,g7_0⟩:=f7 0 3 0 1 (by kernel_rfl) (by kernel_rfl)
  obtain ⟨n30,e30,_,w30⟩:=DataW.trod_int ZQ (show DataW.trod enc Tryz.prog W 0 (fun _=>true) true n7_ 3 [c30]=some _ from g7_0)
  obtain ⟨_,g7_1⟩:=f7 1 3 1 1 (by kernel_rfl) (by kernel_rfl)
  obtain ⟨n31,e31,_,w31⟩:=DataW.trod_int ZQ (show DataW.trod enc Tryz.prog W 0 (fun _=>true) true n7_ 3 [c31]=some _ from g7_1)
  obtain ⟨_,g4_5⟩:=f4 5 37 18 1 (by kernel_rfl) (by kernel_rfl)
  obtain ⟨a32,m32,q32,n32,e32,s32,o32,_⟩:=zgt (t:=37) (e:=3) Yd (fun n:Int=> -9223372036854775808≤n∧n≤9223372036854775807) zoU (by kernel_rfl) (by decide) Zu (fun fuel cs x h=>zsf ZQ rfl fuel cs x h) (show DataW.trod enc Tryz.prog W 0 (fun _=>true) true n4_ 37 [c32]=some _ from g4_5)
  obtain ⟨_,g1_3⟩:=f1 3 41 29 5 (by kernel_rfl) (by kernel_rfl)
  obtain ⟨_,n8_,f8⟩:=V9 (C:=5) zpV (by kernel_rfl) (show DataW.trod enc Tryz.prog W 0 (fun _=>true) true n1_ 41 [c33,c34,c35,c36,c37]=some _ from g1_3)
  obtain ⟨_,g8_0⟩:=f8 0 3 0 1 (by kernel_rfl) (by kernel_rfl)
  obtain ⟨n33,e33,_,w33⟩:=DataW.trod_int ZQ (show DataW.trod enc Tryz.prog W 0 (fun _=>true) true n8_ 3 [c33]=some _ from g8_0)
  obtain ⟨_,g8_1⟩:=f8 1 3 1 1 (by kernel_rfl) (by kernel_rfl)
  obtain ⟨n34,e34,_,w34⟩:=DataW.trod_int ZQ (show DataW.trod enc Tryz.prog W 0 (fun _=>true) true n8_ 3 [c34]=some _ from g8_1)
  obtain ⟨_,g8_2⟩:=f8 2 3 2 1 (by kernel_rfl) (by kernel_rfl)
  obtain ⟨n35,e35,_,w35⟩:=DataW.trod_int ZQ (show DataW.trod enc Tryz.prog W 0 (fun _=>true) true n8_ 3 [c35]=some _ from g8_2)
  obtain ⟨_,g8_3⟩:=f8 3 3 3 1 (by kernel_rfl) (by kernel_rfl)
  obtain ⟨n36,e36,_,w36⟩:=DataW.trod_int ZQ (show DataW.trod enc Tryz.prog W 0 (fun _=>true) true n8_ 3 [c36]=some _ from g8_3)
  obtain ⟨_,g8_4⟩:=f8 4 3 4 1 (by kernel_rfl) (by kernel_rfl)
  obtain ⟨n37,e37,_,w37⟩:=DataW.trod_int ZQ (show DataW.trod enc Tryz.prog W 0 (fun _=>true) true n8_ 3 [c37]=some _ from g8_4)
  obtain ⟨_,g1_4⟩:=f1 4 43 34 11 (by kernel_rfl) (by kernel_rfl)
  obtain ⟨_,n9_,f9⟩:=V9 (C:=11) zp1 (by kernel_rfl) (show DataW.trod enc Tryz.prog W 0 (fun _=>true) true n1_ 43 [c38,c39,c40,c41,c42,c43,c44,c45,c46,c47,c48]=some _ from g1_4)
  obtain ⟨_,g9_0⟩:=f9 0 3 0 1 (by kernel_rfl) (by kernel_rfl)
  obtain ⟨n38,e38,_,w38⟩:=DataW.trod_int ZQ (show DataW.trod enc Tryz.prog W 0 (fun _=>true) true n9_ 3 [c38]=some _ from g9_0)
  obtain ⟨_,g9_1⟩:=f9 1 3 1 1 (by kernel_rfl) (by kernel_rfl)
  obtain ⟨n39,e39,_,w39⟩:=DataW.trod_int ZQ (show DataW.trod enc Tryz.prog W 0 (fun _=>true) true n9_ 3 [c39]=some _ from g9_1)
  obtain ⟨_,g9_2⟩:=f9 2 3 2 1 (by kernel_rfl) (by kernel_rfl)
  obtain ⟨n40,e40,_,w40⟩:=DataW.trod_int ZQ (show DataW.trod enc Tryz.prog W 0 (fun _=>true) true n9_ 3 [c40]=some _ from g9_2)
  obtain ⟨_,g9_3⟩:=f9 3 3 3 1 (by kernel_rfl) (by kernel_rfl)
  obtain ⟨n41,e41,_,w41⟩:=DataW.trod_int ZQ (show DataW.trod enc Tryz.prog W 0 (fun _=>true) true n9_ 3 [c41]=some _ from g9_3)
  obtain ⟨_,g9_4⟩:=f9 4 3 4 1 (by kernel_rfl) (by kernel_rfl)
  obtain ⟨n42,e42,_,w42⟩:=DataW.trod_int ZQ (show DataW.trod enc Tryz.prog W 0 (fun _=>true) true n9_ 3 [c42]=some _ from g9_4)
  obtain ⟨_,g9_5⟩:=f9 5 3 5 1 (by kernel_rfl) (by kernel_rfl)
  obtain ⟨n43,e43,_,w43⟩:=DataW.trod_int ZQ (show DataW.trod enc Tryz.prog W 0 (fun _=>true) true n9_ 3 [c43]=some _ from g9_5)
  obtain ⟨_,g9_6⟩:=f9 6 9 6 1 (by kernel_rfl) (by kernel_rfl)
  obtain ⟨n44,e44,_⟩:=DataW.trod_string znA (show DataW.trod enc Tryz.prog W 0 (fun _=>true) true n9_ 9 [c44]=some _ from g9_6)
  obtain ⟨_,g9_7⟩:=f9 7 9 7 1 (by kernel_rfl) (by kernel_rfl)
  obtain ⟨n45,e45,_⟩:=DataW.trod_string znA (show DataW.trod enc Tryz.prog W 0 (fun _=>true) true n9_ 9 [c45]=some _ from g9_7)
  obtain ⟨_,g9_8⟩:=f9 8 3 8 1 (by kernel_rfl) (by kernel_rfl)
  obtain ⟨n46,e46,_,w46⟩:=DataW.trod_int ZQ (show DataW.trod enc Tryz.prog W 0 (fun _=>true) true n9_ 3 [c46]=some _ from g9_8)
  obtain ⟨_,g9_9⟩:=f9 9 3 9 1 (by kernel_rfl) (by kernel_rfl)
  obtain ⟨n47,e47,_,w47⟩:=DataW.trod_int ZQ (show DataW.trod enc Tryz.prog W 0 (fun _=>true) true n9_ 3 [c47]=some _ from g9_9)
  obtain ⟨_,g9_10⟩:=f9 10 3 10 1 (by kernel_rfl) (by kernel_rfl)
  obtain ⟨n48,e48,_,w48⟩:=DataW.trod_int ZQ (show DataW.trod enc Tryz.prog W 0 (fun _=>true) true n9_ 3 [c48]=some _ from g9_10)
  cases e0;cases e1;cases e2;cases e3;cases e4;cases e5;cases e6;cases e7;cases e8;cases e9;cases e10;cases e11;cases e12;cases e13;cases e14;cases e15;cases e16;cases e17;cases e18;cases e19;cases e20;cases e21;cases e22;cases e23;cases e24;cases e25;cases e26;cases e27;cases e28;cases e29;cases e30;cases e31;cases e32;cases e33;cases e34;cases e35;cases e36;cases e37;cases e38;cases e39;cases e40;cases e41;cases e42;cases e43;cases e44;cases e45;cases e46;cases e47;cases e48
  exact ⟨⟨n0,n1,n2,n3,⟨n4,⟨n5,n6,n7,n8,n9,n10,n11,n12,n13⟩,⟨n14,n15,n16,n17,⟨n18,n19,n20,n21,n22,n23,n24,n25,n26,n27,n28,n29,n30,n31⟩,a32,m32,q32,n32⟩,⟨n33,n34,n35,n36,n37⟩,⟨n38,n39,n40,n41,n42,n43,n44,n45,n46,n47,n48⟩⟩⟩,⟨s32,⟨List.forall_mem_cons.2 ⟨Z1 w4,List.forall_mem_cons.2 ⟨Z1 w5,List.forall_mem_cons.2 ⟨Z1 w6,List.forall_mem_cons.2 ⟨Z1 w7,List.forall_mem_cons.2 ⟨Z1 w8,List.forall_mem_cons.2 ⟨Z1 w9,List.forall_mem_cons.2 ⟨Z1 w10,List.forall_mem_cons.2 ⟨Z1 w11,List.forall_mem_cons.2 ⟨Z1 w12,List.forall_mem_cons.2 ⟨Z1 w13,List.forall_mem_cons.2 ⟨Z1 w14,List.forall_mem_cons.2 ⟨Z1 w15,List.forall_mem_cons.2 ⟨Z1 w16,List.forall_mem_cons.2 ⟨Z1 w17,List.forall_mem_cons.2 ⟨Z1 w18,List.forall_mem_cons.2 ⟨Z1 w19,List.forall_mem_cons.2 ⟨Z1 w20,List.forall_mem_cons.2 ⟨Z1 w21,List.forall_mem_cons.2 ⟨Z1 w22,List.forall_mem_cons.2 ⟨Z1 w23,List.forall_mem_cons.2 ⟨Z1 w24,List.forall_mem_cons.2 ⟨Z1 w25,List.forall_mem_cons.2 ⟨Z1 w26,List.forall_mem_cons.2 ⟨Z1 w27,List.forall_mem_cons.2 ⟨Z1 w28,List.forall_mem_cons.2 ⟨Z1 w29,List.forall_mem_cons.2 ⟨Z1 w30,List.forall_mem_cons.2 ⟨Z1 w31,List.forall_mem_cons.2 ⟨Z1 w33,List.forall_mem_cons.2 ⟨Z1 w34,List.forall_mem_cons.2 ⟨Z1 w35,List.forall_mem_cons.2 ⟨Z1 w36,List.forall_mem_cons.2 ⟨Z1 w37,List.forall_mem_cons.2 ⟨Z1 w38,List.forall_mem_cons.2 ⟨Z1 w39,List.forall_mem_cons.2 ⟨Z1 w40,List.forall_mem_cons.2 ⟨Z1 w41,List.forall_mem_cons.2 ⟨Z1 w42,List.forall_mem_cons.2 ⟨Z1 w43,List.forall_mem_cons.2 ⟨Z1 w46,List.forall_mem_cons.2 ⟨Z1 w47,List.forall_mem_cons.2 ⟨Z1 w48,fun y hy=>(by cases hy)⟩⟩⟩⟩⟩⟩⟩⟩⟩⟩⟩⟩⟩⟩⟩⟩⟩⟩⟩⟩⟩⟩⟩⟩⟩⟩⟩⟩⟩⟩⟩⟩⟩⟩⟩⟩⟩⟩⟩⟩⟩⟩,o32⟩⟩,rfl⟩
theorem zlW {H:Type}{enc:TypeId×Value→H}{W:World}{base:Nat}{v:Value}{d:DataW H}{p:List MemPlace}(hv:Value.okWide Tryz.prog W .any base 79 v)(h:DataW.Trod enc Tryz.prog W 0 (fun _=>true) true 79 v d p):
  ∃ av n c xs,v= .slice av n c∧EvS (zbN W) av n c xs:=by
 obtain ⟨av,n,c,xs,e,hS,hok,_⟩:=zpY (e:=47) zav (EvM (zbN W)) zp0 (by kernel_rfl) (by decide) zmO (fun fuel cs x h=>zuk fuel cs x h) hv h
 exact ⟨av,n,c,xs,e,⟨hS,hok⟩⟩
end
section
open Go Go.Kn Go.Proofs
open Go.ChangeShapes Go.WideShapes Go.ChangeAt Go.RowKit
theorem own:ownKnob Tryz.prog.godebug=none:=by kernel_rfl
theorem zpa:laidOutB Tryz.prog=true:=by kernel_rfl
set_option maxRecDepth 100000 in
theorem Uy (os:Os) (started:os.Started) (H:Type) (enc:TypeId×Value→H):
  ReturnsInHanded {} Tryz.checked os 6 .any (Rows.partiesKnownSpec.pre6 enc Tryz.prog Tryz.f6 Rows.partiesKnownRow.domain false) (Rows.partiesKnownSpec.post enc Tryz.prog Tryz.f6 false true false false):=by
 refine returnsInHanded_of_change (C:=Tryz.checked) own started (by kernel_rfl) Tryz.func6
  (ChangeSpec.witness6 (enc:=enc) (C:=Tryz.checked) false ⟨#[], #[.int .u8 0,.slice none 0 0],[]⟩ 8 (by kernel_rfl) (by kernel_rfl) (by kernel_rfl) (by kernel_rfl)) ?_
 intro W base args ds gs before hval0 hW hcnd _
 have hval:∀ (j:Nat) t v,Tryz.f6.params[j]? =some t→args[j]? =some v→Value.okWide Tryz.prog W .any base t v:=hval0
 have hW':=hW
 obtain ⟨p,q,hA0,hV,rfl,hfz,hnd⟩:=hW
 have hA:DataW.TrodAll enc Tryz.prog W 0 (fun _=>true) true Tryz.f6.params.toList args.toList ds p:=hA0
 rw [Tryz.params6] at hA hval
 obtain ⟨v0,vs1,d0,ds1,p0,q1,ea,rfl,rfl,h0,hA⟩:=trodAll_cons hA
 obtain ⟨v1,vs2,d1,ds2,p1,q2,rfl,rfl,rfl,h1,hA⟩:=trodAll_cons hA
 obtain ⟨rfl,rfl,rfl⟩:=trodAll_nil hA
 have ea':args= #[v0,v1]:=by rw [←Array.toArray_toList (xs:=args),ea]
 subst ea'
 obtain ⟨rfl,rfl⟩:=trodVars_none hV
 obtain ⟨rm,rfl,_,_,wfrm⟩:=open_int ztr (hval 0 5 v0 rfl rfl) h0
 have hr:=zuI wfrm
 obtain ⟨av,n,c,xs,rfl,hE⟩:=zlW (hval 1 79 v1 rfl rfl) h1
 refine (Ya.law (zqs hE rm hr)).mono fun e W' ⟨he,hB⟩=>?_
 subst he
 exact ⟨_,rfl,zlX zpa (by kernel_rfl) zuf rfl rfl (by rw [Tryz.params6];simp only [List.mem_cons,List.not_mem_nil,or_false,forall_eq_or_imp,forall_eq];exact ⟨⟨by kernel_rfl,of_decide_eq_true (by kernel_rfl)⟩,⟨by kernel_rfl,of_decide_eq_true (by kernel_rfl)⟩⟩) hW' hB⟩
end
section
open Go Go.Kn Go.Proofs
open Go.ChangeShapes Go.WideShapes Go.ChangeAt Go.RowKit
theorem VF {a b:Bool}(h1:a=true)(h2:b=true):(a&&b)=true:=by rw [h1,h2];rfl
theorem jf0:(Rows.partiesKnownRow.wf (OpenSpec.ofChange Rows.partiesKnownSpec))=true:=by kernel_rfl
theorem jf1:(laidOutB Tryz.checked.prog)=true:=by kernel_rfl
theorem jf2:(mapsRowed Tryz.checked.prog)=true:=by kernel_rfl
theorem jf3:(Tryz.f6.params.all (Tryz.checked.prog.readableRec ·))=true:=by kernel_rfl
theorem jf4:(namedTie Tryz.checked.prog Rows.partiesKnownRow.named Rows.partiesKnownSpec.vars)=true:=by kernel_rfl
theorem jf5:(Rows.partiesKnownRow.stops== [])=true:=by kernel_rfl
theorem jf6:(Tryz.checked.prog.stops== [])=true:=by kernel_rfl
theorem jf7:(Rows.partiesKnownRow.knobs== [])=true:=by kernel_rfl
theorem jf8:(Tryz.checked.prog.stopKnobs== [])=true:=by kernel_rfl
theorem jf9:(Rows.partiesKnownRow.inPlace==(Tryz.checked.prog.inPlace 6))=true:=by kernel_rfl
theorem zvp:(Rows.partiesKnownRow.unfollowed==(Tryz.checked.prog.unfollowed 6))=true:=by kernel_rfl
theorem zvI:(Rows.partiesKnownRow.recurses==(Tryz.checked.prog.recurses 6))=true:=by kernel_rfl
theorem zvs:(Rows.partiesKnownRow.named==(Tryz.checked.prog.varsNamed 6))=true:=by kernel_rfl
theorem zvd:(Rows.partiesKnownRow.maps==(Tryz.f6.params.toList++Rows.partiesKnownSpec.plain.varTypes Tryz.checked.prog).any (Tryz.checked.prog.mapsRec ·))=true:=by kernel_rfl
theorem zvL:(Rows.partiesKnownRow.ifaces==(Tryz.f6.params.toList++Rows.partiesKnownSpec.plain.varTypes Tryz.checked.prog).any (Tryz.checked.prog.ifacesRec ·))=true:=by kernel_rfl
theorem zvk:(Rows.partiesKnownRow.mapsOut==Tryz.checked.prog.mapsAmong Tryz.f6.resultTypes.toList)=true:=by kernel_rfl
theorem zvK:(Rows.partiesKnownRow.loops==(Tryz.f6.params.toList++Rows.partiesKnownSpec.plain.varTypes Tryz.checked.prog).any (Tryz.checked.prog.loopsFrom ·))=true:=by kernel_rfl
theorem zvq:(Rows.partiesKnownRow.wideKeys==(Tryz.f6.params.toList++Rows.partiesKnownSpec.plain.varTypes Tryz.checked.prog++Tryz.f6.resultTypes.toList).any (Tryz.checked.prog.wideKeysFrom ·))=true:=by kernel_rfl
theorem zvc:(Rows.partiesKnownSpec.vars.all (Tryz.checked.prog.varReadable ·))=true:=by kernel_rfl
theorem zvA:(Tryz.f6.resultTypes.all (fun t=>Tryz.checked.prog.readableRec t&&decide (t<Tryz.checked.prog.types.size)))=true:=by kernel_rfl
theorem zvF:(Rows.partiesKnownRow.ifacesOut==Tryz.f6.resultTypes.toList.any (Tryz.checked.prog.ifacesRec ·))=true:=by kernel_rfl
theorem zvz:(Rows.partiesKnownRow.loopsOut==Tryz.f6.resultTypes.toList.any (Tryz.checked.prog.loopsFrom ·))=true:=by kernel_rfl
theorem zvf:(Rows.partiesKnownRow.plainKeys==Tryz.checked.prog.plainKeys)=true:=by kernel_rfl
theorem zvw:(Rows.partiesKnownRow.shortTexts.isNone)=true:=by kernel_rfl
theorem zvt:(Tryz.checked.prog.stopsHeard)=true:=by kernel_rfl
theorem zvM:(Tryz.checked.prog.mayEnter)=true:=by kernel_rfl
theorem zvu:(Rows.partiesKnownRow.lifted==Tryz.checked.prog.liftsFinal)=true:=by kernel_rfl
theorem zvJ:(Tryz.checked.prog.make==some Rows.partiesKnownRow.make)=true:=by kernel_rfl
theorem zvv:(Rows.partiesKnownRow.pinned==Rows.partiesKnownRow.pinnedBy)=true:=by kernel_rfl
theorem zvy:(Rows.partiesKnownRow.veiled==(Tryz.f6.params.toList++Rows.partiesKnownSpec.plain.varTypes Tryz.checked.prog++Tryz.f6.resultTypes.toList).any (Tryz.checked.prog.veiledRec ·))=true:=by kernel_rfl
theorem zvD:(Rows.partiesKnownRow.veiledFits Tryz.checked.prog Tryz.f6.params.toList (Tryz.f6.params.toList++Rows.partiesKnownSpec.plain.varTypes Tryz.checked.prog++Tryz.f6.resultTypes.toList))=true:=by kernel_rfl
theorem zrD:joinedFacts Tryz.checked.prog 6 Tryz.f6 Rows.partiesKnownSpec Rows.partiesKnownRow=true:=by
 unfold joinedFacts
 exact (VF (VF (VF (VF (VF (VF (VF (VF (VF (VF (VF (VF (VF (VF (VF (VF (VF (VF (VF (VF (VF (VF (VF (VF (VF (VF (VF (VF (VF (VF (VF jf0 jf1) jf2) jf3) jf4) jf5) jf6) jf7) jf8) jf9) zvp) zvI) zvs) zvd) zvL) zvk) zvK) zvq) zvc) zvA) zvF) zvz) zvf) zvw) zvt) zvM) zvu) zvJ) (by kernel_rfl)) zvv) zvy) zvD)
theorem partiesKnown_holds:Rows.PartiesKnownSaid:=
 OpenClaim.holds_of_wide 6 Tryz.f6 rfl rfl rfl rfl rfl rfl rfl ⟨rfl,rfl,rfl,rfl,rfl⟩ rfl rfl rfl rfl rfl (by kernel_rfl) Tryz.func6 zrD
  (of_decide_eq_true (by kernel_rfl)) (by unfold Func.isWrapper;first | (rw [if_pos (by decide+kernel)];kernel_rfl) | (rw [if_neg (by decide+kernel)];exact ⟨rfl,rfl⟩))
  (fun os started H enc _=>Uy os started H enc)
#print axioms partiesKnown_holds
end
end Go.Proofs.YtjblkbkmblkgoaaGreat
