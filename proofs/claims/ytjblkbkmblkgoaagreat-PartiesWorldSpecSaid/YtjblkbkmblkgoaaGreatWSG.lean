/- partiesWorldSpec_holds, part G of the proof: what its theorems say holds without further conditions. -/
import Derived.Lib.Bytealg
import Derived.Test.YtjblkbkmblkgoaaGreatWSF
namespace Go.Proofs.YtjblkbkmblkgoaaGreat
section
open Go Go.Kn Go.Proofs
theorem zkU:Fun Tryz.prog 218:=.of Tryz.func218 kA kA
theorem zkx:Fun Tryz.prog 219:=.of Tryz.func219 kA kA
theorem zil (u:Nat):u<2^64→∀ I,Y7 Tryz.prog 220 [.int .u64 (u:Nat)] I [] (YQ (Kg u)):=by
 induction u using Nat.strongRecOn with
 | _ u ih=>intro hu I;exact zhI hu fun u' h=>ih u' h kB
theorem zjl (I:Qv)(n:Int):ZF Tryz.prog 103 [.int .i64 n] I (.agg (Zd (vcI n)).toArray):=by
 intro g H w hw;refine qe Tryz.func103 Tryz.ntmps103 hw ?_;refine zR<|Qt Yv rfl rfl (fun b_2=>zN (zR ?_))
 refine zM<|zV (QF (ps:=[(0,_),(1,_)]) [_,_,_,_] Vo rfl rfl) ?_
 exact zh Zs<|zN (Qs<|ZN rfl rfl Zg zCy rfl (fun w hw=>⟨by rfl,hw.drop⟩))
theorem zcn (I:Qv)(s:ByteArray):ZF Tryz.prog 104 [.string s] I (.agg (Zd (vcT s)).toArray):=by
 intro g H w hw;refine qe Tryz.func104 Tryz.ntmps104 hw ?_;refine zR<|Qt Yv rfl rfl (fun b_2=>zN (zR ?_))
 refine zM<|zV (QF (ps:=[(0,_),(2,_)]) [_,_,_,_] Vo rfl rfl) ?_
 exact zh Zs<|zN (Qs<|ZN rfl rfl Zg zCy rfl (fun w hw=>⟨by rfl,hw.drop⟩))
def zxT (x:Va):Prop:=∀ {I:Qv} {cv:Vc} (_hx:VaR I x cv) (_hb:(Va.enc x).length≤900000),ZF Tryz.prog 218 [.agg (Zd cv).toArray] I (.bool true)
def zwG (x:Va):Prop:=∀ {I:Qv} {cv:Vc} (_hx:VaR I x cv) (_hd:Va.depth x≤1000) (_hb:(Va.enc x).length≤900000),ZF Tryz.prog 219 [.agg (Zd cv).toArray] I (.int .i64 (Va.depth x:Nat))
theorem zgi (I:Qv)(n:Int):ZF Tryz.prog 218 [.agg #[.int .i64 1,.int .i64 n,.string ⟨#[]⟩,.slice none 0 0]] I (.bool true):=by
 intro g H w hw;refine qe Tryz.func218 Tryz.ntmps218 hw ?_;have hIc:=zCA I;refine zR<|QQ rfl rfl rfl (fun b_1=>zA (Qb<|QH .here (fun I1 hI1 hb1=>?_)))
 have hIc:=hIc.trans hI1;have h1:=BxI.of hb1;refine Qc (Qm (zR<|zF Ze ?_));refine zV (Qd rfl Qn (fun hg=>by exact Qz.imm h1.out rfl))<|zN (Qr (zR (zC<|zA (zN ?_))))
 refine zI ?_ ?_<;>intro hc6
 ·
  refine zR<|zF Yq ?_
  refine zV (Qd rfl VS (fun hg=>by exact Qz.imm h1.out rfl))<|zV (Ke rfl rfl rfl) ?_
  refine zM<|Qu 3 rfl rfl rfl ?_
  refine zK (Qa rfl QN) ?_;refine zK (Qd rfl Zh (fun hg=>by exact Qz.imm h1.out rfl)) ?_;refine zK (QV rfl ZI) ?_;refine zK (QE rfl rfl rfl) ?_;refine QD rfl rfl rfl rfl rfl<|zA (zN (Qs (Qj (Qf ?_))))
  exact QA rfl rfl (fun w hw=>⟨by simp [JG],(hw.mono hIc).subL Qx⟩)
 simp at hc6
theorem zdz (I:Qv)(s:ByteArray):ZF Tryz.prog 218 [.agg #[.int .i64 2,.int .i64 0,.string s,.slice none 0 0]] I (.bool true):=by
 intro g H w hw;refine qe Tryz.func218 Tryz.ntmps218 hw ?_;have hIc:=zCA I;refine zR<|QQ rfl rfl rfl (fun b_1=>zA (Qb<|QH .here (fun I1 hI1 hb1=>?_)))
 have hIc:=hIc.trans hI1;have h1:=BxI.of hb1;refine Qc (Qm (zR<|zF Ze ?_));refine zV (Qd rfl Qn (fun hg=>by exact Qz.imm h1.out rfl))<|zN (Qr (zR (zC<|zA (zN ?_))))
 refine zI ?_ ?_<;>intro hc6
 ·
  simp at hc6
 refine zR (zC<|zA (zN ?_));refine zI ?_ ?_<;>intro hc17
 ·
  refine zR<|zF YU ?_
  refine zV (Qd rfl Qn (fun hg=>by exact Qz.imm h1.out rfl))<|zC<|zM<|Qu 3 rfl rfl rfl ?_
  refine zK (Qa rfl QN) ?_;refine zK (Qd rfl Zh (fun hg=>by exact Qz.imm h1.out rfl)) ?_;refine zK (QV rfl ZI) ?_;refine zK (QE rfl rfl rfl) ?_;refine QD rfl rfl rfl rfl rfl<|zA (zN (Qs (Qj (Qf ?_))))
  exact QA rfl rfl (fun w hw=>⟨by rfl,(hw.mono hIc).subL Qx⟩)
 simp at hc17
variable{I:Qv}{l:List Va}{hs:List Vc}{a:Option Addr}{m c:Nat}
theorem zjP (hS:Sl I 4 Zd a m c hs)(hl:l.length=hs.length)(hr:∀ (k:Nat) (x:Va) (y:Vc),l[k]? =some x→hs[k]? =some y→VaR I x y)(hm:m≤1000000)(ih:∀ (k:Nat) (x:Va),l[k]? =some x→zxT x)(hb:(Va.encL l).length≤900000):ZF Tryz.prog 218 [.agg #[.int .i64 3,.int .i64 0,.string ⟨#[]⟩,.slice a m c]] I (.bool true):=by
 intro g H w hw;refine qe Tryz.func218 Tryz.ntmps218 hw ?_;have hIc:=zCA I;have hml:=hS.len;refine zR<|QQ rfl rfl rfl (fun b_1=>zA (Qb<|QH .here (fun I1 hI1 hb1=>?_)))
 have hS:=hS.mono hI1;have hIc:=hIc.trans hI1;have h1:=BxI.of hb1;refine Qc (Qm (zR<|zF Ze ?_));refine zV (Qd rfl Qn (fun hg=>by exact Qz.imm h1.out rfl))<|zN (Qr (zR (zC<|zA (zN ?_))))
 refine zI ?_ ?_<;>intro hc6
 ·
  simp at hc6
 refine zR (zC<|zA (zN ?_));refine zI ?_ ?_<;>intro hc17
 ·
  simp at hc17
 refine zR (zC<|zA (zN ?_));refine zI ?_ ?_<;>intro hc28
 ·
  refine Qm (zR (zA (zN (Qr<|zU [(1,_)] (fun T L0 mz E I' loc'=>∃ (k:Nat),mz=m-k∧E=(3,.int .i64 k)::T∧I1=I'∧L0=loc'∧k≤m) ?_ (h:=⟨0,rfl,rfl,rfl,rfl,Nat.zero_le _⟩)))));rintro mz E I' loc' ⟨k,rfl,rfl,rfl,rfl,hk⟩;refine Qm (zR (zM<|zF QN ?_));refine zV (Qd rfl Zh (fun hg=>by exact Qz.imm h1.out rfl))<|zQ ZI<|zC (zN ?_)
  refine zI ?_ ?_<;>intro hc34
  ·
   have hlt_k:k<m:=(by have h:=hc34;simp at h;omega);obtain ⟨cv,hy⟩:∃ y,hs[k]? =some y:=⟨_,List.getElem?_eq_getElem kB⟩;obtain ⟨x,hlx⟩:∃ y,l[k]? =some y:=⟨_,List.getElem?_eq_getElem kB⟩;have hxy:=(hr k x cv hlx hy).mono hIc;have hle:=zdI (l:=l) (k+1);rw [zbj hlx,List.length_append] at hle;refine Qp (Qc (Qm (Qr (zR<|zF QN ?_))));refine zV (Qd rfl Zh (fun hg=>by exact Qz.imm h1.out rfl))<|zM ?_
   refine zV (zX ZI hS) ?_;refine zV (Qg rfl Zg (fun hg=>by exact zCB hS hy) rfl)<|qcV (vs:=[_]) rfl zkU (ih k x hlx hxy kB)<|zO (zN ?_)
   refine zI ?_ ?_<;>intro hc43
   ·
    cases hc43
   refine Qp (Qi (Qc (Qh (zM ?_))));exact zB<|zA (Qb<|zm (h:=⟨m-(k+1),kB,k+1,rfl,rfl,rfl,rfl,kB⟩))
  have hge_k:m≤k:=(by have h:=hc34;simp at h;omega);refine Q6 (Ql (Ql (Qq (Qc (zR<|zF YU ?_)))));refine zV (Qd rfl Qn (fun hg=>by exact Qz.imm h1.out rfl))<|zC<|zM<|Qu 3 rfl rfl rfl ?_
  refine zK (Qa rfl Yq) ?_;refine zK (Qd rfl VS (fun hg=>by exact Qz.imm h1.out rfl))<|zK (Ke rfl rfl rfl)<|QD rfl rfl rfl rfl rfl<|zA (zN (Qs (Qj (Qf ?_))))
  exact QA rfl rfl (fun w hw=>⟨by simp [JG],(hw.mono hIc).subL Qx⟩)
 simp at hc28
theorem zgm (I:Qv)(n:Int):ZF Tryz.prog 219 [.agg #[.int .i64 1,.int .i64 n,.string ⟨#[]⟩,.slice none 0 0]] I (.int .i64 0):=by
 intro g H w hw;refine qe Tryz.func219 Tryz.ntmps219 hw ?_;have hIc:=zCA I;refine zR<|QQ rfl rfl rfl (fun b_1=>zA (Qb<|QH .here (fun I1 hI1 hb1=>?_)))
 have hIc:=hIc.trans hI1;have h1:=BxI.of hb1;refine Qc (Qm (zR<|zF Ze ?_));refine zV (Qd rfl Qn (fun hg=>by exact Qz.imm h1.out rfl))<|zC (zN ?_)
 refine zI ?_ ?_<;>intro hc7
 ·
  exact zR (zA (zN (Qs (Qf<|QA rfl rfl (fun w hw=>⟨by rfl,(hw.mono hIc).subL Qx⟩)))))
 simp at hc7
theorem zdu (I:Qv)(s:ByteArray):ZF Tryz.prog 219 [.agg #[.int .i64 2,.int .i64 0,.string s,.slice none 0 0]] I (.int .i64 0):=by
 intro g H w hw;refine qe Tryz.func219 Tryz.ntmps219 hw ?_;have hIc:=zCA I;refine zR<|QQ rfl rfl rfl (fun b_1=>zA (Qb<|QH .here (fun I1 hI1 hb1=>?_)))
 have hIc:=hIc.trans hI1;have h1:=BxI.of hb1;refine Qc (Qm (zR<|zF Ze ?_));refine zV (Qd rfl Qn (fun hg=>by exact Qz.imm h1.out rfl))<|zC (zN ?_)
 refine zI ?_ ?_<;>intro hc7
 ·
  exact zR (zA (zN (Qs (Qf<|QA rfl rfl (fun w hw=>⟨by rfl,(hw.mono hIc).subL Qx⟩)))))
 simp at hc7
theorem zjR (hS:Sl I 4 Zd a m c hs)(hl:l.length=hs.length)(hr:∀ (k:Nat) (x:Va) (y:Vc),l[k]? =some x→hs[k]? =some y→VaR I x y)(hm:m≤1000000)(ih:∀ (k:Nat) (x:Va),l[k]? =some x→zwG x)(hd:Va.depthL l≤999)(hb:(Va.encL l).length≤900000):ZF Tryz.prog 219 [.agg #[.int .i64 3,.int .i64 0,.string ⟨#[]⟩,.slice a m c]] I (.int .i64 (Va.depthL l+1:Nat)):=by
 intro g H w hw;refine qe Tryz.func219 Tryz.ntmps219 hw ?_;have hIc:=zCA I;have hml:=hS.len;refine zR<|QQ rfl rfl rfl (fun b_1=>zA (Qb<|QH .here (fun I1 hI1 hb1=>?_)))
 have hS:=hS.mono hI1;have hIc:=hIc.trans hI1;have h1:=BxI.of hb1;refine Qc (Qm (zR<|zF Ze ?_));refine zV (Qd rfl Qn (fun hg=>by exact Qz.imm h1.out rfl))<|zC (zN ?_)
 refine zI ?_ ?_<;>intro hc7
 ·
  simp at hc7
 refine Qp (Qc (zR (zA (zN (Qm (zR<|zA (zN (Qr<|zU [(1,_)] (fun T L0 mz E I' loc'=>∃ (k:Nat) (dd:Int),mz=m-k∧E=(3,.int .i64 dd)::(4,.int .i64 k)::T∧I1=I'∧L0=loc'∧k≤m∧dd=((Va.depthL (l.take k):Nat):Int)) ?_ (h:=⟨0,0,rfl,rfl,rfl,rfl,Nat.zero_le _,rfl⟩)))))))));rintro mz E I' loc' ⟨k,dd,rfl,rfl,rfl,rfl,hk,hdd⟩;refine Qm (zR (zM<|zF QN ?_));refine zV (Qd rfl Zh (fun hg=>by exact Qz.imm h1.out rfl))<|zQ ZI<|zC (zN ?_)
 refine zI ?_ ?_<;>intro hc12
 ·
  have hlt_k:k<m:=(by have h:=hc12;simp at h;omega);obtain ⟨cv,hy⟩:∃ y,hs[k]? =some y:=⟨_,List.getElem?_eq_getElem kB⟩;obtain ⟨x,hlx⟩:∃ y,l[k]? =some y:=⟨_,List.getElem?_eq_getElem kB⟩;have hxy:=(hr k x cv hlx hy).mono hIc;have hle:=zdI (l:=l) (k+1);rw [zbj hlx,List.length_append] at hle;have hdx:=Kb hd hlx;have hdt:Va.depthL (l.take k)≤999:=Nat.le_trans (zkf l k) hd;refine Qp (Qc (Qm (Qr (Qh (zM<|zF QN ?_)))));refine zV (Qd rfl Zh (fun hg=>by exact Qz.imm h1.out rfl))<|zM ?_
  refine zV (zX ZI hS) ?_;refine zV (Qg rfl Zg (fun hg=>by exact zCB hS hy) rfl)<|qcV (vs:=[_]) rfl zkx (ih k x hlx hxy kB kB)<|zV (VE rfl rfl)<|zA (Qb (Qi (Qc (Qh<|zM ?_))))
  refine zB<|zA (Qb ?_)
  exact zm (h:=⟨m-(k+1),kB,k+1,_,rfl,rfl,rfl,rfl,kB,by rw [zci hlx,hdd];unfold zgq;split<;>omega⟩)
 have hge_k:m≤k:=(by have h:=hc12;simp at h;omega);have hke:l.take k=l:=List.take_of_length_le kB;rw [hke] at hdd;refine Q6 (Ql (Ql (Qq (Qc (zR (zM ?_))))));refine zB<|zA (zN (Qs ?_))
 exact QA rfl rfl (fun w hw=>⟨by rw [hdd];rfl,(hw.mono hIc).subL Qx⟩)
theorem zgD:Fun Tryz.prog 169:=.of Tryz.func169 kA kA
theorem zvA:Fun Tryz.prog 221:=.of Tryz.func221 kA kA
def zy5 (x:Va):Prop:=∀ {I:Qv} {cv:Vc} (_hx:VaR I x cv) (_hok:Va.ok x) (_hb:(Va.enc x).length≤900000),Y7 Tryz.prog 169 [.agg (Zd cv).toArray] I [] (YQ (Va.enc x))
theorem zf9 (I:Qv){n:Int}(hn: -9223372036854775808≤n∧n≤9223372036854775807):Y7 Tryz.prog 169 [.agg #[.int .i64 1,.int .i64 n,.string ⟨#[]⟩,.slice none 0 0]] I [] (YQ (Va.enc (.int n))):=by
 intro g H w hw;refine qe Tryz.func169 Tryz.ntmps169 hw ?_;have hIc:=zCA I;have h10:=UJ (zoq hn);refine zR<|QQ rfl rfl rfl (fun b_1=>zA (Qb<|QH .here (fun I1 hI1 hb1=>?_)))
 have hIc:=hIc.trans hI1;have h1:=BxI.of hb1;refine Qc (Qm (zR<|zF Ze ?_));refine zV (Qd rfl Qn (fun hg=>by exact Qz.imm h1.out rfl))<|zN (Qr (zR (zC<|zA (zN ?_))))
 refine zI ?_ ?_<;>intro hc7
 ·
  refine zR<|zpb [(0,_)] [VT 1] Vt (fun b_9=>zF YU ?_)
  refine zV (Qd rfl Qn (fun hg=>by exact Qz.imm h1.out rfl))<|qcV (vs:=[_]) rfl zvA (zyh _ hn)<|zpc [_] rfl zce .nil (zil (zz n) (zoq hn) _) ?_
  rintro vv2 I2 L2 hI2 ⟨rfl,a9,c9,rfl,hS9⟩;have hIc:=hIc.trans hI2;refine zpa (_) ((Kg (zz n):List Nat).flatMap VT) ([(b_9,_)]) rfl rfl Vt (znR 1) (hS9.src Y8) (zbH _) ?_;intro v9 L9 hO9 _;rw [←List.flatMap_append] at hO9;refine zA (Qb<|zx4 hO9 Y8 (fun I3 hI3 af3 cf3 ef3 hZ=>?_));subst ef3;have hIc:=hIc.trans hI3;exact Qc (Qs (Qj (Qf<|QA rfl rfl (fun w hw=>⟨_,I3,[],rfl,hIc,by exact hw,zc1 hZ (by simp [Va.enc])⟩))))
 simp at hc7
theorem zc5 (I:Qv)(s:ByteArray)(hs:s.size≤900000):Y7 Tryz.prog 169 [.agg #[.int .i64 2,.int .i64 0,.string s,.slice none 0 0]] I [] (YQ (Va.enc (.text (Ug s)))):=by
 intro g H w hw;refine qe Tryz.func169 Tryz.ntmps169 hw ?_;have hIc:=zCA I;have h10:=UJ (u:=s.size) kB;refine zR<|QQ rfl rfl rfl (fun b_1=>zA (Qb<|QH .here (fun I1 hI1 hb1=>?_)))
 have hIc:=hIc.trans hI1;have h1:=BxI.of hb1;refine Qc (Qm (zR<|zF Ze ?_));refine zV (Qd rfl Qn (fun hg=>by exact Qz.imm h1.out rfl))<|zN (Qr (zR (zC<|zA (zN ?_))))
 refine zI ?_ ?_<;>intro hc7
 ·
  simp at hc7
 refine zR (zC<|zA (zN ?_));refine zI ?_ ?_<;>intro hc15
 ·
  refine Qm ?_;have hD:=zCA I1;refine Zm<|QI I1 [] mixed<|zT 1 rfl (Qa rfl Yq) hD<|zT 2 rfl (Qd rfl VS (fun hg=>by exact Qz.imm h1.out rfl)) hD<|zT 3 rfl (U9 rfl zwU) hD<|zT 4 rfl (Y4 (ZM rfl VA) (congrArg (Value.int .u64) (ZS (n:=(s.size:Int)) ⟨kB,kB⟩))) hD<|zT 7 rfl (Qa rfl Yq) hD<|zT 8 rfl (Qd rfl VS (fun hg=>by exact Qz.imm h1.out rfl)) hD ?_
  refine QS 0 5 rfl rfl kA ?_ ?_
  ·
   refine zpb [(0,_)] [VT 2] Vt (fun b_17=>Qb<|zD hD<|qd 5 rfl<|zpc [_] rfl zce .nil (zil s.size kB _) ?_);rintro vv2 I2 L2 hI2 ⟨rfl,a9,c9,rfl,hS9⟩;have hIc:=hIc.trans hI2;have hD:=hD.trans hI2;refine Qb<|zD hD<|qd 6 rfl<|zpa (_) ((Kg s.size:List Nat).flatMap VT) ([(b_17,_)]) rfl rfl Vt (znR 2) (hS9.src Y8) (zbH _) ?_
   intro v9 L9 hO9 _;rw [←List.flatMap_append] at hO9;refine Qb<|zD hD<|qd 9 rfl<|zab rfl rfl Vt zwU hO9 (by repeat (first | exact .cons .here .nil | exact Zb | exact QR | apply Q0 | apply QX)) kB rfl rfl ?_
   intro v11 L11 hO11;have hO12:ZP 5 1 v11 (1+(Kg s.size).length+s.size) ((([2]++Kg s.size)++Ug s).flatMap VT) L11:=(by rw [List.flatMap_append];exact hO11);refine Qb<|zD hD<|zT 10 rfl (Qy rfl) hD<|Qo kA<|Qw<|zx4 hO12 Y8 (fun I3 hI3 af3 cf3 ef3 hZ=>?_)
   subst ef3;have hIc:=hIc.trans hI3;refine Qc (Qs (Qj (Qf ?_)));exact QA rfl rfl (fun w hw=>⟨_,I3,[],rfl,hIc,by exact hw,zc1 hZ (by rw [Va.enc,JJ];simp)⟩)
  refine zpc [_] rfl zce .nil (zil s.size kB _) ?_;rintro vv4 I4 L4 hI4 ⟨rfl,a9,c9,rfl,hS9⟩;have hIc:=hIc.trans hI4;have hD:=hD.trans hI4;refine Qb<|zD hD<|qd 0 rfl<|zpb [(0,_)] [VT 2] Vt (fun b_17=>Qb<|zD hD<|qd 6 rfl<|zpa (_) ((Kg s.size:List Nat).flatMap VT) ([(b_17,_)]) rfl rfl Vt (znR 2) (hS9.src Y8) (zbH _) ?_)
  intro v9 L9 hO9 _;rw [←List.flatMap_append] at hO9;refine Qb<|zD hD<|qd 9 rfl<|zab rfl rfl Vt zwU hO9 (by repeat (first | exact .cons .here .nil | exact Zb | exact QR | apply Q0 | apply QX)) kB rfl rfl ?_
  intro v11 L11 hO11;have hO12:ZP 5 1 v11 (1+(Kg s.size).length+s.size) ((([2]++Kg s.size)++Ug s).flatMap VT) L11:=(by rw [List.flatMap_append];exact hO11);refine Qb<|zD hD<|zT 10 rfl (Qy rfl) hD<|Qo kA<|Qw<|zx4 hO12 Y8 (fun I5 hI5 af5 cf5 ef5 hZ=>?_)
  subst ef5;have hIc:=hIc.trans hI5;refine Qc (Qs (Qj (Qf ?_)));exact QA rfl rfl (fun w hw=>⟨_,I5,[],rfl,hIc,by exact hw,zc1 hZ (by rw [Va.enc,JJ];simp)⟩)
 simp at hc15
theorem zj4 (hS:Sl I 4 Zd a m c hs)(hl:l.length=hs.length)(hr:∀ (k:Nat) (x:Va) (y:Vc),l[k]? =some x→hs[k]? =some y→VaR I x y)(hm:m≤1000000)(ih:∀ (k:Nat) (x:Va),l[k]? =some x→zy5 x)(hok:Va.okL l)(hb:(Va.enc (.list l)).length≤900000):Y7 Tryz.prog 169 [.agg #[.int .i64 3,.int .i64 0,.string ⟨#[]⟩,.slice a m c]] I [] (YQ (Va.enc (.list l))):=by
 intro g H w hw;refine qe Tryz.func169 Tryz.ntmps169 hw ?_;have hIc:=zCA I;have hml:=hS.len;have hel:(Va.enc (.list l)).length=(Kg l.length).length+(Va.encL l).length+1:=(by simp [Va.enc]);have h10:=UJ (u:=l.length) kB;refine zR<|QQ rfl rfl rfl (fun b_1=>zA (Qb<|QH .here (fun I1 hI1 hb1=>?_)))
 have hS:=hS.mono hI1;have hIc:=hIc.trans hI1;have h1:=BxI.of hb1;refine Qc (Qm (zR<|zF Ze ?_));refine zV (Qd rfl Qn (fun hg=>by exact Qz.imm h1.out rfl))<|zN (Qr (zR (zC<|zA (zN ?_))))
 refine zI ?_ ?_<;>intro hc7
 ·
  simp at hc7
 refine zR (zC<|zA (zN ?_));refine zI ?_ ?_<;>intro hc15
 ·
  simp at hc15
 refine Qp (Qi (Qc (zR<|zpb [(0,_)] [VT 3] Vt (fun b_27=>zF QN ?_))));refine zV (Qd rfl Zh (fun hg=>by exact Qz.imm h1.out rfl))<|zQ ZI<|zV (Y4 (ZM rfl VA) (congrArg (Value.int .u64) ((ZS (n:=(m:Int)) ⟨kB,kB⟩).trans (show (m:Int)=(l.length:Int) by omega))))<|zpc [_] rfl zce .nil (zil l.length kB _) ?_
 rintro vv2 I2 L2 hI2 ⟨rfl,a9,c9,rfl,hS9⟩;have hS:=hS.mono hI2;have h1:=h1.mono hI2;have hIc:=hIc.trans hI2;refine zpa (_) ((Kg l.length:List Nat).flatMap VT) ([(b_27,_)]) rfl rfl Vt (znR 3) (hS9.src Y8) (zbH _) ?_;intro v9 L9 hO9 _;rw [←List.flatMap_append] at hO9;refine zA (zN (Qm (zR<|zA (zN (Qr<|zU [(1,_)] (fun T L0 mz E I' loc'=>∃ (k:Nat) (v:Value) (Lw:Go.Kn.Loc),mz=m-k∧E=(3,v)::(4,.int .i64 k)::T∧HLe I2 I'∧Lw=loc'∧k≤m∧X2 5 v (3::(Kg l.length++Va.encL (l.take k))) Lw) ?_ (h:=⟨0,_,_,rfl,rfl,zCA _,rfl,Nat.zero_le _,by rw [List.append_nil,List.take_zero,show (3::(Kg l.length++Va.encL []):List Nat)=[3]++Kg l.length by simp [Va.encL]];exact X2.app (xs:=[3]) (by rw [List.length_singleton];exact hO9)⟩))))));rintro mz E J3 loc' ⟨k,v,Lw,rfl,rfl,hJ,rfl,hk,hO⟩;have hS:=hS.mono hJ;have h1:=h1.mono hJ;have hIc:=hIc.trans hJ;have hB1:=hJ;refine Qm (zR (zM<|zF QN ?_));refine zV (Qd rfl Zh (fun hg=>by exact Qz.imm h1.out rfl))<|zQ ZI<|zC (zN ?_)
 refine zI ?_ ?_<;>intro hc38
 ·
  have hlt_k:k<m:=(by have h:=hc38;simp at h;omega);obtain ⟨cv,hy⟩:∃ y,hs[k]? =some y:=⟨_,List.getElem?_eq_getElem kB⟩;obtain ⟨x,hlx⟩:∃ y,l[k]? =some y:=⟨_,List.getElem?_eq_getElem kB⟩;have hxy:=(hr k x cv hlx hy).mono hIc;have hokx:=zaw hok hlx;have hle:=zdI (l:=l) (k+1);rw [zbj hlx,List.length_append] at hle;have hxl:((3::(Kg l.length++Va.encL (l.take k))):List Nat).length=(Kg l.length).length+(Va.encL (l.take k)).length+1:=(by simp);refine Qp (Qc (Qm (Qr (Qh (zM<|zF QN ?_)))));refine zV (Qd rfl Zh (fun hg=>by exact Qz.imm h1.out rfl))<|zM ?_
  refine zV (zX ZI hS) ?_;refine zV (Qg rfl Zg (fun hg=>by exact zCB hS hy) rfl)<|zpc [_] rfl zgD .nil (ih k x hlx hxy hokx kB) ?_
  rintro vv4 I4 L4 hI4 ⟨rfl,a8,c8,rfl,hS8⟩;have hB1:=hB1.trans hI4;refine zpa (_) ((Va.enc x).flatMap VT) (Lw) rfl rfl Vt hO (hS8.src Y8) (zbH _) ?_;intro v9 L9 hO9 _;rw [←List.flatMap_append] at hO9;refine zA (Qb (Qi (Qc (Qh<|zM ?_))));refine zB<|zA (Qb ?_)
  exact zm (h:=⟨m-(k+1),kB,k+1,_,_,rfl,rfl,hB1,rfl,kB,by rw [zbj hlx,←List.append_assoc,←List.cons_append];exact X2.app hO9⟩)
 have hge_k:m≤k:=(by have h:=hc38;simp at h;omega);have hke:l.take k=l:=List.take_of_length_le kB;rw [hke] at hO;refine Q6 (Ql (Ql (Qq (Qc (Qm<|zx4 hO Y8 (fun I5 hI5 af5 cf5 ef5 hZ=>?_))))));subst ef5;have hIc:=hIc.trans hI5;refine Qh (zM<|zA (zN (Qs ?_)));exact QA rfl rfl (fun w hw=>⟨_,I5,[],rfl,hIc,by exact hw,zc1 hZ (by simp [Va.enc])⟩)
theorem zfb (d:Nat):∀ x,Va.depth x≤d→(∀ {I:Qv} {cv:Vc},VaR I x cv→(Va.enc x).length≤900000→True)→zy5 x:=by
 induction d with
 | zero=>
  intro x hd _ I cv hx hok hb
  cases x with
  | int n=>cases hx;exact zf9 I hok
  | text s=>cases hx;have h:=zc5 I (UR s) (by rw [Wn];simp only [Va.enc,List.length_cons,List.length_append] at hb;omega);rw [Je hok.1] at h;exact h
  | list l=>simp [Va.depth] at hd
 | succ d ih=>
  intro x hd _ I cv hx hok hb
  cases x with
  | int n=>cases hx;exact zf9 I hok
  | text s=>cases hx;have h:=zc5 I (UR s) (by rw [Wn];simp only [Va.enc,List.length_cons,List.length_append] at hb;omega);rw [Je hok.1] at h;exact h
  | list l=>
   cases hx with
   | list hS hl hr=>
    have hle:=Va.encL_len l;have hml:=hS.len;exact zj4 hS hl hr (by simp only [Va.enc,List.length_cons,List.length_append] at hb;dsimp only;omega) (fun k y hy=>ih y (Kb (l:=l) (by simp only [Va.depth] at hd;omega) hy) (fun _ _=>trivial)) hok.2 hb
theorem zoE:Fun Tryz.prog 168:=.of Tryz.func168 kA kA
theorem znk (d:Nat):∀ x,Va.depth x≤d→zxT x:=by
 induction d with
 | zero=>
  intro x hd I cv hx hb
  cases x with
  | int n=>cases hx;exact zgi _ n
  | text s=>cases hx;exact zdz _ _
  | list l=>simp [Va.depth] at hd
 | succ d ih=>
  intro x hd I cv hx hb
  cases x with
  | int n=>cases hx;exact zgi _ n
  | text s=>cases hx;exact zdz _ _
  | list l=>
   cases hx with
   | list hS hl hr=>
    have hle:=Va.encL_len l;have hml:=hS.len;have hb2:(Va.encL l).length≤900000:=(by simp only [Va.enc,List.length_cons,List.length_append] at hb;omega);exact zjP hS hl hr (by dsimp only;omega) (fun k y hy=>ih y (Kb (l:=l) (by simp only [Va.depth] at hd;omega) hy)) hb2
theorem zmY (d:Nat):∀ x,Va.depth x≤d→zwG x:=by
 induction d with
 | zero=>
  intro x hd I cv hx h1 hb
  cases x with
  | int n=>cases hx;exact zgm _ n
  | text s=>cases hx;exact zdu _ _
  | list l=>simp [Va.depth] at hd
 | succ d ih=>
  intro x hd I cv hx h1 hb
  cases x with
  | int n=>cases hx;exact zgm _ n
  | text s=>cases hx;exact zdu _ _
  | list l=>
   cases hx with
   | list hS hl hr=>
    have hle:=Va.encL_len l;have hml:=hS.len;have hb2:(Va.encL l).length≤900000:=(by simp only [Va.enc,List.length_cons,List.length_append] at hb;omega);exact zjR hS hl hr (by dsimp only;omega) (fun k y hy=>ih y (Kb (l:=l) (by simp only [Va.depth] at hd;omega) hy)) (by simp only [Va.depth] at h1;omega) hb2
variable{cv:Vc}
theorem zhW {x:Va}(hx:VaR I x cv)(hd:Va.depth x≤16)(_hok:Va.ok x)(hb:(Va.enc x).length≤900000):ZF Tryz.prog 168 [.agg (Zd cv).toArray] I (.int .i64 0):=by
 intro g H w hw;refine qe Tryz.func168 Tryz.ntmps168 hw ?_;have hIc:=zCA I;refine zR<|QQ rfl rfl rfl (fun b_1=>zA (Qb<|QH .here (fun I1 hI1 hb1=>?_)))
 have hx:=hx.mono hI1;have hIc:=hIc.trans hI1;have h1:=BxI.of hb1;refine Qc (Qm (zR<|zV (Qg rfl Zg (fun hg=>by exact BxI.cells (vs:=Zd cv) h1) rfl)<|qcV (vs:=[_]) rfl zkU (znk _ x (Nat.le_refl _) hx hb)<|zO (zN ?_)));refine zI ?_ ?_<;>intro hc5
 ·
  simp at hc5
 refine Qp (Qc (Qm (zR<|zV (Qg rfl Zg (fun hg=>by exact BxI.cells (vs:=Zd cv) h1) rfl)<|qcV (vs:=[_]) rfl zkx (zmY _ x (Nat.le_refl _) hx kB hb)<|zC (zN ?_))));refine zI ?_ ?_<;>intro hc8
 ·
  simp at hc8;omega
 exact Qp (Qc (zR (zA (zN (Qs<|QA rfl rfl (fun w hw=>⟨by rfl,(hw.mono hIc).subL Qx⟩))))))
theorem XA {x:Va}(hx:VaR I x cv)(hd:Va.depth x≤16)(hok:Va.ok x)(hb:(Va.enc x).length≤900000):Y7 Tryz.prog 105 [.agg (Zd cv).toArray] I [] (fun v I' L'=>L'=[]∧∃ a c,v= .tuple #[.slice a (Va.enc x).length c,.int .i64 0]∧Sl I' 1 VT a (Va.enc x).length c (Va.enc x)):=by
 intro g H w hw;refine qe Tryz.func105 Tryz.ntmps105 hw ?_;have hIc:=zCA I;refine zR<|QQ rfl rfl rfl (fun b_1=>zA<|zA (Qb<|QH .here (fun I1 hI1 hb1=>?_)))
 have hx:=hx.mono hI1;have hIc:=hIc.trans hI1;have h1:=BxI.of hb1;refine Qc (zR<|zV (Qg rfl Zg (fun hg=>by exact BxI.cells (vs:=Zd cv) h1) rfl)<|qcV (vs:=[_]) rfl zoE (zhW hx hd hok hb)<|zA (zN (Qm (zR<|zM<|zC (zN ?_)))));refine zI ?_ ?_<;>intro hc8
 ·
  simp at hc8
 refine Qp (Qc (zR<|zV (Qg rfl Zg (fun hg=>by exact BxI.cells (vs:=Zd cv) h1) rfl)<|zpc [_] rfl zgD .nil (zfb _ x (Nat.le_refl _) (fun _ _=>trivial) hx hok hb) ?_));rintro vv2 I2 L2 hI2 ⟨rfl,a9,c9,rfl,hS9⟩;have hIc:=hIc.trans hI2;exact zA<|zA (zN (Qs<|Y2 rfl rfl rfl (fun w hw=>⟨_,I2,[],rfl,hIc,hw.subL Qx,rfl,_,_,rfl,hS9⟩)))
set_option maxRecDepth 100000 in
theorem zyU (I:Qv) (x:Nt):Y7 Tryz.prog 102 [Kj x] I [] (fun v I' L'=>L'=[]∧∃ a c,v= .slice a 42 c∧Sl I' 1 ZX a 42 c (Y3 x)):=by
 intro g H w hw;refine qe Tryz.func102 Tryz.ntmps102 hw ?_;have hIc:=zCA I;refine zR<|QQ rfl rfl rfl (fun b_1=>zA (Qb<|QH .here (fun I1 hI1 hb1=>?_)))
 have hIc:=hIc.trans hI1;have h1:=BxI.of hb1;refine Qc (zR<|zF YX ?_);refine zV (Qg rfl Jr (fun hg=>by exact zdW (BxI.cells (vs:=Q7 x) h1)) rfl)<|Qt zeY rfl rfl (fun b_3=>zh Xo ?_)
 refine Qb<|QH .here (fun I2 hI2 hb2=>?_)
 have h1:=h1.mono hI2;have hIc:=hIc.trans hI2;have h3:=BxI.of hb2;refine Qc (zR<|zF Yi ?_);refine zV (Qg rfl Y6 (fun hg=>by exact za1 (BxI.cells (vs:=Q7 x) h1)) rfl)<|Qt zco rfl rfl (fun b_4=>zh UP ?_)
 refine Qb<|QH .here (fun I3 hI3 hb3=>?_)
 have h1:=h1.mono hI3;have h3:=h3.mono hI3;have hIc:=hIc.trans hI3;have h4:=BxI.of hb3;refine Qc (zR<|zF YL ?_);refine zV (Qg rfl ZJ (fun hg=>by exact zkb (BxI.cells (vs:=K2 x.pt) h4)) rfl)<|Qt zhA rfl rfl (fun b_5=>zh Jk ?_)
 refine Qb<|QH .here (fun I4 hI4 hb4=>?_)
 have h1:=h1.mono hI4;have h3:=h3.mono hI4;have h4:=h4.mono hI4;have hIc:=hIc.trans hI4;have h5:=BxI.of hb4;refine Qc (zR<|zF Vy ?_);refine zV (Qg rfl Jp (fun hg=>by exact zdJ (BxI.cells (vs:=Q7 x) h1)) rfl)<|Qt zhz rfl rfl (fun b_6=>zh zaz ?_)
 refine Qb<|QH .here (fun I5 hI5 hb5=>?_)
 have h1:=h1.mono hI5;have h3:=h3.mono hI5;have h4:=h4.mono hI5;have h5:=h5.mono hI5;have hIc:=hIc.trans hI5;have h6:=BxI.of hb5;refine Qc (zR<|zF Yj ?_);refine zV (Qg rfl YE (fun hg=>by exact zez (BxI.cells (vs:=Q7 x) h1)) rfl)<|Qt za2 rfl rfl (fun b_7=>zh Uo ?_)
 refine Qb<|QH .here (fun I6 hI6 hb6=>?_)
 have h1:=h1.mono hI6;have h3:=h3.mono hI6;have h4:=h4.mono hI6;have h5:=h5.mono hI6;have h6:=h6.mono hI6;have hIc:=hIc.trans hI6;have h7:=BxI.of hb6;refine Qc (zR<|zF YV ?_);refine zV (Qd rfl Qn (fun hg=>by exact Qz.imm h1.out rfl))<|zF Yy ?_
 refine zV (Qd rfl Qn (fun hg=>by exact Qz.imm h3.out rfl))<|zF Js ?_
 refine zV (Qd rfl Qn (fun hg=>by exact Qz.imm h3.out rfl))<|zF YY ?_
 refine zV (Qd rfl Qn (fun hg=>by exact Qz.imm h3.out rfl))<|zF Wy ?_
 refine zV (Qd rfl Qn (fun hg=>by exact Qz.imm h3.out rfl))<|zF KW ?_
 refine zV (Qd rfl Qn (fun hg=>by exact Qz.imm h3.out rfl))<|zF KB ?_
 refine zV (Qd rfl Qn (fun hg=>by exact Qz.imm h3.out rfl))<|zF JT<|zF Xm ?_
 refine zV (Qd rfl Qn (fun hg=>by exact Qz.imm h3.out rfl))<|zF JT<|zF JM ?_
 refine zV (Qd rfl Qn (fun hg=>by exact Qz.imm h3.out rfl))<|zF JT<|zF Kz ?_
 refine zV (Qd rfl Qn (fun hg=>by exact Qz.imm h3.out rfl))<|zpb [(0,_),(1,_),(2,_),(3,_),(4,_),(5,_),(6,_),(7,_),(8,_),(9,_)] [ZX x.kind,ZX x.lm.no,ZX x.lm.person,ZX x.lm.ends,ZX x.lm.lo,ZX x.lm.hi,ZX x.lm.known,ZX x.lm.ck,ZX x.lm.cl,ZX x.lm.cn] Ve (fun b_42=>zA<|zN (zR ?_))
 refine zM<|zF ZR ?_
 refine zV (Qd rfl Qn (fun hg=>by exact Qz.imm h4.out rfl))<|zF V2 ?_
 refine zV (Qd rfl Qn (fun hg=>by exact Qz.imm h4.out rfl))<|zF Ym ?_
 refine zV (Qd rfl Qn (fun hg=>by exact Qz.imm h4.out rfl))<|zF Yz ?_
 refine zV (Qd rfl Qn (fun hg=>by exact Qz.imm h4.out rfl))<|zF JS ?_
 refine zV (Qd rfl Qn (fun hg=>by exact Qz.imm h5.out rfl))<|zF Uv ?_
 refine zV (Qd rfl Qn (fun hg=>by exact Qz.imm h5.out rfl))<|zF UI ?_
 refine zV (Qd rfl Qn (fun hg=>by exact Qz.imm h5.out rfl))<|zF UM ?_
 refine zV (Qd rfl Qn (fun hg=>by exact Qz.imm h5.out rfl))<|zF zbs ?_
 refine zV (Qd rfl Qn (fun hg=>by exact Qz.imm h5.out rfl))<|zF Uw ?_
 refine zV (Qd rfl Qn (fun hg=>by exact Qz.imm h5.out rfl))<|zF UD ?_
 refine zV (Qd rfl Qn (fun hg=>by exact Qz.imm h5.out rfl))<|zF UL ?_
 refine zV (Qd rfl Qn (fun hg=>by exact Qz.imm h5.out rfl))<|zF UC ?_
 refine zV (Qd rfl Qn (fun hg=>by exact Qz.imm h5.out rfl))<|zF UE ?_
 refine zV (Qd rfl Qn (fun hg=>by exact Qz.imm h5.out rfl))<|zF Ji<|zF Y0 ?_
 refine zV (Qd rfl Qn (fun hg=>by exact Qz.imm h5.out rfl))<|zF Ji<|zF Vn ?_
 refine zV (Qd rfl Qn (fun hg=>by exact Qz.imm h5.out rfl))<|zF Jt<|zF Y0 ?_
 refine zV (Qd rfl Qn (fun hg=>by exact Qz.imm h5.out rfl))<|zF Jt<|zF Vn ?_
 refine zV (Qd rfl Qn (fun hg=>by exact Qz.imm h5.out rfl))<|zpb [(0,_),(1,_),(2,_),(3,_),(4,_),(5,_),(6,_),(7,_),(8,_),(9,_),(10,_),(11,_),(12,_),(13,_),(14,_),(15,_),(16,_),(17,_)] [ZX x.pt.id,ZX x.pt.kind,ZX x.pt.sign,ZX x.pt.field,ZX x.pt.nw.id,ZX x.pt.nw.role,ZX x.pt.nw.bar,ZX x.pt.nw.mark,ZX x.pt.nw.kind,ZX x.pt.nw.side,ZX x.pt.nw.dir,ZX x.pt.nw.level,ZX x.pt.nw.size,ZX x.pt.nw.wth,ZX x.pt.nw.fn,ZX x.pt.nw.fd,ZX x.pt.nw.tn,ZX x.pt.nw.td] Ve (fun b_84=>?_)
 refine zpa (_) (([x.pt.id,x.pt.kind,x.pt.sign,x.pt.field,x.pt.nw.id,x.pt.nw.role,x.pt.nw.bar,x.pt.nw.mark,x.pt.nw.kind,x.pt.nw.side,x.pt.nw.dir,x.pt.nw.level,x.pt.nw.size,x.pt.nw.wth,x.pt.nw.fn,x.pt.nw.fd,x.pt.nw.tn,x.pt.nw.td]:List Int).flatMap ZX) ([(b_42,_)]) rfl rfl Ve (zCl [x.kind,x.lm.no,x.lm.person,x.lm.ends,x.lm.lo,x.lm.hi,x.lm.known,x.lm.ck,x.lm.cl,x.lm.cn] rfl rfl kD) ⟨rfl,fun _=>rfl,by repeat (first | exact zCy | apply zCx | apply zCz)⟩ (zaY [x.pt.id,x.pt.kind,x.pt.sign,x.pt.field,x.pt.nw.id,x.pt.nw.role,x.pt.nw.bar,x.pt.nw.mark,x.pt.nw.kind,x.pt.nw.side,x.pt.nw.dir,x.pt.nw.level,x.pt.nw.size,x.pt.nw.wth,x.pt.nw.fn,x.pt.nw.fd,x.pt.nw.tn,x.pt.nw.td]) ?_;intro v2 L2 hO2 _;rw [←List.flatMap_append] at hO2;refine zA<|zN (zR ?_)
 refine zM<|zF JQ ?_
 refine zV (Qd rfl Qn (fun hg=>by exact Qz.imm h6.out rfl))<|zF za9 ?_
 refine zV (Qd rfl Qn (fun hg=>by exact Qz.imm h6.out rfl))<|zF zbe ?_
 refine zV (Qd rfl Qn (fun hg=>by exact Qz.imm h6.out rfl))<|zF zba ?_
 refine zV (Qd rfl Qn (fun hg=>by exact Qz.imm h6.out rfl))<|zF zbh ?_
 refine zV (Qd rfl Qn (fun hg=>by exact Qz.imm h6.out rfl))<|zpb [(0,_),(1,_),(2,_),(3,_),(4,_)] [ZX x.ls.no,ZX x.ls.person,ZX x.ls.version,ZX x.ls.at_,ZX x.ls.known] Ve (fun b_97=>?_)
 refine zpa (_) (([x.ls.no,x.ls.person,x.ls.version,x.ls.at_,x.ls.known]:List Int).flatMap ZX) (L2) rfl rfl Ve hO2 ⟨rfl,fun _=>rfl,by repeat (first | exact zCy | apply zCx | apply zCz)⟩ (zaY [x.ls.no,x.ls.person,x.ls.version,x.ls.at_,x.ls.known]) ?_;intro v3 L3 hO3 _;rw [←List.flatMap_append] at hO3;refine zA<|zN (zR ?_)
 refine zM<|zF YT ?_
 refine zV (Qd rfl Qn (fun hg=>by exact Qz.imm h7.out rfl))<|zF V5 ?_
 refine zV (Qd rfl Qn (fun hg=>by exact Qz.imm h7.out rfl))<|zF JR ?_
 refine zV (Qd rfl Qn (fun hg=>by exact Qz.imm h7.out rfl))<|zF KA ?_
 refine zV (Qd rfl Qn (fun hg=>by exact Qz.imm h7.out rfl))<|zF Kw ?_
 refine zV (Qd rfl Qn (fun hg=>by exact Qz.imm h7.out rfl))<|zF Vm ?_
 refine zV (Qd rfl Qn (fun hg=>by exact Qz.imm h7.out rfl))<|zF KC ?_
 refine zV (Qd rfl Qn (fun hg=>by exact Qz.imm h7.out rfl))<|zF JN ?_
 refine zV (Qd rfl Qn (fun hg=>by exact Qz.imm h7.out rfl))<|zF YG ?_
 refine zV (Qd rfl Qn (fun hg=>by exact Qz.imm h7.out rfl))<|zpb [(0,_),(1,_),(2,_),(3,_),(4,_),(5,_),(6,_),(7,_),(8,_)] [ZX x.rt.no,ZX x.rt.kind,ZX x.rt.edition,ZX x.rt.holder,ZX x.rt.sign,ZX x.rt.ends,ZX x.rt.lo,ZX x.rt.hi,ZX x.rt.known] Ve (fun b_118=>?_)
 refine zpa (_) (([x.rt.no,x.rt.kind,x.rt.edition,x.rt.holder,x.rt.sign,x.rt.ends,x.rt.lo,x.rt.hi,x.rt.known]:List Int).flatMap ZX) (L3) rfl rfl Ve hO3 ⟨rfl,fun _=>rfl,by repeat (first | exact zCy | apply zCx | apply zCz)⟩ (zaY [x.rt.no,x.rt.kind,x.rt.edition,x.rt.holder,x.rt.sign,x.rt.ends,x.rt.lo,x.rt.hi,x.rt.known]) ?_;intro v4 L4 hO4 _;rw [←List.flatMap_append] at hO4;refine zA (Qb<|zx4 hO4 YM (fun I7 hI7 af7 cf7 ef7 hZ=>?_));subst ef7;have hIc:=hIc.trans hI7;exact Qc (Qs<|QA rfl rfl (fun w hw=>⟨_,I7,[],rfl,hIc,hw.subL Qx,rfl,_,_,rfl,hZ⟩))
theorem zwz:Fun Tryz.prog 102:=.of Tryz.func102 kA kA
theorem zek:Fun Tryz.prog 103:=.of Tryz.func103 kA kA
theorem zcd:Fun Tryz.prog 104:=.of Tryz.func104 kA kA
theorem zec:Fun Tryz.prog 105:=.of Tryz.func105 kA kA
set_option maxRecDepth 100000 in
theorem Xz  (x:Nt) (hN:Nd I x.pt) (hnn:x.pt.n≤100000) (hok:Va.ok (KU x)) (hb:(Jw x).length≤900000):Y7 Tryz.prog 43 [Kj x] I [] (YQ (Jw x)):=by
 intro g H w hw;refine qe Tryz.func43 Tryz.ntmps43 hw ?_;have hIc:=zCA I;have hnl:x.pt.needs.length=x.pt.n:=hN.len;refine zR ?_;refine QQ rfl rfl rfl (fun b_1=>?_);refine zA (Qb ?_);refine QH .here (fun I1 hI1 hb1=>?_);have hN:=hN.mono hI1;have hIc:=hIc.trans hI1;have h1:=BxI.of hb1;refine Qc (zR ?_);refine zV (QF (ps:=[(0,_)]) [_,_,_,_] Vo rfl rfl) ?_;refine Qt Yv rfl rfl (fun b_3=>?_);refine zh Zs ?_;refine zN (zR ?_);refine zV (Qg rfl Q8 (fun hg=>by exact BxI.cells (vs:=Q7 x) h1) rfl) ?_;refine zpc [_] rfl zwz .nil (zyU _ x) ?_;rintro vv2 I2 L2 hI2 ⟨rfl,an,cn,rfl,hNu⟩;have hN:=hN.mono hI2;have h1:=h1.mono hI2;have hIc:=hIc.trans hI2;refine zA (zN (Qm (zR ?_)));refine zA (zN (Qr ?_));refine zU [(1,_),(3,_),(4,_)] (fun T L0 mz E I' loc'=>∃ (k:Nat) (v:Value) (L:Go.Kn.Loc),mz=42-k∧E=(5,.int .i64 k)::T∧I2=I'∧L++[(b_3,.cells #[.int .i64 3,.int .i64 0,.string ⟨#[]⟩,v] 158 (0,0))]=loc'∧k≤42∧ZP 158 4 v k ((((Y3 x).take k).map vcI).flatMap Zd) L) ?_ (h:=⟨0,_,[],rfl,rfl,rfl,rfl,Nat.zero_le _,ZP.nil⟩);rintro mz E I' loc' ⟨k,v,L,rfl,rfl,rfl,rfl,hk,hO⟩;refine Qm (zR (zM ?_));refine zM ?_;refine zQ Q4 ?_;refine zC (zN ?_);refine zI ?_ ?_<;>intro hc16
 ·
  have hlt_k:k<42:=(by have h:=hc16;simp at h;omega);obtain ⟨y,hy⟩:∃ y,(Y3 x)[k]? =some y:=⟨_,List.getElem?_eq_getElem (by rw [Y1];omega)⟩;refine Qp (Qc (Qm (Qr ?_)));have hD:=zCA I2;refine Zm ?_;refine QI I2 [] mixed ?_;refine zT 0 rfl (Qa rfl QN) hD ?_;refine zT 2 rfl (Qe rfl) hD ?_;refine zT 3 rfl (Qe rfl) hD ?_;refine zT 4 rfl (zX Q4 hNu) hD ?_;refine zT 5 rfl (Qd rfl Qn (fun hg=>by exact zCt hNu hy rfl)) hD ?_;refine QS 1 6 rfl rfl kA ?_ ?_
  ·
   refine zV (Qd rfl Zh (fun hg=>by exact zCw (Qz.h0 rfl))) ?_;refine Qb ?_;refine zD hD ?_;refine qd 6 rfl ?_;refine qcV (vs:=[_]) rfl zek (zjl _ _) ?_;refine Qb ?_;refine zD hD ?_;refine qd 7 rfl ?_;refine zpb [(0,_)] [Zd (vcI y)] ZA (fun b_26=>?_);refine Qb ?_;refine zD hD ?_;refine qd 8 rfl ?_;refine zpa (_) (([vcI y]:List Vc).flatMap Zd) (L) rfl rfl ZA hO ⟨rfl,fun _=>rfl,by repeat (first | exact zCy | apply zCx | apply zCz)⟩ (VL [vcI y]) ?_;intro v2 L2 hO2 _;rw [←List.flatMap_append] at hO2;obtain ⟨a2,c2,rfl⟩:=hO2.shape;refine Qb ?_;refine zD hD ?_;refine zT 9 rfl (Qa rfl QN) hD ?_;refine qd 10 rfl ?_;refine zS YR ?_;refine Qb ?_;refine zD hD ?_;refine Qo kA ?_;refine Qw ?_;refine Qi (Qc (Qh (zM ?_)));refine zB ?_;refine zA (Qb ?_);exact zm (h:=⟨42-(k+1),kB,k+1,_,_,rfl,rfl,rfl,rfl,kB,by rw [Za hy,List.map_append];exact hO2⟩)
  refine qcV (vs:=[_]) rfl zek (zjl _ _) ?_;refine Qb ?_;refine zD hD ?_;refine QS 1 7 rfl rfl kA ?_ ?_
  ·
   refine zV (Qd rfl Zh (fun hg=>by exact zCw (Qz.h0 rfl))) ?_;refine Qb ?_;refine zD hD ?_;refine qd 7 rfl ?_;refine zpb [(0,_)] [Zd (vcI y)] ZA (fun b_26=>?_);refine Qb ?_;refine zD hD ?_;refine qd 8 rfl ?_;refine zpa (_) (([vcI y]:List Vc).flatMap Zd) (L) rfl rfl ZA hO ⟨rfl,fun _=>rfl,by repeat (first | exact zCy | apply zCx | apply zCz)⟩ (VL [vcI y]) ?_;intro v2 L2 hO2 _;rw [←List.flatMap_append] at hO2;obtain ⟨a2,c2,rfl⟩:=hO2.shape;refine Qb ?_;refine zD hD ?_;refine zT 9 rfl (Qa rfl QN) hD ?_;refine qd 10 rfl ?_;refine zS YR ?_;refine Qb ?_;refine zD hD ?_;refine Qo kA ?_;refine Qw ?_;refine Qi (Qc (Qh (zM ?_)));refine zB ?_;refine zA (Qb ?_);exact zm (h:=⟨42-(k+1),kB,k+1,_,_,rfl,rfl,rfl,rfl,kB,by rw [Za hy,List.map_append];exact hO2⟩)
  refine zpb [(0,_)] [Zd (vcI y)] ZA (fun b_26=>?_);refine Qb ?_;refine zD hD ?_;refine qd 1 rfl ?_;refine zV (Qd rfl Zh (fun hg=>by (repeat (first | exact zCv rfl | apply zCu | apply zCw)))) ?_;refine Qb ?_;refine zD hD ?_;refine qd 8 rfl ?_;refine zpa (_) (([vcI y]:List Vc).flatMap Zd) (L) rfl rfl ZA hO ⟨rfl,fun _=>rfl,by repeat (first | exact zCy | apply zCx | apply zCz)⟩ (VL [vcI y]) ?_;intro v2 L2 hO2 _;rw [←List.flatMap_append] at hO2;obtain ⟨a2,c2,rfl⟩:=hO2.shape;refine Qb ?_;refine zD hD ?_;refine zT 9 rfl (Qa rfl QN) hD ?_;refine qd 10 rfl ?_;refine zS YR ?_;refine Qb ?_;refine zD hD ?_;refine Qo kA ?_;refine Qw ?_;refine Qi (Qc (Qh (zM ?_)));refine zB ?_;refine zA (Qb ?_);exact zm (h:=⟨42-(k+1),kB,k+1,_,_,rfl,rfl,rfl,rfl,kB,by rw [Za hy,List.map_append];exact hO2⟩)
 have hge_k:42≤k:=(by have h:=hc16;simp at h;omega);obtain rfl:k=42:=kB;have hke:(Y3 x).take 42=Y3 x:=rfl;rw [hke] at hO;refine Q6 (Ql (Ql (Qq (Qc (zR ?_)))));refine zV (QF (ps:=[(0,_)]) [_,_,_,_] Vo rfl rfl) ?_;refine Qt Yv rfl rfl (fun b_6=>?_);refine zh Zs ?_;refine zN (Qm (zR (zA (zN (Qr ?_)))));refine zU [(1,_),(3,_),(6,_)] (fun T L0 mz E I' loc'=>∃ (j:Nat) (vq:Value) (Lq:Go.Kn.Loc),mz=x.pt.n-j∧E=(7,.int .i64 j)::T∧I2=I'∧Lq++((b_6,.cells #[.int .i64 3,.int .i64 0,.string ⟨#[]⟩,vq] 158 (0,0))::(L++[(b_3,.cells #[.int .i64 3,.int .i64 0,.string ⟨#[]⟩,v] 158 (0,0))]))=loc'∧j≤x.pt.n∧ZP 158 4 vq j (((x.pt.needs.take j).map vcI).flatMap Zd) Lq) ?_ (h:=⟨0,_,[],rfl,rfl,rfl,rfl,Nat.zero_le _,ZP.nil⟩);rintro mz E I' loc' ⟨j,vq,Lq,rfl,rfl,rfl,rfl,hj,hOq⟩;refine Qm (zR (zM ?_));refine zF Yi ?_;refine zF ZL ?_;refine zV (Qd rfl YW (fun hg=>by exact Qz.imm h1.out rfl)) ?_;refine zQ Q4 ?_;refine zC (zN ?_);refine zI ?_ ?_<;>intro hc35
 ·
  have hlt_j:j<x.pt.n:=(by have h:=hc35;simp at h;omega);obtain ⟨z,hz⟩:∃ y,x.pt.needs[j]? =some y:=⟨_,List.getElem?_eq_getElem kB⟩;refine Qp (Qc (Qm (Qr ?_)));have hD:=zCA I2;refine Zm ?_;refine QI I2 [] mixed ?_;refine zT 0 rfl (Qa rfl QN) hD ?_;refine zT 2 rfl (Qa rfl Yi) hD ?_;refine zT 3 rfl (Qa rfl ZL) hD ?_;refine zT 4 rfl (Qd rfl YW (fun hg=>by exact Qz.imm h1.out rfl)) hD ?_;refine zT 5 rfl (Qe rfl) hD ?_;refine zT 6 rfl (zX Q4 hN) hD ?_;refine zT 7 rfl (Qd rfl Qn (fun hg=>by exact zCt hN hz rfl)) hD ?_;refine QS 1 8 rfl rfl kA ?_ ?_
  ·
   refine zV (Qd rfl Zh (fun hg=>by exact zCw (Qz.h0 rfl))) ?_;refine Qb ?_;refine zD hD ?_;refine qd 8 rfl ?_;refine qcV (vs:=[_]) rfl zek (zjl _ _) ?_;refine Qb ?_;refine zD hD ?_;refine qd 9 rfl ?_;refine zpb [(0,_)] [Zd (vcI z)] ZA (fun b_47=>?_);refine Qb ?_;refine zD hD ?_;refine qd 10 rfl ?_;refine zpa (_) (([vcI z]:List Vc).flatMap Zd) (Lq) rfl rfl ZA hOq ⟨rfl,fun _=>rfl,by repeat (first | exact zCy | apply zCx | apply zCz)⟩ (VL [vcI z]) ?_;intro v2 L2 hO2 _;rw [←List.flatMap_append] at hO2;obtain ⟨a2,c2,rfl⟩:=hO2.shape;refine Qb ?_;refine zD hD ?_;refine zT 11 rfl (Qa rfl QN) hD ?_;refine qd 12 rfl ?_;refine zS YR ?_;refine Qb ?_;refine zD hD ?_;refine Qo kA ?_;refine Qw ?_;refine Qi (Qc (Qh (zM ?_)));refine zB ?_;refine zA (Qb ?_);exact zm (h:=⟨x.pt.n-(j+1),kB,j+1,_,_,rfl,rfl,rfl,rfl,kB,by rw [Za hz,List.map_append];exact hO2⟩)
  refine qcV (vs:=[_]) rfl zek (zjl _ _) ?_;refine Qb ?_;refine zD hD ?_;refine QS 1 9 rfl rfl kA ?_ ?_
  ·
   refine zV (Qd rfl Zh (fun hg=>by exact zCw (Qz.h0 rfl))) ?_;refine Qb ?_;refine zD hD ?_;refine qd 9 rfl ?_;refine zpb [(0,_)] [Zd (vcI z)] ZA (fun b_47=>?_);refine Qb ?_;refine zD hD ?_;refine qd 10 rfl ?_;refine zpa (_) (([vcI z]:List Vc).flatMap Zd) (Lq) rfl rfl ZA hOq ⟨rfl,fun _=>rfl,by repeat (first | exact zCy | apply zCx | apply zCz)⟩ (VL [vcI z]) ?_;intro v2 L2 hO2 _;rw [←List.flatMap_append] at hO2;obtain ⟨a2,c2,rfl⟩:=hO2.shape;refine Qb ?_;refine zD hD ?_;refine zT 11 rfl (Qa rfl QN) hD ?_;refine qd 12 rfl ?_;refine zS YR ?_;refine Qb ?_;refine zD hD ?_;refine Qo kA ?_;refine Qw ?_;refine Qi (Qc (Qh (zM ?_)));refine zB ?_;refine zA (Qb ?_);exact zm (h:=⟨x.pt.n-(j+1),kB,j+1,_,_,rfl,rfl,rfl,rfl,kB,by rw [Za hz,List.map_append];exact hO2⟩)
  refine zpb [(0,_)] [Zd (vcI z)] ZA (fun b_47=>?_);refine Qb ?_;refine zD hD ?_;refine qd 1 rfl ?_;refine zV (Qd rfl Zh (fun hg=>by (repeat (first | exact zCv rfl | apply zCu | apply zCw)))) ?_;refine Qb ?_;refine zD hD ?_;refine qd 10 rfl ?_;refine zpa (_) (([vcI z]:List Vc).flatMap Zd) (Lq) rfl rfl ZA hOq ⟨rfl,fun _=>rfl,by repeat (first | exact zCy | apply zCx | apply zCz)⟩ (VL [vcI z]) ?_;intro v2 L2 hO2 _;rw [←List.flatMap_append] at hO2;obtain ⟨a2,c2,rfl⟩:=hO2.shape;refine Qb ?_;refine zD hD ?_;refine zT 11 rfl (Qa rfl QN) hD ?_;refine qd 12 rfl ?_;refine zS YR ?_;refine Qb ?_;refine zD hD ?_;refine Qo kA ?_;refine Qw ?_;refine Qi (Qc (Qh (zM ?_)));refine zB ?_;refine zA (Qb ?_);exact zm (h:=⟨x.pt.n-(j+1),kB,j+1,_,_,rfl,rfl,rfl,rfl,kB,by rw [Za hz,List.map_append];exact hO2⟩)
 have hge_j:x.pt.n≤j:=(by have h:=hc35;simp at h;omega);obtain rfl:j=x.pt.n:=kB;have hke2:x.pt.needs.take x.pt.n=x.pt.needs:=List.take_of_length_le kB;rw [hke2] at hOq;refine Q6 (Ql (Ql (Qq (Qc (Qm ?_)))));obtain ⟨a7,c7,rfl⟩:=hOq.shape;refine zx4 hOq Vd (fun I5 hI5 a6 c6 ef5 hM6=>?_);cases ef5;have h1:=h1.mono hI5;have hIc:=hIc.trans hI5;refine QH (b:=b_6) (by repeat (first | exact Z3.here | apply Z3.there)) (fun I6 hI6 hb6=>?_);have h1:=h1.mono hI6;have hM6:=hM6.mono hI6;have hIc:=hIc.trans hI6;have h6:=BxI.of hb6;have hD:=zCA I6;refine Zm ?_;refine QI I6 [] mixed ?_;refine zT 0 rfl (Qa rfl QN) hD ?_;refine zT 2 rfl (Qg rfl Zg (fun hg=>by exact BxI.cells (vs:=[_,_,_,_]) h6) rfl) hD ?_;refine zT 3 rfl (Qa rfl Yj) hD ?_;refine zT 4 rfl (Qa rfl JO) hD ?_;refine zT 5 rfl (Qd rfl VS (fun hg=>by exact Qz.imm h1.out rfl)) hD ?_;refine zT 7 rfl (Qa rfl Yj) hD ?_;refine zT 8 rfl (Qa rfl JU) hD ?_;refine zT 9 rfl (Qd rfl VS (fun hg=>by exact Qz.imm h1.out rfl)) hD ?_;refine QS 1 6 rfl rfl kA ?_ ?_
 ·
  refine zV (Qd rfl Zh (fun hg=>by exact zCw (Qz.h0 rfl))) ?_;refine Qb ?_;refine zD hD ?_;refine qd 6 rfl ?_;refine qcV (vs:=[_]) rfl zcd (zcn _ _) ?_;refine Qb ?_;refine zD hD ?_;refine qd 10 rfl ?_;refine qcV (vs:=[_]) rfl zcd (zcn _ _) ?_;refine Qb ?_;refine zD hD ?_;refine qd 11 rfl ?_;refine zpb [(0,_),(1,_),(2,_)] [Zd ⟨3,0,⟨#[]⟩,a7,x.pt.n,c7⟩,Zd (vcT x.rt.name),Zd (vcT x.rt.town)] ZA (fun b_61=>?_);refine Qb ?_;refine zD hD ?_;refine qd 12 rfl ?_;refine zpa (_) (([⟨3,0,⟨#[]⟩,a7,x.pt.n,c7⟩,vcT x.rt.name,vcT x.rt.town]:List Vc).flatMap Zd) (L) rfl rfl ZA hO ⟨rfl,fun _=>rfl,by repeat (first | exact zCy | apply zCx | apply zCz)⟩ (VL [⟨3,0,⟨#[]⟩,a7,x.pt.n,c7⟩,vcT x.rt.name,vcT x.rt.town]) ?_;intro v8 L8 hO8 _;rw [←List.flatMap_append] at hO8;obtain ⟨a8,c8,rfl⟩:=hO8.shape;refine Qb ?_;refine zD hD ?_;refine zT 13 rfl (Qa rfl QN) hD ?_;refine qd 14 rfl ?_;refine zS YR ?_;refine Qb ?_;refine zD hD ?_;refine Qo kA ?_;refine Qw ?_;refine Qc (Qm ?_);refine zx4 hO8 Vd (fun I7 hI7 a9 c9 ef7 hM8=>?_);cases ef7;have hM6:=hM6.mono hI7;have hIc:=hIc.trans hI7;refine Qh ?_;refine zV (Qg rfl Zg (fun hg=>by exact Cells.g1) rfl) ?_;refine zpc [_] rfl zec .nil (XA (x:=KU x) (cv:=⟨3,0,⟨#[]⟩,_,45,_⟩) (Xc hM6 hM8) (JP x) hok hb) ?_;rintro vv8 I8 L8 hI8 ⟨rfl,ae,ce,rfl,hS9⟩;have hIc:=hIc.trans hI8;refine zM ?_;refine zE ?_;refine zE ?_;refine zA ?_;refine zA ?_;refine zN (zR ?_);refine zM ?_;refine zA (zN (Qs ?_));exact QA rfl rfl (fun w hw=>⟨_,I8,[],rfl,hIc,hw.subL Qx,zc1 hS9 rfl⟩)
 refine qcV (vs:=[_]) rfl zcd (zcn _ _) ?_;refine Qb ?_;refine zD hD ?_;refine QS 1 10 rfl rfl kA ?_ ?_
 ·
  refine zV (Qd rfl Zh (fun hg=>by exact zCw (Qz.h0 rfl))) ?_;refine Qb ?_;refine zD hD ?_;refine qd 10 rfl ?_;refine qcV (vs:=[_]) rfl zcd (zcn _ _) ?_;refine Qb ?_;refine zD hD ?_;refine qd 11 rfl ?_;refine zpb [(0,_),(1,_),(2,_)] [Zd ⟨3,0,⟨#[]⟩,a7,x.pt.n,c7⟩,Zd (vcT x.rt.name),Zd (vcT x.rt.town)] ZA (fun b_61=>?_);refine Qb ?_;refine zD hD ?_;refine qd 12 rfl ?_;refine zpa (_) (([⟨3,0,⟨#[]⟩,a7,x.pt.n,c7⟩,vcT x.rt.name,vcT x.rt.town]:List Vc).flatMap Zd) (L) rfl rfl ZA hO ⟨rfl,fun _=>rfl,by repeat (first | exact zCy | apply zCx | apply zCz)⟩ (VL [⟨3,0,⟨#[]⟩,a7,x.pt.n,c7⟩,vcT x.rt.name,vcT x.rt.town]) ?_;intro v8 L8 hO8 _;rw [←List.flatMap_append] at hO8;obtain ⟨a8,c8,rfl⟩:=hO8.shape;refine Qb ?_;refine zD hD ?_;refine zT 13 rfl (Qa rfl QN) hD ?_;refine qd 14 rfl ?_;refine zS YR ?_;refine Qb ?_;refine zD hD ?_;refine Qo kA ?_;refine Qw ?_;refine Qc (Qm ?_);refine zx4 hO8 Vd (fun I9 hI9 a9 c9 ef9 hM8=>?_);cases ef9;have hM6:=hM6.mono hI9;have hIc:=hIc.trans hI9;refine Qh ?_;refine zV (Qg rfl Zg (fun hg=>by exact Cells.g1) rfl) ?_;refine zpc [_] rfl zec .nil (XA (x:=KU x) (cv:=⟨3,0,⟨#[]⟩,_,45,_⟩) (Xc hM6 hM8) (JP x) hok hb) ?_;rintro vv10 I10 L10 hI10 ⟨rfl,ae,ce,rfl,hS9⟩;have hIc:=hIc.trans hI10;refine zM ?_;refine zE ?_;refine zE ?_;refine zA ?_;refine zA ?_;refine zN (zR ?_);refine zM ?_;refine zA (zN (Qs ?_));exact QA rfl rfl (fun w hw=>⟨_,I10,[],rfl,hIc,hw.subL Qx,zc1 hS9 rfl⟩)
 refine qcV (vs:=[_]) rfl zcd (zcn _ _) ?_;refine Qb ?_;refine zD hD ?_;refine QS 1 11 rfl rfl kA ?_ ?_
 ·
  refine zV (Qd rfl Zh (fun hg=>by exact zCw (Qz.h0 rfl))) ?_;refine Qb ?_;refine zD hD ?_;refine qd 11 rfl ?_;refine zpb [(0,_),(1,_),(2,_)] [Zd ⟨3,0,⟨#[]⟩,a7,x.pt.n,c7⟩,Zd (vcT x.rt.name),Zd (vcT x.rt.town)] ZA (fun b_61=>?_);refine Qb ?_;refine zD hD ?_;refine qd 12 rfl ?_;refine zpa (_) (([⟨3,0,⟨#[]⟩,a7,x.pt.n,c7⟩,vcT x.rt.name,vcT x.rt.town]:List Vc).flatMap Zd) (L) rfl rfl ZA hO ⟨rfl,fun _=>rfl,by repeat (first | exact zCy | apply zCx | apply zCz)⟩ (VL [⟨3,0,⟨#[]⟩,a7,x.pt.n,c7⟩,vcT x.rt.name,vcT x.rt.town]) ?_;intro v8 L8 hO8 _;rw [←List.flatMap_append] at hO8;obtain ⟨a8,c8,rfl⟩:=hO8.shape;refine Qb ?_;refine zD hD ?_;refine zT 13 rfl (Qa rfl QN) hD ?_;refine qd 14 rfl ?_;refine zS YR ?_;refine Qb ?_;refine zD hD ?_;refine Qo kA ?_;refine Qw ?_;refine Qc (Qm ?_);refine zx4 hO8 Vd (fun I11 hI11 a9 c9 ef11 hM8=>?_);cases ef11;have hM6:=hM6.mono hI11;have hIc:=hIc.trans hI11;refine Qh ?_;refine zV (Qg rfl Zg (fun hg=>by exact Cells.g1) rfl) ?_;refine zpc [_] rfl zec .nil (XA (x:=KU x) (cv:=⟨3,0,⟨#[]⟩,_,45,_⟩) (Xc hM6 hM8) (JP x) hok hb) ?_;rintro vv12 I12 L12 hI12 ⟨rfl,ae,ce,rfl,hS9⟩;have hIc:=hIc.trans hI12;refine zM ?_;refine zE ?_;refine zE ?_;refine zA ?_;refine zA ?_;refine zN (zR ?_);refine zM ?_;refine zA (zN (Qs ?_));exact QA rfl rfl (fun w hw=>⟨_,I12,[],rfl,hIc,hw.subL Qx,zc1 hS9 rfl⟩)
 refine zpb [(0,_),(1,_),(2,_)] [Zd ⟨3,0,⟨#[]⟩,a7,x.pt.n,c7⟩,Zd (vcT x.rt.name),Zd (vcT x.rt.town)] ZA (fun b_61=>?_);refine Qb ?_;refine zD hD ?_;refine qd 1 rfl ?_;refine zV (Qd rfl Zh (fun hg=>by (repeat (first | exact zCv rfl | apply zCu | apply zCw)))) ?_;refine Qb ?_;refine zD hD ?_;refine qd 12 rfl ?_;refine zpa (_) (([⟨3,0,⟨#[]⟩,a7,x.pt.n,c7⟩,vcT x.rt.name,vcT x.rt.town]:List Vc).flatMap Zd) (L) rfl rfl ZA hO ⟨rfl,fun _=>rfl,by repeat (first | exact zCy | apply zCx | apply zCz)⟩ (VL [⟨3,0,⟨#[]⟩,a7,x.pt.n,c7⟩,vcT x.rt.name,vcT x.rt.town]) ?_;intro v8 L8 hO8 _;rw [←List.flatMap_append] at hO8;obtain ⟨a8,c8,rfl⟩:=hO8.shape;refine Qb ?_;refine zD hD ?_;refine zT 13 rfl (Qa rfl QN) hD ?_;refine qd 14 rfl ?_;refine zS YR ?_;refine Qb ?_;refine zD hD ?_;refine Qo kA ?_;refine Qw ?_;refine Qc (Qm ?_);refine zx4 hO8 Vd (fun I13 hI13 a9 c9 ef13 hM8=>?_);cases ef13;have hM6:=hM6.mono hI13;have hIc:=hIc.trans hI13;refine Qh ?_;refine zV (Qg rfl Zg (fun hg=>by exact Cells.g1) rfl) ?_;refine zpc [_] rfl zec .nil (XA (x:=KU x) (cv:=⟨3,0,⟨#[]⟩,_,45,_⟩) (Xc hM6 hM8) (JP x) hok hb) ?_;rintro vv14 I14 L14 hI14 ⟨rfl,ae,ce,rfl,hS9⟩;have hIc:=hIc.trans hI14;refine zM ?_;refine zE ?_;refine zE ?_;refine zA ?_;refine zA ?_;refine zN (zR ?_);refine zM ?_;refine zA (zN (Qs ?_));exact QA rfl rfl (fun w hw=>⟨_,I14,[],rfl,hIc,hw.subL Qx,zc1 hS9 rfl⟩)
def zr0 (no ver:Int):Nt:=⟨3,VP,Jq,⟨no,2,ver,40,8⟩,S.zeroR⟩
def Yt (no of:Int):Nt:=⟨1,⟨no,1,of,0,9,0,4,0,0⟩,Jq,L.zeroL,S.zeroR⟩
abbrev n35:Nt:=zr0 3 5
def zgx (m:Nat):Rd:=⟨List.replicate m [],[],[]⟩
theorem zmc (hm:1≤m∧m≤24):Kn m (zgx m) []:=
 ⟨hm,by simp [zgx],rfl,fun xs hx=>(by rw [List.eq_of_mem_replicate hx];rfl),fun xs hx y hy=>(by rw [List.eq_of_mem_replicate hx] at hy;cases hy),fun p hp=>(by cases hp),fun t ht=>(by cases ht)⟩
variable{x:Nt}
theorem zne (h:(Y3 x).all (fun y=>decide (-1000≤y)&&decide (y≤1000))=true)(hn:x.pt.needs=[]):NtW x:=by
 refine ⟨fun y hy=>?_,fun y hy=>by rw [hn] at hy;cases hy⟩;have:=List.all_eq_true.1 h y hy;rw [Bool.and_eq_true,decide_eq_true_eq,decide_eq_true_eq] at this;omega
theorem zqi:NtW n35:=zne kD rfl
theorem ziv (I:Qv):Nd I n35.pt:=Sl.nil
theorem zqq:QO n35=true:=kA
theorem zaN:TkN n35:=by
 obtain ⟨h1,h2⟩:=zi2 zqi rfl zqq;exact ⟨h1,zqq,h2⟩
def e35:Ev:=⟨1,1,0,0,n35⟩
def eT0:Ev:=⟨1,0,0,0,zcX⟩
def eD0:Ev:=⟨3,0,0,0,zcX⟩
def rr1:Rd:=⟨[[],[n35]],[pkN 1 0 n35],[]⟩
def rr2:Rd:=⟨[[n35],[n35]],[],[]⟩
theorem zd1:zfA (zgx 2)=0:=(zmc (m:=2) kD).chk kD
theorem zAh:doF (zgx 2) (Y9 e35)=(0,rr1):=by
 rw [zbC zd1,zvv rfl];have h:QO (Y9 e35).note=true:=zqq;unfold UY;rw [if_pos kA,if_pos h];rfl
theorem zCa:doF (zgx 2) (Y9 eT0)=(570,zeroR):=by
 rw [zbC zd1,zvv rfl];have h:QO (Y9 eT0).note=false:=kA;unfold UY;rw [if_pos kA,h];rfl
theorem zCh:doF (zgx 2) (Y9 eD0)=(1,zeroR):=by
 rw [zbC zd1,zuh rfl];have h:atE (zgx 2).qs (zgx 2).ks (Y9 eD0).at_=1:=kA;unfold zcN;rw [h,if_pos kD]
theorem zmx:Kn 2 rr1 [n35]:=by
 have h:=((zmc (m:=2) kD).step (x:=e35) kD (fun _ _=>zaN) zAh).1;exact h
theorem zBI:doF rr1 (Y9 eD0)=(0,rr2):=by
 have hn:=zmx.net kD;rw [zbC (zmx.chk kD),zuh rfl];obtain ⟨h1,h2⟩:=zBw (qs:=rr1.qs) (ks:=rr1.ks) (i:=0) (x:=pkN 1 0 n35) (by rw [hn];rfl) kA rfl;have e1:atE rr1.qs rr1.ks (Y9 eD0).at_=0:=h1;have e2:JE rr1.qs rr1.ks (Y9 eD0).at_=pkN 1 0 n35:=(ziB (qs:=rr1.qs)).trans h2;have e3:okN (pkN 1 0 n35).data=some n35:=zd5 zaN;unfold zcN;rw [e1,e2,if_neg kD,if_neg kD,e3];rfl
theorem zzY:Kn 2 rr2 [n35]:=(zmx.step (x:=eD0) kD (fun h=>absurd h kD) zBI).1
theorem ztN:zfA rr2=0:=zzY.chk kD
variable{y:Nt}
/-! ### Notes that are the same but for their heads -/
theorem zho (hx:Nd I x.pt)(hy:Nd I y.pt):smN x y=true↔Yx x=Yx y:=by
 have l1:x.pt.needs.length=x.pt.n:=hx.len;have l2:y.pt.needs.length=y.pt.n:=hy.len;obtain ⟨k,lm,⟨i,kd,s,fd,nw,a,n,c,nd⟩,ls,rt⟩:=x;obtain ⟨k',lm',⟨i',kd',s',fd',nw',a',n',c',nd'⟩,ls',rt'⟩:=y;dsimp only at l1 l2;subst l1;subst l2;unfold smN smP smC Yx;simp only [Bool.and_eq_true,beq_iff_eq,zmu,L.lsEq_iff,S.rtEq_iff,Bool.not_eq_true',Bool.or_eq_false_iff,bne_eq_false_iff_eq,decide_eq_true_eq,Bool.not_eq_false',XR,Nt.mk.injEq,Pt.mk.injEq];constructor
 ·
  rintro ⟨⟨⟨⟨h1,h2⟩,⟨⟨⟨⟨⟨h3,h4⟩,h5⟩,h6⟩,h7⟩,_⟩,h9⟩,h10⟩,h11⟩;subst h9;exact ⟨h1,h2,⟨h3,h4,h5,h6,h7,trivial,rfl,trivial,rfl⟩,h10,h11⟩
 ·
  rintro ⟨h1,h2,⟨h3,h4,h5,h6,h7,_,_,_,h9⟩,h10,h11⟩;subst h9;exact ⟨⟨⟨⟨h1,h2⟩,⟨⟨⟨⟨⟨h3,h4⟩,h5⟩,h6⟩,h7⟩,rfl⟩,rfl⟩,h10⟩,h11⟩
theorem zg6 :∀ {xs ys:List Nt},(∀ x∈xs,Nd I x.pt)→(∀ y∈ys,Nd I y.pt)→(smL xs ys=true↔xs.map Yx=ys.map Yx)
 | [],[],_,_=>by simp [smL]
 | [],_::_,_,_=>by simp [smL]
 | _::_,[],_,_=>by simp [smL]
 | x::xs,y::ys,hx,hy=>by
  rw [smL,Bool.and_eq_true,zho (hx x (List.mem_cons_self ..)) (hy y (List.mem_cons_self ..)),zg6 (fun z hz=>hx z (List.mem_cons_of_mem _ hz)) (fun z hz=>hy z (List.mem_cons_of_mem _ hz))];simp
variable{α:Type}{num:Nt→Int}{kind:Int}{prt:Nt→α}{chk:List α→Int}
theorem zqj {d:α}(h1:∀ x,num (Yx x)=num x)(h2:∀ x,prt (Yx x)=prt x)(xs:List Nt):zcY num prt kind chk d (xs.map Yx)=zcY num prt kind chk d xs:=by
 have e:Z9 num prt kind (xs.map Yx)=Z9 num prt kind xs:=by
  unfold Z9;rw [List.foldl_map];congr 1;funext m x;unfold Xe;rw [h1,h2];rfl
 unfold zcY;rw [e]
variable{xs:List Nt}
theorem zwl (h:xs.map Yx=[n35]):wLs xs=[n35.ls]:=by
 have e:=zqj (num:=fun x=>x.ls.no) (prt:=fun x=>x.ls) (kind:=3) (chk:=L.chk) (d:=L.zeroL) (fun _=>rfl) (fun _=>rfl) xs;unfold wLs;rw [←e,h];unfold zcY;have e1:Z9 (fun x=>x.ls.no) (fun x=>x.ls) 3 [n35]=[(3,n35.ls)]:=kA;rw [e1];have e2:UO (([(3,n35.ls)]:List (Int×L.Ls)).map (·.1))=[3]:=(by simp [UO]);rw [e2];rfl
/-! ### A world of limits -/
def hL:List Nt:=[Yt 2 0,Yt 4 4,Yt 5 3]
theorem zlm {no of:Int}(h1:0≤no∧no≤100)(h2:0≤of∧of≤100):NtW (Yt no of):=by
 refine ⟨fun y hy=>?_,fun y hy=>by cases hy⟩;simp only [Y3,Yt,Jq,L.zeroL,S.zeroR,JZ,List.mem_cons,List.not_mem_nil,or_false] at hy;omega
theorem zoN (I:Qv)(hx:x∈hL):NtM I x∧QO x=true:=by
 simp only [hL,List.mem_cons,List.not_mem_nil,or_false] at hx;rcases hx with rfl | rfl | rfl
 ·
  have h:QO (Yt 2 0)=true:=kA;exact ⟨zgh (zlm kD kD) Sl.nil h,h⟩
 ·
  have h:QO (Yt 4 4)=true:=kA;exact ⟨zgh (zlm kD kD) Sl.nil h,h⟩
 ·
  have h:QO (Yt 5 3)=true:=kA;exact ⟨zgh (zlm kD kD) Sl.nil h,h⟩
theorem zzU:wLm hL=[(Yt 2 0).lm,(Yt 5 3).lm]:=by
 unfold wLm zcY;have e1:Z9 (fun x=>x.lm.no) (fun x=>x.lm) 1 hL=[(2,(Yt 2 0).lm),(4,(Yt 4 4).lm),(5,(Yt 5 3).lm)]:=kA;rw [e1]
 have e2:UO (([(2,(Yt 2 0).lm),(4,(Yt 4 4).lm),(5,(Yt 5 3).lm)]:List (Int×Lm)).map (·.1))=[2,4,5]:=by
  unfold UO;exact List.mergeSort_of_pairwise kJ
 rw [e2];rfl
theorem zdi (x y:Nt):Y5 x y=Lib.compareBytes ((Jw x).map UInt8.ofNat) ((Jw y).map UInt8.ofNat):=by
 unfold Y5 zAm zaX UR;simp
def hB (a b:Nat):List Nat:=[3,45,1,2,1,a,1,2,1,b,1,0,1,18,1,0,1,8,1,0,1,0]++(List.replicate 32 [1,0]).flatten++[3,0,2,0,2,0]
theorem za8 (no of:Nat)(h1:no<64)(h2:of<64):Jw (Yt no of)=hB (2*no) (2*of):=by
 have e1:zz (no:Int)=2*no:=(by unfold zz;rw [if_pos kB];omega);have e2:zz (of:Int)=2*of:=(by unfold zz;rw [if_pos kB];omega);have z0:zz 0=0:=(by decide);have z1:zz 1=2:=(by decide);have z4:zz 4=8:=(by decide);have z9:zz 9=18:=(by decide);have n0:Kg 0=[0]:=Vv kD;have n2:Kg 2=[2]:=Vv kD;have n8:Kg 8=[8]:=Vv kD;have n18:Kg 18=[18]:=Vv kD;have n45:Kg 45=[45]:=Vv kD;have na:Kg (2*no)=[2*no]:=Vv kB;have nb:Kg (2*of)=[2*of]:=Vv kB;have hbt:Ug (⟨#[]⟩:ByteArray)=[]:=rfl;unfold Jw KU;simp only [Y3,Yt,Jq,JZ,L.zeroL,S.zeroR,hbt,List.map_cons,List.map_nil,List.cons_append,List.nil_append,Va.enc,Va.encL,List.length_cons,List.length_nil,Nat.zero_add,Nat.reduceAdd,e1,e2,z0,z1,z4,z9,n0,n2,n8,n18,n45,na,nb,List.append_nil];rfl
theorem zsd:Y5 (Yt 2 0) (Yt 4 4)<0:=by
 rw [zdi,show Yt 2 0=Yt ((2:Nat):Int) ((0:Nat):Int) from rfl,show Yt 4 4=Yt ((4:Nat):Int) ((4:Nat):Int) from rfl,za8 2 0 kD kD,za8 4 4 kD kD];decide
theorem zsy:Y5 (Yt 4 4) (Yt 5 3)<0:=by
 rw [zdi,show Yt 4 4=Yt ((4:Nat):Int) ((4:Nat):Int) from rfl,show Yt 5 3=Yt ((5:Nat):Int) ((3:Nat):Int) from rfl,za8 4 4 kD kD,za8 5 3 kD kD];decide
theorem zbt (h:zdh xs)(hx:∀ y∈xs,Y5 x y<0):zdh (x::xs):=by
 intro k l u v hkl hu hv
 cases l with
 | zero=>omega
 | succ l=>
  cases k with
  | zero=>
   simp only [List.getElem?_cons_zero,Option.some.injEq] at hu;subst hu;exact hx v (List.mem_of_getElem? (by simpa using hv))
  | succ k=>exact h k l u v kB (by simpa using hu) (by simpa using hv)
theorem zlt:zdh []:=fun k l x y _ hx=>by simp at hx
theorem zpl:ZQ hL=true:=by
 have h3:zdh hL:=zbt (zbt (zbt zlt (fun y hy=>by cases hy)) (fun y hy=>by rw [List.mem_singleton.1 hy];exact zsy)) fun y hy=>by
  simp only [List.mem_cons,List.not_mem_nil,or_false] at hy;rcases hy with rfl | rfl
  ·
   exact zsd
  ·
   exact VI zsd zsy
 exact Xj h3 (fun x hx=>(zoN (fun _=>none) hx).2) kD
theorem zhF (h:xs.map Yx=[y]):∃ x,xs=[x]∧Yx x=y:=by
 cases xs with
 | nil=>cases h
 | cons x l=>
  cases l with
  | nil=>exact ⟨x,rfl,List.head_eq_of_cons_eq h⟩
  | cons z l=>
   have:=congrArg List.length h;simp at this
theorem zeZ (h:xs.map Yx=[n35])(hN:∀ x∈xs,Nd I x.pt):ZQ xs=true:=by
 obtain ⟨x,rfl,e⟩:=zhF h;have hn:Sl I 1 ZX x.pt.a x.pt.n x.pt.c x.pt.needs:=hN x (List.mem_singleton.2 rfl);have hf:QO x=true:=(by rw [←JH hn.len.symm,e];exact zqq);exact Xj (zbt zlt fun y hy=>by cases hy) (fun y hy=>by rw [List.mem_singleton.1 hy];exact hf) kJ
theorem zv6:okN []=none:=kA
variable{rs:List Hy}{zs:List Nt}
theorem zyK (h:LdZ I rs a m c zs)(hr:rs≠[])(hb:∀ r∈rs,r.bytes=Jw n35):zs.map Yx=[n35]:=by
 have hz:∀ x∈zs,Yx x=n35:=fun x hx=>by
  obtain ⟨_,r,hr2,e⟩:=h.frm x hx;rw [hb r hr2,zd5 zaN] at e;exact (Option.some.inj e).symm
 match zs,h,hz with
 | [],h,_=>
  obtain ⟨r,l,rfl⟩:=List.exists_cons_of_ne_nil hr;obtain ⟨x,hx,_⟩:=h.mem r (List.mem_cons_self ..);cases hx
 | [x],_,hz=>rw [List.map_singleton,hz x (List.mem_singleton.2 rfl)]
 | x::y::l,h,hz=>
  have h1:=h.srt 0 1 x y kD rfl rfl;have e1:=hz x (List.mem_cons_self ..);have e2:=hz y kJ;rw [←zbi,e1,e2,Ut] at h1;omega
def zBR (n:Int)(v:Value)(I':Qv)(L':Go.Kn.Loc):Prop:=L'=[]∧∃ vr,v= .tuple #[vr,.int .i64 (if (decide (n<1)||decide (n>24))=true then 1 else 0)]∧RmV I' vr (if (decide (n<1)||decide (n>24))=true then zeroR else zgx n.toNat)
theorem zve {b t:Nat}(_hm:m≤maxLen)(hb:I b=some (.cells (List.replicate m (Value.slice none 0 0)).toArray t (0,0))):RmV I (.agg #[.slice (some ⟨b,0,none⟩) m m,.slice none 0 0,.slice none 0 0]) (zgx m):=by
 refine ⟨_,_,_,_,_,_,_,_,_,List.replicate m ⟨none,0,0,[]⟩,[],rfl,⟨⟨by simp,Nat.le_refl _,fun _=>rfl,fun k x hx j u hu=>?_⟩,fun x hx=>?_,.nil,fun _ h=>(by cases h),.nil⟩,?_⟩
 ·
  have hj:j=0:=(by have:=(List.getElem?_eq_some_iff.1 hu).1;simp [Xy] at this;omega);subst hj;have hk:=(List.getElem?_eq_some_iff.1 hx).1;rw [List.length_replicate] at hk;have ex:x=⟨none,0,0,[]⟩:=List.eq_of_mem_replicate (List.mem_of_getElem? hx);subst ex;have hu:u= .slice none 0 0:=(by simpa [Xy] using hu.symm);subst hu;refine Qz.imm hb ?_;show zki _ (0+k*1+0)=_;rw [Nat.zero_add,Nat.mul_one,Nat.add_zero,V7];simp [hk]
 ·
  rw [List.eq_of_mem_replicate hx];exact ⟨.nil,fun _ h=>(by cases h),fun _ h=>(by cases h)⟩
 ·
  simp [Jd,zgx,dtP]
variable{pa qa aa:Option Addr}{pn pc qn qc an ac i:Nat}{ps:List Pe}{qs:List Pk}{ks:List (Int×Int)}{r:Rd}
theorem ztV (_hR:RmP I pa pn pc qa qn qc aa an ac ps qs ks)(e:Jd ps qs ks=r)(hi:r.ps[i]? =some xs):∃ pe,ps[i]? =some pe∧pe.notes.map Yx=xs:=by
 subst e;simp only [Jd,dtP,List.getElem?_map] at hi
 cases h:ps[i]? with
 | none=>rw [h] at hi;cases hi
 | some pe=>rw [h] at hi;exact ⟨pe,rfl,Option.some.inj hi⟩
theorem W0 (hR:RmP I pa pn pc qa qn qc aa an ac ps qs ks)(e:Jd ps qs ks=r):pn=r.ps.length∧qn=r.qs.length∧ks=r.ks:=by
 subst e;exact ⟨by rw [←hR.pe.len];exact (zeu ps).symm,by rw [←hR.q.len];simp [Jd],rfl⟩
variable{p:Pk}
theorem zAx (_hR:RmP I pa pn pc qa qn qc aa an ac ps qs ks)(e:Jd ps qs ks=r)(hi:r.qs[i]? =some p):∃ q,qs[i]? =some q∧VR q=p:=by
 subst e;simp only [Jd,List.getElem?_map] at hi
 cases h:qs[i]? with
 | none=>rw [h] at hi;cases hi
 | some q=>rw [h] at hi;exact ⟨q,rfl,Option.some.inj hi⟩
structure SmR (r:Rd):Prop where
 p:r.ps.length≤24
 nn:∀ xs∈r.ps,xs.length≤1000
 q:r.qs.length≤3000
 dl:∀ p∈r.qs,p.data.length≤2000
 k:r.ks.length≤100
theorem SmR.use (hR:RmP I pa pn pc qa qn qc aa an ac ps qs ks)(h:SmR (Jd ps qs ks)):pn≤100000∧qn≤100000∧an≤100000∧(∀ x∈ps,x.n≤100000)∧(∀ q∈qs,q.n≤100000)∧(qn+24≤4096∧∀ pe∈ps,qn+pe.n≤4096):=by
 obtain ⟨h1,h2,_⟩:=W0 hR rfl;have hp:=h.p;have hq:=h.q;have hk:=h.k;have hkl:=hR.k.len
 have hn:∀ x∈ps,x.n≤1000:=fun x hx=>by
  have h3:=h.nn (x.notes.map Yx) (List.mem_map.2 ⟨x,hx,rfl⟩);have:=(hR.nt x hx).sl.len;rw [List.length_map] at h3;omega
 refine ⟨kB,kB,?_,fun x hx=>by have:=hn x hx;omega,fun q hq2=>?_,kB,fun pe hpe=>by have:=hn pe hpe;omega⟩
 ·
  have:(Jd ps qs ks).ks.length=ks.length:=rfl;omega
 ·
  have h3:=h.dl (VR q) (List.mem_map.2 ⟨q,hq2,rfl⟩);have:=(hR.pk q hq2).sl.len;have e:(VR q).data=q.data:=rfl;rw [e] at h3;omega
theorem zb9 (hm:m≤24):SmR (zgx m):=⟨by simp [zgx];exact hm,fun xs hx=>(by rw [List.eq_of_mem_replicate hx];exact Nat.zero_le _),by simp [zgx],fun p hp=>(by cases hp),by simp [zgx]⟩
theorem zwJ:SmR rr1:=⟨by decide,fun xs hx=>by
  simp only [rr1,List.mem_cons,List.not_mem_nil,or_false] at hx
  rcases hx with rfl | rfl<;>simp,by decide,fun p hp=>(by
  rw [List.mem_singleton.1 (show p∈[pkN 1 0 n35] from hp)];exact zaN.2.2),by decide⟩
theorem zxH:SmR rr2:=⟨by decide,fun xs hx=>by
  simp only [rr2,List.mem_cons,List.not_mem_nil,or_false] at hx
  rcases hx with rfl | rfl<;>simp,by decide,fun p hp=>(by cases hp),by decide⟩
theorem zuY:SmR zeroR:=⟨by decide,fun xs hx=>(by cases hx),by decide,fun p hp=>(by cases hp),by decide⟩
variable{v:Value}{I':Qv}{L':Go.Kn.Loc}
theorem zmm (h:zAk xs v I' L')(hv:ZQ xs=true):L'=[]∧∃ a1 n1 c1 a2 n2 c2 a3 n3 c3 a4 n4 c4,v= .tuple #[.slice a1 n1 c1,.slice a2 n2 c2,.slice a3 n3 c3,.slice a4 n4 c4,.int .i64 0]∧Sl I' 9 Zi a1 n1 c1 (wLm xs)∧Sl I' 5 L.encL a2 n2 c2 (wLs xs)∧SlP I' a3 n3 c3 (wPt xs)∧Sl I' 11 S.encR a4 n4 c4 (wRt xs):=by
 rcases h.2 with ⟨_,h2⟩ | ⟨h1,_⟩
 ·
  exact ⟨h.1,h2⟩
 ·
  rw [hv] at h1;cases h1
theorem zuD (h:zAn xs v I' L')(hv:ZQ xs=true):L'=[]∧∃ a n c rs,v= .tuple #[.slice a n c,.int .i64 0]∧zj9 I' a n c rs∧rs.map (·.bytes)=xs.map Jw:=by
 rcases h.2 with ⟨_,h2⟩ | ⟨h1,_⟩
 ·
  exact ⟨h.1,h2⟩
 ·
  rw [hv] at h1;cases h1
theorem zzZ (h:LdQ rs v I' L')(hl:rs.length≤4096)(hn:∀ r∈rs,okN r.bytes≠none):L'=[]∧∃ a m c zs,v= .tuple #[.agg #[.slice a m c],.int .i64 0]∧LdZ I' rs a m c zs:=by
 rcases h.2 with ⟨h1,_⟩ | ⟨_,⟨r,h1,h2⟩,_⟩ | ⟨_,h2⟩
 ·
  omega
 ·
  exact absurd h2 (hn r h1)
 ·
  exact ⟨h.1,h2⟩
theorem zA7 (h:LdQ rs v I' L')(hl:rs.length≤4096)(hn:∃ r∈rs,okN r.bytes=none):L'=[]∧v= .tuple #[.agg #[.slice none 0 0],.int .i64 570]:=by
 rcases h.2 with ⟨h1,_⟩ | ⟨_,_,h2⟩ | ⟨_,a,m,c,zs,_,h2⟩
 ·
  omega
 ·
  exact ⟨h.1,h2⟩
 ·
  obtain ⟨r,hr,e⟩:=hn;obtain ⟨x,_,e2⟩:=h2.mem r hr;rw [e] at e2;cases e2
theorem zj3 (s:ByteArray):JG s s=true:=zbE.2 rfl
theorem zqV :RmP I none 0 0 none 0 0 none 0 0 [] [] []:=⟨.nil,fun _ h=>(by cases h),.nil,fun _ h=>(by cases h),.nil⟩
theorem zpg:zfA zeroR=570:=kA
variable{n:Nat}
theorem zzQ (h:UV I a n c xs)(e:xs.map Yx=[]):n=0:=by
 have:=h.sl.len;have h2:=congrArg List.length e;rw [List.length_map] at h2;rw [←this,h2];rfl
theorem zua (hN:∀ x∈xs,Nd I x.pt)(e:xs.map Yx=[n35]):smL xs [n35]=true:=
 (zg6 hN (fun y hy=>by rw [List.mem_singleton.1 hy];exact Sl.nil)).2 e
theorem zkD (hN:∀ x∈xs,Nd I x.pt)(e:xs.map Yx=[n35]):∀ x∈xs,x.pt.n≤100000:=fun x hx=>by
 obtain ⟨y,rfl,e2⟩:=zhF e;rw [List.mem_singleton.1 hx];have h:Sl I 1 ZX y.pt.a y.pt.n y.pt.c y.pt.needs:=hN y (List.mem_singleton.2 rfl);have h3:y.pt.needs.length=(Yx y).pt.n:=rfl;rw [e2] at h3;have:=h.len;have:(n35.pt.n:Nat)=0:=rfl;omega
theorem zvq (h:zj9 I a n c rs)(hb:rs.map (·.bytes)=xs.map Jw)(hx:xs.map Yx=[n35]):rs.length=1∧(∀ r∈rs,r.bytes=Jw n35)∧∀ r∈rs,r.n≤100000:=by
 obtain ⟨x,rfl,e⟩:=zhF hx;have em:Jw x=Jw n35:=(by rw [←e];rfl);have hl:=congrArg List.length hb;rw [List.length_map,List.length_map] at hl
 have hr:∀ r∈rs,r.bytes=Jw n35:=fun r hr=>by
  have h1:r.bytes∈rs.map (·.bytes):=List.mem_map.2 ⟨r,hr,rfl⟩;rw [hb,List.map_singleton,List.mem_singleton,em] at h1;exact h1
 refine ⟨hl,hr,fun r h2=>?_⟩;have h3:=(h.m r h2).sl.len;rw [hr r h2] at h3;have:=zaN.2.2;omega
theorem zda:PlT Tryz.prog 45 #[(0,1),(1,9),(10,19),(29,5),(34,11)] (.agg #[(.int .i64 0),(.int .i64 0),(.int .i64 0),(.int .i64 0),(.int .i64 0),(.int .i64 0),(.int .i64 0),(.int .i64 0),(.int .i64 0),(.int .i64 0),(.int .i64 0),(.int .i64 0),(.int .i64 0),(.int .i64 0),(.int .i64 0),(.int .i64 0),(.int .i64 0),(.int .i64 0),(.int .i64 0),(.int .i64 0),(.int .i64 0),(.int .i64 0),(.int .i64 0),(.int .i64 0),(.int .i64 0),(.int .i64 0),(.int .i64 0),(.int .i64 0),(.slice none 0 0),(.int .i64 0),(.int .i64 0),(.int .i64 0),(.int .i64 0),(.int .i64 0),(.int .i64 0),(.int .i64 0),(.int .i64 0),(.int .i64 0),(.int .i64 0),(.int .i64 0),(.string ⟨#[]⟩),(.string ⟨#[]⟩),(.int .i64 0),(.int .i64 0),(.int .i64 0)]):=⟨.of kA,kA,fun w=>kA⟩
theorem ze4 (I:Qv)(no ver:Int):ZF Tryz.prog 42 [.int .i64 no,.int .i64 ver] I (Kj (zr0 no ver)):=by
 intro g H w hw;refine qe Tryz.func42 Tryz.ntmps42 hw ?_;refine zR<|Qt UW rfl rfl (fun b_4=>zN (zR ?_))
 refine zM ?_;refine zM<|zV (QF (ps:=[(0,_),(1,_),(2,_),(3,_),(4,_)]) [_,_,_,_,_] ziU rfl rfl) ?_
 refine zV (QF (ps:=[(0,_),(3,_)]) [_,_,_,_,_,_,_,_,_,_,_,_,_,_,_,_,_,_,_,_,_,_,_,_,_,_,_,_,_,_,_,_,_,_,_,_,_,_,_,_,_,_,_,_,_] zda rfl rfl) ?_;exact zh Vk<|zN (Qs<|ZN rfl rfl Q8 zCy rfl (fun w hw=>⟨by rfl,hw.drop⟩))
theorem zdr (I:Qv)(no of:Int):ZF Tryz.prog 44 [.int .i64 no,.int .i64 of] I (Kj (Yt no of)):=by
 intro g H w hw;refine qe Tryz.func44 Tryz.ntmps44 hw ?_;refine zR<|Qt UW rfl rfl (fun b_4=>zN (zR ?_))
 refine zM ?_;refine zM<|zV (QF (ps:=[(0,_)]) [_,_,_] zbV rfl rfl) ?_
 refine zV (QF (ps:=[(0,_),(1,_),(2,_),(4,_),(6,_)]) [_,_,_,_,_,_,_,_,_] zdv rfl rfl) ?_;refine zV (QF (ps:=[(0,_),(1,_)]) [_,_,_,_,_,_,_,_,_,_,_,_,_,_,_,_,_,_,_,_,_,_,_,_,_,_,_,_,_,_,_,_,_,_,_,_,_,_,_,_,_,_,_,_,_] zda rfl rfl) ?_;exact zh Vk<|zN (Qs<|ZN rfl rfl Q8 zCy rfl (fun w hw=>⟨by rfl,hw.drop⟩))
theorem zsg (I:Qv)(n:Int):Y7 Tryz.prog 14 [.int .i64 n] I [] (zBR n):=by
 have h:=zAX I n;by_cases hb:(decide (n<1)||decide (n>24))=true
 ·
  intro g H w hw;refine (h g H w hw).mono ?_;rintro e w' ⟨v,I',L',h1,h2,h3,rfl,⟨_,rfl,rfl⟩ | ⟨h4,_⟩⟩
  ·
   exact ⟨_,_,_,h1,h2,h3,rfl,_,by rw [if_pos hb],by rw [if_pos hb];exact zhZ⟩
  rw [hb] at h4;cases h4
 have hb2:(decide (n<1)||decide (n>24))=false:=(by simpa using hb);refine Uu.m (Bad:=fun _=>False) (Uu.frz (h.p (Bad:=fun _=>False)) fun v I' L' hI hq=>?_) (fun v hv=>hv);obtain ⟨rfl,⟨h4,_⟩ | ⟨_,b,rfl,rfl⟩⟩:=hq
 ·
  rw [hb2] at h4;cases h4
 refine ⟨[],b,_,.here,fun I2 h2 hb3=>⟨rfl,_,by rw [if_neg hb],?_⟩⟩;rw [if_neg hb];have hn:1≤n∧n≤24:=(by simpa using hb2);exact zve (Nat.le_trans (show n.toNat≤24 by omega) kD) hb3
variable{R:Int×Rd}
theorem zjT (hR:RmP I pa pn pc qa qn qc aa an ac ps qs ks)(he:Jd ps qs ks=r)(hs:SmR r)(x:Ev)(hE:EvM I x)(e:doF r (Y9 x)=R):Y7 Tryz.prog 12 [.agg #[.slice pa pn pc,.slice qa qn qc,.slice aa an ac],.agg (zfz x).toArray] I [] (DoQ R):=by
 subst he;subst e;obtain ⟨h1,h2,h3,h4,h5,h6⟩:=SmR.use hR hs;exact zB3 hR h1 h2 h3 h4 h5 (fun _=>h6) x hE
variable{e:Int}
theorem zjt (hR:RmP I pa pn pc qa qn qc aa an ac ps qs ks)(he:Jd ps qs ks=r)(hs:SmR r)(hc:zfA r=e):Y7 Tryz.prog 16 [.agg #[.slice pa pn pc,.slice qa qn qc,.slice aa an ac]] I [] (fun v _I' L'=>L'=[]∧v= .int .i64 e):=by
 subst he;subst hc;obtain ⟨h1,h2,h3,h4,h5,_⟩:=SmR.use hR hs;exact zmP hR h1 h2 h3 h4 h5
theorem zpZ:zhX Tryz.prog 45 3 29 5:=.of kA
theorem zds:Fun Tryz.prog 12:=.of Tryz.func12 kA kA
theorem zsK:Fun Tryz.prog 14:=.of Tryz.func14 kA kA
theorem znp:Fun Tryz.prog 20:=.of Tryz.func20 kA kA
theorem zrY:Fun Tryz.prog 22:=.of Tryz.func22 kA kA
theorem zoJ:Fun Tryz.prog 24:=.of Tryz.func24 kA kA
theorem ziR:Fun Tryz.prog 31:=.of Tryz.func31 kA kA
theorem zfW:Fun Tryz.prog 42:=.of Tryz.func42 kA kA
theorem X4:Fun Tryz.prog 43:=.of Tryz.func43 kA kA
theorem zmM:Fun Tryz.prog 44:=.of Tryz.func44 kA kA
theorem zgj:PlT Tryz.prog 47 #[(0,1),(1,1),(2,1),(3,1),(4,45)] (.agg #[(.int .i64 0),(.int .i64 0),(.int .i64 0),(.int .i64 0),(.int .i64 0),(.int .i64 0),(.int .i64 0),(.int .i64 0),(.int .i64 0),(.int .i64 0),(.int .i64 0),(.int .i64 0),(.int .i64 0),(.int .i64 0),(.int .i64 0),(.int .i64 0),(.int .i64 0),(.int .i64 0),(.int .i64 0),(.int .i64 0),(.int .i64 0),(.int .i64 0),(.int .i64 0),(.int .i64 0),(.int .i64 0),(.int .i64 0),(.int .i64 0),(.int .i64 0),(.int .i64 0),(.int .i64 0),(.int .i64 0),(.int .i64 0),(.slice none 0 0),(.int .i64 0),(.int .i64 0),(.int .i64 0),(.int .i64 0),(.int .i64 0),(.int .i64 0),(.int .i64 0),(.int .i64 0),(.int .i64 0),(.int .i64 0),(.int .i64 0),(.string ⟨#[]⟩),(.string ⟨#[]⟩),(.int .i64 0),(.int .i64 0),(.int .i64 0)]):=⟨.of kA,kA,fun w=>kA⟩
theorem ziC:PlT Tryz.prog 59 #[(0,1)] (.agg #[(.slice none 0 0)]):=⟨.of kA,kA,fun w=>kA⟩
variable{av bv:Option Addr}
theorem ztK {n2 c2:Nat}(hS:UV I av n c xs)(hT:Sl I 45 Q7 bv n2 c2 [n35])(hd:xs.map Yx=[n35])(hn:n≤100000):ZF Tryz.prog 31 [.slice av n c,.slice bv n2 c2] I (.bool true):=by
 have h:=zzA hS.sl hT hS.nd (fun y hy=>by rw [List.mem_singleton.1 hy];exact Sl.nil) (zkD hS.nd hd) hn;rw [zua hS.nd hd] at h;exact h
set_option maxRecDepth 100000 in
set_option maxHeartbeats 4000000 in
theorem zyC (I:Qv):ZF Tryz.prog 10 [] I (.bool true):=by
 intro g H w hw;refine qe Tryz.func10 Tryz.ntmps10 hw ?_;have hIc:=zCA I;refine zR (zA<|zN (zR<|zpc [_] rfl zsK .nil (zsg _ 2) ?_));rintro vv1 I1 L1 hI1 ⟨rfl,vr1,rfl,hV1⟩;have hIc:=hIc.trans hI1;obtain ⟨pa1,pn1,pc1,qa1,qn1,qc1,aa1,an1,ac1,ps1,qs1,rfl,hR1,he1⟩:=(show RmV _ vr1 (zgx 2) from hV1);obtain rfl:pn1=2:=(W0 hR1 he1).1;obtain rfl:qn1=0:=(W0 hR1 he1).2.1;refine zM ?_;refine zE ?_;refine zE ?_;refine Qt zc0 rfl rfl (fun b_1=>zh KM<|zA (Qb<|QH .here (fun I2 hI2 hb2=>?_)));have hR1:=hR1.mono hI2;have hIc:=hIc.trans hI2;have h1:=BxI.of hb2;refine Qc (zR<|zpc [_] rfl zsK .nil (zsg _ 0) ?_);rintro vv3 I3 L3 hI3 ⟨rfl,vr3,rfl,hV3⟩;have hR1:=hR1.mono hI3;have h1:=h1.mono hI3;have hIc:=hIc.trans hI3;obtain ⟨pa3,pn3,pc3,qa3,qn3,qc3,aa3,an3,ac3,ps3,qs3,rfl,hR3,he3⟩:=(show RmV _ vr3 (zeroR) from hV3);refine zM ?_;refine zE ?_;refine zE ?_;refine Qt zc0 rfl rfl (fun b_3=>zh KM<|zA (Qb<|QH .here (fun I4 hI4 hb4=>?_)));have hR1:=hR1.mono hI4;have h1:=h1.mono hI4;have hIc:=hIc.trans hI4;have h3:=BxI.of hb4;refine Qc ?_;refine zY [(1,_),(2,_),(4,_)] (fun T L0 E I' loc'=>∃ (b5:Nat) (pa5:Option Addr) (pn5:Nat) (pc5:Nat) (qa5:Option Addr) (qn5:Nat) (qc5:Nat) (aa5:Option Addr) (an5:Nat) (ac5:Nat) (ps5:List Pe) (qs5:List Pk),E=(5,ZE b5)::(6,.int .i64 0)::T∧HLe I4 I'∧[]=loc'∧BxI I' b5 (.cells #[.slice pa5 pn5 pc5,.slice qa5 qn5 qc5,.slice aa5 an5 ac5] 28 (0,0))∧RmP I' pa5 pn5 pc5 qa5 qn5 qc5 aa5 an5 ac5 ps5 qs5 []∧Jd ps5 qs5 []=rr1) ?_ ?_
 ·
  have hKc3:=zCA I4;have hD:=zCA I4;refine Zm<|QI I4 [] mixed<|zT 0 rfl (Qg rfl JA (fun hg=>by exact BxI.cells (vs:=[_,_,_]) h1) rfl) hD ?_
  refine QS 1 7 rfl rfl kA ?_ ?_
  ·
   refine qcV (vs:=[_,_]) rfl zfW (ze4 _ 3 5)<|Qb<|zD hD<|zT 2 rfl (QF (ps:=[(0,_),(1,_),(4,_)]) [_,_,_,_,_,_,_,_,_,_,_,_,_,_,_,_,_,_,_,_,_,_,_,_,_,_,_,_,_,_,_,_,_,_,_,_,_,_,_,_,_,_,_,_,_,_,_,_,_] zgj rfl rfl) hD ?_
   refine QS 3 7 rfl rfl kA ?_ ?_
   ·
    refine zpc [_,_] rfl zds .nil (zjT hR1 he1 (zb9 kD) e35 ⟨ziv _,zqi⟩ zAh) ?_;rintro vv5 I5 L5 hI5 ⟨rfl,vr5,rfl,hV5⟩;have hKc3:=hKc3.trans hI5;have hD:=hD.trans hI5;obtain ⟨pa5,pn5,pc5,qa5,qn5,qc5,aa5,an5,ac5,ps5,qs5,rfl,hR5,he5⟩:=(show RmV _ vr5 (rr1) from hV5);refine Qb<|zD hD<|zT 4 rfl (Qe rfl) hD<|zT 5 rfl (Q9 rfl rfl) hD<|zT 6 rfl (Q9 rfl rfl) hD<|qd 7 rfl<|Qt zc0 rfl rfl (fun b_5=>Qb<|zD hD<|qd 8 rfl ?_)
    refine zh KM ?_;refine QU (b:=b_5) (by repeat (first | exact Z3.here | apply Z3.there)) (fun I6 hI6 hb6=>?_);have hR5:=hR5.mono hI6;have hKc3:=hKc3.trans hI6;have hD:=hD.trans hI6;have h5:=BxI.of hb6;exact Qb<|zD hD<|zT 9 rfl (Qy rfl) hD<|Qo kA<|Qw<|zm (h:=⟨_,_,_,_,_,_,_,_,_,_,_,_,rfl,hKc3,rfl,h5,hR5,he5⟩)
   refine Qt zc0 rfl rfl (fun b_5=>Qb<|zD hD<|qd 3 rfl<|zpc [_,_] rfl zds .nil (zjT hR1 he1 (zb9 kD) e35 ⟨ziv _,zqi⟩ zAh) ?_);rintro vv7 I7 L7 hI7 ⟨rfl,vr5,rfl,hV5⟩;have hKc3:=hKc3.trans hI7;have hD:=hD.trans hI7;obtain ⟨pa5,pn5,pc5,qa5,qn5,qc5,aa5,an5,ac5,ps5,qs5,rfl,hR5,he5⟩:=(show RmV _ vr5 (rr1) from hV5);refine Qb<|zD hD<|zT 4 rfl (Qe rfl) hD<|zT 5 rfl (Q9 rfl rfl) hD<|zT 6 rfl (Q9 rfl rfl) hD<|qd 8 rfl ?_
   refine zh KM ?_;refine QU (b:=b_5) (by repeat (first | exact Z3.here | apply Z3.there)) (fun I8 hI8 hb8=>?_);have hR5:=hR5.mono hI8;have hKc3:=hKc3.trans hI8;have hD:=hD.trans hI8;have h5:=BxI.of hb8;exact Qb<|zD hD<|zT 9 rfl (Qy rfl) hD<|Qo kA<|Qw<|zm (h:=⟨_,_,_,_,_,_,_,_,_,_,_,_,rfl,hKc3,rfl,h5,hR5,he5⟩)
  refine Qt zc0 rfl rfl (fun b_5=>Qb<|zD hD<|qd 1 rfl<|qcV (vs:=[_,_]) rfl zfW (ze4 _ 3 5)<|Qb<|zD hD<|zT 2 rfl (QF (ps:=[(0,_),(1,_),(4,_)]) [_,_,_,_,_,_,_,_,_,_,_,_,_,_,_,_,_,_,_,_,_,_,_,_,_,_,_,_,_,_,_,_,_,_,_,_,_,_,_,_,_,_,_,_,_,_,_,_,_] zgj rfl rfl) hD<|qd 3 rfl<|zpc [_,_] rfl zds .nil (zjT hR1 he1 (zb9 kD) e35 ⟨ziv _,zqi⟩ zAh) ?_);rintro vv9 I9 L9 hI9 ⟨rfl,vr5,rfl,hV5⟩;have hKc3:=hKc3.trans hI9;have hD:=hD.trans hI9;obtain ⟨pa5,pn5,pc5,qa5,qn5,qc5,aa5,an5,ac5,ps5,qs5,rfl,hR5,he5⟩:=(show RmV _ vr5 (rr1) from hV5);refine Qb<|zD hD<|zT 4 rfl (Qe rfl) hD<|zT 5 rfl (Q9 rfl rfl) hD<|zT 6 rfl (Q9 rfl rfl) hD<|qd 8 rfl ?_
  refine zh KM ?_;refine QU (b:=b_5) (by repeat (first | exact Z3.here | apply Z3.there)) (fun I10 hI10 hb10=>?_);have hR5:=hR5.mono hI10;have hKc3:=hKc3.trans hI10;have hD:=hD.trans hI10;have h5:=BxI.of hb10;exact Qb<|zD hD<|zT 9 rfl (Qy rfl) hD<|Qo kA<|Qw<|zm (h:=⟨_,_,_,_,_,_,_,_,_,_,_,_,rfl,hKc3,rfl,h5,hR5,he5⟩)
 rintro E J11 loc' ⟨b5,pa5,pn5,pc5,qa5,qn5,qc5,aa5,an5,ac5,ps5,qs5,rfl,hJ3,rfl,h5,hR5,he5⟩;have hR1:=hR1.mono hJ3;have h1:=h1.mono hJ3;have hIc:=hIc.trans hJ3;obtain rfl:pn5=2:=(W0 hR5 he5).1;obtain rfl:qn5=1:=(W0 hR5 he5).2.1;refine zR<|zV (Qg rfl JA (fun hg=>by exact BxI.cells (vs:=[_,_,_]) h1) rfl)<|zV (QF (ps:=[(0,_)]) [_,_,_,_,_,_,_,_,_,_,_,_,_,_,_,_,_,_,_,_,_,_,_,_,_,_,_,_,_,_,_,_,_,_,_,_,_,_,_,_,_,_,_,_,_,_,_,_,_] zgj rfl rfl)<|zpc [_,_] rfl zds .nil (zjT hR1 he1 (zb9 kD) eT0 ⟨Sl.nil,zbr⟩ zCa) ?_
 rintro vv12 I12 L12 hI12 ⟨rfl,vr7,rfl,hV7⟩;have hR1:=hR1.mono hI12;have h1:=h1.mono hI12;have h5:=h5.mono hI12;have hR5:=hR5.mono hI12;have hIc:=hIc.trans hI12;obtain ⟨pa7,pn7,pc7,qa7,qn7,qc7,aa7,an7,ac7,ps7,qs7,rfl,hR7,he7⟩:=(show RmV _ vr7 (zeroR) from hV7);refine zM ?_;refine zE ?_;refine zE ?_;refine Qt zc0 rfl rfl (fun b_7=>zh KM<|zA (Qb<|QH .here (fun I13 hI13 hb13=>?_)));have hR1:=hR1.mono hI13;have h1:=h1.mono hI13;have h5:=h5.mono hI13;have hR5:=hR5.mono hI13;have hIc:=hIc.trans hI13;have h7:=BxI.of hb13;refine Qc (zR<|zV (Qg rfl JA (fun hg=>by exact BxI.cells (vs:=[_,_,_]) h1) rfl)<|zV (QF (ps:=[(0,_)]) [_,_,_,_,_,_,_,_,_,_,_,_,_,_,_,_,_,_,_,_,_,_,_,_,_,_,_,_,_,_,_,_,_,_,_,_,_,_,_,_,_,_,_,_,_,_,_,_,_] zgj rfl rfl)<|zpc [_,_] rfl zds .nil (zjT hR1 he1 (zb9 kD) eD0 ⟨Sl.nil,zbr⟩ zCh) ?_);rintro vv14 I14 L14 hI14 ⟨rfl,vr9,rfl,hV9⟩;have h1:=h1.mono hI14;have h5:=h5.mono hI14;have hR5:=hR5.mono hI14;have hIc:=hIc.trans hI14;obtain ⟨pa9,pn9,pc9,qa9,qn9,qc9,aa9,an9,ac9,ps9,qs9,rfl,hR9,he9⟩:=(show RmV _ vr9 (zeroR) from hV9);refine zM ?_;refine zE ?_;refine zE ?_;refine Qt zc0 rfl rfl (fun b_9=>zh KM<|zA (Qb<|QH .here (fun I15 hI15 hb15=>?_)));have h1:=h1.mono hI15;have h5:=h5.mono hI15;have hR5:=hR5.mono hI15;have hIc:=hIc.trans hI15;have h9:=BxI.of hb15;refine Qc (zR<|zV (Qg rfl JA (fun hg=>by exact BxI.cells (vs:=[_,_,_]) h5) rfl)<|zV (QF (ps:=[(0,_)]) [_,_,_,_,_,_,_,_,_,_,_,_,_,_,_,_,_,_,_,_,_,_,_,_,_,_,_,_,_,_,_,_,_,_,_,_,_,_,_,_,_,_,_,_,_,_,_,_,_] zgj rfl rfl)<|zpc [_,_] rfl zds .nil (zjT hR5 he5 zwJ eD0 ⟨Sl.nil,zbr⟩ zBI) ?_);rintro vv16 I16 L16 hI16 ⟨rfl,vr11,rfl,hV11⟩;have h1:=h1.mono hI16;have h5:=h5.mono hI16;have hR5:=hR5.mono hI16;have hIc:=hIc.trans hI16;obtain ⟨pa11,pn11,pc11,qa11,qn11,qc11,aa11,an11,ac11,ps11,qs11,rfl,hR11,he11⟩:=(show RmV _ vr11 (rr2) from hV11);obtain rfl:pn11=2:=(W0 hR11 he11).1;obtain rfl:qn11=0:=(W0 hR11 he11).2.1;refine zM ?_;refine zE ?_;refine zE ?_;refine Qt zc0 rfl rfl (fun b_11=>zh KM<|zA (Qb<|QH .here (fun I17 hI17 hb17=>?_)));have h1:=h1.mono hI17;have h5:=h5.mono hI17;have hR5:=hR5.mono hI17;have hR11:=hR11.mono hI17;have hIc:=hIc.trans hI17;have h11:=BxI.of hb17;refine Qc (Qm (zR (zM<|zC<|zM ?_)));refine QK 2 rfl rfl rfl ?_;refine zJ (Qa rfl YK)<|zJ (Qd rfl J6 (fun hg=>by exact Qz.imm h1.out rfl))<|zJ (QV rfl JC)<|zJ (QE rfl rfl rfl)<|Zf rfl rfl rfl rfl rfl ?_
 refine zM ?_;refine QK 8 rfl rfl rfl ?_;refine zJ (Qe rfl) ?_;refine zJ (QE rfl rfl rfl) ?_;refine Zf rfl rfl rfl rfl rfl ?_;refine zM ?_;refine QK 12 rfl rfl rfl ?_;refine zJ (Qe rfl) ?_;refine zJ (QE rfl rfl rfl)<|Zf rfl rfl rfl rfl rfl ?_
 refine zM ?_;refine QK 16 rfl rfl rfl ?_;refine zJ (Qa rfl YK)<|zJ (Qd rfl J6 (fun hg=>by exact Qz.imm h5.out rfl))<|zJ (QV rfl JC)<|zJ (QE rfl rfl rfl)<|Zf rfl rfl rfl rfl rfl ?_
 refine zM ?_;refine QK 22 rfl rfl rfl ?_;refine zJ (Qe rfl) ?_;refine zJ (QE rfl rfl rfl)<|Zf rfl rfl rfl rfl rfl ?_
 refine zM ?_;refine QK 26 rfl rfl rfl ?_;refine zJ (Qe rfl) ?_;refine zJ (QE rfl rfl rfl)<|Zf rfl rfl rfl rfl rfl ?_
 refine zM ?_;refine QK 30 rfl rfl rfl ?_;refine zJ (Qe rfl) ?_;refine zJ (QE rfl rfl rfl)<|Zf rfl rfl rfl rfl rfl ?_
 refine zM ?_;refine QK 34 rfl rfl rfl ?_;refine zJ (Qa rfl YK)<|zJ (Qd rfl J6 (fun hg=>by exact Qz.imm h11.out rfl))<|zJ (QV rfl JC)<|zJ (QE rfl rfl rfl)<|Zf rfl rfl rfl rfl rfl<|zN ?_
 refine zI ?_ ?_<;>intro hc103
 ·
  exact absurd hc103 kD
 refine Qp (Qc (zR ?_));refine qcV (vs:=[_,_]) rfl zfW (ze4 _ 3 5)<|zpb [(0,_)] [Q7 n35] ZH (fun b_105=>zA (Qb<|QH .here (fun I18 hI18 hb18=>?_)))
 have h1:=h1.mono hI18;have h5:=h5.mono hI18;have hR5:=hR5.mono hI18;have hR11:=hR11.mono hI18;have h11:=h11.mono hI18;have hIc:=hIc.trans hI18;have h13:=Sl.lit (enc:=Q7) [n35] rfl Zl hb18;refine Qc (Qm ?_);obtain ⟨q5,hq5,hq5e⟩:=zAx hR5 he5 (i:=0) rfl;have hq5M:=hR5.pk q5 (List.mem_of_getElem? hq5);have hdq5:UR q5.data=UR (Jw n35):=congrArg (fun p:Pk=>UR p.data) hq5e;obtain ⟨pb,hppb,hdpb⟩:=ztV hR5 he5 (i:=1) (xs:=[n35]) rfl;have hnpb:=hR5.nt pb (List.mem_of_getElem? hppb);obtain ⟨pa,hppa,hdpa⟩:=ztV hR5 he5 (i:=0) (xs:=[]) rfl;have hnpa:=hR5.nt pa (List.mem_of_getElem? hppa);have hpa0:(((pa.n:Nat):Int)==0)=true:=(by rw [zzQ hnpa hdpa];rfl);have hpbl:pb.n≤100000:=(by have h1:=hnpb.sl.len;have h2:=congrArg List.length hdpb;rw [List.length_map] at h2;simp at h2;omega);have hD:=zCA I18;refine Zm<|QI I18 [] mixed<|zT 0 rfl (Qa rfl Vb) hD<|zT 1 rfl (Qa rfl Zq) hD<|zT 2 rfl (Qd rfl Zv (fun hg=>by exact Qz.imm h5.out rfl)) hD<|zT 3 rfl (QV rfl Zn) hD<|zT 4 rfl (QE rfl rfl rfl) hD<|zT 5 rfl (Qe rfl) hD<|zw 6 111 rfl (Qa rfl Vb) hD<|zw 7 111 rfl (Qa rfl Zq) hD<|zw 8 111 rfl (Qd rfl Zv (fun hg=>by exact Qz.imm h5.out rfl)) hD<|zw 9 111 rfl (QC rfl rfl Zn hR5.q (fun hg=>kB)) hD ?_
 refine zw 10 111 rfl (Qa rfl zbv) hD<|zw 11 111 rfl (Qd rfl Jm (fun hg=>by exact zCC hR5.q hq5 (j:=2) rfl)) hD<|zw 12 111 rfl (Zp rfl bst (fun hg=>hq5M.sl)) hD<|qd 13 rfl<|QM (dj:=111) rfl rfl rfl<|qcV (vs:=[_,_]) rfl zfW (ze4 _ 3 5)<|Qb<|zD hD<|qd 14 rfl<|QM (dj:=111) rfl rfl rfl<|zpc [_] rfl X4 .nil (Xz n35 (ziv _) kD zaN.1 (Nat.le_trans zaN.2.2 kD)) ?_
 rintro vv19 I19 L19 hI19 ⟨rfl,am,cm,rfl,hSm⟩;have h1:=h1.mono hI19;have h5:=h5.mono hI19;have hR5:=hR5.mono hI19;have hR11:=hR11.mono hI19;have h11:=h11.mono hI19;have h13:=h13.mono hI19;have hnpb:=hnpb.mono hI19;have hIc:=hIc.trans hI19;have hD:=hD.trans hI19;refine Qb<|zD hD<|qd 15 rfl<|QM (dj:=111) rfl rfl rfl<|zV (Zp rfl bst (fun hg=>hSm))<|Qb<|zD hD<|zw 16 111 rfl (Ke rfl rfl rfl) hD ?_
 rw [hdq5,zj3];refine zT 17 rfl (QY rfl rfl rfl) hD<|zT 18 rfl (Qe rfl) hD<|zw 19 124 rfl (Qa rfl YK) hD<|zw 24 124 rfl (Qe rfl) hD<|qd 20 rfl<|QM (dj:=124) rfl rfl rfl ?_
 refine zV (Qd rfl J6 (fun hg=>by exact Qz.imm h5.out rfl))<|Qb<|zD hD<|qd 21 rfl<|QM (dj:=124) rfl rfl rfl<|zV (QC rfl rfl JC hR5.pe (fun hg=>kB))<|Qb<|zD hD<|zw 22 124 rfl (Qa rfl Zx) hD<|qd 23 rfl<|QM (dj:=124) rfl rfl rfl ?_
 refine zV (Qd rfl YD (fun hg=>by exact zCt hR5.pe hppb rfl))<|Qb<|zD hD<|qd 25 rfl<|QM (dj:=124) rfl rfl rfl<|qcV (vs:=[_,_]) rfl ziR (ztK hnpb h13 hdpb kB)<|Qb<|zD hD<|zT 26 rfl (QY rfl rfl rfl) hD<|zT 27 rfl (Qe rfl) hD<|zw 28 133 rfl (Qa rfl YK) hD<|qd 29 rfl ?_
 refine QM (dj:=133) rfl rfl rfl ?_;refine zV (Qd rfl J6 (fun hg=>by exact Qz.imm h5.out rfl))<|Qb<|zD hD<|qd 30 rfl<|QM (dj:=133) rfl rfl rfl<|zV (QC rfl rfl JC hR5.pe (fun hg=>kB))<|Qb<|zD hD<|zw 31 133 rfl (Qa rfl Zx) hD<|qd 32 rfl<|QM (dj:=133) rfl rfl rfl ?_
 refine zV (Qd rfl YD (fun hg=>by exact zCt hR5.pe hppa rfl))<|Qb<|zD hD<|zw 33 133 rfl (QV rfl QZ) hD<|zw 34 133 rfl (QE rfl rfl rfl) hD ?_
 rw [hpa0];refine zT 35 rfl (QY rfl rfl rfl) hD<|zT 36 rfl (Qy rfl) hD<|Qo kA<|Qw<|Qc (Qm ?_)
 obtain ⟨pf,hppf,hdpf⟩:=ztV hR11 he11 (i:=0) (xs:=[n35]) rfl;have hnpf:=hR11.nt pf (List.mem_of_getElem? hppf);have hpfl:pf.n≤100000:=(by have h1:=hnpf.sl.len;have h2:=congrArg List.length hdpf;rw [List.length_map] at h2;simp at h2;omega);refine Qh<|zF YK ?_
 refine zV (Qd rfl J6 (fun hg=>by exact Qz.imm h11.out rfl))<|zV (QC rfl rfl JC hR11.pe (fun hg=>kB))<|zV (Qg rfl Vj (fun hg=>by exact zCB hR11.pe hppf) rfl)<|zpc [_] rfl znp .nil (zhN hnpf kB) ?_
 rintro vv20 I20 L20 hI20 hW0;have h1:=h1.mono hI20;have hR11:=hR11.mono hI20;have h11:=h11.mono hI20;have h13:=h13.mono hI20;have hnpf:=hnpf.mono hI20;have hIc:=hIc.trans hI20;obtain ⟨rfl,a15,n15,c15,a16,n16,c16,a17,n17,c17,a18,n18,c18,rfl,hS15,hS16,_,_⟩:=zmm hW0 (zeZ hdpf hnpf.nd);rw [zwl hdpf] at hS16;obtain rfl:n16=1:=hS16.len.symm;refine zM ?_;refine zE ?_;refine zE ?_;refine zE ?_;refine zE ?_;refine zE<|zA<|zA<|zA<|zA<|zA<|zN (zR<|qcV (vs:=[_,_]) rfl zmM (zdr _ 2 0)<|qcV (vs:=[_,_]) rfl zmM (zdr _ 4 4)<|qcV (vs:=[_,_]) rfl zmM (zdr _ 5 3)<|zpb [(0,_),(1,_),(2,_)] [Q7 (Yt 2 0),Q7 (Yt 4 4),Q7 (Yt 5 3)] ZH (fun b_157=>zV (QF (ps:=[(0,_)]) [_] ziC rfl rfl) ?_))
 refine QU (by repeat (first | exact Z3.here | apply Z3.there)) (fun I21 hI21 hb21=>?_);have h1:=h1.mono hI21;have hR11:=hR11.mono hI21;have h11:=h11.mono hI21;have h13:=h13.mono hI21;have hnpf:=hnpf.mono hI21;have hS16:=hS16.mono hI21;have hIc:=hIc.trans hI21;have hLl:=Sl.lit (enc:=Q7) hL rfl Zl hb21;refine zpc [_] rfl znp .nil (zhN ⟨hLl,fun x hx=>(zoN _ hx).1.nd,fun x hx _=>(zoN _ hx).1⟩ kD) ?_;rintro vv22 I22 L22 hI22 hW0;have h1:=h1.mono hI22;have hR11:=hR11.mono hI22;have h11:=h11.mono hI22;have h13:=h13.mono hI22;have hnpf:=hnpf.mono hI22;have hS16:=hS16.mono hI22;have hIc:=hIc.trans hI22;obtain ⟨rfl,a20,n20,c20,a21,n21,c21,a22,n22,c22,a23,n23,c23,rfl,hS20,_,_,_⟩:=zmm hW0 zpl;rw [zzU] at hS20;obtain rfl:n20=2:=hS20.len.symm;refine zM ?_;refine zE ?_;refine zE ?_;refine zE ?_;refine zE ?_;refine zE<|zA<|zA<|zA<|zA<|zA<|zN (zR ?_)
 refine zF YK ?_;refine zV (Qd rfl J6 (fun hg=>by exact Qz.imm h11.out rfl))<|zV (QC rfl rfl JC hR11.pe (fun hg=>kB))<|zV (Qg rfl Vj (fun hg=>by exact zCB hR11.pe hppf) rfl)<|zpc [_] rfl zrY .nil (zfx hnpf kB) ?_
 rintro vv23 I23 L23 hI23 hW0;have h1:=h1.mono hI23;have hR11:=hR11.mono hI23;have h11:=h11.mono hI23;have h13:=h13.mono hI23;have hnpf:=hnpf.mono hI23;have hS16:=hS16.mono hI23;have hS20:=hS20.mono hI23;have hIc:=hIc.trans hI23;obtain ⟨rfl,a25,n25,c25,rs0,rfl,hRc,hrb⟩:=zuD hW0 (zeZ hdpf hnpf.nd);obtain ⟨rsl,rsb,rsn⟩:=zvq hRc hrb hdpf;obtain rfl:n25=1:=(by have h:=hRc.sl.len;omega);refine zM ?_;refine zE ?_;refine zE<|zA<|zA<|zN (zR<|zpb [] [] Xv (fun b_174=>?_))
 refine zM<|zpa (_) (rs0.flatMap WG) ([(b_174,_)]) rfl rfl Xv ZP.new (hRc.sl.src KS) (zhP _) ?_
 intro v8 L8 hO8 _;rw [List.nil_append,Nat.zero_add] at hO8;refine zM<|zpa (_) (rs0.flatMap WG) (L8) rfl rfl Xv hO8 (hRc.sl.src KS) (zhP _) ?_
 intro v9 L9 hO9 _;rw [←List.flatMap_append] at hO9;refine zx7 hO9 KS (fun I24 hI24 af24 cf24 ef24 hZr=>?_);subst ef24;have h1:=h1.mono hI24;have hR11:=hR11.mono hI24;have h11:=h11.mono hI24;have h13:=h13.mono hI24;have hnpf:=hnpf.mono hI24;have hS16:=hS16.mono hI24;have hS20:=hS20.mono hI24;have hRc:=hRc.mono hI24;have hIc:=hIc.trans hI24;refine zpc [_] rfl zoJ .nil (zmy (rs:=rs0++rs0) ⟨hZr,fun r hr=>(List.mem_append.1 hr).elim (hRc.m r) (hRc.m r)⟩ kB (fun r hr=>rsn r ((List.mem_append.1 hr).elim id id))) ?_;rintro vv25 I25 L25 hI25 hLd0;have h1:=h1.mono hI25;have hR11:=hR11.mono hI25;have h11:=h11.mono hI25;have h13:=h13.mono hI25;have hnpf:=hnpf.mono hI25;have hS16:=hS16.mono hI25;have hS20:=hS20.mono hI25;have hIc:=hIc.trans hI25;obtain ⟨rfl,a27,m27,c27,zs27,rfl,hLz⟩:=zzZ hLd0 (by rw [List.length_append,rsl];decide) (fun r hr=>by rw [rsb r ((List.mem_append.1 hr).elim id id),zd5 zaN];simp);have hLn:=hLz.nt;have hdz:=zyK hLz (by intro h;rw [List.append_eq_nil_iff] at h;rw [h.1] at rsl;cases rsl) (fun r hr=>rsb r ((List.mem_append.1 hr).elim id id));refine zM ?_;refine zE ?_;refine zE ?_;refine Qt zgl rfl rfl (fun b_27=>zh US<|zA (Qb<|QH .here (fun I26 hI26 hb26=>?_)));have h1:=h1.mono hI26;have hR11:=hR11.mono hI26;have h11:=h11.mono hI26;have h13:=h13.mono hI26;have hnpf:=hnpf.mono hI26;have hS16:=hS16.mono hI26;have hS20:=hS20.mono hI26;have hLn:=hLn.mono hI26;have hIc:=hIc.trans hI26;have h27:=BxI.of hb26;refine Qc (zR<|zpb [(0,_)] [WG ⟨none,0,0,[]⟩] Xv (fun b_183=>QU (by repeat (first | exact Z3.here | apply Z3.there)) (fun I27 hI27 hb27=>?_)));have h1:=h1.mono hI27;have hR11:=hR11.mono hI27;have h11:=h11.mono hI27;have h13:=h13.mono hI27;have hnpf:=hnpf.mono hI27;have hS16:=hS16.mono hI27;have hS20:=hS20.mono hI27;have hLn:=hLn.mono hI27;have h27:=h27.mono hI27;have hIc:=hIc.trans hI27;have hNl:=Sl.lit (enc:=WG) [(⟨none,0,0,[]⟩:Hy)] rfl KS hb27;refine zpc [_] rfl zoJ .nil (zmy (rs:=[⟨none,0,0,[]⟩]) ⟨hNl,fun r hr=>by rw [List.mem_singleton.1 hr];exact ⟨.nil,fun _ h=>(by cases h)⟩⟩ kD (fun r hr=>by rw [List.mem_singleton.1 hr];decide)) ?_;rintro vv28 I28 L28 hI28 hLd0;have h1:=h1.mono hI28;have hR11:=hR11.mono hI28;have h11:=h11.mono hI28;have h13:=h13.mono hI28;have hnpf:=hnpf.mono hI28;have hS16:=hS16.mono hI28;have hS20:=hS20.mono hI28;have hLn:=hLn.mono hI28;have h27:=h27.mono hI28;have hIc:=hIc.trans hI28;obtain ⟨rfl,rfl⟩:=zA7 hLd0 kD ⟨_,List.mem_singleton.2 rfl,zv6⟩;refine zM ?_;refine zE ?_;refine zE ?_;refine Qt zgl rfl rfl (fun b_29=>zh US<|zA (Qb<|QH .here (fun I29 hI29 hb29=>?_)));have h1:=h1.mono hI29;have hR11:=hR11.mono hI29;have h11:=h11.mono hI29;have h13:=h13.mono hI29;have hnpf:=hnpf.mono hI29;have hS16:=hS16.mono hI29;have hS20:=hS20.mono hI29;have hLn:=hLn.mono hI29;have h27:=h27.mono hI29;have hIc:=hIc.trans hI29;have h29:=BxI.of hb29;refine Qc (zR (zM<|zM<|QM (dj:=188) rfl rfl rfl<|zF YK<|QM (dj:=188) rfl rfl rfl ?_));refine zV (Qd rfl J6 (fun hg=>by exact Qz.imm h11.out rfl))<|QM (dj:=188) rfl rfl rfl<|zV (QC rfl rfl JC hR11.pe (fun hg=>kB))<|QM (dj:=188) rfl rfl rfl<|zF Zx<|QM (dj:=188) rfl rfl rfl ?_
 refine zV (Qd rfl YD (fun hg=>by exact zCt hR11.pe hppf rfl))<|QM (dj:=188) rfl rfl rfl<|zM<|QM (dj:=188) rfl rfl rfl<|qcV (vs:=[_,_]) rfl ziR (ztK hnpf h13 hdpf kB)<|zV (QY rfl rfl rfl)<|zM<|QM (dj:=197) rfl rfl rfl<|zF Vb<|QM (dj:=197) rfl rfl rfl<|zF Zq<|QM (dj:=197) rfl rfl rfl ?_
 refine zV (Qd rfl Zv (fun hg=>by exact Qz.imm h11.out rfl))<|QM (dj:=197) rfl rfl rfl<|zQ Zn<|QM (dj:=197) rfl rfl rfl ?_
 refine zC<|zV (QY rfl rfl rfl)<|zM<|QM (dj:=204) rfl rfl rfl<|zV (QF (ps:=[]) [_,_,_] zhV rfl rfl)<|QM (dj:=204) rfl rfl rfl<|zpc [_] rfl zok .nil (zjt zqV (r:=zeroR) rfl zuY zpg) ?_
 rintro vv30 I30 L30 hI30 ⟨rfl,rfl⟩;have h1:=h1.mono hI30;have hR11:=hR11.mono hI30;have h11:=h11.mono hI30;have h13:=h13.mono hI30;have hS16:=hS16.mono hI30;have hS20:=hS20.mono hI30;have hLn:=hLn.mono hI30;have h27:=h27.mono hI30;have hIc:=hIc.trans hI30;refine QM (dj:=204) rfl rfl rfl<|zC<|zV (QY rfl rfl rfl)<|zM<|QM (dj:=209) rfl rfl rfl<|zV (Qg rfl JA (fun hg=>by exact BxI.cells (vs:=[_,_,_]) h11) rfl)<|QM (dj:=209) rfl rfl rfl<|zpc [_] rfl zok .nil (zjt hR11 he11 zxH ztN) ?_
 rintro vv31 I31 L31 hI31 ⟨rfl,rfl⟩;have h1:=h1.mono hI31;have h13:=h13.mono hI31;have hS16:=hS16.mono hI31;have hS20:=hS20.mono hI31;have hLn:=hLn.mono hI31;have h27:=h27.mono hI31;have hIc:=hIc.trans hI31;refine QM (dj:=209) rfl rfl rfl<|zC<|zV (QY rfl rfl rfl)<|zA (zN (Qm ?_))
 have hzl:m27≤100000:=(by have h1:=hLn.sl.len;have h2:=congrArg List.length hdz;rw [List.length_map] at h2;simp at h2;omega);have hD:=zCA I31;refine Zm<|QI I31 [] mixed<|zT 0 rfl (Qe rfl) hD<|zT 1 rfl (Qe rfl) hD<|zw 2 215 rfl (Qe rfl) hD<|zw 3 215 rfl (QE rfl rfl rfl) hD<|zT 4 rfl (QY rfl rfl rfl) hD<|zT 5 rfl (Qe rfl) hD<|zw 6 219 rfl (Qe rfl) hD<|zw 7 219 rfl (QE rfl rfl rfl) hD<|zT 8 rfl (QY rfl rfl rfl) hD<|zT 9 rfl (Qe rfl) hD ?_
 refine zw 10 223 rfl (Qe rfl) hD<|zw 11 223 rfl (QE rfl rfl rfl) hD<|zT 12 rfl (QY rfl rfl rfl) hD<|zT 13 rfl (Qe rfl) hD<|zw 14 227 rfl (Qe rfl) hD<|zw 15 227 rfl (QE rfl rfl rfl) hD<|zT 16 rfl (QY rfl rfl rfl) hD<|zT 17 rfl (Qe rfl) hD<|zw 18 231 rfl (Qe rfl) hD<|zw 19 231 rfl (QE rfl rfl rfl) hD<|zT 20 rfl (QY rfl rfl rfl) hD<|zT 21 rfl (Qe rfl) hD ?_
 refine zw 22 235 rfl (Qe rfl) hD<|zw 23 235 rfl (QV rfl ZO) hD<|zw 24 235 rfl (QE rfl rfl rfl) hD<|zT 25 rfl (QY rfl rfl rfl) hD<|zT 26 rfl (Qe rfl) hD<|zw 27 240 rfl (Qe rfl) hD<|zw 28 240 rfl (zX ZO hS20) hD<|zw 29 240 rfl (Qa rfl Yy) hD<|zw 30 240 rfl (Qd rfl Qn (fun hg=>by exact zCt hS20 (k:=0) rfl rfl)) hD<|zw 31 240 rfl (QE rfl rfl rfl) hD<|zT 32 rfl (QY rfl rfl rfl) hD<|zT 33 rfl (Qe rfl) hD ?_
 refine zw 34 247 rfl (Qe rfl) hD<|zw 35 247 rfl (zX ZO hS20) hD<|zw 36 247 rfl (Qa rfl Yy) hD<|zw 37 247 rfl (Qd rfl Qn (fun hg=>by exact zCt hS20 (k:=1) rfl rfl)) hD<|zw 38 247 rfl (QE rfl rfl rfl) hD<|zT 39 rfl (QY rfl rfl rfl) hD<|zT 40 rfl (Qe rfl) hD<|zw 41 254 rfl (Qe rfl) hD<|zw 42 254 rfl (QV rfl Jj) hD<|zw 43 254 rfl (QE rfl rfl rfl) hD<|zT 44 rfl (QY rfl rfl rfl) hD<|zT 45 rfl (Qe rfl) hD ?_
 refine zw 46 259 rfl (Qe rfl) hD<|zw 47 259 rfl (zX Jj hS16) hD<|zw 48 259 rfl (Qg rfl Jp (fun hg=>by exact zCB hS16 (k:=0) rfl) rfl) hD<|qd 49 rfl<|QM (dj:=259) rfl rfl rfl<|qcV (vs:=[_,_]) rfl zfW (ze4 _ 3 5)<|Qb<|zD hD<|qd 50 rfl<|QM (dj:=259) rfl rfl rfl<|zV (zj5 [_,_,_,_,_] rfl zpZ rfl)<|Qb ?_
 refine zD hD<|zw 51 259 rfl (U6 rfl rfl zeW rfl) hD<|zT 52 rfl (QY rfl rfl rfl) hD<|zT 53 rfl (Qe rfl) hD<|zw 54 267 rfl (Qe rfl) hD<|zw 55 267 rfl (QV rfl JY) hD<|zw 56 267 rfl (QE rfl rfl rfl) hD<|zT 57 rfl (QY rfl rfl rfl) hD<|zT 58 rfl (Qe rfl) hD<|zw 59 272 rfl (Qa rfl Zx) hD<|zw 60 272 rfl (Qd rfl YD (fun hg=>by exact Qz.imm h27.out rfl)) hD<|zw 61 272 rfl (Qe rfl) hD ?_
 exact qd 62 rfl<|QM (dj:=272) rfl rfl rfl<|qcV (vs:=[_,_]) rfl ziR (ztK hLn h13 hdz kB)<|Qb<|zD hD<|zT 63 rfl (QY rfl rfl rfl) hD<|zT 64 rfl (Qy rfl) hD<|Qo kA<|Qw<|Qc (Qs<|QA rfl rfl (fun w hw=>⟨by rfl,(hw.mono hIc).subL Qx⟩))
section
variable {I:Qv} {pa qa aa:Option Addr} {pn pc qn qc an ac m k:Nat} {ps:List Pe} {qs:List Pk} {ks:List (Int×Int)} {r:Rd} {ts:List Nt}
theorem zo9 {x:Nt}(hN:Nd I x.pt)(hf:QO (Yx x)=true):x.pt.n≤100000:=by
 have hl:x.pt.needs.length=x.pt.n:=hN.len;have:=(zao hl (by rw [←JH hl.symm];exact hf)).1;omega
end
theorem zwI:Fun Tryz.prog 10:=.of Tryz.func10 kA kA
theorem zfD (h:zdh xs):xs.Pairwise (fun x y=>Y5 x y<0):=
 List.pairwise_iff_getElem.2 fun i j hi hj hij=>h i j _ _ hij (List.getElem?_eq_getElem hi) (List.getElem?_eq_getElem hj)
theorem zrF (h:xs.Pairwise (fun x y=>Y5 x y<0)):zdh xs:=fun i j x y hij hx hy=>by
 obtain ⟨hi,rfl⟩:=List.getElem?_eq_some_iff.1 hx;obtain ⟨hj,rfl⟩:=List.getElem?_eq_some_iff.1 hy;exact List.pairwise_iff_getElem.1 h i j hi hj hij
theorem zrR:∀ {xs ys:List Nt},xs.Pairwise (fun x y=>Y5 x y<0)→ys.Pairwise (fun x y=>Y5 x y<0)→(∀ y,y∈xs↔y∈ys)→xs=ys
 | [],[],_,_,_=>rfl
 | [],b::bs,_,_,h=>by have:=(h b).2 (List.mem_cons_self ..);cases this
 | a::al,[],_,_,h=>by have:=(h a).1 (List.mem_cons_self ..);cases this
 | a::al,b::bs,hx,hz,h=>by
  obtain ⟨x1,x2⟩:=List.pairwise_cons.1 hx;obtain ⟨y1,y2⟩:=List.pairwise_cons.1 hz
  have e:a=b:=by
   rcases List.mem_cons.1 ((h a).1 (List.mem_cons_self ..)) with e | h1
   ·
    exact e
   ·
    rcases List.mem_cons.1 ((h b).2 (List.mem_cons_self ..)) with e | h2
    ·
     exact e.symm
    ·
     have h3:=y1 a h1;have h4:=x1 b h2;rw [Uq] at h4;omega
  subst e;refine congrArg _ (zrR x2 y2 fun y=>⟨fun hy=>?_,fun hy=>?_⟩)
  ·
   rcases List.mem_cons.1 ((h y).1 (List.mem_cons_of_mem _ hy)) with rfl | h1
   ·
    have:=x1 y hy;rw [Ut] at this;omega
   ·
    exact h1
  ·
   rcases List.mem_cons.1 ((h y).2 (List.mem_cons_of_mem _ hy)) with rfl | h1
   ·
    have:=y1 y hy;rw [Ut] at this;omega
   ·
    exact h1
theorem zqh {ys:List Nt}(hx:zdh xs)(hy:zdh ys)(h:∀ y,y∈xs↔y∈ys):xs=ys:=zrR (zfD hx) (zfD hy) h
section
variable {m:Nat} {r:Rd} {told:List Nt} {x:Ev}
end
end
end Go.Proofs.YtjblkbkmblkgoaaGreat
namespace Go.Kn
section
open Go Go.Proofs
theorem zaK:∀ (a b:List UInt8),Op.bytesLess a b=decide (Lib.compareBytes a b<0)
 | [],[]=>rfl
 | [],_::_=>rfl
 | _::_,[]=>rfl
 | x::a,y::b=>by
  unfold Op.bytesLess Lib.compareBytes;rw [zaK a b];by_cases h:x<y
  ·
   simp [h]
  ·
   by_cases h2:y<x
   ·
    have:(x==y)=false:=by
     rw [beq_eq_false_iff_ne];rintro rfl;exact h h2
    simp [h,h2,this]
   ·
    have e:x=y:=UInt8.le_antisymm (UInt8.not_lt.1 h2) (UInt8.not_lt.1 h);subst e;simp [h]
section
variable {C:Cx} {E:Env} {I:Qv} {loc:Loc} {S:GS} {dst:Option Tmp} {pos:String} {af:Array Edge} {gd:Option (Nat×Bool)} {x y:Operand}
theorem Xd {t t' ty:TypeId}{s1 s2:ByteArray}(hx:QG S E x=some (.string s1))(hy:QG S E y=some (.string s2)):QW C S E I loc ⟨dst,.binOp .lss t x y t',ty,pos,af,gd⟩ (.bool (decide (Lib.compareBytes s1.data.toList s2.data.toList<0))):=
 .of kE fun a w ha hg hc _=>by
  have e1:∀ op x y t (a b:ByteArray),(eqGuard op t x y (.string a) (.string b)).run C.P w= .ok () w:=(by intros;unfold eqGuard;rename_i op _ _ _ _ _;cases op<;>rfl);have e3:decide (Lib.compareBytes s1.data.toList s2.data.toList<0)=Op.bytesLess s1.toList s2.toList:=(by rw [ByteArray.toList_eq,ByteArray.toList_eq,zaK]);rw [e3];simp only [execOp,Qk ha hg hc hx,Qk ha hg hc hy,Sem.run_bind,e1,Result.andThen];rfl
end
end
end Go.Kn
namespace Go.Proofs.YtjblkbkmblkgoaaGreat
section
open Go Go.Kn Go.Proofs
def Xg:List Nt→Nt→Nat
 | [],_=>0
 | x::xs,t=>if Y5 x t<0 then Xg xs t+1 else 0
theorem zev:∀ (xs:List Nt) (t:Nt),Xg xs t≤xs.length
 | [],_=>Nat.le_refl _
 | x::xs,t=>by
  unfold Xg;have:=zev xs t;split<;>simp<;>omega
theorem zhu:∀ {xs:List Nt} {t:Nt} {j:Nat} {x:Nt},j<Xg xs t→xs[j]? =some x→Y5 x t<0
 | [],_,_,_,h,_=>absurd h (Nat.not_lt_zero _)
 | x::xs,t,j,y,h,hy=>by
  unfold Xg at h;split at h
  ·
   rename_i hx
   cases j with
   | zero=>simp at hy;subst hy;exact hx
   | succ j=>exact zhu (xs:=xs) (j:=j) kB (by simpa using hy)
  ·
   omega
theorem zgO:∀ {xs:List Nt} {t:Nt} {x:Nt},xs[Xg xs t]? =some x→¬Y5 x t<0
 | [],_,_,h=>by simp [Xg] at h
 | x::xs,t,y,h=>by
  unfold Xg at h;split at h
  ·
   rename_i hx;exact zgO (xs:=xs) (by simpa using h)
  ·
   rename_i hx;simp at h;subst h;exact hx
variable{xs:List Nt}{t:Nt}{k:Nat}
theorem zoa (h:∀ (j:Nat) (x:Nt),j<k→xs[j]? =some x→Y5 x t<0)(hk:k≤xs.length)(hn:∀ x,xs[k]? =some x→¬Y5 x t<0):Xg xs t=k:=by
 rcases Nat.lt_trichotomy (Xg xs t) k with h1 | h1 | h1
 ·
  have h2:xs[Xg xs t]? =some xs[Xg xs t]:=List.getElem?_eq_getElem kB;exact absurd (h _ _ h1 h2) (zgO h2)
 ·
  exact h1
 ·
  have hl:k<xs.length:=(by have:=zev xs t;omega);have h2:xs[k]? =some xs[k]:=List.getElem?_eq_getElem hl;exact absurd (zhu h1 h2) (hn _ h2)
def zfF (xs:List Nt)(t:Nt):Bool:=match xs[Xg xs t]? with | some x=>smN x t | none=>false
def zmG (xs:List Nt)(t:Nt):List Nt:=if zfF xs t=true then xs else xs.take (Xg xs t)++t::xs.drop (Xg xs t)
theorem zcC {x:Nt}(h:xs[Xg xs t]? =some x):zfF xs t=smN x t:=by unfold zfF;rw [h]
theorem zmD (h:xs.length≤Xg xs t):zfF xs t=false:=by unfold zfF;rw [List.getElem?_eq_none h]
theorem zeh (h:zfF xs t=true):zmG xs t=xs:=if_pos h
theorem zdK (h:zfF xs t=false):zmG xs t=xs.take (Xg xs t)++t::xs.drop (Xg xs t):=if_neg (by rw [h];simp)
theorem zvT {x:Nt}(h:∀ (j:Nat) (x:Nt),j<k→xs[j]? =some x→Y5 x t<0)(hx:xs[k]? =some x)(hl:Y5 x t<0):∀ (j:Nat) (x:Nt),j<k+1→xs[j]? =some x→Y5 x t<0:=fun j y hj hy=>by
 rcases Nat.lt_succ_iff_lt_or_eq.1 hj with h1 | rfl
 ·
  exact h j y h1 hy
 ·
  rw [hx] at hy;cases hy;exact hl
theorem zpJ (h:zdh xs)(hd:zfF xs t=false)(hc:∀ x,xs[Xg xs t]? =some x→smN x t=false→Y5 x t≠0):zdh (zmG xs t):=by
 rw [zdK hd];have hle:=zev xs t
 have hgt:∀ (j:Nat) (x:Nt),Xg xs t≤j→xs[j]? =some x→Y5 t x<0:=fun j x hj hx=>by
  have hl:=(List.getElem?_eq_some_iff.1 hx).1;have h2:xs[Xg xs t]? =some xs[Xg xs t]:=List.getElem?_eq_getElem kB;have h3:=zgO h2;have h4:=hc _ h2 (by rw [←zcC h2];exact hd);have h5:Y5 t xs[Xg xs t]<0:=(by rw [Uq];omega);rcases Nat.eq_or_lt_of_le hj with rfl | h6
  ·
   rw [h2] at hx;cases hx;exact h5
  ·
   exact VI h5 (h _ _ _ _ h6 h2 hx)
 refine zrF (List.pairwise_append.2 ⟨(zfD h).sublist (List.take_sublist ..),List.pairwise_cons.2 ⟨fun y hy=>?_,(zfD h).sublist (List.drop_sublist ..)⟩,fun x hx y hy=>?_⟩)
 ·
  obtain ⟨j,hj⟩:=List.mem_iff_getElem?.1 hy;rw [List.getElem?_drop] at hj;exact hgt _ _ kB hj
 ·
  obtain ⟨i,hi⟩:=List.mem_iff_getElem?.1 hx;have hil:=(List.getElem?_eq_some_iff.1 hi).1;rw [List.length_take] at hil;rw [List.getElem?_take_of_lt kB] at hi;have h7:=zhu (t:=t) kB hi;rcases List.mem_cons.1 hy with rfl | hy
  ·
   exact h7
  ·
   obtain ⟨j,hj⟩:=List.mem_iff_getElem?.1 hy;rw [List.getElem?_drop] at hj;exact VI h7 (hgt _ _ kB hj)
theorem zbd {y:Nt}(hd:zfF xs t=false):y∈zmG xs t↔y=t∨y∈xs:=by
 rw [zdK hd,List.mem_append,List.mem_cons];have e:y∈xs↔y∈xs.take (Xg xs t)∨y∈xs.drop (Xg xs t):=(by rw [←List.mem_append,List.take_append_drop]);rw [e];constructor
 ·
  rintro (h | h | h)
  ·
   exact .inr (.inl h)
  ·
   exact .inl h
  ·
   exact .inr (.inr h)
 ·
  rintro (h | h | h)
  ·
   exact .inr (.inl h)
  ·
   exact .inl h
  ·
   exact .inr (.inr h)
theorem zqp (xs:List Nt)(t:Nt):(zmG xs t).length≤xs.length+1:=by
 unfold zmG;have:=zev xs t;split
 ·
  omega
 ·
  simp;omega
variable{p:Nt→Prop}
theorem ziQ (h:∀ x∈xs,p x)(ht:p t):∀ x∈zmG xs t,p x:=fun x hx=>by
 cases hd:zfF xs t with
 | true=>rw [zeh hd] at hx;exact h x hx
 | false=>
  rcases (zbd hd).1 hx with rfl | hx
  ·
   exact ht
  ·
   exact h x hx
variable{I:Qv}{av a:Option Addr}{n c m:Nat}
theorem zen {c2:Nat}(hP:UV I av n c xs)(hT:NtM I t)(hR:Sl I 45 Q7 a m c2 (xs.take k++t::xs.drop k))(hk:Xg xs t=k)(hh:zfF xs t=false):UV I a m c2 (zmG xs t):=
 ⟨by rw [zdK hh,hk];exact hR,ziQ (p:=fun x=>Nd I x.pt) hP.nd hT.nd,ziQ (p:=fun x=>QO x=true→NtM I x) hP.m fun _=>hT⟩
theorem zsF:Fun Tryz.prog 88:=.of Tryz.func88 kA kA
theorem zi1 (x y:Nt)(hX:NtM I x)(hY:NtM I y):Y7 Tryz.prog 88 [Kj x,Kj y] I [] (fun v _I' L'=>L'=[]∧v= .bool (decide (Y5 x y<0))):=by
 intro g H w hw;refine qe Tryz.func88 Tryz.ntmps88 hw ?_;have hIc:=zCA I;refine zR<|QQ rfl rfl rfl (fun b_2=>QQ rfl rfl rfl (fun b_3=>zA (Qb<|QH .here (fun I1 hI1 hb1=>?_))))
 have hX:=hX.mono hI1;have hY:=hY.mono hI1;have hIc:=hIc.trans hI1;have h3:=BxI.of hb1;refine QH .here (fun I2 hI2 hb2=>?_);have hX:=hX.mono hI2;have hY:=hY.mono hI2;have h3:=h3.mono hI2;have hIc:=hIc.trans hI2;have h2:=BxI.of hb2;refine Qc (Qm ?_);have hD:=zCA I2;refine Zm<|QI I2 [] mixed<|zT 0 rfl (Qg rfl Q8 (fun hg=>by exact BxI.cells (vs:=Q7 x) h2) rfl) hD ?_
 refine QS 1 3 rfl rfl kA ?_ ?_
 ·
  refine zpc [_] rfl X4 .nil (Xz x hX.nd hX.nn hX.ok hX.len) ?_;rintro vv3 I3 L3 hI3 ⟨rfl,a1,c1,rfl,hS1⟩;have hY:=hY.mono hI3;have h3:=h3.mono hI3;have hIc:=hIc.trans hI3;have hD:=hD.trans hI3;refine Qb<|zD hD ?_
  refine QS 2 3 rfl rfl kA ?_ ?_
  ·
   refine zV (Zp rfl bst (fun hg=>hS1))<|Qb<|zD hD<|qd 3 rfl<|zV (Qg rfl Q8 (fun hg=>by exact BxI.cells (vs:=Q7 y) h3) rfl)<|Qb<|zD hD<|qd 4 rfl<|zpc [_] rfl X4 .nil (Xz y hY.nd hY.nn hY.ok hY.len) ?_
   rintro vv4 I4 L4 hI4 ⟨rfl,a2,c2,rfl,hS2⟩;have hIc:=hIc.trans hI4;have hD:=hD.trans hI4;exact Qb<|zD hD<|qd 5 rfl<|zV (Zp rfl bst (fun hg=>hS2))<|Qb<|zD hD<|zT 6 rfl (Xd rfl rfl) hD<|zT 7 rfl (Qy rfl) hD<|Qo kA<|Qw<|Qc (Qs<|QA rfl rfl (fun w hw=>⟨_,I4,[],rfl,hIc,hw.subL Qx,rfl,rfl⟩))
  refine zV (Qg rfl Q8 (fun hg=>by exact BxI.cells (vs:=Q7 y) h3) rfl)<|Qb<|zD hD ?_
  refine QS 2 4 rfl rfl kA ?_ ?_
  ·
   refine zV (Zp rfl bst (fun hg=>hS1))<|Qb<|zD hD<|qd 4 rfl<|zpc [_] rfl X4 .nil (Xz y hY.nd hY.nn hY.ok hY.len) ?_
   rintro vv5 I5 L5 hI5 ⟨rfl,a2,c2,rfl,hS2⟩;have hIc:=hIc.trans hI5;have hD:=hD.trans hI5;exact Qb<|zD hD<|qd 5 rfl<|zV (Zp rfl bst (fun hg=>hS2))<|Qb<|zD hD<|zT 6 rfl (Xd rfl rfl) hD<|zT 7 rfl (Qy rfl) hD<|Qo kA<|Qw<|Qc (Qs<|QA rfl rfl (fun w hw=>⟨_,I5,[],rfl,hIc,hw.subL Qx,rfl,rfl⟩))
  refine zpc [_] rfl X4 .nil (Xz y hY.nd hY.nn hY.ok hY.len) ?_;rintro vv6 I6 L6 hI6 ⟨rfl,a2,c2,rfl,hS2⟩;have hS1:=hS1.mono hI6;have hIc:=hIc.trans hI6;have hD:=hD.trans hI6;refine Qb<|zD hD ?_
  refine QS 2 5 rfl rfl kA ?_ ?_
  ·
   refine zV (Zp rfl bst (fun hg=>hS1))<|Qb<|zD hD<|qd 5 rfl<|zV (Zp rfl bst (fun hg=>hS2))<|Qb<|zD hD<|zT 6 rfl (Xd rfl rfl) hD<|zT 7 rfl (Qy rfl) hD<|Qo kA<|Qw<|Qc (Qs ?_)
   exact QA rfl rfl (fun w hw=>⟨_,I6,[],rfl,hIc,hw.subL Qx,rfl,rfl⟩)
  refine zV (Zp rfl bst (fun hg=>hS2))<|Qb<|zD hD<|qd 2 rfl<|zV (Zp rfl bst (fun hg=>hS1))<|Qb<|zD hD<|zT 6 rfl (Xd rfl rfl) hD<|zT 7 rfl (Qy rfl) hD<|Qo kA<|Qw<|Qc (Qs ?_)
  exact QA rfl rfl (fun w hw=>⟨_,I6,[],rfl,hIc,hw.subL Qx,rfl,rfl⟩)
 refine zV (Qg rfl Q8 (fun hg=>by exact BxI.cells (vs:=Q7 y) h3) rfl)<|Qb<|zD hD<|qd 1 rfl<|zpc [_] rfl X4 .nil (Xz x hX.nd hX.nn hX.ok hX.len) ?_
 rintro vv7 I7 L7 hI7 ⟨rfl,a1,c1,rfl,hS1⟩;have hY:=hY.mono hI7;have hIc:=hIc.trans hI7;have hD:=hD.trans hI7;refine Qb<|zD hD ?_
 refine QS 2 4 rfl rfl kA ?_ ?_
 ·
  refine zV (Zp rfl bst (fun hg=>hS1))<|Qb<|zD hD<|qd 4 rfl<|zpc [_] rfl X4 .nil (Xz y hY.nd hY.nn hY.ok hY.len) ?_
  rintro vv8 I8 L8 hI8 ⟨rfl,a2,c2,rfl,hS2⟩;have hIc:=hIc.trans hI8;have hD:=hD.trans hI8;exact Qb<|zD hD<|qd 5 rfl<|zV (Zp rfl bst (fun hg=>hS2))<|Qb<|zD hD<|zT 6 rfl (Xd rfl rfl) hD<|zT 7 rfl (Qy rfl) hD<|Qo kA<|Qw<|Qc (Qs<|QA rfl rfl (fun w hw=>⟨_,I8,[],rfl,hIc,hw.subL Qx,rfl,rfl⟩))
 refine zpc [_] rfl X4 .nil (Xz y hY.nd hY.nn hY.ok hY.len) ?_;rintro vv9 I9 L9 hI9 ⟨rfl,a2,c2,rfl,hS2⟩;have hS1:=hS1.mono hI9;have hIc:=hIc.trans hI9;have hD:=hD.trans hI9;refine Qb<|zD hD ?_
 refine QS 2 5 rfl rfl kA ?_ ?_
 ·
  refine zV (Zp rfl bst (fun hg=>hS1))<|Qb<|zD hD<|qd 5 rfl<|zV (Zp rfl bst (fun hg=>hS2))<|Qb<|zD hD<|zT 6 rfl (Xd rfl rfl) hD<|zT 7 rfl (Qy rfl) hD<|Qo kA<|Qw<|Qc (Qs ?_)
  exact QA rfl rfl (fun w hw=>⟨_,I9,[],rfl,hIc,hw.subL Qx,rfl,rfl⟩)
 refine zV (Zp rfl bst (fun hg=>hS2))<|Qb<|zD hD<|qd 2 rfl<|zV (Zp rfl bst (fun hg=>hS1))<|Qb<|zD hD<|zT 6 rfl (Xd rfl rfl) hD<|zT 7 rfl (Qy rfl) hD<|Qo kA<|Qw<|Qc (Qs ?_)
 exact QA rfl rfl (fun w hw=>⟨_,I9,[],rfl,hIc,hw.subL Qx,rfl,rfl⟩)
theorem zp9 (hP:UV I av n c xs)(hM:∀ x∈xs,NtM I x)(hT:NtM I t)(hn:n<4096):Y7 Tryz.prog 84 [.slice av n c,Kj t] I [] (fun v I' L'=>L'=[]∧∃ a m c,v= .tuple #[.slice a m c,.int .i64 0]∧UV I' a m c (zmG xs t)):=by
 intro g H w hw;refine qe Tryz.func84 Tryz.ntmps84 hw ?_;have hIc:=zCA I;have hln:=hP.sl.len;have hcap:=hP.sl.cap;refine zR<|QQ rfl rfl rfl (fun b_3=>zA<|zA (Qb<|QH .here (fun I1 hI1 hb1=>?_)))
 have hP:=hP.mono hI1;have hT:=hT.mono hI1;have hIc:=hIc.trans hI1;have h3:=BxI.of hb1;refine Qc (zR (zA (zN ?_)));refine zY [(0,_),(3,_)] (fun T L0 E I' loc'=>∃ (k:Nat),E=(6,.int .i64 k)::T∧HLe I1 I'∧L0=loc'∧Xg xs t=k∧k≤n) ?_ ?_
 ·
  have hK0:=zCA I1;refine Qr<|zU [(0,_),(3,_)] (fun T L0 mz E I' loc'=>∃ (k:Nat),mz=n-k∧E=(6,.int .i64 k)::T∧HLe I1 I'∧L0=loc'∧k≤n∧(∀ (j:Nat) (x:Nt),j<k→xs[j]? =some x→Y5 x t<0)) ?_ (h:=⟨0,rfl,rfl,zCA _,rfl,Nat.zero_le _,fun j x h=>absurd h (Nat.not_lt_zero _)⟩)
  rintro mz E J2 loc' ⟨k,rfl,rfl,hJ,rfl,hk,hall⟩;have hP:=hP.mono hJ;have hT:=hT.mono hJ;have h3:=h3.mono hJ;have hIc:=hIc.trans hJ;have hK0:=hK0.trans hJ;have hB0:=hJ;refine Qm (Qm ?_);rcases Nat.lt_or_ge k n with hkn | hkn
  ·
   obtain ⟨x,hx⟩:∃ y,xs[k]? =some y:=⟨_,List.getElem?_eq_getElem kB⟩;have hxm:=List.mem_of_getElem? hx;have hD:=zCA J2;refine Zm<|QI J2 [] mixed<|zT 0 rfl (Qe rfl) hD<|zT 1 rfl (Qe rfl) hD<|zT 2 rfl (QV rfl QZ) hD<|zT 3 rfl (QE rfl rfl rfl) hD ?_
   rw [show decide (((k:Nat):Int)<((n:Nat):Int))=true by simp;omega];refine zT 4 rfl (Qe rfl) hD<|zw 5 11 rfl (Qe rfl) hD<|zw 6 11 rfl (Qe rfl) hD<|zw 7 11 rfl (QC rfl rfl QZ hP.sl (fun hg=>kB)) hD<|zw 8 11 rfl (Qg rfl Q8 (fun hg=>by exact zCB hP.sl hx) rfl) hD<|zw 9 11 rfl (Qg rfl Q8 (fun hg=>by exact BxI.cells (vs:=Q7 t) h3) rfl) hD<|qd 10 rfl<|QM (dj:=11) rfl rfl rfl<|zpc [_,_] rfl zsF .nil (zi1 x t ((hM x hxm).mono hIc) hT) ?_
   rintro vv3 I3 L3 hI3 ⟨rfl,rfl⟩;have hK0:=hK0.trans hI3;have hB0:=hB0.trans hI3;have hD:=hD.trans hI3;refine Qb<|zD hD<|zT 11 rfl (QY rfl rfl rfl) hD<|Qo kA<|Qw<|Qc ?_
   refine zI ?_ ?_<;>intro hc18
   ·
    have hbt:Y5 x t<0:=(by simpa using hc18);refine Qp (Qc (Qr (Qh (zM ?_))));exact zB<|zA (Qb (Qi<|zm (h:=⟨n-(k+1),kB,k+1,rfl,rfl,hB0,rfl,kB,zvT hall hx hbt⟩)))
   have hkp:Xg xs t=k:=zoa hall kB (fun y hy=>by rw [hx] at hy;cases hy;simpa using hc18);exact Q6 (Ql (Ql (Qq<|zm (h:=⟨_,rfl,hK0,rfl,hkp,hk⟩))))
  have hD:=zCA J2;refine Zm<|QI J2 [] mixed<|zT 0 rfl (Qe rfl) hD<|zT 1 rfl (Qe rfl) hD<|zT 2 rfl (QV rfl QZ) hD<|zT 3 rfl (QE rfl rfl rfl) hD ?_
  rw [show decide (((k:Nat):Int)<((n:Nat):Int))=false by simp;omega];refine zT 4 rfl (Qe rfl) hD ?_;refine zW 5 11 hD ?_;refine zW 6 11 hD ?_;refine zW 7 11 hD ?_;refine zW 8 11 hD ?_;refine zW 9 11 hD ?_;refine zW 10 11 hD<|zT 11 rfl (Yg rfl rfl rfl) hD<|Qo kA<|Qw<|Qc ?_
  refine zI ?_ ?_<;>intro hc18
  ·
   cases hc18
  have hkp:Xg xs t=k:=zoa hall kB (fun y hy=>by have h:=(List.getElem?_eq_some_iff.1 hy).1;omega);exact Q6 (Ql (Ql (Qq<|zm (h:=⟨_,rfl,hK0,rfl,hkp,hk⟩))))
 rintro E J4 loc' ⟨k,rfl,hJ5,rfl,hkp,hk⟩;have hP:=hP.mono hJ5;have hT:=hT.mono hJ5;have h3:=h3.mono hJ5;have hIc:=hIc.trans hJ5;refine zY [(0,_),(3,_),(6,_)] (fun T L0 E I' loc'=>E=T∧HLe J4 I'∧L0=loc'∧zfF xs t=false) ?_ ?_
 ·
  have hKc4:=zCA J4;refine Qm ?_;rcases Nat.lt_or_ge k n with hkn | hkn
  ·
   obtain ⟨x,hx⟩:∃ y,xs[k]? =some y:=⟨_,List.getElem?_eq_getElem kB⟩;have hxm:=List.mem_of_getElem? hx;have hD:=zCA J4;refine Xb mixed<|zT 0 rfl (Qe rfl) hD<|zT 1 rfl (Qe rfl) hD<|zT 2 rfl (QV rfl QZ) hD<|zT 3 rfl (QE rfl rfl rfl) hD ?_
   rw [show decide (((k:Nat):Int)<((n:Nat):Int))=true by simp;omega];refine zT 4 rfl (Qe rfl) hD<|zw 5 25 rfl (Qe rfl) hD<|zw 6 25 rfl (Qe rfl) hD<|zw 7 25 rfl (QC rfl rfl QZ hP.sl (fun hg=>kB)) hD<|zw 8 25 rfl (Qg rfl Q8 (fun hg=>by exact zCB hP.sl hx) rfl) hD<|zw 9 25 rfl (Qg rfl Q8 (fun hg=>by exact BxI.cells (vs:=Q7 t) h3) rfl) hD<|qd 10 rfl<|QM (dj:=25) rfl rfl rfl<|qcV (vs:=[_,_]) rfl zsC (zzu (hP.nd x hxm) hT.nd (hM x hxm).nn)<|Qb<|zD hD<|zT 11 rfl (QY rfl rfl rfl) hD ?_
   refine Qo kA<|Qw<|Qc ?_
   refine zI ?_ ?_<;>intro hc32
   ·
    have hh:zfF xs t=true:=(by rw [zcC (by rw [hkp];exact hx)];exact hc32);refine zR (zM<|zA<|zA (zN (Qs (Qf ?_))));exact Y2 rfl rfl rfl (fun w hw=>⟨_,J4,[],rfl,hIc,hw.subL Qx,rfl,_,_,_,rfl,by rw [zeh hh];exact hP⟩)
   have hh:zfF xs t=false:=(by rw [zcC (by rw [hkp];exact hx)];simpa using hc32);exact Qp<|zm (h:=⟨rfl,hKc4,rfl,hh⟩)
  have hD:=zCA J4;refine Xb mixed<|zT 0 rfl (Qe rfl) hD<|zT 1 rfl (Qe rfl) hD<|zT 2 rfl (QV rfl QZ) hD<|zT 3 rfl (QE rfl rfl rfl) hD ?_
  rw [show decide (((k:Nat):Int)<((n:Nat):Int))=false by simp;omega];refine zT 4 rfl (Qe rfl) hD ?_;refine zW 5 25 hD ?_;refine zW 6 25 hD ?_;refine zW 7 25 hD ?_;refine zW 8 25 hD ?_;refine zW 9 25 hD ?_;refine zW 10 25 hD<|zT 11 rfl (Yg rfl rfl rfl) hD<|Qo kA<|Qw<|Qc ?_
  refine zI ?_ ?_<;>intro hc32
  ·
   cases hc32
  have hh:zfF xs t=false:=zmD kB;exact Qp<|zm (h:=⟨rfl,hKc4,rfl,hh⟩)
 rintro E J5 loc' ⟨rfl,hJ7,rfl,hh⟩;have hP:=hP.mono hJ7;have hT:=hT.mono hJ7;have h3:=h3.mono hJ7;have hIc:=hIc.trans hJ7;refine Qm (zR (zM<|zQ QZ<|zC (zN ?_)));refine zI ?_ ?_<;>intro hc36
 ·
  have h:=hc36;simp at h;omega
 refine Qp (Qc (Qm ?_));have hD:=zCA J5;refine Zm<|QI J5 [] mixed<|zT 1 rfl (Qe rfl) hD<|zT 2 rfl (Qe rfl) hD<|zT 3 rfl (Vf rfl rfl QZ (fun hg=>kB)) hD<|zT 5 rfl (Qg rfl Q8 (fun hg=>by exact BxI.cells (vs:=Q7 t) h3) rfl) hD<|zT 8 rfl (Qe rfl) hD<|zT 9 rfl (Qe rfl) hD<|zT 10 rfl (YS rfl rfl QZ (fun hg=>kB)) hD ?_
 refine QS 0 6 rfl rfl kA ?_ ?_
 ·
  refine zpb [] [] ZH (fun b_37=>Qb<|zD hD ?_);refine QS 4 6 rfl rfl kA ?_ ?_
  ·
   refine zpa (_) ((xs.take k).flatMap Q7) ([(b_37,_)]) rfl rfl ZH ZP.new ((hP.sl.take hk).src Zl) (V8 _) ?_;intro v1 L1 hO1 _;rw [List.nil_append] at hO1;refine Qb<|zD hD<|qd 6 rfl<|zpb [(0,_)] [Q7 t] ZH (fun b_43=>Qb<|zD hD<|qd 7 rfl<|zpa (v1) ([t].flatMap Q7) (L1) rfl rfl ZH hO1 ⟨rfl,fun _=>rfl,by repeat (first | exact zCy | apply zCx | apply zCz)⟩ (V8 [t]) ?_)
   intro v2 L2 hO2 _;refine Qb<|zD hD<|qd 11 rfl<|zpa (v2) ((xs.drop k).flatMap Q7) (L2) rfl rfl ZH hO2 ((hP.sl.drop hk).src Zl) (V8 _) ?_
   intro v3 L3 hO3 _;refine Qb<|zD hD<|zT 12 rfl (Qy rfl) hD<|zT 13 rfl (Qy rfl) hD<|Qo kA<|Qw<|XN (xs:=xs.take k++t::xs.drop k) kM Zl kD (by repeat (first | exact .cons .here .nil | exact Zb | exact QR | apply Q0 | apply QX)) (fun I6 hI6 af6 cf6 ef6 hR=>?_)
   subst ef6;have hP:=hP.mono hI6;have hT:=hT.mono hI6;have hIc:=hIc.trans hI6;exact Qc (Qs<|Y2 rfl rfl rfl (fun w hw=>⟨_,I6,[],rfl,hIc,hw.subL Qx,rfl,_,_,_,rfl,zen hP hT hR hkp hh⟩))
  refine zpb [(0,_)] [Q7 t] ZH (fun b_43=>Qb<|zD hD<|qd 4 rfl<|zpa (_) ((xs.take k).flatMap Q7) ([(b_37,_)]) rfl rfl ZH ZP.new ((hP.sl.take hk).src Zl) (V8 _) ?_);intro v1 L1 hO1 _;rw [List.nil_append] at hO1;refine Qb<|zD hD<|qd 7 rfl<|zpa (v1) ([t].flatMap Q7) (L1) rfl rfl ZH hO1 ⟨rfl,fun _=>rfl,by repeat (first | exact zCy | apply zCx | apply zCz)⟩ (V8 [t]) ?_
  intro v2 L2 hO2 _;refine Qb<|zD hD<|qd 11 rfl<|zpa (v2) ((xs.drop k).flatMap Q7) (L2) rfl rfl ZH hO2 ((hP.sl.drop hk).src Zl) (V8 _) ?_
  intro v3 L3 hO3 _;refine Qb<|zD hD<|zT 12 rfl (Qy rfl) hD<|zT 13 rfl (Qy rfl) hD<|Qo kA<|Qw<|XN (xs:=xs.take k++t::xs.drop k) kM Zl kD (by repeat (first | exact .cons .here .nil | exact Zb | exact QR | apply Q0 | apply QX)) (fun I7 hI7 af7 cf7 ef7 hR=>?_)
  subst ef7;have hP:=hP.mono hI7;have hT:=hT.mono hI7;have hIc:=hIc.trans hI7;exact Qc (Qs<|Y2 rfl rfl rfl (fun w hw=>⟨_,I7,[],rfl,hIc,hw.subL Qx,rfl,_,_,_,rfl,zen hP hT hR hkp hh⟩))
 refine zpb [(0,_)] [Q7 t] ZH (fun b_43=>Qb<|zD hD<|qd 0 rfl<|zpb [] [] ZH (fun b_37=>Qb<|zD hD<|qd 4 rfl<|zpa (_) ((xs.take k).flatMap Q7) ([(b_37,_)]) rfl rfl ZH ZP.new ((hP.sl.take hk).src Zl) (V8 _) ?_));intro v1 L1 hO1 _;rw [List.nil_append] at hO1;refine Qb<|zD hD<|qd 7 rfl<|zpa (v1) ([t].flatMap Q7) (L1) rfl rfl ZH hO1 ⟨rfl,fun _=>rfl,by repeat (first | exact zCy | apply zCx | apply zCz)⟩ (V8 [t]) ?_
 intro v2 L2 hO2 _;refine Qb<|zD hD<|qd 11 rfl<|zpa (v2) ((xs.drop k).flatMap Q7) (L2) rfl rfl ZH hO2 ((hP.sl.drop hk).src Zl) (V8 _) ?_
 intro v3 L3 hO3 _;refine Qb<|zD hD<|zT 12 rfl (Qy rfl) hD<|zT 13 rfl (Qy rfl) hD<|Qo kA<|Qw<|XN (xs:=xs.take k++t::xs.drop k) kM Zl kD (by repeat (first | exact .cons .here .nil | exact Zb | exact QR | apply Q0 | apply QX)) (fun I8 hI8 af8 cf8 ef8 hR=>?_)
 subst ef8;have hP:=hP.mono hI8;have hT:=hT.mono hI8;have hIc:=hIc.trans hI8;exact Qc (Qs<|Y2 rfl rfl rfl (fun w hw=>⟨_,I8,[],rfl,hIc,hw.subL Qx,rfl,_,_,_,rfl,zen hP hT hR hkp hh⟩))
theorem zeP (I:Qv):UV I none 0 0 []:=⟨.nil,fun x hx=>(by cases hx),fun x hx=>(by cases hx)⟩
theorem zxd:Fun Tryz.prog 84:=.of Tryz.func84 kA kA
variable{α β:Type}{f:α→β}{y:α}
theorem zsq {xs ys:List α}(h:xs.map f=ys.map f){x:α}(hx:xs[k]? =some x)(hy:ys[k]? =some y):f x=f y:=by
 have:=congrArg (·[k]?) h;simp only [List.getElem?_map,hx,hy,Option.map_some,Option.some.injEq] at this;exact this
theorem zkZ {xs ys:List α}(h:xs.map f=ys.map f):xs.length=ys.length:=by
 have:=congrArg List.length h;simpa using this
variable{d:Nat}{ys:List Nt}
theorem zp4 {b:Option Addr}(hS:UV I a n c xs)(hT:UV I b m d ys)(h:xs.map Yx=ys.map Yx):smL xs ys=true:=
 (zg6 hS.nd hT.nd).2 h
variable{bv:Option Addr}
theorem zAF (hS:UV I av n c xs)(hT:UV I bv m d ys)(h:xs.map Yx=ys.map Yx)(hsm:∀ x∈xs,x.pt.n≤100000)(hn:n≤100000):ZF Tryz.prog 31 [.slice av n c,.slice bv m d] I (.bool true):=by
 have h2:=zzA hS.sl hT.sl hS.nd hT.nd hsm hn;rw [zp4 hS hT h] at h2;exact h2
def zvx (p:Pt):Pt:={p with a:=none,n:=p.needs.length,c:=0}
section
variable {α:Type} {num:Nt→Int} {prt:Nt→α} {kind:Int} {chk:List α→Int} {d:α} {f:α→α}
theorem zbp (xs:List Nt):(zcY num prt kind chk d xs).length≤xs.length:=by
 have k1:∀ (xs:List Nt) (m:List (Int×α)),(xs.foldl (Xe num prt kind) m).length≤m.length+xs.length:=by
  intro xs
  induction xs with
  | nil=>intro m;simp
  | cons x xs ih=>
   intro m;rw [List.foldl_cons];have h1:(Xe num prt kind m x).length≤m.length+1:=(by unfold Xe;split<;>simp);have:=ih (Xe num prt kind m x);simp only [List.length_cons];omega
 have k2:∀ (ns:List Int) (m:List (Int×α)) (l:List α),(ns.foldl (zeV chk d m) l).length≤l.length+ns.length:=by
  intro ns m
  induction ns with
  | nil=>intro l;simp
  | cons n ns ih=>
   intro l;rw [List.foldl_cons];have h1:(zeV chk d m l n).length≤l.length+1:=(by unfold zeV;split<;>simp);have:=ih (zeV chk d m l n);simp only [List.length_cons];omega
 unfold zcY zgw;have h1:=k2 (UO ((Z9 num prt kind xs).map (·.1))) (Z9 num prt kind xs) [];have h2:=k1 xs [];rw [zol,List.length_map] at h1;simp only [List.length_nil,Nat.zero_add] at h1 h2;unfold Z9 at h1;exact Nat.le_trans h1 h2
end
theorem zm2 (h:∀ x∈xs,x.pt.n≤100000):∀ p∈wPt xs,p.n≤100000:=fun p hp=>by
 rcases zdT p hp with rfl | ⟨x,hx,rfl⟩
 ·
  exact Nat.zero_le _
 ·
  exact h x hx
theorem ztO {p q:Pt}(hp:Nd I p)(hq:Nd I q)(h:zvx p=zvx q):smP p q=true:=by
 have l1:p.needs.length=p.n:=hp.len;have l2:q.needs.length=q.n:=hq.len;obtain ⟨i,kd,s,fd,nw,a,n,c,nd⟩:=p;obtain ⟨i',kd',s',fd',nw',a',n',c',nd'⟩:=q;simp only [zvx,Pt.mk.injEq] at h;obtain ⟨rfl,rfl,rfl,rfl,rfl,_,h2,_,rfl⟩:=h;dsimp only at l1 l2;subst l1;subst l2;unfold smP smC;have e:zjW nw nw=true:=XR.2 rfl;simp [e]
/-! ### Everybody sends to everybody -/
theorem zAa:Fun Tryz.prog 26:=.of Tryz.func26 kA kA
theorem zyR:Fun Tryz.prog 27:=.of Tryz.func27 kA kA
theorem zyb:Fun Tryz.prog 28:=.of Tryz.func28 kA kA
theorem zwO:Fun Tryz.prog 29:=.of Tryz.func29 kA kA
theorem zAD {xs:List Lm}(hS:Sl I 9 Zi av n c xs)(hT:Sl I 9 Zi bv m d xs)(hn:n≤100000):ZF Tryz.prog 26 [.slice av n c,.slice bv m d] I (.bool true):=by
 intro g H w hw;refine qe Tryz.func26 Tryz.ntmps26 hw ?_;have hl1:=hS.len;have hl2:=hT.len;refine zR (zA (zN (Qm (zR ?_))));refine zM ?_;refine zQ ZO ?_;refine zM ?_;refine zQ ZO<|zC (zN ?_)
 refine zI ?_ ?_<;>intro hc10
 ·
  have h:=hc10;simp at h;omega
 refine Qp (Qc (Qm (zR (zA (zN (Qr<|zU [(0,_),(1,_)] (fun T L0 mz E I' loc'=>∃ (k:Nat),mz=n-k∧E=(5,.int .i64 k)::T∧I=I'∧L0=loc'∧k≤n) ?_ (h:=⟨0,rfl,rfl,rfl,rfl,Nat.zero_le _⟩)))))));rintro mz E I' loc' ⟨k,rfl,rfl,rfl,rfl,hk⟩;refine Qm (zR (zM<|zM ?_));refine zQ ZO<|zC (zN ?_)
 refine zI ?_ ?_<;>intro hc14
 ·
  have hlt_k:k<n:=(by have h:=hc14;simp at h;omega);obtain ⟨x,hx⟩:∃ y,xs[k]? =some y:=⟨_,List.getElem?_eq_getElem kB⟩;refine Qp (Qc (Qm (Qr (Qm ?_))));have hD:=zCA I;refine Xb mixed<|zT 0 rfl (Qe rfl) hD<|zT 1 rfl (Qe rfl) hD<|zT 2 rfl (zX ZO hS) hD<|zT 3 rfl (Qg rfl Jr (fun hg=>by exact zCB hS hx) rfl) hD<|zT 4 rfl (Qe rfl) hD<|zT 5 rfl (Qe rfl) hD<|zT 6 rfl (zX ZO hT) hD<|zT 7 rfl (Qg rfl Jr (fun hg=>by exact zCB hT hx) rfl) hD<|zT 8 rfl (zhk rfl rfl zeA rfl) hD<|Qo kA<|Qw ?_
  refine Qc ?_;refine zI ?_ ?_<;>intro hc25
  ·
   exact absurd hc25 (by simp)
  refine Qp (Qi (Qc (Qh (zM ?_))));exact zB<|zA (Qb<|zm (h:=⟨n-(k+1),kB,k+1,rfl,rfl,rfl,rfl,kB⟩))
 have hge_k:n≤k:=(by have h:=hc14;simp at h;omega);refine Q6 (Ql (Ql (Qq (Qc (zR (zA (zN<|Qs ?_)))))));exact QA rfl rfl (fun w hw=>⟨by rfl,hw⟩)
theorem zBj {xs:List L.Ls}(hS:Sl I 5 L.encL av n c xs)(hT:Sl I 5 L.encL bv m d xs)(hn:n≤100000):ZF Tryz.prog 27 [.slice av n c,.slice bv m d] I (.bool true):=by
 intro g H w hw;refine qe Tryz.func27 Tryz.ntmps27 hw ?_;have hl1:=hS.len;have hl2:=hT.len;refine zR (zA (zN (Qm (zR ?_))));refine zM ?_;refine zQ Jj ?_;refine zM ?_;refine zQ Jj<|zC (zN ?_)
 refine zI ?_ ?_<;>intro hc10
 ·
  have h:=hc10;simp at h;omega
 refine Qp (Qc (Qm (zR (zA (zN (Qr<|zU [(0,_),(1,_)] (fun T L0 mz E I' loc'=>∃ (k:Nat),mz=n-k∧E=(5,.int .i64 k)::T∧I=I'∧L0=loc'∧k≤n) ?_ (h:=⟨0,rfl,rfl,rfl,rfl,Nat.zero_le _⟩)))))));rintro mz E I' loc' ⟨k,rfl,rfl,rfl,rfl,hk⟩;refine Qm (zR (zM<|zM ?_));refine zQ Jj<|zC (zN ?_)
 refine zI ?_ ?_<;>intro hc14
 ·
  have hlt_k:k<n:=(by have h:=hc14;simp at h;omega);obtain ⟨x,hx⟩:∃ y,xs[k]? =some y:=⟨_,List.getElem?_eq_getElem kB⟩;refine Qp (Qc (Qm (Qr (Qm ?_))));have hD:=zCA I;refine Xb mixed<|zT 0 rfl (Qe rfl) hD<|zT 1 rfl (Qe rfl) hD<|zT 2 rfl (zX Jj hS) hD<|zT 3 rfl (Qg rfl Jp (fun hg=>by exact zCB hS hx) rfl) hD<|zT 4 rfl (Qe rfl) hD<|zT 5 rfl (Qe rfl) hD<|zT 6 rfl (zX Jj hT) hD<|zT 7 rfl (Qg rfl Jp (fun hg=>by exact zCB hT hx) rfl) hD<|zT 8 rfl (ze5 rfl rfl zeW rfl) hD<|Qo kA<|Qw ?_
  refine Qc ?_;refine zI ?_ ?_<;>intro hc25
  ·
   exact absurd hc25 (by simp)
  refine Qp (Qi (Qc (Qh (zM ?_))));exact zB<|zA (Qb<|zm (h:=⟨n-(k+1),kB,k+1,rfl,rfl,rfl,rfl,kB⟩))
 have hge_k:n≤k:=(by have h:=hc14;simp at h;omega);refine Q6 (Ql (Ql (Qq (Qc (zR (zA (zN<|Qs ?_)))))));exact QA rfl rfl (fun w hw=>⟨by rfl,hw⟩)
theorem zAQ {xs:List S.Rt}(hS:Sl I 11 S.encR av n c xs)(hT:Sl I 11 S.encR bv m d xs)(hn:n≤100000):ZF Tryz.prog 29 [.slice av n c,.slice bv m d] I (.bool true):=by
 intro g H w hw;refine qe Tryz.func29 Tryz.ntmps29 hw ?_;have hl1:=hS.len;have hl2:=hT.len;refine zR (zA (zN (Qm (zR ?_))));refine zM ?_;refine zQ Z0 ?_;refine zM ?_;refine zQ Z0<|zC (zN ?_)
 refine zI ?_ ?_<;>intro hc10
 ·
  have h:=hc10;simp at h;omega
 refine Qp (Qc (Qm (zR (zA (zN (Qr<|zU [(0,_),(1,_)] (fun T L0 mz E I' loc'=>∃ (k:Nat),mz=n-k∧E=(5,.int .i64 k)::T∧I=I'∧L0=loc'∧k≤n) ?_ (h:=⟨0,rfl,rfl,rfl,rfl,Nat.zero_le _⟩)))))));rintro mz E I' loc' ⟨k,rfl,rfl,rfl,rfl,hk⟩;refine Qm (zR (zM<|zM ?_));refine zQ Z0<|zC (zN ?_)
 refine zI ?_ ?_<;>intro hc14
 ·
  have hlt_k:k<n:=(by have h:=hc14;simp at h;omega);obtain ⟨x,hx⟩:∃ y,xs[k]? =some y:=⟨_,List.getElem?_eq_getElem kB⟩;refine Qp (Qc (Qm (Qr (Qm ?_))));have hD:=zCA I;refine Xb mixed<|zT 0 rfl (Qe rfl) hD<|zT 1 rfl (Qe rfl) hD<|zT 2 rfl (zX Z0 hS) hD<|zT 3 rfl (Qg rfl YE (fun hg=>by exact zCB hS hx) rfl) hD<|zT 4 rfl (Qe rfl) hD<|zT 5 rfl (Qe rfl) hD<|zT 6 rfl (zX Z0 hT) hD<|zT 7 rfl (Qg rfl YE (fun hg=>by exact zCB hT hx) rfl) hD<|zT 8 rfl (ze5 rfl rfl XL rfl) hD<|Qo kA<|Qw ?_
  refine Qc ?_;refine zI ?_ ?_<;>intro hc25
  ·
   exact absurd hc25 (by simp [JG])
  refine Qp (Qi (Qc (Qh (zM ?_))));exact zB<|zA (Qb<|zm (h:=⟨n-(k+1),kB,k+1,rfl,rfl,rfl,rfl,kB⟩))
 have hge_k:n≤k:=(by have h:=hc14;simp at h;omega);refine Q6 (Ql (Ql (Qq (Qc (zR (zA (zN<|Qs ?_)))))));exact QA rfl rfl (fun w hw=>⟨by rfl,hw⟩)
theorem zwS {p q:Pt}(hP:Nd I p)(hQ:Nd I q)(hn:p.n≤100000)(h:zvx p=zvx q):ZF Tryz.prog 85 [Ko p,Ko q] I (.bool true):=by
 have h2:=zyc hP hQ hn;rw [ztO hP hQ h] at h2;exact h2
theorem zAz {xs ys:List Pt}(hS:SlP I av n c xs)(hT:SlP I bv m d ys)(he:xs.map zvx=ys.map zvx)(hsm:∀ p∈xs,p.n≤100000)(hn:n≤100000):ZF Tryz.prog 28 [.slice av n c,.slice bv m d] I (.bool true):=by
 intro g H w hw;refine qe Tryz.func28 Tryz.ntmps28 hw ?_;have hl1:=hS.1.len;have hl2:=hT.1.len;have hl3:=zkZ he;refine zR (zA (zN (Qm (zR ?_))));refine zM ?_;refine zQ Yk ?_;refine zM ?_;refine zQ Yk<|zC (zN ?_)
 refine zI ?_ ?_<;>intro hc10
 ·
  have h:=hc10;simp at h;omega
 refine Qp (Qc (Qm (zR (zA (zN (Qr<|zU [(0,_),(1,_)] (fun T L0 mz E I' loc'=>∃ (k:Nat),mz=n-k∧E=(5,.int .i64 k)::T∧I=I'∧L0=loc'∧k≤n) ?_ (h:=⟨0,rfl,rfl,rfl,rfl,Nat.zero_le _⟩)))))));rintro mz E I' loc' ⟨k,rfl,rfl,rfl,rfl,hk⟩;refine Qm (zR (zM<|zM ?_));refine zQ Yk<|zC (zN ?_)
 refine zI ?_ ?_<;>intro hc14
 ·
  have hlt_k:k<n:=(by have h:=hc14;simp at h;omega);obtain ⟨x,hx⟩:∃ y,xs[k]? =some y:=⟨_,List.getElem?_eq_getElem kB⟩;obtain ⟨y,hy⟩:∃ y,ys[k]? =some y:=⟨_,List.getElem?_eq_getElem kB⟩;refine Qp (Qc (Qm (Qr (Qm ?_))));have hD:=zCA I;refine Zm<|QI I [] mixed<|zT 0 rfl (Qe rfl) hD<|zT 1 rfl (Qe rfl) hD<|zT 2 rfl (QC rfl rfl Yk hS.1 (fun hg=>kB)) hD<|zT 3 rfl (Qg rfl Y6 (fun hg=>by exact zCB hS.1 hx) rfl) hD<|zT 4 rfl (Qe rfl) hD<|zT 5 rfl (Qe rfl) hD<|zT 6 rfl (QC rfl rfl Yk hT.1 (fun hg=>kB)) hD<|zT 7 rfl (Qg rfl Y6 (fun hg=>by exact zCB hT.1 hy) rfl) hD<|qd 8 rfl<|qcV (vs:=[_,_]) rfl zlz (zwS (hS.2 x (List.mem_of_getElem? hx)) (hT.2 y (List.mem_of_getElem? hy)) (hsm x (List.mem_of_getElem? hx)) (zsq he hx hy)) ?_
  refine Qb<|zD hD<|zT 9 rfl (Zy rfl) hD<|Qo kA<|Qw<|Qc ?_
  refine zI ?_ ?_<;>intro hc26
  ·
   cases hc26
  refine Qp (Qi (Qc (Qh (zM ?_))));exact zB<|zA (Qb<|zm (h:=⟨n-(k+1),kB,k+1,rfl,rfl,rfl,rfl,kB⟩))
 have hge_k:n≤k:=(by have h:=hc14;simp at h;omega);refine Q6 (Ql (Ql (Qq (Qc (zR (zA (zN<|Qs ?_)))))));exact QA rfl rfl (fun w hw=>⟨by rfl,hw⟩)
theorem zwM (cl cn:Int):zgA 1 cl cn=(VF cl 0 2&&VF cn 1 3):=by
 show (if VF cl 0 2 then VF cn 1 3 else false)=_;cases VF cl 0 2<;>rfl
theorem zya (cl cn:Int):zgA 2 cl cn=(VF cl 0 2&&VF cn 1 1048576):=by
 show (if VF cl 0 2 then VF cn 1 1048576 else false)=_;cases VF cl 0 2<;>rfl
theorem zeo (cl:Int):VF cl 0 0=(cl==0):=by
 rw [Bool.eq_iff_iff];simp [VF];omega
theorem zzt (cl cn:Int):zgA 3 cl cn=((cl==0)&&VF cn 1 16):=by
 rw [←zeo];show (if VF cl 0 0 then VF cn 1 16 else false)=_;cases VF cl 0 0<;>rfl
theorem zwY (cl cn:Int):zgA 4 cl cn=((cl==0)&&VF cn 0 16):=by
 rw [←zeo];show (if VF cl 0 0 then VF cn 0 16 else false)=_;cases VF cl 0 0<;>rfl
theorem zxS (cl cn:Int):zgA 5 cl cn=((cl==0)&&VF cn 0 500):=by
 rw [←zeo];show (if VF cl 0 0 then VF cn 0 500 else false)=_;cases VF cl 0 0<;>rfl
theorem zw4 (cl cn:Int):zgA 6 cl cn=((cl==0)&&VF cn 0 1048576):=by
 rw [←zeo];show (if VF cl 0 0 then VF cn 0 1048576 else false)=_;cases VF cl 0 0<;>rfl
theorem zll {ck cl cn:Int}(h1:ck≠1)(h2:ck≠2)(h3:ck≠3)(h4:ck≠4)(h5:ck≠5)(h6:ck≠6):zgA ck cl cn=false:=
 zn7 (by simp [VF];omega)
def okL (y x:Lm):Bool:=((y.no+1==x.ends)&&(y.person==x.person))&&decide (y.known≤x.known)
def zjC (pre:List Lm)(x:Lm):Bool:=if x.ends=0 then true else if pre.any (fun y=>y.ends==x.ends) then false else pre.any (okL · x)
def rA (pre:List Lm)(x:Lm):Bool:=(!VF x.no 0 1048576||(match pre.getLast? with | none=>false | some y=>decide (x.no≤y.no)))|| !VF x.person 0 63
structure zzz (pre:List Lm):Prop where
 rng:∀ y∈pre,0≤y.no∧y.no≤1048576
 inc:pre.Pairwise (fun a b=>a.no<b.no)
 last:∀ y∈pre,y.no≤WP pre
theorem zn1 {xs:List Lm}:∀ {k:Nat},(∀ j y,j<k→xs[j]? =some y→zcQ (xs.take j) y=false)→k≤xs.length→zzz (xs.take k)
 | 0,_,_=>⟨fun y hy=>(by simp at hy),by simp,fun y hy=>(by simp at hy)⟩
 | k+1,h,hk=>by
  have ih:=zn1 (k:=k) (fun j y hj hy=>h j y kB hy) kB;have hx:xs[k]? =some xs[k]:=List.getElem?_eq_getElem kB;have hb:=h k _ kB hx
  have ha:zqD (WP (xs.take k)) xs[k]=false:=by
   unfold zcQ at hb;simp only [Bool.or_eq_false_iff] at hb;exact hb.1.1.1
  unfold zqD at ha;simp only [Bool.or_eq_false_iff,decide_eq_false_iff_not] at ha
  have hl: -1≤WP (xs.take k):=by
   unfold WP
   cases hg:(xs.take k).getLast? with
   | none=>simp
   | some y=>
    have:=ih.rng y (List.mem_of_getLast? hg);simp;omega
  have hno:WP (xs.take k)<xs[k].no:=kB;rw [Za hx];refine ⟨fun y hy=>?_,List.pairwise_append.2 ⟨ih.inc,by simp,fun a ha b hb=>?_⟩,fun y hy=>?_⟩
  ·
   rcases List.mem_append.1 hy with hy | hy
   ·
    exact ih.rng y hy
   ·
    rw [List.mem_singleton.1 hy];omega
  ·
   rw [List.mem_singleton.1 hb];have:=ih.last a ha;omega
  ·
   rw [KG];rcases List.mem_append.1 hy with hy | hy
   ·
    have:=ih.last y hy;omega
   ·
    rw [List.mem_singleton.1 hy];omega
variable{pre:List Lm}{x:Lm}
theorem zAJ (h:zzz pre):zqD (WP pre) x=rA pre x:=by
 unfold zqD rA WP
 cases hg:pre.getLast? with
 | none=>
  simp only [Bool.or_false];congr 1;rw [Bool.eq_iff_iff];simp [VF];omega
 | some y=>
  have:=h.rng y (List.mem_of_getLast? hg);simp only;congr 1;rw [Bool.eq_iff_iff];simp [VF];omega
theorem zer (h:pre.Pairwise (fun a b=>a.no<b.no))(n:Int)(y:Lm):ZD (knM pre) n=some y↔y∈pre∧y.no=n:=by
 have key:∀ (l pre:List Lm),(∀ n y,ZD (knM pre) n=some y↔y∈pre∧y.no=n)→(pre++l).Pairwise (fun a b=>a.no<b.no)→∀ n y,ZD (knM (pre++l)) n=some y↔y∈pre++l∧y.no=n:=by
  intro l
  induction l with
  | nil=>intro pre h _;simpa using h
  | cons x l ih=>
   intro pre h hp;rw [show pre++x::l=(pre++[x])++l by simp] at hp ⊢;refine ih (pre++[x]) (fun n y=>?_) hp;rw [Wq,Jh];have hlt:∀ z∈pre,z.no<x.no:=fun z hz=>(List.pairwise_append.1 (List.pairwise_append.1 hp).1).2.2 z hz x (List.mem_singleton.2 rfl);split
   ·
    rename_i e;subst e;constructor
    ·
     intro e;cases e;simp
    ·
     rintro ⟨hm,e⟩;rcases List.mem_append.1 hm with hm | hm
     ·
      have:=hlt y hm;omega
     ·
      rw [List.mem_singleton.1 hm]
   ·
    rename_i e;rw [h n y];constructor
    ·
     rintro ⟨a,b⟩;exact ⟨List.mem_append_left _ a,b⟩
    ·
     rintro ⟨a,b⟩;rcases List.mem_append.1 a with a | a
     ·
      exact ⟨a,b⟩
     ·
      rw [List.mem_singleton.1 a] at b;exact absurd b e
 have:=key pre [] (fun n y=>by simp [knM,ZD]) (by simpa using h);simpa using this n y
theorem zuC (pre:List Lm)(n:Int):(ZD (rpM pre) n).getD false=pre.any (fun y=>y.ends==n):=by
 have key:∀ (l pre:List Lm),(ZD (rpM pre) n).getD false=pre.any (fun y=>y.ends==n)→(ZD (rpM (pre++l)) n).getD false=(pre++l).any (fun y=>y.ends==n):=by
  intro l
  induction l with
  | nil=>intro pre h;simpa using h
  | cons x l ih=>
   intro pre h;rw [show pre++x::l=(pre++[x])++l by simp];refine ih (pre++[x]) ?_;rw [Wo,Jh,List.any_append];split
   ·
    rename_i e;simp [e]
   ·
    rename_i e;rw [h];simp [e]
 have:=key pre [] (by simp [rpM,ZD]);simpa using this
theorem zu3 (h:zzz pre)(hx: -9223372036854775808≤x.ends∧x.ends≤9223372036854775807):zvS (zhY pre x).isSome ((ZD (rpM pre) x.ends).getD false) ((zhY pre x).getD VP) x= !zjC pre x:=by
 unfold zvS zjC;rw [zuC];by_cases he:x.ends=0
 ·
  simp [he]
 ·
  rw [if_neg he];have hne:(x.ends != 0)=true:=(by simpa using he);rw [hne,Bool.true_and]
  cases hr:pre.any (fun y=>y.ends==x.ends) with
  | true=>simp
  | false=>
   rw [if_neg kJ]
   cases ho:zhY pre x with
   | none=>
    have hno:pre.any (okL · x)=false:=by
     rw [List.any_eq_false];intro y hy;have h1:=h.rng y hy;unfold okL;simp only [Bool.and_eq_true,beq_iff_eq,decide_eq_true_eq,not_and];intro h2 _;exfalso;have:zhY pre x=some y:=(zer h.inc _ _).2 ⟨hy,by rw [YA kB];omega⟩;rw [ho] at this;cases this
    rw [hno];simp
   | some y=>
    obtain ⟨hy,e⟩:=(zer h.inc _ _).1 ho;have h1:=h.rng y hy
    have e2:y.no+1=x.ends:=by
     by_cases hm:x.ends= -9223372036854775808
     ·
      rw [hm] at e;have:IntKind.i64.wrap (-9223372036854775808-1)=9223372036854775807:=by decide
      omega
     ·
      rw [YA kB] at e;omega
    have hall:pre.any (okL · x)=((y.person==x.person)&&decide (y.known≤x.known)):=by
     rw [Bool.eq_iff_iff,List.any_eq_true];constructor
     ·
      rintro ⟨z,hz,hz2⟩;unfold okL at hz2;simp only [Bool.and_eq_true,beq_iff_eq,decide_eq_true_eq] at hz2
      have:z=y:=by
       have h3:=(zer h.inc z.no z).2 ⟨hz,rfl⟩;have h4:=(zer h.inc y.no y).2 ⟨hy,rfl⟩;rw [show z.no=y.no by omega,h4] at h3;cases h3;rfl
      subst this;simp [hz2.1.2,hz2.2]
     ·
      intro h3;refine ⟨y,hy,?_⟩;unfold okL;simp only [Bool.and_eq_true,beq_iff_eq,decide_eq_true_eq] at h3 ⊢;exact ⟨⟨e2,h3.1⟩,h3.2⟩
    rw [hall];simp only [Option.isSome_some,Option.getD_some,Bool.not_true,Bool.false_or];rw [Bool.eq_iff_iff];simp
theorem zl2 (h:x.ends=0):zjC pre x=true:=if_pos h
theorem zq1 {y:Lm}(h:¬x.ends=0)(hy:y∈pre)(e:(y.ends==x.ends)=true):zjC pre x=false:=by
 unfold zjC;rw [if_neg h,if_pos (List.any_eq_true.2 ⟨y,hy,e⟩)]
theorem zpU (h:¬x.ends=0)(hn:pre.any (fun y=>y.ends==x.ends)=false):zjC pre x=pre.any (okL · x):=by
 unfold zjC;rw [if_neg h,if_neg (by rw [hn];simp)]
theorem zbm {xs:List α}{b:Bool}{p:α→Bool}(hy:xs[k]? =some y)(hb:b=(xs.take k).any p):(b||p y)=(xs.take (k+1)).any p:=by rw [zbk hy,hb]
theorem zuL {xs:List Lm}(hk:k≤xs.length):((!VF x.no 0 1048576||(decide ((k:Int)>0)&&decide (x.no≤(xs.getD ((k:Int)-1).toNat VP).no)))|| !VF x.person 0 63)=rA (xs.take k) x:=by
 unfold rA
 cases k with
 | zero=>simp
 | succ k=>
  have hx:xs[k]? =some xs[k]:=List.getElem?_eq_getElem kB;have e1:(((k+1:Nat):Int)-1).toNat=k:=kB;rw [e1,Za hx,List.getLast?_append];simp [List.getD_eq_getElem?_getD,hx]
theorem zmz {xs:List Lm}(hk:k<xs.length):
  (VF x.no 0 1048576=false∧rA (xs.take k) x=true)∨(VF x.no 0 1048576=true∧decide ((k:Int)>0)=false∧rA (xs.take k) x= !VF x.person 0 63)∨
  (∃ y,VF x.no 0 1048576=true∧decide ((k:Int)>0)=true∧xs[((k:Int)-1).toNat]? =some y∧decide (x.no≤y.no)=true∧rA (xs.take k) x=true)∨
  (∃ y,VF x.no 0 1048576=true∧decide ((k:Int)>0)=true∧xs[((k:Int)-1).toNat]? =some y∧decide (x.no≤y.no)=false∧rA (xs.take k) x= !VF x.person 0 63):=by
 have e:=zuL (xs:=xs) (x:=x) (Nat.le_of_lt hk)
 cases hA:VF x.no 0 1048576 with
 | false=>exact .inl ⟨rfl,by rw [←e,hA];simp⟩
 | true=>
  cases hB:decide ((k:Int)>0) with
  | false=>exact .inr (.inl ⟨rfl,rfl,by rw [←e,hA,hB];simp⟩)
  | true=>
   have hl:((k:Int)-1).toNat<xs.length:=kB;have hy:xs[((k:Int)-1).toNat]? =some (xs[((k:Int)-1).toNat]'hl):=List.getElem?_eq_getElem hl;have hd:xs.getD ((k:Int)-1).toNat VP=xs[((k:Int)-1).toNat]'hl:=(by rw [List.getD_eq_getElem?_getD,hy];rfl);rcases Bool.eq_false_or_eq_true (decide (x.no≤(xs[((k:Int)-1).toNat]'hl).no)) with hC | hC
   ·
    exact .inr (.inr (.inl ⟨_,rfl,rfl,hy,hC,by rw [←e,hA,hB,hd,hC];simp⟩))
   ·
    exact .inr (.inr (.inr ⟨_,rfl,rfl,hy,hC,by rw [←e,hA,hB,hd,hC];simp⟩))
theorem zqQ (x:Lm):((!VF x.lo 0 x.hi||decide (x.hi>73048))|| !VF x.known 0 134217727)=zoY x:=by
 unfold zoY;congr 2;rw [Bool.eq_iff_iff];simp [VF]
theorem zxM (h:zzz pre)(hx: -9223372036854775808≤x.ends∧x.ends≤9223372036854775807):zcQ pre x=(((rA pre x||zoY x)||zo4 x)|| !zjC pre x):=by
 unfold zcQ;rw [zAJ h,zu3 h hx]
theorem Uc:Fun Tryz.prog 141:=.of Tryz.func141 kA kA
theorem znf:Fun Tryz.prog 142:=.of Tryz.func142 kA kA
theorem zoH:Fun Tryz.prog 143:=.of Tryz.func143 kA kA
theorem Wl:Fun Tryz.prog 189:=.of Tryz.func189 kA kA
theorem zr4:SzT Tryz.prog 30 3:=.of kA
theorem zyV:Vp Tryz.prog 30 (.agg #[(.int .i64 0),(.int .i64 0),(.int .i64 0)]):=.of kA
theorem K7 (I:Qv)(n lo hi:Int):ZF Tryz.prog 141 [.int .i64 n,.int .i64 lo,.int .i64 hi] I (.bool (VF n lo hi)):=by
 intro g H w hw;refine qe Tryz.func141 Tryz.ntmps141 hw ?_;refine zR (zA<|zN (zR ?_));refine zM ?_;refine zM<|zC<|zM<|Qu 3 rfl rfl rfl ?_
 refine zK (Qe rfl) ?_;refine zK (Qe rfl) ?_;refine zK (QE rfl rfl rfl) ?_;refine QD rfl rfl rfl rfl rfl<|zA (zN (Qs ?_))
 exact QA rfl rfl (fun w hw=>⟨by rfl,hw⟩)
theorem zfL (I:Qv)(n lo hi:Int):ZF Tryz.prog 189 [.int .i64 n,.int .i64 lo,.int .i64 hi] I (.bool (VF n lo hi)):=by
 intro g H w hw;refine qe Tryz.func189 Tryz.ntmps189 hw ?_;refine zR (zA<|zN (zR ?_));refine zM ?_;refine zM<|zC<|zM<|Qu 3 rfl rfl rfl ?_
 refine zK (Qe rfl) ?_;refine zK (Qe rfl) ?_;refine zK (QE rfl rfl rfl) ?_;refine QD rfl rfl rfl rfl rfl<|zA (zN (Qs ?_))
 exact QA rfl rfl (fun w hw=>⟨by rfl,hw⟩)
theorem zr2 (I:Qv)(ck cl cn:Int):ZF Tryz.prog 142 [.agg #[.int .i64 ck,.int .i64 cl,.int .i64 cn]] I (.bool (zgA ck cl cn)):=by
 intro g H w hw;refine qe Tryz.func142 Tryz.ntmps142 hw ?_;have hIc:=zCA I;refine zR<|QQ rfl rfl rfl (fun b_1=>zA (Qb<|QH .here (fun I1 hI1 hb1=>?_)))
 have hIc:=hIc.trans hI1;have h1:=BxI.of hb1;refine Qc (Qm (zR<|zF Xm ?_));refine zV (Qd rfl Qn (fun hg=>by exact Qz.imm h1.out rfl))<|zN (Qr (zR (zC<|zA (zN ?_))))
 refine zI ?_ ?_<;>intro hc5
 ·
  refine zR<|zF JM ?_
  refine zV (Qd rfl Qn (fun hg=>by exact Qz.imm h1.out rfl))<|qcV (vs:=[_,_,_]) rfl Wl (zfL _ _ _ _)<|zM<|Qu 3 rfl rfl rfl ?_
  refine zK (Qa rfl Kz) ?_;refine zK (Qd rfl Qn (fun hg=>by exact Qz.imm h1.out rfl))<|qg (vs:=[_,_,_]) rfl Wl (fun hg=>zfL _ _ _ _)<|QD rfl rfl rfl rfl rfl<|zA (zN (Qs (Qj (Qf ?_))))
  exact QA rfl rfl (fun w hw=>⟨by rw [show ck=1 by simpa using hc5,zwM],(hw.mono hIc).subL Qx⟩)
 have hk1:ck≠1:=(by simpa using hc5);refine zR (zC<|zA (zN ?_));refine zI ?_ ?_<;>intro hc15
 ·
  refine zR<|zF JM ?_
  refine zV (Qd rfl Qn (fun hg=>by exact Qz.imm h1.out rfl))<|qcV (vs:=[_,_,_]) rfl Wl (zfL _ _ _ _)<|zM<|Qu 3 rfl rfl rfl ?_
  refine zK (Qa rfl Kz) ?_;refine zK (Qd rfl Qn (fun hg=>by exact Qz.imm h1.out rfl))<|qg (vs:=[_,_,_]) rfl Wl (fun hg=>zfL _ _ _ _)<|QD rfl rfl rfl rfl rfl<|zA (zN (Qs (Qj (Qf ?_))))
  exact QA rfl rfl (fun w hw=>⟨by rw [show ck=2 by simpa using hc15,zya],(hw.mono hIc).subL Qx⟩)
 have hk2:ck≠2:=(by simpa using hc15);refine zR (zC<|zA (zN ?_));refine zI ?_ ?_<;>intro hc25
 ·
  refine zR<|zF JM ?_
  refine zV (Qd rfl Qn (fun hg=>by exact Qz.imm h1.out rfl))<|zC<|zM<|Qu 3 rfl rfl rfl ?_
  refine zK (Qa rfl Kz) ?_;refine zK (Qd rfl Qn (fun hg=>by exact Qz.imm h1.out rfl))<|qg (vs:=[_,_,_]) rfl Wl (fun hg=>zfL _ _ _ _)<|QD rfl rfl rfl rfl rfl<|zA (zN (Qs (Qj (Qf ?_))))
  exact QA rfl rfl (fun w hw=>⟨by rw [show ck=3 by simpa using hc25,zzt],(hw.mono hIc).subL Qx⟩)
 have hk3:ck≠3:=(by simpa using hc25);refine zR (zC<|zA (zN ?_));refine zI ?_ ?_<;>intro hc35
 ·
  refine zR<|zF JM ?_
  refine zV (Qd rfl Qn (fun hg=>by exact Qz.imm h1.out rfl))<|zC<|zM<|Qu 3 rfl rfl rfl ?_
  refine zK (Qa rfl Kz) ?_;refine zK (Qd rfl Qn (fun hg=>by exact Qz.imm h1.out rfl))<|qg (vs:=[_,_,_]) rfl Wl (fun hg=>zfL _ _ _ _)<|QD rfl rfl rfl rfl rfl<|zA (zN (Qs (Qj (Qf ?_))))
  exact QA rfl rfl (fun w hw=>⟨by rw [show ck=4 by simpa using hc35,zwY],(hw.mono hIc).subL Qx⟩)
 have hk4:ck≠4:=(by simpa using hc35);refine zR (zC<|zA (zN ?_));refine zI ?_ ?_<;>intro hc45
 ·
  refine zR<|zF JM ?_
  refine zV (Qd rfl Qn (fun hg=>by exact Qz.imm h1.out rfl))<|zC<|zM<|Qu 3 rfl rfl rfl ?_
  refine zK (Qa rfl Kz) ?_;refine zK (Qd rfl Qn (fun hg=>by exact Qz.imm h1.out rfl))<|qg (vs:=[_,_,_]) rfl Wl (fun hg=>zfL _ _ _ _)<|QD rfl rfl rfl rfl rfl<|zA (zN (Qs (Qj (Qf ?_))))
  exact QA rfl rfl (fun w hw=>⟨by rw [show ck=5 by simpa using hc45,zxS],(hw.mono hIc).subL Qx⟩)
 have hk5:ck≠5:=(by simpa using hc45);refine zR (zC<|zA (zN ?_));refine zI ?_ ?_<;>intro hc55
 ·
  refine zR<|zF JM ?_
  refine zV (Qd rfl Qn (fun hg=>by exact Qz.imm h1.out rfl))<|zC<|zM<|Qu 3 rfl rfl rfl ?_
  refine zK (Qa rfl Kz) ?_;refine zK (Qd rfl Qn (fun hg=>by exact Qz.imm h1.out rfl))<|qg (vs:=[_,_,_]) rfl Wl (fun hg=>zfL _ _ _ _)<|QD rfl rfl rfl rfl rfl<|zA (zN (Qs (Qj (Qf ?_))))
  exact QA rfl rfl (fun w hw=>⟨by rw [show ck=6 by simpa using hc55,zw4],(hw.mono hIc).subL Qx⟩)
 have hk6:ck≠6:=(by simpa using hc55);exact Qp (Qi (Qc (zR (zA (zN (Qs<|QA rfl rfl (fun w hw=>⟨by rw [zll hk1 hk2 hk3 hk4 hk5 hk6],(hw.mono hIc).subL Qx⟩)))))))
theorem ziH {xs:List Lm}(hS:Sl I 9 Zi av n c xs)(hx:xs[k]? =some x)(hn:n≤100000)(hL:zzz (xs.take k)):ZF Tryz.prog 143 [.slice av n c,.int .i64 k] I (.bool (zjC (xs.take k) x)):=by
 intro g H w hw;refine qe Tryz.func143 Tryz.ntmps143 hw ?_;have hln:=hS.len;have hkn:=(List.getElem?_eq_some_iff.1 hx).1;refine zR (zA (zN (Qm (zR ?_))));refine zM ?_;refine zM ?_;refine zV (zX ZO hS)<|zF YY ?_
 refine zV (Qd rfl Qn (fun hg=>by exact zCC hS hx (j:=2) rfl))<|zC (zN ?_)
 refine zI ?_ ?_<;>intro hc12
 ·
  have he0:x.ends=0:=(by simpa using hc12);exact zR (zA (zN (Qs (Qf<|QA rfl rfl (fun w hw=>⟨by rw [zl2 he0],hw⟩)))))
 have he0:¬x.ends=0:=(by simpa using hc12);refine Qp (Qc (zR (zA (zN (Qm (zR<|zA (zN (Qr<|zU [(0,_),(1,_)] (fun T L0 mz E I' loc'=>∃ (i:Nat) (b:Bool),mz=k-i∧E=(5,.bool b)::(6,.int .i64 i)::T∧I=I'∧L0=loc'∧i≤k∧(xs.take i).any (fun y=>y.ends==x.ends)=false∧b=(xs.take i).any (okL · x)) ?_ (h:=⟨0,false,rfl,rfl,rfl,rfl,Nat.zero_le _,rfl,rfl⟩)))))))));rintro mz E I' loc' ⟨i,b,rfl,rfl,rfl,rfl,hi,hno,hb⟩;refine Qm (zR (zM<|zM<|zC (zN ?_)));refine zI ?_ ?_<;>intro hc15
 ·
  have hlt_i:i<k:=(by have h:=hc15;simp at h;omega);obtain ⟨y,hy⟩:∃ y,xs[i]? =some y:=⟨_,List.getElem?_eq_getElem kB⟩;have hyt:y∈xs.take k:=List.mem_of_getElem? (by rw [List.getElem?_take_of_lt hlt_i];exact hy);have hyr:=hL.rng y hyt;refine Qp (Qc (Qm (Qr (Qm (Qm ?_)))));have hD:=zCA I;refine Xb mixed<|zT 0 rfl (Qe rfl) hD<|zT 1 rfl (Qe rfl) hD<|zT 2 rfl (zX ZO hS) hD<|zT 3 rfl (Qa rfl YY) hD<|zT 4 rfl (Qd rfl Qn (fun hg=>by exact zCC hS hy (j:=2) rfl)) hD<|zT 5 rfl (Qe rfl) hD<|zT 6 rfl (Qe rfl) hD<|zT 7 rfl (zX ZO hS) hD<|zT 8 rfl (Qa rfl YY) hD<|zT 9 rfl (Qd rfl Qn (fun hg=>by exact zCC hS hx (j:=2) rfl)) hD<|zT 10 rfl (QE rfl rfl rfl) hD ?_
  refine Qo kA<|Qw<|Qc ?_
  refine zI ?_ ?_<;>intro hc28
  ·
   exact zR (zA (zN (Qs (Qf (Qj (Qf (Qf<|Qj (Qf<|QA rfl rfl (fun w hw=>⟨by rw [zq1 he0 hyt hc28],hw⟩)))))))))
  have hno9:(xs.take (i+1)).any (fun y=>y.ends==x.ends)=false:=(by rw [zbk hy,hno,hc28];rfl);refine Qp (Qc (Qm ?_));have hD:=zCA I;refine Xb mixed<|zT 0 rfl (Qe rfl) hD<|zT 1 rfl (Qe rfl) hD<|zT 2 rfl (zX ZO hS) hD<|zT 3 rfl (Qa rfl Yy) hD<|zT 4 rfl (Qd rfl Qn (fun hg=>by exact zCt hS hy rfl)) hD<|zT 5 rfl (Yr rfl rfl rfl (fun hg=>kB)) hD<|zT 6 rfl (Qe rfl) hD<|zT 7 rfl (Qe rfl) hD<|zT 8 rfl (zX ZO hS) hD<|zT 9 rfl (Qa rfl YY) hD<|zT 10 rfl (Qd rfl Qn (fun hg=>by exact zCC hS hx (j:=2) rfl)) hD ?_
  refine zT 11 rfl (QE rfl rfl rfl) hD<|zT 12 rfl (Qe rfl) hD<|Ux 12 rfl rfl rfl<|zt1 13 rfl (Qe rfl) hD<|zt1 14 rfl (Qe rfl) hD<|zt1 15 rfl (zX ZO hS) hD<|zt1 16 rfl (Qa rfl Js) hD<|zt1 17 rfl (Qd rfl Qn (fun hg=>by exact zCC hS hy (j:=1) rfl)) hD<|zt1 18 rfl (Qe rfl) hD<|zt1 19 rfl (Qe rfl) hD<|zt1 20 rfl (zX ZO hS) hD<|zt1 21 rfl (Qa rfl Js) hD ?_
  refine zt1 22 rfl (Qd rfl Qn (fun hg=>by exact zCC hS hx (j:=1) rfl)) hD<|zt1 23 rfl (QE rfl rfl rfl) hD<|zta 24 rfl rfl rfl rfl hD<|zT 25 rfl (Qe rfl) hD<|Ux 25 rfl rfl rfl<|zt1 26 rfl (Qe rfl) hD<|zt1 27 rfl (Qe rfl) hD<|zt1 28 rfl (zX ZO hS) hD<|zt1 29 rfl (Qa rfl KB) hD<|zt1 30 rfl (Qd rfl Qn (fun hg=>by exact zCC hS hy (j:=5) rfl)) hD<|zt1 31 rfl (Qe rfl) hD<|zt1 32 rfl (Qe rfl) hD ?_
  refine zt1 33 rfl (zX ZO hS) hD<|zt1 34 rfl (Qa rfl KB) hD<|zt1 35 rfl (Qd rfl Qn (fun hg=>by exact zCC hS hx (j:=5) rfl)) hD<|zt1 36 rfl (QE rfl rfl rfl) hD<|zta 37 rfl rfl rfl rfl hD<|Qo kA<|Qw<|Qc ?_
  refine zI ?_ ?_<;>intro hc66
  ·
   have hb9:true=(xs.take (i+1)).any (okL · x):=(by rw [←zbm hy hb,show okL y x=true from hc66,Bool.or_true]);refine Qh (zA (Qb (Qi (Qc (Qh ?_)))));refine zM ?_;exact zB<|zA (Qb<|zm (h:=⟨k-(i+1),kB,i+1,_,rfl,rfl,rfl,rfl,kB,hno9,hb9⟩))
  have hb9:b=(xs.take (i+1)).any (okL · x):=(by rw [←zbm hy hb,show okL y x=false from hc66,Bool.or_false]);refine Qp (Qi (Qc (Qh (zM ?_))));exact zB<|zA (Qb<|zm (h:=⟨k-(i+1),kB,i+1,_,rfl,rfl,rfl,rfl,kB,hno9,hb9⟩))
 have hge_i:k≤i:=(by have h:=hc15;simp at h;omega);obtain rfl:k=i:=kB;refine Q6 (Ql (Ql (Qq (Qc (zR (zM ?_))))));refine zA (zN (Qs ?_));exact QA rfl rfl (fun w hw=>⟨by rw [zpU he0 hno,hb],hw⟩)
theorem zov {xs:List Lm}(hS:Sl I 9 Zi av n c xs)(hn:n≤100000)(hw8:∀ y∈xs, -9223372036854775808≤y.ends∧y.ends≤9223372036854775807):ZF Tryz.prog 75 [.slice av n c] I (.int .i64 (za0 xs)):=by
 intro g H w hw;refine qe Tryz.func75 Tryz.ntmps75 hw ?_;have hIc:=zCA I;have hln:=hS.len;refine zR (zA (zN (Qm (zR ?_))));refine zM ?_;refine zQ ZO<|zC (zN ?_)
 refine zI ?_ ?_<;>intro hc8
 ·
  have h5:xs.length>512:=(by have h:=hc8;simp at h;omega);exact zR (zA (zN (Qs (Qf<|QA rfl rfl (fun w hw=>⟨by rw [zh4 h5],(hw.mono hIc).subL Qx⟩)))))
 have h5:¬xs.length>512:=(by have h:=hc8;simp at h;omega);refine Qp (Qc (Qm (zR (zA (zN (Qr<|zU [(0,_)] (fun T L0 mz E I' loc'=>∃ (k:Nat),mz=n-k∧E=(3,.int .i64 k)::T∧HLe I I'∧L0=loc'∧k≤n∧(∀ j y,j<k→xs[j]? =some y→zcQ (xs.take j) y=false)) ?_ (h:=⟨0,rfl,rfl,zCA _,rfl,Nat.zero_le _,fun j y h=>absurd h (Nat.not_lt_zero _)⟩)))))));rintro mz E J1 loc' ⟨k,rfl,rfl,hJ,rfl,hk,hall⟩;have hS:=hS.mono hJ;have hIc:=hIc.trans hJ;have hB0:=hJ;refine Qm (zR (zM<|zM ?_));refine zQ ZO<|zC (zN ?_)
 refine zI ?_ ?_<;>intro hc12
 ·
  have hlt_k:k<n:=(by have h:=hc12;simp at h;omega);obtain ⟨x,hx⟩:∃ x,xs[k]? =some x:=⟨_,List.getElem?_eq_getElem kB⟩;have hL:=zn1 hall kB;have hxw:=hw8 x (List.mem_of_getElem? hx);have hbr:=zxM hL hxw;refine Qp (Qc (Qm (Qr (zR (zM ?_)))));refine zM ?_;refine zV (zX ZO hS) ?_;refine zV (Qg rfl Jr (fun hg=>by exact zCB hS hx) rfl)<|Qt zeY rfl rfl (fun b_4=>zh Xo ?_)
  refine Qb<|QH .here (fun I2 hI2 hb2=>?_)
  have hS:=hS.mono hI2;have hIc:=hIc.trans hI2;have hB0:=hB0.trans hI2;have h4:=BxI.of hb2;refine Qc (Qm (Qm ?_));rcases zmz (x:=x) (show k<xs.length by omega) with ⟨hA,hra⟩ | ⟨hA,hB,hra⟩ | ⟨y,hA,hB,hy,hC,hra⟩ | ⟨y,hA,hB,hy,hC,hra⟩
  ·
   have hD:=zCA I2;refine Zm<|QI I2 [] mixed<|zT 0 rfl (Qa rfl Yy) hD<|zT 1 rfl (Qd rfl Qn (fun hg=>by exact Qz.imm h4.out rfl)) hD<|qd 2 rfl<|qcV (vs:=[_,_,_]) rfl Uc (K7 _ _ _ _)<|Qb<|zD hD<|zT 3 rfl (Zy rfl) hD ?_
   rw [hA];refine zT 4 rfl (Qe rfl) hD ?_;refine zW 5 23 hD ?_;refine zW 6 23 hD ?_;refine zW 7 23 hD ?_;refine zW 8 26 hD ?_;refine zW 9 26 hD ?_;refine zW 10 26 hD ?_;refine zW 11 26 hD ?_;refine zW 12 26 hD ?_;refine zW 13 26 hD ?_;refine zW 14 26 hD ?_;refine zW 15 26 hD ?_;refine zW 16 26 hD ?_;refine zW 17 23 hD<|zT 18 rfl (Yg rfl rfl rfl) hD<|zT 19 rfl (Qe rfl) hD ?_
   refine zW 20 38 hD ?_;refine zW 21 38 hD ?_;refine zW 22 38 hD ?_;refine zW 23 38 hD<|zT 24 rfl (Yg rfl rfl rfl) hD<|Qo kA<|Qw<|Qc ?_
   refine zI ?_ ?_<;>intro hc43
   ·
    refine zR (zA (zN (Qs (Qf (Qj (Qf (Qf<|Qj (Qf ?_))))))));exact QA rfl rfl (fun w hw=>⟨by rw [V1 h5 hx (by rw [hbr,hra];rfl)],(hw.mono hIc).subL Qx⟩)
   cases hc43
  ·
   have hD:=zCA I2;refine Zm<|QI I2 [] mixed<|zT 0 rfl (Qa rfl Yy) hD<|zT 1 rfl (Qd rfl Qn (fun hg=>by exact Qz.imm h4.out rfl)) hD<|qd 2 rfl<|qcV (vs:=[_,_,_]) rfl Uc (K7 _ _ _ _)<|Qb<|zD hD<|zT 3 rfl (Zy rfl) hD ?_
   rw [hA];refine zT 4 rfl (Qe rfl) hD<|zw 5 23 rfl (Qe rfl) hD<|zw 6 23 rfl (QE rfl rfl rfl) hD ?_
   rw [hB];refine zw 7 23 rfl (Qe rfl) hD<|zW 8 26 hD ?_
   refine zW 9 26 hD ?_;refine zW 10 26 hD ?_;refine zW 11 26 hD ?_;refine zW 12 26 hD ?_;refine zW 13 26 hD ?_;refine zW 14 26 hD ?_;refine zW 15 26 hD ?_;refine zW 16 26 hD ?_;refine zw 17 23 rfl (Yg rfl rfl rfl) hD<|zT 18 rfl (QY rfl rfl rfl) hD<|zT 19 rfl (Qe rfl) hD<|zw 20 38 rfl (Qa rfl Js) hD<|zw 21 38 rfl (Qd rfl Qn (fun hg=>by exact Qz.imm h4.out rfl)) hD<|qd 22 rfl<|QM (dj:=38) rfl rfl rfl<|qcV (vs:=[_,_,_]) rfl Uc (K7 _ _ _ _)<|Qb<|zD hD<|zw 23 38 rfl (Zy rfl) hD<|zT 24 rfl (QY rfl rfl rfl) hD ?_
   refine Qo kA<|Qw<|Qc ?_
   refine zI ?_ ?_<;>intro hc43
   ·
    refine zR (zA (zN (Qs (Qf (Qj (Qf (Qf<|Qj (Qf ?_))))))));exact QA rfl rfl (fun w hw=>⟨by rw [V1 h5 hx (by rw [hbr,hra,show (!VF x.person 0 63)=true from hc43];rfl)],(hw.mono hIc).subL Qx⟩)
   have q1:rA (xs.take k) x=false:=(by rw [hra];exact hc43);refine Qp (Qc (Qm (zR<|zF Wy ?_)));refine zV (Qd rfl Qn (fun hg=>by exact Qz.imm h4.out rfl))<|zF KW ?_
   refine zV (Qd rfl Qn (fun hg=>by exact Qz.imm h4.out rfl))<|qcV (vs:=[_,_,_]) rfl Uc (K7 _ _ _ _)<|zO<|zM ?_
   refine QK 6 rfl rfl rfl ?_;refine zJ (Qa rfl KW)<|zJ (Qd rfl Qn (fun hg=>by exact Qz.imm h4.out rfl))<|zJ (QE rfl rfl rfl)<|Zf rfl rfl rfl rfl rfl ?_
   refine zM ?_;refine QK 11 rfl rfl rfl ?_;refine zJ (Qa rfl KB)<|zJ (Qd rfl Qn (fun hg=>by exact Qz.imm h4.out rfl))<|qf (vs:=[_,_,_]) rfl Uc (fun hg=>K7 _ _ _ _)<|zJ (Zy rfl)<|Zf rfl rfl rfl rfl rfl<|zN ?_
   refine zI ?_ ?_<;>intro hc60
   ·
    refine zR (zA (zN (Qs (Qf (Qj (Qf (Qf<|Qj (Qf ?_))))))));exact QA rfl rfl (fun w hw=>⟨by rw [V1 h5 hx (by rw [hbr,←zqQ,hc60];simp)],(hw.mono hIc).subL Qx⟩)
   have q2:zoY x=false:=(by rw [←zqQ];exact hc60);refine Qp (Qc (zR<|zV (QF (ps:=[]) [_,_,_] zbV rfl rfl)<|Qt zyV rfl rfl (fun b_5=>zh zr4 ?_)));refine Qb<|QH .here (fun I3 hI3 hb3=>?_)
   have hS:=hS.mono hI3;have h4:=h4.mono hI3;have hIc:=hIc.trans hI3;have hB0:=hB0.trans hI3;have h5z:=BxI.of hb3;refine Qc (zR<|zF JT ?_);refine zV (Qg rfl zaF (fun hg=>by exact Cells.part (pre:=[_,_,_,_,_,_]) (vs:=[_,_,_]) (post:=[]) (BxI.cells (vs:=Zi x) h4) rfl) rfl)<|qcV (vs:=[_]) rfl znf (zr2 _ _ _ _)<|zO<|zM<|Qu 4 rfl rfl rfl ?_
   refine zK (Qa rfl JT)<|zK (Qg rfl zaF (fun hg=>by exact Cells.part (pre:=[_,_,_,_,_,_]) (vs:=[_,_,_]) (post:=[]) (BxI.cells (vs:=Zi x) h4) rfl) rfl)<|zK (Qg rfl zaF (fun hg=>by exact BxI.cells (vs:=[_,_,_]) h5z) rfl)<|zK (ze5 rfl rfl zlc rfl)<|zK (Qe rfl)<|QK 9 rfl rfl rfl ?_
   refine zJ (Qa rfl YY)<|zJ (Qd rfl Qn (fun hg=>by exact Qz.imm h4.out rfl))<|zJ (QE rfl rfl rfl)<|zb2 rfl rfl rfl (.some rfl rfl rfl rfl gbt) rfl rfl<|QD rfl rfl rfl rfl rfl ?_
   refine zM ?_;refine QK 15 rfl rfl rfl ?_;refine zJ (Qe rfl)<|zJ (Qe rfl)<|qf (vs:=[_,_]) rfl zoH (fun hg=>ziH hS hx hn hL)<|zJ (Zy rfl)<|Zf rfl rfl rfl rfl rfl<|zN ?_
   refine zI ?_ ?_<;>intro hc82
   ·
    refine zR (zA (zN (Qs (Qj (Qf (Qf (Qj<|Qf ?_)))))));exact QA rfl rfl (fun w hw=>⟨by rw [V1 h5 hx (by rw [hbr,Bool.or_assoc,show (zo4 x|| !zjC (xs.take k) x)=true from hc82];simp)],(hw.mono hIc).subL Qx⟩)
   have hbad:zcQ (xs.take k) x=false:=(by rw [hbr,Bool.or_assoc,show (zo4 x|| !zjC (xs.take k) x)=false from hc82,q1,q2];rfl);refine Qp (Qi (Qc (Qh (zM ?_))));exact zB<|zA (Qb<|zm (h:=⟨n-(k+1),kB,k+1,rfl,rfl,hB0,rfl,kB,VK hx hall hbad⟩))
  ·
   have hk0:0<k:=(by simpa using hB);have hD:=zCA I2;refine Zm<|QI I2 [] mixed<|zT 0 rfl (Qa rfl Yy) hD<|zT 1 rfl (Qd rfl Qn (fun hg=>by exact Qz.imm h4.out rfl)) hD<|qd 2 rfl<|qcV (vs:=[_,_,_]) rfl Uc (K7 _ _ _ _)<|Qb<|zD hD<|zT 3 rfl (Zy rfl) hD ?_
   rw [hA];refine zT 4 rfl (Qe rfl) hD<|zw 5 23 rfl (Qe rfl) hD<|zw 6 23 rfl (QE rfl rfl rfl) hD ?_
   rw [hB];refine zw 7 23 rfl (Qe rfl) hD<|zw 8 26 rfl (Qa rfl Yy) hD<|zw 9 26 rfl (Qd rfl Qn (fun hg=>by exact Qz.imm h4.out rfl)) hD<|zw 10 26 rfl (Qe rfl) hD<|zw 11 26 rfl (Qe rfl) hD<|zw 12 26 rfl (Yr rfl rfl rfl (fun hg=>kB)) hD<|zw 13 26 rfl (zX ZO hS) hD<|zw 14 26 rfl (Qa rfl Yy) hD<|zw 15 26 rfl (Qd rfl Qn (fun hg=>by exact zCt hS hy rfl)) hD<|zw 16 26 rfl (QE rfl rfl rfl) hD ?_
   rw [hC];refine zw 17 23 rfl (QY rfl rfl rfl) hD<|zT 18 rfl (QY rfl rfl rfl) hD<|zT 19 rfl (Qe rfl) hD ?_
   refine zW 20 38 hD ?_;refine zW 21 38 hD ?_;refine zW 22 38 hD ?_;refine zW 23 38 hD<|zT 24 rfl (Yg rfl rfl rfl) hD<|Qo kA<|Qw<|Qc ?_
   refine zI ?_ ?_<;>intro hc43
   ·
    refine zR (zA (zN (Qs (Qf (Qj (Qf (Qf<|Qj (Qf ?_))))))));exact QA rfl rfl (fun w hw=>⟨by rw [V1 h5 hx (by rw [hbr,hra];rfl)],(hw.mono hIc).subL Qx⟩)
   cases hc43
  have hk0:0<k:=(by simpa using hB);have hD:=zCA I2;refine Zm<|QI I2 [] mixed<|zT 0 rfl (Qa rfl Yy) hD<|zT 1 rfl (Qd rfl Qn (fun hg=>by exact Qz.imm h4.out rfl)) hD<|qd 2 rfl<|qcV (vs:=[_,_,_]) rfl Uc (K7 _ _ _ _)<|Qb<|zD hD<|zT 3 rfl (Zy rfl) hD ?_
  rw [hA];refine zT 4 rfl (Qe rfl) hD<|zw 5 23 rfl (Qe rfl) hD<|zw 6 23 rfl (QE rfl rfl rfl) hD ?_
  rw [hB];refine zw 7 23 rfl (Qe rfl) hD<|zw 8 26 rfl (Qa rfl Yy) hD<|zw 9 26 rfl (Qd rfl Qn (fun hg=>by exact Qz.imm h4.out rfl)) hD<|zw 10 26 rfl (Qe rfl) hD<|zw 11 26 rfl (Qe rfl) hD<|zw 12 26 rfl (Yr rfl rfl rfl (fun hg=>kB)) hD<|zw 13 26 rfl (zX ZO hS) hD<|zw 14 26 rfl (Qa rfl Yy) hD<|zw 15 26 rfl (Qd rfl Qn (fun hg=>by exact zCt hS hy rfl)) hD<|zw 16 26 rfl (QE rfl rfl rfl) hD ?_
  rw [hC];refine zw 17 23 rfl (QY rfl rfl rfl) hD<|zT 18 rfl (QY rfl rfl rfl) hD<|zT 19 rfl (Qe rfl) hD<|zw 20 38 rfl (Qa rfl Js) hD<|zw 21 38 rfl (Qd rfl Qn (fun hg=>by exact Qz.imm h4.out rfl)) hD<|qd 22 rfl<|QM (dj:=38) rfl rfl rfl<|qcV (vs:=[_,_,_]) rfl Uc (K7 _ _ _ _)<|Qb<|zD hD<|zw 23 38 rfl (Zy rfl) hD<|zT 24 rfl (QY rfl rfl rfl) hD ?_
  refine Qo kA<|Qw<|Qc ?_
  refine zI ?_ ?_<;>intro hc43
  ·
   refine zR (zA (zN (Qs (Qf (Qj (Qf (Qf<|Qj (Qf ?_))))))));exact QA rfl rfl (fun w hw=>⟨by rw [V1 h5 hx (by rw [hbr,hra,show (!VF x.person 0 63)=true from hc43];rfl)],(hw.mono hIc).subL Qx⟩)
  have q1:rA (xs.take k) x=false:=(by rw [hra];exact hc43);refine Qp (Qc (Qm (zR<|zF Wy ?_)));refine zV (Qd rfl Qn (fun hg=>by exact Qz.imm h4.out rfl))<|zF KW ?_
  refine zV (Qd rfl Qn (fun hg=>by exact Qz.imm h4.out rfl))<|qcV (vs:=[_,_,_]) rfl Uc (K7 _ _ _ _)<|zO<|zM ?_
  refine QK 6 rfl rfl rfl ?_;refine zJ (Qa rfl KW)<|zJ (Qd rfl Qn (fun hg=>by exact Qz.imm h4.out rfl))<|zJ (QE rfl rfl rfl)<|Zf rfl rfl rfl rfl rfl ?_
  refine zM ?_;refine QK 11 rfl rfl rfl ?_;refine zJ (Qa rfl KB)<|zJ (Qd rfl Qn (fun hg=>by exact Qz.imm h4.out rfl))<|qf (vs:=[_,_,_]) rfl Uc (fun hg=>K7 _ _ _ _)<|zJ (Zy rfl)<|Zf rfl rfl rfl rfl rfl<|zN ?_
  refine zI ?_ ?_<;>intro hc60
  ·
   refine zR (zA (zN (Qs (Qf (Qj (Qf (Qf<|Qj (Qf ?_))))))));exact QA rfl rfl (fun w hw=>⟨by rw [V1 h5 hx (by rw [hbr,←zqQ,hc60];simp)],(hw.mono hIc).subL Qx⟩)
  have q2:zoY x=false:=(by rw [←zqQ];exact hc60);refine Qp (Qc (zR<|zV (QF (ps:=[]) [_,_,_] zbV rfl rfl)<|Qt zyV rfl rfl (fun b_5=>zh zr4 ?_)));refine Qb<|QH .here (fun I4 hI4 hb4=>?_)
  have hS:=hS.mono hI4;have h4:=h4.mono hI4;have hIc:=hIc.trans hI4;have hB0:=hB0.trans hI4;have h5z:=BxI.of hb4;refine Qc (zR<|zF JT ?_);refine zV (Qg rfl zaF (fun hg=>by exact Cells.part (pre:=[_,_,_,_,_,_]) (vs:=[_,_,_]) (post:=[]) (BxI.cells (vs:=Zi x) h4) rfl) rfl)<|qcV (vs:=[_]) rfl znf (zr2 _ _ _ _)<|zO<|zM<|Qu 4 rfl rfl rfl ?_
  refine zK (Qa rfl JT)<|zK (Qg rfl zaF (fun hg=>by exact Cells.part (pre:=[_,_,_,_,_,_]) (vs:=[_,_,_]) (post:=[]) (BxI.cells (vs:=Zi x) h4) rfl) rfl)<|zK (Qg rfl zaF (fun hg=>by exact BxI.cells (vs:=[_,_,_]) h5z) rfl)<|zK (ze5 rfl rfl zlc rfl)<|zK (Qe rfl)<|QK 9 rfl rfl rfl ?_
  refine zJ (Qa rfl YY)<|zJ (Qd rfl Qn (fun hg=>by exact Qz.imm h4.out rfl))<|zJ (QE rfl rfl rfl)<|zb2 rfl rfl rfl (.some rfl rfl rfl rfl gbt) rfl rfl<|QD rfl rfl rfl rfl rfl ?_
  refine zM ?_;refine QK 15 rfl rfl rfl ?_;refine zJ (Qe rfl)<|zJ (Qe rfl)<|qf (vs:=[_,_]) rfl zoH (fun hg=>ziH hS hx hn hL)<|zJ (Zy rfl)<|Zf rfl rfl rfl rfl rfl<|zN ?_
  refine zI ?_ ?_<;>intro hc82
  ·
   refine zR (zA (zN (Qs (Qj (Qf (Qf (Qj<|Qf ?_)))))));exact QA rfl rfl (fun w hw=>⟨by rw [V1 h5 hx (by rw [hbr,Bool.or_assoc,show (zo4 x|| !zjC (xs.take k) x)=true from hc82];simp)],(hw.mono hIc).subL Qx⟩)
  have hbad:zcQ (xs.take k) x=false:=(by rw [hbr,Bool.or_assoc,show (zo4 x|| !zjC (xs.take k) x)=false from hc82,q1,q2];rfl);refine Qp (Qi (Qc (Qh (zM ?_))));exact zB<|zA (Qb<|zm (h:=⟨n-(k+1),kB,k+1,rfl,rfl,hB0,rfl,kB,VK hx hall hbad⟩))
 have hge_k:n≤k:=(by have h:=hc12;simp at h;omega);refine Q6 (Ql (Ql (Qq (Qc (zR (zA (zN<|Qs ?_)))))));exact QA rfl rfl (fun w hw=>⟨by rw [zlf h5 (fun j y hj hy=>hall j y kB hy)],(hw.mono hIc).subL Qx⟩)
end
end Go.Proofs.YtjblkbkmblkgoaaGreat
namespace Go.Proofs.YtjblkbkmblkgoaaGreat.S
section
open Go Go.Kn
def i64 (n:Int):Prop:= -9223372036854775808≤n∧n≤9223372036854775807
structure okR (x:Rt):Prop where
 no:i64 x.no
 kind:i64 x.kind
 edition:i64 x.edition
 holder:i64 x.holder
 sign:i64 x.sign
 ends:i64 x.ends
 lo:i64 x.lo
 hi:i64 x.hi
 known:i64 x.known
variable{n:Int}
theorem zrK (h:i64 n):w64 n=n:=by
 unfold w64 IntKind.wrap;simp only [IntKind.signed,IntKind.bits];obtain ⟨h1,h2⟩:=h
 first | omega | (simp;omega) | (rw [Int.emod_emod_of_dvd];omega)
theorem ztP (x:Rt):billF x=(zkc x&&within x.edition 0 1048576&&zkd x.name&&zkd x.town&&(x.holder==0)&&(x.sign==0)&&(x.ends==0)):=by
 cases x;simp only [billF,rtEq,zl5,zkc,zkd,within,zc6,beq_self_eq_true,Bool.true_and,Bool.and_true];rw [Bool.eq_iff_iff];simp only [Bool.and_eq_true,decide_eq_true_eq,beq_iff_eq];constructor
 ·
  rintro ⟨⟨⟨⟨a,b,c⟩,d⟩,e⟩,f⟩;refine ⟨⟨⟨⟨⟨⟨⟨⟨?_,?_⟩,?_⟩,?_⟩,e⟩,f⟩,?_⟩,?_⟩,?_⟩<;>(try simp_all)<;>omega
 ·
  rintro ⟨⟨⟨⟨⟨⟨a,b⟩,c⟩,d⟩,e⟩,f⟩,g⟩;simp_all
theorem zkG (x:Rt):heldF x=WE x:=by
 cases x;simp only [heldF,WE,rtEq,zl5,zkc,within,zcV,beq_self_eq_true,Bool.true_and,Bool.and_true];rw [Bool.eq_iff_iff];simp only [Bool.and_eq_true,decide_eq_true_eq,beq_iff_eq];constructor
 ·
  intro h;simp_all
 ·
  intro h;simp_all
variable{α:Type}
theorem znJ {xs:List α}{p q:α→Bool}(h:∀ x∈xs,p x=q x):xs.any p=xs.any q:=by
 induction xs with
 | nil=>rfl
 | cons x xs ih=>rw [List.any_cons,List.any_cons,h x (List.mem_cons_self ..),ih (fun y hy=>h y (List.mem_cons_of_mem _ hy))]
def zhg (pre:List Rt)(bs:List (Int×Rt)):Prop:=∀ k,ZD bs k=pre.find? fun y=>y.no==k
theorem zq2 (h:0≤n∧n≤1048576):w64 (n+1)=n+1:=zrK ⟨kB,kB⟩
theorem zru {m:Int}(hn:i64 n)(hm:0≤m∧m≤1048576):(m=w64 (n-1))↔m+1=n:=by
 by_cases h:n= -9223372036854775808
 ·
  subst h;have:w64 (-9223372036854775808-1)=9223372036854775807:=by decide
  rw [this];omega
 ·
  rw [zrK (n:=n-1) ⟨by have:=hn.1;omega,by have:=hn.2;omega⟩];omega
variable{pre:List Rt}
theorem zpN {p q:Rt→Bool}(huniq:∀ y∈pre,∀ z∈pre,p y=true→p z=true→y=z):(match pre.find? p with | none=>false | some y=>q y)=pre.any (fun y=>p y&&q y):=by
 cases h:pre.find? p with
 | none=>
  rw [List.find?_eq_none] at h
  symm
  rw [List.any_eq_false];intro y hy;have:=h y hy;simp [this]
 | some y=>
  have hp:=List.find?_some h;have hm:=List.mem_of_find?_eq_some h;show q y=_
  cases hq:q y with
  | true=>exact (List.any_eq_true.2 ⟨y,hm,show (p y&&q y)=true by rw [hp,hq];rfl⟩).symm
  | false=>
   symm
   rw [List.any_eq_false];intro z hz hpz;rw [Bool.and_eq_true] at hpz;have:=huniq y hm z hz hp hpz.1;subst this;rw [hq] at hpz;exact absurd hpz.2 kD
def zrZ (pre:List Rt):Prop:=pre.Pairwise fun y z=>y.no<z.no
variable{y:Rt}
theorem zrZ.uniq (h:zrZ pre){z:Rt}(hy:y∈pre)(hz:z∈pre)(e:y.no=z.no):y=z:=by
 induction pre with
 | nil=>cases hy
 | cons p pre ih=>
  rw [zrZ,List.pairwise_cons] at h;rcases List.mem_cons.1 hy with e1 | hy<;>rcases List.mem_cons.1 hz with e2 | hz
  ·
   rw [e1,e2]
  ·
   have:=h.1 z hz;rw [e1] at e;omega
  ·
   have:=h.1 y hy;rw [e2] at e;omega
  ·
   exact ih h.2 hy hz
variable{bs:List (Int×Rt)}{x:Rt}
theorem zvj (hm:zhg pre bs)(hr:zrZ pre)(hb:∀ y∈pre,0≤y.no∧y.no≤1048576)(hx:okR x):
  voidF x bs=(zgS pre x&&(x.edition==0)&&(x.holder==0)&&(x.sign==0)&&JG x.name zcV&&JG x.town zcV&&(x.lo==0)&&(x.hi==0)):=by
 have e1:voidF x bs=((match pre.find? (fun y=>y.no==w64 (x.ends-1)) with | none=>false | some old=>(old.kind != 4)&&decide (old.known≤x.known))&&rtEq x {zeroR with no:=x.no,kind:=x.kind,ends:=x.ends,known:=x.known}):=by
  unfold voidF;rw [hm];cases pre.find? (fun y=>y.no==w64 (x.ends-1))<;>rfl
 have e2:zgS pre x=pre.any (fun y=>(y.no==w64 (x.ends-1))&&((y.kind != 4)&&decide (y.known≤x.known))):=by
  unfold zgS;apply znJ;intro y hy;have h1:=hb y hy
  have h2:(w64 (y.no+1)==x.ends)=(y.no==w64 (x.ends-1)):=by
   rw [Bool.eq_iff_iff,beq_iff_eq,beq_iff_eq,zq2 h1,zru hx.ends h1]
  rw [h2,Bool.and_assoc]
 rw [e1,zpN (fun y hy z hz h1 h2=>hr.uniq hy hz (by rw [beq_iff_eq] at h1 h2;rw [h1,h2])),e2]
 have e3:rtEq x {zeroR with no:=x.no,kind:=x.kind,ends:=x.ends,known:=x.known}=((x.edition==0)&&(x.holder==0)&&(x.sign==0)&&JG x.name zcV&&JG x.town zcV&&(x.lo==0)&&(x.hi==0)):=by
  cases x;simp only [rtEq,zeroR,zcV,beq_self_eq_true,Bool.true_and,Bool.and_true,Bool.and_assoc]
 rw [e3];simp only [Bool.and_assoc]
theorem zzi (hm:zhg pre bs)(hr:zrZ pre)(hb:∀ y∈pre,0≤y.no∧y.no≤1048576)(hx:okR x):
  (zc7 x.kind&&askF x.kind x bs)=WR pre x:=by
 unfold zc7 askF WR;by_cases h1:x.kind=1
 ·
  rw [h1];simp only [if_true,beq_self_eq_true,Bool.true_or,Bool.true_and,ztP]
 ·
  by_cases h2:x.kind=2
  ·
   rw [h2];simp [zkG]
  ·
   by_cases h3:x.kind=3
   ·
    rw [h3];simp [zkG]
   ·
    by_cases h4:x.kind=4
    ·
     rw [h4];simp [zvj hm hr hb hx]
    ·
     simp [h1,h2,h3,h4]
variable{i:Nat}{last:Int}
theorem zxi (hm:zhg pre bs)(hr:zrZ pre)(hb:∀ y∈pre,0≤y.no∧y.no≤1048576)(hx:okR x)
  (h0:i=0→last= -1)(h1:0<i→last=y.no∧0≤last):rBad x bs last= !Jo i pre y x:=by
 have ha:=zzi hm hr hb hx;unfold rBad Jo;by_cases hA:(!within x.no 0 1048576||(decide ((i:Int)>0)&&decide (x.no≤y.no))|| !within x.known 0 134217727)=true
 ·
  rw [if_pos hA];simp only [Bool.not_false,Bool.or_eq_true,Bool.and_eq_true,within,Bool.not_eq_true',Bool.and_eq_false_iff,decide_eq_true_eq,decide_eq_false_iff_not] at hA ⊢;rcases Nat.eq_zero_or_pos i with hi | hi
  ·
   have:=h0 hi;subst hi;omega
  ·
   have:=h1 hi;omega
 ·
  rw [if_neg hA];rw [←ha];simp only [Bool.or_eq_true,Bool.and_eq_true,within,Bool.not_eq_true',Bool.and_eq_false_iff,decide_eq_true_eq,decide_eq_false_iff_not] at hA
  have e1:decide (x.no≤last)=false:=by
   rcases Nat.eq_zero_or_pos i with hi | hi
   ·
    have:=h0 hi;subst hi;exact decide_eq_false kB
   ·
    have:=h1 hi;exact decide_eq_false kB
  have e2:decide (x.no>1048576)=false:=decide_eq_false kB;have e3:within x.known 0 134217727=true:=(by simp only [within,Bool.and_eq_true,decide_eq_true_eq];omega);rw [e1,e2,e3];cases zc7 x.kind<;>cases askF x.kind x bs<;>rfl
theorem zi8 (pre:List Rt)(x:Rt)(rest:List Rt):WL (pre++x::rest) pre.length=Jo pre.length pre (zc4 (pre++x::rest) pre.length) x:=by
 unfold WL;rw [List.take_left' rfl];simp
theorem zlV (pre rest:List Rt)(h:0<pre.length):∃ y,pre[pre.length-1]? =some y∧zc4 (pre++rest) pre.length=y:=by
 have h1:pre.length-1<pre.length:=kB;refine ⟨pre[pre.length-1],List.getElem?_eq_getElem h1,?_⟩;unfold zc4;rw [show ((pre.length:Int)-1).toNat=pre.length-1 from by omega,List.getElem?_append_left h1,List.getElem?_eq_getElem h1];rfl
theorem zpo (h:Jo i pre y x=true):0≤x.no∧x.no≤1048576∧(0<i→y.no<x.no):=by
 unfold Jo at h;split at h
 ·
  cases h
 ·
  rename_i hb;simp only [Bool.or_eq_true,Bool.and_eq_true,within,Bool.not_eq_true',Bool.and_eq_false_iff,decide_eq_true_eq,decide_eq_false_iff_not] at hb;refine ⟨kB,kB,fun hi=>kB⟩
theorem zhg.step (hm:zhg pre bs)(hlt:∀ y∈pre,y.no<x.no):zhg (pre++[x]) (JI bs x.no x):=by
 intro k;rw [Jh,List.find?_append,hm];by_cases h:x.no=k
 ·
  have:pre.find? (fun y=>y.no==k)=none:=List.find?_eq_none.2 fun y hy=>by have:=hlt y hy;simp;omega
  rw [if_pos h,this];simp [h]
 ·
  rw [if_neg h];have:([x]:List Rt).find? (fun y=>y.no==k)=none:=by simp [h]
  rw [this];simp
theorem zwL:∀ (rest pre:List Rt) (bs:List (Int×Rt)) (last:Int),zhg pre bs→zrZ pre→(∀ y∈pre,0≤y.no∧y.no≤1048576∧y.no≤last)→(pre=[]→last= -1)→(∀ y,pre[pre.length-1]? =some y→last=y.no)→(∀ x∈rest,okR x)→
  rGo rest bs last=if (List.range' pre.length rest.length).all (WL (pre++rest)) then 0 else 460
 | [],pre,bs,last,_,_,_,_,_,_=>by simp [rGo]
 | x::rest,pre,bs,last,hm,hr,hb,h0,h1,hx=>by
  have hbad:=zxi (x:=x) (y:=zc4 (pre++x::rest) pre.length) (i:=pre.length) (last:=last) hm hr (fun y hy=>⟨(hb y hy).1,(hb y hy).2.1⟩) (hx x (List.mem_cons_self ..))
   (fun h=>h0 (List.length_eq_zero_iff.1 h)) (fun h=>by
    obtain ⟨y,hy,hp⟩:=zlV pre (x::rest) h;rw [hp];have:=h1 y hy
    exact ⟨this,by rw [this];exact (hb y (List.mem_of_getElem? hy)).1⟩)
  rw [←zi8] at hbad;rw [List.length_cons,List.range'_succ,List.all_cons,rGo,hbad]
  cases hg:WL (pre++x::rest) pre.length with
  | false=>rfl
  | true=>
   rw [zi8] at hg;obtain ⟨a,b,c⟩:=zpo hg
   have hlast:∀ y∈pre,y.no<x.no:=fun y hy=>by
    have hl:0<pre.length:=List.length_pos_of_mem hy;obtain ⟨z,hz,hp⟩:=zlV pre (x::rest) hl;have h2:=c hl;rw [hp] at h2;have h3:=h1 z hz;have h4:=(hb y hy).2.2;omega
   have ih:=zwL rest (pre++[x]) (JI bs x.no x) x.no (hm.step hlast) (by
     unfold zrZ;rw [List.pairwise_append]
     exact ⟨hr,List.pairwise_singleton ..,fun y hy z hz=>by rw [List.mem_singleton] at hz;subst hz;exact hlast y hy⟩)
    (fun y hy=>by
     rcases List.mem_append.1 hy with hy | hy
     ·
      have:=hb y hy;have:=hlast y hy;omega
     ·
      rw [List.mem_singleton] at hy;subst hy;omega)
    (fun h=>by simp at h) (fun y hy=>by
     have:(pre++[x])[(pre++[x]).length-1]? =some x:=by simp
     rw [this] at hy;cases hy;rfl) (fun y hy=>hx y (List.mem_cons_of_mem _ hy))
   simp only [Bool.not_true,Bool.false_eq_true,if_false,Bool.true_and];rw [ih];simp only [List.length_append,List.length_singleton,List.append_assoc,List.singleton_append]
variable{xs:List Rt}
theorem check_eq (hx:∀ x∈xs,okR x):rCheck xs=fCheck xs:=by
 unfold rCheck fCheck;split
 ·
  rfl
 ·
  have:=zwL xs [] [] (-1) (fun k=>rfl) .nil (fun y h=>by cases h) (fun _=>rfl) (fun y h=>by simp at h) hx;rw [this,List.range_eq_range'];rfl
end
end Go.Proofs.YtjblkbkmblkgoaaGreat.S
namespace Go.Proofs.YtjblkbkmblkgoaaGreat
section
open Go Go.Kn Go.Proofs
theorem zBh {x:Lm}(h:x.ends=0):lmC x=[x]:=if_pos h
theorem zBl {x:Lm}(h:¬x.ends=0):lmC x=[⟨IntKind.i64.wrap (x.ends-1),x.person,0,0,0,0,3,0,1⟩,x]:=if_neg h
theorem zAY {x:S.Rt}(h:x.ends=0):rtC x=[x]:=if_pos h
theorem zAV {x:S.Rt}(h:¬x.ends=0):rtC x=[⟨IntKind.i64.wrap (x.ends-1),1,0,0,0,0,⟨#[97]⟩,⟨#[97]⟩,0,0,0⟩,x]:=if_neg h
theorem zys {x:Lm}(h: -9223372036854775808≤x.ends∧x.ends≤9223372036854775807):∀ y∈lmC x, -9223372036854775808≤y.ends∧y.ends≤9223372036854775807:=fun y hy=>by
 unfold lmC at hy;split at hy
 ·
  rw [List.mem_singleton.1 hy];exact h
 ·
  simp only [List.mem_cons,List.not_mem_nil,or_false] at hy;rcases hy with rfl | rfl
  ·
   simp
  ·
   exact h
theorem zo8 (n:Int): -9223372036854775808≤IntKind.i64.wrap n∧IntKind.i64.wrap n≤9223372036854775807:=by
 unfold IntKind.wrap;simp only [IntKind.signed,IntKind.bits];simp;omega
theorem zA5 {x:S.Rt}(h:S.okR x):∀ y∈rtC x,S.okR y:=fun y hy=>by
 unfold rtC at hy;split at hy
 ·
  rw [List.mem_singleton.1 hy];exact h
 ·
  simp only [List.mem_cons,List.not_mem_nil,or_false] at hy;rcases hy with rfl | rfl
  ·
   refine ⟨zo8 _,?_,?_,?_,?_,?_,?_,?_,?_⟩<;>simp [S.i64]
  ·
   exact h
variable{x:Nt}
theorem NtW.lm (h:NtW x): -9223372036854775808≤x.lm.ends∧x.lm.ends≤9223372036854775807:=h.ints _ kc
theorem NtW.rt (h:NtW x):S.okR x.rt:=
 ⟨h.ints _ kc,h.ints _ kc,h.ints _ kc,h.ints _ kc,h.ints _ kc,h.ints _ kc,h.ints _ kc,h.ints _ kc,h.ints _ kc⟩
theorem zlB {x:S.Rt}(h:S.okR x):S.fCheck (rtC x)=S.rCheck (rtC x):=(S.check_eq (zA5 h)).symm
variable{I:Qv}
theorem zAu (hN:Nd I x.pt):smP x.pt Jq=z2 x:=by
 have hl:x.pt.needs.length=x.pt.n:=hN.len
 have e:(decide (x.pt.needs=Jq.needs))=((x.pt.n:Int)==0):=by
  rw [Bool.eq_iff_iff,decide_eq_true_eq,beq_iff_eq,←hl];show x.pt.needs=[]↔_;rw [←List.length_eq_zero_iff];omega
 unfold smP smC z2;rw [e];rw [Bool.eq_iff_iff];simp only [Bool.and_eq_true,Bool.not_eq_true',Bool.or_eq_false_iff,bne_eq_false_iff_eq,beq_iff_eq,Bool.not_eq_false'];constructor
 ·
  rintro ⟨⟨⟨⟨⟨⟨h1,h2⟩,h3⟩,h4⟩,h5⟩,h6⟩,h7⟩;exact ⟨⟨⟨⟨⟨h1,h2⟩,h3⟩,h4⟩,h5⟩,h7⟩
 ·
  rintro ⟨⟨⟨⟨⟨h1,h2⟩,h3⟩,h4⟩,h5⟩,h7⟩;exact ⟨⟨⟨⟨⟨⟨h1,h2⟩,h3⟩,h4⟩,h5⟩,h7⟩,h7⟩
theorem zw5 (h:x.kind=1):QO x=(((za0 (lmC x.lm)==0&&z2 x)&&z3 x)&&z4 x):=by
 unfold QO WV zaP;rw [h,if_pos rfl];simp [Bool.and_assoc]
theorem zyy (h:x.kind=2):QO x=(((z1 x&&(KJ x.pt==0))&&z3 x)&&z4 x):=by
 unfold QO WV zaP;rw [h,if_neg kD,if_pos rfl];simp only [show ((2:Int)==1)=false by rfl,show ((2:Int)==2)=true by rfl,show ((2:Int)==3)=false by rfl,show ((2:Int)==4)=false by rfl,Bool.false_or,Bool.true_or,Bool.and_true];cases KJ x.pt==0<;>cases z1 x<;>rfl
theorem ziX (h:x.kind=3):QO x=(((z1 x&&z2 x)&&(L.chk [x.ls]==0))&&z4 x):=by
 unfold QO WV zaP;rw [h,if_neg kD,if_neg kD,if_pos rfl];simp only [show ((3:Int)==1)=false by rfl,show ((3:Int)==2)=false by rfl,show ((3:Int)==3)=true by rfl,show ((3:Int)==4)=false by rfl,Bool.false_or,Bool.true_or,Bool.and_true];cases L.chk [x.ls]==0<;>cases z1 x<;>cases z2 x<;>rfl
theorem zzK (h:x.kind=4):QO x=(((z1 x&&z2 x)&&z3 x)&&(S.rCheck (rtC x.rt)==0)):=by
 unfold QO WV zaP;rw [h,if_neg kD,if_neg kD,if_neg kD,if_pos rfl];simp only [show ((4:Int)==1)=false by rfl,show ((4:Int)==2)=false by rfl,show ((4:Int)==3)=false by rfl,show ((4:Int)==4)=true by rfl,Bool.false_or,Bool.true_or,Bool.and_true];cases S.rCheck (rtC x.rt)==0<;>cases z1 x<;>cases z2 x<;>cases z3 x<;>rfl
theorem zwh (h1:¬x.kind=1)(h2:¬x.kind=2)(h3:¬x.kind=3)(h4:¬x.kind=4):QO x=false:=by
 unfold QO WV;rw [if_neg h1,if_neg h2,if_neg h3,if_neg h4];rfl
theorem zft (a:Int):(!decide (a<0))=decide (a≥0):=by
 rw [Bool.eq_iff_iff];simp
theorem zp2 {a b a0 b0:Nat}(h:Nat.gcd a b=Nat.gcd a0 b0):Nat.gcd b (a % b)=Nat.gcd a0 b0:=
 (Nat.gcd_comm b (a % b)).trans ((Nat.gcd_rec b a).symm.trans ((Nat.gcd_comm b a).trans h))
theorem zpV {a b:Int}(ha:0≤a)(hb:0≤b):((Nat.gcd a.toNat b.toNat:Nat):Int)=zoG a b:=by
 unfold zoG Int.gcd;congr 2<;>omega
theorem zo5 (n d:Int):zoG (zcM n) d=zoG n d:=by
 unfold zoG Int.gcd;have:(zcM n).natAbs=n.natAbs:=by unfold zcM;split<;>omega
 rw [this]
variable{n:Int}
theorem ztH (h: -1073741824≤n∧n≤1073741824):0≤zcM n∧zcM n≤1073741824:=by unfold zcM;split<;>omega
theorem zq4 (n d:Int):(((((decide (d≥1)&&decide (d≤1073741824))&&decide (n≥ -1073741824))&&decide (n≤1073741824))&&(zoG (zcM n) d==1)))=Wz n d:=by
 unfold Wz;rw [zo5,Bool.eq_iff_iff];simp only [Bool.and_eq_true,decide_eq_true_eq,beq_iff_eq,Bool.not_eq_true',Bool.or_eq_false_iff,decide_eq_false_iff_not,bne_eq_false_iff_eq];omega
theorem zpF (fn fd tn td:Int):((((Wz fn fd&&Wz tn td)&&decide (fn≥0))&&decide (fn*td<tn*fd))&&decide (tn≤td))=zcf fn fd tn td:=by
 unfold zcf;generalize (Wz fn fd&&Wz tn td)=a;generalize decide (fn≥0)=b;generalize decide (fn*td<tn*fd)=c;generalize decide (tn≤td)=d;cases a<;>cases b<;>cases c<;>cases d<;>rfl
def frA (x:Sg):Bool:=(((!within x.id 0 1048576|| !within x.role 0 63)|| !within x.bar 0 4095)|| !within x.kind 1 9)|| !within x.mark 1 3
def frB (x:Sg):Bool:=(((!within x.side 0 2|| !within x.dir 0 8)|| !within x.level 0 3)|| !within x.size 0 255)|| !within x.wth 0 64
theorem zoK (x:Sg):frm x=((!frA x&& !frB x)&&zcf x.fn x.fd x.tn x.td):=by
 unfold frm zBe frA frB;generalize within x.id 0 1048576=b1;generalize within x.role 0 63=b2;generalize within x.bar 0 4095=b3;generalize within x.kind 1 9=b4;generalize within x.mark 1 3=b5;generalize within x.side 0 2=b6;generalize within x.dir 0 8=b7;generalize within x.level 0 3=b8;generalize within x.size 0 255=b9;generalize within x.wth 0 64=b10;cases b1<;>cases b2<;>cases b3<;>cases b4<;>cases b5<;>first | rfl | (cases b6<;>cases b7<;>cases b8<;>cases b9<;>cases b10<;>rfl)
theorem zAZ {x:Sg}(h:frA x=true):frm x=false:=by rw [zoK,h];rfl
theorem zBg {x:Sg}(h:frB x=true):frm x=false:=by rw [zoK,h];simp
theorem zAq {x:Sg}(h:frA x=false)(h2:frB x=false):frm x=zcf x.fn x.fd x.tn x.td:=by rw [zoK,h,h2];rfl
variable{xs:List Sg}
theorem zyr (h:xs.length>4096):zjw xs=2:=by unfold zjw;rw [if_pos h]
theorem zxL (h:¬xs.length>4096)(h2:skB xs=false):zjw xs=360:=by unfold zjw;rw [if_neg h,h2];rfl
theorem zwK (h:¬xs.length>4096)(h2:skB xs=true):zjw xs=0:=by unfold zjw;rw [if_neg h,h2];rfl
theorem zsh (p:Pt):(((decide (p.id<1)||decide (p.id>1048576))||decide (p.sign<0))||decide (p.sign>1048576))= !idB p:=by
 unfold idB;rw [Bool.eq_iff_iff];simp only [Bool.or_eq_true,decide_eq_true_eq,Bool.not_eq_true',Bool.and_eq_false_iff,decide_eq_false_iff_not];omega
def zp3 (p:Pt):Bool:=idB p&&(ndB p.id p.needs&&U0 p)
variable{p:Pt}
theorem zyq (h:idB p=false):zp3 p=false:=by unfold zp3;rw [h];rfl
theorem zw8 (h:ndB p.id p.needs=false):zp3 p=false:=by unfold zp3;rw [h,Bool.false_and,Bool.and_false]
theorem znW (h:idB p=true)(h2:ndB p.id p.needs=true):zp3 p=U0 p:=by unfold zp3;rw [h,h2];rfl
theorem zmU (h:¬p.needs.length>32):(if zp3 p=true then (0:Int) else 370)=KJ p:=by
 unfold KJ zp3;rw [if_neg h];cases idB p<;>cases ndB p.id p.needs<;>cases U0 p<;>rfl
variable{f:Int}
theorem znh (h:(decide (f<1)||decide (f>9))=false):within f 1 9=true∧isF f:=by
 simp only [Bool.or_eq_false_iff,decide_eq_false_iff_not] at h;unfold within isF;simp;omega
theorem zj2 (h:(decide (f<1)||decide (f>9))=true):within f 1 9=false:=by
 simp only [Bool.or_eq_true,decide_eq_true_eq] at h;unfold within;simp;omega
theorem zux (hk:p.kind=1)(h:(decide (p.field<1)||decide (p.field>9))=false):(zjW (Ue JZ p.field p.nw) p.nw&&frm (Ue zff p.field p.nw))=U0 p:=by
 obtain ⟨h1,h2⟩:=znh h;rw [zu8 hk h1,zrn h2,zlI h2]
theorem zAN (hk:p.kind=1)(h:(decide (p.field<1)||decide (p.field>9))=true):U0 p=false:=by
 unfold U0;rw [if_pos hk,zj2 h];rfl
end
end Go.Proofs.YtjblkbkmblkgoaaGreat
