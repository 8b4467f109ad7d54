/- partiesSpec_holds, part G of the proof: what its theorems say holds without further conditions. -/
import Derived.Lib.Bytealg
import Derived.Test.YtjblkbkmblkgoaaGreatSPF
namespace Go.Proofs.YtjblkbkmblkgoaaGreat
section
open Go Go.Kn Go.Proofs
theorem zmn:Fun Tryz.prog 218:=.of Tryz.func218 kA kA
theorem zlz:Fun Tryz.prog 219:=.of Tryz.func219 kA kA
theorem ziQ (u:Nat):u<2^64→∀ I,YE Tryz.prog 220 [.int .u64 (u:Nat)] I [] (YQ (Ke u)):=by
 induction u using Nat.strongRecOn with
 | _ u ih=>intro hu I;exact zgX hu fun u' h=>ih u' h kB
theorem zi0 (I:Qu)(n:Int):ZJ Tryz.prog 103 [.int .i64 n] I (.agg (Zg (vcI n)).toArray):=by
 intro g H w hw;refine qe Tryz.func103 Tryz.ntmps103 hw ?_;refine zR<|Qp YG rfl rfl (fun b_2=>zN (zR ?_))
 refine zM<|zV (QD (ps:=[(0,_),(1,_)]) [_,_,_,_] Vs rfl rfl) ?_
 exact zh Zx<|zN (Qs<|ZM rfl rfl Zm zB4 rfl (fun w hw=>⟨by rfl,hw.drop⟩))
theorem zcA (I:Qu)(s:ByteArray):ZJ Tryz.prog 104 [.string s] I (.agg (Zg (vcT s)).toArray):=by
 intro g H w hw;refine qe Tryz.func104 Tryz.ntmps104 hw ?_;refine zR<|Qp YG rfl rfl (fun b_2=>zN (zR ?_))
 refine zM<|zV (QD (ps:=[(0,_),(2,_)]) [_,_,_,_] Vs rfl rfl) ?_
 exact zh Zx<|zN (Qs<|ZM rfl rfl Zm zB4 rfl (fun w hw=>⟨by rfl,hw.drop⟩))
def zyz (x:Va):Prop:=∀ {I:Qu} {cv:Vc} (_hx:VaR I x cv) (_hb:(Va.enc x).length≤900000),ZJ Tryz.prog 218 [.agg (Zg cv).toArray] I (.bool true)
def zwF (x:Va):Prop:=∀ {I:Qu} {cv:Vc} (_hx:VaR I x cv) (_hd:Va.depth x≤1000) (_hb:(Va.enc x).length≤900000),ZJ Tryz.prog 219 [.agg (Zg cv).toArray] I (.int .i64 (Va.depth x:Nat))
theorem zgd (I:Qu)(n:Int):ZJ Tryz.prog 218 [.agg #[.int .i64 1,.int .i64 n,.string ⟨#[]⟩,.slice none 0 0]] I (.bool true):=by
 intro g H w hw;refine qe Tryz.func218 Tryz.ntmps218 hw ?_;have hIc:=zB6 I;refine zR<|QK rfl rfl rfl (fun b_1=>zA (Qb<|QF .here (fun I1 hI1 hb1=>?_)))
 have hIc:=hIc.trans hI1;have h1:=BxI.of hb1;refine Qd (Qm (zR<|zF Zh ?_));refine zV (Qc rfl Ql (fun hg=>by exact Qy.imm h1.out rfl))<|zN (Qw (zR (zC<|zA (zN ?_))))
 refine zI ?_ ?_<;>intro hc6
 ·
  refine zR<|zF Yv ?_
  refine zV (Qc rfl VZ (fun hg=>by exact Qy.imm h1.out rfl))<|zV (J6 rfl rfl rfl) ?_
  refine zM<|Qt 3 rfl rfl rfl ?_
  refine zK (Qa rfl QO) ?_;refine zK (Qc rfl Zo (fun hg=>by exact Qy.imm h1.out rfl)) ?_;refine zK (QT rfl ZN) ?_;refine zK (QA rfl rfl rfl) ?_;refine QE rfl rfl rfl rfl rfl<|zA (zN (Qs (Qi (Qf ?_))))
  exact Qx rfl rfl (fun w hw=>⟨by simp [Kz],(hw.mono hIc).subL Qq⟩)
 simp at hc6
theorem zdl (I:Qu)(s:ByteArray):ZJ Tryz.prog 218 [.agg #[.int .i64 2,.int .i64 0,.string s,.slice none 0 0]] I (.bool true):=by
 intro g H w hw;refine qe Tryz.func218 Tryz.ntmps218 hw ?_;have hIc:=zB6 I;refine zR<|QK rfl rfl rfl (fun b_1=>zA (Qb<|QF .here (fun I1 hI1 hb1=>?_)))
 have hIc:=hIc.trans hI1;have h1:=BxI.of hb1;refine Qd (Qm (zR<|zF Zh ?_));refine zV (Qc rfl Ql (fun hg=>by exact Qy.imm h1.out rfl))<|zN (Qw (zR (zC<|zA (zN ?_))))
 refine zI ?_ ?_<;>intro hc6
 ·
  simp at hc6
 refine zR (zC<|zA (zN ?_));refine zI ?_ ?_<;>intro hc17
 ·
  refine zR<|zF Y3 ?_
  refine zV (Qc rfl Ql (fun hg=>by exact Qy.imm h1.out rfl))<|zC ?_
  refine zM<|Qt 3 rfl rfl rfl ?_
  refine zK (Qa rfl QO) ?_;refine zK (Qc rfl Zo (fun hg=>by exact Qy.imm h1.out rfl)) ?_;refine zK (QT rfl ZN) ?_;refine zK (QA rfl rfl rfl) ?_;refine QE rfl rfl rfl rfl rfl<|zA (zN (Qs (Qi (Qf ?_))))
  exact Qx rfl rfl (fun w hw=>⟨by rfl,(hw.mono hIc).subL Qq⟩)
 simp at hc17
variable{I:Qu}{l:List Va}{hs:List Vc}{a:Option Addr}{m c:Nat}
theorem zjM (hS:Sl I 4 Zg a m c hs)(hl:l.length=hs.length)(hr:∀ (k:Nat) (x:Va) (y:Vc),l[k]? =some x→hs[k]? =some y→VaR I x y)(hm:m≤1000000)(ih:∀ (k:Nat) (x:Va),l[k]? =some x→zyz x)(hb:(Va.encL l).length≤900000):ZJ Tryz.prog 218 [.agg #[.int .i64 3,.int .i64 0,.string ⟨#[]⟩,.slice a m c]] I (.bool true):=by
 intro g H w hw;refine qe Tryz.func218 Tryz.ntmps218 hw ?_;have hIc:=zB6 I;have hml:=hS.len;refine zR<|QK rfl rfl rfl (fun b_1=>zA (Qb<|QF .here (fun I1 hI1 hb1=>?_)))
 have hS:=hS.mono hI1;have hIc:=hIc.trans hI1;have h1:=BxI.of hb1;refine Qd (Qm (zR<|zF Zh ?_));refine zV (Qc rfl Ql (fun hg=>by exact Qy.imm h1.out rfl))<|zN (Qw (zR (zC<|zA (zN ?_))))
 refine zI ?_ ?_<;>intro hc6
 ·
  simp at hc6
 refine zR (zC<|zA (zN ?_));refine zI ?_ ?_<;>intro hc17
 ·
  simp at hc17
 refine zR (zC<|zA (zN ?_));refine zI ?_ ?_<;>intro hc28
 ·
  refine Qm (zR (zA (zN (Qw<|zU [(1,_)] (fun T L0 mz E I' loc'=>∃ (k:Nat),mz=m-k∧E=(3,.int .i64 k)::T∧I1=I'∧L0=loc'∧k≤m) ?_ (h:=⟨0,rfl,rfl,rfl,rfl,Nat.zero_le _⟩)))));rintro mz E I' loc' ⟨k,rfl,rfl,rfl,rfl,hk⟩;refine Qm (zR (zM<|zF QO ?_));refine zV (Qc rfl Zo (fun hg=>by exact Qy.imm h1.out rfl))<|zQ ZN<|zC (zN ?_)
  refine zI ?_ ?_<;>intro hc34
  ·
   have hlt_k:k<m:=(by have h:=hc34;simp at h;omega);obtain ⟨cv,hy⟩:∃ y,hs[k]? =some y:=⟨_,List.getElem?_eq_getElem kB⟩;obtain ⟨x,hlx⟩:∃ y,l[k]? =some y:=⟨_,List.getElem?_eq_getElem kB⟩;have hxy:=(hr k x cv hlx hy).mono hIc;have hle:=zdE (l:=l) (k+1);rw [zbB hlx,List.length_append] at hle;refine Qr (Qd (Qm (Qw (zR<|zF QO ?_))));refine zV (Qc rfl Zo (fun hg=>by exact Qy.imm h1.out rfl)) ?_;refine zM ?_;refine zV (zX ZN hS) ?_;refine zV (Qg rfl Zm (fun hg=>by exact zB7 hS hy) rfl)<|qcV (vs:=[_]) rfl zmn (ih k x hlx hxy kB)<|zO (zN ?_)
   refine zI ?_ ?_<;>intro hc43
   ·
    cases hc43
   refine Qr (Qk (Qd (Qh (zM ?_))));exact zB<|zA (Qb<|zm (h:=⟨m-(k+1),kB,k+1,rfl,rfl,rfl,rfl,kB⟩))
  have hge_k:m≤k:=(by have h:=hc34;simp at h;omega);refine Zk (Qo (Qo (Qz (Qd (zR<|zF Y3 ?_)))));refine zV (Qc rfl Ql (fun hg=>by exact Qy.imm h1.out rfl))<|zC ?_
  refine zM<|Qt 3 rfl rfl rfl ?_
  refine zK (Qa rfl Yv) ?_;refine zK (Qc rfl VZ (fun hg=>by exact Qy.imm h1.out rfl)) ?_;refine zK (J6 rfl rfl rfl)<|QE rfl rfl rfl rfl rfl<|zA (zN (Qs (Qi (Qf ?_))))
  exact Qx rfl rfl (fun w hw=>⟨by simp [Kz],(hw.mono hIc).subL Qq⟩)
 simp at hc28
theorem zfq (I:Qu)(n:Int):ZJ Tryz.prog 219 [.agg #[.int .i64 1,.int .i64 n,.string ⟨#[]⟩,.slice none 0 0]] I (.int .i64 0):=by
 intro g H w hw;refine qe Tryz.func219 Tryz.ntmps219 hw ?_;have hIc:=zB6 I;refine zR<|QK rfl rfl rfl (fun b_1=>zA (Qb<|QF .here (fun I1 hI1 hb1=>?_)))
 have hIc:=hIc.trans hI1;have h1:=BxI.of hb1;refine Qd (Qm (zR<|zF Zh ?_));refine zV (Qc rfl Ql (fun hg=>by exact Qy.imm h1.out rfl))<|zC (zN ?_)
 refine zI ?_ ?_<;>intro hc7
 ·
  exact zR (zA (zN (Qs (Qf<|Qx rfl rfl (fun w hw=>⟨by rfl,(hw.mono hIc).subL Qq⟩)))))
 simp at hc7
theorem zdm (I:Qu)(s:ByteArray):ZJ Tryz.prog 219 [.agg #[.int .i64 2,.int .i64 0,.string s,.slice none 0 0]] I (.int .i64 0):=by
 intro g H w hw;refine qe Tryz.func219 Tryz.ntmps219 hw ?_;have hIc:=zB6 I;refine zR<|QK rfl rfl rfl (fun b_1=>zA (Qb<|QF .here (fun I1 hI1 hb1=>?_)))
 have hIc:=hIc.trans hI1;have h1:=BxI.of hb1;refine Qd (Qm (zR<|zF Zh ?_));refine zV (Qc rfl Ql (fun hg=>by exact Qy.imm h1.out rfl))<|zC (zN ?_)
 refine zI ?_ ?_<;>intro hc7
 ·
  exact zR (zA (zN (Qs (Qf<|Qx rfl rfl (fun w hw=>⟨by rfl,(hw.mono hIc).subL Qq⟩)))))
 simp at hc7
theorem zjP (hS:Sl I 4 Zg a m c hs)(hl:l.length=hs.length)(hr:∀ (k:Nat) (x:Va) (y:Vc),l[k]? =some x→hs[k]? =some y→VaR I x y)(hm:m≤1000000)(ih:∀ (k:Nat) (x:Va),l[k]? =some x→zwF x)(hd:Va.depthL l≤999)(hb:(Va.encL l).length≤900000):ZJ Tryz.prog 219 [.agg #[.int .i64 3,.int .i64 0,.string ⟨#[]⟩,.slice a m c]] I (.int .i64 (Va.depthL l+1:Nat)):=by
 intro g H w hw;refine qe Tryz.func219 Tryz.ntmps219 hw ?_;have hIc:=zB6 I;have hml:=hS.len;refine zR<|QK rfl rfl rfl (fun b_1=>zA (Qb<|QF .here (fun I1 hI1 hb1=>?_)))
 have hS:=hS.mono hI1;have hIc:=hIc.trans hI1;have h1:=BxI.of hb1;refine Qd (Qm (zR<|zF Zh ?_));refine zV (Qc rfl Ql (fun hg=>by exact Qy.imm h1.out rfl))<|zC (zN ?_)
 refine zI ?_ ?_<;>intro hc7
 ·
  simp at hc7
 refine Qr (Qd (zR (zA (zN (Qm (zR<|zA (zN (Qw<|zU [(1,_)] (fun T L0 mz E I' loc'=>∃ (k:Nat) (dd:Int),mz=m-k∧E=(3,.int .i64 dd)::(4,.int .i64 k)::T∧I1=I'∧L0=loc'∧k≤m∧dd=((Va.depthL (l.take k):Nat):Int)) ?_ (h:=⟨0,0,rfl,rfl,rfl,rfl,Nat.zero_le _,rfl⟩)))))))));rintro mz E I' loc' ⟨k,dd,rfl,rfl,rfl,rfl,hk,hdd⟩;refine Qm (zR (zM<|zF QO ?_));refine zV (Qc rfl Zo (fun hg=>by exact Qy.imm h1.out rfl))<|zQ ZN<|zC (zN ?_)
 refine zI ?_ ?_<;>intro hc12
 ·
  have hlt_k:k<m:=(by have h:=hc12;simp at h;omega);obtain ⟨cv,hy⟩:∃ y,hs[k]? =some y:=⟨_,List.getElem?_eq_getElem kB⟩;obtain ⟨x,hlx⟩:∃ y,l[k]? =some y:=⟨_,List.getElem?_eq_getElem kB⟩;have hxy:=(hr k x cv hlx hy).mono hIc;have hle:=zdE (l:=l) (k+1);rw [zbB hlx,List.length_append] at hle;have hdx:=JX hd hlx;have hdt:Va.depthL (l.take k)≤999:=Nat.le_trans (zkd l k) hd;refine Qr (Qd (Qm (Qw (Qh (zM<|zF QO ?_)))));refine zV (Qc rfl Zo (fun hg=>by exact Qy.imm h1.out rfl)) ?_;refine zM ?_;refine zV (zX ZN hS) ?_;refine zV (Qg rfl Zm (fun hg=>by exact zB7 hS hy) rfl)<|qcV (vs:=[_]) rfl zlz (ih k x hlx hxy kB kB)<|zV (VG rfl rfl)<|zA (Qb (Qk (Qd (Qh<|zM ?_))))
  refine zB<|zA (Qb ?_)
  exact zm (h:=⟨m-(k+1),kB,k+1,_,rfl,rfl,rfl,rfl,kB,by rw [zcB hlx,hdd];unfold zcU;split<;>omega⟩)
 have hge_k:m≤k:=(by have h:=hc12;simp at h;omega);have hke:l.take k=l:=List.take_of_length_le kB;rw [hke] at hdd;refine Zk (Qo (Qo (Qz (Qd (zR (zM ?_))))));refine zB<|zA (zN (Qs ?_))
 exact Qx rfl rfl (fun w hw=>⟨by rw [hdd];rfl,(hw.mono hIc).subL Qq⟩)
theorem zgH:Fun Tryz.prog 169:=.of Tryz.func169 kA kA
theorem zs5:Fun Tryz.prog 221:=.of Tryz.func221 kA kA
def zxw (x:Va):Prop:=∀ {I:Qu} {cv:Vc} (_hx:VaR I x cv) (_hok:Va.ok x) (_hb:(Va.enc x).length≤900000),YE Tryz.prog 169 [.agg (Zg cv).toArray] I [] (YQ (Va.enc x))
theorem zfi (I:Qu){n:Int}(hn: -9223372036854775808≤n∧n≤9223372036854775807):YE Tryz.prog 169 [.agg #[.int .i64 1,.int .i64 n,.string ⟨#[]⟩,.slice none 0 0]] I [] (YQ (Va.enc (.int n))):=by
 intro g H w hw;refine qe Tryz.func169 Tryz.ntmps169 hw ?_;have hIc:=zB6 I;have h10:=UI (zkW hn);refine zR<|QK rfl rfl rfl (fun b_1=>zA (Qb<|QF .here (fun I1 hI1 hb1=>?_)))
 have hIc:=hIc.trans hI1;have h1:=BxI.of hb1;refine Qd (Qm (zR<|zF Zh ?_));refine zV (Qc rfl Ql (fun hg=>by exact Qy.imm h1.out rfl))<|zN (Qw (zR (zC<|zA (zN ?_))))
 refine zI ?_ ?_<;>intro hc7
 ·
  refine zR<|zpb [(0,_)] [VY 1] VB (fun b_9=>zF Y3 ?_)
  refine zV (Qc rfl Ql (fun hg=>by exact Qy.imm h1.out rfl))<|qcV (vs:=[_]) rfl zs5 (zxM _ hn)<|zpc [_] rfl zcl .nil (ziQ (zz n) (zkW hn) _) ?_
  rintro vv2 I2 L2 hI2 ⟨rfl,a9,c9,rfl,hS9⟩;have hIc:=hIc.trans hI2;refine zpa (_) ((Ke (zz n):List Nat).flatMap VY) ([(b_9,_)]) rfl rfl VB (zoc 1) (hS9.src Vd) (zce _) ?_;intro v9 L9 hO9 _;rw [←List.flatMap_append] at hO9;refine zA (Qb<|zx4 hO9 Vd (fun I3 hI3 af3 cf3 ef3 hZ=>?_));subst ef3;have hIc:=hIc.trans hI3;exact Qd (Qs (Qi (Qf<|Qx rfl rfl (fun w hw=>⟨_,I3,[],rfl,hIc,by exact hw,zcY hZ (by simp [Va.enc])⟩))))
 simp at hc7
theorem zdt (I:Qu)(s:ByteArray)(hs:s.size≤900000):YE Tryz.prog 169 [.agg #[.int .i64 2,.int .i64 0,.string s,.slice none 0 0]] I [] (YQ (Va.enc (.text (Ur s)))):=by
 intro g H w hw;refine qe Tryz.func169 Tryz.ntmps169 hw ?_;have hIc:=zB6 I;have h10:=UI (u:=s.size) kB;refine zR<|QK rfl rfl rfl (fun b_1=>zA (Qb<|QF .here (fun I1 hI1 hb1=>?_)))
 have hIc:=hIc.trans hI1;have h1:=BxI.of hb1;refine Qd (Qm (zR<|zF Zh ?_));refine zV (Qc rfl Ql (fun hg=>by exact Qy.imm h1.out rfl))<|zN (Qw (zR (zC<|zA (zN ?_))))
 refine zI ?_ ?_<;>intro hc7
 ·
  simp at hc7
 refine zR (zC<|zA (zN ?_));refine zI ?_ ?_<;>intro hc15
 ·
  refine Qm ?_;have hD:=zB6 I1;refine Zn<|QJ I1 [] mixed<|zT 1 rfl (Qa rfl Yv) hD<|zT 2 rfl (Qc rfl VZ (fun hg=>by exact Qy.imm h1.out rfl)) hD<|zT 3 rfl (Wa rfl zyx) hD<|zT 4 rfl (Vb (ZS rfl VK) (congrArg (Value.int .u64) (ZW (n:=(s.size:Int)) ⟨kB,kB⟩))) hD<|zT 7 rfl (Qa rfl Yv) hD<|zT 8 rfl (Qc rfl VZ (fun hg=>by exact Qy.imm h1.out rfl)) hD ?_
  refine QU 0 5 rfl rfl kA ?_ ?_
  focus
   refine zpb [(0,_)] [VY 2] VB (fun b_17=>Qb<|zD hD<|qd 5 rfl<|zpc [_] rfl zcl .nil (ziQ s.size kB _) ?_);rintro vv2 I2 L2 hI2 ⟨rfl,a9,c9,rfl,hS9⟩;have hIc:=hIc.trans hI2;have hD:=hD.trans hI2
  rotate_left
  refine zpc [_] rfl zcl .nil (ziQ s.size kB _) ?_;rintro vv4 I4 L4 hI4 ⟨rfl,a9,c9,rfl,hS9⟩;have hIc:=hIc.trans hI4;have hD:=hD.trans hI4;refine Qb<|zD hD<|qd 0 rfl<|zpb [(0,_)] [VY 2] VB (fun b_17=>?_)
  all_goals
   refine Qb<|zD hD<|qd 6 rfl<|zpa (_) ((Ke s.size:List Nat).flatMap VY) ([(b_17,_)]) rfl rfl VB (zoc 2) (hS9.src Vd) (zce _) ?_
   intro v9 L9 hO9 _;rw [←List.flatMap_append] at hO9;refine Qb<|zD hD<|qd 9 rfl<|zaz rfl rfl VB zyx hO9 (by repeat (first | exact .cons .here .nil | exact ZL | exact Zi | apply ZF | apply ZC)) kB rfl rfl ?_
   intro v11 L11 hO11;have hO12:ZU 5 1 v11 (1+(Ke s.size).length+s.size) ((([2]++Ke s.size)++Ur s).flatMap VY) L11:=(by rw [List.flatMap_append];exact hO11);refine Qb<|zD hD<|zT 10 rfl (QB rfl) hD<|Qn kA<|Qv<|zx4 hO12 Vd (fun I5 hI5 af5 cf5 ef5 hZ=>?_)
   subst ef5;have hIc:=hIc.trans hI5;refine Qd (Qs (Qi (Qf ?_)));exact Qx rfl rfl (fun w hw=>⟨_,I5,[],rfl,hIc,by exact hw,zcY hZ (by rw [Va.enc,JM];simp)⟩)
 simp at hc15
theorem zj7 (hS:Sl I 4 Zg a m c hs)(hl:l.length=hs.length)(hr:∀ (k:Nat) (x:Va) (y:Vc),l[k]? =some x→hs[k]? =some y→VaR I x y)(hm:m≤1000000)(ih:∀ (k:Nat) (x:Va),l[k]? =some x→zxw x)(hok:Va.okL l)(hb:(Va.enc (.list l)).length≤900000):YE Tryz.prog 169 [.agg #[.int .i64 3,.int .i64 0,.string ⟨#[]⟩,.slice a m c]] I [] (YQ (Va.enc (.list l))):=by
 intro g H w hw;refine qe Tryz.func169 Tryz.ntmps169 hw ?_;have hIc:=zB6 I;have hml:=hS.len;have hel:(Va.enc (.list l)).length=(Ke l.length).length+(Va.encL l).length+1:=(by simp [Va.enc]);have h10:=UI (u:=l.length) kB;refine zR<|QK rfl rfl rfl (fun b_1=>zA (Qb<|QF .here (fun I1 hI1 hb1=>?_)))
 have hS:=hS.mono hI1;have hIc:=hIc.trans hI1;have h1:=BxI.of hb1;refine Qd (Qm (zR<|zF Zh ?_));refine zV (Qc rfl Ql (fun hg=>by exact Qy.imm h1.out rfl))<|zN (Qw (zR (zC<|zA (zN ?_))))
 refine zI ?_ ?_<;>intro hc7
 ·
  simp at hc7
 refine zR (zC<|zA (zN ?_));refine zI ?_ ?_<;>intro hc15
 ·
  simp at hc15
 refine Qr (Qk (Qd (zR<|zpb [(0,_)] [VY 3] VB (fun b_27=>zF QO ?_))));refine zV (Qc rfl Zo (fun hg=>by exact Qy.imm h1.out rfl))<|zQ ZN<|zV (Vb (ZS rfl VK) (congrArg (Value.int .u64) ((ZW (n:=(m:Int)) ⟨kB,kB⟩).trans (show (m:Int)=(l.length:Int) by omega))))<|zpc [_] rfl zcl .nil (ziQ l.length kB _) ?_
 rintro vv2 I2 L2 hI2 ⟨rfl,a9,c9,rfl,hS9⟩;have hS:=hS.mono hI2;have h1:=h1.mono hI2;have hIc:=hIc.trans hI2;refine zpa (_) ((Ke l.length:List Nat).flatMap VY) ([(b_27,_)]) rfl rfl VB (zoc 3) (hS9.src Vd) (zce _) ?_;intro v9 L9 hO9 _;rw [←List.flatMap_append] at hO9;refine zA (zN (Qm (zR<|zA (zN (Qw<|zU [(1,_)] (fun T L0 mz E I' loc'=>∃ (k:Nat) (v:Value) (Lw:Go.Kn.Loc),mz=m-k∧E=(3,v)::(4,.int .i64 k)::T∧HLe I2 I'∧Lw=loc'∧k≤m∧XB 5 v (3::(Ke l.length++Va.encL (l.take k))) Lw) ?_ (h:=⟨0,_,_,rfl,rfl,zB6 _,rfl,Nat.zero_le _,by rw [List.append_nil,List.take_zero,show (3::(Ke l.length++Va.encL []):List Nat)=[3]++Ke l.length by simp [Va.encL]];exact XB.app (xs:=[3]) (by rw [List.length_singleton];exact hO9)⟩))))));rintro mz E J3 loc' ⟨k,v,Lw,rfl,rfl,hJ,rfl,hk,hO⟩;have hS:=hS.mono hJ;have h1:=h1.mono hJ;have hIc:=hIc.trans hJ;have hB1:=hJ;refine Qm (zR (zM<|zF QO ?_));refine zV (Qc rfl Zo (fun hg=>by exact Qy.imm h1.out rfl))<|zQ ZN<|zC (zN ?_)
 refine zI ?_ ?_<;>intro hc38
 ·
  have hlt_k:k<m:=(by have h:=hc38;simp at h;omega);obtain ⟨cv,hy⟩:∃ y,hs[k]? =some y:=⟨_,List.getElem?_eq_getElem kB⟩;obtain ⟨x,hlx⟩:∃ y,l[k]? =some y:=⟨_,List.getElem?_eq_getElem kB⟩;have hxy:=(hr k x cv hlx hy).mono hIc;have hokx:=zaE hok hlx;have hle:=zdE (l:=l) (k+1);rw [zbB hlx,List.length_append] at hle;have hxl:((3::(Ke l.length++Va.encL (l.take k))):List Nat).length=(Ke l.length).length+(Va.encL (l.take k)).length+1:=(by simp);refine Qr (Qd (Qm (Qw (Qh (zM<|zF QO ?_)))));refine zV (Qc rfl Zo (fun hg=>by exact Qy.imm h1.out rfl)) ?_;refine zM ?_;refine zV (zX ZN hS) ?_;refine zV (Qg rfl Zm (fun hg=>by exact zB7 hS hy) rfl)<|zpc [_] rfl zgH .nil (ih k x hlx hxy hokx kB) ?_
  rintro vv4 I4 L4 hI4 ⟨rfl,a8,c8,rfl,hS8⟩;have hB1:=hB1.trans hI4;refine zpa (_) ((Va.enc x).flatMap VY) (Lw) rfl rfl VB hO (hS8.src Vd) (zce _) ?_;intro v9 L9 hO9 _;rw [←List.flatMap_append] at hO9;refine zA (Qb (Qk (Qd (Qh<|zM ?_))));refine zB<|zA (Qb ?_)
  exact zm (h:=⟨m-(k+1),kB,k+1,_,_,rfl,rfl,hB1,rfl,kB,by rw [zbB hlx,←List.append_assoc,←List.cons_append];exact XB.app hO9⟩)
 have hge_k:m≤k:=(by have h:=hc38;simp at h;omega);have hke:l.take k=l:=List.take_of_length_le kB;rw [hke] at hO;refine Zk (Qo (Qo (Qz (Qd (Qm<|zx4 hO Vd (fun I5 hI5 af5 cf5 ef5 hZ=>?_))))));subst ef5;have hIc:=hIc.trans hI5;refine Qh (zM<|zA (zN (Qs ?_)));exact Qx rfl rfl (fun w hw=>⟨_,I5,[],rfl,hIc,by exact hw,zcY hZ (by simp [Va.enc])⟩)
theorem zfA (d:Nat):∀ x,Va.depth x≤d→(∀ {I:Qu} {cv:Vc},VaR I x cv→(Va.enc x).length≤900000→True)→zxw x:=by
 induction d with
 | zero=>
  intro x hd _ I cv hx hok hb
  cases x with
  | int n=>cases hx;exact zfi I hok
  | text s=>cases hx;have h:=zdt I (UY s) (by rw [Wt];simp only [Va.enc,List.length_cons,List.length_append] at hb;omega);rw [Jp hok.1] at h;exact h
  | list l=>simp [Va.depth] at hd
 | succ d ih=>
  intro x hd _ I cv hx hok hb
  cases x with
  | int n=>cases hx;exact zfi I hok
  | text s=>cases hx;have h:=zdt I (UY s) (by rw [Wt];simp only [Va.enc,List.length_cons,List.length_append] at hb;omega);rw [Jp hok.1] at h;exact h
  | list l=>
   cases hx with
   | list hS hl hr=>
    have hle:=Va.encL_len l;have hml:=hS.len;exact zj7 hS hl hr (by simp only [Va.enc,List.length_cons,List.length_append] at hb;dsimp only;omega) (fun k y hy=>ih y (JX (l:=l) (by simp only [Va.depth] at hd;omega) hy) (fun _ _=>trivial)) hok.2 hb
theorem znx:Fun Tryz.prog 168:=.of Tryz.func168 kA kA
theorem zom (d:Nat):∀ x,Va.depth x≤d→zyz x:=by
 induction d with
 | zero=>
  intro x hd I cv hx hb
  cases x with
  | int n=>cases hx;exact zgd _ n
  | text s=>cases hx;exact zdl _ _
  | list l=>simp [Va.depth] at hd
 | succ d ih=>
  intro x hd I cv hx hb
  cases x with
  | int n=>cases hx;exact zgd _ n
  | text s=>cases hx;exact zdl _ _
  | list l=>
   cases hx with
   | list hS hl hr=>
    have hle:=Va.encL_len l;have hml:=hS.len;have hb2:(Va.encL l).length≤900000:=(by simp only [Va.enc,List.length_cons,List.length_append] at hb;omega);exact zjM hS hl hr (by dsimp only;omega) (fun k y hy=>ih y (JX (l:=l) (by simp only [Va.depth] at hd;omega) hy)) hb2
theorem zoZ (d:Nat):∀ x,Va.depth x≤d→zwF x:=by
 induction d with
 | zero=>
  intro x hd I cv hx h1 hb
  cases x with
  | int n=>cases hx;exact zfq _ n
  | text s=>cases hx;exact zdm _ _
  | list l=>simp [Va.depth] at hd
 | succ d ih=>
  intro x hd I cv hx h1 hb
  cases x with
  | int n=>cases hx;exact zfq _ n
  | text s=>cases hx;exact zdm _ _
  | list l=>
   cases hx with
   | list hS hl hr=>
    have hle:=Va.encL_len l;have hml:=hS.len;have hb2:(Va.encL l).length≤900000:=(by simp only [Va.enc,List.length_cons,List.length_append] at hb;omega);exact zjP hS hl hr (by dsimp only;omega) (fun k y hy=>ih y (JX (l:=l) (by simp only [Va.depth] at hd;omega) hy)) (by simp only [Va.depth] at h1;omega) hb2
variable{cv:Vc}
theorem ziE {x:Va}(hx:VaR I x cv)(hd:Va.depth x≤16)(_hok:Va.ok x)(hb:(Va.enc x).length≤900000):ZJ Tryz.prog 168 [.agg (Zg cv).toArray] I (.int .i64 0):=by
 intro g H w hw;refine qe Tryz.func168 Tryz.ntmps168 hw ?_;have hIc:=zB6 I;refine zR<|QK rfl rfl rfl (fun b_1=>zA (Qb<|QF .here (fun I1 hI1 hb1=>?_)))
 have hx:=hx.mono hI1;have hIc:=hIc.trans hI1;have h1:=BxI.of hb1;refine Qd (Qm (zR<|zV (Qg rfl Zm (fun hg=>by exact BxI.cells (vs:=Zg cv) h1) rfl)<|qcV (vs:=[_]) rfl zmn (zom _ x (Nat.le_refl _) hx hb)<|zO (zN ?_)));refine zI ?_ ?_<;>intro hc5
 ·
  simp at hc5
 refine Qr (Qd (Qm (zR<|zV (Qg rfl Zm (fun hg=>by exact BxI.cells (vs:=Zg cv) h1) rfl)<|qcV (vs:=[_]) rfl zlz (zoZ _ x (Nat.le_refl _) hx kB hb)<|zC (zN ?_))));refine zI ?_ ?_<;>intro hc8
 ·
  simp at hc8;omega
 exact Qr (Qd (zR (zA (zN (Qs<|Qx rfl rfl (fun w hw=>⟨by rfl,(hw.mono hIc).subL Qq⟩))))))
theorem X1 {x:Va}(hx:VaR I x cv)(hd:Va.depth x≤16)(hok:Va.ok x)(hb:(Va.enc x).length≤900000):YE Tryz.prog 105 [.agg (Zg cv).toArray] I [] (fun v I' L'=>L'=[]∧∃ a c,v= .tuple #[.slice a (Va.enc x).length c,.int .i64 0]∧Sl I' 1 VY a (Va.enc x).length c (Va.enc x)):=by
 intro g H w hw;refine qe Tryz.func105 Tryz.ntmps105 hw ?_;have hIc:=zB6 I;refine zR<|QK rfl rfl rfl (fun b_1=>zA<|zA (Qb<|QF .here (fun I1 hI1 hb1=>?_)))
 have hx:=hx.mono hI1;have hIc:=hIc.trans hI1;have h1:=BxI.of hb1;refine Qd (zR<|zV (Qg rfl Zm (fun hg=>by exact BxI.cells (vs:=Zg cv) h1) rfl)<|qcV (vs:=[_]) rfl znx (ziE hx hd hok hb) ?_);refine zA (zN (Qm (zR<|zM<|zC (zN ?_))));refine zI ?_ ?_<;>intro hc8
 ·
  simp at hc8
 refine Qr (Qd (zR<|zV (Qg rfl Zm (fun hg=>by exact BxI.cells (vs:=Zg cv) h1) rfl)<|zpc [_] rfl zgH .nil (zfA _ x (Nat.le_refl _) (fun _ _=>trivial) hx hok hb) ?_));rintro vv2 I2 L2 hI2 ⟨rfl,a9,c9,rfl,hS9⟩;have hIc:=hIc.trans hI2;exact zA<|zA (zN (Qs<|Vq rfl rfl rfl (fun w hw=>⟨_,I2,[],rfl,hIc,hw.subL Qq,rfl,_,_,rfl,hS9⟩)))
set_option maxRecDepth 100000 in
theorem zxn (I:Qu) (x:Nt):YE Tryz.prog 102 [J0 x] I [] (fun v I' L'=>L'=[]∧∃ a c,v= .slice a 42 c∧Sl I' 1 Z5 a 42 c (Y9 x)):=by
 intro g H w hw;refine qe Tryz.func102 Tryz.ntmps102 hw ?_;have hIc:=zB6 I;refine zR<|QK rfl rfl rfl (fun b_1=>zA (Qb<|QF .here (fun I1 hI1 hb1=>?_)))
 have hIc:=hIc.trans hI1;have h1:=BxI.of hb1;refine Qd (zR<|zF Vt ?_);refine zV (Qg rfl Km (fun hg=>by exact zeB (BxI.cells (vs:=Zf x) h1)) rfl)<|Qp zfS rfl rfl (fun b_3=>?_)
 refine zh XP ?_;refine Qb<|QF .here (fun I2 hI2 hb2=>?_)
 have h1:=h1.mono hI2;have hIc:=hIc.trans hI2;have h3:=BxI.of hb2;refine Qd (zR<|zF YA ?_);refine zV (Qg rfl VW (fun hg=>by exact za6 (BxI.cells (vs:=Zf x) h1)) rfl)<|Qp zb0 rfl rfl (fun b_4=>?_)
 refine zh U0 ?_;refine Qb<|QF .here (fun I3 hI3 hb3=>?_)
 have h1:=h1.mono hI3;have h3:=h3.mono hI3;have hIc:=hIc.trans hI3;have h4:=BxI.of hb3;refine Qd (zR<|zF YU ?_);refine zV (Qg rfl ZP (fun hg=>by exact zkh (BxI.cells (vs:=Xu x.pt) h4)) rfl)<|Qp zhH rfl rfl (fun b_5=>?_)
 refine zh Jn ?_;refine Qb<|QF .here (fun I4 hI4 hb4=>?_)
 have h1:=h1.mono hI4;have h3:=h3.mono hI4;have h4:=h4.mono hI4;have hIc:=hIc.trans hI4;have h5:=BxI.of hb4;refine Qd (zR<|zF V9 ?_);refine zV (Qg rfl Kj (fun hg=>by exact zdG (BxI.cells (vs:=Zf x) h1)) rfl)<|Qp zhe rfl rfl (fun b_6=>?_)
 refine zh zaX ?_;refine Qb<|QF .here (fun I5 hI5 hb5=>?_)
 have h1:=h1.mono hI5;have h3:=h3.mono hI5;have h4:=h4.mono hI5;have h5:=h5.mono hI5;have hIc:=hIc.trans hI5;have h6:=BxI.of hb5;refine Qd (zR<|zF YB ?_);refine zV (Qg rfl Y6 (fun hg=>by exact zeb (BxI.cells (vs:=Zf x) h1)) rfl)<|Qp za0 rfl rfl (fun b_7=>?_)
 refine zh Uq ?_;refine Qb<|QF .here (fun I6 hI6 hb6=>?_)
 have h1:=h1.mono hI6;have h3:=h3.mono hI6;have h4:=h4.mono hI6;have h5:=h5.mono hI6;have h6:=h6.mono hI6;have hIc:=hIc.trans hI6;have h7:=BxI.of hb6;refine Qd (zR<|zF Vu ?_);refine zV (Qc rfl Ql (fun hg=>by exact Qy.imm h1.out rfl))<|zF YV ?_
 refine zV (Qc rfl Ql (fun hg=>by exact Qy.imm h3.out rfl))<|zF Ju ?_
 refine zV (Qc rfl Ql (fun hg=>by exact Qy.imm h3.out rfl))<|zF Y0 ?_
 refine zV (Qc rfl Ql (fun hg=>by exact Qy.imm h3.out rfl))<|zF WF ?_
 refine zV (Qc rfl Ql (fun hg=>by exact Qy.imm h3.out rfl))<|zF KZ ?_
 refine zV (Qc rfl Ql (fun hg=>by exact Qy.imm h3.out rfl))<|zF Kq ?_
 refine zV (Qc rfl Ql (fun hg=>by exact Qy.imm h3.out rfl))<|zF JI<|zF X5 ?_
 refine zV (Qc rfl Ql (fun hg=>by exact Qy.imm h3.out rfl))<|zF JI<|zF JS ?_
 refine zV (Qc rfl Ql (fun hg=>by exact Qy.imm h3.out rfl))<|zF JI<|zF Kt ?_
 refine zV (Qc rfl Ql (fun hg=>by exact Qy.imm h3.out rfl))<|zpb [(0,_),(1,_),(2,_),(3,_),(4,_),(5,_),(6,_),(7,_),(8,_),(9,_)] [Z5 x.kind,Z5 x.lm.no,Z5 x.lm.person,Z5 x.lm.ends,Z5 x.lm.lo,Z5 x.lm.hi,Z5 x.lm.known,Z5 x.lm.ck,Z5 x.lm.cl,Z5 x.lm.cn] Vh (fun b_42=>zA<|zN (zR ?_))
 refine zM<|zF Yk ?_
 refine zV (Qc rfl Ql (fun hg=>by exact Qy.imm h4.out rfl))<|zF JH ?_
 refine zV (Qc rfl Ql (fun hg=>by exact Qy.imm h4.out rfl))<|zF YK ?_
 refine zV (Qc rfl Ql (fun hg=>by exact Qy.imm h4.out rfl))<|zF YI ?_
 refine zV (Qc rfl Ql (fun hg=>by exact Qy.imm h4.out rfl))<|zF JJ ?_
 refine zV (Qc rfl Ql (fun hg=>by exact Qy.imm h5.out rfl))<|zF UT ?_
 refine zV (Qc rfl Ql (fun hg=>by exact Qy.imm h5.out rfl))<|zF UG ?_
 refine zV (Qc rfl Ql (fun hg=>by exact Qy.imm h5.out rfl))<|zF UU ?_
 refine zV (Qc rfl Ql (fun hg=>by exact Qy.imm h5.out rfl))<|zF zbk ?_
 refine zV (Qc rfl Ql (fun hg=>by exact Qy.imm h5.out rfl))<|zF UK ?_
 refine zV (Qc rfl Ql (fun hg=>by exact Qy.imm h5.out rfl))<|zF UW ?_
 refine zV (Qc rfl Ql (fun hg=>by exact Qy.imm h5.out rfl))<|zF UJ ?_
 refine zV (Qc rfl Ql (fun hg=>by exact Qy.imm h5.out rfl))<|zF UO ?_
 refine zV (Qc rfl Ql (fun hg=>by exact Qy.imm h5.out rfl))<|zF UQ ?_
 refine zV (Qc rfl Ql (fun hg=>by exact Qy.imm h5.out rfl))<|zF Jv<|zF Y2 ?_
 refine zV (Qc rfl Ql (fun hg=>by exact Qy.imm h5.out rfl))<|zF Jv<|zF Vr ?_
 refine zV (Qc rfl Ql (fun hg=>by exact Qy.imm h5.out rfl))<|zF Jo<|zF Y2 ?_
 refine zV (Qc rfl Ql (fun hg=>by exact Qy.imm h5.out rfl))<|zF Jo<|zF Vr ?_
 refine zV (Qc rfl Ql (fun hg=>by exact Qy.imm h5.out rfl))<|zpb [(0,_),(1,_),(2,_),(3,_),(4,_),(5,_),(6,_),(7,_),(8,_),(9,_),(10,_),(11,_),(12,_),(13,_),(14,_),(15,_),(16,_),(17,_)] [Z5 x.pt.id,Z5 x.pt.kind,Z5 x.pt.sign,Z5 x.pt.field,Z5 x.pt.nw.id,Z5 x.pt.nw.role,Z5 x.pt.nw.bar,Z5 x.pt.nw.mark,Z5 x.pt.nw.kind,Z5 x.pt.nw.side,Z5 x.pt.nw.dir,Z5 x.pt.nw.level,Z5 x.pt.nw.size,Z5 x.pt.nw.wth,Z5 x.pt.nw.fn,Z5 x.pt.nw.fd,Z5 x.pt.nw.tn,Z5 x.pt.nw.td] Vh (fun b_84=>?_)
 refine zpa (_) (([x.pt.id,x.pt.kind,x.pt.sign,x.pt.field,x.pt.nw.id,x.pt.nw.role,x.pt.nw.bar,x.pt.nw.mark,x.pt.nw.kind,x.pt.nw.side,x.pt.nw.dir,x.pt.nw.level,x.pt.nw.size,x.pt.nw.wth,x.pt.nw.fn,x.pt.nw.fd,x.pt.nw.tn,x.pt.nw.td]:List Int).flatMap Z5) ([(b_42,_)]) rfl rfl Vh (zBt [x.kind,x.lm.no,x.lm.person,x.lm.ends,x.lm.lo,x.lm.hi,x.lm.known,x.lm.ck,x.lm.cl,x.lm.cn] rfl rfl kC) ⟨rfl,fun _=>rfl,by repeat (first | exact zB4 | apply zB3 | apply zB5)⟩ (za5 [x.pt.id,x.pt.kind,x.pt.sign,x.pt.field,x.pt.nw.id,x.pt.nw.role,x.pt.nw.bar,x.pt.nw.mark,x.pt.nw.kind,x.pt.nw.side,x.pt.nw.dir,x.pt.nw.level,x.pt.nw.size,x.pt.nw.wth,x.pt.nw.fn,x.pt.nw.fd,x.pt.nw.tn,x.pt.nw.td]) ?_;intro v2 L2 hO2 _;rw [←List.flatMap_append] at hO2;refine zA<|zN (zR ?_)
 refine zM<|zF Ky ?_
 refine zV (Qc rfl Ql (fun hg=>by exact Qy.imm h6.out rfl))<|zF zbm ?_
 refine zV (Qc rfl Ql (fun hg=>by exact Qy.imm h6.out rfl))<|zF zbg ?_
 refine zV (Qc rfl Ql (fun hg=>by exact Qy.imm h6.out rfl))<|zF zbh ?_
 refine zV (Qc rfl Ql (fun hg=>by exact Qy.imm h6.out rfl))<|zF zbd ?_
 refine zV (Qc rfl Ql (fun hg=>by exact Qy.imm h6.out rfl))<|zpb [(0,_),(1,_),(2,_),(3,_),(4,_)] [Z5 x.ls.no,Z5 x.ls.person,Z5 x.ls.version,Z5 x.ls.at_,Z5 x.ls.known] Vh (fun b_97=>?_)
 refine zpa (_) (([x.ls.no,x.ls.person,x.ls.version,x.ls.at_,x.ls.known]:List Int).flatMap Z5) (L2) rfl rfl Vh hO2 ⟨rfl,fun _=>rfl,by repeat (first | exact zB4 | apply zB3 | apply zB5)⟩ (za5 [x.ls.no,x.ls.person,x.ls.version,x.ls.at_,x.ls.known]) ?_;intro v3 L3 hO3 _;rw [←List.flatMap_append] at hO3;refine zA<|zN (zR ?_)
 refine zM<|zF Ve ?_
 refine zV (Qc rfl Ql (fun hg=>by exact Qy.imm h7.out rfl))<|zF Jb ?_
 refine zV (Qc rfl Ql (fun hg=>by exact Qy.imm h7.out rfl))<|zF JL ?_
 refine zV (Qc rfl Ql (fun hg=>by exact Qy.imm h7.out rfl))<|zF Kr ?_
 refine zV (Qc rfl Ql (fun hg=>by exact Qy.imm h7.out rfl))<|zF Kw ?_
 refine zV (Qc rfl Ql (fun hg=>by exact Qy.imm h7.out rfl))<|zF Vp ?_
 refine zV (Qc rfl Ql (fun hg=>by exact Qy.imm h7.out rfl))<|zF KA ?_
 refine zV (Qc rfl Ql (fun hg=>by exact Qy.imm h7.out rfl))<|zF JP ?_
 refine zV (Qc rfl Ql (fun hg=>by exact Qy.imm h7.out rfl))<|zF YT ?_
 refine zV (Qc rfl Ql (fun hg=>by exact Qy.imm h7.out rfl))<|zpb [(0,_),(1,_),(2,_),(3,_),(4,_),(5,_),(6,_),(7,_),(8,_)] [Z5 x.rt.no,Z5 x.rt.kind,Z5 x.rt.edition,Z5 x.rt.holder,Z5 x.rt.sign,Z5 x.rt.ends,Z5 x.rt.lo,Z5 x.rt.hi,Z5 x.rt.known] Vh (fun b_118=>?_)
 refine zpa (_) (([x.rt.no,x.rt.kind,x.rt.edition,x.rt.holder,x.rt.sign,x.rt.ends,x.rt.lo,x.rt.hi,x.rt.known]:List Int).flatMap Z5) (L3) rfl rfl Vh hO3 ⟨rfl,fun _=>rfl,by repeat (first | exact zB4 | apply zB3 | apply zB5)⟩ (za5 [x.rt.no,x.rt.kind,x.rt.edition,x.rt.holder,x.rt.sign,x.rt.ends,x.rt.lo,x.rt.hi,x.rt.known]) ?_;intro v4 L4 hO4 _;rw [←List.flatMap_append] at hO4;refine zA (Qb<|zx4 hO4 YL (fun I7 hI7 af7 cf7 ef7 hZ=>?_));subst ef7;have hIc:=hIc.trans hI7;exact Qd (Qs<|Qx rfl rfl (fun w hw=>⟨_,I7,[],rfl,hIc,hw.subL Qq,rfl,_,_,rfl,hZ⟩))
theorem zu7:Fun Tryz.prog 102:=.of Tryz.func102 kA kA
theorem zel:Fun Tryz.prog 103:=.of Tryz.func103 kA kA
theorem zcz:Fun Tryz.prog 104:=.of Tryz.func104 kA kA
theorem zdB:Fun Tryz.prog 105:=.of Tryz.func105 kA kA
set_option maxRecDepth 100000 in
theorem WX  (x:Nt) (hN:Nd I x.pt) (hnn:x.pt.n≤100000) (hok:Va.ok (KQ x)) (hb:(V1 x).length≤900000):YE Tryz.prog 43 [J0 x] I [] (YQ (V1 x)):=by
 intro g H w hw;refine qe Tryz.func43 Tryz.ntmps43 hw ?_;have hIc:=zB6 I;have hnl:x.pt.needs.length=x.pt.n:=hN.len;refine zR<|QK rfl rfl rfl (fun b_1=>zA (Qb<|QF .here (fun I1 hI1 hb1=>?_)))
 have hN:=hN.mono hI1;have hIc:=hIc.trans hI1;have h1:=BxI.of hb1;refine Qd (zR<|zV (QD (ps:=[(0,_)]) [_,_,_,_] Vs rfl rfl)<|Qp YG rfl rfl (fun b_3=>?_));refine zh Zx ?_;refine zN (zR ?_);refine zV (Qg rfl Zc (fun hg=>by exact BxI.cells (vs:=Zf x) h1) rfl) ?_;refine zpc [_] rfl zu7 .nil (zxn _ x) ?_;rintro vv2 I2 L2 hI2 ⟨rfl,an,cn,rfl,hNu⟩;have hN:=hN.mono hI2;have h1:=h1.mono hI2;have hIc:=hIc.trans hI2;refine zA (zN (Qm (zR<|zA (zN (Qw ?_)))));refine zU [(1,_),(3,_),(4,_)] (fun T L0 mz E I' loc'=>∃ (k:Nat) (v:Value) (L:Go.Kn.Loc),mz=42-k∧E=(5,.int .i64 k)::T∧I2=I'∧L++[(b_3,.cells #[.int .i64 3,.int .i64 0,.string ⟨#[]⟩,v] 158 (0,0))]=loc'∧k≤42∧ZU 158 4 v k ((((Y9 x).take k).map vcI).flatMap Zg) L) ?_ (h:=⟨0,_,[],rfl,rfl,rfl,rfl,Nat.zero_le _,ZU.nil⟩);rintro mz E I' loc' ⟨k,v,L,rfl,rfl,rfl,rfl,hk,hO⟩;refine Qm (zR (zM<|zM ?_));refine zQ Zb<|zC (zN ?_)
 refine zI ?_ ?_<;>intro hc16
 ·
  have hlt_k:k<42:=(by have h:=hc16;simp at h;omega);obtain ⟨y,hy⟩:∃ y,(Y9 x)[k]? =some y:=⟨_,List.getElem?_eq_getElem (by rw [Y8];omega)⟩;refine Qr (Qd (Qm (Qw ?_)));have hD:=zB6 I2;refine Zn<|QJ I2 [] mixed<|zT 0 rfl (Qa rfl QO) hD<|zT 2 rfl (Qe rfl) hD<|zT 3 rfl (Qe rfl) hD<|zT 4 rfl (zX Zb hNu) hD<|zT 5 rfl (Qc rfl Ql (fun hg=>by exact zBZ hNu hy rfl)) hD ?_
  refine QU 1 6 rfl rfl kA ?_ ?_
  focus
   refine zV (Qc rfl Zo (fun hg=>by exact zB2 (Qy.h0 rfl)))<|Qb<|zD hD<|qd 6 rfl<|qcV (vs:=[_]) rfl zel (zi0 _ _)<|Qb<|zD hD<|qd 7 rfl<|zpb [(0,_)] [Zg (vcI y)] ZG (fun b_26=>?_)
  rotate_left
  refine qcV (vs:=[_]) rfl zel (zi0 _ _)<|Qb<|zD hD ?_
  refine QU 1 7 rfl rfl kA ?_ ?_
  focus
   refine zV (Qc rfl Zo (fun hg=>by exact zB2 (Qy.h0 rfl)))<|Qb<|zD hD<|qd 7 rfl<|zpb [(0,_)] [Zg (vcI y)] ZG (fun b_26=>?_)
  rotate_left
  refine zpb [(0,_)] [Zg (vcI y)] ZG (fun b_26=>Qb<|zD hD<|qd 1 rfl<|zV (Qc rfl Zo (fun hg=>by (repeat (first | exact zB1 rfl | apply zB0 | apply zB2)))) ?_)
  all_goals
   refine Qb<|zD hD<|qd 8 rfl<|zpa (_) (([vcI y]:List Vc).flatMap Zg) (L) rfl rfl ZG hO ⟨rfl,fun _=>rfl,by repeat (first | exact zB4 | apply zB3 | apply zB5)⟩ (VS [vcI y]) ?_
   intro v2 L2 hO2 _;rw [←List.flatMap_append] at hO2;obtain ⟨a2,c2,rfl⟩:=hO2.shape;refine Qb<|zD hD<|zT 9 rfl (Qa rfl QO) hD<|qd 10 rfl ?_
   refine zS YY ?_;refine Qb<|zD hD<|Qn kA<|Qv ?_
   refine Qk (Qd (Qh (zM ?_)));refine zB<|zA (Qb ?_)
   exact zm (h:=⟨42-(k+1),kB,k+1,_,_,rfl,rfl,rfl,rfl,kB,by rw [Zs hy,List.map_append];exact hO2⟩)
 have hge_k:42≤k:=(by have h:=hc16;simp at h;omega);obtain rfl:k=42:=kB;have hke:(Y9 x).take 42=Y9 x:=rfl;rw [hke] at hO;refine Zk (Qo (Qo (Qz (Qd (zR<|zV (QD (ps:=[(0,_)]) [_,_,_,_] Vs rfl rfl)<|Qp YG rfl rfl (fun b_6=>?_))))));refine zh Zx<|zN (Qm (zR (zA (zN (Qw<|zU [(1,_),(3,_),(6,_)] (fun T L0 mz E I' loc'=>∃ (j:Nat) (vq:Value) (Lq:Go.Kn.Loc),mz=x.pt.n-j∧E=(7,.int .i64 j)::T∧I2=I'∧Lq++((b_6,.cells #[.int .i64 3,.int .i64 0,.string ⟨#[]⟩,vq] 158 (0,0))::(L++[(b_3,.cells #[.int .i64 3,.int .i64 0,.string ⟨#[]⟩,v] 158 (0,0))]))=loc'∧j≤x.pt.n∧ZU 158 4 vq j (((x.pt.needs.take j).map vcI).flatMap Zg) Lq) ?_ (h:=⟨0,_,[],rfl,rfl,rfl,rfl,Nat.zero_le _,ZU.nil⟩))))))
 rintro mz E I' loc' ⟨j,vq,Lq,rfl,rfl,rfl,rfl,hj,hOq⟩;refine Qm (zR (zM<|zF YA<|zF ZZ ?_));refine zV (Qc rfl Vy (fun hg=>by exact Qy.imm h1.out rfl))<|zQ Zb<|zC (zN ?_)
 refine zI ?_ ?_<;>intro hc35
 ·
  have hlt_j:j<x.pt.n:=(by have h:=hc35;simp at h;omega);obtain ⟨z,hz⟩:∃ y,x.pt.needs[j]? =some y:=⟨_,List.getElem?_eq_getElem kB⟩;refine Qr (Qd (Qm (Qw ?_)));have hD:=zB6 I2;refine Zn<|QJ I2 [] mixed<|zT 0 rfl (Qa rfl QO) hD<|zT 2 rfl (Qa rfl YA) hD<|zT 3 rfl (Qa rfl ZZ) hD<|zT 4 rfl (Qc rfl Vy (fun hg=>by exact Qy.imm h1.out rfl)) hD<|zT 5 rfl (Qe rfl) hD<|zT 6 rfl (zX Zb hN) hD<|zT 7 rfl (Qc rfl Ql (fun hg=>by exact zBZ hN hz rfl)) hD ?_
  refine QU 1 8 rfl rfl kA ?_ ?_
  focus
   refine zV (Qc rfl Zo (fun hg=>by exact zB2 (Qy.h0 rfl)))<|Qb<|zD hD<|qd 8 rfl<|qcV (vs:=[_]) rfl zel (zi0 _ _)<|Qb<|zD hD<|qd 9 rfl<|zpb [(0,_)] [Zg (vcI z)] ZG (fun b_47=>?_)
  rotate_left
  refine qcV (vs:=[_]) rfl zel (zi0 _ _)<|Qb<|zD hD ?_
  refine QU 1 9 rfl rfl kA ?_ ?_
  focus
   refine zV (Qc rfl Zo (fun hg=>by exact zB2 (Qy.h0 rfl)))<|Qb<|zD hD<|qd 9 rfl<|zpb [(0,_)] [Zg (vcI z)] ZG (fun b_47=>?_)
  rotate_left
  refine zpb [(0,_)] [Zg (vcI z)] ZG (fun b_47=>Qb<|zD hD<|qd 1 rfl<|zV (Qc rfl Zo (fun hg=>by (repeat (first | exact zB1 rfl | apply zB0 | apply zB2)))) ?_)
  all_goals
   refine Qb<|zD hD<|qd 10 rfl<|zpa (_) (([vcI z]:List Vc).flatMap Zg) (Lq) rfl rfl ZG hOq ⟨rfl,fun _=>rfl,by repeat (first | exact zB4 | apply zB3 | apply zB5)⟩ (VS [vcI z]) ?_
   intro v2 L2 hO2 _;rw [←List.flatMap_append] at hO2;obtain ⟨a2,c2,rfl⟩:=hO2.shape;refine Qb<|zD hD<|zT 11 rfl (Qa rfl QO) hD<|qd 12 rfl ?_
   refine zS YY ?_;refine Qb<|zD hD<|Qn kA<|Qv ?_
   refine Qk (Qd (Qh (zM ?_)));refine zB<|zA (Qb ?_)
   exact zm (h:=⟨x.pt.n-(j+1),kB,j+1,_,_,rfl,rfl,rfl,rfl,kB,by rw [Zs hz,List.map_append];exact hO2⟩)
 have hge_j:x.pt.n≤j:=(by have h:=hc35;simp at h;omega);obtain rfl:j=x.pt.n:=kB;have hke2:x.pt.needs.take x.pt.n=x.pt.needs:=List.take_of_length_le kB;rw [hke2] at hOq;refine Zk (Qo (Qo (Qz (Qd (Qm ?_)))));obtain ⟨a7,c7,rfl⟩:=hOq.shape;refine zx4 hOq Vg (fun I5 hI5 a6 c6 ef5 hM6=>?_);cases ef5;have h1:=h1.mono hI5;have hIc:=hIc.trans hI5;refine QF (b:=b_6) (by repeat (first | exact Z1.here | apply Z1.there)) (fun I6 hI6 hb6=>?_);have h1:=h1.mono hI6;have hM6:=hM6.mono hI6;have hIc:=hIc.trans hI6;have h6:=BxI.of hb6;have hD:=zB6 I6;refine Zn<|QJ I6 [] mixed<|zT 0 rfl (Qa rfl QO) hD<|zT 2 rfl (Qg rfl Zm (fun hg=>by exact BxI.cells (vs:=[_,_,_,_]) h6) rfl) hD<|zT 3 rfl (Qa rfl YB) hD<|zT 4 rfl (Qa rfl JN) hD<|zT 5 rfl (Qc rfl VZ (fun hg=>by exact Qy.imm h1.out rfl)) hD<|zT 7 rfl (Qa rfl YB) hD<|zT 8 rfl (Qa rfl JO) hD<|zT 9 rfl (Qc rfl VZ (fun hg=>by exact Qy.imm h1.out rfl)) hD ?_
 refine QU 1 6 rfl rfl kA ?_ ?_
 focus
  refine zV (Qc rfl Zo (fun hg=>by exact zB2 (Qy.h0 rfl)))<|Qb<|zD hD<|qd 6 rfl<|qcV (vs:=[_]) rfl zcz (zcA _ _)<|Qb<|zD hD<|qd 10 rfl<|qcV (vs:=[_]) rfl zcz (zcA _ _)<|Qb<|zD hD<|qd 11 rfl ?_
  refine zpb [(0,_),(1,_),(2,_)] [Zg ⟨3,0,⟨#[]⟩,a7,x.pt.n,c7⟩,Zg (vcT x.rt.name),Zg (vcT x.rt.town)] ZG (fun b_61=>Qb<|zD hD<|qd 12 rfl<|zpa (_) (([⟨3,0,⟨#[]⟩,a7,x.pt.n,c7⟩,vcT x.rt.name,vcT x.rt.town]:List Vc).flatMap Zg) (L) rfl rfl ZG hO ⟨rfl,fun _=>rfl,by repeat (first | exact zB4 | apply zB3 | apply zB5)⟩ (VS [⟨3,0,⟨#[]⟩,a7,x.pt.n,c7⟩,vcT x.rt.name,vcT x.rt.town]) ?_);intro v8 L14 hO8 _;rw [←List.flatMap_append] at hO8;obtain ⟨a8,c8,rfl⟩:=hO8.shape
 rotate_left
 focus
  refine qcV (vs:=[_]) rfl zcz (zcA _ _)<|Qb<|zD hD ?_
  refine QU 1 10 rfl rfl kA ?_ ?_
  focus
   refine zV (Qc rfl Zo (fun hg=>by exact zB2 (Qy.h0 rfl)))<|Qb<|zD hD<|qd 10 rfl<|qcV (vs:=[_]) rfl zcz (zcA _ _)<|Qb<|zD hD<|qd 11 rfl<|zpb [(0,_),(1,_),(2,_)] [Zg ⟨3,0,⟨#[]⟩,a7,x.pt.n,c7⟩,Zg (vcT x.rt.name),Zg (vcT x.rt.town)] ZG (fun b_61=>?_)
  rotate_left
  refine qcV (vs:=[_]) rfl zcz (zcA _ _)<|Qb<|zD hD ?_
  refine QU 1 11 rfl rfl kA ?_ ?_
  focus
   refine zV (Qc rfl Zo (fun hg=>by exact zB2 (Qy.h0 rfl)))<|Qb<|zD hD<|qd 11 rfl<|zpb [(0,_),(1,_),(2,_)] [Zg ⟨3,0,⟨#[]⟩,a7,x.pt.n,c7⟩,Zg (vcT x.rt.name),Zg (vcT x.rt.town)] ZG (fun b_61=>?_)
  rotate_left
  refine zpb [(0,_),(1,_),(2,_)] [Zg ⟨3,0,⟨#[]⟩,a7,x.pt.n,c7⟩,Zg (vcT x.rt.name),Zg (vcT x.rt.town)] ZG (fun b_61=>Qb<|zD hD<|qd 1 rfl<|zV (Qc rfl Zo (fun hg=>by (repeat (first | exact zB1 rfl | apply zB0 | apply zB2)))) ?_)
  all_goals
   refine Qb<|zD hD<|qd 12 rfl<|zpa (_) (([⟨3,0,⟨#[]⟩,a7,x.pt.n,c7⟩,vcT x.rt.name,vcT x.rt.town]:List Vc).flatMap Zg) (L) rfl rfl ZG hO ⟨rfl,fun _=>rfl,by repeat (first | exact zB4 | apply zB3 | apply zB5)⟩ (VS [⟨3,0,⟨#[]⟩,a7,x.pt.n,c7⟩,vcT x.rt.name,vcT x.rt.town]) ?_
   intro v8 L8 hO8 _;rw [←List.flatMap_append] at hO8;obtain ⟨a8,c8,rfl⟩:=hO8.shape
 all_goals
  refine Qb<|zD hD<|zT 13 rfl (Qa rfl QO) hD<|qd 14 rfl ?_
  refine zS YY ?_;refine Qb<|zD hD<|Qn kA<|Qv<|Qd (Qm<|zx4 hO8 Vg (fun I13 hI13 a9 c9 ef13 hM8=>?_))
  cases ef13;have hM6:=hM6.mono hI13;have hIc:=hIc.trans hI13;refine Qh<|zV (Qg rfl Zm (fun hg=>by exact Cells.g1) rfl)<|zpc [_] rfl zdB .nil (X1 (x:=KQ x) (cv:=⟨3,0,⟨#[]⟩,_,45,_⟩) (Xl hM6 hM8) (JK x) hok hb) ?_
  rintro vv14 I14 L14 hI14 ⟨rfl,ae,ce,rfl,hS9⟩;have hIc:=hIc.trans hI14;refine zM ?_;refine zE<|zE<|zA<|zA<|zN (zR ?_)
  refine zM<|zA (zN (Qs ?_))
  exact Qx rfl rfl (fun w hw=>⟨_,I14,[],rfl,hIc,hw.subL Qq,zcY hS9 rfl⟩)
def zsR (no ver:Int):Nt:=⟨3,VU,JD,⟨no,2,ver,40,8⟩,S.zeroR⟩
def Yy (no of:Int):Nt:=⟨1,⟨no,1,of,0,9,0,4,0,0⟩,JD,L.zeroL,S.zeroR⟩
abbrev n35:Nt:=zsR 3 5
def zfk (m:Nat):Rd:=⟨List.replicate m [],[],[]⟩
theorem zlh (hm:1≤m∧m≤24):Kn m (zfk m) []:=
 ⟨hm,by simp [zfk],rfl,fun xs hx=>(by rw [List.eq_of_mem_replicate hx];rfl),fun xs hx y hy=>(by rw [List.eq_of_mem_replicate hx] at hy;cases hy),fun p hp=>(by cases hp),fun t ht=>(by cases ht)⟩
variable{x:Nt}
theorem zlW (h:(Y9 x).all (fun y=>decide (-1000≤y)&&decide (y≤1000))=true)(hn:x.pt.needs=[]):NtW x:=by
 refine ⟨fun y hy=>?_,fun y hy=>by rw [hn] at hy;cases hy⟩;have:=List.all_eq_true.1 h y hy;rw [Bool.and_eq_true,decide_eq_true_eq,decide_eq_true_eq] at this;omega
theorem zpq:NtW n35:=zlW kC rfl
theorem zjw (I:Qu):Nd I n35.pt:=Sl.nil
theorem zqV:QN n35=true:=kA
theorem zaF:TkN n35:=by
 obtain ⟨h1,h2⟩:=zdJ zpq rfl zqV;exact ⟨h1,zqV,h2⟩
def e35:Ev:=⟨1,1,0,0,n35⟩
def eT0:Ev:=⟨1,0,0,0,zcy⟩
def eD0:Ev:=⟨3,0,0,0,zcy⟩
def rr1:Rd:=⟨[[],[n35]],[pkN 1 0 n35],[]⟩
def rr2:Rd:=⟨[[n35],[n35]],[],[]⟩
theorem zeO:WQ (zfk 2)=0:=(zlh (m:=2) kC).chk kC
theorem zzU:doF (zfk 2) (Yz e35)=(0,rr1):=by
 rw [Un zeO,zqJ rfl];have h:QN (Yz e35).note=true:=zqV;unfold Ua;rw [if_pos kA,if_pos h];rfl
theorem zBz:doF (zfk 2) (Yz eT0)=(570,zeroR):=by
 rw [Un zeO,zqJ rfl];have h:QN (Yz eT0).note=false:=kA;unfold Ua;rw [if_pos kA,h];rfl
theorem zBn:doF (zfk 2) (Yz eD0)=(1,zeroR):=by
 rw [Un zeO,zry rfl];have h:atE (zfk 2).qs (zfk 2).ks (Yz eD0).at_=1:=kA;unfold za1;rw [h,if_pos kC]
theorem zmY:Kn 2 rr1 [n35]:=by
 have h:=((zlh (m:=2) kC).step (x:=e35) kC (fun _ _=>zaF) zzU).1;exact h
theorem zBa:doF rr1 (Yz eD0)=(0,rr2):=by
 have hn:=zmY.net kC;rw [Un (zmY.chk kC),zry rfl];obtain ⟨h1,h2⟩:=zAk (qs:=rr1.qs) (ks:=rr1.ks) (i:=0) (x:=pkN 1 0 n35) (by rw [hn];rfl) kA rfl;have e1:atE rr1.qs rr1.ks (Yz eD0).at_=0:=h1;have e2:VN rr1.qs rr1.ks (Yz eD0).at_=pkN 1 0 n35:=(zh2 (qs:=rr1.qs)).trans h2;have e3:okN (pkN 1 0 n35).data=some n35:=zd3 zaF;unfold za1;rw [e1,e2,if_neg kC,if_neg kC,e3];rfl
theorem zyL:Kn 2 rr2 [n35]:=(zmY.step (x:=eD0) kC (fun h=>absurd h kC) zBa).1
theorem ztX:WQ rr2=0:=zyL.chk kC
variable{y:Nt}
/-! ### Notes that are the same but for their heads -/
theorem zlC (hx:Nd I x.pt)(hy:Nd I y.pt):smN x y=true↔YF x=YF y:=by
 have l1:x.pt.needs.length=x.pt.n:=hx.len;have l2:y.pt.needs.length=y.pt.n:=hy.len;obtain ⟨k,lm,⟨i,kd,s,fd,nw,a,n,c,nd⟩,ls,rt⟩:=x;obtain ⟨k',lm',⟨i',kd',s',fd',nw',a',n',c',nd'⟩,ls',rt'⟩:=y;dsimp only at l1 l2;subst l1;subst l2;unfold smN smP smC YF;simp only [Bool.and_eq_true,beq_iff_eq,zng,L.lsEq_iff,S.rtEq_iff,Bool.not_eq_true',Bool.or_eq_false_iff,bne_eq_false_iff_eq,decide_eq_true_eq,Bool.not_eq_false',zbw,Nt.mk.injEq,Pt.mk.injEq];constructor
 ·
  rintro ⟨⟨⟨⟨h1,h2⟩,⟨⟨⟨⟨⟨h3,h4⟩,h5⟩,h6⟩,h7⟩,_⟩,h9⟩,h10⟩,h11⟩;subst h9;exact ⟨h1,h2,⟨h3,h4,h5,h6,h7,trivial,rfl,trivial,rfl⟩,h10,h11⟩
 ·
  rintro ⟨h1,h2,⟨h3,h4,h5,h6,h7,_,_,_,h9⟩,h10,h11⟩;subst h9;exact ⟨⟨⟨⟨h1,h2⟩,⟨⟨⟨⟨⟨h3,h4⟩,h5⟩,h6⟩,h7⟩,rfl⟩,rfl⟩,h10⟩,h11⟩
theorem zhs :∀ {xs ys:List Nt},(∀ x∈xs,Nd I x.pt)→(∀ y∈ys,Nd I y.pt)→(smL xs ys=true↔xs.map YF=ys.map YF)
 | [],[],_,_=>by simp [smL]
 | [],_::_,_,_=>by simp [smL]
 | _::_,[],_,_=>by simp [smL]
 | x::xs,y::ys,hx,hy=>by
  rw [smL,Bool.and_eq_true,zlC (hx x (List.mem_cons_self ..)) (hy y (List.mem_cons_self ..)),zhs (fun z hz=>hx z (List.mem_cons_of_mem _ hz)) (fun z hz=>hy z (List.mem_cons_of_mem _ hz))];simp
variable{α:Type}{num:Nt→Int}{kind:Int}{prt:Nt→α}{chk:List α→Int}
theorem zpX {d:α}(h1:∀ x,num (YF x)=num x)(h2:∀ x,prt (YF x)=prt x)(xs:List Nt):ze7 num prt kind chk d (xs.map YF)=ze7 num prt kind chk d xs:=by
 have e:YC num prt kind (xs.map YF)=YC num prt kind xs:=by
  unfold YC;rw [List.foldl_map];congr 1;funext m x;unfold zbE;rw [h1,h2];rfl
 unfold ze7;rw [e]
variable{xs:List Nt}
theorem zuw (h:xs.map YF=[n35]):wLs xs=[n35.ls]:=by
 have e:=zpX (num:=fun x=>x.ls.no) (prt:=fun x=>x.ls) (kind:=3) (chk:=L.chk) (d:=L.zeroL) (fun _=>rfl) (fun _=>rfl) xs;unfold wLs;rw [←e,h];unfold ze7;have e1:YC (fun x=>x.ls.no) (fun x=>x.ls) 3 [n35]=[(3,n35.ls)]:=kA;rw [e1];have e2:zcV (([(3,n35.ls)]:List (Int×L.Ls)).map (·.1))=[3]:=(by simp [zcV]);rw [e2];rfl
/-! ### A world of limits -/
def hL:List Nt:=[Yy 2 0,Yy 4 4,Yy 5 3]
theorem znn {no of:Int}(h1:0≤no∧no≤100)(h2:0≤of∧of≤100):NtW (Yy no of):=by
 refine ⟨fun y hy=>?_,fun y hy=>by cases hy⟩;simp only [Y9,Yy,JD,L.zeroL,S.zeroR,Kb,List.mem_cons,List.not_mem_nil,or_false] at hy;omega
theorem zoq (I:Qu)(hx:x∈hL):NtM I x∧QN x=true:=by
 simp only [hL,List.mem_cons,List.not_mem_nil,or_false] at hx;rcases hx with rfl | rfl | rfl
 ·
  have h:QN (Yy 2 0)=true:=kA;exact ⟨zf5 (znn kC kC) Sl.nil h,h⟩
 ·
  have h:QN (Yy 4 4)=true:=kA;exact ⟨zf5 (znn kC kC) Sl.nil h,h⟩
 ·
  have h:QN (Yy 5 3)=true:=kA;exact ⟨zf5 (znn kC kC) Sl.nil h,h⟩
theorem zxW:wLm hL=[(Yy 2 0).lm,(Yy 5 3).lm]:=by
 unfold wLm ze7;have e1:YC (fun x=>x.lm.no) (fun x=>x.lm) 1 hL=[(2,(Yy 2 0).lm),(4,(Yy 4 4).lm),(5,(Yy 5 3).lm)]:=kA;rw [e1]
 have e2:zcV (([(2,(Yy 2 0).lm),(4,(Yy 4 4).lm),(5,(Yy 5 3).lm)]:List (Int×Lm)).map (·.1))=[2,4,5]:=by
  unfold zcV;exact List.mergeSort_of_pairwise kJ
 rw [e2];rfl
theorem zdh (x y:Nt):Vm x y=Lib.compareBytes ((V1 x).map UInt8.ofNat) ((V1 y).map UInt8.ofNat):=by
 unfold Vm zzT za7 UY;simp
def hB (a b:Nat):List Nat:=[3,45,1,2,1,a,1,2,1,b,1,0,1,18,1,0,1,8,1,0,1,0]++(List.replicate 32 [1,0]).flatten++[3,0,2,0,2,0]
theorem zbl (no of:Nat)(h1:no<64)(h2:of<64):V1 (Yy no of)=hB (2*no) (2*of):=by
 have e1:zz (no:Int)=2*no:=(by unfold zz;rw [if_pos kB];omega);have e2:zz (of:Int)=2*of:=(by unfold zz;rw [if_pos kB];omega);have z0:zz 0=0:=(by decide);have z1:zz 1=2:=(by decide);have z4:zz 4=8:=(by decide);have z9:zz 9=18:=(by decide);have n0:Ke 0=[0]:=VC kC;have n2:Ke 2=[2]:=VC kC;have n8:Ke 8=[8]:=VC kC;have n18:Ke 18=[18]:=VC kC;have n45:Ke 45=[45]:=VC kC;have na:Ke (2*no)=[2*no]:=VC kB;have nb:Ke (2*of)=[2*of]:=VC kB;have hbt:Ur (⟨#[]⟩:ByteArray)=[]:=rfl;unfold V1 KQ;simp only [Y9,Yy,JD,Kb,L.zeroL,S.zeroR,hbt,List.map_cons,List.map_nil,List.cons_append,List.nil_append,Va.enc,Va.encL,List.length_cons,List.length_nil,Nat.zero_add,Nat.reduceAdd,e1,e2,z0,z1,z4,z9,n0,n2,n8,n18,n45,na,nb,List.append_nil];rfl
theorem zrY:Vm (Yy 2 0) (Yy 4 4)<0:=by
 rw [zdh,show Yy 2 0=Yy ((2:Nat):Int) ((0:Nat):Int) from rfl,show Yy 4 4=Yy ((4:Nat):Int) ((4:Nat):Int) from rfl,zbl 2 0 kC kC,zbl 4 4 kC kC];decide
theorem zss:Vm (Yy 4 4) (Yy 5 3)<0:=by
 rw [zdh,show Yy 4 4=Yy ((4:Nat):Int) ((4:Nat):Int) from rfl,show Yy 5 3=Yy ((5:Nat):Int) ((3:Nat):Int) from rfl,zbl 4 4 kC kC,zbl 5 3 kC kC];decide
theorem zbC (h:zkn xs)(hx:∀ y∈xs,Vm x y<0):zkn (x::xs):=by
 intro k l u v hkl hu hv
 cases l with
 | zero=>omega
 | succ l=>
  cases k with
  | zero=>
   simp only [List.getElem?_cons_zero,Option.some.injEq] at hu;subst hu;exact hx v (List.mem_of_getElem? (by simpa using hv))
  | succ k=>exact h k l u v kB (by simpa using hu) (by simpa using hv)
theorem zmC:zkn []:=fun k l x y _ hx=>by simp at hx
theorem zp8:ZT hL=true:=by
 have h3:zkn hL:=zbC (zbC (zbC zmC (fun y hy=>by cases hy)) (fun y hy=>by rw [List.mem_singleton.1 hy];exact zss)) fun y hy=>by
  simp only [List.mem_cons,List.not_mem_nil,or_false] at hy;rcases hy with rfl | rfl
  ·
   exact zrY
  ·
   exact JF zrY zss
 exact XG h3 (fun x hx=>(zoq (fun _=>none) hx).2) kC
theorem zg6 (h:xs.map YF=[y]):∃ x,xs=[x]∧YF x=y:=by
 cases xs with
 | nil=>cases h
 | cons x l=>
  cases l with
  | nil=>exact ⟨x,rfl,List.head_eq_of_cons_eq h⟩
  | cons z l=>
   have:=congrArg List.length h;simp at this
theorem zeV (h:xs.map YF=[n35])(hN:∀ x∈xs,Nd I x.pt):ZT xs=true:=by
 obtain ⟨x,rfl,e⟩:=zg6 h;have hn:Sl I 1 Z5 x.pt.a x.pt.n x.pt.c x.pt.needs:=hN x (List.mem_singleton.2 rfl);have hf:QN x=true:=(by rw [←KB hn.len.symm,e];exact zqV);exact XG (zbC zmC fun y hy=>by cases hy) (fun y hy=>by rw [List.mem_singleton.1 hy];exact hf) kJ
theorem ztW:okN []=none:=kA
variable{rs:List Hy}{zs:List Nt}
theorem zzh (h:LdZ I rs a m c zs)(hr:rs≠[])(hb:∀ r∈rs,r.bytes=V1 n35):zs.map YF=[n35]:=by
 have hz:∀ x∈zs,YF x=n35:=fun x hx=>by
  obtain ⟨_,r,hr2,e⟩:=h.frm x hx;rw [hb r hr2,zd3 zaF] at e;exact (Option.some.inj e).symm
 match zs,h,hz with
 | [],h,_=>
  obtain ⟨r,l,rfl⟩:=List.exists_cons_of_ne_nil hr;obtain ⟨x,hx,_⟩:=h.mem r (List.mem_cons_self ..);cases hx
 | [x],_,hz=>rw [List.map_singleton,hz x (List.mem_singleton.2 rfl)]
 | x::y::l,h,hz=>
  have h1:=h.srt 0 1 x y kC rfl rfl;have e1:=hz x (List.mem_cons_self ..);have e2:=hz y kJ;rw [←zbb,e1,e2,Ws] at h1;omega
def zA7 (n:Int)(v:Value)(I':Qu)(L':Go.Kn.Loc):Prop:=L'=[]∧∃ vr,v= .tuple #[vr,.int .i64 (if (decide (n<1)||decide (n>24))=true then 1 else 0)]∧RmV I' vr (if (decide (n<1)||decide (n>24))=true then zeroR else zfk n.toNat)
theorem zkL {b t:Nat}(_hm:m≤maxLen)(hb:I b=some (.cells (List.replicate m (Value.slice none 0 0)).toArray t (0,0))):RmV I (.agg #[.slice (some ⟨b,0,none⟩) m m,.slice none 0 0,.slice none 0 0]) (zfk m):=by
 refine ⟨_,_,_,_,_,_,_,_,_,List.replicate m ⟨none,0,0,[]⟩,[],rfl,⟨⟨by simp,Nat.le_refl _,fun _=>rfl,fun k x hx j u hu=>?_⟩,fun x hx=>?_,.nil,fun _ h=>(by cases h),.nil⟩,?_⟩
 ·
  have hj:j=0:=(by have:=(List.getElem?_eq_some_iff.1 hu).1;simp [U4] at this;omega);subst hj;have hk:=(List.getElem?_eq_some_iff.1 hx).1;rw [List.length_replicate] at hk;have ex:x=⟨none,0,0,[]⟩:=List.eq_of_mem_replicate (List.mem_of_getElem? hx);subst ex;have hu:u= .slice none 0 0:=(by simpa [U4] using hu.symm);subst hu;refine Qy.imm hb ?_;show zj8 _ (0+k*1+0)=_;rw [Nat.zero_add,Nat.mul_one,Nat.add_zero,JG];simp [hk]
 ·
  rw [List.eq_of_mem_replicate hx];exact ⟨.nil,fun _ h=>(by cases h),fun _ h=>(by cases h)⟩
 ·
  simp [YD,zfk,dtP]
variable{pa qa aa:Option Addr}{pn pc qn qc an ac i:Nat}{ps:List Pe}{qs:List Pk}{ks:List (Int×Int)}{r:Rd}
theorem zti (_hR:RmP I pa pn pc qa qn qc aa an ac ps qs ks)(e:YD ps qs ks=r)(hi:r.ps[i]? =some xs):∃ pe,ps[i]? =some pe∧pe.notes.map YF=xs:=by
 subst e;simp only [YD,dtP,List.getElem?_map] at hi
 cases h:ps[i]? with
 | none=>rw [h] at hi;cases hi
 | some pe=>rw [h] at hi;exact ⟨pe,rfl,Option.some.inj hi⟩
theorem Wn (hR:RmP I pa pn pc qa qn qc aa an ac ps qs ks)(e:YD ps qs ks=r):pn=r.ps.length∧qn=r.qs.length∧ks=r.ks:=by
 subst e;exact ⟨by rw [←hR.pe.len];exact (zeI ps).symm,by rw [←hR.q.len];simp [YD],rfl⟩
variable{p:Pk}
theorem zAU (_hR:RmP I pa pn pc qa qn qc aa an ac ps qs ks)(e:YD ps qs ks=r)(hi:r.qs[i]? =some p):∃ q,qs[i]? =some q∧Vi q=p:=by
 subst e;simp only [YD,List.getElem?_map] at hi
 cases h:qs[i]? with
 | none=>rw [h] at hi;cases hi
 | some q=>rw [h] at hi;exact ⟨q,rfl,Option.some.inj hi⟩
structure SmR (r:Rd):Prop where
 p:r.ps.length≤24
 nn:∀ xs∈r.ps,xs.length≤1000
 q:r.qs.length≤3000
 dl:∀ p∈r.qs,p.data.length≤2000
 k:r.ks.length≤100
theorem SmR.use (hR:RmP I pa pn pc qa qn qc aa an ac ps qs ks)(h:SmR (YD ps qs ks)):pn≤100000∧qn≤100000∧an≤100000∧(∀ x∈ps,x.n≤100000)∧(∀ q∈qs,q.n≤100000)∧(qn+24≤4096∧∀ pe∈ps,qn+pe.n≤4096):=by
 obtain ⟨h1,h2,_⟩:=Wn hR rfl;have hp:=h.p;have hq:=h.q;have hk:=h.k;have hkl:=hR.k.len
 have hn:∀ x∈ps,x.n≤1000:=fun x hx=>by
  have h3:=h.nn (x.notes.map YF) (List.mem_map.2 ⟨x,hx,rfl⟩);have:=(hR.nt x hx).sl.len;rw [List.length_map] at h3;omega
 refine ⟨kB,kB,?_,fun x hx=>by have:=hn x hx;omega,fun q hq2=>?_,kB,fun pe hpe=>by have:=hn pe hpe;omega⟩
 ·
  have:(YD ps qs ks).ks.length=ks.length:=rfl;omega
 ·
  have h3:=h.dl (Vi q) (List.mem_map.2 ⟨q,hq2,rfl⟩);have:=(hR.pk q hq2).sl.len;have e:(Vi q).data=q.data:=rfl;rw [e] at h3;omega
theorem zaB (hm:m≤24):SmR (zfk m):=⟨by simp [zfk];exact hm,fun xs hx=>(by rw [List.eq_of_mem_replicate hx];exact Nat.zero_le _),by simp [zfk],fun p hp=>(by cases hp),by simp [zfk]⟩
theorem zyn:SmR rr1:=⟨by decide,fun xs hx=>by
  simp only [rr1,List.mem_cons,List.not_mem_nil,or_false] at hx
  rcases hx with rfl | rfl<;>simp,by decide,fun p hp=>(by
  rw [List.mem_singleton.1 (show p∈[pkN 1 0 n35] from hp)];exact zaF.2.2),by decide⟩
theorem zwG:SmR rr2:=⟨by decide,fun xs hx=>by
  simp only [rr2,List.mem_cons,List.not_mem_nil,or_false] at hx
  rcases hx with rfl | rfl<;>simp,by decide,fun p hp=>(by cases hp),by decide⟩
theorem zok:SmR zeroR:=⟨by decide,fun xs hx=>(by cases hx),by decide,fun p hp=>(by cases hp),by decide⟩
variable{v:Value}{I':Qu}{L':Go.Kn.Loc}
theorem zmV (h:zA5 xs v I' L')(hv:ZT xs=true):L'=[]∧∃ a1 n1 c1 a2 n2 c2 a3 n3 c3 a4 n4 c4,v= .tuple #[.slice a1 n1 c1,.slice a2 n2 c2,.slice a3 n3 c3,.slice a4 n4 c4,.int .i64 0]∧Sl I' 9 Zz a1 n1 c1 (wLm xs)∧Sl I' 5 L.encL a2 n2 c2 (wLs xs)∧SlP I' a3 n3 c3 (wPt xs)∧Sl I' 11 S.encR a4 n4 c4 (wRt xs):=by
 rcases h.2 with ⟨_,h2⟩ | ⟨h1,_⟩
 ·
  exact ⟨h.1,h2⟩
 ·
  rw [hv] at h1;cases h1
theorem zuy (h:zA9 xs v I' L')(hv:ZT xs=true):L'=[]∧∃ a n c rs,v= .tuple #[.slice a n c,.int .i64 0]∧zuh I' a n c rs∧rs.map (·.bytes)=xs.map V1:=by
 rcases h.2 with ⟨_,h2⟩ | ⟨h1,_⟩
 ·
  exact ⟨h.1,h2⟩
 ·
  rw [hv] at h1;cases h1
theorem zze (h:LdQ rs v I' L')(hl:rs.length≤4096)(hn:∀ r∈rs,okN r.bytes≠none):L'=[]∧∃ a m c zs,v= .tuple #[.agg #[.slice a m c],.int .i64 0]∧LdZ I' rs a m c zs:=by
 rcases h.2 with ⟨h1,_⟩ | ⟨_,⟨r,h1,h2⟩,_⟩ | ⟨_,h2⟩
 ·
  omega
 ·
  exact absurd h2 (hn r h1)
 ·
  exact ⟨h.1,h2⟩
theorem zz5 (h:LdQ rs v I' L')(hl:rs.length≤4096)(hn:∃ r∈rs,okN r.bytes=none):L'=[]∧v= .tuple #[.agg #[.slice none 0 0],.int .i64 570]:=by
 rcases h.2 with ⟨h1,_⟩ | ⟨_,_,h2⟩ | ⟨_,a,m,c,zs,_,h2⟩
 ·
  omega
 ·
  exact ⟨h.1,h2⟩
 ·
  obtain ⟨r,hr,e⟩:=hn;obtain ⟨x,_,e2⟩:=h2.mem r hr;rw [e] at e2;cases e2
theorem zdg (s:ByteArray):Kz s s=true:=zch.2 rfl
theorem zrc :RmP I none 0 0 none 0 0 none 0 0 [] [] []:=⟨.nil,fun _ h=>(by cases h),.nil,fun _ h=>(by cases h),.nil⟩
theorem zqf:WQ zeroR=570:=kA
variable{n:Nat}
theorem zzI (h:WB I a n c xs)(e:xs.map YF=[]):n=0:=by
 have:=h.sl.len;have h2:=congrArg List.length e;rw [List.length_map] at h2;rw [←this,h2];rfl
theorem ztN (hN:∀ x∈xs,Nd I x.pt)(e:xs.map YF=[n35]):smL xs [n35]=true:=
 (zhs hN (fun y hy=>by rw [List.mem_singleton.1 hy];exact Sl.nil)).2 e
theorem zn4 (hN:∀ x∈xs,Nd I x.pt)(e:xs.map YF=[n35]):∀ x∈xs,x.pt.n≤100000:=fun x hx=>by
 obtain ⟨y,rfl,e2⟩:=zg6 e;rw [List.mem_singleton.1 hx];have h:Sl I 1 Z5 y.pt.a y.pt.n y.pt.c y.pt.needs:=hN y (List.mem_singleton.2 rfl);have h3:y.pt.needs.length=(YF y).pt.n:=rfl;rw [e2] at h3;have:=h.len;have:(n35.pt.n:Nat)=0:=rfl;omega
theorem zuL (h:zuh I a n c rs)(hb:rs.map (·.bytes)=xs.map V1)(hx:xs.map YF=[n35]):rs.length=1∧(∀ r∈rs,r.bytes=V1 n35)∧∀ r∈rs,r.n≤100000:=by
 obtain ⟨x,rfl,e⟩:=zg6 hx;have em:V1 x=V1 n35:=(by rw [←e];rfl);have hl:=congrArg List.length hb;rw [List.length_map,List.length_map] at hl
 have hr:∀ r∈rs,r.bytes=V1 n35:=fun r hr=>by
  have h1:r.bytes∈rs.map (·.bytes):=List.mem_map.2 ⟨r,hr,rfl⟩;rw [hb,List.map_singleton,List.mem_singleton,em] at h1;exact h1
 refine ⟨hl,hr,fun r h2=>?_⟩;have h3:=(h.m r h2).sl.len;rw [hr r h2] at h3;have:=zaF.2.2;omega
theorem zc2:PlT Tryz.prog 45 #[(0,1),(1,9),(10,19),(29,5),(34,11)] (.agg #[(.int .i64 0),(.int .i64 0),(.int .i64 0),(.int .i64 0),(.int .i64 0),(.int .i64 0),(.int .i64 0),(.int .i64 0),(.int .i64 0),(.int .i64 0),(.int .i64 0),(.int .i64 0),(.int .i64 0),(.int .i64 0),(.int .i64 0),(.int .i64 0),(.int .i64 0),(.int .i64 0),(.int .i64 0),(.int .i64 0),(.int .i64 0),(.int .i64 0),(.int .i64 0),(.int .i64 0),(.int .i64 0),(.int .i64 0),(.int .i64 0),(.int .i64 0),(.slice none 0 0),(.int .i64 0),(.int .i64 0),(.int .i64 0),(.int .i64 0),(.int .i64 0),(.int .i64 0),(.int .i64 0),(.int .i64 0),(.int .i64 0),(.int .i64 0),(.int .i64 0),(.string ⟨#[]⟩),(.string ⟨#[]⟩),(.int .i64 0),(.int .i64 0),(.int .i64 0)]):=⟨.of kA,kA,fun w=>kA⟩
theorem zf4 (I:Qu)(no ver:Int):ZJ Tryz.prog 42 [.int .i64 no,.int .i64 ver] I (J0 (zsR no ver)):=by
 intro g H w hw;refine qe Tryz.func42 Tryz.ntmps42 hw ?_;refine zR<|Qp U2 rfl rfl (fun b_4=>zN (zR ?_))
 refine zM ?_;refine zM<|zV (QD (ps:=[(0,_),(1,_),(2,_),(3,_),(4,_)]) [_,_,_,_,_] ziW rfl rfl) ?_
 refine zV (QD (ps:=[(0,_),(3,_)]) [_,_,_,_,_,_,_,_,_,_,_,_,_,_,_,_,_,_,_,_,_,_,_,_,_,_,_,_,_,_,_,_,_,_,_,_,_,_,_,_,_,_,_,_,_] zc2 rfl rfl) ?_;exact zh Vk<|zN (Qs<|ZM rfl rfl Zc zB4 rfl (fun w hw=>⟨by rfl,hw.drop⟩))
theorem zdc (I:Qu)(no of:Int):ZJ Tryz.prog 44 [.int .i64 no,.int .i64 of] I (J0 (Yy no of)):=by
 intro g H w hw;refine qe Tryz.func44 Tryz.ntmps44 hw ?_;refine zR<|Qp U2 rfl rfl (fun b_4=>zN (zR ?_))
 refine zM ?_;refine zM<|zV (QD (ps:=[(0,_)]) [_,_,_] zcq rfl rfl) ?_
 refine zV (QD (ps:=[(0,_),(1,_),(2,_),(4,_),(6,_)]) [_,_,_,_,_,_,_,_,_] zda rfl rfl) ?_;refine zV (QD (ps:=[(0,_),(1,_)]) [_,_,_,_,_,_,_,_,_,_,_,_,_,_,_,_,_,_,_,_,_,_,_,_,_,_,_,_,_,_,_,_,_,_,_,_,_,_,_,_,_,_,_,_,_] zc2 rfl rfl) ?_;exact zh Vk<|zN (Qs<|ZM rfl rfl Zc zB4 rfl (fun w hw=>⟨by rfl,hw.drop⟩))
theorem zlA (I:Qu)(n:Int):YE Tryz.prog 14 [.int .i64 n] I [] (zA7 n):=by
 have h:=zAL I n;by_cases hb:(decide (n<1)||decide (n>24))=true
 ·
  intro g H w hw;refine (h g H w hw).mono ?_;rintro e w' ⟨v,I',L',h1,h2,h3,rfl,⟨_,rfl,rfl⟩ | ⟨h4,_⟩⟩
  ·
   exact ⟨_,_,_,h1,h2,h3,rfl,_,by rw [if_pos hb],by rw [if_pos hb];exact zdH⟩
  rw [hb] at h4;cases h4
 have hb2:(decide (n<1)||decide (n>24))=false:=(by simpa using hb);refine Ui.m (Bad:=fun _=>False) (Ui.frz (h.p (Bad:=fun _=>False)) fun v I' L' hI hq=>?_) (fun v hv=>hv);obtain ⟨rfl,⟨h4,_⟩ | ⟨_,b,rfl,rfl⟩⟩:=hq
 ·
  rw [hb2] at h4;cases h4
 refine ⟨[],b,_,.here,fun I2 h2 hb3=>⟨rfl,_,by rw [if_neg hb],?_⟩⟩;rw [if_neg hb];have hn:1≤n∧n≤24:=(by simpa using hb2);exact zkL (Nat.le_trans (show n.toNat≤24 by omega) kC) hb3
variable{R:Int×Rd}
theorem zjG (hR:RmP I pa pn pc qa qn qc aa an ac ps qs ks)(he:YD ps qs ks=r)(hs:SmR r)(x:Ev)(hE:EvM I x)(e:doF r (Yz x)=R):YE Tryz.prog 12 [.agg #[.slice pa pn pc,.slice qa qn qc,.slice aa an ac],.agg (U3 x).toArray] I [] (DoQ R):=by
 subst he;subst e;obtain ⟨h1,h2,h3,h4,h5,h6⟩:=SmR.use hR hs;exact zA8 hR h1 h2 h3 h4 h5 (fun _=>h6) x hE
variable{e:Int}
theorem ziu (hR:RmP I pa pn pc qa qn qc aa an ac ps qs ks)(he:YD ps qs ks=r)(hs:SmR r)(hc:WQ r=e):YE Tryz.prog 16 [.agg #[.slice pa pn pc,.slice qa qn qc,.slice aa an ac]] I [] (fun v _I' L'=>L'=[]∧v= .int .i64 e):=by
 subst he;subst hc;obtain ⟨h1,h2,h3,h4,h5,_⟩:=SmR.use hR hs;exact zhL hR h1 h2 h3 h4 h5
theorem zpS:zhU Tryz.prog 45 3 29 5:=.of kA
theorem zcu:Fun Tryz.prog 12:=.of Tryz.func12 kA kA
theorem zlM:Fun Tryz.prog 14:=.of Tryz.func14 kA kA
theorem zrG:Fun Tryz.prog 20:=.of Tryz.func20 kA kA
theorem zxx:Fun Tryz.prog 22:=.of Tryz.func22 kA kA
theorem zr1:Fun Tryz.prog 24:=.of Tryz.func24 kA kA
theorem ziT:Fun Tryz.prog 31:=.of Tryz.func31 kA kA
theorem zfX:Fun Tryz.prog 42:=.of Tryz.func42 kA kA
theorem WV:Fun Tryz.prog 43:=.of Tryz.func43 kA kA
theorem zmi:Fun Tryz.prog 44:=.of Tryz.func44 kA kA
theorem zfm:PlT Tryz.prog 47 #[(0,1),(1,1),(2,1),(3,1),(4,45)] (.agg #[(.int .i64 0),(.int .i64 0),(.int .i64 0),(.int .i64 0),(.int .i64 0),(.int .i64 0),(.int .i64 0),(.int .i64 0),(.int .i64 0),(.int .i64 0),(.int .i64 0),(.int .i64 0),(.int .i64 0),(.int .i64 0),(.int .i64 0),(.int .i64 0),(.int .i64 0),(.int .i64 0),(.int .i64 0),(.int .i64 0),(.int .i64 0),(.int .i64 0),(.int .i64 0),(.int .i64 0),(.int .i64 0),(.int .i64 0),(.int .i64 0),(.int .i64 0),(.int .i64 0),(.int .i64 0),(.int .i64 0),(.int .i64 0),(.slice none 0 0),(.int .i64 0),(.int .i64 0),(.int .i64 0),(.int .i64 0),(.int .i64 0),(.int .i64 0),(.int .i64 0),(.int .i64 0),(.int .i64 0),(.int .i64 0),(.int .i64 0),(.string ⟨#[]⟩),(.string ⟨#[]⟩),(.int .i64 0),(.int .i64 0),(.int .i64 0)]):=⟨.of kA,kA,fun w=>kA⟩
theorem zsx:PlT Tryz.prog 59 #[(0,1)] (.agg #[(.slice none 0 0)]):=⟨.of kA,kA,fun w=>kA⟩
variable{av bv:Option Addr}
theorem zux {n2 c2:Nat}(hS:WB I av n c xs)(hT:Sl I 45 Zf bv n2 c2 [n35])(hd:xs.map YF=[n35])(hn:n≤100000):ZJ Tryz.prog 31 [.slice av n c,.slice bv n2 c2] I (.bool true):=by
 have h:=zwT hS.sl hT hS.nd (fun y hy=>by rw [List.mem_singleton.1 hy];exact Sl.nil) (zn4 hS.nd hd) hn;rw [ztN hS.nd hd] at h;exact h
set_option maxRecDepth 100000 in
set_option maxHeartbeats 4000000 in
theorem zxt (I:Qu):ZJ Tryz.prog 10 [] I (.bool true):=by
 intro g H w hw;refine qe Tryz.func10 Tryz.ntmps10 hw ?_;have hIc:=zB6 I;refine zR (zA<|zN (zR<|zpc [_] rfl zlM .nil (zlA _ 2) ?_));rintro vv1 I1 L1 hI1 ⟨rfl,vr1,rfl,hV1⟩;have hIc:=hIc.trans hI1;obtain ⟨pa1,pn1,pc1,qa1,qn1,qc1,aa1,an1,ac1,ps1,qs1,rfl,hR1,he1⟩:=(show RmV _ vr1 (zfk 2) from hV1);obtain rfl:pn1=2:=(Wn hR1 he1).1;obtain rfl:qn1=0:=(Wn hR1 he1).2.1;refine zM ?_;refine zE<|zE<|Qp JY rfl rfl (fun b_1=>?_)
 refine zh ZX<|zA (Qb<|QF .here (fun I2 hI2 hb2=>?_))
 have hR1:=hR1.mono hI2;have hIc:=hIc.trans hI2;have h1:=BxI.of hb2;refine Qd (zR<|zpc [_] rfl zlM .nil (zlA _ 0) ?_);rintro vv3 I3 L3 hI3 ⟨rfl,vr3,rfl,hV3⟩;have hR1:=hR1.mono hI3;have h1:=h1.mono hI3;have hIc:=hIc.trans hI3;obtain ⟨pa3,pn3,pc3,qa3,qn3,qc3,aa3,an3,ac3,ps3,qs3,rfl,hR3,he3⟩:=(show RmV _ vr3 (zeroR) from hV3);refine zM ?_;refine zE<|zE<|Qp JY rfl rfl (fun b_3=>?_)
 refine zh ZX<|zA (Qb<|QF .here (fun I4 hI4 hb4=>?_))
 have hR1:=hR1.mono hI4;have h1:=h1.mono hI4;have hIc:=hIc.trans hI4;have h3:=BxI.of hb4;refine Qd ?_;refine zY [(1,_),(2,_),(4,_)] (fun T L0 E I' loc'=>∃ (b5:Nat) (pa5:Option Addr) (pn5:Nat) (pc5:Nat) (qa5:Option Addr) (qn5:Nat) (qc5:Nat) (aa5:Option Addr) (an5:Nat) (ac5:Nat) (ps5:List Pe) (qs5:List Pk),E=(5,ZI b5)::(6,.int .i64 0)::T∧HLe I4 I'∧[]=loc'∧BxI I' b5 (.cells #[.slice pa5 pn5 pc5,.slice qa5 qn5 qc5,.slice aa5 an5 ac5] 28 (0,0))∧RmP I' pa5 pn5 pc5 qa5 qn5 qc5 aa5 an5 ac5 ps5 qs5 []∧YD ps5 qs5 []=rr1) ?_ ?_
 ·
  have hKc3:=zB6 I4;have hD:=zB6 I4;refine Zn<|QJ I4 [] mixed<|zT 0 rfl (Qg rfl Zu (fun hg=>by exact BxI.cells (vs:=[_,_,_]) h1) rfl) hD ?_
  refine QU 1 7 rfl rfl kA ?_ ?_
  ·
   refine qcV (vs:=[_,_]) rfl zfX (zf4 _ 3 5)<|Qb<|zD hD<|zT 2 rfl (QD (ps:=[(0,_),(1,_),(4,_)]) [_,_,_,_,_,_,_,_,_,_,_,_,_,_,_,_,_,_,_,_,_,_,_,_,_,_,_,_,_,_,_,_,_,_,_,_,_,_,_,_,_,_,_,_,_,_,_,_,_] zfm rfl rfl) hD ?_
   refine QU 3 7 rfl rfl kA ?_ ?_
   focus
    refine zpc [_,_] rfl zcu .nil (zjG hR1 he1 (zaB kC) e35 ⟨zjw _,zpq⟩ zzU) ?_;rintro vv5 I5 L5 hI5 ⟨rfl,vr5,rfl,hV5⟩;have hKc3:=hKc3.trans hI5;have hD:=hD.trans hI5;obtain ⟨pa5,pn5,pc5,qa5,qn5,qc5,aa5,an5,ac5,ps5,qs5,rfl,hR5,he5⟩:=(show RmV _ vr5 (rr1) from hV5);refine Qb<|zD hD<|zT 4 rfl (Qe rfl) hD<|zT 5 rfl (QS rfl rfl) hD<|zT 6 rfl (QS rfl rfl) hD<|qd 7 rfl<|Qp JY rfl rfl (fun b_5=>Qb<|zD hD ?_)
   rotate_left
   refine Qp JY rfl rfl (fun b_5=>Qb<|zD hD<|qd 3 rfl<|zpc [_,_] rfl zcu .nil (zjG hR1 he1 (zaB kC) e35 ⟨zjw _,zpq⟩ zzU) ?_);rintro vv7 I7 L7 hI7 ⟨rfl,vr5,rfl,hV5⟩;have hKc3:=hKc3.trans hI7;have hD:=hD.trans hI7;obtain ⟨pa5,pn5,pc5,qa5,qn5,qc5,aa5,an5,ac5,ps5,qs5,rfl,hR5,he5⟩:=(show RmV _ vr5 (rr1) from hV5);refine Qb<|zD hD<|zT 4 rfl (Qe rfl) hD<|zT 5 rfl (QS rfl rfl) hD<|zT 6 rfl (QS rfl rfl) hD ?_
   all_goals
    refine qd 8 rfl ?_;refine zh ZX ?_;refine QV (b:=b_5) (by repeat (first | exact Z1.here | apply Z1.there)) (fun I8 hI8 hb8=>?_);have hR5:=hR5.mono hI8;have hKc3:=hKc3.trans hI8;have hD:=hD.trans hI8;have h5:=BxI.of hb8;exact Qb<|zD hD<|zT 9 rfl (QB rfl) hD<|Qn kA<|Qv<|zm (h:=⟨_,_,_,_,_,_,_,_,_,_,_,_,rfl,hKc3,rfl,h5,hR5,he5⟩)
  refine Qp JY rfl rfl (fun b_5=>Qb<|zD hD<|qd 1 rfl<|qcV (vs:=[_,_]) rfl zfX (zf4 _ 3 5)<|Qb<|zD hD<|zT 2 rfl (QD (ps:=[(0,_),(1,_),(4,_)]) [_,_,_,_,_,_,_,_,_,_,_,_,_,_,_,_,_,_,_,_,_,_,_,_,_,_,_,_,_,_,_,_,_,_,_,_,_,_,_,_,_,_,_,_,_,_,_,_,_] zfm rfl rfl) hD<|qd 3 rfl<|zpc [_,_] rfl zcu .nil (zjG hR1 he1 (zaB kC) e35 ⟨zjw _,zpq⟩ zzU) ?_);rintro vv9 I9 L9 hI9 ⟨rfl,vr5,rfl,hV5⟩;have hKc3:=hKc3.trans hI9;have hD:=hD.trans hI9;obtain ⟨pa5,pn5,pc5,qa5,qn5,qc5,aa5,an5,ac5,ps5,qs5,rfl,hR5,he5⟩:=(show RmV _ vr5 (rr1) from hV5);refine Qb<|zD hD<|zT 4 rfl (Qe rfl) hD<|zT 5 rfl (QS rfl rfl) hD<|zT 6 rfl (QS rfl rfl) hD<|qd 8 rfl ?_
  refine zh ZX ?_;refine QV (b:=b_5) (by repeat (first | exact Z1.here | apply Z1.there)) (fun I10 hI10 hb10=>?_);have hR5:=hR5.mono hI10;have hKc3:=hKc3.trans hI10;have hD:=hD.trans hI10;have h5:=BxI.of hb10;exact Qb<|zD hD<|zT 9 rfl (QB rfl) hD<|Qn kA<|Qv<|zm (h:=⟨_,_,_,_,_,_,_,_,_,_,_,_,rfl,hKc3,rfl,h5,hR5,he5⟩)
 rintro E J11 loc' ⟨b5,pa5,pn5,pc5,qa5,qn5,qc5,aa5,an5,ac5,ps5,qs5,rfl,hJ3,rfl,h5,hR5,he5⟩;have hR1:=hR1.mono hJ3;have h1:=h1.mono hJ3;have hIc:=hIc.trans hJ3;obtain rfl:pn5=2:=(Wn hR5 he5).1;obtain rfl:qn5=1:=(Wn hR5 he5).2.1;refine zR<|zV (Qg rfl Zu (fun hg=>by exact BxI.cells (vs:=[_,_,_]) h1) rfl)<|zV (QD (ps:=[(0,_)]) [_,_,_,_,_,_,_,_,_,_,_,_,_,_,_,_,_,_,_,_,_,_,_,_,_,_,_,_,_,_,_,_,_,_,_,_,_,_,_,_,_,_,_,_,_,_,_,_,_] zfm rfl rfl)<|zpc [_,_] rfl zcu .nil (zjG hR1 he1 (zaB kC) eT0 ⟨Sl.nil,zbu⟩ zBz) ?_
 rintro vv12 I12 L12 hI12 ⟨rfl,vr7,rfl,hV7⟩;have hR1:=hR1.mono hI12;have h1:=h1.mono hI12;have h5:=h5.mono hI12;have hR5:=hR5.mono hI12;have hIc:=hIc.trans hI12;obtain ⟨pa7,pn7,pc7,qa7,qn7,qc7,aa7,an7,ac7,ps7,qs7,rfl,hR7,he7⟩:=(show RmV _ vr7 (zeroR) from hV7);refine zM ?_;refine zE<|zE<|Qp JY rfl rfl (fun b_7=>?_)
 refine zh ZX<|zA (Qb<|QF .here (fun I13 hI13 hb13=>?_))
 have hR1:=hR1.mono hI13;have h1:=h1.mono hI13;have h5:=h5.mono hI13;have hR5:=hR5.mono hI13;have hIc:=hIc.trans hI13;have h7:=BxI.of hb13;refine Qd (zR<|zV (Qg rfl Zu (fun hg=>by exact BxI.cells (vs:=[_,_,_]) h1) rfl)<|zV (QD (ps:=[(0,_)]) [_,_,_,_,_,_,_,_,_,_,_,_,_,_,_,_,_,_,_,_,_,_,_,_,_,_,_,_,_,_,_,_,_,_,_,_,_,_,_,_,_,_,_,_,_,_,_,_,_] zfm rfl rfl)<|zpc [_,_] rfl zcu .nil (zjG hR1 he1 (zaB kC) eD0 ⟨Sl.nil,zbu⟩ zBn) ?_);rintro vv14 I14 L14 hI14 ⟨rfl,vr9,rfl,hV9⟩;have h1:=h1.mono hI14;have h5:=h5.mono hI14;have hR5:=hR5.mono hI14;have hIc:=hIc.trans hI14;obtain ⟨pa9,pn9,pc9,qa9,qn9,qc9,aa9,an9,ac9,ps9,qs9,rfl,hR9,he9⟩:=(show RmV _ vr9 (zeroR) from hV9);refine zM ?_;refine zE<|zE<|Qp JY rfl rfl (fun b_9=>?_)
 refine zh ZX<|zA (Qb<|QF .here (fun I15 hI15 hb15=>?_))
 have h1:=h1.mono hI15;have h5:=h5.mono hI15;have hR5:=hR5.mono hI15;have hIc:=hIc.trans hI15;have h9:=BxI.of hb15;refine Qd (zR<|zV (Qg rfl Zu (fun hg=>by exact BxI.cells (vs:=[_,_,_]) h5) rfl)<|zV (QD (ps:=[(0,_)]) [_,_,_,_,_,_,_,_,_,_,_,_,_,_,_,_,_,_,_,_,_,_,_,_,_,_,_,_,_,_,_,_,_,_,_,_,_,_,_,_,_,_,_,_,_,_,_,_,_] zfm rfl rfl)<|zpc [_,_] rfl zcu .nil (zjG hR5 he5 zyn eD0 ⟨Sl.nil,zbu⟩ zBa) ?_);rintro vv16 I16 L16 hI16 ⟨rfl,vr11,rfl,hV11⟩;have h1:=h1.mono hI16;have h5:=h5.mono hI16;have hR5:=hR5.mono hI16;have hIc:=hIc.trans hI16;obtain ⟨pa11,pn11,pc11,qa11,qn11,qc11,aa11,an11,ac11,ps11,qs11,rfl,hR11,he11⟩:=(show RmV _ vr11 (rr2) from hV11);obtain rfl:pn11=2:=(Wn hR11 he11).1;obtain rfl:qn11=0:=(Wn hR11 he11).2.1;refine zM ?_;refine zE<|zE<|Qp JY rfl rfl (fun b_11=>?_)
 refine zh ZX<|zA (Qb<|QF .here (fun I17 hI17 hb17=>?_))
 have h1:=h1.mono hI17;have h5:=h5.mono hI17;have hR5:=hR5.mono hI17;have hR11:=hR11.mono hI17;have hIc:=hIc.trans hI17;have h11:=BxI.of hb17;refine Qd (Qm (zR (zM<|zC ?_)));refine zM ?_;refine QI 2 rfl rfl rfl ?_;refine zJ (Qa rfl Zp)<|zJ (Qc rfl Z6 (fun hg=>by exact Qy.imm h1.out rfl))<|zJ (QT rfl Z4)<|zJ (QA rfl rfl rfl)<|Q9 rfl rfl rfl rfl rfl ?_
 refine zM ?_;refine QI 8 rfl rfl rfl ?_;refine zJ (Qe rfl) ?_;refine zJ (QA rfl rfl rfl) ?_;refine Q9 rfl rfl rfl rfl rfl ?_;refine zM ?_;refine QI 12 rfl rfl rfl ?_;refine zJ (Qe rfl) ?_;refine zJ (QA rfl rfl rfl)<|Q9 rfl rfl rfl rfl rfl ?_
 refine zM ?_;refine QI 16 rfl rfl rfl ?_;refine zJ (Qa rfl Zp)<|zJ (Qc rfl Z6 (fun hg=>by exact Qy.imm h5.out rfl))<|zJ (QT rfl Z4)<|zJ (QA rfl rfl rfl)<|Q9 rfl rfl rfl rfl rfl ?_
 refine zM ?_;refine QI 22 rfl rfl rfl ?_;refine zJ (Qe rfl) ?_;refine zJ (QA rfl rfl rfl)<|Q9 rfl rfl rfl rfl rfl ?_
 refine zM ?_;refine QI 26 rfl rfl rfl ?_;refine zJ (Qe rfl) ?_;refine zJ (QA rfl rfl rfl)<|Q9 rfl rfl rfl rfl rfl ?_
 refine zM ?_;refine QI 30 rfl rfl rfl ?_;refine zJ (Qe rfl) ?_;refine zJ (QA rfl rfl rfl)<|Q9 rfl rfl rfl rfl rfl ?_
 refine zM ?_;refine QI 34 rfl rfl rfl ?_;refine zJ (Qa rfl Zp)<|zJ (Qc rfl Z6 (fun hg=>by exact Qy.imm h11.out rfl))<|zJ (QT rfl Z4)<|zJ (QA rfl rfl rfl)<|Q9 rfl rfl rfl rfl rfl ?_
 refine zN ?_;refine zI ?_ ?_<;>intro hc103
 ·
  exact absurd hc103 kC
 refine Qr (Qd (zR ?_));refine qcV (vs:=[_,_]) rfl zfX (zf4 _ 3 5)<|zpb [(0,_)] [Zf n35] Vx (fun b_105=>zA (Qb<|QF .here (fun I18 hI18 hb18=>?_)))
 have h1:=h1.mono hI18;have h5:=h5.mono hI18;have hR5:=hR5.mono hI18;have hR11:=hR11.mono hI18;have h11:=h11.mono hI18;have hIc:=hIc.trans hI18;have h13:=Sl.lit (enc:=Zf) [n35] rfl Z2 hb18;refine Qd (Qm ?_);obtain ⟨q5,hq5,hq5e⟩:=zAU hR5 he5 (i:=0) rfl;have hq5M:=hR5.pk q5 (List.mem_of_getElem? hq5);have hdq5:UY q5.data=UY (V1 n35):=congrArg (fun p:Pk=>UY p.data) hq5e;obtain ⟨pb,hppb,hdpb⟩:=zti hR5 he5 (i:=1) (xs:=[n35]) rfl;have hnpb:=hR5.nt pb (List.mem_of_getElem? hppb);obtain ⟨pa,hppa,hdpa⟩:=zti hR5 he5 (i:=0) (xs:=[]) rfl;have hnpa:=hR5.nt pa (List.mem_of_getElem? hppa);have hpa0:(((pa.n:Nat):Int)==0)=true:=(by rw [zzI hnpa hdpa];rfl);have hpbl:pb.n≤100000:=(by have h1:=hnpb.sl.len;have h2:=congrArg List.length hdpb;rw [List.length_map] at h2;simp at h2;omega);have hD:=zB6 I18;refine Zn<|QJ I18 [] mixed<|zT 0 rfl (Qa rfl ZH) hD<|zT 1 rfl (Qa rfl QP) hD<|zT 2 rfl (Qc rfl Q5 (fun hg=>by exact Qy.imm h5.out rfl)) hD<|zT 3 rfl (QT rfl Q0) hD<|zT 4 rfl (QA rfl rfl rfl) hD<|zT 5 rfl (Qe rfl) hD<|zw 6 111 rfl (Qa rfl ZH) hD<|zw 7 111 rfl (Qa rfl QP) hD<|zw 8 111 rfl (Qc rfl Q5 (fun hg=>by exact Qy.imm h5.out rfl)) hD<|zw 9 111 rfl (QG rfl rfl Q0 hR5.q (fun hg=>kB)) hD ?_
 refine zw 10 111 rfl (Qa rfl JR) hD<|zw 11 111 rfl (Qc rfl V5 (fun hg=>by exact zB8 hR5.q hq5 (j:=2) rfl)) hD<|zw 12 111 rfl (Zv rfl bst (fun hg=>hq5M.sl)) hD<|qd 13 rfl<|QQ (dj:=111) rfl rfl rfl<|qcV (vs:=[_,_]) rfl zfX (zf4 _ 3 5)<|Qb<|zD hD<|qd 14 rfl<|QQ (dj:=111) rfl rfl rfl<|zpc [_] rfl WV .nil (WX n35 (zjw _) kC zaF.1 (Nat.le_trans zaF.2.2 kC)) ?_
 rintro vv19 I19 L19 hI19 ⟨rfl,am,cm,rfl,hSm⟩;have h1:=h1.mono hI19;have h5:=h5.mono hI19;have hR5:=hR5.mono hI19;have hR11:=hR11.mono hI19;have h11:=h11.mono hI19;have h13:=h13.mono hI19;have hnpb:=hnpb.mono hI19;have hIc:=hIc.trans hI19;have hD:=hD.trans hI19;refine Qb<|zD hD<|qd 15 rfl<|QQ (dj:=111) rfl rfl rfl<|zV (Zv rfl bst (fun hg=>hSm))<|Qb<|zD hD<|zw 16 111 rfl (J6 rfl rfl rfl) hD ?_
 rw [hdq5,zdg];refine zT 17 rfl (QY rfl rfl rfl) hD<|zT 18 rfl (Qe rfl) hD<|zw 19 124 rfl (Qa rfl Zp) hD<|zw 24 124 rfl (Qe rfl) hD<|qd 20 rfl<|QQ (dj:=124) rfl rfl rfl ?_
 refine zV (Qc rfl Z6 (fun hg=>by exact Qy.imm h5.out rfl))<|Qb<|zD hD<|qd 21 rfl<|QQ (dj:=124) rfl rfl rfl<|zV (QG rfl rfl Z4 hR5.pe (fun hg=>kB))<|Qb<|zD hD<|zw 22 124 rfl (Qa rfl ZK) hD<|qd 23 rfl<|QQ (dj:=124) rfl rfl rfl ?_
 refine zV (Qc rfl Y1 (fun hg=>by exact zBZ hR5.pe hppb rfl))<|Qb<|zD hD<|qd 25 rfl<|QQ (dj:=124) rfl rfl rfl<|qcV (vs:=[_,_]) rfl ziT (zux hnpb h13 hdpb kB)<|Qb<|zD hD<|zT 26 rfl (QY rfl rfl rfl) hD<|zT 27 rfl (Qe rfl) hD<|zw 28 133 rfl (Qa rfl Zp) hD<|qd 29 rfl ?_
 refine QQ (dj:=133) rfl rfl rfl ?_;refine zV (Qc rfl Z6 (fun hg=>by exact Qy.imm h5.out rfl))<|Qb<|zD hD<|qd 30 rfl<|QQ (dj:=133) rfl rfl rfl<|zV (QG rfl rfl Z4 hR5.pe (fun hg=>kB))<|Qb<|zD hD<|zw 31 133 rfl (Qa rfl ZK) hD<|qd 32 rfl<|QQ (dj:=133) rfl rfl rfl ?_
 refine zV (Qc rfl Y1 (fun hg=>by exact zBZ hR5.pe hppa rfl))<|Qb<|zD hD<|zw 33 133 rfl (QT rfl Zj) hD<|zw 34 133 rfl (QA rfl rfl rfl) hD ?_
 rw [hpa0];refine zT 35 rfl (QY rfl rfl rfl) hD<|zT 36 rfl (QB rfl) hD<|Qn kA<|Qv<|Qd (Qm ?_)
 obtain ⟨pf,hppf,hdpf⟩:=zti hR11 he11 (i:=0) (xs:=[n35]) rfl;have hnpf:=hR11.nt pf (List.mem_of_getElem? hppf);have hpfl:pf.n≤100000:=(by have h1:=hnpf.sl.len;have h2:=congrArg List.length hdpf;rw [List.length_map] at h2;simp at h2;omega);refine Qh<|zF Zp ?_
 refine zV (Qc rfl Z6 (fun hg=>by exact Qy.imm h11.out rfl))<|zV (QG rfl rfl Z4 hR11.pe (fun hg=>kB))<|zV (Qg rfl Up (fun hg=>by exact zB7 hR11.pe hppf) rfl)<|zpc [_] rfl zrG .nil (zlV hnpf kB) ?_
 rintro vv20 I20 L20 hI20 hW0;have h1:=h1.mono hI20;have hR11:=hR11.mono hI20;have h11:=h11.mono hI20;have h13:=h13.mono hI20;have hnpf:=hnpf.mono hI20;have hIc:=hIc.trans hI20;obtain ⟨rfl,a15,n15,c15,a16,n16,c16,a17,n17,c17,a18,n18,c18,rfl,hS15,hS16,_,_⟩:=zmV hW0 (zeV hdpf hnpf.nd);rw [zuw hdpf] at hS16;obtain rfl:n16=1:=hS16.len.symm;refine zM ?_;refine zE<|zE<|zE<|zE<|zE<|zA<|zA<|zA<|zA<|zA<|zN (zR<|qcV (vs:=[_,_]) rfl zmi (zdc _ 2 0) ?_)
 refine qcV (vs:=[_,_]) rfl zmi (zdc _ 4 4)<|qcV (vs:=[_,_]) rfl zmi (zdc _ 5 3)<|zpb [(0,_),(1,_),(2,_)] [Zf (Yy 2 0),Zf (Yy 4 4),Zf (Yy 5 3)] Vx (fun b_157=>zV (QD (ps:=[(0,_)]) [_] zsx rfl rfl)<|QV (by repeat (first | exact Z1.here | apply Z1.there)) (fun I21 hI21 hb21=>?_))
 have h1:=h1.mono hI21;have hR11:=hR11.mono hI21;have h11:=h11.mono hI21;have h13:=h13.mono hI21;have hnpf:=hnpf.mono hI21;have hS16:=hS16.mono hI21;have hIc:=hIc.trans hI21;have hLl:=Sl.lit (enc:=Zf) hL rfl Z2 hb21;refine zpc [_] rfl zrG .nil (zlV ⟨hLl,fun x hx=>(zoq _ hx).1.nd,fun x hx _=>(zoq _ hx).1⟩ kC) ?_;rintro vv22 I22 L22 hI22 hW0;have h1:=h1.mono hI22;have hR11:=hR11.mono hI22;have h11:=h11.mono hI22;have h13:=h13.mono hI22;have hnpf:=hnpf.mono hI22;have hS16:=hS16.mono hI22;have hIc:=hIc.trans hI22;obtain ⟨rfl,a20,n20,c20,a21,n21,c21,a22,n22,c22,a23,n23,c23,rfl,hS20,_,_,_⟩:=zmV hW0 zp8;rw [zxW] at hS20;obtain rfl:n20=2:=hS20.len.symm;refine zM ?_;refine zE<|zE<|zE<|zE<|zE<|zA<|zA<|zA<|zA<|zA<|zN (zR<|zF Zp ?_)
 refine zV (Qc rfl Z6 (fun hg=>by exact Qy.imm h11.out rfl))<|zV (QG rfl rfl Z4 hR11.pe (fun hg=>kB))<|zV (Qg rfl Up (fun hg=>by exact zB7 hR11.pe hppf) rfl)<|zpc [_] rfl zxx .nil (zmm hnpf kB) ?_
 rintro vv23 I23 L23 hI23 hW0;have h1:=h1.mono hI23;have hR11:=hR11.mono hI23;have h11:=h11.mono hI23;have h13:=h13.mono hI23;have hnpf:=hnpf.mono hI23;have hS16:=hS16.mono hI23;have hS20:=hS20.mono hI23;have hIc:=hIc.trans hI23;obtain ⟨rfl,a25,n25,c25,rs0,rfl,hRc,hrb⟩:=zuy hW0 (zeV hdpf hnpf.nd);obtain ⟨rsl,rsb,rsn⟩:=zuL hRc hrb hdpf;obtain rfl:n25=1:=(by have h:=hRc.sl.len;omega);refine zM ?_;refine zE<|zE ?_
 refine zA ?_;refine zA ?_;refine zN (zR ?_);refine zpb [] [] zc5 (fun b_174=>?_);refine zM ?_;refine zpa (_) (rs0.flatMap zcZ) ([(b_174,_)]) rfl rfl zc5 ZU.new (hRc.sl.src Wo) (zlt _) ?_;intro v8 L8 hO8 _;rw [List.nil_append,Nat.zero_add] at hO8;refine zM<|zpa (_) (rs0.flatMap zcZ) (L8) rfl rfl zc5 hO8 (hRc.sl.src Wo) (zlt _) ?_
 intro v9 L9 hO9 _;rw [←List.flatMap_append] at hO9;refine zx7 hO9 Wo (fun I24 hI24 af24 cf24 ef24 hZr=>?_);subst ef24;have h1:=h1.mono hI24;have hR11:=hR11.mono hI24;have h11:=h11.mono hI24;have h13:=h13.mono hI24;have hnpf:=hnpf.mono hI24;have hS16:=hS16.mono hI24;have hS20:=hS20.mono hI24;have hRc:=hRc.mono hI24;have hIc:=hIc.trans hI24;refine zpc [_] rfl zr1 .nil (zsc (rs:=rs0++rs0) ⟨hZr,fun r hr=>(List.mem_append.1 hr).elim (hRc.m r) (hRc.m r)⟩ kB (fun r hr=>rsn r ((List.mem_append.1 hr).elim id id))) ?_;rintro vv25 I25 L25 hI25 hLd0;have h1:=h1.mono hI25;have hR11:=hR11.mono hI25;have h11:=h11.mono hI25;have h13:=h13.mono hI25;have hnpf:=hnpf.mono hI25;have hS16:=hS16.mono hI25;have hS20:=hS20.mono hI25;have hIc:=hIc.trans hI25;obtain ⟨rfl,a27,m27,c27,zs27,rfl,hLz⟩:=zze hLd0 (by rw [List.length_append,rsl];decide) (fun r hr=>by rw [rsb r ((List.mem_append.1 hr).elim id id),zd3 zaF];simp);have hLn:=hLz.nt;have hdz:=zzh hLz (by intro h;rw [List.append_eq_nil_iff] at h;rw [h.1] at rsl;cases rsl) (fun r hr=>rsb r ((List.mem_append.1 hr).elim id id));refine zM ?_;refine zE<|zE<|Qp zqt rfl rfl (fun b_27=>?_)
 refine zh zb2<|zA (Qb<|QF .here (fun I26 hI26 hb26=>?_))
 have h1:=h1.mono hI26;have hR11:=hR11.mono hI26;have h11:=h11.mono hI26;have h13:=h13.mono hI26;have hnpf:=hnpf.mono hI26;have hS16:=hS16.mono hI26;have hS20:=hS20.mono hI26;have hLn:=hLn.mono hI26;have hIc:=hIc.trans hI26;have h27:=BxI.of hb26;refine Qd (zR<|zpb [(0,_)] [zcZ ⟨none,0,0,[]⟩] zc5 (fun b_183=>QV (by repeat (first | exact Z1.here | apply Z1.there)) (fun I27 hI27 hb27=>?_)));have h1:=h1.mono hI27;have hR11:=hR11.mono hI27;have h11:=h11.mono hI27;have h13:=h13.mono hI27;have hnpf:=hnpf.mono hI27;have hS16:=hS16.mono hI27;have hS20:=hS20.mono hI27;have hLn:=hLn.mono hI27;have h27:=h27.mono hI27;have hIc:=hIc.trans hI27;have hNl:=Sl.lit (enc:=zcZ) [(⟨none,0,0,[]⟩:Hy)] rfl Wo hb27;refine zpc [_] rfl zr1 .nil (zsc (rs:=[⟨none,0,0,[]⟩]) ⟨hNl,fun r hr=>by rw [List.mem_singleton.1 hr];exact ⟨.nil,fun _ h=>(by cases h)⟩⟩ kC (fun r hr=>by rw [List.mem_singleton.1 hr];decide)) ?_;rintro vv28 I28 L28 hI28 hLd0;have h1:=h1.mono hI28;have hR11:=hR11.mono hI28;have h11:=h11.mono hI28;have h13:=h13.mono hI28;have hnpf:=hnpf.mono hI28;have hS16:=hS16.mono hI28;have hS20:=hS20.mono hI28;have hLn:=hLn.mono hI28;have h27:=h27.mono hI28;have hIc:=hIc.trans hI28;obtain ⟨rfl,rfl⟩:=zz5 hLd0 kC ⟨_,List.mem_singleton.2 rfl,ztW⟩;refine zM ?_;refine zE<|zE<|Qp zqt rfl rfl (fun b_29=>?_)
 refine zh zb2<|zA (Qb<|QF .here (fun I29 hI29 hb29=>?_))
 have h1:=h1.mono hI29;have hR11:=hR11.mono hI29;have h11:=h11.mono hI29;have h13:=h13.mono hI29;have hnpf:=hnpf.mono hI29;have hS16:=hS16.mono hI29;have hS20:=hS20.mono hI29;have hLn:=hLn.mono hI29;have h27:=h27.mono hI29;have hIc:=hIc.trans hI29;have h29:=BxI.of hb29;refine Qd (zR (zM<|zM<|QQ (dj:=188) rfl rfl rfl<|zF Zp<|QQ (dj:=188) rfl rfl rfl ?_));refine zV (Qc rfl Z6 (fun hg=>by exact Qy.imm h11.out rfl))<|QQ (dj:=188) rfl rfl rfl<|zV (QG rfl rfl Z4 hR11.pe (fun hg=>kB))<|QQ (dj:=188) rfl rfl rfl<|zF ZK<|QQ (dj:=188) rfl rfl rfl ?_
 refine zV (Qc rfl Y1 (fun hg=>by exact zBZ hR11.pe hppf rfl))<|QQ (dj:=188) rfl rfl rfl<|zM<|QQ (dj:=188) rfl rfl rfl<|qcV (vs:=[_,_]) rfl ziT (zux hnpf h13 hdpf kB)<|zV (QY rfl rfl rfl)<|zM<|QQ (dj:=197) rfl rfl rfl<|zF ZH<|QQ (dj:=197) rfl rfl rfl<|zF QP<|QQ (dj:=197) rfl rfl rfl ?_
 refine zV (Qc rfl Q5 (fun hg=>by exact Qy.imm h11.out rfl))<|QQ (dj:=197) rfl rfl rfl<|zQ Q0<|QQ (dj:=197) rfl rfl rfl ?_
 refine zC<|zV (QY rfl rfl rfl)<|zM<|QQ (dj:=204) rfl rfl rfl<|zV (QD (ps:=[]) [_,_,_] KT rfl rfl)<|QQ (dj:=204) rfl rfl rfl<|zpc [_] rfl zeZ .nil (ziu zrc (r:=zeroR) rfl zok zqf) ?_
 rintro vv30 I30 L30 hI30 ⟨rfl,rfl⟩;have h1:=h1.mono hI30;have hR11:=hR11.mono hI30;have h11:=h11.mono hI30;have h13:=h13.mono hI30;have hS16:=hS16.mono hI30;have hS20:=hS20.mono hI30;have hLn:=hLn.mono hI30;have h27:=h27.mono hI30;have hIc:=hIc.trans hI30;refine QQ (dj:=204) rfl rfl rfl<|zC<|zV (QY rfl rfl rfl)<|zM<|QQ (dj:=209) rfl rfl rfl<|zV (Qg rfl Zu (fun hg=>by exact BxI.cells (vs:=[_,_,_]) h11) rfl)<|QQ (dj:=209) rfl rfl rfl<|zpc [_] rfl zeZ .nil (ziu hR11 he11 zwG ztX) ?_
 rintro vv31 I31 L31 hI31 ⟨rfl,rfl⟩;have h1:=h1.mono hI31;have h13:=h13.mono hI31;have hS16:=hS16.mono hI31;have hS20:=hS20.mono hI31;have hLn:=hLn.mono hI31;have h27:=h27.mono hI31;have hIc:=hIc.trans hI31;refine QQ (dj:=209) rfl rfl rfl<|zC<|zV (QY rfl rfl rfl)<|zA (zN (Qm ?_))
 have hzl:m27≤100000:=(by have h1:=hLn.sl.len;have h2:=congrArg List.length hdz;rw [List.length_map] at h2;simp at h2;omega);have hD:=zB6 I31;refine Zn<|QJ I31 [] mixed<|zT 0 rfl (Qe rfl) hD<|zT 1 rfl (Qe rfl) hD<|zw 2 215 rfl (Qe rfl) hD<|zw 3 215 rfl (QA rfl rfl rfl) hD<|zT 4 rfl (QY rfl rfl rfl) hD<|zT 5 rfl (Qe rfl) hD<|zw 6 219 rfl (Qe rfl) hD<|zw 7 219 rfl (QA rfl rfl rfl) hD<|zT 8 rfl (QY rfl rfl rfl) hD<|zT 9 rfl (Qe rfl) hD ?_
 refine zw 10 223 rfl (Qe rfl) hD<|zw 11 223 rfl (QA rfl rfl rfl) hD<|zT 12 rfl (QY rfl rfl rfl) hD<|zT 13 rfl (Qe rfl) hD<|zw 14 227 rfl (Qe rfl) hD<|zw 15 227 rfl (QA rfl rfl rfl) hD<|zT 16 rfl (QY rfl rfl rfl) hD<|zT 17 rfl (Qe rfl) hD<|zw 18 231 rfl (Qe rfl) hD<|zw 19 231 rfl (QA rfl rfl rfl) hD<|zT 20 rfl (QY rfl rfl rfl) hD<|zT 21 rfl (Qe rfl) hD ?_
 refine zw 22 235 rfl (Qe rfl) hD<|zw 23 235 rfl (QT rfl ZY) hD<|zw 24 235 rfl (QA rfl rfl rfl) hD<|zT 25 rfl (QY rfl rfl rfl) hD<|zT 26 rfl (Qe rfl) hD<|zw 27 240 rfl (Qe rfl) hD<|zw 28 240 rfl (zX ZY hS20) hD<|zw 29 240 rfl (Qa rfl YV) hD<|zw 30 240 rfl (Qc rfl Ql (fun hg=>by exact zBZ hS20 (k:=0) rfl rfl)) hD<|zw 31 240 rfl (QA rfl rfl rfl) hD<|zT 32 rfl (QY rfl rfl rfl) hD<|zT 33 rfl (Qe rfl) hD ?_
 refine zw 34 247 rfl (Qe rfl) hD<|zw 35 247 rfl (zX ZY hS20) hD<|zw 36 247 rfl (Qa rfl YV) hD<|zw 37 247 rfl (Qc rfl Ql (fun hg=>by exact zBZ hS20 (k:=1) rfl rfl)) hD<|zw 38 247 rfl (QA rfl rfl rfl) hD<|zT 39 rfl (QY rfl rfl rfl) hD<|zT 40 rfl (Qe rfl) hD<|zw 41 254 rfl (Qe rfl) hD<|zw 42 254 rfl (QT rfl K4) hD<|zw 43 254 rfl (QA rfl rfl rfl) hD<|zT 44 rfl (QY rfl rfl rfl) hD<|zT 45 rfl (Qe rfl) hD ?_
 refine zw 46 259 rfl (Qe rfl) hD<|zw 47 259 rfl (zX K4 hS16) hD<|zw 48 259 rfl (Qg rfl Kj (fun hg=>by exact zB7 hS16 (k:=0) rfl) rfl) hD<|qd 49 rfl<|QQ (dj:=259) rfl rfl rfl<|qcV (vs:=[_,_]) rfl zfX (zf4 _ 3 5)<|Qb<|zD hD<|qd 50 rfl<|QQ (dj:=259) rfl rfl rfl<|zV (zjW [_,_,_,_,_] rfl zpS rfl)<|Qb ?_
 refine zD hD<|zw 51 259 rfl (Wh rfl rfl ziF rfl) hD<|zT 52 rfl (QY rfl rfl rfl) hD<|zT 53 rfl (Qe rfl) hD<|zw 54 267 rfl (Qe rfl) hD<|zw 55 267 rfl (QT rfl ziS) hD<|zw 56 267 rfl (QA rfl rfl rfl) hD<|zT 57 rfl (QY rfl rfl rfl) hD<|zT 58 rfl (Qe rfl) hD<|zw 59 272 rfl (Qa rfl ZK) hD<|zw 60 272 rfl (Qc rfl Y1 (fun hg=>by exact Qy.imm h27.out rfl)) hD<|zw 61 272 rfl (Qe rfl) hD ?_
 exact qd 62 rfl<|QQ (dj:=272) rfl rfl rfl<|qcV (vs:=[_,_]) rfl ziT (zux hLn h13 hdz kB)<|Qb<|zD hD<|zT 63 rfl (QY rfl rfl rfl) hD<|zT 64 rfl (QB rfl) hD<|Qn kA<|Qv<|Qd (Qs<|Qx rfl rfl (fun w hw=>⟨by rfl,(hw.mono hIc).subL Qq⟩))
section
variable {I:Qu} {pa qa aa:Option Addr} {pn pc qn qc an ac m k:Nat} {ps:List Pe} {qs:List Pk} {ks:List (Int×Int)} {r:Rd} {ts:List Nt}
theorem zyW (e:YD ps qs ks=r){pe:Pe}{i:Nat}(hp:ps[i]? =some pe):r.ps[i]? =some (pe.notes.map YF):=by
 subst e;simp [YD,dtP,hp]
theorem zqd {x:Nt}(hN:Nd I x.pt)(hf:QN (YF x)=true):x.pt.n≤100000:=by
 have hl:x.pt.needs.length=x.pt.n:=hN.len;have:=(zal hl (by rw [←KB hl.symm];exact hf)).1;omega
end
theorem zq8 (n:Int):(n != n)=false:=by simp
theorem zxd:Fun Tryz.prog 10:=.of Tryz.func10 kA kA
end
end Go.Proofs.YtjblkbkmblkgoaaGreat
namespace Go.Kn
section
open Go Go.Proofs
theorem zaO:∀ (a b:List UInt8),Op.bytesLess a b=decide (Lib.compareBytes a b<0)
 | [],[]=>rfl
 | [],_::_=>rfl
 | _::_,[]=>rfl
 | x::a,y::b=>by
  unfold Op.bytesLess Lib.compareBytes;rw [zaO a b];by_cases h:x<y
  ·
   simp [h]
  ·
   by_cases h2:y<x
   ·
    have:(x==y)=false:=by
     rw [beq_eq_false_iff_ne];rintro rfl;exact h h2
    simp [h,h2,this]
   ·
    have e:x=y:=UInt8.le_antisymm (UInt8.not_lt.1 h2) (UInt8.not_lt.1 h);subst e;simp [h]
section
variable {C:Cx} {E:Env} {I:Qu} {loc:Loc} {S:GS} {dst:Option Tmp} {pos:String} {af:Array Edge} {gd:Option (Nat×Bool)} {x y:Operand}
theorem Xi {t t' ty:TypeId}{s1 s2:ByteArray}(hx:QH S E x=some (.string s1))(hy:QH S E y=some (.string s2)):QZ C S E I loc ⟨dst,.binOp .lss t x y t',ty,pos,af,gd⟩ (.bool (decide (Lib.compareBytes s1.data.toList s2.data.toList<0))):=
 .of kE fun a w ha hg hc _=>by
  have e1:∀ op x y t (a b:ByteArray),(eqGuard op t x y (.string a) (.string b)).run C.P w= .ok () w:=(by intros;unfold eqGuard;rename_i op _ _ _ _ _;cases op<;>rfl);have e3:decide (Lib.compareBytes s1.data.toList s2.data.toList<0)=Op.bytesLess s1.toList s2.toList:=(by rw [ByteArray.toList_eq,ByteArray.toList_eq,zaO]);rw [e3];simp only [execOp,Qj ha hg hc hx,Qj ha hg hc hy,Sem.run_bind,e1,Result.andThen];rfl
end
end
end Go.Kn
namespace Go.Proofs.YtjblkbkmblkgoaaGreat
section
open Go Go.Kn Go.Proofs
def XR:List Nt→Nt→Nat
 | [],_=>0
 | x::xs,t=>if Vm x t<0 then XR xs t+1 else 0
theorem zhl:∀ (xs:List Nt) (t:Nt),XR xs t≤xs.length
 | [],_=>Nat.le_refl _
 | x::xs,t=>by
  unfold XR;have:=zhl xs t;split<;>simp<;>omega
theorem zg9:∀ {xs:List Nt} {t:Nt} {j:Nat} {x:Nt},j<XR xs t→xs[j]? =some x→Vm x t<0
 | [],_,_,_,h,_=>absurd h (Nat.not_lt_zero _)
 | x::xs,t,j,y,h,hy=>by
  unfold XR at h;split at h
  ·
   rename_i hx
   cases j with
   | zero=>simp at hy;subst hy;exact hx
   | succ j=>exact zg9 (xs:=xs) (j:=j) kB (by simpa using hy)
  ·
   omega
theorem zgJ:∀ {xs:List Nt} {t:Nt} {x:Nt},xs[XR xs t]? =some x→¬Vm x t<0
 | [],_,_,h=>by simp [XR] at h
 | x::xs,t,y,h=>by
  unfold XR at h;split at h
  ·
   rename_i hx;exact zgJ (xs:=xs) (by simpa using h)
  ·
   rename_i hx;simp at h;subst h;exact hx
variable{xs:List Nt}{t:Nt}{k:Nat}
theorem zmK (h:∀ (j:Nat) (x:Nt),j<k→xs[j]? =some x→Vm x t<0)(hk:k≤xs.length)(hn:∀ x,xs[k]? =some x→¬Vm x t<0):XR xs t=k:=by
 rcases Nat.lt_trichotomy (XR xs t) k with h1 | h1 | h1
 ·
  have h2:xs[XR xs t]? =some xs[XR xs t]:=List.getElem?_eq_getElem kB;exact absurd (h _ _ h1 h2) (zgJ h2)
 ·
  exact h1
 ·
  have hl:k<xs.length:=(by have:=zhl xs t;omega);have h2:xs[k]? =some xs[k]:=List.getElem?_eq_getElem hl;exact absurd (zg9 h1 h2) (hn _ h2)
def zfg (xs:List Nt)(t:Nt):Bool:=match xs[XR xs t]? with | some x=>smN x t | none=>false
def zo8 (xs:List Nt)(t:Nt):List Nt:=if zfg xs t=true then xs else xs.take (XR xs t)++t::xs.drop (XR xs t)
theorem zgm {x:Nt}(h:xs[XR xs t]? =some x):zfg xs t=smN x t:=by unfold zfg;rw [h]
theorem zm0 (h:xs.length≤XR xs t):zfg xs t=false:=by unfold zfg;rw [List.getElem?_eq_none h]
theorem zeA (h:zfg xs t=true):zo8 xs t=xs:=if_pos h
theorem zev (h:zfg xs t=false):zo8 xs t=xs.take (XR xs t)++t::xs.drop (XR xs t):=if_neg (by rw [h];simp)
theorem zvL {x:Nt}(h:∀ (j:Nat) (x:Nt),j<k→xs[j]? =some x→Vm x t<0)(hx:xs[k]? =some x)(hl:Vm x t<0):∀ (j:Nat) (x:Nt),j<k+1→xs[j]? =some x→Vm x t<0:=fun j y hj hy=>by
 rcases Nat.lt_succ_iff_lt_or_eq.1 hj with h1 | rfl
 ·
  exact h j y h1 hy
 ·
  rw [hx] at hy;cases hy;exact hl
theorem zpg {y:Nt}(hd:zfg xs t=false):y∈zo8 xs t↔y=t∨y∈xs:=by
 rw [zev hd,List.mem_append,List.mem_cons];have e:y∈xs↔y∈xs.take (XR xs t)∨y∈xs.drop (XR xs t):=(by rw [←List.mem_append,List.take_append_drop]);rw [e];constructor
 ·
  rintro (h | h | h)
  ·
   exact .inr (.inl h)
  ·
   exact .inl h
  ·
   exact .inr (.inr h)
 ·
  rintro (h | h | h)
  ·
   exact .inr (.inl h)
  ·
   exact .inl h
  ·
   exact .inr (.inr h)
variable{p:Nt→Prop}
theorem zhP (h:∀ x∈xs,p x)(ht:p t):∀ x∈zo8 xs t,p x:=fun x hx=>by
 cases hd:zfg xs t with
 | true=>rw [zeA hd] at hx;exact h x hx
 | false=>
  rcases (zpg hd).1 hx with rfl | hx
  ·
   exact ht
  ·
   exact h x hx
variable{I:Qu}{av a:Option Addr}{n c m:Nat}
theorem zeg {c2:Nat}(hP:WB I av n c xs)(hT:NtM I t)(hR:Sl I 45 Zf a m c2 (xs.take k++t::xs.drop k))(hk:XR xs t=k)(hh:zfg xs t=false):WB I a m c2 (zo8 xs t):=
 ⟨by rw [zev hh,hk];exact hR,zhP (p:=fun x=>Nd I x.pt) hP.nd hT.nd,zhP (p:=fun x=>QN x=true→NtM I x) hP.m fun _=>hT⟩
theorem zrS:Fun Tryz.prog 88:=.of Tryz.func88 kA kA
theorem zjx (x y:Nt)(hX:NtM I x)(hY:NtM I y):YE Tryz.prog 88 [J0 x,J0 y] I [] (fun v _I' L'=>L'=[]∧v= .bool (decide (Vm x y<0))):=by
 intro g H w hw;refine qe Tryz.func88 Tryz.ntmps88 hw ?_;have hIc:=zB6 I;refine zR<|QK rfl rfl rfl (fun b_2=>QK rfl rfl rfl (fun b_3=>zA (Qb<|QF .here (fun I1 hI1 hb1=>?_))))
 have hX:=hX.mono hI1;have hY:=hY.mono hI1;have hIc:=hIc.trans hI1;have h3:=BxI.of hb1;refine QF .here (fun I2 hI2 hb2=>?_);have hX:=hX.mono hI2;have hY:=hY.mono hI2;have h3:=h3.mono hI2;have hIc:=hIc.trans hI2;have h2:=BxI.of hb2;refine Qd (Qm ?_);have hD:=zB6 I2;refine Zn<|QJ I2 [] mixed<|zT 0 rfl (Qg rfl Zc (fun hg=>by exact BxI.cells (vs:=Zf x) h2) rfl) hD ?_
 refine QU 1 3 rfl rfl kA ?_ ?_
 ·
  refine zpc [_] rfl WV .nil (WX x hX.nd hX.nn hX.ok hX.len) ?_;rintro vv3 I3 L3 hI3 ⟨rfl,a1,c1,rfl,hS1⟩;have hY:=hY.mono hI3;have h3:=h3.mono hI3;have hIc:=hIc.trans hI3;have hD:=hD.trans hI3;refine Qb<|zD hD ?_
  refine QU 2 3 rfl rfl kA ?_ ?_
  focus
   refine zV (Zv rfl bst (fun hg=>hS1))<|Qb<|zD hD<|qd 3 rfl<|zV (Qg rfl Zc (fun hg=>by exact BxI.cells (vs:=Zf y) h3) rfl)<|Qb<|zD hD<|qd 4 rfl<|zpc [_] rfl WV .nil (WX y hY.nd hY.nn hY.ok hY.len) ?_
   rintro vv4 I6 L4 hI4 ⟨rfl,a2,c2,rfl,hS2⟩;have hIc:=hIc.trans hI4;have hD:=hD.trans hI4;refine Qb<|zD hD<|qd 5 rfl<|zV (Zv rfl bst (fun hg=>hS2)) ?_
  rotate_left
  refine zV (Qg rfl Zc (fun hg=>by exact BxI.cells (vs:=Zf y) h3) rfl)<|Qb<|zD hD ?_
  refine QU 2 4 rfl rfl kA ?_ ?_
  focus
   refine zV (Zv rfl bst (fun hg=>hS1))<|Qb<|zD hD<|qd 4 rfl<|zpc [_] rfl WV .nil (WX y hY.nd hY.nn hY.ok hY.len) ?_
   rintro vv5 I6 L5 hI5 ⟨rfl,a2,c2,rfl,hS2⟩;have hIc:=hIc.trans hI5;have hD:=hD.trans hI5;refine Qb<|zD hD<|qd 5 rfl<|zV (Zv rfl bst (fun hg=>hS2)) ?_
  rotate_left
  refine zpc [_] rfl WV .nil (WX y hY.nd hY.nn hY.ok hY.len) ?_;rintro vv6 I6 L6 hI6 ⟨rfl,a2,c2,rfl,hS2⟩;have hS1:=hS1.mono hI6;have hIc:=hIc.trans hI6;have hD:=hD.trans hI6;refine Qb<|zD hD ?_
  refine QU 2 5 rfl rfl kA ?_ ?_
  focus
   refine zV (Zv rfl bst (fun hg=>hS1))<|Qb<|zD hD<|qd 5 rfl<|zV (Zv rfl bst (fun hg=>hS2)) ?_
  rotate_left
  refine zV (Zv rfl bst (fun hg=>hS2))<|Qb<|zD hD<|qd 2 rfl<|zV (Zv rfl bst (fun hg=>hS1)) ?_
  all_goals
   exact Qb<|zD hD<|zT 6 rfl (Xi rfl rfl) hD<|zT 7 rfl (QB rfl) hD<|Qn kA<|Qv<|Qd (Qs<|Qx rfl rfl (fun w hw=>⟨_,I6,[],rfl,hIc,hw.subL Qq,rfl,rfl⟩))
 refine zV (Qg rfl Zc (fun hg=>by exact BxI.cells (vs:=Zf y) h3) rfl)<|Qb<|zD hD<|qd 1 rfl<|zpc [_] rfl WV .nil (WX x hX.nd hX.nn hX.ok hX.len) ?_
 rintro vv7 I7 L7 hI7 ⟨rfl,a1,c1,rfl,hS1⟩;have hY:=hY.mono hI7;have hIc:=hIc.trans hI7;have hD:=hD.trans hI7;refine Qb<|zD hD ?_
 refine QU 2 4 rfl rfl kA ?_ ?_
 focus
  refine zV (Zv rfl bst (fun hg=>hS1))<|Qb<|zD hD<|qd 4 rfl<|zpc [_] rfl WV .nil (WX y hY.nd hY.nn hY.ok hY.len) ?_
  rintro vv8 I9 L8 hI8 ⟨rfl,a2,c2,rfl,hS2⟩;have hIc:=hIc.trans hI8;have hD:=hD.trans hI8;refine Qb<|zD hD<|qd 5 rfl<|zV (Zv rfl bst (fun hg=>hS2)) ?_
 rotate_left
 refine zpc [_] rfl WV .nil (WX y hY.nd hY.nn hY.ok hY.len) ?_;rintro vv9 I9 L9 hI9 ⟨rfl,a2,c2,rfl,hS2⟩;have hS1:=hS1.mono hI9;have hIc:=hIc.trans hI9;have hD:=hD.trans hI9;refine Qb<|zD hD ?_
 refine QU 2 5 rfl rfl kA ?_ ?_
 focus
  refine zV (Zv rfl bst (fun hg=>hS1))<|Qb<|zD hD<|qd 5 rfl<|zV (Zv rfl bst (fun hg=>hS2)) ?_
 rotate_left
 refine zV (Zv rfl bst (fun hg=>hS2))<|Qb<|zD hD<|qd 2 rfl<|zV (Zv rfl bst (fun hg=>hS1)) ?_
 all_goals
  exact Qb<|zD hD<|zT 6 rfl (Xi rfl rfl) hD<|zT 7 rfl (QB rfl) hD<|Qn kA<|Qv<|Qd (Qs<|Qx rfl rfl (fun w hw=>⟨_,I9,[],rfl,hIc,hw.subL Qq,rfl,rfl⟩))
theorem zqT (hP:WB I av n c xs)(hM:∀ x∈xs,NtM I x)(hT:NtM I t)(hn:n<4096):YE Tryz.prog 84 [.slice av n c,J0 t] I [] (fun v I' L'=>L'=[]∧∃ a m c,v= .tuple #[.slice a m c,.int .i64 0]∧WB I' a m c (zo8 xs t)):=by
 intro g H w hw;refine qe Tryz.func84 Tryz.ntmps84 hw ?_;have hIc:=zB6 I;have hln:=hP.sl.len;have hcap:=hP.sl.cap;refine zR<|QK rfl rfl rfl (fun b_3=>zA<|zA (Qb<|QF .here (fun I1 hI1 hb1=>?_)))
 have hP:=hP.mono hI1;have hT:=hT.mono hI1;have hIc:=hIc.trans hI1;have h3:=BxI.of hb1;refine Qd (zR (zA (zN ?_)));refine zY [(0,_),(3,_)] (fun T L0 E I' loc'=>∃ (k:Nat),E=(6,.int .i64 k)::T∧HLe I1 I'∧L0=loc'∧XR xs t=k∧k≤n) ?_ ?_
 ·
  have hK0:=zB6 I1;refine Qw<|zU [(0,_),(3,_)] (fun T L0 mz E I' loc'=>∃ (k:Nat),mz=n-k∧E=(6,.int .i64 k)::T∧HLe I1 I'∧L0=loc'∧k≤n∧(∀ (j:Nat) (x:Nt),j<k→xs[j]? =some x→Vm x t<0)) ?_ (h:=⟨0,rfl,rfl,zB6 _,rfl,Nat.zero_le _,fun j x h=>absurd h (Nat.not_lt_zero _)⟩)
  rintro mz E J2 loc' ⟨k,rfl,rfl,hJ,rfl,hk,hall⟩;have hP:=hP.mono hJ;have hT:=hT.mono hJ;have h3:=h3.mono hJ;have hIc:=hIc.trans hJ;have hK0:=hK0.trans hJ;have hB0:=hJ;refine Qm (Qm ?_);rcases Nat.lt_or_ge k n with hkn | hkn
  ·
   obtain ⟨x,hx⟩:∃ y,xs[k]? =some y:=⟨_,List.getElem?_eq_getElem kB⟩;have hxm:=List.mem_of_getElem? hx;have hD:=zB6 J2;refine Zn<|QJ J2 [] mixed<|zT 0 rfl (Qe rfl) hD<|zT 1 rfl (Qe rfl) hD<|zT 2 rfl (QT rfl Zj) hD<|zT 3 rfl (QA rfl rfl rfl) hD ?_
   rw [show decide (((k:Nat):Int)<((n:Nat):Int))=true by simp;omega];refine zT 4 rfl (Qe rfl) hD<|zw 5 11 rfl (Qe rfl) hD<|zw 6 11 rfl (Qe rfl) hD<|zw 7 11 rfl (QG rfl rfl Zj hP.sl (fun hg=>kB)) hD<|zw 8 11 rfl (Qg rfl Zc (fun hg=>by exact zB7 hP.sl hx) rfl) hD<|zw 9 11 rfl (Qg rfl Zc (fun hg=>by exact BxI.cells (vs:=Zf t) h3) rfl) hD<|qd 10 rfl<|QQ (dj:=11) rfl rfl rfl<|zpc [_,_] rfl zrS .nil (zjx x t ((hM x hxm).mono hIc) hT) ?_
   rintro vv3 I3 L3 hI3 ⟨rfl,rfl⟩;have hK0:=hK0.trans hI3;have hB0:=hB0.trans hI3;have hD:=hD.trans hI3;refine Qb<|zD hD<|zT 11 rfl (QY rfl rfl rfl) hD<|Qn kA<|Qv<|Qd ?_
   refine zI ?_ ?_<;>intro hc18
   ·
    have hbt:Vm x t<0:=(by simpa using hc18);refine Qr (Qd (Qw (Qh (zM ?_))));exact zB<|zA (Qb (Qk<|zm (h:=⟨n-(k+1),kB,k+1,rfl,rfl,hB0,rfl,kB,zvL hall hx hbt⟩)))
   have hkp:XR xs t=k:=zmK hall kB (fun y hy=>by rw [hx] at hy;cases hy;simpa using hc18);exact Zk (Qo (Qo (Qz<|zm (h:=⟨_,rfl,hK0,rfl,hkp,hk⟩))))
  have hD:=zB6 J2;refine Zn<|QJ J2 [] mixed<|zT 0 rfl (Qe rfl) hD<|zT 1 rfl (Qe rfl) hD<|zT 2 rfl (QT rfl Zj) hD<|zT 3 rfl (QA rfl rfl rfl) hD ?_
  rw [show decide (((k:Nat):Int)<((n:Nat):Int))=false by simp;omega];refine zT 4 rfl (Qe rfl) hD ?_;refine zW 5 11 hD ?_;refine zW 6 11 hD ?_;refine zW 7 11 hD ?_;refine zW 8 11 hD ?_;refine zW 9 11 hD ?_;refine zW 10 11 hD<|zT 11 rfl (Ye rfl rfl rfl) hD<|Qn kA<|Qv<|Qd ?_
  refine zI ?_ ?_<;>intro hc18
  ·
   cases hc18
  have hkp:XR xs t=k:=zmK hall kB (fun y hy=>by have h:=(List.getElem?_eq_some_iff.1 hy).1;omega);exact Zk (Qo (Qo (Qz<|zm (h:=⟨_,rfl,hK0,rfl,hkp,hk⟩))))
 rintro E J4 loc' ⟨k,rfl,hJ5,rfl,hkp,hk⟩;have hP:=hP.mono hJ5;have hT:=hT.mono hJ5;have h3:=h3.mono hJ5;have hIc:=hIc.trans hJ5;refine zY [(0,_),(3,_),(6,_)] (fun T L0 E I' loc'=>E=T∧HLe J4 I'∧L0=loc'∧zfg xs t=false) ?_ ?_
 ·
  have hKc4:=zB6 J4;refine Qm ?_;rcases Nat.lt_or_ge k n with hkn | hkn
  ·
   obtain ⟨x,hx⟩:∃ y,xs[k]? =some y:=⟨_,List.getElem?_eq_getElem kB⟩;have hxm:=List.mem_of_getElem? hx;have hD:=zB6 J4;refine zew mixed<|zT 0 rfl (Qe rfl) hD<|zT 1 rfl (Qe rfl) hD<|zT 2 rfl (QT rfl Zj) hD<|zT 3 rfl (QA rfl rfl rfl) hD ?_
   rw [show decide (((k:Nat):Int)<((n:Nat):Int))=true by simp;omega];refine zT 4 rfl (Qe rfl) hD<|zw 5 25 rfl (Qe rfl) hD<|zw 6 25 rfl (Qe rfl) hD<|zw 7 25 rfl (QG rfl rfl Zj hP.sl (fun hg=>kB)) hD<|zw 8 25 rfl (Qg rfl Zc (fun hg=>by exact zB7 hP.sl hx) rfl) hD<|zw 9 25 rfl (Qg rfl Zc (fun hg=>by exact BxI.cells (vs:=Zf t) h3) rfl) hD<|qd 10 rfl<|QQ (dj:=25) rfl rfl rfl<|qcV (vs:=[_,_]) rfl zr7 (zyf (hP.nd x hxm) hT.nd (hM x hxm).nn)<|Qb<|zD hD<|zT 11 rfl (QY rfl rfl rfl) hD ?_
   refine Qn kA<|Qv<|Qd ?_
   refine zI ?_ ?_<;>intro hc32
   ·
    have hh:zfg xs t=true:=(by rw [zgm (by rw [hkp];exact hx)];exact hc32);refine zR (zM<|zA<|zA (zN (Qs (Qf ?_))));exact Vq rfl rfl rfl (fun w hw=>⟨_,J4,[],rfl,hIc,hw.subL Qq,rfl,_,_,_,rfl,by rw [zeA hh];exact hP⟩)
   have hh:zfg xs t=false:=(by rw [zgm (by rw [hkp];exact hx)];simpa using hc32);exact Qr<|zm (h:=⟨rfl,hKc4,rfl,hh⟩)
  have hD:=zB6 J4;refine zew mixed<|zT 0 rfl (Qe rfl) hD<|zT 1 rfl (Qe rfl) hD<|zT 2 rfl (QT rfl Zj) hD<|zT 3 rfl (QA rfl rfl rfl) hD ?_
  rw [show decide (((k:Nat):Int)<((n:Nat):Int))=false by simp;omega];refine zT 4 rfl (Qe rfl) hD ?_;refine zW 5 25 hD ?_;refine zW 6 25 hD ?_;refine zW 7 25 hD ?_;refine zW 8 25 hD ?_;refine zW 9 25 hD ?_;refine zW 10 25 hD<|zT 11 rfl (Ye rfl rfl rfl) hD<|Qn kA<|Qv<|Qd ?_
  refine zI ?_ ?_<;>intro hc32
  ·
   cases hc32
  have hh:zfg xs t=false:=zm0 kB;exact Qr<|zm (h:=⟨rfl,hKc4,rfl,hh⟩)
 rintro E J5 loc' ⟨rfl,hJ7,rfl,hh⟩;have hP:=hP.mono hJ7;have hT:=hT.mono hJ7;have h3:=h3.mono hJ7;have hIc:=hIc.trans hJ7;refine Qm (zR (zM<|zQ Zj<|zC (zN ?_)));refine zI ?_ ?_<;>intro hc36
 ·
  have h:=hc36;simp at h;omega
 refine Qr (Qd (Qm ?_));have hD:=zB6 J5;refine Zn<|QJ J5 [] mixed<|zT 1 rfl (Qe rfl) hD<|zT 2 rfl (Qe rfl) hD<|zT 3 rfl (Yw rfl rfl Zj (fun hg=>kB)) hD<|zT 5 rfl (Qg rfl Zc (fun hg=>by exact BxI.cells (vs:=Zf t) h3) rfl) hD<|zT 8 rfl (Qe rfl) hD<|zT 9 rfl (Qe rfl) hD<|zT 10 rfl (Z9 rfl rfl Zj (fun hg=>kB)) hD ?_
 refine QU 0 6 rfl rfl kA ?_ ?_
 ·
  refine zpb [] [] Vx (fun b_37=>Qb<|zD hD ?_);refine QU 4 6 rfl rfl kA ?_ ?_
  focus
   refine zpa (_) ((xs.take k).flatMap Zf) ([(b_37,_)]) rfl rfl Vx ZU.new ((hP.sl.take hk).src Z2) (zan _) ?_;intro v1 L1 hO1 _;rw [List.nil_append] at hO1;refine Qb<|zD hD<|qd 6 rfl<|zpb [(0,_)] [Zf t] Vx (fun b_43=>?_)
  rotate_left
  refine zpb [(0,_)] [Zf t] Vx (fun b_43=>Qb<|zD hD<|qd 4 rfl<|zpa (_) ((xs.take k).flatMap Zf) ([(b_37,_)]) rfl rfl Vx ZU.new ((hP.sl.take hk).src Z2) (zan _) ?_);intro v1 L1 hO1 _;rw [List.nil_append] at hO1
  all_goals
   refine Qb<|zD hD<|qd 7 rfl<|zpa (v1) ([t].flatMap Zf) (L1) rfl rfl Vx hO1 ⟨rfl,fun _=>rfl,by repeat (first | exact zB4 | apply zB3 | apply zB5)⟩ (zan [t]) ?_
   intro v2 L2 hO2 _;refine Qb<|zD hD<|qd 11 rfl<|zpa (v2) ((xs.drop k).flatMap Zf) (L2) rfl rfl Vx hO2 ((hP.sl.drop hk).src Z2) (zan _) ?_
   intro v3 L3 hO3 _;refine Qb<|zD hD<|zT 12 rfl (QB rfl) hD<|zT 13 rfl (QB rfl) hD<|Qn kA<|Qv<|Wb (xs:=xs.take k++t::xs.drop k) (by simpa [List.flatMap_append] using hO3) Z2 kC (by repeat (first | exact .cons .here .nil | exact ZL | exact Zi | apply ZF | apply ZC)) (fun I7 hI7 af7 cf7 ef7 hR=>?_)
   subst ef7;have hP:=hP.mono hI7;have hT:=hT.mono hI7;have hIc:=hIc.trans hI7;exact Qd (Qs<|Vq rfl rfl rfl (fun w hw=>⟨_,I7,[],rfl,hIc,hw.subL Qq,rfl,_,_,_,rfl,zeg hP hT hR hkp hh⟩))
 refine zpb [(0,_)] [Zf t] Vx (fun b_43=>Qb<|zD hD<|qd 0 rfl<|zpb [] [] Vx (fun b_37=>Qb<|zD hD<|qd 4 rfl<|zpa (_) ((xs.take k).flatMap Zf) ([(b_37,_)]) rfl rfl Vx ZU.new ((hP.sl.take hk).src Z2) (zan _) ?_));intro v1 L1 hO1 _;rw [List.nil_append] at hO1;refine Qb<|zD hD<|qd 7 rfl<|zpa (v1) ([t].flatMap Zf) (L1) rfl rfl Vx hO1 ⟨rfl,fun _=>rfl,by repeat (first | exact zB4 | apply zB3 | apply zB5)⟩ (zan [t]) ?_
 intro v2 L2 hO2 _;refine Qb<|zD hD<|qd 11 rfl<|zpa (v2) ((xs.drop k).flatMap Zf) (L2) rfl rfl Vx hO2 ((hP.sl.drop hk).src Z2) (zan _) ?_
 intro v3 L3 hO3 _;refine Qb<|zD hD<|zT 12 rfl (QB rfl) hD<|zT 13 rfl (QB rfl) hD<|Qn kA<|Qv<|Wb (xs:=xs.take k++t::xs.drop k) (by simpa [List.flatMap_append] using hO3) Z2 kC (by repeat (first | exact .cons .here .nil | exact ZL | exact Zi | apply ZF | apply ZC)) (fun I8 hI8 af8 cf8 ef8 hR=>?_)
 subst ef8;have hP:=hP.mono hI8;have hT:=hT.mono hI8;have hIc:=hIc.trans hI8;exact Qd (Qs<|Vq rfl rfl rfl (fun w hw=>⟨_,I8,[],rfl,hIc,hw.subL Qq,rfl,_,_,_,rfl,zeg hP hT hR hkp hh⟩))
theorem zzA:Fun Tryz.prog 84:=.of Tryz.func84 kA kA
theorem ztV {x y:Pk}(h:Vi x=Vi y):x.frm=y.frm∧x.to_=y.to_∧x.data=y.data:=by
 obtain ⟨f,t,a,n,c,d⟩:=x;obtain ⟨f',t',a',n',c',d'⟩:=y;simp only [Vi,Pk.mk.injEq] at h;exact ⟨h.1,h.2.1,h.2.2.2.2.2⟩
variable{α β:Type}{f:α→β}{y:α}
theorem zr9 {xs ys:List α}(h:xs.map f=ys.map f){x:α}(hx:xs[k]? =some x)(hy:ys[k]? =some y):f x=f y:=by
 have:=congrArg (·[k]?) h;simp only [List.getElem?_map,hx,hy,Option.map_some,Option.some.injEq] at this;exact this
theorem zmL {xs ys:List α}(h:xs.map f=ys.map f):xs.length=ys.length:=by
 have:=congrArg List.length h;simpa using this
variable{r:Rd}
theorem zqo {ps ps':List Pe}{qs qs':List Pk}{ks ks':List (Int×Int)}(h:YD ps qs ks=r)(h':YD ps' qs' ks'=r):ps.map (fun pe=>pe.notes.map YF)=ps'.map (fun pe=>pe.notes.map YF)∧qs.map Vi=qs'.map Vi∧ks=ks':=by
 rw [←h'] at h;simp only [YD,dtP,Rd.mk.injEq] at h;exact h
theorem eqI {a b:Int}(h:a=b):(a==b)=true:=by rw [h];simp
variable{d:Nat}{ys:List Nt}
theorem zrk {b:Option Addr}(hS:WB I a n c xs)(hT:WB I b m d ys)(h:xs.map YF=ys.map YF):smL xs ys=true:=
 (zhs hS.nd hT.nd).2 h
theorem zna (hS:WB I a n c xs)(hv:ZT (xs.map YF)=true):∀ x∈xs,x.pt.n≤100000:=fun x hx=>
 zqd (hS.nd x hx) ((V2 hv).2.1 _ (List.mem_map.2 ⟨x,hx,rfl⟩))
theorem zvA:Fun Tryz.prog 134:=.of Tryz.func134 kA kA
theorem zxA:Fun Tryz.prog 65:=.of Tryz.func65 kA kA
theorem zAH {x y:Pk}(hX:PkM I x)(hY:PkM I y)(he:Vi x=Vi y):ZJ Tryz.prog 134 [KW x,KW y] I (.bool true):=by
 intro g H w hw;refine qe Tryz.func134 Tryz.ntmps134 hw ?_;have hIc:=zB6 I;obtain ⟨e1,e2,e3⟩:=ztV he;refine zR<|QK rfl rfl rfl (fun b_2=>QK rfl rfl rfl (fun b_3=>zA (Qb<|QF .here (fun I1 hI1 hb1=>?_))))
 have hX:=hX.mono hI1;have hY:=hY.mono hI1;have hIc:=hIc.trans hI1;have h3:=BxI.of hb1;refine QF .here (fun I2 hI2 hb2=>?_);have hX:=hX.mono hI2;have hY:=hY.mono hI2;have h3:=h3.mono hI2;have hIc:=hIc.trans hI2;have h2:=BxI.of hb2;refine Qd (zR<|zF Jw ?_);refine zV (Qc rfl Ql (fun hg=>by exact Qy.imm h2.out rfl))<|zF Jw ?_
 refine zV (Qc rfl Ql (fun hg=>by exact Qy.imm h3.out rfl))<|zC ?_
 rw [eqI e1];refine zM<|QQ (dj:=10) rfl rfl rfl<|zF VO<|QQ (dj:=10) rfl rfl rfl ?_
 refine zV (Qc rfl Ql (fun hg=>by exact Qy.imm h2.out rfl))<|QQ (dj:=10) rfl rfl rfl<|zF VO<|QQ (dj:=10) rfl rfl rfl ?_
 refine zV (Qc rfl Ql (fun hg=>by exact Qy.imm h3.out rfl))<|QQ (dj:=10) rfl rfl rfl<|zC ?_
 rw [eqI e2];refine zV (QY rfl rfl rfl)<|zM<|QQ (dj:=17) rfl rfl rfl<|zF JR<|QQ (dj:=17) rfl rfl rfl ?_
 refine zV (Qc rfl V5 (fun hg=>by exact Qy.imm h2.out rfl))<|QQ (dj:=17) rfl rfl rfl<|zV (Zv rfl bst (fun hg=>hX.sl))<|QQ (dj:=17) rfl rfl rfl<|zF JR<|QQ (dj:=17) rfl rfl rfl ?_
 refine zV (Qc rfl V5 (fun hg=>by exact Qy.imm h3.out rfl))<|QQ (dj:=17) rfl rfl rfl<|zV (Zv rfl bst (fun hg=>hY.sl))<|QQ (dj:=17) rfl rfl rfl<|zV (J6 rfl rfl rfl) ?_
 rw [e3,zdg];refine zV (QY rfl rfl rfl)<|zA (zN (Qs ?_))
 exact Qx rfl rfl (fun w hw=>⟨by rfl,(hw.mono hIc).subL Qq⟩)
variable{qa1 aa1 qa2 aa2:Option Addr}{qn1 qc1 an1 ac1 qn2 qc2 an2 ac2:Nat}{qs1 qs2:List Pk}{ks1 ks2:List (Int×Int)}
theorem zyX (hQ1:Sl I 3 Q6 qa1 qn1 qc1 qs1)(hM1:∀ q∈qs1,PkM I q)(hK1:Sl I 2 VI aa1 an1 ac1 ks1)(hQ2:Sl I 3 Q6 qa2 qn2 qc2 qs2)(hM2:∀ q∈qs2,PkM I q)(hK2:Sl I 2 VI aa2 an2 ac2 ks2)(hq:qs1.map Vi=qs2.map Vi)(hk:ks1=ks2)(hn1:qn1≤100000)(ha1:an1≤100000):ZJ Tryz.prog 65 [.agg #[.slice qa1 qn1 qc1,.slice aa1 an1 ac1],.agg #[.slice qa2 qn2 qc2,.slice aa2 an2 ac2]] I (.bool true):=by
 intro g H w hw;refine qe Tryz.func65 Tryz.ntmps65 hw ?_;have hIc:=zB6 I;have hl1:=hQ1.len;have hl2:=hQ2.len;have hl3:=hK1.len;have hl4:=hK2.len;have hl5:=zmL hq;subst hk;refine zR<|QK rfl rfl rfl (fun b_2=>QK rfl rfl rfl (fun b_3=>zA (Qb<|QF .here (fun I1 hI1 hb1=>?_))))
 have hQ1:=hQ1.mono hI1;have hQ2:=hQ2.mono hI1;have hK1:=hK1.mono hI1;have hK2:=hK2.mono hI1;have hIc:=hIc.trans hI1;have h3:=BxI.of hb1;refine QF .here (fun I2 hI2 hb2=>?_);have hQ1:=hQ1.mono hI2;have hQ2:=hQ2.mono hI2;have hK1:=hK1.mono hI2;have hK2:=hK2.mono hI2;have h3:=h3.mono hI2;have hIc:=hIc.trans hI2;have h2:=BxI.of hb2;refine Qd (Qm (zR<|zF QP ?_));refine zV (Qc rfl Q5 (fun hg=>by exact Qy.imm h2.out rfl))<|zQ Q0<|zF QP ?_
 refine zV (Qc rfl Q5 (fun hg=>by exact Qy.imm h3.out rfl))<|zQ Q0<|zC ?_
 refine zM ?_;refine QI 7 rfl rfl rfl ?_;refine zJ (Qa rfl Yx)<|zJ (Qc rfl Jj (fun hg=>by exact Qy.imm h2.out rfl))<|zJ (QT rfl VX)<|zJ (Qa rfl Yx)<|zJ (Qc rfl Jj (fun hg=>by exact Qy.imm h3.out rfl))<|zJ (QT rfl VX)<|zJ (QA rfl rfl rfl)<|Q9 rfl rfl rfl rfl rfl ?_
 refine zN ?_;refine zI ?_ ?_<;>intro hc22
 ·
  have h:=hc22;simp at h;omega
 refine Qr (Qd (Qm (zR (zA (zN (Qw<|zU [(2,_),(3,_)] (fun T L0 mz E I' loc'=>∃ (k:Nat),mz=qn1-k∧E=(5,.int .i64 k)::T∧HLe I2 I'∧L0=loc'∧k≤qn1) ?_ (h:=⟨0,rfl,rfl,zB6 _,rfl,Nat.zero_le _⟩)))))));rintro mz E J3 loc' ⟨k,rfl,rfl,hJ,rfl,hk⟩;have hQ1:=hQ1.mono hJ;have hQ2:=hQ2.mono hJ;have hK1:=hK1.mono hJ;have hK2:=hK2.mono hJ;have h3:=h3.mono hJ;have h2:=h2.mono hJ;have hIc:=hIc.trans hJ;have hB0:=hJ;refine Qm (zR (zM<|zF QP ?_));refine zV (Qc rfl Q5 (fun hg=>by exact Qy.imm h2.out rfl))<|zQ Q0<|zC (zN ?_)
 refine zI ?_ ?_<;>intro hc27
 ·
  have hlt_k:k<qn1:=(by have h:=hc27;simp at h;omega);obtain ⟨x,hx⟩:∃ y,qs1[k]? =some y:=⟨_,List.getElem?_eq_getElem kB⟩;obtain ⟨y,hy⟩:∃ y,qs2[k]? =some y:=⟨_,List.getElem?_eq_getElem kB⟩;refine Qr (Qd (Qm (Qw (Qm ?_))));have hD:=zB6 J3;refine Zn<|QJ J3 [] mixed<|zT 0 rfl (Qa rfl QP) hD<|zT 1 rfl (Qc rfl Q5 (fun hg=>by exact Qy.imm h2.out rfl)) hD<|zT 2 rfl (Qe rfl) hD<|zT 3 rfl (zX Q0 hQ1) hD<|zT 4 rfl (Qg rfl YO (fun hg=>by exact zB7 hQ1 hx) rfl) hD<|zT 5 rfl (Qa rfl QP) hD<|zT 6 rfl (Qc rfl Q5 (fun hg=>by exact Qy.imm h3.out rfl)) hD<|zT 7 rfl (Qe rfl) hD<|zT 8 rfl (zX Q0 hQ2) hD<|zT 9 rfl (Qg rfl YO (fun hg=>by exact zB7 hQ2 hy) rfl) hD ?_
  refine qd 10 rfl<|qcV (vs:=[_,_]) rfl zvA (zAH ((hM1 x (List.mem_of_getElem? hx)).mono hIc) ((hM2 y (List.mem_of_getElem? hy)).mono hIc) (zr9 hq hx hy))<|Qb<|zD hD<|zT 11 rfl (ZB rfl) hD<|Qn kA<|Qv<|Qd ?_
  refine zI ?_ ?_<;>intro hc41
  ·
   cases hc41
  refine Qr (Qk (Qd (Qh (zM ?_))));exact zB<|zA (Qb<|zm (h:=⟨qn1-(k+1),kB,k+1,rfl,rfl,hB0,rfl,kB⟩))
 have hge_k:qn1≤k:=(by have h:=hc27;simp at h;omega);refine Zk (Qo (Qo (Qz (Qd (Qm (zR (zA<|zN (Qw<|zU [(2,_),(3,_)] (fun T L0 mz E I' loc'=>∃ (k:Nat),mz=an1-k∧E=(6,.int .i64 k)::T∧HLe J3 I'∧L0=loc'∧k≤an1) ?_ (h:=⟨0,rfl,rfl,zB6 _,rfl,Nat.zero_le _⟩)))))))));rintro mz E J4 loc' ⟨k,rfl,rfl,hJ,rfl,hk⟩;have hK1:=hK1.mono hJ;have hK2:=hK2.mono hJ;have h3:=h3.mono hJ;have h2:=h2.mono hJ;have hIc:=hIc.trans hJ;have hB2:=hJ;refine Qm (zR (zM<|zF Yx ?_));refine zV (Qc rfl Jj (fun hg=>by exact Qy.imm h2.out rfl))<|zQ VX<|zC (zN ?_)
 refine zI ?_ ?_<;>intro hc46
 ·
  have hlt_k:k<an1:=(by have h:=hc46;simp at h;omega);obtain ⟨u,hu⟩:∃ y,ks1[k]? =some y:=⟨_,List.getElem?_eq_getElem kB⟩;refine Qr (Qd (Qm (Qw (Qm ?_))));have hD:=zB6 J4;refine Zn<|QJ J4 [] mixed<|zT 0 rfl (Qa rfl Yx) hD<|zT 1 rfl (Qc rfl Jj (fun hg=>by exact Qy.imm h2.out rfl)) hD<|zT 2 rfl (Qe rfl) hD<|zT 3 rfl (zX VX hK1) hD<|zT 4 rfl (Qg rfl Ub (fun hg=>by exact zB7 hK1 hu) rfl) hD<|zT 5 rfl (Qa rfl Yx) hD<|zT 6 rfl (Qc rfl Jj (fun hg=>by exact Qy.imm h3.out rfl)) hD<|zT 7 rfl (Qe rfl) hD<|zT 8 rfl (zX VX hK2) hD<|zT 9 rfl (Qg rfl Ub (fun hg=>by exact zB7 hK2 hu) rfl) hD ?_
  refine zT 10 rfl (ztJ rfl rfl zms) hD<|Qn kA<|Qv<|Qd ?_
  refine zI ?_ ?_<;>intro hc59
  ·
   exact absurd hc59 kJ
  refine Qr (Qk (Qd (Qh (zM ?_))));exact zB<|zA (Qb<|zm (h:=⟨an1-(k+1),kB,k+1,rfl,rfl,hB2,rfl,kB⟩))
 have hge_k:an1≤k:=(by have h:=hc46;simp at h;omega);refine Zk (Qo (Qo (Qz (Qd (zR (zA (zN<|Qs ?_)))))));exact Qx rfl rfl (fun w hw=>⟨by rfl,(hw.mono hIc).subL Qq⟩)
theorem zAt {bv:Option Addr}(hS:WB I av n c xs)(hT:WB I bv m d ys)(h:xs.map YF=ys.map YF)(hsm:∀ x∈xs,x.pt.n≤100000)(hn:n≤100000):ZJ Tryz.prog 31 [.slice av n c,.slice bv m d] I (.bool true):=by
 have h2:=zwT hS.sl hT.sl hS.nd hT.nd hsm hn;rw [zrk hS hT h] at h2;exact h2
variable{R:Rd}{ps1 ps2:List Pe}
theorem zyG {pa1:Option Addr}{pn1 pc1:Nat}(hR1:RmP I pa1 pn1 pc1 qa1 qn1 qc1 aa1 an1 ac1 ps1 qs1 ks1)(he1:YD ps1 qs1 ks1=R){pa2:Option Addr}{pn2 pc2:Nat}(hR2:RmP I pa2 pn2 pc2 qa2 qn2 qc2 aa2 an2 ac2 ps2 qs2 ks2)(he2:YD ps2 qs2 ks2=R)(hv:∀ xs∈R.ps,ZT xs=true)(hsm:SmR R):ZJ Tryz.prog 18 [.agg #[.slice pa1 pn1 pc1,.slice qa1 qn1 qc1,.slice aa1 an1 ac1],.agg #[.slice pa2 pn2 pc2,.slice qa2 qn2 qc2,.slice aa2 an2 ac2]] I (.bool true):=by
 intro g H w hw;refine qe Tryz.func18 Tryz.ntmps18 hw ?_;have hIc:=zB6 I;obtain ⟨e1,e2,e3⟩:=zqo he1 he2;have hl1:=hR1.pe.len;have hl2:=hR2.pe.len;have hl3:=zmL e1;have hsmU:=SmR.use hR1 (by rw [he1];exact hsm);refine zR<|QK rfl rfl rfl (fun b_2=>QK rfl rfl rfl (fun b_3=>zA (Qb<|QF .here (fun I1 hI1 hb1=>?_))))
 have hR1:=hR1.mono hI1;have hR2:=hR2.mono hI1;have hIc:=hIc.trans hI1;have h3:=BxI.of hb1;refine QF .here (fun I2 hI2 hb2=>?_);have hR1:=hR1.mono hI2;have hR2:=hR2.mono hI2;have h3:=h3.mono hI2;have hIc:=hIc.trans hI2;have h2:=BxI.of hb2;refine Qd (Qm (zR<|zF Zp ?_));refine zV (Qc rfl Z6 (fun hg=>by exact Qy.imm h2.out rfl))<|zQ Z4<|zF Zp ?_
 refine zV (Qc rfl Z6 (fun hg=>by exact Qy.imm h3.out rfl))<|zQ Z4<|zC ?_
 rw [show (((pn1:Nat):Int) != ((pn2:Nat):Int))=false by rw [show pn1=pn2 by omega,zq8]];refine zM<|QQ (dj:=13) rfl rfl rfl<|zF ZH<|QQ (dj:=13) rfl rfl rfl<|zV (Qg rfl Zl (fun hg=>by exact Cells.part (pre:=[_]) (vs:=[_,_]) (post:=[]) (BxI.cells (vs:=[_,_,_]) h2) rfl) rfl)<|QQ (dj:=13) rfl rfl rfl<|zF ZH<|QQ (dj:=13) rfl rfl rfl<|zV (Qg rfl Zl (fun hg=>by exact Cells.part (pre:=[_]) (vs:=[_,_]) (post:=[]) (BxI.cells (vs:=[_,_,_]) h3) rfl) rfl)<|QQ (dj:=13) rfl rfl rfl<|qcV (vs:=[_,_]) rfl zxA (zyX hR1.q hR1.pk hR1.k hR2.q hR2.pk hR2.k e2 e3 hsmU.2.1 hsmU.2.2.1)<|QQ (dj:=13) rfl rfl rfl ?_
 refine zO<|zV (QY rfl rfl rfl)<|zN ?_
 refine zI ?_ ?_<;>intro hc20
 ·
  cases hc20
 refine Qr (Qd (Qm (zR (zA (zN (Qw<|zU [(2,_),(3,_)] (fun T L0 mz E I' loc'=>∃ (k:Nat),mz=pn1-k∧E=(5,.int .i64 k)::T∧HLe I2 I'∧L0=loc'∧k≤pn1) ?_ (h:=⟨0,rfl,rfl,zB6 _,rfl,Nat.zero_le _⟩)))))));rintro mz E J3 loc' ⟨k,rfl,rfl,hJ,rfl,hk⟩;have hR1:=hR1.mono hJ;have hR2:=hR2.mono hJ;have h3:=h3.mono hJ;have h2:=h2.mono hJ;have hIc:=hIc.trans hJ;have hB0:=hJ;refine Qm (zR (zM<|zF Zp ?_));refine zV (Qc rfl Z6 (fun hg=>by exact Qy.imm h2.out rfl))<|zQ Z4<|zC (zN ?_)
 refine zI ?_ ?_<;>intro hc25
 ·
  have hlt_k:k<pn1:=(by have h:=hc25;simp at h;omega);obtain ⟨x,hx⟩:∃ y,ps1[k]? =some y:=⟨_,List.getElem?_eq_getElem kB⟩;obtain ⟨y,hy⟩:∃ y,ps2[k]? =some y:=⟨_,List.getElem?_eq_getElem kB⟩;have hxm:=List.mem_of_getElem? hx;have hym:=List.mem_of_getElem? hy;have hsmn:=hsmU.1;refine Qr (Qd (Qm (Qw (Qm ?_))));have hD:=zB6 J3;refine Zn<|QJ J3 [] mixed<|zT 0 rfl (Qa rfl Zp) hD<|zT 1 rfl (Qc rfl Z6 (fun hg=>by exact Qy.imm h2.out rfl)) hD<|zT 2 rfl (Qe rfl) hD<|zT 3 rfl (QG rfl rfl Z4 hR1.pe (fun hg=>kB)) hD<|zT 4 rfl (Qa rfl ZK) hD<|zT 5 rfl (Qc rfl Y1 (fun hg=>by exact zBZ hR1.pe hx rfl)) hD<|zT 6 rfl (Qa rfl Zp) hD<|zT 7 rfl (Qc rfl Z6 (fun hg=>by exact Qy.imm h3.out rfl)) hD<|zT 8 rfl (Qe rfl) hD<|zT 9 rfl (QG rfl rfl Z4 hR2.pe (fun hg=>kB)) hD ?_
  refine zT 10 rfl (Qa rfl ZK) hD<|zT 11 rfl (Qc rfl Y1 (fun hg=>by exact zBZ hR2.pe hy rfl)) hD<|qd 12 rfl<|qcV (vs:=[_,_]) rfl ziT (zAt (hR1.nt x hxm) (hR2.nt y hym) (zr9 e1 hx hy) (zna (hR1.nt x hxm) (hv _ (List.mem_of_getElem? (zyW he1 hx)))) (hsmU.2.2.2.1 x hxm))<|Qb<|zD hD<|zT 13 rfl (ZB rfl) hD<|Qn kA<|Qv<|Qd ?_
  refine zI ?_ ?_<;>intro hc41
  ·
   cases hc41
  refine Qr (Qk (Qd (Qh (zM ?_))));exact zB<|zA (Qb<|zm (h:=⟨pn1-(k+1),kB,k+1,rfl,rfl,hB0,rfl,kB⟩))
 have hge_k:pn1≤k:=(by have h:=hc25;simp at h;omega);refine Zk (Qo (Qo (Qz (Qd (zR (zA (zN<|Qs ?_)))))));exact Qx rfl rfl (fun w hw=>⟨by rfl,(hw.mono hIc).subL Qq⟩)
theorem zsK:Fun Tryz.prog 18:=.of Tryz.func18 kA kA
theorem zzB (cl cn:Int):zgt 1 cl cn=(VR cl 0 2&&VR cn 1 3):=by
 show (if VR cl 0 2 then VR cn 1 3 else false)=_;cases VR cl 0 2<;>rfl
theorem zwX (cl cn:Int):zgt 2 cl cn=(VR cl 0 2&&VR cn 1 1048576):=by
 show (if VR cl 0 2 then VR cn 1 1048576 else false)=_;cases VR cl 0 2<;>rfl
theorem zdD (cl:Int):VR cl 0 0=(cl==0):=by
 rw [Bool.eq_iff_iff];simp [VR];omega
theorem zwt (cl cn:Int):zgt 3 cl cn=((cl==0)&&VR cn 1 16):=by
 rw [←zdD];show (if VR cl 0 0 then VR cn 1 16 else false)=_;cases VR cl 0 0<;>rfl
theorem zyg (cl cn:Int):zgt 4 cl cn=((cl==0)&&VR cn 0 16):=by
 rw [←zdD];show (if VR cl 0 0 then VR cn 0 16 else false)=_;cases VR cl 0 0<;>rfl
theorem zzu (cl cn:Int):zgt 5 cl cn=((cl==0)&&VR cn 0 500):=by
 rw [←zdD];show (if VR cl 0 0 then VR cn 0 500 else false)=_;cases VR cl 0 0<;>rfl
theorem zzl (cl cn:Int):zgt 6 cl cn=((cl==0)&&VR cn 0 1048576):=by
 rw [←zdD];show (if VR cl 0 0 then VR cn 0 1048576 else false)=_;cases VR cl 0 0<;>rfl
theorem zkE {ck cl cn:Int}(h1:ck≠1)(h2:ck≠2)(h3:ck≠3)(h4:ck≠4)(h5:ck≠5)(h6:ck≠6):zgt ck cl cn=false:=
 zmw (by simp [VR];omega)
def okL (y x:Lm):Bool:=((y.no+1==x.ends)&&(y.person==x.person))&&decide (y.known≤x.known)
def zj9 (pre:List Lm)(x:Lm):Bool:=if x.ends=0 then true else if pre.any (fun y=>y.ends==x.ends) then false else pre.any (okL · x)
def rA (pre:List Lm)(x:Lm):Bool:=(!VR x.no 0 1048576||(match pre.getLast? with | none=>false | some y=>decide (x.no≤y.no)))|| !VR x.person 0 63
structure zwA (pre:List Lm):Prop where
 rng:∀ y∈pre,0≤y.no∧y.no≤1048576
 inc:pre.Pairwise (fun a b=>a.no<b.no)
 last:∀ y∈pre,y.no≤W9 pre
theorem zoO {xs:List Lm}:∀ {k:Nat},(∀ j y,j<k→xs[j]? =some y→zcP (xs.take j) y=false)→k≤xs.length→zwA (xs.take k)
 | 0,_,_=>⟨fun y hy=>(by simp at hy),by simp,fun y hy=>(by simp at hy)⟩
 | k+1,h,hk=>by
  have ih:=zoO (k:=k) (fun j y hj hy=>h j y kB hy) kB;have hx:xs[k]? =some xs[k]:=List.getElem?_eq_getElem kB;have hb:=h k _ kB hx
  have ha:zqR (W9 (xs.take k)) xs[k]=false:=by
   unfold zcP at hb;simp only [Bool.or_eq_false_iff] at hb;exact hb.1.1.1
  unfold zqR at ha;simp only [Bool.or_eq_false_iff,decide_eq_false_iff_not] at ha
  have hl: -1≤W9 (xs.take k):=by
   unfold W9
   cases hg:(xs.take k).getLast? with
   | none=>simp
   | some y=>
    have:=ih.rng y (List.mem_of_getLast? hg);simp;omega
  have hno:W9 (xs.take k)<xs[k].no:=kB;rw [Zs hx];refine ⟨fun y hy=>?_,List.pairwise_append.2 ⟨ih.inc,by simp,fun a ha b hb=>?_⟩,fun y hy=>?_⟩
  ·
   rcases List.mem_append.1 hy with hy | hy
   ·
    exact ih.rng y hy
   ·
    rw [List.mem_singleton.1 hy];omega
  ·
   rw [List.mem_singleton.1 hb];have:=ih.last a ha;omega
  ·
   rw [KC];rcases List.mem_append.1 hy with hy | hy
   ·
    have:=ih.last y hy;omega
   ·
    rw [List.mem_singleton.1 hy];omega
variable{pre:List Lm}{x:Lm}
theorem zAg (h:zwA pre):zqR (W9 pre) x=rA pre x:=by
 unfold zqR rA W9
 cases hg:pre.getLast? with
 | none=>
  simp only [Bool.or_false];congr 1;rw [Bool.eq_iff_iff];simp [VR];omega
 | some y=>
  have:=h.rng y (List.mem_of_getLast? hg);simp only;congr 1;rw [Bool.eq_iff_iff];simp [VR];omega
theorem zef (h:pre.Pairwise (fun a b=>a.no<b.no))(n:Int)(y:Lm):ZQ (knM pre) n=some y↔y∈pre∧y.no=n:=by
 have key:∀ (l pre:List Lm),(∀ n y,ZQ (knM pre) n=some y↔y∈pre∧y.no=n)→(pre++l).Pairwise (fun a b=>a.no<b.no)→∀ n y,ZQ (knM (pre++l)) n=some y↔y∈pre++l∧y.no=n:=by
  intro l
  induction l with
  | nil=>intro pre h _;simpa using h
  | cons x l ih=>
   intro pre h hp;rw [show pre++x::l=(pre++[x])++l by simp] at hp ⊢;refine ih (pre++[x]) (fun n y=>?_) hp;rw [WH,Jr];have hlt:∀ z∈pre,z.no<x.no:=fun z hz=>(List.pairwise_append.1 (List.pairwise_append.1 hp).1).2.2 z hz x (List.mem_singleton.2 rfl);split
   ·
    rename_i e;subst e;constructor
    ·
     intro e;cases e;simp
    ·
     rintro ⟨hm,e⟩;rcases List.mem_append.1 hm with hm | hm
     ·
      have:=hlt y hm;omega
     ·
      rw [List.mem_singleton.1 hm]
   ·
    rename_i e;rw [h n y];constructor
    ·
     rintro ⟨a,b⟩;exact ⟨List.mem_append_left _ a,b⟩
    ·
     rintro ⟨a,b⟩;rcases List.mem_append.1 a with a | a
     ·
      exact ⟨a,b⟩
     ·
      rw [List.mem_singleton.1 a] at b;exact absurd b e
 have:=key pre [] (fun n y=>by simp [knM,ZQ]) (by simpa using h);simpa using this n y
theorem zvW (pre:List Lm)(n:Int):(ZQ (rpM pre) n).getD false=pre.any (fun y=>y.ends==n):=by
 have key:∀ (l pre:List Lm),(ZQ (rpM pre) n).getD false=pre.any (fun y=>y.ends==n)→(ZQ (rpM (pre++l)) n).getD false=(pre++l).any (fun y=>y.ends==n):=by
  intro l
  induction l with
  | nil=>intro pre h;simpa using h
  | cons x l ih=>
   intro pre h;rw [show pre++x::l=(pre++[x])++l by simp];refine ih (pre++[x]) ?_;rw [WD,Jr,List.any_append];split
   ·
    rename_i e;simp [e]
   ·
    rename_i e;rw [h];simp [e]
 have:=key pre [] (by simp [rpM,ZQ]);simpa using this
theorem ztQ (h:zwA pre)(hx: -9223372036854775808≤x.ends∧x.ends≤9223372036854775807):zvP (zjt pre x).isSome ((ZQ (rpM pre) x.ends).getD false) ((zjt pre x).getD VU) x= !zj9 pre x:=by
 unfold zvP zj9;rw [zvW];by_cases he:x.ends=0
 ·
  simp [he]
 ·
  rw [if_neg he];have hne:(x.ends != 0)=true:=(by simpa using he);rw [hne,Bool.true_and]
  cases hr:pre.any (fun y=>y.ends==x.ends) with
  | true=>simp
  | false=>
   rw [if_neg kJ]
   cases ho:zjt pre x with
   | none=>
    have hno:pre.any (okL · x)=false:=by
     rw [List.any_eq_false];intro y hy;have h1:=h.rng y hy;unfold okL;simp only [Bool.and_eq_true,beq_iff_eq,decide_eq_true_eq,not_and];intro h2 _;exfalso;have:zjt pre x=some y:=(zef h.inc _ _).2 ⟨hy,by rw [YJ kB];omega⟩;rw [ho] at this;cases this
    rw [hno];simp
   | some y=>
    obtain ⟨hy,e⟩:=(zef h.inc _ _).1 ho;have h1:=h.rng y hy
    have e2:y.no+1=x.ends:=by
     by_cases hm:x.ends= -9223372036854775808
     ·
      rw [hm] at e;have:IntKind.i64.wrap (-9223372036854775808-1)=9223372036854775807:=by decide
      omega
     ·
      rw [YJ kB] at e;omega
    have hall:pre.any (okL · x)=((y.person==x.person)&&decide (y.known≤x.known)):=by
     rw [Bool.eq_iff_iff,List.any_eq_true];constructor
     ·
      rintro ⟨z,hz,hz2⟩;unfold okL at hz2;simp only [Bool.and_eq_true,beq_iff_eq,decide_eq_true_eq] at hz2
      have:z=y:=by
       have h3:=(zef h.inc z.no z).2 ⟨hz,rfl⟩;have h4:=(zef h.inc y.no y).2 ⟨hy,rfl⟩;rw [show z.no=y.no by omega,h4] at h3;cases h3;rfl
      subst this;simp [hz2.1.2,hz2.2]
     ·
      intro h3;refine ⟨y,hy,?_⟩;unfold okL;simp only [Bool.and_eq_true,beq_iff_eq,decide_eq_true_eq] at h3 ⊢;exact ⟨⟨e2,h3.1⟩,h3.2⟩
    rw [hall];simp only [Option.isSome_some,Option.getD_some,Bool.not_true,Bool.false_or];rw [Bool.eq_iff_iff];simp
theorem zof (h:x.ends=0):zj9 pre x=true:=if_pos h
theorem zqr {y:Lm}(h:¬x.ends=0)(hy:y∈pre)(e:(y.ends==x.ends)=true):zj9 pre x=false:=by
 unfold zj9;rw [if_neg h,if_pos (List.any_eq_true.2 ⟨y,hy,e⟩)]
theorem zpA (h:¬x.ends=0)(hn:pre.any (fun y=>y.ends==x.ends)=false):zj9 pre x=pre.any (okL · x):=by
 unfold zj9;rw [if_neg h,if_neg (by rw [hn];simp)]
theorem zbA {xs:List α}{b:Bool}{p:α→Bool}(hy:xs[k]? =some y)(hb:b=(xs.take k).any p):(b||p y)=(xs.take (k+1)).any p:=by rw [zbr hy,hb]
theorem zuJ {xs:List Lm}(hk:k≤xs.length):((!VR x.no 0 1048576||(decide ((k:Int)>0)&&decide (x.no≤(xs.getD ((k:Int)-1).toNat VU).no)))|| !VR x.person 0 63)=rA (xs.take k) x:=by
 unfold rA
 cases k with
 | zero=>simp
 | succ k=>
  have hx:xs[k]? =some xs[k]:=List.getElem?_eq_getElem kB;have e1:(((k+1:Nat):Int)-1).toNat=k:=kB;rw [e1,Zs hx,List.getLast?_append];simp [List.getD_eq_getElem?_getD,hx]
theorem zol {xs:List Lm}(hk:k<xs.length):
  (VR x.no 0 1048576=false∧rA (xs.take k) x=true)∨(VR x.no 0 1048576=true∧decide ((k:Int)>0)=false∧rA (xs.take k) x= !VR x.person 0 63)∨
  (∃ y,VR x.no 0 1048576=true∧decide ((k:Int)>0)=true∧xs[((k:Int)-1).toNat]? =some y∧decide (x.no≤y.no)=true∧rA (xs.take k) x=true)∨
  (∃ y,VR x.no 0 1048576=true∧decide ((k:Int)>0)=true∧xs[((k:Int)-1).toNat]? =some y∧decide (x.no≤y.no)=false∧rA (xs.take k) x= !VR x.person 0 63):=by
 have e:=zuJ (xs:=xs) (x:=x) (Nat.le_of_lt hk)
 cases hA:VR x.no 0 1048576 with
 | false=>exact .inl ⟨rfl,by rw [←e,hA];simp⟩
 | true=>
  cases hB:decide ((k:Int)>0) with
  | false=>exact .inr (.inl ⟨rfl,rfl,by rw [←e,hA,hB];simp⟩)
  | true=>
   have hl:((k:Int)-1).toNat<xs.length:=kB;have hy:xs[((k:Int)-1).toNat]? =some (xs[((k:Int)-1).toNat]'hl):=List.getElem?_eq_getElem hl;have hd:xs.getD ((k:Int)-1).toNat VU=xs[((k:Int)-1).toNat]'hl:=(by rw [List.getD_eq_getElem?_getD,hy];rfl);rcases Bool.eq_false_or_eq_true (decide (x.no≤(xs[((k:Int)-1).toNat]'hl).no)) with hC | hC
   ·
    exact .inr (.inr (.inl ⟨_,rfl,rfl,hy,hC,by rw [←e,hA,hB,hd,hC];simp⟩))
   ·
    exact .inr (.inr (.inr ⟨_,rfl,rfl,hy,hC,by rw [←e,hA,hB,hd,hC];simp⟩))
theorem zpM (x:Lm):((!VR x.lo 0 x.hi||decide (x.hi>73048))|| !VR x.known 0 134217727)=zo4 x:=by
 unfold zo4;congr 2;rw [Bool.eq_iff_iff];simp [VR]
theorem zxG (h:zwA pre)(hx: -9223372036854775808≤x.ends∧x.ends≤9223372036854775807):zcP pre x=(((rA pre x||zo4 x)||zo6 x)|| !zj9 pre x):=by
 unfold zcP;rw [zAg h,ztQ h hx]
theorem Uc:Fun Tryz.prog 141:=.of Tryz.func141 kA kA
theorem zkZ:Fun Tryz.prog 142:=.of Tryz.func142 kA kA
theorem zk9:Fun Tryz.prog 143:=.of Tryz.func143 kA kA
theorem Wu:Fun Tryz.prog 189:=.of Tryz.func189 kA kA
theorem zsJ:SzT Tryz.prog 30 3:=.of kA
theorem zxV:Vv Tryz.prog 30 (.agg #[(.int .i64 0),(.int .i64 0),(.int .i64 0)]):=.of kA
theorem K7 (I:Qu)(n lo hi:Int):ZJ Tryz.prog 141 [.int .i64 n,.int .i64 lo,.int .i64 hi] I (.bool (VR n lo hi)):=by
 intro g H w hw;refine qe Tryz.func141 Tryz.ntmps141 hw ?_;refine zR (zA<|zN (zR ?_));refine zM ?_;refine zM<|zC ?_
 refine zM<|Qt 3 rfl rfl rfl ?_
 refine zK (Qe rfl) ?_;refine zK (Qe rfl) ?_;refine zK (QA rfl rfl rfl) ?_;refine QE rfl rfl rfl rfl rfl<|zA (zN (Qs ?_))
 exact Qx rfl rfl (fun w hw=>⟨by rfl,hw⟩)
theorem zfK (I:Qu)(n lo hi:Int):ZJ Tryz.prog 189 [.int .i64 n,.int .i64 lo,.int .i64 hi] I (.bool (VR n lo hi)):=by
 intro g H w hw;refine qe Tryz.func189 Tryz.ntmps189 hw ?_;refine zR (zA<|zN (zR ?_));refine zM ?_;refine zM<|zC ?_
 refine zM<|Qt 3 rfl rfl rfl ?_
 refine zK (Qe rfl) ?_;refine zK (Qe rfl) ?_;refine zK (QA rfl rfl rfl) ?_;refine QE rfl rfl rfl rfl rfl<|zA (zN (Qs ?_))
 exact Qx rfl rfl (fun w hw=>⟨by rfl,hw⟩)
theorem zrH (I:Qu)(ck cl cn:Int):ZJ Tryz.prog 142 [.agg #[.int .i64 ck,.int .i64 cl,.int .i64 cn]] I (.bool (zgt ck cl cn)):=by
 intro g H w hw;refine qe Tryz.func142 Tryz.ntmps142 hw ?_;have hIc:=zB6 I;refine zR<|QK rfl rfl rfl (fun b_1=>zA (Qb<|QF .here (fun I1 hI1 hb1=>?_)))
 have hIc:=hIc.trans hI1;have h1:=BxI.of hb1;refine Qd (Qm (zR<|zF X5 ?_));refine zV (Qc rfl Ql (fun hg=>by exact Qy.imm h1.out rfl))<|zN (Qw (zR (zC<|zA (zN ?_))))
 refine zI ?_ ?_<;>intro hc5
 ·
  refine zR<|zF JS ?_
  refine zV (Qc rfl Ql (fun hg=>by exact Qy.imm h1.out rfl))<|qcV (vs:=[_,_,_]) rfl Wu (zfK _ _ _ _)<|zM<|Qt 3 rfl rfl rfl ?_
  refine zK (Qa rfl Kt) ?_;refine zK (Qc rfl Ql (fun hg=>by exact Qy.imm h1.out rfl))<|qg (vs:=[_,_,_]) rfl Wu (fun hg=>zfK _ _ _ _)<|QE rfl rfl rfl rfl rfl<|zA (zN (Qs (Qi (Qf ?_))))
  exact Qx rfl rfl (fun w hw=>⟨by rw [show ck=1 by simpa using hc5,zzB],(hw.mono hIc).subL Qq⟩)
 have hk1:ck≠1:=(by simpa using hc5);refine zR (zC<|zA (zN ?_));refine zI ?_ ?_<;>intro hc15
 ·
  refine zR<|zF JS ?_
  refine zV (Qc rfl Ql (fun hg=>by exact Qy.imm h1.out rfl))<|qcV (vs:=[_,_,_]) rfl Wu (zfK _ _ _ _)<|zM<|Qt 3 rfl rfl rfl ?_
  refine zK (Qa rfl Kt) ?_;refine zK (Qc rfl Ql (fun hg=>by exact Qy.imm h1.out rfl))<|qg (vs:=[_,_,_]) rfl Wu (fun hg=>zfK _ _ _ _)<|QE rfl rfl rfl rfl rfl<|zA (zN (Qs (Qi (Qf ?_))))
  exact Qx rfl rfl (fun w hw=>⟨by rw [show ck=2 by simpa using hc15,zwX],(hw.mono hIc).subL Qq⟩)
 have hk2:ck≠2:=(by simpa using hc15);refine zR (zC<|zA (zN ?_));refine zI ?_ ?_<;>intro hc25
 ·
  refine zR<|zF JS ?_
  refine zV (Qc rfl Ql (fun hg=>by exact Qy.imm h1.out rfl))<|zC ?_
  refine zM<|Qt 3 rfl rfl rfl ?_
  refine zK (Qa rfl Kt) ?_;refine zK (Qc rfl Ql (fun hg=>by exact Qy.imm h1.out rfl))<|qg (vs:=[_,_,_]) rfl Wu (fun hg=>zfK _ _ _ _)<|QE rfl rfl rfl rfl rfl<|zA (zN (Qs (Qi (Qf ?_))))
  exact Qx rfl rfl (fun w hw=>⟨by rw [show ck=3 by simpa using hc25,zwt],(hw.mono hIc).subL Qq⟩)
 have hk3:ck≠3:=(by simpa using hc25);refine zR (zC<|zA (zN ?_));refine zI ?_ ?_<;>intro hc35
 ·
  refine zR<|zF JS ?_
  refine zV (Qc rfl Ql (fun hg=>by exact Qy.imm h1.out rfl))<|zC ?_
  refine zM<|Qt 3 rfl rfl rfl ?_
  refine zK (Qa rfl Kt) ?_;refine zK (Qc rfl Ql (fun hg=>by exact Qy.imm h1.out rfl))<|qg (vs:=[_,_,_]) rfl Wu (fun hg=>zfK _ _ _ _)<|QE rfl rfl rfl rfl rfl<|zA (zN (Qs (Qi (Qf ?_))))
  exact Qx rfl rfl (fun w hw=>⟨by rw [show ck=4 by simpa using hc35,zyg],(hw.mono hIc).subL Qq⟩)
 have hk4:ck≠4:=(by simpa using hc35);refine zR (zC<|zA (zN ?_));refine zI ?_ ?_<;>intro hc45
 ·
  refine zR<|zF JS ?_
  refine zV (Qc rfl Ql (fun hg=>by exact Qy.imm h1.out rfl))<|zC ?_
  refine zM<|Qt 3 rfl rfl rfl ?_
  refine zK (Qa rfl Kt) ?_;refine zK (Qc rfl Ql (fun hg=>by exact Qy.imm h1.out rfl))<|qg (vs:=[_,_,_]) rfl Wu (fun hg=>zfK _ _ _ _)<|QE rfl rfl rfl rfl rfl<|zA (zN (Qs (Qi (Qf ?_))))
  exact Qx rfl rfl (fun w hw=>⟨by rw [show ck=5 by simpa using hc45,zzu],(hw.mono hIc).subL Qq⟩)
 have hk5:ck≠5:=(by simpa using hc45);refine zR (zC<|zA (zN ?_));refine zI ?_ ?_<;>intro hc55
 ·
  refine zR<|zF JS ?_
  refine zV (Qc rfl Ql (fun hg=>by exact Qy.imm h1.out rfl))<|zC ?_
  refine zM<|Qt 3 rfl rfl rfl ?_
  refine zK (Qa rfl Kt) ?_;refine zK (Qc rfl Ql (fun hg=>by exact Qy.imm h1.out rfl))<|qg (vs:=[_,_,_]) rfl Wu (fun hg=>zfK _ _ _ _)<|QE rfl rfl rfl rfl rfl<|zA (zN (Qs (Qi (Qf ?_))))
  exact Qx rfl rfl (fun w hw=>⟨by rw [show ck=6 by simpa using hc55,zzl],(hw.mono hIc).subL Qq⟩)
 have hk6:ck≠6:=(by simpa using hc55);exact Qr (Qk (Qd (zR (zA (zN (Qs<|Qx rfl rfl (fun w hw=>⟨by rw [zkE hk1 hk2 hk3 hk4 hk5 hk6],(hw.mono hIc).subL Qq⟩)))))))
theorem zit {xs:List Lm}(hS:Sl I 9 Zz av n c xs)(hx:xs[k]? =some x)(hn:n≤100000)(hL:zwA (xs.take k)):ZJ Tryz.prog 143 [.slice av n c,.int .i64 k] I (.bool (zj9 (xs.take k) x)):=by
 intro g H w hw;refine qe Tryz.func143 Tryz.ntmps143 hw ?_;have hln:=hS.len;have hkn:=(List.getElem?_eq_some_iff.1 hx).1;refine zR (zA (zN (Qm (zR ?_))));refine zM ?_;refine zM ?_;refine zV (zX ZY hS)<|zF Y0 ?_
 refine zV (Qc rfl Ql (fun hg=>by exact zB8 hS hx (j:=2) rfl))<|zC (zN ?_)
 refine zI ?_ ?_<;>intro hc12
 ·
  have he0:x.ends=0:=(by simpa using hc12);exact zR (zA (zN (Qs (Qf<|Qx rfl rfl (fun w hw=>⟨by rw [zof he0],hw⟩)))))
 have he0:¬x.ends=0:=(by simpa using hc12);refine Qr (Qd (zR (zA (zN (Qm (zR<|zA (zN (Qw<|zU [(0,_),(1,_)] (fun T L0 mz E I' loc'=>∃ (i:Nat) (b:Bool),mz=k-i∧E=(5,.bool b)::(6,.int .i64 i)::T∧I=I'∧L0=loc'∧i≤k∧(xs.take i).any (fun y=>y.ends==x.ends)=false∧b=(xs.take i).any (okL · x)) ?_ (h:=⟨0,false,rfl,rfl,rfl,rfl,Nat.zero_le _,rfl,rfl⟩)))))))));rintro mz E I' loc' ⟨i,b,rfl,rfl,rfl,rfl,hi,hno,hb⟩;refine Qm (zR (zM<|zM<|zC (zN ?_)));refine zI ?_ ?_<;>intro hc15
 ·
  have hlt_i:i<k:=(by have h:=hc15;simp at h;omega);obtain ⟨y,hy⟩:∃ y,xs[i]? =some y:=⟨_,List.getElem?_eq_getElem kB⟩;have hyt:y∈xs.take k:=List.mem_of_getElem? (by rw [List.getElem?_take_of_lt hlt_i];exact hy);have hyr:=hL.rng y hyt;refine Qr (Qd (Qm (Qw (Qm (Qm ?_)))));have hD:=zB6 I;refine zew mixed<|zT 0 rfl (Qe rfl) hD<|zT 1 rfl (Qe rfl) hD<|zT 2 rfl (zX ZY hS) hD<|zT 3 rfl (Qa rfl Y0) hD<|zT 4 rfl (Qc rfl Ql (fun hg=>by exact zB8 hS hy (j:=2) rfl)) hD<|zT 5 rfl (Qe rfl) hD<|zT 6 rfl (Qe rfl) hD<|zT 7 rfl (zX ZY hS) hD<|zT 8 rfl (Qa rfl Y0) hD<|zT 9 rfl (Qc rfl Ql (fun hg=>by exact zB8 hS hx (j:=2) rfl)) hD<|zT 10 rfl (QA rfl rfl rfl) hD ?_
  refine Qn kA<|Qv<|Qd ?_
  refine zI ?_ ?_<;>intro hc28
  ·
   exact zR (zA (zN (Qs (Qf (Qi (Qf (Qf<|Qi (Qf<|Qx rfl rfl (fun w hw=>⟨by rw [zqr he0 hyt hc28],hw⟩)))))))))
  have hno9:(xs.take (i+1)).any (fun y=>y.ends==x.ends)=false:=(by rw [zbr hy,hno,hc28];rfl);refine Qr (Qd (Qm ?_));have hD:=zB6 I;refine zew mixed<|zT 0 rfl (Qe rfl) hD<|zT 1 rfl (Qe rfl) hD<|zT 2 rfl (zX ZY hS) hD<|zT 3 rfl (Qa rfl YV) hD<|zT 4 rfl (Qc rfl Ql (fun hg=>by exact zBZ hS hy rfl)) hD<|zT 5 rfl (Ya rfl rfl rfl (fun hg=>kB)) hD<|zT 6 rfl (Qe rfl) hD<|zT 7 rfl (Qe rfl) hD<|zT 8 rfl (zX ZY hS) hD<|zT 9 rfl (Qa rfl Y0) hD<|zT 10 rfl (Qc rfl Ql (fun hg=>by exact zB8 hS hx (j:=2) rfl)) hD ?_
  refine zT 11 rfl (QA rfl rfl rfl) hD<|zT 12 rfl (Qe rfl) hD<|UN 12 rfl rfl rfl<|zt1 13 rfl (Qe rfl) hD<|zt1 14 rfl (Qe rfl) hD<|zt1 15 rfl (zX ZY hS) hD<|zt1 16 rfl (Qa rfl Ju) hD<|zt1 17 rfl (Qc rfl Ql (fun hg=>by exact zB8 hS hy (j:=1) rfl)) hD<|zt1 18 rfl (Qe rfl) hD<|zt1 19 rfl (Qe rfl) hD<|zt1 20 rfl (zX ZY hS) hD<|zt1 21 rfl (Qa rfl Ju) hD ?_
  refine zt1 22 rfl (Qc rfl Ql (fun hg=>by exact zB8 hS hx (j:=1) rfl)) hD<|zt1 23 rfl (QA rfl rfl rfl) hD<|zta 24 rfl rfl rfl rfl hD<|zT 25 rfl (Qe rfl) hD<|UN 25 rfl rfl rfl<|zt1 26 rfl (Qe rfl) hD<|zt1 27 rfl (Qe rfl) hD<|zt1 28 rfl (zX ZY hS) hD<|zt1 29 rfl (Qa rfl Kq) hD<|zt1 30 rfl (Qc rfl Ql (fun hg=>by exact zB8 hS hy (j:=5) rfl)) hD<|zt1 31 rfl (Qe rfl) hD<|zt1 32 rfl (Qe rfl) hD ?_
  refine zt1 33 rfl (zX ZY hS) hD<|zt1 34 rfl (Qa rfl Kq) hD<|zt1 35 rfl (Qc rfl Ql (fun hg=>by exact zB8 hS hx (j:=5) rfl)) hD<|zt1 36 rfl (QA rfl rfl rfl) hD<|zta 37 rfl rfl rfl rfl hD<|Qn kA<|Qv<|Qd ?_
  refine zI ?_ ?_<;>intro hc66
  focus
   have hb9:true=(xs.take (i+1)).any (okL · x):=(by rw [←zbA hy hb,show okL y x=true from hc66,Bool.or_true]);refine Qh (zA (Qb (Qk (Qd (Qh ?_)))));refine zM ?_
  rotate_left
  have hb9:b=(xs.take (i+1)).any (okL · x):=(by rw [←zbA hy hb,show okL y x=false from hc66,Bool.or_false]);refine Qr (Qk (Qd (Qh (zM ?_))))
  all_goals
   exact zB<|zA (Qb<|zm (h:=⟨k-(i+1),kB,i+1,_,rfl,rfl,rfl,rfl,kB,hno9,hb9⟩))
 have hge_i:k≤i:=(by have h:=hc15;simp at h;omega);obtain rfl:k=i:=kB;refine Zk (Qo (Qo (Qz (Qd (zR (zM<|zA (zN (Qs ?_))))))));exact Qx rfl rfl (fun w hw=>⟨by rw [zpA he0 hno,hb],hw⟩)
theorem zsU {xs:List Lm}(hS:Sl I 9 Zz av n c xs)(hn:n≤100000)(hw8:∀ y∈xs, -9223372036854775808≤y.ends∧y.ends≤9223372036854775807):ZJ Tryz.prog 75 [.slice av n c] I (.int .i64 (zg7 xs)):=by
 intro g H w hw;refine qe Tryz.func75 Tryz.ntmps75 hw ?_;have hIc:=zB6 I;have hln:=hS.len;refine zR (zA (zN (Qm (zR ?_))));refine zM ?_;refine zQ ZY<|zC (zN ?_)
 refine zI ?_ ?_<;>intro hc8
 ·
  have h5:xs.length>512:=(by have h:=hc8;simp at h;omega);exact zR (zA (zN (Qs (Qf<|Qx rfl rfl (fun w hw=>⟨by rw [ziD h5],(hw.mono hIc).subL Qq⟩)))))
 have h5:¬xs.length>512:=(by have h:=hc8;simp at h;omega);refine Qr (Qd (Qm (zR (zA (zN (Qw<|zU [(0,_)] (fun T L0 mz E I' loc'=>∃ (k:Nat),mz=n-k∧E=(3,.int .i64 k)::T∧HLe I I'∧L0=loc'∧k≤n∧(∀ j y,j<k→xs[j]? =some y→zcP (xs.take j) y=false)) ?_ (h:=⟨0,rfl,rfl,zB6 _,rfl,Nat.zero_le _,fun j y h=>absurd h (Nat.not_lt_zero _)⟩)))))));rintro mz E J1 loc' ⟨k,rfl,rfl,hJ,rfl,hk,hall⟩;have hS:=hS.mono hJ;have hIc:=hIc.trans hJ;have hB0:=hJ;refine Qm (zR (zM<|zM ?_));refine zQ ZY<|zC (zN ?_)
 refine zI ?_ ?_<;>intro hc12
 ·
  have hlt_k:k<n:=(by have h:=hc12;simp at h;omega);obtain ⟨x,hx⟩:∃ x,xs[k]? =some x:=⟨_,List.getElem?_eq_getElem kB⟩;have hL:=zoO hall kB;have hxw:=hw8 x (List.mem_of_getElem? hx);have hbr:=zxG hL hxw;refine Qr (Qd (Qm (Qw (zR (zM ?_)))));refine zM ?_;refine zV (zX ZY hS) ?_;refine zV (Qg rfl Km (fun hg=>by exact zB7 hS hx) rfl)<|Qp zfS rfl rfl (fun b_4=>?_)
  refine zh XP ?_;refine Qb<|QF .here (fun I2 hI2 hb2=>?_)
  have hS:=hS.mono hI2;have hIc:=hIc.trans hI2;have hB0:=hB0.trans hI2;have h4:=BxI.of hb2;refine Qd (Qm (Qm ?_));rcases zol (x:=x) (show k<xs.length by omega) with ⟨hA,hra⟩ | ⟨hA,hB,hra⟩ | ⟨y,hA,hB,hy,hC,hra⟩ | ⟨y,hA,hB,hy,hC,hra⟩
  ·
   have hD:=zB6 I2;refine Zn<|QJ I2 [] mixed<|zT 0 rfl (Qa rfl YV) hD<|zT 1 rfl (Qc rfl Ql (fun hg=>by exact Qy.imm h4.out rfl)) hD<|qd 2 rfl<|qcV (vs:=[_,_,_]) rfl Uc (K7 _ _ _ _)<|Qb<|zD hD<|zT 3 rfl (ZB rfl) hD ?_
   rw [hA];refine zT 4 rfl (Qe rfl) hD ?_;refine zW 5 23 hD ?_;refine zW 6 23 hD ?_;refine zW 7 23 hD ?_;refine zW 8 26 hD ?_;refine zW 9 26 hD ?_;refine zW 10 26 hD ?_;refine zW 11 26 hD ?_;refine zW 12 26 hD ?_;refine zW 13 26 hD ?_;refine zW 14 26 hD ?_;refine zW 15 26 hD ?_;refine zW 16 26 hD ?_;refine zW 17 23 hD<|zT 18 rfl (Ye rfl rfl rfl) hD<|zT 19 rfl (Qe rfl) hD ?_
   refine zW 20 38 hD ?_;refine zW 21 38 hD ?_;refine zW 22 38 hD ?_;refine zW 23 38 hD<|zT 24 rfl (Ye rfl rfl rfl) hD<|Qn kA<|Qv<|Qd ?_
   refine zI ?_ ?_<;>intro hc43
   ·
    refine zR (zA (zN (Qs (Qf (Qi (Qf (Qf<|Qi (Qf ?_))))))));exact Qx rfl rfl (fun w hw=>⟨by rw [Je h5 hx (by rw [hbr,hra];rfl)],(hw.mono hIc).subL Qq⟩)
   cases hc43
  focus
   have hD:=zB6 I2;refine Zn<|QJ I2 [] mixed<|zT 0 rfl (Qa rfl YV) hD<|zT 1 rfl (Qc rfl Ql (fun hg=>by exact Qy.imm h4.out rfl)) hD<|qd 2 rfl<|qcV (vs:=[_,_,_]) rfl Uc (K7 _ _ _ _)<|Qb<|zD hD<|zT 3 rfl (ZB rfl) hD ?_
   rw [hA];refine zT 4 rfl (Qe rfl) hD<|zw 5 23 rfl (Qe rfl) hD<|zw 6 23 rfl (QA rfl rfl rfl) hD ?_
   rw [hB];refine zw 7 23 rfl (Qe rfl) hD<|zW 8 26 hD ?_
   refine zW 9 26 hD ?_;refine zW 10 26 hD ?_;refine zW 11 26 hD ?_;refine zW 12 26 hD ?_;refine zW 13 26 hD ?_;refine zW 14 26 hD ?_;refine zW 15 26 hD ?_;refine zW 16 26 hD ?_;refine zw 17 23 rfl (Ye rfl rfl rfl) hD ?_
  rotate_left
  ·
   have hk0:0<k:=(by simpa using hB);have hD:=zB6 I2;refine Zn<|QJ I2 [] mixed<|zT 0 rfl (Qa rfl YV) hD<|zT 1 rfl (Qc rfl Ql (fun hg=>by exact Qy.imm h4.out rfl)) hD<|qd 2 rfl<|qcV (vs:=[_,_,_]) rfl Uc (K7 _ _ _ _)<|Qb<|zD hD<|zT 3 rfl (ZB rfl) hD ?_
   rw [hA];refine zT 4 rfl (Qe rfl) hD<|zw 5 23 rfl (Qe rfl) hD<|zw 6 23 rfl (QA rfl rfl rfl) hD ?_
   rw [hB];refine zw 7 23 rfl (Qe rfl) hD<|zw 8 26 rfl (Qa rfl YV) hD<|zw 9 26 rfl (Qc rfl Ql (fun hg=>by exact Qy.imm h4.out rfl)) hD<|zw 10 26 rfl (Qe rfl) hD<|zw 11 26 rfl (Qe rfl) hD<|zw 12 26 rfl (Ya rfl rfl rfl (fun hg=>kB)) hD<|zw 13 26 rfl (zX ZY hS) hD<|zw 14 26 rfl (Qa rfl YV) hD<|zw 15 26 rfl (Qc rfl Ql (fun hg=>by exact zBZ hS hy rfl)) hD<|zw 16 26 rfl (QA rfl rfl rfl) hD ?_
   rw [hC];refine zw 17 23 rfl (QY rfl rfl rfl) hD<|zT 18 rfl (QY rfl rfl rfl) hD<|zT 19 rfl (Qe rfl) hD ?_
   refine zW 20 38 hD ?_;refine zW 21 38 hD ?_;refine zW 22 38 hD ?_;refine zW 23 38 hD<|zT 24 rfl (Ye rfl rfl rfl) hD<|Qn kA<|Qv<|Qd ?_
   refine zI ?_ ?_<;>intro hc43
   ·
    refine zR (zA (zN (Qs (Qf (Qi (Qf (Qf<|Qi (Qf ?_))))))));exact Qx rfl rfl (fun w hw=>⟨by rw [Je h5 hx (by rw [hbr,hra];rfl)],(hw.mono hIc).subL Qq⟩)
   cases hc43
  have hk0:0<k:=(by simpa using hB);have hD:=zB6 I2;refine Zn<|QJ I2 [] mixed<|zT 0 rfl (Qa rfl YV) hD<|zT 1 rfl (Qc rfl Ql (fun hg=>by exact Qy.imm h4.out rfl)) hD<|qd 2 rfl<|qcV (vs:=[_,_,_]) rfl Uc (K7 _ _ _ _)<|Qb<|zD hD<|zT 3 rfl (ZB rfl) hD ?_
  rw [hA];refine zT 4 rfl (Qe rfl) hD<|zw 5 23 rfl (Qe rfl) hD<|zw 6 23 rfl (QA rfl rfl rfl) hD ?_
  rw [hB];refine zw 7 23 rfl (Qe rfl) hD<|zw 8 26 rfl (Qa rfl YV) hD<|zw 9 26 rfl (Qc rfl Ql (fun hg=>by exact Qy.imm h4.out rfl)) hD<|zw 10 26 rfl (Qe rfl) hD<|zw 11 26 rfl (Qe rfl) hD<|zw 12 26 rfl (Ya rfl rfl rfl (fun hg=>kB)) hD<|zw 13 26 rfl (zX ZY hS) hD<|zw 14 26 rfl (Qa rfl YV) hD<|zw 15 26 rfl (Qc rfl Ql (fun hg=>by exact zBZ hS hy rfl)) hD<|zw 16 26 rfl (QA rfl rfl rfl) hD ?_
  rw [hC];refine zw 17 23 rfl (QY rfl rfl rfl) hD ?_
  all_goals
   refine zT 18 rfl (QY rfl rfl rfl) hD<|zT 19 rfl (Qe rfl) hD<|zw 20 38 rfl (Qa rfl Ju) hD<|zw 21 38 rfl (Qc rfl Ql (fun hg=>by exact Qy.imm h4.out rfl)) hD<|qd 22 rfl<|QQ (dj:=38) rfl rfl rfl<|qcV (vs:=[_,_,_]) rfl Uc (K7 _ _ _ _)<|Qb<|zD hD<|zw 23 38 rfl (ZB rfl) hD<|zT 24 rfl (QY rfl rfl rfl) hD<|Qn kA ?_
   refine Qv<|Qd ?_
   refine zI ?_ ?_<;>intro hc43
   ·
    refine zR (zA (zN (Qs (Qf (Qi (Qf (Qf<|Qi (Qf ?_))))))));exact Qx rfl rfl (fun w hw=>⟨by rw [Je h5 hx (by rw [hbr,hra,show (!VR x.person 0 63)=true from hc43];rfl)],(hw.mono hIc).subL Qq⟩)
   have q1:rA (xs.take k) x=false:=(by rw [hra];exact hc43);refine Qr (Qd (Qm (zR<|zF WF ?_)));refine zV (Qc rfl Ql (fun hg=>by exact Qy.imm h4.out rfl))<|zF KZ ?_
   refine zV (Qc rfl Ql (fun hg=>by exact Qy.imm h4.out rfl))<|qcV (vs:=[_,_,_]) rfl Uc (K7 _ _ _ _)<|zO<|zM ?_
   refine QI 6 rfl rfl rfl ?_;refine zJ (Qa rfl KZ)<|zJ (Qc rfl Ql (fun hg=>by exact Qy.imm h4.out rfl))<|zJ (QA rfl rfl rfl)<|Q9 rfl rfl rfl rfl rfl ?_
   refine zM ?_;refine QI 11 rfl rfl rfl ?_;refine zJ (Qa rfl Kq)<|zJ (Qc rfl Ql (fun hg=>by exact Qy.imm h4.out rfl))<|qf (vs:=[_,_,_]) rfl Uc (fun hg=>K7 _ _ _ _)<|zJ (ZB rfl)<|Q9 rfl rfl rfl rfl rfl ?_
   refine zN ?_;refine zI ?_ ?_<;>intro hc60
   ·
    refine zR (zA (zN (Qs (Qf (Qi (Qf (Qf<|Qi (Qf ?_))))))));exact Qx rfl rfl (fun w hw=>⟨by rw [Je h5 hx (by rw [hbr,←zpM,hc60];simp)],(hw.mono hIc).subL Qq⟩)
   have q2:zo4 x=false:=(by rw [←zpM];exact hc60);refine Qr (Qd (zR<|zV (QD (ps:=[]) [_,_,_] zcq rfl rfl)<|Qp zxV rfl rfl (fun b_5=>?_)));refine zh zsJ ?_;refine Qb<|QF .here (fun I4 hI4 hb4=>?_)
   have hS:=hS.mono hI4;have h4:=h4.mono hI4;have hIc:=hIc.trans hI4;have hB0:=hB0.trans hI4;have h5z:=BxI.of hb4;refine Qd (zR<|zF JI ?_);refine zV (Qg rfl zaK (fun hg=>by exact Cells.part (pre:=[_,_,_,_,_,_]) (vs:=[_,_,_]) (post:=[]) (BxI.cells (vs:=Zz x) h4) rfl) rfl)<|qcV (vs:=[_]) rfl zkZ (zrH _ _ _ _)<|zO<|zM<|Qt 4 rfl rfl rfl ?_
   refine zK (Qa rfl JI)<|zK (Qg rfl zaK (fun hg=>by exact Cells.part (pre:=[_,_,_,_,_,_]) (vs:=[_,_,_]) (post:=[]) (BxI.cells (vs:=Zz x) h4) rfl) rfl)<|zK (Qg rfl zaK (fun hg=>by exact BxI.cells (vs:=[_,_,_]) h5z) rfl)<|zK (zog rfl rfl zkJ rfl)<|zK (Qe rfl)<|QI 9 rfl rfl rfl ?_
   refine zJ (Qa rfl Y0)<|zJ (Qc rfl Ql (fun hg=>by exact Qy.imm h4.out rfl))<|zJ (QA rfl rfl rfl)<|zcD rfl rfl rfl (.some rfl rfl rfl rfl gbt) rfl rfl<|QE rfl rfl rfl rfl rfl<|zM ?_
   refine QI 15 rfl rfl rfl ?_;refine zJ (Qe rfl)<|zJ (Qe rfl)<|qf (vs:=[_,_]) rfl zk9 (fun hg=>zit hS hx hn hL)<|zJ (ZB rfl)<|Q9 rfl rfl rfl rfl rfl ?_
   refine zN ?_;refine zI ?_ ?_<;>intro hc82
   ·
    refine zR (zA (zN (Qs (Qi (Qf (Qf (Qi<|Qf ?_)))))));exact Qx rfl rfl (fun w hw=>⟨by rw [Je h5 hx (by rw [hbr,Bool.or_assoc,show (zo6 x|| !zj9 (xs.take k) x)=true from hc82];simp)],(hw.mono hIc).subL Qq⟩)
   have hbad:zcP (xs.take k) x=false:=(by rw [hbr,Bool.or_assoc,show (zo6 x|| !zj9 (xs.take k) x)=false from hc82,q1,q2];rfl);refine Qr (Qk (Qd (Qh (zM ?_))));exact zB<|zA (Qb<|zm (h:=⟨n-(k+1),kB,k+1,rfl,rfl,hB0,rfl,kB,Vo hx hall hbad⟩))
 have hge_k:n≤k:=(by have h:=hc12;simp at h;omega);refine Zk (Qo (Qo (Qz (Qd (zR (zA (zN<|Qs ?_)))))));exact Qx rfl rfl (fun w hw=>⟨by rw [zkH h5 (fun j y hj hy=>hall j y kB hy)],(hw.mono hIc).subL Qq⟩)
end
end Go.Proofs.YtjblkbkmblkgoaaGreat
namespace Go.Proofs.YtjblkbkmblkgoaaGreat.S
section
open Go Go.Kn
def i64 (n:Int):Prop:= -9223372036854775808≤n∧n≤9223372036854775807
structure okR (x:Rt):Prop where
 no:i64 x.no
 kind:i64 x.kind
 edition:i64 x.edition
 holder:i64 x.holder
 sign:i64 x.sign
 ends:i64 x.ends
 lo:i64 x.lo
 hi:i64 x.hi
 known:i64 x.known
variable{n:Int}
theorem zsi (h:i64 n):w64 n=n:=by
 unfold w64 IntKind.wrap;simp only [IntKind.signed,IntKind.bits];obtain ⟨h1,h2⟩:=h
 first | omega | (simp;omega) | (rw [Int.emod_emod_of_dvd];omega)
theorem ztm (x:Rt):billF x=(zjQ x&&within x.edition 0 1048576&&zjK x.name&&zjK x.town&&(x.holder==0)&&(x.sign==0)&&(x.ends==0)):=by
 cases x;simp only [billF,rtEq,zlF,zjQ,zjK,within,zdu,beq_self_eq_true,Bool.true_and,Bool.and_true];rw [Bool.eq_iff_iff];simp only [Bool.and_eq_true,decide_eq_true_eq,beq_iff_eq];constructor
 ·
  rintro ⟨⟨⟨⟨a,b,c⟩,d⟩,e⟩,f⟩;refine ⟨⟨⟨⟨⟨⟨⟨⟨?_,?_⟩,?_⟩,?_⟩,e⟩,f⟩,?_⟩,?_⟩,?_⟩<;>(try simp_all)<;>omega
 ·
  rintro ⟨⟨⟨⟨⟨⟨a,b⟩,c⟩,d⟩,e⟩,f⟩,g⟩;simp_all
theorem zoP (x:Rt):heldF x=WR x:=by
 cases x;simp only [heldF,WR,rtEq,zlF,zjQ,within,zcT,beq_self_eq_true,Bool.true_and,Bool.and_true];rw [Bool.eq_iff_iff];simp only [Bool.and_eq_true,decide_eq_true_eq,beq_iff_eq];constructor
 ·
  intro h;simp_all
 ·
  intro h;simp_all
variable{α:Type}
theorem zlb {xs:List α}{p q:α→Bool}(h:∀ x∈xs,p x=q x):xs.any p=xs.any q:=by
 induction xs with
 | nil=>rfl
 | cons x xs ih=>rw [List.any_cons,List.any_cons,h x (List.mem_cons_self ..),ih (fun y hy=>h y (List.mem_cons_of_mem _ hy))]
def zgQ (pre:List Rt)(bs:List (Int×Rt)):Prop:=∀ k,ZQ bs k=pre.find? fun y=>y.no==k
theorem zqZ (h:0≤n∧n≤1048576):w64 (n+1)=n+1:=zsi ⟨kB,kB⟩
theorem zpu {m:Int}(hn:i64 n)(hm:0≤m∧m≤1048576):(m=w64 (n-1))↔m+1=n:=by
 by_cases h:n= -9223372036854775808
 ·
  subst h;have:w64 (-9223372036854775808-1)=9223372036854775807:=by decide
  rw [this];omega
 ·
  rw [zsi (n:=n-1) ⟨by have:=hn.1;omega,by have:=hn.2;omega⟩];omega
variable{pre:List Rt}
theorem zpI {p q:Rt→Bool}(huniq:∀ y∈pre,∀ z∈pre,p y=true→p z=true→y=z):(match pre.find? p with | none=>false | some y=>q y)=pre.any (fun y=>p y&&q y):=by
 cases h:pre.find? p with
 | none=>
  rw [List.find?_eq_none] at h
  symm
  rw [List.any_eq_false];intro y hy;have:=h y hy;simp [this]
 | some y=>
  have hp:=List.find?_some h;have hm:=List.mem_of_find?_eq_some h;show q y=_
  cases hq:q y with
  | true=>exact (List.any_eq_true.2 ⟨y,hm,show (p y&&q y)=true by rw [hp,hq];rfl⟩).symm
  | false=>
   symm
   rw [List.any_eq_false];intro z hz hpz;rw [Bool.and_eq_true] at hpz;have:=huniq y hm z hz hp hpz.1;subst this;rw [hq] at hpz;exact absurd hpz.2 kC
def zsI (pre:List Rt):Prop:=pre.Pairwise fun y z=>y.no<z.no
variable{y:Rt}
theorem zsI.uniq (h:zsI pre){z:Rt}(hy:y∈pre)(hz:z∈pre)(e:y.no=z.no):y=z:=by
 induction pre with
 | nil=>cases hy
 | cons p pre ih=>
  rw [zsI,List.pairwise_cons] at h;rcases List.mem_cons.1 hy with e1 | hy<;>rcases List.mem_cons.1 hz with e2 | hz
  ·
   rw [e1,e2]
  ·
   have:=h.1 z hz;rw [e1] at e;omega
  ·
   have:=h.1 y hy;rw [e2] at e;omega
  ·
   exact ih h.2 hy hz
variable{bs:List (Int×Rt)}{x:Rt}
theorem ztE (hm:zgQ pre bs)(hr:zsI pre)(hb:∀ y∈pre,0≤y.no∧y.no≤1048576)(hx:okR x):
  voidF x bs=(zgx pre x&&(x.edition==0)&&(x.holder==0)&&(x.sign==0)&&Kz x.name zcT&&Kz x.town zcT&&(x.lo==0)&&(x.hi==0)):=by
 have e1:voidF x bs=((match pre.find? (fun y=>y.no==w64 (x.ends-1)) with | none=>false | some old=>(old.kind != 4)&&decide (old.known≤x.known))&&rtEq x {zeroR with no:=x.no,kind:=x.kind,ends:=x.ends,known:=x.known}):=by
  unfold voidF;rw [hm];cases pre.find? (fun y=>y.no==w64 (x.ends-1))<;>rfl
 have e2:zgx pre x=pre.any (fun y=>(y.no==w64 (x.ends-1))&&((y.kind != 4)&&decide (y.known≤x.known))):=by
  unfold zgx;apply zlb;intro y hy;have h1:=hb y hy
  have h2:(w64 (y.no+1)==x.ends)=(y.no==w64 (x.ends-1)):=by
   rw [Bool.eq_iff_iff,beq_iff_eq,beq_iff_eq,zqZ h1,zpu hx.ends h1]
  rw [h2,Bool.and_assoc]
 rw [e1,zpI (fun y hy z hz h1 h2=>hr.uniq hy hz (by rw [beq_iff_eq] at h1 h2;rw [h1,h2])),e2]
 have e3:rtEq x {zeroR with no:=x.no,kind:=x.kind,ends:=x.ends,known:=x.known}=((x.edition==0)&&(x.holder==0)&&(x.sign==0)&&Kz x.name zcT&&Kz x.town zcT&&(x.lo==0)&&(x.hi==0)):=by
  cases x;simp only [rtEq,zeroR,zcT,beq_self_eq_true,Bool.true_and,Bool.and_true,Bool.and_assoc]
 rw [e3];simp only [Bool.and_assoc]
theorem zxo (hm:zgQ pre bs)(hr:zsI pre)(hb:∀ y∈pre,0≤y.no∧y.no≤1048576)(hx:okR x):
  (zdA x.kind&&askF x.kind x bs)=Xd pre x:=by
 unfold zdA askF Xd;by_cases h1:x.kind=1
 ·
  rw [h1];simp only [if_true,beq_self_eq_true,Bool.true_or,Bool.true_and,ztm]
 ·
  by_cases h2:x.kind=2
  ·
   rw [h2];simp [zoP]
  ·
   by_cases h3:x.kind=3
   ·
    rw [h3];simp [zoP]
   ·
    by_cases h4:x.kind=4
    ·
     rw [h4];simp [ztE hm hr hb hx]
    ·
     simp [h1,h2,h3,h4]
variable{i:Nat}{last:Int}
theorem zxI (hm:zgQ pre bs)(hr:zsI pre)(hb:∀ y∈pre,0≤y.no∧y.no≤1048576)(hx:okR x)
  (h0:i=0→last= -1)(h1:0<i→last=y.no∧0≤last):rBad x bs last= !Jl i pre y x:=by
 have ha:=zxo hm hr hb hx;unfold rBad Jl;by_cases hA:(!within x.no 0 1048576||(decide ((i:Int)>0)&&decide (x.no≤y.no))|| !within x.known 0 134217727)=true
 ·
  rw [if_pos hA];simp only [Bool.not_false,Bool.or_eq_true,Bool.and_eq_true,within,Bool.not_eq_true',Bool.and_eq_false_iff,decide_eq_true_eq,decide_eq_false_iff_not] at hA ⊢;rcases Nat.eq_zero_or_pos i with hi | hi
  ·
   have:=h0 hi;subst hi;omega
  ·
   have:=h1 hi;omega
 ·
  rw [if_neg hA];rw [←ha];simp only [Bool.or_eq_true,Bool.and_eq_true,within,Bool.not_eq_true',Bool.and_eq_false_iff,decide_eq_true_eq,decide_eq_false_iff_not] at hA
  have e1:decide (x.no≤last)=false:=by
   rcases Nat.eq_zero_or_pos i with hi | hi
   ·
    have:=h0 hi;subst hi;exact decide_eq_false kB
   ·
    have:=h1 hi;exact decide_eq_false kB
  have e2:decide (x.no>1048576)=false:=decide_eq_false kB;have e3:within x.known 0 134217727=true:=(by simp only [within,Bool.and_eq_true,decide_eq_true_eq];omega);rw [e1,e2,e3];cases zdA x.kind<;>cases askF x.kind x bs<;>rfl
theorem zh3 (pre:List Rt)(x:Rt)(rest:List Rt):WU (pre++x::rest) pre.length=Jl pre.length pre (zc6 (pre++x::rest) pre.length) x:=by
 unfold WU;rw [List.take_left' rfl];simp
theorem zmX (pre rest:List Rt)(h:0<pre.length):∃ y,pre[pre.length-1]? =some y∧zc6 (pre++rest) pre.length=y:=by
 have h1:pre.length-1<pre.length:=kB;refine ⟨pre[pre.length-1],List.getElem?_eq_getElem h1,?_⟩;unfold zc6;rw [show ((pre.length:Int)-1).toNat=pre.length-1 from by omega,List.getElem?_append_left h1,List.getElem?_eq_getElem h1];rfl
theorem zp5 (h:Jl i pre y x=true):0≤x.no∧x.no≤1048576∧(0<i→y.no<x.no):=by
 unfold Jl at h;split at h
 ·
  cases h
 ·
  rename_i hb;simp only [Bool.or_eq_true,Bool.and_eq_true,within,Bool.not_eq_true',Bool.and_eq_false_iff,decide_eq_true_eq,decide_eq_false_iff_not] at hb;refine ⟨kB,kB,fun hi=>kB⟩
theorem zgQ.step (hm:zgQ pre bs)(hlt:∀ y∈pre,y.no<x.no):zgQ (pre++[x]) (JB bs x.no x):=by
 intro k;rw [Jr,List.find?_append,hm];by_cases h:x.no=k
 ·
  have:pre.find? (fun y=>y.no==k)=none:=List.find?_eq_none.2 fun y hy=>by have:=hlt y hy;simp;omega
  rw [if_pos h,this];simp [h]
 ·
  rw [if_neg h];have:([x]:List Rt).find? (fun y=>y.no==k)=none:=by simp [h]
  rw [this];simp
theorem zxP:∀ (rest pre:List Rt) (bs:List (Int×Rt)) (last:Int),zgQ pre bs→zsI pre→(∀ y∈pre,0≤y.no∧y.no≤1048576∧y.no≤last)→(pre=[]→last= -1)→(∀ y,pre[pre.length-1]? =some y→last=y.no)→(∀ x∈rest,okR x)→
  rGo rest bs last=if (List.range' pre.length rest.length).all (WU (pre++rest)) then 0 else 460
 | [],pre,bs,last,_,_,_,_,_,_=>by simp [rGo]
 | x::rest,pre,bs,last,hm,hr,hb,h0,h1,hx=>by
  have hbad:=zxI (x:=x) (y:=zc6 (pre++x::rest) pre.length) (i:=pre.length) (last:=last) hm hr (fun y hy=>⟨(hb y hy).1,(hb y hy).2.1⟩) (hx x (List.mem_cons_self ..))
   (fun h=>h0 (List.length_eq_zero_iff.1 h)) (fun h=>by
    obtain ⟨y,hy,hp⟩:=zmX pre (x::rest) h;rw [hp];have:=h1 y hy
    exact ⟨this,by rw [this];exact (hb y (List.mem_of_getElem? hy)).1⟩)
  rw [←zh3] at hbad;rw [List.length_cons,List.range'_succ,List.all_cons,rGo,hbad]
  cases hg:WU (pre++x::rest) pre.length with
  | false=>rfl
  | true=>
   rw [zh3] at hg;obtain ⟨a,b,c⟩:=zp5 hg
   have hlast:∀ y∈pre,y.no<x.no:=fun y hy=>by
    have hl:0<pre.length:=List.length_pos_of_mem hy;obtain ⟨z,hz,hp⟩:=zmX pre (x::rest) hl;have h2:=c hl;rw [hp] at h2;have h3:=h1 z hz;have h4:=(hb y hy).2.2;omega
   have ih:=zxP rest (pre++[x]) (JB bs x.no x) x.no (hm.step hlast) (by
     unfold zsI;rw [List.pairwise_append]
     exact ⟨hr,List.pairwise_singleton ..,fun y hy z hz=>by rw [List.mem_singleton] at hz;subst hz;exact hlast y hy⟩)
    (fun y hy=>by
     rcases List.mem_append.1 hy with hy | hy
     ·
      have:=hb y hy;have:=hlast y hy;omega
     ·
      rw [List.mem_singleton] at hy;subst hy;omega)
    (fun h=>by simp at h) (fun y hy=>by
     have:(pre++[x])[(pre++[x]).length-1]? =some x:=by simp
     rw [this] at hy;cases hy;rfl) (fun y hy=>hx y (List.mem_cons_of_mem _ hy))
   simp only [Bool.not_true,Bool.false_eq_true,if_false,Bool.true_and];rw [ih];simp only [List.length_append,List.length_singleton,List.append_assoc,List.singleton_append]
variable{xs:List Rt}
theorem check_eq (hx:∀ x∈xs,okR x):rCheck xs=fCheck xs:=by
 unfold rCheck fCheck;split
 ·
  rfl
 ·
  have:=zxP xs [] [] (-1) (fun k=>rfl) .nil (fun y h=>by cases h) (fun _=>rfl) (fun y h=>by simp at h) hx;rw [this,List.range_eq_range'];rfl
end
end Go.Proofs.YtjblkbkmblkgoaaGreat.S
namespace Go.Proofs.YtjblkbkmblkgoaaGreat
section
open Go Go.Kn Go.Proofs
theorem zAT {x:Lm}(h:x.ends=0):lmC x=[x]:=if_pos h
theorem zz7 {x:Lm}(h:¬x.ends=0):lmC x=[⟨IntKind.i64.wrap (x.ends-1),x.person,0,0,0,0,3,0,1⟩,x]:=if_neg h
theorem zz2 {x:S.Rt}(h:x.ends=0):rtC x=[x]:=if_pos h
theorem zz6 {x:S.Rt}(h:¬x.ends=0):rtC x=[⟨IntKind.i64.wrap (x.ends-1),1,0,0,0,0,⟨#[97]⟩,⟨#[97]⟩,0,0,0⟩,x]:=if_neg h
theorem zwz {x:Lm}(h: -9223372036854775808≤x.ends∧x.ends≤9223372036854775807):∀ y∈lmC x, -9223372036854775808≤y.ends∧y.ends≤9223372036854775807:=fun y hy=>by
 unfold lmC at hy;split at hy
 ·
  rw [List.mem_singleton.1 hy];exact h
 ·
  simp only [List.mem_cons,List.not_mem_nil,or_false] at hy;rcases hy with rfl | rfl
  ·
   simp
  ·
   exact h
theorem zpf (n:Int): -9223372036854775808≤IntKind.i64.wrap n∧IntKind.i64.wrap n≤9223372036854775807:=by
 unfold IntKind.wrap;simp only [IntKind.signed,IntKind.bits];simp;omega
theorem zAG {x:S.Rt}(h:S.okR x):∀ y∈rtC x,S.okR y:=fun y hy=>by
 unfold rtC at hy;split at hy
 ·
  rw [List.mem_singleton.1 hy];exact h
 ·
  simp only [List.mem_cons,List.not_mem_nil,or_false] at hy;rcases hy with rfl | rfl
  ·
   refine ⟨zpf _,?_,?_,?_,?_,?_,?_,?_,?_⟩<;>simp [S.i64]
  ·
   exact h
variable{x:Nt}
theorem NtW.lm (h:NtW x): -9223372036854775808≤x.lm.ends∧x.lm.ends≤9223372036854775807:=h.ints _ kZ
theorem NtW.rt (h:NtW x):S.okR x.rt:=
 ⟨h.ints _ kZ,h.ints _ kZ,h.ints _ kZ,h.ints _ kZ,h.ints _ kZ,h.ints _ kZ,h.ints _ kZ,h.ints _ kZ,h.ints _ kZ⟩
theorem zl6 {x:S.Rt}(h:S.okR x):S.fCheck (rtC x)=S.rCheck (rtC x):=(S.check_eq (zAG h)).symm
variable{I:Qu}
theorem zAJ (hN:Nd I x.pt):smP x.pt JD=z2 x:=by
 have hl:x.pt.needs.length=x.pt.n:=hN.len
 have e:(decide (x.pt.needs=JD.needs))=((x.pt.n:Int)==0):=by
  rw [Bool.eq_iff_iff,decide_eq_true_eq,beq_iff_eq,←hl];show x.pt.needs=[]↔_;rw [←List.length_eq_zero_iff];omega
 unfold smP smC z2;rw [e];rw [Bool.eq_iff_iff];simp only [Bool.and_eq_true,Bool.not_eq_true',Bool.or_eq_false_iff,bne_eq_false_iff_eq,beq_iff_eq,Bool.not_eq_false'];constructor
 ·
  rintro ⟨⟨⟨⟨⟨⟨h1,h2⟩,h3⟩,h4⟩,h5⟩,h6⟩,h7⟩;exact ⟨⟨⟨⟨⟨h1,h2⟩,h3⟩,h4⟩,h5⟩,h7⟩
 ·
  rintro ⟨⟨⟨⟨⟨h1,h2⟩,h3⟩,h4⟩,h5⟩,h7⟩;exact ⟨⟨⟨⟨⟨⟨h1,h2⟩,h3⟩,h4⟩,h5⟩,h7⟩,h7⟩
theorem zzf (h:x.kind=1):QN x=(((zg7 (lmC x.lm)==0&&z2 x)&&z3 x)&&z4 x):=by
 unfold QN W7 zaJ;rw [h,if_pos rfl];simp [Bool.and_assoc]
theorem zyy (h:x.kind=2):QN x=(((z1 x&&(Uk x.pt==0))&&z3 x)&&z4 x):=by
 unfold QN W7 zaJ;rw [h,if_neg kC,if_pos rfl];simp only [show ((2:Int)==1)=false by rfl,show ((2:Int)==2)=true by rfl,show ((2:Int)==3)=false by rfl,show ((2:Int)==4)=false by rfl,Bool.false_or,Bool.true_or,Bool.and_true];cases Uk x.pt==0<;>cases z1 x<;>rfl
theorem zi2 (h:x.kind=3):QN x=(((z1 x&&z2 x)&&(L.chk [x.ls]==0))&&z4 x):=by
 unfold QN W7 zaJ;rw [h,if_neg kC,if_neg kC,if_pos rfl];simp only [show ((3:Int)==1)=false by rfl,show ((3:Int)==2)=false by rfl,show ((3:Int)==3)=true by rfl,show ((3:Int)==4)=false by rfl,Bool.false_or,Bool.true_or,Bool.and_true];cases L.chk [x.ls]==0<;>cases z1 x<;>cases z2 x<;>rfl
theorem zzk (h:x.kind=4):QN x=(((z1 x&&z2 x)&&z3 x)&&(S.rCheck (rtC x.rt)==0)):=by
 unfold QN W7 zaJ;rw [h,if_neg kC,if_neg kC,if_neg kC,if_pos rfl];simp only [show ((4:Int)==1)=false by rfl,show ((4:Int)==2)=false by rfl,show ((4:Int)==3)=false by rfl,show ((4:Int)==4)=true by rfl,Bool.false_or,Bool.true_or,Bool.and_true];cases S.rCheck (rtC x.rt)==0<;>cases z1 x<;>cases z2 x<;>cases z3 x<;>rfl
theorem zut (h1:¬x.kind=1)(h2:¬x.kind=2)(h3:¬x.kind=3)(h4:¬x.kind=4):QN x=false:=by
 unfold QN W7;rw [if_neg h1,if_neg h2,if_neg h3,if_neg h4];rfl
theorem zfy (a:Int):(!decide (a<0))=decide (a≥0):=by
 rw [Bool.eq_iff_iff];simp
theorem zqM {a b a0 b0:Nat}(h:Nat.gcd a b=Nat.gcd a0 b0):Nat.gcd b (a % b)=Nat.gcd a0 b0:=
 (Nat.gcd_comm b (a % b)).trans ((Nat.gcd_rec b a).symm.trans ((Nat.gcd_comm b a).trans h))
theorem zpY {a b:Int}(ha:0≤a)(hb:0≤b):((Nat.gcd a.toNat b.toNat:Nat):Int)=zoz a b:=by
 unfold zoz Int.gcd;congr 2<;>omega
theorem zp2 (n d:Int):zoz (zcR n) d=zoz n d:=by
 unfold zoz Int.gcd;have:(zcR n).natAbs=n.natAbs:=by unfold zcR;split<;>omega
 rw [this]
variable{n:Int}
theorem zuv (h: -1073741824≤n∧n≤1073741824):0≤zcR n∧zcR n≤1073741824:=by unfold zcR;split<;>omega
theorem zqs (n d:Int):(((((decide (d≥1)&&decide (d≤1073741824))&&decide (n≥ -1073741824))&&decide (n≤1073741824))&&(zoz (zcR n) d==1)))=WE n d:=by
 unfold WE;rw [zp2,Bool.eq_iff_iff];simp only [Bool.and_eq_true,decide_eq_true_eq,beq_iff_eq,Bool.not_eq_true',Bool.or_eq_false_iff,decide_eq_false_iff_not,bne_eq_false_iff_eq];omega
theorem zpB (fn fd tn td:Int):((((WE fn fd&&WE tn td)&&decide (fn≥0))&&decide (fn*td<tn*fd))&&decide (tn≤td))=zcL fn fd tn td:=by
 unfold zcL;generalize (WE fn fd&&WE tn td)=a;generalize decide (fn≥0)=b;generalize decide (fn*td<tn*fd)=c;generalize decide (tn≤td)=d;cases a<;>cases b<;>cases c<;>cases d<;>rfl
def frA (x:Sg):Bool:=(((!within x.id 0 1048576|| !within x.role 0 63)|| !within x.bar 0 4095)|| !within x.kind 1 9)|| !within x.mark 1 3
def frB (x:Sg):Bool:=(((!within x.side 0 2|| !within x.dir 0 8)|| !within x.level 0 3)|| !within x.size 0 255)|| !within x.wth 0 64
theorem zkw (x:Sg):frm x=((!frA x&& !frB x)&&zcL x.fn x.fd x.tn x.td):=by
 unfold frm zAB frA frB;generalize within x.id 0 1048576=b1;generalize within x.role 0 63=b2;generalize within x.bar 0 4095=b3;generalize within x.kind 1 9=b4;generalize within x.mark 1 3=b5;generalize within x.side 0 2=b6;generalize within x.dir 0 8=b7;generalize within x.level 0 3=b8;generalize within x.size 0 255=b9;generalize within x.wth 0 64=b10;cases b1<;>cases b2<;>cases b3<;>cases b4<;>cases b5<;>first | rfl | (cases b6<;>cases b7<;>cases b8<;>cases b9<;>cases b10<;>rfl)
theorem zA1 {x:Sg}(h:frA x=true):frm x=false:=by rw [zkw,h];rfl
theorem zAP {x:Sg}(h:frB x=true):frm x=false:=by rw [zkw,h];simp
theorem zAN {x:Sg}(h:frA x=false)(h2:frB x=false):frm x=zcL x.fn x.fd x.tn x.td:=by rw [zkw,h,h2];rfl
variable{xs:List Sg}
theorem zwL (h:xs.length>4096):zj0 xs=2:=by unfold zj0;rw [if_pos h]
theorem zyC (h:¬xs.length>4096)(h2:skB xs=false):zj0 xs=360:=by unfold zj0;rw [if_neg h,h2];rfl
theorem zzy (h:¬xs.length>4096)(h2:skB xs=true):zj0 xs=0:=by unfold zj0;rw [if_neg h,h2];rfl
theorem zrZ (p:Pt):(((decide (p.id<1)||decide (p.id>1048576))||decide (p.sign<0))||decide (p.sign>1048576))= !idB p:=by
 unfold idB;rw [Bool.eq_iff_iff];simp only [Bool.or_eq_true,decide_eq_true_eq,Bool.not_eq_true',Bool.and_eq_false_iff,decide_eq_false_iff_not];omega
def zpt (p:Pt):Bool:=idB p&&(ndB p.id p.needs&&U7 p)
variable{p:Pt}
theorem zzG (h:idB p=false):zpt p=false:=by unfold zpt;rw [h];rfl
theorem zwK (h:ndB p.id p.needs=false):zpt p=false:=by unfold zpt;rw [h,Bool.false_and,Bool.and_false]
theorem zmt (h:idB p=true)(h2:ndB p.id p.needs=true):zpt p=U7 p:=by unfold zpt;rw [h,h2];rfl
theorem zmb (h:¬p.needs.length>32):(if zpt p=true then (0:Int) else 370)=Uk p:=by
 unfold Uk zpt;rw [if_neg h];cases idB p<;>cases ndB p.id p.needs<;>cases U7 p<;>rfl
variable{f:Int}
theorem zoi (h:(decide (f<1)||decide (f>9))=false):within f 1 9=true∧isF f:=by
 simp only [Bool.or_eq_false_iff,decide_eq_false_iff_not] at h;unfold within isF;simp;omega
theorem zjU (h:(decide (f<1)||decide (f>9))=true):within f 1 9=false:=by
 simp only [Bool.or_eq_true,decide_eq_true_eq] at h;unfold within;simp;omega
theorem ztM (hk:p.kind=1)(h:(decide (p.field<1)||decide (p.field>9))=false):(zkl (Uj Kb p.field p.nw) p.nw&&frm (Uj zfU p.field p.nw))=U7 p:=by
 obtain ⟨h1,h2⟩:=zoi h;rw [zuc hk h1,zqN h2,znQ h2]
theorem zz8 (hk:p.kind=1)(h:(decide (p.field<1)||decide (p.field>9))=true):U7 p=false:=by
 unfold U7;rw [if_pos hk,zjU h];rfl
end
end Go.Proofs.YtjblkbkmblkgoaaGreat
