/- partiesKept_holds, part G of the proof: what its theorems say holds without further conditions. -/
import Derived.Lib.Bytealg
import Derived.Test.YtjblkbkmblkgoaaGreatPTF
namespace Go.Proofs.YtjblkbkmblkgoaaGreat
section
open Go Go.Kn Go.Proofs
theorem zbE:Fun Tryz.prog 220:=.of Tryz.func220 (by kernel_rfl) (by kernel_rfl)
theorem zwN (I:Qt){n:Int}(hn: -9223372036854775808≤n∧n≤9223372036854775807):ZA Tryz.prog 221 [.int .i64 n] I (.int .u64 (zz n)):=by
 intro g H w hw
 refine qe Tryz.func221 Tryz.ntmps221 hw ?_
 refine zR (zA (zN (Qm (zR ?_))))
 refine zM ?_
 refine zC (zN ?_)
 refine zI ?_ ?_<;>intro hc4
 ·
  have h4:n≥0:=by simpa using hc4
  refine zR (zM ?_)
  refine zV (ZU rfl VR) ?_
  refine zV (WV rfl rfl rfl) ?_
  refine zA (zN (Qs (Qe ?_)))
  exact Qv rfl rfl (fun w hw=>⟨by rw [←zvP hn h4],hw⟩)
 have h4:¬n≥0:=by simpa using hc4
 refine Qr (Qd (zR (zM ?_)))
 refine zV (WV rfl rfl rfl) ?_
 refine zV (zlY rfl) ?_
 refine zV (ZU rfl VR) ?_
 refine zV (WV rfl rfl rfl) ?_
 refine zV (WV rfl rfl rfl) ?_
 refine zA (zN (Qs ?_))
 exact Qv rfl rfl (fun w hw=>⟨by rw [←zwW hn h4,Int.zero_sub],hw⟩)
theorem zft {I:Qt}{u:Nat}(hu:u<2^64)(ih:(∀ u',u'<u→∀ I,Vl Tryz.prog 220 [.int .u64 (u':Nat)] I [] (YQ (JL u')))):Vl Tryz.prog 220 [.int .u64 (u:Nat)] I [] (YQ (JL u)):=by
 intro g H w hw
 refine qe Tryz.func220 Tryz.ntmps220 hw ?_
 have hIc:=zzm I
 have h10:=K8 hu
 have h10b:=K8 (u:=u / 128) (by omega)
 refine zR (zA (zN (Qm (zR ?_))))
 refine zM ?_
 refine zC (zN ?_)
 refine zI ?_ ?_<;>intro hc4
 ·
  have hlt:u<128:=by have h:=hc4;simp at h;omega
  refine zR (zM ?_)
  refine zV (JW (ZU rfl W5) (congrArg (Value.int .u8) (zbU (n:=(u:Int)) ⟨by omega,by omega⟩))) ?_
  refine zpb [(0,_)] [VO u] Vb (fun b_7=>?_)
  refine zA (Qb ?_)
  refine QH .here (fun I1 hI1 hb1=>?_)
  have hIc:=hIc.trans hI1
  have hZ:=Sl.lit (enc:=VO) [u] rfl YO hb1
  refine Qd (Qs (Qe ?_))
  exact Qv rfl rfl (fun w hw=>⟨_,I1,[],rfl,hIc,by exact hw,zce hZ (by rw [Vf hlt])⟩)
 have hge:¬u<128:=by have h:=hc4;simp at h;omega
 refine Qr (Qd (zR (zM ?_)))
 refine zV (Z4 rfl rfl (fun hg=>by decide)) ?_
 refine zV (WV rfl rfl rfl) ?_
 refine zV (JW (ZU rfl W5) (congrArg (Value.int .u8) (zwS u))) ?_
 refine zpb [(0,_)] [VO (u % 128+128)] Vb (fun b_12=>?_)
 refine zM ?_
 refine zV (JW (zuw rfl rfl (fun hg=>by decide)) (congrArg (Value.int .u64) (zv8 hu))) ?_
 refine zpc [_] rfl zbE .nil (ih (u / 128) (by omega) _) ?_
 rintro vv2 I2 L2 hI2 ⟨rfl,a9,c9,rfl,hS9⟩
 have hIc:=hIc.trans hI2
 refine zpa (_) ((JL (u / 128):List Nat).flatMap VO) ([(b_12,_)]) rfl rfl Vb (zlU (u % 128+128)) (hS9.src YO) (zbs _) ?_
 intro v9 L9 hO9 _;rw [←List.flatMap_append] at hO9
 refine zA (Qb ?_)
 refine zx4 hO9 YO (fun I3 hI3 af3 cf3 ef3 hZ=>?_)
 subst ef3
 have hIc:=hIc.trans hI3
 refine Qd (Qs ?_)
 exact Qv rfl rfl (fun w hw=>⟨_,I3,[],rfl,hIc,by exact hw,zce hZ (by rw [Xw hge];rfl)⟩)
end
section
open Go Go.Kn Go.Proofs
theorem zlq:Fun Tryz.prog 218:=.of Tryz.func218 (by kernel_rfl) (by kernel_rfl)
theorem zjK:Fun Tryz.prog 219:=.of Tryz.func219 (by kernel_rfl) (by kernel_rfl)
theorem zgT (u:Nat):u<2^64→∀ I,Vl Tryz.prog 220 [.int .u64 (u:Nat)] I [] (YQ (JL u)):=by
 induction u using Nat.strongRecOn with
 | _ u ih=>intro hu I;exact zft hu fun u' h=>ih u' h (by omega)
theorem zhh (I:Qt)(n:Int):ZA Tryz.prog 103 [.int .i64 n] I (.agg (Q7 (vcI n)).toArray):=by
 intro g H w hw
 refine qe Tryz.func103 Tryz.ntmps103 hw ?_
 refine zR ?_
 refine Qq YK rfl rfl (fun b_2=>?_)
 refine zN (zR ?_)
 refine zM ?_
 refine zV (QK (ps:=[(0,_),(1,_)]) [_,_,_,_] KH rfl rfl) ?_
 refine zh ZD ?_
 refine zN (Qs ?_)
 exact ZX rfl rfl Zq zzk rfl (fun w hw=>⟨by rfl,hw.drop⟩)
theorem zaX (I:Qt)(s:ByteArray):ZA Tryz.prog 104 [.string s] I (.agg (Q7 (vcT s)).toArray):=by
 intro g H w hw
 refine qe Tryz.func104 Tryz.ntmps104 hw ?_
 refine zR ?_
 refine Qq YK rfl rfl (fun b_2=>?_)
 refine zN (zR ?_)
 refine zM ?_
 refine zV (QK (ps:=[(0,_),(2,_)]) [_,_,_,_] KH rfl rfl) ?_
 refine zh ZD ?_
 refine zN (Qs ?_)
 exact ZX rfl rfl Zq zzk rfl (fun w hw=>⟨by rfl,hw.drop⟩)
def zvp (x:Va):Prop:=∀ {I:Qt} {cv:Vc} (_hx:VaR I x cv) (_hb:(Va.enc x).length≤900000),ZA Tryz.prog 218 [.agg (Q7 cv).toArray] I (.bool true)
def zuN (x:Va):Prop:=∀ {I:Qt} {cv:Vc} (_hx:VaR I x cv) (_hd:Va.depth x≤1000) (_hb:(Va.enc x).length≤900000),ZA Tryz.prog 219 [.agg (Q7 cv).toArray] I (.int .i64 (Va.depth x:Nat))
theorem zfb (I:Qt)(n:Int):ZA Tryz.prog 218 [.agg #[.int .i64 1,.int .i64 n,.string ⟨#[]⟩,.slice none 0 0]] I (.bool true):=by
 intro g H w hw
 refine qe Tryz.func218 Tryz.ntmps218 hw ?_
 have hIc:=zzm I
 refine zR ?_
 refine QR rfl rfl rfl (fun b_1=>?_)
 refine zA (Qb ?_)
 refine QH .here (fun I1 hI1 hb1=>?_)
 have hIc:=hIc.trans hI1
 have h1:=BxI.of hb1
 refine Qd (Qm (zR ?_))
 refine zF Zc ?_
 refine zV (Qc rfl Ql (fun hg=>by exact QA.imm h1.out rfl)) ?_
 refine zN (Qw (zR (zC ?_)))
 refine zA (zN ?_)
 refine zI ?_ ?_<;>intro hc6
 ·
  refine zR ?_
  refine zF Yt ?_
  refine zV (Qc rfl VI (fun hg=>by exact QA.imm h1.out rfl)) ?_
  refine zV (Ki rfl rfl rfl) ?_
  refine zM ?_
  refine Qp 3 rfl rfl rfl ?_
  refine zK (Qa rfl QU) ?_
  refine zK (Qc rfl Zp (fun hg=>by exact QA.imm h1.out rfl)) ?_
  refine zK (Q4 rfl Z7) ?_
  refine zK (QD rfl rfl rfl) ?_
  refine Qy rfl rfl rfl rfl rfl ?_
  refine zA (zN (Qs (Qj (Qe ?_))))
  exact Qv rfl rfl (fun w hw=>⟨by simp [Kr],(hw.mono hIc).subL QB⟩)
 simp at hc6
theorem zcq (I:Qt)(s:ByteArray):ZA Tryz.prog 218 [.agg #[.int .i64 2,.int .i64 0,.string s,.slice none 0 0]] I (.bool true):=by
 intro g H w hw
 refine qe Tryz.func218 Tryz.ntmps218 hw ?_
 have hIc:=zzm I
 refine zR ?_
 refine QR rfl rfl rfl (fun b_1=>?_)
 refine zA (Qb ?_)
 refine QH .here (fun I1 hI1 hb1=>?_)
 have hIc:=hIc.trans hI1
 have h1:=BxI.of hb1
 refine Qd (Qm (zR ?_))
 refine zF Zc ?_
 refine zV (Qc rfl Ql (fun hg=>by exact QA.imm h1.out rfl)) ?_
 refine zN (Qw (zR (zC ?_)))
 refine zA (zN ?_)
 refine zI ?_ ?_<;>intro hc6
 ·
  simp at hc6
 refine zR (zC ?_)
 refine zA (zN ?_)
 refine zI ?_ ?_<;>intro hc17
 ·
  refine zR ?_
  refine zF YT ?_
  refine zV (Qc rfl Ql (fun hg=>by exact QA.imm h1.out rfl)) ?_
  refine zC ?_
  refine zM ?_
  refine Qp 3 rfl rfl rfl ?_
  refine zK (Qa rfl QU) ?_
  refine zK (Qc rfl Zp (fun hg=>by exact QA.imm h1.out rfl)) ?_
  refine zK (Q4 rfl Z7) ?_
  refine zK (QD rfl rfl rfl) ?_
  refine Qy rfl rfl rfl rfl rfl ?_
  refine zA (zN (Qs (Qj (Qe ?_))))
  exact Qv rfl rfl (fun w hw=>⟨by rfl,(hw.mono hIc).subL QB⟩)
 simp at hc17
theorem zhZ {I:Qt}{l:List Va}{hs:List Vc}{a:Option Addr}{m c:Nat}(hS:Sl I 4 Q7 a m c hs)(hl:l.length=hs.length)(hr:∀ (k:Nat) (x:Va) (y:Vc),l[k]? =some x→hs[k]? =some y→VaR I x y)(hm:m≤1000000)(ih:∀ (k:Nat) (x:Va),l[k]? =some x→zvp x)(hb:(Va.encL l).length≤900000):ZA Tryz.prog 218 [.agg #[.int .i64 3,.int .i64 0,.string ⟨#[]⟩,.slice a m c]] I (.bool true):=by
 intro g H w hw
 refine qe Tryz.func218 Tryz.ntmps218 hw ?_
 have hIc:=zzm I
 have hml:=hS.len
 refine zR ?_
 refine QR rfl rfl rfl (fun b_1=>?_)
 refine zA (Qb ?_)
 refine QH .here (fun I1 hI1 hb1=>?_)
 have hS:=hS.mono hI1;have hIc:=hIc.trans hI1
 have h1:=BxI.of hb1
 refine Qd (Qm (zR ?_))
 refine zF Zc ?_
 refine zV (Qc rfl Ql (fun hg=>by exact QA.imm h1.out rfl)) ?_
 refine zN (Qw (zR (zC ?_)))
 refine zA (zN ?_)
 refine zI ?_ ?_<;>intro hc6
 ·
  simp at hc6
 refine zR (zC ?_)
 refine zA (zN ?_)
 refine zI ?_ ?_<;>intro hc17
 ·
  simp at hc17
 refine zR (zC ?_)
 refine zA (zN ?_)
 refine zI ?_ ?_<;>intro hc28
 ·
  refine Qm (zR (zA (zN (Qw ?_))))
  refine zU [(1,_)] (fun T L0 mz E I' loc'=>∃ (k:Nat),mz=m-k∧E=(3,.int .i64 k)::T∧I1=I'∧L0=loc'∧k≤m) ?_ (h:=⟨0,rfl,rfl,rfl,rfl,Nat.zero_le _⟩)
  rintro mz E I' loc' ⟨k,rfl,rfl,rfl,rfl,hk⟩
  refine Qm (zR (zM ?_))
  refine zF QU ?_
  refine zV (Qc rfl Zp (fun hg=>by exact QA.imm h1.out rfl)) ?_
  refine zQ Z7 ?_
  refine zC (zN ?_)
  refine zI ?_ ?_<;>intro hc34
  ·
   have hlt_k:k<m:=by have h:=hc34;simp at h;omega
   obtain ⟨cv,hy⟩:∃ y,hs[k]? =some y:=⟨_,List.getElem?_eq_getElem (by omega)⟩
   obtain ⟨x,hlx⟩:∃ y,l[k]? =some y:=⟨_,List.getElem?_eq_getElem (by omega)⟩
   have hxy:=(hr k x cv hlx hy).mono hIc
   have hle:=zc8 (l:=l) (k+1)
   rw [zam hlx,List.length_append] at hle
   refine Qr (Qd (Qm (Qw (zR ?_))))
   refine zF QU ?_
   refine zV (Qc rfl Zp (fun hg=>by exact QA.imm h1.out rfl)) ?_
   refine zM ?_
   refine zV (zX Z7 hS) ?_
   refine zV (Qg rfl Zq (fun hg=>by exact zzn hS hy) rfl) ?_
   refine qcV (vs:=[_]) rfl zlq (ih k x hlx hxy (by omega)) ?_
   refine zO (zN ?_)
   refine zI ?_ ?_<;>intro hc43
   ·
    cases hc43
   refine Qr (Qk (Qd (Qi (zM ?_))))
   refine zB ?_
   refine zA (Qb ?_)
   exact zm (h:=⟨m-(k+1),by omega,k+1,rfl,rfl,rfl,rfl,by omega⟩)
  have hge_k:m≤k:=by have h:=hc34;simp at h;omega
  refine Zi (Qo (Qo (Qz (Qd (zR ?_)))))
  refine zF YT ?_
  refine zV (Qc rfl Ql (fun hg=>by exact QA.imm h1.out rfl)) ?_
  refine zC ?_
  refine zM ?_
  refine Qp 3 rfl rfl rfl ?_
  refine zK (Qa rfl Yt) ?_
  refine zK (Qc rfl VI (fun hg=>by exact QA.imm h1.out rfl)) ?_
  refine zK (Ki rfl rfl rfl) ?_
  refine Qy rfl rfl rfl rfl rfl ?_
  refine zA (zN (Qs (Qj (Qe ?_))))
  exact Qv rfl rfl (fun w hw=>⟨by simp [Kr],(hw.mono hIc).subL QB⟩)
 simp at hc28
theorem zes (I:Qt)(n:Int):ZA Tryz.prog 219 [.agg #[.int .i64 1,.int .i64 n,.string ⟨#[]⟩,.slice none 0 0]] I (.int .i64 0):=by
 intro g H w hw
 refine qe Tryz.func219 Tryz.ntmps219 hw ?_
 have hIc:=zzm I
 refine zR ?_
 refine QR rfl rfl rfl (fun b_1=>?_)
 refine zA (Qb ?_)
 refine QH .here (fun I1 hI1 hb1=>?_)
 have hIc:=hIc.trans hI1
 have h1:=BxI.of hb1
 refine Qd (Qm (zR ?_))
 refine zF Zc ?_
 refine zV (Qc rfl Ql (fun hg=>by exact QA.imm h1.out rfl)) ?_
 refine zC (zN ?_)
 refine zI ?_ ?_<;>intro hc7
 ·
  refine zR (zA (zN (Qs (Qe ?_))))
  exact Qv rfl rfl (fun w hw=>⟨by rfl,(hw.mono hIc).subL QB⟩)
 simp at hc7
theorem zcf (I:Qt)(s:ByteArray):ZA Tryz.prog 219 [.agg #[.int .i64 2,.int .i64 0,.string s,.slice none 0 0]] I (.int .i64 0):=by
 intro g H w hw
 refine qe Tryz.func219 Tryz.ntmps219 hw ?_
 have hIc:=zzm I
 refine zR ?_
 refine QR rfl rfl rfl (fun b_1=>?_)
 refine zA (Qb ?_)
 refine QH .here (fun I1 hI1 hb1=>?_)
 have hIc:=hIc.trans hI1
 have h1:=BxI.of hb1
 refine Qd (Qm (zR ?_))
 refine zF Zc ?_
 refine zV (Qc rfl Ql (fun hg=>by exact QA.imm h1.out rfl)) ?_
 refine zC (zN ?_)
 refine zI ?_ ?_<;>intro hc7
 ·
  refine zR (zA (zN (Qs (Qe ?_))))
  exact Qv rfl rfl (fun w hw=>⟨by rfl,(hw.mono hIc).subL QB⟩)
 simp at hc7
theorem zis {I:Qt}{l:List Va}{hs:List Vc}{a:Option Addr}{m c:Nat}(hS:Sl I 4 Q7 a m c hs)(hl:l.length=hs.length)(hr:∀ (k:Nat) (x:Va) (y:Vc),l[k]? =some x→hs[k]? =some y→VaR I x y)(hm:m≤1000000)(ih:∀ (k:Nat) (x:Va),l[k]? =some x→zuN x)(hd:Va.depthL l≤999)(hb:(Va.encL l).length≤900000):ZA Tryz.prog 219 [.agg #[.int .i64 3,.int .i64 0,.string ⟨#[]⟩,.slice a m c]] I (.int .i64 (Va.depthL l+1:Nat)):=by
 intro g H w hw
 refine qe Tryz.func219 Tryz.ntmps219 hw ?_
 have hIc:=zzm I
 have hml:=hS.len
 refine zR ?_
 refine QR rfl rfl rfl (fun b_1=>?_)
 refine zA (Qb ?_)
 refine QH .here (fun I1 hI1 hb1=>?_)
 have hS:=hS.mono hI1;have hIc:=hIc.trans hI1
 have h1:=BxI.of hb1
 refine Qd (Qm (zR ?_))
 refine zF Zc ?_
 refine zV (Qc rfl Ql (fun hg=>by exact QA.imm h1.out rfl)) ?_
 refine zC (zN ?_)
 refine zI ?_ ?_<;>intro hc7
 ·
  simp at hc7
 refine Qr (Qd (zR (zA (zN (Qm (zR ?_))))))
 refine zA (zN (Qw ?_))
 refine zU [(1,_)] (fun T L0 mz E I' loc'=>∃ (k:Nat) (dd:Int),mz=m-k∧E=(3,.int .i64 dd)::(4,.int .i64 k)::T∧I1=I'∧L0=loc'∧k≤m∧dd=((Va.depthL (l.take k):Nat):Int)) ?_ (h:=⟨0,0,rfl,rfl,rfl,rfl,Nat.zero_le _,rfl⟩)
 rintro mz E I' loc' ⟨k,dd,rfl,rfl,rfl,rfl,hk,hdd⟩
 refine Qm (zR (zM ?_))
 refine zF QU ?_
 refine zV (Qc rfl Zp (fun hg=>by exact QA.imm h1.out rfl)) ?_
 refine zQ Z7 ?_
 refine zC (zN ?_)
 refine zI ?_ ?_<;>intro hc12
 ·
  have hlt_k:k<m:=by have h:=hc12;simp at h;omega
  obtain ⟨cv,hy⟩:∃ y,hs[k]? =some y:=⟨_,List.getElem?_eq_getElem (by omega)⟩
  obtain ⟨x,hlx⟩:∃ y,l[k]? =some y:=⟨_,List.getElem?_eq_getElem (by omega)⟩
  have hxy:=(hr k x cv hlx hy).mono hIc
  have hle:=zc8 (l:=l) (k+1)
  rw [zam hlx,List.length_append] at hle
  have hdx:=JB hd hlx
  have hdt:Va.depthL (l.take k)≤999:=Nat.le_trans (zij l k) hd
  refine Qr (Qd (Qm (Qw (Qi (zM ?_)))))
  refine zF QU ?_
  refine zV (Qc rfl Zp (fun hg=>by exact QA.imm h1.out rfl)) ?_
  refine zM ?_
  refine zV (zX Z7 hS) ?_
  refine zV (Qg rfl Zq (fun hg=>by exact zzn hS hy) rfl) ?_
  refine qcV (vs:=[_]) rfl zjK (ih k x hlx hxy (by omega) (by omega)) ?_
  refine zV (Vm rfl rfl) ?_
  refine zA (Qb (Qk (Qd (Qi ?_))))
  refine zM ?_
  refine zB ?_
  refine zA (Qb ?_)
  exact zm (h:=⟨m-(k+1),by omega,k+1,_,rfl,rfl,rfl,rfl,by omega,by rw [zbm hlx,hdd];unfold zfa;split<;>omega⟩)
 have hge_k:m≤k:=by have h:=hc12;simp at h;omega
 have hke:l.take k=l:=List.take_of_length_le (by omega)
 rw [hke] at hdd
 refine Zi (Qo (Qo (Qz (Qd (zR (zM ?_))))))
 refine zB ?_
 refine zA (zN (Qs ?_))
 exact Qv rfl rfl (fun w hw=>⟨by rw [hdd];rfl,(hw.mono hIc).subL QB⟩)
end
section
open Go Go.Kn Go.Proofs
theorem zkH:Fun Tryz.prog 169:=.of Tryz.func169 (by kernel_rfl) (by kernel_rfl)
theorem zqC:Fun Tryz.prog 221:=.of Tryz.func221 (by kernel_rfl) (by kernel_rfl)
def zu0 (x:Va):Prop:=∀ {I:Qt} {cv:Vc} (_hx:VaR I x cv) (_hok:Va.ok x) (_hb:(Va.enc x).length≤900000),Vl Tryz.prog 169 [.agg (Q7 cv).toArray] I [] (YQ (Va.enc x))
theorem zee (I:Qt){n:Int}(hn: -9223372036854775808≤n∧n≤9223372036854775807):Vl Tryz.prog 169 [.agg #[.int .i64 1,.int .i64 n,.string ⟨#[]⟩,.slice none 0 0]] I [] (YQ (Va.enc (.int n))):=by
 intro g H w hw
 refine qe Tryz.func169 Tryz.ntmps169 hw ?_
 have hIc:=zzm I
 have h10:=K8 (zkv hn)
 refine zR ?_
 refine QR rfl rfl rfl (fun b_1=>?_)
 refine zA (Qb ?_)
 refine QH .here (fun I1 hI1 hb1=>?_)
 have hIc:=hIc.trans hI1
 have h1:=BxI.of hb1
 refine Qd (Qm (zR ?_))
 refine zF Zc ?_
 refine zV (Qc rfl Ql (fun hg=>by exact QA.imm h1.out rfl)) ?_
 refine zN (Qw (zR (zC ?_)))
 refine zA (zN ?_)
 refine zI ?_ ?_<;>intro hc7
 ·
  refine zR ?_
  refine zpb [(0,_)] [VO 1] Vb (fun b_9=>?_)
  refine zF YT ?_
  refine zV (Qc rfl Ql (fun hg=>by exact QA.imm h1.out rfl)) ?_
  refine qcV (vs:=[_]) rfl zqC (zwN _ hn) ?_
  refine zpc [_] rfl zbE .nil (zgT (zz n) (zkv hn) _) ?_
  rintro vv2 I2 L2 hI2 ⟨rfl,a9,c9,rfl,hS9⟩
  have hIc:=hIc.trans hI2
  refine zpa (_) ((JL (zz n):List Nat).flatMap VO) ([(b_9,_)]) rfl rfl Vb (zlU 1) (hS9.src YO) (zbs _) ?_
  intro v9 L9 hO9 _;rw [←List.flatMap_append] at hO9
  refine zA (Qb ?_)
  refine zx4 hO9 YO (fun I3 hI3 af3 cf3 ef3 hZ=>?_)
  subst ef3
  have hIc:=hIc.trans hI3
  refine Qd (Qs (Qj (Qe ?_)))
  exact Qv rfl rfl (fun w hw=>⟨_,I3,[],rfl,hIc,by exact hw,zce hZ (by simp [Va.enc])⟩)
 simp at hc7
theorem zcB (I:Qt)(s:ByteArray)(hs:s.size≤900000):Vl Tryz.prog 169 [.agg #[.int .i64 2,.int .i64 0,.string s,.slice none 0 0]] I [] (YQ (Va.enc (.text (K1 s)))):=by
 intro g H w hw
 refine qe Tryz.func169 Tryz.ntmps169 hw ?_
 have hIc:=zzm I
 have h10:=K8 (u:=s.size) (by omega)
 refine zR ?_
 refine QR rfl rfl rfl (fun b_1=>?_)
 refine zA (Qb ?_)
 refine QH .here (fun I1 hI1 hb1=>?_)
 have hIc:=hIc.trans hI1
 have h1:=BxI.of hb1
 refine Qd (Qm (zR ?_))
 refine zF Zc ?_
 refine zV (Qc rfl Ql (fun hg=>by exact QA.imm h1.out rfl)) ?_
 refine zN (Qw (zR (zC ?_)))
 refine zA (zN ?_)
 refine zI ?_ ?_<;>intro hc7
 ·
  simp at hc7
 refine zR (zC ?_)
 refine zA (zN ?_)
 refine zI ?_ ?_<;>intro hc15
 ·
  refine Qm ?_
  have hD:=zzm I1
  refine Zt ?_
  refine QQ I1 [] mixed ?_
  refine zT 1 rfl (Qa rfl Yt) hD ?_
  refine zT 2 rfl (Qc rfl VI (fun hg=>by exact QA.imm h1.out rfl)) hD ?_
  refine zT 3 rfl (Us rfl zuq) hD ?_
  refine zT 4 rfl (JW (ZU rfl VR) (congrArg (Value.int .u64) (Yc (n:=(s.size:Int)) ⟨by omega,by omega⟩))) hD ?_
  refine zT 7 rfl (Qa rfl Yt) hD ?_
  refine zT 8 rfl (Qc rfl VI (fun hg=>by exact QA.imm h1.out rfl)) hD ?_
  refine QW 0 5 rfl rfl (by kernel_rfl) ?_ ?_
  ·
   refine zpb [(0,_)] [VO 2] Vb (fun b_17=>?_)
   refine Qb ?_
   refine zD hD ?_
   refine qd 5 rfl ?_
   refine zpc [_] rfl zbE .nil (zgT s.size (by omega) _) ?_
   rintro vv2 I2 L2 hI2 ⟨rfl,a9,c9,rfl,hS9⟩
   have hIc:=hIc.trans hI2;have hD:=hD.trans hI2
   refine Qb ?_
   refine zD hD ?_
   refine qd 6 rfl ?_
   refine zpa (_) ((JL s.size:List Nat).flatMap VO) ([(b_17,_)]) rfl rfl Vb (zlU 2) (hS9.src YO) (zbs _) ?_
   intro v9 L9 hO9 _;rw [←List.flatMap_append] at hO9
   refine Qb ?_
   refine zD hD ?_
   refine qd 9 rfl ?_
   refine Xz rfl rfl Vb zuq hO9 (by repeat (first | exact .cons .here .nil | exact ZL | exact Zd | apply ZF | apply ZB)) (by omega) rfl rfl ?_
   intro v11 L11 hO11
   have hO12:Ya 5 1 v11 (1+(JL s.size).length+s.size) ((([2]++JL s.size)++K1 s).flatMap VO) L11:=by rw [List.flatMap_append];exact hO11
   refine Qb ?_
   refine zD hD ?_
   refine zT 10 rfl (QC rfl) hD ?_
   refine Qn (by kernel_rfl) ?_
   refine Qx ?_
   refine zx4 hO12 YO (fun I3 hI3 af3 cf3 ef3 hZ=>?_)
   subst ef3
   have hIc:=hIc.trans hI3
   refine Qd (Qs (Qj (Qe ?_)))
   exact Qv rfl rfl (fun w hw=>⟨_,I3,[],rfl,hIc,by exact hw,zce hZ (by rw [Va.enc,Jt];simp)⟩)
  refine zpc [_] rfl zbE .nil (zgT s.size (by omega) _) ?_
  rintro vv4 I4 L4 hI4 ⟨rfl,a9,c9,rfl,hS9⟩
  have hIc:=hIc.trans hI4;have hD:=hD.trans hI4
  refine Qb ?_
  refine zD hD ?_
  refine qd 0 rfl ?_
  refine zpb [(0,_)] [VO 2] Vb (fun b_17=>?_)
  refine Qb ?_
  refine zD hD ?_
  refine qd 6 rfl ?_
  refine zpa (_) ((JL s.size:List Nat).flatMap VO) ([(b_17,_)]) rfl rfl Vb (zlU 2) (hS9.src YO) (zbs _) ?_
  intro v9 L9 hO9 _;rw [←List.flatMap_append] at hO9
  refine Qb ?_
  refine zD hD ?_
  refine qd 9 rfl ?_
  refine Xz rfl rfl Vb zuq hO9 (by repeat (first | exact .cons .here .nil | exact ZL | exact Zd | apply ZF | apply ZB)) (by omega) rfl rfl ?_
  intro v11 L11 hO11
  have hO12:Ya 5 1 v11 (1+(JL s.size).length+s.size) ((([2]++JL s.size)++K1 s).flatMap VO) L11:=by rw [List.flatMap_append];exact hO11
  refine Qb ?_
  refine zD hD ?_
  refine zT 10 rfl (QC rfl) hD ?_
  refine Qn (by kernel_rfl) ?_
  refine Qx ?_
  refine zx4 hO12 YO (fun I5 hI5 af5 cf5 ef5 hZ=>?_)
  subst ef5
  have hIc:=hIc.trans hI5
  refine Qd (Qs (Qj (Qe ?_)))
  exact Qv rfl rfl (fun w hw=>⟨_,I5,[],rfl,hIc,by exact hw,zce hZ (by rw [Va.enc,Jt];simp)⟩)
 simp at hc15
theorem zic {I:Qt}{l:List Va}{hs:List Vc}{a:Option Addr}{m c:Nat}(hS:Sl I 4 Q7 a m c hs)(hl:l.length=hs.length)(hr:∀ (k:Nat) (x:Va) (y:Vc),l[k]? =some x→hs[k]? =some y→VaR I x y)(hm:m≤1000000)(ih:∀ (k:Nat) (x:Va),l[k]? =some x→zu0 x)(hok:Va.okL l)(hb:(Va.enc (.list l)).length≤900000):Vl Tryz.prog 169 [.agg #[.int .i64 3,.int .i64 0,.string ⟨#[]⟩,.slice a m c]] I [] (YQ (Va.enc (.list l))):=by
 intro g H w hw
 refine qe Tryz.func169 Tryz.ntmps169 hw ?_
 have hIc:=zzm I
 have hml:=hS.len
 have hel:(Va.enc (.list l)).length=(JL l.length).length+(Va.encL l).length+1:=by simp [Va.enc]
 have h10:=K8 (u:=l.length) (by omega)
 refine zR ?_
 refine QR rfl rfl rfl (fun b_1=>?_)
 refine zA (Qb ?_)
 refine QH .here (fun I1 hI1 hb1=>?_)
 have hS:=hS.mono hI1;have hIc:=hIc.trans hI1
 have h1:=BxI.of hb1
 refine Qd (Qm (zR ?_))
 refine zF Zc ?_
 refine zV (Qc rfl Ql (fun hg=>by exact QA.imm h1.out rfl)) ?_
 refine zN (Qw (zR (zC ?_)))
 refine zA (zN ?_)
 refine zI ?_ ?_<;>intro hc7
 ·
  simp at hc7
 refine zR (zC ?_)
 refine zA (zN ?_)
 refine zI ?_ ?_<;>intro hc15
 ·
  simp at hc15
 refine Qr (Qk (Qd (zR ?_)))
 refine zpb [(0,_)] [VO 3] Vb (fun b_27=>?_)
 refine zF QU ?_
 refine zV (Qc rfl Zp (fun hg=>by exact QA.imm h1.out rfl)) ?_
 refine zQ Z7 ?_
 refine zV (JW (ZU rfl VR) (congrArg (Value.int .u64) ((Yc (n:=(m:Int)) ⟨by omega,by omega⟩).trans (show (m:Int)=(l.length:Int) by omega)))) ?_
 refine zpc [_] rfl zbE .nil (zgT l.length (by omega) _) ?_
 rintro vv2 I2 L2 hI2 ⟨rfl,a9,c9,rfl,hS9⟩
 have hS:=hS.mono hI2;have h1:=h1.mono hI2;have hIc:=hIc.trans hI2
 refine zpa (_) ((JL l.length:List Nat).flatMap VO) ([(b_27,_)]) rfl rfl Vb (zlU 3) (hS9.src YO) (zbs _) ?_
 intro v9 L9 hO9 _;rw [←List.flatMap_append] at hO9
 refine zA (zN (Qm (zR ?_)))
 refine zA (zN (Qw ?_))
 refine zU [(1,_)] (fun T L0 mz E I' loc'=>∃ (k:Nat) (v:Value) (Lw:Go.Kn.Loc),mz=m-k∧E=(3,v)::(4,.int .i64 k)::T∧HLe I2 I'∧Lw=loc'∧k≤m∧WI 5 v (3::(JL l.length++Va.encL (l.take k))) Lw) ?_ (h:=⟨0,_,_,rfl,rfl,zzm _,rfl,Nat.zero_le _,by rw [List.append_nil,List.take_zero,show (3::(JL l.length++Va.encL []):List Nat)=[3]++JL l.length by simp [Va.encL]];exact WI.app (xs:=[3]) (by rw [List.length_singleton];exact hO9)⟩)
 rintro mz E J3 loc' ⟨k,v,Lw,rfl,rfl,hJ,rfl,hk,hO⟩
 have hS:=hS.mono hJ;have h1:=h1.mono hJ;have hIc:=hIc.trans hJ
 have hB1:=hJ
 refine Qm (zR (zM ?_))
 refine zF QU ?_
 refine zV (Qc rfl Zp (fun hg=>by exact QA.imm h1.out rfl)) ?_
 refine zQ Z7 ?_
 refine zC (zN ?_)
 refine zI ?_ ?_<;>intro hc38
 ·
  have hlt_k:k<m:=by have h:=hc38;simp at h;omega
  obtain ⟨cv,hy⟩:∃ y,hs[k]? =some y:=⟨_,List.getElem?_eq_getElem (by omega)⟩
  obtain ⟨x,hlx⟩:∃ y,l[k]? =some y:=⟨_,List.getElem?_eq_getElem (by omega)⟩
  have hxy:=(hr k x cv hlx hy).mono hIc
  have hokx:=zd3 hok hlx
  have hle:=zc8 (l:=l) (k+1)
  rw [zam hlx,List.length_append] at hle
  have hxl:((3::(JL l.length++Va.encL (l.take k))):List Nat).length=(JL l.length).length+(Va.encL (l.take k)).length+1:=by simp
  refine Qr (Qd (Qm (Qw (Qi (zM ?_)))))
  refine zF QU ?_
  refine zV (Qc rfl Zp (fun hg=>by exact QA.imm h1.out rfl)) ?_
  refine zM ?_
  refine zV (zX Z7 hS) ?_
  refine zV (Qg rfl Zq (fun hg=>by exact zzn hS hy) rfl) ?_
  refine zpc [_] rfl zkH .nil (ih k x hlx hxy hokx (by omega)) ?_
  rintro vv4 I4 L4 hI4 ⟨rfl,a8,c8,rfl,hS8⟩
  have hB1:=hB1.trans hI4
  refine zpa (_) ((Va.enc x).flatMap VO) (Lw) rfl rfl Vb hO (hS8.src YO) (zbs _) ?_
  intro v9 L9 hO9 _;rw [←List.flatMap_append] at hO9
  refine zA (Qb (Qk (Qd (Qi ?_))))
  refine zM ?_
  refine zB ?_
  refine zA (Qb ?_)
  exact zm (h:=⟨m-(k+1),by omega,k+1,_,_,rfl,rfl,hB1,rfl,by omega,by rw [zam hlx,←List.append_assoc,←List.cons_append];exact WI.app hO9⟩)
 have hge_k:m≤k:=by have h:=hc38;simp at h;omega
 have hke:l.take k=l:=List.take_of_length_le (by omega)
 rw [hke] at hO
 refine Zi (Qo (Qo (Qz (Qd (Qm ?_)))))
 refine zx4 hO YO (fun I5 hI5 af5 cf5 ef5 hZ=>?_)
 subst ef5
 have hIc:=hIc.trans hI5
 refine Qi (zM ?_)
 refine zA (zN (Qs ?_))
 exact Qv rfl rfl (fun w hw=>⟨_,I5,[],rfl,hIc,by exact hw,zce hZ (by simp [Va.enc])⟩)
theorem zkV (d:Nat):∀ x,Va.depth x≤d→(∀ {I:Qt} {cv:Vc},VaR I x cv→(Va.enc x).length≤900000→True)→zu0 x:=by
 induction d with
 | zero=>
  intro x hd _ I cv hx hok hb
  cases x with
  | int n=>cases hx;exact zee I hok
  | text s=>cases hx;have h:=zcB I (U8 s) (by rw [UQ];simp only [Va.enc,List.length_cons,List.length_append] at hb;omega);rw [VS hok.1] at h;exact h
  | list l=>simp [Va.depth] at hd
 | succ d ih=>
  intro x hd _ I cv hx hok hb
  cases x with
  | int n=>cases hx;exact zee I hok
  | text s=>cases hx;have h:=zcB I (U8 s) (by rw [UQ];simp only [Va.enc,List.length_cons,List.length_append] at hb;omega);rw [VS hok.1] at h;exact h
  | list l=>
   cases hx with
   | list hS hl hr=>
    have hle:=Va.encL_len l
    have hml:=hS.len
    exact zic hS hl hr (by simp only [Va.enc,List.length_cons,List.length_append] at hb;dsimp only;omega) (fun k y hy=>ih y (JB (l:=l) (by simp only [Va.depth] at hd;omega) hy) (fun _ _=>trivial)) hok.2 hb
end
section
open Go Go.Kn Go.Proofs
theorem zth:Fun Tryz.prog 168:=.of Tryz.func168 (by kernel_rfl) (by kernel_rfl)
theorem zjY (d:Nat):∀ x,Va.depth x≤d→zvp x:=by
 induction d with
 | zero=>
  intro x hd I cv hx hb
  cases x with
  | int n=>cases hx;exact zfb _ n
  | text s=>cases hx;exact zcq _ _
  | list l=>simp [Va.depth] at hd
 | succ d ih=>
  intro x hd I cv hx hb
  cases x with
  | int n=>cases hx;exact zfb _ n
  | text s=>cases hx;exact zcq _ _
  | list l=>
   cases hx with
   | list hS hl hr=>
    have hle:=Va.encL_len l
    have hml:=hS.len
    have hb2:(Va.encL l).length≤900000:=by simp only [Va.enc,List.length_cons,List.length_append] at hb;omega
    exact zhZ hS hl hr (by dsimp only;omega) (fun k y hy=>ih y (JB (l:=l) (by simp only [Va.depth] at hd;omega) hy)) hb2
theorem zj5 (d:Nat):∀ x,Va.depth x≤d→zuN x:=by
 induction d with
 | zero=>
  intro x hd I cv hx h1 hb
  cases x with
  | int n=>cases hx;exact zes _ n
  | text s=>cases hx;exact zcf _ _
  | list l=>simp [Va.depth] at hd
 | succ d ih=>
  intro x hd I cv hx h1 hb
  cases x with
  | int n=>cases hx;exact zes _ n
  | text s=>cases hx;exact zcf _ _
  | list l=>
   cases hx with
   | list hS hl hr=>
    have hle:=Va.encL_len l
    have hml:=hS.len
    have hb2:(Va.encL l).length≤900000:=by simp only [Va.enc,List.length_cons,List.length_append] at hb;omega
    exact zis hS hl hr (by dsimp only;omega) (fun k y hy=>ih y (JB (l:=l) (by simp only [Va.depth] at hd;omega) hy)) (by simp only [Va.depth] at h1;omega) hb2
theorem zoO {I:Qt}{x:Va}{cv:Vc}(hx:VaR I x cv)(hd:Va.depth x≤16)(hok:Va.ok x)(hb:(Va.enc x).length≤900000):ZA Tryz.prog 168 [.agg (Q7 cv).toArray] I (.int .i64 0):=by
 intro g H w hw
 refine qe Tryz.func168 Tryz.ntmps168 hw ?_
 have hIc:=zzm I
 refine zR ?_
 refine QR rfl rfl rfl (fun b_1=>?_)
 refine zA (Qb ?_)
 refine QH .here (fun I1 hI1 hb1=>?_)
 have hx:=hx.mono hI1;have hIc:=hIc.trans hI1
 have h1:=BxI.of hb1
 refine Qd (Qm (zR ?_))
 refine zV (Qg rfl Zq (fun hg=>by exact BxI.cells (vs:=Q7 cv) h1) rfl) ?_
 refine qcV (vs:=[_]) rfl zlq (zjY _ x (Nat.le_refl _) hx hb) ?_
 refine zO (zN ?_)
 refine zI ?_ ?_<;>intro hc5
 ·
  simp at hc5
 refine Qr (Qd (Qm (zR ?_)))
 refine zV (Qg rfl Zq (fun hg=>by exact BxI.cells (vs:=Q7 cv) h1) rfl) ?_
 refine qcV (vs:=[_]) rfl zjK (zj5 _ x (Nat.le_refl _) hx (by omega) hb) ?_
 refine zC (zN ?_)
 refine zI ?_ ?_<;>intro hc8
 ·
  simp at hc8;omega
 refine Qr (Qd (zR (zA (zN (Qs ?_)))))
 exact Qv rfl rfl (fun w hw=>⟨by rfl,(hw.mono hIc).subL QB⟩)
theorem WY {I:Qt}{x:Va}{cv:Vc}(hx:VaR I x cv)(hd:Va.depth x≤16)(hok:Va.ok x)(hb:(Va.enc x).length≤900000):Vl Tryz.prog 105 [.agg (Q7 cv).toArray] I [] (fun v I' L'=>L'=[]∧∃ a c,v= .tuple #[.slice a (Va.enc x).length c,.int .i64 0]∧Sl I' 1 VO a (Va.enc x).length c (Va.enc x)):=by
 intro g H w hw
 refine qe Tryz.func105 Tryz.ntmps105 hw ?_
 have hIc:=zzm I
 refine zR ?_
 refine QR rfl rfl rfl (fun b_1=>?_)
 refine zA ?_
 refine zA (Qb ?_)
 refine QH .here (fun I1 hI1 hb1=>?_)
 have hx:=hx.mono hI1;have hIc:=hIc.trans hI1
 have h1:=BxI.of hb1
 refine Qd (zR ?_)
 refine zV (Qg rfl Zq (fun hg=>by exact BxI.cells (vs:=Q7 cv) h1) rfl) ?_
 refine qcV (vs:=[_]) rfl zth (zoO hx hd hok hb) ?_
 refine zA (zN (Qm (zR ?_)))
 refine zM ?_
 refine zC (zN ?_)
 refine zI ?_ ?_<;>intro hc8
 ·
  simp at hc8
 refine Qr (Qd (zR ?_))
 refine zV (Qg rfl Zq (fun hg=>by exact BxI.cells (vs:=Q7 cv) h1) rfl) ?_
 refine zpc [_] rfl zkH .nil (zkV _ x (Nat.le_refl _) (fun _ _=>trivial) hx hok hb) ?_
 rintro vv2 I2 L2 hI2 ⟨rfl,a9,c9,rfl,hS9⟩
 have hIc:=hIc.trans hI2
 refine zA ?_
 refine zA (zN (Qs ?_))
 exact Jj rfl rfl rfl (fun w hw=>⟨_,I2,[],rfl,hIc,hw.subL QB,rfl,_,_,rfl,hS9⟩)
end
section
open Go Go.Kn Go.Proofs
set_option maxRecDepth 100000 in
theorem zu5 (I:Qt) (x:Nt):Vl Tryz.prog 102 [Kj x] I [] (fun v I' L'=>L'=[]∧∃ a c,v= .slice a 42 c∧Sl I' 1 Z1 a 42 c (YM x)):=by
 intro g H w hw
 refine qe Tryz.func102 Tryz.ntmps102 hw ?_
 have hIc:=zzm I
 refine zR ?_
 refine QR rfl rfl rfl (fun b_1=>?_)
 refine zA (Qb ?_)
 refine QH .here (fun I1 hI1 hb1=>?_)
 have hIc:=hIc.trans hI1
 have h1:=BxI.of hb1
 refine Qd (zR ?_)
 refine zF Vg ?_
 refine zV (Qg rfl JP (fun hg=>by exact zc2 (BxI.cells (vs:=Q6 x) h1)) rfl) ?_
 refine Qq zeS rfl rfl (fun b_3=>?_)
 refine zh X4 ?_
 refine Qb ?_
 refine QH .here (fun I2 hI2 hb2=>?_)
 have h1:=h1.mono hI2;have hIc:=hIc.trans hI2
 have h3:=BxI.of hb2
 refine Qd (zR ?_)
 refine zF Yo ?_
 refine zV (Qg rfl Vs (fun hg=>by exact zai (BxI.cells (vs:=Q6 x) h1)) rfl) ?_
 refine Qq za9 rfl rfl (fun b_4=>?_)
 refine zh UH ?_
 refine Qb ?_
 refine QH .here (fun I3 hI3 hb3=>?_)
 have h1:=h1.mono hI3;have h3:=h3.mono hI3;have hIc:=hIc.trans hI3
 have h4:=BxI.of hb3
 refine Qd (zR ?_)
 refine zF Yy ?_
 refine zV (Qg rfl ZC (fun hg=>by exact zir (BxI.cells (vs:=WG x.pt) h4)) rfl) ?_
 refine Qq zit rfl rfl (fun b_5=>?_)
 refine zh Je ?_
 refine Qb ?_
 refine QH .here (fun I4 hI4 hb4=>?_)
 have h1:=h1.mono hI4;have h3:=h3.mono hI4;have h4:=h4.mono hI4;have hIc:=hIc.trans hI4
 have h5:=BxI.of hb4
 refine Qd (zR ?_)
 refine zF VX ?_
 refine zV (Qg rfl JR (fun hg=>by exact zdx (BxI.cells (vs:=Q6 x) h1)) rfl) ?_
 refine Qq zfU rfl rfl (fun b_6=>?_)
 refine zh zbI ?_
 refine Qb ?_
 refine QH .here (fun I5 hI5 hb5=>?_)
 have h1:=h1.mono hI5;have h3:=h3.mono hI5;have h4:=h4.mono hI5;have h5:=h5.mono hI5;have hIc:=hIc.trans hI5
 have h6:=BxI.of hb5
 refine Qd (zR ?_)
 refine zF Yl ?_
 refine zV (Qg rfl YC (fun hg=>by exact zdf (BxI.cells (vs:=Q6 x) h1)) rfl) ?_
 refine Qq zaj rfl rfl (fun b_7=>?_)
 refine zh Um ?_
 refine Qb ?_
 refine QH .here (fun I6 hI6 hb6=>?_)
 have h1:=h1.mono hI6;have h3:=h3.mono hI6;have h4:=h4.mono hI6;have h5:=h5.mono hI6;have h6:=h6.mono hI6;have hIc:=hIc.trans hI6
 have h7:=BxI.of hb6
 refine Qd (zR ?_)
 refine zF Y3 ?_
 refine zV (Qc rfl Ql (fun hg=>by exact QA.imm h1.out rfl)) ?_
 refine zF Yw ?_
 refine zV (Qc rfl Ql (fun hg=>by exact QA.imm h3.out rfl)) ?_
 refine zF V0 ?_
 refine zV (Qc rfl Ql (fun hg=>by exact QA.imm h3.out rfl)) ?_
 refine zF YH ?_
 refine zV (Qc rfl Ql (fun hg=>by exact QA.imm h3.out rfl)) ?_
 refine zF UX ?_
 refine zV (Qc rfl Ql (fun hg=>by exact QA.imm h3.out rfl)) ?_
 refine zF Ku ?_
 refine zV (Qc rfl Ql (fun hg=>by exact QA.imm h3.out rfl)) ?_
 refine zF J6 ?_
 refine zV (Qc rfl Ql (fun hg=>by exact QA.imm h3.out rfl)) ?_
 refine zF Js ?_
 refine zF WX ?_
 refine zV (Qc rfl Ql (fun hg=>by exact QA.imm h3.out rfl)) ?_
 refine zF Js ?_
 refine zF Jr ?_
 refine zV (Qc rfl Ql (fun hg=>by exact QA.imm h3.out rfl)) ?_
 refine zF Js ?_
 refine zF JX ?_
 refine zV (Qc rfl Ql (fun hg=>by exact QA.imm h3.out rfl)) ?_
 refine zpb [(0,_),(1,_),(2,_),(3,_),(4,_),(5,_),(6,_),(7,_),(8,_),(9,_)] [Z1 x.kind,Z1 x.lm.no,Z1 x.lm.person,Z1 x.lm.ends,Z1 x.lm.lo,Z1 x.lm.hi,Z1 x.lm.known,Z1 x.lm.ck,Z1 x.lm.cl,Z1 x.lm.cn] Y9 (fun b_42=>?_)
 refine zA ?_
 refine zN (zR ?_)
 refine zM ?_
 refine zF Z2 ?_
 refine zV (Qc rfl Ql (fun hg=>by exact QA.imm h4.out rfl)) ?_
 refine zF Jv ?_
 refine zV (Qc rfl Ql (fun hg=>by exact QA.imm h4.out rfl)) ?_
 refine zF Yn ?_
 refine zV (Qc rfl Ql (fun hg=>by exact QA.imm h4.out rfl)) ?_
 refine zF Ym ?_
 refine zV (Qc rfl Ql (fun hg=>by exact QA.imm h4.out rfl)) ?_
 refine zF Jm ?_
 refine zV (Qc rfl Ql (fun hg=>by exact QA.imm h5.out rfl)) ?_
 refine zF K6 ?_
 refine zV (Qc rfl Ql (fun hg=>by exact QA.imm h5.out rfl)) ?_
 refine zF Uf ?_
 refine zV (Qc rfl Ql (fun hg=>by exact QA.imm h5.out rfl)) ?_
 refine zF Ui ?_
 refine zV (Qc rfl Ql (fun hg=>by exact QA.imm h5.out rfl)) ?_
 refine zF zaE ?_
 refine zV (Qc rfl Ql (fun hg=>by exact QA.imm h5.out rfl)) ?_
 refine zF K9 ?_
 refine zV (Qc rfl Ql (fun hg=>by exact QA.imm h5.out rfl)) ?_
 refine zF K5 ?_
 refine zV (Qc rfl Ql (fun hg=>by exact QA.imm h5.out rfl)) ?_
 refine zF Ug ?_
 refine zV (Qc rfl Ql (fun hg=>by exact QA.imm h5.out rfl)) ?_
 refine zF K4 ?_
 refine zV (Qc rfl Ql (fun hg=>by exact QA.imm h5.out rfl)) ?_
 refine zF Ul ?_
 refine zV (Qc rfl Ql (fun hg=>by exact QA.imm h5.out rfl)) ?_
 refine zF VY ?_
 refine zF YD ?_
 refine zV (Qc rfl Ql (fun hg=>by exact QA.imm h5.out rfl)) ?_
 refine zF VY ?_
 refine zF Y1 ?_
 refine zV (Qc rfl Ql (fun hg=>by exact QA.imm h5.out rfl)) ?_
 refine zF V4 ?_
 refine zF YD ?_
 refine zV (Qc rfl Ql (fun hg=>by exact QA.imm h5.out rfl)) ?_
 refine zF V4 ?_
 refine zF Y1 ?_
 refine zV (Qc rfl Ql (fun hg=>by exact QA.imm h5.out rfl)) ?_
 refine zpb [(0,_),(1,_),(2,_),(3,_),(4,_),(5,_),(6,_),(7,_),(8,_),(9,_),(10,_),(11,_),(12,_),(13,_),(14,_),(15,_),(16,_),(17,_)] [Z1 x.pt.id,Z1 x.pt.kind,Z1 x.pt.sign,Z1 x.pt.field,Z1 x.pt.nw.id,Z1 x.pt.nw.role,Z1 x.pt.nw.bar,Z1 x.pt.nw.mark,Z1 x.pt.nw.kind,Z1 x.pt.nw.side,Z1 x.pt.nw.dir,Z1 x.pt.nw.level,Z1 x.pt.nw.size,Z1 x.pt.nw.wth,Z1 x.pt.nw.fn,Z1 x.pt.nw.fd,Z1 x.pt.nw.tn,Z1 x.pt.nw.td] Y9 (fun b_84=>?_)
 refine zpa (_) (([x.pt.id,x.pt.kind,x.pt.sign,x.pt.field,x.pt.nw.id,x.pt.nw.role,x.pt.nw.bar,x.pt.nw.mark,x.pt.nw.kind,x.pt.nw.side,x.pt.nw.dir,x.pt.nw.level,x.pt.nw.size,x.pt.nw.wth,x.pt.nw.fn,x.pt.nw.fd,x.pt.nw.tn,x.pt.nw.td]:List Int).flatMap Z1) ([(b_42,_)]) rfl rfl Y9 (zyC [x.kind,x.lm.no,x.lm.person,x.lm.ends,x.lm.lo,x.lm.hi,x.lm.known,x.lm.ck,x.lm.cl,x.lm.cn] rfl rfl (by decide)) ⟨rfl,fun _=>rfl,by repeat (first | exact zzk | apply zzj | apply zzl)⟩ (zba [x.pt.id,x.pt.kind,x.pt.sign,x.pt.field,x.pt.nw.id,x.pt.nw.role,x.pt.nw.bar,x.pt.nw.mark,x.pt.nw.kind,x.pt.nw.side,x.pt.nw.dir,x.pt.nw.level,x.pt.nw.size,x.pt.nw.wth,x.pt.nw.fn,x.pt.nw.fd,x.pt.nw.tn,x.pt.nw.td]) ?_
 intro v2 L2 hO2 _;rw [←List.flatMap_append] at hO2
 refine zA ?_
 refine zN (zR ?_)
 refine zM ?_
 refine zF JT ?_
 refine zV (Qc rfl Ql (fun hg=>by exact QA.imm h6.out rfl)) ?_
 refine zF zaA ?_
 refine zV (Qc rfl Ql (fun hg=>by exact QA.imm h6.out rfl)) ?_
 refine zF zay ?_
 refine zV (Qc rfl Ql (fun hg=>by exact QA.imm h6.out rfl)) ?_
 refine zF zav ?_
 refine zV (Qc rfl Ql (fun hg=>by exact QA.imm h6.out rfl)) ?_
 refine zF zaJ ?_
 refine zV (Qc rfl Ql (fun hg=>by exact QA.imm h6.out rfl)) ?_
 refine zpb [(0,_),(1,_),(2,_),(3,_),(4,_)] [Z1 x.ls.no,Z1 x.ls.person,Z1 x.ls.version,Z1 x.ls.at_,Z1 x.ls.known] Y9 (fun b_97=>?_)
 refine zpa (_) (([x.ls.no,x.ls.person,x.ls.version,x.ls.at_,x.ls.known]:List Int).flatMap Z1) (L2) rfl rfl Y9 hO2 ⟨rfl,fun _=>rfl,by repeat (first | exact zzk | apply zzj | apply zzl)⟩ (zba [x.ls.no,x.ls.person,x.ls.version,x.ls.at_,x.ls.known]) ?_
 intro v3 L3 hO3 _;rw [←List.flatMap_append] at hO3
 refine zA ?_
 refine zN (zR ?_)
 refine zM ?_
 refine zF YP ?_
 refine zV (Qc rfl Ql (fun hg=>by exact QA.imm h7.out rfl)) ?_
 refine zF VC ?_
 refine zV (Qc rfl Ql (fun hg=>by exact QA.imm h7.out rfl)) ?_
 refine zF Jw ?_
 refine zV (Qc rfl Ql (fun hg=>by exact QA.imm h7.out rfl)) ?_
 refine zF JS ?_
 refine zV (Qc rfl Ql (fun hg=>by exact QA.imm h7.out rfl)) ?_
 refine zF JU ?_
 refine zV (Qc rfl Ql (fun hg=>by exact QA.imm h7.out rfl)) ?_
 refine zF YZ ?_
 refine zV (Qc rfl Ql (fun hg=>by exact QA.imm h7.out rfl)) ?_
 refine zF JV ?_
 refine zV (Qc rfl Ql (fun hg=>by exact QA.imm h7.out rfl)) ?_
 refine zF Jn ?_
 refine zV (Qc rfl Ql (fun hg=>by exact QA.imm h7.out rfl)) ?_
 refine zF Ys ?_
 refine zV (Qc rfl Ql (fun hg=>by exact QA.imm h7.out rfl)) ?_
 refine zpb [(0,_),(1,_),(2,_),(3,_),(4,_),(5,_),(6,_),(7,_),(8,_)] [Z1 x.rt.no,Z1 x.rt.kind,Z1 x.rt.edition,Z1 x.rt.holder,Z1 x.rt.sign,Z1 x.rt.ends,Z1 x.rt.lo,Z1 x.rt.hi,Z1 x.rt.known] Y9 (fun b_118=>?_)
 refine zpa (_) (([x.rt.no,x.rt.kind,x.rt.edition,x.rt.holder,x.rt.sign,x.rt.ends,x.rt.lo,x.rt.hi,x.rt.known]:List Int).flatMap Z1) (L3) rfl rfl Y9 hO3 ⟨rfl,fun _=>rfl,by repeat (first | exact zzk | apply zzj | apply zzl)⟩ (zba [x.rt.no,x.rt.kind,x.rt.edition,x.rt.holder,x.rt.sign,x.rt.ends,x.rt.lo,x.rt.hi,x.rt.known]) ?_
 intro v4 L4 hO4 _;rw [←List.flatMap_append] at hO4
 refine zA (Qb ?_)
 refine zx4 hO4 YF (fun I7 hI7 af7 cf7 ef7 hZ=>?_)
 subst ef7
 have hIc:=hIc.trans hI7
 refine Qd (Qs ?_)
 exact Qv rfl rfl (fun w hw=>⟨_,I7,[],rfl,hIc,hw.subL QB,rfl,_,_,rfl,hZ⟩)
end
section
open Go Go.Kn Go.Proofs
theorem zrD:Fun Tryz.prog 102:=.of Tryz.func102 (by kernel_rfl) (by kernel_rfl)
theorem zdr:Fun Tryz.prog 103:=.of Tryz.func103 (by kernel_rfl) (by kernel_rfl)
theorem za2:Fun Tryz.prog 104:=.of Tryz.func104 (by kernel_rfl) (by kernel_rfl)
theorem zcX:Fun Tryz.prog 105:=.of Tryz.func105 (by kernel_rfl) (by kernel_rfl)
set_option maxRecDepth 100000 in
theorem X1 {I:Qt} (x:Nt) (hN:Nd I x.pt) (hnn:x.pt.n≤100000) (hok:Va.ok (Kw x)) (hb:(V5 x).length≤900000):Vl Tryz.prog 43 [Kj x] I [] (YQ (V5 x)):=by
 intro g H w hw
 refine qe Tryz.func43 Tryz.ntmps43 hw ?_
 have hIc:=zzm I
 have hnl:x.pt.needs.length=x.pt.n:=hN.len
 refine zR ?_
 refine QR rfl rfl rfl (fun b_1=>?_)
 refine zA (Qb ?_)
 refine QH .here (fun I1 hI1 hb1=>?_)
 have hN:=hN.mono hI1;have hIc:=hIc.trans hI1
 have h1:=BxI.of hb1
 refine Qd (zR ?_)
 refine zV (QK (ps:=[(0,_)]) [_,_,_,_] KH rfl rfl) ?_
 refine Qq YK rfl rfl (fun b_3=>?_)
 refine zh ZD ?_
 refine zN (zR ?_)
 refine zV (Qg rfl Zf (fun hg=>by exact BxI.cells (vs:=Q6 x) h1) rfl) ?_
 refine zpc [_] rfl zrD .nil (zu5 _ x) ?_
 rintro vv2 I2 L2 hI2 ⟨rfl,an,cn,rfl,hNu⟩
 have hN:=hN.mono hI2;have h1:=h1.mono hI2;have hIc:=hIc.trans hI2
 refine zA (zN (Qm (zR ?_)))
 refine zA (zN (Qw ?_))
 refine zU [(1,_),(3,_),(4,_)] (fun T L0 mz E I' loc'=>∃ (k:Nat) (v:Value) (L:Go.Kn.Loc),mz=42-k∧E=(5,.int .i64 k)::T∧I2=I'∧L++[(b_3,.cells #[.int .i64 3,.int .i64 0,.string ⟨#[]⟩,v] 158 (0,0))]=loc'∧k≤42∧Ya 158 4 v k ((((YM x).take k).map vcI).flatMap Q7) L) ?_ (h:=⟨0,_,[],rfl,rfl,rfl,rfl,Nat.zero_le _,Ya.nil⟩)
 rintro mz E I' loc' ⟨k,v,L,rfl,rfl,rfl,rfl,hk,hO⟩
 refine Qm (zR (zM ?_))
 refine zM ?_
 refine zQ ZE ?_
 refine zC (zN ?_)
 refine zI ?_ ?_<;>intro hc16
 ·
  have hlt_k:k<42:=by have h:=hc16;simp at h;omega
  obtain ⟨y,hy⟩:∃ y,(YM x)[k]? =some y:=⟨_,List.getElem?_eq_getElem (by rw [YG];omega)⟩
  refine Qr (Qd (Qm (Qw ?_)))
  have hD:=zzm I2
  refine Zt ?_
  refine QQ I2 [] mixed ?_
  refine zT 0 rfl (Qa rfl QU) hD ?_
  refine zT 2 rfl (Qf rfl) hD ?_
  refine zT 3 rfl (Qf rfl) hD ?_
  refine zT 4 rfl (zX ZE hNu) hD ?_
  refine zT 5 rfl (Qc rfl Ql (fun hg=>by exact zzf hNu hy rfl)) hD ?_
  refine QW 1 6 rfl rfl (by kernel_rfl) ?_ ?_
  ·
   refine zV (Qc rfl Zp (fun hg=>by exact zzi (QA.h0 rfl))) ?_
   refine Qb ?_
   refine zD hD ?_
   refine qd 6 rfl ?_
   refine qcV (vs:=[_]) rfl zdr (zhh _ _) ?_
   refine Qb ?_
   refine zD hD ?_
   refine qd 7 rfl ?_
   refine zpb [(0,_)] [Q7 (vcI y)] Zy (fun b_26=>?_)
   refine Qb ?_
   refine zD hD ?_
   refine qd 8 rfl ?_
   refine zpa (_) (([vcI y]:List Vc).flatMap Q7) (L) rfl rfl Zy hO ⟨rfl,fun _=>rfl,by repeat (first | exact zzk | apply zzj | apply zzl)⟩ (VU [vcI y]) ?_
   intro v2 L2 hO2 _;rw [←List.flatMap_append] at hO2;obtain ⟨a2,c2,rfl⟩:=hO2.shape
   refine Qb ?_
   refine zD hD ?_
   refine zT 9 rfl (Qa rfl QU) hD ?_
   refine qd 10 rfl ?_
   refine Q0 rfl rfl Y2 rfl rfl (by (repeat (first | exact Upd.here | apply Upd.there | apply Qu))) rfl ?_
   refine Qb ?_
   refine zD hD ?_
   refine Qn (by kernel_rfl) ?_
   refine Qx ?_
   refine Qk (Qd (Qi (zM ?_)))
   refine zB ?_
   refine zA (Qb ?_)
   exact zm (h:=⟨42-(k+1),by omega,k+1,_,_,rfl,rfl,rfl,rfl,by omega,by rw [Zh hy,List.map_append];exact hO2⟩)
  refine qcV (vs:=[_]) rfl zdr (zhh _ _) ?_
  refine Qb ?_
  refine zD hD ?_
  refine QW 1 7 rfl rfl (by kernel_rfl) ?_ ?_
  ·
   refine zV (Qc rfl Zp (fun hg=>by exact zzi (QA.h0 rfl))) ?_
   refine Qb ?_
   refine zD hD ?_
   refine qd 7 rfl ?_
   refine zpb [(0,_)] [Q7 (vcI y)] Zy (fun b_26=>?_)
   refine Qb ?_
   refine zD hD ?_
   refine qd 8 rfl ?_
   refine zpa (_) (([vcI y]:List Vc).flatMap Q7) (L) rfl rfl Zy hO ⟨rfl,fun _=>rfl,by repeat (first | exact zzk | apply zzj | apply zzl)⟩ (VU [vcI y]) ?_
   intro v2 L2 hO2 _;rw [←List.flatMap_append] at hO2;obtain ⟨a2,c2,rfl⟩:=hO2.shape
   refine Qb ?_
   refine zD hD ?_
   refine zT 9 rfl (Qa rfl QU) hD ?_
   refine qd 10 rfl ?_
   refine Q0 rfl rfl Y2 rfl rfl (by (repeat (first | exact Upd.here | apply Upd.there | apply Qu))) rfl ?_
   refine Qb ?_
   refine zD hD ?_
   refine Qn (by kernel_rfl) ?_
   refine Qx ?_
   refine Qk (Qd (Qi (zM ?_)))
   refine zB ?_
   refine zA (Qb ?_)
   exact zm (h:=⟨42-(k+1),by omega,k+1,_,_,rfl,rfl,rfl,rfl,by omega,by rw [Zh hy,List.map_append];exact hO2⟩)
  refine zpb [(0,_)] [Q7 (vcI y)] Zy (fun b_26=>?_)
  refine Qb ?_
  refine zD hD ?_
  refine qd 1 rfl ?_
  refine zV (Qc rfl Zp (fun hg=>by (repeat (first | exact zzh rfl | apply zzg | apply zzi)))) ?_
  refine Qb ?_
  refine zD hD ?_
  refine qd 8 rfl ?_
  refine zpa (_) (([vcI y]:List Vc).flatMap Q7) (L) rfl rfl Zy hO ⟨rfl,fun _=>rfl,by repeat (first | exact zzk | apply zzj | apply zzl)⟩ (VU [vcI y]) ?_
  intro v2 L2 hO2 _;rw [←List.flatMap_append] at hO2;obtain ⟨a2,c2,rfl⟩:=hO2.shape
  refine Qb ?_
  refine zD hD ?_
  refine zT 9 rfl (Qa rfl QU) hD ?_
  refine qd 10 rfl ?_
  refine Q0 rfl rfl Y2 rfl rfl (by (repeat (first | exact Upd.here | apply Upd.there | apply Qu))) rfl ?_
  refine Qb ?_
  refine zD hD ?_
  refine Qn (by kernel_rfl) ?_
  refine Qx ?_
  refine Qk (Qd (Qi (zM ?_)))
  refine zB ?_
  refine zA (Qb ?_)
  exact zm (h:=⟨42-(k+1),by omega,k+1,_,_,rfl,rfl,rfl,rfl,by omega,by rw [Zh hy,List.map_append];exact hO2⟩)
 have hge_k:42≤k:=by have h:=hc16;simp at h;omega
 obtain rfl:k=42:=by omega
 have hke:(YM x).take 42=YM x:=rfl
 rw [hke] at hO
 refine Zi (Qo (Qo (Qz (Qd (zR ?_)))))
 refine zV (QK (ps:=[(0,_)]) [_,_,_,_] KH rfl rfl) ?_
 refine Qq YK rfl rfl (fun b_6=>?_)
 refine zh ZD ?_
 refine zN (Qm (zR (zA (zN (Qw ?_)))))
 refine zU [(1,_),(3,_),(6,_)] (fun T L0 mz E I' loc'=>∃ (j:Nat) (vq:Value) (Lq:Go.Kn.Loc),mz=x.pt.n-j∧E=(7,.int .i64 j)::T∧I2=I'∧Lq++((b_6,.cells #[.int .i64 3,.int .i64 0,.string ⟨#[]⟩,vq] 158 (0,0))::(L++[(b_3,.cells #[.int .i64 3,.int .i64 0,.string ⟨#[]⟩,v] 158 (0,0))]))=loc'∧j≤x.pt.n∧Ya 158 4 vq j (((x.pt.needs.take j).map vcI).flatMap Q7) Lq) ?_ (h:=⟨0,_,[],rfl,rfl,rfl,rfl,Nat.zero_le _,Ya.nil⟩)
 rintro mz E I' loc' ⟨j,vq,Lq,rfl,rfl,rfl,rfl,hj,hOq⟩
 refine Qm (zR (zM ?_))
 refine zF Yo ?_
 refine zF ZK ?_
 refine zV (Qc rfl Y5 (fun hg=>by exact QA.imm h1.out rfl)) ?_
 refine zQ ZE ?_
 refine zC (zN ?_)
 refine zI ?_ ?_<;>intro hc35
 ·
  have hlt_j:j<x.pt.n:=by have h:=hc35;simp at h;omega
  obtain ⟨z,hz⟩:∃ y,x.pt.needs[j]? =some y:=⟨_,List.getElem?_eq_getElem (by omega)⟩
  refine Qr (Qd (Qm (Qw ?_)))
  have hD:=zzm I2
  refine Zt ?_
  refine QQ I2 [] mixed ?_
  refine zT 0 rfl (Qa rfl QU) hD ?_
  refine zT 2 rfl (Qa rfl Yo) hD ?_
  refine zT 3 rfl (Qa rfl ZK) hD ?_
  refine zT 4 rfl (Qc rfl Y5 (fun hg=>by exact QA.imm h1.out rfl)) hD ?_
  refine zT 5 rfl (Qf rfl) hD ?_
  refine zT 6 rfl (zX ZE hN) hD ?_
  refine zT 7 rfl (Qc rfl Ql (fun hg=>by exact zzf hN hz rfl)) hD ?_
  refine QW 1 8 rfl rfl (by kernel_rfl) ?_ ?_
  ·
   refine zV (Qc rfl Zp (fun hg=>by exact zzi (QA.h0 rfl))) ?_
   refine Qb ?_
   refine zD hD ?_
   refine qd 8 rfl ?_
   refine qcV (vs:=[_]) rfl zdr (zhh _ _) ?_
   refine Qb ?_
   refine zD hD ?_
   refine qd 9 rfl ?_
   refine zpb [(0,_)] [Q7 (vcI z)] Zy (fun b_47=>?_)
   refine Qb ?_
   refine zD hD ?_
   refine qd 10 rfl ?_
   refine zpa (_) (([vcI z]:List Vc).flatMap Q7) (Lq) rfl rfl Zy hOq ⟨rfl,fun _=>rfl,by repeat (first | exact zzk | apply zzj | apply zzl)⟩ (VU [vcI z]) ?_
   intro v2 L2 hO2 _;rw [←List.flatMap_append] at hO2;obtain ⟨a2,c2,rfl⟩:=hO2.shape
   refine Qb ?_
   refine zD hD ?_
   refine zT 11 rfl (Qa rfl QU) hD ?_
   refine qd 12 rfl ?_
   refine Q0 rfl rfl Y2 rfl rfl (by (repeat (first | exact Upd.here | apply Upd.there | apply Qu))) rfl ?_
   refine Qb ?_
   refine zD hD ?_
   refine Qn (by kernel_rfl) ?_
   refine Qx ?_
   refine Qk (Qd (Qi (zM ?_)))
   refine zB ?_
   refine zA (Qb ?_)
   exact zm (h:=⟨x.pt.n-(j+1),by omega,j+1,_,_,rfl,rfl,rfl,rfl,by omega,by rw [Zh hz,List.map_append];exact hO2⟩)
  refine qcV (vs:=[_]) rfl zdr (zhh _ _) ?_
  refine Qb ?_
  refine zD hD ?_
  refine QW 1 9 rfl rfl (by kernel_rfl) ?_ ?_
  ·
   refine zV (Qc rfl Zp (fun hg=>by exact zzi (QA.h0 rfl))) ?_
   refine Qb ?_
   refine zD hD ?_
   refine qd 9 rfl ?_
   refine zpb [(0,_)] [Q7 (vcI z)] Zy (fun b_47=>?_)
   refine Qb ?_
   refine zD hD ?_
   refine qd 10 rfl ?_
   refine zpa (_) (([vcI z]:List Vc).flatMap Q7) (Lq) rfl rfl Zy hOq ⟨rfl,fun _=>rfl,by repeat (first | exact zzk | apply zzj | apply zzl)⟩ (VU [vcI z]) ?_
   intro v2 L2 hO2 _;rw [←List.flatMap_append] at hO2;obtain ⟨a2,c2,rfl⟩:=hO2.shape
   refine Qb ?_
   refine zD hD ?_
   refine zT 11 rfl (Qa rfl QU) hD ?_
   refine qd 12 rfl ?_
   refine Q0 rfl rfl Y2 rfl rfl (by (repeat (first | exact Upd.here | apply Upd.there | apply Qu))) rfl ?_
   refine Qb ?_
   refine zD hD ?_
   refine Qn (by kernel_rfl) ?_
   refine Qx ?_
   refine Qk (Qd (Qi (zM ?_)))
   refine zB ?_
   refine zA (Qb ?_)
   exact zm (h:=⟨x.pt.n-(j+1),by omega,j+1,_,_,rfl,rfl,rfl,rfl,by omega,by rw [Zh hz,List.map_append];exact hO2⟩)
  refine zpb [(0,_)] [Q7 (vcI z)] Zy (fun b_47=>?_)
  refine Qb ?_
  refine zD hD ?_
  refine qd 1 rfl ?_
  refine zV (Qc rfl Zp (fun hg=>by (repeat (first | exact zzh rfl | apply zzg | apply zzi)))) ?_
  refine Qb ?_
  refine zD hD ?_
  refine qd 10 rfl ?_
  refine zpa (_) (([vcI z]:List Vc).flatMap Q7) (Lq) rfl rfl Zy hOq ⟨rfl,fun _=>rfl,by repeat (first | exact zzk | apply zzj | apply zzl)⟩ (VU [vcI z]) ?_
  intro v2 L2 hO2 _;rw [←List.flatMap_append] at hO2;obtain ⟨a2,c2,rfl⟩:=hO2.shape
  refine Qb ?_
  refine zD hD ?_
  refine zT 11 rfl (Qa rfl QU) hD ?_
  refine qd 12 rfl ?_
  refine Q0 rfl rfl Y2 rfl rfl (by (repeat (first | exact Upd.here | apply Upd.there | apply Qu))) rfl ?_
  refine Qb ?_
  refine zD hD ?_
  refine Qn (by kernel_rfl) ?_
  refine Qx ?_
  refine Qk (Qd (Qi (zM ?_)))
  refine zB ?_
  refine zA (Qb ?_)
  exact zm (h:=⟨x.pt.n-(j+1),by omega,j+1,_,_,rfl,rfl,rfl,rfl,by omega,by rw [Zh hz,List.map_append];exact hO2⟩)
 have hge_j:x.pt.n≤j:=by have h:=hc35;simp at h;omega
 obtain rfl:j=x.pt.n:=by omega
 have hke2:x.pt.needs.take x.pt.n=x.pt.needs:=List.take_of_length_le (by omega)
 rw [hke2] at hOq
 refine Zi (Qo (Qo (Qz (Qd (Qm ?_)))))
 obtain ⟨a7,c7,rfl⟩:=hOq.shape
 refine zx4 hOq Y6 (fun I5 hI5 a6 c6 ef5 hM6=>?_)
 cases ef5
 have h1:=h1.mono hI5;have hIc:=hIc.trans hI5
 refine QH (b:=b_6) (by repeat (first | exact ZR.here | apply ZR.there)) (fun I6 hI6 hb6=>?_)
 have h1:=h1.mono hI6;have hM6:=hM6.mono hI6;have hIc:=hIc.trans hI6
 have h6:=BxI.of hb6
 have hD:=zzm I6
 refine Zt ?_
 refine QQ I6 [] mixed ?_
 refine zT 0 rfl (Qa rfl QU) hD ?_
 refine zT 2 rfl (Qg rfl Zq (fun hg=>by exact BxI.cells (vs:=[_,_,_,_]) h6) rfl) hD ?_
 refine zT 3 rfl (Qa rfl Yl) hD ?_
 refine zT 4 rfl (Qa rfl Jl) hD ?_
 refine zT 5 rfl (Qc rfl VI (fun hg=>by exact QA.imm h1.out rfl)) hD ?_
 refine zT 7 rfl (Qa rfl Yl) hD ?_
 refine zT 8 rfl (Qa rfl Jo) hD ?_
 refine zT 9 rfl (Qc rfl VI (fun hg=>by exact QA.imm h1.out rfl)) hD ?_
 refine QW 1 6 rfl rfl (by kernel_rfl) ?_ ?_
 ·
  refine zV (Qc rfl Zp (fun hg=>by exact zzi (QA.h0 rfl))) ?_
  refine Qb ?_
  refine zD hD ?_
  refine qd 6 rfl ?_
  refine qcV (vs:=[_]) rfl za2 (zaX _ _) ?_
  refine Qb ?_
  refine zD hD ?_
  refine qd 10 rfl ?_
  refine qcV (vs:=[_]) rfl za2 (zaX _ _) ?_
  refine Qb ?_
  refine zD hD ?_
  refine qd 11 rfl ?_
  refine zpb [(0,_),(1,_),(2,_)] [Q7 ⟨3,0,⟨#[]⟩,a7,x.pt.n,c7⟩,Q7 (vcT x.rt.name),Q7 (vcT x.rt.town)] Zy (fun b_61=>?_)
  refine Qb ?_
  refine zD hD ?_
  refine qd 12 rfl ?_
  refine zpa (_) (([⟨3,0,⟨#[]⟩,a7,x.pt.n,c7⟩,vcT x.rt.name,vcT x.rt.town]:List Vc).flatMap Q7) (L) rfl rfl Zy hO ⟨rfl,fun _=>rfl,by repeat (first | exact zzk | apply zzj | apply zzl)⟩ (VU [⟨3,0,⟨#[]⟩,a7,x.pt.n,c7⟩,vcT x.rt.name,vcT x.rt.town]) ?_
  intro v8 L8 hO8 _;rw [←List.flatMap_append] at hO8;obtain ⟨a8,c8,rfl⟩:=hO8.shape
  refine Qb ?_
  refine zD hD ?_
  refine zT 13 rfl (Qa rfl QU) hD ?_
  refine qd 14 rfl ?_
  refine Q0 rfl rfl Y2 rfl rfl (by (repeat (first | exact Upd.here | apply Upd.there | apply Qu))) rfl ?_
  refine Qb ?_
  refine zD hD ?_
  refine Qn (by kernel_rfl) ?_
  refine Qx ?_
  refine Qd (Qm ?_)
  refine zx4 hO8 Y6 (fun I7 hI7 a9 c9 ef7 hM8=>?_)
  cases ef7
  have hM6:=hM6.mono hI7;have hIc:=hIc.trans hI7
  refine Qi ?_
  refine zV (Qg rfl Zq (fun hg=>by exact Cells.g1) rfl) ?_
  refine zpc [_] rfl zcX .nil (WY (x:=Kw x) (cv:=⟨3,0,⟨#[]⟩,_,45,_⟩) (Wn hM6 hM8) (Ju x) hok hb) ?_
  rintro vv8 I8 L8 hI8 ⟨rfl,ae,ce,rfl,hS9⟩
  have hIc:=hIc.trans hI8
  refine zM ?_
  refine zE ?_
  refine zE ?_
  refine zA ?_
  refine zA ?_
  refine zN (zR ?_)
  refine zM ?_
  refine zA (zN (Qs ?_))
  exact Qv rfl rfl (fun w hw=>⟨_,I8,[],rfl,hIc,hw.subL QB,zce hS9 rfl⟩)
 refine qcV (vs:=[_]) rfl za2 (zaX _ _) ?_
 refine Qb ?_
 refine zD hD ?_
 refine QW 1 10 rfl rfl (by kernel_rfl) ?_ ?_
 ·
  refine zV (Qc rfl Zp (fun hg=>by exact zzi (QA.h0 rfl))) ?_
  refine Qb ?_
  refine zD hD ?_
  refine qd 10 rfl ?_
  refine qcV (vs:=[_]) rfl za2 (zaX _ _) ?_
  refine Qb ?_
  refine zD hD ?_
  refine qd 11 rfl ?_
  refine zpb [(0,_),(1,_),(2,_)] [Q7 ⟨3,0,⟨#[]⟩,a7,x.pt.n,c7⟩,Q7 (vcT x.rt.name),Q7 (vcT x.rt.town)] Zy (fun b_61=>?_)
  refine Qb ?_
  refine zD hD ?_
  refine qd 12 rfl ?_
  refine zpa (_) (([⟨3,0,⟨#[]⟩,a7,x.pt.n,c7⟩,vcT x.rt.name,vcT x.rt.town]:List Vc).flatMap Q7) (L) rfl rfl Zy hO ⟨rfl,fun _=>rfl,by repeat (first | exact zzk | apply zzj | apply zzl)⟩ (VU [⟨3,0,⟨#[]⟩,a7,x.pt.n,c7⟩,vcT x.rt.name,vcT x.rt.town]) ?_
  intro v8 L8 hO8 _;rw [←List.flatMap_append] at hO8;obtain ⟨a8,c8,rfl⟩:=hO8.shape
  refine Qb ?_
  refine zD hD ?_
  refine zT 13 rfl (Qa rfl QU) hD ?_
  refine qd 14 rfl ?_
  refine Q0 rfl rfl Y2 rfl rfl (by (repeat (first | exact Upd.here | apply Upd.there | apply Qu))) rfl ?_
  refine Qb ?_
  refine zD hD ?_
  refine Qn (by kernel_rfl) ?_
  refine Qx ?_
  refine Qd (Qm ?_)
  refine zx4 hO8 Y6 (fun I9 hI9 a9 c9 ef9 hM8=>?_)
  cases ef9
  have hM6:=hM6.mono hI9;have hIc:=hIc.trans hI9
  refine Qi ?_
  refine zV (Qg rfl Zq (fun hg=>by exact Cells.g1) rfl) ?_
  refine zpc [_] rfl zcX .nil (WY (x:=Kw x) (cv:=⟨3,0,⟨#[]⟩,_,45,_⟩) (Wn hM6 hM8) (Ju x) hok hb) ?_
  rintro vv10 I10 L10 hI10 ⟨rfl,ae,ce,rfl,hS9⟩
  have hIc:=hIc.trans hI10
  refine zM ?_
  refine zE ?_
  refine zE ?_
  refine zA ?_
  refine zA ?_
  refine zN (zR ?_)
  refine zM ?_
  refine zA (zN (Qs ?_))
  exact Qv rfl rfl (fun w hw=>⟨_,I10,[],rfl,hIc,hw.subL QB,zce hS9 rfl⟩)
 refine qcV (vs:=[_]) rfl za2 (zaX _ _) ?_
 refine Qb ?_
 refine zD hD ?_
 refine QW 1 11 rfl rfl (by kernel_rfl) ?_ ?_
 ·
  refine zV (Qc rfl Zp (fun hg=>by exact zzi (QA.h0 rfl))) ?_
  refine Qb ?_
  refine zD hD ?_
  refine qd 11 rfl ?_
  refine zpb [(0,_),(1,_),(2,_)] [Q7 ⟨3,0,⟨#[]⟩,a7,x.pt.n,c7⟩,Q7 (vcT x.rt.name),Q7 (vcT x.rt.town)] Zy (fun b_61=>?_)
  refine Qb ?_
  refine zD hD ?_
  refine qd 12 rfl ?_
  refine zpa (_) (([⟨3,0,⟨#[]⟩,a7,x.pt.n,c7⟩,vcT x.rt.name,vcT x.rt.town]:List Vc).flatMap Q7) (L) rfl rfl Zy hO ⟨rfl,fun _=>rfl,by repeat (first | exact zzk | apply zzj | apply zzl)⟩ (VU [⟨3,0,⟨#[]⟩,a7,x.pt.n,c7⟩,vcT x.rt.name,vcT x.rt.town]) ?_
  intro v8 L8 hO8 _;rw [←List.flatMap_append] at hO8;obtain ⟨a8,c8,rfl⟩:=hO8.shape
  refine Qb ?_
  refine zD hD ?_
  refine zT 13 rfl (Qa rfl QU) hD ?_
  refine qd 14 rfl ?_
  refine Q0 rfl rfl Y2 rfl rfl (by (repeat (first | exact Upd.here | apply Upd.there | apply Qu))) rfl ?_
  refine Qb ?_
  refine zD hD ?_
  refine Qn (by kernel_rfl) ?_
  refine Qx ?_
  refine Qd (Qm ?_)
  refine zx4 hO8 Y6 (fun I11 hI11 a9 c9 ef11 hM8=>?_)
  cases ef11
  have hM6:=hM6.mono hI11;have hIc:=hIc.trans hI11
  refine Qi ?_
  refine zV (Qg rfl Zq (fun hg=>by exact Cells.g1) rfl) ?_
  refine zpc [_] rfl zcX .nil (WY (x:=Kw x) (cv:=⟨3,0,⟨#[]⟩,_,45,_⟩) (Wn hM6 hM8) (Ju x) hok hb) ?_
  rintro vv12 I12 L12 hI12 ⟨rfl,ae,ce,rfl,hS9⟩
  have hIc:=hIc.trans hI12
  refine zM ?_
  refine zE ?_
  refine zE ?_
  refine zA ?_
  refine zA ?_
  refine zN (zR ?_)
  refine zM ?_
  refine zA (zN (Qs ?_))
  exact Qv rfl rfl (fun w hw=>⟨_,I12,[],rfl,hIc,hw.subL QB,zce hS9 rfl⟩)
 refine zpb [(0,_),(1,_),(2,_)] [Q7 ⟨3,0,⟨#[]⟩,a7,x.pt.n,c7⟩,Q7 (vcT x.rt.name),Q7 (vcT x.rt.town)] Zy (fun b_61=>?_)
 refine Qb ?_
 refine zD hD ?_
 refine qd 1 rfl ?_
 refine zV (Qc rfl Zp (fun hg=>by (repeat (first | exact zzh rfl | apply zzg | apply zzi)))) ?_
 refine Qb ?_
 refine zD hD ?_
 refine qd 12 rfl ?_
 refine zpa (_) (([⟨3,0,⟨#[]⟩,a7,x.pt.n,c7⟩,vcT x.rt.name,vcT x.rt.town]:List Vc).flatMap Q7) (L) rfl rfl Zy hO ⟨rfl,fun _=>rfl,by repeat (first | exact zzk | apply zzj | apply zzl)⟩ (VU [⟨3,0,⟨#[]⟩,a7,x.pt.n,c7⟩,vcT x.rt.name,vcT x.rt.town]) ?_
 intro v8 L8 hO8 _;rw [←List.flatMap_append] at hO8;obtain ⟨a8,c8,rfl⟩:=hO8.shape
 refine Qb ?_
 refine zD hD ?_
 refine zT 13 rfl (Qa rfl QU) hD ?_
 refine qd 14 rfl ?_
 refine Q0 rfl rfl Y2 rfl rfl (by (repeat (first | exact Upd.here | apply Upd.there | apply Qu))) rfl ?_
 refine Qb ?_
 refine zD hD ?_
 refine Qn (by kernel_rfl) ?_
 refine Qx ?_
 refine Qd (Qm ?_)
 refine zx4 hO8 Y6 (fun I13 hI13 a9 c9 ef13 hM8=>?_)
 cases ef13
 have hM6:=hM6.mono hI13;have hIc:=hIc.trans hI13
 refine Qi ?_
 refine zV (Qg rfl Zq (fun hg=>by exact Cells.g1) rfl) ?_
 refine zpc [_] rfl zcX .nil (WY (x:=Kw x) (cv:=⟨3,0,⟨#[]⟩,_,45,_⟩) (Wn hM6 hM8) (Ju x) hok hb) ?_
 rintro vv14 I14 L14 hI14 ⟨rfl,ae,ce,rfl,hS9⟩
 have hIc:=hIc.trans hI14
 refine zM ?_
 refine zE ?_
 refine zE ?_
 refine zA ?_
 refine zA ?_
 refine zN (zR ?_)
 refine zM ?_
 refine zA (zN (Qs ?_))
 exact Qv rfl rfl (fun w hw=>⟨_,I14,[],rfl,hIc,hw.subL QB,zce hS9 rfl⟩)
end
section
open Go Go.Kn Go.Proofs
def zp6 (no ver:Int):Nt:=⟨3,Vt,Jh,⟨no,2,ver,40,8⟩,S.zeroR⟩
def Yi (no of:Int):Nt:=⟨1,⟨no,1,of,0,9,0,4,0,0⟩,Jh,L.zeroL,S.zeroR⟩
abbrev n35:Nt:=zp6 3 5
def zfg (m:Nat):Rd:=⟨List.replicate m [],[],[]⟩
theorem zlS {m:Nat}(hm:1≤m∧m≤24):Kn m (zfg m) []:=
 ⟨hm,by simp [zfg],rfl,fun xs hx=>(by rw [List.eq_of_mem_replicate hx];rfl),fun xs hx y hy=>(by rw [List.eq_of_mem_replicate hx] at hy;cases hy),fun p hp=>(by cases hp),fun t ht=>(by cases ht)⟩
theorem zkE {x:Nt}(h:(YM x).all (fun y=>decide (-1000≤y)&&decide (y≤1000))=true)(hn:x.pt.needs=[]):NtW x:=by
 refine ⟨fun y hy=>?_,fun y hy=>by rw [hn] at hy;cases hy⟩
 have:=List.all_eq_true.1 h y hy
 rw [Bool.and_eq_true,decide_eq_true_eq,decide_eq_true_eq] at this
 omega
theorem zm8:NtW n35:=zkE (by decide) rfl
theorem zgj (I:Qt):Nd I n35.pt:=Sl.nil
theorem zns:QP n35=true:=by kernel_rfl
theorem X0:TkN n35:=by
 obtain ⟨h1,h2⟩:=zdA zm8 rfl zns
 exact ⟨h1,zns,h2⟩
def e35:Ev:=⟨1,1,0,0,n35⟩
def eT0:Ev:=⟨1,0,0,0,zet⟩
def eD0:Ev:=⟨3,0,0,0,zet⟩
def rr1:Rd:=⟨[[],[n35]],[pkN 1 0 n35],[]⟩
def rr2:Rd:=⟨[[n35],[n35]],[],[]⟩
theorem zc1:zeY (zfg 2)=0:=(zlS (m:=2) (by decide)).chk (by decide)
theorem zxe:doF (zfg 2) (YR e35)=(0,rr1):=by
 rw [zbR zc1,zry rfl]
 have h:QP (YR e35).note=true:=zns
 unfold Uo
 rw [if_pos (by kernel_rfl),if_pos h]
 rfl
theorem zy2:doF (zfg 2) (YR eT0)=(570,zeroR):=by
 rw [zbR zc1,zry rfl]
 have h:QP (YR eT0).note=false:=by kernel_rfl
 unfold Uo
 rw [if_pos (by kernel_rfl),h]
 rfl
theorem zyT:doF (zfg 2) (YR eD0)=(1,zeroR):=by
 rw [zbR zc1,ztt rfl]
 have h:atE (zfg 2).qs (zfg 2).ks (YR eD0).at_=1:=by kernel_rfl
 unfold zb3
 rw [h,if_pos (by decide)]
theorem zjb:Kn 2 rr1 [n35]:=by
 have h:=((zlS (m:=2) (by decide)).step (x:=e35) (by decide) (fun _ _=>X0) zxe).1
 exact h
theorem zyx:doF rr1 (YR eD0)=(0,rr2):=by
 have hn:=zjb.net (by decide)
 rw [zbR (zjb.chk (by decide)),ztt rfl]
 obtain ⟨h1,h2⟩:=zyv (qs:=rr1.qs) (ks:=rr1.ks) (i:=0) (x:=pkN 1 0 n35) (by rw [hn];rfl) (by kernel_rfl) rfl
 have e1:atE rr1.qs rr1.ks (YR eD0).at_=0:=h1
 have e2:Jb rr1.qs rr1.ks (YR eD0).at_=pkN 1 0 n35:=(zgy (qs:=rr1.qs)).trans h2
 have e3:okN (pkN 1 0 n35).data=some n35:=zda X0
 unfold zb3
 rw [e1,e2,if_neg (by decide),if_neg (by decide),e3]
 rfl
theorem zuv:Kn 2 rr2 [n35]:=(zjb.step (x:=eD0) (by decide) (fun h=>absurd h (by decide)) zyx).1
theorem zrZ:zeY rr2=0:=zuv.chk (by decide)
/-! ### Notes that are the same but for their heads -/
theorem zru {I:Qt}{x y:Nt}(hx:Nd I x.pt)(hy:Nd I y.pt):smN x y=true↔Yr x=Yr y:=by
 have l1:x.pt.needs.length=x.pt.n:=hx.len
 have l2:y.pt.needs.length=y.pt.n:=hy.len
 obtain ⟨k,lm,⟨i,kd,s,fd,nw,a,n,c,nd⟩,ls,rt⟩:=x
 obtain ⟨k',lm',⟨i',kd',s',fd',nw',a',n',c',nd'⟩,ls',rt'⟩:=y
 dsimp only at l1 l2
 subst l1;subst l2
 unfold smN smP smC Yr
 simp only [Bool.and_eq_true,beq_iff_eq,zlb,L.lsEq_iff,S.rtEq_iff,Bool.not_eq_true',Bool.or_eq_false_iff,bne_eq_false_iff_eq,decide_eq_true_eq,Bool.not_eq_false',zaC,Nt.mk.injEq,Pt.mk.injEq]
 constructor
 ·
  rintro ⟨⟨⟨⟨h1,h2⟩,⟨⟨⟨⟨⟨h3,h4⟩,h5⟩,h6⟩,h7⟩,_⟩,h9⟩,h10⟩,h11⟩
  subst h9
  exact ⟨h1,h2,⟨h3,h4,h5,h6,h7,trivial,rfl,trivial,rfl⟩,h10,h11⟩
 ·
  rintro ⟨h1,h2,⟨h3,h4,h5,h6,h7,_,_,_,h9⟩,h10,h11⟩
  subst h9
  exact ⟨⟨⟨⟨h1,h2⟩,⟨⟨⟨⟨⟨h3,h4⟩,h5⟩,h6⟩,h7⟩,rfl⟩,rfl⟩,h10⟩,h11⟩
theorem zfz {I:Qt}:∀ {xs ys:List Nt},(∀ x∈xs,Nd I x.pt)→(∀ y∈ys,Nd I y.pt)→(smL xs ys=true↔xs.map Yr=ys.map Yr)
 | [],[],_,_=>by simp [smL]
 | [],_::_,_,_=>by simp [smL]
 | _::_,[],_,_=>by simp [smL]
 | x::xs,y::ys,hx,hy=>by
  rw [smL,Bool.and_eq_true,zru (hx x (List.mem_cons_self ..)) (hy y (List.mem_cons_self ..)),zfz (fun z hz=>hx z (List.mem_cons_of_mem _ hz)) (fun z hz=>hy z (List.mem_cons_of_mem _ hz))]
  simp
theorem znx {α:Type}{num:Nt→Int}{prt:Nt→α}{kind:Int}{chk:List α→Int}{d:α}(h1:∀ x,num (Yr x)=num x)(h2:∀ x,prt (Yr x)=prt x)(xs:List Nt):zeR num prt kind chk d (xs.map Yr)=zeR num prt kind chk d xs:=by
 have e:Yj num prt kind (xs.map Yr)=Yj num prt kind xs:=by
  unfold Yj
  rw [List.foldl_map]
  congr 1
  funext m x
  unfold zbq
  rw [h1,h2];rfl
 unfold zeR
 rw [e]
theorem ztf {xs:List Nt}(h:xs.map Yr=[n35]):wLs xs=[n35.ls]:=by
 have e:=znx (num:=fun x=>x.ls.no) (prt:=fun x=>x.ls) (kind:=3) (chk:=L.chk) (d:=L.zeroL) (fun _=>rfl) (fun _=>rfl) xs
 unfold wLs
 rw [←e,h]
 unfold zeR
 have e1:Yj (fun x=>x.ls.no) (fun x=>x.ls) 3 [n35]=[(3,n35.ls)]:=by kernel_rfl
 rw [e1]
 have e2:zb7 (([(3,n35.ls)]:List (Int×L.Ls)).map (·.1))=[3]:=by simp [zb7]
 rw [e2]
 rfl
/-! ### A world of limits -/
def hL:List Nt:=[Yi 2 0,Yi 4 4,Yi 5 3]
theorem zms {no of:Int}(h1:0≤no∧no≤100)(h2:0≤of∧of≤100):NtW (Yi no of):=by
 refine ⟨fun y hy=>?_,fun y hy=>by cases hy⟩
 simp only [YM,Yi,Jh,L.zeroL,S.zeroR,Jz,List.mem_cons,List.not_mem_nil,or_false] at hy
 omega
theorem zji (I:Qt){x:Nt}(hx:x∈hL):NtM I x∧QP x=true:=by
 simp only [hL,List.mem_cons,List.not_mem_nil,or_false] at hx
 rcases hx with rfl | rfl | rfl
 ·
  have h:QP (Yi 2 0)=true:=by kernel_rfl
  exact ⟨zdV (zms (by decide) (by decide)) Sl.nil h,h⟩
 ·
  have h:QP (Yi 4 4)=true:=by kernel_rfl
  exact ⟨zdV (zms (by decide) (by decide)) Sl.nil h,h⟩
 ·
  have h:QP (Yi 5 3)=true:=by kernel_rfl
  exact ⟨zdV (zms (by decide) (by decide)) Sl.nil h,h⟩
theorem zvy:wLm hL=[(Yi 2 0).lm,(Yi 5 3).lm]:=by
 unfold wLm zeR
 have e1:Yj (fun x=>x.lm.no) (fun x=>x.lm) 1 hL=[(2,(Yi 2 0).lm),(4,(Yi 4 4).lm),(5,(Yi 5 3).lm)]:=by kernel_rfl
 rw [e1]
 have e2:zb7 (([(2,(Yi 2 0).lm),(4,(Yi 4 4).lm),(5,(Yi 5 3).lm)]:List (Int×Lm)).map (·.1))=[2,4,5]:=by
  unfold zb7
  exact List.mergeSort_of_pairwise (by simp)
 rw [e2]
 rfl
end
section
open Go Go.Kn Go.Proofs
theorem zcn (x y:Nt):Vh x y=Lib.compareBytes ((V5 x).map UInt8.ofNat) ((V5 y).map UInt8.ofNat):=by
 unfold Vh zxi zal U8
 simp
def hB (a b:Nat):List Nat:=[3,45,1,2,1,a,1,2,1,b,1,0,1,18,1,0,1,8,1,0,1,0]++(List.replicate 32 [1,0]).flatten++[3,0,2,0,2,0]
theorem zaD (no of:Nat)(h1:no<64)(h2:of<64):V5 (Yi no of)=hB (2*no) (2*of):=by
 have e1:zz (no:Int)=2*no:=by unfold zz;rw [if_pos (by omega)];omega
 have e2:zz (of:Int)=2*of:=by unfold zz;rw [if_pos (by omega)];omega
 have z0:zz 0=0:=by decide
 have z1:zz 1=2:=by decide
 have z4:zz 4=8:=by decide
 have z9:zz 9=18:=by decide
 have n0:JL 0=[0]:=Vf (by decide)
 have n2:JL 2=[2]:=Vf (by decide)
 have n8:JL 8=[8]:=Vf (by decide)
 have n18:JL 18=[18]:=Vf (by decide)
 have n45:JL 45=[45]:=Vf (by decide)
 have na:JL (2*no)=[2*no]:=Vf (by omega)
 have nb:JL (2*of)=[2*of]:=Vf (by omega)
 have hbt:K1 (⟨#[]⟩:ByteArray)=[]:=rfl
 unfold V5 Kw
 simp only [YM,Yi,Jh,Jz,L.zeroL,S.zeroR,hbt,List.map_cons,List.map_nil,List.cons_append,List.nil_append,Va.enc,Va.encL,List.length_cons,List.length_nil,Nat.zero_add,Nat.reduceAdd,e1,e2,z0,z1,z4,z9,n0,n2,n8,n18,n45,na,nb,List.append_nil]
 rfl
theorem zpn:Vh (Yi 2 0) (Yi 4 4)<0:=by
 rw [zcn,show Yi 2 0=Yi ((2:Nat):Int) ((0:Nat):Int) from rfl,show Yi 4 4=Yi ((4:Nat):Int) ((4:Nat):Int) from rfl,zaD 2 0 (by decide) (by decide),zaD 4 4 (by decide) (by decide)]
 decide
theorem zpN:Vh (Yi 4 4) (Yi 5 3)<0:=by
 rw [zcn,show Yi 4 4=Yi ((4:Nat):Int) ((4:Nat):Int) from rfl,show Yi 5 3=Yi ((5:Nat):Int) ((3:Nat):Int) from rfl,zaD 4 4 (by decide) (by decide),zaD 5 3 (by decide) (by decide)]
 decide
theorem zau {x:Nt}{xs:List Nt}(h:zdI xs)(hx:∀ y∈xs,Vh x y<0):zdI (x::xs):=by
 intro k l u v hkl hu hv
 cases l with
 | zero=>omega
 | succ l=>
  cases k with
  | zero=>
   simp only [List.getElem?_cons_zero,Option.some.injEq] at hu
   subst hu
   exact hx v (List.mem_of_getElem? (by simpa using hv))
  | succ k=>exact h k l u v (by omega) (by simpa using hu) (by simpa using hv)
theorem zjX:zdI []:=fun k l x y _ hx=>by simp at hx
theorem zo7:ZG hL=true:=by
 have h3:zdI hL:=zau (zau (zau zjX (fun y hy=>by cases hy)) (fun y hy=>by rw [List.mem_singleton.1 hy];exact zpN)) fun y hy=>by
  simp only [List.mem_cons,List.not_mem_nil,or_false] at hy
  rcases hy with rfl | rfl
  ·
   exact zpn
  ·
   exact Jf zpn zpN
 exact Uu h3 (fun x hx=>(zji (fun _=>none) hx).2) (by decide)
theorem zfX {xs:List Nt}{y:Nt}(h:xs.map Yr=[y]):∃ x,xs=[x]∧Yr x=y:=by
 cases xs with
 | nil=>cases h
 | cons x l=>
  cases l with
  | nil=>exact ⟨x,rfl,List.head_eq_of_cons_eq h⟩
  | cons z l=>
   have:=congrArg List.length h
   simp at this
theorem zec {xs:List Nt}(h:xs.map Yr=[n35]){I:Qt}(hN:∀ x∈xs,Nd I x.pt):ZG xs=true:=by
 obtain ⟨x,rfl,e⟩:=zfX h
 have hn:Sl I 1 Z1 x.pt.a x.pt.n x.pt.c x.pt.needs:=hN x (List.mem_singleton.2 rfl)
 have hf:QP x=true:=by rw [←VL hn.len.symm,e];exact zns
 exact Uu (zau zjX fun y hy=>by cases hy) (fun y hy=>by rw [List.mem_singleton.1 hy];exact hf) (by simp)
theorem zrf:okN []=none:=by kernel_rfl
theorem ztV {I:Qt}{rs:List Hy}{a:Option Addr}{m c:Nat}{zs:List Nt}(h:LdZ I rs a m c zs)(hr:rs≠[])(hb:∀ r∈rs,r.bytes=V5 n35):zs.map Yr=[n35]:=by
 have hz:∀ x∈zs,Yr x=n35:=fun x hx=>by
  obtain ⟨_,r,hr2,e⟩:=h.frm x hx
  rw [hb r hr2,zda X0] at e
  exact (Option.some.inj e).symm
 match zs,h,hz with
 | [],h,_=>
  obtain ⟨r,l,rfl⟩:=List.exists_cons_of_ne_nil hr
  obtain ⟨x,hx,_⟩:=h.mem r (List.mem_cons_self ..)
  cases hx
 | [x],_,hz=>rw [List.map_singleton,hz x (List.mem_singleton.2 rfl)]
 | x::y::l,h,hz=>
  have h1:=h.srt 0 1 x y (by decide) rfl rfl
  have e1:=hz x (List.mem_cons_self ..)
  have e2:=hz y (by simp)
  rw [←zaM,e1,e2,KW] at h1
  omega
def zyF (n:Int)(v:Value)(I':Qt)(L':Go.Kn.Loc):Prop:=L'=[]∧∃ vr,v= .tuple #[vr,.int .i64 (if (decide (n<1)||decide (n>24))=true then 1 else 0)]∧RmV I' vr (if (decide (n<1)||decide (n>24))=true then zeroR else zfg n.toNat)
theorem ztz {I:Qt}{b m t:Nat}(hm:m≤maxLen)(hb:I b=some (.cells (List.replicate m (Value.slice none 0 0)).toArray t (0,0))):RmV I (.agg #[.slice (some ⟨b,0,none⟩) m m,.slice none 0 0,.slice none 0 0]) (zfg m):=by
 refine ⟨_,_,_,_,_,_,_,_,_,List.replicate m ⟨none,0,0,[]⟩,[],rfl,⟨⟨by simp,Nat.le_refl _,fun _=>rfl,fun k x hx j u hu=>?_⟩,fun x hx=>?_,.nil,fun _ h=>(by cases h),.nil⟩,?_⟩
 ·
  have hj:j=0:=by have:=(List.getElem?_eq_some_iff.1 hu).1;simp [Xq] at this;omega
  subst hj
  have hk:=(List.getElem?_eq_some_iff.1 hx).1
  rw [List.length_replicate] at hk
  have ex:x=⟨none,0,0,[]⟩:=List.eq_of_mem_replicate (List.mem_of_getElem? hx)
  subst ex
  have hu:u= .slice none 0 0:=by simpa [Xq] using hu.symm
  subst hu
  refine QA.imm hb ?_
  show ziB _ (0+k*1+0)=_
  rw [Nat.zero_add,Nat.mul_one,Nat.add_zero,Jg]
  simp [hk]
 ·
  rw [List.eq_of_mem_replicate hx]
  exact ⟨.nil,fun _ h=>(by cases h),fun _ h=>(by cases h)⟩
 ·
  simp [VN,zfg,dtP]
theorem zrG {I:Qt}{pa qa aa:Option Addr}{pn pc qn qc an ac:Nat}{ps:List Pe}{qs:List Pk}{ks:List (Int×Int)}{r:Rd}(_hR:RmP I pa pn pc qa qn qc aa an ac ps qs ks)(e:VN ps qs ks=r){i:Nat}{xs:List Nt}(hi:r.ps[i]? =some xs):∃ pe,ps[i]? =some pe∧pe.notes.map Yr=xs:=by
 subst e
 simp only [VN,dtP,List.getElem?_map] at hi
 cases h:ps[i]? with
 | none=>rw [h] at hi;cases hi
 | some pe=>rw [h] at hi;exact ⟨pe,rfl,Option.some.inj hi⟩
theorem Wm {I:Qt}{pa qa aa:Option Addr}{pn pc qn qc an ac:Nat}{ps:List Pe}{qs:List Pk}{ks:List (Int×Int)}{r:Rd}(hR:RmP I pa pn pc qa qn qc aa an ac ps qs ks)(e:VN ps qs ks=r):pn=r.ps.length∧qn=r.qs.length∧ks=r.ks:=by
 subst e
 exact ⟨by rw [←hR.pe.len];exact (zcP ps).symm,by rw [←hR.q.len];simp [VN],rfl⟩
theorem zyc {I:Qt}{pa qa aa:Option Addr}{pn pc qn qc an ac:Nat}{ps:List Pe}{qs:List Pk}{ks:List (Int×Int)}{r:Rd}(_hR:RmP I pa pn pc qa qn qc aa an ac ps qs ks)(e:VN ps qs ks=r){i:Nat}{p:Pk}(hi:r.qs[i]? =some p):∃ q,qs[i]? =some q∧Vv q=p:=by
 subst e
 simp only [VN,List.getElem?_map] at hi
 cases h:qs[i]? with
 | none=>rw [h] at hi;cases hi
 | some q=>rw [h] at hi;exact ⟨q,rfl,Option.some.inj hi⟩
structure SmR (r:Rd):Prop where
 p:r.ps.length≤24
 nn:∀ xs∈r.ps,xs.length≤1000
 q:r.qs.length≤3000
 dl:∀ p∈r.qs,p.data.length≤2000
 k:r.ks.length≤100
theorem SmR.use {I:Qt}{pa qa aa:Option Addr}{pn pc qn qc an ac:Nat}{ps:List Pe}{qs:List Pk}{ks:List (Int×Int)}(hR:RmP I pa pn pc qa qn qc aa an ac ps qs ks)(h:SmR (VN ps qs ks)):pn≤100000∧qn≤100000∧an≤100000∧(∀ x∈ps,x.n≤100000)∧(∀ q∈qs,q.n≤100000)∧(qn+24≤4096∧∀ pe∈ps,qn+pe.n≤4096):=by
 obtain ⟨h1,h2,_⟩:=Wm hR rfl
 have hp:=h.p;have hq:=h.q;have hk:=h.k
 have hkl:=hR.k.len
 have hn:∀ x∈ps,x.n≤1000:=fun x hx=>by
  have h3:=h.nn (x.notes.map Yr) (List.mem_map.2 ⟨x,hx,rfl⟩)
  have:=(hR.nt x hx).sl.len
  rw [List.length_map] at h3;omega
 refine ⟨by omega,by omega,?_,fun x hx=>by have:=hn x hx;omega,fun q hq2=>?_,by omega,fun pe hpe=>by have:=hn pe hpe;omega⟩
 ·
  have:(VN ps qs ks).ks.length=ks.length:=rfl
  omega
 ·
  have h3:=h.dl (Vv q) (List.mem_map.2 ⟨q,hq2,rfl⟩)
  have:=(hR.pk q hq2).sl.len
  have e:(Vv q).data=q.data:=rfl
  rw [e] at h3;omega
theorem zbo {m:Nat}(hm:m≤24):SmR (zfg m):=⟨by simp [zfg];exact hm,fun xs hx=>(by rw [List.eq_of_mem_replicate hx];exact Nat.zero_le _),by simp [zfg],fun p hp=>(by cases hp),by simp [zfg]⟩
theorem zwI:SmR rr1:=⟨by decide,fun xs hx=>by
  simp only [rr1,List.mem_cons,List.not_mem_nil,or_false] at hx
  rcases hx with rfl | rfl<;>simp,by decide,fun p hp=>(by
  rw [List.mem_singleton.1 (show p∈[pkN 1 0 n35] from hp)];exact X0.2.2),by decide⟩
theorem ztX:SmR rr2:=⟨by decide,fun xs hx=>by
  simp only [rr2,List.mem_cons,List.not_mem_nil,or_false] at hx
  rcases hx with rfl | rfl<;>simp,by decide,fun p hp=>(by cases hp),by decide⟩
theorem ztD:SmR zeroR:=⟨by decide,fun xs hx=>(by cases hx),by decide,fun p hp=>(by cases hp),by decide⟩
theorem zlo {xs:List Nt}{v:Value}{I':Qt}{L':Go.Kn.Loc}(h:zym xs v I' L')(hv:ZG xs=true):L'=[]∧∃ a1 n1 c1 a2 n2 c2 a3 n3 c3 a4 n4 c4,v= .tuple #[.slice a1 n1 c1,.slice a2 n2 c2,.slice a3 n3 c3,.slice a4 n4 c4,.int .i64 0]∧Sl I' 9 Zl a1 n1 c1 (wLm xs)∧Sl I' 5 L.encL a2 n2 c2 (wLs xs)∧SlP I' a3 n3 c3 (wPt xs)∧Sl I' 11 S.encR a4 n4 c4 (wRt xs):=by
 rcases h.2 with ⟨_,h2⟩ | ⟨h1,_⟩
 ·
  exact ⟨h.1,h2⟩
 ·
  rw [hv] at h1;cases h1
theorem zkG {xs:List Nt}{v:Value}{I':Qt}{L':Go.Kn.Loc}(h:zyr xs v I' L')(hv:ZG xs=true):L'=[]∧∃ a n c rs,v= .tuple #[.slice a n c,.int .i64 0]∧zkZ I' a n c rs∧rs.map (·.bytes)=xs.map V5:=by
 rcases h.2 with ⟨_,h2⟩ | ⟨h1,_⟩
 ·
  exact ⟨h.1,h2⟩
 ·
  rw [hv] at h1;cases h1
theorem zmG {rs:List Hy}{v:Value}{I':Qt}{L':Go.Kn.Loc}(h:LdQ rs v I' L')(hl:rs.length≤4096)(hn:∀ r∈rs,okN r.bytes≠none):L'=[]∧∃ a m c zs,v= .tuple #[.agg #[.slice a m c],.int .i64 0]∧LdZ I' rs a m c zs:=by
 rcases h.2 with ⟨h1,_⟩ | ⟨_,⟨r,h1,h2⟩,_⟩ | ⟨_,h2⟩
 ·
  omega
 ·
  exact absurd h2 (hn r h1)
 ·
  exact ⟨h.1,h2⟩
theorem zxG {rs:List Hy}{v:Value}{I':Qt}{L':Go.Kn.Loc}(h:LdQ rs v I' L')(hl:rs.length≤4096)(hn:∃ r∈rs,okN r.bytes=none):L'=[]∧v= .tuple #[.agg #[.slice none 0 0],.int .i64 570]:=by
 rcases h.2 with ⟨h1,_⟩ | ⟨_,_,h2⟩ | ⟨_,a,m,c,zs,_,h2⟩
 ·
  omega
 ·
  exact ⟨h.1,h2⟩
 ·
  obtain ⟨r,hr,e⟩:=hn
  obtain ⟨x,_,e2⟩:=h2.mem r hr
  rw [e] at e2;cases e2
theorem zio (s:ByteArray):Kr s s=true:=za4.2 rfl
theorem zoP {I:Qt}:RmP I none 0 0 none 0 0 none 0 0 [] [] []:=⟨.nil,fun _ h=>(by cases h),.nil,fun _ h=>(by cases h),.nil⟩
theorem znE:zeY zeroR=570:=by kernel_rfl
theorem zuy {I:Qt}{a:Option Addr}{n c:Nat}{xs:List Nt}(h:U7 I a n c xs)(e:xs.map Yr=[]):n=0:=by
 have:=h.sl.len
 have h2:=congrArg List.length e
 rw [List.length_map] at h2
 rw [←this,h2];rfl
theorem zrt {I:Qt}{xs:List Nt}(hN:∀ x∈xs,Nd I x.pt)(e:xs.map Yr=[n35]):smL xs [n35]=true:=
 (zfz hN (fun y hy=>by rw [List.mem_singleton.1 hy];exact Sl.nil)).2 e
theorem zjW {I:Qt}{xs:List Nt}(hN:∀ x∈xs,Nd I x.pt)(e:xs.map Yr=[n35]):∀ x∈xs,x.pt.n≤100000:=fun x hx=>by
 obtain ⟨y,rfl,e2⟩:=zfX e
 rw [List.mem_singleton.1 hx]
 have h:Sl I 1 Z1 y.pt.a y.pt.n y.pt.c y.pt.needs:=hN y (List.mem_singleton.2 rfl)
 have h3:y.pt.needs.length=(Yr y).pt.n:=rfl
 rw [e2] at h3
 have:=h.len
 have:(n35.pt.n:Nat)=0:=rfl
 omega
theorem zto {I:Qt}{a:Option Addr}{n c:Nat}{rs:List Hy}{xs:List Nt}(h:zkZ I a n c rs)(hb:rs.map (·.bytes)=xs.map V5)(hx:xs.map Yr=[n35]):rs.length=1∧(∀ r∈rs,r.bytes=V5 n35)∧∀ r∈rs,r.n≤100000:=by
 obtain ⟨x,rfl,e⟩:=zfX hx
 have em:V5 x=V5 n35:=by rw [←e];rfl
 have hl:=congrArg List.length hb
 rw [List.length_map,List.length_map] at hl
 have hr:∀ r∈rs,r.bytes=V5 n35:=fun r hr=>by
  have h1:r.bytes∈rs.map (·.bytes):=List.mem_map.2 ⟨r,hr,rfl⟩
  rw [hb,List.map_singleton,List.mem_singleton,em] at h1;exact h1
 refine ⟨hl,hr,fun r h2=>?_⟩
 have h3:=(h.m r h2).sl.len
 rw [hr r h2] at h3
 have:=X0.2.2
 omega
end
section
open Go Go.Kn Go.Proofs
theorem zpX:PlT Tryz.prog 45 #[(0,1),(1,9),(10,19),(29,5),(34,11)] (.agg #[(.int .i64 0),(.int .i64 0),(.int .i64 0),(.int .i64 0),(.int .i64 0),(.int .i64 0),(.int .i64 0),(.int .i64 0),(.int .i64 0),(.int .i64 0),(.int .i64 0),(.int .i64 0),(.int .i64 0),(.int .i64 0),(.int .i64 0),(.int .i64 0),(.int .i64 0),(.int .i64 0),(.int .i64 0),(.int .i64 0),(.int .i64 0),(.int .i64 0),(.int .i64 0),(.int .i64 0),(.int .i64 0),(.int .i64 0),(.int .i64 0),(.int .i64 0),(.slice none 0 0),(.int .i64 0),(.int .i64 0),(.int .i64 0),(.int .i64 0),(.int .i64 0),(.int .i64 0),(.int .i64 0),(.int .i64 0),(.int .i64 0),(.int .i64 0),(.int .i64 0),(.string ⟨#[]⟩),(.string ⟨#[]⟩),(.int .i64 0),(.int .i64 0),(.int .i64 0)]):=⟨.of (by kernel_rfl),by kernel_rfl,fun w=>by kernel_rfl⟩
theorem zdY (I:Qt)(no ver:Int):ZA Tryz.prog 42 [.int .i64 no,.int .i64 ver] I (Kj (zp6 no ver)):=by
 intro g H w hw
 refine qe Tryz.func42 Tryz.ntmps42 hw ?_
 refine zR ?_
 refine Qq W8 rfl rfl (fun b_4=>?_)
 refine zN (zR ?_)
 refine zM ?_
 refine zM ?_
 refine zV (QK (ps:=[(0,_),(1,_),(2,_),(3,_),(4,_)]) [_,_,_,_,_] zj3 rfl rfl) ?_
 refine zV (QK (ps:=[(0,_),(3,_)]) [_,_,_,_,_,_,_,_,_,_,_,_,_,_,_,_,_,_,_,_,_,_,_,_,_,_,_,_,_,_,_,_,_,_,_,_,_,_,_,_,_,_,_,_,_] zpX rfl rfl) ?_
 refine zh VW ?_
 refine zN (Qs ?_)
 exact ZX rfl rfl Zf zzk rfl (fun w hw=>⟨by rfl,hw.drop⟩)
theorem zcw (I:Qt)(no of:Int):ZA Tryz.prog 44 [.int .i64 no,.int .i64 of] I (Kj (Yi no of)):=by
 intro g H w hw
 refine qe Tryz.func44 Tryz.ntmps44 hw ?_
 refine zR ?_
 refine Qq W8 rfl rfl (fun b_4=>?_)
 refine zN (zR ?_)
 refine zM ?_
 refine zM ?_
 refine zV (QK (ps:=[(0,_)]) [_,_,_] zck rfl rfl) ?_
 refine zV (QK (ps:=[(0,_),(1,_),(2,_),(4,_),(6,_)]) [_,_,_,_,_,_,_,_,_] zeQ rfl rfl) ?_
 refine zV (QK (ps:=[(0,_),(1,_)]) [_,_,_,_,_,_,_,_,_,_,_,_,_,_,_,_,_,_,_,_,_,_,_,_,_,_,_,_,_,_,_,_,_,_,_,_,_,_,_,_,_,_,_,_,_] zpX rfl rfl) ?_
 refine zh VW ?_
 refine zN (Qs ?_)
 exact ZX rfl rfl Zf zzk rfl (fun w hw=>⟨by rfl,hw.drop⟩)
theorem zpY (I:Qt)(n:Int):Vl Tryz.prog 14 [.int .i64 n] I [] (zyF n):=by
 have h:=zxo I n
 by_cases hb:(decide (n<1)||decide (n>24))=true
 ·
  intro g H w hw
  refine (h g H w hw).mono ?_
  rintro e w' ⟨v,I',L',h1,h2,h3,rfl,⟨_,rfl,rfl⟩ | ⟨h4,_⟩⟩
  ·
   exact ⟨_,_,_,h1,h2,h3,rfl,_,by rw [if_pos hb],by rw [if_pos hb];exact zg9⟩
  rw [hb] at h4;cases h4
 have hb2:(decide (n<1)||decide (n>24))=false:=by simpa using hb
 refine K2.m (Bad:=fun _=>False) (K2.frz (h.p (Bad:=fun _=>False)) fun v I' L' hI hq=>?_) (fun v hv=>hv)
 obtain ⟨rfl,⟨h4,_⟩ | ⟨_,b,rfl,rfl⟩⟩:=hq
 ·
  rw [hb2] at h4;cases h4
 refine ⟨[],b,_,.here,fun I2 h2 hb3=>⟨rfl,_,by rw [if_neg hb],?_⟩⟩
 rw [if_neg hb]
 have hn:1≤n∧n≤24:=by simpa using hb2
 exact ztz (Nat.le_trans (show n.toNat≤24 by omega) (by decide)) hb3
theorem zh9 {I:Qt}{pa qa aa:Option Addr}{pn pc qn qc an ac:Nat}{ps:List Pe}{qs:List Pk}{ks:List (Int×Int)}(hR:RmP I pa pn pc qa qn qc aa an ac ps qs ks){r:Rd}(he:VN ps qs ks=r)(hs:SmR r)(x:Ev)(hE:EvM I x){R:Int×Rd}(e:doF r (YR x)=R):Vl Tryz.prog 12 [.agg #[.slice pa pn pc,.slice qa qn qc,.slice aa an ac],.agg (zel x).toArray] I [] (DoQ R):=by
 subst he;subst e
 obtain ⟨h1,h2,h3,h4,h5,h6⟩:=SmR.use hR hs
 exact zyB hR h1 h2 h3 h4 h5 (fun _=>h6) x hE
theorem zgR {I:Qt}{pa qa aa:Option Addr}{pn pc qn qc an ac:Nat}{ps:List Pe}{qs:List Pk}{ks:List (Int×Int)}(hR:RmP I pa pn pc qa qn qc aa an ac ps qs ks){r:Rd}(he:VN ps qs ks=r)(hs:SmR r){e:Int}(hc:zeY r=e):Vl Tryz.prog 16 [.agg #[.slice pa pn pc,.slice qa qn qc,.slice aa an ac]] I [] (fun v I' L'=>L'=[]∧v= .int .i64 e):=by
 subst he;subst hc
 obtain ⟨h1,h2,h3,h4,h5,_⟩:=SmR.use hR hs
 exact zkO hR h1 h2 h3 h4 h5
end
section
open Go Go.Kn Go.Proofs
theorem zoo:zgV Tryz.prog 45 3 29 5:=.of (by kernel_rfl)
theorem zcm:Fun Tryz.prog 12:=.of Tryz.func12 (by kernel_rfl) (by kernel_rfl)
theorem zqj:Fun Tryz.prog 14:=.of Tryz.func14 (by kernel_rfl) (by kernel_rfl)
theorem zp9:Fun Tryz.prog 20:=.of Tryz.func20 (by kernel_rfl) (by kernel_rfl)
theorem zpD:Fun Tryz.prog 22:=.of Tryz.func22 (by kernel_rfl) (by kernel_rfl)
theorem ze9:Fun Tryz.prog 24:=.of Tryz.func24 (by kernel_rfl) (by kernel_rfl)
theorem zeN:Fun Tryz.prog 31:=.of Tryz.func31 (by kernel_rfl) (by kernel_rfl)
theorem zek:Fun Tryz.prog 42:=.of Tryz.func42 (by kernel_rfl) (by kernel_rfl)
theorem X8:Fun Tryz.prog 43:=.of Tryz.func43 (by kernel_rfl) (by kernel_rfl)
theorem zkT:Fun Tryz.prog 44:=.of Tryz.func44 (by kernel_rfl) (by kernel_rfl)
theorem zeo:PlT Tryz.prog 47 #[(0,1),(1,1),(2,1),(3,1),(4,45)] (.agg #[(.int .i64 0),(.int .i64 0),(.int .i64 0),(.int .i64 0),(.int .i64 0),(.int .i64 0),(.int .i64 0),(.int .i64 0),(.int .i64 0),(.int .i64 0),(.int .i64 0),(.int .i64 0),(.int .i64 0),(.int .i64 0),(.int .i64 0),(.int .i64 0),(.int .i64 0),(.int .i64 0),(.int .i64 0),(.int .i64 0),(.int .i64 0),(.int .i64 0),(.int .i64 0),(.int .i64 0),(.int .i64 0),(.int .i64 0),(.int .i64 0),(.int .i64 0),(.int .i64 0),(.int .i64 0),(.int .i64 0),(.int .i64 0),(.slice none 0 0),(.int .i64 0),(.int .i64 0),(.int .i64 0),(.int .i64 0),(.int .i64 0),(.int .i64 0),(.int .i64 0),(.int .i64 0),(.int .i64 0),(.int .i64 0),(.int .i64 0),(.string ⟨#[]⟩),(.string ⟨#[]⟩),(.int .i64 0),(.int .i64 0),(.int .i64 0)]):=⟨.of (by kernel_rfl),by kernel_rfl,fun w=>by kernel_rfl⟩
theorem zuL:PlT Tryz.prog 59 #[(0,1)] (.agg #[(.slice none 0 0)]):=⟨.of (by kernel_rfl),by kernel_rfl,fun w=>by kernel_rfl⟩
theorem zrY {I:Qt}{av:Option Addr}{n c:Nat}{bv:Option Addr}{n2 c2:Nat}{xs:List Nt}(hS:U7 I av n c xs)(hT:Sl I 45 Q6 bv n2 c2 [n35])(hd:xs.map Yr=[n35])(hn:n≤100000):ZA Tryz.prog 31 [.slice av n c,.slice bv n2 c2] I (.bool true):=by
 have h:=zvG hS.sl hT hS.nd (fun y hy=>by rw [List.mem_singleton.1 hy];exact Sl.nil) (zjW hS.nd hd) hn
 rw [zrt hS.nd hd] at h;exact h
set_option maxRecDepth 100000 in
set_option maxHeartbeats 4000000 in
theorem zuP (I:Qt):ZA Tryz.prog 10 [] I (.bool true):=by
 intro g H w hw
 refine qe Tryz.func10 Tryz.ntmps10 hw ?_
 have hIc:=zzm I
 refine zR (zA ?_)
 refine zN (zR ?_)
 refine zpc [_] rfl zqj .nil (zpY _ 2) ?_
 rintro vv1 I1 L1 hI1 ⟨rfl,vr1,rfl,hV1⟩
 have hIc:=hIc.trans hI1
 obtain ⟨pa1,pn1,pc1,qa1,qn1,qc1,aa1,an1,ac1,ps1,qs1,rfl,hR1,he1⟩:=(show RmV _ vr1 (zfg 2) from hV1)
 obtain rfl:pn1=2:=(Wm hR1 he1).1
 obtain rfl:qn1=0:=(Wm hR1 he1).2.1
 refine zM ?_
 refine zE ?_
 refine zE ?_
 refine Qq zca rfl rfl (fun b_1=>?_)
 refine zh Kk ?_
 refine zA (Qb ?_)
 refine QH .here (fun I2 hI2 hb2=>?_)
 have hR1:=hR1.mono hI2;have hIc:=hIc.trans hI2
 have h1:=BxI.of hb2
 refine Qd (zR ?_)
 refine zpc [_] rfl zqj .nil (zpY _ 0) ?_
 rintro vv3 I3 L3 hI3 ⟨rfl,vr3,rfl,hV3⟩
 have hR1:=hR1.mono hI3;have h1:=h1.mono hI3;have hIc:=hIc.trans hI3
 obtain ⟨pa3,pn3,pc3,qa3,qn3,qc3,aa3,an3,ac3,ps3,qs3,rfl,hR3,he3⟩:=(show RmV _ vr3 (zeroR) from hV3)
 refine zM ?_
 refine zE ?_
 refine zE ?_
 refine Qq zca rfl rfl (fun b_3=>?_)
 refine zh Kk ?_
 refine zA (Qb ?_)
 refine QH .here (fun I4 hI4 hb4=>?_)
 have hR1:=hR1.mono hI4;have h1:=h1.mono hI4;have hIc:=hIc.trans hI4
 have h3:=BxI.of hb4
 refine Qd ?_
 refine zY [(1,_),(2,_),(4,_)] (fun T L0 E I' loc'=>∃ (b5:Nat) (pa5:Option Addr) (pn5:Nat) (pc5:Nat) (qa5:Option Addr) (qn5:Nat) (qc5:Nat) (aa5:Option Addr) (an5:Nat) (ac5:Nat) (ps5:List Pe) (qs5:List Pk),E=(5,Zw b5)::(6,.int .i64 0)::T∧HLe I4 I'∧[]=loc'∧BxI I' b5 (.cells #[.slice pa5 pn5 pc5,.slice qa5 qn5 qc5,.slice aa5 an5 ac5] 28 (0,0))∧RmP I' pa5 pn5 pc5 qa5 qn5 qc5 aa5 an5 ac5 ps5 qs5 []∧VN ps5 qs5 []=rr1) ?_ ?_
 ·
  have hKc3:=zzm I4
  have hD:=zzm I4
  refine Zt ?_
  refine QQ I4 [] mixed ?_
  refine zT 0 rfl (Qg rfl Jd (fun hg=>by exact BxI.cells (vs:=[_,_,_]) h1) rfl) hD ?_
  refine QW 1 7 rfl rfl (by kernel_rfl) ?_ ?_
  ·
   refine qcV (vs:=[_,_]) rfl zek (zdY _ 3 5) ?_
   refine Qb ?_
   refine zD hD ?_
   refine zT 2 rfl (QK (ps:=[(0,_),(1,_),(4,_)]) [_,_,_,_,_,_,_,_,_,_,_,_,_,_,_,_,_,_,_,_,_,_,_,_,_,_,_,_,_,_,_,_,_,_,_,_,_,_,_,_,_,_,_,_,_,_,_,_,_] zeo rfl rfl) hD ?_
   refine QW 3 7 rfl rfl (by kernel_rfl) ?_ ?_
   ·
    refine zpc [_,_] rfl zcm .nil (zh9 hR1 he1 (zbo (by decide)) e35 ⟨zgj _,zm8⟩ zxe) ?_
    rintro vv5 I5 L5 hI5 ⟨rfl,vr5,rfl,hV5⟩
    have hKc3:=hKc3.trans hI5;have hD:=hD.trans hI5
    obtain ⟨pa5,pn5,pc5,qa5,qn5,qc5,aa5,an5,ac5,ps5,qs5,rfl,hR5,he5⟩:=(show RmV _ vr5 (rr1) from hV5)
    refine Qb ?_
    refine zD hD ?_
    refine zT 4 rfl (Qf rfl) hD ?_
    refine zT 5 rfl (Q2 rfl rfl) hD ?_
    refine zT 6 rfl (Q2 rfl rfl) hD ?_
    refine qd 7 rfl ?_
    refine Qq zca rfl rfl (fun b_5=>?_)
    refine Qb ?_
    refine zD hD ?_
    refine qd 8 rfl ?_
    refine zh Kk ?_
    refine QT (b:=b_5) (by repeat (first | exact ZR.here | apply ZR.there)) (fun I6 hI6 hb6=>?_)
    have hR5:=hR5.mono hI6;have hKc3:=hKc3.trans hI6;have hD:=hD.trans hI6
    have h5:=BxI.of hb6
    refine Qb ?_
    refine zD hD ?_
    refine zT 9 rfl (QC rfl) hD ?_
    refine Qn (by kernel_rfl) ?_
    refine Qx ?_
    exact zm (h:=⟨_,_,_,_,_,_,_,_,_,_,_,_,rfl,hKc3,rfl,h5,hR5,he5⟩)
   refine Qq zca rfl rfl (fun b_5=>?_)
   refine Qb ?_
   refine zD hD ?_
   refine qd 3 rfl ?_
   refine zpc [_,_] rfl zcm .nil (zh9 hR1 he1 (zbo (by decide)) e35 ⟨zgj _,zm8⟩ zxe) ?_
   rintro vv7 I7 L7 hI7 ⟨rfl,vr5,rfl,hV5⟩
   have hKc3:=hKc3.trans hI7;have hD:=hD.trans hI7
   obtain ⟨pa5,pn5,pc5,qa5,qn5,qc5,aa5,an5,ac5,ps5,qs5,rfl,hR5,he5⟩:=(show RmV _ vr5 (rr1) from hV5)
   refine Qb ?_
   refine zD hD ?_
   refine zT 4 rfl (Qf rfl) hD ?_
   refine zT 5 rfl (Q2 rfl rfl) hD ?_
   refine zT 6 rfl (Q2 rfl rfl) hD ?_
   refine qd 8 rfl ?_
   refine zh Kk ?_
   refine QT (b:=b_5) (by repeat (first | exact ZR.here | apply ZR.there)) (fun I8 hI8 hb8=>?_)
   have hR5:=hR5.mono hI8;have hKc3:=hKc3.trans hI8;have hD:=hD.trans hI8
   have h5:=BxI.of hb8
   refine Qb ?_
   refine zD hD ?_
   refine zT 9 rfl (QC rfl) hD ?_
   refine Qn (by kernel_rfl) ?_
   refine Qx ?_
   exact zm (h:=⟨_,_,_,_,_,_,_,_,_,_,_,_,rfl,hKc3,rfl,h5,hR5,he5⟩)
  refine Qq zca rfl rfl (fun b_5=>?_)
  refine Qb ?_
  refine zD hD ?_
  refine qd 1 rfl ?_
  refine qcV (vs:=[_,_]) rfl zek (zdY _ 3 5) ?_
  refine Qb ?_
  refine zD hD ?_
  refine zT 2 rfl (QK (ps:=[(0,_),(1,_),(4,_)]) [_,_,_,_,_,_,_,_,_,_,_,_,_,_,_,_,_,_,_,_,_,_,_,_,_,_,_,_,_,_,_,_,_,_,_,_,_,_,_,_,_,_,_,_,_,_,_,_,_] zeo rfl rfl) hD ?_
  refine qd 3 rfl ?_
  refine zpc [_,_] rfl zcm .nil (zh9 hR1 he1 (zbo (by decide)) e35 ⟨zgj _,zm8⟩ zxe) ?_
  rintro vv9 I9 L9 hI9 ⟨rfl,vr5,rfl,hV5⟩
  have hKc3:=hKc3.trans hI9;have hD:=hD.trans hI9
  obtain ⟨pa5,pn5,pc5,qa5,qn5,qc5,aa5,an5,ac5,ps5,qs5,rfl,hR5,he5⟩:=(show RmV _ vr5 (rr1) from hV5)
  refine Qb ?_
  refine zD hD ?_
  refine zT 4 rfl (Qf rfl) hD ?_
  refine zT 5 rfl (Q2 rfl rfl) hD ?_
  refine zT 6 rfl (Q2 rfl rfl) hD ?_
  refine qd 8 rfl ?_
  refine zh Kk ?_
  refine QT (b:=b_5) (by repeat (first | exact ZR.here | apply ZR.there)) (fun I10 hI10 hb10=>?_)
  have hR5:=hR5.mono hI10;have hKc3:=hKc3.trans hI10;have hD:=hD.trans hI10
  have h5:=BxI.of hb10
  refine Qb ?_
  refine zD hD ?_
  refine zT 9 rfl (QC rfl) hD ?_
  refine Qn (by kernel_rfl) ?_
  refine Qx ?_
  exact zm (h:=⟨_,_,_,_,_,_,_,_,_,_,_,_,rfl,hKc3,rfl,h5,hR5,he5⟩)
 rintro E J11 loc' ⟨b5,pa5,pn5,pc5,qa5,qn5,qc5,aa5,an5,ac5,ps5,qs5,rfl,hJ3,rfl,h5,hR5,he5⟩
 have hR1:=hR1.mono hJ3;have h1:=h1.mono hJ3;have hIc:=hIc.trans hJ3
 obtain rfl:pn5=2:=(Wm hR5 he5).1
 obtain rfl:qn5=1:=(Wm hR5 he5).2.1
 refine zR ?_
 refine zV (Qg rfl Jd (fun hg=>by exact BxI.cells (vs:=[_,_,_]) h1) rfl) ?_
 refine zV (QK (ps:=[(0,_)]) [_,_,_,_,_,_,_,_,_,_,_,_,_,_,_,_,_,_,_,_,_,_,_,_,_,_,_,_,_,_,_,_,_,_,_,_,_,_,_,_,_,_,_,_,_,_,_,_,_] zeo rfl rfl) ?_
 refine zpc [_,_] rfl zcm .nil (zh9 hR1 he1 (zbo (by decide)) eT0 ⟨Sl.nil,zaI⟩ zy2) ?_
 rintro vv12 I12 L12 hI12 ⟨rfl,vr7,rfl,hV7⟩
 have hR1:=hR1.mono hI12;have h1:=h1.mono hI12;have h5:=h5.mono hI12;have hR5:=hR5.mono hI12;have hIc:=hIc.trans hI12
 obtain ⟨pa7,pn7,pc7,qa7,qn7,qc7,aa7,an7,ac7,ps7,qs7,rfl,hR7,he7⟩:=(show RmV _ vr7 (zeroR) from hV7)
 refine zM ?_
 refine zE ?_
 refine zE ?_
 refine Qq zca rfl rfl (fun b_7=>?_)
 refine zh Kk ?_
 refine zA (Qb ?_)
 refine QH .here (fun I13 hI13 hb13=>?_)
 have hR1:=hR1.mono hI13;have h1:=h1.mono hI13;have h5:=h5.mono hI13;have hR5:=hR5.mono hI13;have hIc:=hIc.trans hI13
 have h7:=BxI.of hb13
 refine Qd (zR ?_)
 refine zV (Qg rfl Jd (fun hg=>by exact BxI.cells (vs:=[_,_,_]) h1) rfl) ?_
 refine zV (QK (ps:=[(0,_)]) [_,_,_,_,_,_,_,_,_,_,_,_,_,_,_,_,_,_,_,_,_,_,_,_,_,_,_,_,_,_,_,_,_,_,_,_,_,_,_,_,_,_,_,_,_,_,_,_,_] zeo rfl rfl) ?_
 refine zpc [_,_] rfl zcm .nil (zh9 hR1 he1 (zbo (by decide)) eD0 ⟨Sl.nil,zaI⟩ zyT) ?_
 rintro vv14 I14 L14 hI14 ⟨rfl,vr9,rfl,hV9⟩
 have h1:=h1.mono hI14;have h5:=h5.mono hI14;have hR5:=hR5.mono hI14;have hIc:=hIc.trans hI14
 obtain ⟨pa9,pn9,pc9,qa9,qn9,qc9,aa9,an9,ac9,ps9,qs9,rfl,hR9,he9⟩:=(show RmV _ vr9 (zeroR) from hV9)
 refine zM ?_
 refine zE ?_
 refine zE ?_
 refine Qq zca rfl rfl (fun b_9=>?_)
 refine zh Kk ?_
 refine zA (Qb ?_)
 refine QH .here (fun I15 hI15 hb15=>?_)
 have h1:=h1.mono hI15;have h5:=h5.mono hI15;have hR5:=hR5.mono hI15;have hIc:=hIc.trans hI15
 have h9:=BxI.of hb15
 refine Qd (zR ?_)
 refine zV (Qg rfl Jd (fun hg=>by exact BxI.cells (vs:=[_,_,_]) h5) rfl) ?_
 refine zV (QK (ps:=[(0,_)]) [_,_,_,_,_,_,_,_,_,_,_,_,_,_,_,_,_,_,_,_,_,_,_,_,_,_,_,_,_,_,_,_,_,_,_,_,_,_,_,_,_,_,_,_,_,_,_,_,_] zeo rfl rfl) ?_
 refine zpc [_,_] rfl zcm .nil (zh9 hR5 he5 zwI eD0 ⟨Sl.nil,zaI⟩ zyx) ?_
 rintro vv16 I16 L16 hI16 ⟨rfl,vr11,rfl,hV11⟩
 have h1:=h1.mono hI16;have h5:=h5.mono hI16;have hR5:=hR5.mono hI16;have hIc:=hIc.trans hI16
 obtain ⟨pa11,pn11,pc11,qa11,qn11,qc11,aa11,an11,ac11,ps11,qs11,rfl,hR11,he11⟩:=(show RmV _ vr11 (rr2) from hV11)
 obtain rfl:pn11=2:=(Wm hR11 he11).1
 obtain rfl:qn11=0:=(Wm hR11 he11).2.1
 refine zM ?_
 refine zE ?_
 refine zE ?_
 refine Qq zca rfl rfl (fun b_11=>?_)
 refine zh Kk ?_
 refine zA (Qb ?_)
 refine QH .here (fun I17 hI17 hb17=>?_)
 have h1:=h1.mono hI17;have h5:=h5.mono hI17;have hR5:=hR5.mono hI17;have hR11:=hR11.mono hI17;have hIc:=hIc.trans hI17
 have h11:=BxI.of hb17
 refine Qd (Qm (zR (zM ?_)))
 refine zC ?_
 refine zM ?_
 refine QM 2 rfl rfl rfl ?_
 refine zJ (Qa rfl Yx) ?_
 refine zJ (Qc rfl JG (fun hg=>by exact QA.imm h1.out rfl)) ?_
 refine zJ (Q4 rfl V7) ?_
 refine zJ (QD rfl rfl rfl) ?_
 refine Zb rfl rfl rfl rfl rfl ?_
 refine zM ?_
 refine QM 8 rfl rfl rfl ?_
 refine zJ (Qf rfl) ?_
 refine zJ (QD rfl rfl rfl) ?_
 refine Zb rfl rfl rfl rfl rfl ?_
 refine zM ?_
 refine QM 12 rfl rfl rfl ?_
 refine zJ (Qf rfl) ?_
 refine zJ (QD rfl rfl rfl) ?_
 refine Zb rfl rfl rfl rfl rfl ?_
 refine zM ?_
 refine QM 16 rfl rfl rfl ?_
 refine zJ (Qa rfl Yx) ?_
 refine zJ (Qc rfl JG (fun hg=>by exact QA.imm h5.out rfl)) ?_
 refine zJ (Q4 rfl V7) ?_
 refine zJ (QD rfl rfl rfl) ?_
 refine Zb rfl rfl rfl rfl rfl ?_
 refine zM ?_
 refine QM 22 rfl rfl rfl ?_
 refine zJ (Qf rfl) ?_
 refine zJ (QD rfl rfl rfl) ?_
 refine Zb rfl rfl rfl rfl rfl ?_
 refine zM ?_
 refine QM 26 rfl rfl rfl ?_
 refine zJ (Qf rfl) ?_
 refine zJ (QD rfl rfl rfl) ?_
 refine Zb rfl rfl rfl rfl rfl ?_
 refine zM ?_
 refine QM 30 rfl rfl rfl ?_
 refine zJ (Qf rfl) ?_
 refine zJ (QD rfl rfl rfl) ?_
 refine Zb rfl rfl rfl rfl rfl ?_
 refine zM ?_
 refine QM 34 rfl rfl rfl ?_
 refine zJ (Qa rfl Yx) ?_
 refine zJ (Qc rfl JG (fun hg=>by exact QA.imm h11.out rfl)) ?_
 refine zJ (Q4 rfl V7) ?_
 refine zJ (QD rfl rfl rfl) ?_
 refine Zb rfl rfl rfl rfl rfl ?_
 refine zN ?_
 refine zI ?_ ?_<;>intro hc103
 ·
  exact absurd hc103 (by decide)
 refine Qr (Qd (zR ?_))
 refine qcV (vs:=[_,_]) rfl zek (zdY _ 3 5) ?_
 refine zpb [(0,_)] [Q6 n35] Ut (fun b_105=>?_)
 refine zA (Qb ?_)
 refine QH .here (fun I18 hI18 hb18=>?_)
 have h1:=h1.mono hI18;have h5:=h5.mono hI18;have hR5:=hR5.mono hI18;have hR11:=hR11.mono hI18;have h11:=h11.mono hI18;have hIc:=hIc.trans hI18
 have h13:=Sl.lit (enc:=Q6) [n35] rfl YN hb18
 refine Qd (Qm ?_)
 obtain ⟨q5,hq5,hq5e⟩:=zyc hR5 he5 (i:=0) rfl
 have hq5M:=hR5.pk q5 (List.mem_of_getElem? hq5)
 have hdq5:U8 q5.data=U8 (V5 n35):=congrArg (fun p:Pk=>U8 p.data) hq5e
 obtain ⟨pb,hppb,hdpb⟩:=zrG hR5 he5 (i:=1) (xs:=[n35]) rfl
 have hnpb:=hR5.nt pb (List.mem_of_getElem? hppb)
 obtain ⟨pa,hppa,hdpa⟩:=zrG hR5 he5 (i:=0) (xs:=[]) rfl
 have hnpa:=hR5.nt pa (List.mem_of_getElem? hppa)
 have hpa0:(((pa.n:Nat):Int)==0)=true:=by rw [zuy hnpa hdpa];rfl
 have hpbl:pb.n≤100000:=by have h1:=hnpb.sl.len;have h2:=congrArg List.length hdpb;rw [List.length_map] at h2;simp at h2;omega
 have hD:=zzm I18
 refine Zt ?_
 refine QQ I18 [] mixed ?_
 refine zT 0 rfl (Qa rfl YS) hD ?_
 refine zT 1 rfl (Qa rfl Zg) hD ?_
 refine zT 2 rfl (Qc rfl Zn (fun hg=>by exact QA.imm h5.out rfl)) hD ?_
 refine zT 3 rfl (Q4 rfl Ze) hD ?_
 refine zT 4 rfl (QD rfl rfl rfl) hD ?_
 refine zT 5 rfl (Qf rfl) hD ?_
 refine zw 6 111 rfl (Qa rfl YS) hD ?_
 refine zw 7 111 rfl (Qa rfl Zg) hD ?_
 refine zw 8 111 rfl (Qc rfl Zn (fun hg=>by exact QA.imm h5.out rfl)) hD ?_
 refine zw 9 111 rfl (QG rfl rfl Ze hR5.q (fun hg=>by omega)) hD ?_
 refine zw 10 111 rfl (Qa rfl zaw) hD ?_
 refine zw 11 111 rfl (Qc rfl Ux (fun hg=>by exact zzo hR5.q hq5 (j:=2) rfl)) hD ?_
 refine zw 12 111 rfl (Zv rfl bst (fun hg=>hq5M.sl)) hD ?_
 refine qd 13 rfl ?_
 refine QN (dj:=111) rfl rfl rfl ?_
 refine qcV (vs:=[_,_]) rfl zek (zdY _ 3 5) ?_
 refine Qb ?_
 refine zD hD ?_
 refine qd 14 rfl ?_
 refine QN (dj:=111) rfl rfl rfl ?_
 refine zpc [_] rfl X8 .nil (X1 n35 (zgj _) (by decide) X0.1 (Nat.le_trans X0.2.2 (by decide))) ?_
 rintro vv19 I19 L19 hI19 ⟨rfl,am,cm,rfl,hSm⟩
 have h1:=h1.mono hI19;have h5:=h5.mono hI19;have hR5:=hR5.mono hI19;have hR11:=hR11.mono hI19;have h11:=h11.mono hI19;have h13:=h13.mono hI19;have hnpb:=hnpb.mono hI19;have hIc:=hIc.trans hI19;have hD:=hD.trans hI19
 refine Qb ?_
 refine zD hD ?_
 refine qd 15 rfl ?_
 refine QN (dj:=111) rfl rfl rfl ?_
 refine zV (Zv rfl bst (fun hg=>hSm)) ?_
 refine Qb ?_
 refine zD hD ?_
 refine zw 16 111 rfl (Ki rfl rfl rfl) hD ?_
 rw [hdq5,zio]
 refine zT 17 rfl (Q5 rfl rfl rfl) hD ?_
 refine zT 18 rfl (Qf rfl) hD ?_
 refine zw 19 124 rfl (Qa rfl Yx) hD ?_
 refine zw 24 124 rfl (Qf rfl) hD ?_
 refine qd 20 rfl ?_
 refine QN (dj:=124) rfl rfl rfl ?_
 refine zV (Qc rfl JG (fun hg=>by exact QA.imm h5.out rfl)) ?_
 refine Qb ?_
 refine zD hD ?_
 refine qd 21 rfl ?_
 refine QN (dj:=124) rfl rfl rfl ?_
 refine zV (QG rfl rfl V7 hR5.pe (fun hg=>by omega)) ?_
 refine Qb ?_
 refine zD hD ?_
 refine zw 22 124 rfl (Qa rfl Zr) hD ?_
 refine qd 23 rfl ?_
 refine QN (dj:=124) rfl rfl rfl ?_
 refine zV (Qc rfl Yq (fun hg=>by exact zzf hR5.pe hppb rfl)) ?_
 refine Qb ?_
 refine zD hD ?_
 refine qd 25 rfl ?_
 refine QN (dj:=124) rfl rfl rfl ?_
 refine qcV (vs:=[_,_]) rfl zeN (zrY hnpb h13 hdpb (by omega)) ?_
 refine Qb ?_
 refine zD hD ?_
 refine zT 26 rfl (Q5 rfl rfl rfl) hD ?_
 refine zT 27 rfl (Qf rfl) hD ?_
 refine zw 28 133 rfl (Qa rfl Yx) hD ?_
 refine qd 29 rfl ?_
 refine QN (dj:=133) rfl rfl rfl ?_
 refine zV (Qc rfl JG (fun hg=>by exact QA.imm h5.out rfl)) ?_
 refine Qb ?_
 refine zD hD ?_
 refine qd 30 rfl ?_
 refine QN (dj:=133) rfl rfl rfl ?_
 refine zV (QG rfl rfl V7 hR5.pe (fun hg=>by omega)) ?_
 refine Qb ?_
 refine zD hD ?_
 refine zw 31 133 rfl (Qa rfl Zr) hD ?_
 refine qd 32 rfl ?_
 refine QN (dj:=133) rfl rfl rfl ?_
 refine zV (Qc rfl Yq (fun hg=>by exact zzf hR5.pe hppa rfl)) ?_
 refine Qb ?_
 refine zD hD ?_
 refine zw 33 133 rfl (Q4 rfl Za) hD ?_
 refine zw 34 133 rfl (QD rfl rfl rfl) hD ?_
 rw [hpa0]
 refine zT 35 rfl (Q5 rfl rfl rfl) hD ?_
 refine zT 36 rfl (QC rfl) hD ?_
 refine Qn (by kernel_rfl) ?_
 refine Qx ?_
 refine Qd (Qm ?_)
 obtain ⟨pf,hppf,hdpf⟩:=zrG hR11 he11 (i:=0) (xs:=[n35]) rfl
 have hnpf:=hR11.nt pf (List.mem_of_getElem? hppf)
 have hpfl:pf.n≤100000:=by have h1:=hnpf.sl.len;have h2:=congrArg List.length hdpf;rw [List.length_map] at h2;simp at h2;omega
 refine Qi ?_
 refine zF Yx ?_
 refine zV (Qc rfl JG (fun hg=>by exact QA.imm h11.out rfl)) ?_
 refine zV (QG rfl rfl V7 hR11.pe (fun hg=>by omega)) ?_
 refine zV (Qg rfl Kh (fun hg=>by exact zzn hR11.pe hppf) rfl) ?_
 refine zpc [_] rfl zp9 .nil (zj9 hnpf (by omega)) ?_
 rintro vv20 I20 L20 hI20 hW0
 have h1:=h1.mono hI20;have hR11:=hR11.mono hI20;have h11:=h11.mono hI20;have h13:=h13.mono hI20;have hnpf:=hnpf.mono hI20;have hIc:=hIc.trans hI20
 obtain ⟨rfl,a15,n15,c15,a16,n16,c16,a17,n17,c17,a18,n18,c18,rfl,hS15,hS16,_,_⟩:=zlo hW0 (zec hdpf hnpf.nd)
 rw [ztf hdpf] at hS16
 obtain rfl:n16=1:=hS16.len.symm
 refine zM ?_
 refine zE ?_
 refine zE ?_
 refine zE ?_
 refine zE ?_
 refine zE ?_
 refine zA ?_
 refine zA ?_
 refine zA ?_
 refine zA ?_
 refine zA ?_
 refine zN (zR ?_)
 refine qcV (vs:=[_,_]) rfl zkT (zcw _ 2 0) ?_
 refine qcV (vs:=[_,_]) rfl zkT (zcw _ 4 4) ?_
 refine qcV (vs:=[_,_]) rfl zkT (zcw _ 5 3) ?_
 refine zpb [(0,_),(1,_),(2,_)] [Q6 (Yi 2 0),Q6 (Yi 4 4),Q6 (Yi 5 3)] Ut (fun b_157=>?_)
 refine zV (QK (ps:=[(0,_)]) [_] zuL rfl rfl) ?_
 refine QT (by repeat (first | exact ZR.here | apply ZR.there)) (fun I21 hI21 hb21=>?_)
 have h1:=h1.mono hI21;have hR11:=hR11.mono hI21;have h11:=h11.mono hI21;have h13:=h13.mono hI21;have hnpf:=hnpf.mono hI21;have hS16:=hS16.mono hI21;have hIc:=hIc.trans hI21
 have hLl:=Sl.lit (enc:=Q6) hL rfl YN hb21
 refine zpc [_] rfl zp9 .nil (zj9 ⟨hLl,fun x hx=>(zji _ hx).1.nd,fun x hx _=>(zji _ hx).1⟩ (by decide)) ?_
 rintro vv22 I22 L22 hI22 hW0
 have h1:=h1.mono hI22;have hR11:=hR11.mono hI22;have h11:=h11.mono hI22;have h13:=h13.mono hI22;have hnpf:=hnpf.mono hI22;have hS16:=hS16.mono hI22;have hIc:=hIc.trans hI22
 obtain ⟨rfl,a20,n20,c20,a21,n21,c21,a22,n22,c22,a23,n23,c23,rfl,hS20,_,_,_⟩:=zlo hW0 zo7
 rw [zvy] at hS20
 obtain rfl:n20=2:=hS20.len.symm
 refine zM ?_
 refine zE ?_
 refine zE ?_
 refine zE ?_
 refine zE ?_
 refine zE ?_
 refine zA ?_
 refine zA ?_
 refine zA ?_
 refine zA ?_
 refine zA ?_
 refine zN (zR ?_)
 refine zF Yx ?_
 refine zV (Qc rfl JG (fun hg=>by exact QA.imm h11.out rfl)) ?_
 refine zV (QG rfl rfl V7 hR11.pe (fun hg=>by omega)) ?_
 refine zV (Qg rfl Kh (fun hg=>by exact zzn hR11.pe hppf) rfl) ?_
 refine zpc [_] rfl zpD .nil (zeV hnpf (by omega)) ?_
 rintro vv23 I23 L23 hI23 hW0
 have h1:=h1.mono hI23;have hR11:=hR11.mono hI23;have h11:=h11.mono hI23;have h13:=h13.mono hI23;have hnpf:=hnpf.mono hI23;have hS16:=hS16.mono hI23;have hS20:=hS20.mono hI23;have hIc:=hIc.trans hI23
 obtain ⟨rfl,a25,n25,c25,rs0,rfl,hRc,hrb⟩:=zkG hW0 (zec hdpf hnpf.nd)
 obtain ⟨rsl,rsb,rsn⟩:=zto hRc hrb hdpf
 obtain rfl:n25=1:=by have h:=hRc.sl.len;omega
 refine zM ?_
 refine zE ?_
 refine zE ?_
 refine zA ?_
 refine zA ?_
 refine zN (zR ?_)
 refine zpb [] [] Xm (fun b_174=>?_)
 refine zM ?_
 refine zpa (_) (rs0.flatMap Wk) ([(b_174,_)]) rfl rfl Xm Ya.new (hRc.sl.src VV) (ze1 _) ?_
 intro v8 L8 hO8 _;rw [List.nil_append,Nat.zero_add] at hO8
 refine zM ?_
 refine zpa (_) (rs0.flatMap Wk) (L8) rfl rfl Xm hO8 (hRc.sl.src VV) (ze1 _) ?_
 intro v9 L9 hO9 _;rw [←List.flatMap_append] at hO9
 refine zx7 hO9 VV (fun I24 hI24 af24 cf24 ef24 hZr=>?_)
 subst ef24
 have h1:=h1.mono hI24;have hR11:=hR11.mono hI24;have h11:=h11.mono hI24;have h13:=h13.mono hI24;have hnpf:=hnpf.mono hI24;have hS16:=hS16.mono hI24;have hS20:=hS20.mono hI24;have hRc:=hRc.mono hI24;have hIc:=hIc.trans hI24
 refine zpc [_] rfl ze9 .nil (zer (rs:=rs0++rs0) ⟨hZr,fun r hr=>(List.mem_append.1 hr).elim (hRc.m r) (hRc.m r)⟩ (by omega) (fun r hr=>rsn r ((List.mem_append.1 hr).elim id id))) ?_
 rintro vv25 I25 L25 hI25 hLd0
 have h1:=h1.mono hI25;have hR11:=hR11.mono hI25;have h11:=h11.mono hI25;have h13:=h13.mono hI25;have hnpf:=hnpf.mono hI25;have hS16:=hS16.mono hI25;have hS20:=hS20.mono hI25;have hIc:=hIc.trans hI25
 obtain ⟨rfl,a27,m27,c27,zs27,rfl,hLz⟩:=zmG hLd0 (by rw [List.length_append,rsl];decide) (fun r hr=>by rw [rsb r ((List.mem_append.1 hr).elim id id),zda X0];simp)
 have hLn:=hLz.nt
 have hdz:=ztV hLz (by intro h;rw [List.append_eq_nil_iff] at h;rw [h.1] at rsl;cases rsl) (fun r hr=>rsb r ((List.mem_append.1 hr).elim id id))
 refine zM ?_
 refine zE ?_
 refine zE ?_
 refine Qq zfo rfl rfl (fun b_27=>?_)
 refine zh W0 ?_
 refine zA (Qb ?_)
 refine QH .here (fun I26 hI26 hb26=>?_)
 have h1:=h1.mono hI26;have hR11:=hR11.mono hI26;have h11:=h11.mono hI26;have h13:=h13.mono hI26;have hnpf:=hnpf.mono hI26;have hS16:=hS16.mono hI26;have hS20:=hS20.mono hI26;have hLn:=hLn.mono hI26;have hIc:=hIc.trans hI26
 have h27:=BxI.of hb26
 refine Qd (zR ?_)
 refine zpb [(0,_)] [Wk ⟨none,0,0,[]⟩] Xm (fun b_183=>?_)
 refine QT (by repeat (first | exact ZR.here | apply ZR.there)) (fun I27 hI27 hb27=>?_)
 have h1:=h1.mono hI27;have hR11:=hR11.mono hI27;have h11:=h11.mono hI27;have h13:=h13.mono hI27;have hnpf:=hnpf.mono hI27;have hS16:=hS16.mono hI27;have hS20:=hS20.mono hI27;have hLn:=hLn.mono hI27;have h27:=h27.mono hI27;have hIc:=hIc.trans hI27
 have hNl:=Sl.lit (enc:=Wk) [(⟨none,0,0,[]⟩:Hy)] rfl VV hb27
 refine zpc [_] rfl ze9 .nil (zer (rs:=[⟨none,0,0,[]⟩]) ⟨hNl,fun r hr=>by rw [List.mem_singleton.1 hr];exact ⟨.nil,fun _ h=>(by cases h)⟩⟩ (by decide) (fun r hr=>by rw [List.mem_singleton.1 hr];decide)) ?_
 rintro vv28 I28 L28 hI28 hLd0
 have h1:=h1.mono hI28;have hR11:=hR11.mono hI28;have h11:=h11.mono hI28;have h13:=h13.mono hI28;have hnpf:=hnpf.mono hI28;have hS16:=hS16.mono hI28;have hS20:=hS20.mono hI28;have hLn:=hLn.mono hI28;have h27:=h27.mono hI28;have hIc:=hIc.trans hI28
 obtain ⟨rfl,rfl⟩:=zxG hLd0 (by decide) ⟨_,List.mem_singleton.2 rfl,zrf⟩
 refine zM ?_
 refine zE ?_
 refine zE ?_
 refine Qq zfo rfl rfl (fun b_29=>?_)
 refine zh W0 ?_
 refine zA (Qb ?_)
 refine QH .here (fun I29 hI29 hb29=>?_)
 have h1:=h1.mono hI29;have hR11:=hR11.mono hI29;have h11:=h11.mono hI29;have h13:=h13.mono hI29;have hnpf:=hnpf.mono hI29;have hS16:=hS16.mono hI29;have hS20:=hS20.mono hI29;have hLn:=hLn.mono hI29;have h27:=h27.mono hI29;have hIc:=hIc.trans hI29
 have h29:=BxI.of hb29
 refine Qd (zR (zM ?_))
 refine zM ?_
 refine QN (dj:=188) rfl rfl rfl ?_
 refine zF Yx ?_
 refine QN (dj:=188) rfl rfl rfl ?_
 refine zV (Qc rfl JG (fun hg=>by exact QA.imm h11.out rfl)) ?_
 refine QN (dj:=188) rfl rfl rfl ?_
 refine zV (QG rfl rfl V7 hR11.pe (fun hg=>by omega)) ?_
 refine QN (dj:=188) rfl rfl rfl ?_
 refine zF Zr ?_
 refine QN (dj:=188) rfl rfl rfl ?_
 refine zV (Qc rfl Yq (fun hg=>by exact zzf hR11.pe hppf rfl)) ?_
 refine QN (dj:=188) rfl rfl rfl ?_
 refine zM ?_
 refine QN (dj:=188) rfl rfl rfl ?_
 refine qcV (vs:=[_,_]) rfl zeN (zrY hnpf h13 hdpf (by omega)) ?_
 refine zV (Q5 rfl rfl rfl) ?_
 refine zM ?_
 refine QN (dj:=197) rfl rfl rfl ?_
 refine zF YS ?_
 refine QN (dj:=197) rfl rfl rfl ?_
 refine zF Zg ?_
 refine QN (dj:=197) rfl rfl rfl ?_
 refine zV (Qc rfl Zn (fun hg=>by exact QA.imm h11.out rfl)) ?_
 refine QN (dj:=197) rfl rfl rfl ?_
 refine zQ Ze ?_
 refine QN (dj:=197) rfl rfl rfl ?_
 refine zC ?_
 refine zV (Q5 rfl rfl rfl) ?_
 refine zM ?_
 refine QN (dj:=204) rfl rfl rfl ?_
 refine zV (QK (ps:=[]) [_,_,_] zgZ rfl rfl) ?_
 refine QN (dj:=204) rfl rfl rfl ?_
 refine zpc [_] rfl zjE .nil (zgR zoP (r:=zeroR) rfl ztD znE) ?_
 rintro vv30 I30 L30 hI30 ⟨rfl,rfl⟩
 have h1:=h1.mono hI30;have hR11:=hR11.mono hI30;have h11:=h11.mono hI30;have h13:=h13.mono hI30;have hS16:=hS16.mono hI30;have hS20:=hS20.mono hI30;have hLn:=hLn.mono hI30;have h27:=h27.mono hI30;have hIc:=hIc.trans hI30
 refine QN (dj:=204) rfl rfl rfl ?_
 refine zC ?_
 refine zV (Q5 rfl rfl rfl) ?_
 refine zM ?_
 refine QN (dj:=209) rfl rfl rfl ?_
 refine zV (Qg rfl Jd (fun hg=>by exact BxI.cells (vs:=[_,_,_]) h11) rfl) ?_
 refine QN (dj:=209) rfl rfl rfl ?_
 refine zpc [_] rfl zjE .nil (zgR hR11 he11 ztX zrZ) ?_
 rintro vv31 I31 L31 hI31 ⟨rfl,rfl⟩
 have h1:=h1.mono hI31;have h13:=h13.mono hI31;have hS16:=hS16.mono hI31;have hS20:=hS20.mono hI31;have hLn:=hLn.mono hI31;have h27:=h27.mono hI31;have hIc:=hIc.trans hI31
 refine QN (dj:=209) rfl rfl rfl ?_
 refine zC ?_
 refine zV (Q5 rfl rfl rfl) ?_
 refine zA (zN (Qm ?_))
 have hzl:m27≤100000:=by have h1:=hLn.sl.len;have h2:=congrArg List.length hdz;rw [List.length_map] at h2;simp at h2;omega
 have hD:=zzm I31
 refine Zt ?_
 refine QQ I31 [] mixed ?_
 refine zT 0 rfl (Qf rfl) hD ?_
 refine zT 1 rfl (Qf rfl) hD ?_
 refine zw 2 215 rfl (Qf rfl) hD ?_
 refine zw 3 215 rfl (QD rfl rfl rfl) hD ?_
 refine zT 4 rfl (Q5 rfl rfl rfl) hD ?_
 refine zT 5 rfl (Qf rfl) hD ?_
 refine zw 6 219 rfl (Qf rfl) hD ?_
 refine zw 7 219 rfl (QD rfl rfl rfl) hD ?_
 refine zT 8 rfl (Q5 rfl rfl rfl) hD ?_
 refine zT 9 rfl (Qf rfl) hD ?_
 refine zw 10 223 rfl (Qf rfl) hD ?_
 refine zw 11 223 rfl (QD rfl rfl rfl) hD ?_
 refine zT 12 rfl (Q5 rfl rfl rfl) hD ?_
 refine zT 13 rfl (Qf rfl) hD ?_
 refine zw 14 227 rfl (Qf rfl) hD ?_
 refine zw 15 227 rfl (QD rfl rfl rfl) hD ?_
 refine zT 16 rfl (Q5 rfl rfl rfl) hD ?_
 refine zT 17 rfl (Qf rfl) hD ?_
 refine zw 18 231 rfl (Qf rfl) hD ?_
 refine zw 19 231 rfl (QD rfl rfl rfl) hD ?_
 refine zT 20 rfl (Q5 rfl rfl rfl) hD ?_
 refine zT 21 rfl (Qf rfl) hD ?_
 refine zw 22 235 rfl (Qf rfl) hD ?_
 refine zw 23 235 rfl (Q4 rfl ZJ) hD ?_
 refine zw 24 235 rfl (QD rfl rfl rfl) hD ?_
 refine zT 25 rfl (Q5 rfl rfl rfl) hD ?_
 refine zT 26 rfl (Qf rfl) hD ?_
 refine zw 27 240 rfl (Qf rfl) hD ?_
 refine zw 28 240 rfl (zX ZJ hS20) hD ?_
 refine zw 29 240 rfl (Qa rfl Yw) hD ?_
 refine zw 30 240 rfl (Qc rfl Ql (fun hg=>by exact zzf hS20 (k:=0) rfl rfl)) hD ?_
 refine zw 31 240 rfl (QD rfl rfl rfl) hD ?_
 refine zT 32 rfl (Q5 rfl rfl rfl) hD ?_
 refine zT 33 rfl (Qf rfl) hD ?_
 refine zw 34 247 rfl (Qf rfl) hD ?_
 refine zw 35 247 rfl (zX ZJ hS20) hD ?_
 refine zw 36 247 rfl (Qa rfl Yw) hD ?_
 refine zw 37 247 rfl (Qc rfl Ql (fun hg=>by exact zzf hS20 (k:=1) rfl rfl)) hD ?_
 refine zw 38 247 rfl (QD rfl rfl rfl) hD ?_
 refine zT 39 rfl (Q5 rfl rfl rfl) hD ?_
 refine zT 40 rfl (Qf rfl) hD ?_
 refine zw 41 254 rfl (Qf rfl) hD ?_
 refine zw 42 254 rfl (Q4 rfl Kz) hD ?_
 refine zw 43 254 rfl (QD rfl rfl rfl) hD ?_
 refine zT 44 rfl (Q5 rfl rfl rfl) hD ?_
 refine zT 45 rfl (Qf rfl) hD ?_
 refine zw 46 259 rfl (Qf rfl) hD ?_
 refine zw 47 259 rfl (zX Kz hS16) hD ?_
 refine zw 48 259 rfl (Qg rfl JR (fun hg=>by exact zzn hS16 (k:=0) rfl) rfl) hD ?_
 refine qd 49 rfl ?_
 refine QN (dj:=259) rfl rfl rfl ?_
 refine qcV (vs:=[_,_]) rfl zek (zdY _ 3 5) ?_
 refine Qb ?_
 refine zD hD ?_
 refine qd 50 rfl ?_
 refine QN (dj:=259) rfl rfl rfl ?_
 refine zV (zik [_,_,_,_,_] rfl zoo rfl) ?_
 refine Qb ?_
 refine zD hD ?_
 refine zw 51 259 rfl (UJ rfl rfl zhm rfl) hD ?_
 refine zT 52 rfl (Q5 rfl rfl rfl) hD ?_
 refine zT 53 rfl (Qf rfl) hD ?_
 refine zw 54 267 rfl (Qf rfl) hD ?_
 refine zw 55 267 rfl (Q4 rfl Kq) hD ?_
 refine zw 56 267 rfl (QD rfl rfl rfl) hD ?_
 refine zT 57 rfl (Q5 rfl rfl rfl) hD ?_
 refine zT 58 rfl (Qf rfl) hD ?_
 refine zw 59 272 rfl (Qa rfl Zr) hD ?_
 refine zw 60 272 rfl (Qc rfl Yq (fun hg=>by exact QA.imm h27.out rfl)) hD ?_
 refine zw 61 272 rfl (Qf rfl) hD ?_
 refine qd 62 rfl ?_
 refine QN (dj:=272) rfl rfl rfl ?_
 refine qcV (vs:=[_,_]) rfl zeN (zrY hLn h13 hdz (by omega)) ?_
 refine Qb ?_
 refine zD hD ?_
 refine zT 63 rfl (Q5 rfl rfl rfl) hD ?_
 refine zT 64 rfl (QC rfl) hD ?_
 refine Qn (by kernel_rfl) ?_
 refine Qx ?_
 refine Qd (Qs ?_)
 exact Qv rfl rfl (fun w hw=>⟨by rfl,(hw.mono hIc).subL QB⟩)
end
section
open Go Go.Kn Go.Proofs
section
variable {I:Qt} {pa qa aa:Option Addr} {pn pc qn qc an ac m k:Nat} {ps:List Pe} {qs:List Pk} {ks:List (Int×Int)} {r:Rd} {ts:List Nt}
theorem zoK {x:Nt}(hN:Nd I x.pt)(hf:QP (Yr x)=true):x.pt.n≤100000:=by
 have hl:x.pt.needs.length=x.pt.n:=hN.len
 have:=(Xv hl (by rw [←VL hl.symm];exact hf)).1
 omega
end
end
section
open Go Go.Kn Go.Proofs
theorem zwA:Fun Tryz.prog 10:=.of Tryz.func10 (by kernel_rfl) (by kernel_rfl)
end
section
open Go Go.Kn Go.Proofs
theorem zkB {xs:List Nt}(h:zdI xs):xs.Pairwise (fun x y=>Vh x y<0):=
 List.pairwise_iff_getElem.2 fun i j hi hj hij=>h i j _ _ hij (List.getElem?_eq_getElem hi) (List.getElem?_eq_getElem hj)
theorem zvt {xs:List Nt}(h:xs.Pairwise (fun x y=>Vh x y<0)):zdI xs:=fun i j x y hij hx hy=>by
 obtain ⟨hi,rfl⟩:=List.getElem?_eq_some_iff.1 hx
 obtain ⟨hj,rfl⟩:=List.getElem?_eq_some_iff.1 hy
 exact List.pairwise_iff_getElem.1 h i j hi hj hij
theorem zpU:∀ {xs ys:List Nt},xs.Pairwise (fun x y=>Vh x y<0)→ys.Pairwise (fun x y=>Vh x y<0)→(∀ y,y∈xs↔y∈ys)→xs=ys
 | [],[],_,_,_=>rfl
 | [],b::bs,_,_,h=>by have:=(h b).2 (List.mem_cons_self ..);cases this
 | a::al,[],_,_,h=>by have:=(h a).1 (List.mem_cons_self ..);cases this
 | a::al,b::bs,hx,hz,h=>by
  obtain ⟨x1,x2⟩:=List.pairwise_cons.1 hx
  obtain ⟨y1,y2⟩:=List.pairwise_cons.1 hz
  have e:a=b:=by
   rcases List.mem_cons.1 ((h a).1 (List.mem_cons_self ..)) with e | h1
   ·
    exact e
   ·
    rcases List.mem_cons.1 ((h b).2 (List.mem_cons_self ..)) with e | h2
    ·
     exact e.symm
    ·
     have h3:=y1 a h1
     have h4:=x1 b h2
     rw [UC] at h4
     omega
  subst e
  refine congrArg _ (zpU x2 y2 fun y=>⟨fun hy=>?_,fun hy=>?_⟩)
  ·
   rcases List.mem_cons.1 ((h y).1 (List.mem_cons_of_mem _ hy)) with rfl | h1
   ·
    have:=x1 y hy;rw [KW] at this;omega
   ·
    exact h1
  ·
   rcases List.mem_cons.1 ((h y).2 (List.mem_cons_of_mem _ hy)) with rfl | h1
   ·
    have:=y1 y hy;rw [KW] at this;omega
   ·
    exact h1
theorem zoT {xs ys:List Nt}(hx:zdI xs)(hy:zdI ys)(h:∀ y,y∈xs↔y∈ys):xs=ys:=zpU (zkB hx) (zkB hy) h
section
variable {m:Nat} {r:Rd} {told:List Nt} {x:Ev}
end
end
end Go.Proofs.YtjblkbkmblkgoaaGreat
namespace Go.Kn
section
open Go Go.Proofs
theorem XY:∀ (a b:List UInt8),Op.bytesLess a b=decide (Lib.compareBytes a b<0)
 | [],[]=>rfl
 | [],_::_=>rfl
 | _::_,[]=>rfl
 | x::a,y::b=>by
  unfold Op.bytesLess Lib.compareBytes
  rw [XY a b]
  by_cases h:x<y
  ·
   simp [h]
  ·
   by_cases h2:y<x
   ·
    have:(x==y)=false:=by
     rw [beq_eq_false_iff_ne];rintro rfl;exact h h2
    simp [h,h2,this]
   ·
    have e:x=y:=UInt8.le_antisymm (UInt8.not_lt.1 h2) (UInt8.not_lt.1 h)
    subst e;simp [h]
section
variable {C:Cx} {E:Env} {I:Qt} {loc:Loc} {S:GS} {dst:Option Tmp} {pos:String} {af:Array Edge} {gd:Option (Nat×Bool)} {x y:Operand}
theorem WF {t t' ty:TypeId}{s1 s2:ByteArray}(hx:QE S E x=some (.string s1))(hy:QE S E y=some (.string s2)):QV C S E I loc ⟨dst,.binOp .lss t x y t',ty,pos,af,gd⟩ (.bool (decide (Lib.compareBytes s1.data.toList s2.data.toList<0))):=
 .of (by intro c e;cases e) fun a w ha hg hc _=>by
  have e1:∀ op x y t (a b:ByteArray),(eqGuard op t x y (.string a) (.string b)).run C.P w= .ok () w:=by intros;unfold eqGuard;rename_i op _ _ _ _ _;cases op<;>rfl
  have e3:decide (Lib.compareBytes s1.data.toList s2.data.toList<0)=Op.bytesLess s1.toList s2.toList:=by rw [ByteArray.toList_eq,ByteArray.toList_eq,XY]
  rw [e3]
  simp only [execOp,Qh ha hg hc hx,Qh ha hg hc hy,Sem.run_bind,e1,Result.andThen]
  rfl
end
end
end Go.Kn
namespace Go.Proofs.YtjblkbkmblkgoaaGreat
section
open Go Go.Kn Go.Proofs
theorem zwL:Fun Tryz.prog 88:=.of Tryz.func88 (by kernel_rfl) (by kernel_rfl)
theorem zm9 {I:Qt}(x y:Nt)(hX:NtM I x)(hY:NtM I y):Vl Tryz.prog 88 [Kj x,Kj y] I [] (fun v I' L'=>L'=[]∧v= .bool (decide (Vh x y<0))):=by
 intro g H w hw
 refine qe Tryz.func88 Tryz.ntmps88 hw ?_
 have hIc:=zzm I
 refine zR ?_
 refine QR rfl rfl rfl (fun b_2=>?_)
 refine QR rfl rfl rfl (fun b_3=>?_)
 refine zA (Qb ?_)
 refine QH .here (fun I1 hI1 hb1=>?_)
 have hX:=hX.mono hI1;have hY:=hY.mono hI1;have hIc:=hIc.trans hI1
 have h3:=BxI.of hb1
 refine QH .here (fun I2 hI2 hb2=>?_)
 have hX:=hX.mono hI2;have hY:=hY.mono hI2;have h3:=h3.mono hI2;have hIc:=hIc.trans hI2
 have h2:=BxI.of hb2
 refine Qd (Qm ?_)
 have hD:=zzm I2
 refine Zt ?_
 refine QQ I2 [] mixed ?_
 refine zT 0 rfl (Qg rfl Zf (fun hg=>by exact BxI.cells (vs:=Q6 x) h2) rfl) hD ?_
 refine QW 1 3 rfl rfl (by kernel_rfl) ?_ ?_
 ·
  refine zpc [_] rfl X8 .nil (X1 x hX.nd hX.nn hX.ok hX.len) ?_
  rintro vv3 I3 L3 hI3 ⟨rfl,a1,c1,rfl,hS1⟩
  have hY:=hY.mono hI3;have h3:=h3.mono hI3;have hIc:=hIc.trans hI3;have hD:=hD.trans hI3
  refine Qb ?_
  refine zD hD ?_
  refine QW 2 3 rfl rfl (by kernel_rfl) ?_ ?_
  ·
   refine zV (Zv rfl bst (fun hg=>hS1)) ?_
   refine Qb ?_
   refine zD hD ?_
   refine qd 3 rfl ?_
   refine zV (Qg rfl Zf (fun hg=>by exact BxI.cells (vs:=Q6 y) h3) rfl) ?_
   refine Qb ?_
   refine zD hD ?_
   refine qd 4 rfl ?_
   refine zpc [_] rfl X8 .nil (X1 y hY.nd hY.nn hY.ok hY.len) ?_
   rintro vv4 I4 L4 hI4 ⟨rfl,a2,c2,rfl,hS2⟩
   have hIc:=hIc.trans hI4;have hD:=hD.trans hI4
   refine Qb ?_
   refine zD hD ?_
   refine qd 5 rfl ?_
   refine zV (Zv rfl bst (fun hg=>hS2)) ?_
   refine Qb ?_
   refine zD hD ?_
   refine zT 6 rfl (WF rfl rfl) hD ?_
   refine zT 7 rfl (QC rfl) hD ?_
   refine Qn (by kernel_rfl) ?_
   refine Qx ?_
   refine Qd (Qs ?_)
   exact Qv rfl rfl (fun w hw=>⟨_,I4,[],rfl,hIc,hw.subL QB,rfl,rfl⟩)
  refine zV (Qg rfl Zf (fun hg=>by exact BxI.cells (vs:=Q6 y) h3) rfl) ?_
  refine Qb ?_
  refine zD hD ?_
  refine QW 2 4 rfl rfl (by kernel_rfl) ?_ ?_
  ·
   refine zV (Zv rfl bst (fun hg=>hS1)) ?_
   refine Qb ?_
   refine zD hD ?_
   refine qd 4 rfl ?_
   refine zpc [_] rfl X8 .nil (X1 y hY.nd hY.nn hY.ok hY.len) ?_
   rintro vv5 I5 L5 hI5 ⟨rfl,a2,c2,rfl,hS2⟩
   have hIc:=hIc.trans hI5;have hD:=hD.trans hI5
   refine Qb ?_
   refine zD hD ?_
   refine qd 5 rfl ?_
   refine zV (Zv rfl bst (fun hg=>hS2)) ?_
   refine Qb ?_
   refine zD hD ?_
   refine zT 6 rfl (WF rfl rfl) hD ?_
   refine zT 7 rfl (QC rfl) hD ?_
   refine Qn (by kernel_rfl) ?_
   refine Qx ?_
   refine Qd (Qs ?_)
   exact Qv rfl rfl (fun w hw=>⟨_,I5,[],rfl,hIc,hw.subL QB,rfl,rfl⟩)
  refine zpc [_] rfl X8 .nil (X1 y hY.nd hY.nn hY.ok hY.len) ?_
  rintro vv6 I6 L6 hI6 ⟨rfl,a2,c2,rfl,hS2⟩
  have hS1:=hS1.mono hI6;have hIc:=hIc.trans hI6;have hD:=hD.trans hI6
  refine Qb ?_
  refine zD hD ?_
  refine QW 2 5 rfl rfl (by kernel_rfl) ?_ ?_
  ·
   refine zV (Zv rfl bst (fun hg=>hS1)) ?_
   refine Qb ?_
   refine zD hD ?_
   refine qd 5 rfl ?_
   refine zV (Zv rfl bst (fun hg=>hS2)) ?_
   refine Qb ?_
   refine zD hD ?_
   refine zT 6 rfl (WF rfl rfl) hD ?_
   refine zT 7 rfl (QC rfl) hD ?_
   refine Qn (by kernel_rfl) ?_
   refine Qx ?_
   refine Qd (Qs ?_)
   exact Qv rfl rfl (fun w hw=>⟨_,I6,[],rfl,hIc,hw.subL QB,rfl,rfl⟩)
  refine zV (Zv rfl bst (fun hg=>hS2)) ?_
  refine Qb ?_
  refine zD hD ?_
  refine qd 2 rfl ?_
  refine zV (Zv rfl bst (fun hg=>hS1)) ?_
  refine Qb ?_
  refine zD hD ?_
  refine zT 6 rfl (WF rfl rfl) hD ?_
  refine zT 7 rfl (QC rfl) hD ?_
  refine Qn (by kernel_rfl) ?_
  refine Qx ?_
  refine Qd (Qs ?_)
  exact Qv rfl rfl (fun w hw=>⟨_,I6,[],rfl,hIc,hw.subL QB,rfl,rfl⟩)
 refine zV (Qg rfl Zf (fun hg=>by exact BxI.cells (vs:=Q6 y) h3) rfl) ?_
 refine Qb ?_
 refine zD hD ?_
 refine qd 1 rfl ?_
 refine zpc [_] rfl X8 .nil (X1 x hX.nd hX.nn hX.ok hX.len) ?_
 rintro vv7 I7 L7 hI7 ⟨rfl,a1,c1,rfl,hS1⟩
 have hY:=hY.mono hI7;have hIc:=hIc.trans hI7;have hD:=hD.trans hI7
 refine Qb ?_
 refine zD hD ?_
 refine QW 2 4 rfl rfl (by kernel_rfl) ?_ ?_
 ·
  refine zV (Zv rfl bst (fun hg=>hS1)) ?_
  refine Qb ?_
  refine zD hD ?_
  refine qd 4 rfl ?_
  refine zpc [_] rfl X8 .nil (X1 y hY.nd hY.nn hY.ok hY.len) ?_
  rintro vv8 I8 L8 hI8 ⟨rfl,a2,c2,rfl,hS2⟩
  have hIc:=hIc.trans hI8;have hD:=hD.trans hI8
  refine Qb ?_
  refine zD hD ?_
  refine qd 5 rfl ?_
  refine zV (Zv rfl bst (fun hg=>hS2)) ?_
  refine Qb ?_
  refine zD hD ?_
  refine zT 6 rfl (WF rfl rfl) hD ?_
  refine zT 7 rfl (QC rfl) hD ?_
  refine Qn (by kernel_rfl) ?_
  refine Qx ?_
  refine Qd (Qs ?_)
  exact Qv rfl rfl (fun w hw=>⟨_,I8,[],rfl,hIc,hw.subL QB,rfl,rfl⟩)
 refine zpc [_] rfl X8 .nil (X1 y hY.nd hY.nn hY.ok hY.len) ?_
 rintro vv9 I9 L9 hI9 ⟨rfl,a2,c2,rfl,hS2⟩
 have hS1:=hS1.mono hI9;have hIc:=hIc.trans hI9;have hD:=hD.trans hI9
 refine Qb ?_
 refine zD hD ?_
 refine QW 2 5 rfl rfl (by kernel_rfl) ?_ ?_
 ·
  refine zV (Zv rfl bst (fun hg=>hS1)) ?_
  refine Qb ?_
  refine zD hD ?_
  refine qd 5 rfl ?_
  refine zV (Zv rfl bst (fun hg=>hS2)) ?_
  refine Qb ?_
  refine zD hD ?_
  refine zT 6 rfl (WF rfl rfl) hD ?_
  refine zT 7 rfl (QC rfl) hD ?_
  refine Qn (by kernel_rfl) ?_
  refine Qx ?_
  refine Qd (Qs ?_)
  exact Qv rfl rfl (fun w hw=>⟨_,I9,[],rfl,hIc,hw.subL QB,rfl,rfl⟩)
 refine zV (Zv rfl bst (fun hg=>hS2)) ?_
 refine Qb ?_
 refine zD hD ?_
 refine qd 2 rfl ?_
 refine zV (Zv rfl bst (fun hg=>hS1)) ?_
 refine Qb ?_
 refine zD hD ?_
 refine zT 6 rfl (WF rfl rfl) hD ?_
 refine zT 7 rfl (QC rfl) hD ?_
 refine Qn (by kernel_rfl) ?_
 refine Qx ?_
 refine Qd (Qs ?_)
 exact Qv rfl rfl (fun w hw=>⟨_,I9,[],rfl,hIc,hw.subL QB,rfl,rfl⟩)
end
section
open Go Go.Kn Go.Proofs
theorem zgI (I:Qt):U7 I none 0 0 []:=⟨.nil,fun x hx=>(by cases hx),fun x hx=>(by cases hx)⟩
end
section
open Go Go.Kn Go.Proofs
theorem zvw {w:Int}{q:Nat}(hw:0≤w)(hq:0<q):0≤w.tmod q∧w.tmod q<(q:Int):=by
 rw [Int.tmod_eq_emod_of_nonneg hw]
 exact ⟨Int.emod_nonneg _ (by omega),Int.emod_lt_of_pos _ (by omega)⟩
end
section
open Go Go.Kn Go.Proofs
theorem znl {I:Qt}{a b:Option Addr}{n c m d:Nat}{xs ys:List Nt}(hS:U7 I a n c xs)(hT:U7 I b m d ys)(h:xs.map Yr=ys.map Yr):smL xs ys=true:=
 (zfz hS.nd hT.nd).2 h
theorem zeM {I:Qt}{a:Option Addr}{n c:Nat}{xs:List Nt}(hS:U7 I a n c xs)(hv:ZG (xs.map Yr)=true):∀ x∈xs,x.pt.n≤100000:=fun x hx=>
 zoK (hS.nd x hx) ((Vz hv).2.1 _ (List.mem_map.2 ⟨x,hx,rfl⟩))
end
section
open Go Go.Kn Go.Proofs
theorem zvr {I:Qt}{av bv:Option Addr}{n c m d:Nat}{xs ys:List Nt}(hS:U7 I av n c xs)(hT:U7 I bv m d ys)(h:xs.map Yr=ys.map Yr)(hsm:∀ x∈xs,x.pt.n≤100000)(hn:n≤100000):ZA Tryz.prog 31 [.slice av n c,.slice bv m d] I (.bool true):=by
 have h2:=zvG hS.sl hT.sl hS.nd hT.nd hsm hn
 rw [znl hS hT h] at h2;exact h2
end
section
open Go Go.Kn Go.Proofs
theorem zwt (cl cn:Int):zfd 1 cl cn=(Vp cl 0 2&&Vp cn 1 3):=by
 show (if Vp cl 0 2 then Vp cn 1 3 else false)=_
 cases Vp cl 0 2<;>rfl
theorem zug (cl cn:Int):zfd 2 cl cn=(Vp cl 0 2&&Vp cn 1 1048576):=by
 show (if Vp cl 0 2 then Vp cn 1 1048576 else false)=_
 cases Vp cl 0 2<;>rfl
theorem zdE (cl:Int):Vp cl 0 0=(cl==0):=by
 rw [Bool.eq_iff_iff];simp [Vp];omega
theorem zv2 (cl cn:Int):zfd 3 cl cn=((cl==0)&&Vp cn 1 16):=by
 rw [←zdE]
 show (if Vp cl 0 0 then Vp cn 1 16 else false)=_
 cases Vp cl 0 0<;>rfl
theorem zwH (cl cn:Int):zfd 4 cl cn=((cl==0)&&Vp cn 0 16):=by
 rw [←zdE]
 show (if Vp cl 0 0 then Vp cn 0 16 else false)=_
 cases Vp cl 0 0<;>rfl
theorem zwD (cl cn:Int):zfd 5 cl cn=((cl==0)&&Vp cn 0 500):=by
 rw [←zdE]
 show (if Vp cl 0 0 then Vp cn 0 500 else false)=_
 cases Vp cl 0 0<;>rfl
theorem zwU (cl cn:Int):zfd 6 cl cn=((cl==0)&&Vp cn 0 1048576):=by
 rw [←zdE]
 show (if Vp cl 0 0 then Vp cn 0 1048576 else false)=_
 cases Vp cl 0 0<;>rfl
theorem zkb {ck cl cn:Int}(h1:ck≠1)(h2:ck≠2)(h3:ck≠3)(h4:ck≠4)(h5:ck≠5)(h6:ck≠6):zfd ck cl cn=false:=
 zls (by simp [Vp];omega)
def okL (y x:Lm):Bool:=((y.no+1==x.ends)&&(y.person==x.person))&&decide (y.known≤x.known)
def zii (pre:List Lm)(x:Lm):Bool:=if x.ends=0 then true else if pre.any (fun y=>y.ends==x.ends) then false else pre.any (okL · x)
def rA (pre:List Lm)(x:Lm):Bool:=(!Vp x.no 0 1048576||(match pre.getLast? with | none=>false | some y=>decide (x.no≤y.no)))|| !Vp x.person 0 63
structure zvI (pre:List Lm):Prop where
 rng:∀ y∈pre,0≤y.no∧y.no≤1048576
 inc:pre.Pairwise (fun a b=>a.no<b.no)
 last:∀ y∈pre,y.no≤Wo pre
theorem zlp {xs:List Lm}:∀ {k:Nat},(∀ j y,j<k→xs[j]? =some y→zb2 (xs.take j) y=false)→k≤xs.length→zvI (xs.take k)
 | 0,_,_=>⟨fun y hy=>(by simp at hy),by simp,fun y hy=>(by simp at hy)⟩
 | k+1,h,hk=>by
  have ih:=zlp (k:=k) (fun j y hj hy=>h j y (by omega) hy) (by omega)
  have hx:xs[k]? =some xs[k]:=List.getElem?_eq_getElem (by omega)
  have hb:=h k _ (by omega) hx
  have ha:znn (Wo (xs.take k)) xs[k]=false:=by
   unfold zb2 at hb;simp only [Bool.or_eq_false_iff] at hb;exact hb.1.1.1
  unfold znn at ha
  simp only [Bool.or_eq_false_iff,decide_eq_false_iff_not] at ha
  have hl: -1≤Wo (xs.take k):=by
   unfold Wo
   cases hg:(xs.take k).getLast? with
   | none=>simp
   | some y=>
    have:=ih.rng y (List.mem_of_getLast? hg)
    simp;omega
  have hno:Wo (xs.take k)<xs[k].no:=by omega
  rw [Zh hx]
  refine ⟨fun y hy=>?_,List.pairwise_append.2 ⟨ih.inc,by simp,fun a ha b hb=>?_⟩,fun y hy=>?_⟩
  ·
   rcases List.mem_append.1 hy with hy | hy
   ·
    exact ih.rng y hy
   ·
    rw [List.mem_singleton.1 hy];omega
  ·
   rw [List.mem_singleton.1 hb]
   have:=ih.last a ha;omega
  ·
   rw [Ka]
   rcases List.mem_append.1 hy with hy | hy
   ·
    have:=ih.last y hy;omega
   ·
    rw [List.mem_singleton.1 hy];omega
theorem zxW {pre:List Lm}{x:Lm}(h:zvI pre):znn (Wo pre) x=rA pre x:=by
 unfold znn rA Wo
 cases hg:pre.getLast? with
 | none=>
  simp only [Bool.or_false]
  congr 1
  rw [Bool.eq_iff_iff];simp [Vp];omega
 | some y=>
  have:=h.rng y (List.mem_of_getLast? hg)
  simp only
  congr 1
  rw [Bool.eq_iff_iff];simp [Vp];omega
theorem zc7 {pre:List Lm}(h:pre.Pairwise (fun a b=>a.no<b.no))(n:Int)(y:Lm):Zx (knM pre) n=some y↔y∈pre∧y.no=n:=by
 have key:∀ (l pre:List Lm),(∀ n y,Zx (knM pre) n=some y↔y∈pre∧y.no=n)→(pre++l).Pairwise (fun a b=>a.no<b.no)→∀ n y,Zx (knM (pre++l)) n=some y↔y∈pre++l∧y.no=n:=by
  intro l
  induction l with
  | nil=>intro pre h _;simpa using h
  | cons x l ih=>
   intro pre h hp
   rw [show pre++x::l=(pre++[x])++l by simp] at hp ⊢
   refine ih (pre++[x]) (fun n y=>?_) hp
   rw [U2,V2]
   have hlt:∀ z∈pre,z.no<x.no:=fun z hz=>(List.pairwise_append.1 (List.pairwise_append.1 hp).1).2.2 z hz x (List.mem_singleton.2 rfl)
   split
   ·
    rename_i e
    subst e
    constructor
    ·
     intro e;cases e;simp
    ·
     rintro ⟨hm,e⟩
     rcases List.mem_append.1 hm with hm | hm
     ·
      have:=hlt y hm;omega
     ·
      rw [List.mem_singleton.1 hm]
   ·
    rename_i e
    rw [h n y]
    constructor
    ·
     rintro ⟨a,b⟩;exact ⟨List.mem_append_left _ a,b⟩
    ·
     rintro ⟨a,b⟩
     rcases List.mem_append.1 a with a | a
     ·
      exact ⟨a,b⟩
     ·
      rw [List.mem_singleton.1 a] at b;exact absurd b e
 have:=key pre [] (fun n y=>by simp [knM,Zx]) (by simpa using h)
 simpa using this n y
theorem zrA (pre:List Lm)(n:Int):(Zx (rpM pre) n).getD false=pre.any (fun y=>y.ends==n):=by
 have key:∀ (l pre:List Lm),(Zx (rpM pre) n).getD false=pre.any (fun y=>y.ends==n)→(Zx (rpM (pre++l)) n).getD false=(pre++l).any (fun y=>y.ends==n):=by
  intro l
  induction l with
  | nil=>intro pre h;simpa using h
  | cons x l ih=>
   intro pre h
   rw [show pre++x::l=(pre++[x])++l by simp]
   refine ih (pre++[x]) ?_
   rw [US,V2,List.any_append]
   split
   ·
    rename_i e;simp [e]
   ·
    rename_i e;rw [h];simp [e]
 have:=key pre [] (by simp [rpM,Zx])
 simpa using this
theorem zti {pre:List Lm}{x:Lm}(h:zvI pre)(hx: -9223372036854775808≤x.ends∧x.ends≤9223372036854775807):zrg (zg1 pre x).isSome ((Zx (rpM pre) x.ends).getD false) ((zg1 pre x).getD Vt) x= !zii pre x:=by
 unfold zrg zii
 rw [zrA]
 by_cases he:x.ends=0
 ·
  simp [he]
 ·
  rw [if_neg he]
  have hne:(x.ends != 0)=true:=by simpa using he
  rw [hne,Bool.true_and]
  cases hr:pre.any (fun y=>y.ends==x.ends) with
  | true=>simp
  | false=>
   rw [if_neg (by simp)]
   cases ho:zg1 pre x with
   | none=>
    have hno:pre.any (okL · x)=false:=by
     rw [List.any_eq_false]
     intro y hy
     have h1:=h.rng y hy
     unfold okL
     simp only [Bool.and_eq_true,beq_iff_eq,decide_eq_true_eq,not_and]
     intro h2 _
     exfalso
     have:zg1 pre x=some y:=(zc7 h.inc _ _).2 ⟨hy,by rw [YY (by omega)];omega⟩
     rw [ho] at this;cases this
    rw [hno];simp
   | some y=>
    obtain ⟨hy,e⟩:=(zc7 h.inc _ _).1 ho
    have h1:=h.rng y hy
    have e2:y.no+1=x.ends:=by
     by_cases hm:x.ends= -9223372036854775808
     ·
      rw [hm] at e
      have:IntKind.i64.wrap (-9223372036854775808-1)=9223372036854775807:=by decide
      omega
     ·
      rw [YY (by omega)] at e;omega
    have hall:pre.any (okL · x)=((y.person==x.person)&&decide (y.known≤x.known)):=by
     rw [Bool.eq_iff_iff,List.any_eq_true]
     constructor
     ·
      rintro ⟨z,hz,hz2⟩
      unfold okL at hz2
      simp only [Bool.and_eq_true,beq_iff_eq,decide_eq_true_eq] at hz2
      have:z=y:=by
       have h3:=(zc7 h.inc z.no z).2 ⟨hz,rfl⟩
       have h4:=(zc7 h.inc y.no y).2 ⟨hy,rfl⟩
       rw [show z.no=y.no by omega,h4] at h3;cases h3;rfl
      subst this
      simp [hz2.1.2,hz2.2]
     ·
      intro h3
      refine ⟨y,hy,?_⟩
      unfold okL
      simp only [Bool.and_eq_true,beq_iff_eq,decide_eq_true_eq] at h3 ⊢
      exact ⟨⟨e2,h3.1⟩,h3.2⟩
    rw [hall]
    simp only [Option.isSome_some,Option.getD_some,Bool.not_true,Bool.false_or]
    rw [Bool.eq_iff_iff]
    simp
theorem zki {pre:List Lm}{x:Lm}(h:x.ends=0):zii pre x=true:=if_pos h
theorem zot {pre:List Lm}{x y:Lm}(h:¬x.ends=0)(hy:y∈pre)(e:(y.ends==x.ends)=true):zii pre x=false:=by
 unfold zii
 rw [if_neg h,if_pos (List.any_eq_true.2 ⟨y,hy,e⟩)]
theorem zm2 {pre:List Lm}{x:Lm}(h:¬x.ends=0)(hn:pre.any (fun y=>y.ends==x.ends)=false):zii pre x=pre.any (okL · x):=by
 unfold zii
 rw [if_neg h,if_neg (by rw [hn];simp)]
theorem zap {α:Type}{xs:List α}{k:Nat}{y:α}{b:Bool}{p:α→Bool}(hy:xs[k]? =some y)(hb:b=(xs.take k).any p):(b||p y)=(xs.take (k+1)).any p:=by rw [zat hy,hb]
theorem ztI {xs:List Lm}{k:Nat}{x:Lm}(hk:k≤xs.length):((!Vp x.no 0 1048576||(decide ((k:Int)>0)&&decide (x.no≤(xs.getD ((k:Int)-1).toNat Vt).no)))|| !Vp x.person 0 63)=rA (xs.take k) x:=by
 unfold rA
 cases k with
 | zero=>simp
 | succ k=>
  have hx:xs[k]? =some xs[k]:=List.getElem?_eq_getElem (by omega)
  have e1:(((k+1:Nat):Int)-1).toNat=k:=by omega
  rw [e1,Zh hx,List.getLast?_append]
  simp [List.getD_eq_getElem?_getD,hx]
theorem zmo {xs:List Lm}{k:Nat}{x:Lm}(hk:k<xs.length):
  (Vp x.no 0 1048576=false∧rA (xs.take k) x=true)∨(Vp x.no 0 1048576=true∧decide ((k:Int)>0)=false∧rA (xs.take k) x= !Vp x.person 0 63)∨
  (∃ y,Vp x.no 0 1048576=true∧decide ((k:Int)>0)=true∧xs[((k:Int)-1).toNat]? =some y∧decide (x.no≤y.no)=true∧rA (xs.take k) x=true)∨
  (∃ y,Vp x.no 0 1048576=true∧decide ((k:Int)>0)=true∧xs[((k:Int)-1).toNat]? =some y∧decide (x.no≤y.no)=false∧rA (xs.take k) x= !Vp x.person 0 63):=by
 have e:=ztI (xs:=xs) (x:=x) (Nat.le_of_lt hk)
 cases hA:Vp x.no 0 1048576 with
 | false=>exact .inl ⟨rfl,by rw [←e,hA];simp⟩
 | true=>
  cases hB:decide ((k:Int)>0) with
  | false=>exact .inr (.inl ⟨rfl,rfl,by rw [←e,hA,hB];simp⟩)
  | true=>
   have hl:((k:Int)-1).toNat<xs.length:=by omega
   have hy:xs[((k:Int)-1).toNat]? =some (xs[((k:Int)-1).toNat]'hl):=List.getElem?_eq_getElem hl
   have hd:xs.getD ((k:Int)-1).toNat Vt=xs[((k:Int)-1).toNat]'hl:=by rw [List.getD_eq_getElem?_getD,hy];rfl
   rcases Bool.eq_false_or_eq_true (decide (x.no≤(xs[((k:Int)-1).toNat]'hl).no)) with hC | hC
   ·
    exact .inr (.inr (.inl ⟨_,rfl,rfl,hy,hC,by rw [←e,hA,hB,hd,hC];simp⟩))
   ·
    exact .inr (.inr (.inr ⟨_,rfl,rfl,hy,hC,by rw [←e,hA,hB,hd,hC];simp⟩))
theorem znI (x:Lm):((!Vp x.lo 0 x.hi||decide (x.hi>73048))|| !Vp x.known 0 134217727)=zmX x:=by
 unfold zmX
 congr 2
 rw [Bool.eq_iff_iff];simp [Vp]
theorem zxa {pre:List Lm}{x:Lm}(h:zvI pre)(hx: -9223372036854775808≤x.ends∧x.ends≤9223372036854775807):zb2 pre x=(((rA pre x||zmX x)||zmR x)|| !zii pre x):=by
 unfold zb2
 rw [zxW h,zti h hx]
end
section
open Go Go.Kn Go.Proofs
theorem KI:Fun Tryz.prog 141:=.of Tryz.func141 (by kernel_rfl) (by kernel_rfl)
theorem zlH:Fun Tryz.prog 142:=.of Tryz.func142 (by kernel_rfl) (by kernel_rfl)
theorem zmp:Fun Tryz.prog 143:=.of Tryz.func143 (by kernel_rfl) (by kernel_rfl)
theorem UK:Fun Tryz.prog 189:=.of Tryz.func189 (by kernel_rfl) (by kernel_rfl)
theorem zpQ:SzT Tryz.prog 30 3:=.of (by kernel_rfl)
theorem zwg:Y7 Tryz.prog 30 (.agg #[(.int .i64 0),(.int .i64 0),(.int .i64 0)]):=.of (by kernel_rfl)
theorem KG (I:Qt)(n lo hi:Int):ZA Tryz.prog 141 [.int .i64 n,.int .i64 lo,.int .i64 hi] I (.bool (Vp n lo hi)):=by
 intro g H w hw
 refine qe Tryz.func141 Tryz.ntmps141 hw ?_
 refine zR (zA ?_)
 refine zN (zR ?_)
 refine zM ?_
 refine zM ?_
 refine zC ?_
 refine zM ?_
 refine Qp 3 rfl rfl rfl ?_
 refine zK (Qf rfl) ?_
 refine zK (Qf rfl) ?_
 refine zK (QD rfl rfl rfl) ?_
 refine Qy rfl rfl rfl rfl rfl ?_
 refine zA (zN (Qs ?_))
 exact Qv rfl rfl (fun w hw=>⟨by rfl,hw⟩)
theorem ze8 (I:Qt)(n lo hi:Int):ZA Tryz.prog 189 [.int .i64 n,.int .i64 lo,.int .i64 hi] I (.bool (Vp n lo hi)):=by
 intro g H w hw
 refine qe Tryz.func189 Tryz.ntmps189 hw ?_
 refine zR (zA ?_)
 refine zN (zR ?_)
 refine zM ?_
 refine zM ?_
 refine zC ?_
 refine zM ?_
 refine Qp 3 rfl rfl rfl ?_
 refine zK (Qf rfl) ?_
 refine zK (Qf rfl) ?_
 refine zK (QD rfl rfl rfl) ?_
 refine Qy rfl rfl rfl rfl rfl ?_
 refine zA (zN (Qs ?_))
 exact Qv rfl rfl (fun w hw=>⟨by rfl,hw⟩)
theorem zp5 (I:Qt)(ck cl cn:Int):ZA Tryz.prog 142 [.agg #[.int .i64 ck,.int .i64 cl,.int .i64 cn]] I (.bool (zfd ck cl cn)):=by
 intro g H w hw
 refine qe Tryz.func142 Tryz.ntmps142 hw ?_
 have hIc:=zzm I
 refine zR ?_
 refine QR rfl rfl rfl (fun b_1=>?_)
 refine zA (Qb ?_)
 refine QH .here (fun I1 hI1 hb1=>?_)
 have hIc:=hIc.trans hI1
 have h1:=BxI.of hb1
 refine Qd (Qm (zR ?_))
 refine zF WX ?_
 refine zV (Qc rfl Ql (fun hg=>by exact QA.imm h1.out rfl)) ?_
 refine zN (Qw (zR (zC ?_)))
 refine zA (zN ?_)
 refine zI ?_ ?_<;>intro hc5
 ·
  refine zR ?_
  refine zF Jr ?_
  refine zV (Qc rfl Ql (fun hg=>by exact QA.imm h1.out rfl)) ?_
  refine qcV (vs:=[_,_,_]) rfl UK (ze8 _ _ _ _) ?_
  refine zM ?_
  refine Qp 3 rfl rfl rfl ?_
  refine zK (Qa rfl JX) ?_
  refine zK (Qc rfl Ql (fun hg=>by exact QA.imm h1.out rfl)) ?_
  refine qg (vs:=[_,_,_]) rfl UK (fun hg=>ze8 _ _ _ _) ?_
  refine Qy rfl rfl rfl rfl rfl ?_
  refine zA (zN (Qs (Qj (Qe ?_))))
  exact Qv rfl rfl (fun w hw=>⟨by rw [show ck=1 by simpa using hc5,zwt],(hw.mono hIc).subL QB⟩)
 have hk1:ck≠1:=by simpa using hc5
 refine zR (zC ?_)
 refine zA (zN ?_)
 refine zI ?_ ?_<;>intro hc15
 ·
  refine zR ?_
  refine zF Jr ?_
  refine zV (Qc rfl Ql (fun hg=>by exact QA.imm h1.out rfl)) ?_
  refine qcV (vs:=[_,_,_]) rfl UK (ze8 _ _ _ _) ?_
  refine zM ?_
  refine Qp 3 rfl rfl rfl ?_
  refine zK (Qa rfl JX) ?_
  refine zK (Qc rfl Ql (fun hg=>by exact QA.imm h1.out rfl)) ?_
  refine qg (vs:=[_,_,_]) rfl UK (fun hg=>ze8 _ _ _ _) ?_
  refine Qy rfl rfl rfl rfl rfl ?_
  refine zA (zN (Qs (Qj (Qe ?_))))
  exact Qv rfl rfl (fun w hw=>⟨by rw [show ck=2 by simpa using hc15,zug],(hw.mono hIc).subL QB⟩)
 have hk2:ck≠2:=by simpa using hc15
 refine zR (zC ?_)
 refine zA (zN ?_)
 refine zI ?_ ?_<;>intro hc25
 ·
  refine zR ?_
  refine zF Jr ?_
  refine zV (Qc rfl Ql (fun hg=>by exact QA.imm h1.out rfl)) ?_
  refine zC ?_
  refine zM ?_
  refine Qp 3 rfl rfl rfl ?_
  refine zK (Qa rfl JX) ?_
  refine zK (Qc rfl Ql (fun hg=>by exact QA.imm h1.out rfl)) ?_
  refine qg (vs:=[_,_,_]) rfl UK (fun hg=>ze8 _ _ _ _) ?_
  refine Qy rfl rfl rfl rfl rfl ?_
  refine zA (zN (Qs (Qj (Qe ?_))))
  exact Qv rfl rfl (fun w hw=>⟨by rw [show ck=3 by simpa using hc25,zv2],(hw.mono hIc).subL QB⟩)
 have hk3:ck≠3:=by simpa using hc25
 refine zR (zC ?_)
 refine zA (zN ?_)
 refine zI ?_ ?_<;>intro hc35
 ·
  refine zR ?_
  refine zF Jr ?_
  refine zV (Qc rfl Ql (fun hg=>by exact QA.imm h1.out rfl)) ?_
  refine zC ?_
  refine zM ?_
  refine Qp 3 rfl rfl rfl ?_
  refine zK (Qa rfl JX) ?_
  refine zK (Qc rfl Ql (fun hg=>by exact QA.imm h1.out rfl)) ?_
  refine qg (vs:=[_,_,_]) rfl UK (fun hg=>ze8 _ _ _ _) ?_
  refine Qy rfl rfl rfl rfl rfl ?_
  refine zA (zN (Qs (Qj (Qe ?_))))
  exact Qv rfl rfl (fun w hw=>⟨by rw [show ck=4 by simpa using hc35,zwH],(hw.mono hIc).subL QB⟩)
 have hk4:ck≠4:=by simpa using hc35
 refine zR (zC ?_)
 refine zA (zN ?_)
 refine zI ?_ ?_<;>intro hc45
 ·
  refine zR ?_
  refine zF Jr ?_
  refine zV (Qc rfl Ql (fun hg=>by exact QA.imm h1.out rfl)) ?_
  refine zC ?_
  refine zM ?_
  refine Qp 3 rfl rfl rfl ?_
  refine zK (Qa rfl JX) ?_
  refine zK (Qc rfl Ql (fun hg=>by exact QA.imm h1.out rfl)) ?_
  refine qg (vs:=[_,_,_]) rfl UK (fun hg=>ze8 _ _ _ _) ?_
  refine Qy rfl rfl rfl rfl rfl ?_
  refine zA (zN (Qs (Qj (Qe ?_))))
  exact Qv rfl rfl (fun w hw=>⟨by rw [show ck=5 by simpa using hc45,zwD],(hw.mono hIc).subL QB⟩)
 have hk5:ck≠5:=by simpa using hc45
 refine zR (zC ?_)
 refine zA (zN ?_)
 refine zI ?_ ?_<;>intro hc55
 ·
  refine zR ?_
  refine zF Jr ?_
  refine zV (Qc rfl Ql (fun hg=>by exact QA.imm h1.out rfl)) ?_
  refine zC ?_
  refine zM ?_
  refine Qp 3 rfl rfl rfl ?_
  refine zK (Qa rfl JX) ?_
  refine zK (Qc rfl Ql (fun hg=>by exact QA.imm h1.out rfl)) ?_
  refine qg (vs:=[_,_,_]) rfl UK (fun hg=>ze8 _ _ _ _) ?_
  refine Qy rfl rfl rfl rfl rfl ?_
  refine zA (zN (Qs (Qj (Qe ?_))))
  exact Qv rfl rfl (fun w hw=>⟨by rw [show ck=6 by simpa using hc55,zwU],(hw.mono hIc).subL QB⟩)
 have hk6:ck≠6:=by simpa using hc55
 refine Qr (Qk (Qd (zR (zA (zN (Qs ?_))))))
 exact Qv rfl rfl (fun w hw=>⟨by rw [zkb hk1 hk2 hk3 hk4 hk5 hk6],(hw.mono hIc).subL QB⟩)
theorem zhB {I:Qt}{av:Option Addr}{n c:Nat}{xs:List Lm}(hS:Sl I 9 Zl av n c xs){k:Nat}{x:Lm}(hx:xs[k]? =some x)(hn:n≤100000)(hL:zvI (xs.take k)):ZA Tryz.prog 143 [.slice av n c,.int .i64 k] I (.bool (zii (xs.take k) x)):=by
 intro g H w hw
 refine qe Tryz.func143 Tryz.ntmps143 hw ?_
 have hln:=hS.len
 have hkn:=(List.getElem?_eq_some_iff.1 hx).1
 refine zR (zA (zN (Qm (zR ?_))))
 refine zM ?_
 refine zM ?_
 refine zV (zX ZJ hS) ?_
 refine zF YH ?_
 refine zV (Qc rfl Ql (fun hg=>by exact zzo hS hx (j:=2) rfl)) ?_
 refine zC (zN ?_)
 refine zI ?_ ?_<;>intro hc12
 ·
  have he0:x.ends=0:=by simpa using hc12
  refine zR (zA (zN (Qs (Qe ?_))))
  exact Qv rfl rfl (fun w hw=>⟨by rw [zki he0],hw⟩)
 have he0:¬x.ends=0:=by simpa using hc12
 refine Qr (Qd (zR (zA (zN (Qm (zR ?_))))))
 refine zA (zN (Qw ?_))
 refine zU [(0,_),(1,_)] (fun T L0 mz E I' loc'=>∃ (i:Nat) (b:Bool),mz=k-i∧E=(5,.bool b)::(6,.int .i64 i)::T∧I=I'∧L0=loc'∧i≤k∧(xs.take i).any (fun y=>y.ends==x.ends)=false∧b=(xs.take i).any (okL · x)) ?_ (h:=⟨0,false,rfl,rfl,rfl,rfl,Nat.zero_le _,rfl,rfl⟩)
 rintro mz E I' loc' ⟨i,b,rfl,rfl,rfl,rfl,hi,hno,hb⟩
 refine Qm (zR (zM ?_))
 refine zM ?_
 refine zC (zN ?_)
 refine zI ?_ ?_<;>intro hc15
 ·
  have hlt_i:i<k:=by have h:=hc15;simp at h;omega
  obtain ⟨y,hy⟩:∃ y,xs[i]? =some y:=⟨_,List.getElem?_eq_getElem (by omega)⟩
  have hyt:y∈xs.take k:=List.mem_of_getElem? (by rw [List.getElem?_take_of_lt hlt_i];exact hy)
  have hyr:=hL.rng y hyt
  refine Qr (Qd (Qm (Qw (Qm (Qm ?_)))))
  have hD:=zzm I
  refine zi4 mixed ?_
  refine zT 0 rfl (Qf rfl) hD ?_
  refine zT 1 rfl (Qf rfl) hD ?_
  refine zT 2 rfl (zX ZJ hS) hD ?_
  refine zT 3 rfl (Qa rfl YH) hD ?_
  refine zT 4 rfl (Qc rfl Ql (fun hg=>by exact zzo hS hy (j:=2) rfl)) hD ?_
  refine zT 5 rfl (Qf rfl) hD ?_
  refine zT 6 rfl (Qf rfl) hD ?_
  refine zT 7 rfl (zX ZJ hS) hD ?_
  refine zT 8 rfl (Qa rfl YH) hD ?_
  refine zT 9 rfl (Qc rfl Ql (fun hg=>by exact zzo hS hx (j:=2) rfl)) hD ?_
  refine zT 10 rfl (QD rfl rfl rfl) hD ?_
  refine Qn (by kernel_rfl) ?_
  refine Qx ?_
  refine Qd ?_
  refine zI ?_ ?_<;>intro hc28
  ·
   refine zR (zA (zN (Qs (Qe (Qj (Qe (Qe ?_)))))))
   refine Qj (Qe ?_)
   exact Qv rfl rfl (fun w hw=>⟨by rw [zot he0 hyt hc28],hw⟩)
  have hno9:(xs.take (i+1)).any (fun y=>y.ends==x.ends)=false:=by rw [zat hy,hno,hc28];rfl
  refine Qr (Qd (Qm ?_))
  have hD:=zzm I
  refine zi4 mixed ?_
  refine zT 0 rfl (Qf rfl) hD ?_
  refine zT 1 rfl (Qf rfl) hD ?_
  refine zT 2 rfl (zX ZJ hS) hD ?_
  refine zT 3 rfl (Qa rfl Yw) hD ?_
  refine zT 4 rfl (Qc rfl Ql (fun hg=>by exact zzf hS hy rfl)) hD ?_
  refine zT 5 rfl (Yz rfl rfl rfl (fun hg=>by omega)) hD ?_
  refine zT 6 rfl (Qf rfl) hD ?_
  refine zT 7 rfl (Qf rfl) hD ?_
  refine zT 8 rfl (zX ZJ hS) hD ?_
  refine zT 9 rfl (Qa rfl YH) hD ?_
  refine zT 10 rfl (Qc rfl Ql (fun hg=>by exact zzo hS hx (j:=2) rfl)) hD ?_
  refine zT 11 rfl (QD rfl rfl rfl) hD ?_
  refine zT 12 rfl (Qf rfl) hD ?_
  refine Ub 12 rfl rfl rfl ?_
  refine zt1 13 rfl (Qf rfl) hD ?_
  refine zt1 14 rfl (Qf rfl) hD ?_
  refine zt1 15 rfl (zX ZJ hS) hD ?_
  refine zt1 16 rfl (Qa rfl V0) hD ?_
  refine zt1 17 rfl (Qc rfl Ql (fun hg=>by exact zzo hS hy (j:=1) rfl)) hD ?_
  refine zt1 18 rfl (Qf rfl) hD ?_
  refine zt1 19 rfl (Qf rfl) hD ?_
  refine zt1 20 rfl (zX ZJ hS) hD ?_
  refine zt1 21 rfl (Qa rfl V0) hD ?_
  refine zt1 22 rfl (Qc rfl Ql (fun hg=>by exact zzo hS hx (j:=1) rfl)) hD ?_
  refine zt1 23 rfl (QD rfl rfl rfl) hD ?_
  refine zta 24 rfl rfl rfl rfl hD ?_
  refine zT 25 rfl (Qf rfl) hD ?_
  refine Ub 25 rfl rfl rfl ?_
  refine zt1 26 rfl (Qf rfl) hD ?_
  refine zt1 27 rfl (Qf rfl) hD ?_
  refine zt1 28 rfl (zX ZJ hS) hD ?_
  refine zt1 29 rfl (Qa rfl J6) hD ?_
  refine zt1 30 rfl (Qc rfl Ql (fun hg=>by exact zzo hS hy (j:=5) rfl)) hD ?_
  refine zt1 31 rfl (Qf rfl) hD ?_
  refine zt1 32 rfl (Qf rfl) hD ?_
  refine zt1 33 rfl (zX ZJ hS) hD ?_
  refine zt1 34 rfl (Qa rfl J6) hD ?_
  refine zt1 35 rfl (Qc rfl Ql (fun hg=>by exact zzo hS hx (j:=5) rfl)) hD ?_
  refine zt1 36 rfl (QD rfl rfl rfl) hD ?_
  refine zta 37 rfl rfl rfl rfl hD ?_
  refine Qn (by kernel_rfl) ?_
  refine Qx ?_
  refine Qd ?_
  refine zI ?_ ?_<;>intro hc66
  ·
   have hb9:true=(xs.take (i+1)).any (okL · x):=by rw [←zap hy hb,show okL y x=true from hc66,Bool.or_true]
   refine Qi (zA (Qb (Qk (Qd (Qi ?_)))))
   refine zM ?_
   refine zB ?_
   refine zA (Qb ?_)
   exact zm (h:=⟨k-(i+1),by omega,i+1,_,rfl,rfl,rfl,rfl,by omega,hno9,hb9⟩)
  have hb9:b=(xs.take (i+1)).any (okL · x):=by rw [←zap hy hb,show okL y x=false from hc66,Bool.or_false]
  refine Qr (Qk (Qd (Qi (zM ?_))))
  refine zB ?_
  refine zA (Qb ?_)
  exact zm (h:=⟨k-(i+1),by omega,i+1,_,rfl,rfl,rfl,rfl,by omega,hno9,hb9⟩)
 have hge_i:k≤i:=by have h:=hc15;simp at h;omega
 obtain rfl:k=i:=by omega
 refine Zi (Qo (Qo (Qz (Qd (zR (zM ?_))))))
 refine zA (zN (Qs ?_))
 exact Qv rfl rfl (fun w hw=>⟨by rw [zm2 he0 hno,hb],hw⟩)
theorem zpO {I:Qt}{av:Option Addr}{n c:Nat}{xs:List Lm}(hS:Sl I 9 Zl av n c xs)(hn:n≤100000)(hw8:∀ y∈xs, -9223372036854775808≤y.ends∧y.ends≤9223372036854775807):ZA Tryz.prog 75 [.slice av n c] I (.int .i64 (zfI xs)):=by
 intro g H w hw
 refine qe Tryz.func75 Tryz.ntmps75 hw ?_
 have hIc:=zzm I
 have hln:=hS.len
 refine zR (zA (zN (Qm (zR ?_))))
 refine zM ?_
 refine zQ ZJ ?_
 refine zC (zN ?_)
 refine zI ?_ ?_<;>intro hc8
 ·
  have h5:xs.length>512:=by have h:=hc8;simp at h;omega
  refine zR (zA (zN (Qs (Qe ?_))))
  exact Qv rfl rfl (fun w hw=>⟨by rw [zhJ h5],(hw.mono hIc).subL QB⟩)
 have h5:¬xs.length>512:=by have h:=hc8;simp at h;omega
 refine Qr (Qd (Qm (zR (zA (zN (Qw ?_))))))
 refine zU [(0,_)] (fun T L0 mz E I' loc'=>∃ (k:Nat),mz=n-k∧E=(3,.int .i64 k)::T∧HLe I I'∧L0=loc'∧k≤n∧(∀ j y,j<k→xs[j]? =some y→zb2 (xs.take j) y=false)) ?_ (h:=⟨0,rfl,rfl,zzm _,rfl,Nat.zero_le _,fun j y h=>absurd h (Nat.not_lt_zero _)⟩)
 rintro mz E J1 loc' ⟨k,rfl,rfl,hJ,rfl,hk,hall⟩
 have hS:=hS.mono hJ;have hIc:=hIc.trans hJ
 have hB0:=hJ
 refine Qm (zR (zM ?_))
 refine zM ?_
 refine zQ ZJ ?_
 refine zC (zN ?_)
 refine zI ?_ ?_<;>intro hc12
 ·
  have hlt_k:k<n:=by have h:=hc12;simp at h;omega
  obtain ⟨x,hx⟩:∃ x,xs[k]? =some x:=⟨_,List.getElem?_eq_getElem (by omega)⟩
  have hL:=zlp hall (by omega)
  have hxw:=hw8 x (List.mem_of_getElem? hx)
  have hbr:=zxa hL hxw
  refine Qr (Qd (Qm (Qw (zR (zM ?_)))))
  refine zM ?_
  refine zV (zX ZJ hS) ?_
  refine zV (Qg rfl JP (fun hg=>by exact zzn hS hx) rfl) ?_
  refine Qq zeS rfl rfl (fun b_4=>?_)
  refine zh X4 ?_
  refine Qb ?_
  refine QH .here (fun I2 hI2 hb2=>?_)
  have hS:=hS.mono hI2;have hIc:=hIc.trans hI2;have hB0:=hB0.trans hI2
  have h4:=BxI.of hb2
  refine Qd (Qm (Qm ?_))
  rcases zmo (x:=x) (show k<xs.length by omega) with ⟨hA,hra⟩ | ⟨hA,hB,hra⟩ | ⟨y,hA,hB,hy,hC,hra⟩ | ⟨y,hA,hB,hy,hC,hra⟩
  ·
   have hD:=zzm I2
   refine Zt ?_
   refine QQ I2 [] mixed ?_
   refine zT 0 rfl (Qa rfl Yw) hD ?_
   refine zT 1 rfl (Qc rfl Ql (fun hg=>by exact QA.imm h4.out rfl)) hD ?_
   refine qd 2 rfl ?_
   refine qcV (vs:=[_,_,_]) rfl KI (KG _ _ _ _) ?_
   refine Qb ?_
   refine zD hD ?_
   refine zT 3 rfl (Zs rfl) hD ?_
   rw [hA]
   refine zT 4 rfl (Qf rfl) hD ?_
   refine zW 5 23 hD ?_
   refine zW 6 23 hD ?_
   refine zW 7 23 hD ?_
   refine zW 8 26 hD ?_
   refine zW 9 26 hD ?_
   refine zW 10 26 hD ?_
   refine zW 11 26 hD ?_
   refine zW 12 26 hD ?_
   refine zW 13 26 hD ?_
   refine zW 14 26 hD ?_
   refine zW 15 26 hD ?_
   refine zW 16 26 hD ?_
   refine zW 17 23 hD ?_
   refine zT 18 rfl (Y0 rfl rfl rfl) hD ?_
   refine zT 19 rfl (Qf rfl) hD ?_
   refine zW 20 38 hD ?_
   refine zW 21 38 hD ?_
   refine zW 22 38 hD ?_
   refine zW 23 38 hD ?_
   refine zT 24 rfl (Y0 rfl rfl rfl) hD ?_
   refine Qn (by kernel_rfl) ?_
   refine Qx ?_
   refine Qd ?_
   refine zI ?_ ?_<;>intro hc43
   ·
    refine zR (zA (zN (Qs (Qe (Qj (Qe (Qe ?_)))))))
    refine Qj (Qe ?_)
    exact Qv rfl rfl (fun w hw=>⟨by rw [VE h5 hx (by rw [hbr,hra];rfl)],(hw.mono hIc).subL QB⟩)
   cases hc43
  ·
   have hD:=zzm I2
   refine Zt ?_
   refine QQ I2 [] mixed ?_
   refine zT 0 rfl (Qa rfl Yw) hD ?_
   refine zT 1 rfl (Qc rfl Ql (fun hg=>by exact QA.imm h4.out rfl)) hD ?_
   refine qd 2 rfl ?_
   refine qcV (vs:=[_,_,_]) rfl KI (KG _ _ _ _) ?_
   refine Qb ?_
   refine zD hD ?_
   refine zT 3 rfl (Zs rfl) hD ?_
   rw [hA]
   refine zT 4 rfl (Qf rfl) hD ?_
   refine zw 5 23 rfl (Qf rfl) hD ?_
   refine zw 6 23 rfl (QD rfl rfl rfl) hD ?_
   rw [hB]
   refine zw 7 23 rfl (Qf rfl) hD ?_
   refine zW 8 26 hD ?_
   refine zW 9 26 hD ?_
   refine zW 10 26 hD ?_
   refine zW 11 26 hD ?_
   refine zW 12 26 hD ?_
   refine zW 13 26 hD ?_
   refine zW 14 26 hD ?_
   refine zW 15 26 hD ?_
   refine zW 16 26 hD ?_
   refine zw 17 23 rfl (Y0 rfl rfl rfl) hD ?_
   refine zT 18 rfl (Q5 rfl rfl rfl) hD ?_
   refine zT 19 rfl (Qf rfl) hD ?_
   refine zw 20 38 rfl (Qa rfl V0) hD ?_
   refine zw 21 38 rfl (Qc rfl Ql (fun hg=>by exact QA.imm h4.out rfl)) hD ?_
   refine qd 22 rfl ?_
   refine QN (dj:=38) rfl rfl rfl ?_
   refine qcV (vs:=[_,_,_]) rfl KI (KG _ _ _ _) ?_
   refine Qb ?_
   refine zD hD ?_
   refine zw 23 38 rfl (Zs rfl) hD ?_
   refine zT 24 rfl (Q5 rfl rfl rfl) hD ?_
   refine Qn (by kernel_rfl) ?_
   refine Qx ?_
   refine Qd ?_
   refine zI ?_ ?_<;>intro hc43
   ·
    refine zR (zA (zN (Qs (Qe (Qj (Qe (Qe ?_)))))))
    refine Qj (Qe ?_)
    exact Qv rfl rfl (fun w hw=>⟨by rw [VE h5 hx (by rw [hbr,hra,show (!Vp x.person 0 63)=true from hc43];rfl)],(hw.mono hIc).subL QB⟩)
   have q1:rA (xs.take k) x=false:=by rw [hra];exact hc43
   refine Qr (Qd (Qm (zR ?_)))
   refine zF UX ?_
   refine zV (Qc rfl Ql (fun hg=>by exact QA.imm h4.out rfl)) ?_
   refine zF Ku ?_
   refine zV (Qc rfl Ql (fun hg=>by exact QA.imm h4.out rfl)) ?_
   refine qcV (vs:=[_,_,_]) rfl KI (KG _ _ _ _) ?_
   refine zO ?_
   refine zM ?_
   refine QM 6 rfl rfl rfl ?_
   refine zJ (Qa rfl Ku) ?_
   refine zJ (Qc rfl Ql (fun hg=>by exact QA.imm h4.out rfl)) ?_
   refine zJ (QD rfl rfl rfl) ?_
   refine Zb rfl rfl rfl rfl rfl ?_
   refine zM ?_
   refine QM 11 rfl rfl rfl ?_
   refine zJ (Qa rfl J6) ?_
   refine zJ (Qc rfl Ql (fun hg=>by exact QA.imm h4.out rfl)) ?_
   refine qf (vs:=[_,_,_]) rfl KI (fun hg=>KG _ _ _ _) ?_
   refine zJ (Zs rfl) ?_
   refine Zb rfl rfl rfl rfl rfl ?_
   refine zN ?_
   refine zI ?_ ?_<;>intro hc60
   ·
    refine zR (zA (zN (Qs (Qe (Qj (Qe (Qe ?_)))))))
    refine Qj (Qe ?_)
    exact Qv rfl rfl (fun w hw=>⟨by rw [VE h5 hx (by rw [hbr,←znI,hc60];simp)],(hw.mono hIc).subL QB⟩)
   have q2:zmX x=false:=by rw [←znI];exact hc60
   refine Qr (Qd (zR ?_))
   refine zV (QK (ps:=[]) [_,_,_] zck rfl rfl) ?_
   refine Qq zwg rfl rfl (fun b_5=>?_)
   refine zh zpQ ?_
   refine Qb ?_
   refine QH .here (fun I3 hI3 hb3=>?_)
   have hS:=hS.mono hI3;have h4:=h4.mono hI3;have hIc:=hIc.trans hI3;have hB0:=hB0.trans hI3
   have h5z:=BxI.of hb3
   refine Qd (zR ?_)
   refine zF Js ?_
   refine zV (Qg rfl X6 (fun hg=>by exact Cells.part (pre:=[_,_,_,_,_,_]) (vs:=[_,_,_]) (post:=[]) (BxI.cells (vs:=Zl x) h4) rfl) rfl) ?_
   refine qcV (vs:=[_]) rfl zlH (zp5 _ _ _ _) ?_
   refine zO ?_
   refine zM ?_
   refine Qp 4 rfl rfl rfl ?_
   refine zK (Qa rfl Js) ?_
   refine zK (Qg rfl X6 (fun hg=>by exact Cells.part (pre:=[_,_,_,_,_,_]) (vs:=[_,_,_]) (post:=[]) (BxI.cells (vs:=Zl x) h4) rfl) rfl) ?_
   refine zK (Qg rfl X6 (fun hg=>by exact BxI.cells (vs:=[_,_,_]) h5z) rfl) ?_
   refine zK (zlr rfl rfl zl4 rfl) ?_
   refine zK (Qf rfl) ?_
   refine QM 9 rfl rfl rfl ?_
   refine zJ (Qa rfl YH) ?_
   refine zJ (Qc rfl Ql (fun hg=>by exact QA.imm h4.out rfl)) ?_
   refine zJ (QD rfl rfl rfl) ?_
   refine za6 rfl rfl rfl (.some rfl rfl rfl rfl gbt) rfl rfl ?_
   refine Qy rfl rfl rfl rfl rfl ?_
   refine zM ?_
   refine QM 15 rfl rfl rfl ?_
   refine zJ (Qf rfl) ?_
   refine zJ (Qf rfl) ?_
   refine qf (vs:=[_,_]) rfl zmp (fun hg=>zhB hS hx hn hL) ?_
   refine zJ (Zs rfl) ?_
   refine Zb rfl rfl rfl rfl rfl ?_
   refine zN ?_
   refine zI ?_ ?_<;>intro hc82
   ·
    refine zR (zA (zN (Qs (Qj (Qe (Qe (Qj ?_)))))))
    refine Qe ?_
    exact Qv rfl rfl (fun w hw=>⟨by rw [VE h5 hx (by rw [hbr,Bool.or_assoc,show (zmR x|| !zii (xs.take k) x)=true from hc82];simp)],(hw.mono hIc).subL QB⟩)
   have hbad:zb2 (xs.take k) x=false:=by rw [hbr,Bool.or_assoc,show (zmR x|| !zii (xs.take k) x)=false from hc82,q1,q2];rfl
   refine Qr (Qk (Qd (Qi (zM ?_))))
   refine zB ?_
   refine zA (Qb ?_)
   exact zm (h:=⟨n-(k+1),by omega,k+1,rfl,rfl,hB0,rfl,by omega,VA hx hall hbad⟩)
  ·
   have hk0:0<k:=by simpa using hB
   have hD:=zzm I2
   refine Zt ?_
   refine QQ I2 [] mixed ?_
   refine zT 0 rfl (Qa rfl Yw) hD ?_
   refine zT 1 rfl (Qc rfl Ql (fun hg=>by exact QA.imm h4.out rfl)) hD ?_
   refine qd 2 rfl ?_
   refine qcV (vs:=[_,_,_]) rfl KI (KG _ _ _ _) ?_
   refine Qb ?_
   refine zD hD ?_
   refine zT 3 rfl (Zs rfl) hD ?_
   rw [hA]
   refine zT 4 rfl (Qf rfl) hD ?_
   refine zw 5 23 rfl (Qf rfl) hD ?_
   refine zw 6 23 rfl (QD rfl rfl rfl) hD ?_
   rw [hB]
   refine zw 7 23 rfl (Qf rfl) hD ?_
   refine zw 8 26 rfl (Qa rfl Yw) hD ?_
   refine zw 9 26 rfl (Qc rfl Ql (fun hg=>by exact QA.imm h4.out rfl)) hD ?_
   refine zw 10 26 rfl (Qf rfl) hD ?_
   refine zw 11 26 rfl (Qf rfl) hD ?_
   refine zw 12 26 rfl (Yz rfl rfl rfl (fun hg=>by omega)) hD ?_
   refine zw 13 26 rfl (zX ZJ hS) hD ?_
   refine zw 14 26 rfl (Qa rfl Yw) hD ?_
   refine zw 15 26 rfl (Qc rfl Ql (fun hg=>by exact zzf hS hy rfl)) hD ?_
   refine zw 16 26 rfl (QD rfl rfl rfl) hD ?_
   rw [hC]
   refine zw 17 23 rfl (Q5 rfl rfl rfl) hD ?_
   refine zT 18 rfl (Q5 rfl rfl rfl) hD ?_
   refine zT 19 rfl (Qf rfl) hD ?_
   refine zW 20 38 hD ?_
   refine zW 21 38 hD ?_
   refine zW 22 38 hD ?_
   refine zW 23 38 hD ?_
   refine zT 24 rfl (Y0 rfl rfl rfl) hD ?_
   refine Qn (by kernel_rfl) ?_
   refine Qx ?_
   refine Qd ?_
   refine zI ?_ ?_<;>intro hc43
   ·
    refine zR (zA (zN (Qs (Qe (Qj (Qe (Qe ?_)))))))
    refine Qj (Qe ?_)
    exact Qv rfl rfl (fun w hw=>⟨by rw [VE h5 hx (by rw [hbr,hra];rfl)],(hw.mono hIc).subL QB⟩)
   cases hc43
  have hk0:0<k:=by simpa using hB
  have hD:=zzm I2
  refine Zt ?_
  refine QQ I2 [] mixed ?_
  refine zT 0 rfl (Qa rfl Yw) hD ?_
  refine zT 1 rfl (Qc rfl Ql (fun hg=>by exact QA.imm h4.out rfl)) hD ?_
  refine qd 2 rfl ?_
  refine qcV (vs:=[_,_,_]) rfl KI (KG _ _ _ _) ?_
  refine Qb ?_
  refine zD hD ?_
  refine zT 3 rfl (Zs rfl) hD ?_
  rw [hA]
  refine zT 4 rfl (Qf rfl) hD ?_
  refine zw 5 23 rfl (Qf rfl) hD ?_
  refine zw 6 23 rfl (QD rfl rfl rfl) hD ?_
  rw [hB]
  refine zw 7 23 rfl (Qf rfl) hD ?_
  refine zw 8 26 rfl (Qa rfl Yw) hD ?_
  refine zw 9 26 rfl (Qc rfl Ql (fun hg=>by exact QA.imm h4.out rfl)) hD ?_
  refine zw 10 26 rfl (Qf rfl) hD ?_
  refine zw 11 26 rfl (Qf rfl) hD ?_
  refine zw 12 26 rfl (Yz rfl rfl rfl (fun hg=>by omega)) hD ?_
  refine zw 13 26 rfl (zX ZJ hS) hD ?_
  refine zw 14 26 rfl (Qa rfl Yw) hD ?_
  refine zw 15 26 rfl (Qc rfl Ql (fun hg=>by exact zzf hS hy rfl)) hD ?_
  refine zw 16 26 rfl (QD rfl rfl rfl) hD ?_
  rw [hC]
  refine zw 17 23 rfl (Q5 rfl rfl rfl) hD ?_
  refine zT 18 rfl (Q5 rfl rfl rfl) hD ?_
  refine zT 19 rfl (Qf rfl) hD ?_
  refine zw 20 38 rfl (Qa rfl V0) hD ?_
  refine zw 21 38 rfl (Qc rfl Ql (fun hg=>by exact QA.imm h4.out rfl)) hD ?_
  refine qd 22 rfl ?_
  refine QN (dj:=38) rfl rfl rfl ?_
  refine qcV (vs:=[_,_,_]) rfl KI (KG _ _ _ _) ?_
  refine Qb ?_
  refine zD hD ?_
  refine zw 23 38 rfl (Zs rfl) hD ?_
  refine zT 24 rfl (Q5 rfl rfl rfl) hD ?_
  refine Qn (by kernel_rfl) ?_
  refine Qx ?_
  refine Qd ?_
  refine zI ?_ ?_<;>intro hc43
  ·
   refine zR (zA (zN (Qs (Qe (Qj (Qe (Qe ?_)))))))
   refine Qj (Qe ?_)
   exact Qv rfl rfl (fun w hw=>⟨by rw [VE h5 hx (by rw [hbr,hra,show (!Vp x.person 0 63)=true from hc43];rfl)],(hw.mono hIc).subL QB⟩)
  have q1:rA (xs.take k) x=false:=by rw [hra];exact hc43
  refine Qr (Qd (Qm (zR ?_)))
  refine zF UX ?_
  refine zV (Qc rfl Ql (fun hg=>by exact QA.imm h4.out rfl)) ?_
  refine zF Ku ?_
  refine zV (Qc rfl Ql (fun hg=>by exact QA.imm h4.out rfl)) ?_
  refine qcV (vs:=[_,_,_]) rfl KI (KG _ _ _ _) ?_
  refine zO ?_
  refine zM ?_
  refine QM 6 rfl rfl rfl ?_
  refine zJ (Qa rfl Ku) ?_
  refine zJ (Qc rfl Ql (fun hg=>by exact QA.imm h4.out rfl)) ?_
  refine zJ (QD rfl rfl rfl) ?_
  refine Zb rfl rfl rfl rfl rfl ?_
  refine zM ?_
  refine QM 11 rfl rfl rfl ?_
  refine zJ (Qa rfl J6) ?_
  refine zJ (Qc rfl Ql (fun hg=>by exact QA.imm h4.out rfl)) ?_
  refine qf (vs:=[_,_,_]) rfl KI (fun hg=>KG _ _ _ _) ?_
  refine zJ (Zs rfl) ?_
  refine Zb rfl rfl rfl rfl rfl ?_
  refine zN ?_
  refine zI ?_ ?_<;>intro hc60
  ·
   refine zR (zA (zN (Qs (Qe (Qj (Qe (Qe ?_)))))))
   refine Qj (Qe ?_)
   exact Qv rfl rfl (fun w hw=>⟨by rw [VE h5 hx (by rw [hbr,←znI,hc60];simp)],(hw.mono hIc).subL QB⟩)
  have q2:zmX x=false:=by rw [←znI];exact hc60
  refine Qr (Qd (zR ?_))
  refine zV (QK (ps:=[]) [_,_,_] zck rfl rfl) ?_
  refine Qq zwg rfl rfl (fun b_5=>?_)
  refine zh zpQ ?_
  refine Qb ?_
  refine QH .here (fun I4 hI4 hb4=>?_)
  have hS:=hS.mono hI4;have h4:=h4.mono hI4;have hIc:=hIc.trans hI4;have hB0:=hB0.trans hI4
  have h5z:=BxI.of hb4
  refine Qd (zR ?_)
  refine zF Js ?_
  refine zV (Qg rfl X6 (fun hg=>by exact Cells.part (pre:=[_,_,_,_,_,_]) (vs:=[_,_,_]) (post:=[]) (BxI.cells (vs:=Zl x) h4) rfl) rfl) ?_
  refine qcV (vs:=[_]) rfl zlH (zp5 _ _ _ _) ?_
  refine zO ?_
  refine zM ?_
  refine Qp 4 rfl rfl rfl ?_
  refine zK (Qa rfl Js) ?_
  refine zK (Qg rfl X6 (fun hg=>by exact Cells.part (pre:=[_,_,_,_,_,_]) (vs:=[_,_,_]) (post:=[]) (BxI.cells (vs:=Zl x) h4) rfl) rfl) ?_
  refine zK (Qg rfl X6 (fun hg=>by exact BxI.cells (vs:=[_,_,_]) h5z) rfl) ?_
  refine zK (zlr rfl rfl zl4 rfl) ?_
  refine zK (Qf rfl) ?_
  refine QM 9 rfl rfl rfl ?_
  refine zJ (Qa rfl YH) ?_
  refine zJ (Qc rfl Ql (fun hg=>by exact QA.imm h4.out rfl)) ?_
  refine zJ (QD rfl rfl rfl) ?_
  refine za6 rfl rfl rfl (.some rfl rfl rfl rfl gbt) rfl rfl ?_
  refine Qy rfl rfl rfl rfl rfl ?_
  refine zM ?_
  refine QM 15 rfl rfl rfl ?_
  refine zJ (Qf rfl) ?_
  refine zJ (Qf rfl) ?_
  refine qf (vs:=[_,_]) rfl zmp (fun hg=>zhB hS hx hn hL) ?_
  refine zJ (Zs rfl) ?_
  refine Zb rfl rfl rfl rfl rfl ?_
  refine zN ?_
  refine zI ?_ ?_<;>intro hc82
  ·
   refine zR (zA (zN (Qs (Qj (Qe (Qe (Qj ?_)))))))
   refine Qe ?_
   exact Qv rfl rfl (fun w hw=>⟨by rw [VE h5 hx (by rw [hbr,Bool.or_assoc,show (zmR x|| !zii (xs.take k) x)=true from hc82];simp)],(hw.mono hIc).subL QB⟩)
  have hbad:zb2 (xs.take k) x=false:=by rw [hbr,Bool.or_assoc,show (zmR x|| !zii (xs.take k) x)=false from hc82,q1,q2];rfl
  refine Qr (Qk (Qd (Qi (zM ?_))))
  refine zB ?_
  refine zA (Qb ?_)
  exact zm (h:=⟨n-(k+1),by omega,k+1,rfl,rfl,hB0,rfl,by omega,VA hx hall hbad⟩)
 have hge_k:n≤k:=by have h:=hc12;simp at h;omega
 refine Zi (Qo (Qo (Qz (Qd (zR (zA (zN ?_)))))))
 refine Qs ?_
 exact Qv rfl rfl (fun w hw=>⟨by rw [zi1 h5 (fun j y hj hy=>hall j y (by omega) hy)],(hw.mono hIc).subL QB⟩)
end
end Go.Proofs.YtjblkbkmblkgoaaGreat
namespace Go.Proofs.YtjblkbkmblkgoaaGreat.S
section
open Go Go.Kn
def i64 (n:Int):Prop:= -9223372036854775808≤n∧n≤9223372036854775807
structure okR (x:Rt):Prop where
 no:i64 x.no
 kind:i64 x.kind
 edition:i64 x.edition
 holder:i64 x.holder
 sign:i64 x.sign
 ends:i64 x.ends
 lo:i64 x.lo
 hi:i64 x.hi
 known:i64 x.known
theorem zpI {n:Int}(h:i64 n):w64 n=n:=by
 unfold w64 IntKind.wrap
 simp only [IntKind.signed,IntKind.bits]
 obtain ⟨h1,h2⟩:=h
 first | omega | (simp;omega) | (rw [Int.emod_emod_of_dvd];omega)
theorem zrH (x:Rt):billF x=(zib x&&within x.edition 0 1048576&&zh5 x.name&&zh5 x.town&&(x.holder==0)&&(x.sign==0)&&(x.ends==0)):=by
 cases x
 simp only [billF,rtEq,zju,zib,zh5,within,zcE,beq_self_eq_true,Bool.true_and,Bool.and_true]
 rw [Bool.eq_iff_iff]
 simp only [Bool.and_eq_true,decide_eq_true_eq,beq_iff_eq]
 constructor
 ·
  rintro ⟨⟨⟨⟨a,b,c⟩,d⟩,e⟩,f⟩;refine ⟨⟨⟨⟨⟨⟨⟨⟨?_,?_⟩,?_⟩,?_⟩,e⟩,f⟩,?_⟩,?_⟩,?_⟩<;>(try simp_all)<;>omega
 ·
  rintro ⟨⟨⟨⟨⟨⟨a,b⟩,c⟩,d⟩,e⟩,f⟩,g⟩;simp_all
theorem zlt (x:Rt):heldF x=U5 x:=by
 cases x
 simp only [heldF,U5,rtEq,zju,zib,within,zb6,zcE,beq_self_eq_true,Bool.true_and,Bool.and_true]
 rw [Bool.eq_iff_iff]
 simp only [Bool.and_eq_true,decide_eq_true_eq,beq_iff_eq]
 constructor
 ·
  intro h;simp_all
 ·
  intro h;simp_all
theorem zjP {α:Type}{xs:List α}{p q:α→Bool}(h:∀ x∈xs,p x=q x):xs.any p=xs.any q:=by
 induction xs with
 | nil=>rfl
 | cons x xs ih=>rw [List.any_cons,List.any_cons,h x (List.mem_cons_self ..),ih (fun y hy=>h y (List.mem_cons_of_mem _ hy))]
def zfY (pre:List Rt)(bs:List (Int×Rt)):Prop:=∀ k,Zx bs k=pre.find? fun y=>y.no==k
theorem zo3 {n:Int}(h:0≤n∧n≤1048576):w64 (n+1)=n+1:=zpI ⟨by omega,by omega⟩
theorem znS {n m:Int}(hn:i64 n)(hm:0≤m∧m≤1048576):(m=w64 (n-1))↔m+1=n:=by
 by_cases h:n= -9223372036854775808
 ·
  subst h
  have:w64 (-9223372036854775808-1)=9223372036854775807:=by decide
  rw [this];omega
 ·
  rw [zpI (n:=n-1) ⟨by have:=hn.1;omega,by have:=hn.2;omega⟩];omega
theorem zpg {pre:List Rt}{p q:Rt→Bool}(huniq:∀ y∈pre,∀ z∈pre,p y=true→p z=true→y=z):(match pre.find? p with | none=>false | some y=>q y)=pre.any (fun y=>p y&&q y):=by
 cases h:pre.find? p with
 | none=>
  rw [List.find?_eq_none] at h
  symm
  rw [List.any_eq_false]
  intro y hy
  have:=h y hy
  simp [this]
 | some y=>
  have hp:=List.find?_some h
  have hm:=List.mem_of_find?_eq_some h
  show q y=_
  cases hq:q y with
  | true=>exact (List.any_eq_true.2 ⟨y,hm,show (p y&&q y)=true by rw [hp,hq];rfl⟩).symm
  | false=>
   symm
   rw [List.any_eq_false]
   intro z hz hpz
   rw [Bool.and_eq_true] at hpz
   have:=huniq y hm z hz hp hpz.1
   subst this
   rw [hq] at hpz
   exact absurd hpz.2 (by decide)
def zqw (pre:List Rt):Prop:=pre.Pairwise fun y z=>y.no<z.no
theorem zqw.uniq {pre:List Rt}(h:zqw pre){y z:Rt}(hy:y∈pre)(hz:z∈pre)(e:y.no=z.no):y=z:=by
 induction pre with
 | nil=>cases hy
 | cons p pre ih=>
  rw [zqw,List.pairwise_cons] at h
  rcases List.mem_cons.1 hy with e1 | hy<;>rcases List.mem_cons.1 hz with e2 | hz
  ·
   rw [e1,e2]
  ·
   have:=h.1 z hz;rw [e1] at e;omega
  ·
   have:=h.1 y hy;rw [e2] at e;omega
  ·
   exact ih h.2 hy hz
theorem zrO {pre:List Rt}{bs:List (Int×Rt)}{x:Rt}(hm:zfY pre bs)(hr:zqw pre)(hb:∀ y∈pre,0≤y.no∧y.no≤1048576)(hx:okR x):
  voidF x bs=(zga pre x&&(x.edition==0)&&(x.holder==0)&&(x.sign==0)&&Kr x.name zb6&&Kr x.town zb6&&(x.lo==0)&&(x.hi==0)):=by
 have e1:voidF x bs=((match pre.find? (fun y=>y.no==w64 (x.ends-1)) with | none=>false | some old=>(old.kind != 4)&&decide (old.known≤x.known))&&rtEq x {zeroR with no:=x.no,kind:=x.kind,ends:=x.ends,known:=x.known}):=by
  unfold voidF
  rw [hm]
  cases pre.find? (fun y=>y.no==w64 (x.ends-1))<;>rfl
 have e2:zga pre x=pre.any (fun y=>(y.no==w64 (x.ends-1))&&((y.kind != 4)&&decide (y.known≤x.known))):=by
  unfold zga
  apply zjP
  intro y hy
  have h1:=hb y hy
  have h2:(w64 (y.no+1)==x.ends)=(y.no==w64 (x.ends-1)):=by
   rw [Bool.eq_iff_iff,beq_iff_eq,beq_iff_eq,zo3 h1,znS hx.ends h1]
  rw [h2,Bool.and_assoc]
 rw [e1,zpg (fun y hy z hz h1 h2=>hr.uniq hy hz (by rw [beq_iff_eq] at h1 h2;rw [h1,h2])),e2]
 have e3:rtEq x {zeroR with no:=x.no,kind:=x.kind,ends:=x.ends,known:=x.known}=((x.edition==0)&&(x.holder==0)&&(x.sign==0)&&Kr x.name zb6&&Kr x.town zb6&&(x.lo==0)&&(x.hi==0)):=by
  cases x
  simp only [rtEq,zeroR,zb6,beq_self_eq_true,Bool.true_and,Bool.and_true,Bool.and_assoc]
 rw [e3]
 simp only [Bool.and_assoc]
theorem zwR {pre:List Rt}{bs:List (Int×Rt)}{x:Rt}(hm:zfY pre bs)(hr:zqw pre)(hb:∀ y∈pre,0≤y.no∧y.no≤1048576)(hx:okR x):
  (zcA x.kind&&askF x.kind x bs)=Wx pre x:=by
 unfold zcA askF Wx
 by_cases h1:x.kind=1
 ·
  rw [h1];simp only [if_true,beq_self_eq_true,Bool.true_or,Bool.true_and,zrH]
 ·
  by_cases h2:x.kind=2
  ·
   rw [h2];simp [zlt]
  ·
   by_cases h3:x.kind=3
   ·
    rw [h3];simp [zlt]
   ·
    by_cases h4:x.kind=4
    ·
     rw [h4];simp [zrO hm hr hb hx]
    ·
     simp [h1,h2,h3,h4]
theorem zwp {pre:List Rt}{bs:List (Int×Rt)}{x y:Rt}{i:Nat}{last:Int}(hm:zfY pre bs)(hr:zqw pre)(hb:∀ y∈pre,0≤y.no∧y.no≤1048576)(hx:okR x)
  (h0:i=0→last= -1)(h1:0<i→last=y.no∧0≤last):rBad x bs last= !VQ i pre y x:=by
 have ha:=zwR hm hr hb hx
 unfold rBad VQ
 by_cases hA:(!within x.no 0 1048576||(decide ((i:Int)>0)&&decide (x.no≤y.no))|| !within x.known 0 134217727)=true
 ·
  rw [if_pos hA]
  simp only [Bool.not_false,Bool.or_eq_true,Bool.and_eq_true,within,Bool.not_eq_true',Bool.and_eq_false_iff,decide_eq_true_eq,decide_eq_false_iff_not] at hA ⊢
  rcases Nat.eq_zero_or_pos i with hi | hi
  ·
   have:=h0 hi;subst hi;omega
  ·
   have:=h1 hi;omega
 ·
  rw [if_neg hA]
  rw [←ha]
  simp only [Bool.or_eq_true,Bool.and_eq_true,within,Bool.not_eq_true',Bool.and_eq_false_iff,decide_eq_true_eq,decide_eq_false_iff_not] at hA
  have e1:decide (x.no≤last)=false:=by
   rcases Nat.eq_zero_or_pos i with hi | hi
   ·
    have:=h0 hi;subst hi;exact decide_eq_false (by omega)
   ·
    have:=h1 hi;exact decide_eq_false (by omega)
  have e2:decide (x.no>1048576)=false:=decide_eq_false (by omega)
  have e3:within x.known 0 134217727=true:=by simp only [within,Bool.and_eq_true,decide_eq_true_eq];omega
  rw [e1,e2,e3]
  cases zcA x.kind<;>cases askF x.kind x bs<;>rfl
theorem zhD (pre:List Rt)(x:Rt)(rest:List Rt):U9 (pre++x::rest) pre.length=VQ pre.length pre (zcx (pre++x::rest) pre.length) x:=by
 unfold U9
 rw [List.take_left' rfl]
 simp
theorem ziW (pre rest:List Rt)(h:0<pre.length):∃ y,pre[pre.length-1]? =some y∧zcx (pre++rest) pre.length=y:=by
 have h1:pre.length-1<pre.length:=by omega
 refine ⟨pre[pre.length-1],List.getElem?_eq_getElem h1,?_⟩
 unfold zcx
 rw [show ((pre.length:Int)-1).toNat=pre.length-1 from by omega,List.getElem?_append_left h1,List.getElem?_eq_getElem h1];rfl
theorem znu {i:Nat}{pre:List Rt}{x y:Rt}(h:VQ i pre y x=true):0≤x.no∧x.no≤1048576∧(0<i→y.no<x.no):=by
 unfold VQ at h
 split at h
 ·
  cases h
 ·
  rename_i hb
  simp only [Bool.or_eq_true,Bool.and_eq_true,within,Bool.not_eq_true',Bool.and_eq_false_iff,decide_eq_true_eq,decide_eq_false_iff_not] at hb
  refine ⟨by omega,by omega,fun hi=>by omega⟩
theorem zfY.step {pre:List Rt}{bs:List (Int×Rt)}{x:Rt}(hm:zfY pre bs)(hlt:∀ y∈pre,y.no<x.no):zfY (pre++[x]) (Ji bs x.no x):=by
 intro k
 rw [V2,List.find?_append,hm]
 by_cases h:x.no=k
 ·
  have:pre.find? (fun y=>y.no==k)=none:=List.find?_eq_none.2 fun y hy=>by have:=hlt y hy;simp;omega
  rw [if_pos h,this];simp [h]
 ·
  rw [if_neg h]
  have:([x]:List Rt).find? (fun y=>y.no==k)=none:=by simp [h]
  rw [this];simp
theorem zw2:∀ (rest pre:List Rt) (bs:List (Int×Rt)) (last:Int),zfY pre bs→zqw pre→(∀ y∈pre,0≤y.no∧y.no≤1048576∧y.no≤last)→(pre=[]→last= -1)→(∀ y,pre[pre.length-1]? =some y→last=y.no)→(∀ x∈rest,okR x)→
  rGo rest bs last=if (List.range' pre.length rest.length).all (U9 (pre++rest)) then 0 else 460
 | [],pre,bs,last,_,_,_,_,_,_=>by simp [rGo]
 | x::rest,pre,bs,last,hm,hr,hb,h0,h1,hx=>by
  have hbad:=zwp (x:=x) (y:=zcx (pre++x::rest) pre.length) (i:=pre.length) (last:=last) hm hr (fun y hy=>⟨(hb y hy).1,(hb y hy).2.1⟩) (hx x (List.mem_cons_self ..))
   (fun h=>h0 (List.length_eq_zero_iff.1 h)) (fun h=>by
    obtain ⟨y,hy,hp⟩:=ziW pre (x::rest) h
    rw [hp]
    have:=h1 y hy
    exact ⟨this,by rw [this];exact (hb y (List.mem_of_getElem? hy)).1⟩)
  rw [←zhD] at hbad
  rw [List.length_cons,List.range'_succ,List.all_cons,rGo,hbad]
  cases hg:U9 (pre++x::rest) pre.length with
  | false=>rfl
  | true=>
   rw [zhD] at hg
   obtain ⟨a,b,c⟩:=znu hg
   have hlast:∀ y∈pre,y.no<x.no:=fun y hy=>by
    have hl:0<pre.length:=List.length_pos_of_mem hy
    obtain ⟨z,hz,hp⟩:=ziW pre (x::rest) hl
    have h2:=c hl
    rw [hp] at h2
    have h3:=h1 z hz
    have h4:=(hb y hy).2.2
    omega
   have ih:=zw2 rest (pre++[x]) (Ji bs x.no x) x.no (hm.step hlast) (by
     unfold zqw
     rw [List.pairwise_append]
     exact ⟨hr,List.pairwise_singleton ..,fun y hy z hz=>by rw [List.mem_singleton] at hz;subst hz;exact hlast y hy⟩)
    (fun y hy=>by
     rcases List.mem_append.1 hy with hy | hy
     ·
      have:=hb y hy;have:=hlast y hy;omega
     ·
      rw [List.mem_singleton] at hy;subst hy;omega)
    (fun h=>by simp at h) (fun y hy=>by
     have:(pre++[x])[(pre++[x]).length-1]? =some x:=by simp
     rw [this] at hy;cases hy;rfl) (fun y hy=>hx y (List.mem_cons_of_mem _ hy))
   simp only [Bool.not_true,Bool.false_eq_true,if_false,Bool.true_and]
   rw [ih]
   simp only [List.length_append,List.length_singleton,List.append_assoc,List.singleton_append]
theorem check_eq {xs:List Rt}(hx:∀ x∈xs,okR x):rCheck xs=fCheck xs:=by
 unfold rCheck fCheck
 split
 ·
  rfl
 ·
  have:=zw2 xs [] [] (-1) (fun k=>rfl) .nil (fun y h=>by cases h) (fun _=>rfl) (fun y h=>by simp at h) hx
  rw [this,List.range_eq_range'];rfl
end
end Go.Proofs.YtjblkbkmblkgoaaGreat.S
namespace Go.Proofs.YtjblkbkmblkgoaaGreat
section
open Go Go.Kn Go.Proofs
theorem zxS {x:Lm}(h:x.ends=0):lmC x=[x]:=if_pos h
theorem zxK {x:Lm}(h:¬x.ends=0):lmC x=[⟨IntKind.i64.wrap (x.ends-1),x.person,0,0,0,0,3,0,1⟩,x]:=if_neg h
theorem zye {x:S.Rt}(h:x.ends=0):rtC x=[x]:=if_pos h
theorem zxL {x:S.Rt}(h:¬x.ends=0):rtC x=[⟨IntKind.i64.wrap (x.ends-1),1,0,0,0,0,⟨#[97]⟩,⟨#[97]⟩,0,0,0⟩,x]:=if_neg h
theorem zut {x:Lm}(h: -9223372036854775808≤x.ends∧x.ends≤9223372036854775807):∀ y∈lmC x, -9223372036854775808≤y.ends∧y.ends≤9223372036854775807:=fun y hy=>by
 unfold lmC at hy
 split at hy
 ·
  rw [List.mem_singleton.1 hy];exact h
 ·
  simp only [List.mem_cons,List.not_mem_nil,or_false] at hy
  rcases hy with rfl | rfl
  ·
   simp
  ·
   exact h
theorem zn6 (n:Int): -9223372036854775808≤IntKind.i64.wrap n∧IntKind.i64.wrap n≤9223372036854775807:=by
 unfold IntKind.wrap
 simp only [IntKind.signed,IntKind.bits]
 simp
 omega
theorem zyb {x:S.Rt}(h:S.okR x):∀ y∈rtC x,S.okR y:=fun y hy=>by
 unfold rtC at hy
 split at hy
 ·
  rw [List.mem_singleton.1 hy];exact h
 ·
  simp only [List.mem_cons,List.not_mem_nil,or_false] at hy
  rcases hy with rfl | rfl
  ·
   refine ⟨zn6 _,?_,?_,?_,?_,?_,?_,?_,?_⟩<;>simp [S.i64]
  ·
   exact h
theorem NtW.lm {x:Nt}(h:NtW x): -9223372036854775808≤x.lm.ends∧x.lm.ends≤9223372036854775807:=h.ints _ (by simp [YM])
theorem NtW.rt {x:Nt}(h:NtW x):S.okR x.rt:=
 ⟨h.ints _ (by simp [YM]),h.ints _ (by simp [YM]),h.ints _ (by simp [YM]),h.ints _ (by simp [YM]),h.ints _ (by simp [YM]),h.ints _ (by simp [YM]),h.ints _ (by simp [YM]),h.ints _ (by simp [YM]),h.ints _ (by simp [YM])⟩
theorem zi8 {x:S.Rt}(h:S.okR x):S.fCheck (rtC x)=S.rCheck (rtC x):=(S.check_eq (zyb h)).symm
theorem zxZ {I:Qt}{x:Nt}(hN:Nd I x.pt):smP x.pt Jh=z2 x:=by
 have hl:x.pt.needs.length=x.pt.n:=hN.len
 have e:(decide (x.pt.needs=Jh.needs))=((x.pt.n:Int)==0):=by
  rw [Bool.eq_iff_iff,decide_eq_true_eq,beq_iff_eq,←hl]
  show x.pt.needs=[]↔_
  rw [←List.length_eq_zero_iff];omega
 unfold smP smC z2
 rw [e]
 rw [Bool.eq_iff_iff]
 simp only [Bool.and_eq_true,Bool.not_eq_true',Bool.or_eq_false_iff,bne_eq_false_iff_eq,beq_iff_eq,Bool.not_eq_false']
 constructor
 ·
  rintro ⟨⟨⟨⟨⟨⟨h1,h2⟩,h3⟩,h4⟩,h5⟩,h6⟩,h7⟩
  exact ⟨⟨⟨⟨⟨h1,h2⟩,h3⟩,h4⟩,h5⟩,h7⟩
 ·
  rintro ⟨⟨⟨⟨⟨h1,h2⟩,h3⟩,h4⟩,h5⟩,h7⟩
  exact ⟨⟨⟨⟨⟨⟨h1,h2⟩,h3⟩,h4⟩,h5⟩,h7⟩,h7⟩
theorem zvU {x:Nt}(h:x.kind=1):QP x=(((zfI (lmC x.lm)==0&&z2 x)&&z3 x)&&z4 x):=by
 unfold QP Wg zaa
 rw [h,if_pos rfl]
 simp [Bool.and_assoc]
theorem zwT {x:Nt}(h:x.kind=2):QP x=(((z1 x&&(KO x.pt==0))&&z3 x)&&z4 x):=by
 unfold QP Wg zaa
 rw [h,if_neg (by decide),if_pos rfl]
 simp only [show ((2:Int)==1)=false by rfl,show ((2:Int)==2)=true by rfl,show ((2:Int)==3)=false by rfl,show ((2:Int)==4)=false by rfl,Bool.false_or,Bool.true_or,Bool.and_true]
 cases KO x.pt==0<;>cases z1 x<;>rfl
theorem zhy {x:Nt}(h:x.kind=3):QP x=(((z1 x&&z2 x)&&(L.chk [x.ls]==0))&&z4 x):=by
 unfold QP Wg zaa
 rw [h,if_neg (by decide),if_neg (by decide),if_pos rfl]
 simp only [show ((3:Int)==1)=false by rfl,show ((3:Int)==2)=false by rfl,show ((3:Int)==3)=true by rfl,show ((3:Int)==4)=false by rfl,Bool.false_or,Bool.true_or,Bool.and_true]
 cases L.chk [x.ls]==0<;>cases z1 x<;>cases z2 x<;>rfl
theorem zuZ {x:Nt}(h:x.kind=4):QP x=(((z1 x&&z2 x)&&z3 x)&&(S.rCheck (rtC x.rt)==0)):=by
 unfold QP Wg zaa
 rw [h,if_neg (by decide),if_neg (by decide),if_neg (by decide),if_pos rfl]
 simp only [show ((4:Int)==1)=false by rfl,show ((4:Int)==2)=false by rfl,show ((4:Int)==3)=false by rfl,show ((4:Int)==4)=true by rfl,Bool.false_or,Bool.true_or,Bool.and_true]
 cases S.rCheck (rtC x.rt)==0<;>cases z1 x<;>cases z2 x<;>cases z3 x<;>rfl
theorem zsT {x:Nt}(h1:¬x.kind=1)(h2:¬x.kind=2)(h3:¬x.kind=3)(h4:¬x.kind=4):QP x=false:=by
 unfold QP Wg
 rw [if_neg h1,if_neg h2,if_neg h3,if_neg h4];rfl
theorem zej (a:Int):(!decide (a<0))=decide (a≥0):=by
 rw [Bool.eq_iff_iff];simp
theorem zfS:∀ {l:List Va},Va.okL l→∀ v∈l,Va.ok v
 | [],_,v,hv=>by cases hv
 | x::l,h,v,hv=>by
  rcases List.mem_cons.1 hv with rfl | hv
  ·
   exact h.1
  ·
   exact zfS h.2 v hv
theorem NtM.w {I:Qt}{x:Nt}(h:NtM I x):NtW x:=by
 have h1:=zfS h.ok.2
 refine ⟨fun y hy=>h1 (.int y) (List.mem_append_left _ (List.mem_map.2 ⟨y,hy,rfl⟩)),fun y hy=>?_⟩
 have h2:=h1 (.list (x.pt.needs.map .int)) (List.mem_append_right _ (List.mem_cons_self ..))
 exact zfS h2.2 (.int y) (List.mem_map.2 ⟨y,hy,rfl⟩)
end
section
open Go Go.Kn Go.Proofs
theorem zox {a b a0 b0:Nat}(h:Nat.gcd a b=Nat.gcd a0 b0):Nat.gcd b (a % b)=Nat.gcd a0 b0:=
 (Nat.gcd_comm b (a % b)).trans ((Nat.gcd_rec b a).symm.trans ((Nat.gcd_comm b a).trans h))
theorem zoZ {a b:Int}(ha:0≤a)(hb:0≤b):((Nat.gcd a.toNat b.toNat:Nat):Int)=zlv a b:=by
 unfold zlv Int.gcd
 congr 2<;>omega
theorem zo2 (n d:Int):zlv (zbZ n) d=zlv n d:=by
 unfold zlv Int.gcd
 have:(zbZ n).natAbs=n.natAbs:=by unfold zbZ;split<;>omega
 rw [this]
theorem zrJ {n:Int}(h: -1073741824≤n∧n≤1073741824):0≤zbZ n∧zbZ n≤1073741824:=by unfold zbZ;split<;>omega
theorem znT (n d:Int):(((((decide (d≥1)&&decide (d≤1073741824))&&decide (n≥ -1073741824))&&decide (n≤1073741824))&&(zlv (zbZ n) d==1)))=UW n d:=by
 unfold UW
 rw [zo2,Bool.eq_iff_iff]
 simp only [Bool.and_eq_true,decide_eq_true_eq,beq_iff_eq,Bool.not_eq_true',Bool.or_eq_false_iff,decide_eq_false_iff_not,bne_eq_false_iff_eq]
 omega
theorem zow (fn fd tn td:Int):((((UW fn fd&&UW tn td)&&decide (fn≥0))&&decide (fn*td<tn*fd))&&decide (tn≤td))=za7 fn fd tn td:=by
 unfold za7
 generalize (UW fn fd&&UW tn td)=a
 generalize decide (fn≥0)=b
 generalize decide (fn*td<tn*fd)=c
 generalize decide (tn≤td)=d
 cases a<;>cases b<;>cases c<;>cases d<;>rfl
def frA (x:Sg):Bool:=(((!within x.id 0 1048576|| !within x.role 0 63)|| !within x.bar 0 4095)|| !within x.kind 1 9)|| !within x.mark 1 3
def frB (x:Sg):Bool:=(((!within x.side 0 2|| !within x.dir 0 8)|| !within x.level 0 3)|| !within x.size 0 255)|| !within x.wth 0 64
theorem zkJ (x:Sg):frm x=((!frA x&& !frB x)&&za7 x.fn x.fd x.tn x.td):=by
 unfold frm zxn frA frB
 generalize within x.id 0 1048576=b1
 generalize within x.role 0 63=b2
 generalize within x.bar 0 4095=b3
 generalize within x.kind 1 9=b4
 generalize within x.mark 1 3=b5
 generalize within x.side 0 2=b6
 generalize within x.dir 0 8=b7
 generalize within x.level 0 3=b8
 generalize within x.size 0 255=b9
 generalize within x.wth 0 64=b10
 cases b1<;>cases b2<;>cases b3<;>cases b4<;>cases b5<;>first | rfl | (cases b6<;>cases b7<;>cases b8<;>cases b9<;>cases b10<;>rfl)
theorem zxk {x:Sg}(h:frA x=true):frm x=false:=by rw [zkJ,h];rfl
theorem zxY {x:Sg}(h:frB x=true):frm x=false:=by rw [zkJ,h];simp
theorem zxl {x:Sg}(h:frA x=false)(h2:frB x=false):frm x=za7 x.fn x.fd x.tn x.td:=by rw [zkJ,h,h2];rfl
theorem zwx {xs:List Sg}(h:xs.length>4096):zh2 xs=2:=by unfold zh2;rw [if_pos h]
theorem zvu {xs:List Sg}(h:¬xs.length>4096)(h2:skB xs=false):zh2 xs=360:=by unfold zh2;rw [if_neg h,h2];rfl
theorem ztY {xs:List Sg}(h:¬xs.length>4096)(h2:skB xs=true):zh2 xs=0:=by unfold zh2;rw [if_neg h,h2];rfl
theorem zpC (p:Pt):(((decide (p.id<1)||decide (p.id>1048576))||decide (p.sign<0))||decide (p.sign>1048576))= !idB p:=by
 unfold idB
 rw [Bool.eq_iff_iff]
 simp only [Bool.or_eq_true,decide_eq_true_eq,Bool.not_eq_true',Bool.and_eq_false_iff,decide_eq_false_iff_not]
 omega
def zoX (p:Pt):Bool:=idB p&&(ndB p.id p.needs&&Ur p)
theorem zuR {p:Pt}(h:idB p=false):zoX p=false:=by unfold zoX;rw [h];rfl
theorem ztW {p:Pt}(h:ndB p.id p.needs=false):zoX p=false:=by unfold zoX;rw [h,Bool.false_and,Bool.and_false]
theorem zk6 {p:Pt}(h:idB p=true)(h2:ndB p.id p.needs=true):zoX p=Ur p:=by unfold zoX;rw [h,h2];rfl
theorem zln {p:Pt}(h:¬p.needs.length>32):(if zoX p=true then (0:Int) else 370)=KO p:=by
 unfold KO zoX
 rw [if_neg h]
 cases idB p<;>cases ndB p.id p.needs<;>cases Ur p<;>rfl
theorem zkW {f:Int}(h:(decide (f<1)||decide (f>9))=false):within f 1 9=true∧isF f:=by
 simp only [Bool.or_eq_false_iff,decide_eq_false_iff_not] at h
 unfold within isF
 simp;omega
theorem ziq {f:Int}(h:(decide (f<1)||decide (f>9))=true):within f 1 9=false:=by
 simp only [Bool.or_eq_true,decide_eq_true_eq] at h
 unfold within
 simp;omega
theorem ztq {p:Pt}(hk:p.kind=1)(h:(decide (p.field<1)||decide (p.field>9))=false):(ziA (KN Jz p.field p.nw) p.nw&&frm (KN zei p.field p.nw))=Ur p:=by
 obtain ⟨h1,h2⟩:=zkW h
 rw [zsY hk h1,zn8 h2,zl2 h2]
theorem zxM {p:Pt}(hk:p.kind=1)(h:(decide (p.field<1)||decide (p.field>9))=true):Ur p=false:=by
 unfold Ur;rw [if_pos hk,ziq h];rfl
end
section
open Go Go.Kn Go.Proofs
theorem zyd (I:Qt)(a0 b0:Nat)(ha:a0≤1073741824)(hb:b0≤1073741824):ZA Tryz.prog 288 [.int .i64 a0,.int .i64 b0] I (.int .i64 (Nat.gcd a0 b0:Nat)):=by
 intro g H w hw
 refine qe Tryz.func288 Tryz.ntmps288 hw ?_
 refine zR (zA (zN (Qm (Qw ?_))))
 refine zdd [] .nil (fun T L0 mz E I' loc'=>∃ (a b:Nat),mz=(b+1)∧E=(0,.int .i64 a)::(1,.int .i64 b)::T∧I=I'∧L0=loc'∧Nat.gcd a b=Nat.gcd a0 b0) _ _ _ _ ⟨a0,b0,rfl,rfl,rfl,rfl,rfl⟩ (.cons rfl (.cons rfl .nil)) (zzm _) rfl ?_
 rintro mz E I' loc' ⟨a,b,rfl,rfl,rfl,rfl,hgc⟩
 refine Qm (zR (zM ?_))
 refine zC (zN ?_)
 refine zI ?_ ?_<;>intro hc7
 ·
  have hbp:0<b:=by have h:=hc7;simp at h;omega
  refine Qr (Qd (Qw (zR (zM ?_))))
  refine zM ?_
  refine zV (Z4 rfl rfl (fun hg=>by omega)) ?_
  rw [zgl]
  refine zA ?_
  refine zN (zR ?_)
  refine zM ?_
  refine zA (zN (Qi ?_))
  refine zM ?_
  refine zA (Qb (Qk ?_))
  exact zm (h:=⟨a % b+1,Nat.succ_lt_succ (Nat.mod_lt _ hbp),b,a % b,rfl,rfl,rfl,rfl,zox hgc⟩)
 have hb0:b=0:=by have h:=hc7;simp at h;omega
 refine Zi (Qo (Qo (Qz (Qd (zR (zM ?_))))))
 refine zA (zN (Qs ?_))
 exact zr rfl rfl (by rw [←hgc,hb0,Nat.gcd_zero_right])
theorem zvi (I:Qt)(a b:Int)(ha:0≤a∧a≤1073741824)(hb:0≤b∧b≤1073741824):ZA Tryz.prog 288 [.int .i64 a,.int .i64 b] I (.int .i64 (zlv a b)):=by
 have h:=zyd I a.toNat b.toNat (by omega) (by omega)
 rw [Int.toNat_of_nonneg ha.1,Int.toNat_of_nonneg hb.1,zoZ ha.1 hb.1] at h
 exact h
theorem zwj (I:Qt)(n:Int)(hn: -1073741824≤n∧n≤1073741824):ZA Tryz.prog 289 [.int .i64 n] I (.int .i64 (zbZ n)):=by
 intro g H w hw
 refine qe Tryz.func289 Tryz.ntmps289 hw ?_
 refine zR (zA (zN (Qm (zR ?_))))
 refine zM ?_
 refine zC (zN ?_)
 refine zI ?_ ?_<;>intro hc4
 ·
  refine zR (zM ?_)
  refine zV (zlY rfl) ?_
  refine zA (zN (Qs (Qe ?_)))
  first
  | exact zr rfl rfl (by unfold zbZ;rw [if_pos (by simpa using hc4),zdb (by omega)])
 refine Qr (Qd (zR (zM ?_)))
 refine zA (zN (Qs ?_))
 first
 | exact zr rfl rfl (by unfold zbZ;rw [if_neg (by simpa using hc4)])
theorem zk3 (I:Qt)(n d:Int):ZA Tryz.prog 286 [zae (n) (d)] I (.bool (UW n d)):=by
 intro g H w hw
 refine qe Tryz.func286 Tryz.ntmps286 hw ?_
 refine zR ?_
 refine QR rfl rfl rfl (fun b_1=>?_)
 refine zA (zN (Qm ?_))
 refine Xi mixed (by kernel_rfl) ?_
 refine zq (Qa rfl Y1) ?_
 refine zq (Qc rfl Ql (fun hg=>by exact QA.h0 rfl)) ?_
 refine zq (QD rfl rfl rfl) ?_
 refine zq (Qf rfl) ?_
 refine VB 3 rfl rfl rfl ?_
 refine zk (Qa rfl Y1) ?_
 refine zk (Qc rfl Ql (fun hg=>by exact QA.h0 rfl)) ?_
 refine zk (QD rfl rfl rfl) ?_
 refine Wq rfl rfl rfl rfl rfl ?_
 refine zq (Qf rfl) ?_
 refine VB 8 rfl rfl rfl ?_
 refine zk (Qa rfl YD) ?_
 refine zk (Qc rfl Ql (fun hg=>by exact QA.h0 rfl)) ?_
 refine zk (QD rfl rfl rfl) ?_
 refine Wq rfl rfl rfl rfl rfl ?_
 refine zq (Qf rfl) ?_
 refine VB 13 rfl rfl rfl ?_
 refine zk (Qa rfl YD) ?_
 refine zk (Qc rfl Ql (fun hg=>by exact QA.h0 rfl)) ?_
 refine zk (QD rfl rfl rfl) ?_
 refine Wq rfl rfl rfl rfl rfl ?_
 refine zq (Qf rfl) ?_
 refine VB 18 rfl rfl rfl ?_
 refine zk (Qa rfl YD) ?_
 refine zk (Qc rfl Ql (fun hg=>by exact QA.h0 rfl)) ?_
 refine JF (cap:=[]) (vs:=[_]) rfl rfl zqU (fun hg=>zwj I n (by simp [Yf] at hg;omega)) (.some rfl rfl rfl rfl gbt) rfl rfl ?_
 refine zk (Qa rfl Y1) ?_
 refine zk (Qc rfl Ql (fun hg=>by exact QA.h0 rfl)) ?_
 refine JF (cap:=[]) (vs:=[_,_]) rfl rfl zr9 (fun hg=>zvi I _ d (zrJ (by simp [Yf] at hg;omega)) (by simp [Yf] at hg;omega)) (.some rfl rfl rfl rfl gbt) rfl rfl ?_
 refine zk (QD rfl rfl rfl) ?_
 refine Wq rfl rfl rfl rfl rfl ?_
 refine zq (QC rfl) ?_
 refine WP ?_
 refine Qd (Qs ?_)
 exact zr rfl rfl (by rw [←znT])
theorem zvL (I:Qt)(an ad bn bd:Int):ZA Tryz.prog 283 [zae (an) (ad),zae (bn) (bd)] I (.bool (UW an ad&&UW bn bd)):=by
 intro g H w hw
 refine qe Tryz.func283 Tryz.ntmps283 hw ?_
 refine zR ?_
 refine QR rfl rfl rfl (fun b_2=>?_)
 refine QR rfl rfl rfl (fun b_3=>?_)
 refine zA ?_
 refine zN (zR ?_)
 refine zV (Qg rfl V9 (fun hg=>by exact Cells.g1) rfl) ?_
 refine qcV (vs:=[_]) rfl zmm (zk3 I _ _) ?_
 refine zM ?_
 refine Qp 2 rfl rfl rfl ?_
 refine zK (Qg rfl V9 (fun hg=>by exact Cells.g0) rfl) ?_
 refine qg (vs:=[_]) rfl zmm (fun hg=>zk3 I _ _) ?_
 refine Qy rfl rfl rfl rfl rfl ?_
 refine zA (zN (Qs ?_))
 exact zr rfl rfl (by rfl)
theorem zuJ (I:Qt)(an ad bn bd:Int)(ha:UW an ad=true)(hb:UW bn bd=true):ZA Tryz.prog 284 [zae (an) (ad),zae (bn) (bd)] I (.bool (decide (an*bd<bn*ad))):=by
 intro g H w hw
 refine qe Tryz.func284 Tryz.ntmps284 hw ?_
 have ⟨ha1,ha2⟩:=zds ha
 have ⟨hb1,hb2⟩:=zds hb
 refine zR ?_
 refine QR rfl rfl rfl (fun b_2=>?_)
 refine QR rfl rfl rfl (fun b_3=>?_)
 refine zA ?_
 refine zN (zR ?_)
 refine zF YD ?_
 refine zL Ql ?_
 refine zF Y1 ?_
 refine zL Ql ?_
 refine zV (Yz rfl rfl rfl (fun _=>by exact zn1 (by omega) (by omega))) ?_
 refine zF YD ?_
 refine zL Ql ?_
 refine zF Y1 ?_
 refine zL Ql ?_
 refine zV (Yz rfl rfl rfl (fun _=>by exact zn1 (by omega) (by omega))) ?_
 refine zC ?_
 refine zA (zN (Qs ?_))
 exact zr rfl rfl (by rfl)
theorem Jq (I:Qt)(n lo hi:Int):ZA Tryz.prog 279 [.int .i64 n,.int .i64 lo,.int .i64 hi] I (.bool (within n lo hi)):=by
 intro g H w hw
 refine qe Tryz.func279 Tryz.ntmps279 hw ?_
 refine zR (zA ?_)
 refine zN (zR ?_)
 refine zM ?_
 refine zM ?_
 refine zC ?_
 refine zM ?_
 refine Qp 3 rfl rfl rfl ?_
 refine zK (Qf rfl) ?_
 refine zK (Qf rfl) ?_
 refine zK (QD rfl rfl rfl) ?_
 refine Qy rfl rfl rfl rfl rfl ?_
 refine zA (zN (Qs ?_))
 exact zr rfl rfl (by rfl)
theorem zwu (I:Qt)(an ad bn bd:Int):ZA Tryz.prog 280 [zae (an) (ad),zae (bn) (bd)] I (.bool (za7 an ad bn bd)):=by
 intro g H w hw
 refine qe Tryz.func280 Tryz.ntmps280 hw ?_
 refine zR ?_
 refine QR rfl rfl rfl (fun b_2=>?_)
 refine QR rfl rfl rfl (fun b_3=>?_)
 refine zA ?_
 refine zN (zR ?_)
 refine zV (Qg rfl V9 (fun hg=>by exact Cells.g1) rfl) ?_
 refine zV (Qg rfl V9 (fun hg=>by exact Cells.g0) rfl) ?_
 refine qcV (vs:=[_,_]) rfl ztk (zvL I _ _ _ _) ?_
 refine zA ?_
 refine zN (zR ?_)
 refine zM ?_
 refine zM ?_
 refine Qp 1 rfl rfl rfl ?_
 refine zK (Qa rfl YD) ?_
 refine zK (Qc rfl Ql (fun hg=>by exact QA.h1 rfl)) ?_
 refine zK (QD rfl rfl rfl) ?_
 refine Qy rfl rfl rfl rfl rfl ?_
 refine zM ?_
 refine Qp 6 rfl rfl rfl ?_
 refine zK (Qg rfl V9 (fun hg=>by exact Cells.g1) rfl) ?_
 refine zK (Qg rfl V9 (fun hg=>by exact Cells.g0) rfl) ?_
 refine qg (vs:=[_,_]) rfl zr1 (fun hg=>zuJ I _ _ _ _ (by simp [Yf] at hg;exact hg.1.1) (by simp [Yf] at hg;exact hg.1.2)) ?_
 refine Qy rfl rfl rfl rfl rfl ?_
 refine zM ?_
 refine Qp 11 rfl rfl rfl ?_
 refine zK (Qa rfl YD) ?_
 refine zK (Qc rfl Ql (fun hg=>by exact QA.h0 rfl)) ?_
 refine zK (Qa rfl Y1) ?_
 refine zK (Qc rfl Ql (fun hg=>by exact QA.h0 rfl)) ?_
 refine zK (QD rfl rfl rfl) ?_
 refine Qy rfl rfl rfl rfl rfl ?_
 refine zA (zN (Qs ?_))
 exact zr rfl rfl (by rw [←zow])
theorem zxH (I:Qt)(x:Sg):ZA Tryz.prog 277 [Wl x] I (.bool (frm x)):=by
 intro g H w hw
 refine qe Tryz.func277 Tryz.ntmps277 hw ?_
 refine zR ?_
 refine QR rfl rfl rfl (fun b_1=>?_)
 refine zA (zN (Qm (zR ?_)))
 refine zF Jm ?_
 refine zL Ql ?_
 refine qcV (vs:=[_,_,_]) rfl KF (Jq I _ _ _) ?_
 refine zO ?_
 refine zM ?_
 refine QM 4 rfl rfl rfl ?_
 refine zJ (Qa rfl K6) ?_
 refine zJ (Qc rfl Ql (fun hg=>by exact QA.h0 rfl)) ?_
 refine qf (vs:=[_,_,_]) rfl KF (fun hg=>Jq I _ _ _) ?_
 refine zJ (Zs rfl) ?_
 refine Zb rfl rfl rfl rfl rfl ?_
 refine zM ?_
 refine QM 10 rfl rfl rfl ?_
 refine zJ (Qa rfl Uf) ?_
 refine zJ (Qc rfl Ql (fun hg=>by exact QA.h0 rfl)) ?_
 refine qf (vs:=[_,_,_]) rfl KF (fun hg=>Jq I _ _ _) ?_
 refine zJ (Zs rfl) ?_
 refine Zb rfl rfl rfl rfl rfl ?_
 refine zM ?_
 refine QM 16 rfl rfl rfl ?_
 refine zJ (Qa rfl zaE) ?_
 refine zJ (Qc rfl Ql (fun hg=>by exact QA.h0 rfl)) ?_
 refine qf (vs:=[_,_,_]) rfl KF (fun hg=>Jq I _ _ _) ?_
 refine zJ (Zs rfl) ?_
 refine Zb rfl rfl rfl rfl rfl ?_
 refine zM ?_
 refine QM 22 rfl rfl rfl ?_
 refine zJ (Qa rfl Ui) ?_
 refine zJ (Qc rfl Ql (fun hg=>by exact QA.h0 rfl)) ?_
 refine qf (vs:=[_,_,_]) rfl KF (fun hg=>Jq I _ _ _) ?_
 refine zJ (Zs rfl) ?_
 refine Zb rfl rfl rfl rfl rfl ?_
 refine zN ?_
 refine zI ?_ ?_<;>intro hc30
 ·
  refine zR (zA (zN (Qs (Qe ?_))))
  exact zr rfl rfl (by exact congrArg (fun b=>Ending.returned (Value.bool b)) (zxk hc30).symm)
 refine Qr (Qd (Qm (zR ?_)))
 refine zF K9 ?_
 refine zL Ql ?_
 refine qcV (vs:=[_,_,_]) rfl KF (Jq I _ _ _) ?_
 refine zO ?_
 refine zM ?_
 refine QM 4 rfl rfl rfl ?_
 refine zJ (Qa rfl K5) ?_
 refine zJ (Qc rfl Ql (fun hg=>by exact QA.h0 rfl)) ?_
 refine qf (vs:=[_,_,_]) rfl KF (fun hg=>Jq I _ _ _) ?_
 refine zJ (Zs rfl) ?_
 refine Zb rfl rfl rfl rfl rfl ?_
 refine zM ?_
 refine QM 10 rfl rfl rfl ?_
 refine zJ (Qa rfl Ug) ?_
 refine zJ (Qc rfl Ql (fun hg=>by exact QA.h0 rfl)) ?_
 refine qf (vs:=[_,_,_]) rfl KF (fun hg=>Jq I _ _ _) ?_
 refine zJ (Zs rfl) ?_
 refine Zb rfl rfl rfl rfl rfl ?_
 refine zM ?_
 refine QM 16 rfl rfl rfl ?_
 refine zJ (Qa rfl K4) ?_
 refine zJ (Qc rfl Ql (fun hg=>by exact QA.h0 rfl)) ?_
 refine qf (vs:=[_,_,_]) rfl KF (fun hg=>Jq I _ _ _) ?_
 refine zJ (Zs rfl) ?_
 refine Zb rfl rfl rfl rfl rfl ?_
 refine zM ?_
 refine QM 22 rfl rfl rfl ?_
 refine zJ (Qa rfl Ul) ?_
 refine zJ (Qc rfl Ql (fun hg=>by exact QA.h0 rfl)) ?_
 refine qf (vs:=[_,_,_]) rfl KF (fun hg=>Jq I _ _ _) ?_
 refine zJ (Zs rfl) ?_
 refine Zb rfl rfl rfl rfl rfl ?_
 refine zN ?_
 refine zI ?_ ?_<;>intro hc58
 ·
  refine zR (zA (zN (Qs (Qe ?_))))
  exact zr rfl rfl (by exact congrArg (fun b=>Ending.returned (Value.bool b)) (zxY hc58).symm)
 refine Qr (Qd (zR ?_))
 refine zF VY ?_
 refine zV (Qg rfl V9 (fun hg=>by exact Cells.s0 (vs:=[_,_]) rfl) rfl) ?_
 refine zF V4 ?_
 refine zV (Qg rfl V9 (fun hg=>by exact Cells.s0 (vs:=[_,_]) rfl) rfl) ?_
 refine qcV (vs:=[_,_]) rfl zrQ (zwu I _ _ _ _) ?_
 refine zA (zN (Qs ?_))
 exact zr rfl rfl (by exact congrArg (fun b=>Ending.returned (Value.bool b)) (zxl hc30 hc58).symm)
theorem zsk {I:Qt}{av:Option Addr}{n c:Nat}{xs:List Sg}(hS:Sl I 14 zfc av n c xs)(hn:n≤100000):ZA Tryz.prog 275 [.slice av n c] I (.bool (skB xs)):=by
 intro g H w hw
 refine qe Tryz.func275 Tryz.ntmps275 hw ?_
 refine zR (zA (zN (Qm (zR ?_))))
 refine zA (zN (Qw ?_))
 refine zU [(0,_)] (fun T L0 mz E I' loc'=>∃ (k:Nat),mz=n-k∧E=(3,.int .i64 k)::T∧I=I'∧L0=loc'∧k≤n∧(List.range k).all (skP xs)=true) ?_ (h:=⟨0,rfl,rfl,rfl,rfl,Nat.zero_le _,rfl⟩)
 rintro mz E I' loc' ⟨k,rfl,rfl,rfl,rfl,hk,hall⟩
 refine Qm (zR (zM ?_))
 refine zM ?_
 refine zQ Uk ?_
 refine zC (zN ?_)
 refine zI ?_ ?_<;>intro hc7
 ·
  have hlt_k:k<n:=by have h:=hc7;simp at h;omega
  obtain ⟨x,hx⟩:=hS.at hlt_k
  refine Qr (Qd (Qm (Qw (Qm ?_))))
  refine Xi mixed (by kernel_rfl) ?_
  refine zq (Qf rfl) ?_
  refine zq (Qf rfl) ?_
  refine zq (QG rfl rfl Uk (by assumption) (fun hg=>by omega)) ?_
  refine zq (Qg rfl ZC (fun hg=>by exact zzn hS hx) rfl) ?_
  refine UD (cap:=[]) (vs:=[_]) rfl rfl zrs (zxH I _) rfl rfl ?_
  refine zq (Zs rfl) ?_
  refine zq (Qf rfl) ?_
  refine VZ 6 rfl rfl rfl ?_
  refine zj (Qf rfl) ?_
  refine zj (QD rfl rfl rfl) ?_
  refine zj (Qf rfl) ?_
  refine VB 9 rfl rfl rfl ?_
  refine zk (Qf rfl) ?_
  refine zk (Qf rfl) ?_
  refine zk (QG rfl rfl Uk (by assumption) (fun hg=>by omega)) ?_
  refine zk (Qa rfl Jm) ?_
  refine zk (Qc rfl Ql (fun hg=>by exact zzf hS hx rfl)) ?_
  refine zk (Qf rfl) ?_
  refine zk (Qf rfl) ?_
  refine zk (Yz rfl rfl rfl (fun hg=>by omega)) ?_
  refine zk (QG rfl rfl Uk (by assumption) (fun hg=>by (simp [Yf] at hg;omega))) ?_
  refine zk (Qa rfl Jm) ?_
  refine zk (Qc rfl Ql (fun hg=>by exact zzf (k:=((k:Int)-1).toNat) hS (KQ (d:=Jz) hS.len (by simp [Yf] at hg;omega)) rfl)) ?_
  refine zk (QD rfl rfl rfl) ?_
  refine zbG rfl rfl rfl (.some rfl rfl rfl rfl gbf) rfl rfl ?_
  refine UN rfl rfl rfl rfl rfl ?_
  refine WP ?_
  refine Qd ?_
  refine zI ?_ ?_<;>intro hc33
  ·
   refine zR (zA (zN (Qs (Qj (Qe (Qe (Qj ?_)))))))
   refine Qe ?_
   first
   | exact zr rfl rfl (by unfold skB;rw [JI (k:=k) (by rw [hS.len];exact hlt_k) (by rw [zg7 hx];exact congrArg (! ·) hc33)])
  refine Qr (Qk (Qd (Qi (zM ?_))))
  refine zB ?_
  refine zA (Qb ?_)
  exact zm (h:=⟨n-(k+1),by omega,k+1,rfl,rfl,rfl,rfl,by omega,VJ hall (by rw [zg7 hx];exact congrArg (! ·) hc33)⟩)
 have hge_k:n≤k:=by have h:=hc7;simp at h;omega
 refine Zi (Qo (Qo (Qz (Qd (zR (zA (zN ?_)))))))
 refine Qs ?_
 first
 | exact zr rfl rfl (by unfold skB;rw [hS.len,show n=k by omega,hall])
theorem zu6 {I:Qt}{av:Option Addr}{n c:Nat}{xs:List Sg}(hS:Sl I 14 zfc av n c xs)(hn:n≤100000):ZA Tryz.prog 267 [.slice av n c] I (.int .i64 (zh2 xs)):=by
 intro g H w hw
 refine qe Tryz.func267 Tryz.ntmps267 hw ?_
 refine zR (zA (zN (Qm (zR ?_))))
 refine zM ?_
 refine zQ Uk ?_
 refine zC (zN ?_)
 refine zI ?_ ?_<;>intro hc5
 ·
  have h6:xs.length>4096:=by rw [hS.len];simp at hc5;omega
  refine zR (zA (zN (Qs (Qe ?_))))
  exact zr rfl rfl (by rw [zwx h6])
 have h6:¬xs.length>4096:=by rw [hS.len];simp at hc5;omega
 refine Qr (Qd (Qm (zR (zM ?_))))
 refine qcV (vs:=[_]) rfl zqR (zsk hS hn) ?_
 refine zO (zN ?_)
 refine zI ?_ ?_<;>intro hc8
 ·
  refine zR (zA (zN (Qs (Qe ?_))))
  exact zr rfl rfl (by rw [zvu h6 (by simpa using hc8)])
 refine Qr (Qd (zR (zA (zN (Qs ?_)))))
 exact zr rfl rfl (by rw [ztY h6 (by simpa using hc8)])
theorem zp4 (I:Qt)(x:Sg):ZA Tryz.prog 246 [Wl x] I (.bool (frm x)):=by
 intro g H w hw
 refine qe Tryz.func246 Tryz.ntmps246 hw ?_
 have hIc:=zzm I
 refine zR ?_
 refine QR rfl rfl rfl (fun b_1=>?_)
 refine zA ?_
 refine zN (zR ?_)
 refine zV (Qg rfl ZC (fun hg=>by exact Cells.g0) rfl) ?_
 refine zpb [(0,_)] [zfc x] zlB (fun b_5=>?_)
 refine QT .here (fun I1 hI1 hb1=>?_)
 have hIc:=hIc.trans hI1
 have hS:=Sl.lit [x] rfl zgx (show _=some (Obj.cells (([x]:List Sg).flatMap zfc).toArray 36 (0,0)) from hb1)
 refine qcV (vs:=[_]) rfl ztN (zu6 hS (by decide)) ?_
 refine zA ?_
 refine zN (zR ?_)
 refine zM ?_
 refine zC ?_
 refine zA (zN (Qs ?_))
 exact zp hIc rfl rfl (by rw [ziQ])
theorem zuU (I:Qt)(x:Sg)(f:Int)(y:Sg):ZA Tryz.prog 245 [Wl x,.int .i64 f,Wl y] I (Wl (KN x f y)):=by
 intro g H w hw
 refine qe Tryz.func245 Tryz.ntmps245 hw ?_
 refine zR ?_
 refine QR rfl rfl rfl (fun b_3=>?_)
 refine QR rfl rfl rfl (fun b_5=>?_)
 refine Qq zit rfl rfl (fun b_6=>?_)
 refine zN (Qm (zR (zM (zN (Qw (zR ?_))))))
 refine zC ?_
 refine zA (zN ?_)
 refine zI ?_ ?_<;>intro hc8
 ·
  have hfk:f=1:=by simpa using hc8
  subst hfk
  refine Qi ?_
  refine zF K6 ?_
  refine zL Ql ?_
  refine zF K6 ?_
  refine zS U6 ?_
  refine Qb (Qk (Qd (zR ?_)))
  refine zV (Qg rfl ZC (fun hg=>by exact Cells.g2) rfl) ?_
  refine zh Je ?_
  refine zN (Qs ?_)
  exact ZX rfl rfl ZC Cells.g0 rfl (fun w hw=>⟨rfl,hw.drop⟩)
 have hg1:f≠1:=by simpa using hc8
 refine zR (zC ?_)
 refine zA (zN ?_)
 refine zI ?_ ?_<;>intro hc13
 ·
  have hfk:f=2:=by simpa using hc13
  subst hfk
  refine Qi ?_
  refine zF Uf ?_
  refine zL Ql ?_
  refine zF Uf ?_
  refine zS U6 ?_
  refine Qb (Qk (Qd (zR ?_)))
  refine zV (Qg rfl ZC (fun hg=>by exact Cells.g2) rfl) ?_
  refine zh Je ?_
  refine zN (Qs ?_)
  exact ZX rfl rfl ZC Cells.g0 rfl (fun w hw=>⟨rfl,hw.drop⟩)
 have hg2:f≠2:=by simpa using hc13
 refine zR (zC ?_)
 refine zA (zN ?_)
 refine zI ?_ ?_<;>intro hc18
 ·
  have hfk:f=3:=by simpa using hc18
  subst hfk
  refine Qi ?_
  refine zF Ui ?_
  refine zL Ql ?_
  refine zF Ui ?_
  refine zS U6 ?_
  refine Qb (Qk (Qd (zR ?_)))
  refine zV (Qg rfl ZC (fun hg=>by exact Cells.g2) rfl) ?_
  refine zh Je ?_
  refine zN (Qs ?_)
  exact ZX rfl rfl ZC Cells.g0 rfl (fun w hw=>⟨rfl,hw.drop⟩)
 have hg3:f≠3:=by simpa using hc18
 refine zR (zC ?_)
 refine zA (zN ?_)
 refine zI ?_ ?_<;>intro hc23
 ·
  have hfk:f=4:=by simpa using hc23
  subst hfk
  refine Qi ?_
  refine zF K9 ?_
  refine zL Ql ?_
  refine zF K9 ?_
  refine zS U6 ?_
  refine Qb (Qk (Qd (zR ?_)))
  refine zV (Qg rfl ZC (fun hg=>by exact Cells.g2) rfl) ?_
  refine zh Je ?_
  refine zN (Qs ?_)
  exact ZX rfl rfl ZC Cells.g0 rfl (fun w hw=>⟨rfl,hw.drop⟩)
 have hg4:f≠4:=by simpa using hc23
 refine zR (zC ?_)
 refine zA (zN ?_)
 refine zI ?_ ?_<;>intro hc28
 ·
  have hfk:f=5:=by simpa using hc28
  subst hfk
  refine Qi ?_
  refine zF K5 ?_
  refine zL Ql ?_
  refine zF K5 ?_
  refine zS U6 ?_
  refine Qb (Qk (Qd (zR ?_)))
  refine zV (Qg rfl ZC (fun hg=>by exact Cells.g2) rfl) ?_
  refine zh Je ?_
  refine zN (Qs ?_)
  exact ZX rfl rfl ZC Cells.g0 rfl (fun w hw=>⟨rfl,hw.drop⟩)
 have hg5:f≠5:=by simpa using hc28
 refine zR (zC ?_)
 refine zA (zN ?_)
 refine zI ?_ ?_<;>intro hc33
 ·
  have hfk:f=6:=by simpa using hc33
  subst hfk
  refine Qi ?_
  refine zF Ug ?_
  refine zL Ql ?_
  refine zF Ug ?_
  refine zS U6 ?_
  refine Qb (Qk (Qd (zR ?_)))
  refine zV (Qg rfl ZC (fun hg=>by exact Cells.g2) rfl) ?_
  refine zh Je ?_
  refine zN (Qs ?_)
  exact ZX rfl rfl ZC Cells.g0 rfl (fun w hw=>⟨rfl,hw.drop⟩)
 have hg6:f≠6:=by simpa using hc33
 refine zR (zC ?_)
 refine zA (zN ?_)
 refine zI ?_ ?_<;>intro hc38
 ·
  have hfk:f=7:=by simpa using hc38
  subst hfk
  refine Qi ?_
  refine zF K4 ?_
  refine zL Ql ?_
  refine zF K4 ?_
  refine zS U6 ?_
  refine Qb (Qk (Qd (zR ?_)))
  refine zV (Qg rfl ZC (fun hg=>by exact Cells.g2) rfl) ?_
  refine zh Je ?_
  refine zN (Qs ?_)
  exact ZX rfl rfl ZC Cells.g0 rfl (fun w hw=>⟨rfl,hw.drop⟩)
 have hg7:f≠7:=by simpa using hc38
 refine zR (zC ?_)
 refine zA (zN ?_)
 refine zI ?_ ?_<;>intro hc43
 ·
  have hfk:f=8:=by simpa using hc43
  subst hfk
  refine Qi ?_
  refine zF Ul ?_
  refine zL Ql ?_
  refine zF Ul ?_
  refine zS U6 ?_
  refine Qb (Qk (Qd (zR ?_)))
  refine zV (Qg rfl ZC (fun hg=>by exact Cells.g2) rfl) ?_
  refine zh Je ?_
  refine zN (Qs ?_)
  exact ZX rfl rfl ZC Cells.g0 rfl (fun w hw=>⟨rfl,hw.drop⟩)
 have hg8:f≠8:=by simpa using hc43
 refine zR (zC ?_)
 refine zA (zN ?_)
 refine zI ?_ ?_<;>intro hc48
 ·
  have hfk:f=9:=by simpa using hc48
  subst hfk
  refine zR ?_
  refine zF VY ?_
  refine zV (Qg rfl V9 (fun hg=>by exact Cells.s1 (vs:=[_,_]) rfl) rfl) ?_
  refine zF VY ?_
  refine Y4 rfl rfl zhu rfl rfl rfl rfl (by repeat (first | exact Upd.here | apply Upd.there | apply Qu)) ?_
  refine zN (Qi ?_)
  refine zF V4 ?_
  refine zV (Qg rfl V9 (fun hg=>by exact Cells.s1 (vs:=[_,_]) rfl) rfl) ?_
  refine zF V4 ?_
  refine Y4 rfl rfl zhu rfl rfl rfl rfl (by repeat (first | exact Upd.here | apply Upd.there | apply Qu)) ?_
  refine Qb (Qk (Qd (zR ?_)))
  refine zV (Qg rfl ZC (fun hg=>by exact Cells.g2) rfl) ?_
  refine zh Je ?_
  refine zN (Qs ?_)
  exact ZX rfl rfl ZC Cells.g0 rfl (fun w hw=>⟨rfl,hw.drop⟩)
 have hg9:f≠9:=by simpa using hc48
 refine Qr (Qk (Qd (zR ?_)))
 refine zV (Qg rfl ZC (fun hg=>by exact Cells.g2) rfl) ?_
 refine zh Je ?_
 refine zN (Qs ?_)
 first
 | exact ZX rfl rfl ZC Cells.g0 rfl (fun w hw=>⟨by unfold KN;rw [if_neg hg1,if_neg hg2,if_neg hg3,if_neg hg4,if_neg hg5,if_neg hg6,if_neg hg7,if_neg hg8,if_neg hg9];rfl,hw.drop⟩)
theorem zrh (I:Qt):ZA Tryz.prog 247 [] I (Wl zei):=by
 intro g H w hw
 refine qe Tryz.func247 Tryz.ntmps247 hw ?_
 refine zR ?_
 refine Qq zit rfl rfl (fun b_0=>?_)
 refine zN (zR ?_)
 refine zV (QK (ps:=[(1,_)]) [_,_] zht rfl rfl) ?_
 refine zV (QK (ps:=[(0,_),(1,_)]) [_,_] zht rfl rfl) ?_
 refine zV (QK (ps:=[(3,_),(4,_),(10,_),(11,_)]) [_,_,_,_,_,_,_,_,_,_,_,_,_,_] X3 rfl rfl) ?_
 refine zh Je ?_
 refine zN (Qs ?_)
 exact ZX rfl rfl ZC Cells.g0 rfl (fun w hw=>⟨rfl,hw.drop⟩)
end
section
open Go Go.Kn Go.Proofs
theorem zql {id:Int}{v:List Int}{k:Nat}{x:Int}(hx:v[k]? =some x):ndP id v k= !((decide (x<1)||decide (x≥id))||(decide ((k:Int)>0)&&decide (x≤v.getD ((k:Int)-1).toNat 0))):=by unfold ndP;rw [Vk hx]
end
section
open Go Go.Kn Go.Proofs
theorem zxr {I:Qt}(p:Pt)(hN:Nd I p)(hpn:p.n≤100000):ZA Tryz.prog 191 [KD p] I (.bool (zoX p)):=by
 intro g H w hw
 refine qe Tryz.func191 Tryz.ntmps191 hw ?_
 have hN:Sl I 1 Z1 p.a p.n p.c p.needs:=hN
 refine zR ?_
 refine QR rfl rfl rfl (fun b_1=>?_)
 refine zA (zN (Qm (zR ?_)))
 refine zF Z2 ?_
 refine zL Ql ?_
 refine zC ?_
 refine zM ?_
 refine QM 3 rfl rfl rfl ?_
 refine zJ (Qa rfl Z2) ?_
 refine zJ (Qc rfl Ql (fun hg=>by exact QA.h0 rfl)) ?_
 refine zJ (QD rfl rfl rfl) ?_
 refine Zb rfl rfl rfl rfl rfl ?_
 refine zM ?_
 refine QM 8 rfl rfl rfl ?_
 refine zJ (Qa rfl Yn) ?_
 refine zJ (Qc rfl Ql (fun hg=>by exact QA.h0 rfl)) ?_
 refine zJ (QD rfl rfl rfl) ?_
 refine Zb rfl rfl rfl rfl rfl ?_
 refine zM ?_
 refine QM 13 rfl rfl rfl ?_
 refine zJ (Qa rfl Yn) ?_
 refine zJ (Qc rfl Ql (fun hg=>by exact QA.h0 rfl)) ?_
 refine zJ (QD rfl rfl rfl) ?_
 refine Zb rfl rfl rfl rfl rfl ?_
 refine zN ?_
 refine zI ?_ ?_<;>intro hc21
 ·
  have hi:idB p=false:=by have h:=hc21;rw [zpC] at h;simpa using h
  refine zR (zA (zN (Qs (Qe ?_))))
  exact zr rfl rfl (by rw [zuR hi])
 have hi:idB p=true:=by have h:=hc21;rw [zpC] at h;simpa using h
 refine Qr (Qd (Qm (zR (zA (zN (Qw ?_))))))
 refine zU [(1,_)] (fun T L0 mz E I' loc'=>∃ (k:Nat),mz=p.n-k∧E=(3,.int .i64 k)::T∧I=I'∧L0=loc'∧k≤p.n∧(List.range k).all (ndP p.id p.needs)=true) ?_ (h:=⟨0,rfl,rfl,rfl,rfl,Nat.zero_le _,rfl⟩)
 rintro mz E I' loc' ⟨k,rfl,rfl,rfl,rfl,hk,hall⟩
 refine Qm (zR (zM ?_))
 refine zF ZK ?_
 refine zL Y5 ?_
 refine zQ ZE ?_
 refine zC (zN ?_)
 refine zI ?_ ?_<;>intro hc26
 ·
  have hlt_k:k<p.n:=by have h:=hc26;simp at h;omega
  obtain ⟨x,hx⟩:=hN.at hlt_k
  refine Qr (Qd (Qm (Qw (Qm ?_))))
  refine Xi mixed (by kernel_rfl) ?_
  refine zq (Qa rfl ZK) ?_
  refine zq (Qc rfl Y5 (fun hg=>by exact QA.h0 rfl)) ?_
  refine zq (Qf rfl) ?_
  refine zq (QG rfl rfl ZE (by assumption) (fun hg=>by omega)) ?_
  refine zq (Qc rfl Ql (fun hg=>by exact zzf hN hx rfl)) ?_
  refine zq (QD rfl rfl rfl) ?_
  refine zq (Qf rfl) ?_
  refine VZ 6 rfl rfl rfl ?_
  refine zj (Qa rfl ZK) ?_
  refine zj (Qc rfl Y5 (fun hg=>by exact QA.h0 rfl)) ?_
  refine zj (Qf rfl) ?_
  refine zj (QG rfl rfl ZE (by assumption) (fun hg=>by omega)) ?_
  refine zj (Qc rfl Ql (fun hg=>by exact zzf hN hx rfl)) ?_
  refine zj (Qa rfl Z2) ?_
  refine zj (Qc rfl Ql (fun hg=>by exact QA.h0 rfl)) ?_
  refine zj (QD rfl rfl rfl) ?_
  refine UN rfl rfl rfl rfl rfl ?_
  refine zq (Qf rfl) ?_
  refine VZ 16 rfl rfl rfl ?_
  refine zj (Qf rfl) ?_
  refine zj (QD rfl rfl rfl) ?_
  refine zj (Qf rfl) ?_
  refine VB 19 rfl rfl rfl ?_
  refine zk (Qa rfl ZK) ?_
  refine zk (Qc rfl Y5 (fun hg=>by exact QA.h0 rfl)) ?_
  refine zk (Qf rfl) ?_
  refine zk (QG rfl rfl ZE (by assumption) (fun hg=>by omega)) ?_
  refine zk (Qc rfl Ql (fun hg=>by exact zzf hN hx rfl)) ?_
  refine zk (Qa rfl ZK) ?_
  refine zk (Qc rfl Y5 (fun hg=>by exact QA.h0 rfl)) ?_
  refine zk (Qf rfl) ?_
  refine zk (Yz rfl rfl rfl (fun hg=>by omega)) ?_
  refine zk (QG rfl rfl ZE (by assumption) (fun hg=>by (simp [Yf] at hg;omega))) ?_
  refine zk (Qc rfl Ql (fun hg=>by exact zzf (k:=((k:Int)-1).toNat) hN (KQ (d:=0) hN.len (by simp [Yf] at hg;omega)) rfl)) ?_
  refine zk (QD rfl rfl rfl) ?_
  refine zbG rfl rfl rfl (.some rfl rfl rfl rfl gbf) rfl rfl ?_
  refine UN rfl rfl rfl rfl rfl ?_
  refine WP ?_
  refine Qd ?_
  refine zI ?_ ?_<;>intro hc62
  ·
   have hnd:ndB p.id p.needs=false:=by unfold ndB;exact JI (k:=k) (by rw [hN.len];exact hlt_k) (by rw [zql hx,hc62];rfl)
   refine zR (zA (zN (Qs (Qj (Qe (Qe (Qj ?_)))))))
   refine Qe ?_
   exact zr rfl rfl (by rw [ztW hnd])
  refine Qr (Qk (Qd (Qi (zM ?_))))
  refine zB ?_
  refine zA (Qb ?_)
  exact zm (h:=⟨p.n-(k+1),by omega,k+1,rfl,rfl,rfl,rfl,by omega,VJ hall (by rw [zql hx,hc62];rfl)⟩)
 have hge_k:p.n≤k:=by have h:=hc26;simp at h;omega
 have hnd:ndB p.id p.needs=true:=by unfold ndB;rw [hN.len,show p.n=k by omega];exact hall
 refine Zi (Qo (Qo (Qz (Qd (Qm (zR ?_))))))
 refine zF Jv ?_
 refine zL Ql ?_
 refine zN (Qw (zR (zC ?_)))
 refine zA (zN ?_)
 refine zI ?_ ?_<;>intro hc65
 ·
  have hk:p.kind=1:=by simpa using hc65
  refine Qm (zR ?_)
  refine zF Ym ?_
  refine zL Ql ?_
  refine zC ?_
  refine zM ?_
  refine QM 3 rfl rfl rfl ?_
  refine zJ (Qa rfl Ym) ?_
  refine zJ (Qc rfl Ql (fun hg=>by exact QA.h0 rfl)) ?_
  refine zJ (QD rfl rfl rfl) ?_
  refine Zb rfl rfl rfl rfl rfl ?_
  refine zN ?_
  refine zI ?_ ?_<;>intro hc74
  ·
   refine zR (zA (zN (Qs (Qe (Qj (Qe ?_))))))
   exact zr rfl rfl (by rw [zk6 hi hnd,zxM hk hc74])
  refine Qr (Qd (Qm ?_))
  refine Xi mixed (by kernel_rfl) ?_
  refine zq (QK (ps:=[]) [_,_,_,_,_,_,_,_,_,_,_,_,_,_] X3 rfl rfl) ?_
  refine zq (Qa rfl Ym) ?_
  refine zq (Qc rfl Ql (fun hg=>by exact QA.h0 rfl)) ?_
  refine zq (Qa rfl Yy) ?_
  refine zq (Qg rfl ZC (fun hg=>by exact Cells.s0 (vs:=[_,_,_,_,_,_,_,_,_,_,_,_,_,_]) rfl) rfl) ?_
  refine UD (cap:=[]) (vs:=[_,_,_]) rfl rfl zkz (zuU I Jz p.field p.nw) rfl rfl ?_
  refine zq (Qa rfl Yy) ?_
  refine zq (Qg rfl ZC (fun hg=>by exact Cells.s0 (vs:=[_,_,_,_,_,_,_,_,_,_,_,_,_,_]) rfl) rfl) ?_
  refine zq (UO rfl rfl Wr rfl) ?_
  refine zq (Qf rfl) ?_
  refine VB 9 rfl rfl rfl ?_
  refine JF (cap:=[]) (vs:=[]) rfl rfl ztP (fun hg=>zrh I) (.some rfl rfl rfl rfl gbt) rfl rfl ?_
  refine zk (Qa rfl Ym) ?_
  refine zk (Qc rfl Ql (fun hg=>by exact QA.h0 rfl)) ?_
  refine zk (Qa rfl Yy) ?_
  refine zk (Qg rfl ZC (fun hg=>by exact Cells.s0 (vs:=[_,_,_,_,_,_,_,_,_,_,_,_,_,_]) rfl) rfl) ?_
  refine JF (cap:=[]) (vs:=[_,_,_]) rfl rfl zkz (fun hg=>zuU I zei p.field p.nw) (.some rfl rfl rfl rfl gbt) rfl rfl ?_
  refine JF (cap:=[]) (vs:=[_]) rfl rfl zkP (fun hg=>zp4 I _) (.some rfl rfl rfl rfl gbt) rfl rfl ?_
  refine Wq rfl rfl rfl rfl rfl ?_
  refine zq (QC rfl) ?_
  refine WP ?_
  refine Qd (Qs (Qj (Qe ?_)))
  first
  | exact zr rfl rfl (by rw [zk6 hi hnd,←ztq hk hc74];rfl)
 have hk1:p.kind≠1:=by simpa using hc65
 refine zR (zC ?_)
 refine zA (zN ?_)
 refine zI ?_ ?_<;>intro hc93
 ·
  have hk:p.kind=2:=by simpa using hc93
  refine zR ?_
  refine zF Ym ?_
  refine zL Ql ?_
  refine zC ?_
  refine zM ?_
  refine Qp 3 rfl rfl rfl ?_
  refine zK (Qa rfl Yy) ?_
  refine zK (Qa rfl Jm) ?_
  refine zK (Qc rfl Ql (fun hg=>by exact QA.h0 rfl)) ?_
  refine zK (Qa rfl Yn) ?_
  refine zK (Qc rfl Ql (fun hg=>by exact QA.h0 rfl)) ?_
  refine zK (QD rfl rfl rfl) ?_
  refine Qy rfl rfl rfl rfl rfl ?_
  refine zM ?_
  refine Qp 11 rfl rfl rfl ?_
  refine zK (Qa rfl Yy) ?_
  refine zK (Qg rfl ZC (fun hg=>by exact Cells.s0 (vs:=[_,_,_,_,_,_,_,_,_,_,_,_,_,_]) rfl) rfl) ?_
  refine qg (vs:=[_]) rfl zkP (fun hg=>zp4 I _) ?_
  refine Qy rfl rfl rfl rfl rfl ?_
  refine zA (zN (Qs (Qj (Qe ?_))))
  exact zr rfl rfl (by rw [zk6 hi hnd,zsn hk,←Bool.and_assoc])
 have hk2:p.kind≠2:=by simpa using hc93
 refine zR (zC ?_)
 refine zA (zN ?_)
 refine zI ?_ ?_<;>intro hc111
 ·
  have hk:p.kind=3:=by simpa using hc111
  refine zR ?_
  refine zF Ym ?_
  refine zL Ql ?_
  refine zC ?_
  refine zM ?_
  refine Qp 3 rfl rfl rfl ?_
  refine zK (Qa rfl Yy) ?_
  refine zK (Qg rfl ZC (fun hg=>by exact Cells.s0 (vs:=[_,_,_,_,_,_,_,_,_,_,_,_,_,_]) rfl) rfl) ?_
  refine zK (QK (ps:=[]) [_,_,_,_,_,_,_,_,_,_,_,_,_,_] X3 rfl rfl) ?_
  refine zK (UO rfl rfl Wr rfl) ?_
  refine Qy rfl rfl rfl rfl rfl ?_
  refine zA (zN (Qs (Qj (Qe ?_))))
  first
  | exact zr rfl rfl (by rw [zk6 hi hnd,ztG hk];rfl)
 have hk3:p.kind≠3:=by simpa using hc111
 refine Qr (Qk (Qd (zR (zA (zN (Qs ?_))))))
 first
 | exact zr rfl rfl (by rw [zk6 hi hnd];unfold Ur;rw [if_neg hk1,if_neg hk2,if_neg hk3])
theorem zt9 {I:Qt}(p:Pt)(hN:Nd I p):ZA Tryz.prog 145 [KD p] I (.int .i64 (KO p)):=by
 intro g H w hw
 refine qe Tryz.func145 Tryz.ntmps145 hw ?_
 refine zR ?_
 refine QR rfl rfl rfl (fun b_1=>?_)
 refine zA (zN (Qm (zR ?_)))
 refine zF ZK ?_
 refine zL Y5 ?_
 refine zQ ZE ?_
 refine zC (zN ?_)
 refine zI ?_ ?_<;>intro hc7
 ·
  have hlen:p.needs.length>32:=by rw [(show Sl _ 1 Z1 p.a p.n p.c p.needs from hN).len];simp at hc7;omega
  refine zR (zA (zN (Qs (Qe ?_))))
  exact zr rfl rfl (by rw [zpt hlen])
 have hlen:¬p.needs.length>32:=by rw [(show Sl _ 1 Z1 p.a p.n p.c p.needs from hN).len];simp at hc7;omega
 refine Qr (Qd (zR ?_))
 refine zV (Qg rfl Vs (fun hg=>by exact Cells.g0) rfl) ?_
 refine qcV (vs:=[_]) rfl zqE (zxr p hN (by have:=(show Sl _ 1 Z1 p.a p.n p.c p.needs from hN).len;omega)) ?_
 refine zA (zN (Qm (zR ?_)))
 refine zM ?_
 refine zO (zN ?_)
 refine zI ?_ ?_<;>intro hc11
 ·
  refine zR (zA (zN (Qs (Qe ?_))))
  exact zr rfl rfl (by rw [←zln hlen,if_neg (by simpa using hc11)])
 refine Qr (Qd (zR (zA (zN (Qs ?_)))))
 exact zr rfl rfl (by rw [←zln hlen,if_pos (by simpa using hc11)])
end
end Go.Proofs.YtjblkbkmblkgoaaGreat
