/- partiesWorldSpec_holds, part F of the proof: what its theorems say holds without further conditions. -/
import Derived.Test.YtjblkbkmblkgoaaGreatWSE
namespace Go.Proofs.YtjblkbkmblkgoaaGreat
section
open Go Go.Kn Go.Proofs
theorem zes:QL Tryz.prog 47 2 2:=.of kA
theorem ztY:Fun Tryz.prog 112:=.of Tryz.func112 kA kA
theorem zvb {I:Qv}{bc b2 b3:Nat}{pa qa aa:Option Addr}{pn pc qn qc an ac:Nat}{ps:List Pe}{pe:Pe}(x:Ev)(h2:BxI I b2 (.cells #[ZE bc] 105 (0,0)))(h3:BxI I b3 (.cells (zfz x).toArray 47 (0,0)))(hPs:Sl I 1 Xy pa pn pc ps)(hpr:0≤x.peer∧x.peer<(pn:Int))(hpe:ps[x.peer.toNat]? =some pe)(hN:UV I pe.a pe.n pe.c pe.notes)(hf:∀ y∈pe.notes,QO y=true)(_hpn:pn≤100000)(hnn:pe.n≤100000):zfN Tryz.prog 112 [ZE b2,ZE b3] I [(bc,.cells #[.slice pa pn pc,.slice qa qn qc,.slice aa an ac] 108 (0,0))] zyp (pe.notes.map (pkN x.peer x.to_)):=by
 intro g l J Jx hJm hY I0 H w h0 hJ hb hw;have hbc:=hb _ (List.mem_singleton.2 rfl);have hw:=hw.peek hbc;have hI0:=zCA I0;have hCI:=zCA I0;have h2:=h2.mono h0;have h3:=h3.mono h0;have hPs:=hPs.mono h0;have hN:=hN.mono h0;have hNl:=hN.sl.len;refine qe Tryz.func112 Tryz.ntmps112 hw<|Qm ?_
 have hD:=zCA I0;refine Zm<|zbu I0 [(bc,.cells #[.slice pa pn pc,.slice qa qn qc,.slice aa an ac] 108 (0,0))] mixed<|zx1 0 rfl (fun _=>Qd rfl KT (fun hg=>by exact Qz.imm h2.out rfl)) hD<|zx1 1 rfl (fun _=>QB rfl) hD<|zx1 2 rfl (fun _=>Qa rfl Yo) hD<|zx1 3 rfl (fun _=>Qa rfl YK) hD<|zx1 4 rfl (fun _=>Qd rfl J6 (fun hg=>by exact Qz.h0 rfl)) hD<|zx1 5 rfl (fun _=>Qa rfl Kx) hD<|zx1 6 rfl (fun _=>Qd rfl Qn (fun hg=>by exact Qz.imm h3.out rfl)) hD<|zx1 7 rfl (fun _=>zX JC hPs) hD<|zx1 8 rfl (fun _=>Qa rfl Zx) hD<|zx1 9 rfl (fun _=>Qd rfl YD (fun hg=>by exact zCt hPs hpe rfl)) hD ?_
 refine zx1 10 rfl (fun _=>QV rfl QZ) hD<|zx1 11 rfl (fun _=>Qe rfl) hD<|zeL kA<|Qw<|zfh hbc<|Qc (Qr<|zgZ (fun m E I' H' loc'=>∃ k:Nat,m=pe.n-k∧E=[(0,.func (.yield l) #[] #[]),(1,ZE b2),(2,ZE b3),(15,.slice pe.a pe.n pe.c),(16,.int .i64 pe.n),(17,.int .i64 k)]∧loc'=[]∧HLe I0 I'∧k≤pe.n∧J ((pe.notes.take k).map (pkN x.peer x.to_)) I' H') _ _ _ ⟨0,rfl,rfl,rfl,zCA _,Nat.zero_le _,hJ⟩ (.cons rfl (.cons rfl (.cons rfl (.cons rfl (.cons rfl (.cons rfl .nil)))))) rfl ?_)
 rintro m E J9 H' loc' ⟨k,rfl,rfl,rfl,hI1,hk,hJk⟩;have h3:=h3.mono hI1;have hN:=hN.mono hI1;have hI0:=hI1;have hCI:=zCA J9;refine zR (zC (zN (Qm ?_)));refine zI ?_ ?_<;>intro hc18
 ·
  have hlt:k<pe.n:=(by have h:=hc18;simp at h;omega);obtain ⟨y,hy⟩:∃ y,pe.notes[k]? =some y:=⟨_,List.getElem?_eq_getElem kB⟩;have hym:=List.mem_of_getElem? hy;have hM:=hN.m y hym (hf y hym);refine Qp (Qc (Qm (Qr (zR<|zV (QC rfl rfl QZ hN.sl (fun hg=>kB))<|zV (Qg rfl Q8 (fun hg=>by exact zCB hN.sl hy) rfl)<|Qt UW rfl rfl (fun b_5=>zh Vk<|zN (Qm ?_))))));have hD:=zCA J9;refine Zm<|zbu J9 [(b_5,.cells (Q7 y).toArray 45 (0,0))] mixed<|zx1 0 rfl (fun _=>Qe rfl) hD<|zx1 1 rfl (fun _=>Qa rfl Kx) hD<|zx1 2 rfl (fun _=>Qd rfl Qn (fun hg=>by exact Qz.imm h3.out rfl)) hD<|zx1 3 rfl (fun _=>Qa rfl zes) hD<|zx1 4 rfl (fun _=>Qd rfl Qn (fun hg=>by exact Qz.imm h3.out rfl)) hD<|zx1 5 rfl (fun _=>Qg rfl Q8 (fun hg=>by exact Cells.g0) rfl) hD<|zdn 6 rfl kA<|qcV (vs:=[_]) rfl zfc (zoC y hM.nd hM.nn hM.ok hM.len)<|Qb ?_
  refine zke hD kG ?_;refine zdn 7 rfl kA<|Xi (s:=zaX y) rfl znd rfl rfl (fun b9 c9 I1 hI1 hB=>?_)
  have hI0:=hI0.trans hI1;have hCI:=hCI.trans hI1;have hD:=hD.trans hI1;refine Qb ?_;refine zke hD kG ?_;refine zx1 8 rfl (fun _=>QF (ps:=[(0,_),(1,_),(2,_)]) [_,_,_] zlC rfl rfl) hD<|zdn 9 rfl kA<|zbN (vs:=[_]) (Post:=fun b I2 H2=>if b then J (((pe.notes.take k).map (pkN x.peer x.to_))++[pkN x.peer x.to_ y]) I2 H2 else Jx (((pe.notes.take k).map (pkN x.peer x.to_))++[pkN x.peer x.to_ y]) I2 H2) rfl rfl rfl rfl (hY _ _ _ _ _ (zjf _ hy) (h0.trans hI0) (zn3 hM.ok hB) (hJm _ _ _ _ hCI hJk)) ?_
  rintro t9 I2 H9 hI2 hP9;have hI0:=hI0.trans hI2;have hD:=hD.trans hI2;refine Qb ?_;refine zke hD kG ?_;refine zx1 10 rfl (fun _=>Zy rfl) hD<|zeL kA<|Qw<|Qc ?_
  refine zI ?_ ?_<;>intro hc31
  ·
   have ht:t9=false:=(by simpa using hc31);subst ht;have hJ2:Jx (((pe.notes.take k).map (pkN x.peer x.to_))++[pkN x.peer x.to_ y]) _ H9:=hP9;exact Qs (Qj (Qf (Qf (Qj<|Ys rfl (fun w hw=>⟨_,_,H9,rfl,hI0,by exact hw.drop,.inr ⟨_,zjf _ hy,hJ2⟩⟩)))))
  have ht:t9=true:=(by simpa using hc31);subst ht;have hJ2:J (((pe.notes.take k).map (pkN x.peer x.to_))++[pkN x.peer x.to_ y]) _ H9:=hP9;refine Qp (Qi (Qc (Qh (zB<|zM (Qb ?_)))));exact zbl rfl rfl rfl _ [] ⟨pe.n-(k+1),kB,k+1,rfl,rfl,rfl,hI0,kB,by rw [Za hy,List.map_append];exact hJ2⟩ (.cons rfl (.cons rfl (.cons rfl (.cons rfl (.cons rfl (.cons rfl .nil)))))) kN
 have hge:pe.n≤k:=(by have h:=hc18;simp at h;omega);rw [ZB hNl hge] at hJk;exact Q6 (Ql (Ql (Qq<|YP (Ys rfl (fun w hw=>⟨_,_,_,rfl,hI1,hw,.inl hJk⟩)))))
end
end Go.Proofs.YtjblkbkmblkgoaaGreat
section
namespace Go.Kn
open Go
theorem Uu.frz {P:Program}{f:FuncId}{args:List Value}{I:Qv}{L:Loc}{Post Post':Value→Qv→Loc→Prop}{Bad:Value→Prop}(h:Uu P f args I L Post Bad)
  (hp:∀ v I' L',HLe I I'→Post v I' L'→∃ L1 b o,Z3 L' b o L1∧∀ I2,HLe I' I2→I2 b=some o→Post' v I2 L1):Uu P f args I L Post' Bad:=fun g H w hw=>
 (h g H w hw).mono fun _ _ x=>x.elim (fun ⟨v,I',L',he,hI,hs,p⟩=>by
  obtain ⟨L1,b,o,ht,k⟩:=hp v I' L' hI p;obtain ⟨h1,h2,h3⟩:=hs.freeze ht
  exact .inl ⟨v,_,L1,he,hI.trans h2,h1,k _ h2 h3⟩) .inr
theorem Uu.wide {P:Program}{f:FuncId}{args:List Value}{I:Qv}{L:Loc}{Post:Value→Qv→Loc→Prop}{Bad:Value→Prop}(h:Uu P f args I L Post Bad)(R:Loc):Uu P f args I (L++R) (fun v I' L'=>∃ L1,L'=L1++R∧Post v I' L1) Bad:=fun _g _H _w hw=>
 (h.frame QR hw).mono fun _ _ x=>x.elim (fun ⟨v,I',_L',he,hI,hs,p⟩=>.inl ⟨v,I',_,he,hI,hs,_,rfl,p⟩) fun ⟨v,he,hv,hs⟩=>.inr ⟨v,he,hv,hs.drop⟩
end Go.Kn
namespace Go.Proofs.YtjblkbkmblkgoaaGreat
open Go Go.Kn Go.Proofs
structure zo1 (I:Qv)(pn pc:Nat)(qa:Option Addr)(qn qc:Nat)(aa:Option Addr)(an ac:Nat)(cur:List Value)(ps:List Pe)(qs:List Pk)(ks:List (Int×Int)):Prop where
 p:zkq I cur ps
 pl:ps.length=pn
 pc:pn≤pc
 m:1≤pn∧pn≤24
 q:Sl I 3 ZK qa qn qc qs
 pk:∀ q∈qs,PkM I q
 k:Sl I 2 Um aa an ac ks
 net:UZ qs ks=0
 bad:∀ q∈qs,U5 pn q=false
 an:an≤100000
 dl:∀ q∈qs,q.n≤100000
 sm:qn+24≤4096∧∀ pe∈ps,qn+pe.n≤4096
theorem zo1.mono {I I':Qv}{pn pc:Nat}{qa:Option Addr}{qn qc:Nat}{aa:Option Addr}{an ac:Nat}{cur:List Value}{ps:List Pe}{qs:List Pk}{ks:List (Int×Int)}(h:zo1 I pn pc qa qn qc aa an ac cur ps qs ks)(hI:HLe I I'):zo1 I' pn pc qa qn qc aa an ac cur ps qs ks:=
 ⟨h.p.mono hI,h.pl,h.pc,h.m,h.q.mono hI,fun q hq=>(h.pk q hq).mono hI,h.k.mono hI,h.net,h.bad,h.an,h.dl,h.sm⟩
structure EvM (I:Qv)(x:Ev):Prop where
 nd:Nd I x.note.pt
 w:NtW x.note
theorem EvM.mono {I I':Qv}{x:Ev}(h:EvM I x)(hI:HLe I I'):EvM I' x:=⟨h.nd.mono hI,h.w⟩
theorem EvM.msg {I:Qv}{x:Ev}(h:EvM I x)(hf:QO x.note=true):NtM I x.note:=zgh h.w h.nd hf
theorem EvM.form {I:Qv}{x:Ev}(h:EvM I x):QO (Yx x.note)=QO x.note:=JH (by
 have h1:Sl I 1 ZX x.note.pt.a x.note.pt.n x.note.pt.c x.note.pt.needs:=h.nd
 exact h1.len.symm)
theorem zni {a b:Int}(h:lkV (zr9 a b) (zgq a b)=true):0≤a∧0≤b∧a<24∧b<24:=by
 unfold lkV zr9 zgq at h;simp only [Bool.and_eq_true,decide_eq_true_eq] at h;split at h<;>split at h<;>omega
theorem zuP {qs:List Pk}{ks:List (Int×Int)}(h:UZ qs ks=0):∀ q∈qs,0≤q.frm∧0≤q.to_:=fun q hq=>by
 have h1:=(ze3 h).2.1 q hq;unfold pkV at h1;rw [Bool.and_eq_true] at h1;exact ⟨(zni h1.1).1,(zni h1.1).2.1⟩
theorem ze9 {I:Qv}{bp pn pc t:Nat}{cur:List Value}{ps:List Pe}(hP:zkq I cur ps)(hpl:ps.length=pn)(hpc:pn≤pc)(hb:I bp=some (.cells cur.toArray t (0,0))):Sl I 1 Xy (some ⟨bp,0,none⟩) pn pc ps:=
 ⟨hpl,hpc,fun _=>rfl,fun k x hx j u hu=>by
  have hj:j=0:=(by have:=(List.getElem?_eq_some_iff.1 hu).1;simp [Xy] at this;omega);subst hj;have hu:u= .slice x.a x.n x.c:=(by simpa [Xy] using hu.symm);subst hu;refine Qz.imm hb ?_;show zki _ (0+k*1+0)=_;rw [Nat.zero_add,Nat.mul_one,Nat.add_zero,V7]
  exact hP.at_ k x hx⟩
def zuu (bc bp pn pc:Nat)(aa:Option Addr)(an ac:Nat)(ks:List (Int×Int))(R:Int×Rd)(v:Value)(I':Qv)(L':Go.Kn.Loc):Prop:=
 v= .tuple #[]∧R.1=0∧∃ a m c ps' qs',L'=[(bc,.cells #[.slice (some ⟨bp,0,none⟩) pn pc,.slice a m c,.slice aa an ac] 108 (0,0))]∧RmP I' (some ⟨bp,0,none⟩) pn pc a m c aa an ac ps' qs' ks∧Jd ps' qs' ks=R.2
def ztB (R:Int×Rd)(v:Value):Prop:=v= .iface 50 (.int .i64 R.1)∧R.1≠0
theorem Wa {R:Int×Rd}{v:Value}{e:Int}{r:Rd}(h:R=(e,r))(hv:v= .iface 50 (.int .i64 e))(he:e≠0):ztB R v:=by subst h;exact ⟨hv,he⟩
theorem zn4 {bc bp pn pc:Nat}{aa:Option Addr}{an ac:Nat}{ks:List (Int×Int)}{R:Int×Rd}{I':Qv}{a:Option Addr}{m c:Nat}{ps:List Pe}{qs D:List Pk}{r:Rd}(h:R=(0,r))(hpe:Sl I' 1 Xy (some ⟨bp,0,none⟩) pn pc ps)(hnt:∀ x∈ps,UV I' x.a x.n x.c x.notes)
  (hS:zeT I' a m c qs D)(hk:Sl I' 2 Um aa an ac ks)(e:r=⟨dtP ps,D,ks⟩):zuu bc bp pn pc aa an ac ks R (.tuple #[]) I' [(bc,.cells #[.slice (some ⟨bp,0,none⟩) pn pc,.slice a m c,.slice aa an ac] 108 (0,0))]:=by
 subst h;subst e;exact ⟨rfl,rfl,a,m,c,ps,qs,rfl,⟨hpe,hnt,hS.sl,hS.pk,hk⟩,by unfold Jd;rw [hS.dat]⟩
/-! ### Telling -/
section
variable {ps:List Pe} {qs:List Pk} {ks:List (Int×Int)} {x:Ev} {I:Qv}
theorem zaQ {i:Int}:isP (Jd ps qs ks) i=true↔0≤i∧i<(ps.length:Int):=by rw [zgE];simp [Jd,zeu]
theorem zw6 (h:¬(0≤x.peer∧x.peer<(ps.length:Int))):UY (Jd ps qs ks) (Y9 x)=(1,zeroR):=by
 unfold UY;rw [if_neg];intro h2;exact h (zaQ.1 h2)
theorem zzx (hE:EvM I x)(h:0≤x.peer∧x.peer<(ps.length:Int))(h2:QO x.note=false):UY (Jd ps qs ks) (Y9 x)=(570,zeroR):=by
 have e:QO (Y9 x).note=false:=(by show QO (Yx x.note)=false;rw [hE.form,h2]);have ei:isP (Jd ps qs ks) (Y9 x).peer=true:=zaQ.2 h;unfold UY;rw [if_pos ei,e];rfl
theorem zxh (hE:EvM I x)(h:0≤x.peer∧x.peer<(ps.length:Int))(h2:QO x.note=true)(h3:zcP (dtP ps) x.peer.toNat (Yx x.note)=none):UY (Jd ps qs ks) (Y9 x)=(2,zeroR):=by
 have e:QO (Y9 x).note=true:=(by show QO (Yx x.note)=true;rw [hE.form,h2]);have e2:zcP (Jd ps qs ks).ps (Y9 x).peer.toNat (Y9 x).note=none:=h3;have ei:isP (Jd ps qs ks) (Y9 x).peer=true:=zaQ.2 h;unfold UY;rw [if_pos ei,if_pos e,e2]
theorem zyv (hE:EvM I x)(h:0≤x.peer∧x.peer<(ps.length:Int))(h2:QO x.note=true){P:List (List Nt)}(h3:zcP (dtP ps) x.peer.toNat (Yx x.note)=some P):UY (Jd ps qs ks) (Y9 x)=(0,⟨P,qs.map VR++KI ps.length x.peer x.note,ks⟩):=by
 have e:QO (Y9 x).note=true:=(by show QO (Yx x.note)=true;rw [hE.form,h2]);have e2:zcP (Jd ps qs ks).ps (Y9 x).peer.toNat (Y9 x).note=some P:=h3;have ei:isP (Jd ps qs ks) (Y9 x).peer=true:=zaQ.2 h;unfold UY;rw [if_pos ei,if_pos e,e2];simp only [Jd,zeu];rfl
theorem zlx (h:¬(isP (Jd ps qs ks) x.peer=true∧isP (Jd ps qs ks) x.to_=true∧x.peer≠x.to_)):zaS (Jd ps qs ks) (Y9 x)=(1,zeroR):=by
 unfold zaS;rw [if_neg];intro h2;simp only [Bool.and_eq_true] at h2;exact h ⟨h2.1.1,h2.1.2,bne_iff_ne.1 h2.2⟩
theorem zxu (h1:0≤x.peer∧x.peer<(ps.length:Int))(h2:0≤x.to_∧x.to_<(ps.length:Int))(h3:x.peer≠x.to_){pe:Pe}(hpe:ps[x.peer.toNat]? =some pe):zaS (Jd ps qs ks) (Y9 x)=(0,⟨dtP ps,qs.map VR++pe.notes.map (pkN x.peer x.to_),ks⟩):=by
 have e3:(x.peer != x.to_)=true:=by simp [h3]
 have e1:(isP (Jd ps qs ks) (Y9 x).peer&&isP (Jd ps qs ks) (Y9 x).to_&&(Y9 x).peer != (Y9 x).to_)=true:=by
  show (isP (Jd ps qs ks) x.peer&&isP (Jd ps qs ks) x.to_&&x.peer != x.to_)=true;rw [zaQ.2 h1,zaQ.2 h2,e3];rfl
 have e2:(Jd ps qs ks).ps.getD (Y9 x).peer.toNat []=pe.notes.map Yx:=by
  show (dtP ps).getD x.peer.toNat []=_;rw [List.getD_eq_getElem?_getD,zbL hpe];rfl
 unfold zaS;rw [if_pos e1,e2,List.map_map];rfl
theorem zxr (hpk:∀ q∈qs,PkM I q)(h:atE qs ks x.at_≠0):zcT (Jd ps qs ks) (Y9 x)=(atE qs ks x.at_,zeroR):=by
 have e:atE (qs.map VR) ks x.at_=atE qs ks x.at_:=WS hpk ks x.at_;show (if atE (qs.map VR) ks x.at_≠0 then (atE (qs.map VR) ks x.at_,zeroR) else _)=_;rw [e,if_pos h]
theorem zsU (hpk:∀ q∈qs,PkM I q)(h:atE qs ks x.at_=0):zcT (Jd ps qs ks) (Y9 x)=(0,⟨dtP ps,(qs.eraseIdx x.at_.toNat).map VR,ks⟩):=by
 have e:atE (qs.map VR) ks x.at_=atE qs ks x.at_:=WS hpk ks x.at_;show (if atE (qs.map VR) ks x.at_≠0 then (atE (qs.map VR) ks x.at_,zeroR) else (0,⟨dtP ps,(qs.map VR).eraseIdx x.at_.toNat,ks⟩))=_;rw [e,if_neg (by simpa using h),XP]
theorem zyQ (hpk:∀ q∈qs,PkM I q)(h:WY qs ks x.at_≠0):zcZ (Jd ps qs ks) (Y9 x)=(WY qs ks x.at_,zeroR):=by
 have e:WY (qs.map VR) ks x.at_=WY qs ks x.at_:=ziI hpk ks x.at_;show (if WY (qs.map VR) ks x.at_≠0 then (WY (qs.map VR) ks x.at_,zeroR) else _)=_;rw [e,if_pos h]
theorem zsY (hpk:∀ q∈qs,PkM I q)(h:WY qs ks x.at_=0):zcZ (Jd ps qs ks) (Y9 x)=(0,⟨dtP ps,(qs++[atP qs ks x.at_]).map VR,ks⟩):=by
 have e:WY (qs.map VR) ks x.at_=WY qs ks x.at_:=ziI hpk ks x.at_;show (if WY (qs.map VR) ks x.at_≠0 then (WY (qs.map VR) ks x.at_,zeroR) else (0,⟨dtP ps,qs.map VR++[atP (qs.map VR) ks x.at_],ks⟩))=_;rw [e,if_neg (by simpa using h),zhj hpk,List.map_append];rfl
end
theorem zsS {m:Nat}(hm:m≤24){i k:Int}{t:Nt}(hi:0≤i∧i<(m:Int))(hk:0≤k∧k<(m:Int))(hne:i≠k)(hl:(Jw t).length≤900000):pkV (pkN i k t)=true:=by
 unfold pkV pkN lkV zr9 zgq;simp only [Bool.and_eq_true,decide_eq_true_eq];split<;>split<;>omega
end Go.Proofs.YtjblkbkmblkgoaaGreat
end
namespace Go.Proofs.YtjblkbkmblkgoaaGreat
section
open Go Go.Kn Go.Proofs
theorem zhs:Fun Tryz.prog 106:=.of Tryz.func106 kA kA
theorem zkV:Fun Tryz.prog 110:=.of Tryz.func110 kA kA
variable{I:Qv}{bc bp pn pc qn qc an ac:Nat}{qa aa:Option Addr}{cur:List Value}{ps:List Pe}{qs:List Pk}{ks:List (Int×Int)}
theorem zwa (hX:zo1 I pn pc qa qn qc aa an ac cur ps qs ks)(x:Ev)(hE:EvM I x):Uu Tryz.prog 46 [ZE bc,.agg (zfz x).toArray] I [(bc,.cells #[.slice (some ⟨bp,0,none⟩) pn pc,.slice qa qn qc,.slice aa an ac] 108 (0,0)),(bp,.cells (cur).toArray 59 (0,0))] (zuu bc bp pn pc aa an ac ks (UY (Jd ps qs ks) (Y9 x))) (ztB (UY (Jd ps qs ks) (Y9 x))):=by
 intro g H w hw;refine qe Tryz.func46 Tryz.ntmps46 hw ?_;have hIc:=zCA I;refine zR<|QQ rfl rfl rfl (fun b_2=>QQ rfl rfl rfl (fun b_3=>Qb<|QH .here (fun I1 hI1 hb1=>?_)))
 have hX:=hX.mono hI1;have hE:=hE.mono hI1;have hIc:=hIc.trans hI1;have h3:=BxI.of hb1;refine QH .here (fun I2 hI2 hb2=>?_);have hX:=hX.mono hI2;have hE:=hE.mono hI2;have h3:=h3.mono hI2;have hIc:=hIc.trans hI2;have h2:=BxI.of hb2;refine Qc (zR<|zV (Qd rfl KT (fun hg=>by exact Qz.imm h2.out rfl))<|zF Kx ?_);refine zV (Qd rfl Qn (fun hg=>by exact Qz.imm h3.out rfl)) ?_;refine zx5 [_,_] rfl zhs (by repeat (first | exact .cons .here .nil | exact Zb | exact QR | apply Q0 | apply QX)) (zgJ x.peer) ?_ (fun pv hpv=>by refine zx6 ?_;exact (Wa (zw6 (by rw [hX.pl];exact hpv.2)) hpv.1 kD));rintro vv3 I3 L3 hI3 ⟨rfl,rfl,rfl,hp1peer,hp2peer⟩;have hX:=hX.mono hI3;have hE:=hE.mono hI3;have h3:=h3.mono hI3;have h2:=h2.mono hI3;have hIc:=hIc.trans hI3;have hprpeer:0≤x.peer∧x.peer<(ps.length:Int):=(by rw [hX.pl];exact ⟨hp1peer,hp2peer⟩);have hplx:=hX.pl;have hto:x.peer.toNat<pn:=kB;have hti:x.peer=((x.peer.toNat:Nat):Int):=(Int.toNat_of_nonneg hprpeer.1).symm;refine zN (zR ?_);refine zF zdM ?_;refine zV (Qg rfl Q8 (fun hg=>by exact Cells.part (pre:=[_,_,_,_]) (vs:=Q7 x.note) (post:=[]) (BxI.cells (vs:=zfz x) h3) rfl) rfl)<|qcV (vs:=[_]) rfl zbZ (Ur x.note hE.nd) ?_
 refine zx5 [_,_] rfl KN .nil (Wd I3 (QO x.note) 570) ?_ (fun pv hpv=>by refine zx6 ?_;exact (Wa (zzx hE hprpeer hpv.2) hpv.1 kD));rintro vv4 I4 L4 hI4 ⟨rfl,rfl,rfl,hf⟩;have hX:=hX.mono hI4;have hE:=hE.mono hI4;have h3:=h3.mono hI4;have h2:=h2.mono hI4;have hIc:=hIc.trans hI4;refine zN (zR<|zV (Qd rfl KT (fun hg=>by exact Qz.imm h2.out rfl))<|zF Kx ?_);refine zV (Qd rfl Qn (fun hg=>by exact Qz.imm h3.out rfl))<|zF zdM ?_
 refine zV (Qg rfl Q8 (fun hg=>by exact Cells.part (pre:=[_,_,_,_]) (vs:=Q7 x.note) (post:=[]) (BxI.cells (vs:=zfz x) h3) rfl) rfl) ?_;refine zx5 [_,_,_] rfl zop (by repeat (first | exact .cons .here .nil | exact Zb | exact QR | apply Q0 | apply QX)) (zig hti hX.p hX.pl hto (by have h:=hX.m;omega) (hE.msg hf) hf) ?_ (fun pv hpv=>by refine zx6 ?_;exact (Wa (zxh hE hprpeer hf hpv.2) hpv.1 kD));rintro vv5 I5 L5 hI5 ⟨rfl,cur2,ps2,rfl,hP2,hpl2,hlr⟩;have hX:=hX.mono hI5;have hE:=hE.mono hI5;have h3:=h3.mono hI5;have h2:=h2.mono hI5;have hIc:=hIc.trans hI5;refine zN (Qh<|zV (Qd rfl KT (fun hg=>by exact Qz.imm h2.out rfl))<|zV (YJ (us:=[]) (vs:=[_,_]) rfl rfl)<|QU (b:=bp) (by repeat (first | exact Z3.here | apply Z3.there)) (fun I6 hI6 hb6=>?_));have hX:=hX.mono hI6;have hE:=hE.mono hI6;have h3:=h3.mono hI6;have h2:=h2.mono hI6;have hP2:=hP2.mono hI6;have hIc:=hIc.trans hI6;have hPs:=ze9 hP2 hpl2 hX.pc hb6;refine zpc [_,_] rfl zkV (by exact .cons .here .nil) (zsw (zeT.mk hX.q hX.pk rfl) hX.k hX.an (f:=111) (cap:=[ZE b_2,ZE b_3]) zty (ztb x h2 h3 (hE.msg hf) (hE.msg hf).ok (by have h:=hX.m;omega)) (by rw [Xs hX.pk];exact hX.net) (fun p hp=>by obtain ⟨k,hk,hne,rfl⟩:=ziM hp;exact zsS hX.m.2 kB ⟨kB,kB⟩ (fun e=>hne e.symm) (hE.msg hf).len) (by rw [List.length_map,hX.q.len];have h8:=zjr pn x.peer x.note;have h9:=hX.sm.1;have h7:=hX.m;omega)) ?_;rintro vv7 I7 L7 hI7 ⟨rfl,a6,m6,c6,qs6,rfl,hS6⟩;have hX:=hX.mono hI7;have hE:=hE.mono hI7;have hP2:=hP2.mono hI7;have hPs:=hPs.mono hI7;have hIc:=hIc.trans hI7;exact Qb<|YP (Ys rfl (fun w hw=>.inl ⟨_,I7,_,rfl,hIc,by exact hw,zn4 (zyv hE hprpeer hf hlr) hPs hP2.nt hS6 hX.k (by rw [hX.pl])⟩))
theorem zuB (hX:zo1 I pn pc qa qn qc aa an ac cur ps qs ks)(x:Ev)(_hE:EvM I x):Uu Tryz.prog 47 [ZE bc,.agg (zfz x).toArray] I [(bc,.cells #[.slice (some ⟨bp,0,none⟩) pn pc,.slice qa qn qc,.slice aa an ac] 108 (0,0)),(bp,.cells (cur).toArray 59 (0,0))] (zuu bc bp pn pc aa an ac ks (zaS (Jd ps qs ks) (Y9 x))) (ztB (zaS (Jd ps qs ks) (Y9 x))):=by
 intro g H w hw;refine qe Tryz.func47 Tryz.ntmps47 hw ?_;have hIc:=zCA I;refine zR<|QQ rfl rfl rfl (fun b_2=>QQ rfl rfl rfl (fun b_3=>Qb<|QH .here (fun I1 hI1 hb1=>?_)))
 have hX:=hX.mono hI1;have hIc:=hIc.trans hI1;have h3:=BxI.of hb1;refine QH .here (fun I2 hI2 hb2=>?_);have hX:=hX.mono hI2;have h3:=h3.mono hI2;have hIc:=hIc.trans hI2;have h2:=BxI.of hb2;refine Qc (zR<|zV (Qd rfl KT (fun hg=>by exact Qz.imm h2.out rfl))<|zF Kx ?_);refine zV (Qd rfl Qn (fun hg=>by exact Qz.imm h3.out rfl)) ?_;refine zx5 [_,_] rfl zhs (by repeat (first | exact .cons .here .nil | exact Zb | exact QR | apply Q0 | apply QX)) (zgJ x.peer) ?_ (fun pv hpv=>by refine zx6 ?_;exact (Wa (zlx (fun h9=>by have h8:=zaQ.1 h9.1;rw [hX.pl] at h8;exact hpv.2 h8)) hpv.1 kD));rintro vv3 I3 L3 hI3 ⟨rfl,rfl,rfl,hp1peer,hp2peer⟩;have hX:=hX.mono hI3;have h3:=h3.mono hI3;have h2:=h2.mono hI3;have hIc:=hIc.trans hI3;have hprpeer:0≤x.peer∧x.peer<(ps.length:Int):=(by rw [hX.pl];exact ⟨hp1peer,hp2peer⟩);refine zN (zR<|zV (Qd rfl KT (fun hg=>by exact Qz.imm h2.out rfl))<|zF zes ?_);refine zV (Qd rfl Qn (fun hg=>by exact Qz.imm h3.out rfl)) ?_;refine zx5 [_,_] rfl zhs (by repeat (first | exact .cons .here .nil | exact Zb | exact QR | apply Q0 | apply QX)) (zgJ x.to_) ?_ (fun pv hpv=>by refine zx6 ?_;exact (Wa (zlx (fun h9=>by have h8:=zaQ.1 h9.2.1;rw [hX.pl] at h8;exact hpv.2 h8)) hpv.1 kD));rintro vv4 I4 L4 hI4 ⟨rfl,rfl,rfl,hp1to_,hp2to_⟩;have hX:=hX.mono hI4;have h3:=h3.mono hI4;have h2:=h2.mono hI4;have hIc:=hIc.trans hI4;have hprto_:0≤x.to_∧x.to_<(ps.length:Int):=(by rw [hX.pl];exact ⟨hp1to_,hp2to_⟩);refine zN (zR ?_);refine zF Kx ?_;refine zV (Qd rfl Qn (fun hg=>by exact Qz.imm h3.out rfl))<|zF zes ?_
 refine zV (Qd rfl Qn (fun hg=>by exact Qz.imm h3.out rfl))<|zC ?_
 refine zx5 [_,_] rfl KN .nil (Wd I4 (x.peer != x.to_) 1) ?_ (fun pv hpv=>by refine zx6 ?_;exact (Wa (zlx (fun h9=>h9.2.2 (by simpa using hpv.2))) hpv.1 kD));rintro vv5 I5 L5 hI5 ⟨rfl,rfl,rfl,hne0⟩;have hX:=hX.mono hI5;have h3:=h3.mono hI5;have h2:=h2.mono hI5;have hIc:=hIc.trans hI5;have hne:x.peer≠x.to_:=(by simpa using hne0);have hplx:=hX.pl;obtain ⟨pe,hpe⟩:∃ y,ps[x.peer.toNat]? =some y:=⟨_,List.getElem?_eq_getElem kB⟩;have hpm:=List.mem_of_getElem? hpe;have hvv:=Kf (hX.p.ok pe hpm);refine zN (Qh<|zV (Qd rfl KT (fun hg=>by exact Qz.imm h2.out rfl))<|zV (YJ (us:=[]) (vs:=[_,_]) rfl rfl)<|QU (b:=bp) (by repeat (first | exact Z3.here | apply Z3.there)) (fun I6 hI6 hb6=>?_));have hX:=hX.mono hI6;have h3:=h3.mono hI6;have h2:=h2.mono hI6;have hIc:=hIc.trans hI6;have hPs:=ze9 hX.p hX.pl hX.pc hb6;refine zpc [_,_] rfl zkV (by exact .cons .here .nil) (zsw (zeT.mk hX.q hX.pk rfl) hX.k hX.an (f:=112) (cap:=[ZE b_2,ZE b_3]) ztY (zvb x h2 h3 hPs kB hpe (hX.p.nt pe hpm) hvv.2.1 (by have h:=hX.m;omega) (by have h:=hX.sm.2 pe hpm;omega)) (by rw [Xs hX.pk];exact hX.net) (fun p hp=>by obtain ⟨y,hy,rfl⟩:=List.mem_map.1 hp;exact zsS hX.m.2 kB kB hne ((hX.p.nt pe hpm).m y hy (hvv.2.1 y hy)).len) (by rw [List.length_map,List.length_map,hX.q.len,(hX.p.nt pe hpm).sl.len];exact hX.sm.2 pe hpm)) ?_;rintro vv7 I7 L7 hI7 ⟨rfl,a6,m6,c6,qs6,rfl,hS6⟩;have hX:=hX.mono hI7;have hPs:=hPs.mono hI7;have hIc:=hIc.trans hI7;exact Qb<|YP (Ys rfl (fun w hw=>.inl ⟨_,I7,_,rfl,hIc,by exact hw,zn4 (zxu hprpeer hprto_ hne hpe) hPs hX.p.nt hS6 hX.k rfl⟩))
theorem zjQ (hX:zo1 I pn pc qa qn qc aa an ac cur ps qs ks)(x:Ev):Uu Tryz.prog 48 [ZE bc,.agg (zfz x).toArray] I [(bc,.cells #[.slice (some ⟨bp,0,none⟩) pn pc,.slice qa qn qc,.slice aa an ac] 108 (0,0)),(bp,.cells (cur).toArray 59 (0,0))] (zuu bc bp pn pc aa an ac ks (zcN (Jd ps qs ks) (Y9 x))) (ztB (zcN (Jd ps qs ks) (Y9 x))):=by
 have hm:=hX.m;have hs:=hX.sm.1;refine Uu.frz (zou hX.p hX.pl kB hX.q kB hX.pk hX.k hX.an x hX.bad hX.dl (zuP hX.net)) fun v I' L' hI h=>?_;obtain ⟨rfl,h0,cur',ps',a,m,c,qs',rfl,hP',hpl',hS',hsub,e⟩:=h;exact ⟨_,bp,_,.there .here,fun I2 h2 hb=>⟨rfl,h0,a,m,c,ps',qs',rfl,⟨ze9 (hP'.mono h2) hpl' hX.pc hb,(hP'.mono h2).nt,hS'.mono h2,fun q hq=>(hX.pk q (hsub q hq)).mono (hI.trans h2),hX.k.mono (hI.trans h2)⟩,e.symm⟩⟩
theorem zul (hX:zo1 I pn pc qa qn qc aa an ac cur ps qs ks)(x:Ev):Uu Tryz.prog 49 [ZE bc,.agg (zfz x).toArray] I [(bc,.cells #[.slice (some ⟨bp,0,none⟩) pn pc,.slice qa qn qc,.slice aa an ac] 108 (0,0)),(bp,.cells (cur).toArray 59 (0,0))] (zuu bc bp pn pc aa an ac ks (zcT (Jd ps qs ks) (Y9 x))) (ztB (zcT (Jd ps qs ks) (Y9 x))):=by
 have hm:=hX.m;have hs:=hX.sm.1;refine Uu.frz (((zyg hX.q kB hX.k hX.an x).wide [(bp,.cells (cur).toArray 59 (0,0))]).mono (fun _ _ _ _ h=>h) fun v hv=>Wa (zxr hX.pk hv.2) hv.1 hv.2) fun v I' L' hI h=>?_;obtain ⟨L1,rfl,rfl,h0,a,m,c,rfl,hS'⟩:=h;exact ⟨_,bp,_,.there .here,fun I2 h2 hb=>⟨rfl,by rw [zsU hX.pk h0],a,m,c,ps,qs.eraseIdx x.at_.toNat,rfl,⟨ze9 (hX.p.mono (hI.trans h2)) hX.pl hX.pc hb,(hX.p.mono (hI.trans h2)).nt,hS'.mono h2,fun q hq=>(hX.pk q (zca q hq)).mono (hI.trans h2),hX.k.mono (hI.trans h2)⟩,by rw [zsU hX.pk h0];rfl⟩⟩
theorem zlK (hX:zo1 I pn pc qa qn qc aa an ac cur ps qs ks)(x:Ev):Uu Tryz.prog 50 [ZE bc,.agg (zfz x).toArray] I [(bc,.cells #[.slice (some ⟨bp,0,none⟩) pn pc,.slice qa qn qc,.slice aa an ac] 108 (0,0)),(bp,.cells (cur).toArray 59 (0,0))] (zuu bc bp pn pc aa an ac ks (zcZ (Jd ps qs ks) (Y9 x))) (ztB (zcZ (Jd ps qs ks) (Y9 x))):=by
 have hm:=hX.m;have hs:=hX.sm.1;refine Uu.frz (((zqS hX.q kB hX.k hX.an x).wide [(bp,.cells (cur).toArray 59 (0,0))]).mono (fun _ _ _ _ h=>h) fun v hv=>Wa (zyQ hX.pk hv.2) hv.1 hv.2) fun v I' L' hI h=>?_;obtain ⟨L1,rfl,rfl,h0,a,m,c,rfl,hS'⟩:=h;exact ⟨_,bp,_,.there .here,fun I2 h2 hb=>⟨rfl,by rw [zsY hX.pk h0],a,m,c,ps,qs++[atP qs ks x.at_],rfl,⟨ze9 (hX.p.mono (hI.trans h2)) hX.pl hX.pc hb,(hX.p.mono (hI.trans h2)).nt,hS'.mono h2,fun q hq=>(List.mem_append.1 hq).elim (fun h=>(hX.pk q h).mono (hI.trans h2)) (fun h=>by rw [List.mem_singleton.1 h];exact (zrW hX.pk ks x.at_).mono (hI.trans h2)),hX.k.mono (hI.trans h2)⟩,by rw [zsY hX.pk h0];rfl⟩⟩
end
end Go.Proofs.YtjblkbkmblkgoaaGreat
section
namespace Go.Kn
open Go
section
variable {P:Program} {fn:Func} {R:Ending→World→Prop} {N:Nat} {g:World} {I H:Qv} {loc:Loc} {E:Env}
theorem zir (h:∀ a w,Uf N [] E a→St g I H loc w→∃ v,(results fn a.tmps).run P w= .ok v w∧R (.returned v) w):At ⟨P,none,N,[],g,H⟩ (bodyPostDIn (FR none) 0 P fn R) .ret E I loc:=fun a w ha hw=>by
 show LeavesIn _ _ _ _ _ _ a.defers .returning w;rw [ha.defers];exact h a w ha hw
end
end Go.Kn
namespace Go.Proofs.YtjblkbkmblkgoaaGreat
open Go Go.Kn Go.Proofs
def evK (f:Nat):Value:=.func (.func f) #[] #[]
def zgW (a b c d e:Nat):List (Int×Nat):=[(1,a),(2,b),(3,c),(4,d),(5,e)]
theorem zs9 {a b c d e f:Nat}{k:Int}(h:ZD (zgW a b c d e) k=some f):(k=1∧f=a)∨(k=2∧f=b)∨(k=3∧f=c)∨(k=4∧f=d)∨(k=5∧f=e):=by
 unfold zgW ZD at h;split at h
 ·
  rename_i e1;cases h;exact .inl ⟨e1.symm,rfl⟩
 ·
  unfold ZD at h;split at h
  ·
   rename_i e1;cases h;exact .inr (.inl ⟨e1.symm,rfl⟩)
  ·
   unfold ZD at h;split at h
   ·
    rename_i e1;cases h;exact .inr (.inr (.inl ⟨e1.symm,rfl⟩))
   ·
    unfold ZD at h;split at h
    ·
     rename_i e1;cases h;exact .inr (.inr (.inr (.inl ⟨e1.symm,rfl⟩)))
    ·
     unfold ZD at h;split at h
     ·
      rename_i e1;cases h;exact .inr (.inr (.inr (.inr ⟨e1.symm,rfl⟩)))
     ·
      cases h
theorem zrp {a b c d e:Nat}{r:Rd}{x:Ev}(h:ZD (zgW a b c d e) x.kind=none):zcW r (Y9 x)=(1,zeroR):=by
 have h1:∀ k f,(k,f)∈zgW a b c d e→x.kind≠k:=by
  intro k f hm e1;subst e1;simp only [zgW,List.mem_cons,Prod.mk.injEq,List.not_mem_nil,or_false] at hm;unfold zgW at h;rcases hm with ⟨e1,_⟩ | ⟨e1,_⟩ | ⟨e1,_⟩ | ⟨e1,_⟩ | ⟨e1,_⟩<;>rw [e1] at h<;>simp [ZD] at h
 have k1:¬(Y9 x).kind=1:=h1 1 a (by simp [zgW]);have k2:¬(Y9 x).kind=2:=h1 2 b (by simp [zgW]);have k3:¬(Y9 x).kind=3:=h1 3 c (by simp [zgW]);have k4:¬(Y9 x).kind=4:=h1 4 d (by simp [zgW]);have k5:¬(Y9 x).kind=5:=h1 5 e (by simp [zgW]);unfold zcW;rw [if_neg k1,if_neg k2,if_neg k3,if_neg k4,if_neg k5]
theorem zvv {r:Rd}{x:Ev}(h:x.kind=1):zcW r (Y9 x)=UY r (Y9 x):=if_pos h
theorem zAG {r:Rd}{x:Ev}(h:x.kind=2):zcW r (Y9 x)=zaS r (Y9 x):=by
 have e:(Y9 x).kind=2:=h;unfold zcW;rw [e];rfl
theorem zuh {r:Rd}{x:Ev}(h:x.kind=3):zcW r (Y9 x)=zcN r (Y9 x):=by
 have e:(Y9 x).kind=3:=h;unfold zcW;rw [e];rfl
theorem zA8 {r:Rd}{x:Ev}(h:x.kind=4):zcW r (Y9 x)=zcT r (Y9 x):=by
 have e:(Y9 x).kind=4:=h;unfold zcW;rw [e];rfl
theorem zA0 {r:Rd}{x:Ev}(h:x.kind=5):zcW r (Y9 x)=zcZ r (Y9 x):=by
 have e:(Y9 x).kind=5:=h;unfold zcW;rw [e];rfl
theorem zpC {r:Rd}{x:Ev}(h:(UY r x).1≠0):(UY r x).2=zeroR:=by
 unfold UY at h ⊢;split
 ·
  rename_i h1;rw [if_pos h1] at h;split
  ·
   rename_i h2;rw [if_pos h2] at h;split
   ·
    rfl
   ·
    rename_i h3;rw [h3] at h;exact absurd rfl h
  ·
   rfl
 ·
  rfl
theorem zqY {r:Rd}{x:Ev}(h:(zaS r x).1≠0):(zaS r x).2=zeroR:=by
 unfold zaS at h ⊢;split
 ·
  rename_i h1;rw [if_pos h1] at h;exact absurd rfl h
 ·
  rfl
theorem zwm {r:Rd}{x:Ev}(h:(zcN r x).1≠0):(zcN r x).2=zeroR:=by
 unfold zcN at h ⊢;split
 ·
  rfl
 ·
  rename_i h1;rw [if_neg h1] at h;split
  ·
   rename_i h2;rw [if_pos h2] at h;exact absurd rfl h
  ·
   rename_i h2;rw [if_neg h2] at h;split
   ·
    rfl
   ·
    rename_i h3;rw [h3] at h;exact absurd rfl h
theorem zqM {r:Rd}{x:Ev}(h:(zcT r x).1≠0):(zcT r x).2=zeroR:=by
 unfold zcT at h ⊢;split
 ·
  rfl
 ·
  rename_i h1;rw [if_neg h1] at h;exact absurd rfl h
theorem zqC {r:Rd}{x:Ev}(h:(zcZ r x).1≠0):(zcZ r x).2=zeroR:=by
 unfold zcZ at h ⊢;split
 ·
  rfl
 ·
  rename_i h1;rw [if_neg h1] at h;exact absurd rfl h
theorem ztC {r:Rd}{x:Ev}(h:(zcW r x).1≠0):zcW r x=((zcW r x).1,zeroR):=by
 have key:(zcW r x).2=zeroR:=by
  unfold zcW at h ⊢;split
  ·
   rename_i h1;rw [if_pos h1] at h;exact zpC h
  ·
   rename_i h1;rw [if_neg h1] at h;split
   ·
    rename_i h1;rw [if_pos h1] at h;exact zqY h
   ·
    rename_i h1;rw [if_neg h1] at h;split
    ·
     rename_i h1;rw [if_pos h1] at h;exact zwm h
    ·
     rename_i h1;rw [if_neg h1] at h;split
     ·
      rename_i h1;rw [if_pos h1] at h;exact zqM h
     ·
      rename_i h1;rw [if_neg h1] at h;split
      ·
       rename_i h1;rw [if_pos h1] at h;exact zqC h
      ·
       rfl
 exact Prod.ext rfl key
theorem zun {v:Value}{n:Nat}{ps:List Pe}{L:Go.Kn.Loc}{e:Nat}(h:ZP e 1 v n (ps.flatMap Xy) L)(hn:ps.length=n)(h0:1≤n):∃ (b c:Nat) (cur:List Value),v= .slice (some ⟨b,0,none⟩) n c∧L=[(b,.cells cur.toArray e (0,0))]∧n≤c∧∀ (i:Nat) (pe:Pe),ps[i]? =some pe→cur[i]? =some (.slice pe.a pe.n pe.c):=by
 rcases h.2 with ⟨_,h1,_⟩ | ⟨b,c,cur,rfl,rfl,h1,_,h3,h4⟩
 ·
  omega
 ·
  refine ⟨b,c,cur.toList,rfl,by simp,h1,fun i pe hi=>?_⟩;have hlt:=(List.getElem?_eq_some_iff.1 hi).1;have h5:=zbM zf1 ps i pe hi 0 _ rfl;rw [Nat.mul_one,Nat.add_zero,←h4,List.getElem?_take,if_pos kB] at h5;exact h5
theorem zhZ {I:Qv}:RmV I (.agg #[.slice none 0 0,.slice none 0 0,.slice none 0 0]) zeroR:=
 ⟨none,0,0,none,0,0,none,0,0,[],[],rfl,⟨.nil,fun _ h=>(by cases h),.nil,fun _ h=>(by cases h),.nil⟩,rfl⟩
def DoQ (R:Int×Rd)(v:Value)(I':Qv)(L':Go.Kn.Loc):Prop:=L'=[]∧∃ vr,v= .tuple #[vr,.int .i64 R.1]∧RmV I' vr R.2
theorem zox {I:Qv}{e:Int}:DoQ (e,zeroR) (.tuple #[.agg #[.slice none 0 0,.slice none 0 0,.slice none 0 0],.int .i64 e]) I []:=⟨rfl,_,rfl,zhZ⟩
theorem zim {R R':Int×Rd}{v:Value}{I:Qv}{L:Go.Kn.Loc}(h:DoQ R v I L)(e:R'=R):DoQ R' v I L:=e ▸ h
theorem zxW {r:Rd}{x:Ev}(h:zfA r≠0):doF r x=(zfA r,zeroR):=if_pos h
theorem zbC {r:Rd}{x:Ev}(h:zfA r=0):doF r x=zcW r x:=if_neg (by rw [h];simp)
theorem zvl {I:Qv}{R:Int×Rd}{pa qa aa:Option Addr}{pn pc qn qc an ac:Nat}{ps:List Pe}{qs:List Pk}{ks:List (Int×Int)}(h0:R.1=0)(hR:RmP I pa pn pc qa qn qc aa an ac ps qs ks)(e:Jd ps qs ks=R.2):DoQ R (.tuple #[.agg #[.slice pa pn pc,.slice qa qn qc,.slice aa an ac],.int .i64 0]) I []:=by
 have hk:R.2.ks=ks:=(by rw [←e];rfl);exact ⟨rfl,_,by rw [h0],pa,pn,pc,qa,qn,qc,aa,an,ac,ps,qs,rfl,by rw [hk];exact hR,by rw [hk];exact e⟩
end Go.Proofs.YtjblkbkmblkgoaaGreat
end
namespace Go.Proofs.YtjblkbkmblkgoaaGreat
section
open Go Go.Kn Go.Proofs
theorem zma (I:Qv)(bv be:Nat)(v1 v2 v3:Option Addr)(n1 n2 n3 c1 c2 c3:Nat)(e0:Int):zo0 Tryz.prog 51 [ZE bv,ZE be] I [(be,.cells #[.int .i64 e0] 50 (0,0)),(bv,.cells #[.slice v1 n1 c1,.slice v2 n2 c2,.slice v3 n3 c3] 28 (0,0))] .returning (fun u' I' L'=>settle u'= .returning∧I'=I∧L'=[(be,.cells #[.int .i64 e0] 50 (0,0)),(bv,.cells #[.slice v1 n1 c1,.slice v2 n2 c2,.slice v3 n3 c3] 28 (0,0))]):=by
 refine XB Tryz.func51 rfl Tryz.ntmps51 rfl rfl (⟨(fun o ho=>by cases ho),fun o ho=>by cases ho⟩) (fun g H=>?_);have hIc:=zCA I;refine zN (Qr (zR<|zV (zq5 rfl zib)<|zN ?_));refine zI ?_ ?_<;>intro hc7
 ·
  exact Qh (zA (Qb (Qi<|YP (Ys rfl (fun w hw=>⟨_,I,_,rfl,zCA _,hw,rfl,rfl,rfl⟩)))))
 cases hc7
theorem zkA (I:Qv)(bv be:Nat)(e9:Int):zo0 Tryz.prog 51 [ZE bv,ZE be] I [(be,.cells #[.int .i64 0] 50 (0,0)),(bv,.cells #[.slice none 0 0,.slice none 0 0,.slice none 0 0] 28 (0,0))] (.panicking (pan (.iface 50 (.int .i64 e9)))) (fun u' I' L'=>settle u'= .returning∧I'=I∧L'=[(be,.cells #[.int .i64 e9] 50 (0,0)),(bv,.cells #[.slice none 0 0,.slice none 0 0,.slice none 0 0] 28 (0,0))]):=by
 refine XB Tryz.func51 rfl Tryz.ntmps51 rfl rfl (⟨(fun o ho=>by cases ho),fun o ho=>by cases ho⟩) (fun g H=>?_);have hIc:=zCA I;refine zN (Qr (zR<|zV (zuv rfl zib)<|zN ?_));refine zI ?_ ?_<;>intro hc7
 ·
  cases hc7
 refine zR<|zV (zg1 rfl znE)<|zE ?_
 refine zE (zN ?_);refine zI ?_ ?_<;>intro hc9
 ·
  refine zR (zA (zN (Qh<|zV (QF (ps:=[]) [_,_,_] zhV rfl rfl)<|zM ?_)));refine zh KM ?_;exact zS zbz<|Qb (Qi<|YP (Ys rfl (fun w hw=>⟨_,I,_,rfl,zCA _,hw,rfl,rfl,rfl⟩)))
 cases hc9
theorem zzv:AgT Tryz.prog 47 49:=.of kA
theorem zjk:QL Tryz.prog 47 0 0:=.of kA
theorem zok:Fun Tryz.prog 16:=.of Tryz.func16 kA kA
theorem zzc:Fun Tryz.prog 46:=.of Tryz.func46 kA kA
theorem zxE:Fun Tryz.prog 47:=.of Tryz.func47 kA kA
theorem zxe:Fun Tryz.prog 48:=.of Tryz.func48 kA kA
theorem zw3:Fun Tryz.prog 49:=.of Tryz.func49 kA kA
theorem zyu:Fun Tryz.prog 50:=.of Tryz.func50 kA kA
theorem zr8:Fun Tryz.prog 51:=.of Tryz.func51 kA kA
theorem zzO:Fun Tryz.prog 52:=.of Tryz.func52 kA kA
theorem Kk:MpT Tryz.prog 106 3 102 .nilFunc:=⟨kA,.of kA⟩
theorem zuR:PlT Tryz.prog 108 #[(0,3)] (.agg #[(.slice none 0 0),(.slice none 0 0),(.slice none 0 0)]):=⟨.of kA,kA,fun w=>kA⟩
theorem zwb:SzT Tryz.prog 108 3:=.of kA
theorem zxy:SzT Tryz.prog 22 1:=.of kA
theorem zzI:Vp Tryz.prog 108 (.agg #[(.slice none 0 0),(.slice none 0 0),(.slice none 0 0)]):=.of kA
variable{I:Qv}{qa aa:Option Addr}{pn pc qn qc an ac f:Nat}{cur:List Value}{ps:List Pe}{qs:List Pk}{ks:List (Int×Int)}
theorem zAK {bc bp:Nat}(hX:zo1 I pn pc qa qn qc aa an ac cur ps qs ks)(x:Ev)(hE:EvM I x)(h:ZD (zgW 46 47 48 49 50) x.kind=some f):Fun Tryz.prog f∧Uu Tryz.prog f [ZE bc,.agg (zfz x).toArray] I [(bc,.cells #[.slice (some ⟨bp,0,none⟩) pn pc,.slice qa qn qc,.slice aa an ac] 108 (0,0)),(bp,.cells (cur).toArray 59 (0,0))] (zuu bc bp pn pc aa an ac ks (zcW (Jd ps qs ks) (Y9 x))) (ztB (zcW (Jd ps qs ks) (Y9 x))):=by
 rcases zs9 h with ⟨hk,rfl⟩ | ⟨hk,rfl⟩ | ⟨hk,rfl⟩ | ⟨hk,rfl⟩ | ⟨hk,rfl⟩
 ·
  rw [zvv hk];exact ⟨zzc,zwa hX x hE⟩
 ·
  rw [zAG hk];exact ⟨zxE,zuB hX x hE⟩
 ·
  rw [zuh hk];exact ⟨zxe,zjQ hX x⟩
 ·
  rw [zA8 hk];exact ⟨zw3,zul hX x⟩
 rw [zA0 hk];exact ⟨zyu,zlK hX x⟩
set_option maxHeartbeats 400000 in
theorem zB3  {pa:Option Addr}     (hR:RmP I pa pn pc qa qn qc aa an ac ps qs ks) (hpn:pn≤100000) (hqn:qn≤100000) (han:an≤100000) (hnn:∀ x∈ps,x.n≤100000) (hdl:∀ q∈qs,q.n≤100000) (hsm:zfA (Jd ps qs ks)=0→qn+24≤4096∧∀ pe∈ps,qn+pe.n≤4096) (x:Ev) (hE:EvM I x):Y7 Tryz.prog 12 [.agg #[.slice pa pn pc,.slice qa qn qc,.slice aa an ac],.agg (zfz x).toArray] I [] (DoQ (doF (Jd ps qs ks) (Y9 x))):=by
 intro g H w hw;refine zsk Tryz.func12 rfl Tryz.ntmps12 rfl hw ?_;have hIc:=zCA I;have hlp:=hR.pe.len;have hlq:=hR.q.len;refine zR<|QQ rfl rfl rfl (fun b_2=>QQ rfl rfl rfl (fun b_3=>Qt zc0 rfl rfl (fun b_4=>Qt zwH rfl rfl (fun b_5=>Qb<|QH (.there (.there .here)) (fun I1 hI1 hb1=>?_)))))
 have hR:=hR.mono hI1;have hE:=hE.mono hI1;have hIc:=hIc.trans hI1;have h3:=BxI.of hb1;refine QH (.there (.there .here)) (fun I2 hI2 hb2=>?_);have hR:=hR.mono hI2;have hE:=hE.mono hI2;have h3:=h3.mono hI2;have hIc:=hIc.trans hI2;have h2:=BxI.of hb2;refine Qc (Qm (zR<|zV (Qg rfl JA (fun hg=>by exact BxI.cells (vs:=[_,_,_]) h2) rfl)<|zpc [_] rfl zok .nil (zmP hR hpn hqn han hnn hdl) ?_));rintro vv3 I3 L3 hI3 ⟨rfl,rfl⟩;have hR:=hR.mono hI3;have hE:=hE.mono hI3;have h3:=h3.mono hI3;have h2:=h2.mono hI3;have hIc:=hIc.trans hI3;refine zA<|zN (zR ?_)
 refine zM<|zC (zN ?_)
 refine zI ?_ ?_<;>intro hc13
 ·
  have hck:zfA (Jd ps qs ks)≠0:=(by simpa using hc13);refine zR<|zV (Qg rfl JA (fun hg=>by exact Cells.g1) rfl)<|zM ?_
  refine zh KM ?_;refine zS zbz<|zN (Qs (Qf ?_))
  exact zir (fun a w ha hw=>⟨_,zht rfl rfl rfl JA zcG kI rfl kO a ha w hw,_,I3,[],rfl,hIc,hw.subL Qx,zim zox (zxW hck)⟩)
 have hck:zfA (Jd ps qs ks)=0:=(by simpa using hc13);have hck2:=ztF (by rw [←zf5 hR];exact hck);refine Qp (Qc (Qm ?_));rcases hfd:ZD (zgW 46 47 48 49 50) x.kind with _ | fid
 ·
  refine Qh<|Yf rfl rfl (fun r_17=>?_)
  refine (show XO _ _ _ _ _ _ _ ((r_17,Yw (.int .i64) evK ([]:List (Int×Nat)))::_) from ?_);refine zpi (ek:=Value.int .i64) (ev:=evK) 46 Kk Zc ?_;refine zpi (ek:=Value.int .i64) (ev:=evK) 47 Kk Zc ?_;refine zpi (ek:=Value.int .i64) (ev:=evK) 48 Kk Zc ?_;refine zpi (ek:=Value.int .i64) (ev:=evK) 49 Kk Zc ?_;refine zpi (ek:=Value.int .i64) (ev:=evK) 50 Kk Zc<|zM<|zF zjk ?_
  refine zV (Qd rfl Qn (fun hg=>by exact Qz.imm h3.out rfl))<|zV (Z1 (ek:=Value.int .i64) (ev:=evK) (m:=(zgW 46 47 48 49 50)) Kk Zc rfl rfl (fun _=>kS)) ?_
  rw [hfd];refine zM ?_;refine zE ?_;refine zE<|zA<|zA (zN (Qm (zR<|zM<|zO (zN ?_))))
  refine zI ?_ ?_<;>intro hc25
  ·
   refine zR ?_;refine zV (Qg rfl JA (fun hg=>by exact Cells.g2) rfl) ?_;refine zh KM ?_;refine zS zbz<|zN (Qs (Qf ?_))
   exact zir (fun a w ha hw=>⟨_,zht rfl rfl rfl JA zcG kI rfl kO a ha w hw,_,I3,[],rfl,hIc,hw.subL Qx,zim zox (by rw [zbC hck,zrp hfd])⟩)
  cases hc25
 refine Qh<|Yf rfl rfl (fun r_17=>?_)
 refine (show XO _ _ _ _ _ _ _ ((r_17,Yw (.int .i64) evK ([]:List (Int×Nat)))::_) from ?_);refine zpi (ek:=Value.int .i64) (ev:=evK) 46 Kk Zc ?_;refine zpi (ek:=Value.int .i64) (ev:=evK) 47 Kk Zc ?_;refine zpi (ek:=Value.int .i64) (ev:=evK) 48 Kk Zc ?_;refine zpi (ek:=Value.int .i64) (ev:=evK) 49 Kk Zc ?_;refine zpi (ek:=Value.int .i64) (ev:=evK) 50 Kk Zc<|zM<|zF zjk ?_
 refine zV (Qd rfl Qn (fun hg=>by exact Qz.imm h3.out rfl))<|zV (Z1 (ek:=Value.int .i64) (ev:=evK) (m:=(zgW 46 47 48 49 50)) Kk Zc rfl rfl (fun _=>kS)) ?_
 rw [hfd];refine zM ?_;refine zE ?_;refine zE<|zA<|zA (zN (Qm (zR<|zM<|zO (zN ?_))))
 refine zI ?_ ?_<;>intro hc25
 ·
  cases hc25
 refine Qp (Qc (zR<|zV (YJ (us:=[]) (vs:=[_,_]) rfl rfl)<|zh1 (cap:=[ZE b_4,ZE b_5]) (vs:=[]) rfl rfl<|zN (zR<|zV (Qg rfl JA (fun hg=>by exact BxI.cells (vs:=[_,_,_]) h2) rfl)<|zV (QF (ps:=[(0,_)]) [_,_,_] zuR rfl rfl)<|Qt zzI rfl rfl (fun b_9=>zh zwb<|zN (zR ?_)))));refine zF YK ?_;refine zV (Qd rfl J6 (fun hg=>by exact Qz.imm h2.out rfl))<|zpc [_] rfl zzO .nil (zlA hR.pe kB) ?_
 rintro vv4 I4 L4 hI4 ⟨rfl,hOc⟩;have hR:=hR.mono hI4;have hE:=hE.mono hI4;have h3:=h3.mono hI4;have hIc:=hIc.trans hI4;obtain ⟨bp,pc9,cur,rfl,rfl,hnc9,hat9⟩:=zun hOc hlp hck2.1.1;refine zF Yo<|zF YK ?_
 refine zS zxy<|zN (Qm ?_)
 have hX:zo1 I4 pn pc9 qa qn qc aa an ac cur ps qs ks:=⟨⟨hat9,hR.nt,hck2.2.2.1⟩,hlp,hnc9,hck2.1,hR.q,hR.pk,hR.k,hck2.2.1,hck2.2.2.2,han,hdl,hsm hck⟩;obtain ⟨hFn,hFc⟩:=zAK (bc:=b_9) (bp:=bp) hX x hE hfd;refine Qh (zM<|zV (Qg rfl zzv (fun hg=>by exact BxI.cells (vs:=zfz x) h3) rfl) ?_);refine zbo (cap:=[]) (vs:=[_,_]) rfl rfl hFn (L:=[(b_9,_),(bp,_)]) (by exact .cons (.there .here) (.cons .here .nil)) hFc rfl rfl ?_ (fun pv hpv=>by (repeat (first | with_reducible refine Uk ?_ | with_reducible refine KF ?_));obtain ⟨rfl,hne9⟩:=hpv;exact zgY (args:=[]) (cap:=[ZE b_4,ZE b_5]) zr8 (by exact .cons (.there .here) (.cons (.there .here) .nil)) (zkA I4 b_4 b_5 _) (fun a I' L' w' ha hI hk hs=>by obtain ⟨rfl,rfl⟩:=hk;exact ⟨_,zht rfl rfl rfl JA zcG kI rfl kO a ha w' hs,_,_,[],rfl,hIc,hs.subL Qx,zim zox (by rw [zbC hck];exact ztC hne9)⟩));rintro vv5 I5 L5 hI5 ⟨rfl,hA0,a9,m9,c9,ps9,qs9,rfl,hR9,he9⟩;have hIc:=hIc.trans hI5;refine zN (zR ?_);refine zF Yo ?_;refine zV (Qg rfl JA (fun hg=>by exact Cells.g0) rfl) ?_;refine zh KM ?_;refine zS zbz<|zN (Qs ?_)
 exact zkW (args:=[]) (cap:=[ZE b_4,ZE b_5]) zr8 (by exact .cons (.there (.there .here)) (.cons (.there (.there .here)) .nil)) (zma I5 b_4 b_5 _ _ _ _ _ _ _ _ _ _) (fun a I' L' w' ha hI hk hs=>by obtain ⟨rfl,rfl⟩:=hk;exact ⟨_,zht rfl rfl rfl JA zcG kI rfl kO a ha w' hs,_,_,[],rfl,hIc,hs.subL Qx,zim (zvl hA0 hR9 he9) (zbC hck)⟩)
end
end Go.Proofs.YtjblkbkmblkgoaaGreat
namespace Go.Kn
section
open Go
section
variable {α β:Type} {ek:α→Value} {ev:β→Value}
end
section
variable {C:Cx} {Q:Exit→Act→World→Prop} {E E':Env} {I I':Qv} {loc loc' L R:Loc} {ops:Array Oper} {rest:List Oper} {S:GS}
variable {dst:Option Tmp} {d:Nat} {ty:TypeId} {pos:String} {af:Array Edge} {gd:Option (Nat×Bool)} {x y z:Operand}
variable {α β:Type} [DecidableEq α] {ek:α→Value} {ev:β→Value} {m:List (α×β)} {a:α} {q q':Nat}
theorem znS {m:List (α×β)}{a:α}:∀ k,ZD m a=none→zgy m a k=none:=by
 intro k h;have:=zb0 m a k;rw [h] at this
 cases hi:zgy m a k with
 | none=>rfl
 | some p=>rw [hi] at this;cases this
end
end
end Go.Kn
section
namespace Go.Kn
open Go
section
variable {C:Cx} {S:GS} {E:Env} {I:Qv} {loc:Loc} {dst:Option Tmp} {ty:TypeId} {pos:String} {af:Array Edge} {gd:Option (Nat×Bool)} {x y:Operand} {α β:Type} [DecidableEq α] {ek:α→Value} {ev:β→Value} {m:List (α×β)} {a:α}
theorem Wr {t k e r:Nat}(d:β)(hT:MpT C.P t k e (ev d))(hK:KL C.P k ek)(hx:QG S E x=some (.map (some r)))(hy:QG S E y=some (ek a))(hm:Z6 S=true→Mem I loc r (Yw ek ev m)):
  QW C S E I loc ⟨dst,.lookup t x y false,ty,pos,af,gd⟩ (ev ((ZD m a).getD d)):=by
 have h:=Xq (C:=C) (S:=S) (dst:=dst) (ty:=ty) (pos:=pos) (af:=af) (gd:=gd) hT hK hx hy hm;have e:((ZD m a).map ev).getD (ev d)=ev ((ZD m a).getD d):=(by cases ZD m a<;>rfl);rwa [e] at h
end
end Go.Kn
namespace Go.Proofs.YtjblkbkmblkgoaaGreat
open Go Go.Kn Go.Proofs
section
variable {α:Type} (num:Nt→Int) (prt:Nt→α) (kind:Int) (chk:List α→Int) (d:α)
def Xe (m:List (Int×α))(x:Nt):List (Int×α):=if (x.kind==kind&& !(ZD m (num x)).isSome)=true then m++[(num x,prt x)] else m
def Z9 (xs:List Nt):List (Int×α):=xs.foldl (Xe num prt kind) []
def zeV (m:List (Int×α))(l:List α)(k:Int):List α:=if (chk (l++[(ZD m k).getD d])==0)=true then l++[(ZD m k).getD d] else l
def zgw (m:List (Int×α))(ns:List Int):List α:=ns.foldl (zeV chk d m) []
def zcY (xs:List Nt):List α:=zgw chk d (Z9 num prt kind xs) (UO ((Z9 num prt kind xs).map (·.1)))
variable {num prt kind chk d}
theorem Zj {xs:List Nt}{k:Nat}{x:Nt}(hx:xs[k]? =some x):Z9 num prt kind (xs.take (k+1))=Xe num prt kind (Z9 num prt kind (xs.take k)) x:=by
 unfold Z9;rw [Za hx,List.foldl_append];rfl
theorem za3 {m:List (Int×α)}{x:Nt}(hg:ZD m (num x)=none)(hk:(x.kind==kind)=true):Xe num prt kind m x=JI m (num x) (prt x):=by
 unfold Xe;rw [hg,hk,if_pos kU,zeb _ _ _ 0 (znS 0 hg)]
theorem JX {m:List (Int×α)}{x:Nt}(hg:ZD m (num x)=none)(hk:(x.kind==kind)=true):(Xe num prt kind m x).map (·.1)=m.map (·.1)++[num x]:=by
 unfold Xe;rw [hg,hk,if_pos kU,List.map_append];rfl
theorem zeI {m:List (Int×α)}{x:Nt}(hk:(x.kind==kind)=false):Xe num prt kind m x=m:=by
 unfold Xe;rw [hk];rfl
theorem zbq {m:List (Int×α)}{x:Nt}{y:α}(hg:ZD m (num x)=some y):Xe num prt kind m x=m:=by
 unfold Xe;rw [hg,if_neg kJ]
theorem J0 {m:List (Int×α)}{ns:List Int}{j:Nat}{n:Int}(hn:ns[j]? =some n):zgw chk d m (ns.take (j+1))=zeV chk d m (zgw chk d m (ns.take j)) n:=by
 unfold zgw;rw [Za hn,List.foldl_append];rfl
theorem zpK {xs:List Nt}:∀ p∈Z9 num prt kind xs,∃ x∈xs,p=(num x,prt x):=by
 have key:∀ (ys:List Nt) (m:List (Int×α)),(∀ y∈ys,y∈xs)→(∀ p∈m,∃ x∈xs,p=(num x,prt x))→∀ p∈ys.foldl (Xe num prt kind) m,∃ x∈xs,p=(num x,prt x):=by
  intro ys
  induction ys with
  | nil=>intro m _ h;exact h
  | cons y ys ih=>
   intro m hy h;rw [List.foldl_cons];refine ih _ (fun z hz=>hy z (List.mem_cons_of_mem _ hz)) fun p hp=>?_;unfold Xe at hp;split at hp
   ·
    rcases List.mem_append.1 hp with hp | hp
    ·
     exact h p hp
    ·
     rw [List.mem_singleton] at hp;exact ⟨y,hy y (List.mem_cons_self ..),hp⟩
   ·
    exact h p hp
 exact key xs [] (fun _ h=>h) (fun _ h=>by cases h)
theorem zv7 {m:List (Int×α)}{k:Int}{v:α}(h:ZD m k=some v):(k,v)∈m:=by
 induction m with
 | nil=>cases h
 | cons p m ih=>
  unfold ZD at h;split at h
  ·
   rename_i e;cases h;subst e;exact List.mem_cons_self ..
  ·
   exact List.mem_cons_of_mem _ (ih h)
theorem zno {xs:List Nt}{k:Int}:(ZD (Z9 num prt kind xs) k).getD d=d∨∃ x∈xs,(ZD (Z9 num prt kind xs) k).getD d=prt x:=by
 cases h:ZD (Z9 num prt kind xs) k with
 | none=>exact .inl rfl
 | some v=>
  obtain ⟨x,hx,e⟩:=zpK _ (zv7 h);exact .inr ⟨x,hx,congrArg Prod.snd e⟩
theorem zdT {xs:List Nt}{ns:List Int}:∀ p∈zgw chk d (Z9 num prt kind xs) ns,p=d∨∃ x∈xs,p=prt x:=by
 have key:∀ (ms:List Int) (l:List α),(∀ p∈l,p=d∨∃ x∈xs,p=prt x)→∀ p∈ms.foldl (zeV chk d (Z9 num prt kind xs)) l,p=d∨∃ x∈xs,p=prt x:=by
  intro ms
  induction ms with
  | nil=>intro l h;exact h
  | cons k ms ih=>
   intro l h;rw [List.foldl_cons];refine ih _ fun p hp=>?_;unfold zeV at hp;split at hp
   ·
    rcases List.mem_append.1 hp with hp | hp
    ·
     exact h p hp
    ·
     rw [List.mem_singleton] at hp;subst hp;exact zno
   ·
    exact h p hp
 exact key ns [] (fun _ h=>by cases h)
theorem V3 {xs:List Nt}:(Z9 num prt kind xs).length≤xs.length:=by
 have key:∀ (ys:List Nt) (m:List (Int×α)),(ys.foldl (Xe num prt kind) m).length≤m.length+ys.length:=by
  intro ys
  induction ys with
  | nil=>intro m;simp
  | cons y ys ih=>
   intro m;rw [List.foldl_cons];refine Nat.le_trans (ih _) ?_;unfold Xe;split
   ·
    simp;omega
   ·
    simp
 have h:=key xs [];rw [List.length_nil,Nat.zero_add] at h;exact h
theorem zol (xs:List Int):(UO xs).length=xs.length:=by simp [UO]
end
end Go.Proofs.YtjblkbkmblkgoaaGreat
end
namespace Go.Proofs.YtjblkbkmblkgoaaGreat
section
open Go Go.Kn Go.Proofs
theorem Jj:SlT Tryz.prog 63 41 5:=.of kA
theorem zaz:SzT Tryz.prog 41 5:=.of kA
theorem Uo:SzT Tryz.prog 43 11:=.of kA
theorem zhz:Vp Tryz.prog 41 (.agg #[(.int .i64 0),(.int .i64 0),(.int .i64 0),(.int .i64 0),(.int .i64 0)]):=.of kA
theorem za2:Vp Tryz.prog 43 (.agg #[(.int .i64 0),(.int .i64 0),(.int .i64 0),(.int .i64 0),(.int .i64 0),(.int .i64 0),(.string ⟨#[]⟩),(.string ⟨#[]⟩),(.int .i64 0),(.int .i64 0),(.int .i64 0)]):=.of kA
theorem zuj (I:Qv)(x:Nt):ZF Tryz.prog 67 [Kj x] I (.tuple #[Jz (x.lm),.int .i64 x.lm.no]):=by
 intro g H w hw;refine qe Tryz.func67 Tryz.ntmps67 hw ?_;have hIc:=zCA I;refine zR<|QQ rfl rfl rfl (fun b_1=>Qt zeY rfl rfl (fun b_2=>zA (Qb<|QH (.there .here) (fun I1 hI1 hb1=>?_))))
 have hIc:=hIc.trans hI1;have h1:=BxI.of hb1;refine Qc (Qm ?_);have hD:=zCA I1;refine Zm<|QI I1 [] mixed<|zT 0 rfl (Qa rfl YX) hD<|zT 1 rfl (Qg rfl Jr (fun hg=>by exact zdW (BxI.cells (vs:=Q7 x) h1)) rfl) hD<|zT 2 rfl (Qa rfl YX) hD<|zT 3 rfl (Qa rfl Yy) hD<|zT 4 rfl (Qd rfl Qn (fun hg=>by exact Qz.imm h1.out rfl)) hD<|qd 5 rfl ?_
 refine zh Xo ?_;exact Qb<|zD hD<|zT 6 rfl (Qy rfl) hD<|Qo kA<|Qw<|Qc (Qs<|Zz rfl rfl rfl Jr zCy rfl (fun w hw=>⟨by rfl,(hw.mono hIc).subL Qx⟩))
theorem zog (I:Qv)(av:Option Addr)(n c:Nat)(hc:n≤c):ZF Tryz.prog 136 [.slice av n c] I (.slice av n n):=by
 intro g H w hw;refine qe Tryz.func136 Tryz.ntmps136 hw ?_;refine zR (zA<|zN (zR ?_));refine zM ?_;refine zM ?_;refine zQ ZO ?_;refine zM ?_;refine zQ ZO ?_;refine zV (Zu rfl rfl rfl ZO (fun hg=>kB)) ?_;refine zA (zN (Qs ?_));exact QA rfl rfl (fun w hw=>⟨by rfl,hw⟩)
theorem ztR (I:Qv)(x:Nt):ZF Tryz.prog 69 [Kj x] I (.tuple #[L.encA (x.ls),.int .i64 x.ls.no]):=by
 intro g H w hw;refine qe Tryz.func69 Tryz.ntmps69 hw ?_;have hIc:=zCA I;refine zR<|QQ rfl rfl rfl (fun b_1=>Qt zhz rfl rfl (fun b_2=>zA (Qb<|QH (.there .here) (fun I1 hI1 hb1=>?_))))
 have hIc:=hIc.trans hI1;have h1:=BxI.of hb1;refine Qc (Qm ?_);have hD:=zCA I1;refine Zm<|QI I1 [] mixed<|zT 0 rfl (Qa rfl Vy) hD<|zT 1 rfl (Qg rfl Jp (fun hg=>by exact zdJ (BxI.cells (vs:=Q7 x) h1)) rfl) hD<|zT 2 rfl (Qa rfl Vy) hD<|zT 3 rfl (Qa rfl JQ) hD<|zT 4 rfl (Qd rfl Qn (fun hg=>by exact Qz.imm h1.out rfl)) hD<|qd 5 rfl ?_
 refine zh zaz ?_;exact Qb<|zD hD<|zT 6 rfl (Qy rfl) hD<|Qo kA<|Qw<|Qc (Qs<|Zz rfl rfl rfl Jp zCy rfl (fun w hw=>⟨by rfl,(hw.mono hIc).subL Qx⟩))
theorem zmR (I:Qv)(av:Option Addr)(n c:Nat)(hc:n≤c):ZF Tryz.prog 137 [.slice av n c] I (.slice av n n):=by
 intro g H w hw;refine qe Tryz.func137 Tryz.ntmps137 hw ?_;refine zR (zA<|zN (zR ?_));refine zM ?_;refine zM ?_;refine zQ Jj ?_;refine zM ?_;refine zQ Jj ?_;refine zV (Zu rfl rfl rfl Jj (fun hg=>kB)) ?_;refine zA (zN (Qs ?_));exact QA rfl rfl (fun w hw=>⟨by rfl,hw⟩)
theorem ztg (I:Qv)(x:Nt):ZF Tryz.prog 71 [Kj x] I (.tuple #[Ko (x.pt),.int .i64 x.pt.id]):=by
 intro g H w hw;refine qe Tryz.func71 Tryz.ntmps71 hw ?_;have hIc:=zCA I;refine zR<|QQ rfl rfl rfl (fun b_1=>Qt zco rfl rfl (fun b_2=>zA (Qb<|QH (.there .here) (fun I1 hI1 hb1=>?_))))
 have hIc:=hIc.trans hI1;have h1:=BxI.of hb1;refine Qc (Qm ?_);have hD:=zCA I1;refine Zm<|QI I1 [] mixed<|zT 0 rfl (Qa rfl Yi) hD<|zT 1 rfl (Qg rfl Y6 (fun hg=>by exact za1 (BxI.cells (vs:=Q7 x) h1)) rfl) hD<|zT 2 rfl (Qa rfl Yi) hD<|zT 3 rfl (Qa rfl ZR) hD<|zT 4 rfl (Qd rfl Qn (fun hg=>by exact Qz.imm h1.out rfl)) hD<|qd 5 rfl ?_
 refine zh UP ?_;exact Qb<|zD hD<|zT 6 rfl (Qy rfl) hD<|Qo kA<|Qw<|Qc (Qs<|Zz rfl rfl rfl Y6 zCy rfl (fun w hw=>⟨by rfl,(hw.mono hIc).subL Qx⟩))
theorem zlO (I:Qv)(av:Option Addr)(n c:Nat)(hc:n≤c):ZF Tryz.prog 138 [.slice av n c] I (.slice av n n):=by
 intro g H w hw;refine qe Tryz.func138 Tryz.ntmps138 hw ?_;refine zR (zA<|zN (zR ?_));refine zM ?_;refine zM ?_;refine zQ Yk ?_;refine zM ?_;refine zQ Yk ?_;refine zV (Zu rfl rfl rfl Yk (fun hg=>kB)) ?_;refine zA (zN (Qs ?_));exact QA rfl rfl (fun w hw=>⟨by rfl,hw⟩)
theorem zvk (I:Qv)(x:Nt):ZF Tryz.prog 73 [Kj x] I (.tuple #[S.encA (x.rt),.int .i64 x.rt.no]):=by
 intro g H w hw;refine qe Tryz.func73 Tryz.ntmps73 hw ?_;have hIc:=zCA I;refine zR<|QQ rfl rfl rfl (fun b_1=>Qt za2 rfl rfl (fun b_2=>zA (Qb<|QH (.there .here) (fun I1 hI1 hb1=>?_))))
 have hIc:=hIc.trans hI1;have h1:=BxI.of hb1;refine Qc (Qm ?_);have hD:=zCA I1;refine Zm<|QI I1 [] mixed<|zT 0 rfl (Qa rfl Yj) hD<|zT 1 rfl (Qg rfl YE (fun hg=>by exact zez (BxI.cells (vs:=Q7 x) h1)) rfl) hD<|zT 2 rfl (Qa rfl Yj) hD<|zT 3 rfl (Qa rfl YT) hD<|zT 4 rfl (Qd rfl Qn (fun hg=>by exact Qz.imm h1.out rfl)) hD<|qd 5 rfl ?_
 refine zh Uo ?_;exact Qb<|zD hD<|zT 6 rfl (Qy rfl) hD<|Qo kA<|Qw<|Qc (Qs<|Zz rfl rfl rfl YE zCy rfl (fun w hw=>⟨by rfl,(hw.mono hIc).subL Qx⟩))
theorem zme (I:Qv)(av:Option Addr)(n c:Nat)(hc:n≤c):ZF Tryz.prog 139 [.slice av n c] I (.slice av n n):=by
 intro g H w hw;refine qe Tryz.func139 Tryz.ntmps139 hw ?_;refine zR (zA<|zN (zR ?_));refine zM ?_;refine zM ?_;refine zQ Z0 ?_;refine zM ?_;refine zQ Z0 ?_;refine zV (Zu rfl rfl rfl Z0 (fun hg=>kB)) ?_;refine zA (zN (Qs ?_));exact QA rfl rfl (fun w hw=>⟨by rfl,hw⟩)
def zyw (ps:List Pt):List Int:=ps.map (·.id)
def lsQ (ps:List Pt)(i:Nat):Bool:= !((decide ((i:Int)>0)&&decide ((ps.getD i Jq).id≤(ps.getD ((i:Int)-1).toNat Jq).id))||(ps.getD i Jq).needs.any (fun n=> !zg0 (ps.take i) n))
variable{ps:List Pt}{k:Nat}{p:Pt}{l:Int}{s:List (Int×Bool)}
theorem zsr (hp:ps[k]? =some p)(h1:1≤p.id)(hl:zjI (zyw ps) k l)(hs:∀ x,zqw s x=zg0 (ps.take k) x):lsQ ps k= !(decide (p.id≤l)||p.needs.any fun x=> !zqw s x):=by
 unfold lsQ;rw [Vu hp];simp only [hs];congr 2
 cases k with
 | zero=>
  rw [hl.1 rfl,Bool.eq_iff_iff];simp;omega
 | succ k=>
  have hk:=(List.getElem?_eq_some_iff.1 hp).1;have hy:ps[k]? =some (ps[k]' kB):=List.getElem?_eq_getElem _;have e:=hl.2 (ps[k]' kB).id (by rw [Nat.add_sub_cancel];simp [zyw,hy]) kB;rw [show (((k+1:Nat):Int)-1).toNat=k by omega,Vu hy,←e,Bool.eq_iff_iff];simp
theorem zjx (hp:ps[k]? =some p):zjI (zyw ps) (k+1) p.id:=zdd (by simp [zyw,hp])
theorem zrh (hp:ps[k]? =some p)(x:Int):zg0 (ps.take (k+1)) x=(decide (p.id=x)||zg0 (ps.take k) x):=by
 unfold zg0;rw [Wi hp,List.any_append,Bool.eq_iff_iff];simp [or_comm]
theorem zqt {n:Int}(h:zg0 (ps.take k) n=true):zg0 ps n=true:=by
 obtain ⟨q,hq,e⟩:=zbc.1 h;exact zbc.2 ⟨q,List.mem_of_mem_take hq,e⟩
theorem zlU (h0:orF (ps.map KJ)=0):(List.range ps.length).all (lsQ ps)=lsB ps:=by
 rw [Bool.eq_iff_iff];constructor
 ·
  intro h;unfold lsB;rw [List.all_eq_true] at h ⊢;intro i hi;have:=h i hi;unfold lsQ at this;unfold lsP;simp only [Bool.not_eq_true',Bool.or_eq_false_iff] at this ⊢;refine ⟨this.1,?_⟩;have h2:=this.2;rw [List.any_eq_false] at h2 ⊢;intro n hn hc;refine h2 n hn ?_;rw [Bool.not_eq_true'] at hc ⊢
  cases hh:zg0 (ps.take i) n with
  | false=>rfl
  | true=>rw [zqt hh] at hc;cases hc
 ·
  intro h;have hL:=zlJ h0 h;unfold lsB at h;rw [List.all_eq_true] at h ⊢;intro i hi;have:=h i hi;unfold lsP at this;unfold lsQ;simp only [Bool.not_eq_true',Bool.or_eq_false_iff] at this ⊢;refine ⟨this.1,?_⟩;rw [List.any_eq_false];intro n hn hc;have hk:ps[i]? =some (ps.getD i Jq):=KR rfl (List.mem_range.1 hi);obtain ⟨q,hq,e⟩:=hL.before hk hn;rw [zbc.2 ⟨q,hq,e⟩] at hc;cases hc
/-! ### Inserts and removes of a sign -/
def KE (k:Int)(ps:List Pt)(s:Int):List Int:=(ps.filter fun q=>q.kind==k&&q.sign==s).map (·.id)
theorem Ws {c:Int}(hp:ps[k]? =some p)(s:Int):KE c (ps.take (k+1)) s=KE c (ps.take k) s++(if p.kind=c∧p.sign=s then [p.id] else []):=by
 unfold KE;rw [Wi hp,List.filter_append,List.map_append];congr 1;by_cases h:p.kind=c∧p.sign=s
 ·
  rw [if_pos h];simp [h.1,h.2]
 ·
  rw [if_neg h]
  have:(p.kind==c&&p.sign==s)=false:=by
   rw [Bool.eq_false_iff];intro hc;simp at hc;exact h hc
  simp [this]
theorem XK {c:Int}{s x:Int}:x∈KE c ps s↔ ∃ q∈ps,q.kind=c∧q.sign=s∧q.id=x:=by
 unfold KE;rw [zwg];simp [and_assoc]
def zjS (mi:List (Int×Int))(ps:List Pt):Prop:=∀ s,KE 2 ps s=(ZD mi s).toList
theorem zjS.nil :zjS [] (ps.take 0):=fun s=>by simp [KE,ZD]
variable{mi:List (Int×Int)}
theorem zjS.put (h:zjS mi (ps.take k))(hp:ps[k]? =some p)(hk:p.kind=2)(hn:ZD mi p.sign=none):zjS (JI mi p.sign p.id) (ps.take (k+1)):=fun s=>by
 rw [Ws hp,h s,Jh];by_cases e:p.sign=s
 ·
  subst e;rw [if_pos ⟨hk,rfl⟩,if_pos rfl,hn];rfl
 ·
  rw [if_neg (fun q=>e q.2),if_neg e,List.append_nil]
theorem zjS.skip (h:zjS mi (ps.take k))(hp:ps[k]? =some p)(hk:p.kind≠2):zjS mi (ps.take (k+1)):=fun s=>by
 rw [Ws hp,h s,if_neg (fun q=>hk q.1),List.append_nil]
def zkp (mr:List (Int×(Value×Nat×List Value)))(ps:List Pt):Prop:=∀ s,((ZD mr s).getD zfy).2.2=(KE 3 ps s).flatMap ZX
theorem zkp.nil :zkp [] (ps.take 0):=fun s=>by simp [KE,ZD,zfy]
variable{mr:List (Int×(Value×Nat×List Value))}{n:Nat}{v:Value}
theorem zkp.put (h:zkp mr (ps.take k))(hp:ps[k]? =some p)(hk:p.kind=3):zkp (JI mr p.sign (v,n,((ZD mr p.sign).getD zfy).2.2++[p.id].flatMap ZX)) (ps.take (k+1)):=fun s=>by
 rw [Ws hp,Jh];by_cases e:p.sign=s
 ·
  subst e;rw [if_pos rfl,if_pos ⟨hk,rfl⟩,List.flatMap_append,←h];rfl
 ·
  rw [if_neg e,if_neg (fun q=>e q.2),List.append_nil,h s]
theorem zkp.skip (h:zkp mr (ps.take k))(hp:ps[k]? =some p)(hk:p.kind≠3):zkp mr (ps.take (k+1)):=fun s=>by
 rw [Ws hp,h s,if_neg (fun q=>hk q.1),List.append_nil]
theorem zeX {c:Int}{s:Int}:(KE c ps s).length≤ps.length:=by
 unfold KE;rw [List.length_map];exact List.length_filter_le _ _
variable{I:Qv}{e:Nat}
theorem zyd {L:Go.Kn.Loc}(h:zkp mr ps)(hA:WH e 1 (mr.map (·.2)) L)(hI:∀ b o,(b,o)∈L→I b=some o)(s:Int):
  ∃ av c,((ZD mr s).getD zfy).1= .slice av (KE 3 ps s).length c∧Sl I 1 ZX av (KE 3 ps s).length c (KE 3 ps s):=by
 obtain ⟨A,Lt,B,rfl,hO,_⟩:=hA.at s;rw [h s] at hO;obtain ⟨av,c,e1,e2⟩:=hO.sl YM kD (fun b o hb=>hI b o (by simp [hb]));have hn:=e2.len;rw [←hn] at e1 e2;exact ⟨av,c,e1,e2⟩
theorem zy8 {s:Int}{L:Go.Kn.Loc}(h:zkp mr ps)(hO:ZP e 1 ((ZD mr s).getD zfy).1 ((ZD mr s).getD zfy).2.1 ((ZD mr s).getD zfy).2.2 L):((ZD mr s).getD zfy).2.1≤ps.length:=by
 have h1:=hO.1;rw [h s,zCd] at h1;have h2:=zeX (c:=3) (ps:=ps) (s:=s);omega
theorem zns {x y:Nat×Obj}{A L B:Go.Kn.Loc}:(x::y::(A++(L++B))).Perm (L++(x::y::(A++B))):=List.perm_append_comm_assoc (x::y::A) L B
def tgP (ps:List Pt)(p:Pt):Bool:= !(((KE 2 ps p.sign).any fun i=>p.id != i&& !onF ps p.id i)||(KE 3 ps p.sign).any (onF ps p.id))
theorem zln (hL:Lst ps)(hi:zjS mi ps):zoZ ps=ps.all (tgP ps):=by
 unfold zoZ;rw [Bool.eq_iff_iff,List.all_eq_true,List.all_eq_true];refine forall_congr' fun p=>forall_congr' fun hp=>?_;unfold tgP;rw [List.all_eq_true];simp only [Bool.not_eq_true',Bool.or_eq_false_iff,List.any_eq_false,XK];constructor
 ·
  intro h;constructor
  ·
   rintro x ⟨q,hq,h2,hs,rfl⟩ hc;have:=h q hq;unfold zeU at this;rw [if_neg (by simpa using hs.symm),if_pos h2] at this;simp at this hc;rcases this with e | e
   ·
    exact hc.1 e
   ·
    rw [hc.2] at e;cases e.2
  ·
   rintro x ⟨q,hq,h3,hs,rfl⟩ hc;have:=h q hq;unfold zeU at this;rw [if_neg (by simpa using hs.symm),if_neg kB,if_pos h3] at this;simp at this;rcases this with e | e
   ·
    rw [e,hL.on_irr] at hc;cases hc
   ·
    rw [e] at hc;cases hc
 ·
  rintro ⟨h1,h2⟩ q hq;unfold zeU;by_cases hs:p.sign=q.sign
  ·
   rw [if_neg (by simpa using hs)];by_cases e:p.id=q.id
   ·
    simp [e]
   ·
    by_cases k2:q.kind=2
    ·
     rw [if_pos k2];have:=h1 q.id ⟨q,hq,k2,hs.symm,rfl⟩
     have hk:p.kind≠2:=fun k=>e (by
      have hm1:=XK.2 ⟨p,hp,k,rfl,rfl⟩;have hm2:=XK.2 ⟨q,hq,k2,hs.symm,rfl⟩;rw [hi p.sign] at hm1 hm2
      cases hg:ZD mi p.sign with
      | none=>rw [hg] at hm1;cases hm1
      | some z=>rw [hg] at hm1 hm2;simp at hm1 hm2;rw [hm1,hm2])
     simp [e] at this;simp [this,hk]
    ·
     rw [if_neg k2];by_cases k3:q.kind=3
     ·
      rw [if_pos k3];have:=h2 q.id ⟨q,hq,k3,hs.symm,rfl⟩;simp at this;simp [this]
     ·
      rw [if_neg k3];simp
  ·
   rw [if_pos hs];simp
variable{id:Int}
theorem zvs (hL:Lst ps)(h:zjS mi (ps.take k))(hp:ps[k]? =some p)(hk:p.kind=2)(hn:ZD mi p.sign=some id):zoZ ps=false:=by
 have hm:id∈KE 2 (ps.take k) p.sign:=(by rw [h,hn];simp);obtain ⟨q,hq,k2,hs,rfl⟩:=XK.1 hm;have hlt:=hL.fresh hp q hq;unfold zoZ;rw [Bool.eq_false_iff];intro hc;rw [List.all_eq_true] at hc;have h1:=hc p (List.mem_of_getElem? hp);rw [List.all_eq_true] at h1;have h2:=h1 q (List.mem_of_mem_take hq);unfold zeU at h2;rw [if_neg (by simpa using hs.symm),if_pos k2] at h2;simp [hk] at h2;omega
theorem zsR (hi:zjS mi ps):((ZD mi p.sign).isSome&&(p.id != (ZD mi p.sign).getD 0)&& !onF ps p.id ((ZD mi p.sign).getD 0))=((KE 2 ps p.sign).any fun i=>p.id != i&& !onF ps p.id i):=by
 rw [hi p.sign]
 cases ZD mi p.sign with
 | none=>rfl
 | some x=>simp
theorem zdb (h:ps.length>512):WD ps=2:=by unfold WD;rw [if_pos h]
theorem zrQ (h:¬ps.length>512)(hp:ps[k]? =some p)(h0:orF ((ps.take k).map KJ)=0)(h1:KJ p≠0):WD ps=KJ p:=by
 have:orF (ps.map KJ)=KJ p:=zq8 (k:=k) (by simp [hp]) (by rw [←List.map_take];exact h0) h1;unfold WD;rw [if_neg h,this,if_pos h1]
theorem zdt (h:¬ps.length>512)(h0:orF (ps.map KJ)=0)(h1:lsB ps=false):WD ps=380:=by unfold WD;rw [if_neg h,if_neg kB,h1];rfl
theorem zau (h:¬ps.length>512)(h0:orF (ps.map KJ)=0)(h1:lsB ps=true)(h2:zoZ ps=false):WD ps=380:=by unfold WD;rw [if_neg h,if_neg kB,h1,h2];rfl
theorem zdy (h:¬ps.length>512)(h0:orF (ps.map KJ)=0)(h1:lsB ps=true)(h2:zoZ ps=true):WD ps=0:=by unfold WD;rw [if_neg h,if_neg kB,h1,h2];rfl
theorem znu (hp:ps[k]? =some p)(h0:orF ((ps.take k).map KJ)=0)(h1:KJ p=0):orF ((ps.take (k+1)).map KJ)=0:=by
 rw [XG] at h0 ⊢;intro x hx;rw [Wi hp,List.map_append,List.mem_append] at hx;rcases hx with hx | hx
 ·
  exact h0 x hx
 ·
  simp at hx;rw [hx,h1]
theorem zrs (h:KJ p=0):1≤p.id∧p.id≤1048576∧0≤p.sign∧p.sign≤1048576∧p.needs.length≤32:=by
 unfold KJ at h;split at h
 ·
  cases h
 ·
  split at h
  ·
   rename_i h1 h2;simp only [Bool.and_eq_true] at h2;have h3:=h2.2.1;unfold idB at h3;simp at h3;omega
  ·
   cases h
variable{av:Option Addr}{c:Nat}
theorem zz7 (hP:SlP I av n c ps)(hz:∀ p∈ps,KJ p=0):∀ p∈ps,p.n≤100000:=fun p hp=>by
 have h1:Sl I 1 ZX p.a p.n p.c p.needs:=hP.2 p hp;have h2:=hz p hp;have h3:=h1.len;unfold KJ at h2;split at h2
 ·
  cases h2
 ·
  omega
theorem zyo (hP:SlP I av n c ps)(hn:n≤100000):ZF Tryz.prog 39 [.slice av n c] I (.int .i64 (WD ps)):=by
 intro g H w hw;refine qe Tryz.func39 Tryz.ntmps39 hw ?_;have hIc:=zCA I;refine zR (zA (zN (Qm (zR ?_))));refine zM ?_;refine zQ Yk<|zC (zN ?_)
 refine zI ?_ ?_<;>intro hc24
 ·
  have hlen:ps.length>512:=(by rw [hP.len];simp at hc24;omega);exact zR (zA (zN (Qs (Qf<|zp hIc rfl rfl (by rw [zdb hlen])))))
 have hlen:¬ps.length>512:=(by rw [hP.len];simp at hc24;omega);refine Qp (Qc (Qm (zR (zM<|zQ Yk ?_))));refine zM (zN (Qr ?_));refine zU [(0,_),(25,_),(26,_)] (fun T L0 mz E I' loc'=>∃ (k:Nat) (e:Int),mz=n-k∧E=(27,.int .i64 k)::T∧I=I'∧L0=loc'∧k≤n∧e=0∧orF ((ps.take k).map KJ)=0) ?_ (h:=⟨0,0,rfl,rfl,rfl,rfl,Nat.zero_le _,rfl,rfl⟩);rintro mz E I' loc' ⟨k,e,rfl,rfl,rfl,rfl,hk,he,h0⟩;refine zR (zC (zN (Qm ?_)));refine zI ?_ ?_<;>intro hc28
 ·
  have hlt_k:k<n:=(by have h:=hc28;simp at h;omega);have hP1:=hP.1;obtain ⟨p,hp,hN⟩:=hP.at hlt_k;have hpm:=List.mem_of_getElem? hp;have hN:Sl I 1 ZX p.a p.n p.c p.needs:=hN;refine Qp (Qc (Qm (Qr (zR<|zV (QC rfl rfl Yk kH (fun hg=>kB))<|zV (Qg rfl Y6 (fun hg=>by exact zCB hP1 hp) rfl)<|Qt zco rfl rfl (fun b_4=>zh UP<|zN (zR ?_))))));refine zV (Qg rfl Y6 (fun hg=>by exact Cells.g0) rfl)<|qcV (vs:=[_]) rfl zrI (zrT p hN)<|zA<|zN (zR ?_)
  refine zM<|zC (zN ?_)
  refine zI ?_ ?_<;>intro hc34
  ·
   have hbad:WD ps=KJ p:=zrQ hlen hp h0 (by simpa using hc34);exact zR (zM<|zA (zN (Qs (Qj (Qf (Qf (Qj (Qf<|zp hIc rfl rfl (by rw [hbad])))))))))
  have hpk:KJ p=0:=(by simpa using hc34);exact Qp (Qi (Qc (Qh (zB<|zM (Qb<|zm (h:=⟨n-(k+1),kB,k+1,_,rfl,rfl,rfl,rfl,kB,hpk,znu hp h0 hpk⟩))))))
 have hge_k:n≤k:=(by have h:=hc28;simp at h;omega);have h0:orF (ps.map KJ)=0:=(by rw [ZB hP.len hge_k] at h0;exact h0);have hz:∀ p∈ps,KJ p=0:=fun p hp=>XG.1 h0 _ (List.mem_map.2 ⟨p,hp,rfl⟩);have hnd:=zz7 hP hz;refine Q6 (Ql (Ql (Qq (Qc (zR<|Yf rfl rfl (fun r_37=>Qt zwQ rfl rfl (fun b_5=>zS zt2<|zA (zN (Qm (zR<|zM ?_))))))))));refine zQ Yk ?_;refine zM (zN (Qr ?_));refine zU [(0,_),(5,_),(38,_),(39,_)] (fun T L0 mz E I' loc'=>∃ (k:Nat) (l:Int) (s:List (Int×Bool)),mz=n-k∧E=(6,.int .i64 l)::(40,.int .i64 k)::T∧I=I'∧[(b_5,.cells #[.map (some r_37)] 143 (0,0)),(r_37,Yw (Value.int .i64) Value.bool s)]=loc'∧k≤n∧(List.range k).all (lsQ ps)=true∧zjI (zyw ps) k l∧∀ x,zqw s x=zg0 (ps.take k) x) ?_ (h:=⟨0,0,[],rfl,rfl,rfl,rfl,Nat.zero_le _,rfl,⟨fun _=>rfl,fun y hy h=>absurd rfl h⟩,fun x=>rfl⟩);rintro mz E I' loc' ⟨k,l,s,rfl,rfl,rfl,rfl,hk,hall,hl,hs⟩;refine zR (zC (zN (Qm ?_)));refine zI ?_ ?_<;>intro hc41
 ·
  have hlt_k:k<n:=(by have h:=hc41;simp at h;omega);have hP1:=hP.1;obtain ⟨p,hp,hN⟩:=hP.at hlt_k;have hpm:=List.mem_of_getElem? hp;have hN:Sl I 1 ZX p.a p.n p.c p.needs:=hN;have hpn:=hnd p hpm;have hp1:=(zrs (hz p hpm)).1;refine Qp (Qc (Qm (Qr (zR<|zV (QC rfl rfl Yk kH (fun hg=>kB))<|zV (Qg rfl Y6 (fun hg=>by exact zCB hP1 hp) rfl)<|Qt zco rfl rfl (fun b_8=>zh UP<|zN (Qm (zR<|zF ZR ?_)))))));refine zL Qn<|zM<|zC<|zM ?_
  refine QK 4 rfl rfl rfl ?_;refine zJ (Qa rfl ZL)<|zJ (Qd rfl YW (fun hg=>by exact Qz.h0 rfl))<|zJ (YJ (us:=[]) (vs:=[_]) rfl rfl)<|zfP (cap:=[]) (vs:=[_,_]) rfl rfl zxU Zb (fun hg=>zon.ofV fun I' hI' hL'=>zAI (cap:=[.pointer (some ⟨b_5,0,none⟩)]) (hN.mono hI') hpn zy7 (fun x _=>zA1 (b:=b_5) (r:=r_37) (s:=s) (hL' b_5 _ kJ) (hL' r_37 _ kJ) x)) (.some rfl rfl rfl rfl gbf) rfl rfl<|Zf rfl rfl rfl rfl rfl<|zN ?_
  refine zI ?_ ?_<;>intro hc53
  ·
   have hbad:WD ps=380:=zdt hlen h0 (by rw [←zlU h0];exact VY (k:=k) (by rw [hP.len];exact hlt_k) (by rw [zsr hp hp1 hl hs];exact congrArg (! ·) hc53));exact zR (zA (zN (Qs (Qf (Qj (Qf (Qf<|Qj (Qf<|zp hIc rfl rfl (by rw [hbad])))))))))
  refine Qp (Qc ?_);have hD:=zCA I;refine Zm<|QI I [(b_8,.cells (K2 p).toArray 39 (0,0)),(b_5,.cells #[.map (some r_37)] 143 (0,0))] mixed<|zT 0 rfl (Qd rfl zl6 (fun hg=>by exact Qz.h1 rfl)) hD<|zT 1 rfl (Qa rfl ZR) hD<|zT 2 rfl (Qd rfl Qn (fun hg=>by exact Qz.h0 rfl)) hD<|zT 3 rfl (Qa rfl ZR) hD<|zT 4 rfl (Qd rfl Qn (fun hg=>by exact Qz.h0 rfl)) hD<|qd 5 rfl<|YC (m:=s) (ek:=Value.int .i64) (ev:=Value.bool) (a:=p.id) true Xh Zc rfl rfl rfl rfl (by repeat (first | exact Upd.here | apply Upd.there | apply ZC))<|Qb<|zD hD<|zT 6 rfl (Qy rfl) hD ?_
  refine Qo kA<|Qw ?_
  refine Qi (Qc (Qh (zB<|zM (Qb ?_))));exact zm (h:=⟨n-(k+1),kB,k+1,_,_,rfl,rfl,rfl,rfl,kB,VH hall (by rw [zsr hp hp1 hl hs];exact congrArg (! ·) hc53),zjx hp,fun x=>by rw [ziz,hs,zrh hp]⟩)
 have hge_k:n≤k:=(by have h:=hc41;simp at h;omega);have hls:lsB ps=true:=(by rw [←zlU h0,hP.len,show n=k by omega];exact hall);have hL:Lst ps:=zlJ h0 hls;refine Q6 (Ql (Ql (Qq (Qc (zR (zM<|zpc [_] rfl zy4 .nil (zpv hP hn hL hnd) ?_))))));rintro vv3 I3 L3 hI3 ⟨rfl,r9,rfl,hOn⟩;have hP:=hP.mono hI3;have hIc:=hIc.trans hI3;refine zA<|zN (zR<|Yf rfl rfl (fun r_62=>Yf rfl rfl (fun r_63=>zA<|zA (zN (Qm (Qm ?_))))))
 refine zqA [(r_63,Yw (Value.int .i64) ztI []),(r_62,Yw (Value.int .i64) (Value.int .i64) [])] (by repeat (first | exact Qx | exact .refl | refine .keep ?_ | refine .drop ?_)) ?_;refine Qh (zM<|zQ Yk ?_);refine zM (zN (Qr ?_));refine zU [(0,_),(9,_),(10,_),(11,_),(64,_),(65,_)] (fun T L0 mz E I' loc'=>∃ (k:Nat) (mi:List (Int×Int)) (mr:List (Int×(Value×Nat×List Value))) (L:Go.Kn.Loc),mz=n-k∧E=(66,.int .i64 k)::T∧I3=I'∧(r_63,Yw (Value.int .i64) ztI mr)::(r_62,Yw (Value.int .i64) (Value.int .i64) mi)::L=loc'∧k≤n∧zjS mi (ps.take k)∧zkp mr (ps.take k)∧WH 3 1 (mr.map (·.2)) L) ?_ (h:=⟨0,[],[],[],rfl,rfl,rfl,rfl,Nat.zero_le _,zjS.nil,zkp.nil,WH.nil⟩);rintro mz E I' loc' ⟨k,mi,mr,L,rfl,rfl,rfl,rfl,hk,hmi,hmr,hAll⟩;refine zR (zC (zN (Qm ?_)));refine zI ?_ ?_<;>intro hc67
 ·
  have hlt_k:k<n:=(by have h:=hc67;simp at h;omega);have hP1:=hP.1;obtain ⟨p,hp,hN⟩:=hP.at hlt_k;have hpm:=List.mem_of_getElem? hp;have hN:Sl I3 1 ZX p.a p.n p.c p.needs:=hN;have hpn:=hnd p hpm;refine Qp (Qc (Qm (Qr (zR<|zV (QC rfl rfl Yk kH (fun hg=>kB))<|zV (Qg rfl Y6 (fun hg=>by exact zCB hP1 hp) rfl)<|Qt zco rfl rfl (fun b_13=>zh UP<|zN (zR ?_))))));refine zF V2 ?_;refine zL Qn<|zN (Qr (zR (zC<|zA (zN ?_))))
  refine zI ?_ ?_<;>intro hc72
  ·
   have hk2:p.kind=2:=(by simpa using hc72);refine Qm (zR (zM<|zF Ym ?_));refine zL Qn<|zV (zaH (m:=mi) (ek:=Value.int .i64) (a:=p.sign) zhE Zc rfl rfl (fun _=>.inr kJ))<|zM ?_
   refine zE ?_;refine zE<|zA<|zA<|zN (zR ?_)
   refine zM (zN ?_);refine zI ?_ ?_<;>intro hc81
   ·
    obtain ⟨id,hid⟩:=Option.isSome_iff_exists.1 hc81;have hbad:WD ps=380:=zau hlen h0 hls (zvs hL hmi hp hk2 hid);exact zR (zA (zN (Qs (Qf (Qj (Qj (Qf<|Qf (Qj (Qf<|zp hIc rfl rfl (by rw [hbad]))))))))))
   have hnone:ZD mi p.sign=none:=(by simpa using hc81);refine Qp (Qc (Qh (zM<|zF Ym ?_)));refine zL Qn<|zF ZR ?_
   exact zL Qn<|YC (m:=mi) (ek:=Value.int .i64) (ev:=Value.int .i64) (a:=p.sign) p.id zhE Zc rfl rfl rfl rfl (by repeat (first | exact Upd.here | apply Upd.there | apply ZC))<|Qb (Qi (Qi (Qc (Qh (zB<|zM (Qb<|zm (h:=⟨n-(k+1),kB,k+1,_,_,_,rfl,rfl,rfl,rfl,kB,hmi.put hp hk2 hnone,hmr.skip hp kB,hAll⟩)))))))
  have hk2n:p.kind≠2:=(by simpa using hc72);refine zR (zC<|zA (zN ?_));refine zI ?_ ?_<;>intro hc87
  ·
   have hk3:p.kind=3:=(by simpa using hc87);obtain ⟨A,Lt,B,rfl,hOt,hset⟩:=hAll.at p.sign;have hq:=zy8 hmr hOt;have hq2:=List.length_take_le k ps;have hD:=zCA I3;refine Zm<|QI I3 [(b_13,.cells (K2 p).toArray 39 (0,0))] mixed<|zT 0 rfl (Qe rfl) hD<|zT 1 rfl (Qa rfl Ym) hD<|zT 2 rfl (Qd rfl Qn (fun hg=>by exact Qz.h0 rfl)) hD<|zT 3 rfl (Qe rfl) hD<|zT 4 rfl (Qa rfl Ym) hD<|zT 5 rfl (Qd rfl Qn (fun hg=>by exact Qz.h0 rfl)) hD<|zT 7 rfl (Qa rfl ZR) hD<|zT 8 rfl (Qd rfl Qn (fun hg=>by exact Qz.h0 rfl)) hD ?_
   refine QS 6 9 rfl rfl kA ?_ ?_
   ·
    refine zV (zaq (m:=mr) (ek:=Value.int .i64) (a:=p.sign) zcc Zc rfl rfl (fun _=>.inr kJ))<|Qb<|zD hD<|qd 9 rfl<|zpb [(0,_)] [ZX p.id] Ve (fun b_98=>Qb<|zD hD<|qd 10 rfl<|zpa (_) ([p.id].flatMap ZX) (Lt) rfl rfl Ve hOt ⟨rfl,fun _=>rfl,zCy⟩ (zaY [p.id]) ?_)
    intro v9 L9 hO9 _;refine Qb<|zD hD<|qd 11 rfl<|YC (m:=mr) (ek:=Value.int .i64) (ev:=ztI) (a:=p.sign) (v9,((ZD mr p.sign).getD zfy).2.1+1,((ZD mr p.sign).getD zfy).2.2++[p.id].flatMap ZX) zcc Zc rfl rfl rfl rfl (by repeat (first | exact Upd.here | apply Upd.there | apply ZC))<|Qb<|zD hD<|Qo kA<|Qw<|Qi (Qi (Qc (Qh (zB<|zM (Qb ?_)))))
    exact zle _ _ (L9++((r_63,_)::(r_62,_)::(A++B))) ⟨n-(k+1),kB,k+1,_,_,A++(L9++B),rfl,rfl,rfl,rfl,kB,hmi.skip hp hk2n,hmr.put hp hk3,hset (v9,_,_) L9 hO9⟩ (.cons rfl (.cons rfl (.cons rfl (.cons rfl (.cons rfl (.cons rfl (.cons rfl .nil))))))) zns kC
   refine zpb [(0,_)] [ZX p.id] Ve (fun b_98=>Qb<|zD hD<|qd 6 rfl<|zV (zaq (m:=mr) (ek:=Value.int .i64) (a:=p.sign) zcc Zc rfl rfl (fun _=>.inr kJ))<|Qb<|zD hD<|qd 10 rfl<|zpa (_) ([p.id].flatMap ZX) (Lt) rfl rfl Ve hOt ⟨rfl,fun _=>rfl,zCy⟩ (zaY [p.id]) ?_);intro v9 L9 hO9 _;refine Qb<|zD hD<|qd 11 rfl<|YC (m:=mr) (ek:=Value.int .i64) (ev:=ztI) (a:=p.sign) (v9,((ZD mr p.sign).getD zfy).2.1+1,((ZD mr p.sign).getD zfy).2.2++[p.id].flatMap ZX) zcc Zc rfl rfl rfl rfl (by repeat (first | exact Upd.here | apply Upd.there | apply ZC))<|Qb<|zD hD<|Qo kA<|Qw<|Qi (Qi (Qc (Qh (zB<|zM (Qb ?_)))))
   exact zle _ _ (L9++((r_63,_)::(r_62,_)::(A++B))) ⟨n-(k+1),kB,k+1,_,_,A++(L9++B),rfl,rfl,rfl,rfl,kB,hmi.skip hp hk2n,hmr.put hp hk3,hset (v9,_,_) L9 hO9⟩ (.cons rfl (.cons rfl (.cons rfl (.cons rfl (.cons rfl (.cons rfl (.cons rfl .nil))))))) zns kC
  have hk3n:p.kind≠3:=(by simpa using hc87);exact Qp (Qi (Qi (Qc (Qh (zB<|zM (Qb<|zm (h:=⟨n-(k+1),kB,k+1,_,_,_,rfl,rfl,rfl,rfl,kB,hmi.skip hp hk2n,hmr.skip hp hk3n,hAll⟩)))))))
 have hge_k:n≤k:=(by have h:=hc67;simp at h;omega);rw [ZB hP.len hge_k] at hmi hmr;refine Q6 (Ql (Ql (Qq (Qc (Qm (Qm<|zg4 (fun I5 hI5 hb5=>?_)))))));have hP:=hP.mono hI5;have hOn:=hOn.mono hI5;have hIc:=hIc.trans hI5;have hmiI:I5 r_62=some (Yw (Value.int .i64) (Value.int .i64) mi):=hb5 _ _ kJ;have hmrI:I5 r_63=some (Yw (Value.int .i64) ztI mr):=hb5 _ _ kJ;have hrem:=zyd hmr hAll (fun b o h=>hb5 b o (by simp [h]));obtain ⟨m,hm1,hm2⟩:=hOn;refine Qh (zM<|zQ Yk ?_);refine zM (zN (Qr ?_));refine zU [(9,_),(10,_),(11,_),(101,_),(102,_)] (fun T L0 mz E I' loc'=>∃ (k:Nat),mz=n-k∧E=(103,.int .i64 k)::T∧I5=I'∧[]=loc'∧k≤n∧(ps.take k).all (tgP ps)=true) ?_ (h:=⟨0,rfl,rfl,rfl,rfl,Nat.zero_le _,rfl⟩);rintro mz E I' loc' ⟨k,rfl,rfl,rfl,rfl,hk,htg⟩;refine zR (zC (zN (Qm ?_)));refine zI ?_ ?_<;>intro hc104
 ·
  have hlt_k:k<n:=(by have h:=hc104;simp at h;omega);have hP1:=hP.1;obtain ⟨p,hp,hN⟩:=hP.at hlt_k;have hpm:=List.mem_of_getElem? hp;have hN:Sl I5 1 ZX p.a p.n p.c p.needs:=hN;have hpn:=hnd p hpm;obtain ⟨ref,hget,sn,hsn,hsq⟩:=hm2.get ⟨p,hpm,rfl⟩;refine Qp (Qc (Qm (Qr (zR<|zV (QC rfl rfl Yk kH (fun hg=>kB))<|zV (Qg rfl Y6 (fun hg=>by exact zCB hP1 hp) rfl)<|Qt zco rfl rfl (fun b_17=>zh UP<|zN (Qm (zR (zM<|zF Ym ?_))))))));refine zL Qn<|zV (zaH (m:=mi) (ek:=Value.int .i64) (a:=p.sign) zhE Zc rfl rfl (fun _=>.inl hmiI))<|zM ?_
  refine zE ?_;refine zE<|zA<|zA<|zN (zR ?_)
  refine zM ?_;refine zM<|Qu 1 rfl rfl rfl ?_
  refine zK (Qa rfl ZR) ?_;refine zK (Qd rfl Qn (fun hg=>by exact Qz.h0 rfl))<|zK (Qe rfl) ?_
  refine zK (QE rfl rfl rfl) ?_;refine QD rfl rfl rfl rfl rfl ?_;refine zM<|Qu 7 rfl rfl rfl ?_
  refine zK (Qe rfl)<|zK (Qa rfl ZR) ?_
  refine zK (Qd rfl Qn (fun hg=>by exact Qz.h0 rfl))<|zK (zal (m:=m) (ek:=Value.int .i64) (ev:=zqW) (a:=p.id) hget zdZ Zc rfl rfl (fun _=>.inl hm1))<|zK (Qe rfl)<|zK (YZ (m:=sn) Xh Zc rfl rfl (fun _=>.inl hsn))<|zK (Zy rfl)<|QD rfl rfl rfl rfl rfl<|zN ?_
  refine zI ?_ ?_<;>intro hc129
  ·
   have hA:=hc129;simp only [show ∀ x,(ZD sn x).getD false=onF ps p.id x from fun x=>hsq.mem x] at hA;have hbad:WD ps=380:=zau hlen h0 hls (by rw [zln hL hmi];exact zaD hp (by unfold tgP;rw [←zsR hmi,hA];rfl));exact zR (zA (zN (Qs (Qf (Qj (Qf (Qf<|Qj (Qf<|zp hIc rfl rfl (by rw [hbad])))))))))
  have hA:=hc129;simp only [show ∀ x,(ZD sn x).getD false=onF ps p.id x from fun x=>hsq.mem x] at hA;refine Qp (Qc (Qm ?_));obtain ⟨av2,c2,hv2,hS2⟩:=hrem p.sign;have hk3l:=zeX (c:=3) (ps:=ps) (s:=p.sign);have hpl:=hP.len;refine Qh (zM<|zF Ym ?_);refine zL Qn<|zV (zgM (m:=mr) (ek:=Value.int .i64) (a:=p.sign) hv2 zcc Zc rfl rfl (fun _=>.inl hmrI))<|zQ Q4 ?_
  refine zM (zN (Qr ?_));refine zU [(9,_),(10,_),(11,_),(17,_),(101,_),(102,_),(103,_),(133,_),(134,_)] (fun T L0 mz E I' loc'=>∃ (j:Nat),mz=(KE 3 ps p.sign).length-j∧E=(135,.int .i64 j)::T∧I5=I'∧[(b_17,.cells (K2 p).toArray 39 (0,0))]=loc'∧j≤(KE 3 ps p.sign).length∧((KE 3 ps p.sign).take j).any (onF ps p.id)=false) ?_ (h:=⟨0,rfl,rfl,rfl,rfl,Nat.zero_le _,rfl⟩);rintro mz E I' loc' ⟨j,rfl,rfl,rfl,rfl,hj,hno⟩;refine zR (zC (zN (Qm ?_)));refine zI ?_ ?_<;>intro hc136
  ·
   have hlt_j:j<(KE 3 ps p.sign).length:=(by have h:=hc136;simp at h;omega);obtain ⟨y,hy⟩:=hS2.at hlt_j;refine Qp (Qc (Qm (Qr (zR<|zV (QC rfl rfl Q4 kH (fun hg=>kB))<|zV (Qd rfl Qn (fun hg=>by exact zCt hS2 hy rfl))<|zA<|zN (zR ?_)))));refine zM<|zF ZR ?_
   refine zL Qn<|zV (zal (m:=m) (ek:=Value.int .i64) (ev:=zqW) (a:=p.id) hget zdZ Zc rfl rfl (fun _=>.inl hm1))<|zM<|zV (YZ (m:=sn) Xh Zc rfl rfl (fun _=>.inl hsn))<|zN ?_
   refine zI ?_ ?_<;>intro hc144
   ·
    have hon:=hc144;simp only [show ∀ x,(ZD sn x).getD false=onF ps p.id x from fun x=>hsq.mem x] at hon;have hbad:WD ps=380:=zau hlen h0 hls (by rw [zln hL hmi];exact zaD hp (by unfold tgP;rw [zhp hy hon,Bool.or_true];rfl));exact zR (zA (zN (Qs (Qj (Qf (Qf (Qj<|Qj (Qf (Qf (Qj (Qf<|zp hIc rfl rfl (by rw [hbad]))))))))))))
   have hon:=hc144;simp only [show ∀ x,(ZD sn x).getD false=onF ps p.id x from fun x=>hsq.mem x] at hon;exact Qp (Qi (Qc (Qh (zB<|zM (Qb<|zm (h:=⟨(KE 3 ps p.sign).length-(j+1),kB,j+1,rfl,rfl,rfl,rfl,kB,zav hy hno hon⟩))))))
  have hge_j:(KE 3 ps p.sign).length≤j:=(by have h:=hc136;simp at h;omega);rw [ZB rfl hge_j] at hno;have htp:tgP ps p=true:=(by unfold tgP;rw [←zsR hmi,hA,hno];rfl);exact Q6 (Ql (Ql (Qq (Qi (Qc (Qh (zB<|zM (Qb<|zm (h:=⟨n-(k+1),kB,k+1,rfl,rfl,rfl,rfl,kB,zgH hp htg htp⟩)))))))))
 have hge_k:n≤k:=(by have h:=hc104;simp at h;omega);have htog:zoZ ps=true:=(by rw [zln hL hmi];rw [ZB hP.len hge_k] at htg;exact htg);exact Q6 (Ql (Ql (Qq (Qc (zR (zA (zN<|Qs<|zp hIc rfl rfl (by rw [zdy hlen h0 hls htog]))))))))
theorem KO:ElT Tryz.prog 64 39 19 168:=.of kA
theorem zbJ:Fun Tryz.prog 135:=.of Tryz.func135 kA kA
theorem znj:Fun Tryz.prog 136:=.of Tryz.func136 kA kA
theorem zoj:Fun Tryz.prog 137:=.of Tryz.func137 kA kA
theorem zkR:Fun Tryz.prog 138:=.of Tryz.func138 kA kA
theorem zmJ:Fun Tryz.prog 139:=.of Tryz.func139 kA kA
theorem zxg:Fun Tryz.prog 39:=.of Tryz.func39 kA kA
theorem zxv:Fun Tryz.prog 67:=.of Tryz.func67 kA kA
theorem zzh:Fun Tryz.prog 69:=.of Tryz.func69 kA kA
theorem zyJ:Fun Tryz.prog 71:=.of Tryz.func71 kA kA
theorem zyP:Fun Tryz.prog 73:=.of Tryz.func73 kA kA
theorem Wb:MpT Tryz.prog 151 3 43 (.agg #[(.int .i64 0),(.int .i64 0),(.int .i64 0),(.int .i64 0),(.int .i64 0),(.int .i64 0),(.string ⟨#[]⟩),(.string ⟨#[]⟩),(.int .i64 0),(.int .i64 0),(.int .i64 0)]):=⟨kA,.of kA⟩
theorem zd9:MpT Tryz.prog 194 3 41 (.agg #[(.int .i64 0),(.int .i64 0),(.int .i64 0),(.int .i64 0),(.int .i64 0)]):=⟨kA,.of kA⟩
theorem zeN:MpT Tryz.prog 198 3 39 (.agg #[(.int .i64 0),(.int .i64 0),(.int .i64 0),(.int .i64 0),(.int .i64 0),(.int .i64 0),(.int .i64 0),(.int .i64 0),(.int .i64 0),(.int .i64 0),(.int .i64 0),(.int .i64 0),(.int .i64 0),(.int .i64 0),(.int .i64 0),(.int .i64 0),(.int .i64 0),(.int .i64 0),(.slice none 0 0)]):=⟨kA,.of kA⟩
variable{xs:List Nt}
theorem zrv (hP:UV I av n c xs)(hn0:n≤4096):Y7 Tryz.prog 66 [.slice av n c,.int .i64 1,.func (.func 67) #[] #[],.func (.func 37) #[] #[]] I [] (fun v I' L'=>L'=[]∧∃ a n c,v= .slice a n c∧Sl I' 9 Zi a n c (zcY (fun x=>x.lm.no) (fun x=>x.lm) 1 za0 VP xs)):=by
 intro g H w hw;refine qe Tryz.func66 Tryz.ntmps66 hw ?_;have hIc:=zCA I;have hln:=hP.sl.len;refine zR (zA<|zN (zR<|Yf rfl rfl (fun r_20=>?_)));refine (show XO _ _ _ _ _ _ _ ((r_20,Yw (.int .i64) Jz ([]:List (Int×Lm)))::_) from ?_);refine zA<|zN (zR<|zA (zN (Qm (zR<|zM ?_))))
 refine zQ QZ ?_;refine zM (zN (Qr ?_));refine zU [(1,_),(2,_),(3,_),(8,_),(9,_),(21,_),(22,_)] (fun T L0 mz E I' loc'=>∃ (k:Nat) (v:Value) (q:Nat) (Lw:Go.Kn.Loc),mz=n-k∧E=(10,v)::(23,.int .i64 k)::T∧I=I'∧Lw++[(r_20,Yw (.int .i64) Jz (Z9 (fun x=>x.lm.no) (fun x=>x.lm) 1 (xs.take k)))]=loc'∧k≤n∧ZP 3 1 v q (((Z9 (fun x=>x.lm.no) (fun x=>x.lm) 1 (xs.take k)).map (·.1)).flatMap ZX) Lw∧q=(Z9 (fun x=>x.lm.no) (fun x=>x.lm) 1 (xs.take k)).length) ?_ (h:=⟨0,_,0,[],rfl,rfl,rfl,rfl,Nat.zero_le _,ZP.nil,rfl⟩);rintro mz E I' loc' ⟨k,v,q,Lw,rfl,rfl,rfl,rfl,hk,hO,hq⟩;refine zR (zC (zN (Qm ?_)));refine zI ?_ ?_<;>intro hc24
 ·
  have hlt_k:k<n:=(by have h:=hc24;simp at h;omega);obtain ⟨x,hx⟩:∃ y,xs[k]? =some y:=⟨_,List.getElem?_eq_getElem kB⟩;have hml:(Z9 (fun x=>x.lm.no) (fun x=>x.lm) 1 (xs.take k)).length≤k:=Nat.le_trans V3 (List.length_take_le ..);refine Qp (Qc (Qm (Qr (zR<|zV (QC rfl rfl QZ hP.sl (fun hg=>kB))<|zV (Qg rfl Q8 (fun hg=>by exact zCB hP.sl hx) rfl)<|Qt UW rfl rfl (fun b_12=>zh Vk<|zN (zR ?_))))));refine zM ?_;refine zV (Qg rfl Q8 (fun hg=>by exact Cells.g0) rfl)<|qcV (vs:=[_]) rfl zxv (zuj _ x)<|zM ?_
  refine zE ?_;refine zE ?_;refine Qt zeY rfl rfl (fun b_13=>zh Xo<|zA (zN (Qm ?_)));rcases hget:ZD (Z9 (fun x=>x.lm.no) (fun x=>x.lm) 1 (xs.take k)) (x.lm.no) with _ | y0
  ·
   refine Qh (zM ?_);refine zM ?_;refine zV (Z1 (ek:=Value.int .i64) (ev:=Jz) zar Zc rfl rfl (fun _=>kK)) ?_;rw [hget];refine zM ?_;refine zE ?_;refine zE ?_;refine Qt zeY rfl rfl (fun b_15=>zh Xo<|zA<|zN (zR ?_));refine zF YV ?_;refine zL Qn<|zM<|zC<|zM<|Qu 4 rfl rfl rfl ?_
   refine zK (Qe rfl)<|zK (Zy rfl)<|QD rfl rfl rfl rfl rfl<|zN ?_
   refine zI ?_ ?_<;>intro hc46
   ·
    have hkd:(x.kind==1)=true:=(by simpa using hc46);refine zR (zM ?_);refine zM ?_;refine zV (Qg rfl Jr (fun hg=>by exact Cells.g1) rfl)<|zx9 (ek:=Value.int .i64) (ev:=Jz) (x.lm) zar Zc<|zN (Qh (zM<|zM ?_))
    refine zpb [(0,_)] [ZX (x.lm.no)] Ve (fun b_52=>?_);refine zpa (_) ([x.lm.no].flatMap ZX) (Lw) rfl rfl Ve hO ⟨rfl,fun _=>rfl,by repeat (first | exact zCy | apply zCx | apply zCz)⟩ (zaY [x.lm.no]) ?_;intro v9 L9 hO9 _;rw [←List.flatMap_append] at hO9;refine zA (Qb (Qi (Qc (Qh<|zB<|zM (Qb ?_)))));exact Zk _ (L9++[(r_20,Yw (.int .i64) Jz (JI (Z9 (fun x=>x.lm.no) (fun x=>x.lm) 1 (xs.take k)) (x.lm.no) (x.lm)))]) ⟨n-(k+1),kB,k+1,_,_,_,rfl,rfl,rfl,by rw [Zj hx,za3 hget hkd],kB,by rw [Zj hx,JX hget hkd];exact hO9,by rw [Zj hx,←List.length_map (f:=fun p=>p.1),JX hget hkd,List.length_append,List.length_map];simp;omega⟩ (.cons rfl (.cons rfl (.cons rfl (.cons rfl (.cons rfl (.cons rfl (.cons rfl (.cons rfl (.cons rfl .nil))))))))) kC
   have hkd:(x.kind==1)=false:=(by simpa using hc46);have hsame:Xe (fun x=>x.lm.no) (fun x=>x.lm) 1 (Z9 (fun x=>x.lm.no) (fun x=>x.lm) 1 (xs.take k)) x=(Z9 (fun x=>x.lm.no) (fun x=>x.lm) 1 (xs.take k)):=zeI hkd;refine Qp (Qi (Qc (Qh (zB<|zM (Qb ?_)))));exact Zk _ (Lw++[(r_20,Yw (.int .i64) Jz (Z9 (fun x=>x.lm.no) (fun x=>x.lm) 1 (xs.take k)))]) ⟨n-(k+1),kB,k+1,_,_,_,rfl,rfl,rfl,by rw [Zj hx,hsame],kB,by rw [Zj hx,hsame];exact hO,by rw [Zj hx,hsame];exact hq⟩ (.cons rfl (.cons rfl (.cons rfl (.cons rfl (.cons rfl (.cons rfl (.cons rfl (.cons rfl (.cons rfl .nil))))))))) kC
  refine Qh (zM ?_);refine zM ?_;refine zV (Z1 (ek:=Value.int .i64) (ev:=Jz) zar Zc rfl rfl (fun _=>kK)) ?_;rw [hget];refine zM ?_;refine zE ?_;refine zE ?_;refine Qt zeY rfl rfl (fun b_15=>zh Xo<|zA<|zN (zR ?_));refine zF YV ?_;refine zL Qn<|zM<|zC<|zM<|Qu 4 rfl rfl rfl ?_
  refine zK (Qe rfl)<|zK (Zy rfl)<|QD rfl rfl rfl rfl rfl<|zN ?_
  refine zI ?_ ?_<;>intro hc46
  ·
   simp at hc46
  have hsame:Xe (fun x=>x.lm.no) (fun x=>x.lm) 1 (Z9 (fun x=>x.lm.no) (fun x=>x.lm) 1 (xs.take k)) x=(Z9 (fun x=>x.lm.no) (fun x=>x.lm) 1 (xs.take k)):=zbq hget;refine Qp (Qi (Qc (Qh (zB<|zM (Qb ?_)))));exact Zk _ (Lw++[(r_20,Yw (.int .i64) Jz (Z9 (fun x=>x.lm.no) (fun x=>x.lm) 1 (xs.take k)))]) ⟨n-(k+1),kB,k+1,_,_,_,rfl,rfl,rfl,by rw [Zj hx,hsame],kB,by rw [Zj hx,hsame];exact hO,by rw [Zj hx,hsame];exact hq⟩ (.cons rfl (.cons rfl (.cons rfl (.cons rfl (.cons rfl (.cons rfl (.cons rfl (.cons rfl (.cons rfl .nil))))))))) kC
 have hge_k:n≤k:=(by have h:=hc24;simp at h;omega);have hml:=V3 (num:=(fun x=>x.lm.no)) (prt:=(fun x=>x.lm)) (kind:=1) (xs:=xs);have hke:xs.take k=xs:=ZB hln hge_k;rw [hke] at hO hq ⊢;refine Q6 (Ql (Ql (Qq (Qc (zR (zM<|zpc [_] rfl zbJ QR (zjc 3 ((Z9 (fun x=>x.lm.no) (fun x=>x.lm) 1 xs).map (·.1)) (by rw [←K1];exact hO) kB _) ?_))))));rintro vv2 I2 L2 hI2 ⟨rfl,rfl,hO2⟩;have hIc:=hIc.trans hI2;rw [←K1] at hO2;refine zN (Qm (Qm<|zx4 hO2 YM (fun I3 hI3 af3 cf3 ef3 hNs=>?_)));subst ef3;have hIc:=hIc.trans hI3;obtain ⟨ns,hnsd⟩:∃ y,y=UO ((Z9 (fun x=>x.lm.no) (fun x=>x.lm) 1 xs).map (·.1)):=⟨_,rfl⟩;rw [←hnsd] at hNs;have hnl:=hNs.len;have hml:=V3 (num:=(fun x=>x.lm.no)) (prt:=(fun x=>x.lm)) (kind:=1) (xs:=xs);refine Qh (zM<|zQ Q4 ?_);refine zM (zN (Qr ?_));refine zU [(3,_),(9,_),(57,_),(58,_)] (fun T L0 mz E I' loc'=>∃ (j:Nat) (a9:Option Addr) (n9:Nat) (c9:Nat),mz=q-j∧E=(8,.slice a9 n9 c9)::(59,.int .i64 j)::T∧HLe I3 I'∧[(r_20,Yw (.int .i64) Jz (Z9 (fun x=>x.lm.no) (fun x=>x.lm) 1 xs))]=loc'∧j≤q∧Sl I' 9 Zi a9 n9 c9 (zgw za0 VP (Z9 (fun x=>x.lm.no) (fun x=>x.lm) 1 xs) (ns.take j))∧n9≤j) ?_ (h:=⟨0,none,0,0,rfl,rfl,zCA _,rfl,Nat.zero_le _,Sl.nil,Nat.le_refl _⟩);rintro mz E J4 loc' ⟨j,a9,n9,c9,rfl,rfl,hJ,rfl,hj,hY,hn9⟩;have hNs:=hNs.mono hJ;have hIc:=hIc.trans hJ;have hB2:=hJ;refine zR (zC (zN (Qm ?_)));refine zI ?_ ?_<;>intro hc60
 ·
  have hlt_j:j<q:=(by have h:=hc60;simp at h;omega);obtain ⟨m9,hn⟩:∃ y,ns[j]? =some y:=⟨_,List.getElem?_eq_getElem kB⟩;refine Qp (Qc (Qm (Qr (zR<|zV (zX Q4 hNs)<|zV (Qd rfl Qn (fun hg=>by exact zCt hNs hn rfl))<|zA (zN ?_)))));refine zY [(3,_),(8,_),(9,_),(57,_),(58,_),(59,_)] (fun T L0 E I' loc'=>∃ (a2:Option Addr) (c2:Nat),E=(19,.slice a2 (n9+1) c2)::T∧HLe J4 I'∧[(r_20,Yw (.int .i64) Jz (Z9 (fun x=>x.lm.no) (fun x=>x.lm) 1 xs))]=loc'∧Sl I' 9 Zi a2 (n9+1) c2 ((zgw za0 VP (Z9 (fun x=>x.lm.no) (fun x=>x.lm) 1 xs) (ns.take j))++[(ZD (Z9 (fun x=>x.lm.no) (fun x=>x.lm) 1 xs) m9).getD VP])) ?_ ?_
  ·
   have hKc16:=zCA J4;have hD:=zCA J4;refine Zm<|QI J4 [(r_20,Yw (.int .i64) Jz (Z9 (fun x=>x.lm.no) (fun x=>x.lm) 1 xs))] mixed<|zT 0 rfl (Qe rfl) hD<|zT 2 rfl (Qe rfl) hD<|zT 3 rfl (Qe rfl) hD<|zT 4 rfl (Wr (ek:=Value.int .i64) (ev:=Jz) VP zar Zc rfl rfl (fun _=>kS)) hD ?_
   obtain ⟨y,hydef⟩:∃ y,y=(ZD (Z9 (fun x=>x.lm.no) (fun x=>x.lm) 1 xs) m9).getD VP:=⟨_,rfl⟩;rw [←hydef];refine QS 1 5 rfl rfl kA ?_ ?_
   ·
    refine qcV (vs:=[_]) rfl znj (zog _ _ _ _ hY.cap)<|Qb<|zD hD<|qd 5 rfl<|zpb [(0,_)] [Zi y] VQ (fun b_68=>Qb<|zD hD<|qd 6 rfl<|QT (ys:=[y].flatMap Zi) YI rfl rfl VQ hY.cut ⟨rfl,fun _=>rfl,by repeat (first | exact zCy | apply zCx)⟩ kD kB rfl rfl ?_)
    intro v1 L1 hO1;rw [←List.flatMap_append] at hO1;refine zx7 hO1 YI (fun I5 hI5 af5 cf5 ef5 hZ=>?_);subst ef5;have hKc16:=hKc16.trans hI5;have hD:=hD.trans hI5;exact Qb<|zD hD<|zT 7 rfl (Qy rfl) hD<|Qo kA<|Qw<|zm (h:=⟨_,_,rfl,hKc16,rfl,by exact hZ⟩)
   refine zpb [(0,_)] [Zi y] VQ (fun b_68=>Qb<|zD hD<|qd 1 rfl<|qcV (vs:=[_]) rfl znj (zog _ _ _ _ hY.cap)<|Qb<|zD hD<|qd 6 rfl<|QT (ys:=[y].flatMap Zi) YI rfl rfl VQ hY.cut ⟨rfl,fun _=>rfl,by repeat (first | exact zCy | apply zCx)⟩ kD kB rfl rfl ?_);intro v1 L1 hO1;rw [←List.flatMap_append] at hO1;refine zx7 hO1 YI (fun I6 hI6 af6 cf6 ef6 hZ=>?_);subst ef6;have hKc16:=hKc16.trans hI6;have hD:=hD.trans hI6;exact Qb<|zD hD<|zT 7 rfl (Qy rfl) hD<|Qo kA<|Qw<|zm (h:=⟨_,_,rfl,hKc16,rfl,by exact hZ⟩)
  rintro E J7 loc' ⟨a2,c2,rfl,hJ16,rfl,hZ⟩;have hY:=hY.mono hJ16;have hB2:=hB2.trans hJ16;refine zR (zM ?_);refine zM ?_;refine qcV (vs:=[_]) rfl zn9 (zlv hZ kB)<|zC (zN ?_)
  refine zI ?_ ?_<;>intro hc73
  ·
   refine Qh (zM<|zA (Qb (Qi (Qc (Qh<|zB<|zM (Qb ?_))))))
   first
   | exact zm (h:=⟨q-(j+1),kB,j+1,_,_,_,rfl,rfl,hB2,rfl,kB,by rw [J0 hn,zeV,if_pos hc73];exact hZ,kB⟩)
  refine Qp (Qi (Qc (Qh (zB<|zM (Qb ?_)))))
  first
  | exact zm (h:=⟨q-(j+1),kB,j+1,_,_,_,rfl,rfl,hB2,rfl,kB,by rw [J0 hn,zeV,if_neg (by rw [hc73];simp)];exact hY,kB⟩)
 have hge_j:q≤j:=(by have h:=hc60;simp at h;omega);have hke2:ns.take j=ns:=ZB hnl hge_j;rw [hke2] at hY;refine Q6 (Ql (Ql (Qq (Qc (zR (zM<|zA (zN (Qs ?_))))))));exact QA rfl rfl (fun w hw=>⟨_,J4,[],rfl,hIc,by exact hw.drop,rfl,_,_,_,rfl,by rw [zcY,←hnsd];exact hY⟩)
theorem zq9 (hP:UV I av n c xs)(hn0:n≤4096):Y7 Tryz.prog 68 [.slice av n c,.int .i64 3,.func (.func 69) #[] #[],.func (.func 38) #[] #[]] I [] (fun v I' L'=>L'=[]∧∃ a n c,v= .slice a n c∧Sl I' 5 L.encL a n c (zcY (fun x=>x.ls.no) (fun x=>x.ls) 3 L.chk L.zeroL xs)):=by
 intro g H w hw;refine qe Tryz.func68 Tryz.ntmps68 hw ?_;have hIc:=zCA I;have hln:=hP.sl.len;refine zR (zA<|zN (zR<|Yf rfl rfl (fun r_20=>?_)));refine (show XO _ _ _ _ _ _ _ ((r_20,Yw (.int .i64) L.encA ([]:List (Int×L.Ls)))::_) from ?_);refine zA<|zN (zR<|zA (zN (Qm (zR<|zM ?_))))
 refine zQ QZ ?_;refine zM (zN (Qr ?_));refine zU [(1,_),(2,_),(3,_),(8,_),(9,_),(21,_),(22,_)] (fun T L0 mz E I' loc'=>∃ (k:Nat) (v:Value) (q:Nat) (Lw:Go.Kn.Loc),mz=n-k∧E=(10,v)::(23,.int .i64 k)::T∧I=I'∧Lw++[(r_20,Yw (.int .i64) L.encA (Z9 (fun x=>x.ls.no) (fun x=>x.ls) 3 (xs.take k)))]=loc'∧k≤n∧ZP 3 1 v q (((Z9 (fun x=>x.ls.no) (fun x=>x.ls) 3 (xs.take k)).map (·.1)).flatMap ZX) Lw∧q=(Z9 (fun x=>x.ls.no) (fun x=>x.ls) 3 (xs.take k)).length) ?_ (h:=⟨0,_,0,[],rfl,rfl,rfl,rfl,Nat.zero_le _,ZP.nil,rfl⟩);rintro mz E I' loc' ⟨k,v,q,Lw,rfl,rfl,rfl,rfl,hk,hO,hq⟩;refine zR (zC (zN (Qm ?_)));refine zI ?_ ?_<;>intro hc24
 ·
  have hlt_k:k<n:=(by have h:=hc24;simp at h;omega);obtain ⟨x,hx⟩:∃ y,xs[k]? =some y:=⟨_,List.getElem?_eq_getElem kB⟩;have hml:(Z9 (fun x=>x.ls.no) (fun x=>x.ls) 3 (xs.take k)).length≤k:=Nat.le_trans V3 (List.length_take_le ..);refine Qp (Qc (Qm (Qr (zR<|zV (QC rfl rfl QZ hP.sl (fun hg=>kB))<|zV (Qg rfl Q8 (fun hg=>by exact zCB hP.sl hx) rfl)<|Qt UW rfl rfl (fun b_12=>zh Vk<|zN (zR ?_))))));refine zM ?_;refine zV (Qg rfl Q8 (fun hg=>by exact Cells.g0) rfl)<|qcV (vs:=[_]) rfl zzh (ztR _ x)<|zM ?_
  refine zE ?_;refine zE ?_;refine Qt zhz rfl rfl (fun b_13=>zh zaz<|zA (zN (Qm ?_)));rcases hget:ZD (Z9 (fun x=>x.ls.no) (fun x=>x.ls) 3 (xs.take k)) (x.ls.no) with _ | y0
  ·
   refine Qh (zM ?_);refine zM ?_;refine zV (Z1 (ek:=Value.int .i64) (ev:=L.encA) zd9 Zc rfl rfl (fun _=>kK)) ?_;rw [hget];refine zM ?_;refine zE ?_;refine zE ?_;refine Qt zhz rfl rfl (fun b_15=>zh zaz<|zA<|zN (zR ?_));refine zF YV ?_;refine zL Qn<|zM<|zC<|zM<|Qu 4 rfl rfl rfl ?_
   refine zK (Qe rfl)<|zK (Zy rfl)<|QD rfl rfl rfl rfl rfl<|zN ?_
   refine zI ?_ ?_<;>intro hc46
   ·
    have hkd:(x.kind==3)=true:=(by simpa using hc46);refine zR (zM ?_);refine zM ?_;refine zV (Qg rfl Jp (fun hg=>by exact Cells.g1) rfl)<|zx9 (ek:=Value.int .i64) (ev:=L.encA) (x.ls) zd9 Zc<|zN (Qh (zM<|zM ?_))
    refine zpb [(0,_)] [ZX (x.ls.no)] Ve (fun b_52=>?_);refine zpa (_) ([x.ls.no].flatMap ZX) (Lw) rfl rfl Ve hO ⟨rfl,fun _=>rfl,by repeat (first | exact zCy | apply zCx | apply zCz)⟩ (zaY [x.ls.no]) ?_;intro v9 L9 hO9 _;rw [←List.flatMap_append] at hO9;refine zA (Qb (Qi (Qc (Qh<|zB<|zM (Qb ?_)))));exact Zk _ (L9++[(r_20,Yw (.int .i64) L.encA (JI (Z9 (fun x=>x.ls.no) (fun x=>x.ls) 3 (xs.take k)) (x.ls.no) (x.ls)))]) ⟨n-(k+1),kB,k+1,_,_,_,rfl,rfl,rfl,by rw [Zj hx,za3 hget hkd],kB,by rw [Zj hx,JX hget hkd];exact hO9,by rw [Zj hx,←List.length_map (f:=fun p=>p.1),JX hget hkd,List.length_append,List.length_map];simp;omega⟩ (.cons rfl (.cons rfl (.cons rfl (.cons rfl (.cons rfl (.cons rfl (.cons rfl (.cons rfl (.cons rfl .nil))))))))) kC
   have hkd:(x.kind==3)=false:=(by simpa using hc46);have hsame:Xe (fun x=>x.ls.no) (fun x=>x.ls) 3 (Z9 (fun x=>x.ls.no) (fun x=>x.ls) 3 (xs.take k)) x=(Z9 (fun x=>x.ls.no) (fun x=>x.ls) 3 (xs.take k)):=zeI hkd;refine Qp (Qi (Qc (Qh (zB<|zM (Qb ?_)))));exact Zk _ (Lw++[(r_20,Yw (.int .i64) L.encA (Z9 (fun x=>x.ls.no) (fun x=>x.ls) 3 (xs.take k)))]) ⟨n-(k+1),kB,k+1,_,_,_,rfl,rfl,rfl,by rw [Zj hx,hsame],kB,by rw [Zj hx,hsame];exact hO,by rw [Zj hx,hsame];exact hq⟩ (.cons rfl (.cons rfl (.cons rfl (.cons rfl (.cons rfl (.cons rfl (.cons rfl (.cons rfl (.cons rfl .nil))))))))) kC
  refine Qh (zM ?_);refine zM ?_;refine zV (Z1 (ek:=Value.int .i64) (ev:=L.encA) zd9 Zc rfl rfl (fun _=>kK)) ?_;rw [hget];refine zM ?_;refine zE ?_;refine zE ?_;refine Qt zhz rfl rfl (fun b_15=>zh zaz<|zA<|zN (zR ?_));refine zF YV ?_;refine zL Qn<|zM<|zC<|zM<|Qu 4 rfl rfl rfl ?_
  refine zK (Qe rfl)<|zK (Zy rfl)<|QD rfl rfl rfl rfl rfl<|zN ?_
  refine zI ?_ ?_<;>intro hc46
  ·
   simp at hc46
  have hsame:Xe (fun x=>x.ls.no) (fun x=>x.ls) 3 (Z9 (fun x=>x.ls.no) (fun x=>x.ls) 3 (xs.take k)) x=(Z9 (fun x=>x.ls.no) (fun x=>x.ls) 3 (xs.take k)):=zbq hget;refine Qp (Qi (Qc (Qh (zB<|zM (Qb ?_)))));exact Zk _ (Lw++[(r_20,Yw (.int .i64) L.encA (Z9 (fun x=>x.ls.no) (fun x=>x.ls) 3 (xs.take k)))]) ⟨n-(k+1),kB,k+1,_,_,_,rfl,rfl,rfl,by rw [Zj hx,hsame],kB,by rw [Zj hx,hsame];exact hO,by rw [Zj hx,hsame];exact hq⟩ (.cons rfl (.cons rfl (.cons rfl (.cons rfl (.cons rfl (.cons rfl (.cons rfl (.cons rfl (.cons rfl .nil))))))))) kC
 have hge_k:n≤k:=(by have h:=hc24;simp at h;omega);have hml:=V3 (num:=(fun x=>x.ls.no)) (prt:=(fun x=>x.ls)) (kind:=3) (xs:=xs);have hke:xs.take k=xs:=ZB hln hge_k;rw [hke] at hO hq ⊢;refine Q6 (Ql (Ql (Qq (Qc (zR (zM<|zpc [_] rfl zbJ QR (zjc 3 ((Z9 (fun x=>x.ls.no) (fun x=>x.ls) 3 xs).map (·.1)) (by rw [←K1];exact hO) kB _) ?_))))));rintro vv2 I2 L2 hI2 ⟨rfl,rfl,hO2⟩;have hIc:=hIc.trans hI2;rw [←K1] at hO2;refine zN (Qm (Qm<|zx4 hO2 YM (fun I3 hI3 af3 cf3 ef3 hNs=>?_)));subst ef3;have hIc:=hIc.trans hI3;obtain ⟨ns,hnsd⟩:∃ y,y=UO ((Z9 (fun x=>x.ls.no) (fun x=>x.ls) 3 xs).map (·.1)):=⟨_,rfl⟩;rw [←hnsd] at hNs;have hnl:=hNs.len;have hml:=V3 (num:=(fun x=>x.ls.no)) (prt:=(fun x=>x.ls)) (kind:=3) (xs:=xs);refine Qh (zM<|zQ Q4 ?_);refine zM (zN (Qr ?_));refine zU [(3,_),(9,_),(57,_),(58,_)] (fun T L0 mz E I' loc'=>∃ (j:Nat) (a9:Option Addr) (n9:Nat) (c9:Nat),mz=q-j∧E=(8,.slice a9 n9 c9)::(59,.int .i64 j)::T∧HLe I3 I'∧[(r_20,Yw (.int .i64) L.encA (Z9 (fun x=>x.ls.no) (fun x=>x.ls) 3 xs))]=loc'∧j≤q∧Sl I' 5 L.encL a9 n9 c9 (zgw L.chk L.zeroL (Z9 (fun x=>x.ls.no) (fun x=>x.ls) 3 xs) (ns.take j))∧n9≤j) ?_ (h:=⟨0,none,0,0,rfl,rfl,zCA _,rfl,Nat.zero_le _,Sl.nil,Nat.le_refl _⟩);rintro mz E J4 loc' ⟨j,a9,n9,c9,rfl,rfl,hJ,rfl,hj,hY,hn9⟩;have hNs:=hNs.mono hJ;have hIc:=hIc.trans hJ;have hB2:=hJ;refine zR (zC (zN (Qm ?_)));refine zI ?_ ?_<;>intro hc60
 ·
  have hlt_j:j<q:=(by have h:=hc60;simp at h;omega);obtain ⟨m9,hn⟩:∃ y,ns[j]? =some y:=⟨_,List.getElem?_eq_getElem kB⟩;refine Qp (Qc (Qm (Qr (zR<|zV (zX Q4 hNs)<|zV (Qd rfl Qn (fun hg=>by exact zCt hNs hn rfl))<|zA (zN ?_)))));refine zY [(3,_),(8,_),(9,_),(57,_),(58,_),(59,_)] (fun T L0 E I' loc'=>∃ (a2:Option Addr) (c2:Nat),E=(19,.slice a2 (n9+1) c2)::T∧HLe J4 I'∧[(r_20,Yw (.int .i64) L.encA (Z9 (fun x=>x.ls.no) (fun x=>x.ls) 3 xs))]=loc'∧Sl I' 5 L.encL a2 (n9+1) c2 ((zgw L.chk L.zeroL (Z9 (fun x=>x.ls.no) (fun x=>x.ls) 3 xs) (ns.take j))++[(ZD (Z9 (fun x=>x.ls.no) (fun x=>x.ls) 3 xs) m9).getD L.zeroL])) ?_ ?_
  ·
   have hKc16:=zCA J4;have hD:=zCA J4;refine Zm<|QI J4 [(r_20,Yw (.int .i64) L.encA (Z9 (fun x=>x.ls.no) (fun x=>x.ls) 3 xs))] mixed<|zT 0 rfl (Qe rfl) hD<|zT 2 rfl (Qe rfl) hD<|zT 3 rfl (Qe rfl) hD<|zT 4 rfl (Wr (ek:=Value.int .i64) (ev:=L.encA) L.zeroL zd9 Zc rfl rfl (fun _=>kS)) hD ?_
   obtain ⟨y,hydef⟩:∃ y,y=(ZD (Z9 (fun x=>x.ls.no) (fun x=>x.ls) 3 xs) m9).getD L.zeroL:=⟨_,rfl⟩;rw [←hydef];refine QS 1 5 rfl rfl kA ?_ ?_
   ·
    refine qcV (vs:=[_]) rfl zoj (zmR _ _ _ _ hY.cap)<|Qb<|zD hD<|qd 5 rfl<|zpb [(0,_)] [L.encL y] JB (fun b_68=>Qb<|zD hD<|qd 6 rfl<|QT (ys:=[y].flatMap L.encL) L.encL_len rfl rfl JB hY.cut ⟨rfl,fun _=>rfl,by repeat (first | exact zCy | apply zCx)⟩ kD kB rfl rfl ?_)
    intro v1 L1 hO1;rw [←List.flatMap_append] at hO1;refine zx7 hO1 L.encL_len (fun I5 hI5 af5 cf5 ef5 hZ=>?_);subst ef5;have hKc16:=hKc16.trans hI5;have hD:=hD.trans hI5;exact Qb<|zD hD<|zT 7 rfl (Qy rfl) hD<|Qo kA<|Qw<|zm (h:=⟨_,_,rfl,hKc16,rfl,by exact hZ⟩)
   refine zpb [(0,_)] [L.encL y] JB (fun b_68=>Qb<|zD hD<|qd 1 rfl<|qcV (vs:=[_]) rfl zoj (zmR _ _ _ _ hY.cap)<|Qb<|zD hD<|qd 6 rfl<|QT (ys:=[y].flatMap L.encL) L.encL_len rfl rfl JB hY.cut ⟨rfl,fun _=>rfl,by repeat (first | exact zCy | apply zCx)⟩ kD kB rfl rfl ?_);intro v1 L1 hO1;rw [←List.flatMap_append] at hO1;refine zx7 hO1 L.encL_len (fun I6 hI6 af6 cf6 ef6 hZ=>?_);subst ef6;have hKc16:=hKc16.trans hI6;have hD:=hD.trans hI6;exact Qb<|zD hD<|zT 7 rfl (Qy rfl) hD<|Qo kA<|Qw<|zm (h:=⟨_,_,rfl,hKc16,rfl,by exact hZ⟩)
  rintro E J7 loc' ⟨a2,c2,rfl,hJ16,rfl,hZ⟩;have hY:=hY.mono hJ16;have hB2:=hB2.trans hJ16;refine zR (zM ?_);refine zM ?_;refine qcV (vs:=[_]) rfl zsI (L.w_check hZ kB)<|zC (zN ?_)
  refine zI ?_ ?_<;>intro hc73
  ·
   refine Qh (zM<|zA (Qb (Qi (Qc (Qh<|zB<|zM (Qb ?_))))))
   first
   | exact zm (h:=⟨q-(j+1),kB,j+1,_,_,_,rfl,rfl,hB2,rfl,kB,by rw [J0 hn,zeV,if_pos hc73];exact hZ,kB⟩)
  refine Qp (Qi (Qc (Qh (zB<|zM (Qb ?_)))))
  first
  | exact zm (h:=⟨q-(j+1),kB,j+1,_,_,_,rfl,rfl,hB2,rfl,kB,by rw [J0 hn,zeV,if_neg (by rw [hc73];simp)];exact hY,kB⟩)
 have hge_j:q≤j:=(by have h:=hc60;simp at h;omega);have hke2:ns.take j=ns:=ZB hnl hge_j;rw [hke2] at hY;refine Q6 (Ql (Ql (Qq (Qc (zR (zM<|zA (zN (Qs ?_))))))));exact QA rfl rfl (fun w hw=>⟨_,J4,[],rfl,hIc,by exact hw.drop,rfl,_,_,_,rfl,by rw [zcY,←hnsd];exact hY⟩)
theorem zrm (hP:UV I av n c xs)(hn0:n≤4096):Y7 Tryz.prog 70 [.slice av n c,.int .i64 2,.func (.func 71) #[] #[],.func (.func 39) #[] #[]] I [] (fun v I' L'=>L'=[]∧∃ a n c,v= .slice a n c∧Sl I' 19 K2 a n c (zcY (fun x=>x.pt.id) (fun x=>x.pt) 2 WD Jq xs)):=by
 intro g H w hw;refine qe Tryz.func70 Tryz.ntmps70 hw ?_;have hIc:=zCA I;have hln:=hP.sl.len;refine zR (zA<|zN (zR<|Yf rfl rfl (fun r_20=>?_)));refine (show XO _ _ _ _ _ _ _ ((r_20,Yw (.int .i64) Ko ([]:List (Int×Pt)))::_) from ?_);refine zA<|zN (zR<|zA (zN (Qm (zR<|zM ?_))))
 refine zQ QZ ?_;refine zM (zN (Qr ?_));refine zU [(1,_),(2,_),(3,_),(8,_),(9,_),(21,_),(22,_)] (fun T L0 mz E I' loc'=>∃ (k:Nat) (v:Value) (q:Nat) (Lw:Go.Kn.Loc),mz=n-k∧E=(10,v)::(23,.int .i64 k)::T∧I=I'∧Lw++[(r_20,Yw (.int .i64) Ko (Z9 (fun x=>x.pt.id) (fun x=>x.pt) 2 (xs.take k)))]=loc'∧k≤n∧ZP 3 1 v q (((Z9 (fun x=>x.pt.id) (fun x=>x.pt) 2 (xs.take k)).map (·.1)).flatMap ZX) Lw∧q=(Z9 (fun x=>x.pt.id) (fun x=>x.pt) 2 (xs.take k)).length) ?_ (h:=⟨0,_,0,[],rfl,rfl,rfl,rfl,Nat.zero_le _,ZP.nil,rfl⟩);rintro mz E I' loc' ⟨k,v,q,Lw,rfl,rfl,rfl,rfl,hk,hO,hq⟩;refine zR (zC (zN (Qm ?_)));refine zI ?_ ?_<;>intro hc24
 ·
  have hlt_k:k<n:=(by have h:=hc24;simp at h;omega);obtain ⟨x,hx⟩:∃ y,xs[k]? =some y:=⟨_,List.getElem?_eq_getElem kB⟩;have hml:(Z9 (fun x=>x.pt.id) (fun x=>x.pt) 2 (xs.take k)).length≤k:=Nat.le_trans V3 (List.length_take_le ..);refine Qp (Qc (Qm (Qr (zR<|zV (QC rfl rfl QZ hP.sl (fun hg=>kB))<|zV (Qg rfl Q8 (fun hg=>by exact zCB hP.sl hx) rfl)<|Qt UW rfl rfl (fun b_12=>zh Vk<|zN (zR ?_))))));refine zM ?_;refine zV (Qg rfl Q8 (fun hg=>by exact Cells.g0) rfl)<|qcV (vs:=[_]) rfl zyJ (ztg _ x)<|zM ?_
  refine zE ?_;refine zE ?_;refine Qt zco rfl rfl (fun b_13=>zh UP<|zA (zN (Qm ?_)));rcases hget:ZD (Z9 (fun x=>x.pt.id) (fun x=>x.pt) 2 (xs.take k)) (x.pt.id) with _ | y0
  ·
   refine Qh (zM ?_);refine zM ?_;refine zV (Z1 (ek:=Value.int .i64) (ev:=Ko) zeN Zc rfl rfl (fun _=>kK)) ?_;rw [hget];refine zM ?_;refine zE ?_;refine zE ?_;refine Qt zco rfl rfl (fun b_15=>zh UP<|zA<|zN (zR ?_));refine zF YV ?_;refine zL Qn<|zM<|zC<|zM<|Qu 4 rfl rfl rfl ?_
   refine zK (Qe rfl)<|zK (Zy rfl)<|QD rfl rfl rfl rfl rfl<|zN ?_
   refine zI ?_ ?_<;>intro hc46
   ·
    have hkd:(x.kind==2)=true:=(by simpa using hc46);refine zR (zM ?_);refine zM ?_;refine zV (Qg rfl Y6 (fun hg=>by exact Cells.g1) rfl)<|zx9 (ek:=Value.int .i64) (ev:=Ko) (x.pt) zeN Zc<|zN (Qh (zM<|zM ?_))
    refine zpb [(0,_)] [ZX (x.pt.id)] Ve (fun b_52=>?_);refine zpa (_) ([x.pt.id].flatMap ZX) (Lw) rfl rfl Ve hO ⟨rfl,fun _=>rfl,by repeat (first | exact zCy | apply zCx | apply zCz)⟩ (zaY [x.pt.id]) ?_;intro v9 L9 hO9 _;rw [←List.flatMap_append] at hO9;refine zA (Qb (Qi (Qc (Qh<|zB<|zM (Qb ?_)))));exact Zk _ (L9++[(r_20,Yw (.int .i64) Ko (JI (Z9 (fun x=>x.pt.id) (fun x=>x.pt) 2 (xs.take k)) (x.pt.id) (x.pt)))]) ⟨n-(k+1),kB,k+1,_,_,_,rfl,rfl,rfl,by rw [Zj hx,za3 hget hkd],kB,by rw [Zj hx,JX hget hkd];exact hO9,by rw [Zj hx,←List.length_map (f:=fun p=>p.1),JX hget hkd,List.length_append,List.length_map];simp;omega⟩ (.cons rfl (.cons rfl (.cons rfl (.cons rfl (.cons rfl (.cons rfl (.cons rfl (.cons rfl (.cons rfl .nil))))))))) kC
   have hkd:(x.kind==2)=false:=(by simpa using hc46);have hsame:Xe (fun x=>x.pt.id) (fun x=>x.pt) 2 (Z9 (fun x=>x.pt.id) (fun x=>x.pt) 2 (xs.take k)) x=(Z9 (fun x=>x.pt.id) (fun x=>x.pt) 2 (xs.take k)):=zeI hkd;refine Qp (Qi (Qc (Qh (zB<|zM (Qb ?_)))));exact Zk _ (Lw++[(r_20,Yw (.int .i64) Ko (Z9 (fun x=>x.pt.id) (fun x=>x.pt) 2 (xs.take k)))]) ⟨n-(k+1),kB,k+1,_,_,_,rfl,rfl,rfl,by rw [Zj hx,hsame],kB,by rw [Zj hx,hsame];exact hO,by rw [Zj hx,hsame];exact hq⟩ (.cons rfl (.cons rfl (.cons rfl (.cons rfl (.cons rfl (.cons rfl (.cons rfl (.cons rfl (.cons rfl .nil))))))))) kC
  refine Qh (zM ?_);refine zM ?_;refine zV (Z1 (ek:=Value.int .i64) (ev:=Ko) zeN Zc rfl rfl (fun _=>kK)) ?_;rw [hget];refine zM ?_;refine zE ?_;refine zE ?_;refine Qt zco rfl rfl (fun b_15=>zh UP<|zA<|zN (zR ?_));refine zF YV ?_;refine zL Qn<|zM<|zC<|zM<|Qu 4 rfl rfl rfl ?_
  refine zK (Qe rfl)<|zK (Zy rfl)<|QD rfl rfl rfl rfl rfl<|zN ?_
  refine zI ?_ ?_<;>intro hc46
  ·
   simp at hc46
  have hsame:Xe (fun x=>x.pt.id) (fun x=>x.pt) 2 (Z9 (fun x=>x.pt.id) (fun x=>x.pt) 2 (xs.take k)) x=(Z9 (fun x=>x.pt.id) (fun x=>x.pt) 2 (xs.take k)):=zbq hget;refine Qp (Qi (Qc (Qh (zB<|zM (Qb ?_)))));exact Zk _ (Lw++[(r_20,Yw (.int .i64) Ko (Z9 (fun x=>x.pt.id) (fun x=>x.pt) 2 (xs.take k)))]) ⟨n-(k+1),kB,k+1,_,_,_,rfl,rfl,rfl,by rw [Zj hx,hsame],kB,by rw [Zj hx,hsame];exact hO,by rw [Zj hx,hsame];exact hq⟩ (.cons rfl (.cons rfl (.cons rfl (.cons rfl (.cons rfl (.cons rfl (.cons rfl (.cons rfl (.cons rfl .nil))))))))) kC
 have hge_k:n≤k:=(by have h:=hc24;simp at h;omega);have hml:=V3 (num:=(fun x=>x.pt.id)) (prt:=(fun x=>x.pt)) (kind:=2) (xs:=xs);have hke:xs.take k=xs:=ZB hln hge_k;rw [hke] at hO hq ⊢;refine Q6 (Ql (Ql (Qq (Qc (zR (zM<|zpc [_] rfl zbJ QR (zjc 3 ((Z9 (fun x=>x.pt.id) (fun x=>x.pt) 2 xs).map (·.1)) (by rw [←K1];exact hO) kB _) ?_))))));rintro vv2 I2 L2 hI2 ⟨rfl,rfl,hO2⟩;have hP:=hP.mono hI2;have hIc:=hIc.trans hI2;rw [←K1] at hO2;refine zN (Qm (Qm<|zx4 hO2 YM (fun I3 hI3 af3 cf3 ef3 hNs=>?_)));subst ef3;have hP:=hP.mono hI3;have hIc:=hIc.trans hI3;obtain ⟨ns,hnsd⟩:∃ y,y=UO ((Z9 (fun x=>x.pt.id) (fun x=>x.pt) 2 xs).map (·.1)):=⟨_,rfl⟩;rw [←hnsd] at hNs;have hnl:=hNs.len;have hml:=V3 (num:=(fun x=>x.pt.id)) (prt:=(fun x=>x.pt)) (kind:=2) (xs:=xs);refine Qh (zM<|zQ Q4 ?_);refine zM (zN (Qr ?_));refine zU [(3,_),(9,_),(57,_),(58,_)] (fun T L0 mz E I' loc'=>∃ (j:Nat) (a9:Option Addr) (n9:Nat) (c9:Nat),mz=q-j∧E=(8,.slice a9 n9 c9)::(59,.int .i64 j)::T∧HLe I3 I'∧[(r_20,Yw (.int .i64) Ko (Z9 (fun x=>x.pt.id) (fun x=>x.pt) 2 xs))]=loc'∧j≤q∧Sl I' 19 K2 a9 n9 c9 (zgw WD Jq (Z9 (fun x=>x.pt.id) (fun x=>x.pt) 2 xs) (ns.take j))∧n9≤j) ?_ (h:=⟨0,none,0,0,rfl,rfl,zCA _,rfl,Nat.zero_le _,Sl.nil,Nat.le_refl _⟩);rintro mz E J4 loc' ⟨j,a9,n9,c9,rfl,rfl,hJ,rfl,hj,hY,hn9⟩;have hP:=hP.mono hJ;have hNs:=hNs.mono hJ;have hIc:=hIc.trans hJ;have hB2:=hJ;refine zR (zC (zN (Qm ?_)));refine zI ?_ ?_<;>intro hc60
 ·
  have hlt_j:j<q:=(by have h:=hc60;simp at h;omega);obtain ⟨m9,hn⟩:∃ y,ns[j]? =some y:=⟨_,List.getElem?_eq_getElem kB⟩;refine Qp (Qc (Qm (Qr (zR<|zV (zX Q4 hNs)<|zV (Qd rfl Qn (fun hg=>by exact zCt hNs hn rfl))<|zA (zN ?_)))));refine zY [(3,_),(8,_),(9,_),(57,_),(58,_),(59,_)] (fun T L0 E I' loc'=>∃ (a2:Option Addr) (c2:Nat),E=(19,.slice a2 (n9+1) c2)::T∧HLe J4 I'∧[(r_20,Yw (.int .i64) Ko (Z9 (fun x=>x.pt.id) (fun x=>x.pt) 2 xs))]=loc'∧Sl I' 19 K2 a2 (n9+1) c2 ((zgw WD Jq (Z9 (fun x=>x.pt.id) (fun x=>x.pt) 2 xs) (ns.take j))++[(ZD (Z9 (fun x=>x.pt.id) (fun x=>x.pt) 2 xs) m9).getD Jq])) ?_ ?_
  ·
   have hKc16:=zCA J4;have hD:=zCA J4;refine Zm<|QI J4 [(r_20,Yw (.int .i64) Ko (Z9 (fun x=>x.pt.id) (fun x=>x.pt) 2 xs))] mixed<|zT 0 rfl (Qe rfl) hD<|zT 2 rfl (Qe rfl) hD<|zT 3 rfl (Qe rfl) hD<|zT 4 rfl (Wr (ek:=Value.int .i64) (ev:=Ko) Jq zeN Zc rfl rfl (fun _=>kS)) hD ?_
   obtain ⟨y,hydef⟩:∃ y,y=(ZD (Z9 (fun x=>x.pt.id) (fun x=>x.pt) 2 xs) m9).getD Jq:=⟨_,rfl⟩;rw [←hydef];refine QS 1 5 rfl rfl kA ?_ ?_
   ·
    refine qcV (vs:=[_]) rfl zkR (zlO _ _ _ _ hY.cap)<|Qb<|zD hD<|qd 5 rfl<|zpb [(0,_)] [K2 y] KO (fun b_68=>Qb<|zD hD<|qd 6 rfl<|QT (ys:=[y].flatMap K2) Ju rfl rfl KO hY.cut ⟨rfl,fun _=>rfl,by repeat (first | exact zCy | apply zCx)⟩ kD kB rfl rfl ?_)
    intro v1 L1 hO1;rw [←List.flatMap_append] at hO1;refine zx7 hO1 Ju (fun I5 hI5 af5 cf5 ef5 hZ=>?_);subst ef5;have hKc16:=hKc16.trans hI5;have hD:=hD.trans hI5;exact Qb<|zD hD<|zT 7 rfl (Qy rfl) hD<|Qo kA<|Qw<|zm (h:=⟨_,_,rfl,hKc16,rfl,by exact hZ⟩)
   refine zpb [(0,_)] [K2 y] KO (fun b_68=>Qb<|zD hD<|qd 1 rfl<|qcV (vs:=[_]) rfl zkR (zlO _ _ _ _ hY.cap)<|Qb<|zD hD<|qd 6 rfl<|QT (ys:=[y].flatMap K2) Ju rfl rfl KO hY.cut ⟨rfl,fun _=>rfl,by repeat (first | exact zCy | apply zCx)⟩ kD kB rfl rfl ?_);intro v1 L1 hO1;rw [←List.flatMap_append] at hO1;refine zx7 hO1 Ju (fun I6 hI6 af6 cf6 ef6 hZ=>?_);subst ef6;have hKc16:=hKc16.trans hI6;have hD:=hD.trans hI6;exact Qb<|zD hD<|zT 7 rfl (Qy rfl) hD<|Qo kA<|Qw<|zm (h:=⟨_,_,rfl,hKc16,rfl,by exact hZ⟩)
  rintro E J7 loc' ⟨a2,c2,rfl,hJ16,rfl,hZ⟩;have hP:=hP.mono hJ16;have hY:=hY.mono hJ16;have hB2:=hB2.trans hJ16;refine Qm ?_;have hNd9:∀ u∈(zgw WD Jq (Z9 (fun x=>x.pt.id) (fun x=>x.pt) 2 xs) (ns.take j))++[(ZD (Z9 (fun x=>x.pt.id) (fun x=>x.pt) 2 xs) m9).getD Jq],Nd J7 u:=fun u hu=>(show u=Jq∨∃ w∈xs,u=w.pt from (List.mem_append.1 hu).elim (fun h=>zdT u h) (fun h=>by rw [List.mem_singleton.1 h];exact zno)).elim (fun h=>by rw [h];exact Sl.nil) (fun ⟨w,hw2,h⟩=>by rw [h];exact hP.nd w hw2);refine Qh (zM ?_);refine zM ?_;refine qcV (vs:=[_]) rfl zxg (zyo ⟨hZ,hNd9⟩ kB)<|zC (zN ?_)
  refine zI ?_ ?_<;>intro hc73
  ·
   refine Qh (zM<|zA (Qb (Qi (Qc (Qh<|zB<|zM (Qb ?_))))))
   first
   | exact zm (h:=⟨q-(j+1),kB,j+1,_,_,_,rfl,rfl,hB2,rfl,kB,by rw [J0 hn,zeV,if_pos hc73];exact hZ,kB⟩)
  refine Qp (Qi (Qc (Qh (zB<|zM (Qb ?_)))))
  first
  | exact zm (h:=⟨q-(j+1),kB,j+1,_,_,_,rfl,rfl,hB2,rfl,kB,by rw [J0 hn,zeV,if_neg (by rw [hc73];simp)];exact hY,kB⟩)
 have hge_j:q≤j:=(by have h:=hc60;simp at h;omega);have hke2:ns.take j=ns:=ZB hnl hge_j;rw [hke2] at hY;refine Q6 (Ql (Ql (Qq (Qc (zR (zM<|zA (zN (Qs ?_))))))));exact QA rfl rfl (fun w hw=>⟨_,J4,[],rfl,hIc,by exact hw.drop,rfl,_,_,_,rfl,by rw [zcY,←hnsd];exact hY⟩)
theorem zro (hP:UV I av n c xs)(hn0:n≤4096):Y7 Tryz.prog 72 [.slice av n c,.int .i64 4,.func (.func 73) #[] #[],.func (.func 40) #[] #[]] I [] (fun v I' L'=>L'=[]∧∃ a n c,v= .slice a n c∧Sl I' 11 S.encR a n c (zcY (fun x=>x.rt.no) (fun x=>x.rt) 4 S.rCheck S.zeroR xs)):=by
 intro g H w hw;refine qe Tryz.func72 Tryz.ntmps72 hw ?_;have hIc:=zCA I;have hln:=hP.sl.len;refine zR (zA<|zN (zR<|Yf rfl rfl (fun r_20=>?_)));refine (show XO _ _ _ _ _ _ _ ((r_20,Yw (.int .i64) S.encA ([]:List (Int×S.Rt)))::_) from ?_);refine zA<|zN (zR<|zA (zN (Qm (zR<|zM ?_))))
 refine zQ QZ ?_;refine zM (zN (Qr ?_));refine zU [(1,_),(2,_),(3,_),(8,_),(9,_),(21,_),(22,_)] (fun T L0 mz E I' loc'=>∃ (k:Nat) (v:Value) (q:Nat) (Lw:Go.Kn.Loc),mz=n-k∧E=(10,v)::(23,.int .i64 k)::T∧I=I'∧Lw++[(r_20,Yw (.int .i64) S.encA (Z9 (fun x=>x.rt.no) (fun x=>x.rt) 4 (xs.take k)))]=loc'∧k≤n∧ZP 3 1 v q (((Z9 (fun x=>x.rt.no) (fun x=>x.rt) 4 (xs.take k)).map (·.1)).flatMap ZX) Lw∧q=(Z9 (fun x=>x.rt.no) (fun x=>x.rt) 4 (xs.take k)).length) ?_ (h:=⟨0,_,0,[],rfl,rfl,rfl,rfl,Nat.zero_le _,ZP.nil,rfl⟩);rintro mz E I' loc' ⟨k,v,q,Lw,rfl,rfl,rfl,rfl,hk,hO,hq⟩;refine zR (zC (zN (Qm ?_)));refine zI ?_ ?_<;>intro hc24
 ·
  have hlt_k:k<n:=(by have h:=hc24;simp at h;omega);obtain ⟨x,hx⟩:∃ y,xs[k]? =some y:=⟨_,List.getElem?_eq_getElem kB⟩;have hml:(Z9 (fun x=>x.rt.no) (fun x=>x.rt) 4 (xs.take k)).length≤k:=Nat.le_trans V3 (List.length_take_le ..);refine Qp (Qc (Qm (Qr (zR<|zV (QC rfl rfl QZ hP.sl (fun hg=>kB))<|zV (Qg rfl Q8 (fun hg=>by exact zCB hP.sl hx) rfl)<|Qt UW rfl rfl (fun b_12=>zh Vk<|zN (zR ?_))))));refine zM ?_;refine zV (Qg rfl Q8 (fun hg=>by exact Cells.g0) rfl)<|qcV (vs:=[_]) rfl zyP (zvk _ x)<|zM ?_
  refine zE ?_;refine zE ?_;refine Qt za2 rfl rfl (fun b_13=>zh Uo<|zA (zN (Qm ?_)));rcases hget:ZD (Z9 (fun x=>x.rt.no) (fun x=>x.rt) 4 (xs.take k)) (x.rt.no) with _ | y0
  ·
   refine Qh (zM ?_);refine zM ?_;refine zV (Z1 (ek:=Value.int .i64) (ev:=S.encA) Wb Zc rfl rfl (fun _=>kK)) ?_;rw [hget];refine zM ?_;refine zE ?_;refine zE ?_;refine Qt za2 rfl rfl (fun b_15=>zh Uo<|zA<|zN (zR ?_));refine zF YV ?_;refine zL Qn<|zM<|zC<|zM<|Qu 4 rfl rfl rfl ?_
   refine zK (Qe rfl)<|zK (Zy rfl)<|QD rfl rfl rfl rfl rfl<|zN ?_
   refine zI ?_ ?_<;>intro hc46
   ·
    have hkd:(x.kind==4)=true:=(by simpa using hc46);refine zR (zM ?_);refine zM ?_;refine zV (Qg rfl YE (fun hg=>by exact Cells.g1) rfl)<|zx9 (ek:=Value.int .i64) (ev:=S.encA) (x.rt) Wb Zc<|zN (Qh (zM<|zM ?_))
    refine zpb [(0,_)] [ZX (x.rt.no)] Ve (fun b_52=>?_);refine zpa (_) ([x.rt.no].flatMap ZX) (Lw) rfl rfl Ve hO ⟨rfl,fun _=>rfl,by repeat (first | exact zCy | apply zCx | apply zCz)⟩ (zaY [x.rt.no]) ?_;intro v9 L9 hO9 _;rw [←List.flatMap_append] at hO9;refine zA (Qb (Qi (Qc (Qh<|zB<|zM (Qb ?_)))));exact Zk _ (L9++[(r_20,Yw (.int .i64) S.encA (JI (Z9 (fun x=>x.rt.no) (fun x=>x.rt) 4 (xs.take k)) (x.rt.no) (x.rt)))]) ⟨n-(k+1),kB,k+1,_,_,_,rfl,rfl,rfl,by rw [Zj hx,za3 hget hkd],kB,by rw [Zj hx,JX hget hkd];exact hO9,by rw [Zj hx,←List.length_map (f:=fun p=>p.1),JX hget hkd,List.length_append,List.length_map];simp;omega⟩ (.cons rfl (.cons rfl (.cons rfl (.cons rfl (.cons rfl (.cons rfl (.cons rfl (.cons rfl (.cons rfl .nil))))))))) kC
   have hkd:(x.kind==4)=false:=(by simpa using hc46);have hsame:Xe (fun x=>x.rt.no) (fun x=>x.rt) 4 (Z9 (fun x=>x.rt.no) (fun x=>x.rt) 4 (xs.take k)) x=(Z9 (fun x=>x.rt.no) (fun x=>x.rt) 4 (xs.take k)):=zeI hkd;refine Qp (Qi (Qc (Qh (zB<|zM (Qb ?_)))));exact Zk _ (Lw++[(r_20,Yw (.int .i64) S.encA (Z9 (fun x=>x.rt.no) (fun x=>x.rt) 4 (xs.take k)))]) ⟨n-(k+1),kB,k+1,_,_,_,rfl,rfl,rfl,by rw [Zj hx,hsame],kB,by rw [Zj hx,hsame];exact hO,by rw [Zj hx,hsame];exact hq⟩ (.cons rfl (.cons rfl (.cons rfl (.cons rfl (.cons rfl (.cons rfl (.cons rfl (.cons rfl (.cons rfl .nil))))))))) kC
  refine Qh (zM ?_);refine zM ?_;refine zV (Z1 (ek:=Value.int .i64) (ev:=S.encA) Wb Zc rfl rfl (fun _=>kK)) ?_;rw [hget];refine zM ?_;refine zE ?_;refine zE ?_;refine Qt za2 rfl rfl (fun b_15=>zh Uo<|zA<|zN (zR ?_));refine zF YV ?_;refine zL Qn<|zM<|zC<|zM<|Qu 4 rfl rfl rfl ?_
  refine zK (Qe rfl)<|zK (Zy rfl)<|QD rfl rfl rfl rfl rfl<|zN ?_
  refine zI ?_ ?_<;>intro hc46
  ·
   simp at hc46
  have hsame:Xe (fun x=>x.rt.no) (fun x=>x.rt) 4 (Z9 (fun x=>x.rt.no) (fun x=>x.rt) 4 (xs.take k)) x=(Z9 (fun x=>x.rt.no) (fun x=>x.rt) 4 (xs.take k)):=zbq hget;refine Qp (Qi (Qc (Qh (zB<|zM (Qb ?_)))));exact Zk _ (Lw++[(r_20,Yw (.int .i64) S.encA (Z9 (fun x=>x.rt.no) (fun x=>x.rt) 4 (xs.take k)))]) ⟨n-(k+1),kB,k+1,_,_,_,rfl,rfl,rfl,by rw [Zj hx,hsame],kB,by rw [Zj hx,hsame];exact hO,by rw [Zj hx,hsame];exact hq⟩ (.cons rfl (.cons rfl (.cons rfl (.cons rfl (.cons rfl (.cons rfl (.cons rfl (.cons rfl (.cons rfl .nil))))))))) kC
 have hge_k:n≤k:=(by have h:=hc24;simp at h;omega);have hml:=V3 (num:=(fun x=>x.rt.no)) (prt:=(fun x=>x.rt)) (kind:=4) (xs:=xs);have hke:xs.take k=xs:=ZB hln hge_k;rw [hke] at hO hq ⊢;refine Q6 (Ql (Ql (Qq (Qc (zR (zM<|zpc [_] rfl zbJ QR (zjc 3 ((Z9 (fun x=>x.rt.no) (fun x=>x.rt) 4 xs).map (·.1)) (by rw [←K1];exact hO) kB _) ?_))))));rintro vv2 I2 L2 hI2 ⟨rfl,rfl,hO2⟩;have hIc:=hIc.trans hI2;rw [←K1] at hO2;refine zN (Qm (Qm<|zx4 hO2 YM (fun I3 hI3 af3 cf3 ef3 hNs=>?_)));subst ef3;have hIc:=hIc.trans hI3;obtain ⟨ns,hnsd⟩:∃ y,y=UO ((Z9 (fun x=>x.rt.no) (fun x=>x.rt) 4 xs).map (·.1)):=⟨_,rfl⟩;rw [←hnsd] at hNs;have hnl:=hNs.len;have hml:=V3 (num:=(fun x=>x.rt.no)) (prt:=(fun x=>x.rt)) (kind:=4) (xs:=xs);refine Qh (zM<|zQ Q4 ?_);refine zM (zN (Qr ?_));refine zU [(3,_),(9,_),(57,_),(58,_)] (fun T L0 mz E I' loc'=>∃ (j:Nat) (a9:Option Addr) (n9:Nat) (c9:Nat),mz=q-j∧E=(8,.slice a9 n9 c9)::(59,.int .i64 j)::T∧HLe I3 I'∧[(r_20,Yw (.int .i64) S.encA (Z9 (fun x=>x.rt.no) (fun x=>x.rt) 4 xs))]=loc'∧j≤q∧Sl I' 11 S.encR a9 n9 c9 (zgw S.rCheck S.zeroR (Z9 (fun x=>x.rt.no) (fun x=>x.rt) 4 xs) (ns.take j))∧n9≤j) ?_ (h:=⟨0,none,0,0,rfl,rfl,zCA _,rfl,Nat.zero_le _,Sl.nil,Nat.le_refl _⟩);rintro mz E J4 loc' ⟨j,a9,n9,c9,rfl,rfl,hJ,rfl,hj,hY,hn9⟩;have hNs:=hNs.mono hJ;have hIc:=hIc.trans hJ;have hB2:=hJ;refine zR (zC (zN (Qm ?_)));refine zI ?_ ?_<;>intro hc60
 ·
  have hlt_j:j<q:=(by have h:=hc60;simp at h;omega);obtain ⟨m9,hn⟩:∃ y,ns[j]? =some y:=⟨_,List.getElem?_eq_getElem kB⟩;refine Qp (Qc (Qm (Qr (zR<|zV (zX Q4 hNs)<|zV (Qd rfl Qn (fun hg=>by exact zCt hNs hn rfl))<|zA (zN ?_)))));refine zY [(3,_),(8,_),(9,_),(57,_),(58,_),(59,_)] (fun T L0 E I' loc'=>∃ (a2:Option Addr) (c2:Nat),E=(19,.slice a2 (n9+1) c2)::T∧HLe J4 I'∧[(r_20,Yw (.int .i64) S.encA (Z9 (fun x=>x.rt.no) (fun x=>x.rt) 4 xs))]=loc'∧Sl I' 11 S.encR a2 (n9+1) c2 ((zgw S.rCheck S.zeroR (Z9 (fun x=>x.rt.no) (fun x=>x.rt) 4 xs) (ns.take j))++[(ZD (Z9 (fun x=>x.rt.no) (fun x=>x.rt) 4 xs) m9).getD S.zeroR])) ?_ ?_
  ·
   have hKc16:=zCA J4;have hD:=zCA J4;refine Zm<|QI J4 [(r_20,Yw (.int .i64) S.encA (Z9 (fun x=>x.rt.no) (fun x=>x.rt) 4 xs))] mixed<|zT 0 rfl (Qe rfl) hD<|zT 2 rfl (Qe rfl) hD<|zT 3 rfl (Qe rfl) hD<|zT 4 rfl (Wr (ek:=Value.int .i64) (ev:=S.encA) S.zeroR Wb Zc rfl rfl (fun _=>kS)) hD ?_
   obtain ⟨y,hydef⟩:∃ y,y=(ZD (Z9 (fun x=>x.rt.no) (fun x=>x.rt) 4 xs) m9).getD S.zeroR:=⟨_,rfl⟩;rw [←hydef];refine QS 1 5 rfl rfl kA ?_ ?_
   ·
    refine qcV (vs:=[_]) rfl zmJ (zme _ _ _ _ hY.cap)<|Qb<|zD hD<|qd 5 rfl<|zpb [(0,_)] [S.encR y] VM (fun b_68=>Qb<|zD hD<|qd 6 rfl<|QT (ys:=[y].flatMap S.encR) S.encR_len rfl rfl VM hY.cut ⟨rfl,fun _=>rfl,by repeat (first | exact zCy | apply zCx)⟩ kD kB rfl rfl ?_)
    intro v1 L1 hO1;rw [←List.flatMap_append] at hO1;refine zx7 hO1 S.encR_len (fun I5 hI5 af5 cf5 ef5 hZ=>?_);subst ef5;have hKc16:=hKc16.trans hI5;have hD:=hD.trans hI5;exact Qb<|zD hD<|zT 7 rfl (Qy rfl) hD<|Qo kA<|Qw<|zm (h:=⟨_,_,rfl,hKc16,rfl,by exact hZ⟩)
   refine zpb [(0,_)] [S.encR y] VM (fun b_68=>Qb<|zD hD<|qd 1 rfl<|qcV (vs:=[_]) rfl zmJ (zme _ _ _ _ hY.cap)<|Qb<|zD hD<|qd 6 rfl<|QT (ys:=[y].flatMap S.encR) S.encR_len rfl rfl VM hY.cut ⟨rfl,fun _=>rfl,by repeat (first | exact zCy | apply zCx)⟩ kD kB rfl rfl ?_);intro v1 L1 hO1;rw [←List.flatMap_append] at hO1;refine zx7 hO1 S.encR_len (fun I6 hI6 af6 cf6 ef6 hZ=>?_);subst ef6;have hKc16:=hKc16.trans hI6;have hD:=hD.trans hI6;exact Qb<|zD hD<|zT 7 rfl (Qy rfl) hD<|Qo kA<|Qw<|zm (h:=⟨_,_,rfl,hKc16,rfl,by exact hZ⟩)
  rintro E J7 loc' ⟨a2,c2,rfl,hJ16,rfl,hZ⟩;have hY:=hY.mono hJ16;have hB2:=hB2.trans hJ16;refine zR (zM ?_);refine zM ?_;refine qcV (vs:=[_]) rfl zm5 (S.w_check hZ kB)<|zC (zN ?_)
  refine zI ?_ ?_<;>intro hc73
  ·
   refine Qh (zM<|zA (Qb (Qi (Qc (Qh<|zB<|zM (Qb ?_))))))
   first
   | exact zm (h:=⟨q-(j+1),kB,j+1,_,_,_,rfl,rfl,hB2,rfl,kB,by rw [J0 hn,zeV,if_pos hc73];exact hZ,kB⟩)
  refine Qp (Qi (Qc (Qh (zB<|zM (Qb ?_)))))
  first
  | exact zm (h:=⟨q-(j+1),kB,j+1,_,_,_,rfl,rfl,hB2,rfl,kB,by rw [J0 hn,zeV,if_neg (by rw [hc73];simp)];exact hY,kB⟩)
 have hge_j:q≤j:=(by have h:=hc60;simp at h;omega);have hke2:ns.take j=ns:=ZB hnl hge_j;rw [hke2] at hY;refine Q6 (Ql (Ql (Qq (Qc (zR (zM<|zA (zN (Qs ?_))))))));exact QA rfl rfl (fun w hw=>⟨_,J4,[],rfl,hIc,by exact hw.drop,rfl,_,_,_,rfl,by rw [zcY,←hnsd];exact hY⟩)
end
end Go.Proofs.YtjblkbkmblkgoaaGreat
section
namespace Go.Kn
open Go
section
variable {P:Program} {fn:Func} {R:Ending→World→Prop} {N:Nat} {g:World} {I H:Qv} {loc:Loc} {E:Env} {r:Option Nat}
theorem zeB {t1 t2 t3 t4 t5:Nat}{v1 v2 v3 v4 v5:Value}(hr:fn.results= #[.tmp t1,.tmp t2,.tmp t3,.tmp t4,.tmp t5])(h1:VN E t1=some v1)(h2:VN E t2=some v2)(h3:VN E t3=some v3)(h4:VN E t4=some v4)(h5:VN E t5=some v5)
  (h:∀ w,St g I H loc w→R (.returned (.tuple #[v1,v2,v3,v4,v5])) w):At ⟨P,r,N,[],g,H⟩ (bodyPost P fn R) .ret E I loc:=fun a w ha hw=>by
 have e1:=ha.env _ _ h1;have e2:=ha.env _ _ h2;have e3:=ha.env _ _ h3;have e4:=ha.env _ _ h4;have e5:=ha.env _ _ h5;rw [Array.getD_eq_getD_getElem?] at e1 e2 e3 e4 e5;exact ⟨ha.defers,.tuple #[v1,v2,v3,v4,v5],by simp only [results,hr];simp [List.mapM_cons,e1,e2,e3,e4,e5],h w hw⟩
end
end Go.Kn
namespace Go.Proofs.YtjblkbkmblkgoaaGreat
open Go Go.Kn Go.Proofs
def wLm (xs:List Nt):List Lm:=zcY (fun x=>x.lm.no) (fun x=>x.lm) 1 za0 VP xs
def wLs (xs:List Nt):List L.Ls:=zcY (fun x=>x.ls.no) (fun x=>x.ls) 3 L.chk L.zeroL xs
def wPt (xs:List Nt):List Pt:=zcY (fun x=>x.pt.id) (fun x=>x.pt) 2 WD Jq xs
def wRt (xs:List Nt):List S.Rt:=zcY (fun x=>x.rt.no) (fun x=>x.rt) 4 S.rCheck S.zeroR xs
theorem zss {I:Qv}{xs:List Nt}(h:∀ x∈xs,Nd I x.pt):∀ p∈wPt xs,Nd I p:=fun p hp=>by
 rcases zdT p hp with rfl | ⟨x,hx,rfl⟩
 ·
  exact Sl.nil
 ·
  exact h x hx
def zAk (xs:List Nt)(v:Value)(I':Qv)(L':Go.Kn.Loc):Prop:=L'=[]∧
  ((ZQ xs=true∧∃ a1 n1 c1 a2 n2 c2 a3 n3 c3 a4 n4 c4,v= .tuple #[.slice a1 n1 c1,.slice a2 n2 c2,.slice a3 n3 c3,.slice a4 n4 c4,.int .i64 0]∧Sl I' 9 Zi a1 n1 c1 (wLm xs)∧Sl I' 5 L.encL a2 n2 c2 (wLs xs)∧SlP I' a3 n3 c3 (wPt xs)∧Sl I' 11 S.encR a4 n4 c4 (wRt xs))∨
   (ZQ xs=false∧v= .tuple #[.slice none 0 0,.slice none 0 0,.slice none 0 0,.slice none 0 0,.int .i64 570]))
structure Hy where
 a:Option Addr
 n:Nat
 c:Nat
 bytes:List Nat
def WG (x:Hy):List Value:=[.slice x.a x.n x.c]
theorem KS (x:Hy):(WG x).length=1:=rfl
theorem zhP (xs:List Hy):YF (xs.flatMap WG)=true:=Z8 (fun _=>rfl) xs
structure HyM (I:Qv)(x:Hy):Prop where
 sl:Sl I 1 VT x.a x.n x.c x.bytes
 byte:∀ b∈x.bytes,b<256
theorem HyM.mono {I I':Qv}{x:Hy}(h:HyM I x)(hI:HLe I I'):HyM I' x:=⟨h.sl.mono hI,h.byte⟩
structure zj9 (I:Qv)(av:Option Addr)(n c:Nat)(rs:List Hy):Prop where
 sl:Sl I 1 WG av n c rs
 m:∀ r∈rs,HyM I r
theorem zj9.mono {I I':Qv}{av:Option Addr}{n c:Nat}{rs:List Hy}(h:zj9 I av n c rs)(hI:HLe I I'):zj9 I' av n c rs:=⟨h.sl.mono hI,fun r hr=>(h.m r hr).mono hI⟩
structure zkl (I:Qv)(rs:List Hy)(B:List (List Nat)):Prop where
 m:∀ r∈rs,HyM I r
 b:rs.map (·.bytes)=B
theorem zkl.mono {I I':Qv}{rs:List Hy}{B:List (List Nat)}(h:zkl I rs B)(hI:HLe I I'):zkl I' rs B:=⟨fun r hr=>(h.m r hr).mono hI,h.b⟩
theorem zkl.nil {I:Qv}:zkl I [] []:=⟨fun _ h=>(by cases h),rfl⟩
theorem zkl.snoc {I:Qv}{rs:List Hy}{B:List (List Nat)}(h:zkl I rs B){x:Hy}(hx:HyM I x):zkl I (rs++[x]) (B++[x.bytes]):=
 ⟨fun r hr=>(List.mem_append.1 hr).elim (h.m r) (fun e=>by rw [List.mem_singleton.1 e];exact hx),by rw [List.map_append,h.b];rfl⟩
theorem zyD {I:Qv}{t:Nt}{b c:Nat}(hok:Va.ok (KU t))(hS:Sl I 1 VT (some ⟨b,0,none⟩) (zaX t).size c (Ug (zaX t))):HyM I ⟨some ⟨b,0,none⟩,(zaX t).size,c,Jw t⟩:=by
 have e:Ug (zaX t)=Jw t:=Je (K5 _ hok);rw [e] at hS;exact ⟨hS,K5 _ hok⟩
def zAn (xs:List Nt)(v:Value)(I':Qv)(L':Go.Kn.Loc):Prop:=L'=[]∧
 ((ZQ xs=true∧∃ a n c rs,v= .tuple #[.slice a n c,.int .i64 0]∧zj9 I' a n c rs∧rs.map (·.bytes)=xs.map Jw)∨(ZQ xs=false∧v= .tuple #[.slice none 0 0,.int .i64 570]))
end Go.Proofs.YtjblkbkmblkgoaaGreat
end
namespace Go.Proofs.YtjblkbkmblkgoaaGreat
section
open Go Go.Kn Go.Proofs
theorem Xv:ElT Tryz.prog 60 80 1 24:=.of kA
theorem zxn:Fun Tryz.prog 66:=.of Tryz.func66 kA kA
theorem zyS:Fun Tryz.prog 68:=.of Tryz.func68 kA kA
theorem zz9:Fun Tryz.prog 70:=.of Tryz.func70 kA kA
theorem zAd:Fun Tryz.prog 72:=.of Tryz.func72 kA kA
variable{I:Qv}{av:Option Addr}{n c:Nat}{xs:List Nt}
theorem zhN (hP:UV I av n c xs)(hn:n≤100000):Y7 Tryz.prog 20 [.agg #[.slice av n c]] I [] (zAk xs):=by
 intro g H w hw;refine qe Tryz.func20 Tryz.ntmps20 hw ?_;have hIc:=zCA I;have hln:=hP.sl.len;refine zR<|QQ rfl rfl rfl (fun b_1=>zA<|zA<|zA<|zA<|zA (Qb<|QH .here (fun I1 hI1 hb1=>?_)))
 have hP:=hP.mono hI1;have hIc:=hIc.trans hI1;have h1:=BxI.of hb1;refine Qc (Qm (zR<|zV (Qg rfl Vj (fun hg=>by exact BxI.cells (vs:=[_]) h1) rfl)<|qcV (vs:=[_]) rfl zot (zhC hP hn)<|zO (zN ?_)));refine zI ?_ ?_<;>intro hc9
 ·
  have hvf:ZQ xs=false:=(by simpa using hc9);exact zR (zA<|zA<|zA<|zA<|zA (zN (Qs (Qf<|zeB rfl rfl rfl rfl rfl rfl (fun w hw=>⟨_,I1,[],rfl,hIc,hw.subL Qx,rfl,.inr ⟨hvf,rfl⟩⟩)))))
 have hvf:ZQ xs=true:=(by simpa using hc9);have hn4:n≤4096:=(by have h:=(Kf hvf).2.2;omega);refine Qp (Qc (zR<|zF Zx ?_));refine zV (Qd rfl YD (fun hg=>by exact Qz.imm h1.out rfl))<|zpc [_,_,_,_] rfl zxn .nil (zrv hP hn4) ?_
 rintro vv2 I2 L2 hI2 ⟨rfl,a1,n1,c1,rfl,hS1⟩;have hP:=hP.mono hI2;have h1:=h1.mono hI2;have hIc:=hIc.trans hI2;refine zA<|zN (zR ?_)
 refine zF Zx ?_;refine zV (Qd rfl YD (fun hg=>by exact Qz.imm h1.out rfl))<|zpc [_,_,_,_] rfl zyS .nil (zq9 hP hn4) ?_
 rintro vv3 I3 L3 hI3 ⟨rfl,a2,n2,c2,rfl,hS2⟩;have hP:=hP.mono hI3;have h1:=h1.mono hI3;have hS1:=hS1.mono hI3;have hIc:=hIc.trans hI3;refine zA<|zN (zR ?_)
 refine zF Zx ?_;refine zV (Qd rfl YD (fun hg=>by exact Qz.imm h1.out rfl))<|zpc [_,_,_,_] rfl zz9 .nil (zrm hP hn4) ?_
 rintro vv4 I4 L4 hI4 ⟨rfl,a3,n3,c3,rfl,hS3⟩;have hP:=hP.mono hI4;have h1:=h1.mono hI4;have hS1:=hS1.mono hI4;have hS2:=hS2.mono hI4;have hIc:=hIc.trans hI4;refine zA<|zN (zR ?_)
 refine zF Zx ?_;refine zV (Qd rfl YD (fun hg=>by exact Qz.imm h1.out rfl))<|zpc [_,_,_,_] rfl zAd .nil (zro hP hn4) ?_
 rintro vv5 I5 L5 hI5 ⟨rfl,a4,n4,c4,rfl,hS4⟩;have hP:=hP.mono hI5;have hS1:=hS1.mono hI5;have hS2:=hS2.mono hI5;have hS3:=hS3.mono hI5;have hIc:=hIc.trans hI5;refine zA<|zN (zR ?_)
 refine zM ?_;refine zM ?_;refine zM ?_;exact zM<|zA<|zA<|zA<|zA<|zA (zN (Qs<|zeB rfl rfl rfl rfl rfl rfl (fun w hw=>⟨_,I5,[],rfl,hIc,hw.subL Qx,rfl,.inl ⟨hvf,_,_,_,_,_,_,_,_,_,_,_,_,rfl,hS1,hS2,⟨hS3,zss hP.nd⟩,hS4⟩⟩)))
theorem zfx (hP:UV I av n c xs)(hn:n≤100000):Y7 Tryz.prog 22 [.agg #[.slice av n c]] I [] (zAn xs):=by
 intro g H w hw;refine qe Tryz.func22 Tryz.ntmps22 hw ?_;have hIc:=zCA I;have hln:=hP.sl.len;refine zR<|QQ rfl rfl rfl (fun b_1=>zA<|zA (Qb<|QH .here (fun I1 hI1 hb1=>?_)))
 have hP:=hP.mono hI1;have hIc:=hIc.trans hI1;have h1:=BxI.of hb1;refine Qc (Qm (zR<|zV (Qg rfl Vj (fun hg=>by exact BxI.cells (vs:=[_]) h1) rfl)<|qcV (vs:=[_]) rfl zot (zhC hP hn)<|zO (zN ?_)));refine zI ?_ ?_<;>intro hc8
 ·
  have hvf:ZQ xs=false:=(by simpa using hc8);exact zR (zA<|zA (zN (Qs (Qf<|Y2 rfl rfl rfl (fun w hw=>⟨_,I1,[],rfl,hIc,hw.subL Qx,rfl,.inr ⟨hvf,rfl⟩⟩)))))
 have hvf:ZQ xs=true:=(by simpa using hc8);have hvs:=Kf hvf;refine Qp (Qc (Qm (zR<|zF Zx ?_)));refine zV (Qd rfl YD (fun hg=>by exact Qz.imm h1.out rfl))<|zQ QZ ?_
 refine zM (zN (Qr ?_));refine zU [(10,_),(11,_)] (fun T L0 mz E I' loc'=>∃ (k:Nat) (v:Value) (L:Go.Kn.Loc) (rs:List Hy),mz=n-k∧E=(2,v)::(12,.int .i64 k)::T∧HLe I1 I'∧L=loc'∧k≤n∧ZP 80 1 v k (rs.flatMap WG) L∧zkl I' rs ((xs.take k).map Jw)) ?_ (h:=⟨0,_,[],[],rfl,rfl,zCA _,rfl,Nat.zero_le _,ZP.nil,zkl.nil⟩);rintro mz E J2 loc' ⟨k,v,L,rs,rfl,rfl,hJ,rfl,hk,hO,hRK⟩;have hP:=hP.mono hJ;have hIc:=hIc.trans hJ;have hB0:=hJ;refine zR (zC (zN (Qm ?_)));refine zI ?_ ?_<;>intro hc13
 ·
  have hlt_k:k<n:=(by have h:=hc13;simp at h;omega);obtain ⟨x,hx⟩:∃ y,xs[k]? =some y:=⟨_,List.getElem?_eq_getElem kB⟩;have hxm:=List.mem_of_getElem? hx;have hM:=hP.m x hxm (hvs.2.1 x hxm);refine Qp (Qc (Qm (Qr (zR<|zV (QC rfl rfl QZ hP.sl (fun hg=>kB))<|zV (Qg rfl Q8 (fun hg=>by exact zCB hP.sl hx) rfl)<|Qt UW rfl rfl (fun b_5=>?_)))));refine zh Vk ?_;refine zN (Qh (zM ?_));refine zV (Qg rfl Q8 (fun hg=>by exact Cells.g0) rfl) ?_;refine qcV (vs:=[_]) rfl zfc (zoC x hM.nd hM.nn hM.ok hM.len) ?_;refine Xi (s:=zaX x) rfl znd rfl rfl (fun b9 c9 I3 hI3 hB=>?_);have hRK:=hRK.mono hI3;have hB0:=hB0.trans hI3;refine zpb [(0,_)] [WG ⟨some ⟨b9,0,none⟩,(zaX x).size,c9,Jw x⟩] Xv (fun b_20=>?_);refine zpa (_) ([(⟨some ⟨b9,0,none⟩,(zaX x).size,c9,Jw x⟩:Hy)].flatMap WG) (L) rfl rfl Xv hO ⟨rfl,fun _=>rfl,by repeat (first | exact zCy | apply zCx | apply zCz)⟩ (zhP _) ?_;intro v9 L9 hO9 _;rw [←List.flatMap_append] at hO9;refine zA (Qb (Qi (Qc (Qh<|zB<|zM (Qb ?_)))));exact zm (h:=⟨n-(k+1),kB,k+1,_,_,_,rfl,rfl,hB0,rfl,kB,hO9,by rw [Za hx,List.map_append];exact hRK.snoc (zyD hM.ok hB)⟩)
 have hge_k:n≤k:=(by have h:=hc13;simp at h;omega);rw [ZB hln hge_k] at hRK;refine Q6 (Ql (Ql (Qq (Qc (Qm<|zx4 hO KS (fun I4 hI4 af4 cf4 ef4 hR9=>?_))))));subst ef4;have hRK:=hRK.mono hI4;have hIc:=hIc.trans hI4;exact Qh (zM<|zA<|zA (zN (Qs<|Y2 rfl rfl rfl (fun w hw=>⟨_,I4,[],rfl,hIc,hw.subL Qx,rfl,.inl ⟨hvf,_,_,_,rs,rfl,⟨hR9,hRK.m⟩,hRK.b⟩⟩))))
def kpN (ws:List Nt)(i:Nat)(x:Nt):Bool:=match i with
 | 0=>true
 | j+1=>match ws[j]? with | none=>true | some y=> !(Y5 x y==0)
def VO (ws:List Nt):Nat→List Nt
 | 0=>[]
 | i+1=>match ws[i]? with
  | none=>VO ws i
  | some x=>if kpN ws i x=true then VO ws i++[x] else VO ws i
def Wt (ws:List Nt)(m:Nat):List Nt:=VO ws m++ws.drop (VO ws m).length
variable{ws:List Nt}{i:Nat}{x:Nt}
theorem zbU (hx:ws[i]? =some x)(hk:kpN ws i x=true):VO ws (i+1)=VO ws i++[x]:=by simp only [VO,hx,if_pos hk]
theorem zc8 (hx:ws[i]? =some x)(hk:kpN ws i x=false):VO ws (i+1)=VO ws i:=by simp only [VO,hx,hk];rfl
theorem zjG {y:Nt}(hi:1≤i)(hy:ws[i-1]? =some y):kpN ws i x= !(Y5 x y==0):=by
 obtain ⟨j,rfl⟩:∃ j,i=j+1:=⟨i-1,kB⟩;rw [Nat.add_sub_cancel] at hy;simp only [kpN,hy]
theorem W6 (ws:List Nt):∀ m,(VO ws m).length≤m
 | 0=>Nat.le_refl _
 | m+1=>by
  have:=W6 ws m;unfold VO;split
  ·
   omega
  ·
   split
   ·
    rw [List.length_append,List.length_singleton];omega
   ·
    omega
theorem zi9 (ws:List Nt):∀ m,(VO ws m).length≤ws.length
 | 0=>Nat.zero_le _
 | m+1=>by
  have h1:=W6 ws m;have h2:=zi9 ws m;unfold VO;split
  ·
   exact h2
  ·
   rename_i x hx;have:=(List.getElem?_eq_some_iff.1 hx).1;split
   ·
    rw [List.length_append,List.length_singleton];omega
   ·
    exact h2
theorem zvJ (ws:List Nt):VO ws 1=ws.take 1:=by
 cases ws with
 | nil=>simp [VO]
 | cons x l=>simp [VO,kpN]
theorem zfj (h:VO ws i=ws.take i)(hx:ws[i]? =some x)(hk:kpN ws i x=true):VO ws (i+1)=ws.take (i+1):=by rw [zbU hx hk,h,Za hx]
theorem zcp (h:ws.length<2):VO ws ws.length=ws:=by
 cases ws with
 | nil=>simp [VO]
 | cons x l=>
  cases l with
  | nil=>simp [VO,kpN]
  | cons y l=>simp only [List.length_cons] at h;omega
theorem zlQ (m:Nat):(Wt ws m).length=ws.length:=by
 have:=zi9 ws m;unfold Wt;rw [List.length_append,List.length_drop];omega
variable{m:Nat}
theorem zmv (h:(VO ws m).length≤i):(Wt ws m)[i]? =ws[i]? :=by
 unfold Wt;rw [List.getElem?_append_right h,List.getElem?_drop];congr 1;omega
theorem zr6 (hx:ws[i]? =some x)(hk:kpN ws i x=false):Wt ws (i+1)=Wt ws i:=by unfold Wt;rw [zc8 hx hk]
theorem zvO (hx:ws[i]? =some x)(hk:kpN ws i x=true):Wt ws (i+1)=(Wt ws i).set (VO ws i).length x:=by
 have h1:=W6 ws i;have h2:=(List.getElem?_eq_some_iff.1 hx).1;have h3:ws.drop (VO ws i).length=ws[(VO ws i).length]::ws.drop ((VO ws i).length+1):=List.drop_eq_getElem_cons kB;unfold Wt;rw [zbU hx hk,List.length_append,List.length_singleton,List.set_append_right _ _ (Nat.le_refl _),Nat.sub_self,h3,List.set_cons_zero,List.append_assoc,List.singleton_append]
theorem zrb (h:VO ws i=ws.take i)(hi:i≤ws.length):Wt ws i=ws:=by
 unfold Wt;rw [h,List.length_take,Nat.min_eq_left hi,List.take_append_drop]
variable{bl:List Nt}
/-! ### Cells -/
theorem zad (hx:bl[i]? =some x):bl.flatMap Q7=(bl.take i).flatMap Q7++Q7 x++(bl.drop (i+1)).flatMap Q7:=by
 have h2:=(List.getElem?_eq_some_iff.1 hx).1
 have h3:bl.drop i=x::bl.drop (i+1):=by
  rw [List.drop_eq_getElem_cons h2,(List.getElem?_eq_some_iff.1 hx).2]
 conv=>lhs;rw [←List.take_append_drop i bl,h3]
 rw [List.flatMap_append,List.flatMap_cons,List.append_assoc]
theorem zaB (h:i≤bl.length):((bl.take i).flatMap Q7).length=i*45:=by
 rw [Yh Zl,List.length_take,Nat.min_eq_left h]
variable{fz:Nat×Nat}{l:Go.Kn.Loc}{tl:List Value}
theorem XV {b t off:Nat}(hx:bl[i]? =some x)(e:off=i*45):Cells I ((b,.cells (bl.flatMap Q7++tl).toArray t fz)::l) b off (Q7 x):=by
 have h2:=(List.getElem?_eq_some_iff.1 hx).1;refine Cells.part (pre:=(bl.take i).flatMap Q7) (vs:=Q7 x) (post:=(bl.drop (i+1)).flatMap Q7++tl) ?_ (by rw [e,zaB kB]);have h:=zCy (I:=I) (b:=b) (vs:=bl.flatMap Q7++tl) (t:=t) (fz:=fz) (l:=l);rw [zad hx] at h ⊢;simpa only [List.append_assoc] using h
theorem zna (hi:i<bl.length):Ki (bl.flatMap Q7++tl) (i*45) (Q7 x)=(bl.set i x).flatMap Q7++tl:=by
 obtain ⟨y,hy⟩:∃ y,bl[i]? =some y:=⟨_,List.getElem?_eq_getElem hi⟩;have hs:(bl.set i x)[i]? =some x:=List.getElem?_set_self hi;have e1:(bl.set i x).take i=bl.take i:=(by rw [List.take_set_of_le (Nat.le_refl _)]);have e2:(bl.set i x).drop (i+1)=bl.drop (i+1):=(by rw [List.drop_set_of_lt (Nat.lt_succ_self _)]);rw [zad hy,zad hs,e1,e2];have h:=KH ((bl.take i).flatMap Q7) (Q7 y) (Q7 x) ((bl.drop (i+1)).flatMap Q7++tl) rfl;rw [zaB (Nat.le_of_lt hi)] at h;simpa only [List.append_assoc] using h
theorem zow (h:bl.length=n)(ht:tl.length=(c-n)*45)(hc:n≤c):(bl.flatMap Q7++tl).length=c*45:=by
 rw [List.length_append,Yh Zl,h,ht,←Nat.add_mul];congr 1;omega
variable{e:Nat}{v:Value}
theorem zAf {L:Go.Kn.Loc}(h:ZP e 45 v n (ws.flatMap Q7) L)(_hl:ws.length=n):(v= .slice none 0 0∧n=0∧L=[])∨∃ b c tl,v= .slice (some ⟨b,0,none⟩) n c∧L=[(b,.cells (ws.flatMap Q7++tl).toArray e (0,0))]∧n≤c∧c≤maxLen∧tl.length=(c-n)*45:=by
 rcases h.2 with h1 | ⟨b,c,cur,h1,h2,h3,h4,h5,h6⟩
 ·
  exact .inl h1
 ·
  refine .inr ⟨b,c,cur.toList.drop (n*45),h1,?_,h3,h4,?_⟩
  ·
   rw [h2,←h6,List.take_append_drop]
  ·
   rw [List.length_drop,Array.length_toList,h5,←Nat.sub_mul]
theorem zxB {b:Nat}(hl:ws.length=n)(hc:n≤c)(hm:c≤maxLen)(ht:tl.length=(c-n)*45):ZP e 45 (.slice (some ⟨b,0,none⟩) n c) n (ws.flatMap Q7) [(b,.cells (ws.flatMap Q7++tl).toArray e (0,0))]:=by
 have hf:(ws.flatMap Q7).length=n*45:=(by rw [Yh Zl,hl]);refine ⟨hf,.inr ⟨b,c,_,rfl,rfl,hc,hm,?_,?_⟩⟩
 ·
  rw [List.size_toArray];exact zow hl ht hc
 ·
  show (ws.flatMap Q7++tl).take (n*45)=_;rw [←hf,List.take_left'];rfl
variable{zs:List Value}
theorem zrl (hn:ws.length=n)(hm:m≤n)(hc:n≤c)(ht:tl.length=(c-n)*45)(hz:zs.length=(n-m)*45)(hk:(VO ws n).length=m):
  ∃ tl',tl'.length=(c-m)*45∧((Wt ws n).flatMap Q7++tl).take (m*45)++(zs++((Wt ws n).flatMap Q7++tl).drop (m*45+(n-m)*45))=(VO ws n).flatMap Q7++tl':=by
 have e0:(VO ws n).flatMap Q7=((Wt ws n).take m).flatMap Q7:=by
  unfold Wt;rw [hk,←hk,List.take_left'];rfl
 have hb:=zlQ (ws:=ws) n;have hfl:((Wt ws n).flatMap Q7).length=n*45:=(by rw [Yh Zl,hb,hn]);refine ⟨zs++tl,by rw [List.length_append,hz,ht,←Nat.add_mul];congr 1;omega,?_⟩
 have e1:((Wt ws n).flatMap Q7++tl).take (m*45)=(VO ws n).flatMap Q7:=by
  unfold Wt;rw [List.flatMap_append,List.append_assoc];have:((VO ws n).flatMap Q7).length=m*45:=by rw [Yh Zl,hk]
  rw [←this,List.take_left'];rfl
 have e2:((Wt ws n).flatMap Q7++tl).drop (m*45+(n-m)*45)=tl:=by
  have:m*45+(n-m)*45=((Wt ws n).flatMap Q7).length:=by rw [hfl,←Nat.add_mul];congr 1;omega
  rw [this,List.drop_left'];rfl
 rw [e1,e2]
theorem znZ {M:Nat}(hM:M=n)(hn:ws.length=n)(hc:n≤c)(ht:tl.length=(c-n)*45)(hz:zs.length=(n-(VO ws M).length)*45):
  ∃ tl',tl'.length=(c-(VO ws n).length)*45∧((Wt ws M).flatMap Q7++tl).take (0+(VO ws M).length*45)++(zs++((Wt ws M).flatMap Q7++tl).drop (0+(VO ws M).length*45+(n-(VO ws M).length)*45))=(VO ws n).flatMap Q7++tl':=by
 subst hM;rw [Nat.zero_add];exact zrl hn (W6 ws _) hc ht hz rfl
end
end Go.Proofs.YtjblkbkmblkgoaaGreat
namespace Go.Kn
section
open Go
section
variable {C:Cx} {Q:Exit→Act→World→Prop} {E:Env} {I:Qv} {loc:Loc} {ops:Array Oper} {rest:List Oper} {dst:Option Tmp} {ty:TypeId} {pos:String} {af:Array Edge} {gd:Option (Nat×Bool)} {x:Operand}
theorem zqo {t e n c b off t':Nat}{z:Value}{zc A:List Value}(F:List Value→Loc)(hx:QG [] E x=some (.slice (some ⟨b,off,none⟩) n c))(hT:C.P.underlying t=some (.slice e))(hz:Vp C.P e z)(hzc:z.cells=zc.toArray)(h1:YF zc=true)
  (hle:off+n*zc.length≤A.length)(hG:gd=none)(hdst:dst=none)(hu:∀ zs:List Value,Upd loc b (.cells A.toArray t' (0,0)) (.cells (A.take off++(zs++A.drop (off+n*zc.length))).toArray t' (0,0)) (F zs))
  (h:∀ zs:List Value,zs.length=n*zc.length→XO C Q ops rest [] E I (F zs)):
  XO C Q ops (⟨dst,.call ⟨.builtin .clear, #[x], #[t]⟩,ty,pos,af,gd⟩::rest) [] E I loc:=
 Ye hG kE fun a w ha hw=>by
  subst hdst;have hsz:(Builtin.zeroCells z.cells n).toList.length=n*zc.length:=by rw [Array.length_toList,Vz,hzc];simp
  have hz1:∀ v∈(Builtin.zeroCells z.cells n).toList,v.oneCell'=true:=by
   intro v hv;rw [Array.mem_toList_iff] at hv;unfold Builtin.zeroCells at hv;rw [hzc] at hv;simp at hv;obtain ⟨q,hq,h2⟩:=hv;have hp:0<zc.length:=Nat.pos_of_ne_zero fun e=>(by rw [e] at hq;simp at hq);rw [List.getElem?_eq_getElem (Nat.mod_lt _ hp)] at h2;exact JF h1 v (by rw [←h2];exact List.getElem_mem _)
  have e:A=A.take off++((A.drop off).take (n*zc.length)++A.drop (off+n*zc.length)):=by
   have:(A.drop off).take (n*zc.length)++A.drop (off+n*zc.length)=A.drop off:=by rw [←List.drop_drop];exact List.take_append_drop _ _
   rw [this,List.take_append_drop]
  have hu2:=hu (Builtin.zeroCells z.cells n).toList;have hu3:Upd loc b (.cells (A.take off++((A.drop off).take (n*zc.length)++A.drop (off+n*zc.length))).toArray t' (0,0)) (.cells (A.take off++((Builtin.zeroCells z.cells n).toList++A.drop (off+n*zc.length))).toArray t' (0,0)) (F (Builtin.zeroCells z.cells n).toList):=(by rw [←e];exact hu2);obtain ⟨w',hr,hs'⟩:=Jl (P:=C.P) (off:=off) (Builtin.zeroCells z.cells n).toList (A.take off) w loc _ b t' ((A.drop off).take (n*zc.length)) 0 kR (by rw [hsz,List.length_take,List.length_drop];omega) hz1 hw hu3
  have hrun:(Builtin.clear_ #[t] ty #[.slice (some ⟨b,off,none⟩) n c]).run C.P w= .ok (.tuple #[]) w':=by
   have h0:n=0→w'=w:=by
    intro hn;subst hn;have:(Builtin.zeroCells z.cells 0).toList=[]:=List.length_eq_zero_iff.1 (by rw [hsz];omega);rw [this] at hr;simp [storeCells] at hr;exact hr.symm
   cases n with
   | zero=>rw [h0 rfl];simp [Builtin.clear_,run_underlying hT,Result.andThen]
   | succ k=>simp [Builtin.clear_,Sem.run_bind,run_underlying hT,Result.andThen,VJ hz,hr]
  simp only [execOp,resolve,List.map_toArray,List.map_cons,List.map_nil,Qk (S:=[]) ha trivial rfl hx,Sem.run_bind,Sem.run_pure,Result.andThen,invoke,builtin,hrun,Oper.uponIn_value];exact h _ hsz _ _ ha trivial hs'
end
end
end Go.Kn
namespace Go.Proofs.YtjblkbkmblkgoaaGreat
section
open Go Go.Kn Go.Proofs
theorem zsE:Fun Tryz.prog 83:=.of Tryz.func83 kA kA
theorem zyB:Tryz.prog.underlying 57=some (.slice 45):=kA
theorem zzC {I:Qv}{x y:Nt}(hX:NtM I x)(hY:NtM I y):ZF Tryz.prog 83 [Kj x,Kj y] I (.bool (Y5 x y==0)):=by
 intro g H w hw;refine qe Tryz.func83 Tryz.ntmps83 hw ?_;have hIc:=zCA I;refine zR<|QQ rfl rfl rfl (fun b_2=>QQ rfl rfl rfl (fun b_3=>zA (Qb<|QH .here (fun I1 hI1 hb1=>?_))))
 have hX:=hX.mono hI1;have hY:=hY.mono hI1;have hIc:=hIc.trans hI1;have h3:=BxI.of hb1;refine QH .here (fun I2 hI2 hb2=>?_);have hX:=hX.mono hI2;have hY:=hY.mono hI2;have h3:=h3.mono hI2;have hIc:=hIc.trans hI2;have h2:=BxI.of hb2;refine Qc (zR<|zV (Qg rfl Q8 (fun hg=>by exact BxI.cells (vs:=Q7 x) h2) rfl)<|zV (Qg rfl Q8 (fun hg=>by exact BxI.cells (vs:=Q7 y) h3) rfl)<|qcV (vs:=[_,_]) rfl zgs (zfV hX hY)<|zC<|zA (zN (Qs ?_)));exact QA rfl rfl (fun w hw=>⟨by rfl,(hw.mono hIc).subL Qx⟩)
theorem zzN {I:Qv}{b c n:Nat}{ws:List Nt}{tl:List Value}(hws:ws.length=n)(hM:∀ x∈ws,NtM I x)(hn:n≤100000)(hc:n≤c)(_hcm:c≤maxLen)(htl:tl.length=(c-n)*45):Y7 Tryz.prog 82 [.slice (some ⟨b,0,none⟩) n c,.func (.func 83) #[] #[]] I [(b,.cells (ws.flatMap Q7++tl).toArray 45 (0,0))] (fun v I' L'=>I'=I∧v= .slice (some ⟨b,0,none⟩) (VO ws n).length c∧∃ tl',tl'.length=(c-(VO ws n).length)*45∧L'=[(b,.cells ((VO ws n).flatMap Q7++tl').toArray 45 (0,0))]):=by
 intro g H w hw;refine qe Tryz.func82 Tryz.ntmps82 hw ?_;refine zR (zA (zN (Qm (zR ?_))));refine zM ?_;refine zQ QZ<|zC (zN ?_)
 refine zI ?_ ?_<;>intro hc10
 ·
  have h10:ws.length<2:=(by have h:=hc10;simp at h;omega);refine zR (zM<|zA (zN (Qs (Qf ?_))));exact QA rfl rfl (fun w hw=>⟨_,I,_,rfl,zCA _,hw,rfl,by rw [←hws,zcp h10],tl,by rw [←hws,zcp h10,hws];exact htl,by rw [←hws,zcp h10]⟩)
 have h10:2≤n:=(by have h:=hc10;simp at h;omega);refine Qp (Qc (Qm (zR (zA (zN (Qr<|zU [(0,_),(1,_)] (fun T L0 mz E I' loc'=>∃ (k:Nat),mz=n-k∧E=(5,.int .i64 k)::T∧I=I'∧L0=loc'∧1≤k∧k≤n∧VO ws k=ws.take k) ?_ (h:=⟨1,rfl,rfl,rfl,rfl,Nat.le_refl _,kB,zvJ ws⟩)))))));rintro mz E I' loc' ⟨k,rfl,rfl,rfl,rfl,hk1,hkn,hct⟩;refine Qm (zR (zM<|zM ?_));refine zQ QZ<|zC (zN ?_)
 refine zI ?_ ?_<;>intro hc15
 ·
  have hlt:k<n:=(by have h:=hc15;simp at h;omega);obtain ⟨x,hx⟩:∃ y,ws[k]? =some y:=⟨_,List.getElem?_eq_getElem kB⟩;obtain ⟨y,hy⟩:∃ y,ws[k-1]? =some y:=⟨_,List.getElem?_eq_getElem kB⟩;have hxm:=List.mem_of_getElem? hx;have hym:=List.mem_of_getElem? hy;have ex1:((k:Int)).toNat*45=k*45:=(by rw [Int.toNat_natCast]);have ey1:((k:Int)-1).toNat*45=(k-1)*45:=(by rw [show ((k:Int)-1).toNat=k-1 by omega]);refine Qp (Qc (Qm (Qr (Qm ?_))));have hD:=zCA I;refine Zm<|QI I [(b,.cells (ws.flatMap Q7++tl).toArray 45 (0,0))] mixed<|zT 0 rfl (Qe rfl) hD<|zT 1 rfl (Qe rfl) hD<|zT 2 rfl (Qe rfl) hD<|zT 3 rfl (VB rfl rfl QZ (fun hg=>kB)) hD<|zT 4 rfl (Qg rfl Q8 (fun hg=>by exact XV hx ex1) rfl) hD<|zT 5 rfl (Qe rfl) hD<|zT 6 rfl (Qe rfl) hD<|zT 7 rfl (Yr rfl rfl rfl (fun hg=>kB)) hD<|zT 8 rfl (VB rfl rfl QZ (fun hg=>kB)) hD<|zT 9 rfl (Qg rfl Q8 (fun hg=>by exact XV hy ey1) rfl) hD ?_
  refine qd 10 rfl<|qcV (vs:=[_,_]) rfl zsE (zzC (hM x hxm) (hM y hym))<|Qb<|zD hD<|Qo kA<|Qw<|Qc ?_
  refine zI ?_ ?_<;>intro hc28
  ·
   have hkp:kpN ws k x=false:=(by rw [zjG hk1 hy,hc28];rfl);refine zR (zM ?_);refine zM ?_;refine zV (YS rfl rfl QZ (fun hg=>kB)) ?_;rw [XF kB];refine zA (zN (Qm (zR<|zA (zN (Qr<|zd0 [(0,_),(1,_),(6,_)] (.cons rfl (.cons rfl (.cons rfl .nil))) (fun T L0 mz E I' loc'=>∃ (j:Nat),mz=n-j∧E=(5,.int .i64 ((VO ws (k+j)).length:Nat))::(7,.int .i64 j)::T∧I=I'∧[(b,.cells ((Wt ws (k+j)).flatMap Q7++tl).toArray 45 (0,0))]=loc'∧1≤j∧k+j≤n∧(VO ws (k+j)).length≤k+j-1) _ _ _ _ ⟨1,rfl,by rw [zc8 hx hkp,hct,List.length_take,Nat.min_eq_left kB],rfl,by rw [zr6 hx hkp,zrb hct kB],Nat.le_refl _,kB,by rw [zc8 hx hkp];have:=W6 ws k;omega⟩ (.cons rfl (.cons rfl (.cons rfl (.cons rfl (.cons rfl .nil))))) (zCA _) rfl ?_)))));rintro mz E I' loc' ⟨j,rfl,rfl,rfl,rfl,hj1,hjn,hml⟩;have hbl:(Wt ws (k+j)).length=n:=(by rw [zlQ];exact hws);refine Qm (zR (zM<|zM ?_));refine zQ QZ<|zC (zN ?_)
   refine zI ?_ ?_<;>intro hc35
   ·
    have hlt2:k+j<n:=(by have h:=hc35;simp at h;omega);obtain ⟨x,hx0⟩:∃ y,ws[k+j]? =some y:=⟨_,List.getElem?_eq_getElem kB⟩;obtain ⟨y,hy0⟩:∃ y,ws[k+j-1]? =some y:=⟨_,List.getElem?_eq_getElem kB⟩;have hxm:=List.mem_of_getElem? hx0;have hym:=List.mem_of_getElem? hy0;have hx2:(Wt ws (k+j))[k+j]? =some x:=(by rw [zmv kB];exact hx0);have hy2:(Wt ws (k+j))[k+j-1]? =some y:=(by rw [zmv kB];exact hy0);have ex2:0+((k:Int)).toNat*45+((j:Int)).toNat*45=(k+j)*45:=(by rw [Int.toNat_natCast,Int.toNat_natCast,Nat.zero_add,←Nat.add_mul]);have ey2:0+((k:Int)).toNat*45+((j:Int)-1).toNat*45=(k+j-1)*45:=(by rw [show ((j:Int)-1).toNat=j-1 by omega,Int.toNat_natCast,Nat.zero_add,←Nat.add_mul];congr 1;omega);refine Qp (Qc (Qm (Qr (Qm ?_))));have hD:=zCA I;refine Zm<|QI I [(b,.cells ((Wt ws (k+j)).flatMap Q7++tl).toArray 45 (0,0))] mixed<|zT 0 rfl (Qe rfl) hD<|zT 1 rfl (Qe rfl) hD<|zT 2 rfl (Qe rfl) hD<|zT 3 rfl (Kc rfl rfl QZ (fun hg=>kB)) hD<|zT 4 rfl (Qg rfl Q8 (fun hg=>by exact XV hx2 ex2) rfl) hD<|zT 5 rfl (Qe rfl) hD<|zT 6 rfl (Qe rfl) hD<|zT 7 rfl (Yr rfl rfl rfl (fun hg=>kB)) hD<|zT 8 rfl (Kc rfl rfl QZ (fun hg=>kB)) hD<|zT 9 rfl (Qg rfl Q8 (fun hg=>by exact XV hy2 ey2) rfl) hD ?_
    refine qd 10 rfl<|qcV (vs:=[_,_]) rfl zsE (zzC (hM x hxm) (hM y hym))<|Qb<|zD hD<|zT 11 rfl (Zy rfl) hD<|Qo kA<|Qw<|Qc ?_
    refine zI ?_ ?_<;>intro hc49
    ·
     have hkp2:kpN ws (k+j) x=true:=(by rw [zjG kB hy0];exact hc49);refine zR (zM ?_);refine zM ?_;refine zM ?_;refine zM ?_;refine zV (Kc rfl rfl QZ (fun hg=>kB))<|zV (Qg rfl Q8 (fun hg=>by exact XV hx2 ex2) rfl)<|zV (VB rfl rfl QZ (fun hg=>kB))<|Yu (A:=(Wt ws (k+j)).flatMap Q7++tl) rfl rfl Vk rfl (by rw [zow hbl htl hc];exact Nat.ble_eq_true_of_le kY) rfl rfl (by exact .here) ?_
     rw [show (((VO ws (k+j)).length:Nat):Int).toNat*45=(VO ws (k+j)).length*45 from by rw [Int.toNat_natCast],zna (by rw [hbl];omega)];refine zN (Qh (zM ?_));refine zB<|zA (Qb (Qi (Qc (Qh<|zM ?_))))
     refine zB<|zA (Qb ?_)
     first
     | exact Zk _ [(b,.cells (((Wt ws (k+j)).set (VO ws (k+j)).length x).flatMap Q7++tl).toArray 45 (0,0))] ⟨n-(j+1),kB,j+1,rfl,by rw [←Nat.add_assoc,zbU hx0 hkp2,List.length_append,List.length_singleton],rfl,by rw [←Nat.add_assoc,zvO hx0 hkp2],kB,kB,by rw [←Nat.add_assoc,zbU hx0 hkp2,List.length_append,List.length_singleton];omega⟩ (.cons rfl (.cons rfl (.cons rfl (.cons rfl (.cons rfl .nil))))) kC
    have hkp2:kpN ws (k+j) x=false:=(by rw [zjG kB hy0];exact hc49);refine Qp (Qi (Qc (Qh (zM ?_))));refine zB<|zA (Qb ?_)
    first
    | exact Zk _ [(b,.cells ((Wt ws (k+j)).flatMap Q7++tl).toArray 45 (0,0))] ⟨n-(j+1),kB,j+1,rfl,by rw [←Nat.add_assoc,zc8 hx0 hkp2],rfl,by rw [←Nat.add_assoc,zr6 hx0 hkp2],kB,kB,by rw [←Nat.add_assoc,zc8 hx0 hkp2];omega⟩ (.cons rfl (.cons rfl (.cons rfl (.cons rfl (.cons rfl .nil))))) kC
   have hge2:k+j=n:=(by have h:=hc35;simp at h;omega);refine Q6 (Ql (Ql (Qq (Qc (zR (zM<|zM ?_))))));refine zV (YS rfl rfl QZ (fun hg=>kB)) ?_;rw [XF kB];refine zqo (A:=(Wt ws (k+j)).flatMap Q7++tl) (fun zs=>[(b,.cells (((Wt ws (k+j)).flatMap Q7++tl).take (0+(VO ws (k+j)).length*45)++(zs++((Wt ws (k+j)).flatMap Q7++tl).drop (0+(VO ws (k+j)).length*45+(n-(VO ws (k+j)).length)*45))).toArray 45 (0,0))]) rfl zyB UW rfl rfl (by rw [zow hbl htl hc];simp;omega) rfl rfl (fun zs=>by simpa using Upd.here) (fun zc hzc=>Qb ?_);obtain ⟨tl2,ht2,e2⟩:=znZ hge2 hws hc htl (by simpa using hzc);rw [e2];refine Qc (zR (zM<|zM ?_));refine zV (Vf rfl rfl QZ (fun hg=>kB))<|zA (zN (Qs (Qj (Qf (Qf (Qj (Qf ?_)))))))
   exact QA rfl rfl (fun w hw=>⟨_,I,_,rfl,zCA _,hw,rfl,by rw [Int.toNat_natCast,hge2],tl2,ht2,rfl⟩)
  refine Qp (Qi (Qc (Qh (zM ?_))));refine zB<|zA (Qb ?_)
  exact zm (h:=⟨n-(k+1),kB,k+1,rfl,rfl,rfl,rfl,kB,kB,zfj hct hx (by rw [zjG hk1 hy,hc28];rfl)⟩)
 have hge:n≤k:=(by have h:=hc15;simp at h;omega);obtain rfl:k=n:=kB;rw [List.take_of_length_le kB] at hct;refine Q6 (Ql (Ql (Qq (Qc (zR (zM<|zA (zN (Qs ?_))))))));exact QA rfl rfl (fun w hw=>⟨_,I,_,rfl,zCA _,hw,rfl,by rw [hct,hws],tl,by rw [hct,hws];exact htl,by rw [hct]⟩)
end
end Go.Proofs.YtjblkbkmblkgoaaGreat
namespace Go.Kn
section
open Go Go.Sort Go.Shelf Go.Lib Go.Proofs
theorem znC {α:Type}[Inhabited α]{P:Program}{f g0:FuncId}{e:TypeId}{k:Nat}{enc:α→List Value}{cf:α→α→Int}(hk:∀ x,(enc x).length=k)(hpos:0<k)
  (hs:∀ (blk off cap:Nat) (d:Array α) (w:World),CmpLays P g0 #[] enc k cf blk off d.size w→HoldsK enc k w blk off d→blk<w.heap.size→d.size<4611686018427387904→
   Calls P f #[.slice (some ⟨blk,off,none⟩) d.size cap,.func (.func g0) #[] #[]] w fun e w'=>e= .returned (.tuple #[])∧∃ d' n os,PermIn 0 d.size d d'∧SortedIn (ltOf cf) 0 d.size d'∧w'=sortWorldK enc k w blk off n d' os)
  (h0:∀ (p:Option Addr) (cap:Nat) (fv:Value) (w:World),Calls P f #[.slice p 0 cap,fv] w fun e w'=>e= .returned (.tuple #[])∧w'=w)
  (I:Qv)(hcmp:∀ I',HLe I I'→∀ (x y:α),ZF P g0 [.agg (enc x).toArray,.agg (enc y).toArray] I' (.int .i64 (cf x y)))
  (zs:List α){v:Value}{n:Nat}{L:Loc}(hO:ZP e k v n (zs.flatMap enc) L)(hn:n≤1000000):
  Y7 P f [v,.func (.func g0) #[] #[]] I L (fun u I' L'=>u= .tuple #[]∧I'=I∧∃ zs':List α,zs'.Perm zs∧zs'.Pairwise (fun x y=>ltOf cf y x=false)∧ZP e k v n (zs'.flatMap enc) L'):=by
 intro g H w hw
 have hl:zs.length=n:=by
  have:=hO.1;rw [Yh hk] at this;exact Nat.eq_of_mul_eq_mul_right hpos this
 subst hl;rcases hO.2 with ⟨rfl,h00,rfl⟩ | ⟨b,c,cur,rfl,rfl,hc,hc2,hsz,htk⟩
 ·
  have:zs=[]:=List.length_eq_zero_iff.1 h00;subst this;refine (h0 none 0 _ w).mono ?_;rintro e w' ⟨rfl,rfl⟩;exact ⟨_,I,[],rfl,zCA _,hw,rfl,rfl,[],.nil,.nil,by simp,.inl ⟨rfl,rfl,rfl⟩⟩
 ·
  have hb:=hw.own b _ (List.mem_singleton.2 rfl);have hbs:b<w.heap.size:=(Array.getElem?_eq_some_iff.1 hb).1;have hfl:(zs.flatMap enc).length=zs.length*k:=Yh hk zs
  have hH:HoldsK enc k w b 0 zs.toArray:=by
   unfold HoldsK;rw [zl0 hk hpos];exact zfQ (enc:=id) hw (List.mem_singleton.2 rfl) (zs.flatMap enc) (by rw [hfl,htk];simp)
  have hC:CmpLays P g0 #[] enc k cf b 0 zs.toArray.size w:=by
   intro m os dk _ x y
   have hsw:∃ L',St g I H L' (sortWorldK enc k w b 0 m dk os):=by
    unfold sortWorldK putRowK;exact ⟨_,((hw.aheadN m).rowPut (enc:=id) _ .here).grown os⟩
   obtain ⟨L',hsw⟩:=hsw
   have h1:=hcmp (fun q=>(sortWorldK enc k w b 0 m dk os).heap[q]?) (fun b o h=>hsw.imm b o h) x y (sortWorldK enc k w b 0 m dk os) (fun _=>none) (sortWorldK enc k w b 0 m dk os)
    ⟨rfl,rfl,rfl,⟨Nat.le_refl _,Nat.le_refl _⟩,fun _ _ h=>h,(fun _ _ h=>by cases h),(fun _ _ h=>by cases h),fun _=>.inr rfl,(fun _ _ h=>by cases h),by simp⟩
   refine Calls.mono h1 ?_;rintro e w' ⟨rfl,hs⟩;exact ⟨rfl,zpX hs⟩
  have hcall:=hs b 0 c zs.toArray w hC hH hbs kY;rw [List.size_toArray] at hcall;refine hcall.mono ?_;rintro e w' ⟨rfl,d',m,os,hp,hsd,rfl⟩;have hps:d'.size=zs.length:=by simpa using hp.1
  have hperm:d'.toList.Perm zs:=by
   have:=hp.2.2;simpa [Array.extract_eq_self_of_le,hps] using this
  have hdl:d'=d'.toList.toArray:=(by simp);have hfd:(d'.toList.flatMap enc).length=zs.length*k:=(by rw [Yh hk,Array.length_toList,hps]);refine ⟨_,I,[(b,.cells (putCells id 0 (d'.toList.flatMap enc).toArray cur) e (0,0))],rfl,zCA _,?_,rfl,rfl,d'.toList,hperm,?_,?_⟩
  ·
   unfold sortWorldK putRowK;rw [hdl,zl0 hk hpos];simp only;exact (((hw.aheadN m).rowPut (enc:=id) _ .here).grown os)
  ·
   rw [List.pairwise_iff_getElem];intro i j hi hj hij;have:=hsd i j (Nat.zero_le _) hij (by rw [←hps];simpa using hj);rw [getElem!_pos d' i (by simpa using hi),getElem!_pos d' j (by simpa using hj)] at this;simpa using this
  ·
   refine ⟨by rw [hfd],.inr ⟨b,c,_,rfl,rfl,hc,hc2,by simp [putCells,hsz],?_⟩⟩;have:=zhQ (enc:=id) (cs:=cur) (n:=zs.length*k) (d'.toList.flatMap enc) hfd (by rw [hsz];exact Nat.mul_le_mul_right k hc);simpa using this
end
end Go.Kn
namespace Go.Proofs.YtjblkbkmblkgoaaGreat
section
open Go Go.Kn Go.Proofs
variable{x y:Nt}
/-! ### The order -/
theorem zoA {z:Nt}(h:Y5 x y=0):Y5 x z=Y5 y z:=by
 have e:(zaX x).data.toList=(zaX y).data.toList:=zus h;unfold Y5 zAm;rw [e]
theorem zbr:NtW zcX:=⟨fun y hy=>by
  have:y=0:=by
   simp only [Y3,zcX,VP,Jq,L.zeroL,S.zeroR,JZ,List.mem_cons,List.not_mem_nil,or_false,or_self] at hy;exact hy
  subst this;decide,fun y hy=>by cases hy⟩
theorem zmg (hw:NtW x)(s1:x.pt.needs.length≤32)(s2:x.rt.name.size≤32)(s3:x.rt.town.size≤32):Va.ok (KU x)∧(Jw x).length≤2000:=by
 have hok:∀ v∈(Y3 x).map Va.int,Va.ok v:=fun v hv=>by
  obtain ⟨y,hy,rfl⟩:=List.mem_map.1 hv;exact hw.ints y hy
 have hon:∀ v∈x.pt.needs.map Va.int,Va.ok v:=fun v hv=>by
  obtain ⟨y,hy,rfl⟩:=List.mem_map.1 hv;exact hw.needs y hy
 have hb:(Va.encL ((Y3 x).map Va.int)).length≤462:=by
  have:=Us (b:=11) (l:=(Y3 x).map Va.int) fun v hv=>by
   obtain ⟨y,hy,rfl⟩:=List.mem_map.1 hv;exact UN (hw.ints y hy)
  rw [List.length_map,Y1] at this;omega
 have hn:(Va.encL (x.pt.needs.map Va.int)).length≤352:=by
  have:=Us (b:=11) (l:=x.pt.needs.map Va.int) fun v hv=>by
   obtain ⟨y,hy,rfl⟩:=List.mem_map.1 hv;exact UN (hw.needs y hy)
  rw [List.length_map] at this;have h2:=Nat.mul_le_mul_right 11 s1;omega
 constructor
 ·
  refine ⟨by simp [Y1],ze0 fun v hv=>?_⟩;rw [List.mem_append] at hv;rcases hv with hv | hv
  ·
   exact hok v hv
  ·
   simp only [List.mem_cons,List.not_mem_nil,or_false] at hv;rcases hv with rfl | rfl | rfl
   ·
    exact ⟨by rw [List.length_map];omega,ze0 hon⟩
   ·
    exact ⟨zd3 _,by rw [JJ];omega⟩
   ·
    exact ⟨zd3 _,by rw [JJ];omega⟩
 ·
  have e1:=K4 (s:=Ug x.rt.name) (by rw [JJ];exact s2);have e2:=K4 (s:=Ug x.rt.town) (by rw [JJ];exact s3)
  have e3:(Va.enc (.list (x.pt.needs.map Va.int))).length≤354:=by
   rw [Va.enc,List.length_map,Vv kB];simp only [List.length_cons,List.length_append,List.length_nil];omega
  unfold Jw KU;rw [Va.enc,Vv (by simp [Y1])];simp only [List.length_cons,List.length_append,List.length_nil,Va.encL_append,Va.encL];omega
theorem zrt (I:Qv):NtM I zcX:=by
 obtain ⟨h1,h2⟩:=zmg zbr kD kD kD;exact ⟨Sl.nil,by decide,h1,kB⟩
def NtP (I:Qv):={x:Nt // NtM I x}
instance (I : Qv) : Inhabited (NtP I) := ⟨⟨zcX, zrt I⟩⟩
def zwt {I:Qv}(x:NtP I):List Value:=Q7 x.1
def zjZ {I:Qv}(x y:NtP I):Int:=Y5 x.1 y.1
theorem zBL (I:Qv):Go.Sort.SWO (Go.Proofs.ltOf (zjZ (I:=I))):=by
 have key:∀ a b c:Nt,¬Y5 a b<0→¬Y5 b c<0→¬Y5 a c<0:=fun a b c h1 h2 h3=>by
  by_cases e:Y5 b a=0
  ·
   rw [zoA e] at h2;exact h2 h3
  ·
   have hf:Y5 a b= - Y5 b a:=(by rw [Uq]);have h4:Y5 b a<0:=kB;exact h2 (VI h4 h3)
 refine ⟨fun x=>?_,fun x y z h1 h2=>?_,fun x y z h1 h2=>?_⟩
 ·
  unfold Go.Proofs.ltOf zjZ;rw [Ut];rfl
 ·
  unfold Go.Proofs.ltOf zjZ at*;exact decide_eq_true (VI (of_decide_eq_true h1) (of_decide_eq_true h2))
 ·
  unfold Go.Proofs.ltOf zjZ at*;exact decide_eq_false (key _ _ _ (of_decide_eq_false h1) (of_decide_eq_false h2))
def NtP.v {I:Qv}(x:NtP I):Nt:=x.1
variable{I:Qv}
theorem zsA :∀ (xs:List Nt),(∀ x∈xs,NtM I x)→∃ zs:List (NtP I),zs.map NtP.v=xs
 | [],_=>⟨[],rfl⟩
 | x::l,h=>by
  obtain ⟨zs,hz⟩:=zsA l fun y hy=>h y (List.mem_cons_of_mem _ hy);exact ⟨(show NtP I from ⟨x,h x (List.mem_cons_self ..)⟩)::zs,congrArg (x:: ·) hz⟩
variable{ws:List Nt}
/-! ### Struck -/
theorem zeq :∀ m,∀ x∈VO ws m,x∈ws
 | 0,x,h=>by cases h
 | m+1,x,h=>by
  unfold VO at h;split at h
  ·
   exact zeq m x h
  ·
   rename_i y hy;split at h
   ·
    rcases List.mem_append.1 h with h | h
    ·
     exact zeq m x h
    ·
     rw [List.mem_singleton] at h;subst h;exact List.mem_of_getElem? hy
   ·
    exact zeq m x h
theorem ziL (hs:ws.Pairwise fun x y=>¬Y5 y x<0):∀ m,m≤ws.length→zdh (VO ws m)∧(∀ y,1≤m→ws[m-1]? =some y→∃ z,(VO ws m).getLast?=some z∧Y5 z y=0)∧∀ (i:Nat) (x:Nt),i<m→ws[i]? =some x→∃ z∈VO ws m,Y5 z x=0
 | 0,_=>⟨fun k l x y _ hx=>by simp [VO] at hx,fun y h=>kB,fun i x h=>kB⟩
 | m+1,hm=>by
  obtain ⟨h1,h2,h3⟩:=ziL hs m kB;obtain ⟨x,hx⟩:∃ x,ws[m]? =some x:=⟨_,List.getElem?_eq_getElem kB⟩
  cases hk:kpN ws m x with
  | true=>
   rw [zbU hx hk];refine ⟨?_,fun y _ hy=>⟨x,by simp,?_⟩,fun i u hi hu=>?_⟩
   ·
    -- all before are less
    have hlt:∀ z∈VO ws m,Y5 z x<0:=by
     intro z hz;rcases Nat.eq_zero_or_pos m with hm0 | hm0
     ·
      subst hm0;cases hz
     ·
      obtain ⟨y,hy⟩:∃ y,ws[m-1]? =some y:=⟨_,List.getElem?_eq_getElem kB⟩;rw [zjG hm0 hy] at hk;have hne:Y5 x y≠0:=by simpa using hk
      have hnl:¬Y5 x y<0:=by
       obtain ⟨ha,ea⟩:=List.getElem?_eq_some_iff.1 hy;obtain ⟨hb,eb⟩:=List.getElem?_eq_some_iff.1 hx;have:=List.pairwise_iff_getElem.1 hs (m-1) m ha hb kB;rw [ea,eb] at this;exact this
      have hyx:Y5 y x<0:=(by rw [Uq];omega);obtain ⟨l,hl,hly⟩:=h2 y hm0 hy;have hlx:Y5 l x<0:=(by rw [zoA hly];exact hyx);obtain ⟨i,hi⟩:=List.mem_iff_getElem?.1 hz;have hil:=(List.getElem?_eq_some_iff.1 hi).1;rw [List.getLast?_eq_getElem?] at hl;rcases Nat.lt_or_ge i ((VO ws m).length-1) with h4 | h4
      ·
       exact VI (h1 i _ z l h4 hi hl) hlx
      ·
       have:i=(VO ws m).length-1:=kB;rw [this,hl] at hi;cases hi;exact hlx
    intro k l u v hkl hu hv;rcases Nat.lt_or_ge l (VO ws m).length with h4 | h4
    ·
     rw [List.getElem?_append_left h4] at hv;rw [List.getElem?_append_left kB] at hu;exact h1 k l u v hkl hu hv
    ·
     rw [List.getElem?_append_right h4] at hv
     have hvl:v=x:=by
      have:=(List.getElem?_eq_some_iff.1 hv).1;simp only [List.length_singleton] at this;have e:l-(VO ws m).length=0:=kB;rw [e] at hv;cases hv;rfl
     subst hvl
     rw [List.getElem?_append_left (by
      have:=(List.getElem?_eq_some_iff.1 hv).1;simp only [List.length_singleton] at this
      omega)] at hu
     exact hlt u (List.mem_of_getElem? hu)
   ·
    rw [Nat.add_sub_cancel,hx] at hy;cases hy;exact Ut _
   ·
    rcases Nat.lt_or_ge i m with h4 | h4
    ·
     obtain ⟨z,hz,e⟩:=h3 i u h4 hu;exact ⟨z,List.mem_append_left _ hz,e⟩
    ·
     have:i=m:=kB;subst this;rw [hx] at hu;cases hu;exact ⟨_,List.mem_append_right _ (List.mem_singleton.2 rfl),Ut _⟩
  | false=>
   rw [zc8 hx hk]
   have hm0:1≤m:=by
    rcases Nat.eq_zero_or_pos m with h | h
    ·
     subst h;simp [kpN] at hk
    ·
     exact h
   obtain ⟨y,hy⟩:∃ y,ws[m-1]? =some y:=⟨_,List.getElem?_eq_getElem kB⟩;rw [zjG hm0 hy] at hk;have he:Y5 x y=0:=(by simpa using hk);have he2:Y5 y x=0:=(by rw [Uq,he];rfl);obtain ⟨l,hl,hly⟩:=h2 y hm0 hy;have hlx:Y5 l x=0:=(by rw [zoA hly];exact he2);refine ⟨h1,fun u _ hu=>⟨l,hl,?_⟩,fun i u hi hu=>?_⟩
   ·
    rw [Nat.add_sub_cancel,hx] at hu;cases hu;exact hlx
   ·
    rcases Nat.lt_or_ge i m with h4 | h4
    ·
     exact h3 i u h4 hu
    ·
     have:i=m:=kB;subst this;rw [hx] at hu;cases hu;exact ⟨l,List.mem_of_getLast? hl,hlx⟩
/-! ### Loaded -/
structure LdK (I:Qv)(rs:List Hy)(xs:List Nt):Prop where
 len:xs.length=rs.length
 ok:∀ (i:Nat) (r:Hy) (x:Nt),rs[i]? =some r→xs[i]? =some x→okN r.bytes=some (Yx x)∧NtM I x∧QO x=true
variable{rs:List Hy}{xs:List Nt}
theorem LdK.mono {I':Qv}(h:LdK I rs xs)(hI:HLe I I'):LdK I' rs xs:=⟨h.len,fun i r x hr hx=>let ⟨h1,h2,h3⟩:=h.ok i r x hr hx;⟨h1,h2.mono hI,h3⟩⟩
theorem LdK.nil :LdK I [] []:=⟨rfl,fun i r x hr=>by simp at hr⟩
variable{r:Hy}
theorem LdK.snoc (h:LdK I rs xs)(h1:okN r.bytes=some (Yx x))(h2:NtM I x)(h3:QO x=true):LdK I (rs++[r]) (xs++[x]):=by
 have hl:=h.len;refine ⟨by simp [hl],fun i r' x' hr hx=>?_⟩;rcases Nat.lt_or_ge i rs.length with h4 | h4
 ·
  rw [List.getElem?_append_left h4] at hr;rw [List.getElem?_append_left kB] at hx;exact h.ok i r' x' hr hx
 ·
  rw [List.getElem?_append_right h4] at hr;rw [List.getElem?_append_right kB] at hx
  have e:i-rs.length=0:=by
   have:=(List.getElem?_eq_some_iff.1 hr).1;simp only [List.length_singleton] at this;omega
  rw [hl,e] at hx;rw [e] at hr;cases hr;cases hx;exact ⟨h1,h2,h3⟩
theorem LdK.all (h:LdK I rs xs):∀ x∈xs,NtM I x∧QO x=true∧∃ r∈rs,okN r.bytes=some (Yx x):=fun x hx=>by
 obtain ⟨i,hi⟩:=List.mem_iff_getElem?.1 hx;obtain ⟨r,hr⟩:∃ r,rs[i]? =some r:=⟨_,List.getElem?_eq_getElem (by rw [←h.len];exact (List.getElem?_eq_some_iff.1 hi).1)⟩;obtain ⟨h1,h2,h3⟩:=h.ok i r x hr hi;exact ⟨h2,h3,r,List.mem_of_getElem? hr,h1⟩
structure LdZ (I:Qv)(rs:List Hy)(a:Option Addr)(m c:Nat)(zs:List Nt):Prop where
 nt:UV I a m c zs
 srt:zdh zs
 len:zs.length≤rs.length
 mem:∀ r∈rs,∃ x∈zs,okN r.bytes=some (Yx x)
 frm:∀ x∈zs,QO x=true∧∃ r∈rs,okN r.bytes=some (Yx x)
def LdQ (rs:List Hy)(v:Value)(I':Qv)(L':Go.Kn.Loc):Prop:=L'=[]∧
  ((4096<rs.length∧v= .tuple #[.agg #[.slice none 0 0],.int .i64 2])∨
   (rs.length≤4096∧(∃ r∈rs,okN r.bytes=none)∧v= .tuple #[.agg #[.slice none 0 0],.int .i64 570])∨
   (rs.length≤4096∧∃ a m c zs,v= .tuple #[.agg #[.slice a m c],.int .i64 0]∧LdZ I' rs a m c zs))
variable{ys:List Nt}{a:Option Addr}{c:Nat}
theorem zzD {m:Nat}(h:LdK I rs xs)(hp:ys.Perm xs)(hs:ys.Pairwise fun x y=>¬Y5 y x<0)(hS:Sl I 45 Q7 a m c (VO ys ys.length)):LdZ I rs a m c (VO ys ys.length):=by
 obtain ⟨h1,_,h3⟩:=ziL hs ys.length (Nat.le_refl _);have hall:=h.all;have hsub:∀ x∈VO ys ys.length,x∈xs:=fun x hx=>hp.mem_iff.1 (zeq _ x hx);refine ⟨⟨hS,fun x hx=>(hall x (hsub x hx)).1.nd,fun x hx _=>(hall x (hsub x hx)).1⟩,h1,?_,fun r hr=>?_,fun x hx=>⟨(hall x (hsub x hx)).2.1,(hall x (hsub x hx)).2.2⟩⟩
 ·
  have:=W6 ys ys.length;have h5:=hp.length_eq;have h6:=h.len;omega
 ·
  obtain ⟨i,hi⟩:=List.mem_iff_getElem?.1 hr;obtain ⟨x,hx⟩:∃ x,xs[i]? =some x:=⟨_,List.getElem?_eq_getElem (by rw [h.len];exact (List.getElem?_eq_some_iff.1 hi).1)⟩;obtain ⟨e1,e2,_⟩:=h.ok i r x hi hx;obtain ⟨j,hj⟩:=List.mem_iff_getElem?.1 (hp.mem_iff.2 (List.mem_of_getElem? hx));obtain ⟨z,hz,ez⟩:=h3 j x (List.getElem?_eq_some_iff.1 hj).1 hj;refine ⟨z,hz,?_⟩;rw [e1,znb (hall z (hsub z hz)).1.ok e2.ok ez]
theorem zvw (I:Qv):ZF Tryz.prog 82 [.slice none 0 0,.func (.func 83) #[] #[]] I (.slice none 0 0):=by
 intro g H w hw;refine qe Tryz.func82 Tryz.ntmps82 hw ?_;refine zR (zA (zN (Qm (zR ?_))));refine zM ?_;refine zQ QZ<|zC (zN ?_)
 refine zI ?_ ?_<;>intro hc10
 ·
  refine zR (zM<|zA (zN (Qs (Qf ?_))));exact QA rfl rfl (fun w hw=>⟨by rfl,hw⟩)
 cases hc10
variable{v:Value}{n:Nat}
theorem zyW {L:Go.Kn.Loc}(hO:ZP 45 45 v n (ws.flatMap Q7) L)(hl:ws.length=n)(hM:∀ x∈ws,NtM I x)(hn:n≤100000):Y7 Tryz.prog 82 [v,.func (.func 83) #[] #[]] I L (fun u I' L'=>I'=I∧ZP 45 45 u (VO ws n).length ((VO ws n).flatMap Q7) L'):=by
 rcases zAf hO hl with ⟨rfl,rfl,rfl⟩ | ⟨b,c,tl,rfl,rfl,hc,hcm,htl⟩
 ·
  have:ws=[]:=List.eq_nil_of_length_eq_zero hl;subst this;intro g H w hw;exact (zvw I g H w hw).mono fun e w' ⟨h1,h2⟩=>⟨_,I,[],h1,zCA _,h2,rfl,ZP.nil⟩
 intro g H w hw;refine (zzN hl hM hn hc hcm htl g H w hw).mono ?_;rintro e w' ⟨u,I',L',h1,h2,h3,rfl,rfl,tl',h5,rfl⟩;exact ⟨_,_,_,h1,h2,h3,rfl,zxB rfl (Nat.le_trans (W6 ws n) hc) hcm h5⟩
theorem zvN (hX:∀ x∈xs,NtM I x){L:Go.Kn.Loc}(hO:ZP 45 45 v n (xs.flatMap Q7) L)(hn:n≤1000000):
  Y7 Tryz.prog 80 [v,.func (.func 81) #[] #[]] I L (fun u I' L'=>u= .tuple #[]∧I'=I∧∃ ys:List Nt,ys.Perm xs∧ys.Pairwise (fun x y=>¬Y5 y x<0)∧ZP 45 45 v n (ys.flatMap Q7) L'):=by
 obtain ⟨zs,hz⟩:=zsA xs hX;subst hz;have e0:∀ l:List (NtP I),l.flatMap zwt=(l.map NtP.v).flatMap Q7:=fun l=>(by rw [List.flatMap_map];rfl);rw [←e0] at hO;intro g H w hw;refine (znC (α:=NtP I) (enc:=zwt) (cf:=zjZ) (fun x=>Zl x.1) kD (fun blk off cap d w hC hH hb hs=>Tryz.slices_SortFunc (α:=NtP I) 45 (fun w=>Vg Q8) (fun w=>by obtain ⟨i,hi,hz⟩:=Vk;rw [←hz];exact Go.Kn.run_sizeOf hi) zwt (fun x=>Zl x.1) (fun x=>JF kU) zjZ (zBL I) 81 #[] blk off cap d w (fun args w=>JW zgs args w) hC hH hb hs) (Tryz.slices_SortFunc_none (α:=NtP I)) I (fun I' hI x y=>zfV (x.2.mono hI) (y.2.mono hI)) zs hO hn g H w hw).mono ?_;rintro e w' ⟨u,I',L',h1,h2,h3,rfl,rfl,zs',hp,hpw,hO'⟩;rw [e0] at hO';refine ⟨_,_,_,h1,h2,h3,rfl,rfl,zs'.map NtP.v,hp.map _,?_,hO'⟩;rw [List.pairwise_map];exact hpw.imp fun {a b} h=>of_decide_eq_false h
theorem zwN:Fun Tryz.prog 80:=.of Tryz.func80 kA kA
theorem zyX:Fun Tryz.prog 82:=.of Tryz.func82 kA kA
theorem JY:SlT Tryz.prog 60 80 1:=.of kA
variable{av:Option Addr}
theorem zmy (hR:zj9 I av n c rs)(hn:n≤100000)(hb:∀ r∈rs,r.n≤100000):Y7 Tryz.prog 24 [.slice av n c] I [] (LdQ rs):=by
 intro g H w hw;refine qe Tryz.func24 Tryz.ntmps24 hw ?_;have hIc:=zCA I;have hln:=hR.sl.len;refine zR<|Qt zgl rfl rfl (fun b_2=>?_)
 refine zA (zN (Qm (zR<|zM ?_)));refine zQ JY<|zC (zN ?_)
 refine zI ?_ ?_<;>intro hc11
 ·
  have h11:4096<n:=(by have h:=hc11;simp at h;omega);refine zR<|zV (Qg rfl Vj (fun hg=>by exact Cells.g0) rfl) ?_
  refine zh US ?_;refine zA (zN (Qs (Qf ?_)));exact Zz rfl rfl rfl Vj (by exact zCy) rfl (fun w hw=>⟨_,I,[],rfl,hIc,hw.subL Qx,rfl,.inl ⟨kB,rfl⟩⟩)
 have h11:n≤4096:=(by have h:=hc11;simp at h;omega);refine Qp (Qc (zR (zA (zN (Qm (zR ?_))))));refine zM ?_;refine zQ JY ?_;refine zM (zN (Qr ?_));refine zU [(2,_),(13,_),(14,_)] (fun T L0 mz E I' loc'=>∃ (k:Nat) (v:Value) (Lw:Go.Kn.Loc) (xs:List Nt),mz=n-k∧E=(4,v)::(15,.int .i64 k)::T∧HLe I I'∧Lw++[(b_2,.cells #[.slice none 0 0] 59 (0,0))]=loc'∧k≤n∧ZP 45 45 v k (xs.flatMap Q7) Lw∧LdK I' (rs.take k) xs) ?_ (h:=⟨0,_,[],[],rfl,rfl,zCA _,rfl,Nat.zero_le _,ZP.nil,LdK.nil⟩);rintro mz E J1 loc' ⟨k,v,Lw,xs,rfl,rfl,hJ,rfl,hk,hO,hLK⟩;have hR:=hR.mono hJ;have hIc:=hIc.trans hJ;have hB0:=hJ;refine zR (zC (zN (Qm ?_)));refine zI ?_ ?_<;>intro hc16
 ·
  have hlt_k:k<n:=(by have h:=hc16;simp at h;omega);obtain ⟨r,hr⟩:∃ y,rs[k]? =some y:=⟨_,List.getElem?_eq_getElem kB⟩;have hrm:=List.mem_of_getElem? hr;have hy:=hR.m r hrm;refine Qp (Qc (Qm (Qr (zR<|zV (QC rfl rfl JY hR.sl (fun hg=>kB))<|zV (Qd rfl Jm (fun hg=>by exact zCt hR.sl hr rfl))<|zA<|zN (zR ?_)))));refine zM<|zpc [_] rfl zlE .nil (zoI hy.sl hy.byte (hb r hrm)) ?_
  rintro vv2 I2 L2 hI2 ⟨rfl,cs,bb,rfl,hrd⟩;have hLK:=hLK.mono hI2;have hIc:=hIc.trans hI2;have hB0:=hB0.trans hI2;refine zM ?_;refine zE ?_;refine zE ?_;refine Qt UW rfl rfl (fun b_7=>?_);refine VV (old:=Q7 zcX) rfl rfl Vk hrd.1.1 rfl hrd.1.2 rfl (by repeat (first | exact Upd.here | apply Upd.there | apply ZC)) ?_;refine zA (zN (Qm (zR<|zM<|zO (zN ?_))));refine zI ?_ ?_<;>intro hc25
  ·
   have hno:okN r.bytes=none:=(by have h:=zdo hrd;have h2:bb=false:=(by simpa using hc25);rw [h2] at h;simpa using h);refine zR<|zV (Qg rfl Vj (fun hg=>by (repeat (first | exact zCy | apply zCx | apply zCz))) rfl) ?_
   refine zh US<|zA (zN (Qs (Qf (Qj (Qf (Qf (Qj<|Qf ?_)))))))
   exact Zz rfl rfl rfl Vj ka rfl (fun w hw=>⟨_,I2,[],rfl,hIc,hw.subL Qx,rfl,.inr (.inl ⟨kB,⟨r,hrm,hno⟩,rfl⟩)⟩)
  obtain ⟨t9,_,rfl,hNd9,hok9⟩:=zet hrd (by rw [zdo hrd];simpa using hc25);have hbl9:r.bytes.length≤100000:=(by have h:=hy.sl.len;have h2:=hb r hrm;omega);have hTM:=zdU hy.byte hbl9 hok9 hNd9;have hTf:=zcv hy.byte hbl9 hok9 hNd9;refine Qp (Qc (Qh (zM<|zV (Qg rfl Q8 (fun hg=>by exact Cells.g0) rfl)<|zpb [(0,_)] [Q7 t9] ZH (fun b_29=>?_))));refine zpa (_) ([t9].flatMap Q7) (Lw) rfl rfl ZH hO ⟨rfl,fun _=>rfl,by repeat (first | exact zCy | apply zCx | apply zCz)⟩ (V8 [t9]) ?_;intro v9 L9 hO9 _;rw [←List.flatMap_append] at hO9;refine zA (Qb (Qi (Qc (Qh<|zB<|zM (Qb ?_)))));exact zm (h:=⟨n-(k+1),kB,k+1,_,_,_,rfl,rfl,hB0,rfl,kB,hO9,by rw [Za hr];exact hLK.snoc hok9 hTM hTf⟩)
 have hge_k:n≤k:=(by have h:=hc16;simp at h;omega);obtain rfl:k=n:=kB;rw [ZB hln (Nat.le_refl _)] at hLK;refine Q6 (Ql (Ql (Qq (Qc (zR (zM<|zpc [_,_] rfl zwN QR (zvN (fun x hx=>(hLK.all x hx).1) hO kB) ?_))))));rintro vv3 I3 L3 hI3 ⟨rfl,rfl,ys,hperm,hpw,hO2⟩;have hLK:=hLK.mono hI3;have hIc:=hIc.trans hI3;refine zN (zR ?_);refine zM<|zpc [_,_] rfl zyX QR (zyW hO2 (by rw [hperm.length_eq,hLK.len];exact hln) (fun x hx=>(hLK.all x (hperm.mem_iff.1 hx)).1) kB) ?_
 rintro vv4 I4 L4 hI4 ⟨rfl,hO3⟩;have hLK:=hLK.mono hI4;have hIc:=hIc.trans hI4;refine zF Zx ?_;refine zx8 zfl hO3.one ?_;refine zN (Qm<|zx4 hO3 Zl (fun I5 hI5 af5 cf5 ef5 hZ=>?_));subst ef5;have hLK:=hLK.mono hI5;have hIc:=hIc.trans hI5;refine Qh<|zV (Qg rfl Vj (fun hg=>by exact Cells.g0) rfl) ?_
 refine zh US<|zA (zN (Qs ?_))
 exact Zz rfl rfl rfl Vj (by exact zCy) rfl (fun w hw=>⟨_,I5,[],rfl,hIc,hw.subL Qx,rfl,.inr (.inr ⟨kB,_,_,_,_,rfl,zzD hLK hperm hpw (by rw [hperm.length_eq,hLK.len,hln];exact hZ)⟩)⟩)
def smC (p q:Pt):Bool:=(((((p.id != q.id||p.kind != q.kind)||p.sign != q.sign)||p.field != q.field)|| !zjW p.nw q.nw)||(p.n:Int) != (q.n:Int))
def smP (p q:Pt):Bool:= !smC p q&&decide (p.needs=q.needs)
variable{p q:Pt}
theorem zzR (h:smC p q=true):smP p q=false:=by simp [smP,h]
theorem zqx (h:smC p q=false):smP p q=decide (p.needs=q.needs):=by simp [smP,h]
theorem zzV (h:smC p q=false):p.n=q.n:=by
 unfold smC at h;rw [Bool.or_eq_false_iff] at h;have:=h.2;simp only [bne_eq_false_iff_eq] at this;omega
variable{k:Nat}
theorem zaA {xs ys:List Int}{x y:Int}(h:xs.take k=ys.take k)(hx:xs[k]? =some x)(hy:ys[k]? =some y)(e:x=y):xs.take (k+1)=ys.take (k+1):=by rw [Za hx,Za hy,h,e]
theorem zzg {xs ys:List Int}{x y:Int}(hx:xs[k]? =some x)(hy:ys[k]? =some y)(e:x≠y):xs≠ys:=fun h=>by rw [h,hy] at hx;exact e (Option.some.inj hx).symm
def smN (x y:Nt):Bool:=((((x.kind==y.kind)&&zpk x.lm y.lm)&&smP x.pt y.pt)&&L.lsEq x.ls y.ls)&&S.rtEq x.rt y.rt
def smL:List Nt→List Nt→Bool
 | [],[]=>true
 | x::xs,y::ys=>smN x y&&smL xs ys
 | _,_=>false
theorem zlb:∀ {xs ys:List Nt},xs.length≠ys.length→smL xs ys=false
 | [],[],h=>absurd rfl h
 | [],_::_,_=>rfl
 | _::_,[],_=>rfl
 | x::xs,y::ys,h=>by simp only [smL,zlb (xs:=xs) (ys:=ys) (by simpa using h),Bool.and_false]
theorem zr7:∀ {xs ys:List Nt} {k:Nat} {x y:Nt},xs[k]? =some x→ys[k]? =some y→smN x y=false→smL xs ys=false
 | [],_,_,_,_,h,_,_=>by simp at h
 | _::_,[],_,_,_,_,h,_=>by simp at h
 | a::xs,b::ys,0,x,y,hx,hy,h=>by cases hx;cases hy;simp [smL,h]
 | a::xs,b::ys,k+1,x,y,hx,hy,h=>by
  have:=zr7 (xs:=xs) (ys:=ys) (k:=k) (by simpa using hx) (by simpa using hy) h;simp [smL,this]
theorem zm4:∀ {xs ys:List Nt},xs.length=ys.length→(∀ (j:Nat) (x y:Nt),j<xs.length→xs[j]? =some x→ys[j]? =some y→smN x y=true)→smL xs ys=true
 | [],[],_,_=>rfl
 | [],_::_,h,_=>by simp at h
 | _::_,[],h,_=>by simp at h
 | x::xs,y::ys,hl,h=>by
  rw [smL,h 0 x y kJ rfl rfl,zm4 (by simpa using hl) (fun j u v hj hu hv=>h (j+1) u v (by simpa using hj) (by simpa using hu) (by simpa using hv))];rfl
theorem zoy (hx:xs[k]? =some x)(hy:ys[k]? =some y)(h:∀ (j:Nat) (u v:Nt),j<k→xs[j]? =some u→ys[j]? =some v→smN u v=true)(e:smN x y=true):∀ (j:Nat) (u v:Nt),j<k+1→xs[j]? =some u→ys[j]? =some v→smN u v=true:=fun j u v hj hu hv=>by
 rcases Nat.lt_or_ge j k with h1 | h1
 ·
  exact h j u v h1 hu hv
 ·
  have:j=k:=kB;subst this;rw [hx] at hu;rw [hy] at hv;cases hu;cases hv;exact e
theorem zlz:Fun Tryz.prog 85:=.of Tryz.func85 kA kA
theorem zsC:Fun Tryz.prog 86:=.of Tryz.func86 kA kA
theorem zyc (hP:Nd I p)(hQ:Nd I q)(hn:p.n≤100000):ZF Tryz.prog 85 [Ko p,Ko q] I (.bool (smP p q)):=by
 intro g H w hw;refine qe Tryz.func85 Tryz.ntmps85 hw ?_;have hIc:=zCA I;have hl1:p.needs.length=p.n:=hP.len;have hl2:q.needs.length=q.n:=hQ.len;refine zR<|QQ rfl rfl rfl (fun b_2=>QQ rfl rfl rfl (fun b_3=>zA (Qb<|QH .here (fun I1 hI1 hb1=>?_))))
 have hP:=hP.mono hI1;have hQ:=hQ.mono hI1;have hIc:=hIc.trans hI1;have h3:=BxI.of hb1;refine QH .here (fun I2 hI2 hb2=>?_);have hP:=hP.mono hI2;have hQ:=hQ.mono hI2;have h3:=h3.mono hI2;have hIc:=hIc.trans hI2;have h2:=BxI.of hb2;refine Qc (Qm (zR<|zF ZR ?_));refine zV (Qd rfl Qn (fun hg=>by exact Qz.imm h2.out rfl))<|zF ZR ?_
 refine zV (Qd rfl Qn (fun hg=>by exact Qz.imm h3.out rfl))<|zC<|zM ?_
 refine QK 5 rfl rfl rfl ?_;refine zJ (Qa rfl V2)<|zJ (Qd rfl Qn (fun hg=>by exact Qz.imm h2.out rfl))<|zJ (Qa rfl V2)<|zJ (Qd rfl Qn (fun hg=>by exact Qz.imm h3.out rfl))<|zJ (QE rfl rfl rfl)<|Zf rfl rfl rfl rfl rfl ?_
 refine zM ?_;refine QK 12 rfl rfl rfl ?_;refine zJ (Qa rfl Ym)<|zJ (Qd rfl Qn (fun hg=>by exact Qz.imm h2.out rfl))<|zJ (Qa rfl Ym)<|zJ (Qd rfl Qn (fun hg=>by exact Qz.imm h3.out rfl))<|zJ (QE rfl rfl rfl)<|Zf rfl rfl rfl rfl rfl ?_
 refine zM ?_;refine QK 19 rfl rfl rfl ?_;refine zJ (Qa rfl Yz)<|zJ (Qd rfl Qn (fun hg=>by exact Qz.imm h2.out rfl))<|zJ (Qa rfl Yz)<|zJ (Qd rfl Qn (fun hg=>by exact Qz.imm h3.out rfl))<|zJ (QE rfl rfl rfl)<|Zf rfl rfl rfl rfl rfl ?_
 refine zM ?_;refine QK 26 rfl rfl rfl ?_;refine zJ (Qa rfl YL)<|zJ (Qg rfl ZJ (fun hg=>by exact zkb (BxI.cells (vs:=K2 p) h2)) rfl)<|zJ (Qa rfl YL)<|zJ (Qg rfl ZJ (fun hg=>by exact zkb (BxI.cells (vs:=K2 q) h3)) rfl)<|zJ (zhk rfl rfl W7 rfl)<|Zf rfl rfl rfl rfl rfl ?_
 refine zM ?_;refine QK 33 rfl rfl rfl ?_;refine zJ (Qa rfl ZL)<|zJ (Qd rfl YW (fun hg=>by exact Qz.imm h2.out rfl))<|zJ (QV rfl Q4)<|zJ (Qa rfl ZL)<|zJ (Qd rfl YW (fun hg=>by exact Qz.imm h3.out rfl))<|zJ (QV rfl Q4)<|zJ (QE rfl rfl rfl)<|Zf rfl rfl rfl rfl rfl<|zN ?_
 refine zI ?_ ?_<;>intro hc47
 ·
  have hcc:smC p q=true:=hc47;exact zR (zA (zN (Qs (Qf<|QA rfl rfl (fun w hw=>⟨by rw [zzR hcc],(hw.mono hIc).subL Qx⟩)))))
 have hcc:smC p q=false:=hc47;have hnn:=zzV hcc;refine Qp (Qc (Qm (zR (zA (zN (Qr<|zU [(2,_),(3,_)] (fun T L0 mz E I' loc'=>∃ (k:Nat),mz=p.n-k∧E=(5,.int .i64 k)::T∧I2=I'∧L0=loc'∧k≤p.n∧p.needs.take k=q.needs.take k) ?_ (h:=⟨0,rfl,rfl,rfl,rfl,Nat.zero_le _,rfl⟩)))))));rintro mz E I' loc' ⟨k,rfl,rfl,rfl,rfl,hk,htk⟩;refine Qm (zR (zM<|zF ZL ?_));refine zV (Qd rfl YW (fun hg=>by exact Qz.imm h2.out rfl))<|zQ Q4<|zC (zN ?_)
 refine zI ?_ ?_<;>intro hc52
 ·
  have hlt_k:k<p.n:=(by have h:=hc52;simp at h;omega);obtain ⟨x,hx⟩:∃ y,p.needs[k]? =some y:=⟨_,List.getElem?_eq_getElem kB⟩;obtain ⟨y,hy⟩:∃ y,q.needs[k]? =some y:=⟨_,List.getElem?_eq_getElem kB⟩;refine Qp (Qc (Qm (Qr (Qm ?_))));have hD:=zCA I2;refine Zm<|QI I2 [] mixed<|zT 0 rfl (Qa rfl ZL) hD<|zT 1 rfl (Qd rfl YW (fun hg=>by exact Qz.imm h2.out rfl)) hD<|zT 2 rfl (Qe rfl) hD<|zT 3 rfl (zX Q4 hP) hD<|zT 4 rfl (Qd rfl Qn (fun hg=>by exact zCt hP hx rfl)) hD<|zT 5 rfl (Qa rfl ZL) hD<|zT 6 rfl (Qd rfl YW (fun hg=>by exact Qz.imm h3.out rfl)) hD<|zT 7 rfl (Qe rfl) hD<|zT 8 rfl (zX Q4 hQ) hD<|zT 9 rfl (Qd rfl Qn (fun hg=>by exact zCt hQ hy rfl)) hD ?_
  refine zT 10 rfl (QE rfl rfl rfl) hD<|Qo kA<|Qw<|Qc ?_
  refine zI ?_ ?_<;>intro hc65
  ·
   have hxy:x≠y:=(by simpa using hc65);exact zR (zA (zN (Qs (Qj (Qf (Qf (Qj<|Qf<|QA rfl rfl (fun w hw=>⟨by rw [zqx hcc,decide_eq_false (zzg hx hy hxy)],(hw.mono hIc).subL Qx⟩))))))))
  have hxy:x=y:=(by simpa using hc65);refine Qp (Qi (Qc (Qh (zM ?_))));exact zB<|zA (Qb<|zm (h:=⟨p.n-(k+1),kB,k+1,rfl,rfl,rfl,rfl,kB,zaA htk hx hy hxy⟩))
 have hge_k:p.n≤k:=(by have h:=hc52;simp at h;omega);rw [ZB hl1 hge_k,ZB hl2 kB] at htk;refine Q6 (Ql (Ql (Qq (Qc (zR (zA (zN<|Qs ?_)))))));exact QA rfl rfl (fun w hw=>⟨by rw [zqx hcc,htk];simp,(hw.mono hIc).subL Qx⟩)
theorem zzu (hX:Nd I x.pt)(hY:Nd I y.pt)(hn:x.pt.n≤100000):ZF Tryz.prog 86 [Kj x,Kj y] I (.bool (smN x y)):=by
 intro g H w hw;refine qe Tryz.func86 Tryz.ntmps86 hw ?_;have hIc:=zCA I;refine zR<|QQ rfl rfl rfl (fun b_2=>QQ rfl rfl rfl (fun b_3=>zA (Qb<|QH .here (fun I1 hI1 hb1=>?_))))
 have hX:=hX.mono hI1;have hY:=hY.mono hI1;have hIc:=hIc.trans hI1;have h3:=BxI.of hb1;refine QH .here (fun I2 hI2 hb2=>?_);have hX:=hX.mono hI2;have hY:=hY.mono hI2;have h3:=h3.mono hI2;have hIc:=hIc.trans hI2;have h2:=BxI.of hb2;refine Qc (zR<|zF YV ?_);refine zV (Qd rfl Qn (fun hg=>by exact Qz.imm h2.out rfl))<|zF YV ?_
 refine zV (Qd rfl Qn (fun hg=>by exact Qz.imm h3.out rfl))<|zC<|zM<|Qu 5 rfl rfl rfl ?_
 refine zK (Qa rfl YX)<|zK (Qg rfl Jr (fun hg=>by exact zdW (BxI.cells (vs:=Q7 x) h2)) rfl) ?_
 refine zK (Qa rfl YX)<|zK (Qg rfl Jr (fun hg=>by exact zdW (BxI.cells (vs:=Q7 y) h3)) rfl)<|zK (U4 rfl rfl zeA rfl)<|QD rfl rfl rfl rfl rfl ?_
 refine zM<|Qu 12 rfl rfl rfl ?_
 refine zK (Qa rfl Yi)<|zK (Qg rfl Y6 (fun hg=>by exact za1 (BxI.cells (vs:=Q7 x) h2)) rfl) ?_
 refine zK (Qa rfl Yi)<|zK (Qg rfl Y6 (fun hg=>by exact za1 (BxI.cells (vs:=Q7 y) h3)) rfl)<|qg (vs:=[_,_]) rfl zlz (fun hg=>zyc hX hY hn)<|QD rfl rfl rfl rfl rfl ?_
 refine zM<|Qu 19 rfl rfl rfl ?_
 refine zK (Qa rfl Vy)<|zK (Qg rfl Jp (fun hg=>by exact zdJ (BxI.cells (vs:=Q7 x) h2)) rfl) ?_
 refine zK (Qa rfl Vy)<|zK (Qg rfl Jp (fun hg=>by exact zdJ (BxI.cells (vs:=Q7 y) h3)) rfl)<|zK (U6 rfl rfl zeW rfl)<|QD rfl rfl rfl rfl rfl ?_
 refine zM<|Qu 26 rfl rfl rfl ?_
 refine zK (Qa rfl Yj)<|zK (Qg rfl YE (fun hg=>by exact zez (BxI.cells (vs:=Q7 x) h2)) rfl) ?_
 refine zK (Qa rfl Yj)<|zK (Qg rfl YE (fun hg=>by exact zez (BxI.cells (vs:=Q7 y) h3)) rfl)<|zK (U6 rfl rfl XL rfl)<|QD rfl rfl rfl rfl rfl<|zA (zN (Qs ?_))
 exact QA rfl rfl (fun w hw=>⟨by rfl,(hw.mono hIc).subL Qx⟩)
theorem zzA {bv:Option Addr}{n2 c2:Nat}(hS:Sl I 45 Q7 av n c xs)(hT:Sl I 45 Q7 bv n2 c2 ys)(hNd:∀ x∈xs,Nd I x.pt)(hNe:∀ y∈ys,Nd I y.pt)(hsm:∀ x∈xs,x.pt.n≤100000)(hn:n≤100000):ZF Tryz.prog 31 [.slice av n c,.slice bv n2 c2] I (.bool (smL xs ys)):=by
 intro g H w hw;refine qe Tryz.func31 Tryz.ntmps31 hw ?_;have hl1:=hS.len;have hl2:=hT.len;refine zR (zA (zN (Qm (zR ?_))));refine zM ?_;refine zQ QZ ?_;refine zM ?_;refine zQ QZ<|zC (zN ?_)
 refine zI ?_ ?_<;>intro hc10
 ·
  refine zR (zA (zN (Qs (Qf ?_))));exact QA rfl rfl (fun w hw=>⟨by rw [zlb (by simp at hc10;omega)],hw⟩)
 have h10:n=n2:=(by have h:=hc10;simp at h;omega);refine Qp (Qc (Qm (zR (zA (zN (Qr<|zU [(0,_),(1,_)] (fun T L0 mz E I' loc'=>∃ (k:Nat),mz=n-k∧E=(5,.int .i64 k)::T∧I=I'∧L0=loc'∧k≤n∧(∀ (j:Nat) (u v:Nt),j<k→xs[j]? =some u→ys[j]? =some v→smN u v=true)) ?_ (h:=⟨0,rfl,rfl,rfl,rfl,Nat.zero_le _,fun j u v h=>absurd h (Nat.not_lt_zero _)⟩)))))));rintro mz E I' loc' ⟨k,rfl,rfl,rfl,rfl,hk,hall⟩;refine Qm (zR (zM<|zM ?_));refine zQ QZ<|zC (zN ?_)
 refine zI ?_ ?_<;>intro hc14
 ·
  have hlt_k:k<n:=(by have h:=hc14;simp at h;omega);obtain ⟨x,hx⟩:∃ y,xs[k]? =some y:=⟨_,List.getElem?_eq_getElem kB⟩;obtain ⟨y,hy⟩:∃ y,ys[k]? =some y:=⟨_,List.getElem?_eq_getElem kB⟩;have hxm:=List.mem_of_getElem? hx;have hym:=List.mem_of_getElem? hy;refine Qp (Qc (Qm (Qr (Qm ?_))));have hD:=zCA I;refine Zm<|QI I [] mixed<|zT 0 rfl (Qe rfl) hD<|zT 1 rfl (Qe rfl) hD<|zT 2 rfl (zX QZ hS) hD<|zT 3 rfl (Qg rfl Q8 (fun hg=>by exact zCB hS hx) rfl) hD<|zT 4 rfl (Qe rfl) hD<|zT 5 rfl (Qe rfl) hD<|zT 6 rfl (zX QZ hT) hD<|zT 7 rfl (Qg rfl Q8 (fun hg=>by exact zCB hT hy) rfl) hD<|qd 8 rfl<|qcV (vs:=[_,_]) rfl zsC (zzu (hNd x hxm) (hNe y hym) (hsm x hxm)) ?_
  refine Qb<|zD hD<|zT 9 rfl (Zy rfl) hD<|Qo kA<|Qw<|Qc ?_
  refine zI ?_ ?_<;>intro hc26
  ·
   exact zR (zA (zN (Qs (Qj (Qf (Qf (Qj<|Qf<|QA rfl rfl (fun w hw=>⟨by rw [zr7 hx hy (by simpa using hc26)],hw⟩))))))))
  have hxy:smN x y=true:=(by simpa using hc26);refine Qp (Qi (Qc (Qh (zM ?_))));exact zB<|zA (Qb<|zm (h:=⟨n-(k+1),kB,k+1,rfl,rfl,rfl,rfl,kB,zoy hx hy hall hxy⟩))
 have hge_k:n≤k:=(by have h:=hc14;simp at h;omega);refine Q6 (Ql (Ql (Qq (Qc (zR (zA (zN<|Qs ?_)))))));exact QA rfl rfl (fun w hw=>⟨by rw [zm4 kB (fun j u v hj hu hv=>hall j u v kB hu hv)],hw⟩)
theorem zyz {n:Int}(hn: -9223372036854775808≤n∧n≤9223372036854775807)(h:n≥0):IntKind.u64.wrap (2*IntKind.u64.wrap n)=((zz n:Nat):Int):=by
 rw [ZS (n:=n) ⟨kB,kB⟩,ZS ⟨kB,kB⟩];unfold zz;rw [if_pos h];omega
theorem zz2 {n:Int}(hn: -9223372036854775808≤n∧n≤9223372036854775807)(h:¬n≥0):IntKind.u64.wrap (IntKind.u64.wrap (2*IntKind.u64.wrap (IntKind.i64.wrap (-(IntKind.i64.wrap (n+1)))))+1)=((zz n:Nat):Int):=by
 rw [YA (n:=n+1) ⟨kB,kB⟩,YA ⟨kB,kB⟩,ZS (n:= -(n+1)) ⟨kB,kB⟩,ZS (n:=2* -(n+1)) ⟨kB,kB⟩,ZS ⟨kB,kB⟩];unfold zz;rw [if_neg h];omega
theorem zCb (u:Nat):(u:Int).tmod 128=((u % 128:Nat):Int):=rfl
theorem zBQ (u:Nat):(u:Int).tdiv 128=((u / 128:Nat):Int):=rfl
theorem zw9 (u:Nat):IntKind.u8.wrap (IntKind.u64.wrap ((u:Int).tmod 128+128))=((u % 128+128:Nat):Int):=by
 rw [zCb,ZS ⟨kB,kB⟩,zbS ⟨kB,kB⟩];omega
variable{u:Nat}
theorem zyO (hu:u<2^64):IntKind.u64.wrap ((u:Int).tdiv 128)=((u / 128:Nat):Int):=by
 rw [zBQ,ZS ⟨kB,kB⟩]
def YQ (bs:List Nat)(v:Value)(I':Qv)(L':Go.Kn.Loc):Prop:=L'=[]∧∃ a c,v= .slice a bs.length c∧Sl I' 1 VT a bs.length c bs
theorem zc1 {bs bs':List Nat}(h:Sl I 1 VT a n c bs')(e:bs=bs'):YQ bs (.slice a n c) I []:=by
 subst e;have:=h.len;subst this;exact ⟨rfl,a,c,rfl,h⟩
variable{e b:Nat}
theorem znR (x:Nat):ZP e 1 (.slice (some ⟨b,0,none⟩) 1 1) 1 (([x]:List Nat).flatMap VT) [(b,.cells (VT x).toArray e (0,0))]:=
 ⟨rfl,.inr ⟨b,1,_,rfl,rfl,Nat.le_refl _,by decide,rfl,rfl⟩⟩
theorem zkf (l:List Va)(k:Nat):Va.depthL (l.take k)≤Va.depthL l:=by
 conv=>rhs;rw [←List.take_append_drop k l]
 rw [zak];omega
variable{l:List Va}
theorem zbj {x:Va}(hx:l[k]? =some x):Va.encL (l.take (k+1))=Va.encL (l.take k)++Va.enc x:=by
 have h:l.take (k+1)=l.take k++[x]:=by
  obtain ⟨h1,h2⟩:=List.getElem?_eq_some_iff.1 hx;rw [List.take_add_one,List.getElem?_eq_getElem h1,h2];rfl
 rw [h,Va.encL_append];simp [Va.encL]
theorem zlL (xs:List Int):(xs.flatMap ZX).length=xs.length:=by rw [Yh YM,Nat.mul_one]
variable{cs:List Value}
theorem zCl (xs:List Int)(hn:xs.length=n)(hc:cs=xs.flatMap ZX)(hm:n≤maxLen):ZP e 1 (.slice (some ⟨b,0,none⟩) n n) n (xs.flatMap ZX) [(b,.cells cs.toArray e (0,0))]:=by
 subst hn;subst hc;have h:=zlL xs
 exact ⟨by rw [h,Nat.mul_one],.inr ⟨b,_,_,rfl,rfl,Nat.le_refl _,hm,by rw [List.size_toArray,h,Nat.mul_one],by
  show (xs.flatMap ZX).take _=_
  rw [Nat.mul_one,←h,List.take_length]⟩⟩
theorem zce:Fun Tryz.prog 220:=.of Tryz.func220 kA kA
theorem zyh (I:Qv){n:Int}(hn: -9223372036854775808≤n∧n≤9223372036854775807):ZF Tryz.prog 221 [.int .i64 n] I (.int .u64 (zz n)):=by
 intro g H w hw;refine qe Tryz.func221 Tryz.ntmps221 hw ?_;refine zR (zA (zN (Qm (zR ?_))));refine zM<|zC (zN ?_)
 refine zI ?_ ?_<;>intro hc4
 ·
  have h4:n≥0:=(by simpa using hc4);refine zR (zM<|zV (ZM rfl VA)<|zV (UU rfl rfl rfl)<|zA (zN (Qs (Qf ?_))));exact QA rfl rfl (fun w hw=>⟨by rw [←zyz hn h4],hw⟩)
 have h4:¬n≥0:=(by simpa using hc4);refine Qp (Qc (zR (zM<|zV (UU rfl rfl rfl)<|zV (zje rfl)<|zV (ZM rfl VA)<|zV (UU rfl rfl rfl)<|zV (UU rfl rfl rfl) ?_)));refine zA (zN (Qs ?_));exact QA rfl rfl (fun w hw=>⟨by rw [←zz2 hn h4,Int.zero_sub],hw⟩)
theorem zhI (hu:u<2^64)(ih:(∀ u',u'<u→∀ I,Y7 Tryz.prog 220 [.int .u64 (u':Nat)] I [] (YQ (Kg u')))):Y7 Tryz.prog 220 [.int .u64 (u:Nat)] I [] (YQ (Kg u)):=by
 intro g H w hw;refine qe Tryz.func220 Tryz.ntmps220 hw ?_;have hIc:=zCA I;have h10:=UJ hu;have h10b:=UJ (u:=u / 128) kB;refine zR (zA (zN (Qm (zR ?_))));refine zM<|zC (zN ?_)
 refine zI ?_ ?_<;>intro hc4
 ·
  have hlt:u<128:=(by have h:=hc4;simp at h;omega);refine zR (zM<|zV (Y4 (ZM rfl X0) (congrArg (Value.int .u8) (zbS (n:=(u:Int)) ⟨kB,kB⟩)))<|zpb [(0,_)] [VT u] Vt (fun b_7=>zA (Qb<|QH .here (fun I1 hI1 hb1=>?_))));have hIc:=hIc.trans hI1;have hZ:=Sl.lit (enc:=VT) [u] rfl Y8 hb1;exact Qc (Qs (Qf<|QA rfl rfl (fun w hw=>⟨_,I1,[],rfl,hIc,by exact hw,zc1 hZ (by rw [Vv hlt])⟩)))
 have hge:¬u<128:=(by have h:=hc4;simp at h;omega);refine Qp (Qc (zR (zM<|zV (Ya rfl rfl (fun hg=>by decide))<|zV (UU rfl rfl rfl)<|zV (Y4 (ZM rfl X0) (congrArg (Value.int .u8) (zw9 u)))<|zpb [(0,_)] [VT (u % 128+128)] Vt (fun b_12=>zM<|zV (Y4 (zmi rfl rfl (fun hg=>by decide)) (congrArg (Value.int .u64) (zyO hu)))<|zpc [_] rfl zce .nil (ih (u / 128) kB _) ?_))));rintro vv2 I2 L2 hI2 ⟨rfl,a9,c9,rfl,hS9⟩;have hIc:=hIc.trans hI2;refine zpa (_) ((Kg (u / 128):List Nat).flatMap VT) ([(b_12,_)]) rfl rfl Vt (znR (u % 128+128)) (hS9.src Y8) (zbH _) ?_;intro v9 L9 hO9 _;rw [←List.flatMap_append] at hO9;refine zA (Qb<|zx4 hO9 Y8 (fun I3 hI3 af3 cf3 ef3 hZ=>?_));subst ef3;have hIc:=hIc.trans hI3;refine Qc (Qs ?_);exact QA rfl rfl (fun w hw=>⟨_,I3,[],rfl,hIc,by exact hw,zc1 hZ (by rw [X8 hge];rfl)⟩)
end
end Go.Proofs.YtjblkbkmblkgoaaGreat
