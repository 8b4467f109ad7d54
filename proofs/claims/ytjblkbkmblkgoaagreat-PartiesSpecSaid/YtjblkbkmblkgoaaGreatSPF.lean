/- partiesSpec_holds, part F of the proof: what its theorems say holds without further conditions. -/
import Derived.Test.YtjblkbkmblkgoaaGreatSPE
namespace Go.Proofs.YtjblkbkmblkgoaaGreat
section
open Go Go.Kn Go.Proofs
theorem Wz:QM Tryz.prog 47 2 2:=.of kA
theorem zs7:Fun Tryz.prog 112:=.of Tryz.func112 kA kA
theorem ztY {I:Qu}{bc b2 b3:Nat}{pa qa aa:Option Addr}{pn pc qn qc an ac:Nat}{ps:List Pe}{pe:Pe}(x:Ev)(h2:BxI I b2 (.cells #[ZI bc] 105 (0,0)))(h3:BxI I b3 (.cells (U3 x).toArray 47 (0,0)))(hPs:Sl I 1 U4 pa pn pc ps)(hpr:0≤x.peer∧x.peer<(pn:Int))(hpe:ps[x.peer.toNat]? =some pe)(hN:WB I pe.a pe.n pe.c pe.notes)(hf:∀ y∈pe.notes,QN y=true)(_hpn:pn≤100000)(hnn:pe.n≤100000):zfD Tryz.prog 112 [ZI b2,ZI b3] I [(bc,.cells #[.slice pa pn pc,.slice qa qn qc,.slice aa an ac] 108 (0,0))] zyS (pe.notes.map (pkN x.peer x.to_)):=by
 intro g l J Jx hJm hY I0 H w h0 hJ hb hw;have hbc:=hb _ (List.mem_singleton.2 rfl);have hw:=hw.peek hbc;have hI0:=zB6 I0;have hCI:=zB6 I0;have h2:=h2.mono h0;have h3:=h3.mono h0;have hPs:=hPs.mono h0;have hN:=hN.mono h0;have hNl:=hN.sl.len;refine qe Tryz.func112 Tryz.ntmps112 hw<|Qm ?_
 have hD:=zB6 I0;refine Zn<|zbt I0 [(bc,.cells #[.slice pa pn pc,.slice qa qn qc,.slice aa an ac] 108 (0,0))] mixed<|zx1 0 rfl (fun _=>Qc rfl KN (fun hg=>by exact Qy.imm h2.out rfl)) hD<|zx1 1 rfl (fun _=>QC rfl) hD<|zx1 2 rfl (fun _=>Qa rfl Yt) hD<|zx1 3 rfl (fun _=>Qa rfl Zp) hD<|zx1 4 rfl (fun _=>Qc rfl Z6 (fun hg=>by exact Qy.h0 rfl)) hD<|zx1 5 rfl (fun _=>Qa rfl Y5) hD<|zx1 6 rfl (fun _=>Qc rfl Ql (fun hg=>by exact Qy.imm h3.out rfl)) hD<|zx1 7 rfl (fun _=>zX Z4 hPs) hD<|zx1 8 rfl (fun _=>Qa rfl ZK) hD<|zx1 9 rfl (fun _=>Qc rfl Y1 (fun hg=>by exact zBZ hPs hpe rfl)) hD ?_
 refine zx1 10 rfl (fun _=>QT rfl Zj) hD<|zx1 11 rfl (fun _=>Qe rfl) hD<|zek kA<|Qv<|zfj hbc<|Qd (Qw<|zgB (fun m E I' H' loc'=>∃ k:Nat,m=pe.n-k∧E=[(0,.func (.yield l) #[] #[]),(1,ZI b2),(2,ZI b3),(15,.slice pe.a pe.n pe.c),(16,.int .i64 pe.n),(17,.int .i64 k)]∧loc'=[]∧HLe I0 I'∧k≤pe.n∧J ((pe.notes.take k).map (pkN x.peer x.to_)) I' H') _ _ _ ⟨0,rfl,rfl,rfl,zB6 _,Nat.zero_le _,hJ⟩ (.cons rfl (.cons rfl (.cons rfl (.cons rfl (.cons rfl (.cons rfl .nil)))))) rfl ?_)
 rintro m E J9 H' loc' ⟨k,rfl,rfl,rfl,hI1,hk,hJk⟩;have h3:=h3.mono hI1;have hN:=hN.mono hI1;have hI0:=hI1;have hCI:=zB6 J9;refine zR (zC (zN (Qm ?_)));refine zI ?_ ?_<;>intro hc18
 ·
  have hlt:k<pe.n:=(by have h:=hc18;simp at h;omega);obtain ⟨y,hy⟩:∃ y,pe.notes[k]? =some y:=⟨_,List.getElem?_eq_getElem kB⟩;have hym:=List.mem_of_getElem? hy;have hM:=hN.m y hym (hf y hym);refine Qr (Qd (Qm (Qw (zR<|zV (QG rfl rfl Zj hN.sl (fun hg=>kB))<|zV (Qg rfl Zc (fun hg=>by exact zB7 hN.sl hy) rfl)<|Qp U2 rfl rfl (fun b_5=>?_)))));refine zh Vk<|zN (Qm ?_)
  have hD:=zB6 J9;refine Zn<|zbt J9 [(b_5,.cells (Zf y).toArray 45 (0,0))] mixed<|zx1 0 rfl (fun _=>Qe rfl) hD<|zx1 1 rfl (fun _=>Qa rfl Y5) hD<|zx1 2 rfl (fun _=>Qc rfl Ql (fun hg=>by exact Qy.imm h3.out rfl)) hD<|zx1 3 rfl (fun _=>Qa rfl Wz) hD<|zx1 4 rfl (fun _=>Qc rfl Ql (fun hg=>by exact Qy.imm h3.out rfl)) hD<|zx1 5 rfl (fun _=>Qg rfl Zc (fun hg=>by exact Cells.g0) rfl) hD<|zc1 6 rfl kA<|qcV (vs:=[_]) rfl zeY (zmc y hM.nd hM.nn hM.ok hM.len)<|Qb ?_
  refine zjF hD kH ?_;refine zc1 7 rfl kA<|Xf (s:=za7 y) rfl zmu rfl rfl (fun b9 c9 I1 hI1 hB=>?_)
  have hI0:=hI0.trans hI1;have hCI:=hCI.trans hI1;have hD:=hD.trans hI1;refine Qb ?_;refine zjF hD kH ?_;refine zx1 8 rfl (fun _=>QD (ps:=[(0,_),(1,_),(2,_)]) [_,_,_] zbP rfl rfl) hD<|zc1 9 rfl kA<|zbH (vs:=[_]) (Post:=fun b I2 H2=>if b then J (((pe.notes.take k).map (pkN x.peer x.to_))++[pkN x.peer x.to_ y]) I2 H2 else Jx (((pe.notes.take k).map (pkN x.peer x.to_))++[pkN x.peer x.to_ y]) I2 H2) rfl rfl rfl rfl (hY _ _ _ _ _ (zjd _ hy) (h0.trans hI0) (zky hM.ok hB) (hJm _ _ _ _ hCI hJk)) ?_
  rintro t9 I2 H9 hI2 hP9;have hI0:=hI0.trans hI2;have hD:=hD.trans hI2;refine Qb ?_;refine zjF hD kH ?_;refine zx1 10 rfl (fun _=>ZB rfl) hD<|zek kA<|Qv<|Qd ?_
  refine zI ?_ ?_<;>intro hc31
  ·
   have ht:t9=false:=(by simpa using hc31);subst ht;have hJ2:Jx (((pe.notes.take k).map (pkN x.peer x.to_))++[pkN x.peer x.to_ y]) _ H9:=hP9;exact Qs (Qi (Qf (Qf (Qi<|Yu rfl (fun w hw=>⟨_,_,H9,rfl,hI0,by exact hw.drop,.inr ⟨_,zjd _ hy,hJ2⟩⟩)))))
  have ht:t9=true:=(by simpa using hc31);subst ht;have hJ2:J (((pe.notes.take k).map (pkN x.peer x.to_))++[pkN x.peer x.to_ y]) _ H9:=hP9;refine Qr (Qk (Qd (Qh (zB<|zM (Qb ?_)))));exact zbx rfl rfl rfl _ [] ⟨pe.n-(k+1),kB,k+1,rfl,rfl,rfl,hI0,kB,by rw [Zs hy,List.map_append];exact hJ2⟩ (.cons rfl (.cons rfl (.cons rfl (.cons rfl (.cons rfl (.cons rfl .nil)))))) kO
 have hge:pe.n≤k:=(by have h:=hc18;simp at h;omega);rw [ZR hNl hge] at hJk;exact Zk (Qo (Qo (Qz<|YX (Yu rfl (fun w hw=>⟨_,_,_,rfl,hI1,hw,.inl hJk⟩)))))
end
end Go.Proofs.YtjblkbkmblkgoaaGreat
section
namespace Go.Kn
open Go
theorem Ui.frz {P:Program}{f:FuncId}{args:List Value}{I:Qu}{L:Loc}{Post Post':Value→Qu→Loc→Prop}{Bad:Value→Prop}(h:Ui P f args I L Post Bad)
  (hp:∀ v I' L',HLe I I'→Post v I' L'→∃ L1 b o,Z1 L' b o L1∧∀ I2,HLe I' I2→I2 b=some o→Post' v I2 L1):Ui P f args I L Post' Bad:=fun g H w hw=>
 (h g H w hw).mono fun _ _ x=>x.elim (fun ⟨v,I',L',he,hI,hs,p⟩=>by
  obtain ⟨L1,b,o,ht,k⟩:=hp v I' L' hI p;obtain ⟨h1,h2,h3⟩:=hs.freeze ht
  exact .inl ⟨v,_,L1,he,hI.trans h2,h1,k _ h2 h3⟩) .inr
theorem Ui.wide {P:Program}{f:FuncId}{args:List Value}{I:Qu}{L:Loc}{Post:Value→Qu→Loc→Prop}{Bad:Value→Prop}(h:Ui P f args I L Post Bad)(R:Loc):Ui P f args I (L++R) (fun v I' L'=>∃ L1,L'=L1++R∧Post v I' L1) Bad:=fun _g _H _w hw=>
 (h.frame Zi hw).mono fun _ _ x=>x.elim (fun ⟨v,I',_L',he,hI,hs,p⟩=>.inl ⟨v,I',_,he,hI,hs,_,rfl,p⟩) fun ⟨v,he,hv,hs⟩=>.inr ⟨v,he,hv,hs.drop⟩
end Go.Kn
namespace Go.Proofs.YtjblkbkmblkgoaaGreat
open Go Go.Kn Go.Proofs
structure zo5 (I:Qu)(pn pc:Nat)(qa:Option Addr)(qn qc:Nat)(aa:Option Addr)(an ac:Nat)(cur:List Value)(ps:List Pe)(qs:List Pk)(ks:List (Int×Int)):Prop where
 p:zko I cur ps
 pl:ps.length=pn
 pc:pn≤pc
 m:1≤pn∧pn≤24
 q:Sl I 3 Q6 qa qn qc qs
 pk:∀ q∈qs,PkM I q
 k:Sl I 2 VI aa an ac ks
 net:Ud qs ks=0
 bad:∀ q∈qs,KJ pn q=false
 an:an≤100000
 dl:∀ q∈qs,q.n≤100000
 sm:qn+24≤4096∧∀ pe∈ps,qn+pe.n≤4096
theorem zo5.mono {I I':Qu}{pn pc:Nat}{qa:Option Addr}{qn qc:Nat}{aa:Option Addr}{an ac:Nat}{cur:List Value}{ps:List Pe}{qs:List Pk}{ks:List (Int×Int)}(h:zo5 I pn pc qa qn qc aa an ac cur ps qs ks)(hI:HLe I I'):zo5 I' pn pc qa qn qc aa an ac cur ps qs ks:=
 ⟨h.p.mono hI,h.pl,h.pc,h.m,h.q.mono hI,fun q hq=>(h.pk q hq).mono hI,h.k.mono hI,h.net,h.bad,h.an,h.dl,h.sm⟩
structure EvM (I:Qu)(x:Ev):Prop where
 nd:Nd I x.note.pt
 w:NtW x.note
theorem EvM.mono {I I':Qu}{x:Ev}(h:EvM I x)(hI:HLe I I'):EvM I' x:=⟨h.nd.mono hI,h.w⟩
theorem EvM.msg {I:Qu}{x:Ev}(h:EvM I x)(hf:QN x.note=true):NtM I x.note:=zf5 h.w h.nd hf
theorem EvM.form {I:Qu}{x:Ev}(h:EvM I x):QN (YF x.note)=QN x.note:=KB (by
 have h1:Sl I 1 Z5 x.note.pt.a x.note.pt.n x.note.pt.c x.note.pt.needs:=h.nd
 exact h1.len.symm)
theorem zou {a b:Int}(h:lkV (zk8 a b) (zcU a b)=true):0≤a∧0≤b∧a<24∧b<24:=by
 unfold lkV zk8 zcU at h;simp only [Bool.and_eq_true,decide_eq_true_eq] at h;split at h<;>split at h<;>omega
theorem zn7 {qs:List Pk}{ks:List (Int×Int)}(h:Ud qs ks=0):∀ q∈qs,0≤q.frm∧0≤q.to_:=fun q hq=>by
 have h1:=(zgp h).2.1 q hq;unfold pkV at h1;rw [Bool.and_eq_true] at h1;exact ⟨(zou h1.1).1,(zou h1.1).2.1⟩
theorem zfv {I:Qu}{bp pn pc t:Nat}{cur:List Value}{ps:List Pe}(hP:zko I cur ps)(hpl:ps.length=pn)(hpc:pn≤pc)(hb:I bp=some (.cells cur.toArray t (0,0))):Sl I 1 U4 (some ⟨bp,0,none⟩) pn pc ps:=
 ⟨hpl,hpc,fun _=>rfl,fun k x hx j u hu=>by
  have hj:j=0:=(by have:=(List.getElem?_eq_some_iff.1 hu).1;simp [U4] at this;omega);subst hj;have hu:u= .slice x.a x.n x.c:=(by simpa [U4] using hu.symm);subst hu;refine Qy.imm hb ?_;show zj8 _ (0+k*1+0)=_;rw [Nat.zero_add,Nat.mul_one,Nat.add_zero,JG]
  exact hP.at_ k x hx⟩
def zwd (bc bp pn pc:Nat)(aa:Option Addr)(an ac:Nat)(ks:List (Int×Int))(R:Int×Rd)(v:Value)(I':Qu)(L':Go.Kn.Loc):Prop:=
 v= .tuple #[]∧R.1=0∧∃ a m c ps' qs',L'=[(bc,.cells #[.slice (some ⟨bp,0,none⟩) pn pc,.slice a m c,.slice aa an ac] 108 (0,0))]∧RmP I' (some ⟨bp,0,none⟩) pn pc a m c aa an ac ps' qs' ks∧YD ps' qs' ks=R.2
def zvX (R:Int×Rd)(v:Value):Prop:=v= .iface 50 (.int .i64 R.1)∧R.1≠0
theorem U9 {R:Int×Rd}{v:Value}{e:Int}{r:Rd}(h:R=(e,r))(hv:v= .iface 50 (.int .i64 e))(he:e≠0):zvX R v:=by subst h;exact ⟨hv,he⟩
theorem zlG {bc bp pn pc:Nat}{aa:Option Addr}{an ac:Nat}{ks:List (Int×Int)}{R:Int×Rd}{I':Qu}{a:Option Addr}{m c:Nat}{ps:List Pe}{qs D:List Pk}{r:Rd}(h:R=(0,r))(hpe:Sl I' 1 U4 (some ⟨bp,0,none⟩) pn pc ps)(hnt:∀ x∈ps,WB I' x.a x.n x.c x.notes)
  (hS:zav I' a m c qs D)(hk:Sl I' 2 VI aa an ac ks)(e:r=⟨dtP ps,D,ks⟩):zwd bc bp pn pc aa an ac ks R (.tuple #[]) I' [(bc,.cells #[.slice (some ⟨bp,0,none⟩) pn pc,.slice a m c,.slice aa an ac] 108 (0,0))]:=by
 subst h;subst e;exact ⟨rfl,rfl,a,m,c,ps,qs,rfl,⟨hpe,hnt,hS.sl,hS.pk,hk⟩,by unfold YD;rw [hS.dat]⟩
/-! ### Telling -/
section
variable {ps:List Pe} {qs:List Pk} {ks:List (Int×Int)} {x:Ev} {I:Qu}
theorem W5 {i:Int}:isP (YD ps qs ks) i=true↔0≤i∧i<(ps.length:Int):=by rw [zgP];simp [YD,zeI]
theorem zsO (h:¬(0≤x.peer∧x.peer<(ps.length:Int))):Ua (YD ps qs ks) (Yz x)=(1,zeroR):=by
 unfold Ua;rw [if_neg];intro h2;exact h (W5.1 h2)
theorem zr3 (hE:EvM I x)(h:0≤x.peer∧x.peer<(ps.length:Int))(h2:QN x.note=false):Ua (YD ps qs ks) (Yz x)=(570,zeroR):=by
 have e:QN (Yz x).note=false:=(by show QN (YF x.note)=false;rw [hE.form,h2]);have ei:isP (YD ps qs ks) (Yz x).peer=true:=W5.2 h;unfold Ua;rw [if_pos ei,e];rfl
theorem zya (hE:EvM I x)(h:0≤x.peer∧x.peer<(ps.length:Int))(h2:QN x.note=true)(h3:zbz (dtP ps) x.peer.toNat (YF x.note)=none):Ua (YD ps qs ks) (Yz x)=(2,zeroR):=by
 have e:QN (Yz x).note=true:=(by show QN (YF x.note)=true;rw [hE.form,h2]);have e2:zbz (YD ps qs ks).ps (Yz x).peer.toNat (Yz x).note=none:=h3;have ei:isP (YD ps qs ks) (Yz x).peer=true:=W5.2 h;unfold Ua;rw [if_pos ei,if_pos e,e2]
theorem zrU (hE:EvM I x)(h:0≤x.peer∧x.peer<(ps.length:Int))(h2:QN x.note=true){P:List (List Nt)}(h3:zbz (dtP ps) x.peer.toNat (YF x.note)=some P):Ua (YD ps qs ks) (Yz x)=(0,⟨P,qs.map Vi++Jh ps.length x.peer x.note,ks⟩):=by
 have e:QN (Yz x).note=true:=(by show QN (YF x.note)=true;rw [hE.form,h2]);have e2:zbz (YD ps qs ks).ps (Yz x).peer.toNat (Yz x).note=some P:=h3;have ei:isP (YD ps qs ks) (Yz x).peer=true:=W5.2 h;unfold Ua;rw [if_pos ei,if_pos e,e2];simp only [YD,zeI];rfl
theorem ziM (h:¬(isP (YD ps qs ks) x.peer=true∧isP (YD ps qs ks) x.to_=true∧x.peer≠x.to_)):Xk (YD ps qs ks) (Yz x)=(1,zeroR):=by
 unfold Xk;rw [if_neg];intro h2;simp only [Bool.and_eq_true] at h2;exact h ⟨h2.1.1,h2.1.2,bne_iff_ne.1 h2.2⟩
theorem zrN (h1:0≤x.peer∧x.peer<(ps.length:Int))(h2:0≤x.to_∧x.to_<(ps.length:Int))(h3:x.peer≠x.to_){pe:Pe}(hpe:ps[x.peer.toNat]? =some pe):Xk (YD ps qs ks) (Yz x)=(0,⟨dtP ps,qs.map Vi++pe.notes.map (pkN x.peer x.to_),ks⟩):=by
 have e3:(x.peer != x.to_)=true:=by simp [h3]
 have e1:(isP (YD ps qs ks) (Yz x).peer&&isP (YD ps qs ks) (Yz x).to_&&(Yz x).peer != (Yz x).to_)=true:=by
  show (isP (YD ps qs ks) x.peer&&isP (YD ps qs ks) x.to_&&x.peer != x.to_)=true;rw [W5.2 h1,W5.2 h2,e3];rfl
 have e2:(YD ps qs ks).ps.getD (Yz x).peer.toNat []=pe.notes.map YF:=by
  show (dtP ps).getD x.peer.toNat []=_;rw [List.getD_eq_getElem?_getD,zaA hpe];rfl
 unfold Xk;rw [if_pos e1,e2,List.map_map];rfl
theorem zsu (hpk:∀ q∈qs,PkM I q)(h:atE qs ks x.at_≠0):zaZ (YD ps qs ks) (Yz x)=(atE qs ks x.at_,zeroR):=by
 have e:atE (qs.map Vi) ks x.at_=atE qs ks x.at_:=Xh hpk ks x.at_;show (if atE (qs.map Vi) ks x.at_≠0 then (atE (qs.map Vi) ks x.at_,zeroR) else _)=_;rw [e,if_pos h]
theorem zlq (hpk:∀ q∈qs,PkM I q)(h:atE qs ks x.at_=0):zaZ (YD ps qs ks) (Yz x)=(0,⟨dtP ps,(qs.eraseIdx x.at_.toNat).map Vi,ks⟩):=by
 have e:atE (qs.map Vi) ks x.at_=atE qs ks x.at_:=Xh hpk ks x.at_;show (if atE (qs.map Vi) ks x.at_≠0 then (atE (qs.map Vi) ks x.at_,zeroR) else (0,⟨dtP ps,(qs.map Vi).eraseIdx x.at_.toNat,ks⟩))=_;rw [e,if_neg (by simpa using h),XL]
theorem zso (hpk:∀ q∈qs,PkM I q)(h:UE qs ks x.at_≠0):za8 (YD ps qs ks) (Yz x)=(UE qs ks x.at_,zeroR):=by
 have e:UE (qs.map Vi) ks x.at_=UE qs ks x.at_:=ziN hpk ks x.at_;show (if UE (qs.map Vi) ks x.at_≠0 then (UE (qs.map Vi) ks x.at_,zeroR) else _)=_;rw [e,if_pos h]
theorem zlE (hpk:∀ q∈qs,PkM I q)(h:UE qs ks x.at_=0):za8 (YD ps qs ks) (Yz x)=(0,⟨dtP ps,(qs++[atP qs ks x.at_]).map Vi,ks⟩):=by
 have e:UE (qs.map Vi) ks x.at_=UE qs ks x.at_:=ziN hpk ks x.at_;show (if UE (qs.map Vi) ks x.at_≠0 then (UE (qs.map Vi) ks x.at_,zeroR) else (0,⟨dtP ps,qs.map Vi++[atP (qs.map Vi) ks x.at_],ks⟩))=_;rw [e,if_neg (by simpa using h),zho hpk,List.map_append];rfl
end
theorem zdo {m:Nat}(hm:m≤24){i k:Int}{t:Nt}(hi:0≤i∧i<(m:Int))(hk:0≤k∧k<(m:Int))(hne:i≠k)(hl:(V1 t).length≤900000):pkV (pkN i k t)=true:=by
 unfold pkV pkN lkV zk8 zcU;simp only [Bool.and_eq_true,decide_eq_true_eq];split<;>split<;>omega
end Go.Proofs.YtjblkbkmblkgoaaGreat
end
namespace Go.Proofs.YtjblkbkmblkgoaaGreat
section
open Go Go.Kn Go.Proofs
theorem zhF:Fun Tryz.prog 106:=.of Tryz.func106 kA kA
theorem znp:Fun Tryz.prog 110:=.of Tryz.func110 kA kA
variable{I:Qu}{bc bp pn pc qn qc an ac:Nat}{qa aa:Option Addr}{cur:List Value}{ps:List Pe}{qs:List Pk}{ks:List (Int×Int)}
theorem zty (hX:zo5 I pn pc qa qn qc aa an ac cur ps qs ks)(x:Ev)(hE:EvM I x):Ui Tryz.prog 46 [ZI bc,.agg (U3 x).toArray] I [(bc,.cells #[.slice (some ⟨bp,0,none⟩) pn pc,.slice qa qn qc,.slice aa an ac] 108 (0,0)),(bp,.cells (cur).toArray 59 (0,0))] (zwd bc bp pn pc aa an ac ks (Ua (YD ps qs ks) (Yz x))) (zvX (Ua (YD ps qs ks) (Yz x))):=by
 intro g H w hw;refine qe Tryz.func46 Tryz.ntmps46 hw ?_;have hIc:=zB6 I;refine zR<|QK rfl rfl rfl (fun b_2=>QK rfl rfl rfl (fun b_3=>Qb<|QF .here (fun I1 hI1 hb1=>?_)))
 have hX:=hX.mono hI1;have hE:=hE.mono hI1;have hIc:=hIc.trans hI1;have h3:=BxI.of hb1;refine QF .here (fun I2 hI2 hb2=>?_);have hX:=hX.mono hI2;have hE:=hE.mono hI2;have h3:=h3.mono hI2;have hIc:=hIc.trans hI2;have h2:=BxI.of hb2;refine Qd (zR<|zV (Qc rfl KN (fun hg=>by exact Qy.imm h2.out rfl))<|zF Y5 ?_);refine zV (Qc rfl Ql (fun hg=>by exact Qy.imm h3.out rfl)) ?_;refine zx5 [_,_] rfl zhF (by repeat (first | exact .cons .here .nil | exact ZL | exact Zi | apply ZF | apply ZC)) (zgG x.peer) ?_ (fun pv hpv=>by refine zx6 ?_;exact (U9 (zsO (by rw [hX.pl];exact hpv.2)) hpv.1 kC));rintro vv3 I3 L3 hI3 ⟨rfl,rfl,rfl,hp1peer,hp2peer⟩;have hX:=hX.mono hI3;have hE:=hE.mono hI3;have h3:=h3.mono hI3;have h2:=h2.mono hI3;have hIc:=hIc.trans hI3;have hprpeer:0≤x.peer∧x.peer<(ps.length:Int):=(by rw [hX.pl];exact ⟨hp1peer,hp2peer⟩);have hplx:=hX.pl;have hto:x.peer.toNat<pn:=kB;have hti:x.peer=((x.peer.toNat:Nat):Int):=(Int.toNat_of_nonneg hprpeer.1).symm;refine zN (zR<|zF WA ?_);refine zV (Qg rfl Zc (fun hg=>by exact Cells.part (pre:=[_,_,_,_]) (vs:=Zf x.note) (post:=[]) (BxI.cells (vs:=U3 x) h3) rfl) rfl)<|qcV (vs:=[_]) rfl zbM (UB x.note hE.nd) ?_
 refine zx5 [_,_] rfl KF .nil (Wp I3 (QN x.note) 570) ?_ (fun pv hpv=>by refine zx6 ?_;exact (U9 (zr3 hE hprpeer hpv.2) hpv.1 kC));rintro vv4 I4 L4 hI4 ⟨rfl,rfl,rfl,hf⟩;have hX:=hX.mono hI4;have hE:=hE.mono hI4;have h3:=h3.mono hI4;have h2:=h2.mono hI4;have hIc:=hIc.trans hI4;refine zN (zR<|zV (Qc rfl KN (fun hg=>by exact Qy.imm h2.out rfl))<|zF Y5 ?_);refine zV (Qc rfl Ql (fun hg=>by exact Qy.imm h3.out rfl))<|zF WA ?_
 refine zV (Qg rfl Zc (fun hg=>by exact Cells.part (pre:=[_,_,_,_]) (vs:=Zf x.note) (post:=[]) (BxI.cells (vs:=U3 x) h3) rfl) rfl) ?_;refine zx5 [_,_,_] rfl zkv (by repeat (first | exact .cons .here .nil | exact ZL | exact Zi | apply ZF | apply ZC)) (zie hti hX.p hX.pl hto (by have h:=hX.m;omega) (hE.msg hf) hf) ?_ (fun pv hpv=>by refine zx6 ?_;exact (U9 (zya hE hprpeer hf hpv.2) hpv.1 kC));rintro vv5 I5 L5 hI5 ⟨rfl,cur2,ps2,rfl,hP2,hpl2,hlr⟩;have hX:=hX.mono hI5;have hE:=hE.mono hI5;have h3:=h3.mono hI5;have h2:=h2.mono hI5;have hIc:=hIc.trans hI5;refine zN (Qh<|zV (Qc rfl KN (fun hg=>by exact Qy.imm h2.out rfl))<|zV (YP (us:=[]) (vs:=[_,_]) rfl rfl)<|QV (b:=bp) (by repeat (first | exact Z1.here | apply Z1.there)) (fun I6 hI6 hb6=>?_));have hX:=hX.mono hI6;have hE:=hE.mono hI6;have h3:=h3.mono hI6;have h2:=h2.mono hI6;have hP2:=hP2.mono hI6;have hIc:=hIc.trans hI6;have hPs:=zfv hP2 hpl2 hX.pc hb6;refine zpc [_,_] rfl znp (by exact .cons .here .nil) (zrV (zav.mk hX.q hX.pk rfl) hX.k hX.an (f:=111) (cap:=[ZI b_2,ZI b_3]) zvU (zvH x h2 h3 (hE.msg hf) (hE.msg hf).ok (by have h:=hX.m;omega)) (by rw [UR hX.pk];exact hX.net) (fun p hp=>by obtain ⟨k,hk,hne,rfl⟩:=zbf hp;exact zdo hX.m.2 kB ⟨kB,kB⟩ (fun e=>hne e.symm) (hE.msg hf).len) (by rw [List.length_map,hX.q.len];have h8:=zbv pn x.peer x.note;have h9:=hX.sm.1;have h7:=hX.m;omega)) ?_;rintro vv7 I7 L7 hI7 ⟨rfl,a6,m6,c6,qs6,rfl,hS6⟩;have hX:=hX.mono hI7;have hE:=hE.mono hI7;have hP2:=hP2.mono hI7;have hPs:=hPs.mono hI7;have hIc:=hIc.trans hI7;exact Qb<|YX (Yu rfl (fun w hw=>.inl ⟨_,I7,_,rfl,hIc,by exact hw,zlG (zrU hE hprpeer hf hlr) hPs hP2.nt hS6 hX.k (by rw [hX.pl])⟩))
theorem zuH (hX:zo5 I pn pc qa qn qc aa an ac cur ps qs ks)(x:Ev)(_hE:EvM I x):Ui Tryz.prog 47 [ZI bc,.agg (U3 x).toArray] I [(bc,.cells #[.slice (some ⟨bp,0,none⟩) pn pc,.slice qa qn qc,.slice aa an ac] 108 (0,0)),(bp,.cells (cur).toArray 59 (0,0))] (zwd bc bp pn pc aa an ac ks (Xk (YD ps qs ks) (Yz x))) (zvX (Xk (YD ps qs ks) (Yz x))):=by
 intro g H w hw;refine qe Tryz.func47 Tryz.ntmps47 hw ?_;have hIc:=zB6 I;refine zR<|QK rfl rfl rfl (fun b_2=>QK rfl rfl rfl (fun b_3=>Qb<|QF .here (fun I1 hI1 hb1=>?_)))
 have hX:=hX.mono hI1;have hIc:=hIc.trans hI1;have h3:=BxI.of hb1;refine QF .here (fun I2 hI2 hb2=>?_);have hX:=hX.mono hI2;have h3:=h3.mono hI2;have hIc:=hIc.trans hI2;have h2:=BxI.of hb2;refine Qd (zR<|zV (Qc rfl KN (fun hg=>by exact Qy.imm h2.out rfl))<|zF Y5 ?_);refine zV (Qc rfl Ql (fun hg=>by exact Qy.imm h3.out rfl)) ?_;refine zx5 [_,_] rfl zhF (by repeat (first | exact .cons .here .nil | exact ZL | exact Zi | apply ZF | apply ZC)) (zgG x.peer) ?_ (fun pv hpv=>by refine zx6 ?_;exact (U9 (ziM (fun h9=>by have h8:=W5.1 h9.1;rw [hX.pl] at h8;exact hpv.2 h8)) hpv.1 kC));rintro vv3 I3 L3 hI3 ⟨rfl,rfl,rfl,hp1peer,hp2peer⟩;have hX:=hX.mono hI3;have h3:=h3.mono hI3;have h2:=h2.mono hI3;have hIc:=hIc.trans hI3;have hprpeer:0≤x.peer∧x.peer<(ps.length:Int):=(by rw [hX.pl];exact ⟨hp1peer,hp2peer⟩);refine zN (zR<|zV (Qc rfl KN (fun hg=>by exact Qy.imm h2.out rfl))<|zF Wz ?_);refine zV (Qc rfl Ql (fun hg=>by exact Qy.imm h3.out rfl)) ?_;refine zx5 [_,_] rfl zhF (by repeat (first | exact .cons .here .nil | exact ZL | exact Zi | apply ZF | apply ZC)) (zgG x.to_) ?_ (fun pv hpv=>by refine zx6 ?_;exact (U9 (ziM (fun h9=>by have h8:=W5.1 h9.2.1;rw [hX.pl] at h8;exact hpv.2 h8)) hpv.1 kC));rintro vv4 I4 L4 hI4 ⟨rfl,rfl,rfl,hp1to_,hp2to_⟩;have hX:=hX.mono hI4;have h3:=h3.mono hI4;have h2:=h2.mono hI4;have hIc:=hIc.trans hI4;have hprto_:0≤x.to_∧x.to_<(ps.length:Int):=(by rw [hX.pl];exact ⟨hp1to_,hp2to_⟩);refine zN (zR<|zF Y5 ?_);refine zV (Qc rfl Ql (fun hg=>by exact Qy.imm h3.out rfl))<|zF Wz ?_
 refine zV (Qc rfl Ql (fun hg=>by exact Qy.imm h3.out rfl))<|zC ?_
 refine zx5 [_,_] rfl KF .nil (Wp I4 (x.peer != x.to_) 1) ?_ (fun pv hpv=>by refine zx6 ?_;exact (U9 (ziM (fun h9=>h9.2.2 (by simpa using hpv.2))) hpv.1 kC));rintro vv5 I5 L5 hI5 ⟨rfl,rfl,rfl,hne0⟩;have hX:=hX.mono hI5;have h3:=h3.mono hI5;have h2:=h2.mono hI5;have hIc:=hIc.trans hI5;have hne:x.peer≠x.to_:=(by simpa using hne0);have hplx:=hX.pl;obtain ⟨pe,hpe⟩:∃ y,ps[x.peer.toNat]? =some y:=⟨_,List.getElem?_eq_getElem kB⟩;have hpm:=List.mem_of_getElem? hpe;have hvv:=V2 (hX.p.ok pe hpm);refine zN (Qh<|zV (Qc rfl KN (fun hg=>by exact Qy.imm h2.out rfl))<|zV (YP (us:=[]) (vs:=[_,_]) rfl rfl)<|QV (b:=bp) (by repeat (first | exact Z1.here | apply Z1.there)) (fun I6 hI6 hb6=>?_));have hX:=hX.mono hI6;have h3:=h3.mono hI6;have h2:=h2.mono hI6;have hIc:=hIc.trans hI6;have hPs:=zfv hX.p hX.pl hX.pc hb6;refine zpc [_,_] rfl znp (by exact .cons .here .nil) (zrV (zav.mk hX.q hX.pk rfl) hX.k hX.an (f:=112) (cap:=[ZI b_2,ZI b_3]) zs7 (ztY x h2 h3 hPs kB hpe (hX.p.nt pe hpm) hvv.2.1 (by have h:=hX.m;omega) (by have h:=hX.sm.2 pe hpm;omega)) (by rw [UR hX.pk];exact hX.net) (fun p hp=>by obtain ⟨y,hy,rfl⟩:=List.mem_map.1 hp;exact zdo hX.m.2 kB kB hne ((hX.p.nt pe hpm).m y hy (hvv.2.1 y hy)).len) (by rw [List.length_map,List.length_map,hX.q.len,(hX.p.nt pe hpm).sl.len];exact hX.sm.2 pe hpm)) ?_;rintro vv7 I7 L7 hI7 ⟨rfl,a6,m6,c6,qs6,rfl,hS6⟩;have hX:=hX.mono hI7;have hPs:=hPs.mono hI7;have hIc:=hIc.trans hI7;exact Qb<|YX (Yu rfl (fun w hw=>.inl ⟨_,I7,_,rfl,hIc,by exact hw,zlG (zrN hprpeer hprto_ hne hpe) hPs hX.p.nt hS6 hX.k rfl⟩))
theorem zj1 (hX:zo5 I pn pc qa qn qc aa an ac cur ps qs ks)(x:Ev):Ui Tryz.prog 48 [ZI bc,.agg (U3 x).toArray] I [(bc,.cells #[.slice (some ⟨bp,0,none⟩) pn pc,.slice qa qn qc,.slice aa an ac] 108 (0,0)),(bp,.cells (cur).toArray 59 (0,0))] (zwd bc bp pn pc aa an ac ks (za1 (YD ps qs ks) (Yz x))) (zvX (za1 (YD ps qs ks) (Yz x))):=by
 have hm:=hX.m;have hs:=hX.sm.1;refine Ui.frz (zkF hX.p hX.pl kB hX.q kB hX.pk hX.k hX.an x hX.bad hX.dl (zn7 hX.net)) fun v I' L' hI h=>?_;obtain ⟨rfl,h0,cur',ps',a,m,c,qs',rfl,hP',hpl',hS',hsub,e⟩:=h;exact ⟨_,bp,_,.there .here,fun I2 h2 hb=>⟨rfl,h0,a,m,c,ps',qs',rfl,⟨zfv (hP'.mono h2) hpl' hX.pc hb,(hP'.mono h2).nt,hS'.mono h2,fun q hq=>(hX.pk q (hsub q hq)).mono (hI.trans h2),hX.k.mono (hI.trans h2)⟩,e.symm⟩⟩
theorem ztp (hX:zo5 I pn pc qa qn qc aa an ac cur ps qs ks)(x:Ev):Ui Tryz.prog 49 [ZI bc,.agg (U3 x).toArray] I [(bc,.cells #[.slice (some ⟨bp,0,none⟩) pn pc,.slice qa qn qc,.slice aa an ac] 108 (0,0)),(bp,.cells (cur).toArray 59 (0,0))] (zwd bc bp pn pc aa an ac ks (zaZ (YD ps qs ks) (Yz x))) (zvX (zaZ (YD ps qs ks) (Yz x))):=by
 have hm:=hX.m;have hs:=hX.sm.1;refine Ui.frz (((zy5 hX.q kB hX.k hX.an x).wide [(bp,.cells (cur).toArray 59 (0,0))]).mono (fun _ _ _ _ h=>h) fun v hv=>U9 (zsu hX.pk hv.2) hv.1 hv.2) fun v I' L' hI h=>?_;obtain ⟨L1,rfl,rfl,h0,a,m,c,rfl,hS'⟩:=h;exact ⟨_,bp,_,.there .here,fun I2 h2 hb=>⟨rfl,by rw [zlq hX.pk h0],a,m,c,ps,qs.eraseIdx x.at_.toNat,rfl,⟨zfv (hX.p.mono (hI.trans h2)) hX.pl hX.pc hb,(hX.p.mono (hI.trans h2)).nt,hS'.mono h2,fun q hq=>(hX.pk q (UC q hq)).mono (hI.trans h2),hX.k.mono (hI.trans h2)⟩,by rw [zlq hX.pk h0];rfl⟩⟩
theorem zmd (hX:zo5 I pn pc qa qn qc aa an ac cur ps qs ks)(x:Ev):Ui Tryz.prog 50 [ZI bc,.agg (U3 x).toArray] I [(bc,.cells #[.slice (some ⟨bp,0,none⟩) pn pc,.slice qa qn qc,.slice aa an ac] 108 (0,0)),(bp,.cells (cur).toArray 59 (0,0))] (zwd bc bp pn pc aa an ac ks (za8 (YD ps qs ks) (Yz x))) (zvX (za8 (YD ps qs ks) (Yz x))):=by
 have hm:=hX.m;have hs:=hX.sm.1;refine Ui.frz (((zpr hX.q kB hX.k hX.an x).wide [(bp,.cells (cur).toArray 59 (0,0))]).mono (fun _ _ _ _ h=>h) fun v hv=>U9 (zso hX.pk hv.2) hv.1 hv.2) fun v I' L' hI h=>?_;obtain ⟨L1,rfl,rfl,h0,a,m,c,rfl,hS'⟩:=h;exact ⟨_,bp,_,.there .here,fun I2 h2 hb=>⟨rfl,by rw [zlE hX.pk h0],a,m,c,ps,qs++[atP qs ks x.at_],rfl,⟨zfv (hX.p.mono (hI.trans h2)) hX.pl hX.pc hb,(hX.p.mono (hI.trans h2)).nt,hS'.mono h2,fun q hq=>(List.mem_append.1 hq).elim (fun h=>(hX.pk q h).mono (hI.trans h2)) (fun h=>by rw [List.mem_singleton.1 h];exact (zoK hX.pk ks x.at_).mono (hI.trans h2)),hX.k.mono (hI.trans h2)⟩,by rw [zlE hX.pk h0];rfl⟩⟩
end
end Go.Proofs.YtjblkbkmblkgoaaGreat
section
namespace Go.Kn
open Go
section
variable {P:Program} {fn:Func} {R:Ending→World→Prop} {N:Nat} {g:World} {I H:Qu} {loc:Loc} {E:Env}
theorem zdW (h:∀ a w,Uh N [] E a→St g I H loc w→∃ v,(results fn a.tmps).run P w= .ok v w∧R (.returned v) w):At ⟨P,none,N,[],g,H⟩ (bodyPostDIn (FR none) 0 P fn R) .ret E I loc:=fun a w ha hw=>by
 show LeavesIn _ _ _ _ _ _ a.defers .returning w;rw [ha.defers];exact h a w ha hw
end
end Go.Kn
namespace Go.Proofs.YtjblkbkmblkgoaaGreat
open Go Go.Kn Go.Proofs
def evK (f:Nat):Value:=.func (.func f) #[] #[]
def zgR (a b c d e:Nat):List (Int×Nat):=[(1,a),(2,b),(3,c),(4,d),(5,e)]
theorem zvD {a b c d e f:Nat}{k:Int}(h:ZQ (zgR a b c d e) k=some f):(k=1∧f=a)∨(k=2∧f=b)∨(k=3∧f=c)∨(k=4∧f=d)∨(k=5∧f=e):=by
 unfold zgR ZQ at h;split at h
 ·
  rename_i e1;cases h;exact .inl ⟨e1.symm,rfl⟩
 ·
  unfold ZQ at h;split at h
  ·
   rename_i e1;cases h;exact .inr (.inl ⟨e1.symm,rfl⟩)
  ·
   unfold ZQ at h;split at h
   ·
    rename_i e1;cases h;exact .inr (.inr (.inl ⟨e1.symm,rfl⟩))
   ·
    unfold ZQ at h;split at h
    ·
     rename_i e1;cases h;exact .inr (.inr (.inr (.inl ⟨e1.symm,rfl⟩)))
    ·
     unfold ZQ at h;split at h
     ·
      rename_i e1;cases h;exact .inr (.inr (.inr (.inr ⟨e1.symm,rfl⟩)))
     ·
      cases h
theorem zpZ {a b c d e:Nat}{r:Rd}{x:Ev}(h:ZQ (zgR a b c d e) x.kind=none):zab r (Yz x)=(1,zeroR):=by
 have h1:∀ k f,(k,f)∈zgR a b c d e→x.kind≠k:=by
  intro k f hm e1;subst e1;simp only [zgR,List.mem_cons,Prod.mk.injEq,List.not_mem_nil,or_false] at hm;unfold zgR at h;rcases hm with ⟨e1,_⟩ | ⟨e1,_⟩ | ⟨e1,_⟩ | ⟨e1,_⟩ | ⟨e1,_⟩<;>rw [e1] at h<;>simp [ZQ] at h
 have k1:¬(Yz x).kind=1:=h1 1 a (by simp [zgR]);have k2:¬(Yz x).kind=2:=h1 2 b (by simp [zgR]);have k3:¬(Yz x).kind=3:=h1 3 c (by simp [zgR]);have k4:¬(Yz x).kind=4:=h1 4 d (by simp [zgR]);have k5:¬(Yz x).kind=5:=h1 5 e (by simp [zgR]);unfold zab;rw [if_neg k1,if_neg k2,if_neg k3,if_neg k4,if_neg k5]
theorem zqJ {r:Rd}{x:Ev}(h:x.kind=1):zab r (Yz x)=Ua r (Yz x):=if_pos h
theorem zxC {r:Rd}{x:Ev}(h:x.kind=2):zab r (Yz x)=Xk r (Yz x):=by
 have e:(Yz x).kind=2:=h;unfold zab;rw [e];rfl
theorem zry {r:Rd}{x:Ev}(h:x.kind=3):zab r (Yz x)=za1 r (Yz x):=by
 have e:(Yz x).kind=3:=h;unfold zab;rw [e];rfl
theorem zxK {r:Rd}{x:Ev}(h:x.kind=4):zab r (Yz x)=zaZ r (Yz x):=by
 have e:(Yz x).kind=4:=h;unfold zab;rw [e];rfl
theorem zwY {r:Rd}{x:Ev}(h:x.kind=5):zab r (Yz x)=za8 r (Yz x):=by
 have e:(Yz x).kind=5:=h;unfold zab;rw [e];rfl
theorem zqv {r:Rd}{x:Ev}(h:(Ua r x).1≠0):(Ua r x).2=zeroR:=by
 unfold Ua at h ⊢;split
 ·
  rename_i h1;rw [if_pos h1] at h;split
  ·
   rename_i h2;rw [if_pos h2] at h;split
   ·
    rfl
   ·
    rename_i h3;rw [h3] at h;exact absurd rfl h
  ·
   rfl
 ·
  rfl
theorem zp1 {r:Rd}{x:Ev}(h:(Xk r x).1≠0):(Xk r x).2=zeroR:=by
 unfold Xk at h ⊢;split
 ·
  rename_i h1;rw [if_pos h1] at h;exact absurd rfl h
 ·
  rfl
theorem zuW {r:Rd}{x:Ev}(h:(za1 r x).1≠0):(za1 r x).2=zeroR:=by
 unfold za1 at h ⊢;split
 ·
  rfl
 ·
  rename_i h1;rw [if_neg h1] at h;split
  ·
   rename_i h2;rw [if_pos h2] at h;exact absurd rfl h
  ·
   rename_i h2;rw [if_neg h2] at h;split
   ·
    rfl
   ·
    rename_i h3;rw [h3] at h;exact absurd rfl h
theorem zpT {r:Rd}{x:Ev}(h:(zaZ r x).1≠0):(zaZ r x).2=zeroR:=by
 unfold zaZ at h ⊢;split
 ·
  rfl
 ·
  rename_i h1;rw [if_neg h1] at h;exact absurd rfl h
theorem zqK {r:Rd}{x:Ev}(h:(za8 r x).1≠0):(za8 r x).2=zeroR:=by
 unfold za8 at h ⊢;split
 ·
  rfl
 ·
  rename_i h1;rw [if_neg h1] at h;exact absurd rfl h
theorem ztw {r:Rd}{x:Ev}(h:(zab r x).1≠0):zab r x=((zab r x).1,zeroR):=by
 have key:(zab r x).2=zeroR:=by
  unfold zab at h ⊢;split
  ·
   rename_i h1;rw [if_pos h1] at h;exact zqv h
  ·
   rename_i h1;rw [if_neg h1] at h;split
   ·
    rename_i h1;rw [if_pos h1] at h;exact zp1 h
   ·
    rename_i h1;rw [if_neg h1] at h;split
    ·
     rename_i h1;rw [if_pos h1] at h;exact zuW h
    ·
     rename_i h1;rw [if_neg h1] at h;split
     ·
      rename_i h1;rw [if_pos h1] at h;exact zpT h
     ·
      rename_i h1;rw [if_neg h1] at h;split
      ·
       rename_i h1;rw [if_pos h1] at h;exact zqK h
      ·
       rfl
 exact Prod.ext rfl key
theorem zul {v:Value}{n:Nat}{ps:List Pe}{L:Go.Kn.Loc}{e:Nat}(h:ZU e 1 v n (ps.flatMap U4) L)(hn:ps.length=n)(h0:1≤n):∃ (b c:Nat) (cur:List Value),v= .slice (some ⟨b,0,none⟩) n c∧L=[(b,.cells cur.toArray e (0,0))]∧n≤c∧∀ (i:Nat) (pe:Pe),ps[i]? =some pe→cur[i]? =some (.slice pe.a pe.n pe.c):=by
 rcases h.2 with ⟨_,h1,_⟩ | ⟨b,c,cur,rfl,rfl,h1,_,h3,h4⟩
 ·
  omega
 ·
  refine ⟨b,c,cur.toList,rfl,by simp,h1,fun i pe hi=>?_⟩;have hlt:=(List.getElem?_eq_some_iff.1 hi).1;have h5:=zcv Uz ps i pe hi 0 _ rfl;rw [Nat.mul_one,Nat.add_zero,←h4,List.getElem?_take,if_pos kB] at h5;exact h5
theorem zdH {I:Qu}:RmV I (.agg #[.slice none 0 0,.slice none 0 0,.slice none 0 0]) zeroR:=
 ⟨none,0,0,none,0,0,none,0,0,[],[],rfl,⟨.nil,fun _ h=>(by cases h),.nil,fun _ h=>(by cases h),.nil⟩,rfl⟩
def DoQ (R:Int×Rd)(v:Value)(I':Qu)(L':Go.Kn.Loc):Prop:=L'=[]∧∃ vr,v= .tuple #[vr,.int .i64 R.1]∧RmV I' vr R.2
theorem zf7 {I:Qu}{e:Int}:DoQ (e,zeroR) (.tuple #[.agg #[.slice none 0 0,.slice none 0 0,.slice none 0 0],.int .i64 e]) I []:=⟨rfl,_,rfl,zdH⟩
theorem XN {R R':Int×Rd}{v:Value}{I:Qu}{L:Go.Kn.Loc}(h:DoQ R v I L)(e:R'=R):DoQ R' v I L:=e ▸ h
theorem zgk {r:Rd}{x:Ev}(h:WQ r≠0):doF r x=(WQ r,zeroR):=if_pos h
theorem Un {r:Rd}{x:Ev}(h:WQ r=0):doF r x=zab r x:=if_neg (by rw [h];simp)
theorem zlv {I:Qu}{R:Int×Rd}{pa qa aa:Option Addr}{pn pc qn qc an ac:Nat}{ps:List Pe}{qs:List Pk}{ks:List (Int×Int)}(h0:R.1=0)(hR:RmP I pa pn pc qa qn qc aa an ac ps qs ks)(e:YD ps qs ks=R.2):DoQ R (.tuple #[.agg #[.slice pa pn pc,.slice qa qn qc,.slice aa an ac],.int .i64 0]) I []:=by
 have hk:R.2.ks=ks:=(by rw [←e];rfl);exact ⟨rfl,_,by rw [h0],pa,pn,pc,qa,qn,qc,aa,an,ac,ps,qs,rfl,by rw [hk];exact hR,by rw [hk];exact e⟩
end Go.Proofs.YtjblkbkmblkgoaaGreat
end
namespace Go.Proofs.YtjblkbkmblkgoaaGreat
section
open Go Go.Kn Go.Proofs
theorem zos (I:Qu)(bv be:Nat)(v1 v2 v3:Option Addr)(n1 n2 n3 c1 c2 c3:Nat)(e0:Int):zo1 Tryz.prog 51 [ZI bv,ZI be] I [(be,.cells #[.int .i64 e0] 50 (0,0)),(bv,.cells #[.slice v1 n1 c1,.slice v2 n2 c2,.slice v3 n3 c3] 28 (0,0))] .returning (fun u' I' L'=>settle u'= .returning∧I'=I∧L'=[(be,.cells #[.int .i64 e0] 50 (0,0)),(bv,.cells #[.slice v1 n1 c1,.slice v2 n2 c2,.slice v3 n3 c3] 28 (0,0))]):=by
 refine XJ Tryz.func51 rfl Tryz.ntmps51 rfl rfl (⟨(fun o ho=>by cases ho),fun o ho=>by cases ho⟩) (fun g H=>?_);have hIc:=zB6 I;refine zN (Qw (zR<|zV (zra rfl zib)<|zN ?_));refine zI ?_ ?_<;>intro hc7
 ·
  exact Qh (zA (Qb (Qk<|YX (Yu rfl (fun w hw=>⟨_,I,_,rfl,zB6 _,hw,rfl,rfl,rfl⟩)))))
 cases hc7
theorem zmB (I:Qu)(bv be:Nat)(e9:Int):zo1 Tryz.prog 51 [ZI bv,ZI be] I [(be,.cells #[.int .i64 0] 50 (0,0)),(bv,.cells #[.slice none 0 0,.slice none 0 0,.slice none 0 0] 28 (0,0))] (.panicking (pan (.iface 50 (.int .i64 e9)))) (fun u' I' L'=>settle u'= .returning∧I'=I∧L'=[(be,.cells #[.int .i64 e9] 50 (0,0)),(bv,.cells #[.slice none 0 0,.slice none 0 0,.slice none 0 0] 28 (0,0))]):=by
 refine XJ Tryz.func51 rfl Tryz.ntmps51 rfl rfl (⟨(fun o ho=>by cases ho),fun o ho=>by cases ho⟩) (fun g H=>?_);have hIc:=zB6 I;refine zN (Qw (zR<|zV (zt3 rfl zib)<|zN ?_));refine zI ?_ ?_<;>intro hc7
 ·
  cases hc7
 refine zR<|zV (zhx rfl zlm)<|zE<|zE (zN ?_)
 refine zI ?_ ?_<;>intro hc9
 ·
  refine zR (zA (zN (Qh<|zV (QD (ps:=[]) [_,_,_] KT rfl rfl)<|zM ?_)));refine zh ZX ?_;exact zS zaI<|Qb (Qk<|YX (Yu rfl (fun w hw=>⟨_,I,_,rfl,zB6 _,hw,rfl,rfl,rfl⟩)))
 cases hc9
theorem zdy:AgT Tryz.prog 47 49:=.of kA
theorem zem:QM Tryz.prog 47 0 0:=.of kA
theorem zeZ:Fun Tryz.prog 16:=.of Tryz.func16 kA kA
theorem zzr:Fun Tryz.prog 46:=.of Tryz.func46 kA kA
theorem zxN:Fun Tryz.prog 47:=.of Tryz.func47 kA kA
theorem zy0:Fun Tryz.prog 48:=.of Tryz.func48 kA kA
theorem zzv:Fun Tryz.prog 49:=.of Tryz.func49 kA kA
theorem zzg:Fun Tryz.prog 50:=.of Tryz.func50 kA kA
theorem zsE:Fun Tryz.prog 51:=.of Tryz.func51 kA kA
theorem zyI:Fun Tryz.prog 52:=.of Tryz.func52 kA kA
theorem Kg:MpT Tryz.prog 106 3 102 .nilFunc:=⟨kA,.of kA⟩
theorem zud:PlT Tryz.prog 108 #[(0,3)] (.agg #[(.slice none 0 0),(.slice none 0 0),(.slice none 0 0)]):=⟨.of kA,kA,fun w=>kA⟩
theorem zun:SzT Tryz.prog 108 3:=.of kA
theorem zsj:SzT Tryz.prog 22 1:=.of kA
theorem zzw:Vv Tryz.prog 108 (.agg #[(.slice none 0 0),(.slice none 0 0),(.slice none 0 0)]):=.of kA
variable{I:Qu}{qa aa:Option Addr}{pn pc qn qc an ac f:Nat}{cur:List Value}{ps:List Pe}{qs:List Pk}{ks:List (Int×Int)}
theorem zAu {bc bp:Nat}(hX:zo5 I pn pc qa qn qc aa an ac cur ps qs ks)(x:Ev)(hE:EvM I x)(h:ZQ (zgR 46 47 48 49 50) x.kind=some f):Fun Tryz.prog f∧Ui Tryz.prog f [ZI bc,.agg (U3 x).toArray] I [(bc,.cells #[.slice (some ⟨bp,0,none⟩) pn pc,.slice qa qn qc,.slice aa an ac] 108 (0,0)),(bp,.cells (cur).toArray 59 (0,0))] (zwd bc bp pn pc aa an ac ks (zab (YD ps qs ks) (Yz x))) (zvX (zab (YD ps qs ks) (Yz x))):=by
 rcases zvD h with ⟨hk,rfl⟩ | ⟨hk,rfl⟩ | ⟨hk,rfl⟩ | ⟨hk,rfl⟩ | ⟨hk,rfl⟩
 ·
  rw [zqJ hk];exact ⟨zzr,zty hX x hE⟩
 ·
  rw [zxC hk];exact ⟨zxN,zuH hX x hE⟩
 ·
  rw [zry hk];exact ⟨zy0,zj1 hX x⟩
 ·
  rw [zxK hk];exact ⟨zzv,ztp hX x⟩
 rw [zwY hk];exact ⟨zzg,zmd hX x⟩
set_option maxHeartbeats 400000 in
theorem zA8  {pa:Option Addr}     (hR:RmP I pa pn pc qa qn qc aa an ac ps qs ks) (hpn:pn≤100000) (hqn:qn≤100000) (han:an≤100000) (hnn:∀ x∈ps,x.n≤100000) (hdl:∀ q∈qs,q.n≤100000) (hsm:WQ (YD ps qs ks)=0→qn+24≤4096∧∀ pe∈ps,qn+pe.n≤4096) (x:Ev) (hE:EvM I x):YE Tryz.prog 12 [.agg #[.slice pa pn pc,.slice qa qn qc,.slice aa an ac],.agg (U3 x).toArray] I [] (DoQ (doF (YD ps qs ks) (Yz x))):=by
 intro g H w hw;refine zlP Tryz.func12 rfl Tryz.ntmps12 rfl hw ?_;have hIc:=zB6 I;have hlp:=hR.pe.len;have hlq:=hR.q.len;refine zR<|QK rfl rfl rfl (fun b_2=>QK rfl rfl rfl (fun b_3=>Qp JY rfl rfl (fun b_4=>Qp zvS rfl rfl (fun b_5=>Qb<|QF (.there (.there .here)) (fun I1 hI1 hb1=>?_)))))
 have hR:=hR.mono hI1;have hE:=hE.mono hI1;have hIc:=hIc.trans hI1;have h3:=BxI.of hb1;refine QF (.there (.there .here)) (fun I2 hI2 hb2=>?_);have hR:=hR.mono hI2;have hE:=hE.mono hI2;have h3:=h3.mono hI2;have hIc:=hIc.trans hI2;have h2:=BxI.of hb2;refine Qd (Qm (zR<|zV (Qg rfl Zu (fun hg=>by exact BxI.cells (vs:=[_,_,_]) h2) rfl)<|zpc [_] rfl zeZ .nil (zhL hR hpn hqn han hnn hdl) ?_));rintro vv3 I3 L3 hI3 ⟨rfl,rfl⟩;have hR:=hR.mono hI3;have hE:=hE.mono hI3;have h3:=h3.mono hI3;have h2:=h2.mono hI3;have hIc:=hIc.trans hI3;refine zA<|zN (zR ?_)
 refine zM<|zC (zN ?_)
 refine zI ?_ ?_<;>intro hc13
 ·
  have hck:WQ (YD ps qs ks)≠0:=(by simpa using hc13);refine zR<|zV (Qg rfl Zu (fun hg=>by exact Cells.g1) rfl)<|zM ?_
  refine zh ZX ?_;refine zS zaI<|zN (Qs (Qf ?_))
  exact zdW (fun a w ha hw=>⟨_,zfb rfl rfl rfl Zu zaL kI rfl kM a ha w hw,_,I3,[],rfl,hIc,hw.subL Qq,XN zf7 (zgk hck)⟩)
 have hck:WQ (YD ps qs ks)=0:=(by simpa using hc13);have hck2:=zg0 (by rw [←KI hR];exact hck);refine Qr (Qd (Qm ?_));rcases hfd:ZQ (zgR 46 47 48 49 50) x.kind with _ | fid
 ·
  refine Qh<|Yl rfl rfl (fun r_17=>?_)
  refine (show XO _ _ _ _ _ _ _ ((r_17,YH (.int .i64) evK ([]:List (Int×Nat)))::_) from ?_);refine zpi (ek:=Value.int .i64) (ev:=evK) 46 Kg Zd ?_;refine zpi (ek:=Value.int .i64) (ev:=evK) 47 Kg Zd ?_;refine zpi (ek:=Value.int .i64) (ev:=evK) 48 Kg Zd ?_;refine zpi (ek:=Value.int .i64) (ev:=evK) 49 Kg Zd ?_;refine zpi (ek:=Value.int .i64) (ev:=evK) 50 Kg Zd<|zM<|zF zem ?_
  refine zV (Qc rfl Ql (fun hg=>by exact Qy.imm h3.out rfl))<|zV (Z7 (ek:=Value.int .i64) (ev:=evK) (m:=(zgR 46 47 48 49 50)) Kg Zd rfl rfl (fun _=>kR)) ?_
  rw [hfd];refine zM ?_;refine zE<|zE ?_
  refine zA<|zA (zN (Qm (zR ?_)))
  refine zM<|zO (zN ?_)
  refine zI ?_ ?_<;>intro hc25
  ·
   refine zR<|zV (Qg rfl Zu (fun hg=>by exact Cells.g2) rfl) ?_
   refine zh ZX ?_;refine zS zaI<|zN (Qs (Qf ?_))
   exact zdW (fun a w ha hw=>⟨_,zfb rfl rfl rfl Zu zaL kI rfl kM a ha w hw,_,I3,[],rfl,hIc,hw.subL Qq,XN zf7 (by rw [Un hck,zpZ hfd])⟩)
  cases hc25
 refine Qh<|Yl rfl rfl (fun r_17=>?_)
 refine (show XO _ _ _ _ _ _ _ ((r_17,YH (.int .i64) evK ([]:List (Int×Nat)))::_) from ?_);refine zpi (ek:=Value.int .i64) (ev:=evK) 46 Kg Zd ?_;refine zpi (ek:=Value.int .i64) (ev:=evK) 47 Kg Zd ?_;refine zpi (ek:=Value.int .i64) (ev:=evK) 48 Kg Zd ?_;refine zpi (ek:=Value.int .i64) (ev:=evK) 49 Kg Zd ?_;refine zpi (ek:=Value.int .i64) (ev:=evK) 50 Kg Zd<|zM<|zF zem ?_
 refine zV (Qc rfl Ql (fun hg=>by exact Qy.imm h3.out rfl))<|zV (Z7 (ek:=Value.int .i64) (ev:=evK) (m:=(zgR 46 47 48 49 50)) Kg Zd rfl rfl (fun _=>kR)) ?_
 rw [hfd];refine zM ?_;refine zE<|zE ?_
 refine zA<|zA (zN (Qm (zR ?_)))
 refine zM<|zO (zN ?_)
 refine zI ?_ ?_<;>intro hc25
 ·
  cases hc25
 refine Qr (Qd (zR<|zV (YP (us:=[]) (vs:=[_,_]) rfl rfl)<|zhZ (cap:=[ZI b_4,ZI b_5]) (vs:=[]) rfl rfl<|zN (zR<|zV (Qg rfl Zu (fun hg=>by exact BxI.cells (vs:=[_,_,_]) h2) rfl)<|zV (QD (ps:=[(0,_)]) [_,_,_] zud rfl rfl)<|Qp zzw rfl rfl (fun b_9=>?_))));refine zh zun<|zN (zR<|zF Zp ?_)
 refine zV (Qc rfl Z6 (fun hg=>by exact Qy.imm h2.out rfl))<|zpc [_] rfl zyI .nil (zoW hR.pe kB) ?_
 rintro vv4 I4 L4 hI4 ⟨rfl,hOc⟩;have hR:=hR.mono hI4;have hE:=hE.mono hI4;have h3:=h3.mono hI4;have hIc:=hIc.trans hI4;obtain ⟨bp,pc9,cur,rfl,rfl,hnc9,hat9⟩:=zul hOc hlp hck2.1.1;refine zF Yt<|zF Zp ?_
 refine zS zsj<|zN (Qm ?_)
 have hX:zo5 I4 pn pc9 qa qn qc aa an ac cur ps qs ks:=⟨⟨hat9,hR.nt,hck2.2.2.1⟩,hlp,hnc9,hck2.1,hR.q,hR.pk,hR.k,hck2.2.1,hck2.2.2.2,han,hdl,hsm hck⟩;obtain ⟨hFn,hFc⟩:=zAu (bc:=b_9) (bp:=bp) hX x hE hfd;refine Qh (zM<|zV (Qg rfl zdy (fun hg=>by exact BxI.cells (vs:=U3 x) h3) rfl) ?_);refine zbp (cap:=[]) (vs:=[_,_]) rfl rfl hFn (L:=[(b_9,_),(bp,_)]) (by exact .cons (.there .here) (.cons .here .nil)) hFc rfl rfl ?_ (fun pv hpv=>by (repeat (first | with_reducible refine UD ?_ | with_reducible refine KD ?_));obtain ⟨rfl,hne9⟩:=hpv;exact zht (args:=[]) (cap:=[ZI b_4,ZI b_5]) zsE (by exact .cons (.there .here) (.cons (.there .here) .nil)) (zmB I4 b_4 b_5 _) (fun a I' L' w' ha hI hk hs=>by obtain ⟨rfl,rfl⟩:=hk;exact ⟨_,zfb rfl rfl rfl Zu zaL kI rfl kM a ha w' hs,_,_,[],rfl,hIc,hs.subL Qq,XN zf7 (by rw [Un hck];exact ztw hne9)⟩));rintro vv5 I5 L5 hI5 ⟨rfl,hA0,a9,m9,c9,ps9,qs9,rfl,hR9,he9⟩;have hIc:=hIc.trans hI5;refine zN (zR<|zF Yt ?_);refine zV (Qg rfl Zu (fun hg=>by exact Cells.g0) rfl) ?_;refine zh ZX ?_;refine zS zaI<|zN (Qs ?_)
 exact zoH (args:=[]) (cap:=[ZI b_4,ZI b_5]) zsE (by exact .cons (.there (.there .here)) (.cons (.there (.there .here)) .nil)) (zos I5 b_4 b_5 _ _ _ _ _ _ _ _ _ _) (fun a I' L' w' ha hI hk hs=>by obtain ⟨rfl,rfl⟩:=hk;exact ⟨_,zfb rfl rfl rfl Zu zaL kI rfl kM a ha w' hs,_,_,[],rfl,hIc,hs.subL Qq,XN (zlv hA0 hR9 he9) (Un hck)⟩)
end
end Go.Proofs.YtjblkbkmblkgoaaGreat
namespace Go.Kn
section
open Go
section
variable {α β:Type} {ek:α→Value} {ev:β→Value}
end
section
variable {C:Cx} {Q:Exit→Act→World→Prop} {E E':Env} {I I':Qu} {loc loc' L R:Loc} {ops:Array Oper} {rest:List Oper} {S:GS}
variable {dst:Option Tmp} {d:Nat} {ty:TypeId} {pos:String} {af:Array Edge} {gd:Option (Nat×Bool)} {x y z:Operand}
variable {α β:Type} [DecidableEq α] {ek:α→Value} {ev:β→Value} {m:List (α×β)} {a:α} {q q':Nat}
theorem znE {m:List (α×β)}{a:α}:∀ k,ZQ m a=none→zgu m a k=none:=by
 intro k h;have:=zcf m a k;rw [h] at this
 cases hi:zgu m a k with
 | none=>rfl
 | some p=>rw [hi] at this;cases this
end
end
end Go.Kn
section
namespace Go.Kn
open Go
section
variable {C:Cx} {S:GS} {E:Env} {I:Qu} {loc:Loc} {dst:Option Tmp} {ty:TypeId} {pos:String} {af:Array Edge} {gd:Option (Nat×Bool)} {x y:Operand} {α β:Type} [DecidableEq α] {ek:α→Value} {ev:β→Value} {m:List (α×β)} {a:α}
theorem WO {t k e r:Nat}(d:β)(hT:MpT C.P t k e (ev d))(hK:KP C.P k ek)(hx:QH S E x=some (.map (some r)))(hy:QH S E y=some (ek a))(hm:Yq S=true→Mem I loc r (YH ek ev m)):
  QZ C S E I loc ⟨dst,.lookup t x y false,ty,pos,af,gd⟩ (ev ((ZQ m a).getD d)):=by
 have h:=Xx (C:=C) (S:=S) (dst:=dst) (ty:=ty) (pos:=pos) (af:=af) (gd:=gd) hT hK hx hy hm;have e:((ZQ m a).map ev).getD (ev d)=ev ((ZQ m a).getD d):=(by cases ZQ m a<;>rfl);rwa [e] at h
end
end Go.Kn
namespace Go.Proofs.YtjblkbkmblkgoaaGreat
open Go Go.Kn Go.Proofs
section
variable {α:Type} (num:Nt→Int) (prt:Nt→α) (kind:Int) (chk:List α→Int) (d:α)
def zbE (m:List (Int×α))(x:Nt):List (Int×α):=if (x.kind==kind&& !(ZQ m (num x)).isSome)=true then m++[(num x,prt x)] else m
def YC (xs:List Nt):List (Int×α):=xs.foldl (zbE num prt kind) []
def zkp (m:List (Int×α))(l:List α)(k:Int):List α:=if (chk (l++[(ZQ m k).getD d])==0)=true then l++[(ZQ m k).getD d] else l
def zjp (m:List (Int×α))(ns:List Int):List α:=ns.foldl (zkp chk d m) []
def ze7 (xs:List Nt):List α:=zjp chk d (YC num prt kind xs) (zcV ((YC num prt kind xs).map (·.1)))
variable {num prt kind chk d}
theorem Zq {xs:List Nt}{k:Nat}{x:Nt}(hx:xs[k]? =some x):YC num prt kind (xs.take (k+1))=zbE num prt kind (YC num prt kind (xs.take k)) x:=by
 unfold YC;rw [Zs hx,List.foldl_append];rfl
theorem zbq {m:List (Int×α)}{x:Nt}(hg:ZQ m (num x)=none)(hk:(x.kind==kind)=true):zbE num prt kind m x=JB m (num x) (prt x):=by
 unfold zbE;rw [hg,hk,if_pos kW,zed _ _ _ 0 (znE 0 hg)]
theorem J8 {m:List (Int×α)}{x:Nt}(hg:ZQ m (num x)=none)(hk:(x.kind==kind)=true):(zbE num prt kind m x).map (·.1)=m.map (·.1)++[num x]:=by
 unfold zbE;rw [hg,hk,if_pos kW,List.map_append];rfl
theorem zd4 {m:List (Int×α)}{x:Nt}(hk:(x.kind==kind)=false):zbE num prt kind m x=m:=by
 unfold zbE;rw [hk];rfl
theorem zbj {m:List (Int×α)}{x:Nt}{y:α}(hg:ZQ m (num x)=some y):zbE num prt kind m x=m:=by
 unfold zbE;rw [hg,if_neg kJ]
theorem JV {m:List (Int×α)}{ns:List Int}{j:Nat}{n:Int}(hn:ns[j]? =some n):zjp chk d m (ns.take (j+1))=zkp chk d m (zjp chk d m (ns.take j)) n:=by
 unfold zjp;rw [Zs hn,List.foldl_append];rfl
theorem zqi {xs:List Nt}:∀ p∈YC num prt kind xs,∃ x∈xs,p=(num x,prt x):=by
 have key:∀ (ys:List Nt) (m:List (Int×α)),(∀ y∈ys,y∈xs)→(∀ p∈m,∃ x∈xs,p=(num x,prt x))→∀ p∈ys.foldl (zbE num prt kind) m,∃ x∈xs,p=(num x,prt x):=by
  intro ys
  induction ys with
  | nil=>intro m _ h;exact h
  | cons y ys ih=>
   intro m hy h;rw [List.foldl_cons];refine ih _ (fun z hz=>hy z (List.mem_cons_of_mem _ hz)) fun p hp=>?_;unfold zbE at hp;split at hp
   ·
    rcases List.mem_append.1 hp with hp | hp
    ·
     exact h p hp
    ·
     rw [List.mem_singleton] at hp;exact ⟨y,hy y (List.mem_cons_self ..),hp⟩
   ·
    exact h p hp
 exact key xs [] (fun _ h=>h) (fun _ h=>by cases h)
theorem zte {m:List (Int×α)}{k:Int}{v:α}(h:ZQ m k=some v):(k,v)∈m:=by
 induction m with
 | nil=>cases h
 | cons p m ih=>
  unfold ZQ at h;split at h
  ·
   rename_i e;cases h;subst e;exact List.mem_cons_self ..
  ·
   exact List.mem_cons_of_mem _ (ih h)
theorem zod {xs:List Nt}{k:Int}:(ZQ (YC num prt kind xs) k).getD d=d∨∃ x∈xs,(ZQ (YC num prt kind xs) k).getD d=prt x:=by
 cases h:ZQ (YC num prt kind xs) k with
 | none=>exact .inl rfl
 | some v=>
  obtain ⟨x,hx,e⟩:=zqi _ (zte h);exact .inr ⟨x,hx,congrArg Prod.snd e⟩
theorem zif {xs:List Nt}{ns:List Int}:∀ p∈zjp chk d (YC num prt kind xs) ns,p=d∨∃ x∈xs,p=prt x:=by
 have key:∀ (ms:List Int) (l:List α),(∀ p∈l,p=d∨∃ x∈xs,p=prt x)→∀ p∈ms.foldl (zkp chk d (YC num prt kind xs)) l,p=d∨∃ x∈xs,p=prt x:=by
  intro ms
  induction ms with
  | nil=>intro l h;exact h
  | cons k ms ih=>
   intro l h;rw [List.foldl_cons];refine ih _ fun p hp=>?_;unfold zkp at hp;split at hp
   ·
    rcases List.mem_append.1 hp with hp | hp
    ·
     exact h p hp
    ·
     rw [List.mem_singleton] at hp;subst hp;exact zod
   ·
    exact h p hp
 exact key ns [] (fun _ h=>by cases h)
theorem V8 {xs:List Nt}:(YC num prt kind xs).length≤xs.length:=by
 have key:∀ (ys:List Nt) (m:List (Int×α)),(ys.foldl (zbE num prt kind) m).length≤m.length+ys.length:=by
  intro ys
  induction ys with
  | nil=>intro m;simp
  | cons y ys ih=>
   intro m;rw [List.foldl_cons];refine Nat.le_trans (ih _) ?_;unfold zbE;split
   ·
    simp;omega
   ·
    simp
 have h:=key xs [];rw [List.length_nil,Nat.zero_add] at h;exact h
end
end Go.Proofs.YtjblkbkmblkgoaaGreat
end
namespace Go.Proofs.YtjblkbkmblkgoaaGreat
section
open Go Go.Kn Go.Proofs
theorem K4:SlT Tryz.prog 63 41 5:=.of kA
theorem zaX:SzT Tryz.prog 41 5:=.of kA
theorem Uq:SzT Tryz.prog 43 11:=.of kA
theorem zhe:Vv Tryz.prog 41 (.agg #[(.int .i64 0),(.int .i64 0),(.int .i64 0),(.int .i64 0),(.int .i64 0)]):=.of kA
theorem za0:Vv Tryz.prog 43 (.agg #[(.int .i64 0),(.int .i64 0),(.int .i64 0),(.int .i64 0),(.int .i64 0),(.int .i64 0),(.string ⟨#[]⟩),(.string ⟨#[]⟩),(.int .i64 0),(.int .i64 0),(.int .i64 0)]):=.of kA
theorem zvw (I:Qu)(x:Nt):ZJ Tryz.prog 67 [J0 x] I (.tuple #[JA (x.lm),.int .i64 x.lm.no]):=by
 intro g H w hw;refine qe Tryz.func67 Tryz.ntmps67 hw ?_;have hIc:=zB6 I;refine zR<|QK rfl rfl rfl (fun b_1=>Qp zfS rfl rfl (fun b_2=>zA (Qb<|QF (.there .here) (fun I1 hI1 hb1=>?_))))
 have hIc:=hIc.trans hI1;have h1:=BxI.of hb1;refine Qd (Qm ?_);have hD:=zB6 I1;refine Zn<|QJ I1 [] mixed<|zT 0 rfl (Qa rfl Vt) hD<|zT 1 rfl (Qg rfl Km (fun hg=>by exact zeB (BxI.cells (vs:=Zf x) h1)) rfl) hD<|zT 2 rfl (Qa rfl Vt) hD<|zT 3 rfl (Qa rfl YV) hD<|zT 4 rfl (Qc rfl Ql (fun hg=>by exact Qy.imm h1.out rfl)) hD<|qd 5 rfl ?_
 refine zh XP ?_;exact Qb<|zD hD<|zT 6 rfl (QB rfl) hD<|Qn kA<|Qv<|Qd (Qs<|Q2 rfl rfl rfl Km zB4 rfl (fun w hw=>⟨by rfl,(hw.mono hIc).subL Qq⟩))
theorem zk1 (I:Qu)(av:Option Addr)(n c:Nat)(hc:n≤c):ZJ Tryz.prog 136 [.slice av n c] I (.slice av n n):=by
 intro g H w hw;refine qe Tryz.func136 Tryz.ntmps136 hw ?_;refine zR (zA<|zN (zR ?_));refine zM ?_;refine zM ?_;refine zQ ZY ?_;refine zM ?_;refine zQ ZY ?_;refine zV (ZA rfl rfl rfl ZY (fun hg=>kB))<|zA (zN (Qs ?_))
 exact Qx rfl rfl (fun w hw=>⟨by rfl,hw⟩)
theorem ztD (I:Qu)(x:Nt):ZJ Tryz.prog 69 [J0 x] I (.tuple #[L.encA (x.ls),.int .i64 x.ls.no]):=by
 intro g H w hw;refine qe Tryz.func69 Tryz.ntmps69 hw ?_;have hIc:=zB6 I;refine zR<|QK rfl rfl rfl (fun b_1=>Qp zhe rfl rfl (fun b_2=>zA (Qb<|QF (.there .here) (fun I1 hI1 hb1=>?_))))
 have hIc:=hIc.trans hI1;have h1:=BxI.of hb1;refine Qd (Qm ?_);have hD:=zB6 I1;refine Zn<|QJ I1 [] mixed<|zT 0 rfl (Qa rfl V9) hD<|zT 1 rfl (Qg rfl Kj (fun hg=>by exact zdG (BxI.cells (vs:=Zf x) h1)) rfl) hD<|zT 2 rfl (Qa rfl V9) hD<|zT 3 rfl (Qa rfl Ky) hD<|zT 4 rfl (Qc rfl Ql (fun hg=>by exact Qy.imm h1.out rfl)) hD<|qd 5 rfl ?_
 refine zh zaX ?_;exact Qb<|zD hD<|zT 6 rfl (QB rfl) hD<|Qn kA<|Qv<|Qd (Qs<|Q2 rfl rfl rfl Kj zB4 rfl (fun w hw=>⟨by rfl,(hw.mono hIc).subL Qq⟩))
theorem zn8 (I:Qu)(av:Option Addr)(n c:Nat)(hc:n≤c):ZJ Tryz.prog 137 [.slice av n c] I (.slice av n n):=by
 intro g H w hw;refine qe Tryz.func137 Tryz.ntmps137 hw ?_;refine zR (zA<|zN (zR ?_));refine zM ?_;refine zM ?_;refine zQ K4 ?_;refine zM ?_;refine zQ K4 ?_;refine zV (ZA rfl rfl rfl K4 (fun hg=>kB))<|zA (zN (Qs ?_))
 exact Qx rfl rfl (fun w hw=>⟨by rfl,hw⟩)
theorem zt6 (I:Qu)(x:Nt):ZJ Tryz.prog 71 [J0 x] I (.tuple #[Uf (x.pt),.int .i64 x.pt.id]):=by
 intro g H w hw;refine qe Tryz.func71 Tryz.ntmps71 hw ?_;have hIc:=zB6 I;refine zR<|QK rfl rfl rfl (fun b_1=>Qp zb0 rfl rfl (fun b_2=>zA (Qb<|QF (.there .here) (fun I1 hI1 hb1=>?_))))
 have hIc:=hIc.trans hI1;have h1:=BxI.of hb1;refine Qd (Qm ?_);have hD:=zB6 I1;refine Zn<|QJ I1 [] mixed<|zT 0 rfl (Qa rfl YA) hD<|zT 1 rfl (Qg rfl VW (fun hg=>by exact za6 (BxI.cells (vs:=Zf x) h1)) rfl) hD<|zT 2 rfl (Qa rfl YA) hD<|zT 3 rfl (Qa rfl Yk) hD<|zT 4 rfl (Qc rfl Ql (fun hg=>by exact Qy.imm h1.out rfl)) hD<|qd 5 rfl ?_
 refine zh U0 ?_;exact Qb<|zD hD<|zT 6 rfl (QB rfl) hD<|Qn kA<|Qv<|Qd (Qs<|Q2 rfl rfl rfl VW zB4 rfl (fun w hw=>⟨by rfl,(hw.mono hIc).subL Qq⟩))
theorem zla (I:Qu)(av:Option Addr)(n c:Nat)(hc:n≤c):ZJ Tryz.prog 138 [.slice av n c] I (.slice av n n):=by
 intro g H w hw;refine qe Tryz.func138 Tryz.ntmps138 hw ?_;refine zR (zA<|zN (zR ?_));refine zM ?_;refine zM ?_;refine zQ KY ?_;refine zM ?_;refine zQ KY ?_;refine zV (ZA rfl rfl rfl KY (fun hg=>kB))<|zA (zN (Qs ?_))
 exact Qx rfl rfl (fun w hw=>⟨by rfl,hw⟩)
theorem ztk (I:Qu)(x:Nt):ZJ Tryz.prog 73 [J0 x] I (.tuple #[S.encA (x.rt),.int .i64 x.rt.no]):=by
 intro g H w hw;refine qe Tryz.func73 Tryz.ntmps73 hw ?_;have hIc:=zB6 I;refine zR<|QK rfl rfl rfl (fun b_1=>Qp za0 rfl rfl (fun b_2=>zA (Qb<|QF (.there .here) (fun I1 hI1 hb1=>?_))))
 have hIc:=hIc.trans hI1;have h1:=BxI.of hb1;refine Qd (Qm ?_);have hD:=zB6 I1;refine Zn<|QJ I1 [] mixed<|zT 0 rfl (Qa rfl YB) hD<|zT 1 rfl (Qg rfl Y6 (fun hg=>by exact zeb (BxI.cells (vs:=Zf x) h1)) rfl) hD<|zT 2 rfl (Qa rfl YB) hD<|zT 3 rfl (Qa rfl Ve) hD<|zT 4 rfl (Qc rfl Ql (fun hg=>by exact Qy.imm h1.out rfl)) hD<|qd 5 rfl ?_
 refine zh Uq ?_;exact Qb<|zD hD<|zT 6 rfl (QB rfl) hD<|Qn kA<|Qv<|Qd (Qs<|Q2 rfl rfl rfl Y6 zB4 rfl (fun w hw=>⟨by rfl,(hw.mono hIc).subL Qq⟩))
theorem znV (I:Qu)(av:Option Addr)(n c:Nat)(hc:n≤c):ZJ Tryz.prog 139 [.slice av n c] I (.slice av n n):=by
 intro g H w hw;refine qe Tryz.func139 Tryz.ntmps139 hw ?_;refine zR (zA<|zN (zR ?_));refine zM ?_;refine zM ?_;refine zQ Yn ?_;refine zM ?_;refine zQ Yn ?_;refine zV (ZA rfl rfl rfl Yn (fun hg=>kB))<|zA (zN (Qs ?_))
 exact Qx rfl rfl (fun w hw=>⟨by rfl,hw⟩)
def zzK (ps:List Pt):List Int:=ps.map (·.id)
def lsQ (ps:List Pt)(i:Nat):Bool:= !((decide ((i:Int)>0)&&decide ((ps.getD i JD).id≤(ps.getD ((i:Int)-1).toNat JD).id))||(ps.getD i JD).needs.any (fun n=> !zkj (ps.take i) n))
variable{ps:List Pt}{k:Nat}{p:Pt}{l:Int}{s:List (Int×Bool)}
theorem zsQ (hp:ps[k]? =some p)(h1:1≤p.id)(hl:zjD (zzK ps) k l)(hs:∀ x,zpO s x=zkj (ps.take k) x):lsQ ps k= !(decide (p.id≤l)||p.needs.any fun x=> !zpO s x):=by
 unfold lsQ;rw [VL hp];simp only [hs];congr 2
 cases k with
 | zero=>
  rw [hl.1 rfl,Bool.eq_iff_iff];simp;omega
 | succ k=>
  have hk:=(List.getElem?_eq_some_iff.1 hp).1;have hy:ps[k]? =some (ps[k]' kB):=List.getElem?_eq_getElem _;have e:=hl.2 (ps[k]' kB).id (by rw [Nat.add_sub_cancel];simp [zzK,hy]) kB;rw [show (((k+1:Nat):Int)-1).toNat=k by omega,VL hy,←e,Bool.eq_iff_iff];simp
theorem zj5 (hp:ps[k]? =some p):zjD (zzK ps) (k+1) p.id:=zdn (by simp [zzK,hp])
theorem zrb (hp:ps[k]? =some p)(x:Int):zkj (ps.take (k+1)) x=(decide (p.id=x)||zkj (ps.take k) x):=by
 unfold zkj;rw [X7 hp,List.any_append,Bool.eq_iff_iff];simp [or_comm]
theorem zrd {n:Int}(h:zkj (ps.take k) n=true):zkj ps n=true:=by
 obtain ⟨q,hq,e⟩:=za9.1 h;exact za9.2 ⟨q,List.mem_of_mem_take hq,e⟩
theorem zn9 (h0:orF (ps.map Uk)=0):(List.range ps.length).all (lsQ ps)=lsB ps:=by
 rw [Bool.eq_iff_iff];constructor
 ·
  intro h;unfold lsB;rw [List.all_eq_true] at h ⊢;intro i hi;have:=h i hi;unfold lsQ at this;unfold lsP;simp only [Bool.not_eq_true',Bool.or_eq_false_iff] at this ⊢;refine ⟨this.1,?_⟩;have h2:=this.2;rw [List.any_eq_false] at h2 ⊢;intro n hn hc;refine h2 n hn ?_;rw [Bool.not_eq_true'] at hc ⊢
  cases hh:zkj (ps.take i) n with
  | false=>rfl
  | true=>rw [zrd hh] at hc;cases hc
 ·
  intro h;have hL:=zr8 h0 h;unfold lsB at h;rw [List.all_eq_true] at h ⊢;intro i hi;have:=h i hi;unfold lsP at this;unfold lsQ;simp only [Bool.not_eq_true',Bool.or_eq_false_iff] at this ⊢;refine ⟨this.1,?_⟩;rw [List.any_eq_false];intro n hn hc;have hk:ps[i]? =some (ps.getD i JD):=Uw rfl (List.mem_range.1 hi);obtain ⟨q,hq,e⟩:=hL.before hk hn;rw [za9.2 ⟨q,hq,e⟩] at hc;cases hc
/-! ### Inserts and removes of a sign -/
def Ko (k:Int)(ps:List Pt)(s:Int):List Int:=(ps.filter fun q=>q.kind==k&&q.sign==s).map (·.id)
theorem WI {c:Int}(hp:ps[k]? =some p)(s:Int):Ko c (ps.take (k+1)) s=Ko c (ps.take k) s++(if p.kind=c∧p.sign=s then [p.id] else []):=by
 unfold Ko;rw [X7 hp,List.filter_append,List.map_append];congr 1;by_cases h:p.kind=c∧p.sign=s
 ·
  rw [if_pos h];simp [h.1,h.2]
 ·
  rw [if_neg h]
  have:(p.kind==c&&p.sign==s)=false:=by
   rw [Bool.eq_false_iff];intro hc;simp at hc;exact h hc
  simp [this]
theorem Xy {c:Int}{s x:Int}:x∈Ko c ps s↔ ∃ q∈ps,q.kind=c∧q.sign=s∧q.id=x:=by
 unfold Ko;rw [ztU];simp [and_assoc]
def zjZ (mi:List (Int×Int))(ps:List Pt):Prop:=∀ s,Ko 2 ps s=(ZQ mi s).toList
theorem zjZ.nil :zjZ [] (ps.take 0):=fun s=>by simp [Ko,ZQ]
variable{mi:List (Int×Int)}
theorem zjZ.put (h:zjZ mi (ps.take k))(hp:ps[k]? =some p)(hk:p.kind=2)(hn:ZQ mi p.sign=none):zjZ (JB mi p.sign p.id) (ps.take (k+1)):=fun s=>by
 rw [WI hp,h s,Jr];by_cases e:p.sign=s
 ·
  subst e;rw [if_pos ⟨hk,rfl⟩,if_pos rfl,hn];rfl
 ·
  rw [if_neg (fun q=>e q.2),if_neg e,List.append_nil]
theorem zjZ.skip (h:zjZ mi (ps.take k))(hp:ps[k]? =some p)(hk:p.kind≠2):zjZ mi (ps.take (k+1)):=fun s=>by
 rw [WI hp,h s,if_neg (fun q=>hk q.1),List.append_nil]
def zki (mr:List (Int×(Value×Nat×List Value)))(ps:List Pt):Prop:=∀ s,((ZQ mr s).getD zfH).2.2=(Ko 3 ps s).flatMap Z5
theorem zki.nil :zki [] (ps.take 0):=fun s=>by simp [Ko,ZQ,zfH]
variable{mr:List (Int×(Value×Nat×List Value))}{n:Nat}{v:Value}
theorem zki.put (h:zki mr (ps.take k))(hp:ps[k]? =some p)(hk:p.kind=3):zki (JB mr p.sign (v,n,((ZQ mr p.sign).getD zfH).2.2++[p.id].flatMap Z5)) (ps.take (k+1)):=fun s=>by
 rw [WI hp,Jr];by_cases e:p.sign=s
 ·
  subst e;rw [if_pos rfl,if_pos ⟨hk,rfl⟩,List.flatMap_append,←h];rfl
 ·
  rw [if_neg e,if_neg (fun q=>e q.2),List.append_nil,h s]
theorem zki.skip (h:zki mr (ps.take k))(hp:ps[k]? =some p)(hk:p.kind≠3):zki mr (ps.take (k+1)):=fun s=>by
 rw [WI hp,h s,if_neg (fun q=>hk q.1),List.append_nil]
theorem zfQ {c:Int}{s:Int}:(Ko c ps s).length≤ps.length:=by
 unfold Ko;rw [List.length_map];exact List.length_filter_le _ _
variable{I:Qu}{e:Nat}
theorem zzC {L:Go.Kn.Loc}(h:zki mr ps)(hA:W2 e 1 (mr.map (·.2)) L)(hI:∀ b o,(b,o)∈L→I b=some o)(s:Int):
  ∃ av c,((ZQ mr s).getD zfH).1= .slice av (Ko 3 ps s).length c∧Sl I 1 Z5 av (Ko 3 ps s).length c (Ko 3 ps s):=by
 obtain ⟨A,Lt,B,rfl,hO,_⟩:=hA.at s;rw [h s] at hO;obtain ⟨av,c,e1,e2⟩:=hO.sl YL kC (fun b o hb=>hI b o (by simp [hb]));have hn:=e2.len;rw [←hn] at e1 e2;exact ⟨av,c,e1,e2⟩
theorem zy7 {s:Int}{L:Go.Kn.Loc}(h:zki mr ps)(hO:ZU e 1 ((ZQ mr s).getD zfH).1 ((ZQ mr s).getD zfH).2.1 ((ZQ mr s).getD zfH).2.2 L):((ZQ mr s).getD zfH).2.1≤ps.length:=by
 have h1:=hO.1;rw [h s,zBT] at h1;have h2:=zfQ (c:=3) (ps:=ps) (s:=s);omega
theorem zmU {x y:Nat×Obj}{A L B:Go.Kn.Loc}:(x::y::(A++(L++B))).Perm (L++(x::y::(A++B))):=List.perm_append_comm_assoc (x::y::A) L B
def tgP (ps:List Pt)(p:Pt):Bool:= !(((Ko 2 ps p.sign).any fun i=>p.id != i&& !onF ps p.id i)||(Ko 3 ps p.sign).any (onF ps p.id))
theorem zkU (hL:Lst ps)(hi:zjZ mi ps):zrT ps=ps.all (tgP ps):=by
 unfold zrT;rw [Bool.eq_iff_iff,List.all_eq_true,List.all_eq_true];refine forall_congr' fun p=>forall_congr' fun hp=>?_;unfold tgP;rw [List.all_eq_true];simp only [Bool.not_eq_true',Bool.or_eq_false_iff,List.any_eq_false,Xy];constructor
 ·
  intro h;constructor
  ·
   rintro x ⟨q,hq,h2,hs,rfl⟩ hc;have:=h q hq;unfold zwN at this;rw [if_neg (by simpa using hs.symm),if_pos h2] at this;simp at this hc;rcases this with e | e
   ·
    exact hc.1 e
   ·
    rw [hc.2] at e;cases e.2
  ·
   rintro x ⟨q,hq,h3,hs,rfl⟩ hc;have:=h q hq;unfold zwN at this;rw [if_neg (by simpa using hs.symm),if_neg kB,if_pos h3] at this;simp at this;rcases this with e | e
   ·
    rw [e,hL.on_irr] at hc;cases hc
   ·
    rw [e] at hc;cases hc
 ·
  rintro ⟨h1,h2⟩ q hq;unfold zwN;by_cases hs:p.sign=q.sign
  ·
   rw [if_neg (by simpa using hs)];by_cases e:p.id=q.id
   ·
    simp [e]
   ·
    by_cases k2:q.kind=2
    ·
     rw [if_pos k2];have:=h1 q.id ⟨q,hq,k2,hs.symm,rfl⟩
     have hk:p.kind≠2:=fun k=>e (by
      have hm1:=Xy.2 ⟨p,hp,k,rfl,rfl⟩;have hm2:=Xy.2 ⟨q,hq,k2,hs.symm,rfl⟩;rw [hi p.sign] at hm1 hm2
      cases hg:ZQ mi p.sign with
      | none=>rw [hg] at hm1;cases hm1
      | some z=>rw [hg] at hm1 hm2;simp at hm1 hm2;rw [hm1,hm2])
     simp [e] at this;simp [this,hk]
    ·
     rw [if_neg k2];by_cases k3:q.kind=3
     ·
      rw [if_pos k3];have:=h2 q.id ⟨q,hq,k3,hs.symm,rfl⟩;simp at this;simp [this]
     ·
      rw [if_neg k3];simp
  ·
   rw [if_pos hs];simp
variable{id:Int}
theorem ztt (hL:Lst ps)(h:zjZ mi (ps.take k))(hp:ps[k]? =some p)(hk:p.kind=2)(hn:ZQ mi p.sign=some id):zrT ps=false:=by
 have hm:id∈Ko 2 (ps.take k) p.sign:=(by rw [h,hn];simp);obtain ⟨q,hq,k2,hs,rfl⟩:=Xy.1 hm;have hlt:=hL.fresh hp q hq;unfold zrT;rw [Bool.eq_false_iff];intro hc;rw [List.all_eq_true] at hc;have h1:=hc p (List.mem_of_getElem? hp);rw [List.all_eq_true] at h1;have h2:=h1 q (List.mem_of_mem_take hq);unfold zwN at h2;rw [if_neg (by simpa using hs.symm),if_pos k2] at h2;simp [hk] at h2;omega
theorem zsD (hi:zjZ mi ps):((ZQ mi p.sign).isSome&&(p.id != (ZQ mi p.sign).getD 0)&& !onF ps p.id ((ZQ mi p.sign).getD 0))=((Ko 2 ps p.sign).any fun i=>p.id != i&& !onF ps p.id i):=by
 rw [hi p.sign]
 cases ZQ mi p.sign with
 | none=>rfl
 | some x=>simp
theorem zyR (h:ps.length>512):zcW ps=2:=by unfold zcW;rw [if_pos h]
theorem zxk (h:¬ps.length>512)(hp:ps[k]? =some p)(h0:orF ((ps.take k).map Uk)=0)(h1:Uk p≠0):zcW ps=Uk p:=by
 have:orF (ps.map Uk)=Uk p:=zqh (k:=k) (by simp [hp]) (by rw [←List.map_take];exact h0) h1;unfold zcW;rw [if_neg h,this,if_pos h1]
theorem zyZ (h:¬ps.length>512)(h0:orF (ps.map Uk)=0)(h1:lsB ps=false):zcW ps=380:=by unfold zcW;rw [if_neg h,if_neg kB,h1];rfl
theorem zmR (h:¬ps.length>512)(h0:orF (ps.map Uk)=0)(h1:lsB ps=true)(h2:zrT ps=false):zcW ps=380:=by unfold zcW;rw [if_neg h,if_neg kB,h1,h2];rfl
theorem zyQ (h:¬ps.length>512)(h0:orF (ps.map Uk)=0)(h1:lsB ps=true)(h2:zrT ps=true):zcW ps=0:=by unfold zcW;rw [if_neg h,if_neg kB,h1,h2];rfl
theorem zuz (hp:ps[k]? =some p)(h0:orF ((ps.take k).map Uk)=0)(h1:Uk p=0):orF ((ps.take (k+1)).map Uk)=0:=by
 rw [zbs] at h0 ⊢;intro x hx;rw [X7 hp,List.map_append,List.mem_append] at hx;rcases hx with hx | hx
 ·
  exact h0 x hx
 ·
  simp at hx;rw [hx,h1]
theorem zrs (h:Uk p=0):1≤p.id∧p.id≤1048576∧0≤p.sign∧p.sign≤1048576∧p.needs.length≤32:=by
 unfold Uk at h;split at h
 ·
  cases h
 ·
  split at h
  ·
   rename_i h1 h2;simp only [Bool.and_eq_true] at h2;have h3:=h2.2.1;unfold idB at h3;simp at h3;omega
  ·
   cases h
variable{av:Option Addr}{c:Nat}
theorem zAX (hP:SlP I av n c ps)(hz:∀ p∈ps,Uk p=0):∀ p∈ps,p.n≤100000:=fun p hp=>by
 have h1:Sl I 1 Z5 p.a p.n p.c p.needs:=hP.2 p hp;have h2:=hz p hp;have h3:=h1.len;unfold Uk at h2;split at h2
 ·
  cases h2
 ·
  omega
theorem zzP (hP:SlP I av n c ps)(hn:n≤100000):ZJ Tryz.prog 39 [.slice av n c] I (.int .i64 (zcW ps)):=by
 intro g H w hw;refine qe Tryz.func39 Tryz.ntmps39 hw ?_;have hIc:=zB6 I;refine zR (zA (zN (Qm (zR ?_))));refine zM ?_;refine zQ KY<|zC (zN ?_)
 refine zI ?_ ?_<;>intro hc24
 ·
  have hlen:ps.length>512:=(by rw [hP.len];simp at hc24;omega);exact zR (zA (zN (Qs (Qf<|zp hIc rfl rfl (by rw [zyR hlen])))))
 have hlen:¬ps.length>512:=(by rw [hP.len];simp at hc24;omega);refine Qr (Qd (Qm (zR (zM<|zQ KY ?_))));refine zM (zN (Qw ?_));refine zU [(0,_),(25,_),(26,_)] (fun T L0 mz E I' loc'=>∃ (k:Nat) (e:Int),mz=n-k∧E=(27,.int .i64 k)::T∧I=I'∧L0=loc'∧k≤n∧e=0∧orF ((ps.take k).map Uk)=0) ?_ (h:=⟨0,0,rfl,rfl,rfl,rfl,Nat.zero_le _,rfl,rfl⟩);rintro mz E I' loc' ⟨k,e,rfl,rfl,rfl,rfl,hk,he,h0⟩;refine zR (zC (zN (Qm ?_)));refine zI ?_ ?_<;>intro hc28
 ·
  have hlt_k:k<n:=(by have h:=hc28;simp at h;omega);have hP1:=hP.1;obtain ⟨p,hp,hN⟩:=hP.at hlt_k;have hpm:=List.mem_of_getElem? hp;have hN:Sl I 1 Z5 p.a p.n p.c p.needs:=hN;refine Qr (Qd (Qm (Qw (zR<|zV (QG rfl rfl KY kL (fun hg=>kB))<|zV (Qg rfl VW (fun hg=>by exact zB7 hP1 hp) rfl)<|Qp zb0 rfl rfl (fun b_4=>?_)))));refine zh U0 ?_;refine zN (zR ?_);refine zV (Qg rfl VW (fun hg=>by exact Cells.g0) rfl) ?_;refine qcV (vs:=[_]) rfl zs1 (zrA p hN) ?_;refine zA<|zN (zR ?_)
  refine zM<|zC (zN ?_)
  refine zI ?_ ?_<;>intro hc34
  ·
   have hbad:zcW ps=Uk p:=zxk hlen hp h0 (by simpa using hc34);exact zR (zM<|zA (zN (Qs (Qi (Qf (Qf (Qi (Qf<|zp hIc rfl rfl (by rw [hbad])))))))))
  have hpk:Uk p=0:=(by simpa using hc34);exact Qr (Qk (Qd (Qh (zB<|zM (Qb<|zm (h:=⟨n-(k+1),kB,k+1,_,rfl,rfl,rfl,rfl,kB,hpk,zuz hp h0 hpk⟩))))))
 have hge_k:n≤k:=(by have h:=hc28;simp at h;omega);have h0:orF (ps.map Uk)=0:=(by rw [ZR hP.len hge_k] at h0;exact h0);have hz:∀ p∈ps,Uk p=0:=fun p hp=>zbs.1 h0 _ (List.mem_map.2 ⟨p,hp,rfl⟩);have hnd:=zAX hP hz;refine Zk (Qo (Qo (Qz (Qd (zR<|Yl rfl rfl (fun r_37=>Qp zxB rfl rfl (fun b_5=>zS zu0<|zA (zN (Qm (zR ?_))))))))));refine zM ?_;refine zQ KY ?_;refine zM (zN (Qw ?_));refine zU [(0,_),(5,_),(38,_),(39,_)] (fun T L0 mz E I' loc'=>∃ (k:Nat) (l:Int) (s:List (Int×Bool)),mz=n-k∧E=(6,.int .i64 l)::(40,.int .i64 k)::T∧I=I'∧[(b_5,.cells #[.map (some r_37)] 143 (0,0)),(r_37,YH (Value.int .i64) Value.bool s)]=loc'∧k≤n∧(List.range k).all (lsQ ps)=true∧zjD (zzK ps) k l∧∀ x,zpO s x=zkj (ps.take k) x) ?_ (h:=⟨0,0,[],rfl,rfl,rfl,rfl,Nat.zero_le _,rfl,⟨fun _=>rfl,fun y hy h=>absurd rfl h⟩,fun x=>rfl⟩);rintro mz E I' loc' ⟨k,l,s,rfl,rfl,rfl,rfl,hk,hall,hl,hs⟩;refine zR (zC (zN (Qm ?_)));refine zI ?_ ?_<;>intro hc41
 ·
  have hlt_k:k<n:=(by have h:=hc41;simp at h;omega);have hP1:=hP.1;obtain ⟨p,hp,hN⟩:=hP.at hlt_k;have hpm:=List.mem_of_getElem? hp;have hN:Sl I 1 Z5 p.a p.n p.c p.needs:=hN;have hpn:=hnd p hpm;have hp1:=(zrs (hz p hpm)).1;refine Qr (Qd (Qm (Qw (zR<|zV (QG rfl rfl KY kL (fun hg=>kB))<|zV (Qg rfl VW (fun hg=>by exact zB7 hP1 hp) rfl)<|Qp zb0 rfl rfl (fun b_8=>?_)))));refine zh U0<|zN (Qm (zR<|zF Yk ?_))
  refine zL Ql<|zM<|zC ?_
  refine zM ?_;refine QI 4 rfl rfl rfl ?_;refine zJ (Qa rfl ZZ)<|zJ (Qc rfl Vy (fun hg=>by exact Qy.h0 rfl))<|zJ (YP (us:=[]) (vs:=[_]) rfl rfl)<|zfw (cap:=[]) (vs:=[_,_]) rfl rfl zxL ZL (fun hg=>zoD.ofV fun I' hI' hL'=>zAW (cap:=[.pointer (some ⟨b_5,0,none⟩)]) (hN.mono hI') hpn zxj (fun x _=>zAC (b:=b_5) (r:=r_37) (s:=s) (hL' b_5 _ kJ) (hL' r_37 _ kJ) x)) (.some rfl rfl rfl rfl gbf) rfl rfl<|Q9 rfl rfl rfl rfl rfl ?_
  refine zN ?_;refine zI ?_ ?_<;>intro hc53
  ·
   have hbad:zcW ps=380:=zyZ hlen h0 (by rw [←zn9 h0];exact Ka (k:=k) (by rw [hP.len];exact hlt_k) (by rw [zsQ hp hp1 hl hs];exact congrArg (! ·) hc53));exact zR (zA (zN (Qs (Qf (Qi (Qf (Qf<|Qi (Qf<|zp hIc rfl rfl (by rw [hbad])))))))))
  refine Qr (Qd ?_);have hD:=zB6 I;refine Zn<|QJ I [(b_8,.cells (Xu p).toArray 39 (0,0)),(b_5,.cells #[.map (some r_37)] 143 (0,0))] mixed<|zT 0 rfl (Qc rfl zn3 (fun hg=>by exact Qy.h1 rfl)) hD<|zT 1 rfl (Qa rfl Yk) hD<|zT 2 rfl (Qc rfl Ql (fun hg=>by exact Qy.h0 rfl)) hD<|zT 3 rfl (Qa rfl Yk) hD<|zT 4 rfl (Qc rfl Ql (fun hg=>by exact Qy.h0 rfl)) hD<|qd 5 rfl<|YM (m:=s) (ek:=Value.int .i64) (ev:=Value.bool) (a:=p.id) true Xn Zd rfl rfl rfl rfl (by repeat (first | exact Upd.here | apply Upd.there | apply ZD))<|Qb<|zD hD<|zT 6 rfl (QB rfl) hD ?_
  refine Qn kA<|Qv ?_
  refine Qk (Qd (Qh (zB<|zM (Qb ?_))));exact zm (h:=⟨n-(k+1),kB,k+1,_,_,rfl,rfl,rfl,rfl,kB,Ji hall (by rw [zsQ hp hp1 hl hs];exact congrArg (! ·) hc53),zj5 hp,fun x=>by rw [zhQ,hs,zrb hp]⟩)
 have hge_k:n≤k:=(by have h:=hc41;simp at h;omega);have hls:lsB ps=true:=(by rw [←zn9 h0,hP.len,show n=k by omega];exact hall);have hL:Lst ps:=zr8 h0 hls;refine Zk (Qo (Qo (Qz (Qd (zR (zM<|zpc [_] rfl zw8 .nil (zq7 hP hn hL hnd) ?_))))));rintro vv3 I3 L3 hI3 ⟨rfl,r9,rfl,hOn⟩;have hP:=hP.mono hI3;have hIc:=hIc.trans hI3;refine zA<|zN (zR<|Yl rfl rfl (fun r_62=>Yl rfl rfl (fun r_63=>zA<|zA (zN (Qm (Qm ?_))))))
 refine zp9 [(r_63,YH (Value.int .i64) ztT []),(r_62,YH (Value.int .i64) (Value.int .i64) [])] (by repeat (first | exact Qq | exact .refl | refine .keep ?_ | refine .drop ?_)) ?_;refine Qh (zM<|zQ KY ?_);refine zM (zN (Qw ?_));refine zU [(0,_),(9,_),(10,_),(11,_),(64,_),(65,_)] (fun T L0 mz E I' loc'=>∃ (k:Nat) (mi:List (Int×Int)) (mr:List (Int×(Value×Nat×List Value))) (L:Go.Kn.Loc),mz=n-k∧E=(66,.int .i64 k)::T∧I3=I'∧(r_63,YH (Value.int .i64) ztT mr)::(r_62,YH (Value.int .i64) (Value.int .i64) mi)::L=loc'∧k≤n∧zjZ mi (ps.take k)∧zki mr (ps.take k)∧W2 3 1 (mr.map (·.2)) L) ?_ (h:=⟨0,[],[],[],rfl,rfl,rfl,rfl,Nat.zero_le _,zjZ.nil,zki.nil,W2.nil⟩);rintro mz E I' loc' ⟨k,mi,mr,L,rfl,rfl,rfl,rfl,hk,hmi,hmr,hAll⟩;refine zR (zC (zN (Qm ?_)));refine zI ?_ ?_<;>intro hc67
 ·
  have hlt_k:k<n:=(by have h:=hc67;simp at h;omega);have hP1:=hP.1;obtain ⟨p,hp,hN⟩:=hP.at hlt_k;have hpm:=List.mem_of_getElem? hp;have hN:Sl I3 1 Z5 p.a p.n p.c p.needs:=hN;have hpn:=hnd p hpm;refine Qr (Qd (Qm (Qw (zR<|zV (QG rfl rfl KY kL (fun hg=>kB))<|zV (Qg rfl VW (fun hg=>by exact zB7 hP1 hp) rfl)<|Qp zb0 rfl rfl (fun b_13=>?_)))));refine zh U0<|zN (zR<|zF JH ?_)
  refine zL Ql<|zN (Qw (zR (zC<|zA (zN ?_))))
  refine zI ?_ ?_<;>intro hc72
  ·
   have hk2:p.kind=2:=(by simpa using hc72);refine Qm (zR (zM<|zF YK ?_));refine zL Ql<|zV (zaM (m:=mi) (ek:=Value.int .i64) (a:=p.sign) zhp Zd rfl rfl (fun _=>.inr kJ))<|zM ?_
   refine zE<|zE ?_
   refine zA<|zA<|zN (zR ?_)
   refine zM (zN ?_);refine zI ?_ ?_<;>intro hc81
   ·
    obtain ⟨id,hid⟩:=Option.isSome_iff_exists.1 hc81;have hbad:zcW ps=380:=zmR hlen h0 hls (ztt hL hmi hp hk2 hid);exact zR (zA (zN (Qs (Qf (Qi (Qi (Qf<|Qf (Qi (Qf<|zp hIc rfl rfl (by rw [hbad]))))))))))
   have hnone:ZQ mi p.sign=none:=(by simpa using hc81);refine Qr (Qd (Qh (zM<|zF YK ?_)));refine zL Ql<|zF Yk ?_
   exact zL Ql<|YM (m:=mi) (ek:=Value.int .i64) (ev:=Value.int .i64) (a:=p.sign) p.id zhp Zd rfl rfl rfl rfl (by repeat (first | exact Upd.here | apply Upd.there | apply ZD))<|Qb (Qk (Qk (Qd (Qh (zB<|zM (Qb<|zm (h:=⟨n-(k+1),kB,k+1,_,_,_,rfl,rfl,rfl,rfl,kB,hmi.put hp hk2 hnone,hmr.skip hp kB,hAll⟩)))))))
  have hk2n:p.kind≠2:=(by simpa using hc72);refine zR (zC<|zA (zN ?_));refine zI ?_ ?_<;>intro hc87
  ·
   have hk3:p.kind=3:=(by simpa using hc87);obtain ⟨A,Lt,B,rfl,hOt,hset⟩:=hAll.at p.sign;have hq:=zy7 hmr hOt;have hq2:=List.length_take_le k ps;have hD:=zB6 I3;refine Zn<|QJ I3 [(b_13,.cells (Xu p).toArray 39 (0,0))] mixed<|zT 0 rfl (Qe rfl) hD<|zT 1 rfl (Qa rfl YK) hD<|zT 2 rfl (Qc rfl Ql (fun hg=>by exact Qy.h0 rfl)) hD<|zT 3 rfl (Qe rfl) hD<|zT 4 rfl (Qa rfl YK) hD<|zT 5 rfl (Qc rfl Ql (fun hg=>by exact Qy.h0 rfl)) hD<|zT 7 rfl (Qa rfl Yk) hD<|zT 8 rfl (Qc rfl Ql (fun hg=>by exact Qy.h0 rfl)) hD ?_
   refine QU 6 9 rfl rfl kA ?_ ?_
   focus
    refine zV (zae (m:=mr) (ek:=Value.int .i64) (a:=p.sign) zbL Zd rfl rfl (fun _=>.inr kJ))<|Qb<|zD hD<|qd 9 rfl<|zpb [(0,_)] [Z5 p.id] Vh (fun b_98=>?_)
   rotate_left
   refine zpb [(0,_)] [Z5 p.id] Vh (fun b_98=>Qb<|zD hD<|qd 6 rfl<|zV (zae (m:=mr) (ek:=Value.int .i64) (a:=p.sign) zbL Zd rfl rfl (fun _=>.inr kJ)) ?_)
   all_goals
    refine Qb<|zD hD<|qd 10 rfl<|zpa (_) ([p.id].flatMap Z5) (Lt) rfl rfl Vh hOt ⟨rfl,fun _=>rfl,zB4⟩ (za5 [p.id]) ?_
    intro v9 L9 hO9 _;refine Qb<|zD hD<|qd 11 rfl<|YM (m:=mr) (ek:=Value.int .i64) (ev:=ztT) (a:=p.sign) (v9,((ZQ mr p.sign).getD zfH).2.1+1,((ZQ mr p.sign).getD zfH).2.2++[p.id].flatMap Z5) zbL Zd rfl rfl rfl rfl (by repeat (first | exact Upd.here | apply Upd.there | apply ZD))<|Qb<|zD hD<|Qn kA<|Qv<|Qk (Qk (Qd (Qh (zB<|zM (Qb ?_)))))
    exact zlw _ _ (L9++((r_63,_)::(r_62,_)::(A++B))) ⟨n-(k+1),kB,k+1,_,_,A++(L9++B),rfl,rfl,rfl,rfl,kB,hmi.skip hp hk2n,hmr.put hp hk3,hset (v9,_,_) L9 hO9⟩ (.cons rfl (.cons rfl (.cons rfl (.cons rfl (.cons rfl (.cons rfl (.cons rfl .nil))))))) zmU kD
  have hk3n:p.kind≠3:=(by simpa using hc87);exact Qr (Qk (Qk (Qd (Qh (zB<|zM (Qb<|zm (h:=⟨n-(k+1),kB,k+1,_,_,_,rfl,rfl,rfl,rfl,kB,hmi.skip hp hk2n,hmr.skip hp hk3n,hAll⟩)))))))
 have hge_k:n≤k:=(by have h:=hc67;simp at h;omega);rw [ZR hP.len hge_k] at hmi hmr;refine Zk (Qo (Qo (Qz (Qd (Qm (Qm<|zg1 (fun I5 hI5 hb5=>?_)))))));have hP:=hP.mono hI5;have hOn:=hOn.mono hI5;have hIc:=hIc.trans hI5;have hmiI:I5 r_62=some (YH (Value.int .i64) (Value.int .i64) mi):=hb5 _ _ kJ;have hmrI:I5 r_63=some (YH (Value.int .i64) ztT mr):=hb5 _ _ kJ;have hrem:=zzC hmr hAll (fun b o h=>hb5 b o (by simp [h]));obtain ⟨m,hm1,hm2⟩:=hOn;refine Qh (zM<|zQ KY ?_);refine zM (zN (Qw ?_));refine zU [(9,_),(10,_),(11,_),(101,_),(102,_)] (fun T L0 mz E I' loc'=>∃ (k:Nat),mz=n-k∧E=(103,.int .i64 k)::T∧I5=I'∧[]=loc'∧k≤n∧(ps.take k).all (tgP ps)=true) ?_ (h:=⟨0,rfl,rfl,rfl,rfl,Nat.zero_le _,rfl⟩);rintro mz E I' loc' ⟨k,rfl,rfl,rfl,rfl,hk,htg⟩;refine zR (zC (zN (Qm ?_)));refine zI ?_ ?_<;>intro hc104
 ·
  have hlt_k:k<n:=(by have h:=hc104;simp at h;omega);have hP1:=hP.1;obtain ⟨p,hp,hN⟩:=hP.at hlt_k;have hpm:=List.mem_of_getElem? hp;have hN:Sl I5 1 Z5 p.a p.n p.c p.needs:=hN;have hpn:=hnd p hpm;obtain ⟨ref,hget,sn,hsn,hsq⟩:=hm2.get ⟨p,hpm,rfl⟩;refine Qr (Qd (Qm (Qw (zR<|zV (QG rfl rfl KY kL (fun hg=>kB))<|zV (Qg rfl VW (fun hg=>by exact zB7 hP1 hp) rfl)<|Qp zb0 rfl rfl (fun b_17=>?_)))));refine zh U0<|zN (Qm (zR (zM<|zF YK ?_)))
  refine zL Ql<|zV (zaM (m:=mi) (ek:=Value.int .i64) (a:=p.sign) zhp Zd rfl rfl (fun _=>.inl hmiI))<|zM ?_
  refine zE<|zE ?_
  refine zA<|zA<|zN (zR ?_)
  refine zM ?_;refine zM<|Qt 1 rfl rfl rfl ?_
  refine zK (Qa rfl Yk) ?_;refine zK (Qc rfl Ql (fun hg=>by exact Qy.h0 rfl))<|zK (Qe rfl) ?_
  refine zK (QA rfl rfl rfl) ?_;refine QE rfl rfl rfl rfl rfl<|zM<|Qt 7 rfl rfl rfl ?_
  refine zK (Qe rfl)<|zK (Qa rfl Yk) ?_
  refine zK (Qc rfl Ql (fun hg=>by exact Qy.h0 rfl))<|zK (zag (m:=m) (ek:=Value.int .i64) (ev:=zqO) (a:=p.id) hget zeL Zd rfl rfl (fun _=>.inl hm1))<|zK (Qe rfl)<|zK (Y7 (m:=sn) Xn Zd rfl rfl (fun _=>.inl hsn))<|zK (ZB rfl)<|QE rfl rfl rfl rfl rfl<|zN ?_
  refine zI ?_ ?_<;>intro hc129
  ·
   have hA:=hc129;simp only [show ∀ x,(ZQ sn x).getD false=onF ps p.id x from fun x=>hsq.mem x] at hA;have hbad:zcW ps=380:=zmR hlen h0 hls (by rw [zkU hL hmi];exact zsy hp (by unfold tgP;rw [←zsD hmi,hA];rfl));exact zR (zA (zN (Qs (Qf (Qi (Qf (Qf<|Qi (Qf<|zp hIc rfl rfl (by rw [hbad])))))))))
  have hA:=hc129;simp only [show ∀ x,(ZQ sn x).getD false=onF ps p.id x from fun x=>hsq.mem x] at hA;refine Qr (Qd (Qm ?_));obtain ⟨av2,c2,hv2,hS2⟩:=hrem p.sign;have hk3l:=zfQ (c:=3) (ps:=ps) (s:=p.sign);have hpl:=hP.len;refine Qh (zM<|zF YK ?_);refine zL Ql<|zV (zg8 (m:=mr) (ek:=Value.int .i64) (a:=p.sign) hv2 zbL Zd rfl rfl (fun _=>.inl hmrI))<|zQ Zb ?_
  refine zM (zN (Qw ?_));refine zU [(9,_),(10,_),(11,_),(17,_),(101,_),(102,_),(103,_),(133,_),(134,_)] (fun T L0 mz E I' loc'=>∃ (j:Nat),mz=(Ko 3 ps p.sign).length-j∧E=(135,.int .i64 j)::T∧I5=I'∧[(b_17,.cells (Xu p).toArray 39 (0,0))]=loc'∧j≤(Ko 3 ps p.sign).length∧((Ko 3 ps p.sign).take j).any (onF ps p.id)=false) ?_ (h:=⟨0,rfl,rfl,rfl,rfl,Nat.zero_le _,rfl⟩);rintro mz E I' loc' ⟨j,rfl,rfl,rfl,rfl,hj,hno⟩;refine zR (zC (zN (Qm ?_)));refine zI ?_ ?_<;>intro hc136
  ·
   have hlt_j:j<(Ko 3 ps p.sign).length:=(by have h:=hc136;simp at h;omega);obtain ⟨y,hy⟩:=hS2.at hlt_j;refine Qr (Qd (Qm (Qw (zR<|zV (QG rfl rfl Zb kL (fun hg=>kB))<|zV (Qc rfl Ql (fun hg=>by exact zBZ hS2 hy rfl))<|zA<|zN (zR ?_)))));refine zM<|zF Yk ?_
   refine zL Ql<|zV (zag (m:=m) (ek:=Value.int .i64) (ev:=zqO) (a:=p.id) hget zeL Zd rfl rfl (fun _=>.inl hm1))<|zM<|zV (Y7 (m:=sn) Xn Zd rfl rfl (fun _=>.inl hsn))<|zN ?_
   refine zI ?_ ?_<;>intro hc144
   ·
    have hon:=hc144;simp only [show ∀ x,(ZQ sn x).getD false=onF ps p.id x from fun x=>hsq.mem x] at hon;have hbad:zcW ps=380:=zmR hlen h0 hls (by rw [zkU hL hmi];exact zsy hp (by unfold tgP;rw [zl8 hy hon,Bool.or_true];rfl));exact zR (zA (zN (Qs (Qi (Qf (Qf (Qi<|Qi (Qf (Qf (Qi (Qf<|zp hIc rfl rfl (by rw [hbad]))))))))))))
   have hon:=hc144;simp only [show ∀ x,(ZQ sn x).getD false=onF ps p.id x from fun x=>hsq.mem x] at hon;exact Qr (Qk (Qd (Qh (zB<|zM (Qb<|zm (h:=⟨(Ko 3 ps p.sign).length-(j+1),kB,j+1,rfl,rfl,rfl,rfl,kB,U1 hy hno hon⟩))))))
  have hge_j:(Ko 3 ps p.sign).length≤j:=(by have h:=hc136;simp at h;omega);rw [ZR rfl hge_j] at hno;have htp:tgP ps p=true:=(by unfold tgP;rw [←zsD hmi,hA,hno];rfl);exact Zk (Qo (Qo (Qz (Qk (Qd (Qh (zB<|zM (Qb<|zm (h:=⟨n-(k+1),kB,k+1,rfl,rfl,rfl,rfl,kB,zu1 hp htg htp⟩)))))))))
 have hge_k:n≤k:=(by have h:=hc104;simp at h;omega);have htog:zrT ps=true:=(by rw [zkU hL hmi];rw [ZR hP.len hge_k] at htg;exact htg);exact Zk (Qo (Qo (Qz (Qd (zR (zA (zN<|Qs<|zp hIc rfl rfl (by rw [zyQ hlen h0 hls htog]))))))))
theorem zju:ElT Tryz.prog 64 39 19 168:=.of kA
theorem zcb:Fun Tryz.prog 135:=.of Tryz.func135 kA kA
theorem zmT:Fun Tryz.prog 136:=.of Tryz.func136 kA kA
theorem zl3:Fun Tryz.prog 137:=.of Tryz.func137 kA kA
theorem zlL:Fun Tryz.prog 138:=.of Tryz.func138 kA kA
theorem zmz:Fun Tryz.prog 139:=.of Tryz.func139 kA kA
theorem zzt:Fun Tryz.prog 39:=.of Tryz.func39 kA kA
theorem zwP:Fun Tryz.prog 67:=.of Tryz.func67 kA kA
theorem zwH:Fun Tryz.prog 69:=.of Tryz.func69 kA kA
theorem zyE:Fun Tryz.prog 71:=.of Tryz.func71 kA kA
theorem zxg:Fun Tryz.prog 73:=.of Tryz.func73 kA kA
theorem U8:MpT Tryz.prog 151 3 43 (.agg #[(.int .i64 0),(.int .i64 0),(.int .i64 0),(.int .i64 0),(.int .i64 0),(.int .i64 0),(.string ⟨#[]⟩),(.string ⟨#[]⟩),(.int .i64 0),(.int .i64 0),(.int .i64 0)]):=⟨kA,.of kA⟩
theorem zeJ:MpT Tryz.prog 194 3 41 (.agg #[(.int .i64 0),(.int .i64 0),(.int .i64 0),(.int .i64 0),(.int .i64 0)]):=⟨kA,.of kA⟩
theorem zdF:MpT Tryz.prog 198 3 39 (.agg #[(.int .i64 0),(.int .i64 0),(.int .i64 0),(.int .i64 0),(.int .i64 0),(.int .i64 0),(.int .i64 0),(.int .i64 0),(.int .i64 0),(.int .i64 0),(.int .i64 0),(.int .i64 0),(.int .i64 0),(.int .i64 0),(.int .i64 0),(.int .i64 0),(.int .i64 0),(.int .i64 0),(.slice none 0 0)]):=⟨kA,.of kA⟩
variable{xs:List Nt}
theorem zp7 (hP:WB I av n c xs)(hn0:n≤4096):YE Tryz.prog 66 [.slice av n c,.int .i64 1,.func (.func 67) #[] #[],.func (.func 37) #[] #[]] I [] (fun v I' L'=>L'=[]∧∃ a n c,v= .slice a n c∧Sl I' 9 Zz a n c (ze7 (fun x=>x.lm.no) (fun x=>x.lm) 1 zg7 VU xs)):=by
 intro g H w hw;refine qe Tryz.func66 Tryz.ntmps66 hw ?_;have hIc:=zB6 I;have hln:=hP.sl.len;refine zR (zA<|zN (zR<|Yl rfl rfl (fun r_20=>?_)));refine (show XO _ _ _ _ _ _ _ ((r_20,YH (.int .i64) JA ([]:List (Int×Lm)))::_) from ?_);refine zA<|zN (zR<|zA (zN (Qm (zR ?_))))
 refine zM ?_;refine zQ Zj ?_;refine zM (zN (Qw ?_));refine zU [(1,_),(2,_),(3,_),(8,_),(9,_),(21,_),(22,_)] (fun T L0 mz E I' loc'=>∃ (k:Nat) (v:Value) (q:Nat) (Lw:Go.Kn.Loc),mz=n-k∧E=(10,v)::(23,.int .i64 k)::T∧I=I'∧Lw++[(r_20,YH (.int .i64) JA (YC (fun x=>x.lm.no) (fun x=>x.lm) 1 (xs.take k)))]=loc'∧k≤n∧ZU 3 1 v q (((YC (fun x=>x.lm.no) (fun x=>x.lm) 1 (xs.take k)).map (·.1)).flatMap Z5) Lw∧q=(YC (fun x=>x.lm.no) (fun x=>x.lm) 1 (xs.take k)).length) ?_ (h:=⟨0,_,0,[],rfl,rfl,rfl,rfl,Nat.zero_le _,ZU.nil,rfl⟩);rintro mz E I' loc' ⟨k,v,q,Lw,rfl,rfl,rfl,rfl,hk,hO,hq⟩;refine zR (zC (zN (Qm ?_)));refine zI ?_ ?_<;>intro hc24
 ·
  have hlt_k:k<n:=(by have h:=hc24;simp at h;omega);obtain ⟨x,hx⟩:∃ y,xs[k]? =some y:=⟨_,List.getElem?_eq_getElem kB⟩;have hml:(YC (fun x=>x.lm.no) (fun x=>x.lm) 1 (xs.take k)).length≤k:=Nat.le_trans V8 (List.length_take_le ..);refine Qr (Qd (Qm (Qw (zR<|zV (QG rfl rfl Zj hP.sl (fun hg=>kB))<|zV (Qg rfl Zc (fun hg=>by exact zB7 hP.sl hx) rfl)<|Qp U2 rfl rfl (fun b_12=>?_)))));refine zh Vk<|zN (zR ?_)
  refine zM ?_;refine zV (Qg rfl Zc (fun hg=>by exact Cells.g0) rfl)<|qcV (vs:=[_]) rfl zwP (zvw _ x)<|zM ?_
  refine zE<|zE<|Qp zfS rfl rfl (fun b_13=>?_)
  refine zh XP ?_;refine zA (zN (Qm ?_));rcases hget:ZQ (YC (fun x=>x.lm.no) (fun x=>x.lm) 1 (xs.take k)) (x.lm.no) with _ | y0
  focus
   refine Qh (zM ?_);refine zM<|zV (Z7 (ek:=Value.int .i64) (ev:=JA) zaC Zd rfl rfl (fun _=>kK)) ?_
   rw [hget];refine zM ?_;refine zE<|zE<|Qp zfS rfl rfl (fun b_15=>?_)
   refine zh XP ?_;refine zA<|zN (zR<|zF Vu ?_)
   refine zL Ql<|zM<|zC ?_
   refine zM<|Qt 4 rfl rfl rfl ?_
   refine zK (Qe rfl)<|zK (ZB rfl)<|QE rfl rfl rfl rfl rfl<|zN ?_
   refine zI ?_ ?_<;>intro hc46
   ·
    have hkd:(x.kind==1)=true:=(by simpa using hc46);refine zR (zM ?_);refine zM ?_;refine zV (Qg rfl Km (fun hg=>by exact Cells.g1) rfl)<|zx9 (ek:=Value.int .i64) (ev:=JA) (x.lm) zaC Zd<|zN (Qh (zM<|zM ?_))
    refine zpb [(0,_)] [Z5 (x.lm.no)] Vh (fun b_52=>?_);refine zpa (_) ([x.lm.no].flatMap Z5) (Lw) rfl rfl Vh hO ⟨rfl,fun _=>rfl,by repeat (first | exact zB4 | apply zB3 | apply zB5)⟩ (za5 [x.lm.no]) ?_;intro v9 L9 hO9 _;rw [←List.flatMap_append] at hO9;refine zA (Qb (Qk (Qd (Qh<|zB<|zM (Qb ?_)))));exact Zr _ (L9++[(r_20,YH (.int .i64) JA (JB (YC (fun x=>x.lm.no) (fun x=>x.lm) 1 (xs.take k)) (x.lm.no) (x.lm)))]) ⟨n-(k+1),kB,k+1,_,_,_,rfl,rfl,rfl,by rw [Zq hx,zbq hget hkd],kB,by rw [Zq hx,J8 hget hkd];exact hO9,by rw [Zq hx,←List.length_map (f:=fun p=>p.1),J8 hget hkd,List.length_append,List.length_map];simp;omega⟩ (.cons rfl (.cons rfl (.cons rfl (.cons rfl (.cons rfl (.cons rfl (.cons rfl (.cons rfl (.cons rfl .nil))))))))) kD
   have hkd:(x.kind==1)=false:=(by simpa using hc46);have hsame:zbE (fun x=>x.lm.no) (fun x=>x.lm) 1 (YC (fun x=>x.lm.no) (fun x=>x.lm) 1 (xs.take k)) x=(YC (fun x=>x.lm.no) (fun x=>x.lm) 1 (xs.take k)):=zd4 hkd
  rotate_left
  refine Qh (zM ?_);refine zM<|zV (Z7 (ek:=Value.int .i64) (ev:=JA) zaC Zd rfl rfl (fun _=>kK)) ?_
  rw [hget];refine zM ?_;refine zE<|zE<|Qp zfS rfl rfl (fun b_15=>?_)
  refine zh XP ?_;refine zA<|zN (zR<|zF Vu ?_)
  refine zL Ql<|zM<|zC ?_
  refine zM<|Qt 4 rfl rfl rfl ?_
  refine zK (Qe rfl)<|zK (ZB rfl)<|QE rfl rfl rfl rfl rfl<|zN ?_
  refine zI ?_ ?_<;>intro hc46
  ·
   simp at hc46
  have hsame:zbE (fun x=>x.lm.no) (fun x=>x.lm) 1 (YC (fun x=>x.lm.no) (fun x=>x.lm) 1 (xs.take k)) x=(YC (fun x=>x.lm.no) (fun x=>x.lm) 1 (xs.take k)):=zbj hget
  all_goals
   refine Qr (Qk (Qd (Qh (zB<|zM (Qb ?_)))));exact Zr _ (Lw++[(r_20,YH (.int .i64) JA (YC (fun x=>x.lm.no) (fun x=>x.lm) 1 (xs.take k)))]) ⟨n-(k+1),kB,k+1,_,_,_,rfl,rfl,rfl,by rw [Zq hx,hsame],kB,by rw [Zq hx,hsame];exact hO,by rw [Zq hx,hsame];exact hq⟩ (.cons rfl (.cons rfl (.cons rfl (.cons rfl (.cons rfl (.cons rfl (.cons rfl (.cons rfl (.cons rfl .nil))))))))) kD
 have hge_k:n≤k:=(by have h:=hc24;simp at h;omega);have hml:=V8 (num:=(fun x=>x.lm.no)) (prt:=(fun x=>x.lm)) (kind:=1) (xs:=xs);have hke:xs.take k=xs:=ZR hln hge_k;rw [hke] at hO hq ⊢;refine Zk (Qo (Qo (Qz (Qd (zR (zM<|zpc [_] rfl zcb Zi (zjf 3 ((YC (fun x=>x.lm.no) (fun x=>x.lm) 1 xs).map (·.1)) (by rw [←KS];exact hO) kB _) ?_))))));rintro vv2 I2 L2 hI2 ⟨rfl,rfl,hO2⟩;have hIc:=hIc.trans hI2;rw [←KS] at hO2;refine zN (Qm (Qm<|zx4 hO2 YL (fun I3 hI3 af3 cf3 ef3 hNs=>?_)));subst ef3;have hIc:=hIc.trans hI3;obtain ⟨ns,hnsd⟩:∃ y,y=zcV ((YC (fun x=>x.lm.no) (fun x=>x.lm) 1 xs).map (·.1)):=⟨_,rfl⟩;rw [←hnsd] at hNs;have hnl:=hNs.len;have hml:=V8 (num:=(fun x=>x.lm.no)) (prt:=(fun x=>x.lm)) (kind:=1) (xs:=xs);refine Qh (zM<|zQ Zb ?_);refine zM (zN (Qw ?_));refine zU [(3,_),(9,_),(57,_),(58,_)] (fun T L0 mz E I' loc'=>∃ (j:Nat) (a9:Option Addr) (n9:Nat) (c9:Nat),mz=q-j∧E=(8,.slice a9 n9 c9)::(59,.int .i64 j)::T∧HLe I3 I'∧[(r_20,YH (.int .i64) JA (YC (fun x=>x.lm.no) (fun x=>x.lm) 1 xs))]=loc'∧j≤q∧Sl I' 9 Zz a9 n9 c9 (zjp zg7 VU (YC (fun x=>x.lm.no) (fun x=>x.lm) 1 xs) (ns.take j))∧n9≤j) ?_ (h:=⟨0,none,0,0,rfl,rfl,zB6 _,rfl,Nat.zero_le _,Sl.nil,Nat.le_refl _⟩);rintro mz E J4 loc' ⟨j,a9,n9,c9,rfl,rfl,hJ,rfl,hj,hY,hn9⟩;have hNs:=hNs.mono hJ;have hIc:=hIc.trans hJ;have hB2:=hJ;refine zR (zC (zN (Qm ?_)));refine zI ?_ ?_<;>intro hc60
 ·
  have hlt_j:j<q:=(by have h:=hc60;simp at h;omega);obtain ⟨m9,hn⟩:∃ y,ns[j]? =some y:=⟨_,List.getElem?_eq_getElem kB⟩;refine Qr (Qd (Qm (Qw (zR<|zV (zX Zb hNs)<|zV (Qc rfl Ql (fun hg=>by exact zBZ hNs hn rfl))<|zA (zN ?_)))));refine zY [(3,_),(8,_),(9,_),(57,_),(58,_),(59,_)] (fun T L0 E I' loc'=>∃ (a2:Option Addr) (c2:Nat),E=(19,.slice a2 (n9+1) c2)::T∧HLe J4 I'∧[(r_20,YH (.int .i64) JA (YC (fun x=>x.lm.no) (fun x=>x.lm) 1 xs))]=loc'∧Sl I' 9 Zz a2 (n9+1) c2 ((zjp zg7 VU (YC (fun x=>x.lm.no) (fun x=>x.lm) 1 xs) (ns.take j))++[(ZQ (YC (fun x=>x.lm.no) (fun x=>x.lm) 1 xs) m9).getD VU])) ?_ ?_
  ·
   have hKc16:=zB6 J4;have hD:=zB6 J4;refine Zn<|QJ J4 [(r_20,YH (.int .i64) JA (YC (fun x=>x.lm.no) (fun x=>x.lm) 1 xs))] mixed<|zT 0 rfl (Qe rfl) hD<|zT 2 rfl (Qe rfl) hD<|zT 3 rfl (Qe rfl) hD<|zT 4 rfl (WO (ek:=Value.int .i64) (ev:=JA) VU zaC Zd rfl rfl (fun _=>kR)) hD ?_
   obtain ⟨y,hydef⟩:∃ y,y=(ZQ (YC (fun x=>x.lm.no) (fun x=>x.lm) 1 xs) m9).getD VU:=⟨_,rfl⟩;rw [←hydef];refine QU 1 5 rfl rfl kA ?_ ?_
   focus
    refine qcV (vs:=[_]) rfl zmT (zk1 _ _ _ _ hY.cap)<|Qb<|zD hD<|qd 5 rfl<|zpb [(0,_)] [Zz y] Wx (fun b_68=>?_)
   rotate_left
   refine zpb [(0,_)] [Zz y] Wx (fun b_68=>Qb<|zD hD<|qd 1 rfl<|qcV (vs:=[_]) rfl zmT (zk1 _ _ _ _ hY.cap) ?_)
   all_goals
    refine Qb<|zD hD<|qd 6 rfl<|QW (ys:=[y].flatMap Zz) Js rfl rfl Wx hY.cut ⟨rfl,fun _=>rfl,by repeat (first | exact zB4 | apply zB3)⟩ kC kB rfl rfl ?_
    intro v1 L1 hO1;rw [←List.flatMap_append] at hO1;refine zx7 hO1 Js (fun I6 hI6 af6 cf6 ef6 hZ=>?_);subst ef6;have hKc16:=hKc16.trans hI6;have hD:=hD.trans hI6;exact Qb<|zD hD<|zT 7 rfl (QB rfl) hD<|Qn kA<|Qv<|zm (h:=⟨_,_,rfl,hKc16,rfl,by exact hZ⟩)
  rintro E J7 loc' ⟨a2,c2,rfl,hJ16,rfl,hZ⟩;have hY:=hY.mono hJ16;have hB2:=hB2.trans hJ16;refine zR (zM ?_);refine zM ?_;refine qcV (vs:=[_]) rfl zot (zlX hZ kB)<|zC (zN ?_)
  refine zI ?_ ?_<;>intro hc73
  ·
   refine Qh (zM<|zA (Qb (Qk (Qd (Qh<|zB<|zM (Qb ?_))))))
   first
   | exact zm (h:=⟨q-(j+1),kB,j+1,_,_,_,rfl,rfl,hB2,rfl,kB,by rw [JV hn,zkp,if_pos hc73];exact hZ,kB⟩)
  refine Qr (Qk (Qd (Qh (zB<|zM (Qb ?_)))))
  first
  | exact zm (h:=⟨q-(j+1),kB,j+1,_,_,_,rfl,rfl,hB2,rfl,kB,by rw [JV hn,zkp,if_neg (by rw [hc73];simp)];exact hY,kB⟩)
 have hge_j:q≤j:=(by have h:=hc60;simp at h;omega);have hke2:ns.take j=ns:=ZR hnl hge_j;rw [hke2] at hY;refine Zk (Qo (Qo (Qz (Qd (zR (zM<|zA (zN (Qs ?_))))))));exact Qx rfl rfl (fun w hw=>⟨_,J4,[],rfl,hIc,by exact hw.drop,rfl,_,_,_,rfl,by rw [ze7,←hnsd];exact hY⟩)
theorem zqn (hP:WB I av n c xs)(hn0:n≤4096):YE Tryz.prog 68 [.slice av n c,.int .i64 3,.func (.func 69) #[] #[],.func (.func 38) #[] #[]] I [] (fun v I' L'=>L'=[]∧∃ a n c,v= .slice a n c∧Sl I' 5 L.encL a n c (ze7 (fun x=>x.ls.no) (fun x=>x.ls) 3 L.chk L.zeroL xs)):=by
 intro g H w hw;refine qe Tryz.func68 Tryz.ntmps68 hw ?_;have hIc:=zB6 I;have hln:=hP.sl.len;refine zR (zA<|zN (zR<|Yl rfl rfl (fun r_20=>?_)));refine (show XO _ _ _ _ _ _ _ ((r_20,YH (.int .i64) L.encA ([]:List (Int×L.Ls)))::_) from ?_);refine zA<|zN (zR<|zA (zN (Qm (zR ?_))))
 refine zM ?_;refine zQ Zj ?_;refine zM (zN (Qw ?_));refine zU [(1,_),(2,_),(3,_),(8,_),(9,_),(21,_),(22,_)] (fun T L0 mz E I' loc'=>∃ (k:Nat) (v:Value) (q:Nat) (Lw:Go.Kn.Loc),mz=n-k∧E=(10,v)::(23,.int .i64 k)::T∧I=I'∧Lw++[(r_20,YH (.int .i64) L.encA (YC (fun x=>x.ls.no) (fun x=>x.ls) 3 (xs.take k)))]=loc'∧k≤n∧ZU 3 1 v q (((YC (fun x=>x.ls.no) (fun x=>x.ls) 3 (xs.take k)).map (·.1)).flatMap Z5) Lw∧q=(YC (fun x=>x.ls.no) (fun x=>x.ls) 3 (xs.take k)).length) ?_ (h:=⟨0,_,0,[],rfl,rfl,rfl,rfl,Nat.zero_le _,ZU.nil,rfl⟩);rintro mz E I' loc' ⟨k,v,q,Lw,rfl,rfl,rfl,rfl,hk,hO,hq⟩;refine zR (zC (zN (Qm ?_)));refine zI ?_ ?_<;>intro hc24
 ·
  have hlt_k:k<n:=(by have h:=hc24;simp at h;omega);obtain ⟨x,hx⟩:∃ y,xs[k]? =some y:=⟨_,List.getElem?_eq_getElem kB⟩;have hml:(YC (fun x=>x.ls.no) (fun x=>x.ls) 3 (xs.take k)).length≤k:=Nat.le_trans V8 (List.length_take_le ..);refine Qr (Qd (Qm (Qw (zR<|zV (QG rfl rfl Zj hP.sl (fun hg=>kB))<|zV (Qg rfl Zc (fun hg=>by exact zB7 hP.sl hx) rfl)<|Qp U2 rfl rfl (fun b_12=>?_)))));refine zh Vk<|zN (zR ?_)
  refine zM ?_;refine zV (Qg rfl Zc (fun hg=>by exact Cells.g0) rfl)<|qcV (vs:=[_]) rfl zwH (ztD _ x)<|zM ?_
  refine zE<|zE<|Qp zhe rfl rfl (fun b_13=>?_)
  refine zh zaX ?_;refine zA (zN (Qm ?_));rcases hget:ZQ (YC (fun x=>x.ls.no) (fun x=>x.ls) 3 (xs.take k)) (x.ls.no) with _ | y0
  focus
   refine Qh (zM ?_);refine zM<|zV (Z7 (ek:=Value.int .i64) (ev:=L.encA) zeJ Zd rfl rfl (fun _=>kK)) ?_
   rw [hget];refine zM ?_;refine zE<|zE<|Qp zhe rfl rfl (fun b_15=>?_)
   refine zh zaX ?_;refine zA<|zN (zR<|zF Vu ?_)
   refine zL Ql<|zM<|zC ?_
   refine zM<|Qt 4 rfl rfl rfl ?_
   refine zK (Qe rfl)<|zK (ZB rfl)<|QE rfl rfl rfl rfl rfl<|zN ?_
   refine zI ?_ ?_<;>intro hc46
   ·
    have hkd:(x.kind==3)=true:=(by simpa using hc46);refine zR (zM ?_);refine zM ?_;refine zV (Qg rfl Kj (fun hg=>by exact Cells.g1) rfl)<|zx9 (ek:=Value.int .i64) (ev:=L.encA) (x.ls) zeJ Zd<|zN (Qh (zM<|zM ?_))
    refine zpb [(0,_)] [Z5 (x.ls.no)] Vh (fun b_52=>?_);refine zpa (_) ([x.ls.no].flatMap Z5) (Lw) rfl rfl Vh hO ⟨rfl,fun _=>rfl,by repeat (first | exact zB4 | apply zB3 | apply zB5)⟩ (za5 [x.ls.no]) ?_;intro v9 L9 hO9 _;rw [←List.flatMap_append] at hO9;refine zA (Qb (Qk (Qd (Qh<|zB<|zM (Qb ?_)))));exact Zr _ (L9++[(r_20,YH (.int .i64) L.encA (JB (YC (fun x=>x.ls.no) (fun x=>x.ls) 3 (xs.take k)) (x.ls.no) (x.ls)))]) ⟨n-(k+1),kB,k+1,_,_,_,rfl,rfl,rfl,by rw [Zq hx,zbq hget hkd],kB,by rw [Zq hx,J8 hget hkd];exact hO9,by rw [Zq hx,←List.length_map (f:=fun p=>p.1),J8 hget hkd,List.length_append,List.length_map];simp;omega⟩ (.cons rfl (.cons rfl (.cons rfl (.cons rfl (.cons rfl (.cons rfl (.cons rfl (.cons rfl (.cons rfl .nil))))))))) kD
   have hkd:(x.kind==3)=false:=(by simpa using hc46);have hsame:zbE (fun x=>x.ls.no) (fun x=>x.ls) 3 (YC (fun x=>x.ls.no) (fun x=>x.ls) 3 (xs.take k)) x=(YC (fun x=>x.ls.no) (fun x=>x.ls) 3 (xs.take k)):=zd4 hkd
  rotate_left
  refine Qh (zM ?_);refine zM<|zV (Z7 (ek:=Value.int .i64) (ev:=L.encA) zeJ Zd rfl rfl (fun _=>kK)) ?_
  rw [hget];refine zM ?_;refine zE<|zE<|Qp zhe rfl rfl (fun b_15=>?_)
  refine zh zaX ?_;refine zA<|zN (zR<|zF Vu ?_)
  refine zL Ql<|zM<|zC ?_
  refine zM<|Qt 4 rfl rfl rfl ?_
  refine zK (Qe rfl)<|zK (ZB rfl)<|QE rfl rfl rfl rfl rfl<|zN ?_
  refine zI ?_ ?_<;>intro hc46
  ·
   simp at hc46
  have hsame:zbE (fun x=>x.ls.no) (fun x=>x.ls) 3 (YC (fun x=>x.ls.no) (fun x=>x.ls) 3 (xs.take k)) x=(YC (fun x=>x.ls.no) (fun x=>x.ls) 3 (xs.take k)):=zbj hget
  all_goals
   refine Qr (Qk (Qd (Qh (zB<|zM (Qb ?_)))));exact Zr _ (Lw++[(r_20,YH (.int .i64) L.encA (YC (fun x=>x.ls.no) (fun x=>x.ls) 3 (xs.take k)))]) ⟨n-(k+1),kB,k+1,_,_,_,rfl,rfl,rfl,by rw [Zq hx,hsame],kB,by rw [Zq hx,hsame];exact hO,by rw [Zq hx,hsame];exact hq⟩ (.cons rfl (.cons rfl (.cons rfl (.cons rfl (.cons rfl (.cons rfl (.cons rfl (.cons rfl (.cons rfl .nil))))))))) kD
 have hge_k:n≤k:=(by have h:=hc24;simp at h;omega);have hml:=V8 (num:=(fun x=>x.ls.no)) (prt:=(fun x=>x.ls)) (kind:=3) (xs:=xs);have hke:xs.take k=xs:=ZR hln hge_k;rw [hke] at hO hq ⊢;refine Zk (Qo (Qo (Qz (Qd (zR (zM<|zpc [_] rfl zcb Zi (zjf 3 ((YC (fun x=>x.ls.no) (fun x=>x.ls) 3 xs).map (·.1)) (by rw [←KS];exact hO) kB _) ?_))))));rintro vv2 I2 L2 hI2 ⟨rfl,rfl,hO2⟩;have hIc:=hIc.trans hI2;rw [←KS] at hO2;refine zN (Qm (Qm<|zx4 hO2 YL (fun I3 hI3 af3 cf3 ef3 hNs=>?_)));subst ef3;have hIc:=hIc.trans hI3;obtain ⟨ns,hnsd⟩:∃ y,y=zcV ((YC (fun x=>x.ls.no) (fun x=>x.ls) 3 xs).map (·.1)):=⟨_,rfl⟩;rw [←hnsd] at hNs;have hnl:=hNs.len;have hml:=V8 (num:=(fun x=>x.ls.no)) (prt:=(fun x=>x.ls)) (kind:=3) (xs:=xs);refine Qh (zM<|zQ Zb ?_);refine zM (zN (Qw ?_));refine zU [(3,_),(9,_),(57,_),(58,_)] (fun T L0 mz E I' loc'=>∃ (j:Nat) (a9:Option Addr) (n9:Nat) (c9:Nat),mz=q-j∧E=(8,.slice a9 n9 c9)::(59,.int .i64 j)::T∧HLe I3 I'∧[(r_20,YH (.int .i64) L.encA (YC (fun x=>x.ls.no) (fun x=>x.ls) 3 xs))]=loc'∧j≤q∧Sl I' 5 L.encL a9 n9 c9 (zjp L.chk L.zeroL (YC (fun x=>x.ls.no) (fun x=>x.ls) 3 xs) (ns.take j))∧n9≤j) ?_ (h:=⟨0,none,0,0,rfl,rfl,zB6 _,rfl,Nat.zero_le _,Sl.nil,Nat.le_refl _⟩);rintro mz E J4 loc' ⟨j,a9,n9,c9,rfl,rfl,hJ,rfl,hj,hY,hn9⟩;have hNs:=hNs.mono hJ;have hIc:=hIc.trans hJ;have hB2:=hJ;refine zR (zC (zN (Qm ?_)));refine zI ?_ ?_<;>intro hc60
 ·
  have hlt_j:j<q:=(by have h:=hc60;simp at h;omega);obtain ⟨m9,hn⟩:∃ y,ns[j]? =some y:=⟨_,List.getElem?_eq_getElem kB⟩;refine Qr (Qd (Qm (Qw (zR<|zV (zX Zb hNs)<|zV (Qc rfl Ql (fun hg=>by exact zBZ hNs hn rfl))<|zA (zN ?_)))));refine zY [(3,_),(8,_),(9,_),(57,_),(58,_),(59,_)] (fun T L0 E I' loc'=>∃ (a2:Option Addr) (c2:Nat),E=(19,.slice a2 (n9+1) c2)::T∧HLe J4 I'∧[(r_20,YH (.int .i64) L.encA (YC (fun x=>x.ls.no) (fun x=>x.ls) 3 xs))]=loc'∧Sl I' 5 L.encL a2 (n9+1) c2 ((zjp L.chk L.zeroL (YC (fun x=>x.ls.no) (fun x=>x.ls) 3 xs) (ns.take j))++[(ZQ (YC (fun x=>x.ls.no) (fun x=>x.ls) 3 xs) m9).getD L.zeroL])) ?_ ?_
  ·
   have hKc16:=zB6 J4;have hD:=zB6 J4;refine Zn<|QJ J4 [(r_20,YH (.int .i64) L.encA (YC (fun x=>x.ls.no) (fun x=>x.ls) 3 xs))] mixed<|zT 0 rfl (Qe rfl) hD<|zT 2 rfl (Qe rfl) hD<|zT 3 rfl (Qe rfl) hD<|zT 4 rfl (WO (ek:=Value.int .i64) (ev:=L.encA) L.zeroL zeJ Zd rfl rfl (fun _=>kR)) hD ?_
   obtain ⟨y,hydef⟩:∃ y,y=(ZQ (YC (fun x=>x.ls.no) (fun x=>x.ls) 3 xs) m9).getD L.zeroL:=⟨_,rfl⟩;rw [←hydef];refine QU 1 5 rfl rfl kA ?_ ?_
   focus
    refine qcV (vs:=[_]) rfl zl3 (zn8 _ _ _ _ hY.cap)<|Qb<|zD hD<|qd 5 rfl<|zpb [(0,_)] [L.encL y] zb6 (fun b_68=>?_)
   rotate_left
   refine zpb [(0,_)] [L.encL y] zb6 (fun b_68=>Qb<|zD hD<|qd 1 rfl<|qcV (vs:=[_]) rfl zl3 (zn8 _ _ _ _ hY.cap) ?_)
   all_goals
    refine Qb<|zD hD<|qd 6 rfl<|QW (ys:=[y].flatMap L.encL) L.encL_len rfl rfl zb6 hY.cut ⟨rfl,fun _=>rfl,by repeat (first | exact zB4 | apply zB3)⟩ kC kB rfl rfl ?_
    intro v1 L1 hO1;rw [←List.flatMap_append] at hO1;refine zx7 hO1 L.encL_len (fun I6 hI6 af6 cf6 ef6 hZ=>?_);subst ef6;have hKc16:=hKc16.trans hI6;have hD:=hD.trans hI6;exact Qb<|zD hD<|zT 7 rfl (QB rfl) hD<|Qn kA<|Qv<|zm (h:=⟨_,_,rfl,hKc16,rfl,by exact hZ⟩)
  rintro E J7 loc' ⟨a2,c2,rfl,hJ16,rfl,hZ⟩;have hY:=hY.mono hJ16;have hB2:=hB2.trans hJ16;refine zR (zM ?_);refine zM ?_;refine qcV (vs:=[_]) rfl zrJ (L.w_check hZ kB)<|zC (zN ?_)
  refine zI ?_ ?_<;>intro hc73
  ·
   refine Qh (zM<|zA (Qb (Qk (Qd (Qh<|zB<|zM (Qb ?_))))))
   first
   | exact zm (h:=⟨q-(j+1),kB,j+1,_,_,_,rfl,rfl,hB2,rfl,kB,by rw [JV hn,zkp,if_pos hc73];exact hZ,kB⟩)
  refine Qr (Qk (Qd (Qh (zB<|zM (Qb ?_)))))
  first
  | exact zm (h:=⟨q-(j+1),kB,j+1,_,_,_,rfl,rfl,hB2,rfl,kB,by rw [JV hn,zkp,if_neg (by rw [hc73];simp)];exact hY,kB⟩)
 have hge_j:q≤j:=(by have h:=hc60;simp at h;omega);have hke2:ns.take j=ns:=ZR hnl hge_j;rw [hke2] at hY;refine Zk (Qo (Qo (Qz (Qd (zR (zM<|zA (zN (Qs ?_))))))));exact Qx rfl rfl (fun w hw=>⟨_,J4,[],rfl,hIc,by exact hw.drop,rfl,_,_,_,rfl,by rw [ze7,←hnsd];exact hY⟩)
theorem zq2 (hP:WB I av n c xs)(hn0:n≤4096):YE Tryz.prog 70 [.slice av n c,.int .i64 2,.func (.func 71) #[] #[],.func (.func 39) #[] #[]] I [] (fun v I' L'=>L'=[]∧∃ a n c,v= .slice a n c∧Sl I' 19 Xu a n c (ze7 (fun x=>x.pt.id) (fun x=>x.pt) 2 zcW JD xs)):=by
 intro g H w hw;refine qe Tryz.func70 Tryz.ntmps70 hw ?_;have hIc:=zB6 I;have hln:=hP.sl.len;refine zR (zA<|zN (zR<|Yl rfl rfl (fun r_20=>?_)));refine (show XO _ _ _ _ _ _ _ ((r_20,YH (.int .i64) Uf ([]:List (Int×Pt)))::_) from ?_);refine zA<|zN (zR<|zA (zN (Qm (zR ?_))))
 refine zM ?_;refine zQ Zj ?_;refine zM (zN (Qw ?_));refine zU [(1,_),(2,_),(3,_),(8,_),(9,_),(21,_),(22,_)] (fun T L0 mz E I' loc'=>∃ (k:Nat) (v:Value) (q:Nat) (Lw:Go.Kn.Loc),mz=n-k∧E=(10,v)::(23,.int .i64 k)::T∧I=I'∧Lw++[(r_20,YH (.int .i64) Uf (YC (fun x=>x.pt.id) (fun x=>x.pt) 2 (xs.take k)))]=loc'∧k≤n∧ZU 3 1 v q (((YC (fun x=>x.pt.id) (fun x=>x.pt) 2 (xs.take k)).map (·.1)).flatMap Z5) Lw∧q=(YC (fun x=>x.pt.id) (fun x=>x.pt) 2 (xs.take k)).length) ?_ (h:=⟨0,_,0,[],rfl,rfl,rfl,rfl,Nat.zero_le _,ZU.nil,rfl⟩);rintro mz E I' loc' ⟨k,v,q,Lw,rfl,rfl,rfl,rfl,hk,hO,hq⟩;refine zR (zC (zN (Qm ?_)));refine zI ?_ ?_<;>intro hc24
 ·
  have hlt_k:k<n:=(by have h:=hc24;simp at h;omega);obtain ⟨x,hx⟩:∃ y,xs[k]? =some y:=⟨_,List.getElem?_eq_getElem kB⟩;have hml:(YC (fun x=>x.pt.id) (fun x=>x.pt) 2 (xs.take k)).length≤k:=Nat.le_trans V8 (List.length_take_le ..);refine Qr (Qd (Qm (Qw (zR<|zV (QG rfl rfl Zj hP.sl (fun hg=>kB))<|zV (Qg rfl Zc (fun hg=>by exact zB7 hP.sl hx) rfl)<|Qp U2 rfl rfl (fun b_12=>?_)))));refine zh Vk<|zN (zR ?_)
  refine zM ?_;refine zV (Qg rfl Zc (fun hg=>by exact Cells.g0) rfl)<|qcV (vs:=[_]) rfl zyE (zt6 _ x)<|zM ?_
  refine zE<|zE<|Qp zb0 rfl rfl (fun b_13=>?_)
  refine zh U0 ?_;refine zA (zN (Qm ?_));rcases hget:ZQ (YC (fun x=>x.pt.id) (fun x=>x.pt) 2 (xs.take k)) (x.pt.id) with _ | y0
  focus
   refine Qh (zM ?_);refine zM<|zV (Z7 (ek:=Value.int .i64) (ev:=Uf) zdF Zd rfl rfl (fun _=>kK)) ?_
   rw [hget];refine zM ?_;refine zE<|zE<|Qp zb0 rfl rfl (fun b_15=>?_)
   refine zh U0 ?_;refine zA<|zN (zR<|zF Vu ?_)
   refine zL Ql<|zM<|zC ?_
   refine zM<|Qt 4 rfl rfl rfl ?_
   refine zK (Qe rfl)<|zK (ZB rfl)<|QE rfl rfl rfl rfl rfl<|zN ?_
   refine zI ?_ ?_<;>intro hc46
   ·
    have hkd:(x.kind==2)=true:=(by simpa using hc46);refine zR (zM ?_);refine zM ?_;refine zV (Qg rfl VW (fun hg=>by exact Cells.g1) rfl)<|zx9 (ek:=Value.int .i64) (ev:=Uf) (x.pt) zdF Zd<|zN (Qh (zM<|zM ?_))
    refine zpb [(0,_)] [Z5 (x.pt.id)] Vh (fun b_52=>?_);refine zpa (_) ([x.pt.id].flatMap Z5) (Lw) rfl rfl Vh hO ⟨rfl,fun _=>rfl,by repeat (first | exact zB4 | apply zB3 | apply zB5)⟩ (za5 [x.pt.id]) ?_;intro v9 L9 hO9 _;rw [←List.flatMap_append] at hO9;refine zA (Qb (Qk (Qd (Qh<|zB<|zM (Qb ?_)))));exact Zr _ (L9++[(r_20,YH (.int .i64) Uf (JB (YC (fun x=>x.pt.id) (fun x=>x.pt) 2 (xs.take k)) (x.pt.id) (x.pt)))]) ⟨n-(k+1),kB,k+1,_,_,_,rfl,rfl,rfl,by rw [Zq hx,zbq hget hkd],kB,by rw [Zq hx,J8 hget hkd];exact hO9,by rw [Zq hx,←List.length_map (f:=fun p=>p.1),J8 hget hkd,List.length_append,List.length_map];simp;omega⟩ (.cons rfl (.cons rfl (.cons rfl (.cons rfl (.cons rfl (.cons rfl (.cons rfl (.cons rfl (.cons rfl .nil))))))))) kD
   have hkd:(x.kind==2)=false:=(by simpa using hc46);have hsame:zbE (fun x=>x.pt.id) (fun x=>x.pt) 2 (YC (fun x=>x.pt.id) (fun x=>x.pt) 2 (xs.take k)) x=(YC (fun x=>x.pt.id) (fun x=>x.pt) 2 (xs.take k)):=zd4 hkd
  rotate_left
  refine Qh (zM ?_);refine zM<|zV (Z7 (ek:=Value.int .i64) (ev:=Uf) zdF Zd rfl rfl (fun _=>kK)) ?_
  rw [hget];refine zM ?_;refine zE<|zE<|Qp zb0 rfl rfl (fun b_15=>?_)
  refine zh U0 ?_;refine zA<|zN (zR<|zF Vu ?_)
  refine zL Ql<|zM<|zC ?_
  refine zM<|Qt 4 rfl rfl rfl ?_
  refine zK (Qe rfl)<|zK (ZB rfl)<|QE rfl rfl rfl rfl rfl<|zN ?_
  refine zI ?_ ?_<;>intro hc46
  ·
   simp at hc46
  have hsame:zbE (fun x=>x.pt.id) (fun x=>x.pt) 2 (YC (fun x=>x.pt.id) (fun x=>x.pt) 2 (xs.take k)) x=(YC (fun x=>x.pt.id) (fun x=>x.pt) 2 (xs.take k)):=zbj hget
  all_goals
   refine Qr (Qk (Qd (Qh (zB<|zM (Qb ?_)))));exact Zr _ (Lw++[(r_20,YH (.int .i64) Uf (YC (fun x=>x.pt.id) (fun x=>x.pt) 2 (xs.take k)))]) ⟨n-(k+1),kB,k+1,_,_,_,rfl,rfl,rfl,by rw [Zq hx,hsame],kB,by rw [Zq hx,hsame];exact hO,by rw [Zq hx,hsame];exact hq⟩ (.cons rfl (.cons rfl (.cons rfl (.cons rfl (.cons rfl (.cons rfl (.cons rfl (.cons rfl (.cons rfl .nil))))))))) kD
 have hge_k:n≤k:=(by have h:=hc24;simp at h;omega);have hml:=V8 (num:=(fun x=>x.pt.id)) (prt:=(fun x=>x.pt)) (kind:=2) (xs:=xs);have hke:xs.take k=xs:=ZR hln hge_k;rw [hke] at hO hq ⊢;refine Zk (Qo (Qo (Qz (Qd (zR (zM<|zpc [_] rfl zcb Zi (zjf 3 ((YC (fun x=>x.pt.id) (fun x=>x.pt) 2 xs).map (·.1)) (by rw [←KS];exact hO) kB _) ?_))))));rintro vv2 I2 L2 hI2 ⟨rfl,rfl,hO2⟩;have hP:=hP.mono hI2;have hIc:=hIc.trans hI2;rw [←KS] at hO2;refine zN (Qm (Qm<|zx4 hO2 YL (fun I3 hI3 af3 cf3 ef3 hNs=>?_)));subst ef3;have hP:=hP.mono hI3;have hIc:=hIc.trans hI3;obtain ⟨ns,hnsd⟩:∃ y,y=zcV ((YC (fun x=>x.pt.id) (fun x=>x.pt) 2 xs).map (·.1)):=⟨_,rfl⟩;rw [←hnsd] at hNs;have hnl:=hNs.len;have hml:=V8 (num:=(fun x=>x.pt.id)) (prt:=(fun x=>x.pt)) (kind:=2) (xs:=xs);refine Qh (zM<|zQ Zb ?_);refine zM (zN (Qw ?_));refine zU [(3,_),(9,_),(57,_),(58,_)] (fun T L0 mz E I' loc'=>∃ (j:Nat) (a9:Option Addr) (n9:Nat) (c9:Nat),mz=q-j∧E=(8,.slice a9 n9 c9)::(59,.int .i64 j)::T∧HLe I3 I'∧[(r_20,YH (.int .i64) Uf (YC (fun x=>x.pt.id) (fun x=>x.pt) 2 xs))]=loc'∧j≤q∧Sl I' 19 Xu a9 n9 c9 (zjp zcW JD (YC (fun x=>x.pt.id) (fun x=>x.pt) 2 xs) (ns.take j))∧n9≤j) ?_ (h:=⟨0,none,0,0,rfl,rfl,zB6 _,rfl,Nat.zero_le _,Sl.nil,Nat.le_refl _⟩);rintro mz E J4 loc' ⟨j,a9,n9,c9,rfl,rfl,hJ,rfl,hj,hY,hn9⟩;have hP:=hP.mono hJ;have hNs:=hNs.mono hJ;have hIc:=hIc.trans hJ;have hB2:=hJ;refine zR (zC (zN (Qm ?_)));refine zI ?_ ?_<;>intro hc60
 ·
  have hlt_j:j<q:=(by have h:=hc60;simp at h;omega);obtain ⟨m9,hn⟩:∃ y,ns[j]? =some y:=⟨_,List.getElem?_eq_getElem kB⟩;refine Qr (Qd (Qm (Qw (zR<|zV (zX Zb hNs)<|zV (Qc rfl Ql (fun hg=>by exact zBZ hNs hn rfl))<|zA (zN ?_)))));refine zY [(3,_),(8,_),(9,_),(57,_),(58,_),(59,_)] (fun T L0 E I' loc'=>∃ (a2:Option Addr) (c2:Nat),E=(19,.slice a2 (n9+1) c2)::T∧HLe J4 I'∧[(r_20,YH (.int .i64) Uf (YC (fun x=>x.pt.id) (fun x=>x.pt) 2 xs))]=loc'∧Sl I' 19 Xu a2 (n9+1) c2 ((zjp zcW JD (YC (fun x=>x.pt.id) (fun x=>x.pt) 2 xs) (ns.take j))++[(ZQ (YC (fun x=>x.pt.id) (fun x=>x.pt) 2 xs) m9).getD JD])) ?_ ?_
  ·
   have hKc16:=zB6 J4;have hD:=zB6 J4;refine Zn<|QJ J4 [(r_20,YH (.int .i64) Uf (YC (fun x=>x.pt.id) (fun x=>x.pt) 2 xs))] mixed<|zT 0 rfl (Qe rfl) hD<|zT 2 rfl (Qe rfl) hD<|zT 3 rfl (Qe rfl) hD<|zT 4 rfl (WO (ek:=Value.int .i64) (ev:=Uf) JD zdF Zd rfl rfl (fun _=>kR)) hD ?_
   obtain ⟨y,hydef⟩:∃ y,y=(ZQ (YC (fun x=>x.pt.id) (fun x=>x.pt) 2 xs) m9).getD JD:=⟨_,rfl⟩;rw [←hydef];refine QU 1 5 rfl rfl kA ?_ ?_
   focus
    refine qcV (vs:=[_]) rfl zlL (zla _ _ _ _ hY.cap)<|Qb<|zD hD<|qd 5 rfl<|zpb [(0,_)] [Xu y] zju (fun b_68=>?_)
   rotate_left
   refine zpb [(0,_)] [Xu y] zju (fun b_68=>Qb<|zD hD<|qd 1 rfl<|qcV (vs:=[_]) rfl zlL (zla _ _ _ _ hY.cap) ?_)
   all_goals
    refine Qb<|zD hD<|qd 6 rfl<|QW (ys:=[y].flatMap Xu) XC rfl rfl zju hY.cut ⟨rfl,fun _=>rfl,by repeat (first | exact zB4 | apply zB3)⟩ kC kB rfl rfl ?_
    intro v1 L1 hO1;rw [←List.flatMap_append] at hO1;refine zx7 hO1 XC (fun I6 hI6 af6 cf6 ef6 hZ=>?_);subst ef6;have hKc16:=hKc16.trans hI6;have hD:=hD.trans hI6;exact Qb<|zD hD<|zT 7 rfl (QB rfl) hD<|Qn kA<|Qv<|zm (h:=⟨_,_,rfl,hKc16,rfl,by exact hZ⟩)
  rintro E J7 loc' ⟨a2,c2,rfl,hJ16,rfl,hZ⟩;have hP:=hP.mono hJ16;have hY:=hY.mono hJ16;have hB2:=hB2.trans hJ16;refine Qm ?_;have hNd9:∀ u∈(zjp zcW JD (YC (fun x=>x.pt.id) (fun x=>x.pt) 2 xs) (ns.take j))++[(ZQ (YC (fun x=>x.pt.id) (fun x=>x.pt) 2 xs) m9).getD JD],Nd J7 u:=fun u hu=>(show u=JD∨∃ w∈xs,u=w.pt from (List.mem_append.1 hu).elim (fun h=>zif u h) (fun h=>by rw [List.mem_singleton.1 h];exact zod)).elim (fun h=>by rw [h];exact Sl.nil) (fun ⟨w,hw2,h⟩=>by rw [h];exact hP.nd w hw2);refine Qh (zM ?_);refine zM ?_;refine qcV (vs:=[_]) rfl zzt (zzP ⟨hZ,hNd9⟩ kB)<|zC (zN ?_)
  refine zI ?_ ?_<;>intro hc73
  ·
   refine Qh (zM<|zA (Qb (Qk (Qd (Qh<|zB<|zM (Qb ?_))))))
   first
   | exact zm (h:=⟨q-(j+1),kB,j+1,_,_,_,rfl,rfl,hB2,rfl,kB,by rw [JV hn,zkp,if_pos hc73];exact hZ,kB⟩)
  refine Qr (Qk (Qd (Qh (zB<|zM (Qb ?_)))))
  first
  | exact zm (h:=⟨q-(j+1),kB,j+1,_,_,_,rfl,rfl,hB2,rfl,kB,by rw [JV hn,zkp,if_neg (by rw [hc73];simp)];exact hY,kB⟩)
 have hge_j:q≤j:=(by have h:=hc60;simp at h;omega);have hke2:ns.take j=ns:=ZR hnl hge_j;rw [hke2] at hY;refine Zk (Qo (Qo (Qz (Qd (zR (zM<|zA (zN (Qs ?_))))))));exact Qx rfl rfl (fun w hw=>⟨_,J4,[],rfl,hIc,by exact hw.drop,rfl,_,_,_,rfl,by rw [ze7,←hnsd];exact hY⟩)
theorem zqQ (hP:WB I av n c xs)(hn0:n≤4096):YE Tryz.prog 72 [.slice av n c,.int .i64 4,.func (.func 73) #[] #[],.func (.func 40) #[] #[]] I [] (fun v I' L'=>L'=[]∧∃ a n c,v= .slice a n c∧Sl I' 11 S.encR a n c (ze7 (fun x=>x.rt.no) (fun x=>x.rt) 4 S.rCheck S.zeroR xs)):=by
 intro g H w hw;refine qe Tryz.func72 Tryz.ntmps72 hw ?_;have hIc:=zB6 I;have hln:=hP.sl.len;refine zR (zA<|zN (zR<|Yl rfl rfl (fun r_20=>?_)));refine (show XO _ _ _ _ _ _ _ ((r_20,YH (.int .i64) S.encA ([]:List (Int×S.Rt)))::_) from ?_);refine zA<|zN (zR<|zA (zN (Qm (zR ?_))))
 refine zM ?_;refine zQ Zj ?_;refine zM (zN (Qw ?_));refine zU [(1,_),(2,_),(3,_),(8,_),(9,_),(21,_),(22,_)] (fun T L0 mz E I' loc'=>∃ (k:Nat) (v:Value) (q:Nat) (Lw:Go.Kn.Loc),mz=n-k∧E=(10,v)::(23,.int .i64 k)::T∧I=I'∧Lw++[(r_20,YH (.int .i64) S.encA (YC (fun x=>x.rt.no) (fun x=>x.rt) 4 (xs.take k)))]=loc'∧k≤n∧ZU 3 1 v q (((YC (fun x=>x.rt.no) (fun x=>x.rt) 4 (xs.take k)).map (·.1)).flatMap Z5) Lw∧q=(YC (fun x=>x.rt.no) (fun x=>x.rt) 4 (xs.take k)).length) ?_ (h:=⟨0,_,0,[],rfl,rfl,rfl,rfl,Nat.zero_le _,ZU.nil,rfl⟩);rintro mz E I' loc' ⟨k,v,q,Lw,rfl,rfl,rfl,rfl,hk,hO,hq⟩;refine zR (zC (zN (Qm ?_)));refine zI ?_ ?_<;>intro hc24
 ·
  have hlt_k:k<n:=(by have h:=hc24;simp at h;omega);obtain ⟨x,hx⟩:∃ y,xs[k]? =some y:=⟨_,List.getElem?_eq_getElem kB⟩;have hml:(YC (fun x=>x.rt.no) (fun x=>x.rt) 4 (xs.take k)).length≤k:=Nat.le_trans V8 (List.length_take_le ..);refine Qr (Qd (Qm (Qw (zR<|zV (QG rfl rfl Zj hP.sl (fun hg=>kB))<|zV (Qg rfl Zc (fun hg=>by exact zB7 hP.sl hx) rfl)<|Qp U2 rfl rfl (fun b_12=>?_)))));refine zh Vk<|zN (zR ?_)
  refine zM ?_;refine zV (Qg rfl Zc (fun hg=>by exact Cells.g0) rfl)<|qcV (vs:=[_]) rfl zxg (ztk _ x)<|zM ?_
  refine zE<|zE<|Qp za0 rfl rfl (fun b_13=>?_)
  refine zh Uq ?_;refine zA (zN (Qm ?_));rcases hget:ZQ (YC (fun x=>x.rt.no) (fun x=>x.rt) 4 (xs.take k)) (x.rt.no) with _ | y0
  focus
   refine Qh (zM ?_);refine zM<|zV (Z7 (ek:=Value.int .i64) (ev:=S.encA) U8 Zd rfl rfl (fun _=>kK)) ?_
   rw [hget];refine zM ?_;refine zE<|zE<|Qp za0 rfl rfl (fun b_15=>?_)
   refine zh Uq ?_;refine zA<|zN (zR<|zF Vu ?_)
   refine zL Ql<|zM<|zC ?_
   refine zM<|Qt 4 rfl rfl rfl ?_
   refine zK (Qe rfl)<|zK (ZB rfl)<|QE rfl rfl rfl rfl rfl<|zN ?_
   refine zI ?_ ?_<;>intro hc46
   ·
    have hkd:(x.kind==4)=true:=(by simpa using hc46);refine zR (zM ?_);refine zM ?_;refine zV (Qg rfl Y6 (fun hg=>by exact Cells.g1) rfl)<|zx9 (ek:=Value.int .i64) (ev:=S.encA) (x.rt) U8 Zd<|zN (Qh (zM<|zM ?_))
    refine zpb [(0,_)] [Z5 (x.rt.no)] Vh (fun b_52=>?_);refine zpa (_) ([x.rt.no].flatMap Z5) (Lw) rfl rfl Vh hO ⟨rfl,fun _=>rfl,by repeat (first | exact zB4 | apply zB3 | apply zB5)⟩ (za5 [x.rt.no]) ?_;intro v9 L9 hO9 _;rw [←List.flatMap_append] at hO9;refine zA (Qb (Qk (Qd (Qh<|zB<|zM (Qb ?_)))));exact Zr _ (L9++[(r_20,YH (.int .i64) S.encA (JB (YC (fun x=>x.rt.no) (fun x=>x.rt) 4 (xs.take k)) (x.rt.no) (x.rt)))]) ⟨n-(k+1),kB,k+1,_,_,_,rfl,rfl,rfl,by rw [Zq hx,zbq hget hkd],kB,by rw [Zq hx,J8 hget hkd];exact hO9,by rw [Zq hx,←List.length_map (f:=fun p=>p.1),J8 hget hkd,List.length_append,List.length_map];simp;omega⟩ (.cons rfl (.cons rfl (.cons rfl (.cons rfl (.cons rfl (.cons rfl (.cons rfl (.cons rfl (.cons rfl .nil))))))))) kD
   have hkd:(x.kind==4)=false:=(by simpa using hc46);have hsame:zbE (fun x=>x.rt.no) (fun x=>x.rt) 4 (YC (fun x=>x.rt.no) (fun x=>x.rt) 4 (xs.take k)) x=(YC (fun x=>x.rt.no) (fun x=>x.rt) 4 (xs.take k)):=zd4 hkd
  rotate_left
  refine Qh (zM ?_);refine zM<|zV (Z7 (ek:=Value.int .i64) (ev:=S.encA) U8 Zd rfl rfl (fun _=>kK)) ?_
  rw [hget];refine zM ?_;refine zE<|zE<|Qp za0 rfl rfl (fun b_15=>?_)
  refine zh Uq ?_;refine zA<|zN (zR<|zF Vu ?_)
  refine zL Ql<|zM<|zC ?_
  refine zM<|Qt 4 rfl rfl rfl ?_
  refine zK (Qe rfl)<|zK (ZB rfl)<|QE rfl rfl rfl rfl rfl<|zN ?_
  refine zI ?_ ?_<;>intro hc46
  ·
   simp at hc46
  have hsame:zbE (fun x=>x.rt.no) (fun x=>x.rt) 4 (YC (fun x=>x.rt.no) (fun x=>x.rt) 4 (xs.take k)) x=(YC (fun x=>x.rt.no) (fun x=>x.rt) 4 (xs.take k)):=zbj hget
  all_goals
   refine Qr (Qk (Qd (Qh (zB<|zM (Qb ?_)))));exact Zr _ (Lw++[(r_20,YH (.int .i64) S.encA (YC (fun x=>x.rt.no) (fun x=>x.rt) 4 (xs.take k)))]) ⟨n-(k+1),kB,k+1,_,_,_,rfl,rfl,rfl,by rw [Zq hx,hsame],kB,by rw [Zq hx,hsame];exact hO,by rw [Zq hx,hsame];exact hq⟩ (.cons rfl (.cons rfl (.cons rfl (.cons rfl (.cons rfl (.cons rfl (.cons rfl (.cons rfl (.cons rfl .nil))))))))) kD
 have hge_k:n≤k:=(by have h:=hc24;simp at h;omega);have hml:=V8 (num:=(fun x=>x.rt.no)) (prt:=(fun x=>x.rt)) (kind:=4) (xs:=xs);have hke:xs.take k=xs:=ZR hln hge_k;rw [hke] at hO hq ⊢;refine Zk (Qo (Qo (Qz (Qd (zR (zM<|zpc [_] rfl zcb Zi (zjf 3 ((YC (fun x=>x.rt.no) (fun x=>x.rt) 4 xs).map (·.1)) (by rw [←KS];exact hO) kB _) ?_))))));rintro vv2 I2 L2 hI2 ⟨rfl,rfl,hO2⟩;have hIc:=hIc.trans hI2;rw [←KS] at hO2;refine zN (Qm (Qm<|zx4 hO2 YL (fun I3 hI3 af3 cf3 ef3 hNs=>?_)));subst ef3;have hIc:=hIc.trans hI3;obtain ⟨ns,hnsd⟩:∃ y,y=zcV ((YC (fun x=>x.rt.no) (fun x=>x.rt) 4 xs).map (·.1)):=⟨_,rfl⟩;rw [←hnsd] at hNs;have hnl:=hNs.len;have hml:=V8 (num:=(fun x=>x.rt.no)) (prt:=(fun x=>x.rt)) (kind:=4) (xs:=xs);refine Qh (zM<|zQ Zb ?_);refine zM (zN (Qw ?_));refine zU [(3,_),(9,_),(57,_),(58,_)] (fun T L0 mz E I' loc'=>∃ (j:Nat) (a9:Option Addr) (n9:Nat) (c9:Nat),mz=q-j∧E=(8,.slice a9 n9 c9)::(59,.int .i64 j)::T∧HLe I3 I'∧[(r_20,YH (.int .i64) S.encA (YC (fun x=>x.rt.no) (fun x=>x.rt) 4 xs))]=loc'∧j≤q∧Sl I' 11 S.encR a9 n9 c9 (zjp S.rCheck S.zeroR (YC (fun x=>x.rt.no) (fun x=>x.rt) 4 xs) (ns.take j))∧n9≤j) ?_ (h:=⟨0,none,0,0,rfl,rfl,zB6 _,rfl,Nat.zero_le _,Sl.nil,Nat.le_refl _⟩);rintro mz E J4 loc' ⟨j,a9,n9,c9,rfl,rfl,hJ,rfl,hj,hY,hn9⟩;have hNs:=hNs.mono hJ;have hIc:=hIc.trans hJ;have hB2:=hJ;refine zR (zC (zN (Qm ?_)));refine zI ?_ ?_<;>intro hc60
 ·
  have hlt_j:j<q:=(by have h:=hc60;simp at h;omega);obtain ⟨m9,hn⟩:∃ y,ns[j]? =some y:=⟨_,List.getElem?_eq_getElem kB⟩;refine Qr (Qd (Qm (Qw (zR<|zV (zX Zb hNs)<|zV (Qc rfl Ql (fun hg=>by exact zBZ hNs hn rfl))<|zA (zN ?_)))));refine zY [(3,_),(8,_),(9,_),(57,_),(58,_),(59,_)] (fun T L0 E I' loc'=>∃ (a2:Option Addr) (c2:Nat),E=(19,.slice a2 (n9+1) c2)::T∧HLe J4 I'∧[(r_20,YH (.int .i64) S.encA (YC (fun x=>x.rt.no) (fun x=>x.rt) 4 xs))]=loc'∧Sl I' 11 S.encR a2 (n9+1) c2 ((zjp S.rCheck S.zeroR (YC (fun x=>x.rt.no) (fun x=>x.rt) 4 xs) (ns.take j))++[(ZQ (YC (fun x=>x.rt.no) (fun x=>x.rt) 4 xs) m9).getD S.zeroR])) ?_ ?_
  ·
   have hKc16:=zB6 J4;have hD:=zB6 J4;refine Zn<|QJ J4 [(r_20,YH (.int .i64) S.encA (YC (fun x=>x.rt.no) (fun x=>x.rt) 4 xs))] mixed<|zT 0 rfl (Qe rfl) hD<|zT 2 rfl (Qe rfl) hD<|zT 3 rfl (Qe rfl) hD<|zT 4 rfl (WO (ek:=Value.int .i64) (ev:=S.encA) S.zeroR U8 Zd rfl rfl (fun _=>kR)) hD ?_
   obtain ⟨y,hydef⟩:∃ y,y=(ZQ (YC (fun x=>x.rt.no) (fun x=>x.rt) 4 xs) m9).getD S.zeroR:=⟨_,rfl⟩;rw [←hydef];refine QU 1 5 rfl rfl kA ?_ ?_
   focus
    refine qcV (vs:=[_]) rfl zmz (znV _ _ _ _ hY.cap)<|Qb<|zD hD<|qd 5 rfl<|zpb [(0,_)] [S.encR y] Wv (fun b_68=>?_)
   rotate_left
   refine zpb [(0,_)] [S.encR y] Wv (fun b_68=>Qb<|zD hD<|qd 1 rfl<|qcV (vs:=[_]) rfl zmz (znV _ _ _ _ hY.cap) ?_)
   all_goals
    refine Qb<|zD hD<|qd 6 rfl<|QW (ys:=[y].flatMap S.encR) S.encR_len rfl rfl Wv hY.cut ⟨rfl,fun _=>rfl,by repeat (first | exact zB4 | apply zB3)⟩ kC kB rfl rfl ?_
    intro v1 L1 hO1;rw [←List.flatMap_append] at hO1;refine zx7 hO1 S.encR_len (fun I6 hI6 af6 cf6 ef6 hZ=>?_);subst ef6;have hKc16:=hKc16.trans hI6;have hD:=hD.trans hI6;exact Qb<|zD hD<|zT 7 rfl (QB rfl) hD<|Qn kA<|Qv<|zm (h:=⟨_,_,rfl,hKc16,rfl,by exact hZ⟩)
  rintro E J7 loc' ⟨a2,c2,rfl,hJ16,rfl,hZ⟩;have hY:=hY.mono hJ16;have hB2:=hB2.trans hJ16;refine zR (zM ?_);refine zM ?_;refine qcV (vs:=[_]) rfl zll (S.w_check hZ kB)<|zC (zN ?_)
  refine zI ?_ ?_<;>intro hc73
  ·
   refine Qh (zM<|zA (Qb (Qk (Qd (Qh<|zB<|zM (Qb ?_))))))
   first
   | exact zm (h:=⟨q-(j+1),kB,j+1,_,_,_,rfl,rfl,hB2,rfl,kB,by rw [JV hn,zkp,if_pos hc73];exact hZ,kB⟩)
  refine Qr (Qk (Qd (Qh (zB<|zM (Qb ?_)))))
  first
  | exact zm (h:=⟨q-(j+1),kB,j+1,_,_,_,rfl,rfl,hB2,rfl,kB,by rw [JV hn,zkp,if_neg (by rw [hc73];simp)];exact hY,kB⟩)
 have hge_j:q≤j:=(by have h:=hc60;simp at h;omega);have hke2:ns.take j=ns:=ZR hnl hge_j;rw [hke2] at hY;refine Zk (Qo (Qo (Qz (Qd (zR (zM<|zA (zN (Qs ?_))))))));exact Qx rfl rfl (fun w hw=>⟨_,J4,[],rfl,hIc,by exact hw.drop,rfl,_,_,_,rfl,by rw [ze7,←hnsd];exact hY⟩)
end
end Go.Proofs.YtjblkbkmblkgoaaGreat
section
namespace Go.Kn
open Go
section
variable {P:Program} {fn:Func} {R:Ending→World→Prop} {N:Nat} {g:World} {I H:Qu} {loc:Loc} {E:Env} {r:Option Nat}
theorem zkK {t1 t2 t3 t4 t5:Nat}{v1 v2 v3 v4 v5:Value}(hr:fn.results= #[.tmp t1,.tmp t2,.tmp t3,.tmp t4,.tmp t5])(h1:VT E t1=some v1)(h2:VT E t2=some v2)(h3:VT E t3=some v3)(h4:VT E t4=some v4)(h5:VT E t5=some v5)
  (h:∀ w,St g I H loc w→R (.returned (.tuple #[v1,v2,v3,v4,v5])) w):At ⟨P,r,N,[],g,H⟩ (bodyPost P fn R) .ret E I loc:=fun a w ha hw=>by
 have e1:=ha.env _ _ h1;have e2:=ha.env _ _ h2;have e3:=ha.env _ _ h3;have e4:=ha.env _ _ h4;have e5:=ha.env _ _ h5;rw [Array.getD_eq_getD_getElem?] at e1 e2 e3 e4 e5;exact ⟨ha.defers,.tuple #[v1,v2,v3,v4,v5],by simp only [results,hr];simp [List.mapM_cons,e1,e2,e3,e4,e5],h w hw⟩
end
end Go.Kn
namespace Go.Proofs.YtjblkbkmblkgoaaGreat
open Go Go.Kn Go.Proofs
def wLm (xs:List Nt):List Lm:=ze7 (fun x=>x.lm.no) (fun x=>x.lm) 1 zg7 VU xs
def wLs (xs:List Nt):List L.Ls:=ze7 (fun x=>x.ls.no) (fun x=>x.ls) 3 L.chk L.zeroL xs
def wPt (xs:List Nt):List Pt:=ze7 (fun x=>x.pt.id) (fun x=>x.pt) 2 zcW JD xs
def wRt (xs:List Nt):List S.Rt:=ze7 (fun x=>x.rt.no) (fun x=>x.rt) 4 S.rCheck S.zeroR xs
theorem zyr {I:Qu}{xs:List Nt}(h:∀ x∈xs,Nd I x.pt):∀ p∈wPt xs,Nd I p:=fun p hp=>by
 rcases zif p hp with rfl | ⟨x,hx,rfl⟩
 ·
  exact Sl.nil
 ·
  exact h x hx
def zA5 (xs:List Nt)(v:Value)(I':Qu)(L':Go.Kn.Loc):Prop:=L'=[]∧
  ((ZT xs=true∧∃ a1 n1 c1 a2 n2 c2 a3 n3 c3 a4 n4 c4,v= .tuple #[.slice a1 n1 c1,.slice a2 n2 c2,.slice a3 n3 c3,.slice a4 n4 c4,.int .i64 0]∧Sl I' 9 Zz a1 n1 c1 (wLm xs)∧Sl I' 5 L.encL a2 n2 c2 (wLs xs)∧SlP I' a3 n3 c3 (wPt xs)∧Sl I' 11 S.encR a4 n4 c4 (wRt xs))∨
   (ZT xs=false∧v= .tuple #[.slice none 0 0,.slice none 0 0,.slice none 0 0,.slice none 0 0,.int .i64 570]))
structure Hy where
 a:Option Addr
 n:Nat
 c:Nat
 bytes:List Nat
def zcZ (x:Hy):List Value:=[.slice x.a x.n x.c]
theorem Wo (x:Hy):(zcZ x).length=1:=rfl
theorem zlt (xs:List Hy):Y4 (xs.flatMap zcZ)=true:=YR (fun _=>rfl) xs
structure HyM (I:Qu)(x:Hy):Prop where
 sl:Sl I 1 VY x.a x.n x.c x.bytes
 byte:∀ b∈x.bytes,b<256
theorem HyM.mono {I I':Qu}{x:Hy}(h:HyM I x)(hI:HLe I I'):HyM I' x:=⟨h.sl.mono hI,h.byte⟩
structure zuh (I:Qu)(av:Option Addr)(n c:Nat)(rs:List Hy):Prop where
 sl:Sl I 1 zcZ av n c rs
 m:∀ r∈rs,HyM I r
theorem zuh.mono {I I':Qu}{av:Option Addr}{n c:Nat}{rs:List Hy}(h:zuh I av n c rs)(hI:HLe I I'):zuh I' av n c rs:=⟨h.sl.mono hI,fun r hr=>(h.m r hr).mono hI⟩
structure zo2 (I:Qu)(rs:List Hy)(B:List (List Nat)):Prop where
 m:∀ r∈rs,HyM I r
 b:rs.map (·.bytes)=B
theorem zo2.mono {I I':Qu}{rs:List Hy}{B:List (List Nat)}(h:zo2 I rs B)(hI:HLe I I'):zo2 I' rs B:=⟨fun r hr=>(h.m r hr).mono hI,h.b⟩
theorem zo2.nil {I:Qu}:zo2 I [] []:=⟨fun _ h=>(by cases h),rfl⟩
theorem zo2.snoc {I:Qu}{rs:List Hy}{B:List (List Nat)}(h:zo2 I rs B){x:Hy}(hx:HyM I x):zo2 I (rs++[x]) (B++[x.bytes]):=
 ⟨fun r hr=>(List.mem_append.1 hr).elim (h.m r) (fun e=>by rw [List.mem_singleton.1 e];exact hx),by rw [List.map_append,h.b];rfl⟩
theorem zxz {I:Qu}{t:Nt}{b c:Nat}(hok:Va.ok (KQ t))(hS:Sl I 1 VY (some ⟨b,0,none⟩) (za7 t).size c (Ur (za7 t))):HyM I ⟨some ⟨b,0,none⟩,(za7 t).size,c,V1 t⟩:=by
 have e:Ur (za7 t)=V1 t:=Jp (KX _ hok);rw [e] at hS;exact ⟨hS,KX _ hok⟩
def zA9 (xs:List Nt)(v:Value)(I':Qu)(L':Go.Kn.Loc):Prop:=L'=[]∧
 ((ZT xs=true∧∃ a n c rs,v= .tuple #[.slice a n c,.int .i64 0]∧zuh I' a n c rs∧rs.map (·.bytes)=xs.map V1)∨(ZT xs=false∧v= .tuple #[.slice none 0 0,.int .i64 570]))
end Go.Proofs.YtjblkbkmblkgoaaGreat
end
namespace Go.Proofs.YtjblkbkmblkgoaaGreat
section
open Go Go.Kn Go.Proofs
theorem zc5:ElT Tryz.prog 60 80 1 24:=.of kA
theorem zw4:Fun Tryz.prog 66:=.of Tryz.func66 kA kA
theorem zyk:Fun Tryz.prog 68:=.of Tryz.func68 kA kA
theorem zxv:Fun Tryz.prog 70:=.of Tryz.func70 kA kA
theorem zxH:Fun Tryz.prog 72:=.of Tryz.func72 kA kA
variable{I:Qu}{av:Option Addr}{n c:Nat}{xs:List Nt}
theorem zlV (hP:WB I av n c xs)(hn:n≤100000):YE Tryz.prog 20 [.agg #[.slice av n c]] I [] (zA5 xs):=by
 intro g H w hw;refine qe Tryz.func20 Tryz.ntmps20 hw ?_;have hIc:=zB6 I;have hln:=hP.sl.len;refine zR<|QK rfl rfl rfl (fun b_1=>zA<|zA<|zA<|zA<|zA (Qb<|QF .here (fun I1 hI1 hb1=>?_)))
 have hP:=hP.mono hI1;have hIc:=hIc.trans hI1;have h1:=BxI.of hb1;refine Qd (Qm (zR<|zV (Qg rfl Up (fun hg=>by exact BxI.cells (vs:=[_]) h1) rfl)<|qcV (vs:=[_]) rfl zkD (zgC hP hn)<|zO (zN ?_)));refine zI ?_ ?_<;>intro hc9
 ·
  have hvf:ZT xs=false:=(by simpa using hc9);exact zR (zA<|zA<|zA<|zA<|zA (zN (Qs (Qf<|zkK rfl rfl rfl rfl rfl rfl (fun w hw=>⟨_,I1,[],rfl,hIc,hw.subL Qq,rfl,.inr ⟨hvf,rfl⟩⟩)))))
 have hvf:ZT xs=true:=(by simpa using hc9);have hn4:n≤4096:=(by have h:=(V2 hvf).2.2;omega);refine Qr (Qd (zR<|zF ZK ?_));refine zV (Qc rfl Y1 (fun hg=>by exact Qy.imm h1.out rfl))<|zpc [_,_,_,_] rfl zw4 .nil (zp7 hP hn4) ?_
 rintro vv2 I2 L2 hI2 ⟨rfl,a1,n1,c1,rfl,hS1⟩;have hP:=hP.mono hI2;have h1:=h1.mono hI2;have hIc:=hIc.trans hI2;refine zA<|zN (zR<|zF ZK ?_)
 refine zV (Qc rfl Y1 (fun hg=>by exact Qy.imm h1.out rfl))<|zpc [_,_,_,_] rfl zyk .nil (zqn hP hn4) ?_
 rintro vv3 I3 L3 hI3 ⟨rfl,a2,n2,c2,rfl,hS2⟩;have hP:=hP.mono hI3;have h1:=h1.mono hI3;have hS1:=hS1.mono hI3;have hIc:=hIc.trans hI3;refine zA<|zN (zR<|zF ZK ?_)
 refine zV (Qc rfl Y1 (fun hg=>by exact Qy.imm h1.out rfl))<|zpc [_,_,_,_] rfl zxv .nil (zq2 hP hn4) ?_
 rintro vv4 I4 L4 hI4 ⟨rfl,a3,n3,c3,rfl,hS3⟩;have hP:=hP.mono hI4;have h1:=h1.mono hI4;have hS1:=hS1.mono hI4;have hS2:=hS2.mono hI4;have hIc:=hIc.trans hI4;refine zA<|zN (zR<|zF ZK ?_)
 refine zV (Qc rfl Y1 (fun hg=>by exact Qy.imm h1.out rfl))<|zpc [_,_,_,_] rfl zxH .nil (zqQ hP hn4) ?_
 rintro vv5 I5 L5 hI5 ⟨rfl,a4,n4,c4,rfl,hS4⟩;have hP:=hP.mono hI5;have hS1:=hS1.mono hI5;have hS2:=hS2.mono hI5;have hS3:=hS3.mono hI5;have hIc:=hIc.trans hI5;refine zA<|zN (zR ?_)
 refine zM ?_;refine zM ?_;refine zM ?_;exact zM<|zA<|zA<|zA<|zA<|zA (zN (Qs<|zkK rfl rfl rfl rfl rfl rfl (fun w hw=>⟨_,I5,[],rfl,hIc,hw.subL Qq,rfl,.inl ⟨hvf,_,_,_,_,_,_,_,_,_,_,_,_,rfl,hS1,hS2,⟨hS3,zyr hP.nd⟩,hS4⟩⟩)))
theorem zmm (hP:WB I av n c xs)(hn:n≤100000):YE Tryz.prog 22 [.agg #[.slice av n c]] I [] (zA9 xs):=by
 intro g H w hw;refine qe Tryz.func22 Tryz.ntmps22 hw ?_;have hIc:=zB6 I;have hln:=hP.sl.len;refine zR<|QK rfl rfl rfl (fun b_1=>zA<|zA (Qb<|QF .here (fun I1 hI1 hb1=>?_)))
 have hP:=hP.mono hI1;have hIc:=hIc.trans hI1;have h1:=BxI.of hb1;refine Qd (Qm (zR<|zV (Qg rfl Up (fun hg=>by exact BxI.cells (vs:=[_]) h1) rfl)<|qcV (vs:=[_]) rfl zkD (zgC hP hn)<|zO (zN ?_)));refine zI ?_ ?_<;>intro hc8
 ·
  have hvf:ZT xs=false:=(by simpa using hc8);exact zR (zA<|zA (zN (Qs (Qf<|Vq rfl rfl rfl (fun w hw=>⟨_,I1,[],rfl,hIc,hw.subL Qq,rfl,.inr ⟨hvf,rfl⟩⟩)))))
 have hvf:ZT xs=true:=(by simpa using hc8);have hvs:=V2 hvf;refine Qr (Qd (Qm (zR<|zF ZK ?_)));refine zV (Qc rfl Y1 (fun hg=>by exact Qy.imm h1.out rfl))<|zQ Zj ?_
 refine zM (zN (Qw ?_));refine zU [(10,_),(11,_)] (fun T L0 mz E I' loc'=>∃ (k:Nat) (v:Value) (L:Go.Kn.Loc) (rs:List Hy),mz=n-k∧E=(2,v)::(12,.int .i64 k)::T∧HLe I1 I'∧L=loc'∧k≤n∧ZU 80 1 v k (rs.flatMap zcZ) L∧zo2 I' rs ((xs.take k).map V1)) ?_ (h:=⟨0,_,[],[],rfl,rfl,zB6 _,rfl,Nat.zero_le _,ZU.nil,zo2.nil⟩);rintro mz E J2 loc' ⟨k,v,L,rs,rfl,rfl,hJ,rfl,hk,hO,hRK⟩;have hP:=hP.mono hJ;have hIc:=hIc.trans hJ;have hB0:=hJ;refine zR (zC (zN (Qm ?_)));refine zI ?_ ?_<;>intro hc13
 ·
  have hlt_k:k<n:=(by have h:=hc13;simp at h;omega);obtain ⟨x,hx⟩:∃ y,xs[k]? =some y:=⟨_,List.getElem?_eq_getElem kB⟩;have hxm:=List.mem_of_getElem? hx;have hM:=hP.m x hxm (hvs.2.1 x hxm);refine Qr (Qd (Qm (Qw (zR<|zV (QG rfl rfl Zj hP.sl (fun hg=>kB))<|zV (Qg rfl Zc (fun hg=>by exact zB7 hP.sl hx) rfl)<|Qp U2 rfl rfl (fun b_5=>?_)))));refine zh Vk<|zN (Qh (zM ?_))
  refine zV (Qg rfl Zc (fun hg=>by exact Cells.g0) rfl)<|qcV (vs:=[_]) rfl zeY (zmc x hM.nd hM.nn hM.ok hM.len)<|Xf (s:=za7 x) rfl zmu rfl rfl (fun b9 c9 I3 hI3 hB=>?_)
  have hRK:=hRK.mono hI3;have hB0:=hB0.trans hI3;refine zpb [(0,_)] [zcZ ⟨some ⟨b9,0,none⟩,(za7 x).size,c9,V1 x⟩] zc5 (fun b_20=>?_);refine zpa (_) ([(⟨some ⟨b9,0,none⟩,(za7 x).size,c9,V1 x⟩:Hy)].flatMap zcZ) (L) rfl rfl zc5 hO ⟨rfl,fun _=>rfl,by repeat (first | exact zB4 | apply zB3 | apply zB5)⟩ (zlt _) ?_;intro v9 L9 hO9 _;rw [←List.flatMap_append] at hO9;refine zA (Qb (Qk (Qd (Qh<|zB<|zM (Qb ?_)))));exact zm (h:=⟨n-(k+1),kB,k+1,_,_,_,rfl,rfl,hB0,rfl,kB,hO9,by rw [Zs hx,List.map_append];exact hRK.snoc (zxz hM.ok hB)⟩)
 have hge_k:n≤k:=(by have h:=hc13;simp at h;omega);rw [ZR hln hge_k] at hRK;refine Zk (Qo (Qo (Qz (Qd (Qm<|zx4 hO Wo (fun I4 hI4 af4 cf4 ef4 hR9=>?_))))));subst ef4;have hRK:=hRK.mono hI4;have hIc:=hIc.trans hI4;exact Qh (zM<|zA<|zA (zN (Qs<|Vq rfl rfl rfl (fun w hw=>⟨_,I4,[],rfl,hIc,hw.subL Qq,rfl,.inl ⟨hvf,_,_,_,rs,rfl,⟨hR9,hRK.m⟩,hRK.b⟩⟩))))
def kpN (ws:List Nt)(i:Nat)(x:Nt):Bool:=match i with
 | 0=>true
 | j+1=>match ws[j]? with | none=>true | some y=> !(Vm x y==0)
def VV (ws:List Nt):Nat→List Nt
 | 0=>[]
 | i+1=>match ws[i]? with
  | none=>VV ws i
  | some x=>if kpN ws i x=true then VV ws i++[x] else VV ws i
def Wy (ws:List Nt)(m:Nat):List Nt:=VV ws m++ws.drop (VV ws m).length
variable{ws:List Nt}{i:Nat}{x:Nt}
theorem zbG (hx:ws[i]? =some x)(hk:kpN ws i x=true):VV ws (i+1)=VV ws i++[x]:=by simp only [VV,hx,if_pos hk]
theorem zdp (hx:ws[i]? =some x)(hk:kpN ws i x=false):VV ws (i+1)=VV ws i:=by simp only [VV,hx,hk];rfl
theorem zjH {y:Nt}(hi:1≤i)(hy:ws[i-1]? =some y):kpN ws i x= !(Vm x y==0):=by
 obtain ⟨j,rfl⟩:∃ j,i=j+1:=⟨i-1,kB⟩;rw [Nat.add_sub_cancel] at hy;simp only [kpN,hy]
theorem Xe (ws:List Nt):∀ m,(VV ws m).length≤m
 | 0=>Nat.le_refl _
 | m+1=>by
  have:=Xe ws m;unfold VV;split
  ·
   omega
  ·
   split
   ·
    rw [List.length_append,List.length_singleton];omega
   ·
    omega
theorem ziX (ws:List Nt):∀ m,(VV ws m).length≤ws.length
 | 0=>Nat.zero_le _
 | m+1=>by
  have h1:=Xe ws m;have h2:=ziX ws m;unfold VV;split
  ·
   exact h2
  ·
   rename_i x hx;have:=(List.getElem?_eq_some_iff.1 hx).1;split
   ·
    rw [List.length_append,List.length_singleton];omega
   ·
    exact h2
theorem zuZ (ws:List Nt):VV ws 1=ws.take 1:=by
 cases ws with
 | nil=>simp [VV]
 | cons x l=>simp [VV,kpN]
theorem ze3 (h:VV ws i=ws.take i)(hx:ws[i]? =some x)(hk:kpN ws i x=true):VV ws (i+1)=ws.take (i+1):=by rw [zbG hx hk,h,Zs hx]
theorem zb4 (h:ws.length<2):VV ws ws.length=ws:=by
 cases ws with
 | nil=>simp [VV]
 | cons x l=>
  cases l with
  | nil=>simp [VV,kpN]
  | cons y l=>simp only [List.length_cons] at h;omega
theorem zo0 (m:Nat):(Wy ws m).length=ws.length:=by
 have:=ziX ws m;unfold Wy;rw [List.length_append,List.length_drop];omega
variable{m:Nat}
theorem zlS (h:(VV ws m).length≤i):(Wy ws m)[i]? =ws[i]? :=by
 unfold Wy;rw [List.getElem?_append_right h,List.getElem?_drop];congr 1;omega
theorem zsM (hx:ws[i]? =some x)(hk:kpN ws i x=false):Wy ws (i+1)=Wy ws i:=by unfold Wy;rw [zdp hx hk]
theorem ztu (hx:ws[i]? =some x)(hk:kpN ws i x=true):Wy ws (i+1)=(Wy ws i).set (VV ws i).length x:=by
 have h1:=Xe ws i;have h2:=(List.getElem?_eq_some_iff.1 hx).1;have h3:ws.drop (VV ws i).length=ws[(VV ws i).length]::ws.drop ((VV ws i).length+1):=List.drop_eq_getElem_cons kB;unfold Wy;rw [zbG hx hk,List.length_append,List.length_singleton,List.set_append_right _ _ (Nat.le_refl _),Nat.sub_self,h3,List.set_cons_zero,List.append_assoc,List.singleton_append]
theorem zqC (h:VV ws i=ws.take i)(hi:i≤ws.length):Wy ws i=ws:=by
 unfold Wy;rw [h,List.length_take,Nat.min_eq_left hi,List.take_append_drop]
variable{bl:List Nt}
/-! ### Cells -/
theorem zas (hx:bl[i]? =some x):bl.flatMap Zf=(bl.take i).flatMap Zf++Zf x++(bl.drop (i+1)).flatMap Zf:=by
 have h2:=(List.getElem?_eq_some_iff.1 hx).1
 have h3:bl.drop i=x::bl.drop (i+1):=by
  rw [List.drop_eq_getElem_cons h2,(List.getElem?_eq_some_iff.1 hx).2]
 conv=>lhs;rw [←List.take_append_drop i bl,h3]
 rw [List.flatMap_append,List.flatMap_cons,List.append_assoc]
theorem zaQ (h:i≤bl.length):((bl.take i).flatMap Zf).length=i*45:=by
 rw [Yp Z2,List.length_take,Nat.min_eq_left h]
variable{fz:Nat×Nat}{l:Go.Kn.Loc}{tl:List Value}
theorem XI {b t off:Nat}(hx:bl[i]? =some x)(e:off=i*45):Cells I ((b,.cells (bl.flatMap Zf++tl).toArray t fz)::l) b off (Zf x):=by
 have h2:=(List.getElem?_eq_some_iff.1 hx).1;refine Cells.part (pre:=(bl.take i).flatMap Zf) (vs:=Zf x) (post:=(bl.drop (i+1)).flatMap Zf++tl) ?_ (by rw [e,zaQ kB]);have h:=zB4 (I:=I) (b:=b) (vs:=bl.flatMap Zf++tl) (t:=t) (fz:=fz) (l:=l);rw [zas hx] at h ⊢;simpa only [List.append_assoc] using h
theorem zoT (hi:i<bl.length):Kf (bl.flatMap Zf++tl) (i*45) (Zf x)=(bl.set i x).flatMap Zf++tl:=by
 obtain ⟨y,hy⟩:∃ y,bl[i]? =some y:=⟨_,List.getElem?_eq_getElem hi⟩;have hs:(bl.set i x)[i]? =some x:=List.getElem?_set_self hi;have e1:(bl.set i x).take i=bl.take i:=(by rw [List.take_set_of_le (Nat.le_refl _)]);have e2:(bl.set i x).drop (i+1)=bl.drop (i+1):=(by rw [List.drop_set_of_lt (Nat.lt_succ_self _)]);rw [zas hy,zas hs,e1,e2];have h:=KO ((bl.take i).flatMap Zf) (Zf y) (Zf x) ((bl.drop (i+1)).flatMap Zf++tl) rfl;rw [zaQ (Nat.le_of_lt hi)] at h;simpa only [List.append_assoc] using h
theorem zkX (h:bl.length=n)(ht:tl.length=(c-n)*45)(hc:n≤c):(bl.flatMap Zf++tl).length=c*45:=by
 rw [List.length_append,Yp Z2,h,ht,←Nat.add_mul];congr 1;omega
variable{e:Nat}{v:Value}
theorem zwq {L:Go.Kn.Loc}(h:ZU e 45 v n (ws.flatMap Zf) L)(_hl:ws.length=n):(v= .slice none 0 0∧n=0∧L=[])∨∃ b c tl,v= .slice (some ⟨b,0,none⟩) n c∧L=[(b,.cells (ws.flatMap Zf++tl).toArray e (0,0))]∧n≤c∧c≤maxLen∧tl.length=(c-n)*45:=by
 rcases h.2 with h1 | ⟨b,c,cur,h1,h2,h3,h4,h5,h6⟩
 ·
  exact .inl h1
 ·
  refine .inr ⟨b,c,cur.toList.drop (n*45),h1,?_,h3,h4,?_⟩
  ·
   rw [h2,←h6,List.take_append_drop]
  ·
   rw [List.length_drop,Array.length_toList,h5,←Nat.sub_mul]
theorem zxY {b:Nat}(hl:ws.length=n)(hc:n≤c)(hm:c≤maxLen)(ht:tl.length=(c-n)*45):ZU e 45 (.slice (some ⟨b,0,none⟩) n c) n (ws.flatMap Zf) [(b,.cells (ws.flatMap Zf++tl).toArray e (0,0))]:=by
 have hf:(ws.flatMap Zf).length=n*45:=(by rw [Yp Z2,hl]);refine ⟨hf,.inr ⟨b,c,_,rfl,rfl,hc,hm,?_,?_⟩⟩
 ·
  rw [List.size_toArray];exact zkX hl ht hc
 ·
  show (ws.flatMap Zf++tl).take (n*45)=_;rw [←hf,List.take_left'];rfl
variable{zs:List Value}
theorem zru (hn:ws.length=n)(hm:m≤n)(hc:n≤c)(ht:tl.length=(c-n)*45)(hz:zs.length=(n-m)*45)(hk:(VV ws n).length=m):
  ∃ tl',tl'.length=(c-m)*45∧((Wy ws n).flatMap Zf++tl).take (m*45)++(zs++((Wy ws n).flatMap Zf++tl).drop (m*45+(n-m)*45))=(VV ws n).flatMap Zf++tl':=by
 have e0:(VV ws n).flatMap Zf=((Wy ws n).take m).flatMap Zf:=by
  unfold Wy;rw [hk,←hk,List.take_left'];rfl
 have hb:=zo0 (ws:=ws) n;have hfl:((Wy ws n).flatMap Zf).length=n*45:=(by rw [Yp Z2,hb,hn]);refine ⟨zs++tl,by rw [List.length_append,hz,ht,←Nat.add_mul];congr 1;omega,?_⟩
 have e1:((Wy ws n).flatMap Zf++tl).take (m*45)=(VV ws n).flatMap Zf:=by
  unfold Wy;rw [List.flatMap_append,List.append_assoc];have:((VV ws n).flatMap Zf).length=m*45:=by rw [Yp Z2,hk]
  rw [←this,List.take_left'];rfl
 have e2:((Wy ws n).flatMap Zf++tl).drop (m*45+(n-m)*45)=tl:=by
  have:m*45+(n-m)*45=((Wy ws n).flatMap Zf).length:=by rw [hfl,←Nat.add_mul];congr 1;omega
  rw [this,List.drop_left'];rfl
 rw [e1,e2]
theorem zml {M:Nat}(hM:M=n)(hn:ws.length=n)(hc:n≤c)(ht:tl.length=(c-n)*45)(hz:zs.length=(n-(VV ws M).length)*45):
  ∃ tl',tl'.length=(c-(VV ws n).length)*45∧((Wy ws M).flatMap Zf++tl).take (0+(VV ws M).length*45)++(zs++((Wy ws M).flatMap Zf++tl).drop (0+(VV ws M).length*45+(n-(VV ws M).length)*45))=(VV ws n).flatMap Zf++tl':=by
 subst hM;rw [Nat.zero_add];exact zru hn (Xe ws _) hc ht hz rfl
end
end Go.Proofs.YtjblkbkmblkgoaaGreat
namespace Go.Kn
section
open Go
section
variable {C:Cx} {Q:Exit→Act→World→Prop} {E:Env} {I:Qu} {loc:Loc} {ops:Array Oper} {rest:List Oper} {dst:Option Tmp} {ty:TypeId} {pos:String} {af:Array Edge} {gd:Option (Nat×Bool)} {x:Operand}
theorem zq9 {t e n c b off t':Nat}{z:Value}{zc A:List Value}(F:List Value→Loc)(hx:QH [] E x=some (.slice (some ⟨b,off,none⟩) n c))(hT:C.P.underlying t=some (.slice e))(hz:Vv C.P e z)(hzc:z.cells=zc.toArray)(h1:Y4 zc=true)
  (hle:off+n*zc.length≤A.length)(hG:gd=none)(hdst:dst=none)(hu:∀ zs:List Value,Upd loc b (.cells A.toArray t' (0,0)) (.cells (A.take off++(zs++A.drop (off+n*zc.length))).toArray t' (0,0)) (F zs))
  (h:∀ zs:List Value,zs.length=n*zc.length→XO C Q ops rest [] E I (F zs)):
  XO C Q ops (⟨dst,.call ⟨.builtin .clear, #[x], #[t]⟩,ty,pos,af,gd⟩::rest) [] E I loc:=
 Ym hG kE fun a w ha hw=>by
  subst hdst;have hsz:(Builtin.zeroCells z.cells n).toList.length=n*zc.length:=by rw [Array.length_toList,VM,hzc];simp
  have hz1:∀ v∈(Builtin.zeroCells z.cells n).toList,v.oneCell'=true:=by
   intro v hv;rw [Array.mem_toList_iff] at hv;unfold Builtin.zeroCells at hv;rw [hzc] at hv;simp at hv;obtain ⟨q,hq,h2⟩:=hv;have hp:0<zc.length:=Nat.pos_of_ne_zero fun e=>(by rw [e] at hq;simp at hq);rw [List.getElem?_eq_getElem (Nat.mod_lt _ hp)] at h2;exact JE h1 v (by rw [←h2];exact List.getElem_mem _)
  have e:A=A.take off++((A.drop off).take (n*zc.length)++A.drop (off+n*zc.length)):=by
   have:(A.drop off).take (n*zc.length)++A.drop (off+n*zc.length)=A.drop off:=by rw [←List.drop_drop];exact List.take_append_drop _ _
   rw [this,List.take_append_drop]
  have hu2:=hu (Builtin.zeroCells z.cells n).toList;have hu3:Upd loc b (.cells (A.take off++((A.drop off).take (n*zc.length)++A.drop (off+n*zc.length))).toArray t' (0,0)) (.cells (A.take off++((Builtin.zeroCells z.cells n).toList++A.drop (off+n*zc.length))).toArray t' (0,0)) (F (Builtin.zeroCells z.cells n).toList):=(by rw [←e];exact hu2);obtain ⟨w',hr,hs'⟩:=Jq (P:=C.P) (off:=off) (Builtin.zeroCells z.cells n).toList (A.take off) w loc _ b t' ((A.drop off).take (n*zc.length)) 0 kQ (by rw [hsz,List.length_take,List.length_drop];omega) hz1 hw hu3
  have hrun:(Builtin.clear_ #[t] ty #[.slice (some ⟨b,off,none⟩) n c]).run C.P w= .ok (.tuple #[]) w':=by
   have h0:n=0→w'=w:=by
    intro hn;subst hn;have:(Builtin.zeroCells z.cells 0).toList=[]:=List.length_eq_zero_iff.1 (by rw [hsz];omega);rw [this] at hr;simp [storeCells] at hr;exact hr.symm
   cases n with
   | zero=>rw [h0 rfl];simp [Builtin.clear_,run_underlying hT,Result.andThen]
   | succ k=>simp [Builtin.clear_,Sem.run_bind,run_underlying hT,Result.andThen,VP hz,hr]
  simp only [execOp,resolve,List.map_toArray,List.map_cons,List.map_nil,Qj (S:=[]) ha trivial rfl hx,Sem.run_bind,Sem.run_pure,Result.andThen,invoke,builtin,hrun,Oper.uponIn_value];exact h _ hsz _ _ ha trivial hs'
end
end
end Go.Kn
namespace Go.Proofs.YtjblkbkmblkgoaaGreat
section
open Go Go.Kn Go.Proofs
theorem zrE:Fun Tryz.prog 83:=.of Tryz.func83 kA kA
theorem zy4:Tryz.prog.underlying 57=some (.slice 45):=kA
theorem zza {I:Qu}{x y:Nt}(hX:NtM I x)(hY:NtM I y):ZJ Tryz.prog 83 [J0 x,J0 y] I (.bool (Vm x y==0)):=by
 intro g H w hw;refine qe Tryz.func83 Tryz.ntmps83 hw ?_;have hIc:=zB6 I;refine zR<|QK rfl rfl rfl (fun b_2=>QK rfl rfl rfl (fun b_3=>zA (Qb<|QF .here (fun I1 hI1 hb1=>?_))))
 have hX:=hX.mono hI1;have hY:=hY.mono hI1;have hIc:=hIc.trans hI1;have h3:=BxI.of hb1;refine QF .here (fun I2 hI2 hb2=>?_);have hX:=hX.mono hI2;have hY:=hY.mono hI2;have h3:=h3.mono hI2;have hIc:=hIc.trans hI2;have h2:=BxI.of hb2;refine Qd (zR<|zV (Qg rfl Zc (fun hg=>by exact BxI.cells (vs:=Zf x) h2) rfl)<|zV (Qg rfl Zc (fun hg=>by exact BxI.cells (vs:=Zf y) h3) rfl)<|qcV (vs:=[_,_]) rfl ze0 (zgo hX hY)<|zC<|zA (zN (Qs ?_)));exact Qx rfl rfl (fun w hw=>⟨by rfl,(hw.mono hIc).subL Qq⟩)
theorem zzM {I:Qu}{b c n:Nat}{ws:List Nt}{tl:List Value}(hws:ws.length=n)(hM:∀ x∈ws,NtM I x)(hn:n≤100000)(hc:n≤c)(_hcm:c≤maxLen)(htl:tl.length=(c-n)*45):YE Tryz.prog 82 [.slice (some ⟨b,0,none⟩) n c,.func (.func 83) #[] #[]] I [(b,.cells (ws.flatMap Zf++tl).toArray 45 (0,0))] (fun v I' L'=>I'=I∧v= .slice (some ⟨b,0,none⟩) (VV ws n).length c∧∃ tl',tl'.length=(c-(VV ws n).length)*45∧L'=[(b,.cells ((VV ws n).flatMap Zf++tl').toArray 45 (0,0))]):=by
 intro g H w hw;refine qe Tryz.func82 Tryz.ntmps82 hw ?_;refine zR (zA (zN (Qm (zR ?_))));refine zM ?_;refine zQ Zj<|zC (zN ?_)
 refine zI ?_ ?_<;>intro hc10
 ·
  have h10:ws.length<2:=(by have h:=hc10;simp at h;omega);refine zR (zM<|zA (zN (Qs (Qf ?_))));exact Qx rfl rfl (fun w hw=>⟨_,I,_,rfl,zB6 _,hw,rfl,by rw [←hws,zb4 h10],tl,by rw [←hws,zb4 h10,hws];exact htl,by rw [←hws,zb4 h10]⟩)
 have h10:2≤n:=(by have h:=hc10;simp at h;omega);refine Qr (Qd (Qm (zR (zA (zN (Qw<|zU [(0,_),(1,_)] (fun T L0 mz E I' loc'=>∃ (k:Nat),mz=n-k∧E=(5,.int .i64 k)::T∧I=I'∧L0=loc'∧1≤k∧k≤n∧VV ws k=ws.take k) ?_ (h:=⟨1,rfl,rfl,rfl,rfl,Nat.le_refl _,kB,zuZ ws⟩)))))));rintro mz E I' loc' ⟨k,rfl,rfl,rfl,rfl,hk1,hkn,hct⟩;refine Qm (zR (zM<|zM ?_));refine zQ Zj<|zC (zN ?_)
 refine zI ?_ ?_<;>intro hc15
 ·
  have hlt:k<n:=(by have h:=hc15;simp at h;omega);obtain ⟨x,hx⟩:∃ y,ws[k]? =some y:=⟨_,List.getElem?_eq_getElem kB⟩;obtain ⟨y,hy⟩:∃ y,ws[k-1]? =some y:=⟨_,List.getElem?_eq_getElem kB⟩;have hxm:=List.mem_of_getElem? hx;have hym:=List.mem_of_getElem? hy;have ex1:((k:Int)).toNat*45=k*45:=(by rw [Int.toNat_natCast]);have ey1:((k:Int)-1).toNat*45=(k-1)*45:=(by rw [show ((k:Int)-1).toNat=k-1 by omega]);refine Qr (Qd (Qm (Qw (Qm ?_))));have hD:=zB6 I;refine Zn<|QJ I [(b,.cells (ws.flatMap Zf++tl).toArray 45 (0,0))] mixed<|zT 0 rfl (Qe rfl) hD<|zT 1 rfl (Qe rfl) hD<|zT 2 rfl (Qe rfl) hD<|zT 3 rfl (KE rfl rfl Zj (fun hg=>kB)) hD<|zT 4 rfl (Qg rfl Zc (fun hg=>by exact XI hx ex1) rfl) hD<|zT 5 rfl (Qe rfl) hD<|zT 6 rfl (Qe rfl) hD<|zT 7 rfl (Ya rfl rfl rfl (fun hg=>kB)) hD<|zT 8 rfl (KE rfl rfl Zj (fun hg=>kB)) hD<|zT 9 rfl (Qg rfl Zc (fun hg=>by exact XI hy ey1) rfl) hD ?_
  refine qd 10 rfl<|qcV (vs:=[_,_]) rfl zrE (zza (hM x hxm) (hM y hym))<|Qb<|zD hD<|Qn kA<|Qv<|Qd ?_
  refine zI ?_ ?_<;>intro hc28
  ·
   have hkp:kpN ws k x=false:=(by rw [zjH hk1 hy,hc28];rfl);refine zR (zM ?_);refine zM ?_;refine zV (Z9 rfl rfl Zj (fun hg=>kB)) ?_;rw [X2 kB];refine zA (zN (Qm (zR<|zA (zN (Qw<|zeF [(0,_),(1,_),(6,_)] (.cons rfl (.cons rfl (.cons rfl .nil))) (fun T L0 mz E I' loc'=>∃ (j:Nat),mz=n-j∧E=(5,.int .i64 ((VV ws (k+j)).length:Nat))::(7,.int .i64 j)::T∧I=I'∧[(b,.cells ((Wy ws (k+j)).flatMap Zf++tl).toArray 45 (0,0))]=loc'∧1≤j∧k+j≤n∧(VV ws (k+j)).length≤k+j-1) _ _ _ _ ⟨1,rfl,by rw [zdp hx hkp,hct,List.length_take,Nat.min_eq_left kB],rfl,by rw [zsM hx hkp,zqC hct kB],Nat.le_refl _,kB,by rw [zdp hx hkp];have:=Xe ws k;omega⟩ (.cons rfl (.cons rfl (.cons rfl (.cons rfl (.cons rfl .nil))))) (zB6 _) rfl ?_)))));rintro mz E I' loc' ⟨j,rfl,rfl,rfl,rfl,hj1,hjn,hml⟩;have hbl:(Wy ws (k+j)).length=n:=(by rw [zo0];exact hws);refine Qm (zR (zM<|zM ?_));refine zQ Zj<|zC (zN ?_)
   refine zI ?_ ?_<;>intro hc35
   ·
    have hlt2:k+j<n:=(by have h:=hc35;simp at h;omega);obtain ⟨x,hx0⟩:∃ y,ws[k+j]? =some y:=⟨_,List.getElem?_eq_getElem kB⟩;obtain ⟨y,hy0⟩:∃ y,ws[k+j-1]? =some y:=⟨_,List.getElem?_eq_getElem kB⟩;have hxm:=List.mem_of_getElem? hx0;have hym:=List.mem_of_getElem? hy0;have hx2:(Wy ws (k+j))[k+j]? =some x:=(by rw [zlS kB];exact hx0);have hy2:(Wy ws (k+j))[k+j-1]? =some y:=(by rw [zlS kB];exact hy0);have ex2:0+((k:Int)).toNat*45+((j:Int)).toNat*45=(k+j)*45:=(by rw [Int.toNat_natCast,Int.toNat_natCast,Nat.zero_add,←Nat.add_mul]);have ey2:0+((k:Int)).toNat*45+((j:Int)-1).toNat*45=(k+j-1)*45:=(by rw [show ((j:Int)-1).toNat=j-1 by omega,Int.toNat_natCast,Nat.zero_add,←Nat.add_mul];congr 1;omega);refine Qr (Qd (Qm (Qw (Qm ?_))));have hD:=zB6 I;refine Zn<|QJ I [(b,.cells ((Wy ws (k+j)).flatMap Zf++tl).toArray 45 (0,0))] mixed<|zT 0 rfl (Qe rfl) hD<|zT 1 rfl (Qe rfl) hD<|zT 2 rfl (Qe rfl) hD<|zT 3 rfl (Kd rfl rfl Zj (fun hg=>kB)) hD<|zT 4 rfl (Qg rfl Zc (fun hg=>by exact XI hx2 ex2) rfl) hD<|zT 5 rfl (Qe rfl) hD<|zT 6 rfl (Qe rfl) hD<|zT 7 rfl (Ya rfl rfl rfl (fun hg=>kB)) hD<|zT 8 rfl (Kd rfl rfl Zj (fun hg=>kB)) hD<|zT 9 rfl (Qg rfl Zc (fun hg=>by exact XI hy2 ey2) rfl) hD ?_
    refine qd 10 rfl<|qcV (vs:=[_,_]) rfl zrE (zza (hM x hxm) (hM y hym))<|Qb<|zD hD<|zT 11 rfl (ZB rfl) hD<|Qn kA<|Qv<|Qd ?_
    refine zI ?_ ?_<;>intro hc49
    ·
     have hkp2:kpN ws (k+j) x=true:=(by rw [zjH kB hy0];exact hc49);refine zR (zM ?_);refine zM ?_;refine zM ?_;refine zM ?_;refine zV (Kd rfl rfl Zj (fun hg=>kB))<|zV (Qg rfl Zc (fun hg=>by exact XI hx2 ex2) rfl)<|zV (KE rfl rfl Zj (fun hg=>kB))<|Z0 (A:=(Wy ws (k+j)).flatMap Zf++tl) rfl rfl Vk rfl (by rw [zkX hbl htl hc];exact Nat.ble_eq_true_of_le kV) rfl rfl (by exact .here) ?_
     rw [show (((VV ws (k+j)).length:Nat):Int).toNat*45=(VV ws (k+j)).length*45 from by rw [Int.toNat_natCast],zoT (by rw [hbl];omega)];refine zN (Qh (zM ?_));refine zB<|zA (Qb (Qk (Qd (Qh<|zM ?_))))
     refine zB<|zA (Qb ?_)
     first
     | exact Zr _ [(b,.cells (((Wy ws (k+j)).set (VV ws (k+j)).length x).flatMap Zf++tl).toArray 45 (0,0))] ⟨n-(j+1),kB,j+1,rfl,by rw [←Nat.add_assoc,zbG hx0 hkp2,List.length_append,List.length_singleton],rfl,by rw [←Nat.add_assoc,ztu hx0 hkp2],kB,kB,by rw [←Nat.add_assoc,zbG hx0 hkp2,List.length_append,List.length_singleton];omega⟩ (.cons rfl (.cons rfl (.cons rfl (.cons rfl (.cons rfl .nil))))) kD
    have hkp2:kpN ws (k+j) x=false:=(by rw [zjH kB hy0];exact hc49);refine Qr (Qk (Qd (Qh (zM ?_))));refine zB<|zA (Qb ?_)
    first
    | exact Zr _ [(b,.cells ((Wy ws (k+j)).flatMap Zf++tl).toArray 45 (0,0))] ⟨n-(j+1),kB,j+1,rfl,by rw [←Nat.add_assoc,zdp hx0 hkp2],rfl,by rw [←Nat.add_assoc,zsM hx0 hkp2],kB,kB,by rw [←Nat.add_assoc,zdp hx0 hkp2];omega⟩ (.cons rfl (.cons rfl (.cons rfl (.cons rfl (.cons rfl .nil))))) kD
   have hge2:k+j=n:=(by have h:=hc35;simp at h;omega);refine Zk (Qo (Qo (Qz (Qd (zR (zM<|zM ?_))))));refine zV (Z9 rfl rfl Zj (fun hg=>kB)) ?_;rw [X2 kB];refine zq9 (A:=(Wy ws (k+j)).flatMap Zf++tl) (fun zs=>[(b,.cells (((Wy ws (k+j)).flatMap Zf++tl).take (0+(VV ws (k+j)).length*45)++(zs++((Wy ws (k+j)).flatMap Zf++tl).drop (0+(VV ws (k+j)).length*45+(n-(VV ws (k+j)).length)*45))).toArray 45 (0,0))]) rfl zy4 U2 rfl rfl (by rw [zkX hbl htl hc];simp;omega) rfl rfl (fun zs=>by simpa using Upd.here) (fun zc hzc=>Qb ?_);obtain ⟨tl2,ht2,e2⟩:=zml hge2 hws hc htl (by simpa using hzc);rw [e2];refine Qd (zR (zM<|zM ?_));refine zV (Yw rfl rfl Zj (fun hg=>kB))<|zA (zN (Qs (Qi (Qf (Qf (Qi (Qf ?_)))))))
   exact Qx rfl rfl (fun w hw=>⟨_,I,_,rfl,zB6 _,hw,rfl,by rw [Int.toNat_natCast,hge2],tl2,ht2,rfl⟩)
  refine Qr (Qk (Qd (Qh (zM ?_))));refine zB<|zA (Qb ?_)
  exact zm (h:=⟨n-(k+1),kB,k+1,rfl,rfl,rfl,rfl,kB,kB,ze3 hct hx (by rw [zjH hk1 hy,hc28];rfl)⟩)
 have hge:n≤k:=(by have h:=hc15;simp at h;omega);obtain rfl:k=n:=kB;rw [List.take_of_length_le kB] at hct;refine Zk (Qo (Qo (Qz (Qd (zR (zM<|zA (zN (Qs ?_))))))));exact Qx rfl rfl (fun w hw=>⟨_,I,_,rfl,zB6 _,hw,rfl,by rw [hct,hws],tl,by rw [hct,hws];exact htl,by rw [hct]⟩)
end
end Go.Proofs.YtjblkbkmblkgoaaGreat
namespace Go.Kn
section
open Go Go.Sort Go.Shelf Go.Lib Go.Proofs
theorem zlu {α:Type}[Inhabited α]{P:Program}{f g0:FuncId}{e:TypeId}{k:Nat}{enc:α→List Value}{cf:α→α→Int}(hk:∀ x,(enc x).length=k)(hpos:0<k)
  (hs:∀ (blk off cap:Nat) (d:Array α) (w:World),CmpLays P g0 #[] enc k cf blk off d.size w→HoldsK enc k w blk off d→blk<w.heap.size→d.size<4611686018427387904→
   Calls P f #[.slice (some ⟨blk,off,none⟩) d.size cap,.func (.func g0) #[] #[]] w fun e w'=>e= .returned (.tuple #[])∧∃ d' n os,PermIn 0 d.size d d'∧SortedIn (ltOf cf) 0 d.size d'∧w'=sortWorldK enc k w blk off n d' os)
  (h0:∀ (p:Option Addr) (cap:Nat) (fv:Value) (w:World),Calls P f #[.slice p 0 cap,fv] w fun e w'=>e= .returned (.tuple #[])∧w'=w)
  (I:Qu)(hcmp:∀ I',HLe I I'→∀ (x y:α),ZJ P g0 [.agg (enc x).toArray,.agg (enc y).toArray] I' (.int .i64 (cf x y)))
  (zs:List α){v:Value}{n:Nat}{L:Loc}(hO:ZU e k v n (zs.flatMap enc) L)(hn:n≤1000000):
  YE P f [v,.func (.func g0) #[] #[]] I L (fun u I' L'=>u= .tuple #[]∧I'=I∧∃ zs':List α,zs'.Perm zs∧zs'.Pairwise (fun x y=>ltOf cf y x=false)∧ZU e k v n (zs'.flatMap enc) L'):=by
 intro g H w hw
 have hl:zs.length=n:=by
  have:=hO.1;rw [Yp hk] at this;exact Nat.eq_of_mul_eq_mul_right hpos this
 subst hl;rcases hO.2 with ⟨rfl,h00,rfl⟩ | ⟨b,c,cur,rfl,rfl,hc,hc2,hsz,htk⟩
 ·
  have:zs=[]:=List.length_eq_zero_iff.1 h00;subst this;refine (h0 none 0 _ w).mono ?_;rintro e w' ⟨rfl,rfl⟩;exact ⟨_,I,[],rfl,zB6 _,hw,rfl,rfl,[],.nil,.nil,by simp,.inl ⟨rfl,rfl,rfl⟩⟩
 ·
  have hb:=hw.own b _ (List.mem_singleton.2 rfl);have hbs:b<w.heap.size:=(Array.getElem?_eq_some_iff.1 hb).1;have hfl:(zs.flatMap enc).length=zs.length*k:=Yp hk zs
  have hH:HoldsK enc k w b 0 zs.toArray:=by
   unfold HoldsK;rw [zmH hk hpos];exact zfL (enc:=id) hw (List.mem_singleton.2 rfl) (zs.flatMap enc) (by rw [hfl,htk];simp)
  have hC:CmpLays P g0 #[] enc k cf b 0 zs.toArray.size w:=by
   intro m os dk _ x y
   have hsw:∃ L',St g I H L' (sortWorldK enc k w b 0 m dk os):=by
    unfold sortWorldK putRowK;exact ⟨_,((hw.aheadN m).rowPut (enc:=id) _ .here).grown os⟩
   obtain ⟨L',hsw⟩:=hsw
   have h1:=hcmp (fun q=>(sortWorldK enc k w b 0 m dk os).heap[q]?) (fun b o h=>hsw.imm b o h) x y (sortWorldK enc k w b 0 m dk os) (fun _=>none) (sortWorldK enc k w b 0 m dk os)
    ⟨rfl,rfl,rfl,⟨Nat.le_refl _,Nat.le_refl _⟩,fun _ _ h=>h,(fun _ _ h=>by cases h),(fun _ _ h=>by cases h),fun _=>.inr rfl,(fun _ _ h=>by cases h),by simp⟩
   refine Calls.mono h1 ?_;rintro e w' ⟨rfl,hs⟩;exact ⟨rfl,zqB hs⟩
  have hcall:=hs b 0 c zs.toArray w hC hH hbs kV;rw [List.size_toArray] at hcall;refine hcall.mono ?_;rintro e w' ⟨rfl,d',m,os,hp,hsd,rfl⟩;have hps:d'.size=zs.length:=by simpa using hp.1
  have hperm:d'.toList.Perm zs:=by
   have:=hp.2.2;simpa [Array.extract_eq_self_of_le,hps] using this
  have hdl:d'=d'.toList.toArray:=(by simp);have hfd:(d'.toList.flatMap enc).length=zs.length*k:=(by rw [Yp hk,Array.length_toList,hps]);refine ⟨_,I,[(b,.cells (putCells id 0 (d'.toList.flatMap enc).toArray cur) e (0,0))],rfl,zB6 _,?_,rfl,rfl,d'.toList,hperm,?_,?_⟩
  ·
   unfold sortWorldK putRowK;rw [hdl,zmH hk hpos];simp only;exact (((hw.aheadN m).rowPut (enc:=id) _ .here).grown os)
  ·
   rw [List.pairwise_iff_getElem];intro i j hi hj hij;have:=hsd i j (Nat.zero_le _) hij (by rw [←hps];simpa using hj);rw [getElem!_pos d' i (by simpa using hi),getElem!_pos d' j (by simpa using hj)] at this;simpa using this
  ·
   refine ⟨by rw [hfd],.inr ⟨b,c,_,rfl,rfl,hc,hc2,by simp [putCells,hsz],?_⟩⟩;have:=ziR (enc:=id) (cs:=cur) (n:=zs.length*k) (d'.toList.flatMap enc) hfd (by rw [hsz];exact Nat.mul_le_mul_right k hc);simpa using this
end
end Go.Kn
namespace Go.Proofs.YtjblkbkmblkgoaaGreat
section
open Go Go.Kn Go.Proofs
variable{x y:Nt}
/-! ### The order -/
theorem zmJ {z:Nt}(h:Vm x y=0):Vm x z=Vm y z:=by
 have e:(za7 x).data.toList=(za7 y).data.toList:=zva h;unfold Vm zzT;rw [e]
theorem zbu:NtW zcy:=⟨fun y hy=>by
  have:y=0:=by
   simp only [Y9,zcy,VU,JD,L.zeroL,S.zeroR,Kb,List.mem_cons,List.not_mem_nil,or_false,or_self] at hy;exact hy
  subst this;decide,fun y hy=>by cases hy⟩
theorem zkN (hw:NtW x)(s1:x.pt.needs.length≤32)(s2:x.rt.name.size≤32)(s3:x.rt.town.size≤32):Va.ok (KQ x)∧(V1 x).length≤2000:=by
 have hok:∀ v∈(Y9 x).map Va.int,Va.ok v:=fun v hv=>by
  obtain ⟨y,hy,rfl⟩:=List.mem_map.1 hv;exact hw.ints y hy
 have hon:∀ v∈x.pt.needs.map Va.int,Va.ok v:=fun v hv=>by
  obtain ⟨y,hy,rfl⟩:=List.mem_map.1 hv;exact hw.needs y hy
 have hb:(Va.encL ((Y9 x).map Va.int)).length≤462:=by
  have:=Ux (b:=11) (l:=(Y9 x).map Va.int) fun v hv=>by
   obtain ⟨y,hy,rfl⟩:=List.mem_map.1 hv;exact UF (hw.ints y hy)
  rw [List.length_map,Y8] at this;omega
 have hn:(Va.encL (x.pt.needs.map Va.int)).length≤352:=by
  have:=Ux (b:=11) (l:=x.pt.needs.map Va.int) fun v hv=>by
   obtain ⟨y,hy,rfl⟩:=List.mem_map.1 hv;exact UF (hw.needs y hy)
  rw [List.length_map] at this;have h2:=Nat.mul_le_mul_right 11 s1;omega
 constructor
 ·
  refine ⟨by simp [Y8],zeX fun v hv=>?_⟩;rw [List.mem_append] at hv;rcases hv with hv | hv
  ·
   exact hok v hv
  ·
   simp only [List.mem_cons,List.not_mem_nil,or_false] at hv;rcases hv with rfl | rfl | rfl
   ·
    exact ⟨by rw [List.length_map];omega,zeX hon⟩
   ·
    exact ⟨zd8 _,by rw [JM];omega⟩
   ·
    exact ⟨zd8 _,by rw [JM];omega⟩
 ·
  have e1:=K5 (s:=Ur x.rt.name) (by rw [JM];exact s2);have e2:=K5 (s:=Ur x.rt.town) (by rw [JM];exact s3)
  have e3:(Va.enc (.list (x.pt.needs.map Va.int))).length≤354:=by
   rw [Va.enc,List.length_map,VC kB];simp only [List.length_cons,List.length_append,List.length_nil];omega
  unfold V1 KQ;rw [Va.enc,VC (by simp [Y8])];simp only [List.length_cons,List.length_append,List.length_nil,Va.encL_append,Va.encL];omega
theorem zqe (I:Qu):NtM I zcy:=by
 obtain ⟨h1,h2⟩:=zkN zbu kC kC kC;exact ⟨Sl.nil,by decide,h1,kB⟩
def NtP (I:Qu):={x:Nt // NtM I x}
instance (I : Qu) : Inhabited (NtP I) := ⟨⟨zcy, zqe I⟩⟩
def zu3 {I:Qu}(x:NtP I):List Value:=Zf x.1
def zjE {I:Qu}(x y:NtP I):Int:=Vm x.1 y.1
theorem zBA (I:Qu):Go.Sort.SWO (Go.Proofs.ltOf (zjE (I:=I))):=by
 have key:∀ a b c:Nt,¬Vm a b<0→¬Vm b c<0→¬Vm a c<0:=fun a b c h1 h2 h3=>by
  by_cases e:Vm b a=0
  ·
   rw [zmJ e] at h2;exact h2 h3
  ·
   have hf:Vm a b= - Vm b a:=(by rw [XK]);have h4:Vm b a<0:=kB;exact h2 (JF h4 h3)
 refine ⟨fun x=>?_,fun x y z h1 h2=>?_,fun x y z h1 h2=>?_⟩
 ·
  unfold Go.Proofs.ltOf zjE;rw [Ws];rfl
 ·
  unfold Go.Proofs.ltOf zjE at*;exact decide_eq_true (JF (of_decide_eq_true h1) (of_decide_eq_true h2))
 ·
  unfold Go.Proofs.ltOf zjE at*;exact decide_eq_false (key _ _ _ (of_decide_eq_false h1) (of_decide_eq_false h2))
def NtP.v {I:Qu}(x:NtP I):Nt:=x.1
variable{I:Qu}
theorem zsl :∀ (xs:List Nt),(∀ x∈xs,NtM I x)→∃ zs:List (NtP I),zs.map NtP.v=xs
 | [],_=>⟨[],rfl⟩
 | x::l,h=>by
  obtain ⟨zs,hz⟩:=zsl l fun y hy=>h y (List.mem_cons_of_mem _ hy);exact ⟨(show NtP I from ⟨x,h x (List.mem_cons_self ..)⟩)::zs,congrArg (x:: ·) hz⟩
variable{ws:List Nt}
/-! ### Struck -/
theorem zey :∀ m,∀ x∈VV ws m,x∈ws
 | 0,x,h=>by cases h
 | m+1,x,h=>by
  unfold VV at h;split at h
  ·
   exact zey m x h
  ·
   rename_i y hy;split at h
   ·
    rcases List.mem_append.1 h with h | h
    ·
     exact zey m x h
    ·
     rw [List.mem_singleton] at h;subst h;exact List.mem_of_getElem? hy
   ·
    exact zey m x h
theorem zjr (hs:ws.Pairwise fun x y=>¬Vm y x<0):∀ m,m≤ws.length→zkn (VV ws m)∧(∀ y,1≤m→ws[m-1]? =some y→∃ z,(VV ws m).getLast?=some z∧Vm z y=0)∧∀ (i:Nat) (x:Nt),i<m→ws[i]? =some x→∃ z∈VV ws m,Vm z x=0
 | 0,_=>⟨fun k l x y _ hx=>by simp [VV] at hx,fun y h=>kB,fun i x h=>kB⟩
 | m+1,hm=>by
  obtain ⟨h1,h2,h3⟩:=zjr hs m kB;obtain ⟨x,hx⟩:∃ x,ws[m]? =some x:=⟨_,List.getElem?_eq_getElem kB⟩
  cases hk:kpN ws m x with
  | true=>
   rw [zbG hx hk];refine ⟨?_,fun y _ hy=>⟨x,by simp,?_⟩,fun i u hi hu=>?_⟩
   ·
    -- all before are less
    have hlt:∀ z∈VV ws m,Vm z x<0:=by
     intro z hz;rcases Nat.eq_zero_or_pos m with hm0 | hm0
     ·
      subst hm0;cases hz
     ·
      obtain ⟨y,hy⟩:∃ y,ws[m-1]? =some y:=⟨_,List.getElem?_eq_getElem kB⟩;rw [zjH hm0 hy] at hk;have hne:Vm x y≠0:=by simpa using hk
      have hnl:¬Vm x y<0:=by
       obtain ⟨ha,ea⟩:=List.getElem?_eq_some_iff.1 hy;obtain ⟨hb,eb⟩:=List.getElem?_eq_some_iff.1 hx;have:=List.pairwise_iff_getElem.1 hs (m-1) m ha hb kB;rw [ea,eb] at this;exact this
      have hyx:Vm y x<0:=(by rw [XK];omega);obtain ⟨l,hl,hly⟩:=h2 y hm0 hy;have hlx:Vm l x<0:=(by rw [zmJ hly];exact hyx);obtain ⟨i,hi⟩:=List.mem_iff_getElem?.1 hz;have hil:=(List.getElem?_eq_some_iff.1 hi).1;rw [List.getLast?_eq_getElem?] at hl;rcases Nat.lt_or_ge i ((VV ws m).length-1) with h4 | h4
      ·
       exact JF (h1 i _ z l h4 hi hl) hlx
      ·
       have:i=(VV ws m).length-1:=kB;rw [this,hl] at hi;cases hi;exact hlx
    intro k l u v hkl hu hv;rcases Nat.lt_or_ge l (VV ws m).length with h4 | h4
    ·
     rw [List.getElem?_append_left h4] at hv;rw [List.getElem?_append_left kB] at hu;exact h1 k l u v hkl hu hv
    ·
     rw [List.getElem?_append_right h4] at hv
     have hvl:v=x:=by
      have:=(List.getElem?_eq_some_iff.1 hv).1;simp only [List.length_singleton] at this;have e:l-(VV ws m).length=0:=kB;rw [e] at hv;cases hv;rfl
     subst hvl
     rw [List.getElem?_append_left (by
      have:=(List.getElem?_eq_some_iff.1 hv).1;simp only [List.length_singleton] at this
      omega)] at hu
     exact hlt u (List.mem_of_getElem? hu)
   ·
    rw [Nat.add_sub_cancel,hx] at hy;cases hy;exact Ws _
   ·
    rcases Nat.lt_or_ge i m with h4 | h4
    ·
     obtain ⟨z,hz,e⟩:=h3 i u h4 hu;exact ⟨z,List.mem_append_left _ hz,e⟩
    ·
     have:i=m:=kB;subst this;rw [hx] at hu;cases hu;exact ⟨_,List.mem_append_right _ (List.mem_singleton.2 rfl),Ws _⟩
  | false=>
   rw [zdp hx hk]
   have hm0:1≤m:=by
    rcases Nat.eq_zero_or_pos m with h | h
    ·
     subst h;simp [kpN] at hk
    ·
     exact h
   obtain ⟨y,hy⟩:∃ y,ws[m-1]? =some y:=⟨_,List.getElem?_eq_getElem kB⟩;rw [zjH hm0 hy] at hk;have he:Vm x y=0:=(by simpa using hk);have he2:Vm y x=0:=(by rw [XK,he];rfl);obtain ⟨l,hl,hly⟩:=h2 y hm0 hy;have hlx:Vm l x=0:=(by rw [zmJ hly];exact he2);refine ⟨h1,fun u _ hu=>⟨l,hl,?_⟩,fun i u hi hu=>?_⟩
   ·
    rw [Nat.add_sub_cancel,hx] at hu;cases hu;exact hlx
   ·
    rcases Nat.lt_or_ge i m with h4 | h4
    ·
     exact h3 i u h4 hu
    ·
     have:i=m:=kB;subst this;rw [hx] at hu;cases hu;exact ⟨l,List.mem_of_getLast? hl,hlx⟩
/-! ### Loaded -/
structure LdK (I:Qu)(rs:List Hy)(xs:List Nt):Prop where
 len:xs.length=rs.length
 ok:∀ (i:Nat) (r:Hy) (x:Nt),rs[i]? =some r→xs[i]? =some x→okN r.bytes=some (YF x)∧NtM I x∧QN x=true
variable{rs:List Hy}{xs:List Nt}
theorem LdK.mono {I':Qu}(h:LdK I rs xs)(hI:HLe I I'):LdK I' rs xs:=⟨h.len,fun i r x hr hx=>let ⟨h1,h2,h3⟩:=h.ok i r x hr hx;⟨h1,h2.mono hI,h3⟩⟩
theorem LdK.nil :LdK I [] []:=⟨rfl,fun i r x hr=>by simp at hr⟩
variable{r:Hy}
theorem LdK.snoc (h:LdK I rs xs)(h1:okN r.bytes=some (YF x))(h2:NtM I x)(h3:QN x=true):LdK I (rs++[r]) (xs++[x]):=by
 have hl:=h.len;refine ⟨by simp [hl],fun i r' x' hr hx=>?_⟩;rcases Nat.lt_or_ge i rs.length with h4 | h4
 ·
  rw [List.getElem?_append_left h4] at hr;rw [List.getElem?_append_left kB] at hx;exact h.ok i r' x' hr hx
 ·
  rw [List.getElem?_append_right h4] at hr;rw [List.getElem?_append_right kB] at hx
  have e:i-rs.length=0:=by
   have:=(List.getElem?_eq_some_iff.1 hr).1;simp only [List.length_singleton] at this;omega
  rw [hl,e] at hx;rw [e] at hr;cases hr;cases hx;exact ⟨h1,h2,h3⟩
theorem LdK.all (h:LdK I rs xs):∀ x∈xs,NtM I x∧QN x=true∧∃ r∈rs,okN r.bytes=some (YF x):=fun x hx=>by
 obtain ⟨i,hi⟩:=List.mem_iff_getElem?.1 hx;obtain ⟨r,hr⟩:∃ r,rs[i]? =some r:=⟨_,List.getElem?_eq_getElem (by rw [←h.len];exact (List.getElem?_eq_some_iff.1 hi).1)⟩;obtain ⟨h1,h2,h3⟩:=h.ok i r x hr hi;exact ⟨h2,h3,r,List.mem_of_getElem? hr,h1⟩
structure LdZ (I:Qu)(rs:List Hy)(a:Option Addr)(m c:Nat)(zs:List Nt):Prop where
 nt:WB I a m c zs
 srt:zkn zs
 len:zs.length≤rs.length
 mem:∀ r∈rs,∃ x∈zs,okN r.bytes=some (YF x)
 frm:∀ x∈zs,QN x=true∧∃ r∈rs,okN r.bytes=some (YF x)
def LdQ (rs:List Hy)(v:Value)(I':Qu)(L':Go.Kn.Loc):Prop:=L'=[]∧
  ((4096<rs.length∧v= .tuple #[.agg #[.slice none 0 0],.int .i64 2])∨
   (rs.length≤4096∧(∃ r∈rs,okN r.bytes=none)∧v= .tuple #[.agg #[.slice none 0 0],.int .i64 570])∨
   (rs.length≤4096∧∃ a m c zs,v= .tuple #[.agg #[.slice a m c],.int .i64 0]∧LdZ I' rs a m c zs))
variable{ys:List Nt}{a:Option Addr}{c:Nat}
theorem zyh {m:Nat}(h:LdK I rs xs)(hp:ys.Perm xs)(hs:ys.Pairwise fun x y=>¬Vm y x<0)(hS:Sl I 45 Zf a m c (VV ys ys.length)):LdZ I rs a m c (VV ys ys.length):=by
 obtain ⟨h1,_,h3⟩:=zjr hs ys.length (Nat.le_refl _);have hall:=h.all;have hsub:∀ x∈VV ys ys.length,x∈xs:=fun x hx=>hp.mem_iff.1 (zey _ x hx);refine ⟨⟨hS,fun x hx=>(hall x (hsub x hx)).1.nd,fun x hx _=>(hall x (hsub x hx)).1⟩,h1,?_,fun r hr=>?_,fun x hx=>⟨(hall x (hsub x hx)).2.1,(hall x (hsub x hx)).2.2⟩⟩
 ·
  have:=Xe ys ys.length;have h5:=hp.length_eq;have h6:=h.len;omega
 ·
  obtain ⟨i,hi⟩:=List.mem_iff_getElem?.1 hr;obtain ⟨x,hx⟩:∃ x,xs[i]? =some x:=⟨_,List.getElem?_eq_getElem (by rw [h.len];exact (List.getElem?_eq_some_iff.1 hi).1)⟩;obtain ⟨e1,e2,_⟩:=h.ok i r x hi hx;obtain ⟨j,hj⟩:=List.mem_iff_getElem?.1 (hp.mem_iff.2 (List.mem_of_getElem? hx));obtain ⟨z,hz,ez⟩:=h3 j x (List.getElem?_eq_some_iff.1 hj).1 hj;refine ⟨z,hz,?_⟩;rw [e1,zk0 (hall z (hsub z hz)).1.ok e2.ok ez]
theorem zuR (I:Qu):ZJ Tryz.prog 82 [.slice none 0 0,.func (.func 83) #[] #[]] I (.slice none 0 0):=by
 intro g H w hw;refine qe Tryz.func82 Tryz.ntmps82 hw ?_;refine zR (zA (zN (Qm (zR ?_))));refine zM ?_;refine zQ Zj<|zC (zN ?_)
 refine zI ?_ ?_<;>intro hc10
 ·
  refine zR (zM<|zA (zN (Qs (Qf ?_))));exact Qx rfl rfl (fun w hw=>⟨by rfl,hw⟩)
 cases hc10
variable{v:Value}{n:Nat}
theorem zzH {L:Go.Kn.Loc}(hO:ZU 45 45 v n (ws.flatMap Zf) L)(hl:ws.length=n)(hM:∀ x∈ws,NtM I x)(hn:n≤100000):YE Tryz.prog 82 [v,.func (.func 83) #[] #[]] I L (fun u I' L'=>I'=I∧ZU 45 45 u (VV ws n).length ((VV ws n).flatMap Zf) L'):=by
 rcases zwq hO hl with ⟨rfl,rfl,rfl⟩ | ⟨b,c,tl,rfl,rfl,hc,hcm,htl⟩
 ·
  have:ws=[]:=List.eq_nil_of_length_eq_zero hl;subst this;intro g H w hw;exact (zuR I g H w hw).mono fun e w' ⟨h1,h2⟩=>⟨_,I,[],h1,zB6 _,h2,rfl,ZU.nil⟩
 intro g H w hw;refine (zzM hl hM hn hc hcm htl g H w hw).mono ?_;rintro e w' ⟨u,I',L',h1,h2,h3,rfl,rfl,tl',h5,rfl⟩;exact ⟨_,_,_,h1,h2,h3,rfl,zxY rfl (Nat.le_trans (Xe ws n) hc) hcm h5⟩
theorem ztO (hX:∀ x∈xs,NtM I x){L:Go.Kn.Loc}(hO:ZU 45 45 v n (xs.flatMap Zf) L)(hn:n≤1000000):
  YE Tryz.prog 80 [v,.func (.func 81) #[] #[]] I L (fun u I' L'=>u= .tuple #[]∧I'=I∧∃ ys:List Nt,ys.Perm xs∧ys.Pairwise (fun x y=>¬Vm y x<0)∧ZU 45 45 v n (ys.flatMap Zf) L'):=by
 obtain ⟨zs,hz⟩:=zsl xs hX;subst hz;have e0:∀ l:List (NtP I),l.flatMap zu3=(l.map NtP.v).flatMap Zf:=fun l=>(by rw [List.flatMap_map];rfl);rw [←e0] at hO;intro g H w hw;refine (zlu (α:=NtP I) (enc:=zu3) (cf:=zjE) (fun x=>Z2 x.1) kC (fun blk off cap d w hC hH hb hs=>Tryz.slices_SortFunc (α:=NtP I) 45 (fun w=>Vn Zc) (fun w=>by obtain ⟨i,hi,hz⟩:=Vk;rw [←hz];exact Go.Kn.run_sizeOf hi) zu3 (fun x=>Z2 x.1) (fun x=>JE kW) zjE (zBA I) 81 #[] blk off cap d w (fun args w=>JT ze0 args w) hC hH hb hs) (Tryz.slices_SortFunc_none (α:=NtP I)) I (fun I' hI x y=>zgo (x.2.mono hI) (y.2.mono hI)) zs hO hn g H w hw).mono ?_;rintro e w' ⟨u,I',L',h1,h2,h3,rfl,rfl,zs',hp,hpw,hO'⟩;rw [e0] at hO';refine ⟨_,_,_,h1,h2,h3,rfl,rfl,zs'.map NtP.v,hp.map _,?_,hO'⟩;rw [List.pairwise_map];exact hpw.imp fun {a b} h=>of_decide_eq_false h
theorem zwy:Fun Tryz.prog 80:=.of Tryz.func80 kA kA
theorem zyc:Fun Tryz.prog 82:=.of Tryz.func82 kA kA
theorem ziS:SlT Tryz.prog 60 80 1:=.of kA
variable{av:Option Addr}
theorem zsc (hR:zuh I av n c rs)(hn:n≤100000)(hb:∀ r∈rs,r.n≤100000):YE Tryz.prog 24 [.slice av n c] I [] (LdQ rs):=by
 intro g H w hw;refine qe Tryz.func24 Tryz.ntmps24 hw ?_;have hIc:=zB6 I;have hln:=hR.sl.len;refine zR<|Qp zqt rfl rfl (fun b_2=>?_)
 refine zA (zN (Qm (zR ?_)));refine zM ?_;refine zQ ziS<|zC (zN ?_)
 refine zI ?_ ?_<;>intro hc11
 ·
  have h11:4096<n:=(by have h:=hc11;simp at h;omega);refine zR<|zV (Qg rfl Up (fun hg=>by exact Cells.g0) rfl) ?_
  refine zh zb2 ?_;refine zA (zN (Qs (Qf ?_)));exact Q2 rfl rfl rfl Up (by exact zB4) rfl (fun w hw=>⟨_,I,[],rfl,hIc,hw.subL Qq,rfl,.inl ⟨kB,rfl⟩⟩)
 have h11:n≤4096:=(by have h:=hc11;simp at h;omega);refine Qr (Qd (zR (zA (zN (Qm (zR ?_))))));refine zM ?_;refine zQ ziS ?_;refine zM (zN (Qw ?_));refine zU [(2,_),(13,_),(14,_)] (fun T L0 mz E I' loc'=>∃ (k:Nat) (v:Value) (Lw:Go.Kn.Loc) (xs:List Nt),mz=n-k∧E=(4,v)::(15,.int .i64 k)::T∧HLe I I'∧Lw++[(b_2,.cells #[.slice none 0 0] 59 (0,0))]=loc'∧k≤n∧ZU 45 45 v k (xs.flatMap Zf) Lw∧LdK I' (rs.take k) xs) ?_ (h:=⟨0,_,[],[],rfl,rfl,zB6 _,rfl,Nat.zero_le _,ZU.nil,LdK.nil⟩);rintro mz E J1 loc' ⟨k,v,Lw,xs,rfl,rfl,hJ,rfl,hk,hO,hLK⟩;have hR:=hR.mono hJ;have hIc:=hIc.trans hJ;have hB0:=hJ;refine zR (zC (zN (Qm ?_)));refine zI ?_ ?_<;>intro hc16
 ·
  have hlt_k:k<n:=(by have h:=hc16;simp at h;omega);obtain ⟨r,hr⟩:∃ y,rs[k]? =some y:=⟨_,List.getElem?_eq_getElem kB⟩;have hrm:=List.mem_of_getElem? hr;have hy:=hR.m r hrm;refine Qr (Qd (Qm (Qw (zR<|zV (QG rfl rfl ziS hR.sl (fun hg=>kB))<|zV (Qc rfl V5 (fun hg=>by exact zBZ hR.sl hr rfl))<|zA<|zN (zR ?_)))));refine zM<|zpc [_] rfl zk3 .nil (znL hy.sl hy.byte (hb r hrm)) ?_
  rintro vv2 I2 L2 hI2 ⟨rfl,cs,bb,rfl,hrd⟩;have hLK:=hLK.mono hI2;have hIc:=hIc.trans hI2;have hB0:=hB0.trans hI2;refine zM ?_;refine zE<|zE<|Qp U2 rfl rfl (fun b_7=>V6 (old:=Zf zcy) rfl rfl Vk hrd.1.1 rfl hrd.1.2 rfl (by repeat (first | exact Upd.here | apply Upd.there | apply ZD)) ?_)
  refine zA (zN (Qm (zR ?_)));refine zM<|zO (zN ?_)
  refine zI ?_ ?_<;>intro hc25
  ·
   have hno:okN r.bytes=none:=(by have h:=zdd hrd;have h2:bb=false:=(by simpa using hc25);rw [h2] at h;simpa using h);refine zR<|zV (Qg rfl Up (fun hg=>by (repeat (first | exact zB4 | apply zB3 | apply zB5))) rfl) ?_
   refine zh zb2 ?_;exact zA (zN (Qs (Qf (Qi (Qf (Qf (Qi<|Qf<|Q2 rfl rfl rfl Up (by (repeat (first | exact zB4 | apply zB3 | apply zB5))) rfl (fun w hw=>⟨_,I2,[],rfl,hIc,hw.subL Qq,rfl,.inr (.inl ⟨kB,⟨r,hrm,hno⟩,rfl⟩)⟩))))))))
  obtain ⟨t9,_,rfl,hNd9,hok9⟩:=zez hrd (by rw [zdd hrd];simpa using hc25);have hbl9:r.bytes.length≤100000:=(by have h:=hy.sl.len;have h2:=hb r hrm;omega);have hTM:=zdZ hy.byte hbl9 hok9 hNd9;have hTf:=zfh hy.byte hbl9 hok9 hNd9;refine Qr (Qd (Qh (zM<|zV (Qg rfl Zc (fun hg=>by exact Cells.g0) rfl)<|zpb [(0,_)] [Zf t9] Vx (fun b_29=>?_))));refine zpa (_) ([t9].flatMap Zf) (Lw) rfl rfl Vx hO ⟨rfl,fun _=>rfl,by repeat (first | exact zB4 | apply zB3 | apply zB5)⟩ (zan [t9]) ?_;intro v9 L9 hO9 _;rw [←List.flatMap_append] at hO9;refine zA (Qb (Qk (Qd (Qh<|zB<|zM (Qb ?_)))));exact zm (h:=⟨n-(k+1),kB,k+1,_,_,_,rfl,rfl,hB0,rfl,kB,hO9,by rw [Zs hr];exact hLK.snoc hok9 hTM hTf⟩)
 have hge_k:n≤k:=(by have h:=hc16;simp at h;omega);obtain rfl:k=n:=kB;rw [ZR hln (Nat.le_refl _)] at hLK;refine Zk (Qo (Qo (Qz (Qd (zR (zM<|zpc [_,_] rfl zwy Zi (ztO (fun x hx=>(hLK.all x hx).1) hO kB) ?_))))));rintro vv3 I3 L3 hI3 ⟨rfl,rfl,ys,hperm,hpw,hO2⟩;have hLK:=hLK.mono hI3;have hIc:=hIc.trans hI3;refine zN (zR ?_);refine zM<|zpc [_,_] rfl zyc Zi (zzH hO2 (by rw [hperm.length_eq,hLK.len];exact hln) (fun x hx=>(hLK.all x (hperm.mem_iff.1 hx)).1) kB) ?_
 rintro vv4 I4 L4 hI4 ⟨rfl,hO3⟩;have hLK:=hLK.mono hI4;have hIc:=hIc.trans hI4;refine zF ZK ?_;refine zx8 zh5 hO3.one ?_;refine zN (Qm<|zx4 hO3 Z2 (fun I5 hI5 af5 cf5 ef5 hZ=>?_));subst ef5;have hLK:=hLK.mono hI5;have hIc:=hIc.trans hI5;refine Qh<|zV (Qg rfl Up (fun hg=>by exact Cells.g0) rfl) ?_
 refine zh zb2 ?_;refine zA (zN (Qs ?_));exact Q2 rfl rfl rfl Up (by exact zB4) rfl (fun w hw=>⟨_,I5,[],rfl,hIc,hw.subL Qq,rfl,.inr (.inr ⟨kB,_,_,_,_,rfl,zyh hLK hperm hpw (by rw [hperm.length_eq,hLK.len,hln];exact hZ)⟩)⟩)
def smC (p q:Pt):Bool:=(((((p.id != q.id||p.kind != q.kind)||p.sign != q.sign)||p.field != q.field)|| !zkl p.nw q.nw)||(p.n:Int) != (q.n:Int))
def smP (p q:Pt):Bool:= !smC p q&&decide (p.needs=q.needs)
variable{p q:Pt}
theorem zzF (h:smC p q=true):smP p q=false:=by simp [smP,h]
theorem zpC (h:smC p q=false):smP p q=decide (p.needs=q.needs):=by simp [smP,h]
theorem zzq (h:smC p q=false):p.n=q.n:=by
 unfold smC at h;rw [Bool.or_eq_false_iff] at h;have:=h.2;simp only [bne_eq_false_iff_eq] at this;omega
variable{k:Nat}
theorem zaH {xs ys:List Int}{x y:Int}(h:xs.take k=ys.take k)(hx:xs[k]? =some x)(hy:ys[k]? =some y)(e:x=y):xs.take (k+1)=ys.take (k+1):=by rw [Zs hx,Zs hy,h,e]
theorem zxD {xs ys:List Int}{x y:Int}(hx:xs[k]? =some x)(hy:ys[k]? =some y)(e:x≠y):xs≠ys:=fun h=>by rw [h,hy] at hx;exact e (Option.some.inj hx).symm
def smN (x y:Nt):Bool:=((((x.kind==y.kind)&&zqG x.lm y.lm)&&smP x.pt y.pt)&&L.lsEq x.ls y.ls)&&S.rtEq x.rt y.rt
def smL:List Nt→List Nt→Bool
 | [],[]=>true
 | x::xs,y::ys=>smN x y&&smL xs ys
 | _,_=>false
theorem zm7:∀ {xs ys:List Nt},xs.length≠ys.length→smL xs ys=false
 | [],[],h=>absurd rfl h
 | [],_::_,_=>rfl
 | _::_,[],_=>rfl
 | x::xs,y::ys,h=>by simp only [smL,zm7 (xs:=xs) (ys:=ys) (by simpa using h),Bool.and_false]
theorem zr0:∀ {xs ys:List Nt} {k:Nat} {x y:Nt},xs[k]? =some x→ys[k]? =some y→smN x y=false→smL xs ys=false
 | [],_,_,_,_,h,_,_=>by simp at h
 | _::_,[],_,_,_,_,h,_=>by simp at h
 | a::xs,b::ys,0,x,y,hx,hy,h=>by cases hx;cases hy;simp [smL,h]
 | a::xs,b::ys,k+1,x,y,hx,hy,h=>by
  have:=zr0 (xs:=xs) (ys:=ys) (k:=k) (by simpa using hx) (by simpa using hy) h;simp [smL,this]
theorem znc:∀ {xs ys:List Nt},xs.length=ys.length→(∀ (j:Nat) (x y:Nt),j<xs.length→xs[j]? =some x→ys[j]? =some y→smN x y=true)→smL xs ys=true
 | [],[],_,_=>rfl
 | [],_::_,h,_=>by simp at h
 | _::_,[],h,_=>by simp at h
 | x::xs,y::ys,hl,h=>by
  rw [smL,h 0 x y kJ rfl rfl,znc (by simpa using hl) (fun j u v hj hu hv=>h (j+1) u v (by simpa using hj) (by simpa using hu) (by simpa using hv))];rfl
theorem zm4 (hx:xs[k]? =some x)(hy:ys[k]? =some y)(h:∀ (j:Nat) (u v:Nt),j<k→xs[j]? =some u→ys[j]? =some v→smN u v=true)(e:smN x y=true):∀ (j:Nat) (u v:Nt),j<k+1→xs[j]? =some u→ys[j]? =some v→smN u v=true:=fun j u v hj hu hv=>by
 rcases Nat.lt_or_ge j k with h1 | h1
 ·
  exact h j u v h1 hu hv
 ·
  have:j=k:=kB;subst this;rw [hx] at hu;rw [hy] at hv;cases hu;cases hv;exact e
theorem zs0:Fun Tryz.prog 85:=.of Tryz.func85 kA kA
theorem zr7:Fun Tryz.prog 86:=.of Tryz.func86 kA kA
theorem zAc (hP:Nd I p)(hQ:Nd I q)(hn:p.n≤100000):ZJ Tryz.prog 85 [Uf p,Uf q] I (.bool (smP p q)):=by
 intro g H w hw;refine qe Tryz.func85 Tryz.ntmps85 hw ?_;have hIc:=zB6 I;have hl1:p.needs.length=p.n:=hP.len;have hl2:q.needs.length=q.n:=hQ.len;refine zR<|QK rfl rfl rfl (fun b_2=>QK rfl rfl rfl (fun b_3=>zA (Qb<|QF .here (fun I1 hI1 hb1=>?_))))
 have hP:=hP.mono hI1;have hQ:=hQ.mono hI1;have hIc:=hIc.trans hI1;have h3:=BxI.of hb1;refine QF .here (fun I2 hI2 hb2=>?_);have hP:=hP.mono hI2;have hQ:=hQ.mono hI2;have h3:=h3.mono hI2;have hIc:=hIc.trans hI2;have h2:=BxI.of hb2;refine Qd (Qm (zR<|zF Yk ?_));refine zV (Qc rfl Ql (fun hg=>by exact Qy.imm h2.out rfl))<|zF Yk ?_
 refine zV (Qc rfl Ql (fun hg=>by exact Qy.imm h3.out rfl))<|zC ?_
 refine zM ?_;refine QI 5 rfl rfl rfl ?_;refine zJ (Qa rfl JH)<|zJ (Qc rfl Ql (fun hg=>by exact Qy.imm h2.out rfl))<|zJ (Qa rfl JH)<|zJ (Qc rfl Ql (fun hg=>by exact Qy.imm h3.out rfl))<|zJ (QA rfl rfl rfl)<|Q9 rfl rfl rfl rfl rfl ?_
 refine zM ?_;refine QI 12 rfl rfl rfl ?_;refine zJ (Qa rfl YK)<|zJ (Qc rfl Ql (fun hg=>by exact Qy.imm h2.out rfl))<|zJ (Qa rfl YK)<|zJ (Qc rfl Ql (fun hg=>by exact Qy.imm h3.out rfl))<|zJ (QA rfl rfl rfl)<|Q9 rfl rfl rfl rfl rfl ?_
 refine zM ?_;refine QI 19 rfl rfl rfl ?_;refine zJ (Qa rfl YI)<|zJ (Qc rfl Ql (fun hg=>by exact Qy.imm h2.out rfl))<|zJ (Qa rfl YI)<|zJ (Qc rfl Ql (fun hg=>by exact Qy.imm h3.out rfl))<|zJ (QA rfl rfl rfl)<|Q9 rfl rfl rfl rfl rfl ?_
 refine zM ?_;refine QI 26 rfl rfl rfl ?_;refine zJ (Qa rfl YU)<|zJ (Qg rfl ZP (fun hg=>by exact zkh (BxI.cells (vs:=Xu p) h2)) rfl)<|zJ (Qa rfl YU)<|zJ (Qg rfl ZP (fun hg=>by exact zkh (BxI.cells (vs:=Xu q) h3)) rfl)<|zJ (zkz rfl rfl Xb rfl)<|Q9 rfl rfl rfl rfl rfl ?_
 refine zM ?_;refine QI 33 rfl rfl rfl ?_;refine zJ (Qa rfl ZZ)<|zJ (Qc rfl Vy (fun hg=>by exact Qy.imm h2.out rfl))<|zJ (QT rfl Zb)<|zJ (Qa rfl ZZ)<|zJ (Qc rfl Vy (fun hg=>by exact Qy.imm h3.out rfl))<|zJ (QT rfl Zb)<|zJ (QA rfl rfl rfl)<|Q9 rfl rfl rfl rfl rfl ?_
 refine zN ?_;refine zI ?_ ?_<;>intro hc47
 ·
  have hcc:smC p q=true:=hc47;exact zR (zA (zN (Qs (Qf<|Qx rfl rfl (fun w hw=>⟨by rw [zzF hcc],(hw.mono hIc).subL Qq⟩)))))
 have hcc:smC p q=false:=hc47;have hnn:=zzq hcc;refine Qr (Qd (Qm (zR (zA (zN (Qw<|zU [(2,_),(3,_)] (fun T L0 mz E I' loc'=>∃ (k:Nat),mz=p.n-k∧E=(5,.int .i64 k)::T∧I2=I'∧L0=loc'∧k≤p.n∧p.needs.take k=q.needs.take k) ?_ (h:=⟨0,rfl,rfl,rfl,rfl,Nat.zero_le _,rfl⟩)))))));rintro mz E I' loc' ⟨k,rfl,rfl,rfl,rfl,hk,htk⟩;refine Qm (zR (zM<|zF ZZ ?_));refine zV (Qc rfl Vy (fun hg=>by exact Qy.imm h2.out rfl))<|zQ Zb<|zC (zN ?_)
 refine zI ?_ ?_<;>intro hc52
 ·
  have hlt_k:k<p.n:=(by have h:=hc52;simp at h;omega);obtain ⟨x,hx⟩:∃ y,p.needs[k]? =some y:=⟨_,List.getElem?_eq_getElem kB⟩;obtain ⟨y,hy⟩:∃ y,q.needs[k]? =some y:=⟨_,List.getElem?_eq_getElem kB⟩;refine Qr (Qd (Qm (Qw (Qm ?_))));have hD:=zB6 I2;refine Zn<|QJ I2 [] mixed<|zT 0 rfl (Qa rfl ZZ) hD<|zT 1 rfl (Qc rfl Vy (fun hg=>by exact Qy.imm h2.out rfl)) hD<|zT 2 rfl (Qe rfl) hD<|zT 3 rfl (zX Zb hP) hD<|zT 4 rfl (Qc rfl Ql (fun hg=>by exact zBZ hP hx rfl)) hD<|zT 5 rfl (Qa rfl ZZ) hD<|zT 6 rfl (Qc rfl Vy (fun hg=>by exact Qy.imm h3.out rfl)) hD<|zT 7 rfl (Qe rfl) hD<|zT 8 rfl (zX Zb hQ) hD<|zT 9 rfl (Qc rfl Ql (fun hg=>by exact zBZ hQ hy rfl)) hD ?_
  refine zT 10 rfl (QA rfl rfl rfl) hD<|Qn kA<|Qv<|Qd ?_
  refine zI ?_ ?_<;>intro hc65
  ·
   have hxy:x≠y:=(by simpa using hc65);exact zR (zA (zN (Qs (Qi (Qf (Qf (Qi<|Qf<|Qx rfl rfl (fun w hw=>⟨by rw [zpC hcc,decide_eq_false (zxD hx hy hxy)],(hw.mono hIc).subL Qq⟩))))))))
  have hxy:x=y:=(by simpa using hc65);refine Qr (Qk (Qd (Qh (zM ?_))));exact zB<|zA (Qb<|zm (h:=⟨p.n-(k+1),kB,k+1,rfl,rfl,rfl,rfl,kB,zaH htk hx hy hxy⟩))
 have hge_k:p.n≤k:=(by have h:=hc52;simp at h;omega);rw [ZR hl1 hge_k,ZR hl2 kB] at htk;refine Zk (Qo (Qo (Qz (Qd (zR (zA (zN<|Qs ?_)))))));exact Qx rfl rfl (fun w hw=>⟨by rw [zpC hcc,htk];simp,(hw.mono hIc).subL Qq⟩)
theorem zyf (hX:Nd I x.pt)(hY:Nd I y.pt)(hn:x.pt.n≤100000):ZJ Tryz.prog 86 [J0 x,J0 y] I (.bool (smN x y)):=by
 intro g H w hw;refine qe Tryz.func86 Tryz.ntmps86 hw ?_;have hIc:=zB6 I;refine zR<|QK rfl rfl rfl (fun b_2=>QK rfl rfl rfl (fun b_3=>zA (Qb<|QF .here (fun I1 hI1 hb1=>?_))))
 have hX:=hX.mono hI1;have hY:=hY.mono hI1;have hIc:=hIc.trans hI1;have h3:=BxI.of hb1;refine QF .here (fun I2 hI2 hb2=>?_);have hX:=hX.mono hI2;have hY:=hY.mono hI2;have h3:=h3.mono hI2;have hIc:=hIc.trans hI2;have h2:=BxI.of hb2;refine Qd (zR<|zF Vu ?_);refine zV (Qc rfl Ql (fun hg=>by exact Qy.imm h2.out rfl))<|zF Vu ?_
 refine zV (Qc rfl Ql (fun hg=>by exact Qy.imm h3.out rfl))<|zC ?_
 refine zM<|Qt 5 rfl rfl rfl ?_
 refine zK (Qa rfl Vt)<|zK (Qg rfl Km (fun hg=>by exact zeB (BxI.cells (vs:=Zf x) h2)) rfl) ?_
 refine zK (Qa rfl Vt)<|zK (Qg rfl Km (fun hg=>by exact zeB (BxI.cells (vs:=Zf y) h3)) rfl)<|zK (Ww rfl rfl zgA rfl)<|QE rfl rfl rfl rfl rfl<|zM<|Qt 12 rfl rfl rfl ?_
 refine zK (Qa rfl YA)<|zK (Qg rfl VW (fun hg=>by exact za6 (BxI.cells (vs:=Zf x) h2)) rfl) ?_
 refine zK (Qa rfl YA)<|zK (Qg rfl VW (fun hg=>by exact za6 (BxI.cells (vs:=Zf y) h3)) rfl)<|qg (vs:=[_,_]) rfl zs0 (fun hg=>zAc hX hY hn)<|QE rfl rfl rfl rfl rfl<|zM<|Qt 19 rfl rfl rfl ?_
 refine zK (Qa rfl V9)<|zK (Qg rfl Kj (fun hg=>by exact zdG (BxI.cells (vs:=Zf x) h2)) rfl) ?_
 refine zK (Qa rfl V9)<|zK (Qg rfl Kj (fun hg=>by exact zdG (BxI.cells (vs:=Zf y) h3)) rfl)<|zK (Wh rfl rfl ziF rfl)<|QE rfl rfl rfl rfl rfl<|zM<|Qt 26 rfl rfl rfl ?_
 refine zK (Qa rfl YB)<|zK (Qg rfl Y6 (fun hg=>by exact zeb (BxI.cells (vs:=Zf x) h2)) rfl) ?_
 refine zK (Qa rfl YB)<|zK (Qg rfl Y6 (fun hg=>by exact zeb (BxI.cells (vs:=Zf y) h3)) rfl)<|zK (Wh rfl rfl zaW rfl)<|QE rfl rfl rfl rfl rfl<|zA (zN (Qs ?_))
 exact Qx rfl rfl (fun w hw=>⟨by rfl,(hw.mono hIc).subL Qq⟩)
theorem zwT {bv:Option Addr}{n2 c2:Nat}(hS:Sl I 45 Zf av n c xs)(hT:Sl I 45 Zf bv n2 c2 ys)(hNd:∀ x∈xs,Nd I x.pt)(hNe:∀ y∈ys,Nd I y.pt)(hsm:∀ x∈xs,x.pt.n≤100000)(hn:n≤100000):ZJ Tryz.prog 31 [.slice av n c,.slice bv n2 c2] I (.bool (smL xs ys)):=by
 intro g H w hw;refine qe Tryz.func31 Tryz.ntmps31 hw ?_;have hl1:=hS.len;have hl2:=hT.len;refine zR (zA (zN (Qm (zR ?_))));refine zM ?_;refine zQ Zj ?_;refine zM ?_;refine zQ Zj<|zC (zN ?_)
 refine zI ?_ ?_<;>intro hc10
 ·
  refine zR (zA (zN (Qs (Qf ?_))));exact Qx rfl rfl (fun w hw=>⟨by rw [zm7 (by simp at hc10;omega)],hw⟩)
 have h10:n=n2:=(by have h:=hc10;simp at h;omega);refine Qr (Qd (Qm (zR (zA (zN (Qw<|zU [(0,_),(1,_)] (fun T L0 mz E I' loc'=>∃ (k:Nat),mz=n-k∧E=(5,.int .i64 k)::T∧I=I'∧L0=loc'∧k≤n∧(∀ (j:Nat) (u v:Nt),j<k→xs[j]? =some u→ys[j]? =some v→smN u v=true)) ?_ (h:=⟨0,rfl,rfl,rfl,rfl,Nat.zero_le _,fun j u v h=>absurd h (Nat.not_lt_zero _)⟩)))))));rintro mz E I' loc' ⟨k,rfl,rfl,rfl,rfl,hk,hall⟩;refine Qm (zR (zM<|zM ?_));refine zQ Zj<|zC (zN ?_)
 refine zI ?_ ?_<;>intro hc14
 ·
  have hlt_k:k<n:=(by have h:=hc14;simp at h;omega);obtain ⟨x,hx⟩:∃ y,xs[k]? =some y:=⟨_,List.getElem?_eq_getElem kB⟩;obtain ⟨y,hy⟩:∃ y,ys[k]? =some y:=⟨_,List.getElem?_eq_getElem kB⟩;have hxm:=List.mem_of_getElem? hx;have hym:=List.mem_of_getElem? hy;refine Qr (Qd (Qm (Qw (Qm ?_))));have hD:=zB6 I;refine Zn<|QJ I [] mixed<|zT 0 rfl (Qe rfl) hD<|zT 1 rfl (Qe rfl) hD<|zT 2 rfl (zX Zj hS) hD<|zT 3 rfl (Qg rfl Zc (fun hg=>by exact zB7 hS hx) rfl) hD<|zT 4 rfl (Qe rfl) hD<|zT 5 rfl (Qe rfl) hD<|zT 6 rfl (zX Zj hT) hD<|zT 7 rfl (Qg rfl Zc (fun hg=>by exact zB7 hT hy) rfl) hD<|qd 8 rfl<|qcV (vs:=[_,_]) rfl zr7 (zyf (hNd x hxm) (hNe y hym) (hsm x hxm)) ?_
  refine Qb<|zD hD<|zT 9 rfl (ZB rfl) hD<|Qn kA<|Qv<|Qd ?_
  refine zI ?_ ?_<;>intro hc26
  ·
   exact zR (zA (zN (Qs (Qi (Qf (Qf (Qi<|Qf<|Qx rfl rfl (fun w hw=>⟨by rw [zr0 hx hy (by simpa using hc26)],hw⟩))))))))
  have hxy:smN x y=true:=(by simpa using hc26);refine Qr (Qk (Qd (Qh (zM ?_))));exact zB<|zA (Qb<|zm (h:=⟨n-(k+1),kB,k+1,rfl,rfl,rfl,rfl,kB,zm4 hx hy hall hxy⟩))
 have hge_k:n≤k:=(by have h:=hc14;simp at h;omega);refine Zk (Qo (Qo (Qz (Qd (zR (zA (zN<|Qs ?_)))))));exact Qx rfl rfl (fun w hw=>⟨by rw [znc kB (fun j u v hj hu hv=>hall j u v kB hu hv)],hw⟩)
theorem zwO {n:Int}(hn: -9223372036854775808≤n∧n≤9223372036854775807)(h:n≥0):IntKind.u64.wrap (2*IntKind.u64.wrap n)=((zz n:Nat):Int):=by
 rw [ZW (n:=n) ⟨kB,kB⟩,ZW ⟨kB,kB⟩];unfold zz;rw [if_pos h];omega
theorem zzb {n:Int}(hn: -9223372036854775808≤n∧n≤9223372036854775807)(h:¬n≥0):IntKind.u64.wrap (IntKind.u64.wrap (2*IntKind.u64.wrap (IntKind.i64.wrap (-(IntKind.i64.wrap (n+1)))))+1)=((zz n:Nat):Int):=by
 rw [YJ (n:=n+1) ⟨kB,kB⟩,YJ ⟨kB,kB⟩,ZW (n:= -(n+1)) ⟨kB,kB⟩,ZW (n:=2* -(n+1)) ⟨kB,kB⟩,ZW ⟨kB,kB⟩];unfold zz;rw [if_neg h];omega
theorem zBP (u:Nat):(u:Int).tmod 128=((u % 128:Nat):Int):=rfl
theorem zBx (u:Nat):(u:Int).tdiv 128=((u / 128:Nat):Int):=rfl
theorem zy1 (u:Nat):IntKind.u8.wrap (IntKind.u64.wrap ((u:Int).tmod 128+128))=((u % 128+128:Nat):Int):=by
 rw [zBP,ZW ⟨kB,kB⟩,zbV ⟨kB,kB⟩];omega
variable{u:Nat}
theorem zzn (hu:u<2^64):IntKind.u64.wrap ((u:Int).tdiv 128)=((u / 128:Nat):Int):=by
 rw [zBx,ZW ⟨kB,kB⟩]
def YQ (bs:List Nat)(v:Value)(I':Qu)(L':Go.Kn.Loc):Prop:=L'=[]∧∃ a c,v= .slice a bs.length c∧Sl I' 1 VY a bs.length c bs
theorem zcY {bs bs':List Nat}(h:Sl I 1 VY a n c bs')(e:bs=bs'):YQ bs (.slice a n c) I []:=by
 subst e;have:=h.len;subst this;exact ⟨rfl,a,c,rfl,h⟩
variable{e b:Nat}
theorem zoc (x:Nat):ZU e 1 (.slice (some ⟨b,0,none⟩) 1 1) 1 (([x]:List Nat).flatMap VY) [(b,.cells (VY x).toArray e (0,0))]:=
 ⟨rfl,.inr ⟨b,1,_,rfl,rfl,Nat.le_refl _,by decide,rfl,rfl⟩⟩
theorem zkd (l:List Va)(k:Nat):Va.depthL (l.take k)≤Va.depthL l:=by
 conv=>rhs;rw [←List.take_append_drop k l]
 rw [zaj];omega
variable{l:List Va}
theorem zbB {x:Va}(hx:l[k]? =some x):Va.encL (l.take (k+1))=Va.encL (l.take k)++Va.enc x:=by
 have h:l.take (k+1)=l.take k++[x]:=by
  obtain ⟨h1,h2⟩:=List.getElem?_eq_some_iff.1 hx;rw [List.take_add_one,List.getElem?_eq_getElem h1,h2];rfl
 rw [h,Va.encL_append];simp [Va.encL]
theorem zk7 (xs:List Int):(xs.flatMap Z5).length=xs.length:=by rw [Yp YL,Nat.mul_one]
variable{cs:List Value}
theorem zBt (xs:List Int)(hn:xs.length=n)(hc:cs=xs.flatMap Z5)(hm:n≤maxLen):ZU e 1 (.slice (some ⟨b,0,none⟩) n n) n (xs.flatMap Z5) [(b,.cells cs.toArray e (0,0))]:=by
 subst hn;subst hc;have h:=zk7 xs
 exact ⟨by rw [h,Nat.mul_one],.inr ⟨b,_,_,rfl,rfl,Nat.le_refl _,hm,by rw [List.size_toArray,h,Nat.mul_one],by
  show (xs.flatMap Z5).take _=_
  rw [Nat.mul_one,←h,List.take_length]⟩⟩
theorem zcl:Fun Tryz.prog 220:=.of Tryz.func220 kA kA
theorem zxM (I:Qu){n:Int}(hn: -9223372036854775808≤n∧n≤9223372036854775807):ZJ Tryz.prog 221 [.int .i64 n] I (.int .u64 (zz n)):=by
 intro g H w hw;refine qe Tryz.func221 Tryz.ntmps221 hw ?_;refine zR (zA (zN (Qm (zR ?_))));refine zM<|zC (zN ?_)
 refine zI ?_ ?_<;>intro hc4
 ·
  have h4:n≥0:=(by simpa using hc4);refine zR (zM<|zV (ZS rfl VK)<|zV (U6 rfl rfl rfl)<|zA (zN (Qs (Qf ?_))));exact Qx rfl rfl (fun w hw=>⟨by rw [←zwO hn h4],hw⟩)
 have h4:¬n≥0:=(by simpa using hc4);refine Qr (Qd (zR (zM<|zV (U6 rfl rfl rfl)<|zV (zi8 rfl)<|zV (ZS rfl VK)<|zV (U6 rfl rfl rfl)<|zV (U6 rfl rfl rfl)<|zA (zN (Qs ?_)))));exact Qx rfl rfl (fun w hw=>⟨by rw [←zzb hn h4,Int.zero_sub],hw⟩)
theorem zgX (hu:u<2^64)(ih:(∀ u',u'<u→∀ I,YE Tryz.prog 220 [.int .u64 (u':Nat)] I [] (YQ (Ke u')))):YE Tryz.prog 220 [.int .u64 (u:Nat)] I [] (YQ (Ke u)):=by
 intro g H w hw;refine qe Tryz.func220 Tryz.ntmps220 hw ?_;have hIc:=zB6 I;have h10:=UI hu;have h10b:=UI (u:=u / 128) kB;refine zR (zA (zN (Qm (zR ?_))));refine zM<|zC (zN ?_)
 refine zI ?_ ?_<;>intro hc4
 ·
  have hlt:u<128:=(by have h:=hc4;simp at h;omega);refine zR (zM<|zV (Vb (ZS rfl XY) (congrArg (Value.int .u8) (zbV (n:=(u:Int)) ⟨kB,kB⟩)))<|zpb [(0,_)] [VY u] VB (fun b_7=>zA (Qb<|QF .here (fun I1 hI1 hb1=>?_))));have hIc:=hIc.trans hI1;have hZ:=Sl.lit (enc:=VY) [u] rfl Vd hb1;exact Qd (Qs (Qf<|Qx rfl rfl (fun w hw=>⟨_,I1,[],rfl,hIc,by exact hw,zcY hZ (by rw [VC hlt])⟩)))
 have hge:¬u<128:=(by have h:=hc4;simp at h;omega);refine Qr (Qd (zR (zM<|zV (Yd rfl rfl (fun hg=>by decide))<|zV (U6 rfl rfl rfl)<|zV (Vb (ZS rfl XY) (congrArg (Value.int .u8) (zy1 u)))<|zpb [(0,_)] [VY (u % 128+128)] VB (fun b_12=>zM<|zV (Vb (znf rfl rfl (fun hg=>by decide)) (congrArg (Value.int .u64) (zzn hu)))<|zpc [_] rfl zcl .nil (ih (u / 128) kB _) ?_))));rintro vv2 I2 L2 hI2 ⟨rfl,a9,c9,rfl,hS9⟩;have hIc:=hIc.trans hI2;refine zpa (_) ((Ke (u / 128):List Nat).flatMap VY) ([(b_12,_)]) rfl rfl VB (zoc (u % 128+128)) (hS9.src Vd) (zce _) ?_;intro v9 L9 hO9 _;rw [←List.flatMap_append] at hO9;refine zA (Qb<|zx4 hO9 Vd (fun I3 hI3 af3 cf3 ef3 hZ=>?_));subst ef3;have hIc:=hIc.trans hI3;refine Qd (Qs ?_);exact Qx rfl rfl (fun w hw=>⟨_,I3,[],rfl,hIc,by exact hw,zcY hZ (by rw [zak hge];rfl)⟩)
end
end Go.Proofs.YtjblkbkmblkgoaaGreat
