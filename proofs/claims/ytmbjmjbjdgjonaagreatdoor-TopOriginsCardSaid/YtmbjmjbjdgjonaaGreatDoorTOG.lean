/- topOrigins_holds, part G of the proof: what its theorems say holds without further conditions. -/
import Derived.Test.YtmbjmjbjdgjonaaGreatDoorTOF
namespace Go.Proofs.YtmbjmjbjdgjonaaGreatDoor.R
section
open Go Go.Kn Go.Proofs
def zhg (P:Pt->Bool)(xs:List Pt):List Int:=(xs.filter P).map (·.id)
variable{P:Pt->Bool}
theorem zoe {xs:List Pt}:zhg P (xs.take 0)=[]:=by unfold zhg;simp
variable{k:Nat}{p:Pt}
theorem zqw {xs:List Pt}(hp:xs[k]? =some p)(h:P p=true):zhg P (xs.take (k+1))=zhg P (xs.take k)++[p.id]:=by unfold zhg;rw [ZI hp,jN,Oe,jb h];simp
theorem zuJ {xs:List Pt}(hp:xs[k]? =some p)(h:P p=false):zhg P (xs.take (k+1))=zhg P (xs.take k):=by unfold zhg;rw [ZI hp,jN,Oe,ja (by rw [h];exact AH)];simp
def zDT (on:Int->Int->Bool)(l:List Pt)(s:Int)(p:Pt):Bool:=(rmF l s).any fun i=> !on i p.id
def unL (on:Int->Int->Bool)(l:List Pt)(s f:Int):List Int:=zhg (zDT on l s) (stF l s f)
def unK (on:Int->Int->Bool)(l:List Pt)(s:Int)(k:Nat):List Int:=(List.range k).flatMap fun (j:Nat)=>unL on l s ((j:Int)+1)
theorem zhH (on:Int->Int->Bool)(l:List Pt)(s:Int)(k:Nat):unK on l s (k+1)=unK on l s k++unL on l s ((k:Int)+1):=by unfold unK;rw [Ou,jo];simp
variable{on:Int->Int->Bool}{l:List Pt}{s:Int}
theorem zk5 (k:Nat):(unK on l s k).length<=k*l.length:=by
 induction k with
 | zero=>simp [unK]
 | succ k ih=>
  rw [zhH,jh,Nat.succ_mul]
  have h1:(unL on l s ((k:Int)+1)).length<=l.length:=by
   unfold unL zhg;rw [jE];exact jT (j3 ..) WP
  omega
variable{j:Nat}
theorem zo5 {xs:List Pt}{e q:Nat}{v:Value}{L:Go.Kn.Loc}(hO:OwnS e 1 v q ((unK on l s k++zhg P (xs.take j)).flatMap Q3) L)(hk:k<=9)(hl:l.length<=512)(hx:xs.length<=512):q<=10000:=by
 have h1:=hO.1;rw [zEy,jh] at h1;have h2:(unK on l s k).length<=9*512:=jT (zk5 k) (Nat.mul_le_mul hk hl)
 have h3:(zhg P (xs.take j)).length<=xs.length:=by
  unfold zhg;rw [jE];refine jT (j3 ..) ?_;rw [jH];omega
 omega
theorem zbG (hok:∀ p∈l,zmG p){x:Int}:x∈unK on l s 9↔x∈(unF on l s).map (·.id):=by
 unfold unK unL zhg unF unB;rw [Ap];simp only [jt,jF,jm,JB,jj,j0];constructor
 ·rintro ⟨j,hj,p,⟨⟨hp,hk,hs,hf⟩,hu⟩,rfl⟩;exact ⟨p,⟨hp,hs,hk,by rw [hs];exact hu⟩,U⟩
 ·rintro ⟨p,⟨hp,hs,hk,hu⟩,rfl⟩;have hf:=((hok p hp).set hk).1;unfold isF at hf;refine ⟨(p.field-1).toNat,kB,p,⟨⟨hp,hk,hs,kB⟩,by rw [hs] at hu;exact hu⟩,U⟩
theorem zEk (hok:∀ p∈l,zmG p):((((rmF l s).length:Int)==0)||decide (((unK on l s 9).length:Int)>0))=exB on l s:=by
 unfold exB
 have h1:(unK on l s 9).length=0↔unF on l s=[]:=by
  constructor
  ·intro h;have h2:=jR.1 h
   cases hu:unF on l s with
   | nil=>rfl
   | cons p us=>
    have:p.id∈unK on l s 9:=(zbG hok).2 (by rw [hu];simp);rw [h2] at this;cases this
  ·intro h
   cases hu:unK on l s 9 with
   | nil=>rfl
   | cons x us=>
    have:x∈(unF on l s).map (·.id):=(zbG hok).1 (by rw [hu];simp);rw [h] at this;cases this
 congr 1
 ·cases rmF l s with
  | nil=>rfl
  | cons x us=>simp;omega
 ·cases hu:unF on l s with
  | nil=>rw [h1.2 hu];rfl
  | cons p us=>
   have:(unK on l s 9).length≠0:=fun h=>by rw [h1.1 h] at hu;cases hu
   simp;omega
variable{ps:List Pt}
theorem zCB (hsub:∀ p∈l,p∈ps){i:Int}(h:i∈rmF l s):∃ q∈ps,q.id=i:=by obtain ⟨q,hq,_,_,e⟩:=zac.1 h;exact ⟨q,hsub q hq,e⟩
theorem zsU :(rmF l s).length<=l.length:=zbs (c:=3)
def zfU (on:Int->Int->Bool)(xs:List Pt)(p:Pt):Bool:= !xs.any fun q=>on q.id p.id
theorem zDw (on:Int->Int->Bool)(l:List Pt)(s f:Int):VQ on l s f=(stF l s f).filter (zfU on (stF l s f)):=rfl
theorem X9 {xs:List Pt}(hp:xs[k]? =some p)(h:P p=true):(xs.take (k+1)).filter P=(xs.take k).filter P++[p]:=by rw [ZI hp,jN,Oe,jb h];simp
theorem zcI {xs:List Pt}(hp:xs[k]? =some p)(h:P p=false):(xs.take (k+1)).filter P=(xs.take k).filter P:=by rw [ZI hp,jN,Oe,ja (by rw [h];exact AH)];simp
theorem zmB {xs:List Pt}(hp:xs[k]? =some p)(h:P p=true):(xs.take k).filter P++[p]<+:xs.filter P:=by rw [<-X9 hp h];exact ⟨(xs.drop (k+1)).filter P,by rw [<-jN,jy]⟩
variable{I:Qt}{b1 b2 r1 r2 r3 n c:Nat}{av:Option Addr}
theorem zFz (h1:I b1=some (.cells #[.map (some r1),.map (some r2),.map (some r3),.slice av n c] 132 (0,0)))(h2:I b2=some (.cells (Yh p).toArray 53 (0,0)))(hOn:OnM I r1 ps)(id:Int)(hid:∃ q∈ps,q.id=id):Zt Tryz.prog 129 [.int .i64 id,.pointer (some ⟨b1,0,none⟩),.pointer (some ⟨b2,0,none⟩)] I (.bool (!onF ps id p.id)):=by intro g H w hw;refine qe Tryz.func129 Tryz.ntmps129 hw ?_;obtain ⟨m,hm1,hm2⟩:=hOn;obtain ⟨ref,hget,sn,hsn,hsq⟩:=hm2.get hid;refine zR (zA ?_);refine zN (zR ?_);refine zF ze9 ?_;refine zV (Qd U zme (fun hg=>by exact .imm h1 U)) ?_;refine zM ?_;refine zV (Vh (m:=m) (ek:=Value.int .i64) (ev:=zeE) (a:=id) hget UC Z3 U U (fun _=>.inl hm1)) ?_;refine zF Zy ?_;refine zV (Qd U Qq (fun hg=>by exact .imm h2 U)) ?_;refine zV (YJ (m:=sn) V6 Z3 U U (fun _=>.inl hsn)) ?_;refine zO ?_;refine zA (zN (Qr ?_));exact zr U U (by rw [show (ZP sn p.id).getD false=onF ps id p.id from hsq.mem _])
variable{xs:List Sg}
theorem zim (hx:StQ I ps l xs r1 r2 r3 av n c)(s:Int):ZQ Tryz.prog 49 [stA r1 r2 r3 av n c,.int .i64 s] I [] (zec 1 Q3 (unK (onF ps) l s 9)):=by
 intro g H w hw;refine qe Tryz.func49 Tryz.ntmps49 hw ?_;have hIc:=zGN I;obtain ⟨ms,hms,hset⟩:=hx.set;obtain ⟨mr,hmr,hrem⟩:=hx.rem;obtain ⟨av3,c3,hv3,hS3⟩:=hrem s;have hfl:=hx.fewl;have hrl:=zsU (l:=l) (s:=s);refine zR ?_;refine QG U U U (fun b_2=>?_);refine zA (zN (Ql (Ql ?_)));refine Xh ((b_2,.cells #[.map (some r1),.map (some r2),.map (some r3),.slice av n c] 132 (0,0))::[]) .refl ?_;refine Qf (zA (zN (Qp ?_)));refine zU [(1,_),(2,_)] (fun T L0 mz E I' loc'=>∃ (k:Nat) (v:Value) (q:Nat) (L:Go.Kn.Loc),mz=9-k/\E=(4,v)::(5,.int .i64 ((k:Int)+1))::T/\I=I'/\(b_2,.cells #[.map (some r1),.map (some r2),.map (some r3),.slice av n c] 132 (0,0))::L=loc'/\k<=9/\OwnS 3 1 v q ((unK (onF ps) l s k).flatMap Q3) L/\True) ?_ (h:=⟨0,_,0,[],U,U,U,U,jf _,OwnS.nil,trivial⟩);rintro mz E I' loc' ⟨k,v,q,L,rfl,rfl,rfl,rfl,hk,hO,_⟩;refine Ql (zR (zM ?_));refine zC (zN ?_);refine zI ?_ ?_<;>intro hc9
 ·have hlt_k:k<9:=(by have h:=hc9;simp at h;omega);refine Qo (Qa (Ql (Qp (Ql ?_))));obtain ⟨av2,c2,hv2,hS2⟩:=hset (s,(k:Int)+1);dsimp only at hv2 hS2;have hstl:=WP (l:=l) (s:=s) (f:=(k:Int)+1);refine Qf ?_;refine zF zbB ?_;refine zL zhk ?_;refine zM ?_;refine zM ?_;refine zV (ZT (ps:=[(0,_),(1,_)]) [_,_] VM WY U U) ?_;refine zV (Ji (m:=ms) (ek:=Vg) (a:=(s,(k:Int)+1)) hv2 zgK zft U U (fun _=>.inl hms)) ?_;refine zQ ZG ?_;refine zM (zN (Qp ?_));refine zU [(1,_),(2,_),(5,_),(17,_),(18,_)] (fun T L0 mz E I' loc'=>∃ (j:Nat) (v:Value) (q:Nat) (L:Go.Kn.Loc),mz=(stF l s ((k:Int)+1)).length-j/\E=(4,v)::(19,.int .i64 j)::T/\I=I'/\(b_2,.cells #[.map (some r1),.map (some r2),.map (some r3),.slice av n c] 132 (0,0))::L=loc'/\j<=(stF l s ((k:Int)+1)).length/\OwnS 3 1 v q ((unK (onF ps) l s k++zhg (zDT (onF ps) l s) ((stF l s ((k:Int)+1)).take j)).flatMap Q3) L/\True) ?_ (h:=⟨0,v,q,L,U,U,U,U,jf _,by rw [zoe,jz];exact hO,trivial⟩);rintro mz E I' loc' ⟨j,v,q,L,rfl,rfl,rfl,rfl,hj,hO,_⟩;refine zR (zC (zN (Ql ?_)));refine zI ?_ ?_<;>intro hc20
  ·have hlt_j:j<(stF l s ((k:Int)+1)).length:=(by have h:=hc20;simp at h;omega);obtain ⟨p,hp⟩:=hS2.at hlt_j;refine Qo (Qa (Ql (Qp (zR ?_))));refine zV (Qy U U ZG kI (fun hg=>kB)) ?_;refine zV (Qk U YG (fun hg=>by exact zGO hS2 hp) U) ?_;refine Qs Uf U U (fun b_7=>?_);refine zh VY ?_;refine zN (zR ?_);refine zF UL ?_;refine zL zbU ?_;refine zM ?_;refine zV (Ji (m:=mr) (ek:=Value.int .i64) (a:=s) hv3 JC Z3 U U (fun _=>.inl hmr)) ?_;refine zV (QN (us:=[]) (vs:=[_,_]) U U) ?_;refine KL (cap:=[]) (vs:=[_,_]) U U zlD QT (zke.ofV fun I' hI' hL'=>zAg (cap:=[.pointer (some ⟨b_2,0,none⟩),.pointer (some ⟨b_7,0,none⟩)]) (hS3.mono hI') kB zuU (fun i hi=>zFz (b1:=b_2) (b2:=b_7) (r1:=r1) (r2:=r2) (r3:=r3) (av:=av) (n:=n) (c:=c) (p:=p) (hL' b_2 _ kK) (hL' b_7 _ kK) (hx.on.mono hI') i (zCB hx.sub hi))) U U ?_;refine zN ?_;refine zI ?_ ?_<;>intro hc28
   ·have hq:=zo5 hO kB hfl kB;refine Qf (zM ?_);refine zF Zy ?_;refine zL Qq ?_;refine zpb [(0,_)] [Q3 p.id] Zw (fun b_32=>?_);refine zpa (_) ([p.id].flatMap Q3) (L) U U Zw hO ⟨U,fun _=>U,zGL⟩ (JH [p.id]) ?_;intro v9 L9 hO9 _;rw [<-jo,jn] at hO9;refine zA (Qb (Qg (Qa (Qf ?_))));refine zB ?_;refine zM (Qb ?_)
    first
    | exact Ub _ _ (L9++[(b_2,_)]) ⟨(stF l s ((k:Int)+1)).length-(j+1),kB,j+1,_,_,L9,U,U,U,U,kB,by rw [zqw (P:=zDT (onF ps) l s) hp hc28];exact hO9,trivial⟩ (.cons U (.cons U (.cons U (.cons U (.cons U (.cons U (.cons U .nil))))))) (ze5 _ _) kH
   refine Qo (Qg (Qa (Qf (zB ?_))));refine zM (Qb ?_)
   first
   | exact zm (h:=⟨(stF l s ((k:Int)+1)).length-(j+1),kB,j+1,_,_,_,U,U,U,U,kB,by rw [zuJ (P:=zDT (onF ps) l s) hp hc28];exact hO,trivial⟩)
  have hge_j:(stF l s ((k:Int)+1)).length<=j:=(by have h:=hc20;simp at h;omega);rw [ZJ rfl hge_j] at hO;refine QF (Qh (Qh (Qm (Qg (Qa (Qf (zM ?_)))))));refine zB ?_;refine zA (Qb ?_);exact zm (h:=⟨9-(k+1),kB,k+1,_,_,_,U,U,U,U,kB,by rw [zhH];exact hO,trivial⟩)
 have hge_k:9<=k:=(by have h:=hc9;simp at h;omega);have hk9:k=9:=kB;subst hk9;refine QF (Qh (Qh (Qm (Qa (zR (zM ?_))))));refine zA (zN (Qr ?_));exact QR U U (fun w hw=>by obtain ⟨I9,h91,h92,h93⟩:=OwnS.res hO Zh kE (hw.subL (by repeat (first | exact .refl | refine .drop ?_)));exact ⟨_,I9,[],U,hIc.trans h91,h92,h93⟩)
theorem zlI (hx:StQ I ps l xs r1 r2 r3 av n c)(s:Int):ZQ Tryz.prog 49 [stA r1 r2 r3 av n c,.int .i64 s] I [] (fun u _I9 L9=>L9=[]/\∃ a9 c9,u= .slice a9 (unK (onF ps) l s 9).length c9):=
 (zim hx s).mono fun v I' L' _ h=>by
  obtain ⟨h1,a9,c9,h2,_⟩:=h;exact ⟨h1,a9,c9,h2⟩
theorem zit (hx:StQ I ps l xs r1 r2 r3 av n c)(hok:∀ p∈l,zmG p)(s:Int):Zt Tryz.prog 51 [stA r1 r2 r3 av n c,.int .i64 s] I (.bool (exB (onF ps) l s)):=by intro g H w hw;refine qe Tryz.func51 Tryz.ntmps51 hw ?_;have hIc:=zGN I;obtain ⟨mr,hmr,hrem⟩:=hx.rem;obtain ⟨av3,c3,hv3,hS3⟩:=hrem s;refine zR ?_;refine QG U U U (fun b_2=>?_);refine zA ?_;refine zN (zR ?_);refine zF UL ?_;refine zL zbU ?_;refine zM ?_;refine zV (Ji (m:=mr) (ek:=Value.int .i64) (a:=s) hv3 JC Z3 U U (fun _=>.inl hmr)) ?_;refine zQ Qx ?_;refine zC ?_;refine zM ?_;refine Q8 6 U U U ?_;refine zJ (Qk U YW (fun hg=>by exact Cells.g0) U) ?_;refine zJ (Qj U) ?_;refine znV (cap:=[]) (vs:=[_,_]) U U zte (fun hg=>zlI hx s) ⟨_,U,none,0,U⟩ (.some U U U U gbf) U U ?_;rintro vv I9 L9 hI9 ⟨rfl,a9,c9,rfl⟩;have hIc:=hIc.trans hI9;refine zJ (ZX U Qx) ?_;refine zJ (QI U U U) ?_;refine ZO U U U U U ?_;refine zA (zN (Qr ?_));exact zp hIc U U (by rw [<-zEk hok])
theorem zyy (h1:I b1=some (.cells #[.map (some r1),.map (some r2),.map (some r3),.slice av n c] 132 (0,0)))(h2:I b2=some (.cells (Yh p).toArray 53 (0,0)))(hOn:OnM I r1 ps)(q:Pt)(hid:∃ z∈ps,z.id=q.id):Zt Tryz.prog 132 [UI q,.pointer (some ⟨b1,0,none⟩),.pointer (some ⟨b2,0,none⟩)] I (.bool (onF ps q.id p.id)):=by intro g H w hw;refine qe Tryz.func132 Tryz.ntmps132 hw ?_;obtain ⟨m,hm1,hm2⟩:=hOn;obtain ⟨ref,hget,sn,hsn,hsq⟩:=hm2.get hid;refine zR ?_;refine QG U U U (fun b_3=>?_);refine zA ?_;refine zN (zR ?_);refine zF ze9 ?_;refine zV (Qd U zme (fun hg=>by exact .imm h1 U)) ?_;refine zF Zy ?_;refine zL Qq ?_;refine zV (Vh (m:=m) (ek:=Value.int .i64) (ev:=zeE) (a:=q.id) hget UC Z3 U U (fun _=>.inl hm1)) ?_;refine zF Zy ?_;refine zV (Qd U Qq (fun hg=>by exact .imm h2 U)) ?_;refine zV (YJ (m:=sn) V6 Z3 U U (fun _=>.inl hsn)) ?_;refine zA (zN (Qr ?_));exact zr U U (by rw [show (ZP sn p.id).getD false=onF ps q.id p.id from hsq.mem _])
def zFX (I:Qt)(r1 r2 r3:Nat)(av:Option Addr)(n c:Nat)(s f:Int)(b1 b2 b3:Nat):Prop:=I b1=some (.cells #[.map (some r1),.map (some r2),.map (some r3),.slice av n c] 132 (0,0))/\I b2=some (.cells #[.int .i64 s] 3 (0,0))/\I b3=some (.cells #[.int .i64 f] 3 (0,0))
theorem zjw (I:Qt)(r1 r2 r3:Nat)(av:Option Addr)(n c:Nat)(s f:Int):ZQ Tryz.prog 52 [stA r1 r2 r3 av n c,.int .i64 s,.int .i64 f] I [] (fun v I' L=>L=[]/\∃ b1 b2 b3,v= .func (.func 130) #[] [QZ b1,QZ b2,QZ b3].toArray/\zFX I' r1 r2 r3 av n c s f b1 b2 b3):=by intro g H w hw;refine qe Tryz.func52 Tryz.ntmps52 hw ?_;have hIc:=zGN I;refine zR ?_;refine QG U U U (fun b_3=>?_);refine QG U U U (fun b_4=>?_);refine QG U U U (fun b_5=>?_);refine zA (zN (Ql ?_));refine QQ .here (fun I1 hI1 hb1=>?_);have hIc:=hIc.trans hI1;have h3:=hb1;refine QQ .here (fun I2 hI2 hb2=>?_);have hIc:=hIc.trans hI2;have h2:=hb2;have h3:=hI2 _ _ h3;refine QQ .here (fun I3 hI3 hb3=>?_);have hIc:=hIc.trans hI3;have h1:=hb3;have h3:=hI3 _ _ h3;have h2:=hI3 _ _ h2;refine Qf ?_;refine zV (QN (us:=[]) (vs:=[_,_,_]) U U) ?_;refine zA (zN (Qr ?_));exact QR U U (fun w hw=>⟨_,I3,[],U,hIc,hw.drop,U,b_3,b_4,b_5,U,h1,h2,h3⟩)
variable{f:Int}
theorem znF       (hx : StQ I ps l xs r1 r2 r3 av n c)  {b3:Nat} (hcap : zFX I r1 r2 r3 av n c s f b1 b2 b3) : zDO Tryz.prog 130 [QZ b1, QZ b2, QZ b3] I UI (VQ (onF ps) l s f) := by
  rw [zDw];intro g y J Jx hY I0 H w h0 hJ hw;obtain ⟨h1, h2, h3⟩ := hcap;have hx := hx.mono h0;have h1 := h0 _ _ h1; have h2 := h0 _ _ h2; have h3 := h0 _ _ h3;refine qe Tryz.func130 Tryz.ntmps130 hw ?_;obtain ⟨ms, hms, hset⟩ := hx.set;obtain ⟨av2, c2, hv2, hS2⟩ := hset (s, f);dsimp only at hv2 hS2;have hln := jT (WP (l := l) (s := s) (f := f)) hx.fewl;refine zR ?_;refine zF zbB ?_;refine zV (Qd U zhk (fun hg => by exact QB.imm h1 U)) ?_;refine zV (Qd U Qq (fun hg => by exact QB.imm h2 U)) ?_;refine zV (Qd U Qq (fun hg => by exact QB.imm h3 U)) ?_;refine zV (ZT (ps := [(0, _), (1, _)]) [_, _] VM WY U U) ?_;refine zV (Ji (m := ms) (ek := Vg) (a := (s, f)) hv2 zgK zft U U (fun _ => .inl hms)) ?_;refine zA ?_;refine zN (zR ?_);refine zM ?_;refine zQ ZG ?_;refine zM (zN (Qp ?_));refine zdg (fun m E I' H' loc' => ∃ (k : Nat), m = (stF l s f).length - k /\ E = [(0, .func (.yield y) #[] #[]), (1, QZ b1), (5, .slice av2 (stF l s f).length c2), (14, .slice av2 (stF l s f).length c2), (15, .int .i64 (stF l s f).length), (16, .int .i64 k)] /\ loc' = [] /\ HLe I0 I' /\ k <= (stF l s f).length /\ J (((stF l s f).take k).filter (zfU (onF ps) (stF l s f))) I' H') _ _ _ ⟨0, U, U, U, zGN _, jf _, hJ⟩ (.cons U (.cons U (.cons U (.cons U (.cons U (.cons U .nil)))))) U ?_;rintro m E I' H' loc' ⟨k, rfl, rfl, rfl, hI1, hk, hJk⟩;have hS2 := hS2.mono hI1;have hx := hx.mono hI1;have h1 := hI1 _ _ h1;have hI0 := h0.trans hI1;refine zR (zC (zN (Ql ?_)));refine zI ?_ ?_ <;> intro hc17
  · skip
    have hlt : k < (stF l s f).length := (by simpa using hc17);obtain ⟨p, hp⟩ := hS2.at hlt;refine Qo (Qa (Ql (Qp (zR ?_))));refine zV (Qy U U ZG kI (fun hg => by omega)) ?_;refine zV (Qk U YG (fun hg => by exact zGO hS2 hp) U) ?_;refine Qs Uf U U (fun b_7 => ?_);refine zh VY ?_;refine zN (Ql ?_);have hpc : ∀ {b : Bool} {G : Env}, ZS [(b, G)] = true -> b = zfU (onF ps) (stF l s f) p -> zfU (onF ps) (stF l s f) p = true := fun h e => (by rw [<- e]; simpa [ZS] using h);refine Qf (zM ?_);refine zV (QN (us := []) (vs := [_, _]) U U) ?_;refine KL (cap := []) (vs := [_, _]) U U zkF QT (zke.ofV fun I' hI' hL' => zCG (cap := [.pointer (some ⟨b1, 0, none⟩), .pointer (some ⟨b_7, 0, none⟩)]) (SlP.mono ⟨hS2, fun p hp => hx.nd p (hx.sub p (JB.1 hp).1)⟩ hI') kB zwy (fun q hq => zyy (b1 := b1) (b2 := b_7) (r1 := r1) (r2 := r2) (r3 := r3) (av := av) (n := n) (c := c) (p := p) (hI' _ _ h1) (hL' b_7 _ kK) (hx.on.mono hI') q ⟨q, hx.sub q (JB.1 hq).1, U⟩)) U U ?_;refine zO ?_;refine zM ?_;refine QA 4 U U U ?_;refine zK (Qj U) ?_;refine zK (Qk U YG (fun hg => by exact Cells.g0) U) ?_;refine ze0 (vs := [_]) (Post := fun b I2 H2 => if b then J (((stF l s f).take k).filter (zfU (onF ps) (stF l s f)) ++ [p]) I2 H2 else Jx (((stF l s f).take k).filter (zfU (onF ps) (stF l s f)) ++ [p]) I2 H2) U U (.some U U U U gbt) U U (fun hcj => hY _ p _ _ (zmB hp (hpc hcj U)) hI0 hJk) ?_;rintro b I2 H2 hI2 hyes hno;refine zK (Vv U) ?_;refine QE U U U U U ?_;refine zN ?_;refine zI ?_ ?_ <;> intro hc29
    · skip
      refine Qr (Qn (Qc (Qc (Qn ?_))))
      first
      | (exact Ys rfl (fun w hw => ⟨_, I2, H2, U, hI1.trans hI2, hw.drop, .inr ⟨_, zmB hp (show zfU (onF ps) (stF l s f) p = true from ((jj _ _).mp (show (zfU (onF ps) (stF l s f) p && !b) = true from hc29)).1), by have hc : (zfU (onF ps) (stF l s f) p && !b) = true := hc29; rw [jj, jS] at hc; have h9 := hyes (show ZS [(zfU (onF ps) (stF l s f) p, _)] = true from by rw [hc.1]; rfl); rw [hc.2] at h9; exact h9⟩⟩))
    · skip
      refine Qo (Qg (Qa (Qf (zB ?_))));refine zM (Qb ?_);have hyes := fun (e : zfU (onF ps) (stF l s f) p = true) => hyes (show ZS [(zfU (onF ps) (stF l s f) p, _)] = true from by rw [e]; rfl);have hno := fun (e : zfU (onF ps) (stF l s f) p = false) => hno (show ZS [(zfU (onF ps) (stF l s f) p, _)] = false from by rw [e]; rfl);have hc : (zfU (onF ps) (stF l s f) p && !b) = false := hc29
      have hJ2 : J (((stF l s f).take (k + 1)).filter (zfU (onF ps) (stF l s f))) I2 H2 := by
        cases hA : zfU (onF ps) (stF l s f) p with
        | true => rw [X9 hp hA]; rw [hA] at hc; have hb : b = true := by simpa using hc
                  subst hb; exact hyes hA
        | false => rw [zcI hp hA]; obtain ⟨e1, e2⟩ := hno hA; rw [e1, e2]; exact hJk
      exact Wh U U U _ [] ⟨(stF l s f).length - (k + 1), by omega, k + 1, U, U, U, hI1.trans hI2, by omega, hJ2⟩ (.cons U (.cons U (.cons U (.cons U (.cons U (.cons U .nil)))))) (.drop .refl)
  · skip
    have hge : (stF l s f).length <= k := (by simpa using hc17);refine QF (Qh (Qh (Qm ?_)))
    first
    | (exact YV (Ys rfl (fun w hw => ⟨_, I', H', U, hI1, hw, .inl (by rw [ZJ rfl hge] at hJk; exact hJk)⟩)))
variable{α:Type}{C:Cx}{E:Env}{loc:Go.Kn.Loc}{id:Nat}{Jc:List α->Qt->Go.Kn.Loc->Prop}{Jx:Code->List α->Qt->Go.Kn.Loc->Prop}
theorem zck {loc':Go.Kn.Loc}{pre:List α}(h:Jx (.exit id) pre I loc')(hs:KE loc' loc):At C (zb9 C.g C.H Jc Jx pre) (.exit id) E I loc:=fun _ _ _ hw=>⟨I,loc',h,hw.subL hs⟩
theorem zFc (I:Qt)(b:Nat)(x:Sg)(f:Int)(y:Sg)(hf:isF f):ZQ Tryz.prog 128 [QZ b,.int .i64 f,Yp y] I [(b,.cells (Zk x).toArray 28 (0,0))] (fun v I' L=>v= .tuple #[]/\I'=I/\L=[(b,.cells (Zk (VD x f y)).toArray 28 (0,0))]):=by
 intro g H w hw;refine qe Tryz.func128 Tryz.ntmps128 hw ?_;refine zR ?_;refine QG U U U (fun b_5=>?_);refine zN (zR ?_);refine zM (zN (Qp (zR ?_)));refine zC ?_;refine zA (zN ?_);refine zI ?_ ?_<;>intro hc7
 ·have hfk:f=1:=(by simpa using hc7);subst hfk;refine Qf (zM ?_);refine zF Vq ?_;refine zL Qq ?_;refine zV (Qu U) ?_;refine zF Vq ?_;refine zS ZD ?_;refine Qb (Qg ?_);exact YV (Ys U (fun w hw=>⟨_,I,_,U,zGN _,hw.subL (.drop .refl),U,U,U⟩))
 have hg1:f≠1:=(by simpa using hc7);refine zR (zC ?_);refine zA (zN ?_);refine zI ?_ ?_<;>intro hc14
 ·have hfk:f=2:=(by simpa using hc14);subst hfk;refine Qf (zM ?_);refine zF Yq ?_;refine zL Qq ?_;refine zV (Qu U) ?_;refine zF Yq ?_;refine zS ZD ?_;refine Qb (Qg ?_);exact YV (Ys U (fun w hw=>⟨_,I,_,U,zGN _,hw.subL (.drop .refl),U,U,U⟩))
 have hg2:f≠2:=(by simpa using hc14);refine zR (zC ?_);refine zA (zN ?_);refine zI ?_ ?_<;>intro hc21
 ·have hfk:f=3:=(by simpa using hc21);subst hfk;refine Qf (zM ?_);refine zF VJ ?_;refine zL Qq ?_;refine zV (Qu U) ?_;refine zF VJ ?_;refine zS ZD ?_;refine Qb (Qg ?_);exact YV (Ys U (fun w hw=>⟨_,I,_,U,zGN _,hw.subL (.drop .refl),U,U,U⟩))
 have hg3:f≠3:=(by simpa using hc21);refine zR (zC ?_);refine zA (zN ?_);refine zI ?_ ?_<;>intro hc28
 ·have hfk:f=4:=(by simpa using hc28);subst hfk;refine Qf (zM ?_);refine zF VE ?_;refine zL Qq ?_;refine zV (Qu U) ?_;refine zF VE ?_;refine zS ZD ?_;refine Qb (Qg ?_);exact YV (Ys U (fun w hw=>⟨_,I,_,U,zGN _,hw.subL (.drop .refl),U,U,U⟩))
 have hg4:f≠4:=(by simpa using hc28);refine zR (zC ?_);refine zA (zN ?_);refine zI ?_ ?_<;>intro hc35
 ·have hfk:f=5:=(by simpa using hc35);subst hfk;refine Qf (zM ?_);refine zF Yx ?_;refine zL Qq ?_;refine zV (Qu U) ?_;refine zF Yx ?_;refine zS ZD ?_;refine Qb (Qg ?_);exact YV (Ys U (fun w hw=>⟨_,I,_,U,zGN _,hw.subL (.drop .refl),U,U,U⟩))
 have hg5:f≠5:=(by simpa using hc35);refine zR (zC ?_);refine zA (zN ?_);refine zI ?_ ?_<;>intro hc42
 ·have hfk:f=6:=(by simpa using hc42);subst hfk;refine Qf (zM ?_);refine zF Jk ?_;refine zL Qq ?_;refine zV (Qu U) ?_;refine zF Jk ?_;refine zS ZD ?_;refine Qb (Qg ?_);exact YV (Ys U (fun w hw=>⟨_,I,_,U,zGN _,hw.subL (.drop .refl),U,U,U⟩))
 have hg6:f≠6:=(by simpa using hc42);refine zR (zC ?_);refine zA (zN ?_);refine zI ?_ ?_<;>intro hc49
 ·have hfk:f=7:=(by simpa using hc49);subst hfk;refine Qf (zM ?_);refine zF Yy ?_;refine zL Qq ?_;refine zV (Qu U) ?_;refine zF Yy ?_;refine zS ZD ?_;refine Qb (Qg ?_);exact YV (Ys U (fun w hw=>⟨_,I,_,U,zGN _,hw.subL (.drop .refl),U,U,U⟩))
 have hg7:f≠7:=(by simpa using hc49);refine zR (zC ?_);refine zA (zN ?_);refine zI ?_ ?_<;>intro hc56
 ·have hfk:f=8:=(by simpa using hc56);subst hfk;refine Qf (zM ?_);refine zF VT ?_;refine zL Qq ?_;refine zV (Qu U) ?_;refine zF VT ?_;refine zS ZD ?_;refine Qb (Qg ?_);exact YV (Ys U (fun w hw=>⟨_,I,_,U,zGN _,hw.subL (.drop .refl),U,U,U⟩))
 have hg8:f≠8:=(by simpa using hc56);refine zR (zC ?_);refine zA (zN ?_);refine zI ?_ ?_<;>intro hc63
 ·have hfk:f=9:=(by simpa using hc63);subst hfk;have hD:=zGN I;refine YZ ?_;refine ZA I [(b_5,.cells (Yp y).cells 28 (0,0))] mixed ?_;refine zT 0 U (Qj U) hD ?_;refine zT 1 U (Qj U) hD ?_;refine zT 2 U (Qe U Ym) hD ?_;refine zT 3 U (Qk U Zs (fun hg=>by exact Cells.s0 (vs:=[_,_]) U) U) hD ?_;refine zT 4 U (Qe U Yl) hD ?_;refine zT 5 U (Qk U Zs (fun hg=>by exact Cells.s0 (vs:=[_,_]) U) U) hD ?_;refine zT 6 U (Qu U) hD ?_;refine zT 7 U (Qe U Ym) hD ?_;refine qd 8 U ?_;refine YO U U YQ U U U U (by repeat (first | exact Upd.here | apply Upd.there | apply QH)) ?_;refine Qb ?_;refine zD hD ?_;refine zT 9 U (Qu U) hD ?_;refine zT 10 U (Qe U Yl) hD ?_;refine qd 11 U ?_;refine YO U U YQ U U U U (by repeat (first | exact Upd.here | apply Upd.there | apply QH)) ?_;refine Qb ?_;refine zD hD ?_;refine Qz kA ?_;refine QD ?_;refine Qg ?_;exact YV (Ys U (fun w hw=>⟨_,I,_,U,zGN _,hw.subL (.drop .refl),U,U,U⟩))
 have hg9:f≠9:=(by simpa using hc63);refine Qo (Qg ?_)
 first
 | (exfalso;unfold isF at hf;omega)
def exL (on:Int->Int->Bool)(l:List Pt)(xs:List Sg):List Sg:=(xs.filter fun x=>exB on l x.id).map (zf6 on l)
variable{x:Sg}
theorem zzO (hx:xs[k]? =some x)(h:exB on l x.id=true):exL on l (xs.take (k+1))=exL on l (xs.take k)++[zf6 on l x]:=by unfold exL;rw [ZI hx,jN,Oe,jb h];simp
theorem zD5 (hx:xs[k]? =some x)(h:exB on l x.id=false):exL on l (xs.take (k+1))=exL on l (xs.take k):=by unfold exL;rw [ZI hx,jN,Oe,ja (by rw [h];exact AH)];simp
theorem zxG :exL on l (xs.take 0)=[]:=by unfold exL;simp
def exE (on:Int->Int->Bool)(l:List Pt)(xs:List Sg):Int:=if (exL on l xs).length>4096 then 2 else 0
def zlP (e:Int)(xs:List Sg):Value->Qt->Go.Kn.Loc->Prop:=fun v I' L=>L=[]/\∃ av c,v= .tuple #[.slice av xs.length c,.int .i64 e]/\Sl I' 14 Zk av xs.length c xs
variable{e:Int}
theorem zlP.empty (h:xs=[]):zlP e xs (.tuple #[.slice none 0 0,.int .i64 e]) I []:=by subst h;exact ⟨U,none,0,U,.nil⟩
variable{ys:List Sg}
theorem zlP.good {e':Int}(h:e=e')(hx:ys=xs)(hS:Sl I 14 Zk av n c ys):zlP e' xs (.tuple #[.slice av n c,.int .i64 e]) I []:=by subst h;subst hx;have hn:=hS.len;subst hn;exact ⟨U,av,c,U,hS⟩
theorem zqd (h:l=[]):zoL x f l=x:=by subst h;rfl
theorem zpq (h:[p]<+:l):zoL x f l=VD x f p.nw:=by obtain ⟨t,rfl⟩:=h;rfl
variable{y:Sg}
theorem zil (hy:y=zeG on l x k):zoL y ((k:Int)+1) (VQ on l y.id ((k:Int)+1))=zeG on l x (k+1):=by subst hy;rw [zbk,(zem k).1]
theorem zEI (h:k<9):isF ((k:Int)+1):=by unfold isF;omega
theorem zkI :x=zeG on l x 0:=rfl
variable{bs:List Sg}{ws:List Int}
theorem zn6 (h:WZ ps bs ws≠0):zaY ps bs ws=WZ ps bs ws:=by unfold zaY;rw [jb h]
theorem ze8 (h:WZ ps bs ws=0):zaY ps bs ws=exE (onF ps) (ZY ps ws) (Uo bs (ZY ps ws)):=by unfold zaY;rw [ja kB];rfl
theorem zb5 (h:WZ ps bs ws=0):KV ps=0:=by
 by_cases h2:KV ps=0
 ·exact h2
 ·rw [zxJ h2] at h;exact h
theorem zwE (h:WZ ps bs ws=0):chkG bs=0:=by
 by_cases h2:chkG bs=0
 ·exact h2
 ·rw [zyD (zb5 h) h2] at h;exact h
theorem zD3 (h:WZ ps bs ws=0):Ver ps ws:=by
 by_cases h2:vrE ps ws=0
 ·exact (Xt (K6 (zb5 h))).1 (zon h2)
 ·rw [zwP (zb5 h) (zwE h) h2] at h;exact absurd h h2
theorem zl9 (h:WZ ps bs ws=0):∀ p∈ZY ps ws,zmG p:=fun p hp=>(W8 (zb5 h)).ok p (Vf.1 hp).1
theorem zhZ (bs:List Sg)(l:List Pt):(Uo bs l).length<=bs.length+l.length:=by have h:=(zc8 l bs).length_eq;rw [h,jh];unfold zcU;rw [jE];have:=j3 (fun p:Pt=>p.kind==2) l;omega
theorem zfR (hx:StQ I ps l xs r1 r2 r3 av n c)(hn:n<=100000)(hok:∀ p∈l,zmG p):ZQ Tryz.prog 48 [stA r1 r2 r3 av n c] I [] (zlP (exE (onF ps) l xs) (zoJ (exE (onF ps) l xs) (exL (onF ps) l xs))):=by
 intro g H w hw;refine zay Tryz.func48 U Tryz.ntmps48 U hw ?_;have hIc:=zGN I;refine zR ?_;refine QG U U U (fun b_1=>?_);refine zA ?_;refine zA (zN (Ql (Ql ?_)));refine Xh ((b_1,.cells #[.map (some r1),.map (some r2),.map (some r3),.slice av n c] 132 (0,0))::([]++MB _)) .refl ?_;refine Qf ?_;refine zF UN ?_;refine zL zeW ?_;refine zQ Q4 ?_;refine zM (zN (Qp ?_));refine Ud [(1,_),(9,_),(10,_)] (.cons U (.cons U (.cons U .nil))) (fun T L0 mz ms E I' loc'=>∃ (j:Nat) (v:Value) (q:Nat) (L:Go.Kn.Loc),mz=n-j/\E=(2,v)::(11,.int .i64 j)::T/\HLe I I'/\(b_1,.cells #[.map (some r1),.map (some r2),.map (some r3),.slice av n c] 132 (0,0))::(L++MB ms)=loc'/\j<=n/\OwnS 28 14 v q ((exL (onF ps) l (xs.take j)).flatMap Zk) L/\q<=j) _ _ _ _ ⟨0,_,0,[],U,U,zGN _,U,jf _,by rw [zxG];exact OwnS.nil,js _⟩ (.cons U (.cons U (.cons U (.cons U (.cons U .nil))))) (zGN _) U ?_;rintro mz ms E J1 loc' ⟨j,v,q,L,rfl,rfl,hJ,rfl,hj,hO,hq⟩;have hx:=hx.mono hJ;have hIc:=hIc.trans hJ;have hB0:=hJ;refine zR (zC (zN (Ql ?_)));refine zI ?_ ?_<;>intro hc12
 ·have hlt_j:j<n:=(by have h:=hc12;simp at h;omega);have hS:=hx.sg;obtain ⟨x,hxx⟩:=hS.at hlt_j;refine Qo (Qa (Ql (Qp (zR ?_))));refine zV (Qy U U Q4 kI (fun hg=>kB)) ?_;refine zV (Qk U QY (fun hg=>by exact zGO hS hxx) U) ?_;refine Qs UV U U (fun b_5=>?_);refine zh Yk ?_;refine zN (Ql (zR ?_));refine zV (Qk U YW (fun hg=>by exact Cells.g1) U) ?_;refine zF Zb ?_;refine zL Qq ?_;refine qcV (vs:=[_,_]) U ztN (zit hx hok _) ?_;refine zO (zN ?_);refine zI ?_ ?_<;>intro hc19
  ·have hex:=(jS _).mp hc19;refine QF (Qh (Qm (Qa (Qf (zB ?_)))));refine zM (Qb ?_)
   first
   | exact zd (h:=⟨n-(j+1),kB,j+1,_,_,_,U,U,hB0,U,kB,by rw [zD5 hxx hex];exact hO,kB⟩)
  have hex:=(Ox _).mp hc19;refine Qo (Qa (Ql (zR ?_)));refine Qs zsW U U (fun b_6=>?_);refine zS ZD ?_;refine zN (Qp ?_);refine Ud [(1,_),(2,_),(5,_),(9,_),(10,_),(11,_)] (.cons U (.cons U (.cons U (.cons U (.cons U (.cons U .nil)))))) (fun T L0 mz ms E I' loc'=>∃ (k:Nat) (b6:Nat) (y:Sg),mz=9-k/\E=(6,QZ b6)::T/\HLe J1 I'/\(b6,.cells #[.int .i64 ((k:Int)+1)] 3 (0,0))::(b_5,.cells (Zk y).toArray 28 (0,0))::(b_1,.cells #[.map (some r1),.map (some r2),.map (some r3),.slice av n c] 132 (0,0))::(L++MB ms)=loc'/\k<=9/\y=zeG (onF ps) l x k) _ _ _ _ ⟨0,b_6,x,U,U,zGN _,U,jf _,zkI⟩ (.cons U (.cons U (.cons U (.cons U (.cons U (.cons U (.cons U .nil))))))) (zGN _) U ?_;rintro mz ms E J2 loc' ⟨k,b6,y,rfl,rfl,hJ,rfl,hk,hy⟩;have hx:=hx.mono hJ;have hB0:=hB0.trans hJ;have hB2:=hJ;refine Ql (zR ?_);refine zL Qq ?_;refine zC (zN ?_);refine zI ?_ ?_<;>intro hc21
  ·have hlt_k:k<9:=(by have h:=hc21;simp at h;omega);refine Qo (Qa (Ql (Qp (zR ?_))));refine zV (Qk U YW (fun hg=>by exact Cells.g2) U) ?_;refine zF Zb ?_;refine zL Qq ?_;refine zL Qq ?_;refine zpc [_,_,_] U zsj .nil (zjw _ _ _ _ _ _ _ _ _) ?_;rintro vv3 I3 L3 hI3 ⟨rfl,c1,c2,c3,rfl,hcap⟩;have hx:=hx.mono hI3;have hB2:=hB2.trans hI3;refine zN (Qp ?_);refine UA (K:=[]) (L:=(b6,.cells #[.int .i64 ((k:Int)+1)] 3 (0,0))::(b_5,.cells (Zk y).toArray 28 (0,0))::(b_1,.cells #[.map (some r1),.map (some r2),.map (some r3),.slice av n c] 132 (0,0))::L) (enc:=UI) (xs:=VQ (onF ps) l y.id ((k:Int)+1)) (fun pre I' loc'=>pre=[]/\loc'=(b6,.cells #[.int .i64 ((k:Int)+1)] 3 (0,0))::(b_5,.cells (Zk y).toArray 28 (0,0))::(b_1,.cells #[.map (some r1),.map (some r2),.map (some r3),.slice av n c] 132 (0,0))::L) (fun cd pre I' loc'=>cd= .exit 4/\∃ p,pre=[p]/\loc'=(b_5,.cells (Zk (VD y ((k:Int)+1) p.nw)).toArray 28 (0,0))::(b6,.cells #[.int .i64 ((k:Int)+1)] 3 (0,0))::(b_1,.cells #[.map (some r1),.map (some r2),.map (some r3),.slice av n c] 132 (0,0))::L) (fun pre p E2 I2 loc2=>∃ b7:Nat,E2=[(5,QZ b_5),(6,QZ b6),(7,QZ b7)]/\pre=[]/\loc2=(b7,.cells (Yh p).toArray 53 (0,0))::(b6,.cells #[.int .i64 ((k:Int)+1)] 3 (0,0))::(b_5,.cells (Zk y).toArray 28 (0,0))::(b_1,.cells #[.map (some r1),.map (some r2),.map (some r3),.slice av n c] 132 (0,0))::L) U zl5 (znF hx hcap) U ⟨U,U⟩ ?_ ?_ ?_ ?_
   ·rintro l9 pre p I1 loc1 H1 hpre hI1 ⟨rfl,rfl⟩;refine Qf ?_;refine Qs Uf U U (fun b_7=>?_);refine zh VY ?_;refine Qb ?_;exact K9 _ ⟨zGN _,b_7,U,U,U⟩ (.cons U (.cons U (.cons U .nil)))
   ·rintro l9 pre p E2 I2 loc2 H2 hpre hI2 ⟨b7,rfl,rfl,rfl⟩;refine Qp (zR ?_);refine zL Qq ?_;refine zF VH ?_;refine zV (Qk U QY (fun hg=>by exact Cells.s0 (vs:=[_,_,_,_,_,_,_,_,_,_,_,_,_,_]) U) U) ?_;refine zpc [_,_,_] U zvR (by repeat (first | exact .cons .here .nil | exact QT | exact QO | apply Zi | apply Zd)) (zFc _ b_5 y _ p.nw (zEI hlt_k)) ?_;rintro vv4 I4 L4 hI4 ⟨rfl,rfl,rfl⟩;refine zN (QF ?_);refine zdM U ?_;exact zck ⟨zGN _,U,p,U,U⟩ (by repeat (first | exact .refl | refine .keep ?_ | refine .drop ?_))
   focus
    rintro bd I1 loc1 hI1 ⟨hnil,rfl⟩;have hB2:=hB2.trans hI1;have hy2:y=zeG (onF ps) l x (k+1):=(by rw [<-zil hy,zqd hnil]);refine Qg (Qg (Qa (Ql (zR ?_))))
   rotate_left
   rintro cd bd pre I1 loc1 hI1 hpre ⟨rfl,p,rfl,rfl⟩;have hB2:=hB2.trans hI1;have hy2:(VD y ((k:Int)+1) p.nw)=zeG (onF ps) l x (k+1):=(by rw [<-zil hy,zpq hpre]);refine QF (Qm (Qg (Qa (Ql (zR ?_)))))
   all_goals
    refine zL Qq ?_;refine zN (Qf ?_);refine Qs zsW U U (fun b_6=>?_);refine zS ZD ?_;refine zN (Qf ?_);refine zL Qq ?_;refine zB ?_;refine zS ZD ?_;refine Qb ?_;exact zn (h:=⟨9-(k+1),kB,k+1,_,_,U,U,hB2,U,kB,hy2⟩)
  have hge_k:9<=k:=(by have h:=hc21;simp at h;omega);have hk9:k=9:=kB;subst hk9;have hy:y=zf6 (onF ps) l x:=hy;subst hy;refine QF (Qh (Qh (Qm (Qa (Qf (zM ?_))))));refine zV (Qk U QY (fun hg=>by exact Cells.g1) U) ?_;refine zpb [(0,_)] [Zk (zf6 (onF ps) l x)] VG (fun b_37=>?_);refine zpa (_) ([zf6 (onF ps) l x].flatMap Zk) (L) U U VG hO ⟨U,fun _=>U,zGL⟩ (zgW [zf6 (onF ps) l x]) ?_;intro v9 L9 hO9 _;rw [<-jo] at hO9;refine zA (Qb (Qg (Qa (Qf ?_))));refine zB ?_;refine zM (Qb ?_)
  first
  | exact zex U U U _ _ (L9++((b_1,_)::MB _)) ⟨n-(j+1),kB,j+1,v9,_,L9,U,U,hB0,U,kB,by rw [zzO hxx hex];exact hO9,kB⟩ (.cons U (.cons U (.cons U (.cons U (.cons U .nil))))) O0.symm kH
 have hge_j:n<=j:=(by have h:=hc12;simp at h;omega);obtain ⟨va,vc,rfl⟩:=zfu hO;rw [jD (by rw [hx.sg.len];exact hge_j)] at hO;refine QF (Qh (Qh (Qm (Qa (Ql (zR (zM ?_)))))));refine zQ Q4 ?_;refine zC (zN ?_);refine zI ?_ ?_<;>intro hc42
 ·have hbig:exE (onF ps) l xs=2:=(by unfold exE;rw [jb];have h1:=hO.1;rw [ZF Z8] at h1;simp at hc42;omega);refine zR (zA ?_);refine zA (zN (Qr (Qc ?_)))
  first
  | exact Ye (L:=_::L) (fun a ha w hw=>ztG U U U a ha w) (fun w hw=>⟨_,J1,[],U,hIc,hw.drop,by rw [hbig];exact zlP.empty U⟩)
 have hbig:exE (onF ps) l xs=0:=(by unfold exE;rw [ja];have h1:=hO.1;rw [ZF Z8] at h1;simp at hc42;omega);refine Qo (Qa (zR (zM ?_)));refine zA ?_;refine zA (zN (Qr ?_))
 first
 | exact Ye (L:=_::L) (fun a ha w hw=>ztG U U U a ha w) (fun w hw=>by obtain ⟨I9,h91,h92,h93⟩:=OwnS.res hO Z8 kE (hw.subL (.drop .refl));obtain ⟨_,a9,c9,e9,h94⟩:=h93;cases e9;exact ⟨_,I9,[],U,hIc.trans h91,h92,by rw [hbig];exact zlP.good U U h94⟩)
variable{bv dv:Option Addr}{n2 c2 n3 c3:Nat}
theorem w_Signs (hP:SlP I av n c ps)(hn:n<=100000)(hB:Sl I 14 Zk bv n2 c2 bs)(hn2:n2<=100000)(hV:Sl I 1 Q3 dv n3 c3 ws)(hn3:n3<=100000):ZQ Tryz.prog 13 [.slice av n c,.slice bv n2 c2,.slice dv n3 c3] I [] (zlP (zaY ps bs ws) (zcz ps bs ws)):=by
 intro g H w hw;refine qe Tryz.func13 Tryz.ntmps13 hw ?_;have hIc:=zGN I;refine zR (zA ?_);refine zA ?_;refine zN (zR ?_);refine zM ?_;refine zM ?_;refine zM ?_;refine zpc [_,_,_] U zr2 .nil (zr1 hP hn hB hn2 hV hn3) ?_;rintro vv1 I1 L1 hI1 ⟨rfl,m1,m2,m3,a9,n9,c9,rfl,hst⟩;have hIc:=hIc.trans hI1;refine zM ?_;refine zE ?_;refine zE ?_;refine Qs zkE U U (fun b_8=>?_);refine zh US ?_;refine zA (zN (Ql (zR ?_)));refine zM ?_;refine zC (zN ?_);refine zI ?_ ?_<;>intro hc17
 ·have he:WZ ps bs ws≠0:=(by simpa using hc17);refine zR (zM ?_);refine zA ?_;refine zA (zN (Qr (Qc ?_)))
  first
  | exact Q9 U U U (fun w hw=>⟨_,I1,[],U,hIc,hw.drop,by unfold zcz;rw [zn6 he];exact zlP.empty (zdO he)⟩)
 have he:WZ ps bs ws=0:=(by simpa using hc17);obtain ⟨r1,r2,r3,rfl,rfl,rfl,hx⟩:=hst he;have hn9:n9<=5000:=(by have h1:=hx.sg.len;have h2:=zhZ bs (ZY ps ws);have h3:=hx.fewl;have h4:=(Y5 (zwE he)).1;omega);refine Qo (Qa (zR ?_));refine zV (Qk U YW (fun hg=>by exact Cells.g0) U) ?_;refine zpc [_] U zrT .nil (zfR hx kB (zl9 he)) ?_;rintro vv2 I2 L2 hI2 ⟨rfl,av8,c8,rfl,hR⟩;have hIc:=hIc.trans hI2;refine zE ?_;refine zE ?_;refine zA ?_;refine zA (zN (Qr ?_))
 first
 | exact Q9 U U U (fun w hw=>⟨_,I2,[],U,hIc,hw.drop,zlP.good (ze8 he).symm (by unfold zcz;rw [ze8 he];rfl) hR⟩)
def CsQ (I:Qt)(cs:List Cf)(K:List Ck):Prop:=(∀ z∈cs,Sl I 1 Q3 z.a z.n z.c z.ids)/\cs.map Cf.key=K
variable{I':Qt}{cs:List Cf}{K:List Ck}
theorem CsQ.mono (h:CsQ I cs K)(hI:HLe I I'):CsQ I' cs K:=⟨fun z hz=>(h.1 z hz).mono hI,h.2⟩
theorem CsQ.nil :CsQ I [] []:=⟨fun z hz=>(by cases hz),U⟩
variable{z:Cf}
theorem CsQ.snoc (h:CsQ I cs K)(hz:Sl I 1 Q3 z.a z.n z.c z.ids):CsQ I (cs++[z]) (K++[z.key]):=by
 refine ⟨fun y hy=>?_,by rw [jZ,h.2];rfl⟩;rcases jv.1 hy with hy | hy
 ·exact h.1 y hy
 ·simp at hy;subst hy;exact hz
theorem CsQ.congr {K':List Ck}(h:CsQ I cs K)(e:K=K'):CsQ I cs K':=e ▸ h
theorem zrl (hL:Lst l)(hok:∀ p∈l,zmG p):Lib.compact (YB (unK on l s 9++rmF l s))=(l.filter fun p=>p.sign==s&&(unB on l p||p.kind==3)).map (·.id):=by
 refine zaF (zcF hL _) fun x=>?_;rw [jv,zbG hok,zcd,zac];unfold unF;rw [zcd];constructor
 ·rintro (⟨p,hp,h,e⟩ | ⟨p,hp,hk,hs,e⟩)
  ·refine ⟨p,hp,?_,e⟩;rw [jj] at h ⊢;exact ⟨h.1,by rw [h.2];rfl⟩
  ·exact ⟨p,hp,by simp [hk,hs],e⟩
 ·rintro ⟨p,hp,h,e⟩;simp only [jj,OD,j0] at h;rcases h.2 with h2 | h2
  ·exact .inl ⟨p,hp,by simp [h.1,h2],e⟩
  ·exact .inr ⟨p,hp,h2,h.1,e⟩
theorem zsg (hok:∀ p∈l,zmG p):(unF on l s).isEmpty= !decide (((unK on l s 9).length:Int)>0):=by
 cases hu:unF on l s with
 | nil=>
  have:unK on l s 9=[]:=by
   cases hk:unK on l s 9 with
   | nil=>rfl
   | cons x us=>
    have:x∈(unF on l s).map (·.id):=(zbG hok).1 (by rw [hk];simp);rw [hu] at this;cases this
  rw [this];rfl
 | cons p us=>
  have:p.id∈unK on l s 9:=(zbG hok).2 (by rw [hu];simp);have h2:(unK on l s 9).length≠0:=fun h=>(by rw [jR.1 h] at this;cases this);simp;omega
theorem zvU (hL:Lst l)(hok:∀ p∈l,zmG p)(h:decide (((unK on l s 9).length:Int)>0)=true):cf0 on l s=[(s,0,Lib.compact (YB (unK on l s 9++rmF l s)))]:=by unfold cf0;rw [zsg hok,h,zrl hL hok];rfl
theorem zzo (hok:∀ p∈l,zmG p)(h:decide (((unK on l s 9).length:Int)>0)=false):cf0 on l s=[]:=by unfold cf0;rw [zsg hok,h];rfl
structure MvQ (m:List (Sg×Bool))(pre:List Pt):Prop where
 nodup:(m.map (·.1)).Nodup
 mem:∀ x,x∈m.map (·.1)↔ ∃ p∈pre,p.nw=x
theorem MvQ.nil:MvQ [] []:=⟨.nil,fun x=>by simp⟩
variable{m:List (Sg×Bool)}{pre:List Pt}
theorem MvQ.put (h:MvQ m pre)(p:Pt):MvQ (YM m p.nw true) (pre++[p]):=by
 refine ⟨XU _ _ h.nodup,fun x=>?_⟩;rw [Xw];split
 ·rename_i h2;rw [h.mem];constructor
  ·rintro ⟨q,hq,e⟩;exact ⟨q,by simp [hq],e⟩
  ·rintro ⟨q,hq,e⟩;rcases jv.1 hq with hq | hq
   ·exact ⟨q,hq,e⟩
   ·simp at hq;subst hq;rw [h.mem] at h2;rw [e] at h2;exact h2
 ·rw [jv,h.mem];constructor
  ·rintro (⟨q,hq,e⟩ | h3)
   ·exact ⟨q,by simp [hq],e⟩
   ·simp at h3;exact ⟨p,by simp,h3.symm⟩
  ·rintro ⟨q,hq,e⟩;rcases jv.1 hq with hq | hq
   ·exact .inl ⟨q,hq,e⟩
   ·simp at hq;subst hq;exact .inr (by simp [e])
theorem zsR {xs:List Pt}(h:MvQ m xs):decide (((m.length:Nat):Int)>1)=zkz xs:=by
 rw [jL,jQ]
 cases xs with
 | nil=>
  have:m=[]:=by
   cases m with
   | nil=>rfl
   | cons q m=>have:=(h.mem q.1).1 kK;simp at this
  subst this;simp [zkz]
 | cons p ps=>
  unfold zkz;rw [ju];constructor
  ·intro hl
   match m,h with
   | a::b::m,h=>
    have hnd:=h.nodup;simp only [jx,OQ,jp,B8] at hnd;obtain ⟨qa,hqa,ea⟩:=(h.mem a.1).1 kK;obtain ⟨qb,hqb,eb⟩:=(h.mem b.1).1 kK;have hne:qa.nw≠qb.nw:=(by rw [ea,eb];exact hnd.1.1);by_cases hp:qa.nw=p.nw
    ·rcases jp.1 hqb with rfl | hqb
     ·exact absurd hp hne
     ·refine ⟨qb,hqb,?_⟩;rw [jS]
      cases hs:WW qb.nw p.nw with
      | false=>rfl
      | true=>exact absurd (by rw [hp];exact (VF.1 hs).symm) hne
    ·rcases jp.1 hqa with rfl | hqa
     ·exact absurd U hp
     ·refine ⟨qa,hqa,?_⟩;rw [jS]
      cases hs:WW qa.nw p.nw with
      | false=>rfl
      | true=>exact absurd (VF.1 hs) hp
   | [a],_=>simp at hl
   | [],_=>simp at hl
  ·rintro ⟨q,hq,hs⟩;rw [jS] at hs;have hne:=zmS hs;have h1:p.nw∈m.map (·.1):=(h.mem _).2 ⟨p,by simp,U⟩;have h2:q.nw∈m.map (·.1):=(h.mem _).2 ⟨q,by simp [hq],U⟩
   match m,h1,h2 with
   | a::b::m,_,_=>simp;omega
   | [a],h1,h2=>
    simp at h1 h2;exact absurd (by rw [h1,h2]) hne
   | [],h1,_=>simp at h1
def cfR (on:Int->Int->Bool)(l:List Pt)(s:Int)(k:Nat):List Ck:=(List.range k).flatMap fun (j:Nat)=>cfK on l s ((j:Int)+1)
theorem zhJ (on:Int->Int->Bool)(l:List Pt)(s:Int)(k:Nat):cfR on l s (k+1)=cfR on l s k++cfK on l s ((k:Int)+1):=by unfold cfR;rw [Ou,jo];simp
theorem zvC (h:exB on l s=true)(h2:zkz (VQ on l s f)=true):cfK on l s f=[(s,f,(VQ on l s f).map (·.id))]:=by unfold cfK;rw [h,h2];rfl
theorem zDD (h2:zkz (VQ on l s f)=false):cfK on l s f=[]:=by unfold cfK;rw [h2,Aa];rfl
theorem zyE (hk:k<=9)(h:(decide ((k:Int)+1<=9)&&exB on l s)=false):cf0 on l s++cfR on l s k=cfS on l s:=by
 unfold cfS cfR;congr 1;rw [Bu] at h;rcases h with h | h
 ·simp at h;rw [show k=9 by omega]
 ·have e:∀ j,cfK on l s j=[]:=fun j=>by unfold cfK;rw [h];rfl
  have e2:∀ r:List Nat,(r.flatMap fun (j:Nat)=>cfK on l s ((j:Int)+1))=[]:=fun r=>by
   rw [Ak];exact fun j _=>e _
  rw [e2,e2]
theorem zhv {x y:Nat×Obj}{L M:Go.Kn.Loc}:(x::y::(L++M)).Perm (L++(x::y::M)):=Ol [x,y] L M
theorem zrE (hx:xs[j]? =some x)(f:Sg->List Ck):(xs.take (j+1)).flatMap f=(xs.take j).flatMap f++f x:=by rw [ZI hx,jo];simp
theorem zmi {e q:Nat}{v:Value}{L:Go.Kn.Loc}(h:pre++[p]<+:VQ on l s f)(hO:OwnS e 1 v q ((pre.map (·.id)).flatMap Q3) L)(hl:l.length<=512):q<=512:=by have h1:=hO.1;rw [zEy,jE] at h1;have h2:=h.length_le;rw [jh] at h2;have h3:(VQ on l s f).length<=(stF l s f).length:=j3 ..;have h4:=WP (l:=l) (s:=s) (f:=f);omega
theorem zCJ (hl:l.length<=512):(unK on l s 9).length<=5000:=by have h1:=zk5 (on:=on) (l:=l) (s:=s) 9;have h2:9*l.length<=9*512:=O7 9 hl;omega
def zy0 (e:Int)(K:List Ck):Value->Qt->Go.Kn.Loc->Prop:=fun v I' L=>L=[]/\∃ cs av c,v= .tuple #[.slice av cs.length c,.int .i64 e]/\SlC I' av cs.length c cs/\cs.map Cf.key=K
theorem zy0.empty (h:K=[]):zy0 e K (.tuple #[.slice none 0 0,.int .i64 e]) I []:=by subst h;exact ⟨U,[],none,0,U,⟨.nil,fun z hz=>by cases hz⟩,U⟩
theorem zrN:VR (α:=Sg) Tryz.prog 28 Yp:=zkT (enc:=Zk) U2 (fun _=>U) (fun a b=>(show JS _ (Zk a) (Zk b)=some (WW a b) from U).trans (jr some (by rw [jL,jQ];exact VF))) (fun a=>by simp [Zk,Instr.sameBits])
theorem zgT (hP:SlP I av n c ps)(hn:n<=100000)(hB:Sl I 14 Zk bv n2 c2 bs)(hn2:n2<=100000)(hV:Sl I 1 Q3 dv n3 c3 ws)(hn3:n3<=100000):ZQ Tryz.prog 14 [.slice av n c,.slice bv n2 c2,.slice dv n3 c3] I [] (zy0 (zaY ps bs ws) (zyg ps bs ws)):=by
 intro g H w hw;refine zay Tryz.func14 U Tryz.ntmps14 U hw ?_;have hIc:=zGN I;refine zR (zA ?_);refine zA ?_;refine zN (zR ?_);refine zM ?_;refine zM ?_;refine zM ?_;refine zpc [_,_,_] U zr2 .nil (zr1 hP hn hB hn2 hV hn3) ?_;rintro vv1 I1 L1 hI1 ⟨rfl,m1,m2,m3,a9,n9,c9,rfl,hst⟩;have hIc:=hIc.trans hI1;refine zM ?_;refine zE ?_;refine zE ?_;refine Qs zkE U U (fun b_8=>?_);refine zh US ?_;refine zA (zN (Ql (zR ?_)));refine zM ?_;refine zC (zN ?_);refine zI ?_ ?_<;>intro hc24
 ·have he:WZ ps bs ws≠0:=(by simpa using hc24);refine zR (zM ?_);refine zA ?_;refine zA (zN (Qr (Qc ?_)))
  first
  | exact Ye (L:=[_]) (fun a ha w hw=>ztG U U U a ha w) (fun w hw=>⟨_,I1,[],U,hIc,hw.drop,by unfold zyg;rw [zn6 he];exact zy0.empty (zdO he)⟩)
 have he:WZ ps bs ws=0:=(by simpa using hc24);obtain ⟨r1,r2,r3,rfl,rfl,rfl,hx⟩:=hst he;have hn9:n9<=5000:=(by have h1:=hx.sg.len;have h2:=zhZ bs (ZY ps ws);have h3:=hx.fewl;have h4:=(Y5 (zwE he)).1;omega);have hok:=zl9 he;have hL:=zh5 (K6 (zb5 he)) (zD3 he);refine Qo (Qa (Ql (zR ?_)));refine zV (Qk U YW (fun hg=>by exact Cells.g0) U) ?_;refine zpc [_] U zrT .nil (zfR hx kB (zl9 he)) ?_;rintro vv2 I2 L2 hI2 ⟨rfl,av8,c8,rfl,hR⟩;have hx:=hx.mono hI2;have hIc:=hIc.trans hI2;refine zM ?_;refine zE ?_;refine zE ?_;refine zA ?_;refine zN (zR ?_);refine zM ?_;refine zC (zN ?_);refine zI ?_ ?_<;>intro hc32
 ·have hx2:exE (onF ps) (ZY ps ws) (Uo bs (ZY ps ws))≠0:=(by simpa using hc32);refine zR (zM ?_);refine zA ?_;refine zA (zN (Qr (Qc ?_)))
  first
  | exact Ye (L:=[_]) (fun a ha w hw=>ztG U U U a ha w) (fun w hw=>⟨_,I2,[],U,hIc,hw.drop,by unfold zyg;rw [ze8 he];exact zy0.empty (zdO hx2)⟩)
 have hx2:exE (onF ps) (ZY ps ws) (Uo bs (ZY ps ws))=0:=(by simpa using hc32);refine Qo (Qa (Ql (Ql ?_)));refine Xh ((b_8,.cells #[.map (some r1),.map (some r2),.map (some r3),.slice a9 n9 c9] 132 (0,0))::([]++MB _)) .refl ?_;refine Qf ?_;refine zF UN ?_;refine zL zeW ?_;refine zQ Q4 ?_;refine zM (zN (Qp ?_));refine Ud [(8,_),(35,_),(36,_)] (.cons U (.cons U (.cons U .nil))) (fun T L0 mz ms E I' loc'=>∃ (j:Nat) (v:Value) (q:Nat) (cs:List Cf) (L:Go.Kn.Loc),mz=n9-j/\E=(6,v)::(37,.int .i64 j)::T/\HLe I2 I'/\(b_8,.cells #[.map (some r1),.map (some r2),.map (some r3),.slice a9 n9 c9] 132 (0,0))::(L++MB ms)=loc'/\j<=n9/\OwnS 139 3 v q (cs.flatMap zoI) L/\q<=j*10/\CsQ I' cs (((Uo bs (ZY ps ws)).take j).flatMap (fun x=>cfS (onF ps) (ZY ps ws) x.id))) _ _ _ _ ⟨0,_,0,[],[],U,U,zGN _,U,jf _,OwnS.nil,jf _,CsQ.nil⟩ (.cons U (.cons U (.cons U (.cons U (.cons U .nil))))) (zGN _) U ?_;rintro mz ms E J3 loc' ⟨j,v,q,cs,L,rfl,rfl,hJ,rfl,hj,hO,hq,hcs⟩;have hx:=hx.mono hJ;have hIc:=hIc.trans hJ;have hB0:=hJ;refine zR (zC (zN (Ql ?_)));refine zI ?_ ?_<;>intro hc38
 ·have hlt_j:j<n9:=(by have h:=hc38;simp at h;omega);have hS:=hx.sg;obtain ⟨x,hxx⟩:=hS.at hlt_j;refine Qo (Qa (Ql (Qp (zR ?_))));refine zV (Qy U U Q4 kI (fun hg=>kB)) ?_;refine zV (Qk U QY (fun hg=>by exact zGO hS hxx) U) ?_;refine Qs UV U U (fun b_10=>?_);refine zh Yk ?_;refine zN ?_;refine zkg [(8,_),(10,_),(35,_),(36,_),(37,_)] (.cons U (.cons U (.cons U (.cons U (.cons U .nil))))) (fun T L0 ms E I' loc'=>∃ (v:Value) (q:Nat) (cs:List Cf) (L:Go.Kn.Loc),E=(6,v)::T/\HLe J3 I'/\(b_10,.cells (Zk x).toArray 28 (0,0))::(b_8,.cells #[.map (some r1),.map (some r2),.map (some r3),.slice a9 n9 c9] 132 (0,0))::(L++MB ms)=loc'/\OwnS 139 3 v q (cs.flatMap zoI) L/\q<=j*10+1/\CsQ I' cs (((Uo bs (ZY ps ws)).take j).flatMap (fun x=>cfS (onF ps) (ZY ps ws) x.id)++cf0 (onF ps) (ZY ps ws) x.id)) ?_ ?_
  ·have hKc10:=zGN J3;refine zR ?_;refine zV (Qk U YW (fun hg=>by exact Cells.g1) U) ?_;refine zF Zb ?_;refine zL Qq ?_;refine zpc [_,_] U zte .nil (zim hx x.id) ?_;rintro vv4 I4 L4 hI4 ⟨rfl,avk,ck,rfl,hk0⟩;have hx:=hx.mono hI4;have hcs:=hcs.mono hI4;have hKc10:=hKc10.trans hI4;refine zA ?_;refine zN (zR ?_);refine zM ?_;refine zQ Qx ?_;refine zC (zN ?_);refine zI ?_ ?_<;>intro hc47
   ·obtain ⟨mr,hmr,hrem⟩:=hx.rem;obtain ⟨av3,c3,hv3,hS3⟩:=hrem x.id;have hkl:=zCJ (on:=onF ps) (s:=x.id) hx.fewl;have hrl:=jT (zsU (l:=(ZY ps ws)) (s:=x.id)) hx.fewl;have hD:=zGN I4;refine YZ ?_;refine ZA I4 [(b_10,.cells (Zk x).toArray 28 (0,0)),(b_8,.cells #[.map (some r1),.map (some r2),.map (some r3),.slice a9 n9 c9] 132 (0,0))] mixed ?_;refine zT 0 U (Qj U) hD ?_;refine zT 1 U (Qe U Zb) hD ?_;refine zT 2 U (Qd U Qq (fun hg=>by exact QB.h0 U)) hD ?_;refine zT 3 U (Qj U) hD ?_;refine zT 4 U (Qe U UL) hD ?_;refine zT 5 U (Qd U zbU (fun hg=>by exact QB.h1 U)) hD ?_;refine zT 6 U (Qe U Zb) hD ?_;refine zT 7 U (Qd U Qq (fun hg=>by exact QB.h0 U)) hD ?_;refine zT 8 U (Ji (m:=mr) (ek:=Value.int .i64) (a:=x.id) hv3 JC Z3 U U (fun _=>.inl hmr)) hD ?_;refine qd 9 U ?_;refine zpc [_,_] U zty .nil (zla hk0 kB hS3 kB) ?_;rintro vv5 I5 L5 hI5 ⟨rfl,avu,cu,rfl,hU⟩;have hcs:=hcs.mono hI5;have hKc10:=hKc10.trans hI5;have hD:=hD.trans hI5;refine Qb ?_;refine zD hD ?_;refine zT 10 U (QC (ps:=[(0,_),(2,_)]) [_,_,_] zos U U) hD ?_;refine qd 11 U ?_;refine zpb [(0,_)] [zoI (⟨x.id,0,avu,(Lib.compact (YB (unK (onF ps) (ZY ps ws) x.id 9++rmF (ZY ps ws) x.id))).length,cu,(Lib.compact (YB (unK (onF ps) (ZY ps ws) x.id 9++rmF (ZY ps ws) x.id)))⟩:Cf)] ziZ (fun b_59=>?_);refine Qb ?_;refine zD hD ?_;refine qd 12 U ?_;refine zpa (_) ([(⟨x.id,0,avu,(Lib.compact (YB (unK (onF ps) (ZY ps ws) x.id 9++rmF (ZY ps ws) x.id))).length,cu,(Lib.compact (YB (unK (onF ps) (ZY ps ws) x.id 9++rmF (ZY ps ws) x.id)))⟩:Cf)].flatMap zoI) (L) U U ziZ hO ⟨U,fun _=>U,zGL⟩ (zze [(⟨x.id,0,avu,(Lib.compact (YB (unK (onF ps) (ZY ps ws) x.id 9++rmF (ZY ps ws) x.id))).length,cu,(Lib.compact (YB (unK (onF ps) (ZY ps ws) x.id 9++rmF (ZY ps ws) x.id)))⟩:Cf)]) ?_;intro v9 L9 hO9 _;rw [<-jo] at hO9;refine Qb ?_;refine zD hD ?_;refine zT 13 U (QU U) hD ?_;refine Qz kA ?_;refine QD ?_
    first
    | exact zex U U U _ _ (L9++((b_10,_)::(b_8,_)::MB _)) ⟨v9,_,_,L9,U,hKc10,U,hO9,kB,(hcs.snoc (z:=(⟨x.id,0,avu,(Lib.compact (YB (unK (onF ps) (ZY ps ws) x.id 9++rmF (ZY ps ws) x.id))).length,cu,(Lib.compact (YB (unK (onF ps) (ZY ps ws) x.id 9++rmF (ZY ps ws) x.id)))⟩:Cf)) hU).congr (by rw [zvU hL hok hc47];rfl)⟩ (.cons U (.cons U (.cons U (.cons U (.cons U (.cons U .nil)))))) zhv kH
   refine Qo ?_;exact zd (h:=⟨_,_,_,_,U,hKc10,U,hO,kB,hcs.congr (by rw [zzo hok hc47,jz])⟩)
  rintro ms E J6 loc' ⟨v,q,cs,L,rfl,hJc,rfl,hO,hq,hcs1⟩;have hx:=hx.mono hJc;have hcs:=hcs.mono hJc;have hB0:=hB0.trans hJc;refine zR (zA (zN (Qp ?_)));refine Ud [(8,_),(10,_),(35,_),(36,_),(37,_)] (.cons U (.cons U (.cons U (.cons U (.cons U .nil))))) (fun T L0 mz ms E I' loc'=>∃ (k:Nat) (v:Value) (q:Nat) (cs:List Cf) (L:Go.Kn.Loc),mz=9-k/\E=(6,v)::(12,.int .i64 ((k:Int)+1))::T/\HLe J6 I'/\(b_10,.cells (Zk x).toArray 28 (0,0))::(b_8,.cells #[.map (some r1),.map (some r2),.map (some r3),.slice a9 n9 c9] 132 (0,0))::(L++MB ms)=loc'/\k<=9/\OwnS 139 3 v q (cs.flatMap zoI) L/\q<=j*10+1+k/\CsQ I' cs ((((Uo bs (ZY ps ws)).take j).flatMap (fun x=>cfS (onF ps) (ZY ps ws) x.id)++cf0 (onF ps) (ZY ps ws) x.id)++cfR (onF ps) (ZY ps ws) x.id k)) _ _ _ _ ⟨0,v,q,cs,L,U,U,zGN _,U,jf _,hO,hq,hcs1.congr (by rw [show cfR (onF ps) (ZY ps ws) x.id 0=[] from U,jz])⟩ (.cons U (.cons U (.cons U (.cons U (.cons U (.cons U (.cons U .nil))))))) (zGN _) U ?_;rintro mz ms E J7 loc' ⟨k,v,q,cs,L,rfl,rfl,hJ,rfl,hk,hO,hq,hcs2⟩;have hx:=hx.mono hJ;have hB0:=hB0.trans hJ;have hB2:=hJ;refine Ql (zR (zM ?_));refine zC ?_;refine zM ?_;refine QA 2 U U U ?_;refine zK (Qk U YW (fun hg=>by exact Cells.g1) U) ?_;refine zK (Qe U Zb) ?_;refine zK (Qd U Qq (fun hg=>by exact QB.h0 U)) ?_;refine qg (vs:=[_,_]) U ztN (fun hg=>zit hx hok _) ?_;refine QE U U U U U ?_;refine zN ?_;refine zI ?_ ?_<;>intro hc68
  ·have hex:=((jj _ _).mp hc68).2;have hlt_k:k<9:=(by have h:=((jj _ _).mp hc68).1;simp at h;omega);refine Qo (Qa (Ql (Qp (zR ?_))));refine ZV U U (fun r_71=>?_);refine Qs zAM U U (fun b_13=>?_);refine Qs YI U U (fun b_14=>?_);refine zS zv7 ?_;refine zS Ze ?_;refine zN (Ql (zR ?_));refine zV (Qk U YW (fun hg=>by exact Cells.g4) U) ?_;refine zF Zb ?_;refine zL Qq ?_;refine zM ?_;refine zpc [_,_,_] U zsj .nil (zjw _ _ _ _ _ _ _ _ _) ?_;rintro vv8 I8 L8 hI8 ⟨rfl,c1,c2,c3,rfl,hcap⟩;have hx:=hx.mono hI8;have hcs2:=hcs2.mono hI8;have hB2:=hB2.trans hI8;refine zN (Qp ?_);refine UA (K:=[]) (L:=[]++((b_14,.cells #[.slice none 0 0] 37 (0,0))::(b_13,.cells #[.map (some r_71)] 141 (0,0))::(r_71,Z7 Yp Value.bool [])::(b_10,.cells (Zk x).toArray 28 (0,0))::(b_8,.cells #[.map (some r1),.map (some r2),.map (some r3),.slice a9 n9 c9] 132 (0,0))::L)) (enc:=UI) (xs:=(VQ (onF ps) (ZY ps ws) x.id ((k:Int)+1))) (fun pre I' loc'=>∃ (m9:List (Sg×Bool)) (v9:Value) (q9:Nat) (L9:Go.Kn.Loc),MvQ m9 pre/\OwnS 3 1 v9 q9 ((pre.map (·.id)).flatMap Q3) L9/\loc'=L9++((b_14,.cells #[v9] 37 (0,0))::(b_13,.cells #[.map (some r_71)] 141 (0,0))::(r_71,Z7 Yp Value.bool m9)::(b_10,.cells (Zk x).toArray 28 (0,0))::(b_8,.cells #[.map (some r1),.map (some r2),.map (some r3),.slice a9 n9 c9] 132 (0,0))::L)) (fun _ _ _ _=>False) (fun pre p E2 I2 loc2=>∃ (b15:Nat) (m9:List (Sg×Bool)) (v9:Value) (q9:Nat) (L9:Go.Kn.Loc),E2=[(13,QZ b_13),(14,QZ b_14),(15,QZ b15)]/\MvQ m9 pre/\OwnS 3 1 v9 q9 ((pre.map (·.id)).flatMap Q3) L9/\loc2=(b15,.cells (Yh p).toArray 53 (0,0))::(L9++((b_14,.cells #[v9] 37 (0,0))::(b_13,.cells #[.map (some r_71)] 141 (0,0))::(r_71,Z7 Yp Value.bool m9)::(b_10,.cells (Zk x).toArray 28 (0,0))::(b_8,.cells #[.map (some r1),.map (some r2),.map (some r3),.slice a9 n9 c9] 132 (0,0))::L))) U zl5 (znF hx hcap) U ⟨[],_,0,[],MvQ.nil,OwnS.nil,U⟩ ?_ ?_ ?_ ?_
   ·rintro l9 pre p I1 loc1 H1 hpre hI1 ⟨m9,v9,q9,L9,hmv,hO9,rfl⟩;refine Qf ?_;refine Qs Uf U U (fun b_15=>?_);refine zh VY ?_;refine Qb ?_;exact K9 _ ⟨zGN _,b_15,m9,v9,q9,L9,U,hmv,hO9,U⟩ (.cons U (.cons U (.cons U .nil)))
   ·rintro l9 pre p E2 I2 loc2 H2 hpre hI2 ⟨b15,m9,v9,q9,L9,rfl,hmv,hO9,rfl⟩;have hql:=zmi hpre hO9 hx.fewl;refine Qp ?_;have hD:=zGN I2;refine YZ ?_;refine ZA I2 [(b15,.cells (Yh p).toArray 53 (0,0)),(b_13,.cells #[.map (some r_71)] 141 (0,0))] mixed ?_;refine zT 0 U (Qd U zlA (fun hg=>by exact QB.h1 U)) hD ?_;refine zT 1 U (Qe U VH) hD ?_;refine zT 2 U (Qk U QY (fun hg=>by exact Cells.s0 (vs:=[_,_,_,_,_,_,_,_,_,_,_,_,_,_]) U) U) hD ?_;refine zT 4 U (Qe U Zy) hD ?_;refine zT 5 U (Qd U Qq (fun hg=>by exact QB.h0 U)) hD ?_;refine Zo 3 6 U U kA ?_ ?_
    focus
     refine zV (Qd U QK (fun hg=>by (repeat (first | exact zGI U | apply zGH | apply zGJ)))) ?_;refine Qb ?_;refine zD hD ?_;refine qd 6 U ?_;refine zpb [(0,_)] [Q3 p.id] Zw (fun b_84=>?_)
    rotate_left
    refine zpb [(0,_)] [Q3 p.id] Zw (fun b_84=>?_);refine Qb ?_;refine zD hD ?_;refine qd 3 U ?_;refine zV (Qd U QK (fun hg=>by (repeat (first | exact zGI U | apply zGH | apply zGJ)))) ?_
    all_goals
     refine Qb ?_;refine zD hD ?_;refine qd 7 U ?_;refine zpa (_) ([p.id].flatMap Q3) (L9) U U Zw hO9 ⟨U,fun _=>U,zGL⟩ (JH [p.id]) ?_;intro v8 L8 hO8 _;obtain ⟨va8,vc8,rfl⟩:=zfu hO8;refine Qb ?_;refine zD hD ?_;refine qd 8 U ?_;refine Q6 (m:=m9) (ek:=Yp) (ev:=Value.bool) (a:=p.nw) true zgI zrN U U U U (by repeat (first | exact Upd.here | apply Upd.there | apply QH)) ?_;refine Qb ?_;refine zD hD ?_;refine qd 9 U ?_;refine zS Ze ?_;refine Qb ?_;refine zD hD ?_;refine Qz kA ?_;refine QD ?_;refine Qg ?_;exact KH ⟨zGN _,YM m9 p.nw true,_,_,L8,hmv.put p,by rw [jZ,jo];exact hO8,U⟩ (by repeat (first | exact .refl | refine Zr ?_ | refine .drop ?_))
   ·rintro bd I1 loc1 hI1 ⟨m9,v9,q9,L9,hmv,hO9,rfl⟩;have hcs2:=hcs2.mono hI1;have hB2:=hB2.trans hI1;simp only [jn,OE];refine Qg (Qa (zR ?_));refine zV (Qd U zlA (fun hg=>by (repeat (first | exact zGI U | apply zGH | apply zGJ)))) ?_;refine zV (zvu (m:=m9) (ek:=Yp) (ev:=Value.bool) U zgI (fun _=>.inr kK)) ?_;refine zC (zN ?_);refine zI ?_ ?_<;>intro hc88
    ·have hdf:zkz (VQ (onF ps) (ZY ps ws) x.id ((k:Int)+1))=true:=(by rw [<-zsR hmv];exact hc88);refine zx4 hO9 Zh (fun I9 hI9 afi cfi efi hIds=>?_);subst efi;have hcs2:=hcs2.mono hI9;have hB2:=hB2.trans hI9;refine Qf (zM ?_);refine zF Zb ?_;refine zL Qq ?_;refine zM ?_;refine zL QK ?_;refine zV (QC (ps:=[(0,_),(1,_),(2,_)]) [_,_,_] zos U U) ?_;refine zpb [(0,_)] [zoI (⟨x.id,(k:Int)+1,afi,q9,cfi,(VQ (onF ps) (ZY ps ws) x.id ((k:Int)+1)).map (·.id)⟩:Cf)] ziZ (fun b_95=>?_);refine zpa (_) ([(⟨x.id,(k:Int)+1,afi,q9,cfi,(VQ (onF ps) (ZY ps ws) x.id ((k:Int)+1)).map (·.id)⟩:Cf)].flatMap zoI) (L) U U ziZ hO ⟨U,fun _=>U,zGL⟩ (zze [(⟨x.id,(k:Int)+1,afi,q9,cfi,(VQ (onF ps) (ZY ps ws) x.id ((k:Int)+1)).map (·.id)⟩:Cf)]) ?_;intro v7 L7 hO7 _;rw [<-jo] at hO7;refine zA (Qb (Qg (Qa (Qf ?_))));refine zM ?_;refine zB ?_;refine zA (Qb ?_)
     first
     | exact zex U U U _ _ (L7++((b_10,_)::(b_8,_)::MB _)) ⟨9-(k+1),kB,k+1,v7,_,_,L7,U,U,hB2,U,kB,hO7,kB,(hcs2.snoc (z:=(⟨x.id,(k:Int)+1,afi,q9,cfi,(VQ (onF ps) (ZY ps ws) x.id ((k:Int)+1)).map (·.id)⟩:Cf)) hIds).congr (by rw [zhJ,zvC hex hdf];simp only [jn];rfl)⟩ (.cons U (.cons U (.cons U (.cons U (.cons U (.cons U (.cons U .nil))))))) zhv kH
    have hdf:zkz (VQ (onF ps) (ZY ps ws) x.id ((k:Int)+1))=false:=(by rw [<-zsR hmv];exact hc88);refine Qo (Qg (Qa (Qf (zM ?_))));refine zB ?_;refine zA (Qb ?_)
    first
    | exact zd (h:=⟨9-(k+1),kB,k+1,_,_,_,_,U,U,hB2,U,kB,hO,kB,hcs2.congr (by rw [zhJ,zDD hdf];simp)⟩)
   rintro cd bd pre I1 loc1 hI1 hpre hF;exact hF.elim
  have hend:=hc68;refine QF (Qh (Qh (Qm (Qg (Qa (Qf (zB ?_)))))));refine zM (Qb ?_);exact zd (h:=⟨n9-(j+1),kB,j+1,_,_,_,_,U,U,hB0,U,kB,hO,kB,hcs2.congr (by rw [zrE hxx,<-zyE hk hend];simp only [jn])⟩)
 have hge_j:n9<=j:=(by have h:=hc38;simp at h;omega);rw [jD (by rw [hx.sg.len];exact hge_j)] at hcs;refine QF (Qh (Qh (Qm (Qa (zR (zM ?_))))));refine zA ?_;refine zA (zN (Qr ?_))
 first
 | exact Ye (L:=_::L) (fun a ha w hw=>ztG U U U a ha w) (fun w hw=>by obtain ⟨I9,h91,h92,h93⟩:=OwnS.res hO zpF kE (hw.subL (.drop .refl));obtain ⟨_,a9,c9,e9,h94⟩:=h93;subst e9;exact ⟨_,I9,[],U,hIc.trans h91,h92,U,cs,a9,c9,by rw [ze8 he,hx2],⟨h94,fun z hz=>(hcs.1 z hz).mono h91⟩,by unfold zyg;rw [ze8 he,zal hx2];exact hcs.2⟩)
theorem zu8 (hS:Sl I 14 Zk av n c xs)(hn:n<=100000)(hT:Sl I 14 Zk bv n2 c2 ys):Zt Tryz.prog 15 [.slice av n c,.slice bv n2 c2] I (.bool (zhh xs ys)):=by
 intro g H w hw;refine qe Tryz.func15 Tryz.ntmps15 hw ?_;refine zR (zA (zN (Ql (zR ?_))));refine zM ?_;refine zQ Q4 ?_;refine zM ?_;refine zQ Q4 ?_;refine zC (zN ?_);refine zI ?_ ?_<;>intro hc10
 ·refine zR (zA (zN (Qr (Qc ?_))))
  first
  | exact zr U U (by rw [zpf hS.len hT.len (by simp at hc10;omega)])
 have hnn:n=n2:=(by simp at hc10;omega);refine Qo (Qa (Ql (zR (zA (zN (Qp ?_))))));refine zU [(0,_),(1,_)] (fun T L0 mz E I' loc'=>∃ (k:Nat),mz=n-k/\E=(5,.int .i64 k)::T/\I=I'/\L0=loc'/\k<=n/\xs.take k=ys.take k) ?_ (h:=⟨0,U,U,U,U,jf _,U⟩);rintro mz E I' loc' ⟨k,rfl,rfl,rfl,rfl,hk,he⟩;refine Ql (zR (zM ?_));refine zM ?_;refine zQ Q4 ?_;refine zC (zN ?_);refine zI ?_ ?_<;>intro hc14
 ·have hlt_k:k<n:=(by have h:=hc14;simp at h;omega);obtain ⟨x,hx⟩:=hS.at hlt_k;obtain ⟨y,hy⟩:=hT.at (show k<n2 by omega);refine Qo (Qa (Ql (Qp (Ql ?_))));refine YE mixed kA ?_;refine zq (Qj U) ?_;refine zq (Qj U) ?_;refine zq (Qy U U Q4 kI (fun hg=>kB)) ?_;refine zq (Qk U QY (fun hg=>by exact zGO hS hx) U) ?_;refine zq (Qj U) ?_;refine zq (Qj U) ?_;refine zq (Qy U U Q4 kI (fun hg=>kB)) ?_;refine zq (Qk U QY (fun hg=>by exact zGO hT hy) U) ?_;refine zq (zdt U U U2 U) ?_;refine YC ?_;refine Qa ?_;refine zI ?_ ?_<;>intro hc25
  ·refine zR (zA (zN (Qr (Qn (Qc (Qc (Qn ?_)))))));refine Qc ?_;exact zr U U (by rw [zwe hx hy (zmS ((jS _).mp hc25))])
  refine Qo (Qg (Qa (Qf (zM ?_))));refine zB ?_;refine zA (Qb ?_);exact zm (h:=⟨n-(k+1),kB,k+1,U,U,U,U,kB,zl4 hx hy he (VF.1 ((Ox _).mp hc25))⟩)
 have hge_k:n<=k:=(by have h:=hc14;simp at h;omega);refine QF (Qh (Qh (Qm (Qa (zR (zA (zN ?_)))))));refine Qr ?_
 first
 | exact zr U U (by rw [ZJ hS.len kB,ZJ hT.len kB] at he;rw [he,zfz])
variable{i:Nat}
theorem zkW (hs:Srt xs)(hx:xs[i]? =some x):xs=xs.take i++x::xs.drop (i+1)/\(∀ y∈xs.take i,y.id≠x.id)/\∀ y∈xs.drop (i+1),y.id≠x.id:=by
 have hsp:xs=xs.take i++x::xs.drop (i+1):=(by rw [<-Zz hx,jy]);have h:=hs;unfold Srt at h;rw [hsp,Ov,jV] at h;refine ⟨hsp,fun y hy=>?_,fun y hy=>?_⟩
 ·have:=h.2.2 y hy x (jk ..);omega
 ·have:=h.2.1.1 y hy;omega
structure zcq (a b:List Sg)(ps:List Pt):Prop where
 kind:∀ p∈ps,p.kind=1\/p.kind=2\/p.kind=3
 rem:∀ p∈ps,p.kind=3->(QW a p.sign).isSome=true/\QW b p.sign=none
 ins:∀ p∈ps,p.kind=2->QW a p.sign=none/\QW b p.sign=some p.nw
 set:∀ p∈ps,p.kind=1->∃ x y,QW a p.sign=some x/\QW b p.sign=some y/\isF p.field/\p.nw=VD ZU p.field y
 dif:∀ p∈ps,p.kind=1->∀ x y,QW a p.sign=some x->QW b p.sign=some y->ZR x p.field≠ZR y p.field
 one:∀ p∈ps,∀ q∈ps,p.sign=q.sign->(p.kind=1/\q.kind=1/\p.field≠q.field)\/p.id=q.id
 allrem:∀ s x,QW a s=some x->QW b s=none->∃ p∈ps,p.kind=3/\p.sign=s
 allins:∀ s y,QW a s=none->QW b s=some y->∃ p∈ps,p.kind=2/\p.sign=s
 allset:∀ s x y,QW a s=some x->QW b s=some y->x.kind=y.kind/\∀ f,isF f->ZR x f≠ZR y f->∃ p∈ps,p.kind=1/\p.sign=s/\p.field=f
theorem zcu {x:Sg}{s:Int}:∀ {t:List Pt},(∀ p∈t,¬(p.kind=1/\p.sign=s))->zcg x t s=x
 | [],_=>rfl
 | p::t,h=>by
  unfold zcg;rw [Of,ja (h p (jk ..))];exact zcu fun q hq=>h q (jq _ hq)
variable{t:List Pt}
theorem zdU :zba t s=true↔ ∃ p∈t,p.kind=3/\p.sign=s:=by unfold zba;simp
theorem zjH (h:∀ p∈t,¬(p.kind=2/\p.sign=s)):Uv t s=none:=by unfold Uv;rw [AM,Or];intro p hp;have:=h p hp;simpa using this
theorem zo8 (h:∃ p∈t,p.kind=2/\p.sign=s)(hy:∀ p∈t,p.kind=2->p.sign=s->p.nw=y):Uv t s=some y:=by
 unfold Uv
 cases e:t.find? fun q=>q.kind==2&&q.sign==s with
 | none=>
  obtain ⟨p,hp,h1,h2⟩:=h;have:=Or.1 e p hp;simp [h1,h2] at this
 | some p=>
  have h1:=Av e;simp at h1;rw [j9,hy p (OA e) h1.1 h1.2]
variable{a b:List Sg}
theorem zB6 (h:zcq a b ps)(s:Int):stS a ps s=QW b s:=by
 unfold stS
 cases ea:QW a s with
 | none=>
  have hr:¬(zba ps s=true):=fun g=>by
   obtain ⟨p,hp,h1,h2⟩:=zdU.1 g;have:=(h.rem p hp h1).1;rw [h2,ea] at this;cases this
  rw [ja hr]
  cases eb:QW b s with
  | none=>
   rw [zjH fun p hp g=>by
    have:=(h.ins p hp g.1).2
    rw [g.2,eb] at this;cases this]
   rfl
  | some y=>
   rw [zo8 (y:=y) (h.allins s y ea eb) fun p hp h1 h2=>by
    have:=(h.ins p hp h1).2
    rw [h2,eb] at this;exact (Ob this).symm]
   show some (zcg y ps s)=some y
   rw [zcu fun p hp g=>by
    obtain ⟨x,_,hx,_⟩:=h.set p hp g.1
    rw [g.2,ea] at hx;cases hx]
 | some x=>
  cases eb:QW b s with
  | none=>rw [jb (zdU.2 (h.allrem s x ea eb))]
  | some y=>
   have hr:¬(zba ps s=true):=fun g=>by
    obtain ⟨p,hp,h1,h2⟩:=zdU.1 g;have:=(h.rem p hp h1).2;rw [h2,eb] at this;cases this
   rw [ja hr];show some (zcg x ps s)=some y;obtain ⟨hk,hall⟩:=h.allset s x y ea eb;obtain ⟨v1,v2⟩:=zdR (x:=x) (t:=ps) (s:=s);refine jr some (ztx (by rw [v1,Vr ea,Vr eb]) (by rw [v2,hk]) fun f hf=>?_);rcases zog (x:=x) (s:=s) hf ps (fun p hp h1=>by obtain ⟨_,_,_,_,h2,_⟩:=h.set p hp h1;exact h2) with ⟨e1,hno⟩ | ⟨t1,z,t2,et,⟨z1,z2,z3⟩,e1,_⟩
   ·rw [e1];by_cases e:ZR x f=ZR y f
    ·exact e
    ·obtain ⟨p,hp,g⟩:=hall f hf e;exact absurd g (hno p hp)
   ·rw [e1];obtain ⟨_,y',_,hy,h3,h4⟩:=h.set z (by rw [et];simp) z1;rw [z2,eb] at hy;cases hy;rw [h4,z3,X7 hf,jb rfl]
def zuX (l:List Pt):Prop:=∀ p∈l,∀ q∈l,p.sign=q.sign->(p.kind=1/\q.kind=1/\p.field≠q.field)\/p=q
theorem zcq.apart (h:zcq a b ps)(hn:(ps.map (·.id)).Nodup):zuX ps:=fun p hp q hq hs=>by
 rcases h.one p hp q hq hs with g | g
 ·exact .inl g
 ·right;obtain ⟨i,hi⟩:=jC hp;obtain ⟨j,hj⟩:=jC hq;have h1:(ps.map (·.id))[i]? =some p.id:=(by rw [j5,hi];rfl);have h2:(ps.map (·.id))[j]? =some q.id:=(by rw [j5,hj];rfl);obtain ⟨l1,g1⟩:=jc.1 h1;obtain ⟨l2,g2⟩:=jc.1 h2;have:i=j:=(List.getElem_inj hn).1 (by rw [g1,g2,g]);subst this;rw [hi] at hj;exact Ob hj
variable{base:List Sg}
theorem zup (h1:∀ p∈l,p.kind=1->∀ r∈l,r.kind=3->r.sign=p.sign->on r.id p.id=true)(h2:∀ s f,∀ p∈VQ on l s f,∀ q∈VQ on l s f,p.nw=q.nw):cfL on base l=[]:=by
 unfold cfL;rw [Ak];intro x _;unfold cfS;rw [Bj,Ak];constructor
 ·unfold cf0;rw [jb];rw [Bq];unfold unF;rw [Om];intro p hp g;rw [jj] at g;have g2:=g.2;unfold unB at g2;rw [jj,ju] at g2;obtain ⟨g3,i,hi,g4⟩:=g2;obtain ⟨r,hr,r1,r2,r3⟩:=zac.1 hi;have:=h1 p hp (by simpa using g3) r hr r1 r2;rw [r3] at this;rw [this] at g4;cases g4
 ·intro k _;unfold cfK;rw [ja];intro g;rw [jj] at g;have g2:=g.2
  cases e:VQ on l x.id ((k:Int)+1) with
  | nil=>rw [e] at g2;cases g2
  | cons p t=>
   rw [e] at g2;obtain ⟨q,hq,g3⟩:=ju.1 (show (t.any fun q=> !WW q.nw p.nw)=true from g2);have:=h2 x.id _ q (by rw [e];exact jq _ hq) p (by rw [e];exact jk ..);rw [this,XF] at g3;cases g3
theorem zjs (h:p∈VQ on l s f):p∈l/\p.kind=1/\p.sign=s/\p.field=f:=by unfold VQ at h;exact JB.1 (jF.1 h).1
theorem zuX.calm (h:zuX l):cfL on base l=[]:=by
 refine zup (fun p hp hk r hr hk2 hs=>?_) (fun s f p hp q hq=>?_)
 ·rcases h r hr p hp hs with ⟨g,_⟩ | g
  ·omega
  ·subst g;omega
 ·obtain ⟨p1,p2,p3,p4⟩:=zjs hp;obtain ⟨q1,q2,q3,q4⟩:=zjs hq;rcases h p p1 q q1 (by rw [p3,q3]) with ⟨_,_,g⟩ | g
  ·exact absurd (by rw [p4,q4]) g
  ·rw [g]
theorem zB5 (hb:Srt base)(hs:Sto l)(hp:∀ p∈l,Jw p=0)(hf:zbo base l=true)(hc:cfL (onF l) base l=[])(ht:zkd l t)(hl:base.length+l.length<=4096){c:List Sg}(hcs:Srt c)(hst:∀ s,stS base t s=QW c s):
  zqv base t=(0,c)/\zaL (onF l) base l=c:=by
 obtain ⟨ys,h1,h2,h3⟩:=zgr hs hp hf (znT hb hs hf hc) ht t [] base U (by rw [ht.perm.length_eq];omega) hb (fun s=>by
  unfold stS Uv zba zcg;simp)
 have hy:ys=c:=zgR h2 hcs fun s=>(by rw [h3 s,hst s]);subst hy;have h4:=znl hb hs hp hf hc ht hl;rw [h1] at h4;exact ⟨h1,(jr Prod.snd h4).symm⟩
structure Pc where
 kind:Int
 sign:Int
 field:Int
 nw:Sg
def rmC (x:Sg):Pc:=⟨3,x.id,0,ZU⟩
def inC (y:Sg):Pc:=⟨2,y.id,0,y⟩
def chC (x y:Sg)(k:Nat):List Pc:=(List.range k).filterMap fun (i:Nat)=>if ZR x ((i:Int)+1)=ZR y ((i:Int)+1) then none else some ⟨1,x.id,(i:Int)+1,VD ZU ((i:Int)+1) y⟩
def dfL:List Sg->List Sg->Option (List Pc)
 | [],[]=>some []
 | x::a,[]=>(dfL a []).map (rmC x:: ·)
 | [],y::b=>(dfL [] b).map (inC y:: ·)
 | x::a,y::b=>if x.id<y.id then (dfL a (y::b)).map (rmC x:: ·) else if y.id<x.id then (dfL (x::a) b).map (inC y:: ·) else if x.kind≠y.kind then none else (dfL a b).map (chC x y 9++ ·)
termination_by a b=>a.length+b.length
theorem WX {c:Pc}:c∈chC x y k↔ ∃ i:Nat,i<k/\ZR x ((i:Int)+1)≠ZR y ((i:Int)+1)/\c=⟨1,x.id,(i:Int)+1,VD ZU ((i:Int)+1) y⟩:=by
 unfold chC;simp only [BN,jm];constructor
 ·rintro ⟨i,hi,h⟩;split at h
  ·cases h
  ·rename_i g;exact ⟨i,hi,g,(Ob h).symm⟩
 ·rintro ⟨i,hi,g,rfl⟩;exact ⟨i,hi,by rw [ja g]⟩
structure zm5 (oa ob:Option Sg)(m:List Pc):Prop where
 kind:∀ p∈m,p.kind=1\/p.kind=2\/p.kind=3
 rem:∀ p∈m,p.kind=3->oa.isSome=true/\ob=none/\p.field=0/\p.nw=ZU
 ins:∀ p∈m,p.kind=2->oa=none/\ob=some p.nw/\p.field=0
 set:∀ p∈m,p.kind=1->∃ x y,oa=some x/\ob=some y/\isF p.field/\p.nw=VD ZU p.field y
 dif:∀ p∈m,p.kind=1->∀ x y,oa=some x->ob=some y->ZR x p.field≠ZR y p.field
 one:m.Pairwise fun p q=>p.sign=q.sign->p.kind=1/\q.kind=1/\p.field≠q.field
 allrem:∀ x,oa=some x->ob=none->∃ p∈m,p.kind=3
 allins:∀ y,oa=none->ob=some y->∃ p∈m,p.kind=2
 allset:∀ x y,oa=some x->ob=some y->x.kind=y.kind/\∀ f,isF f->ZR x f≠ZR y f->∃ p∈m,p.kind=1/\p.field=f
theorem ztf (x:Sg):zm5 (some x) none [rmC x] where
 kind p hp:=by simp at hp;subst hp;exact .inr (.inr U)
 rem p hp _:=by simp at hp;subst hp;exact ⟨U,U,U,U⟩
 ins p hp h:=by simp at hp;subst hp;cases h
 set p hp h:=by simp at hp;subst hp;cases h
 dif p hp h:=by simp at hp;subst hp;cases h
 one:=by simp
 allrem _ _ _:=⟨_,jA.2 U,U⟩
 allins _ h:=by cases h
 allset _ _ _ h:=by cases h
theorem zr6 (y:Sg):zm5 none (some y) [inC y] where
 kind p hp:=by simp at hp;subst hp;exact .inr (.inl U)
 rem p hp h:=by simp at hp;subst hp;cases h
 ins p hp _:=by simp at hp;subst hp;exact ⟨U,U,U⟩
 set p hp h:=by simp at hp;subst hp;cases h
 dif p hp h:=by simp at hp;subst hp;cases h
 one:=by simp
 allrem _ h:=by cases h
 allins _ _ _:=⟨_,jA.2 U,U⟩
 allset _ _ h:=by cases h
theorem zCD (hk:x.kind=y.kind):zm5 (some x) (some y) (chC x y 9) where
 kind p hp:=by obtain ⟨i,_,_,rfl⟩:=WX.1 hp;exact .inl U
 rem p hp h:=by obtain ⟨i,_,_,rfl⟩:=WX.1 hp;cases h
 ins p hp h:=by obtain ⟨i,_,_,rfl⟩:=WX.1 hp;cases h
 set p hp _:=by
  obtain ⟨i,hi,_,rfl⟩:=WX.1 hp;refine ⟨x,y,U,U,?_,U⟩;show 1<=(i:Int)+1/\(i:Int)+1<=9;omega
 dif p hp _ x1 y1 hx hy:=by obtain ⟨i,_,g,rfl⟩:=WX.1 hp;cases hx;cases hy;exact g
 one:=by
  unfold chC;rw [List.pairwise_filterMap];refine (List.pairwise_lt_range (n:=9)).imp fun {i j} hij p hp q hq _=>?_;split at hp
  ·cases hp
  ·split at hq
   ·cases hq
   ·cases hp;cases hq;refine ⟨U,U,?_⟩;show ¬((i:Int)+1=(j:Int)+1);omega
 allrem _ _ h:=by cases h
 allins _ h:=by cases h
 allset x' y' hx hy:=by
  cases hx;cases hy;refine ⟨hk,fun f hf hne=>?_⟩;have hf':=hf;unfold isF at hf';refine ⟨_,WX.2 ⟨(f-1).toNat,kB,?_,U⟩,U,?_⟩
  ·rw [show (((f-1).toNat:Nat):Int)+1=f by omega];exact hne
  ·show (((f-1).toNat:Nat):Int)+1=f;omega
structure zy3 (a b:List Sg)(l:List Pc):Prop where
 loc:∀ s,zm5 (QW a s) (QW b s) (l.filter fun p=>p.sign==s)
theorem UE (h:∀ x∈a,s<x.id):QW a s=none:=KN.2 fun x hx=>by have:=h x hx;omega
theorem Kr (h:Srt (x::a)):Srt a/\∀ y∈a,x.id<y.id:=by unfold Srt at h ⊢;rw [jV] at h;exact ⟨h.2,h.1⟩
variable{s0:Int}
theorem zy3.step {a' b':List Sg}{m l:List Pc}(h:zy3 a' b' l)(ha:∀ s,s≠s0->QW a s=QW a' s)(hb:∀ s,s≠s0->QW b s=QW b' s)(h0a:QW a' s0=none)(h0b:QW b' s0=none)(hm:∀ p∈m,p.sign=s0)(hl:zm5 (QW a s0) (QW b s0) m):zy3 a b (m++l) where
 loc s:=by
  rw [jN];by_cases e:s=s0
  ·subst e;have h1:m.filter (fun p=>p.sign==s)=m:=OK.2 fun p hp=>by simpa using hm p hp
   have h2:l.filter (fun p=>p.sign==s)=[]:=by
    have hs:=h.loc s;rw [h0a,h0b] at hs;rw [BB];intro p hp;rcases hs.kind p hp with k | k | k
    ·obtain ⟨_,_,g,_⟩:=hs.set p hp k;cases g
    ·have:=(hs.ins p hp k).2.1;cases this
    ·have:=(hs.rem p hp k).1;cases this
   rw [h1,h2,jz];exact hl
  ·have h1:m.filter (fun p=>p.sign==s)=[]:=Om.2 fun p hp=>(by rw [hm p hp];simpa using fun q=>e q.symm);rw [h1,j8,ha s e,hb s e];exact h.loc s
theorem zFm:∀ (n:Nat) (a b:List Sg) (l:List Pc),a.length+b.length<=n->Srt a->Srt b->dfL a b=some l->zy3 a b l:=by
 intro n
 induction n with
 | zero=>
  intro a b l hn _ _ h;have e1:a=[]:=j4 kB;have e2:b=[]:=j4 kB;subst e1;subst e2;unfold dfL at h;cases h;exact ⟨fun s=>⟨fun p hp=>(by cases hp),fun p hp=>(by cases hp),fun p hp=>(by cases hp),fun p hp=>(by cases hp),fun p hp=>(by cases hp),List.Pairwise.nil,fun x h=>(by cases h),fun y _ h=>(by cases h),fun x y h=>(by cases h)⟩⟩
 | succ n ih=>
  intro a b l hn ha hb h
  match a,b,hn,ha,hb,h with
  | [],[],_,_,_,h=>exact ih [] [] l kK .nil .nil h
  | x::a,[],hn,ha,hb,h=>
   unfold dfL at h;obtain ⟨l',h1,rfl⟩:=jY.1 h;obtain ⟨t1,t2⟩:=Kr ha;refine (ih a [] l' (by simp at hn ⊢;omega) t1 hb h1).step (m:=[rmC x]) (s0:=x.id) (fun s hs=>by rw [ZK,ja fun e=>hs e.symm]) (fun s _=>U) (UE t2) W7 (fun p hp=>by simp at hp;subst hp;rfl) ?_;rw [ZK,jb rfl,W7];exact ztf x
  | [],y::b,hn,ha,hb,h=>
   unfold dfL at h;obtain ⟨l',h1,rfl⟩:=jY.1 h;obtain ⟨t1,t2⟩:=Kr hb;refine (ih [] b l' (by simp at hn ⊢;omega) ha t1 h1).step (m:=[inC y]) (s0:=y.id) (fun s _=>U) (fun s hs=>by rw [ZK,ja fun e=>hs e.symm]) W7 (UE t2) (fun p hp=>by simp at hp;subst hp;rfl) ?_;rw [ZK,jb rfl,W7];exact zr6 y
  | x::a,y::b,hn,ha,hb,h=>
   unfold dfL at h;obtain ⟨t1,t2⟩:=Kr ha;obtain ⟨u1,u2⟩:=Kr hb;split at h
   ·rename_i g;obtain ⟨l',h1,rfl⟩:=jY.1 h
    have hno:QW (y::b) x.id=none:=UE fun z hz=>by
     rcases jp.1 hz with e | e
     ·subst e;exact g
     ·have:=u2 z e;omega
    refine (ih a (y::b) l' (by simp at hn ⊢;omega) t1 hb h1).step (m:=[rmC x]) (s0:=x.id) (fun s hs=>by rw [ZK,ja fun e=>hs e.symm]) (fun s _=>U) (UE t2) hno (fun p hp=>by simp at hp;subst hp;rfl) ?_;rw [hno,ZK,jb rfl];exact ztf x
   ·rename_i g;split at h
    ·rename_i g2;obtain ⟨l',h1,rfl⟩:=jY.1 h
     have hno:QW (x::a) y.id=none:=UE fun z hz=>by
      rcases jp.1 hz with e | e
      ·subst e;exact g2
      ·have:=t2 z e;omega
     refine (ih (x::a) b l' (by simp at hn ⊢;omega) ha u1 h1).step (m:=[inC y]) (s0:=y.id) (fun s _=>U) (fun s hs=>by rw [ZK,ja fun e=>hs e.symm]) hno (UE u2) (fun p hp=>by simp at hp;subst hp;rfl) ?_;rw [hno,ZK,jb rfl];exact zr6 y
    ·rename_i g2;split at h
     ·cases h
     ·rename_i g3;obtain ⟨l',h1,rfl⟩:=jY.1 h;have e:x.id=y.id:=kB;have hk:x.kind=y.kind:=Classical.not_not.1 g3;refine (ih a b l' (by simp at hn ⊢;omega) t1 u1 h1).step (m:=chC x y 9) (s0:=x.id) (fun s hs=>by rw [ZK,ja fun e=>hs e.symm]) (fun s hs=>by rw [ZK,ja fun q=>hs (by rw [e,q])]) (UE t2) (by rw [e];exact UE u2) (fun p hp=>by obtain ⟨i,_,_,rfl⟩:=WX.1 hp;rfl) ?_;rw [ZK,ZK,jb rfl,jb e.symm];exact zCD hk
structure Num (first:Int)(needs:List Int)(l:List Pc)(ps:List Pt):Prop where
 len:ps.length=l.length
 at_:∀ (i:Nat) (c:Pc) (p:Pt),l[i]? =some c->ps[i]? =some p->p.id=first+i/\p.kind=c.kind/\p.sign=c.sign/\p.field=c.field/\p.nw=c.nw/\p.needs=needs
variable{first:Int}{needs:List Int}
theorem Num.of {l:List Pc}(h:Num first needs l ps)(hp:ps[i]? =some p):∃ c,l[i]? =some c/\p.id=first+i/\p.kind=c.kind/\p.sign=c.sign/\p.field=c.field/\p.nw=c.nw/\p.needs=needs:=by have hi:=(jc.1 hp).1;have hc:l[i]? =some (l[i]'(by rw [<-h.len];exact hi)):=je _;exact ⟨_,hc,h.at_ i _ p hc hp⟩
theorem Num.to {l:List Pc}(h:Num first needs l ps){c:Pc}(hc:c∈l):∃ p∈ps,p.kind=c.kind/\p.sign=c.sign/\p.field=c.field/\p.nw=c.nw:=by obtain ⟨i,hi⟩:=jC hc;have hl:=(jc.1 hi).1;have hp:ps[i]? =some (ps[i]'(by rw [h.len];exact hl)):=je _;obtain ⟨_,h1,h2,h3,h4,_⟩:=h.at_ i c _ hi hp;exact ⟨_,jd hp,h1,h2,h3,h4⟩
theorem zcv {l:List Pc}{c:Pc}(h:c∈l):c∈l.filter fun p=>p.sign==c.sign:=by rw [jF];exact ⟨h,by simp⟩
theorem zzj {l:List Pc}(h:zy3 a b l)(hn:Num first needs l ps):zcq a b ps where
 kind p hp:=by
  obtain ⟨i,hi⟩:=jC hp;obtain ⟨c,hc,_,e1,e2,_⟩:=hn.of hi;rw [e1];exact (h.loc c.sign).kind c (zcv (jd hc))
 rem p hp hk:=by
  obtain ⟨i,hi⟩:=jC hp;obtain ⟨c,hc,_,e1,e2,_⟩:=hn.of hi;have:=(h.loc c.sign).rem c (zcv (jd hc)) (by rw [<-e1];exact hk);rw [e2];exact ⟨this.1,this.2.1⟩
 ins p hp hk:=by
  obtain ⟨i,hi⟩:=jC hp;obtain ⟨c,hc,_,e1,e2,_,e4,_⟩:=hn.of hi;have:=(h.loc c.sign).ins c (zcv (jd hc)) (by rw [<-e1];exact hk);rw [e2,e4];exact ⟨this.1,this.2.1⟩
 set p hp hk:=by
  obtain ⟨i,hi⟩:=jC hp;obtain ⟨c,hc,_,e1,e2,e3,e4,_⟩:=hn.of hi;obtain ⟨x,y,h1,h2,h3,h4⟩:=(h.loc c.sign).set c (zcv (jd hc)) (by rw [<-e1];exact hk);rw [e2,e3,e4];exact ⟨x,y,h1,h2,h3,h4⟩
 dif p hp hk x y hx hy:=by
  obtain ⟨i,hi⟩:=jC hp;obtain ⟨c,hc,_,e1,e2,e3,_⟩:=hn.of hi;rw [e3];exact (h.loc c.sign).dif c (zcv (jd hc)) (by rw [<-e1];exact hk) x y (by rw [<-e2];exact hx) (by rw [<-e2];exact hy)
 one p hp q hq hs:=by
  obtain ⟨i,hi⟩:=jC hp;obtain ⟨j,hj⟩:=jC hq;obtain ⟨c,hc,f1,e1,e2,e3,_⟩:=hn.of hi;obtain ⟨d,hd,f2,g1,g2,g3,_⟩:=hn.of hj
  have key:∀ (i j:Nat) (c d:Pc),l[i]? =some c->l[j]? =some d->c.sign=d.sign->i<j->c.kind=1/\d.kind=1/\c.field≠d.field:=fun i j c d hc hd hs hij=>by
   have hpw:=(h.loc c.sign).one
   have hsub:[c,d].Sublist (l.filter fun p=>p.sign==c.sign):=by
    have h1:[c,d].Sublist l:=by
     obtain ⟨l1,m1⟩:=jc.1 hc;obtain ⟨l2,m2⟩:=jc.1 hd;have:l=l.take (i+1)++l.drop (i+1):=(jy ..).symm;rw [this];refine List.Sublist.append (l₁:=[c]) (r₁:=[d]) ?_ ?_
     ·refine List.singleton_sublist.2 ?_;rw [jP,hc];simp
     ·refine List.singleton_sublist.2 ?_;have:(l.drop (i+1))[j-(i+1)]? =some d:=by rw [AJ,show i+1+(j-(i+1))=j by omega];exact hd
      exact jd this
    have h2:=h1.filter (fun p:Pc=>p.sign==c.sign);rwa [OK.2 (by intro p hp;simp at hp;rcases hp with rfl | rfl<;>simp [hs])] at h2
   have:=hpw.sublist hsub;rw [jV] at this;exact this.1 d (jA.2 U) hs
  have hs':c.sign=d.sign:=(by rw [<-e2,<-g2];exact hs);rcases BW i j with g | g | g
  ·left;rw [e1,g1,e3,g3];exact key i j c d hc hd hs' g
  ·right;rw [f1,f2,g]
  ·left;obtain ⟨k1,k2,k3⟩:=key j i d c hd hc hs'.symm g;rw [e1,g1,e3,g3];exact ⟨k2,k1,fun e=>k3 e.symm⟩
 allrem s x hx hy:=by
  obtain ⟨c,hc,hk⟩:=(h.loc s).allrem x hx hy;rw [jF] at hc;obtain ⟨p,hp,e1,e2,_⟩:=hn.to hc.1;exact ⟨p,hp,by rw [e1,hk],by rw [e2];simpa using hc.2⟩
 allins s y hx hy:=by
  obtain ⟨c,hc,hk⟩:=(h.loc s).allins y hx hy;rw [jF] at hc;obtain ⟨p,hp,e1,e2,_⟩:=hn.to hc.1;exact ⟨p,hp,by rw [e1,hk],by rw [e2];simpa using hc.2⟩
 allset s x y hx hy:=by
  obtain ⟨h1,h2⟩:=(h.loc s).allset x y hx hy;refine ⟨h1,fun f hf hne=>?_⟩;obtain ⟨c,hc,hk,hcf⟩:=h2 f hf hne;rw [jF] at hc;obtain ⟨p,hp,e1,e2,e3,_⟩:=hn.to hc.1;exact ⟨p,hp,by rw [e1,hk],by rw [e2];simpa using hc.2,by rw [e3,hcf]⟩
theorem zyo (h:frm y=true)(hf:isF f):frm (VD zcG f (VD ZU f y))=true:=by
 unfold frm zy6 Zu at h;simp only [jj,jQ] at h;have hp:zeA 0 1 1 2=true:=zyx
 rcases Xd hf with rfl | rfl | rfl | rfl | rfl | rfl | rfl | rfl | rfl<;>
 ·unfold frm zy6 Zu VD zcG ZU;simp [hp]
  first | omega | exact h.2
theorem zoa (hf:isF f):VD (VD ZU f y) f ZU=ZU:=by rcases Xd hf with rfl | rfl | rfl | rfl | rfl | rfl | rfl | rfl | rfl<;>rfl
theorem zbn (h:chkG a=0)(hx:QW a s=some x):frm x=true/\x.id=s:=⟨zx1 (Y5 h).2 (JQ hx),Vr hx⟩
theorem zgv (h:frm x=true):0<=x.id/\x.id<=1048576:=by unfold frm zy6 Zu at h;simp only [jj,jQ] at h;omega
variable{v:List Int}
theorem zCu {id:Int}(h1:∀ n∈v,1<=n/\n<id)(h2:v.Pairwise (· < ·)):ndB id v=true:=by
 unfold ndB;refine ji.2 fun i hi=>?_;have hi:=jm.1 hi;have hg:v.getD i 0=v[i]:=(by rw [Ot,je hi];rfl);have hb:=h1 _ (OS hi);unfold ndP;rw [hg];by_cases h0:i=0
 ·subst h0;simp;omega
 ·have hj:((i:Int)-1).toNat=i-1:=kB;have hg2:v.getD (i-1) 0=v[i-1]:=(by rw [Ot,je kB];rfl);have:=jM.1 h2 (i-1) i kB hi kB;rw [hj,hg2];simp;omega
theorem zrw {l:List Pc}(hd:zy3 a b l)(hn:Num first needs l ps)(ha:chkG a=0)(hb:chkG b=0)(h1:1<=first)(hmax:first+(l.length:Int)-1<=1048576)(hnl:needs.length<=32)(hn1:∀ n∈needs,1<=n/\n<first)(hn2:needs.Pairwise (· < ·))(hp:p∈ps):Jw p=0:=by
 obtain ⟨i,hi⟩:=jC hp;have hil:=(jc.1 hi).1;rw [hn.len] at hil;obtain ⟨c,hc,e0,e1,e2,e3,e4,e5⟩:=hn.of hi;have hloc:=hd.loc c.sign;have hm:=zcv (jd hc);unfold Jw;rw [e5,ja kB,jb];rw [jj,jj];refine ⟨zCu (fun n hn=>?_) hn2,?_,?_⟩
 ·have:=hn1 n hn;omega
 ·have hsg:0<=c.sign/\c.sign<=1048576:=by
   rcases hloc.kind c hm with k | k | k
   ·obtain ⟨x,_,hx,_⟩:=hloc.set c hm k;obtain ⟨f1,f2⟩:=zbn ha hx;have:=zgv f1;omega
   ·obtain ⟨_,hy,_⟩:=hloc.ins c hm k;obtain ⟨f1,f2⟩:=zbn hb hy;have:=zgv f1;omega
   ·obtain ⟨hx,_⟩:=hloc.rem c hm k;obtain ⟨x,hx⟩:=jW.1 hx;obtain ⟨f1,f2⟩:=zbn ha hx;have:=zgv f1;omega
  unfold idB;rw [e0,e2];simp;omega
 ·unfold WG;rcases hloc.kind c hm with k | k | k
  ·obtain ⟨x,y,hx,hy,hf,hw⟩:=hloc.set c hm k;rw [jb (by rw [e1,k]),e3,e4,hw,zoa hf,XF,zyo (zbn hb hy).1 hf];have:Zu c.field 1 9=true:=by unfold Zu;unfold isF at hf;simp;omega
   rw [this];rfl
  ·obtain ⟨_,hy,hf⟩:=hloc.ins c hm k;obtain ⟨f1,f2⟩:=zbn hb hy;rw [ja (by rw [e1,k];decide),jb (by rw [e1,k]),e3,hf,e4,e2,f2,f1];simp
  ·obtain ⟨_,_,hf,hw⟩:=hloc.rem c hm k;rw [ja (by rw [e1,k];decide),ja (by rw [e1,k];decide),jb (by rw [e1,k]),e3,hf,e4,hw,XF];rfl
theorem ziD:∀ (ps:List Pt) (f:Int->Int->Bool),(∀ a b,f a b=false)->(∀ p∈ps,p.needs=[])->∀ a b,ps.foldl onS f a b=false
 | [],f,hf,_,a,b=>hf a b
 | p::ps,f,hf,h,a,b=>by
  rw [Of];refine ziD ps _ (fun a b=>?_) (fun q hq=>h q (jq _ hq)) a b;unfold onS;split
  ·rw [h p (jk ..)];rfl
  ·exact hf a b
theorem zle (h:∀ p∈ps,p.needs=[])(a b:Int):onF ps a b=false:=ziD ps _ (fun _ _=>U) h a b
theorem zns (h1:1<=first)(hid:∀ (i:Nat) (p:Pt),ps[i]? =some p->p.id=first+i)(hn:∀ p∈ps,p.needs=[]):Lst ps where
 pos p hp:=by
  obtain ⟨i,hi⟩:=jC hp;rw [hid i p hi];omega
 inc:=by
  rw [jM];intro i j hi hj hij;rw [hid i _ (je hi),hid j _ (je hj)];omega
 has p hp n hm:=by rw [hn p hp] at hm;cases hm
theorem znS {l:List Pc}(h:Num first needs l ps):∀ p∈ps,p.needs=needs:=fun p hp=>by
 obtain ⟨i,hi⟩:=jC hp;obtain ⟨_,_,_,_,_,_,_,e⟩:=h.of hi;exact e
def zGf (p q:List Pt):Prop:=∃ x∈p,∃ y∈q,x.kind=2/\y.kind=2/\x.sign=y.sign
theorem zve {p q:List Pt}(hl:Lst (p++q))(hok:∀ x∈p++q,Jw x=0)(hn:∀ x∈p++q,x.needs=[])(hp:zcq base a p)(hq:zcq base b q)(hb:¬zGf p q):Sto (p++q) where
 lst:=hl
 ok x hx:=zmT (hok x hx)
 tog x hx y hy hne:=by
  unfold zph;rw [zle hn];by_cases hs:x.sign=y.sign
  ·rw [ja (by simpa using hs)]
   have hk2:y.kind≠2:=fun hk=>by
    rcases jv.1 hx with gx | gx<;>rcases jv.1 hy with gy | gy
    ·rcases hp.one x gx y gy hs with ⟨_,g,_⟩ | g
     ·omega
     ·exact hne g
    ·have hy2:=(hq.ins y gy hk).1;rcases hp.kind x gx with k | k | k
     ·obtain ⟨_,_,g,_⟩:=hp.set x gx k;rw [hs,hy2] at g;cases g
     ·exact hb ⟨x,gx,y,gy,k,hk,hs⟩
     ·have g:=(hp.rem x gx k).1;rw [hs,hy2] at g;cases g
    ·have hy2:=(hp.ins y gy hk).1;rcases hq.kind x gx with k | k | k
     ·obtain ⟨_,_,g,_⟩:=hq.set x gx k;rw [hs,hy2] at g;cases g
     ·exact hb ⟨y,gy,x,gx,hk,k,hs.symm⟩
     ·have g:=(hq.rem x gx k).1;rw [hs,hy2] at g;cases g
    ·rcases hq.one x gx y gy hs with ⟨_,g,_⟩ | g
     ·omega
     ·exact hne g
   rw [ja hk2];split<;>rfl
  ·rw [jb hs]
theorem zeY (h:Lst l):zkd l l where
 perm:=List.Perm.refl _
 need t1 p t2 e n hn:=by
  obtain ⟨hlt,q,hq,hqn⟩:=h.has p kP n hn;rw [e] at hq;rcases jv.1 hq with g | g
  ·exact ⟨q,g,hqn⟩
  ·exfalso;have hi:=h.inc;rw [e,Ov] at hi;rcases jp.1 g with g | g
   ·subst g;omega
   ·have:=(jV.1 hi.2.1).1 q g;omega
theorem zfc (h:Lst l):(l.map (·.id)).Nodup:=by unfold List.Nodup;rw [OV];exact h.inc.imp fun {a b} h e=>kB
theorem zfa :WK xs s=true↔(QW xs s).isSome=true:=by rw [U3]
theorem zoC {p:List Pt}(hd:zcq base a p){x:Pt}(hx:x∈p):zoR base l x=true:=by
 unfold zoR;rcases hd.kind x hx with k | k | k
 ·obtain ⟨y,_,g,_⟩:=hd.set x hx k;have:WK base x.sign=true:=zfa.2 (by rw [g];rfl);rw [k,this];rfl
 ·have g:=(hd.ins x hx k).1;have:WK base x.sign=false:=by rw [U3,g];rfl
  rw [k,this];rfl
 ·have g:=(hd.rem x hx k).1;have:WK base x.sign=true:=zfa.2 g;rw [k,this];rfl
theorem zlU (h:KV ps=0)(hp:p∈ps):Jw p=0:=Ve.1 (K7 h).2.1 _ (jt.2 ⟨p,hp,U⟩)
variable{store:List Pt}
theorem zkO {p:List Pt}(hc:KV store=0)(hb:chkG base=0)(ha:chkG a=0)(hv:Ver store v)(hvl:ZY store v=p)(hl:v.length<=512)(hn:base.length+p.length<=4096)(hd:zcq base a p):zaY store base v=0/\zcz store base v=a:=by
 have hlst:=K6 hc;have hsp:Sto p:=hvl ▸ zdP (W8 hc) hv;have hpc:∀ x∈p,Jw x=0:=fun x hx=>zlU hc (Vf.1 (by rw [hvl];exact hx)).1
 have hfit:zbo base p=true:=by
  unfold zbo;exact ji.2 fun x hx=>zoC hd hx
 have hap:=hd.apart (zfc hsp.lst);obtain ⟨_,h2⟩:=zB5 (VL (Y5 hb).2) hsp hpc hfit hap.calm (zeY hsp.lst) hn (VL (Y5 ha).2) (zB6 hd);have hon:=zkD hlst hv;rw [hvl] at hon;have h3:zaL (onF store) base (ZY store v)=a:=by rw [hvl,<-zwg hon base,h2]
 have hP:WZ store base v=0:=by
  unfold WZ;rw [ja kB,ja kB,ja kB,jb];rw [jj,hvl];exact ⟨(Xt hlst).2 hv,hfit⟩
 have hE:zaY store base v=0:=by
  unfold zaY;rw [ja kB,h3,ja (by have:=(Y5 ha).1;omega)]
 exact ⟨hE,by unfold zcz;rw [hE,zal rfl,h3]⟩
theorem zeP (hl:Lst store)(hs:t.Sublist store)(hn:∀ p∈t,p.needs=[]):Ver store (t.map (·.id)) where
 inc:=by
  rw [OV];exact hl.inc.sublist hs
 sub x hx:=by
  obtain ⟨p,hp,rfl⟩:=jt.1 hx;exact ⟨p,hs.subset hp,U⟩
 need p hp hm n hnn:=by
  obtain ⟨q,hq,e⟩:=jt.1 hm;have:q=p:=hl.uniq (hs.subset hq) hp e;subst this;rw [hn q hq] at hnn;cases hnn
theorem zb4 (hl:Lst store)(hs:t.Sublist store):ZY store (t.map (·.id))=t:=by
 have hsub:(ZY store (t.map (·.id))).Sublist store:=List.filter_sublist ..
 have key:∀ (l u w:List Pt),l.Pairwise (fun p q=>p.id<q.id)->u.Sublist l->w.Sublist l->(∀ x,x∈u↔x∈w)->u=w:=fun l u w h hu hw hm=>by
  have h1:u.map (·.id)=w.map (·.id):=by
   refine Wg (OV.2 (h.sublist hu)) (OV.2 (h.sublist hw)) fun a=>?_;simp only [jt,hm]
  refine Ai fun i=>?_;have h2:(u.map (·.id))[i]? =(w.map (·.id))[i]? :=(by rw [h1]);rw [j5,j5] at h2
  cases e1:u[i]? with
  | none=>rw [e1] at h2;cases e2:w[i]? with
   | none=>rfl
   | some y=>rw [e2] at h2;cases h2
  | some x=>
   rw [e1] at h2
   cases e2:w[i]? with
   | none=>rw [e2] at h2;cases h2
   | some y=>
    rw [e2] at h2;have e3:x.id=y.id:=Ob h2;have hx:x∈l:=hu.subset (jd e1);have hy:y∈l:=hw.subset (jd e2);obtain ⟨i',hi⟩:=jC hx;obtain ⟨j',hj⟩:=jC hy;have g1:=(jc.1 hi).1;have g2:=(jc.1 hj).1;rcases BW i' j' with g | g | g
    ·have:=jM.1 h i' j' g1 g2 g;rw [(jc.1 hi).2,(jc.1 hj).2] at this;omega
    ·subst g;rw [hi] at hj;exact hj
    ·have:=jM.1 h j' i' g2 g1 g;rw [(jc.1 hi).2,(jc.1 hj).2] at this;omega
 refine key store _ t hl.inc hsub hs fun x=>?_;rw [Vf];constructor
 ·rintro ⟨h1,h2⟩;obtain ⟨q,hq,e⟩:=jt.1 h2;have:q=x:=hl.uniq (hs.subset hq) h1 e;exact this ▸ hq
 ·intro h;exact ⟨hs.subset h,jt.2 ⟨x,h,U⟩⟩
theorem zi5 (hl:Lst store):ZY store (store.map (·.id))=store:=zb4 hl (List.Sublist.refl _)
theorem zkN:∀ (t:List Pt) (xs ys:List Sg),zqv xs t=(0,ys)->ys.length<=xs.length+t.length
 | [],xs,ys,h=>by
  unfold zqv at h;have:xs=ys:=jr Prod.snd h;subst this;simp
 | p::t,xs,ys,h=>by
  unfold zqv at h;split at h
  ·rename_i g;exact absurd (jr Prod.fst h) g
  ·split at h
   ·rename_i g;exact absurd (jr Prod.fst h) g
   ·have:=zkN t _ ys h;have h2:=zsq (xs:=xs) (p:=p);rw [jw];omega
theorem zvi (hc:KV store=0)(hb:chkG base=0)(hcf:cfL (onF store) base store=[])(hf:zbo base store=true)(hlen:base.length+store.length<=4096)(ht:zkd store t)(hv:Ver store (store.map (·.id))):
  zaY store base (store.map (·.id))=0/\zyg store base (store.map (·.id))=[]/\zcz store base (store.map (·.id))=zaL (onF store) base store/\zqv base t=(0,zaL (onF store) base store):=by
 have hl:=K6 hc;have hs:=W8 hc;have hrun:=znl (VL (Y5 hb).2) hs (fun p hp=>zlU hc hp) hf hcf ht hlen;have hvl:=zi5 hl;have h512:=(K7 hc).1
 have hP:WZ store base (store.map (·.id))=0:=by
  unfold WZ;rw [ja kB,ja kB,ja (by rw [jE];omega),jb];rw [jj,hvl];exact ⟨(Xt hl).2 hv,hf⟩
 have hlen2:=zkN t base _ hrun;rw [ht.perm.length_eq] at hlen2
 have hE:zaY store base (store.map (·.id))=0:=by
  unfold zaY;rw [ja kB,hvl,ja kB]
 refine ⟨hE,?_,?_,hrun⟩
 ·unfold zyg;rw [hE,zal rfl,hvl];exact hcf
 ·unfold zcz;rw [hE,zal rfl,hvl]
structure zE2 (base:List Sg)(kind id:Int)(a:List Sg):Prop where
 cb:chkG base=0
 ca:chkG a=0
 new:∀ s,QW base s=none->(QW a s).isSome=true->kind=5/\s=id
 kd:∀ s x y,QW base s=some x->QW a s=some y->x.kind=y.kind
def za7 (a b:List Sg)(first:Int)(needs:List Int):Int:=
 if chkG a≠0 then chkG a else if chkG b≠0 then chkG b else if needs.length>32 then 2 else if ndB first needs=false then 360 else if Zu first 1 1048576=false then 360 else
 match dfL a b with | none=>360 | some l=>if l.length>512\/first+(l.length:Int)-1>1048576 then 2 else 0
theorem zBL (h:za7 a b first needs=0):chkG a=0/\chkG b=0/\needs.length<=32/\ndB first needs=true/\1<=first/\∃ l,dfL a b=some l/\l.length<=512/\first+(l.length:Int)-1<=1048576:=by
 unfold za7 at h;split at h
 ·rename_i g;exact absurd h g
 ·rename_i g1;split at h
  ·rename_i g;exact absurd h g
  ·rename_i g2;split at h
   ·cases h
   ·rename_i g3;split at h
    ·cases h
    ·rename_i g4;split at h
     ·cases h
     ·rename_i g5;have g5:Zu first 1 1048576=true:=by simpa using g5
      unfold Zu at g5;simp at g5;split at h
      ·cases h
      ·rename_i l e;split at h
       ·cases h
       ·rename_i g6;rw [B8] at g6;exact ⟨kB,kB,kB,by simpa using g4,g5.1,l,e,kB,kB⟩
def zoF (a b:List Sg)(first:Int)(needs:List Int)(ps:List Pt):Prop:=(za7 a b first needs≠0->ps=[])/\(za7 a b first needs=0->∃ l,dfL a b=some l/\Num first needs l ps)
def Uq (I:Qt)(b:Nat)(o:Obj):Prop:=I b=some o
variable{o:Obj}
theorem Uq.of {b:Nat}(h:I b=some o):Uq I b o:=h
theorem Uq.mono {b:Nat}(h:Uq I b o)(hI:HLe I I'):Uq I' b o:=hI _ _ h
variable{vs:List Value}{fz:Nat×Nat}
theorem _root_.Go.Kn.Cells.immC {b:Nat}{t:TypeId}(h:Uq I b (.cells vs.toArray t fz)):Cells I loc b 0 vs:=fun j u hu=>QB.imm h (by rw [Oc,YU];simpa using hu)
abbrev Fd:=Int×Nat
def Uc (x:Fd):List Value:=[.int .i64 x.1,.func (.func x.2) #[] #[]]
theorem zkm (x:Fd):(Uc x).length=2:=rfl
def zDM (f:Int):Nat:=if f<=3 then f.toNat else f.toNat+1
def WF (x y:Sg)(f:Int):Pt:=⟨0,1,x.id,f,VD ZU f y,none,0,0,[]⟩
def chP (x y:Sg)(k:Nat):List Pt:=(List.range k).filterMap fun (i:Nat)=>if ZR x ((i:Int)+1)=ZR y ((i:Int)+1) then none else some (WF x y ((i:Int)+1))
theorem zdW (x y:Sg)(k:Nat):chP x y (k+1)=chP x y k++(if ZR x ((k:Int)+1)=ZR y ((k:Int)+1) then [] else [WF x y ((k:Int)+1)]):=by unfold chP;rw [Ou,List.filterMap_append];congr 1;simp only [List.filterMap_cons,List.filterMap_nil];split<;>rename_i h<;>split at h<;>simp_all
theorem zyX  {m:Nat} (h : k <= m) : chP x y k <+: chP x y m := by
  induction m with
  | zero => have : k = 0 := by omega
            subst this; exact B0 _
  | succ m ih =>
    by_cases e : k = m + 1
    · subst e; exact B0 _
    · rw [zdW]
      exact (ih kB).trans (List.prefix_append ..)
def fvG (x:Sg)(f:Int):Int:=(ZR x f).1
theorem zA0 (hk:k<8):ZR x ((k:Int)+1)=ZR y ((k:Int)+1)↔fvG x ((k:Int)+1)=fvG y ((k:Int)+1):=by have h:k=0\/k=1\/k=2\/k=3\/k=4\/k=5\/k=6\/k=7:=kB;rcases h with rfl | rfl | rfl | rfl | rfl | rfl | rfl | rfl<;>simp [fvG,ZR]
theorem zd8 {b t:Nat}(h:I b=some (.cells (Zk x).toArray t fz))(hk:k<8):QB I loc b (0+zDM ((k:Int)+1)) (.int .i64 (fvG x ((k:Int)+1))):=by have hc:k=0\/k=1\/k=2\/k=3\/k=4\/k=5\/k=6\/k=7:=kB;rcases hc with rfl | rfl | rfl | rfl | rfl | rfl | rfl | rfl<;>exact QB.imm h U
theorem zw4 (x y:Sg)(hk:k<8):(Yh ⟨0,1,x.id,(k:Int)+1,ZU,none,0,0,[]⟩).toArray.setIfInBounds (4+zDM ((k:Int)+1)) (.int .i64 (fvG y ((k:Int)+1)))=(Yh (WF x y ((k:Int)+1))).toArray:=by have hc:k=0\/k=1\/k=2\/k=3\/k=4\/k=5\/k=6\/k=7:=kB;rcases hc with rfl | rfl | rfl | rfl | rfl | rfl | rfl | rfl<;>rfl
theorem zAc (hk:k<8):Nat.blt (4+zDM ((k:Int)+1)) 19=true:=by have hc:k=0\/k=1\/k=2\/k=3\/k=4\/k=5\/k=6\/k=7:=kB;rcases hc with rfl | rfl | rfl | rfl | rfl | rfl | rfl | rfl<;>rfl
variable{enc:α->List Value}
theorem znh {size b t:Nat}{xs:List α}{x:α}(hs:∀ x,(enc x).length=size)(hx:xs[k]? =some x)(R:Go.Kn.Loc):Cells I ((b,.cells (xs.flatMap enc).toArray t fz)::R) b (((k:Nat):Int).toNat*size) (enc x):=fun j u hu=>
 ⟨_,_,_,.inr (jk ..),by
  have:=zak hs xs k x hx j u hu;rw [show ((k:Int)).toNat=k from by omega]
  simpa using this⟩
theorem zmv {b t:Nat}(h:I b=some (.cells (Zk x).toArray t fz)):Cells I loc b (0+10) [.int .i64 x.fn,.int .i64 x.fd]:=fun j u hu=>by
 match j,hu with
 | 0,hu=>cases hu;exact QB.imm h U
 | 1,hu=>cases hu;exact QB.imm h U
 | j+2,hu=>simp at hu
theorem zks {b t:Nat}(h:I b=some (.cells (Zk x).toArray t fz)):Cells I loc b (0+12) [.int .i64 x.tn,.int .i64 x.td]:=fun j u hu=>by
 match j,hu with
 | 0,hu=>cases hu;exact QB.imm h U
 | 1,hu=>cases hu;exact QB.imm h U
 | j+2,hu=>simp at hu
theorem zsr (h:ZR x ((k:Int)+1)=ZR y ((k:Int)+1)):chP x y (k+1)=chP x y k:=by rw [zdW,jb h,jz]
theorem zed (h:ZR x ((k:Int)+1)≠ZR y ((k:Int)+1)):chP x y (k+1)=chP x y k++[WF x y ((k:Int)+1)]:=by rw [zdW,ja h]
theorem zsp :(!(x.fn==y.fn&&(x.fd==y.fd&&true))|| !(x.tn==y.tn&&(x.td==y.td&&true)))=decide (ZR x (((8:Nat):Int)+1)≠ZR y (((8:Nat):Int)+1)):=by have e:∀ z:Sg,ZR z (((8:Nat):Int)+1)=(z.fn,z.fd,z.tn,z.td):=fun z=>U;rw [e,e,jL];simp;omega
theorem zEh (h:(!(x.fn==y.fn&&(x.fd==y.fd&&true))|| !(x.tn==y.tn&&(x.td==y.td&&true)))=true):ZR x (((8:Nat):Int)+1)≠ZR y (((8:Nat):Int)+1):=by rw [zsp] at h;exact Oi h
theorem zEG (h:(!(x.fn==y.fn&&(x.fd==y.fd&&true))|| !(x.tn==y.tn&&(x.td==y.td&&true)))=false):ZR x (((8:Nat):Int)+1)=ZR y (((8:Nat):Int)+1):=by rw [zsp] at h;exact Classical.not_not.1 (O1 h)
theorem zqB (I:Qt)(b o:Nat):Zt Tryz.prog 162 [.pointer (some ⟨b,o,none⟩)] I (.pointer (some ⟨b,o+1,none⟩)):=by intro g H w hw;refine qe Tryz.func162 Tryz.ntmps162 hw ?_;refine zR (zA ?_);refine zN (zR ?_);refine zM ?_;refine zV (Qu U) ?_;refine zF Vq ?_;refine zA (zN (Qr ?_));exact zr U U kL
theorem zyf (I:Qt)(b o:Nat):Zt Tryz.prog 163 [.pointer (some ⟨b,o,none⟩)] I (.pointer (some ⟨b,o+2,none⟩)):=by intro g H w hw;refine qe Tryz.func163 Tryz.ntmps163 hw ?_;refine zR (zA ?_);refine zN (zR ?_);refine zM ?_;refine zV (Qu U) ?_;refine zF Yq ?_;refine zA (zN (Qr ?_));exact zr U U kL
theorem zq3 (I:Qt)(b o:Nat):Zt Tryz.prog 164 [.pointer (some ⟨b,o,none⟩)] I (.pointer (some ⟨b,o+3,none⟩)):=by intro g H w hw;refine qe Tryz.func164 Tryz.ntmps164 hw ?_;refine zR (zA ?_);refine zN (zR ?_);refine zM ?_;refine zV (Qu U) ?_;refine zF VJ ?_;refine zA (zN (Qr ?_));exact zr U U kL
theorem zqS (I:Qt)(b o:Nat):Zt Tryz.prog 165 [.pointer (some ⟨b,o,none⟩)] I (.pointer (some ⟨b,o+5,none⟩)):=by intro g H w hw;refine qe Tryz.func165 Tryz.ntmps165 hw ?_;refine zR (zA ?_);refine zN (zR ?_);refine zM ?_;refine zV (Qu U) ?_;refine zF VE ?_;refine zA (zN (Qr ?_));exact zr U U kL
theorem zwo (I:Qt)(b o:Nat):Zt Tryz.prog 166 [.pointer (some ⟨b,o,none⟩)] I (.pointer (some ⟨b,o+6,none⟩)):=by intro g H w hw;refine qe Tryz.func166 Tryz.ntmps166 hw ?_;refine zR (zA ?_);refine zN (zR ?_);refine zM ?_;refine zV (Qu U) ?_;refine zF Yx ?_;refine zA (zN (Qr ?_));exact zr U U kL
theorem zlj (I:Qt)(b o:Nat):Zt Tryz.prog 167 [.pointer (some ⟨b,o,none⟩)] I (.pointer (some ⟨b,o+7,none⟩)):=by intro g H w hw;refine qe Tryz.func167 Tryz.ntmps167 hw ?_;refine zR (zA ?_);refine zN (zR ?_);refine zM ?_;refine zV (Qu U) ?_;refine zF Jk ?_;refine zA (zN (Qr ?_));exact zr U U kL
theorem zo9 (I:Qt)(b o:Nat):Zt Tryz.prog 168 [.pointer (some ⟨b,o,none⟩)] I (.pointer (some ⟨b,o+8,none⟩)):=by intro g H w hw;refine qe Tryz.func168 Tryz.ntmps168 hw ?_;refine zR (zA ?_);refine zN (zR ?_);refine zM ?_;refine zV (Qu U) ?_;refine zF Yy ?_;refine zA (zN (Qr ?_));exact zr U U kL
theorem zpO (I:Qt)(b o:Nat):Zt Tryz.prog 169 [.pointer (some ⟨b,o,none⟩)] I (.pointer (some ⟨b,o+9,none⟩)):=by intro g H w hw;refine qe Tryz.func169 Tryz.ntmps169 hw ?_;refine zR (zA ?_);refine zN (zR ?_);refine zM ?_;refine zV (Qu U) ?_;refine zF VT ?_;refine zA (zN (Qr ?_));exact zr U U kL
theorem zlM (I:Qt):ZQ Tryz.prog 120 [] I [] (fun v I' L=>I=I'/\∃ b7,v= .slice (some ⟨b7,0,none⟩) 8 8/\L=[(b7,.cells (([(1,162),(2,163),(3,164),(4,165),(5,166),(6,167),(7,168),(8,169)]:List Fd).flatMap Uc).toArray 186 (0,0))]):=by intro g H w hw;refine qe Tryz.func120 Tryz.ntmps120 hw ?_;refine zR (zA ?_);refine zN (zR ?_);refine zV (QC (ps:=[(0,_),(1,_)]) [_,_] U4 U U) ?_;refine zV (QC (ps:=[(0,_),(1,_)]) [_,_] U4 U U) ?_;refine zV (QC (ps:=[(0,_),(1,_)]) [_,_] U4 U U) ?_;refine zV (QC (ps:=[(0,_),(1,_)]) [_,_] U4 U U) ?_;refine zV (QC (ps:=[(0,_),(1,_)]) [_,_] U4 U U) ?_;refine zV (QC (ps:=[(0,_),(1,_)]) [_,_] U4 U U) ?_;refine zV (QC (ps:=[(0,_),(1,_)]) [_,_] U4 U U) ?_;refine zV (QC (ps:=[(0,_),(1,_)]) [_,_] U4 U U) ?_;refine zpb [(0,_),(1,_),(2,_),(3,_),(4,_),(5,_),(6,_),(7,_)] [Uc (1,162),Uc (2,163),Uc (3,164),Uc (4,165),Uc (5,166),Uc (6,167),Uc (7,168),Uc (8,169)] zus (fun b_9=>?_);refine zA (zN (Qr ?_));exact QR U U (fun w hw=>⟨_,I,_,U,zGN _,hw,U,b_9,U,U⟩)
variable{fd:Fd}
theorem zEt (h:([(1,162),(2,163),(3,164),(4,165),(5,166),(6,167),(7,168),(8,169)]:List Fd)[k]? =some fd):∃ f,fd=((k:Int)+1,f)/\Fun Tryz.prog f/\∀ (I:Qt) (b o:Nat),Zt Tryz.prog f [.pointer (some ⟨b,o,none⟩)] I (.pointer (some ⟨b,o+zDM ((k:Int)+1),none⟩)):=by
 have hk:=(jc.1 h).1;have hc:k=0\/k=1\/k=2\/k=3\/k=4\/k=5\/k=6\/k=7:=(by simp at hk;omega);rcases hc with rfl | rfl | rfl | rfl | rfl | rfl | rfl | rfl<;>cases h
 ·exact ⟨162,U,zyq,zqB⟩
 ·exact ⟨163,U,zwM,zyf⟩
 ·exact ⟨164,U,zu6,zq3⟩
 ·exact ⟨165,U,zvD,zqS⟩
 ·exact ⟨166,U,zye,zwo⟩
 ·exact ⟨167,U,zuy,zlj⟩
 ·exact ⟨168,U,zxp,zo9⟩
 exact ⟨169,U,zyj,zpO⟩
theorem znY (I:Qt)(x y:Sg):ZQ Tryz.prog 46 [Yp x,Yp y] I [] (fun v I' L=>L=[]/\∃ b1 b2,v= .func (.func 119) #[] [QZ b1,QZ b2].toArray/\Uq I' b1 (.cells (Zk x).toArray 28 (0,0))/\Uq I' b2 (.cells (Zk y).toArray 28 (0,0))):=by intro g H w hw;refine qe Tryz.func46 Tryz.ntmps46 hw ?_;have hIc:=zGN I;refine zR ?_;refine QG U U U (fun b_2=>?_);refine QG U U U (fun b_3=>?_);refine zA (zN (Ql ?_));refine QQ .here (fun I1 hI1 hb1=>?_);have hIc:=hIc.trans hI1;have h3:=Uq.of hb1;refine QQ .here (fun I2 hI2 hb2=>?_);have h3:=h3.mono hI2;have hIc:=hIc.trans hI2;have h2:=Uq.of hb2;refine Qf ?_;refine zV (QN (us:=[]) (vs:=[_,_]) U U) ?_;refine zA (zN (Qr ?_));exact QR U U (fun w hw=>⟨_,I2,[],U,hIc,hw.drop,U,b_2,b_3,U,h2,h3⟩)
theorem zDj (h1:I b1=some (.cells (Zk x).toArray 28 (0,0)))(h2:I b2=some (.cells (Zk y).toArray 28 (0,0))):zDO Tryz.prog 119 [QZ b1,QZ b2] I UI (chP x y 9):=by
 intro g l J Jx hY I0 H w h0 hJ hw;have h1:=h0 _ _ h1;have h2:=h0 _ _ h2;refine qe Tryz.func119 Tryz.ntmps119 hw ?_;refine Ql (zR ?_);refine zpc [] U zwR .nil (zlM I0) ?_;rintro vv1 I1 L1 hI1 ⟨rfl,b7,rfl,rfl⟩;refine zQ zkJ ?_;refine zM (zN (Qp ?_));refine zdg (fun m E I' H' loc'=>∃ k:Nat,m=8-k/\E=[(0,.func (.yield l) #[] #[]),(1,QZ b1),(2,QZ b2),(7,.slice (some ⟨b7,0,none⟩) 8 8),(8,.int .i64 8),(9,.int .i64 k)]/\loc'=[(b7,.cells (([(1,162),(2,163),(3,164),(4,165),(5,166),(6,167),(7,168),(8,169)]:List Fd).flatMap Uc).toArray 186 (0,0))]/\HLe I0 I'/\k<=8/\J (chP x y k) I' H') _ _ _ ⟨0,U,U,U,zGN _,jf _,hJ⟩ (.cons U (.cons U (.cons U (.cons U (.cons U (.cons U .nil)))))) U ?_;rintro m E J9 H' loc' ⟨k,rfl,rfl,rfl,hI1,hk,hJk⟩;have h1:=hI1 _ _ h1;have h2:=hI1 _ _ h2;have hI0:=h0.trans hI1;refine zR (zC (zN (Ql ?_)));refine zI ?_ ?_<;>intro hc10
 ·have hlt:k<8:=(by have h:=hc10;simp at h;omega);obtain ⟨fd,hfd⟩:∃ fd,([(1,162),(2,163),(3,164),(4,165),(5,166),(6,167),(7,168),(8,169)]:List Fd)[k]? =some fd:=⟨_,je hlt⟩;obtain ⟨fn,rfl,hFn,hfr⟩:=zEt hfd;refine Qo (Qa (Ql (Qp (zR ?_))));refine zV (Q2 U U zkJ (fun hg=>kB)) ?_;refine zV (Qk U zwS (fun hg=>by exact (znh zkm hfd _)) U) ?_;refine Qs zz5 U U (fun b_5=>?_);refine zh zuK ?_;refine zN (Ql ?_);refine zY [(0,_),(1,_),(2,_),(5,_),(7,_),(8,_),(9,_)] (fun T L0 E I' loc'=>E=(23,.bool (fvG x ((k:Int)+1)==fvG y ((k:Int)+1)))::T/\J9=I'/\[(b_5,.cells (Uc ((k:Int)+1,fn)).toArray 186 (0,0)),(b7,.cells (([(1,162),(2,163),(3,164),(4,165),(5,166),(6,167),(7,168),(8,169)]:List Fd).flatMap Uc).toArray 186 (0,0))]=loc'/\True) ?_ ?_
  ·have hD:=zGN J9;refine KF mixed ?_;refine zT 0 U (Qe U Xi) hD ?_;refine zT 1 U (Qd U zds (fun hg=>by exact QB.h0 U)) hD ?_;refine zT 5 U (Qe U Xi) hD ?_;refine zT 6 U (Qd U zds (fun hg=>by exact QB.h0 U)) hD ?_;refine qd 2 U ?_;refine Yo (cap:=[]) (vs:=[_]) U U hFn (hfr _ _ _) U U ?_;refine Qb ?_;refine zD hD ?_;refine zT 3 U (Qu U) hD ?_;refine zT 4 U (Qd U Qq (fun hg=>by exact (zd8 h1 hlt))) hD ?_;refine qd 7 U ?_;refine Yo (cap:=[]) (vs:=[_]) U U hFn (hfr _ _ _) U U ?_;refine Qb ?_;refine zD hD ?_;refine zT 8 U (Qu U) hD ?_;refine zT 9 U (Qd U Qq (fun hg=>by exact (zd8 h2 hlt))) hD ?_;refine zT 10 U (QI U U U) hD ?_;refine Qz kA ?_;refine QD ?_;exact zm (h:=⟨U,U,U,trivial⟩)
  rintro E I' loc' ⟨rfl,rfl,rfl,_⟩;refine zI ?_ ?_<;>intro hc23
  ·have heq:ZR x ((k:Int)+1)=ZR y ((k:Int)+1):=(zA0 hlt).2 (by simpa using hc23);refine QF (Qh (Qm (Qa (Qf (zB ?_)))));refine zM (Qb ?_)
   first
   | exact Wh U U U _ [(b7,.cells (([(1,162),(2,163),(3,164),(4,165),(5,166),(6,167),(7,168),(8,169)]:List Fd).flatMap Uc).toArray 186 (0,0))] ⟨8-(k+1),kB,k+1,U,U,U,hI1,kB,by rw [zsr heq];exact hJk⟩ (.cons U (.cons U (.cons U (.cons U (.cons U (.cons U .nil)))))) (by repeat (first | exact .refl | refine .drop ?_))
  have hneq:ZR x ((k:Int)+1)≠ZR y ((k:Int)+1):=fun e=>(by have:=(zA0 hlt).1 e;simp [this] at hc23);have hpre:chP x y k++[WF x y ((k:Int)+1)]<+:chP x y 9:=(by rw [<-zed hneq];exact zyX kB);refine Qo (Qa (zR ?_));refine zF Zb ?_;refine zV (Qd U Qq (fun hg=>by exact QB.imm h1 U)) ?_;refine zF zkj ?_;refine zL Qq ?_;refine zV (QC (ps:=[(1,_),(2,_),(3,_)]) [_,_,_,_,_,_,_,_,_,_,_,_,_,_,_,_,_,_,_] zi8 U U) ?_;refine Qs Uf U U (fun b_6=>?_);refine zh VY ?_;refine zN ?_;refine zY [(0,_),(1,_),(2,_),(6,_),(7,_),(8,_),(9,_)] (fun T L0 E I' loc'=>E=T/\J9=I'/\[(b_6,.cells (Yh (WF x y ((k:Int)+1))).toArray 53 (0,0)),(b_5,.cells (Uc ((k:Int)+1,fn)).toArray 186 (0,0)),(b7,.cells (([(1,162),(2,163),(3,164),(4,165),(5,166),(6,167),(7,168),(8,169)]:List Fd).flatMap Uc).toArray 186 (0,0))]=loc'/\True) ?_ ?_
  ·have hD:=zGN J9;refine YZ ?_;refine ZA J9 [(b_5,.cells (Uc ((k:Int)+1,fn)).toArray 186 (0,0)),(b7,.cells (([(1,162),(2,163),(3,164),(4,165),(5,166),(6,167),(7,168),(8,169)]:List Fd).flatMap Uc).toArray 186 (0,0))] mixed ?_;refine zT 0 U (Qe U Xi) hD ?_;refine zT 1 U (Qd U zds (fun hg=>by exact QB.h0 U)) hD ?_;refine zT 2 U (Qe U VH) hD ?_;refine zT 4 U (Qe U Xi) hD ?_;refine zT 5 U (Qd U zds (fun hg=>by exact QB.h0 U)) hD ?_;refine qd 3 U ?_;refine Yo (cap:=[]) (vs:=[_]) U U hFn (hfr _ _ _) U U ?_;refine Qb ?_;refine zD hD ?_;refine qd 6 U ?_;refine Yo (cap:=[]) (vs:=[_]) U U hFn (hfr _ _ _) U U ?_;refine Qb ?_;refine zD hD ?_;refine zT 7 U (Qu U) hD ?_;refine zT 8 U (Qd U Qq (fun hg=>by exact (zd8 h2 hlt))) hD ?_;refine zT 9 U (Qu U) hD ?_;refine qd 10 U ?_;refine Z0 U U ZD U U (by repeat (first | exact Upd.here | apply Upd.there)) (by exact zAc hlt) ?_;refine Qb ?_;refine zD hD ?_;refine Qz kA ?_;refine QD ?_;exact Y8 _ _ ⟨U,U,U,trivial⟩ (.cons U (.cons U (.cons U (.cons U (.cons U (.cons U (.cons U .nil))))))) (by rw [<-zw4 x y hlt];exact .refl)
  rintro E I' loc' ⟨rfl,rfl,rfl,_⟩;refine zR (zM ?_);refine zV (Qk U YG (fun hg=>by exact Cells.g0) U) ?_;refine JA (vs:=[_]) (Post:=fun b I2 H2=>if b then J (chP x y k++[WF x y ((k:Int)+1)]) I2 H2 else Jx (chP x y k++[WF x y ((k:Int)+1)]) I2 H2) U U U U (hY _ (WF x y ((k:Int)+1)) _ _ hpre hI0 hJk) ?_;rintro t_41 I2 H2 hI2 hP2;refine zO (zN ?_);refine zI ?_ ?_<;>intro hc42
  ·have ht:t_41=false:=(by simpa using hc42);subst ht;have hJ2:Jx (chP x y k++[WF x y ((k:Int)+1)]) I2 H2:=hP2;refine Qr (Qn (Qc (Qc (Qn (Qc ?_)))));exact Ys U (fun w hw=>⟨_,I2,H2,U,hI1.trans hI2,hw.drop,.inr ⟨_,hpre,hJ2⟩⟩)
  have ht:t_41=true:=(by simpa using hc42);subst ht;have hJ2:J (chP x y k++[WF x y ((k:Int)+1)]) I2 H2:=hP2;refine Qo (Qg (Qa (Qf (zB ?_))));refine zM (Qb ?_)
  first
  | exact Wh U U U _ [(b7,.cells (([(1,162),(2,163),(3,164),(4,165),(5,166),(6,167),(7,168),(8,169)]:List Fd).flatMap Uc).toArray 186 (0,0))] ⟨8-(k+1),kB,k+1,U,U,U,hI1.trans hI2,kB,by rw [zed hneq];exact hJ2⟩ (.cons U (.cons U (.cons U (.cons U (.cons U (.cons U .nil)))))) (by repeat (first | exact .refl | refine .drop ?_))
 have hke:k=8:=(by have h:=hc10;simp at h;omega);subst hke;refine QF (Qh (Qh (Qm (Qa (zR ?_)))));refine zF Ym ?_;refine zV (Qk U Zs (fun hg=>by exact zmv h1) U) ?_;refine zF Ym ?_;refine zV (Qk U Zs (fun hg=>by exact zmv h2) U) ?_;refine zV (zrX U U zsP U) ?_;refine zM ?_;refine Q8 5 U U U ?_;refine zJ (Qe U Yl) ?_;refine zJ (Qk U Zs (fun hg=>by exact zks h1) U) ?_;refine zJ (Qe U Yl) ?_;refine zJ (Qk U Zs (fun hg=>by exact zks h2) U) ?_;refine zJ (zrX U U zsP U) ?_;refine ZO U U U U U ?_;refine zN ?_;refine zI ?_ ?_<;>intro hc55
 ·have hn9:ZR x (((8:Nat):Int)+1)≠ZR y (((8:Nat):Int)+1):=zEh hc55;have hpre9:chP x y 8++[WF x y (((8:Nat):Int)+1)]<+:chP x y 9:=(by rw [<-zed hn9];exact B0 _);refine Qf (zM ?_);refine zF Zb ?_;refine zV (Qd U Qq (fun hg=>by exact QB.imm h1 U)) ?_;refine zF Ym ?_;refine zV (Qk U Zs (fun hg=>by exact zmv h2) U) ?_;refine zF Yl ?_;refine zV (Qk U Zs (fun hg=>by exact zks h2) U) ?_;refine zV (QC (ps:=[(10,_),(11,_)]) [_,_,_,_,_,_,_,_,_,_,_,_,_,_] W9 U U) ?_;refine zV (QC (ps:=[(1,_),(2,_),(3,_),(4,_)]) [_,_,_,_,_,_,_,_,_,_,_,_,_,_,_,_,_,_,_] zi8 U U) ?_;refine JA (vs:=[_]) (Post:=fun b I2 H2=>if b then J (chP x y 8++[WF x y (((8:Nat):Int)+1)]) I2 H2 else Jx (chP x y 8++[WF x y (((8:Nat):Int)+1)]) I2 H2) U U U U (hY _ (WF x y (((8:Nat):Int)+1)) _ _ hpre9 hI0 hJk) ?_;rintro t_65 I2 H2 hI2 hP2;refine Qb ?_
  first
  | exact YV (Ys U (fun w hw=>⟨_,I2,H2,U,hI1.trans hI2,hw.drop,(by cases t_65 with | true=>exact .inl (by rw [zed hn9];exact hP2) | false=>exact .inr ⟨_,hpre9,hP2⟩)⟩))
 have he9:ZR x (((8:Nat):Int)+1)=ZR y (((8:Nat):Int)+1):=zEG hc55;refine Qo ?_
 first
 | exact YV (Ys U (fun w hw=>⟨_,J9,H',U,hI1,hw.drop,.inl (by rw [zsr he9];exact hJk)⟩))
end
end Go.Proofs.YtmbjmjbjdgjonaaGreatDoor.R
section
namespace Go.Kn
open Go
theorem zBP {C:Cx}{Q:Exit->Act->World->Prop}{E:Env}{I:Qt}{loc:Loc}(loc':Loc){c:Code}(hp:loc'.Perm loc)(h:X C Q c E I loc'):X C Q c E I loc:=fun a w ha hw=>h a w ha (hw.permL hp)
end Go.Kn
namespace Go.Proofs.YtmbjmjbjdgjonaaGreatDoor.R
open Go Go.Kn Go.Proofs
theorem zpA {xs:List Int}{k:Nat}{x:Int}(hx:xs[k]? =some x)(h:orF (xs.take k)=0)(h0:x=0):orF (xs.take (k+1))=0:=by
 rw [ZI hx,Ve];intro z hz;rcases jv.1 hz with h1 | h1
 ·exact Ve.1 h z h1
 ·simp only [jA] at h1;subst h1;exact h0
end Go.Proofs.YtmbjmjbjdgjonaaGreatDoor.R
end
namespace Go.Proofs.YtmbjmjbjdgjonaaGreatDoor.R
section
open Go Go.Kn Go.Proofs
variable{I:Qt}{f n0:Nat}{cap:List Value}{zs:List Pt}{v0:Value}{L9:Go.Kn.Loc}
theorem zmt (hF:Fun Tryz.prog f)(hseq:zDO Tryz.prog f cap I UI zs){xs:List Pt}(hO0:OwnS 53 19 v0 n0 (xs.flatMap Yh) L9)(hn9:n0+zs.length<=10000000):ZQ Tryz.prog 45 [v0,.func (.func f) #[] cap.toArray] I L9 ((fun v _I' L=>OwnS 53 19 v (n0+zs.length) ((xs++zs).flatMap Yh) L)):=by
 intro g H w hw;refine zsJ Tryz.func45 U Tryz.ntmps45 U hw ?_;obtain ⟨va,vn,vc,rfl⟩:=hO0.val;refine zR ?_;refine QG U U U (fun b_2=>?_);refine zA (zN (Ql (Ql ?_)));refine zBP (L9++[(b_2,.cells #[.slice va vn vc] 49 (0,0))]) (List.perm_append_singleton _ _) ?_;refine Qf (zM (zN (Qp ?_)));refine zgw (enc:=UI) (fun pre I' loc'=>∃ (v:Value) (L:Go.Kn.Loc),loc'=L++[(b_2,.cells #[v] 49 (0,0))]/\OwnS 53 19 v (n0+pre.length) ((xs++pre).flatMap Yh) L) (fun _ _ _ _=>False) (fun pre x E2 I2 loc2=>∃ (v:Value) (L:Go.Kn.Loc) (b5:Nat),E2=[(2,QZ b_2),(5,QZ b5)]/\loc2=(b5,.cells (Yh x).toArray 53 (0,0))::(L++[(b_2,.cells #[v] 49 (0,0))])/\OwnS 53 19 v (n0+pre.length) ((xs++pre).flatMap Yh) L) U hF hseq U ⟨_,L9,U,by rw [jz];exact hO0⟩ ?_ ?_ ?_ ?_
 ·rintro l pre x I1 loc1 H1 hpre hI1 ⟨v,L,rfl,hO⟩;refine Qf ?_;refine Qs Uf U U (fun b_5=>?_);refine zh VY ?_;refine Qb ?_;exact K9 _ ⟨zGN _,v,L,b_5,U,U,hO⟩ (.cons U (.cons U .nil))
 ·rintro l pre x E2 I2 loc2 H2 hpre hI2 ⟨v,L,b5,rfl,rfl,hO⟩;have hple:=hpre.length_le;simp only [jh,jG] at hple;refine Qp (Qf ?_);refine zV (Qd U zbp (fun hg=>by exact zGH (zGJ (zGI U)))) ?_;refine zV (Qk U YG (fun hg=>by exact Cells.g0) U) ?_;refine zpb [(0,_)] [Yh x] Ks (fun b_10=>?_);refine zpa (_) ([x].flatMap Yh) (L) U U Ks hO ⟨U,fun _=>U,by repeat (first | exact zGL | apply zGK | apply zGM)⟩ (zgh _) ?_;intro v8 L8 hO8 _;rw [<-jo] at hO8;refine zx8 znM hO8.one ?_;refine Qb (Qg ?_);exact KH (loc':=L8++[(b_2,_)]) ⟨zGN _,v8,L8,U,by rw [jh,jG,<-BR,<-jn];exact hO8⟩ (by repeat (first | exact .refl | exact QS | refine Zr ?_ | refine .drop ?_ | refine .keep ?_ | refine Zp ?_))
 ·rintro bd I1 loc1 hI1 ⟨v,L,rfl,hO⟩;refine Qg (Qa (zR ?_));refine zV (Qd U zbp (fun hg=>by exact QB.lft (zGJ (zGI U)))) ?_;refine zA (zN (Qr ?_));exact zxy (fun a ha w _=>zFN U U a ha w) (QH (A:=L++[(b_2,_)]) .here) (fun w hw=>⟨_,I1,L,U,hI1,(hw.subL QS).subL QS,hO⟩)
 rintro cd bd pre I1 loc1 hI1 hpre hF;exact hF.elim
variable{av:Option Addr}{n c:Nat}
theorem zFD {xs:List Int}(hS:Sl I 1 Q3 av n c xs)(hn:n<=100000):Zt Tryz.prog 44 [.slice av n c] I (.int .i64 (orF xs)):=by
 intro g H w hw;refine qe Tryz.func44 Tryz.ntmps44 hw ?_;have hlx:=hS.len;refine zR (zA ?_);refine zN (zR ?_);refine zA (zN (Ql (zR ?_)));refine zM ?_;refine zQ zl1 ?_;refine zM (zN (Qp ?_));refine zU [(3,_),(6,_),(7,_)] (fun T L0 mz E I' loc'=>∃ (k:Nat),mz=n-k/\E=(8,.int .i64 k)::T/\I=I'/\L0=loc'/\k<=n/\orF (xs.take k)=0) ?_ (h:=⟨0,U,U,U,U,jf _,U⟩);rintro mz E I' loc' ⟨k,rfl,rfl,rfl,rfl,hk,hz⟩;refine zR (zC (zN (Ql ?_)));refine zI ?_ ?_<;>intro hc9
 ·have hlt_k:k<n:=(by have h:=hc9;simp at h;omega);obtain ⟨x,hx⟩:=hS.at hlt_k;refine Qo (Qa (Ql (Qp (zR ?_))));refine zV (zX zl1 hS) ?_;refine zV (Qd U zAT (fun hg=>by exact zGG hS hx U)) ?_;refine zA ?_;refine zN (zR ?_);refine zM ?_;refine zM ?_;refine zC (zN ?_);refine zI ?_ ?_<;>intro hc14
  ·have hne:x≠0:=(by simpa using hc14);refine zR (zM ?_);refine zA (zN (Qr (Qn (Qc (Qc (Qn (Qc ?_)))))));exact zr U U (by rw [ziu hx hz hne])
  refine Qo (Qg (Qa (Qf (zB ?_))));refine zM (Qb ?_);exact zm (h:=⟨n-(k+1),kB,k+1,U,U,U,U,kB,zpA hx hz (by simpa using hc14)⟩)
 have hge_k:n<=k:=(by have h:=hc9;simp at h;omega);have hke:k=n:=kB;subst hke;rw [ZJ hlx (js _)] at hz;refine QF (Qh (Qh (Qm (Qa (zR (zM ?_))))));refine zA (zN (Qr ?_));exact zr U U (by rw [hz])
def hdG (l:List Sg):Sg:=l.headD ZU
theorem zbq {l:List Sg}(h:Sl I 14 Zk av n c l)(hn:0<n):l[0]? =some (hdG l):=by
 have hl:=h.len
 cases l with
 | nil=>simp at hl;omega
 | cons x l=>rfl
theorem zdE {l:List Sg}(h:Sl I 14 Zk av n c l)(hn:0<n):∃ t,l=hdG l::t:=by
 have hl:=h.len
 cases l with
 | nil=>simp at hl;omega
 | cons x l=>exact ⟨l,U⟩
variable{x:Sg}
theorem zdB {l:List Sg}(h:Sl I 14 Zk av n c (x::l)):Sl I 14 Zk (zoB av c 1 14) (n-1) (c-1) l:=by have hl:=h.len;have:=h.drop (k:=1) (by rw [<-hl];simp);simpa using this
def mkP (c:Pc):Pt:=⟨0,c.kind,c.sign,c.field,c.nw,none,0,0,[]⟩
theorem zvl (x y:Sg)(k:Nat):chP x y k=(chC x y k).map mkP:=by unfold chP chC;rw [List.map_filterMap];congr 1;funext i;split<;>rfl
theorem zrK (x y:Sg)(k:Nat):(chC x y k).length<=k:=by unfold chC;exact jT (List.length_filterMap_le _ _) (by rw [OU];exact js _)
def DfI (xs ys a b:List Sg)(done:List Pc):Prop:=dfL xs ys=(dfL a b).map (done++ ·)
variable{xs ys:List Sg}
theorem DfI.start :DfI xs ys xs ys []:=by unfold DfI;cases dfL xs ys<;>rfl
variable{l:List Pc}
theorem DfI.done (h:DfI xs ys [] [] l):dfL xs ys=some l:=by unfold DfI at h;rw [h];simp [dfL]
theorem zd9 (o:Option (List Pc))(d m:List Pc):(o.map (m++ ·)).map (d++ ·)=o.map ((d++m)++ ·):=by
 cases o with
 | none=>rfl
 | some l=>simp
variable{b:List Sg}
theorem DfI.rm {a:List Sg}   (h : DfI xs ys (x :: a) b l) (hb : b = [] \/ x.id < (hdG b).id) : DfI xs ys a b (l ++ [rmC x]) := by
  unfold DfI at *
  have e : dfL (x :: a) b = (dfL a b).map ([rmC x] ++ ·) := by
    cases b with
    | nil => rw [dfL]; rfl
    | cons y b => rw [dfL, if_pos (by rcases hb with h | h; · cases h
                                      · exact h)]; rfl
  rw [h, e, zd9]
variable{y:Sg}
theorem DfI.ins {a:List Sg}   (h : DfI xs ys a (y :: b) l) (hb : a = [] \/ y.id < (hdG a).id) : DfI xs ys a b (l ++ [inC y]) := by
  unfold DfI at *
  have e : dfL a (y :: b) = (dfL a b).map ([inC y] ++ ·) := by
    cases a with
    | nil => rw [dfL]; rfl
    | cons x a =>
      have hlt : y.id < x.id := by rcases hb with h | h; · cases h
                                   · exact h
      rw [dfL, ja kB, jb hlt]; rfl
  rw [h, e, zd9]
theorem DfI.bad {a:List Sg}(h:DfI xs ys (x::a) (y::b) l)(h1:¬x.id<y.id)(h2:¬y.id<x.id)(hk:x.kind≠y.kind):dfL xs ys=none:=by unfold DfI at h;rw [h,dfL,ja h1,ja h2,jb hk];rfl
theorem DfI.ch {a:List Sg}(h:DfI xs ys (x::a) (y::b) l)(h1:¬x.id<y.id)(h2:¬y.id<x.id)(hk:x.kind=y.kind):DfI xs ys a b (l++chC x y 9):=by unfold DfI at*;rw [h,dfL,ja h1,ja h2,ja (by simpa using hk),zd9]
structure zjq (I:Qt)(first:Int)(ds:List Int)(l:List Pc)(k:Nat)(ps:List Pt):Prop where
 len:ps.length=l.length
 old:∀ (i:Nat) (c:Pc) (p:Pt),l[i]? =some c->ps[i]? =some p->i<k->p.id=first+i/\p.kind=c.kind/\p.sign=c.sign/\p.field=c.field/\p.nw=c.nw/\p.needs=ds/\Nd I p
 new:∀ (i:Nat) (c:Pc) (p:Pt),l[i]? =some c->ps[i]? =some p->k<=i->p=mkP c
variable{first:Int}{ds:List Int}
theorem zjq.start :zjq I first ds l 0 (l.map mkP) where
 len:=by simp
 old i c p hc hp hi:=kB
 new i c p hc hp _:=by rw [j5,hc] at hp;cases hp;rfl
def zDU (c:Pc)(id:Int)(a:Option Addr)(n m:Nat)(ds:List Int):Pt:=⟨id,c.kind,c.sign,c.field,c.nw,a,n,m,ds⟩
variable{I':Qt}{k m:Nat}{ps:List Pt}{a:Option Addr}
theorem zjq.step {c:Pc}(h:zjq I first ds l k ps)(hc:l[k]? =some c)(hI:HLe I I')(hN:Sl I' 1 Q3 a n m ds):zjq I' first ds l (k+1) (ps.set k (zDU c (first+k) a n m ds)) where
 len:=by rw [A3];exact h.len
 old i c' p hc' hp hi:=by
  rw [List.getElem?_set] at hp;split at hp
  ·rename_i e;subst e;rw [hc] at hc';cases hc';split at hp
   ·cases hp;exact ⟨U,U,U,U,U,U,hN⟩
   ·cases hp
  ·rename_i e;obtain ⟨h1,h2,h3,h4,h5,h6,h7⟩:=h.old i c' p hc' hp kB;exact ⟨h1,h2,h3,h4,h5,h6,h7.mono hI⟩
 new i c' p hc' hp hi:=by
  rw [List.getElem?_set_ne kB] at hp;exact h.new i c' p hc' hp kB
theorem zjq.mono (h:zjq I first ds l k ps)(hI:HLe I I'):zjq I' first ds l k ps where
 len:=h.len
 old i c p hc hp hi:=by
  obtain ⟨h1,h2,h3,h4,h5,h6,h7⟩:=h.old i c p hc hp hi;exact ⟨h1,h2,h3,h4,h5,h6,h7.mono hI⟩
 new:=h.new
theorem zjq.num (h:zjq I first ds l k ps)(hk:l.length<=k):Num first ds l ps where
 len:=h.len
 at_ i c p hc hp:=by
  obtain ⟨h1,h2,h3,h4,h5,h6,h7⟩:=h.old i c p hc hp (by have:=(jc.1 hc).1;omega);exact ⟨h1,h2,h3,h4,h5,h6⟩
theorem zjq.nd (h:zjq I first ds l k ps)(hk:l.length<=k):∀ p∈ps,Nd I p:=fun p hp=>by
 obtain ⟨i,hi⟩:=jC hp;have hlt:=(jc.1 hi).1;have hc:l[i]? =some (l[i]'(by rw [<-h.len];exact hlt)):=je _;exact (h.old i _ p hc hi (by rw [h.len] at hlt;omega)).2.2.2.2.2.2
variable{cur:List Value}{id:Int}
theorem zjx {c:Pc}(hseg:(cur.drop (k*19)).take 19=Yh (mkP c))(hle:k*19+19<=cur.length):
  ((cur.toArray.setIfInBounds (k*19+0) (.int .i64 id)).setIfInBounds (k*19+18) (.slice a n m))=(Y9 cur (k*19) (Yh (zDU c id a n m ds))).toArray:=by
 have hsl:=KS (A:=cur) (off:=k*19) (n:=19) (vs:=Yh (zDU c id a n m ds)) kB U;rw [hsl]
 have hcur:cur=cur.take (k*19)++(Yh (mkP c)++cur.drop (k*19+19)):=by
  conv=>lhs;rw [<-jy (k*19) cur,<-jy 19 (cur.drop (k*19)),hseg,OT]
 have hl:(cur.take (k*19)).length=k*19:=(by rw [jH];omega);generalize cur.take (k*19)=A at*;generalize cur.drop (k*19+19)=B at*;subst hcur;rw [Ax,Ax];congr 1;rw [Bx _ _ kB,Bx _ _ kB,hl,Bh,Bh];rfl
variable{needs:List Int}
theorem zoF.bad {a:List Sg}(h:za7 a b first needs≠0):zoF a b first needs []:=⟨fun _=>U,fun h0=>absurd h0 h⟩
section
variable {a b:List Sg} {first:Int} {needs:List Int}
theorem ztL (h:orF [chkG a,chkG b]≠0):za7 a b first needs=orF [chkG a,chkG b]/\za7 a b first needs≠0:=by
 have e:za7 a b first needs=orF [chkG a,chkG b]:=by
  unfold za7;unfold orF at h ⊢;split
  ·rfl
  ·rename_i h1;rw [ja h1] at h;unfold orF at h ⊢;split
   ·rfl
   ·rename_i h2;rw [ja h2] at h;exact absurd U h
 exact ⟨e,by rw [e];exact h⟩
theorem zCS (h:orF [chkG a,chkG b]=0):chkG a=0/\chkG b=0:=⟨Ve.1 h _ kK,Ve.1 h _ kK⟩
theorem zma (h:chkG a=0/\chkG b=0)(h1:needs.length>32):za7 a b first needs=2:=by unfold za7;rw [ja kB,ja kB,jb h1]
theorem zsZ (h:chkG a=0/\chkG b=0)(h1:¬needs.length>32)(h2:ndB first needs=false):za7 a b first needs=360:=by unfold za7;rw [ja kB,ja kB,ja h1,jb h2]
theorem zoz (h:chkG a=0/\chkG b=0)(h1:¬needs.length>32)(h2:ndB first needs=true)(h3:Zu first 1 1048576=false):za7 a b first needs=360:=by unfold za7;rw [ja kB,ja kB,ja h1,ja (by rw [h2];decide),jb h3]
theorem zi3 (h:chkG a=0/\chkG b=0)(h1:¬needs.length>32)(h2:ndB first needs=true)(h3:Zu first 1 1048576=true):za7 a b first needs=match dfL a b with | none=>360 | some l=>if l.length>512\/first+(l.length:Int)-1>1048576 then 2 else 0:=by
 unfold za7;rw [ja kB,ja kB,ja h1,ja (by rw [h2];decide),ja (by rw [h3];decide)]
 all_goals (cases dfL a b<;>rfl)
end
theorem zAI {x:Int}(h:Zu x 1 1048576=true):1<=x/\x<=1048576:=by unfold Zu at h;simp at h;exact h
variable{e:Nat}{v:Value}
theorem zBl {done:List Pc}{L:Go.Kn.Loc}(h:OwnS e 19 v (done.length+(chP x y 9).length) ((done.map mkP++chP x y 9).flatMap Yh) L):OwnS e 19 v (done++chC x y 9).length (((done++chC x y 9).map mkP).flatMap Yh) L:=by rw [jh,jZ,<-zvl];have e2:(chP x y 9).length=(chC x y 9).length:=(by rw [zvl,jE]);rw [<-e2];exact h
variable{j:Nat}
theorem zkY (h:k*19+19<=cur.length)(hj:j<19):Nat.blt (((k:Nat):Int).toNat*19+j) cur.toArray.size=true:=by rw [AV];show k*19+j<cur.length;omega
variable{u:Value}
theorem zpE {i:Nat}(h:k*19+19<=cur.length)(hj:j<19):Nat.blt (((k:Nat):Int).toNat*19+j) (cur.toArray.setIfInBounds i u).size=true:=by rw [Array.size_setIfInBounds];exact zkY h hj
variable{bv dv:Option Addr}
theorem zDc (hS:Sl I 14 Zk av n c xs)(hn:n<=100000){n2 c2:Nat}(hT:Sl I 14 Zk bv n2 c2 ys)(hn2:n2<=100000)(first:Int){n3 c3:Nat}(hN:Sl I 1 Q3 dv n3 c3 ds)(hn3:n3<=100000):ZQ Tryz.prog 12 [.slice av n c,.slice bv n2 c2,.int .i64 first,.slice dv n3 c3] I [] (fun v I' L=>L=[]/\∃ pv m mc ps,v= .tuple #[.slice pv m mc,.int .i64 (za7 xs ys first ds)]/\SlP I' pv m mc ps/\zoF xs ys first ds ps):=by
 intro g H w hw;refine qe Tryz.func12 Tryz.ntmps12 hw ?_;have hIc:=zGN I;have hlN:=hN.len;refine zR (zA ?_);refine zA (zN (Ql (zR ?_)));refine zM ?_;refine qcV (vs:=[_]) U zaQ (Xx hS hn) ?_;refine zM ?_;refine qcV (vs:=[_]) U zaQ (Xx hT hn2) ?_;refine zpb [(0,_),(1,_)] [Q3 (chkG xs),Q3 (chkG ys)] zvp (fun b_18=>?_);refine Ju (by repeat (first | exact Zf.here | apply Zf.there)) (fun I1 hI1 hb1=>?_);have hS:=hS.mono hI1;have hT:=hT.mono hI1;have hN:=hN.mono hI1;have hIc:=hIc.trans hI1;have hOr:=Sl.lit ([chkG xs,chkG ys]:List Int) U Zh (show I1 b_18=some (Obj.cells (([chkG xs,chkG ys]:List Int).flatMap Q3).toArray 34 (0,0)) from hb1);refine qcV (vs:=[_]) U zCA (zFD hOr kE) ?_;refine zA ?_;refine zN (zR ?_);refine zM ?_;refine zC (zN ?_);refine zI ?_ ?_<;>intro hc21
 ·have hor:orF [chkG xs,chkG ys]≠0:=(by simpa using hc21);refine zR (zM ?_);refine zA ?_;refine zA (zN (Qr (Qc ?_)));exact Q9 U U U (fun w hw=>⟨_,I1,[],U,hIc,hw.drop,U,none,0,0,[],by rw [(ztL hor).1],SlP.nil,zoF.bad (ztL hor).2⟩)
 have hor:=zCS (show orF [chkG xs,chkG ys]=0 by simpa using hc21);refine Qo (Qa (Ql (zR (zM ?_))));refine zQ Qx ?_;refine zC (zN ?_);refine zI ?_ ?_<;>intro hc25
 ·have hlen:ds.length>32:=(by rw [hlN];simp at hc25;omega);refine zR (zA ?_);refine zA (zN (Qr (Qc ?_)))
  first
  | exact Q9 U U U (fun w hw=>⟨_,I1,[],U,hIc,hw.drop,U,none,0,0,[],by rw [zma hor hlen],SlP.nil,zoF.bad (by rw [zma hor hlen];decide)⟩)
 have hlen:¬ds.length>32:=(by rw [hlN];simp at hc25;omega);refine Qo (Qa (zR (zA (zN (Ql (zR ?_))))));refine zM ?_;refine zQ Qx ?_;refine zM (zN (Qp ?_));refine zU [(0,_),(1,_),(2,_),(3,_),(26,_),(27,_)] (fun T L0 mz E I' loc'=>∃ (k:Nat) (l:Int),mz=n3-k/\E=(8,.slice none 0 0)::(10,.int .i64 l)::(28,.int .i64 k)::T/\I1=I'/\L0=loc'/\k<=n3/\(List.range k).all (ndP first ds)=true/\zhl ds k l) ?_ (h:=⟨0,0,U,U,U,U,jf _,U,⟨fun _=>U,fun y hy h=>absurd U h⟩⟩);rintro mz E I' loc' ⟨k,l,rfl,rfl,rfl,rfl,hk,hall,hl⟩;refine zR (zC (zN (Ql ?_)));refine zI ?_ ?_<;>intro hc29
 ·have hlt_k:k<n3:=(by have h:=hc29;simp at h;omega);obtain ⟨x,hx⟩:=hN.at hlt_k;refine Qo (Qa (Ql (Qp (zR ?_))));refine zV (zX Qx hN) ?_;refine zV (Qd U Qq (fun hg=>by exact zGG hN hx U)) ?_;refine zA (zN (Ql (zR ?_)));refine zM ?_;refine zM ?_;refine zC ?_;refine zM ?_;refine Q8 3 U U U ?_;refine zJ (Qj U) ?_;refine zJ (Qj U) ?_;refine zJ (QI U U U) ?_;refine ZO U U U U U ?_;refine zN ?_;refine zI ?_ ?_<;>intro hc39
  ·have hnd:ndB first ds=false:=by unfold ndB;exact JW (k:=k) (by rw [hlN];exact hlt_k) (by rw [zpQ hall hl hx,hc39];rfl)
   refine zR (zA ?_);refine zA (zN (Qr (Qc (Qn (Qc (Qc (Qn ?_)))))));refine Qc ?_
   first
   | exact Q9 U U U (fun w hw=>⟨_,I1,[],U,hIc,hw.drop,U,none,0,0,[],by rw [zsZ hor hlen hnd],SlP.nil,zoF.bad (by rw [zsZ hor hlen hnd];decide)⟩)
  refine Qo (Qa (Qf (zM ?_)));refine zA (Qb (Qg (Qa (Qf ?_))));refine zB ?_;refine zM (Qb ?_);exact zm (h:=⟨n3-(k+1),kB,k+1,_,U,U,U,U,kB,V7 hall (by rw [zpQ hall hl hx,hc39];rfl),zah hx⟩)
 have hge_k:n3<=k:=(by have h:=hc29;simp at h;omega);have hnd:ndB first ds=true:=by unfold ndB;rw [hlN,show n3=k by omega];exact hall
 refine QF (Qh (Qh (Qm (Qa (Ql (zR (zM ?_)))))));refine qcV (vs:=[_,_,_]) U Yg (Zq I1 _ _ _) ?_;refine zO (zN ?_);refine zI ?_ ?_<;>intro hc44
 ·have hwi:Zu first 1 1048576=false:=by simpa using hc44
  refine zR (zA ?_);refine zA (zN (Qr (Qc ?_)))
  first
  | exact Q9 U U U (fun w hw=>⟨_,I1,[],U,hIc,hw.drop,U,none,0,0,[],by rw [zoz hor hlen hnd hwi],SlP.nil,zoF.bad (by rw [zoz hor hlen hnd hwi];decide)⟩)
 have hwi:Zu first 1 1048576=true:=by simpa using hc44
 have hfi:=zAI hwi;refine Qo (Qa (Ql (Qp ?_)));refine zU [(2,_),(3,_)] (fun T L0 mz E I' loc'=>∃ (a b:List Sg) (pv qv:Option Addr) (i ci j cj:Nat) (done:List Pc) (v:Value) (L:Go.Kn.Loc),mz=i+j/\E=(0,.slice pv i ci)::(1,.slice qv j cj)::(8,v)::T/\HLe I1 I'/\L=loc'/\Sl I' 14 Zk pv i ci a/\Sl I' 14 Zk qv j cj b/\DfI xs ys a b done/\OwnS 53 19 v done.length ((done.map mkP).flatMap Yh) L/\done.length+9*(i+j)<=9*(n+n2)) ?_ (h:=⟨xs,ys,av,bv,n,c,n2,c2,[],.slice none 0 0,[],U,U,zGN _,U,hS,hT,DfI.start,OwnS.nil,by simp⟩);rintro mz E J3 loc' ⟨a,b,pv,qv,i,ci,j,cj,done,v,L,rfl,rfl,hJ,rfl,hA,hB,hDf,hO,hbd⟩;have hS:=hS.mono hJ;have hT:=hT.mono hJ;have hN:=hN.mono hJ;have hOr:=hOr.mono hJ;have hIc:=hIc.trans hJ;have hB2:=hJ;have hlA:=hA.len;have hlB:=hB.len;refine Ql (zR (zM ?_));refine zQ Q4 ?_;refine zC ?_;refine zM ?_;refine Q8 3 U U U ?_;refine zJ (Qj U) ?_;refine zJ (ZX U Q4) ?_;refine zJ (QI U U U) ?_;refine ZO U U U U U ?_;refine zN ?_;refine zI ?_ ?_<;>intro hc52
 ·have hij:0<i\/0<j:=(by have h:=hc52;simp at h;omega);refine Qo (Qa (Qp (Qp (Ql ?_))));refine YE mixed kA ?_;refine zq (Qj U) ?_;refine zq (ZX U Q4) ?_;refine zq (QI U U U) ?_;refine zq (Qj U) ?_;refine JL 3 U U U ?_;refine zj (Qj U) ?_;refine zj (ZX U Q4) ?_;refine zj (QI U U U) ?_;refine zj (Qj U) ?_;refine za9 7 U U U ?_;refine zk (Qj U) ?_;refine zk (Qy U U Q4 kI (fun hg=>by (simp [ZS] at hg;omega))) ?_;refine zk (Qe U Zb) ?_;refine zk (Qd U Qq (fun hg=>by exact zGP hA (zbq hA (by first | omega | (simp [ZS] at hg;omega))) U)) ?_;refine zk (Qj U) ?_;refine zk (Qy U U Q4 kI (fun hg=>by (simp [ZS] at hg;omega))) ?_;refine zk (Qe U Zb) ?_;refine zk (Qd U Qq (fun hg=>by exact zGP hB (zbq hB (by first | omega | (simp [ZS] at hg;omega))) U)) ?_;refine zk (QI U U U) ?_;refine zgy U U U (.some U U U U gbf) U U ?_;refine W5 U U U U U ?_;refine zq (QU U) ?_;refine YC ?_;refine Qa ?_;refine zI ?_ ?_<;>intro hc66
  ·have h66i:0<i/\(b=[]\/(hdG a).id<(hdG b).id):=(by have h:=hc66;simp at h;exact h.elim (fun h=>⟨kB,.inl (jR.1 kB)⟩) (fun h=>⟨kB,.inr h.2⟩));obtain ⟨hi,h66⟩:=h66i;obtain ⟨x,a2,rfl⟩:∃ x a2,a=x::a2:=⟨_,zdE hA hi⟩;refine zR (zM ?_);refine zM ?_;refine zV (Qy U U Q4 kI (fun hg=>kB)) ?_;refine zF Zb ?_;refine zV (Qd U Qq (fun hg=>by exact zGP hA (zbq hA (by first | omega | (simp [ZS] at hg;omega))) U)) ?_;refine zV (QC (ps:=[(1,_),(2,_)]) [_,_,_,_,_,_,_,_,_,_,_,_,_,_,_,_,_,_,_] zi8 U U) ?_;refine zpb [(0,_)] [Yh (mkP (rmC x))] Ks (fun b_92=>?_);refine zpa (_) ([mkP (rmC x)].flatMap Yh) (L) U U Ks hO ⟨U,fun _=>U,by repeat (first | exact zGL | apply zGK | apply zGM)⟩ (zgh _) ?_;intro v9 L9 hO9 _;rw [<-jo] at hO9;refine zA (zN (Qf ?_));refine zM ?_;refine zV (Jf U U Q4 (fun hg=>kB)) ?_;refine zA (Qb (Qg (Qg ?_)))
   first
   | exact zm (h:=⟨(i-1)+j,kB,a2,b,zoB pv ci 1 14,qv,(i-1),(ci-1),j,cj,done++[rmC x],_,_,U,U,hB2,U,zdB hA,hB,hDf.rm h66,by rw [jh,jZ];exact hO9,by simp only [jh,jG];omega⟩)
  have h66n:0<j/\(0<i->¬(hdG a).id<(hdG b).id):=(by have h:=hc66;simp at h;exact ⟨kB,fun h0 h1=>by have:=h.2 h0;omega⟩);obtain ⟨hj,h66⟩:=h66n;refine Ql ?_;refine YE mixed kA ?_;refine zq (Qj U) ?_;refine zq (ZX U Q4) ?_;refine zq (QI U U U) ?_;refine zq (Qj U) ?_;refine JL 3 U U U ?_;refine zj (Qj U) ?_;refine zj (Qy U U Q4 kI (fun hg=>kB)) ?_;refine zj (Qe U Zb) ?_;refine zj (Qd U Qq (fun hg=>by exact zGP hB (zbq hB (by first | omega | (simp [ZS] at hg;omega))) U)) ?_;refine zj (Qj U) ?_;refine zj (Qy U U Q4 kI (fun hg=>by (simp [ZS] at hg;omega))) ?_;refine zj (Qe U Zb) ?_;refine zj (Qd U Qq (fun hg=>by exact zGP hA (zbq hA (by first | omega | (simp [ZS] at hg;omega))) U)) ?_;refine zj (QI U U U) ?_;refine W5 U U U U U ?_;refine zq (QU U) ?_;refine YC ?_;refine Qa ?_;refine zI ?_ ?_<;>intro hc96
  ·have h96:a=[]\/(hdG b).id<(hdG a).id:=(by have h:=hc96;simp at h;exact h.elim (fun h=>.inl (jR.1 kB)) (fun h=>.inr h));obtain ⟨y,b2,rfl⟩:∃ y b2,b=y::b2:=⟨_,zdE hB hj⟩;refine Ql ?_;have hD:=zGN J3;refine YZ ?_;refine ZA J3 [] mixed ?_;refine zT 0 U (Qj U) hD ?_;refine zT 1 U (Qj U) hD ?_;refine zT 2 U (Qy U U Q4 kI (fun hg=>kB)) hD ?_;refine zT 3 U (Qe U Zb) hD ?_;refine zT 4 U (Qd U Qq (fun hg=>by exact zGP hB (zbq hB (by first | omega | (simp [ZS] at hg;omega))) U)) hD ?_;refine zT 5 U (Qj U) hD ?_;refine zT 6 U (Qy U U Q4 kI (fun hg=>kB)) hD ?_;refine zT 7 U (Qk U QY (fun hg=>by exact zGO hB (zbq hB (by first | omega | (simp [ZS] at hg;omega)))) U) hD ?_;refine zT 8 U (QC (ps:=[(1,_),(2,_),(4,_)]) [_,_,_,_,_,_,_,_,_,_,_,_,_,_,_,_,_,_,_] zi8 U U) hD ?_;refine qd 9 U ?_;refine zpb [(0,_)] [Yh (mkP (inC y))] Ks (fun b_120=>?_);refine Qb ?_;refine zD hD ?_;refine qd 10 U ?_;refine zpa (_) ([mkP (inC y)].flatMap Yh) (L) U U Ks hO ⟨U,fun _=>U,by repeat (first | exact zGL | apply zGK | apply zGM)⟩ (zgh _) ?_;intro v9 L9 hO9 _;rw [<-jo] at hO9;refine Qb ?_;refine zD hD ?_;refine zT 11 U (QU U) hD ?_;refine Qz kA ?_;refine QD ?_;refine Qa (Qf (zM ?_));refine zV (Jf U U Q4 (fun hg=>kB)) ?_;refine zA (Qb (Qg (Qg ?_)))
   first
   | exact zm (h:=⟨i+(j-1),kB,a,b2,pv,zoB qv cj 1 14,i,ci,(j-1),(cj-1),done++[inC y],_,_,U,U,hB2,U,hA,zdB hB,hDf.ins h96,by rw [jh,jZ];exact hO9,by simp only [jh,jG];omega⟩)
  have h96n:0<i/\¬(hdG b).id<(hdG a).id:=(by have h:=hc96;simp at h;exact ⟨kB,kB⟩);obtain ⟨hi,hx2⟩:=h96n;have hx1:=h66 hi;obtain ⟨x,a2,rfl⟩:∃ x a2,a=x::a2:=⟨_,zdE hA hi⟩;obtain ⟨y,b2,rfl⟩:∃ y b2,b=y::b2:=⟨_,zdE hB hj⟩;refine Ql ?_;refine YE mixed kA ?_;refine zq (Qj U) ?_;refine zq (Qy U U Q4 kI (fun hg=>kB)) ?_;refine zq (Qe U Kw) ?_;refine zq (Qd U Qq (fun hg=>by exact zGP hA (zbq hA (by first | omega | (simp [ZS] at hg;omega))) U)) ?_;refine zq (Qj U) ?_;refine zq (Qy U U Q4 kI (fun hg=>kB)) ?_;refine zq (Qe U Kw) ?_;refine zq (Qd U Qq (fun hg=>by exact zGP hB (zbq hB (by first | omega | (simp [ZS] at hg;omega))) U)) ?_;refine zq (QI U U U) ?_;refine zq (QU U) ?_;refine YC ?_;refine Qa ?_;refine zI ?_ ?_<;>intro hc124
  ·have hk:x.kind≠y.kind:=(by have h:=hc124;simpa [hdG] using h);have hE3:za7 xs ys first ds=360:=by rw [zi3 hor hlen hnd hwi,hDf.bad hx1 hx2 hk]
   refine zR (zA ?_);refine zA (zN (Qr (Qn (Qn (Qc (Qn (Qc ?_)))))))
   first
   | exact Q9 U U U (fun w hw=>⟨_,J3,[],U,hIc,hw.drop,U,none,0,0,[],by rw [hE3],SlP.nil,zoF.bad (by rw [hE3];decide)⟩)
  have hk:x.kind=y.kind:=(by have h:=hc124;simpa [hdG] using h);have hch:=zrK x y 9;refine Ql ?_;have hD:=zGN J3;refine YZ ?_;refine ZA J3 [] mixed ?_;refine zT 0 U (Qj U) hD ?_;refine zT 1 U (Qj U) hD ?_;refine zT 2 U (Qy U U Q4 kI (fun hg=>kB)) hD ?_;refine zT 3 U (Qk U QY (fun hg=>by exact zGO hA (zbq hA (by first | omega | (simp [ZS] at hg;omega)))) U) hD ?_;refine zT 4 U (Qj U) hD ?_;refine zT 5 U (Qy U U Q4 kI (fun hg=>kB)) hD ?_;refine zT 6 U (Qk U QY (fun hg=>by exact zGO hB (zbq hB (by first | omega | (simp [ZS] at hg;omega)))) U) hD ?_;refine qd 7 U ?_;refine zpc [_,_] U zA6 .nil (znY J3 x y) ?_;rintro vv4 I4 L4 hI4 ⟨rfl,q1,q2,rfl,hb1,hb2⟩;have hA:=hA.mono hI4;have hB:=hB.mono hI4;have hB2:=hB2.trans hI4;have hD:=hD.trans hI4;refine Qb ?_;refine zD hD ?_;refine qd 8 U ?_;refine zpc [_,_] U zzQ (by repeat (first | exact .cons .here .nil | exact QT | exact QO | apply Zi | apply Zd)) (zmt zxv (zDj hb1 hb2) hO (by rw [zvl,jE];omega)) ?_;rintro vv5 I5 L5 hI5 hO9;have hA:=hA.mono hI5;have hB:=hB.mono hI5;have hB2:=hB2.trans hI5;have hD:=hD.trans hI5;refine Qb ?_;refine zD hD ?_;refine zT 9 U (QU U) hD ?_;refine Qz kA ?_;refine QD ?_;refine Qa ?_;refine YE mixed kA ?_;refine zq (Qj U) ?_;refine zq (Jf U U Q4 (fun hg=>kB)) ?_;refine zq (Qj U) ?_;refine zq (Jf U U Q4 (fun hg=>kB)) ?_;refine zq (QU U) ?_;refine zq (QU U) ?_;refine YC ?_;refine Qg (Qg ?_)
  first
  | exact zm (h:=⟨(i-1)+(j-1),kB,a2,b2,zoB pv ci 1 14,zoB qv cj 1 14,(i-1),(ci-1),(j-1),(cj-1),done++chC x y 9,_,_,U,U,hB2,U,zdB hA,zdB hB,hDf.ch hx1 hx2 hk,zBl hO9,by simp only [jh];omega⟩)
 have hij:i=0/\j=0:=(by have h:=hc52;simp at h;omega);obtain ⟨rfl,rfl⟩:=hij;have ha0:a=[]:=jR.1 hlA;have hb0:b=[]:=jR.1 hlB;subst ha0;subst hb0;have hdl:=hDf.done;have hE:=zi3 (first:=first) hor hlen hnd hwi;rw [hdl] at hE;obtain ⟨pa,pc,rfl⟩:=hO.shape;refine QF (Qh (Qh (Qm (Qa (Ql (zR (zM ?_)))))));refine zQ ZG ?_;refine zC ?_;refine zM ?_;refine Q8 3 U U U ?_;refine zJ (Qj U) ?_;refine zJ (Qj U) ?_;refine zJ (ZX U ZG) ?_;refine zJ (ZL U U U (fun hg=>kB)) ?_;refine zJ (ZL U U U (fun hg=>kB)) ?_;refine zJ (QI U U U) ?_;refine ZO U U U U U ?_;refine zN ?_;refine zI ?_ ?_<;>intro hc144
 ·have hlm:done.length>512\/first+(done.length:Int)-1>1048576:=by have h:=hc144;simp at h;omega
  have hE2:za7 xs ys first ds=2:=by rw [hE];exact jb hlm
  refine zR (zA ?_);refine zA (zN (Qr (Qc ?_)))
  first
  | exact Q9 U U U (fun w hw=>⟨_,J3,[],U,hIc,hw.drop,U,none,0,0,[],by rw [hE2],SlP.nil,zoF.bad (by rw [hE2];decide)⟩)
 have hlm:¬(done.length>512\/first+(done.length:Int)-1>1048576):=(by have h:=hc144;simp at h;omega);have hE0:za7 xs ys first ds=0:=by rw [hE];exact ja hlm
 refine Qo (Qa (Ql (zR (zM ?_))));refine zQ ZG ?_;refine zM (zN (Qp ?_));refine zU [(2,_),(3,_),(8,_),(146,_)] (fun T L0 mz E I' loc'=>∃ (k:Nat) (ps:List Pt) (L:Go.Kn.Loc),mz=done.length-k/\E=(147,.int .i64 k)::T/\HLe J3 I'/\L=loc'/\k<=done.length/\OwnS 53 19 (.slice pa done.length pc) done.length (ps.flatMap Yh) L/\zjq I' first ds done k ps) ?_ (h:=⟨0,done.map mkP,L,U,U,zGN _,U,jf _,hO,zjq.start⟩);rintro mz E J6 loc' ⟨k,ps,L,rfl,rfl,hJ,rfl,hk,hO,hNK⟩;have hN:=hN.mono hJ;have hIc:=hIc.trans hJ;have hB5:=hJ;refine zR (zC (zN (Ql ?_)));refine zI ?_ ?_<;>intro hc148
 ·have hlt_k:k<done.length:=(by have h:=hc148;simp at h;omega);obtain ⟨c0,hc0⟩:∃ c0,done[k]? =some c0:=⟨_,je hlt_k⟩;obtain ⟨p0,hp0⟩:∃ p0,ps[k]? =some p0:=⟨_,je (by rw [hNK.len];exact hlt_k)⟩;have hpk:=hNK.new k c0 p0 hc0 hp0 (js _);subst hpk;obtain ⟨_,b9,c9,cur,e9,rfl,hseg,hle,hset⟩:=hO.spot Yd kE hp0;cases e9;refine Qo (Qa (Ql (Qp (zR (zM ?_)))));refine zA (zN (Qf ?_));refine zM ?_;refine zM ?_;refine zM ?_;refine zM ?_;refine zM ?_;refine zM ?_;refine zB ?_;refine zM ?_;refine zpc [_] U zii .nil (za8 hN kB) ?_;rintro vv7 I7 L7 hI7 ⟨rfl,hO8⟩;have hNK:=hNK.mono hI7;have hB5:=hB5.trans hI7;obtain ⟨L8,hL8⟩:∃ L8,L8=L7:=⟨_,U⟩;subst hL8;obtain ⟨v8,hv8⟩:∃ v8,v8=vv7:=⟨_,U⟩;subst hv8;refine zV (Q2 U U ZG (fun hg=>kB)) ?_;refine zF Zy ?_;refine Z0 U U ZD U U (by repeat (first | exact Upd.here | apply Upd.there | apply QH)) (zkY hle kE) ?_;refine zV (Q2 U U ZG (fun hg=>kB)) ?_;refine zF U9 ?_;refine Z0 U U Ze hO8.one U (by repeat (first | exact Upd.here | apply Upd.there | apply QH)) (zpE hle kE) ?_;refine Qb (Qg (Qa ?_));refine zx4 hO8 Zh (fun I8 hI8 a8 c8 e8 hS8=>?_);subst e8;have hNK:=hNK.mono hI8;have hB5:=hB5.trans hI8;refine Qf (zB ?_);refine zM (Qb ?_);exact Y8 _ _ ⟨done.length-(k+1),kB,k+1,_,_,U,U,hB5,U,kB,hset (zDU c0 (first+k) a8 n3 c8 ds),hNK.step hc0 (zGN _) hS8⟩ (.cons U (.cons U (.cons U (.cons U (.cons U .nil))))) (by rw [<-zjx hseg hle];exact .refl)
 have hge_k:done.length<=k:=(by have h:=hc148;simp at h;omega);refine QF (Qh (Qh (Qm (Qa (zR (zM ?_))))));refine zA ?_;refine zA (zN (Qr ?_))
 first
 | exact zcM hO Yd kE (by repeat (first | exact .cons .here .nil | exact QT | exact QO | apply Zi | apply Zd)) (fun I7 hI7 a7 c7 e7 hS7=>by cases e7;exact Q9 U U U (fun w hw=>⟨_,I7,[],U,hIc.trans hI7,hw.drop,U,pa,done.length,pc,ps,by rw [hE0],⟨hS7,fun q hq=>((hNK.mono hI7).nd hge_k) q hq⟩,fun h=>absurd hE0 h,fun _=>⟨done,hdl,hNK.num hge_k⟩⟩))
end
end Go.Proofs.YtmbjmjbjdgjonaaGreatDoor.R
namespace Go.Kn
section
open Go
def LdV (P:Program)(I:Qt)(loc:Loc)(tt b:Nat)(v:Value):Prop:=∀ (g:World) (H:Qt) (w:World),St g I H loc w->(loadVar tt ⟨b,0,none⟩).run P w= .ok v w
theorem LdV.ag {P:Program}{I:Qt}{loc:Loc}{tt b n:Nat}{vs:List Value}(hA:AgT P tt n)(hc:Cells I loc b 0 vs)(hn:vs.length=n):LdV P I loc tt b (.agg vs.toArray):=fun g H w hw=>by
 have h1:(loadCells ⟨b,0,none⟩ n).run P w= .ok vs.toArray w:=by
  rw [<-hn];exact As w _ _ fun j v hj=>by rw [Yn];exact (hc j v hj).get hw
 have hA':=hA;obtain ⟨_,i,h2,h3⟩:=hA';simp only [loadVar,jg,jl,Y6 hA,Result.andThen,Oj,run_sizeOf h2,h3,h1]
section
variable {P:Program} {fn:Func} {R:Ending->World->Prop} {N:Nat} {g:World} {I H:Qt} {loc:Loc} {E:Env} {r:Option Nat}
theorem Ku {t tt b:Nat}{v:Value}(hr:fn.results= #[.cell t tt])(hv:Jl E t=some (.pointer (some ⟨b,0,none⟩)))(hl:LdV P I loc tt b v)
  (h:∀ w,St g I H loc w->R (.returned v) w):At ⟨P,r,N,[],g,H⟩ (bodyPost P fn R) .ret E I loc:=fun a w ha hw=>
 ⟨ha.defers,v,by
  have e1:=ha.env _ _ hv;rw [Ok] at e1;have l1:=hl _ _ _ hw;simp only [results,hr]
  simp [e1,asAddr,l1],h w hw⟩
end
end
end Go.Kn
namespace Go.Proofs.YtmbjmjbjdgjonaaGreatDoor.R
section
open Go Go.Kn Go.Proofs
structure Ed where
 kind:Int
 role:Int
 other:Int
 fr:Int
 to:Int
 by_:Int
 rn:Int
 rd:Int
 sign:Sg
def X6 (e:Ed):List Value:=[.int .i64 e.kind,.int .i64 e.role,.int .i64 e.other,.int .i64 e.fr,.int .i64 e.to,.int .i64 e.by_,.int .i64 e.rn,.int .i64 e.rd,.int .i64 e.sign.id,.int .i64 e.sign.role,.int .i64 e.sign.bar,.int .i64 e.sign.mark,.int .i64 e.sign.kind,.int .i64 e.sign.side,.int .i64 e.sign.dir,.int .i64 e.sign.level,.int .i64 e.sign.size,.int .i64 e.sign.wth,.int .i64 e.sign.fn,.int .i64 e.sign.fd,.int .i64 e.sign.tn,.int .i64 e.sign.td]
def Y1 (e:Ed):Value:=.agg (X6 e).toArray
def Xa:Ed:=⟨0,0,0,0,0,0,0,0,ZU⟩
def ztl (e:Ed):Ed:={Xa with role:=e.role,fr:=e.fr,to:=e.to}
def zCk (e:Ed):Bool:=(decide (e.fr>=0)&&decide (e.fr<=e.to))&&decide (e.to<=4095)
def zDX (e:Ed):Bool:=Zu e.role 0 64&&zCk e
def zGB (e:Ed):Bool:=zDX e&&Zu e.by_ 1 7
def zGi (e:Ed):Bool:=Zu e.fr 0 4095&&Zu e.by_ 1 4095
def zGF (e:Ed):Bool:=((zDX e&&Zu e.role 1 64)&&Zu e.other 1 64)&& !(e.role==e.other)
def zGe (e:Ed):Bool:=((zDX e&&(zsh e.rn e.rd==0))&&decide (e.rn>0))&&decide (e.rn<=e.rd)
theorem zen (I:Qt)(e:Ed):Zt Tryz.prog 86 [Y1 e] I (Y1 (ztl e)):=by intro g H w hw;refine qe Tryz.func86 Tryz.ntmps86 hw ?_;refine zR ?_;refine QG U U U (fun b_1=>?_);refine Qs zbT U U (fun b_2=>?_);refine zN (zR ?_);refine zF Kz ?_;refine zL Qq ?_;refine zF VO ?_;refine zL Qq ?_;refine zF JP ?_;refine zL Qq ?_;refine zV (QC (ps:=[(1,_),(3,_),(4,_)]) [_,_,_,_,_,_,_,_,_,_,_,_,_,_,_,_,_,_,_,_,_,_] ze1 U U) ?_;refine zh U0 ?_;refine zN (Qr ?_);exact Ku U U (.ag YD (vs:=X6 (ztl e)) kJ U) (fun w hw=>⟨U,hw.drop⟩)
theorem zxN (I:Qt)(e:Ed):Zt Tryz.prog 91 [Y1 e] I (Y1 ({ztl e with by_:=e.by_})):=by intro g H w hw;refine qe Tryz.func91 Tryz.ntmps91 hw ?_;refine zR ?_;refine QG U U U (fun b_1=>?_);refine Qs zbT U U (fun b_2=>?_);refine zN (zR ?_);refine zV (Qk U YD (fun hg=>by exact Cells.g1) U) ?_;refine qcV (vs:=[_]) U zie (zen I e) ?_;refine Qs zbT U U (fun b_3=>?_);refine zh U0 ?_;refine zN (zR ?_);refine zF K4 ?_;refine zL Qq ?_;refine zF K4 ?_;refine zS ZD ?_;refine zN (zR ?_);refine zV (Qk U YD (fun hg=>by exact Cells.g0) U) ?_;refine zh U0 ?_;refine zN (Qr ?_);exact Ku U U (.ag YD (vs:=X6 ({ztl e with by_:=e.by_})) kJ U) (fun w hw=>⟨U,hw.drop⟩)
theorem zvA (I:Qt)(e:Ed):Zt Tryz.prog 95 [Y1 e] I (Y1 ({Xa with fr:=e.fr,to:=e.to})):=by intro g H w hw;refine qe Tryz.func95 Tryz.ntmps95 hw ?_;refine zR ?_;refine QG U U U (fun b_1=>?_);refine Qs zbT U U (fun b_2=>?_);refine zN (zR ?_);refine zF VO ?_;refine zL Qq ?_;refine zF JP ?_;refine zL Qq ?_;refine zV (QC (ps:=[(3,_),(4,_)]) [_,_,_,_,_,_,_,_,_,_,_,_,_,_,_,_,_,_,_,_,_,_] ze1 U U) ?_;refine zh U0 ?_;refine zN (Qr ?_);exact Ku U U (.ag YD (vs:=X6 ({Xa with fr:=e.fr,to:=e.to})) kJ U) (fun w hw=>⟨U,hw.drop⟩)
theorem zyU (I:Qt)(e:Ed):Zt Tryz.prog 98 [Y1 e] I (Y1 ({Xa with fr:=e.fr,by_:=e.by_})):=by intro g H w hw;refine qe Tryz.func98 Tryz.ntmps98 hw ?_;refine zR ?_;refine QG U U U (fun b_1=>?_);refine Qs zbT U U (fun b_2=>?_);refine zN (zR ?_);refine zF VO ?_;refine zL Qq ?_;refine zF K4 ?_;refine zL Qq ?_;refine zV (QC (ps:=[(3,_),(5,_)]) [_,_,_,_,_,_,_,_,_,_,_,_,_,_,_,_,_,_,_,_,_,_] ze1 U U) ?_;refine zh U0 ?_;refine zN (Qr ?_);exact Ku U U (.ag YD (vs:=X6 ({Xa with fr:=e.fr,by_:=e.by_})) kJ U) (fun w hw=>⟨U,hw.drop⟩)
theorem zvW (I:Qt)(e:Ed):Zt Tryz.prog 102 [Y1 e] I (Y1 ({Xa with sign:=e.sign})):=by intro g H w hw;refine qe Tryz.func102 Tryz.ntmps102 hw ?_;refine zR ?_;refine QG U U U (fun b_1=>?_);refine Qs zbT U U (fun b_2=>?_);refine zN (zR ?_);refine zF Xe ?_;refine zV (Qk U QY (fun hg=>by exact Cells.s1 (vs:=[_,_,_,_,_,_,_,_,_,_,_,_,_,_]) U) U) ?_;refine zV (QC (ps:=[(7,_)]) [_,_,_,_,_,_,_,_,_,_,_,_,_,_,_,_,_,_,_,_,_,_] ze1 U U) ?_;refine zh U0 ?_;refine zN (Qr ?_);exact Ku U U (.ag YD (vs:=X6 ({Xa with sign:=e.sign})) kJ U) (fun w hw=>⟨U,hw.drop⟩)
theorem zvt (I:Qt)(e:Ed):Zt Tryz.prog 106 [Y1 e] I (Y1 ({ztl e with other:=e.other})):=by intro g H w hw;refine qe Tryz.func106 Tryz.ntmps106 hw ?_;refine zR ?_;refine QG U U U (fun b_1=>?_);refine Qs zbT U U (fun b_2=>?_);refine zN (zR ?_);refine zV (Qk U YD (fun hg=>by exact Cells.g1) U) ?_;refine qcV (vs:=[_]) U zie (zen I e) ?_;refine Qs zbT U U (fun b_3=>?_);refine zh U0 ?_;refine zN (zR ?_);refine zF Wb ?_;refine zL Qq ?_;refine zF Wb ?_;refine zS ZD ?_;refine zN (zR ?_);refine zV (Qk U YD (fun hg=>by exact Cells.g0) U) ?_;refine zh U0 ?_;refine zN (Qr ?_);exact Ku U U (.ag YD (vs:=X6 ({ztl e with other:=e.other})) kJ U) (fun w hw=>⟨U,hw.drop⟩)
theorem zw9 (I:Qt)(e:Ed):Zt Tryz.prog 110 [Y1 e] I (Y1 ({ztl e with rn:=e.rn,rd:=e.rd})):=by intro g H w hw;refine qe Tryz.func110 Tryz.ntmps110 hw ?_;refine zR ?_;refine QG U U U (fun b_1=>?_);refine Qs zbT U U (fun b_2=>?_);refine zN (zR ?_);refine zV (Qk U YD (fun hg=>by exact Cells.g1) U) ?_;refine qcV (vs:=[_]) U zie (zen I e) ?_;refine Qs zbT U U (fun b_3=>?_);refine zh U0 ?_;refine zN (zR ?_);refine zF Km ?_;refine zV (Qk U Zs (fun hg=>by exact Cells.s2 (vs:=[_,_]) U) U) ?_;refine zF Km ?_;refine YO U U YQ U U U U (by repeat (first | exact Upd.here | apply Upd.there | apply QH)) ?_;refine zN (zR ?_);refine zV (Qk U YD (fun hg=>by exact Cells.g0) U) ?_;refine zh U0 ?_;refine zN (Qr ?_);exact Ku U U (.ag YD (vs:=X6 ({ztl e with rn:=e.rn,rd:=e.rd})) kJ U) (fun w hw=>⟨U,hw.drop⟩)
theorem ztm (I:Qt)(e:Ed):Zt Tryz.prog 85 [Y1 e] I (.bool (zCk e)):=by intro g H w hw;refine qe Tryz.func85 Tryz.ntmps85 hw ?_;refine zR ?_;refine QG U U U (fun b_1=>?_);refine zA ?_;refine zN (zR ?_);refine zF VO ?_;refine zL Qq ?_;refine zC ?_;refine zM ?_;refine QA 3 U U U ?_;refine zK (Qe U VO) ?_;refine zK (Qd U Qq (fun hg=>by exact QB.h0 U)) ?_;refine zK (Qe U JP) ?_;refine zK (Qd U Qq (fun hg=>by exact QB.h0 U)) ?_;refine zK (QI U U U) ?_;refine QE U U U U U ?_;refine zM ?_;refine QA 10 U U U ?_;refine zK (Qe U JP) ?_;refine zK (Qd U Qq (fun hg=>by exact QB.h0 U)) ?_;refine zK (QI U U U) ?_;refine QE U U U U U ?_;refine zA (zN (Qr ?_));exact QR U U (fun w hw=>⟨U,hw.drop⟩)
theorem zjg (I:Qt)(e:Ed):Zt Tryz.prog 84 [Y1 e] I (.bool (zDX e)):=by intro g H w hw;refine qe Tryz.func84 Tryz.ntmps84 hw ?_;refine zR ?_;refine QG U U U (fun b_1=>?_);refine zA ?_;refine zN (zR ?_);refine zF Kz ?_;refine zL Qq ?_;refine qcV (vs:=[_,_,_]) U Yg (Zq I _ _ _) ?_;refine zM ?_;refine QA 3 U U U ?_;refine zK (Qk U YD (fun hg=>by exact Cells.g0) U) ?_;refine qg (vs:=[_]) U ztQ (fun hg=>ztm I e) ?_;refine QE U U U U U ?_;refine zA (zN (Qr ?_));exact QR U U (fun w hw=>⟨U,hw.drop⟩)
variable{I:Qt}{b1:Nat}
theorem zDe (h1:Uq I b1 (.cells #[.func (.func 84) #[] #[]] 109 (0,0)))(e:Ed):Zt Tryz.prog 92 [Y1 e,QZ b1] I (.bool (zGB e)):=by intro g H w hw;refine qe Tryz.func92 Tryz.ntmps92 hw ?_;refine zR ?_;refine QG U U U (fun b_2=>?_);refine zA ?_;refine zN (zR ?_);refine zV (Qd U zbv (fun hg=>by exact QB.imm h1 U)) ?_;refine zV (Qk U YD (fun hg=>by exact Cells.g0) U) ?_;refine qcV (vs:=[_]) U zhI (zjg I e) ?_;refine zM ?_;refine QA 3 U U U ?_;refine zK (Qe U K4) ?_;refine zK (Qd U Qq (fun hg=>by exact QB.h0 U)) ?_;refine qg (vs:=[_,_,_]) U Yg (fun hg=>Zq I _ _ _) ?_;refine QE U U U U U ?_;refine zA (zN (Qr ?_));exact QR U U (fun w hw=>⟨U,hw.drop⟩)
theorem zzm (I:Qt)(e:Ed):Zt Tryz.prog 99 [Y1 e] I (.bool (zGi e)):=by intro g H w hw;refine qe Tryz.func99 Tryz.ntmps99 hw ?_;refine zR ?_;refine QG U U U (fun b_1=>?_);refine zA ?_;refine zN (zR ?_);refine zF VO ?_;refine zL Qq ?_;refine qcV (vs:=[_,_,_]) U Yg (Zq I _ _ _) ?_;refine zM ?_;refine QA 3 U U U ?_;refine zK (Qe U K4) ?_;refine zK (Qd U Qq (fun hg=>by exact QB.h0 U)) ?_;refine qg (vs:=[_,_,_]) U Yg (fun hg=>Zq I _ _ _) ?_;refine QE U U U U U ?_;refine zA (zN (Qr ?_));exact QR U U (fun w hw=>⟨U,hw.drop⟩)
theorem zzd (I:Qt)(e:Ed):Zt Tryz.prog 103 [Y1 e] I (.bool (frm e.sign)):=by intro g H w hw;refine qe Tryz.func103 Tryz.ntmps103 hw ?_;refine zR ?_;refine QG U U U (fun b_1=>?_);refine zA ?_;refine zN (zR ?_);refine zF Xe ?_;refine zV (Qk U QY (fun hg=>by exact Cells.s0 (vs:=[_,_,_,_,_,_,_,_,_,_,_,_,_,_]) U) U) ?_;refine qcV (vs:=[_]) U zlV (zpl I e.sign) ?_;refine zA (zN (Qr ?_));exact QR U U (fun w hw=>⟨U,hw.drop⟩)
theorem zzY (h1:Uq I b1 (.cells #[.func (.func 84) #[] #[]] 109 (0,0)))(e:Ed):Zt Tryz.prog 107 [Y1 e,QZ b1] I (.bool (zGF e)):=by intro g H w hw;refine qe Tryz.func107 Tryz.ntmps107 hw ?_;refine zR ?_;refine QG U U U (fun b_2=>?_);refine zA ?_;refine zN (zR ?_);refine zV (Qd U zbv (fun hg=>by exact QB.imm h1 U)) ?_;refine zV (Qk U YD (fun hg=>by exact Cells.g0) U) ?_;refine qcV (vs:=[_]) U zhI (zjg I e) ?_;refine zM ?_;refine QA 3 U U U ?_;refine zK (Qe U Kz) ?_;refine zK (Qd U Qq (fun hg=>by exact QB.h0 U)) ?_;refine qg (vs:=[_,_,_]) U Yg (fun hg=>Zq I _ _ _) ?_;refine QE U U U U U ?_;refine zM ?_;refine QA 8 U U U ?_;refine zK (Qe U Wb) ?_;refine zK (Qd U Qq (fun hg=>by exact QB.h0 U)) ?_;refine qg (vs:=[_,_,_]) U Yg (fun hg=>Zq I _ _ _) ?_;refine QE U U U U U ?_;refine zM ?_;refine QA 13 U U U ?_;refine zK (Qe U Kz) ?_;refine zK (Qd U Qq (fun hg=>by exact QB.h0 U)) ?_;refine zK (Qe U Wb) ?_;refine zK (Qd U Qq (fun hg=>by exact QB.h0 U)) ?_;refine zK (QI U U U) ?_;refine QE U U U U U ?_;refine zA (zN (Qr ?_));exact QR U U (fun w hw=>⟨U,hw.drop⟩)
theorem zzP (h1:Uq I b1 (.cells #[.func (.func 84) #[] #[]] 109 (0,0)))(e:Ed):Zt Tryz.prog 111 [Y1 e,QZ b1] I (.bool (zGe e)):=by intro g H w hw;refine qe Tryz.func111 Tryz.ntmps111 hw ?_;refine zR ?_;refine QG U U U (fun b_2=>?_);refine zA ?_;refine zN (zR ?_);refine zV (Qd U zbv (fun hg=>by exact QB.imm h1 U)) ?_;refine zV (Qk U YD (fun hg=>by exact Cells.g0) U) ?_;refine qcV (vs:=[_]) U zhI (zjg I e) ?_;refine zM ?_;refine QA 3 U U U ?_;refine zK (Qe U Km) ?_;refine zK (Qk U Zs (fun hg=>by exact Cells.s0 (vs:=[_,_]) U) U) ?_;refine qg (vs:=[_]) U WH (fun hg=>KW I e.rn e.rd) ?_;refine zK (QI U U U) ?_;refine QE U U U U U ?_;refine zM ?_;refine QA 9 U U U ?_;refine zK (Qe U Km) ?_;refine zK (Qe U Yt) ?_;refine zK (Qd U Qq (fun hg=>by exact QB.h0 U)) ?_;refine zK (QI U U U) ?_;refine QE U U U U U ?_;refine zM ?_;refine QA 15 U U U ?_;refine zK (Qe U Km) ?_;refine zK (Qe U Yt) ?_;refine zK (Qd U Qq (fun hg=>by exact QB.h0 U)) ?_;refine zK (Qe U Km) ?_;refine zK (Qe U Vp) ?_;refine zK (Qd U Qq (fun hg=>by exact QB.h0 U)) ?_;refine zK (QI U U U) ?_;refine QE U U U U U ?_;refine zA (zN (Qr ?_));exact QR U U (fun w hw=>⟨U,hw.drop⟩)
theorem zi1 {a b:Int}(ha: -1073741824<=a/\a<=1073741824)(hb: -1073741824<=b/\b<=1073741824): -1152921504606846976<=a*b/\a*b<=1152921504606846976:=by have h1:a.natAbs<=1073741824:=kB;have h2:b.natAbs<=1073741824:=kB;have h3:=Nat.mul_le_mul h1 h2;rw [<-Int.natAbs_mul] at h3;omega
theorem zp9 {a b:Int}(ha:1<=a)(hb:1<=b):1<=a*b:=by have:=Int.mul_pos (show 0<a by omega) (show 0<b by omega);omega
variable{n:Int}
theorem zps (hn: -1152921504606846976<=n/\n<=1152921504606846976)(h:¬n<0):IntKind.u64.wrap n=WB n:=by rw [zju kB];unfold WB;rw [ja h]
theorem zpu (hn: -1152921504606846976<=n/\n<=1152921504606846976)(h:n<0):IntKind.u64.wrap (0-IntKind.u64.wrap n)=WB n:=by unfold WB;rw [jb h];unfold IntKind.wrap IntKind.signed IntKind.bits;simp;omega
def zFp (n d:Int):Int:=(Nat.gcd (WB n).toNat (WB d).toNat:Nat)
variable{d:Int}
theorem zom (hd:1<=d):zFp n d≠0:=by unfold zFp;have h:0<(WB d).toNat:=(by unfold WB;split<;>omega);have:=Nat.gcd_pos_of_pos_right (WB n).toNat h;omega
theorem zrS (I:Qt)(n:Int)(hn: -1152921504606846976<=n/\n<=1152921504606846976):Zt Tryz.prog 158 [.int .i64 n] I (.int .u64 (WB n)):=by
 intro g H w hw;refine qe Tryz.func158 Tryz.ntmps158 hw ?_;refine zR (zA (zN (Ql (zR ?_))));refine zM ?_;refine zC (zN ?_);refine zI ?_ ?_<;>intro hc4
 ·refine zR (zM ?_);refine zV (YK U Jp) ?_;refine zV (zgL U) ?_;refine zA (zN (Qr (Qc ?_)));exact zr U U (by rw [zpu hn (by simpa using hc4)])
 refine Qo (Qa (zR (zM ?_)));refine zV (YK U Jp) ?_;refine zA (zN (Qr ?_));exact zr U U (by rw [zps hn (by simpa using hc4)])
theorem zAh (I:Qt)(n d:Int)(hn: -1152921504606846976<=n/\n<=1152921504606846976)(hd:1<=d/\d<=1152921504606846976):Zt Tryz.prog 157 [.int .u64 (WB n),.int .u64 (WB d)] I (.int .u64 (zFp n d)):=by have h0:0<=WB n/\WB n<=1152921504606846976:=(by unfold WB;split<;>omega);have h1:1<=WB d/\WB d<=1152921504606846976:=(by unfold WB;split<;>omega);have h:=zB2 I (WB n).toNat (WB d).toNat kB kB kB;rw [AE h0.1,AE kB] at h;exact h
theorem zzx (I:Qt)(n d:Int)(hn: -1152921504606846976<=n/\n<=1152921504606846976)(hd:1<=d/\d<=1152921504606846976):ZQ Tryz.prog 207 [.int .i64 n,.int .i64 d] I [] ((fun v I' L=>I'=I/\L=[]/\∃ a b er,v= .tuple #[Uw a b,.int .i64 er])):=by
 intro g H w hw;refine qe Tryz.func207 Tryz.ntmps207 hw ?_;refine zR ?_;refine Qs zdF U U (fun b_4=>?_);refine zA (zN (Ql (zR ?_)));refine zM ?_;refine zC (zN ?_);refine zI ?_ ?_<;>intro hc10
 focus
  refine zR ?_;refine zV (Qk U Zs (fun hg=>by exact Cells.g0) U) ?_;refine zh YQ ?_;refine zA (zN (Qr (Qc ?_)))
 rotate_left
 refine Qo (Qa (zR (zM ?_)));refine qcV (vs:=[_]) U zha (zrS I n hn) ?_;refine zM ?_;refine qcV (vs:=[_]) U zha (zrS I d kB) ?_;refine zA ?_;refine zA ?_;refine zN (zR ?_);refine zM ?_;refine zM ?_;refine qcV (vs:=[_,_]) U zm1 (zAh I n d hn hd) ?_;refine zA (zN (Ql ?_));refine YE mixed kA ?_;refine zq (Qj U) ?_;refine zq (Qj U) ?_;refine zq (zss U U (fun hg=>by exact zom hd.1)) ?_;refine zq (Qj U) ?_;refine zq (Qj U) ?_;refine zq (zss U U (fun hg=>by exact zom hd.1)) ?_;refine zq (QU U) ?_;refine zq (QU U) ?_;refine YC ?_;refine Qa (Ql (zR (zM ?_)));refine zM ?_;refine zV (Vl U U) ?_;refine zC (zN ?_);refine zI ?_ ?_<;>intro hc28
 focus
  refine zR ?_;refine zV (Qk U Zs (fun hg=>by exact Cells.g0) U) ?_;refine zh YQ ?_;refine zA (zN (Qr (Qc ?_)))
 rotate_left
 focus
  refine Qo (Qa (zR (zM ?_)));refine zV (YK U Xc) ?_;refine zM ?_;refine zV (YK U Xc) ?_;refine zV (QC (ps:=[(0,_),(1,_)]) [_,_] znm U U) ?_;refine zh YQ ?_;refine zN (Ql (zR (zM ?_)));refine zC ?_;refine zM ?_;refine zC ?_;refine zV (ziL U U zuW) ?_;refine zN ?_;refine zI ?_ ?_<;>intro hc39
  focus
   refine Qf ?_;refine zF Yt ?_;refine zL Qq ?_;refine zV (zfg U) ?_;refine zF Yt ?_;refine zS ZD ?_;refine zN (zR ?_)
  rotate_left
  refine Qo (Qa (zR ?_))
  all_goals
   refine zV (Qk U Zs (fun hg=>by exact Cells.g0) U) ?_;refine zh YQ ?_;refine zA (zN (Qr ?_))
 all_goals
  exact Zl U U U Zs (vs:=[_,_]) kJ U (fun w hw=>⟨_,_,[],U,zGN _,hw.drop,U,U,_,_,_,U⟩)
theorem zAK (I:Qt){m e:Int}(h1:Ux n d=true)(h2:Ux m e=true):Zt Tryz.prog 159 [Uw n d,Uw m e] I (.tuple #[.int .i64 (n*m),.int .i64 (d*e)]):=by intro g H w hw;refine qe Tryz.func159 Tryz.ntmps159 hw ?_;obtain ⟨hd,hn⟩:=JE h1;obtain ⟨he,hm⟩:=JE h2;have hb1:=zi1 hn hm;have hb2:=zi1 (show -1073741824<=d/\d<=1073741824 by omega) (show -1073741824<=e/\e<=1073741824 by omega);refine zR ?_;refine QG U U U (fun b_2=>?_);refine QG U U U (fun b_3=>?_);refine zA ?_;refine zA (zN (Ql ?_));refine YE mixed kA ?_;refine zq (Qe U Yt) ?_;refine zq (Qd U Qq (fun hg=>by exact QB.h1 U)) ?_;refine zq (Qe U Yt) ?_;refine zq (Qd U Qq (fun hg=>by exact QB.h0 U)) ?_;refine zq (ZL U U U (fun _=>kB)) ?_;refine zq (Qe U Vp) ?_;refine zq (Qd U Qq (fun hg=>by exact QB.h1 U)) ?_;refine zq (Qe U Vp) ?_;refine zq (Qd U Qq (fun hg=>by exact QB.h0 U)) ?_;refine zq (ZL U U U (fun _=>kB)) ?_;refine zq (QU U) ?_;refine zq (QU U) ?_;refine YC ?_;refine Qa (Qr ?_);exact Q9 U U U (fun w hw=>⟨U,hw.drop⟩)
theorem zGc (I:Qt)(n d m e:Int):ZQ Tryz.prog 160 [.agg #[.func (.func 159) #[] #[]],Uw n d,Uw m e] I [] ((fun v I' L=>I'=I/\L=[]/\∃ a b er,v= .tuple #[Uw a b,.int .i64 er])):=by
 intro g H w hw;refine qe Tryz.func160 Tryz.ntmps160 hw ?_;have hIc:=zGN I;refine zR ?_;refine QG U U U (fun b_3=>?_);refine QG U U U (fun b_4=>?_);refine QG U U U (fun b_5=>?_);refine Qs zdF U U (fun b_6=>?_);refine zA (zN (Ql (zR ?_)));refine zV (Qk U Zs (fun hg=>by exact Cells.g2) U) ?_;refine qcV (vs:=[_]) U WH (KW I n d) ?_;refine zC ?_;refine zM ?_;refine Q8 3 U U U ?_;refine zJ (Qk U Zs (fun hg=>by exact Cells.g1) U) ?_;refine qf (vs:=[_]) U WH (fun hg=>KW I m e) ?_;refine zJ (QI U U U) ?_;refine ZO U U U U U ?_;refine zN ?_;refine zI ?_ ?_<;>intro hc15
 focus
  refine zR ?_;refine zV (Qk U Zs (fun hg=>by exact Cells.g0) U) ?_;refine zh YQ ?_;refine zA (zN (Qr (Qc ?_)))
 rotate_left
 have hr:Ux n d=true/\Ux m e=true:=(by have h:=hc15;unfold zsh at h;simp at h;exact ⟨by cases h1:Ux n d<;>simp_all,by cases h2:Ux m e<;>simp_all⟩);obtain ⟨hr1,hr2⟩:=hr;refine Qo (Qa (zR ?_));refine zF zn4 ?_;refine zL zvM ?_;refine zV (Qk U Zs (fun hg=>by exact Cells.g2) U) ?_;refine zV (Qk U Zs (fun hg=>by exact Cells.g1) U) ?_;refine qcV (vs:=[_,_]) U zxq (zAK I hr1 hr2) ?_;refine zE ?_;refine zE ?_;refine zpc [_,_] U zyL .nil (zzx I (n*m) (d*e) (zi1 (JE hr1).2 (JE hr2).2) ⟨zp9 (JE hr1).1.1 (JE hr2).1.1,(zi1 (show -1073741824<=d/\d<=1073741824 by have:=JE hr1;omega) (show -1073741824<=e/\e<=1073741824 by have:=JE hr2;omega)).2⟩) ?_;rintro vv1 I1 L1 hI1 ⟨rfl,rfl,ra,rb,er,rfl⟩;refine zE ?_;refine zE ?_;refine zh YQ ?_;refine zA (zN (Qr ?_))
 all_goals
  exact Zl U U U Zs (vs:=[_,_]) kJ U (fun w hw=>⟨_,_,[],U,zGN _,hw.drop,U,U,_,_,_,U⟩)
theorem zjU (I:Qt)(n d m e:Int):ZQ Tryz.prog 115 [Uw n d,Uw m e] I [] ((fun v I' L=>I'=I/\L=[]/\∃ a b er,v= .tuple #[Uw a b,.int .i64 er])):=by intro g H w hw;refine qe Tryz.func115 Tryz.ntmps115 hw ?_;have hIc:=zGN I;refine zR ?_;refine QG U U U (fun b_2=>?_);refine QG U U U (fun b_3=>?_);refine Qs zdF U U (fun b_4=>?_);refine zA ?_;refine zN (zR ?_);refine zV (QC (ps:=[(0,_)]) [_] zxL U U) ?_;refine zV (Qk U Zs (fun hg=>by exact Cells.g2) U) ?_;refine zV (Qk U Zs (fun hg=>by exact Cells.g1) U) ?_;refine zpc [_,_,_] U zxb .nil (zGc I n d m e) ?_;rintro vv1 I1 L1 hI1 ⟨rfl,rfl,ra,rb,er,rfl⟩;refine zE ?_;refine zE ?_;refine zh YQ ?_;refine zA (zN (Qr ?_));exact Zl U U U Zs (vs:=[_,_]) kJ U (fun w hw=>⟨_,_,[],U,zGN _,hw.drop,U,U,_,_,_,U⟩)
def zBg (_I:Qt)(b t:Nat)(x:Sg):Value->Qt->Go.Kn.Loc->Prop:=fun v _ L=>∃ (g:Bool) (x':Sg),v= .bool g/\L=[(b,.cells (Zk x').toArray t (0,0))]/\(x'.id=x.id/\x'.kind=x.kind)
def zDF (P:Program)(t:Nat)(f:Nat)(cap:List Value)(I:Qt):Prop:=∀ I2,HLe I I2->∀ (b:Nat) (x:Sg),ZQ P f (QZ b::cap) I2 [(b,.cells (Zk x).toArray t (0,0))] (zBg I2 b t x)
variable{P:Program}{t f:Nat}{cap:List Value}{I':Qt}
theorem zDF.mono (h:zDF P t f cap I)(hI:HLe I I'):zDF P t f cap I':=fun I2 h2=>h I2 (hI.trans h2)
def zl0 (c9:Option Int)(x:Sg):Value->Qt->Go.Kn.Loc->Prop:=fun v I' L=>L=[]/\∃ (av:Option Addr) (n c:Nat) (zs:List Sg) (g:Bool),v= .tuple #[.slice av n c,.bool g]/\Sl I' 14 Zk av n c zs/\n<=1/\(∀ z∈zs,z.id=x.id/\z.kind=x.kind)/\∀ i,c9=some i->g=true->x.id≠i
def zmX (P:Program)(c9:Option Int)(I:Qt)(v:Value):Prop:=∃ (f:Nat) (cap:List Value),v= .func (.func f) #[] cap.toArray/\Fun P f/\∀ I2,HLe I I2->∀ x,ZQ P f (Yp x::cap) I2 [] (zl0 c9 x)
variable{c9:Option Int}{v:Value}
theorem zmX.mono (h:zmX P c9 I v)(hI:HLe I I'):zmX P c9 I' v:=by obtain ⟨f,cap,h1,h2,h3⟩:=h;exact ⟨f,cap,h1,h2,fun I2 h4=>h3 I2 (hI.trans h4)⟩
def zek (P:Program)(c9:Option Int):Value->Qt->Go.Kn.Loc->Prop:=fun v I' L=>L=[]/\zmX P c9 I' v
variable{x:Sg}{o:Nat}{z:Value}
theorem zrP (h:(Zk x)[o]? =some z):Nat.blt o (Zk x).toArray.size=true:=by rw [AV];exact (jc.1 h).1
variable{b:Nat}{fz:Nat×Nat}{l:Go.Kn.Loc}
theorem zAu :Cells I ((b,.cells (Zk x).toArray t fz)::l) b (0+10) [.int .i64 x.fn,.int .i64 x.fd]:=fun j u hu=>by
 match j,hu with
 | 0,hu=>cases hu;exact zGI U
 | 1,hu=>cases hu;exact zGI U
 | j+2,hu=>simp at hu
theorem ztV :Cells I ((b,.cells (Zk x).toArray t fz)::l) b (0+12) [.int .i64 x.tn,.int .i64 x.td]:=fun j u hu=>by
 match j,hu with
 | 0,hu=>cases hu;exact zGI U
 | 1,hu=>cases hu;exact zGI U
 | j+2,hu=>simp at hu
variable{e:Ed}
theorem ztJ (h:I b=some (.cells (X6 e).toArray t fz)):Cells I l b (0+6) [.int .i64 e.rn,.int .i64 e.rd]:=fun j u hu=>by
 match j,hu with
 | 0,hu=>cases hu;exact QB.imm h U
 | 1,hu=>cases hu;exact QB.imm h U
 | j+2,hu=>simp at hu
theorem WN (x:Sg)(u:Int):(Zk x).toArray.setIfInBounds (0+6) (.int .i64 u)=(Zk {x with dir:=u}).toArray:=id rfl
theorem Ui (x:Sg)(u:Int):(Zk x).toArray.setIfInBounds (0+8) (.int .i64 u)=(Zk {x with size:=u}).toArray:=id rfl
theorem zBh (x:Sg)(a b c d:Int):Y9 (Y9 (Zk x) (0+10) [.int .i64 a,.int .i64 b]) (0+12) [.int .i64 c,.int .i64 d]=Zk {x with fn:=a,fd:=b,tn:=c,td:=d}:=rfl
theorem zlg (I:Qt)(b o:Nat)(x:Sg)(z p q:Int)(hz:(Zk x)[o]? =some (.int .i64 z))(hs:∀ u:Int,∃ x2:Sg,(x2.id=x.id/\x2.kind=x.kind)/\(Zk x).toArray.setIfInBounds o (.int .i64 u)=(Zk x2).toArray):ZQ Tryz.prog 90 [.pointer (some ⟨b,o,none⟩),.int .i64 p,.int .i64 q] I [(b,.cells (Zk x).toArray 28 (0,0))] (fun _v I' L=>I'=I/\∃ x2:Sg,(x2.id=x.id/\x2.kind=x.kind)/\L=[(b,.cells (Zk x2).toArray 28 (0,0))]):=by
 intro g H w hw;refine qe Tryz.func90 Tryz.ntmps90 hw ?_;refine zR (zM ?_);refine zV (Qu U) ?_;refine zV (Qd U Qq (fun hg=>by exact (zGI (by rw [YU];exact hz)))) ?_;refine zN (Qp (zR (zM ?_)));refine zC ?_;refine zA (zN ?_);refine zI ?_ ?_<;>intro hc9
 ·refine Qf (zM ?_);refine zM ?_;refine zV (Qu U) ?_;refine Z0 U U ZD U U (by repeat (first | exact Upd.here | apply Upd.there | apply QH)) (zrP hz) ?_;refine Qb (Qg ?_)
  first
  | (obtain ⟨x2,e1,e2⟩:=hs q;exact YV (Ys U (fun w hw=>⟨_,I,_,U,zGN _,hw,U,x2,e1,jr (fun a:Array Value=>[(b,Obj.cells a 28 (0,0))]) e2⟩)))
 refine zR (zM ?_);refine zC ?_;refine zA (zN ?_);refine zI ?_ ?_<;>intro hc15
 ·refine Qf (zM ?_);refine zM ?_;refine zV (Qu U) ?_;refine Z0 U U ZD U U (by repeat (first | exact Upd.here | apply Upd.there | apply QH)) (zrP hz) ?_;refine Qb (Qg ?_)
  first
  | (obtain ⟨x2,e1,e2⟩:=hs p;exact YV (Ys U (fun w hw=>⟨_,I,_,U,zGN _,hw,U,x2,e1,jr (fun a:Array Value=>[(b,Obj.cells a 28 (0,0))]) e2⟩)))
 refine Qo (Qg ?_);exact YV (Ys U (fun w hw=>⟨_,I,_,U,zGN _,hw,U,x,⟨U,U⟩,U⟩))
theorem zD1 (b:Nat)(x:Sg):ZQ Tryz.prog 89 [QZ b] I [(b,.cells (Zk x).toArray 28 (0,0))] (zBg I b 28 x):=by
 intro g H w hw;refine qe Tryz.func89 Tryz.ntmps89 hw ?_;have hIc:=zGN I;refine zR (zA ?_);refine zN (zR ?_);refine zM ?_;refine zV (Qu U) ?_;refine zF VE ?_;refine zpc [_,_,_] U zlb QT (zlg I b 5 x _ _ _ U (fun u=>⟨{x with side:=u},⟨U,U⟩,U⟩)) ?_;rintro vv1 I1 L1 hI1 ⟨rfl,x1,hx1,rfl⟩;refine zN (Ql (zR (zM ?_)));refine zV (Qu U) ?_;refine zF Yx ?_;refine zL Qq ?_;refine zC (zN ?_);refine zI ?_ ?_<;>intro hc11
 ·refine Qf (zM ?_);refine zM ?_;refine zV (Qu U) ?_;refine zF Yx ?_;refine zL Qq ?_;refine zV (KB U U U) ?_;refine zV (Qu U) ?_;refine zF Yx ?_;refine zS ZD ?_;refine zN (Ql (zR (zM ?_)));refine zV (Qu U) ?_;refine zF Kw ?_;refine zL Qq ?_;refine zC ?_;refine zM ?_;refine QA 5 U U U ?_;refine zK (Qj U) ?_;refine zK (Qu U) ?_;refine zK (Qe U Yy) ?_;refine zK (Qd U Qq (fun hg=>by exact QB.h0 U)) ?_;refine qg (vs:=[_,_,_]) U Yg (fun hg=>Zq I1 _ _ _) ?_;refine QE U U U U U ?_;refine zN ?_;refine zI ?_ ?_<;>intro hc31
  focus
   refine Qf (zM ?_);refine zM ?_;refine zV (Qu U) ?_;refine zF Yy ?_;refine zL Qq ?_;refine zV (KB U U U) ?_;refine zV (Qu U) ?_;refine zF Yy ?_;refine zS ZD ?_;refine zN (zR ?_);refine zA (zN (Qr ?_))
  rotate_left
  refine Qo (Qa (zR (zA (zN (Qr ?_)))))
  all_goals
   refine QR U U (fun w hw=>?_)
   try simp only [WN,Ui] at hw
   exact ⟨_,_,_,U,zGN _,hw,_,_,U,U,hx1⟩
 refine Qo (Qa (Ql (zR (zM ?_))));refine zV (Qu U) ?_;refine zF Kw ?_;refine zL Qq ?_;refine zC ?_;refine zM ?_;refine QA 5 U U U ?_;refine zK (Qj U) ?_;refine zK (Qu U) ?_;refine zK (Qe U Yy) ?_;refine zK (Qd U Qq (fun hg=>by exact QB.h0 U)) ?_;refine qg (vs:=[_,_,_]) U Yg (fun hg=>Zq I1 _ _ _) ?_;refine QE U U U U U ?_;refine zN ?_;refine zI ?_ ?_<;>intro hc31
 focus
  refine Qf (zM ?_);refine zM ?_;refine zV (Qu U) ?_;refine zF Yy ?_;refine zL Qq ?_;refine zV (KB U U U) ?_;refine zV (Qu U) ?_;refine zF Yy ?_;refine zS ZD ?_;refine zN (zR ?_);refine zA (zN (Qr ?_))
 rotate_left
 refine Qo (Qa (zR (zA (zN (Qr ?_)))))
 all_goals
  refine QR U U (fun w hw=>?_)
  try simp only [Ui] at hw
  exact ⟨_,_,_,U,zGN _,hw,_,_,U,U,hx1⟩
theorem zEi (h1:Uq I b1 (.cells (X6 e).toArray 30 (0,0)))(b:Nat)(x:Sg):ZQ Tryz.prog 94 [QZ b,QZ b1] I [(b,.cells (Zk x).toArray 28 (0,0))] (zBg I b 28 x):=by
 intro g H w hw;refine qe Tryz.func94 Tryz.ntmps94 hw ?_;refine zR (zA (zN (Ql (zR ?_))));refine zM ?_;refine zV (Qu U) ?_;refine zF Yx ?_;refine zL Qq ?_;refine zC (zN ?_);refine zI ?_ ?_<;>intro hc8
 focus
  have hD:=zGN I;refine YZ ?_;refine ZA I [] mixed ?_;refine zT 0 U (Qj U) hD ?_;refine zT 1 U (Qj U) hD ?_;refine zT 2 U (Qu U) hD ?_;refine zT 3 U (Qe U Yx) hD ?_;refine zT 6 U (Qe U K4) hD ?_;refine zT 7 U (Qd U Qq (fun hg=>by exact QB.imm h1 U)) hD ?_;refine qd 4 U ?_;refine zL Qq ?_;refine Qb ?_;refine zD hD ?_;refine zT 5 U (KB U U U) hD ?_;refine zT 8 U (KB U U U) hD ?_;refine zT 9 U (Z4 U U (fun hg=>by decide)) hD ?_;refine zT 10 U (KB U U U) hD ?_;refine zT 11 U (Qu U) hD ?_;refine zT 12 U (Qe U Yx) hD ?_;refine qd 13 U ?_;refine zS ZD ?_;refine Qb ?_;refine zD hD ?_;refine Qz kA ?_;refine QD ?_;refine Qa (zR (zA (zN (Qr ?_))))
 rotate_left
 refine Qo (Qa (zR (zA (zN (Qr ?_)))))
 all_goals
  refine QR U U (fun w hw=>?_)
  try simp only [WN] at hw
  exact ⟨_,_,_,U,zGN _,hw,_,_,U,U,⟨U,U⟩⟩
theorem zEg (h1:Uq I b1 (.cells (X6 e).toArray 30 (0,0)))(b:Nat)(x:Sg):ZQ Tryz.prog 109 [QZ b,QZ b1] I [(b,.cells (Zk x).toArray 28 (0,0))] (zBg I b 28 x):=by
 intro g H w hw;refine qe Tryz.func109 Tryz.ntmps109 hw ?_;have hIc:=zGN I;refine zR (zA (zN (Ql ?_)));have hD:=zGN I;refine YZ ?_;refine ZA I [] mixed ?_;refine zT 0 U (Qj U) hD ?_;refine zT 1 U (Qu U) hD ?_;refine zT 2 U (Qe U Vq) hD ?_;refine zT 3 U (Qe U Kz) hD ?_;refine zT 4 U (Qd U Qq (fun hg=>by exact QB.imm h1 U)) hD ?_;refine zT 5 U (KB U U U) hD ?_;refine zT 6 U (Qe U Wb) hD ?_;refine zT 7 U (Qd U Qq (fun hg=>by exact QB.imm h1 U)) hD ?_;refine zT 8 U (KB U U U) hD ?_;refine qd 9 U ?_;refine zpc [_,_,_] U zlb QT (zlg I b 1 x _ _ _ U (fun u=>⟨{x with role:=u},⟨U,U⟩,U⟩)) ?_;rintro vv1 I1 L1 hI1 ⟨rfl,x1,hx1,rfl⟩;have h1:=h1.mono hI1;have hD:=hD.trans hI1;refine Qb ?_;refine zD hD ?_;refine Qz kA ?_;refine QD ?_;refine Qa (Ql ?_);have hD:=zGN I1;refine YZ ?_;refine ZA I1 [] mixed ?_;refine zT 0 U (Qj U) hD ?_;refine zT 1 U (Qu U) hD ?_;refine zT 2 U (Qe U VT) hD ?_;refine zT 3 U (Qe U Kz) hD ?_;refine zT 4 U (Qd U Qq (fun hg=>by exact QB.imm h1 U)) hD ?_;refine zT 5 U (Qe U Wb) hD ?_;refine zT 6 U (Qd U Qq (fun hg=>by exact QB.imm h1 U)) hD ?_;refine qd 7 U ?_;refine zpc [_,_,_] U zlb QT (zlg I1 b 9 x1 _ _ _ U (fun u=>⟨{x1 with wth:=u},⟨U,U⟩,U⟩)) ?_;rintro vv2 I2 L2 hI2 ⟨rfl,x2,hx2,rfl⟩;have hD:=hD.trans hI2;refine Qb ?_;refine zD hD ?_;refine Qz kA ?_;refine QD ?_;refine Qa (zR (zA (zN (Qr ?_))));refine QR U U (fun w hw=>?_)
 try simp only [WN,Ui] at hw
 exact ⟨_,_,_,U,zGN _,hw,_,_,U,U,⟨hx2.1.trans hx1.1,hx2.2.trans hx1.2⟩⟩
theorem zFF (h1:Uq I b1 (.cells (X6 e).toArray 30 (0,0)))(b:Nat)(x:Sg):ZQ Tryz.prog 114 [QZ b,QZ b1] I [(b,.cells (Zk x).toArray 28 (0,0))] (zBg I b 28 x):=by
 intro g H w hw;refine qe Tryz.func114 Tryz.ntmps114 hw ?_;have hIc:=zGN I;refine zR (zA (zN ?_));refine zY [(0,_),(1,_)] (fun T L0 E I' loc'=>∃ (p4:Nat) (ra rb er:Int),E=(4,QZ p4)::(5,.int .i64 er)::T/\HLe I I'/\[(p4,.cells #[.int .i64 ra,.int .i64 rb] 26 (0,0)),(b,.cells (Zk x).toArray 28 (0,0))]=loc'/\True) ?_ ?_
 ·have hKc1:=zGN I;have hD:=zGN I;refine YZ ?_;refine ZA I [] mixed ?_;refine zT 0 U (Qj U) hD ?_;refine zT 1 U (Qu U) hD ?_;refine zT 2 U (Qe U Ym) hD ?_;refine zT 4 U (Qe U Km) hD ?_;refine zT 5 U (Qk U Zs (fun hg=>by exact ztJ h1) U) hD ?_;refine Zo 3 10 U U kA ?_ ?_
  ·refine zV (Qk U Zs (fun hg=>by exact zAu) U) ?_;refine Qb ?_;refine zD hD ?_;refine Zo 6 10 U U kA ?_ ?_
   focus
    refine zpc [_,_] U X5 .nil (zjU I x.fn x.fd e.rn e.rd) ?_;rintro vv1 I1 L1 hI1 ⟨rfl,rfl,rfa,rfb,rfe,rfl⟩;have hKc1:=hKc1.trans hI1;have hD:=hD.trans hI1;refine Qb ?_;refine zD hD ?_;refine zT 7 U (Qj U) hD ?_;refine zT 8 U (Z6 U U) hD ?_;refine zT 9 U (Z6 U U) hD ?_;refine qd 10 U ?_;refine Qs zdF U U (fun b_4=>?_);refine Qb ?_;refine zD hD ?_
   rotate_left
   refine Qs zdF U U (fun b_4=>?_);refine Qb ?_;refine zD hD ?_;refine qd 6 U ?_;refine zpc [_,_] U X5 .nil (zjU I x.fn x.fd e.rn e.rd) ?_;rintro vv2 I2 L2 hI2 ⟨rfl,rfl,rfa,rfb,rfe,rfl⟩;have hKc1:=hKc1.trans hI2;have hD:=hD.trans hI2;refine Qb ?_;refine zD hD ?_;refine zT 7 U (Qj U) hD ?_;refine zT 8 U (Z6 U U) hD ?_;refine zT 9 U (Z6 U U) hD ?_
   all_goals
    refine qd 11 U ?_;refine zh YQ ?_;refine Qb ?_;refine zD hD ?_;refine zT 12 U (QU U) hD ?_;refine Qz kA ?_;refine QD ?_;exact zm (h:=⟨_,_,_,_,U,hKc1,U,trivial⟩)
  refine Qs zdF U U (fun b_4=>?_);refine Qb ?_;refine zD hD ?_;refine qd 3 U ?_;refine zV (Qk U Zs (fun hg=>by exact Cells.s1 (vs:=[_,_]) U) U) ?_;refine Qb ?_;refine zD hD ?_;refine qd 6 U ?_;refine zpc [_,_] U X5 .nil (zjU I x.fn x.fd e.rn e.rd) ?_;rintro vv3 I3 L3 hI3 ⟨rfl,rfl,rfa,rfb,rfe,rfl⟩;have hKc1:=hKc1.trans hI3;have hD:=hD.trans hI3;refine Qb ?_;refine zD hD ?_;refine zT 7 U (Qj U) hD ?_;refine zT 8 U (Z6 U U) hD ?_;refine zT 9 U (Z6 U U) hD ?_;refine qd 11 U ?_;refine zh YQ ?_;refine Qb ?_;refine zD hD ?_;refine zT 12 U (QU U) hD ?_;refine Qz kA ?_;refine QD ?_;exact zm (h:=⟨_,_,_,_,U,hKc1,U,trivial⟩)
 rintro E J4 loc' ⟨p4,ra,rb,er,rfl,hJ,rfl,_⟩;have h1:=h1.mono hJ;have hIc:=hIc.trans hJ;refine zY [(0,_),(4,_),(5,_)] (fun T L0 E I' loc'=>∃ (p6:Nat) (rc rd er2:Int),E=(6,QZ p6)::(7,.int .i64 er2)::T/\HLe J4 I'/\[(p6,.cells #[.int .i64 rc,.int .i64 rd] 26 (0,0)),(p4,.cells #[.int .i64 ra,.int .i64 rb] 26 (0,0)),(b,.cells (Zk x).toArray 28 (0,0))]=loc'/\True) ?_ ?_
 ·have hKc2:=zGN J4;have hD:=zGN J4;refine YZ ?_;refine ZA J4 [] mixed ?_;refine zT 0 U (Qj U) hD ?_;refine zT 1 U (Qu U) hD ?_;refine zT 2 U (Qe U Yl) hD ?_;refine zT 4 U (Qe U Km) hD ?_;refine zT 5 U (Qk U Zs (fun hg=>by exact ztJ h1) U) hD ?_;refine Zo 3 10 U U kA ?_ ?_
  ·refine zV (Qk U Zs (fun hg=>by exact zGK ztV) U) ?_;refine Qb ?_;refine zD hD ?_;refine Zo 6 10 U U kA ?_ ?_
   focus
    refine zpc [_,_] U X5 .nil (zjU J4 x.tn x.td e.rn e.rd) ?_;rintro vv5 I5 L5 hI5 ⟨rfl,rfl,rta,rtb,rte,rfl⟩;have hKc2:=hKc2.trans hI5;have hD:=hD.trans hI5;refine Qb ?_;refine zD hD ?_;refine zT 7 U (Qj U) hD ?_;refine zT 8 U (Z6 U U) hD ?_;refine zT 9 U (Z6 U U) hD ?_;refine qd 10 U ?_;refine Qs zdF U U (fun b_6=>?_);refine Qb ?_;refine zD hD ?_
   rotate_left
   refine Qs zdF U U (fun b_6=>?_);refine Qb ?_;refine zD hD ?_;refine qd 6 U ?_;refine zpc [_,_] U X5 .nil (zjU J4 x.tn x.td e.rn e.rd) ?_;rintro vv6 I6 L6 hI6 ⟨rfl,rfl,rta,rtb,rte,rfl⟩;have hKc2:=hKc2.trans hI6;have hD:=hD.trans hI6;refine Qb ?_;refine zD hD ?_;refine zT 7 U (Qj U) hD ?_;refine zT 8 U (Z6 U U) hD ?_;refine zT 9 U (Z6 U U) hD ?_
   all_goals
    refine qd 11 U ?_;refine zh YQ ?_;refine Qb ?_;refine zD hD ?_;refine zT 12 U (QU U) hD ?_;refine Qz kA ?_;refine QD ?_;exact zm (h:=⟨_,_,_,_,U,hKc2,U,trivial⟩)
  refine Qs zdF U U (fun b_6=>?_);refine Qb ?_;refine zD hD ?_;refine qd 3 U ?_;refine zV (Qk U Zs (fun hg=>by exact Cells.s2 (vs:=[_,_]) U) U) ?_;refine Qb ?_;refine zD hD ?_;refine qd 6 U ?_;refine zpc [_,_] U X5 .nil (zjU J4 x.tn x.td e.rn e.rd) ?_;rintro vv7 I7 L7 hI7 ⟨rfl,rfl,rta,rtb,rte,rfl⟩;have hKc2:=hKc2.trans hI7;have hD:=hD.trans hI7;refine Qb ?_;refine zD hD ?_;refine zT 7 U (Qj U) hD ?_;refine zT 8 U (Z6 U U) hD ?_;refine zT 9 U (Z6 U U) hD ?_;refine qd 11 U ?_;refine zh YQ ?_;refine Qb ?_;refine zD hD ?_;refine zT 12 U (QU U) hD ?_;refine Qz kA ?_;refine QD ?_;exact zm (h:=⟨_,_,_,_,U,hKc2,U,trivial⟩)
 rintro E J8 loc' ⟨p6,rc,rd,er2,rfl,hJ,rfl,_⟩;have hIc:=hIc.trans hJ;refine zY [(5,_),(7,_)] (fun T L0 E I' loc'=>E=T/\J8=I'/\[(b,.cells (Zk {x with fn:=ra,fd:=rb,tn:=rc,td:=rd}).toArray 28 (0,0))]=loc'/\True) ?_ ?_
 ·have hD:=zGN J8;refine YZ ?_;refine ZA J8 [(p6,.cells #[.int .i64 rc,.int .i64 rd] 26 (0,0)),(p4,.cells #[.int .i64 ra,.int .i64 rb] 26 (0,0))] mixed ?_;refine zT 0 U (Qj U) hD ?_;refine zT 1 U (Qj U) hD ?_;refine zT 2 U (Qk U Zs (fun hg=>by exact Cells.g1) U) hD ?_;refine zT 3 U (Qk U Zs (fun hg=>by exact Cells.g0) U) hD ?_;refine zT 4 U (Qu U) hD ?_;refine zT 5 U (Qe U Ym) hD ?_;refine qd 6 U ?_;refine YO U U YQ U U U U (by repeat (first | exact Upd.here | apply Upd.there | apply QH)) ?_;refine Qb ?_;refine zD hD ?_;refine zT 7 U (Qu U) hD ?_;refine zT 8 U (Qe U Yl) hD ?_;refine qd 9 U ?_;refine YO U U YQ U U U U (by repeat (first | exact Upd.here | apply Upd.there | apply QH)) ?_;refine Qb ?_;refine zD hD ?_;refine Qz kA ?_;refine QD ?_
  first
  | exact Y8 _ _ ⟨U,U,U,trivial⟩ (.cons U (.cons U .nil)) (by rw [<-zBh];repeat (first | exact .refl | refine .drop ?_))
 rintro E I' loc' ⟨rfl,rfl,rfl,_⟩;refine zR (zM ?_);refine zC ?_;refine zM ?_;refine QA 2 U U U ?_;refine zK (Qj U) ?_;refine zK (QI U U U) ?_;refine QE U U U U U ?_;refine zA (zN (Qr ?_));exact QR U U (fun w hw=>⟨_,_,_,U,hIc,hw,_,_,U,U,⟨U,U⟩⟩)
def cE (k:Int)(e:Ed):Option Int:=if k=5 then some e.sign.id else none
def KdR (P:Program)(k:Int)(I:Qt)(f0 f1 f2:Nat)(c0 c1 c2:List Value):Prop:=
 (Fun P f0/\∀ I2,HLe I I2->∀ e,∃ e2,Zt P f0 (Y1 e::c0) I2 (Y1 e2))/\(Fun P f1/\∀ I2,HLe I I2->∀ e,∃ b:Bool,Zt P f1 (Y1 e::c1) I2 (.bool b))/\(Fun P f2/\∀ I2,HLe I I2->∀ e,ZQ P f2 (Y1 e::c2) I2 [] (zek P (cE k e)))
theorem zhT (x:Sg)(u:Int):(Yp x).cells.setIfInBounds (0+2) (.int .i64 u)=(Zk {x with bar:=u}).toArray:=rfl
theorem zlQ (e:Ed)(u:Int):(X6 e).toArray.setIfInBounds (0+0) (.int .i64 u)=(X6 {e with kind:=u}).toArray:=rfl
theorem zuq {b2 b3:Nat}(h2:Uq I b2 (.cells (X6 e).toArray 30 (0,0)))(h3:Uq I b3 (.cells #[.func (.func f) #[] cap.toArray] 174 (0,0)))(hF:Fun Tryz.prog f)(hin:zDF Tryz.prog 28 f cap I)(x:Sg):ZQ Tryz.prog 156 [Yp x,QZ b2,QZ b3] I [] (zl0 none x):=by
 intro g H w hw;refine qe Tryz.func156 Tryz.ntmps156 hw ?_;have hIc:=zGN I;refine zR ?_;refine QG U U U (fun b_3=>?_);refine zA ?_;refine zA (zN (Ql (zR ?_)));refine zF Yq ?_;refine zL Qq ?_;refine zF VO ?_;refine zV (Qd U Qq (fun hg=>by exact QB.imm h2 U)) ?_;refine zF JP ?_;refine zV (Qd U Qq (fun hg=>by exact QB.imm h2 U)) ?_;refine qcV (vs:=[_,_,_]) U Yg (Zq I _ _ _) ?_;refine zM ?_;refine QA 7 U U U ?_;refine zK (Qe U Kz) ?_;refine zK (Qd U Qq (fun hg=>by exact QB.imm h2 U)) ?_;refine zK (QI U U U) ?_;refine zK (Qj U) ?_;refine Q8 11 U U U ?_;refine zJ (Qe U Vq) ?_;refine zJ (Qd U Qq (fun hg=>by exact QB.h0 U)) ?_;refine zJ (Qe U Kz) ?_;refine zJ (Qd U Qq (fun hg=>by exact QB.imm h2 U)) ?_;refine zJ (KB U U U) ?_;refine zJ (QI U U U) ?_;refine zsw U U U (.some U U U U gbt) U U ?_;refine QE U U U U U ?_;refine zM ?_;refine QA 20 U U U ?_;refine zK (Qd U zx0 (fun hg=>by exact QB.imm h3 U)) ?_;refine za2 (cap:=cap) (vs:=[_]) U U hF (.some U U U U gbt) U U U QT (fun _=>hin _ hIc b_3 x) (fun _=>⟨.bool false,false,x,U,U,⟨U,U⟩⟩) ?_;rintro vv9 I9 L9 hI9 ⟨g9,x9,rfl,rfl,hid⟩;have hIc:=hIc.trans hI9;refine zK (Vv U) ?_;refine QE U U U U U ?_;refine zN ?_;refine zI ?_ ?_<;>intro hc30
 ·refine zR (zA ?_);refine zA (zN (Qr (Qc ?_)));exact Q9 U U U (fun w hw=>⟨_,I9,[],U,hIc,hw.drop,U,none,0,0,[],false,U,.nil,jf _,fun z hz=>(by cases hz),fun _ h _=>by cases h⟩)
 refine Qo (Qa (zR ?_));refine zV (Qk U QY (fun hg=>by exact zGL) U) ?_;refine zpb [(0,_)] [Zk x9] VG (fun b_32=>?_);refine zA ?_;refine zA (zN (Qr ?_))
 first
 | exact Q9 U U U (fun w hw=>by obtain ⟨I9,k1,k2,k3⟩:=hw.freezeAll;exact ⟨_,I9,[],U,hIc.trans k1,k2,U,_,1,1,[x9],_,U,Sl.lit [x9] U Z8 (k3 _ _ (jk ..)),js _,fun z hz=>(by cases jA.1 hz;exact hid),fun _ h _=>by cases h⟩)
theorem zik (I:Qt)(e:Ed)(hF:Fun Tryz.prog f)(hin:zDF Tryz.prog 28 f cap I):ZQ Tryz.prog 88 [Y1 e,.func (.func f) #[] cap.toArray] I [] (zek Tryz.prog none):=by intro g H w hw;refine qe Tryz.func88 Tryz.ntmps88 hw ?_;have hIc:=zGN I;refine zR ?_;refine QG U U U (fun b_2=>?_);refine QG U U U (fun b_3=>?_);refine zA (zN (Ql ?_));refine QQ .here (fun I1 hI1 hb1=>?_);have hIc:=hIc.trans hI1;have h3:=Uq.of hb1;refine QQ .here (fun I2 hI2 hb2=>?_);have h3:=h3.mono hI2;have hIc:=hIc.trans hI2;have h2:=Uq.of hb2;refine Qf ?_;refine zV (QN (us:=[]) (vs:=[_,_]) U U) ?_;refine zA (zN (Qr ?_));exact QR U U (fun w hw=>⟨_,I2,[],U,hIc,hw.drop,U,156,[QZ b_2,QZ b_3],U,zvc,fun I8 h8 x=>zuq (h2.mono h8) (h3.mono h8) hF (hin.mono (hIc.trans h8)) x⟩)
theorem zwV (h1:Uq I b1 (.cells (X6 e).toArray 30 (0,0)))(x:Sg):ZQ Tryz.prog 97 [Yp x,QZ b1] I [] (zl0 none x):=by
 intro g H w hw;refine qe Tryz.func97 Tryz.ntmps97 hw ?_;have hIc:=zGN I;refine zR ?_;refine QG U U U (fun b_2=>?_);refine zA ?_;refine zA (zN (Ql (Qp (zR ?_))));refine zF Yq ?_;refine zL Qq ?_;refine zF VO ?_;refine zV (Qd U Qq (fun hg=>by exact QB.imm h1 U)) ?_;refine zF JP ?_;refine zV (Qd U Qq (fun hg=>by exact QB.imm h1 U)) ?_;refine qcV (vs:=[_,_,_]) U Yg (Zq I _ _ _) ?_;refine zA (zN ?_);refine zI ?_ ?_<;>intro hc5
 ·refine zR (zA ?_);refine zA (zN (Qr (Qn (Qc ?_))));exact Q9 U U U (fun w hw=>⟨_,I,[],U,hIc,hw.drop,U,none,0,0,[],true,U,.nil,jf _,fun z hz=>(by cases hz),fun _ h _=>by cases h⟩)
 refine zR ?_;refine zF Yq ?_;refine zL Qq ?_;refine zF JP ?_;refine zV (Qd U Qq (fun hg=>by exact QB.imm h1 U)) ?_;refine zC ?_;refine zA (zN ?_);refine zI ?_ ?_<;>intro hc13
 ·refine Qf ?_;refine zF Yq ?_;refine zL Qq ?_;refine zF JP ?_;refine zV (Qd U Qq (fun hg=>by exact QB.imm h1 U)) ?_;refine zF VO ?_;refine zV (Qd U Qq (fun hg=>by exact QB.imm h1 U)) ?_;refine zV (KB U U U) ?_;refine zV (KB U U U) ?_;refine zV (KB U U U) ?_;refine zF Yq ?_;refine zS ZD ?_;refine Qb ?_;rw [zhT];refine Qg (Qa (zR ?_));refine zV (Qk U QY (fun hg=>by exact Cells.g0) U) ?_;refine zpb [(0,_)] [Zk _] VG (fun b_30=>?_);refine zA ?_;refine zA (zN (Qr ?_))
  first
  | exact Q9 U U U (fun w hw=>by obtain ⟨I9,k1,k2,k3⟩:=hw.freezeAll;exact ⟨_,I9,[],U,hIc.trans k1,k2,U,_,1,1,[{x with bar:=_}],_,U,Sl.lit [{x with bar:=_}] U Z8 (k3 _ _ (jk ..)),js _,fun z hz=>(by cases jA.1 hz;exact ⟨U,U⟩),fun _ h _=>by cases h⟩)
 refine Qo (Qg (Qa (zR ?_)));refine zV (Qk U QY (fun hg=>by exact Cells.g0) U) ?_;refine zpb [(0,_)] [Zk _] VG (fun b_30=>?_);refine zA ?_;refine zA (zN (Qr ?_))
 first
 | exact Q9 U U U (fun w hw=>by obtain ⟨I9,k1,k2,k3⟩:=hw.freezeAll;exact ⟨_,I9,[],U,hIc.trans k1,k2,U,_,1,1,[x],_,U,Sl.lit [x] U Z8 (k3 _ _ (jk ..)),js _,fun z hz=>(by cases jA.1 hz;exact ⟨U,U⟩),fun _ h _=>by cases h⟩)
theorem ztZ (h1:Uq I b1 (.cells (X6 e).toArray 30 (0,0)))(x:Sg):ZQ Tryz.prog 101 [Yp x,QZ b1] I [] (zl0 none x):=by
 intro g H w hw;refine qe Tryz.func101 Tryz.ntmps101 hw ?_;have hIc:=zGN I;refine zR ?_;refine QG U U U (fun b_2=>?_);refine zA ?_;refine zA (zN ?_);refine zY [(2,_)] (fun T L0 E I' loc'=>∃ (x2:Sg),E=T/\I=I'/\[(b_2,.cells (Zk x2).toArray 28 (0,0))]=loc'/\x2.id=x.id/\x2.kind=x.kind) ?_ ?_
 ·refine zR ?_;refine zF Yq ?_;refine zL Qq ?_;refine zF VO ?_;refine zV (Qd U Qq (fun hg=>by exact QB.imm h1 U)) ?_;refine zC (zN ?_);refine zI ?_ ?_<;>intro hc9
  ·refine Qf ?_;refine zF Yq ?_;refine zL Qq ?_;refine zF K4 ?_;refine zV (Qd U Qq (fun hg=>by exact QB.imm h1 U)) ?_;refine zV (KB U U U) ?_;refine zF Yq ?_;refine zS ZD ?_;refine Qb ?_
   first
   | exact Y8 _ _ ⟨{x with bar:=IntKind.i64.wrap (x.bar+e.by_)},U,U,U,⟨U,U⟩⟩ (.cons U .nil) (by rw [<-zhT];exact .refl)
  refine Qo ?_;exact Y8 _ _ ⟨x,U,U,U,⟨U,U⟩⟩ (.cons U .nil) .refl
 rintro E I' loc' ⟨x2,rfl,rfl,rfl,hx2⟩;refine zR ?_;refine zV (Qk U QY (fun hg=>by exact Cells.g0) U) ?_;refine zpb [(0,_)] [Zk x2] VG (fun b_17=>?_);refine zA ?_;refine zA (zN (Qr ?_));exact Q9 U U U (fun w hw=>by obtain ⟨I9,k1,k2,k3⟩:=hw.freezeAll;exact ⟨_,I9,[],U,hIc.trans k1,k2,U,_,1,1,[x2],_,U,Sl.lit [x2] U Z8 (k3 _ _ (jk ..)),js _,fun z hz=>(by cases jA.1 hz;exact hx2),fun _ h _=>by cases h⟩)
theorem zyO (h1:Uq I b1 (.cells (X6 e).toArray 30 (0,0)))(x:Sg):ZQ Tryz.prog 105 [Yp x,QZ b1] I [] (zl0 (some e.sign.id) x):=by intro g H w hw;refine qe Tryz.func105 Tryz.ntmps105 hw ?_;have hIc:=zGN I;refine zR ?_;refine QG U U U (fun b_2=>?_);refine zA ?_;refine zA (zN (Ql ?_));have hD:=zGN I;refine KF mixed ?_;refine zT 0 U (Qk U QY (fun hg=>by exact Cells.g0) U) hD ?_;refine zT 2 U (Qe U Zb) hD ?_;refine zT 3 U (Qd U Qq (fun hg=>by exact QB.h0 U)) hD ?_;refine zT 4 U (Qe U Xe) hD ?_;refine zT 5 U (Qe U Zb) hD ?_;refine zT 6 U (Qd U Qq (fun hg=>by exact QB.imm h1 U)) hD ?_;refine zT 7 U (QI U U U) hD ?_;refine qd 1 U ?_;refine zpb [(0,_)] [Zk x] VG (fun b_6=>?_);refine Qb ?_;refine zD hD ?_;refine zT 8 U (QU U) hD ?_;refine zT 9 U (QU U) hD ?_;refine Qz kA ?_;refine QD ?_;refine Qa (Qr ?_);exact Q9 U U U (fun w hw=>by obtain ⟨I9,k1,k2,k3⟩:=hw.freezeAll;exact ⟨_,I9,[],U,hIc.trans k1,k2,U,_,1,1,[x],_,U,Sl.lit [x] U Z8 (k3 _ _ (jk ..)),js _,fun z hz=>(by cases jA.1 hz;exact ⟨U,U⟩),fun i h hg=>by cases h;simpa using hg⟩)
theorem zum (I:Qt)(e:Ed):ZQ Tryz.prog 96 [Y1 e] I [] (zek Tryz.prog (none)):=by intro g H w hw;refine qe Tryz.func96 Tryz.ntmps96 hw ?_;have hIc:=zGN I;refine zR ?_;refine QG U U U (fun b_1=>?_);refine zA (zN (Ql ?_));refine QQ .here (fun I1 hI1 hb1=>?_);have hIc:=hIc.trans hI1;have h1:=Uq.of hb1;refine Qf ?_;refine zV (QN (us:=[]) (vs:=[_]) U U) ?_;refine zA (zN (Qr ?_));exact QR U U (fun w hw=>⟨_,I1,[],U,hIc,hw.drop,U,97,[QZ b_1],U,zCT,fun I8 h8 x=>zwV (h1.mono h8) x⟩)
theorem zub (I:Qt)(e:Ed):ZQ Tryz.prog 100 [Y1 e] I [] (zek Tryz.prog (none)):=by intro g H w hw;refine qe Tryz.func100 Tryz.ntmps100 hw ?_;have hIc:=zGN I;refine zR ?_;refine QG U U U (fun b_1=>?_);refine zA (zN (Ql ?_));refine QQ .here (fun I1 hI1 hb1=>?_);have hIc:=hIc.trans hI1;have h1:=Uq.of hb1;refine Qf ?_;refine zV (QN (us:=[]) (vs:=[_]) U U) ?_;refine zA (zN (Qr ?_));exact QR U U (fun w hw=>⟨_,I1,[],U,hIc,hw.drop,U,101,[QZ b_1],U,zwh,fun I8 h8 x=>ztZ (h1.mono h8) x⟩)
theorem ztW (I:Qt)(e:Ed):ZQ Tryz.prog 104 [Y1 e] I [] (zek Tryz.prog (some e.sign.id)):=by intro g H w hw;refine qe Tryz.func104 Tryz.ntmps104 hw ?_;have hIc:=zGN I;refine zR ?_;refine QG U U U (fun b_1=>?_);refine zA (zN (Ql ?_));refine QQ .here (fun I1 hI1 hb1=>?_);have hIc:=hIc.trans hI1;have h1:=Uq.of hb1;refine Qf ?_;refine zV (QN (us:=[]) (vs:=[_]) U U) ?_;refine zA (zN (Qr ?_));exact QR U U (fun w hw=>⟨_,I1,[],U,hIc,hw.drop,U,105,[QZ b_1],U,zul,fun I8 h8 x=>zyO (h1.mono h8) x⟩)
theorem zxY (I:Qt)(e:Ed):ZQ Tryz.prog 87 [Y1 e] I [] (zek Tryz.prog none):=by intro g H w hw;refine qe Tryz.func87 Tryz.ntmps87 hw ?_;have hIc:=zGN I;refine zR ?_;refine QG U U U (fun b_1=>?_);refine zA ?_;refine zN (zR ?_);refine zV (Qk U YD (fun hg=>by exact zGL) U) ?_;refine zpc [_,_] U zhC .nil (zik I e zAO (fun I8 h8 b x=>zD1 b x)) ?_;rintro vv1 I1 L1 hI1 ⟨rfl,hW⟩;have hIc:=hIc.trans hI1;refine zA (zN (Qr ?_));exact QR U U (fun w hw=>⟨_,_,[],U,hIc,hw.drop,U,hW⟩)
theorem zvS (I:Qt)(e:Ed):ZQ Tryz.prog 93 [Y1 e] I [] (zek Tryz.prog none):=by intro g H w hw;refine qe Tryz.func93 Tryz.ntmps93 hw ?_;have hIc:=zGN I;refine zR ?_;refine QG U U U (fun b_1=>?_);refine zA (zN (Ql ?_));refine QQ .here (fun I1 hI1 hb1=>?_);have hIc:=hIc.trans hI1;have h1:=Uq.of hb1;refine Qf ?_;refine zV (Qk U YD (fun hg=>by exact Cells.immC h1) U) ?_;refine zV (QN (us:=[]) (vs:=[_]) U U) ?_;refine zpc [_,_] U zhC .nil (zik I1 e zDr (fun I8 h8 b x=>zEi (h1.mono h8) b x)) ?_;rintro vv2 I2 L2 hI2 ⟨rfl,hW⟩;have hIc:=hIc.trans hI2;refine zA (zN (Qr ?_));exact QR U U (fun w hw=>⟨_,_,[],U,hIc,hw.drop,U,hW⟩)
theorem zwl (I:Qt)(e:Ed):ZQ Tryz.prog 108 [Y1 e] I [] (zek Tryz.prog none):=by intro g H w hw;refine qe Tryz.func108 Tryz.ntmps108 hw ?_;have hIc:=zGN I;refine zR ?_;refine QG U U U (fun b_1=>?_);refine zA (zN (Ql ?_));refine QQ .here (fun I1 hI1 hb1=>?_);have hIc:=hIc.trans hI1;have h1:=Uq.of hb1;refine Qf ?_;refine zF VO ?_;refine zV (Qd U Qq (fun hg=>by exact QB.imm h1 U)) ?_;refine zF JP ?_;refine zV (Qd U Qq (fun hg=>by exact QB.imm h1 U)) ?_;refine zV (QC (ps:=[(3,_),(4,_)]) [_,_,_,_,_,_,_,_,_,_,_,_,_,_,_,_,_,_,_,_,_,_] ze1 U U) ?_;refine zV (QN (us:=[]) (vs:=[_]) U U) ?_;refine zpc [_,_] U zhC .nil (zik I1 {Xa with fr:=e.fr,to:=e.to} zvV (fun I8 h8 b x=>zEg (h1.mono h8) b x)) ?_;rintro vv2 I2 L2 hI2 ⟨rfl,hW⟩;have hIc:=hIc.trans hI2;refine zA (zN (Qr ?_));exact QR U U (fun w hw=>⟨_,_,[],U,hIc,hw.drop,U,hW⟩)
theorem zxD (I:Qt)(e:Ed):ZQ Tryz.prog 113 [Y1 e] I [] (zek Tryz.prog none):=by intro g H w hw;refine qe Tryz.func113 Tryz.ntmps113 hw ?_;have hIc:=zGN I;refine zR ?_;refine QG U U U (fun b_1=>?_);refine zA (zN (Ql ?_));refine QQ .here (fun I1 hI1 hb1=>?_);have hIc:=hIc.trans hI1;have h1:=Uq.of hb1;refine Qf ?_;refine zV (Qk U YD (fun hg=>by exact Cells.immC h1) U) ?_;refine zV (QN (us:=[]) (vs:=[_]) U U) ?_;refine zpc [_,_] U zhC .nil (zik I1 e zu5 (fun I8 h8 b x=>zFF (h1.mono h8) b x)) ?_;rintro vv2 I2 L2 hI2 ⟨rfl,hW⟩;have hIc:=hIc.trans hI2;refine zA (zN (Qr ?_));exact QR U U (fun w hw=>⟨_,_,[],U,hIc,hw.drop,U,hW⟩)
end
end Go.Proofs.YtmbjmjbjdgjonaaGreatDoor.R
