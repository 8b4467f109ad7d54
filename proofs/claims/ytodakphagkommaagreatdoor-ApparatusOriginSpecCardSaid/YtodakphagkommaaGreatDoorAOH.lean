/- apparatusOriginSpec_holds, part H of the proof: what its theorems say holds without further conditions. -/
import Derived.Test.YtodakphagkommaaGreatDoorAOG
namespace Go.Proofs.YtodakphagkommaaGreatDoor.R
section
open Go Go.Kn Go.Proofs
variable{I:Qu}{r1 r2 r3 n c:Nat}{av:Option Addr}{p:Pt}{ps:List Pt}
theorem zxl {b1 b2:Nat}(h1:I b1=some (.cells #[.map (some r1),.map (some r2),.map (some r3),.slice av n c] 159 (0,0)))(h2:I b2=some (.cells (Y5 p).toArray 57 (0,0)))(d:OnM I r1 ps)(q:Pt)(f:∃ z∈ps,z.id=q.id):kf 195 [Wd q,.pointer (some ⟨b1,0,none⟩),.pointer (some ⟨b2,0,none⟩)] I (.bool (onF ps q.id p.id)):=by
 intro g H w s;refine qe Tryz.func195 Tryz.ntmps195 s ?_;obtain ⟨m,h,i⟩:=d;obtain ⟨t,b,o,j,l⟩:=i.get f;refine zR<|QU U U U (fun r=>zA<|zN (zR<|zF zgn ?_))
 refine zV (Qc U zlV (fun hg=>by exact .imm h1 U))<|zF Zq ?_
 refine zL Qr<|zV (VF (m:=m) (ek:=Value.int .i64) (ev:=zfA) (a:=q.id) b We ZZ U U (fun _=>.inl h))<|zF Zq ?_
 refine zV (Qc U Qr (fun hg=>by exact .imm h2 U))<|zV (Y3 (m:=o) JP ZZ U U (fun _=>.inl j))<|zA (zN (Qq ?_))
 exact zr U U (by rw [show (ZR o p.id).getD false=onF ps q.id p.id from l.mem _])
def zIO (I:Qu)(r1 r2 r3:Nat)(av:Option Addr)(n c:Nat)(s f:Int)(b1 b2 b3:Nat):Prop:=I b1=some (.cells #[.map (some r1),.map (some r2),.map (some r3),.slice av n c] 159 (0,0))/\I b2=some (.cells #[.int .i64 s] 3 (0,0))/\I b3=some (.cells #[.int .i64 f] 3 (0,0))
theorem zst (I:Qu)(r1 r2 r3:Nat)(av:Option Addr)(n c:Nat)(s f:Int):kg 144 [stA r1 r2 r3 av n c,.int .i64 s,.int .i64 f] I [] (fun v M L=>L=[]/\∃ u x y,v= .func (.func 194) #[] [Zm u,Zm x,Zm y].toArray/\zIO M r1 r2 r3 av n c s f u x y):=by
 intro g H w t;refine qe Tryz.func144 Tryz.ntmps144 t ?_;have a:=zJH I;refine zR<|QU U U U (fun h=>QU U U U (fun i=>QU U U U (fun j=>zA (zN (Qk<|Zk .here (fun A l o=>?_))))))
 have a:=a.trans l;have h3:=o;refine Zk .here (fun B d q=>?_);have a:=a.trans d;have h2:=q;have h3:=d _ _ h3;refine Zk .here (fun z b r=>?_);have a:=a.trans b;have h1:=r;have h3:=b _ _ h3;have h2:=b _ _ h2;exact Qh<|zV (Zn (us:=[]) (vs:=[_,_,_]) U U)<|zA (zN (Qq<|Zc U U (fun w t=>⟨_,z,[],U,a,t.drop,U,h,i,j,U,h1,h2,h3⟩)))
variable{l:List Pt}{xs:List Sg}{s:Int}
theorem zwR       (hx : StQ I ps l xs r1 r2 r3 av n c) {f:Int} {b1 b2 b3 : Nat} (hcap : zIO I r1 r2 r3 av n c s f b1 b2 b3) : zGo Tryz.prog 194 [Zm b1, Zm b2, Zm b3] I Wd (JF (onF ps) l s f) := by
  rw [zDe];intro g y J Jx hY I0 H w h0 hJ hw;obtain ⟨h1, h2, h3⟩ := hcap;have hx := hx.mono h0;have h1 := h0 _ _ h1; have h2 := h0 _ _ h2; have h3 := h0 _ _ h3;refine qe Tryz.func194 Tryz.ntmps194 hw ?_;obtain ⟨ms, hms, hset⟩ := hx.set;obtain ⟨av2, W, hv2, hS2⟩ := hset (s, f);dsimp only at hv2 hS2;have hln := Nat.le_trans (zaj (l := l) (s := s) (f := f)) hx.fewl;refine zR<|zF zcu ?_
  refine zV (Qc rfl zh5 (fun hg => by exact QO.imm h1 rfl))<|zV (Qc rfl Qr (fun hg => by exact QO.imm h2 rfl))<|zV (Qc rfl Qr (fun hg => by exact QO.imm h3 rfl))<|zV (Zw (ps := [(0, _), (1, _)]) [_, _] Yx K4 rfl rfl)<|zV (Vs (m := ms) (ek := VE) (a := (s, f)) hv2 ziz zfN rfl rfl (fun _ => .inl hms))<|zA<|zN (zR ?_)
  refine zM ?_;refine zQ QV ?_;refine zM (zN (Ql<|zhQ (fun m E M H' loc' => ∃ (k : Nat), m = (stF l s f).length - k /\ E = [(0, .func (.yield y) #[] #[]), (1, Zm b1), (5, .slice av2 (stF l s f).length W), (14, .slice av2 (stF l s f).length W), (15, .int .i64 (stF l s f).length), (16, .int .i64 k)] /\ loc' = [] /\ HLe I0 M /\ k <= (stF l s f).length /\ J (((stF l s f).take k).filter (zgm (onF ps) (stF l s f))) M H') _ _ _ ⟨0, rfl, rfl, rfl, zJH _, Nat.zero_le _, hJ⟩ (.cons rfl (.cons rfl (.cons rfl (.cons rfl (.cons rfl (.cons rfl .nil)))))) rfl ?_));rintro m E M H' loc' ⟨k, rfl, rfl, rfl, hI1, hk, hJk⟩;have hS2 := hS2.mono hI1;have hx := hx.mono hI1;have h1 := hI1 _ _ h1;have hI0 := h0.trans hI1;refine zR (zC (zN (Qk ?_)));refine zI ?_ ?_ <;> intro hc17
  · skip
    have hlt : k < (stF l s f).length := (by simpa using hc17);obtain ⟨p, hp⟩ := hS2.at hlt;refine Qm (Qa (Qk (Ql (zR<|zV (Qs rfl rfl QV kE (fun hg => by omega))<|zV (Qo rfl YH (fun hg => by exact zJI hS2 hp) rfl)<|Qv WP rfl rfl (fun b_7 => ?_)))));refine zh Km<|zN (Qk ?_)
    have hpc : ∀ {b : Bool} {G : Env}, ZH [(b, G)] = true -> b = zgm (onF ps) (stF l s f) p -> zgm (onF ps) (stF l s f) p = true := fun h e => (by rw [<- e]; simpa [ZH] using h);refine Qh (zM<|zV (Zn (us := []) (vs := [_, _]) rfl rfl)<|XF (cap := []) (vs := [_, _]) rfl rfl zh2 Zp (zk6.ofV fun M hI' hL' => zDB (cap := [.pointer (some ⟨b1, 0, none⟩), .pointer (some ⟨b_7, 0, none⟩)]) (SlP.mono ⟨hS2, fun p hp => hx.nd p (hx.sub p (KD.1 hp).1)⟩ hI') kB zxK (fun q hq => zxl (b1 := b1) (b2 := b_7) (r1 := r1) (r2 := r2) (r3 := r3) (av := av) (n := n) (c := c) (p := p) (hI' _ _ h1) (hL' b_7 _ kJ) (hx.on.mono hI') q ⟨q, hx.sub q (KD.1 hq).1, rfl⟩)) rfl rfl<|zO<|zM ?_);refine Qw 4 rfl rfl rfl ?_;refine zK (Qd rfl)<|zK (Qo rfl YH (fun hg => by exact Cells.g0) rfl)<|zgW (vs := [_]) (Post := fun b I2 H2 => if b then J (((stF l s f).take k).filter (zgm (onF ps) (stF l s f)) ++ [p]) I2 H2 else Jx (((stF l s f).take k).filter (zgm (onF ps) (stF l s f)) ++ [p]) I2 H2) rfl rfl (.some rfl rfl rfl rfl gbt) rfl rfl (fun hcj => hY _ p _ _ (zhz hp (hpc hcj rfl)) hI0 hJk) ?_
    rintro b I2 H2 hI2 hyes hno;refine zK (ZT rfl)<|QC rfl rfl rfl rfl rfl<|zN ?_
    refine zI ?_ ?_ <;> intro hc29
    · skip
      refine Qq (Qn (Qb (Qb (Qn ?_))))
      first
      | (exact VQ rfl (fun w hw => ⟨_, I2, H2, rfl, hI1.trans hI2, hw.drop, .inr ⟨_, zhz hp (show zgm (onF ps) (stF l s f) p = true from ((Bool.and_eq_true _ _).mp (show (zgm (onF ps) (stF l s f) p && !b) = true from hc29)).1), by have hc : (zgm (onF ps) (stF l s f) p && !b) = true := hc29; rw [Bool.and_eq_true, Bool.not_eq_true'] at hc; have h9 := hyes (show ZH [(zgm (onF ps) (stF l s f) p, _)] = true from by rw [hc.1]; rfl); rw [hc.2] at h9; exact h9⟩⟩))
    · skip
      refine Qm (Qg (Qa (Qh (zB<|zM (Qe ?_)))));have hyes := fun (e : zgm (onF ps) (stF l s f) p = true) => hyes (show ZH [(zgm (onF ps) (stF l s f) p, _)] = true from by rw [e]; rfl);have hno := fun (e : zgm (onF ps) (stF l s f) p = false) => hno (show ZH [(zgm (onF ps) (stF l s f) p, _)] = false from by rw [e]; rfl);have hc : (zgm (onF ps) (stF l s f) p && !b) = false := hc29
      have hJ2 : J (((stF l s f).take (k + 1)).filter (zgm (onF ps) (stF l s f))) I2 H2 := by
        cases hA : zgm (onF ps) (stF l s f) p with
        | true => rw [Wc hp hA]; rw [hA] at hc; have hb : b = true := by simpa using hc
                  subst hb; exact hyes hA
        | false => rw [za1 hp hA]; obtain ⟨e1, e2⟩ := hno hA; rw [e1, e2]; exact hJk
      exact zbA rfl rfl rfl _ [] ⟨(stF l s f).length - (k + 1), by omega, k + 1, rfl, rfl, rfl, hI1.trans hI2, by omega, hJ2⟩ (.cons rfl (.cons rfl (.cons rfl (.cons rfl (.cons rfl (.cons rfl .nil)))))) (.drop .refl)
  · skip
    have hge : (stF l s f).length <= k := (by simpa using hc17);refine Qy (Qf (Qf (Qj ?_)))
    first
    | (exact JO (VQ rfl (fun w hw => ⟨_, M, H', rfl, hI1, hw, .inl (by rw [QZ rfl hge] at hJk; exact hJk)⟩)))
variable{α:Type}{C:Cx}{E:Env}{D:Nat}{Jc:List α->Qu->Go.Kn.Loc->Prop}{Jx:Code->List α->Qu->Go.Kn.Loc->Prop}
theorem zcY {b a:Go.Kn.Loc}{d:List α}(h:Jx (.exit D) d I a)(Y:UR a b):At C (zdx C.g C.H Jc Jx d) (.exit D) E I b:=fun _ _ _ f=>⟨I,a,h,f.subL Y⟩
theorem zH7 (I:Qu)(b:Nat)(x:Sg)(f:Int)(y:Sg)(F:isF f):kg 145 [Zm b,.int .i64 f,VD y] I [(b,.cells (YA x).toArray 54 (0,0))] (fun v M L=>v= .tuple #[]/\M=I/\L=[(b,.cells (YA (Jk x f y)).toArray 54 (0,0))]):=by
 intro g H w d;refine qe Tryz.func145 Tryz.ntmps145 d ?_;refine zR<|QU U U U (fun B=>zN (zR ?_))
 refine zM (zN (Ql (zR<|zC<|zA (zN ?_))));refine zI ?_ ?_<;>intro A
 ·have a:f=1:=(by simpa using A);subst a;refine Qh (zM<|zF Vm ?_);refine zL Qr<|zV (Q9 U)<|zF Vm ?_
  refine zS ZO ?_;exact Qe (Qg<|JO (VQ U (fun w d=>⟨_,I,_,U,zJH _,d.subL (.drop .refl),U,U,U⟩)))
 have G:f≠1:=(by simpa using A);refine zR (zC<|zA (zN ?_));refine zI ?_ ?_<;>intro i
 ·have a:f=2:=(by simpa using i);subst a;refine Qh (zM<|zF Vn ?_);refine zL Qr<|zV (Q9 U)<|zF Vn ?_
  refine zS ZO ?_;exact Qe (Qg<|JO (VQ U (fun w d=>⟨_,I,_,U,zJH _,d.subL (.drop .refl),U,U,U⟩)))
 have J:f≠2:=(by simpa using i);refine zR (zC<|zA (zN ?_));refine zI ?_ ?_<;>intro j
 ·have a:f=3:=(by simpa using j);subst a;refine Qh (zM<|zF YP ?_);refine zL Qr<|zV (Q9 U)<|zF YP ?_
  refine zS ZO ?_;exact Qe (Qg<|JO (VQ U (fun w d=>⟨_,I,_,U,zJH _,d.subL (.drop .refl),U,U,U⟩)))
 have K:f≠3:=(by simpa using j);refine zR (zC<|zA (zN ?_));refine zI ?_ ?_<;>intro o
 ·have a:f=4:=(by simpa using o);subst a;refine Qh (zM<|zF Vr ?_);refine zL Qr<|zV (Q9 U)<|zF Vr ?_
  refine zS ZO ?_;exact Qe (Qg<|JO (VQ U (fun w d=>⟨_,I,_,U,zJH _,d.subL (.drop .refl),U,U,U⟩)))
 have N:f≠4:=(by simpa using o);refine zR (zC<|zA (zN ?_));refine zI ?_ ?_<;>intro q
 ·have a:f=5:=(by simpa using q);subst a;refine Qh (zM<|zF Vq ?_);refine zL Qr<|zV (Q9 U)<|zF Vq ?_
  refine zS ZO ?_;exact Qe (Qg<|JO (VQ U (fun w d=>⟨_,I,_,U,zJH _,d.subL (.drop .refl),U,U,U⟩)))
 have O:f≠5:=(by simpa using q);refine zR (zC<|zA (zN ?_));refine zI ?_ ?_<;>intro r
 ·have a:f=6:=(by simpa using r);subst a;refine Qh (zM<|zF Vj ?_);refine zL Qr<|zV (Q9 U)<|zF Vj ?_
  refine zS ZO ?_;exact Qe (Qg<|JO (VQ U (fun w d=>⟨_,I,_,U,zJH _,d.subL (.drop .refl),U,U,U⟩)))
 have P:f≠6:=(by simpa using r);refine zR (zC<|zA (zN ?_));refine zI ?_ ?_<;>intro t
 ·have a:f=7:=(by simpa using t);subst a;refine Qh (zM<|zF Vo ?_);refine zL Qr<|zV (Q9 U)<|zF Vo ?_
  refine zS ZO ?_;exact Qe (Qg<|JO (VQ U (fun w d=>⟨_,I,_,U,zJH _,d.subL (.drop .refl),U,U,U⟩)))
 have Q:f≠7:=(by simpa using t);refine zR (zC<|zA (zN ?_));refine zI ?_ ?_<;>intro u
 ·have a:f=8:=(by simpa using u);subst a;refine Qh (zM<|zF Vl ?_);refine zL Qr<|zV (Q9 U)<|zF Vl ?_
  refine zS ZO ?_;exact Qe (Qg<|JO (VQ U (fun w d=>⟨_,I,_,U,zJH _,d.subL (.drop .refl),U,U,U⟩)))
 have T:f≠8:=(by simpa using u);refine zR (zC<|zA (zN ?_));refine zI ?_ ?_<;>intro z
 ·have a:f=9:=(by simpa using z);subst a;have h:=zJH I;refine VR<|ZM I [(B,.cells (VD y).cells 54 (0,0))] mixed<|zT 0 U (Qd U) h<|zT 1 U (Qd U) h<|zT 2 U (Qi U Yy) h<|zT 3 U (Qo U Ys (fun hg=>by exact Cells.s0 (vs:=[_,_]) U) U) h<|zT 4 U (Qi U Yz) h<|zT 5 U (Qo U Ys (fun hg=>by exact Cells.s0 (vs:=[_,_]) U) U) h<|zT 6 U (Q9 U) h<|zT 7 U (Qi U Yy) h<|qd 8 U<|YW U U UP U U U U (by repeat (first | exact Upd.here | apply Upd.there | apply QN)) ?_
  exact Qe<|zD h<|zT 9 U (Q9 U) h<|zT 10 U (Qi U Yz) h<|qd 11 U<|YW U U UP U U U U (by repeat (first | exact Upd.here | apply Upd.there | apply QN))<|Qe<|zD h<|QH kA<|QP<|Qg<|JO (VQ U (fun w d=>⟨_,I,_,U,zJH _,d.subL (.drop .refl),U,U,U⟩))
 have V:f≠9:=(by simpa using z);refine Qm<|Qg ?_
 first
 | (exfalso;unfold isF at F;omega)
def exL (on:Int->Int->Bool)(l:List Pt)(xs:List Sg):List Sg:=(xs.filter fun x=>exB on l x.id).map (zcU on l)
variable{on:Int->Int->Bool}{k:Nat}{x:Sg}
theorem zvz (a:xs[k]? =some x)(h:exB on l x.id=true):exL on l (xs.take (k+1))=exL on l (xs.take k)++[zcU on l x]:=by unfold exL;rw [Z0 a,jH,Oc,jb h];simp
theorem zCw (a:xs[k]? =some x)(h:exB on l x.id=false):exL on l (xs.take (k+1))=exL on l (xs.take k):=by unfold exL;rw [Z0 a,jH,Oc,ja (by rw [h];exact O7)];simp
theorem zlP :exL on l (xs.take 0)=[]:=by unfold exL;simp
def exE (on:Int->Int->Bool)(l:List Pt)(xs:List Sg):Int:=if (exL on l xs).length>4096 then 2 else 0
def zkw (e:Int)(xs:List Sg):Value->Qu->Go.Kn.Loc->Prop:=fun v M L=>L=[]/\∃ av c,v= .tuple #[.slice av xs.length c,.int .i64 e]/\Sl M 14 YA av xs.length c xs
variable{e:Int}
theorem zkw.empty (h:xs=[]):zkw e xs (.tuple #[.slice none 0 0,.int .i64 e]) I []:=by subst h;exact ⟨U,none,0,U,.nil⟩
theorem zkw.good {a:Int}{O:List Sg}(h:e=a)(f:O=xs)(b:Sl I 14 YA av n c O):zkw a xs (.tuple #[.slice av n c,.int .i64 e]) I []:=by subst h;subst f;have d:=b.len;subst d;exact ⟨U,av,c,U,b⟩
theorem ziK {f:Int}(h:l=[]):zkR x f l=x:=by subst h;rfl
theorem ztr {f:Int}(h:[p]<+:l):zkR x f l=Jk x f p.nw:=by obtain ⟨t,rfl⟩:=h;rfl
theorem zbw {y:Sg}(a:y=zej on l x k):zkR y ((k:Int)+1) (JF on l y.id ((k:Int)+1))=zej on l x (k+1):=by subst a;rw [zbO,(zem k).1]
theorem zIf (h:k<9):isF ((k:Int)+1):=by unfold isF;omega
theorem zfY :x=zej on l x 0:=rfl
variable{N:List Sg}{ws:List Int}
theorem zpe (h:KM ps N ws≠0):za3 ps N ws=KM ps N ws:=by unfold za3;rw [jb h]
theorem zvN (h:KM ps N ws=0):za3 ps N ws=exE (onF ps) (Zi ps ws) (Ul N (Zi ps ws)):=by unfold za3;rw [ja kB];rfl
theorem zo0 (h:KM ps N ws=0):JL ps=0:=by
 by_cases h2:JL ps=0
 ·exact h2
 ·rw [zp4 h2] at h;exact h
theorem zGW (h:KM ps N ws=0):Kg N=0:=by
 by_cases h2:Kg N=0
 ·exact h2
 ·rw [zpW (zo0 h) h2] at h;exact h
theorem zEf (h:KM ps N ws=0):∀ p∈Zi ps ws,zxR p:=fun p a=>(Wo (zo0 h)).ok p (Yo.1 a).1
theorem zsP (N:List Sg)(l:List Pt):(Ul N l).length<=N.length+l.length:=by have h:=(zeo l N).length_eq;rw [h,jj];unfold zeQ;rw [ju];have:=jE (fun p:Pt=>p.kind==2) l;omega
theorem zo4 (u:StQ I ps l xs r1 r2 r3 av n c)(hn:n<=100000)(c2:∀ p∈l,zxR p):kg 84 [stA r1 r2 r3 av n c] I [] (zkw (exE (onF ps) l xs) (zjE (exE (onF ps) l xs) (exL (onF ps) l xs))):=by
 intro g H w hw;refine zhn Tryz.func84 U Tryz.ntmps84 U hw ?_;have B:=zJH I;refine zR<|QU U U U (fun d=>zA<|zA (zN (Qk (Qk<|Xh ((d,.cells #[.map (some r1),.map (some r2),.map (some r3),.slice av n c] 159 (0,0))::([]++MB _)) .refl<|Qh<|zF X2 ?_))))
 refine zL zdy<|zQ Z7 ?_
 refine zM (zN (Ql<|WZ [(1,_),(9,_),(10,_)] kc (fun T L0 mz ms E M b=>∃ (j:Nat) (v:Value) (q:Nat) (L:Go.Kn.Loc),mz=n-j/\E=(2,v)::(11,.int .i64 j)::T/\HLe I M/\(d,.cells #[.map (some r1),.map (some r2),.map (some r3),.slice av n c] 159 (0,0))::(L++MB ms)=b/\j<=n/\OwnS 54 14 v q ((exL (onF ps) l (xs.take j)).flatMap YA) L/\q<=j) _ _ _ _ ⟨0,_,0,[],U,U,zJH _,U,jd _,by rw [zlP];exact OwnS.nil,jn _⟩ kc (zJH _) U ?_));rintro mz ms E J1 b ⟨j,v,q,L,rfl,rfl,Y,rfl,hj,Z,hq⟩;have u:=u.mono Y;have B:=B.trans Y;have z:=Y;refine zR<|zC<|zN<|Qk ?_;refine zI ?_ ?_<;>intro G
 ·have a2:j<n:=kd G;have hS:=u.sg;obtain ⟨x,a4⟩:=hS.at a2;refine Qm (Qa (Qk (Ql (zR<|zV (Qs U U Z7 kE (fun hg=>kB))<|zV (Qo U QQ (fun hg=>by exact zJI hS a4) U)<|Qv Kc U U (fun i=>?_)))));refine zh Zy ?_;refine zN<|Qk<|zR ?_;refine zV (Qo U Ju (fun hg=>by exact Cells.g1) U) ?_;refine zF Zu ?_;refine zL Qr<|qcV (vs:=[_,_]) U zxD (zq4 u c2 _)<|zO (zN ?_)
  refine zI ?_ ?_<;>intro J
  ·have a0:=(jZ _).mp J;refine Qy (Qf (Qj (Qa (Qh (zB<|zM (Qe ?_))))))
   first
   | exact zd (h:=⟨n-(j+1),kB,j+1,_,_,_,U,U,z,U,kB,by rw [zCw a4 a0];exact Z,kB⟩)
  have a0:=(OC _).mp J;refine Qm (Qa (Qk (zR<|Qv zE7 U U (fun a5=>?_))));refine zS ZO<|zN (Ql<|WZ [(1,_),(2,_),(5,_),(9,_),(10,_),(11,_)] kc (fun T L0 mz ms E M b=>∃ (k:Nat) (F:Nat) (y:Sg),mz=9-k/\E=(6,Zm F)::T/\HLe J1 M/\(F,.cells #[.int .i64 ((k:Int)+1)] 3 (0,0))::(i,.cells (YA y).toArray 54 (0,0))::(d,.cells #[.map (some r1),.map (some r2),.map (some r3),.slice av n c] 159 (0,0))::(L++MB ms)=b/\k<=9/\y=zej (onF ps) l x k) _ _ _ _ ⟨0,a5,x,U,U,zJH _,U,jd _,zfY⟩ kc (zJH _) U ?_)
  rintro mz ms E J2 b ⟨k,F,y,rfl,rfl,Y,rfl,hk,hy⟩;have u:=u.mono Y;have z:=z.trans Y;have o:=Y;refine Qk (zR<|zL Qr<|zC (zN ?_));refine zI ?_ ?_<;>intro O
  ·have a3:k<9:=kd O;refine Qm (Qa (Qk (Ql (zR<|zV (Qo U Ju (fun hg=>by exact Cells.g2) U) ?_))));refine zF Zu ?_;refine zL Qr<|zL Qr<|zpc [_,_,_] U zyV .nil (zst _ _ _ _ _ _ _ _ _) ?_
   rintro c7 I3 L3 a6 ⟨rfl,c1,W,c3,rfl,a8⟩;have u:=u.mono a6;have o:=o.trans a6;refine zN<|Ql ?_;refine zaR (K:=[]) (L:=(F,.cells #[.int .i64 ((k:Int)+1)] 3 (0,0))::(i,.cells (YA y).toArray 54 (0,0))::(d,.cells #[.map (some r1),.map (some r2),.map (some r3),.slice av n c] 159 (0,0))::L) (enc:=Wd) (xs:=JF (onF ps) l y.id ((k:Int)+1)) (fun f M b=>f=[]/\b=(F,.cells #[.int .i64 ((k:Int)+1)] 3 (0,0))::(i,.cells (YA y).toArray 54 (0,0))::(d,.cells #[.map (some r1),.map (some r2),.map (some r3),.slice av n c] 159 (0,0))::L) (fun cd f M b=>cd= .exit 4/\∃ p,f=[p]/\b=(i,.cells (YA (Jk y ((k:Int)+1) p.nw)).toArray 54 (0,0))::(F,.cells #[.int .i64 ((k:Int)+1)] 3 (0,0))::(d,.cells #[.map (some r1),.map (some r2),.map (some r3),.slice av n c] 159 (0,0))::L) (fun f p E2 I2 V=>∃ b7:Nat,E2=[(5,Zm i),(6,Zm F),(7,Zm b7)]/\f=[]/\V=(b7,.cells (Y5 p).toArray 57 (0,0))::(F,.cells #[.int .i64 ((k:Int)+1)] 3 (0,0))::(i,.cells (YA y).toArray 54 (0,0))::(d,.cells #[.map (some r1),.map (some r2),.map (some r3),.slice av n c] 159 (0,0))::L) U zAO (zwR u a8) U ⟨U,U⟩ ?_ ?_ ?_ ?_
   ·rintro l9 f p I1 Q H1 t A ⟨rfl,rfl⟩;refine Qh<|Qv WP U U (fun b2=>?_)
    exact zh Km<|Qe<|zfd _ ⟨zJH _,b2,U,U,U⟩ kc
   ·rintro l9 f p E2 I2 V H2 t c5 ⟨b7,rfl,rfl,rfl⟩;refine Ql (zR<|zL Qr<|zF Yr ?_);refine zV (Qo U QQ (fun hg=>by exact Cells.s0 (vs:=[_,_,_,_,_,_,_,_,_,_,_,_,_,_]) U) U)<|zpc [_,_,_] U zz8 (by repeat (first | exact .cons .here .nil | exact Zp | exact Q6 | apply ZC | apply Zz)) (zH7 _ i y _ p.nw (zIf a3)) ?_
    rintro c8 I4 L4 c6 ⟨rfl,rfl,rfl⟩;refine zN (Qy<|zdY U ?_);exact zcY ⟨zJH _,U,p,U,U⟩ kP
   focus
    rintro bd I1 Q A ⟨b0,rfl⟩;have o:=o.trans A;have b1:y=zej (onF ps) l x (k+1):=(by rw [<-zbw hy,ziK b0]);refine Qg<|Qg<|Qa<|Qk<|zR ?_
   rotate_left
   rintro cd bd f I1 Q A t ⟨rfl,p,rfl,rfl⟩;have o:=o.trans A;have b1:(Jk y ((k:Int)+1) p.nw)=zej (onF ps) l x (k+1):=(by rw [<-zbw hy,ztr t]);refine Qy<|Qj<|Qg<|Qa<|Qk<|zR ?_
   all_goals
    refine zL Qr<|zN (Qh<|Qv zE7 U U (fun a5=>?_))
    refine zS ZO ?_;refine zN<|Qh ?_;refine zL Qr ?_;refine zB<|zS ZO ?_
    exact Qe<|zn (h:=⟨9-(k+1),kB,k+1,_,_,U,U,o,U,kB,b1⟩)
  have b9:9<=k:=kd O;have c0:k=9:=kB;subst c0;have hy:y=zcU (onF ps) l x:=hy;subst hy;refine Qy (Qf (Qf (Qj (Qa (Qh (zM<|zV (Qo U QQ (fun hg=>by exact Cells.g1) U)<|zpb [(0,_)] [YA (zcU (onF ps) l x)] Vy (fun c4=>?_)))))));refine zpa (_) ([zcU (onF ps) l x].flatMap YA) (L) U U Vy Z ⟨U,fun _=>U,zJF⟩ (zcW [zcU (onF ps) l x]) ?_;intro v9 L9 a7 _;rw [<-jh] at a7;refine zA (Qe (Qg (Qa (Qh<|zB<|zM (Qe ?_)))))
  first
  | exact ztf U U U _ _ (L9++((d,_)::MB _)) ⟨n-(j+1),kB,j+1,v9,_,L9,U,U,z,U,kB,by rw [zvz a4 a0];exact a7,kB⟩ kc AA.symm kH
 have a1:n<=j:=kd G;obtain ⟨va,vc,rfl⟩:=zaV Z;rw [jr (by rw [u.sg.len];exact a1)] at Z;refine Qy (Qf (Qf (Qj (Qa (Qk (zR (zM<|zQ Z7<|zC (zN ?_))))))));refine zI ?_ ?_<;>intro P
 ·have r:exE (onF ps) l xs=2:=(by unfold exE;rw [jb];have h1:=Z.1;rw [ZF Yp] at h1;simp at P;omega);refine zR (zA<|zA (zN (Qq (Qb ?_))))
  first
  | exact Wz (L:=_::L) (fun a ha w hw=>zFS U U U a ha w) (fun w hw=>⟨_,J1,[],U,B,hw.drop,by rw [r];exact zkw.empty U⟩)
 have r:exE (onF ps) l xs=0:=(by unfold exE;rw [ja];have h1:=Z.1;rw [ZF Yp] at h1;simp at P;omega);refine Qm (Qa (zR (zM<|zA<|zA (zN (Qq ?_)))))
 first
 | exact Wz (L:=_::L) (fun a ha w hw=>zFS U U U a ha w) (fun w hw=>by obtain ⟨I9,b3,b4,b5⟩:=OwnS.res Z Yp kC (hw.subL (.drop .refl));obtain ⟨_,a9,c9,e9,b8⟩:=b5;cases e9;exact ⟨_,I9,[],U,B.trans b3,b4,by rw [r];exact zkw.good U U b8⟩)
variable{Z dv:Option Addr}{V W n3 c3:Nat}
theorem w_Signs (B:SlP I av n c ps)(G:n<=100000)(A:Sl I 14 YA Z V W N)(j:V<=100000)(F:Sl I 1 QF dv n3 c3 ws)(o:n3<=100000):kg 45 [.slice av n c,.slice Z V W,.slice dv n3 c3] I [] (zkw (za3 ps N ws) (zfx ps N ws)):=by
 intro g H w f;refine qe Tryz.func45 Tryz.ntmps45 f ?_;have a:=zJH I;refine zR (zA<|zA<|zN (zR ?_));refine zM ?_;refine zM ?_;refine zM<|zpc [_,_,_] U zF5 .nil (zD2 B G A j F o) ?_
 rintro M t P h ⟨rfl,m1,m2,m3,T,K,c9,rfl,q⟩;have a:=a.trans h;refine zM ?_;refine zE ?_;refine zE ?_;refine Qv zvj U U (fun z=>?_);refine zh Xd ?_;refine zA<|zN<|Qk<|zR ?_;refine zM<|zC (zN ?_)
 refine zI ?_ ?_<;>intro b
 ·have d:KM ps N ws≠0:=(by simpa using b);refine zR (zM<|zA<|zA (zN (Qq (Qb ?_))))
  first
  | exact QY U U U (fun w f=>⟨_,t,[],U,a,f.drop,by unfold zfx;rw [zpe d];exact zkw.empty (VJ d)⟩)
 have d:KM ps N ws=0:=(by simpa using b);obtain ⟨r1,r2,r3,rfl,rfl,rfl,r⟩:=q d;have J:K<=5000:=(by have h1:=r.sg.len;have h2:=zsP N (Zi ps ws);have h3:=r.fewl;have h4:=(zhR (zGW d)).1;omega);refine Qm (Qa (zR<|zV (Qo U Ju (fun hg=>by exact Cells.g0) U)<|zpc [_] U zFE .nil (zo4 r kB (zEf d)) ?_));rintro O u Q i ⟨rfl,y,Y,rfl,hR⟩;have a:=a.trans i;refine zE ?_;refine zE ?_;refine zA<|zA (zN (Qq ?_))
 first
 | exact QY U U U (fun w f=>⟨_,u,[],U,a,f.drop,zkw.good (zvN d).symm (by unfold zfx;rw [zvN d];rfl) hR⟩)
def CsQ (I:Qu)(cs:List Cf)(K:List Ck):Prop:=(∀ z∈cs,Sl I 1 QF z.a z.n z.c z.ids)/\cs.map Cf.key=K
variable{M:Qu}{cs:List Cf}{K:List Ck}
theorem CsQ.mono (h:CsQ I cs K)(a:HLe I M):CsQ M cs K:=⟨fun z b=>(h.1 z b).mono a,h.2⟩
theorem CsQ.nil :CsQ I [] []:=⟨fun z a=>(by cases a),U⟩
variable{z:Cf}
theorem CsQ.snoc (h:CsQ I cs K)(d:Sl I 1 QF z.a z.n z.c z.ids):CsQ I (cs++[z]) (K++[z.key]):=by
 refine ⟨fun y b=>?_,by rw [Od,h.2];rfl⟩;rcases jC.1 b with b | b
 ·exact h.1 y b
 ·simp at b;subst b;exact d
theorem CsQ.congr {a:List Ck}(h:CsQ I cs K)(e:K=a):CsQ I cs a:=e ▸ h
structure MvQ (m:List (Sg×Bool))(pre:List Pt):Prop where
 nodup:(m.map (·.1)).Nodup
 mem:∀ x,x∈m.map (·.1)↔ ∃ p∈pre,p.nw=x
theorem MvQ.nil:MvQ [] []:=⟨.nil,fun x=>by simp⟩
variable{pre:List Pt}
theorem MvQ.put {m:List (Sg×Bool)}(h:MvQ m pre)(p:Pt):MvQ (Vd m p.nw true) (pre++[p]):=by
 refine ⟨WD _ _ h.nodup,fun x=>?_⟩;rw [Ug];split
 ·rename_i h2;rw [h.mem];constructor
  ·rintro ⟨q,a,e⟩;exact ⟨q,by simp [a],e⟩
  ·rintro ⟨q,a,e⟩;rcases jC.1 a with a | a
   ·exact ⟨q,a,e⟩
   ·simp at a;subst a;rw [h.mem] at h2;rw [e] at h2;exact h2
 ·rw [jC,h.mem];constructor
  ·rintro (⟨q,a,e⟩ | h3)
   ·exact ⟨q,by simp [a],e⟩
   ·simp at h3;exact ⟨p,by simp,h3.symm⟩
  ·rintro ⟨q,a,e⟩;rcases jC.1 a with a | a
   ·exact .inl ⟨q,a,e⟩
   ·simp at a;subst a;exact .inr (by simp [e])
def zIX (e:Int)(K:List Ck):Value->Qu->Go.Kn.Loc->Prop:=fun v M L=>L=[]/\∃ cs av c,v= .tuple #[.slice av cs.length c,.int .i64 e]/\SlC M av cs.length c cs/\cs.map Cf.key=K
theorem zIX.empty (h:K=[]):zIX e K (.tuple #[.slice none 0 0,.int .i64 e]) I []:=by subst h;exact ⟨U,[],none,0,U,⟨.nil,fun z a=>by cases a⟩,U⟩
variable{O:List Int}
theorem zzO {xs:List Int}(j:Sl I 1 QF av n c xs)(P:n<=100000)(o:Sl I 1 QF Z V W O):kf 186 [.slice av n c,.slice Z V W] I (.bool (ziH xs O)):=by
 intro g H w G;refine qe Tryz.func186 Tryz.ntmps186 G ?_;refine zR<|zA<|zN<|Qk<|zR ?_;refine zM ?_;refine zQ Qt ?_;refine zM ?_;refine zQ Qt<|zC (zN ?_)
 refine zI ?_ ?_<;>intro a
 ·refine zR<|zA<|zN<|Qq<|Qb ?_
  first
  | exact zr U U (by rw [zrJ j.len o.len (by simp at a;omega)])
 have F:n=V:=(by simp at a;omega);refine Qm (Qa (Qk (zR (zA (zN (Ql<|zU [(0,_),(1,_)] (fun T B A E M f=>∃ (k:Nat),A=n-k/\E=(5,.int .i64 k)::T/\I=M/\B=f/\k<=n/\xs.take k=O.take k) ?_ (h:=⟨0,U,U,U,U,jd _,U⟩)))))));rintro A E M f ⟨k,rfl,rfl,rfl,rfl,J,q⟩;refine Qk (zR (zM<|zM ?_));refine zQ Qt<|zC (zN ?_)
 refine zI ?_ ?_<;>intro b
 ·have i:k<n:=kd b;obtain ⟨x,t⟩:=j.at i;obtain ⟨y,u⟩:=o.at (show k<V by omega);refine Qm (Qa (Qk (Ql (Qk<|ZW mixed kA<|zq (Qd U)<|zq (Qd U)<|zq (Qs U U Qt kE (fun hg=>kB))<|zq (Qc U Qr (fun hg=>by exact zJA j t U))<|zq (Qd U)<|zq (Qd U)<|zq (Qs U U Qt kE (fun hg=>kB))<|zq (Qc U Qr (fun hg=>by exact zJA o u U))<|zq (Qx U U U)<|ZX ?_))));refine Qa ?_;refine zI ?_ ?_<;>intro d
  ·exact zR (zA (zN (Qq (Qn (Qb (Qb (Qn<|Qb<|zr U U (by rw [zzY t u (by simpa using d)]))))))))
  refine Qm<|Qg<|Qa<|Qh<|zM ?_;exact zB<|zA (Qe<|zm (h:=⟨n-(k+1),kB,k+1,U,U,U,U,kB,zpr t u q (by simpa using d)⟩))
 have r:n<=k:=kd b;refine Qy (Qf (Qf (Qj (Qa (zR (zA (zN<|Qq ?_)))))))
 first
 | exact zr U U (by rw [QZ j.len kB,QZ o.len kB] at q;rw [q,znP])
theorem zgq (t:Int):xs.take (zly Sg.id xs t)=xs.takeWhile (fun x=>decide (x.id<t))/\xs.drop (zly Sg.id xs t)=xs.dropWhile (fun x=>decide (x.id<t)):=by have h:=O1 (p:=fun x:Sg=>decide (x.id<t)) (l:=xs);have e:zly Sg.id xs t=(xs.takeWhile fun x=>decide (x.id<t)).length:=rfl;have h1:=A6 (l₁:=xs.takeWhile fun x:Sg=>decide (x.id<t)) (l₂:=xs.dropWhile fun x:Sg=>decide (x.id<t));have h2:=BR (l₁:=xs.takeWhile fun x:Sg=>decide (x.id<t)) (l₂:=xs.dropWhile fun x:Sg=>decide (x.id<t));rw [h] at h1 h2;rw [e];exact ⟨h1,h2⟩
theorem zAH {k:Sg}:zdr xs k=(xs.take (zly Sg.id xs k.id)++[k])++xs.drop (zly Sg.id xs k.id):=by rw [(zgq k.id).1,(zgq k.id).2];unfold zdr;simp
def g1:Sg:=⟨1,0,2,1,1,1,1,0,1,0,0,1,1,1⟩
def g2:Sg:=⟨1,0,2,1,1,1,3,0,4,0,0,1,1,1⟩
def g3:Sg:=⟨1,0,2,1,1,1,6,0,4,0,0,1,1,1⟩
section
variable {d:List Pt} {a b c:List Int}
end
section
variable {d:List Pt} {a b:List Int} {k:Nat} {x:Int}
end
section
variable {d:List Pt} {b:List Sg} {a m:List Int}
theorem zgI (h:KM d b m=0):JL d=0/\Kg b=0/\Ver d m/\zb0 b (Zi d m)=true:=by
 unfold KM at h;split at h
 ·contradiction
 ·split at h
  ·contradiction
  ·split at h
   ·cases h
   ·split at h
    ·rename_i h1 h2 h3 h4;rw [ji] at h4;have f:JL d=0:=kB;exact ⟨f,kB,(XZ (V3 f)).1 h4.1,h4.2⟩
    ·cases h
end
section
variable {b:Type} {P:b->Bool} {a:List b} {k:Nat} {x:b}
theorem zhN (d:a[k]? =some x)(h:P x=true):(a.take (k+1)).filter P=(a.take k).filter P++[x]:=by rw [Z0 d,jH,Oc,jb h];rfl
theorem zqg (d:a[k]? =some x)(h:P x=false):(a.take (k+1)).filter P=(a.take k).filter P:=by rw [Z0 d,jH,Oc,ja (by rw [h];exact O7)];simp
end
theorem zuH (h:xs.length>4096):Kg xs=2:=by unfold Kg;rw [jb h]
theorem zvR (h:¬xs.length>4096)(h2:skB xs=false):Kg xs=360:=by unfold Kg;rw [ja h,h2];rfl
theorem zuk (h:¬xs.length>4096)(h2:skB xs=true):Kg xs=0:=by unfold Kg;rw [ja h,h2];rfl
theorem zwg (p:Pt):(((decide (p.id<1)||decide (p.id>1048576))||decide (p.sign<0))||decide (p.sign>1048576))= !idB p:=by unfold idB;rw [jI];simp only [On,jG,jZ,AJ,jR];omega
def ztv (p:Pt):Bool:=idB p&&(ndB p.id p.needs&&UI p)
theorem zFU (h:idB p=false):ztv p=false:=by unfold ztv;rw [h];rfl
theorem zDd (h:ndB p.id p.needs=false):ztv p=false:=by unfold ztv;rw [h,Az,OP]
theorem zqb (h:idB p=true)(h2:ndB p.id p.needs=true):ztv p=UI p:=by unfold ztv;rw [h,h2];rfl
theorem zpz (h:¬p.needs.length>32):(if ztv p=true then (0:Int) else 370)=pchk p:=by unfold pchk ztv;rw [ja h];cases idB p<;>cases ndB p.id p.needs<;>cases UI p<;>rfl
theorem zqk {f:Int}(h:(decide (f<1)||decide (f>9))=false):Za f 1 9=true/\isF f:=by simp only [jS,jR] at h;unfold Za isF;simp;omega
theorem zlm {f:Int}(h:(decide (f<1)||decide (f>9))=true):Za f 1 9=false:=by simp only [On,jG] at h;unfold Za;simp;omega
theorem zyu (a:p.kind=1)(h:(decide (p.field<1)||decide (p.field>9))=false):(Wb (Jk Yc p.field p.nw) p.nw&&frm (Jk zgu p.field p.nw))=UI p:=by obtain ⟨h1,h2⟩:=zqk h;rw [zxJ a h1,zs6 h2,zqu h2]
theorem zGL (a:p.kind=1)(h:(decide (p.field<1)||decide (p.field>9))=true):UI p=false:=by unfold UI;rw [jb a,zlm h];rfl
theorem zxV (j:Sl I 14 YA av n c xs)(B:n<=100000):kf 184 [.slice av n c] I (.bool (skB xs)):=by
 intro g H w y;refine qe Tryz.func184 Tryz.ntmps184 y ?_;refine zR (zA (zN (Qk (zR<|zA (zN (Ql ?_))))));refine zU [(0,_)] (fun T u t E M i=>∃ (k:Nat),t=n-k/\E=(3,.int .i64 k)::T/\I=M/\u=i/\k<=n/\(List.range k).all (skP xs)=true) ?_ (h:=⟨0,U,U,U,U,jd _,U⟩);rintro t E M i ⟨k,rfl,rfl,rfl,rfl,A,b⟩;refine Qk (zR (zM<|zM ?_));refine zQ Z7<|zC (zN ?_)
 refine zI ?_ ?_<;>intro o
 ·have a:k<n:=kd o;obtain ⟨x,q⟩:=j.at a;refine Qm (Qa (Qk (Ql (Qk<|ZW mixed kA<|zq (Qd U)<|zq (Qd U)<|zq (Qs U U Z7 kE (fun hg=>kB))<|zq (Qo U QQ (fun hg=>by exact zJI j q) U)<|YG (cap:=[]) (vs:=[_]) U U znV (zCW I _) U U<|zq (ZT U)<|zq (Qd U)<|Ym 6 U U U<|zj (Qd U)<|zj (Qx U U U) ?_))));refine zj (Qd U)<|Yd 9 U U U<|zk (Qd U)<|zk (Qd U)<|zk (Qs U U Z7 kE (fun hg=>kB))<|zk (Qi U Zu)<|zk (Qc U Qr (fun hg=>by exact zJA j q U))<|zk (Qd U)<|zk (Qd U)<|zk (Zf U U U (fun hg=>kB))<|zk (Qs U U Z7 kE (fun hg=>by (simp [ZH] at hg;omega)))<|zk (Qi U Zu) ?_
  refine zk (Qc U Qr (fun hg=>by exact zJA (k:=((k:Int)-1).toNat) j (QE (d:=Yc) j.len (by simp [ZH] at hg;omega)) U))<|zk (Qx U U U)<|UX U U U (.some U U U U gbf) U U<|Jm U U U U U<|ZX<|Qa ?_
  refine zI ?_ ?_<;>intro f
  ·refine zR (zA (zN (Qq (Qn (Qb (Qb (Qn<|Qb ?_)))))))
   first
   | exact zr U U (by unfold skB;rw [Y9 (k:=k) (by rw [j.len];exact a) (by rw [zbQ q];exact jA (! ·) f)])
  refine Qm<|Qg<|Qa<|Qh<|zM ?_;refine zB<|zA (Qe ?_)
  exact zm (h:=⟨n-(k+1),kB,k+1,U,U,U,U,kB,YT b (by rw [zbQ q];exact jA (! ·) f)⟩)
 have r:n<=k:=kd o;refine Qy (Qf (Qf (Qj (Qa (zR (zA (zN<|Qq ?_)))))))
 first
 | exact zr U U (by unfold skB;rw [j.len,show n=k by omega,b])
theorem znt (d:Sl I 14 YA av n c xs)(f:n<=100000):kf 131 [.slice av n c] I (.int .i64 (Kg xs)):=by
 intro g H w h;refine qe Tryz.func131 Tryz.ntmps131 h ?_;refine zR<|zA<|zN<|Qk<|zR ?_;refine zM ?_;refine zQ Z7<|zC (zN ?_)
 refine zI ?_ ?_<;>intro a
 ·have h6:xs.length>4096:=(by rw [d.len];simp at a;omega);exact zR (zA (zN (Qq (Qb<|zr U U (by rw [zuH h6])))))
 have h6:¬xs.length>4096:=(by rw [d.len];simp at a;omega);refine Qm (Qa (Qk (zR (zM<|qcV (vs:=[_]) U zzQ (zxV d f)<|zO (zN ?_)))));refine zI ?_ ?_<;>intro b
 ·exact zR (zA (zN (Qq (Qb<|zr U U (by rw [zvR h6 (by simpa using b)])))))
 exact Qm (Qa (zR (zA (zN (Qq<|zr U U (by rw [zuk h6 (by simpa using b)]))))))
theorem zwo (I:Qu)(x:Sg):kf 242 [VD x] I (.bool (frm x)):=by
 intro g H w j;refine qe Tryz.func242 Tryz.ntmps242 j ?_;have a:=zJH I;refine zR<|QU U U U (fun f=>zA<|zN (zR<|zV (Qo U QQ (fun hg=>by exact Cells.g0) U)<|zpb [(0,_)] [YA x] Vy (fun h=>Z5 .here (fun o b d=>?_))))
 have a:=a.trans b;have i:=Sl.lit [x] U Yp (show _=some (Obj.cells (([x]:List Sg).flatMap YA).toArray 54 (0,0)) from d);refine qcV (vs:=[_]) U zhk (znt i kC) ?_;refine zA<|zN (zR ?_)
 refine zM<|zC<|zA (zN (Qq ?_))
 exact zp a U U (by rw [zih])
theorem zxq (I:Qu)(x:Sg)(f:Int)(y:Sg):kf 180 [VD x,.int .i64 f,VD y] I (VD (Jk x f y)):=by
 intro g H w b;refine qe Tryz.func180 Tryz.ntmps180 b ?_;refine zR<|QU U U U (fun a0=>QU U U U (fun a1=>Qv Kc U U (fun a2=>zN (Qk (zR (zM (zN (Ql (zR<|zC<|zA (zN ?_))))))))))
 refine zI ?_ ?_<;>intro u
 ·have a:f=1:=(by simpa using u);subst a;refine Qh<|zF Vm ?_
  refine zL Qr<|zF Vm ?_
  refine zS ZO ?_;refine Qe<|Qg<|Qa<|zR ?_;refine zV (Qo U QQ (fun hg=>by exact Cells.g2) U) ?_;exact zh Zy<|zN (Qq<|ZD U U QQ Cells.g0 U (fun w b=>⟨U,b.drop⟩))
 have A:f≠1:=(by simpa using u);refine zR (zC<|zA (zN ?_));refine zI ?_ ?_<;>intro d
 ·have a:f=2:=(by simpa using d);subst a;refine Qh<|zF Vn ?_
  refine zL Qr<|zF Vn ?_
  refine zS ZO ?_;refine Qe<|Qg<|Qa<|zR ?_;refine zV (Qo U QQ (fun hg=>by exact Cells.g2) U) ?_;exact zh Zy<|zN (Qq<|ZD U U QQ Cells.g0 U (fun w b=>⟨U,b.drop⟩))
 have B:f≠2:=(by simpa using d);refine zR (zC<|zA (zN ?_));refine zI ?_ ?_<;>intro h
 ·have a:f=3:=(by simpa using h);subst a;refine Qh<|zF YP ?_
  refine zL Qr<|zF YP ?_
  refine zS ZO ?_;refine Qe<|Qg<|Qa<|zR ?_;refine zV (Qo U QQ (fun hg=>by exact Cells.g2) U) ?_;exact zh Zy<|zN (Qq<|ZD U U QQ Cells.g0 U (fun w b=>⟨U,b.drop⟩))
 have F:f≠3:=(by simpa using h);refine zR (zC<|zA (zN ?_));refine zI ?_ ?_<;>intro i
 ·have a:f=4:=(by simpa using i);subst a;refine Qh<|zF Vr ?_
  refine zL Qr<|zF Vr ?_
  refine zS ZO ?_;refine Qe<|Qg<|Qa<|zR ?_;refine zV (Qo U QQ (fun hg=>by exact Cells.g2) U) ?_;exact zh Zy<|zN (Qq<|ZD U U QQ Cells.g0 U (fun w b=>⟨U,b.drop⟩))
 have G:f≠4:=(by simpa using i);refine zR (zC<|zA (zN ?_));refine zI ?_ ?_<;>intro j
 ·have a:f=5:=(by simpa using j);subst a;refine Qh<|zF Vq ?_
  refine zL Qr<|zF Vq ?_
  refine zS ZO ?_;refine Qe<|Qg<|Qa<|zR ?_;refine zV (Qo U QQ (fun hg=>by exact Cells.g2) U) ?_;exact zh Zy<|zN (Qq<|ZD U U QQ Cells.g0 U (fun w b=>⟨U,b.drop⟩))
 have J:f≠5:=(by simpa using j);refine zR (zC<|zA (zN ?_));refine zI ?_ ?_<;>intro o
 ·have a:f=6:=(by simpa using o);subst a;refine Qh<|zF Vj ?_
  refine zL Qr<|zF Vj ?_
  refine zS ZO ?_;refine Qe<|Qg<|Qa<|zR ?_;refine zV (Qo U QQ (fun hg=>by exact Cells.g2) U) ?_;exact zh Zy<|zN (Qq<|ZD U U QQ Cells.g0 U (fun w b=>⟨U,b.drop⟩))
 have P:f≠6:=(by simpa using o);refine zR (zC<|zA (zN ?_));refine zI ?_ ?_<;>intro q
 ·have a:f=7:=(by simpa using q);subst a;refine Qh<|zF Vo ?_
  refine zL Qr<|zF Vo ?_
  refine zS ZO ?_;refine Qe<|Qg<|Qa<|zR ?_;refine zV (Qo U QQ (fun hg=>by exact Cells.g2) U) ?_;exact zh Zy<|zN (Qq<|ZD U U QQ Cells.g0 U (fun w b=>⟨U,b.drop⟩))
 have Q:f≠7:=(by simpa using q);refine zR (zC<|zA (zN ?_));refine zI ?_ ?_<;>intro r
 ·have a:f=8:=(by simpa using r);subst a;refine Qh<|zF Vl ?_
  refine zL Qr<|zF Vl ?_
  refine zS ZO ?_;refine Qe<|Qg<|Qa<|zR ?_;refine zV (Qo U QQ (fun hg=>by exact Cells.g2) U) ?_;exact zh Zy<|zN (Qq<|ZD U U QQ Cells.g0 U (fun w b=>⟨U,b.drop⟩))
 have T:f≠8:=(by simpa using r);refine zR (zC<|zA (zN ?_));refine zI ?_ ?_<;>intro t
 ·have a:f=9:=(by simpa using t);subst a;refine zR<|zF Yy ?_
  refine zV (Qo U Ys (fun hg=>by exact Cells.s1 (vs:=[_,_]) U) U) ?_;refine zF Yy ?_;refine YW U U UP U U U U (by repeat (first | exact Upd.here | apply Upd.there | apply QN))<|zN (Qh<|zF Yz ?_)
  refine zV (Qo U Ys (fun hg=>by exact Cells.s1 (vs:=[_,_]) U) U) ?_;refine zF Yz ?_;refine YW U U UP U U U U (by repeat (first | exact Upd.here | apply Upd.there | apply QN))<|Qe (Qg (Qa (zR ?_)))
  refine zV (Qo U QQ (fun hg=>by exact Cells.g2) U) ?_;exact zh Zy<|zN (Qq<|ZD U U QQ Cells.g0 U (fun w b=>⟨U,b.drop⟩))
 have Y:f≠9:=(by simpa using t);refine Qm (Qg (Qa (zR<|zV (Qo U QQ (fun hg=>by exact Cells.g2) U) ?_)));refine zh Zy<|zN (Qq ?_)
 first
 | exact ZD U U QQ Cells.g0 U (fun w b=>⟨by unfold Jk;rw [ja A,ja B,ja F,ja G,ja J,ja P,ja Q,ja T,ja Y];rfl,b.drop⟩)
theorem zz1 (I:Qu):kf 243 [] I (VD zgu):=by intro g H w a;refine qe Tryz.func243 Tryz.ntmps243 a ?_;exact zR<|Qv Kc U U (fun b=>zN (zR<|zV (QK (ps:=[(1,_)]) [_,_] zdi U U)<|zV (QK (ps:=[(0,_),(1,_)]) [_,_] zdi U U)<|zV (QK (ps:=[(3,_),(4,_),(10,_),(11,_)]) [_,_,_,_,_,_,_,_,_,_,_,_,_,_] JI U U)<|zh Zy<|zN (Qq<|ZD U U QQ Cells.g0 U (fun w a=>⟨U,a.drop⟩))))
def idP (t:Int)(p:Pt):Bool:=p.id==t
def zod (ps:List Pt)(t:Int):Int:=KA (idP t) ps
variable{t:Int}
theorem zjf :decide (zod ps t<0)= !X7 ps t:=znO
theorem zDP (_hL:∀ p∈ps,∀ q∈ps,p.id=q.id->p=q)(i:(ps.map (·.id)).Nodup)(o:ps[k]? =some p):zod ps p.id=k:=by refine V5 (k:=k) (x:=p) ?_ o (by simp [idP]);rw [jL];intro q r;obtain ⟨j,a⟩:=jU r;have f:j<k:=(by have:=(jc.1 a).1;rw [jJ] at this;omega);rw [OA,jb f] at a;intro e;have e:q.id=p.id:=(by simpa [idP] using e);obtain ⟨b,d⟩:=jc.1 a;obtain ⟨g,h⟩:=jc.1 o;have h1:(ps.map (·.id))[j]'(by simpa using b)=(ps.map (·.id))[k]'(by simpa using g):=(by simp [d,h,e]);have:=(List.getElem_inj i).1 h1;omega
theorem Lst.nodup (h:Lst ps):(ps.map (·.id)).Nodup:=by unfold List.Nodup;rw [A3];exact h.inc.imp fun {a b:Pt} (h:a.id<b.id)=>Int.ne_of_lt h
theorem Lst.fnd (h:Lst ps)(a:ps[k]? =some p):zod ps p.id=k:=zDP (fun _p a _q b e=>h.uniq a b e) h.nodup a
variable{y:Int}
theorem Lst.need_at (h:Lst ps)(d:ps[k]? =some p)(g:y∈p.needs):∃ m q,m<k/\ps[m]? =some q/\q.id=y/\zod ps y=m:=by obtain ⟨q,f,e⟩:=h.before d g;obtain ⟨m,b⟩:=jU f;have a:m<k:=(by have:=(jc.1 b).1;rw [jJ] at this;omega);rw [OA,jb a] at b;exact ⟨m,q,a,b,e,by rw [<-e];exact h.fnd b⟩
variable{i j:Nat}{q:Pt}
theorem Lst.lt_at (h:Lst ps)(o:ps[i]? =some p)(g:ps[j]? =some q)(u:p.id<q.id):i<j:=by
 obtain ⟨a,b⟩:=jc.1 o;obtain ⟨d,f⟩:=jc.1 g;by_cases e:i=j
 ·subst e;rw [o] at g;cases g;omega
 ·by_cases r:j<i
  ·have:=jY.1 h.inc j i d a r;rw [b,f] at this;omega
  ·omega
def Uk (ps:List Pt)(f:Nat->Pt->Bool)(F:List Bool):Prop:=F.length=ps.length/\∀ j q,ps[j]? =some q->F[j]? =some (f j q)
variable{F:List Bool}
theorem Uk.congr {f g:Nat->Pt->Bool}(h:Uk ps f F)(e:∀ j q,ps[j]? =some q->f j q=g j q):Uk ps g F:=⟨h.1,fun j q a=>by rw [<-e j q a];exact h.2 j q a⟩
theorem Uk.new (h:ps.length=n):Uk ps (fun _ _=>false) (List.replicate n false):=⟨by simp [h],fun j q a=>by
 have:=(jc.1 a).1
 rw [Ay,jb kB]⟩
theorem Uk.set {f:Nat->Pt->Bool}(h:Uk ps f F)(m:Nat)(b:Bool):Uk ps (fun j q=>if j=m then b else f j q) (F.set m b):=⟨by rw [AL,h.1],fun j q a=>by
 show _=some (if j=m then b else f j q);rw [List.getElem?_set];have g:=(jc.1 a).1;by_cases e:m=j
 ·subst e;rw [jb rfl,jb (by rw [h.1];exact g),jb rfl]
 ·rw [ja e,ja (fun d:j=m=>e d.symm)];exact h.2 j q a⟩
variable{f:Pt->Bool}
theorem Uk.eq (h:Uk ps (fun _=>f) F):F=ps.map f:=by
 refine Ad fun j=>?_;rw [jB]
 cases a:ps[j]? with
 | some q=>rw [h.2 j q a];rfl
 | none=>
  rw [List.getElem?_eq_none_iff] at a;exact Ol (by rw [h.1];exact a)
theorem Uk.of (ps:List Pt)(f:Pt->Bool):Uk ps (fun _=>f) (ps.map f):=⟨by simp,fun j q a=>by simp [a]⟩
def KZ (ps:List Pt)(p:Pt):List Bool:=ps.map fun q=>onF ps p.id q.id
def V8 (F:List Bool):Array Value:=(F.flatMap zc1).toArray
theorem XW (F:List Bool):F.flatMap zc1=F.map Value.bool:=by
 induction F with
 | nil=>rfl
 | cons b F ih=>rw [jV,ih];rfl
theorem zab (F:List Bool)(m:Nat)(b:Bool):(V8 F).setIfInBounds ((m:Int).toNat*1) (.bool b)=V8 (F.set m b):=by unfold V8;rw [XW,XW,Om,Aj,B4];rfl
variable{m:Nat}
theorem zHn (h:m<F.length):Nat.blt ((m:Int).toNat*1) (V8 F).size=true:=by unfold V8;rw [OH,ZF Xt,Om,Om];rw [AW];exact h
theorem zdA (n:Nat):(List.replicate n (Value.bool false)).toArray=V8 (List.replicate n false):=by unfold V8;rw [XW,BS]
variable{fz:Nat×Nat}
theorem zFe {l:Go.Kn.Loc}{b:Nat}{t:TypeId}{x:Bool}(h:F[j]? =some x):QO I ((b,.cells (V8 F) t fz)::l) b ((j:Int).toNat*1) (.bool x):=by refine zJC ?_;rw [Ve];unfold V8;rw [XW,Om];simp [h]
theorem zo6 {A B C L R:Go.Kn.Loc}(h:YS (A++(B++C)) L R):YS ((A++B)++C) L R:=by rw [js];exact h
def SlM {β:Type}(a4:β->List Value)(a0:Nat)(I:Qu)(av:Option Addr)(n c:Nat)(rows:List (List β)):Prop:=
 ∃ Y:List Hd,Sl I 1 Kv av n c Y/\Y.length=rows.length/\∀ (k:Nat) (h:Hd) (r:List β),Y[k]? =some h->rows[k]? =some r->Sl I a0 a4 h.a h.n h.c r
variable{β:Type}{a0:Nat}{a4:β->List Value}{rows:List (List β)}
theorem SlM.mono (h:SlM a4 a0 I av n c rows)(d:HLe I M):SlM a4 a0 M av n c rows:=by obtain ⟨Y,h1,h2,h3⟩:=h;exact ⟨Y,h1.mono d,h2,fun k h r a b=>(h3 k h r a b).mono d⟩
theorem SlM.len (h:SlM a4 a0 I av n c rows):rows.length=n:=by obtain ⟨Y,h1,h2,_⟩:=h;rw [<-h2,h1.len]
theorem SlM.at (h:SlM a4 a0 I av n c rows)(g:k<n):∃ Y b r,Sl I 1 Kv av n c Y/\Y[k]? =some b/\rows[k]? =some r/\Sl I a0 a4 b.a b.n b.c r:=by have o:=h.len;obtain ⟨Y,h1,h2,h3⟩:=h;obtain ⟨b,d⟩:=h1.at g;exact ⟨Y,b,rows[k]' kB,h1,d,jf _,h3 k _ _ d (jf _)⟩
variable{u:Value}
theorem QO.seg {l:Go.Kn.Loc}{b d:Nat}{a vs:List Value}{t:TypeId}(h:(a.drop d).take n=vs)(g:vs[0]? =some u):QO I ((b,.cells a.toArray t fz)::l) b d u:=by
 refine zJC ?_;rw [Ve,<-g,<-h,OA];split
 ·simp
 ·rename_i o;rw [<-h,OA,ja o] at g;cases g
theorem Wv {xs:List α}{x:α}{P:α->Bool}(a:xs[k]? =some x):(xs.take (k+1)).any P=((xs.take k).any P||P x):=by rw [Z0 a,Af];simp
variable{v:List Int}
theorem zvd {D:Int}{x:Int}(a:v[k]? =some x):ndP D v k= !((decide (x<1)||decide (x>=D))||(decide ((k:Int)>0)&&decide (x<=v.getD ((k:Int)-1).toNat 0))):=by unfold ndP;rw [QJ a]
variable{a b:Bool}
theorem zBT (h:a=false)(h2:b=false):(!(a||b))=true:=by rw [h,h2];rfl
theorem zGG (h:a=true):(!(a||b))=false:=by rw [h];rfl
theorem zHB (h:b=true):(!(a||b))=false:=by rw [h];simp
theorem zoF (d:ps[k]? =some p):lsP ps k= !((decide ((k:Int)>0)&&decide (p.id<=(ps.getD ((k:Int)-1).toNat WL).id))||p.needs.any (fun n=> !X7 ps n)):=by unfold lsP;rw [QJ d]
theorem zsO (d:ps[i]? =some p)(h:(ps.all fun q=>p.id==q.id||zbr p q (onF ps p.id q.id))=false):zkU ps=false:=by unfold zkU;exact zdF d h
def ztc (ps:List Pt)(p:Pt)(k:Nat)(q:Pt):Bool:=(p.needs.take k).any fun m=>m==q.id||onF ps m q.id
theorem zqc (h:ps.length=n):Uk ps (fun _=>ztc ps p 0) (List.replicate n false):=(Uk.new h).congr fun j q d=>by simp [ztc]
def zrs (ps:List Pt)(p:Pt)(k:Nat)(y:Int)(j:Nat)(i:Nat)(q:Pt):Bool:=(ztc ps p k q||y==q.id)||(decide (i<j)&&onF ps y q.id)
theorem zxi (hL:Lst ps)(h:Uk ps (fun _=>ztc ps p k) F)(g:ps[m]? =some q)(o:q.id=y):Uk ps (zrs ps p k y 0) (F.set m true):=(h.set m true).congr fun i r d=>by
 unfold zrs;by_cases e:i=m
 ·subst e;rw [g] at d;cases d;simp [o]
 ·rw [ja e]
  have:¬y=r.id:=fun w=>by
   have h1:=hL.fnd d;have h2:=hL.fnd g;rw [o,w,h1] at h2;omega
  simp [this]
theorem zs1 (h:Uk ps (zrs ps p k y j) F)(d:ps[j]? =some q)(o:F[j]? =some b):Uk ps (zrs ps p k y (j+1)) (F.set j (b||onF ps y q.id)):=(h.set j _).congr fun i r g=>by
 by_cases e:i=j
 ·subst e;rw [d] at g;cases g;rw [jb rfl];have:=h.2 i q d;rw [o] at this;cases this;unfold zrs;simp
 ·rw [ja e];unfold zrs;rw [show decide (i<j)=decide (i<j+1) from by rw [jI];simp;omega]
theorem zsF (hL:Lst ps)(d:p.needs[k]? =some y)(o:ps[m]? =some q)(A:q.id=y)(h:Uk ps (zrs ps p k y m) F):Uk ps (fun _=>ztc ps p (k+1)) F:=h.congr fun i r w=>by
 unfold zrs ztc;rw [Wv d,AU];congr 1;congr 1;by_cases e:i<m
 ·simp [e]
 ·have:onF ps y r.id=false:=by
   cases g:onF ps y r.id with
   | false=>rfl
   | true=>
    have h1:=(hL.on_lt g).1;have:=hL.lt_at w o kB;omega
  rw [this,OP]
theorem zrH (hL:Lst ps)(d:p∈ps)(h:Uk ps (fun _=>ztc ps p p.needs.length) F):F=KZ ps p:=by refine (h.congr (g:=fun _ q=>onF ps p.id q.id) fun i q o=>?_).eq;unfold ztc;rw [jr (jn _),hL.on d]
def zbb (I:Qu)(ps:List Pt)(n:Nat)(Y:List Hd)(i:Nat):Prop:=Y.length=i/\∀ (k:Nat) (h:Hd) (p:Pt),Y[k]? =some h->ps[k]? =some p->h.n=n/\Sl I 1 zc1 h.a h.n h.c (KZ ps p)
variable{Y:List Hd}
theorem zbb.mono (h:zbb I ps n Y i)(d:HLe I M):zbb M ps n Y i:=⟨h.1,fun k x p a b=>⟨(h.2 k x p a b).1,(h.2 k x p a b).2.mono d⟩⟩
theorem zbb.nil :zbb I ps n [] 0:=⟨U,fun k h p d _=>by simp at d⟩
theorem zbb.snoc {a:Option Addr}(h:zbb I ps n Y i)(r:ps[i]? =some p)(w:Sl I 1 zc1 a n c (KZ ps p)):zbb I ps n (Y++[⟨a,n,c⟩]) (i+1):=⟨by rw [jj,h.1];rfl,fun k x q d g=>by
 by_cases e:k<Y.length
 ·rw [O3 e] at d;exact h.2 k x q d g
 ·have o:=(jc.1 d).1;rw [jj,jv] at o;have:k=Y.length:=kB;subst this;rw [Ov (jn _),Br] at d;simp at d;subst d;rw [h.1] at g;rw [r] at g;cases g
  exact ⟨U,w⟩⟩
theorem zbb.slm (h:zbb I ps n Y n)(o:ps.length=n)(d:Sl I 1 Kv av n c Y):SlM zc1 1 I av n c (ps.map (KZ ps)):=
 ⟨Y,d,by rw [d.len,ju,o],fun k x r A g=>by
  rw [jB,Ot] at g;obtain ⟨p,w,rfl⟩:=g
  exact (h.2 k x p A w).2⟩
def chF (O:List Int)(q:Pt):Bool:=O.any fun y=>y==q.id
theorem zwJ (hL:Lst ps)(h:X7 ps y=true):∃ m q,m<ps.length/\ps[m]? =some q/\q.id=y/\zod ps y=m:=by obtain ⟨q,g,e⟩:=JY.1 h;obtain ⟨m,d⟩:=jU g;exact ⟨m,q,(jc.1 d).1,d,e,by rw [<-e];exact hL.fnd d⟩
theorem zzC (hL:Lst ps)(h:Uk ps (fun _=>chF (O.take k)) F)(A:O[k]? =some y)(o:ps[m]? =some q)(e:q.id=y):Uk ps (fun _=>chF (O.take (k+1))) (F.set m true):=(h.set m true).congr fun j r d=>by
 unfold chF;rw [Wv A];by_cases g:j=m
 ·subst g;rw [o] at d;cases d;rw [jb rfl,e];simp
 ·rw [ja g]
  have:(y==r.id)=false:=by
   rw [OL];intro w;have h1:=hL.fnd d;have h2:=hL.fnd o;rw [e,w,h1] at h2;omega
  rw [this,OQ]
theorem zGC (d:O[k]? =some y)(h:(decide (zod ps y<0)||(decide ((k:Int)>0)&&decide (y<=O.getD ((k:Int)-1).toNat 0)))=true):chB ps O=false:=by
 rw [On] at h;rcases h with h | h
 ·rw [zjf] at h;exact zvh d (by simpa using h)
 ·refine zv7 ?_;rw [zel];refine Y9 (k:=k) (jc.1 d).1 ?_;unfold zoi;rw [QJ d,h];rfl
theorem zEz (d:O[k]? =some y)(h:(decide (zod ps y<0)||(decide ((k:Int)>0)&&decide (y<=O.getD ((k:Int)-1).toNat 0)))=false):X7 ps y=true/\zoi O k=true:=by rw [jS] at h;refine ⟨by have h1:=h.1;rw [zjf] at h1;simpa using h1,?_⟩;unfold zoi;rw [QJ d,h.2];rfl
theorem zDg (h:(List.range O.length).all (zoi O)=true)(h2:O.all (X7 ps)=true):chB ps O=true:=zwF (by rw [zel];exact h) h2
def zDH (ps:List Pt)(f:Pt->Bool)(q:Pt):Bool:=f q||ps.any fun p=>f p&&onF ps p.id q.id
def clK (ps:List Pt)(f:Pt->Bool)(k:Nat)(q:Pt):Bool:=f q||(ps.take k).any fun p=>f p&&onF ps p.id q.id
def clJ (ps:List Pt)(f:Pt->Bool)(k:Nat)(p:Pt)(j:Nat)(i:Nat)(q:Pt):Bool:=clK ps f k q||(decide (i<j)&&(f p&&onF ps p.id q.id))
theorem zrk (h:Uk ps (fun _=>f) F):Uk ps (fun _=>clK ps f 0) F:=h.congr fun j q _=>by unfold clK;simp
theorem zHz (h:Uk ps (fun _=>clK ps f k) F):Uk ps (clJ ps f k p 0) F:=h.congr fun j q _=>by unfold clJ;simp
theorem zA9 (w:f p=true)(h:Uk ps (clJ ps f k p j) F)(d:ps[j]? =some q)(o:F[j]? =some b):Uk ps (clJ ps f k p (j+1)) (F.set j (b||onF ps p.id q.id)):=(h.set j _).congr fun i r g=>by
 by_cases e:i=j
 ·subst e;rw [d] at g;cases g;rw [jb rfl];have:=h.2 i q d;rw [o] at this;cases this;unfold clJ;rw [w];simp
 ·rw [ja e];unfold clJ;rw [show decide (i<j)=decide (i<j+1) from by rw [jI];simp;omega]
theorem zAQ (g:ps[k]? =some p)(h:Uk ps (clJ ps f k p j) F)(d:f p=false\/ps.length<=j):Uk ps (fun _=>clK ps f (k+1)) F:=h.congr fun i r o=>by
 unfold clJ clK;rw [Wv g,<-AU];congr 1;rcases d with d | d
 ·rw [d];simp
 ·have:=(jc.1 o).1;rw [jN (show i<j by omega),Ou]
theorem zEx (d:ps.length=n)(h:(decide ((k:Int)<(n:Int))&&b)=false):b=false\/ps.length<=k:=by
 cases b with
 | false=>exact .inl U
 | true=>right;rw [Bool.and_true,jR] at h;omega
theorem zCH (g:ps.length=n)(d:n<=k)(h:Uk ps (fun _=>clK ps f k) F):F=ps.map (zDH ps f):=by refine Uk.eq (h.congr fun j q _=>?_);unfold clK zDH;rw [jr kB]
def zqQ (ps:List Pt)(f:Pt->Bool):List Int:=(ps.filter f).map (·.id)
theorem zAV (d:ps[k]? =some p)(h:f p=true):zqQ (ps.take (k+1)) f=zqQ (ps.take k) f++[p.id]:=by unfold zqQ;rw [zhN d h,Od];rfl
theorem zDr (d:ps[k]? =some p)(h:f p=false):zqQ (ps.take (k+1)) f=zqQ (ps.take k) f:=by unfold zqQ;rw [zqg d h]
theorem zhr (_hL:Lst ps)(h:chB ps O=true):zqQ ps (zDH ps (chF O))=zfz ps O:=by
 have h2:=(ze7.1 h).2;unfold zqQ zfz;congr 1;refine AP fun q r=>?_;unfold zDH chF;rw [jI];simp only [On,jD,ji,jW];constructor
 ·rintro (⟨y,d,e⟩ | ⟨p,o,⟨y,d,e⟩,g⟩)
  ·exact ⟨y,d,.inl e⟩
  ·exact ⟨y,d,.inr (by rw [e];exact g)⟩
 ·rintro ⟨y,d,e | g⟩
  ·exact .inl ⟨y,d,e⟩
  ·obtain ⟨p,o,e⟩:=h2 y d;exact .inr ⟨p,o,⟨y,d,e.symm⟩,by rw [e];exact g⟩
def zJv (ps:List Pt)(n:Nat):Value->Qu->Go.Kn.Loc->Prop:=fun v M L=>L=[]/\∃ av c,v= .slice av n c/\SlM zc1 1 M av n c (ps.map (KZ ps))
theorem zHy (p:Pt)(B:Nd I p)(b1:p.n<=100000):kf 222 [Wd p] I (.bool (ztv p)):=by
 intro g H w hw;refine qe Tryz.func222 Tryz.ntmps222 hw ?_;have B:Sl I 1 QF p.a p.n p.c p.needs:=B;refine zR<|QU U U U (fun b0=>zA (zN (Qk (zR<|zF Zq ?_))))
 refine zL Qr<|zC ?_
 refine zM ?_;refine QI 3 U U U ?_;refine zJ (Qi U Zq) ?_;refine zJ (Qc U Qr (fun hg=>by exact QO.h0 U)) ?_;refine zJ (Qx U U U) ?_;refine Q5 U U U U U<|zM ?_
 refine QI 8 U U U ?_;refine zJ (Qi U ZB) ?_;refine zJ (Qc U Qr (fun hg=>by exact QO.h0 U)) ?_;refine zJ (Qx U U U) ?_;refine Q5 U U U U U<|zM ?_
 refine QI 13 U U U ?_;refine zJ (Qi U ZB) ?_;refine zJ (Qc U Qr (fun hg=>by exact QO.h0 U)) ?_;refine zJ (Qx U U U) ?_;refine Q5 U U U U U<|zN ?_
 refine zI ?_ ?_<;>intro J
 ·have hi:idB p=false:=(by have h:=J;rw [zwg] at h;simpa using h);exact zR (zA (zN (Qq (Qb<|zr U U (by rw [zFU hi])))))
 have hi:idB p=true:=(by have h:=J;rw [zwg] at h;simpa using h);refine Qm (Qa (Qk (zR (zA (zN (Ql<|zU [(1,_)] (fun T L0 mz E M a5=>∃ (k:Nat),mz=p.n-k/\E=(3,.int .i64 k)::T/\I=M/\L0=a5/\k<=p.n/\(List.range k).all (ndP p.id p.needs)=true) ?_ (h:=⟨0,U,U,U,U,jd _,U⟩)))))));rintro mz E M a5 ⟨k,rfl,rfl,rfl,rfl,hk,G⟩;refine Qk (zR (zM<|zF YD ?_));refine zL QA<|zQ Qt<|zC (zN ?_)
 refine zI ?_ ?_<;>intro P
 ·have A:k<p.n:=kd P;obtain ⟨x,hx⟩:=B.at A;refine Qm (Qa (Qk (Ql (Qk<|ZW mixed kA<|zq (Qi U YD)<|zq (Qc U QA (fun hg=>by exact QO.h0 U))<|zq (Qd U)<|zq (Qs U U Qt kE (fun hg=>kB))<|zq (Qc U Qr (fun hg=>by exact zJA B hx U))<|zq (Qx U U U)<|zq (Qd U)<|Ym 6 U U U<|zj (Qi U YD)<|zj (Qc U QA (fun hg=>by exact QO.h0 U)) ?_))));refine zj (Qd U)<|zj (Qs U U Qt kE (fun hg=>kB))<|zj (Qc U Qr (fun hg=>by exact zJA B hx U))<|zj (Qi U Zq)<|zj (Qc U Qr (fun hg=>by exact QO.h0 U))<|zj (Qx U U U)<|Jm U U U U U<|zq (Qd U)<|Ym 16 U U U<|zj (Qd U)<|zj (Qx U U U)<|zj (Qd U) ?_
  refine Yd 19 U U U<|zk (Qi U YD)<|zk (Qc U QA (fun hg=>by exact QO.h0 U))<|zk (Qd U)<|zk (Qs U U Qt kE (fun hg=>kB))<|zk (Qc U Qr (fun hg=>by exact zJA B hx U))<|zk (Qi U YD)<|zk (Qc U QA (fun hg=>by exact QO.h0 U))<|zk (Qd U)<|zk (Zf U U U (fun hg=>kB))<|zk (Qs U U Qt kE (fun hg=>by (simp [ZH] at hg;omega)))<|zk (Qc U Qr (fun hg=>by exact zJA (k:=((k:Int)-1).toNat) B (QE (d:=0) B.len (by simp [ZH] at hg;omega)) U)) ?_
  refine zk (Qx U U U)<|UX U U U (.some U U U U gbf) U U<|Jm U U U U U<|ZX<|Qa ?_
  refine zI ?_ ?_<;>intro Q
  ·have o:ndB p.id p.needs=false:=(by unfold ndB;exact Y9 (k:=k) (by rw [B.len];exact A) (by rw [zvd hx,Q];rfl));exact zR (zA (zN (Qq (Qn (Qb (Qb (Qn<|Qb<|zr U U (by rw [zDd o]))))))))
  refine Qm<|Qg<|Qa<|Qh<|zM ?_;refine zB<|zA (Qe ?_)
  exact zm (h:=⟨p.n-(k+1),kB,k+1,U,U,U,U,kB,YT G (by rw [zvd hx,Q];rfl)⟩)
 have a6:p.n<=k:=kd P;have o:ndB p.id p.needs=true:=(by unfold ndB;rw [B.len,show p.n=k by omega];exact G);refine Qy (Qf (Qf (Qj (Qa (Qk (zR<|zF Yn ?_))))));refine zL Qr<|zN (Ql (zR (zC<|zA (zN ?_))))
 refine zI ?_ ?_<;>intro a1
 ·have hk:p.kind=1:=(by simpa using a1);refine Qk (zR<|zF YK ?_);refine zL Qr<|zC ?_
  refine zM ?_;refine QI 3 U U U ?_;refine zJ (Qi U YK) ?_;refine zJ (Qc U Qr (fun hg=>by exact QO.h0 U)) ?_;refine zJ (Qx U U U) ?_;refine Q5 U U U U U<|zN ?_
  refine zI ?_ ?_<;>intro a2
  ·exact zR (zA (zN (Qq (Qb (Qn (Qb<|zr U U (by rw [zqb hi o,zGL hk a2])))))))
  refine Qm (Qa (Qk<|ZW mixed kA<|zq (QK (ps:=[]) [_,_,_,_,_,_,_,_,_,_,_,_,_,_] JI U U)<|zq (Qi U YK)<|zq (Qc U Qr (fun hg=>by exact QO.h0 U))<|zq (Qi U Yr)<|zq (Qo U QQ (fun hg=>by exact Cells.s0 (vs:=[_,_,_,_,_,_,_,_,_,_,_,_,_,_]) U) U)<|YG (cap:=[]) (vs:=[_,_,_]) U U zhv (zxq I Yc p.field p.nw) U U<|zq (Qi U Yr)<|zq (Qo U QQ (fun hg=>by exact Cells.s0 (vs:=[_,_,_,_,_,_,_,_,_,_,_,_,_,_]) U) U)<|zq (Xa U U Um U)<|zq (Qd U) ?_));refine Yd 9 U U U<|Va (cap:=[]) (vs:=[]) U U zAS (fun hg=>zz1 I) (.some U U U U gbt) U U<|zk (Qi U YK)<|zk (Qc U Qr (fun hg=>by exact QO.h0 U))<|zk (Qi U Yr)<|zk (Qo U QQ (fun hg=>by exact Cells.s0 (vs:=[_,_,_,_,_,_,_,_,_,_,_,_,_,_]) U) U)<|Va (cap:=[]) (vs:=[_,_,_]) U U zhv (fun hg=>zxq I zgu p.field p.nw) (.some U U U U gbt) U U<|Va (cap:=[]) (vs:=[_]) U U zoZ (fun hg=>zwo I _) (.some U U U U gbt) U U<|JM U U U U U<|zq (ZE U)<|ZX<|Qa (Qq (Qn (Qb ?_)))
  first
  | exact zr U U (by rw [zqb hi o,<-zyu hk a2];rfl)
 have a7:p.kind≠1:=(by simpa using a1);refine zR (zC<|zA (zN ?_));refine zI ?_ ?_<;>intro a3
 ·have hk:p.kind=2:=(by simpa using a3);refine zR<|zF YK ?_
  refine zL Qr<|zC ?_
  refine zM ?_;refine Qw 3 U U U ?_;refine zK (Qi U Yr)<|zK (Qi U Zu) ?_
  refine zK (Qc U Qr (fun hg=>by exact QO.h0 U))<|zK (Qi U ZB) ?_
  refine zK (Qc U Qr (fun hg=>by exact QO.h0 U))<|zK (Qx U U U) ?_
  refine QC U U U U U ?_;refine zM ?_;refine Qw 11 U U U ?_;refine zK (Qi U Yr)<|zK (Qo U QQ (fun hg=>by exact Cells.s0 (vs:=[_,_,_,_,_,_,_,_,_,_,_,_,_,_]) U) U)<|qg (vs:=[_]) U zoZ (fun hg=>zwo I _)<|QC U U U U U<|zA (zN (Qq (Qn (Qb ?_))))
  exact zr U U (by rw [zqb hi o,zyH hk,<-OV])
 have a8:p.kind≠2:=(by simpa using a3);refine zR (zC<|zA (zN ?_));refine zI ?_ ?_<;>intro r
 ·have hk:p.kind=3:=(by simpa using r);refine zR<|zF YK ?_
  refine zL Qr<|zC ?_
  refine zM ?_;refine Qw 3 U U U ?_;refine zK (Qi U Yr)<|zK (Qo U QQ (fun hg=>by exact Cells.s0 (vs:=[_,_,_,_,_,_,_,_,_,_,_,_,_,_]) U) U)<|zK (QK (ps:=[]) [_,_,_,_,_,_,_,_,_,_,_,_,_,_] JI U U)<|zK (Xa U U Um U)<|QC U U U U U<|zA (zN (Qq (Qn (Qb ?_))))
  first
  | exact zr U U (by rw [zqb hi o,zxX hk];rfl)
 have a9:p.kind≠3:=(by simpa using r);refine Qm<|Qg<|Qa<|zR<|zA<|zN<|Qq ?_
 first
 | exact zr U U (by rw [zqb hi o];unfold UI;rw [ja a7,ja a8,ja a9])
theorem zB4 (p:Pt)(r:Nd I p):kf 181 [Wd p] I (.int .i64 (pchk p)):=by
 intro g H w B;refine qe Tryz.func181 Tryz.ntmps181 B ?_;refine zR<|QU U U U (fun A=>zA (zN (Qk (zR<|zF YD ?_))))
 refine zL QA<|zQ Qt<|zC (zN ?_)
 refine zI ?_ ?_<;>intro o
 ·have d:p.needs.length>32:=(by rw [(show Sl _ 1 QF p.a p.n p.c p.needs from r).len];simp at o;omega);exact zR (zA (zN (Qq (Qb<|zr U U (by rw [zuv d])))))
 have d:¬p.needs.length>32:=(by rw [(show Sl _ 1 QF p.a p.n p.c p.needs from r).len];simp at o;omega);refine Qm (Qa (zR<|zV (Qo U YH (fun hg=>by exact Cells.g0) U)<|qcV (vs:=[_]) U zzr (zHy p r (by have:=(show Sl _ 1 QF p.a p.n p.c p.needs from r).len;omega)) ?_));refine zA<|zN<|Qk<|zR ?_;refine zM<|zO (zN ?_)
 refine zI ?_ ?_<;>intro h
 ·exact zR (zA (zN (Qq (Qb<|zr U U (by rw [<-zpz d,ja (by simpa using h)])))))
 exact Qm (Qa (zR (zA (zN (Qq<|zr U U (by rw [<-zpz d,jb (by simpa using h)]))))))
theorem zpF (Q:SlP I av n c ps)(hn:n<=100000)(t:Int):kf 135 [.slice av n c,.int .i64 t] I (.int .i64 (zod ps t)):=by
 intro g H w hw;refine qe Tryz.func135 Tryz.ntmps135 hw ?_;refine zR (zA (zN (Qk (zR<|zA (zN (Ql ?_))))));refine zU [(0,_),(1,_)] (fun T L0 mz E M o=>∃ (k:Nat),mz=n-k/\E=(5,.int .i64 k)::T/\I=M/\L0=o/\k<=n/\(ps.take k).any (idP t)=false) ?_ (h:=⟨0,U,U,U,U,jd _,by simp⟩);rintro mz E M o ⟨k,rfl,rfl,rfl,rfl,hk,B⟩;refine Qk (zR (zM<|zM ?_));refine zQ QV<|zC (zN ?_)
 refine zI ?_ ?_<;>intro J
 ·have A:k<n:=kd J;have G:=Q.1;obtain ⟨p,P⟩:=G.at A;refine Qm<|Qa<|Qk<|Ql<|zR<|zM ?_;refine zM ?_;refine zV (Qs U U QV kE (fun hg=>kB))<|zF Zq ?_
  refine zV (Qc U Qr (fun hg=>by exact zJJ G P U))<|zM<|zC (zN ?_)
  refine zI ?_ ?_<;>intro d
  ·refine zR (zM<|zA (zN (Qq (Qn (Qb (Qb (Qn (Qb ?_))))))))
   first
   | exact zr U U (by unfold zod;rw [V5 B P d])
  refine Qm<|Qg<|Qa<|Qh<|zM ?_;exact zB<|zA (Qe<|zm (h:=⟨n-(k+1),kB,k+1,U,U,U,U,kB,Z3 P B d⟩))
 have r:n<=k:=kd J;refine Qy (Qf (Qf (Qj (Qa (zR (zA (zN<|Qq ?_)))))))
 first
 | exact zr U U (by unfold zod;rw [VG Q.len r B])
theorem zHr (I:Qu)(p q:Pt)(on:Bool):kf 183 [Wd p,Wd q,.bool on] I (.bool (zbr p q on)):=by
 intro g H w B;refine qe Tryz.func183 Tryz.ntmps183 B ?_;refine zR<|QU U U U (fun r=>QU U U U (fun A=>zA (zN (Qk (zR<|zF ZB ?_)))))
 refine zL Qr<|zF ZB ?_
 refine zL Qr<|zC (zN ?_)
 refine zI ?_ ?_<;>intro d
 ·have h1:p.sign≠q.sign:=(by simpa using d);refine zR<|zA<|zN<|Qq<|Qb ?_
  first
  | exact zr U U (by unfold zbr;rw [jb h1])
 have h1:¬p.sign≠q.sign:=(by simpa using d);refine Qm (Qa (Qk (zR<|zF Yn ?_)));refine zL Qr<|zN (Ql (zR (zC<|zA (zN ?_))))
 refine zI ?_ ?_<;>intro h
 ·have h2:q.kind=2:=(by simpa using h);refine zR<|zF Yn ?_
  refine zL Qr<|zC ?_
  refine zM ?_;refine Qw 3 U U U ?_;refine zK (Qd U)<|QC U U U U U<|zA (zN (Qq (Qn (Qb ?_))))
  first
  | exact zr U U (by unfold zbr;rw [ja h1,jb h2])
 have h2:¬q.kind=2:=(by simpa using h);refine zR (zC<|zA (zN ?_));refine zI ?_ ?_<;>intro o
 ·have h3:q.kind=3:=(by simpa using o);refine zR (zM<|zO<|zA (zN (Qq (Qn (Qb ?_)))))
  first
  | exact zr U U (by unfold zbr;rw [ja h1,ja h2,jb h3])
 have h3:¬q.kind=3:=(by simpa using o);refine Qm<|Qg<|Qa<|zR<|zA<|zN<|Qq ?_
 first
 | exact zr U U (by unfold zbr;rw [ja h1,ja h2,ja h3])
theorem zEp (Q:SlP I av n c ps)(hn:n<=100000)(a7:∀ p∈ps,p.n<=100000):kf 182 [.slice av n c] I (.bool (lsB ps)):=by
 intro g H w hw;refine qe Tryz.func182 Tryz.ntmps182 hw ?_;refine zR (zA (zN (Qk (zR<|zA (zN (Ql ?_))))));refine zU [(0,_)] (fun T L0 mz E M o=>∃ (k:Nat),mz=n-k/\E=(3,.int .i64 k)::T/\I=M/\L0=o/\k<=n/\(List.range k).all (lsP ps)=true) ?_ (h:=⟨0,U,U,U,U,jd _,U⟩);rintro mz E M o ⟨k,rfl,rfl,rfl,rfl,hk,G⟩;refine Qk (zR (zM<|zM ?_));refine zQ QV<|zC (zN ?_)
 refine zI ?_ ?_<;>intro a5
 ·have r:k<n:=kd a5;have B:=Q.1;obtain ⟨p,hp,hN⟩:=Q.at r;have a8:=je hp;have hN:Sl I 1 QF p.a p.n p.c p.needs:=hN;have a9:=a7 p a8;refine Qm (Qa (Qk (Ql (Qk (Qk<|ZW mixed kA<|zq (Qd U)<|zq (Qx U U U)<|zq (Qd U)<|Yd 2 U U U<|zk (Qd U)<|zk (Qd U)<|zk (Qs U U QV kE (fun hg=>kB))<|zk (Qi U Zq)<|zk (Qc U Qr (fun hg=>by exact zJJ B hp U))<|zk (Qd U) ?_)))));refine zk (Qd U)<|zk (Zf U U U (fun hg=>kB))<|zk (Qs U U QV kE (fun hg=>by (simp [ZH] at hg;omega)))<|zk (Qi U Zq)<|zk (Qc U Qr (fun hg=>by exact zJJ (k:=((k:Int)-1).toNat) B (QE (d:=WL) Q.len (by simp [ZH] at hg;omega)) U))<|zk (Qx U U U)<|JM U U U U U<|ZX<|Qa ?_
  refine zI ?_ ?_<;>intro J
  ·refine zR (zA (zN (Qq (Qb (Qn (Qb (Qb<|Qn (Qb ?_))))))))
   first
   | exact zr U U (by unfold lsB;rw [Y9 (k:=k) (by rw [Q.len];exact r) (by rw [zoF hp];exact zGG J)])
  refine Qm (Qa (zR (zA (zN (Ql<|zU [(0,_),(3,_)] (fun T L0 mz E M o=>∃ (j:Nat),mz=p.n-j/\E=(4,.int .i64 j)::T/\I=M/\L0=o/\j<=p.n/\(p.needs.take j).any (fun n=> !X7 ps n)=false) ?_ (h:=⟨0,U,U,U,U,jd _,by simp⟩))))));rintro mz E M o ⟨j,rfl,rfl,rfl,rfl,hj,a3⟩;refine Qk (zR (zM<|zM ?_));refine zM ?_;refine zV (Qs U U QV kE (fun hg=>kB))<|zF YD ?_
  refine zV (Qc U QA (fun hg=>by exact zJJ B hp U))<|zQ Qt<|zC (zN ?_)
  refine zI ?_ ?_<;>intro P
  ·have a2:j<p.n:=kd P;obtain ⟨y,hy⟩:=hN.at a2;refine Qm<|Qa<|Qk<|Ql<|zR<|zM ?_;refine zM ?_;refine zM ?_;refine zV (Qs U U QV kE (fun hg=>kB))<|zF YD ?_
   refine zV (Qc U QA (fun hg=>by exact zJJ B hp U))<|zM ?_
   refine zV (Qs U U Qt kE (fun hg=>kB)) ?_;refine zV (Qc U Qr (fun hg=>by exact zJA hN hy U))<|qcV (vs:=[_,_]) U zik (zpF Q hn _)<|zC (zN ?_)
   refine zI ?_ ?_<;>intro A
   ·refine zR (zA (zN (Qq (Qn (Qb (Qb (Qn<|Qn (Qb (Qb (Qn (Qb ?_)))))))))))
    first
    | exact zr U U (by unfold lsB;rw [Y9 (k:=k) (by rw [Q.len];exact r) (by rw [zoF hp];exact zHB (YN hy (by rw [zjf] at A;exact A)))])
   refine Qm<|Qg<|Qa<|Qh<|zM ?_;refine zB<|zA (Qe ?_)
   exact zm (h:=⟨p.n-(j+1),kB,j+1,U,U,U,U,kB,Z3 hy a3 (by rw [zjf] at A;exact A)⟩)
  have a1:p.n<=j:=kd P;rw [QZ hN.len a1] at a3;refine Qy<|Qf<|Qf<|Qj<|Qg<|Qa<|Qh<|zM ?_;refine zB<|zA (Qe ?_)
  exact zm (h:=⟨n-(k+1),kB,k+1,U,U,U,U,kB,YT G (by rw [zoF hp];exact zBT J a3)⟩)
 have a6:n<=k:=kd a5;refine Qy (Qf (Qf (Qj (Qa (zR (zA (zN<|Qq ?_)))))))
 first
 | exact zr U U (by unfold lsB;rw [Q.len,show n=k by omega,G])
theorem zs4 (d:SlP I av n c ps)(g:n<=100000)(h:zod ps t=m):kf 135 [.slice av n c,.int .i64 t] I (.int .i64 (m:Int)):=h ▸ zpF d g t
theorem zq5 (r:SlP I av n c ps)(hn:n<=100000)(hL:Lst ps)(d5:∀ p∈ps,p.n<=100000):kg 79 [.slice av n c] I [] (zJv ps n):=by
 intro g H w hw;refine qe Tryz.func79 Tryz.ntmps79 hw ?_;have a3:=zJH I;refine zR (zA<|zN (zR<|zA (zN (Qk (zR<|zA (zN (Ql ?_)))))));refine zU [(0,_)] (fun T L0 mz E M d=>∃ (k:Nat) (v:Value) (Y:List Hd) (L:Go.Kn.Loc),mz=n-k/\E=(3,v)::(4,.int .i64 k)::T/\HLe I M/\L=d/\k<=n/\OwnS 202 1 v k (Y.flatMap Kv) L/\zbb M ps n Y k) ?_ (h:=⟨0,_,[],[],U,U,zJH _,U,jd _,OwnS.nil,zbb.nil⟩);rintro mz E J1 d ⟨k,v,Y,L,rfl,rfl,hJ,rfl,hk,hO,hq⟩;have r:=r.mono hJ;have a3:=a3.trans hJ;have a1:=hJ;refine Qk (zR (zM<|zM ?_));refine zQ QV<|zC (zN ?_)
 refine zI ?_ ?_<;>intro J
 ·have a6:k<n:=kd J;have b4:=r.1;obtain ⟨p,hp,hN⟩:=r.at a6;have b7:=je hp;have hN:Sl J1 1 QF p.a p.n p.c p.needs:=hN;have e4:=d5 p b7;refine Qm (Qa (Qk (Ql (zR (zM<|zQ QV ?_)))));refine Q1 zoq U U kB kC U U (fun o=>zA (Qe ?_));have e0:((n:Int)).toNat=n:=rfl;rw [e0,zdA];refine Qa (Qk (zR (zA (zN (Ql<|zU [(0,_),(3,_),(4,_),(5,_)] (fun T L0 mz E M d=>∃ (j:Nat) (F:List Bool),mz=p.n-j/\E=(6,.int .i64 j)::T/\J1=M/\(o,.cells (V8 F) 4 (0,0))::L=d/\j<=p.n/\Uk ps (fun _=>ztc ps p j) F) ?_ (h:=⟨0,List.replicate n false,U,U,U,U,jd _,zqc r.len⟩))))));rintro mz E M d ⟨j,F,rfl,rfl,rfl,rfl,hj,hr⟩;refine Qk (zR (zM<|zM ?_));refine zM ?_;refine zV (Qs U U QV kE (fun hg=>kB))<|zF YD ?_
  refine zV (Qc U QA (fun hg=>by exact zJJ b4 hp U))<|zQ Qt<|zC (zN ?_)
  refine zI ?_ ?_<;>intro P
  ·have a5:j<p.n:=kd P;obtain ⟨y,hy⟩:=hN.at a5;obtain ⟨m,q,d4,a8,b0,c6⟩:=hL.need_at hp (je hy);refine Qm<|Qa<|Qk<|Ql<|zR<|zM ?_;refine zM ?_;refine zM ?_;refine zV (Qs U U QV kE (fun hg=>kB))<|zF YD ?_
   refine zV (Qc U QA (fun hg=>by exact zJJ b4 hp U))<|zM ?_
   refine zV (Qs U U Qt kE (fun hg=>kB)) ?_;refine zV (Qc U Qr (fun hg=>by exact zJA hN hy U))<|qcV (vs:=[_,_]) U zik (zs4 r hn c6) ?_
   refine zA<|zN (zR ?_)
   refine zM ?_;refine zM ?_;refine zV (QD U U Jq (fun hg=>kB))<|Zx U U zs0 U U (by repeat (first | exact Upd.here | apply Upd.there | apply QN)) (zHn (by rw [hr.1,r.len];omega))<|Qe ?_
   rw [zab];refine Qa<|Qk ?_;obtain ⟨hd,b6⟩:∃ hd,Y[m]? =some hd:=⟨_,jf (by rw [hq.1];exact d4)⟩;obtain ⟨d9,bo,co,c0,rfl,rfl,b9,e3,e1⟩:=hO.spot VH kC b6;obtain ⟨e2,G⟩:=hq.2 m hd q b6 a8;refine Qh (zA (zN (Ql<|zU [(0,_),(3,_),(4,_),(5,_),(6,_),(7,_)] (fun T L0 mz E M d=>∃ (i:Nat) (A:List Bool),mz=m-i/\E=(8,.int .i64 i)::T/\J1=M/\(o,.cells (V8 A) 4 (0,0))::[(bo,.cells c0.toArray 202 (0,0))]=d/\i<=m/\Uk ps (zrs ps p j y i) A) ?_ (h:=⟨0,F.set m true,U,U,U,U,jd _,zxi hL hr a8 b0⟩))));rintro mz E M d ⟨i,A,rfl,rfl,rfl,rfl,hi,B⟩;refine Qk (zR (zM<|zM<|zC (zN ?_)));refine zI ?_ ?_<;>intro Q
   ·have d3:i<m:=kd Q;obtain ⟨qi,a7⟩:=r.1.at (show i<n by omega);have b5:=B.2 i qi a7;have d6:(KZ ps q)[i]? =some (onF ps y qi.id):=(by rw [<-b0];simp [KZ,a7]);refine Qm<|Qa<|Qk<|Ql<|Qh<|zM ?_;refine zM ?_;refine zM ?_;refine zM ?_;refine zV (QD U U Jq (fun hg=>kB))<|zV (Qc U K1 (fun hg=>by exact zFe b5))<|zM ?_
    refine QI 6 U U U ?_;refine zJ (Qd U)<|zJ (Qd U)<|zJ (QD U U zbM (fun hg=>kB))<|zJ (Qc U zbU (fun hg=>by exact zJB (QO.seg b9 U)))<|zJ (Qd U)<|zJ (zX Jq G)<|zJ (Qc U K1 (fun hg=>by exact zJA G d6 U))<|Q5 U U U U U<|zV (QD U U Jq (fun hg=>kB))<|Zx U U zs0 U U (by repeat (first | exact Upd.here | apply Upd.there | apply QN)) (zHn (by rw [B.1,r.len];omega))<|Qe ?_
    rw [zab];refine Qg<|Qa<|Qh<|zM ?_;exact zB<|zA (Qe<|zm (h:=⟨m-(i+1),kB,i+1,_,U,U,U,U,kB,zs1 B a7 b5⟩))
   have c7:m<=i:=kd Q;have d1:i=m:=kB;subst d1;refine Qy<|Qf<|Qf<|Qj<|Qg<|Qa<|Qh<|zM ?_;exact zB<|zA (Qe<|zm (h:=⟨p.n-(j+1),kB,j+1,_,U,U,U,U,kB,zsF hL hy a8 b0 B⟩))
  have c8:p.n<=j:=kd P;have hj:j=p.needs.length:=(by rw [hN.len];omega);subst hj;have d7:=zrH hL b7 hr;subst d7;refine Qy (Qf (Qf (Qj (Qa<|Zk .here (fun I4 a2 c4=>?_)))));have r:=r.mono a2;have hq:=hq.mono a2;have a1:=a1.trans a2;have c5:=c4;have b8:Sl I4 1 zc1 (some ⟨o,0,none⟩) n n (KZ ps p):=Sl.lit _ (by simp [KZ,r.len]) Xt c5;refine Qh (zM<|zM ?_);refine zpb [(0,_)] [Kv ⟨some ⟨o,0,none⟩,n,n⟩] zqw (fun d8=>?_);refine zpa (_) ([(⟨some ⟨o,0,none⟩,n,n⟩:Hd)].flatMap Kv) (L) U U zqw hO ⟨U,fun _=>U,zJF⟩ (zlN _) ?_;intro v9 L9 b3 _;rw [<-jh] at b3;refine zA (Qe (Qg (Qa (Qh<|zM ?_))));exact zB<|zA (Qe<|zm (h:=⟨n-(k+1),kB,k+1,_,_,_,U,U,a1,U,kB,b3,hq.snoc hp b8⟩))
 have d0:n<=k:=kd J;have d2:k=n:=kB;subst d2;refine Qy (Qf (Qf (Qj (Qa (zR (zM<|zA (zN (Qq ?_))))))));exact Zc U U (fun w hw=>by obtain ⟨I9,b1,c1,c2⟩:=OwnS.res hO VH kC hw;obtain ⟨_,a9,c9,e9,b2⟩:=c2;rw [hq.1] at e9 b2;exact ⟨_,I9,[],U,a3.trans b1,c1,U,a9,c9,e9,(hq.mono b1).slm r.len b2⟩)
theorem zIp (_hp:ps[i]? =some p)(d:ps[k]? =some q)(g:ps[i]? =some p)(h:(((i:Int) != (k:Int))&& !zbr p q b)=false):(p.id==q.id||zbr p q b)=true:=by
 by_cases e:i=k
 ·subst e;rw [g] at d;cases d;simp
 have:((i:Int) != (k:Int))=true:=by rw [Ba];omega
 rw [this,Ou] at h;simp at h;simp [h]
theorem zIj (hL:Lst ps)(o:ps[i]? =some p)(r:ps[k]? =some q)(h:(((i:Int) != (k:Int))&& !zbr p q b)=true):(p.id==q.id||zbr p q b)=false:=by rw [ji] at h;have h1:i≠k:=(by have:=h.1;rw [Ba] at this;omega);have h2:zbr p q b=false:=(by simpa using h.2);rw [h2,OQ,OL];intro e;have d:=hL.fnd o;have g:=hL.fnd r;rw [e,g] at d;omega
theorem zve (A:SlP I av n c ps)(hn:n<=100000):kf 130 [.slice av n c] I (.int .i64 (JL ps)):=by
 intro g H w hw;refine qe Tryz.func130 Tryz.ntmps130 hw ?_;have B:=zJH I;refine zR<|zA<|zN<|Qk<|zR ?_;refine zM ?_;refine zQ QV<|zC (zN ?_)
 refine zI ?_ ?_<;>intro a3
 ·have o:ps.length>512:=(by rw [A.len];simp at a3;omega);exact zR (zA (zN (Qq (Qb<|zp B U U (by rw [zwd o])))))
 have o:¬ps.length>512:=(by rw [A.len];simp at a3;omega);refine Qm (Qa (Qk (zR (zA (zN (Ql<|zU [(0,_)] (fun T L0 mz E M d=>∃ (k:Nat),mz=n-k/\E=(3,.int .i64 k)::T/\I=M/\L0=d/\k<=n/\orF ((ps.take k).map pchk)=0) ?_ (h:=⟨0,U,U,U,U,jd _,U⟩)))))));rintro mz E M d ⟨k,rfl,rfl,rfl,rfl,hk,h0⟩;refine Qk (zR (zM<|zM ?_));refine zQ QV<|zC (zN ?_)
 refine zI ?_ ?_<;>intro a5
 ·have J:k<n:=kd a5;have b9:=A.1;obtain ⟨p,P,hN⟩:=A.at J;refine Qm<|Qa<|Qk<|Ql<|zR<|zM ?_;refine zM ?_;refine zV (Qs U U QV kE (fun hg=>kB))<|zV (Qo U YH (fun hg=>by exact zJI b9 P) U)<|qcV (vs:=[_]) U zxk (zB4 p hN) ?_
  refine zA<|zN (zR ?_)
  refine zM<|zC (zN ?_)
  refine zI ?_ ?_<;>intro a6
  ·have b5:JL ps=pchk p:=zvn o P h0 (by simpa using a6);exact zR (zM<|zA (zN (Qq (Qn (Qb (Qb (Qn (Qb<|zp B U U (by rw [b5])))))))))
  have c1:pchk p=0:=(by simpa using a6);refine Qm<|Qg<|Qa<|Qh<|zM ?_;exact zB<|zA (Qe<|zm (h:=⟨n-(k+1),kB,k+1,U,U,U,U,kB,znW P h0 c1⟩))
 have G:n<=k:=kd a5;have h0:orF (ps.map pchk)=0:=(by rw [QZ A.len G] at h0;exact h0);have hz:∀ p∈ps,pchk p=0:=fun p P=>KV.1 h0 _ (jt.2 ⟨p,P,U⟩);have b6:=zBg A hz;refine Qy (Qf (Qf (Qj (Qa (Qk (zR (zM<|qcV (vs:=[_]) U zyK (zEp A hn b6)<|zO (zN ?_))))))));refine zI ?_ ?_<;>intro a7
 ·have a1:lsB ps=false:=(by simpa using a7);exact zR (zA (zN (Qq (Qb<|zp B U U (by rw [zuR o h0 a1])))))
 have a1:lsB ps=true:=(by simpa using a7);have hL:Lst ps:=zjw h0 a1;refine Qm (Qa (zR (zM<|zpc [_] U zkI .nil (zq5 A hn hL b6) ?_)));rintro c4 I2 L2 b4 ⟨rfl,ao,co,rfl,hM⟩;have A:=A.mono b4;have B:=B.trans b4;refine zA (zN (Qk (zR<|zA (zN (Ql ?_)))));refine zU [(0,_),(5,_)] (fun T L0 mz E M d=>∃ (i:Nat),mz=n-i/\E=(6,.int .i64 i)::T/\I2=M/\L0=d/\i<=n/\((ps.take i).all fun p=>ps.all fun q=>(p.id==q.id||zbr p q (onF ps p.id q.id)))=true) ?_ (h:=⟨0,U,U,U,U,jd _,by simp⟩);rintro mz E M d ⟨i,rfl,rfl,rfl,rfl,hi,b3⟩;refine Qk (zR (zM<|zM ?_));refine zQ QV<|zC (zN ?_)
 refine zI ?_ ?_<;>intro a8
 ·have a2:i<n:=kd a8;obtain ⟨p,P⟩:=A.1.at a2;obtain ⟨Y,hd,r,hH,c0,b8,Q⟩:=hM.at a2;have hr:r=KZ ps p:=(by rw [jB,P] at b8;exact (Ob b8).symm);subst hr;have c2:n=hd.n:=(by rw [<-Q.len,<-A.len];simp [KZ]);refine Qm (Qa (Qk (Ql (zR (zA (zN (Ql<|zU [(0,_),(5,_),(6,_)] (fun T L0 mz E M d=>∃ (k:Nat),mz=n-k/\E=(7,.int .i64 k)::T/\I2=M/\L0=d/\k<=n/\((ps.take k).all fun q=>(p.id==q.id||zbr p q (onF ps p.id q.id)))=true) ?_ (h:=⟨0,U,U,U,U,jd _,by simp⟩))))))));rintro mz E M d ⟨k,rfl,rfl,rfl,rfl,hk,b2⟩;refine Qk (zR (zM<|zM ?_));refine zQ QV<|zC (zN ?_)
  refine zI ?_ ?_<;>intro a9
  ·have J:k<n:=kd a9;obtain ⟨q,hq⟩:=A.1.at J;have hb:(KZ ps p)[k]? =some (onF ps p.id q.id):=(by simp [KZ,hq]);refine Qm (Qa (Qk (Ql (Qk<|ZW mixed kA<|zq (Qd U)<|zq (Qd U)<|zq (Qx U U U)<|zq (Qd U)<|Yd 3 U U U<|zk (Qd U)<|zk (Qd U)<|zk (Qs U U QV A.1 (fun hg=>kB))<|zk (Qo U YH (fun hg=>by exact zJI A.1 P) U)<|zk (Qd U) ?_))));refine zk (Qd U)<|zk (Qs U U QV A.1 (fun hg=>kB))<|zk (Qo U YH (fun hg=>by exact zJI A.1 hq) U)<|zk (Qd U)<|zk (Qd U)<|zk (zX zbM hH)<|zk (Qc U zbU (fun hg=>by exact zJA hH c0 U))<|zk (Qd U)<|zk (zX Jq Q)<|zk (Qc U K1 (fun hg=>by exact zJA Q hb U))<|Va (cap:=[]) (vs:=[_,_,_]) U U zwP (fun hg=>zHr _ p q (onF ps p.id q.id)) (.some U U U U gbt) U U<|zk (ZT U) ?_
   refine JM U U U U U<|ZX<|Qa ?_
   refine zI ?_ ?_<;>intro b0
   ·exact zR (zA (zN (Qq (Qn (Qb (Qb (Qn<|Qn (Qb (Qb (Qn (Qb<|zp B U U (by rw [ziV o h0 a1 (zsO P (zdF hq (zIj hL P hq b0)))]))))))))))))
   refine Qm<|Qg<|Qa<|Qh<|zM ?_;exact zB<|zA (Qe<|zm (h:=⟨n-(k+1),kB,k+1,U,U,U,U,kB,X9 hq b2 (zIp P hq P b0)⟩))
  have G:n<=k:=kd a9;rw [QZ A.len G] at b2;have b7:=b2;refine Qy<|Qf<|Qf<|Qj<|Qg<|Qa<|Qh<|zM ?_;exact zB<|zA (Qe<|zm (h:=⟨n-(i+1),kB,i+1,U,U,U,U,kB,X9 P b3 b7⟩))
 have b1:n<=i:=kd a8;rw [QZ A.len b1] at b3;exact Qy (Qf (Qf (Qj (Qa (zR (zA (zN<|Qq<|zp B U U (by rw [zvT o h0 a1 b3]))))))))
def ChQ (ps:List Pt)(O:List Int)(n:Nat):Value->Qu->Go.Kn.Loc->Prop:=fun v _ L=>(chB ps O=false/\v= .tuple #[.slice none 0 0,.bool false]/\L=[])\/(chB ps O=true/\∃ b,v= .tuple #[.slice (some ⟨b,0,none⟩) n n,.bool true]/\L=[(b,.cells (V8 (ps.map (chF O))) 4 (0,0))])
def VrQ (ps:List Pt)(O:List Int)(n:Nat):Value->Qu->Go.Kn.Loc->Prop:=fun v _ L=>(X6 ps O=false/\v= .tuple #[.slice none 0 0,.bool false]/\L=[])\/(X6 ps O=true/\∃ b,v= .tuple #[.slice (some ⟨b,0,none⟩) n n,.bool true]/\L=[(b,.cells (V8 (ps.map (chF O))) 4 (0,0))])
theorem zkc (hP:SlP I av n c ps)(hn:n<=100000)(hL:Lst ps)(G:Sl I 1 QF Z V W O)(b3:V<=100000):kg 185 [.slice av n c,.slice Z V W] I [] (ChQ ps O n):=by
 intro g H w hw;refine qe Tryz.func185 Tryz.ntmps185 hw ?_;refine zR (zA<|zA<|zN (zR ?_));refine zM ?_;refine zQ QV ?_;refine Q1 zoq U U kB kC U U (fun o=>zA (Qe ?_));have e0:((n:Int)).toNat=n:=rfl;rw [e0,zdA];refine Qa (Qk (zR (zA (zN (Ql<|zU [(0,_),(1,_),(6,_)] (fun T L0 mz E M B=>∃ (k:Nat) (F:List Bool),mz=V-k/\E=(7,.int .i64 k)::T/\I=M/\[(o,.cells (V8 F) 4 (0,0))]=B/\k<=V/\Uk ps (fun _=>chF (O.take k)) F/\(List.range k).all (zoi O)=true/\(O.take k).all (X7 ps)=true) ?_ (h:=⟨0,List.replicate n false,U,U,U,U,jd _,(Uk.new hP.len).congr (fun j q _=>by simp [chF]),U,by simp⟩))))));rintro mz E M B ⟨k,F,rfl,rfl,rfl,rfl,hk,hr,a5,J⟩;refine Qk (zR (zM<|zM ?_));refine zQ Qt<|zC (zN ?_)
 refine zI ?_ ?_<;>intro r
 ·have a1:k<V:=kd r;obtain ⟨y,hy⟩:=G.at a1;refine Qm<|Qa<|Qk<|Ql<|zR<|zM ?_;refine zM ?_;refine zM ?_;refine zV (Qs U U Qt kE (fun hg=>kB)) ?_;refine zV (Qc U Qr (fun hg=>by exact zJA G hy U))<|qcV (vs:=[_,_]) U zik (zpF hP hn y) ?_
  refine zA (zN (Qk (Qk<|ZW mixed kA<|zq (Qd U)<|zq (Qx U U U)<|zq (Qd U)<|Ym 2 U U U<|zj (Qd U)<|zj (Qx U U U)<|zj (Qd U)<|Yd 5 U U U<|zk (Qd U)<|zk (Qd U) ?_)));refine zk (Qs U U Qt kE (fun hg=>kB))<|zk (Qc U Qr (fun hg=>by exact zJA G hy U))<|zk (Qd U)<|zk (Qd U)<|zk (Zf U U U (fun hg=>kB))<|zk (Qs U U Qt kE (fun hg=>by (simp [ZH] at hg;omega)))<|zk (Qc U Qr (fun hg=>by exact zJA (k:=((k:Int)-1).toNat) G (QE (d:=0) G.len (by simp [ZH] at hg;omega)) U))<|zk (Qx U U U)<|UX U U U (.some U U U U gbf) U U<|Jm U U U U U<|ZX<|Qa ?_
  refine zI ?_ ?_<;>intro A
  ·have a3:=zGC hy A;exact zR (zA<|zA (zN (Qq (Qb (Qn (Qb (Qb (Qn<|Qb<|QY U U U (fun w hw=>⟨_,I,[],U,zJH _,hw.drop,.inl ⟨a3,U,U⟩⟩)))))))))
  have a2:=zEz hy A;obtain ⟨m,q,a6,b0,a9,a7⟩:=zwJ hL a2.1;have b2:m<n:=(by rw [<-hP.len];exact a6);rw [a7];refine Qm<|Qa<|Qh<|zM ?_;refine zM ?_;refine zV (QD U U Jq (fun hg=>kB))<|Zx U U zs0 U U (by repeat (first | exact Upd.here | apply Upd.there | apply QN)) (zHn (by rw [hr.1];exact a6))<|Qe ?_
  rw [zab];refine Qg<|Qa<|Qh<|zM ?_;exact zB<|zA (Qe<|zm (h:=⟨V-(k+1),kB,k+1,_,U,U,U,U,kB,zzC hL hr hy b0 a9,YT a5 a2.2,X9 hy J a2.1⟩))
 have P:V<=k:=kd r;rw [QZ G.len P] at hr J;have a8:k=O.length:=(by rw [G.len];omega);subst a8;have Q:=zDg a5 J;have b1:=hr.eq;subst b1;exact Qy (Qf (Qf (Qj (Qa (zR (zM<|zA<|zA (zN (Qq<|QY U U U (fun w hw=>⟨_,I,_,U,zJH _,hw,.inr ⟨Q,o,U,U⟩⟩)))))))))
variable{a3:List Bool}
theorem zrU (B:SlP I av n c ps)(hn:n<=100000)(hL:Lst ps)(b7:∀ p∈ps,p.n<=100000)(h0:Uk ps (fun _=>f) a3)(b0:Nat):kg 188 [.slice av n c,.slice (some ⟨b0,0,none⟩) n n] I [(b0,.cells (V8 a3) 4 (0,0))] (fun v _M L=>∃ Lo,L=Lo++[(b0,.cells (V8 a3) 4 (0,0))]/\OwnS 4 1 v n ((ps.map (zDH ps f)).flatMap zc1) Lo):=by
 intro g H w hw;refine qe Tryz.func188 Tryz.ntmps188 hw ?_;have P:=zJH I;refine zR (zA<|zN (zR ?_));refine zM<|zpc [_] U zkI .nil (zq5 B hn hL b7) ?_
 rintro c5 I1 L1 a5 ⟨rfl,ao,co,rfl,hM⟩;have B:=B.mono a5;have P:=P.trans a5;refine zA<|zN (zR<|zpb [] [] zqi (fun a2=>zM<|zpa (_) (a3.flatMap zc1) ([(a2,_)]) U U zqi OwnS.new ⟨by rw [ZF Xt,h0.1,B.len],fun _=>U,zJE zJF⟩ (zHR _) ?_))
 intro v1 L1 a6 _;rw [Oi,Oj] at a6;refine zA (zN (Qk (zR<|zA (zN (Ql ?_)))));refine zU [(0,_),(1,_),(5,_),(6,_)] (fun T L0 mz E M d=>∃ (i:Nat) (L:Go.Kn.Loc) (F:List Bool),mz=n-i/\E=(7,.int .i64 i)::T/\I1=M/\L++[(b0,.cells (V8 a3) 4 (0,0))]=d/\i<=n/\OwnS 4 1 v1 n (F.flatMap zc1) L/\Uk ps (fun _=>clK ps f i) F) ?_ (h:=⟨0,L1,a3,U,U,U,U,jd _,a6,zrk h0⟩);rintro mz E M d ⟨i,L,F,rfl,rfl,rfl,rfl,hi,hO,hr⟩;refine Qk (zR (zM<|zM ?_));refine zQ QV<|zC (zN ?_)
 refine zI ?_ ?_<;>intro G
 ·have A:i<n:=kd G;obtain ⟨p,hp⟩:=B.1.at A;have b4:=h0.2 i p hp;obtain ⟨Y,hd,r,hH,b6,a9,o⟩:=hM.at A;have b8:r=KZ ps p:=(by rw [jB,hp] at a9;exact (Ob a9).symm);subst b8;have c2:n=hd.n:=(by rw [<-o.len,<-B.len];simp [KZ]);refine Qm (Qa (Qk (Ql (zR (zA (zN (Ql<|zU [(0,_),(1,_),(5,_),(6,_),(7,_)] (fun T L0 mz E M d=>∃ (k:Nat) (L:Go.Kn.Loc) (F:List Bool),mz=n-k/\E=(8,.int .i64 k)::T/\I1=M/\L++[(b0,.cells (V8 a3) 4 (0,0))]=d/\k<=n/\OwnS 4 1 v1 n (F.flatMap zc1) L/\Uk ps (clJ ps f i p k) F) ?_ (h:=⟨0,L,F,U,U,U,U,jd _,hO,zHz hr⟩))))))));rintro mz E M d ⟨k,L,F,rfl,rfl,rfl,rfl,hk,hO,hr⟩;refine Qk (zR (zM<|zM ?_));refine zQ QV<|zC ?_
  refine zM ?_;refine Qw 4 U U U ?_;refine zK (Qd U) ?_;refine zK (Qd U)<|zK (QD U U Jq (fun hg=>kB))<|zK (Qc U K1 (fun hg=>by exact zJD (zFe b4)))<|QC U U U U U<|zN ?_
  refine zI ?_ ?_<;>intro J
  ·have h9:=(ji _ _).mp J;have a1:k<n:=(by have h:=h9.1;simp at h;omega);have b5:f p=true:=h9.2;obtain ⟨q,hq⟩:=B.1.at a1;have a7:=hr.2 k q hq;have hb:(KZ ps p)[k]? =some (onF ps p.id q.id):=(by simp [KZ,hq]);refine Qm<|Qa<|Qk<|Ql ?_;obtain ⟨c4,bo,c0,c1,rfl,rfl,b3,b2,b1⟩:=hO.spot1 (u:=Value.bool) (fun _=>U) a7;refine Qh (zM<|zM ?_);refine zM ?_;refine zM ?_;refine zV (QD U U Jq (fun hg=>kB))<|zV (Qc U K1 (fun hg=>by exact b3 _ _))<|zM ?_
   refine QI 6 U U U ?_;refine zJ (Qd U)<|zJ (Qd U)<|zJ (zX zbM hH)<|zJ (Qc U zbU (fun hg=>by exact zJA hH b6 U))<|zJ (Qd U)<|zJ (zX Jq o)<|zJ (Qc U K1 (fun hg=>by exact zJA o hb U))<|Q5 U U U U U<|zV (QD U U Jq (fun hg=>kB))<|Zx U U zs0 U U (by repeat (first | exact Upd.here | apply Upd.there | apply QN)) b2 ?_
   refine Qe<|Qg<|Qa<|Qh<|zM ?_;refine zB<|zA (Qe ?_)
   exact zm (h:=⟨n-(k+1),kB,k+1,_,_,U,U,U,U,kB,b1 _,zA9 b5 hr hq a7⟩)
  have a8:=zEx B.len J;refine Qy<|Qf<|Qf<|Qj<|Qg<|Qa<|Qh<|zM ?_;exact zB<|zA (Qe<|zm (h:=⟨n-(i+1),kB,i+1,_,_,U,U,U,U,kB,hO,zAQ hp hr (a8)⟩))
 have Q:n<=i:=kd G;have b9:=zCH B.len Q hr;subst b9;exact Qy (Qf (Qf (Qj (Qa (zR (zM<|zA (zN (Qq<|Zc U U (fun w hw=>⟨_,_,_,U,P,hw,L,U,hO⟩)))))))))
theorem zIe (hP:SlP I av n c ps)(hn:n<=100000)(hF:Sl I 1 zc1 Z n W (ps.map f)):kg 187 [.slice av n c,.slice Z n W] I [] (Jv 1 QF (zqQ ps f)):=by
 intro g H w hw;refine qe Tryz.func187 Tryz.ntmps187 hw ?_;have a6:=zJH I;refine zR (zA<|zN (zR<|zA (zN (Qk (zR<|zA (zN (Ql ?_)))))));refine zU [(0,_),(1,_)] (fun T L0 mz E M r=>∃ (k:Nat) (v:Value) (q:Nat) (L:Go.Kn.Loc),mz=n-k/\E=(5,v)::(6,.int .i64 k)::T/\I=M/\L=r/\k<=n/\OwnS 3 1 v q ((zqQ (ps.take k) f).flatMap QF) L/\q<=k) ?_ (h:=⟨0,_,0,[],U,U,U,U,jd _,by rw [AB];exact OwnS.nil,jn _⟩);rintro mz E M r ⟨k,v,q,L,rfl,rfl,rfl,rfl,hk,P,hq⟩;refine Qk (zR (zM<|zM ?_));refine zQ QV<|zC (zN ?_)
 refine zI ?_ ?_<;>intro d
 ·have B:k<n:=kd d;have J:=hP.1;obtain ⟨p,Q⟩:=J.at B;have hb:(ps.map f)[k]? =some (f p):=(by simp [Q]);refine Qm<|Qa<|Qk<|Ql<|zR<|zM ?_;refine zM ?_;refine zV (Qs U U Jq kE (fun hg=>kB)) ?_;refine zV (Qc U K1 (fun hg=>by exact zJA hF hb U))<|zN ?_
  refine zI ?_ ?_<;>intro o
  ·refine Qh (zM<|zM ?_);refine zM ?_;refine zV (Qs U U QV kE (fun hg=>kB))<|zF Zq ?_
   refine zV (Qc U Qr (fun hg=>by exact zJJ J Q U))<|zpb [(0,_)] [QF p.id] QS (fun a7=>?_)
   refine zpa (_) ([p.id].flatMap QF) (L) U U QS P ⟨U,fun _=>U,zJF⟩ (YJ [p.id]) ?_;intro v9 L9 G _;rw [<-jh] at G;refine zA (Qe (Qg (Qa (Qh<|zM ?_))));refine zB<|zA (Qe ?_)
   first
   | exact zm (h:=⟨n-(k+1),kB,k+1,_,_,_,U,U,U,U,kB,by rw [zAV Q o];exact G,kB⟩)
  refine Qm<|Qg<|Qa<|Qh<|zM ?_;refine zB<|zA (Qe ?_)
  first
  | exact zm (h:=⟨n-(k+1),kB,k+1,_,_,_,U,U,U,U,kB,by rw [zDr Q o];exact P,kB⟩)
 have A:n<=k:=kd d;rw [QZ hP.len A] at P;refine Qy (Qf (Qf (Qj (Qa (zR (zM<|zA (zN (Qq ?_))))))));exact Zc U U (fun w hw=>by obtain ⟨I9,a1,a2,a5⟩:=OwnS.res P QL kC hw;exact ⟨_,I9,[],U,a6.trans a1,a2,a5⟩)
theorem zA4 (g:SlP I av n c ps)(r:n<=100000)(hL:Lst ps)(o:Sl I 1 QF Z V W O)(d:V<=100000)(h:chB ps O=false):kg 185 [.slice av n c,.slice Z V W] I [] (fun v _ L=>v= .tuple #[.slice none 0 0,.bool false]/\L=[]):=
 (zkc g r hL o d).mono fun v M L _ w=>w.elim (fun h1=>h1.2) (fun h1=>by rw [h] at h1;cases h1.1)
theorem zsn (g:SlP I av n c ps)(r:n<=100000)(hL:Lst ps)(o:Sl I 1 QF Z V W O)(d:V<=100000)(h:chB ps O=true):kg 185 [.slice av n c,.slice Z V W] I [] (fun v _ L=>∃ b,v= .tuple #[.slice (some ⟨b,0,none⟩) n n,.bool true]/\L=[(b,.cells (V8 (ps.map (chF O))) 4 (0,0))]):=
 (zkc g r hL o d).mono fun v M L _ w=>w.elim (fun h1=>by rw [h] at h1;cases h1.1) (fun h1=>h1.2)
theorem zsZ (J:SlP I av n c ps)(Q:n<=100000)(hL:Lst ps)(_T:∀ p∈ps,p.n<=100000)(P:Sl I 1 QF Z V W O)(A:V<=100000)(o:chB ps O=false):kg 132 [.slice av n c,.slice Z V W] I [] (VrQ ps O n):=by
 intro g H w B;refine qe Tryz.func132 Tryz.ntmps132 B ?_;have d:=zJH I;refine zR (zA<|zA<|zN (zR ?_));refine zM ?_;refine zM<|zpc [_,_] U zqr .nil (zA4 J Q hL P A o) ?_
 rintro a1 G L1 r ⟨rfl,rfl⟩;have d:=d.trans r;refine zM ?_;refine zE ?_;refine zE ?_;refine zA<|zA (zN (Qk (zR ?_)))
 refine zM<|zO<|zM ?_
 refine QI 2 U U U<|KR (.bool false) U (.some U U U U gbf) U U U<|KR (.bool false) U (.some U U U U gbf) U U U<|KR (.bool false) U (.some U U U U gbf) U U U<|KR (.bool false) U (.some U U U U gbf) U U U<|KR (.bool false) U (.some U U U U gbf) U U U<|KR (.bool false) U (.some U U U U gbf) U U U<|KR (.bool false) U (.some U U U U gbf) U U U<|KR (.bool false) U (.some U U U U gbf) U U U<|Q5 U U U U U<|zN ?_
 refine zI ?_ ?_<;>intro h
 ·refine zR (zA<|zA (zN (Qq (Qb ?_))))
  first
  | exact QY U U U (fun w B=>⟨_,G,[],U,d,B.drop,.inl ⟨by unfold X6;rw [o];rfl,U,U⟩⟩)
 cases h
theorem znE (o:SlP I av n c ps)(hn:n<=100000)(hL:Lst ps)(a5:∀ p∈ps,p.n<=100000)(r:Sl I 1 QF Z V W O)(a2:V<=100000)(h:chB ps O=true):kg 132 [.slice av n c,.slice Z V W] I [] (VrQ ps O n):=by
 intro g H w T;refine qe Tryz.func132 Tryz.ntmps132 T ?_;have d:=zJH I;refine zR (zA<|zA<|zN (zR ?_));refine zM ?_;refine zM<|zpc [_,_] U zqr .nil (zsn o hn hL r a2 h) ?_
 rintro a8 I1 L1 B ⟨b9,rfl,rfl⟩;have o:=o.mono B;have r:=r.mono B;have d:=d.trans B;refine zM ?_;refine zE ?_;refine zE ?_;refine zA<|zA (zN (Qk (zR ?_)))
 refine zM<|zO ?_
 refine zM<|QR (dj:=16) U U U<|zM<|QR (dj:=16) U U U<|zM<|QR (dj:=16) U U U<|zM<|QR (dj:=16) U U U<|zpc [_,_] U zzE (by repeat (first | exact .cons .here .nil | exact Zp | exact Q6 | apply ZC | apply Zz)) (zrU o hn hL a5 (Uk.of ps (chF O)) b9) ?_
 rintro b0 I2 L2 G ⟨Lo,rfl,hO⟩;have o:=o.mono G;have r:=r.mono G;have d:=d.trans G;refine QR (dj:=16) U U U<|zdk hO Xt kC (zo6 Q6) (fun I3 J a6 a7 a1 hF=>?_)
 subst a1;have o:=o.mono J;have r:=r.mono J;have d:=d.trans J;refine zpc [_,_] U zw4 .nil (zIe o hn hF) ?_;rintro b1 I4 L4 P ⟨rfl,a9,c9,rfl,hR⟩;have o:=o.mono P;have r:=r.mono P;have d:=d.trans P;refine QR (dj:=16) U U U<|zM<|QR (dj:=16) U U U<|qcV (vs:=[_,_]) U zxo (zzO hR (by rw [zhr hL h];exact jO (by unfold zfz;rw [ju];exact jE ..) (by rw [o.len];omega)) r)<|QR (dj:=16) U U U<|zO<|zV (Z2 U U U)<|zN ?_
 refine zI ?_ ?_<;>intro A
 ·have Q:X6 ps O=false:=(by unfold X6;rw [h,Ou,<-zhr hL h];simpa using A);exact zR (zA<|zA (zN (Qq (Qb<|QY U U U (fun w T=>⟨_,I4,[],U,d,T.drop,.inl ⟨Q,U,U⟩⟩)))))
 have Q:X6 ps O=true:=(by unfold X6;rw [h,Ou,<-zhr hL h];simpa using A);refine Qm (Qa (zR (zM<|zA<|zA (zN (Qq ?_)))));exact QY U U U (fun w T=>⟨_,I4,_,U,d,T.subL (by repeat (first | exact .refl | exact Q3 | refine .drop ?_ | refine ZN ?_)),.inr ⟨Q,b9,U,U⟩⟩)
theorem zf2 (o:SlP I av n c ps)(w:n<=100000)(hL:Lst ps)(g:∀ p∈ps,p.n<=100000)(r:Sl I 1 QF Z V W O)(d:V<=100000):kg 132 [.slice av n c,.slice Z V W] I [] (VrQ ps O n):=by
 cases h:chB ps O with
 | false=>exact zsZ o w hL g r d h
 | true=>exact znE o w hL g r d h
theorem zFu (o:SlP I av n c ps)(w:n<=100000)(hL:Lst ps)(g:∀ p∈ps,p.n<=100000)(r:Sl I 1 QF Z V W O)(d:V<=100000)(h:X6 ps O=false):kg 132 [.slice av n c,.slice Z V W] I [] (fun v _ L=>v= .tuple #[.slice none 0 0,.bool false]/\L=[]):=
 (zf2 o w hL g r d).mono fun v M L _ A=>A.elim (fun h1=>h1.2) (fun h1=>by rw [h] at h1;cases h1.1)
theorem zyv (o:SlP I av n c ps)(w:n<=100000)(hL:Lst ps)(g:∀ p∈ps,p.n<=100000)(r:Sl I 1 QF Z V W O)(d:V<=100000)(h:X6 ps O=true):kg 132 [.slice av n c,.slice Z V W] I [] (fun v _ L=>∃ b,v= .tuple #[.slice (some ⟨b,0,none⟩) n n,.bool true]/\L=[(b,.cells (V8 (ps.map (chF O))) 4 (0,0))]):=
 (zf2 o w hL g r d).mono fun v M L _ A=>A.elim (fun h1=>by rw [h] at h1;cases h1.1) (fun h1=>h1.2)
def ixK (ps:List Pt)(P:Pt->Bool)(k:Nat):List Int:=((List.range k).filter fun i=>P (ps.getD i WL)).map fun i:Nat=>(i:Int)
variable{P:Pt->Bool}
theorem zaW (d:ps[k]? =some p)(h:P p=true):ixK ps P (k+1)=ixK ps P k++[(k:Int)]:=by unfold ixK;rw [Ok,jH,Oc,jb (by rw [QJ d];exact h),Od];rfl
theorem zgg (d:ps[k]? =some p)(h:P p=false):ixK ps P (k+1)=ixK ps P k:=by unfold ixK;rw [Ok,jH,Oc,ja (by rw [QJ d,h];exact O7)];simp
theorem zF0 :(ixK ps P k).length<=k:=by unfold ixK;rw [ju];exact jO (jE ..) kJ
theorem zFb {x:Int}(o:k<=ps.length)(h:x∈ixK ps P k):∃ (m:Nat) (p:Pt),x=(m:Int)/\m<k/\ps[m]? =some p/\P p=true:=by unfold ixK at h;obtain ⟨m,g,rfl⟩:=jt.1 h;obtain ⟨h1,h2⟩:=jP.1 g;rw [jq] at h1;have d:ps[m]? =some (ps[m]' kB):=jf _;exact ⟨m,_,U,h1,d,by rw [QJ d] at h2;exact h2⟩
def atI (ps:List Pt)(x:Int):Pt:=ps.getD x.toNat WL
theorem zus {ps:List Pt}{P:Pt->Bool}:∀ {k:Nat},k<=ps.length->(ixK ps P k).map (atI ps)=(ps.take k).filter P
 | 0,_=>by simp [ixK]
 | k+1,hk=>by
  have d:ps[k]? =some (ps[k]'(show k<ps.length by omega)):=jf _;have ih:=zus (ps:=ps) (P:=P) (k:=k) kB
  cases h:P (ps[k]'(show k<ps.length by omega)) with
  | true=>
   rw [zaW d h,zhN d h,Od,ih,List.map_singleton];unfold atI;rw [show ((k:Int)).toNat=k from U,QJ d]
  | false=>rw [zgg d h,zqg d h,ih]
theorem zhq (d:ps.length=n):(ixK ps P n).map (atI ps)=ps.filter P:=by rw [zus kB,jr kB]
theorem zcj (d:ps.length=n):(ixK ps P n).length=(ps.filter P).length:=by rw [<-zhq d,ju]
theorem zC1 {Q:Pt->Bool}(d:ps.length=n):((ixK ps P n).any fun x=>Q (atI ps x))=ps.any fun p=>P p&&Q p:=by have h:=jA (fun l=>l.any Q) (zhq (P:=P) d);simp only [List.any_map,List.any_filter] at h;exact h
theorem zzg {x:Int}(g:ps.length=n)(d:(ixK ps P n)[j]? =some x):∃ (m:Nat) (p:Pt),x=(m:Int)/\m<n/\ps[m]? =some p/\(ps.filter P)[j]? =some p:=by obtain ⟨m,p,rfl,h1,h2,_⟩:=zFb kB (je d);refine ⟨m,p,U,h1,h2,?_⟩;rw [<-zhq (P:=P) g,jB,d,Ow];unfold atI;rw [show ((m:Int)).toNat=m from U,QJ h2]
theorem zE0 (h:ps[m]? =some p):atI ps (m:Int)=p:=by unfold atI;rw [show ((m:Int)).toNat=m from U,QJ h]
def rmP (s:Int)(p:Pt):Bool:=p.sign==s&&p.kind==3
def seP (ps:List Pt)(s:Int)(p:Pt):Bool:=(p.sign==s&&p.kind==1)&&ps.any fun r=>rmP s r&& !onF ps r.id p.id
def stP (s f:Int)(p:Pt):Bool:=(p.kind==1&&p.sign==s)&&p.field==f
def laP (ps:List Pt)(s f:Int)(p:Pt):Bool:=stP s f p&& !ps.any fun q=>stP s f q&&onF ps q.id p.id
theorem zCe (ps:List Pt)(s:Int):rmF ps s=(ps.filter (rmP s)).map (·.id):=by unfold rmF;refine jA (List.map _) (AP fun p _=>?_);unfold rmP;exact BV _ _
theorem zGS (ps:List Pt)(s:Int):unF (onF ps) ps s=ps.filter (seP ps s):=by
 unfold unF;refine AP fun p _=>?_;unfold unB seP;by_cases e:p.sign=s
 ·subst e;rw [zCe,List.any_map,List.any_filter,OV];rfl
 ·rw [show (p.sign==s)=false by simpa using e];rfl
theorem zHD (ps:List Pt)(s f:Int):stF ps s f=ps.filter (stP s f):=by unfold stF;refine AP fun p _=>?_;unfold stP;exact (OV _ _ _).symm
theorem ztb (ps:List Pt)(s f:Int):JF (onF ps) ps s f=ps.filter (laP ps s f):=by unfold JF;rw [zHD,List.filter_filter];refine AP fun p _=>?_;unfold laP;rw [List.any_filter,BV]
theorem zIF (d:ps.length=n):((((ixK ps (rmP s) n).length:Int)==0)||decide (((ixK ps (seP ps s) n).length:Int)>0))=exB (onF ps) ps s:=by
 rw [zcj d,zcj d];unfold exB;rw [zGS,zCe,List.isEmpty_map];congr 1
 ·cases ps.filter (rmP s)<;>simp;omega
 ·cases ps.filter (seP ps s)<;>simp
theorem zrx (r:xs.length=n)(w:i<=n)(g:∀ q z,q<i->xs[q]? =some z->z.id<t)(o:i=n\/∃ z,xs[i]? =some z/\¬z.id<t):zly Sg.id xs t=i:=by
 unfold zly
 induction xs generalizing i n with
 | nil=>simp at r;simp;omega
 | cons x xs ih=>
  cases i with
  | zero=>
   rcases o with h | ⟨z,d,h⟩
   ·simp at r;omega
   ·simp at d;subst d;rw [Bi,ja (by simpa using h)];rfl
  | succ i=>
   have h0:=g 0 x kB U;rw [Bi,jb (by simpa using h0),jx];simp only [jx] at r
   have:=ih (i:=i) (n:=n-1) kB kB (fun q z A d=>g (q+1) z kB (by simpa using d)) (by
    rcases o with h | ⟨z,d,h⟩
    ·left;omega
    ·exact .inr ⟨z,by simpa using d,h⟩)
   omega
theorem zrz (d:∀ q z,q<k->xs[q]? =some z->z.id<t)(o:xs[k]? =some x)(h:x.id<t):∀ q z,q<k+1->xs[q]? =some z->z.id<t:=fun q z r g=>by
 by_cases e:q=k
 ·subst e;rw [o] at g;cases g;exact h
 ·exact d q z kB g
theorem zJi (_g:xs.length=n)(d:xs[i]? =some x)(h:(decide ((i:Int)<(n:Int))&&decide ((xs.getD i Yc).id<t))=true):x.id<t:=by rw [ji,QJ d] at h;exact Oq h.2
theorem zJw (r:xs.length=n)(o:i<=n)(d:∀ q z,q<i->xs[q]? =some z->z.id<t)(h:(decide ((i:Int)<(n:Int))&&decide ((xs.getD i Yc).id<t))=false):zly Sg.id xs t=i:=by
 refine zrx r o d ?_;by_cases e:i=n
 ·exact .inl e
 ·right;have g:xs[i]? =some (xs[i]' kB):=jf _;refine ⟨_,g,?_⟩;rw [QJ g,jN (show (i:Int)<(n:Int) by omega),Ou] at h;exact AI h
theorem zfG (d:l[k]? =some p):Ul N (l.take (k+1))=if p.kind=2 then zdr (Ul N (l.take k)) p.nw else Ul N (l.take k):=by rw [Z0 d,zbq]
def ftP (N:List Sg)(l:List Pt)(p:Pt):Bool:=((p.kind==2&&Xf N p.sign)||((p.kind != 2&& !Xf N p.sign)&& !ziW l p.sign))
theorem zvE (N:List Sg)(l:List Pt)(p:Pt):((p.kind==2&&decide (KA (fun x:Sg=>x.id==p.sign) N>=0))||((p.kind != 2&& !decide (KA (fun x:Sg=>x.id==p.sign) N>=0))&&decide (KA (fun q:Pt=>q.kind==2&&q.sign==p.sign) l<0)))=ftP N l p:=by rw [Ut,znO];rfl
theorem zEy (N:List Sg)(l:List Pt)(p:Pt):zvA N l p= !ftP N l p:=rfl
theorem zDJ {f:Int}(r:ps.length=n)(d:b=(stP s f p&& !(ps.take k).any fun q=>stP s f q&&onF ps q.id p.id))(h:(decide ((k:Int)<(n:Int))&&b)=false):b=laP ps s f p:=by
 unfold laP;by_cases o:n<=k
 ·rw [d,jr kB]
 ·rw [jN (show (k:Int)<(n:Int) by omega),Ou] at h;rw [h];rw [h] at d
  cases Y:stP s f p with
  | false=>rfl
  | true=>
   rw [Y,Ou] at d;have h2:((ps.take k).any fun q=>stP s f q&&onF ps q.id p.id)=true:=(by simpa using d.symm);rw [jD] at h2;obtain ⟨q,g,h3⟩:=h2;rw [jD.2 ⟨q,Au g,h3⟩];rfl
theorem zCI {f:Int}(d:ps[k]? =some q)(h:(stP s f q&&onF ps q.id p.id)=true):false=(stP s f p&& !(ps.take (k+1)).any fun q=>stP s f q&&onF ps q.id p.id):=by rw [Wv d,h];simp
theorem zDw {f:Int}(g:ps[k]? =some q)(h:(stP s f q&&onF ps q.id p.id)=false)(d:b=(stP s f p&& !(ps.take k).any fun q=>stP s f q&&onF ps q.id p.id)):b=(stP s f p&& !(ps.take (k+1)).any fun q=>stP s f q&&onF ps q.id p.id):=by rw [Wv g,h,OQ];exact d
theorem zE6 {f:Int}(d:ps.length=n)(h:decide (((ixK ps (laP ps s f) n).length:Int)>0)=false):JF (onF ps) ps s f=[]:=by rw [ztb];rw [zcj d] at h;exact OI (by simp at h;simpa using h)
theorem zuW (h:JL ps=0)(h2:Kg N=0)(h3:¬ws.length>512)(h4:(X6 ps ws&&zb0 N (Zi ps ws))=false):KM ps N ws=380:=by unfold KM;rw [ja kB,ja kB,ja h3,h4];rfl
theorem zxL (h:JL ps=0)(h2:Kg N=0)(h3:¬ws.length>512)(h4:X6 ps ws=true)(h5:zb0 N (Zi ps ws)=true):KM ps N ws=0:=by unfold KM;rw [ja kB,ja kB,ja h3,h4,h5];rfl
theorem zv1 (h:JL ps=0)(h2:Kg N=0)(h3:ws.length>512):KM ps N ws=2:=by unfold KM;rw [ja kB,ja kB,jb h3]
def zlg (e:Int)(xs:List Pt):Value->Qu->Go.Kn.Loc->Prop:=fun v M L=>L=[]/\∃ av c,v= .tuple #[.slice av xs.length c,.int .i64 e]/\SlP M av xs.length c xs
theorem zlg.empty {xs:List Pt}(h:xs=[]):zlg e xs (.tuple #[.slice none 0 0,.int .i64 e]) I []:=by subst h;exact ⟨U,none,0,U,.nil⟩
theorem ztq (h:KM ps N ws=0):exL (onF (Zi ps ws)) (Zi ps ws) (Ul N (Zi ps ws))=Jl (onF ps) N (Zi ps ws):=by obtain ⟨h1,_,h3,_⟩:=zgI h;exact zxO (zga (V3 h1) h3) N
theorem zAZ (h:KM ps N ws=0)(h2:(Jl (onF ps) N (Zi ps ws)).length>4096):za3 ps N ws=2:=by unfold za3;rw [ja kB,jb h2]
theorem zrd (h:KM ps N ws=0)(h2:¬(Jl (onF ps) N (Zi ps ws)).length>4096):za3 ps N ws=0:=by unfold za3;rw [ja kB,ja h2]
theorem zBk {f:Int}(h:l[0]? =some p):zkR x f l=Jk x f p.nw:=by
 cases l with
 | nil=>cases h
 | cons q l=>simp at h;subst h;rfl
theorem zpq (J:Sl I 14 YA av n c xs)(hn:n<=100000)(t:Int):kf 41 [.slice av n c,.int .i64 t] I (.int .i64 (KA (fun x:Sg=>x.id==t) xs)):=by
 intro g H w hw;refine qe Tryz.func41 Tryz.ntmps41 hw ?_;refine zR (zA (zN (Qk (zR<|zA (zN (Ql ?_))))));refine zU [(0,_),(1,_)] (fun T L0 mz E M o=>∃ (k:Nat),mz=n-k/\E=(5,.int .i64 k)::T/\I=M/\L0=o/\k<=n/\(xs.take k).any (fun x=>x.id==t)=false) ?_ (h:=⟨0,U,U,U,U,jd _,by simp⟩);rintro mz E M o ⟨k,rfl,rfl,rfl,rfl,hk,B⟩;refine Qk (zR (zM<|zM ?_));refine zQ Z7<|zC (zN ?_)
 refine zI ?_ ?_<;>intro G
 ·have A:k<n:=kd G;obtain ⟨x,Q⟩:=J.at A;refine Qm<|Qa<|Qk<|Ql<|zR<|zM ?_;refine zM ?_;refine zV (Qs U U Z7 kE (fun hg=>kB))<|zF Zu ?_
  refine zV (Qc U Qr (fun hg=>by exact zJJ J Q U))<|zM<|zC (zN ?_)
  refine zI ?_ ?_<;>intro d
  ·refine zR (zM<|zA (zN (Qq (Qn (Qb (Qb (Qn (Qb ?_))))))));exact zr U U (by rw [V5 (p:=fun x:Sg=>x.id==t) B Q d])
  refine Qm<|Qg<|Qa<|Qh<|zM ?_;exact zB<|zA (Qe<|zm (h:=⟨n-(k+1),kB,k+1,U,U,U,U,kB,Z3 Q B d⟩))
 have r:n<=k:=kd G;exact Qy (Qf (Qf (Qj (Qa (zR (zA (zN<|Qq<|zr U U (by rw [VG J.len r B]))))))))
theorem zIo (r:Sl I 14 YA av n c xs)(hn:n<=100000)(k:Sg):kg 127 [.slice av n c,VD k] I [] (Jv 14 YA (zdr xs k)):=by
 intro g H w hw;refine qe Tryz.func127 Tryz.ntmps127 hw ?_;have b1:=zJH I;have b4:=r.cap;refine zR<|QU U U U (fun a8=>zA<|zN (zR<|zA (zN (Qk (Ql ?_)))))
 refine zU [(0,_),(3,_)] (fun T L0 mz E M A=>∃ (i:Nat),mz=n-i/\E=(5,.int .i64 i)::T/\I=M/\(a8,.cells (YA k).toArray 54 (0,0))::[]=A/\i<=n/\∀ q z,q<i->xs[q]? =some z->z.id<k.id) ?_ (h:=⟨0,U,U,U,U,jd _,fun q z h=>absurd h kB⟩);rintro mz E M A ⟨i,rfl,rfl,rfl,rfl,hi,a5⟩;refine Qk (Qk<|ZW mixed kA<|zq (Qd U)<|zq (Qd U)<|zq (Zs U Z7)<|zq (Qx U U U)<|zq (Qd U)<|Yd 4 U U U<|zk (Qd U)<|zk (Qd U)<|zk (Qs U U Z7 kE (fun hg=>by (simp [ZH] at hg;omega)))<|zk (Qi U Zu) ?_);refine zk (Qc U Qr (fun hg=>by exact zJJ (k:=i) r (QE (d:=Yc) r.len (by simp [ZH] at hg;omega)) U))<|zk (Qi U Zu)<|zk (Qc U Qr (fun hg=>by exact QO.h0 U))<|zk (Qx U U U)<|JM U U U U U<|ZX<|Qa ?_
 refine zI ?_ ?_<;>intro o
 ·have B:i<n:=(by have h:=((ji _ _).mp o).1;simp at h;omega);obtain ⟨x,hx⟩:=r.at B;have a6:x.id<k.id:=zJi r.len hx o;refine Qm<|Qa<|Ql<|Qh<|zM ?_;exact zB<|zA (Qe (Qg<|zm (h:=⟨n-(i+1),kB,i+1,U,U,U,U,kB,zrz a5 hx a6⟩)))
 have b2:zly Sg.id xs k.id=i:=zJw r.len hi a5 o;have a7:=zAH (xs:=xs) (k:=k);rw [b2] at a7;refine Qy (Qf (Qf (Qj (Qa (zR<|zpb [] [] Vy (fun G=>zM ?_))))));refine zM ?_;refine zV (zaF U U Z7 (fun hg=>kB))<|zpa (_) ((xs.take i).flatMap YA) ([(G,_)]) U U Vy OwnS.new ((r.take hi).src Yp) (zcW _) ?_
 intro v1 L1 Q _;rw [Oi,Oj] at Q;refine zA<|zN (zR ?_)
 refine zM<|zV (Qo U QQ (fun hg=>by (repeat (first | exact zJF | apply zJE | apply zJG))) U)<|zpb [(0,_)] [YA k] Vy (fun b3=>?_)
 refine zpa (_) ([k].flatMap YA) (L1) U U Vy Q ⟨U,fun _=>U,by repeat (first | exact zJF | apply zJE | apply zJG)⟩ (zcW [k]) ?_;intro v2 L2 a1 _;rw [<-jh] at a1;refine zA<|zN (zR ?_)
 refine zM ?_;refine zM ?_;refine zM ?_;refine zV (Wu U U Z7 (fun hg=>kB))<|zpa (_) ((xs.drop i).flatMap YA) (L2) U U Vy a1 ((r.drop hi).src Yp) (zcW _) ?_
 intro v3 L3 a2 _;rw [<-jh] at a2;refine zA<|zN<|Qq ?_;exact Zc U U (fun w hw=>by obtain ⟨I9,a9,b0,J⟩:=OwnS.res a2 Yp kC (hw.subL Q3);rw [<-a7] at J;exact ⟨_,I9,[],U,b1.trans a9,b0,J⟩)
theorem zCF (d:SlP I av n c ps):∀ p∈ps.filter f,Nd I p:=fun p g=>d.2 p (jP.1 g).1
theorem zJp (hP:SlP I av n c ps)(hn:n<=100000)(hF:Sl I 1 zc1 Z n W (ps.map f)):kg 133 [.slice av n c,.slice Z n W] I [] (Jv 19 Y5 (ps.filter f)):=by
 intro g H w hw;refine qe Tryz.func133 Tryz.ntmps133 hw ?_;have a6:=zJH I;refine zR (zA<|zN (zR<|zA (zN (Qk (zR<|zA (zN (Ql ?_)))))));refine zU [(0,_),(1,_)] (fun T L0 mz E M r=>∃ (k:Nat) (v:Value) (q:Nat) (L:Go.Kn.Loc),mz=n-k/\E=(5,v)::(6,.int .i64 k)::T/\I=M/\L=r/\k<=n/\OwnS 57 19 v q (((ps.take k).filter f).flatMap Y5) L/\q<=k) ?_ (h:=⟨0,_,0,[],U,U,U,U,jd _,by rw [AB];exact OwnS.nil,jn _⟩);rintro mz E M r ⟨k,v,q,L,rfl,rfl,rfl,rfl,hk,Q,hq⟩;refine Qk (zR (zM<|zM ?_));refine zQ QV<|zC (zN ?_)
 refine zI ?_ ?_<;>intro d
 ·have B:k<n:=kd d;have J:=hP.1;obtain ⟨p,hp⟩:=J.at B;have hb:(ps.map f)[k]? =some (f p):=(by simp [hp]);refine Qm<|Qa<|Qk<|Ql<|zR<|zM ?_;refine zM ?_;refine zV (Qs U U Jq kE (fun hg=>kB)) ?_;refine zV (Qc U K1 (fun hg=>by exact zJA hF hb U))<|zN ?_
  refine zI ?_ ?_<;>intro o
  ·refine Qh (zM<|zM ?_);refine zM ?_;refine zV (Qs U U QV kE (fun hg=>kB))<|zV (Qo U YH (fun hg=>by exact zJI J hp) U)<|zpb [(0,_)] [Y5 p] UO (fun a7=>?_)
   refine zpa (_) ([p].flatMap Y5) (L) U U UO Q ⟨U,fun _=>U,zJF⟩ (znR [p]) ?_;intro v9 L9 G _;rw [<-jh] at G;refine zA (Qe (Qg (Qa (Qh<|zM ?_))));refine zB<|zA (Qe ?_)
   first
   | exact zm (h:=⟨n-(k+1),kB,k+1,_,_,_,U,U,U,U,kB,by rw [zhN hp o];exact G,kB⟩)
  refine Qm<|Qg<|Qa<|Qh<|zM ?_;refine zB<|zA (Qe ?_)
  first
  | exact zm (h:=⟨n-(k+1),kB,k+1,_,_,_,U,U,U,U,kB,by rw [zqg hp o];exact Q,kB⟩)
 have A:n<=k:=kd d;rw [QZ hP.len A] at Q;refine Qy (Qf (Qf (Qj (Qa (zR (zM<|zA (zN (Qq ?_))))))));exact Zc U U (fun w hw=>by obtain ⟨I9,a1,a2,a5⟩:=OwnS.res Q Yj kC hw;exact ⟨_,I9,[],U,a6.trans a1,a2,a5⟩)
theorem zHl (hP:SlP I av n c ps)(hn:n<=100000)(s:Int):kf 189 [.slice av n c,.int .i64 s] I (.int .i64 (KA (fun q:Pt=>q.kind==2&&q.sign==s) ps)):=by
 intro g H w hw;refine qe Tryz.func189 Tryz.ntmps189 hw ?_;refine zR (zA (zN (Qk (zR<|zA (zN (Ql ?_))))));refine zU [(0,_),(1,_)] (fun T L0 mz E M o=>∃ (k:Nat),mz=n-k/\E=(5,.int .i64 k)::T/\I=M/\L0=o/\k<=n/\(ps.take k).any (fun q:Pt=>q.kind==2&&q.sign==s)=false) ?_ (h:=⟨0,U,U,U,U,jd _,by simp⟩);rintro mz E M o ⟨k,rfl,rfl,rfl,rfl,hk,G⟩;refine Qk (zR (zM<|zM ?_));refine zQ QV<|zC (zN ?_)
 refine zI ?_ ?_<;>intro J
 ·have B:k<n:=kd J;have r:=hP.1;obtain ⟨p,Q⟩:=r.at B;refine Qm<|Qa<|Qk<|Ql<|zR<|zM ?_;refine zM ?_;refine zV (Qs U U QV kE (fun hg=>kB))<|zF Yn ?_
  refine zV (Qc U Qr (fun hg=>by exact zJJ r Q U))<|zC ?_
  refine zM ?_;refine Qw 6 U U U ?_;refine zK (Qd U) ?_;refine zK (Qd U)<|zK (Qs U U QV kE (fun hg=>kB))<|zK (Qi U ZB) ?_
  refine zK (Qc U Qr (fun hg=>by exact zJJ r Q U))<|zK (Qd U) ?_
  refine zK (Qx U U U) ?_;refine QC U U U U U<|zN ?_
  refine zI ?_ ?_<;>intro d
  ·refine zR (zM<|zA (zN (Qq (Qn (Qb (Qb (Qn (Qb ?_))))))));exact zr U U (by rw [V5 (p:=(fun q:Pt=>q.kind==2&&q.sign==s)) G Q d])
  refine Qm<|Qg<|Qa<|Qh<|zM ?_;exact zB<|zA (Qe<|zm (h:=⟨n-(k+1),kB,k+1,U,U,U,U,kB,Z3 Q G d⟩))
 have A:n<=k:=kd J;exact Qy (Qf (Qf (Qj (Qa (zR (zA (zN<|Qq<|zr U U (by rw [VG hP.len A G]))))))))
theorem zEg (hP:SlP I av n c ps)(hn:n<=100000)(hB:Sl I 14 YA Z V W N)(a1:V<=100000):kf 134 [.slice av n c,.slice Z V W] I (.bool (zb0 N ps)):=by
 intro g H w hw;refine qe Tryz.func134 Tryz.ntmps134 hw ?_;refine zR (zA (zN (Qk (zR<|zA (zN (Ql ?_))))));refine zU [(0,_),(1,_)] (fun T L0 mz E M B=>∃ (k:Nat),mz=n-k/\E=(5,.int .i64 k)::T/\I=M/\L0=B/\k<=n/\(ps.take k).all (zvA N ps)=true) ?_ (h:=⟨0,U,U,U,U,jd _,by simp⟩);rintro mz E M B ⟨k,rfl,rfl,rfl,rfl,hk,o⟩;refine Qk (zR (zM<|zM ?_));refine zQ QV<|zC (zN ?_)
 refine zI ?_ ?_<;>intro r
 ·have J:k<n:=kd r;have d:=hP.1;obtain ⟨p,Q⟩:=d.at J;refine Qm<|Qa<|Qk<|Ql<|zR<|zM ?_;refine zM ?_;refine zM ?_;refine zV (Qs U U QV kE (fun hg=>kB))<|zF ZB ?_
  refine zV (Qc U Qr (fun hg=>by exact zJJ d Q U))<|qcV (vs:=[_,_]) U zt8 (zpq hB a1 _)<|zC<|zA<|zN (zR ?_)
  refine zM ?_;refine zM ?_;refine zV (Qs U U QV kE (fun hg=>kB))<|zF Yn ?_
  refine zV (Qc U Qr (fun hg=>by exact zJJ d Q U))<|zC ?_
  refine zM ?_;refine Qw 6 U U U ?_;refine zK (Qd U)<|QC U U U U U ?_
  refine zM ?_;refine QI 9 U U U ?_;refine zJ (Qd U)<|zJ (Qd U)<|zJ (Qs U U QV kE (fun hg=>kB))<|zJ (Qi U Yn) ?_
  refine zJ (Qc U Qr (fun hg=>by exact zJJ d Q U)) ?_;refine zJ (Qx U U U)<|zJ (Qd U)<|Qw 16 U U U ?_
  refine zK (Qd U)<|zK (ZT U)<|ze5 U U U (.some U U U U gbf) U U<|zJ (Qd U)<|Qw 20 U U U ?_
  refine zK (Qd U) ?_;refine zK (Qd U) ?_;refine zK (Qd U)<|zK (Qs U U QV kE (fun hg=>kB))<|zK (Qi U ZB) ?_
  refine zK (Qc U Qr (fun hg=>by exact zJJ d Q U))<|qg (vs:=[_,_]) U zAJ (fun hg=>zHl hP hn _)<|zK (Qx U U U)<|ze5 U U U (.some U U U U gbf) U U<|Q5 U U U U U<|zN ?_
  refine zI ?_ ?_<;>intro A
  ·refine zR (zA (zN (Qq (Qn (Qb (Qb (Qn<|Qb ?_)))))))
   first
   | exact zr U U (by unfold zb0;rw [zdF Q (by rw [zEy,<-zvE,A];rfl)])
  refine Qm<|Qg<|Qa<|Qh<|zM ?_;refine zB<|zA (Qe ?_)
  exact zm (h:=⟨n-(k+1),kB,k+1,U,U,U,U,kB,X9 Q o (by rw [zEy,<-zvE,A];rfl)⟩)
 have G:n<=k:=kd r;rw [QZ hP.len G] at o;refine Qy (Qf (Qf (Qj (Qa (zR (zA (zN<|Qq ?_)))))))
 first
 | exact zr U U (by unfold zb0;rw [o])
def UnQ (ps:List Pt)(s:Int)(n:Nat):Value->Qu->Go.Kn.Loc->Prop:=fun v M L=>L=[]/\∃ a1 c1 a2 W,v= .tuple #[.slice a1 (ixK ps (seP ps s) n).length c1,.slice a2 (ixK ps (rmP s) n).length W]/\Sl M 1 QF a1 (ixK ps (seP ps s) n).length c1 (ixK ps (seP ps s) n)/\Sl M 1 QF a2 (ixK ps (rmP s) n).length W (ixK ps (rmP s) n)
variable{ov:Option Addr}{oc:Nat}
theorem zGN (hP:SlP I av n c ps)(hn:n<=100000)(hM:SlM zc1 1 I ov n oc (ps.map (KZ ps)))(s:Int):kg 179 [.slice av n c,.slice ov n oc,.int .i64 s] I [] (UnQ ps s n):=by
 intro g H w hw;refine qe Tryz.func179 Tryz.ntmps179 hw ?_;have b0:=zJH I;refine zR (zA<|zA<|zN (zR<|zA<|zN (zR<|zA (zN (Qk (zR<|zA (zN (Ql ?_))))))));refine zU [(0,_),(1,_),(2,_),(8,_)] (fun T L0 mz E M d=>∃ (k:Nat) (v:Value) (qr:Nat) (L:Go.Kn.Loc),mz=n-k/\E=(9,v)::(10,.int .i64 k)::T/\I=M/\L=d/\k<=n/\OwnS 3 1 v qr ((ixK ps (rmP s) k).flatMap QF) L/\qr<=k) ?_ (h:=⟨0,_,0,[],U,U,U,U,jd _,OwnS.nil,jn _⟩);rintro mz E M d ⟨k,v,qr,L,rfl,rfl,rfl,rfl,hk,hO,hq⟩;refine Qk (zR (zM<|zM ?_));refine zQ QV<|zC (zN ?_)
 refine zI ?_ ?_<;>intro a1
 ·have b4:k<n:=kd a1;have A:=hP.1;obtain ⟨p,hp⟩:=A.at b4;refine Qm<|Qa<|Qk<|Ql<|zR<|zM ?_;refine zM ?_;refine zV (Qs U U QV kE (fun hg=>kB))<|zF ZB ?_
  refine zV (Qc U Qr (fun hg=>by exact zJJ A hp U))<|zM<|zC ?_
  refine zM ?_;refine Qw 7 U U U ?_;refine zK (Qd U) ?_;refine zK (Qd U)<|zK (Qs U U QV kE (fun hg=>kB))<|zK (Qi U Yn) ?_
  refine zK (Qc U Qr (fun hg=>by exact zJJ A hp U))<|zK (Qx U U U) ?_
  refine QC U U U U U<|zN ?_
  refine zI ?_ ?_<;>intro a2
  ·refine Qh (zM<|zM ?_);refine zpb [(0,_)] [QF (k:Int)] QS (fun d3=>?_);refine zpa (_) ([(k:Int)].flatMap QF) (L) U U QS hO ⟨U,fun _=>U,zJF⟩ (YJ [(k:Int)]) ?_;intro v9 L9 B _;rw [<-jh] at B;refine zA (Qe (Qg (Qa (Qh<|zM ?_))));refine zB<|zA (Qe ?_)
   first
   | exact zm (h:=⟨n-(k+1),kB,k+1,_,_,_,U,U,U,U,kB,by rw [zaW hp a2];exact B,kB⟩)
  refine Qm<|Qg<|Qa<|Qh<|zM ?_;refine zB<|zA (Qe ?_)
  first
  | exact zm (h:=⟨n-(k+1),kB,k+1,_,_,_,U,U,U,U,kB,by rw [zgg hp a2];exact hO,kB⟩)
 have c6:n<=k:=kd a1;refine Qy (Qf (Qf (Qj (Qa (Qk (Qk<|zx4 hO QL (fun I2 a8 d5 d6 c0 G=>?_)))))));subst c0;have hP:=hP.mono a8;have hM:=hM.mono a8;have b0:=b0.trans a8;have d0:n=k:=kB;subst d0;have b7:=G.len;have d8:=zF0 (ps:=ps) (P:=rmP s) (k:=n);refine Qh (zA (zN (Ql<|zU [(0,_),(1,_),(2,_),(9,_)] (fun T L0 mz E M d=>∃ (i:Nat) (v:Value) (q:Nat) (L:Go.Kn.Loc),mz=n-i/\E=(8,v)::(11,.int .i64 i)::T/\I2=M/\L=d/\i<=n/\OwnS 3 1 v q ((ixK ps (seP ps s) i).flatMap QF) L/\q<=i) ?_ (h:=⟨0,_,0,[],U,U,U,U,jd _,OwnS.nil,jn _⟩))));rintro mz E M d ⟨i,v,q,L,rfl,rfl,rfl,rfl,hi,hO,hq⟩;refine Qk (zR (zM<|zM ?_));refine zQ QV<|zC (zN ?_)
 refine zI ?_ ?_<;>intro a5
 ·have b2:i<n:=kd a5;have A:=hP.1;obtain ⟨p,hp⟩:=A.at b2;refine Qm (Qa (Qk (Ql (zR (zA (zN (Qk<|zR (zA (zN (Ql<|zU [(0,_),(1,_),(2,_),(8,_),(9,_),(11,_)] (fun T L0 mz E M d=>∃ (j:Nat) (o:Bool),mz=qr-j/\E=(12,.bool o)::(13,.int .i64 j)::T/\I2=M/\L0=d/\j<=qr/\o=((ixK ps (rmP s) n).take j).any (fun x=> !onF ps (atI ps x).id p.id)) ?_ (h:=⟨0,false,U,U,U,U,jd _,by simp⟩)))))))))));rintro mz E M d ⟨j,o,rfl,rfl,rfl,rfl,hj,ho⟩;refine Qk (zR (zM<|zM ?_));refine zQ Qt<|zC (zN ?_)
  refine zI ?_ ?_<;>intro a6
  ·have b3:j<qr:=kd a6;obtain ⟨x,hx⟩:=G.at b3;obtain ⟨m,r,rfl,d1,b8,_⟩:=zzg hP.len hx;obtain ⟨Y,hd,rr,hH,c7,b9,J⟩:=hM.at d1;have d2:rr=KZ ps r:=(by rw [jB,b8] at b9;exact (Ob b9).symm);subst d2;have d7:n=hd.n:=(by rw [<-J.len,<-hP.len];simp [KZ]);have hb:(KZ ps r)[i]? =some (onF ps r.id p.id):=(by simp [KZ,hp]);refine Qm<|Qa<|Qk<|Ql<|Qh<|zM ?_;refine zM ?_;refine QI 1 U U U ?_;refine zJ (Qd U)<|zJ (Qd U)<|zJ (Qd U)<|zJ (zX Qt G)<|zJ (Qc U Qr (fun hg=>by exact zJA G hx U))<|zJ (zX zbM hH)<|zJ (Qc U zbU (fun hg=>by exact zJA hH c7 U))<|zJ (Qd U)<|zJ (zX Jq J)<|zJ (Qc U K1 (fun hg=>by exact zJA J hb U))<|zJ (ZT U)<|Q5 U U U U U ?_
   refine zA (Qe (Qg (Qa (Qh<|zM ?_))));exact zB<|zA (Qe<|zm (h:=⟨qr-(j+1),kB,j+1,_,U,U,U,U,kB,by rw [Wv hx,<-ho,zE0 b8]⟩))
  have b1:qr<=j:=kd a6;rw [QZ b7 b1,zC1 (Q:=fun r=> !onF ps r.id p.id) hP.len] at ho;refine Qy (Qf (Qf (Qj (Qa (zR (zM<|zM ?_))))));refine zV (Qs U U QV kE (fun hg=>kB))<|zF ZB ?_
  refine zV (Qc U Qr (fun hg=>by exact zJJ A hp U))<|zM<|zC ?_
  refine zM ?_;refine Qw 7 U U U ?_;refine zK (Qd U) ?_;refine zK (Qd U)<|zK (Qs U U QV kE (fun hg=>kB))<|zK (Qi U Yn) ?_
  refine zK (Qc U Qr (fun hg=>by exact zJJ A hp U))<|zK (Qx U U U) ?_
  refine QC U U U U U ?_;refine zM ?_;refine Qw 15 U U U ?_;refine zK (Qd U)<|QC U U U U U<|zN ?_
  refine zI ?_ ?_<;>intro a7
  ·have b5:seP ps s p=true:=(by unfold seP;rw [<-ho];exact a7);refine Qh (zM<|zM ?_);refine zpb [(0,_)] [QF (i:Int)] QS (fun d4=>?_);refine zpa (_) ([(i:Int)].flatMap QF) (L) U U QS hO ⟨U,fun _=>U,zJF⟩ (YJ [(i:Int)]) ?_;intro v9 L9 B _;rw [<-jh] at B;refine zA (Qe (Qg (Qa (Qh<|zM ?_))));refine zB<|zA (Qe ?_)
   first
   | exact zm (h:=⟨n-(i+1),kB,i+1,_,_,_,U,U,U,U,kB,by rw [zaW hp b5];exact B,kB⟩)
  have b5:seP ps s p=false:=(by unfold seP;rw [<-ho];exact a7);refine Qm<|Qg<|Qa<|Qh<|zM ?_;refine zB<|zA (Qe ?_)
  first
  | exact zm (h:=⟨n-(i+1),kB,i+1,_,_,_,U,U,U,U,kB,by rw [zgg hp b5];exact hO,kB⟩)
 have c5:n<=i:=kd a5;have c8:n=i:=kB;subst c8;refine Qy (Qf (Qf (Qj (Qa (zR (zM<|zM<|zA<|zA (zN (Qq ?_))))))));exact QY U U U (fun w hw=>by obtain ⟨I9,b6,c1,c2⟩:=OwnS.res hO QL kC hw;obtain ⟨_,a9,c9,e9,c4⟩:=c2;subst e9;subst b7;exact ⟨_,I9,[],U,b0.trans b6,c1,U,a9,c9,_,_,U,c4,G.mono b6⟩)
theorem zJt (o:SlP I av n c ps)(G:n<=100000)(r:SlM zc1 1 I ov n oc (ps.map (KZ ps)))(s:Int):kf 128 [.slice av n c,.slice ov n oc,.int .i64 s] I (.bool (exB (onF ps) ps s)):=by
 intro g H w J;refine qe Tryz.func128 Tryz.ntmps128 J ?_;have d:=zJH I;refine zR (zA<|zN (zR ?_));refine zM ?_;refine zM ?_;refine zM<|zpc [_,_,_] U zza .nil (zGN o G r s) ?_
 rintro Q T L1 h ⟨rfl,a1,c1,a2,W,rfl,A,B⟩;have d:=d.trans h;refine zM ?_;refine zE ?_;refine zE ?_;refine zA<|zA<|zN (zR ?_)
 refine zM ?_;refine zQ Qt<|zC ?_
 refine zM ?_;refine QI 3 U U U ?_;refine zJ (Qd U)<|zJ (Zs U Qt)<|zJ (Qx U U U) ?_
 refine Q5 U U U U U ?_;exact zA (zN (Qq<|zp d U U (by rw [<-zIF o.len])))
theorem zEu (A:SlP I av n c ps)(hn:n<=100000)(hM:SlM zc1 1 I ov n oc (ps.map (KZ ps)))(s f:Int):kg 78 [.slice av n c,.slice ov n oc,.int .i64 s,.int .i64 f] I [] (Jv 1 QF (ixK ps (laP ps s f) n)):=by
 intro g H w hw;refine qe Tryz.func78 Tryz.ntmps78 hw ?_;have b4:=zJH I;refine zR (zA<|zN (zR<|zA (zN (Qk (zR<|zA (zN (Ql ?_)))))));refine zU [(0,_),(1,_),(2,_),(3,_)] (fun T L0 mz E M d=>∃ (i:Nat) (v:Value) (q:Nat) (L:Go.Kn.Loc),mz=n-i/\E=(9,v)::(10,.int .i64 i)::T/\I=M/\L=d/\i<=n/\OwnS 3 1 v q ((ixK ps (laP ps s f) i).flatMap QF) L/\q<=i) ?_ (h:=⟨0,_,0,[],U,U,U,U,jd _,OwnS.nil,jn _⟩);rintro mz E M d ⟨i,v,q,L,rfl,rfl,rfl,rfl,hi,hO,hq⟩;refine Qk (zR (zM<|zM ?_));refine zQ QV<|zC (zN ?_)
 refine zI ?_ ?_<;>intro G
 ·have a6:i<n:=kd G;have B:=A.1;obtain ⟨p,hp⟩:=B.at a6;refine Qm<|Qa<|Qk<|Ql<|zR<|zM ?_;refine zM ?_;refine zV (Qs U U QV kE (fun hg=>kB))<|zF Yn ?_
  refine zV (Qc U Qr (fun hg=>by exact zJJ B hp U))<|zC ?_
  refine zM ?_;refine Qw 6 U U U ?_;refine zK (Qd U) ?_;refine zK (Qd U)<|zK (Qs U U QV kE (fun hg=>kB))<|zK (Qi U ZB) ?_
  refine zK (Qc U Qr (fun hg=>by exact zJJ B hp U))<|zK (Qd U) ?_
  refine zK (Qx U U U) ?_;refine QC U U U U U ?_;refine zM ?_;refine Qw 15 U U U ?_;refine zK (Qd U) ?_;refine zK (Qd U)<|zK (Qs U U QV kE (fun hg=>kB))<|zK (Qi U YK) ?_
  refine zK (Qc U Qr (fun hg=>by exact zJJ B hp U))<|zK (Qd U) ?_
  refine zK (Qx U U U) ?_;refine QC U U U U U<|zA (zN (Qk (zR<|zA (zN (Ql ?_)))))
  refine zU [(0,_),(1,_),(2,_),(3,_),(9,_),(10,_)] (fun T L0 mz E M d=>∃ (k:Nat) (b:Bool),mz=n-k/\E=(11,.bool b)::(12,.int .i64 k)::T/\I=M/\L0=d/\k<=n/\b=(stP s f p&& !(ps.take k).any fun q=>stP s f q&&onF ps q.id p.id)) ?_ (h:=⟨0,stP s f p,U,U,U,U,jd _,by simp⟩);rintro mz E M d ⟨k,b,rfl,rfl,rfl,rfl,hk,a8⟩;refine Qk (zR (zM<|zM ?_));refine zQ QV<|zC ?_
  refine zM ?_;refine Qw 4 U U U ?_;refine zK (Qd U)<|QC U U U U U<|zN ?_
  refine zI ?_ ?_<;>intro J
  ·have r:k<n:=(by have h:=((ji _ _).mp J).1;simp at h;omega);obtain ⟨q,hq⟩:=A.1.at r;obtain ⟨Y,hd,rr,hH,b6,b0,o⟩:=hM.at r;have b8:rr=KZ ps q:=(by rw [jB,hq] at b0;exact (Ob b0).symm);subst b8;have c0:n=hd.n:=(by rw [<-o.len,<-A.len];simp [KZ]);have hb:(KZ ps q)[i]? =some (onF ps q.id p.id):=(by simp [KZ,hp]);refine Qm<|Qa<|Qk<|Ql<|zR<|zM ?_;refine zM ?_;refine zV (Qs U U QV A.1 (fun hg=>kB))<|zF Yn ?_
   refine zV (Qc U Qr (fun hg=>by exact zJJ A.1 hq U))<|zC ?_
   refine zM ?_;refine Qw 6 U U U ?_;refine zK (Qd U) ?_;refine zK (Qd U)<|zK (Qs U U QV A.1 (fun hg=>kB))<|zK (Qi U ZB) ?_
   refine zK (Qc U Qr (fun hg=>by exact zJJ A.1 hq U))<|zK (Qd U) ?_
   refine zK (Qx U U U) ?_;refine QC U U U U U ?_;refine zM ?_;refine Qw 15 U U U ?_;refine zK (Qd U) ?_;refine zK (Qd U)<|zK (Qs U U QV A.1 (fun hg=>kB))<|zK (Qi U YK) ?_
   refine zK (Qc U Qr (fun hg=>by exact zJJ A.1 hq U))<|zK (Qd U) ?_
   refine zK (Qx U U U) ?_;refine QC U U U U U ?_;refine zM ?_;refine Qw 24 U U U ?_;refine zK (Qd U) ?_;refine zK (Qd U) ?_;refine zK (zX zbM hH)<|zK (Qc U zbU (fun hg=>by exact zJA hH b6 U))<|zK (Qd U) ?_
   refine zK (zX Jq o)<|zK (Qc U K1 (fun hg=>by exact zJA o hb U))<|QC U U U U U<|zN ?_
   refine zI ?_ ?_<;>intro Q
   ·have a2:(stP s f q&&onF ps q.id p.id)=true:=Q;refine Qh (zA (Qe (Qg (Qa (Qh<|zM ?_)))));exact zB<|zA (Qe<|zm (h:=⟨n-(k+1),kB,k+1,_,U,U,U,U,kB,zCI hq a2⟩))
   have a2:(stP s f q&&onF ps q.id p.id)=false:=Q;refine Qm<|Qg<|Qa<|Qh<|zM ?_;exact zB<|zA (Qe<|zm (h:=⟨n-(k+1),kB,k+1,_,U,U,U,U,kB,zDw hq a2 a8⟩))
  have a9:=zDJ A.len a8 J;refine Qy<|Qf<|Qf<|Qj<|Qa<|zR<|zM<|zN ?_;refine zI ?_ ?_<;>intro a1
  ·have a5:laP ps s f p=true:=(by rw [<-a9];exact a1);refine Qh (zM<|zM ?_);refine zpb [(0,_)] [QF (i:Int)] QS (fun b9=>?_);refine zpa (_) ([(i:Int)].flatMap QF) (L) U U QS hO ⟨U,fun _=>U,zJF⟩ (YJ [(i:Int)]) ?_;intro v9 L9 a7 _;rw [<-jh] at a7;refine zA (Qe (Qg (Qa (Qh<|zM ?_))));refine zB<|zA (Qe ?_)
   first
   | exact zm (h:=⟨n-(i+1),kB,i+1,_,_,_,U,U,U,U,kB,by rw [zaW hp a5];exact a7,kB⟩)
  have a5:laP ps s f p=false:=(by rw [<-a9];exact a1);refine Qm<|Qg<|Qa<|Qh<|zM ?_;refine zB<|zA (Qe ?_)
  first
  | exact zm (h:=⟨n-(i+1),kB,i+1,_,_,_,U,U,U,U,kB,by rw [zgg hp a5];exact hO,kB⟩)
 have b5:n<=i:=kd G;have b7:n=i:=kB;subst b7;refine Qy (Qf (Qf (Qj (Qa (zR (zM<|zA (zN (Qq ?_))))))));exact Zc U U (fun w hw=>by obtain ⟨I9,b1,b2,b3⟩:=OwnS.res hO QL kC hw;exact ⟨_,I9,[],U,b4.trans b1,b2,b3⟩)
theorem zHx (A:SlP I av n c ps)(hn:n<=100000)(hM:SlM zc1 1 I ov n oc (ps.map (KZ ps)))(x:Sg):kf 129 [.slice av n c,.slice ov n oc,VD x] I (VD (zcU (onF ps) ps x)):=by
 intro g H w hw;refine qe Tryz.func129 Tryz.ntmps129 hw ?_;have Q:=zJH I;refine zR<|QU U U U (fun b0=>Qv Kc U U (fun b1=>zN (Qk (zR (zA (zN (Ql<|zU [(0,_),(1,_),(5,_),(6,_)] (fun T L0 mz E M J=>∃ (k:Nat) (y:Sg),mz=9-k/\E=(7,.int .i64 ((k:Int)+1))::T/\HLe I M/\(b1,.cells (YA Yc).toArray 54 (0,0))::(b0,.cells (YA y).toArray 54 (0,0))::[]=J/\k<=9/\y=zej (onF ps) ps x k) ?_ (h:=⟨0,x,U,U,zJH _,U,jd _,zfY⟩))))))))
 rintro mz E J1 J ⟨k,y,rfl,rfl,hJ,rfl,hk,hy⟩;have A:=A.mono hJ;have hM:=hM.mono hJ;have Q:=Q.trans hJ;have r:=hJ;refine Qk (zR (zM<|zC (zN ?_)));refine zI ?_ ?_<;>intro B
 ·have b4:k<9:=kd B;refine Qm<|Qa<|Qk<|Ql<|zR<|zM ?_;refine zM<|zF Zu ?_
  refine zL Qr<|zM<|zpc [_,_,_,_] U zv9 .nil (zEu A hn hM y.id ((k:Int)+1)) ?_
  rintro b7 I2 L2 a2 ⟨rfl,a9,c9,rfl,a1⟩;have A:=A.mono a2;have r:=r.trans a2;refine zA<|zN (zR ?_)
  refine zM ?_;refine zQ Qt<|zC (zN ?_)
  refine zI ?_ ?_<;>intro G
  ·have b3:0<(ixK ps (laP ps y.id ((k:Int)+1)) n).length:=kd G;obtain ⟨x0,a8⟩:=a1.at b3;obtain ⟨m,q,rfl,b6,b5,a5⟩:=zzg A.len a8;have a7:zkR y ((k:Int)+1) (JF (onF ps) ps y.id ((k:Int)+1))=Jk y ((k:Int)+1) q.nw:=zBk (by rw [ztb];exact a5);have d:=zJH I2;refine VR<|ZM I2 [] mixed<|zT 1 U (Qd U) d<|zT 2 U (Qd U) d<|zT 3 U (Qd U) d<|zT 4 U (zX Qt a1) d<|zT 5 U (Qc U Qr (fun hg=>by exact zJA (k:=0) a1 a8 U)) d<|zT 6 U (Qs U U QV A.1 (fun hg=>kB)) d<|zT 7 U (Qi U Yr) d<|zT 8 U (Qo U QQ (fun hg=>by exact Sl.seg (vs:=YA q.nw) (o:=4) A.1 b5 U) U) d<|qd 0 U<|zV (Qo U QQ (fun hg=>by exact Cells.g1) U) ?_
   refine Qe<|zD d<|qd 9 U<|qcV (vs:=[_,_,_]) U zhv (zxq _ y ((k:Int)+1) q.nw)<|Qe<|zD d<|qd 10 U ?_
   refine zh Zy ?_;refine Qe<|zD d<|QH kA<|QP ?_
   refine Qg<|Qa<|Qh<|zM ?_;refine zB<|zA (Qe ?_)
   exact Ya _ _ ⟨9-(k+1),kB,k+1,_,U,U,r,U,kB,by rw [<-zbw hy,a7]⟩ kc kP
  have a6:=zE6 A.len G;refine Qm<|Qg<|Qa<|Qh<|zM ?_;refine zB<|zA (Qe ?_)
  exact Ya _ _ ⟨9-(k+1),kB,k+1,y,U,U,r,U,kB,by rw [<-zbw hy,ziK a6]⟩ kc kP
 have b2:9=k:=kd B;subst b2;refine Qy (Qf (Qf (Qj (Qa (zR<|zV (Qo U QQ (fun hg=>by exact Cells.g1) U) ?_)))));refine zh Zy<|zN (Qq ?_)
 exact ZD U U QQ Cells.g0 U (fun w hw=>⟨by rw [hy];rfl,(hw.mono Q).drop⟩)
theorem zpd (hP:SlP I av n c ps)(hn:n<=1000)(hB:Sl I 14 YA Z V W N)(a6:V<=1000)(hV:Sl I 1 QF dv n3 c3 ws)(a2:n3<=100000)(T:X6 ps ws=false):kg 77 [.slice av n c,.slice Z V W,.slice dv n3 c3] I [] (zlg (KM ps N ws) (zjE (KM ps N ws) (Zi ps ws))):=by
 intro g H w A;refine qe Tryz.func77 Tryz.ntmps77 A ?_;have h:=zJH I;refine zR (zA<|zA<|zN (zR ?_));refine zM ?_;refine qcV (vs:=[_]) U zoK (zve hP kB) ?_;refine zA<|zN<|Qk<|zR ?_;refine zM<|zC (zN ?_)
 refine zI ?_ ?_<;>intro B
 ·have d:JL ps≠0:=(by simpa using B);refine zR (zM<|zA<|zA (zN (Qq (Qb ?_))))
  first
  | exact QY U U U (fun w A=>⟨_,I,[],U,h,A.drop,by rw [zp4 d];exact zlg.empty (VJ kE)⟩)
 have d:JL ps=0:=(by simpa using B);have hL:=V3 d;have a5:=zg4 hP d;refine Qm (Qa (zR (zM<|qcV (vs:=[_]) U zhk (znt hB kB) ?_)));refine zA<|zN<|Qk<|zR ?_;refine zM<|zC (zN ?_)
 refine zI ?_ ?_<;>intro G
 ·have r:Kg N≠0:=(by simpa using G);refine zR (zM<|zA<|zA (zN (Qq (Qb ?_))))
  first
  | exact QY U U U (fun w A=>⟨_,I,[],U,h,A.drop,by rw [zpW d r];exact zlg.empty (VJ kE)⟩)
 have r:Kg N=0:=(by simpa using G);refine Qm (Qa (Qk (zR (zM<|zQ Qt<|zC (zN ?_)))));refine zI ?_ ?_<;>intro J
 ·have o:ws.length>512:=(by rw [hV.len];simp at J;omega);refine zR (zA<|zA (zN (Qq (Qb ?_))))
  first
  | exact QY U U U (fun w A=>⟨_,I,[],U,h,A.drop,by rw [zv1 d r o];exact zlg.empty (VJ kC)⟩)
 have o:¬ws.length>512:=(by rw [hV.len];simp at J;omega);refine Qm<|Qa<|zR<|zM ?_;refine zM<|zpc [_,_] U znd .nil (zFu hP kB hL a5 hV a2 T) ?_
 rintro a7 I1 L1 a1 ⟨rfl,rfl⟩;have h:=h.trans a1;refine zM ?_;refine zE ?_;refine zE ?_;refine zA<|zA (zN (Qk (zR ?_)))
 refine zM<|zO (zN ?_)
 refine zI ?_ ?_<;>intro Q
 ·refine zR (zA<|zA (zN (Qq (Qb ?_))))
  first
  | exact QY U U U (fun w A=>⟨_,I1,[],U,h,A.drop,by rw [zuW d r o (by rw [T];rfl)];exact zlg.empty (VJ kC)⟩)
 cases Q
theorem zkQ (r:SlP I av n c ps)(hn:n<=1000)(G:Sl I 14 YA Z V W N)(b5:V<=1000)(hV:Sl I 1 QF dv n3 c3 ws)(b3:n3<=100000)(a8:X6 ps ws=true):kg 77 [.slice av n c,.slice Z V W,.slice dv n3 c3] I [] (zlg (KM ps N ws) (zjE (KM ps N ws) (Zi ps ws))):=by
 intro g H w B;refine qe Tryz.func77 Tryz.ntmps77 B ?_;have d:=zJH I;refine zR (zA<|zA<|zN (zR ?_));refine zM ?_;refine qcV (vs:=[_]) U zoK (zve r kB) ?_;refine zA<|zN<|Qk<|zR ?_;refine zM<|zC (zN ?_)
 refine zI ?_ ?_<;>intro J
 ·have h:JL ps≠0:=(by simpa using J);refine zR (zM<|zA<|zA (zN (Qq (Qb ?_))))
  first
  | exact QY U U U (fun w B=>⟨_,I,[],U,d,B.drop,by rw [zp4 h];exact zlg.empty (VJ kE)⟩)
 have h:JL ps=0:=(by simpa using J);have hL:=V3 h;have b4:=zg4 r h;refine Qm (Qa (zR (zM<|qcV (vs:=[_]) U zhk (znt G kB) ?_)));refine zA<|zN<|Qk<|zR ?_;refine zM<|zC (zN ?_)
 refine zI ?_ ?_<;>intro Q
 ·have A:Kg N≠0:=(by simpa using Q);refine zR (zM<|zA<|zA (zN (Qq (Qb ?_))))
  first
  | exact QY U U U (fun w B=>⟨_,I,[],U,d,B.drop,by rw [zpW h A];exact zlg.empty (VJ kE)⟩)
 have A:Kg N=0:=(by simpa using Q);refine Qm (Qa (Qk (zR (zM<|zQ Qt<|zC (zN ?_)))));refine zI ?_ ?_<;>intro T
 ·have o:ws.length>512:=(by rw [hV.len];simp at T;omega);refine zR (zA<|zA (zN (Qq (Qb ?_))))
  first
  | exact QY U U U (fun w B=>⟨_,I,[],U,d,B.drop,by rw [zv1 h A o];exact zlg.empty (VJ kC)⟩)
 have o:¬ws.length>512:=(by rw [hV.len];simp at T;omega);refine Qm<|Qa<|zR<|zM ?_;refine zM<|zpc [_,_] U znd .nil (zyv r kB hL b4 hV b3 a8) ?_
 rintro b6 I1 L1 a2 ⟨b9,rfl,rfl⟩;have r:=r.mono a2;have G:=G.mono a2;have d:=d.trans a2;refine zM ?_;refine zE ?_;refine zE ?_;refine zA<|zA (zN (Qk (zR ?_)))
 refine zM<|zO (zN ?_)
 refine zI ?_ ?_<;>intro b1
 ·cases b1
 refine Qm (Qa (Qk<|Zk .here (fun I2 a5 b2=>?_)));have r:=r.mono a5;have G:=G.mono a5;have d:=d.trans a5;have hF:Sl I2 1 zc1 (some ⟨b9,0,none⟩) n n (ps.map (chF ws)):=Sl.lit _ (by simp [r.len]) Xt b2;refine Qh (zM<|zM<|zpc [_,_] U zxb .nil (zJp r kB hF) ?_);rintro b7 I3 L3 a6 ⟨rfl,a9,c9,rfl,hl⟩;have r:=r.mono a6;have G:=G.mono a6;have d:=d.trans a6;have b0:SlP I3 a9 _ c9 (Zi ps ws):=⟨hl,zCF r⟩;refine zA<|zN<|Qk<|zR ?_;refine zM ?_;refine zM ?_;refine qcV (vs:=[_,_]) U zwN (zEg b0 (jO (jE ..) (by rw [r.len];omega)) G kB)<|zO (zN ?_)
 refine zI ?_ ?_<;>intro a1
 ·have a7:zb0 N (Zi ps ws)=false:=(by simpa using a1);refine zR (zA<|zA (zN (Qq (Qb ?_))))
  first
  | exact QY U U U (fun w B=>⟨_,I3,[],U,d,B.drop,by rw [zuW h A o (by rw [a8,a7];rfl)];exact zlg.empty (VJ kC)⟩)
 have a7:zb0 N (Zi ps ws)=true:=(by simpa using a1);refine Qm (Qa (zR (zM<|zA<|zA (zN (Qq ?_)))))
 first
 | exact QY U U U (fun w B=>⟨_,I3,[],U,d,B.drop,by rw [zxL h A o a8 a7,zap rfl];exact ⟨U,_,_,U,b0⟩⟩)
theorem zvZ (r:SlP I av n c ps)(A:n<=1000)(o:Sl I 14 YA Z V W N)(d:V<=1000)(w:Sl I 1 QF dv n3 c3 ws)(g:n3<=100000):kg 77 [.slice av n c,.slice Z V W,.slice dv n3 c3] I [] (zlg (KM ps N ws) (zjE (KM ps N ws) (Zi ps ws))):=by
 cases h:X6 ps ws with
 | false=>exact zpd r A o d w g h
 | true=>exact zkQ r A o d w g h
theorem zzI :(Zi ps ws).length<=ps.length:=jE ..
theorem zB5 (hP:SlP I av n c ps)(hn:n<=1000)(hB:Sl I 14 YA Z V W N)(e0:V<=1000)(hV:Sl I 1 QF dv n3 c3 ws)(e1:n3<=100000):kg 76 [.slice av n c,.slice Z V W,.slice dv n3 c3] I [] (zkw (za3 ps N ws) (zfx ps N ws)):=by
 intro g H w hw;refine qe Tryz.func76 Tryz.ntmps76 hw ?_;have A:=zJH I;refine zR (zA<|zA<|zN (zR ?_));refine zM ?_;refine zM ?_;refine zM<|zpc [_,_,_] U zvq .nil (zvZ hP hn hB e0 hV e1) ?_
 rintro f1 I1 L1 b2 ⟨rfl,a9,c9,rfl,d⟩;have hP:=hP.mono b2;have hB:=hB.mono b2;have A:=A.trans b2;generalize c6:(zjE (KM ps N ws) (Zi ps ws))=pl at d ⊢;refine zM ?_;refine zE ?_;refine zE ?_;refine zA<|zA (zN (Qk (zR ?_)))
 refine zM<|zC (zN ?_)
 refine zI ?_ ?_<;>intro a2
 ·have he:KM ps N ws≠0:=(by simpa using a2);refine zR (zM<|zA<|zA (zN (Qq (Qb ?_))))
  first
  | exact QY U U U (fun w hw=>⟨_,I1,[],U,A,hw.drop,by unfold zfx;rw [zpe he];exact zkw.empty (VJ he)⟩)
 have he:KM ps N ws=0:=(by simpa using a2);rw [he,zap rfl] at c6;subst c6;obtain ⟨c5,e7,c4,e8⟩:=zgI he;have hL:=V3 c5;have d5:=zbh hL c4;have f0:(Zi ps ws).length<=1000:=(by have:=zzI (ps:=ps) (ws:=ws);rw [hP.len] at this;omega);have e2:∀ p∈Zi ps ws,p.n<=100000:=fun p hp=>zg4 hP c5 p (Yo.1 hp).1;refine Qm (Qa (zR<|zpb [] [] Vy (fun b6=>zM<|zpa (_) (N.flatMap YA) ([(b6,_)]) U U Vy OwnS.new (hB.src Yp) (zcW _) ?_)));intro v1 L1 b9 _;rw [Oi,Oj] at b9;refine zA (zN (Qk (Qk<|zx4 b9 Yp (fun I2 b7 e5 e6 c7 d4=>?_))));subst c7;have d:=d.mono b7;have A:=A.trans b7;refine Qh (zA (zN (Ql<|zU [(8,_)] (fun T L0 mz E M B=>∃ (k:Nat) (a1:Option Addr) (m1:Nat) (c1:Nat),mz=(Zi ps ws).length-k/\E=(10,.slice a1 m1 c1)::(11,.int .i64 k)::T/\HLe I2 M/\L0=B/\k<=(Zi ps ws).length/\Sl M 14 YA a1 m1 c1 (Ul N ((Zi ps ws).take k))/\m1<=V+k) ?_ (h:=⟨0,_,V,_,U,U,zJH _,U,jd _,d4,jn _⟩))));rintro mz E J3 B ⟨k,a1,m1,c1,rfl,rfl,hJ,rfl,hk,r,d9⟩;have d:=d.mono hJ;have A:=A.trans hJ;have Q:=hJ;refine Qk (zR (zM<|zM ?_));refine zQ QV<|zC (zN ?_)
 refine zI ?_ ?_<;>intro a5
 ·have J:k<(Zi ps ws).length:=kd a5;obtain ⟨p,hp,_⟩:=d.at J;refine Qm<|Qa<|Qk<|Ql<|zR<|zM ?_;refine zM ?_;refine zV (Qs U U QV d.1 (fun hg=>kB))<|zF Yn ?_
  refine zV (Qc U Qr (fun hg=>by exact zJJ d.1 hp U))<|zC (zN ?_)
  refine zI ?_ ?_<;>intro a6
  ·have b5:p.kind=2:=(by simpa using a6);refine Qh (zM<|zM ?_);refine zM ?_;refine zV (Qs U U QV d.1 (fun hg=>kB))<|zF Yr ?_
   refine zV (Qo U QQ (fun hg=>by exact Sl.seg (vs:=YA p.nw) (o:=4) d.1 hp U) U)<|zpc [_,_] U zxE .nil (zIo r kB p.nw) ?_
   rintro f2 I4 L4 b8 ⟨rfl,a8,c8,rfl,d6⟩;have r:=r.mono b8;have Q:=Q.trans b8;refine zA (Qe (Qg (Qa (Qh<|zM ?_))));refine zB<|zA (Qe ?_)
   first
   | exact zm (h:=⟨(Zi ps ws).length-(k+1),kB,k+1,_,_,_,U,U,Q,U,kB,by rw [zfG hp,jb b5];exact d6,by rw [znK,r.len];omega⟩)
  have b5:¬p.kind=2:=(by simpa using a6);refine Qm<|Qg<|Qa<|Qh<|zM ?_;refine zB<|zA (Qe ?_)
  first
  | exact zm (h:=⟨(Zi ps ws).length-(k+1),kB,k+1,_,_,_,U,U,Q,U,kB,by rw [zfG hp,ja b5];exact r,kB⟩)
 have G:(Zi ps ws).length<=k:=kd a5;rw [QZ rfl G] at r;have d8:k=(Zi ps ws).length:=kB;rw [d8] at d9;refine Qy (Qf (Qf (Qj (Qa (zR (zM<|zpc [_] U zkI .nil (zq5 d kB d5 e2) ?_))))));rintro f3 I5 L5 b3 ⟨rfl,ao,co,rfl,hM⟩;have d:=d.mono b3;have r:=r.mono b3;have A:=A.trans b3;refine zA<|zN (zR<|zA (zN (Qk (zR<|zA (zN (Ql ?_))))))
 refine zU [(8,_),(10,_),(12,_)] (fun T L0 mz E M B=>∃ (k:Nat) (v:Value) (q:Nat) (L:Go.Kn.Loc),mz=m1-k/\E=(13,v)::(14,.int .i64 k)::T/\I5=M/\L=B/\k<=m1/\OwnS 54 14 v q ((exL (onF (Zi ps ws)) (Zi ps ws) ((Ul N (Zi ps ws)).take k)).flatMap YA) L/\q<=k) ?_ (h:=⟨0,_,0,[],U,U,U,U,jd _,by rw [zlP];exact OwnS.nil,jn _⟩);rintro mz E M B ⟨k,v,q,L,rfl,rfl,rfl,rfl,hk,hO,hq⟩;refine Qk (zR (zM<|zM ?_));refine zQ Z7<|zC (zN ?_)
 refine zI ?_ ?_<;>intro a7
 ·have J:k<m1:=kd a7;obtain ⟨x,hx⟩:=r.at J;refine Qm<|Qa<|Qk<|Ql<|zR<|zM ?_;refine zM ?_;refine zM ?_;refine zM ?_;refine zV (zX Z7 r)<|zF Zu ?_
  refine zV (Qc U Qr (fun hg=>by exact zJJ r hx U))<|qcV (vs:=[_,_,_]) U zyo (zJt d kB hM x.id)<|zN ?_
  refine zI ?_ ?_<;>intro b0
  ·have b4:=b0;refine Qh (zM<|zM ?_);refine zM ?_;refine zM ?_;refine zM ?_;refine zV (zX Z7 r)<|zV (Qo U QQ (fun hg=>by exact zJI r hx) U)<|qcV (vs:=[_,_,_]) U zz0 (zHx d kB hM x)<|zpb [(0,_)] [YA (zcU (onF (Zi ps ws)) (Zi ps ws) x)] Vy (fun e4=>?_)
   refine zpa (_) ([zcU (onF (Zi ps ws)) (Zi ps ws) x].flatMap YA) (L) U U Vy hO ⟨U,fun _=>U,zJF⟩ (zcW [zcU (onF (Zi ps ws)) (Zi ps ws) x]) ?_;intro v9 L9 c0 _;rw [<-jh] at c0;refine zA (Qe (Qg (Qa (Qh<|zM ?_))));refine zB<|zA (Qe ?_)
   first
   | exact zm (h:=⟨m1-(k+1),kB,k+1,_,_,_,U,U,U,U,kB,by rw [zvz hx b4];exact c0,kB⟩)
  have b4:=b0;refine Qm<|Qg<|Qa<|Qh<|zM ?_;refine zB<|zA (Qe ?_)
  first
  | exact zm (h:=⟨m1-(k+1),kB,k+1,_,_,_,U,U,U,U,kB,by rw [zCw hx b4];exact hO,kB⟩)
 have G:m1<=k:=kd a7;rw [QZ r.len G,ztq he] at hO;obtain ⟨va,vc,rfl⟩:=zaV hO;have e3:=hO.1;rw [ZF Yp] at e3;refine Qy (Qf (Qf (Qj (Qa (Qk (zR (zM<|zQ Z7<|zC (zN ?_))))))));refine zI ?_ ?_<;>intro b1
 ·have d7:=zAZ he (kd b1);refine zR (zA<|zA (zN (Qq (Qb ?_))))
  first
  | exact QY U U U (fun w hw=>⟨_,I5,[],U,A,hw.drop,by unfold zfx;rw [d7];exact zkw.empty (VJ kC)⟩)
 have c2:=zrd he (kd b1);refine Qm (Qa (zR (zM<|zA<|zA (zN (Qq ?_)))))
 first
 | exact QY U U U (fun w hw=>by obtain ⟨I9,d0,d1,d2⟩:=OwnS.res hO Yp kC hw;obtain ⟨_,a9,c9,e9,d3⟩:=d2;cases e9;exact ⟨_,I9,[],U,A.trans d0,d1,zkw.good c2.symm (by unfold zfx;rw [c2,zap rfl]) d3⟩)
end
end Go.Proofs.YtodakphagkommaaGreatDoor.R
namespace Go.Kn
section
open Go
section
variable {C:Cx} {Q:Exit->Act->World->Prop} {E:Env} {I:Qu} {d:Loc} {f:Array Oper} {rest:List Oper} {g:Option Tmp} {j:TypeId} {i:String} {o:Array Edge} {l:Option (Nat×Bool)} {x:Operand}
theorem ztT {t e n c b p G:Nat}{z:Value}{r A:List Value}(F:List Value->Loc)(hx:QB [] E x=some (.slice (some ⟨b,p,none⟩) n c))(T:C.P.underlying t=some (.slice e))(hz:YX C.P e z)(D:z.cells=r.toArray)(h1:YY r=true)
  (a0:p+n*r.length<=A.length)(Z:l=none)(u:g=none)(hu:∀ H:List Value,Upd d b (.cells A.toArray G (0,0)) (.cells (A.take p++(H++A.drop (p+n*r.length))).toArray G (0,0)) (F H))
  (h:∀ H:List Value,H.length=n*r.length->XO C Q f rest [] E I (F H)):
  XO C Q f (⟨g,.call ⟨.builtin .clear, #[x], #[t]⟩,j,i,o,l⟩::rest) [] E I d:=
 YR Z kF fun a w V hw=>by
  subst u;have s:(Builtin.zeroCells z.cells n).toList.length=n*r.length:=by rw [Bf,U9,D];simp
  have O:∀ v∈(Builtin.zeroCells z.cells n).toList,v.oneCell'=true:=by
   intro v B;rw [Array.mem_toList_iff] at B;unfold Builtin.zeroCells at B;rw [D] at B;simp at B;obtain ⟨q,W,h2⟩:=B;have hp:0<r.length:=Nat.pos_of_ne_zero fun e=>(by rw [e] at W;simp at W);rw [jf (A8 _ hp)] at h2;exact Kx h1 v (by rw [<-h2];exact O8 _)
  have e:A=A.take p++((A.drop p).take (n*r.length)++A.drop (p+n*r.length)):=by
   have:(A.drop p).take (n*r.length)++A.drop (p+n*r.length)=A.drop p:=by rw [<-Aa];exact jT _ _
   rw [this,jT]
  have M:=hu (Builtin.zeroCells z.cells n).toList;have N:Upd d b (.cells (A.take p++((A.drop p).take (n*r.length)++A.drop (p+n*r.length))).toArray G (0,0)) (.cells (A.take p++((Builtin.zeroCells z.cells n).toList++A.drop (p+n*r.length))).toArray G (0,0)) (F (Builtin.zeroCells z.cells n).toList):=(by rw [<-e];exact M);obtain ⟨Y,J,K⟩:=Jp (P:=C.P) (off:=p) (Builtin.zeroCells z.cells n).toList (A.take p) w d _ b G ((A.drop p).take (n*r.length)) 0 (by rw [jJ];omega) (by rw [s,jJ,Oy];omega) O hw N
  have y:(Builtin.clear_ #[t] j #[.slice (some ⟨b,p,none⟩) n c]).run C.P w= .ok (.tuple #[]) Y:=by
   have h0:n=0->Y=w:=by
    intro hn;subst hn;have:(Builtin.zeroCells z.cells 0).toList=[]:=Oo.1 (by rw [s];omega);rw [this] at J;simp [storeCells] at J;exact J.symm
   cases n with
   | zero=>rw [h0 rfl];simp [Builtin.clear_,jQ T,Result.andThen]
   | succ k=>simp [Builtin.clear_,jQ T,Result.andThen,Yq hz,J]
  simp only [execOp,resolve,OF,jF,Ah,Qp (S:=[]) V trivial rfl hx,jg,jp,Result.andThen,invoke,builtin,y,OU];exact h _ s _ _ V trivial K
end
section
variable {C:Cx} {Q:Exit->Act->World->Prop} {E:Env} {I:Qu} {i L R:Loc} {b:Array Oper} {rest:List Oper} {n:Option Tmp} {d:Nat} {o:TypeId} {g:String} {p:Array Edge} {j:Option (Nat×Bool)}
theorem zmi {P:Program}{a:Act}{w:World}{f:FuncId}{r q:List Value}{l:List Operand}{t:List Value}{s:Array TypeId}{h:Operand}
  (u:a.eval h= .func (.func f) r.toArray q.toArray)(x:l.map a.eval=t)(hF:Fun P f):
  (execOp a.eval ⟨n,.call ⟨.value h,l.toArray,s⟩,o,g,p,j⟩).run P w= .ok (.enter f (r++(t++q)).toArray) w:=by
 simp only [execOp,resolve,u,OF,x,Deferred.ofValue,jg,jp,Result.andThen,invoke,Ka hF];simp
theorem zmE {f:FuncId}{pre cap:List Value}{l:List Operand}{vs:List Value}{s:Array TypeId}{q:Operand}{K:Value->Qu->Loc->Prop}
  (G:QB [] E q=some (.func (.func f) pre.toArray cap.toArray))(J:l.map (QB [] E)=vs.map some)(hF:Fun C.P f)(y:YS i L R)(F:ZP C.P f (pre++(vs++cap)) I L K)
  (A:j=none)(D:Nat.blt d C.N=true)(h:∀ v r t,HLe I r->K v r t->XO C Q b rest [] ((d,v)::E) r (t++R)):
  XO C Q b (⟨some d,.call ⟨.value q,l.toArray,s⟩,o,g,p,j⟩::rest) [] E I i:=by
 intro a w u hg O;have x:Zt b [] E ⟨some d,.call ⟨.value q,l.toArray,s⟩,o,g,p,j⟩:=.none A;simp only [wpListIn];rw [x.wanted u hg];simp only [ZH,OB,Oper.wpIn];refine ⟨fun _ _=>trivial,?_⟩;rw [Ak _ _ _ kF,zmi (Qp u hg U G) (JK u hg U J) hF,B1];refine ⟨by simp [FR],zav.2 ((F.frame y O).mono ?_)⟩;rintro e T ⟨v,r,t,rfl,B,M,H⟩;have z:=YI u hg D U v;exact h v r t B H _ _ z.1 z.2 M
end
end
end Go.Kn
namespace Go.Proofs.YtodakphagkommaaGreatDoor.R
section
open Go Go.Kn Go.Proofs
structure Tx where
 bv:Option Addr
 n2:Nat
 c2:Nat
 no:Int
 a1:Option Addr
 n1:Nat
 d1:Nat
 a2:Option Addr
 n3:Nat
 d2:Nat
 a3:Option Addr
 n4:Nat
 d3:Nat
 r:Nat
 lv:Option Addr
 ln:Nat
 lc:Nat
 sv:Option Addr
 sn:Nat
 sc:Nat
def Uu (t:Tx):List Value:=[.slice t.bv t.n2 t.c2,.int .i64 t.no,.slice t.a1 t.n1 t.d1,.slice t.a2 t.n3 t.d2,.slice t.a3 t.n4 t.d3,.map (some t.r),.slice t.lv t.ln t.lc,.slice t.sv t.sn t.sc]
structure zlA (I:Qu)(t:Tx)(rows:List (List Int))(es:List Em)(rd:List Int)(ps l:List Pt)(s:List Sg):Prop where
 V:SlN I t.bv t.n2 t.c2 rows
 E:Sl I 3 Yv t.a2 t.n3 t.d2 es
 R:Sl I 1 QF t.a3 t.n4 t.d3 rd
 M:OnM I t.r ps
 L:SlP I t.lv t.ln t.lc l
 S:Sl I 14 YA t.sv t.sn t.sc s
 b2:t.n2<=100000
 b3:t.n3<=100000
 b4:t.n4<=100000
 bl:t.ln<=100000
 bs:t.sn<=100000
 sub:∀ q∈l,∃ z∈ps,z.id=q.id
variable{I F:Qu}{rows:List (List Int)}{es:List Em}{rd:List Int}{ps l:List Pt}
theorem zlA.mono {t:Tx}{s:List Sg}(h:zlA I t rows es rd ps l s)(a:HLe I F):zlA F t rows es rd ps l s:=
 ⟨h.V.mono a,h.E.mono a,h.R.mono a,h.M.mono a,h.L.mono a,h.S.mono a,h.b2,h.b3,h.b4,h.bl,h.bs,h.sub⟩
def zwv:List Pt->List Int
 | []=>[]
 | p::r=>((p::r).filter fun q=>Wb q.nw p.nw).map (·.id)
def zOg:Og:=⟨0,0,[],[]⟩
def zot (rows:List (List Int))(q:Nat)(c:Int):Int:=if KA (fun r:List Int=>r.getD q 0==c) rows<0 then KA (zg8 q) rows else KA (fun r:List Int=>r.getD q 0==c) rows
def or1 (on:Int->Int->Bool)(l:List Pt)(s f:Int):Og×Bool:=(⟨3,0,[],zwv (JF on l s f)⟩,decide (0<(JF on l s f).length))
def inP (s:Int)(q:Pt):Bool:=q.kind==2&&q.sign==s
def or2 (l:List Pt)(s:Int):Og×Bool:=match l.find? (inP s) with
 | some q=>(⟨3,0,[],[q.id]⟩,true)
 | none=>(zOg,false)
def isT (f:Int):Bool:=f==2||f==3||f==9
def or3 (rows:List (List Int))(rd:List Int)(s f:Int):Og×Bool:=if isT f then (⟨1,0,[zot rows s.toNat (rd.getD s.toNat 0)],[]⟩,true) else (zOg,false)
def or4 (es:List Em)(s:Int):Og×Bool:=(⟨2,2,[],[]⟩,es.any (zmQ s))
def or5 (rows:List (List Int))(rd:List Int)(s:Int):Og×Bool:=(⟨1,0,KK rows s.toNat (rd.getD s.toNat 0),[]⟩,true)
def orK (on:Int->Int->Bool)(rows:List (List Int))(es:List Em)(rd:List Int)(l:List Pt)(s f:Int)(k:Nat):Og×Bool:=
 if k=0 then or1 on l s f else if k=1 then or2 l s else if k=2 then or3 rows rd s f else if k=3 then or4 es s else or5 rows rd s
def zcT (on:Int->Int->Bool)(rows:List (List Int))(es:List Em)(rd:List Int)(l:List Pt)(s f:Int):Og:=
 if (or1 on l s f).2 then (or1 on l s f).1 else if (or2 l s).2 then (or2 l s).1 else if (or3 rows rd s f).2 then (or3 rows rd s f).1 else if (or4 es s).2 then (or4 es s).1 else (or5 rows rd s).1
variable{on:Int->Int->Bool}{s f:Int}{k:Nat}
theorem zmp (n:k<5)(h:∀ j,j<k->(orK on rows es rd l s f j).2=false)(b:(orK on rows es rd l s f k).2=true):(orK on rows es rd l s f k).1=zcT on rows es rd l s f:=by
 have a:0<k->(or1 on l s f).2=false:=h 0;have d:1<k->(or2 l s).2=false:=h 1;have g:2<k->(or3 rows rd s f).2=false:=h 2;have i:3<k->(or4 es s).2=false:=h 3;unfold zcT
 match k,n with
 | 0,_=>rw [jb (show (or1 on l s f).2=true from b)];rfl
 | 1,_=>rw [ja (by rw [a kC];decide),jb (show (or2 l s).2=true from b)];rfl
 | 2,_=>rw [ja (by rw [a kC];decide),ja (by rw [d kC];decide),jb (show (or3 rows rd s f).2=true from b)];rfl
 | 3,_=>rw [ja (by rw [a kC];decide),ja (by rw [d kC];decide),ja (by rw [g kC];decide),jb (show (or4 es s).2=true from b)];rfl
 | 4,_=>rw [ja (by rw [a kC];decide),ja (by rw [d kC];decide),ja (by rw [g kC];decide),ja (by rw [i kC];decide)];rfl
def OgV (I:Qu)(o:Og)(G:List Value):Prop:=∃ a n c b m d,G=[.int .i64 o.k,.int .i64 o.r,.slice a n c,.slice b m d]/\Sl I 1 QF a n c o.ws/\Sl I 1 QF b m d o.ps
variable{o:Og}{G:List Value}
theorem OgV.mono (h:OgV I o G)(g:HLe I F):OgV F o G:=by obtain ⟨a,n,c,b,m,d,e,h1,h2⟩:=h;exact ⟨a,n,c,b,m,d,e,h1.mono g,h2.mono g⟩
theorem OgV.len (h:OgV I o G):G.length=4:=by obtain ⟨a,n,c,b,m,d,e,h1,h2⟩:=h;subst e;rfl
theorem OgV.one (h:OgV I o G):YY G=true:=by obtain ⟨a,n,c,b,m,d,e,h1,h2⟩:=h;subst e;rfl
def FrQ (q:Og×Bool)(v:Value)(I:Qu)(L:Go.Kn.Loc):Prop:=L=[]/\∃ G,v= .tuple #[.agg G.toArray,.bool q.2]/\OgV I q.1 G
variable{b n t:Nat}{A:List Value}{zs:List Pt}{p:Pt}{N:Go.Kn.Loc}
theorem zvG (d:A.take (n*19)=zs.flatMap Y5)(g:zs[k]? =some p):Cells I ((b,.cells A.toArray t (0,0))::N) b (k*19) (Y5 p):=by
 intro j u h;have a:=zb7 Yj zs k p g j u h
 have:A[k*19+j]? =some u:=by
  rw [<-d,OA] at a;split at a
  ·exact a
  ·cases a
 exact .here (by rw [Ve];simpa using this)
variable{B:List Value}{i c:Nat}
theorem zyt (d:B.length=c*19)(g:n<=c)(a:i<n):(Jt B (i*19) (Y5 p)).length=c*19:=by rw [Ub (n:=19) kB (Yj p)];simp only [jj,jJ,Oy,Yj];omega
theorem zrV (g:B.take (n*19)=zs.flatMap Y5)(x:B.length=c*19)(y:n<=c)(z:zs.length=n)(u:i<n):(Jt B (i*19) (Y5 p)).take (n*19)=(zs.set i p).flatMap Y5:=by
 rw [Ub (n:=19) kB (Yj p)];have a:zs.set i p=zs.take i++p::zs.drop (i+1):=by rw [AQ,jb kB]
 have j:∀ k,k<=n->(zs.take k).flatMap Y5=B.take (k*19):=by
  intro k w;have h1:zs.flatMap Y5=(zs.take k).flatMap Y5++(zs.drop k).flatMap Y5:=(by rw [<-jh,jT]);have h2:((zs.take k).flatMap Y5).length=k*19:=(by rw [ZF Yj,jJ];congr 1;omega);have h3:=jA (List.take (k*19)) h1;rw [<-g,List.take_take,BJ kB,A1 kB,<-h2,Al] at h3;rw [<-h3,h2]
 have h:(zs.drop (i+1)).flatMap Y5=(B.take (n*19)).drop ((i+1)*19):=by
  have h1:zs.flatMap Y5=(zs.take (i+1)).flatMap Y5++(zs.drop (i+1)).flatMap Y5:=(by rw [<-jh,jT]);have h2:((zs.take (i+1)).flatMap Y5).length=(i+1)*19:=(by rw [ZF Yj,jJ];congr 1;omega);rw [g,h1,<-h2,BR]
 rw [a,jh,jV,j i kB,h];have d:(B.take (i*19)).length=i*19:=(by rw [jJ];omega);have q:(B.take (i*19)).take (n*19)=B.take (i*19):=jr (by rw [d];omega);have r:(Y5 p).take (n*19-i*19)=Y5 p:=jr (by rw [Yj];omega);rw [List.take_append,d,q,List.take_append,r,Yj,List.drop_take];rw [show (i+1)*19=i*19+19 by omega,show n*19-i*19-19=n*19-(i*19+19) by omega]
structure DlQ (P:Pt->Bool)(ps:List Pt)(n c i j:Nat)(zs:List Pt)(B:List Value):Prop where
 hB:B.take (n*19)=zs.flatMap Y5
 hz:zs.length=n
 hl:B.length=c*19
 hk:zs.take i=(ps.take j).filter fun p=> !P p
 hd:zs.drop j=ps.drop j
 hij:i<j
 hjn:j<=n
variable{P:Pt->Bool}{j:Nat}
theorem DlQ.at (h:DlQ P ps n c i j zs B)(a:ps[j]? =some p):zs[j]? =some p:=by have h1:=jA (fun l=>l[0]?) h.hd;simp only [AF,Nat.add_zero] at h1;rw [h1];exact a
theorem DlQ.keep (h:DlQ P ps n c i j zs B)(q:ps[j]? =some p)(d:P p=false)(a:n<=c)(g:j<n):DlQ P ps n c (i+1) (j+1) (zs.set i p) (Jt B (i*19) (Y5 p)):=
  ⟨zrV h.hB h.hl a h.hz (by have:=h.hij;omega),by rw [AL];exact h.hz,zyt h.hl a (by have:=h.hij;omega),
   by rw [Wc (P:=fun p=> !P p) q (by rw [d];rfl),<-h.hk,jz,List.take_set_of_le kB,AE (by have:=h.hij;have:=h.hz;omega)];rfl,
   by rw [List.drop_set_of_lt (by have:=h.hij;omega)];have h1:=jA (List.drop 1) h.hd;rw [Aa,Aa] at h1;exact h1,by have:=h.hij;omega,kB⟩
theorem DlQ.drop (h:DlQ P ps n c i j zs B)(g:ps[j]? =some p)(a:P p=true)(d:j<n):DlQ P ps n c i (j+1) zs B:=
 ⟨h.hB,h.hz,h.hl,by rw [za1 (P:=fun p=> !P p) g (by rw [a];rfl)];exact h.hk,by have h1:=jA (List.drop 1) h.hd;rw [Aa,Aa] at h1;exact h1,by have:=h.hij;omega,kB⟩
theorem DlQ.new (g:A.take (n*19)=ps.flatMap Y5)(w:ps.length=n)(r:A.length=c*19)(d:ps[i]? =some p)(h:P p=true)(a:(ps.take i).any P=false):DlQ P ps n c i (i+1) ps A:=
 ⟨g,w,r,by
  rw [za1 (P:=fun p=> !P p) d (by rw [h];rfl),Bg.2]
  intro q u;rw [jL] at a;simpa using a q u,U,kB,by have:=(jc.1 d).1;omega⟩
theorem DlQ.own {g:List Value}(h:DlQ P ps n c i j zs B)(C:n<=j)(z:ps.length=n)(D:n<=c)(u:c<=maxLen)(d:g.length=(n-i)*19):
  OwnS t 19 (.slice (some ⟨b,0,none⟩) i c) i ((ps.filter fun p=> !P p).flatMap Y5) [(b,.cells (B.take (0+i*19)++(g++B.drop (0+i*19+(n-i)*19))).toArray t (0,0))]:=by
 rw [Oj];have x:=h.hij;have y:=h.hjn;have r:=h.hl;have q:(B.take (i*19)).length=i*19:=(by rw [jJ];omega);have w:ps.filter (fun p=> !P p)=zs.take i:=by rw [h.hk,jr kB]
 have a:(ps.filter fun p=> !P p).flatMap Y5=B.take (i*19):=by
  rw [w];have h1:zs.flatMap Y5=(zs.take i).flatMap Y5++(zs.drop i).flatMap Y5:=(by rw [<-jh,jT]);have h2:((zs.take i).flatMap Y5).length=i*19:=(by rw [ZF Yj,jJ];have:=h.hz;congr 1;omega);have h3:=jA (List.take (i*19)) h1;rw [<-h.hB,List.take_take,BJ kB,A1 kB,<-h2,Al] at h3;rw [<-h3,h2]
 refine ⟨by rw [a,q],.inr ⟨b,c,_,U,U,kB,u,?_,?_⟩⟩
 ·simp only [OH,jj,q,d,Oy];omega
 ·rw [a];show ((B.take (i*19)++(g++B.drop (i*19+(n-i)*19)))).take (i*19)=_;rw [A1 kB,jr kB]
theorem zGZ (h:DlQ P ps n c i j zs B)(d:n<=c)(a:j<n):Nat.ble (i*19+19) (c*19)=true:=Nat.ble_eq_true_of_le (by have:=h.hij;omega)
theorem zEW (h:DlQ P ps n c i j zs B)(a:n<=c):0+i*19+(n-i)*19<=c*19:=by have:=h.hij;have:=h.hjn;omega
theorem zIz (_h:A.take (n*19)=ps.flatMap Y5)(a:A.length=c*19)(_q:ps.length=n)(d:n<=c)(g:c<=maxLen):OwnS t 19 (.slice (some ⟨b,0,none⟩) n c) n (A.take (n*19)) [(b,.cells A.toArray t (0,0))]:=
 ⟨by rw [jJ];omega,.inr ⟨b,c,_,U,U,d,g,by simp [a],by simp⟩⟩
variable{O:Type}
theorem zgh {D:List O}{P:O->Bool}(h:D.any P=true):∃ (i:Nat) (x:O),KA P D=(i:Nat)/\D[i]? =some x/\P x=true/\(D.take i).any P=false:=by obtain ⟨x,q,g⟩:=jD.1 h;have d:=Bz ⟨x,q,g⟩;refine ⟨D.findIdx P,D[D.findIdx P],by unfold KA;rw [h];rfl,jf d,List.findIdx_getElem,?_⟩;rw [jL];intro y r;obtain ⟨k,a,rfl⟩:=BO r;rw [jJ] at a;rw [List.getElem_take];exact Aw.1 (List.not_of_lt_findIdx (Nat.lt_of_lt_of_le a (Nat.min_le_left ..)))
def zne (J:List Pt)(k:Nat):List Pt:=(J.take k).filter fun q=>Wb q.nw ((J.getD 0 WL).nw)
variable{J:List Pt}
theorem zHm :((zne J 0).map (·.id)).flatMap QF=[]:=by unfold zne;rw [AB];rfl
theorem zy7 (a:J[k]? =some p)(h:Wb p.nw ((J.getD 0 WL).nw)=true):(zne J (k+1)).map (·.id)=(zne J k).map (·.id)++[p.id]:=by unfold zne;rw [Wc a h,Od];rfl
theorem zCd (a:J[k]? =some p)(h:Wb p.nw ((J.getD 0 WL).nw)=false):(zne J (k+1)).map (·.id)=(zne J k).map (·.id):=by unfold zne;rw [za1 a h]
variable{m:Nat}
theorem zxu (d:J.length=m)(a:k=m):(zne J k).map (·.id)=zwv J:=by
 unfold zne;rw [jr kB]
 cases J with
 | nil=>rfl
 | cons p r=>rfl
theorem zCq (a:(JF on l s f).length=m):(or1 on l s f).2=decide ((m:Int)>0):=by show decide (0<(JF on l s f).length)=_;rw [a];cases m<;>simp
theorem zcx (a:(l.take k).any (inP s)=false)(d:l[k]? =some p)(h:inP s p=true):or2 l s=(⟨3,0,[],[p.id]⟩,true):=by
 have:l.find? (inP s)=some p:=by
  have e:l=l.take k++p::l.drop (k+1):=by
   rw [<-ZA d,jT]
  rw [e,A2,OR.2 (by rw [jL] at a;exact a),OX,h];rfl
 unfold or2;rw [this]
theorem zf6 (a:l.any (inP s)=false):or2 l s=(zOg,false):=by unfold or2;rw [OR.2 (by rw [jL] at a;exact a)]
variable{q:Nat}
theorem zeV (h:isT f=true):or3 rows rd (q:Int) f=(⟨1,0,[zot rows q (rd.getD q 0)],[]⟩,true):=jb h
theorem zko (h:isT f=false):or3 rows rd s f=(zOg,false):=ja (by rw [h];decide)
theorem zHg {c:Int}(h:decide (KA (fun r:List Int=>r.getD q 0==c) rows<0)=true):KA (zg8 q) rows=zot rows q c:=by unfold zot;rw [jb (by simpa using h)]
theorem zGU {c:Int}(h:decide (KA (fun r:List Int=>r.getD q 0==c) rows<0)=false):KA (fun r:List Int=>r.getD q 0==c) rows=zot rows q c:=by unfold zot;rw [ja (by simpa using h)]
def zk5 (f:Nat)(t:Tx)(k:Nat):List Value:=[.func (.func (f+k)) #[.agg (Uu t).toArray] #[]]
theorem zJy (h:k<5):([0,1,2,3,4]:List Nat)[k]? =some k:=by
 match k,h with
 | 0,_=>rfl
 | 1,_=>rfl
 | 2,_=>rfl
 | 3,_=>rfl
 | 4,_=>rfl
theorem zqf :([2,3,9]:List Int).any (fun y=>f==y)=isT f:=by simp only [BY,List.any_nil,OQ,isT,AU]
theorem zyI {b:Bool}(h:(!b)=true):b=false:=by cases b<;>simp_all
theorem zgD {b:Bool}(h:(!b)=false):b=true:=by cases b<;>simp_all
theorem zqJ:ke 170:=.of Tryz.func170 kA kA
theorem zvL:ke 69:=.of Tryz.func69 kA kA
theorem zfP:kr 55 3 4 (.bool false):=⟨kA,.of kA⟩
theorem zc8:kr 96 3 55 (.map none):=⟨kA,.of kA⟩
theorem zwz:Tryz.prog.underlying 36=some (.slice 57):=kA
variable{K:Option Addr}{D:List Sg}{C:Nat}{cap:List Value}
theorem zGV (z:Sl I 14 YA K n c D)(hn:n<=100000){P:Sg->Bool}(hF:ke C)(Y:∀ x∈D,kf C ([VD x]++cap) I (.bool (P x))):kf 69 [.slice K n c,.func (.func C) #[] cap.toArray] I (.int .i64 (KA P D)):=by
 intro g H w Z;refine qe Tryz.func69 Tryz.ntmps69 Z ?_;have z:=z;refine zR<|zA<|zN<|Qk<|zR ?_;refine zM ?_;refine zQ Z7 ?_;refine zM<|zN<|Ql ?_;refine zU [(0,_),(1,_),(7,_)] (fun T W V E F d=>∃ (k:Nat),V=n-k/\E=(8,.int .i64 k)::T/\I=F/\W=d/\k<=n/\(D.take k).any P=false) ?_ (h:=⟨0,U,U,U,U,jd _,U⟩);rintro V E F d ⟨k,rfl,rfl,rfl,rfl,hk,y⟩;refine zR<|zC<|zN<|Qk ?_;refine zI ?_ ?_<;>intro M
 ·have u:k<n:=kd M;obtain ⟨x,Q⟩:=z.at u;refine Qm (Qa (Qk (Ql (zR (zM<|zA<|zN (zR ?_))))));refine zM ?_;refine zM ?_;refine zM ?_;refine zV (Qs U U Z7 kE (fun hg=>kB))<|zV (Qo U QQ (fun hg=>by exact zJI z Q) U)<|YE (cap:=cap) (vs:=[_]) U U hF (Y x (je Q)) U U<|zN ?_
  refine zI ?_ ?_<;>intro a
  ·refine zR (zM<|zA (zN (Qq (Qn (Qb (Qb (Qn (Qb ?_))))))));exact zr U U (by rw [V5 y Q a])
  exact Qm (Qg (Qa (Qh (zB<|zM (Qe<|zm (h:=⟨n-(k+1),kB,k+1,U,U,U,U,kB,Z3 Q y a⟩))))))
 have r:n<=k:=kd M;exact Qy (Qf (Qf (Qj (Qa (zR (zA (zN<|Qq<|zr U U (by rw [VG z.len r y]))))))))
theorem zHG (a:Sl I 14 YA K n c D)(h:n<=100000){P:Sg->Bool}(hF:ke C)(d:∀ x∈D,kf C ([VD x]++cap) I (.bool (P x))):kf 37 [.slice K n c,.func (.func C) #[] cap.toArray] I (.bool (D.any P)):=by
 intro g H w r;refine qe Tryz.func37 Tryz.ntmps37 r ?_;refine zR (zA<|zN (zR ?_));refine zM ?_;refine zM ?_;refine qcV (vs:=[_,_]) U zvL (zGV a h hF d)<|zC<|zA (zN (Qq ?_))
 exact zr U U (by rw [<-Ut])
theorem zIm {D:List Em}(z:Sl I 3 Yv K n c D)(hn:n<=100000){P:Em->Bool}(hF:ke C)(Y:∀ x∈D,kf C ([.agg (Yv x).toArray]++cap) I (.bool (P x))):kf 170 [.slice K n c,.func (.func C) #[] cap.toArray] I (.int .i64 (KA P D)):=by
 intro g H w Z;refine qe Tryz.func170 Tryz.ntmps170 Z ?_;have z:=z;refine zR<|zA<|zN<|Qk<|zR ?_;refine zM ?_;refine zQ VN ?_;refine zM<|zN<|Ql ?_;refine zU [(0,_),(1,_),(7,_)] (fun T W V E F d=>∃ (k:Nat),V=n-k/\E=(8,.int .i64 k)::T/\I=F/\W=d/\k<=n/\(D.take k).any P=false) ?_ (h:=⟨0,U,U,U,U,jd _,U⟩);rintro V E F d ⟨k,rfl,rfl,rfl,rfl,hk,y⟩;refine zR<|zC<|zN<|Qk ?_;refine zI ?_ ?_<;>intro M
 ·have u:k<n:=kd M;obtain ⟨x,Q⟩:=z.at u;refine Qm (Qa (Qk (Ql (zR (zM<|zA<|zN (zR ?_))))));refine zM ?_;refine zM ?_;refine zM ?_;refine zV (Qs U U VN kE (fun hg=>kB))<|zV (Qo U zqF (fun hg=>by exact zJI z Q) U)<|YE (cap:=cap) (vs:=[_]) U U hF (Y x (je Q)) U U<|zN ?_
  refine zI ?_ ?_<;>intro a
  ·refine zR (zM<|zA (zN (Qq (Qn (Qb (Qb (Qn (Qb ?_))))))));exact zr U U (by rw [V5 y Q a])
  exact Qm (Qg (Qa (Qh (zB<|zM (Qe<|zm (h:=⟨n-(k+1),kB,k+1,U,U,U,U,kB,Z3 Q y a⟩))))))
 have r:n<=k:=kd M;exact Qy (Qf (Qf (Qj (Qa (zR (zA (zN<|Qq<|zr U U (by rw [VG z.len r y]))))))))
theorem zH0 {D:List Em}(a:Sl I 3 Yv K n c D)(h:n<=100000){P:Em->Bool}(hF:ke C)(d:∀ x∈D,kf C ([.agg (Yv x).toArray]++cap) I (.bool (P x))):kf 121 [.slice K n c,.func (.func C) #[] cap.toArray] I (.bool (D.any P)):=by
 intro g H w r;refine qe Tryz.func121 Tryz.ntmps121 r ?_;refine zR (zA<|zN (zR ?_));refine zM ?_;refine zM ?_;refine qcV (vs:=[_,_]) U zqJ (zIm a h hF d)<|zC<|zA (zN (Qq ?_))
 exact zr U U (by rw [<-Ut])
theorem zsz {D:List Pt}(x:Sl I 19 Y5 K n c D)(Q:n<=400000):kg 114 [.slice K n c] I [] (fun v F L=>F=I/\OwnS 57 19 v n (D.flatMap Y5) L):=by
 intro g H w r;refine qe Tryz.func114 Tryz.ntmps114 r ?_;refine zR<|zA<|zN<|Qk<|zR ?_;refine zM ?_;refine zV (zbm U U QV)<|zN ?_
 refine zI ?_ ?_<;>intro d
 ·have y:n=0:=OT fun h=>(by have:=x.base h;rw [this] at d;cases d);have E:=x.len;subst y;have z:=OI E;subst z;exact zR (zA (zN (Qq (Qb<|Zc U U (fun w r=>⟨_,I,_,U,zJH _,r,U,OwnS.nil⟩)))))
 refine Qm (Qa (zR<|zpb [] [] UO (fun u=>zM<|zpa (_) (D.flatMap Y5) ([(u,_)]) U U UO OwnS.new (x.src Yj) (znR _) ?_)));intro T M a _;rw [Oi,Oj] at a;exact zA (zN (Qq<|Zc U U (fun w r=>⟨_,I,_,U,zJH _,r.subL Q3,U,a⟩)))
theorem zES (Z:SlN I K n c rows)(hn:n<=100000){P:List Int->Bool}(hF:ke C)(hf:∀ (h:Hd) (r:List Int),r∈rows->Sl I 1 QF h.a h.n h.c r->kf C ([.slice h.a h.n h.c]++cap) I (.bool (P r))):kf 100 [.slice K n c,.func (.func C) #[] cap.toArray] I (.int .i64 (KA P rows)):=by
 intro g H w hw;refine qe Tryz.func100 Tryz.ntmps100 hw ?_;have W:=Z.len;obtain ⟨hs,Q⟩:=id Z;have hS:=Q.1;refine zR<|zA<|zN<|Qk<|zR ?_;refine zM ?_;refine zQ QM ?_;refine zM<|zN<|Ql ?_;refine zU [(0,_),(1,_),(7,_)] (fun T L0 mz E F u=>∃ (k:Nat),mz=n-k/\E=(8,.int .i64 k)::T/\I=F/\L0=u/\k<=n/\(rows.take k).any P=false) ?_ (h:=⟨0,U,U,U,U,jd _,U⟩);rintro mz E F u ⟨k,rfl,rfl,rfl,rfl,hk,z⟩;refine zR<|zC<|zN<|Qk ?_;refine zI ?_ ?_<;>intro V
 ·have y:k<n:=kd V;obtain ⟨Y,rx,hx,M,hQ⟩:=Q.at y;refine Qm (Qa (Qk (Ql (zR (zM<|zA<|zN (zR ?_))))));refine zM ?_;refine zM ?_;refine zM ?_;refine zV (Qs U U QM kE (fun hg=>kB)) ?_;refine zV (Qc U QA (fun hg=>by exact zJA hS hx U))<|YE (cap:=cap) (vs:=[_]) U U hF (hf Y rx (je M) hQ) U U<|zN ?_
  refine zI ?_ ?_<;>intro d
  ·refine zR (zM<|zA (zN (Qq (Qn (Qb (Qb (Qn (Qb ?_))))))));exact zr U U (by rw [V5 z M d])
  exact Qm (Qg (Qa (Qh (zB<|zM (Qe<|zm (h:=⟨n-(k+1),kB,k+1,U,U,U,U,kB,Z3 M z d⟩))))))
 have x:n<=k:=kd V;exact Qy (Qf (Qf (Qj (Qa (zR (zA (zN<|Qq<|zr U U (by rw [VG W x z]))))))))
theorem zHN (Z:A.take (n*19)=ps.flatMap Y5)(hl:ps.length=n)(hn:n<=100000)(hF:ke C)(hf:∀ x∈ps,kf C ([Wd x]++cap) I (.bool (P x))):kg 169 [.slice (some ⟨b,0,none⟩) n c,.func (.func C) #[] cap.toArray] I [(b,.cells A.toArray 57 (0,0))] (fun u F L=>u= .int .i64 (KA P ps)/\F=I/\L=[(b,.cells A.toArray 57 (0,0))]):=by
 intro g H w M;refine qe Tryz.func169 Tryz.ntmps169 M ?_;refine zR<|zA<|zN<|Qk<|zR ?_;refine zM ?_;refine zQ QV ?_;refine zM<|zN<|Ql ?_;refine zU [(0,_),(1,_),(7,_)] (fun T Y W E F d=>∃ (k:Nat),W=n-k/\E=(8,.int .i64 k)::T/\I=F/\Y=d/\k<=n/\(ps.take k).any P=false) ?_ (h:=⟨0,U,U,U,U,jd _,U⟩);rintro W E F d ⟨k,rfl,rfl,rfl,rfl,hk,y⟩;refine zR<|zC<|zN<|Qk ?_;refine zI ?_ ?_<;>intro z
 ·have V:k<n:=kd z;obtain ⟨x,Q⟩:∃ x,ps[k]? =some x:=⟨_,jf kB⟩;refine Qm (Qa (Qk (Ql (zR (zM<|zA<|zN (zR ?_))))));refine zM ?_;refine zM ?_;refine zM ?_;refine zV (QD U U QV (fun hg=>kB))<|zV (Qo U YH (fun hg=>by exact zvG Z Q) U)<|YE (cap:=cap) (vs:=[_]) U U hF (hf x (je Q)) U U<|zN ?_
  refine zI ?_ ?_<;>intro a
  ·exact zR (zM<|zA (zN (Qq (Qn (Qb (Qb (Qn (Qb<|Zc U U (fun w M=>⟨_,I,_,U,zJH _,M,by rw [V5 y Q a],U,U⟩)))))))))
  exact Qm (Qg (Qa (Qh (zB<|zM (Qe<|zm (h:=⟨n-(k+1),kB,k+1,U,U,U,U,kB,Z3 Q y a⟩))))))
 have r:n<=k:=kd z;exact Qy (Qf (Qf (Qj (Qa (zR (zA (zN<|Qq<|Zc U U (fun w M=>⟨_,I,_,U,zJH _,M,by rw [VG hl r y],U,U⟩))))))))
theorem zCh (Z:A.take (n*19)=ps.flatMap Y5)(W:A.length=c*19)(hl:ps.length=n)(r:n<=c)(hc:c<=maxLen)(hn:n<=100000)(hF:ke C)(hf:∀ x∈ps,kf C ([Wd x]++cap) I (.bool (P x))):kg 113 [.slice (some ⟨b,0,none⟩) n c,.func (.func C) #[] cap.toArray] I [(b,.cells A.toArray 57 (0,0))] (fun u F L=>F=I/\∃ m,OwnS 57 19 u m ((ps.filter fun p=> !P p).flatMap Y5) L):=by
 intro g H w Y;refine qe Tryz.func113 Tryz.ntmps113 Y ?_;refine zR (zA<|zN (zR ?_));refine zM ?_;refine zM<|zpc [_,_] U zeU Zp (zHN Z hl hn hF hf) ?_
 rintro a9 I1 L1 a5 ⟨rfl,rfl,rfl⟩;refine zA<|zN<|Qk<|zR ?_;refine zM<|zC (zN ?_)
 refine zI ?_ ?_<;>intro a
 ·have y:ps.any P=false:=by cases h:ps.any P with | false=>rfl | true=>(obtain ⟨i,x,h1,h2,h3,h4⟩:=zhH h;rw [h1] at a;simp at a)
  refine zR (zM<|zA (zN (Qq (Qb ?_))))
  first
  | exact Zc U U (fun w Y=>⟨_,I1,_,U,zJH _,Y,U,_,by rw [Bg.2 (fun q hq=>by rw [jL] at y;simpa using y q hq),<-Z];exact zIz Z W hl r hc⟩)
 obtain ⟨i,x,a2,hi,a0,y⟩:∃ (i:Nat) (x:Pt),KA P ps=(i:Nat)/\ps[i]? =some x/\P x=true/\(ps.take i).any P=false:=zgh (by cases h:ps.any P with | true=>rfl | false=>(unfold KA at a;rw [h] at a;simp at a));have a7:=(jc.1 hi).1;rw [a2];refine Qm<|Qa<|Qk<|zR<|zM ?_;refine zB<|zA (zN (Ql ?_))
 refine zU [(0,_),(1,_)] (fun T L0 mz E F Q=>∃ (i j:Nat) (zs:List Pt) (B:List Value),mz=n-j/\E=(5,.int .i64 i)::(6,.int .i64 j)::T/\I1=F/\[(b,.cells B.toArray 57 (0,0))]=Q/\DlQ P ps n c i j zs B) ?_ (h:=⟨i,i+1,ps,A,U,U,U,U,DlQ.new Z hl W hi a0 y⟩);rintro mz E F Q ⟨i,j,zs,B,rfl,rfl,rfl,rfl,d⟩;have a6:=d.hij;have a8:=d.hjn;refine Qk (zR (zM<|zM ?_));refine zQ QV<|zC (zN ?_)
 refine zI ?_ ?_<;>intro z
 ·have V:j<n:=kd z;obtain ⟨x,hx⟩:∃ x,ps[j]? =some x:=⟨_,jf kB⟩;have hz:=d.at hx;refine Qm<|Qa<|Qk<|Ql<|zR<|zM ?_;refine zM ?_;refine zV (QD U U QV (fun hg=>kB))<|zV (Qo U YH (fun hg=>by exact zvG d.hB hz) U)<|Qv WP U U (fun a4=>?_)
  refine zh Km<|zN (zR ?_)
  refine zM<|zV (Qo U YH (fun hg=>by exact Cells.g0) U)<|YE (cap:=cap) (vs:=[_]) U U hF (hf x (je hx)) U U<|zO (zN ?_)
  refine zI ?_ ?_<;>intro M
  ·refine zR<|zM ?_;refine zM ?_;refine zV (Qo U YH (fun hg=>by exact Cells.g0) U) ?_;refine zV (QD U U QV (fun hg=>kB))<|YW (A:=B) U U Km U (by rw [d.hl];exact zGZ d r V) U U (by repeat (first | exact Upd.here | apply Upd.there | apply QN)) ?_
   refine zN<|Qh<|zM ?_;refine zB<|zA (Qe (Qg (Qa (Qh<|zM ?_))))
   exact zB<|zA (Qe<|zm (h:=⟨n-(j+1),kB,i+1,j+1,_,_,U,U,U,U,d.keep hx (by simpa using M) r V⟩))
  refine Qm<|Qg<|Qa<|Qh<|zM ?_;exact zB<|zA (Qe<|zm (h:=⟨n-(j+1),kB,i,j+1,_,_,U,U,U,U,d.drop hx (by simpa using M) V⟩))
 have a1:n<=j:=kd z;refine Qy (Qf (Qf (Qj (Qa (zR (zM<|zM ?_))))));refine zV (zig U U QV kB)<|ztT (A:=B) (fun zs=>[(b,.cells (B.take (0+i*19)++(zs++B.drop (0+i*19+(n-i)*19))).toArray 57 (0,0))]) U zwz WP U U (by rw [d.hl];exact zEW d r) U U (fun zs=>.here) (fun zc a3=>zN (zR ?_))
 refine zM ?_;refine zM ?_;exact zV (zaF U U QV (fun hg=>kB))<|zA (zN (Qq<|Zc U U (fun w Y=>⟨_,I1,_,U,zJH _,Y,U,_,d.own a1 hl r hc a3⟩)))
end
end Go.Proofs.YtodakphagkommaaGreatDoor.R
