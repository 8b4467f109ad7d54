/- apparatusSpec_holds, part G of the proof: what its theorems say holds without further conditions. -/
import Derived.KernelRfl
import Derived.Test.YtodakphagkommaaGreatDoorASF
namespace Go.Proofs.YtodakphagkommaaGreatDoor.R
section
open Go Go.Kn Go.Proofs
theorem zzu {I:Qw}{b1 b2 r1 r2 r3:Nat}{av:Option Addr}{n c:Nat}{p:Pt}{ps:List Pt}(h1:I b1=some (.cells #[.map (some r1),.map (some r2),.map (some r3),.slice av n c] 159 (0,0)))(h2:I b2=some (.cells (YK p).toArray 57 (0,0)))(hOn:OnM I r1 ps)(id:Int)(hid:∃ q∈ps,q.id=id):Zu Tryz.prog 232 [.int .i64 id,.pointer (some ⟨b1,0,none⟩),.pointer (some ⟨b2,0,none⟩)] I (.bool (!onF ps id p.id)):=by
 intro g H w hw
 refine qe Tryz.func232 Tryz.ntmps232 hw ?_
 obtain ⟨m,hm1,hm2⟩:=hOn
 obtain ⟨ref,hget,sn,hsn,hsq⟩:=hm2.get hid
 refine zR (zA ?_)
 refine zN (zR ?_)
 refine zF zc3 ?_
 refine zV (Qd rfl zk9 (fun hg=>by exact .imm h1 rfl)) ?_
 refine zM ?_
 refine zV (YO (m:=m) (ek:=Value.int .i64) (ev:=zcK) (a:=id) hget KY ZQ rfl rfl (fun _=>.inl hm1)) ?_
 refine zF ZF ?_
 refine zV (Qd rfl Qr (fun hg=>by exact .imm h2 rfl)) ?_
 refine zV (Yt (m:=sn) VO ZQ rfl rfl (fun _=>.inl hsn)) ?_
 refine zO ?_
 refine zA (zN (Qs ?_))
 exact zr rfl rfl (by rw [show (ZH sn p.id).getD false=onF ps id p.id from hsq.mem _])
theorem znv {I:Qw}{ps l:List Pt}{xs:List Sg}{r1 r2 r3:Nat}{av:Option Addr}{n c:Nat}(hx:StQ I ps l xs r1 r2 r3 av n c)(s:Int):Z4 Tryz.prog 193 [stA r1 r2 r3 av n c,.int .i64 s] I [] (KD 1 QP (unK (onF ps) l s 9)):=by
 intro g H w hw
 refine qe Tryz.func193 Tryz.ntmps193 hw ?_
 have hIc:=zAl I
 obtain ⟨ms,hms,hset⟩:=hx.set
 obtain ⟨mr,hmr,hrem⟩:=hx.rem
 obtain ⟨av3,c3,hv3,hS3⟩:=hrem s
 have hfl:=hx.fewl
 have hrl:=zwd (l:=l) (s:=s)
 refine zR ?_
 refine Q9 rfl rfl rfl (fun b_2=>?_)
 refine zA (zN (Qk (Qk ?_)))
 refine Wx ((b_2,.cells #[.map (some r1),.map (some r2),.map (some r3),.slice av n c] 159 (0,0))::[]) .refl ?_
 refine Qf (zA (zN (Ql ?_)))
 refine zU [(1,_),(2,_)] (fun T L0 mz E I' loc'=>∃ (k:Nat) (v:Value) (q:Nat) (L:Go.Kn.Loc),mz=9-k∧E=(4,v)::(5,.int .i64 ((k:Int)+1))::T∧I=I'∧(b_2,.cells #[.map (some r1),.map (some r2),.map (some r3),.slice av n c] 159 (0,0))::L=loc'∧k≤9∧OwnS 3 1 v q ((unK (onF ps) l s k).flatMap QP) L∧True) ?_ (h:=⟨0,_,0,[],rfl,rfl,rfl,rfl,Nat.zero_le _,OwnS.nil,trivial⟩)
 rintro mz E I' loc' ⟨k,v,q,L,rfl,rfl,rfl,rfl,hk,hO,_⟩
 refine Qk (zR (zM ?_))
 refine zC (zN ?_)
 refine zI ?_ ?_<;>intro hc9
 ·
  have hlt_k:k<9:=by have h:=hc9;simp at h;omega
  refine Qo (Qa (Qk (Ql (Qk ?_))))
  obtain ⟨av2,c2,hv2,hS2⟩:=hset (s,(k:Int)+1)
  dsimp only at hv2 hS2
  have hstl:=zav (l:=l) (s:=s) (f:=(k:Int)+1)
  refine Qf ?_
  refine zF zaw ?_
  refine zL zeu ?_
  refine zM ?_
  refine zM ?_
  refine zV (ZC (ps:=[(0,_),(1,_)]) [_,_] Y1 KI rfl rfl) ?_
  refine zV (YF (m:=ms) (ek:=YR) (a:=(s,(k:Int)+1)) hv2 ze6 zdk rfl rfl (fun _=>.inl hms)) ?_
  refine zQ ZJ ?_
  refine zM (zN (Ql ?_))
  refine zU [(1,_),(2,_),(5,_),(17,_),(18,_)] (fun T L0 mz E I' loc'=>∃ (j:Nat) (v:Value) (q:Nat) (L:Go.Kn.Loc),mz=(stF l s ((k:Int)+1)).length-j∧E=(4,v)::(19,.int .i64 j)::T∧I=I'∧(b_2,.cells #[.map (some r1),.map (some r2),.map (some r3),.slice av n c] 159 (0,0))::L=loc'∧j≤(stF l s ((k:Int)+1)).length∧OwnS 3 1 v q ((unK (onF ps) l s k++zeh (zxQ (onF ps) l s) ((stF l s ((k:Int)+1)).take j)).flatMap QP) L∧True) ?_ (h:=⟨0,v,q,L,rfl,rfl,rfl,rfl,Nat.zero_le _,by rw [zkF,List.append_nil];exact hO,trivial⟩)
  rintro mz E I' loc' ⟨j,v,q,L,rfl,rfl,rfl,rfl,hj,hO,_⟩
  refine zR (zC (zN (Qk ?_)))
  refine zI ?_ ?_<;>intro hc20
  ·
   have hlt_j:j<(stF l s ((k:Int)+1)).length:=by have h:=hc20;simp at h;omega
   obtain ⟨p,hp⟩:=hS2.at hlt_j
   refine Qo (Qa (Qk (Ql (zR ?_))))
   refine zV (Qz rfl rfl ZJ (by assumption) (fun hg=>by omega)) ?_
   refine zV (Qq rfl YL (fun hg=>by exact zAm hS2 hp) rfl) ?_
   refine Qv UD rfl rfl (fun b_7=>?_)
   refine zh JD ?_
   refine zN (zR ?_)
   refine zF WD ?_
   refine zL zfK ?_
   refine zM ?_
   refine zV (YF (m:=mr) (ek:=Value.int .i64) (a:=s) hv3 Vg ZQ rfl rfl (fun _=>.inl hmr)) ?_
   refine zV (Zf (us:=[]) (vs:=[_,_]) rfl rfl) ?_
   refine UY (cap:=[]) (vs:=[_,_]) rfl rfl zk5 QD (zlF.ofV fun I' hI' hL'=>zvq (cap:=[.pointer (some ⟨b_2,0,none⟩),.pointer (some ⟨b_7,0,none⟩)]) (hS3.mono hI') (by omega) zqp (fun i hi=>zzu (b1:=b_2) (b2:=b_7) (r1:=r1) (r2:=r2) (r3:=r3) (av:=av) (n:=n) (c:=c) (p:=p) (hL' b_2 _ (by simp)) (hL' b_7 _ (by simp)) (hx.on.mono hI') i (zvL hx.sub hi))) rfl rfl ?_
   refine zN ?_
   refine zI ?_ ?_<;>intro hc28
   ·
    have hq:=zmn hO (by omega) hfl (by omega)
    refine Qf (zM ?_)
    refine zF ZF ?_
    refine zL Qr ?_
    refine Qp (ps:=[(0,_)]) (m:=[QP p.id]) Za rfl (.cons rfl (.nil)) rfl (by simp [Qu]) (by decide) (by decide) rfl rfl (fun b_32=>?_)
    refine QU (v:=_) (ys:=[p.id].flatMap QP) (L:=L) rfl rfl Za hO (by repeat (first | exact .cons .here .nil | exact QD | exact Qy | apply QC | apply QB)) ⟨rfl,fun _=>rfl,zAj⟩ (V0 [p.id]) (by omega) rfl rfl ?_
    intro v9 L9 hO9 _;rw [←List.flatMap_append,List.append_assoc] at hO9
    refine zA (Qc (Qg (Qa (Qf ?_))))
    refine zB ?_
    refine zM (Qc ?_)
    first
    | exact JI _ _ (L9++[(b_2,_)]) ⟨(stF l s ((k:Int)+1)).length-(j+1),by omega,j+1,_,_,L9,rfl,rfl,rfl,rfl,by omega,by rw [zoe (P:=zxQ (onF ps) l s) hp hc28];exact hO9,trivial⟩ (.cons rfl (.cons rfl (.cons rfl (.cons rfl (.cons rfl (.cons rfl (.cons rfl .nil))))))) (zdN _ _) (by repeat (first | exact .refl | exact Zg | refine Yu ?_ | refine .drop ?_ | refine Ya ?_))
   refine Qo (Qg (Qa (Qf (zB ?_))))
   refine zM (Qc ?_)
   first
   | exact zm (h:=⟨(stF l s ((k:Int)+1)).length-(j+1),by omega,j+1,_,_,_,rfl,rfl,rfl,rfl,by omega,by rw [ztq (P:=zxQ (onF ps) l s) hp hc28];exact hO,trivial⟩)
  have hge_j:(stF l s ((k:Int)+1)).length≤j:=by have h:=hc20;simp at h;omega
  rw [Zo rfl hge_j] at hO
  refine QH (Qe (Qe (Qj (Qg (Qa (Qf (zM ?_)))))))
  refine zB ?_
  refine zA (Qc ?_)
  exact zm (h:=⟨9-(k+1),by omega,k+1,_,_,_,rfl,rfl,rfl,rfl,by omega,by rw [zgc];exact hO,trivial⟩)
 have hge_k:9≤k:=by have h:=hc9;simp at h;omega
 have hk9:k=9:=by omega
 subst hk9
 refine QH (Qe (Qe (Qj (Qa (zR (zM ?_))))))
 refine zA (zN (Qs ?_))
 exact Zq rfl rfl (fun w hw=>by obtain ⟨I9,h91,h92,h93⟩:=OwnS.res hO Qu (by decide) (hw.subL (by repeat (first | exact .refl | refine .drop ?_)));exact ⟨_,I9,[],rfl,hIc.trans h91,h92,h93⟩)
theorem zlf {I:Qw}{ps l:List Pt}{xs:List Sg}{r1 r2 r3:Nat}{av:Option Addr}{n c:Nat}(hx:StQ I ps l xs r1 r2 r3 av n c)(s:Int):Z4 Tryz.prog 193 [stA r1 r2 r3 av n c,.int .i64 s] I [] (fun u _I9 L9=>L9=[]∧∃ a9 c9,u= .slice a9 (unK (onF ps) l s 9).length c9):=
 (znv hx s).mono fun v I' L' _ h=>by
  obtain ⟨h1,a9,c9,h2,_⟩:=h
  exact ⟨h1,a9,c9,h2⟩
theorem zmQ {I:Qw}{ps l:List Pt}{xs:List Sg}{r1 r2 r3:Nat}{av:Option Addr}{n c:Nat}(hx:StQ I ps l xs r1 r2 r3 av n c)(hok:∀ p∈l,ztC p)(s:Int):Zu Tryz.prog 143 [stA r1 r2 r3 av n c,.int .i64 s] I (.bool (exB (onF ps) l s)):=by
 intro g H w hw
 refine qe Tryz.func143 Tryz.ntmps143 hw ?_
 have hIc:=zAl I
 obtain ⟨mr,hmr,hrem⟩:=hx.rem
 obtain ⟨av3,c3,hv3,hS3⟩:=hrem s
 refine zR ?_
 refine Q9 rfl rfl rfl (fun b_2=>?_)
 refine zA ?_
 refine zN (zR ?_)
 refine zF WD ?_
 refine zL zfK ?_
 refine zM ?_
 refine zV (YF (m:=mr) (ek:=Value.int .i64) (a:=s) hv3 Vg ZQ rfl rfl (fun _=>.inl hmr)) ?_
 refine zQ Qt ?_
 refine zC ?_
 refine zM ?_
 refine QV 6 rfl rfl rfl ?_
 refine zJ (Qq rfl Vm (fun hg=>by exact Cells.g0) rfl) ?_
 refine zJ (Qh rfl) ?_
 refine zkD (cap:=[]) (vs:=[_,_]) rfl rfl zqE (fun hg=>zlf hx s) ⟨_,rfl,none,0,rfl⟩ (.some rfl rfl rfl rfl gbf) rfl rfl ?_
 rintro vv I9 L9 hI9 ⟨rfl,a9,c9,rfl⟩
 have hIc:=hIc.trans hI9
 refine zJ (ZB rfl Qt) ?_
 refine zJ (QI rfl rfl rfl) ?_
 refine Zs rfl rfl rfl rfl rfl ?_
 refine zA (zN (Qs ?_))
 exact zp hIc rfl rfl (by rw [←zyY hok])
end
section
open Go Go.Kn Go.Proofs
theorem zqa {I:Qw}{b1 b2 r1 r2 r3:Nat}{av:Option Addr}{n c:Nat}{p:Pt}{ps:List Pt}(h1:I b1=some (.cells #[.map (some r1),.map (some r2),.map (some r3),.slice av n c] 159 (0,0)))(h2:I b2=some (.cells (YK p).toArray 57 (0,0)))(hOn:OnM I r1 ps)(q:Pt)(hid:∃ z∈ps,z.id=q.id):Zu Tryz.prog 195 [WW q,.pointer (some ⟨b1,0,none⟩),.pointer (some ⟨b2,0,none⟩)] I (.bool (onF ps q.id p.id)):=by
 intro g H w hw
 refine qe Tryz.func195 Tryz.ntmps195 hw ?_
 obtain ⟨m,hm1,hm2⟩:=hOn
 obtain ⟨ref,hget,sn,hsn,hsq⟩:=hm2.get hid
 refine zR ?_
 refine Q9 rfl rfl rfl (fun b_3=>?_)
 refine zA ?_
 refine zN (zR ?_)
 refine zF zc3 ?_
 refine zV (Qd rfl zk9 (fun hg=>by exact .imm h1 rfl)) ?_
 refine zF ZF ?_
 refine zL Qr ?_
 refine zV (YO (m:=m) (ek:=Value.int .i64) (ev:=zcK) (a:=q.id) hget KY ZQ rfl rfl (fun _=>.inl hm1)) ?_
 refine zF ZF ?_
 refine zV (Qd rfl Qr (fun hg=>by exact .imm h2 rfl)) ?_
 refine zV (Yt (m:=sn) VO ZQ rfl rfl (fun _=>.inl hsn)) ?_
 refine zA (zN (Qs ?_))
 exact zr rfl rfl (by rw [show (ZH sn p.id).getD false=onF ps q.id p.id from hsq.mem _])
def zzT (I:Qw)(r1 r2 r3:Nat)(av:Option Addr)(n c:Nat)(s f:Int)(b1 b2 b3:Nat):Prop:=I b1=some (.cells #[.map (some r1),.map (some r2),.map (some r3),.slice av n c] 159 (0,0))∧I b2=some (.cells #[.int .i64 s] 3 (0,0))∧I b3=some (.cells #[.int .i64 f] 3 (0,0))
theorem zmF (I:Qw)(r1 r2 r3:Nat)(av:Option Addr)(n c:Nat)(s f:Int):Z4 Tryz.prog 144 [stA r1 r2 r3 av n c,.int .i64 s,.int .i64 f] I [] (fun v I' L=>L=[]∧∃ b1 b2 b3,v= .func (.func 194) #[] [Ze b1,Ze b2,Ze b3].toArray∧zzT I' r1 r2 r3 av n c s f b1 b2 b3):=by
 intro g H w hw
 refine qe Tryz.func144 Tryz.ntmps144 hw ?_
 have hIc:=zAl I
 refine zR ?_
 refine Q9 rfl rfl rfl (fun b_3=>?_)
 refine Q9 rfl rfl rfl (fun b_4=>?_)
 refine Q9 rfl rfl rfl (fun b_5=>?_)
 refine zA (zN (Qk ?_))
 refine Zn .here (fun I1 hI1 hb1=>?_)
 have hIc:=hIc.trans hI1
 have h3:=hb1
 refine Zn .here (fun I2 hI2 hb2=>?_)
 have hIc:=hIc.trans hI2
 have h2:=hb2
 have h3:=hI2 _ _ h3
 refine Zn .here (fun I3 hI3 hb3=>?_)
 have hIc:=hIc.trans hI3
 have h1:=hb3
 have h3:=hI3 _ _ h3;have h2:=hI3 _ _ h2
 refine Qf ?_
 refine zV (Zf (us:=[]) (vs:=[_,_,_]) rfl rfl) ?_
 refine zA (zN (Qs ?_))
 exact Zq rfl rfl (fun w hw=>⟨_,I3,[],rfl,hIc,hw.drop,rfl,b_3,b_4,b_5,rfl,h1,h2,h3⟩)
theorem zqR {I : Qw} {ps l : List Pt} {xs : List Sg} {r1 r2 r3 : Nat} {av : Option Addr} {n c : Nat} (hx : StQ I ps l xs r1 r2 r3 av n c) {s f : Int} {b1 b2 b3 : Nat} (hcap : zzT I r1 r2 r3 av n c s f b1 b2 b3) : zz3 Tryz.prog 194 [Ze b1, Ze b2, Ze b3] I WW (zhV (onF ps) l s f) := by
  rw [zwe]
  intro g y J Jx hY I0 H w h0 hJ hw
  obtain ⟨h1, h2, h3⟩ := hcap
  have hx := hx.mono h0
  have h1 := h0 _ _ h1; have h2 := h0 _ _ h2; have h3 := h0 _ _ h3
  refine qe Tryz.func194 Tryz.ntmps194 hw ?_
  obtain ⟨ms, hms, hset⟩ := hx.set
  obtain ⟨av2, c2, hv2, hS2⟩ := hset (s, f)
  dsimp only at hv2 hS2
  have hln := Nat.le_trans (zav (l := l) (s := s) (f := f)) hx.fewl
  refine zR ?_
  refine zF zaw ?_
  refine zV (Qd rfl zeu (fun hg => by exact QY.imm h1 rfl)) ?_
  refine zV (Qd rfl Qr (fun hg => by exact QY.imm h2 rfl)) ?_
  refine zV (Qd rfl Qr (fun hg => by exact QY.imm h3 rfl)) ?_
  refine zV (ZC (ps := [(0, _), (1, _)]) [_, _] Y1 KI rfl rfl) ?_
  refine zV (YF (m := ms) (ek := YR) (a := (s, f)) hv2 ze6 zdk rfl rfl (fun _ => .inl hms)) ?_
  refine zA ?_
  refine zN (zR ?_)
  refine zM ?_
  refine zQ ZJ ?_
  refine zM (zN (Ql ?_))
  refine zd9 (fun m E I' H' loc' => ∃ (k : Nat), m = (stF l s f).length - k ∧ E = [(0, .func (.yield y) #[] #[]), (1, Ze b1), (5, .slice av2 (stF l s f).length c2), (14, .slice av2 (stF l s f).length c2), (15, .int .i64 (stF l s f).length), (16, .int .i64 k)] ∧ loc' = [] ∧ HLe I0 I' ∧ k ≤ (stF l s f).length ∧ J (((stF l s f).take k).filter (zc0 (onF ps) (stF l s f))) I' H') _ _ _ ⟨0, rfl, rfl, rfl, zAl _, Nat.zero_le _, hJ⟩ (.cons rfl (.cons rfl (.cons rfl (.cons rfl (.cons rfl (.cons rfl .nil)))))) rfl ?_
  rintro m E I' H' loc' ⟨k, rfl, rfl, rfl, hI1, hk, hJk⟩
  have hS2 := hS2.mono hI1
  have hx := hx.mono hI1
  have h1 := hI1 _ _ h1
  have hI0 := h0.trans hI1
  refine zR (zC (zN (Qk ?_)))
  refine zI ?_ ?_ <;> intro hc17
  · skip
    have hlt : k < (stF l s f).length := by simpa using hc17
    obtain ⟨p, hp⟩ := hS2.at hlt
    refine Qo (Qa (Qk (Ql (zR ?_))))
    refine zV (Qz rfl rfl ZJ (by assumption) (fun hg => by omega)) ?_
    refine zV (Qq rfl YL (fun hg => by exact zAm hS2 hp) rfl) ?_
    refine Qv UD rfl rfl (fun b_7 => ?_)
    refine zh JD ?_
    refine zN (Qk ?_)
    have hpc : ∀ {b : Bool} {G : Env}, ZV [(b, G)] = true → b = zc0 (onF ps) (stF l s f) p → zc0 (onF ps) (stF l s f) p = true := fun h e => by rw [← e]; simpa [ZV] using h
    refine Qf (zM ?_)
    refine zV (Zf (us := []) (vs := [_, _]) rfl rfl) ?_
    refine UY (cap := []) (vs := [_, _]) rfl rfl zkm QD (zlF.ofV fun I' hI' hL' => zuN (cap := [.pointer (some ⟨b1, 0, none⟩), .pointer (some ⟨b_7, 0, none⟩)]) (SlP.mono ⟨hS2, fun p hp => hx.nd p (hx.sub p (zas.1 hp).1)⟩ hI') (by omega) zsM (fun q hq => zqa (b1 := b1) (b2 := b_7) (r1 := r1) (r2 := r2) (r3 := r3) (av := av) (n := n) (c := c) (p := p) (hI' _ _ h1) (hL' b_7 _ (by simp)) (hx.on.mono hI') q ⟨q, hx.sub q (zas.1 hq).1, rfl⟩)) rfl rfl ?_
    refine zO ?_
    refine zM ?_
    refine QG 4 rfl rfl rfl ?_
    refine zK (Qh rfl) ?_
    refine zK (Qq rfl YL (fun hg => by exact Cells.g0) rfl) ?_
    refine zdI (vs := [_]) (Post := fun b I2 H2 => if b then J (((stF l s f).take k).filter (zc0 (onF ps) (stF l s f)) ++ [p]) I2 H2 else Jx (((stF l s f).take k).filter (zc0 (onF ps) (stF l s f)) ++ [p]) I2 H2) rfl rfl (.some rfl rfl rfl rfl gbt) rfl rfl (fun hcj => hY _ p _ _ (zjJ hp (hpc hcj rfl)) hI0 hJk) ?_
    rintro b I2 H2 hI2 hyes hno
    refine zK (Yw rfl) ?_
    refine QL rfl rfl rfl rfl rfl ?_
    refine zN ?_
    refine zI ?_ ?_ <;> intro hc29
    · skip
      refine Qs (Qm (Qb (Qb (Qm ?_))))
      first
      | (exact YY rfl (fun w hw => ⟨_, I2, H2, rfl, hI1.trans hI2, hw.drop, .inr ⟨_, zjJ hp (show zc0 (onF ps) (stF l s f) p = true from ((Bool.and_eq_true _ _).mp (show (zc0 (onF ps) (stF l s f) p && !b) = true from hc29)).1), by have hc : (zc0 (onF ps) (stF l s f) p && !b) = true := hc29; rw [Bool.and_eq_true, Bool.not_eq_true'] at hc; have h9 := hyes (show ZV [(zc0 (onF ps) (stF l s f) p, _)] = true from by rw [hc.1]; rfl); rw [hc.2] at h9; exact h9⟩⟩))
    · skip
      refine Qo (Qg (Qa (Qf (zB ?_))))
      refine zM (Qc ?_)
      have hyes := fun (e : zc0 (onF ps) (stF l s f) p = true) => hyes (show ZV [(zc0 (onF ps) (stF l s f) p, _)] = true from by rw [e]; rfl)
      have hno := fun (e : zc0 (onF ps) (stF l s f) p = false) => hno (show ZV [(zc0 (onF ps) (stF l s f) p, _)] = false from by rw [e]; rfl)
      have hc : (zc0 (onF ps) (stF l s f) p && !b) = false := hc29
      have hJ2 : J (((stF l s f).take (k + 1)).filter (zc0 (onF ps) (stF l s f))) I2 H2 := by
        cases hA : zc0 (onF ps) (stF l s f) p with
        | true => rw [Xa hp hA]; rw [hA] at hc; have hb : b = true := by simpa using hc
                  subst hb; exact hyes hA
        | false => rw [za9 hp hA]; obtain ⟨e1, e2⟩ := hno hA; rw [e1, e2]; exact hJk
      exact XC rfl rfl rfl _ [] ⟨(stF l s f).length - (k + 1), by omega, k + 1, rfl, rfl, rfl, hI1.trans hI2, by omega, hJ2⟩ (.cons rfl (.cons rfl (.cons rfl (.cons rfl (.cons rfl (.cons rfl .nil)))))) (.drop .refl)
  · skip
    have hge : (stF l s f).length ≤ k := by simpa using hc17
    refine QH (Qe (Qe (Qj ?_)))
    first
    | (exact VM (YY rfl (fun w hw => ⟨_, I', H', rfl, hI1, hw, .inl (by rw [Zo rfl hge] at hJk; exact hJk)⟩)))
end
section
open Go Go.Kn Go.Proofs
theorem zaU {α:Type}{C:Cx}{E:Env}{I:Qw}{loc loc':Go.Kn.Loc}{Jc:List α→Qw→Go.Kn.Loc→Prop}{Jx:Code→List α→Qw→Go.Kn.Loc→Prop}{pre:List α}{id:Nat}(h:Jx (.exit id) pre I loc')(hs:KF loc' loc):At C (za3 C.g C.H Jc Jx pre) (.exit id) E I loc:=fun _ _ _ hw=>⟨I,loc',h,hw.subL hs⟩
theorem zzk (I:Qw)(b:Nat)(x:Sg)(f:Int)(y:Sg)(hf:isF f):Z4 Tryz.prog 145 [Ze b,.int .i64 f,J0 y] I [(b,.cells (Vy x).toArray 54 (0,0))] (fun v I' L=>v= .tuple #[]∧I'=I∧L=[(b,.cells (Vy (zaV x f y)).toArray 54 (0,0))]):=by
 intro g H w hw
 refine qe Tryz.func145 Tryz.ntmps145 hw ?_
 refine zR ?_
 refine Q9 rfl rfl rfl (fun b_5=>?_)
 refine zN (zR ?_)
 refine zM (zN (Ql (zR ?_)))
 refine zC ?_
 refine zA (zN ?_)
 refine zI ?_ ?_<;>intro hc7
 ·
  have hfk:f=1:=by simpa using hc7
  subst hfk
  refine Qf (zM ?_)
  refine zF Jm ?_
  refine zL Qr ?_
  refine zV (Q5 rfl) ?_
  refine zF Jm ?_
  refine zS Yd ?_
  refine Qc (Qg ?_)
  exact VM (YY rfl (fun w hw=>⟨_,I,_,rfl,zAl _,hw.subL (.drop .refl),rfl,rfl,rfl⟩))
 have hg1:f≠1:=by simpa using hc7
 refine zR (zC ?_)
 refine zA (zN ?_)
 refine zI ?_ ?_<;>intro hc14
 ·
  have hfk:f=2:=by simpa using hc14
  subst hfk
  refine Qf (zM ?_)
  refine zF Kt ?_
  refine zL Qr ?_
  refine zV (Q5 rfl) ?_
  refine zF Kt ?_
  refine zS Yd ?_
  refine Qc (Qg ?_)
  exact VM (YY rfl (fun w hw=>⟨_,I,_,rfl,zAl _,hw.subL (.drop .refl),rfl,rfl,rfl⟩))
 have hg2:f≠2:=by simpa using hc14
 refine zR (zC ?_)
 refine zA (zN ?_)
 refine zI ?_ ?_<;>intro hc21
 ·
  have hfk:f=3:=by simpa using hc21
  subst hfk
  refine Qf (zM ?_)
  refine zF JX ?_
  refine zL Qr ?_
  refine zV (Q5 rfl) ?_
  refine zF JX ?_
  refine zS Yd ?_
  refine Qc (Qg ?_)
  exact VM (YY rfl (fun w hw=>⟨_,I,_,rfl,zAl _,hw.subL (.drop .refl),rfl,rfl,rfl⟩))
 have hg3:f≠3:=by simpa using hc21
 refine zR (zC ?_)
 refine zA (zN ?_)
 refine zI ?_ ?_<;>intro hc28
 ·
  have hfk:f=4:=by simpa using hc28
  subst hfk
  refine Qf (zM ?_)
  refine zF Jq ?_
  refine zL Qr ?_
  refine zV (Q5 rfl) ?_
  refine zF Jq ?_
  refine zS Yd ?_
  refine Qc (Qg ?_)
  exact VM (YY rfl (fun w hw=>⟨_,I,_,rfl,zAl _,hw.subL (.drop .refl),rfl,rfl,rfl⟩))
 have hg4:f≠4:=by simpa using hc28
 refine zR (zC ?_)
 refine zA (zN ?_)
 refine zI ?_ ?_<;>intro hc35
 ·
  have hfk:f=5:=by simpa using hc35
  subst hfk
  refine Qf (zM ?_)
  refine zF Jh ?_
  refine zL Qr ?_
  refine zV (Q5 rfl) ?_
  refine zF Jh ?_
  refine zS Yd ?_
  refine Qc (Qg ?_)
  exact VM (YY rfl (fun w hw=>⟨_,I,_,rfl,zAl _,hw.subL (.drop .refl),rfl,rfl,rfl⟩))
 have hg5:f≠5:=by simpa using hc35
 refine zR (zC ?_)
 refine zA (zN ?_)
 refine zI ?_ ?_<;>intro hc42
 ·
  have hfk:f=6:=by simpa using hc42
  subst hfk
  refine Qf (zM ?_)
  refine zF Ju ?_
  refine zL Qr ?_
  refine zV (Q5 rfl) ?_
  refine zF Ju ?_
  refine zS Yd ?_
  refine Qc (Qg ?_)
  exact VM (YY rfl (fun w hw=>⟨_,I,_,rfl,zAl _,hw.subL (.drop .refl),rfl,rfl,rfl⟩))
 have hg6:f≠6:=by simpa using hc42
 refine zR (zC ?_)
 refine zA (zN ?_)
 refine zI ?_ ?_<;>intro hc49
 ·
  have hfk:f=7:=by simpa using hc49
  subst hfk
  refine Qf (zM ?_)
  refine zF Jk ?_
  refine zL Qr ?_
  refine zV (Q5 rfl) ?_
  refine zF Jk ?_
  refine zS Yd ?_
  refine Qc (Qg ?_)
  exact VM (YY rfl (fun w hw=>⟨_,I,_,rfl,zAl _,hw.subL (.drop .refl),rfl,rfl,rfl⟩))
 have hg7:f≠7:=by simpa using hc49
 refine zR (zC ?_)
 refine zA (zN ?_)
 refine zI ?_ ?_<;>intro hc56
 ·
  have hfk:f=8:=by simpa using hc56
  subst hfk
  refine Qf (zM ?_)
  refine zF Jg ?_
  refine zL Qr ?_
  refine zV (Q5 rfl) ?_
  refine zF Jg ?_
  refine zS Yd ?_
  refine Qc (Qg ?_)
  exact VM (YY rfl (fun w hw=>⟨_,I,_,rfl,zAl _,hw.subL (.drop .refl),rfl,rfl,rfl⟩))
 have hg8:f≠8:=by simpa using hc56
 refine zR (zC ?_)
 refine zA (zN ?_)
 refine zI ?_ ?_<;>intro hc63
 ·
  have hfk:f=9:=by simpa using hc63
  subst hfk
  have hD:=zAl I
  refine JH ?_
  refine Z7 I [(b_5,.cells (J0 y).cells 54 (0,0))] mixed ?_
  refine zT 0 rfl (Qh rfl) hD ?_
  refine zT 1 rfl (Qh rfl) hD ?_
  refine zT 2 rfl (Qi rfl VY) hD ?_
  refine zT 3 rfl (Qq rfl VJ (fun hg=>by exact Cells.s0 (vs:=[_,_]) rfl) rfl) hD ?_
  refine zT 4 rfl (Qi rfl V1) hD ?_
  refine zT 5 rfl (Qq rfl VJ (fun hg=>by exact Cells.s0 (vs:=[_,_]) rfl) rfl) hD ?_
  refine zT 6 rfl (Q5 rfl) hD ?_
  refine zT 7 rfl (Qi rfl VY) hD ?_
  refine qd 8 rfl ?_
  refine JG rfl rfl zbh rfl rfl rfl rfl (by repeat (first | exact Upd.here | apply Upd.there | apply QM)) ?_
  refine Qc ?_
  refine zD hD ?_
  refine zT 9 rfl (Q5 rfl) hD ?_
  refine zT 10 rfl (Qi rfl V1) hD ?_
  refine qd 11 rfl ?_
  refine JG rfl rfl zbh rfl rfl rfl rfl (by repeat (first | exact Upd.here | apply Upd.there | apply QM)) ?_
  refine Qc ?_
  refine zD hD ?_
  refine QK (by kernel_rfl) ?_
  refine QW ?_
  refine Qg ?_
  exact VM (YY rfl (fun w hw=>⟨_,I,_,rfl,zAl _,hw.subL (.drop .refl),rfl,rfl,rfl⟩))
 have hg9:f≠9:=by simpa using hc63
 refine Qo (Qg ?_)
 first
 | (exfalso;unfold isF at hf;omega)
end
section
open Go Go.Kn Go.Proofs
def exL (on:Int→Int→Bool)(l:List Pt)(xs:List Sg):List Sg:=(xs.filter fun x=>exB on l x.id).map (zlN on l)
theorem zt8 {on:Int→Int→Bool}{l:List Pt}{xs:List Sg}{k:Nat}{x:Sg}(hx:xs[k]? =some x)(h:exB on l x.id=true):exL on l (xs.take (k+1))=exL on l (xs.take k)++[zlN on l x]:=by
 unfold exL
 rw [Z6 hx,List.filter_append,List.filter_cons,if_pos h];simp
theorem zzx {on:Int→Int→Bool}{l:List Pt}{xs:List Sg}{k:Nat}{x:Sg}(hx:xs[k]? =some x)(h:exB on l x.id=false):exL on l (xs.take (k+1))=exL on l (xs.take k):=by
 unfold exL
 rw [Z6 hx,List.filter_append,List.filter_cons,if_neg (by rw [h];exact Bool.false_ne_true)];simp
theorem zrH {on:Int→Int→Bool}{l:List Pt}{xs:List Sg}:exL on l (xs.take 0)=[]:=by unfold exL;simp
def exE (on:Int→Int→Bool)(l:List Pt)(xs:List Sg):Int:=if (exL on l xs).length>4096 then 2 else 0
def zlI (e:Int)(xs:List Sg):Value→Qw→Go.Kn.Loc→Prop:=fun v I' L=>L=[]∧∃ av c,v= .tuple #[.slice av xs.length c,.int .i64 e]∧Sl I' 14 Vy av xs.length c xs
theorem zlI.empty {e:Int}{xs:List Sg}{I:Qw}(h:xs=[]):zlI e xs (.tuple #[.slice none 0 0,.int .i64 e]) I []:=by
 subst h
 exact ⟨rfl,none,0,rfl,.nil⟩
theorem zlI.good {e e':Int}{xs ys:List Sg}{I:Qw}{av:Option Addr}{n c:Nat}(h:e=e')(hx:ys=xs)(hS:Sl I 14 Vy av n c ys):zlI e' xs (.tuple #[.slice av n c,.int .i64 e]) I []:=by
 subst h;subst hx
 have hn:=hS.len
 subst hn
 exact ⟨rfl,av,c,rfl,hS⟩
theorem zl4 {x:Sg}{f:Int}{l:List Pt}(h:l=[]):zp1 x f l=x:=by subst h;rfl
theorem zod {x:Sg}{f:Int}{l:List Pt}{p:Pt}(h:[p]<+:l):zp1 x f l=zaV x f p.nw:=by
 obtain ⟨t,rfl⟩:=h;rfl
theorem zgp {on:Int→Int→Bool}{l:List Pt}{x y:Sg}{k:Nat}(hy:y=zhR on l x k):zp1 y ((k:Int)+1) (zhV on l y.id ((k:Int)+1))=zhR on l x (k+1):=by
 subst hy
 rw [zcR,(zez k).1]
theorem zyy {k:Nat}(h:k<9):isF ((k:Int)+1):=by unfold isF;omega
theorem ziD {on:Int→Int→Bool}{l:List Pt}{x:Sg}:x=zhR on l x 0:=rfl
theorem zsx {ps:List Pt}{bs:List Sg}{ws:List Int}(h:X0 ps bs ws≠0):zga ps bs ws=X0 ps bs ws:=by unfold zga;rw [if_pos h]
theorem zpH {ps:List Pt}{bs:List Sg}{ws:List Int}(h:X0 ps bs ws=0):zga ps bs ws=exE (onF ps) (YZ ps ws) (Xj bs (YZ ps ws)):=by unfold zga;rw [if_neg (by omega)];rfl
theorem zjr {ps:List Pt}{bs:List Sg}{ws:List Int}(h:X0 ps bs ws=0):Uc ps=0:=by
 by_cases h2:Uc ps=0
 ·
  exact h2
 ·
  rw [zrn h2] at h;exact h
theorem zyW {ps:List Pt}{bs:List Sg}{ws:List Int}(h:X0 ps bs ws=0):WM bs=0:=by
 by_cases h2:WM bs=0
 ·
  exact h2
 ·
  rw [ztI (zjr h) h2] at h;exact h
theorem zuw {ps:List Pt}{bs:List Sg}{ws:List Int}(h:X0 ps bs ws=0):∀ p∈YZ ps ws,ztC p:=fun p hp=>(zbV (zjr h)).ok p (Vp.1 hp).1
theorem zn8 (bs:List Sg)(l:List Pt):(Xj bs l).length≤bs.length+l.length:=by
 have h:=(zbY l bs).length_eq
 rw [h,List.length_append]
 unfold zbS
 rw [List.length_map]
 have:=List.length_filter_le (fun p:Pt=>p.kind==2) l
 omega
end
section
open Go Go.Kn Go.Proofs
theorem zjG {I:Qw}{ps l:List Pt}{xs:List Sg}{r1 r2 r3:Nat}{av:Option Addr}{n c:Nat}(hx:StQ I ps l xs r1 r2 r3 av n c)(hn:n≤100000)(hok:∀ p∈l,ztC p):Z4 Tryz.prog 84 [stA r1 r2 r3 av n c] I [] (zlI (exE (onF ps) l xs) (zmv (exE (onF ps) l xs) (exL (onF ps) l xs))):=by
 intro g H w hw
 refine zeS Tryz.func84 rfl Tryz.ntmps84 rfl hw ?_
 have hIc:=zAl I
 refine zR ?_
 refine Q9 rfl rfl rfl (fun b_1=>?_)
 refine zA ?_
 refine zA (zN (Qk (Qk ?_)))
 refine Wx ((b_1,.cells #[.map (some r1),.map (some r2),.map (some r3),.slice av n c] 159 (0,0))::([]++MB _)) .refl ?_
 refine Qf ?_
 refine zF UW ?_
 refine zL zdC ?_
 refine zQ VF ?_
 refine zM (zN (Ql ?_))
 refine UF [(1,_),(9,_),(10,_)] (.cons rfl (.cons rfl (.cons rfl .nil))) (fun T L0 mz ms E I' loc'=>∃ (j:Nat) (v:Value) (q:Nat) (L:Go.Kn.Loc),mz=n-j∧E=(2,v)::(11,.int .i64 j)::T∧HLe I I'∧(b_1,.cells #[.map (some r1),.map (some r2),.map (some r3),.slice av n c] 159 (0,0))::(L++MB ms)=loc'∧j≤n∧OwnS 54 14 v q ((exL (onF ps) l (xs.take j)).flatMap Vy) L∧q≤j) _ _ _ _ ⟨0,_,0,[],rfl,rfl,zAl _,rfl,Nat.zero_le _,by rw [zrH];exact OwnS.nil,Nat.le_refl _⟩ (.cons rfl (.cons rfl (.cons rfl (.cons rfl (.cons rfl .nil))))) (zAl _) rfl ?_
 rintro mz ms E J1 loc' ⟨j,v,q,L,rfl,rfl,hJ,rfl,hj,hO,hq⟩
 have hx:=hx.mono hJ;have hIc:=hIc.trans hJ
 have hB0:=hJ
 refine zR (zC (zN (Qk ?_)))
 refine zI ?_ ?_<;>intro hc12
 ·
  have hlt_j:j<n:=by have h:=hc12;simp at h;omega
  have hS:=hx.sg
  obtain ⟨x,hxx⟩:=hS.at hlt_j
  refine Qo (Qa (Qk (Ql (zR ?_))))
  refine zV (Qz rfl rfl VF (by assumption) (fun hg=>by omega)) ?_
  refine zV (Qq rfl ZI (fun hg=>by exact zAm hS hxx) rfl) ?_
  refine Qv Wg rfl rfl (fun b_5=>?_)
  refine zh Y5 ?_
  refine zN (Qk (zR ?_))
  refine zV (Qq rfl Vm (fun hg=>by exact Cells.g1) rfl) ?_
  refine zF Z9 ?_
  refine zL Qr ?_
  refine qc (vs:=[_,_]) rfl zqQ (zmQ hx hok _) ?_
  refine zO (zN ?_)
  refine zI ?_ ?_<;>intro hc19
  ·
   have hex:=(Bool.not_eq_true' _).mp hc19
   refine QH (Qe (Qj (Qa (Qf (zB ?_)))))
   refine zM (Qc ?_)
   first
   | exact zd (h:=⟨n-(j+1),by omega,j+1,_,_,_,rfl,rfl,hB0,rfl,by omega,by rw [zzx hxx hex];exact hO,by omega⟩)
  have hex:=(Bool.not_eq_false' _).mp hc19
  refine Qo (Qa (Qk (zR ?_)))
  refine Qv zv8 rfl rfl (fun b_6=>?_)
  refine zS Yd ?_
  refine zN (Ql ?_)
  refine UF [(1,_),(2,_),(5,_),(9,_),(10,_),(11,_)] (.cons rfl (.cons rfl (.cons rfl (.cons rfl (.cons rfl (.cons rfl .nil)))))) (fun T L0 mz ms E I' loc'=>∃ (k:Nat) (b6:Nat) (y:Sg),mz=9-k∧E=(6,Ze b6)::T∧HLe J1 I'∧(b6,.cells #[.int .i64 ((k:Int)+1)] 3 (0,0))::(b_5,.cells (Vy y).toArray 54 (0,0))::(b_1,.cells #[.map (some r1),.map (some r2),.map (some r3),.slice av n c] 159 (0,0))::(L++MB ms)=loc'∧k≤9∧y=zhR (onF ps) l x k) _ _ _ _ ⟨0,b_6,x,rfl,rfl,zAl _,rfl,Nat.zero_le _,ziD⟩ (.cons rfl (.cons rfl (.cons rfl (.cons rfl (.cons rfl (.cons rfl (.cons rfl .nil))))))) (zAl _) rfl ?_
  rintro mz ms E J2 loc' ⟨k,b6,y,rfl,rfl,hJ,rfl,hk,hy⟩
  have hx:=hx.mono hJ;have hB0:=hB0.trans hJ
  have hB2:=hJ
  refine Qk (zR ?_)
  refine zL Qr ?_
  refine zC (zN ?_)
  refine zI ?_ ?_<;>intro hc21
  ·
   have hlt_k:k<9:=by have h:=hc21;simp at h;omega
   refine Qo (Qa (Qk (Ql (zR ?_))))
   refine zV (Qq rfl Vm (fun hg=>by exact Cells.g2) rfl) ?_
   refine zF Z9 ?_
   refine zL Qr ?_
   refine zL Qr ?_
   refine QA (cap:=[]) (vs:=[_,_,_]) rfl rfl zrf .nil (zmF _ _ _ _ _ _ _ _ _) rfl rfl ?_
   rintro vv3 I3 L3 hI3 ⟨rfl,c1,c2,c3,rfl,hcap⟩
   have hx:=hx.mono hI3;have hB2:=hB2.trans hI3
   refine zN (Ql ?_)
   refine Xh (K:=[]) (L:=(b6,.cells #[.int .i64 ((k:Int)+1)] 3 (0,0))::(b_5,.cells (Vy y).toArray 54 (0,0))::(b_1,.cells #[.map (some r1),.map (some r2),.map (some r3),.slice av n c] 159 (0,0))::L) (enc:=WW) (xs:=zhV (onF ps) l y.id ((k:Int)+1)) (fun pre I' loc'=>pre=[]∧loc'=(b6,.cells #[.int .i64 ((k:Int)+1)] 3 (0,0))::(b_5,.cells (Vy y).toArray 54 (0,0))::(b_1,.cells #[.map (some r1),.map (some r2),.map (some r3),.slice av n c] 159 (0,0))::L) (fun cd pre I' loc'=>cd= .exit 4∧∃ p,pre=[p]∧loc'=(b_5,.cells (Vy (zaV y ((k:Int)+1) p.nw)).toArray 54 (0,0))::(b6,.cells #[.int .i64 ((k:Int)+1)] 3 (0,0))::(b_1,.cells #[.map (some r1),.map (some r2),.map (some r3),.slice av n c] 159 (0,0))::L) (fun pre p E2 I2 loc2=>∃ b7:Nat,E2=[(5,Ze b_5),(6,Ze b6),(7,Ze b7)]∧pre=[]∧loc2=(b7,.cells (YK p).toArray 57 (0,0))::(b6,.cells #[.int .i64 ((k:Int)+1)] 3 (0,0))::(b_5,.cells (Vy y).toArray 54 (0,0))::(b_1,.cells #[.map (some r1),.map (some r2),.map (some r3),.slice av n c] 159 (0,0))::L) rfl zrl (zqR hx hcap) rfl ⟨rfl,rfl⟩ ?_ ?_ ?_ ?_
   ·
    rintro l9 pre p I1 loc1 H1 hpre hI1 ⟨rfl,rfl⟩
    refine Qf ?_
    refine Qv UD rfl rfl (fun b_7=>?_)
    refine zh JD ?_
    refine Qc ?_
    exact zbI _ ⟨zAl _,b_7,rfl,rfl,rfl⟩ (.cons rfl (.cons rfl (.cons rfl .nil)))
   ·
    rintro l9 pre p E2 I2 loc2 H2 hpre hI2 ⟨b7,rfl,rfl,rfl⟩
    refine Ql (zR ?_)
    refine zL Qr ?_
    refine zF Jt ?_
    refine zV (Qq rfl ZI (fun hg=>by exact Cells.s0 (vs:=[_,_,_,_,_,_,_,_,_,_,_,_,_,_]) rfl) rfl) ?_
    refine QA (cap:=[]) (vs:=[_,_,_]) rfl rfl zsh (by repeat (first | exact .cons .here .nil | exact QD | exact Qy | apply QC | apply QB)) (zzk _ b_5 y _ p.nw (zyy hlt_k)) rfl rfl ?_
    rintro vv4 I4 L4 hI4 ⟨rfl,rfl,rfl⟩
    refine zN (QH ?_)
    refine zbU rfl ?_
    exact zaU ⟨zAl _,rfl,p,rfl,rfl⟩ (by repeat (first | exact .refl | refine .keep ?_ | refine .drop ?_))
   ·
    rintro bd I1 loc1 hI1 ⟨hnil,rfl⟩
    have hB2:=hB2.trans hI1
    have hy2:y=zhR (onF ps) l x (k+1):=by rw [←zgp hy,zl4 hnil]
    refine Qg (Qg (Qa (Qk (zR ?_))))
    refine zL Qr ?_
    refine zN (Qf ?_)
    refine Qv zv8 rfl rfl (fun b_6=>?_)
    refine zS Yd ?_
    refine zN (Qf ?_)
    refine zL Qr ?_
    refine zB ?_
    refine zS Yd ?_
    refine Qc ?_
    exact zn (h:=⟨9-(k+1),by omega,k+1,_,_,rfl,rfl,hB2,rfl,by omega,hy2⟩)
   rintro cd bd pre I1 loc1 hI1 hpre ⟨rfl,p,rfl,rfl⟩
   have hB2:=hB2.trans hI1
   have hy2:(zaV y ((k:Int)+1) p.nw)=zhR (onF ps) l x (k+1):=by rw [←zgp hy,zod hpre]
   refine QH (Qj (Qg (Qa (Qk (zR ?_)))))
   refine zL Qr ?_
   refine zN (Qf ?_)
   refine Qv zv8 rfl rfl (fun b_6=>?_)
   refine zS Yd ?_
   refine zN (Qf ?_)
   refine zL Qr ?_
   refine zB ?_
   refine zS Yd ?_
   refine Qc ?_
   exact zn (h:=⟨9-(k+1),by omega,k+1,_,_,rfl,rfl,hB2,rfl,by omega,hy2⟩)
  have hge_k:9≤k:=by have h:=hc21;simp at h;omega
  have hk9:k=9:=by omega
  subst hk9
  have hy:y=zlN (onF ps) l x:=hy
  subst hy
  refine QH (Qe (Qe (Qj (Qa (Qf (zM ?_))))))
  refine zV (Qq rfl ZI (fun hg=>by exact Cells.g1) rfl) ?_
  refine Qp (ps:=[(0,_)]) (m:=[Vy (zlN (onF ps) l x)]) Uw rfl (.cons rfl (.nil)) rfl (by simp [Z8]) (by decide) (by decide) rfl rfl (fun b_37=>?_)
  refine QU (v:=_) (ys:=[zlN (onF ps) l x].flatMap Vy) (L:=L) rfl rfl Uw hO (by repeat (first | exact .cons .here .nil | exact QD | exact Qy | apply QC | apply QB)) ⟨rfl,fun _=>rfl,zAj⟩ (znJ [zlN (onF ps) l x]) (by omega) rfl rfl ?_
  intro v9 L9 hO9 _;rw [←List.flatMap_append] at hO9
  refine zA (Qc (Qg (Qa (Qf ?_))))
  refine zB ?_
  refine zM (Qc ?_)
  first
  | exact zm7 rfl rfl rfl _ _ (L9++((b_1,_)::MB _)) ⟨n-(j+1),by omega,j+1,v9,_,L9,rfl,rfl,hB0,rfl,by omega,by rw [zt8 hxx hex];exact hO9,by omega⟩ (.cons rfl (.cons rfl (.cons rfl (.cons rfl (.cons rfl .nil))))) List.perm_middle.symm (by repeat (first | exact .refl | exact Zg | refine Yu ?_ | refine .drop ?_ | refine Ya ?_))
 have hge_j:n≤j:=by have h:=hc12;simp at h;omega
 obtain ⟨va,vc,rfl⟩:=zaS hO
 rw [List.take_of_length_le (by rw [hx.sg.len];exact hge_j)] at hO
 refine QH (Qe (Qe (Qj (Qa (Qk (zR (zM ?_)))))))
 refine zQ VF ?_
 refine zC (zN ?_)
 refine zI ?_ ?_<;>intro hc42
 ·
  have hbig:exE (onF ps) l xs=2:=by unfold exE;rw [if_pos];have h1:=hO.1;rw [ZD Z8] at h1;simp at hc42;omega
  refine zR (zA ?_)
  refine zA (zN (Qs (Qb ?_)))
  first
  | exact Ud (L:=_::L) (fun a ha w hw=>zuu rfl rfl rfl a ha w) (fun w hw=>⟨_,J1,[],rfl,hIc,hw.drop,by rw [hbig];exact zlI.empty rfl⟩)
 have hbig:exE (onF ps) l xs=0:=by unfold exE;rw [if_neg];have h1:=hO.1;rw [ZD Z8] at h1;simp at hc42;omega
 refine Qo (Qa (zR (zM ?_)))
 refine zA ?_
 refine zA (zN (Qs ?_))
 first
 | exact Ud (L:=_::L) (fun a ha w hw=>zuu rfl rfl rfl a ha w) (fun w hw=>by obtain ⟨I9,h91,h92,h93⟩:=OwnS.res hO Z8 (by decide) (hw.subL (.drop .refl));obtain ⟨_,a9,c9,e9,h94⟩:=h93;cases e9;exact ⟨_,I9,[],rfl,hIc.trans h91,h92,by rw [hbig];exact zlI.good rfl rfl h94⟩)
end
section
open Go Go.Kn Go.Proofs
theorem w_Signs {I:Qw}{av:Option Addr}{n c:Nat}{ps:List Pt}(hP:SlP I av n c ps)(hn:n≤100000){bv:Option Addr}{n2 c2:Nat}{bs:List Sg}(hB:Sl I 14 Vy bv n2 c2 bs)(hn2:n2≤100000){dv:Option Addr}{n3 c3:Nat}{ws:List Int}(hV:Sl I 1 QP dv n3 c3 ws)(hn3:n3≤100000):Z4 Tryz.prog 45 [.slice av n c,.slice bv n2 c2,.slice dv n3 c3] I [] (zlI (zga ps bs ws) (zf4 ps bs ws)):=by
 intro g H w hw
 refine qe Tryz.func45 Tryz.ntmps45 hw ?_
 have hIc:=zAl I
 refine zR (zA ?_)
 refine zA ?_
 refine zN (zR ?_)
 refine zM ?_
 refine zM ?_
 refine zM ?_
 refine QA (cap:=[]) (vs:=[_,_,_]) rfl rfl zuZ .nil (zxi hP hn hB hn2 hV hn3) rfl rfl ?_
 rintro vv1 I1 L1 hI1 ⟨rfl,m1,m2,m3,a9,n9,c9,rfl,hst⟩
 have hIc:=hIc.trans hI1
 refine zM ?_
 refine zE ?_
 refine zE ?_
 refine Qv zpX rfl rfl (fun b_8=>?_)
 refine zh UO ?_
 refine zA (zN (Qk (zR ?_)))
 refine zM ?_
 refine zC (zN ?_)
 refine zI ?_ ?_<;>intro hc17
 ·
  have he:X0 ps bs ws≠0:=by simpa using hc17
  refine zR (zM ?_)
  refine zA ?_
  refine zA (zN (Qs (Qb ?_)))
  first
  | exact Zr rfl rfl rfl (fun w hw=>⟨_,I1,[],rfl,hIc,hw.drop,by unfold zf4;rw [zsx he];exact zlI.empty (zms he)⟩)
 have he:X0 ps bs ws=0:=by simpa using hc17
 obtain ⟨r1,r2,r3,rfl,rfl,rfl,hx⟩:=hst he
 have hn9:n9≤5000:=by have h1:=hx.sg.len;have h2:=zn8 bs (YZ ps ws);have h3:=hx.fewl;have h4:=(ziJ (zyW he)).1;omega
 refine Qo (Qa (zR ?_))
 refine zV (Qq rfl Vm (fun hg=>by exact Cells.g0) rfl) ?_
 refine QA (cap:=[]) (vs:=[_]) rfl rfl zvl .nil (zjG hx (by omega) (zuw he)) rfl rfl ?_
 rintro vv2 I2 L2 hI2 ⟨rfl,av8,c8,rfl,hR⟩
 have hIc:=hIc.trans hI2
 refine zE ?_
 refine zE ?_
 refine zA ?_
 refine zA (zN (Qs ?_))
 first
 | exact Zr rfl rfl rfl (fun w hw=>⟨_,I2,[],rfl,hIc,hw.drop,zlI.good (zpH he).symm (by unfold zf4;rw [zpH he];rfl) hR⟩)
end
section
open Go Go.Kn Go.Proofs
def zsk (ps:List Pt)(p:Pt):List Bool:=ps.map fun q=>onF ps p.id q.id
end
section
open Go Go.Kn Go.Proofs
end
end Go.Proofs.YtodakphagkommaaGreatDoor.R
namespace Go.Kn
section
open Go
section
variable {C:Cx} {Q:Exit→Act→World→Prop} {E:Env} {I:Qw} {loc:Loc} {ops:Array Oper} {rest:List Oper} {dst:Option Tmp} {ty:TypeId} {pos:String} {af:Array Edge} {gd:Option (Nat×Bool)} {x:Operand}
theorem zl5 {t e n c b off t':Nat}{z:Value}{zc A:List Value}(F:List Value→Loc)(hx:QE [] E x=some (.slice (some ⟨b,off,none⟩) n c))(hT:C.P.underlying t=some (.slice e))(hz:Yz C.P e z)(hzc:z.cells=zc.toArray)(h1:YD zc=true)
  (hle:off+n*zc.length≤A.length)(hG:gd=none)(hdst:dst=none)(hu:∀ zs:List Value,Upd loc b (.cells A.toArray t' (0,0)) (.cells (A.take off++(zs++A.drop (off+n*zc.length))).toArray t' (0,0)) (F zs))
  (h:∀ zs:List Value,zs.length=n*zc.length→XO C Q ops rest [] E I (F zs)):
  XO C Q ops (⟨dst,.call ⟨.builtin .clear, #[x], #[t]⟩,ty,pos,af,gd⟩::rest) [] E I loc:=
 Yh hG (by intro c e;cases e) fun a w ha hw=>by
  subst hdst
  have hsz:(Builtin.zeroCells z.cells n).toList.length=n*zc.length:=by rw [Array.length_toList,KO,hzc];simp
  have hz1:∀ v∈(Builtin.zeroCells z.cells n).toList,v.oneCell'=true:=by
   intro v hv
   rw [Array.mem_toList_iff] at hv
   unfold Builtin.zeroCells at hv
   rw [hzc] at hv
   simp at hv
   obtain ⟨q,hq,h2⟩:=hv
   have hp:0<zc.length:=Nat.pos_of_ne_zero fun e=>by rw [e] at hq;simp at hq
   rw [List.getElem?_eq_getElem (Nat.mod_lt _ hp)] at h2
   exact Jv h1 v (by rw [←h2];exact List.getElem_mem _)
  have e:A=A.take off++((A.drop off).take (n*zc.length)++A.drop (off+n*zc.length)):=by
   have:(A.drop off).take (n*zc.length)++A.drop (off+n*zc.length)=A.drop off:=by rw [←List.drop_drop];exact List.take_append_drop _ _
   rw [this,List.take_append_drop]
  have hu2:=hu (Builtin.zeroCells z.cells n).toList
  have hu3:Upd loc b (.cells (A.take off++((A.drop off).take (n*zc.length)++A.drop (off+n*zc.length))).toArray t' (0,0)) (.cells (A.take off++((Builtin.zeroCells z.cells n).toList++A.drop (off+n*zc.length))).toArray t' (0,0)) (F (Builtin.zeroCells z.cells n).toList):=by rw [←e];exact hu2
  obtain ⟨w',hr,hs'⟩:=Vo (P:=C.P) (off:=off) (Builtin.zeroCells z.cells n).toList (A.take off) w loc _ b t' ((A.drop off).take (n*zc.length)) 0 (by rw [List.length_take];omega) (by rw [hsz,List.length_take,List.length_drop];omega) hz1 hw hu3
  have hrun:(Builtin.clear_ #[t] ty #[.slice (some ⟨b,off,none⟩) n c]).run C.P w= .ok (.tuple #[]) w':=by
   have h0:n=0→w'=w:=by
    intro hn;subst hn
    have:(Builtin.zeroCells z.cells 0).toList=[]:=List.length_eq_zero_iff.1 (by rw [hsz];omega)
    rw [this] at hr
    simp [storeCells] at hr
    exact hr.symm
   cases n with
   | zero=>rw [h0 rfl];simp [Builtin.clear_,run_underlying hT,Result.andThen]
   | succ k=>simp [Builtin.clear_,Sem.run_bind,run_underlying hT,Result.andThen,Z2 hz,hr]
  simp only [execOp,resolve,List.map_toArray,List.map_cons,List.map_nil,Qn (S:=[]) ha trivial rfl hx,Sem.run_bind,Sem.run_pure,Result.andThen,invoke,builtin,hrun,Oper.uponIn_value]
  exact h _ hsz _ _ ha trivial hs'
end
end
section
open Go
section
variable {C:Cx} {Q:Exit→Act→World→Prop} {E:Env} {I:Qw} {loc L R:Loc} {ops:Array Oper} {rest:List Oper} {dst:Option Tmp} {d:Nat} {ty:TypeId} {pos:String} {af:Array Edge} {gd:Option (Nat×Bool)}
theorem zjg {P:Program}{a:Act}{w:World}{f:FuncId}{pre cap:List Value}{l:List Operand}{vs:List Value}{tys:Array TypeId}{cal:Operand}
  (he:a.eval cal= .func (.func f) pre.toArray cap.toArray)(hl:l.map a.eval=vs)(hF:Fun P f):
  (execOp a.eval ⟨dst,.call ⟨.value cal,l.toArray,tys⟩,ty,pos,af,gd⟩).run P w= .ok (.enter f (pre++(vs++cap)).toArray) w:=by
 simp only [execOp,resolve,he,List.map_toArray,hl,Deferred.ofValue,Sem.run_bind,Sem.run_pure,Result.andThen,invoke,V2 hF]
 simp
theorem zjk {f:FuncId}{pre cap:List Value}{l:List Operand}{vs:List Value}{tys:Array TypeId}{cal:Operand}{K:Value→Qw→Loc→Prop}
  (he:QE [] E cal=some (.func (.func f) pre.toArray cap.toArray))(hl:l.map (QE [] E)=vs.map some)(hF:Fun C.P f)(hsp:YS loc L R)(hc:Z4 C.P f (pre++(vs++cap)) I L K)
  (hG:gd=none)(hN:Nat.blt d C.N=true)(h:∀ v I' L',HLe I I'→K v I' L'→XO C Q ops rest [] ((d,v)::E) I' (L'++R)):
  XO C Q ops (⟨some d,.call ⟨.value cal,l.toArray,tys⟩,ty,pos,af,gd⟩::rest) [] E I loc:=by
 intro a w ha hg hw
 have hG':Zt ops [] E ⟨some d,.call ⟨.value cal,l.toArray,tys⟩,ty,pos,af,gd⟩:=.none hG
 simp only [wpListIn]
 rw [hG'.wanted ha hg]
 simp only [ZV,if_true,Oper.wpIn]
 refine ⟨fun _ _=>trivial,?_⟩
 rw [Oper.semAt_eq _ _ _ (by intro c e;cases e),zjg (Qn ha hg rfl he) (VL ha hg rfl hl) hF,Oper.uponIn_enter]
 refine ⟨by simp [FR],Xd.2 ((hc.frame hsp hw).mono ?_)⟩
 rintro e w' ⟨v,I',L',rfl,hI,hs,hk⟩
 have hp:=Yl ha hg hN rfl v
 exact h v I' L' hI hk _ _ hp.1 hp.2 hs
end
end
end Go.Kn
namespace Go.Proofs.YtodakphagkommaaGreatDoor.R
section
open Go Go.Kn Go.Proofs
structure Tx where
 bv:Option Addr
 n2:Nat
 c2:Nat
 no:Int
 a1:Option Addr
 n1:Nat
 d1:Nat
 a2:Option Addr
 n3:Nat
 d2:Nat
 a3:Option Addr
 n4:Nat
 d3:Nat
 r:Nat
 lv:Option Addr
 ln:Nat
 lc:Nat
 sv:Option Addr
 sn:Nat
 sc:Nat
def Ko (t:Tx):List Value:=[.slice t.bv t.n2 t.c2,.int .i64 t.no,.slice t.a1 t.n1 t.d1,.slice t.a2 t.n3 t.d2,.slice t.a3 t.n4 t.d3,.map (some t.r),.slice t.lv t.ln t.lc,.slice t.sv t.sn t.sc]
structure zhW (I:Qw)(t:Tx)(rows:List (List Int))(es:List Em)(rd:List Int)(ps l:List Pt)(s:List Sg):Prop where
 V:SlN I t.bv t.n2 t.c2 rows
 E:Sl I 3 Yo t.a2 t.n3 t.d2 es
 R:Sl I 1 QP t.a3 t.n4 t.d3 rd
 M:OnM I t.r ps
 L:SlP I t.lv t.ln t.lc l
 S:Sl I 14 Vy t.sv t.sn t.sc s
 b2:t.n2≤100000
 b3:t.n3≤100000
 b4:t.n4≤100000
 bl:t.ln≤100000
 bs:t.sn≤100000
 sub:∀ q∈l,∃ z∈ps,z.id=q.id
theorem zhW.mono {I I':Qw}{t:Tx}{rows:List (List Int)}{es:List Em}{rd:List Int}{ps l:List Pt}{s:List Sg}(h:zhW I t rows es rd ps l s)(hI:HLe I I'):zhW I' t rows es rd ps l s:=
 ⟨h.V.mono hI,h.E.mono hI,h.R.mono hI,h.M.mono hI,h.L.mono hI,h.S.mono hI,h.b2,h.b3,h.b4,h.bl,h.bs,h.sub⟩
def zyD:List Pt→List Int
 | []=>[]
 | p::r=>((p::r).filter fun q=>zaT q.nw p.nw).map (·.id)
def zOg:Og:=⟨0,0,[],[]⟩
def zsy (rows:List (List Int))(q:Nat)(c:Int):Int:=if Ur (fun r:List Int=>r.getD q 0==c) rows<0 then Ur (zyf q) rows else Ur (fun r:List Int=>r.getD q 0==c) rows
def or1 (on:Int→Int→Bool)(l:List Pt)(s f:Int):Og×Bool:=(⟨3,0,[],zyD (zhV on l s f)⟩,decide (0<(zhV on l s f).length))
def inP (s:Int)(q:Pt):Bool:=q.kind==2&&q.sign==s
def or2 (l:List Pt)(s:Int):Og×Bool:=match l.find? (inP s) with
 | some q=>(⟨3,0,[],[q.id]⟩,true)
 | none=>(zOg,false)
def isT (f:Int):Bool:=f==2||f==3||f==9
def or3 (rows:List (List Int))(rd:List Int)(s f:Int):Og×Bool:=if isT f then (⟨1,0,[zsy rows s.toNat (rd.getD s.toNat 0)],[]⟩,true) else (zOg,false)
def or4 (es:List Em)(s:Int):Og×Bool:=(⟨2,2,[],[]⟩,es.any (zzH s))
def or5 (rows:List (List Int))(rd:List Int)(s:Int):Og×Bool:=(⟨1,0,J9 rows s.toNat (rd.getD s.toNat 0),[]⟩,true)
def orK (on:Int→Int→Bool)(rows:List (List Int))(es:List Em)(rd:List Int)(l:List Pt)(s f:Int)(k:Nat):Og×Bool:=
 if k=0 then or1 on l s f else if k=1 then or2 l s else if k=2 then or3 rows rd s f else if k=3 then or4 es s else or5 rows rd s
def zlM (on:Int→Int→Bool)(rows:List (List Int))(es:List Em)(rd:List Int)(l:List Pt)(s f:Int):Og:=
 if (or1 on l s f).2 then (or1 on l s f).1 else if (or2 l s).2 then (or2 l s).1 else if (or3 rows rd s f).2 then (or3 rows rd s f).1 else if (or4 es s).2 then (or4 es s).1 else (or5 rows rd s).1
theorem zlA {on:Int→Int→Bool}{rows:List (List Int)}{es:List Em}{rd:List Int}{l:List Pt}{s f:Int}{k:Nat}(hk:k<5)(h:∀ j,j<k→(orK on rows es rd l s f j).2=false)(hy:(orK on rows es rd l s f k).2=true):(orK on rows es rd l s f k).1=zlM on rows es rd l s f:=by
 have e0:0<k→(or1 on l s f).2=false:=h 0
 have e1:1<k→(or2 l s).2=false:=h 1
 have e2:2<k→(or3 rows rd s f).2=false:=h 2
 have e3:3<k→(or4 es s).2=false:=h 3
 unfold zlM
 match k,hk with
 | 0,_=>rw [if_pos (show (or1 on l s f).2=true from hy)];rfl
 | 1,_=>rw [if_neg (by rw [e0 (by decide)];decide),if_pos (show (or2 l s).2=true from hy)];rfl
 | 2,_=>rw [if_neg (by rw [e0 (by decide)];decide),if_neg (by rw [e1 (by decide)];decide),if_pos (show (or3 rows rd s f).2=true from hy)];rfl
 | 3,_=>rw [if_neg (by rw [e0 (by decide)];decide),if_neg (by rw [e1 (by decide)];decide),if_neg (by rw [e2 (by decide)];decide),if_pos (show (or4 es s).2=true from hy)];rfl
 | 4,_=>rw [if_neg (by rw [e0 (by decide)];decide),if_neg (by rw [e1 (by decide)];decide),if_neg (by rw [e2 (by decide)];decide),if_neg (by rw [e3 (by decide)];decide)];rfl
def OgV (I:Qw)(o:Og)(vs:List Value):Prop:=∃ a n c b m d,vs=[.int .i64 o.k,.int .i64 o.r,.slice a n c,.slice b m d]∧Sl I 1 QP a n c o.ws∧Sl I 1 QP b m d o.ps
def FrQ (q:Og×Bool)(v:Value)(I:Qw)(L:Go.Kn.Loc):Prop:=L=[]∧∃ vs,v= .tuple #[.agg vs.toArray,.bool q.2]∧OgV I q.1 vs
theorem zpt {I:Qw}{b n t:Nat}{A:List Value}{zs:List Pt}(hA:A.take (n*19)=zs.flatMap YK){k:Nat}{p:Pt}(hp:zs[k]? =some p){loc:Go.Kn.Loc}:Cells I ((b,.cells A.toArray t (0,0))::loc) b (k*19) (YK p):=by
 intro j u hu
 have hl:=X6 Q8 zs k p hp j u hu
 have:A[k*19+j]? =some u:=by
  rw [←hA,List.getElem?_take] at hl
  split at hl
  ·
   exact hl
  ·
   cases hl
 exact .here (by rw [Vb];simpa using this)
theorem zsa {B:List Value}{i n c:Nat}{p:Pt}(hl:B.length=c*19)(hn:n≤c)(hi:i<n):(Vk B (i*19) (YK p)).length=c*19:=by
 rw [Kk (n:=19) (by omega) (Q8 p)]
 simp only [List.length_append,List.length_take,List.length_drop,Q8];omega
theorem znQ {B:List Value}{zs:List Pt}{i n c:Nat}{p:Pt}(hB:B.take (n*19)=zs.flatMap YK)(hl:B.length=c*19)(hn:n≤c)(hz:zs.length=n)(hi:i<n):(Vk B (i*19) (YK p)).take (n*19)=(zs.set i p).flatMap YK:=by
 rw [Kk (n:=19) (by omega) (Q8 p)]
 have hz2:zs.set i p=zs.take i++p::zs.drop (i+1):=by rw [List.set_eq_take_append_cons_drop,if_pos (by omega)]
 have hf:∀ k,k≤n→(zs.take k).flatMap YK=B.take (k*19):=by
  intro k hk
  have h1:zs.flatMap YK=(zs.take k).flatMap YK++(zs.drop k).flatMap YK:=by rw [←List.flatMap_append,List.take_append_drop]
  have h2:((zs.take k).flatMap YK).length=k*19:=by rw [ZD Q8,List.length_take];congr 1;omega
  have h3:=congrArg (List.take (k*19)) h1
  rw [←hB,List.take_take,Nat.min_eq_left (by omega),List.take_append_of_le_length (by omega),←h2,List.take_length] at h3
  rw [←h3,h2]
 have hd:(zs.drop (i+1)).flatMap YK=(B.take (n*19)).drop ((i+1)*19):=by
  have h1:zs.flatMap YK=(zs.take (i+1)).flatMap YK++(zs.drop (i+1)).flatMap YK:=by rw [←List.flatMap_append,List.take_append_drop]
  have h2:((zs.take (i+1)).flatMap YK).length=(i+1)*19:=by rw [ZD Q8,List.length_take];congr 1;omega
  rw [hB,h1,←h2,List.drop_left]
 rw [hz2,List.flatMap_append,List.flatMap_cons,hf i (by omega),hd]
 have e1:(B.take (i*19)).length=i*19:=by rw [List.length_take];omega
 have t1:(B.take (i*19)).take (n*19)=B.take (i*19):=List.take_of_length_le (by rw [e1];omega)
 have t2:(YK p).take (n*19-i*19)=YK p:=List.take_of_length_le (by rw [Q8];omega)
 rw [List.take_append,e1,t1,List.take_append,t2,Q8,List.drop_take]
 rw [show (i+1)*19=i*19+19 by omega,show n*19-i*19-19=n*19-(i*19+19) by omega]
structure DlQ (P:Pt→Bool)(ps:List Pt)(n c i j:Nat)(zs:List Pt)(B:List Value):Prop where
 hB:B.take (n*19)=zs.flatMap YK
 hz:zs.length=n
 hl:B.length=c*19
 hk:zs.take i=(ps.take j).filter fun p=> !P p
 hd:zs.drop j=ps.drop j
 hij:i<j
 hjn:j≤n
theorem DlQ.at {P:Pt→Bool}{ps:List Pt}{n c i j:Nat}{zs:List Pt}{B:List Value}(h:DlQ P ps n c i j zs B){p:Pt}(hp:ps[j]? =some p):zs[j]? =some p:=by
 have h1:=congrArg (fun l=>l[0]?) h.hd
 simp only [List.getElem?_drop,Nat.add_zero] at h1
 rw [h1];exact hp
theorem DlQ.keep {P:Pt→Bool}{ps:List Pt}{n c i j:Nat}{zs:List Pt}{B:List Value}(h:DlQ P ps n c i j zs B){p:Pt}(hp:ps[j]? =some p)(hP:P p=false)(hn:n≤c)(hjn:j<n):DlQ P ps n c (i+1) (j+1) (zs.set i p) (Vk B (i*19) (YK p)):=
  ⟨znQ h.hB h.hl hn h.hz (by have:=h.hij;omega),by rw [List.length_set];exact h.hz,zsa h.hl hn (by have:=h.hij;omega),
   by rw [Xa (P:=fun p=> !P p) hp (by rw [hP];rfl),←h.hk,List.take_add_one,List.take_set_of_le (by omega),List.getElem?_set_self (by have:=h.hij;have:=h.hz;omega)];rfl,
   by rw [List.drop_set_of_lt (by have:=h.hij;omega)];have h1:=congrArg (List.drop 1) h.hd;rw [List.drop_drop,List.drop_drop] at h1;exact h1,by have:=h.hij;omega,by omega⟩
theorem DlQ.drop {P:Pt→Bool}{ps:List Pt}{n c i j:Nat}{zs:List Pt}{B:List Value}(h:DlQ P ps n c i j zs B){p:Pt}(hp:ps[j]? =some p)(hP:P p=true)(hjn:j<n):DlQ P ps n c i (j+1) zs B:=
 ⟨h.hB,h.hz,h.hl,by rw [za9 (P:=fun p=> !P p) hp (by rw [hP];rfl)];exact h.hk,by have h1:=congrArg (List.drop 1) h.hd;rw [List.drop_drop,List.drop_drop] at h1;exact h1,by have:=h.hij;omega,by omega⟩
theorem DlQ.new {P:Pt→Bool}{ps:List Pt}{n c i:Nat}{A:List Value}{p:Pt}(hA:A.take (n*19)=ps.flatMap YK)(hz:ps.length=n)(hl:A.length=c*19)(hi:ps[i]? =some p)(hP:P p=true)(hno:(ps.take i).any P=false):DlQ P ps n c i (i+1) ps A:=
 ⟨hA,hz,hl,by
  rw [za9 (P:=fun p=> !P p) hi (by rw [hP];rfl),List.filter_eq_self.2]
  intro q hq;rw [List.any_eq_false] at hno;simpa using hno q hq,rfl,by omega,by have:=(List.getElem?_eq_some_iff.1 hi).1;omega⟩
theorem DlQ.own {P:Pt→Bool}{ps:List Pt}{n c i j:Nat}{zs:List Pt}{B zc:List Value}{b t:Nat}(h:DlQ P ps n c i j zs B)(hj:n≤j)(hps:ps.length=n)(hn:n≤c)(hc:c≤maxLen)(hzc:zc.length=(n-i)*19):
  OwnS t 19 (.slice (some ⟨b,0,none⟩) i c) i ((ps.filter fun p=> !P p).flatMap YK) [(b,.cells (B.take (0+i*19)++(zc++B.drop (0+i*19+(n-i)*19))).toArray t (0,0))]:=by
 rw [Nat.zero_add]
 have hij:=h.hij
 have hjn:=h.hjn
 have hBl:=h.hl
 have e1:(B.take (i*19)).length=i*19:=by rw [List.length_take];omega
 have hf:ps.filter (fun p=> !P p)=zs.take i:=by rw [h.hk,List.take_of_length_le (by omega)]
 have hfl:(ps.filter fun p=> !P p).flatMap YK=B.take (i*19):=by
  rw [hf]
  have h1:zs.flatMap YK=(zs.take i).flatMap YK++(zs.drop i).flatMap YK:=by rw [←List.flatMap_append,List.take_append_drop]
  have h2:((zs.take i).flatMap YK).length=i*19:=by rw [ZD Q8,List.length_take];have:=h.hz;congr 1;omega
  have h3:=congrArg (List.take (i*19)) h1
  rw [←h.hB,List.take_take,Nat.min_eq_left (by omega),List.take_append_of_le_length (by omega),←h2,List.take_length] at h3
  rw [←h3,h2]
 refine ⟨by rw [hfl,e1],.inr ⟨b,c,_,rfl,rfl,by omega,hc,?_,?_⟩⟩
 ·
  simp only [List.size_toArray,List.length_append,e1,hzc,List.length_drop];omega
 ·
  rw [hfl]
  show ((B.take (i*19)++(zc++B.drop (i*19+(n-i)*19)))).take (i*19)=_
  rw [List.take_append_of_le_length (by omega),List.take_of_length_le (by omega)]
theorem zyt {P:Pt→Bool}{ps:List Pt}{n c i j:Nat}{zs:List Pt}{B:List Value}(h:DlQ P ps n c i j zs B)(hn:n≤c)(hj:j<n):Nat.ble (i*19+19) (c*19)=true:=Nat.ble_eq_true_of_le (by have:=h.hij;omega)
theorem zwo {P:Pt→Bool}{ps:List Pt}{n c i j:Nat}{zs:List Pt}{B:List Value}(h:DlQ P ps n c i j zs B)(hn:n≤c):0+i*19+(n-i)*19≤c*19:=by have:=h.hij;have:=h.hjn;omega
theorem zyo {b n c t:Nat}{A:List Value}{ps:List Pt}(_hA:A.take (n*19)=ps.flatMap YK)(hAl:A.length=c*19)(_hl:ps.length=n)(hnc:n≤c)(hc:c≤maxLen):OwnS t 19 (.slice (some ⟨b,0,none⟩) n c) n (A.take (n*19)) [(b,.cells A.toArray t (0,0))]:=
 ⟨by rw [List.length_take];omega,.inr ⟨b,c,_,rfl,rfl,hnc,hc,by simp [hAl],by simp⟩⟩
theorem zhY {α:Type}{xs:List α}{P:α→Bool}(h:xs.any P=true):∃ (i:Nat) (x:α),Ur P xs=(i:Nat)∧xs[i]? =some x∧P x=true∧(xs.take i).any P=false:=by
 obtain ⟨x,hx,hp⟩:=List.any_eq_true.1 h
 have hl:=List.findIdx_lt_length_of_exists ⟨x,hx,hp⟩
 refine ⟨xs.findIdx P,xs[xs.findIdx P],by unfold Ur;rw [h];rfl,List.getElem?_eq_getElem hl,List.findIdx_getElem,?_⟩
 rw [List.any_eq_false]
 intro y hy
 obtain ⟨k,hk,rfl⟩:=List.getElem_of_mem hy
 rw [List.length_take] at hk
 rw [List.getElem_take]
 exact Bool.eq_false_iff.1 (List.not_of_lt_findIdx (Nat.lt_of_lt_of_le hk (Nat.min_le_left ..)))
def zkB (ls:List Pt)(k:Nat):List Pt:=(ls.take k).filter fun q=>zaT q.nw ((ls.getD 0 Xx).nw)
theorem zyL {ls:List Pt}:((zkB ls 0).map (·.id)).flatMap QP=[]:=by unfold zkB;rw [List.take_zero];rfl
theorem zrk {ls:List Pt}{k:Nat}{p:Pt}(hp:ls[k]? =some p)(h:zaT p.nw ((ls.getD 0 Xx).nw)=true):(zkB ls (k+1)).map (·.id)=(zkB ls k).map (·.id)++[p.id]:=by
 unfold zkB;rw [Xa hp h,List.map_append];rfl
theorem zvS {ls:List Pt}{k:Nat}{p:Pt}(hp:ls[k]? =some p)(h:zaT p.nw ((ls.getD 0 Xx).nw)=false):(zkB ls (k+1)).map (·.id)=(zkB ls k).map (·.id):=by
 unfold zkB;rw [za9 hp h]
theorem zqL {ls:List Pt}{k m:Nat}(hm:ls.length=m)(hk:k=m):(zkB ls k).map (·.id)=zyD ls:=by
 unfold zkB;rw [List.take_of_length_le (by omega)]
 cases ls with
 | nil=>rfl
 | cons p r=>rfl
theorem zxF {on:Int→Int→Bool}{l:List Pt}{s f:Int}{m:Nat}(hm:(zhV on l s f).length=m):(or1 on l s f).2=decide ((m:Int)>0):=by
 show decide (0<(zhV on l s f).length)=_
 rw [hm];cases m<;>simp
theorem zbv {l:List Pt}{s:Int}{k:Nat}{p:Pt}(hno:(l.take k).any (inP s)=false)(hp:l[k]? =some p)(h:inP s p=true):or2 l s=(⟨3,0,[],[p.id]⟩,true):=by
 have:l.find? (inP s)=some p:=by
  have e:l=l.take k++p::l.drop (k+1):=by
   rw [←Z5 hp,List.take_append_drop]
  rw [e,List.find?_append,List.find?_eq_none.2 (by rw [List.any_eq_false] at hno;exact hno),List.find?_cons,h];rfl
 unfold or2;rw [this]
theorem zf0 {l:List Pt}{s:Int}(hno:l.any (inP s)=false):or2 l s=(zOg,false):=by
 unfold or2;rw [List.find?_eq_none.2 (by rw [List.any_eq_false] at hno;exact hno)]
theorem zbx {rows:List (List Int)}{rd:List Int}{q:Nat}{f:Int}(h:isT f=true):or3 rows rd (q:Int) f=(⟨1,0,[zsy rows q (rd.getD q 0)],[]⟩,true):=if_pos h
theorem zgo {rows:List (List Int)}{rd:List Int}{s:Int}{f:Int}(h:isT f=false):or3 rows rd s f=(zOg,false):=if_neg (by rw [h];decide)
theorem zyk {rows:List (List Int)}{q:Nat}{c:Int}(h:decide (Ur (fun r:List Int=>r.getD q 0==c) rows<0)=true):Ur (zyf q) rows=zsy rows q c:=by unfold zsy;rw [if_pos (by simpa using h)]
theorem zy3 {rows:List (List Int)}{q:Nat}{c:Int}(h:decide (Ur (fun r:List Int=>r.getD q 0==c) rows<0)=false):Ur (fun r:List Int=>r.getD q 0==c) rows=zsy rows q c:=by unfold zsy;rw [if_neg (by simpa using h)]
def zeH (f:Nat)(t:Tx)(k:Nat):List Value:=[.func (.func (f+k)) #[.agg (Ko t).toArray] #[]]
theorem zzY {k:Nat}(h:k<5):([0,1,2,3,4]:List Nat)[k]? =some k:=by
 match k,h with
 | 0,_=>rfl
 | 1,_=>rfl
 | 2,_=>rfl
 | 3,_=>rfl
 | 4,_=>rfl
theorem zj9 {f:Int}:([2,3,9]:List Int).any (fun y=>f==y)=isT f:=by simp only [List.any_cons,List.any_nil,Bool.or_false,isT,Bool.or_assoc]
theorem zrz {b:Bool}(h:(!b)=true):b=false:=by cases b<;>simp_all
theorem zjD {b:Bool}(h:(!b)=false):b=true:=by cases b<;>simp_all
end
section
open Go Go.Kn Go.Proofs
theorem zqb:Fun Tryz.prog 170:=.of Tryz.func170 (by kernel_rfl) (by kernel_rfl)
theorem zuI:Fun Tryz.prog 69:=.of Tryz.func69 (by kernel_rfl) (by kernel_rfl)
theorem zgl:MpT Tryz.prog 55 3 4 (.bool false):=⟨by kernel_rfl,.of (by kernel_rfl)⟩
theorem zdu:MpT Tryz.prog 96 3 55 (.map none):=⟨by kernel_rfl,.of (by kernel_rfl)⟩
theorem zxs:Tryz.prog.underlying 36=some (.slice 57):=by kernel_rfl
theorem zze {I:Qw}{av:Option Addr}{n c:Nat}{xs:List Sg}(hS:Sl I 14 Vy av n c xs)(hn:n≤100000){fid:Nat}{cap:List Value}{P:Sg→Bool}(hF:Fun Tryz.prog fid)(hf:∀ x∈xs,Zu Tryz.prog fid ([J0 x]++cap) I (.bool (P x))):Zu Tryz.prog 69 [.slice av n c,.func (.func fid) #[] cap.toArray] I (.int .i64 (Ur P xs)):=by
 intro g H w hw
 refine qe Tryz.func69 Tryz.ntmps69 hw ?_
 have hS:=hS
 refine zR (zA (zN (Qk (zR ?_))))
 refine zM ?_
 refine zQ VF ?_
 refine zM (zN (Ql ?_))
 refine zU [(0,_),(1,_),(7,_)] (fun T L0 mz E I' loc'=>∃ (k:Nat),mz=n-k∧E=(8,.int .i64 k)::T∧I=I'∧L0=loc'∧k≤n∧(xs.take k).any P=false) ?_ (h:=⟨0,rfl,rfl,rfl,rfl,Nat.zero_le _,rfl⟩)
 rintro mz E I' loc' ⟨k,rfl,rfl,rfl,rfl,hk,hno⟩
 refine zR (zC (zN (Qk ?_)))
 refine zI ?_ ?_<;>intro hc9
 ·
  have hlt_k:k<n:=by have h:=hc9;simp at h;omega
  obtain ⟨x,hx⟩:=hS.at hlt_k
  refine Qo (Qa (Qk (Ql (zR (zM ?_)))))
  refine zA ?_
  refine zN (zR ?_)
  refine zM ?_
  refine zM ?_
  refine zM ?_
  refine zV (Qz rfl rfl VF (by assumption) (fun hg=>by omega)) ?_
  refine zV (Qq rfl ZI (fun hg=>by exact zAm hS hx) rfl) ?_
  refine Y0 (cap:=cap) (vs:=[_]) rfl rfl hF (hf x (List.mem_of_getElem? hx)) rfl rfl ?_
  refine zN ?_
  refine zI ?_ ?_<;>intro hc16
  ·
   refine zR (zM ?_)
   refine zA (zN (Qs (Qm (Qb (Qb (Qm (Qb ?_)))))))
   exact zr rfl rfl (by rw [JJ hno hx hc16])
  refine Qo (Qg (Qa (Qf (zB ?_))))
  refine zM (Qc ?_)
  exact zm (h:=⟨n-(k+1),by omega,k+1,rfl,rfl,rfl,rfl,by omega,Ym hx hno hc16⟩)
 have hge_k:n≤k:=by have h:=hc9;simp at h;omega
 refine QH (Qe (Qe (Qj (Qa (zR (zA (zN ?_)))))))
 refine Qs ?_
 exact zr rfl rfl (by rw [VT hS.len hge_k hno])
theorem zzz {I:Qw}{av:Option Addr}{n c:Nat}{xs:List Sg}(hS:Sl I 14 Vy av n c xs)(hn:n≤100000){fid:Nat}{cap:List Value}{P:Sg→Bool}(hF:Fun Tryz.prog fid)(hf:∀ x∈xs,Zu Tryz.prog fid ([J0 x]++cap) I (.bool (P x))):Zu Tryz.prog 37 [.slice av n c,.func (.func fid) #[] cap.toArray] I (.bool (xs.any P)):=by
 intro g H w hw
 refine qe Tryz.func37 Tryz.ntmps37 hw ?_
 refine zR (zA ?_)
 refine zN (zR ?_)
 refine zM ?_
 refine zM ?_
 refine qc (vs:=[_,_]) rfl zuI (zze hS hn hF hf) ?_
 refine zC ?_
 refine zA (zN (Qs ?_))
 exact zr rfl rfl (by rw [←KH])
theorem zys {I:Qw}{av:Option Addr}{n c:Nat}{xs:List Em}(hS:Sl I 3 Yo av n c xs)(hn:n≤100000){fid:Nat}{cap:List Value}{P:Em→Bool}(hF:Fun Tryz.prog fid)(hf:∀ x∈xs,Zu Tryz.prog fid ([.agg (Yo x).toArray]++cap) I (.bool (P x))):Zu Tryz.prog 170 [.slice av n c,.func (.func fid) #[] cap.toArray] I (.int .i64 (Ur P xs)):=by
 intro g H w hw
 refine qe Tryz.func170 Tryz.ntmps170 hw ?_
 have hS:=hS
 refine zR (zA (zN (Qk (zR ?_))))
 refine zM ?_
 refine zQ Vu ?_
 refine zM (zN (Ql ?_))
 refine zU [(0,_),(1,_),(7,_)] (fun T L0 mz E I' loc'=>∃ (k:Nat),mz=n-k∧E=(8,.int .i64 k)::T∧I=I'∧L0=loc'∧k≤n∧(xs.take k).any P=false) ?_ (h:=⟨0,rfl,rfl,rfl,rfl,Nat.zero_le _,rfl⟩)
 rintro mz E I' loc' ⟨k,rfl,rfl,rfl,rfl,hk,hno⟩
 refine zR (zC (zN (Qk ?_)))
 refine zI ?_ ?_<;>intro hc9
 ·
  have hlt_k:k<n:=by have h:=hc9;simp at h;omega
  obtain ⟨x,hx⟩:=hS.at hlt_k
  refine Qo (Qa (Qk (Ql (zR (zM ?_)))))
  refine zA ?_
  refine zN (zR ?_)
  refine zM ?_
  refine zM ?_
  refine zM ?_
  refine zV (Qz rfl rfl Vu (by assumption) (fun hg=>by omega)) ?_
  refine zV (Qq rfl zlq (fun hg=>by exact zAm hS hx) rfl) ?_
  refine Y0 (cap:=cap) (vs:=[_]) rfl rfl hF (hf x (List.mem_of_getElem? hx)) rfl rfl ?_
  refine zN ?_
  refine zI ?_ ?_<;>intro hc16
  ·
   refine zR (zM ?_)
   refine zA (zN (Qs (Qm (Qb (Qb (Qm (Qb ?_)))))))
   exact zr rfl rfl (by rw [JJ hno hx hc16])
  refine Qo (Qg (Qa (Qf (zB ?_))))
  refine zM (Qc ?_)
  exact zm (h:=⟨n-(k+1),by omega,k+1,rfl,rfl,rfl,rfl,by omega,Ym hx hno hc16⟩)
 have hge_k:n≤k:=by have h:=hc9;simp at h;omega
 refine QH (Qe (Qe (Qj (Qa (zR (zA (zN ?_)))))))
 refine Qs ?_
 exact zr rfl rfl (by rw [VT hS.len hge_k hno])
theorem zyx {I:Qw}{av:Option Addr}{n c:Nat}{xs:List Em}(hS:Sl I 3 Yo av n c xs)(hn:n≤100000){fid:Nat}{cap:List Value}{P:Em→Bool}(hF:Fun Tryz.prog fid)(hf:∀ x∈xs,Zu Tryz.prog fid ([.agg (Yo x).toArray]++cap) I (.bool (P x))):Zu Tryz.prog 121 [.slice av n c,.func (.func fid) #[] cap.toArray] I (.bool (xs.any P)):=by
 intro g H w hw
 refine qe Tryz.func121 Tryz.ntmps121 hw ?_
 refine zR (zA ?_)
 refine zN (zR ?_)
 refine zM ?_
 refine zM ?_
 refine qc (vs:=[_,_]) rfl zqb (zys hS hn hF hf) ?_
 refine zC ?_
 refine zA (zN (Qs ?_))
 exact zr rfl rfl (by rw [←KH])
theorem zno {I:Qw}{av:Option Addr}{n c:Nat}{xs:List Pt}(hS:Sl I 19 YK av n c xs)(hn:n≤400000):Z4 Tryz.prog 114 [.slice av n c] I [] (fun v I' L=>I'=I∧OwnS 57 19 v n (xs.flatMap YK) L):=by
 intro g H w hw
 refine qe Tryz.func114 Tryz.ntmps114 hw ?_
 refine zR (zA (zN (Qk (zR ?_))))
 refine zM ?_
 refine zV (XU rfl rfl ZJ) ?_
 refine zN ?_
 refine zI ?_ ?_<;>intro hc4
 ·
  have hn0:n=0:=Decidable.byContradiction fun h=>by have:=hS.base h;rw [this] at hc4;cases hc4
  have hl:=hS.len
  subst hn0
  have hx0:=List.eq_nil_of_length_eq_zero hl
  subst hx0
  refine zR (zA (zN (Qs (Qb ?_))))
  exact Zq rfl rfl (fun w hw=>⟨_,I,_,rfl,zAl _,hw,rfl,OwnS.nil⟩)
 refine Qo (Qa (zR ?_))
 refine Qp (ps:=[]) (m:=[]) WC rfl (.nil) rfl (by simp) (by decide) (by decide) rfl rfl (fun b_5=>?_)
 refine zM ?_
 refine QU (v:=_) (ys:=xs.flatMap YK) (L:=[(b_5,_)]) rfl rfl WC OwnS.new (by repeat (first | exact .cons .here .nil | exact QD | exact Qy | apply QC | apply QB)) (hS.src Q8) (zme _) (by omega) rfl rfl ?_
 intro v1 L1 hO1 _;rw [List.nil_append,Nat.zero_add] at hO1
 refine zA (zN (Qs ?_))
 exact Zq rfl rfl (fun w hw=>⟨_,I,_,rfl,zAl _,hw.subL Zg,rfl,hO1⟩)
theorem zux {I:Qw}{av:Option Addr}{n c:Nat}{rows:List (List Int)}(hV:SlN I av n c rows)(hn:n≤100000){fid:Nat}{cap:List Value}{P:List Int→Bool}(hF:Fun Tryz.prog fid)(hf:∀ (h:Hd) (r:List Int),r∈rows→Sl I 1 QP h.a h.n h.c r→Zu Tryz.prog fid ([.slice h.a h.n h.c]++cap) I (.bool (P r))):Zu Tryz.prog 100 [.slice av n c,.func (.func fid) #[] cap.toArray] I (.int .i64 (Ur P rows)):=by
 intro g H w hw
 refine qe Tryz.func100 Tryz.ntmps100 hw ?_
 have hVl:=hV.len
 obtain ⟨hs,hVH⟩:=id hV
 have hS:=hVH.1
 refine zR (zA (zN (Qk (zR ?_))))
 refine zM ?_
 refine zQ Q0 ?_
 refine zM (zN (Ql ?_))
 refine zU [(0,_),(1,_),(7,_)] (fun T L0 mz E I' loc'=>∃ (k:Nat),mz=n-k∧E=(8,.int .i64 k)::T∧I=I'∧L0=loc'∧k≤n∧(rows.take k).any P=false) ?_ (h:=⟨0,rfl,rfl,rfl,rfl,Nat.zero_le _,rfl⟩)
 rintro mz E I' loc' ⟨k,rfl,rfl,rfl,rfl,hk,hno⟩
 refine zR (zC (zN (Qk ?_)))
 refine zI ?_ ?_<;>intro hc9
 ·
  have hlt_k:k<n:=by have h:=hc9;simp at h;omega
  obtain ⟨hx1,rx,hx,hrx,hQ⟩:=hVH.at hlt_k
  refine Qo (Qa (Qk (Ql (zR (zM ?_)))))
  refine zA ?_
  refine zN (zR ?_)
  refine zM ?_
  refine zM ?_
  refine zM ?_
  refine zV (Qz rfl rfl Q0 (by assumption) (fun hg=>by omega)) ?_
  refine zV (Qd rfl QJ (fun hg=>by exact zAe hS hx rfl)) ?_
  refine Y0 (cap:=cap) (vs:=[_]) rfl rfl hF (hf hx1 rx (List.mem_of_getElem? hrx) hQ) rfl rfl ?_
  refine zN ?_
  refine zI ?_ ?_<;>intro hc16
  ·
   refine zR (zM ?_)
   refine zA (zN (Qs (Qm (Qb (Qb (Qm (Qb ?_)))))))
   exact zr rfl rfl (by rw [JJ hno hrx hc16])
  refine Qo (Qg (Qa (Qf (zB ?_))))
  refine zM (Qc ?_)
  exact zm (h:=⟨n-(k+1),by omega,k+1,rfl,rfl,rfl,rfl,by omega,Ym hrx hno hc16⟩)
 have hge_k:n≤k:=by have h:=hc9;simp at h;omega
 refine QH (Qe (Qe (Qj (Qa (zR (zA (zN ?_)))))))
 refine Qs ?_
 exact zr rfl rfl (by rw [VT hVl hge_k hno])
theorem zyN {I:Qw}{b n c:Nat}{A:List Value}{ps:List Pt}(hA:A.take (n*19)=ps.flatMap YK)(hl:ps.length=n)(hn:n≤100000){fid:Nat}{cap:List Value}{P:Pt→Bool}(hF:Fun Tryz.prog fid)(hf:∀ x∈ps,Zu Tryz.prog fid ([WW x]++cap) I (.bool (P x))):Z4 Tryz.prog 169 [.slice (some ⟨b,0,none⟩) n c,.func (.func fid) #[] cap.toArray] I [(b,.cells A.toArray 57 (0,0))] (fun u I' L=>u= .int .i64 (Ur P ps)∧I'=I∧L=[(b,.cells A.toArray 57 (0,0))]):=by
 intro g H w hw
 refine qe Tryz.func169 Tryz.ntmps169 hw ?_
 refine zR (zA (zN (Qk (zR ?_))))
 refine zM ?_
 refine zQ ZJ ?_
 refine zM (zN (Ql ?_))
 refine zU [(0,_),(1,_),(7,_)] (fun T L0 mz E I' loc'=>∃ (k:Nat),mz=n-k∧E=(8,.int .i64 k)::T∧I=I'∧L0=loc'∧k≤n∧(ps.take k).any P=false) ?_ (h:=⟨0,rfl,rfl,rfl,rfl,Nat.zero_le _,rfl⟩)
 rintro mz E I' loc' ⟨k,rfl,rfl,rfl,rfl,hk,hno⟩
 refine zR (zC (zN (Qk ?_)))
 refine zI ?_ ?_<;>intro hc9
 ·
  have hlt_k:k<n:=by have h:=hc9;simp at h;omega
  obtain ⟨x,hx⟩:∃ x,ps[k]? =some x:=⟨_,List.getElem?_eq_getElem (by omega)⟩
  refine Qo (Qa (Qk (Ql (zR (zM ?_)))))
  refine zA ?_
  refine zN (zR ?_)
  refine zM ?_
  refine zM ?_
  refine zM ?_
  refine zV (Q6 rfl rfl ZJ (fun hg=>by omega)) ?_
  refine zV (Qq rfl YL (fun hg=>by exact zpt hA hx) rfl) ?_
  refine Y0 (cap:=cap) (vs:=[_]) rfl rfl hF (hf x (List.mem_of_getElem? hx)) rfl rfl ?_
  refine zN ?_
  refine zI ?_ ?_<;>intro hc16
  ·
   refine zR (zM ?_)
   refine zA (zN (Qs (Qm (Qb (Qb (Qm (Qb ?_)))))))
   exact Zq rfl rfl (fun w hw=>⟨_,I,_,rfl,zAl _,hw,by rw [JJ hno hx hc16],rfl,rfl⟩)
  refine Qo (Qg (Qa (Qf (zB ?_))))
  refine zM (Qc ?_)
  exact zm (h:=⟨n-(k+1),by omega,k+1,rfl,rfl,rfl,rfl,by omega,Ym hx hno hc16⟩)
 have hge_k:n≤k:=by have h:=hc9;simp at h;omega
 refine QH (Qe (Qe (Qj (Qa (zR (zA (zN ?_)))))))
 refine Qs ?_
 exact Zq rfl rfl (fun w hw=>⟨_,I,_,rfl,zAl _,hw,by rw [VT hl hge_k hno],rfl,rfl⟩)
theorem zuC {I:Qw}{b n c:Nat}{A:List Value}{ps:List Pt}(hA:A.take (n*19)=ps.flatMap YK)(hAl:A.length=c*19)(hl:ps.length=n)(hnc:n≤c)(hc:c≤maxLen)(hn:n≤100000){fid:Nat}{cap:List Value}{P:Pt→Bool}(hF:Fun Tryz.prog fid)(hf:∀ x∈ps,Zu Tryz.prog fid ([WW x]++cap) I (.bool (P x))):Z4 Tryz.prog 113 [.slice (some ⟨b,0,none⟩) n c,.func (.func fid) #[] cap.toArray] I [(b,.cells A.toArray 57 (0,0))] (fun u I' L=>I'=I∧∃ m,OwnS 57 19 u m ((ps.filter fun p=> !P p).flatMap YK) L):=by
 intro g H w hw
 refine qe Tryz.func113 Tryz.ntmps113 hw ?_
 refine zR (zA ?_)
 refine zN (zR ?_)
 refine zM ?_
 refine zM ?_
 refine QA (cap:=[]) (vs:=[_,_]) rfl rfl zet QD (zyN hA hl hn hF hf) rfl rfl ?_
 rintro vv1 I1 L1 hI1 ⟨rfl,rfl,rfl⟩
 refine zA (zN (Qk (zR ?_)))
 refine zM ?_
 refine zC (zN ?_)
 refine zI ?_ ?_<;>intro hc12
 ·
  have hno:ps.any P=false:=by cases h:ps.any P with | false=>rfl | true=>(obtain ⟨i,x,h1,h2,h3,h4⟩:=zqz h;rw [h1] at hc12;simp at hc12)
  refine zR (zM ?_)
  refine zA (zN (Qs (Qb ?_)))
  first
  | exact Zq rfl rfl (fun w hw=>⟨_,I1,_,rfl,zAl _,hw,rfl,_,by rw [List.filter_eq_self.2 (fun q hq=>by rw [List.any_eq_false] at hno;simpa using hno q hq),←hA];exact zyo hA hAl hl hnc hc⟩)
 obtain ⟨i,x,hix,hi,hPi,hno⟩:∃ (i:Nat) (x:Pt),Ur P ps=(i:Nat)∧ps[i]? =some x∧P x=true∧(ps.take i).any P=false:=zhY (by cases h:ps.any P with | true=>rfl | false=>(unfold Ur at hc12;rw [h] at hc12;simp at hc12))
 have hil:=(List.getElem?_eq_some_iff.1 hi).1
 rw [hix]
 refine Qo (Qa (Qk (zR (zM ?_))))
 refine zB ?_
 refine zA (zN (Ql ?_))
 refine zU [(0,_),(1,_)] (fun T L0 mz E I' loc'=>∃ (i j:Nat) (zs:List Pt) (B:List Value),mz=n-j∧E=(5,.int .i64 i)::(6,.int .i64 j)::T∧I1=I'∧[(b,.cells B.toArray 57 (0,0))]=loc'∧DlQ P ps n c i j zs B) ?_ (h:=⟨i,i+1,ps,A,rfl,rfl,rfl,rfl,DlQ.new hA hl hAl hi hPi hno⟩)
 rintro mz E I' loc' ⟨i,j,zs,B,rfl,rfl,rfl,rfl,hD⟩
 have hij:=hD.hij
 have hjn:=hD.hjn
 refine Qk (zR (zM ?_))
 refine zM ?_
 refine zQ ZJ ?_
 refine zC (zN ?_)
 refine zI ?_ ?_<;>intro hc19
 ·
  have hlt:j<n:=by have h:=hc19;simp at h;omega
  obtain ⟨x,hx⟩:∃ x,ps[j]? =some x:=⟨_,List.getElem?_eq_getElem (by omega)⟩
  have hz:=hD.at hx
  refine Qo (Qa (Qk (Ql (zR (zM ?_)))))
  refine zM ?_
  refine zV (Q6 rfl rfl ZJ (fun hg=>by omega)) ?_
  refine zV (Qq rfl YL (fun hg=>by exact zpt hD.hB hz) rfl) ?_
  refine Qv UD rfl rfl (fun b_7=>?_)
  refine zh JD ?_
  refine zN (zR ?_)
  refine zM ?_
  refine zV (Qq rfl YL (fun hg=>by exact Cells.g0) rfl) ?_
  refine Y0 (cap:=cap) (vs:=[_]) rfl rfl hF (hf x (List.mem_of_getElem? hx)) rfl rfl ?_
  refine zO (zN ?_)
  refine zI ?_ ?_<;>intro hc29
  ·
   refine zR (zM ?_)
   refine zM ?_
   refine zV (Qq rfl YL (fun hg=>by exact Cells.g0) rfl) ?_
   refine zV (Q6 rfl rfl ZJ (fun hg=>by omega)) ?_
   refine JG (A:=B) rfl rfl JD rfl (by rw [hD.hl];exact zyt hD hnc hlt) rfl rfl (by repeat (first | exact Upd.here | apply Upd.there | apply QM)) ?_
   refine zN (Qf (zM ?_))
   refine zB ?_
   refine zA (Qc (Qg (Qa (Qf ?_))))
   refine zM ?_
   refine zB ?_
   refine zA (Qc ?_)
   exact zm (h:=⟨n-(j+1),by omega,i+1,j+1,_,_,rfl,rfl,rfl,rfl,hD.keep hx (by simpa using hc29) hnc hlt⟩)
  refine Qo (Qg (Qa (Qf (zM ?_))))
  refine zB ?_
  refine zA (Qc ?_)
  exact zm (h:=⟨n-(j+1),by omega,i,j+1,_,_,rfl,rfl,rfl,rfl,hD.drop hx (by simpa using hc29) hlt⟩)
 have hge:n≤j:=by have h:=hc19;simp at h;omega
 refine QH (Qe (Qe (Qj (Qa (zR (zM ?_))))))
 refine zM ?_
 refine zV (zeM rfl rfl ZJ (by omega)) ?_
 refine zl5 (A:=B) (fun zs=>[(b,.cells (B.take (0+i*19)++(zs++B.drop (0+i*19+(n-i)*19))).toArray 57 (0,0))]) rfl zxs UD rfl rfl (by rw [hD.hl];exact zwo hD hnc) rfl rfl (fun zs=>.here) (fun zc hzc=>?_)
 refine zN (zR ?_)
 refine zM ?_
 refine zM ?_
 refine zV (zbl rfl rfl ZJ (fun hg=>by omega)) ?_
 refine zA (zN (Qs ?_))
 exact Zq rfl rfl (fun w hw=>⟨_,I1,_,rfl,zAl _,hw,rfl,_,hD.own hge hl hnc hc hzc⟩)
end
section
open Go Go.Kn Go.Proofs
theorem zer:AgT Tryz.prog 104 2:=.of (by kernel_rfl)
theorem JC:AgT Tryz.prog 98 8:=.of (by kernel_rfl)
theorem zqO:Ar2 Tryz.prog 104 3 .i64:=⟨by kernel_rfl,by kernel_rfl,by kernel_rfl,by kernel_rfl,by kernel_rfl⟩
theorem V4:ArT Tryz.prog 104 2 3 1:=.of (by kernel_rfl)
theorem WF:Q3 Tryz.prog 98 2 5:=.of (by kernel_rfl)
theorem XP:Q3 Tryz.prog 98 3 6:=.of (by kernel_rfl)
theorem zqN:Fun Tryz.prog 112:=.of Tryz.func112 (by kernel_rfl) (by kernel_rfl)
theorem zso:Fun Tryz.prog 113:=.of Tryz.func113 (by kernel_rfl) (by kernel_rfl)
theorem zq5:Fun Tryz.prog 114:=.of Tryz.func114 (by kernel_rfl) (by kernel_rfl)
theorem zqf:Fun Tryz.prog 115:=.of Tryz.func115 (by kernel_rfl) (by kernel_rfl)
theorem zrG:Fun Tryz.prog 117:=.of Tryz.func117 (by kernel_rfl) (by kernel_rfl)
theorem zrJ:Fun Tryz.prog 118:=.of Tryz.func118 (by kernel_rfl) (by kernel_rfl)
theorem zdc:ScT Tryz.prog 36:=.of (by kernel_rfl)
theorem zc2:ScT Tryz.prog 96:=.of (by kernel_rfl)
theorem zpW:SzT Tryz.prog 36 1:=.of (by kernel_rfl)
theorem zlm:Yz Tryz.prog 104 (.agg #[(.int .i64 0),(.int .i64 0)]):=.of (by kernel_rfl)
theorem zyQ:Yz Tryz.prog 36 (.slice none 0 0):=.of (by kernel_rfl)
theorem zuB {I:Qw}{fid:Nat}{cap:List Value}{P:Pt→Bool}(hF:Fun Tryz.prog fid)(hf:∀ x∈([]:List Pt),Zu Tryz.prog fid ([WW x]++cap) I (.bool (P x))):Z4 Tryz.prog 113 [.slice none 0 0,.func (.func fid) #[] cap.toArray] I [] (fun u I' L=>I'=I∧∃ m,OwnS 57 19 u m (([]:List Pt).flatMap YK) L):=by
 intro g H w hw
 refine qe Tryz.func113 Tryz.ntmps113 hw ?_
 refine zR (zA ?_)
 refine zN (zR ?_)
 refine zM ?_
 refine zM ?_
 refine qc (vs:=[_,_]) rfl zet (zuV (ps:=[]) ⟨.nil,fun x hx=>by cases hx⟩ (by omega) hF hf) ?_
 refine zA (zN (Qk (zR ?_)))
 refine zM ?_
 refine zC (zN ?_)
 refine zI ?_ ?_<;>intro hc12
 ·
  refine zR (zM ?_)
  refine zA (zN (Qs (Qb ?_)))
  exact Zq rfl rfl (fun w hw=>⟨_,I,[],rfl,zAl _,hw.drop,rfl,0,OwnS.nil⟩)
 exact absurd hc12 (by simp [Ur])
theorem zxA {I:Qw}{v:Value}{n:Nat}{L0:Go.Kn.Loc}{ps:List Pt}(hO:OwnS 57 19 v n (ps.flatMap YK) L0)(hn:n≤100000){fid:Nat}{cap:List Value}{P:Pt→Bool}(hF:Fun Tryz.prog fid)(hf:∀ x∈ps,Zu Tryz.prog fid ([WW x]++cap) I (.bool (P x))):Z4 Tryz.prog 113 [v,.func (.func fid) #[] cap.toArray] I L0 (fun u I' L=>I'=I∧∃ m,OwnS 57 19 u m ((ps.filter fun p=> !P p).flatMap YK) L):=by
 obtain ⟨hlen,⟨rfl,rfl,rfl⟩ | ⟨b,c,cur,rfl,rfl,hnc,hcm,hsz,htk⟩⟩:=hO
 ·
  obtain rfl:ps=[]:=by
   rw [ZD Q8] at hlen
   exact List.length_eq_zero_iff.1 (by omega)
  exact zuB hF hf
 have hl:ps.length=n:=by rw [ZD Q8] at hlen;omega
 have h:=zuC (b:=b) (A:=cur.toList) (c:=c) htk (by rw [Array.length_toList];exact hsz) hl hnc hcm hn hF hf
 rw [Array.toArray_toList] at h
 exact h
theorem zp6 {I:Qw}{t:Tx}{ps:List Pt}(hOn:OnM I t.r ps)(p:Pt)(hid:∃ z∈ps,z.id=p.id)(i:Int):Zu Tryz.prog 118 [.agg (Ko t).toArray,WW p,.int .i64 i] I (.bool (onF ps p.id i)):=by
 intro g H w hw
 refine qe Tryz.func118 Tryz.ntmps118 hw ?_
 obtain ⟨m,hm1,hm2⟩:=hOn
 obtain ⟨ref,hget,sn,hsn,hsq⟩:=hm2.get hid
 refine zR ?_
 refine Q9 rfl rfl rfl (fun b_3=>?_)
 refine Q9 rfl rfl rfl (fun b_4=>?_)
 refine zA ?_
 refine zN (zR ?_)
 refine zF WF ?_
 refine zL zc2 ?_
 refine zF ZF ?_
 refine zL Qr ?_
 refine zV (YO (m:=m) (ek:=Value.int .i64) (ev:=zcK) (a:=p.id) hget zdu ZQ rfl rfl (fun _=>.inl hm1)) ?_
 refine zM ?_
 refine zV (Yt (m:=sn) zgl ZQ rfl rfl (fun _=>.inl hsn)) ?_
 refine zA (zN (Qs ?_))
 exact zr rfl rfl (by rw [show (ZH sn i).getD false=onF ps p.id i from hsq.mem _])
theorem zsZ {I:Qw}{b1 b2:Nat}{t:Tx}{p:Pt}{ps:List Pt}(h1:I b1=some (.cells (Ko t).toArray 98 (0,0)))(h2:I b2=some (.cells (YK p).toArray 57 (0,0)))(hOn:OnM I t.r ps)(q:Pt)(hid:∃ z∈ps,z.id=q.id):Zu Tryz.prog 117 [WW q,.pointer (some ⟨b1,0,none⟩),.pointer (some ⟨b2,0,none⟩)] I (.bool (onF ps q.id p.id)):=by
 intro g H w hw
 refine qe Tryz.func117 Tryz.ntmps117 hw ?_
 refine zR ?_
 refine Q9 rfl rfl rfl (fun b_3=>?_)
 refine zA ?_
 refine zN (zR ?_)
 refine zV (Qq rfl JC (fun hg=>by exact Cells.imm h1) rfl) ?_
 refine zV (Qq rfl YL (fun hg=>by exact Cells.g0) rfl) ?_
 refine zF ZF ?_
 refine zV (Qd rfl Qr (fun hg=>by exact .imm h2 rfl)) ?_
 refine qc (vs:=[_,_,_]) rfl zrJ (zp6 hOn q hid _) ?_
 refine zA (zN (Qs ?_))
 exact zr rfl rfl (by rfl)
theorem zw2 {I:Qw}{b1 b2:Nat}{t:Tx}{ps:List Pt}{av:Option Addr}{n c:Nat}{xs:List Pt}(h1:I b1=some (.cells #[.slice av n c] 36 (0,0)))(h2:I b2=some (.cells (Ko t).toArray 98 (0,0)))(hOn:OnM I t.r ps)(hX:SlP I av n c xs)(hn:n≤100000)(hsub:∀ q∈xs,∃ z∈ps,z.id=q.id)(p:Pt):Zu Tryz.prog 115 [WW p,.pointer (some ⟨b1,0,none⟩),.pointer (some ⟨b2,0,none⟩)] I (.bool (xs.any fun q=>onF ps q.id p.id)):=by
 intro g H w hw
 refine qe Tryz.func115 Tryz.ntmps115 hw ?_
 refine zR ?_
 refine Q9 rfl rfl rfl (fun b_3=>?_)
 refine zA ?_
 refine zN (zR ?_)
 refine zV (Qd rfl zdc (fun hg=>by exact .imm h1 rfl)) ?_
 refine zV (Zf (us:=[]) (vs:=[_,_]) rfl rfl) ?_
 refine UY (cap:=[]) (vs:=[_,_]) rfl rfl zkm QD (zlF.ofV fun I' hI' hL'=>zuN (cap:=[.pointer (some ⟨b2,0,none⟩),.pointer (some ⟨b_3,0,none⟩)]) (hX.mono hI') hn zrG (fun q hq=>zsZ (b1:=b2) (b2:=b_3) (t:=t) (p:=p) (hI' _ _ h2) (hL' b_3 _ (.head _)) (hOn.mono hI') q (hsub q hq))) rfl rfl ?_
 refine zA (zN (Qs ?_))
 exact zr rfl rfl (by rfl)
theorem zs7 {I:Qw}{t:Tx}{rows:List (List Int)}{es:List Em}{rd:List Int}{ps l:List Pt}{sg:List Sg}(hT:zhW I t rows es rd ps l sg)(s f:Int):Z4 Tryz.prog 112 [.agg (Ko t).toArray,.agg #[.int .i64 s,.int .i64 f]] I [] (KD 19 YK (stF l s f)):=by
 intro g H w hw
 refine qe Tryz.func112 Tryz.ntmps112 hw ?_
 have hIc:=zAl I
 have hSl:=hT.L.1
 have hbl:=hT.bl
 refine zR ?_
 refine Q9 rfl rfl rfl (fun b_2=>?_)
 refine Q9 rfl rfl rfl (fun b_3=>?_)
 refine zA (zN (Qk (zR ?_)))
 refine zF XP ?_
 refine zL zdc ?_
 refine zQ ZJ ?_
 refine zM (zN (Ql ?_))
 refine zU [(3,_),(8,_),(9,_)] (fun T L0 mz E I' loc'=>∃ (k:Nat) (v:Value) (q:Nat) (L:Go.Kn.Loc),mz=t.ln-k∧E=(4,v)::(10,.int .i64 k)::T∧I=I'∧L++[(b_3,.cells #[.int .i64 s,.int .i64 f] 104 (0,0)),(b_2,.cells (Ko t).toArray 98 (0,0))]=loc'∧k≤t.ln∧OwnS 57 19 v q ((stF (l.take k) s f).flatMap YK) L∧q≤k) ?_ (h:=⟨0,_,0,[],rfl,rfl,rfl,rfl,Nat.zero_le _,by rw [List.take_zero];exact OwnS.nil,Nat.le_refl _⟩)
 rintro mz E I' loc' ⟨k,v,q,L,rfl,rfl,rfl,rfl,hk,hO,hq⟩
 refine zR (zC (zN (Qk ?_)))
 refine zI ?_ ?_<;>intro hc11
 ·
  have hlt_k:k<t.ln:=by have h:=hc11;simp at h;omega
  obtain ⟨p,hp⟩:=hSl.at hlt_k
  refine Qo (Qa (Qk (Ql (zR ?_))))
  refine zV (zX ZJ hSl) ?_
  refine zV (Qq rfl YL (fun hg=>by exact zAm hSl hp) rfl) ?_
  refine Qv UD rfl rfl (fun b_6=>?_)
  refine zh JD ?_
  refine zN (zR ?_)
  refine zF Ue ?_
  refine zL Qr ?_
  refine zC ?_
  refine zM ?_
  refine QG 3 rfl rfl rfl ?_
  refine zK (Qi rfl Yf) ?_
  refine zK (Qd rfl Qr (fun hg=>by exact QY.h0 rfl)) ?_
  refine zK (Qi rfl JT) ?_
  refine zK (Qd rfl Qr (fun hg=>by exact QY.h0 rfl)) ?_
  refine zK (ZC (ps:=[(0,_),(1,_)]) [_,_] V4 zlm rfl rfl) ?_
  refine zK (Qq rfl zer (fun hg=>by (repeat (first | exact zAj | apply zAi | apply zAk))) rfl) ?_
  refine zK (zrL rfl rfl zqO) ?_
  refine QL rfl rfl rfl rfl rfl ?_
  refine zN ?_
  refine zI ?_ ?_<;>intro hc25
  ·
   have hst:(p.kind==1&&(p.sign==s&&p.field==f))=true:=by simpa using hc25
   refine Qf (zM ?_)
   refine zV (Qq rfl YL (fun hg=>by exact Cells.g0) rfl) ?_
   refine Qp (ps:=[(0,_)]) (m:=[YK p]) WC rfl (.cons rfl (.nil)) rfl (by simp [Q8]) (by decide) (by decide) rfl rfl (fun b_28=>?_)
   refine QU (v:=_) (ys:=[p].flatMap YK) (L:=L) rfl rfl WC hO (by repeat (first | exact .cons .here .nil | exact QD | exact Qy | apply QC | apply QB)) ⟨rfl,fun _=>rfl,by repeat (first | exact zAj | apply zAi | apply zAk)⟩ (zme _) (by omega) rfl rfl ?_
   intro v9 L9 hO9 _;rw [←List.flatMap_append] at hO9
   refine zA (Qc (Qg (Qa (Qf ?_))))
   refine zB ?_
   refine zM (Qc ?_)
   first
   | exact zm (h:=⟨t.ln-(k+1),by omega,k+1,_,_,_,rfl,rfl,rfl,rfl,by omega,by rw [show stF (l.take (k+1)) s f=stF (l.take k) s f++[p] from Xa hp hst];exact hO9,by omega⟩)
  have hst:(p.kind==1&&(p.sign==s&&p.field==f))=false:=by simpa using hc25
  refine Qo (Qg (Qa (Qf (zB ?_))))
  refine zM (Qc ?_)
  first
  | exact zm (h:=⟨t.ln-(k+1),by omega,k+1,_,_,_,rfl,rfl,rfl,rfl,by omega,by rw [show stF (l.take (k+1)) s f=stF (l.take k) s f from za9 hp hst];exact hO,by omega⟩)
 have hge_k:t.ln≤k:=by have h:=hc11;simp at h;omega
 rw [Zo hSl.len hge_k] at hO
 refine QH (Qe (Qe (Qj (Qa (zR (zM ?_))))))
 refine zA (zN (Qs ?_))
 exact Zq rfl rfl (fun w hw=>by obtain ⟨I9,h91,h92,h93⟩:=OwnS.res hO Q8 (by decide) (hw.subL (by exact Zg));exact ⟨_,I9,[],rfl,hIc.trans h91,h92,h93⟩)
theorem zut {I:Qw}{t:Tx}{rows:List (List Int)}{es:List Em}{rd:List Int}{ps l:List Pt}{sg:List Sg}(hT:zhW I t rows es rd ps l sg)(s f:Int):Z4 Tryz.prog 70 [.agg (Ko t).toArray,.agg #[.int .i64 s,.int .i64 f]] I [] (FrQ (or1 (onF ps) l s f)):=by
 intro g H w hw
 refine qe Tryz.func70 Tryz.ntmps70 hw ?_
 have hIc:=zAl I
 have hbl:=hT.bl
 refine zR ?_
 refine Q9 rfl rfl rfl (fun b_2=>?_)
 refine Q9 rfl rfl rfl (fun b_3=>?_)
 refine Qv Xv rfl rfl (fun b_4=>?_)
 refine zA ?_
 refine zN (zR ?_)
 refine zV (Qq rfl JC (fun hg=>by exact Cells.g2) rfl) ?_
 refine zV (Qq rfl zer (fun hg=>by exact Cells.g1) rfl) ?_
 refine QA (cap:=[]) (vs:=[_,_]) rfl rfl zqN .nil (zs7 hT s f) rfl rfl ?_
 rintro vv1 I1 L1 hI1 ⟨rfl,a9,c9,rfl,hSA⟩
 have hT:=hT.mono hI1;have hIc:=hIc.trans hI1
 have hSA:Sl I1 19 YK a9 (stF l s f).length c9 (stF l s f):=hSA
 have hsl:(stF l s f).length≤100000:=Nat.le_trans zav (by rw [hT.L.1.len];exact hbl)
 refine Qv zyQ rfl rfl (fun b_6=>?_)
 refine zS zpW ?_
 refine zN (Qk ?_)
 refine Zn (b:=b_2) (by repeat (first | exact Zc.here | apply Zc.there)) (fun I2 hI2 hb2=>?_)
 have hT:=hT.mono hI2;have hSA:=hSA.mono hI2;have hIc:=hIc.trans hI2
 have h2:=hb2
 refine Zn (b:=b_6) (by repeat (first | exact Zc.here | apply Zc.there)) (fun I3 hI3 hb3=>?_)
 have hT:=hT.mono hI3;have hSA:=hSA.mono hI3;have hIc:=hIc.trans hI3
 have h2:=hI3 _ _ h2
 have h6:=hb3
 refine Qf ?_
 refine zV (Qd rfl zdc (fun hg=>by exact .imm h6 rfl)) ?_
 refine QA (cap:=[]) (vs:=[_]) rfl rfl zq5 .nil (zno hSA (by omega)) rfl rfl ?_
 rintro vv4 I4 L4 hI4 ⟨rfl,hO⟩
 have hT:=hT.mono hI4;have hSA:=hSA.mono hI4;have hIc:=hIc.trans hI4
 refine zV (Zf (us:=[]) (vs:=[_,_]) rfl rfl) ?_
 refine QA (cap:=[]) (vs:=[_,_]) rfl rfl zso (by repeat (first | exact .cons .here .nil | exact QD | exact Qy | apply QC | apply QB)) (zxA hO hsl zqf (cap:=[.pointer (some ⟨b_6,0,none⟩),.pointer (some ⟨b_2,0,none⟩)]) (fun x hx=>zw2 h6 h2 hT.M ⟨hSA,fun q hq=>hT.L.2 q (zas.1 hq).1⟩ hsl (fun q hq=>hT.sub q (zas.1 hq).1) x)) rfl rfl ?_
 rintro vv5 I5 L5 hI5 ⟨rfl,m,hO2⟩
 have hIc:=hIc.trans hI5
 refine zA (zN (Qk (Qk ?_)))
 refine Vn hO2 Q8 (by decide) (by repeat (first | exact .cons .here .nil | exact QD | exact Qy | apply QC | apply QB)) (fun I6 hI6 af6 cf6 ef6 hLt=>?_)
 subst ef6
 have hIc:=hIc.trans hI6
 have hLt:Sl I6 19 YK _ m _ (zhV (onF ps) l s f):=hLt
 have hm:=hLt.len
 have hml:m≤100000:=by rw [←hm];exact Nat.le_trans (List.length_filter_le ..) hsl
 refine Qf (zM ?_)
 refine zQ ZJ ?_
 refine zM (zN (Ql ?_))
 refine zU [(4,_),(7,_),(17,_),(18,_)] (fun T L0 mz E I' loc'=>∃ (k:Nat) (v:Value) (q:Nat) (L:Go.Kn.Loc),mz=m-k∧E=(19,.int .i64 k)::T∧I6=I'∧L++[(b_4,.cells #[.int .i64 0,.int .i64 0,.slice none 0 0,v] 38 (0,0)),(b_3,.cells #[.int .i64 s,.int .i64 f] 104 (0,0))]=loc'∧k≤m∧OwnS 3 1 v q (((zkB (zhV (onF ps) l s f) k).map (·.id)).flatMap QP) L∧q≤k) ?_ (h:=⟨0,_,0,[],rfl,rfl,rfl,rfl,Nat.zero_le _,by rw [zyL];exact OwnS.nil,Nat.le_refl _⟩)
 rintro mz E I' loc' ⟨k,v,q,L,rfl,rfl,rfl,rfl,hk,hO,hq⟩
 obtain ⟨va4,vc4,rfl⟩:=zaS hO
 refine zR (zC (zN (Qk ?_)))
 refine zI ?_ ?_<;>intro hc20
 ·
  have hlt_k:k<m:=by have h:=hc20;simp at h;omega
  obtain ⟨p,hp⟩:=hLt.at hlt_k
  obtain ⟨p0,hp0⟩:=hLt.at (k:=0) (by omega)
  refine Qo (Qa (Qk (Ql (zR ?_))))
  refine zV (zX ZJ hLt) ?_
  refine zV (Qq rfl YL (fun hg=>by exact zAm hLt hp) rfl) ?_
  refine Qv UD rfl rfl (fun b_9=>?_)
  refine zh JD ?_
  refine zN (Qk ?_)
  refine Yq mixed (by kernel_rfl) ?_
  refine zq (Qi rfl Jt) ?_
  refine zq (Qq rfl ZI (fun hg=>by exact Cells.s0 (vs:=[_,_,_,_,_,_,_,_,_,_,_,_,_,_]) rfl) rfl) ?_
  refine zq (Qh rfl) ?_
  refine zq (zX ZJ hLt) ?_
  refine zq (Qi rfl Jt) ?_
  refine zq (Qq rfl ZI (fun hg=>by exact Sl.seg (vs:=Vy p0.nw) (o:=4) hLt hp0 rfl) rfl) ?_
  refine zq (zek rfl rfl zaq rfl) ?_
  refine Yp ?_
  refine Qa ?_
  refine zI ?_ ?_<;>intro hc29
  ·
   have hq29:zaT p.nw p0.nw=true:=hc29
   rw [←QN (d:=Xx) hp0] at hq29
   refine Qf ?_
   refine zF XG ?_
   refine zV (Qd rfl QJ (fun hg=>by (repeat (first | exact zAg rfl | apply zAf | apply zAh)))) ?_
   refine zF ZF ?_
   refine zL Qr ?_
   refine Qp (ps:=[(0,_)]) (m:=[QP p.id]) Za rfl (.cons rfl (.nil)) rfl (by simp [Qu]) (by decide) (by decide) rfl rfl (fun b_34=>?_)
   refine QU (v:=_) (ys:=[p.id].flatMap QP) (L:=L) rfl rfl Za hO (by repeat (first | exact .cons .here .nil | exact QD | exact Qy | apply QC | apply QB)) ⟨rfl,fun _=>rfl,by repeat (first | exact zAj | apply zAi | apply zAk)⟩ (V0 _) (by omega) rfl rfl ?_
   intro v9 L9 hO9 _;obtain ⟨va9,vc9,rfl⟩:=zaS hO9;rw [←List.flatMap_append] at hO9
   refine zF XG ?_
   refine ZE rfl rfl Zm rfl rfl (by (repeat (first | exact Upd.here | apply Upd.there | apply QM))) rfl ?_
   refine Qc (Qg (Qa (Qf (zB ?_))))
   refine zM (Qc ?_)
   first
   | exact zm (h:=⟨m-(k+1),by omega,k+1,_,_,_,rfl,rfl,rfl,rfl,by omega,by rw [zrk hp hq29];exact hO9,by omega⟩)
  have hq29:zaT p.nw p0.nw=false:=hc29
  rw [←QN (d:=Xx) hp0] at hq29
  refine Qo (Qg (Qa (Qf (zB ?_))))
  refine zM (Qc ?_)
  first
  | exact zm (h:=⟨m-(k+1),by omega,k+1,_,_,_,rfl,rfl,rfl,rfl,by omega,by rw [zvS hp hq29];exact hO,by omega⟩)
 have hge_k:m≤k:=by have h:=hc20;simp at h;omega
 have hke:k=m:=by omega
 refine QH (Qe (Qe (Qj (Qa (zR ?_)))))
 refine zF zcF ?_
 refine ZE rfl rfl Yd rfl rfl (by (repeat (first | exact Upd.here | apply Upd.there | apply QM))) rfl ?_
 refine zN (zR ?_)
 refine zV (Qq rfl Vi (fun hg=>by (repeat (first | exact zAj | apply zAi | apply zAk))) rfl) ?_
 refine zM ?_
 refine zQ ZJ ?_
 refine zC ?_
 refine YG rfl rfl V7 rfl rfl rfl rfl (by (repeat (first | exact Upd.here | apply Upd.there | apply QM))) ?_
 refine zA (zN (Qs ?_))
 exact Zp rfl rfl rfl Vi (vs:=[.int .i64 3,.int .i64 0,.slice none 0 0,.slice va4 _ vc4]) (by repeat (first | exact zAj | apply zAi | apply zAk)) rfl (fun w hw=>by obtain ⟨I9,av9,c9,h1',h2',e9,h4'⟩:=OwnS.freeze (R:=[_,_]) hO Qu (by decide) hw;cases e9;exact ⟨_,I9,[],rfl,hIc.trans h1',h2'.drop,rfl,[.int .i64 3,.int .i64 0,.slice none 0 0,.slice va4 _ vc4],by rw [zxF hm],_,_,_,_,_,_,rfl,.nil,by show Sl _ 1 QP _ _ _ (zyD _);rw [←zqL hm hke];exact h4'⟩)
end
section
open Go Go.Kn Go.Proofs
theorem zqU:ElT Tryz.prog 146 145 1 8:=.of (by kernel_rfl)
theorem zcf:Q3 Tryz.prog 98 0 0:=.of (by kernel_rfl)
theorem zbu:Q3 Tryz.prog 98 1 1:=.of (by kernel_rfl)
theorem zp5:Fun Tryz.prog 119:=.of Tryz.func119 (by kernel_rfl) (by kernel_rfl)
theorem zsD:Fun Tryz.prog 120:=.of Tryz.func120 (by kernel_rfl) (by kernel_rfl)
theorem zsB:Fun Tryz.prog 121:=.of Tryz.func121 (by kernel_rfl) (by kernel_rfl)
theorem zts:Fun Tryz.prog 122:=.of Tryz.func122 (by kernel_rfl) (by kernel_rfl)
theorem zsH:Fun Tryz.prog 123:=.of Tryz.func123 (by kernel_rfl) (by kernel_rfl)
theorem zwQ:Fun Tryz.prog 70:=.of Tryz.func70 (by kernel_rfl) (by kernel_rfl)
theorem zvT:Fun Tryz.prog 71:=.of Tryz.func71 (by kernel_rfl) (by kernel_rfl)
theorem zuJ:Fun Tryz.prog 72:=.of Tryz.func72 (by kernel_rfl) (by kernel_rfl)
theorem zwt:Fun Tryz.prog 73:=.of Tryz.func73 (by kernel_rfl) (by kernel_rfl)
theorem zvp:Fun Tryz.prog 74:=.of Tryz.func74 (by kernel_rfl) (by kernel_rfl)
theorem zrb:ScT Tryz.prog 145:=.of (by kernel_rfl)
theorem zks:SlT Tryz.prog 146 145 1:=.of (by kernel_rfl)
theorem zqF {I:Qw}{t:Tx}{rows:List (List Int)}{es:List Em}{rd:List Int}{ps l:List Pt}{sg:List Sg}(hT:zhW I t rows es rd ps l sg)(s f:Int):Z4 Tryz.prog 71 [.agg (Ko t).toArray,.agg #[.int .i64 s,.int .i64 f]] I [] (FrQ (or2 l s)):=by
 intro g H w hw
 refine qe Tryz.func71 Tryz.ntmps71 hw ?_
 have hIc:=zAl I
 have hSl:=hT.L.1
 have hbl:=hT.bl
 refine zR ?_
 refine Q9 rfl rfl rfl (fun b_2=>?_)
 refine Q9 rfl rfl rfl (fun b_3=>?_)
 refine Qv Xv rfl rfl (fun b_4=>?_)
 refine zA (zN (Qk (zR ?_)))
 refine zF XP ?_
 refine zL zdc ?_
 refine zQ ZJ ?_
 refine zM (zN (Ql ?_))
 refine zU [(3,_),(4,_),(9,_),(10,_)] (fun T L0 mz E I' loc'=>∃ (k:Nat),mz=t.ln-k∧E=(11,.int .i64 k)::T∧I=I'∧L0=loc'∧k≤t.ln∧(l.take k).any (inP s)=false) ?_ (h:=⟨0,rfl,rfl,rfl,rfl,Nat.zero_le _,rfl⟩)
 rintro mz E I' loc' ⟨k,rfl,rfl,rfl,rfl,hk,hno⟩
 refine zR (zC (zN (Qk ?_)))
 refine zI ?_ ?_<;>intro hc12
 ·
  have hlt_k:k<t.ln:=by have h:=hc12;simp at h;omega
  obtain ⟨p,hp⟩:=hSl.at hlt_k
  refine Qo (Qa (Qk (Ql (zR ?_))))
  refine zV (zX ZJ hSl) ?_
  refine zV (Qq rfl YL (fun hg=>by exact zAm hSl hp) rfl) ?_
  refine Qv UD rfl rfl (fun b_7=>?_)
  refine zh JD ?_
  refine zN (zR ?_)
  refine zF Ue ?_
  refine zL Qr ?_
  refine zC ?_
  refine zM ?_
  refine QG 3 rfl rfl rfl ?_
  refine zK (Qi rfl Yf) ?_
  refine zK (Qd rfl Qr (fun hg=>by exact QY.h0 rfl)) ?_
  refine zK (Zv rfl rfl V4 (fun hg=>by decide)) ?_
  refine zK (Qd rfl Qr (fun hg=>by exact QY.h2 rfl)) ?_
  refine zK (QI rfl rfl rfl) ?_
  refine QL rfl rfl rfl rfl rfl ?_
  refine zN ?_
  refine zI ?_ ?_<;>intro hc24
  ·
   have hc24:inP s p=true:=hc24
   refine zR ?_
   refine zF ZF ?_
   refine zL Qr ?_
   refine Qp (ps:=[(0,_)]) (m:=[QP p.id]) Za rfl (.cons rfl (.nil)) rfl (by simp [Qu]) (by decide) (by decide) rfl rfl (fun b_27=>?_)
   refine zV (QQ (ps:=[(0,_),(3,_)]) [_,_,_,_] zaA rfl rfl) ?_
   refine zh V7 ?_
   refine zA (zN (Qs (Qm (Qb (Qb (Qm (Qb ?_)))))))
   first
   | exact Zp rfl rfl rfl Vi (vs:=[.int .i64 3,.int .i64 0,.slice none 0 0,.slice (some ⟨b_27,0,none⟩) 1 1]) (by repeat (first | exact zAj | apply zAi | apply zAk)) rfl (fun w hw=>by obtain ⟨I9,h91,h92,h93⟩:=hw.freezeAll;exact ⟨_,I9,[],rfl,hIc.trans h91,h92,rfl,[.int .i64 3,.int .i64 0,.slice none 0 0,.slice (some ⟨b_27,0,none⟩) 1 1],by rw [zbv hno hp hc24],none,0,0,_,_,_,by rw [zbv hno hp hc24],by rw [zbv hno hp hc24];exact .nil,by rw [zbv hno hp hc24];exact Sl.lit (t:=3) [_] rfl Qu (h93 b_27 _ (by simp [QP]))⟩)
  have hc24:inP s p=false:=hc24
  refine Qo (Qg (Qa (Qf (zB ?_))))
  refine zM (Qc ?_)
  exact zm (h:=⟨t.ln-(k+1),by omega,k+1,rfl,rfl,rfl,rfl,by omega,Ym hp hno hc24⟩)
 have hge_k:t.ln≤k:=by have h:=hc12;simp at h;omega
 rw [Zo hSl.len hge_k] at hno
 refine QH (Qe (Qe (Qj (Qa (zR ?_)))))
 refine zV (Qq rfl Vi (fun hg=>by exact Cells.g0) rfl) ?_
 refine zh V7 ?_
 refine zA (zN (Qs ?_))
 first
 | exact Zp rfl rfl rfl Vi (vs:=[.int .i64 0,.int .i64 0,.slice none 0 0,.slice none 0 0]) (by repeat (first | exact zAj | apply zAi | apply zAk)) rfl (fun w hw=>⟨_,I,[],rfl,zAl _,hw.drop,rfl,[.int .i64 0,.int .i64 0,.slice none 0 0,.slice none 0 0],by rw [zf0 hno],none,0,0,none,0,0,by rw [zf0 hno];rfl,by rw [zf0 hno];exact .nil,by rw [zf0 hno];exact .nil⟩)
theorem zyw {I:Qw}{b1 b2:Nat}{t:Tx}{q:Nat}{f:Int}{h:Hd}{r rd:List Int}(h1:I b1=some (.cells #[.int .i64 (q:Nat),.int .i64 f] 104 (0,0)))(h2:I b2=some (.cells (Ko t).toArray 98 (0,0)))(hQ:Sl I 1 QP h.a h.n h.c r)(hR:Sl I 1 QP t.a3 t.n4 t.d3 rd)(hqr:q<r.length)(hqd:q<rd.length):Zu Tryz.prog 119 [.slice h.a h.n h.c,.pointer (some ⟨b1,0,none⟩),.pointer (some ⟨b2,0,none⟩)] I (.bool (r.getD q 0==rd.getD q 0)):=by
 intro g H w hw
 refine qe Tryz.func119 Tryz.ntmps119 hw ?_
 have hQl:=hQ.len
 have hRl:=hR.len
 refine zR (zA (zN (Qk ?_)))
 refine Yq mixed (by kernel_rfl) ?_
 refine zq (Qh rfl) ?_
 refine zq (Zv rfl rfl V4 (fun hg=>by decide)) ?_
 refine zq (Qd rfl Qr (fun hg=>by exact QY.imm h1 rfl)) ?_
 refine zq (zX Qt hQ) ?_
 refine zq (Qd rfl Qr (fun hg=>by exact zAe (k:=q) hQ (QX (d:=0) rfl (by omega)) rfl)) ?_
 refine zq (Qi rfl zbu) ?_
 refine zq (Qi rfl Yg) ?_
 refine zq (Qd rfl QJ (fun hg=>by exact QY.imm h2 rfl)) ?_
 refine zq (Zv rfl rfl V4 (fun hg=>by decide)) ?_
 refine zq (Qd rfl Qr (fun hg=>by exact QY.imm h1 rfl)) ?_
 refine zq (zX Qt hR) ?_
 refine zq (Qd rfl Qr (fun hg=>by exact zAe (k:=q) hR (QX (d:=0) rfl (by omega)) rfl)) ?_
 refine zq (QI rfl rfl rfl) ?_
 refine zq (ZM rfl) ?_
 refine Yp ?_
 refine Qa (Qs ?_)
 exact zr rfl rfl (by rfl)
theorem zx7 {I:Qw}{b1:Nat}{q:Nat}{f:Int}{h:Hd}{r:List Int}(h1:I b1=some (.cells #[.int .i64 (q:Nat),.int .i64 f] 104 (0,0)))(hQ:Sl I 1 QP h.a h.n h.c r)(hqr:q<r.length):Zu Tryz.prog 120 [.slice h.a h.n h.c,.pointer (some ⟨b1,0,none⟩)] I (.bool (zyf q r)):=by
 intro g H w hw
 refine qe Tryz.func120 Tryz.ntmps120 hw ?_
 have hQl:=hQ.len
 refine zR (zA ?_)
 refine zN (zR ?_)
 refine zM ?_
 refine zV (Zv rfl rfl V4 (fun hg=>by decide)) ?_
 refine zV (Qd rfl Qr (fun hg=>by exact QY.imm h1 rfl)) ?_
 refine zV (zX Qt hQ) ?_
 refine zV (Qd rfl Qr (fun hg=>by exact zAe (k:=q) hQ (QX (d:=0) rfl (by omega)) rfl)) ?_
 refine zC ?_
 refine zM ?_
 refine QG 6 rfl rfl rfl ?_
 refine zK (Qh rfl) ?_
 refine zK (Zv rfl rfl V4 (fun hg=>by decide)) ?_
 refine zK (Qd rfl Qr (fun hg=>by exact QY.imm h1 rfl)) ?_
 refine zK (zX Qt hQ) ?_
 refine zK (Qd rfl Qr (fun hg=>by exact zAe (k:=q) hQ (QX (d:=0) rfl (by omega)) rfl)) ?_
 refine zK (QI rfl rfl rfl) ?_
 refine QL rfl rfl rfl rfl rfl ?_
 refine zA (zN (Qs ?_))
 exact zr rfl rfl (by rfl)
theorem zyv {I:Qw}{b1:Nat}{q:Nat}{f:Int}(h1:I b1=some (.cells #[.int .i64 (q:Nat),.int .i64 f] 104 (0,0)))(e:Em):Zu Tryz.prog 122 [.agg (Yo e).toArray,.pointer (some ⟨b1,0,none⟩)] I (.bool (zzH (q:Int) e)):=by
 intro g H w hw
 refine qe Tryz.func122 Tryz.ntmps122 hw ?_
 refine zR ?_
 refine Q9 rfl rfl rfl (fun b_2=>?_)
 refine zA ?_
 refine zN (zR ?_)
 refine zF Ys ?_
 refine zL Qr ?_
 refine zV (Zv rfl rfl V4 (fun hg=>by decide)) ?_
 refine zV (Qd rfl Qr (fun hg=>by exact QY.imm h1 rfl)) ?_
 refine zC ?_
 refine zM ?_
 refine QG 5 rfl rfl rfl ?_
 refine zK (Qi rfl XB) ?_
 refine zK (Qd rfl Qr (fun hg=>by exact QY.h0 rfl)) ?_
 refine zK (QI rfl rfl rfl) ?_
 refine QL rfl rfl rfl rfl rfl ?_
 refine zA (zN (Qs ?_))
 exact zr rfl rfl (by rfl)
theorem zvM {I:Qw}{t:Tx}{rows:List (List Int)}{es:List Em}{rd:List Int}{ps l:List Pt}{sg:List Sg}(hT:zhW I t rows es rd ps l sg)(q:Nat)(f:Int)(hqd:q<rd.length)(hqr:∀ r∈rows,q<r.length):Z4 Tryz.prog 72 [.agg (Ko t).toArray,.agg #[.int .i64 (q:Nat),.int .i64 f]] I [] (FrQ (or3 rows rd (q:Int) f)):=by
 intro g H w hw
 refine qe Tryz.func72 Tryz.ntmps72 hw ?_
 have hIc:=zAl I
 refine zR ?_
 refine Q9 rfl rfl rfl (fun b_2=>?_)
 refine Q9 rfl rfl rfl (fun b_3=>?_)
 refine Qv Xv rfl rfl (fun b_4=>?_)
 refine zA (zN (Qk (zR ?_)))
 refine Qp (ps:=[(0,_),(1,_),(2,_)]) (m:=[QP (2:Int),QP (3:Int),QP (9:Int)]) Za rfl (.cons rfl (.cons rfl (.cons rfl (.nil)))) rfl (by simp [Qu]) (by decide) (by decide) rfl rfl (fun b_7=>?_)
 refine zV (Zv rfl rfl V4 (fun hg=>by decide)) ?_
 refine zL Qr ?_
 refine UY (cap:=[]) (vs:=[_,_]) rfl rfl zcX QD (zlF.ofV fun I' hI' hL'=>Kc (Sl.lit (t:=3) [2,3,9] rfl Qu (hL' b_7 _ (.head _))) (by decide) _) rfl rfl ?_
 refine zO (zN ?_)
 refine zI ?_ ?_<;>intro hc11
 ·
  have hf:isT f=false:=by rw [←zj9];exact zrz hc11
  refine zR ?_
  refine zV (Qq rfl Vi (fun hg=>by exact Cells.g1) rfl) ?_
  refine zh V7 ?_
  refine zA (zN (Qs (Qb ?_)))
  first
  | exact Zp rfl rfl rfl Vi (vs:=[.int .i64 0,.int .i64 0,.slice none 0 0,.slice none 0 0]) (by repeat (first | exact zAj | apply zAi | apply zAk)) rfl (fun w hw=>⟨_,I,[],rfl,hIc,hw.drop,rfl,[.int .i64 0,.int .i64 0,.slice none 0 0,.slice none 0 0],by rw [zgo hf],none,0,0,none,0,0,by rw [zgo hf];rfl,by rw [zgo hf];exact .nil,by rw [zgo hf];exact .nil⟩)
 have hf:isT f=true:=by rw [←zj9];exact zjD hc11
 refine Qo (Qa (Qk ?_))
 refine Zn (b:=b_2) (by repeat (first | exact Zc.here | apply Zc.there)) (fun I1 hI1 hb1=>?_)
 have hT:=hT.mono hI1;have hIc:=hIc.trans hI1
 have h2:=hb1
 refine Zn (b:=b_3) (by repeat (first | exact Zc.here | apply Zc.there)) (fun I2 hI2 hb2=>?_)
 have hT:=hT.mono hI2;have hIc:=hIc.trans hI2
 have h2:=hI2 _ _ h2
 have h3:=hb2
 refine Qf ?_
 refine zF zcf ?_
 refine zV (Qd rfl KB (fun hg=>by exact .imm h2 rfl)) ?_
 refine zV (Zf (us:=[]) (vs:=[_,_]) rfl rfl) ?_
 refine qc (vs:=[_,_]) rfl zbK (zux (cap:=[.pointer (some ⟨b_3,0,none⟩),.pointer (some ⟨b_2,0,none⟩)]) hT.V hT.b2 zp5 (fun h r hr hQ=>zyw h3 h2 hQ hT.R (hqr r hr) hqd)) ?_
 refine zA (zN ?_)
 refine zY [(4,_)] (fun T L0 E I' loc'=>∃ (i:Int),E=(6,.int .i64 i)::T∧I2=I'∧L0=loc'∧i=zsy rows q (rd.getD q 0)) ?_ ?_
 ·
  refine zR (zM ?_)
  refine zC (zN ?_)
  refine zI ?_ ?_<;>intro hc18
  ·
   refine Qf ?_
   refine zF zcf ?_
   refine zV (Qd rfl KB (fun hg=>by exact .imm h2 rfl)) ?_
   refine zV (Zf (us:=[]) (vs:=[_]) rfl rfl) ?_
   refine qc (vs:=[_,_]) rfl zbK (zux (cap:=[.pointer (some ⟨b_3,0,none⟩)]) hT.V hT.b2 zsD (fun h r hr hQ=>zx7 h3 hQ (hqr r hr))) ?_
   refine zA (Qc ?_)
   exact zm (h:=⟨_,rfl,rfl,rfl,zyk hc18⟩)
  refine Qo ?_
  exact zm (h:=⟨_,rfl,rfl,rfl,zy3 hc18⟩)
 rintro E I' loc' ⟨i,rfl,rfl,rfl,hi⟩
 refine zR (zM ?_)
 refine Qp (ps:=[(0,_)]) (m:=[QP i]) Za rfl (.cons rfl (.nil)) rfl (by simp [Qu]) (by decide) (by decide) rfl rfl (fun b_24=>?_)
 refine zV (QQ (ps:=[(0,_),(2,_)]) [_,_,_,_] zaA rfl rfl) ?_
 refine zh V7 ?_
 refine zA (zN (Qs ?_))
 first
 | exact Zp rfl rfl rfl Vi (vs:=[.int .i64 1,.int .i64 0,.slice (some ⟨b_24,0,none⟩) 1 1,.slice none 0 0]) (by repeat (first | exact zAj | apply zAi | apply zAk)) rfl (fun w hw=>by obtain ⟨I9,h91,h92,h93⟩:=hw.freezeAll;exact ⟨_,I9,[],rfl,hIc.trans h91,h92,rfl,[.int .i64 1,.int .i64 0,.slice (some ⟨b_24,0,none⟩) 1 1,.slice none 0 0],by rw [zbx hf],_,_,_,none,0,0,by rw [zbx hf],by rw [zbx hf];exact Sl.lit (t:=3) [_] rfl Qu (by rw [←hi];exact h93 b_24 _ (by simp [QP])),by rw [zbx hf];exact .nil⟩)
theorem zxL {I:Qw}{t:Tx}{rows:List (List Int)}{es:List Em}{rd:List Int}{ps l:List Pt}{sg:List Sg}(hT:zhW I t rows es rd ps l sg)(q:Nat)(f:Int):Z4 Tryz.prog 73 [.agg (Ko t).toArray,.agg #[.int .i64 (q:Nat),.int .i64 f]] I [] (FrQ (or4 es (q:Int))):=by
 intro g H w hw
 refine qe Tryz.func73 Tryz.ntmps73 hw ?_
 have hIc:=zAl I
 refine zR ?_
 refine Q9 rfl rfl rfl (fun b_2=>?_)
 refine Q9 rfl rfl rfl (fun b_3=>?_)
 refine Qv Xv rfl rfl (fun b_4=>?_)
 refine zA (zN (Qk ?_))
 refine Zn (b:=b_2) (by repeat (first | exact Zc.here | apply Zc.there)) (fun I1 hI1 hb1=>?_)
 have hT:=hT.mono hI1;have hIc:=hIc.trans hI1
 have h2:=hb1
 refine Zn (b:=b_3) (by repeat (first | exact Zc.here | apply Zc.there)) (fun I2 hI2 hb2=>?_)
 have hT:=hT.mono hI2;have hIc:=hIc.trans hI2
 have h2:=hI2 _ _ h2
 have h3:=hb2
 refine Qf ?_
 refine zF zbu ?_
 refine zF XE ?_
 refine zV (Qd rfl zfM (fun hg=>by exact .imm h2 rfl)) ?_
 refine zV (Zf (us:=[]) (vs:=[_]) rfl rfl) ?_
 refine qc (vs:=[_,_]) rfl zsB (zyx (cap:=[.pointer (some ⟨b_3,0,none⟩)]) hT.E hT.b3 zts (fun e he=>zyv h3 e)) ?_
 refine zA ?_
 refine zN (zR ?_)
 refine zV (QQ (ps:=[(0,_),(1,_)]) [_,_,_,_] zaA rfl rfl) ?_
 refine zM ?_
 refine zh V7 ?_
 refine zA (zN (Qs ?_))
 exact Zp rfl rfl rfl Vi (vs:=[.int .i64 2,.int .i64 2,.slice none 0 0,.slice none 0 0]) (by repeat (first | exact zAj | apply zAi | apply zAk)) rfl (fun w hw=>⟨_,I2,[],rfl,hIc,hw.drop,rfl,[.int .i64 2,.int .i64 2,.slice none 0 0,.slice none 0 0],rfl,none,0,0,none,0,0,rfl,.nil,.nil⟩)
theorem zsE {I:Qw}{t:Tx}{rows:List (List Int)}{es:List Em}{rd:List Int}{ps l:List Pt}{sg:List Sg}(hT:zhW I t rows es rd ps l sg)(q:Nat)(f:Int)(hqd:q<rd.length)(hqr:∀ r∈rows,q<r.length):Z4 Tryz.prog 74 [.agg (Ko t).toArray,.agg #[.int .i64 (q:Nat),.int .i64 f]] I [] (FrQ (or5 rows rd (q:Int))):=by
 intro g H w hw
 refine qe Tryz.func74 Tryz.ntmps74 hw ?_
 have hIc:=zAl I
 have hRl:=hT.R.len
 refine zR ?_
 refine Q9 rfl rfl rfl (fun b_2=>?_)
 refine Q9 rfl rfl rfl (fun b_3=>?_)
 refine Qv Xv rfl rfl (fun b_4=>?_)
 refine zA (zN (Qk ?_))
 have hD:=zAl I
 refine JH ?_
 refine Z7 I [(b_3,.cells #[.int .i64 (q:Nat),.int .i64 f] 104 (0,0)),(b_2,.cells (Ko t).toArray 98 (0,0))] mixed ?_
 refine zT 0 rfl (Qi rfl zcf) hD ?_
 refine zT 1 rfl (Qd rfl KB (fun hg=>by exact QY.h1 rfl)) hD ?_
 refine zT 2 rfl (Zv rfl rfl V4 (fun hg=>by decide)) hD ?_
 refine zT 3 rfl (Qd rfl Qr (fun hg=>by exact QY.h0 rfl)) hD ?_
 refine zT 4 rfl (Qi rfl zbu) hD ?_
 refine zT 5 rfl (Qi rfl Yg) hD ?_
 refine zT 6 rfl (Qd rfl QJ (fun hg=>by exact QY.h1 rfl)) hD ?_
 refine zT 7 rfl (Zv rfl rfl V4 (fun hg=>by decide)) hD ?_
 refine zT 8 rfl (Qd rfl Qr (fun hg=>by exact QY.h0 rfl)) hD ?_
 refine zT 9 rfl (Qz rfl rfl Qt hT.R (fun hg=>by omega)) hD ?_
 refine zT 10 rfl (Qd rfl Qr (fun hg=>by exact zAe (k:=q) hT.R (QX (d:=0) rfl (by omega)) rfl)) hD ?_
 refine qd 11 rfl ?_
 refine QA (cap:=[]) (vs:=[_,_,_]) rfl rfl zsH .nil (zyG hT.V hT.b2 q hqr _) rfl rfl ?_
 rintro vv1 I1 L1 hI1 ⟨rfl,a9,c9,rfl,hH⟩
 have hIc:=hIc.trans hI1;have hD:=hD.trans hI1
 refine Qc ?_
 refine zD hD ?_
 refine zT 12 rfl (QQ (ps:=[(0,_),(2,_)]) [_,_,_,_] zaA rfl rfl) hD ?_
 refine qd 13 rfl ?_
 refine zh V7 ?_
 refine Qc ?_
 refine zD hD ?_
 refine zT 14 rfl (ZM rfl) hD ?_
 refine QK (by kernel_rfl) ?_
 refine QW ?_
 refine Qa (Qs ?_)
 exact Zp rfl rfl rfl Vi (vs:=[.int .i64 1,.int .i64 0,.slice a9 _ c9,.slice none 0 0]) (by repeat (first | exact zAj | apply zAi | apply zAk)) rfl (fun w hw=>⟨_,I1,[],rfl,hIc,hw.drop,rfl,[.int .i64 1,.int .i64 0,.slice a9 _ c9,.slice none 0 0],rfl,_,_,_,none,0,0,rfl,hH,.nil⟩)
theorem zvH {I:Qw}{t:Tx}{rows:List (List Int)}{es:List Em}{rd:List Int}{ps l:List Pt}{sg:List Sg}(hT:zhW I t rows es rd ps l sg)(s f:Int)(hrg:(or2 l s).2=false→∃ q:Nat,s=q∧q<rd.length∧∀ r∈rows,q<r.length){k:Nat}(hk:k<5)(hall:∀ j,j<k→(orK (onF ps) rows es rd l s f j).2=false):Z4 Tryz.prog (70+k) [.agg (Ko t).toArray,.agg #[.int .i64 s,.int .i64 f]] I [] (FrQ (orK (onF ps) rows es rd l s f k)):=by
 match k,hk with
 | 0,_=>exact zut hT s f
 | 1,_=>exact zqF hT s f
 | 2,_=>obtain ⟨q,rfl,h1,h2⟩:=hrg (hall 1 (by decide));exact zvM hT q f h1 h2
 | 3,_=>obtain ⟨q,rfl,h1,h2⟩:=hrg (hall 1 (by decide));exact zxL hT q f
 | 4,_=>obtain ⟨q,rfl,h1,h2⟩:=hrg (hall 1 (by decide));exact zsE hT q f h1 h2
theorem zwC {k:Nat}(hk:k<5):Fun Tryz.prog (70+k):=by
 match k,hk with
 | 0,_=>exact zwQ
 | 1,_=>exact zvT
 | 2,_=>exact zuJ
 | 3,_=>exact zwt
 | 4,_=>exact zvp
theorem zxu {I:Qw}{t:Tx}{rows:List (List Int)}{es:List Em}{rd:List Int}{ps l:List Pt}{sg:List Sg}(hT:zhW I t rows es rd ps l sg)(s f:Int)(hrg:(or2 l s).2=false→∃ q:Nat,s=q∧q<rd.length∧∀ r∈rows,q<r.length):Z4 Tryz.prog 39 [.agg (Ko t).toArray,.agg #[.int .i64 s,.int .i64 f]] I [] (OgQ (zlM (onF ps) rows es rd l s f)):=by
 intro g H w hw
 refine qe Tryz.func39 Tryz.ntmps39 hw ?_
 have hIc:=zAl I
 refine zR ?_
 refine Q9 rfl rfl rfl (fun b_2=>?_)
 refine Q9 rfl rfl rfl (fun b_3=>?_)
 refine Qv Xv rfl rfl (fun b_4=>?_)
 refine zN (Qk (zR ?_))
 refine zV (Qq rfl JC (fun hg=>by exact Cells.g2) rfl) ?_
 refine zV (Zf (us:=[_]) (vs:=[]) rfl rfl) ?_
 refine zV (Qq rfl JC (fun hg=>by exact Cells.g2) rfl) ?_
 refine zV (Zf (us:=[_]) (vs:=[]) rfl rfl) ?_
 refine zV (Qq rfl JC (fun hg=>by exact Cells.g2) rfl) ?_
 refine zV (Zf (us:=[_]) (vs:=[]) rfl rfl) ?_
 refine zV (Qq rfl JC (fun hg=>by exact Cells.g2) rfl) ?_
 refine zV (Zf (us:=[_]) (vs:=[]) rfl rfl) ?_
 refine zV (Qq rfl JC (fun hg=>by exact Cells.g2) rfl) ?_
 refine zV (Zf (us:=[_]) (vs:=[]) rfl rfl) ?_
 refine Qp (ps:=[(0,_),(1,_),(2,_),(3,_),(4,_)]) (m:=[zeH 70 t 0,zeH 70 t 1,zeH 70 t 2,zeH 70 t 3,zeH 70 t 4]) zqU rfl (.cons rfl (.cons rfl (.cons rfl (.cons rfl (.cons rfl (.nil)))))) rfl (by simp [zeH]) (by decide) (by decide) rfl rfl (fun b_19=>?_)
 refine zQ zks ?_
 refine zM (Qc ?_)
 refine Zn (b:=b_19) (by repeat (first | exact Zc.here | apply Zc.there)) (fun I1 hI1 hb1=>?_)
 have hT:=hT.mono hI1;have hIc:=hIc.trans hI1
 have h9:=hb1
 have hFn:=Sl.lit (enc:=zeH 70 t) (size:=1) (t:=145) [0,1,2,3,4] rfl (fun _=>rfl) h9
 refine Qa (Ql ?_)
 refine zU [(3,_),(4,_),(19,_),(20,_)] (fun T L0 mz E I' loc'=>∃ (k:Nat),mz=5-k∧E=(21,.int .i64 k)::T∧HLe I1 I'∧L0=loc'∧k≤5∧∀ j,j<k→(orK (onF ps) rows es rd l s f j).2=false) ?_ (h:=⟨0,rfl,rfl,zAl _,rfl,Nat.zero_le _,fun j h=>absurd h (by omega)⟩)
 rintro mz E J2 loc' ⟨k,rfl,rfl,hJ,rfl,hk,hall⟩
 have hT:=hT.mono hJ;have hFn:=hFn.mono hJ;have hIc:=hIc.trans hJ
 have hB0:=hJ
 refine zR (zC (zN (Qk ?_)))
 refine zI ?_ ?_<;>intro hc22
 ·
  have hlt_k:k<5:=by have h:=hc22;simp at h;omega
  have hj:([0,1,2,3,4]:List Nat)[k]? =some k:=zzY hlt_k
  refine Qo (Qa (Qk (Ql (zR ?_))))
  refine zV (zX zks hFn (hb:=fun hg=>by simp only [List.length_cons,List.length_nil];omega)) ?_
  refine zV (Qd rfl zrb (fun hg=>by exact zAe hFn hj rfl)) ?_
  refine zA ?_
  refine zN (zR ?_)
  refine zM ?_
  refine zV (Qq rfl zer (fun hg=>by exact Cells.g1) rfl) ?_
  refine zjk (pre:=[_]) (cap:=[]) (vs:=[_]) rfl rfl (zwC hlt_k) .nil (zvH hT s f hrg hlt_k hall) rfl rfl ?_
  rintro vv3 I3 L3 hI3 ⟨rfl,_,rfl,a1,n1,c1,a2,n2,c2,rfl,hw1,hw2⟩
  have hIc:=hIc.trans hI3;have hB0:=hB0.trans hI3
  refine zM ?_
  refine zE ?_
  refine zE ?_
  refine Qv Xv rfl rfl (fun b_7=>?_)
  refine zh V7 ?_
  refine zA ?_
  refine zN (zR ?_)
  refine zM (zN ?_)
  refine zI ?_ ?_<;>intro hc31
  ·
   refine zR ?_
   refine zV (Qq rfl Vi (fun hg=>by exact Cells.g0) rfl) ?_
   refine zh V7 ?_
   refine zN (Qs (Qm (Qb (Qb (Qm (Qb ?_))))))
   exact KG rfl rfl Vi (vs:=[.int .i64 _,.int .i64 _,.slice a1 n1 c1,.slice a2 n2 c2]) (by repeat (first | exact zAj | apply zAi | apply zAk)) rfl (fun w hw=>⟨_,I3,[],rfl,hIc,hw.drop,rfl,_,_,_,_,_,_,by rw [←zlA hlt_k hall hc31],by rw [←zlA hlt_k hall hc31];exact hw1,by rw [←zlA hlt_k hall hc31];exact hw2⟩)
  refine Qo (Qg (Qa (Qf (zB ?_))))
  refine zM (Qc ?_)
  exact zm (h:=⟨5-(k+1),by omega,k+1,rfl,rfl,hB0,rfl,by omega,fun j hj=>by rcases Nat.lt_succ_iff_lt_or_eq.1 hj with h | h;exact hall j h;rw [h];exact hc31⟩)
 exact absurd (hall 4 (by have h:=hc22;simp at h;omega)) (by simp [orK,or5])
end
section
open Go Go.Kn Go.Proofs
def zd3 (e1:Int)(ps:List Pt)(bs:List Sg)(vs:List Int):Int:=if e1≠0 then e1 else zga ps bs vs
theorem zo7 {e1:Int}{ps:List Pt}{bs:List Sg}{vs:List Int}(h:e1≠0):zd3 e1 ps bs vs=e1:=if_pos h
theorem zjy {e1:Int}{ps:List Pt}{bs:List Sg}{vs:List Int}(h:e1=0):zd3 e1 ps bs vs=zga ps bs vs:=if_neg (by omega)
theorem zit {ps:List Pt}{bs:List Sg}{vs:List Int}(h:zga ps bs vs=0):Sto ps∧ps.length≤512∧(∀ p∈ps,p.needs.length≤32)∧WM bs=0∧vs.length≤512∧Ver ps vs∧zhP bs (YZ ps vs)=true∧zf4 ps bs vs=zdp (onF ps) bs (YZ ps vs)∧(zdp (onF ps) bs (YZ ps vs)).length≤4096:=by
 have hs:=h
 unfold zga at h
 split at h
 ·
  exact absurd h (by assumption)
 ·
  split at h
  ·
   cases h
  ·
   rename_i hp hl
   have hp:X0 ps bs vs=0:=by simpa using hp
   unfold X0 at hp
   split at hp
   ·
    exact absurd hp (by assumption)
   ·
    rename_i hc
    have hc:Uc ps=0:=by simpa using hc
    split at hp
    ·
     exact absurd hp (by assumption)
    ·
     rename_i hg
     split at hp
     ·
      cases hp
     ·
      rename_i hv
      split at hp
      ·
       rename_i hb
       rw [Bool.and_eq_true] at hb
       have hk:=UH hc
       refine ⟨zbV hc,hk.1,fun p hm=>?_,by simpa using hg,by omega,(zg4 (zcB hc)).1 hb.1,hb.2,?_,by omega⟩
       ·
        have h0:Km p=0:=Ku.1 hk.2.1 _ (List.mem_map.2 ⟨p,hm,rfl⟩)
        unfold Km at h0
        split at h0
        ·
         cases h0
        ·
         omega
       ·
        unfold zf4 zmv;rw [if_neg (by rw [hs];simp)]
      ·
       cases hp
def OpQ (e:Int)(rows:List (List Int))(es:List Em)(rd:List Int)(ps l:List Pt)(s:List Sg)(v:Value)(I:Qw)(L:Go.Kn.Loc):Prop:=
 L=[]∧∃ vs,v= .tuple #[.agg vs.toArray,.int .i64 e]∧vs.length=8∧YD vs=true∧(e=0→∃ t,vs=Ko t∧zhW I t rows es rd ps l s)
theorem zgb {α β:Type}[DecidableEq α]{m:List (α×β)}{a:α}{b:β}:ZH (YE m a b) a=some b:=by rw [YI,if_pos rfl]
theorem zmX {α β:Type}[DecidableEq α]{m:List (α×β)}{a a':α}{b:β}(h:a≠a'):ZH (YE m a b) a'=ZH m a':=by rw [YI,if_neg h]
theorem zfR {ws:List Wr}{rows:List (List Int)}{rd:List Int}:∀ {k:Nat} {l:List Sg},W0 ws rows rd k=some l→l.length≤k
 | 0,l,h=>by cases h;exact Nat.le_refl _
 | k+1,l,h=>by
  unfold W0 at h
  cases h1:W0 ws rows rd k with
  | none=>rw [h1] at h;cases h
  | some l1=>
   rw [h1] at h
   have h2:=zfR h1
   dsimp only at h
   split at h
   ·
    cases h
   ·
    cases h;omega
   ·
    cases h;rw [List.length_append,List.length_singleton];omega
theorem zmx {ws:List Wr}{rows:List (List Int)}{no:Int}{cl:List Int}{es:List Em}{rd:List Int}:(Jw ws rows no cl es rd).length≤rd.length:=by
 by_cases h:KT ws rows no cl es rd=0
 ·
  unfold Jw
  rw [if_neg (by omega)]
  cases h1:W0 ws rows rd rd.length with
  | none=>exact Nat.zero_le _
  | some l=>exact zfR h1
 ·
  rw [zj0 h];exact Nat.zero_le _
theorem zh9 {vs:List Int}{a:Int}:vs.any (fun y=>a==y)=vs.any (· ==a):=by congr 1;funext y;rw [Bool.eq_iff_iff,beq_iff_eq,beq_iff_eq];exact eq_comm
theorem zsO {ps:List Pt}(hL:Lst ps){k:Nat}{p:Pt}(hp:ps[k]? =some p){n:Int}(hn:n∈p.needs):p.id≠n:=by
 have h1:=hL.on_lt (hL.on_need (List.mem_of_getElem? hp) hn)
 omega
end
section
open Go Go.Kn Go.Proofs
theorem zcz:Q3 Tryz.prog 98 4 7:=.of (by kernel_rfl)
theorem zvu:Fun Tryz.prog 44:=.of Tryz.func44 (by kernel_rfl) (by kernel_rfl)
theorem zt6:Fun Tryz.prog 45:=.of Tryz.func45 (by kernel_rfl) (by kernel_rfl)
theorem zw1:Fun Tryz.prog 68:=.of Tryz.func68 (by kernel_rfl) (by kernel_rfl)
theorem zxb:PlT Tryz.prog 98 #[(0,1),(1,4),(5,1),(6,1),(7,1)] (.agg #[(.slice none 0 0),(.int .i64 0),(.slice none 0 0),(.slice none 0 0),(.slice none 0 0),(.map none),(.slice none 0 0),(.slice none 0 0)]):=⟨.of (by kernel_rfl),by kernel_rfl,fun w=>by kernel_rfl⟩
theorem zbb:SzT Tryz.prog 98 8:=.of (by kernel_rfl)
theorem zsz:Yz Tryz.prog 98 (.agg #[(.slice none 0 0),(.int .i64 0),(.slice none 0 0),(.slice none 0 0),(.slice none 0 0),(.map none),(.slice none 0 0),(.slice none 0 0)]):=.of (by kernel_rfl)
theorem ztG {I:Qw}{ref r:Nat}{sn s0:List (Int×Bool)}{A B:Int→Bool}(hsn:I ref=some (Z0 (Value.int .i64) Value.bool sn))(hsq:zai sn A)(hs0:zai s0 B):Z4 Tryz.prog 68 [.map (some r),.map (some ref)] I [(r,Z0 (Value.int .i64) Value.bool s0)] (fun v I' L=>v= .tuple #[]∧I'=I∧∃ s,L=[(r,Z0 (Value.int .i64) Value.bool s)]∧zai s (fun x=>A x||B x)):=by
 intro g H w hw
 refine qe Tryz.func68 Tryz.ntmps68 hw ?_
 refine zR (zM ?_)
 refine JY (ek:=Value.int .i64) (ev:=Value.bool) (m:=sn) rfl zgl rfl rfl (.inl hsn) (fun b_7=>?_)
 refine zN (Ql ?_)
 refine zU [(0,_),(7,_)] (fun T L0 mz E I' loc'=>∃ (seen:List Nat) (s:List (Int×Bool)),mz=sn.length-seen.length∧E=T∧I=I'∧[(b_7,YV ref sn.length seen),(r,Z0 (Value.int .i64) Value.bool s)]=loc'∧zai s (fun x=>zoc sn seen x||B x)∧seen.Nodup∧∀ i∈seen,i<sn.length) ?_ (h:=⟨[],_,rfl,rfl,rfl,rfl,hs0.congr (fun x=>by rw [zbs,Bool.false_or]),.nil,fun i h=>by cases h⟩)
 rintro mz E I' loc' ⟨seen,s,rfl,rfl,rfl,rfl,hs,hnd2,hlt⟩
 have hsl:=JF hnd2 hlt
 refine zR ?_
 refine JS (ek:=Value.int .i64) (ev:=Value.bool) (m:=sn) (fun s'=>[(b_7,YV ref sn.length s'),(r,Z0 (Value.int .i64) Value.bool s)]) rfl (fun s'=>.here) rfl rfl rfl rfl rfl (.inl hsn) (by simp) ?_
 intro t tv s' hno hyes
 refine zN (Qk ?_)
 refine zI ?_ ?_<;>intro hc9
 ·
  obtain ⟨i,q,hq,hns,rfl⟩:=hyes hc9
  refine Qo (Qa (Ql (zR ?_)))
  refine zV (JW (ek:=Value.int .i64) (ev:=Value.bool) (m:=sn) (p:=q) (seen:=seen) (i:=i) rfl (.inl hsn) (.inr (by simp)) hq) ?_
  refine zE ?_
  refine zE ?_
  refine zA ?_
  refine zA (zN (Qf ?_))
  refine zM ?_
  refine zM ?_
  refine zM ?_
  refine Zd (m:=s) (ek:=Value.int .i64) (ev:=Value.bool) (a:=q.1) q.2 zgl ZQ rfl rfl rfl rfl (by repeat (first | exact Upd.here | apply Upd.there | apply QM)) ?_
  refine Qc (Qg ?_)
  have hnd3:(seen++[i]).Nodup:=List.nodup_append.2 ⟨hnd2,by simp,fun a ha b hb e=>hns (by simp at hb;subst hb;subst e;exact ha)⟩
  have hlt3:∀ j∈seen++[i],j<sn.length:=fun j hj=>(List.mem_append.1 hj).elim (hlt j) (fun h=>by simp at h;subst h;exact (List.getElem?_eq_some_iff.1 hq).1)
  have hsl2:=JF hnd3 hlt3
  rw [List.length_append,List.length_singleton] at hsl2
  exact zm (h:=⟨sn.length-(seen++[i]).length,by rw [List.length_append,List.length_singleton];omega,seen++[i],YE s q.1 q.2,rfl,rfl,rfl,rfl,by rw [hsq.all q (List.mem_of_getElem? hq)];exact (hs.put q.1).congr (fun x=>by rw [XY hq,Bool.or_assoc]),hnd3,hlt3⟩)
 obtain ⟨rfl,hall⟩:=hno hc9
 refine QH (Qe (Qe (Qj ?_)))
 exact VM (YY rfl (fun w hw=>⟨_,I,_,rfl,zAl _,hw.subL (.drop .refl),rfl,rfl,s,rfl,hs.congr (fun x=>by rw [zb0 hsq hall x])⟩))
theorem zoP {I:Qw}{av:Option Addr}{n c:Nat}{ws:List Wr}(hW0:SlW I av n c ws)(hn:n≤100000){bv:Option Addr}{n2 c2:Nat}{rows:List (List Int)}(hVn:SlN I bv n2 c2 rows)(hn2:n2≤100000){ea1:Option Addr}{en1 ec1:Nat}{ea2:Option Addr}{en2 ec2:Nat}{ea3:Option Addr}{en3 ec3:Nat}{xs:List Int}{es:List Em}{rd:List Int}(hX1:Sl I 1 QP ea1 en1 ec1 xs)(hX2:Sl I 3 Yo ea2 en2 ec2 es)(hX3:Sl I 1 QP ea3 en3 ec3 rd)(hm1:en1≤100000)(hm2:en2≤100000)(hm3:en3≤100000)(no:Int){pv:Option Addr}{pn pc:Nat}{ps:List Pt}(hP:SlP I pv pn pc ps)(hpn:pn≤100000){dv:Option Addr}{n3 c3:Nat}{vs:List Int}(hVs:Sl I 1 QP dv n3 c3 vs)(hn3:n3≤100000)(hDb:V5 I):Z4 Tryz.prog 36 [.slice av n c,.slice bv n2 c2,.agg (ZT no ea1 en1 ec1 ea2 en2 ec2 ea3 en3 ec3).toArray,.slice pv pn pc,.slice dv n3 c3] I [] (OpQ (zd3 (KT ws rows no xs es rd) ps (Jw ws rows no xs es rd) vs) rows es rd ps (YZ ps vs) (zdp (onF ps) (Jw ws rows no xs es rd) (YZ ps vs))):=by
 intro g H w hw
 refine qe Tryz.func36 Tryz.ntmps36 hw ?_
 have hIc:=zAl I
 have hX3l:=hX3.len
 refine zR ?_
 refine Q9 rfl rfl rfl (fun b_7=>?_)
 refine Qv zsz rfl rfl (fun b_10=>?_)
 refine zA ?_
 refine zN (zR ?_)
 refine zM ?_
 refine zM ?_
 refine zV (Qq rfl ZW (fun hg=>by exact Cells.g1) rfl) ?_
 refine QA (cap:=[]) (vs:=[_,_,_]) rfl rfl zvu .nil (Go.Proofs.YtodakphagkommaaGreatDoor.w_Signs hW0 hn hVn hn2 hX1 hX2 hX3 hm1 hm2 hm3 no hDb (fun e=>e ▸ zoE)) rfl rfl ?_
 rintro vv1 I1 L1 hI1 ⟨rfl,as9,cs9,rfl,hSg⟩
 have hVn:=hVn.mono hI1;have hX2:=hX2.mono hI1;have hX3:=hX3.mono hI1;have hP:=hP.mono hI1;have hVs:=hVs.mono hI1;have hIc:=hIc.trans hI1
 have hSg:Sl I1 14 Vy as9 (Jw ws rows no xs es rd).length cs9 (Jw ws rows no xs es rd):=hSg
 refine zM ?_
 refine zE ?_
 refine zE ?_
 refine zA ?_
 refine zA (zN (Qk (zR ?_)))
 refine zM ?_
 refine zC (zN ?_)
 refine zI ?_ ?_<;>intro hc25
 ·
  have he1:(KT ws rows no xs es rd)≠0:=by simpa using hc25
  refine zR ?_
  refine zV (Qq rfl JC (fun hg=>by exact Cells.g0) rfl) ?_
  refine zM ?_
  refine zh zbb ?_
  refine zA (zN (Qs (Qb ?_)))
  first
  | exact Zp rfl rfl rfl JC (vs:=[.slice none 0 0,.int .i64 0,.slice none 0 0,.slice none 0 0,.slice none 0 0,.map none,.slice none 0 0,.slice none 0 0]) (by repeat (first | exact zAj | apply zAi | apply zAk)) rfl (fun w hw=>⟨_,I1,[],rfl,hIc,hw.drop,rfl,[.slice none 0 0,.int .i64 0,.slice none 0 0,.slice none 0 0,.slice none 0 0,.map none,.slice none 0 0,.slice none 0 0],by rw [zo7 he1]<;>rfl,rfl,rfl,fun h=>absurd (zo7 he1 ▸ h) he1⟩)
 have he1:(KT ws rows no xs es rd)=0:=by simpa using hc25
 refine Qo (Qa (zR (zM ?_)))
 refine zV (Qq rfl ZW (fun hg=>by exact Cells.g1) rfl) ?_
 refine ZU rfl rfl (fun r_30=>?_)
 refine zV (QQ (ps:=[(0,_),(1,_),(2,_)]) [_,_,_,_,_,_,_,_] zxb rfl rfl) ?_
 refine zh zbb ?_
 refine zN (Qk (zR (zM ?_)))
 refine zM ?_
 refine zM ?_
 refine QA (cap:=[]) (vs:=[_,_,_]) rfl rfl zt6 .nil (w_Signs hP hpn hSg (by have:=zmx (ws:=ws) (rows:=rows) (no:=no) (cl:=xs) (es:=es) (rd:=rd);omega) hVs hn3) rfl rfl ?_
 rintro vv2 I2 L2 hI2 ⟨rfl,as8,cs8,rfl,hSs⟩
 have hVn:=hVn.mono hI2;have hX2:=hX2.mono hI2;have hX3:=hX3.mono hI2;have hP:=hP.mono hI2;have hVs:=hVs.mono hI2;have hIc:=hIc.trans hI2
 have hSs:Sl I2 14 Vy as8 (zf4 ps (Jw ws rows no xs es rd) vs).length cs8 (zf4 ps (Jw ws rows no xs es rd) vs):=hSs
 refine zM ?_
 refine zE ?_
 refine zE ?_
 refine zF zcz ?_
 refine zS zoY ?_
 refine zA ?_
 refine zN (zR ?_)
 refine zM ?_
 refine zC (zN ?_)
 refine zI ?_ ?_<;>intro hc41
 ·
  have he2:zga ps (Jw ws rows no xs es rd) vs≠0:=by simpa using hc41
  have he3:(zd3 (KT ws rows no xs es rd) ps (Jw ws rows no xs es rd) vs)≠0:=by rw [zjy he1];exact he2
  refine zR ?_
  refine zV (Qq rfl JC (fun hg=>by exact Cells.g1) rfl) ?_
  refine zM ?_
  refine zh zbb ?_
  refine zA (zN (Qs (Qb ?_)))
  first
  | exact Zp rfl rfl rfl JC (vs:=[.slice bv n2 c2,.int .i64 no,.slice ea1 en1 ec1,.slice ea2 en2 ec2,.slice ea3 en3 ec3,.map (some r_30),.slice none 0 0,.slice as8 (zf4 ps (Jw ws rows no xs es rd) vs).length cs8]) (by repeat (first | exact zAj | apply zAi | apply zAk)) rfl (fun w hw=>⟨_,I2,[],rfl,hIc,hw.drop,rfl,[.slice bv n2 c2,.int .i64 no,.slice ea1 en1 ec1,.slice ea2 en2 ec2,.slice ea3 en3 ec3,.map (some r_30),.slice none 0 0,.slice as8 (zf4 ps (Jw ws rows no xs es rd) vs).length cs8],by rw [zjy he1]<;>rfl,rfl,rfl,fun h=>absurd h he3⟩)
 have he2:zga ps (Jw ws rows no xs es rd) vs=0:=by simpa using hc41
 obtain ⟨hsto,hpl,hnd,hbg,hvl,hver,hfit,hsf,hsl⟩:=zit he2
 have hL:=hsto.lst
 refine Qo (Qa (Qk (zR (zM ?_))))
 refine zQ ZJ ?_
 refine zM (zN (Ql ?_))
 refine zU [(4,_),(10,_),(44,_),(45,_)] (fun T L0 mz E I' loc'=>∃ (k:Nat) (m:List (Int×Nat)) (v:Value) (q:Nat) (L:Go.Kn.Loc),mz=pn-k∧E=(46,.int .i64 k)::T∧HLe I2 I'∧L++[(r_30,Z0 (Value.int .i64) zcK m),(b_10,.cells #[.slice bv n2 c2,.int .i64 no,.slice ea1 en1 ec1,.slice ea2 en2 ec2,.slice ea3 en3 ec3,.map (some r_30),v,.slice as8 (zf4 ps (Jw ws rows no xs es rd) vs).length cs8] 98 (0,0)),(b_7,.cells (ZT no ea1 en1 ec1 ea2 en2 ec2 ea3 en3 ec3).toArray 26 (0,0))]=loc'∧k≤pn∧OnL I' m (ps.take k)∧OwnS 57 19 v q (((ps.take k).filter (fun p=>vs.any (· ==p.id))).flatMap YK) L∧q≤k) ?_ (h:=⟨0,[],_,0,[],rfl,rfl,zAl _,rfl,Nat.zero_le _,OnL.nil,OwnS.nil,Nat.le_refl _⟩)
 rintro mz E J3 loc' ⟨k,m,v,q,L,rfl,rfl,hJ,rfl,hk,hm,hO,hq⟩
 have hVn:=hVn.mono hJ;have hX2:=hX2.mono hJ;have hX3:=hX3.mono hJ;have hP:=hP.mono hJ;have hVs:=hVs.mono hJ;have hSs:=hSs.mono hJ;have hIc:=hIc.trans hJ
 have hB0:=hJ
 obtain ⟨va6,vc6,rfl⟩:=zaS hO
 refine zR (zC (zN (Qk ?_)))
 refine zI ?_ ?_<;>intro hc47
 ·
  have hlt_k:k<pn:=by have h:=hc47;simp at h;omega
  obtain ⟨p,hp,hN⟩:=hP.at hlt_k
  have hpm:=List.mem_of_getElem? hp
  have hN:Sl J3 1 QP p.a p.n p.c p.needs:=hN
  have hpn2:=hnd p hpm
  have hNl:=hN.len
  refine Qo (Qa (Qk (Ql (zR ?_))))
  refine zV (Qz rfl rfl ZJ hP.1 (fun hg=>by omega)) ?_
  refine zV (Qq rfl YL (fun hg=>by exact zAm hP.1 hp) rfl) ?_
  refine Qv UD rfl rfl (fun b_14=>?_)
  refine zh JD ?_
  refine zN (zR ?_)
  refine zF WF ?_
  refine zV (Qd rfl zc2 (fun hg=>by (repeat (first | exact zAg rfl | apply zAf | apply zAh)))) ?_
  refine zF ZF ?_
  refine zL Qr ?_
  refine ZU rfl rfl (fun r_54=>?_)
  refine Zd (m:=m) (ek:=Value.int .i64) (ev:=zcK) (a:=p.id) r_54 zdu ZQ rfl rfl rfl rfl (by (repeat (first | exact Upd.here | apply Upd.there | apply QM))) ?_
  refine zN (Qk (zR ?_))
  refine zF K9 ?_
  refine zL QJ ?_
  refine zQ Qt ?_
  refine zM (zN (Ql ?_))
  refine zU [(4,_),(10,_),(14,_),(44,_),(45,_),(46,_),(56,_),(57,_)] (fun T L0 mz E I' loc'=>∃ (j:Nat) (s:List (Int×Bool)),mz=p.n-j∧E=(58,.int .i64 j)::T∧J3=I'∧(r_54,Z0 (Value.int .i64) Value.bool s)::(b_14,.cells (YK p).toArray 57 (0,0))::(L++[(r_30,Z0 (Value.int .i64) zcK (YE m p.id r_54)),(b_10,.cells #[.slice bv n2 c2,.int .i64 no,.slice ea1 en1 ec1,.slice ea2 en2 ec2,.slice ea3 en3 ec3,.map (some r_30),.slice va6 q vc6,.slice as8 (zf4 ps (Jw ws rows no xs es rd) vs).length cs8] 98 (0,0)),(b_7,.cells (ZT no ea1 en1 ec1 ea2 en2 ec2 ea3 en3 ec3).toArray 26 (0,0))])=loc'∧j≤p.n∧zai s (fun x=>(p.needs.take j).any fun n=>n==x||onF (ps.take k) n x)) ?_ (h:=⟨0,[],rfl,rfl,rfl,rfl,Nat.zero_le _,zai.nil⟩)
  rintro mz E I' loc' ⟨j,s,rfl,rfl,rfl,rfl,hj,hs⟩
  refine zR (zC (zN (Qk ?_)))
  refine zI ?_ ?_<;>intro hc59
  ·
   have hlt_j:j<p.n:=by have h:=hc59;simp at h;omega
   obtain ⟨y,hy⟩:=hN.at hlt_j
   obtain ⟨ref,hget,sn,hsn,hsq⟩:=hm.get (hL.before hp (List.mem_of_getElem? hy))
   have hpy:p.id≠y:=zsO hL hp (List.mem_of_getElem? hy)
   refine Qo (Qa (Qk (Ql (zR ?_))))
   refine zV (zX Qt hN) ?_
   refine zV (Qd rfl Qr (fun hg=>by exact zAe hN hy rfl)) ?_
   refine zA ?_
   refine zN (zR ?_)
   refine zF WF ?_
   refine zV (Qd rfl zc2 (fun hg=>by (repeat (first | exact zAg rfl | apply zAf | apply zAh)))) ?_
   refine zF ZF ?_
   refine zL Qr ?_
   refine zV (YO (m:=(YE m p.id r_54)) (ek:=Value.int .i64) (ev:=zcK) (a:=p.id) zgb zdu ZQ rfl rfl (fun _=>.inr (by simp))) ?_
   refine zM ?_
   refine Zd (m:=s) (ek:=Value.int .i64) (ev:=Value.bool) (a:=y) true zgl ZQ rfl rfl rfl rfl (by repeat (first | exact Upd.here | apply Upd.there | apply QM)) ?_
   refine zN (Qf ?_)
   refine zF WF ?_
   refine zV (Qd rfl zc2 (fun hg=>by (repeat (first | exact zAg rfl | apply zAf | apply zAh)))) ?_
   refine zF ZF ?_
   refine zL Qr ?_
   refine zV (YO (m:=(YE m p.id r_54)) (ek:=Value.int .i64) (ev:=zcK) (a:=p.id) zgb zdu ZQ rfl rfl (fun _=>.inr (by simp))) ?_
   refine zF WF ?_
   refine zV (Qd rfl zc2 (fun hg=>by (repeat (first | exact zAg rfl | apply zAf | apply zAh)))) ?_
   refine zM ?_
   refine zV (YO (m:=(YE m p.id r_54)) (ek:=Value.int .i64) (ev:=zcK) (a:=y) ((zmX hpy).trans hget) zdu ZQ rfl rfl (fun _=>.inr (by simp))) ?_
   refine QA (cap:=[]) (vs:=[_,_]) rfl rfl zw1 (.cons .here .nil) (ztG hsn hsq (hs.put y)) rfl rfl ?_
   rintro vv5 I5 L5 hI5 ⟨rfl,rfl,s2,rfl,hs2⟩
   refine Qc (Qg (Qa (Qf (zB ?_))))
   refine zM (Qc ?_)
   exact zm (h:=⟨p.n-(j+1),by omega,j+1,_,rfl,rfl,rfl,rfl,by omega,hs2.congr (fun x=>by rw [XR hy];rw [Bool.eq_iff_iff];simp;grind)⟩)
  have hge_j:p.n≤j:=by have h:=hc59;simp at h;omega
  refine QH (Qe (Qe (Qj (Qa (Qk ?_)))))
  refine Zn .here (fun I6 hI6 hb6=>?_)
  have hVs:=hVs.mono hI6;have hm:=hm.mono hI6;have hB0:=hB0.trans hI6
  have hbx:=hb6
  have hst6:OnL I6 (YE m p.id r_54) (ps.take (k+1)):=OnL.step hL hp hm hbx (by rw [Zo hN.len hge_j] at hs;exact hs)
  refine Qf (zM ?_)
  refine zF ZF ?_
  refine zL Qr ?_
  refine qc (vs:=[_,_]) rfl zcX (Kc hVs hn3 _) ?_
  refine zN ?_
  refine zI ?_ ?_<;>intro hc82
  ·
   have hin:vs.any (· ==p.id)=true:=by rw [←zh9];exact hc82
   refine Qf ?_
   refine zF XP ?_
   refine zV (Qd rfl zdc (fun hg=>by (repeat (first | exact zAg rfl | apply zAf | apply zAh)))) ?_
   refine zV (Qq rfl YL (fun hg=>by exact Cells.g0) rfl) ?_
   refine Qp (ps:=[(0,_)]) (m:=[YK p]) WC rfl (.cons rfl (.nil)) rfl (by simp [Q8]) (by decide) (by decide) rfl rfl (fun b_86=>?_)
   refine QU (v:=_) (ys:=[p].flatMap YK) (L:=L) rfl rfl WC hO (by repeat (first | exact .cons .here .nil | exact QD | exact Qy | apply QC | apply QB)) ⟨rfl,fun _=>rfl,by repeat (first | exact zAj | apply zAi | apply zAk)⟩ (zme _) (by omega) rfl rfl ?_
   intro v9 L9 hO9 _;obtain ⟨va9,vc9,rfl⟩:=zaS hO9;rw [←List.flatMap_append] at hO9
   refine zF XP ?_
   refine ZE rfl rfl zpW rfl rfl (by (repeat (first | exact Upd.here | apply Upd.there | apply QM))) rfl ?_
   refine Qc (Qg (Qa (Qf (zB ?_))))
   refine zM (Qc ?_)
   first
   | exact zm (h:=⟨pn-(k+1),by omega,k+1,_,_,_,_,rfl,rfl,hB0,rfl,by omega,hst6,by rw [Xa hp hin];exact hO9,by omega⟩)
  have hin:vs.any (· ==p.id)=false:=by rw [←zh9];exact hc82
  refine Qo (Qg (Qa (Qf (zB ?_))))
  refine zM (Qc ?_)
  first
  | exact zm (h:=⟨pn-(k+1),by omega,k+1,_,_,_,_,rfl,rfl,hB0,rfl,by omega,hst6,by rw [za9 hp hin];exact hO,by omega⟩)
 have hge_k:pn≤k:=by have h:=hc47;simp at h;omega
 rw [Zo hP.len hge_k] at hm hO
 refine QH (Qe (Qe (Qj (Qa (zR ?_)))))
 refine zV (Qq rfl JC (fun hg=>by (repeat (first | exact zAj | apply zAi | apply zAk))) rfl) ?_
 refine YG rfl rfl zbb rfl rfl rfl rfl (by (repeat (first | exact Upd.here | apply Upd.there | apply QM))) ?_
 refine zA (zN (Qs ?_))
 first
 | exact Zp rfl rfl rfl JC (vs:=[.slice bv n2 c2,.int .i64 no,.slice ea1 en1 ec1,.slice ea2 en2 ec2,.slice ea3 en3 ec3,.map (some r_30),.slice va6 q vc6,.slice as8 (zf4 ps (Jw ws rows no xs es rd) vs).length cs8]) (by repeat (first | exact zAj | apply zAi | apply zAk)) rfl (fun w hw=>by obtain ⟨I9,av9,c9,h1',h2',e9,h4'⟩:=OwnS.freeze (R:=[_,_,_]) hO Q8 (by decide) hw;cases e9;obtain ⟨I8,h81,h82,h83⟩:=h2'.freezeAll;exact ⟨_,I8,[],rfl,(hIc.trans h1').trans h81,h82,rfl,[.slice bv n2 c2,.int .i64 no,.slice ea1 en1 ec1,.slice ea2 en2 ec2,.slice ea3 en3 ec3,.map (some r_30),.slice va6 q vc6,.slice as8 (zf4 ps (Jw ws rows no xs es rd) vs).length cs8],by rw [zjy he1,he2],rfl,rfl,fun _=>⟨⟨bv,n2,c2,no,ea1,en1,ec1,ea2,en2,ec2,ea3,en3,ec3,r_30,va6,q,vc6,as8,_,cs8⟩,rfl,⟨(hVn.mono h1').mono h81,(hX2.mono h1').mono h81,(hX3.mono h1').mono h81,⟨m,h83 r_30 _ (by simp),(hm.mono h1').mono h81⟩,⟨h4'.mono h81,fun z hz=>((hP.2 z (List.mem_filter.1 hz).1).mono h1').mono h81⟩,by rw [←hsf];exact (hSs.mono h1').mono h81,hn2,hm2,hm3,by show q≤100000;omega,by show (zf4 ps (Jw ws rows no xs es rd) vs).length≤100000;rw [hsf];omega,fun z hz=>⟨z,(List.mem_filter.1 hz).1,rfl⟩⟩⟩⟩)
end
section
open Go Go.Kn Go.Proofs
section
variable {ws:List Wr} {rows:List (List Int)} {no:Int} {cl:List Int} {es:List Em} {rd:List Int}
theorem zwY (h:KT ws rows no cl es rd=0):zaP ws=0∧Wu ws=rows∧UA rows no cl es rd=0∧W0 ws rows rd rd.length=some (Jw ws rows no cl es rd):=by
 have h0:=h
 unfold KT at h
 split at h
 ·
  exact absurd h (by assumption)
 ·
  split at h
  ·
   cases h
  ·
   split at h
   ·
    exact absurd h (by assumption)
   ·
    split at h
    ·
     cases h
    ·
     rename_i h1 h2 h3 h4
     refine ⟨by simpa using h1,by simpa using h2,by simpa using h3,?_⟩
     unfold Jw
     rw [if_neg (by rw [h0];simp)]
     cases hs:W0 ws rows rd rd.length with
     | none=>rw [hs] at h4;simp at h4
     | some l=>rfl
theorem zeq:∀ {k:Nat} {l:List Sg},W0 ws rows rd k=some l→∀ x∈l,∃ q:Nat,q<k∧x.id=(q:Int)∧zbB ws rows q (rd.getD q 0)= .sg x
 | 0,l,h,x,hx=>by cases h;cases hx
 | k+1,l,h,x,hx=>by
  unfold W0 at h
  cases h1:W0 ws rows rd k with
  | none=>rw [h1] at h;cases h
  | some l1=>
   rw [h1] at h
   dsimp only at h
   split at h
   ·
    cases h
   ·
    cases h
    obtain ⟨q,a,b,c⟩:=zeq h1 x hx
    exact ⟨q,by omega,b,c⟩
   ·
    rename_i y ho
    cases h
    rcases List.mem_append.1 hx with hx | hx
    ·
     obtain ⟨q,a,b,c⟩:=zeq h1 x hx
     exact ⟨q,by omega,b,c⟩
    ·
     rw [List.mem_singleton] at hx
     subst hx
     refine ⟨k,by omega,?_,ho⟩
     unfold zbB at ho
     split at ho
     ·
      cases ho
     ·
      split at ho
      ·
       cases ho
      ·
       split at ho
       ·
        cases ho
       ·
        cases ho;rfl
theorem zv9 (h:KT ws rows no cl es rd=0){x:Sg}(hx:x∈Jw ws rows no cl es rd):∃ q:Nat,x.id=(q:Int)∧q<rd.length∧(∀ r∈rows,q<r.length)∧zbB ws rows q (rd.getD q 0)= .sg x:=by
 obtain ⟨h1,h2,h3,h4⟩:=zwY h
 obtain ⟨q,a,b,c⟩:=zeq h4 x hx
 have hr:=(zrS h1 h2 h3).2.1
 exact ⟨q,b,a,fun r hm=>by rw [hr r hm];exact a,c⟩
end
theorem zmC {xs:List Sg}{k y:Sg}(h:y∈zg9 xs k):y=k∨y∈xs:=by
 unfold zg9 at h
 rcases List.mem_append.1 h with h | h
 ·
  exact .inr (List.takeWhile_sublist _ |>.subset h)
 ·
  rcases List.mem_cons.1 h with h | h
  ·
   exact .inl h
  ·
   exact .inr (List.dropWhile_sublist _ |>.subset h)
theorem zfp:∀ {l:List Pt} {base:List Sg} {y:Sg},y∈Xj base l→y∈base∨∃ p∈l,p.kind=2∧p.nw=y
 | [],base,y,h=>.inl h
 | p::l,base,y,h=>by
  have h':y∈Xj (if p.kind=2 then zg9 base p.nw else base) l:=h
  rcases zfp h' with h1 | ⟨q,h1,h2,h3⟩
  ·
   split at h1
   ·
    rename_i hk
    rcases zmC h1 with h1 | h1
    ·
     exact .inr ⟨p,List.mem_cons_self ..,hk,h1.symm⟩
    ·
     exact .inl h1
   ·
    exact .inl h1
  ·
   exact .inr ⟨q,List.mem_cons_of_mem _ h1,h2,h3⟩
theorem zlX {on:Int→Int→Bool}{base:List Sg}{l:List Pt}{x:Sg}(h:x∈zdp on base l):∃ y,y∈Xj base l∧x=zlN on l y∧exB on l y.id=true:=by
 unfold zdp at h
 obtain ⟨y,h1,rfl⟩:=List.mem_map.1 h
 obtain ⟨h2,h3⟩:=List.mem_filter.1 h1
 exact ⟨y,h2,rfl,h3⟩
theorem zyV {l:List Pt}{s:Int}(h:(or2 l s).2=false):l.any (inP s)=false:=by
 unfold or2 at h
 cases hf:l.find? (inP s) with
 | none=>rw [List.find?_eq_none] at hf;rw [List.any_eq_false];exact hf
 | some p=>rw [hf] at h;cases h
theorem znc {on:Int→Int→Bool}{base:List Sg}{l:List Pt}(hs:Sto l){x:Sg}(h:x∈zdp on base l)(hn:(or2 l x.id).2=false):∃ y∈base,x=zlN on l y∧exB on l y.id=true:=by
 obtain ⟨y,h1,h2,h3⟩:=zlX h
 rcases zfp h1 with h4 | ⟨p,hp,hk,hw⟩
 ·
  exact ⟨y,h4,h2,h3⟩
 ·
  have h5:=zyV hn
  rw [List.any_eq_false] at h5
  refine absurd ?_ (h5 p hp)
  unfold inP
  rw [h2,zoU,←hw,((hs.ok p hp).ins hk).1]
  simp [hk]
theorem zpz {ws:List Wr}{rows:List (List Int)}{no:Int}{cl:List Int}{es:List Em}{rd:List Int}{ps:List Pt}{vs:List Int}(h1:KT ws rows no cl es rd=0)(h2:zga ps (Jw ws rows no cl es rd) vs=0){x:Sg}(hx:x∈zdp (onF ps) (Jw ws rows no cl es rd) (YZ ps vs))
  (hn:(or2 (YZ ps vs) x.id).2=false):∃ q:Nat,x.id=q∧q<rd.length∧∀ r∈rows,q<r.length:=by
 obtain ⟨hsto,_,_,_,_,hver,_⟩:=zit h2
 obtain ⟨y,hy,e,_⟩:=znc (zgP hsto hver) hx hn
 obtain ⟨q,a,b,c,_⟩:=zv9 h1 hy
 exact ⟨q,by rw [e,zoU,a],b,c⟩
theorem zh3 {e1:Int}{ps:List Pt}{bs:List Sg}{vs:List Int}(h:zd3 e1 ps bs vs=0):e1=0∧zga ps bs vs=0:=by
 unfold zd3 at h
 split at h
 ·
  exact absurd h (by assumption)
 ·
  rename_i h1;exact ⟨by simpa using h1,h⟩
def orE (e0:Int)(s:List Sg)(sign f:Int):Int:=if e0≠0 then e0 else if (decide (f<1)||decide (f>9))|| !(s.any fun x=>x.id==sign) then 440 else 0
def orO (e:Int)(o:Og):Og:=if e≠0 then zOg else o
def OrQ (e:Int)(o:Og)(v:Value)(I:Qw)(L:Go.Kn.Loc):Prop:=L=[]∧∃ vs,v= .tuple #[.agg vs.toArray,.int .i64 e]∧OgV I o vs
theorem zyc {e0:Int}{s:List Sg}{sign f:Int}(h:e0≠0):orE e0 s sign f=e0:=if_pos h
theorem zy0 {e0:Int}{s:List Sg}{sign f:Int}(h:e0=0)(h2:((decide (f<1)||decide (f>9))|| !(s.any fun x=>x.id==sign))=true):orE e0 s sign f=440:=by unfold orE;rw [if_neg (by omega),if_pos h2]
theorem zyP {e0:Int}{s:List Sg}{sign f:Int}(h:e0=0)(h2:((decide (f<1)||decide (f>9))|| !(s.any fun x=>x.id==sign))=false):orE e0 s sign f=0:=by unfold orE;rw [if_neg (by omega),if_neg (by rw [h2];decide)]
theorem OrQ.bad {I:Qw}{e:Int}{o:Og}(he:e≠0):OrQ e (orO e o) (.tuple #[.agg #[.int .i64 0,.int .i64 0,.slice none 0 0,.slice none 0 0],.int .i64 e]) I []:=by
 unfold orO;rw [if_pos he]
 exact ⟨rfl,[.int .i64 0,.int .i64 0,.slice none 0 0,.slice none 0 0],rfl,none,0,0,none,0,0,rfl,.nil,.nil⟩
def tcJ (og:Int→Int→Og)(s:Int)(j:Nat):List (Int×Int):=(List.range j).flatMap fun (i:Nat)=>if (og s ((i:Int)+1)).k==3 then [(s,(i:Int)+1)] else []
def tcK (og:Int→Int→Og)(s:List Sg)(k:Nat):List (Int×Int):=(s.take k).flatMap fun x=>tcJ og x.id 9
theorem ztK {og:Int→Int→Og}{s:Int}{j:Nat}(h:((og s ((j:Int)+1)).k==3)=true):tcJ og s (j+1)=tcJ og s j++[(s,(j:Int)+1)]:=by
 unfold tcJ;rw [List.range_succ,List.flatMap_append];simp only [List.flatMap_cons,List.flatMap_nil,List.append_nil];rw [if_pos h]
theorem zxo {og:Int→Int→Og}{s:Int}{j:Nat}(h:((og s ((j:Int)+1)).k==3)=false):tcJ og s (j+1)=tcJ og s j:=by
 unfold tcJ;rw [List.range_succ,List.flatMap_append];simp only [List.flatMap_cons,List.flatMap_nil,List.append_nil];rw [if_neg (by rw [h];decide),List.append_nil]
theorem znV {og:Int→Int→Og}{s:List Sg}{k:Nat}{x:Sg}(hx:s[k]? =some x):tcK og s (k+1)=tcK og s k++tcJ og x.id 9:=by
 unfold tcK;rw [List.take_add_one,hx,List.flatMap_append];simp
theorem zsp {og:Int→Int→Og}{s:List Sg}{k n:Nat}(hn:s.length=n)(hk:n≤k):tcK og s k=s.flatMap fun x=>tcJ og x.id 9:=by
 unfold tcK;rw [List.take_of_length_le (by omega)]
def tcF (e:Int)(og:Int→Int→Og)(s:List Sg):List (Int×Int):=if e≠0 then [] else s.flatMap fun x=>tcJ og x.id 9
def zzI (e:Int)(xs:List (Int×Int))(v:Value)(I:Qw)(L:Go.Kn.Loc):Prop:=L=[]∧∃ a c,v= .tuple #[.slice a xs.length c,.int .i64 e]∧Sl I 2 V9 a xs.length c xs
theorem zy2 {s:List Sg}{sign f:Int}(h:((decide (f<1)||decide (f>9))|| !(s.any fun x=>x.id==sign))=false):∃ x∈s,x.id=sign:=by
 rw [Bool.or_eq_false_iff] at h
 have h2:=zjD h.2
 rw [List.any_eq_true] at h2
 obtain ⟨x,hx,he⟩:=h2
 exact ⟨x,hx,by simpa using he⟩
theorem zxr {C:Cx}{Q:Exit→Act→World→Prop}{E:Env}{I:Qw}{loc:Go.Kn.Loc}(loc':Go.Kn.Loc){c:Code}(hp:loc'.Perm loc)(h:X C Q c E I loc'):X C Q c E I loc:=fun a w ha hw=>h a w ha (hw.permL hp)
end
section
open Go Go.Kn Go.Proofs
theorem zpM:Fun Tryz.prog 36:=.of Tryz.func36 (by kernel_rfl) (by kernel_rfl)
theorem zxt:Fun Tryz.prog 37:=.of Tryz.func37 (by kernel_rfl) (by kernel_rfl)
theorem zxf:Fun Tryz.prog 38:=.of Tryz.func38 (by kernel_rfl) (by kernel_rfl)
theorem zoN:Fun Tryz.prog 39:=.of Tryz.func39 (by kernel_rfl) (by kernel_rfl)
theorem zl1:zg5 Tryz.prog 38 0 0:=.of (by kernel_rfl)
theorem zyn {I:Qw}{b1:Nat}{sign:Int}(h1:I b1=some (.cells #[.int .i64 sign] 3 (0,0)))(x:Sg):Zu Tryz.prog 38 [J0 x,.pointer (some ⟨b1,0,none⟩)] I (.bool (x.id==sign)):=by
 intro g H w hw
 refine qe Tryz.func38 Tryz.ntmps38 hw ?_
 refine zR ?_
 refine Q9 rfl rfl rfl (fun b_2=>?_)
 refine zA ?_
 refine zN (zR ?_)
 refine zF Z9 ?_
 refine zL Qr ?_
 refine zV (Qd rfl Qr (fun hg=>by exact .imm h1 rfl)) ?_
 refine zC ?_
 refine zA (zN (Qs ?_))
 exact zr rfl rfl (by rfl)
theorem znH {I:Qw}{av:Option Addr}{n c:Nat}{ws:List Wr}(hW0:SlW I av n c ws)(hn:n≤100000){bv:Option Addr}{n2 c2:Nat}{rows:List (List Int)}(hVn:SlN I bv n2 c2 rows)(hn2:n2≤100000){ea1:Option Addr}{en1 ec1:Nat}{ea2:Option Addr}{en2 ec2:Nat}{ea3:Option Addr}{en3 ec3:Nat}{xs:List Int}{es:List Em}{rd:List Int}(hX1:Sl I 1 QP ea1 en1 ec1 xs)(hX2:Sl I 3 Yo ea2 en2 ec2 es)(hX3:Sl I 1 QP ea3 en3 ec3 rd)(hm1:en1≤100000)(hm2:en2≤100000)(hm3:en3≤100000)(no:Int){pv:Option Addr}{pn pc:Nat}{ps:List Pt}(hP:SlP I pv pn pc ps)(hpn:pn≤100000){dv:Option Addr}{n3 c3:Nat}{vs:List Int}(hVs:Sl I 1 QP dv n3 c3 vs)(hn3:n3≤100000)(hDb:V5 I)(sign fld:Int):Z4 Tryz.prog 14 [.slice av n c,.slice bv n2 c2,.agg (ZT no ea1 en1 ec1 ea2 en2 ec2 ea3 en3 ec3).toArray,.slice pv pn pc,.slice dv n3 c3,.int .i64 sign,.int .i64 fld] I [] (OrQ (orE (zd3 (KT ws rows no xs es rd) ps (Jw ws rows no xs es rd) vs) (zdp (onF ps) (Jw ws rows no xs es rd) (YZ ps vs)) sign fld) (orO (orE (zd3 (KT ws rows no xs es rd) ps (Jw ws rows no xs es rd) vs) (zdp (onF ps) (Jw ws rows no xs es rd) (YZ ps vs)) sign fld) (zlM (onF ps) rows es rd (YZ ps vs) sign fld))):=by
 intro g H w hw
 refine qe Tryz.func14 Tryz.ntmps14 hw ?_
 have hIc:=zAl I
 refine zR ?_
 refine Q9 rfl rfl rfl (fun b_9=>?_)
 refine Q9 rfl rfl rfl (fun b_12=>?_)
 refine Qv Xv rfl rfl (fun b_14=>?_)
 refine zA ?_
 refine zN (zR ?_)
 refine zM ?_
 refine zM ?_
 refine zV (Qq rfl ZW (fun hg=>by exact Cells.g2) rfl) ?_
 refine zM ?_
 refine zM ?_
 refine QA (cap:=[]) (vs:=[_,_,_,_,_]) rfl rfl zpM .nil (zoP hW0 hn hVn hn2 hX1 hX2 hX3 hm1 hm2 hm3 no hP hpn hVs hn3 hDb) rfl rfl ?_
 rintro vv1 I1 L1 hI1 ⟨rfl,vx,rfl,hvl,hv1,hop⟩
 have hIc:=hIc.trans hI1
 refine zM ?_
 refine zE ?_
 refine zE ?_
 refine Qv zsz rfl rfl (fun b_16=>?_)
 refine YG rfl rfl zbb hvl rfl hv1 rfl (by repeat (first | exact Upd.here | apply Upd.there | apply QM)) ?_
 refine zA (zN (Qk (zR ?_)))
 refine zM ?_
 refine zC (zN ?_)
 refine zI ?_ ?_<;>intro hc27
 ·
  have he0:(zd3 (KT ws rows no xs es rd) ps (Jw ws rows no xs es rd) vs)≠0:=by simpa using hc27
  refine zR ?_
  refine zV (Qq rfl Vi (fun hg=>by exact Cells.g1) rfl) ?_
  refine zM ?_
  refine zh V7 ?_
  refine zA (zN (Qs (Qb ?_)))
  first
  | exact Zp rfl rfl rfl Vi (vs:=[.int .i64 0,.int .i64 0,.slice none 0 0,.slice none 0 0]) (by repeat (first | exact zAj | apply zAi | apply zAk)) rfl (fun w hw=>⟨_,I1,[],rfl,hIc,hw.drop,by rw [zyc he0];exact OrQ.bad he0⟩)
 have he0:(zd3 (KT ws rows no xs es rd) ps (Jw ws rows no xs es rd) vs)=0:=by simpa using hc27
 obtain ⟨t,rfl,hT⟩:=hop he0
 obtain ⟨hs1,hs2⟩:=zh3 he0
 refine Qo (Qa (Qk (Qk ?_)))
 refine Zn (b:=b_12) (by repeat (first | exact Zc.here | apply Zc.there)) (fun I2 hI2 hb2=>?_)
 have hT:=hT.mono hI2;have hIc:=hIc.trans hI2
 have h12:=hb2
 refine Qf (zM ?_)
 refine zC ?_
 refine zM ?_
 refine QV 2 rfl rfl rfl ?_
 refine zJ (Qh rfl) ?_
 refine zJ (QI rfl rfl rfl) ?_
 refine Zs rfl rfl rfl rfl rfl ?_
 refine zM ?_
 refine QV 6 rfl rfl rfl ?_
 refine zJ (Qi rfl zcz) ?_
 refine zJ (Qd rfl zdC (fun hg=>by exact QY.h0 rfl)) ?_
 refine zJ (Zf (us:=[]) (vs:=[_]) rfl rfl) ?_
 refine qf (vs:=[_,_]) rfl zxt (fun hg=>zzz (cap:=[.pointer (some ⟨b_12,0,none⟩)]) hT.S hT.bs zxf (fun x hx=>zyn h12 x)) ?_
 refine zJ (Yw rfl) ?_
 refine Zs rfl rfl rfl rfl rfl ?_
 refine zN ?_
 refine zI ?_ ?_<;>intro hc42
 ·
  refine zR ?_
  refine zV (Qq rfl Vi (fun hg=>by exact Cells.g1) rfl) ?_
  refine zh V7 ?_
  refine zA (zN (Qs (Qb ?_)))
  first
  | exact Zp rfl rfl rfl Vi (vs:=[.int .i64 0,.int .i64 0,.slice none 0 0,.slice none 0 0]) (by repeat (first | exact zAj | apply zAi | apply zAk)) rfl (fun w hw=>⟨_,I2,[],rfl,hIc,hw.drop,by rw [zy0 he0 hc42];exact OrQ.bad (by decide)⟩)
 obtain ⟨x,hx,hxi⟩:∃ x∈(zdp (onF ps) (Jw ws rows no xs es rd) (YZ ps vs)),x.id=sign:=zy2 hc42
 have hin:∃ x∈(zdp (onF ps) (Jw ws rows no xs es rd) (YZ ps vs)),x.id=sign:=⟨x,hx,hxi⟩
 refine Qo (Qa (zR ?_))
 refine zV (Qq rfl JC (fun hg=>by exact Cells.g0) rfl) ?_
 refine zV (Qd rfl Qr (fun hg=>by exact .imm h12 rfl)) ?_
 refine zM ?_
 refine zV (ZC (ps:=[(0,_),(1,_)]) [_,_] V4 zlm rfl rfl) ?_
 refine QA (cap:=[]) (vs:=[_,_]) rfl rfl zoN .nil (zxu hT sign fld (fun h=>by obtain ⟨x,hx,hxi⟩:=hin;have h9:=zpz hs1 hs2 hx (by rw [hxi];exact h);rw [hxi] at h9;exact h9)) rfl rfl ?_
 rintro vv3 I3 L3 hI3 ⟨rfl,a1,n1,c1,a2,n2,c2,rfl,hw1,hw2⟩
 have hIc:=hIc.trans hI3
 refine zh V7 ?_
 refine zA (zN (Qs ?_))
 first
 | exact Zp rfl rfl rfl Vi (vs:=[.int .i64 _,.int .i64 _,.slice a1 n1 c1,.slice a2 n2 c2]) (by repeat (first | exact zAj | apply zAi | apply zAk)) rfl (fun w hw=>⟨_,I3,[],rfl,hIc,hw.drop,by rw [zyP he0 hc42];exact ⟨rfl,_,rfl,_,_,_,_,_,_,rfl,hw1,hw2⟩⟩)
theorem zj8 {I:Qw}{av:Option Addr}{n c:Nat}{ws:List Wr}(hW0:SlW I av n c ws)(hn:n≤100000){bv:Option Addr}{n2 c2:Nat}{rows:List (List Int)}(hVn:SlN I bv n2 c2 rows)(hn2:n2≤100000){ea1:Option Addr}{en1 ec1:Nat}{ea2:Option Addr}{en2 ec2:Nat}{ea3:Option Addr}{en3 ec3:Nat}{xs:List Int}{es:List Em}{rd:List Int}(hX1:Sl I 1 QP ea1 en1 ec1 xs)(hX2:Sl I 3 Yo ea2 en2 ec2 es)(hX3:Sl I 1 QP ea3 en3 ec3 rd)(hm1:en1≤100000)(hm2:en2≤100000)(hm3:en3≤100000)(no:Int){pv:Option Addr}{pn pc:Nat}{ps:List Pt}(hP:SlP I pv pn pc ps)(hpn:pn≤100000){dv:Option Addr}{n3 c3:Nat}{vs:List Int}(hVs:Sl I 1 QP dv n3 c3 vs)(hn3:n3≤100000)(hDb:V5 I):Z4 Tryz.prog 16 [.slice av n c,.slice bv n2 c2,.agg (ZT no ea1 en1 ec1 ea2 en2 ec2 ea3 en3 ec3).toArray,.slice pv pn pc,.slice dv n3 c3] I [] (zzI (zd3 (KT ws rows no xs es rd) ps (Jw ws rows no xs es rd) vs) (tcF (zd3 (KT ws rows no xs es rd) ps (Jw ws rows no xs es rd) vs) (fun s f=>zlM (onF ps) rows es rd (YZ ps vs) s f) (zdp (onF ps) (Jw ws rows no xs es rd) (YZ ps vs)))):=by
 intro g H w hw
 refine qe Tryz.func16 Tryz.ntmps16 hw ?_
 have hIc:=zAl I
 refine zR ?_
 refine Q9 rfl rfl rfl (fun b_7=>?_)
 refine zA ?_
 refine zA ?_
 refine zN (zR ?_)
 refine zM ?_
 refine zM ?_
 refine zV (Qq rfl ZW (fun hg=>by exact Cells.g0) rfl) ?_
 refine zM ?_
 refine zM ?_
 refine QA (cap:=[]) (vs:=[_,_,_,_,_]) rfl rfl zpM .nil (zoP hW0 hn hVn hn2 hX1 hX2 hX3 hm1 hm2 hm3 no hP hpn hVs hn3 hDb) rfl rfl ?_
 rintro vv1 I1 L1 hI1 ⟨rfl,vx,rfl,hvl,hv1,hop⟩
 have hVn:=hVn.mono hI1;have hX1:=hX1.mono hI1;have hX2:=hX2.mono hI1;have hX3:=hX3.mono hI1;have hP:=hP.mono hI1;have hVs:=hVs.mono hI1;have hIc:=hIc.trans hI1
 refine zM ?_
 refine zE ?_
 refine zE ?_
 refine Qv zsz rfl rfl (fun b_12=>?_)
 refine YG rfl rfl zbb hvl rfl hv1 rfl (by repeat (first | exact Upd.here | apply Upd.there | apply QM)) ?_
 refine zA (zN (Qk (zR ?_)))
 refine zM ?_
 refine zC (zN ?_)
 refine zI ?_ ?_<;>intro hc26
 ·
  have he0:(zd3 (KT ws rows no xs es rd) ps (Jw ws rows no xs es rd) vs)≠0:=by simpa using hc26
  refine zR (zM ?_)
  refine zA ?_
  refine zA (zN (Qs (Qb ?_)))
  first
  | exact Zr rfl rfl rfl (fun w hw=>⟨_,I1,[],rfl,hIc,hw.drop,by unfold tcF;rw [if_pos he0];exact ⟨rfl,none,0,rfl,.nil⟩⟩)
 have he0:(zd3 (KT ws rows no xs es rd) ps (Jw ws rows no xs es rd) vs)=0:=by simpa using hc26
 obtain ⟨t,rfl,hT⟩:=hop he0
 obtain ⟨hs1,hs2⟩:=zh3 he0
 have htn:=hT.bs
 refine Qo (Qa (Qk (zR ?_)))
 refine zF zcz ?_
 refine zL zdC ?_
 refine zQ VF ?_
 refine zM (zN (Ql ?_))
 refine zU [(12,_),(29,_),(30,_)] (fun T L0 mz E I' loc'=>∃ (k:Nat) (v:Value) (q:Nat) (L:Go.Kn.Loc),mz=t.sn-k∧E=(10,v)::(31,.int .i64 k)::T∧HLe I1 I'∧L++[(b_12,.cells (Ko t).toArray 98 (0,0)),(b_7,.cells (ZT no ea1 en1 ec1 ea2 en2 ec2 ea3 en3 ec3).toArray 26 (0,0))]=loc'∧k≤t.sn∧OwnS 79 2 v q ((tcK (fun s f=>zlM (onF ps) rows es rd (YZ ps vs) s f) (zdp (onF ps) (Jw ws rows no xs es rd) (YZ ps vs)) k).flatMap V9) L∧q≤k*9) ?_ (h:=⟨0,_,0,[],rfl,rfl,zAl _,rfl,Nat.zero_le _,OwnS.nil,Nat.zero_le _⟩)
 rintro mz E J2 loc' ⟨k,v,q,L,rfl,rfl,hJ,rfl,hk,hO,hq⟩
 have hVn:=hVn.mono hJ;have hX1:=hX1.mono hJ;have hX2:=hX2.mono hJ;have hX3:=hX3.mono hJ;have hP:=hP.mono hJ;have hVs:=hVs.mono hJ;have hT:=hT.mono hJ;have hIc:=hIc.trans hJ
 have hB0:=hJ
 refine zR (zC (zN (Qk ?_)))
 refine zI ?_ ?_<;>intro hc32
 ·
  have hlt_k:k<t.sn:=by have h:=hc32;simp at h;omega
  obtain ⟨x,hx⟩:=hT.S.at hlt_k
  refine Qo (Qa (Qk (Ql (zR ?_))))
  refine zV (Qz rfl rfl VF hT.S (fun hg=>by omega)) ?_
  refine zV (Qq rfl ZI (fun hg=>by exact zAm hT.S hx) rfl) ?_
  refine Qv Wg rfl rfl (fun b_14=>?_)
  refine zh Y5 ?_
  refine zN (Qk ?_)
  refine zxr (L++[(b_14,.cells (Vy x).toArray 54 (0,0)),(b_12,.cells (Ko t).toArray 98 (0,0)),(b_7,.cells (ZT no ea1 en1 ec1 ea2 en2 ec2 ea3 en3 ec3).toArray 26 (0,0))]) List.perm_middle ?_
  refine Qf (zA (zN (Ql ?_)))
  refine zU [(12,_),(14,_),(29,_),(30,_),(31,_)] (fun T L0 mz E I' loc'=>∃ (j:Nat) (v:Value) (q:Nat) (L:Go.Kn.Loc),mz=9-j∧E=(10,v)::(15,.int .i64 ((j:Int)+1))::T∧HLe J2 I'∧L++[(b_14,.cells (Vy x).toArray 54 (0,0)),(b_12,.cells (Ko t).toArray 98 (0,0)),(b_7,.cells (ZT no ea1 en1 ec1 ea2 en2 ec2 ea3 en3 ec3).toArray 26 (0,0))]=loc'∧j≤9∧OwnS 79 2 v q ((tcK (fun s f=>zlM (onF ps) rows es rd (YZ ps vs) s f) (zdp (onF ps) (Jw ws rows no xs es rd) (YZ ps vs)) k++tcJ (fun s f=>zlM (onF ps) rows es rd (YZ ps vs) s f) x.id j).flatMap V9) L∧q≤k*9+j) ?_ (h:=⟨0,v,q,L,rfl,rfl,zAl _,rfl,Nat.zero_le _,by rw [show tcJ (fun s f=>zlM (onF ps) rows es rd (YZ ps vs) s f) x.id 0=[] from rfl,List.append_nil];exact hO,by omega⟩)
  rintro mz E J3 loc' ⟨j,v,q,L,rfl,rfl,hJ,rfl,hj,hO,hq⟩
  have hT:=hT.mono hJ;have hB0:=hB0.trans hJ
  have hB2:=hJ
  refine Qk (zR (zM ?_))
  refine zC (zN ?_)
  refine zI ?_ ?_<;>intro hc36
  ·
   have hlt_j:j<9:=by have h:=hc36;simp only [decide_eq_true_eq] at h;omega
   refine Qo (Qa (Qk (Ql (zR ?_))))
   refine zV (Qq rfl JC (fun hg=>by (repeat (first | exact zAj | apply zAi | apply zAk))) rfl) ?_
   refine zF Z9 ?_
   refine zV (Qd rfl Qr (fun hg=>by (repeat (first | exact zAg rfl | apply zAf | apply zAh)))) ?_
   refine zM ?_
   refine zV (ZC (ps:=[(0,_),(1,_)]) [_,_] V4 zlm rfl rfl) ?_
   refine QA (cap:=[]) (vs:=[_,_]) rfl rfl zoN .nil (zxu hT x.id ((j:Int)+1) (zpz hs1 hs2 (List.mem_of_getElem? hx))) rfl rfl ?_
   rintro vv4 I4 L4 hI4 ⟨rfl,a1,n1,c1,a2,n2,c2,rfl,hw1,hw2⟩
   have hB2:=hB2.trans hI4
   refine zV (zmN rfl zl1 rfl) ?_
   refine zC (zN ?_)
   refine zI ?_ ?_<;>intro hc46
   ·
    refine Qf (zM ?_)
    refine zF Z9 ?_
    refine zV (Qd rfl Qr (fun hg=>by (repeat (first | exact zAg rfl | apply zAf | apply zAh)))) ?_
    refine zM ?_
    refine zV (ZC (ps:=[(0,_),(1,_)]) [_,_] Y1 KI rfl rfl) ?_
    refine Qp (ps:=[(0,_)]) (m:=[V9 (x.id,(j:Int)+1)]) Kh rfl (.cons rfl (.nil)) rfl (by simp [V9]) (by decide) (by decide) rfl rfl (fun b_52=>?_)
    refine QU (v:=_) (ys:=[(x.id,(j:Int)+1)].flatMap V9) (L:=L) rfl rfl Kh hO (by repeat (first | exact .cons .here .nil | exact QD | exact Qy | apply QC | apply QB)) ⟨rfl,fun _=>rfl,by repeat (first | exact zAj | apply zAi | apply zAk)⟩ (zhk [(x.id,(j:Int)+1)]) (by omega) rfl rfl ?_
    intro v9 L9 hO9 _;rw [←List.flatMap_append] at hO9
    refine zA (Qc (Qg (Qa (Qf ?_))))
    refine zM ?_
    refine zB ?_
    refine zA (Qc ?_)
    first
    | exact zm (h:=⟨9-(j+1),by omega,j+1,_,_,_,rfl,rfl,hB2,rfl,by omega,by rw [ztK hc46,←List.append_assoc];exact hO9,by omega⟩)
   refine Qo (Qg (Qa (Qf (zM ?_))))
   refine zB ?_
   refine zA (Qc ?_)
   first
   | exact zm (h:=⟨9-(j+1),by omega,j+1,_,_,_,rfl,rfl,hB2,rfl,by omega,by rw [zxo hc46];exact hO,by omega⟩)
  have hge_j:9≤j:=by have h:=hc36;simp only [decide_eq_false_iff_not] at h;omega
  refine QH (Qe (Qe (Qj (Qg (Qa (Qf (zB ?_)))))))
  refine zM (Qc ?_)
  exact zm (h:=⟨t.sn-(k+1),by omega,k+1,_,_,_,rfl,rfl,hB0,rfl,by omega,by rw [znV hx];rw [show j=9 by omega] at hO;exact hO,by omega⟩)
 have hge_k:t.sn≤k:=by have h:=hc32;simp at h;omega
 rw [zsp hT.S.len hge_k] at hO
 refine QH (Qe (Qe (Qj (Qa (zR (zM ?_))))))
 refine zA ?_
 refine zA (zN (Qs ?_))
 first
 | exact Zr rfl rfl rfl (fun w hw=>by obtain ⟨I9,h91,h92,a,c,e9,h94⟩:=OwnS.freeze' hO (fun _=>rfl) (by decide) (hw.subL (by exact Zg));exact ⟨_,I9,[],rfl,hIc.trans h91,h92,by rw [he0];unfold tcF;rw [if_neg (by simp)];have hq9:=h94.len;subst hq9;exact ⟨rfl,a,c,by rw [e9],h94⟩⟩)
end
end Go.Proofs.YtodakphagkommaaGreatDoor.R
namespace Go.Proofs.YtodakphagkommaaGreatDoor
section
open Go Go.Kn Go.Proofs
abbrev Tri:=Value×Nat×List Value
structure zhu (rows:List (List Int))(k:Nat)(m:List (Int×Tri))(i:Nat):Prop where
 val:∀ c,((ZH m c).getD JA).2.2=(J9 (rows.take i) k c).flatMap QP
 nd:(m.map (·.1)).Nodup
 key:∀ c,c∈m.map (·.1)↔ ∃ r∈rows.take i,r.getD k 0=c
 len:(m.map (·.1)).length≤i
theorem zhu.start {rows:List (List Int)}{k:Nat}:zhu rows k [] 0:=⟨fun c=>by rw [List.take_zero];rfl,.nil,(fun c=>by simp),Nat.le_refl _⟩
theorem zhu.put {rows:List (List Int)}{k i n:Nat}{m:List (Int×Tri)}(h:zhu rows k m i){r:List Int}(hr:rows[i]? =some r){v:Value}:zhu rows k (YE m (r.getD k 0) (v,n,((ZH m (r.getD k 0)).getD JA).2.2++[(i:Int)].flatMap QP)) (i+1) where
 val:=fun c=>by
  rw [YI]
  by_cases e:r.getD k 0=c
  ·
   rw [if_pos e,show J9 (rows.take (i+1)) k c=J9 (rows.take i) k c++[(i:Int)] from zf8 hr (by simpa using e),List.flatMap_append,←h.val c]
   subst e;rfl
  ·
   rw [if_neg e,show J9 (rows.take (i+1)) k c=J9 (rows.take i) k c from zmO hr (by simpa using e)];exact h.val c
 nd:=W8 _ _ h.nd
 key:=fun c=>by
  rw [KW,List.take_add_one,hr]
  split
  ·
   rename_i hin
   rw [h.key c]
   constructor
   ·
    rintro ⟨r',h1,h2⟩;exact ⟨r',List.mem_append_left _ h1,h2⟩
   ·
    rintro ⟨r',h1,h2⟩
    rcases List.mem_append.1 h1 with h1 | h1
    ·
     exact ⟨r',h1,h2⟩
    ·
     simp at h1;subst h1;subst h2;exact (h.key _).1 hin
  ·
   rw [List.mem_append,h.key c]
   constructor
   ·
    rintro (⟨r',h1,h2⟩ | h1)
    ·
     exact ⟨r',List.mem_append_left _ h1,h2⟩
    ·
     rw [List.mem_singleton] at h1;exact ⟨r,List.mem_append_right _ (by simp),h1.symm⟩
   ·
    rintro ⟨r',h1,h2⟩
    rcases List.mem_append.1 h1 with h1 | h1
    ·
     exact .inl ⟨r',h1,h2⟩
    ·
     simp at h1;subst h1;exact .inr (by rw [List.mem_singleton];exact h2.symm)
 len:=by
  have:=h.len
  rw [KW]
  split
  ·
   omega
  ·
   rw [List.length_append,List.length_singleton];omega
theorem zeP {rows:List (List Int)}{k:Nat}{c:Int}:(J9 rows k c).length≤rows.length:=by
 unfold J9 ixF;rw [List.length_map];exact Nat.le_trans (List.length_filter_le ..) (by rw [List.length_zipIdx];exact Nat.le_refl _)
theorem zhu.le {e:Nat}{rows:List (List Int)}{k i:Nat}{m:List (Int×Tri)}(h:zhu rows k m i){c:Int}{L:Go.Kn.Loc}(hO:OwnS e 1 ((ZH m c).getD JA).1 ((ZH m c).getD JA).2.1 ((ZH m c).getD JA).2.2 L):((ZH m c).getD JA).2.1≤i:=by
 have h1:=hO.1
 rw [h.val c,ZD Qu] at h1
 have h2:=zeP (rows:=rows.take i) (k:=k) (c:=c)
 rw [List.length_take] at h2
 omega
theorem zhu.sl {I:Qw}{e:Nat}{rows:List (List Int)}{k:Nat}{m:List (Int×Tri)}{L:Go.Kn.Loc}(h:zhu rows k m rows.length)(hA:VH e 1 (m.map (·.2)) L)(hI:∀ b o,(b,o)∈L→I b=some o)(c:Int):
  ∃ av cc,((ZH m c).getD JA).1= .slice av (J9 rows k c).length cc∧Sl I 1 QP av (J9 rows k c).length cc (J9 rows k c):=by
 obtain ⟨A,Lt,B,rfl,hO,_⟩:=hA.at c
 rw [h.val c,List.take_length] at hO
 obtain ⟨av,cc,e1,e2⟩:=hO.sl Qu (by decide) (fun b o hb=>hI b o (by simp [hb]))
 have hn:=e2.len
 rw [←hn] at e1 e2
 exact ⟨av,cc,e1,e2⟩
def kyS (ks:List Int)(seen:List Nat):List Int:=seen.map fun i=>ks.getD i 0
theorem zmW {ks:List Int}{seen:List Nat}{i:Nat}{a:Int}(h:ks[i]? =some a):kyS ks (seen++[i])=kyS ks seen++[a]:=by
 unfold kyS;rw [List.map_append,List.map_singleton,QN h]
theorem zaQ (ks:List Int):((List.range ks.length).map fun i=>ks.getD i 0)=ks:=by
 apply List.ext_getElem?
 intro j
 rw [List.getElem?_map]
 by_cases h:j<ks.length
 ·
  rw [List.getElem?_range h,Option.map_some,List.getElem?_eq_getElem h,QN (List.getElem?_eq_getElem h)]
 ·
  rw [List.getElem?_eq_none (by simpa using Nat.le_of_not_lt h),List.getElem?_eq_none (by omega)];rfl
theorem zr0 {ks:List Int}{seen:List Nat}(hn:seen.Nodup)(hl:∀ i∈seen,i<ks.length)(ha:∀ i,i<ks.length→i∈seen):(kyS ks seen).Perm ks:=by
 have h1:seen.Perm (List.range ks.length):=(List.perm_ext_iff_of_nodup hn List.nodup_range).2 fun i=>by rw [List.mem_range];exact ⟨hl i,ha i⟩
 have h2:=h1.map fun i=>ks.getD i 0
 rw [zaQ] at h2
 exact h2
theorem zeT {q:Nat}{n:Int}:∀ {rows:List (List Int)} {o:Option Int},(∀ b,o=some b→n<b)→(∀ r∈rows,n<r.getD q 0→∃ c,rows.foldl (zdY q n) o=some c∧c≤r.getD q 0)∧(∀ b,o=some b→∃ c,rows.foldl (zdY q n) o=some c∧c≤b)
 | [],o,_=>⟨(fun r hr=>by cases hr),fun b hb=>⟨b,hb,Int.le_refl _⟩⟩
 | r::rows,o,ho=>by
  cases hb:(decide (r.getD q 0>n)&&(!o.isSome||decide (r.getD q 0<o.getD 0))) with
  | true=>
   have hs:=ze8 hb
   simp only [Bool.and_eq_true,Bool.or_eq_true,decide_eq_true_eq] at hb
   have ih:=zeT (q:=q) (n:=n) (rows:=rows) (o:=some (r.getD q 0)) (fun b e=>by cases e;exact hb.1)
   have e0:(r::rows).foldl (zdY q n) o=rows.foldl (zdY q n) (some (r.getD q 0)):=by rw [List.foldl_cons,hs]
   rw [e0]
   refine ⟨fun r' hr' hn=>?_,fun b e=>?_⟩
   ·
    rcases List.mem_cons.1 hr' with rfl | hr'
    ·
     exact ih.2 _ rfl
    ·
     exact ih.1 r' hr' hn
   ·
    obtain ⟨c,h1,h2⟩:=ih.2 _ rfl
    subst e
    rcases hb.2 with h3 | h3
    ·
     cases h3
    ·
     have h3:r.getD q 0<b:=h3
     exact ⟨c,h1,by omega⟩
  | false=>
   have hs:=zii hb
   have ih:=zeT (q:=q) (n:=n) (rows:=rows) (o:=o) ho
   have e0:(r::rows).foldl (zdY q n) o=rows.foldl (zdY q n) o:=by rw [List.foldl_cons,hs]
   rw [e0]
   refine ⟨fun r' hr' hn=>?_,ih.2⟩
   rcases List.mem_cons.1 hr' with rfl | hr'
   ·
    cases o with
    | none=>
     cases h9:decide (r'.getD q 0>n) with
     | true=>rw [h9] at hb;cases hb
     | false=>simp only [decide_eq_false_iff_not] at h9;omega
    | some b=>
     cases h9:decide (r'.getD q 0>n) with
     | true=>
      rw [h9] at hb
      have h8:decide (r'.getD q 0<b)=false:=hb
      simp only [decide_eq_false_iff_not] at h8
      obtain ⟨c,h1,h2⟩:=ih.2 b rfl
      exact ⟨c,h1,by omega⟩
     | false=>simp only [decide_eq_false_iff_not] at h9;omega
   ·
    exact ih.1 r' hr' hn
theorem Kf (ks:List Int):(YJ ks).Perm ks:=List.mergeSort_perm ..
theorem zm4 (ks:List Int):(YJ ks).Pairwise (· ≤ ·):=
 (List.pairwise_mergeSort (le:=fun x y:Int=>decide (x≤y)) (fun a b c h1 h2=>by simp at*;omega) (fun a b=>by simp;omega) ks).imp fun h=>by simpa using h
theorem zix {rows:List (List Int)}{q:Nat}:∀ {ks:List Int} {n:Int} {m:Nat},ks.Pairwise (· < ·)→(∀ c,c∈ks↔n<c∧∃ r∈rows,r.getD q 0=c)→ks.length≤m→zmu rows q m (zbG rows q n)=ks.map fun c=>⟨c,J9 rows q c⟩
 | [],n,m,_,hk,_=>by
  have:zbG rows q n=none:=by
   cases h:zbG rows q n with
   | none=>rfl
   | some c=>have h1:=(hk c).2 (zfL h);cases h1
  rw [this,zds];rfl
 | c::ks,n,0,_,_,hm=>by simp at hm
 | c::ks,n,m+1,hs,hk,hm=>by
  obtain ⟨hn,r,hr,he⟩:=(hk c).1 (List.mem_cons_self ..)
  obtain ⟨d,hd,hdc⟩:=(zeT (q:=q) (n:=n) (rows:=rows) (o:=none) (fun b e=>by cases e)).1 r hr (by omega)
  have hd':zbG rows q n=some d:=hd
  have hdk:=(hk d).2 (zfL hd')
  have hcd:d=c:=by
   rcases List.mem_cons.1 hdk with h | h
   ·
    exact h
   ·
    have:=(List.pairwise_cons.1 hs).1 d h;omega
  rw [hd',hcd,zaM,List.map_cons]
  congr 1
  refine zix (List.pairwise_cons.1 hs).2 (fun x=>?_) (by simp at hm;omega)
  constructor
  ·
   intro hx
   exact ⟨(List.pairwise_cons.1 hs).1 x hx,((hk x).1 (List.mem_cons_of_mem _ hx)).2⟩
  ·
   rintro ⟨h1,h2⟩
   rcases List.mem_cons.1 ((hk x).2 ⟨by omega,h2⟩) with h3 | h3
   ·
    omega
   ·
    exact h3
theorem zl6 {rows:List (List Int)}{k:Nat}{m:List (Int×Tri)}(h:zhu rows k m rows.length)(h0:∀ r∈rows,0≤r.getD k 0){ks:List Int}(hp:ks.Perm (m.map (·.1))):(YJ ks).map (fun c=>(⟨c,J9 rows k c⟩:Vt))=zhU rows k:=by
 have hnd:(YJ ks).Nodup:=((Kf ks).trans hp).nodup_iff.2 h.nd
 have hs:(YJ ks).Pairwise (· < ·):=by
  exact ((zm4 ks).and hnd).imp fun {a b} ⟨h2,h3⟩=>by have:a≠b:=h3;omega
 have hmem:∀ c,c∈YJ ks↔(-1:Int)<c∧∃ r∈rows,r.getD k 0=c:=fun c=>by
  rw [((Kf ks).trans hp).mem_iff,h.key c,List.take_length]
  constructor
  ·
   rintro ⟨r,hr,rfl⟩;exact ⟨by have:=h0 r hr;omega,r,hr,rfl⟩
  ·
   exact fun h=>h.2
 have hl:(YJ ks).length≤rows.length:=by rw [((Kf ks).trans hp).length_eq];exact h.len
 unfold zhU
 rw [zix hs hmem hl]
theorem zq0 {rows:List (List Int)}{k:Nat}{c:Int}(h:∃ r∈rows,r.getD k 0=c):0<(J9 rows k c).length:=by
 obtain ⟨r,hr,he⟩:=h
 obtain ⟨i,hi⟩:=List.getElem?_of_mem hr
 unfold J9 ixF
 rw [List.length_map]
 refine List.length_pos_of_mem (a:=(r,i)) (List.mem_filter.2 ⟨?_,by simpa using he⟩)
 rw [List.mem_iff_getElem?]
 exact ⟨i,by simp [List.getElem?_zipIdx,hi]⟩
theorem zoq {x:Nat×Obj}{A L B R:Go.Kn.Loc}:(x::((A++(L++B))++R)).Perm (L++(x::(A++(B++R)))):=by
 have h:=List.perm_append_comm_assoc (x::A) L (B++R)
 simp only [List.cons_append,List.append_assoc] at h ⊢
 exact h
end
section
open Go Go.Kn Go.Proofs
theorem zoG:AgT Tryz.prog 74 3:=.of (by kernel_rfl)
theorem zpq:Fun Tryz.prog 31:=.of Tryz.func31 (by kernel_rfl) (by kernel_rfl)
theorem Vg:MpT Tryz.prog 91 3 23 (.slice none 0 0):=⟨by kernel_rfl,.of (by kernel_rfl)⟩
theorem zot:SzT Tryz.prog 72 1:=.of (by kernel_rfl)
theorem zpm:SzT Tryz.prog 74 3:=.of (by kernel_rfl)
theorem zwj:Yz Tryz.prog 74 (.agg #[(.int .i64 0),(.int .i64 0),(.slice none 0 0)]):=.of (by kernel_rfl)
theorem zhB {I:Qw}{r:Nat}{m:List (Int×Tri)}(hm:I r=some (Z0 (Value.int .i64) Xr m))(hml:m.length≤100000):Z4 Tryz.prog 31 [.map (some r)] I [] (fun v I' L=>L=[]∧∃ av c ks,ks.Perm (m.map (·.1))∧v= .slice av (YJ ks).length c∧Sl I' 1 QP av (YJ ks).length c (YJ ks)):=by
 intro g H w hw
 refine qe Tryz.func31 Tryz.ntmps31 hw ?_
 have hIc:=zAl I
 refine zR (zA (zN (Qk (zR ?_))))
 refine zM ?_
 refine JY (ek:=Value.int .i64) (ev:=Xr) (m:=m) rfl Vg rfl rfl (.inl hm) (fun b_5=>?_)
 refine zN (Ql ?_)
 refine zU [(5,_)] (fun T L0 mz E I' loc'=>∃ (seen:List Nat) (v:Value) (L:Go.Kn.Loc),mz=m.length-seen.length∧E=(2,v)::T∧I=I'∧L++[(b_5,YV r m.length seen)]=loc'∧seen.Nodup∧(∀ i∈seen,i<m.length)∧OwnS 3 1 v seen.length ((kyS (m.map (·.1)) seen).flatMap QP) L) ?_ (h:=⟨[],_,[],rfl,rfl,rfl,rfl,.nil,(fun i h=>by cases h),OwnS.nil⟩)
 rintro mz E I' loc' ⟨seen,v,L,rfl,rfl,rfl,rfl,hnd2,hlt,hO⟩
 have hsl:=JF hnd2 hlt
 refine zR ?_
 refine JS (ek:=Value.int .i64) (ev:=Xr) (m:=m) (fun s'=>L++[(b_5,YV r m.length s')]) rfl (fun s'=>QM .here) rfl rfl rfl rfl rfl (.inl hm) (by simp) ?_
 intro t tv s' hno hyes
 refine zN (Qk ?_)
 refine zI ?_ ?_<;>intro hc7
 ·
  obtain ⟨i,q,hq,hns,rfl⟩:=hyes hc7
  refine Qo (Qa (Ql (zR ?_)))
  refine zV (JW (ek:=Value.int .i64) (ev:=Xr) (m:=m) (p:=q) (seen:=seen) (i:=i) rfl (.inl hm) (.inr (by simp)) hq) ?_
  refine zE ?_
  refine zA (zN (Qf ?_))
  refine zM ?_
  refine zM ?_
  refine Qp (ps:=[(0,_)]) (m:=[QP q.1]) Za rfl (.cons rfl (.nil)) rfl (by simp [Qu]) (by decide) (by decide) rfl rfl (fun b_12=>?_)
  refine QU (v:=_) (ys:=[q.1].flatMap QP) (L:=L) rfl rfl Za hO (by repeat (first | exact .cons .here .nil | exact QD | exact Qy | apply QC | apply QB)) ⟨rfl,fun _=>rfl,by repeat (first | exact zAj | apply zAi | apply zAk)⟩ (V0 _) (by omega) rfl rfl ?_
  intro v9 L9 hO9 _;rw [←List.flatMap_append] at hO9
  refine zA (Qc (Qg ?_))
  have hnd3:(seen++[i]).Nodup:=List.nodup_append.2 ⟨hnd2,by simp,fun a ha b hb e=>hns (by simp at hb;subst hb;subst e;exact ha)⟩
  have hlt3:∀ j∈seen++[i],j<m.length:=fun j hj=>(List.mem_append.1 hj).elim (hlt j) (fun h=>by simp at h;subst h;exact (List.getElem?_eq_some_iff.1 hq).1)
  have hsl2:=JF hnd3 hlt3
  rw [List.length_append,List.length_singleton] at hsl2
  rw [←zmW (by rw [List.getElem?_map,hq];rfl)] at hO9
  exact zm (h:=⟨m.length-(seen++[i]).length,by rw [List.length_append,List.length_singleton];omega,seen++[i],_,L9,rfl,rfl,rfl,rfl,hnd3,hlt3,by rw [List.length_append,List.length_singleton];exact hO9⟩)
 obtain ⟨hs9,hall⟩:=hno hc7
 have hs9:=hs9.symm
 subst hs9
 have hpe:(kyS (m.map (·.1)) seen).Perm (m.map (·.1)):=zr0 hnd2 (fun i hi=>by rw [List.length_map];exact hlt i hi) (fun i hi=>by rw [List.length_map] at hi;exact hall i _ (List.getElem?_eq_getElem hi))
 refine QH (Qe (Qe (Qj (Qa (zR (zM ?_))))))
 refine QA (cap:=[]) (vs:=[_]) rfl rfl zj6 (by repeat (first | exact .cons .here .nil | exact QD | exact Qy | apply QC | apply QB)) (zjX hO (by omega) _) rfl rfl ?_
 rintro vv2 I2 L2 hI2 ⟨rfl,rfl,hO2⟩
 have hIc:=hIc.trans hI2
 refine zN (zR ?_)
 refine zM ?_
 refine zA (zN (Qs ?_))
 exact Zq rfl rfl (fun w hw=>by obtain ⟨I9,h91,h92,a,c,e9,h94⟩:=OwnS.freeze' hO2 Qu (by decide) (hw.subL (by exact Zg));have hl9:=h94.len;rw [←hl9] at e9 h94;exact ⟨_,I9,[],rfl,hIc.trans h91,h92,rfl,a,c,_,hpe,e9,h94⟩)
theorem zaJ {I:Qw}{bv:Option Addr}{n2 c2:Nat}{rows:List (List Int)}(hVn:SlN I bv n2 c2 rows)(hn2:n2≤100000){ea1:Option Addr}{en1 ec1:Nat}{ea2:Option Addr}{en2 ec2:Nat}{ea3:Option Addr}{en3 ec3:Nat}{xs:List Int}{es:List Em}{rd:List Int}(hX1:Sl I 1 QP ea1 en1 ec1 xs)(hX2:Sl I 3 Yo ea2 en2 ec2 es)(hX3:Sl I 1 QP ea3 en3 ec3 rd)(hm1:en1≤100000)(hm2:en2≤100000)(hm3:en3≤100000)(no:Int)(hDb:V5 I):Z4 Tryz.prog 11 [.slice bv n2 c2,.agg (ZT no ea1 en1 ec1 ea2 en2 ec2 ea3 en3 ec3).toArray] I [] (fun v I' L=>zxV (UA rows no xs es rd) (zoL (UA rows no xs es rd) rows rd) v I' L):=by
 intro g H w hw
 refine qe Tryz.func11 Tryz.ntmps11 hw ?_
 have hIc:=zAl I
 have hVl:=hVn.len
 refine zR ?_
 refine Q9 rfl rfl rfl (fun b_3=>?_)
 refine zA ?_
 refine zA (zN (Qk (zR ?_)))
 refine zM ?_
 refine zV (Qq rfl ZW (fun hg=>by exact Cells.g0) rfl) ?_
 refine qc (vs:=[_,_]) rfl zoB (zlo hVn hn2 hX1 hX2 hX3 hm1 hm2 hm3 no hDb) ?_
 refine zA ?_
 refine zN (zR ?_)
 refine zM ?_
 refine zC (zN ?_)
 refine zI ?_ ?_<;>intro hc18
 ·
  have he0:UA rows no xs es rd≠0:=by simpa using hc18
  refine zR (zM ?_)
  refine zA ?_
  refine zA (zN (Qs (Qb ?_)))
  first
  | exact Zr rfl rfl rfl (fun w hw=>⟨_,I,[],rfl,hIc,hw.drop,rfl,_,_,_,rfl,by rw [zlD he0];exact zec.nil⟩)
 have he0:UA rows no xs es rd=0:=by simpa using hc18
 obtain ⟨hmk,hrd⟩:=zfs he0
 obtain ⟨hr1,hr6,hr64,hrr⟩:=JE (KS (zjI hmk))
 have hrdl:rd.length=(rows.getD 0 []).length:=by rw [hrd];exact Wz
 have hX3l:=hX3.len
 have hc0:∀ k,k<rd.length→∀ r∈rows,0≤r.getD k 0:=fun k hk r hr=>by have h1:=hrr r hr;have h2:k<r.length:=(by omega);rw [QN (List.getElem?_eq_getElem h2)];exact (h1.2 _ (List.getElem_mem h2)).1
 refine Qo (Qa (Qk (zR ?_)))
 refine zF Yg ?_
 refine zL QJ ?_
 refine zQ Qt ?_
 refine zM (zN (Ql ?_))
 refine zU [(0,_),(21,_),(22,_)] (fun T L0 mz E I' loc'=>∃ (k:Nat) (v4:Value) (os:List Eh) (us:List En) (Lo:Go.Kn.Loc),mz=en3-k∧E=(4,v4)::(23,.int .i64 k)::T∧HLe I I'∧Lo++[(b_3,.cells (ZT no ea1 en1 ec1 ea2 en2 ec2 ea3 en3 ec3).toArray 26 (0,0))]=loc'∧k≤en3∧OwnS 74 3 v4 os.length (os.flatMap zad) Lo∧zcq I' os us∧us=zfS rows rd k∧os.length≤k) ?_ (h:=⟨0,_,[],[],[],rfl,rfl,zAl _,rfl,Nat.zero_le _,OwnS.nil,zak.nil,rfl,Nat.le_refl _⟩)
 rintro mz E J1 loc' ⟨k,v4,os,us,Lo,rfl,rfl,hJ,rfl,hk,hO,hre,hsu,hbd⟩
 have hVn:=hVn.mono hJ;have hX3:=hX3.mono hJ;have hIc:=hIc.trans hJ
 have hB0:=hJ
 refine zR (zC (zN (Qk ?_)))
 refine zI ?_ ?_<;>intro hc24
 ·
  have hlt_k:k<en3:=by have h:=hc24;simp at h;omega
  have hgr:rd[k]? =some (rd.getD k 0):=QX rfl (by omega)
  have hc0:=hc0 k (by omega)
  refine Qo (Qa (Qk (Ql (zR (zM ?_)))))
  refine zV (zX Qt hX3) ?_
  refine zV (Qd rfl Qr (fun hg=>by exact zAe (k:=k) hX3 hgr rfl)) ?_
  refine zA ?_
  refine zA ?_
  refine zN (zR ?_)
  refine ZU rfl rfl (fun r_28=>?_)
  refine zA (zN (Qk (zR ?_)))
  refine zM ?_
  refine zQ Q0 ?_
  refine zM (zN (Ql ?_))
  refine zU [(0,_),(4,_),(6,_),(7,_),(8,_),(21,_),(22,_),(23,_),(29,_),(30,_)] (fun T L0 mz E I' loc'=>∃ (i:Nat) (m:List (Int×Tri)) (Ls:Go.Kn.Loc),mz=n2-i∧E=(31,.int .i64 i)::T∧J1=I'∧(r_28,Z0 (Value.int .i64) Xr m)::(Ls++(Lo++[(b_3,.cells (ZT no ea1 en1 ec1 ea2 en2 ec2 ea3 en3 ec3).toArray 26 (0,0))]))=loc'∧i≤n2∧zhu rows k m i∧VH 3 1 (m.map (·.2)) Ls) ?_ (h:=⟨0,[],[],rfl,rfl,rfl,rfl,Nat.zero_le _,zhu.start,VH.nil⟩)
  rintro mz E I' loc' ⟨i,m,Ls,rfl,rfl,rfl,rfl,hi,hcm,hAll⟩
  refine zR (zC (zN (Qk ?_)))
  refine zI ?_ ?_<;>intro hc32
  ·
   have hlt_i:i<n2:=by have h:=hc32;simp at h;omega
   obtain ⟨hs,hVH⟩:=id hVn
   have hHH:=hVH.1
   obtain ⟨hx,rx,hhx,hrx,hQ⟩:=hVH.at hlt_i
   have hqk:=(hrr rx (List.mem_of_getElem? hrx)).1
   have hQl:=hQ.len
   have hgx:rx[k]? =some (rx.getD k 0):=QX rfl (by omega)
   refine Qo (Qa (Qk (Ql (zR (zM ?_)))))
   refine zV (zX Q0 hHH) ?_
   refine zV (Qd rfl QJ (fun hg=>by exact zAe hHH hhx rfl)) ?_
   refine zA ?_
   refine zA (zN ?_)
   obtain ⟨A,Lt,B,hLs,hOt,hset⟩:=hAll.at (rx.getD k 0)
   subst hLs
   rw [List.append_assoc A,List.append_assoc Lt]
   have hq0:=hcm.le hOt
   have hD:=zAl J1
   refine JH ?_
   refine Z7 J1 [] mixed ?_
   refine zT 0 rfl (Qh rfl) hD ?_
   refine zT 1 rfl (Qh rfl) hD ?_
   refine zT 2 rfl (Qh rfl) hD ?_
   refine zT 3 rfl (zX Qt hQ) hD ?_
   refine zT 4 rfl (Qd rfl Qr (fun hg=>by exact zAe (k:=k) hQ hgx rfl)) hD ?_
   refine zT 5 rfl (Qh rfl) hD ?_
   refine zT 6 rfl (Qh rfl) hD ?_
   refine zT 7 rfl (Qh rfl) hD ?_
   refine zT 8 rfl (zX Qt hQ) hD ?_
   refine zT 9 rfl (Qd rfl Qr (fun hg=>by exact zAe (k:=k) hQ hgx rfl)) hD ?_
   refine zT 11 rfl (Qh rfl) hD ?_
   refine Zw 10 12 rfl rfl (by kernel_rfl) ?_ ?_
   ·
    refine zV (VK (m:=m) (ek:=Value.int .i64) (a:=(rx.getD k 0)) Vg ZQ rfl rfl (fun _=>.inr (by simp))) ?_
    refine Qc ?_
    refine zD hD ?_
    refine qd 12 rfl ?_
    refine Qp (ps:=[(0,_)]) (m:=[QP (i:Int)]) Za rfl (.cons rfl (.nil)) rfl (by simp [Qu]) (by decide) (by decide) rfl rfl (fun b_48=>?_)
    refine Qc ?_
    refine zD hD ?_
    refine qd 13 rfl ?_
    refine QU (v:=_) (ys:=[(i:Int)].flatMap QP) (L:=Lt) rfl rfl Za hOt (by repeat (first | exact .cons .here .nil | exact QD | exact Qy | apply QC | apply QB)) ⟨rfl,fun _=>rfl,by repeat (first | exact zAj | apply zAi | apply zAk)⟩ (V0 _) (by omega) rfl rfl ?_
    intro v9 L9 hO9 _
    refine Qc ?_
    refine zD hD ?_
    refine qd 14 rfl ?_
    refine Zd (m:=m) (ek:=Value.int .i64) (ev:=Xr) (a:=(rx.getD k 0)) (v9,((ZH m (rx.getD k 0)).getD JA).2.1+1,((ZH m (rx.getD k 0)).getD JA).2.2++[(i:Int)].flatMap QP) Vg ZQ rfl rfl rfl rfl (by (repeat (first | exact Upd.here | apply Upd.there | apply QM))) ?_
    refine Qc ?_
    refine zD hD ?_
    refine QK (by kernel_rfl) ?_
    refine QW ?_
    refine Qg (Qa (Qf (zB ?_)))
    refine zM (Qc ?_)
    exact JI _ _ (L9++((r_28,_)::(A++(B++(Lo++[(b_3,.cells (ZT no ea1 en1 ec1 ea2 en2 ec2 ea3 en3 ec3).toArray 26 (0,0))]))))) ⟨n2-(i+1),by omega,i+1,_,A++(L9++B),rfl,rfl,rfl,rfl,by omega,hcm.put hrx,hset (v9,_,_) L9 hO9⟩ (.cons rfl (.cons rfl (.cons rfl (.cons rfl (.cons rfl (.cons rfl (.cons rfl (.cons rfl (.cons rfl (.cons rfl (.cons rfl .nil))))))))))) zoq (by repeat (first | exact .refl | exact Zg | refine Yu ?_ | refine .drop ?_ | refine Ya ?_))
   refine Qp (ps:=[(0,_)]) (m:=[QP (i:Int)]) Za rfl (.cons rfl (.nil)) rfl (by simp [Qu]) (by decide) (by decide) rfl rfl (fun b_48=>?_)
   refine Qc ?_
   refine zD hD ?_
   refine qd 10 rfl ?_
   refine zV (VK (m:=m) (ek:=Value.int .i64) (a:=(rx.getD k 0)) Vg ZQ rfl rfl (fun _=>.inr (by simp))) ?_
   refine Qc ?_
   refine zD hD ?_
   refine qd 13 rfl ?_
   refine QU (v:=_) (ys:=[(i:Int)].flatMap QP) (L:=Lt) rfl rfl Za hOt (by repeat (first | exact .cons .here .nil | exact QD | exact Qy | apply QC | apply QB)) ⟨rfl,fun _=>rfl,by repeat (first | exact zAj | apply zAi | apply zAk)⟩ (V0 _) (by omega) rfl rfl ?_
   intro v9 L9 hO9 _
   refine Qc ?_
   refine zD hD ?_
   refine qd 14 rfl ?_
   refine Zd (m:=m) (ek:=Value.int .i64) (ev:=Xr) (a:=(rx.getD k 0)) (v9,((ZH m (rx.getD k 0)).getD JA).2.1+1,((ZH m (rx.getD k 0)).getD JA).2.2++[(i:Int)].flatMap QP) Vg ZQ rfl rfl rfl rfl (by (repeat (first | exact Upd.here | apply Upd.there | apply QM))) ?_
   refine Qc ?_
   refine zD hD ?_
   refine QK (by kernel_rfl) ?_
   refine QW ?_
   refine Qg (Qa (Qf (zB ?_)))
   refine zM (Qc ?_)
   exact JI _ _ (L9++((r_28,_)::(A++(B++(Lo++[(b_3,.cells (ZT no ea1 en1 ec1 ea2 en2 ec2 ea3 en3 ec3).toArray 26 (0,0))]))))) ⟨n2-(i+1),by omega,i+1,_,A++(L9++B),rfl,rfl,rfl,rfl,by omega,hcm.put hrx,hset (v9,_,_) L9 hO9⟩ (.cons rfl (.cons rfl (.cons rfl (.cons rfl (.cons rfl (.cons rfl (.cons rfl (.cons rfl (.cons rfl (.cons rfl (.cons rfl .nil))))))))))) zoq (by repeat (first | exact .refl | exact Zg | refine Yu ?_ | refine .drop ?_ | refine Ya ?_))
  have hge_i:n2≤i:=by have h:=hc32;simp at h;omega
  refine QH (Qe (Qe (Qj (Qa (Qk (Qk ?_))))))
  have hcm:zhu rows k m rows.length:=by rw [hVl,show n2=i by omega];exact hcm
  refine zdd (L:=(r_28,Z0 (Value.int .i64) Xr m)::Ls) (R:=(Lo++[(b_3,.cells (ZT no ea1 en1 ec1 ea2 en2 ec2 ea3 en3 ec3).toArray 26 (0,0))])) (Qy (A:=(r_28,Z0 (Value.int .i64) Xr m)::Ls) (B:=(Lo++[(b_3,.cells (ZT no ea1 en1 ec1 ea2 en2 ec2 ea3 en3 ec3).toArray 26 (0,0))]))) (fun I3 hI3 h99=>?_)
  have hre:=hre.mono hI3;have hB0:=hB0.trans hI3
  have h28:=h99 r_28 _ (.head _)
  have hsl:=fun c=>hcm.sl hAll (fun b o hb=>h99 b o (.tail _ hb)) c
  obtain ⟨al,cl9,hvl,hSl⟩:=hsl (rd.getD k 0)
  have hhl:=zeP (rows:=rows) (k:=k) (c:=(rd.getD k 0))
  refine Qf (zM ?_)
  refine zM ?_
  refine zV (YF (m:=m) (ek:=Value.int .i64) (a:=(rd.getD k 0)) hvl Vg ZQ rfl rfl (fun _=>.inl h28)) ?_
  refine zQ Qt ?_
  refine zM ?_
  refine zQ Q0 ?_
  refine zC (zN ?_)
  refine zI ?_ ?_<;>intro hc57
  ·
   have hno:¬(J9 rows k (rd.getD k 0)).length<rows.length:=by have h:=hc57;rw [beq_iff_eq] at h;omega
   refine QH (Qe (Qj (Qa (Qf (zB ?_)))))
   refine zM (Qc ?_)
   first
   | exact zm (h:=⟨en3-(k+1),by omega,k+1,_,_,_,_,rfl,rfl,hB0,rfl,by omega,hO,hre,by rw [ziA hno];exact hsu,by omega⟩)
  have hyes:(J9 rows k (rd.getD k 0)).length<rows.length:=by have h:=hc57;rw [beq_eq_false_iff_ne] at h;omega
  refine Qo (Qa (zR (zM ?_)))
  refine zM ?_
  refine zV (QQ (ps:=[(0,_),(1,_)]) [_,_,_] zjQ rfl rfl) ?_
  refine Qv zwj rfl rfl (fun b_11=>?_)
  refine zh zpm ?_
  refine zN (Qk (zR (zM ?_)))
  refine QA (cap:=[]) (vs:=[_]) rfl rfl zpq .nil (zhB h28 (by have:=hcm.len;rw [List.length_map] at this;omega)) rfl rfl ?_
  rintro vv4 I4 L4 hI4 ⟨rfl,az,cz,ks,hpe,rfl,hSz⟩
  have hre:=hre.mono hI4;have hB0:=hB0.trans hI4
  obtain ⟨zs,hzs⟩:∃ zs,zs=YJ ks:=⟨_,rfl⟩
  have hvar:zs.map (fun c=>(⟨c,J9 rows k c⟩:Vt))=zhU rows k:=by rw [hzs];exact zl6 hcm hc0 hpe
  have hzm:∀ c∈zs,∃ r∈rows,r.getD k 0=c:=fun c hc=>by rw [hzs,((Kf ks).trans hpe).mem_iff,hcm.key c,List.take_length] at hc;exact hc
  have hzl:zs.length≤rows.length:=by rw [hzs,((Kf ks).trans hpe).length_eq];exact hcm.len
  rw [←hzs]
  rw [←hzs] at hSz
  have h28:=hI4 _ _ h28
  have hsl:∀ c,∃ av cc,((ZH m c).getD JA).1= .slice av (J9 rows k c).length cc∧Sl I4 1 QP av (J9 rows k c).length cc (J9 rows k c):=fun c=>by obtain ⟨a,b,h1,h2⟩:=hsl c;exact ⟨a,b,h1,h2.mono hI4⟩
  refine zQ Qt ?_
  refine zM (zN (Ql ?_))
  refine zU [(0,_),(4,_),(8,_),(11,_),(21,_),(22,_),(23,_),(62,_),(63,_)] (fun T L0 mz E I' loc'=>∃ (j:Nat) (v5:Value) (o5:List Vh) (u5:List Vt) (L5:Go.Kn.Loc),mz=zs.length-j∧E=(64,.int .i64 j)::T∧I4=I'∧L5++((b_11,.cells #[.int .i64 k,.int .i64 (rd.getD k 0),v5] 74 (0,0))::(Lo++[(b_3,.cells (ZT no ea1 en1 ec1 ea2 en2 ec2 ea3 en3 ec3).toArray 26 (0,0))]))=loc'∧j≤zs.length∧OwnS 77 2 v5 o5.length (o5.flatMap Xs) L5∧zb8 I' o5 u5∧u5=(zs.take j).map (fun c=>(⟨c,J9 rows k c⟩:Vt))∧o5.length≤j) ?_ (h:=⟨0,_,[],[],[],rfl,rfl,rfl,rfl,Nat.zero_le _,OwnS.nil,zak.nil,rfl,Nat.le_refl _⟩)
  rintro mz E I' loc' ⟨j,v5,o5,u5,L5,rfl,rfl,rfl,rfl,hj,hO5,hrv,hu5,hb5⟩
  obtain ⟨va5,vc5,rfl⟩:=zaS hO5
  refine zR (zC (zN (Qk ?_)))
  refine zI ?_ ?_<;>intro hc65
  ·
   have hlt_j:j<zs.length:=by have h:=hc65;simp at h;omega
   obtain ⟨c,hcz⟩:=hSz.at hlt_j
   refine Qo (Qa (Qk (Ql (zR ?_))))
   refine zV (zX Qt hSz) ?_
   refine zV (Qd rfl Qr (fun hg=>by exact zAe hSz hcz rfl)) ?_
   refine zA (zN (Qk ?_))
   obtain ⟨ac,cc,hvc,hSc⟩:=hsl c
   have hhp:=zq0 (hzm c (List.mem_of_getElem? hcz))
   refine Qf (zM ?_)
   refine zM ?_
   refine zV (YF (m:=m) (ek:=Value.int .i64) (a:=c) hvc Vg ZQ rfl rfl (fun _=>.inl h28)) ?_
   refine zQ Qt ?_
   refine zC (zN ?_)
   refine zI ?_ ?_<;>intro hc72
   ·
    refine Qf ?_
    refine zF XJ ?_
    refine zV (Qd rfl zjs (fun hg=>by (repeat (first | exact zAg rfl | apply zAf | apply zAh)))) ?_
    refine zM ?_
    refine zM ?_
    refine zM ?_
    refine zV (YF (m:=m) (ek:=Value.int .i64) (a:=c) hvc Vg ZQ rfl rfl (fun _=>.inl h28)) ?_
    refine zV (QQ (ps:=[(0,_),(1,_)]) [_,_] zf1 rfl rfl) ?_
    refine Qp (ps:=[(0,_)]) (m:=[Xs (⟨c,⟨ac,(J9 rows k c).length,cc⟩⟩:Vh)]) zbd rfl (.cons rfl (.nil)) rfl (by simp [Zi]) (by decide) (by decide) rfl rfl (fun b_80=>?_)
    refine QU (v:=_) (ys:=[(⟨c,⟨ac,(J9 rows k c).length,cc⟩⟩:Vh)].flatMap Xs) (L:=L5) rfl rfl zbd hO5 (by repeat (first | exact .cons .here .nil | exact QD | exact Qy | apply QC | apply QB)) ⟨rfl,fun _=>rfl,by repeat (first | exact zAj | apply zAi | apply zAk)⟩ (zvx _) (by omega) rfl rfl ?_
    intro v9 L9 hO9 _;obtain ⟨va9,vc9,rfl⟩:=zaS hO9;rw [←List.flatMap_append] at hO9
    refine zF XJ ?_
    refine ZE rfl rfl zot rfl rfl (by (repeat (first | exact Upd.here | apply Upd.there | apply QM))) rfl ?_
    refine Qc (Qg (Qa (Qf (zB ?_))))
    refine zM (Qc ?_)
    exact zm (h:=⟨zs.length-(j+1),by omega,j+1,_,o5++[(⟨c,⟨ac,(J9 rows k c).length,cc⟩⟩:Vh)],u5++[⟨c,J9 rows k c⟩],L9,rfl,rfl,rfl,rfl,by omega,by rw [List.length_append,List.length_singleton];exact hO9,hrv.snoc (v:=⟨c,J9 rows k c⟩) ⟨rfl,hSc⟩,by rw [List.take_add_one,hcz,List.map_append,←hu5];rfl,by rw [List.length_append,List.length_singleton];omega⟩)
   exfalso;have h:=hc72;simp only [decide_eq_false_iff_not] at h;omega
  have hge_j:zs.length≤j:=by have h:=hc65;simp at h;omega
  rw [List.take_of_length_le hge_j,hvar] at hu5
  refine QH (Qe (Qe (Qj (Qa ?_))))
  refine Vn hO5 Zi (by decide) (by repeat (first | exact .cons .here .nil | exact QD | exact Qy | apply QC | apply QB)) (fun I6 hI6 af5 cf5 ef6 hF5=>?_)
  cases ef6
  have hre:=hre.mono hI6;have hB0:=hB0.trans hI6
  have hSV:SlV I6 va5 o5.length vc5 (zhU rows k):=⟨o5,hF5,by rw [←hu5];exact hrv.mono hI6⟩
  refine Qf (zM ?_)
  refine zV (Qq rfl zoG (fun hg=>by exact Cells.g0) rfl) ?_
  refine Qp (ps:=[(0,_)]) (m:=[zad (⟨(k:Int),(rd.getD k 0),⟨va5,o5.length,vc5⟩⟩:Eh)]) za8 rfl (.cons rfl (.nil)) rfl (by simp [Zh]) (by decide) (by decide) rfl rfl (fun b_86=>?_)
  refine QU (v:=_) (ys:=[(⟨(k:Int),(rd.getD k 0),⟨va5,o5.length,vc5⟩⟩:Eh)].flatMap zad) (L:=Lo) rfl rfl za8 hO (by repeat (first | exact .cons .here .nil | exact QD | exact Qy | apply QC | apply QB)) ⟨rfl,fun _=>rfl,by repeat (first | exact zAj | apply zAi | apply zAk)⟩ (zoK _) (by omega) rfl rfl ?_
  intro v9 L9 hO9 _;rw [←List.flatMap_append] at hO9
  refine zA (Qc (Qg (Qa (Qf ?_))))
  refine zB ?_
  refine zM (Qc ?_)
  first
  | exact zm (h:=⟨en3-(k+1),by omega,k+1,_,os++[(⟨(k:Int),(rd.getD k 0),⟨va5,o5.length,vc5⟩⟩:Eh)],us++[(⟨(k:Int),(rd.getD k 0),zhU rows k⟩:En)],L9,rfl,rfl,hB0,rfl,by omega,by rw [List.length_append,List.length_singleton];exact hO9,hre.snoc (v:=(⟨(k:Int),(rd.getD k 0),zhU rows k⟩:En)) ⟨rfl,rfl,hSV⟩,by rw [zfV hyes,hsu],by rw [List.length_append,List.length_singleton];omega⟩)
 have hge_k:en3≤k:=by have h:=hc24;simp at h;omega
 have hke:k=rd.length:=by omega
 subst hke
 refine QH (Qe (Qe (Qj (Qa (zR (zM ?_))))))
 refine zA ?_
 refine zA (zN (Qs ?_))
 first
 | exact Zr rfl rfl rfl (fun w hw=>by obtain ⟨I9,h91,h92,a,c,e9,h94⟩:=OwnS.freeze' hO Zh (by decide) (hw.subL (by exact Zg));exact ⟨_,I9,[],rfl,hIc.trans h91,h92,rfl,a,_,c,by rw [e9,he0],os,h94,by rw [zb7 he0,←hsu];exact hre.mono h91⟩)
end
end Go.Proofs.YtodakphagkommaaGreatDoor
namespace Go.Proofs.YtodakphagkommaaGreatDoor.R
section
open Go Go.Kn Go.Proofs
theorem zoG:AgT Tryz.prog 74 3:=.of (by kernel_rfl)
theorem zpq:Fun Tryz.prog 31:=.of Tryz.func31 (by kernel_rfl) (by kernel_rfl)
theorem zot:SzT Tryz.prog 72 1:=.of (by kernel_rfl)
theorem zpm:SzT Tryz.prog 74 3:=.of (by kernel_rfl)
theorem zwj:Yz Tryz.prog 74 (.agg #[(.int .i64 0),(.int .i64 0),(.slice none 0 0)]):=.of (by kernel_rfl)
end
section
open Go Go.Kn Go.Proofs
def zpe (p:Pt):Bool:=decide (p.needs.length>80)
def zu2 (a b:Bool)(n1 n2 n3 pn vn:Nat):Bool:=(((((!a|| !((b&&decide ((n1:Int)≤40))&&decide ((n2:Int)≤40)))||decide ((n3:Int)>300))||(decide ((pn:Int)>40)&&decide ((pn:Int)≤512)))||decide ((pn:Int)>600))||decide ((vn:Int)>600))
def zdb (ws:List Wr)(rows:List (List Int))(xs:List Int)(es:List Em)(rd:List Int)(ps:List Pt)(vs:List Int):Bool:= !zu2 (zx1 ws) (zlO rows) xs.length es.length rd.length ps.length vs.length&& !ps.any zpe
section
variable {I:Qw} {av:Option Addr} {n c:Nat} {ws:List Wr} {wt:List Wt} {rows:List (List Int)} {xs:List Int} {es:List Em} {rd:List Int} {ps:List Pt} {vs:List Int} {n1 n2 n3 pn vn:Nat}
theorem ztn (hW:zlw I av n c wt ws)(h1:xs.length=n1)(h2:es.length=n2)(h3:rd.length=n3)(h4:ps.length=pn)(h5:vs.length=vn)(h:zu2 (zpv wt) (zlO rows) n1 n2 n3 pn vn=true):zdb ws rows xs es rd ps vs=false:=by
 subst h1;subst h2;subst h3;subst h4;subst h5
 rw [zuv hW] at h
 unfold zdb;rw [h];rfl
theorem zm1 (hW:zlw I av n c wt ws)(h1:xs.length=n1)(h2:es.length=n2)(h3:rd.length=n3)(h4:ps.length=pn)(h5:vs.length=vn)(h:zu2 (zpv wt) (zlO rows) n1 n2 n3 pn vn=false):zdb ws rows xs es rd ps vs=(!ps.any zpe)∧pn≤600:=by
 subst h1;subst h2;subst h3;subst h4;subst h5
 have h6:=h
 rw [zuv hW] at h
 refine ⟨by unfold zdb;rw [h];rfl,?_⟩
 unfold zu2 at h6
 simp only [Bool.or_eq_false_iff,decide_eq_false_iff_not] at h6
 omega
theorem ztH (h:zdb ws rows xs es rd ps vs=true):ws.length≤5∧(∀ x∈ws,x.rs.length≤8)∧rows.length≤20∧xs.length≤40∧es.length≤40∧rd.length≤300∧(ps.length≤40∨512<ps.length)∧ps.length≤600∧vs.length≤600∧∀ p∈ps,p.needs.length≤80:=by
 unfold zdb at h
 rw [Bool.and_eq_true] at h
 obtain ⟨h1,h2⟩:=h
 have h1:=zrz h1
 unfold zu2 at h1
 simp only [Bool.or_eq_false_iff,Bool.and_eq_false_iff,decide_eq_false_iff_not] at h1
 obtain ⟨⟨⟨⟨⟨ha,hb⟩,h3⟩,h4⟩,h5⟩,h6⟩:=h1
 have ha:=zjD ha
 have hb:=zjD hb
 simp only [Bool.and_eq_true,decide_eq_true_eq] at hb
 unfold zx1 at ha
 rw [Bool.and_eq_true,decide_eq_true_eq,List.all_eq_true] at ha
 have hr:rows.length≤20:=by
  have h9:=hb.1.1
  unfold zlO at h9
  split at h9
  ·
   simp only [decide_eq_true_eq] at h9;omega
  ·
   omega
 refine ⟨ha.1,fun x hx=>by simpa using ha.2 x hx,hr,by omega,by omega,by omega,by omega,by omega,by omega,fun p hp=>?_⟩
 have h8:=zrz h2
 rw [List.any_eq_false] at h8
 have h7:=h8 p hp
 unfold zpe at h7
 simpa using h7
end
end
section
open Go Go.Kn Go.Proofs
theorem zwu:Fun Tryz.prog 28:=.of Tryz.func28 (by kernel_rfl) (by kernel_rfl)
theorem zvP:Fun Tryz.prog 29:=.of Tryz.func29 (by kernel_rfl) (by kernel_rfl)
theorem zrR {I:Qw}{av:Option Addr}{n c:Nat}{ws:List Wr}(hW0:SlW I av n c ws)(hn:n≤9223372036854775807){bv:Option Addr}{n2 c2:Nat}{rows:List (List Int)}(hVn:SlN I bv n2 c2 rows){ea1:Option Addr}{en1 ec1:Nat}{ea2:Option Addr}{en2 ec2:Nat}{ea3:Option Addr}{en3 ec3:Nat}{xs:List Int}{es:List Em}{rd:List Int}(hX1:Sl I 1 QP ea1 en1 ec1 xs)(hX2:Sl I 3 Yo ea2 en2 ec2 es)(hX3:Sl I 1 QP ea3 en3 ec3 rd)(no:Int){pv:Option Addr}{pn pc:Nat}{ps:List Pt}(hP:SlP I pv pn pc ps){dv:Option Addr}{n3 c3:Nat}{vs:List Int}(hVs:Sl I 1 QP dv n3 c3 vs):Zu Tryz.prog 10 [.slice av n c,.slice bv n2 c2,.agg (ZT no ea1 en1 ec1 ea2 en2 ec2 ea3 en3 ec3).toArray,.slice pv pn pc,.slice dv n3 c3] I (.bool (zdb ws rows xs es rd ps vs)):=by
 intro g H w hw
 refine qe Tryz.func10 Tryz.ntmps10 hw ?_
 obtain ⟨wt,hWH⟩:=id hW0
 have hWl:=hWH.2.1
 have hX1l:=hX1.len
 have hX2l:=hX2.len
 have hX3l:=hX3.len
 have hPl:=hP.len
 have hVl:=hVs.len
 refine zR ?_
 refine Q9 rfl rfl rfl (fun b_7=>?_)
 refine zA ?_
 refine zN (zR ?_)
 refine zM ?_
 refine qc (vs:=[_]) rfl zwu (zu6 hWH.1 hn) ?_
 refine zA ?_
 refine zN (zR ?_)
 refine zM ?_
 refine zF zbM ?_
 refine zL QJ ?_
 refine zF XE ?_
 refine zL zfM ?_
 refine qc (vs:=[_,_,_]) rfl zvP (zrI hVn _ _ _ _ _ _) ?_
 refine zA (zN (Qk (zR ?_)))
 refine zM ?_
 refine zO ?_
 refine zM ?_
 refine QV 2 rfl rfl rfl ?_
 refine zJ (Qh rfl) ?_
 refine zJ (Yw rfl) ?_
 refine Zs rfl rfl rfl rfl rfl ?_
 refine zM ?_
 refine QV 6 rfl rfl rfl ?_
 refine zJ (Qi rfl Yg) ?_
 refine zJ (Qd rfl QJ (fun hg=>by exact QY.h0 rfl)) ?_
 refine zJ (ZB rfl Qt) ?_
 refine zJ (QI rfl rfl rfl) ?_
 refine Zs rfl rfl rfl rfl rfl ?_
 refine zM ?_
 refine QV 12 rfl rfl rfl ?_
 refine zJ (Qh rfl) ?_
 refine zJ (ZB rfl ZJ) ?_
 refine zJ (QI rfl rfl rfl) ?_
 refine zJ (Qh rfl) ?_
 refine QG 16 rfl rfl rfl ?_
 refine zK (Qh rfl) ?_
 refine zK (ZB rfl ZJ) ?_
 refine zK (QI rfl rfl rfl) ?_
 refine zjZ rfl rfl rfl (.some rfl rfl rfl rfl gbf) rfl rfl ?_
 refine Zs rfl rfl rfl rfl rfl ?_
 refine zM ?_
 refine QV 22 rfl rfl rfl ?_
 refine zJ (Qh rfl) ?_
 refine zJ (ZB rfl ZJ) ?_
 refine zJ (QI rfl rfl rfl) ?_
 refine Zs rfl rfl rfl rfl rfl ?_
 refine zM ?_
 refine QV 27 rfl rfl rfl ?_
 refine zJ (Qh rfl) ?_
 refine zJ (ZB rfl Qt) ?_
 refine zJ (QI rfl rfl rfl) ?_
 refine Zs rfl rfl rfl rfl rfl ?_
 refine zN ?_
 refine zI ?_ ?_<;>intro hc53
 ·
  have h53:=ztn hWH hX1l hX2l hX3l hPl hVl hc53
  refine zR (zA (zN (Qs (Qb ?_))))
  exact zr rfl rfl (by rw [h53])
 have h53:=zm1 hWH hX1l hX2l hX3l hPl hVl hc53
 have hpn6:pn≤600:=h53.2
 refine Qo (Qa (Qk (zR (zA (zN (Ql ?_))))))
 refine zU [(3,_)] (fun T L0 mz E I' loc'=>∃ (k:Nat),mz=pn-k∧E=(13,.int .i64 k)::T∧I=I'∧L0=loc'∧k≤pn∧(ps.take k).any zpe=false) ?_ (h:=⟨0,rfl,rfl,rfl,rfl,Nat.zero_le _,rfl⟩)
 rintro mz E I' loc' ⟨k,rfl,rfl,rfl,rfl,hk,hno⟩
 refine Qk (zR (zM ?_))
 refine zM ?_
 refine zQ ZJ ?_
 refine zC (zN ?_)
 refine zI ?_ ?_<;>intro hc57
 ·
  have hlt_k:k<pn:=by have h:=hc57;simp at h;omega
  obtain ⟨p,hp,hN⟩:=hP.at hlt_k
  have hNl:p.needs.length=p.n:=hN.len
  refine Qo (Qa (Qk (Ql (zR (zM ?_)))))
  refine zM ?_
  refine zV (Qz rfl rfl ZJ hP.1 (fun hg=>by omega)) ?_
  refine zF K9 ?_
  refine zV (Qd rfl QJ (fun hg=>by exact zAn (j:=18) hP.1 hp rfl)) ?_
  refine zQ Qt ?_
  refine zC (zN ?_)
  refine zI ?_ ?_<;>intro hc66
  ·
   have hbg:zpe p=true:=by have h:=hc66;unfold zpe;simp only [decide_eq_true_eq] at h ⊢;omega
   refine zR (zA (zN (Qs (Qm (Qb (Qb (Qm ?_)))))))
   refine Qb ?_
   first
   | exact zr rfl rfl (by rw [h53.1,YM hp hbg];rfl)
  have hbg:zpe p=false:=by have h:=hc66;unfold zpe;simp only [decide_eq_false_iff_not] at h ⊢;omega
  refine Qo (Qg (Qa (Qf (zM ?_))))
  refine zB ?_
  refine zA (Qc ?_)
  exact zm (h:=⟨pn-(k+1),by omega,k+1,rfl,rfl,rfl,rfl,by omega,Ym hp hno hbg⟩)
 have hge_k:pn≤k:=by have h:=hc57;simp at h;omega
 rw [Zo hPl hge_k] at hno
 refine QH (Qe (Qe (Qj (Qa (zR (zA (zN ?_)))))))
 refine Qs ?_
 first
 | exact zr rfl rfl (by rw [h53.1,hno];rfl)
end
section
open Go Go.Kn Go.Proofs
def zhQ (d:Int):Sg:=⟨0,0,0,1,4,1,d,2,0,0,0,1,1,1⟩
def wK:List Wr:=[⟨1,0,[⟨false,zhQ 3⟩]⟩,⟨2,0,[⟨false,zhQ 4⟩]⟩]
def ptK:Pt:=⟨2,1,0,5,⟨0,0,0,0,0,0,5,0,0,0,0,0,0,0⟩,none,0,0,[]⟩
theorem zzK:zaP wK=0:=by kernel_rfl
theorem zzQ:Wu wK=[[36110336],[36241408]]:=by kernel_rfl
theorem mK:Uu [[36110336],[36241408]] 1 [3] []=0:=by kernel_rfl
theorem rK:Vr [[36110336],[36241408]] [3] []=[36110336]:=by rw [zgJ];kernel_rfl
theorem mK9:Uu [[7],[9],[7]] 1 [5,7] []=0:=by kernel_rfl
theorem rK9:Vr [[7],[9],[7]] [5,7] []=[7]:=by rw [zgJ];kernel_rfl
theorem eK9:UA [[7],[9],[7]] 1 [5,7] [] [7]=0:=zmz mK9 rK9.symm
theorem nK9:zfS [[7],[9],[7]] [7] 1=[⟨0,7,[⟨7,[0,2]⟩,⟨9,[1]⟩]⟩]:=by kernel_rfl
theorem eK0:UA [] 0 [] [] []=420:=by rw [zqe (by decide)];kernel_rfl
theorem gK:KT wK [[36110336],[36241408]] 1 [3] [] [36110336]=0∧Jw wK [[36110336],[36241408]] 1 [3] [] [36110336]=[zhQ 3]:=zug zzK zzQ (zmz mK rK.symm) (by kernel_rfl)
section
variable (vs:List Int)
def opK:Int:=zd3 (KT wK [[36110336],[36241408]] 1 [3] [] [36110336]) [ptK] (Jw wK [[36110336],[36241408]] 1 [3] [] [36110336]) vs
def sgK:List Sg:=zdp (onF [ptK]) (Jw wK [[36110336],[36241408]] 1 [3] [] [36110336]) (YZ [ptK] vs)
end
theorem zxR:opK [2]=0:=by unfold opK;rw [gK.1,gK.2];kernel_rfl
theorem zxO:opK []=0:=by unfold opK;rw [gK.1,gK.2];kernel_rfl
theorem zzt:orE (opK [2]) (sgK [2]) 0 5=0:=by unfold sgK;rw [zxR,gK.2];kernel_rfl
theorem zyS:orE (opK [2]) (sgK [2]) 0 6=0:=by unfold sgK;rw [zxR,gK.2];kernel_rfl
theorem zyu:orE (opK []) (sgK []) 0 5=0:=by unfold sgK;rw [zxO,gK.2];kernel_rfl
theorem zyh:orE (opK []) (sgK []) 0 10=440:=by unfold sgK;rw [zxO,gK.2];kernel_rfl
def ogK (vs:List Int)(s f:Int):Og:=zlM (onF [ptK]) [[36110336],[36241408]] [] [36110336] (YZ [ptK] vs) s f
theorem zye:orO 0 (ogK [2] 0 5)=⟨3,0,[],[2]⟩:=by kernel_rfl
theorem zya:orO 0 (ogK [2] 0 6)=⟨1,0,[0],[]⟩:=by kernel_rfl
theorem zx5:orO 0 (ogK [] 0 5)=⟨1,0,[0],[]⟩:=by kernel_rfl
theorem zyU:orO 440 (ogK [] 0 10)=zOg:=by kernel_rfl
theorem zzc:tcF (opK [2]) (ogK [2]) (sgK [2])=[(0,5)]:=by unfold sgK;rw [zxR,gK.2];kernel_rfl
theorem zzs:tcF (opK []) (ogK []) (sgK [])=[]:=by unfold sgK;rw [zxO,gK.2];kernel_rfl
end
end Go.Proofs.YtodakphagkommaaGreatDoor.R
