/- partiesWorld_holds, part C of the proof: what its theorems say holds without further conditions. -/
import Derived.Lib.Hide
import Derived.Shelf.SlSortCmp.WholeK
import Derived.Test.YtjblkbkmblkgoaaGreatProg
import Derived.KernelRfl
import Derived.Test.YtjblkbkmblkgoaaGreatPXB
namespace Go.Proofs.YtjblkbkmblkgoaaGreat
section
open Go Go.Kn Go.Proofs
theorem zrD:Fun Tryz.prog 197:=.of Tryz.func197 kA kA
theorem zf6:Fun Tryz.prog 198:=.of Tryz.func198 kA kA
theorem zd5 {I:Qu}{x:Va}{cv:Vc}(hx:VaR I x cv)(hd:Va.depth x≤16)(hok:Va.ok x)(hb:(Va.enc x).length≤900000):Vs Tryz.prog 151 [.agg (Za cv).toArray] I [] (fun v I' L'=>∃ bv,v= .tuple #[bv,.int .i64 0]∧Xc 5 bv (Va.enc x) L'):=by
 intro g H w hw
 refine qe Tryz.func151 Tryz.ntmps151 hw ?_
 have hIc:=zz4 I
 refine zR ?_
 refine QO rfl rfl rfl (fun b_1=>?_)
 refine zA ?_
 refine zA (zN (Qo (zR ?_)))
 refine zV (Qg rfl Zq (fun hg=>by exact Cells.g0) rfl) ?_
 refine qcV (vs:=[_]) rfl zrD (zww hx hd hok) ?_
 refine zA ?_
 refine zN (zR ?_)
 refine zM ?_
 refine zC (zN ?_)
 refine zI ?_ ?_<;>intro hc8
 ·
  simp at hc8
 refine Qp (Qd (Qo ?_))
 rcases VaR.cases hx with ⟨n,rfl,rfl⟩ | ⟨s,rfl,rfl⟩ | ⟨l2,a2,m2,c2,rfl,rfl⟩
 ·
  have hD:=zz4 I
  refine Zn ?_
  refine QL I [(b_1,.cells (Za ⟨1,n,⟨#[]⟩,none,0,0⟩).toArray 158 (0,0))] mixed ?_
  refine zT 1 rfl (Qa rfl Ze) hD ?_
  refine zT 2 rfl (Qc rfl Qm (fun hg=>by exact QA.h0 rfl)) hD ?_
  refine zT 7 rfl (Qg rfl Zq (fun hg=>by exact Cells.g0) rfl) hD ?_
  refine qd 0 rfl ?_
  refine zpc [] rfl zf6 .nil (WE I) ?_
  rintro vv1 I1 L1 hI1 ⟨rfl,bw,bp,rfl,hW⟩
  have hx:=hx.mono hI1;have hIc:=hIc.trans hI1;have hD:=hD.trans hI1
  refine Qb ?_
  refine zD hD ?_
  refine zT 3 rfl (QG rfl) hD ?_
  refine zT 4 rfl (ZI rfl rfl KW (fun hg=>by (dsimp only;omega))) hD ?_
  refine zT 5 rfl (Qa rfl V0) hD ?_
  refine qd 6 rfl ?_
  refine zV (Qc rfl XW (fun hg=>by exact QA.imm hW.1 rfl)) ?_
  refine Qb ?_
  refine zD hD ?_
  refine qd 8 rfl ?_
  refine zpc [_,_] rfl zlU .nil (zdx _ _ (Nat.le_refl _) hW Xc.nil hx hok (by simpa using hb)) ?_
  rintro vv2 I2 L2 hI2 ⟨rfl,hO2⟩
  have hIc:=hIc.trans hI2;have hD:=hD.trans hI2
  refine Qb ?_
  refine zD hD ?_
  refine zT 9 rfl (Qv rfl) hD ?_
  refine zT 10 rfl (Qv rfl) hD ?_
  refine Ql kA ?_
  refine Qt ?_
  refine Qd (Qs ?_)
  exact Js rfl rfl rfl (fun w hw=>⟨_,I2,_,rfl,hIc,hw.subL (by exact QH),_,rfl,by simpa using hO2⟩)
 ·
  have hD:=zz4 I
  refine Zn ?_
  refine QL I [(b_1,.cells (Za ⟨2,0,Wl s,none,0,0⟩).toArray 158 (0,0))] mixed ?_
  refine zT 1 rfl (Qa rfl Ze) hD ?_
  refine zT 2 rfl (Qc rfl Qm (fun hg=>by exact QA.h0 rfl)) hD ?_
  refine zT 7 rfl (Qg rfl Zq (fun hg=>by exact Cells.g0) rfl) hD ?_
  refine qd 0 rfl ?_
  refine zpc [] rfl zf6 .nil (WE I) ?_
  rintro vv3 I3 L3 hI3 ⟨rfl,bw,bp,rfl,hW⟩
  have hx:=hx.mono hI3;have hIc:=hIc.trans hI3;have hD:=hD.trans hI3
  refine Qb ?_
  refine zD hD ?_
  refine zT 3 rfl (QG rfl) hD ?_
  refine zT 4 rfl (ZI rfl rfl KW (fun hg=>by (dsimp only;omega))) hD ?_
  refine zT 5 rfl (Qa rfl V0) hD ?_
  refine qd 6 rfl ?_
  refine zV (Qc rfl XW (fun hg=>by exact QA.imm hW.1 rfl)) ?_
  refine Qb ?_
  refine zD hD ?_
  refine qd 8 rfl ?_
  refine zpc [_,_] rfl zl7 .nil (zdx _ _ (Nat.le_refl _) hW Xc.nil hx hok (by simpa using hb)) ?_
  rintro vv4 I4 L4 hI4 ⟨rfl,hO2⟩
  have hIc:=hIc.trans hI4;have hD:=hD.trans hI4
  refine Qb ?_
  refine zD hD ?_
  refine zT 9 rfl (Qv rfl) hD ?_
  refine zT 10 rfl (Qv rfl) hD ?_
  refine Ql kA ?_
  refine Qt ?_
  refine Qd (Qs ?_)
  exact Js rfl rfl rfl (fun w hw=>⟨_,I4,_,rfl,hIc,hw.subL (by exact QH),_,rfl,by simpa using hO2⟩)
 have hD:=zz4 I
 refine Zn ?_
 refine QL I [(b_1,.cells (Za ⟨3,0,⟨#[]⟩,a2,m2,c2⟩).toArray 158 (0,0))] mixed ?_
 refine zT 1 rfl (Qa rfl Ze) hD ?_
 refine zT 2 rfl (Qc rfl Qm (fun hg=>by exact QA.h0 rfl)) hD ?_
 refine zT 7 rfl (Qg rfl Zq (fun hg=>by exact Cells.g0) rfl) hD ?_
 refine qd 0 rfl ?_
 refine zpc [] rfl zf6 .nil (WE I) ?_
 rintro vv5 I5 L5 hI5 ⟨rfl,bw,bp,rfl,hW⟩
 have hx:=hx.mono hI5;have hIc:=hIc.trans hI5;have hD:=hD.trans hI5
 refine Qb ?_
 refine zD hD ?_
 refine zT 3 rfl (QG rfl) hD ?_
 refine zT 4 rfl (ZI rfl rfl KW (fun hg=>by (dsimp only;omega))) hD ?_
 refine zT 5 rfl (Qa rfl V0) hD ?_
 refine qd 6 rfl ?_
 refine zV (Qc rfl XW (fun hg=>by exact QA.imm hW.1 rfl)) ?_
 refine Qb ?_
 refine zD hD ?_
 refine qd 8 rfl ?_
 refine KL (cap:=[Zw bp]) (vs:=[_,_]) rfl rfl zkD .nil (zdx _ _ (Nat.le_refl _) hW Xc.nil hx hok (by simpa using hb)) rfl rfl ?_
 rintro vv6 I6 L6 hI6 ⟨rfl,hO2⟩
 have hIc:=hIc.trans hI6;have hD:=hD.trans hI6
 refine Qb ?_
 refine zD hD ?_
 refine zT 9 rfl (Qv rfl) hD ?_
 refine zT 10 rfl (Qv rfl) hD ?_
 refine Ql kA ?_
 refine Qt ?_
 refine Qd (Qs ?_)
 exact Js rfl rfl rfl (fun w hw=>⟨_,I6,_,rfl,hIc,hw.subL (by exact QH),_,rfl,by simpa using hO2⟩)
end
section
open Go Go.Kn Go.Proofs
structure Sg where
 id:Int
 role:Int
 bar:Int
 mark:Int
 kind:Int
 side:Int
 dir:Int
 level:Int
 size:Int
 wth:Int
 fn:Int
 fd:Int
 tn:Int
 td:Int
def zfC (x:Sg):List Value:=[.int .i64 x.id,.int .i64 x.role,.int .i64 x.bar,.int .i64 x.mark,.int .i64 x.kind,.int .i64 x.side,.int .i64 x.dir,.int .i64 x.level,.int .i64 x.size,.int .i64 x.wth,.int .i64 x.fn,.int .i64 x.fd,.int .i64 x.tn,.int .i64 x.td]
def WD (x:Sg):Value:=.agg (zfC x).toArray
def JP:Sg:=⟨0,0,0,0,0,0,0,0,0,0,0,0,0,0⟩
theorem zg9 (x:Sg):(zfC x).length=14:=rfl
def ziB (x y:Sg):Bool:=x.id==y.id&&(x.role==y.role&&(x.bar==y.bar&&(x.mark==y.mark&&(x.kind==y.kind&&(x.side==y.side&&(x.dir==y.dir&&(x.level==y.level&&(x.size==y.size&&(x.wth==y.wth&&(x.fn==y.fn&&(x.fd==y.fd&&(x.tn==y.tn&&(x.td==y.td&&true)))))))))))))
theorem Wc {x y:Sg}:ziB x y=true↔x=y:=by
 obtain ⟨a1,a2,a3,a4,a5,a6,a7,a8,a9,a10,a11,a12,a13,a14⟩:=x
 obtain ⟨b1,b2,b3,b4,b5,b6,b7,b8,b9,b10,b11,b12,b13,b14⟩:=y
 simp [ziB]
instance : DecidableEq Sg := fun a b => decidable_of_iff (ziB a b = true) Wc
theorem zeh (x:Sg):ziB x x=true:=Wc.2 rfl
structure Pt where
 id:Int
 kind:Int
 sign:Int
 field:Int
 nw:Sg
 a:Option Addr
 n:Nat
 c:Nat
 needs:List Int
def KY (p:Pt):List Value:=[.int .i64 p.id,.int .i64 p.kind,.int .i64 p.sign,.int .i64 p.field,.int .i64 p.nw.id,.int .i64 p.nw.role,.int .i64 p.nw.bar,.int .i64 p.nw.mark,.int .i64 p.nw.kind,.int .i64 p.nw.side,.int .i64 p.nw.dir,.int .i64 p.nw.level,.int .i64 p.nw.size,.int .i64 p.nw.wth,.int .i64 p.nw.fn,.int .i64 p.nw.fd,.int .i64 p.nw.tn,.int .i64 p.nw.td,.slice p.a p.n p.c]
def KR (p:Pt):Value:=.agg (KY p).toArray
theorem VN (x:Pt):(KY x).length=19:=rfl
theorem ziW (xs:List Pt):YF (xs.flatMap KY)=true:=Yn (fun _=>rfl) xs
def V5:Pt:=⟨0,0,0,0,JP,none,0,0,[]⟩
def Nd (I:Qu)(p:Pt):Prop:=Sl I 1 Z5 p.a p.n p.c p.needs
theorem Nd.mono {I I':Qu}{p:Pt}(h:Nd I p)(hI:HLe I I'):Nd I' p:=Sl.mono h hI
def SlP (I:Qu)(av:Option Addr)(n c:Nat)(ps:List Pt):Prop:=Sl I 19 KY av n c ps∧∀ p∈ps,Nd I p
theorem SlP.mono {I I':Qu}{av:Option Addr}{n c:Nat}{ps:List Pt}(h:SlP I av n c ps)(hI:HLe I I'):SlP I' av n c ps:=⟨h.1.mono hI,fun p hp=>(h.2 p hp).mono hI⟩
theorem SlP.len {I:Qu}{av:Option Addr}{n c:Nat}{ps:List Pt}(h:SlP I av n c ps):ps.length=n:=h.1.len
theorem SlP.at {I:Qu}{av:Option Addr}{n c:Nat}{ps:List Pt}(h:SlP I av n c ps){k:Nat}(hk:k<n):∃ p,ps[k]? =some p∧Nd I p:=by
 obtain ⟨p,hp⟩:=h.1.at hk
 exact ⟨p,hp,h.2 p (List.mem_of_getElem? hp)⟩
def zcs (n:Int):Int:=if n<0 then 0-n else n
def zjf (a b:Int):Int:=(Int.gcd a b:Int)
def U6 (n d:Int):Bool:= !(((((decide (d<1)||decide (d>1073741824))||decide (n< -1073741824))||decide (n>1073741824))||(zjf n d != 1)))
def zb4 (fn fd tn td:Int):Bool:=(U6 fn fd&&U6 tn td)&&(decide (fn*td<tn*fd)&&(decide (fn≥0)&&decide (tn≤td)))
/-! ### Signs -/
def zyj (k:Sg):Bool:=within k.id 0 1048576&&within k.role 0 63&&within k.bar 0 4095&&within k.kind 1 9&&within k.mark 1 3&&within k.side 0 2&&within k.dir 0 8&&within k.level 0 3&&within k.size 0 255&&within k.wth 0 64
def frm (k:Sg):Bool:=zyj k&&zb4 k.fn k.fd k.tn k.td
def skP (xs:List Sg)(i:Nat):Bool:= !(!frm (xs.getD i JP)||(decide ((i:Int)>0)&&decide ((xs.getD ((i:Int)-1).toNat JP).id≥(xs.getD i JP).id)))
def skB (xs:List Sg):Bool:=(List.range xs.length).all (skP xs)
def zis (xs:List Sg):Int:=if xs.length>4096 then 2 else if skB xs then 0 else 360
/-! ### Patches -/
def KZ (x:Sg)(f:Int)(y:Sg):Sg:=
 if f=1 then {x with role:=y.role} else if f=2 then {x with bar:=y.bar} else if f=3 then {x with mark:=y.mark} else if f=4 then {x with side:=y.side} else if f=5 then {x with dir:=y.dir}
 else if f=6 then {x with level:=y.level} else if f=7 then {x with size:=y.size} else if f=8 then {x with wth:=y.wth} else if f=9 then {x with fn:=y.fn,fd:=y.fd,tn:=y.tn,td:=y.td} else x
def zen:Sg:=⟨0,0,0,3,9,0,0,0,0,0,0,1,1,2⟩
def zeZ:Sg:=⟨0,0,0,1,1,0,0,0,0,0,0,1,1,1⟩
def ndP (id:Int)(v:List Int)(i:Nat):Bool:= !((decide (v.getD i 0<1)||decide (v.getD i 0≥id))||(decide ((i:Int)>0)&&decide (v.getD i 0≤v.getD ((i:Int)-1).toNat 0)))
def ndB (id:Int)(v:List Int):Bool:=(List.range v.length).all (ndP id v)
def idB (p:Pt):Bool:=(decide (p.id≥1)&&decide (p.id≤1048576))&&(decide (p.sign≥0)&&decide (p.sign≤1048576))
def UF (p:Pt):Bool:=
 if p.kind=1 then within p.field 1 9&&(ziB (KZ p.nw p.field JP) JP&&frm (KZ zen p.field p.nw))
 else if p.kind=2 then p.field==0&&(p.nw.id==p.sign&&frm p.nw)
 else if p.kind=3 then p.field==0&&ziB p.nw JP else false
def K1 (p:Pt):Int:=if p.needs.length>32 then 2 else if ndB p.id p.needs&&(idB p&&UF p) then 0 else 370
end
end Go.Proofs.YtjblkbkmblkgoaaGreat
section
namespace Go.Proofs.YtjblkbkmblkgoaaGreat
open Go Go.Kn Go.Proofs
structure Lm where
 no:Int
 person:Int
 ends:Int
 lo:Int
 hi:Int
 known:Int
 ck:Int
 cl:Int
 cn:Int
def Zh (x:Lm):List Value:=[.int .i64 x.no,.int .i64 x.person,.int .i64 x.ends,.int .i64 x.lo,.int .i64 x.hi,.int .i64 x.known,.int .i64 x.ck,.int .i64 x.cl,.int .i64 x.cn]
def Ji (x:Lm):Value:=.agg (Zh x).toArray
theorem Yx (x:Lm):(Zh x).length=9:=rfl
theorem zap (xs:List Lm):YF (xs.flatMap Zh)=true:=Yn (fun _=>rfl) xs
def Vk:Lm:=⟨0,0,0,0,0,0,0,0,0⟩
def zyp (x y:Lm):Bool:=x.no==y.no&&(x.person==y.person&&(x.ends==y.ends&&(x.lo==y.lo&&(x.hi==y.hi&&(x.known==y.known&&((x.ck==y.ck&&(x.cl==y.cl&&(x.cn==y.cn&&true)))&&true))))))
theorem zp3 {x y:Lm}:zyp x y=true↔x=y:=by
 obtain ⟨a1,a2,a3,a4,a5,a6,a7,a8,a9⟩:=x
 obtain ⟨b1,b2,b3,b4,b5,b6,b7,b8,b9⟩:=y
 simp [zyp]
instance : DecidableEq Lm := fun a b => decidable_of_iff (zyp a b = true) zp3
def Vw (n lo hi:Int):Bool:=decide (lo≤n)&&decide (n≤hi)
def zf2 (lo hi:Int)(xs:List Int):Bool:=xs.all fun n=> !(decide (n<lo)||decide (n>hi))
theorem Xm (lo hi n:Int):zf2 lo hi [n]=Vw n lo hi:=by
 simp only [zf2,List.all_cons,List.all_nil,Bool.and_true,Vw]
 rw [Bool.eq_iff_iff];simp
def zyI:List (Int×Int×Int):=[(0,0,0),(1,3,2),(1,1048576,2),(1,16,0),(0,16,0),(0,500,0),(0,1048576,0)]
def XC (k:Int):Int×Int×Int:=zyI.getD k.toNat (0,0,0)
def zfA (ck cl cn:Int):Bool:=if Vw ck 1 6 then (if Vw cl 0 (XC ck).2.2 then Vw cn (XC ck).1 (XC ck).2.1 else false) else false
theorem znd {ck cl cn:Int}(h:Vw ck 1 6=false):zfA ck cl cn=false:=by unfold zfA;rw [h];rfl
theorem zkB {ck cl cn:Int}(h:Vw ck 1 6=true)(h2:Vw cl 0 (XC ck).2.2=false):zfA ck cl cn=false:=by unfold zfA;rw [h,h2];rfl
theorem zpu {ck cl cn:Int}(h:Vw ck 1 6=true)(h2:Vw cl 0 (XC ck).2.2=true):zfA ck cl cn=Vw cn (XC ck).1 (XC ck).2.1:=by unfold zfA;rw [h,h2];rfl
theorem six {ck:Int}(h:Vw ck 1 6=true):ck=1∨ck=2∨ck=3∨ck=4∨ck=5∨ck=6:=by
 simp only [Vw,Bool.and_eq_true,decide_eq_true_eq] at h;omega
def knM (pre:List Lm):List (Int×Lm):=pre.foldl (fun m y=>Jr m y.no y) []
def rpM (pre:List Lm):List (Int×Bool):=pre.foldl (fun m y=>Jr m y.ends true) []
def WL (pre:List Lm):Int:=match pre.getLast? with | none=> -1 | some y=>y.no
theorem U8 (pre:List Lm)(x:Lm):knM (pre++[x])=Jr (knM pre) x.no x:=by simp [knM]
theorem U4 (pre:List Lm)(x:Lm):rpM (pre++[x])=Jr (rpM pre) x.ends true:=by simp [rpM]
theorem Ko (pre:List Lm)(x:Lm):WL (pre++[x])=x.no:=by simp [WL]
def zhG (pre:List Lm)(x:Lm):Option Lm:=Zt (knM pre) (IntKind.i64.wrap (x.ends-1))
def zp1 (last:Int)(x:Lm):Bool:=(decide (x.no≤last)||decide (x.no>1048576))|| !Vw x.person 0 63
def zno (x:Lm):Bool:=((decide (x.lo<0)||decide (x.lo>x.hi))||decide (x.hi>73048))|| !Vw x.known 0 134217727
def znj (x:Lm):Bool:= !zfA x.ck x.cl x.cn&&(!(x.ck==0&&(x.cl==0&&(x.cn==0&&true)))||x.ends==0)
def zrV (met rep:Bool)(old x:Lm):Bool:=(x.ends != 0)&&(((!met||rep)||old.person != x.person)||decide (old.known>x.known))
def zcq (pre:List Lm)(x:Lm):Bool:=zp1 (WL pre) x||zno x||znj x||zrV (zhG pre x).isSome ((Zt (rpM pre) x.ends).getD false) ((zhG pre x).getD Vk) x
def zcX (xs:List Lm):Int:=if xs.length>512 then 2 else if (List.range xs.length).any (fun k=>zcq (xs.take k) (xs.getD k Vk)) then 340 else 0
end Go.Proofs.YtjblkbkmblkgoaaGreat
namespace Go.Proofs.YtjblkbkmblkgoaaGreat
open Go Go.Kn Go.Proofs
def ziK (v:Value):List Value:=[v]
theorem zjG (v:Value):(ziK v).length=1:=rfl
section
variable {α β:Type} [DecidableEq α] {C:Cx} {E:Env} {I:Qu} {loc:Go.Kn.Loc} {S:GS} {dst:Option Tmp} {ty:TypeId} {pos:String} {af:Array Edge} {gd:Option (Nat×Bool)} {x y:Operand} {m:List (α×β)} {a:α} {ek:α→Value} {ev:β→Value}
theorem zeT {t k e r:Nat}{zv:Value}(z v:β)(b:Bool)(hz:ev z=zv)(hv:(Zt m a).getD z=v)(hb:(Zt m a).isSome=b)(hT:MpT C.P t k e zv)(hK:Kz C.P k ek)(hx:QD S E x=some (.map (some r)))(hy:QD S E y=some (ek a))(hm:Yf S=true→Mem I loc r (Yo ek ev m)):
  QT C S E I loc ⟨dst,.lookup t x y true,ty,pos,af,gd⟩ (.tuple #[ev v,.bool b]):=by
 have:=ZR (C:=C) (S:=S) (dst:=dst) (ty:=ty) (pos:=pos) (af:=af) (gd:=gd) hT hK hx hy hm
 subst hv;subst hb;subst hz
 cases h:Zt m a with
 | none=>rw [h] at this;exact this
 | some v=>rw [h] at this;exact this
end
theorem zhb {xs:List Lm}(h:xs.length>512):zcX xs=2:=by unfold zcX;rw [if_pos h]
theorem VO {xs:List Lm}{k:Nat}{x:Lm}(h:¬xs.length>512)(hx:xs[k]? =some x)(hb:zcq (xs.take k) x=true):zcX xs=340:=by
 unfold zcX;rw [if_neg h,if_pos]
 rw [List.any_eq_true]
 refine ⟨k,List.mem_range.2 (List.getElem?_eq_some_iff.1 hx).1,?_⟩
 rw [List.getD_eq_getElem?_getD,hx];exact hb
theorem zjs {xs:List Lm}(h:¬xs.length>512)(ha:∀ k x,k<xs.length→xs[k]? =some x→zcq (xs.take k) x=false):zcX xs=0:=by
 unfold zcX;rw [if_neg h,if_neg]
 rw [List.any_eq_true]
 rintro ⟨k,hk,hb⟩
 have hk:=List.mem_range.1 hk
 have hx:xs[k]? =some (xs[k]):=List.getElem?_eq_getElem hk
 have:=ha k _ hk hx
 rw [List.getD_eq_getElem?_getD,hx] at hb
 rw [show ((some xs[k]:Option Lm).getD Vk)=xs[k] from rfl,this] at hb;cases hb
theorem zwf {pre:List Lm}{x:Lm}(h:zp1 (WL pre) x=true):zcq pre x=true:=by simp [zcq,h]
theorem zxq {pre:List Lm}{x:Lm}(h:zno x=true):zcq pre x=true:=by simp [zcq,h]
theorem zws {pre:List Lm}{x:Lm}(h:znj x=true):zcq pre x=true:=by simp [zcq,h]
theorem zwB {pre:List Lm}{x:Lm}(h:zrV (zhG pre x).isSome ((Zt (rpM pre) x.ends).getD false) ((zhG pre x).getD Vk) x=true):zcq pre x=true:=by simp [zcq,h]
theorem zun {pre:List Lm}{x:Lm}(h1:zp1 (WL pre) x=false)(h2:zno x=false)(h3:znj x=false)(h4:zrV (zhG pre x).isSome ((Zt (rpM pre) x.ends).getD false) ((zhG pre x).getD Vk) x=false):zcq pre x=false:=by simp [zcq,h1,h2,h3,h4]
theorem Zd {α:Type}{xs:List α}{k:Nat}{x:α}(h:xs[k]? =some x):xs.take (k+1)=xs.take k++[x]:=by rw [List.take_add_one,h];rfl
theorem V4 {α:Type}{P:Nat→α→Prop}{xs:List α}{k:Nat}{x:α}(hx:xs[k]? =some x)(hall:∀ j y,j<k→xs[j]? =some y→P j y)(hk:P k x):∀ j y,j<k+1→xs[j]? =some y→P j y:=fun j y hj hy=>by
 rcases Nat.lt_or_ge j k with h | h
 ·
  exact hall j y h hy
 ·
  obtain rfl:j=k:=kB
  rw [hx] at hy;cases hy;exact hk
end Go.Proofs.YtjblkbkmblkgoaaGreat
end
namespace Go.Kn
section
open Go
section
variable {g:World} {I I' H:Qu} {loc loc' L K A B:Loc} {w w':World}
theorem St.join2 (h:St g I (JY H L) K w)(hn:(L.map (·.1)).Nodup)(hd:∀ b o,(b,o)∈L→H b=none):St g I H (K++L) w:=by
 have h':=h.swap hn hd
 have hK:∀ b o,(b,o)∈K→H b=none:=fun b o hm=>(UW (h.sepIL b o hm).2).1
 refine ⟨h.os,h.tape,h.out,h.size,h.imm,fun b o e=>?_,fun b o hm=>?_,fun b=>?_,fun b o hm=>?_,?_⟩
 ·
  refine h.frm b o ?_
  rw [Xj (fun p hp=>by rw [hd b p hp] at e;cases e)];exact e
 ·
  rcases List.mem_append.1 hm with hm | hm
  ·
   exact h.own b o hm
  ·
   exact h'.own b o hm
 ·
  rcases h.sepIH b with e | e
  ·
   exact .inl e
  ·
   exact .inr (UW e).1
 ·
  rcases List.mem_append.1 hm with hm | hm
  ·
   exact ⟨(h.sepIL b o hm).1,hK b o hm⟩
  ·
   exact ⟨(h'.sepIL b o hm).1,hd b o hm⟩
 ·
  rw [List.map_append,List.nodup_append]
  refine ⟨h.nodup,hn,fun x hx y hy e=>?_⟩
  subst e
  obtain ⟨⟨b,o⟩,hm,rfl⟩:=List.mem_map.1 hx
  obtain ⟨⟨c,p⟩,hm',e⟩:=List.mem_map.1 hy
  simp only at e;subst e
  exact (UW (h.sepIL _ _ hm).2).2 p hm'
theorem St.permL (h:St g I H loc w)(hp:loc'.Perm loc):St g I H loc' w:=h.perm (fun p=>hp.mem_iff) ((hp.map (·.1)).nodup_iff.2 h.nodup)
end
theorem zcL {A B C:Loc}(h:J0 B C):J0 (A++B) (A++C):=by
 induction A with
 | nil=>exact h
 | cons x l ih=>exact .keep ih
def zlu {α:Type}(g:World)(Z:Loc)(Jc:List α→Qu→Qu→Loc→Prop)(Jx:Code→List α→Qu→Qu→Loc→Prop)(pre:List α):Exit→Act→World→Prop
 | .normal,_,w=>∃ I H L,Jc pre I H L∧St g I H (L++Z) w
 | .ret,_,w=>∃ I H L,Jx .ret pre I H L∧St g I H (L++Z) w
 | .exit id,_,w=>∃ I H L,Jx (.exit id) pre I H L∧St g I H (L++Z) w
 | _,_,_=>False
section
variable {α:Type} {C:Cx} {Q:Exit→Act→World→Prop} {E E':Env} {I I':Qu} {loc loc' L Z R:Loc}
variable {Jc:List α→Qu→Qu→Loc→Prop} {Jx:Code→List α→Qu→Qu→Loc→Prop} {pre:List α}
theorem zeO (h:Jc pre I C.H L)(hs:J0 (L++Z) loc):At C (zlu C.g Z Jc Jx pre) .normal E I loc:=fun _ _ _ hw=>⟨I,C.H,L,h,hw.subL hs⟩
end
section
variable {α:Type} {P:Program} {N:Nat} {g:World} {p:Nat} {assign body:Code} {f:FuncId} {cap:List Value} {rel:Value→α→Qu→Prop} {xs:List α} {E:Env} {I H:Qu} {L B:Loc}
def zwr (fn:FuncId)(tmps:Array Value)(p:Nat)(assign body:Code)(df:Nat)(st:LoopState)(pd:Option Code):Obj:=.loop {state:=st,pending:=pd,fn,tmps,params:= #[p],assign,body,defers:=df}
end
section
variable {α:Type} {P:Program} {N:Nat} {g:World} {H:Qu} {Q:Exit→Act→World→Prop} {gop:Operand} {p:Nat} {assign body:Code} {f:FuncId} {cap:List Value} {rel:Value→α→Qu→Prop} {xs:List α} {E:Env} {I:Qu} {L:Loc}
end
/-! ### A loop whose rounds may leave marks and turn the frame -/
section
variable {P:Program} {r:Option Nat} {N:Nat} {g:World} {H:Qu} {Q:Exit→Act→World→Prop} {E E':Env} {I I':Qu} {loc loc' L R:Loc} {ms:List Nat}
end
end
section
open Go
section
variable {C:Cx} {Q:Exit→Act→World→Prop} {E G:Env} {I I' I0:Qu} {loc loc' loc0 L R:Loc} {ops:Array Oper} {rest:List Oper} {S:GS}
variable {dst:Option Nat} {d:Nat} {ty:TypeId} {pos:String} {af:Array Edge} {gd:Option (Nat×Bool)} {x y z:Operand} {a b c:Int}
def ziI (u:Value)(want:Bool):Bool:=match u with | .bool b=>b != want | _=>true
theorem za8 {j dj:Nat}{want:Bool}{oj o:Oper}{u:Value}{N:Nat}{D:List Deferred}{a:Act}(hg:o.guard=some (j,want))(hj:ops[j]? =some oj)(hd:oj.dst=some dj)(ha:K2 N D E a)(hl:VC E dj=some u)(hu:ziI u want=true):Region.wanted o (yielded ops a.tmps)=false:=by
 have h:=ha.env _ _ hl
 simp only [Region.wanted,hg]
 cases u with
 | bool b0=>
  rw [UL hj hd h]
  cases b0<;>cases want<;>first | rfl | cases hu
 | _=>
  have hy:yielded ops a.tmps j=none:=by
   unfold yielded
   simp only [hj,Option.bind_some,hd]
   cases e:a.tmps[dj]? with
   | none=>rfl
   | some v=>
    simp [e] at h;rw [h]
  rw [hy];rfl
theorem ZU {op:Op}{j dj:Nat}{want:Bool}{oj:Oper}{u:Value}(hj:ops[j]? =some oj)(hd:oj.dst=some dj)(hl:VC E dj=some u)(hu:ziI u want=true)(hN:Nat.blt d C.N=true)
  (h:XO C Q ops rest [] ((d,undef)::E) I loc):XO C Q ops (⟨some d,op,ty,pos,af,some (j,want)⟩::rest) [] E I loc:=by
 intro a w ha hg hw
 simp only [wpListIn]
 rw [za8 (o:=⟨some d,op,ty,pos,af,some (j,want)⟩) rfl hj hd ha hl hu]
 simp only [Bool.false_eq_true,if_false]
 exact ⟨fun _ _=>trivial,h _ _ (ha.put hN undef) trivial hw⟩
theorem zpg (i:Nat){j dj fuel:Nat}{want:Bool}{oj:Oper}{listed:Array Bool}{op:Op}{u:Value}(hi:ops[i]? =some ⟨some d,op,ty,pos,af,some (j,want)⟩)(hj:ops[j]? =some oj)(hd:oj.dst=some dj)(hlk:VC E dj=some u)(hu:ziI u want=true)
  (hdf:∀ c,op≠ .defer c)(hN:Nat.blt d C.N=true)
  (hs:Region.noSelect ops=true)(hfr:Region.free .any ops listed i=true)(hr:(Region.ready .any ops listed).contains i=true)(hQ:Yd Q)(hI:HLe I0 I)(hl:J0 loc0 loc)
  (h:XD C Q ops I0 loc0 fuel (listed.setIfInBounds i true) [] ((d,undef)::E) I loc):XD C Q ops I0 loc0 (fuel+1) listed [] E I loc:=by
 intro a w ha hg hw
 have hp:=ha.put hN undef
 refine Y1 (v:=undef) hi hdf (Region.noSelect_spec hs) (fun c a w=>hQ c a d _ w) fuel listed a w (Region.free_spec hi hfr) (by simpa using hr) ?_ ((hw.mono hI).subL hl) (h _ _ hp trivial hw)
 exact .inr ⟨by rw [za8 (o:=⟨some d,op,ty,pos,af,some (j,want)⟩) rfl hj hd ha hlk hu],rfl⟩
theorem zW (i dj:Nat){j fuel:Nat}{want:Bool}{oj:Oper}{listed:Array Bool}{op:Op}{u:Value}(hI:HLe I0 I)(h:XD C Q ops I0 loc0 fuel (listed.setIfInBounds i true) [] ((d,undef)::E) I loc)(hi:ops[i]? =some ⟨some d,op,ty,pos,af,some (j,want)⟩:=by exact rfl)(hj:ops[j]? =some oj:=by exact rfl)(hd:oj.dst=some dj:=by exact rfl)(hlk:VC E dj=some u:=by exact rfl)(hu:ziI u want=true:=by exact rfl)
  (hdf:∀ c,op≠ .defer c:=by (intro c e;cases e))(hN:Nat.blt d C.N=true:=by exact rfl)(hs:Region.noSelect ops=true:=by kernel_rfl)(hfr:Region.free .any ops listed i=true:=by kernel_rfl)(hr:(Region.ready .any ops listed).contains i=true:=by kernel_rfl)(hQ:Yd Q:=by first | exact JK | (repeat (first | exact Uj | with_reducible refine Us ?_ | with_reducible refine Kk ?_)))(hl:J0 loc0 loc:=by repeat (first | exact .refl | exact QC | refine .keep ?_ | refine .drop ?_ | refine QN ?_)):XD C Q ops I0 loc0 (fuel+1) listed [] E I loc:=zpg i hi hj hd hlk hu hdf hN hs hfr hr hQ hI hl h
end
end
end Go.Kn
namespace Go.Proofs.YtjblkbkmblkgoaaGreat
section
open Go Go.Kn Go.Proofs
theorem zgA:AgT Tryz.prog 224 4:=.of kA
theorem zrn:AgT Tryz.prog 225 28:=.of kA
theorem zdy:ArT Tryz.prog 225 7 224 4:=.of kA
theorem zmD:QJ Tryz.prog 224 1 1:=.of kA
theorem zlB:QJ Tryz.prog 224 2 2:=.of kA
theorem ze1:QJ Tryz.prog 224 3 3:=.of kA
theorem Xf:QJ Tryz.prog 30 0 0:=.of kA
theorem JC:QJ Tryz.prog 30 1 1:=.of kA
theorem J6:QJ Tryz.prog 30 2 2:=.of kA
theorem zdD:Fun Tryz.prog 158:=.of Tryz.func158 kA kA
theorem zkT:Fun Tryz.prog 159:=.of Tryz.func159 kA kA
theorem X1:PlT Tryz.prog 224 #[(0,1),(1,1),(2,1),(3,1)] (.agg #[.nilFunc,(.int .i64 0),(.int .i64 0),(.int .i64 0)]):=⟨.of kA,kA,fun w=>kA⟩
theorem zgz:SzT Tryz.prog 224 4:=.of kA
theorem zr4:SzT Tryz.prog 225 28:=.of kA
theorem zlA:Y9 Tryz.prog 224 (.agg #[.nilFunc,(.int .i64 0),(.int .i64 0),(.int .i64 0)]):=.of kA
theorem zqn:Y9 Tryz.prog 225 (.agg #[.nilFunc,(.int .i64 0),(.int .i64 0),(.int .i64 0),.nilFunc,(.int .i64 0),(.int .i64 0),(.int .i64 0),.nilFunc,(.int .i64 0),(.int .i64 0),(.int .i64 0),.nilFunc,(.int .i64 0),(.int .i64 0),(.int .i64 0),.nilFunc,(.int .i64 0),(.int .i64 0),(.int .i64 0),.nilFunc,(.int .i64 0),(.int .i64 0),(.int .i64 0),.nilFunc,(.int .i64 0),(.int .i64 0),(.int .i64 0)]):=.of kA
theorem zd1 {I:Qu}{av:Option Addr}{n c:Nat}{xs:List Int}(hS:Sl I 1 Z5 av n c xs)(hn:n≤100000)(lo hi:Int):ZA Tryz.prog 158 [.int .i64 lo,.int .i64 hi,.slice av n c] I (.bool (zf2 lo hi xs)):=by
 intro g H w hw
 refine qe Tryz.func158 Tryz.ntmps158 hw ?_
 have hln:=hS.len
 refine zR (zA (zN (Qo (zR ?_))))
 refine zM ?_
 refine zQ ZF ?_
 refine zM (zN (Qx ?_))
 refine zU [(0,_),(1,_),(9,_),(10,_)] (fun T L0 mz E I' loc'=>∃ (k:Nat),mz=n-k∧E=(11,.int .i64 k)::T∧I=I'∧L0=loc'∧k≤n∧zf2 lo hi (xs.take k)=true) ?_ (h:=⟨0,rfl,rfl,rfl,rfl,Nat.zero_le _,rfl⟩)
 rintro mz E I' loc' ⟨k,rfl,rfl,rfl,rfl,hk,hall⟩
 refine zR (zC (zN (Qo ?_)))
 refine zI ?_ ?_<;>intro hc12
 ·
  have hlt_k:k<n:=by have h:=hc12;simp at h;omega
  obtain ⟨x,hx⟩:∃ x,xs[k]? =some x:=⟨_,List.getElem?_eq_getElem kB⟩
  refine Qp (Qd (Qo (Qx (zR ?_))))
  refine zV (zX ZF hS) ?_
  refine zV (Qc rfl Qm (fun hg=>by exact zzX hS hx rfl)) ?_
  refine zA ?_
  refine zN (zR ?_)
  refine zM ?_
  refine zM ?_
  refine zC ?_
  refine zM ?_
  refine QK 3 rfl rfl rfl ?_
  refine zJ (Qe rfl) ?_
  refine zJ (Qe rfl) ?_
  refine zJ (Qz rfl rfl rfl) ?_
  refine Zg rfl rfl rfl rfl rfl ?_
  refine zN ?_
  refine zI ?_ ?_<;>intro hc22
  ·
   refine zR (zA (zN (Qs (Qk (Qf (Qf (Qk ?_)))))))
   refine Qf ?_
   first
   | exact zr rfl rfl (by rw [show zf2 lo hi xs=false from by unfold zf2;rw [←List.take_append_drop (k+1) xs,List.all_append,List.take_add_one,hx,List.all_append];simp only [Option.toList,List.all_cons,List.all_nil];rw [show (decide (x<lo)||decide (x>hi))=true from hc22];simp])
  refine Qp (Qj (Qd (Qi (zB ?_))))
  refine zM (Qb ?_)
  exact zm (h:=⟨n-(k+1),kB,k+1,rfl,rfl,rfl,rfl,kB,by unfold zf2 at hall ⊢;rw [List.take_add_one,hx,List.all_append,hall];simp only [Option.toList,List.all_cons,List.all_nil,Bool.and_true,Bool.true_and];rw [show (decide (x<lo)||decide (x>hi))=false from hc22];rfl⟩)
 have hge_k:n≤k:=by have h:=hc12;simp at h;omega
 have hke:xs.take k=xs:=List.take_of_length_le kB
 rw [hke] at hall
 refine Q6 (Qn (Qn (Qw (Qd (zR (zA (zN ?_)))))))
 refine Qs ?_
 exact zr rfl rfl (by rw [hall])
def zeP:List Value:=[.nilFunc,.int .i64 0,.int .i64 0,.int .i64 0,.func (.func 210) #[] #[],.int .i64 1,.int .i64 3,.int .i64 2,.func (.func 211) #[] #[],.int .i64 1,.int .i64 1048576,.int .i64 2,.func (.func 212) #[] #[],.int .i64 1,.int .i64 16,.int .i64 0,.func (.func 213) #[] #[],.int .i64 0,.int .i64 16,.int .i64 0,.func (.func 214) #[] #[],.int .i64 0,.int .i64 500,.int .i64 0,.func (.func 215) #[] #[],.int .i64 0,.int .i64 1048576,.int .i64 0]
theorem zpJ {ck:Int}(h:Vw ck 1 6=true):∃ fn:Nat,((zeP.drop (ck.toNat*4)).take 4)=[.func (.func fn) #[] #[],.int .i64 (XC ck).1,.int .i64 (XC ck).2.1,.int .i64 (XC ck).2.2]:=by
 rcases six h with rfl | rfl | rfl | rfl | rfl | rfl<;>exact ⟨_,rfl⟩
theorem zm5 (I:Qu):ZA Tryz.prog 159 [] I (.agg zeP.toArray):=by
 intro g H w hw
 refine qe Tryz.func159 Tryz.ntmps159 hw ?_
 refine zR ?_
 refine Qr zqn rfl rfl (fun b_0=>?_)
 refine zN (zR ?_)
 refine zV (QI (ps:=[(0,_),(1,_),(2,_),(3,_)]) [_,_,_,_] X1 rfl rfl) ?_
 refine zV (QI (ps:=[(0,_),(1,_),(2,_),(3,_)]) [_,_,_,_] X1 rfl rfl) ?_
 refine zV (QI (ps:=[(0,_),(1,_),(2,_),(3,_)]) [_,_,_,_] X1 rfl rfl) ?_
 refine zV (QI (ps:=[(0,_),(1,_),(2,_),(3,_)]) [_,_,_,_] X1 rfl rfl) ?_
 refine zV (QI (ps:=[(0,_),(1,_),(2,_),(3,_)]) [_,_,_,_] X1 rfl rfl) ?_
 refine zV (QI (ps:=[(0,_),(1,_),(2,_),(3,_)]) [_,_,_,_] X1 rfl rfl) ?_
 refine zV (Vr (ps:=[(1,_),(2,_),(3,_),(4,_),(5,_),(6,_)]) [_,_,_,_,_,_,_,_,_,_,_,_,_,_,_,_,_,_,_,_,_,_,_,_,_,_,_,_] zdy zqn rfl rfl) ?_
 refine zh zr4 ?_
 refine zN (Qs ?_)
 exact ZX rfl rfl zrn Cells.g0 rfl (fun w hw=>⟨rfl,hw.drop⟩)
theorem zwL (I:Qu)(ck cl cn:Int):ZA Tryz.prog 93 [.agg #[.int .i64 ck,.int .i64 cl,.int .i64 cn]] I (.bool (zfA ck cl cn)):=by
 intro g H w hw
 refine qe Tryz.func93 Tryz.ntmps93 hw ?_
 have hIc:=zz4 I
 refine zR ?_
 refine QO rfl rfl rfl (fun b_1=>?_)
 refine zA (zN (Qo (zR ?_)))
 refine zF Xf ?_
 refine zL Qm ?_
 refine zpb [(0,_)] [Z5 ck] Vb (fun b_6=>?_)
 refine QQ (by repeat (first | exact ZQ.here | apply ZQ.there)) (fun I1 hI1 hb1=>?_)
 have hIc:=hIc.trans hI1
 have hA:=Sl.lit ([ck]:List Int) rfl YJ (show I1 b_6=some (Obj.cells (([ck]:List Int).flatMap Z5).toArray 3 (0,0)) from hb1)
 refine qcV (vs:=[_,_,_]) rfl zdD (zd1 hA kH 1 6) ?_
 rw [Xm]
 refine zO (zN ?_)
 refine zI ?_ ?_<;>intro hc8
 ·
  have hck:Vw ck 1 6=false:=by simpa using hc8
  refine zR (zA (zN (Qs (Qf ?_))))
  exact zp hIc rfl rfl (by rw [znd hck])
 have hck:Vw ck 1 6=true:=by simpa using hc8
 obtain ⟨fn,hrow⟩:=zpJ hck
 have h16:=six hck
 refine Qp (Qd ?_)
 refine zY [(1,_)] (fun T L0 E I' loc'=>∃ (p3:Nat),E=(3,Zw p3)::T∧I1=I'∧[(p3,.cells #[.func (.func fn) #[] #[],.int .i64 (XC ck).1,.int .i64 (XC ck).2.1,.int .i64 (XC ck).2.2] 224 (0,0)),(b_1,.cells #[.int .i64 ck,.int .i64 cl,.int .i64 cn] 30 (0,0))]=loc'∧True) ?_ ?_
 ·
  have hD:=zz4 I1
  refine Zn ?_
  refine QL I1 [(b_1,.cells #[.int .i64 ck,.int .i64 cl,.int .i64 cn] 30 (0,0))] mixed ?_
  refine zT 1 rfl (Qa rfl Xf) hD ?_
  refine zT 2 rfl (Qc rfl Qm (fun hg=>by exact QA.h0 rfl)) hD ?_
  refine QS 0 4 rfl rfl kA ?_ ?_
  ·
   refine qcV (vs:=[]) rfl zkT (zm5 _) ?_
   refine Qb ?_
   refine zD hD ?_
   refine QS 3 4 rfl rfl kA ?_ ?_
   ·
    refine zV (Kg (XM rfl rfl zdy zgA (fun hg=>kB)) (congrArg (fun l:List Value=>Value.agg l.toArray) hrow)) ?_
    refine Qb ?_
    refine zD hD ?_
    refine qd 4 rfl ?_
    refine Qr zlA rfl rfl (fun b_3=>?_)
    refine Qb ?_
    refine zD hD ?_
    refine qd 5 rfl ?_
    refine zh zgz ?_
    refine Qb ?_
    refine zD hD ?_
    refine Ql kA ?_
    refine Qt ?_
    exact zm (h:=⟨_,rfl,rfl,rfl,trivial⟩)
   refine Qr zlA rfl rfl (fun b_3=>?_)
   refine Qb ?_
   refine zD hD ?_
   refine qd 3 rfl ?_
   refine zV (Kg (XM rfl rfl zdy zgA (fun hg=>kB)) (congrArg (fun l:List Value=>Value.agg l.toArray) hrow)) ?_
   refine Qb ?_
   refine zD hD ?_
   refine qd 5 rfl ?_
   refine zh zgz ?_
   refine Qb ?_
   refine zD hD ?_
   refine Ql kA ?_
   refine Qt ?_
   exact zm (h:=⟨_,rfl,rfl,rfl,trivial⟩)
  refine Qr zlA rfl rfl (fun b_3=>?_)
  refine Qb ?_
  refine zD hD ?_
  refine qd 0 rfl ?_
  refine qcV (vs:=[]) rfl zkT (zm5 _) ?_
  refine Qb ?_
  refine zD hD ?_
  refine qd 3 rfl ?_
  refine zV (Kg (XM rfl rfl zdy zgA (fun hg=>kB)) (congrArg (fun l:List Value=>Value.agg l.toArray) hrow)) ?_
  refine Qb ?_
  refine zD hD ?_
  refine qd 5 rfl ?_
  refine zh zgz ?_
  refine Qb ?_
  refine zD hD ?_
  refine Ql kA ?_
  refine Qt ?_
  exact zm (h:=⟨_,rfl,rfl,rfl,trivial⟩)
 rintro E I' loc' ⟨p3,rfl,rfl,rfl,_⟩
 refine Qo ?_
 cases hlb:Vw cl 0 (XC ck).2.2
 ·
  refine Qi ?_
  refine zF ze1 ?_
  refine zL Qm ?_
  refine zF JC ?_
  refine zL Qm ?_
  refine zpb [(0,_)] [Z5 cl] Vb (fun b_17=>?_)
  refine QQ (by repeat (first | exact ZQ.here | apply ZQ.there)) (fun I3 hI3 hb3=>?_)
  have hIc:=hIc.trans hI3
  have hB:=Sl.lit ([cl]:List Int) rfl YJ (show I3 b_17=some (Obj.cells (([cl]:List Int).flatMap Z5).toArray 3 (0,0)) from hb3)
  refine qcV (vs:=[_,_,_]) rfl zdD (zd1 hB kH 0 _) ?_
  rw [Xm]
  rw [hlb]
  refine zM ?_
  refine ZU (dj:=19) rfl rfl rfl rfl rfl ?_
  refine ZU (dj:=19) rfl rfl rfl rfl rfl ?_
  refine ZU (dj:=19) rfl rfl rfl rfl rfl ?_
  refine ZU (dj:=19) rfl rfl rfl rfl rfl ?_
  refine ZU (dj:=19) rfl rfl rfl rfl rfl ?_
  refine ZU (dj:=19) rfl rfl rfl rfl rfl ?_
  refine ZU (dj:=19) rfl rfl rfl rfl rfl ?_
  refine ZU (dj:=19) rfl rfl rfl rfl rfl ?_
  refine zV (Z6 rfl rfl rfl) ?_
  refine zA (zN (Qs ?_))
  first
  | exact zp hIc rfl rfl (by rw [zkB hck hlb]<;>rfl)
 refine Qi ?_
 refine zF ze1 ?_
 refine zL Qm ?_
 refine zF JC ?_
 refine zL Qm ?_
 refine zpb [(0,_)] [Z5 cl] Vb (fun b_17=>?_)
 refine QQ (by repeat (first | exact ZQ.here | apply ZQ.there)) (fun I4 hI4 hb4=>?_)
 have hIc:=hIc.trans hI4
 have hB:=Sl.lit ([cl]:List Int) rfl YJ (show I4 b_17=some (Obj.cells (([cl]:List Int).flatMap Z5).toArray 3 (0,0)) from hb4)
 refine qcV (vs:=[_,_,_]) rfl zdD (zd1 hB kH 0 _) ?_
 rw [Xm]
 rw [hlb]
 refine zM ?_
 refine QP (dj:=19) rfl rfl rfl ?_
 refine zF zmD ?_
 refine QP (dj:=19) rfl rfl rfl ?_
 refine zL Qm ?_
 refine QP (dj:=19) rfl rfl rfl ?_
 refine zF zlB ?_
 refine QP (dj:=19) rfl rfl rfl ?_
 refine zL Qm ?_
 refine QP (dj:=19) rfl rfl rfl ?_
 refine zF J6 ?_
 refine QP (dj:=19) rfl rfl rfl ?_
 refine zL Qm ?_
 refine QP (dj:=19) rfl rfl rfl ?_
 refine zpb [(0,_)] [Z5 cn] Vb (fun b_26=>?_)
 refine QQ (by repeat (first | exact ZQ.here | apply ZQ.there)) (fun I5 hI5 hb5=>?_)
 have hIc:=hIc.trans hI5
 have hC:=Sl.lit ([cn]:List Int) rfl YJ (show I5 b_26=some (Obj.cells (([cn]:List Int).flatMap Z5).toArray 3 (0,0)) from hb5)
 refine QP (dj:=19) rfl rfl rfl ?_
 refine qcV (vs:=[_,_,_]) rfl zdD (zd1 hC kH _ _) ?_
 refine zV (QW rfl rfl rfl) ?_
 refine zA (zN (Qs ?_))
 first
 | exact zp hIc rfl rfl (by rw [zpu hck hlb,←Xm];rfl)
end
section
open Go Go.Kn Go.Proofs
theorem zal:AgT Tryz.prog 30 3:=.of kA
theorem zmB:EqT Tryz.prog 30 [.int,.int,.int]:=⟨kA,kA,kA,kA⟩
theorem Ye:QJ Tryz.prog 32 0 0:=.of kA
theorem V2:QJ Tryz.prog 32 1 1:=.of kA
theorem YM:QJ Tryz.prog 32 2 2:=.of kA
theorem Wd:QJ Tryz.prog 32 3 3:=.of kA
theorem KK:QJ Tryz.prog 32 4 4:=.of kA
theorem Kb:QJ Tryz.prog 32 5 5:=.of kA
theorem JF:QJ Tryz.prog 32 6 6:=.of kA
theorem zqZ:Fun Tryz.prog 90:=.of Tryz.func90 kA kA
theorem zwW:Fun Tryz.prog 93:=.of Tryz.func93 kA kA
theorem QY:MpT Tryz.prog 136 3 4 (.bool false):=⟨kA,.of kA⟩
theorem zcS:PlT Tryz.prog 30 #[(0,1),(1,1),(2,1)] (.agg #[(.int .i64 0),(.int .i64 0),(.int .i64 0)]):=⟨.of kA,kA,fun w=>kA⟩
theorem zmG:ScT Tryz.prog 136:=.of kA
theorem zkK (I:Qu)(n lo hi:Int):ZA Tryz.prog 90 [.int .i64 n,.int .i64 lo,.int .i64 hi] I (.bool (Vw n lo hi)):=by
 intro g H w hw
 refine qe Tryz.func90 Tryz.ntmps90 hw ?_
 refine zR (zA ?_)
 refine zN (zR ?_)
 refine zM ?_
 refine zM ?_
 refine zC ?_
 refine zM ?_
 refine Qq 3 rfl rfl rfl ?_
 refine zK (Qe rfl) ?_
 refine zK (Qe rfl) ?_
 refine zK (Qz rfl rfl rfl) ?_
 refine QB rfl rfl rfl rfl rfl ?_
 refine zA (zN (Qs ?_))
 exact Qy rfl rfl (fun w hw=>⟨rfl,hw.drop⟩)
theorem zvS {I:Qu}{b7:Nat}{x:Lm}(hX:I b7=some (.cells (Zh x).toArray 32 (0,0)))(b5:Nat)(last:Int):Vs Tryz.prog 89 [Zw b7,Zw b5] I [(b5,.cells #[.int .i64 last] 3 (0,0))] (fun v I' L'=>v= .bool (zp1 last x)∧I'=I∧L'=[(b5,.cells #[.int .i64 last] 3 (0,0))]):=by
 intro g H w hw
 refine qe Tryz.func89 Tryz.ntmps89 hw ?_
 refine zR (zA ?_)
 refine zN (zR ?_)
 refine zF Ye ?_
 refine zV (Qc rfl Qm (fun hg=>by exact QA.imm hX rfl)) ?_
 refine zL Qm ?_
 refine zC ?_
 refine zM ?_
 refine QK 4 rfl rfl rfl ?_
 refine zJ (Qa rfl Ye) ?_
 refine zJ (Qc rfl Qm (fun hg=>by exact QA.imm hX rfl)) ?_
 refine zJ (Qz rfl rfl rfl) ?_
 refine Zg rfl rfl rfl rfl rfl ?_
 refine zM ?_
 refine QK 9 rfl rfl rfl ?_
 refine zJ (Qa rfl V2) ?_
 refine zJ (Qc rfl Qm (fun hg=>by exact QA.imm hX rfl)) ?_
 refine qf (vs:=[_,_,_]) rfl zqZ (fun hg=>zkK _ _ _ _) ?_
 refine zJ (Zs rfl) ?_
 refine Zg rfl rfl rfl rfl rfl ?_
 refine zA (zN (Qs ?_))
 exact Qy rfl rfl (fun w hw=>⟨_,I,_,rfl,zz4 _,hw,rfl,rfl,rfl⟩)
theorem zvW {I:Qu}{b7:Nat}{x:Lm}(hX:I b7=some (.cells (Zh x).toArray 32 (0,0))):ZA Tryz.prog 91 [Zw b7] I (.bool (zno x)):=by
 intro g H w hw
 refine qe Tryz.func91 Tryz.ntmps91 hw ?_
 refine zR (zA ?_)
 refine zN (zR ?_)
 refine zF Wd ?_
 refine zV (Qc rfl Qm (fun hg=>by exact QA.imm hX rfl)) ?_
 refine zC ?_
 refine zM ?_
 refine QK 3 rfl rfl rfl ?_
 refine zJ (Qa rfl Wd) ?_
 refine zJ (Qc rfl Qm (fun hg=>by exact QA.imm hX rfl)) ?_
 refine zJ (Qa rfl KK) ?_
 refine zJ (Qc rfl Qm (fun hg=>by exact QA.imm hX rfl)) ?_
 refine zJ (Qz rfl rfl rfl) ?_
 refine Zg rfl rfl rfl rfl rfl ?_
 refine zM ?_
 refine QK 10 rfl rfl rfl ?_
 refine zJ (Qa rfl KK) ?_
 refine zJ (Qc rfl Qm (fun hg=>by exact QA.imm hX rfl)) ?_
 refine zJ (Qz rfl rfl rfl) ?_
 refine Zg rfl rfl rfl rfl rfl ?_
 refine zM ?_
 refine QK 15 rfl rfl rfl ?_
 refine zJ (Qa rfl Kb) ?_
 refine zJ (Qc rfl Qm (fun hg=>by exact QA.imm hX rfl)) ?_
 refine qf (vs:=[_,_,_]) rfl zqZ (fun hg=>zkK _ _ _ _) ?_
 refine zJ (Zs rfl) ?_
 refine Zg rfl rfl rfl rfl rfl ?_
 refine zA (zN (Qs ?_))
 exact Qy rfl rfl (fun w hw=>⟨rfl,hw.drop⟩)
theorem zeS {I:Qu}{loc:Go.Kn.Loc}{b7:Nat}{x:Lm}(hX:I b7=some (.cells (Zh x).toArray 32 (0,0))):Cells I loc b7 (0+6) [.int .i64 x.ck,.int .i64 x.cl,.int .i64 x.cn]:=by
 intro j v hj
 match j,hj with
 | 0,h=>cases h;exact QA.imm hX rfl
 | 1,h=>cases h;exact QA.imm hX rfl
 | 2,h=>cases h;exact QA.imm hX rfl
theorem zxT {I:Qu}{b7:Nat}{x:Lm}(hX:I b7=some (.cells (Zh x).toArray 32 (0,0))):ZA Tryz.prog 92 [Zw b7] I (.bool (znj x)):=by
 intro g H w hw
 refine qe Tryz.func92 Tryz.ntmps92 hw ?_
 refine zR (zA ?_)
 refine zN (zR ?_)
 refine zF JF ?_
 refine zV (Qg rfl zal (fun hg=>zeS hX) rfl) ?_
 refine qcV (vs:=[_]) rfl zwW (zwL _ _ _ _) ?_
 refine zO ?_
 refine zM ?_
 refine Qq 4 rfl rfl rfl ?_
 refine zK (Qa rfl JF) ?_
 refine zK (Qg rfl zal (fun hg=>by exact zeS hX) rfl) ?_
 refine zK (QI (ps:=[]) [_,_,_] zcS rfl rfl) ?_
 refine zK (zm7 rfl rfl zmB rfl) ?_
 refine zK (Qe rfl) ?_
 refine QK 9 rfl rfl rfl ?_
 refine zJ (Qa rfl YM) ?_
 refine zJ (Qc rfl Qm (fun hg=>by exact QA.imm hX rfl)) ?_
 refine zJ (Qz rfl rfl rfl) ?_
 refine zbi rfl rfl rfl (.some rfl rfl rfl rfl gbt) rfl rfl ?_
 refine QB rfl rfl rfl rfl rfl ?_
 refine zA (zN (Qs ?_))
 exact Qy rfl rfl (fun w hw=>⟨rfl,hw.drop⟩)
theorem zxf {I:Qu}{b7:Nat}{x:Lm}(hX:I b7=some (.cells (Zh x).toArray 32 (0,0))){b9 b4 b8 r16:Nat}{met:Bool}{old:Lm}(hM:I b9=some (.cells #[.bool met] 4 (0,0)))(h4:I b4=some (.cells #[.map (some r16)] 136 (0,0)))(hO:I b8=some (.cells (Zh old).toArray 32 (0,0)))(m:List (Int×Bool)){b5:Nat}{o5:Obj}:Vs Tryz.prog 94 [Zw b7,Zw b9,Zw b4,Zw b8] I [(b5,o5),(r16,Yo (.int .i64) .bool m)] (fun v I' L'=>v= .bool (zrV met ((Zt m x.ends).getD false) old x)∧I'=I∧L'=[(b5,o5),(r16,Yo (.int .i64) .bool m)]):=by
 intro g H w hw
 refine qe Tryz.func94 Tryz.ntmps94 hw ?_
 refine zR (zA ?_)
 refine zN (zR ?_)
 refine zF YM ?_
 refine zV (Qc rfl Qm (fun hg=>by exact QA.imm hX rfl)) ?_
 refine zC ?_
 refine zM ?_
 refine Qq 3 rfl rfl rfl ?_
 refine zK (Qc rfl znX (fun hg=>by exact QA.imm hM rfl)) ?_
 refine zK (Zs rfl) ?_
 refine zK (Qe rfl) ?_
 refine QK 6 rfl rfl rfl ?_
 refine zJ (Qc rfl zmG (fun hg=>by exact QA.imm h4 rfl)) ?_
 refine zJ (Qa rfl YM) ?_
 refine zJ (Qc rfl Qm (fun hg=>by exact QA.imm hX rfl)) ?_
 refine zJ (YL (m:=m) (ek:=Value.int .i64) (a:=x.ends) QY Q3 rfl rfl (fun _=>(by exact Mem.m1))) ?_
 refine zbi rfl rfl rfl (.some rfl rfl rfl rfl gbt) rfl rfl ?_
 refine zK (Qe rfl) ?_
 refine QK 12 rfl rfl rfl ?_
 refine zJ (Qa rfl V2) ?_
 refine zJ (Qc rfl Qm (fun hg=>by exact QA.imm hO rfl)) ?_
 refine zJ (Qa rfl V2) ?_
 refine zJ (Qc rfl Qm (fun hg=>by exact QA.imm hX rfl)) ?_
 refine zJ (Qz rfl rfl rfl) ?_
 refine zbi rfl rfl rfl (.some rfl rfl rfl rfl gbt) rfl rfl ?_
 refine zK (Qe rfl) ?_
 refine QK 19 rfl rfl rfl ?_
 refine zJ (Qa rfl Kb) ?_
 refine zJ (Qc rfl Qm (fun hg=>by exact QA.imm hO rfl)) ?_
 refine zJ (Qa rfl Kb) ?_
 refine zJ (Qc rfl Qm (fun hg=>by exact QA.imm hX rfl)) ?_
 refine zJ (Qz rfl rfl rfl) ?_
 refine zbi rfl rfl rfl (.some rfl rfl rfl rfl gbt) rfl rfl ?_
 refine QB rfl rfl rfl rfl rfl ?_
 refine zA (zN (Qs ?_))
 exact Qy rfl rfl (fun w hw=>⟨_,I,_,rfl,zz4 _,hw,rfl,rfl,rfl⟩)
end
section
open Go Go.Kn Go.Proofs
theorem V7:AgT Tryz.prog 32 9:=.of kA
theorem zt7:ElT Tryz.prog 140 48 1 8:=.of kA
theorem zuV:Fun Tryz.prog 89:=.of Tryz.func89 kA kA
theorem zxD:Fun Tryz.prog 91:=.of Tryz.func91 kA kA
theorem zwM:Fun Tryz.prog 92:=.of Tryz.func92 kA kA
theorem zwI:Fun Tryz.prog 94:=.of Tryz.func94 kA kA
theorem XP:MpT Tryz.prog 135 3 32 (.agg #[(.int .i64 0),(.int .i64 0),(.int .i64 0),(.int .i64 0),(.int .i64 0),(.int .i64 0),(.int .i64 0),(.int .i64 0),(.int .i64 0)]):=⟨kA,.of kA⟩
theorem zgU:ScT Tryz.prog 48:=.of kA
theorem zbV:SlT Tryz.prog 140 48 1:=.of kA
theorem Zx:SlT Tryz.prog 62 32 9:=.of kA
theorem ztn:SzT Tryz.prog 136 1:=.of kA
theorem zad:SzT Tryz.prog 32 9:=.of kA
theorem zu5:Y9 Tryz.prog 136 (.map none):=.of kA
theorem zzJ:Y9 Tryz.prog 3 (.int .i64 0):=.of kA
theorem ze2:Y9 Tryz.prog 32 (.agg #[(.int .i64 0),(.int .i64 0),(.int .i64 0),(.int .i64 0),(.int .i64 0),(.int .i64 0),(.int .i64 0),(.int .i64 0),(.int .i64 0)]):=.of kA
theorem zzD:Y9 Tryz.prog 4 (.bool false):=.of kA
theorem zb2 {I:Qu}{av:Option Addr}{n c:Nat}{xs:List Lm}(hS:Sl I 9 Zh av n c xs)(hn:n≤100000):ZA Tryz.prog 37 [.slice av n c] I (.int .i64 (zcX xs)):=by
 intro g H w hw
 refine qe Tryz.func37 Tryz.ntmps37 hw ?_
 have hIc:=zz4 I
 have hln:=hS.len
 refine zR (zA (zN (Qo (zR ?_))))
 refine zM ?_
 refine zQ Zx ?_
 refine zC (zN ?_)
 refine zI ?_ ?_<;>intro hc14
 ·
  have h5:xs.length>512:=by have h:=hc14;simp at h;omega
  refine zR (zA (zN (Qs (Qf ?_))))
  exact zp hIc rfl rfl (by rw [zhb h5])
 have h5:¬xs.length>512:=by have h:=hc14;simp at h;omega
 refine Qp (Qd (zR ?_))
 refine Z7 rfl rfl (fun r_15=>?_)
 refine zA ?_
 refine zN (zR ?_)
 refine Z7 rfl rfl (fun r_16=>?_)
 refine Qr zu5 rfl rfl (fun b_4=>?_)
 refine zS ztn ?_
 refine Qb ?_
 refine QF .here (fun I1 hI1 hb1=>?_)
 have hS:=hS.mono hI1;have hIc:=hIc.trans hI1
 have h4:=BxI.of hb1
 refine Qd (zR ?_)
 refine Qr zzJ rfl rfl (fun b_5=>?_)
 refine zS Wj ?_
 refine zN (Qo (zR (zM ?_)))
 refine zQ Zx ?_
 refine zM (zN (Qx ?_))
 refine zU [(3,_),(4,_),(5,_),(17,_),(18,_)] (fun T L0 mz E I' loc'=>∃ (k:Nat),mz=n-k∧E=(19,.int .i64 k)::T∧HLe I1 I'∧[(b_5,.cells #[.int .i64 (WL (xs.take k))] 3 (0,0)),(r_16,Yo (.int .i64) .bool (rpM (xs.take k))),(r_15,Yo (.int .i64) Ji (knM (xs.take k)))]=loc'∧k≤n∧(∀ j y,j<k→xs[j]? =some y→zcq (xs.take j) y=false)) ?_ (h:=⟨0,rfl,rfl,zz4 _,rfl,Nat.zero_le _,fun j y h=>absurd h (Nat.not_lt_zero _)⟩)
 rintro mz E J2 loc' ⟨k,rfl,rfl,hJ,rfl,hk,hall⟩
 have hS:=hS.mono hJ;have h4:=h4.mono hJ;have hIc:=hIc.trans hJ
 have hB0:=hJ
 refine zR (zC (zN (Qo ?_)))
 refine zI ?_ ?_<;>intro hc20
 ·
  have hlt_k:k<n:=by have h:=hc20;simp at h;omega
  obtain ⟨x,hx⟩:∃ x,xs[k]? =some x:=⟨_,List.getElem?_eq_getElem kB⟩
  refine Qp (Qd (Qo (Qx (zR ?_))))
  refine zV (zX Zx hS) ?_
  refine zV (Qg rfl V7 (fun hg=>by exact zz5 hS hx) rfl) ?_
  refine Qr ze2 rfl rfl (fun b_7=>?_)
  refine zh zad ?_
  refine zN (zR ?_)
  refine zM ?_
  refine zF YM ?_
  refine zL Qm ?_
  refine zV (WZ rfl rfl rfl) ?_
  refine zV (zeT Vk ((zhG (xs.take k) x).getD Vk) ((zhG (xs.take k) x).isSome) rfl rfl rfl (ek:=Value.int .i64) (ev:=Ji) (m:=knM (xs.take k)) (a:=IntKind.i64.wrap (x.ends-1)) XP Q3 rfl rfl (fun _=>(by exact Mem.m3))) ?_
  refine zM ?_
  refine zE ?_
  refine zE ?_
  refine Qr ze2 rfl rfl (fun b_8=>?_)
  refine Qr zzD rfl rfl (fun b_9=>?_)
  refine zh zad ?_
  refine zS zyH ?_
  refine zN (Qo (Qo ?_))
  refine QF .here (fun I3 hI3 hb3=>?_)
  have hS:=hS.mono hI3;have h4:=h4.mono hI3;have hIc:=hIc.trans hI3;have hB0:=hB0.trans hI3
  have h9:=BxI.of hb3
  refine QF .here (fun I4 hI4 hb4=>?_)
  have hS:=hS.mono hI4;have h4:=h4.mono hI4;have h9:=h9.mono hI4;have hIc:=hIc.trans hI4;have hB0:=hB0.trans hI4
  have h8:=BxI.of hb4
  refine QF .here (fun I5 hI5 hb5=>?_)
  have hS:=hS.mono hI5;have h4:=h4.mono hI5;have h9:=h9.mono hI5;have h8:=h8.mono hI5;have hIc:=hIc.trans hI5;have hB0:=hB0.trans hI5
  have h7:=BxI.of hb5
  refine Qi ?_
  refine zV (Yz (us:=[]) (vs:=[_,_]) rfl rfl) ?_
  refine zV (Yz (us:=[]) (vs:=[_]) rfl rfl) ?_
  refine zV (Yz (us:=[]) (vs:=[_]) rfl rfl) ?_
  refine zV (Yz (us:=[]) (vs:=[_,_,_,_]) rfl rfl) ?_
  refine zpb [(0,_),(1,_),(2,_),(3,_)] [ziK (.func (.func 89) #[] #[Zw b_7,Zw b_5]),ziK (.func (.func 91) #[] #[Zw b_7]),ziK (.func (.func 92) #[] #[Zw b_7]),ziK (.func (.func 94) #[] #[Zw b_7,Zw b_9,Zw b_4,Zw b_8])] zt7 (fun b_35=>?_)
  refine QQ (by repeat (first | exact ZQ.here | apply ZQ.there)) (fun I6 hI6 hb6=>?_)
  have hS:=hS.mono hI6;have h4:=h4.mono hI6;have h9:=h9.mono hI6;have h8:=h8.mono hI6;have h7:=h7.mono hI6;have hIc:=hIc.trans hI6;have hB0:=hB0.trans hI6
  have hF:=Sl.lit ([.func (.func 89) #[] #[Zw b_7,Zw b_5],.func (.func 91) #[] #[Zw b_7],.func (.func 92) #[] #[Zw b_7],.func (.func 94) #[] #[Zw b_7,Zw b_9,Zw b_4,Zw b_8]]:List Value) rfl zjG (show I6 b_35=some (Obj.cells (([.func (.func 89) #[] #[Zw b_7,Zw b_5],.func (.func 91) #[] #[Zw b_7],.func (.func 92) #[] #[Zw b_7],.func (.func 94) #[] #[Zw b_7,Zw b_9,Zw b_4,Zw b_8]]:List Value).flatMap ziK).toArray 48 (0,0)) from hb6)
  refine zQ zbV ?_
  refine zM (zN (Qx ?_))
  refine zU [(3,_),(4,_),(5,_),(7,_),(17,_),(18,_),(19,_),(35,_),(36,_)] (fun T L0 mz E I' loc'=>∃ (i:Nat),mz=4-i∧E=(37,.int .i64 i)::T∧I6=I'∧[(b_5,.cells #[.int .i64 (WL (xs.take k))] 3 (0,0)),(r_16,Yo (.int .i64) .bool (rpM (xs.take k))),(r_15,Yo (.int .i64) Ji (knM (xs.take k)))]=loc'∧i≤4∧(0<i→zp1 (WL (xs.take k)) x=false)∧(1<i→zno x=false)∧(2<i→znj x=false)∧(3<i→zrV (zhG (xs.take k) x).isSome ((Zt (rpM (xs.take k)) x.ends).getD false) ((zhG (xs.take k) x).getD Vk) x=false)) ?_ (h:=⟨0,rfl,rfl,rfl,rfl,Nat.zero_le _,fun h=>absurd h kB,fun h=>absurd h kB,fun h=>absurd h kB,fun h=>absurd h kB⟩)
  rintro mz E I' loc' ⟨i,rfl,rfl,rfl,rfl,hi,q0,q1,q2,q3⟩
  refine zR (zC (zN (Qo ?_)))
  refine zI ?_ ?_<;>intro hc38
  ·
   have hi4:i<4:=by have h:=hc38;simp at h;omega
   refine Qp (Qd (Qo (Qx (Qo ?_))))
   rcases (show i=0∨i=1∨i=2∨i=3 by omega) with hi | hi | hi | hi
   ·
    have hfi:([.func (.func 89) #[] #[Zw b_7,Zw b_5],.func (.func 91) #[] #[Zw b_7],.func (.func 92) #[] #[Zw b_7],.func (.func 94) #[] #[Zw b_7,Zw b_9,Zw b_4,Zw b_8]]:List Value)[i]? =some (.func (.func 89) #[] #[Zw b_7,Zw b_5]):=by rw [hi];rfl
    refine Qi ?_
    refine zV (QE rfl rfl zbV kJ (fun hg=>kB)) ?_
    refine zV (Qc rfl zgU (fun hg=>by exact zzX hF hfi rfl)) ?_
    refine zA ?_
    refine zN (zR ?_)
    refine zM ?_
    refine KL (cap:=[Zw b_7,Zw b_5]) (vs:=[]) rfl rfl zuV (.cons .here .nil) (zvS h7.out b_5 _) rfl rfl ?_
    rintro vv8 I8 L8 hI8 ⟨rfl,rfl,rfl⟩
    have hIc:=hIc.trans hI8
    refine zN ?_
    refine zI ?_ ?_<;>intro hc42
    ·
     refine zR (zA (zN (Qs (Qk (Qf (Qf (Qk ?_)))))))
     refine Qf (Qk (Qf (Qf (Qk (Qf ?_)))))
     exact zp hIc rfl rfl (by rw [VO h5 hx (zwf hc42)])
    refine Qp (Qj (Qd (Qi (zB ?_))))
    refine zM (Qb ?_)
    exact Zc _ _ ⟨4-(i+1),kB,i+1,rfl,rfl,rfl,rfl,kB,fun _=>by exact hc42,fun h=>by exact absurd h kB,fun h=>by exact absurd h kB,fun h=>by exact absurd h kB⟩ (.cons rfl (.cons rfl (.cons rfl (.cons rfl (.cons rfl (.cons rfl (.cons rfl (.cons rfl (.cons rfl (.cons rfl .nil)))))))))) (by (try rw [Zd hx,Ko,U8,U4]);repeat (first | exact .refl | exact QH | refine QZ ?_ | refine .drop ?_ | refine QN ?_))
   ·
    have hfi:([.func (.func 89) #[] #[Zw b_7,Zw b_5],.func (.func 91) #[] #[Zw b_7],.func (.func 92) #[] #[Zw b_7],.func (.func 94) #[] #[Zw b_7,Zw b_9,Zw b_4,Zw b_8]]:List Value)[i]? =some (.func (.func 91) #[] #[Zw b_7]):=by rw [hi];rfl
    refine Qi ?_
    refine zV (QE rfl rfl zbV kJ (fun hg=>kB)) ?_
    refine zV (Qc rfl zgU (fun hg=>by exact zzX hF hfi rfl)) ?_
    refine zA ?_
    refine zN (zR ?_)
    refine zM ?_
    refine KL (cap:=[Zw b_7]) (vs:=[]) rfl rfl zxD .nil ((zvW h7.out).m) rfl rfl ?_
    rintro vv9 I9 L9 hI9 ⟨rfl,rfl,rfl⟩
    have hIc:=hIc.trans hI9
    refine zN ?_
    refine zI ?_ ?_<;>intro hc42
    ·
     refine zR (zA (zN (Qs (Qk (Qf (Qf (Qk ?_)))))))
     refine Qf (Qk (Qf (Qf (Qk (Qf ?_)))))
     exact zp hIc rfl rfl (by rw [VO h5 hx (zxq hc42)])
    refine Qp (Qj (Qd (Qi (zB ?_))))
    refine zM (Qb ?_)
    exact Zc _ _ ⟨4-(i+1),kB,i+1,rfl,rfl,rfl,rfl,kB,fun _=>by exact q0 kB,fun h=>by exact hc42,fun h=>by exact absurd h kB,fun h=>by exact absurd h kB⟩ (.cons rfl (.cons rfl (.cons rfl (.cons rfl (.cons rfl (.cons rfl (.cons rfl (.cons rfl (.cons rfl (.cons rfl .nil)))))))))) (by (try rw [Zd hx,Ko,U8,U4]);repeat (first | exact .refl | exact QH | refine QZ ?_ | refine .drop ?_ | refine QN ?_))
   ·
    have hfi:([.func (.func 89) #[] #[Zw b_7,Zw b_5],.func (.func 91) #[] #[Zw b_7],.func (.func 92) #[] #[Zw b_7],.func (.func 94) #[] #[Zw b_7,Zw b_9,Zw b_4,Zw b_8]]:List Value)[i]? =some (.func (.func 92) #[] #[Zw b_7]):=by rw [hi];rfl
    refine Qi ?_
    refine zV (QE rfl rfl zbV kJ (fun hg=>kB)) ?_
    refine zV (Qc rfl zgU (fun hg=>by exact zzX hF hfi rfl)) ?_
    refine zA ?_
    refine zN (zR ?_)
    refine zM ?_
    refine KL (cap:=[Zw b_7]) (vs:=[]) rfl rfl zwM .nil ((zxT h7.out).m) rfl rfl ?_
    rintro vv10 I10 L10 hI10 ⟨rfl,rfl,rfl⟩
    have hIc:=hIc.trans hI10
    refine zN ?_
    refine zI ?_ ?_<;>intro hc42
    ·
     refine zR (zA (zN (Qs (Qk (Qf (Qf (Qk ?_)))))))
     refine Qf (Qk (Qf (Qf (Qk (Qf ?_)))))
     exact zp hIc rfl rfl (by rw [VO h5 hx (zws hc42)])
    refine Qp (Qj (Qd (Qi (zB ?_))))
    refine zM (Qb ?_)
    exact Zc _ _ ⟨4-(i+1),kB,i+1,rfl,rfl,rfl,rfl,kB,fun _=>by exact q0 kB,fun h=>by exact q1 kB,fun h=>by exact hc42,fun h=>by exact absurd h kB⟩ (.cons rfl (.cons rfl (.cons rfl (.cons rfl (.cons rfl (.cons rfl (.cons rfl (.cons rfl (.cons rfl (.cons rfl .nil)))))))))) (by (try rw [Zd hx,Ko,U8,U4]);repeat (first | exact .refl | exact QH | refine QZ ?_ | refine .drop ?_ | refine QN ?_))
   have hfi:([.func (.func 89) #[] #[Zw b_7,Zw b_5],.func (.func 91) #[] #[Zw b_7],.func (.func 92) #[] #[Zw b_7],.func (.func 94) #[] #[Zw b_7,Zw b_9,Zw b_4,Zw b_8]]:List Value)[i]? =some (.func (.func 94) #[] #[Zw b_7,Zw b_9,Zw b_4,Zw b_8]):=by rw [hi];rfl
   refine Qi ?_
   refine zV (QE rfl rfl zbV kJ (fun hg=>kB)) ?_
   refine zV (Qc rfl zgU (fun hg=>by exact zzX hF hfi rfl)) ?_
   refine zA ?_
   refine zN (zR ?_)
   refine zM ?_
   refine KL (cap:=[Zw b_7,Zw b_9,Zw b_4,Zw b_8]) (vs:=[]) rfl rfl zwI (.cons .here (.cons .here .nil)) (zxf h7.out h9.out h4.out h8.out (rpM (xs.take k))) rfl rfl ?_
   rintro vv11 I11 L11 hI11 ⟨rfl,rfl,rfl⟩
   have hIc:=hIc.trans hI11
   refine zN ?_
   refine zI ?_ ?_<;>intro hc42
   ·
    refine zR (zA (zN (Qs (Qk (Qf (Qf (Qk ?_)))))))
    refine Qf (Qk (Qf (Qf (Qk (Qf ?_)))))
    exact zp hIc rfl rfl (by rw [VO h5 hx (zwB hc42)])
   refine Qp (Qj (Qd (Qi (zB ?_))))
   refine zM (Qb ?_)
   exact Zc _ _ ⟨4-(i+1),kB,i+1,rfl,rfl,rfl,rfl,kB,fun _=>by exact q0 kB,fun h=>by exact q1 kB,fun h=>by exact q2 kB,fun h=>by exact hc42⟩ (.cons rfl (.cons rfl (.cons rfl (.cons rfl (.cons rfl (.cons rfl (.cons rfl (.cons rfl (.cons rfl (.cons rfl .nil)))))))))) (by (try rw [Zd hx,Ko,U8,U4]);repeat (first | exact .refl | exact QH | refine QZ ?_ | refine .drop ?_ | refine QN ?_))
  have hi4:4≤i:=by have h:=hc38;simp at h;omega
  have hbad:zcq (xs.take k) x=false:=zun (q0 kB) (q1 kB) (q2 kB) (q3 kB)
  refine Q6 (Qn (Qn (Qw (Qd ?_))))
  have hD:=zz4 I6
  refine Zn ?_
  refine QL I6 [] mixed ?_
  refine zT 0 rfl (Qe rfl) hD ?_
  refine zT 1 rfl (Qa rfl Ye) hD ?_
  refine zT 2 rfl (Qc rfl Qm (fun hg=>by exact QA.imm h7.out rfl)) hD ?_
  refine zT 3 rfl (Qc rfl zmG (fun hg=>by exact QA.imm h4.out rfl)) hD ?_
  refine zT 4 rfl (Qa rfl YM) hD ?_
  refine zT 5 rfl (Qc rfl Qm (fun hg=>by exact QA.imm h7.out rfl)) hD ?_
  refine zT 6 rfl (Qa rfl Ye) hD ?_
  refine zT 7 rfl (Qc rfl Qm (fun hg=>by exact QA.imm h7.out rfl)) hD ?_
  refine zT 8 rfl (Qg rfl V7 (fun hg=>by exact BxI.cells (vs:=Zh x) h7) rfl) hD ?_
  refine qd 9 rfl ?_
  refine zS Wj ?_
  refine Qb ?_
  refine zD hD ?_
  refine qd 10 rfl ?_
  refine zx9 (ek:=Value.int .i64) (ev:=Ji) (m:=knM (xs.take k)) (a:=x.no) x XP Q3 ?_
  refine Qb ?_
  refine zD hD ?_
  refine qd 11 rfl ?_
  refine zx9 (ek:=Value.int .i64) (ev:=Value.bool) (m:=rpM (xs.take k)) (a:=x.ends) true QY Q3 ?_
  refine Qb ?_
  refine zD hD ?_
  refine Ql kA ?_
  refine Qt ?_
  refine Qj (Qd (Qi (zB ?_)))
  refine zM (Qb ?_)
  exact Zc _ _ ⟨n-(k+1),kB,k+1,rfl,rfl,hB0,rfl,kB,V4 hx hall hbad⟩ (.cons rfl (.cons rfl (.cons rfl (.cons rfl (.cons rfl (.cons rfl .nil)))))) (by (try rw [Zd hx,Ko,U8,U4]);repeat (first | exact .refl | exact QH | refine QZ ?_ | refine .drop ?_ | refine QN ?_))
 have hge_k:n≤k:=by have h:=hc20;simp at h;omega
 refine Q6 (Qn (Qn (Qw (Qd (zR (zA (zN ?_)))))))
 refine Qs ?_
 exact zp hIc rfl rfl (by rw [zjs h5 (fun j y hj hy=>hall j y kB hy)])
end
section
open Go Go.Kn Go.Proofs
def orF:List Int→Int
 | []=>0
 | x::xs=>if x≠0 then x else orF xs
theorem za1:∀ {xs:List Int},orF xs=0↔ ∀ x∈xs,x=0
 | []=>by simp [orF]
 | x::xs=>by
  unfold orF
  by_cases h:x=0
  ·
   rw [if_neg (by simpa using h),za1];simp [h]
  ·
   rw [if_pos h];simp [h]
theorem zpF {xs:List Int}{k:Nat}{x:Int}(hx:xs[k]? =some x)(h:orF (xs.take k)=0)(hne:x≠0):orF xs=x:=by
 induction xs generalizing k with
 | nil=>simp at hx
 | cons y ys ih=>
  cases k with
  | zero=>
   simp at hx;subst hx
   unfold orF;rw [if_pos hne]
  | succ k=>
   rw [List.take_succ_cons] at h
   unfold orF at h ⊢
   by_cases hy:y=0
   ·
    rw [if_neg (by simpa using hy)] at h ⊢
    exact ih (by simpa using hx) h
   ·
    rw [if_pos hy] at h;exact absurd h hy
def onS (f:Int→Int→Bool)(p:Pt):Int→Int→Bool:=fun a b=>if a=p.id then p.needs.any (fun n=>n==b||f n b) else f a b
def onF (ps:List Pt):Int→Int→Bool:=ps.foldl onS (fun _ _=>false)
def zi6 (ps:List Pt)(n:Int):Bool:=ps.any (fun q=>q.id==n)
def lsP (ps:List Pt)(i:Nat):Bool:= !((decide ((i:Int)>0)&&decide ((ps.getD i V5).id≤(ps.getD ((i:Int)-1).toNat V5).id))||(ps.getD i V5).needs.any (fun n=> !zi6 ps n))
def lsB (ps:List Pt):Bool:=(List.range ps.length).all (lsP ps)
def zxa (p q:Pt)(on:Bool):Bool:=if p.sign≠q.sign then true else if q.kind=2 then p.kind != 2&&on else if q.kind=3 then !on else true
def zqR (ps:List Pt):Bool:=ps.all fun p=>ps.all fun q=>p.id==q.id||zxa p q (onF ps p.id q.id)
def zam (ps:List Pt):Int:=if ps.length>512 then 2 else if orF (ps.map K1)≠0 then orF (ps.map K1) else if lsB ps&&zqR ps then 0 else 380
structure Lst (ps:List Pt):Prop where
 pos:∀ p∈ps,1≤p.id
 inc:ps.Pairwise (fun p q=>p.id<q.id)
 has:∀ p∈ps,∀ n∈p.needs,n<p.id∧∃ q∈ps,q.id=n
theorem za6 {ps:List Pt}{n:Int}:zi6 ps n=true↔ ∃ q∈ps,q.id=n:=by
 unfold zi6
 rw [List.any_eq_true]
 simp
theorem zjP {f:Int→Int→Bool}{p:Pt}{a b:Int}(h:a≠p.id):onS f p a b=f a b:=by unfold onS;rw [if_neg h]
theorem U7:∀ (ps:List Pt) {f:Int→Int→Bool} {a b:Int},(∀ p∈ps,p.id≠a)→ps.foldl onS f a b=f a b
 | [],_,_,_,_=>rfl
 | p::ps,f,a,b,h=>by
  rw [List.foldl_cons,U7 ps (fun q hq=>h q (List.mem_cons_of_mem _ hq)),zjP (fun e=>h p (List.mem_cons_self ..) e.symm)]
theorem zoM {ps:List Pt}{a b:Int}(h:∀ p∈ps,p.id≠a):onF ps a b=false:=U7 ps h
theorem zee {ps qs:List Pt}{p:Pt}{b:Int}(h:∀ q∈qs,q.id≠p.id):onF (ps++p::qs) p.id b=p.needs.any (fun n=>n==b||onF ps n b):=by
 unfold onF
 rw [List.foldl_append,List.foldl_cons,U7 qs h]
 unfold onS;rw [if_pos rfl]
theorem zhp {ps qs:List Pt}{a b:Int}(h:∀ q∈qs,q.id≠a):onF (ps++qs) a b=onF ps a b:=by
 unfold onF
 rw [List.foldl_append,U7 qs h]
theorem Lst.tail_ne {ps qs:List Pt}{p:Pt}(h:Lst (ps++p::qs)):(∀ q∈qs,p.id<q.id)∧(∀ q∈ps,q.id<p.id):=by
 have h1:=h.inc
 rw [List.pairwise_append] at h1
 exact ⟨(List.pairwise_cons.1 h1.2.1).1,fun q hq=>h1.2.2 q hq p (List.mem_cons_self ..)⟩
theorem zg8 {α:Type}{xs:List α}{f g:α→Bool}(h:∀ x∈xs,f x=g x):xs.any f=xs.any g:=by
 induction xs with
 | nil=>rfl
 | cons x xs ih=>rw [List.any_cons,List.any_cons,h x (List.mem_cons_self ..),ih fun y hy=>h y (List.mem_cons_of_mem _ hy)]
theorem Lst.on {ps:List Pt}(h:Lst ps){p:Pt}(hp:p∈ps)(b:Int):onF ps p.id b=p.needs.any (fun n=>n==b||onF ps n b):=by
 obtain ⟨l,r,rfl⟩:=List.append_of_mem hp
 obtain ⟨h1,h2⟩:=h.tail_ne
 rw [zee (fun q hq e=>by have:=h1 q hq;omega)]
 refine zg8 fun n hn=>?_
 have hlt:=(h.has p hp n hn).1
 rw [zhp (ps:=l) (qs:=p::r)]
 intro q hq e
 rcases List.mem_cons.1 hq with rfl | hq
 ·
  omega
 ·
  have:=h1 q hq;omega
theorem Lst.on_iff {ps:List Pt}(h:Lst ps){p:Pt}(hp:p∈ps){b:Int}:onF ps p.id b=true↔ ∃ n∈p.needs,n=b∨onF ps n b=true:=by
 rw [h.on hp,List.any_eq_true]
 simp
theorem zr5 {ps:List Pt}{a b:Int}(h:onF ps a b=true):∃ p∈ps,p.id=a:=by
 by_cases hx:∃ p∈ps,p.id=a
 ·
  exact hx
 ·
  rw [zoM (fun p hp e=>hx ⟨p,hp,e⟩)] at h;cases h
theorem Lst.ind {ps:List Pt}(h:Lst ps){M:Pt→Prop}(hs:∀ p∈ps,(∀ q∈ps,q.id<p.id→M q)→M p):∀ p∈ps,M p:=by
 have key:∀ (m:Nat) (q:Pt),q∈ps→q.id.toNat≤m→M q:=by
  intro m
  induction m with
  | zero=>
   intro q hq hm
   have:=h.pos q hq;omega
  | succ m ih=>
   intro q hq hm
   exact hs q hq fun r hr hlt=>ih r hr (by have:=h.pos r hr;omega)
 exact fun p hp=>key _ p hp (Nat.le_refl _)
theorem Lst.on_lt {ps:List Pt}(h:Lst ps){a b:Int}(hon:onF ps a b=true):b<a∧∃ q∈ps,q.id=b:=by
 obtain ⟨p,hp,rfl⟩:=zr5 hon
 revert hon
 refine h.ind (M:=fun p=>onF ps p.id b=true→b<p.id∧∃ q∈ps,q.id=b) (fun p hp ih hon=>?_) p hp
 obtain ⟨n,hn,e⟩:=(h.on_iff hp).1 hon
 obtain ⟨h1,q,hq,rfl⟩:=h.has p hp n hn
 rcases e with rfl | e
 ·
  exact ⟨h1,q,hq,rfl⟩
 ·
  have:=ih q hq h1 e
  exact ⟨kB,this.2⟩
theorem Lst.on_irr {ps:List Pt}(h:Lst ps){a:Int}:onF ps a a=false:=by
 cases hon:onF ps a a with
 | false=>rfl
 | true=>have:=(h.on_lt hon).1;omega
end
section
open Go Go.Kn Go.Proofs
theorem zrq {ps:List Pt}{f:Pt→Bool}{x:Int}:x∈(ps.filter f).map (·.id)↔ ∃ p∈ps,f p=true∧p.id=x:=by
 rw [List.mem_map]
 constructor
 ·
  rintro ⟨p,hp,e⟩
  exact ⟨p,(List.mem_filter.1 hp).1,(List.mem_filter.1 hp).2,e⟩
 ·
  rintro ⟨p,hp,hf,e⟩
  exact ⟨p,List.mem_filter.2 ⟨hp,hf⟩,e⟩
theorem zqV {ps:List Pt}(h0:orF (ps.map K1)=0)(h:lsB ps=true):Lst ps:=by
 have hk:∀ p∈ps,ndB p.id p.needs=true∧idB p=true∧UF p=true:=fun p hp=>by
  have h1:=za1.1 h0 (K1 p) (List.mem_map.2 ⟨p,hp,rfl⟩)
  unfold K1 at h1
  split at h1
  ·
   cases h1
  ·
   split at h1
   ·
    rename_i h2
    simpa [Bool.and_eq_true] using h2
   ·
    cases h1
 unfold lsB at h
 rw [List.all_eq_true] at h
 refine ⟨fun p hp=>?_,?_,fun p hp n hn=>?_⟩
 ·
  have:=(hk p hp).2.1
  unfold idB at this
  simp at this
  omega
 ·
  refine zaf (R:=fun p q:Pt=>p.id<q.id) (fun a b c h1 h2=>Int.lt_trans h1 h2) fun k hk=>?_
  have h1:=h (k+1) (List.mem_range.2 hk)
  unfold lsP at h1
  rw [show (((k+1:Nat):Int)-1).toNat=k by omega,Vo (List.getElem?_eq_getElem hk),Vo (List.getElem?_eq_getElem (show k<ps.length by omega))] at h1
  simp at h1
  have:=h1.1
  omega
 ·
  obtain ⟨k,hk1,rfl⟩:=List.mem_iff_getElem.1 hp
  have h1:=h k (List.mem_range.2 hk1)
  unfold lsP at h1
  rw [Vo (List.getElem?_eq_getElem hk1)] at h1
  simp at h1
  refine ⟨?_,za6.1 (h1.2 n hn)⟩
  obtain ⟨j,hj,rfl⟩:=List.mem_iff_getElem.1 hn
  have h2:=(hk _ hp).1
  unfold ndB at h2
  rw [List.all_eq_true] at h2
  have h3:=h2 j (List.mem_range.2 hj)
  unfold ndP at h3
  rw [Vo (List.getElem?_eq_getElem hj)] at h3
  simp at h3
  omega
end
section
open Go Go.Kn Go.Proofs
/-! ### Lists by keys -/
def KX (x:Sg)(f:Int):Int×Int×Int×Int:=
 if f=1 then (x.role,0,0,0) else if f=2 then (x.bar,0,0,0) else if f=3 then (x.mark,0,0,0) else if f=4 then (x.side,0,0,0) else if f=5 then (x.dir,0,0,0)
 else if f=6 then (x.level,0,0,0) else if f=7 then (x.size,0,0,0) else if f=8 then (x.wth,0,0,0) else if f=9 then (x.fn,x.fd,x.tn,x.td) else (0,0,0,0)
def isF (f:Int):Prop:=1≤f∧f≤9
theorem zei {f:Int}(h:isF f):f=1∨f=2∨f=3∨f=4∨f=5∨f=6∨f=7∨f=8∨f=9:=by unfold isF at h;omega
theorem zhT {x y:Sg}{f:Int}:(KZ x f y).id=x.id:=by unfold KZ;(repeat' split)<;>rfl
theorem zaF {x y:Sg}{f:Int}:(KZ x f y).kind=x.kind:=by unfold KZ;(repeat' split)<;>rfl
theorem zpo {x y:Sg}{g:Int}:KX (KZ x 1 y) g=if g=1 then KX y g else KX x g:=by
 rw [show KZ x 1 y= {x with role:=y.role} from rfl]
 by_cases hg:g=1
 ·
  subst hg;rfl
 ·
  rw [if_neg hg]
  unfold KX
  simp only [if_neg hg]
theorem zoH {x y:Sg}{g:Int}:KX (KZ x 2 y) g=if g=2 then KX y g else KX x g:=by
 rw [show KZ x 2 y= {x with bar:=y.bar} from rfl]
 by_cases hg:g=2
 ·
  subst hg;rfl
 ·
  rw [if_neg hg]
  unfold KX
  simp only [if_neg hg]
theorem zpd {x y:Sg}{g:Int}:KX (KZ x 3 y) g=if g=3 then KX y g else KX x g:=by
 rw [show KZ x 3 y= {x with mark:=y.mark} from rfl]
 by_cases hg:g=3
 ·
  subst hg;rfl
 ·
  rw [if_neg hg]
  unfold KX
  simp only [if_neg hg]
theorem znA {x y:Sg}{g:Int}:KX (KZ x 4 y) g=if g=4 then KX y g else KX x g:=by
 rw [show KZ x 4 y= {x with side:=y.side} from rfl]
 by_cases hg:g=4
 ·
  subst hg;rfl
 ·
  rw [if_neg hg]
  unfold KX
  simp only [if_neg hg]
theorem zoI {x y:Sg}{g:Int}:KX (KZ x 5 y) g=if g=5 then KX y g else KX x g:=by
 rw [show KZ x 5 y= {x with dir:=y.dir} from rfl]
 by_cases hg:g=5
 ·
  subst hg;rfl
 ·
  rw [if_neg hg]
  unfold KX
  simp only [if_neg hg]
theorem zoq {x y:Sg}{g:Int}:KX (KZ x 6 y) g=if g=6 then KX y g else KX x g:=by
 rw [show KZ x 6 y= {x with level:=y.level} from rfl]
 by_cases hg:g=6
 ·
  subst hg;rfl
 ·
  rw [if_neg hg]
  unfold KX
  simp only [if_neg hg]
theorem zpR {x y:Sg}{g:Int}:KX (KZ x 7 y) g=if g=7 then KX y g else KX x g:=by
 rw [show KZ x 7 y= {x with size:=y.size} from rfl]
 by_cases hg:g=7
 ·
  subst hg;rfl
 ·
  rw [if_neg hg]
  unfold KX
  simp only [if_neg hg]
theorem znJ {x y:Sg}{g:Int}:KX (KZ x 8 y) g=if g=8 then KX y g else KX x g:=by
 rw [show KZ x 8 y= {x with wth:=y.wth} from rfl]
 by_cases hg:g=8
 ·
  subst hg;rfl
 ·
  rw [if_neg hg]
  unfold KX
  simp only [if_neg hg]
theorem zpy {x y:Sg}{g:Int}:KX (KZ x 9 y) g=if g=9 then KX y g else KX x g:=by
 rw [show KZ x 9 y= {x with fn:=y.fn,fd:=y.fd,tn:=y.tn,td:=y.td} from rfl]
 by_cases hg:g=9
 ·
  subst hg;rfl
 ·
  rw [if_neg hg]
  unfold KX
  simp only [if_neg hg]
theorem zdV {x y:Sg}{f g:Int}(hf:isF f):KX (KZ x f y) g=if g=f then KX y g else KX x g:=by
 rcases zei hf with rfl | rfl | rfl | rfl | rfl | rfl | rfl | rfl | rfl
 ·
  exact zpo
 ·
  exact zoH
 ·
  exact zpd
 ·
  exact znA
 ·
  exact zoI
 ·
  exact zoq
 ·
  exact zpR
 ·
  exact znJ
 ·
  exact zpy
theorem zqq {x y:Sg}(h1:x.id=y.id)(h2:x.kind=y.kind)(h:∀ f,isF f→KX x f=KX y f):x=y:=by
 have e1:x.role=y.role:=congrArg (fun p=>p.1) (show ((x.role,0,0,0):Int×Int×Int×Int)=(y.role,0,0,0) from h 1 ⟨by decide,by decide⟩)
 have e2:x.bar=y.bar:=congrArg (fun p=>p.1) (show ((x.bar,0,0,0):Int×Int×Int×Int)=(y.bar,0,0,0) from h 2 ⟨by decide,by decide⟩)
 have e3:x.mark=y.mark:=congrArg (fun p=>p.1) (show ((x.mark,0,0,0):Int×Int×Int×Int)=(y.mark,0,0,0) from h 3 ⟨by decide,by decide⟩)
 have e4:x.side=y.side:=congrArg (fun p=>p.1) (show ((x.side,0,0,0):Int×Int×Int×Int)=(y.side,0,0,0) from h 4 ⟨by decide,by decide⟩)
 have e5:x.dir=y.dir:=congrArg (fun p=>p.1) (show ((x.dir,0,0,0):Int×Int×Int×Int)=(y.dir,0,0,0) from h 5 ⟨by decide,by decide⟩)
 have e6:x.level=y.level:=congrArg (fun p=>p.1) (show ((x.level,0,0,0):Int×Int×Int×Int)=(y.level,0,0,0) from h 6 ⟨by decide,by decide⟩)
 have e7:x.size=y.size:=congrArg (fun p=>p.1) (show ((x.size,0,0,0):Int×Int×Int×Int)=(y.size,0,0,0) from h 7 ⟨by decide,by decide⟩)
 have e8:x.wth=y.wth:=congrArg (fun p=>p.1) (show ((x.wth,0,0,0):Int×Int×Int×Int)=(y.wth,0,0,0) from h 8 ⟨by decide,by decide⟩)
 have e9:(x.fn,x.fd,x.tn,x.td)=(y.fn,y.fd,y.tn,y.td):=h 9 ⟨by decide,by decide⟩
 obtain ⟨a1,a2,a3,a4,a5,a6,a7,a8,a9,a10,a11,a12,a13,a14⟩:=x
 obtain ⟨b1,b2,b3,b4,b5,b6,b7,b8,b9,b10,b11,b12,b13,b14⟩:=y
 cases h1;cases h2;cases e1;cases e2;cases e3;cases e4;cases e5;cases e6;cases e7;cases e8;cases e9
 rfl
end
section
open Go Go.Kn Go.Proofs
theorem zsp:zb4 0 1 1 2=true:=by decide
theorem zs1:zb4 0 1 1 1=true:=by decide
theorem zkQ {f:Int}(hf:isF f)(x:Sg):frm (KZ zeZ f x)=frm (KZ zen f x):=by
 rcases zei hf with rfl | rfl | rfl | rfl | rfl | rfl | rfl | rfl | rfl<;>
 simp [frm,zyj,KZ,zeZ,zen,within,zsp,zs1]
theorem zp0 {f:Int}(hf:isF f)(x:Sg):ziB (KZ JP f x) x=ziB (KZ x f JP) JP:=by
 rw [Bool.eq_iff_iff,Wc,Wc]
 constructor
 ·
  intro h
  refine zqq ?_ ?_ fun g hg=>?_
  ·
   rw [zhT,←h,zhT]
  ·
   rw [zaF,←h,zaF]
  ·
   rw [zdV hf]
   by_cases e:g=f
   ·
    rw [if_pos e]
   ·
    rw [if_neg e]
    conv=>lhs;rw [←h]
    rw [zdV hf,if_neg e]
 ·
  intro h
  refine zqq ?_ ?_ fun g hg=>?_
  ·
   rw [zhT]
   have:=congrArg Sg.id h
   rw [zhT] at this
   exact this.symm
  ·
   rw [zaF]
   have:=congrArg Sg.kind h
   rw [zaF] at this
   exact this.symm
  ·
   rw [zdV hf]
   by_cases e:g=f
   ·
    rw [if_pos e]
   ·
    rw [if_neg e]
    have:KX (KZ x f JP) g=KX JP g:=by rw [h]
    rw [zdV hf,if_neg e] at this
    exact this.symm
end
section
open Go Go.Kn Go.Proofs
def zfx (x y:Int):Int:=if x<y then -1 else if x>y then 1 else 0
def zyE (n d:Int):List Value:=[.int .i64 n,.int .i64 d]
def zaz (n d:Int):Value:=.agg (zyE n d).toArray
theorem zmJ {n:Int}(h:0≤n∧n≤9223372036854775807):IntKind.u64.wrap n=n:=by
 unfold IntKind.wrap IntKind.signed IntKind.bits
 simp
 omega
theorem zuk {n:Int}(hn: -1073741824≤n∧n≤1073741824)(h:¬n<0):IntKind.u64.wrap n=zcs n:=by
 rw [zmJ kB]
 unfold zcs;rw [if_neg h]
theorem zti {n:Int}(hn: -1073741824≤n∧n≤1073741824)(h:n<0):IntKind.u64.wrap (0-IntKind.u64.wrap n)=zcs n:=by
 unfold zcs;rw [if_pos h]
 unfold IntKind.wrap IntKind.signed IntKind.bits
 simp
 omega
def zxm (t b1 b2:Nat)(a b:Int):Go.Kn.Loc:=[(b2,.cells #[.int .u64 b] t (0,0)),(b1,.cells #[.int .u64 a] t (0,0))]
def zd8 (a b:Nat):List Nat:=if a=0 then [] else if b=0 then [a,0] else if a % b=0 then [a,b] else a::zd8 b (a % b)
termination_by b
decreasing_by exact Nat.mod_lt _ kB
theorem ze8 (b:Nat):zd8 0 b=[]:=by rw [zd8];rfl
theorem zdM {a b:Nat}(ha:a≠0)(hb:b≠0)(h:a % b=0):zd8 a b=[a,b]:=by rw [zd8,if_neg ha,if_neg hb,if_pos h]
theorem zem {a b:Nat}(ha:a≠0)(hb:b≠0)(h:a % b≠0):zd8 a b=a::zd8 b (a % b):=by rw [zd8,if_neg ha,if_neg hb,if_neg h]
theorem zpP:∀ (m:Nat) {a b d:Nat},b≤m→b≠0→(a=0→d=b)→(zd8 a b).getLastD d=Nat.gcd a b:=by
 intro m
 induction m with
 | zero=>intro a b d h1 h2;omega
 | succ m ih=>
  intro a b d h1 h2 hd
  by_cases ha:a=0
  ·
   subst ha;rw [ze8,Nat.gcd_zero_left,hd rfl];rfl
  ·
   by_cases h:a % b=0
   ·
    rw [zdM ha h2 h]
    show b=_
    rw [Nat.gcd_comm,Nat.gcd_rec,h,Nat.gcd_zero_left]
   ·
    rw [zem ha h2 h,List.getLastD_cons,ih (by have:=Nat.mod_lt a (show 0<b by omega);omega) h (fun e=>absurd e h2)]
    rw [Nat.gcd_comm b,←Nat.gcd_rec,Nat.gcd_comm]
theorem zib (a b:Nat):((a:Int)).tmod (b:Int)=((a % b:Nat):Int):=by
 rw [Int.tmod_eq_emod_of_nonneg kB];rfl
theorem zph {a b:Int}(ha: -1073741824≤a∧a≤1073741824)(hb: -1073741824≤b∧b≤1073741824): -9223372036854775808≤a*b∧a*b≤9223372036854775807:=by
 have h1:(a*b).natAbs≤1073741824*1073741824:=by
  rw [Int.natAbs_mul]
  exact Nat.mul_le_mul kB kB
 omega
def zuE (n d:Int):Int:=if U6 n d then 0 else 120
theorem zdl {n d:Int}(h:U6 n d=true):(1≤d∧d≤1073741824)∧ -1073741824≤n∧n≤1073741824:=by
 unfold U6 at h
 simp at h
 omega
theorem zrN (n d:Int):Nat.gcd (zcs n).toNat d.toNat=Int.gcd n d.toNat:=by
 unfold Int.gcd zcs
 congr 1
 split<;>omega
theorem Zp {b:Nat}(h:0<b):zfg (b:Int) 1=(b:Int):=by
 unfold zfg
 split<;>omega
theorem zm6 {a0 b0 a b:Nat}{pre:List Nat}(h:zd8 a0 b0=pre++zd8 a b)(ha:a≠0):pre++[a]<+:zd8 a0 b0:=by
 rw [h,zd8,if_neg ha]
 have key:∀ l:List Nat,pre++[a]<+:pre++a::l:=fun l=>⟨l,by simp⟩
 split
 ·
  exact key _
 ·
  split<;>exact key _
theorem zkV {l:List Nat}{x d:Nat}:(l++[x]).getLastD d=x:=by simp [List.getLastD_eq_getLast?]
theorem ztk {n d:Int}(h:((((decide (d<1)||decide (d>1073741824))||decide (n< -1073741824))||decide (n>1073741824))||(zjf n d != 1))=true):U6 n d=false:=by unfold U6;rw [h];rfl
theorem zoh {n d:Int}(h:((((decide (d<1)||decide (d>1073741824))||decide (n< -1073741824))||decide (n>1073741824))||(zjf n d != 1))=false):U6 n d=true:=by unfold U6;rw [h];rfl
/-! ### Fields as cells -/
def foF (f:Int):Nat:=if f=1 then 1 else if f=2 then 2 else if f=3 then 3 else if f=4 then 5 else if f=5 then 6 else if f=6 then 7 else if f=7 then 8 else 9
def zw3 (x:Sg)(f:Int):Int:=if f=1 then x.role else if f=2 then x.bar else if f=3 then x.mark else if f=4 then x.side else if f=5 then x.dir else if f=6 then x.level else if f=7 then x.size else x.wth
def zy9 (b:Nat):List Value:=[.pointer none,.pointer (some ⟨b,0+1,none⟩),.pointer (some ⟨b,0+2,none⟩),.pointer (some ⟨b,0+3,none⟩),.pointer (some ⟨b,0+5,none⟩),.pointer (some ⟨b,0+6,none⟩),.pointer (some ⟨b,0+7,none⟩),.pointer (some ⟨b,0+8,none⟩),.pointer (some ⟨b,0+9,none⟩)]
theorem zcf {f:Int}(h:1≤f∧f≤8):f=1∨f=2∨f=3∨f=4∨f=5∨f=6∨f=7∨f=8:=kB
theorem zc0 {f:Int}(h:1≤f∧f≤8)(b:Nat):(zy9 b)[f.toNat*1]? =some (.pointer (some ⟨b,foF f,none⟩)):=by
 rcases zcf h with rfl | rfl | rfl | rfl | rfl | rfl | rfl | rfl<;>rfl
theorem zf7 {f:Int}(h:1≤f∧f≤8)(x:Sg):zi2 (zfC x) (foF f)=some (.int .i64 (zw3 x f)):=by
 rcases zcf h with rfl | rfl | rfl | rfl | rfl | rfl | rfl | rfl<;>rfl
theorem zuy {f:Int}:Nat.blt (foF f) 14=true:=by
 unfold foF
 repeat' split
 all_goals rfl
theorem zmm {f:Int}(h:1≤f∧f≤8)(x y:Sg):(zfC x).toArray.setIfInBounds (foF f) (.int .i64 (zw3 y f))=(zfC (KZ x f y)).toArray:=by
 rcases zcf h with rfl | rfl | rfl | rfl | rfl | rfl | rfl | rfl<;>rfl
def zif (v:List Int)(k:Nat)(l:Int):Prop:=(k=0→l=0)∧∀ y,v[k-1]? =some y→k≠0→l=y
theorem zcW {v:List Int}{k:Nat}{x:Int}(hx:v[k]? =some x):zif v (k+1) x:=⟨fun h=>kB,fun y hy _=>by simp at hy;rw [hx] at hy;cases hy;rfl⟩
theorem zwd {id:Int}{v:List Int}{k:Nat}{l x:Int}(hall:(List.range k).all (ndP id v)=true)(hl:zif v k l)(hx:v[k]? =some x):ndP id v k= !(decide (x≤l)||decide (x≥id)):=by
 unfold ndP
 rw [Vo hx]
 cases k with
 | zero=>
  rw [hl.1 rfl]
  rw [Bool.eq_iff_iff];simp;omega
 | succ k=>
  have hk:=(List.getElem?_eq_some_iff.1 hx).1
  have hy:v[k]? =some (v[k]' kB):=List.getElem?_eq_getElem _
  have e:=hl.2 _ (by rw [Nat.add_sub_cancel];exact hy) kB
  rw [show (((k+1:Nat):Int)-1).toNat=k by omega,Vo hy,←e]
  have h1:1≤l:=by
   rw [List.all_eq_true] at hall
   have:=hall k (List.mem_range.2 kB)
   unfold ndP at this
   rw [Vo hy] at this
   simp at this
   omega
  rw [Bool.eq_iff_iff];simp;omega
theorem zqx {p:Pt}(h:p.needs.length>32):K1 p=2:=by unfold K1;rw [if_pos h]
theorem zxI {p:Pt}(h:¬p.needs.length>32)(h2:ndB p.id p.needs=false):K1 p=370:=by unfold K1;rw [if_neg h,h2];rfl
theorem zea {p:Pt}(h:¬p.needs.length>32)(h2:ndB p.id p.needs=true)(h3:(idB p&&UF p)=false):K1 p=370:=by unfold K1;rw [if_neg h,h2,h3];rfl
theorem zhL {p:Pt}(h:¬p.needs.length>32)(h2:ndB p.id p.needs=true)(h3:(idB p&&UF p)=true):K1 p=0:=by unfold K1;rw [if_neg h,h2,h3];rfl
theorem zsT {p:Pt}(h:p.kind=1)(h2:within p.field 1 9=true):UF p=(ziB (KZ p.nw p.field JP) JP&&frm (KZ zen p.field p.nw)):=by unfold UF;rw [if_pos h,h2,Bool.true_and]
theorem zvk {p:Pt}(h:p.kind=1)(h2:within p.field 1 9=false):(idB p&&UF p)=false:=by unfold UF;rw [if_pos h,h2,Bool.false_and,Bool.and_false]
theorem zsy {p:Pt}(h:p.kind=2):UF p=(p.field==0&&(p.nw.id==p.sign&&frm p.nw)):=by unfold UF;rw [if_neg kB,if_pos h]
theorem zte {p:Pt}(h:p.kind=3):UF p=(p.field==0&&ziB p.nw JP):=by unfold UF;rw [if_neg kB,if_neg kB,if_pos h]
theorem zyP {p:Pt}(h1:p.kind≠1)(h2:p.kind≠2)(h3:p.kind≠3):(idB p&&UF p)=false:=by unfold UF;rw [if_neg h1,if_neg h2,if_neg h3,Bool.and_false]
theorem zk2 {fn fd tn td:Int}:(zuE fn fd != 0||zuE tn td != 0)= !(U6 fn fd&&U6 tn td):=by
 unfold zuE
 cases U6 fn fd<;>cases U6 tn td<;>rfl
def zv2 (an ad bn bd:Int):Int:=if U6 an ad&&U6 bn bd then 0 else 120
def zuR (an ad bn bd:Int):Int:=if U6 an ad&&U6 bn bd then zfx (an*bd) (bn*ad) else 0
theorem zrR {fn fd tn td:Int}:(((zv2 fn fd tn td==0)&&decide (zuR fn fd tn td<0))&&decide (fn≥0)&&decide (tn≤td))=zb4 fn fd tn td:=by
 unfold zv2 zuR zb4 zfx
 cases h:(U6 fn fd&&U6 tn td) with
 | false=>rfl
 | true=>
  simp only [if_true,Bool.true_and]
  by_cases h2:fn*td<tn*fd
  ·
   simp [h2,Bool.and_assoc]
  ·
   by_cases h3:fn*td>tn*fd<;>simp [h2,h3]
theorem zhx {xs:List Sg}{k:Nat}{x:Sg}(hx:xs[k]? =some x):skP xs k= !(!frm x||(decide ((k:Int)>0)&&decide ((xs.getD ((k:Int)-1).toNat JP).id≥x.id))):=by unfold skP;rw [Vo hx]
end
end Go.Proofs.YtjblkbkmblkgoaaGreat
namespace Go.Proofs.YtjblkbkmblkgoaaGreat.L
section
open Go Go.Kn Go.Proofs
structure Ls where
 no:Int
 person:Int
 version:Int
 at_:Int
 known:Int
def encL (x:Ls):List Value:=[.int .i64 x.no,.int .i64 x.person,.int .i64 x.version,.int .i64 x.at_,.int .i64 x.known]
def encA (x:Ls):Value:=.agg (encL x).toArray
def Z5 (n:Int):List Value:=[.int .i64 n]
def zeroL:Ls:=⟨0,0,0,0,0⟩
theorem encL_len (x:Ls):(encL x).length=5:=rfl
theorem YJ (x:Int):(Z5 x).length=1:=rfl
theorem one_L (xs:List Ls):YF (xs.flatMap encL)=true:=Yn (fun _=>rfl) xs
theorem zbn (xs:List Int):YF (xs.flatMap Z5)=true:=Yn (fun _=>rfl) xs
def lsEq (x y:Ls):Bool:=x.no==y.no&&(x.person==y.person&&(x.version==y.version&&(x.at_==y.at_&&(x.known==y.known&&true))))
theorem lsEq_iff {x y:Ls}:lsEq x y=true↔x=y:=by
 obtain ⟨a,b,c,d,e⟩:=x
 obtain ⟨a',b',c',d',e'⟩:=y
 simp [lsEq]
instance : DecidableEq Ls := fun a b => decidable_of_iff (lsEq a b = true) lsEq_iff
def within (n lo hi:Int):Bool:=decide (n≥lo)&&decide (n≤hi)
def zat (x:Ls):Bool:=within x.no 0 1048576&&within x.person 0 63&&within x.version 0 512&&within x.at_ 0 73048&&within x.known 0 134217727
def zow (xs:List Ls)(i:Nat):Ls:=xs.getD ((i:Int)-1).toNat zeroL
def ckP (xs:List Ls)(i:Nat):Bool:= !(!zat (xs.getD i zeroL)||(decide ((i:Int)>0)&&decide ((xs.getD i zeroL).no≤(zow xs i).no)))
def ckB (xs:List Ls):Bool:=(List.range xs.length).all (ckP xs)
def chk (xs:List Ls):Int:=if xs.length>4096 then 2 else if ckB xs then 0 else 390
theorem VU {p:Nat→Bool}{k:Nat}(h:(List.range k).all p=true)(hp:p k=true):(List.range (k+1)).all p=true:=by
 rw [List.range_succ,List.all_append,h];simpa using hp
theorem JN {p:Nat→Bool}{n k:Nat}(hk:k<n)(hp:p k=false):(List.range n).all p=false:=by
 cases h:(List.range n).all p with
 | false=>rfl
 | true=>
  rw [List.all_eq_true] at h
  rw [h k (List.mem_range.2 hk)] at hp;cases hp
theorem Vo {α:Type}{xs:List α}{k:Nat}{x d:α}(h:xs[k]? =some x):xs.getD k d=x:=by simp [List.getD,h]
theorem K7 {α:Type}{xs:List α}{n k:Nat}{d:α}(hl:xs.length=n)(h:k<n):xs[k]? =some (xs.getD k d):=by
 have:k<xs.length:=kB
 unfold List.getD
 rw [List.getElem?_eq_getElem this];rfl
section
variable {xs:List Ls} {vss:List (List Int)} {person day time:Int} {ts:List Int}
end
theorem zaf {α:Type}{R:α→α→Prop}(ht:∀ a b c,R a b→R b c→R a c){l:List α}(h:∀ k (hk:k+1<l.length),R (l[k]' kB) l[k+1]):l.Pairwise R:=by
 have key:∀ (n i:Nat) (hn:i+n<l.length),0<n→R (l[i]' kB) l[i+n]:=by
  intro n
  induction n with
  | zero=>intro i _ h0;omega
  | succ n ih=>
   intro i hn _
   have h2:=h (i+n) kB
   by_cases e:n=0
   ·
    subst e;exact h2
   ·
    exact ht _ _ _ (ih i kB kB) h2
 rw [List.pairwise_iff_getElem]
 intro i j hi hj hij
 have:=key (j-i) i kB kB
 simpa [show i+(j-i)=j by omega] using this
end
end Go.Proofs.YtjblkbkmblkgoaaGreat.L
namespace Go.Proofs.YtjblkbkmblkgoaaGreat.S
section
open Go Go.Kn
structure Rt where
 no:Int
 kind:Int
 edition:Int
 holder:Int
 sign:Int
 ends:Int
 name:ByteArray
 town:ByteArray
 lo:Int
 hi:Int
 known:Int
def encR (x:Rt):List Value:=[.int .i64 x.no,.int .i64 x.kind,.int .i64 x.edition,.int .i64 x.holder,.int .i64 x.sign,.int .i64 x.ends,.string x.name,.string x.town,.int .i64 x.lo,.int .i64 x.hi,.int .i64 x.known]
def encA (x:Rt):Value:=.agg (encR x).toArray
def Z5 (n:Int):List Value:=[.int .i64 n]
def KY (p:Int×Int):List Value:=[.int .i64 p.1,.int .i64 p.2]
def zeroR:Rt:=⟨0,0,0,0,0,0,⟨#[]⟩,⟨#[]⟩,0,0,0⟩
theorem encR_len (x:Rt):(encR x).length=11:=rfl
theorem YJ (x:Int):(Z5 x).length=1:=rfl
theorem VN (x:Int×Int):(KY x).length=2:=rfl
def rtEq (x y:Rt):Bool:=
 x.no==y.no&&(x.kind==y.kind&&(x.edition==y.edition&&(x.holder==y.holder&&(x.sign==y.sign&&(x.ends==y.ends&&(KB x.name y.name&&(KB x.town y.town&&(x.lo==y.lo&&(x.hi==y.hi&&(x.known==y.known&&true))))))))))
theorem rtEq_iff {x y:Rt}:rtEq x y=true↔x=y:=by
 cases x;cases y
 simp only [rtEq,Bool.and_eq_true,beq_iff_eq,zbm,Rt.mk.injEq,and_true]
def within (n lo hi:Int):Bool:=decide (lo≤n)&&decide (n≤hi)
def w64 (n:Int):Int:=IntKind.i64.wrap n
def zkr (x:Rt):Bool:=decide (x.lo≥0)&&decide (x.lo≤x.hi)&&decide (x.hi≤73048)&&within x.edition 0 1048576
def heldF (x:Rt):Bool:=rtEq x {x with ends:=0,name:=⟨#[]⟩,town:=⟨#[]⟩ }&&zkr x&&within x.holder 0 63&&within x.sign 0 1048577
def billF (x:Rt):Bool:=rtEq x {x with holder:=0,sign:=0,ends:=0}&&zkr x&&within x.name.size 1 32&&within x.town.size 1 32
def voidF (x:Rt)(bs:List (Int×Rt)):Bool:=match Zt bs (w64 (x.ends-1)) with
 | none=>false
 | some old=>(old.kind != 4)&&decide (old.known≤x.known)&&rtEq x {zeroR with no:=x.no,kind:=x.kind,ends:=x.ends,known:=x.known}
def zcY (k:Int):Bool:=k==1||k==2||k==3||k==4
def askF (k:Int)(x:Rt)(bs:List (Int×Rt)):Bool:=if k=1 then billF x else if k=2 then heldF x else if k=3 then heldF x else voidF x bs
def rBad (x:Rt)(bs:List (Int×Rt))(last:Int):Bool:= !zcY x.kind||decide (x.no≤last)||decide (x.no>1048576)|| !within x.known 0 134217727|| !askF x.kind x bs
def rGo:List Rt→List (Int×Rt)→Int→Int
 | [],_,_=>0
 | x::xs,bs,last=>if rBad x bs last then 460 else rGo xs (Jr bs x.no x) x.no
def rCheck (xs:List Rt):Int:=if xs.length>512 then 2 else rGo xs [] (-1)
def ziL (x:Rt):Bool:=within x.lo 0 x.hi&&decide (x.hi≤73048)
def ziF (s:ByteArray):Bool:=within s.size 1 32
def zgg (pre:List Rt)(x:Rt):Bool:=pre.any fun y=>(w64 (y.no+1)==x.ends)&&(y.kind != 4)&&decide (y.known≤x.known)
def zcw:ByteArray:=⟨#[]⟩
def Wk (x:Rt):Bool:=ziL x&&within x.edition 0 1048576&&within x.holder 0 63&&within x.sign 0 1048577&&KB x.name zcw&&KB x.town zcw&&(x.ends==0)
def WJ (pre:List Rt)(x:Rt):Bool:=
 if x.kind==1 then ziL x&&within x.edition 0 1048576&&ziF x.name&&ziF x.town&&(x.holder==0)&&(x.sign==0)&&(x.ends==0)
 else if x.kind==2 then Wk x
 else if x.kind==3 then Wk x
 else if x.kind==4 then zgg pre x&&(x.edition==0)&&(x.holder==0)&&(x.sign==0)&&KB x.name zcw&&KB x.town zcw&&(x.lo==0)&&(x.hi==0)
 else false
def VW (i:Nat)(pre:List Rt)(y x:Rt):Bool:=
 if (!within x.no 0 1048576||(decide ((i:Int)>0)&&decide (x.no≤y.no))|| !within x.known 0 134217727) then false else WJ pre x
def zcQ (xs:List Rt)(i:Nat):Rt:=(xs[((i:Int)-1).toNat]?).getD zeroR
def Wr (xs:List Rt)(i:Nat):Bool:=VW i (xs.take i) (zcQ xs i) ((xs[i]?).getD zeroR)
def fCheck (xs:List Rt):Int:=if xs.length>512 then 2 else if (List.range xs.length).all (Wr xs) then 0 else 460
instance : DecidableEq Rt := fun a b => decidable_of_iff (rtEq a b = true) rtEq_iff
theorem Xu {α:Type}{xs:List α}{k:Nat}{x:α}(h:xs[k]? =some x):xs.drop k=x::xs.drop (k+1):=by
 obtain ⟨hk,rfl⟩:=List.getElem?_eq_some_iff.1 h
 exact List.drop_eq_getElem_cons hk
theorem VZ {α β:Type}[DecidableEq α](m:List (α×β))(a k:α)(b:β):Zt (Jr m a b) k=if a=k then some b else Zt m k:=by
 induction m with
 | nil=>simp [Jr,Zt]
 | cons p m ih=>
  simp only [Jr]
  split
  ·
   rename_i h
   simp only [Zt]
   by_cases h2:a=k
   ·
    simp [h2]
   ·
    simp [h2,h]
  ·
   rename_i h
   simp only [Zt,ih]
   by_cases h2:a=k
   ·
    subst h2;simp [h]
   ·
    simp [h2]
end
end Go.Proofs.YtjblkbkmblkgoaaGreat.S
namespace Go.Proofs.YtjblkbkmblkgoaaGreat
section
open Go Go.Kn Go.Proofs
structure Nt where
 kind:Int
 lm:Lm
 pt:Pt
 ls:L.Ls
 rt:S.Rt
def Q4 (x:Nt):List Value:=[.int .i64 x.kind,.int .i64 x.lm.no,.int .i64 x.lm.person,.int .i64 x.lm.ends,.int .i64 x.lm.lo,.int .i64 x.lm.hi,.int .i64 x.lm.known,.int .i64 x.lm.ck,.int .i64 x.lm.cl,.int .i64 x.lm.cn,.int .i64 x.pt.id,.int .i64 x.pt.kind,.int .i64 x.pt.sign,.int .i64 x.pt.field,.int .i64 x.pt.nw.id,.int .i64 x.pt.nw.role,.int .i64 x.pt.nw.bar,.int .i64 x.pt.nw.mark,.int .i64 x.pt.nw.kind,.int .i64 x.pt.nw.side,.int .i64 x.pt.nw.dir,.int .i64 x.pt.nw.level,.int .i64 x.pt.nw.size,.int .i64 x.pt.nw.wth,.int .i64 x.pt.nw.fn,.int .i64 x.pt.nw.fd,.int .i64 x.pt.nw.tn,.int .i64 x.pt.nw.td,.slice x.pt.a x.pt.n x.pt.c,.int .i64 x.ls.no,.int .i64 x.ls.person,.int .i64 x.ls.version,.int .i64 x.ls.at_,.int .i64 x.ls.known,.int .i64 x.rt.no,.int .i64 x.rt.kind,.int .i64 x.rt.edition,.int .i64 x.rt.holder,.int .i64 x.rt.sign,.int .i64 x.rt.ends,.string x.rt.name,.string x.rt.town,.int .i64 x.rt.lo,.int .i64 x.rt.hi,.int .i64 x.rt.known]
def Ke (x:Nt):Value:=.agg (Q4 x).toArray
theorem YV (x:Nt):(Q4 x).length=45:=rfl
theorem zab (xs:List S.Rt):YF (xs.flatMap S.encR)=true:=Yn (fun _=>rfl) xs
theorem zp2 (xs:List Nt):YF (xs.flatMap Q4)=true:=Yn (fun _=>rfl) xs
def zcA:Nt:=⟨0,Vk,V5,L.zeroL,S.zeroR⟩
def zdN (x y:Lm):Bool:=x.no==y.no&&(x.person==y.person&&(x.ends==y.ends&&(x.lo==y.lo&&(x.hi==y.hi&&(x.known==y.known&&(x.ck==y.ck&&(x.cl==y.cl&&(x.cn==y.cn&&true))))))))
theorem Vh {x y:Lm}:zdN x y=true↔x=y:=by
 obtain ⟨a1,a2,a3,a4,a5,a6,a7,a8,a9⟩:=x
 obtain ⟨b1,b2,b3,b4,b5,b6,b7,b8,b9⟩:=y
 simp [zdN]
def z1 (x:Nt):Bool:=zdN x.lm Vk
def z2 (x:Nt):Bool:=((((x.pt.id==0&&x.pt.kind==0)&&x.pt.sign==0)&&x.pt.field==0)&&ziB x.pt.nw JP)&&((x.pt.n:Int)==0)
def z3 (x:Nt):Bool:=L.lsEq x.ls L.zeroL
def z4 (x:Nt):Bool:=S.rtEq x.rt S.zeroR
def Xo (x:Nt):Bool:=(((x.kind==1||z1 x)&&(x.kind==2||z2 x))&&(x.kind==3||z3 x))&&(x.kind==4||z4 x)
theorem Xi {m:List (Int×Bool)}{k j:Int}{b:Bool}(h:Zt m j=some b):(Zt (Jr m k true) j).getD false=(k==j||b):=by
 rw [VZ]
 by_cases e:k=j
 ·
  simp [e]
 ·
  rw [if_neg e,h];simp [e]
theorem zou {m:List (Int×Bool)}{x:Nt}(h1:Zt m 1=some (z1 x))(h2:Zt m 2=some (z2 x))(h3:Zt m 3=some (z3 x))(h4:Zt m 4=some (z4 x)):
  (((Zt (Jr m x.kind true) 1).getD false&&(Zt (Jr m x.kind true) 2).getD false)&&(Zt (Jr m x.kind true) 3).getD false&&(Zt (Jr m x.kind true) 4).getD false)=Xo x:=by
 rw [Xi h1,Xi h2,Xi h3,Xi h4];rfl
def lmC (x:Lm):List Lm:=if x.ends=0 then [x] else [⟨IntKind.i64.wrap (x.ends-1),x.person,0,0,0,0,3,0,1⟩,x]
def rtC (x:S.Rt):List S.Rt:=if x.ends=0 then [x] else [⟨IntKind.i64.wrap (x.ends-1),1,0,0,0,0,⟨#[97]⟩,⟨#[97]⟩,0,0,0⟩,x]
def Wm (x:Nt):Int:=if x.kind=1 then zcX (lmC x.lm) else if x.kind=2 then K1 x.pt else if x.kind=3 then L.chk [x.ls] else if x.kind=4 then S.rCheck (rtC x.rt) else 570
def QM (x:Nt):Bool:=Wm x==0&&Xo x
def vcI (n:Int):Vc:=⟨1,n,⟨#[]⟩,none,0,0⟩
def vcT (s:ByteArray):Vc:=⟨2,0,s,none,0,0⟩
def zzp (v:Value):Value:=.agg #[.int .i64 3,.int .i64 0,.string ⟨#[]⟩,v]
def zi8:List Nat:=[0,1,2,3,4,5,6,7,8,9,10,11,12,13,14,15,16,17,18,19,20,21,22,23,24,25,26,27,29,30,31,32,33,34,35,36,37,38,39,42,43,44]
def zuq (b:Nat):List Value:=zi8.map fun o=>.pointer (some ⟨b,o,none⟩)
def zzd (b:Nat):Value:=.agg (zuq b).toArray
end
end Go.Proofs.YtjblkbkmblkgoaaGreat
namespace Go.Kn
section
open Go Go.Sort Go.Shelf Go.Lib Go.Proofs
theorem zoN {w w':World}{L:Loc}(h:St w (fun b=>w.heap[b]?) (fun _=>none) L w'):∃ q os',w'=grow (w.drewN q) os':=by
 refine ⟨w'.drawn-w.drawn,w'.heap.extract w.heap.size w'.heap.size,?_⟩
 have h1:=h.size
 have hh:w.heap++w'.heap.extract w.heap.size w'.heap.size=w'.heap:=by
  apply Array.ext'
  apply List.ext_getElem?
  intro i
  by_cases hi:i<w.heap.size
  ·
   have:=h.imm i _ (Array.getElem?_eq_getElem hi)
   rw [Array.getElem?_toList,Array.getElem?_toList,this,Array.getElem?_append_left hi,Array.getElem?_eq_getElem hi]
  ·
   rw [Array.getElem?_toList,Array.getElem?_toList,Array.getElem?_append_right kB,Array.getElem?_extract]
   by_cases h2:i<w'.heap.size
   ·
    rw [if_pos kB,show w.heap.size+(i-w.heap.size)=i by omega]
   ·
    rw [if_neg kB,Array.getElem?_eq_none kB]
 have e1:=h.os;have e2:=h.tape;have e3:=h.out
 cases w;cases w'
 simp only [grow,World.drewN] at*
 subst e1;subst e2;subst e3
 simp only [World.mk.injEq,true_and,and_true]
 exact ⟨hh.symm,kB⟩
theorem zjt {α:Type}[Inhabited α]{enc:α→List Value}{k:Nat}(hk:∀ x,(enc x).length=k)(hpos:0<k)(xs:List α):flatK enc k xs.toArray=(xs.flatMap enc).toArray:=by
 have hl:(xs.flatMap enc).length=xs.length*k:=YO hk xs
 apply Array.ext
 ·
  rw [size_flatK];simp [hl]
 ·
  intro t h1 h2
  have ht:t<xs.length*k:=by rw [size_flatK] at h1;simpa using h1
  have hq:t / k<xs.length:=by rw [Nat.div_lt_iff_lt_mul hpos];exact ht
  have hr:t % k<k:=Nat.mod_lt _ hpos
  have hx:xs[t / k]? =some xs[t / k]:=List.getElem?_eq_getElem hq
  have hu:(enc xs[t / k])[t % k]? =some ((enc xs[t / k])[t % k]'(by rw [hk];exact hr)):=List.getElem?_eq_getElem _
  have h3:=zbl hk xs (t / k) _ hx (t % k) _ hu
  rw [Nat.mul_comm,Nat.div_add_mod] at h3
  have h4:=get_flatK enc k xs.toArray t (by simpa using ht)
  rw [getElem!_pos (flatK enc k xs.toArray) t h1] at h4
  rw [h4]
  have e1:xs.toArray[t / k]! =xs[t / k]'hq:=by simp [hq]
  rw [e1]
  have e2:(enc (xs[t / k]'hq))[t % k]! =(enc (xs[t / k]'hq))[t % k]'(by rw [hk];exact hr):=getElem!_pos (enc (xs[t / k]'hq)) (t % k) (by rw [hk];exact hr)
  rw [e2]
  have e3:(xs.flatMap enc).toArray[t]? =some ((enc xs[t / k])[t % k]'(by rw [hk];exact hr)):=by simpa using h3
  rw [Array.getElem?_eq_getElem h2] at e3
  exact (Option.some.inj e3).symm
end
end Go.Kn
namespace Go.Proofs.YtjblkbkmblkgoaaGreat
section
open Go Go.Kn Go.Proofs
theorem U1:ElT Tryz.prog 57 45 45 392:=.of kA
theorem VB:ElT Tryz.prog 62 32 9 72:=.of kA
theorem VA:ElT Tryz.prog 65 43 11 104:=.of kA
theorem Q8:SlT Tryz.prog 57 45 45:=.of kA
theorem ZH:SlT Tryz.prog 65 43 11:=.of kA
theorem znW:Tryz.prog.underlying 3=some (.int .i64):=kA
theorem zj1 {zs:List Value}{a b:Nat}(h:a+b≤zs.length):∃ p q r,zs=p++(q++r)∧p.length=a∧q.length=b:=
 ⟨zs.take a,(zs.drop a).take b,(zs.drop a).drop b,by rw [List.take_append_drop,List.take_append_drop],by rw [List.length_take];omega,by rw [List.length_take,List.length_drop];omega⟩
theorem zpK (xs:List Lm):(xs.flatMap Zh).length=xs.length*9:=YO Yx xs
theorem zdS {b n c:Nat}{xs:List Lm}{cur rest:List Value}(hl:xs.length=n)(hn:n≤c)(hc:c≤maxLen)(hcur:cur=xs.flatMap Zh++rest)(hs:cur.length=c*9):ZW 32 9 (.slice (some ⟨b,0,none⟩) n c) n (xs.flatMap Zh) [(b,.cells cur.toArray 32 (0,0))]:=by
 subst hcur
 refine ⟨by rw [zpK,hl],.inr ⟨b,c,_,rfl,rfl,hn,hc,by simpa using hs,?_⟩⟩
 rw [List.take_left' (by rw [zpK,hl])]
theorem ziE {I:Qu}{av:Option Addr}{n c:Nat}{xs:List Lm}{L:Go.Kn.Loc}(hO:ZW 32 9 (.slice av n c) n (xs.flatMap Zh) L)(hn:n≤100000)(hl:xs.length=n)(b2:Nat)(y:Lm):Vs Tryz.prog 170 [.slice av n c,.int .i64 n,.slice (some ⟨b2,0,none⟩) 1 1] I (L++[(b2,.cells [Zh y].flatten.toArray 32 (0,0))]) (fun v' I' L'=>I'=I∧ZW 32 9 v' (n+1) ((xs.take n++y::xs.drop n).flatMap Zh) L'):=by
 intro g H w hw
 refine qe Tryz.func170 Tryz.ntmps170 hw ?_
 refine zR (zA ?_)
 refine zN (zR ?_)
 refine zM ?_
 refine zM ?_
 refine zV (Vx rfl rfl Zx (fun hg=>kB)) ?_
 refine zN (zR ?_)
 refine zM ?_
 refine zQ Zx ?_
 refine zA (zN (Qo (zR ?_)))
 refine zM ?_
 refine zC (zN ?_)
 refine zI ?_ ?_<;>intro hc16
 ·
  exact absurd hc16 kD
 refine Qp (Qd (zR (zM ?_)))
 refine zQ Zx ?_
 refine zA (zN (Qo (zR ?_)))
 refine zM ?_
 refine zM ?_
 refine zC (zN ?_)
 refine zI ?_ ?_<;>intro hc22
 ·
  refine zR (zM ?_)
  refine zM ?_
  refine zpa (_) ([Zh y].flatten) (L) rfl rfl VB hO ⟨rfl,fun _=>rfl,.app zz2⟩ rfl ?_
  intro v' L' hO' _
  refine zA (zN (Qs (Qf ?_)))
  exact Qy rfl rfl (fun w hw=>⟨_,I,_,rfl,zz4 _,hw.subL QH,rfl,by rw [List.take_of_length_le kB,List.drop_eq_nil_of_le kB];simpa [List.flatMap_append] using hO'⟩)
 exact absurd hc22 kH
theorem zmA {I:Qu}{b n c i:Nat}{xs:List Lm}{R:List Value}(hl:xs.length=n)(hi:i<n)(hn:n≤100000)(hnc:n≤c)(hcm:c≤maxLen)(hR:(((xs.take i).flatMap Zh)++((xs.drop i).flatMap Zh)++R).length=c*9)(b2:Nat)(hne:b2≠b)(y:Lm):Vs Tryz.prog 170 [.slice (some ⟨b,0,none⟩) n c,.int .i64 i,.slice (some ⟨b2,0,none⟩) 1 1] I ([(b,.cells (((xs.take i).flatMap Zh)++((xs.drop i).flatMap Zh)++R).toArray 32 (0,0)),(b2,.cells [Zh y].flatten.toArray 32 (0,0))]) (fun v' I' L'=>I'=I∧ZW 32 9 v' (n+1) ((xs.take i++y::xs.drop i).flatMap Zh) L'):=by
 intro g H w hw
 refine qe Tryz.func170 Tryz.ntmps170 hw ?_
 have hA:((xs.take i).flatMap Zh).length=i*9:=by rw [zpK,List.length_take];omega
 have hB:((xs.drop i).flatMap Zh).length=(n-i)*9:=by rw [zpK,List.length_drop];omega
 have hY:[Zh y].flatten.length=9:=rfl
 refine zR (zA ?_)
 refine zN (zR ?_)
 refine zM ?_
 refine zM ?_
 refine zV (Zj rfl rfl Zx kB) ?_
 refine zN (zR ?_)
 refine zM ?_
 refine zQ Zx ?_
 refine zA (zN (Qo (zR ?_)))
 refine zM ?_
 refine zC (zN ?_)
 refine zI ?_ ?_<;>intro hc16
 ·
  exact absurd hc16 kD
 refine Qp (Qd (zR (zM ?_)))
 refine zQ Zx ?_
 refine zA (zN (Qo (zR ?_)))
 refine zM ?_
 refine zM ?_
 refine zC (zN ?_)
 refine zI ?_ ?_<;>intro hc22
 ·
  have h:=hc22;simp at h;omega
 refine Qp (Qd (Qo (zR (zM ?_))))
 refine zM ?_
 refine zB ?_
 refine zM ?_
 refine zV (zje rfl Zx) ?_
 refine zC (zN ?_)
 refine zI ?_ ?_<;>intro hc31
 ·
  have hgr:c<n+1:=by have h:=hc31;simp at h;omega
  refine zR (zM ?_)
  refine zM ?_
  refine zV (YI rfl rfl Zx (fun hg=>kB)) ?_
  refine zM ?_
  refine zM ?_
  refine zB ?_
  refine zM ?_
  refine zB ?_
  refine X0 (ys:=((xs.take i).flatMap Zh)) rfl rfl VB znW kB kD kB hA (Cells.part (pre:=[]) (post:=((xs.drop i).flatMap Zh)++R) (by rw [List.nil_append,←List.append_assoc];exact .here) rfl) kB rfl rfl (fun b3 c3 zs hc3 hm3 hz3=>?_)
  obtain ⟨z1,z2,z3,rfl,hz1,hz2⟩:=zj1 (zs:=zs) (a:=9) (b:=(n-i)*9) (by rw [List.length_append,hA] at hz3;omega)
  refine zA ?_
  refine zN (zR ?_)
  refine zM ?_
  refine zM ?_
  refine zV (Zj rfl rfl Zx kB) ?_
  refine zM ?_
  refine JV (pre:=((xs.take i).flatMap Zh)) (old:=z1) (post:=z2++z3) (vs:=[Zh y].flatten) (cur':=(((xs.take i).flatMap Zh)++[Zh y].flatten++(z2++z3)).toArray) (by rw [List.append_assoc]) rfl rfl rfl Zx (by show 9=_;simp only [Nat.min_def];split<;>omega) (by rw [hz1];rfl) kB (fun _=>rfl) (.there (.there .here)) rfl rfl rfl .here ?_
  refine zN (Qo ?_)
  have hD:=zz4 I
  refine Zn ?_
  refine QL I [] mixed ?_
  refine zT 0 rfl (Qe rfl) hD ?_
  refine zT 1 rfl (Qe rfl) hD ?_
  refine zT 2 rfl (Qe rfl) hD ?_
  refine zT 3 rfl (YE rfl rfl rfl (fun _=>kB)) hD ?_
  refine zT 4 rfl (Zj rfl rfl Zx kB) hD ?_
  refine zT 5 rfl (Qe rfl) hD ?_
  refine zT 6 rfl (Qe rfl) hD ?_
  refine zT 7 rfl (Zj rfl rfl Zx kB) hD ?_
  refine qd 8 rfl ?_
  refine JV (pre:=((xs.take i).flatMap Zh)++[Zh y].flatten) (old:=z2) (post:=z3) (vs:=((xs.drop i).flatMap Zh)) (cur':=(((xs.take i).flatMap Zh)++[Zh y].flatten++((xs.drop i).flatMap Zh)++z3).toArray) kT rfl rfl rfl Zx (by rw [hB];simp only [Nat.min_def];split<;>omega) (by rw [hz2,hB]) (by rw [List.length_append,hA,hY];omega) (fun _=>rfl) (.there (Cells.part (pre:=((xs.take i).flatMap Zh)) (post:=R) .here (by show 0+_=_;rw [hA];omega))) (zap _) rfl rfl .here ?_
  refine Qb ?_
  refine zD hD ?_
  refine Ql kA ?_
  refine Qt ?_
  refine Qd (zR (zM ?_))
  refine zA (zN (Qs (Qf ?_)))
  first
  | exact Qy rfl rfl (fun w hw=>⟨_,I,_,rfl,zz4 _,hw.subL (.keep QC),rfl,by rw [show (i:Int).toNat+((n:Int)+((1:Nat):Int)-(i:Int)).toNat=n+1 by omega];exact zdS (rest:=z3) (by simp [hl];omega) kB hm3 kN (by simp only [List.length_append,hA,hB,hz1,hz2] at hz3 ⊢;rw [hY];omega)⟩)
 have hgr:n+1≤c:=by have h:=hc31;simp at h;omega
 refine Qp (Qd (Qo ?_))
 obtain ⟨r5,R2,rfl,hr5⟩:∃ r5 R2,R=r5++R2∧r5.length=9:=⟨R.take 9,R.drop 9,by rw [List.take_append_drop],by rw [List.length_take];simp only [List.length_append,hA,hB] at hR;omega⟩
 obtain ⟨p1,p2,hpp,hp1,hp2⟩:∃ p1 p2,((xs.drop i).flatMap Zh)++r5=p1++p2∧p1.length=9∧p2.length=(n-i)*9:=⟨(((xs.drop i).flatMap Zh)++r5).take 9,(((xs.drop i).flatMap Zh)++r5).drop 9,by rw [List.take_append_drop],by rw [List.length_take,List.length_append,hB,hr5];omega,by rw [List.length_drop,List.length_append,hB,hr5];omega⟩
 have hcur:(((xs.take i).flatMap Zh)++((xs.drop i).flatMap Zh)++(r5++R2)).toArray=(((xs.take i).flatMap Zh)++p1++p2++R2).toArray:=by rw [List.append_assoc (((xs.take i).flatMap Zh)++p1),List.append_assoc ((xs.take i).flatMap Zh) p1,←List.append_assoc p1,←hpp];simp only [List.append_assoc]
 refine Qi (zM ?_)
 refine zM ?_
 refine zM ?_
 refine zB ?_
 refine zV (YI rfl rfl Zx (fun hg=>kB)) ?_
 refine zA (zN (Qo (zR ?_)))
 refine zM ?_
 refine zM ?_
 refine zM ?_
 refine zM ?_
 refine zB ?_
 refine zV (Zj rfl rfl Zx kB) ?_
 refine Wx rfl rfl rfl Tryz.func222 kA kA kA (by kernel_rfl:Extern.find Tryz.f222=some (Extern.SlicesOverlaps.overlaps #[62,62] #[4])) Zx hne (List.mem_cons_of_mem _ (List.mem_cons_self ..)) (List.mem_cons_self ..) (by rw [List.size_toArray,hR];omega) rfl rfl ?_
 refine zO (zN ?_)
 refine zI ?_ ?_<;>intro hc68
 ·
  refine Qo ?_
  have hD:=zz4 I
  refine Zn ?_
  refine QL I [] mixed ?_
  refine zT 0 rfl (Qe rfl) hD ?_
  refine zT 1 rfl (Qe rfl) hD ?_
  refine zT 2 rfl (Qe rfl) hD ?_
  refine zT 3 rfl (YE rfl rfl rfl (fun _=>kB)) hD ?_
  refine zT 4 rfl (Zj rfl rfl Zx kB) hD ?_
  refine zT 5 rfl (Qe rfl) hD ?_
  refine zT 6 rfl (Qe rfl) hD ?_
  refine zT 7 rfl (Zj rfl rfl Zx kB) hD ?_
  refine qd 8 rfl ?_
  refine JV (pre:=((xs.take i).flatMap Zh)++p1) (old:=p2) (post:=R2) (vs:=((xs.drop i).flatMap Zh)) (cur':=(((xs.take i).flatMap Zh)++p1++((xs.drop i).flatMap Zh)++R2).toArray) hcur rfl rfl rfl Zx (by rw [hB];simp only [Nat.min_def];split<;>omega) (by rw [hp2,hB]) (by rw [List.length_append,hA,hp1];omega) (fun _=>rfl) (Cells.part (pre:=((xs.take i).flatMap Zh)) (post:=r5++R2) .here (by show 0+_=_;rw [hA];omega)) (zap _) rfl rfl .here ?_
  refine Qb ?_
  refine zD hD ?_
  refine Ql kA ?_
  refine Qt ?_
  refine Qd (zR (zM ?_))
  refine zM ?_
  refine zV (Zj rfl rfl Zx kB) ?_
  refine zM ?_
  refine JV (pre:=((xs.take i).flatMap Zh)) (old:=p1) (post:=((xs.drop i).flatMap Zh)++R2) (vs:=[Zh y].flatten) (cur':=(((xs.take i).flatMap Zh)++[Zh y].flatten++(((xs.drop i).flatMap Zh)++R2)).toArray) (by rw [List.append_assoc (_++_)]) rfl rfl rfl Zx (by show 9=_;simp only [Nat.min_def];split<;>omega) (by rw [hp1];rfl) kB (fun _=>rfl) (.there .here) rfl rfl rfl .here ?_
  refine zN (zR ?_)
  refine zM ?_
  refine zA (zN (Qs (Qf ?_)))
  first
  | exact Qy rfl rfl (fun w hw=>⟨_,I,_,rfl,zz4 _,hw.subL (.keep QC),rfl,by rw [show ((n:Int)+((1:Nat):Int)).toNat=n+1 by omega];exact zdS (rest:=R2) (by simp [hl];omega) hgr hcm kN (by simp only [List.length_append,hA,hB,hr5] at hR ⊢;rw [hY];omega)⟩)
 cases hc68
theorem zmy {I:Qu}{v:Value}{n:Nat}{xs:List Lm}{L:Go.Kn.Loc}(hO:ZW 32 9 v n (xs.flatMap Zh) L)(hn:n≤100000)(hl:xs.length=n){i:Nat}(hi:i≤n)(b2:Nat)(y:Lm):
  Vs Tryz.prog 170 [v,.int .i64 i,.slice (some ⟨b2,0,none⟩) 1 1] I (L++[(b2,.cells [Zh y].flatten.toArray 32 (0,0))]) (fun v' I' L'=>I'=I∧ZW 32 9 v' (n+1) ((xs.take i++y::xs.drop i).flatMap Zh) L'):=by
 by_cases hin:i=n
 ·
  subst hin
  obtain ⟨av,c,rfl⟩:=hO.shape
  exact ziE hO hn hl b2 y
 rcases hO.2 with ⟨_,h0,_⟩ | ⟨b,c,cur,rfl,rfl,hnc,hcm,hcs,ht⟩
 ·
  omega
 intro g H w hw
 have hne:b2≠b:=fun e=>by
  have:=hw.nodup
  subst e
  simp at this
 have hsplit:(xs.take i).flatMap Zh++(xs.drop i).flatMap Zh=xs.flatMap Zh:=by rw [←List.flatMap_append,List.take_append_drop]
 have hcur:cur=((xs.take i).flatMap Zh++(xs.drop i).flatMap Zh++cur.toList.drop (n*9)).toArray:=by
  rw [hsplit,←ht,List.take_append_drop,Array.toArray_toList]
 rw [hcur] at hw
 exact zmA hl kB hn hnc hcm (by rw [hsplit,←ht,List.take_append_drop,Array.length_toList,hcs]) b2 hne y g H w hw
theorem znZ (xs:List S.Rt):(xs.flatMap S.encR).length=xs.length*11:=YO S.encR_len xs
theorem zdc {b n c:Nat}{xs:List S.Rt}{cur rest:List Value}(hl:xs.length=n)(hn:n≤c)(hc:c≤maxLen)(hcur:cur=xs.flatMap S.encR++rest)(hs:cur.length=c*11):ZW 43 11 (.slice (some ⟨b,0,none⟩) n c) n (xs.flatMap S.encR) [(b,.cells cur.toArray 43 (0,0))]:=by
 subst hcur
 refine ⟨by rw [znZ,hl],.inr ⟨b,c,_,rfl,rfl,hn,hc,by simpa using hs,?_⟩⟩
 rw [List.take_left' (by rw [znZ,hl])]
theorem ziR {I:Qu}{av:Option Addr}{n c:Nat}{xs:List S.Rt}{L:Go.Kn.Loc}(hO:ZW 43 11 (.slice av n c) n (xs.flatMap S.encR) L)(hn:n≤100000)(hl:xs.length=n)(b2:Nat)(y:S.Rt):Vs Tryz.prog 171 [.slice av n c,.int .i64 n,.slice (some ⟨b2,0,none⟩) 1 1] I (L++[(b2,.cells [S.encR y].flatten.toArray 43 (0,0))]) (fun v' I' L'=>I'=I∧ZW 43 11 v' (n+1) ((xs.take n++y::xs.drop n).flatMap S.encR) L'):=by
 intro g H w hw
 refine qe Tryz.func171 Tryz.ntmps171 hw ?_
 refine zR (zA ?_)
 refine zN (zR ?_)
 refine zM ?_
 refine zM ?_
 refine zV (Vx rfl rfl ZH (fun hg=>kB)) ?_
 refine zN (zR ?_)
 refine zM ?_
 refine zQ ZH ?_
 refine zA (zN (Qo (zR ?_)))
 refine zM ?_
 refine zC (zN ?_)
 refine zI ?_ ?_<;>intro hc16
 ·
  exact absurd hc16 kD
 refine Qp (Qd (zR (zM ?_)))
 refine zQ ZH ?_
 refine zA (zN (Qo (zR ?_)))
 refine zM ?_
 refine zM ?_
 refine zC (zN ?_)
 refine zI ?_ ?_<;>intro hc22
 ·
  refine zR (zM ?_)
  refine zM ?_
  refine zpa (_) ([S.encR y].flatten) (L) rfl rfl VA hO ⟨rfl,fun _=>rfl,.app zz2⟩ rfl ?_
  intro v' L' hO' _
  refine zA (zN (Qs (Qf ?_)))
  exact Qy rfl rfl (fun w hw=>⟨_,I,_,rfl,zz4 _,hw.subL QH,rfl,by rw [List.take_of_length_le kB,List.drop_eq_nil_of_le kB];simpa [List.flatMap_append] using hO'⟩)
 exact absurd hc22 kH
theorem zkX {I:Qu}{b n c i:Nat}{xs:List S.Rt}{R:List Value}(hl:xs.length=n)(hi:i<n)(hn:n≤100000)(hnc:n≤c)(hcm:c≤maxLen)(hR:(((xs.take i).flatMap S.encR)++((xs.drop i).flatMap S.encR)++R).length=c*11)(b2:Nat)(hne:b2≠b)(y:S.Rt):Vs Tryz.prog 171 [.slice (some ⟨b,0,none⟩) n c,.int .i64 i,.slice (some ⟨b2,0,none⟩) 1 1] I ([(b,.cells (((xs.take i).flatMap S.encR)++((xs.drop i).flatMap S.encR)++R).toArray 43 (0,0)),(b2,.cells [S.encR y].flatten.toArray 43 (0,0))]) (fun v' I' L'=>I'=I∧ZW 43 11 v' (n+1) ((xs.take i++y::xs.drop i).flatMap S.encR) L'):=by
 intro g H w hw
 refine qe Tryz.func171 Tryz.ntmps171 hw ?_
 have hA:((xs.take i).flatMap S.encR).length=i*11:=by rw [znZ,List.length_take];omega
 have hB:((xs.drop i).flatMap S.encR).length=(n-i)*11:=by rw [znZ,List.length_drop];omega
 have hY:[S.encR y].flatten.length=11:=rfl
 refine zR (zA ?_)
 refine zN (zR ?_)
 refine zM ?_
 refine zM ?_
 refine zV (Zj rfl rfl ZH kB) ?_
 refine zN (zR ?_)
 refine zM ?_
 refine zQ ZH ?_
 refine zA (zN (Qo (zR ?_)))
 refine zM ?_
 refine zC (zN ?_)
 refine zI ?_ ?_<;>intro hc16
 ·
  exact absurd hc16 kD
 refine Qp (Qd (zR (zM ?_)))
 refine zQ ZH ?_
 refine zA (zN (Qo (zR ?_)))
 refine zM ?_
 refine zM ?_
 refine zC (zN ?_)
 refine zI ?_ ?_<;>intro hc22
 ·
  have h:=hc22;simp at h;omega
 refine Qp (Qd (Qo (zR (zM ?_))))
 refine zM ?_
 refine zB ?_
 refine zM ?_
 refine zV (zje rfl ZH) ?_
 refine zC (zN ?_)
 refine zI ?_ ?_<;>intro hc31
 ·
  have hgr:c<n+1:=by have h:=hc31;simp at h;omega
  refine zR (zM ?_)
  refine zM ?_
  refine zV (YI rfl rfl ZH (fun hg=>kB)) ?_
  refine zM ?_
  refine zM ?_
  refine zB ?_
  refine zM ?_
  refine zB ?_
  refine X0 (ys:=((xs.take i).flatMap S.encR)) rfl rfl VA znW kB kD kB hA (Cells.part (pre:=[]) (post:=((xs.drop i).flatMap S.encR)++R) (by rw [List.nil_append,←List.append_assoc];exact .here) rfl) kB rfl rfl (fun b3 c3 zs hc3 hm3 hz3=>?_)
  obtain ⟨z1,z2,z3,rfl,hz1,hz2⟩:=zj1 (zs:=zs) (a:=11) (b:=(n-i)*11) (by rw [List.length_append,hA] at hz3;omega)
  refine zA ?_
  refine zN (zR ?_)
  refine zM ?_
  refine zM ?_
  refine zV (Zj rfl rfl ZH kB) ?_
  refine zM ?_
  refine JV (pre:=((xs.take i).flatMap S.encR)) (old:=z1) (post:=z2++z3) (vs:=[S.encR y].flatten) (cur':=(((xs.take i).flatMap S.encR)++[S.encR y].flatten++(z2++z3)).toArray) (by rw [List.append_assoc]) rfl rfl rfl ZH (by show 11=_;simp only [Nat.min_def];split<;>omega) (by rw [hz1];rfl) kB (fun _=>rfl) (.there (.there .here)) rfl rfl rfl .here ?_
  refine zN (Qo ?_)
  have hD:=zz4 I
  refine Zn ?_
  refine QL I [] mixed ?_
  refine zT 0 rfl (Qe rfl) hD ?_
  refine zT 1 rfl (Qe rfl) hD ?_
  refine zT 2 rfl (Qe rfl) hD ?_
  refine zT 3 rfl (YE rfl rfl rfl (fun _=>kB)) hD ?_
  refine zT 4 rfl (Zj rfl rfl ZH kB) hD ?_
  refine zT 5 rfl (Qe rfl) hD ?_
  refine zT 6 rfl (Qe rfl) hD ?_
  refine zT 7 rfl (Zj rfl rfl ZH kB) hD ?_
  refine qd 8 rfl ?_
  refine JV (pre:=((xs.take i).flatMap S.encR)++[S.encR y].flatten) (old:=z2) (post:=z3) (vs:=((xs.drop i).flatMap S.encR)) (cur':=(((xs.take i).flatMap S.encR)++[S.encR y].flatten++((xs.drop i).flatMap S.encR)++z3).toArray) kT rfl rfl rfl ZH (by rw [hB];simp only [Nat.min_def];split<;>omega) (by rw [hz2,hB]) (by rw [List.length_append,hA,hY];omega) (fun _=>rfl) (.there (Cells.part (pre:=((xs.take i).flatMap S.encR)) (post:=R) .here (by show 0+_=_;rw [hA];omega))) (zab _) rfl rfl .here ?_
  refine Qb ?_
  refine zD hD ?_
  refine Ql kA ?_
  refine Qt ?_
  refine Qd (zR (zM ?_))
  refine zA (zN (Qs (Qf ?_)))
  first
  | exact Qy rfl rfl (fun w hw=>⟨_,I,_,rfl,zz4 _,hw.subL (.keep QC),rfl,by rw [show (i:Int).toNat+((n:Int)+((1:Nat):Int)-(i:Int)).toNat=n+1 by omega];exact zdc (rest:=z3) (by simp [hl];omega) kB hm3 kN (by simp only [List.length_append,hA,hB,hz1,hz2] at hz3 ⊢;rw [hY];omega)⟩)
 have hgr:n+1≤c:=by have h:=hc31;simp at h;omega
 refine Qp (Qd (Qo ?_))
 obtain ⟨r5,R2,rfl,hr5⟩:∃ r5 R2,R=r5++R2∧r5.length=11:=⟨R.take 11,R.drop 11,by rw [List.take_append_drop],by rw [List.length_take];simp only [List.length_append,hA,hB] at hR;omega⟩
 obtain ⟨p1,p2,hpp,hp1,hp2⟩:∃ p1 p2,((xs.drop i).flatMap S.encR)++r5=p1++p2∧p1.length=11∧p2.length=(n-i)*11:=⟨(((xs.drop i).flatMap S.encR)++r5).take 11,(((xs.drop i).flatMap S.encR)++r5).drop 11,by rw [List.take_append_drop],by rw [List.length_take,List.length_append,hB,hr5];omega,by rw [List.length_drop,List.length_append,hB,hr5];omega⟩
 have hcur:(((xs.take i).flatMap S.encR)++((xs.drop i).flatMap S.encR)++(r5++R2)).toArray=(((xs.take i).flatMap S.encR)++p1++p2++R2).toArray:=by rw [List.append_assoc (((xs.take i).flatMap S.encR)++p1),List.append_assoc ((xs.take i).flatMap S.encR) p1,←List.append_assoc p1,←hpp];simp only [List.append_assoc]
 refine Qi (zM ?_)
 refine zM ?_
 refine zM ?_
 refine zB ?_
 refine zV (YI rfl rfl ZH (fun hg=>kB)) ?_
 refine zA (zN (Qo (zR ?_)))
 refine zM ?_
 refine zM ?_
 refine zM ?_
 refine zM ?_
 refine zB ?_
 refine zV (Zj rfl rfl ZH kB) ?_
 refine Wx rfl rfl rfl Tryz.func224 kA kA kA (by kernel_rfl:Extern.find Tryz.f224=some (Extern.SlicesOverlaps.overlaps #[65,65] #[4])) ZH hne (List.mem_cons_of_mem _ (List.mem_cons_self ..)) (List.mem_cons_self ..) (by rw [List.size_toArray,hR];omega) rfl rfl ?_
 refine zO (zN ?_)
 refine zI ?_ ?_<;>intro hc68
 ·
  refine Qo ?_
  have hD:=zz4 I
  refine Zn ?_
  refine QL I [] mixed ?_
  refine zT 0 rfl (Qe rfl) hD ?_
  refine zT 1 rfl (Qe rfl) hD ?_
  refine zT 2 rfl (Qe rfl) hD ?_
  refine zT 3 rfl (YE rfl rfl rfl (fun _=>kB)) hD ?_
  refine zT 4 rfl (Zj rfl rfl ZH kB) hD ?_
  refine zT 5 rfl (Qe rfl) hD ?_
  refine zT 6 rfl (Qe rfl) hD ?_
  refine zT 7 rfl (Zj rfl rfl ZH kB) hD ?_
  refine qd 8 rfl ?_
  refine JV (pre:=((xs.take i).flatMap S.encR)++p1) (old:=p2) (post:=R2) (vs:=((xs.drop i).flatMap S.encR)) (cur':=(((xs.take i).flatMap S.encR)++p1++((xs.drop i).flatMap S.encR)++R2).toArray) hcur rfl rfl rfl ZH (by rw [hB];simp only [Nat.min_def];split<;>omega) (by rw [hp2,hB]) (by rw [List.length_append,hA,hp1];omega) (fun _=>rfl) (Cells.part (pre:=((xs.take i).flatMap S.encR)) (post:=r5++R2) .here (by show 0+_=_;rw [hA];omega)) (zab _) rfl rfl .here ?_
  refine Qb ?_
  refine zD hD ?_
  refine Ql kA ?_
  refine Qt ?_
  refine Qd (zR (zM ?_))
  refine zM ?_
  refine zV (Zj rfl rfl ZH kB) ?_
  refine zM ?_
  refine JV (pre:=((xs.take i).flatMap S.encR)) (old:=p1) (post:=((xs.drop i).flatMap S.encR)++R2) (vs:=[S.encR y].flatten) (cur':=(((xs.take i).flatMap S.encR)++[S.encR y].flatten++(((xs.drop i).flatMap S.encR)++R2)).toArray) (by rw [List.append_assoc (_++_)]) rfl rfl rfl ZH (by show 11=_;simp only [Nat.min_def];split<;>omega) (by rw [hp1];rfl) kB (fun _=>rfl) (.there .here) rfl rfl rfl .here ?_
  refine zN (zR ?_)
  refine zM ?_
  refine zA (zN (Qs (Qf ?_)))
  first
  | exact Qy rfl rfl (fun w hw=>⟨_,I,_,rfl,zz4 _,hw.subL (.keep QC),rfl,by rw [show ((n:Int)+((1:Nat):Int)).toNat=n+1 by omega];exact zdc (rest:=R2) (by simp [hl];omega) hgr hcm kN (by simp only [List.length_append,hA,hB,hr5] at hR ⊢;rw [hY];omega)⟩)
 cases hc68
theorem zmj {I:Qu}{v:Value}{n:Nat}{xs:List S.Rt}{L:Go.Kn.Loc}(hO:ZW 43 11 v n (xs.flatMap S.encR) L)(hn:n≤100000)(hl:xs.length=n){i:Nat}(hi:i≤n)(b2:Nat)(y:S.Rt):
  Vs Tryz.prog 171 [v,.int .i64 i,.slice (some ⟨b2,0,none⟩) 1 1] I (L++[(b2,.cells [S.encR y].flatten.toArray 43 (0,0))]) (fun v' I' L'=>I'=I∧ZW 43 11 v' (n+1) ((xs.take i++y::xs.drop i).flatMap S.encR) L'):=by
 by_cases hin:i=n
 ·
  subst hin
  obtain ⟨av,c,rfl⟩:=hO.shape
  exact ziR hO hn hl b2 y
 rcases hO.2 with ⟨_,h0,_⟩ | ⟨b,c,cur,rfl,rfl,hnc,hcm,hcs,ht⟩
 ·
  omega
 intro g H w hw
 have hne:b2≠b:=fun e=>by
  have:=hw.nodup
  subst e
  simp at this
 have hsplit:(xs.take i).flatMap S.encR++(xs.drop i).flatMap S.encR=xs.flatMap S.encR:=by rw [←List.flatMap_append,List.take_append_drop]
 have hcur:cur=((xs.take i).flatMap S.encR++(xs.drop i).flatMap S.encR++cur.toList.drop (n*11)).toArray:=by
  rw [hsplit,←ht,List.take_append_drop,Array.toArray_toList]
 rw [hcur] at hw
 exact zkX hl kB hn hnc hcm (by rw [hsplit,←ht,List.take_append_drop,Array.length_toList,hcs]) b2 hne y g H w hw
theorem zoV (xs:List Nt):(xs.flatMap Q4).length=xs.length*45:=YO YV xs
theorem zg3 {b n c:Nat}{xs:List Nt}{cur rest:List Value}(hl:xs.length=n)(hn:n≤c)(hc:c≤maxLen)(hcur:cur=xs.flatMap Q4++rest)(hs:cur.length=c*45):ZW 45 45 (.slice (some ⟨b,0,none⟩) n c) n (xs.flatMap Q4) [(b,.cells cur.toArray 45 (0,0))]:=by
 subst hcur
 refine ⟨by rw [zoV,hl],.inr ⟨b,c,_,rfl,rfl,hn,hc,by simpa using hs,?_⟩⟩
 rw [List.take_left' (by rw [zoV,hl])]
theorem ziu {I:Qu}{av:Option Addr}{n c:Nat}{xs:List Nt}{L:Go.Kn.Loc}(hO:ZW 45 45 (.slice av n c) n (xs.flatMap Q4) L)(hn:n≤100000)(hl:xs.length=n)(b2:Nat)(y:Nt):Vs Tryz.prog 174 [.slice av n c,.int .i64 n,.slice (some ⟨b2,0,none⟩) 1 1] I (L++[(b2,.cells [Q4 y].flatten.toArray 45 (0,0))]) (fun v' I' L'=>I'=I∧ZW 45 45 v' (n+1) ((xs.take n++y::xs.drop n).flatMap Q4) L'):=by
 intro g H w hw
 refine qe Tryz.func174 Tryz.ntmps174 hw ?_
 refine zR (zA ?_)
 refine zN (zR ?_)
 refine zM ?_
 refine zM ?_
 refine zV (Vx rfl rfl Q8 (fun hg=>kB)) ?_
 refine zN (zR ?_)
 refine zM ?_
 refine zQ Q8 ?_
 refine zA (zN (Qo (zR ?_)))
 refine zM ?_
 refine zC (zN ?_)
 refine zI ?_ ?_<;>intro hc16
 ·
  exact absurd hc16 kD
 refine Qp (Qd (zR (zM ?_)))
 refine zQ Q8 ?_
 refine zA (zN (Qo (zR ?_)))
 refine zM ?_
 refine zM ?_
 refine zC (zN ?_)
 refine zI ?_ ?_<;>intro hc22
 ·
  refine zR (zM ?_)
  refine zM ?_
  refine zpa (_) ([Q4 y].flatten) (L) rfl rfl U1 hO ⟨rfl,fun _=>rfl,.app zz2⟩ rfl ?_
  intro v' L' hO' _
  refine zA (zN (Qs (Qf ?_)))
  exact Qy rfl rfl (fun w hw=>⟨_,I,_,rfl,zz4 _,hw.subL QH,rfl,by rw [List.take_of_length_le kB,List.drop_eq_nil_of_le kB];simpa [List.flatMap_append] using hO'⟩)
 exact absurd hc22 kH
theorem zkh {I:Qu}{b n c i:Nat}{xs:List Nt}{R:List Value}(hl:xs.length=n)(hi:i<n)(hn:n≤100000)(hnc:n≤c)(hcm:c≤maxLen)(hR:(((xs.take i).flatMap Q4)++((xs.drop i).flatMap Q4)++R).length=c*45)(b2:Nat)(hne:b2≠b)(y:Nt):Vs Tryz.prog 174 [.slice (some ⟨b,0,none⟩) n c,.int .i64 i,.slice (some ⟨b2,0,none⟩) 1 1] I ([(b,.cells (((xs.take i).flatMap Q4)++((xs.drop i).flatMap Q4)++R).toArray 45 (0,0)),(b2,.cells [Q4 y].flatten.toArray 45 (0,0))]) (fun v' I' L'=>I'=I∧ZW 45 45 v' (n+1) ((xs.take i++y::xs.drop i).flatMap Q4) L'):=by
 intro g H w hw
 refine qe Tryz.func174 Tryz.ntmps174 hw ?_
 have hA:((xs.take i).flatMap Q4).length=i*45:=by rw [zoV,List.length_take];omega
 have hB:((xs.drop i).flatMap Q4).length=(n-i)*45:=by rw [zoV,List.length_drop];omega
 have hY:[Q4 y].flatten.length=45:=rfl
 refine zR (zA ?_)
 refine zN (zR ?_)
 refine zM ?_
 refine zM ?_
 refine zV (Zj rfl rfl Q8 kB) ?_
 refine zN (zR ?_)
 refine zM ?_
 refine zQ Q8 ?_
 refine zA (zN (Qo (zR ?_)))
 refine zM ?_
 refine zC (zN ?_)
 refine zI ?_ ?_<;>intro hc16
 ·
  exact absurd hc16 kD
 refine Qp (Qd (zR (zM ?_)))
 refine zQ Q8 ?_
 refine zA (zN (Qo (zR ?_)))
 refine zM ?_
 refine zM ?_
 refine zC (zN ?_)
 refine zI ?_ ?_<;>intro hc22
 ·
  have h:=hc22;simp at h;omega
 refine Qp (Qd (Qo (zR (zM ?_))))
 refine zM ?_
 refine zB ?_
 refine zM ?_
 refine zV (zje rfl Q8) ?_
 refine zC (zN ?_)
 refine zI ?_ ?_<;>intro hc31
 ·
  have hgr:c<n+1:=by have h:=hc31;simp at h;omega
  refine zR (zM ?_)
  refine zM ?_
  refine zV (YI rfl rfl Q8 (fun hg=>kB)) ?_
  refine zM ?_
  refine zM ?_
  refine zB ?_
  refine zM ?_
  refine zB ?_
  refine X0 (ys:=((xs.take i).flatMap Q4)) rfl rfl U1 znW kB kD kB hA (Cells.part (pre:=[]) (post:=((xs.drop i).flatMap Q4)++R) (by rw [List.nil_append,←List.append_assoc];exact .here) rfl) kB rfl rfl (fun b3 c3 zs hc3 hm3 hz3=>?_)
  obtain ⟨z1,z2,z3,rfl,hz1,hz2⟩:=zj1 (zs:=zs) (a:=45) (b:=(n-i)*45) (by rw [List.length_append,hA] at hz3;omega)
  refine zA ?_
  refine zN (zR ?_)
  refine zM ?_
  refine zM ?_
  refine zV (Zj rfl rfl Q8 kB) ?_
  refine zM ?_
  refine JV (pre:=((xs.take i).flatMap Q4)) (old:=z1) (post:=z2++z3) (vs:=[Q4 y].flatten) (cur':=(((xs.take i).flatMap Q4)++[Q4 y].flatten++(z2++z3)).toArray) (by rw [List.append_assoc]) rfl rfl rfl Q8 (by show 45=_;simp only [Nat.min_def];split<;>omega) (by rw [hz1];rfl) kB (fun _=>rfl) (.there (.there .here)) rfl rfl rfl .here ?_
  refine zN (Qo ?_)
  have hD:=zz4 I
  refine Zn ?_
  refine QL I [] mixed ?_
  refine zT 0 rfl (Qe rfl) hD ?_
  refine zT 1 rfl (Qe rfl) hD ?_
  refine zT 2 rfl (Qe rfl) hD ?_
  refine zT 3 rfl (YE rfl rfl rfl (fun _=>kB)) hD ?_
  refine zT 4 rfl (Zj rfl rfl Q8 kB) hD ?_
  refine zT 5 rfl (Qe rfl) hD ?_
  refine zT 6 rfl (Qe rfl) hD ?_
  refine zT 7 rfl (Zj rfl rfl Q8 kB) hD ?_
  refine qd 8 rfl ?_
  refine JV (pre:=((xs.take i).flatMap Q4)++[Q4 y].flatten) (old:=z2) (post:=z3) (vs:=((xs.drop i).flatMap Q4)) (cur':=(((xs.take i).flatMap Q4)++[Q4 y].flatten++((xs.drop i).flatMap Q4)++z3).toArray) kT rfl rfl rfl Q8 (by rw [hB];simp only [Nat.min_def];split<;>omega) (by rw [hz2,hB]) (by rw [List.length_append,hA,hY];omega) (fun _=>rfl) (.there (Cells.part (pre:=((xs.take i).flatMap Q4)) (post:=R) .here (by show 0+_=_;rw [hA];omega))) (zp2 _) rfl rfl .here ?_
  refine Qb ?_
  refine zD hD ?_
  refine Ql kA ?_
  refine Qt ?_
  refine Qd (zR (zM ?_))
  refine zA (zN (Qs (Qf ?_)))
  first
  | exact Qy rfl rfl (fun w hw=>⟨_,I,_,rfl,zz4 _,hw.subL (.keep QC),rfl,by rw [show (i:Int).toNat+((n:Int)+((1:Nat):Int)-(i:Int)).toNat=n+1 by omega];exact zg3 (rest:=z3) (by simp [hl];omega) kB hm3 kN (by simp only [List.length_append,hA,hB,hz1,hz2] at hz3 ⊢;rw [hY];omega)⟩)
 have hgr:n+1≤c:=by have h:=hc31;simp at h;omega
 refine Qp (Qd (Qo ?_))
 obtain ⟨r5,R2,rfl,hr5⟩:∃ r5 R2,R=r5++R2∧r5.length=45:=⟨R.take 45,R.drop 45,by rw [List.take_append_drop],by rw [List.length_take];simp only [List.length_append,hA,hB] at hR;omega⟩
 obtain ⟨p1,p2,hpp,hp1,hp2⟩:∃ p1 p2,((xs.drop i).flatMap Q4)++r5=p1++p2∧p1.length=45∧p2.length=(n-i)*45:=⟨(((xs.drop i).flatMap Q4)++r5).take 45,(((xs.drop i).flatMap Q4)++r5).drop 45,by rw [List.take_append_drop],by rw [List.length_take,List.length_append,hB,hr5];omega,by rw [List.length_drop,List.length_append,hB,hr5];omega⟩
 have hcur:(((xs.take i).flatMap Q4)++((xs.drop i).flatMap Q4)++(r5++R2)).toArray=(((xs.take i).flatMap Q4)++p1++p2++R2).toArray:=by rw [List.append_assoc (((xs.take i).flatMap Q4)++p1),List.append_assoc ((xs.take i).flatMap Q4) p1,←List.append_assoc p1,←hpp];simp only [List.append_assoc]
 refine Qi (zM ?_)
 refine zM ?_
 refine zM ?_
 refine zB ?_
 refine zV (YI rfl rfl Q8 (fun hg=>kB)) ?_
 refine zA (zN (Qo (zR ?_)))
 refine zM ?_
 refine zM ?_
 refine zM ?_
 refine zM ?_
 refine zB ?_
 refine zV (Zj rfl rfl Q8 kB) ?_
 refine Wx rfl rfl rfl Tryz.func226 kA kA kA (by kernel_rfl:Extern.find Tryz.f226=some (Extern.SlicesOverlaps.overlaps #[57,57] #[4])) Q8 hne (List.mem_cons_of_mem _ (List.mem_cons_self ..)) (List.mem_cons_self ..) (by rw [List.size_toArray,hR];omega) rfl rfl ?_
 refine zO (zN ?_)
 refine zI ?_ ?_<;>intro hc68
 ·
  refine Qo ?_
  have hD:=zz4 I
  refine Zn ?_
  refine QL I [] mixed ?_
  refine zT 0 rfl (Qe rfl) hD ?_
  refine zT 1 rfl (Qe rfl) hD ?_
  refine zT 2 rfl (Qe rfl) hD ?_
  refine zT 3 rfl (YE rfl rfl rfl (fun _=>kB)) hD ?_
  refine zT 4 rfl (Zj rfl rfl Q8 kB) hD ?_
  refine zT 5 rfl (Qe rfl) hD ?_
  refine zT 6 rfl (Qe rfl) hD ?_
  refine zT 7 rfl (Zj rfl rfl Q8 kB) hD ?_
  refine qd 8 rfl ?_
  refine JV (pre:=((xs.take i).flatMap Q4)++p1) (old:=p2) (post:=R2) (vs:=((xs.drop i).flatMap Q4)) (cur':=(((xs.take i).flatMap Q4)++p1++((xs.drop i).flatMap Q4)++R2).toArray) hcur rfl rfl rfl Q8 (by rw [hB];simp only [Nat.min_def];split<;>omega) (by rw [hp2,hB]) (by rw [List.length_append,hA,hp1];omega) (fun _=>rfl) (Cells.part (pre:=((xs.take i).flatMap Q4)) (post:=r5++R2) .here (by show 0+_=_;rw [hA];omega)) (zp2 _) rfl rfl .here ?_
  refine Qb ?_
  refine zD hD ?_
  refine Ql kA ?_
  refine Qt ?_
  refine Qd (zR (zM ?_))
  refine zM ?_
  refine zV (Zj rfl rfl Q8 kB) ?_
  refine zM ?_
  refine JV (pre:=((xs.take i).flatMap Q4)) (old:=p1) (post:=((xs.drop i).flatMap Q4)++R2) (vs:=[Q4 y].flatten) (cur':=(((xs.take i).flatMap Q4)++[Q4 y].flatten++(((xs.drop i).flatMap Q4)++R2)).toArray) (by rw [List.append_assoc (_++_)]) rfl rfl rfl Q8 (by show 45=_;simp only [Nat.min_def];split<;>omega) (by rw [hp1];rfl) kB (fun _=>rfl) (.there .here) rfl rfl rfl .here ?_
  refine zN (zR ?_)
  refine zM ?_
  refine zA (zN (Qs (Qf ?_)))
  first
  | exact Qy rfl rfl (fun w hw=>⟨_,I,_,rfl,zz4 _,hw.subL (.keep QC),rfl,by rw [show ((n:Int)+((1:Nat):Int)).toNat=n+1 by omega];exact zg3 (rest:=R2) (by simp [hl];omega) hgr hcm kN (by simp only [List.length_append,hA,hB,hr5] at hR ⊢;rw [hY];omega)⟩)
 cases hc68
theorem zbH {I:Qu}{v:Value}{n:Nat}{xs:List Nt}{L:Go.Kn.Loc}(hO:ZW 45 45 v n (xs.flatMap Q4) L)(hn:n≤100000)(hl:xs.length=n){i:Nat}(hi:i≤n)(b2:Nat)(y:Nt):
  Vs Tryz.prog 174 [v,.int .i64 i,.slice (some ⟨b2,0,none⟩) 1 1] I (L++[(b2,.cells [Q4 y].flatten.toArray 45 (0,0))]) (fun v' I' L'=>I'=I∧ZW 45 45 v' (n+1) ((xs.take i++y::xs.drop i).flatMap Q4) L'):=by
 by_cases hin:i=n
 ·
  subst hin
  obtain ⟨av,c,rfl⟩:=hO.shape
  exact ziu hO hn hl b2 y
 rcases hO.2 with ⟨_,h0,_⟩ | ⟨b,c,cur,rfl,rfl,hnc,hcm,hcs,ht⟩
 ·
  omega
 intro g H w hw
 have hne:b2≠b:=fun e=>by
  have:=hw.nodup
  subst e
  simp at this
 have hsplit:(xs.take i).flatMap Q4++(xs.drop i).flatMap Q4=xs.flatMap Q4:=by rw [←List.flatMap_append,List.take_append_drop]
 have hcur:cur=((xs.take i).flatMap Q4++(xs.drop i).flatMap Q4++cur.toList.drop (n*45)).toArray:=by
  rw [hsplit,←ht,List.take_append_drop,Array.toArray_toList]
 rw [hcur] at hw
 exact zkh hl kB hn hnc hcm (by rw [hsplit,←ht,List.take_append_drop,Array.length_toList,hcs]) b2 hne y g H w hw
end
end Go.Proofs.YtjblkbkmblkgoaaGreat
namespace Go.Kn
section
open Go
section
variable {C:Cx} {Q:Exit→Act→World→Prop} {ops:Array Oper} {I0:Qu} {loc0:Loc} {S:GS} {E:Env} {I:Qu} {loc:Loc}
theorem zrX {fuel:Nat}{listed:Array Bool}(b:Bool)(h:XD C Q ops I0 loc0 fuel listed ((b,[])::S) E I loc):XD C Q ops I0 loc0 fuel listed S E I loc:=fun a w ha hg hw=>h a w ha ⟨(fun _ _ e=>by cases e),hg⟩ hw
theorem Uz {fuel:Nat}{listed:Array Bool}(j:Nat){oj:Oper}{dj:Nat}{b0:Bool}(_hj:ops[j]? =some oj)(_hd:oj.dst=some dj)(_hl:Uo S E dj=some (.bool b0))(h:XD C Q ops I0 loc0 fuel listed ((b0,[])::S) E I loc):XD C Q ops I0 loc0 fuel listed S E I loc:=zrX b0 h
theorem zvI (i:Nat){tc ta d ty:Nat}{pos:String}{af:Array Edge}{gd:Option (Nat×Bool)}{b t x:Bool}{G:Env}{fuel:Nat}{listed:Array Bool}
  (hi:ops[i]? =some ⟨some d,.pick (.tmp tc) (.tmp ta) (.const (.bool false)),ty,pos,af,gd⟩)(hb:b=t)(hc:QD S E (.tmp tc)=some (.bool t))(ha':VC G ta=some (.bool x))
  (hG:Zl ops S E ⟨some d,.pick (.tmp tc) (.tmp ta) (.const (.bool false)),ty,pos,af,gd⟩)(hN:Nat.blt d C.N=true)(hf:Z8 S E d=true)
  (hs:Region.noSelect ops=true)(hfr:Region.free .any ops listed i=true)(hr:(Region.ready .any ops listed).contains i=true)(hQ:Yd Q)(hI:HLe I0 I)(hl:J0 loc0 loc)
  (h:XD C Q ops I0 loc0 fuel (listed.setIfInBounds i true) (zdP S E d (.bool (t&&x))) (zdb S E d (.bool (t&&x))) I loc):XD C Q ops I0 loc0 (fuel+1) listed ((b,G)::S) E I loc:=by
 intro a w ha hg hw
 have hp:=Yw ha hg.2 hN hf (.bool (t&&x))
 refine Y1 (v:=bif Yf S then .bool (t&&x) else undef) hi kE (Region.noSelect_spec hs) (fun c a w=>hQ c a d _ w) fuel listed a w (Region.free_spec hi hfr) (by simpa using hr) ?_ ((hw.mono hI).subL hl) (h _ _ hp.1 hp.2 hw)
 have hwt:=hG.wanted ha hg.2
 cases hcj:Yf S with
 | true=>
  refine .inl ⟨by rw [hwt,hcj],fun w' _=>?_⟩
  have e1:a.eval (.tmp tc)= .bool t:=Qh ha hg.2 hcj hc
  have e2:t=true→a.eval (.tmp ta)= .bool x:=fun e=>by
   have:=hg.1 _ _ ha'
   rw [hcj,hb,e] at this;exact this
  show (execOp a.eval ⟨some d,.pick (.tmp tc) (.tmp ta) (.const (.bool false)),ty,pos,af,gd⟩).run C.P w'= .ok (.value (.bool (t&&x))) w'
  simp only [execOp,e1,asBool,Sem.run_bind,Sem.run_pure,Result.andThen]
  cases t with
  | true=>simp [e2 rfl]
  | false=>simp [Act.eval]
 | false=>exact .inr ⟨by rw [hwt,hcj],rfl⟩
theorem znK (i:Nat){oi:Oper}{d:Nat}{v:Value}{fuel:Nat}{listed:Array Bool}(hi:ops[i]? =some oi)(hv:QT C [] E I0 loc0 oi v)(hG:Zl ops [] E oi)(hd:oi.dst=some d)(hN:Nat.blt d C.N=true)
  (hs:Region.noSelect ops=true)(hfr:Region.free .any ops listed i=true)(hr:(Region.ready .any ops listed).contains i=true)(hQ:Yd Q)(hI:HLe I0 I)(hl:J0 loc0 loc)
  (h:XD C Q ops I0 loc0 fuel (listed.setIfInBounds i true) [] ((d,v)::E) I loc):XD C Q ops I0 loc0 (fuel+1) listed [] E I loc:=Ui i hi hv hG hd hN rfl hs hfr hr hQ hI hl h
theorem zt0 (i:Nat){oi:Oper}{d:Nat}{v:Value}{fuel:Nat}{listed:Array Bool}(hi:ops[i]? =some oi)(hv:QT C [] E I0 loc0 oi v)(hI:HLe I0 I)(h:XD C Q ops I0 loc0 fuel (listed.setIfInBounds i true) [] ((d,v)::E) I loc)(hG:Zl ops [] E oi:=by exact .none rfl)(hd:oi.dst=some d:=by exact rfl)(hN:Nat.blt d C.N=true:=by exact rfl)
  (hs:Region.noSelect ops=true:=by kernel_rfl)(hfr:Region.free .any ops listed i=true:=by kernel_rfl)(hr:(Region.ready .any ops listed).contains i=true:=by kernel_rfl)(hQ:Yd Q:=by first | exact JK | (repeat (first | exact Uj | with_reducible refine Us ?_ | with_reducible refine Kk ?_)))(hl:J0 loc0 loc:=by repeat (first | exact .refl | exact QC | refine .keep ?_ | refine .drop ?_ | refine QN ?_)):XD C Q ops I0 loc0 (fuel+1) listed [] E I loc:=znK i hi hv hG hd hN hs hfr hr hQ hI hl h
theorem zpO (i:Nat){oi:Oper}{d:Nat}{v:Value}{b:Bool}{G:Env}{fuel:Nat}{listed:Array Bool}(hi:ops[i]? =some oi)(hv:QT C ((b,G)::S) E I0 loc0 oi v)(hG:Zl ops ((b,G)::S) E oi)(hd:oi.dst=some d)(hN:Nat.blt d C.N=true)(hf:Z8 ((b,G)::S) E d=true)
  (hs:Region.noSelect ops=true)(hfr:Region.free .any ops listed i=true)(hr:(Region.ready .any ops listed).contains i=true)(hQ:Yd Q)(hI:HLe I0 I)(hl:J0 loc0 loc)
  (h:XD C Q ops I0 loc0 fuel (listed.setIfInBounds i true) ((b,(d,v)::G)::S) E I loc):XD C Q ops I0 loc0 (fuel+1) listed ((b,G)::S) E I loc:=Ui i hi hv hG hd hN hf hs hfr hr hQ hI hl h
theorem zt1 (i:Nat){oi:Oper}{d:Nat}{v:Value}{b:Bool}{G:Env}{fuel:Nat}{listed:Array Bool}(hi:ops[i]? =some oi)(hv:QT C ((b,G)::S) E I0 loc0 oi v)(hI:HLe I0 I)(h:XD C Q ops I0 loc0 fuel (listed.setIfInBounds i true) ((b,(d,v)::G)::S) E I loc)(hG:Zl ops ((b,G)::S) E oi:=by first | exact .some rfl rfl rfl rfl gbt | exact .some rfl rfl rfl rfl gbf)(hd:oi.dst=some d:=by exact rfl)(hN:Nat.blt d C.N=true:=by exact rfl)(hf:Z8 ((b,G)::S) E d=true:=by exact rfl)
  (hs:Region.noSelect ops=true:=by kernel_rfl)(hfr:Region.free .any ops listed i=true:=by kernel_rfl)(hr:(Region.ready .any ops listed).contains i=true:=by kernel_rfl)(hQ:Yd Q:=by first | exact JK | (repeat (first | exact Uj | with_reducible refine Us ?_ | with_reducible refine Kk ?_)))(hl:J0 loc0 loc:=by repeat (first | exact .refl | exact QC | refine .keep ?_ | refine .drop ?_ | refine QN ?_)):XD C Q ops I0 loc0 (fuel+1) listed ((b,G)::S) E I loc:=zpO i hi hv hG hd hN hf hs hfr hr hQ hI hl h
theorem ztE (i:Nat){tc ta d ty:Nat}{pos:String}{af:Array Edge}{gd:Option (Nat×Bool)}{b t x:Bool}{G:Env}{fuel:Nat}{listed:Array Bool}
  (hi:ops[i]? =some ⟨some d,.pick (.tmp tc) (.tmp ta) (.const (.bool false)),ty,pos,af,gd⟩)(hb:b=t)(hc:QD [] E (.tmp tc)=some (.bool t))(ha':VC G ta=some (.bool x))
  (hG:gd=none)(hN:Nat.blt d C.N=true)
  (hs:Region.noSelect ops=true)(hfr:Region.free .any ops listed i=true)(hr:(Region.ready .any ops listed).contains i=true)(hQ:Yd Q)(hI:HLe I0 I)(hl:J0 loc0 loc)
  (h:XD C Q ops I0 loc0 fuel (listed.setIfInBounds i true) [] ((d,.bool (t&&x))::E) I loc):XD C Q ops I0 loc0 (fuel+1) listed ((b,G)::[]) E I loc:=zvI i hi hb hc ha' (.none hG) hN rfl hs hfr hr hQ hI hl h
theorem zta (i:Nat){tc ta d ty:Nat}{pos:String}{af:Array Edge}{gd:Option (Nat×Bool)}{b t x:Bool}{G:Env}{fuel:Nat}{listed:Array Bool}
  (hi:ops[i]? =some ⟨some d,.pick (.tmp tc) (.tmp ta) (.const (.bool false)),ty,pos,af,gd⟩)(hb:b=t)(hc:QD [] E (.tmp tc)=some (.bool t))(ha':VC G ta=some (.bool x))(hI:HLe I0 I)
  (h:XD C Q ops I0 loc0 fuel (listed.setIfInBounds i true) [] ((d,.bool (t&&x))::E) I loc)(hG:gd=none:=by exact rfl)(hN:Nat.blt d C.N=true:=by exact rfl)
  (hs:Region.noSelect ops=true:=by kernel_rfl)(hfr:Region.free .any ops listed i=true:=by kernel_rfl)(hr:(Region.ready .any ops listed).contains i=true:=by kernel_rfl)(hQ:Yd Q:=by first | exact JK | (repeat (first | exact Uj | with_reducible refine Us ?_ | with_reducible refine Kk ?_)))(hl:J0 loc0 loc:=by repeat (first | exact .refl | exact QC | refine .keep ?_ | refine .drop ?_ | refine QN ?_)):XD C Q ops I0 loc0 (fuel+1) listed ((b,G)::[]) E I loc:=ztE i hi hb hc ha' hG hN hs hfr hr hQ hI hl h
end
end
end Go.Kn
section
namespace Go.Kn
open Go
section
variable {α:Type} {C:Cx} {Q:Exit→Act→World→Prop} {E E':Env} {I I':Qu} {loc loc' L R:Loc} {ops:Array Oper} {rest:List Oper} {S:GS}
variable {Jc:List α→Qu→Loc→Prop} {Jx:Code→List α→Qu→Loc→Prop} {pre:List α}
end
section
variable {P:Program} {r:Option Nat} {N:Nat} {g:World} {H:Qu} {Q:Exit→Act→World→Prop} {E E':Env} {I I':Qu} {loc loc' L R:Loc} {ms:List Nat}
end
end Go.Kn
namespace Go.Kn
open Go
section
variable {C:Cx} {Q:Exit→Act→World→Prop} {E E':Env} {I I' I0:Qu} {loc loc' loc0 L R:Loc} {ops:Array Oper} {rest:List Oper} {S:GS}
theorem zgc {c:Code}(h:loc=loc')(hx:X C Q c E I loc'):X C Q c E I loc:=h ▸ hx
theorem zj2 (i j k m:Nat){oi oj ok om:Oper}{fuel:Nat}{listed:Array Bool}(hi:ops[i]? =some oi)(hj:ops[j]? =some oj)(hk:ops[k]? =some ok)(hm:ops[m]? =some om)(hr:Region.ready .any ops listed=[i,j,k,m])
  (h1:XO C (fun e a w=>match e with | .normal=>St C.g I0 C.H loc0 w∧Y2 C.r C.P .any ops Q (fun w=>St C.g I0 C.H loc0 w) fuel (listed.setIfInBounds i true) a w | e=>Q e a w) ops [oi] S E I loc)
  (h2:XO C (fun e a w=>match e with | .normal=>St C.g I0 C.H loc0 w∧Y2 C.r C.P .any ops Q (fun w=>St C.g I0 C.H loc0 w) fuel (listed.setIfInBounds j true) a w | e=>Q e a w) ops [oj] S E I loc)
  (h3:XO C (fun e a w=>match e with | .normal=>St C.g I0 C.H loc0 w∧Y2 C.r C.P .any ops Q (fun w=>St C.g I0 C.H loc0 w) fuel (listed.setIfInBounds k true) a w | e=>Q e a w) ops [ok] S E I loc)
  (h4:XO C (fun e a w=>match e with | .normal=>St C.g I0 C.H loc0 w∧Y2 C.r C.P .any ops Q (fun w=>St C.g I0 C.H loc0 w) fuel (listed.setIfInBounds m true) a w | e=>Q e a w) ops [om] S E I loc):XD C Q ops I0 loc0 (fuel+1) listed S E I loc:=by
 intro a w ha hg hw
 refine ⟨(fun h0=>by rw [hr] at h0;cases h0),fun q hq=>?_⟩
 rw [hr] at hq
 rcases List.mem_cons.1 hq with e | hq
 ·
  subst e;exact zbY hi ha hg hw h1
 ·
  rcases List.mem_cons.1 hq with e | hq
  ·
   subst e;exact zbY hj ha hg hw h2
  ·
   rcases List.mem_cons.1 hq with e | hq
   ·
    subst e;exact zbY hk ha hg hw h3
   ·
    obtain rfl:=List.mem_singleton.1 hq;exact zbY hm ha hg hw h4
end
end Go.Kn
end
namespace Go.Proofs.YtjblkbkmblkgoaaGreat
section
open Go Go.Kn Go.Proofs
theorem VX:AgT Tryz.prog 41 5:=.of kA
theorem Ys:AgT Tryz.prog 43 11:=.of kA
theorem zdh:zya Tryz.prog 32 [.int,.int,.int,.int,.int,.int,.int,.int,.int]:=⟨kA,kA,kA,kA⟩
theorem ze7:EqT Tryz.prog 41 [.int,.int,.int,.int,.int]:=⟨kA,kA,kA,kA⟩
theorem XA:EqT Tryz.prog 43 [.int,.int,.int,.int,.int,.int,.str,.str,.int,.int,.int]:=⟨kA,kA,kA,kA⟩
theorem Yg:QJ Tryz.prog 45 0 0:=.of kA
theorem YD:QJ Tryz.prog 45 1 1:=.of kA
theorem ZZ:QJ Tryz.prog 45 2 10:=.of kA
theorem Y7:QJ Tryz.prog 45 3 29:=.of kA
theorem Z0:QJ Tryz.prog 45 4 34:=.of kA
theorem zeX:PlT Tryz.prog 32 #[(0,1),(1,1),(2,1),(3,1),(4,1),(5,1),(6,3)] (.agg #[(.int .i64 0),(.int .i64 0),(.int .i64 0),(.int .i64 0),(.int .i64 0),(.int .i64 0),(.int .i64 0),(.int .i64 0),(.int .i64 0)]):=⟨.of kA,kA,fun w=>kA⟩
theorem zjj:PlT Tryz.prog 41 #[(0,1),(1,1),(2,1),(3,1),(4,1)] (.agg #[(.int .i64 0),(.int .i64 0),(.int .i64 0),(.int .i64 0),(.int .i64 0)]):=⟨.of kA,kA,fun w=>kA⟩
theorem W6:PlT Tryz.prog 43 #[(0,1),(1,1),(2,1),(3,1),(4,1),(5,1),(6,1),(7,1),(8,1),(9,1),(10,1)] (.agg #[(.int .i64 0),(.int .i64 0),(.int .i64 0),(.int .i64 0),(.int .i64 0),(.int .i64 0),(.string ⟨#[]⟩),(.string ⟨#[]⟩),(.int .i64 0),(.int .i64 0),(.int .i64 0)]):=⟨.of kA,kA,fun w=>kA⟩
theorem zbw {I:Qu}{loc:Go.Kn.Loc}{b:Nat}{x:Nt}(h:Cells I loc b 0 (Q4 x)):Cells I loc b 1 (Zh x.lm):=Cells.part (pre:=[.int .i64 x.kind]) (post:=KY x.pt++(L.encL x.ls++S.encR x.rt)) h rfl
theorem XG {I:Qu}{loc:Go.Kn.Loc}{b:Nat}{x:Nt}(h:Cells I loc b 0 (Q4 x)):Cells I loc b 10 (KY x.pt):=Cells.part (pre:=.int .i64 x.kind::Zh x.lm) (post:=L.encL x.ls++S.encR x.rt) h rfl
theorem zcc {I:Qu}{loc:Go.Kn.Loc}{b:Nat}{x:Nt}(h:Cells I loc b 0 (Q4 x)):Cells I loc b 29 (L.encL x.ls):=Cells.part (pre:=.int .i64 x.kind::(Zh x.lm++KY x.pt)) (post:=S.encR x.rt) h rfl
theorem zbs {I:Qu}{loc:Go.Kn.Loc}{b:Nat}{x:Nt}(h:Cells I loc b 0 (Q4 x)):Cells I loc b 34 (S.encR x.rt):=Cells.part (pre:=.int .i64 x.kind::(Zh x.lm++(KY x.pt++L.encL x.ls))) (post:=[]) h rfl
theorem ziY {I:Qu}{loc:Go.Kn.Loc}{b:Nat}{x:Pt}(h:Cells I loc b 0 (KY x)):Cells I loc b 4 (zfC x.nw):=Cells.part (pre:=[.int .i64 x.id,.int .i64 x.kind,.int .i64 x.sign,.int .i64 x.field]) (post:=[.slice x.a x.n x.c]) h rfl
theorem WI {I:Qu}(x:Nt):ZA Tryz.prog 172 [Ke x] I (.bool (Xo x)):=by
 intro g H w hw
 refine qe Tryz.func172 Tryz.ntmps172 hw ?_
 have hIc:=zz4 I
 refine zR ?_
 refine QO rfl rfl rfl (fun b_1=>?_)
 refine zA (Qb ?_)
 refine QF .here (fun I1 hI1 hb1=>?_)
 have hIc:=hIc.trans hI1
 have h1:=BxI.of hb1
 refine Qd (zR ?_)
 refine zF ZZ ?_
 refine zV (Qg rfl Y3 (fun hg=>by exact XG (BxI.cells (vs:=Q4 x) h1)) rfl) ?_
 refine Qr zcb rfl rfl (fun b_3=>?_)
 refine zh UI ?_
 refine Qb ?_
 refine QF .here (fun I2 hI2 hb2=>?_)
 have h1:=h1.mono hI2;have hIc:=hIc.trans hI2
 have h3:=BxI.of hb2
 refine Qd ?_
 refine zY [(1,_)] (fun T L0 E I' loc'=>∃ (r:Nat) (m:List (Int×Bool)),E=(4,.map (some r))::T∧I2=I'∧[(r,Yo (.int .i64) .bool m)]=loc'∧Zt m 1=some (z1 x)∧Zt m 2=some (z2 x)∧Zt m 3=some (z3 x)∧Zt m 4=some (z4 x)) ?_ ?_
 ·
  have hD:=zz4 I2
  refine Zn ?_
  refine QL I2 [] mixed ?_
  refine zt0 1 rfl (Qa rfl YD) hD ?_
  refine zt0 2 rfl (Qg rfl V7 (fun hg=>by exact zbw (BxI.cells (vs:=Q4 x) h1)) rfl) hD ?_
  refine zt0 3 rfl (QI (ps:=[]) [_,_,_,_,_,_,_,_,_] zeX rfl rfl) hD ?_
  refine zt0 4 rfl (Ut rfl rfl zdh rfl) hD ?_
  refine zt0 6 rfl (Qa rfl ZJ) hD ?_
  refine zt0 7 rfl (Qc rfl Qm (fun hg=>by exact QA.imm h3.out rfl)) hD ?_
  refine zt0 8 rfl (Qz rfl rfl rfl) hD ?_
  refine zt0 9 rfl (Qe rfl) hD ?_
  refine Uz 9 rfl rfl rfl ?_
  refine zt1 10 rfl (Qa rfl JH) hD ?_
  refine zt1 11 rfl (Qc rfl Qm (fun hg=>by exact QA.imm h3.out rfl)) hD ?_
  refine zt1 12 rfl (Qz rfl rfl rfl) hD ?_
  refine zta 13 rfl rfl rfl rfl hD ?_
  refine zt0 14 rfl (Qe rfl) hD ?_
  refine Uz 14 rfl rfl rfl ?_
  refine zt1 15 rfl (Qa rfl Yq) hD ?_
  refine zt1 16 rfl (Qc rfl Qm (fun hg=>by exact QA.imm h3.out rfl)) hD ?_
  refine zt1 17 rfl (Qz rfl rfl rfl) hD ?_
  refine zta 18 rfl rfl rfl rfl hD ?_
  refine zt0 19 rfl (Qe rfl) hD ?_
  refine Uz 19 rfl rfl rfl ?_
  refine zt1 20 rfl (Qa rfl Yr) hD ?_
  refine zt1 21 rfl (Qc rfl Qm (fun hg=>by exact QA.imm h3.out rfl)) hD ?_
  refine zt1 22 rfl (Qz rfl rfl rfl) hD ?_
  refine zta 23 rfl rfl rfl rfl hD ?_
  refine zt0 24 rfl (Qe rfl) hD ?_
  refine Uz 24 rfl rfl rfl ?_
  refine zt1 25 rfl (Qa rfl YC) hD ?_
  refine zt1 26 rfl (Qg rfl ZC (fun hg=>by exact ziY (BxI.cells (vs:=KY x.pt) h3)) rfl) hD ?_
  refine zt1 27 rfl (QI (ps:=[]) [_,_,_,_,_,_,_,_,_,_,_,_,_,_] zaa rfl rfl) hD ?_
  refine zt1 28 rfl (Ut rfl rfl WO rfl) hD ?_
  refine zta 29 rfl rfl rfl rfl hD ?_
  refine zt0 30 rfl (Qe rfl) hD ?_
  refine Uz 30 rfl rfl rfl ?_
  refine zt1 31 rfl (Qa rfl ZK) hD ?_
  refine zt1 32 rfl (Qc rfl Vi (fun hg=>by exact QA.imm h3.out rfl)) hD ?_
  refine zt1 33 rfl (QU rfl ZF) hD ?_
  refine zt1 34 rfl (Qz rfl rfl rfl) hD ?_
  refine zta 35 rfl rfl rfl rfl hD ?_
  refine zt0 37 rfl (Qa rfl Y7) hD ?_
  refine zt0 38 rfl (Qg rfl VX (fun hg=>by exact zcc (BxI.cells (vs:=Q4 x) h1)) rfl) hD ?_
  refine zt0 39 rfl (QI (ps:=[]) [_,_,_,_,_] zjj rfl rfl) hD ?_
  refine zt0 40 rfl (Ue rfl rfl ze7 rfl) hD ?_
  refine zt0 42 rfl (Qa rfl Z0) hD ?_
  refine zt0 43 rfl (Qg rfl Ys (fun hg=>by exact zbs (BxI.cells (vs:=Q4 x) h1)) rfl) hD ?_
  refine zt0 44 rfl (QI (ps:=[]) [_,_,_,_,_,_,_,_,_,_,_] W6 rfl rfl) hD ?_
  refine zt0 45 rfl (Ue rfl rfl XA rfl) hD ?_
  refine qd 0 rfl ?_
  refine Z7 rfl rfl (fun r_7=>?_)
  refine (show XO _ _ _ _ _ _ _ ((r_7,Yo (.int .i64) .bool ([]:List (Int×Bool)))::[]) from ?_)
  refine Qb ?_
  refine zD hD ?_
  refine zj2 5 36 41 46 rfl rfl rfl rfl kA ?_ ?_ ?_ ?_
  ·
   refine zpi (ek:=Value.int .i64) (ev:=Value.bool) _ QY Q3 ?_
   refine Qb ?_
   refine zD hD ?_
   refine VK 36 41 46 rfl rfl rfl kA ?_ ?_ ?_
   ·
    refine zpi (ek:=Value.int .i64) (ev:=Value.bool) _ QY Q3 ?_
    refine Qb ?_
    refine zD hD ?_
    refine QS 41 46 rfl rfl kA ?_ ?_
    ·
     refine zpi (ek:=Value.int .i64) (ev:=Value.bool) _ QY Q3 ?_
     refine Qb ?_
     refine zD hD ?_
     refine qd 46 rfl ?_
     refine zpi (ek:=Value.int .i64) (ev:=Value.bool) _ QY Q3 ?_
     refine Qb ?_
     refine zD hD ?_
     refine zt0 47 rfl (Qe rfl) hD ?_
     refine zt0 48 rfl (Qv rfl) hD ?_
     refine Ql kA ?_
     refine Qt ?_
     refine Zc _ _ ⟨_,_,rfl,rfl,rfl,?_,?_,?_,?_⟩ (.cons rfl (.cons rfl .nil)) kC
     all_goals rfl
    refine zpi (ek:=Value.int .i64) (ev:=Value.bool) _ QY Q3 ?_
    refine Qb ?_
    refine zD hD ?_
    refine qd 41 rfl ?_
    refine zpi (ek:=Value.int .i64) (ev:=Value.bool) _ QY Q3 ?_
    refine Qb ?_
    refine zD hD ?_
    refine zt0 47 rfl (Qe rfl) hD ?_
    refine zt0 48 rfl (Qv rfl) hD ?_
    refine Ql kA ?_
    refine Qt ?_
    refine Zc _ _ ⟨_,_,rfl,rfl,rfl,?_,?_,?_,?_⟩ (.cons rfl (.cons rfl .nil)) kC
    all_goals rfl
   ·
    refine zpi (ek:=Value.int .i64) (ev:=Value.bool) _ QY Q3 ?_
    refine Qb ?_
    refine zD hD ?_
    refine QS 36 46 rfl rfl kA ?_ ?_
    ·
     refine zpi (ek:=Value.int .i64) (ev:=Value.bool) _ QY Q3 ?_
     refine Qb ?_
     refine zD hD ?_
     refine qd 46 rfl ?_
     refine zpi (ek:=Value.int .i64) (ev:=Value.bool) _ QY Q3 ?_
     refine Qb ?_
     refine zD hD ?_
     refine zt0 47 rfl (Qe rfl) hD ?_
     refine zt0 48 rfl (Qv rfl) hD ?_
     refine Ql kA ?_
     refine Qt ?_
     refine Zc _ _ ⟨_,_,rfl,rfl,rfl,?_,?_,?_,?_⟩ (.cons rfl (.cons rfl .nil)) kC
     all_goals rfl
    refine zpi (ek:=Value.int .i64) (ev:=Value.bool) _ QY Q3 ?_
    refine Qb ?_
    refine zD hD ?_
    refine qd 36 rfl ?_
    refine zpi (ek:=Value.int .i64) (ev:=Value.bool) _ QY Q3 ?_
    refine Qb ?_
    refine zD hD ?_
    refine zt0 47 rfl (Qe rfl) hD ?_
    refine zt0 48 rfl (Qv rfl) hD ?_
    refine Ql kA ?_
    refine Qt ?_
    refine Zc _ _ ⟨_,_,rfl,rfl,rfl,?_,?_,?_,?_⟩ (.cons rfl (.cons rfl .nil)) kC
    all_goals rfl
   refine zpi (ek:=Value.int .i64) (ev:=Value.bool) _ QY Q3 ?_
   refine Qb ?_
   refine zD hD ?_
   refine QS 36 41 rfl rfl kA ?_ ?_
   ·
    refine zpi (ek:=Value.int .i64) (ev:=Value.bool) _ QY Q3 ?_
    refine Qb ?_
    refine zD hD ?_
    refine qd 41 rfl ?_
    refine zpi (ek:=Value.int .i64) (ev:=Value.bool) _ QY Q3 ?_
    refine Qb ?_
    refine zD hD ?_
    refine zt0 47 rfl (Qe rfl) hD ?_
    refine zt0 48 rfl (Qv rfl) hD ?_
    refine Ql kA ?_
    refine Qt ?_
    refine Zc _ _ ⟨_,_,rfl,rfl,rfl,?_,?_,?_,?_⟩ (.cons rfl (.cons rfl .nil)) kC
    all_goals rfl
   refine zpi (ek:=Value.int .i64) (ev:=Value.bool) _ QY Q3 ?_
   refine Qb ?_
   refine zD hD ?_
   refine qd 36 rfl ?_
   refine zpi (ek:=Value.int .i64) (ev:=Value.bool) _ QY Q3 ?_
   refine Qb ?_
   refine zD hD ?_
   refine zt0 47 rfl (Qe rfl) hD ?_
   refine zt0 48 rfl (Qv rfl) hD ?_
   refine Ql kA ?_
   refine Qt ?_
   refine Zc _ _ ⟨_,_,rfl,rfl,rfl,?_,?_,?_,?_⟩ (.cons rfl (.cons rfl .nil)) kC
   all_goals rfl
  ·
   refine zpi (ek:=Value.int .i64) (ev:=Value.bool) _ QY Q3 ?_
   refine Qb ?_
   refine zD hD ?_
   refine VK 5 41 46 rfl rfl rfl kA ?_ ?_ ?_
   ·
    refine zpi (ek:=Value.int .i64) (ev:=Value.bool) _ QY Q3 ?_
    refine Qb ?_
    refine zD hD ?_
    refine QS 41 46 rfl rfl kA ?_ ?_
    ·
     refine zpi (ek:=Value.int .i64) (ev:=Value.bool) _ QY Q3 ?_
     refine Qb ?_
     refine zD hD ?_
     refine qd 46 rfl ?_
     refine zpi (ek:=Value.int .i64) (ev:=Value.bool) _ QY Q3 ?_
     refine Qb ?_
     refine zD hD ?_
     refine zt0 47 rfl (Qe rfl) hD ?_
     refine zt0 48 rfl (Qv rfl) hD ?_
     refine Ql kA ?_
     refine Qt ?_
     refine Zc _ _ ⟨_,_,rfl,rfl,rfl,?_,?_,?_,?_⟩ (.cons rfl (.cons rfl .nil)) kC
     all_goals rfl
    refine zpi (ek:=Value.int .i64) (ev:=Value.bool) _ QY Q3 ?_
    refine Qb ?_
    refine zD hD ?_
    refine qd 41 rfl ?_
    refine zpi (ek:=Value.int .i64) (ev:=Value.bool) _ QY Q3 ?_
    refine Qb ?_
    refine zD hD ?_
    refine zt0 47 rfl (Qe rfl) hD ?_
    refine zt0 48 rfl (Qv rfl) hD ?_
    refine Ql kA ?_
    refine Qt ?_
    refine Zc _ _ ⟨_,_,rfl,rfl,rfl,?_,?_,?_,?_⟩ (.cons rfl (.cons rfl .nil)) kC
    all_goals rfl
   ·
    refine zpi (ek:=Value.int .i64) (ev:=Value.bool) _ QY Q3 ?_
    refine Qb ?_
    refine zD hD ?_
    refine QS 5 46 rfl rfl kA ?_ ?_
    ·
     refine zpi (ek:=Value.int .i64) (ev:=Value.bool) _ QY Q3 ?_
     refine Qb ?_
     refine zD hD ?_
     refine qd 46 rfl ?_
     refine zpi (ek:=Value.int .i64) (ev:=Value.bool) _ QY Q3 ?_
     refine Qb ?_
     refine zD hD ?_
     refine zt0 47 rfl (Qe rfl) hD ?_
     refine zt0 48 rfl (Qv rfl) hD ?_
     refine Ql kA ?_
     refine Qt ?_
     refine Zc _ _ ⟨_,_,rfl,rfl,rfl,?_,?_,?_,?_⟩ (.cons rfl (.cons rfl .nil)) kC
     all_goals rfl
    refine zpi (ek:=Value.int .i64) (ev:=Value.bool) _ QY Q3 ?_
    refine Qb ?_
    refine zD hD ?_
    refine qd 5 rfl ?_
    refine zpi (ek:=Value.int .i64) (ev:=Value.bool) _ QY Q3 ?_
    refine Qb ?_
    refine zD hD ?_
    refine zt0 47 rfl (Qe rfl) hD ?_
    refine zt0 48 rfl (Qv rfl) hD ?_
    refine Ql kA ?_
    refine Qt ?_
    refine Zc _ _ ⟨_,_,rfl,rfl,rfl,?_,?_,?_,?_⟩ (.cons rfl (.cons rfl .nil)) kC
    all_goals rfl
   refine zpi (ek:=Value.int .i64) (ev:=Value.bool) _ QY Q3 ?_
   refine Qb ?_
   refine zD hD ?_
   refine QS 5 41 rfl rfl kA ?_ ?_
   ·
    refine zpi (ek:=Value.int .i64) (ev:=Value.bool) _ QY Q3 ?_
    refine Qb ?_
    refine zD hD ?_
    refine qd 41 rfl ?_
    refine zpi (ek:=Value.int .i64) (ev:=Value.bool) _ QY Q3 ?_
    refine Qb ?_
    refine zD hD ?_
    refine zt0 47 rfl (Qe rfl) hD ?_
    refine zt0 48 rfl (Qv rfl) hD ?_
    refine Ql kA ?_
    refine Qt ?_
    refine Zc _ _ ⟨_,_,rfl,rfl,rfl,?_,?_,?_,?_⟩ (.cons rfl (.cons rfl .nil)) kC
    all_goals rfl
   refine zpi (ek:=Value.int .i64) (ev:=Value.bool) _ QY Q3 ?_
   refine Qb ?_
   refine zD hD ?_
   refine qd 5 rfl ?_
   refine zpi (ek:=Value.int .i64) (ev:=Value.bool) _ QY Q3 ?_
   refine Qb ?_
   refine zD hD ?_
   refine zt0 47 rfl (Qe rfl) hD ?_
   refine zt0 48 rfl (Qv rfl) hD ?_
   refine Ql kA ?_
   refine Qt ?_
   refine Zc _ _ ⟨_,_,rfl,rfl,rfl,?_,?_,?_,?_⟩ (.cons rfl (.cons rfl .nil)) kC
   all_goals rfl
  ·
   refine zpi (ek:=Value.int .i64) (ev:=Value.bool) _ QY Q3 ?_
   refine Qb ?_
   refine zD hD ?_
   refine VK 5 36 46 rfl rfl rfl kA ?_ ?_ ?_
   ·
    refine zpi (ek:=Value.int .i64) (ev:=Value.bool) _ QY Q3 ?_
    refine Qb ?_
    refine zD hD ?_
    refine QS 36 46 rfl rfl kA ?_ ?_
    ·
     refine zpi (ek:=Value.int .i64) (ev:=Value.bool) _ QY Q3 ?_
     refine Qb ?_
     refine zD hD ?_
     refine qd 46 rfl ?_
     refine zpi (ek:=Value.int .i64) (ev:=Value.bool) _ QY Q3 ?_
     refine Qb ?_
     refine zD hD ?_
     refine zt0 47 rfl (Qe rfl) hD ?_
     refine zt0 48 rfl (Qv rfl) hD ?_
     refine Ql kA ?_
     refine Qt ?_
     refine Zc _ _ ⟨_,_,rfl,rfl,rfl,?_,?_,?_,?_⟩ (.cons rfl (.cons rfl .nil)) kC
     all_goals rfl
    refine zpi (ek:=Value.int .i64) (ev:=Value.bool) _ QY Q3 ?_
    refine Qb ?_
    refine zD hD ?_
    refine qd 36 rfl ?_
    refine zpi (ek:=Value.int .i64) (ev:=Value.bool) _ QY Q3 ?_
    refine Qb ?_
    refine zD hD ?_
    refine zt0 47 rfl (Qe rfl) hD ?_
    refine zt0 48 rfl (Qv rfl) hD ?_
    refine Ql kA ?_
    refine Qt ?_
    refine Zc _ _ ⟨_,_,rfl,rfl,rfl,?_,?_,?_,?_⟩ (.cons rfl (.cons rfl .nil)) kC
    all_goals rfl
   ·
    refine zpi (ek:=Value.int .i64) (ev:=Value.bool) _ QY Q3 ?_
    refine Qb ?_
    refine zD hD ?_
    refine QS 5 46 rfl rfl kA ?_ ?_
    ·
     refine zpi (ek:=Value.int .i64) (ev:=Value.bool) _ QY Q3 ?_
     refine Qb ?_
     refine zD hD ?_
     refine qd 46 rfl ?_
     refine zpi (ek:=Value.int .i64) (ev:=Value.bool) _ QY Q3 ?_
     refine Qb ?_
     refine zD hD ?_
     refine zt0 47 rfl (Qe rfl) hD ?_
     refine zt0 48 rfl (Qv rfl) hD ?_
     refine Ql kA ?_
     refine Qt ?_
     refine Zc _ _ ⟨_,_,rfl,rfl,rfl,?_,?_,?_,?_⟩ (.cons rfl (.cons rfl .nil)) kC
     all_goals rfl
    refine zpi (ek:=Value.int .i64) (ev:=Value.bool) _ QY Q3 ?_
    refine Qb ?_
    refine zD hD ?_
    refine qd 5 rfl ?_
    refine zpi (ek:=Value.int .i64) (ev:=Value.bool) _ QY Q3 ?_
    refine Qb ?_
    refine zD hD ?_
    refine zt0 47 rfl (Qe rfl) hD ?_
    refine zt0 48 rfl (Qv rfl) hD ?_
    refine Ql kA ?_
    refine Qt ?_
    refine Zc _ _ ⟨_,_,rfl,rfl,rfl,?_,?_,?_,?_⟩ (.cons rfl (.cons rfl .nil)) kC
    all_goals rfl
   refine zpi (ek:=Value.int .i64) (ev:=Value.bool) _ QY Q3 ?_
   refine Qb ?_
   refine zD hD ?_
   refine QS 5 36 rfl rfl kA ?_ ?_
   ·
    refine zpi (ek:=Value.int .i64) (ev:=Value.bool) _ QY Q3 ?_
    refine Qb ?_
    refine zD hD ?_
    refine qd 36 rfl ?_
    refine zpi (ek:=Value.int .i64) (ev:=Value.bool) _ QY Q3 ?_
    refine Qb ?_
    refine zD hD ?_
    refine zt0 47 rfl (Qe rfl) hD ?_
    refine zt0 48 rfl (Qv rfl) hD ?_
    refine Ql kA ?_
    refine Qt ?_
    refine Zc _ _ ⟨_,_,rfl,rfl,rfl,?_,?_,?_,?_⟩ (.cons rfl (.cons rfl .nil)) kC
    all_goals rfl
   refine zpi (ek:=Value.int .i64) (ev:=Value.bool) _ QY Q3 ?_
   refine Qb ?_
   refine zD hD ?_
   refine qd 5 rfl ?_
   refine zpi (ek:=Value.int .i64) (ev:=Value.bool) _ QY Q3 ?_
   refine Qb ?_
   refine zD hD ?_
   refine zt0 47 rfl (Qe rfl) hD ?_
   refine zt0 48 rfl (Qv rfl) hD ?_
   refine Ql kA ?_
   refine Qt ?_
   refine Zc _ _ ⟨_,_,rfl,rfl,rfl,?_,?_,?_,?_⟩ (.cons rfl (.cons rfl .nil)) kC
   all_goals rfl
  refine zpi (ek:=Value.int .i64) (ev:=Value.bool) _ QY Q3 ?_
  refine Qb ?_
  refine zD hD ?_
  refine VK 5 36 41 rfl rfl rfl kA ?_ ?_ ?_
  ·
   refine zpi (ek:=Value.int .i64) (ev:=Value.bool) _ QY Q3 ?_
   refine Qb ?_
   refine zD hD ?_
   refine QS 36 41 rfl rfl kA ?_ ?_
   ·
    refine zpi (ek:=Value.int .i64) (ev:=Value.bool) _ QY Q3 ?_
    refine Qb ?_
    refine zD hD ?_
    refine qd 41 rfl ?_
    refine zpi (ek:=Value.int .i64) (ev:=Value.bool) _ QY Q3 ?_
    refine Qb ?_
    refine zD hD ?_
    refine zt0 47 rfl (Qe rfl) hD ?_
    refine zt0 48 rfl (Qv rfl) hD ?_
    refine Ql kA ?_
    refine Qt ?_
    refine Zc _ _ ⟨_,_,rfl,rfl,rfl,?_,?_,?_,?_⟩ (.cons rfl (.cons rfl .nil)) kC
    all_goals rfl
   refine zpi (ek:=Value.int .i64) (ev:=Value.bool) _ QY Q3 ?_
   refine Qb ?_
   refine zD hD ?_
   refine qd 36 rfl ?_
   refine zpi (ek:=Value.int .i64) (ev:=Value.bool) _ QY Q3 ?_
   refine Qb ?_
   refine zD hD ?_
   refine zt0 47 rfl (Qe rfl) hD ?_
   refine zt0 48 rfl (Qv rfl) hD ?_
   refine Ql kA ?_
   refine Qt ?_
   refine Zc _ _ ⟨_,_,rfl,rfl,rfl,?_,?_,?_,?_⟩ (.cons rfl (.cons rfl .nil)) kC
   all_goals rfl
  ·
   refine zpi (ek:=Value.int .i64) (ev:=Value.bool) _ QY Q3 ?_
   refine Qb ?_
   refine zD hD ?_
   refine QS 5 41 rfl rfl kA ?_ ?_
   ·
    refine zpi (ek:=Value.int .i64) (ev:=Value.bool) _ QY Q3 ?_
    refine Qb ?_
    refine zD hD ?_
    refine qd 41 rfl ?_
    refine zpi (ek:=Value.int .i64) (ev:=Value.bool) _ QY Q3 ?_
    refine Qb ?_
    refine zD hD ?_
    refine zt0 47 rfl (Qe rfl) hD ?_
    refine zt0 48 rfl (Qv rfl) hD ?_
    refine Ql kA ?_
    refine Qt ?_
    refine Zc _ _ ⟨_,_,rfl,rfl,rfl,?_,?_,?_,?_⟩ (.cons rfl (.cons rfl .nil)) kC
    all_goals rfl
   refine zpi (ek:=Value.int .i64) (ev:=Value.bool) _ QY Q3 ?_
   refine Qb ?_
   refine zD hD ?_
   refine qd 5 rfl ?_
   refine zpi (ek:=Value.int .i64) (ev:=Value.bool) _ QY Q3 ?_
   refine Qb ?_
   refine zD hD ?_
   refine zt0 47 rfl (Qe rfl) hD ?_
   refine zt0 48 rfl (Qv rfl) hD ?_
   refine Ql kA ?_
   refine Qt ?_
   refine Zc _ _ ⟨_,_,rfl,rfl,rfl,?_,?_,?_,?_⟩ (.cons rfl (.cons rfl .nil)) kC
   all_goals rfl
  refine zpi (ek:=Value.int .i64) (ev:=Value.bool) _ QY Q3 ?_
  refine Qb ?_
  refine zD hD ?_
  refine QS 5 36 rfl rfl kA ?_ ?_
  ·
   refine zpi (ek:=Value.int .i64) (ev:=Value.bool) _ QY Q3 ?_
   refine Qb ?_
   refine zD hD ?_
   refine qd 36 rfl ?_
   refine zpi (ek:=Value.int .i64) (ev:=Value.bool) _ QY Q3 ?_
   refine Qb ?_
   refine zD hD ?_
   refine zt0 47 rfl (Qe rfl) hD ?_
   refine zt0 48 rfl (Qv rfl) hD ?_
   refine Ql kA ?_
   refine Qt ?_
   refine Zc _ _ ⟨_,_,rfl,rfl,rfl,?_,?_,?_,?_⟩ (.cons rfl (.cons rfl .nil)) kC
   all_goals rfl
  refine zpi (ek:=Value.int .i64) (ev:=Value.bool) _ QY Q3 ?_
  refine Qb ?_
  refine zD hD ?_
  refine qd 5 rfl ?_
  refine zpi (ek:=Value.int .i64) (ev:=Value.bool) _ QY Q3 ?_
  refine Qb ?_
  refine zD hD ?_
  refine zt0 47 rfl (Qe rfl) hD ?_
  refine zt0 48 rfl (Qv rfl) hD ?_
  refine Ql kA ?_
  refine Qt ?_
  refine Zc _ _ ⟨_,_,rfl,rfl,rfl,?_,?_,?_,?_⟩ (.cons rfl (.cons rfl .nil)) kC
  all_goals rfl
 rintro E I' loc' ⟨r,m,rfl,rfl,rfl,hm1,hm2,hm3,hm4⟩
 refine zR (zM ?_)
 refine zF Yg ?_
 refine zV (Qc rfl Qm (fun hg=>by exact QA.imm h1.out rfl)) ?_
 refine Yu _ QY Q3 rfl rfl rfl rfl (by repeat (first | exact Upd.here | apply Upd.there | apply ZE)) ?_
 refine zN (zR ?_)
 refine zM ?_
 refine zV (YL QY Q3 rfl rfl (fun _=>kQ)) ?_
 refine zM ?_
 refine Qq 2 rfl rfl rfl ?_
 refine zK (Qe rfl) ?_
 refine zK (YL QY Q3 rfl rfl (fun _=>kQ)) ?_
 refine QB rfl rfl rfl rfl rfl ?_
 refine zM ?_
 refine Qq 6 rfl rfl rfl ?_
 refine zK (Qe rfl) ?_
 refine zK (YL QY Q3 rfl rfl (fun _=>kQ)) ?_
 refine QB rfl rfl rfl rfl rfl ?_
 refine zM ?_
 refine Qq 10 rfl rfl rfl ?_
 refine zK (Qe rfl) ?_
 refine zK (YL QY Q3 rfl rfl (fun _=>kQ)) ?_
 refine QB rfl rfl rfl rfl rfl ?_
 refine zA (zN (Qs ?_))
 exact zp hIc rfl rfl (by rw [zou hm1 hm2 hm3 hm4])
end
end Go.Proofs.YtjblkbkmblkgoaaGreat
namespace Go.Proofs.YtjblkbkmblkgoaaGreat.L
section
open Go Go.Kn Go.Proofs
theorem VX:AgT Tryz.prog 41 5:=.of kA
theorem zli:QJ Tryz.prog 141 0 0:=.of kA
theorem zkL:QJ Tryz.prog 141 1 1:=.of kA
theorem zjX:QJ Tryz.prog 141 2 2:=.of kA
theorem zkq:QJ Tryz.prog 141 3 3:=.of kA
theorem zjT:QJ Tryz.prog 141 4 4:=.of kA
theorem VP:QJ Tryz.prog 41 0 0:=.of kA
theorem za5:QJ Tryz.prog 41 1 1:=.of kA
theorem za7:QJ Tryz.prog 41 2 2:=.of kA
theorem zaR:QJ Tryz.prog 41 3 3:=.of kA
theorem zaO:QJ Tryz.prog 41 4 4:=.of kA
theorem za9:Fun Tryz.prog 135:=.of Tryz.func135 kA kA
theorem zs6:Fun Tryz.prog 144:=.of Tryz.func144 kA kA
theorem zch:Fun Tryz.prog 160:=.of Tryz.func160 kA kA
theorem zbB:Fun Tryz.prog 190:=.of Tryz.func190 kA kA
theorem zbv:Fun Tryz.prog 229:=.of Tryz.func229 kA kA
theorem zvU:Fun Tryz.prog 95:=.of Tryz.func95 kA kA
theorem Q3:Kz (α:=Int) Tryz.prog 3 (.int .i64):=zgi kA
theorem mixed:Tryz.prog.follows .mixedOrders=true:=kA
theorem Qm:ScT Tryz.prog 3:=.of kA
theorem Vz:SlT Tryz.prog 63 41 5:=.of kA
theorem zbP:SzT Tryz.prog 41 5:=.of kA
theorem znW:Tryz.prog.underlying 3=some (.int .i64):=kA
theorem zgs:Y9 Tryz.prog 41 (.agg #[(.int .i64 0),(.int .i64 0),(.int .i64 0),(.int .i64 0),(.int .i64 0)]):=.of kA
end
section
open Go Go.Kn Go.Proofs
theorem Z1 (I:Qu)(n lo hi:Int):ZA Tryz.prog 160 [.int .i64 n,.int .i64 lo,.int .i64 hi] I (.bool (within n lo hi)):=by
 intro g H w hw
 refine qe Tryz.func160 Tryz.ntmps160 hw ?_
 refine zR (zA ?_)
 refine zN (zR ?_)
 refine zM ?_
 refine zM ?_
 refine zC ?_
 refine zM ?_
 refine Qq 3 rfl rfl rfl ?_
 refine zK (Qe rfl) ?_
 refine zK (Qe rfl) ?_
 refine zK (Qz rfl rfl rfl) ?_
 refine QB rfl rfl rfl rfl rfl ?_
 refine zA (zN (Qs ?_))
 exact zr rfl rfl kU
theorem Yl (I:Qu)(n lo hi:Int):ZA Tryz.prog 190 [.int .i64 n,.int .i64 lo,.int .i64 hi] I (.bool (within n lo hi)):=by
 intro g H w hw
 refine qe Tryz.func190 Tryz.ntmps190 hw ?_
 refine zR (zA ?_)
 refine zN (zR ?_)
 refine zM ?_
 refine zM ?_
 refine zC ?_
 refine zM ?_
 refine Qq 3 rfl rfl rfl ?_
 refine zK (Qe rfl) ?_
 refine zK (Qe rfl) ?_
 refine zK (Qz rfl rfl rfl) ?_
 refine QB rfl rfl rfl rfl rfl ?_
 refine zA (zN (Qs ?_))
 exact zr rfl rfl kU
theorem zfT (I:Qu)(x:Ls):ZA Tryz.prog 95 [encA x] I (.bool (zat x)):=by
 intro g H w hw
 refine qe Tryz.func95 Tryz.ntmps95 hw ?_
 refine zR ?_
 refine QO rfl rfl rfl (fun b_1=>?_)
 refine zA ?_
 refine zN (zR ?_)
 refine zF zli ?_
 refine zL Qm ?_
 refine qcV (vs:=[_,_,_]) rfl zch (Z1 I _ _ _) ?_
 refine zM ?_
 refine Qq 3 rfl rfl rfl ?_
 refine zK (Qa rfl zkL) ?_
 refine zK (Qc rfl Qm (fun hg=>by exact QA.h0 rfl)) ?_
 refine qg (vs:=[_,_,_]) rfl zch (fun hg=>Z1 I _ _ _) ?_
 refine QB rfl rfl rfl rfl rfl ?_
 refine zM ?_
 refine Qq 8 rfl rfl rfl ?_
 refine zK (Qa rfl zjX) ?_
 refine zK (Qc rfl Qm (fun hg=>by exact QA.h0 rfl)) ?_
 refine qg (vs:=[_,_,_]) rfl zch (fun hg=>Z1 I _ _ _) ?_
 refine QB rfl rfl rfl rfl rfl ?_
 refine zM ?_
 refine Qq 13 rfl rfl rfl ?_
 refine zK (Qa rfl zkq) ?_
 refine zK (Qc rfl Qm (fun hg=>by exact QA.h0 rfl)) ?_
 refine qg (vs:=[_,_,_]) rfl zch (fun hg=>Z1 I _ _ _) ?_
 refine QB rfl rfl rfl rfl rfl ?_
 refine zM ?_
 refine Qq 18 rfl rfl rfl ?_
 refine zK (Qa rfl zjT) ?_
 refine zK (Qc rfl Qm (fun hg=>by exact QA.h0 rfl)) ?_
 refine qg (vs:=[_,_,_]) rfl zch (fun hg=>Z1 I _ _ _) ?_
 refine QB rfl rfl rfl rfl rfl ?_
 refine zA (zN (Qs ?_))
 exact zr rfl rfl kU
theorem zdo (I:Qu)(x:Ls):ZA Tryz.prog 144 [encA x] I (.bool (zat x)):=by
 intro g H w hw
 refine qe Tryz.func144 Tryz.ntmps144 hw ?_
 refine zR ?_
 refine QO rfl rfl rfl (fun b_1=>?_)
 refine zA ?_
 refine zN (zR ?_)
 refine zF VP ?_
 refine zL Qm ?_
 refine qcV (vs:=[_,_,_]) rfl zbB (Yl I _ _ _) ?_
 refine zM ?_
 refine Qq 3 rfl rfl rfl ?_
 refine zK (Qa rfl za5) ?_
 refine zK (Qc rfl Qm (fun hg=>by exact QA.h0 rfl)) ?_
 refine qg (vs:=[_,_,_]) rfl zbB (fun hg=>Yl I _ _ _) ?_
 refine QB rfl rfl rfl rfl rfl ?_
 refine zM ?_
 refine Qq 8 rfl rfl rfl ?_
 refine zK (Qa rfl za7) ?_
 refine zK (Qc rfl Qm (fun hg=>by exact QA.h0 rfl)) ?_
 refine qg (vs:=[_,_,_]) rfl zbB (fun hg=>Yl I _ _ _) ?_
 refine QB rfl rfl rfl rfl rfl ?_
 refine zM ?_
 refine Qq 13 rfl rfl rfl ?_
 refine zK (Qa rfl zaR) ?_
 refine zK (Qc rfl Qm (fun hg=>by exact QA.h0 rfl)) ?_
 refine qg (vs:=[_,_,_]) rfl zbB (fun hg=>Yl I _ _ _) ?_
 refine QB rfl rfl rfl rfl rfl ?_
 refine zM ?_
 refine Qq 18 rfl rfl rfl ?_
 refine zK (Qa rfl zaO) ?_
 refine zK (Qc rfl Qm (fun hg=>by exact QA.h0 rfl)) ?_
 refine qg (vs:=[_,_,_]) rfl zbB (fun hg=>Yl I _ _ _) ?_
 refine QB rfl rfl rfl rfl rfl ?_
 refine zA (zN (Qs ?_))
 exact zr rfl rfl kU
theorem zlg (I:Qu)(x:Int):ZA Tryz.prog 229 [.int .i64 x] I (.bool false):=by
 intro g H w hw
 refine qe Tryz.func229 Tryz.ntmps229 hw ?_
 refine zR (zA ?_)
 refine zN (zR ?_)
 refine zM ?_
 refine zM ?_
 refine zC ?_
 refine zA (zN (Qs ?_))
 exact zr rfl rfl kH
def zfx (x y:Int):Int:=if x<y then -1 else if x>y then 1 else 0
theorem zue (I:Qu)(x y:Int):ZA Tryz.prog 183 [.int .i64 x,.int .i64 y] I (.int .i64 (zfx x y)):=by
 intro g H w hw
 refine qe Tryz.func183 Tryz.ntmps183 hw ?_
 refine zR (zA ?_)
 refine zN (zR ?_)
 refine zM ?_
 refine qcV (vs:=[_]) rfl zbv (zlg I _) ?_
 refine zA ?_
 refine zN (zR ?_)
 refine zM ?_
 refine qcV (vs:=[_]) rfl zbv (zlg I _) ?_
 refine zA (zN (Qo (zR ?_)))
 refine zM (zN ?_)
 refine zI ?_ ?_<;>intro hc11
 ·
  cases hc11
 refine Qp (Qd (Qo (zR (zM (zN ?_)))))
 refine zI ?_ ?_<;>intro hc13
 ·
  cases hc13
 refine Qp (Qd (Qo (zR (zM ?_))))
 refine zM ?_
 refine zC (zN ?_)
 refine zI ?_ ?_<;>intro hc16
 ·
  refine zR (zA (zN (Qs (Qf ?_))))
  exact zr rfl rfl (by unfold zfx;first | (rw [if_pos (by simpa using hc16)]) | (rw [if_neg (by simpa using hc16),if_pos (by simpa using hc19)]) | (rw [if_neg (by simpa using hc16),if_neg (by simpa using hc19)]))
 refine Qp (Qd (Qo (zR (zM ?_))))
 refine zM ?_
 refine zC (zN ?_)
 refine zI ?_ ?_<;>intro hc19
 ·
  refine zR (zA (zN (Qs (Qf ?_))))
  exact zr rfl rfl (by unfold zfx;first | (rw [if_pos (by simpa using hc16)]) | (rw [if_neg (by simpa using hc16),if_pos (by simpa using hc19)]) | (rw [if_neg (by simpa using hc16),if_neg (by simpa using hc19)]))
 refine Qp (Qd (zR (zA (zN (Qs ?_)))))
 exact zr rfl rfl (by unfold zfx;first | (rw [if_pos (by simpa using hc16)]) | (rw [if_neg (by simpa using hc16),if_pos (by simpa using hc19)]) | (rw [if_neg (by simpa using hc16),if_neg (by simpa using hc19)]))
theorem w_rcheck {I:Qu}{av:Option Addr}{n c:Nat}{xs:List Ls}(hS:Sl I 5 encL av n c xs)(hn:n≤100000):ZA Tryz.prog 76 [.slice av n c] I (.int .i64 (chk xs)):=by
 intro g H w hw
 refine qe Tryz.func76 Tryz.ntmps76 hw ?_
 refine zR (zA (zN (Qo (zR ?_))))
 refine zM ?_
 refine zQ Vz ?_
 refine zC (zN ?_)
 refine zI ?_ ?_<;>intro hc6
 ·
  have h6:xs.length>4096:=by rw [hS.len];simp at hc6;omega
  refine zR (zA (zN (Qs (Qf ?_))))
  first
  | exact zr rfl rfl (by unfold chk;rw [if_pos h6])
 have h6:¬xs.length>4096:=by rw [hS.len];simp at hc6;omega
 refine Qp (Qd (Qo (zR (zA (zN (Qx ?_))))))
 refine zU [(0,_)] (fun T L0 mz E I' loc'=>∃ (k:Nat),mz=n-k∧E=(3,.int .i64 k)::T∧I=I'∧L0=loc'∧k≤n∧(List.range k).all (ckP xs)=true) ?_ (h:=⟨0,rfl,rfl,rfl,rfl,Nat.zero_le _,rfl⟩)
 rintro mz E I' loc' ⟨k,rfl,rfl,rfl,rfl,hk,hall⟩
 refine Qo (zR (zM ?_))
 refine zM ?_
 refine zQ Vz ?_
 refine zC (zN ?_)
 refine zI ?_ ?_<;>intro hc10
 ·
  have hlt_k:k<n:=by have h:=hc10;simp at h;omega
  obtain ⟨x,hx⟩:=hS.at hlt_k
  refine Qp (Qd (Qo (Qx (Qo ?_))))
  refine Xt mixed kA ?_
  refine zq (Qe rfl) ?_
  refine zq (Qe rfl) ?_
  refine zq (QE rfl rfl Vz kJ (fun hg=>kB)) ?_
  refine zq (Qg rfl VX (fun hg=>by exact zz5 hS hx) rfl) ?_
  refine UO (cap:=[]) (vs:=[_]) rfl rfl zs6 (zdo I _) rfl rfl ?_
  refine zq (Zs rfl) ?_
  refine zq (Qe rfl) ?_
  refine V1 6 rfl rfl rfl ?_
  refine zj (Qe rfl) ?_
  refine zj (Qz rfl rfl rfl) ?_
  refine zj (Qe rfl) ?_
  refine VM 9 rfl rfl rfl ?_
  refine zk (Qe rfl) ?_
  refine zk (Qe rfl) ?_
  refine zk (QE rfl rfl Vz kJ (fun hg=>kB)) ?_
  refine zk (Qa rfl VP) ?_
  refine zk (Qc rfl Qm (fun hg=>by exact zz6 hS hx rfl)) ?_
  refine zk (Qe rfl) ?_
  refine zk (Qe rfl) ?_
  refine zk (YE rfl rfl rfl (fun _=>kB)) ?_
  refine zk (QE rfl rfl Vz kJ (fun hg=>by (simp [Yf] at hg;omega))) ?_
  refine zk (Qa rfl VP) ?_
  refine zk (Qc rfl Qm (fun hg=>by exact zz6 (k:=((k:Int)-1).toNat) hS (K7 (d:=zeroL) hS.len kB) rfl)) ?_
  refine zk (Qz rfl rfl rfl) ?_
  refine zby rfl rfl rfl (.some rfl rfl rfl rfl gbf) rfl rfl ?_
  refine UX rfl rfl rfl rfl rfl ?_
  refine Xw ?_
  refine Qd ?_
  refine zI ?_ ?_<;>intro hc36
  ·
   refine zR (zA (zN (Qs (Qk (Qf (Qf (Qk ?_)))))))
   refine Qf ?_
   first
   | exact zr rfl rfl (by unfold chk ckB;rw [if_neg h6,JN (k:=k) (by rw [hS.len];exact hlt_k) (by have:=Vo (d:=zeroL) hx;unfold ckP zow;rw [this,hc36];rfl)];rfl)
  refine Qp (Qj (Qd (Qi (zM ?_))))
  refine zB ?_
  refine zA (Qb ?_)
  exact zm (h:=⟨n-(k+1),kB,k+1,rfl,rfl,rfl,rfl,kB,VU hall (by have:=Vo (d:=zeroL) hx;unfold ckP zow;rw [this,hc36];rfl)⟩)
 have hge_k:n≤k:=by have h:=hc10;simp at h;omega
 refine Q6 (Qn (Qn (Qw (Qd (zR (zA (zN ?_)))))))
 refine Qs ?_
 first
 | exact zr rfl rfl (by unfold chk ckB;rw [if_neg h6,hS.len,show n=k by omega,hall];rfl)
theorem zo5 {xs:List Ls}{x:Ls}(hx:xs[0]? =some x):ckP xs 0= !(!zat x||decide (x.no≤ -1)):=by
 unfold ckP
 rw [Vo hx]
 rw [show decide (((0:Nat):Int)>0)=false from rfl,Bool.false_and,Bool.or_false]
 cases h:zat x with
 | false=>rfl
 | true=>
  have:0≤x.no:=by
   unfold zat within at h
   simp only [Bool.and_eq_true,decide_eq_true_eq] at h
   omega
  rw [show decide (x.no≤ -1)=false from decide_eq_false kB];rfl
theorem ztb {xs:List Ls}{k:Nat}{x y:Ls}(hx:xs[k+1]? =some x)(hy:xs[k]? =some y):ckP xs (k+1)= !(!zat x||decide (x.no≤y.no)):=by
 unfold ckP zow
 rw [Vo hx,show (((k+1:Nat):Int)-1).toNat=k by omega,Vo hy,show decide (((k+1:Nat):Int)>0)=true from decide_eq_true kB,Bool.true_and]
def zrj (xs:List Ls)(k:Nat)(l:Int):Prop:=(k=0→l= -1)∧∀ y,xs[k-1]? =some y→k≠0→l=y.no
theorem zvq {xs:List Ls}{k:Nat}{x:Ls}{l:Int}(hx:xs[k]? =some x)(hl:zrj xs k l):ckP xs k= !(!zat x||decide (x.no≤l)):=by
 cases k with
 | zero=>rw [hl.1 rfl];exact zo5 hx
 | succ k=>
  have hk:=(List.getElem?_eq_some_iff.1 hx).1
  have hy:xs[k]? =some (xs[k]' kB):=List.getElem?_eq_getElem _
  rw [hl.2 _ (by rw [Nat.add_sub_cancel];exact hy) kB];exact ztb hx hy
theorem zku {xs:List Ls}{k:Nat}{x:Ls}(hx:xs[k]? =some x):zrj xs (k+1) x.no:=⟨fun h=>kB,fun y hy _=>by simp at hy;rw [hx] at hy;cases hy;rfl⟩
theorem w_check {I:Qu}{av:Option Addr}{n c:Nat}{xs:List Ls}(hS:Sl I 5 encL av n c xs)(hn:n≤100000):ZA Tryz.prog 38 [.slice av n c] I (.int .i64 (chk xs)):=by
 intro g H w hw
 refine qe Tryz.func38 Tryz.ntmps38 hw ?_
 refine zR (zA (zN (Qo (zR ?_))))
 refine zM ?_
 refine zQ Vz ?_
 refine zC (zN ?_)
 refine zI ?_ ?_<;>intro hc8
 ·
  have h6:xs.length>4096:=by rw [hS.len];simp at hc8;omega
  refine zR (zA (zN (Qs (Qf ?_))))
  first
  | exact zr rfl rfl (by unfold chk;rw [if_pos h6])
 have h6:¬xs.length>4096:=by rw [hS.len];simp at hc8;omega
 refine Qp (Qd (zR (zA (zN (Qo (zR ?_))))))
 refine zM ?_
 refine zQ Vz ?_
 refine zM (zN (Qx ?_))
 refine zU [(9,_),(10,_)] (fun T L0 mz E I' loc'=>∃ (k:Nat) (l:Int),mz=n-k∧E=(3,.int .i64 l)::(11,.int .i64 k)::T∧I=I'∧L0=loc'∧k≤n∧(List.range k).all (ckP xs)=true∧zrj xs k l) ?_ (h:=⟨0, -1,rfl,rfl,rfl,rfl,Nat.zero_le _,rfl,⟨fun _=>rfl,fun _ _ h=>absurd rfl h⟩⟩)
 rintro mz E I' loc' ⟨k,l,rfl,rfl,rfl,rfl,hk,hall,hl⟩
 refine zR (zC (zN (Qo ?_)))
 refine zI ?_ ?_<;>intro hc12
 ·
  have hlt_k:k<n:=by have h:=hc12;simp at h;omega
  obtain ⟨x,hx⟩:=hS.at hlt_k
  refine Qp (Qd (Qo (Qx (zR ?_))))
  refine zV (QE rfl rfl Vz kJ (fun hg=>kB)) ?_
  refine zV (Qg rfl VX (fun hg=>by exact zz5 hS hx) rfl) ?_
  refine Qr zgs rfl rfl (fun b_5=>?_)
  refine zh zbP ?_
  refine zN (Qo (zR ?_))
  refine zV (Qg rfl VX (fun hg=>by exact Cells.g0) rfl) ?_
  refine qcV (vs:=[_]) rfl zvU (zfT I _) ?_
  refine zO ?_
  refine zM ?_
  refine QK 3 rfl rfl rfl ?_
  refine zJ (Qa rfl VP) ?_
  refine zJ (Qc rfl Qm (fun hg=>by exact QA.h0 rfl)) ?_
  refine zJ (Qe rfl) ?_
  refine zJ (Qz rfl rfl rfl) ?_
  refine Zg rfl rfl rfl rfl rfl ?_
  refine zN ?_
  refine zI ?_ ?_<;>intro hc23
  ·
   refine zR (zA (zN (Qs (Qf (Qk (Qf (Qf ?_)))))))
   refine Qk (Qf ?_)
   first
   | exact zr rfl rfl (by unfold chk ckB;rw [if_neg h6,JN (k:=k) (by rw [hS.len];exact hlt_k) (by rw [zvq hx hl,hc23];rfl)];rfl)
  refine Qp (Qd (Qi ?_))
  refine zF VP ?_
  refine zL Qm ?_
  refine zA (Qb (Qj (Qd (Qi ?_))))
  refine zB ?_
  refine zM (Qb ?_)
  exact zm (h:=⟨n-(k+1),kB,k+1,x.no,rfl,rfl,rfl,rfl,kB,VU hall (by rw [zvq hx hl,hc23];rfl),zku hx⟩)
 have hge_k:n≤k:=by have h:=hc12;simp at h;omega
 refine Q6 (Qn (Qn (Qw (Qd (zR (zA (zN ?_)))))))
 refine Qs ?_
 first
 | exact zr rfl rfl (by unfold chk ckB;rw [if_neg h6,hS.len,show n=k by omega,hall];rfl)
end
end Go.Proofs.YtjblkbkmblkgoaaGreat.L
namespace Go.Proofs.YtjblkbkmblkgoaaGreat.S
section
open Go Go.Kn Go.Proofs
theorem Ys:AgT Tryz.prog 43 11:=.of kA
theorem XA:EqT Tryz.prog 43 [.int,.int,.int,.int,.int,.int,.str,.str,.int,.int,.int]:=⟨kA,kA,kA,kA⟩
theorem Yp:QJ Tryz.prog 43 0 0:=.of kA
theorem VJ:QJ Tryz.prog 43 1 1:=.of kA
theorem YA:QJ Tryz.prog 43 10 10:=.of kA
theorem Jw:QJ Tryz.prog 43 2 2:=.of kA
theorem Kd:QJ Tryz.prog 43 3 3:=.of kA
theorem Kc:QJ Tryz.prog 43 4 4:=.of kA
theorem Y5:QJ Tryz.prog 43 5 5:=.of kA
theorem Ju:QJ Tryz.prog 43 6 6:=.of kA
theorem JE:QJ Tryz.prog 43 7 7:=.of kA
theorem Ka:QJ Tryz.prog 43 8 8:=.of kA
theorem JG:QJ Tryz.prog 43 9 9:=.of kA
theorem zsM:Fun Tryz.prog 100:=.of Tryz.func100 kA kA
theorem XN:Fun Tryz.prog 101:=.of Tryz.func101 kA kA
theorem zsg:Fun Tryz.prog 149:=.of Tryz.func149 kA kA
theorem ztT:Fun Tryz.prog 164:=.of Tryz.func164 kA kA
theorem zlW:Fun Tryz.prog 165:=.of Tryz.func165 kA kA
theorem zlR:Fun Tryz.prog 166:=.of Tryz.func166 kA kA
theorem zsF:Fun Tryz.prog 167:=.of Tryz.func167 kA kA
theorem Kv:Fun Tryz.prog 193:=.of Tryz.func193 kA kA
theorem zfN:Fun Tryz.prog 194:=.of Tryz.func194 kA kA
theorem zl9:Fun Tryz.prog 195:=.of Tryz.func195 kA kA
theorem zup:Fun Tryz.prog 196:=.of Tryz.func196 kA kA
theorem Q3:Kz (α:=Int) Tryz.prog 3 (.int .i64):=zgi kA
theorem mixed:Tryz.prog.follows .mixedOrders=true:=kA
theorem UM:MpT Tryz.prog 151 3 43 (.agg #[(.int .i64 0),(.int .i64 0),(.int .i64 0),(.int .i64 0),(.int .i64 0),(.int .i64 0),(.string ⟨#[]⟩),(.string ⟨#[]⟩),(.int .i64 0),(.int .i64 0),(.int .i64 0)]):=⟨kA,.of kA⟩
theorem zbZ:MpT Tryz.prog 152 3 154 .nilFunc:=⟨kA,.of kA⟩
theorem W6:PlT Tryz.prog 43 #[(0,1),(1,1),(2,1),(3,1),(4,1),(5,1),(6,1),(7,1),(8,1),(9,1),(10,1)] (.agg #[(.int .i64 0),(.int .i64 0),(.int .i64 0),(.int .i64 0),(.int .i64 0),(.int .i64 0),(.string ⟨#[]⟩),(.string ⟨#[]⟩),(.int .i64 0),(.int .i64 0),(.int .i64 0)]):=⟨.of kA,kA,fun w=>kA⟩
theorem Qm:ScT Tryz.prog 3:=.of kA
theorem VS:ScT Tryz.prog 9:=.of kA
theorem ZH:SlT Tryz.prog 65 43 11:=.of kA
theorem UC:SzT Tryz.prog 43 11:=.of kA
theorem zrh:Tryz.prog.underlying 9=some .string:=kA
theorem zaw:Y9 Tryz.prog 43 (.agg #[(.int .i64 0),(.int .i64 0),(.int .i64 0),(.int .i64 0),(.int .i64 0),(.int .i64 0),(.string ⟨#[]⟩),(.string ⟨#[]⟩),(.int .i64 0),(.int .i64 0),(.int .i64 0)]):=.of kA
end
section
open Go Go.Kn Go.Proofs
theorem Z1 (I:Qu)(n lo hi:Int):ZA Tryz.prog 101 [.int .i64 n,.int .i64 lo,.int .i64 hi] I (.bool (within n lo hi)):=by
 intro g H w hw
 refine enter Tryz.func101 rfl Tryz.ntmps101 rfl hw ?_
 refine zR ?_
 refine zA ?_
 refine zN (zR ?_)
 refine zM ?_
 refine zM ?_
 refine zC ?_
 refine zM ?_
 refine Qq 3 rfl rfl rfl ?_
 refine zK (Qe rfl) ?_
 refine zK (Qe rfl) ?_
 refine zK (Qz rfl rfl rfl) ?_
 refine QB rfl rfl rfl rfl rfl ?_
 refine zA ?_
 refine zN ?_
 refine Qs ?_
 exact Qy rfl rfl (fun w hw=>⟨by rfl,hw.drop⟩)
theorem Yl (I:Qu)(n lo hi:Int):ZA Tryz.prog 193 [.int .i64 n,.int .i64 lo,.int .i64 hi] I (.bool (within n lo hi)):=by
 intro g H w hw
 refine enter Tryz.func193 rfl Tryz.ntmps193 rfl hw ?_
 refine zR ?_
 refine zA ?_
 refine zN (zR ?_)
 refine zM ?_
 refine zM ?_
 refine zC ?_
 refine zM ?_
 refine Qq 3 rfl rfl rfl ?_
 refine zK (Qe rfl) ?_
 refine zK (Qe rfl) ?_
 refine zK (Qz rfl rfl rfl) ?_
 refine QB rfl rfl rfl rfl rfl ?_
 refine zA ?_
 refine zN ?_
 refine Qs ?_
 exact Qy rfl rfl (fun w hw=>⟨by simp [within,Bool.and_comm],hw.drop⟩)
theorem zjr (I:Qu)(x:Rt):ZA Tryz.prog 165 [encA x] I (.bool (zkr x)):=by
 intro g H w hw
 refine enter Tryz.func165 rfl Tryz.ntmps165 rfl hw ?_
 refine zR ?_
 refine QO rfl rfl rfl (fun b_1=>?_)
 refine zA ?_
 refine zN (zR ?_)
 refine zF Ka ?_
 refine zV (Qc rfl Qm (fun hg=>by exact QA.h0 rfl)) ?_
 refine zC ?_
 refine zM ?_
 refine Qq 3 rfl rfl rfl ?_
 refine zK (Qa rfl Ka) ?_
 refine zK (Qc rfl Qm (fun hg=>by exact QA.h0 rfl)) ?_
 refine zK (Qa rfl JG) ?_
 refine zK (Qc rfl Qm (fun hg=>by exact QA.h0 rfl)) ?_
 refine zK (Qz rfl rfl rfl) ?_
 refine QB rfl rfl rfl rfl rfl ?_
 refine zM ?_
 refine Qq 10 rfl rfl rfl ?_
 refine zK (Qa rfl JG) ?_
 refine zK (Qc rfl Qm (fun hg=>by exact QA.h0 rfl)) ?_
 refine zK (Qz rfl rfl rfl) ?_
 refine QB rfl rfl rfl rfl rfl ?_
 refine zM ?_
 refine Qq 15 rfl rfl rfl ?_
 refine zK (Qa rfl Jw) ?_
 refine zK (Qc rfl Qm (fun hg=>by exact QA.h0 rfl)) ?_
 refine Z2 (cap:=[]) (vs:=[_,_,_]) rfl rfl XN (fun hg=>Z1 I _ _ _) (.some rfl rfl rfl rfl gbt) rfl rfl ?_
 refine QB rfl rfl rfl rfl rfl ?_
 refine zA ?_
 refine zN ?_
 refine Qs ?_
 exact Qy rfl rfl (fun w hw=>⟨by rfl,hw.drop⟩)
theorem zc6 (I:Qu)(x:Rt)(m:Value):ZA Tryz.prog 166 [encA x,m] I (.bool (heldF x)):=by
 intro g H w hw
 refine enter Tryz.func166 rfl Tryz.ntmps166 rfl hw ?_
 refine zR ?_
 refine QO rfl rfl rfl (fun b_2=>?_)
 refine zA ?_
 refine zN (zR ?_)
 refine zF Yp ?_
 refine zV (Qc rfl Qm (fun hg=>by exact QA.h0 rfl)) ?_
 refine zF VJ ?_
 refine zV (Qc rfl Qm (fun hg=>by exact QA.h0 rfl)) ?_
 refine zF Jw ?_
 refine zV (Qc rfl Qm (fun hg=>by exact QA.h0 rfl)) ?_
 refine zF Kd ?_
 refine zV (Qc rfl Qm (fun hg=>by exact QA.h0 rfl)) ?_
 refine zF Kc ?_
 refine zV (Qc rfl Qm (fun hg=>by exact QA.h0 rfl)) ?_
 refine zF Ka ?_
 refine zV (Qc rfl Qm (fun hg=>by exact QA.h0 rfl)) ?_
 refine zF JG ?_
 refine zV (Qc rfl Qm (fun hg=>by exact QA.h0 rfl)) ?_
 refine zF YA ?_
 refine zV (Qc rfl Qm (fun hg=>by exact QA.h0 rfl)) ?_
 refine zV (QI (ps:=[(0,_),(1,_),(2,_),(3,_),(4,_),(8,_),(9,_),(10,_)]) [_,_,_,_,_,_,_,_,_,_,_] W6 rfl rfl) ?_
 refine Qr zaw rfl rfl (fun b_5=>?_)
 refine Jd rfl rfl UC rfl rfl rfl rfl kR ?_
 refine zN (zR ?_)
 refine zV (Qg rfl Ys (fun hg=>by exact Cells.g1) rfl) ?_
 refine zV (Qg rfl Ys (fun hg=>by exact Cells.g0) rfl) ?_
 refine zV (Ue rfl rfl XA rfl) ?_
 refine zM ?_
 refine Qq 3 rfl rfl rfl ?_
 refine zK (Qg rfl Ys (fun hg=>by exact Cells.g1) rfl) ?_
 refine Z2 (cap:=[]) (vs:=[_]) rfl rfl zlW (fun hg=>zjr I x) (.some rfl rfl rfl rfl gbt) rfl rfl ?_
 refine QB rfl rfl rfl rfl rfl ?_
 refine zM ?_
 refine Qq 7 rfl rfl rfl ?_
 refine zK (Qa rfl Kd) ?_
 refine zK (Qc rfl Qm (fun hg=>by exact QA.h1 rfl)) ?_
 refine Z2 (cap:=[]) (vs:=[_,_,_]) rfl rfl XN (fun hg=>Z1 I _ _ _) (.some rfl rfl rfl rfl gbt) rfl rfl ?_
 refine QB rfl rfl rfl rfl rfl ?_
 refine zM ?_
 refine Qq 12 rfl rfl rfl ?_
 refine zK (Qa rfl Kc) ?_
 refine zK (Qc rfl Qm (fun hg=>by exact QA.h1 rfl)) ?_
 refine Z2 (cap:=[]) (vs:=[_,_,_]) rfl rfl XN (fun hg=>Z1 I _ _ _) (.some rfl rfl rfl rfl gbt) rfl rfl ?_
 refine QB rfl rfl rfl rfl rfl ?_
 refine zA ?_
 refine zN ?_
 refine Qs ?_
 exact Qy rfl rfl (fun w hw=>⟨by rfl,hw.drop⟩)
theorem zv7 (I:Qu)(x:Rt)(m:Value):ZA Tryz.prog 164 [encA x,m] I (.bool (billF x)):=by
 intro g H w hw
 refine enter Tryz.func164 rfl Tryz.ntmps164 rfl hw ?_
 refine zR ?_
 refine QO rfl rfl rfl (fun b_2=>?_)
 refine zA ?_
 refine zN (zR ?_)
 refine zF Yp ?_
 refine zV (Qc rfl Qm (fun hg=>by exact QA.h0 rfl)) ?_
 refine zF VJ ?_
 refine zV (Qc rfl Qm (fun hg=>by exact QA.h0 rfl)) ?_
 refine zF Jw ?_
 refine zV (Qc rfl Qm (fun hg=>by exact QA.h0 rfl)) ?_
 refine zF Ju ?_
 refine zV (Qc rfl VS (fun hg=>by exact QA.h0 rfl)) ?_
 refine zF JE ?_
 refine zV (Qc rfl VS (fun hg=>by exact QA.h0 rfl)) ?_
 refine zF Ka ?_
 refine zV (Qc rfl Qm (fun hg=>by exact QA.h0 rfl)) ?_
 refine zF JG ?_
 refine zV (Qc rfl Qm (fun hg=>by exact QA.h0 rfl)) ?_
 refine zF YA ?_
 refine zV (Qc rfl Qm (fun hg=>by exact QA.h0 rfl)) ?_
 refine zV (QI (ps:=[(0,_),(1,_),(2,_),(6,_),(7,_),(8,_),(9,_),(10,_)]) [_,_,_,_,_,_,_,_,_,_,_] W6 rfl rfl) ?_
 refine Qr zaw rfl rfl (fun b_5=>?_)
 refine Jd rfl rfl UC rfl rfl rfl rfl kR ?_
 refine zN (zR ?_)
 refine zV (Qg rfl Ys (fun hg=>by exact Cells.g1) rfl) ?_
 refine zV (Qg rfl Ys (fun hg=>by exact Cells.g0) rfl) ?_
 refine zV (Ue rfl rfl XA rfl) ?_
 refine zM ?_
 refine Qq 3 rfl rfl rfl ?_
 refine zK (Qg rfl Ys (fun hg=>by exact Cells.g1) rfl) ?_
 refine Z2 (cap:=[]) (vs:=[_]) rfl rfl zlW (fun hg=>zjr I x) (.some rfl rfl rfl rfl gbt) rfl rfl ?_
 refine QB rfl rfl rfl rfl rfl ?_
 refine zM ?_
 refine Qq 7 rfl rfl rfl ?_
 refine zK (Qa rfl Ju) ?_
 refine zK (Qc rfl VS (fun hg=>by exact QA.h1 rfl)) ?_
 refine zK (UQ rfl zrh) ?_
 refine Z2 (cap:=[]) (vs:=[_,_,_]) rfl rfl XN (fun hg=>Z1 I _ _ _) (.some rfl rfl rfl rfl gbt) rfl rfl ?_
 refine QB rfl rfl rfl rfl rfl ?_
 refine zM ?_
 refine Qq 13 rfl rfl rfl ?_
 refine zK (Qa rfl JE) ?_
 refine zK (Qc rfl VS (fun hg=>by exact QA.h1 rfl)) ?_
 refine zK (UQ rfl zrh) ?_
 refine Z2 (cap:=[]) (vs:=[_,_,_]) rfl rfl XN (fun hg=>Z1 I _ _ _) (.some rfl rfl rfl rfl gbt) rfl rfl ?_
 refine QB rfl rfl rfl rfl rfl ?_
 refine zA ?_
 refine zN ?_
 refine Qs ?_
 exact Qy rfl rfl (fun w hw=>⟨by rfl,hw.drop⟩)
theorem zl6 (I:Qu)(x:Rt):ZA Tryz.prog 194 [encA x] I (.bool (ziL x)):=by
 intro g H w hw
 refine enter Tryz.func194 rfl Tryz.ntmps194 rfl hw ?_
 refine zR ?_
 refine QO rfl rfl rfl (fun b_1=>?_)
 refine zA ?_
 refine zN (zR ?_)
 refine zF Ka ?_
 refine zV (Qc rfl Qm (fun hg=>by exact QA.h0 rfl)) ?_
 refine zF JG ?_
 refine zV (Qc rfl Qm (fun hg=>by exact QA.h0 rfl)) ?_
 refine VI (cap:=[]) (vs:=[_,_,_]) rfl rfl Kv (Yl I _ _ _) rfl rfl ?_
 refine zM ?_
 refine Qq 5 rfl rfl rfl ?_
 refine zK (Qa rfl JG) ?_
 refine zK (Qc rfl Qm (fun hg=>by exact QA.h0 rfl)) ?_
 refine zK (Qz rfl rfl rfl) ?_
 refine QB rfl rfl rfl rfl rfl ?_
 refine zA ?_
 refine zN ?_
 refine Qs ?_
 exact Qy rfl rfl (fun w hw=>⟨by rfl,hw.drop⟩)
theorem zrd (I:Qu)(s:ByteArray):ZA Tryz.prog 195 [.string s] I (.bool (ziF s)):=by
 intro g H w hw
 refine enter Tryz.func195 rfl Tryz.ntmps195 rfl hw ?_
 refine zR ?_
 refine zA ?_
 refine zN (zR ?_)
 refine zM ?_
 refine zV (UQ rfl zrh) ?_
 refine VI (cap:=[]) (vs:=[_,_,_]) rfl rfl Kv (Yl I _ _ _) rfl rfl ?_
 refine zA ?_
 refine zN ?_
 refine Qs ?_
 exact Qy rfl rfl (fun w hw=>⟨by rfl,hw.drop⟩)
end
section
open Go Go.Kn Go.Proofs
theorem zmi (I:Qu)(x:Rt)(r:Nat)(bs:List (Int×Rt))(hm:Zt bs (w64 (x.ends-1))=none):zmw Tryz.prog 167 [encA x,.map (some r)] I [(r,Yo (.int .i64) encA bs)] (.bool (voidF x bs)):=by
 intro g H w hw
 refine enter Tryz.func167 rfl Tryz.ntmps167 rfl hw ?_
 refine zR ?_
 refine QO rfl rfl rfl (fun b_2=>?_)
 refine zA ?_
 refine zN (zR ?_)
 refine zM ?_
 refine zF Y5 ?_
 refine zV (Qc rfl Qm (fun hg=>by exact QA.h0 rfl)) ?_
 refine zV (WZ rfl rfl rfl) ?_
 refine zV (zft hm UM Q3 rfl rfl (fun _=>(by exact Mem.m1))) ?_
 refine zM ?_
 refine zE ?_
 refine zE ?_
 refine Qr zaw rfl rfl (fun b_5=>?_)
 refine Jd rfl rfl UC rfl rfl rfl rfl kR ?_
 refine zA ?_
 refine zN (zR ?_)
 refine zM ?_
 refine zM ?_
 refine Qq 1 rfl rfl rfl ?_
 refine zK (Qa rfl VJ) ?_
 refine zK (Qc rfl Qm (fun hg=>by exact QA.h0 rfl)) ?_
 refine zK (Qz rfl rfl rfl) ?_
 refine QB rfl rfl rfl rfl rfl ?_
 refine zM ?_
 refine Qq 6 rfl rfl rfl ?_
 refine zK (Qa rfl YA) ?_
 refine zK (Qc rfl Qm (fun hg=>by exact QA.h0 rfl)) ?_
 refine zK (Qa rfl YA) ?_
 refine zK (Qc rfl Qm (fun hg=>by exact QA.h1 rfl)) ?_
 refine zK (Qz rfl rfl rfl) ?_
 refine QB rfl rfl rfl rfl rfl ?_
 refine zM ?_
 refine Qq 13 rfl rfl rfl ?_
 refine zK (Qg rfl Ys (fun hg=>by exact Cells.g1) rfl) ?_
 refine zK (Qa rfl Yp) ?_
 refine zK (Qc rfl Qm (fun hg=>by exact QA.h1 rfl)) ?_
 refine zK (Qa rfl VJ) ?_
 refine zK (Qc rfl Qm (fun hg=>by exact QA.h1 rfl)) ?_
 refine zK (Qa rfl Y5) ?_
 refine zK (Qc rfl Qm (fun hg=>by exact QA.h1 rfl)) ?_
 refine zK (Qa rfl YA) ?_
 refine zK (Qc rfl Qm (fun hg=>by exact QA.h1 rfl)) ?_
 refine zK (QI (ps:=[(0,_),(1,_),(5,_),(10,_)]) [_,_,_,_,_,_,_,_,_,_,_] W6 rfl rfl) ?_
 refine zK (Ue rfl rfl XA rfl) ?_
 refine QB rfl rfl rfl rfl rfl ?_
 refine zA ?_
 refine zN ?_
 refine Qs ?_
 exact Qy rfl rfl (fun w hw=>⟨by simp [voidF,zeroR,rtEq,hm],hw.subL (.drop (.drop .refl))⟩)
theorem zid (I:Qu)(x:Rt)(r:Nat)(bs:List (Int×Rt)){old:Rt}(hm:Zt bs (w64 (x.ends-1))=some old):zmw Tryz.prog 167 [encA x,.map (some r)] I [(r,Yo (.int .i64) encA bs)] (.bool (voidF x bs)):=by
 intro g H w hw
 refine enter Tryz.func167 rfl Tryz.ntmps167 rfl hw ?_
 refine zR ?_
 refine QO rfl rfl rfl (fun b_2=>?_)
 refine zA ?_
 refine zN (zR ?_)
 refine zM ?_
 refine zF Y5 ?_
 refine zV (Qc rfl Qm (fun hg=>by exact QA.h0 rfl)) ?_
 refine zV (WZ rfl rfl rfl) ?_
 refine zV (zeR hm UM Q3 rfl rfl (fun _=>(by exact Mem.m1))) ?_
 refine zM ?_
 refine zE ?_
 refine zE ?_
 refine Qr zaw rfl rfl (fun b_5=>?_)
 refine Jd rfl rfl UC rfl rfl rfl rfl kR ?_
 refine zA ?_
 refine zN (zR ?_)
 refine zM ?_
 refine zM ?_
 refine Qq 1 rfl rfl rfl ?_
 refine zK (Qa rfl VJ) ?_
 refine zK (Qc rfl Qm (fun hg=>by exact QA.h0 rfl)) ?_
 refine zK (Qz rfl rfl rfl) ?_
 refine QB rfl rfl rfl rfl rfl ?_
 refine zM ?_
 refine Qq 6 rfl rfl rfl ?_
 refine zK (Qa rfl YA) ?_
 refine zK (Qc rfl Qm (fun hg=>by exact QA.h0 rfl)) ?_
 refine zK (Qa rfl YA) ?_
 refine zK (Qc rfl Qm (fun hg=>by exact QA.h1 rfl)) ?_
 refine zK (Qz rfl rfl rfl) ?_
 refine QB rfl rfl rfl rfl rfl ?_
 refine zM ?_
 refine Qq 13 rfl rfl rfl ?_
 refine zK (Qg rfl Ys (fun hg=>by exact Cells.g1) rfl) ?_
 refine zK (Qa rfl Yp) ?_
 refine zK (Qc rfl Qm (fun hg=>by exact QA.h1 rfl)) ?_
 refine zK (Qa rfl VJ) ?_
 refine zK (Qc rfl Qm (fun hg=>by exact QA.h1 rfl)) ?_
 refine zK (Qa rfl Y5) ?_
 refine zK (Qc rfl Qm (fun hg=>by exact QA.h1 rfl)) ?_
 refine zK (Qa rfl YA) ?_
 refine zK (Qc rfl Qm (fun hg=>by exact QA.h1 rfl)) ?_
 refine zK (QI (ps:=[(0,_),(1,_),(5,_),(10,_)]) [_,_,_,_,_,_,_,_,_,_,_] W6 rfl rfl) ?_
 refine zK (Ue rfl rfl XA rfl) ?_
 refine QB rfl rfl rfl rfl rfl ?_
 refine zA ?_
 refine zN ?_
 refine Qs ?_
 exact Qy rfl rfl (fun w hw=>⟨by simp [voidF,zeroR,rtEq,hm],hw.subL (.drop (.drop .refl))⟩)
theorem zxg (I:Qu)(x:Rt)(r:Nat)(bs:List (Int×Rt)):zmw Tryz.prog 167 [encA x,.map (some r)] I [(r,Yo (.int .i64) encA bs)] (.bool (voidF x bs)):=by
 cases hm:Zt bs (w64 (x.ends-1)) with
 | none=>exact zmi I x r bs hm
 | some old=>exact zid I x r bs hm
def evF (k:Nat):Value:=.func (.func k) #[] #[]
def Wp:List (Int×Nat):=[(1,164),(2,166),(3,166),(4,167)]
theorem zwx (I:Qu):Vs Tryz.prog 100 [] I [] (fun v I' L=>∃ r,v= .map (some r)∧I'=I∧L=[(r,Yo (.int .i64) evF Wp)]):=by
 intro g H w hw
 refine enter Tryz.func100 rfl Tryz.ntmps100 rfl hw ?_
 refine zR ?_
 refine zA ?_
 refine zN (zR ?_)
 refine Z7 rfl rfl (fun r_1=>?_)
 refine UV (m:=[]) (ev:=evF) 164 zbZ Q3 rfl rfl rfl rfl kR ?_
 refine UV 166 zbZ Q3 rfl rfl rfl rfl kR ?_
 refine UV 166 zbZ Q3 rfl rfl rfl rfl kR ?_
 refine UV 167 zbZ Q3 rfl rfl rfl rfl kR ?_
 refine zM ?_
 refine zA ?_
 refine zN ?_
 refine Qs ?_
 exact Qy rfl rfl (fun w hw=>⟨_,I,_,rfl,zz4 _,hw,r_1,rfl,rfl,rfl⟩)
theorem zo1 {k:Int}{f:Nat}(h:Zt Wp k=some f):Fun Tryz.prog f:=by
 simp only [Wp,Zt] at h
 split at h
 ·
  cases h;exact ztT
 ·
  split at h
  ·
   cases h;exact zlR
  ·
   split at h
   ·
    cases h;exact zlR
   ·
    split at h
    ·
     cases h;exact zsF
    ·
     cases h
theorem zaT (k:Int):(Zt Wp k).isSome=zcY k:=by
 simp only [Wp,Zt,zcY]
 by_cases h1:k=1
 ·
  subst h1;rfl
 ·
  by_cases h2:k=2
  ·
   subst h2;rfl
  ·
   by_cases h3:k=3
   ·
    subst h3;rfl
   ·
    by_cases h4:k=4
    ·
     subst h4;rfl
    ·
     simp [h1,h2,h3,h4,Ne.symm h1,Ne.symm h2,Ne.symm h3,Ne.symm h4]
theorem zy0 {k:Int}{f:Nat}(h:Zt Wp k=some f)(I:Qu)(x:Rt)(r:Nat)(bs:List (Int×Rt)):zmw Tryz.prog f [encA x,.map (some r)] I [(r,Yo (.int .i64) encA bs)] (.bool (askF k x bs)):=by
 simp only [Wp,Zt] at h
 split at h
 ·
  rename_i e;cases h;subst e;exact (zv7 I x _).k _
 ·
  split at h
  ·
   rename_i e;cases h;subst e;exact (zc6 I x _).k _
  ·
   split at h
   ·
    rename_i e;cases h;subst e;exact (zc6 I x _).k _
   ·
    split at h
    ·
     rename_i e;cases h;subst e;exact zxg I x r bs
    ·
     cases h
theorem zwt {I:Qu}{av:Option Addr}{n c:Nat}{xs:List Rt}(hS:Sl I 11 encR av n c xs)(hn:n≤100000){i:Nat}{x:Rt}(hx:xs[i]? =some x):ZA Tryz.prog 196 [.slice av n c,.int .i64 i] I (.bool (zgg (xs.take i) x)):=by
 intro g H w hw
 refine enter Tryz.func196 rfl Tryz.ntmps196 rfl hw ?_
 refine Qo ?_
 have hi:i<n:=by have:=(List.getElem?_eq_some_iff.1 hx).1;rw [hS.len] at this;exact this
 refine Qi ?_
 refine zA ?_
 refine zN ?_
 refine zoK (fun E I' loc'=>E=[(0,.slice av n c),(1,.int .i64 i)]∧I'=I∧loc'=[]∧zgg (xs.take i) x=false) ?_ ?_
 ·
  refine zR ?_
  refine zA ?_
  refine zN ?_
  refine Qx ?_
  refine zgM (fun m E I' loc'=>∃ k:Nat,m=i-k∧E=[(0,.slice av n c),(1,.int .i64 i),(5,.int .i64 k)]∧I'=I∧loc'=[]∧k≤i∧(xs.take k).any (fun y=>(w64 (y.no+1)==x.ends)&&(y.kind != 4)&&decide (y.known≤x.known))=false) _ _ _ _ ⟨0,rfl,rfl,rfl,rfl,Nat.zero_le _,rfl⟩ (.cons rfl (.cons rfl (.cons rfl .nil))) (zz4 _) rfl ?_
  rintro m E I' loc' ⟨k,rfl,rfl,rfl,rfl,hk,hinv⟩
  refine Qo ?_
  refine zR ?_
  refine zM ?_
  refine zM ?_
  refine zC ?_
  refine zN ?_
  refine zI ?_ ?_<;>intro hc8
  ·
   have hlt:k<i:=by simpa using hc8
   obtain ⟨y,hy⟩:=hS.at (show k<n by omega)
   refine Qp ?_
   refine Qd ?_
   refine Qo ?_
   refine Qx ?_
   refine Qo ?_
   refine Xt mixed kA ?_
   refine Uc (Qe rfl) rfl rfl rfl ?_
   refine Uc (Qe rfl) rfl rfl rfl ?_
   refine Uc (QE rfl rfl ZH kJ (fun hg=>kB)) rfl rfl rfl ?_
   refine Uc (Qa rfl Yp) rfl rfl rfl ?_
   refine Uc (Qc rfl Qm (fun hg=>by exact zz6 hS hy rfl)) rfl rfl rfl ?_
   refine Uc (WZ rfl rfl rfl) rfl rfl rfl ?_
   refine Uc (Qe rfl) rfl rfl rfl ?_
   refine Uc (Qe rfl) rfl rfl rfl ?_
   refine Uc (QE rfl rfl ZH kJ (fun hg=>kB)) rfl rfl rfl ?_
   refine Uc (Qa rfl Y5) rfl rfl rfl ?_
   refine Uc (Qc rfl Qm (fun hg=>by exact zz6 hS hx rfl)) rfl rfl rfl ?_
   refine Uc (Qz rfl rfl rfl) rfl rfl rfl ?_
   refine Uc (Qe rfl) rfl rfl rfl ?_
   refine VM 12 rfl rfl rfl ?_
   refine Vt (Qe rfl) (.some rfl rfl rfl rfl gbt) rfl rfl rfl ?_
   refine Vt (Qe rfl) (.some rfl rfl rfl rfl gbt) rfl rfl rfl ?_
   refine Vt (QE rfl rfl ZH kJ (fun hg=>kB)) (.some rfl rfl rfl rfl gbt) rfl rfl rfl ?_
   refine Vt (Qa rfl VJ) (.some rfl rfl rfl rfl gbt) rfl rfl rfl ?_
   refine Vt (Qc rfl Qm (fun hg=>by exact zz6 hS hy rfl)) (.some rfl rfl rfl rfl gbt) rfl rfl rfl ?_
   refine Vt (Qz rfl rfl rfl) (.some rfl rfl rfl rfl gbt) rfl rfl rfl ?_
   refine WU rfl rfl rfl rfl rfl ?_
   refine Uc (Qe rfl) rfl rfl rfl ?_
   refine VM 20 rfl rfl rfl ?_
   refine Vt (Qe rfl) (.some rfl rfl rfl rfl gbt) rfl rfl rfl ?_
   refine Vt (Qe rfl) (.some rfl rfl rfl rfl gbt) rfl rfl rfl ?_
   refine Vt (QE rfl rfl ZH kJ (fun hg=>kB)) (.some rfl rfl rfl rfl gbt) rfl rfl rfl ?_
   refine Vt (Qa rfl YA) (.some rfl rfl rfl rfl gbt) rfl rfl rfl ?_
   refine Vt (Qc rfl Qm (fun hg=>by exact zz6 hS hy rfl)) (.some rfl rfl rfl rfl gbt) rfl rfl rfl ?_
   refine Vt (Qe rfl) (.some rfl rfl rfl rfl gbt) rfl rfl rfl ?_
   refine Vt (Qe rfl) (.some rfl rfl rfl rfl gbt) rfl rfl rfl ?_
   refine Vt (QE rfl rfl ZH kJ (fun hg=>kB)) (.some rfl rfl rfl rfl gbt) rfl rfl rfl ?_
   refine Vt (Qa rfl YA) (.some rfl rfl rfl rfl gbt) rfl rfl rfl ?_
   refine Vt (Qc rfl Qm (fun hg=>by exact zz6 hS hx rfl)) (.some rfl rfl rfl rfl gbt) rfl rfl rfl ?_
   refine Vt (Qz rfl rfl rfl) (.some rfl rfl rfl rfl gbt) rfl rfl rfl ?_
   refine WU rfl rfl rfl rfl rfl ?_
   refine Xw ?_
   refine Qd ?_
   refine zI ?_ ?_<;>intro hc43
   ·
    refine zR ?_
    refine zA ?_
    refine zN ?_
    refine Qs ?_
    refine Qk ?_
    refine Qf ?_
    refine Qf ?_
    refine Qk ?_
    refine Qf ?_
    exact Qy rfl rfl (fun w hw=>⟨by (rw [show zgg (xs.take i) x=true from zeK hy hlt hc43]),hw.drop⟩)
   ·
    refine Qp ?_
    refine Qj ?_
    refine Qd ?_
    refine Qi ?_
    refine zM ?_
    refine zV (YE rfl rfl rfl (fun _=>kB)) ?_
    refine zA ?_
    refine Qb ?_
    exact WB _ ⟨i-(k+1),kB,k+1,rfl,rfl,rfl,rfl,kB,zaM hy hinv hc43⟩ (.cons rfl (.cons rfl (.cons rfl .nil)))
  ·
   have hge:i≤k:=by simpa using hc8
   refine Q6 ?_
   refine Qn ?_
   refine Qn ?_
   refine Qw ?_
   exact WB _ ⟨rfl,rfl,rfl,by rw [show i=k from by omega];exact hinv⟩ (.cons rfl (.cons rfl .nil))
 ·
  rintro E I' loc' ⟨rfl,rfl,rfl,hfin⟩
  refine zR ?_
  refine zA ?_
  refine zN ?_
  refine Qs ?_
  exact Qy rfl rfl (fun w hw=>⟨by (rw [hfin]),hw.drop⟩)
theorem zfT {I:Qu}{av:Option Addr}{n c:Nat}{xs:List Rt}(hS:Sl I 11 encR av n c xs)(hn:n≤100000){i:Nat}{x:Rt}(hx:xs[i]? =some x):ZA Tryz.prog 149 [.slice av n c,.int .i64 i] I (.bool (Wr xs i)):=by
 intro g H w hw
 refine enter Tryz.func149 rfl Tryz.ntmps149 rfl hw ?_
 refine Qo ?_
 have hi:i<n:=by have:=(List.getElem?_eq_some_iff.1 hx).1;rw [hS.len] at this;exact this
 obtain ⟨y,hy⟩:=hS.at (show ((i:Int)-1).toNat<n by omega)
 have hright:Wr xs i=VW i (xs.take i) y x:=by unfold Wr zcQ;rw [hx,hy];rfl
 have Hright:=Lib.hid hright;clear hright
 refine Qi ?_
 refine zA ?_
 refine zN (zR ?_)
 refine zM ?_
 refine zM ?_
 refine zV (QE rfl rfl ZH kJ (fun hg=>kB)) ?_
 refine zV (Qg rfl Ys (fun hg=>by exact zz5 hS hx) rfl) ?_
 refine Qr zaw rfl rfl (fun b_5=>?_)
 refine Jd rfl rfl UC rfl rfl rfl rfl kR ?_
 refine zN ?_
 refine Qo ?_
 refine Qo ?_
 refine Xt mixed kA ?_
 refine Uc (Qa rfl Yp) rfl rfl rfl ?_
 refine Uc (Qc rfl Qm (fun hg=>by exact QA.h0 rfl)) rfl rfl rfl ?_
 refine UO (cap:=[]) (vs:=[_,_,_]) rfl rfl Kv (Yl I _ _ _) rfl rfl ?_
 refine Uc (Zs rfl) rfl rfl rfl ?_
 refine Uc (Qe rfl) rfl rfl rfl ?_
 refine V1 4 rfl rfl rfl ?_
 refine Vt (Qe rfl) (.some rfl rfl rfl rfl gbf) rfl rfl rfl ?_
 refine Vt (Qz rfl rfl rfl) (.some rfl rfl rfl rfl gbf) rfl rfl rfl ?_
 refine Vt (Qe rfl) (.some rfl rfl rfl rfl gbf) rfl rfl rfl ?_
 refine VM 7 rfl rfl rfl ?_
 refine Vt (Qa rfl Yp) (.some rfl rfl rfl rfl gbt) rfl rfl rfl ?_
 refine Vt (Qc rfl Qm (fun hg=>by exact QA.h0 rfl)) (.some rfl rfl rfl rfl gbt) rfl rfl rfl ?_
 refine Vt (Qe rfl) (.some rfl rfl rfl rfl gbt) rfl rfl rfl ?_
 refine Vt (Qe rfl) (.some rfl rfl rfl rfl gbt) rfl rfl rfl ?_
 refine Vt (YE rfl rfl rfl (fun _=>kB)) (.some rfl rfl rfl rfl gbt) rfl rfl rfl ?_
 refine Vt (QE rfl rfl ZH kJ (fun hg=>by (simp [Yf] at hg;omega))) (.some rfl rfl rfl rfl gbt) rfl rfl rfl ?_
 refine Vt (Qa rfl Yp) (.some rfl rfl rfl rfl gbt) rfl rfl rfl ?_
 refine Vt (Qc rfl Qm (fun hg=>by exact zz6 hS (k:=((i:Int)-1).toNat) hy rfl)) (.some rfl rfl rfl rfl gbt) rfl rfl rfl ?_
 refine Vt (Qz rfl rfl rfl) (.some rfl rfl rfl rfl gbt) rfl rfl rfl ?_
 refine zby rfl rfl rfl (.some rfl rfl rfl rfl gbf) rfl rfl ?_
 refine UX rfl rfl rfl rfl rfl ?_
 refine Uc (Qe rfl) rfl rfl rfl ?_
 refine V1 19 rfl rfl rfl ?_
 refine Vt (Qa rfl YA) (.some rfl rfl rfl rfl gbf) rfl rfl rfl ?_
 refine Vt (Qc rfl Qm (fun hg=>by exact QA.h0 rfl)) (.some rfl rfl rfl rfl gbf) rfl rfl rfl ?_
 refine JL (cap:=[]) (vs:=[_,_,_]) rfl rfl Kv (fun hg=>Yl I _ _ _) (.some rfl rfl rfl rfl gbf) rfl rfl ?_
 refine Vt (Zs rfl) (.some rfl rfl rfl rfl gbf) rfl rfl rfl ?_
 refine UX rfl rfl rfl rfl rfl ?_
 refine Xw ?_
 refine Qd ?_
 refine zI ?_ ?_<;>intro hc34
 ·
  refine zR ?_
  refine zA ?_
  refine zN ?_
  refine Qs ?_
  refine Qf ?_
  exact Qy rfl rfl (fun w hw=>⟨by rw [Hright.out];first | (simp only [VW,WJ,Wk, *,if_true,if_false,Bool.false_eq_true];done) | (simp only [VW,WJ,Wk, *,if_true,if_false,Bool.false_eq_true];rfl),hw.drop⟩)
 ·
  refine Qp ?_
  refine Qd ?_
  refine Qo ?_
  refine zR ?_
  refine zF VJ ?_
  refine zV (Qc rfl Qm (fun hg=>by exact QA.h0 rfl)) ?_
  refine zN ?_
  refine Qx ?_
  refine zR ?_
  refine zC ?_
  refine zA ?_
  refine zN ?_
  refine zI ?_ ?_<;>intro hc37
  ·
   refine zR ?_
   refine zV (Qg rfl Ys (fun hg=>by exact Cells.g0) rfl) ?_
   refine VI (cap:=[]) (vs:=[_]) rfl rfl zfN (zl6 I x) rfl rfl ?_
   refine zM ?_
   refine Qq 2 rfl rfl rfl ?_
   refine zK (Qa rfl Jw) ?_
   refine zK (Qc rfl Qm (fun hg=>by exact QA.h0 rfl)) ?_
   refine Z2 (cap:=[]) (vs:=[_,_,_]) rfl rfl Kv (fun hg=>Yl I _ _ _) (.some rfl rfl rfl rfl gbt) rfl rfl ?_
   refine QB rfl rfl rfl rfl rfl ?_
   refine zM ?_
   refine Qq 7 rfl rfl rfl ?_
   refine zK (Qa rfl Ju) ?_
   refine zK (Qc rfl VS (fun hg=>by exact QA.h0 rfl)) ?_
   refine Z2 (cap:=[]) (vs:=[_]) rfl rfl zl9 (fun hg=>zrd I _) (.some rfl rfl rfl rfl gbt) rfl rfl ?_
   refine QB rfl rfl rfl rfl rfl ?_
   refine zM ?_
   refine Qq 12 rfl rfl rfl ?_
   refine zK (Qa rfl JE) ?_
   refine zK (Qc rfl VS (fun hg=>by exact QA.h0 rfl)) ?_
   refine Z2 (cap:=[]) (vs:=[_]) rfl rfl zl9 (fun hg=>zrd I _) (.some rfl rfl rfl rfl gbt) rfl rfl ?_
   refine QB rfl rfl rfl rfl rfl ?_
   refine zM ?_
   refine Qq 17 rfl rfl rfl ?_
   refine zK (Qa rfl Kd) ?_
   refine zK (Qc rfl Qm (fun hg=>by exact QA.h0 rfl)) ?_
   refine zK (Qz rfl rfl rfl) ?_
   refine QB rfl rfl rfl rfl rfl ?_
   refine zM ?_
   refine Qq 22 rfl rfl rfl ?_
   refine zK (Qa rfl Kc) ?_
   refine zK (Qc rfl Qm (fun hg=>by exact QA.h0 rfl)) ?_
   refine zK (Qz rfl rfl rfl) ?_
   refine QB rfl rfl rfl rfl rfl ?_
   refine zM ?_
   refine Qq 27 rfl rfl rfl ?_
   refine zK (Qa rfl Y5) ?_
   refine zK (Qc rfl Qm (fun hg=>by exact QA.h0 rfl)) ?_
   refine zK (Qz rfl rfl rfl) ?_
   refine QB rfl rfl rfl rfl rfl ?_
   refine zA ?_
   refine zN ?_
   refine Qs ?_
   refine Qk ?_
   refine Qf ?_
   exact Qy rfl rfl (fun w hw=>⟨by rw [Hright.out];first | (simp only [VW,WJ,Wk, *,if_true,if_false,Bool.false_eq_true];done) | (simp only [VW,WJ,Wk, *,if_true,if_false,Bool.false_eq_true];rfl),hw.drop⟩)
  ·
   refine zR ?_
   refine zC ?_
   refine zA ?_
   refine zN ?_
   refine zI ?_ ?_<;>intro hc71
   ·
    refine zR ?_
    refine zV (Qg rfl Ys (fun hg=>by exact Cells.g0) rfl) ?_
    refine VI (cap:=[]) (vs:=[_]) rfl rfl zfN (zl6 I x) rfl rfl ?_
    refine zM ?_
    refine Qq 2 rfl rfl rfl ?_
    refine zK (Qa rfl Jw) ?_
    refine zK (Qc rfl Qm (fun hg=>by exact QA.h0 rfl)) ?_
    refine Z2 (cap:=[]) (vs:=[_,_,_]) rfl rfl Kv (fun hg=>Yl I _ _ _) (.some rfl rfl rfl rfl gbt) rfl rfl ?_
    refine QB rfl rfl rfl rfl rfl ?_
    refine zM ?_
    refine Qq 7 rfl rfl rfl ?_
    refine zK (Qa rfl Kd) ?_
    refine zK (Qc rfl Qm (fun hg=>by exact QA.h0 rfl)) ?_
    refine Z2 (cap:=[]) (vs:=[_,_,_]) rfl rfl Kv (fun hg=>Yl I _ _ _) (.some rfl rfl rfl rfl gbt) rfl rfl ?_
    refine QB rfl rfl rfl rfl rfl ?_
    refine zM ?_
    refine Qq 12 rfl rfl rfl ?_
    refine zK (Qa rfl Kc) ?_
    refine zK (Qc rfl Qm (fun hg=>by exact QA.h0 rfl)) ?_
    refine Z2 (cap:=[]) (vs:=[_,_,_]) rfl rfl Kv (fun hg=>Yl I _ _ _) (.some rfl rfl rfl rfl gbt) rfl rfl ?_
    refine QB rfl rfl rfl rfl rfl ?_
    refine zM ?_
    refine Qq 17 rfl rfl rfl ?_
    refine zK (Qa rfl Ju) ?_
    refine zK (Qc rfl VS (fun hg=>by exact QA.h0 rfl)) ?_
    refine zK (Ky rfl rfl rfl) ?_
    refine QB rfl rfl rfl rfl rfl ?_
    refine zM ?_
    refine Qq 22 rfl rfl rfl ?_
    refine zK (Qa rfl JE) ?_
    refine zK (Qc rfl VS (fun hg=>by exact QA.h0 rfl)) ?_
    refine zK (Ky rfl rfl rfl) ?_
    refine QB rfl rfl rfl rfl rfl ?_
    refine zM ?_
    refine Qq 27 rfl rfl rfl ?_
    refine zK (Qa rfl Y5) ?_
    refine zK (Qc rfl Qm (fun hg=>by exact QA.h0 rfl)) ?_
    refine zK (Qz rfl rfl rfl) ?_
    refine QB rfl rfl rfl rfl rfl ?_
    refine zA ?_
    refine zN ?_
    refine Qs ?_
    refine Qk ?_
    refine Qf ?_
    exact Qy rfl rfl (fun w hw=>⟨by rw [Hright.out];first | (simp only [VW,WJ,Wk, *,if_true,if_false,Bool.false_eq_true];done) | (simp only [VW,WJ,Wk, *,if_true,if_false,Bool.false_eq_true];rfl),hw.drop⟩)
   ·
    refine zR ?_
    refine zC ?_
    refine zA ?_
    refine zN ?_
    refine zI ?_ ?_<;>intro hc105
    ·
     refine zR ?_
     refine zV (Qg rfl Ys (fun hg=>by exact Cells.g0) rfl) ?_
     refine VI (cap:=[]) (vs:=[_]) rfl rfl zfN (zl6 I x) rfl rfl ?_
     refine zM ?_
     refine Qq 2 rfl rfl rfl ?_
     refine zK (Qa rfl Jw) ?_
     refine zK (Qc rfl Qm (fun hg=>by exact QA.h0 rfl)) ?_
     refine Z2 (cap:=[]) (vs:=[_,_,_]) rfl rfl Kv (fun hg=>Yl I _ _ _) (.some rfl rfl rfl rfl gbt) rfl rfl ?_
     refine QB rfl rfl rfl rfl rfl ?_
     refine zM ?_
     refine Qq 7 rfl rfl rfl ?_
     refine zK (Qa rfl Kd) ?_
     refine zK (Qc rfl Qm (fun hg=>by exact QA.h0 rfl)) ?_
     refine Z2 (cap:=[]) (vs:=[_,_,_]) rfl rfl Kv (fun hg=>Yl I _ _ _) (.some rfl rfl rfl rfl gbt) rfl rfl ?_
     refine QB rfl rfl rfl rfl rfl ?_
     refine zM ?_
     refine Qq 12 rfl rfl rfl ?_
     refine zK (Qa rfl Kc) ?_
     refine zK (Qc rfl Qm (fun hg=>by exact QA.h0 rfl)) ?_
     refine Z2 (cap:=[]) (vs:=[_,_,_]) rfl rfl Kv (fun hg=>Yl I _ _ _) (.some rfl rfl rfl rfl gbt) rfl rfl ?_
     refine QB rfl rfl rfl rfl rfl ?_
     refine zM ?_
     refine Qq 17 rfl rfl rfl ?_
     refine zK (Qa rfl Ju) ?_
     refine zK (Qc rfl VS (fun hg=>by exact QA.h0 rfl)) ?_
     refine zK (Ky rfl rfl rfl) ?_
     refine QB rfl rfl rfl rfl rfl ?_
     refine zM ?_
     refine Qq 22 rfl rfl rfl ?_
     refine zK (Qa rfl JE) ?_
     refine zK (Qc rfl VS (fun hg=>by exact QA.h0 rfl)) ?_
     refine zK (Ky rfl rfl rfl) ?_
     refine QB rfl rfl rfl rfl rfl ?_
     refine zM ?_
     refine Qq 27 rfl rfl rfl ?_
     refine zK (Qa rfl Y5) ?_
     refine zK (Qc rfl Qm (fun hg=>by exact QA.h0 rfl)) ?_
     refine zK (Qz rfl rfl rfl) ?_
     refine QB rfl rfl rfl rfl rfl ?_
     refine zA ?_
     refine zN ?_
     refine Qs ?_
     refine Qk ?_
     refine Qf ?_
     exact Qy rfl rfl (fun w hw=>⟨by rw [Hright.out];first | (simp only [VW,WJ,Wk, *,if_true,if_false,Bool.false_eq_true];done) | (simp only [VW,WJ,Wk, *,if_true,if_false,Bool.false_eq_true];rfl),hw.drop⟩)
    ·
     refine zR ?_
     refine zC ?_
     refine zA ?_
     refine zN ?_
     refine zI ?_ ?_<;>intro hc139
     ·
      refine zR ?_
      refine zM ?_
      refine zM ?_
      refine VI (cap:=[]) (vs:=[_,_]) rfl rfl zup (zwt hS hn hx) rfl rfl ?_
      refine zM ?_
      refine Qq 3 rfl rfl rfl ?_
      refine zK (Qa rfl Jw) ?_
      refine zK (Qc rfl Qm (fun hg=>by exact QA.h0 rfl)) ?_
      refine zK (Qz rfl rfl rfl) ?_
      refine QB rfl rfl rfl rfl rfl ?_
      refine zM ?_
      refine Qq 8 rfl rfl rfl ?_
      refine zK (Qa rfl Kd) ?_
      refine zK (Qc rfl Qm (fun hg=>by exact QA.h0 rfl)) ?_
      refine zK (Qz rfl rfl rfl) ?_
      refine QB rfl rfl rfl rfl rfl ?_
      refine zM ?_
      refine Qq 13 rfl rfl rfl ?_
      refine zK (Qa rfl Kc) ?_
      refine zK (Qc rfl Qm (fun hg=>by exact QA.h0 rfl)) ?_
      refine zK (Qz rfl rfl rfl) ?_
      refine QB rfl rfl rfl rfl rfl ?_
      refine zM ?_
      refine Qq 18 rfl rfl rfl ?_
      refine zK (Qa rfl Ju) ?_
      refine zK (Qc rfl VS (fun hg=>by exact QA.h0 rfl)) ?_
      refine zK (Ky rfl rfl rfl) ?_
      refine QB rfl rfl rfl rfl rfl ?_
      refine zM ?_
      refine Qq 23 rfl rfl rfl ?_
      refine zK (Qa rfl JE) ?_
      refine zK (Qc rfl VS (fun hg=>by exact QA.h0 rfl)) ?_
      refine zK (Ky rfl rfl rfl) ?_
      refine QB rfl rfl rfl rfl rfl ?_
      refine zM ?_
      refine Qq 28 rfl rfl rfl ?_
      refine zK (Qa rfl Ka) ?_
      refine zK (Qc rfl Qm (fun hg=>by exact QA.h0 rfl)) ?_
      refine zK (Qz rfl rfl rfl) ?_
      refine QB rfl rfl rfl rfl rfl ?_
      refine zM ?_
      refine Qq 33 rfl rfl rfl ?_
      refine zK (Qa rfl JG) ?_
      refine zK (Qc rfl Qm (fun hg=>by exact QA.h0 rfl)) ?_
      refine zK (Qz rfl rfl rfl) ?_
      refine QB rfl rfl rfl rfl rfl ?_
      refine zA ?_
      refine zN ?_
      refine Qs ?_
      refine Qk ?_
      refine Qf ?_
      exact Qy rfl rfl (fun w hw=>⟨by rw [Hright.out];first | (simp only [VW,WJ,Wk, *,if_true,if_false,Bool.false_eq_true];done) | (simp only [VW,WJ,Wk, *,if_true,if_false,Bool.false_eq_true];rfl),hw.drop⟩)
     ·
      refine Qp ?_
      refine Qj ?_
      refine Qd ?_
      refine zR ?_
      refine zA ?_
      refine zN ?_
      refine Qs ?_
      exact Qy rfl rfl (fun w hw=>⟨by rw [Hright.out];first | (simp only [VW,WJ,Wk, *,if_true,if_false,Bool.false_eq_true];done) | (simp only [VW,WJ,Wk, *,if_true,if_false,Bool.false_eq_true];rfl),hw.drop⟩)
theorem w_rcheck {I:Qu}{av:Option Addr}{n c:Nat}{xs:List Rt}(hS:Sl I 11 encR av n c xs)(hn:n≤100000):ZA Tryz.prog 78 [.slice av n c] I (.int .i64 (fCheck xs)):=by
 intro g H w hw
 refine enter Tryz.func78 rfl Tryz.ntmps78 rfl hw ?_
 refine zR ?_
 refine zA ?_
 refine zN ?_
 refine Qo ?_
 refine zR ?_
 refine zM ?_
 refine zQ ZH ?_
 refine zC ?_
 refine zN ?_
 refine zI ?_ ?_<;>intro hc6
 ·
  have h5:xs.length>512:=by rw [hS.len];simp at hc6;omega
  refine zR ?_
  refine zA ?_
  refine zN ?_
  refine Qs ?_
  refine Qf ?_
  exact Qy rfl rfl (fun w hw=>⟨by unfold fCheck;first | (rw [if_pos h5]) | (rw [if_neg h5,if_pos hfin]) | (rw [if_neg h5,if_neg];intro hall;rw [List.all_eq_true] at hall;have:=hall k (List.mem_range.2 (by rw [hS.len];exact hlt));rw [this] at hc16;cases hc16),hw.drop⟩)
 ·
  have h5:¬xs.length>512:=by rw [hS.len];simp at hc6;omega
  refine Qp ?_
  refine Qd ?_
  refine zoK (fun E I' loc'=>E=[(0,.slice av n c)]∧I'=I∧loc'=[]∧(List.range xs.length).all (Wr xs)=true) ?_ ?_
  ·
   refine zR ?_
   refine zA ?_
   refine zN ?_
   refine Qx ?_
   refine zgM (fun m E I' loc'=>∃ k:Nat,m=n-k∧E=[(0,.slice av n c),(3,.int .i64 k)]∧I'=I∧loc'=[]∧k≤n∧(List.range k).all (Wr xs)=true) _ _ _ _ ⟨0,rfl,rfl,rfl,rfl,Nat.zero_le _,rfl⟩ (.cons rfl (.cons rfl .nil)) (zz4 _) rfl ?_
   rintro m E I' loc' ⟨k,rfl,rfl,rfl,rfl,hk,hinv⟩
   refine Qo ?_
   refine zR ?_
   refine zM ?_
   refine zM ?_
   refine zQ ZH ?_
   refine zC ?_
   refine zN ?_
   refine zI ?_ ?_<;>intro hc10
   ·
    have hlt:k<n:=by simpa using hc10
    obtain ⟨x,hx⟩:=hS.at hlt
    refine Qp ?_
    refine Qd ?_
    refine Qo ?_
    refine Qx ?_
    refine zR ?_
    refine zM ?_
    refine zM ?_
    refine VI (cap:=[]) (vs:=[_,_]) rfl rfl zsg (zfT hS hn hx) rfl rfl ?_
    refine zO ?_
    refine zN ?_
    refine zI ?_ ?_<;>intro hc16
    ·
     refine zR ?_
     refine zA ?_
     refine zN ?_
     refine Qs ?_
     refine Qk ?_
     refine Qf ?_
     refine Qf ?_
     refine Qk ?_
     refine Qf ?_
     exact Qy rfl rfl (fun w hw=>⟨by unfold fCheck;first | (rw [if_pos h5]) | (rw [if_neg h5,if_pos hfin]) | (rw [if_neg h5,if_neg];intro hall;rw [List.all_eq_true] at hall;have:=hall k (List.mem_range.2 (by rw [hS.len];exact hlt));rw [this] at hc16;cases hc16),hw.drop⟩)
    ·
     refine Qp ?_
     refine Qj ?_
     refine Qd ?_
     refine Qi ?_
     refine zM ?_
     refine zV (YE rfl rfl rfl (fun _=>kB)) ?_
     refine zA ?_
     refine Qb ?_
     exact WB _ ⟨n-(k+1),kB,k+1,rfl,rfl,rfl,rfl,kB,by rw [List.range_succ,List.all_append,hinv];simpa using hc16⟩ (.cons rfl (.cons rfl .nil))
   ·
    have hge:n≤k:=by simpa using hc10
    refine Q6 ?_
    refine Qn ?_
    refine Qn ?_
    refine Qw ?_
    exact WB _ ⟨rfl,rfl,rfl,(by rw [show xs.length=k from by rw [hS.len];omega];exact hinv)⟩ (.cons rfl .nil)
  ·
   rintro E I' loc' ⟨rfl,rfl,rfl,hfin⟩
   refine zR ?_
   refine zA ?_
   refine zN ?_
   refine Qs ?_
   exact Qy rfl rfl (fun w hw=>⟨by unfold fCheck;first | (rw [if_pos h5]) | (rw [if_neg h5,if_pos hfin]) | (rw [if_neg h5,if_neg];intro hall;rw [List.all_eq_true] at hall;have:=hall k (List.mem_range.2 (by rw [hS.len];exact hlt));rw [this] at hc16;cases hc16),hw.drop⟩)
end
end Go.Proofs.YtjblkbkmblkgoaaGreat.S
