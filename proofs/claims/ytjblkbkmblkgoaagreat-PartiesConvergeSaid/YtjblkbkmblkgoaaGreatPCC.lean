/- partiesConverge_holds, part C of the proof: what its theorems say holds without further conditions. -/
import Derived.Lib.Hide
import Derived.Shelf.SlSortCmp.WholeK
import Derived.Test.YtjblkbkmblkgoaaGreatProg
import Derived.KernelRfl
import Derived.Test.YtjblkbkmblkgoaaGreatPCB
section
namespace Go.Proofs.YtjblkbkmblkgoaaGreat
open Go Go.Kn Go.Proofs
structure Lm where
 no:Int
 person:Int
 ends:Int
 lo:Int
 hi:Int
 known:Int
 ck:Int
 cl:Int
 cn:Int
def ZJ (x:Lm):List Value:=[.int .i64 x.no,.int .i64 x.person,.int .i64 x.ends,.int .i64 x.lo,.int .i64 x.hi,.int .i64 x.known,.int .i64 x.ck,.int .i64 x.cl,.int .i64 x.cn]
def Jq (x:Lm):Value:=.agg (ZJ x).toArray
theorem Yt (x:Lm):(ZJ x).length=9:=rfl
theorem zoA (xs:List Lm):YZ (xs.flatMap ZJ)=true:=YV (fun _=>rfl) xs
def V3:Lm:=⟨0,0,0,0,0,0,0,0,0⟩
def zv1 (x y:Lm):Bool:=x.no==y.no&&(x.person==y.person&&(x.ends==y.ends&&(x.lo==y.lo&&(x.hi==y.hi&&(x.known==y.known&&((x.ck==y.ck&&(x.cl==y.cl&&(x.cn==y.cn&&true)))&&true))))))
theorem zmB {x y:Lm}:zv1 x y=true↔x=y:=by
 obtain ⟨a1,a2,a3,a4,a5,a6,a7,a8,a9⟩:=x
 obtain ⟨b1,b2,b3,b4,b5,b6,b7,b8,b9⟩:=y
 simp [zv1]
instance : DecidableEq Lm := fun a b => decidable_of_iff (zv1 a b = true) zmB
def zb4 (n lo hi:Int):Bool:=decide (lo≤n)&&decide (n≤hi)
def zfk (lo hi:Int)(xs:List Int):Bool:=xs.all fun n=> !(decide (n<lo)||decide (n>hi))
theorem Wk (lo hi n:Int):zfk lo hi [n]=zb4 n lo hi:=by
 simp only [zfk,List.all_cons,List.all_nil,Bool.and_true,zb4]
 rw [Bool.eq_iff_iff];simp
def zvY:List (Int×Int×Int):=[(0,0,0),(1,3,2),(1,1048576,2),(1,16,0),(0,16,0),(0,500,0),(0,1048576,0)]
def Wg (k:Int):Int×Int×Int:=zvY.getD k.toNat (0,0,0)
def zoi (ck cl cn:Int):Bool:=if zb4 ck 1 6 then (if zb4 cl 0 (Wg ck).2.2 then zb4 cn (Wg ck).1 (Wg ck).2.1 else false) else false
theorem zpx {ck cl cn:Int}(h:zb4 ck 1 6=false):zoi ck cl cn=false:=by unfold zoi;rw [h];rfl
theorem zjl {ck cl cn:Int}(h:zb4 ck 1 6=true)(h2:zb4 cl 0 (Wg ck).2.2=false):zoi ck cl cn=false:=by unfold zoi;rw [h,h2];rfl
theorem zl3 {ck cl cn:Int}(h:zb4 ck 1 6=true)(h2:zb4 cl 0 (Wg ck).2.2=true):zoi ck cl cn=zb4 cn (Wg ck).1 (Wg ck).2.1:=by unfold zoi;rw [h,h2];rfl
theorem six {ck:Int}(h:zb4 ck 1 6=true):ck=1∨ck=2∨ck=3∨ck=4∨ck=5∨ck=6:=by
 simp only [zb4,Bool.and_eq_true,decide_eq_true_eq] at h;omega
def knM (pre:List Lm):List (Int×Lm):=pre.foldl (fun m y=>JJ m y.no y) []
def rpM (pre:List Lm):List (Int×Bool):=pre.foldl (fun m y=>JJ m y.ends true) []
def zep (pre:List Lm):Int:=match pre.getLast? with | none=> -1 | some y=>y.no
theorem WL (pre:List Lm)(x:Lm):knM (pre++[x])=JJ (knM pre) x.no x:=by simp [knM]
theorem WD (pre:List Lm)(x:Lm):rpM (pre++[x])=JJ (rpM pre) x.ends true:=by simp [rpM]
theorem Kw (pre:List Lm)(x:Lm):zep (pre++[x])=x.no:=by simp [zep]
def zlX (pre:List Lm)(x:Lm):Option Lm:=ZS (knM pre) (IntKind.i64.wrap (x.ends-1))
def zvb (last:Int)(x:Lm):Bool:=(decide (x.no≤last)||decide (x.no>1048576))|| !zb4 x.person 0 63
def zst (x:Lm):Bool:=((decide (x.lo<0)||decide (x.lo>x.hi))||decide (x.hi>73048))|| !zb4 x.known 0 134217727
def zuY (x:Lm):Bool:= !zoi x.ck x.cl x.cn&&(!(x.ck==0&&(x.cl==0&&(x.cn==0&&true)))||x.ends==0)
def zu0 (met rep:Bool)(old x:Lm):Bool:=(x.ends != 0)&&(((!met||rep)||old.person != x.person)||decide (old.known>x.known))
def zfv (pre:List Lm)(x:Lm):Bool:=zvb (zep pre) x||zst x||zuY x||zu0 (zlX pre x).isSome ((ZS (rpM pre) x.ends).getD false) ((zlX pre x).getD V3) x
def zh0 (xs:List Lm):Int:=if xs.length>512 then 2 else if (List.range xs.length).any (fun k=>zfv (xs.take k) (xs.getD k V3)) then 340 else 0
end Go.Proofs.YtjblkbkmblkgoaaGreat
namespace Go.Proofs.YtjblkbkmblkgoaaGreat
open Go Go.Kn Go.Proofs
def zhr (v:Value):List Value:=[v]
theorem zet (v:Value):(zhr v).length=1:=rfl
section
variable {α β:Type} [DecidableEq α] {C:Cx} {E:Env} {I:Qv} {loc:Go.Kn.Loc} {S:GS} {dst:Option Tmp} {ty:TypeId} {pos:String} {af:Array Edge} {gd:Option (Nat×Bool)} {x y:Operand} {m:List (α×β)} {a:α} {ek:α→Value} {ev:β→Value}
theorem zdx {t k e r:Nat}{zv:Value}(z v:β)(b:Bool)(hz:ev z=zv)(hv:(ZS m a).getD z=v)(hb:(ZS m a).isSome=b)(hT:MpT C.P t k e zv)(hK:Kk C.P k ek)(hx:QH S E x=some (.map (some r)))(hy:QH S E y=some (ek a))(hm:YC S=true→Mem I loc r (YD ek ev m)):
  Zb C S E I loc ⟨dst,.lookup t x y true,ty,pos,af,gd⟩ (.tuple #[ev v,.bool b]):=by
 have:=Z9 (C:=C) (S:=S) (dst:=dst) (ty:=ty) (pos:=pos) (af:=af) (gd:=gd) hT hK hx hy hm
 subst hv;subst hb;subst hz
 cases h:ZS m a with
 | none=>rw [h] at this;exact this
 | some v=>rw [h] at this;exact this
end
theorem zl6 {xs:List Lm}(h:xs.length>512):zh0 xs=2:=by unfold zh0;rw [if_pos h]
theorem XV {xs:List Lm}{k:Nat}{x:Lm}(h:¬xs.length>512)(hx:xs[k]? =some x)(hb:zfv (xs.take k) x=true):zh0 xs=340:=by
 unfold zh0;rw [if_neg h,if_pos]
 rw [List.any_eq_true]
 refine ⟨k,List.mem_range.2 (List.getElem?_eq_some_iff.1 hx).1,?_⟩
 rw [List.getD_eq_getElem?_getD,hx];exact hb
theorem zpg {xs:List Lm}(h:¬xs.length>512)(ha:∀ k x,k<xs.length→xs[k]? =some x→zfv (xs.take k) x=false):zh0 xs=0:=by
 unfold zh0;rw [if_neg h,if_neg]
 rw [List.any_eq_true]
 rintro ⟨k,hk,hb⟩
 have hk:=List.mem_range.1 hk
 have hx:xs[k]? =some (xs[k]):=List.getElem?_eq_getElem hk
 have:=ha k _ hk hx
 rw [List.getD_eq_getElem?_getD,hx] at hb
 rw [show ((some xs[k]:Option Lm).getD V3)=xs[k] from rfl,this] at hb;cases hb
theorem zs8 {pre:List Lm}{x:Lm}(h:zvb (zep pre) x=true):zfv pre x=true:=by simp [zfv,h]
theorem zub {pre:List Lm}{x:Lm}(h:zst x=true):zfv pre x=true:=by simp [zfv,h]
theorem zuX {pre:List Lm}{x:Lm}(h:zuY x=true):zfv pre x=true:=by simp [zfv,h]
theorem zsa {pre:List Lm}{x:Lm}(h:zu0 (zlX pre x).isSome ((ZS (rpM pre) x.ends).getD false) ((zlX pre x).getD V3) x=true):zfv pre x=true:=by simp [zfv,h]
theorem zqc {pre:List Lm}{x:Lm}(h1:zvb (zep pre) x=false)(h2:zst x=false)(h3:zuY x=false)(h4:zu0 (zlX pre x).isSome ((ZS (rpM pre) x.ends).getD false) ((zlX pre x).getD V3) x=false):zfv pre x=false:=by simp [zfv,h1,h2,h3,h4]
theorem ZD {α:Type}{xs:List α}{k:Nat}{x:α}(h:xs[k]? =some x):xs.take (k+1)=xs.take k++[x]:=by rw [List.take_add_one,h];rfl
theorem KO {α:Type}{P:Nat→α→Prop}{xs:List α}{k:Nat}{x:α}(hx:xs[k]? =some x)(hall:∀ j y,j<k→xs[j]? =some y→P j y)(hk:P k x):∀ j y,j<k+1→xs[j]? =some y→P j y:=fun j y hj hy=>by
 rcases Nat.lt_or_ge j k with h | h
 ·
  exact hall j y h hy
 ·
  obtain rfl:j=k:=by omega
  rw [hx] at hy;cases hy;exact hk
end Go.Proofs.YtjblkbkmblkgoaaGreat
end
namespace Go.Kn
section
open Go
section
variable {g:World} {I I' H:Qv} {loc loc' L K A B:Loc} {w w':World}
theorem St.join2 (h:St g I (Jw H L) K w)(hn:(L.map (·.1)).Nodup)(hd:∀ b o,(b,o)∈L→H b=none):St g I H (K++L) w:=by
 have h':=h.swap hn hd
 have hK:∀ b o,(b,o)∈K→H b=none:=fun b o hm=>(Uh (h.sepIL b o hm).2).1
 refine ⟨h.os,h.tape,h.out,h.size,h.imm,fun b o e=>?_,fun b o hm=>?_,fun b=>?_,fun b o hm=>?_,?_⟩
 ·
  refine h.frm b o ?_
  rw [Wf (fun p hp=>by rw [hd b p hp] at e;cases e)];exact e
 ·
  rcases List.mem_append.1 hm with hm | hm
  ·
   exact h.own b o hm
  ·
   exact h'.own b o hm
 ·
  rcases h.sepIH b with e | e
  ·
   exact .inl e
  ·
   exact .inr (Uh e).1
 ·
  rcases List.mem_append.1 hm with hm | hm
  ·
   exact ⟨(h.sepIL b o hm).1,hK b o hm⟩
  ·
   exact ⟨(h'.sepIL b o hm).1,hd b o hm⟩
 ·
  rw [List.map_append,List.nodup_append]
  refine ⟨h.nodup,hn,fun x hx y hy e=>?_⟩
  subst e
  obtain ⟨⟨b,o⟩,hm,rfl⟩:=List.mem_map.1 hx
  obtain ⟨⟨c,p⟩,hm',e⟩:=List.mem_map.1 hy
  simp only at e;subst e
  exact (Uh (h.sepIL _ _ hm).2).2 p hm'
theorem St.permL (h:St g I H loc w)(hp:loc'.Perm loc):St g I H loc' w:=h.perm (fun p=>hp.mem_iff) ((hp.map (·.1)).nodup_iff.2 h.nodup)
end
theorem zbZ {A B C:Loc}(h:Kj B C):Kj (A++B) (A++C):=by
 induction A with
 | nil=>exact h
 | cons x l ih=>exact .keep ih
def zic {α:Type}(g:World)(Z:Loc)(Jc:List α→Qv→Qv→Loc→Prop)(Jx:Code→List α→Qv→Qv→Loc→Prop)(pre:List α):Exit→Act→World→Prop
 | .normal,_,w=>∃ I H L,Jc pre I H L∧St g I H (L++Z) w
 | .ret,_,w=>∃ I H L,Jx .ret pre I H L∧St g I H (L++Z) w
 | .exit id,_,w=>∃ I H L,Jx (.exit id) pre I H L∧St g I H (L++Z) w
 | _,_,_=>False
section
variable {α:Type} {C:Cx} {Q:Exit→Act→World→Prop} {E E':Env} {I I':Qv} {loc loc' L Z R:Loc}
variable {Jc:List α→Qv→Qv→Loc→Prop} {Jx:Code→List α→Qv→Qv→Loc→Prop} {pre:List α}
theorem zdv (h:Jc pre I C.H L)(hs:Kj (L++Z) loc):At C (zic C.g Z Jc Jx pre) .normal E I loc:=fun _ _ _ hw=>⟨I,C.H,L,h,hw.subL hs⟩
end
section
variable {α:Type} {P:Program} {N:Nat} {g:World} {p:Nat} {assign body:Code} {f:FuncId} {cap:List Value} {rel:Value→α→Qv→Prop} {xs:List α} {E:Env} {I H:Qv} {L B:Loc}
def zsL (fn:FuncId)(tmps:Array Value)(p:Nat)(assign body:Code)(df:Nat)(st:LoopState)(pd:Option Code):Obj:=.loop {state:=st,pending:=pd,fn,tmps,params:= #[p],assign,body,defers:=df}
end
section
variable {α:Type} {P:Program} {N:Nat} {g:World} {H:Qv} {Q:Exit→Act→World→Prop} {gop:Operand} {p:Nat} {assign body:Code} {f:FuncId} {cap:List Value} {rel:Value→α→Qv→Prop} {xs:List α} {E:Env} {I:Qv} {L:Loc}
end
/-! ### A loop whose rounds may leave marks and turn the frame -/
section
variable {P:Program} {r:Option Nat} {N:Nat} {g:World} {H:Qv} {Q:Exit→Act→World→Prop} {E E':Env} {I I':Qv} {loc loc' L R:Loc} {ms:List Nat}
end
end
section
open Go
section
variable {C:Cx} {Q:Exit→Act→World→Prop} {E G:Env} {I I' I0:Qv} {loc loc' loc0 L R:Loc} {ops:Array Oper} {rest:List Oper} {S:GS}
variable {dst:Option Nat} {d:Nat} {ty:TypeId} {pos:String} {af:Array Edge} {gd:Option (Nat×Bool)} {x y z:Operand} {a b c:Int}
def zik (u:Value)(want:Bool):Bool:=match u with | .bool b=>b != want | _=>true
theorem zbl {j dj:Nat}{want:Bool}{oj o:Oper}{u:Value}{N:Nat}{D:List Deferred}{a:Act}(hg:o.guard=some (j,want))(hj:ops[j]? =some oj)(hd:oj.dst=some dj)(ha:Ko N D E a)(hl:VA E dj=some u)(hu:zik u want=true):Region.wanted o (yielded ops a.tmps)=false:=by
 have h:=ha.env _ _ hl
 simp only [Region.wanted,hg]
 cases u with
 | bool b0=>
  rw [Uj hj hd h]
  cases b0<;>cases want<;>first | rfl | cases hu
 | _=>
  have hy:yielded ops a.tmps j=none:=by
   unfold yielded
   simp only [hj,Option.bind_some,hd]
   cases e:a.tmps[dj]? with
   | none=>rfl
   | some v=>
    simp [e] at h;rw [h]
  rw [hy];rfl
theorem Vu {op:Op}{j dj:Nat}{want:Bool}{oj:Oper}{u:Value}(hj:ops[j]? =some oj)(hd:oj.dst=some dj)(hl:VA E dj=some u)(hu:zik u want=true)(hN:Nat.blt d C.N=true)
  (h:XO C Q ops rest [] ((d,undef)::E) I loc):XO C Q ops (⟨some d,op,ty,pos,af,some (j,want)⟩::rest) [] E I loc:=by
 intro a w ha hg hw
 simp only [wpListIn]
 rw [zbl (o:=⟨some d,op,ty,pos,af,some (j,want)⟩) rfl hj hd ha hl hu]
 simp only [Bool.false_eq_true,if_false]
 exact ⟨fun _ _=>trivial,h _ _ (ha.put hN undef) trivial hw⟩
theorem zmA (i:Nat){j dj fuel:Nat}{want:Bool}{oj:Oper}{listed:Array Bool}{op:Op}{u:Value}(hi:ops[i]? =some ⟨some d,op,ty,pos,af,some (j,want)⟩)(hj:ops[j]? =some oj)(hd:oj.dst=some dj)(hlk:VA E dj=some u)(hu:zik u want=true)
  (hdf:∀ c,op≠ .defer c)(hN:Nat.blt d C.N=true)
  (hs:Region.noSelect ops=true)(hfr:Region.free .any ops listed i=true)(hr:(Region.ready .any ops listed).contains i=true)(hQ:YU Q)(hI:HLe I0 I)(hl:Kj loc0 loc)
  (h:XD C Q ops I0 loc0 fuel (listed.setIfInBounds i true) [] ((d,undef)::E) I loc):XD C Q ops I0 loc0 (fuel+1) listed [] E I loc:=by
 intro a w ha hg hw
 have hp:=ha.put hN undef
 refine Y3 (v:=undef) hi hdf (Region.noSelect_spec hs) (fun c a w=>hQ c a d _ w) fuel listed a w (Region.free_spec hi hfr) (by simpa using hr) ?_ ((hw.mono hI).subL hl) (h _ _ hp trivial hw)
 exact .inr ⟨by rw [zbl (o:=⟨some d,op,ty,pos,af,some (j,want)⟩) rfl hj hd ha hlk hu],rfl⟩
theorem zW (i dj:Nat){j fuel:Nat}{want:Bool}{oj:Oper}{listed:Array Bool}{op:Op}{u:Value}(hI:HLe I0 I)(h:XD C Q ops I0 loc0 fuel (listed.setIfInBounds i true) [] ((d,undef)::E) I loc)(hi:ops[i]? =some ⟨some d,op,ty,pos,af,some (j,want)⟩:=by exact rfl)(hj:ops[j]? =some oj:=by exact rfl)(hd:oj.dst=some dj:=by exact rfl)(hlk:VA E dj=some u:=by exact rfl)(hu:zik u want=true:=by exact rfl)
  (hdf:∀ c,op≠ .defer c:=by (intro c e;cases e))(hN:Nat.blt d C.N=true:=by exact rfl)(hs:Region.noSelect ops=true:=by kernel_rfl)(hfr:Region.free .any ops listed i=true:=by kernel_rfl)(hr:(Region.ready .any ops listed).contains i=true:=by kernel_rfl)(hQ:YU Q:=by exact QK)(hl:Kj loc0 loc:=by repeat (first | exact .refl | exact Qe | refine .keep ?_ | refine .drop ?_ | refine Qf ?_)):XD C Q ops I0 loc0 (fuel+1) listed [] E I loc:=zmA i hi hj hd hlk hu hdf hN hs hfr hr hQ hI hl h
end
end
end Go.Kn
namespace Go.Proofs.YtjblkbkmblkgoaaGreat
section
open Go Go.Kn Go.Proofs
theorem zfr:AgT Tryz.prog 224 4:=.of (by kernel_rfl)
theorem zpk:AgT Tryz.prog 225 28:=.of (by kernel_rfl)
theorem zcv:ArT Tryz.prog 225 7 224 4:=.of (by kernel_rfl)
theorem ziU:QQ Tryz.prog 224 1 1:=.of (by kernel_rfl)
theorem zjR:QQ Tryz.prog 224 2 2:=.of (by kernel_rfl)
theorem zdG:QQ Tryz.prog 224 3 3:=.of (by kernel_rfl)
theorem XZ:QQ Tryz.prog 30 0 0:=.of (by kernel_rfl)
theorem X5:QQ Tryz.prog 30 1 1:=.of (by kernel_rfl)
theorem zcs:QQ Tryz.prog 30 2 2:=.of (by kernel_rfl)
theorem zc9:Fun Tryz.prog 158:=.of Tryz.func158 (by kernel_rfl) (by kernel_rfl)
theorem ziX:Fun Tryz.prog 159:=.of Tryz.func159 (by kernel_rfl) (by kernel_rfl)
theorem W6:PlT Tryz.prog 224 #[(0,1),(1,1),(2,1),(3,1)] (.agg #[.nilFunc,(.int .i64 0),(.int .i64 0),(.int .i64 0)]):=⟨.of (by kernel_rfl),by kernel_rfl,fun w=>by kernel_rfl⟩
theorem zfC:SzT Tryz.prog 224 4:=.of (by kernel_rfl)
theorem zpj:SzT Tryz.prog 225 28:=.of (by kernel_rfl)
theorem zib:Vf Tryz.prog 224 (.agg #[.nilFunc,(.int .i64 0),(.int .i64 0),(.int .i64 0)]):=.of (by kernel_rfl)
theorem zoR:Vf Tryz.prog 225 (.agg #[.nilFunc,(.int .i64 0),(.int .i64 0),(.int .i64 0),.nilFunc,(.int .i64 0),(.int .i64 0),(.int .i64 0),.nilFunc,(.int .i64 0),(.int .i64 0),(.int .i64 0),.nilFunc,(.int .i64 0),(.int .i64 0),(.int .i64 0),.nilFunc,(.int .i64 0),(.int .i64 0),(.int .i64 0),.nilFunc,(.int .i64 0),(.int .i64 0),(.int .i64 0),.nilFunc,(.int .i64 0),(.int .i64 0),(.int .i64 0)]):=.of (by kernel_rfl)
theorem zcL {I:Qv}{av:Option Addr}{n c:Nat}{xs:List Int}(hS:Sl I 1 Yk av n c xs)(hn:n≤100000)(lo hi:Int):Yc Tryz.prog 158 [.int .i64 lo,.int .i64 hi,.slice av n c] I (.bool (zfk lo hi xs)):=by
 intro g H w hw
 refine qe Tryz.func158 Tryz.ntmps158 hw ?_
 have hln:=hS.len
 refine zR (zA (zN (Qq (zR ?_))))
 refine zM ?_
 refine zQ Yo ?_
 refine zM (zN (QD ?_))
 refine zU [(0,_),(1,_),(9,_),(10,_)] (fun T L0 mz E I' loc'=>∃ (k:Nat),mz=n-k∧E=(11,.int .i64 k)::T∧I=I'∧L0=loc'∧k≤n∧zfk lo hi (xs.take k)=true) ?_ (h:=⟨0,rfl,rfl,rfl,rfl,Nat.zero_le _,rfl⟩)
 rintro mz E I' loc' ⟨k,rfl,rfl,rfl,rfl,hk,hall⟩
 refine zR (zC (zN (Qq ?_)))
 refine zI ?_ ?_<;>intro hc12
 ·
  have hlt_k:k<n:=by have h:=hc12;simp at h;omega
  obtain ⟨x,hx⟩:∃ x,xs[k]? =some x:=⟨_,List.getElem?_eq_getElem (by omega)⟩
  refine Qw (Qc (Qq (QD (zR ?_))))
  refine zV (zX Yo hS) ?_
  refine zV (Qd rfl QA (fun hg=>by exact zw6 hS hx rfl)) ?_
  refine zA ?_
  refine zN (zR ?_)
  refine zM ?_
  refine zM ?_
  refine zC ?_
  refine zM ?_
  refine Ze 3 rfl rfl rfl ?_
  refine zJ (Qh rfl) ?_
  refine zJ (Qh rfl) ?_
  refine zJ (QT rfl rfl rfl) ?_
  refine ZP rfl rfl rfl rfl rfl ?_
  refine zN ?_
  refine zI ?_ ?_<;>intro hc22
  ·
   refine zR (zA (zN (QF (Qz (Qi (Qi (Qz ?_)))))))
   refine Qi ?_
   first
   | exact zr rfl rfl (by rw [show zfk lo hi xs=false from by unfold zfk;rw [←List.take_append_drop (k+1) xs,List.all_append,List.take_add_one,hx,List.all_append];simp only [Option.toList,List.all_cons,List.all_nil];rw [show (decide (x<lo)||decide (x>hi))=true from hc22];simp])
  refine Qw (Qn (Qc (Qk (zB ?_))))
  refine zM (Qb ?_)
  exact zm (h:=⟨n-(k+1),by omega,k+1,rfl,rfl,rfl,rfl,by omega,by unfold zfk at hall ⊢;rw [List.take_add_one,hx,List.all_append,hall];simp only [Option.toList,List.all_cons,List.all_nil,Bool.and_true,Bool.true_and];rw [show (decide (x<lo)||decide (x>hi))=false from hc22];rfl⟩)
 have hge_k:n≤k:=by have h:=hc12;simp at h;omega
 have hke:xs.take k=xs:=List.take_of_length_le (by omega)
 rw [hke] at hall
 refine Zy (Qs (Qs (QB (Qc (zR (zA (zN ?_)))))))
 refine QF ?_
 exact zr rfl rfl (by rw [hall])
def zd5:List Value:=[.nilFunc,.int .i64 0,.int .i64 0,.int .i64 0,.func (.func 210) #[] #[],.int .i64 1,.int .i64 3,.int .i64 2,.func (.func 211) #[] #[],.int .i64 1,.int .i64 1048576,.int .i64 2,.func (.func 212) #[] #[],.int .i64 1,.int .i64 16,.int .i64 0,.func (.func 213) #[] #[],.int .i64 0,.int .i64 16,.int .i64 0,.func (.func 214) #[] #[],.int .i64 0,.int .i64 500,.int .i64 0,.func (.func 215) #[] #[],.int .i64 0,.int .i64 1048576,.int .i64 0]
theorem znU {ck:Int}(h:zb4 ck 1 6=true):∃ fn:Nat,((zd5.drop (ck.toNat*4)).take 4)=[.func (.func fn) #[] #[],.int .i64 (Wg ck).1,.int .i64 (Wg ck).2.1,.int .i64 (Wg ck).2.2]:=by
 rcases six h with rfl | rfl | rfl | rfl | rfl | rfl<;>exact ⟨_,rfl⟩
theorem ziO (I:Qv):Yc Tryz.prog 159 [] I (.agg zd5.toArray):=by
 intro g H w hw
 refine qe Tryz.func159 Tryz.ntmps159 hw ?_
 refine zR ?_
 refine Qt zoR rfl rfl (fun b_0=>?_)
 refine zN (zR ?_)
 refine zV (QZ (ps:=[(0,_),(1,_),(2,_),(3,_)]) [_,_,_,_] W6 rfl rfl) ?_
 refine zV (QZ (ps:=[(0,_),(1,_),(2,_),(3,_)]) [_,_,_,_] W6 rfl rfl) ?_
 refine zV (QZ (ps:=[(0,_),(1,_),(2,_),(3,_)]) [_,_,_,_] W6 rfl rfl) ?_
 refine zV (QZ (ps:=[(0,_),(1,_),(2,_),(3,_)]) [_,_,_,_] W6 rfl rfl) ?_
 refine zV (QZ (ps:=[(0,_),(1,_),(2,_),(3,_)]) [_,_,_,_] W6 rfl rfl) ?_
 refine zV (QZ (ps:=[(0,_),(1,_),(2,_),(3,_)]) [_,_,_,_] W6 rfl rfl) ?_
 refine zV (Vp (ps:=[(1,_),(2,_),(3,_),(4,_),(5,_),(6,_)]) [_,_,_,_,_,_,_,_,_,_,_,_,_,_,_,_,_,_,_,_,_,_,_,_,_,_,_,_] zcv zoR rfl rfl) ?_
 refine zh zpj ?_
 refine zN (QF ?_)
 exact Y7 rfl rfl zpk Cells.g0 rfl (fun w hw=>⟨rfl,hw.drop⟩)
theorem ztd (I:Qv)(ck cl cn:Int):Yc Tryz.prog 93 [.agg #[.int .i64 ck,.int .i64 cl,.int .i64 cn]] I (.bool (zoi ck cl cn)):=by
 intro g H w hw
 refine qe Tryz.func93 Tryz.ntmps93 hw ?_
 have hIc:=zxd I
 refine zR ?_
 refine Zh rfl rfl rfl (fun b_1=>?_)
 refine zA (zN (Qq (zR ?_)))
 refine zF XZ ?_
 refine zL QA ?_
 refine Ql (ps:=[(0,_)]) (m:=[Yk ck]) Y9 rfl (.cons rfl (.nil)) rfl (by simp [Zx]) (by decide) (by decide) rfl rfl (fun b_6=>?_)
 refine Za (by repeat (first | exact Yd.here | apply Yd.there)) (fun I1 hI1 hb1=>?_)
 have hIc:=hIc.trans hI1
 have hA:=Sl.lit ([ck]:List Int) rfl Zx (show I1 b_6=some (Obj.cells (([ck]:List Int).flatMap Yk).toArray 3 (0,0)) from hb1)
 refine qcV (vs:=[_,_,_]) rfl zc9 (zcL hA (by simp) 1 6) ?_
 rw [Wk]
 refine zO (zN ?_)
 refine zI ?_ ?_<;>intro hc8
 ·
  have hck:zb4 ck 1 6=false:=by simpa using hc8
  refine zR (zA (zN (QF (Qi ?_))))
  exact zp hIc rfl rfl (by rw [zpx hck])
 have hck:zb4 ck 1 6=true:=by simpa using hc8
 obtain ⟨fn,hrow⟩:=znU hck
 have h16:=six hck
 refine Qw (Qc ?_)
 refine zY [(1,_)] (fun T L0 E I' loc'=>∃ (p3:Nat),E=(3,ZK p3)::T∧I1=I'∧[(p3,.cells #[.func (.func fn) #[] #[],.int .i64 (Wg ck).1,.int .i64 (Wg ck).2.1,.int .i64 (Wg ck).2.2] 224 (0,0)),(b_1,.cells #[.int .i64 ck,.int .i64 cl,.int .i64 cn] 30 (0,0))]=loc'∧True) ?_ ?_
 ·
  have hD:=zxd I1
  refine ZL ?_
  refine Q0 I1 [(b_1,.cells #[.int .i64 ck,.int .i64 cl,.int .i64 cn] 30 (0,0))] mixed ?_
  refine zT 1 rfl (Qa rfl XZ) hD ?_
  refine zT 2 rfl (Qd rfl QA (fun hg=>by exact QG.h0 rfl)) hD ?_
  refine Q8 0 4 rfl rfl (by kernel_rfl) ?_ ?_
  ·
   refine qcV (vs:=[]) rfl ziX (ziO _) ?_
   refine Qb ?_
   refine zD hD ?_
   refine Q8 3 4 rfl rfl (by kernel_rfl) ?_ ?_
   ·
    refine zV (JG (WV rfl rfl zcv zfr (fun hg=>by omega)) (congrArg (fun l:List Value=>Value.agg l.toArray) hrow)) ?_
    refine Qb ?_
    refine zD hD ?_
    refine qd 4 rfl ?_
    refine Qt zib rfl rfl (fun b_3=>?_)
    refine Qb ?_
    refine zD hD ?_
    refine qd 5 rfl ?_
    refine zh zfC ?_
    refine Qb ?_
    refine zD hD ?_
    refine Qm (by kernel_rfl) ?_
    refine Qy ?_
    exact zm (h:=⟨_,rfl,rfl,rfl,trivial⟩)
   refine Qt zib rfl rfl (fun b_3=>?_)
   refine Qb ?_
   refine zD hD ?_
   refine qd 3 rfl ?_
   refine zV (JG (WV rfl rfl zcv zfr (fun hg=>by omega)) (congrArg (fun l:List Value=>Value.agg l.toArray) hrow)) ?_
   refine Qb ?_
   refine zD hD ?_
   refine qd 5 rfl ?_
   refine zh zfC ?_
   refine Qb ?_
   refine zD hD ?_
   refine Qm (by kernel_rfl) ?_
   refine Qy ?_
   exact zm (h:=⟨_,rfl,rfl,rfl,trivial⟩)
  refine Qt zib rfl rfl (fun b_3=>?_)
  refine Qb ?_
  refine zD hD ?_
  refine qd 0 rfl ?_
  refine qcV (vs:=[]) rfl ziX (ziO _) ?_
  refine Qb ?_
  refine zD hD ?_
  refine qd 3 rfl ?_
  refine zV (JG (WV rfl rfl zcv zfr (fun hg=>by omega)) (congrArg (fun l:List Value=>Value.agg l.toArray) hrow)) ?_
  refine Qb ?_
  refine zD hD ?_
  refine qd 5 rfl ?_
  refine zh zfC ?_
  refine Qb ?_
  refine zD hD ?_
  refine Qm (by kernel_rfl) ?_
  refine Qy ?_
  exact zm (h:=⟨_,rfl,rfl,rfl,trivial⟩)
 rintro E I' loc' ⟨p3,rfl,rfl,rfl,_⟩
 refine Qq ?_
 cases hlb:zb4 cl 0 (Wg ck).2.2
 ·
  refine Qk ?_
  refine zF zdG ?_
  refine zL QA ?_
  refine zF X5 ?_
  refine zL QA ?_
  refine Ql (ps:=[(0,_)]) (m:=[Yk cl]) Y9 rfl (.cons rfl (.nil)) rfl (by simp [Zx]) (by decide) (by decide) rfl rfl (fun b_17=>?_)
  refine Za (by repeat (first | exact Yd.here | apply Yd.there)) (fun I3 hI3 hb3=>?_)
  have hIc:=hIc.trans hI3
  have hB:=Sl.lit ([cl]:List Int) rfl Zx (show I3 b_17=some (Obj.cells (([cl]:List Int).flatMap Yk).toArray 3 (0,0)) from hb3)
  refine qcV (vs:=[_,_,_]) rfl zc9 (zcL hB (by simp) 0 _) ?_
  rw [Wk]
  rw [hlb]
  refine zM ?_
  refine Vu (dj:=19) rfl rfl rfl rfl rfl ?_
  refine Vu (dj:=19) rfl rfl rfl rfl rfl ?_
  refine Vu (dj:=19) rfl rfl rfl rfl rfl ?_
  refine Vu (dj:=19) rfl rfl rfl rfl rfl ?_
  refine Vu (dj:=19) rfl rfl rfl rfl rfl ?_
  refine Vu (dj:=19) rfl rfl rfl rfl rfl ?_
  refine Vu (dj:=19) rfl rfl rfl rfl rfl ?_
  refine Vu (dj:=19) rfl rfl rfl rfl rfl ?_
  refine zV (Kl rfl rfl rfl) ?_
  refine zA (zN (QF ?_))
  first
  | exact zp hIc rfl rfl (by rw [zjl hck hlb]<;>rfl)
 refine Qk ?_
 refine zF zdG ?_
 refine zL QA ?_
 refine zF X5 ?_
 refine zL QA ?_
 refine Ql (ps:=[(0,_)]) (m:=[Yk cl]) Y9 rfl (.cons rfl (.nil)) rfl (by simp [Zx]) (by decide) (by decide) rfl rfl (fun b_17=>?_)
 refine Za (by repeat (first | exact Yd.here | apply Yd.there)) (fun I4 hI4 hb4=>?_)
 have hIc:=hIc.trans hI4
 have hB:=Sl.lit ([cl]:List Int) rfl Zx (show I4 b_17=some (Obj.cells (([cl]:List Int).flatMap Yk).toArray 3 (0,0)) from hb4)
 refine qcV (vs:=[_,_,_]) rfl zc9 (zcL hB (by simp) 0 _) ?_
 rw [Wk]
 rw [hlb]
 refine zM ?_
 refine Q6 (dj:=19) rfl rfl rfl ?_
 refine zF ziU ?_
 refine Q6 (dj:=19) rfl rfl rfl ?_
 refine zL QA ?_
 refine Q6 (dj:=19) rfl rfl rfl ?_
 refine zF zjR ?_
 refine Q6 (dj:=19) rfl rfl rfl ?_
 refine zL QA ?_
 refine Q6 (dj:=19) rfl rfl rfl ?_
 refine zF zcs ?_
 refine Q6 (dj:=19) rfl rfl rfl ?_
 refine zL QA ?_
 refine Q6 (dj:=19) rfl rfl rfl ?_
 refine Ql (ps:=[(0,_)]) (m:=[Yk cn]) Y9 rfl (.cons rfl (.nil)) rfl (by simp [Zx]) (by decide) (by decide) rfl rfl (fun b_26=>?_)
 refine Za (by repeat (first | exact Yd.here | apply Yd.there)) (fun I5 hI5 hb5=>?_)
 have hIc:=hIc.trans hI5
 have hC:=Sl.lit ([cn]:List Int) rfl Zx (show I5 b_26=some (Obj.cells (([cn]:List Int).flatMap Yk).toArray 3 (0,0)) from hb5)
 refine Q6 (dj:=19) rfl rfl rfl ?_
 refine qcV (vs:=[_,_,_]) rfl zc9 (zcL hC (by simp) _ _) ?_
 refine zV (Zv rfl rfl rfl) ?_
 refine zA (zN (QF ?_))
 first
 | exact zp hIc rfl rfl (by rw [zl3 hck hlb,←Wk];rfl)
end
section
open Go Go.Kn Go.Proofs
theorem zo4:AgT Tryz.prog 30 3:=.of (by kernel_rfl)
theorem ztU:EqT Tryz.prog 30 [.int,.int,.int]:=⟨by kernel_rfl,by kernel_rfl,by kernel_rfl,by kernel_rfl⟩
theorem JE:QQ Tryz.prog 32 0 0:=.of (by kernel_rfl)
theorem Uv:QQ Tryz.prog 32 1 1:=.of (by kernel_rfl)
theorem JH:QQ Tryz.prog 32 2 2:=.of (by kernel_rfl)
theorem X8:QQ Tryz.prog 32 3 3:=.of (by kernel_rfl)
theorem zac:QQ Tryz.prog 32 4 4:=.of (by kernel_rfl)
theorem Ww:QQ Tryz.prog 32 5 5:=.of (by kernel_rfl)
theorem Uu:QQ Tryz.prog 32 6 6:=.of (by kernel_rfl)
theorem zoE:Fun Tryz.prog 90:=.of Tryz.func90 (by kernel_rfl) (by kernel_rfl)
theorem zuo:Fun Tryz.prog 93:=.of Tryz.func93 (by kernel_rfl) (by kernel_rfl)
theorem Zd:MpT Tryz.prog 136 3 4 (.bool false):=⟨by kernel_rfl,.of (by kernel_rfl)⟩
theorem zkt:PlT Tryz.prog 30 #[(0,1),(1,1),(2,1)] (.agg #[(.int .i64 0),(.int .i64 0),(.int .i64 0)]):=⟨.of (by kernel_rfl),by kernel_rfl,fun w=>by kernel_rfl⟩
theorem zkz:ScT Tryz.prog 136:=.of (by kernel_rfl)
theorem zj7 (I:Qv)(n lo hi:Int):Yc Tryz.prog 90 [.int .i64 n,.int .i64 lo,.int .i64 hi] I (.bool (zb4 n lo hi)):=by
 intro g H w hw
 refine qe Tryz.func90 Tryz.ntmps90 hw ?_
 refine zR (zA ?_)
 refine zN (zR ?_)
 refine zM ?_
 refine zM ?_
 refine zC ?_
 refine zM ?_
 refine QL 3 rfl rfl rfl ?_
 refine zK (Qh rfl) ?_
 refine zK (Qh rfl) ?_
 refine zK (QT rfl rfl rfl) ?_
 refine QW rfl rfl rfl rfl rfl ?_
 refine zA (zN (QF ?_))
 exact QP rfl rfl (fun w hw=>⟨rfl,hw.drop⟩)
theorem zsz {I:Qv}{b7:Nat}{x:Lm}(hX:I b7=some (.cells (ZJ x).toArray 32 (0,0)))(b5:Nat)(last:Int):Vi Tryz.prog 89 [ZK b7,ZK b5] I [(b5,.cells #[.int .i64 last] 3 (0,0))] (fun v I' L'=>v= .bool (zvb last x)∧I'=I∧L'=[(b5,.cells #[.int .i64 last] 3 (0,0))]):=by
 intro g H w hw
 refine qe Tryz.func89 Tryz.ntmps89 hw ?_
 refine zR (zA ?_)
 refine zN (zR ?_)
 refine zF JE ?_
 refine zV (Qd rfl QA (fun hg=>by exact QG.imm hX rfl)) ?_
 refine zL QA ?_
 refine zC ?_
 refine zM ?_
 refine Ze 4 rfl rfl rfl ?_
 refine zJ (Qa rfl JE) ?_
 refine zJ (Qd rfl QA (fun hg=>by exact QG.imm hX rfl)) ?_
 refine zJ (QT rfl rfl rfl) ?_
 refine ZP rfl rfl rfl rfl rfl ?_
 refine zM ?_
 refine Ze 9 rfl rfl rfl ?_
 refine zJ (Qa rfl Uv) ?_
 refine zJ (Qd rfl QA (fun hg=>by exact QG.imm hX rfl)) ?_
 refine qf (vs:=[_,_,_]) rfl zoE (fun hg=>zj7 _ _ _ _) ?_
 refine zJ (Yz rfl) ?_
 refine ZP rfl rfl rfl rfl rfl ?_
 refine zA (zN (QF ?_))
 exact QP rfl rfl (fun w hw=>⟨_,I,_,rfl,zxd _,hw,rfl,rfl,rfl⟩)
theorem ztv {I:Qv}{b7:Nat}{x:Lm}(hX:I b7=some (.cells (ZJ x).toArray 32 (0,0))):Yc Tryz.prog 91 [ZK b7] I (.bool (zst x)):=by
 intro g H w hw
 refine qe Tryz.func91 Tryz.ntmps91 hw ?_
 refine zR (zA ?_)
 refine zN (zR ?_)
 refine zF X8 ?_
 refine zV (Qd rfl QA (fun hg=>by exact QG.imm hX rfl)) ?_
 refine zC ?_
 refine zM ?_
 refine Ze 3 rfl rfl rfl ?_
 refine zJ (Qa rfl X8) ?_
 refine zJ (Qd rfl QA (fun hg=>by exact QG.imm hX rfl)) ?_
 refine zJ (Qa rfl zac) ?_
 refine zJ (Qd rfl QA (fun hg=>by exact QG.imm hX rfl)) ?_
 refine zJ (QT rfl rfl rfl) ?_
 refine ZP rfl rfl rfl rfl rfl ?_
 refine zM ?_
 refine Ze 10 rfl rfl rfl ?_
 refine zJ (Qa rfl zac) ?_
 refine zJ (Qd rfl QA (fun hg=>by exact QG.imm hX rfl)) ?_
 refine zJ (QT rfl rfl rfl) ?_
 refine ZP rfl rfl rfl rfl rfl ?_
 refine zM ?_
 refine Ze 15 rfl rfl rfl ?_
 refine zJ (Qa rfl Ww) ?_
 refine zJ (Qd rfl QA (fun hg=>by exact QG.imm hX rfl)) ?_
 refine qf (vs:=[_,_,_]) rfl zoE (fun hg=>zj7 _ _ _ _) ?_
 refine zJ (Yz rfl) ?_
 refine ZP rfl rfl rfl rfl rfl ?_
 refine zA (zN (QF ?_))
 exact QP rfl rfl (fun w hw=>⟨rfl,hw.drop⟩)
theorem zem {I:Qv}{loc:Go.Kn.Loc}{b7:Nat}{x:Lm}(hX:I b7=some (.cells (ZJ x).toArray 32 (0,0))):Cells I loc b7 (0+6) [.int .i64 x.ck,.int .i64 x.cl,.int .i64 x.cn]:=by
 intro j v hj
 match j,hj with
 | 0,h=>cases h;exact QG.imm hX rfl
 | 1,h=>cases h;exact QG.imm hX rfl
 | 2,h=>cases h;exact QG.imm hX rfl
theorem zti {I:Qv}{b7:Nat}{x:Lm}(hX:I b7=some (.cells (ZJ x).toArray 32 (0,0))):Yc Tryz.prog 92 [ZK b7] I (.bool (zuY x)):=by
 intro g H w hw
 refine qe Tryz.func92 Tryz.ntmps92 hw ?_
 refine zR (zA ?_)
 refine zN (zR ?_)
 refine zF Uu ?_
 refine zV (Qg rfl zo4 (fun hg=>zem hX) rfl) ?_
 refine qcV (vs:=[_]) rfl zuo (ztd _ _ _ _) ?_
 refine zO ?_
 refine zM ?_
 refine QL 4 rfl rfl rfl ?_
 refine zK (Qa rfl Uu) ?_
 refine zK (Qg rfl zo4 (fun hg=>by exact zem hX) rfl) ?_
 refine zK (QZ (ps:=[]) [_,_,_] zkt rfl rfl) ?_
 refine zK (zjf rfl rfl ztU rfl) ?_
 refine zK (Qh rfl) ?_
 refine Ze 9 rfl rfl rfl ?_
 refine zJ (Qa rfl JH) ?_
 refine zJ (Qd rfl QA (fun hg=>by exact QG.imm hX rfl)) ?_
 refine zJ (QT rfl rfl rfl) ?_
 refine zex rfl rfl rfl (.some rfl rfl rfl rfl gbt) rfl rfl ?_
 refine QW rfl rfl rfl rfl rfl ?_
 refine zA (zN (QF ?_))
 exact QP rfl rfl (fun w hw=>⟨rfl,hw.drop⟩)
theorem zum {I:Qv}{b7:Nat}{x:Lm}(hX:I b7=some (.cells (ZJ x).toArray 32 (0,0))){b9 b4 b8 r16:Nat}{met:Bool}{old:Lm}(hM:I b9=some (.cells #[.bool met] 4 (0,0)))(h4:I b4=some (.cells #[.map (some r16)] 136 (0,0)))(hO:I b8=some (.cells (ZJ old).toArray 32 (0,0)))(m:List (Int×Bool)){b5:Nat}{o5:Obj}:Vi Tryz.prog 94 [ZK b7,ZK b9,ZK b4,ZK b8] I [(b5,o5),(r16,YD (.int .i64) .bool m)] (fun v I' L'=>v= .bool (zu0 met ((ZS m x.ends).getD false) old x)∧I'=I∧L'=[(b5,o5),(r16,YD (.int .i64) .bool m)]):=by
 intro g H w hw
 refine qe Tryz.func94 Tryz.ntmps94 hw ?_
 refine zR (zA ?_)
 refine zN (zR ?_)
 refine zF JH ?_
 refine zV (Qd rfl QA (fun hg=>by exact QG.imm hX rfl)) ?_
 refine zC ?_
 refine zM ?_
 refine QL 3 rfl rfl rfl ?_
 refine zK (Qd rfl znX (fun hg=>by exact QG.imm hM rfl)) ?_
 refine zK (Yz rfl) ?_
 refine zK (Qh rfl) ?_
 refine Ze 6 rfl rfl rfl ?_
 refine zJ (Qd rfl zkz (fun hg=>by exact QG.imm h4 rfl)) ?_
 refine zJ (Qa rfl JH) ?_
 refine zJ (Qd rfl QA (fun hg=>by exact QG.imm hX rfl)) ?_
 refine zJ (YP (m:=m) (ek:=Value.int .i64) (a:=x.ends) Zd Zj rfl rfl (fun _=>(by exact Mem.m1))) ?_
 refine zex rfl rfl rfl (.some rfl rfl rfl rfl gbt) rfl rfl ?_
 refine zK (Qh rfl) ?_
 refine Ze 12 rfl rfl rfl ?_
 refine zJ (Qa rfl Uv) ?_
 refine zJ (Qd rfl QA (fun hg=>by exact QG.imm hO rfl)) ?_
 refine zJ (Qa rfl Uv) ?_
 refine zJ (Qd rfl QA (fun hg=>by exact QG.imm hX rfl)) ?_
 refine zJ (QT rfl rfl rfl) ?_
 refine zex rfl rfl rfl (.some rfl rfl rfl rfl gbt) rfl rfl ?_
 refine zK (Qh rfl) ?_
 refine Ze 19 rfl rfl rfl ?_
 refine zJ (Qa rfl Ww) ?_
 refine zJ (Qd rfl QA (fun hg=>by exact QG.imm hO rfl)) ?_
 refine zJ (Qa rfl Ww) ?_
 refine zJ (Qd rfl QA (fun hg=>by exact QG.imm hX rfl)) ?_
 refine zJ (QT rfl rfl rfl) ?_
 refine zex rfl rfl rfl (.some rfl rfl rfl rfl gbt) rfl rfl ?_
 refine QW rfl rfl rfl rfl rfl ?_
 refine zA (zN (QF ?_))
 exact QP rfl rfl (fun w hw=>⟨_,I,_,rfl,zxd _,hw,rfl,rfl,rfl⟩)
end
section
open Go Go.Kn Go.Proofs
theorem Kt:AgT Tryz.prog 32 9:=.of (by kernel_rfl)
theorem zpr:ElT Tryz.prog 140 48 1 8:=.of (by kernel_rfl)
theorem zsb:Fun Tryz.prog 89:=.of Tryz.func89 (by kernel_rfl) (by kernel_rfl)
theorem zsx:Fun Tryz.prog 91:=.of Tryz.func91 (by kernel_rfl) (by kernel_rfl)
theorem zsH:Fun Tryz.prog 92:=.of Tryz.func92 (by kernel_rfl) (by kernel_rfl)
theorem zua:Fun Tryz.prog 94:=.of Tryz.func94 (by kernel_rfl) (by kernel_rfl)
theorem W2:MpT Tryz.prog 135 3 32 (.agg #[(.int .i64 0),(.int .i64 0),(.int .i64 0),(.int .i64 0),(.int .i64 0),(.int .i64 0),(.int .i64 0),(.int .i64 0),(.int .i64 0)]):=⟨by kernel_rfl,.of (by kernel_rfl)⟩
theorem zgj:ScT Tryz.prog 48:=.of (by kernel_rfl)
theorem zbe:SlT Tryz.prog 140 48 1:=.of (by kernel_rfl)
theorem Yu:SlT Tryz.prog 62 32 9:=.of (by kernel_rfl)
theorem zrF:SzT Tryz.prog 136 1:=.of (by kernel_rfl)
theorem zaH:SzT Tryz.prog 32 9:=.of (by kernel_rfl)
theorem zto:Vf Tryz.prog 136 (.map none):=.of (by kernel_rfl)
theorem zwu:Vf Tryz.prog 3 (.int .i64 0):=.of (by kernel_rfl)
theorem zfn:Vf Tryz.prog 32 (.agg #[(.int .i64 0),(.int .i64 0),(.int .i64 0),(.int .i64 0),(.int .i64 0),(.int .i64 0),(.int .i64 0),(.int .i64 0),(.int .i64 0)]):=.of (by kernel_rfl)
theorem zw1:Vf Tryz.prog 4 (.bool false):=.of (by kernel_rfl)
theorem zlj {I:Qv}{av:Option Addr}{n c:Nat}{xs:List Lm}(hS:Sl I 9 ZJ av n c xs)(hn:n≤100000):Yc Tryz.prog 37 [.slice av n c] I (.int .i64 (zh0 xs)):=by
 intro g H w hw
 refine qe Tryz.func37 Tryz.ntmps37 hw ?_
 have hIc:=zxd I
 have hln:=hS.len
 refine zR (zA (zN (Qq (zR ?_))))
 refine zM ?_
 refine zQ Yu ?_
 refine zC (zN ?_)
 refine zI ?_ ?_<;>intro hc14
 ·
  have h5:xs.length>512:=by have h:=hc14;simp at h;omega
  refine zR (zA (zN (QF (Qi ?_))))
  exact zp hIc rfl rfl (by rw [zl6 h5])
 have h5:¬xs.length>512:=by have h:=hc14;simp at h;omega
 refine Qw (Qc (zR ?_))
 refine Yh rfl rfl (fun r_15=>?_)
 refine zA ?_
 refine zN (zR ?_)
 refine Yh rfl rfl (fun r_16=>?_)
 refine Qt zto rfl rfl (fun b_4=>?_)
 refine zS zrF ?_
 refine Qb ?_
 refine QO .here (fun I1 hI1 hb1=>?_)
 have hS:=hS.mono hI1;have hIc:=hIc.trans hI1
 have h4:=BxI.of hb1
 refine Qc (zR ?_)
 refine Qt zwu rfl rfl (fun b_5=>?_)
 refine zS zdL ?_
 refine zN (Qq (zR (zM ?_)))
 refine zQ Yu ?_
 refine zM (zN (QD ?_))
 refine zU [(3,_),(4,_),(5,_),(17,_),(18,_)] (fun T L0 mz E I' loc'=>∃ (k:Nat),mz=n-k∧E=(19,.int .i64 k)::T∧HLe I1 I'∧[(b_5,.cells #[.int .i64 (zep (xs.take k))] 3 (0,0)),(r_16,YD (.int .i64) .bool (rpM (xs.take k))),(r_15,YD (.int .i64) Jq (knM (xs.take k)))]=loc'∧k≤n∧(∀ j y,j<k→xs[j]? =some y→zfv (xs.take j) y=false)) ?_ (h:=⟨0,rfl,rfl,zxd _,rfl,Nat.zero_le _,fun j y h=>absurd h (Nat.not_lt_zero _)⟩)
 rintro mz E J2 loc' ⟨k,rfl,rfl,hJ,rfl,hk,hall⟩
 have hS:=hS.mono hJ;have h4:=h4.mono hJ;have hIc:=hIc.trans hJ
 have hB0:=hJ
 refine zR (zC (zN (Qq ?_)))
 refine zI ?_ ?_<;>intro hc20
 ·
  have hlt_k:k<n:=by have h:=hc20;simp at h;omega
  obtain ⟨x,hx⟩:∃ x,xs[k]? =some x:=⟨_,List.getElem?_eq_getElem (by omega)⟩
  refine Qw (Qc (Qq (QD (zR ?_))))
  refine zV (zX Yu hS) ?_
  refine zV (Qg rfl Kt (fun hg=>by exact zxe hS hx) rfl) ?_
  refine Qt zfn rfl rfl (fun b_7=>?_)
  refine zh zaH ?_
  refine zN (zR ?_)
  refine zM ?_
  refine zF JH ?_
  refine zL QA ?_
  refine zV (za9 rfl rfl rfl) ?_
  refine zV (zdx V3 ((zlX (xs.take k) x).getD V3) ((zlX (xs.take k) x).isSome) rfl rfl rfl (ek:=Value.int .i64) (ev:=Jq) (m:=knM (xs.take k)) (a:=IntKind.i64.wrap (x.ends-1)) W2 Zj rfl rfl (fun _=>(by exact Mem.m3))) ?_
  refine zM ?_
  refine zE ?_
  refine zE ?_
  refine Qt zfn rfl rfl (fun b_8=>?_)
  refine Qt zw1 rfl rfl (fun b_9=>?_)
  refine zh zaH ?_
  refine zS zvv ?_
  refine zN (Qq (Qq ?_))
  refine QO .here (fun I3 hI3 hb3=>?_)
  have hS:=hS.mono hI3;have h4:=h4.mono hI3;have hIc:=hIc.trans hI3;have hB0:=hB0.trans hI3
  have h9:=BxI.of hb3
  refine QO .here (fun I4 hI4 hb4=>?_)
  have hS:=hS.mono hI4;have h4:=h4.mono hI4;have h9:=h9.mono hI4;have hIc:=hIc.trans hI4;have hB0:=hB0.trans hI4
  have h8:=BxI.of hb4
  refine QO .here (fun I5 hI5 hb5=>?_)
  have hS:=hS.mono hI5;have h4:=h4.mono hI5;have h9:=h9.mono hI5;have h8:=h8.mono hI5;have hIc:=hIc.trans hI5;have hB0:=hB0.trans hI5
  have h7:=BxI.of hb5
  refine Qk ?_
  refine zV (YG (us:=[]) (vs:=[_,_]) rfl rfl) ?_
  refine zV (YG (us:=[]) (vs:=[_]) rfl rfl) ?_
  refine zV (YG (us:=[]) (vs:=[_]) rfl rfl) ?_
  refine zV (YG (us:=[]) (vs:=[_,_,_,_]) rfl rfl) ?_
  refine Ql (ps:=[(0,_),(1,_),(2,_),(3,_)]) (m:=[zhr (.func (.func 89) #[] #[ZK b_7,ZK b_5]),zhr (.func (.func 91) #[] #[ZK b_7]),zhr (.func (.func 92) #[] #[ZK b_7]),zhr (.func (.func 94) #[] #[ZK b_7,ZK b_9,ZK b_4,ZK b_8])]) zpr rfl (.cons rfl (.cons rfl (.cons rfl (.cons rfl (.nil))))) rfl (by simp [zet]) (by decide) (by decide) rfl rfl (fun b_35=>?_)
  refine Za (by repeat (first | exact Yd.here | apply Yd.there)) (fun I6 hI6 hb6=>?_)
  have hS:=hS.mono hI6;have h4:=h4.mono hI6;have h9:=h9.mono hI6;have h8:=h8.mono hI6;have h7:=h7.mono hI6;have hIc:=hIc.trans hI6;have hB0:=hB0.trans hI6
  have hF:=Sl.lit ([.func (.func 89) #[] #[ZK b_7,ZK b_5],.func (.func 91) #[] #[ZK b_7],.func (.func 92) #[] #[ZK b_7],.func (.func 94) #[] #[ZK b_7,ZK b_9,ZK b_4,ZK b_8]]:List Value) rfl zet (show I6 b_35=some (Obj.cells (([.func (.func 89) #[] #[ZK b_7,ZK b_5],.func (.func 91) #[] #[ZK b_7],.func (.func 92) #[] #[ZK b_7],.func (.func 94) #[] #[ZK b_7,ZK b_9,ZK b_4,ZK b_8]]:List Value).flatMap zhr).toArray 48 (0,0)) from hb6)
  refine zQ zbe ?_
  refine zM (zN (QD ?_))
  refine zU [(3,_),(4,_),(5,_),(7,_),(17,_),(18,_),(19,_),(35,_),(36,_)] (fun T L0 mz E I' loc'=>∃ (i:Nat),mz=4-i∧E=(37,.int .i64 i)::T∧I6=I'∧[(b_5,.cells #[.int .i64 (zep (xs.take k))] 3 (0,0)),(r_16,YD (.int .i64) .bool (rpM (xs.take k))),(r_15,YD (.int .i64) Jq (knM (xs.take k)))]=loc'∧i≤4∧(0<i→zvb (zep (xs.take k)) x=false)∧(1<i→zst x=false)∧(2<i→zuY x=false)∧(3<i→zu0 (zlX (xs.take k) x).isSome ((ZS (rpM (xs.take k)) x.ends).getD false) ((zlX (xs.take k) x).getD V3) x=false)) ?_ (h:=⟨0,rfl,rfl,rfl,rfl,Nat.zero_le _,fun h=>absurd h (by omega),fun h=>absurd h (by omega),fun h=>absurd h (by omega),fun h=>absurd h (by omega)⟩)
  rintro mz E I' loc' ⟨i,rfl,rfl,rfl,rfl,hi,q0,q1,q2,q3⟩
  refine zR (zC (zN (Qq ?_)))
  refine zI ?_ ?_<;>intro hc38
  ·
   have hi4:i<4:=by have h:=hc38;simp at h;omega
   refine Qw (Qc (Qq (QD (Qq ?_))))
   rcases (show i=0∨i=1∨i=2∨i=3 by omega) with hi | hi | hi | hi
   ·
    have hfi:([.func (.func 89) #[] #[ZK b_7,ZK b_5],.func (.func 91) #[] #[ZK b_7],.func (.func 92) #[] #[ZK b_7],.func (.func 94) #[] #[ZK b_7,ZK b_9,ZK b_4,ZK b_8]]:List Value)[i]? =some (.func (.func 89) #[] #[ZK b_7,ZK b_5]):=by rw [hi];rfl
    refine Qk ?_
    refine zV (QV rfl rfl zbe (by assumption) (fun hg=>by omega)) ?_
    refine zV (Qd rfl zgj (fun hg=>by exact zw6 hF hfi rfl)) ?_
    refine zA ?_
    refine zN (zR ?_)
    refine zM ?_
    refine QE (cap:=[ZK b_7,ZK b_5]) (vs:=[]) rfl rfl zsb (.cons .here .nil) (zsz h7.out b_5 _) rfl rfl ?_
    rintro vv8 I8 L8 hI8 ⟨rfl,rfl,rfl⟩
    have hIc:=hIc.trans hI8
    refine zN ?_
    refine zI ?_ ?_<;>intro hc42
    ·
     refine zR (zA (zN (QF (Qz (Qi (Qi (Qz ?_)))))))
     refine Qi (Qz (Qi (Qi (Qz (Qi ?_)))))
     exact zp hIc rfl rfl (by rw [XV h5 hx (zs8 hc42)])
    refine Qw (Qn (Qc (Qk (zB ?_))))
    refine zM (Qb ?_)
    exact Zt _ _ ⟨4-(i+1),by omega,i+1,rfl,rfl,rfl,rfl,by omega,fun _=>by exact hc42,fun h=>by exact absurd h (by omega),fun h=>by exact absurd h (by omega),fun h=>by exact absurd h (by omega)⟩ (.cons rfl (.cons rfl (.cons rfl (.cons rfl (.cons rfl (.cons rfl (.cons rfl (.cons rfl (.cons rfl (.cons rfl .nil)))))))))) (by (try rw [ZD hx,Kw,WL,WD]);repeat (first | exact .refl | exact QN | refine Zf ?_ | refine .drop ?_ | refine Qf ?_))
   ·
    have hfi:([.func (.func 89) #[] #[ZK b_7,ZK b_5],.func (.func 91) #[] #[ZK b_7],.func (.func 92) #[] #[ZK b_7],.func (.func 94) #[] #[ZK b_7,ZK b_9,ZK b_4,ZK b_8]]:List Value)[i]? =some (.func (.func 91) #[] #[ZK b_7]):=by rw [hi];rfl
    refine Qk ?_
    refine zV (QV rfl rfl zbe (by assumption) (fun hg=>by omega)) ?_
    refine zV (Qd rfl zgj (fun hg=>by exact zw6 hF hfi rfl)) ?_
    refine zA ?_
    refine zN (zR ?_)
    refine zM ?_
    refine QE (cap:=[ZK b_7]) (vs:=[]) rfl rfl zsx .nil ((ztv h7.out).m) rfl rfl ?_
    rintro vv9 I9 L9 hI9 ⟨rfl,rfl,rfl⟩
    have hIc:=hIc.trans hI9
    refine zN ?_
    refine zI ?_ ?_<;>intro hc42
    ·
     refine zR (zA (zN (QF (Qz (Qi (Qi (Qz ?_)))))))
     refine Qi (Qz (Qi (Qi (Qz (Qi ?_)))))
     exact zp hIc rfl rfl (by rw [XV h5 hx (zub hc42)])
    refine Qw (Qn (Qc (Qk (zB ?_))))
    refine zM (Qb ?_)
    exact Zt _ _ ⟨4-(i+1),by omega,i+1,rfl,rfl,rfl,rfl,by omega,fun _=>by exact q0 (by omega),fun h=>by exact hc42,fun h=>by exact absurd h (by omega),fun h=>by exact absurd h (by omega)⟩ (.cons rfl (.cons rfl (.cons rfl (.cons rfl (.cons rfl (.cons rfl (.cons rfl (.cons rfl (.cons rfl (.cons rfl .nil)))))))))) (by (try rw [ZD hx,Kw,WL,WD]);repeat (first | exact .refl | exact QN | refine Zf ?_ | refine .drop ?_ | refine Qf ?_))
   ·
    have hfi:([.func (.func 89) #[] #[ZK b_7,ZK b_5],.func (.func 91) #[] #[ZK b_7],.func (.func 92) #[] #[ZK b_7],.func (.func 94) #[] #[ZK b_7,ZK b_9,ZK b_4,ZK b_8]]:List Value)[i]? =some (.func (.func 92) #[] #[ZK b_7]):=by rw [hi];rfl
    refine Qk ?_
    refine zV (QV rfl rfl zbe (by assumption) (fun hg=>by omega)) ?_
    refine zV (Qd rfl zgj (fun hg=>by exact zw6 hF hfi rfl)) ?_
    refine zA ?_
    refine zN (zR ?_)
    refine zM ?_
    refine QE (cap:=[ZK b_7]) (vs:=[]) rfl rfl zsH .nil ((zti h7.out).m) rfl rfl ?_
    rintro vv10 I10 L10 hI10 ⟨rfl,rfl,rfl⟩
    have hIc:=hIc.trans hI10
    refine zN ?_
    refine zI ?_ ?_<;>intro hc42
    ·
     refine zR (zA (zN (QF (Qz (Qi (Qi (Qz ?_)))))))
     refine Qi (Qz (Qi (Qi (Qz (Qi ?_)))))
     exact zp hIc rfl rfl (by rw [XV h5 hx (zuX hc42)])
    refine Qw (Qn (Qc (Qk (zB ?_))))
    refine zM (Qb ?_)
    exact Zt _ _ ⟨4-(i+1),by omega,i+1,rfl,rfl,rfl,rfl,by omega,fun _=>by exact q0 (by omega),fun h=>by exact q1 (by omega),fun h=>by exact hc42,fun h=>by exact absurd h (by omega)⟩ (.cons rfl (.cons rfl (.cons rfl (.cons rfl (.cons rfl (.cons rfl (.cons rfl (.cons rfl (.cons rfl (.cons rfl .nil)))))))))) (by (try rw [ZD hx,Kw,WL,WD]);repeat (first | exact .refl | exact QN | refine Zf ?_ | refine .drop ?_ | refine Qf ?_))
   have hfi:([.func (.func 89) #[] #[ZK b_7,ZK b_5],.func (.func 91) #[] #[ZK b_7],.func (.func 92) #[] #[ZK b_7],.func (.func 94) #[] #[ZK b_7,ZK b_9,ZK b_4,ZK b_8]]:List Value)[i]? =some (.func (.func 94) #[] #[ZK b_7,ZK b_9,ZK b_4,ZK b_8]):=by rw [hi];rfl
   refine Qk ?_
   refine zV (QV rfl rfl zbe (by assumption) (fun hg=>by omega)) ?_
   refine zV (Qd rfl zgj (fun hg=>by exact zw6 hF hfi rfl)) ?_
   refine zA ?_
   refine zN (zR ?_)
   refine zM ?_
   refine QE (cap:=[ZK b_7,ZK b_9,ZK b_4,ZK b_8]) (vs:=[]) rfl rfl zua (.cons .here (.cons .here .nil)) (zum h7.out h9.out h4.out h8.out (rpM (xs.take k))) rfl rfl ?_
   rintro vv11 I11 L11 hI11 ⟨rfl,rfl,rfl⟩
   have hIc:=hIc.trans hI11
   refine zN ?_
   refine zI ?_ ?_<;>intro hc42
   ·
    refine zR (zA (zN (QF (Qz (Qi (Qi (Qz ?_)))))))
    refine Qi (Qz (Qi (Qi (Qz (Qi ?_)))))
    exact zp hIc rfl rfl (by rw [XV h5 hx (zsa hc42)])
   refine Qw (Qn (Qc (Qk (zB ?_))))
   refine zM (Qb ?_)
   exact Zt _ _ ⟨4-(i+1),by omega,i+1,rfl,rfl,rfl,rfl,by omega,fun _=>by exact q0 (by omega),fun h=>by exact q1 (by omega),fun h=>by exact q2 (by omega),fun h=>by exact hc42⟩ (.cons rfl (.cons rfl (.cons rfl (.cons rfl (.cons rfl (.cons rfl (.cons rfl (.cons rfl (.cons rfl (.cons rfl .nil)))))))))) (by (try rw [ZD hx,Kw,WL,WD]);repeat (first | exact .refl | exact QN | refine Zf ?_ | refine .drop ?_ | refine Qf ?_))
  have hi4:4≤i:=by have h:=hc38;simp at h;omega
  have hbad:zfv (xs.take k) x=false:=zqc (q0 (by omega)) (q1 (by omega)) (q2 (by omega)) (q3 (by omega))
  refine Zy (Qs (Qs (QB (Qc ?_))))
  have hD:=zxd I6
  refine ZL ?_
  refine Q0 I6 [] mixed ?_
  refine zT 0 rfl (Qh rfl) hD ?_
  refine zT 1 rfl (Qa rfl JE) hD ?_
  refine zT 2 rfl (Qd rfl QA (fun hg=>by exact QG.imm h7.out rfl)) hD ?_
  refine zT 3 rfl (Qd rfl zkz (fun hg=>by exact QG.imm h4.out rfl)) hD ?_
  refine zT 4 rfl (Qa rfl JH) hD ?_
  refine zT 5 rfl (Qd rfl QA (fun hg=>by exact QG.imm h7.out rfl)) hD ?_
  refine zT 6 rfl (Qa rfl JE) hD ?_
  refine zT 7 rfl (Qd rfl QA (fun hg=>by exact QG.imm h7.out rfl)) hD ?_
  refine zT 8 rfl (Qg rfl Kt (fun hg=>by exact BxI.cells (vs:=ZJ x) h7) rfl) hD ?_
  refine qd 9 rfl ?_
  refine zS zdL ?_
  refine Qb ?_
  refine zD hD ?_
  refine qd 10 rfl ?_
  refine ZU (ek:=Value.int .i64) (ev:=Jq) (m:=knM (xs.take k)) (a:=x.no) x W2 Zj rfl rfl rfl rfl (by repeat (first | exact Upd.here | apply Upd.there | apply Qx)) ?_
  refine Qb ?_
  refine zD hD ?_
  refine qd 11 rfl ?_
  refine ZU (ek:=Value.int .i64) (ev:=Value.bool) (m:=rpM (xs.take k)) (a:=x.ends) true Zd Zj rfl rfl rfl rfl (by repeat (first | exact Upd.here | apply Upd.there | apply Qx)) ?_
  refine Qb ?_
  refine zD hD ?_
  refine Qm (by kernel_rfl) ?_
  refine Qy ?_
  refine Qn (Qc (Qk (zB ?_)))
  refine zM (Qb ?_)
  exact Zt _ _ ⟨n-(k+1),by omega,k+1,rfl,rfl,hB0,rfl,by omega,KO hx hall hbad⟩ (.cons rfl (.cons rfl (.cons rfl (.cons rfl (.cons rfl (.cons rfl .nil)))))) (by (try rw [ZD hx,Kw,WL,WD]);repeat (first | exact .refl | exact QN | refine Zf ?_ | refine .drop ?_ | refine Qf ?_))
 have hge_k:n≤k:=by have h:=hc20;simp at h;omega
 refine Zy (Qs (Qs (QB (Qc (zR (zA (zN ?_)))))))
 refine QF ?_
 exact zp hIc rfl rfl (by rw [zpg h5 (fun j y hj hy=>hall j y (by omega) hy)])
end
section
open Go Go.Kn Go.Proofs
def orF:List Int→Int
 | []=>0
 | x::xs=>if x≠0 then x else orF xs
theorem XS:∀ {xs:List Int},orF xs=0↔ ∀ x∈xs,x=0
 | []=>by simp [orF]
 | x::xs=>by
  unfold orF
  by_cases h:x=0
  ·
   rw [if_neg (by simpa using h),XS];simp [h]
  ·
   rw [if_pos h];simp [h]
theorem znv {xs:List Int}{k:Nat}{x:Int}(hx:xs[k]? =some x)(h:orF (xs.take k)=0)(hne:x≠0):orF xs=x:=by
 induction xs generalizing k with
 | nil=>simp at hx
 | cons y ys ih=>
  cases k with
  | zero=>
   simp at hx;subst hx
   unfold orF;rw [if_pos hne]
  | succ k=>
   rw [List.take_succ_cons] at h
   unfold orF at h ⊢
   by_cases hy:y=0
   ·
    rw [if_neg (by simpa using hy)] at h ⊢
    exact ih (by simpa using hx) h
   ·
    rw [if_pos hy] at h;exact absurd h hy
def onS (f:Int→Int→Bool)(p:Pt):Int→Int→Bool:=fun a b=>if a=p.id then p.needs.any (fun n=>n==b||f n b) else f a b
def onF (ps:List Pt):Int→Int→Bool:=ps.foldl onS (fun _ _=>false)
def zfJ (ps:List Pt)(n:Int):Bool:=ps.any (fun q=>q.id==n)
def lsP (ps:List Pt)(i:Nat):Bool:= !((decide ((i:Int)>0)&&decide ((ps.getD i Jv).id≤(ps.getD ((i:Int)-1).toNat Jv).id))||(ps.getD i Jv).needs.any (fun n=> !zfJ ps n))
def lsB (ps:List Pt):Bool:=(List.range ps.length).all (lsP ps)
def zug (p q:Pt)(on:Bool):Bool:=if p.sign≠q.sign then true else if q.kind=2 then p.kind != 2&&on else if q.kind=3 then !on else true
def zjp (ps:List Pt):Bool:=ps.all fun p=>ps.all fun q=>p.id==q.id||zug p q (onF ps p.id q.id)
def X4 (ps:List Pt):Int:=if ps.length>512 then 2 else if orF (ps.map KL)≠0 then orF (ps.map KL) else if lsB ps&&zjp ps then 0 else 380
structure Lst (ps:List Pt):Prop where
 pos:∀ p∈ps,1≤p.id
 inc:ps.Pairwise (fun p q=>p.id<q.id)
 has:∀ p∈ps,∀ n∈p.needs,n<p.id∧∃ q∈ps,q.id=n
theorem zaf {ps:List Pt}{n:Int}:zfJ ps n=true↔ ∃ q∈ps,q.id=n:=by
 unfold zfJ
 rw [List.any_eq_true]
 simp
theorem zkG {f:Int→Int→Bool}{p:Pt}{a b:Int}(h:a≠p.id):onS f p a b=f a b:=by unfold onS;rw [if_neg h]
theorem UA:∀ (ps:List Pt) {f:Int→Int→Bool} {a b:Int},(∀ p∈ps,p.id≠a)→ps.foldl onS f a b=f a b
 | [],_,_,_,_=>rfl
 | p::ps,f,a,b,h=>by
  rw [List.foldl_cons,UA ps (fun q hq=>h q (List.mem_cons_of_mem _ hq)),zkG (fun e=>h p (List.mem_cons_self ..) e.symm)]
theorem zmt {ps:List Pt}{a b:Int}(h:∀ p∈ps,p.id≠a):onF ps a b=false:=UA ps h
theorem zed {ps qs:List Pt}{p:Pt}{b:Int}(h:∀ q∈qs,q.id≠p.id):onF (ps++p::qs) p.id b=p.needs.any (fun n=>n==b||onF ps n b):=by
 unfold onF
 rw [List.foldl_append,List.foldl_cons,UA qs h]
 unfold onS;rw [if_pos rfl]
theorem zhf {ps qs:List Pt}{a b:Int}(h:∀ q∈qs,q.id≠a):onF (ps++qs) a b=onF ps a b:=by
 unfold onF
 rw [List.foldl_append,UA qs h]
theorem Lst.tail_ne {ps qs:List Pt}{p:Pt}(h:Lst (ps++p::qs)):(∀ q∈qs,p.id<q.id)∧(∀ q∈ps,q.id<p.id):=by
 have h1:=h.inc
 rw [List.pairwise_append] at h1
 exact ⟨(List.pairwise_cons.1 h1.2.1).1,fun q hq=>h1.2.2 q hq p (List.mem_cons_self ..)⟩
theorem zgr {α:Type}{xs:List α}{f g:α→Bool}(h:∀ x∈xs,f x=g x):xs.any f=xs.any g:=by
 induction xs with
 | nil=>rfl
 | cons x xs ih=>rw [List.any_cons,List.any_cons,h x (List.mem_cons_self ..),ih fun y hy=>h y (List.mem_cons_of_mem _ hy)]
theorem Lst.on {ps:List Pt}(h:Lst ps){p:Pt}(hp:p∈ps)(b:Int):onF ps p.id b=p.needs.any (fun n=>n==b||onF ps n b):=by
 obtain ⟨l,r,rfl⟩:=List.append_of_mem hp
 obtain ⟨h1,h2⟩:=h.tail_ne
 rw [zed (fun q hq e=>by have:=h1 q hq;omega)]
 refine zgr fun n hn=>?_
 have hlt:=(h.has p hp n hn).1
 rw [zhf (ps:=l) (qs:=p::r)]
 intro q hq e
 rcases List.mem_cons.1 hq with rfl | hq
 ·
  omega
 ·
  have:=h1 q hq;omega
theorem Lst.on_iff {ps:List Pt}(h:Lst ps){p:Pt}(hp:p∈ps){b:Int}:onF ps p.id b=true↔ ∃ n∈p.needs,n=b∨onF ps n b=true:=by
 rw [h.on hp,List.any_eq_true]
 simp
theorem zrk {ps:List Pt}{a b:Int}(h:onF ps a b=true):∃ p∈ps,p.id=a:=by
 by_cases hx:∃ p∈ps,p.id=a
 ·
  exact hx
 ·
  rw [zmt (fun p hp e=>hx ⟨p,hp,e⟩)] at h;cases h
theorem Lst.ind {ps:List Pt}(h:Lst ps){M:Pt→Prop}(hs:∀ p∈ps,(∀ q∈ps,q.id<p.id→M q)→M p):∀ p∈ps,M p:=by
 have key:∀ (m:Nat) (q:Pt),q∈ps→q.id.toNat≤m→M q:=by
  intro m
  induction m with
  | zero=>
   intro q hq hm
   have:=h.pos q hq;omega
  | succ m ih=>
   intro q hq hm
   exact hs q hq fun r hr hlt=>ih r hr (by have:=h.pos r hr;omega)
 exact fun p hp=>key _ p hp (Nat.le_refl _)
theorem Lst.on_lt {ps:List Pt}(h:Lst ps){a b:Int}(hon:onF ps a b=true):b<a∧∃ q∈ps,q.id=b:=by
 obtain ⟨p,hp,rfl⟩:=zrk hon
 revert hon
 refine h.ind (M:=fun p=>onF ps p.id b=true→b<p.id∧∃ q∈ps,q.id=b) (fun p hp ih hon=>?_) p hp
 obtain ⟨n,hn,e⟩:=(h.on_iff hp).1 hon
 obtain ⟨h1,q,hq,rfl⟩:=h.has p hp n hn
 rcases e with rfl | e
 ·
  exact ⟨h1,q,hq,rfl⟩
 ·
  have:=ih q hq h1 e
  exact ⟨by omega,this.2⟩
theorem Lst.on_irr {ps:List Pt}(h:Lst ps){a:Int}:onF ps a a=false:=by
 cases hon:onF ps a a with
 | false=>rfl
 | true=>have:=(h.on_lt hon).1;omega
end
section
open Go Go.Kn Go.Proofs
theorem zqh {ps:List Pt}{f:Pt→Bool}{x:Int}:x∈(ps.filter f).map (·.id)↔ ∃ p∈ps,f p=true∧p.id=x:=by
 rw [List.mem_map]
 constructor
 ·
  rintro ⟨p,hp,e⟩
  exact ⟨p,(List.mem_filter.1 hp).1,(List.mem_filter.1 hp).2,e⟩
 ·
  rintro ⟨p,hp,hf,e⟩
  exact ⟨p,List.mem_filter.2 ⟨hp,hf⟩,e⟩
theorem zpb {ps:List Pt}(h0:orF (ps.map KL)=0)(h:lsB ps=true):Lst ps:=by
 have hk:∀ p∈ps,ndB p.id p.needs=true∧idB p=true∧Wy p=true:=fun p hp=>by
  have h1:=XS.1 h0 (KL p) (List.mem_map.2 ⟨p,hp,rfl⟩)
  unfold KL at h1
  split at h1
  ·
   cases h1
  ·
   split at h1
   ·
    rename_i h2
    simpa [Bool.and_eq_true] using h2
   ·
    cases h1
 unfold lsB at h
 rw [List.all_eq_true] at h
 refine ⟨fun p hp=>?_,?_,fun p hp n hn=>?_⟩
 ·
  have:=(hk p hp).2.1
  unfold idB at this
  simp at this
  omega
 ·
  refine Xs (R:=fun p q:Pt=>p.id<q.id) (fun a b c h1 h2=>Int.lt_trans h1 h2) fun k hk=>?_
  have h1:=h (k+1) (List.mem_range.2 hk)
  unfold lsP at h1
  rw [show (((k+1:Nat):Int)-1).toNat=k by omega,VZ (List.getElem?_eq_getElem hk),VZ (List.getElem?_eq_getElem (show k<ps.length by omega))] at h1
  simp at h1
  have:=h1.1
  omega
 ·
  obtain ⟨k,hk1,rfl⟩:=List.mem_iff_getElem.1 hp
  have h1:=h k (List.mem_range.2 hk1)
  unfold lsP at h1
  rw [VZ (List.getElem?_eq_getElem hk1)] at h1
  simp at h1
  refine ⟨?_,zaf.1 (h1.2 n hn)⟩
  obtain ⟨j,hj,rfl⟩:=List.mem_iff_getElem.1 hn
  have h2:=(hk _ hp).1
  unfold ndB at h2
  rw [List.all_eq_true] at h2
  have h3:=h2 j (List.mem_range.2 hj)
  unfold ndP at h3
  rw [VZ (List.getElem?_eq_getElem hj)] at h3
  simp at h3
  omega
end
section
open Go Go.Kn Go.Proofs
/-! ### Lists by keys -/
def isF (f:Int):Prop:=1≤f∧f≤9
end
section
open Go Go.Kn Go.Proofs
def zeI (x y:Int):Int:=if x<y then -1 else if x>y then 1 else 0
def zvB (n d:Int):List Value:=[.int .i64 n,.int .i64 d]
def zjD (n d:Int):Value:=.agg (zvB n d).toArray
theorem zk7 {n:Int}(h:0≤n∧n≤9223372036854775807):IntKind.u64.wrap n=n:=by
 unfold IntKind.wrap IntKind.signed IntKind.bits
 simp
 omega
theorem zqQ {n:Int}(hn: -1073741824≤n∧n≤1073741824)(h:¬n<0):IntKind.u64.wrap n=zh2 n:=by
 rw [zk7 (by omega)]
 unfold zh2;rw [if_neg h]
theorem zrs {n:Int}(hn: -1073741824≤n∧n≤1073741824)(h:n<0):IntKind.u64.wrap (0-IntKind.u64.wrap n)=zh2 n:=by
 unfold zh2;rw [if_pos h]
 unfold IntKind.wrap IntKind.signed IntKind.bits
 simp
 omega
def ztK (t b1 b2:Nat)(a b:Int):Go.Kn.Loc:=[(b2,.cells #[.int .u64 b] t (0,0)),(b1,.cells #[.int .u64 a] t (0,0))]
def zdl (a b:Nat):List Nat:=if a=0 then [] else if b=0 then [a,0] else if a % b=0 then [a,b] else a::zdl b (a % b)
termination_by b
decreasing_by exact Nat.mod_lt _ (by omega)
theorem zdM (b:Nat):zdl 0 b=[]:=by rw [zdl];rfl
theorem zcl {a b:Nat}(ha:a≠0)(hb:b≠0)(h:a % b=0):zdl a b=[a,b]:=by rw [zdl,if_neg ha,if_neg hb,if_pos h]
theorem zd3 {a b:Nat}(ha:a≠0)(hb:b≠0)(h:a % b≠0):zdl a b=a::zdl b (a % b):=by rw [zdl,if_neg ha,if_neg hb,if_neg h]
theorem znb:∀ (m:Nat) {a b d:Nat},b≤m→b≠0→(a=0→d=b)→(zdl a b).getLastD d=Nat.gcd a b:=by
 intro m
 induction m with
 | zero=>intro a b d h1 h2;omega
 | succ m ih=>
  intro a b d h1 h2 hd
  by_cases ha:a=0
  ·
   subst ha;rw [zdM,Nat.gcd_zero_left,hd rfl];rfl
  ·
   by_cases h:a % b=0
   ·
    rw [zcl ha h2 h]
    show b=_
    rw [Nat.gcd_comm,Nat.gcd_rec,h,Nat.gcd_zero_left]
   ·
    rw [zd3 ha h2 h,List.getLastD_cons,ih (by have:=Nat.mod_lt a (show 0<b by omega);omega) h (fun e=>absurd e h2)]
    rw [Nat.gcd_comm b,←Nat.gcd_rec,Nat.gcd_comm]
theorem znt (a b:Nat):((a:Int)).tmod (b:Int)=((a % b:Nat):Int):=by
 rw [Int.tmod_eq_emod_of_nonneg (by omega)];rfl
theorem zs2 {a b:Int}(ha: -1073741824≤a∧a≤1073741824)(hb: -1073741824≤b∧b≤1073741824): -9223372036854775808≤a*b∧a*b≤9223372036854775807:=by
 have h1:(a*b).natAbs≤1073741824*1073741824:=by
  rw [Int.natAbs_mul]
  exact Nat.mul_le_mul (by omega) (by omega)
 omega
def zr6 (n d:Int):Int:=if zaG n d then 0 else 120
theorem zkN {n d:Int}(h:zaG n d=true):(1≤d∧d≤1073741824)∧ -1073741824≤n∧n≤1073741824:=by
 unfold zaG at h
 simp at h
 omega
theorem zqB (n d:Int):Nat.gcd (zh2 n).toNat d.toNat=Int.gcd n d.toNat:=by
 unfold Int.gcd zh2
 congr 1
 split<;>omega
theorem ZF {b:Nat}(h:0<b):zd4 (b:Int) 1=(b:Int):=by
 unfold zd4
 split<;>omega
theorem zjn {a0 b0 a b:Nat}{pre:List Nat}(h:zdl a0 b0=pre++zdl a b)(ha:a≠0):pre++[a]<+:zdl a0 b0:=by
 rw [h,zdl,if_neg ha]
 have key:∀ l:List Nat,pre++[a]<+:pre++a::l:=fun l=>⟨l,by simp⟩
 split
 ·
  exact key _
 ·
  split<;>exact key _
theorem zh9 {l:List Nat}{x d:Nat}:(l++[x]).getLastD d=x:=by simp [List.getLastD_eq_getLast?]
theorem zqF {n d:Int}(h:((((decide (d<1)||decide (d>1073741824))||decide (n< -1073741824))||decide (n>1073741824))||(zvq n d != 1))=true):zaG n d=false:=by unfold zaG;rw [h];rfl
theorem znN {n d:Int}(h:((((decide (d<1)||decide (d>1073741824))||decide (n< -1073741824))||decide (n>1073741824))||(zvq n d != 1))=false):zaG n d=true:=by unfold zaG;rw [h];rfl
/-! ### Fields as cells -/
def foF (f:Int):Nat:=if f=1 then 1 else if f=2 then 2 else if f=3 then 3 else if f=4 then 5 else if f=5 then 6 else if f=6 then 7 else if f=7 then 8 else 9
def ztV (x:Sg)(f:Int):Int:=if f=1 then x.role else if f=2 then x.bar else if f=3 then x.mark else if f=4 then x.side else if f=5 then x.dir else if f=6 then x.level else if f=7 then x.size else x.wth
def zwg (b:Nat):List Value:=[.pointer none,.pointer (some ⟨b,0+1,none⟩),.pointer (some ⟨b,0+2,none⟩),.pointer (some ⟨b,0+3,none⟩),.pointer (some ⟨b,0+5,none⟩),.pointer (some ⟨b,0+6,none⟩),.pointer (some ⟨b,0+7,none⟩),.pointer (some ⟨b,0+8,none⟩),.pointer (some ⟨b,0+9,none⟩)]
theorem zaY {f:Int}(h:1≤f∧f≤8):f=1∨f=2∨f=3∨f=4∨f=5∨f=6∨f=7∨f=8:=by omega
theorem zb5 {f:Int}(h:1≤f∧f≤8)(b:Nat):(zwg b)[f.toNat*1]? =some (.pointer (some ⟨b,foF f,none⟩)):=by
 rcases zaY h with rfl | rfl | rfl | rfl | rfl | rfl | rfl | rfl<;>rfl
theorem zfP {f:Int}(h:1≤f∧f≤8)(x:Sg):zhW (zhX x) (foF f)=some (.int .i64 (ztV x f)):=by
 rcases zaY h with rfl | rfl | rfl | rfl | rfl | rfl | rfl | rfl<;>rfl
theorem zqj {f:Int}:Nat.blt (foF f) 14=true:=by
 unfold foF
 repeat' split
 all_goals rfl
theorem ziA {f:Int}(h:1≤f∧f≤8)(x y:Sg):(zhX x).toArray.setIfInBounds (foF f) (.int .i64 (ztV y f))=(zhX (zmq x f y)).toArray:=by
 rcases zaY h with rfl | rfl | rfl | rfl | rfl | rfl | rfl | rfl<;>rfl
def zhy (v:List Int)(k:Nat)(l:Int):Prop:=(k=0→l=0)∧∀ y,v[k-1]? =some y→k≠0→l=y
theorem zb2 {v:List Int}{k:Nat}{x:Int}(hx:v[k]? =some x):zhy v (k+1) x:=⟨fun h=>by omega,fun y hy _=>by simp at hy;rw [hx] at hy;cases hy;rfl⟩
theorem zt4 {id:Int}{v:List Int}{k:Nat}{l x:Int}(hall:(List.range k).all (ndP id v)=true)(hl:zhy v k l)(hx:v[k]? =some x):ndP id v k= !(decide (x≤l)||decide (x≥id)):=by
 unfold ndP
 rw [VZ hx]
 cases k with
 | zero=>
  rw [hl.1 rfl]
  rw [Bool.eq_iff_iff];simp;omega
 | succ k=>
  have hk:=(List.getElem?_eq_some_iff.1 hx).1
  have hy:v[k]? =some (v[k]'(by omega)):=List.getElem?_eq_getElem _
  have e:=hl.2 _ (by rw [Nat.add_sub_cancel];exact hy) (by omega)
  rw [show (((k+1:Nat):Int)-1).toNat=k by omega,VZ hy,←e]
  have h1:1≤l:=by
   rw [List.all_eq_true] at hall
   have:=hall k (List.mem_range.2 (by omega))
   unfold ndP at this
   rw [VZ hy] at this
   simp at this
   omega
  rw [Bool.eq_iff_iff];simp;omega
theorem ztf {p:Pt}(h:p.needs.length>32):KL p=2:=by unfold KL;rw [if_pos h]
theorem zsR {p:Pt}(h:¬p.needs.length>32)(h2:ndB p.id p.needs=false):KL p=370:=by unfold KL;rw [if_neg h,h2];rfl
theorem zd9 {p:Pt}(h:¬p.needs.length>32)(h2:ndB p.id p.needs=true)(h3:(idB p&&Wy p)=false):KL p=370:=by unfold KL;rw [if_neg h,h2,h3];rfl
theorem zgL {p:Pt}(h:¬p.needs.length>32)(h2:ndB p.id p.needs=true)(h3:(idB p&&Wy p)=true):KL p=0:=by unfold KL;rw [if_neg h,h2,h3];rfl
theorem ztY {p:Pt}(h:p.kind=1)(h2:within p.field 1 9=true):Wy p=(zlZ (zmq p.nw p.field KY) KY&&frm (zmq zlh p.field p.nw)):=by unfold Wy;rw [if_pos h,h2,Bool.true_and]
theorem zvi {p:Pt}(h:p.kind=1)(h2:within p.field 1 9=false):(idB p&&Wy p)=false:=by unfold Wy;rw [if_pos h,h2,Bool.false_and,Bool.and_false]
theorem zs4 {p:Pt}(h:p.kind=2):Wy p=(p.field==0&&(p.nw.id==p.sign&&frm p.nw)):=by unfold Wy;rw [if_neg (by omega),if_pos h]
theorem ztF {p:Pt}(h:p.kind=3):Wy p=(p.field==0&&zlZ p.nw KY):=by unfold Wy;rw [if_neg (by omega),if_neg (by omega),if_pos h]
theorem zv5 {p:Pt}(h1:p.kind≠1)(h2:p.kind≠2)(h3:p.kind≠3):(idB p&&Wy p)=false:=by unfold Wy;rw [if_neg h1,if_neg h2,if_neg h3,Bool.and_false]
theorem zkv {fn fd tn td:Int}:(zr6 fn fd != 0||zr6 tn td != 0)= !(zaG fn fd&&zaG tn td):=by
 unfold zr6
 cases zaG fn fd<;>cases zaG tn td<;>rfl
def ztw (an ad bn bd:Int):Int:=if zaG an ad&&zaG bn bd then 0 else 120
def zsq (an ad bn bd:Int):Int:=if zaG an ad&&zaG bn bd then zeI (an*bd) (bn*ad) else 0
theorem zqd {fn fd tn td:Int}:(((ztw fn fd tn td==0)&&decide (zsq fn fd tn td<0))&&decide (fn≥0)&&decide (tn≤td))=zms fn fd tn td:=by
 unfold ztw zsq zms zeI
 cases h:(zaG fn fd&&zaG tn td) with
 | false=>rfl
 | true=>
  simp only [if_true,Bool.true_and]
  by_cases h2:fn*td<tn*fd
  ·
   simp [h2,Bool.and_assoc]
  ·
   by_cases h3:fn*td>tn*fd<;>simp [h2,h3]
theorem zoG {xs:List Sg}{k:Nat}{x:Sg}(hx:xs[k]? =some x):skP xs k= !(!frm x||(decide ((k:Int)>0)&&decide ((xs.getD ((k:Int)-1).toNat KY).id≥x.id))):=by unfold skP;rw [VZ hx]
end
end Go.Proofs.YtjblkbkmblkgoaaGreat
namespace Go.Proofs.YtjblkbkmblkgoaaGreat.L
section
open Go Go.Kn Go.Proofs
structure Ls where
 no:Int
 person:Int
 version:Int
 at_:Int
 known:Int
def encL (x:Ls):List Value:=[.int .i64 x.no,.int .i64 x.person,.int .i64 x.version,.int .i64 x.at_,.int .i64 x.known]
def encA (x:Ls):Value:=.agg (encL x).toArray
def Yk (n:Int):List Value:=[.int .i64 n]
def zeroL:Ls:=⟨0,0,0,0,0⟩
theorem encL_len (x:Ls):(encL x).length=5:=rfl
theorem Zx (x:Int):(Yk x).length=1:=rfl
theorem zbh (xs:List Int):YZ (xs.flatMap Yk)=true:=YV (fun _=>rfl) xs
def lsEq (x y:Ls):Bool:=x.no==y.no&&(x.person==y.person&&(x.version==y.version&&(x.at_==y.at_&&(x.known==y.known&&true))))
theorem lsEq_iff {x y:Ls}:lsEq x y=true↔x=y:=by
 obtain ⟨a,b,c,d,e⟩:=x
 obtain ⟨a',b',c',d',e'⟩:=y
 simp [lsEq]
instance : DecidableEq Ls := fun a b => decidable_of_iff (lsEq a b = true) lsEq_iff
def within (n lo hi:Int):Bool:=decide (n≥lo)&&decide (n≤hi)
def zbp (x:Ls):Bool:=within x.no 0 1048576&&within x.person 0 63&&within x.version 0 512&&within x.at_ 0 73048&&within x.known 0 134217727
def ztz (xs:List Ls)(i:Nat):Ls:=xs.getD ((i:Int)-1).toNat zeroL
def ckP (xs:List Ls)(i:Nat):Bool:= !(!zbp (xs.getD i zeroL)||(decide ((i:Int)>0)&&decide ((xs.getD i zeroL).no≤(ztz xs i).no)))
def ckB (xs:List Ls):Bool:=(List.range xs.length).all (ckP xs)
def chk (xs:List Ls):Int:=if xs.length>4096 then 2 else if ckB xs then 0 else 390
theorem KA {p:Nat→Bool}{k:Nat}(h:(List.range k).all p=true)(hp:p k=true):(List.range (k+1)).all p=true:=by
 rw [List.range_succ,List.all_append,h];simpa using hp
theorem K3 {p:Nat→Bool}{n k:Nat}(hk:k<n)(hp:p k=false):(List.range n).all p=false:=by
 cases h:(List.range n).all p with
 | false=>rfl
 | true=>
  rw [List.all_eq_true] at h
  rw [h k (List.mem_range.2 hk)] at hp;cases hp
theorem VZ {α:Type}{xs:List α}{k:Nat}{x d:α}(h:xs[k]? =some x):xs.getD k d=x:=by simp [List.getD,h]
theorem zaZ {α:Type}{xs:List α}{n k:Nat}{d:α}(hl:xs.length=n)(h:k<n):xs[k]? =some (xs.getD k d):=by
 have:k<xs.length:=by omega
 unfold List.getD
 rw [List.getElem?_eq_getElem this];rfl
section
variable {xs:List Ls} {vss:List (List Int)} {person day time:Int} {ts:List Int}
end
theorem Xs {α:Type}{R:α→α→Prop}(ht:∀ a b c,R a b→R b c→R a c){l:List α}(h:∀ k (hk:k+1<l.length),R (l[k]'(by omega)) l[k+1]):l.Pairwise R:=by
 have key:∀ (n i:Nat) (hn:i+n<l.length),0<n→R (l[i]'(by omega)) l[i+n]:=by
  intro n
  induction n with
  | zero=>intro i _ h0;omega
  | succ n ih=>
   intro i hn _
   have h2:=h (i+n) (by omega)
   by_cases e:n=0
   ·
    subst e;exact h2
   ·
    exact ht _ _ _ (ih i (by omega) (by omega)) h2
 rw [List.pairwise_iff_getElem]
 intro i j hi hj hij
 have:=key (j-i) i (by omega) (by omega)
 simpa [show i+(j-i)=j by omega] using this
end
end Go.Proofs.YtjblkbkmblkgoaaGreat.L
namespace Go.Proofs.YtjblkbkmblkgoaaGreat.S
section
open Go Go.Kn
structure Rt where
 no:Int
 kind:Int
 edition:Int
 holder:Int
 sign:Int
 ends:Int
 name:ByteArray
 town:ByteArray
 lo:Int
 hi:Int
 known:Int
def encR (x:Rt):List Value:=[.int .i64 x.no,.int .i64 x.kind,.int .i64 x.edition,.int .i64 x.holder,.int .i64 x.sign,.int .i64 x.ends,.string x.name,.string x.town,.int .i64 x.lo,.int .i64 x.hi,.int .i64 x.known]
def encA (x:Rt):Value:=.agg (encR x).toArray
def Yk (n:Int):List Value:=[.int .i64 n]
def W5 (p:Int×Int):List Value:=[.int .i64 p.1,.int .i64 p.2]
def zeroR:Rt:=⟨0,0,0,0,0,0,⟨#[]⟩,⟨#[]⟩,0,0,0⟩
theorem encR_len (x:Rt):(encR x).length=11:=rfl
theorem Zx (x:Int):(Yk x).length=1:=rfl
theorem Kf (x:Int×Int):(W5 x).length=2:=rfl
def rtEq (x y:Rt):Bool:=
 x.no==y.no&&(x.kind==y.kind&&(x.edition==y.edition&&(x.holder==y.holder&&(x.sign==y.sign&&(x.ends==y.ends&&(UC x.name y.name&&(UC x.town y.town&&(x.lo==y.lo&&(x.hi==y.hi&&(x.known==y.known&&true))))))))))
theorem rtEq_iff {x y:Rt}:rtEq x y=true↔x=y:=by
 cases x;cases y
 simp only [rtEq,Bool.and_eq_true,beq_iff_eq,zej,Rt.mk.injEq,and_true]
def within (n lo hi:Int):Bool:=decide (lo≤n)&&decide (n≤hi)
def w64 (n:Int):Int:=IntKind.i64.wrap n
def zrD (x:Rt):Bool:=decide (x.lo≥0)&&decide (x.lo≤x.hi)&&decide (x.hi≤73048)&&within x.edition 0 1048576
def heldF (x:Rt):Bool:=rtEq x {x with ends:=0,name:=⟨#[]⟩,town:=⟨#[]⟩ }&&zrD x&&within x.holder 0 63&&within x.sign 0 1048577
def billF (x:Rt):Bool:=rtEq x {x with holder:=0,sign:=0,ends:=0}&&zrD x&&within x.name.size 1 32&&within x.town.size 1 32
def voidF (x:Rt)(bs:List (Int×Rt)):Bool:=match ZS bs (w64 (x.ends-1)) with
 | none=>false
 | some old=>(old.kind != 4)&&decide (old.known≤x.known)&&rtEq x {zeroR with no:=x.no,kind:=x.kind,ends:=x.ends,known:=x.known}
def zkF (k:Int):Bool:=k==1||k==2||k==3||k==4
def askF (k:Int)(x:Rt)(bs:List (Int×Rt)):Bool:=if k=1 then billF x else if k=2 then heldF x else if k=3 then heldF x else voidF x bs
def rBad (x:Rt)(bs:List (Int×Rt))(last:Int):Bool:= !zkF x.kind||decide (x.no≤last)||decide (x.no>1048576)|| !within x.known 0 134217727|| !askF x.kind x bs
def rGo:List Rt→List (Int×Rt)→Int→Int
 | [],_,_=>0
 | x::xs,bs,last=>if rBad x bs last then 460 else rGo xs (JJ bs x.no x) x.no
def rCheck (xs:List Rt):Int:=if xs.length>512 then 2 else rGo xs [] (-1)
instance : DecidableEq Rt := fun a b => decidable_of_iff (rtEq a b = true) rtEq_iff
theorem Wt {α:Type}{xs:List α}{k:Nat}{x:α}(h:xs[k]? =some x):xs.drop k=x::xs.drop (k+1):=by
 obtain ⟨hk,rfl⟩:=List.getElem?_eq_some_iff.1 h
 exact List.drop_eq_getElem_cons hk
end
end Go.Proofs.YtjblkbkmblkgoaaGreat.S
namespace Go.Proofs.YtjblkbkmblkgoaaGreat
section
open Go Go.Kn Go.Proofs
structure Nt where
 kind:Int
 lm:Lm
 pt:Pt
 ls:L.Ls
 rt:S.Rt
def Zn (x:Nt):List Value:=[.int .i64 x.kind,.int .i64 x.lm.no,.int .i64 x.lm.person,.int .i64 x.lm.ends,.int .i64 x.lm.lo,.int .i64 x.lm.hi,.int .i64 x.lm.known,.int .i64 x.lm.ck,.int .i64 x.lm.cl,.int .i64 x.lm.cn,.int .i64 x.pt.id,.int .i64 x.pt.kind,.int .i64 x.pt.sign,.int .i64 x.pt.field,.int .i64 x.pt.nw.id,.int .i64 x.pt.nw.role,.int .i64 x.pt.nw.bar,.int .i64 x.pt.nw.mark,.int .i64 x.pt.nw.kind,.int .i64 x.pt.nw.side,.int .i64 x.pt.nw.dir,.int .i64 x.pt.nw.level,.int .i64 x.pt.nw.size,.int .i64 x.pt.nw.wth,.int .i64 x.pt.nw.fn,.int .i64 x.pt.nw.fd,.int .i64 x.pt.nw.tn,.int .i64 x.pt.nw.td,.slice x.pt.a x.pt.n x.pt.c,.int .i64 x.ls.no,.int .i64 x.ls.person,.int .i64 x.ls.version,.int .i64 x.ls.at_,.int .i64 x.ls.known,.int .i64 x.rt.no,.int .i64 x.rt.kind,.int .i64 x.rt.edition,.int .i64 x.rt.holder,.int .i64 x.rt.sign,.int .i64 x.rt.ends,.string x.rt.name,.string x.rt.town,.int .i64 x.rt.lo,.int .i64 x.rt.hi,.int .i64 x.rt.known]
def JK (x:Nt):Value:=.agg (Zn x).toArray
theorem Q4 (x:Nt):(Zn x).length=45:=rfl
theorem zoL (xs:List S.Rt):YZ (xs.flatMap S.encR)=true:=YV (fun _=>rfl) xs
theorem Xf (xs:List Nt):YZ (xs.flatMap Zn)=true:=YV (fun _=>rfl) xs
def zbD:Nt:=⟨0,V3,Jv,L.zeroL,S.zeroR⟩
def zmp (x y:Lm):Bool:=x.no==y.no&&(x.person==y.person&&(x.ends==y.ends&&(x.lo==y.lo&&(x.hi==y.hi&&(x.known==y.known&&(x.ck==y.ck&&(x.cl==y.cl&&(x.cn==y.cn&&true))))))))
theorem zk8 {x y:Lm}:zmp x y=true↔x=y:=by
 obtain ⟨a1,a2,a3,a4,a5,a6,a7,a8,a9⟩:=x
 obtain ⟨b1,b2,b3,b4,b5,b6,b7,b8,b9⟩:=y
 simp [zmp]
def z1 (x:Nt):Bool:=zmp x.lm V3
def z2 (x:Nt):Bool:=((((x.pt.id==0&&x.pt.kind==0)&&x.pt.sign==0)&&x.pt.field==0)&&zlZ x.pt.nw KY)&&((x.pt.n:Int)==0)
def z3 (x:Nt):Bool:=L.lsEq x.ls L.zeroL
def z4 (x:Nt):Bool:=S.rtEq x.rt S.zeroR
def zf4 (x:Nt):Bool:=(((x.kind==1||z1 x)&&(x.kind==2||z2 x))&&(x.kind==3||z3 x))&&(x.kind==4||z4 x)
theorem WA {m:List (Int×Bool)}{k j:Int}{b:Bool}(h:ZS m j=some b):(ZS (JJ m k true) j).getD false=(k==j||b):=by
 rw [Ua]
 by_cases e:k=j
 ·
  simp [e]
 ·
  rw [if_neg e,h];simp [e]
theorem zmY {m:List (Int×Bool)}{x:Nt}(h1:ZS m 1=some (z1 x))(h2:ZS m 2=some (z2 x))(h3:ZS m 3=some (z3 x))(h4:ZS m 4=some (z4 x)):
  (((ZS (JJ m x.kind true) 1).getD false&&(ZS (JJ m x.kind true) 2).getD false)&&(ZS (JJ m x.kind true) 3).getD false&&(ZS (JJ m x.kind true) 4).getD false)=zf4 x:=by
 rw [WA h1,WA h2,WA h3,WA h4];rfl
def lmC (x:Lm):List Lm:=if x.ends=0 then [x] else [⟨IntKind.i64.wrap (x.ends-1),x.person,0,0,0,0,3,0,1⟩,x]
def rtC (x:S.Rt):List S.Rt:=if x.ends=0 then [x] else [⟨IntKind.i64.wrap (x.ends-1),1,0,0,0,0,⟨#[97]⟩,⟨#[97]⟩,0,0,0⟩,x]
def zbF (x:Nt):Int:=if x.kind=1 then zh0 (lmC x.lm) else if x.kind=2 then KL x.pt else if x.kind=3 then L.chk [x.ls] else if x.kind=4 then S.rCheck (rtC x.rt) else 570
def Q7 (x:Nt):Bool:=zbF x==0&&zf4 x
def vcI (n:Int):Vc:=⟨1,n,⟨#[]⟩,none,0,0⟩
def vcT (s:ByteArray):Vc:=⟨2,0,s,none,0,0⟩
def zwS (v:Value):Value:=.agg #[.int .i64 3,.int .i64 0,.string ⟨#[]⟩,v]
def zhV:List Nat:=[0,1,2,3,4,5,6,7,8,9,10,11,12,13,14,15,16,17,18,19,20,21,22,23,24,25,26,27,29,30,31,32,33,34,35,36,37,38,39,42,43,44]
def zqU (b:Nat):List Value:=zhV.map fun o=>.pointer (some ⟨b,o,none⟩)
def zwh (b:Nat):Value:=.agg (zqU b).toArray
end
end Go.Proofs.YtjblkbkmblkgoaaGreat
namespace Go.Kn
section
open Go Go.Sort Go.Shelf Go.Lib Go.Proofs
theorem zmP {w w':World}{L:Loc}(h:St w (fun b=>w.heap[b]?) (fun _=>none) L w'):∃ q os',w'=grow (w.drewN q) os':=by
 refine ⟨w'.drawn-w.drawn,w'.heap.extract w.heap.size w'.heap.size,?_⟩
 have h1:=h.size
 have hh:w.heap++w'.heap.extract w.heap.size w'.heap.size=w'.heap:=by
  apply Array.ext'
  apply List.ext_getElem?
  intro i
  by_cases hi:i<w.heap.size
  ·
   have:=h.imm i _ (Array.getElem?_eq_getElem hi)
   rw [Array.getElem?_toList,Array.getElem?_toList,this,Array.getElem?_append_left hi,Array.getElem?_eq_getElem hi]
  ·
   rw [Array.getElem?_toList,Array.getElem?_toList,Array.getElem?_append_right (by omega),Array.getElem?_extract]
   by_cases h2:i<w'.heap.size
   ·
    rw [if_pos (by omega),show w.heap.size+(i-w.heap.size)=i by omega]
   ·
    rw [if_neg (by omega),Array.getElem?_eq_none (by omega)]
 have e1:=h.os;have e2:=h.tape;have e3:=h.out
 cases w;cases w'
 simp only [grow,World.drewN] at*
 subst e1;subst e2;subst e3
 simp only [World.mk.injEq,true_and,and_true]
 exact ⟨hh.symm,by omega⟩
theorem zja {α:Type}[Inhabited α]{enc:α→List Value}{k:Nat}(hk:∀ x,(enc x).length=k)(hpos:0<k)(xs:List α):flatK enc k xs.toArray=(xs.flatMap enc).toArray:=by
 have hl:(xs.flatMap enc).length=xs.length*k:=YS hk xs
 apply Array.ext
 ·
  rw [size_flatK];simp [hl]
 ·
  intro t h1 h2
  have ht:t<xs.length*k:=by rw [size_flatK] at h1;simpa using h1
  have hq:t / k<xs.length:=by rw [Nat.div_lt_iff_lt_mul hpos];exact ht
  have hr:t % k<k:=Nat.mod_lt _ hpos
  have hx:xs[t / k]? =some xs[t / k]:=List.getElem?_eq_getElem hq
  have hu:(enc xs[t / k])[t % k]? =some ((enc xs[t / k])[t % k]'(by rw [hk];exact hr)):=List.getElem?_eq_getElem _
  have h3:=zbr hk xs (t / k) _ hx (t % k) _ hu
  rw [Nat.mul_comm,Nat.div_add_mod] at h3
  have h4:=get_flatK enc k xs.toArray t (by simpa using ht)
  rw [getElem!_pos (flatK enc k xs.toArray) t h1] at h4
  rw [h4]
  have e1:xs.toArray[t / k]! =xs[t / k]'hq:=by simp [hq]
  rw [e1]
  have e2:(enc (xs[t / k]'hq))[t % k]! =(enc (xs[t / k]'hq))[t % k]'(by rw [hk];exact hr):=getElem!_pos (enc (xs[t / k]'hq)) (t % k) (by rw [hk];exact hr)
  rw [e2]
  have e3:(xs.flatMap enc).toArray[t]? =some ((enc xs[t / k])[t % k]'(by rw [hk];exact hr)):=by simpa using h3
  rw [Array.getElem?_eq_getElem h2] at e3
  exact (Option.some.inj e3).symm
end
end Go.Kn
namespace Go.Proofs.YtjblkbkmblkgoaaGreat
section
open Go Go.Kn Go.Proofs
theorem Ve:ElT Tryz.prog 57 45 45 392:=.of (by kernel_rfl)
theorem Wh:ElT Tryz.prog 62 32 9 72:=.of (by kernel_rfl)
theorem Wq:ElT Tryz.prog 65 43 11 104:=.of (by kernel_rfl)
theorem Zu:SlT Tryz.prog 57 45 45:=.of (by kernel_rfl)
theorem YA:SlT Tryz.prog 65 43 11:=.of (by kernel_rfl)
theorem zmH:Tryz.prog.underlying 3=some (.int .i64):=by kernel_rfl
theorem zlF {zs:List Value}{a b:Nat}(h:a+b≤zs.length):∃ p q r,zs=p++(q++r)∧p.length=a∧q.length=b:=
 ⟨zs.take a,(zs.drop a).take b,(zs.drop a).drop b,by rw [List.take_append_drop,List.take_append_drop],by rw [List.length_take];omega,by rw [List.length_take,List.length_drop];omega⟩
theorem znW (xs:List Lm):(xs.flatMap ZJ).length=xs.length*9:=YS Yt xs
theorem zcS {b n c:Nat}{xs:List Lm}{cur rest:List Value}(hl:xs.length=n)(hn:n≤c)(hc:c≤maxLen)(hcur:cur=xs.flatMap ZJ++rest)(hs:cur.length=c*9):Yp 32 9 (.slice (some ⟨b,0,none⟩) n c) n (xs.flatMap ZJ) [(b,.cells cur.toArray 32 (0,0))]:=by
 subst hcur
 refine ⟨by rw [znW,hl],.inr ⟨b,c,_,rfl,rfl,hn,hc,by simpa using hs,?_⟩⟩
 rw [List.take_left' (by rw [znW,hl])]
theorem zhw {I:Qv}{av:Option Addr}{n c:Nat}{xs:List Lm}{L:Go.Kn.Loc}(hO:Yp 32 9 (.slice av n c) n (xs.flatMap ZJ) L)(hn:n≤100000)(hl:xs.length=n)(b2:Nat)(y:Lm):Vi Tryz.prog 170 [.slice av n c,.int .i64 n,.slice (some ⟨b2,0,none⟩) 1 1] I (L++[(b2,.cells [ZJ y].flatten.toArray 32 (0,0))]) (fun v' I' L'=>I'=I∧Yp 32 9 v' (n+1) ((xs.take n++y::xs.drop n).flatMap ZJ) L'):=by
 intro g H w hw
 refine qe Tryz.func170 Tryz.ntmps170 hw ?_
 refine zR (zA ?_)
 refine zN (zR ?_)
 refine zM ?_
 refine zM ?_
 refine zV (Vg rfl rfl Yu (fun hg=>by omega)) ?_
 refine zN (zR ?_)
 refine zM ?_
 refine zQ Yu ?_
 refine zA (zN (Qq (zR ?_)))
 refine zM ?_
 refine zC (zN ?_)
 refine zI ?_ ?_<;>intro hc16
 ·
  exact absurd hc16 (by decide)
 refine Qw (Qc (zR (zM ?_)))
 refine zQ Yu ?_
 refine zA (zN (Qq (zR ?_)))
 refine zM ?_
 refine zM ?_
 refine zC (zN ?_)
 refine zI ?_ ?_<;>intro hc22
 ·
  refine zR (zM ?_)
  refine zM ?_
  refine QX (v:=_) (ys:=[ZJ y].flatten) (L:=L) rfl rfl Wh hO (by repeat (first | exact .cons .here .nil | exact Qu | exact Qr | apply Qp | apply Qo)) ⟨rfl,fun _=>rfl,.app zxb⟩ rfl (by omega) rfl rfl ?_
  intro v' L' hO' _
  refine zA (zN (QF (Qi ?_)))
  exact QP rfl rfl (fun w hw=>⟨_,I,_,rfl,zxd _,hw.subL QN,rfl,by rw [List.take_of_length_le (by omega),List.drop_eq_nil_of_le (by omega)];simpa [List.flatMap_append] using hO'⟩)
 exact absurd hc22 (by simp)
theorem zj3 {I:Qv}{b n c i:Nat}{xs:List Lm}{R:List Value}(hl:xs.length=n)(hi:i<n)(hn:n≤100000)(hnc:n≤c)(hcm:c≤maxLen)(hR:(((xs.take i).flatMap ZJ)++((xs.drop i).flatMap ZJ)++R).length=c*9)(b2:Nat)(hne:b2≠b)(y:Lm):Vi Tryz.prog 170 [.slice (some ⟨b,0,none⟩) n c,.int .i64 i,.slice (some ⟨b2,0,none⟩) 1 1] I ([(b,.cells (((xs.take i).flatMap ZJ)++((xs.drop i).flatMap ZJ)++R).toArray 32 (0,0)),(b2,.cells [ZJ y].flatten.toArray 32 (0,0))]) (fun v' I' L'=>I'=I∧Yp 32 9 v' (n+1) ((xs.take i++y::xs.drop i).flatMap ZJ) L'):=by
 intro g H w hw
 refine qe Tryz.func170 Tryz.ntmps170 hw ?_
 have hA:((xs.take i).flatMap ZJ).length=i*9:=by rw [znW,List.length_take];omega
 have hB:((xs.drop i).flatMap ZJ).length=(n-i)*9:=by rw [znW,List.length_drop];omega
 have hY:[ZJ y].flatten.length=9:=rfl
 refine zR (zA ?_)
 refine zN (zR ?_)
 refine zM ?_
 refine zM ?_
 refine zV (ZA rfl rfl Yu (by omega)) ?_
 refine zN (zR ?_)
 refine zM ?_
 refine zQ Yu ?_
 refine zA (zN (Qq (zR ?_)))
 refine zM ?_
 refine zC (zN ?_)
 refine zI ?_ ?_<;>intro hc16
 ·
  exact absurd hc16 (by decide)
 refine Qw (Qc (zR (zM ?_)))
 refine zQ Yu ?_
 refine zA (zN (Qq (zR ?_)))
 refine zM ?_
 refine zM ?_
 refine zC (zN ?_)
 refine zI ?_ ?_<;>intro hc22
 ·
  have h:=hc22;simp at h;omega
 refine Qw (Qc (Qq (zR (zM ?_))))
 refine zM ?_
 refine zB ?_
 refine zM ?_
 refine zV (zkl rfl Yu) ?_
 refine zC (zN ?_)
 refine zI ?_ ?_<;>intro hc31
 ·
  have hgr:c<n+1:=by have h:=hc31;simp at h;omega
  refine zR (zM ?_)
  refine zM ?_
  refine zV (VQ rfl rfl Yu (fun hg=>by omega)) ?_
  refine zM ?_
  refine zM ?_
  refine zB ?_
  refine zM ?_
  refine zB ?_
  refine Xh (ys:=((xs.take i).flatMap ZJ)) rfl rfl Wh zmH (by omega) (by decide) (by omega) hA (Cells.part (pre:=[]) (post:=((xs.drop i).flatMap ZJ)++R) (by rw [List.nil_append,←List.append_assoc];exact .here) rfl) (by omega) rfl rfl (fun b3 c3 zs hc3 hm3 hz3=>?_)
  obtain ⟨z1,z2,z3,rfl,hz1,hz2⟩:=zlF (zs:=zs) (a:=9) (b:=(n-i)*9) (by rw [List.length_append,hA] at hz3;omega)
  refine zA ?_
  refine zN (zR ?_)
  refine zM ?_
  refine zM ?_
  refine zV (ZA rfl rfl Yu (by omega)) ?_
  refine zM ?_
  refine Ju (pre:=((xs.take i).flatMap ZJ)) (old:=z1) (post:=z2++z3) (vs:=[ZJ y].flatten) (cur':=(((xs.take i).flatMap ZJ)++[ZJ y].flatten++(z2++z3)).toArray) (by rw [List.append_assoc]) rfl rfl rfl Yu (by show 9=_;simp only [Nat.min_def];split<;>omega) (by rw [hz1];rfl) (by omega) (fun _=>rfl) (.there (.there .here)) rfl rfl rfl .here ?_
  refine zN (Qq ?_)
  have hD:=zxd I
  refine ZL ?_
  refine Q0 I [] mixed ?_
  refine zT 0 rfl (Qh rfl) hD ?_
  refine zT 1 rfl (Qh rfl) hD ?_
  refine zT 2 rfl (Qh rfl) hD ?_
  refine zT 3 rfl (VO rfl rfl rfl (fun _=>by omega)) hD ?_
  refine zT 4 rfl (ZA rfl rfl Yu (by omega)) hD ?_
  refine zT 5 rfl (Qh rfl) hD ?_
  refine zT 6 rfl (Qh rfl) hD ?_
  refine zT 7 rfl (ZA rfl rfl Yu (by omega)) hD ?_
  refine qd 8 rfl ?_
  refine Ju (pre:=((xs.take i).flatMap ZJ)++[ZJ y].flatten) (old:=z2) (post:=z3) (vs:=((xs.drop i).flatMap ZJ)) (cur':=(((xs.take i).flatMap ZJ)++[ZJ y].flatten++((xs.drop i).flatMap ZJ)++z3).toArray) (by rw [List.append_assoc,List.append_assoc,List.append_assoc]) rfl rfl rfl Yu (by rw [hB];simp only [Nat.min_def];split<;>omega) (by rw [hz2,hB]) (by rw [List.length_append,hA,hY];omega) (fun _=>rfl) (.there (Cells.part (pre:=((xs.take i).flatMap ZJ)) (post:=R) .here (by show 0+_=_;rw [hA];omega))) (zoA _) rfl rfl .here ?_
  refine Qb ?_
  refine zD hD ?_
  refine Qm (by kernel_rfl) ?_
  refine Qy ?_
  refine Qc (zR (zM ?_))
  refine zA (zN (QF (Qi ?_)))
  first
  | exact QP rfl rfl (fun w hw=>⟨_,I,_,rfl,zxd _,hw.subL (.keep Qe),rfl,by rw [show (i:Int).toNat+((n:Int)+((1:Nat):Int)-(i:Int)).toNat=n+1 by omega];exact zcS (rest:=z3) (by simp [hl];omega) (by omega) hm3 (by simp [List.flatMap_append,List.flatMap_cons]) (by simp only [List.length_append,hA,hB,hz1,hz2] at hz3 ⊢;rw [hY];omega)⟩)
 have hgr:n+1≤c:=by have h:=hc31;simp at h;omega
 refine Qw (Qc (Qq ?_))
 obtain ⟨r5,R2,rfl,hr5⟩:∃ r5 R2,R=r5++R2∧r5.length=9:=⟨R.take 9,R.drop 9,by rw [List.take_append_drop],by rw [List.length_take];simp only [List.length_append,hA,hB] at hR;omega⟩
 obtain ⟨p1,p2,hpp,hp1,hp2⟩:∃ p1 p2,((xs.drop i).flatMap ZJ)++r5=p1++p2∧p1.length=9∧p2.length=(n-i)*9:=⟨(((xs.drop i).flatMap ZJ)++r5).take 9,(((xs.drop i).flatMap ZJ)++r5).drop 9,by rw [List.take_append_drop],by rw [List.length_take,List.length_append,hB,hr5];omega,by rw [List.length_drop,List.length_append,hB,hr5];omega⟩
 have hcur:(((xs.take i).flatMap ZJ)++((xs.drop i).flatMap ZJ)++(r5++R2)).toArray=(((xs.take i).flatMap ZJ)++p1++p2++R2).toArray:=by rw [List.append_assoc (((xs.take i).flatMap ZJ)++p1),List.append_assoc ((xs.take i).flatMap ZJ) p1,←List.append_assoc p1,←hpp];simp only [List.append_assoc]
 refine Qk (zM ?_)
 refine zM ?_
 refine zM ?_
 refine zB ?_
 refine zV (VQ rfl rfl Yu (fun hg=>by omega)) ?_
 refine zA (zN (Qq (zR ?_)))
 refine zM ?_
 refine zM ?_
 refine zM ?_
 refine zM ?_
 refine zB ?_
 refine zV (ZA rfl rfl Yu (by omega)) ?_
 refine UR rfl rfl rfl Tryz.func222 (by kernel_rfl) (by kernel_rfl) (by kernel_rfl) (by kernel_rfl:Extern.find Tryz.f222=some (Extern.SlicesOverlaps.overlaps #[62,62] #[4])) Yu hne (List.mem_cons_of_mem _ (List.mem_cons_self ..)) (List.mem_cons_self ..) (by rw [List.size_toArray,hR];omega) rfl rfl ?_
 refine zO (zN ?_)
 refine zI ?_ ?_<;>intro hc68
 ·
  refine Qq ?_
  have hD:=zxd I
  refine ZL ?_
  refine Q0 I [] mixed ?_
  refine zT 0 rfl (Qh rfl) hD ?_
  refine zT 1 rfl (Qh rfl) hD ?_
  refine zT 2 rfl (Qh rfl) hD ?_
  refine zT 3 rfl (VO rfl rfl rfl (fun _=>by omega)) hD ?_
  refine zT 4 rfl (ZA rfl rfl Yu (by omega)) hD ?_
  refine zT 5 rfl (Qh rfl) hD ?_
  refine zT 6 rfl (Qh rfl) hD ?_
  refine zT 7 rfl (ZA rfl rfl Yu (by omega)) hD ?_
  refine qd 8 rfl ?_
  refine Ju (pre:=((xs.take i).flatMap ZJ)++p1) (old:=p2) (post:=R2) (vs:=((xs.drop i).flatMap ZJ)) (cur':=(((xs.take i).flatMap ZJ)++p1++((xs.drop i).flatMap ZJ)++R2).toArray) hcur rfl rfl rfl Yu (by rw [hB];simp only [Nat.min_def];split<;>omega) (by rw [hp2,hB]) (by rw [List.length_append,hA,hp1];omega) (fun _=>rfl) (Cells.part (pre:=((xs.take i).flatMap ZJ)) (post:=r5++R2) .here (by show 0+_=_;rw [hA];omega)) (zoA _) rfl rfl .here ?_
  refine Qb ?_
  refine zD hD ?_
  refine Qm (by kernel_rfl) ?_
  refine Qy ?_
  refine Qc (zR (zM ?_))
  refine zM ?_
  refine zV (ZA rfl rfl Yu (by omega)) ?_
  refine zM ?_
  refine Ju (pre:=((xs.take i).flatMap ZJ)) (old:=p1) (post:=((xs.drop i).flatMap ZJ)++R2) (vs:=[ZJ y].flatten) (cur':=(((xs.take i).flatMap ZJ)++[ZJ y].flatten++(((xs.drop i).flatMap ZJ)++R2)).toArray) (by rw [List.append_assoc (_++_)]) rfl rfl rfl Yu (by show 9=_;simp only [Nat.min_def];split<;>omega) (by rw [hp1];rfl) (by omega) (fun _=>rfl) (.there .here) rfl rfl rfl .here ?_
  refine zN (zR ?_)
  refine zM ?_
  refine zA (zN (QF (Qi ?_)))
  first
  | exact QP rfl rfl (fun w hw=>⟨_,I,_,rfl,zxd _,hw.subL (.keep Qe),rfl,by rw [show ((n:Int)+((1:Nat):Int)).toNat=n+1 by omega];exact zcS (rest:=R2) (by simp [hl];omega) hgr hcm (by simp [List.flatMap_append,List.flatMap_cons]) (by simp only [List.length_append,hA,hB,hr5] at hR ⊢;rw [hY];omega)⟩)
 cases hc68
theorem zi9 {I:Qv}{v:Value}{n:Nat}{xs:List Lm}{L:Go.Kn.Loc}(hO:Yp 32 9 v n (xs.flatMap ZJ) L)(hn:n≤100000)(hl:xs.length=n){i:Nat}(hi:i≤n)(b2:Nat)(y:Lm):
  Vi Tryz.prog 170 [v,.int .i64 i,.slice (some ⟨b2,0,none⟩) 1 1] I (L++[(b2,.cells [ZJ y].flatten.toArray 32 (0,0))]) (fun v' I' L'=>I'=I∧Yp 32 9 v' (n+1) ((xs.take i++y::xs.drop i).flatMap ZJ) L'):=by
 by_cases hin:i=n
 ·
  subst hin
  obtain ⟨av,c,rfl⟩:=hO.shape
  exact zhw hO hn hl b2 y
 rcases hO.2 with ⟨_,h0,_⟩ | ⟨b,c,cur,rfl,rfl,hnc,hcm,hcs,ht⟩
 ·
  omega
 intro g H w hw
 have hne:b2≠b:=fun e=>by
  have:=hw.nodup
  subst e
  simp at this
 have hsplit:(xs.take i).flatMap ZJ++(xs.drop i).flatMap ZJ=xs.flatMap ZJ:=by rw [←List.flatMap_append,List.take_append_drop]
 have hcur:cur=((xs.take i).flatMap ZJ++(xs.drop i).flatMap ZJ++cur.toList.drop (n*9)).toArray:=by
  rw [hsplit,←ht,List.take_append_drop,Array.toArray_toList]
 rw [hcur] at hw
 exact zj3 hl (by omega) hn hnc hcm (by rw [hsplit,←ht,List.take_append_drop,Array.length_toList,hcs]) b2 hne y g H w hw
theorem zn5 (xs:List S.Rt):(xs.flatMap S.encR).length=xs.length*11:=YS S.encR_len xs
theorem zc5 {b n c:Nat}{xs:List S.Rt}{cur rest:List Value}(hl:xs.length=n)(hn:n≤c)(hc:c≤maxLen)(hcur:cur=xs.flatMap S.encR++rest)(hs:cur.length=c*11):Yp 43 11 (.slice (some ⟨b,0,none⟩) n c) n (xs.flatMap S.encR) [(b,.cells cur.toArray 43 (0,0))]:=by
 subst hcur
 refine ⟨by rw [zn5,hl],.inr ⟨b,c,_,rfl,rfl,hn,hc,by simpa using hs,?_⟩⟩
 rw [List.take_left' (by rw [zn5,hl])]
theorem zhq {I:Qv}{av:Option Addr}{n c:Nat}{xs:List S.Rt}{L:Go.Kn.Loc}(hO:Yp 43 11 (.slice av n c) n (xs.flatMap S.encR) L)(hn:n≤100000)(hl:xs.length=n)(b2:Nat)(y:S.Rt):Vi Tryz.prog 171 [.slice av n c,.int .i64 n,.slice (some ⟨b2,0,none⟩) 1 1] I (L++[(b2,.cells [S.encR y].flatten.toArray 43 (0,0))]) (fun v' I' L'=>I'=I∧Yp 43 11 v' (n+1) ((xs.take n++y::xs.drop n).flatMap S.encR) L'):=by
 intro g H w hw
 refine qe Tryz.func171 Tryz.ntmps171 hw ?_
 refine zR (zA ?_)
 refine zN (zR ?_)
 refine zM ?_
 refine zM ?_
 refine zV (Vg rfl rfl YA (fun hg=>by omega)) ?_
 refine zN (zR ?_)
 refine zM ?_
 refine zQ YA ?_
 refine zA (zN (Qq (zR ?_)))
 refine zM ?_
 refine zC (zN ?_)
 refine zI ?_ ?_<;>intro hc16
 ·
  exact absurd hc16 (by decide)
 refine Qw (Qc (zR (zM ?_)))
 refine zQ YA ?_
 refine zA (zN (Qq (zR ?_)))
 refine zM ?_
 refine zM ?_
 refine zC (zN ?_)
 refine zI ?_ ?_<;>intro hc22
 ·
  refine zR (zM ?_)
  refine zM ?_
  refine QX (v:=_) (ys:=[S.encR y].flatten) (L:=L) rfl rfl Wq hO (by repeat (first | exact .cons .here .nil | exact Qu | exact Qr | apply Qp | apply Qo)) ⟨rfl,fun _=>rfl,.app zxb⟩ rfl (by omega) rfl rfl ?_
  intro v' L' hO' _
  refine zA (zN (QF (Qi ?_)))
  exact QP rfl rfl (fun w hw=>⟨_,I,_,rfl,zxd _,hw.subL QN,rfl,by rw [List.take_of_length_le (by omega),List.drop_eq_nil_of_le (by omega)];simpa [List.flatMap_append] using hO'⟩)
 exact absurd hc22 (by simp)
theorem ziB {I:Qv}{b n c i:Nat}{xs:List S.Rt}{R:List Value}(hl:xs.length=n)(hi:i<n)(hn:n≤100000)(hnc:n≤c)(hcm:c≤maxLen)(hR:(((xs.take i).flatMap S.encR)++((xs.drop i).flatMap S.encR)++R).length=c*11)(b2:Nat)(hne:b2≠b)(y:S.Rt):Vi Tryz.prog 171 [.slice (some ⟨b,0,none⟩) n c,.int .i64 i,.slice (some ⟨b2,0,none⟩) 1 1] I ([(b,.cells (((xs.take i).flatMap S.encR)++((xs.drop i).flatMap S.encR)++R).toArray 43 (0,0)),(b2,.cells [S.encR y].flatten.toArray 43 (0,0))]) (fun v' I' L'=>I'=I∧Yp 43 11 v' (n+1) ((xs.take i++y::xs.drop i).flatMap S.encR) L'):=by
 intro g H w hw
 refine qe Tryz.func171 Tryz.ntmps171 hw ?_
 have hA:((xs.take i).flatMap S.encR).length=i*11:=by rw [zn5,List.length_take];omega
 have hB:((xs.drop i).flatMap S.encR).length=(n-i)*11:=by rw [zn5,List.length_drop];omega
 have hY:[S.encR y].flatten.length=11:=rfl
 refine zR (zA ?_)
 refine zN (zR ?_)
 refine zM ?_
 refine zM ?_
 refine zV (ZA rfl rfl YA (by omega)) ?_
 refine zN (zR ?_)
 refine zM ?_
 refine zQ YA ?_
 refine zA (zN (Qq (zR ?_)))
 refine zM ?_
 refine zC (zN ?_)
 refine zI ?_ ?_<;>intro hc16
 ·
  exact absurd hc16 (by decide)
 refine Qw (Qc (zR (zM ?_)))
 refine zQ YA ?_
 refine zA (zN (Qq (zR ?_)))
 refine zM ?_
 refine zM ?_
 refine zC (zN ?_)
 refine zI ?_ ?_<;>intro hc22
 ·
  have h:=hc22;simp at h;omega
 refine Qw (Qc (Qq (zR (zM ?_))))
 refine zM ?_
 refine zB ?_
 refine zM ?_
 refine zV (zkl rfl YA) ?_
 refine zC (zN ?_)
 refine zI ?_ ?_<;>intro hc31
 ·
  have hgr:c<n+1:=by have h:=hc31;simp at h;omega
  refine zR (zM ?_)
  refine zM ?_
  refine zV (VQ rfl rfl YA (fun hg=>by omega)) ?_
  refine zM ?_
  refine zM ?_
  refine zB ?_
  refine zM ?_
  refine zB ?_
  refine Xh (ys:=((xs.take i).flatMap S.encR)) rfl rfl Wq zmH (by omega) (by decide) (by omega) hA (Cells.part (pre:=[]) (post:=((xs.drop i).flatMap S.encR)++R) (by rw [List.nil_append,←List.append_assoc];exact .here) rfl) (by omega) rfl rfl (fun b3 c3 zs hc3 hm3 hz3=>?_)
  obtain ⟨z1,z2,z3,rfl,hz1,hz2⟩:=zlF (zs:=zs) (a:=11) (b:=(n-i)*11) (by rw [List.length_append,hA] at hz3;omega)
  refine zA ?_
  refine zN (zR ?_)
  refine zM ?_
  refine zM ?_
  refine zV (ZA rfl rfl YA (by omega)) ?_
  refine zM ?_
  refine Ju (pre:=((xs.take i).flatMap S.encR)) (old:=z1) (post:=z2++z3) (vs:=[S.encR y].flatten) (cur':=(((xs.take i).flatMap S.encR)++[S.encR y].flatten++(z2++z3)).toArray) (by rw [List.append_assoc]) rfl rfl rfl YA (by show 11=_;simp only [Nat.min_def];split<;>omega) (by rw [hz1];rfl) (by omega) (fun _=>rfl) (.there (.there .here)) rfl rfl rfl .here ?_
  refine zN (Qq ?_)
  have hD:=zxd I
  refine ZL ?_
  refine Q0 I [] mixed ?_
  refine zT 0 rfl (Qh rfl) hD ?_
  refine zT 1 rfl (Qh rfl) hD ?_
  refine zT 2 rfl (Qh rfl) hD ?_
  refine zT 3 rfl (VO rfl rfl rfl (fun _=>by omega)) hD ?_
  refine zT 4 rfl (ZA rfl rfl YA (by omega)) hD ?_
  refine zT 5 rfl (Qh rfl) hD ?_
  refine zT 6 rfl (Qh rfl) hD ?_
  refine zT 7 rfl (ZA rfl rfl YA (by omega)) hD ?_
  refine qd 8 rfl ?_
  refine Ju (pre:=((xs.take i).flatMap S.encR)++[S.encR y].flatten) (old:=z2) (post:=z3) (vs:=((xs.drop i).flatMap S.encR)) (cur':=(((xs.take i).flatMap S.encR)++[S.encR y].flatten++((xs.drop i).flatMap S.encR)++z3).toArray) (by rw [List.append_assoc,List.append_assoc,List.append_assoc]) rfl rfl rfl YA (by rw [hB];simp only [Nat.min_def];split<;>omega) (by rw [hz2,hB]) (by rw [List.length_append,hA,hY];omega) (fun _=>rfl) (.there (Cells.part (pre:=((xs.take i).flatMap S.encR)) (post:=R) .here (by show 0+_=_;rw [hA];omega))) (zoL _) rfl rfl .here ?_
  refine Qb ?_
  refine zD hD ?_
  refine Qm (by kernel_rfl) ?_
  refine Qy ?_
  refine Qc (zR (zM ?_))
  refine zA (zN (QF (Qi ?_)))
  first
  | exact QP rfl rfl (fun w hw=>⟨_,I,_,rfl,zxd _,hw.subL (.keep Qe),rfl,by rw [show (i:Int).toNat+((n:Int)+((1:Nat):Int)-(i:Int)).toNat=n+1 by omega];exact zc5 (rest:=z3) (by simp [hl];omega) (by omega) hm3 (by simp [List.flatMap_append,List.flatMap_cons]) (by simp only [List.length_append,hA,hB,hz1,hz2] at hz3 ⊢;rw [hY];omega)⟩)
 have hgr:n+1≤c:=by have h:=hc31;simp at h;omega
 refine Qw (Qc (Qq ?_))
 obtain ⟨r5,R2,rfl,hr5⟩:∃ r5 R2,R=r5++R2∧r5.length=11:=⟨R.take 11,R.drop 11,by rw [List.take_append_drop],by rw [List.length_take];simp only [List.length_append,hA,hB] at hR;omega⟩
 obtain ⟨p1,p2,hpp,hp1,hp2⟩:∃ p1 p2,((xs.drop i).flatMap S.encR)++r5=p1++p2∧p1.length=11∧p2.length=(n-i)*11:=⟨(((xs.drop i).flatMap S.encR)++r5).take 11,(((xs.drop i).flatMap S.encR)++r5).drop 11,by rw [List.take_append_drop],by rw [List.length_take,List.length_append,hB,hr5];omega,by rw [List.length_drop,List.length_append,hB,hr5];omega⟩
 have hcur:(((xs.take i).flatMap S.encR)++((xs.drop i).flatMap S.encR)++(r5++R2)).toArray=(((xs.take i).flatMap S.encR)++p1++p2++R2).toArray:=by rw [List.append_assoc (((xs.take i).flatMap S.encR)++p1),List.append_assoc ((xs.take i).flatMap S.encR) p1,←List.append_assoc p1,←hpp];simp only [List.append_assoc]
 refine Qk (zM ?_)
 refine zM ?_
 refine zM ?_
 refine zB ?_
 refine zV (VQ rfl rfl YA (fun hg=>by omega)) ?_
 refine zA (zN (Qq (zR ?_)))
 refine zM ?_
 refine zM ?_
 refine zM ?_
 refine zM ?_
 refine zB ?_
 refine zV (ZA rfl rfl YA (by omega)) ?_
 refine UR rfl rfl rfl Tryz.func224 (by kernel_rfl) (by kernel_rfl) (by kernel_rfl) (by kernel_rfl:Extern.find Tryz.f224=some (Extern.SlicesOverlaps.overlaps #[65,65] #[4])) YA hne (List.mem_cons_of_mem _ (List.mem_cons_self ..)) (List.mem_cons_self ..) (by rw [List.size_toArray,hR];omega) rfl rfl ?_
 refine zO (zN ?_)
 refine zI ?_ ?_<;>intro hc68
 ·
  refine Qq ?_
  have hD:=zxd I
  refine ZL ?_
  refine Q0 I [] mixed ?_
  refine zT 0 rfl (Qh rfl) hD ?_
  refine zT 1 rfl (Qh rfl) hD ?_
  refine zT 2 rfl (Qh rfl) hD ?_
  refine zT 3 rfl (VO rfl rfl rfl (fun _=>by omega)) hD ?_
  refine zT 4 rfl (ZA rfl rfl YA (by omega)) hD ?_
  refine zT 5 rfl (Qh rfl) hD ?_
  refine zT 6 rfl (Qh rfl) hD ?_
  refine zT 7 rfl (ZA rfl rfl YA (by omega)) hD ?_
  refine qd 8 rfl ?_
  refine Ju (pre:=((xs.take i).flatMap S.encR)++p1) (old:=p2) (post:=R2) (vs:=((xs.drop i).flatMap S.encR)) (cur':=(((xs.take i).flatMap S.encR)++p1++((xs.drop i).flatMap S.encR)++R2).toArray) hcur rfl rfl rfl YA (by rw [hB];simp only [Nat.min_def];split<;>omega) (by rw [hp2,hB]) (by rw [List.length_append,hA,hp1];omega) (fun _=>rfl) (Cells.part (pre:=((xs.take i).flatMap S.encR)) (post:=r5++R2) .here (by show 0+_=_;rw [hA];omega)) (zoL _) rfl rfl .here ?_
  refine Qb ?_
  refine zD hD ?_
  refine Qm (by kernel_rfl) ?_
  refine Qy ?_
  refine Qc (zR (zM ?_))
  refine zM ?_
  refine zV (ZA rfl rfl YA (by omega)) ?_
  refine zM ?_
  refine Ju (pre:=((xs.take i).flatMap S.encR)) (old:=p1) (post:=((xs.drop i).flatMap S.encR)++R2) (vs:=[S.encR y].flatten) (cur':=(((xs.take i).flatMap S.encR)++[S.encR y].flatten++(((xs.drop i).flatMap S.encR)++R2)).toArray) (by rw [List.append_assoc (_++_)]) rfl rfl rfl YA (by show 11=_;simp only [Nat.min_def];split<;>omega) (by rw [hp1];rfl) (by omega) (fun _=>rfl) (.there .here) rfl rfl rfl .here ?_
  refine zN (zR ?_)
  refine zM ?_
  refine zA (zN (QF (Qi ?_)))
  first
  | exact QP rfl rfl (fun w hw=>⟨_,I,_,rfl,zxd _,hw.subL (.keep Qe),rfl,by rw [show ((n:Int)+((1:Nat):Int)).toNat=n+1 by omega];exact zc5 (rest:=R2) (by simp [hl];omega) hgr hcm (by simp [List.flatMap_append,List.flatMap_cons]) (by simp only [List.length_append,hA,hB,hr5] at hR ⊢;rw [hY];omega)⟩)
 cases hc68
theorem zlw {I:Qv}{v:Value}{n:Nat}{xs:List S.Rt}{L:Go.Kn.Loc}(hO:Yp 43 11 v n (xs.flatMap S.encR) L)(hn:n≤100000)(hl:xs.length=n){i:Nat}(hi:i≤n)(b2:Nat)(y:S.Rt):
  Vi Tryz.prog 171 [v,.int .i64 i,.slice (some ⟨b2,0,none⟩) 1 1] I (L++[(b2,.cells [S.encR y].flatten.toArray 43 (0,0))]) (fun v' I' L'=>I'=I∧Yp 43 11 v' (n+1) ((xs.take i++y::xs.drop i).flatMap S.encR) L'):=by
 by_cases hin:i=n
 ·
  subst hin
  obtain ⟨av,c,rfl⟩:=hO.shape
  exact zhq hO hn hl b2 y
 rcases hO.2 with ⟨_,h0,_⟩ | ⟨b,c,cur,rfl,rfl,hnc,hcm,hcs,ht⟩
 ·
  omega
 intro g H w hw
 have hne:b2≠b:=fun e=>by
  have:=hw.nodup
  subst e
  simp at this
 have hsplit:(xs.take i).flatMap S.encR++(xs.drop i).flatMap S.encR=xs.flatMap S.encR:=by rw [←List.flatMap_append,List.take_append_drop]
 have hcur:cur=((xs.take i).flatMap S.encR++(xs.drop i).flatMap S.encR++cur.toList.drop (n*11)).toArray:=by
  rw [hsplit,←ht,List.take_append_drop,Array.toArray_toList]
 rw [hcur] at hw
 exact ziB hl (by omega) hn hnc hcm (by rw [hsplit,←ht,List.take_append_drop,Array.length_toList,hcs]) b2 hne y g H w hw
theorem zl7 (xs:List Nt):(xs.flatMap Zn).length=xs.length*45:=YS Q4 xs
theorem zgY {b n c:Nat}{xs:List Nt}{cur rest:List Value}(hl:xs.length=n)(hn:n≤c)(hc:c≤maxLen)(hcur:cur=xs.flatMap Zn++rest)(hs:cur.length=c*45):Yp 45 45 (.slice (some ⟨b,0,none⟩) n c) n (xs.flatMap Zn) [(b,.cells cur.toArray 45 (0,0))]:=by
 subst hcur
 refine ⟨by rw [zl7,hl],.inr ⟨b,c,_,rfl,rfl,hn,hc,by simpa using hs,?_⟩⟩
 rw [List.take_left' (by rw [zl7,hl])]
theorem zhA {I:Qv}{av:Option Addr}{n c:Nat}{xs:List Nt}{L:Go.Kn.Loc}(hO:Yp 45 45 (.slice av n c) n (xs.flatMap Zn) L)(hn:n≤100000)(hl:xs.length=n)(b2:Nat)(y:Nt):Vi Tryz.prog 174 [.slice av n c,.int .i64 n,.slice (some ⟨b2,0,none⟩) 1 1] I (L++[(b2,.cells [Zn y].flatten.toArray 45 (0,0))]) (fun v' I' L'=>I'=I∧Yp 45 45 v' (n+1) ((xs.take n++y::xs.drop n).flatMap Zn) L'):=by
 intro g H w hw
 refine qe Tryz.func174 Tryz.ntmps174 hw ?_
 refine zR (zA ?_)
 refine zN (zR ?_)
 refine zM ?_
 refine zM ?_
 refine zV (Vg rfl rfl Zu (fun hg=>by omega)) ?_
 refine zN (zR ?_)
 refine zM ?_
 refine zQ Zu ?_
 refine zA (zN (Qq (zR ?_)))
 refine zM ?_
 refine zC (zN ?_)
 refine zI ?_ ?_<;>intro hc16
 ·
  exact absurd hc16 (by decide)
 refine Qw (Qc (zR (zM ?_)))
 refine zQ Zu ?_
 refine zA (zN (Qq (zR ?_)))
 refine zM ?_
 refine zM ?_
 refine zC (zN ?_)
 refine zI ?_ ?_<;>intro hc22
 ·
  refine zR (zM ?_)
  refine zM ?_
  refine QX (v:=_) (ys:=[Zn y].flatten) (L:=L) rfl rfl Ve hO (by repeat (first | exact .cons .here .nil | exact Qu | exact Qr | apply Qp | apply Qo)) ⟨rfl,fun _=>rfl,.app zxb⟩ rfl (by omega) rfl rfl ?_
  intro v' L' hO' _
  refine zA (zN (QF (Qi ?_)))
  exact QP rfl rfl (fun w hw=>⟨_,I,_,rfl,zxd _,hw.subL QN,rfl,by rw [List.take_of_length_le (by omega),List.drop_eq_nil_of_le (by omega)];simpa [List.flatMap_append] using hO'⟩)
 exact absurd hc22 (by simp)
theorem zif {I:Qv}{b n c i:Nat}{xs:List Nt}{R:List Value}(hl:xs.length=n)(hi:i<n)(hn:n≤100000)(hnc:n≤c)(hcm:c≤maxLen)(hR:(((xs.take i).flatMap Zn)++((xs.drop i).flatMap Zn)++R).length=c*45)(b2:Nat)(hne:b2≠b)(y:Nt):Vi Tryz.prog 174 [.slice (some ⟨b,0,none⟩) n c,.int .i64 i,.slice (some ⟨b2,0,none⟩) 1 1] I ([(b,.cells (((xs.take i).flatMap Zn)++((xs.drop i).flatMap Zn)++R).toArray 45 (0,0)),(b2,.cells [Zn y].flatten.toArray 45 (0,0))]) (fun v' I' L'=>I'=I∧Yp 45 45 v' (n+1) ((xs.take i++y::xs.drop i).flatMap Zn) L'):=by
 intro g H w hw
 refine qe Tryz.func174 Tryz.ntmps174 hw ?_
 have hA:((xs.take i).flatMap Zn).length=i*45:=by rw [zl7,List.length_take];omega
 have hB:((xs.drop i).flatMap Zn).length=(n-i)*45:=by rw [zl7,List.length_drop];omega
 have hY:[Zn y].flatten.length=45:=rfl
 refine zR (zA ?_)
 refine zN (zR ?_)
 refine zM ?_
 refine zM ?_
 refine zV (ZA rfl rfl Zu (by omega)) ?_
 refine zN (zR ?_)
 refine zM ?_
 refine zQ Zu ?_
 refine zA (zN (Qq (zR ?_)))
 refine zM ?_
 refine zC (zN ?_)
 refine zI ?_ ?_<;>intro hc16
 ·
  exact absurd hc16 (by decide)
 refine Qw (Qc (zR (zM ?_)))
 refine zQ Zu ?_
 refine zA (zN (Qq (zR ?_)))
 refine zM ?_
 refine zM ?_
 refine zC (zN ?_)
 refine zI ?_ ?_<;>intro hc22
 ·
  have h:=hc22;simp at h;omega
 refine Qw (Qc (Qq (zR (zM ?_))))
 refine zM ?_
 refine zB ?_
 refine zM ?_
 refine zV (zkl rfl Zu) ?_
 refine zC (zN ?_)
 refine zI ?_ ?_<;>intro hc31
 ·
  have hgr:c<n+1:=by have h:=hc31;simp at h;omega
  refine zR (zM ?_)
  refine zM ?_
  refine zV (VQ rfl rfl Zu (fun hg=>by omega)) ?_
  refine zM ?_
  refine zM ?_
  refine zB ?_
  refine zM ?_
  refine zB ?_
  refine Xh (ys:=((xs.take i).flatMap Zn)) rfl rfl Ve zmH (by omega) (by decide) (by omega) hA (Cells.part (pre:=[]) (post:=((xs.drop i).flatMap Zn)++R) (by rw [List.nil_append,←List.append_assoc];exact .here) rfl) (by omega) rfl rfl (fun b3 c3 zs hc3 hm3 hz3=>?_)
  obtain ⟨z1,z2,z3,rfl,hz1,hz2⟩:=zlF (zs:=zs) (a:=45) (b:=(n-i)*45) (by rw [List.length_append,hA] at hz3;omega)
  refine zA ?_
  refine zN (zR ?_)
  refine zM ?_
  refine zM ?_
  refine zV (ZA rfl rfl Zu (by omega)) ?_
  refine zM ?_
  refine Ju (pre:=((xs.take i).flatMap Zn)) (old:=z1) (post:=z2++z3) (vs:=[Zn y].flatten) (cur':=(((xs.take i).flatMap Zn)++[Zn y].flatten++(z2++z3)).toArray) (by rw [List.append_assoc]) rfl rfl rfl Zu (by show 45=_;simp only [Nat.min_def];split<;>omega) (by rw [hz1];rfl) (by omega) (fun _=>rfl) (.there (.there .here)) rfl rfl rfl .here ?_
  refine zN (Qq ?_)
  have hD:=zxd I
  refine ZL ?_
  refine Q0 I [] mixed ?_
  refine zT 0 rfl (Qh rfl) hD ?_
  refine zT 1 rfl (Qh rfl) hD ?_
  refine zT 2 rfl (Qh rfl) hD ?_
  refine zT 3 rfl (VO rfl rfl rfl (fun _=>by omega)) hD ?_
  refine zT 4 rfl (ZA rfl rfl Zu (by omega)) hD ?_
  refine zT 5 rfl (Qh rfl) hD ?_
  refine zT 6 rfl (Qh rfl) hD ?_
  refine zT 7 rfl (ZA rfl rfl Zu (by omega)) hD ?_
  refine qd 8 rfl ?_
  refine Ju (pre:=((xs.take i).flatMap Zn)++[Zn y].flatten) (old:=z2) (post:=z3) (vs:=((xs.drop i).flatMap Zn)) (cur':=(((xs.take i).flatMap Zn)++[Zn y].flatten++((xs.drop i).flatMap Zn)++z3).toArray) (by rw [List.append_assoc,List.append_assoc,List.append_assoc]) rfl rfl rfl Zu (by rw [hB];simp only [Nat.min_def];split<;>omega) (by rw [hz2,hB]) (by rw [List.length_append,hA,hY];omega) (fun _=>rfl) (.there (Cells.part (pre:=((xs.take i).flatMap Zn)) (post:=R) .here (by show 0+_=_;rw [hA];omega))) (Xf _) rfl rfl .here ?_
  refine Qb ?_
  refine zD hD ?_
  refine Qm (by kernel_rfl) ?_
  refine Qy ?_
  refine Qc (zR (zM ?_))
  refine zA (zN (QF (Qi ?_)))
  first
  | exact QP rfl rfl (fun w hw=>⟨_,I,_,rfl,zxd _,hw.subL (.keep Qe),rfl,by rw [show (i:Int).toNat+((n:Int)+((1:Nat):Int)-(i:Int)).toNat=n+1 by omega];exact zgY (rest:=z3) (by simp [hl];omega) (by omega) hm3 (by simp [List.flatMap_append,List.flatMap_cons]) (by simp only [List.length_append,hA,hB,hz1,hz2] at hz3 ⊢;rw [hY];omega)⟩)
 have hgr:n+1≤c:=by have h:=hc31;simp at h;omega
 refine Qw (Qc (Qq ?_))
 obtain ⟨r5,R2,rfl,hr5⟩:∃ r5 R2,R=r5++R2∧r5.length=45:=⟨R.take 45,R.drop 45,by rw [List.take_append_drop],by rw [List.length_take];simp only [List.length_append,hA,hB] at hR;omega⟩
 obtain ⟨p1,p2,hpp,hp1,hp2⟩:∃ p1 p2,((xs.drop i).flatMap Zn)++r5=p1++p2∧p1.length=45∧p2.length=(n-i)*45:=⟨(((xs.drop i).flatMap Zn)++r5).take 45,(((xs.drop i).flatMap Zn)++r5).drop 45,by rw [List.take_append_drop],by rw [List.length_take,List.length_append,hB,hr5];omega,by rw [List.length_drop,List.length_append,hB,hr5];omega⟩
 have hcur:(((xs.take i).flatMap Zn)++((xs.drop i).flatMap Zn)++(r5++R2)).toArray=(((xs.take i).flatMap Zn)++p1++p2++R2).toArray:=by rw [List.append_assoc (((xs.take i).flatMap Zn)++p1),List.append_assoc ((xs.take i).flatMap Zn) p1,←List.append_assoc p1,←hpp];simp only [List.append_assoc]
 refine Qk (zM ?_)
 refine zM ?_
 refine zM ?_
 refine zB ?_
 refine zV (VQ rfl rfl Zu (fun hg=>by omega)) ?_
 refine zA (zN (Qq (zR ?_)))
 refine zM ?_
 refine zM ?_
 refine zM ?_
 refine zM ?_
 refine zB ?_
 refine zV (ZA rfl rfl Zu (by omega)) ?_
 refine UR rfl rfl rfl Tryz.func226 (by kernel_rfl) (by kernel_rfl) (by kernel_rfl) (by kernel_rfl:Extern.find Tryz.f226=some (Extern.SlicesOverlaps.overlaps #[57,57] #[4])) Zu hne (List.mem_cons_of_mem _ (List.mem_cons_self ..)) (List.mem_cons_self ..) (by rw [List.size_toArray,hR];omega) rfl rfl ?_
 refine zO (zN ?_)
 refine zI ?_ ?_<;>intro hc68
 ·
  refine Qq ?_
  have hD:=zxd I
  refine ZL ?_
  refine Q0 I [] mixed ?_
  refine zT 0 rfl (Qh rfl) hD ?_
  refine zT 1 rfl (Qh rfl) hD ?_
  refine zT 2 rfl (Qh rfl) hD ?_
  refine zT 3 rfl (VO rfl rfl rfl (fun _=>by omega)) hD ?_
  refine zT 4 rfl (ZA rfl rfl Zu (by omega)) hD ?_
  refine zT 5 rfl (Qh rfl) hD ?_
  refine zT 6 rfl (Qh rfl) hD ?_
  refine zT 7 rfl (ZA rfl rfl Zu (by omega)) hD ?_
  refine qd 8 rfl ?_
  refine Ju (pre:=((xs.take i).flatMap Zn)++p1) (old:=p2) (post:=R2) (vs:=((xs.drop i).flatMap Zn)) (cur':=(((xs.take i).flatMap Zn)++p1++((xs.drop i).flatMap Zn)++R2).toArray) hcur rfl rfl rfl Zu (by rw [hB];simp only [Nat.min_def];split<;>omega) (by rw [hp2,hB]) (by rw [List.length_append,hA,hp1];omega) (fun _=>rfl) (Cells.part (pre:=((xs.take i).flatMap Zn)) (post:=r5++R2) .here (by show 0+_=_;rw [hA];omega)) (Xf _) rfl rfl .here ?_
  refine Qb ?_
  refine zD hD ?_
  refine Qm (by kernel_rfl) ?_
  refine Qy ?_
  refine Qc (zR (zM ?_))
  refine zM ?_
  refine zV (ZA rfl rfl Zu (by omega)) ?_
  refine zM ?_
  refine Ju (pre:=((xs.take i).flatMap Zn)) (old:=p1) (post:=((xs.drop i).flatMap Zn)++R2) (vs:=[Zn y].flatten) (cur':=(((xs.take i).flatMap Zn)++[Zn y].flatten++(((xs.drop i).flatMap Zn)++R2)).toArray) (by rw [List.append_assoc (_++_)]) rfl rfl rfl Zu (by show 45=_;simp only [Nat.min_def];split<;>omega) (by rw [hp1];rfl) (by omega) (fun _=>rfl) (.there .here) rfl rfl rfl .here ?_
  refine zN (zR ?_)
  refine zM ?_
  refine zA (zN (QF (Qi ?_)))
  first
  | exact QP rfl rfl (fun w hw=>⟨_,I,_,rfl,zxd _,hw.subL (.keep Qe),rfl,by rw [show ((n:Int)+((1:Nat):Int)).toNat=n+1 by omega];exact zgY (rest:=R2) (by simp [hl];omega) hgr hcm (by simp [List.flatMap_append,List.flatMap_cons]) (by simp only [List.length_append,hA,hB,hr5] at hR ⊢;rw [hY];omega)⟩)
 cases hc68
theorem zao {I:Qv}{v:Value}{n:Nat}{xs:List Nt}{L:Go.Kn.Loc}(hO:Yp 45 45 v n (xs.flatMap Zn) L)(hn:n≤100000)(hl:xs.length=n){i:Nat}(hi:i≤n)(b2:Nat)(y:Nt):
  Vi Tryz.prog 174 [v,.int .i64 i,.slice (some ⟨b2,0,none⟩) 1 1] I (L++[(b2,.cells [Zn y].flatten.toArray 45 (0,0))]) (fun v' I' L'=>I'=I∧Yp 45 45 v' (n+1) ((xs.take i++y::xs.drop i).flatMap Zn) L'):=by
 by_cases hin:i=n
 ·
  subst hin
  obtain ⟨av,c,rfl⟩:=hO.shape
  exact zhA hO hn hl b2 y
 rcases hO.2 with ⟨_,h0,_⟩ | ⟨b,c,cur,rfl,rfl,hnc,hcm,hcs,ht⟩
 ·
  omega
 intro g H w hw
 have hne:b2≠b:=fun e=>by
  have:=hw.nodup
  subst e
  simp at this
 have hsplit:(xs.take i).flatMap Zn++(xs.drop i).flatMap Zn=xs.flatMap Zn:=by rw [←List.flatMap_append,List.take_append_drop]
 have hcur:cur=((xs.take i).flatMap Zn++(xs.drop i).flatMap Zn++cur.toList.drop (n*45)).toArray:=by
  rw [hsplit,←ht,List.take_append_drop,Array.toArray_toList]
 rw [hcur] at hw
 exact zif hl (by omega) hn hnc hcm (by rw [hsplit,←ht,List.take_append_drop,Array.length_toList,hcs]) b2 hne y g H w hw
end
end Go.Proofs.YtjblkbkmblkgoaaGreat
namespace Go.Kn
section
open Go
section
variable {C:Cx} {Q:Exit→Act→World→Prop} {ops:Array Oper} {I0:Qv} {loc0:Loc} {S:GS} {E:Env} {I:Qv} {loc:Loc}
theorem zrY {fuel:Nat}{listed:Array Bool}(b:Bool)(h:XD C Q ops I0 loc0 fuel listed ((b,[])::S) E I loc):XD C Q ops I0 loc0 fuel listed S E I loc:=fun a w ha hg hw=>h a w ha ⟨(fun _ _ e=>by cases e),hg⟩ hw
theorem Wi {fuel:Nat}{listed:Array Bool}(j:Nat){oj:Oper}{dj:Nat}{b0:Bool}(_hj:ops[j]? =some oj)(_hd:oj.dst=some dj)(_hl:KG S E dj=some (.bool b0))(h:XD C Q ops I0 loc0 fuel listed ((b0,[])::S) E I loc):XD C Q ops I0 loc0 fuel listed S E I loc:=zrY b0 h
theorem ztC (i:Nat){tc ta d ty:Nat}{pos:String}{af:Array Edge}{gd:Option (Nat×Bool)}{b t x:Bool}{G:Env}{fuel:Nat}{listed:Array Bool}
  (hi:ops[i]? =some ⟨some d,.pick (.tmp tc) (.tmp ta) (.const (.bool false)),ty,pos,af,gd⟩)(hb:b=t)(hc:QH S E (.tmp tc)=some (.bool t))(ha':VA G ta=some (.bool x))
  (hG:ZG ops S E ⟨some d,.pick (.tmp tc) (.tmp ta) (.const (.bool false)),ty,pos,af,gd⟩)(hN:Nat.blt d C.N=true)(hf:Yq S E d=true)
  (hs:Region.noSelect ops=true)(hfr:Region.free .any ops listed i=true)(hr:(Region.ready .any ops listed).contains i=true)(hQ:YU Q)(hI:HLe I0 I)(hl:Kj loc0 loc)
  (h:XD C Q ops I0 loc0 fuel (listed.setIfInBounds i true) (zdj S E d (.bool (t&&x))) (zdk S E d (.bool (t&&x))) I loc):XD C Q ops I0 loc0 (fuel+1) listed ((b,G)::S) E I loc:=by
 intro a w ha hg hw
 have hp:=YF ha hg.2 hN hf (.bool (t&&x))
 refine Y3 (v:=bif YC S then .bool (t&&x) else undef) hi (by intro c e;cases e) (Region.noSelect_spec hs) (fun c a w=>hQ c a d _ w) fuel listed a w (Region.free_spec hi hfr) (by simpa using hr) ?_ ((hw.mono hI).subL hl) (h _ _ hp.1 hp.2 hw)
 have hwt:=hG.wanted ha hg.2
 cases hcj:YC S with
 | true=>
  refine .inl ⟨by rw [hwt,hcj],fun w' _=>?_⟩
  have e1:a.eval (.tmp tc)= .bool t:=Qj ha hg.2 hcj hc
  have e2:t=true→a.eval (.tmp ta)= .bool x:=fun e=>by
   have:=hg.1 _ _ ha'
   rw [hcj,hb,e] at this;exact this
  show (execOp a.eval ⟨some d,.pick (.tmp tc) (.tmp ta) (.const (.bool false)),ty,pos,af,gd⟩).run C.P w'= .ok (.value (.bool (t&&x))) w'
  simp only [execOp,e1,asBool,Sem.run_bind,Sem.run_pure,Result.andThen]
  cases t with
  | true=>simp [e2 rfl]
  | false=>simp [Act.eval]
 | false=>exact .inr ⟨by rw [hwt,hcj],rfl⟩
theorem QY (i:Nat){oi:Oper}{d:Nat}{v:Value}{fuel:Nat}{listed:Array Bool}(hi:ops[i]? =some oi)(hv:Zb C [] E I0 loc0 oi v)(hG:ZG ops [] E oi)(hd:oi.dst=some d)(hN:Nat.blt d C.N=true)
  (hs:Region.noSelect ops=true)(hfr:Region.free .any ops listed i=true)(hr:(Region.ready .any ops listed).contains i=true)(hQ:YU Q)(hI:HLe I0 I)(hl:Kj loc0 loc)
  (h:XD C Q ops I0 loc0 fuel (listed.setIfInBounds i true) [] ((d,v)::E) I loc):XD C Q ops I0 loc0 (fuel+1) listed [] E I loc:=QR i hi hv hG hd hN rfl hs hfr hr hQ hI hl h
theorem YO (i:Nat){oi:Oper}{d:Nat}{v:Value}{b:Bool}{G:Env}{fuel:Nat}{listed:Array Bool}(hi:ops[i]? =some oi)(hv:Zb C ((b,G)::S) E I0 loc0 oi v)(hG:ZG ops ((b,G)::S) E oi)(hd:oi.dst=some d)(hN:Nat.blt d C.N=true)(hf:Yq ((b,G)::S) E d=true)
  (hs:Region.noSelect ops=true)(hfr:Region.free .any ops listed i=true)(hr:(Region.ready .any ops listed).contains i=true)(hQ:YU Q)(hI:HLe I0 I)(hl:Kj loc0 loc)
  (h:XD C Q ops I0 loc0 fuel (listed.setIfInBounds i true) ((b,(d,v)::G)::S) E I loc):XD C Q ops I0 loc0 (fuel+1) listed ((b,G)::S) E I loc:=QR i hi hv hG hd hN hf hs hfr hr hQ hI hl h
theorem zat (i:Nat){tc ta d ty:Nat}{pos:String}{af:Array Edge}{gd:Option (Nat×Bool)}{b t x:Bool}{G:Env}{fuel:Nat}{listed:Array Bool}
  (hi:ops[i]? =some ⟨some d,.pick (.tmp tc) (.tmp ta) (.const (.bool false)),ty,pos,af,gd⟩)(hb:b=t)(hc:QH [] E (.tmp tc)=some (.bool t))(ha':VA G ta=some (.bool x))
  (hG:gd=none)(hN:Nat.blt d C.N=true)
  (hs:Region.noSelect ops=true)(hfr:Region.free .any ops listed i=true)(hr:(Region.ready .any ops listed).contains i=true)(hQ:YU Q)(hI:HLe I0 I)(hl:Kj loc0 loc)
  (h:XD C Q ops I0 loc0 fuel (listed.setIfInBounds i true) [] ((d,.bool (t&&x))::E) I loc):XD C Q ops I0 loc0 (fuel+1) listed ((b,G)::[]) E I loc:=ztC i hi hb hc ha' (.none hG) hN rfl hs hfr hr hQ hI hl h
end
end
end Go.Kn
section
namespace Go.Kn
open Go
section
variable {α:Type} {C:Cx} {Q:Exit→Act→World→Prop} {E E':Env} {I I':Qv} {loc loc' L R:Loc} {ops:Array Oper} {rest:List Oper} {S:GS}
variable {Jc:List α→Qv→Loc→Prop} {Jx:Code→List α→Qv→Loc→Prop} {pre:List α}
end
section
variable {P:Program} {r:Option Nat} {N:Nat} {g:World} {H:Qv} {Q:Exit→Act→World→Prop} {E E':Env} {I I':Qv} {loc loc' L R:Loc} {ms:List Nat}
end
end Go.Kn
namespace Go.Kn
open Go
section
variable {C:Cx} {Q:Exit→Act→World→Prop} {E E':Env} {I I' I0:Qv} {loc loc' loc0 L R:Loc} {ops:Array Oper} {rest:List Oper} {S:GS}
theorem zfc {c:Code}(h:loc=loc')(hx:X C Q c E I loc'):X C Q c E I loc:=h ▸ hx
theorem zlu (i j k m:Nat){oi oj ok om:Oper}{fuel:Nat}{listed:Array Bool}(hi:ops[i]? =some oi)(hj:ops[j]? =some oj)(hk:ops[k]? =some ok)(hm:ops[m]? =some om)(hr:Region.ready .any ops listed=[i,j,k,m])
  (h1:XO C (fun e a w=>match e with | .normal=>St C.g I0 C.H loc0 w∧Y1 C.r C.P .any ops Q (fun w=>St C.g I0 C.H loc0 w) fuel (listed.setIfInBounds i true) a w | e=>Q e a w) ops [oi] S E I loc)
  (h2:XO C (fun e a w=>match e with | .normal=>St C.g I0 C.H loc0 w∧Y1 C.r C.P .any ops Q (fun w=>St C.g I0 C.H loc0 w) fuel (listed.setIfInBounds j true) a w | e=>Q e a w) ops [oj] S E I loc)
  (h3:XO C (fun e a w=>match e with | .normal=>St C.g I0 C.H loc0 w∧Y1 C.r C.P .any ops Q (fun w=>St C.g I0 C.H loc0 w) fuel (listed.setIfInBounds k true) a w | e=>Q e a w) ops [ok] S E I loc)
  (h4:XO C (fun e a w=>match e with | .normal=>St C.g I0 C.H loc0 w∧Y1 C.r C.P .any ops Q (fun w=>St C.g I0 C.H loc0 w) fuel (listed.setIfInBounds m true) a w | e=>Q e a w) ops [om] S E I loc):XD C Q ops I0 loc0 (fuel+1) listed S E I loc:=by
 intro a w ha hg hw
 refine ⟨(fun h0=>by rw [hr] at h0;cases h0),fun q hq=>?_⟩
 rw [hr] at hq
 rcases List.mem_cons.1 hq with e | hq
 ·
  subst e;exact zaW hi ha hg hw h1
 ·
  rcases List.mem_cons.1 hq with e | hq
  ·
   subst e;exact zaW hj ha hg hw h2
  ·
   rcases List.mem_cons.1 hq with e | hq
   ·
    subst e;exact zaW hk ha hg hw h3
   ·
    obtain rfl:=List.mem_singleton.1 hq;exact zaW hm ha hg hw h4
end
end Go.Kn
end
namespace Go.Proofs.YtjblkbkmblkgoaaGreat
section
open Go Go.Kn Go.Proofs
theorem JZ:AgT Tryz.prog 41 5:=.of (by kernel_rfl)
theorem Vn:AgT Tryz.prog 43 11:=.of (by kernel_rfl)
theorem ze7:zvp Tryz.prog 32 [.int,.int,.int,.int,.int,.int,.int,.int,.int]:=⟨by kernel_rfl,by kernel_rfl,by kernel_rfl,by kernel_rfl⟩
theorem zgs:EqT Tryz.prog 41 [.int,.int,.int,.int,.int]:=⟨by kernel_rfl,by kernel_rfl,by kernel_rfl,by kernel_rfl⟩
theorem Xo:EqT Tryz.prog 43 [.int,.int,.int,.int,.int,.int,.str,.str,.int,.int,.int]:=⟨by kernel_rfl,by kernel_rfl,by kernel_rfl,by kernel_rfl⟩
theorem Vl:QQ Tryz.prog 45 0 0:=.of (by kernel_rfl)
theorem VI:QQ Tryz.prog 45 1 1:=.of (by kernel_rfl)
theorem Vv:QQ Tryz.prog 45 2 10:=.of (by kernel_rfl)
theorem JX:QQ Tryz.prog 45 3 29:=.of (by kernel_rfl)
theorem YR:QQ Tryz.prog 45 4 34:=.of (by kernel_rfl)
theorem zjo:PlT Tryz.prog 32 #[(0,1),(1,1),(2,1),(3,1),(4,1),(5,1),(6,3)] (.agg #[(.int .i64 0),(.int .i64 0),(.int .i64 0),(.int .i64 0),(.int .i64 0),(.int .i64 0),(.int .i64 0),(.int .i64 0),(.int .i64 0)]):=⟨.of (by kernel_rfl),by kernel_rfl,fun w=>by kernel_rfl⟩
theorem zoM:PlT Tryz.prog 41 #[(0,1),(1,1),(2,1),(3,1),(4,1)] (.agg #[(.int .i64 0),(.int .i64 0),(.int .i64 0),(.int .i64 0),(.int .i64 0)]):=⟨.of (by kernel_rfl),by kernel_rfl,fun w=>by kernel_rfl⟩
theorem zaN:PlT Tryz.prog 43 #[(0,1),(1,1),(2,1),(3,1),(4,1),(5,1),(6,1),(7,1),(8,1),(9,1),(10,1)] (.agg #[(.int .i64 0),(.int .i64 0),(.int .i64 0),(.int .i64 0),(.int .i64 0),(.int .i64 0),(.string ⟨#[]⟩),(.string ⟨#[]⟩),(.int .i64 0),(.int .i64 0),(.int .i64 0)]):=⟨.of (by kernel_rfl),by kernel_rfl,fun w=>by kernel_rfl⟩
theorem zfO {I:Qv}{loc:Go.Kn.Loc}{b:Nat}{x:Nt}(h:Cells I loc b 0 (Zn x)):Cells I loc b 1 (ZJ x.lm):=Cells.part (pre:=[.int .i64 x.kind]) (post:=W5 x.pt++(L.encL x.ls++S.encR x.rt)) h rfl
theorem zhz {I:Qv}{loc:Go.Kn.Loc}{b:Nat}{x:Nt}(h:Cells I loc b 0 (Zn x)):Cells I loc b 10 (W5 x.pt):=Cells.part (pre:=.int .i64 x.kind::ZJ x.lm) (post:=L.encL x.ls++S.encR x.rt) h rfl
theorem zhO {I:Qv}{loc:Go.Kn.Loc}{b:Nat}{x:Nt}(h:Cells I loc b 0 (Zn x)):Cells I loc b 29 (L.encL x.ls):=Cells.part (pre:=.int .i64 x.kind::(ZJ x.lm++W5 x.pt)) (post:=S.encR x.rt) h rfl
theorem ze2 {I:Qv}{loc:Go.Kn.Loc}{b:Nat}{x:Nt}(h:Cells I loc b 0 (Zn x)):Cells I loc b 34 (S.encR x.rt):=Cells.part (pre:=.int .i64 x.kind::(ZJ x.lm++(W5 x.pt++L.encL x.ls))) (post:=[]) h rfl
theorem zmL {I:Qv}{loc:Go.Kn.Loc}{b:Nat}{x:Pt}(h:Cells I loc b 0 (W5 x)):Cells I loc b 4 (zhX x.nw):=Cells.part (pre:=[.int .i64 x.id,.int .i64 x.kind,.int .i64 x.sign,.int .i64 x.field]) (post:=[.slice x.a x.n x.c]) h rfl
theorem U2 {I:Qv}(x:Nt):Yc Tryz.prog 172 [JK x] I (.bool (zf4 x)):=by
 intro g H w hw
 refine qe Tryz.func172 Tryz.ntmps172 hw ?_
 have hIc:=zxd I
 refine zR ?_
 refine Zh rfl rfl rfl (fun b_1=>?_)
 refine zA (Qb ?_)
 refine QO .here (fun I1 hI1 hb1=>?_)
 have hIc:=hIc.trans hI1
 have h1:=BxI.of hb1
 refine Qc (zR ?_)
 refine zF Vv ?_
 refine zV (Qg rfl JA (fun hg=>by exact zhz (BxI.cells (vs:=Zn x) h1)) rfl) ?_
 refine Qt zaL rfl rfl (fun b_3=>?_)
 refine zh Uk ?_
 refine Qb ?_
 refine QO .here (fun I2 hI2 hb2=>?_)
 have h1:=h1.mono hI2;have hIc:=hIc.trans hI2
 have h3:=BxI.of hb2
 refine Qc ?_
 refine zY [(1,_)] (fun T L0 E I' loc'=>∃ (r:Nat) (m:List (Int×Bool)),E=(4,.map (some r))::T∧I2=I'∧[(r,YD (.int .i64) .bool m)]=loc'∧ZS m 1=some (z1 x)∧ZS m 2=some (z2 x)∧ZS m 3=some (z3 x)∧ZS m 4=some (z4 x)) ?_ ?_
 ·
  have hD:=zxd I2
  refine ZL ?_
  refine Q0 I2 [] mixed ?_
  refine QY 1 rfl (Qa rfl VI) (.none rfl) rfl rfl (by kernel_rfl) (by kernel_rfl) (by kernel_rfl) QK hD (by repeat (first | exact .refl | exact Qe | refine .keep ?_ | refine .drop ?_ | refine Qf ?_)) ?_
  refine QY 2 rfl (Qg rfl Kt (fun hg=>by exact zfO (BxI.cells (vs:=Zn x) h1)) rfl) (.none rfl) rfl rfl (by kernel_rfl) (by kernel_rfl) (by kernel_rfl) QK hD (by repeat (first | exact .refl | exact Qe | refine .keep ?_ | refine .drop ?_ | refine Qf ?_)) ?_
  refine QY 3 rfl (QZ (ps:=[]) [_,_,_,_,_,_,_,_,_] zjo rfl rfl) (.none rfl) rfl rfl (by kernel_rfl) (by kernel_rfl) (by kernel_rfl) QK hD (by repeat (first | exact .refl | exact Qe | refine .keep ?_ | refine .drop ?_ | refine Qf ?_)) ?_
  refine QY 4 rfl (za7 rfl rfl ze7 rfl) (.none rfl) rfl rfl (by kernel_rfl) (by kernel_rfl) (by kernel_rfl) QK hD (by repeat (first | exact .refl | exact Qe | refine .keep ?_ | refine .drop ?_ | refine Qf ?_)) ?_
  refine QY 6 rfl (Qa rfl YI) (.none rfl) rfl rfl (by kernel_rfl) (by kernel_rfl) (by kernel_rfl) QK hD (by repeat (first | exact .refl | exact Qe | refine .keep ?_ | refine .drop ?_ | refine Qf ?_)) ?_
  refine QY 7 rfl (Qd rfl QA (fun hg=>by exact QG.imm h3.out rfl)) (.none rfl) rfl rfl (by kernel_rfl) (by kernel_rfl) (by kernel_rfl) QK hD (by repeat (first | exact .refl | exact Qe | refine .keep ?_ | refine .drop ?_ | refine Qf ?_)) ?_
  refine QY 8 rfl (QT rfl rfl rfl) (.none rfl) rfl rfl (by kernel_rfl) (by kernel_rfl) (by kernel_rfl) QK hD (by repeat (first | exact .refl | exact Qe | refine .keep ?_ | refine .drop ?_ | refine Qf ?_)) ?_
  refine QY 9 rfl (Qh rfl) (.none rfl) rfl rfl (by kernel_rfl) (by kernel_rfl) (by kernel_rfl) QK hD (by repeat (first | exact .refl | exact Qe | refine .keep ?_ | refine .drop ?_ | refine Qf ?_)) ?_
  refine Wi 9 rfl rfl rfl ?_
  refine YO 10 rfl (Qa rfl KM) (.some rfl rfl rfl rfl gbt) rfl rfl rfl (by kernel_rfl) (by kernel_rfl) (by kernel_rfl) QK hD (by repeat (first | exact .refl | exact Qe | refine .keep ?_ | refine .drop ?_ | refine Qf ?_)) ?_
  refine YO 11 rfl (Qd rfl QA (fun hg=>by exact QG.imm h3.out rfl)) (.some rfl rfl rfl rfl gbt) rfl rfl rfl (by kernel_rfl) (by kernel_rfl) (by kernel_rfl) QK hD (by repeat (first | exact .refl | exact Qe | refine .keep ?_ | refine .drop ?_ | refine Qf ?_)) ?_
  refine YO 12 rfl (QT rfl rfl rfl) (.some rfl rfl rfl rfl gbt) rfl rfl rfl (by kernel_rfl) (by kernel_rfl) (by kernel_rfl) QK hD (by repeat (first | exact .refl | exact Qe | refine .keep ?_ | refine .drop ?_ | refine Qf ?_)) ?_
  refine zat 13 rfl rfl rfl rfl rfl rfl (by kernel_rfl) (by kernel_rfl) (by kernel_rfl) QK hD (by repeat (first | exact .refl | exact Qe | refine .keep ?_ | refine .drop ?_ | refine Qf ?_)) ?_
  refine QY 14 rfl (Qh rfl) (.none rfl) rfl rfl (by kernel_rfl) (by kernel_rfl) (by kernel_rfl) QK hD (by repeat (first | exact .refl | exact Qe | refine .keep ?_ | refine .drop ?_ | refine Qf ?_)) ?_
  refine Wi 14 rfl rfl rfl ?_
  refine YO 15 rfl (Qa rfl Vj) (.some rfl rfl rfl rfl gbt) rfl rfl rfl (by kernel_rfl) (by kernel_rfl) (by kernel_rfl) QK hD (by repeat (first | exact .refl | exact Qe | refine .keep ?_ | refine .drop ?_ | refine Qf ?_)) ?_
  refine YO 16 rfl (Qd rfl QA (fun hg=>by exact QG.imm h3.out rfl)) (.some rfl rfl rfl rfl gbt) rfl rfl rfl (by kernel_rfl) (by kernel_rfl) (by kernel_rfl) QK hD (by repeat (first | exact .refl | exact Qe | refine .keep ?_ | refine .drop ?_ | refine Qf ?_)) ?_
  refine YO 17 rfl (QT rfl rfl rfl) (.some rfl rfl rfl rfl gbt) rfl rfl rfl (by kernel_rfl) (by kernel_rfl) (by kernel_rfl) QK hD (by repeat (first | exact .refl | exact Qe | refine .keep ?_ | refine .drop ?_ | refine Qf ?_)) ?_
  refine zat 18 rfl rfl rfl rfl rfl rfl (by kernel_rfl) (by kernel_rfl) (by kernel_rfl) QK hD (by repeat (first | exact .refl | exact Qe | refine .keep ?_ | refine .drop ?_ | refine Qf ?_)) ?_
  refine QY 19 rfl (Qh rfl) (.none rfl) rfl rfl (by kernel_rfl) (by kernel_rfl) (by kernel_rfl) QK hD (by repeat (first | exact .refl | exact Qe | refine .keep ?_ | refine .drop ?_ | refine Qf ?_)) ?_
  refine Wi 19 rfl rfl rfl ?_
  refine YO 20 rfl (Qa rfl V2) (.some rfl rfl rfl rfl gbt) rfl rfl rfl (by kernel_rfl) (by kernel_rfl) (by kernel_rfl) QK hD (by repeat (first | exact .refl | exact Qe | refine .keep ?_ | refine .drop ?_ | refine Qf ?_)) ?_
  refine YO 21 rfl (Qd rfl QA (fun hg=>by exact QG.imm h3.out rfl)) (.some rfl rfl rfl rfl gbt) rfl rfl rfl (by kernel_rfl) (by kernel_rfl) (by kernel_rfl) QK hD (by repeat (first | exact .refl | exact Qe | refine .keep ?_ | refine .drop ?_ | refine Qf ?_)) ?_
  refine YO 22 rfl (QT rfl rfl rfl) (.some rfl rfl rfl rfl gbt) rfl rfl rfl (by kernel_rfl) (by kernel_rfl) (by kernel_rfl) QK hD (by repeat (first | exact .refl | exact Qe | refine .keep ?_ | refine .drop ?_ | refine Qf ?_)) ?_
  refine zat 23 rfl rfl rfl rfl rfl rfl (by kernel_rfl) (by kernel_rfl) (by kernel_rfl) QK hD (by repeat (first | exact .refl | exact Qe | refine .keep ?_ | refine .drop ?_ | refine Qf ?_)) ?_
  refine QY 24 rfl (Qh rfl) (.none rfl) rfl rfl (by kernel_rfl) (by kernel_rfl) (by kernel_rfl) QK hD (by repeat (first | exact .refl | exact Qe | refine .keep ?_ | refine .drop ?_ | refine Qf ?_)) ?_
  refine Wi 24 rfl rfl rfl ?_
  refine YO 25 rfl (Qa rfl Jh) (.some rfl rfl rfl rfl gbt) rfl rfl rfl (by kernel_rfl) (by kernel_rfl) (by kernel_rfl) QK hD (by repeat (first | exact .refl | exact Qe | refine .keep ?_ | refine .drop ?_ | refine Qf ?_)) ?_
  refine YO 26 rfl (Qg rfl VR (fun hg=>by exact zmL (BxI.cells (vs:=W5 x.pt) h3)) rfl) (.some rfl rfl rfl rfl gbt) rfl rfl rfl (by kernel_rfl) (by kernel_rfl) (by kernel_rfl) QK hD (by repeat (first | exact .refl | exact Qe | refine .keep ?_ | refine .drop ?_ | refine Qf ?_)) ?_
  refine YO 27 rfl (QZ (ps:=[]) [_,_,_,_,_,_,_,_,_,_,_,_,_,_] zez rfl rfl) (.some rfl rfl rfl rfl gbt) rfl rfl rfl (by kernel_rfl) (by kernel_rfl) (by kernel_rfl) QK hD (by repeat (first | exact .refl | exact Qe | refine .keep ?_ | refine .drop ?_ | refine Qf ?_)) ?_
  refine YO 28 rfl (za7 rfl rfl zci rfl) (.some rfl rfl rfl rfl gbt) rfl rfl rfl (by kernel_rfl) (by kernel_rfl) (by kernel_rfl) QK hD (by repeat (first | exact .refl | exact Qe | refine .keep ?_ | refine .drop ?_ | refine Qf ?_)) ?_
  refine zat 29 rfl rfl rfl rfl rfl rfl (by kernel_rfl) (by kernel_rfl) (by kernel_rfl) QK hD (by repeat (first | exact .refl | exact Qe | refine .keep ?_ | refine .drop ?_ | refine Qf ?_)) ?_
  refine QY 30 rfl (Qh rfl) (.none rfl) rfl rfl (by kernel_rfl) (by kernel_rfl) (by kernel_rfl) QK hD (by repeat (first | exact .refl | exact Qe | refine .keep ?_ | refine .drop ?_ | refine Qf ?_)) ?_
  refine Wi 30 rfl rfl rfl ?_
  refine YO 31 rfl (Qa rfl Y6) (.some rfl rfl rfl rfl gbt) rfl rfl rfl (by kernel_rfl) (by kernel_rfl) (by kernel_rfl) QK hD (by repeat (first | exact .refl | exact Qe | refine .keep ?_ | refine .drop ?_ | refine Qf ?_)) ?_
  refine YO 32 rfl (Qd rfl Kb (fun hg=>by exact QG.imm h3.out rfl)) (.some rfl rfl rfl rfl gbt) rfl rfl rfl (by kernel_rfl) (by kernel_rfl) (by kernel_rfl) QK hD (by repeat (first | exact .refl | exact Qe | refine .keep ?_ | refine .drop ?_ | refine Qf ?_)) ?_
  refine YO 33 rfl (Q9 rfl Yo) (.some rfl rfl rfl rfl gbt) rfl rfl rfl (by kernel_rfl) (by kernel_rfl) (by kernel_rfl) QK hD (by repeat (first | exact .refl | exact Qe | refine .keep ?_ | refine .drop ?_ | refine Qf ?_)) ?_
  refine YO 34 rfl (QT rfl rfl rfl) (.some rfl rfl rfl rfl gbt) rfl rfl rfl (by kernel_rfl) (by kernel_rfl) (by kernel_rfl) QK hD (by repeat (first | exact .refl | exact Qe | refine .keep ?_ | refine .drop ?_ | refine Qf ?_)) ?_
  refine zat 35 rfl rfl rfl rfl rfl rfl (by kernel_rfl) (by kernel_rfl) (by kernel_rfl) QK hD (by repeat (first | exact .refl | exact Qe | refine .keep ?_ | refine .drop ?_ | refine Qf ?_)) ?_
  refine QY 37 rfl (Qa rfl JX) (.none rfl) rfl rfl (by kernel_rfl) (by kernel_rfl) (by kernel_rfl) QK hD (by repeat (first | exact .refl | exact Qe | refine .keep ?_ | refine .drop ?_ | refine Qf ?_)) ?_
  refine QY 38 rfl (Qg rfl JZ (fun hg=>by exact zhO (BxI.cells (vs:=Zn x) h1)) rfl) (.none rfl) rfl rfl (by kernel_rfl) (by kernel_rfl) (by kernel_rfl) QK hD (by repeat (first | exact .refl | exact Qe | refine .keep ?_ | refine .drop ?_ | refine Qf ?_)) ?_
  refine QY 39 rfl (QZ (ps:=[]) [_,_,_,_,_] zoM rfl rfl) (.none rfl) rfl rfl (by kernel_rfl) (by kernel_rfl) (by kernel_rfl) QK hD (by repeat (first | exact .refl | exact Qe | refine .keep ?_ | refine .drop ?_ | refine Qf ?_)) ?_
  refine QY 40 rfl (Wz rfl rfl zgs rfl) (.none rfl) rfl rfl (by kernel_rfl) (by kernel_rfl) (by kernel_rfl) QK hD (by repeat (first | exact .refl | exact Qe | refine .keep ?_ | refine .drop ?_ | refine Qf ?_)) ?_
  refine QY 42 rfl (Qa rfl YR) (.none rfl) rfl rfl (by kernel_rfl) (by kernel_rfl) (by kernel_rfl) QK hD (by repeat (first | exact .refl | exact Qe | refine .keep ?_ | refine .drop ?_ | refine Qf ?_)) ?_
  refine QY 43 rfl (Qg rfl Vn (fun hg=>by exact ze2 (BxI.cells (vs:=Zn x) h1)) rfl) (.none rfl) rfl rfl (by kernel_rfl) (by kernel_rfl) (by kernel_rfl) QK hD (by repeat (first | exact .refl | exact Qe | refine .keep ?_ | refine .drop ?_ | refine Qf ?_)) ?_
  refine QY 44 rfl (QZ (ps:=[]) [_,_,_,_,_,_,_,_,_,_,_] zaN rfl rfl) (.none rfl) rfl rfl (by kernel_rfl) (by kernel_rfl) (by kernel_rfl) QK hD (by repeat (first | exact .refl | exact Qe | refine .keep ?_ | refine .drop ?_ | refine Qf ?_)) ?_
  refine QY 45 rfl (Wz rfl rfl Xo rfl) (.none rfl) rfl rfl (by kernel_rfl) (by kernel_rfl) (by kernel_rfl) QK hD (by repeat (first | exact .refl | exact Qe | refine .keep ?_ | refine .drop ?_ | refine Qf ?_)) ?_
  refine qd 0 rfl ?_
  refine Yh rfl rfl (fun r_7=>?_)
  refine (show XO _ _ _ _ _ _ _ ((r_7,YD (.int .i64) .bool ([]:List (Int×Bool)))::[]) from ?_)
  refine Qb ?_
  refine zD hD ?_
  refine zlu 5 36 41 46 rfl rfl rfl rfl (by kernel_rfl) ?_ ?_ ?_ ?_
  ·
   refine QI (ek:=Value.int .i64) (ev:=Value.bool) _ Zd Zj rfl rfl rfl rfl (by repeat (first | exact Upd.here | apply Upd.there | apply Qx)) ?_
   refine Qb ?_
   refine zD hD ?_
   refine VH 36 41 46 rfl rfl rfl (by kernel_rfl) ?_ ?_ ?_
   ·
    refine QI (ek:=Value.int .i64) (ev:=Value.bool) _ Zd Zj rfl rfl rfl rfl (by repeat (first | exact Upd.here | apply Upd.there | apply Qx)) ?_
    refine Qb ?_
    refine zD hD ?_
    refine Q8 41 46 rfl rfl (by kernel_rfl) ?_ ?_
    ·
     refine QI (ek:=Value.int .i64) (ev:=Value.bool) _ Zd Zj rfl rfl rfl rfl (by repeat (first | exact Upd.here | apply Upd.there | apply Qx)) ?_
     refine Qb ?_
     refine zD hD ?_
     refine qd 46 rfl ?_
     refine QI (ek:=Value.int .i64) (ev:=Value.bool) _ Zd Zj rfl rfl rfl rfl (by repeat (first | exact Upd.here | apply Upd.there | apply Qx)) ?_
     refine Qb ?_
     refine zD hD ?_
     refine QY 47 rfl (Qh rfl) (.none rfl) rfl rfl (by kernel_rfl) (by kernel_rfl) (by kernel_rfl) QK hD (by repeat (first | exact .refl | exact Qe | refine .keep ?_ | refine .drop ?_ | refine Qf ?_)) ?_
     refine QY 48 rfl (QC rfl) (.none rfl) rfl rfl (by kernel_rfl) (by kernel_rfl) (by kernel_rfl) QK hD (by repeat (first | exact .refl | exact Qe | refine .keep ?_ | refine .drop ?_ | refine Qf ?_)) ?_
     refine Qm (by kernel_rfl) ?_
     refine Qy ?_
     refine Zt _ _ ⟨_,_,rfl,rfl,rfl,?_,?_,?_,?_⟩ (.cons rfl (.cons rfl .nil)) (by repeat (first | exact .refl | exact QN | refine Zf ?_ | refine .drop ?_ | refine Qf ?_))
     all_goals rfl
    refine QI (ek:=Value.int .i64) (ev:=Value.bool) _ Zd Zj rfl rfl rfl rfl (by repeat (first | exact Upd.here | apply Upd.there | apply Qx)) ?_
    refine Qb ?_
    refine zD hD ?_
    refine qd 41 rfl ?_
    refine QI (ek:=Value.int .i64) (ev:=Value.bool) _ Zd Zj rfl rfl rfl rfl (by repeat (first | exact Upd.here | apply Upd.there | apply Qx)) ?_
    refine Qb ?_
    refine zD hD ?_
    refine QY 47 rfl (Qh rfl) (.none rfl) rfl rfl (by kernel_rfl) (by kernel_rfl) (by kernel_rfl) QK hD (by repeat (first | exact .refl | exact Qe | refine .keep ?_ | refine .drop ?_ | refine Qf ?_)) ?_
    refine QY 48 rfl (QC rfl) (.none rfl) rfl rfl (by kernel_rfl) (by kernel_rfl) (by kernel_rfl) QK hD (by repeat (first | exact .refl | exact Qe | refine .keep ?_ | refine .drop ?_ | refine Qf ?_)) ?_
    refine Qm (by kernel_rfl) ?_
    refine Qy ?_
    refine Zt _ _ ⟨_,_,rfl,rfl,rfl,?_,?_,?_,?_⟩ (.cons rfl (.cons rfl .nil)) (by repeat (first | exact .refl | exact QN | refine Zf ?_ | refine .drop ?_ | refine Qf ?_))
    all_goals rfl
   ·
    refine QI (ek:=Value.int .i64) (ev:=Value.bool) _ Zd Zj rfl rfl rfl rfl (by repeat (first | exact Upd.here | apply Upd.there | apply Qx)) ?_
    refine Qb ?_
    refine zD hD ?_
    refine Q8 36 46 rfl rfl (by kernel_rfl) ?_ ?_
    ·
     refine QI (ek:=Value.int .i64) (ev:=Value.bool) _ Zd Zj rfl rfl rfl rfl (by repeat (first | exact Upd.here | apply Upd.there | apply Qx)) ?_
     refine Qb ?_
     refine zD hD ?_
     refine qd 46 rfl ?_
     refine QI (ek:=Value.int .i64) (ev:=Value.bool) _ Zd Zj rfl rfl rfl rfl (by repeat (first | exact Upd.here | apply Upd.there | apply Qx)) ?_
     refine Qb ?_
     refine zD hD ?_
     refine QY 47 rfl (Qh rfl) (.none rfl) rfl rfl (by kernel_rfl) (by kernel_rfl) (by kernel_rfl) QK hD (by repeat (first | exact .refl | exact Qe | refine .keep ?_ | refine .drop ?_ | refine Qf ?_)) ?_
     refine QY 48 rfl (QC rfl) (.none rfl) rfl rfl (by kernel_rfl) (by kernel_rfl) (by kernel_rfl) QK hD (by repeat (first | exact .refl | exact Qe | refine .keep ?_ | refine .drop ?_ | refine Qf ?_)) ?_
     refine Qm (by kernel_rfl) ?_
     refine Qy ?_
     refine Zt _ _ ⟨_,_,rfl,rfl,rfl,?_,?_,?_,?_⟩ (.cons rfl (.cons rfl .nil)) (by repeat (first | exact .refl | exact QN | refine Zf ?_ | refine .drop ?_ | refine Qf ?_))
     all_goals rfl
    refine QI (ek:=Value.int .i64) (ev:=Value.bool) _ Zd Zj rfl rfl rfl rfl (by repeat (first | exact Upd.here | apply Upd.there | apply Qx)) ?_
    refine Qb ?_
    refine zD hD ?_
    refine qd 36 rfl ?_
    refine QI (ek:=Value.int .i64) (ev:=Value.bool) _ Zd Zj rfl rfl rfl rfl (by repeat (first | exact Upd.here | apply Upd.there | apply Qx)) ?_
    refine Qb ?_
    refine zD hD ?_
    refine QY 47 rfl (Qh rfl) (.none rfl) rfl rfl (by kernel_rfl) (by kernel_rfl) (by kernel_rfl) QK hD (by repeat (first | exact .refl | exact Qe | refine .keep ?_ | refine .drop ?_ | refine Qf ?_)) ?_
    refine QY 48 rfl (QC rfl) (.none rfl) rfl rfl (by kernel_rfl) (by kernel_rfl) (by kernel_rfl) QK hD (by repeat (first | exact .refl | exact Qe | refine .keep ?_ | refine .drop ?_ | refine Qf ?_)) ?_
    refine Qm (by kernel_rfl) ?_
    refine Qy ?_
    refine Zt _ _ ⟨_,_,rfl,rfl,rfl,?_,?_,?_,?_⟩ (.cons rfl (.cons rfl .nil)) (by repeat (first | exact .refl | exact QN | refine Zf ?_ | refine .drop ?_ | refine Qf ?_))
    all_goals rfl
   refine QI (ek:=Value.int .i64) (ev:=Value.bool) _ Zd Zj rfl rfl rfl rfl (by repeat (first | exact Upd.here | apply Upd.there | apply Qx)) ?_
   refine Qb ?_
   refine zD hD ?_
   refine Q8 36 41 rfl rfl (by kernel_rfl) ?_ ?_
   ·
    refine QI (ek:=Value.int .i64) (ev:=Value.bool) _ Zd Zj rfl rfl rfl rfl (by repeat (first | exact Upd.here | apply Upd.there | apply Qx)) ?_
    refine Qb ?_
    refine zD hD ?_
    refine qd 41 rfl ?_
    refine QI (ek:=Value.int .i64) (ev:=Value.bool) _ Zd Zj rfl rfl rfl rfl (by repeat (first | exact Upd.here | apply Upd.there | apply Qx)) ?_
    refine Qb ?_
    refine zD hD ?_
    refine QY 47 rfl (Qh rfl) (.none rfl) rfl rfl (by kernel_rfl) (by kernel_rfl) (by kernel_rfl) QK hD (by repeat (first | exact .refl | exact Qe | refine .keep ?_ | refine .drop ?_ | refine Qf ?_)) ?_
    refine QY 48 rfl (QC rfl) (.none rfl) rfl rfl (by kernel_rfl) (by kernel_rfl) (by kernel_rfl) QK hD (by repeat (first | exact .refl | exact Qe | refine .keep ?_ | refine .drop ?_ | refine Qf ?_)) ?_
    refine Qm (by kernel_rfl) ?_
    refine Qy ?_
    refine Zt _ _ ⟨_,_,rfl,rfl,rfl,?_,?_,?_,?_⟩ (.cons rfl (.cons rfl .nil)) (by repeat (first | exact .refl | exact QN | refine Zf ?_ | refine .drop ?_ | refine Qf ?_))
    all_goals rfl
   refine QI (ek:=Value.int .i64) (ev:=Value.bool) _ Zd Zj rfl rfl rfl rfl (by repeat (first | exact Upd.here | apply Upd.there | apply Qx)) ?_
   refine Qb ?_
   refine zD hD ?_
   refine qd 36 rfl ?_
   refine QI (ek:=Value.int .i64) (ev:=Value.bool) _ Zd Zj rfl rfl rfl rfl (by repeat (first | exact Upd.here | apply Upd.there | apply Qx)) ?_
   refine Qb ?_
   refine zD hD ?_
   refine QY 47 rfl (Qh rfl) (.none rfl) rfl rfl (by kernel_rfl) (by kernel_rfl) (by kernel_rfl) QK hD (by repeat (first | exact .refl | exact Qe | refine .keep ?_ | refine .drop ?_ | refine Qf ?_)) ?_
   refine QY 48 rfl (QC rfl) (.none rfl) rfl rfl (by kernel_rfl) (by kernel_rfl) (by kernel_rfl) QK hD (by repeat (first | exact .refl | exact Qe | refine .keep ?_ | refine .drop ?_ | refine Qf ?_)) ?_
   refine Qm (by kernel_rfl) ?_
   refine Qy ?_
   refine Zt _ _ ⟨_,_,rfl,rfl,rfl,?_,?_,?_,?_⟩ (.cons rfl (.cons rfl .nil)) (by repeat (first | exact .refl | exact QN | refine Zf ?_ | refine .drop ?_ | refine Qf ?_))
   all_goals rfl
  ·
   refine QI (ek:=Value.int .i64) (ev:=Value.bool) _ Zd Zj rfl rfl rfl rfl (by repeat (first | exact Upd.here | apply Upd.there | apply Qx)) ?_
   refine Qb ?_
   refine zD hD ?_
   refine VH 5 41 46 rfl rfl rfl (by kernel_rfl) ?_ ?_ ?_
   ·
    refine QI (ek:=Value.int .i64) (ev:=Value.bool) _ Zd Zj rfl rfl rfl rfl (by repeat (first | exact Upd.here | apply Upd.there | apply Qx)) ?_
    refine Qb ?_
    refine zD hD ?_
    refine Q8 41 46 rfl rfl (by kernel_rfl) ?_ ?_
    ·
     refine QI (ek:=Value.int .i64) (ev:=Value.bool) _ Zd Zj rfl rfl rfl rfl (by repeat (first | exact Upd.here | apply Upd.there | apply Qx)) ?_
     refine Qb ?_
     refine zD hD ?_
     refine qd 46 rfl ?_
     refine QI (ek:=Value.int .i64) (ev:=Value.bool) _ Zd Zj rfl rfl rfl rfl (by repeat (first | exact Upd.here | apply Upd.there | apply Qx)) ?_
     refine Qb ?_
     refine zD hD ?_
     refine QY 47 rfl (Qh rfl) (.none rfl) rfl rfl (by kernel_rfl) (by kernel_rfl) (by kernel_rfl) QK hD (by repeat (first | exact .refl | exact Qe | refine .keep ?_ | refine .drop ?_ | refine Qf ?_)) ?_
     refine QY 48 rfl (QC rfl) (.none rfl) rfl rfl (by kernel_rfl) (by kernel_rfl) (by kernel_rfl) QK hD (by repeat (first | exact .refl | exact Qe | refine .keep ?_ | refine .drop ?_ | refine Qf ?_)) ?_
     refine Qm (by kernel_rfl) ?_
     refine Qy ?_
     refine Zt _ _ ⟨_,_,rfl,rfl,rfl,?_,?_,?_,?_⟩ (.cons rfl (.cons rfl .nil)) (by repeat (first | exact .refl | exact QN | refine Zf ?_ | refine .drop ?_ | refine Qf ?_))
     all_goals rfl
    refine QI (ek:=Value.int .i64) (ev:=Value.bool) _ Zd Zj rfl rfl rfl rfl (by repeat (first | exact Upd.here | apply Upd.there | apply Qx)) ?_
    refine Qb ?_
    refine zD hD ?_
    refine qd 41 rfl ?_
    refine QI (ek:=Value.int .i64) (ev:=Value.bool) _ Zd Zj rfl rfl rfl rfl (by repeat (first | exact Upd.here | apply Upd.there | apply Qx)) ?_
    refine Qb ?_
    refine zD hD ?_
    refine QY 47 rfl (Qh rfl) (.none rfl) rfl rfl (by kernel_rfl) (by kernel_rfl) (by kernel_rfl) QK hD (by repeat (first | exact .refl | exact Qe | refine .keep ?_ | refine .drop ?_ | refine Qf ?_)) ?_
    refine QY 48 rfl (QC rfl) (.none rfl) rfl rfl (by kernel_rfl) (by kernel_rfl) (by kernel_rfl) QK hD (by repeat (first | exact .refl | exact Qe | refine .keep ?_ | refine .drop ?_ | refine Qf ?_)) ?_
    refine Qm (by kernel_rfl) ?_
    refine Qy ?_
    refine Zt _ _ ⟨_,_,rfl,rfl,rfl,?_,?_,?_,?_⟩ (.cons rfl (.cons rfl .nil)) (by repeat (first | exact .refl | exact QN | refine Zf ?_ | refine .drop ?_ | refine Qf ?_))
    all_goals rfl
   ·
    refine QI (ek:=Value.int .i64) (ev:=Value.bool) _ Zd Zj rfl rfl rfl rfl (by repeat (first | exact Upd.here | apply Upd.there | apply Qx)) ?_
    refine Qb ?_
    refine zD hD ?_
    refine Q8 5 46 rfl rfl (by kernel_rfl) ?_ ?_
    ·
     refine QI (ek:=Value.int .i64) (ev:=Value.bool) _ Zd Zj rfl rfl rfl rfl (by repeat (first | exact Upd.here | apply Upd.there | apply Qx)) ?_
     refine Qb ?_
     refine zD hD ?_
     refine qd 46 rfl ?_
     refine QI (ek:=Value.int .i64) (ev:=Value.bool) _ Zd Zj rfl rfl rfl rfl (by repeat (first | exact Upd.here | apply Upd.there | apply Qx)) ?_
     refine Qb ?_
     refine zD hD ?_
     refine QY 47 rfl (Qh rfl) (.none rfl) rfl rfl (by kernel_rfl) (by kernel_rfl) (by kernel_rfl) QK hD (by repeat (first | exact .refl | exact Qe | refine .keep ?_ | refine .drop ?_ | refine Qf ?_)) ?_
     refine QY 48 rfl (QC rfl) (.none rfl) rfl rfl (by kernel_rfl) (by kernel_rfl) (by kernel_rfl) QK hD (by repeat (first | exact .refl | exact Qe | refine .keep ?_ | refine .drop ?_ | refine Qf ?_)) ?_
     refine Qm (by kernel_rfl) ?_
     refine Qy ?_
     refine Zt _ _ ⟨_,_,rfl,rfl,rfl,?_,?_,?_,?_⟩ (.cons rfl (.cons rfl .nil)) (by repeat (first | exact .refl | exact QN | refine Zf ?_ | refine .drop ?_ | refine Qf ?_))
     all_goals rfl
    refine QI (ek:=Value.int .i64) (ev:=Value.bool) _ Zd Zj rfl rfl rfl rfl (by repeat (first | exact Upd.here | apply Upd.there | apply Qx)) ?_
    refine Qb ?_
    refine zD hD ?_
    refine qd 5 rfl ?_
    refine QI (ek:=Value.int .i64) (ev:=Value.bool) _ Zd Zj rfl rfl rfl rfl (by repeat (first | exact Upd.here | apply Upd.there | apply Qx)) ?_
    refine Qb ?_
    refine zD hD ?_
    refine QY 47 rfl (Qh rfl) (.none rfl) rfl rfl (by kernel_rfl) (by kernel_rfl) (by kernel_rfl) QK hD (by repeat (first | exact .refl | exact Qe | refine .keep ?_ | refine .drop ?_ | refine Qf ?_)) ?_
    refine QY 48 rfl (QC rfl) (.none rfl) rfl rfl (by kernel_rfl) (by kernel_rfl) (by kernel_rfl) QK hD (by repeat (first | exact .refl | exact Qe | refine .keep ?_ | refine .drop ?_ | refine Qf ?_)) ?_
    refine Qm (by kernel_rfl) ?_
    refine Qy ?_
    refine Zt _ _ ⟨_,_,rfl,rfl,rfl,?_,?_,?_,?_⟩ (.cons rfl (.cons rfl .nil)) (by repeat (first | exact .refl | exact QN | refine Zf ?_ | refine .drop ?_ | refine Qf ?_))
    all_goals rfl
   refine QI (ek:=Value.int .i64) (ev:=Value.bool) _ Zd Zj rfl rfl rfl rfl (by repeat (first | exact Upd.here | apply Upd.there | apply Qx)) ?_
   refine Qb ?_
   refine zD hD ?_
   refine Q8 5 41 rfl rfl (by kernel_rfl) ?_ ?_
   ·
    refine QI (ek:=Value.int .i64) (ev:=Value.bool) _ Zd Zj rfl rfl rfl rfl (by repeat (first | exact Upd.here | apply Upd.there | apply Qx)) ?_
    refine Qb ?_
    refine zD hD ?_
    refine qd 41 rfl ?_
    refine QI (ek:=Value.int .i64) (ev:=Value.bool) _ Zd Zj rfl rfl rfl rfl (by repeat (first | exact Upd.here | apply Upd.there | apply Qx)) ?_
    refine Qb ?_
    refine zD hD ?_
    refine QY 47 rfl (Qh rfl) (.none rfl) rfl rfl (by kernel_rfl) (by kernel_rfl) (by kernel_rfl) QK hD (by repeat (first | exact .refl | exact Qe | refine .keep ?_ | refine .drop ?_ | refine Qf ?_)) ?_
    refine QY 48 rfl (QC rfl) (.none rfl) rfl rfl (by kernel_rfl) (by kernel_rfl) (by kernel_rfl) QK hD (by repeat (first | exact .refl | exact Qe | refine .keep ?_ | refine .drop ?_ | refine Qf ?_)) ?_
    refine Qm (by kernel_rfl) ?_
    refine Qy ?_
    refine Zt _ _ ⟨_,_,rfl,rfl,rfl,?_,?_,?_,?_⟩ (.cons rfl (.cons rfl .nil)) (by repeat (first | exact .refl | exact QN | refine Zf ?_ | refine .drop ?_ | refine Qf ?_))
    all_goals rfl
   refine QI (ek:=Value.int .i64) (ev:=Value.bool) _ Zd Zj rfl rfl rfl rfl (by repeat (first | exact Upd.here | apply Upd.there | apply Qx)) ?_
   refine Qb ?_
   refine zD hD ?_
   refine qd 5 rfl ?_
   refine QI (ek:=Value.int .i64) (ev:=Value.bool) _ Zd Zj rfl rfl rfl rfl (by repeat (first | exact Upd.here | apply Upd.there | apply Qx)) ?_
   refine Qb ?_
   refine zD hD ?_
   refine QY 47 rfl (Qh rfl) (.none rfl) rfl rfl (by kernel_rfl) (by kernel_rfl) (by kernel_rfl) QK hD (by repeat (first | exact .refl | exact Qe | refine .keep ?_ | refine .drop ?_ | refine Qf ?_)) ?_
   refine QY 48 rfl (QC rfl) (.none rfl) rfl rfl (by kernel_rfl) (by kernel_rfl) (by kernel_rfl) QK hD (by repeat (first | exact .refl | exact Qe | refine .keep ?_ | refine .drop ?_ | refine Qf ?_)) ?_
   refine Qm (by kernel_rfl) ?_
   refine Qy ?_
   refine Zt _ _ ⟨_,_,rfl,rfl,rfl,?_,?_,?_,?_⟩ (.cons rfl (.cons rfl .nil)) (by repeat (first | exact .refl | exact QN | refine Zf ?_ | refine .drop ?_ | refine Qf ?_))
   all_goals rfl
  ·
   refine QI (ek:=Value.int .i64) (ev:=Value.bool) _ Zd Zj rfl rfl rfl rfl (by repeat (first | exact Upd.here | apply Upd.there | apply Qx)) ?_
   refine Qb ?_
   refine zD hD ?_
   refine VH 5 36 46 rfl rfl rfl (by kernel_rfl) ?_ ?_ ?_
   ·
    refine QI (ek:=Value.int .i64) (ev:=Value.bool) _ Zd Zj rfl rfl rfl rfl (by repeat (first | exact Upd.here | apply Upd.there | apply Qx)) ?_
    refine Qb ?_
    refine zD hD ?_
    refine Q8 36 46 rfl rfl (by kernel_rfl) ?_ ?_
    ·
     refine QI (ek:=Value.int .i64) (ev:=Value.bool) _ Zd Zj rfl rfl rfl rfl (by repeat (first | exact Upd.here | apply Upd.there | apply Qx)) ?_
     refine Qb ?_
     refine zD hD ?_
     refine qd 46 rfl ?_
     refine QI (ek:=Value.int .i64) (ev:=Value.bool) _ Zd Zj rfl rfl rfl rfl (by repeat (first | exact Upd.here | apply Upd.there | apply Qx)) ?_
     refine Qb ?_
     refine zD hD ?_
     refine QY 47 rfl (Qh rfl) (.none rfl) rfl rfl (by kernel_rfl) (by kernel_rfl) (by kernel_rfl) QK hD (by repeat (first | exact .refl | exact Qe | refine .keep ?_ | refine .drop ?_ | refine Qf ?_)) ?_
     refine QY 48 rfl (QC rfl) (.none rfl) rfl rfl (by kernel_rfl) (by kernel_rfl) (by kernel_rfl) QK hD (by repeat (first | exact .refl | exact Qe | refine .keep ?_ | refine .drop ?_ | refine Qf ?_)) ?_
     refine Qm (by kernel_rfl) ?_
     refine Qy ?_
     refine Zt _ _ ⟨_,_,rfl,rfl,rfl,?_,?_,?_,?_⟩ (.cons rfl (.cons rfl .nil)) (by repeat (first | exact .refl | exact QN | refine Zf ?_ | refine .drop ?_ | refine Qf ?_))
     all_goals rfl
    refine QI (ek:=Value.int .i64) (ev:=Value.bool) _ Zd Zj rfl rfl rfl rfl (by repeat (first | exact Upd.here | apply Upd.there | apply Qx)) ?_
    refine Qb ?_
    refine zD hD ?_
    refine qd 36 rfl ?_
    refine QI (ek:=Value.int .i64) (ev:=Value.bool) _ Zd Zj rfl rfl rfl rfl (by repeat (first | exact Upd.here | apply Upd.there | apply Qx)) ?_
    refine Qb ?_
    refine zD hD ?_
    refine QY 47 rfl (Qh rfl) (.none rfl) rfl rfl (by kernel_rfl) (by kernel_rfl) (by kernel_rfl) QK hD (by repeat (first | exact .refl | exact Qe | refine .keep ?_ | refine .drop ?_ | refine Qf ?_)) ?_
    refine QY 48 rfl (QC rfl) (.none rfl) rfl rfl (by kernel_rfl) (by kernel_rfl) (by kernel_rfl) QK hD (by repeat (first | exact .refl | exact Qe | refine .keep ?_ | refine .drop ?_ | refine Qf ?_)) ?_
    refine Qm (by kernel_rfl) ?_
    refine Qy ?_
    refine Zt _ _ ⟨_,_,rfl,rfl,rfl,?_,?_,?_,?_⟩ (.cons rfl (.cons rfl .nil)) (by repeat (first | exact .refl | exact QN | refine Zf ?_ | refine .drop ?_ | refine Qf ?_))
    all_goals rfl
   ·
    refine QI (ek:=Value.int .i64) (ev:=Value.bool) _ Zd Zj rfl rfl rfl rfl (by repeat (first | exact Upd.here | apply Upd.there | apply Qx)) ?_
    refine Qb ?_
    refine zD hD ?_
    refine Q8 5 46 rfl rfl (by kernel_rfl) ?_ ?_
    ·
     refine QI (ek:=Value.int .i64) (ev:=Value.bool) _ Zd Zj rfl rfl rfl rfl (by repeat (first | exact Upd.here | apply Upd.there | apply Qx)) ?_
     refine Qb ?_
     refine zD hD ?_
     refine qd 46 rfl ?_
     refine QI (ek:=Value.int .i64) (ev:=Value.bool) _ Zd Zj rfl rfl rfl rfl (by repeat (first | exact Upd.here | apply Upd.there | apply Qx)) ?_
     refine Qb ?_
     refine zD hD ?_
     refine QY 47 rfl (Qh rfl) (.none rfl) rfl rfl (by kernel_rfl) (by kernel_rfl) (by kernel_rfl) QK hD (by repeat (first | exact .refl | exact Qe | refine .keep ?_ | refine .drop ?_ | refine Qf ?_)) ?_
     refine QY 48 rfl (QC rfl) (.none rfl) rfl rfl (by kernel_rfl) (by kernel_rfl) (by kernel_rfl) QK hD (by repeat (first | exact .refl | exact Qe | refine .keep ?_ | refine .drop ?_ | refine Qf ?_)) ?_
     refine Qm (by kernel_rfl) ?_
     refine Qy ?_
     refine Zt _ _ ⟨_,_,rfl,rfl,rfl,?_,?_,?_,?_⟩ (.cons rfl (.cons rfl .nil)) (by repeat (first | exact .refl | exact QN | refine Zf ?_ | refine .drop ?_ | refine Qf ?_))
     all_goals rfl
    refine QI (ek:=Value.int .i64) (ev:=Value.bool) _ Zd Zj rfl rfl rfl rfl (by repeat (first | exact Upd.here | apply Upd.there | apply Qx)) ?_
    refine Qb ?_
    refine zD hD ?_
    refine qd 5 rfl ?_
    refine QI (ek:=Value.int .i64) (ev:=Value.bool) _ Zd Zj rfl rfl rfl rfl (by repeat (first | exact Upd.here | apply Upd.there | apply Qx)) ?_
    refine Qb ?_
    refine zD hD ?_
    refine QY 47 rfl (Qh rfl) (.none rfl) rfl rfl (by kernel_rfl) (by kernel_rfl) (by kernel_rfl) QK hD (by repeat (first | exact .refl | exact Qe | refine .keep ?_ | refine .drop ?_ | refine Qf ?_)) ?_
    refine QY 48 rfl (QC rfl) (.none rfl) rfl rfl (by kernel_rfl) (by kernel_rfl) (by kernel_rfl) QK hD (by repeat (first | exact .refl | exact Qe | refine .keep ?_ | refine .drop ?_ | refine Qf ?_)) ?_
    refine Qm (by kernel_rfl) ?_
    refine Qy ?_
    refine Zt _ _ ⟨_,_,rfl,rfl,rfl,?_,?_,?_,?_⟩ (.cons rfl (.cons rfl .nil)) (by repeat (first | exact .refl | exact QN | refine Zf ?_ | refine .drop ?_ | refine Qf ?_))
    all_goals rfl
   refine QI (ek:=Value.int .i64) (ev:=Value.bool) _ Zd Zj rfl rfl rfl rfl (by repeat (first | exact Upd.here | apply Upd.there | apply Qx)) ?_
   refine Qb ?_
   refine zD hD ?_
   refine Q8 5 36 rfl rfl (by kernel_rfl) ?_ ?_
   ·
    refine QI (ek:=Value.int .i64) (ev:=Value.bool) _ Zd Zj rfl rfl rfl rfl (by repeat (first | exact Upd.here | apply Upd.there | apply Qx)) ?_
    refine Qb ?_
    refine zD hD ?_
    refine qd 36 rfl ?_
    refine QI (ek:=Value.int .i64) (ev:=Value.bool) _ Zd Zj rfl rfl rfl rfl (by repeat (first | exact Upd.here | apply Upd.there | apply Qx)) ?_
    refine Qb ?_
    refine zD hD ?_
    refine QY 47 rfl (Qh rfl) (.none rfl) rfl rfl (by kernel_rfl) (by kernel_rfl) (by kernel_rfl) QK hD (by repeat (first | exact .refl | exact Qe | refine .keep ?_ | refine .drop ?_ | refine Qf ?_)) ?_
    refine QY 48 rfl (QC rfl) (.none rfl) rfl rfl (by kernel_rfl) (by kernel_rfl) (by kernel_rfl) QK hD (by repeat (first | exact .refl | exact Qe | refine .keep ?_ | refine .drop ?_ | refine Qf ?_)) ?_
    refine Qm (by kernel_rfl) ?_
    refine Qy ?_
    refine Zt _ _ ⟨_,_,rfl,rfl,rfl,?_,?_,?_,?_⟩ (.cons rfl (.cons rfl .nil)) (by repeat (first | exact .refl | exact QN | refine Zf ?_ | refine .drop ?_ | refine Qf ?_))
    all_goals rfl
   refine QI (ek:=Value.int .i64) (ev:=Value.bool) _ Zd Zj rfl rfl rfl rfl (by repeat (first | exact Upd.here | apply Upd.there | apply Qx)) ?_
   refine Qb ?_
   refine zD hD ?_
   refine qd 5 rfl ?_
   refine QI (ek:=Value.int .i64) (ev:=Value.bool) _ Zd Zj rfl rfl rfl rfl (by repeat (first | exact Upd.here | apply Upd.there | apply Qx)) ?_
   refine Qb ?_
   refine zD hD ?_
   refine QY 47 rfl (Qh rfl) (.none rfl) rfl rfl (by kernel_rfl) (by kernel_rfl) (by kernel_rfl) QK hD (by repeat (first | exact .refl | exact Qe | refine .keep ?_ | refine .drop ?_ | refine Qf ?_)) ?_
   refine QY 48 rfl (QC rfl) (.none rfl) rfl rfl (by kernel_rfl) (by kernel_rfl) (by kernel_rfl) QK hD (by repeat (first | exact .refl | exact Qe | refine .keep ?_ | refine .drop ?_ | refine Qf ?_)) ?_
   refine Qm (by kernel_rfl) ?_
   refine Qy ?_
   refine Zt _ _ ⟨_,_,rfl,rfl,rfl,?_,?_,?_,?_⟩ (.cons rfl (.cons rfl .nil)) (by repeat (first | exact .refl | exact QN | refine Zf ?_ | refine .drop ?_ | refine Qf ?_))
   all_goals rfl
  refine QI (ek:=Value.int .i64) (ev:=Value.bool) _ Zd Zj rfl rfl rfl rfl (by repeat (first | exact Upd.here | apply Upd.there | apply Qx)) ?_
  refine Qb ?_
  refine zD hD ?_
  refine VH 5 36 41 rfl rfl rfl (by kernel_rfl) ?_ ?_ ?_
  ·
   refine QI (ek:=Value.int .i64) (ev:=Value.bool) _ Zd Zj rfl rfl rfl rfl (by repeat (first | exact Upd.here | apply Upd.there | apply Qx)) ?_
   refine Qb ?_
   refine zD hD ?_
   refine Q8 36 41 rfl rfl (by kernel_rfl) ?_ ?_
   ·
    refine QI (ek:=Value.int .i64) (ev:=Value.bool) _ Zd Zj rfl rfl rfl rfl (by repeat (first | exact Upd.here | apply Upd.there | apply Qx)) ?_
    refine Qb ?_
    refine zD hD ?_
    refine qd 41 rfl ?_
    refine QI (ek:=Value.int .i64) (ev:=Value.bool) _ Zd Zj rfl rfl rfl rfl (by repeat (first | exact Upd.here | apply Upd.there | apply Qx)) ?_
    refine Qb ?_
    refine zD hD ?_
    refine QY 47 rfl (Qh rfl) (.none rfl) rfl rfl (by kernel_rfl) (by kernel_rfl) (by kernel_rfl) QK hD (by repeat (first | exact .refl | exact Qe | refine .keep ?_ | refine .drop ?_ | refine Qf ?_)) ?_
    refine QY 48 rfl (QC rfl) (.none rfl) rfl rfl (by kernel_rfl) (by kernel_rfl) (by kernel_rfl) QK hD (by repeat (first | exact .refl | exact Qe | refine .keep ?_ | refine .drop ?_ | refine Qf ?_)) ?_
    refine Qm (by kernel_rfl) ?_
    refine Qy ?_
    refine Zt _ _ ⟨_,_,rfl,rfl,rfl,?_,?_,?_,?_⟩ (.cons rfl (.cons rfl .nil)) (by repeat (first | exact .refl | exact QN | refine Zf ?_ | refine .drop ?_ | refine Qf ?_))
    all_goals rfl
   refine QI (ek:=Value.int .i64) (ev:=Value.bool) _ Zd Zj rfl rfl rfl rfl (by repeat (first | exact Upd.here | apply Upd.there | apply Qx)) ?_
   refine Qb ?_
   refine zD hD ?_
   refine qd 36 rfl ?_
   refine QI (ek:=Value.int .i64) (ev:=Value.bool) _ Zd Zj rfl rfl rfl rfl (by repeat (first | exact Upd.here | apply Upd.there | apply Qx)) ?_
   refine Qb ?_
   refine zD hD ?_
   refine QY 47 rfl (Qh rfl) (.none rfl) rfl rfl (by kernel_rfl) (by kernel_rfl) (by kernel_rfl) QK hD (by repeat (first | exact .refl | exact Qe | refine .keep ?_ | refine .drop ?_ | refine Qf ?_)) ?_
   refine QY 48 rfl (QC rfl) (.none rfl) rfl rfl (by kernel_rfl) (by kernel_rfl) (by kernel_rfl) QK hD (by repeat (first | exact .refl | exact Qe | refine .keep ?_ | refine .drop ?_ | refine Qf ?_)) ?_
   refine Qm (by kernel_rfl) ?_
   refine Qy ?_
   refine Zt _ _ ⟨_,_,rfl,rfl,rfl,?_,?_,?_,?_⟩ (.cons rfl (.cons rfl .nil)) (by repeat (first | exact .refl | exact QN | refine Zf ?_ | refine .drop ?_ | refine Qf ?_))
   all_goals rfl
  ·
   refine QI (ek:=Value.int .i64) (ev:=Value.bool) _ Zd Zj rfl rfl rfl rfl (by repeat (first | exact Upd.here | apply Upd.there | apply Qx)) ?_
   refine Qb ?_
   refine zD hD ?_
   refine Q8 5 41 rfl rfl (by kernel_rfl) ?_ ?_
   ·
    refine QI (ek:=Value.int .i64) (ev:=Value.bool) _ Zd Zj rfl rfl rfl rfl (by repeat (first | exact Upd.here | apply Upd.there | apply Qx)) ?_
    refine Qb ?_
    refine zD hD ?_
    refine qd 41 rfl ?_
    refine QI (ek:=Value.int .i64) (ev:=Value.bool) _ Zd Zj rfl rfl rfl rfl (by repeat (first | exact Upd.here | apply Upd.there | apply Qx)) ?_
    refine Qb ?_
    refine zD hD ?_
    refine QY 47 rfl (Qh rfl) (.none rfl) rfl rfl (by kernel_rfl) (by kernel_rfl) (by kernel_rfl) QK hD (by repeat (first | exact .refl | exact Qe | refine .keep ?_ | refine .drop ?_ | refine Qf ?_)) ?_
    refine QY 48 rfl (QC rfl) (.none rfl) rfl rfl (by kernel_rfl) (by kernel_rfl) (by kernel_rfl) QK hD (by repeat (first | exact .refl | exact Qe | refine .keep ?_ | refine .drop ?_ | refine Qf ?_)) ?_
    refine Qm (by kernel_rfl) ?_
    refine Qy ?_
    refine Zt _ _ ⟨_,_,rfl,rfl,rfl,?_,?_,?_,?_⟩ (.cons rfl (.cons rfl .nil)) (by repeat (first | exact .refl | exact QN | refine Zf ?_ | refine .drop ?_ | refine Qf ?_))
    all_goals rfl
   refine QI (ek:=Value.int .i64) (ev:=Value.bool) _ Zd Zj rfl rfl rfl rfl (by repeat (first | exact Upd.here | apply Upd.there | apply Qx)) ?_
   refine Qb ?_
   refine zD hD ?_
   refine qd 5 rfl ?_
   refine QI (ek:=Value.int .i64) (ev:=Value.bool) _ Zd Zj rfl rfl rfl rfl (by repeat (first | exact Upd.here | apply Upd.there | apply Qx)) ?_
   refine Qb ?_
   refine zD hD ?_
   refine QY 47 rfl (Qh rfl) (.none rfl) rfl rfl (by kernel_rfl) (by kernel_rfl) (by kernel_rfl) QK hD (by repeat (first | exact .refl | exact Qe | refine .keep ?_ | refine .drop ?_ | refine Qf ?_)) ?_
   refine QY 48 rfl (QC rfl) (.none rfl) rfl rfl (by kernel_rfl) (by kernel_rfl) (by kernel_rfl) QK hD (by repeat (first | exact .refl | exact Qe | refine .keep ?_ | refine .drop ?_ | refine Qf ?_)) ?_
   refine Qm (by kernel_rfl) ?_
   refine Qy ?_
   refine Zt _ _ ⟨_,_,rfl,rfl,rfl,?_,?_,?_,?_⟩ (.cons rfl (.cons rfl .nil)) (by repeat (first | exact .refl | exact QN | refine Zf ?_ | refine .drop ?_ | refine Qf ?_))
   all_goals rfl
  refine QI (ek:=Value.int .i64) (ev:=Value.bool) _ Zd Zj rfl rfl rfl rfl (by repeat (first | exact Upd.here | apply Upd.there | apply Qx)) ?_
  refine Qb ?_
  refine zD hD ?_
  refine Q8 5 36 rfl rfl (by kernel_rfl) ?_ ?_
  ·
   refine QI (ek:=Value.int .i64) (ev:=Value.bool) _ Zd Zj rfl rfl rfl rfl (by repeat (first | exact Upd.here | apply Upd.there | apply Qx)) ?_
   refine Qb ?_
   refine zD hD ?_
   refine qd 36 rfl ?_
   refine QI (ek:=Value.int .i64) (ev:=Value.bool) _ Zd Zj rfl rfl rfl rfl (by repeat (first | exact Upd.here | apply Upd.there | apply Qx)) ?_
   refine Qb ?_
   refine zD hD ?_
   refine QY 47 rfl (Qh rfl) (.none rfl) rfl rfl (by kernel_rfl) (by kernel_rfl) (by kernel_rfl) QK hD (by repeat (first | exact .refl | exact Qe | refine .keep ?_ | refine .drop ?_ | refine Qf ?_)) ?_
   refine QY 48 rfl (QC rfl) (.none rfl) rfl rfl (by kernel_rfl) (by kernel_rfl) (by kernel_rfl) QK hD (by repeat (first | exact .refl | exact Qe | refine .keep ?_ | refine .drop ?_ | refine Qf ?_)) ?_
   refine Qm (by kernel_rfl) ?_
   refine Qy ?_
   refine Zt _ _ ⟨_,_,rfl,rfl,rfl,?_,?_,?_,?_⟩ (.cons rfl (.cons rfl .nil)) (by repeat (first | exact .refl | exact QN | refine Zf ?_ | refine .drop ?_ | refine Qf ?_))
   all_goals rfl
  refine QI (ek:=Value.int .i64) (ev:=Value.bool) _ Zd Zj rfl rfl rfl rfl (by repeat (first | exact Upd.here | apply Upd.there | apply Qx)) ?_
  refine Qb ?_
  refine zD hD ?_
  refine qd 5 rfl ?_
  refine QI (ek:=Value.int .i64) (ev:=Value.bool) _ Zd Zj rfl rfl rfl rfl (by repeat (first | exact Upd.here | apply Upd.there | apply Qx)) ?_
  refine Qb ?_
  refine zD hD ?_
  refine QY 47 rfl (Qh rfl) (.none rfl) rfl rfl (by kernel_rfl) (by kernel_rfl) (by kernel_rfl) QK hD (by repeat (first | exact .refl | exact Qe | refine .keep ?_ | refine .drop ?_ | refine Qf ?_)) ?_
  refine QY 48 rfl (QC rfl) (.none rfl) rfl rfl (by kernel_rfl) (by kernel_rfl) (by kernel_rfl) QK hD (by repeat (first | exact .refl | exact Qe | refine .keep ?_ | refine .drop ?_ | refine Qf ?_)) ?_
  refine Qm (by kernel_rfl) ?_
  refine Qy ?_
  refine Zt _ _ ⟨_,_,rfl,rfl,rfl,?_,?_,?_,?_⟩ (.cons rfl (.cons rfl .nil)) (by repeat (first | exact .refl | exact QN | refine Zf ?_ | refine .drop ?_ | refine Qf ?_))
  all_goals rfl
 rintro E I' loc' ⟨r,m,rfl,rfl,rfl,hm1,hm2,hm3,hm4⟩
 refine zR (zM ?_)
 refine zF Vl ?_
 refine zV (Qd rfl QA (fun hg=>by exact QG.imm h1.out rfl)) ?_
 refine ZU _ Zd Zj rfl rfl rfl rfl (by repeat (first | exact Upd.here | apply Upd.there | apply Qx)) ?_
 refine zN (zR ?_)
 refine zM ?_
 refine zV (YP Zd Zj rfl rfl (fun _=>(by exact Mem.m0))) ?_
 refine zM ?_
 refine QL 2 rfl rfl rfl ?_
 refine zK (Qh rfl) ?_
 refine zK (YP Zd Zj rfl rfl (fun _=>(by exact Mem.m0))) ?_
 refine QW rfl rfl rfl rfl rfl ?_
 refine zM ?_
 refine QL 6 rfl rfl rfl ?_
 refine zK (Qh rfl) ?_
 refine zK (YP Zd Zj rfl rfl (fun _=>(by exact Mem.m0))) ?_
 refine QW rfl rfl rfl rfl rfl ?_
 refine zM ?_
 refine QL 10 rfl rfl rfl ?_
 refine zK (Qh rfl) ?_
 refine zK (YP Zd Zj rfl rfl (fun _=>(by exact Mem.m0))) ?_
 refine QW rfl rfl rfl rfl rfl ?_
 refine zA (zN (QF ?_))
 exact zp hIc rfl rfl (by rw [zmY hm1 hm2 hm3 hm4])
end
end Go.Proofs.YtjblkbkmblkgoaaGreat
namespace Go.Proofs.YtjblkbkmblkgoaaGreat.L
section
open Go Go.Kn Go.Proofs
theorem JZ:AgT Tryz.prog 41 5:=.of (by kernel_rfl)
theorem zid:QQ Tryz.prog 141 0 0:=.of (by kernel_rfl)
theorem zju:QQ Tryz.prog 141 1 1:=.of (by kernel_rfl)
theorem zjx:QQ Tryz.prog 141 2 2:=.of (by kernel_rfl)
theorem ziM:QQ Tryz.prog 141 3 3:=.of (by kernel_rfl)
theorem zjZ:QQ Tryz.prog 141 4 4:=.of (by kernel_rfl)
theorem Ut:QQ Tryz.prog 41 0 0:=.of (by kernel_rfl)
theorem zc2:QQ Tryz.prog 41 1 1:=.of (by kernel_rfl)
theorem zcM:QQ Tryz.prog 41 2 2:=.of (by kernel_rfl)
theorem zcm:QQ Tryz.prog 41 3 3:=.of (by kernel_rfl)
theorem zcC:QQ Tryz.prog 41 4 4:=.of (by kernel_rfl)
theorem zaQ:Fun Tryz.prog 135:=.of Tryz.func135 (by kernel_rfl) (by kernel_rfl)
theorem zaB:Fun Tryz.prog 160:=.of Tryz.func160 (by kernel_rfl) (by kernel_rfl)
theorem zba:Fun Tryz.prog 229:=.of Tryz.func229 (by kernel_rfl) (by kernel_rfl)
theorem zu2:Fun Tryz.prog 95:=.of Tryz.func95 (by kernel_rfl) (by kernel_rfl)
theorem Zj:Kk (α:=Int) Tryz.prog 3 (.int .i64):=zfe (by kernel_rfl)
theorem mixed:Tryz.prog.follows .mixedOrders=true:=by kernel_rfl
theorem QA:ScT Tryz.prog 3:=.of (by kernel_rfl)
theorem JY:SlT Tryz.prog 63 41 5:=.of (by kernel_rfl)
theorem zan:SzT Tryz.prog 41 5:=.of (by kernel_rfl)
theorem zmH:Tryz.prog.underlying 3=some (.int .i64):=by kernel_rfl
theorem zeM:Vf Tryz.prog 41 (.agg #[(.int .i64 0),(.int .i64 0),(.int .i64 0),(.int .i64 0),(.int .i64 0)]):=.of (by kernel_rfl)
end
section
open Go Go.Kn Go.Proofs
theorem Yf (I:Qv)(n lo hi:Int):Yc Tryz.prog 160 [.int .i64 n,.int .i64 lo,.int .i64 hi] I (.bool (within n lo hi)):=by
 intro g H w hw
 refine qe Tryz.func160 Tryz.ntmps160 hw ?_
 refine zR (zA ?_)
 refine zN (zR ?_)
 refine zM ?_
 refine zM ?_
 refine zC ?_
 refine zM ?_
 refine QL 3 rfl rfl rfl ?_
 refine zK (Qh rfl) ?_
 refine zK (Qh rfl) ?_
 refine zK (QT rfl rfl rfl) ?_
 refine QW rfl rfl rfl rfl rfl ?_
 refine zA (zN (QF ?_))
 exact zr rfl rfl (by rfl)
theorem zpe (I:Qv)(x:Ls):Yc Tryz.prog 95 [encA x] I (.bool (zbp x)):=by
 intro g H w hw
 refine qe Tryz.func95 Tryz.ntmps95 hw ?_
 refine zR ?_
 refine Zh rfl rfl rfl (fun b_1=>?_)
 refine zA ?_
 refine zN (zR ?_)
 refine zF zid ?_
 refine zL QA ?_
 refine qcV (vs:=[_,_,_]) rfl zaB (Yf I _ _ _) ?_
 refine zM ?_
 refine QL 3 rfl rfl rfl ?_
 refine zK (Qa rfl zju) ?_
 refine zK (Qd rfl QA (fun hg=>by exact QG.h0 rfl)) ?_
 refine qg (vs:=[_,_,_]) rfl zaB (fun hg=>Yf I _ _ _) ?_
 refine QW rfl rfl rfl rfl rfl ?_
 refine zM ?_
 refine QL 8 rfl rfl rfl ?_
 refine zK (Qa rfl zjx) ?_
 refine zK (Qd rfl QA (fun hg=>by exact QG.h0 rfl)) ?_
 refine qg (vs:=[_,_,_]) rfl zaB (fun hg=>Yf I _ _ _) ?_
 refine QW rfl rfl rfl rfl rfl ?_
 refine zM ?_
 refine QL 13 rfl rfl rfl ?_
 refine zK (Qa rfl ziM) ?_
 refine zK (Qd rfl QA (fun hg=>by exact QG.h0 rfl)) ?_
 refine qg (vs:=[_,_,_]) rfl zaB (fun hg=>Yf I _ _ _) ?_
 refine QW rfl rfl rfl rfl rfl ?_
 refine zM ?_
 refine QL 18 rfl rfl rfl ?_
 refine zK (Qa rfl zjZ) ?_
 refine zK (Qd rfl QA (fun hg=>by exact QG.h0 rfl)) ?_
 refine qg (vs:=[_,_,_]) rfl zaB (fun hg=>Yf I _ _ _) ?_
 refine QW rfl rfl rfl rfl rfl ?_
 refine zA (zN (QF ?_))
 exact zr rfl rfl (by rfl)
theorem zi4 (I:Qv)(x:Int):Yc Tryz.prog 229 [.int .i64 x] I (.bool false):=by
 intro g H w hw
 refine qe Tryz.func229 Tryz.ntmps229 hw ?_
 refine zR (zA ?_)
 refine zN (zR ?_)
 refine zM ?_
 refine zM ?_
 refine zC ?_
 refine zA (zN (QF ?_))
 exact zr rfl rfl (by simp)
def zeI (x y:Int):Int:=if x<y then -1 else if x>y then 1 else 0
theorem zps (I:Qv)(x y:Int):Yc Tryz.prog 183 [.int .i64 x,.int .i64 y] I (.int .i64 (zeI x y)):=by
 intro g H w hw
 refine qe Tryz.func183 Tryz.ntmps183 hw ?_
 refine zR (zA ?_)
 refine zN (zR ?_)
 refine zM ?_
 refine qcV (vs:=[_]) rfl zba (zi4 I _) ?_
 refine zA ?_
 refine zN (zR ?_)
 refine zM ?_
 refine qcV (vs:=[_]) rfl zba (zi4 I _) ?_
 refine zA (zN (Qq (zR ?_)))
 refine zM (zN ?_)
 refine zI ?_ ?_<;>intro hc11
 ·
  cases hc11
 refine Qw (Qc (Qq (zR (zM (zN ?_)))))
 refine zI ?_ ?_<;>intro hc13
 ·
  cases hc13
 refine Qw (Qc (Qq (zR (zM ?_))))
 refine zM ?_
 refine zC (zN ?_)
 refine zI ?_ ?_<;>intro hc16
 ·
  refine zR (zA (zN (QF (Qi ?_))))
  exact zr rfl rfl (by unfold zeI;first | (rw [if_pos (by simpa using hc16)]) | (rw [if_neg (by simpa using hc16),if_pos (by simpa using hc19)]) | (rw [if_neg (by simpa using hc16),if_neg (by simpa using hc19)]))
 refine Qw (Qc (Qq (zR (zM ?_))))
 refine zM ?_
 refine zC (zN ?_)
 refine zI ?_ ?_<;>intro hc19
 ·
  refine zR (zA (zN (QF (Qi ?_))))
  exact zr rfl rfl (by unfold zeI;first | (rw [if_pos (by simpa using hc16)]) | (rw [if_neg (by simpa using hc16),if_pos (by simpa using hc19)]) | (rw [if_neg (by simpa using hc16),if_neg (by simpa using hc19)]))
 refine Qw (Qc (zR (zA (zN (QF ?_)))))
 exact zr rfl rfl (by unfold zeI;first | (rw [if_pos (by simpa using hc16)]) | (rw [if_neg (by simpa using hc16),if_pos (by simpa using hc19)]) | (rw [if_neg (by simpa using hc16),if_neg (by simpa using hc19)]))
theorem znq {xs:List Ls}{x:Ls}(hx:xs[0]? =some x):ckP xs 0= !(!zbp x||decide (x.no≤ -1)):=by
 unfold ckP
 rw [VZ hx]
 rw [show decide (((0:Nat):Int)>0)=false from rfl,Bool.false_and,Bool.or_false]
 cases h:zbp x with
 | false=>rfl
 | true=>
  have:0≤x.no:=by
   unfold zbp within at h
   simp only [Bool.and_eq_true,decide_eq_true_eq] at h
   omega
  rw [show decide (x.no≤ -1)=false from decide_eq_false (by omega)];rfl
theorem zpq {xs:List Ls}{k:Nat}{x y:Ls}(hx:xs[k+1]? =some x)(hy:xs[k]? =some y):ckP xs (k+1)= !(!zbp x||decide (x.no≤y.no)):=by
 unfold ckP ztz
 rw [VZ hx,show (((k+1:Nat):Int)-1).toNat=k by omega,VZ hy,show decide (((k+1:Nat):Int)>0)=true from decide_eq_true (by omega),Bool.true_and]
def zpF (xs:List Ls)(k:Nat)(l:Int):Prop:=(k=0→l= -1)∧∀ y,xs[k-1]? =some y→k≠0→l=y.no
theorem zuk {xs:List Ls}{k:Nat}{x:Ls}{l:Int}(hx:xs[k]? =some x)(hl:zpF xs k l):ckP xs k= !(!zbp x||decide (x.no≤l)):=by
 cases k with
 | zero=>rw [hl.1 rfl];exact znq hx
 | succ k=>
  have hk:=(List.getElem?_eq_some_iff.1 hx).1
  have hy:xs[k]? =some (xs[k]'(by omega)):=List.getElem?_eq_getElem _
  rw [hl.2 _ (by rw [Nat.add_sub_cancel];exact hy) (by omega)];exact zpq hx hy
theorem zkn {xs:List Ls}{k:Nat}{x:Ls}(hx:xs[k]? =some x):zpF xs (k+1) x.no:=⟨fun h=>by omega,fun y hy _=>by simp at hy;rw [hx] at hy;cases hy;rfl⟩
theorem w_check {I:Qv}{av:Option Addr}{n c:Nat}{xs:List Ls}(hS:Sl I 5 encL av n c xs)(hn:n≤100000):Yc Tryz.prog 38 [.slice av n c] I (.int .i64 (chk xs)):=by
 intro g H w hw
 refine qe Tryz.func38 Tryz.ntmps38 hw ?_
 refine zR (zA (zN (Qq (zR ?_))))
 refine zM ?_
 refine zQ JY ?_
 refine zC (zN ?_)
 refine zI ?_ ?_<;>intro hc8
 ·
  have h6:xs.length>4096:=by rw [hS.len];simp at hc8;omega
  refine zR (zA (zN (QF (Qi ?_))))
  first
  | exact zr rfl rfl (by unfold chk;rw [if_pos h6])
 have h6:¬xs.length>4096:=by rw [hS.len];simp at hc8;omega
 refine Qw (Qc (zR (zA (zN (Qq (zR ?_))))))
 refine zM ?_
 refine zQ JY ?_
 refine zM (zN (QD ?_))
 refine zU [(9,_),(10,_)] (fun T L0 mz E I' loc'=>∃ (k:Nat) (l:Int),mz=n-k∧E=(3,.int .i64 l)::(11,.int .i64 k)::T∧I=I'∧L0=loc'∧k≤n∧(List.range k).all (ckP xs)=true∧zpF xs k l) ?_ (h:=⟨0, -1,rfl,rfl,rfl,rfl,Nat.zero_le _,rfl,⟨fun _=>rfl,fun _ _ h=>absurd rfl h⟩⟩)
 rintro mz E I' loc' ⟨k,l,rfl,rfl,rfl,rfl,hk,hall,hl⟩
 refine zR (zC (zN (Qq ?_)))
 refine zI ?_ ?_<;>intro hc12
 ·
  have hlt_k:k<n:=by have h:=hc12;simp at h;omega
  obtain ⟨x,hx⟩:=hS.at hlt_k
  refine Qw (Qc (Qq (QD (zR ?_))))
  refine zV (QV rfl rfl JY (by assumption) (fun hg=>by omega)) ?_
  refine zV (Qg rfl JZ (fun hg=>by exact zxe hS hx) rfl) ?_
  refine Qt zeM rfl rfl (fun b_5=>?_)
  refine zh zan ?_
  refine zN (Qq (zR ?_))
  refine zV (Qg rfl JZ (fun hg=>by exact Cells.g0) rfl) ?_
  refine qcV (vs:=[_]) rfl zu2 (zpe I _) ?_
  refine zO ?_
  refine zM ?_
  refine Ze 3 rfl rfl rfl ?_
  refine zJ (Qa rfl Ut) ?_
  refine zJ (Qd rfl QA (fun hg=>by exact QG.h0 rfl)) ?_
  refine zJ (Qh rfl) ?_
  refine zJ (QT rfl rfl rfl) ?_
  refine ZP rfl rfl rfl rfl rfl ?_
  refine zN ?_
  refine zI ?_ ?_<;>intro hc23
  ·
   refine zR (zA (zN (QF (Qi (Qz (Qi (Qi ?_)))))))
   refine Qz (Qi ?_)
   first
   | exact zr rfl rfl (by unfold chk ckB;rw [if_neg h6,K3 (k:=k) (by rw [hS.len];exact hlt_k) (by rw [zuk hx hl,hc23];rfl)];rfl)
  refine Qw (Qc (Qk ?_))
  refine zF Ut ?_
  refine zL QA ?_
  refine zA (Qb (Qn (Qc (Qk ?_))))
  refine zB ?_
  refine zM (Qb ?_)
  exact zm (h:=⟨n-(k+1),by omega,k+1,x.no,rfl,rfl,rfl,rfl,by omega,KA hall (by rw [zuk hx hl,hc23];rfl),zkn hx⟩)
 have hge_k:n≤k:=by have h:=hc12;simp at h;omega
 refine Zy (Qs (Qs (QB (Qc (zR (zA (zN ?_)))))))
 refine QF ?_
 first
 | exact zr rfl rfl (by unfold chk ckB;rw [if_neg h6,hS.len,show n=k by omega,hall];rfl)
end
end Go.Proofs.YtjblkbkmblkgoaaGreat.L
namespace Go.Proofs.YtjblkbkmblkgoaaGreat.S
section
open Go Go.Kn Go.Proofs
theorem Vn:AgT Tryz.prog 43 11:=.of (by kernel_rfl)
theorem Xo:EqT Tryz.prog 43 [.int,.int,.int,.int,.int,.int,.str,.str,.int,.int,.int]:=⟨by kernel_rfl,by kernel_rfl,by kernel_rfl,by kernel_rfl⟩
theorem VJ:QQ Tryz.prog 43 0 0:=.of (by kernel_rfl)
theorem Jj:QQ Tryz.prog 43 1 1:=.of (by kernel_rfl)
theorem Vd:QQ Tryz.prog 43 10 10:=.of (by kernel_rfl)
theorem Ul:QQ Tryz.prog 43 2 2:=.of (by kernel_rfl)
theorem Wu:QQ Tryz.prog 43 3 3:=.of (by kernel_rfl)
theorem WM:QQ Tryz.prog 43 4 4:=.of (by kernel_rfl)
theorem JI:QQ Tryz.prog 43 5 5:=.of (by kernel_rfl)
theorem Uy:QQ Tryz.prog 43 6 6:=.of (by kernel_rfl)
theorem Uq:QQ Tryz.prog 43 7 7:=.of (by kernel_rfl)
theorem KP:QQ Tryz.prog 43 8 8:=.of (by kernel_rfl)
theorem KH:QQ Tryz.prog 43 9 9:=.of (by kernel_rfl)
theorem zrb:Fun Tryz.prog 100:=.of Tryz.func100 (by kernel_rfl) (by kernel_rfl)
theorem Xi:Fun Tryz.prog 101:=.of Tryz.func101 (by kernel_rfl) (by kernel_rfl)
theorem zr0:Fun Tryz.prog 164:=.of Tryz.func164 (by kernel_rfl) (by kernel_rfl)
theorem zkf:Fun Tryz.prog 165:=.of Tryz.func165 (by kernel_rfl) (by kernel_rfl)
theorem zkD:Fun Tryz.prog 166:=.of Tryz.func166 (by kernel_rfl) (by kernel_rfl)
theorem zrx:Fun Tryz.prog 167:=.of Tryz.func167 (by kernel_rfl) (by kernel_rfl)
theorem Zj:Kk (α:=Int) Tryz.prog 3 (.int .i64):=zfe (by kernel_rfl)
theorem mixed:Tryz.prog.follows .mixedOrders=true:=by kernel_rfl
theorem Ud:MpT Tryz.prog 151 3 43 (.agg #[(.int .i64 0),(.int .i64 0),(.int .i64 0),(.int .i64 0),(.int .i64 0),(.int .i64 0),(.string ⟨#[]⟩),(.string ⟨#[]⟩),(.int .i64 0),(.int .i64 0),(.int .i64 0)]):=⟨by kernel_rfl,.of (by kernel_rfl)⟩
theorem zaX:MpT Tryz.prog 152 3 154 .nilFunc:=⟨by kernel_rfl,.of (by kernel_rfl)⟩
theorem zaN:PlT Tryz.prog 43 #[(0,1),(1,1),(2,1),(3,1),(4,1),(5,1),(6,1),(7,1),(8,1),(9,1),(10,1)] (.agg #[(.int .i64 0),(.int .i64 0),(.int .i64 0),(.int .i64 0),(.int .i64 0),(.int .i64 0),(.string ⟨#[]⟩),(.string ⟨#[]⟩),(.int .i64 0),(.int .i64 0),(.int .i64 0)]):=⟨.of (by kernel_rfl),by kernel_rfl,fun w=>by kernel_rfl⟩
theorem QA:ScT Tryz.prog 3:=.of (by kernel_rfl)
theorem JP:ScT Tryz.prog 9:=.of (by kernel_rfl)
theorem YA:SlT Tryz.prog 65 43 11:=.of (by kernel_rfl)
theorem K8:SzT Tryz.prog 43 11:=.of (by kernel_rfl)
theorem zt3:Tryz.prog.underlying 9=some .string:=by kernel_rfl
theorem zbq:Vf Tryz.prog 43 (.agg #[(.int .i64 0),(.int .i64 0),(.int .i64 0),(.int .i64 0),(.int .i64 0),(.int .i64 0),(.string ⟨#[]⟩),(.string ⟨#[]⟩),(.int .i64 0),(.int .i64 0),(.int .i64 0)]):=.of (by kernel_rfl)
end
section
open Go Go.Kn Go.Proofs
theorem Yf (I:Qv)(n lo hi:Int):Yc Tryz.prog 101 [.int .i64 n,.int .i64 lo,.int .i64 hi] I (.bool (within n lo hi)):=by
 intro g H w hw
 refine enter Tryz.func101 rfl Tryz.ntmps101 rfl hw ?_
 refine zR ?_
 refine zA ?_
 refine zN (zR ?_)
 refine zM ?_
 refine zM ?_
 refine zC ?_
 refine zM ?_
 refine QL 3 rfl rfl rfl ?_
 refine zK (Qh rfl) ?_
 refine zK (Qh rfl) ?_
 refine zK (QT rfl rfl rfl) ?_
 refine QW rfl rfl rfl rfl rfl ?_
 refine zA ?_
 refine zN ?_
 refine QF ?_
 exact QP rfl rfl (fun w hw=>⟨by rfl,hw.drop⟩)
theorem zjI (I:Qv)(x:Rt):Yc Tryz.prog 165 [encA x] I (.bool (zrD x)):=by
 intro g H w hw
 refine enter Tryz.func165 rfl Tryz.ntmps165 rfl hw ?_
 refine zR ?_
 refine Zh rfl rfl rfl (fun b_1=>?_)
 refine zA ?_
 refine zN (zR ?_)
 refine zF KP ?_
 refine zV (Qd rfl QA (fun hg=>by exact QG.h0 rfl)) ?_
 refine zC ?_
 refine zM ?_
 refine QL 3 rfl rfl rfl ?_
 refine zK (Qa rfl KP) ?_
 refine zK (Qd rfl QA (fun hg=>by exact QG.h0 rfl)) ?_
 refine zK (Qa rfl KH) ?_
 refine zK (Qd rfl QA (fun hg=>by exact QG.h0 rfl)) ?_
 refine zK (QT rfl rfl rfl) ?_
 refine QW rfl rfl rfl rfl rfl ?_
 refine zM ?_
 refine QL 10 rfl rfl rfl ?_
 refine zK (Qa rfl KH) ?_
 refine zK (Qd rfl QA (fun hg=>by exact QG.h0 rfl)) ?_
 refine zK (QT rfl rfl rfl) ?_
 refine QW rfl rfl rfl rfl rfl ?_
 refine zM ?_
 refine QL 15 rfl rfl rfl ?_
 refine zK (Qa rfl Ul) ?_
 refine zK (Qd rfl QA (fun hg=>by exact QG.h0 rfl)) ?_
 refine VB (cap:=[]) (vs:=[_,_,_]) rfl rfl Xi (fun hg=>Yf I _ _ _) (.some rfl rfl rfl rfl gbt) rfl rfl ?_
 refine QW rfl rfl rfl rfl rfl ?_
 refine zA ?_
 refine zN ?_
 refine QF ?_
 exact QP rfl rfl (fun w hw=>⟨by rfl,hw.drop⟩)
theorem zbQ (I:Qv)(x:Rt)(m:Value):Yc Tryz.prog 166 [encA x,m] I (.bool (heldF x)):=by
 intro g H w hw
 refine enter Tryz.func166 rfl Tryz.ntmps166 rfl hw ?_
 refine zR ?_
 refine Zh rfl rfl rfl (fun b_2=>?_)
 refine zA ?_
 refine zN (zR ?_)
 refine zF VJ ?_
 refine zV (Qd rfl QA (fun hg=>by exact QG.h0 rfl)) ?_
 refine zF Jj ?_
 refine zV (Qd rfl QA (fun hg=>by exact QG.h0 rfl)) ?_
 refine zF Ul ?_
 refine zV (Qd rfl QA (fun hg=>by exact QG.h0 rfl)) ?_
 refine zF Wu ?_
 refine zV (Qd rfl QA (fun hg=>by exact QG.h0 rfl)) ?_
 refine zF WM ?_
 refine zV (Qd rfl QA (fun hg=>by exact QG.h0 rfl)) ?_
 refine zF KP ?_
 refine zV (Qd rfl QA (fun hg=>by exact QG.h0 rfl)) ?_
 refine zF KH ?_
 refine zV (Qd rfl QA (fun hg=>by exact QG.h0 rfl)) ?_
 refine zF Vd ?_
 refine zV (Qd rfl QA (fun hg=>by exact QG.h0 rfl)) ?_
 refine zV (QZ (ps:=[(0,_),(1,_),(2,_),(3,_),(4,_),(8,_),(9,_),(10,_)]) [_,_,_,_,_,_,_,_,_,_,_] zaN rfl rfl) ?_
 refine Qt zbq rfl rfl (fun b_5=>?_)
 refine Vm rfl rfl K8 rfl rfl rfl rfl (by exact Upd.u0) ?_
 refine zN (zR ?_)
 refine zV (Qg rfl Vn (fun hg=>by exact Cells.g1) rfl) ?_
 refine zV (Qg rfl Vn (fun hg=>by exact Cells.g0) rfl) ?_
 refine zV (Wz rfl rfl Xo rfl) ?_
 refine zM ?_
 refine QL 3 rfl rfl rfl ?_
 refine zK (Qg rfl Vn (fun hg=>by exact Cells.g1) rfl) ?_
 refine VB (cap:=[]) (vs:=[_]) rfl rfl zkf (fun hg=>zjI I x) (.some rfl rfl rfl rfl gbt) rfl rfl ?_
 refine QW rfl rfl rfl rfl rfl ?_
 refine zM ?_
 refine QL 7 rfl rfl rfl ?_
 refine zK (Qa rfl Wu) ?_
 refine zK (Qd rfl QA (fun hg=>by exact QG.h1 rfl)) ?_
 refine VB (cap:=[]) (vs:=[_,_,_]) rfl rfl Xi (fun hg=>Yf I _ _ _) (.some rfl rfl rfl rfl gbt) rfl rfl ?_
 refine QW rfl rfl rfl rfl rfl ?_
 refine zM ?_
 refine QL 12 rfl rfl rfl ?_
 refine zK (Qa rfl WM) ?_
 refine zK (Qd rfl QA (fun hg=>by exact QG.h1 rfl)) ?_
 refine VB (cap:=[]) (vs:=[_,_,_]) rfl rfl Xi (fun hg=>Yf I _ _ _) (.some rfl rfl rfl rfl gbt) rfl rfl ?_
 refine QW rfl rfl rfl rfl rfl ?_
 refine zA ?_
 refine zN ?_
 refine QF ?_
 exact QP rfl rfl (fun w hw=>⟨by rfl,hw.drop⟩)
theorem zuL (I:Qv)(x:Rt)(m:Value):Yc Tryz.prog 164 [encA x,m] I (.bool (billF x)):=by
 intro g H w hw
 refine enter Tryz.func164 rfl Tryz.ntmps164 rfl hw ?_
 refine zR ?_
 refine Zh rfl rfl rfl (fun b_2=>?_)
 refine zA ?_
 refine zN (zR ?_)
 refine zF VJ ?_
 refine zV (Qd rfl QA (fun hg=>by exact QG.h0 rfl)) ?_
 refine zF Jj ?_
 refine zV (Qd rfl QA (fun hg=>by exact QG.h0 rfl)) ?_
 refine zF Ul ?_
 refine zV (Qd rfl QA (fun hg=>by exact QG.h0 rfl)) ?_
 refine zF Uy ?_
 refine zV (Qd rfl JP (fun hg=>by exact QG.h0 rfl)) ?_
 refine zF Uq ?_
 refine zV (Qd rfl JP (fun hg=>by exact QG.h0 rfl)) ?_
 refine zF KP ?_
 refine zV (Qd rfl QA (fun hg=>by exact QG.h0 rfl)) ?_
 refine zF KH ?_
 refine zV (Qd rfl QA (fun hg=>by exact QG.h0 rfl)) ?_
 refine zF Vd ?_
 refine zV (Qd rfl QA (fun hg=>by exact QG.h0 rfl)) ?_
 refine zV (QZ (ps:=[(0,_),(1,_),(2,_),(6,_),(7,_),(8,_),(9,_),(10,_)]) [_,_,_,_,_,_,_,_,_,_,_] zaN rfl rfl) ?_
 refine Qt zbq rfl rfl (fun b_5=>?_)
 refine Vm rfl rfl K8 rfl rfl rfl rfl (by exact Upd.u0) ?_
 refine zN (zR ?_)
 refine zV (Qg rfl Vn (fun hg=>by exact Cells.g1) rfl) ?_
 refine zV (Qg rfl Vn (fun hg=>by exact Cells.g0) rfl) ?_
 refine zV (Wz rfl rfl Xo rfl) ?_
 refine zM ?_
 refine QL 3 rfl rfl rfl ?_
 refine zK (Qg rfl Vn (fun hg=>by exact Cells.g1) rfl) ?_
 refine VB (cap:=[]) (vs:=[_]) rfl rfl zkf (fun hg=>zjI I x) (.some rfl rfl rfl rfl gbt) rfl rfl ?_
 refine QW rfl rfl rfl rfl rfl ?_
 refine zM ?_
 refine QL 7 rfl rfl rfl ?_
 refine zK (Qa rfl Uy) ?_
 refine zK (Qd rfl JP (fun hg=>by exact QG.h1 rfl)) ?_
 refine zK (Wo rfl zt3) ?_
 refine VB (cap:=[]) (vs:=[_,_,_]) rfl rfl Xi (fun hg=>Yf I _ _ _) (.some rfl rfl rfl rfl gbt) rfl rfl ?_
 refine QW rfl rfl rfl rfl rfl ?_
 refine zM ?_
 refine QL 13 rfl rfl rfl ?_
 refine zK (Qa rfl Uq) ?_
 refine zK (Qd rfl JP (fun hg=>by exact QG.h1 rfl)) ?_
 refine zK (Wo rfl zt3) ?_
 refine VB (cap:=[]) (vs:=[_,_,_]) rfl rfl Xi (fun hg=>Yf I _ _ _) (.some rfl rfl rfl rfl gbt) rfl rfl ?_
 refine QW rfl rfl rfl rfl rfl ?_
 refine zA ?_
 refine zN ?_
 refine QF ?_
 exact QP rfl rfl (fun w hw=>⟨by rfl,hw.drop⟩)
end
section
open Go Go.Kn Go.Proofs
theorem zjb (I:Qv)(x:Rt)(r:Nat)(bs:List (Int×Rt))(hm:ZS bs (w64 (x.ends-1))=none):zlT Tryz.prog 167 [encA x,.map (some r)] I [(r,YD (.int .i64) encA bs)] (.bool (voidF x bs)):=by
 intro g H w hw
 refine enter Tryz.func167 rfl Tryz.ntmps167 rfl hw ?_
 refine zR ?_
 refine Zh rfl rfl rfl (fun b_2=>?_)
 refine zA ?_
 refine zN (zR ?_)
 refine zM ?_
 refine zF JI ?_
 refine zV (Qd rfl QA (fun hg=>by exact QG.h0 rfl)) ?_
 refine zV (za9 rfl rfl rfl) ?_
 refine zV (zen hm Ud Zj rfl rfl (fun _=>(by exact Mem.m1))) ?_
 refine zM ?_
 refine zE ?_
 refine zE ?_
 refine Qt zbq rfl rfl (fun b_5=>?_)
 refine Vm rfl rfl K8 rfl rfl rfl rfl (by exact Upd.u0) ?_
 refine zA ?_
 refine zN (zR ?_)
 refine zM ?_
 refine zM ?_
 refine QL 1 rfl rfl rfl ?_
 refine zK (Qa rfl Jj) ?_
 refine zK (Qd rfl QA (fun hg=>by exact QG.h0 rfl)) ?_
 refine zK (QT rfl rfl rfl) ?_
 refine QW rfl rfl rfl rfl rfl ?_
 refine zM ?_
 refine QL 6 rfl rfl rfl ?_
 refine zK (Qa rfl Vd) ?_
 refine zK (Qd rfl QA (fun hg=>by exact QG.h0 rfl)) ?_
 refine zK (Qa rfl Vd) ?_
 refine zK (Qd rfl QA (fun hg=>by exact QG.h1 rfl)) ?_
 refine zK (QT rfl rfl rfl) ?_
 refine QW rfl rfl rfl rfl rfl ?_
 refine zM ?_
 refine QL 13 rfl rfl rfl ?_
 refine zK (Qg rfl Vn (fun hg=>by exact Cells.g1) rfl) ?_
 refine zK (Qa rfl VJ) ?_
 refine zK (Qd rfl QA (fun hg=>by exact QG.h1 rfl)) ?_
 refine zK (Qa rfl Jj) ?_
 refine zK (Qd rfl QA (fun hg=>by exact QG.h1 rfl)) ?_
 refine zK (Qa rfl JI) ?_
 refine zK (Qd rfl QA (fun hg=>by exact QG.h1 rfl)) ?_
 refine zK (Qa rfl Vd) ?_
 refine zK (Qd rfl QA (fun hg=>by exact QG.h1 rfl)) ?_
 refine zK (QZ (ps:=[(0,_),(1,_),(5,_),(10,_)]) [_,_,_,_,_,_,_,_,_,_,_] zaN rfl rfl) ?_
 refine zK (Wz rfl rfl Xo rfl) ?_
 refine QW rfl rfl rfl rfl rfl ?_
 refine zA ?_
 refine zN ?_
 refine QF ?_
 exact QP rfl rfl (fun w hw=>⟨by simp [voidF,zeroR,rtEq,hm],hw.subL (.drop (.drop .refl))⟩)
theorem zhm (I:Qv)(x:Rt)(r:Nat)(bs:List (Int×Rt)){old:Rt}(hm:ZS bs (w64 (x.ends-1))=some old):zlT Tryz.prog 167 [encA x,.map (some r)] I [(r,YD (.int .i64) encA bs)] (.bool (voidF x bs)):=by
 intro g H w hw
 refine enter Tryz.func167 rfl Tryz.ntmps167 rfl hw ?_
 refine zR ?_
 refine Zh rfl rfl rfl (fun b_2=>?_)
 refine zA ?_
 refine zN (zR ?_)
 refine zM ?_
 refine zF JI ?_
 refine zV (Qd rfl QA (fun hg=>by exact QG.h0 rfl)) ?_
 refine zV (za9 rfl rfl rfl) ?_
 refine zV (zdK hm Ud Zj rfl rfl (fun _=>(by exact Mem.m1))) ?_
 refine zM ?_
 refine zE ?_
 refine zE ?_
 refine Qt zbq rfl rfl (fun b_5=>?_)
 refine Vm rfl rfl K8 rfl rfl rfl rfl (by exact Upd.u0) ?_
 refine zA ?_
 refine zN (zR ?_)
 refine zM ?_
 refine zM ?_
 refine QL 1 rfl rfl rfl ?_
 refine zK (Qa rfl Jj) ?_
 refine zK (Qd rfl QA (fun hg=>by exact QG.h0 rfl)) ?_
 refine zK (QT rfl rfl rfl) ?_
 refine QW rfl rfl rfl rfl rfl ?_
 refine zM ?_
 refine QL 6 rfl rfl rfl ?_
 refine zK (Qa rfl Vd) ?_
 refine zK (Qd rfl QA (fun hg=>by exact QG.h0 rfl)) ?_
 refine zK (Qa rfl Vd) ?_
 refine zK (Qd rfl QA (fun hg=>by exact QG.h1 rfl)) ?_
 refine zK (QT rfl rfl rfl) ?_
 refine QW rfl rfl rfl rfl rfl ?_
 refine zM ?_
 refine QL 13 rfl rfl rfl ?_
 refine zK (Qg rfl Vn (fun hg=>by exact Cells.g1) rfl) ?_
 refine zK (Qa rfl VJ) ?_
 refine zK (Qd rfl QA (fun hg=>by exact QG.h1 rfl)) ?_
 refine zK (Qa rfl Jj) ?_
 refine zK (Qd rfl QA (fun hg=>by exact QG.h1 rfl)) ?_
 refine zK (Qa rfl JI) ?_
 refine zK (Qd rfl QA (fun hg=>by exact QG.h1 rfl)) ?_
 refine zK (Qa rfl Vd) ?_
 refine zK (Qd rfl QA (fun hg=>by exact QG.h1 rfl)) ?_
 refine zK (QZ (ps:=[(0,_),(1,_),(5,_),(10,_)]) [_,_,_,_,_,_,_,_,_,_,_] zaN rfl rfl) ?_
 refine zK (Wz rfl rfl Xo rfl) ?_
 refine QW rfl rfl rfl rfl rfl ?_
 refine zA ?_
 refine zN ?_
 refine QF ?_
 exact QP rfl rfl (fun w hw=>⟨by simp [voidF,zeroR,rtEq,hm],hw.subL (.drop (.drop .refl))⟩)
theorem zsp (I:Qv)(x:Rt)(r:Nat)(bs:List (Int×Rt)):zlT Tryz.prog 167 [encA x,.map (some r)] I [(r,YD (.int .i64) encA bs)] (.bool (voidF x bs)):=by
 cases hm:ZS bs (w64 (x.ends-1)) with
 | none=>exact zjb I x r bs hm
 | some old=>exact zhm I x r bs hm
def evF (k:Nat):Value:=.func (.func k) #[] #[]
def UI:List (Int×Nat):=[(1,164),(2,166),(3,166),(4,167)]
theorem zu9 (I:Qv):Vi Tryz.prog 100 [] I [] (fun v I' L=>∃ r,v= .map (some r)∧I'=I∧L=[(r,YD (.int .i64) evF UI)]):=by
 intro g H w hw
 refine enter Tryz.func100 rfl Tryz.ntmps100 rfl hw ?_
 refine zR ?_
 refine zA ?_
 refine zN (zR ?_)
 refine Yh rfl rfl (fun r_1=>?_)
 refine QI (m:=[]) (ev:=evF) 164 zaX Zj rfl rfl rfl rfl (by exact Upd.u0) ?_
 refine QI 166 zaX Zj rfl rfl rfl rfl (by exact Upd.u0) ?_
 refine QI 166 zaX Zj rfl rfl rfl rfl (by exact Upd.u0) ?_
 refine QI 167 zaX Zj rfl rfl rfl rfl (by exact Upd.u0) ?_
 refine zM ?_
 refine zA ?_
 refine zN ?_
 refine QF ?_
 exact QP rfl rfl (fun w hw=>⟨_,I,_,rfl,zxd _,hw,r_1,rfl,rfl,rfl⟩)
theorem zmS {k:Int}{f:Nat}(h:ZS UI k=some f):Fun Tryz.prog f:=by
 simp only [UI,ZS] at h
 split at h
 ·
  cases h;exact zr0
 ·
  split at h
  ·
   cases h;exact zkD
  ·
   split at h
   ·
    cases h;exact zkD
   ·
    split at h
    ·
     cases h;exact zrx
    ·
     cases h
theorem X1 (k:Int):(ZS UI k).isSome=zkF k:=by
 simp only [UI,ZS,zkF]
 by_cases h1:k=1
 ·
  subst h1;rfl
 ·
  by_cases h2:k=2
  ·
   subst h2;rfl
  ·
   by_cases h3:k=3
   ·
    subst h3;rfl
   ·
    by_cases h4:k=4
    ·
     subst h4;rfl
    ·
     simp [h1,h2,h3,h4,Ne.symm h1,Ne.symm h2,Ne.symm h3,Ne.symm h4]
theorem zv0 {k:Int}{f:Nat}(h:ZS UI k=some f)(I:Qv)(x:Rt)(r:Nat)(bs:List (Int×Rt)):zlT Tryz.prog f [encA x,.map (some r)] I [(r,YD (.int .i64) encA bs)] (.bool (askF k x bs)):=by
 simp only [UI,ZS] at h
 split at h
 ·
  rename_i e;cases h;subst e;exact (zuL I x _).k _
 ·
  split at h
  ·
   rename_i e;cases h;subst e;exact (zbQ I x _).k _
  ·
   split at h
   ·
    rename_i e;cases h;subst e;exact (zbQ I x _).k _
   ·
    split at h
    ·
     rename_i e;cases h;subst e;exact zsp I x r bs
    ·
     cases h
end
section
open Go Go.Kn Go.Proofs
theorem w_check {I:Qv}{av:Option Addr}{n c:Nat}{xs:List Rt}(hS:Sl I 11 encR av n c xs)(hn:n≤100000):Yc Tryz.prog 40 [.slice av n c] I (.int .i64 (rCheck xs)):=by
 intro g H w hw
 refine enter Tryz.func40 rfl Tryz.ntmps40 rfl hw ?_
 refine zR ?_
 refine zA ?_
 refine zN ?_
 refine Qq ?_
 refine zR ?_
 refine zM ?_
 refine zQ YA ?_
 refine zC ?_
 refine zN ?_
 refine zI ?_ ?_<;>intro hc12
 ·
  have h5:xs.length>512:=by rw [hS.len];simp at hc12;omega
  refine zR ?_
  refine zA ?_
  refine zN ?_
  refine QF ?_
  refine Qi ?_
  exact QP rfl rfl (fun w hw=>⟨by unfold rCheck;first | (rw [if_pos h5]) | (rw [if_neg h5,hfin]) | (rw [if_neg h5,←hinv,Wt hx,rGo,if_pos (by unfold rBad;rw [←X1,hc53])]),hw.drop⟩)
 ·
  have h5:¬xs.length>512:=by rw [hS.len];simp at hc12;omega
  refine Qw ?_
  refine Qc ?_
  refine zR ?_
  refine Yh rfl rfl (fun r_13=>?_)
  refine QE (cap:=[]) (vs:=[]) rfl rfl zrb .nil (zu9 I) rfl rfl ?_
  rintro v I1 L' hI' ⟨rk,rfl,hI1,rfl⟩
  obtain rfl:=hI1.symm
  refine zA ?_
  refine zA ?_
  refine zA ?_
  refine zN ?_
  refine zuO (fun E I' loc'=>∃ bs:List (Int×Rt),E=[(0,.slice av n c)]∧I'=I∧loc'=[(rk,YD (.int .i64) evF UI),(r_13,YD (.int .i64) encA bs)]∧rGo xs [] (-1)=0) ?_ ?_
  ·
   refine zR ?_
   refine zM ?_
   refine zQ YA ?_
   refine zM ?_
   refine zN ?_
   refine QD ?_
   refine zoD (fun m E I' loc'=>∃ (k:Nat) (bs:List (Int×Rt)) (last:Int),m=n-k∧E=[(0,.slice av n c),(3,.map (some r_13)),(4,.map (some rk)),(5,.int .i64 last),(15,.slice av n c),(16,.int .i64 n),(17,.int .i64 k)]∧I'=I∧loc'=[(rk,YD (.int .i64) evF UI),(r_13,YD (.int .i64) encA bs)]∧k≤n∧rGo (xs.drop k) bs last=rGo xs [] (-1)) _ _ _ _ ⟨0,[], -1,rfl,rfl,rfl,rfl,Nat.zero_le _,rfl⟩ (.cons rfl (.cons rfl (.cons rfl (.cons rfl (.cons rfl (.cons rfl (.cons rfl .nil))))))) (zxd _) rfl ?_
   rintro m E I' loc' ⟨k,bs,last,rfl,rfl,rfl,rfl,hk,hinv⟩
   refine zR ?_
   refine zC ?_
   refine zN ?_
   refine Qq ?_
   refine zI ?_ ?_<;>intro hc18
   ·
    have hlt:k<n:=by simpa using hc18
    obtain ⟨x,hx⟩:=hS.at hlt
    refine Qw ?_
    refine Qc ?_
    refine Qq ?_
    refine QD ?_
    refine zR ?_
    refine zV (QV rfl rfl YA (by assumption) (fun hg=>by omega)) ?_
    refine zV (Qg rfl Vn (fun hg=>by exact zxe hS hx) rfl) ?_
    refine Qt zbq rfl rfl (fun b_7=>?_)
    refine Vm rfl rfl K8 rfl rfl rfl rfl (by exact Upd.u0) ?_
    refine zN (zR ?_)
    refine zM ?_
    refine zF Jj ?_
    refine zV (Qd rfl QA (fun hg=>by exact QG.h0 rfl)) ?_
    refine zV (Z9 zaX Zj rfl rfl (fun _=>Mem.m1)) ?_
    refine zM ?_
    refine zE ?_
    refine zE ?_
    refine zA ?_
    refine zA ?_
    refine zN ?_
    refine Qq ?_
    refine zR ?_
    refine zM ?_
    refine zO ?_
    refine zM ?_
    refine Ze 2 rfl rfl rfl ?_
    refine zJ (Qa rfl VJ) ?_
    refine zJ (Qd rfl QA (fun hg=>by exact QG.h0 rfl)) ?_
    refine zJ (Qh rfl) ?_
    refine zJ (QT rfl rfl rfl) ?_
    refine ZP rfl rfl rfl rfl rfl ?_
    refine zM ?_
    refine Ze 8 rfl rfl rfl ?_
    refine zJ (Qa rfl VJ) ?_
    refine zJ (Qd rfl QA (fun hg=>by exact QG.h0 rfl)) ?_
    refine zJ (QT rfl rfl rfl) ?_
    refine ZP rfl rfl rfl rfl rfl ?_
    refine zM ?_
    refine Ze 13 rfl rfl rfl ?_
    refine zJ (Qa rfl Vd) ?_
    refine zJ (Qd rfl QA (fun hg=>by exact QG.h0 rfl)) ?_
    refine VB (cap:=[]) (vs:=[_,_,_]) rfl rfl Xi (fun hg=>Yf _ _ _ _) (.some rfl rfl rfl rfl gbf) rfl rfl ?_
    refine zJ (Yz rfl) ?_
    refine ZP rfl rfl rfl rfl rfl ?_
    refine zM ?_
    refine Ze 19 rfl rfl rfl ?_
    refine zJ (Qh rfl) ?_
    refine zJ (Qg rfl Vn (fun hg=>by exact Cells.g0) rfl) ?_
    refine zJ (Qh rfl) ?_
    refine zkp (L:=[(r_13,YD (.int .i64) encA bs)]) (vs:=[_,_]) (v:=.bool (askF x.kind x bs)) rfl rfl (.cons (.there (.there .here)) .nil) (fun hcj=>?_) (.some rfl rfl rfl rfl gbf) rfl rfl ?_
    ·
     simp only [YC,Bool.and_true,Bool.not_eq_true',Bool.or_eq_false_iff] at hcj
     obtain ⟨f,hf⟩:=Option.isSome_iff_exists.1 (show (ZS UI x.kind).isSome=true by simpa using hcj.1.1.1)
     exact ⟨f,by rw [hf];rfl,zmS hf,zv0 hf _ x r_13 bs⟩
    refine zJ (Yz rfl) ?_
    refine ZP rfl rfl rfl rfl rfl ?_
    refine zN ?_
    refine zI ?_ ?_<;>intro hc53
    ·
     refine zR ?_
     refine zA ?_
     refine zN ?_
     refine QF ?_
     refine Qi ?_
     refine Qz ?_
     refine Qi ?_
     refine Qi ?_
     refine Qz ?_
     refine Qi ?_
     exact QP rfl rfl (fun w hw=>⟨by unfold rCheck;first | (rw [if_pos h5]) | (rw [if_neg h5,hfin]) | (rw [if_neg h5,←hinv,Wt hx,rGo,if_pos (by unfold rBad;rw [←X1,hc53])]),hw.drop⟩)
    ·
     refine Qw ?_
     refine Qc ?_
     refine ZL ?_
     refine Q0 I' [(b_7,.cells (encR x).toArray 43 (0,0))] mixed ?_
     refine QR 0 rfl (Qh rfl) (.none rfl) rfl rfl rfl (by kernel_rfl) (by kernel_rfl) (by kernel_rfl) QK (zxd _) (.keep (.drop (.drop .refl))) ?_
     refine QR 1 rfl (Qa rfl VJ) (.none rfl) rfl rfl rfl (by kernel_rfl) (by kernel_rfl) (by kernel_rfl) QK (zxd _) (.keep (.drop (.drop .refl))) ?_
     refine QR 2 rfl (Qd rfl QA (fun _=>QG.h0 rfl)) (.none rfl) rfl rfl rfl (by kernel_rfl) (by kernel_rfl) (by kernel_rfl) QK (zxd _) (.keep (.drop (.drop .refl))) ?_
     refine QR 3 rfl (Qg rfl Vn (fun _=>Cells.g0) rfl) (.none rfl) rfl rfl rfl (by kernel_rfl) (by kernel_rfl) (by kernel_rfl) QK (zxd _) (.keep (.drop (.drop .refl))) ?_
     refine QR 4 rfl (Qa rfl VJ) (.none rfl) rfl rfl rfl (by kernel_rfl) (by kernel_rfl) (by kernel_rfl) QK (zxd _) (.keep (.drop (.drop .refl))) ?_
     refine QR 5 rfl (Qd rfl QA (fun _=>QG.h0 rfl)) (.none rfl) rfl rfl rfl (by kernel_rfl) (by kernel_rfl) (by kernel_rfl) QK (zxd _) (.keep (.drop (.drop .refl))) ?_
     refine zjm 6 rfl (by kernel_rfl) ?_
     refine ZU x Ud Zj rfl rfl rfl rfl Upd.u2 ?_
     refine Qb ?_
     refine zvt (zxd _) (.keep (.drop (.drop .refl))) ?_
     refine zjm 7 rfl (by kernel_rfl) ?_
     refine zA ?_
     refine Qb ?_
     refine zvt (zxd _) (.keep (.drop (.drop .refl))) ?_
     refine Qm (by kernel_rfl) ?_
     refine Qy ?_
     refine Qn ?_
     refine Qc ?_
     refine Qk ?_
     refine zV (VO rfl rfl rfl (fun _=>by omega)) ?_
     refine zM ?_
     refine Qb ?_
     exact Zt _ _ ⟨n-(k+1),by omega,k+1,JJ bs x.no x,x.no,rfl,rfl,rfl,rfl,by omega,by rw [←hinv,Wt hx,rGo,if_neg (by unfold rBad;rw [←X1,hc53];simp)]⟩ (.cons rfl (.cons rfl (.cons rfl (.cons rfl (.cons rfl (.cons rfl (.cons rfl .nil))))))) (.drop .refl)
   ·
    have hge:n≤k:=by simpa using hc18
    refine Zy ?_
    refine Qs ?_
    refine Qs ?_
    refine QB ?_
    exact zfw _ ⟨bs,rfl,rfl,rfl,by rw [←hinv,List.drop_of_length_le (by rw [hS.len];omega)];rfl⟩ (.cons rfl .nil)
  ·
   rintro E I' loc' ⟨bs,rfl,rfl,rfl,hfin⟩
   refine zR ?_
   refine zA ?_
   refine zN ?_
   refine QF ?_
   exact QP rfl rfl (fun w hw=>⟨by unfold rCheck;first | (rw [if_pos h5]) | (rw [if_neg h5,hfin]) | (rw [if_neg h5,←hinv,Wt hx,rGo,if_pos (by unfold rBad;rw [←X1,hc53])]),hw.drop⟩)
end
end Go.Proofs.YtjblkbkmblkgoaaGreat.S
namespace Go.Kn
section
open Go
structure Kp (p:Prop):Prop where
 out:p
theorem zw0 {p q:Prop}(h1:Kp p→q)(h2:p):q:=h1 ⟨h2⟩
theorem Yw {C:Cx}{Q:Exit→Act→World→Prop}{e:Exit}{E E':Env}{I:Qv}{loc:Loc}(h:Kp (At C Q e E' I loc))(hE:Sub E' E:=by repeat (first | exact Sub.nil | refine Sub.cons rfl ?_)):At C Q e E I loc:=
 fun a w ha hw=>h.out a w (ha.sub hE) hw
end
end Go.Kn
namespace Go.Proofs.YtjblkbkmblkgoaaGreat
section
open Go Go.Kn Go.Proofs
theorem zi4 (I:Qv)(x:Int):Yc Tryz.prog 229 [.int .i64 x] I (.bool false):=by
 intro g H w hw
 refine qe Tryz.func229 Tryz.ntmps229 hw ?_
 refine zR (zA ?_)
 refine zN (zR ?_)
 refine zM ?_
 refine zM ?_
 refine zC ?_
 refine zA (zN (QF ?_))
 exact zr rfl rfl (by simp)
theorem zps (I:Qv)(x y:Int):Yc Tryz.prog 183 [.int .i64 x,.int .i64 y] I (.int .i64 (zeI x y)):=by
 intro g H w hw
 refine qe Tryz.func183 Tryz.ntmps183 hw ?_
 refine zR (zA ?_)
 refine zN (zR ?_)
 refine zM ?_
 refine qcV (vs:=[_]) rfl zba (zi4 I _) ?_
 refine zA ?_
 refine zN (zR ?_)
 refine zM ?_
 refine qcV (vs:=[_]) rfl zba (zi4 I _) ?_
 refine zA (zN (Qq (zR ?_)))
 refine zM (zN ?_)
 refine zI ?_ ?_<;>intro hc11
 ·
  cases hc11
 refine Qw (Qc (Qq (zR (zM (zN ?_)))))
 refine zI ?_ ?_<;>intro hc13
 ·
  cases hc13
 refine Qw (Qc (Qq (zR (zM ?_))))
 refine zM ?_
 refine zC (zN ?_)
 refine zI ?_ ?_<;>intro hc16
 ·
  refine zR (zA (zN (QF (Qi ?_))))
  exact zr rfl rfl (by unfold zeI;first | (rw [if_pos (by simpa using hc16)]) | (rw [if_neg (by simpa using hc16),if_pos (by simpa using hc19)]) | (rw [if_neg (by simpa using hc16),if_neg (by simpa using hc19)]))
 refine Qw (Qc (Qq (zR (zM ?_))))
 refine zM ?_
 refine zC (zN ?_)
 refine zI ?_ ?_<;>intro hc19
 ·
  refine zR (zA (zN (QF (Qi ?_))))
  exact zr rfl rfl (by unfold zeI;first | (rw [if_pos (by simpa using hc16)]) | (rw [if_neg (by simpa using hc16),if_pos (by simpa using hc19)]) | (rw [if_neg (by simpa using hc16),if_neg (by simpa using hc19)]))
 refine Qw (Qc (zR (zA (zN (QF ?_)))))
 exact zr rfl rfl (by unfold zeI;first | (rw [if_pos (by simpa using hc16)]) | (rw [if_neg (by simpa using hc16),if_pos (by simpa using hc19)]) | (rw [if_neg (by simpa using hc16),if_neg (by simpa using hc19)]))
theorem zvu (I:Qv)(n:Int)(hn: -1073741824≤n∧n≤1073741824):Yc Tryz.prog 282 [.int .i64 n] I (.int .u64 (zh2 n)):=by
 intro g H w hw
 refine qe Tryz.func282 Tryz.ntmps282 hw ?_
 refine zR (zA (zN (Qq (zR ?_))))
 refine zM ?_
 refine zC (zN ?_)
 refine zI ?_ ?_<;>intro hc4
 ·
  refine zR (zM ?_)
  refine zV (Z6 rfl U9) ?_
  refine zV (zpS rfl) ?_
  refine zA (zN (QF (Qi ?_)))
  exact zr rfl rfl (by rw [zrs hn (by simpa using hc4)])
 refine Qw (Qc (zR (zM ?_)))
 refine zV (Z6 rfl U9) ?_
 refine zA (zN (QF ?_))
 exact zr rfl rfl (by rw [zqQ hn (by simpa using hc4)])
theorem zvX (I:Qv)(a b:Int):Vi Tryz.prog 285 [.int .u64 a,.int .u64 b] I [] (fun v I' L=>I'=I∧∃ b1 b2,v= .func (.func 287) #[] [ZK b1,ZK b2].toArray∧L=ztK 216 b1 b2 a b):=by
 intro g H w hw
 refine qe Tryz.func285 Tryz.ntmps285 hw ?_
 refine zR ?_
 refine Zh rfl rfl rfl (fun b_2=>?_)
 refine Zh rfl rfl rfl (fun b_3=>?_)
 refine zA ?_
 refine zN (zR ?_)
 refine zV (YG (us:=[]) (vs:=[_,_]) rfl rfl) ?_
 refine zA (zN (QF ?_))
 exact QP rfl rfl (fun w hw=>⟨_,I,_,rfl,zxd _,hw,rfl,_,_,rfl,rfl⟩)
theorem zmC (I:Qv)(a0 b0:Nat)(b1 b2:Nat)(hb0:0<b0)(ha1:a0≤9223372036854775807)(hb1:b0≤9223372036854775807):zv9 Tryz.prog 287 [ZK b1,ZK b2] I (ztK 216 b1 b2 (a0) (b0)) (fun n:Nat=>.int .u64 n) (zdl a0 b0):=by
 intro g l J Jx hY I0 H w h0 hJ hw
 refine qe Tryz.func287 Tryz.ntmps287 hw ?_
 refine QD ?_
 refine zeP (fun m E I' H' loc'=>∃ (a b:Nat) (pre:List Nat),m=b∧E=[(0,.func (.yield l) #[] #[]),(1,ZK b1),(2,ZK b2)]∧loc'=ztK 216 b1 b2 (a) (b)∧HLe I0 I'∧J pre I' H'∧zdl a0 b0=pre++zdl a b∧0<b∧a≤9223372036854775807∧b≤9223372036854775807) _ _ _ ⟨a0,b0,[],rfl,rfl,rfl,zxd _,hJ,rfl,hb0,ha1,hb1⟩ (.cons rfl (.cons rfl (.cons rfl .nil))) rfl ?_
 rintro m E I' H' loc' ⟨a,b,pre,hmb,rfl,rfl,hI1,hJk,hrem,hbp,hal,hbl⟩
 subst m
 have hI0:=h0.trans hI1
 refine Qq (zR ?_)
 refine zL ZX ?_
 refine zC ?_
 refine zM ?_
 refine QL 2 rfl rfl rfl ?_
 refine zK (Qh rfl) ?_
 refine zK (Qd rfl ZX (fun hg=>by exact QG.h1 rfl)) ?_
 refine zjN (vs:=[_]) (Post:=fun t I2 H2=>if t then J (pre++[a]) I2 H2 else Jx (pre++[a]) I2 H2) rfl rfl (.some rfl rfl rfl rfl gbt) rfl rfl (fun hcj=>hY pre a _ _ (zjn hrem (by simpa [YC] using hcj)) hI0 hJk) ?_
 rintro t I2 H2 hI2 hyes hno
 refine QW rfl rfl rfl rfl rfl ?_
 refine zN ?_
 refine zI ?_ ?_<;>intro hc10
 ·
  have ha0:a≠0:=by simp at hc10;exact hc10.1
  have ht:t=true:=by simp at hc10;exact hc10.2
  subst ht
  have hJ1:J (pre++[a]) I2 H2:=hyes (by simp [YC];exact ha0)
  refine Qw (Qc (QD (Qq ?_)))
  apply zw0
  ·
   intro key
   have hD:=zxd I2
   refine ZL ?_
   refine Q0 I2 [] mixed ?_
   refine VH 0 1 2 rfl rfl rfl (by kernel_rfl) ?_ ?_ ?_
   ·
    refine zL ZX ?_
    refine Qb ?_
    refine zD hD ?_
    refine Q8 1 2 rfl rfl (by kernel_rfl) ?_ ?_
    ·
     refine zL ZX ?_
     refine Qb ?_
     refine zD hD ?_
     refine Q8 2 5 rfl rfl (by kernel_rfl) ?_ ?_
     ·
      refine zL ZX ?_
      refine Qb ?_
      refine zD hD ?_
      refine Q8 3 5 rfl rfl (by kernel_rfl) ?_ ?_
      ·
       refine zV (Vo rfl rfl) ?_
       refine Qb ?_
       refine zD hD ?_
       refine Q8 4 5 rfl rfl (by kernel_rfl) ?_ ?_
       ·
        refine zV (Yg rfl rfl (fun hg=>by rw [ZF hbp];omega)) ?_
        refine Qb ?_
        refine zD hD ?_
        refine qd 5 rfl ?_
        refine zS Zc ?_
        refine Qb ?_
        refine zD hD ?_
        refine qd 6 rfl ?_
        refine zS Zc ?_
        refine Qb ?_
        refine zD hD ?_
        refine Qm (by kernel_rfl) ?_
        refine Qy ?_
        first | exact key.out | exact Yw key
       refine zS Zc ?_
       refine Qb ?_
       refine zD hD ?_
       refine qd 4 rfl ?_
       refine zV (Yg rfl rfl (fun hg=>by rw [ZF hbp];omega)) ?_
       refine Qb ?_
       refine zD hD ?_
       refine qd 6 rfl ?_
       refine zS Zc ?_
       refine Qb ?_
       refine zD hD ?_
       refine Qm (by kernel_rfl) ?_
       refine Qy ?_
       first | exact key.out | exact Yw key
      refine zS Zc ?_
      refine Qb ?_
      refine zD hD ?_
      refine qd 3 rfl ?_
      refine zV (Vo rfl rfl) ?_
      refine Qb ?_
      refine zD hD ?_
      refine qd 4 rfl ?_
      refine zV (Yg rfl rfl (fun hg=>by rw [ZF hbp];omega)) ?_
      refine Qb ?_
      refine zD hD ?_
      refine qd 6 rfl ?_
      refine zS Zc ?_
      refine Qb ?_
      refine zD hD ?_
      refine Qm (by kernel_rfl) ?_
      refine Qy ?_
      first | exact key.out | exact Yw key
     refine zS Zc ?_
     refine Qb ?_
     refine zD hD ?_
     refine qd 2 rfl ?_
     refine zL ZX ?_
     refine Qb ?_
     refine zD hD ?_
     refine qd 3 rfl ?_
     refine zV (Vo rfl rfl) ?_
     refine Qb ?_
     refine zD hD ?_
     refine qd 4 rfl ?_
     refine zV (Yg rfl rfl (fun hg=>by rw [ZF hbp];omega)) ?_
     refine Qb ?_
     refine zD hD ?_
     refine qd 6 rfl ?_
     refine zS Zc ?_
     refine Qb ?_
     refine zD hD ?_
     refine Qm (by kernel_rfl) ?_
     refine Qy ?_
     first | exact key.out | exact Yw key
    refine zL ZX ?_
    refine Qb ?_
    refine zD hD ?_
    refine Q8 1 3 rfl rfl (by kernel_rfl) ?_ ?_
    ·
     refine zL ZX ?_
     refine Qb ?_
     refine zD hD ?_
     refine Q8 3 5 rfl rfl (by kernel_rfl) ?_ ?_
     ·
      refine zV (Vo rfl rfl) ?_
      refine Qb ?_
      refine zD hD ?_
      refine Q8 4 5 rfl rfl (by kernel_rfl) ?_ ?_
      ·
       refine zV (Yg rfl rfl (fun hg=>by rw [ZF hbp];omega)) ?_
       refine Qb ?_
       refine zD hD ?_
       refine qd 5 rfl ?_
       refine zS Zc ?_
       refine Qb ?_
       refine zD hD ?_
       refine qd 6 rfl ?_
       refine zS Zc ?_
       refine Qb ?_
       refine zD hD ?_
       refine Qm (by kernel_rfl) ?_
       refine Qy ?_
       first | exact key.out | exact Yw key
      refine zS Zc ?_
      refine Qb ?_
      refine zD hD ?_
      refine qd 4 rfl ?_
      refine zV (Yg rfl rfl (fun hg=>by rw [ZF hbp];omega)) ?_
      refine Qb ?_
      refine zD hD ?_
      refine qd 6 rfl ?_
      refine zS Zc ?_
      refine Qb ?_
      refine zD hD ?_
      refine Qm (by kernel_rfl) ?_
      refine Qy ?_
      first | exact key.out | exact Yw key
     refine zS Zc ?_
     refine Qb ?_
     refine zD hD ?_
     refine qd 3 rfl ?_
     refine zV (Vo rfl rfl) ?_
     refine Qb ?_
     refine zD hD ?_
     refine qd 4 rfl ?_
     refine zV (Yg rfl rfl (fun hg=>by rw [ZF hbp];omega)) ?_
     refine Qb ?_
     refine zD hD ?_
     refine qd 6 rfl ?_
     refine zS Zc ?_
     refine Qb ?_
     refine zD hD ?_
     refine Qm (by kernel_rfl) ?_
     refine Qy ?_
     first | exact key.out | exact Yw key
    refine zV (Vo rfl rfl) ?_
    refine Qb ?_
    refine zD hD ?_
    refine qd 1 rfl ?_
    refine zL ZX ?_
    refine Qb ?_
    refine zD hD ?_
    refine Q8 4 5 rfl rfl (by kernel_rfl) ?_ ?_
    ·
     refine zV (Yg rfl rfl (fun hg=>by rw [ZF hbp];omega)) ?_
     refine Qb ?_
     refine zD hD ?_
     refine qd 5 rfl ?_
     refine zS Zc ?_
     refine Qb ?_
     refine zD hD ?_
     refine qd 6 rfl ?_
     refine zS Zc ?_
     refine Qb ?_
     refine zD hD ?_
     refine Qm (by kernel_rfl) ?_
     refine Qy ?_
     first | exact key.out | exact Yw key
    refine zS Zc ?_
    refine Qb ?_
    refine zD hD ?_
    refine qd 4 rfl ?_
    refine zV (Yg rfl rfl (fun hg=>by rw [ZF hbp];omega)) ?_
    refine Qb ?_
    refine zD hD ?_
    refine qd 6 rfl ?_
    refine zS Zc ?_
    refine Qb ?_
    refine zD hD ?_
    refine Qm (by kernel_rfl) ?_
    refine Qy ?_
    first | exact key.out | exact Yw key
   ·
    refine zL ZX ?_
    refine Qb ?_
    refine zD hD ?_
    refine Q8 0 2 rfl rfl (by kernel_rfl) ?_ ?_
    ·
     refine zL ZX ?_
     refine Qb ?_
     refine zD hD ?_
     refine Q8 2 5 rfl rfl (by kernel_rfl) ?_ ?_
     ·
      refine zL ZX ?_
      refine Qb ?_
      refine zD hD ?_
      refine Q8 3 5 rfl rfl (by kernel_rfl) ?_ ?_
      ·
       refine zV (Vo rfl rfl) ?_
       refine Qb ?_
       refine zD hD ?_
       refine Q8 4 5 rfl rfl (by kernel_rfl) ?_ ?_
       ·
        refine zV (Yg rfl rfl (fun hg=>by rw [ZF hbp];omega)) ?_
        refine Qb ?_
        refine zD hD ?_
        refine qd 5 rfl ?_
        refine zS Zc ?_
        refine Qb ?_
        refine zD hD ?_
        refine qd 6 rfl ?_
        refine zS Zc ?_
        refine Qb ?_
        refine zD hD ?_
        refine Qm (by kernel_rfl) ?_
        refine Qy ?_
        first | exact key.out | exact Yw key
       refine zS Zc ?_
       refine Qb ?_
       refine zD hD ?_
       refine qd 4 rfl ?_
       refine zV (Yg rfl rfl (fun hg=>by rw [ZF hbp];omega)) ?_
       refine Qb ?_
       refine zD hD ?_
       refine qd 6 rfl ?_
       refine zS Zc ?_
       refine Qb ?_
       refine zD hD ?_
       refine Qm (by kernel_rfl) ?_
       refine Qy ?_
       first | exact key.out | exact Yw key
      refine zS Zc ?_
      refine Qb ?_
      refine zD hD ?_
      refine qd 3 rfl ?_
      refine zV (Vo rfl rfl) ?_
      refine Qb ?_
      refine zD hD ?_
      refine qd 4 rfl ?_
      refine zV (Yg rfl rfl (fun hg=>by rw [ZF hbp];omega)) ?_
      refine Qb ?_
      refine zD hD ?_
      refine qd 6 rfl ?_
      refine zS Zc ?_
      refine Qb ?_
      refine zD hD ?_
      refine Qm (by kernel_rfl) ?_
      refine Qy ?_
      first | exact key.out | exact Yw key
     refine zS Zc ?_
     refine Qb ?_
     refine zD hD ?_
     refine qd 2 rfl ?_
     refine zL ZX ?_
     refine Qb ?_
     refine zD hD ?_
     refine qd 3 rfl ?_
     refine zV (Vo rfl rfl) ?_
     refine Qb ?_
     refine zD hD ?_
     refine qd 4 rfl ?_
     refine zV (Yg rfl rfl (fun hg=>by rw [ZF hbp];omega)) ?_
     refine Qb ?_
     refine zD hD ?_
     refine qd 6 rfl ?_
     refine zS Zc ?_
     refine Qb ?_
     refine zD hD ?_
     refine Qm (by kernel_rfl) ?_
     refine Qy ?_
     first | exact key.out | exact Yw key
    refine zL ZX ?_
    refine Qb ?_
    refine zD hD ?_
    refine Q8 0 3 rfl rfl (by kernel_rfl) ?_ ?_
    ·
     refine zL ZX ?_
     refine Qb ?_
     refine zD hD ?_
     refine Q8 3 5 rfl rfl (by kernel_rfl) ?_ ?_
     ·
      refine zV (Vo rfl rfl) ?_
      refine Qb ?_
      refine zD hD ?_
      refine Q8 4 5 rfl rfl (by kernel_rfl) ?_ ?_
      ·
       refine zV (Yg rfl rfl (fun hg=>by rw [ZF hbp];omega)) ?_
       refine Qb ?_
       refine zD hD ?_
       refine qd 5 rfl ?_
       refine zS Zc ?_
       refine Qb ?_
       refine zD hD ?_
       refine qd 6 rfl ?_
       refine zS Zc ?_
       refine Qb ?_
       refine zD hD ?_
       refine Qm (by kernel_rfl) ?_
       refine Qy ?_
       first | exact key.out | exact Yw key
      refine zS Zc ?_
      refine Qb ?_
      refine zD hD ?_
      refine qd 4 rfl ?_
      refine zV (Yg rfl rfl (fun hg=>by rw [ZF hbp];omega)) ?_
      refine Qb ?_
      refine zD hD ?_
      refine qd 6 rfl ?_
      refine zS Zc ?_
      refine Qb ?_
      refine zD hD ?_
      refine Qm (by kernel_rfl) ?_
      refine Qy ?_
      first | exact key.out | exact Yw key
     refine zS Zc ?_
     refine Qb ?_
     refine zD hD ?_
     refine qd 3 rfl ?_
     refine zV (Vo rfl rfl) ?_
     refine Qb ?_
     refine zD hD ?_
     refine qd 4 rfl ?_
     refine zV (Yg rfl rfl (fun hg=>by rw [ZF hbp];omega)) ?_
     refine Qb ?_
     refine zD hD ?_
     refine qd 6 rfl ?_
     refine zS Zc ?_
     refine Qb ?_
     refine zD hD ?_
     refine Qm (by kernel_rfl) ?_
     refine Qy ?_
     first | exact key.out | exact Yw key
    refine zV (Vo rfl rfl) ?_
    refine Qb ?_
    refine zD hD ?_
    refine Q8 0 4 rfl rfl (by kernel_rfl) ?_ ?_
    ·
     refine zL ZX ?_
     refine Qb ?_
     refine zD hD ?_
     refine Q8 4 5 rfl rfl (by kernel_rfl) ?_ ?_
     ·
      refine zV (Yg rfl rfl (fun hg=>by rw [ZF hbp];omega)) ?_
      refine Qb ?_
      refine zD hD ?_
      refine qd 5 rfl ?_
      refine zS Zc ?_
      refine Qb ?_
      refine zD hD ?_
      refine qd 6 rfl ?_
      refine zS Zc ?_
      refine Qb ?_
      refine zD hD ?_
      refine Qm (by kernel_rfl) ?_
      refine Qy ?_
      first | exact key.out | exact Yw key
     refine zS Zc ?_
     refine Qb ?_
     refine zD hD ?_
     refine qd 4 rfl ?_
     refine zV (Yg rfl rfl (fun hg=>by rw [ZF hbp];omega)) ?_
     refine Qb ?_
     refine zD hD ?_
     refine qd 6 rfl ?_
     refine zS Zc ?_
     refine Qb ?_
     refine zD hD ?_
     refine Qm (by kernel_rfl) ?_
     refine Qy ?_
     first | exact key.out | exact Yw key
    refine zV (Yg rfl rfl (fun hg=>by rw [ZF hbp];omega)) ?_
    refine Qb ?_
    refine zD hD ?_
    refine qd 0 rfl ?_
    refine zL ZX ?_
    refine Qb ?_
    refine zD hD ?_
    refine qd 5 rfl ?_
    refine zS Zc ?_
    refine Qb ?_
    refine zD hD ?_
    refine qd 6 rfl ?_
    refine zS Zc ?_
    refine Qb ?_
    refine zD hD ?_
    refine Qm (by kernel_rfl) ?_
    refine Qy ?_
    first | exact key.out | exact Yw key
   refine zL ZX ?_
   refine Qb ?_
   refine zD hD ?_
   refine VH 0 1 3 rfl rfl rfl (by kernel_rfl) ?_ ?_ ?_
   ·
    refine zL ZX ?_
    refine Qb ?_
    refine zD hD ?_
    refine Q8 1 3 rfl rfl (by kernel_rfl) ?_ ?_
    ·
     refine zL ZX ?_
     refine Qb ?_
     refine zD hD ?_
     refine Q8 3 5 rfl rfl (by kernel_rfl) ?_ ?_
     ·
      refine zV (Vo rfl rfl) ?_
      refine Qb ?_
      refine zD hD ?_
      refine Q8 4 5 rfl rfl (by kernel_rfl) ?_ ?_
      ·
       refine zV (Yg rfl rfl (fun hg=>by rw [ZF hbp];omega)) ?_
       refine Qb ?_
       refine zD hD ?_
       refine qd 5 rfl ?_
       refine zS Zc ?_
       refine Qb ?_
       refine zD hD ?_
       refine qd 6 rfl ?_
       refine zS Zc ?_
       refine Qb ?_
       refine zD hD ?_
       refine Qm (by kernel_rfl) ?_
       refine Qy ?_
       first | exact key.out | exact Yw key
      refine zS Zc ?_
      refine Qb ?_
      refine zD hD ?_
      refine qd 4 rfl ?_
      refine zV (Yg rfl rfl (fun hg=>by rw [ZF hbp];omega)) ?_
      refine Qb ?_
      refine zD hD ?_
      refine qd 6 rfl ?_
      refine zS Zc ?_
      refine Qb ?_
      refine zD hD ?_
      refine Qm (by kernel_rfl) ?_
      refine Qy ?_
      first | exact key.out | exact Yw key
     refine zS Zc ?_
     refine Qb ?_
     refine zD hD ?_
     refine qd 3 rfl ?_
     refine zV (Vo rfl rfl) ?_
     refine Qb ?_
     refine zD hD ?_
     refine qd 4 rfl ?_
     refine zV (Yg rfl rfl (fun hg=>by rw [ZF hbp];omega)) ?_
     refine Qb ?_
     refine zD hD ?_
     refine qd 6 rfl ?_
     refine zS Zc ?_
     refine Qb ?_
     refine zD hD ?_
     refine Qm (by kernel_rfl) ?_
     refine Qy ?_
     first | exact key.out | exact Yw key
    refine zV (Vo rfl rfl) ?_
    refine Qb ?_
    refine zD hD ?_
    refine qd 1 rfl ?_
    refine zL ZX ?_
    refine Qb ?_
    refine zD hD ?_
    refine Q8 4 5 rfl rfl (by kernel_rfl) ?_ ?_
    ·
     refine zV (Yg rfl rfl (fun hg=>by rw [ZF hbp];omega)) ?_
     refine Qb ?_
     refine zD hD ?_
     refine qd 5 rfl ?_
     refine zS Zc ?_
     refine Qb ?_
     refine zD hD ?_
     refine qd 6 rfl ?_
     refine zS Zc ?_
     refine Qb ?_
     refine zD hD ?_
     refine Qm (by kernel_rfl) ?_
     refine Qy ?_
     first | exact key.out | exact Yw key
    refine zS Zc ?_
    refine Qb ?_
    refine zD hD ?_
    refine qd 4 rfl ?_
    refine zV (Yg rfl rfl (fun hg=>by rw [ZF hbp];omega)) ?_
    refine Qb ?_
    refine zD hD ?_
    refine qd 6 rfl ?_
    refine zS Zc ?_
    refine Qb ?_
    refine zD hD ?_
    refine Qm (by kernel_rfl) ?_
    refine Qy ?_
    first | exact key.out | exact Yw key
   ·
    refine zL ZX ?_
    refine Qb ?_
    refine zD hD ?_
    refine Q8 0 3 rfl rfl (by kernel_rfl) ?_ ?_
    ·
     refine zL ZX ?_
     refine Qb ?_
     refine zD hD ?_
     refine Q8 3 5 rfl rfl (by kernel_rfl) ?_ ?_
     ·
      refine zV (Vo rfl rfl) ?_
      refine Qb ?_
      refine zD hD ?_
      refine Q8 4 5 rfl rfl (by kernel_rfl) ?_ ?_
      ·
       refine zV (Yg rfl rfl (fun hg=>by rw [ZF hbp];omega)) ?_
       refine Qb ?_
       refine zD hD ?_
       refine qd 5 rfl ?_
       refine zS Zc ?_
       refine Qb ?_
       refine zD hD ?_
       refine qd 6 rfl ?_
       refine zS Zc ?_
       refine Qb ?_
       refine zD hD ?_
       refine Qm (by kernel_rfl) ?_
       refine Qy ?_
       first | exact key.out | exact Yw key
      refine zS Zc ?_
      refine Qb ?_
      refine zD hD ?_
      refine qd 4 rfl ?_
      refine zV (Yg rfl rfl (fun hg=>by rw [ZF hbp];omega)) ?_
      refine Qb ?_
      refine zD hD ?_
      refine qd 6 rfl ?_
      refine zS Zc ?_
      refine Qb ?_
      refine zD hD ?_
      refine Qm (by kernel_rfl) ?_
      refine Qy ?_
      first | exact key.out | exact Yw key
     refine zS Zc ?_
     refine Qb ?_
     refine zD hD ?_
     refine qd 3 rfl ?_
     refine zV (Vo rfl rfl) ?_
     refine Qb ?_
     refine zD hD ?_
     refine qd 4 rfl ?_
     refine zV (Yg rfl rfl (fun hg=>by rw [ZF hbp];omega)) ?_
     refine Qb ?_
     refine zD hD ?_
     refine qd 6 rfl ?_
     refine zS Zc ?_
     refine Qb ?_
     refine zD hD ?_
     refine Qm (by kernel_rfl) ?_
     refine Qy ?_
     first | exact key.out | exact Yw key
    refine zV (Vo rfl rfl) ?_
    refine Qb ?_
    refine zD hD ?_
    refine Q8 0 4 rfl rfl (by kernel_rfl) ?_ ?_
    ·
     refine zL ZX ?_
     refine Qb ?_
     refine zD hD ?_
     refine Q8 4 5 rfl rfl (by kernel_rfl) ?_ ?_
     ·
      refine zV (Yg rfl rfl (fun hg=>by rw [ZF hbp];omega)) ?_
      refine Qb ?_
      refine zD hD ?_
      refine qd 5 rfl ?_
      refine zS Zc ?_
      refine Qb ?_
      refine zD hD ?_
      refine qd 6 rfl ?_
      refine zS Zc ?_
      refine Qb ?_
      refine zD hD ?_
      refine Qm (by kernel_rfl) ?_
      refine Qy ?_
      first | exact key.out | exact Yw key
     refine zS Zc ?_
     refine Qb ?_
     refine zD hD ?_
     refine qd 4 rfl ?_
     refine zV (Yg rfl rfl (fun hg=>by rw [ZF hbp];omega)) ?_
     refine Qb ?_
     refine zD hD ?_
     refine qd 6 rfl ?_
     refine zS Zc ?_
     refine Qb ?_
     refine zD hD ?_
     refine Qm (by kernel_rfl) ?_
     refine Qy ?_
     first | exact key.out | exact Yw key
    refine zV (Yg rfl rfl (fun hg=>by rw [ZF hbp];omega)) ?_
    refine Qb ?_
    refine zD hD ?_
    refine qd 0 rfl ?_
    refine zL ZX ?_
    refine Qb ?_
    refine zD hD ?_
    refine qd 5 rfl ?_
    refine zS Zc ?_
    refine Qb ?_
    refine zD hD ?_
    refine qd 6 rfl ?_
    refine zS Zc ?_
    refine Qb ?_
    refine zD hD ?_
    refine Qm (by kernel_rfl) ?_
    refine Qy ?_
    first | exact key.out | exact Yw key
   refine zV (Vo rfl rfl) ?_
   refine Qb ?_
   refine zD hD ?_
   refine Q8 0 1 rfl rfl (by kernel_rfl) ?_ ?_
   ·
    refine zL ZX ?_
    refine Qb ?_
    refine zD hD ?_
    refine qd 1 rfl ?_
    refine zL ZX ?_
    refine Qb ?_
    refine zD hD ?_
    refine Q8 4 5 rfl rfl (by kernel_rfl) ?_ ?_
    ·
     refine zV (Yg rfl rfl (fun hg=>by rw [ZF hbp];omega)) ?_
     refine Qb ?_
     refine zD hD ?_
     refine qd 5 rfl ?_
     refine zS Zc ?_
     refine Qb ?_
     refine zD hD ?_
     refine qd 6 rfl ?_
     refine zS Zc ?_
     refine Qb ?_
     refine zD hD ?_
     refine Qm (by kernel_rfl) ?_
     refine Qy ?_
     first | exact key.out | exact Yw key
    refine zS Zc ?_
    refine Qb ?_
    refine zD hD ?_
    refine qd 4 rfl ?_
    refine zV (Yg rfl rfl (fun hg=>by rw [ZF hbp];omega)) ?_
    refine Qb ?_
    refine zD hD ?_
    refine qd 6 rfl ?_
    refine zS Zc ?_
    refine Qb ?_
    refine zD hD ?_
    refine Qm (by kernel_rfl) ?_
    refine Qy ?_
    first | exact key.out | exact Yw key
   refine zL ZX ?_
   refine Qb ?_
   refine zD hD ?_
   refine Q8 0 4 rfl rfl (by kernel_rfl) ?_ ?_
   ·
    refine zL ZX ?_
    refine Qb ?_
    refine zD hD ?_
    refine Q8 4 5 rfl rfl (by kernel_rfl) ?_ ?_
    ·
     refine zV (Yg rfl rfl (fun hg=>by rw [ZF hbp];omega)) ?_
     refine Qb ?_
     refine zD hD ?_
     refine qd 5 rfl ?_
     refine zS Zc ?_
     refine Qb ?_
     refine zD hD ?_
     refine qd 6 rfl ?_
     refine zS Zc ?_
     refine Qb ?_
     refine zD hD ?_
     refine Qm (by kernel_rfl) ?_
     refine Qy ?_
     first | exact key.out | exact Yw key
    refine zS Zc ?_
    refine Qb ?_
    refine zD hD ?_
    refine qd 4 rfl ?_
    refine zV (Yg rfl rfl (fun hg=>by rw [ZF hbp];omega)) ?_
    refine Qb ?_
    refine zD hD ?_
    refine qd 6 rfl ?_
    refine zS Zc ?_
    refine Qb ?_
    refine zD hD ?_
    refine Qm (by kernel_rfl) ?_
    refine Qy ?_
    first | exact key.out | exact Yw key
   refine zV (Yg rfl rfl (fun hg=>by rw [ZF hbp];omega)) ?_
   refine Qb ?_
   refine zD hD ?_
   refine qd 0 rfl ?_
   refine zL ZX ?_
   refine Qb ?_
   refine zD hD ?_
   refine qd 5 rfl ?_
   refine zS Zc ?_
   refine Qb ?_
   refine zD hD ?_
   refine qd 6 rfl ?_
   refine zS Zc ?_
   refine Qb ?_
   refine zD hD ?_
   refine Qm (by kernel_rfl) ?_
   refine Qy ?_
   first | exact key.out | exact Yw key
  rw [show ((a:Int)).tmod (zd4 (b:Int) 1)=((a % b:Nat):Int) by rw [ZF hbp,znt]]
  refine Qc (zR ?_)
  refine zL ZX ?_
  refine zC (zN ?_)
  refine zI ?_ ?_<;>intro hc17
  ·
   have hab:a % b=0:=by have h:=hc17;simp only [beq_iff_eq] at h;omega
   have hpre2:(pre++[a])++[b]<+:zdl a0 b0:=by rw [hrem,zcl ha0 (by omega) hab,List.append_assoc];exact List.prefix_rfl
   refine zR (zM ?_)
   refine zL ZX ?_
   refine zaV (vs:=[_]) (Post:=fun t I3 H3=>if t then J ((pre++[a])++[b]) I3 H3 else Jx ((pre++[a])++[b]) I3 H3) rfl rfl rfl rfl (hY (pre++[a]) b _ _ hpre2 (hI0.trans hI2) hJ1) ?_
   rintro t3 I3 H3 hI3 hP3
   refine zN (QF (Qz (Qi (Qz ?_))))
   first
   | (refine Yv rfl (fun w hw=>⟨_,I3,H3,rfl,hI1.trans (hI2.trans hI3),hw.drop,?_⟩);cases t3 with | true=>exact .inl (by rw [hrem,zcl ha0 (by omega) hab];simpa using hP3) | false=>exact .inr ⟨_,hpre2,hP3⟩)
  have hab:a % b≠0:=by have h:=hc17;simp only [beq_eq_false_iff_ne,ne_eq] at h;omega
  refine Qw (Qn ?_)
  exact X3 rfl rfl rfl _ (ztK 216 b1 b2 (b) (((a % b:Nat):Int))) ⟨a % b,Nat.mod_lt _ hbp,b,a % b,pre++[a],rfl,rfl,rfl,hI1.trans hI2,hJ1,by rw [hrem,zd3 ha0 (by omega) hab,List.append_assoc];rfl,by omega,by omega,by have:=Nat.mod_lt a hbp;omega⟩ (.cons rfl (.cons rfl (.cons rfl .nil))) .refl
 refine Zy (Qs (Qs (QB ?_)))
 first
 | (refine YL (Yv rfl (fun w hw=>⟨_,I2,H2,rfl,hI1.trans hI2,hw.drop,?_⟩));by_cases ha0:a=0;(obtain ⟨e1,e2⟩:=hno (by simp [YC,ha0]);subst e1;subst e2;subst ha0;exact .inl (by rw [hrem,zdM,List.append_nil];exact hJk));(have ht:t=false:=(by simp [ha0] at hc10;exact hc10);subst ht;exact .inr ⟨_,zjn hrem ha0,hyes (by simp [YC];exact ha0)⟩))
end
end Go.Proofs.YtjblkbkmblkgoaaGreat
