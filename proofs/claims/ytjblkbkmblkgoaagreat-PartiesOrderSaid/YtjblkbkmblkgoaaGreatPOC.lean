/- partiesOrder_holds, part C of the proof: what its theorems say holds without further conditions. -/
import Derived.Lib.Hide
import Derived.Shelf.SlSortCmp.WholeK
import Derived.Test.YtjblkbkmblkgoaaGreatProg
import Derived.KernelRfl
import Derived.Test.YtjblkbkmblkgoaaGreatPOB
section
namespace Go.Proofs.YtjblkbkmblkgoaaGreat
open Go Go.Kn Go.Proofs
structure Lm where
 no:Int
 person:Int
 ends:Int
 lo:Int
 hi:Int
 known:Int
 ck:Int
 cl:Int
 cn:Int
def ZL (x:Lm):List Value:=[.int .i64 x.no,.int .i64 x.person,.int .i64 x.ends,.int .i64 x.lo,.int .i64 x.hi,.int .i64 x.known,.int .i64 x.ck,.int .i64 x.cl,.int .i64 x.cn]
def Jm (x:Lm):Value:=.agg (ZL x).toArray
theorem Yt (x:Lm):(ZL x).length=9:=rfl
theorem zoc (xs:List Lm):YZ (xs.flatMap ZL)=true:=YU (fun _=>rfl) xs
def V1:Lm:=⟨0,0,0,0,0,0,0,0,0⟩
def zvG (x y:Lm):Bool:=x.no==y.no&&(x.person==y.person&&(x.ends==y.ends&&(x.lo==y.lo&&(x.hi==y.hi&&(x.known==y.known&&((x.ck==y.ck&&(x.cl==y.cl&&(x.cn==y.cn&&true)))&&true))))))
theorem znB {x y:Lm}:zvG x y=true↔x=y:=by
 obtain ⟨a1,a2,a3,a4,a5,a6,a7,a8,a9⟩:=x
 obtain ⟨b1,b2,b3,b4,b5,b6,b7,b8,b9⟩:=y
 simp [zvG]
instance : DecidableEq Lm := fun a b => decidable_of_iff (zvG a b = true) znB
def zb1 (n lo hi:Int):Bool:=decide (lo≤n)&&decide (n≤hi)
def zfi (lo hi:Int)(xs:List Int):Bool:=xs.all fun n=> !(decide (n<lo)||decide (n>hi))
theorem WI (lo hi n:Int):zfi lo hi [n]=zb1 n lo hi:=by
 simp only [zfi,List.all_cons,List.all_nil,Bool.and_true,zb1]
 rw [Bool.eq_iff_iff];simp
def zva:List (Int×Int×Int):=[(0,0,0),(1,3,2),(1,1048576,2),(1,16,0),(0,16,0),(0,500,0),(0,1048576,0)]
def Wh (k:Int):Int×Int×Int:=zva.getD k.toNat (0,0,0)
def zoM (ck cl cn:Int):Bool:=if zb1 ck 1 6 then (if zb1 cl 0 (Wh ck).2.2 then zb1 cn (Wh ck).1 (Wh ck).2.1 else false) else false
theorem zpO {ck cl cn:Int}(h:zb1 ck 1 6=false):zoM ck cl cn=false:=by unfold zoM;rw [h];rfl
theorem zkO {ck cl cn:Int}(h:zb1 ck 1 6=true)(h2:zb1 cl 0 (Wh ck).2.2=false):zoM ck cl cn=false:=by unfold zoM;rw [h,h2];rfl
theorem znw {ck cl cn:Int}(h:zb1 ck 1 6=true)(h2:zb1 cl 0 (Wh ck).2.2=true):zoM ck cl cn=zb1 cn (Wh ck).1 (Wh ck).2.1:=by unfold zoM;rw [h,h2];rfl
theorem six {ck:Int}(h:zb1 ck 1 6=true):ck=1∨ck=2∨ck=3∨ck=4∨ck=5∨ck=6:=by
 simp only [zb1,Bool.and_eq_true,decide_eq_true_eq] at h;omega
def knM (pre:List Lm):List (Int×Lm):=pre.foldl (fun m y=>JF m y.no y) []
def rpM (pre:List Lm):List (Int×Bool):=pre.foldl (fun m y=>JF m y.ends true) []
def zdp (pre:List Lm):Int:=match pre.getLast? with | none=> -1 | some y=>y.no
theorem U9 (pre:List Lm)(x:Lm):knM (pre++[x])=JF (knM pre) x.no x:=by simp [knM]
theorem Wz (pre:List Lm)(x:Lm):rpM (pre++[x])=JF (rpM pre) x.ends true:=by simp [rpM]
theorem Ko (pre:List Lm)(x:Lm):zdp (pre++[x])=x.no:=by simp [zdp]
def zlN (pre:List Lm)(x:Lm):Option Lm:=ZV (knM pre) (IntKind.i64.wrap (x.ends-1))
def zt8 (last:Int)(x:Lm):Bool:=(decide (x.no≤last)||decide (x.no>1048576))|| !zb1 x.person 0 63
def ztB (x:Lm):Bool:=((decide (x.lo<0)||decide (x.lo>x.hi))||decide (x.hi>73048))|| !zb1 x.known 0 134217727
def zs5 (x:Lm):Bool:= !zoM x.ck x.cl x.cn&&(!(x.ck==0&&(x.cl==0&&(x.cn==0&&true)))||x.ends==0)
def zr4 (met rep:Bool)(old x:Lm):Bool:=(x.ends != 0)&&(((!met||rep)||old.person != x.person)||decide (old.known>x.known))
def ze5 (pre:List Lm)(x:Lm):Bool:=zt8 (zdp pre) x||ztB x||zs5 x||zr4 (zlN pre x).isSome ((ZV (rpM pre) x.ends).getD false) ((zlN pre x).getD V1) x
def zhJ (xs:List Lm):Int:=if xs.length>512 then 2 else if (List.range xs.length).any (fun k=>ze5 (xs.take k) (xs.getD k V1)) then 340 else 0
end Go.Proofs.YtjblkbkmblkgoaaGreat
namespace Go.Proofs.YtjblkbkmblkgoaaGreat
open Go Go.Kn Go.Proofs
def zhg (v:Value):List Value:=[v]
theorem zdr (v:Value):(zhg v).length=1:=rfl
section
variable {α β:Type} [DecidableEq α] {C:Cx} {E:Env} {I:Qv} {loc:Go.Kn.Loc} {S:GS} {dst:Option Tmp} {ty:TypeId} {pos:String} {af:Array Edge} {gd:Option (Nat×Bool)} {x y:Operand} {m:List (α×β)} {a:α} {ek:α→Value} {ev:β→Value}
theorem zef {t k e r:Nat}{zv:Value}(z v:β)(b:Bool)(hz:ev z=zv)(hv:(ZV m a).getD z=v)(hb:(ZV m a).isSome=b)(hT:MpT C.P t k e zv)(hK:Kk C.P k ek)(hx:QH S E x=some (.map (some r)))(hy:QH S E y=some (ek a))(hm:YB S=true→Mem I loc r (YC ek ev m)):
  Za C S E I loc ⟨dst,.lookup t x y true,ty,pos,af,gd⟩ (.tuple #[ev v,.bool b]):=by
 have:=Z6 (C:=C) (S:=S) (dst:=dst) (ty:=ty) (pos:=pos) (af:=af) (gd:=gd) hT hK hx hy hm
 subst hv;subst hb;subst hz
 cases h:ZV m a with
 | none=>rw [h] at this;exact this
 | some v=>rw [h] at this;exact this
end
theorem zm4 {xs:List Lm}(h:xs.length>512):zhJ xs=2:=by unfold zhJ;rw [if_pos h]
theorem X0 {xs:List Lm}{k:Nat}{x:Lm}(h:¬xs.length>512)(hx:xs[k]? =some x)(hb:ze5 (xs.take k) x=true):zhJ xs=340:=by
 unfold zhJ;rw [if_neg h,if_pos]
 rw [List.any_eq_true]
 refine ⟨k,List.mem_range.2 (List.getElem?_eq_some_iff.1 hx).1,?_⟩
 rw [List.getD_eq_getElem?_getD,hx];exact hb
theorem zqC {xs:List Lm}(h:¬xs.length>512)(ha:∀ k x,k<xs.length→xs[k]? =some x→ze5 (xs.take k) x=false):zhJ xs=0:=by
 unfold zhJ;rw [if_neg h,if_neg]
 rw [List.any_eq_true]
 rintro ⟨k,hk,hb⟩
 have hk:=List.mem_range.1 hk
 have hx:xs[k]? =some (xs[k]):=List.getElem?_eq_getElem hk
 have:=ha k _ hk hx
 rw [List.getD_eq_getElem?_getD,hx] at hb
 rw [show ((some xs[k]:Option Lm).getD V1)=xs[k] from rfl,this] at hb;cases hb
theorem zuR {pre:List Lm}{x:Lm}(h:zt8 (zdp pre) x=true):ze5 pre x=true:=by simp [ze5,h]
theorem ztS {pre:List Lm}{x:Lm}(h:ztB x=true):ze5 pre x=true:=by simp [ze5,h]
theorem zuz {pre:List Lm}{x:Lm}(h:zs5 x=true):ze5 pre x=true:=by simp [ze5,h]
theorem zuv {pre:List Lm}{x:Lm}(h:zr4 (zlN pre x).isSome ((ZV (rpM pre) x.ends).getD false) ((zlN pre x).getD V1) x=true):ze5 pre x=true:=by simp [ze5,h]
theorem zqh {pre:List Lm}{x:Lm}(h1:zt8 (zdp pre) x=false)(h2:ztB x=false)(h3:zs5 x=false)(h4:zr4 (zlN pre x).isSome ((ZV (rpM pre) x.ends).getD false) ((zlN pre x).getD V1) x=false):ze5 pre x=false:=by simp [ze5,h1,h2,h3,h4]
theorem ZD {α:Type}{xs:List α}{k:Nat}{x:α}(h:xs[k]? =some x):xs.take (k+1)=xs.take k++[x]:=by rw [List.take_add_one,h];rfl
theorem KD {α:Type}{P:Nat→α→Prop}{xs:List α}{k:Nat}{x:α}(hx:xs[k]? =some x)(hall:∀ j y,j<k→xs[j]? =some y→P j y)(hk:P k x):∀ j y,j<k+1→xs[j]? =some y→P j y:=fun j y hj hy=>by
 rcases Nat.lt_or_ge j k with h | h
 ·
  exact hall j y h hy
 ·
  obtain rfl:j=k:=by omega
  rw [hx] at hy;cases hy;exact hk
end Go.Proofs.YtjblkbkmblkgoaaGreat
end
namespace Go.Kn
section
open Go
section
variable {g:World} {I I' H:Qv} {loc loc' L K A B:Loc} {w w':World}
theorem St.join2 (h:St g I (Jt H L) K w)(hn:(L.map (·.1)).Nodup)(hd:∀ b o,(b,o)∈L→H b=none):St g I H (K++L) w:=by
 have h':=h.swap hn hd
 have hK:∀ b o,(b,o)∈K→H b=none:=fun b o hm=>(K7 (h.sepIL b o hm).2).1
 refine ⟨h.os,h.tape,h.out,h.size,h.imm,fun b o e=>?_,fun b o hm=>?_,fun b=>?_,fun b o hm=>?_,?_⟩
 ·
  refine h.frm b o ?_
  rw [Wl (fun p hp=>by rw [hd b p hp] at e;cases e)];exact e
 ·
  rcases List.mem_append.1 hm with hm | hm
  ·
   exact h.own b o hm
  ·
   exact h'.own b o hm
 ·
  rcases h.sepIH b with e | e
  ·
   exact .inl e
  ·
   exact .inr (K7 e).1
 ·
  rcases List.mem_append.1 hm with hm | hm
  ·
   exact ⟨(h.sepIL b o hm).1,hK b o hm⟩
  ·
   exact ⟨(h'.sepIL b o hm).1,hd b o hm⟩
 ·
  rw [List.map_append,List.nodup_append]
  refine ⟨h.nodup,hn,fun x hx y hy e=>?_⟩
  subst e
  obtain ⟨⟨b,o⟩,hm,rfl⟩:=List.mem_map.1 hx
  obtain ⟨⟨c,p⟩,hm',e⟩:=List.mem_map.1 hy
  simp only at e;subst e
  exact (K7 (h.sepIL _ _ hm).2).2 p hm'
theorem St.permL (h:St g I H loc w)(hp:loc'.Perm loc):St g I H loc' w:=h.perm (fun _p=>hp.mem_iff) ((hp.map (·.1)).nodup_iff.2 h.nodup)
end
theorem zbZ {A B C:Loc}(h:Kg B C):Kg (A++B) (A++C):=by
 induction A with
 | nil=>exact h
 | cons x l ih=>exact .keep ih
def zjS {α:Type}(g:World)(Z:Loc)(Jc:List α→Qv→Qv→Loc→Prop)(Jx:Code→List α→Qv→Qv→Loc→Prop)(pre:List α):Exit→Act→World→Prop
 | .normal,_,w=>∃ I H L,Jc pre I H L∧St g I H (L++Z) w
 | .ret,_,w=>∃ I H L,Jx .ret pre I H L∧St g I H (L++Z) w
 | .exit id,_,w=>∃ I H L,Jx (.exit id) pre I H L∧St g I H (L++Z) w
 | _,_,_=>False
section
variable {α:Type} {C:Cx} {Q:Exit→Act→World→Prop} {E E':Env} {I I':Qv} {loc loc' L Z R:Loc}
variable {Jc:List α→Qv→Qv→Loc→Prop} {Jx:Code→List α→Qv→Qv→Loc→Prop} {pre:List α}
theorem zdT (h:Jc pre I C.H L)(hs:Kg (L++Z) loc):At C (zjS C.g Z Jc Jx pre) .normal E I loc:=fun _ _ _ hw=>⟨I,C.H,L,h,hw.subL hs⟩
end
section
variable {α:Type} {P:Program} {N:Nat} {g:World} {p:Nat} {assign body:Code} {f:FuncId} {cap:List Value} {rel:Value→α→Qv→Prop} {xs:List α} {E:Env} {I H:Qv} {L B:Loc}
def ztL (fn:FuncId)(tmps:Array Value)(p:Nat)(assign body:Code)(df:Nat)(st:LoopState)(pd:Option Code):Obj:=.loop {state:=st,pending:=pd,fn,tmps,params:= #[p],assign,body,defers:=df}
end
section
variable {α:Type} {P:Program} {N:Nat} {g:World} {H:Qv} {Q:Exit→Act→World→Prop} {gop:Operand} {p:Nat} {assign body:Code} {f:FuncId} {cap:List Value} {rel:Value→α→Qv→Prop} {xs:List α} {E:Env} {I:Qv} {L:Loc}
end
/-! ### A loop whose rounds may leave marks and turn the frame -/
section
variable {P:Program} {r:Option Nat} {N:Nat} {g:World} {H:Qv} {Q:Exit→Act→World→Prop} {E E':Env} {I I':Qv} {loc loc' L R:Loc} {ms:List Nat}
end
end
section
open Go
section
variable {C:Cx} {Q:Exit→Act→World→Prop} {E G:Env} {I I' I0:Qv} {loc loc' loc0 L R:Loc} {ops:Array Oper} {rest:List Oper} {S:GS}
variable {dst:Option Nat} {d:Nat} {ty:TypeId} {pos:String} {af:Array Edge} {gd:Option (Nat×Bool)} {x y z:Operand} {a b c:Int}
def ziv (u:Value)(want:Bool):Bool:=match u with | .bool b=>b != want | _=>true
theorem za2 {j dj:Nat}{want:Bool}{oj o:Oper}{u:Value}{N:Nat}{D:List Deferred}{a:Act}(hg:o.guard=some (j,want))(hj:ops[j]? =some oj)(hd:oj.dst=some dj)(ha:Kl N D E a)(hl:Vz E dj=some u)(hu:ziv u want=true):Region.wanted o (yielded ops a.tmps)=false:=by
 have h:=ha.env _ _ hl
 simp only [Region.wanted,hg]
 cases u with
 | bool b0=>
  rw [Ug hj hd h]
  cases b0<;>cases want<;>first | rfl | cases hu
 | _=>
  have hy:yielded ops a.tmps j=none:=by
   unfold yielded
   simp only [hj,Option.bind_some,hd]
   cases e:a.tmps[dj]? with
   | none=>rfl
   | some v=>
    simp [e] at h;rw [h]
  rw [hy];rfl
theorem Vu {op:Op}{j dj:Nat}{want:Bool}{oj:Oper}{u:Value}(hj:ops[j]? =some oj)(hd:oj.dst=some dj)(hl:Vz E dj=some u)(hu:ziv u want=true)(hN:Nat.blt d C.N=true)
  (h:XO C Q ops rest [] ((d,undef)::E) I loc):XO C Q ops (⟨some d,op,ty,pos,af,some (j,want)⟩::rest) [] E I loc:=by
 intro a w ha hg hw
 simp only [wpListIn]
 rw [za2 (o:=⟨some d,op,ty,pos,af,some (j,want)⟩) rfl hj hd ha hl hu]
 simp only [Bool.false_eq_true,if_false]
 exact ⟨fun _ _=>trivial,h _ _ (ha.put hN undef) trivial hw⟩
theorem znH (i:Nat){j dj fuel:Nat}{want:Bool}{oj:Oper}{listed:Array Bool}{op:Op}{u:Value}(hi:ops[i]? =some ⟨some d,op,ty,pos,af,some (j,want)⟩)(hj:ops[j]? =some oj)(hd:oj.dst=some dj)(hlk:Vz E dj=some u)(hu:ziv u want=true)
  (hdf:∀ c,op≠ .defer c)(hN:Nat.blt d C.N=true)
  (hs:Region.noSelect ops=true)(hfr:Region.free .any ops listed i=true)(hr:(Region.ready .any ops listed).contains i=true)(hQ:YT Q)(hI:HLe I0 I)(hl:Kg loc0 loc)
  (h:XD C Q ops I0 loc0 fuel (listed.setIfInBounds i true) [] ((d,undef)::E) I loc):XD C Q ops I0 loc0 (fuel+1) listed [] E I loc:=by
 intro a w ha hg hw
 have hp:=ha.put hN undef
 refine Y4 (v:=undef) hi hdf (Region.noSelect_spec hs) (fun c a w=>hQ c a d _ w) fuel listed a w (Region.free_spec hi hfr) (by simpa using hr) ?_ ((hw.mono hI).subL hl) (h _ _ hp trivial hw)
 exact .inr ⟨by rw [za2 (o:=⟨some d,op,ty,pos,af,some (j,want)⟩) rfl hj hd ha hlk hu],rfl⟩
theorem zW (i dj:Nat){j fuel:Nat}{want:Bool}{oj:Oper}{listed:Array Bool}{op:Op}{u:Value}(hI:HLe I0 I)(h:XD C Q ops I0 loc0 fuel (listed.setIfInBounds i true) [] ((d,undef)::E) I loc)(hi:ops[i]? =some ⟨some d,op,ty,pos,af,some (j,want)⟩:=by exact rfl)(hj:ops[j]? =some oj:=by exact rfl)(hd:oj.dst=some dj:=by exact rfl)(hlk:Vz E dj=some u:=by exact rfl)(hu:ziv u want=true:=by exact rfl)
  (hdf:∀ c,op≠ .defer c:=by (intro c e;cases e))(hN:Nat.blt d C.N=true:=by exact rfl)(hs:Region.noSelect ops=true:=by kernel_rfl)(hfr:Region.free .any ops listed i=true:=by kernel_rfl)(hr:(Region.ready .any ops listed).contains i=true:=by kernel_rfl)(hQ:YT Q:=by exact QK)(hl:Kg loc0 loc:=by repeat (first | exact .refl | exact Qe | refine .keep ?_ | refine .drop ?_ | refine Qf ?_)):XD C Q ops I0 loc0 (fuel+1) listed [] E I loc:=znH i hi hj hd hlk hu hdf hN hs hfr hr hQ hI hl h
end
end
end Go.Kn
namespace Go.Proofs.YtjblkbkmblkgoaaGreat
section
open Go Go.Kn Go.Proofs
theorem zfu:AgT Tryz.prog 224 4:=.of (by kernel_rfl)
theorem zoZ:AgT Tryz.prog 225 28:=.of (by kernel_rfl)
theorem zcC:ArT Tryz.prog 225 7 224 4:=.of (by kernel_rfl)
theorem zkD:QP Tryz.prog 224 1 1:=.of (by kernel_rfl)
theorem zk7:QP Tryz.prog 224 2 2:=.of (by kernel_rfl)
theorem zed:QP Tryz.prog 224 3 3:=.of (by kernel_rfl)
theorem XV:QP Tryz.prog 30 0 0:=.of (by kernel_rfl)
theorem XS:QP Tryz.prog 30 1 1:=.of (by kernel_rfl)
theorem zcN:QP Tryz.prog 30 2 2:=.of (by kernel_rfl)
theorem zcO:Fun Tryz.prog 158:=.of Tryz.func158 (by kernel_rfl) (by kernel_rfl)
theorem zk9:Fun Tryz.prog 159:=.of Tryz.func159 (by kernel_rfl) (by kernel_rfl)
theorem WV:PlT Tryz.prog 224 #[(0,1),(1,1),(2,1),(3,1)] (.agg #[.nilFunc,(.int .i64 0),(.int .i64 0),(.int .i64 0)]):=⟨.of (by kernel_rfl),by kernel_rfl,fun w=>by kernel_rfl⟩
theorem zeF:SzT Tryz.prog 224 4:=.of (by kernel_rfl)
theorem zqP:SzT Tryz.prog 225 28:=.of (by kernel_rfl)
theorem ziC:Ve Tryz.prog 224 (.agg #[.nilFunc,(.int .i64 0),(.int .i64 0),(.int .i64 0)]):=.of (by kernel_rfl)
theorem zn6:Ve Tryz.prog 225 (.agg #[.nilFunc,(.int .i64 0),(.int .i64 0),(.int .i64 0),.nilFunc,(.int .i64 0),(.int .i64 0),(.int .i64 0),.nilFunc,(.int .i64 0),(.int .i64 0),(.int .i64 0),.nilFunc,(.int .i64 0),(.int .i64 0),(.int .i64 0),.nilFunc,(.int .i64 0),(.int .i64 0),(.int .i64 0),.nilFunc,(.int .i64 0),(.int .i64 0),(.int .i64 0),.nilFunc,(.int .i64 0),(.int .i64 0),(.int .i64 0)]):=.of (by kernel_rfl)
theorem zcT {I:Qv}{av:Option Addr}{n c:Nat}{xs:List Int}(hS:Sl I 1 Yg av n c xs)(hn:n≤100000)(lo hi:Int):Yb Tryz.prog 158 [.int .i64 lo,.int .i64 hi,.slice av n c] I (.bool (zfi lo hi xs)):=by
 intro g H w hw
 refine qe Tryz.func158 Tryz.ntmps158 hw ?_
 have hln:=hS.len
 refine zR (zA (zN (Qr (zR ?_))))
 refine zM ?_
 refine zQ Yl ?_
 refine zM (zN (QE ?_))
 refine zU [(0,_),(1,_),(9,_),(10,_)] (fun T L0 mz E I' loc'=>∃ (k:Nat),mz=n-k∧E=(11,.int .i64 k)::T∧I=I'∧L0=loc'∧k≤n∧zfi lo hi (xs.take k)=true) ?_ (h:=⟨0,rfl,rfl,rfl,rfl,Nat.zero_le _,rfl⟩)
 rintro mz E I' loc' ⟨k,rfl,rfl,rfl,rfl,hk,hall⟩
 refine zR (zC (zN (Qr ?_)))
 refine zI ?_ ?_<;>intro hc12
 ·
  have hlt_k:k<n:=by have h:=hc12;simp at h;omega
  obtain ⟨x,hx⟩:∃ x,xs[k]? =some x:=⟨_,List.getElem?_eq_getElem (by omega)⟩
  refine Qw (Qc (Qr (QE (zR ?_))))
  refine zV (zX Yl hS) ?_
  refine zV (Qd rfl Qy (fun hg=>by exact zwJ hS hx rfl)) ?_
  refine zA ?_
  refine zN (zR ?_)
  refine zM ?_
  refine zM ?_
  refine zC ?_
  refine zM ?_
  refine Ze 3 rfl rfl rfl ?_
  refine zJ (Qh rfl) ?_
  refine zJ (Qh rfl) ?_
  refine zJ (QV rfl rfl rfl) ?_
  refine ZP rfl rfl rfl rfl rfl ?_
  refine zN ?_
  refine zI ?_ ?_<;>intro hc22
  ·
   refine zR (zA (zN (QF (Qz (Qi (Qi (Qz ?_)))))))
   refine Qi ?_
   first
   | exact zr rfl rfl (by rw [show zfi lo hi xs=false from by unfold zfi;rw [←List.take_append_drop (k+1) xs,List.all_append,List.take_add_one,hx,List.all_append];simp only [Option.toList,List.all_cons,List.all_nil];rw [show (decide (x<lo)||decide (x>hi))=true from hc22];simp])
  refine Qw (Qp (Qc (Qk (zB ?_))))
  refine zM (Qb ?_)
  exact zm (h:=⟨n-(k+1),by omega,k+1,rfl,rfl,rfl,rfl,by omega,by unfold zfi at hall ⊢;rw [List.take_add_one,hx,List.all_append,hall];simp only [Option.toList,List.all_cons,List.all_nil,Bool.and_true,Bool.true_and];rw [show (decide (x<lo)||decide (x>hi))=false from hc22];rfl⟩)
 have hge_k:n≤k:=by have h:=hc12;simp at h;omega
 have hke:xs.take k=xs:=List.take_of_length_le (by omega)
 rw [hke] at hall
 refine ZC (Qt (Qt (QD (Qc (zR (zA (zN ?_)))))))
 refine QF ?_
 exact zr rfl rfl (by rw [hall])
def zev:List Value:=[.nilFunc,.int .i64 0,.int .i64 0,.int .i64 0,.func (.func 210) #[] #[],.int .i64 1,.int .i64 3,.int .i64 2,.func (.func 211) #[] #[],.int .i64 1,.int .i64 1048576,.int .i64 2,.func (.func 212) #[] #[],.int .i64 1,.int .i64 16,.int .i64 0,.func (.func 213) #[] #[],.int .i64 0,.int .i64 16,.int .i64 0,.func (.func 214) #[] #[],.int .i64 0,.int .i64 500,.int .i64 0,.func (.func 215) #[] #[],.int .i64 0,.int .i64 1048576,.int .i64 0]
theorem zl3 {ck:Int}(h:zb1 ck 1 6=true):∃ fn:Nat,((zev.drop (ck.toNat*4)).take 4)=[.func (.func fn) #[] #[],.int .i64 (Wh ck).1,.int .i64 (Wh ck).2.1,.int .i64 (Wh ck).2.2]:=by
 rcases six h with rfl | rfl | rfl | rfl | rfl | rfl<;>exact ⟨_,rfl⟩
theorem zix (I:Qv):Yb Tryz.prog 159 [] I (.agg zev.toArray):=by
 intro g H w hw
 refine qe Tryz.func159 Tryz.ntmps159 hw ?_
 refine zR ?_
 refine Qs zn6 rfl rfl (fun b_0=>?_)
 refine zN (zR ?_)
 refine zV (Q0 (ps:=[(0,_),(1,_),(2,_),(3,_)]) [_,_,_,_] WV rfl rfl) ?_
 refine zV (Q0 (ps:=[(0,_),(1,_),(2,_),(3,_)]) [_,_,_,_] WV rfl rfl) ?_
 refine zV (Q0 (ps:=[(0,_),(1,_),(2,_),(3,_)]) [_,_,_,_] WV rfl rfl) ?_
 refine zV (Q0 (ps:=[(0,_),(1,_),(2,_),(3,_)]) [_,_,_,_] WV rfl rfl) ?_
 refine zV (Q0 (ps:=[(0,_),(1,_),(2,_),(3,_)]) [_,_,_,_] WV rfl rfl) ?_
 refine zV (Q0 (ps:=[(0,_),(1,_),(2,_),(3,_)]) [_,_,_,_] WV rfl rfl) ?_
 refine zV (Vs (ps:=[(1,_),(2,_),(3,_),(4,_),(5,_),(6,_)]) [_,_,_,_,_,_,_,_,_,_,_,_,_,_,_,_,_,_,_,_,_,_,_,_,_,_,_,_] zcC zn6 rfl rfl) ?_
 refine zh zqP ?_
 refine zN (QF ?_)
 exact Y6 rfl rfl zoZ Cells.g0 rfl (fun w hw=>⟨rfl,hw.drop⟩)
theorem zsa (I:Qv)(ck cl cn:Int):Yb Tryz.prog 93 [.agg #[.int .i64 ck,.int .i64 cl,.int .i64 cn]] I (.bool (zoM ck cl cn)):=by
 intro g H w hw
 refine qe Tryz.func93 Tryz.ntmps93 hw ?_
 have hIc:=zwQ I
 refine zR ?_
 refine Zd rfl rfl rfl (fun b_1=>?_)
 refine zA (zN (Qr (zR ?_)))
 refine zF XV ?_
 refine zL Qy ?_
 refine Ql (ps:=[(0,_)]) (m:=[Yg ck]) Y9 rfl (.cons rfl (.nil)) rfl (by simp [Zw]) (by decide) (by decide) rfl rfl (fun b_6=>?_)
 refine Q9 (by repeat (first | exact Ya.here | apply Ya.there)) (fun I1 hI1 hb1=>?_)
 have hIc:=hIc.trans hI1
 have hA:=Sl.lit ([ck]:List Int) rfl Zw (show I1 b_6=some (Obj.cells (([ck]:List Int).flatMap Yg).toArray 3 (0,0)) from hb1)
 refine qcV (vs:=[_,_,_]) rfl zcO (zcT hA (by simp) 1 6) ?_
 rw [WI]
 refine zO (zN ?_)
 refine zI ?_ ?_<;>intro hc8
 ·
  have hck:zb1 ck 1 6=false:=by simpa using hc8
  refine zR (zA (zN (QF (Qi ?_))))
  exact zp hIc rfl rfl (by rw [zpO hck])
 have hck:zb1 ck 1 6=true:=by simpa using hc8
 obtain ⟨fn,hrow⟩:=zl3 hck
 have h16:=six hck
 refine Qw (Qc ?_)
 refine zY [(1,_)] (fun T L0 E I' loc'=>∃ (p3:Nat),E=(3,ZM p3)::T∧I1=I'∧[(p3,.cells #[.func (.func fn) #[] #[],.int .i64 (Wh ck).1,.int .i64 (Wh ck).2.1,.int .i64 (Wh ck).2.2] 224 (0,0)),(b_1,.cells #[.int .i64 ck,.int .i64 cl,.int .i64 cn] 30 (0,0))]=loc'∧True) ?_ ?_
 ·
  have hD:=zwQ I1
  refine ZK ?_
  refine QZ I1 [(b_1,.cells #[.int .i64 ck,.int .i64 cl,.int .i64 cn] 30 (0,0))] mixed ?_
  refine zT 1 rfl (Qa rfl XV) hD ?_
  refine zT 2 rfl (Qd rfl Qy (fun hg=>by exact QG.h0 rfl)) hD ?_
  refine Q8 0 4 rfl rfl (by kernel_rfl) ?_ ?_
  ·
   refine qcV (vs:=[]) rfl zk9 (zix _) ?_
   refine Qb ?_
   refine zD hD ?_
   refine Q8 3 4 rfl rfl (by kernel_rfl) ?_ ?_
   ·
    refine zV (Jv (WR rfl rfl zcC zfu (fun hg=>by omega)) (congrArg (fun l:List Value=>Value.agg l.toArray) hrow)) ?_
    refine Qb ?_
    refine zD hD ?_
    refine qd 4 rfl ?_
    refine Qs ziC rfl rfl (fun b_3=>?_)
    refine Qb ?_
    refine zD hD ?_
    refine qd 5 rfl ?_
    refine zh zeF ?_
    refine Qb ?_
    refine zD hD ?_
    refine Qm (by kernel_rfl) ?_
    refine QA ?_
    exact zm (h:=⟨_,rfl,rfl,rfl,trivial⟩)
   refine Qs ziC rfl rfl (fun b_3=>?_)
   refine Qb ?_
   refine zD hD ?_
   refine qd 3 rfl ?_
   refine zV (Jv (WR rfl rfl zcC zfu (fun hg=>by omega)) (congrArg (fun l:List Value=>Value.agg l.toArray) hrow)) ?_
   refine Qb ?_
   refine zD hD ?_
   refine qd 5 rfl ?_
   refine zh zeF ?_
   refine Qb ?_
   refine zD hD ?_
   refine Qm (by kernel_rfl) ?_
   refine QA ?_
   exact zm (h:=⟨_,rfl,rfl,rfl,trivial⟩)
  refine Qs ziC rfl rfl (fun b_3=>?_)
  refine Qb ?_
  refine zD hD ?_
  refine qd 0 rfl ?_
  refine qcV (vs:=[]) rfl zk9 (zix _) ?_
  refine Qb ?_
  refine zD hD ?_
  refine qd 3 rfl ?_
  refine zV (Jv (WR rfl rfl zcC zfu (fun hg=>by omega)) (congrArg (fun l:List Value=>Value.agg l.toArray) hrow)) ?_
  refine Qb ?_
  refine zD hD ?_
  refine qd 5 rfl ?_
  refine zh zeF ?_
  refine Qb ?_
  refine zD hD ?_
  refine Qm (by kernel_rfl) ?_
  refine QA ?_
  exact zm (h:=⟨_,rfl,rfl,rfl,trivial⟩)
 rintro E I' loc' ⟨p3,rfl,rfl,rfl,_⟩
 refine Qr ?_
 cases hlb:zb1 cl 0 (Wh ck).2.2
 ·
  refine Qk ?_
  refine zF zed ?_
  refine zL Qy ?_
  refine zF XS ?_
  refine zL Qy ?_
  refine Ql (ps:=[(0,_)]) (m:=[Yg cl]) Y9 rfl (.cons rfl (.nil)) rfl (by simp [Zw]) (by decide) (by decide) rfl rfl (fun b_17=>?_)
  refine Q9 (by repeat (first | exact Ya.here | apply Ya.there)) (fun I3 hI3 hb3=>?_)
  have hIc:=hIc.trans hI3
  have hB:=Sl.lit ([cl]:List Int) rfl Zw (show I3 b_17=some (Obj.cells (([cl]:List Int).flatMap Yg).toArray 3 (0,0)) from hb3)
  refine qcV (vs:=[_,_,_]) rfl zcO (zcT hB (by simp) 0 _) ?_
  rw [WI]
  rw [hlb]
  refine zM ?_
  refine Vu (dj:=19) rfl rfl rfl rfl rfl ?_
  refine Vu (dj:=19) rfl rfl rfl rfl rfl ?_
  refine Vu (dj:=19) rfl rfl rfl rfl rfl ?_
  refine Vu (dj:=19) rfl rfl rfl rfl rfl ?_
  refine Vu (dj:=19) rfl rfl rfl rfl rfl ?_
  refine Vu (dj:=19) rfl rfl rfl rfl rfl ?_
  refine Vu (dj:=19) rfl rfl rfl rfl rfl ?_
  refine Vu (dj:=19) rfl rfl rfl rfl rfl ?_
  refine zV (Kh rfl rfl rfl) ?_
  refine zA (zN (QF ?_))
  first
  | exact zp hIc rfl rfl (by rw [zkO hck hlb]<;>rfl)
 refine Qk ?_
 refine zF zed ?_
 refine zL Qy ?_
 refine zF XS ?_
 refine zL Qy ?_
 refine Ql (ps:=[(0,_)]) (m:=[Yg cl]) Y9 rfl (.cons rfl (.nil)) rfl (by simp [Zw]) (by decide) (by decide) rfl rfl (fun b_17=>?_)
 refine Q9 (by repeat (first | exact Ya.here | apply Ya.there)) (fun I4 hI4 hb4=>?_)
 have hIc:=hIc.trans hI4
 have hB:=Sl.lit ([cl]:List Int) rfl Zw (show I4 b_17=some (Obj.cells (([cl]:List Int).flatMap Yg).toArray 3 (0,0)) from hb4)
 refine qcV (vs:=[_,_,_]) rfl zcO (zcT hB (by simp) 0 _) ?_
 rw [WI]
 rw [hlb]
 refine zM ?_
 refine Q2 (dj:=19) rfl rfl rfl ?_
 refine zF zkD ?_
 refine Q2 (dj:=19) rfl rfl rfl ?_
 refine zL Qy ?_
 refine Q2 (dj:=19) rfl rfl rfl ?_
 refine zF zk7 ?_
 refine Q2 (dj:=19) rfl rfl rfl ?_
 refine zL Qy ?_
 refine Q2 (dj:=19) rfl rfl rfl ?_
 refine zF zcN ?_
 refine Q2 (dj:=19) rfl rfl rfl ?_
 refine zL Qy ?_
 refine Q2 (dj:=19) rfl rfl rfl ?_
 refine Ql (ps:=[(0,_)]) (m:=[Yg cn]) Y9 rfl (.cons rfl (.nil)) rfl (by simp [Zw]) (by decide) (by decide) rfl rfl (fun b_26=>?_)
 refine Q9 (by repeat (first | exact Ya.here | apply Ya.there)) (fun I5 hI5 hb5=>?_)
 have hIc:=hIc.trans hI5
 have hC:=Sl.lit ([cn]:List Int) rfl Zw (show I5 b_26=some (Obj.cells (([cn]:List Int).flatMap Yg).toArray 3 (0,0)) from hb5)
 refine Q2 (dj:=19) rfl rfl rfl ?_
 refine qcV (vs:=[_,_,_]) rfl zcO (zcT hC (by simp) _ _) ?_
 refine zV (Zz rfl rfl rfl) ?_
 refine zA (zN (QF ?_))
 first
 | exact zp hIc rfl rfl (by rw [znw hck hlb,←WI];rfl)
end
section
open Go Go.Kn Go.Proofs
theorem zov:AgT Tryz.prog 30 3:=.of (by kernel_rfl)
theorem zsX:EqT Tryz.prog 30 [.int,.int,.int]:=⟨by kernel_rfl,by kernel_rfl,by kernel_rfl,by kernel_rfl⟩
theorem Jz:QP Tryz.prog 32 0 0:=.of (by kernel_rfl)
theorem Um:QP Tryz.prog 32 1 1:=.of (by kernel_rfl)
theorem Jw:QP Tryz.prog 32 2 2:=.of (by kernel_rfl)
theorem XW:QP Tryz.prog 32 3 3:=.of (by kernel_rfl)
theorem X6:QP Tryz.prog 32 4 4:=.of (by kernel_rfl)
theorem Wg:QP Tryz.prog 32 5 5:=.of (by kernel_rfl)
theorem Uw:QP Tryz.prog 32 6 6:=.of (by kernel_rfl)
theorem zot:Fun Tryz.prog 90:=.of Tryz.func90 (by kernel_rfl) (by kernel_rfl)
theorem zrZ:Fun Tryz.prog 93:=.of Tryz.func93 (by kernel_rfl) (by kernel_rfl)
theorem Zf:MpT Tryz.prog 136 3 4 (.bool false):=⟨by kernel_rfl,.of (by kernel_rfl)⟩
theorem zlt:PlT Tryz.prog 30 #[(0,1),(1,1),(2,1)] (.agg #[(.int .i64 0),(.int .i64 0),(.int .i64 0)]):=⟨.of (by kernel_rfl),by kernel_rfl,fun w=>by kernel_rfl⟩
theorem zkG:ScT Tryz.prog 136:=.of (by kernel_rfl)
theorem zlx (I:Qv)(n lo hi:Int):Yb Tryz.prog 90 [.int .i64 n,.int .i64 lo,.int .i64 hi] I (.bool (zb1 n lo hi)):=by
 intro g H w hw
 refine qe Tryz.func90 Tryz.ntmps90 hw ?_
 refine zR (zA ?_)
 refine zN (zR ?_)
 refine zM ?_
 refine zM ?_
 refine zC ?_
 refine zM ?_
 refine QL 3 rfl rfl rfl ?_
 refine zK (Qh rfl) ?_
 refine zK (Qh rfl) ?_
 refine zK (QV rfl rfl rfl) ?_
 refine QU rfl rfl rfl rfl rfl ?_
 refine zA (zN (QF ?_))
 exact QR rfl rfl (fun w hw=>⟨rfl,hw.drop⟩)
theorem zty {I:Qv}{b7:Nat}{x:Lm}(hX:I b7=some (.cells (ZL x).toArray 32 (0,0)))(b5:Nat)(last:Int):Vl Tryz.prog 89 [ZM b7,ZM b5] I [(b5,.cells #[.int .i64 last] 3 (0,0))] (fun v I' L'=>v= .bool (zt8 last x)∧I'=I∧L'=[(b5,.cells #[.int .i64 last] 3 (0,0))]):=by
 intro g H w hw
 refine qe Tryz.func89 Tryz.ntmps89 hw ?_
 refine zR (zA ?_)
 refine zN (zR ?_)
 refine zF Jz ?_
 refine zV (Qd rfl Qy (fun hg=>by exact QG.imm hX rfl)) ?_
 refine zL Qy ?_
 refine zC ?_
 refine zM ?_
 refine Ze 4 rfl rfl rfl ?_
 refine zJ (Qa rfl Jz) ?_
 refine zJ (Qd rfl Qy (fun hg=>by exact QG.imm hX rfl)) ?_
 refine zJ (QV rfl rfl rfl) ?_
 refine ZP rfl rfl rfl rfl rfl ?_
 refine zM ?_
 refine Ze 9 rfl rfl rfl ?_
 refine zJ (Qa rfl Um) ?_
 refine zJ (Qd rfl Qy (fun hg=>by exact QG.imm hX rfl)) ?_
 refine qf (vs:=[_,_,_]) rfl zot (fun hg=>zlx _ _ _ _) ?_
 refine zJ (Yz rfl) ?_
 refine ZP rfl rfl rfl rfl rfl ?_
 refine zA (zN (QF ?_))
 exact QR rfl rfl (fun w hw=>⟨_,I,_,rfl,zwQ _,hw,rfl,rfl,rfl⟩)
theorem zsl {I:Qv}{b7:Nat}{x:Lm}(hX:I b7=some (.cells (ZL x).toArray 32 (0,0))):Yb Tryz.prog 91 [ZM b7] I (.bool (ztB x)):=by
 intro g H w hw
 refine qe Tryz.func91 Tryz.ntmps91 hw ?_
 refine zR (zA ?_)
 refine zN (zR ?_)
 refine zF XW ?_
 refine zV (Qd rfl Qy (fun hg=>by exact QG.imm hX rfl)) ?_
 refine zC ?_
 refine zM ?_
 refine Ze 3 rfl rfl rfl ?_
 refine zJ (Qa rfl XW) ?_
 refine zJ (Qd rfl Qy (fun hg=>by exact QG.imm hX rfl)) ?_
 refine zJ (Qa rfl X6) ?_
 refine zJ (Qd rfl Qy (fun hg=>by exact QG.imm hX rfl)) ?_
 refine zJ (QV rfl rfl rfl) ?_
 refine ZP rfl rfl rfl rfl rfl ?_
 refine zM ?_
 refine Ze 10 rfl rfl rfl ?_
 refine zJ (Qa rfl X6) ?_
 refine zJ (Qd rfl Qy (fun hg=>by exact QG.imm hX rfl)) ?_
 refine zJ (QV rfl rfl rfl) ?_
 refine ZP rfl rfl rfl rfl rfl ?_
 refine zM ?_
 refine Ze 15 rfl rfl rfl ?_
 refine zJ (Qa rfl Wg) ?_
 refine zJ (Qd rfl Qy (fun hg=>by exact QG.imm hX rfl)) ?_
 refine qf (vs:=[_,_,_]) rfl zot (fun hg=>zlx _ _ _ _) ?_
 refine zJ (Yz rfl) ?_
 refine ZP rfl rfl rfl rfl rfl ?_
 refine zA (zN (QF ?_))
 exact QR rfl rfl (fun w hw=>⟨rfl,hw.drop⟩)
theorem zet {I:Qv}{loc:Go.Kn.Loc}{b7:Nat}{x:Lm}(hX:I b7=some (.cells (ZL x).toArray 32 (0,0))):Cells I loc b7 (0+6) [.int .i64 x.ck,.int .i64 x.cl,.int .i64 x.cn]:=by
 intro j v hj
 match j,hj with
 | 0,h=>cases h;exact QG.imm hX rfl
 | 1,h=>cases h;exact QG.imm hX rfl
 | 2,h=>cases h;exact QG.imm hX rfl
theorem ztG {I:Qv}{b7:Nat}{x:Lm}(hX:I b7=some (.cells (ZL x).toArray 32 (0,0))):Yb Tryz.prog 92 [ZM b7] I (.bool (zs5 x)):=by
 intro g H w hw
 refine qe Tryz.func92 Tryz.ntmps92 hw ?_
 refine zR (zA ?_)
 refine zN (zR ?_)
 refine zF Uw ?_
 refine zV (Qg rfl zov (fun hg=>zet hX) rfl) ?_
 refine qcV (vs:=[_]) rfl zrZ (zsa _ _ _ _) ?_
 refine zO ?_
 refine zM ?_
 refine QL 4 rfl rfl rfl ?_
 refine zK (Qa rfl Uw) ?_
 refine zK (Qg rfl zov (fun hg=>by exact zet hX) rfl) ?_
 refine zK (Q0 (ps:=[]) [_,_,_] zlt rfl rfl) ?_
 refine zK (zsp rfl rfl zsX rfl) ?_
 refine zK (Qh rfl) ?_
 refine Ze 9 rfl rfl rfl ?_
 refine zJ (Qa rfl Jw) ?_
 refine zJ (Qd rfl Qy (fun hg=>by exact QG.imm hX rfl)) ?_
 refine zJ (QV rfl rfl rfl) ?_
 refine zdF rfl rfl rfl (.some rfl rfl rfl rfl gbt) rfl rfl ?_
 refine QU rfl rfl rfl rfl rfl ?_
 refine zA (zN (QF ?_))
 exact QR rfl rfl (fun w hw=>⟨rfl,hw.drop⟩)
theorem zuP {I:Qv}{b7:Nat}{x:Lm}(hX:I b7=some (.cells (ZL x).toArray 32 (0,0))){b9 b4 b8 r16:Nat}{met:Bool}{old:Lm}(hM:I b9=some (.cells #[.bool met] 4 (0,0)))(h4:I b4=some (.cells #[.map (some r16)] 136 (0,0)))(hO:I b8=some (.cells (ZL old).toArray 32 (0,0)))(m:List (Int×Bool)){b5:Nat}{o5:Obj}:Vl Tryz.prog 94 [ZM b7,ZM b9,ZM b4,ZM b8] I [(b5,o5),(r16,YC (.int .i64) .bool m)] (fun v I' L'=>v= .bool (zr4 met ((ZV m x.ends).getD false) old x)∧I'=I∧L'=[(b5,o5),(r16,YC (.int .i64) .bool m)]):=by
 intro g H w hw
 refine qe Tryz.func94 Tryz.ntmps94 hw ?_
 refine zR (zA ?_)
 refine zN (zR ?_)
 refine zF Jw ?_
 refine zV (Qd rfl Qy (fun hg=>by exact QG.imm hX rfl)) ?_
 refine zC ?_
 refine zM ?_
 refine QL 3 rfl rfl rfl ?_
 refine zK (Qd rfl zlP (fun hg=>by exact QG.imm hM rfl)) ?_
 refine zK (Yz rfl) ?_
 refine zK (Qh rfl) ?_
 refine Ze 6 rfl rfl rfl ?_
 refine zJ (Qd rfl zkG (fun hg=>by exact QG.imm h4 rfl)) ?_
 refine zJ (Qa rfl Jw) ?_
 refine zJ (Qd rfl Qy (fun hg=>by exact QG.imm hX rfl)) ?_
 refine zJ (YL (m:=m) (ek:=Value.int .i64) (a:=x.ends) Zf Zk rfl rfl (fun _=>(by exact Mem.m1))) ?_
 refine zdF rfl rfl rfl (.some rfl rfl rfl rfl gbt) rfl rfl ?_
 refine zK (Qh rfl) ?_
 refine Ze 12 rfl rfl rfl ?_
 refine zJ (Qa rfl Um) ?_
 refine zJ (Qd rfl Qy (fun hg=>by exact QG.imm hO rfl)) ?_
 refine zJ (Qa rfl Um) ?_
 refine zJ (Qd rfl Qy (fun hg=>by exact QG.imm hX rfl)) ?_
 refine zJ (QV rfl rfl rfl) ?_
 refine zdF rfl rfl rfl (.some rfl rfl rfl rfl gbt) rfl rfl ?_
 refine zK (Qh rfl) ?_
 refine Ze 19 rfl rfl rfl ?_
 refine zJ (Qa rfl Wg) ?_
 refine zJ (Qd rfl Qy (fun hg=>by exact QG.imm hO rfl)) ?_
 refine zJ (Qa rfl Wg) ?_
 refine zJ (Qd rfl Qy (fun hg=>by exact QG.imm hX rfl)) ?_
 refine zJ (QV rfl rfl rfl) ?_
 refine zdF rfl rfl rfl (.some rfl rfl rfl rfl gbt) rfl rfl ?_
 refine QU rfl rfl rfl rfl rfl ?_
 refine zA (zN (QF ?_))
 exact QR rfl rfl (fun w hw=>⟨_,I,_,rfl,zwQ _,hw,rfl,rfl,rfl⟩)
end
section
open Go Go.Kn Go.Proofs
theorem K8:AgT Tryz.prog 32 9:=.of (by kernel_rfl)
theorem zqu:ElT Tryz.prog 140 48 1 8:=.of (by kernel_rfl)
theorem zuo:Fun Tryz.prog 89:=.of Tryz.func89 (by kernel_rfl) (by kernel_rfl)
theorem zsu:Fun Tryz.prog 91:=.of Tryz.func91 (by kernel_rfl) (by kernel_rfl)
theorem ztJ:Fun Tryz.prog 92:=.of Tryz.func92 (by kernel_rfl) (by kernel_rfl)
theorem zt2:Fun Tryz.prog 94:=.of Tryz.func94 (by kernel_rfl) (by kernel_rfl)
theorem WU:MpT Tryz.prog 135 3 32 (.agg #[(.int .i64 0),(.int .i64 0),(.int .i64 0),(.int .i64 0),(.int .i64 0),(.int .i64 0),(.int .i64 0),(.int .i64 0),(.int .i64 0)]):=⟨by kernel_rfl,.of (by kernel_rfl)⟩
theorem zfZ:ScT Tryz.prog 48:=.of (by kernel_rfl)
theorem zaf:SlT Tryz.prog 140 48 1:=.of (by kernel_rfl)
theorem YH:SlT Tryz.prog 62 32 9:=.of (by kernel_rfl)
theorem zqm:SzT Tryz.prog 136 1:=.of (by kernel_rfl)
theorem zbf:SzT Tryz.prog 32 9:=.of (by kernel_rfl)
theorem zsY:Ve Tryz.prog 136 (.map none):=.of (by kernel_rfl)
theorem zwm:Ve Tryz.prog 3 (.int .i64 0):=.of (by kernel_rfl)
theorem zeD:Ve Tryz.prog 32 (.agg #[(.int .i64 0),(.int .i64 0),(.int .i64 0),(.int .i64 0),(.int .i64 0),(.int .i64 0),(.int .i64 0),(.int .i64 0),(.int .i64 0)]):=.of (by kernel_rfl)
theorem zwF:Ve Tryz.prog 4 (.bool false):=.of (by kernel_rfl)
theorem zjk {I:Qv}{av:Option Addr}{n c:Nat}{xs:List Lm}(hS:Sl I 9 ZL av n c xs)(hn:n≤100000):Yb Tryz.prog 37 [.slice av n c] I (.int .i64 (zhJ xs)):=by
 intro g H w hw
 refine qe Tryz.func37 Tryz.ntmps37 hw ?_
 have hIc:=zwQ I
 have hln:=hS.len
 refine zR (zA (zN (Qr (zR ?_))))
 refine zM ?_
 refine zQ YH ?_
 refine zC (zN ?_)
 refine zI ?_ ?_<;>intro hc14
 ·
  have h5:xs.length>512:=by have h:=hc14;simp at h;omega
  refine zR (zA (zN (QF (Qi ?_))))
  exact zp hIc rfl rfl (by rw [zm4 h5])
 have h5:¬xs.length>512:=by have h:=hc14;simp at h;omega
 refine Qw (Qc (zR ?_))
 refine Yf rfl rfl (fun r_15=>?_)
 refine zA ?_
 refine zN (zR ?_)
 refine Yf rfl rfl (fun r_16=>?_)
 refine Qs zsY rfl rfl (fun b_4=>?_)
 refine zS zqm ?_
 refine Qb ?_
 refine QN .here (fun I1 hI1 hb1=>?_)
 have hS:=hS.mono hI1;have hIc:=hIc.trans hI1
 have h4:=BxI.of hb1
 refine Qc (zR ?_)
 refine Qs zwm rfl rfl (fun b_5=>?_)
 refine zS zdC ?_
 refine zN (Qr (zR (zM ?_)))
 refine zQ YH ?_
 refine zM (zN (QE ?_))
 refine zU [(3,_),(4,_),(5,_),(17,_),(18,_)] (fun T L0 mz E I' loc'=>∃ (k:Nat),mz=n-k∧E=(19,.int .i64 k)::T∧HLe I1 I'∧[(b_5,.cells #[.int .i64 (zdp (xs.take k))] 3 (0,0)),(r_16,YC (.int .i64) .bool (rpM (xs.take k))),(r_15,YC (.int .i64) Jm (knM (xs.take k)))]=loc'∧k≤n∧(∀ j y,j<k→xs[j]? =some y→ze5 (xs.take j) y=false)) ?_ (h:=⟨0,rfl,rfl,zwQ _,rfl,Nat.zero_le _,fun j y h=>absurd h (Nat.not_lt_zero _)⟩)
 rintro mz E J2 loc' ⟨k,rfl,rfl,hJ,rfl,hk,hall⟩
 have hS:=hS.mono hJ;have h4:=h4.mono hJ;have hIc:=hIc.trans hJ
 have hB0:=hJ
 refine zR (zC (zN (Qr ?_)))
 refine zI ?_ ?_<;>intro hc20
 ·
  have hlt_k:k<n:=by have h:=hc20;simp at h;omega
  obtain ⟨x,hx⟩:∃ x,xs[k]? =some x:=⟨_,List.getElem?_eq_getElem (by omega)⟩
  refine Qw (Qc (Qr (QE (zR ?_))))
  refine zV (zX YH hS) ?_
  refine zV (Qg rfl K8 (fun hg=>by exact zwR hS hx) rfl) ?_
  refine Qs zeD rfl rfl (fun b_7=>?_)
  refine zh zbf ?_
  refine zN (zR ?_)
  refine zM ?_
  refine zF Jw ?_
  refine zL Qy ?_
  refine zV (zas rfl rfl rfl) ?_
  refine zV (zef V1 ((zlN (xs.take k) x).getD V1) ((zlN (xs.take k) x).isSome) rfl rfl rfl (ek:=Value.int .i64) (ev:=Jm) (m:=knM (xs.take k)) (a:=IntKind.i64.wrap (x.ends-1)) WU Zk rfl rfl (fun _=>(by exact Mem.m3))) ?_
  refine zM ?_
  refine zE ?_
  refine zE ?_
  refine Qs zeD rfl rfl (fun b_8=>?_)
  refine Qs zwF rfl rfl (fun b_9=>?_)
  refine zh zbf ?_
  refine zS zvk ?_
  refine zN (Qr (Qr ?_))
  refine QN .here (fun I3 hI3 hb3=>?_)
  have hS:=hS.mono hI3;have h4:=h4.mono hI3;have hIc:=hIc.trans hI3;have hB0:=hB0.trans hI3
  have h9:=BxI.of hb3
  refine QN .here (fun I4 hI4 hb4=>?_)
  have hS:=hS.mono hI4;have h4:=h4.mono hI4;have h9:=h9.mono hI4;have hIc:=hIc.trans hI4;have hB0:=hB0.trans hI4
  have h8:=BxI.of hb4
  refine QN .here (fun I5 hI5 hb5=>?_)
  have hS:=hS.mono hI5;have h4:=h4.mono hI5;have h9:=h9.mono hI5;have h8:=h8.mono hI5;have hIc:=hIc.trans hI5;have hB0:=hB0.trans hI5
  have h7:=BxI.of hb5
  refine Qk ?_
  refine zV (YD (us:=[]) (vs:=[_,_]) rfl rfl) ?_
  refine zV (YD (us:=[]) (vs:=[_]) rfl rfl) ?_
  refine zV (YD (us:=[]) (vs:=[_]) rfl rfl) ?_
  refine zV (YD (us:=[]) (vs:=[_,_,_,_]) rfl rfl) ?_
  refine Ql (ps:=[(0,_),(1,_),(2,_),(3,_)]) (m:=[zhg (.func (.func 89) #[] #[ZM b_7,ZM b_5]),zhg (.func (.func 91) #[] #[ZM b_7]),zhg (.func (.func 92) #[] #[ZM b_7]),zhg (.func (.func 94) #[] #[ZM b_7,ZM b_9,ZM b_4,ZM b_8])]) zqu rfl (.cons rfl (.cons rfl (.cons rfl (.cons rfl (.nil))))) rfl (by simp [zdr]) (by decide) (by decide) rfl rfl (fun b_35=>?_)
  refine Q9 (by repeat (first | exact Ya.here | apply Ya.there)) (fun I6 hI6 hb6=>?_)
  have hS:=hS.mono hI6;have h4:=h4.mono hI6;have h9:=h9.mono hI6;have h8:=h8.mono hI6;have h7:=h7.mono hI6;have hIc:=hIc.trans hI6;have hB0:=hB0.trans hI6
  have hF:=Sl.lit ([.func (.func 89) #[] #[ZM b_7,ZM b_5],.func (.func 91) #[] #[ZM b_7],.func (.func 92) #[] #[ZM b_7],.func (.func 94) #[] #[ZM b_7,ZM b_9,ZM b_4,ZM b_8]]:List Value) rfl zdr (show I6 b_35=some (Obj.cells (([.func (.func 89) #[] #[ZM b_7,ZM b_5],.func (.func 91) #[] #[ZM b_7],.func (.func 92) #[] #[ZM b_7],.func (.func 94) #[] #[ZM b_7,ZM b_9,ZM b_4,ZM b_8]]:List Value).flatMap zhg).toArray 48 (0,0)) from hb6)
  refine zQ zaf ?_
  refine zM (zN (QE ?_))
  refine zU [(3,_),(4,_),(5,_),(7,_),(17,_),(18,_),(19,_),(35,_),(36,_)] (fun T L0 mz E I' loc'=>∃ (i:Nat),mz=4-i∧E=(37,.int .i64 i)::T∧I6=I'∧[(b_5,.cells #[.int .i64 (zdp (xs.take k))] 3 (0,0)),(r_16,YC (.int .i64) .bool (rpM (xs.take k))),(r_15,YC (.int .i64) Jm (knM (xs.take k)))]=loc'∧i≤4∧(0<i→zt8 (zdp (xs.take k)) x=false)∧(1<i→ztB x=false)∧(2<i→zs5 x=false)∧(3<i→zr4 (zlN (xs.take k) x).isSome ((ZV (rpM (xs.take k)) x.ends).getD false) ((zlN (xs.take k) x).getD V1) x=false)) ?_ (h:=⟨0,rfl,rfl,rfl,rfl,Nat.zero_le _,fun h=>absurd h (by omega),fun h=>absurd h (by omega),fun h=>absurd h (by omega),fun h=>absurd h (by omega)⟩)
  rintro mz E I' loc' ⟨i,rfl,rfl,rfl,rfl,hi,q0,q1,q2,q3⟩
  refine zR (zC (zN (Qr ?_)))
  refine zI ?_ ?_<;>intro hc38
  ·
   have hi4:i<4:=by have h:=hc38;simp at h;omega
   refine Qw (Qc (Qr (QE (Qr ?_))))
   rcases (show i=0∨i=1∨i=2∨i=3 by omega) with hi | hi | hi | hi
   ·
    have hfi:([.func (.func 89) #[] #[ZM b_7,ZM b_5],.func (.func 91) #[] #[ZM b_7],.func (.func 92) #[] #[ZM b_7],.func (.func 94) #[] #[ZM b_7,ZM b_9,ZM b_4,ZM b_8]]:List Value)[i]? =some (.func (.func 89) #[] #[ZM b_7,ZM b_5]):=by rw [hi];rfl
    refine Qk ?_
    refine zV (QX rfl rfl zaf (by assumption) (fun hg=>by omega)) ?_
    refine zV (Qd rfl zfZ (fun hg=>by exact zwJ hF hfi rfl)) ?_
    refine zA ?_
    refine zN (zR ?_)
    refine zM ?_
    refine QC (cap:=[ZM b_7,ZM b_5]) (vs:=[]) rfl rfl zuo (.cons .here .nil) (zty h7.out b_5 _) rfl rfl ?_
    rintro vv8 I8 L8 hI8 ⟨rfl,rfl,rfl⟩
    have hIc:=hIc.trans hI8
    refine zN ?_
    refine zI ?_ ?_<;>intro hc42
    ·
     refine zR (zA (zN (QF (Qz (Qi (Qi (Qz ?_)))))))
     refine Qi (Qz (Qi (Qi (Qz (Qi ?_)))))
     exact zp hIc rfl rfl (by rw [X0 h5 hx (zuR hc42)])
    refine Qw (Qp (Qc (Qk (zB ?_))))
    refine zM (Qb ?_)
    exact Zs _ _ ⟨4-(i+1),by omega,i+1,rfl,rfl,rfl,rfl,by omega,fun _=>by exact hc42,fun h=>by exact absurd h (by omega),fun h=>by exact absurd h (by omega),fun h=>by exact absurd h (by omega)⟩ (.cons rfl (.cons rfl (.cons rfl (.cons rfl (.cons rfl (.cons rfl (.cons rfl (.cons rfl (.cons rfl (.cons rfl .nil)))))))))) (by (try rw [ZD hx,Ko,U9,Wz]);repeat (first | exact .refl | exact QO | refine Zh ?_ | refine .drop ?_ | refine Qf ?_))
   ·
    have hfi:([.func (.func 89) #[] #[ZM b_7,ZM b_5],.func (.func 91) #[] #[ZM b_7],.func (.func 92) #[] #[ZM b_7],.func (.func 94) #[] #[ZM b_7,ZM b_9,ZM b_4,ZM b_8]]:List Value)[i]? =some (.func (.func 91) #[] #[ZM b_7]):=by rw [hi];rfl
    refine Qk ?_
    refine zV (QX rfl rfl zaf (by assumption) (fun hg=>by omega)) ?_
    refine zV (Qd rfl zfZ (fun hg=>by exact zwJ hF hfi rfl)) ?_
    refine zA ?_
    refine zN (zR ?_)
    refine zM ?_
    refine QC (cap:=[ZM b_7]) (vs:=[]) rfl rfl zsu .nil ((zsl h7.out).m) rfl rfl ?_
    rintro vv9 I9 L9 hI9 ⟨rfl,rfl,rfl⟩
    have hIc:=hIc.trans hI9
    refine zN ?_
    refine zI ?_ ?_<;>intro hc42
    ·
     refine zR (zA (zN (QF (Qz (Qi (Qi (Qz ?_)))))))
     refine Qi (Qz (Qi (Qi (Qz (Qi ?_)))))
     exact zp hIc rfl rfl (by rw [X0 h5 hx (ztS hc42)])
    refine Qw (Qp (Qc (Qk (zB ?_))))
    refine zM (Qb ?_)
    exact Zs _ _ ⟨4-(i+1),by omega,i+1,rfl,rfl,rfl,rfl,by omega,fun _=>by exact q0 (by omega),fun h=>by exact hc42,fun h=>by exact absurd h (by omega),fun h=>by exact absurd h (by omega)⟩ (.cons rfl (.cons rfl (.cons rfl (.cons rfl (.cons rfl (.cons rfl (.cons rfl (.cons rfl (.cons rfl (.cons rfl .nil)))))))))) (by (try rw [ZD hx,Ko,U9,Wz]);repeat (first | exact .refl | exact QO | refine Zh ?_ | refine .drop ?_ | refine Qf ?_))
   ·
    have hfi:([.func (.func 89) #[] #[ZM b_7,ZM b_5],.func (.func 91) #[] #[ZM b_7],.func (.func 92) #[] #[ZM b_7],.func (.func 94) #[] #[ZM b_7,ZM b_9,ZM b_4,ZM b_8]]:List Value)[i]? =some (.func (.func 92) #[] #[ZM b_7]):=by rw [hi];rfl
    refine Qk ?_
    refine zV (QX rfl rfl zaf (by assumption) (fun hg=>by omega)) ?_
    refine zV (Qd rfl zfZ (fun hg=>by exact zwJ hF hfi rfl)) ?_
    refine zA ?_
    refine zN (zR ?_)
    refine zM ?_
    refine QC (cap:=[ZM b_7]) (vs:=[]) rfl rfl ztJ .nil ((ztG h7.out).m) rfl rfl ?_
    rintro vv10 I10 L10 hI10 ⟨rfl,rfl,rfl⟩
    have hIc:=hIc.trans hI10
    refine zN ?_
    refine zI ?_ ?_<;>intro hc42
    ·
     refine zR (zA (zN (QF (Qz (Qi (Qi (Qz ?_)))))))
     refine Qi (Qz (Qi (Qi (Qz (Qi ?_)))))
     exact zp hIc rfl rfl (by rw [X0 h5 hx (zuz hc42)])
    refine Qw (Qp (Qc (Qk (zB ?_))))
    refine zM (Qb ?_)
    exact Zs _ _ ⟨4-(i+1),by omega,i+1,rfl,rfl,rfl,rfl,by omega,fun _=>by exact q0 (by omega),fun h=>by exact q1 (by omega),fun h=>by exact hc42,fun h=>by exact absurd h (by omega)⟩ (.cons rfl (.cons rfl (.cons rfl (.cons rfl (.cons rfl (.cons rfl (.cons rfl (.cons rfl (.cons rfl (.cons rfl .nil)))))))))) (by (try rw [ZD hx,Ko,U9,Wz]);repeat (first | exact .refl | exact QO | refine Zh ?_ | refine .drop ?_ | refine Qf ?_))
   have hfi:([.func (.func 89) #[] #[ZM b_7,ZM b_5],.func (.func 91) #[] #[ZM b_7],.func (.func 92) #[] #[ZM b_7],.func (.func 94) #[] #[ZM b_7,ZM b_9,ZM b_4,ZM b_8]]:List Value)[i]? =some (.func (.func 94) #[] #[ZM b_7,ZM b_9,ZM b_4,ZM b_8]):=by rw [hi];rfl
   refine Qk ?_
   refine zV (QX rfl rfl zaf (by assumption) (fun hg=>by omega)) ?_
   refine zV (Qd rfl zfZ (fun hg=>by exact zwJ hF hfi rfl)) ?_
   refine zA ?_
   refine zN (zR ?_)
   refine zM ?_
   refine QC (cap:=[ZM b_7,ZM b_9,ZM b_4,ZM b_8]) (vs:=[]) rfl rfl zt2 (.cons .here (.cons .here .nil)) (zuP h7.out h9.out h4.out h8.out (rpM (xs.take k))) rfl rfl ?_
   rintro vv11 I11 L11 hI11 ⟨rfl,rfl,rfl⟩
   have hIc:=hIc.trans hI11
   refine zN ?_
   refine zI ?_ ?_<;>intro hc42
   ·
    refine zR (zA (zN (QF (Qz (Qi (Qi (Qz ?_)))))))
    refine Qi (Qz (Qi (Qi (Qz (Qi ?_)))))
    exact zp hIc rfl rfl (by rw [X0 h5 hx (zuv hc42)])
   refine Qw (Qp (Qc (Qk (zB ?_))))
   refine zM (Qb ?_)
   exact Zs _ _ ⟨4-(i+1),by omega,i+1,rfl,rfl,rfl,rfl,by omega,fun _=>by exact q0 (by omega),fun h=>by exact q1 (by omega),fun h=>by exact q2 (by omega),fun h=>by exact hc42⟩ (.cons rfl (.cons rfl (.cons rfl (.cons rfl (.cons rfl (.cons rfl (.cons rfl (.cons rfl (.cons rfl (.cons rfl .nil)))))))))) (by (try rw [ZD hx,Ko,U9,Wz]);repeat (first | exact .refl | exact QO | refine Zh ?_ | refine .drop ?_ | refine Qf ?_))
  have hi4:4≤i:=by have h:=hc38;simp at h;omega
  have hbad:ze5 (xs.take k) x=false:=zqh (q0 (by omega)) (q1 (by omega)) (q2 (by omega)) (q3 (by omega))
  refine ZC (Qt (Qt (QD (Qc ?_))))
  have hD:=zwQ I6
  refine ZK ?_
  refine QZ I6 [] mixed ?_
  refine zT 0 rfl (Qh rfl) hD ?_
  refine zT 1 rfl (Qa rfl Jz) hD ?_
  refine zT 2 rfl (Qd rfl Qy (fun hg=>by exact QG.imm h7.out rfl)) hD ?_
  refine zT 3 rfl (Qd rfl zkG (fun hg=>by exact QG.imm h4.out rfl)) hD ?_
  refine zT 4 rfl (Qa rfl Jw) hD ?_
  refine zT 5 rfl (Qd rfl Qy (fun hg=>by exact QG.imm h7.out rfl)) hD ?_
  refine zT 6 rfl (Qa rfl Jz) hD ?_
  refine zT 7 rfl (Qd rfl Qy (fun hg=>by exact QG.imm h7.out rfl)) hD ?_
  refine zT 8 rfl (Qg rfl K8 (fun hg=>by exact BxI.cells (vs:=ZL x) h7) rfl) hD ?_
  refine qd 9 rfl ?_
  refine zS zdC ?_
  refine Qb ?_
  refine zD hD ?_
  refine qd 10 rfl ?_
  refine ZU (ek:=Value.int .i64) (ev:=Jm) (m:=knM (xs.take k)) (a:=x.no) x WU Zk rfl rfl rfl rfl (by repeat (first | exact Upd.here | apply Upd.there | apply Qx)) ?_
  refine Qb ?_
  refine zD hD ?_
  refine qd 11 rfl ?_
  refine ZU (ek:=Value.int .i64) (ev:=Value.bool) (m:=rpM (xs.take k)) (a:=x.ends) true Zf Zk rfl rfl rfl rfl (by repeat (first | exact Upd.here | apply Upd.there | apply Qx)) ?_
  refine Qb ?_
  refine zD hD ?_
  refine Qm (by kernel_rfl) ?_
  refine QA ?_
  refine Qp (Qc (Qk (zB ?_)))
  refine zM (Qb ?_)
  exact Zs _ _ ⟨n-(k+1),by omega,k+1,rfl,rfl,hB0,rfl,by omega,KD hx hall hbad⟩ (.cons rfl (.cons rfl (.cons rfl (.cons rfl (.cons rfl (.cons rfl .nil)))))) (by (try rw [ZD hx,Ko,U9,Wz]);repeat (first | exact .refl | exact QO | refine Zh ?_ | refine .drop ?_ | refine Qf ?_))
 have hge_k:n≤k:=by have h:=hc20;simp at h;omega
 refine ZC (Qt (Qt (QD (Qc (zR (zA (zN ?_)))))))
 refine QF ?_
 exact zp hIc rfl rfl (by rw [zqC h5 (fun j y hj hy=>hall j y (by omega) hy)])
end
section
open Go Go.Kn Go.Proofs
def orF:List Int→Int
 | []=>0
 | x::xs=>if x≠0 then x else orF xs
theorem XG:∀ {xs:List Int},orF xs=0↔ ∀ x∈xs,x=0
 | []=>by simp [orF]
 | x::xs=>by
  unfold orF
  by_cases h:x=0
  ·
   rw [if_neg (by simpa using h),XG];simp [h]
  ·
   rw [if_pos h];simp [h]
theorem zl9 {xs:List Int}{k:Nat}{x:Int}(hx:xs[k]? =some x)(h:orF (xs.take k)=0)(hne:x≠0):orF xs=x:=by
 induction xs generalizing k with
 | nil=>simp at hx
 | cons y ys ih=>
  cases k with
  | zero=>
   simp at hx;subst hx
   unfold orF;rw [if_pos hne]
  | succ k=>
   rw [List.take_succ_cons] at h
   unfold orF at h ⊢
   by_cases hy:y=0
   ·
    rw [if_neg (by simpa using hy)] at h ⊢
    exact ih (by simpa using hx) h
   ·
    rw [if_pos hy] at h;exact absurd h hy
def onS (f:Int→Int→Bool)(p:Pt):Int→Int→Bool:=fun a b=>if a=p.id then p.needs.any (fun n=>n==b||f n b) else f a b
def onF (ps:List Pt):Int→Int→Bool:=ps.foldl onS (fun _ _=>false)
def zhO (ps:List Pt)(n:Int):Bool:=ps.any (fun q=>q.id==n)
def lsP (ps:List Pt)(i:Nat):Bool:= !((decide ((i:Int)>0)&&decide ((ps.getD i JM).id≤(ps.getD ((i:Int)-1).toNat JM).id))||(ps.getD i JM).needs.any (fun n=> !zhO ps n))
def lsB (ps:List Pt):Bool:=(List.range ps.length).all (lsP ps)
def zsq (p q:Pt)(on:Bool):Bool:=if p.sign≠q.sign then true else if q.kind=2 then p.kind != 2&&on else if q.kind=3 then !on else true
def zol (ps:List Pt):Bool:=ps.all fun p=>ps.all fun q=>p.id==q.id||zsq p q (onF ps p.id q.id)
def zbw (ps:List Pt):Int:=if ps.length>512 then 2 else if orF (ps.map KV)≠0 then orF (ps.map KV) else if lsB ps&&zol ps then 0 else 380
structure Lst (ps:List Pt):Prop where
 pos:∀ p∈ps,1≤p.id
 inc:ps.Pairwise (fun p q=>p.id<q.id)
 has:∀ p∈ps,∀ n∈p.needs,n<p.id∧∃ q∈ps,q.id=n
theorem XM {ps:List Pt}{n:Int}:zhO ps n=true↔ ∃ q∈ps,q.id=n:=by
 unfold zhO
 rw [List.any_eq_true]
 simp
theorem zkW {f:Int→Int→Bool}{p:Pt}{a b:Int}(h:a≠p.id):onS f p a b=f a b:=by unfold onS;rw [if_neg h]
theorem Ut:∀ (ps:List Pt) {f:Int→Int→Bool} {a b:Int},(∀ p∈ps,p.id≠a)→ps.foldl onS f a b=f a b
 | [],_,_,_,_=>rfl
 | p::ps,f,a,b,h=>by
  rw [List.foldl_cons,Ut ps (fun q hq=>h q (List.mem_cons_of_mem _ hq)),zkW (fun e=>h p (List.mem_cons_self ..) e.symm)]
theorem zmd {ps:List Pt}{a b:Int}(h:∀ p∈ps,p.id≠a):onF ps a b=false:=Ut ps h
theorem zd9 {ps qs:List Pt}{p:Pt}{b:Int}(h:∀ q∈qs,q.id≠p.id):onF (ps++p::qs) p.id b=p.needs.any (fun n=>n==b||onF ps n b):=by
 unfold onF
 rw [List.foldl_append,List.foldl_cons,Ut qs h]
 unfold onS;rw [if_pos rfl]
theorem zgS {ps qs:List Pt}{a b:Int}(h:∀ q∈qs,q.id≠a):onF (ps++qs) a b=onF ps a b:=by
 unfold onF
 rw [List.foldl_append,Ut qs h]
theorem Lst.tail_ne {ps qs:List Pt}{p:Pt}(h:Lst (ps++p::qs)):(∀ q∈qs,p.id<q.id)∧(∀ q∈ps,q.id<p.id):=by
 have h1:=h.inc
 rw [List.pairwise_append] at h1
 exact ⟨(List.pairwise_cons.1 h1.2.1).1,fun q hq=>h1.2.2 q hq p (List.mem_cons_self ..)⟩
theorem zfX {α:Type}{xs:List α}{f g:α→Bool}(h:∀ x∈xs,f x=g x):xs.any f=xs.any g:=by
 induction xs with
 | nil=>rfl
 | cons x xs ih=>rw [List.any_cons,List.any_cons,h x (List.mem_cons_self ..),ih fun y hy=>h y (List.mem_cons_of_mem _ hy)]
theorem Lst.on {ps:List Pt}(h:Lst ps){p:Pt}(hp:p∈ps)(b:Int):onF ps p.id b=p.needs.any (fun n=>n==b||onF ps n b):=by
 obtain ⟨l,r,rfl⟩:=List.append_of_mem hp
 obtain ⟨h1,h2⟩:=h.tail_ne
 rw [zd9 (fun q hq e=>by have:=h1 q hq;omega)]
 refine zfX fun n hn=>?_
 have hlt:=(h.has p hp n hn).1
 rw [zgS (ps:=l) (qs:=p::r)]
 intro q hq e
 rcases List.mem_cons.1 hq with rfl | hq
 ·
  omega
 ·
  have:=h1 q hq;omega
theorem Lst.on_iff {ps:List Pt}(h:Lst ps){p:Pt}(hp:p∈ps){b:Int}:onF ps p.id b=true↔ ∃ n∈p.needs,n=b∨onF ps n b=true:=by
 rw [h.on hp,List.any_eq_true]
 simp
theorem zri {ps:List Pt}{a b:Int}(h:onF ps a b=true):∃ p∈ps,p.id=a:=by
 by_cases hx:∃ p∈ps,p.id=a
 ·
  exact hx
 ·
  rw [zmd (fun p hp e=>hx ⟨p,hp,e⟩)] at h;cases h
theorem Lst.ind {ps:List Pt}(h:Lst ps){M:Pt→Prop}(hs:∀ p∈ps,(∀ q∈ps,q.id<p.id→M q)→M p):∀ p∈ps,M p:=by
 have key:∀ (m:Nat) (q:Pt),q∈ps→q.id.toNat≤m→M q:=by
  intro m
  induction m with
  | zero=>
   intro q hq hm
   have:=h.pos q hq;omega
  | succ m ih=>
   intro q hq hm
   exact hs q hq fun r hr hlt=>ih r hr (by have:=h.pos r hr;omega)
 exact fun p hp=>key _ p hp (Nat.le_refl _)
theorem Lst.on_lt {ps:List Pt}(h:Lst ps){a b:Int}(hon:onF ps a b=true):b<a∧∃ q∈ps,q.id=b:=by
 obtain ⟨p,hp,rfl⟩:=zri hon
 revert hon
 refine h.ind (M:=fun p=>onF ps p.id b=true→b<p.id∧∃ q∈ps,q.id=b) (fun p hp ih hon=>?_) p hp
 obtain ⟨n,hn,e⟩:=(h.on_iff hp).1 hon
 obtain ⟨h1,q,hq,rfl⟩:=h.has p hp n hn
 rcases e with rfl | e
 ·
  exact ⟨h1,q,hq,rfl⟩
 ·
  have:=ih q hq h1 e
  exact ⟨by omega,this.2⟩
theorem Lst.on_irr {ps:List Pt}(h:Lst ps){a:Int}:onF ps a a=false:=by
 cases hon:onF ps a a with
 | false=>rfl
 | true=>have:=(h.on_lt hon).1;omega
end
section
open Go Go.Kn Go.Proofs
theorem zpK {ps:List Pt}{f:Pt→Bool}{x:Int}:x∈(ps.filter f).map (·.id)↔ ∃ p∈ps,f p=true∧p.id=x:=by
 rw [List.mem_map]
 constructor
 ·
  rintro ⟨p,hp,e⟩
  exact ⟨p,(List.mem_filter.1 hp).1,(List.mem_filter.1 hp).2,e⟩
 ·
  rintro ⟨p,hp,hf,e⟩
  exact ⟨p,List.mem_filter.2 ⟨hp,hf⟩,e⟩
theorem zoh {ps:List Pt}(h0:orF (ps.map KV)=0)(h:lsB ps=true):Lst ps:=by
 have hk:∀ p∈ps,ndB p.id p.needs=true∧idB p=true∧WQ p=true:=fun p hp=>by
  have h1:=XG.1 h0 (KV p) (List.mem_map.2 ⟨p,hp,rfl⟩)
  unfold KV at h1
  split at h1
  ·
   cases h1
  ·
   split at h1
   ·
    rename_i h2
    simpa [Bool.and_eq_true] using h2
   ·
    cases h1
 unfold lsB at h
 rw [List.all_eq_true] at h
 refine ⟨fun p hp=>?_,?_,fun p hp n hn=>?_⟩
 ·
  have:=(hk p hp).2.1
  unfold idB at this
  simp at this
  omega
 ·
  refine Xk (R:=fun p q:Pt=>p.id<q.id) (fun a b c h1 h2=>Int.lt_trans h1 h2) fun k hk=>?_
  have h1:=h (k+1) (List.mem_range.2 hk)
  unfold lsP at h1
  rw [show (((k+1:Nat):Int)-1).toNat=k by omega,V3 (List.getElem?_eq_getElem hk),V3 (List.getElem?_eq_getElem (show k<ps.length by omega))] at h1
  simp at h1
  have:=h1.1
  omega
 ·
  obtain ⟨k,hk1,rfl⟩:=List.mem_iff_getElem.1 hp
  have h1:=h k (List.mem_range.2 hk1)
  unfold lsP at h1
  rw [V3 (List.getElem?_eq_getElem hk1)] at h1
  simp at h1
  refine ⟨?_,XM.1 (h1.2 n hn)⟩
  obtain ⟨j,hj,rfl⟩:=List.mem_iff_getElem.1 hn
  have h2:=(hk _ hp).1
  unfold ndB at h2
  rw [List.all_eq_true] at h2
  have h3:=h2 j (List.mem_range.2 hj)
  unfold ndP at h3
  rw [V3 (List.getElem?_eq_getElem hj)] at h3
  simp at h3
  omega
end
section
open Go Go.Kn Go.Proofs
/-! ### Lists by keys -/
def isF (f:Int):Prop:=1≤f∧f≤9
end
section
open Go Go.Kn Go.Proofs
def zez (x y:Int):Int:=if x<y then -1 else if x>y then 1 else 0
def zvh (n d:Int):List Value:=[.int .i64 n,.int .i64 d]
def zh1 (n d:Int):Value:=.agg (zvh n d).toArray
theorem zlF {n:Int}(h:0≤n∧n≤9223372036854775807):IntKind.u64.wrap n=n:=by
 unfold IntKind.wrap IntKind.signed IntKind.bits
 simp
 omega
theorem zpz {n:Int}(hn: -1073741824≤n∧n≤1073741824)(h:¬n<0):IntKind.u64.wrap n=zhN n:=by
 rw [zlF (by omega)]
 unfold zhN;rw [if_neg h]
theorem zpp {n:Int}(hn: -1073741824≤n∧n≤1073741824)(h:n<0):IntKind.u64.wrap (0-IntKind.u64.wrap n)=zhN n:=by
 unfold zhN;rw [if_pos h]
 unfold IntKind.wrap IntKind.signed IntKind.bits
 simp
 omega
def zr6 (t b1 b2:Nat)(a b:Int):Go.Kn.Loc:=[(b2,.cells #[.int .u64 b] t (0,0)),(b1,.cells #[.int .u64 a] t (0,0))]
def zdc (a b:Nat):List Nat:=if a=0 then [] else if b=0 then [a,0] else if a % b=0 then [a,b] else a::zdc b (a % b)
termination_by b
decreasing_by exact Nat.mod_lt _ (by omega)
theorem zdH (b:Nat):zdc 0 b=[]:=by rw [zdc];rfl
theorem zcy {a b:Nat}(ha:a≠0)(hb:b≠0)(h:a % b=0):zdc a b=[a,b]:=by rw [zdc,if_neg ha,if_neg hb,if_pos h]
theorem zdl {a b:Nat}(ha:a≠0)(hb:b≠0)(h:a % b≠0):zdc a b=a::zdc b (a % b):=by rw [zdc,if_neg ha,if_neg hb,if_neg h]
theorem zm0:∀ (m:Nat) {a b d:Nat},b≤m→b≠0→(a=0→d=b)→(zdc a b).getLastD d=Nat.gcd a b:=by
 intro m
 induction m with
 | zero=>intro a b d h1 h2;omega
 | succ m ih=>
  intro a b d h1 h2 hd
  by_cases ha:a=0
  ·
   subst ha;rw [zdH,Nat.gcd_zero_left,hd rfl];rfl
  ·
   by_cases h:a % b=0
   ·
    rw [zcy ha h2 h]
    show b=_
    rw [Nat.gcd_comm,Nat.gcd_rec,h,Nat.gcd_zero_left]
   ·
    rw [zdl ha h2 h,List.getLastD_cons,ih (by have:=Nat.mod_lt a (show 0<b by omega);omega) h (fun e=>absurd e h2)]
    rw [Nat.gcd_comm b,←Nat.gcd_rec,Nat.gcd_comm]
theorem zlT (a b:Nat):((a:Int)).tmod (b:Int)=((a % b:Nat):Int):=by
 rw [Int.tmod_eq_emod_of_nonneg (by omega)];rfl
theorem zt9 {a b:Int}(ha: -1073741824≤a∧a≤1073741824)(hb: -1073741824≤b∧b≤1073741824): -9223372036854775808≤a*b∧a*b≤9223372036854775807:=by
 have h1:(a*b).natAbs≤1073741824*1073741824:=by
  rw [Int.natAbs_mul]
  exact Nat.mul_le_mul (by omega) (by omega)
 omega
def zrT (n d:Int):Int:=if zbm n d then 0 else 120
theorem zi5 {n d:Int}(h:zbm n d=true):(1≤d∧d≤1073741824)∧ -1073741824≤n∧n≤1073741824:=by
 unfold zbm at h
 simp at h
 omega
theorem zp7 (n d:Int):Nat.gcd (zhN n).toNat d.toNat=Int.gcd n d.toNat:=by
 unfold Int.gcd zhN
 congr 1
 split<;>omega
theorem ZF {b:Nat}(h:0<b):zdX (b:Int) 1=(b:Int):=by
 unfold zdX
 split<;>omega
theorem zjm {a0 b0 a b:Nat}{pre:List Nat}(h:zdc a0 b0=pre++zdc a b)(ha:a≠0):pre++[a]<+:zdc a0 b0:=by
 rw [h,zdc,if_neg ha]
 have key:∀ l:List Nat,pre++[a]<+:pre++a::l:=fun l=>⟨l,by simp⟩
 split
 ·
  exact key _
 ·
  split<;>exact key _
theorem zky {l:List Nat}{x d:Nat}:(l++[x]).getLastD d=x:=by simp [List.getLastD_eq_getLast?]
theorem zps {n d:Int}(h:((((decide (d<1)||decide (d>1073741824))||decide (n< -1073741824))||decide (n>1073741824))||(zu1 n d != 1))=true):zbm n d=false:=by unfold zbm;rw [h];rfl
theorem znI {n d:Int}(h:((((decide (d<1)||decide (d>1073741824))||decide (n< -1073741824))||decide (n>1073741824))||(zu1 n d != 1))=false):zbm n d=true:=by unfold zbm;rw [h];rfl
/-! ### Fields as cells -/
def foF (f:Int):Nat:=if f=1 then 1 else if f=2 then 2 else if f=3 then 3 else if f=4 then 5 else if f=5 then 6 else if f=6 then 7 else if f=7 then 8 else 9
def zt7 (x:Sg)(f:Int):Int:=if f=1 then x.role else if f=2 then x.bar else if f=3 then x.mark else if f=4 then x.side else if f=5 then x.dir else if f=6 then x.level else if f=7 then x.size else x.wth
def zv3 (b:Nat):List Value:=[.pointer none,.pointer (some ⟨b,0+1,none⟩),.pointer (some ⟨b,0+2,none⟩),.pointer (some ⟨b,0+3,none⟩),.pointer (some ⟨b,0+5,none⟩),.pointer (some ⟨b,0+6,none⟩),.pointer (some ⟨b,0+7,none⟩),.pointer (some ⟨b,0+8,none⟩),.pointer (some ⟨b,0+9,none⟩)]
theorem zbl {f:Int}(h:1≤f∧f≤8):f=1∨f=2∨f=3∨f=4∨f=5∨f=6∨f=7∨f=8:=by omega
theorem zbO {f:Int}(h:1≤f∧f≤8)(b:Nat):(zv3 b)[f.toNat*1]? =some (.pointer (some ⟨b,foF f,none⟩)):=by
 rcases zbl h with rfl | rfl | rfl | rfl | rfl | rfl | rfl | rfl<;>rfl
theorem zfp {f:Int}(h:1≤f∧f≤8)(x:Sg):zhH (zhI x) (foF f)=some (.int .i64 (zt7 x f)):=by
 rcases zbl h with rfl | rfl | rfl | rfl | rfl | rfl | rfl | rfl<;>rfl
theorem zpE {f:Int}:Nat.blt (foF f) 14=true:=by
 unfold foF
 repeat' split
 all_goals rfl
theorem zjt {f:Int}(h:1≤f∧f≤8)(x y:Sg):(zhI x).toArray.setIfInBounds (foF f) (.int .i64 (zt7 y f))=(zhI (znL x f y)).toArray:=by
 rcases zbl h with rfl | rfl | rfl | rfl | rfl | rfl | rfl | rfl<;>rfl
def zht (v:List Int)(k:Nat)(l:Int):Prop:=(k=0→l=0)∧∀ y,v[k-1]? =some y→k≠0→l=y
theorem zbS {v:List Int}{k:Nat}{x:Int}(hx:v[k]? =some x):zht v (k+1) x:=⟨fun h=>by omega,fun y hy _=>by simp at hy;rw [hx] at hy;cases hy;rfl⟩
theorem ztt {id:Int}{v:List Int}{k:Nat}{l x:Int}(hall:(List.range k).all (ndP id v)=true)(hl:zht v k l)(hx:v[k]? =some x):ndP id v k= !(decide (x≤l)||decide (x≥id)):=by
 unfold ndP
 rw [V3 hx]
 cases k with
 | zero=>
  rw [hl.1 rfl]
  rw [Bool.eq_iff_iff];simp;omega
 | succ k=>
  have hk:=(List.getElem?_eq_some_iff.1 hx).1
  have hy:v[k]? =some (v[k]'(by omega)):=List.getElem?_eq_getElem _
  have e:=hl.2 _ (by rw [Nat.add_sub_cancel];exact hy) (by omega)
  rw [show (((k+1:Nat):Int)-1).toNat=k by omega,V3 hy,←e]
  have h1:1≤l:=by
   rw [List.all_eq_true] at hall
   have:=hall k (List.mem_range.2 (by omega))
   unfold ndP at this
   rw [V3 hy] at this
   simp at this
   omega
  rw [Bool.eq_iff_iff];simp;omega
theorem zuA {p:Pt}(h:p.needs.length>32):KV p=2:=by unfold KV;rw [if_pos h]
theorem ztR {p:Pt}(h:¬p.needs.length>32)(h2:ndB p.id p.needs=false):KV p=370:=by unfold KV;rw [if_neg h,h2];rfl
theorem zdI {p:Pt}(h:¬p.needs.length>32)(h2:ndB p.id p.needs=true)(h3:(idB p&&WQ p)=false):KV p=370:=by unfold KV;rw [if_neg h,h2,h3];rfl
theorem zgf {p:Pt}(h:¬p.needs.length>32)(h2:ndB p.id p.needs=true)(h3:(idB p&&WQ p)=true):KV p=0:=by unfold KV;rw [if_neg h,h2,h3];rfl
theorem zsK {p:Pt}(h:p.kind=1)(h2:within p.field 1 9=true):WQ p=(zm2 (znL p.nw p.field KU) KU&&frm (znL zis p.field p.nw)):=by unfold WQ;rw [if_pos h,h2,Bool.true_and]
theorem zrW {p:Pt}(h:p.kind=1)(h2:within p.field 1 9=false):(idB p&&WQ p)=false:=by unfold WQ;rw [if_pos h,h2,Bool.false_and,Bool.and_false]
theorem ztH {p:Pt}(h:p.kind=2):WQ p=(p.field==0&&(p.nw.id==p.sign&&frm p.nw)):=by unfold WQ;rw [if_neg (by omega),if_pos h]
theorem zuE {p:Pt}(h:p.kind=3):WQ p=(p.field==0&&zm2 p.nw KU):=by unfold WQ;rw [if_neg (by omega),if_neg (by omega),if_pos h]
theorem zvm {p:Pt}(h1:p.kind≠1)(h2:p.kind≠2)(h3:p.kind≠3):(idB p&&WQ p)=false:=by unfold WQ;rw [if_neg h1,if_neg h2,if_neg h3,Bool.and_false]
theorem zk5 {fn fd tn td:Int}:(zrT fn fd != 0||zrT tn td != 0)= !(zbm fn fd&&zbm tn td):=by
 unfold zrT
 cases zbm fn fd<;>cases zbm tn td<;>rfl
def zs6 (an ad bn bd:Int):Int:=if zbm an ad&&zbm bn bd then 0 else 120
def zud (an ad bn bd:Int):Int:=if zbm an ad&&zbm bn bd then zez (an*bd) (bn*ad) else 0
theorem zre {fn fd tn td:Int}:(((zs6 fn fd tn td==0)&&decide (zud fn fd tn td<0))&&decide (fn≥0)&&decide (tn≤td))=znG fn fd tn td:=by
 unfold zs6 zud znG zez
 cases h:(zbm fn fd&&zbm tn td) with
 | false=>rfl
 | true=>
  simp only [if_true,Bool.true_and]
  by_cases h2:fn*td<tn*fd
  ·
   simp [h2]
  ·
   by_cases h3:fn*td>tn*fd<;>simp [h2,h3]
theorem zoa {xs:List Sg}{k:Nat}{x:Sg}(hx:xs[k]? =some x):skP xs k= !(!frm x||(decide ((k:Int)>0)&&decide ((xs.getD ((k:Int)-1).toNat KU).id≥x.id))):=by unfold skP;rw [V3 hx]
end
end Go.Proofs.YtjblkbkmblkgoaaGreat
namespace Go.Proofs.YtjblkbkmblkgoaaGreat.L
section
open Go Go.Kn Go.Proofs
structure Ls where
 no:Int
 person:Int
 version:Int
 at_:Int
 known:Int
def encL (x:Ls):List Value:=[.int .i64 x.no,.int .i64 x.person,.int .i64 x.version,.int .i64 x.at_,.int .i64 x.known]
def encA (x:Ls):Value:=.agg (encL x).toArray
def Yg (n:Int):List Value:=[.int .i64 n]
def zeroL:Ls:=⟨0,0,0,0,0⟩
theorem encL_len (x:Ls):(encL x).length=5:=rfl
theorem Zw (x:Int):(Yg x).length=1:=rfl
theorem zbk (xs:List Int):YZ (xs.flatMap Yg)=true:=YU (fun _=>rfl) xs
def lsEq (x y:Ls):Bool:=x.no==y.no&&(x.person==y.person&&(x.version==y.version&&(x.at_==y.at_&&(x.known==y.known&&true))))
theorem lsEq_iff {x y:Ls}:lsEq x y=true↔x=y:=by
 obtain ⟨a,b,c,d,e⟩:=x
 obtain ⟨a',b',c',d',e'⟩:=y
 simp [lsEq]
instance : DecidableEq Ls := fun a b => decidable_of_iff (lsEq a b = true) lsEq_iff
def within (n lo hi:Int):Bool:=decide (n≥lo)&&decide (n≤hi)
def zba (x:Ls):Bool:=within x.no 0 1048576&&within x.person 0 63&&within x.version 0 512&&within x.at_ 0 73048&&within x.known 0 134217727
def zuC (xs:List Ls)(i:Nat):Ls:=xs.getD ((i:Int)-1).toNat zeroL
def ckP (xs:List Ls)(i:Nat):Bool:= !(!zba (xs.getD i zeroL)||(decide ((i:Int)>0)&&decide ((xs.getD i zeroL).no≤(zuC xs i).no)))
def ckB (xs:List Ls):Bool:=(List.range xs.length).all (ckP xs)
def chk (xs:List Ls):Int:=if xs.length>4096 then 2 else if ckB xs then 0 else 390
theorem Ky {p:Nat→Bool}{k:Nat}(h:(List.range k).all p=true)(hp:p k=true):(List.range (k+1)).all p=true:=by
 rw [List.range_succ,List.all_append,h];simpa using hp
theorem K1 {p:Nat→Bool}{n k:Nat}(hk:k<n)(hp:p k=false):(List.range n).all p=false:=by
 cases h:(List.range n).all p with
 | false=>rfl
 | true=>
  rw [List.all_eq_true] at h
  rw [h k (List.mem_range.2 hk)] at hp;cases hp
theorem V3 {α:Type}{xs:List α}{k:Nat}{x d:α}(h:xs[k]? =some x):xs.getD k d=x:=by simp [List.getD,h]
theorem zaR {α:Type}{xs:List α}{n k:Nat}{d:α}(hl:xs.length=n)(h:k<n):xs[k]? =some (xs.getD k d):=by
 have:k<xs.length:=by omega
 unfold List.getD
 rw [List.getElem?_eq_getElem this];rfl
section
variable {xs:List Ls} {vss:List (List Int)} {person day time:Int} {ts:List Int}
end
theorem Xk {α:Type}{R:α→α→Prop}(ht:∀ a b c,R a b→R b c→R a c){l:List α}(h:∀ k (hk:k+1<l.length),R (l[k]'(by omega)) l[k+1]):l.Pairwise R:=by
 have key:∀ (n i:Nat) (hn:i+n<l.length),0<n→R (l[i]'(by omega)) l[i+n]:=by
  intro n
  induction n with
  | zero=>intro i _ h0;omega
  | succ n ih=>
   intro i hn _
   have h2:=h (i+n) (by omega)
   by_cases e:n=0
   ·
    subst e;exact h2
   ·
    exact ht _ _ _ (ih i (by omega) (by omega)) h2
 rw [List.pairwise_iff_getElem]
 intro i j hi hj hij
 have:=key (j-i) i (by omega) (by omega)
 simpa [show i+(j-i)=j by omega] using this
end
end Go.Proofs.YtjblkbkmblkgoaaGreat.L
namespace Go.Proofs.YtjblkbkmblkgoaaGreat.S
section
open Go Go.Kn
structure Rt where
 no:Int
 kind:Int
 edition:Int
 holder:Int
 sign:Int
 ends:Int
 name:ByteArray
 town:ByteArray
 lo:Int
 hi:Int
 known:Int
def encR (x:Rt):List Value:=[.int .i64 x.no,.int .i64 x.kind,.int .i64 x.edition,.int .i64 x.holder,.int .i64 x.sign,.int .i64 x.ends,.string x.name,.string x.town,.int .i64 x.lo,.int .i64 x.hi,.int .i64 x.known]
def encA (x:Rt):Value:=.agg (encR x).toArray
def Yg (n:Int):List Value:=[.int .i64 n]
def WX (p:Int×Int):List Value:=[.int .i64 p.1,.int .i64 p.2]
def zeroR:Rt:=⟨0,0,0,0,0,0,⟨#[]⟩,⟨#[]⟩,0,0,0⟩
theorem encR_len (x:Rt):(encR x).length=11:=rfl
theorem Zw (x:Int):(Yg x).length=1:=rfl
theorem J6 (x:Int×Int):(WX x).length=2:=rfl
def rtEq (x y:Rt):Bool:=
 x.no==y.no&&(x.kind==y.kind&&(x.edition==y.edition&&(x.holder==y.holder&&(x.sign==y.sign&&(x.ends==y.ends&&(Xb x.name y.name&&(Xb x.town y.town&&(x.lo==y.lo&&(x.hi==y.hi&&(x.known==y.known&&true))))))))))
theorem rtEq_iff {x y:Rt}:rtEq x y=true↔x=y:=by
 cases x;cases y
 simp only [rtEq,Bool.and_eq_true,beq_iff_eq,zde,Rt.mk.injEq,and_true]
def within (n lo hi:Int):Bool:=decide (lo≤n)&&decide (n≤hi)
def w64 (n:Int):Int:=IntKind.i64.wrap n
def zqr (x:Rt):Bool:=decide (x.lo≥0)&&decide (x.lo≤x.hi)&&decide (x.hi≤73048)&&within x.edition 0 1048576
def heldF (x:Rt):Bool:=rtEq x {x with ends:=0,name:=⟨#[]⟩,town:=⟨#[]⟩ }&&zqr x&&within x.holder 0 63&&within x.sign 0 1048577
def billF (x:Rt):Bool:=rtEq x {x with holder:=0,sign:=0,ends:=0}&&zqr x&&within x.name.size 1 32&&within x.town.size 1 32
def voidF (x:Rt)(bs:List (Int×Rt)):Bool:=match ZV bs (w64 (x.ends-1)) with
 | none=>false
 | some old=>(old.kind != 4)&&decide (old.known≤x.known)&&rtEq x {zeroR with no:=x.no,kind:=x.kind,ends:=x.ends,known:=x.known}
def ziX (k:Int):Bool:=k==1||k==2||k==3||k==4
def askF (k:Int)(x:Rt)(bs:List (Int×Rt)):Bool:=if k=1 then billF x else if k=2 then heldF x else if k=3 then heldF x else voidF x bs
def rBad (x:Rt)(bs:List (Int×Rt))(last:Int):Bool:= !ziX x.kind||decide (x.no≤last)||decide (x.no>1048576)|| !within x.known 0 134217727|| !askF x.kind x bs
def rGo:List Rt→List (Int×Rt)→Int→Int
 | [],_,_=>0
 | x::xs,bs,last=>if rBad x bs last then 460 else rGo xs (JF bs x.no x) x.no
def rCheck (xs:List Rt):Int:=if xs.length>512 then 2 else rGo xs [] (-1)
instance : DecidableEq Rt := fun a b => decidable_of_iff (rtEq a b = true) rtEq_iff
theorem Ww {α:Type}{xs:List α}{k:Nat}{x:α}(h:xs[k]? =some x):xs.drop k=x::xs.drop (k+1):=by
 obtain ⟨hk,rfl⟩:=List.getElem?_eq_some_iff.1 h
 exact List.drop_eq_getElem_cons hk
end
end Go.Proofs.YtjblkbkmblkgoaaGreat.S
namespace Go.Proofs.YtjblkbkmblkgoaaGreat
section
open Go Go.Kn Go.Proofs
structure Nt where
 kind:Int
 lm:Lm
 pt:Pt
 ls:L.Ls
 rt:S.Rt
def Zn (x:Nt):List Value:=[.int .i64 x.kind,.int .i64 x.lm.no,.int .i64 x.lm.person,.int .i64 x.lm.ends,.int .i64 x.lm.lo,.int .i64 x.lm.hi,.int .i64 x.lm.known,.int .i64 x.lm.ck,.int .i64 x.lm.cl,.int .i64 x.lm.cn,.int .i64 x.pt.id,.int .i64 x.pt.kind,.int .i64 x.pt.sign,.int .i64 x.pt.field,.int .i64 x.pt.nw.id,.int .i64 x.pt.nw.role,.int .i64 x.pt.nw.bar,.int .i64 x.pt.nw.mark,.int .i64 x.pt.nw.kind,.int .i64 x.pt.nw.side,.int .i64 x.pt.nw.dir,.int .i64 x.pt.nw.level,.int .i64 x.pt.nw.size,.int .i64 x.pt.nw.wth,.int .i64 x.pt.nw.fn,.int .i64 x.pt.nw.fd,.int .i64 x.pt.nw.tn,.int .i64 x.pt.nw.td,.slice x.pt.a x.pt.n x.pt.c,.int .i64 x.ls.no,.int .i64 x.ls.person,.int .i64 x.ls.version,.int .i64 x.ls.at_,.int .i64 x.ls.known,.int .i64 x.rt.no,.int .i64 x.rt.kind,.int .i64 x.rt.edition,.int .i64 x.rt.holder,.int .i64 x.rt.sign,.int .i64 x.rt.ends,.string x.rt.name,.string x.rt.town,.int .i64 x.rt.lo,.int .i64 x.rt.hi,.int .i64 x.rt.known]
def JL (x:Nt):Value:=.agg (Zn x).toArray
theorem Q5 (x:Nt):(Zn x).length=45:=rfl
theorem zoK (xs:List S.Rt):YZ (xs.flatMap S.encR)=true:=YU (fun _=>rfl) xs
theorem W0 (xs:List Nt):YZ (xs.flatMap Zn)=true:=YU (fun _=>rfl) xs
def zcZ:Nt:=⟨0,V1,JM,L.zeroL,S.zeroR⟩
def znn (x y:Lm):Bool:=x.no==y.no&&(x.person==y.person&&(x.ends==y.ends&&(x.lo==y.lo&&(x.hi==y.hi&&(x.known==y.known&&(x.ck==y.ck&&(x.cl==y.cl&&(x.cn==y.cn&&true))))))))
theorem zlE {x y:Lm}:znn x y=true↔x=y:=by
 obtain ⟨a1,a2,a3,a4,a5,a6,a7,a8,a9⟩:=x
 obtain ⟨b1,b2,b3,b4,b5,b6,b7,b8,b9⟩:=y
 simp [znn]
def z1 (x:Nt):Bool:=znn x.lm V1
def z2 (x:Nt):Bool:=((((x.pt.id==0&&x.pt.kind==0)&&x.pt.sign==0)&&x.pt.field==0)&&zm2 x.pt.nw KU)&&((x.pt.n:Int)==0)
def z3 (x:Nt):Bool:=L.lsEq x.ls L.zeroL
def z4 (x:Nt):Bool:=S.rtEq x.rt S.zeroR
def zgU (x:Nt):Bool:=(((x.kind==1||z1 x)&&(x.kind==2||z2 x))&&(x.kind==3||z3 x))&&(x.kind==4||z4 x)
theorem WL {m:List (Int×Bool)}{k j:Int}{b:Bool}(h:ZV m j=some b):(ZV (JF m k true) j).getD false=(k==j||b):=by
 rw [KY]
 by_cases e:k=j
 ·
  simp [e]
 ·
  rw [if_neg e,h];simp [e]
theorem zmS {m:List (Int×Bool)}{x:Nt}(h1:ZV m 1=some (z1 x))(h2:ZV m 2=some (z2 x))(h3:ZV m 3=some (z3 x))(h4:ZV m 4=some (z4 x)):
  (((ZV (JF m x.kind true) 1).getD false&&(ZV (JF m x.kind true) 2).getD false)&&(ZV (JF m x.kind true) 3).getD false&&(ZV (JF m x.kind true) 4).getD false)=zgU x:=by
 rw [WL h1,WL h2,WL h3,WL h4];rfl
def lmC (x:Lm):List Lm:=if x.ends=0 then [x] else [⟨IntKind.i64.wrap (x.ends-1),x.person,0,0,0,0,3,0,1⟩,x]
def rtC (x:S.Rt):List S.Rt:=if x.ends=0 then [x] else [⟨IntKind.i64.wrap (x.ends-1),1,0,0,0,0,⟨#[97]⟩,⟨#[97]⟩,0,0,0⟩,x]
def zbA (x:Nt):Int:=if x.kind=1 then zhJ (lmC x.lm) else if x.kind=2 then KV x.pt else if x.kind=3 then L.chk [x.ls] else if x.kind=4 then S.rCheck (rtC x.rt) else 570
def Q7 (x:Nt):Bool:=zbA x==0&&zgU x
def vcI (n:Int):Vc:=⟨1,n,⟨#[]⟩,none,0,0⟩
def vcT (s:ByteArray):Vc:=⟨2,0,s,none,0,0⟩
def zwG (v:Value):Value:=.agg #[.int .i64 3,.int .i64 0,.string ⟨#[]⟩,v]
def zhF:List Nat:=[0,1,2,3,4,5,6,7,8,9,10,11,12,13,14,15,16,17,18,19,20,21,22,23,24,25,26,27,29,30,31,32,33,34,35,36,37,38,39,42,43,44]
def zqS (b:Nat):List Value:=zhF.map fun o=>.pointer (some ⟨b,o,none⟩)
def zvT (b:Nat):Value:=.agg (zqS b).toArray
end
end Go.Proofs.YtjblkbkmblkgoaaGreat
namespace Go.Kn
section
open Go Go.Sort Go.Shelf Go.Lib Go.Proofs
theorem zma {w w':World}{L:Loc}(h:St w (fun b=>w.heap[b]?) (fun _=>none) L w'):∃ q os',w'=grow (w.drewN q) os':=by
 refine ⟨w'.drawn-w.drawn,w'.heap.extract w.heap.size w'.heap.size,?_⟩
 have h1:=h.size
 have hh:w.heap++w'.heap.extract w.heap.size w'.heap.size=w'.heap:=by
  apply Array.ext'
  apply List.ext_getElem?
  intro i
  by_cases hi:i<w.heap.size
  ·
   have:=h.imm i _ (Array.getElem?_eq_getElem hi)
   rw [Array.getElem?_toList,Array.getElem?_toList,this,Array.getElem?_append_left hi,Array.getElem?_eq_getElem hi]
  ·
   rw [Array.getElem?_toList,Array.getElem?_toList,Array.getElem?_append_right (by omega),Array.getElem?_extract]
   by_cases h2:i<w'.heap.size
   ·
    rw [if_pos (by omega),show w.heap.size+(i-w.heap.size)=i by omega]
   ·
    rw [if_neg (by omega),Array.getElem?_eq_none (by omega)]
 have e1:=h.os;have e2:=h.tape;have e3:=h.out
 cases w;cases w'
 simp only [grow,World.drewN] at*
 subst e1;subst e2;subst e3
 simp only [World.mk.injEq,true_and,and_true]
 exact ⟨hh.symm,by omega⟩
theorem ziO {α:Type}[Inhabited α]{enc:α→List Value}{k:Nat}(hk:∀ x,(enc x).length=k)(hpos:0<k)(xs:List α):flatK enc k xs.toArray=(xs.flatMap enc).toArray:=by
 have hl:(xs.flatMap enc).length=xs.length*k:=YO hk xs
 apply Array.ext
 ·
  rw [size_flatK];simp [hl]
 ·
  intro t h1 h2
  have ht:t<xs.length*k:=by rw [size_flatK] at h1;simpa using h1
  have hq:t / k<xs.length:=by rw [Nat.div_lt_iff_lt_mul hpos];exact ht
  have hr:t % k<k:=Nat.mod_lt _ hpos
  have hx:xs[t / k]? =some xs[t / k]:=List.getElem?_eq_getElem hq
  have hu:(enc xs[t / k])[t % k]? =some ((enc xs[t / k])[t % k]'(by rw [hk];exact hr)):=List.getElem?_eq_getElem _
  have h3:=zao hk xs (t / k) _ hx (t % k) _ hu
  rw [Nat.mul_comm,Nat.div_add_mod] at h3
  have h4:=get_flatK enc k xs.toArray t (by simpa using ht)
  rw [getElem!_pos (flatK enc k xs.toArray) t h1] at h4
  rw [h4]
  have e1:xs.toArray[t / k]! =xs[t / k]'hq:=by simp [hq]
  rw [e1]
  have e2:(enc (xs[t / k]'hq))[t % k]! =(enc (xs[t / k]'hq))[t % k]'(by rw [hk];exact hr):=getElem!_pos (enc (xs[t / k]'hq)) (t % k) (by rw [hk];exact hr)
  rw [e2]
  have e3:(xs.flatMap enc).toArray[t]? =some ((enc xs[t / k])[t % k]'(by rw [hk];exact hr)):=by simpa using h3
  rw [Array.getElem?_eq_getElem h2] at e3
  exact (Option.some.inj e3).symm
end
end Go.Kn
namespace Go.Proofs.YtjblkbkmblkgoaaGreat
section
open Go Go.Kn Go.Proofs
theorem Vf:ElT Tryz.prog 57 45 45 392:=.of (by kernel_rfl)
theorem Wu:ElT Tryz.prog 62 32 9 72:=.of (by kernel_rfl)
theorem We:ElT Tryz.prog 65 43 11 104:=.of (by kernel_rfl)
theorem Zu:SlT Tryz.prog 57 45 45:=.of (by kernel_rfl)
theorem YW:SlT Tryz.prog 65 43 11:=.of (by kernel_rfl)
theorem znf:Tryz.prog.underlying 3=some (.int .i64):=by kernel_rfl
theorem ziy {zs:List Value}{a b:Nat}(h:a+b≤zs.length):∃ p q r,zs=p++(q++r)∧p.length=a∧q.length=b:=
 ⟨zs.take a,(zs.drop a).take b,(zs.drop a).drop b,by rw [List.take_append_drop,List.take_append_drop],by rw [List.length_take];omega,by rw [List.length_take,List.length_drop];omega⟩
theorem zmx (xs:List Lm):(xs.flatMap ZL).length=xs.length*9:=YO Yt xs
theorem zcl {b n c:Nat}{xs:List Lm}{cur rest:List Value}(hl:xs.length=n)(hn:n≤c)(hc:c≤maxLen)(hcur:cur=xs.flatMap ZL++rest)(hs:cur.length=c*9):Ym 32 9 (.slice (some ⟨b,0,none⟩) n c) n (xs.flatMap ZL) [(b,.cells cur.toArray 32 (0,0))]:=by
 subst hcur
 refine ⟨by rw [zmx,hl],.inr ⟨b,c,_,rfl,rfl,hn,hc,by simpa using hs,?_⟩⟩
 rw [List.take_left' (by rw [zmx,hl])]
theorem zhm {I:Qv}{av:Option Addr}{n c:Nat}{xs:List Lm}{L:Go.Kn.Loc}(hO:Ym 32 9 (.slice av n c) n (xs.flatMap ZL) L)(hn:n≤100000)(hl:xs.length=n)(b2:Nat)(y:Lm):Vl Tryz.prog 170 [.slice av n c,.int .i64 n,.slice (some ⟨b2,0,none⟩) 1 1] I (L++[(b2,.cells [ZL y].flatten.toArray 32 (0,0))]) (fun v' I' L'=>I'=I∧Ym 32 9 v' (n+1) ((xs.take n++y::xs.drop n).flatMap ZL) L'):=by
 intro g H w hw
 refine qe Tryz.func170 Tryz.ntmps170 hw ?_
 refine zR (zA ?_)
 refine zN (zR ?_)
 refine zM ?_
 refine zM ?_
 refine zV (Vh rfl rfl YH (fun hg=>by omega)) ?_
 refine zN (zR ?_)
 refine zM ?_
 refine zQ YH ?_
 refine zA (zN (Qr (zR ?_)))
 refine zM ?_
 refine zC (zN ?_)
 refine zI ?_ ?_<;>intro hc16
 ·
  exact absurd hc16 (by decide)
 refine Qw (Qc (zR (zM ?_)))
 refine zQ YH ?_
 refine zA (zN (Qr (zR ?_)))
 refine zM ?_
 refine zM ?_
 refine zC (zN ?_)
 refine zI ?_ ?_<;>intro hc22
 ·
  refine zR (zM ?_)
  refine zM ?_
  refine QW (v:=_) (ys:=[ZL y].flatten) (L:=L) rfl rfl Wu hO (by repeat (first | exact .cons .here .nil | exact Qu | exact Qq | apply Qo | apply Qn)) ⟨rfl,fun _=>rfl,.app zwO⟩ rfl (by omega) rfl rfl ?_
  intro v' L' hO' _
  refine zA (zN (QF (Qi ?_)))
  exact QR rfl rfl (fun w hw=>⟨_,I,_,rfl,zwQ _,hw.subL QO,rfl,by rw [List.take_of_length_le (by omega),List.drop_eq_nil_of_le (by omega)];simpa [List.flatMap_append] using hO'⟩)
 exact absurd hc22 (by simp)
theorem zi2 {I:Qv}{b n c i:Nat}{xs:List Lm}{R:List Value}(hl:xs.length=n)(hi:i<n)(hn:n≤100000)(hnc:n≤c)(hcm:c≤maxLen)(hR:(((xs.take i).flatMap ZL)++((xs.drop i).flatMap ZL)++R).length=c*9)(b2:Nat)(hne:b2≠b)(y:Lm):Vl Tryz.prog 170 [.slice (some ⟨b,0,none⟩) n c,.int .i64 i,.slice (some ⟨b2,0,none⟩) 1 1] I ([(b,.cells (((xs.take i).flatMap ZL)++((xs.drop i).flatMap ZL)++R).toArray 32 (0,0)),(b2,.cells [ZL y].flatten.toArray 32 (0,0))]) (fun v' I' L'=>I'=I∧Ym 32 9 v' (n+1) ((xs.take i++y::xs.drop i).flatMap ZL) L'):=by
 intro g H w hw
 refine qe Tryz.func170 Tryz.ntmps170 hw ?_
 have hA:((xs.take i).flatMap ZL).length=i*9:=by rw [zmx,List.length_take];omega
 have hB:((xs.drop i).flatMap ZL).length=(n-i)*9:=by rw [zmx,List.length_drop];omega
 have hY:[ZL y].flatten.length=9:=rfl
 refine zR (zA ?_)
 refine zN (zR ?_)
 refine zM ?_
 refine zM ?_
 refine zV (Zy rfl rfl YH (by omega)) ?_
 refine zN (zR ?_)
 refine zM ?_
 refine zQ YH ?_
 refine zA (zN (Qr (zR ?_)))
 refine zM ?_
 refine zC (zN ?_)
 refine zI ?_ ?_<;>intro hc16
 ·
  exact absurd hc16 (by decide)
 refine Qw (Qc (zR (zM ?_)))
 refine zQ YH ?_
 refine zA (zN (Qr (zR ?_)))
 refine zM ?_
 refine zM ?_
 refine zC (zN ?_)
 refine zI ?_ ?_<;>intro hc22
 ·
  have h:=hc22;simp at h;omega
 refine Qw (Qc (Qr (zR (zM ?_))))
 refine zM ?_
 refine zB ?_
 refine zM ?_
 refine zV (zj6 rfl YH) ?_
 refine zC (zN ?_)
 refine zI ?_ ?_<;>intro hc31
 ·
  have hgr:c<n+1:=by have h:=hc31;simp at h;omega
  refine zR (zM ?_)
  refine zM ?_
  refine zV (VS rfl rfl YH (fun hg=>by omega)) ?_
  refine zM ?_
  refine zM ?_
  refine zB ?_
  refine zM ?_
  refine zB ?_
  refine W7 (ys:=((xs.take i).flatMap ZL)) rfl rfl Wu znf (by omega) (by decide) (by omega) hA (Cells.part (pre:=[]) (post:=((xs.drop i).flatMap ZL)++R) (by rw [List.nil_append,←List.append_assoc];exact .here) rfl) (by omega) rfl rfl (fun b3 c3 zs hc3 hm3 hz3=>?_)
  obtain ⟨z1,z2,z3,rfl,hz1,hz2⟩:=ziy (zs:=zs) (a:=9) (b:=(n-i)*9) (by rw [List.length_append,hA] at hz3;omega)
  refine zA ?_
  refine zN (zR ?_)
  refine zM ?_
  refine zM ?_
  refine zV (Zy rfl rfl YH (by omega)) ?_
  refine zM ?_
  refine Ju (pre:=((xs.take i).flatMap ZL)) (old:=z1) (post:=z2++z3) (vs:=[ZL y].flatten) (cur':=(((xs.take i).flatMap ZL)++[ZL y].flatten++(z2++z3)).toArray) (by rw [List.append_assoc]) rfl rfl rfl YH (by show 9=_;simp only [Nat.min_def];split<;>omega) (by rw [hz1];rfl) (by omega) (fun _=>rfl) (.there (.there .here)) rfl rfl rfl .here ?_
  refine zN (Qr ?_)
  have hD:=zwQ I
  refine ZK ?_
  refine QZ I [] mixed ?_
  refine zT 0 rfl (Qh rfl) hD ?_
  refine zT 1 rfl (Qh rfl) hD ?_
  refine zT 2 rfl (Qh rfl) hD ?_
  refine zT 3 rfl (VZ rfl rfl rfl (fun _=>by omega)) hD ?_
  refine zT 4 rfl (Zy rfl rfl YH (by omega)) hD ?_
  refine zT 5 rfl (Qh rfl) hD ?_
  refine zT 6 rfl (Qh rfl) hD ?_
  refine zT 7 rfl (Zy rfl rfl YH (by omega)) hD ?_
  refine qd 8 rfl ?_
  refine Ju (pre:=((xs.take i).flatMap ZL)++[ZL y].flatten) (old:=z2) (post:=z3) (vs:=((xs.drop i).flatMap ZL)) (cur':=(((xs.take i).flatMap ZL)++[ZL y].flatten++((xs.drop i).flatMap ZL)++z3).toArray) (by rw [List.append_assoc,List.append_assoc,List.append_assoc]) rfl rfl rfl YH (by rw [hB];simp only [Nat.min_def];split<;>omega) (by rw [hz2,hB]) (by rw [List.length_append,hA,hY];omega) (fun _=>rfl) (.there (Cells.part (pre:=((xs.take i).flatMap ZL)) (post:=R) .here (by show 0+_=_;rw [hA];omega))) (zoc _) rfl rfl .here ?_
  refine Qb ?_
  refine zD hD ?_
  refine Qm (by kernel_rfl) ?_
  refine QA ?_
  refine Qc (zR (zM ?_))
  refine zA (zN (QF (Qi ?_)))
  first
  | exact QR rfl rfl (fun w hw=>⟨_,I,_,rfl,zwQ _,hw.subL (.keep Qe),rfl,by rw [show (i:Int).toNat+((n:Int)+((1:Nat):Int)-(i:Int)).toNat=n+1 by omega];exact zcl (rest:=z3) (by simp [hl];omega) (by omega) hm3 (by simp [List.flatMap_append,List.flatMap_cons]) (by simp only [List.length_append,hA,hB,hz1,hz2] at hz3 ⊢;rw [hY];omega)⟩)
 have hgr:n+1≤c:=by have h:=hc31;simp at h;omega
 refine Qw (Qc (Qr ?_))
 obtain ⟨r5,R2,rfl,hr5⟩:∃ r5 R2,R=r5++R2∧r5.length=9:=⟨R.take 9,R.drop 9,by rw [List.take_append_drop],by rw [List.length_take];simp only [List.length_append,hA,hB] at hR;omega⟩
 obtain ⟨p1,p2,hpp,hp1,hp2⟩:∃ p1 p2,((xs.drop i).flatMap ZL)++r5=p1++p2∧p1.length=9∧p2.length=(n-i)*9:=⟨(((xs.drop i).flatMap ZL)++r5).take 9,(((xs.drop i).flatMap ZL)++r5).drop 9,by rw [List.take_append_drop],by rw [List.length_take,List.length_append,hB,hr5];omega,by rw [List.length_drop,List.length_append,hB,hr5];omega⟩
 have hcur:(((xs.take i).flatMap ZL)++((xs.drop i).flatMap ZL)++(r5++R2)).toArray=(((xs.take i).flatMap ZL)++p1++p2++R2).toArray:=by rw [List.append_assoc (((xs.take i).flatMap ZL)++p1),List.append_assoc ((xs.take i).flatMap ZL) p1,←List.append_assoc p1,←hpp];simp only [List.append_assoc]
 refine Qk (zM ?_)
 refine zM ?_
 refine zM ?_
 refine zB ?_
 refine zV (VS rfl rfl YH (fun hg=>by omega)) ?_
 refine zA (zN (Qr (zR ?_)))
 refine zM ?_
 refine zM ?_
 refine zM ?_
 refine zM ?_
 refine zB ?_
 refine zV (Zy rfl rfl YH (by omega)) ?_
 refine UR rfl rfl rfl Tryz.func222 (by kernel_rfl) (by kernel_rfl) (by kernel_rfl) (by kernel_rfl:Extern.find Tryz.f222=some (Extern.SlicesOverlaps.overlaps #[62,62] #[4])) YH hne (List.mem_cons_of_mem _ (List.mem_cons_self ..)) (List.mem_cons_self ..) (by rw [List.size_toArray,hR];omega) rfl rfl ?_
 refine zO (zN ?_)
 refine zI ?_ ?_<;>intro hc68
 ·
  refine Qr ?_
  have hD:=zwQ I
  refine ZK ?_
  refine QZ I [] mixed ?_
  refine zT 0 rfl (Qh rfl) hD ?_
  refine zT 1 rfl (Qh rfl) hD ?_
  refine zT 2 rfl (Qh rfl) hD ?_
  refine zT 3 rfl (VZ rfl rfl rfl (fun _=>by omega)) hD ?_
  refine zT 4 rfl (Zy rfl rfl YH (by omega)) hD ?_
  refine zT 5 rfl (Qh rfl) hD ?_
  refine zT 6 rfl (Qh rfl) hD ?_
  refine zT 7 rfl (Zy rfl rfl YH (by omega)) hD ?_
  refine qd 8 rfl ?_
  refine Ju (pre:=((xs.take i).flatMap ZL)++p1) (old:=p2) (post:=R2) (vs:=((xs.drop i).flatMap ZL)) (cur':=(((xs.take i).flatMap ZL)++p1++((xs.drop i).flatMap ZL)++R2).toArray) hcur rfl rfl rfl YH (by rw [hB];simp only [Nat.min_def];split<;>omega) (by rw [hp2,hB]) (by rw [List.length_append,hA,hp1];omega) (fun _=>rfl) (Cells.part (pre:=((xs.take i).flatMap ZL)) (post:=r5++R2) .here (by show 0+_=_;rw [hA];omega)) (zoc _) rfl rfl .here ?_
  refine Qb ?_
  refine zD hD ?_
  refine Qm (by kernel_rfl) ?_
  refine QA ?_
  refine Qc (zR (zM ?_))
  refine zM ?_
  refine zV (Zy rfl rfl YH (by omega)) ?_
  refine zM ?_
  refine Ju (pre:=((xs.take i).flatMap ZL)) (old:=p1) (post:=((xs.drop i).flatMap ZL)++R2) (vs:=[ZL y].flatten) (cur':=(((xs.take i).flatMap ZL)++[ZL y].flatten++(((xs.drop i).flatMap ZL)++R2)).toArray) (by rw [List.append_assoc (_++_)]) rfl rfl rfl YH (by show 9=_;simp only [Nat.min_def];split<;>omega) (by rw [hp1];rfl) (by omega) (fun _=>rfl) (.there .here) rfl rfl rfl .here ?_
  refine zN (zR ?_)
  refine zM ?_
  refine zA (zN (QF (Qi ?_)))
  first
  | exact QR rfl rfl (fun w hw=>⟨_,I,_,rfl,zwQ _,hw.subL (.keep Qe),rfl,by rw [show ((n:Int)+((1:Nat):Int)).toNat=n+1 by omega];exact zcl (rest:=R2) (by simp [hl];omega) hgr hcm (by simp [List.flatMap_append,List.flatMap_cons]) (by simp only [List.length_append,hA,hB,hr5] at hR ⊢;rw [hY];omega)⟩)
 cases hc68
theorem zlv {I:Qv}{v:Value}{n:Nat}{xs:List Lm}{L:Go.Kn.Loc}(hO:Ym 32 9 v n (xs.flatMap ZL) L)(hn:n≤100000)(hl:xs.length=n){i:Nat}(hi:i≤n)(b2:Nat)(y:Lm):
  Vl Tryz.prog 170 [v,.int .i64 i,.slice (some ⟨b2,0,none⟩) 1 1] I (L++[(b2,.cells [ZL y].flatten.toArray 32 (0,0))]) (fun v' I' L'=>I'=I∧Ym 32 9 v' (n+1) ((xs.take i++y::xs.drop i).flatMap ZL) L'):=by
 by_cases hin:i=n
 ·
  subst hin
  obtain ⟨av,c,rfl⟩:=hO.shape
  exact zhm hO hn hl b2 y
 rcases hO.2 with ⟨_,h0,_⟩ | ⟨b,c,cur,rfl,rfl,hnc,hcm,hcs,ht⟩
 ·
  omega
 intro g H w hw
 have hne:b2≠b:=fun e=>by
  have:=hw.nodup
  subst e
  simp at this
 have hsplit:(xs.take i).flatMap ZL++(xs.drop i).flatMap ZL=xs.flatMap ZL:=by rw [←List.flatMap_append,List.take_append_drop]
 have hcur:cur=((xs.take i).flatMap ZL++(xs.drop i).flatMap ZL++cur.toList.drop (n*9)).toArray:=by
  rw [hsplit,←ht,List.take_append_drop,Array.toArray_toList]
 rw [hcur] at hw
 exact zi2 hl (by omega) hn hnc hcm (by rw [hsplit,←ht,List.take_append_drop,Array.length_toList,hcs]) b2 hne y g H w hw
theorem znl (xs:List S.Rt):(xs.flatMap S.encR).length=xs.length*11:=YO S.encR_len xs
theorem zcF {b n c:Nat}{xs:List S.Rt}{cur rest:List Value}(hl:xs.length=n)(hn:n≤c)(hc:c≤maxLen)(hcur:cur=xs.flatMap S.encR++rest)(hs:cur.length=c*11):Ym 43 11 (.slice (some ⟨b,0,none⟩) n c) n (xs.flatMap S.encR) [(b,.cells cur.toArray 43 (0,0))]:=by
 subst hcur
 refine ⟨by rw [znl,hl],.inr ⟨b,c,_,rfl,rfl,hn,hc,by simpa using hs,?_⟩⟩
 rw [List.take_left' (by rw [znl,hl])]
theorem zhy {I:Qv}{av:Option Addr}{n c:Nat}{xs:List S.Rt}{L:Go.Kn.Loc}(hO:Ym 43 11 (.slice av n c) n (xs.flatMap S.encR) L)(hn:n≤100000)(hl:xs.length=n)(b2:Nat)(y:S.Rt):Vl Tryz.prog 171 [.slice av n c,.int .i64 n,.slice (some ⟨b2,0,none⟩) 1 1] I (L++[(b2,.cells [S.encR y].flatten.toArray 43 (0,0))]) (fun v' I' L'=>I'=I∧Ym 43 11 v' (n+1) ((xs.take n++y::xs.drop n).flatMap S.encR) L'):=by
 intro g H w hw
 refine qe Tryz.func171 Tryz.ntmps171 hw ?_
 refine zR (zA ?_)
 refine zN (zR ?_)
 refine zM ?_
 refine zM ?_
 refine zV (Vh rfl rfl YW (fun hg=>by omega)) ?_
 refine zN (zR ?_)
 refine zM ?_
 refine zQ YW ?_
 refine zA (zN (Qr (zR ?_)))
 refine zM ?_
 refine zC (zN ?_)
 refine zI ?_ ?_<;>intro hc16
 ·
  exact absurd hc16 (by decide)
 refine Qw (Qc (zR (zM ?_)))
 refine zQ YW ?_
 refine zA (zN (Qr (zR ?_)))
 refine zM ?_
 refine zM ?_
 refine zC (zN ?_)
 refine zI ?_ ?_<;>intro hc22
 ·
  refine zR (zM ?_)
  refine zM ?_
  refine QW (v:=_) (ys:=[S.encR y].flatten) (L:=L) rfl rfl We hO (by repeat (first | exact .cons .here .nil | exact Qu | exact Qq | apply Qo | apply Qn)) ⟨rfl,fun _=>rfl,.app zwO⟩ rfl (by omega) rfl rfl ?_
  intro v' L' hO' _
  refine zA (zN (QF (Qi ?_)))
  exact QR rfl rfl (fun w hw=>⟨_,I,_,rfl,zwQ _,hw.subL QO,rfl,by rw [List.take_of_length_le (by omega),List.drop_eq_nil_of_le (by omega)];simpa [List.flatMap_append] using hO'⟩)
 exact absurd hc22 (by simp)
theorem zir {I:Qv}{b n c i:Nat}{xs:List S.Rt}{R:List Value}(hl:xs.length=n)(hi:i<n)(hn:n≤100000)(hnc:n≤c)(hcm:c≤maxLen)(hR:(((xs.take i).flatMap S.encR)++((xs.drop i).flatMap S.encR)++R).length=c*11)(b2:Nat)(hne:b2≠b)(y:S.Rt):Vl Tryz.prog 171 [.slice (some ⟨b,0,none⟩) n c,.int .i64 i,.slice (some ⟨b2,0,none⟩) 1 1] I ([(b,.cells (((xs.take i).flatMap S.encR)++((xs.drop i).flatMap S.encR)++R).toArray 43 (0,0)),(b2,.cells [S.encR y].flatten.toArray 43 (0,0))]) (fun v' I' L'=>I'=I∧Ym 43 11 v' (n+1) ((xs.take i++y::xs.drop i).flatMap S.encR) L'):=by
 intro g H w hw
 refine qe Tryz.func171 Tryz.ntmps171 hw ?_
 have hA:((xs.take i).flatMap S.encR).length=i*11:=by rw [znl,List.length_take];omega
 have hB:((xs.drop i).flatMap S.encR).length=(n-i)*11:=by rw [znl,List.length_drop];omega
 have hY:[S.encR y].flatten.length=11:=rfl
 refine zR (zA ?_)
 refine zN (zR ?_)
 refine zM ?_
 refine zM ?_
 refine zV (Zy rfl rfl YW (by omega)) ?_
 refine zN (zR ?_)
 refine zM ?_
 refine zQ YW ?_
 refine zA (zN (Qr (zR ?_)))
 refine zM ?_
 refine zC (zN ?_)
 refine zI ?_ ?_<;>intro hc16
 ·
  exact absurd hc16 (by decide)
 refine Qw (Qc (zR (zM ?_)))
 refine zQ YW ?_
 refine zA (zN (Qr (zR ?_)))
 refine zM ?_
 refine zM ?_
 refine zC (zN ?_)
 refine zI ?_ ?_<;>intro hc22
 ·
  have h:=hc22;simp at h;omega
 refine Qw (Qc (Qr (zR (zM ?_))))
 refine zM ?_
 refine zB ?_
 refine zM ?_
 refine zV (zj6 rfl YW) ?_
 refine zC (zN ?_)
 refine zI ?_ ?_<;>intro hc31
 ·
  have hgr:c<n+1:=by have h:=hc31;simp at h;omega
  refine zR (zM ?_)
  refine zM ?_
  refine zV (VS rfl rfl YW (fun hg=>by omega)) ?_
  refine zM ?_
  refine zM ?_
  refine zB ?_
  refine zM ?_
  refine zB ?_
  refine W7 (ys:=((xs.take i).flatMap S.encR)) rfl rfl We znf (by omega) (by decide) (by omega) hA (Cells.part (pre:=[]) (post:=((xs.drop i).flatMap S.encR)++R) (by rw [List.nil_append,←List.append_assoc];exact .here) rfl) (by omega) rfl rfl (fun b3 c3 zs hc3 hm3 hz3=>?_)
  obtain ⟨z1,z2,z3,rfl,hz1,hz2⟩:=ziy (zs:=zs) (a:=11) (b:=(n-i)*11) (by rw [List.length_append,hA] at hz3;omega)
  refine zA ?_
  refine zN (zR ?_)
  refine zM ?_
  refine zM ?_
  refine zV (Zy rfl rfl YW (by omega)) ?_
  refine zM ?_
  refine Ju (pre:=((xs.take i).flatMap S.encR)) (old:=z1) (post:=z2++z3) (vs:=[S.encR y].flatten) (cur':=(((xs.take i).flatMap S.encR)++[S.encR y].flatten++(z2++z3)).toArray) (by rw [List.append_assoc]) rfl rfl rfl YW (by show 11=_;simp only [Nat.min_def];split<;>omega) (by rw [hz1];rfl) (by omega) (fun _=>rfl) (.there (.there .here)) rfl rfl rfl .here ?_
  refine zN (Qr ?_)
  have hD:=zwQ I
  refine ZK ?_
  refine QZ I [] mixed ?_
  refine zT 0 rfl (Qh rfl) hD ?_
  refine zT 1 rfl (Qh rfl) hD ?_
  refine zT 2 rfl (Qh rfl) hD ?_
  refine zT 3 rfl (VZ rfl rfl rfl (fun _=>by omega)) hD ?_
  refine zT 4 rfl (Zy rfl rfl YW (by omega)) hD ?_
  refine zT 5 rfl (Qh rfl) hD ?_
  refine zT 6 rfl (Qh rfl) hD ?_
  refine zT 7 rfl (Zy rfl rfl YW (by omega)) hD ?_
  refine qd 8 rfl ?_
  refine Ju (pre:=((xs.take i).flatMap S.encR)++[S.encR y].flatten) (old:=z2) (post:=z3) (vs:=((xs.drop i).flatMap S.encR)) (cur':=(((xs.take i).flatMap S.encR)++[S.encR y].flatten++((xs.drop i).flatMap S.encR)++z3).toArray) (by rw [List.append_assoc,List.append_assoc,List.append_assoc]) rfl rfl rfl YW (by rw [hB];simp only [Nat.min_def];split<;>omega) (by rw [hz2,hB]) (by rw [List.length_append,hA,hY];omega) (fun _=>rfl) (.there (Cells.part (pre:=((xs.take i).flatMap S.encR)) (post:=R) .here (by show 0+_=_;rw [hA];omega))) (zoK _) rfl rfl .here ?_
  refine Qb ?_
  refine zD hD ?_
  refine Qm (by kernel_rfl) ?_
  refine QA ?_
  refine Qc (zR (zM ?_))
  refine zA (zN (QF (Qi ?_)))
  first
  | exact QR rfl rfl (fun w hw=>⟨_,I,_,rfl,zwQ _,hw.subL (.keep Qe),rfl,by rw [show (i:Int).toNat+((n:Int)+((1:Nat):Int)-(i:Int)).toNat=n+1 by omega];exact zcF (rest:=z3) (by simp [hl];omega) (by omega) hm3 (by simp [List.flatMap_append,List.flatMap_cons]) (by simp only [List.length_append,hA,hB,hz1,hz2] at hz3 ⊢;rw [hY];omega)⟩)
 have hgr:n+1≤c:=by have h:=hc31;simp at h;omega
 refine Qw (Qc (Qr ?_))
 obtain ⟨r5,R2,rfl,hr5⟩:∃ r5 R2,R=r5++R2∧r5.length=11:=⟨R.take 11,R.drop 11,by rw [List.take_append_drop],by rw [List.length_take];simp only [List.length_append,hA,hB] at hR;omega⟩
 obtain ⟨p1,p2,hpp,hp1,hp2⟩:∃ p1 p2,((xs.drop i).flatMap S.encR)++r5=p1++p2∧p1.length=11∧p2.length=(n-i)*11:=⟨(((xs.drop i).flatMap S.encR)++r5).take 11,(((xs.drop i).flatMap S.encR)++r5).drop 11,by rw [List.take_append_drop],by rw [List.length_take,List.length_append,hB,hr5];omega,by rw [List.length_drop,List.length_append,hB,hr5];omega⟩
 have hcur:(((xs.take i).flatMap S.encR)++((xs.drop i).flatMap S.encR)++(r5++R2)).toArray=(((xs.take i).flatMap S.encR)++p1++p2++R2).toArray:=by rw [List.append_assoc (((xs.take i).flatMap S.encR)++p1),List.append_assoc ((xs.take i).flatMap S.encR) p1,←List.append_assoc p1,←hpp];simp only [List.append_assoc]
 refine Qk (zM ?_)
 refine zM ?_
 refine zM ?_
 refine zB ?_
 refine zV (VS rfl rfl YW (fun hg=>by omega)) ?_
 refine zA (zN (Qr (zR ?_)))
 refine zM ?_
 refine zM ?_
 refine zM ?_
 refine zM ?_
 refine zB ?_
 refine zV (Zy rfl rfl YW (by omega)) ?_
 refine UR rfl rfl rfl Tryz.func224 (by kernel_rfl) (by kernel_rfl) (by kernel_rfl) (by kernel_rfl:Extern.find Tryz.f224=some (Extern.SlicesOverlaps.overlaps #[65,65] #[4])) YW hne (List.mem_cons_of_mem _ (List.mem_cons_self ..)) (List.mem_cons_self ..) (by rw [List.size_toArray,hR];omega) rfl rfl ?_
 refine zO (zN ?_)
 refine zI ?_ ?_<;>intro hc68
 ·
  refine Qr ?_
  have hD:=zwQ I
  refine ZK ?_
  refine QZ I [] mixed ?_
  refine zT 0 rfl (Qh rfl) hD ?_
  refine zT 1 rfl (Qh rfl) hD ?_
  refine zT 2 rfl (Qh rfl) hD ?_
  refine zT 3 rfl (VZ rfl rfl rfl (fun _=>by omega)) hD ?_
  refine zT 4 rfl (Zy rfl rfl YW (by omega)) hD ?_
  refine zT 5 rfl (Qh rfl) hD ?_
  refine zT 6 rfl (Qh rfl) hD ?_
  refine zT 7 rfl (Zy rfl rfl YW (by omega)) hD ?_
  refine qd 8 rfl ?_
  refine Ju (pre:=((xs.take i).flatMap S.encR)++p1) (old:=p2) (post:=R2) (vs:=((xs.drop i).flatMap S.encR)) (cur':=(((xs.take i).flatMap S.encR)++p1++((xs.drop i).flatMap S.encR)++R2).toArray) hcur rfl rfl rfl YW (by rw [hB];simp only [Nat.min_def];split<;>omega) (by rw [hp2,hB]) (by rw [List.length_append,hA,hp1];omega) (fun _=>rfl) (Cells.part (pre:=((xs.take i).flatMap S.encR)) (post:=r5++R2) .here (by show 0+_=_;rw [hA];omega)) (zoK _) rfl rfl .here ?_
  refine Qb ?_
  refine zD hD ?_
  refine Qm (by kernel_rfl) ?_
  refine QA ?_
  refine Qc (zR (zM ?_))
  refine zM ?_
  refine zV (Zy rfl rfl YW (by omega)) ?_
  refine zM ?_
  refine Ju (pre:=((xs.take i).flatMap S.encR)) (old:=p1) (post:=((xs.drop i).flatMap S.encR)++R2) (vs:=[S.encR y].flatten) (cur':=(((xs.take i).flatMap S.encR)++[S.encR y].flatten++(((xs.drop i).flatMap S.encR)++R2)).toArray) (by rw [List.append_assoc (_++_)]) rfl rfl rfl YW (by show 11=_;simp only [Nat.min_def];split<;>omega) (by rw [hp1];rfl) (by omega) (fun _=>rfl) (.there .here) rfl rfl rfl .here ?_
  refine zN (zR ?_)
  refine zM ?_
  refine zA (zN (QF (Qi ?_)))
  first
  | exact QR rfl rfl (fun w hw=>⟨_,I,_,rfl,zwQ _,hw.subL (.keep Qe),rfl,by rw [show ((n:Int)+((1:Nat):Int)).toNat=n+1 by omega];exact zcF (rest:=R2) (by simp [hl];omega) hgr hcm (by simp [List.flatMap_append,List.flatMap_cons]) (by simp only [List.length_append,hA,hB,hr5] at hR ⊢;rw [hY];omega)⟩)
 cases hc68
theorem zin {I:Qv}{v:Value}{n:Nat}{xs:List S.Rt}{L:Go.Kn.Loc}(hO:Ym 43 11 v n (xs.flatMap S.encR) L)(hn:n≤100000)(hl:xs.length=n){i:Nat}(hi:i≤n)(b2:Nat)(y:S.Rt):
  Vl Tryz.prog 171 [v,.int .i64 i,.slice (some ⟨b2,0,none⟩) 1 1] I (L++[(b2,.cells [S.encR y].flatten.toArray 43 (0,0))]) (fun v' I' L'=>I'=I∧Ym 43 11 v' (n+1) ((xs.take i++y::xs.drop i).flatMap S.encR) L'):=by
 by_cases hin:i=n
 ·
  subst hin
  obtain ⟨av,c,rfl⟩:=hO.shape
  exact zhy hO hn hl b2 y
 rcases hO.2 with ⟨_,h0,_⟩ | ⟨b,c,cur,rfl,rfl,hnc,hcm,hcs,ht⟩
 ·
  omega
 intro g H w hw
 have hne:b2≠b:=fun e=>by
  have:=hw.nodup
  subst e
  simp at this
 have hsplit:(xs.take i).flatMap S.encR++(xs.drop i).flatMap S.encR=xs.flatMap S.encR:=by rw [←List.flatMap_append,List.take_append_drop]
 have hcur:cur=((xs.take i).flatMap S.encR++(xs.drop i).flatMap S.encR++cur.toList.drop (n*11)).toArray:=by
  rw [hsplit,←ht,List.take_append_drop,Array.toArray_toList]
 rw [hcur] at hw
 exact zir hl (by omega) hn hnc hcm (by rw [hsplit,←ht,List.take_append_drop,Array.length_toList,hcs]) b2 hne y g H w hw
theorem znx (xs:List Nt):(xs.flatMap Zn).length=xs.length*45:=YO Q5 xs
theorem zf4 {b n c:Nat}{xs:List Nt}{cur rest:List Value}(hl:xs.length=n)(hn:n≤c)(hc:c≤maxLen)(hcur:cur=xs.flatMap Zn++rest)(hs:cur.length=c*45):Ym 45 45 (.slice (some ⟨b,0,none⟩) n c) n (xs.flatMap Zn) [(b,.cells cur.toArray 45 (0,0))]:=by
 subst hcur
 refine ⟨by rw [znx,hl],.inr ⟨b,c,_,rfl,rfl,hn,hc,by simpa using hs,?_⟩⟩
 rw [List.take_left' (by rw [znx,hl])]
theorem zhe {I:Qv}{av:Option Addr}{n c:Nat}{xs:List Nt}{L:Go.Kn.Loc}(hO:Ym 45 45 (.slice av n c) n (xs.flatMap Zn) L)(hn:n≤100000)(hl:xs.length=n)(b2:Nat)(y:Nt):Vl Tryz.prog 174 [.slice av n c,.int .i64 n,.slice (some ⟨b2,0,none⟩) 1 1] I (L++[(b2,.cells [Zn y].flatten.toArray 45 (0,0))]) (fun v' I' L'=>I'=I∧Ym 45 45 v' (n+1) ((xs.take n++y::xs.drop n).flatMap Zn) L'):=by
 intro g H w hw
 refine qe Tryz.func174 Tryz.ntmps174 hw ?_
 refine zR (zA ?_)
 refine zN (zR ?_)
 refine zM ?_
 refine zM ?_
 refine zV (Vh rfl rfl Zu (fun hg=>by omega)) ?_
 refine zN (zR ?_)
 refine zM ?_
 refine zQ Zu ?_
 refine zA (zN (Qr (zR ?_)))
 refine zM ?_
 refine zC (zN ?_)
 refine zI ?_ ?_<;>intro hc16
 ·
  exact absurd hc16 (by decide)
 refine Qw (Qc (zR (zM ?_)))
 refine zQ Zu ?_
 refine zA (zN (Qr (zR ?_)))
 refine zM ?_
 refine zM ?_
 refine zC (zN ?_)
 refine zI ?_ ?_<;>intro hc22
 ·
  refine zR (zM ?_)
  refine zM ?_
  refine QW (v:=_) (ys:=[Zn y].flatten) (L:=L) rfl rfl Vf hO (by repeat (first | exact .cons .here .nil | exact Qu | exact Qq | apply Qo | apply Qn)) ⟨rfl,fun _=>rfl,.app zwO⟩ rfl (by omega) rfl rfl ?_
  intro v' L' hO' _
  refine zA (zN (QF (Qi ?_)))
  exact QR rfl rfl (fun w hw=>⟨_,I,_,rfl,zwQ _,hw.subL QO,rfl,by rw [List.take_of_length_le (by omega),List.drop_eq_nil_of_le (by omega)];simpa [List.flatMap_append] using hO'⟩)
 exact absurd hc22 (by simp)
theorem ziP {I:Qv}{b n c i:Nat}{xs:List Nt}{R:List Value}(hl:xs.length=n)(hi:i<n)(hn:n≤100000)(hnc:n≤c)(hcm:c≤maxLen)(hR:(((xs.take i).flatMap Zn)++((xs.drop i).flatMap Zn)++R).length=c*45)(b2:Nat)(hne:b2≠b)(y:Nt):Vl Tryz.prog 174 [.slice (some ⟨b,0,none⟩) n c,.int .i64 i,.slice (some ⟨b2,0,none⟩) 1 1] I ([(b,.cells (((xs.take i).flatMap Zn)++((xs.drop i).flatMap Zn)++R).toArray 45 (0,0)),(b2,.cells [Zn y].flatten.toArray 45 (0,0))]) (fun v' I' L'=>I'=I∧Ym 45 45 v' (n+1) ((xs.take i++y::xs.drop i).flatMap Zn) L'):=by
 intro g H w hw
 refine qe Tryz.func174 Tryz.ntmps174 hw ?_
 have hA:((xs.take i).flatMap Zn).length=i*45:=by rw [znx,List.length_take];omega
 have hB:((xs.drop i).flatMap Zn).length=(n-i)*45:=by rw [znx,List.length_drop];omega
 have hY:[Zn y].flatten.length=45:=rfl
 refine zR (zA ?_)
 refine zN (zR ?_)
 refine zM ?_
 refine zM ?_
 refine zV (Zy rfl rfl Zu (by omega)) ?_
 refine zN (zR ?_)
 refine zM ?_
 refine zQ Zu ?_
 refine zA (zN (Qr (zR ?_)))
 refine zM ?_
 refine zC (zN ?_)
 refine zI ?_ ?_<;>intro hc16
 ·
  exact absurd hc16 (by decide)
 refine Qw (Qc (zR (zM ?_)))
 refine zQ Zu ?_
 refine zA (zN (Qr (zR ?_)))
 refine zM ?_
 refine zM ?_
 refine zC (zN ?_)
 refine zI ?_ ?_<;>intro hc22
 ·
  have h:=hc22;simp at h;omega
 refine Qw (Qc (Qr (zR (zM ?_))))
 refine zM ?_
 refine zB ?_
 refine zM ?_
 refine zV (zj6 rfl Zu) ?_
 refine zC (zN ?_)
 refine zI ?_ ?_<;>intro hc31
 ·
  have hgr:c<n+1:=by have h:=hc31;simp at h;omega
  refine zR (zM ?_)
  refine zM ?_
  refine zV (VS rfl rfl Zu (fun hg=>by omega)) ?_
  refine zM ?_
  refine zM ?_
  refine zB ?_
  refine zM ?_
  refine zB ?_
  refine W7 (ys:=((xs.take i).flatMap Zn)) rfl rfl Vf znf (by omega) (by decide) (by omega) hA (Cells.part (pre:=[]) (post:=((xs.drop i).flatMap Zn)++R) (by rw [List.nil_append,←List.append_assoc];exact .here) rfl) (by omega) rfl rfl (fun b3 c3 zs hc3 hm3 hz3=>?_)
  obtain ⟨z1,z2,z3,rfl,hz1,hz2⟩:=ziy (zs:=zs) (a:=45) (b:=(n-i)*45) (by rw [List.length_append,hA] at hz3;omega)
  refine zA ?_
  refine zN (zR ?_)
  refine zM ?_
  refine zM ?_
  refine zV (Zy rfl rfl Zu (by omega)) ?_
  refine zM ?_
  refine Ju (pre:=((xs.take i).flatMap Zn)) (old:=z1) (post:=z2++z3) (vs:=[Zn y].flatten) (cur':=(((xs.take i).flatMap Zn)++[Zn y].flatten++(z2++z3)).toArray) (by rw [List.append_assoc]) rfl rfl rfl Zu (by show 45=_;simp only [Nat.min_def];split<;>omega) (by rw [hz1];rfl) (by omega) (fun _=>rfl) (.there (.there .here)) rfl rfl rfl .here ?_
  refine zN (Qr ?_)
  have hD:=zwQ I
  refine ZK ?_
  refine QZ I [] mixed ?_
  refine zT 0 rfl (Qh rfl) hD ?_
  refine zT 1 rfl (Qh rfl) hD ?_
  refine zT 2 rfl (Qh rfl) hD ?_
  refine zT 3 rfl (VZ rfl rfl rfl (fun _=>by omega)) hD ?_
  refine zT 4 rfl (Zy rfl rfl Zu (by omega)) hD ?_
  refine zT 5 rfl (Qh rfl) hD ?_
  refine zT 6 rfl (Qh rfl) hD ?_
  refine zT 7 rfl (Zy rfl rfl Zu (by omega)) hD ?_
  refine qd 8 rfl ?_
  refine Ju (pre:=((xs.take i).flatMap Zn)++[Zn y].flatten) (old:=z2) (post:=z3) (vs:=((xs.drop i).flatMap Zn)) (cur':=(((xs.take i).flatMap Zn)++[Zn y].flatten++((xs.drop i).flatMap Zn)++z3).toArray) (by rw [List.append_assoc,List.append_assoc,List.append_assoc]) rfl rfl rfl Zu (by rw [hB];simp only [Nat.min_def];split<;>omega) (by rw [hz2,hB]) (by rw [List.length_append,hA,hY];omega) (fun _=>rfl) (.there (Cells.part (pre:=((xs.take i).flatMap Zn)) (post:=R) .here (by show 0+_=_;rw [hA];omega))) (W0 _) rfl rfl .here ?_
  refine Qb ?_
  refine zD hD ?_
  refine Qm (by kernel_rfl) ?_
  refine QA ?_
  refine Qc (zR (zM ?_))
  refine zA (zN (QF (Qi ?_)))
  first
  | exact QR rfl rfl (fun w hw=>⟨_,I,_,rfl,zwQ _,hw.subL (.keep Qe),rfl,by rw [show (i:Int).toNat+((n:Int)+((1:Nat):Int)-(i:Int)).toNat=n+1 by omega];exact zf4 (rest:=z3) (by simp [hl];omega) (by omega) hm3 (by simp [List.flatMap_append,List.flatMap_cons]) (by simp only [List.length_append,hA,hB,hz1,hz2] at hz3 ⊢;rw [hY];omega)⟩)
 have hgr:n+1≤c:=by have h:=hc31;simp at h;omega
 refine Qw (Qc (Qr ?_))
 obtain ⟨r5,R2,rfl,hr5⟩:∃ r5 R2,R=r5++R2∧r5.length=45:=⟨R.take 45,R.drop 45,by rw [List.take_append_drop],by rw [List.length_take];simp only [List.length_append,hA,hB] at hR;omega⟩
 obtain ⟨p1,p2,hpp,hp1,hp2⟩:∃ p1 p2,((xs.drop i).flatMap Zn)++r5=p1++p2∧p1.length=45∧p2.length=(n-i)*45:=⟨(((xs.drop i).flatMap Zn)++r5).take 45,(((xs.drop i).flatMap Zn)++r5).drop 45,by rw [List.take_append_drop],by rw [List.length_take,List.length_append,hB,hr5];omega,by rw [List.length_drop,List.length_append,hB,hr5];omega⟩
 have hcur:(((xs.take i).flatMap Zn)++((xs.drop i).flatMap Zn)++(r5++R2)).toArray=(((xs.take i).flatMap Zn)++p1++p2++R2).toArray:=by rw [List.append_assoc (((xs.take i).flatMap Zn)++p1),List.append_assoc ((xs.take i).flatMap Zn) p1,←List.append_assoc p1,←hpp];simp only [List.append_assoc]
 refine Qk (zM ?_)
 refine zM ?_
 refine zM ?_
 refine zB ?_
 refine zV (VS rfl rfl Zu (fun hg=>by omega)) ?_
 refine zA (zN (Qr (zR ?_)))
 refine zM ?_
 refine zM ?_
 refine zM ?_
 refine zM ?_
 refine zB ?_
 refine zV (Zy rfl rfl Zu (by omega)) ?_
 refine UR rfl rfl rfl Tryz.func226 (by kernel_rfl) (by kernel_rfl) (by kernel_rfl) (by kernel_rfl:Extern.find Tryz.f226=some (Extern.SlicesOverlaps.overlaps #[57,57] #[4])) Zu hne (List.mem_cons_of_mem _ (List.mem_cons_self ..)) (List.mem_cons_self ..) (by rw [List.size_toArray,hR];omega) rfl rfl ?_
 refine zO (zN ?_)
 refine zI ?_ ?_<;>intro hc68
 ·
  refine Qr ?_
  have hD:=zwQ I
  refine ZK ?_
  refine QZ I [] mixed ?_
  refine zT 0 rfl (Qh rfl) hD ?_
  refine zT 1 rfl (Qh rfl) hD ?_
  refine zT 2 rfl (Qh rfl) hD ?_
  refine zT 3 rfl (VZ rfl rfl rfl (fun _=>by omega)) hD ?_
  refine zT 4 rfl (Zy rfl rfl Zu (by omega)) hD ?_
  refine zT 5 rfl (Qh rfl) hD ?_
  refine zT 6 rfl (Qh rfl) hD ?_
  refine zT 7 rfl (Zy rfl rfl Zu (by omega)) hD ?_
  refine qd 8 rfl ?_
  refine Ju (pre:=((xs.take i).flatMap Zn)++p1) (old:=p2) (post:=R2) (vs:=((xs.drop i).flatMap Zn)) (cur':=(((xs.take i).flatMap Zn)++p1++((xs.drop i).flatMap Zn)++R2).toArray) hcur rfl rfl rfl Zu (by rw [hB];simp only [Nat.min_def];split<;>omega) (by rw [hp2,hB]) (by rw [List.length_append,hA,hp1];omega) (fun _=>rfl) (Cells.part (pre:=((xs.take i).flatMap Zn)) (post:=r5++R2) .here (by show 0+_=_;rw [hA];omega)) (W0 _) rfl rfl .here ?_
  refine Qb ?_
  refine zD hD ?_
  refine Qm (by kernel_rfl) ?_
  refine QA ?_
  refine Qc (zR (zM ?_))
  refine zM ?_
  refine zV (Zy rfl rfl Zu (by omega)) ?_
  refine zM ?_
  refine Ju (pre:=((xs.take i).flatMap Zn)) (old:=p1) (post:=((xs.drop i).flatMap Zn)++R2) (vs:=[Zn y].flatten) (cur':=(((xs.take i).flatMap Zn)++[Zn y].flatten++(((xs.drop i).flatMap Zn)++R2)).toArray) (by rw [List.append_assoc (_++_)]) rfl rfl rfl Zu (by show 45=_;simp only [Nat.min_def];split<;>omega) (by rw [hp1];rfl) (by omega) (fun _=>rfl) (.there .here) rfl rfl rfl .here ?_
  refine zN (zR ?_)
  refine zM ?_
  refine zA (zN (QF (Qi ?_)))
  first
  | exact QR rfl rfl (fun w hw=>⟨_,I,_,rfl,zwQ _,hw.subL (.keep Qe),rfl,by rw [show ((n:Int)+((1:Nat):Int)).toNat=n+1 by omega];exact zf4 (rest:=R2) (by simp [hl];omega) hgr hcm (by simp [List.flatMap_append,List.flatMap_cons]) (by simp only [List.length_append,hA,hB,hr5] at hR ⊢;rw [hY];omega)⟩)
 cases hc68
theorem zaS {I:Qv}{v:Value}{n:Nat}{xs:List Nt}{L:Go.Kn.Loc}(hO:Ym 45 45 v n (xs.flatMap Zn) L)(hn:n≤100000)(hl:xs.length=n){i:Nat}(hi:i≤n)(b2:Nat)(y:Nt):
  Vl Tryz.prog 174 [v,.int .i64 i,.slice (some ⟨b2,0,none⟩) 1 1] I (L++[(b2,.cells [Zn y].flatten.toArray 45 (0,0))]) (fun v' I' L'=>I'=I∧Ym 45 45 v' (n+1) ((xs.take i++y::xs.drop i).flatMap Zn) L'):=by
 by_cases hin:i=n
 ·
  subst hin
  obtain ⟨av,c,rfl⟩:=hO.shape
  exact zhe hO hn hl b2 y
 rcases hO.2 with ⟨_,h0,_⟩ | ⟨b,c,cur,rfl,rfl,hnc,hcm,hcs,ht⟩
 ·
  omega
 intro g H w hw
 have hne:b2≠b:=fun e=>by
  have:=hw.nodup
  subst e
  simp at this
 have hsplit:(xs.take i).flatMap Zn++(xs.drop i).flatMap Zn=xs.flatMap Zn:=by rw [←List.flatMap_append,List.take_append_drop]
 have hcur:cur=((xs.take i).flatMap Zn++(xs.drop i).flatMap Zn++cur.toList.drop (n*45)).toArray:=by
  rw [hsplit,←ht,List.take_append_drop,Array.toArray_toList]
 rw [hcur] at hw
 exact ziP hl (by omega) hn hnc hcm (by rw [hsplit,←ht,List.take_append_drop,Array.length_toList,hcs]) b2 hne y g H w hw
end
end Go.Proofs.YtjblkbkmblkgoaaGreat
namespace Go.Kn
section
open Go
section
variable {C:Cx} {Q:Exit→Act→World→Prop} {ops:Array Oper} {I0:Qv} {loc0:Loc} {S:GS} {E:Env} {I:Qv} {loc:Loc}
theorem zql {fuel:Nat}{listed:Array Bool}(b:Bool)(h:XD C Q ops I0 loc0 fuel listed ((b,[])::S) E I loc):XD C Q ops I0 loc0 fuel listed S E I loc:=fun a w ha hg hw=>h a w ha ⟨(fun _ _ e=>by cases e),hg⟩ hw
theorem Wx {fuel:Nat}{listed:Array Bool}(j:Nat){oj:Oper}{dj:Nat}{b0:Bool}(_hj:ops[j]? =some oj)(_hd:oj.dst=some dj)(_hl:KO S E dj=some (.bool b0))(h:XD C Q ops I0 loc0 fuel listed ((b0,[])::S) E I loc):XD C Q ops I0 loc0 fuel listed S E I loc:=zql b0 h
theorem zsy (i:Nat){tc ta d ty:Nat}{pos:String}{af:Array Edge}{gd:Option (Nat×Bool)}{b t x:Bool}{G:Env}{fuel:Nat}{listed:Array Bool}
  (hi:ops[i]? =some ⟨some d,.pick (.tmp tc) (.tmp ta) (.const (.bool false)),ty,pos,af,gd⟩)(hb:b=t)(hc:QH S E (.tmp tc)=some (.bool t))(ha':Vz G ta=some (.bool x))
  (hG:ZH ops S E ⟨some d,.pick (.tmp tc) (.tmp ta) (.const (.bool false)),ty,pos,af,gd⟩)(hN:Nat.blt d C.N=true)(hf:Yn S E d=true)
  (hs:Region.noSelect ops=true)(hfr:Region.free .any ops listed i=true)(hr:(Region.ready .any ops listed).contains i=true)(hQ:YT Q)(hI:HLe I0 I)(hl:Kg loc0 loc)
  (h:XD C Q ops I0 loc0 fuel (listed.setIfInBounds i true) (zdb S E d (.bool (t&&x))) (zc9 S E d (.bool (t&&x))) I loc):XD C Q ops I0 loc0 (fuel+1) listed ((b,G)::S) E I loc:=by
 intro a w ha hg hw
 have hp:=YF ha hg.2 hN hf (.bool (t&&x))
 refine Y4 (v:=bif YB S then .bool (t&&x) else undef) hi (by intro c e;cases e) (Region.noSelect_spec hs) (fun c a w=>hQ c a d _ w) fuel listed a w (Region.free_spec hi hfr) (by simpa using hr) ?_ ((hw.mono hI).subL hl) (h _ _ hp.1 hp.2 hw)
 have hwt:=hG.wanted ha hg.2
 cases hcj:YB S with
 | true=>
  refine .inl ⟨by rw [hwt,hcj],fun w' _=>?_⟩
  have e1:a.eval (.tmp tc)= .bool t:=Qj ha hg.2 hcj hc
  have e2:t=true→a.eval (.tmp ta)= .bool x:=fun e=>by
   have:=hg.1 _ _ ha'
   rw [hcj,hb,e] at this;exact this
  show (execOp a.eval ⟨some d,.pick (.tmp tc) (.tmp ta) (.const (.bool false)),ty,pos,af,gd⟩).run C.P w'= .ok (.value (.bool (t&&x))) w'
  simp only [execOp,e1,asBool,Sem.run_bind,Sem.run_pure,Result.andThen]
  cases t with
  | true=>simp [e2 rfl]
  | false=>simp [Act.eval]
 | false=>exact .inr ⟨by rw [hwt,hcj],rfl⟩
theorem QY (i:Nat){oi:Oper}{d:Nat}{v:Value}{fuel:Nat}{listed:Array Bool}(hi:ops[i]? =some oi)(hv:Za C [] E I0 loc0 oi v)(hG:ZH ops [] E oi)(hd:oi.dst=some d)(hN:Nat.blt d C.N=true)
  (hs:Region.noSelect ops=true)(hfr:Region.free .any ops listed i=true)(hr:(Region.ready .any ops listed).contains i=true)(hQ:YT Q)(hI:HLe I0 I)(hl:Kg loc0 loc)
  (h:XD C Q ops I0 loc0 fuel (listed.setIfInBounds i true) [] ((d,v)::E) I loc):XD C Q ops I0 loc0 (fuel+1) listed [] E I loc:=QQ i hi hv hG hd hN rfl hs hfr hr hQ hI hl h
theorem YM (i:Nat){oi:Oper}{d:Nat}{v:Value}{b:Bool}{G:Env}{fuel:Nat}{listed:Array Bool}(hi:ops[i]? =some oi)(hv:Za C ((b,G)::S) E I0 loc0 oi v)(hG:ZH ops ((b,G)::S) E oi)(hd:oi.dst=some d)(hN:Nat.blt d C.N=true)(hf:Yn ((b,G)::S) E d=true)
  (hs:Region.noSelect ops=true)(hfr:Region.free .any ops listed i=true)(hr:(Region.ready .any ops listed).contains i=true)(hQ:YT Q)(hI:HLe I0 I)(hl:Kg loc0 loc)
  (h:XD C Q ops I0 loc0 fuel (listed.setIfInBounds i true) ((b,(d,v)::G)::S) E I loc):XD C Q ops I0 loc0 (fuel+1) listed ((b,G)::S) E I loc:=QQ i hi hv hG hd hN hf hs hfr hr hQ hI hl h
theorem zaY (i:Nat){tc ta d ty:Nat}{pos:String}{af:Array Edge}{gd:Option (Nat×Bool)}{b t x:Bool}{G:Env}{fuel:Nat}{listed:Array Bool}
  (hi:ops[i]? =some ⟨some d,.pick (.tmp tc) (.tmp ta) (.const (.bool false)),ty,pos,af,gd⟩)(hb:b=t)(hc:QH [] E (.tmp tc)=some (.bool t))(ha':Vz G ta=some (.bool x))
  (hG:gd=none)(hN:Nat.blt d C.N=true)
  (hs:Region.noSelect ops=true)(hfr:Region.free .any ops listed i=true)(hr:(Region.ready .any ops listed).contains i=true)(hQ:YT Q)(hI:HLe I0 I)(hl:Kg loc0 loc)
  (h:XD C Q ops I0 loc0 fuel (listed.setIfInBounds i true) [] ((d,.bool (t&&x))::E) I loc):XD C Q ops I0 loc0 (fuel+1) listed ((b,G)::[]) E I loc:=zsy i hi hb hc ha' (.none hG) hN rfl hs hfr hr hQ hI hl h
end
end
end Go.Kn
section
namespace Go.Kn
open Go
section
variable {α:Type} {C:Cx} {Q:Exit→Act→World→Prop} {E E':Env} {I I':Qv} {loc loc' L R:Loc} {ops:Array Oper} {rest:List Oper} {S:GS}
variable {Jc:List α→Qv→Loc→Prop} {Jx:Code→List α→Qv→Loc→Prop} {pre:List α}
end
section
variable {P:Program} {r:Option Nat} {N:Nat} {g:World} {H:Qv} {Q:Exit→Act→World→Prop} {E E':Env} {I I':Qv} {loc loc' L R:Loc} {ms:List Nat}
end
end Go.Kn
namespace Go.Kn
open Go
section
variable {C:Cx} {Q:Exit→Act→World→Prop} {E E':Env} {I I' I0:Qv} {loc loc' loc0 L R:Loc} {ops:Array Oper} {rest:List Oper} {S:GS}
theorem zeH {c:Code}(h:loc=loc')(hx:X C Q c E I loc'):X C Q c E I loc:=h ▸ hx
theorem zlb (i j k m:Nat){oi oj ok om:Oper}{fuel:Nat}{listed:Array Bool}(hi:ops[i]? =some oi)(hj:ops[j]? =some oj)(hk:ops[k]? =some ok)(hm:ops[m]? =some om)(hr:Region.ready .any ops listed=[i,j,k,m])
  (h1:XO C (fun e a w=>match e with | .normal=>St C.g I0 C.H loc0 w∧Y2 C.r C.P .any ops Q (fun w=>St C.g I0 C.H loc0 w) fuel (listed.setIfInBounds i true) a w | e=>Q e a w) ops [oi] S E I loc)
  (h2:XO C (fun e a w=>match e with | .normal=>St C.g I0 C.H loc0 w∧Y2 C.r C.P .any ops Q (fun w=>St C.g I0 C.H loc0 w) fuel (listed.setIfInBounds j true) a w | e=>Q e a w) ops [oj] S E I loc)
  (h3:XO C (fun e a w=>match e with | .normal=>St C.g I0 C.H loc0 w∧Y2 C.r C.P .any ops Q (fun w=>St C.g I0 C.H loc0 w) fuel (listed.setIfInBounds k true) a w | e=>Q e a w) ops [ok] S E I loc)
  (h4:XO C (fun e a w=>match e with | .normal=>St C.g I0 C.H loc0 w∧Y2 C.r C.P .any ops Q (fun w=>St C.g I0 C.H loc0 w) fuel (listed.setIfInBounds m true) a w | e=>Q e a w) ops [om] S E I loc):XD C Q ops I0 loc0 (fuel+1) listed S E I loc:=by
 intro a w ha hg hw
 refine ⟨(fun h0=>by rw [hr] at h0;cases h0),fun q hq=>?_⟩
 rw [hr] at hq
 rcases List.mem_cons.1 hq with e | hq
 ·
  subst e;exact zag hi ha hg hw h1
 ·
  rcases List.mem_cons.1 hq with e | hq
  ·
   subst e;exact zag hj ha hg hw h2
  ·
   rcases List.mem_cons.1 hq with e | hq
   ·
    subst e;exact zag hk ha hg hw h3
   ·
    obtain rfl:=List.mem_singleton.1 hq;exact zag hm ha hg hw h4
end
end Go.Kn
end
namespace Go.Proofs.YtjblkbkmblkgoaaGreat
section
open Go Go.Kn Go.Proofs
theorem KP:AgT Tryz.prog 41 5:=.of (by kernel_rfl)
theorem VH:AgT Tryz.prog 43 11:=.of (by kernel_rfl)
theorem ziR:zu4 Tryz.prog 32 [.int,.int,.int,.int,.int,.int,.int,.int,.int]:=⟨by kernel_rfl,by kernel_rfl,by kernel_rfl,by kernel_rfl⟩
theorem zk1:EqT Tryz.prog 41 [.int,.int,.int,.int,.int]:=⟨by kernel_rfl,by kernel_rfl,by kernel_rfl,by kernel_rfl⟩
theorem za7:EqT Tryz.prog 43 [.int,.int,.int,.int,.int,.int,.str,.str,.int,.int,.int]:=⟨by kernel_rfl,by kernel_rfl,by kernel_rfl,by kernel_rfl⟩
theorem Vm:QP Tryz.prog 45 0 0:=.of (by kernel_rfl)
theorem VM:QP Tryz.prog 45 1 1:=.of (by kernel_rfl)
theorem Vw:QP Tryz.prog 45 2 10:=.of (by kernel_rfl)
theorem Kb:QP Tryz.prog 45 3 29:=.of (by kernel_rfl)
theorem YR:QP Tryz.prog 45 4 34:=.of (by kernel_rfl)
theorem zkN:PlT Tryz.prog 32 #[(0,1),(1,1),(2,1),(3,1),(4,1),(5,1),(6,3)] (.agg #[(.int .i64 0),(.int .i64 0),(.int .i64 0),(.int .i64 0),(.int .i64 0),(.int .i64 0),(.int .i64 0),(.int .i64 0),(.int .i64 0)]):=⟨.of (by kernel_rfl),by kernel_rfl,fun w=>by kernel_rfl⟩
theorem znT:PlT Tryz.prog 41 #[(0,1),(1,1),(2,1),(3,1),(4,1)] (.agg #[(.int .i64 0),(.int .i64 0),(.int .i64 0),(.int .i64 0),(.int .i64 0)]):=⟨.of (by kernel_rfl),by kernel_rfl,fun w=>by kernel_rfl⟩
theorem zaJ:PlT Tryz.prog 43 #[(0,1),(1,1),(2,1),(3,1),(4,1),(5,1),(6,1),(7,1),(8,1),(9,1),(10,1)] (.agg #[(.int .i64 0),(.int .i64 0),(.int .i64 0),(.int .i64 0),(.int .i64 0),(.int .i64 0),(.string ⟨#[]⟩),(.string ⟨#[]⟩),(.int .i64 0),(.int .i64 0),(.int .i64 0)]):=⟨.of (by kernel_rfl),by kernel_rfl,fun w=>by kernel_rfl⟩
theorem zeO {I:Qv}{loc:Go.Kn.Loc}{b:Nat}{x:Nt}(h:Cells I loc b 0 (Zn x)):Cells I loc b 1 (ZL x.lm):=Cells.part (pre:=[.int .i64 x.kind]) (post:=WX x.pt++(L.encL x.ls++S.encR x.rt)) h rfl
theorem zhs {I:Qv}{loc:Go.Kn.Loc}{b:Nat}{x:Nt}(h:Cells I loc b 0 (Zn x)):Cells I loc b 10 (WX x.pt):=Cells.part (pre:=.int .i64 x.kind::ZL x.lm) (post:=L.encL x.ls++S.encR x.rt) h rfl
theorem zhz {I:Qv}{loc:Go.Kn.Loc}{b:Nat}{x:Nt}(h:Cells I loc b 0 (Zn x)):Cells I loc b 29 (L.encL x.ls):=Cells.part (pre:=.int .i64 x.kind::(ZL x.lm++WX x.pt)) (post:=S.encR x.rt) h rfl
theorem ze8 {I:Qv}{loc:Go.Kn.Loc}{b:Nat}{x:Nt}(h:Cells I loc b 0 (Zn x)):Cells I loc b 34 (S.encR x.rt):=Cells.part (pre:=.int .i64 x.kind::(ZL x.lm++(WX x.pt++L.encL x.ls))) (post:=[]) h rfl
theorem zmp {I:Qv}{loc:Go.Kn.Loc}{b:Nat}{x:Pt}(h:Cells I loc b 0 (WX x)):Cells I loc b 4 (zhI x.nw):=Cells.part (pre:=[.int .i64 x.id,.int .i64 x.kind,.int .i64 x.sign,.int .i64 x.field]) (post:=[.slice x.a x.n x.c]) h rfl
theorem UU {I:Qv}(x:Nt):Yb Tryz.prog 172 [JL x] I (.bool (zgU x)):=by
 intro g H w hw
 refine qe Tryz.func172 Tryz.ntmps172 hw ?_
 have hIc:=zwQ I
 refine zR ?_
 refine Zd rfl rfl rfl (fun b_1=>?_)
 refine zA (Qb ?_)
 refine QN .here (fun I1 hI1 hb1=>?_)
 have hIc:=hIc.trans hI1
 have h1:=BxI.of hb1
 refine Qc (zR ?_)
 refine zF Vw ?_
 refine zV (Qg rfl JZ (fun hg=>by exact zhs (BxI.cells (vs:=Zn x) h1)) rfl) ?_
 refine Qs zaw rfl rfl (fun b_3=>?_)
 refine zh K9 ?_
 refine Qb ?_
 refine QN .here (fun I2 hI2 hb2=>?_)
 have h1:=h1.mono hI2;have hIc:=hIc.trans hI2
 have h3:=BxI.of hb2
 refine Qc ?_
 refine zY [(1,_)] (fun T L0 E I' loc'=>∃ (r:Nat) (m:List (Int×Bool)),E=(4,.map (some r))::T∧I2=I'∧[(r,YC (.int .i64) .bool m)]=loc'∧ZV m 1=some (z1 x)∧ZV m 2=some (z2 x)∧ZV m 3=some (z3 x)∧ZV m 4=some (z4 x)) ?_ ?_
 ·
  have hD:=zwQ I2
  refine ZK ?_
  refine QZ I2 [] mixed ?_
  refine QY 1 rfl (Qa rfl VM) (.none rfl) rfl rfl (by kernel_rfl) (by kernel_rfl) (by kernel_rfl) QK hD (by repeat (first | exact .refl | exact Qe | refine .keep ?_ | refine .drop ?_ | refine Qf ?_)) ?_
  refine QY 2 rfl (Qg rfl K8 (fun hg=>by exact zeO (BxI.cells (vs:=Zn x) h1)) rfl) (.none rfl) rfl rfl (by kernel_rfl) (by kernel_rfl) (by kernel_rfl) QK hD (by repeat (first | exact .refl | exact Qe | refine .keep ?_ | refine .drop ?_ | refine Qf ?_)) ?_
  refine QY 3 rfl (Q0 (ps:=[]) [_,_,_,_,_,_,_,_,_] zkN rfl rfl) (.none rfl) rfl rfl (by kernel_rfl) (by kernel_rfl) (by kernel_rfl) QK hD (by repeat (first | exact .refl | exact Qe | refine .keep ?_ | refine .drop ?_ | refine Qf ?_)) ?_
  refine QY 4 rfl (zan rfl rfl ziR rfl) (.none rfl) rfl rfl (by kernel_rfl) (by kernel_rfl) (by kernel_rfl) QK hD (by repeat (first | exact .refl | exact Qe | refine .keep ?_ | refine .drop ?_ | refine Qf ?_)) ?_
  refine QY 6 rfl (Qa rfl YG) (.none rfl) rfl rfl (by kernel_rfl) (by kernel_rfl) (by kernel_rfl) QK hD (by repeat (first | exact .refl | exact Qe | refine .keep ?_ | refine .drop ?_ | refine Qf ?_)) ?_
  refine QY 7 rfl (Qd rfl Qy (fun hg=>by exact QG.imm h3.out rfl)) (.none rfl) rfl rfl (by kernel_rfl) (by kernel_rfl) (by kernel_rfl) QK hD (by repeat (first | exact .refl | exact Qe | refine .keep ?_ | refine .drop ?_ | refine Qf ?_)) ?_
  refine QY 8 rfl (QV rfl rfl rfl) (.none rfl) rfl rfl (by kernel_rfl) (by kernel_rfl) (by kernel_rfl) QK hD (by repeat (first | exact .refl | exact Qe | refine .keep ?_ | refine .drop ?_ | refine Qf ?_)) ?_
  refine QY 9 rfl (Qh rfl) (.none rfl) rfl rfl (by kernel_rfl) (by kernel_rfl) (by kernel_rfl) QK hD (by repeat (first | exact .refl | exact Qe | refine .keep ?_ | refine .drop ?_ | refine Qf ?_)) ?_
  refine Wx 9 rfl rfl rfl ?_
  refine YM 10 rfl (Qa rfl KE) (.some rfl rfl rfl rfl gbt) rfl rfl rfl (by kernel_rfl) (by kernel_rfl) (by kernel_rfl) QK hD (by repeat (first | exact .refl | exact Qe | refine .keep ?_ | refine .drop ?_ | refine Qf ?_)) ?_
  refine YM 11 rfl (Qd rfl Qy (fun hg=>by exact QG.imm h3.out rfl)) (.some rfl rfl rfl rfl gbt) rfl rfl rfl (by kernel_rfl) (by kernel_rfl) (by kernel_rfl) QK hD (by repeat (first | exact .refl | exact Qe | refine .keep ?_ | refine .drop ?_ | refine Qf ?_)) ?_
  refine YM 12 rfl (QV rfl rfl rfl) (.some rfl rfl rfl rfl gbt) rfl rfl rfl (by kernel_rfl) (by kernel_rfl) (by kernel_rfl) QK hD (by repeat (first | exact .refl | exact Qe | refine .keep ?_ | refine .drop ?_ | refine Qf ?_)) ?_
  refine zaY 13 rfl rfl rfl rfl rfl rfl (by kernel_rfl) (by kernel_rfl) (by kernel_rfl) QK hD (by repeat (first | exact .refl | exact Qe | refine .keep ?_ | refine .drop ?_ | refine Qf ?_)) ?_
  refine QY 14 rfl (Qh rfl) (.none rfl) rfl rfl (by kernel_rfl) (by kernel_rfl) (by kernel_rfl) QK hD (by repeat (first | exact .refl | exact Qe | refine .keep ?_ | refine .drop ?_ | refine Qf ?_)) ?_
  refine Wx 14 rfl rfl rfl ?_
  refine YM 15 rfl (Qa rfl Vj) (.some rfl rfl rfl rfl gbt) rfl rfl rfl (by kernel_rfl) (by kernel_rfl) (by kernel_rfl) QK hD (by repeat (first | exact .refl | exact Qe | refine .keep ?_ | refine .drop ?_ | refine Qf ?_)) ?_
  refine YM 16 rfl (Qd rfl Qy (fun hg=>by exact QG.imm h3.out rfl)) (.some rfl rfl rfl rfl gbt) rfl rfl rfl (by kernel_rfl) (by kernel_rfl) (by kernel_rfl) QK hD (by repeat (first | exact .refl | exact Qe | refine .keep ?_ | refine .drop ?_ | refine Qf ?_)) ?_
  refine YM 17 rfl (QV rfl rfl rfl) (.some rfl rfl rfl rfl gbt) rfl rfl rfl (by kernel_rfl) (by kernel_rfl) (by kernel_rfl) QK hD (by repeat (first | exact .refl | exact Qe | refine .keep ?_ | refine .drop ?_ | refine Qf ?_)) ?_
  refine zaY 18 rfl rfl rfl rfl rfl rfl (by kernel_rfl) (by kernel_rfl) (by kernel_rfl) QK hD (by repeat (first | exact .refl | exact Qe | refine .keep ?_ | refine .drop ?_ | refine Qf ?_)) ?_
  refine QY 19 rfl (Qh rfl) (.none rfl) rfl rfl (by kernel_rfl) (by kernel_rfl) (by kernel_rfl) QK hD (by repeat (first | exact .refl | exact Qe | refine .keep ?_ | refine .drop ?_ | refine Qf ?_)) ?_
  refine Wx 19 rfl rfl rfl ?_
  refine YM 20 rfl (Qa rfl V4) (.some rfl rfl rfl rfl gbt) rfl rfl rfl (by kernel_rfl) (by kernel_rfl) (by kernel_rfl) QK hD (by repeat (first | exact .refl | exact Qe | refine .keep ?_ | refine .drop ?_ | refine Qf ?_)) ?_
  refine YM 21 rfl (Qd rfl Qy (fun hg=>by exact QG.imm h3.out rfl)) (.some rfl rfl rfl rfl gbt) rfl rfl rfl (by kernel_rfl) (by kernel_rfl) (by kernel_rfl) QK hD (by repeat (first | exact .refl | exact Qe | refine .keep ?_ | refine .drop ?_ | refine Qf ?_)) ?_
  refine YM 22 rfl (QV rfl rfl rfl) (.some rfl rfl rfl rfl gbt) rfl rfl rfl (by kernel_rfl) (by kernel_rfl) (by kernel_rfl) QK hD (by repeat (first | exact .refl | exact Qe | refine .keep ?_ | refine .drop ?_ | refine Qf ?_)) ?_
  refine zaY 23 rfl rfl rfl rfl rfl rfl (by kernel_rfl) (by kernel_rfl) (by kernel_rfl) QK hD (by repeat (first | exact .refl | exact Qe | refine .keep ?_ | refine .drop ?_ | refine Qf ?_)) ?_
  refine QY 24 rfl (Qh rfl) (.none rfl) rfl rfl (by kernel_rfl) (by kernel_rfl) (by kernel_rfl) QK hD (by repeat (first | exact .refl | exact Qe | refine .keep ?_ | refine .drop ?_ | refine Qf ?_)) ?_
  refine Wx 24 rfl rfl rfl ?_
  refine YM 25 rfl (Qa rfl Jh) (.some rfl rfl rfl rfl gbt) rfl rfl rfl (by kernel_rfl) (by kernel_rfl) (by kernel_rfl) QK hD (by repeat (first | exact .refl | exact Qe | refine .keep ?_ | refine .drop ?_ | refine Qf ?_)) ?_
  refine YM 26 rfl (Qg rfl VR (fun hg=>by exact zmp (BxI.cells (vs:=WX x.pt) h3)) rfl) (.some rfl rfl rfl rfl gbt) rfl rfl rfl (by kernel_rfl) (by kernel_rfl) (by kernel_rfl) QK hD (by repeat (first | exact .refl | exact Qe | refine .keep ?_ | refine .drop ?_ | refine Qf ?_)) ?_
  refine YM 27 rfl (Q0 (ps:=[]) [_,_,_,_,_,_,_,_,_,_,_,_,_,_] zem rfl rfl) (.some rfl rfl rfl rfl gbt) rfl rfl rfl (by kernel_rfl) (by kernel_rfl) (by kernel_rfl) QK hD (by repeat (first | exact .refl | exact Qe | refine .keep ?_ | refine .drop ?_ | refine Qf ?_)) ?_
  refine YM 28 rfl (zan rfl rfl zcd rfl) (.some rfl rfl rfl rfl gbt) rfl rfl rfl (by kernel_rfl) (by kernel_rfl) (by kernel_rfl) QK hD (by repeat (first | exact .refl | exact Qe | refine .keep ?_ | refine .drop ?_ | refine Qf ?_)) ?_
  refine zaY 29 rfl rfl rfl rfl rfl rfl (by kernel_rfl) (by kernel_rfl) (by kernel_rfl) QK hD (by repeat (first | exact .refl | exact Qe | refine .keep ?_ | refine .drop ?_ | refine Qf ?_)) ?_
  refine QY 30 rfl (Qh rfl) (.none rfl) rfl rfl (by kernel_rfl) (by kernel_rfl) (by kernel_rfl) QK hD (by repeat (first | exact .refl | exact Qe | refine .keep ?_ | refine .drop ?_ | refine Qf ?_)) ?_
  refine Wx 30 rfl rfl rfl ?_
  refine YM 31 rfl (Qa rfl Y7) (.some rfl rfl rfl rfl gbt) rfl rfl rfl (by kernel_rfl) (by kernel_rfl) (by kernel_rfl) QK hD (by repeat (first | exact .refl | exact Qe | refine .keep ?_ | refine .drop ?_ | refine Qf ?_)) ?_
  refine YM 32 rfl (Qd rfl Ke (fun hg=>by exact QG.imm h3.out rfl)) (.some rfl rfl rfl rfl gbt) rfl rfl rfl (by kernel_rfl) (by kernel_rfl) (by kernel_rfl) QK hD (by repeat (first | exact .refl | exact Qe | refine .keep ?_ | refine .drop ?_ | refine Qf ?_)) ?_
  refine YM 33 rfl (Zc rfl Yl) (.some rfl rfl rfl rfl gbt) rfl rfl rfl (by kernel_rfl) (by kernel_rfl) (by kernel_rfl) QK hD (by repeat (first | exact .refl | exact Qe | refine .keep ?_ | refine .drop ?_ | refine Qf ?_)) ?_
  refine YM 34 rfl (QV rfl rfl rfl) (.some rfl rfl rfl rfl gbt) rfl rfl rfl (by kernel_rfl) (by kernel_rfl) (by kernel_rfl) QK hD (by repeat (first | exact .refl | exact Qe | refine .keep ?_ | refine .drop ?_ | refine Qf ?_)) ?_
  refine zaY 35 rfl rfl rfl rfl rfl rfl (by kernel_rfl) (by kernel_rfl) (by kernel_rfl) QK hD (by repeat (first | exact .refl | exact Qe | refine .keep ?_ | refine .drop ?_ | refine Qf ?_)) ?_
  refine QY 37 rfl (Qa rfl Kb) (.none rfl) rfl rfl (by kernel_rfl) (by kernel_rfl) (by kernel_rfl) QK hD (by repeat (first | exact .refl | exact Qe | refine .keep ?_ | refine .drop ?_ | refine Qf ?_)) ?_
  refine QY 38 rfl (Qg rfl KP (fun hg=>by exact zhz (BxI.cells (vs:=Zn x) h1)) rfl) (.none rfl) rfl rfl (by kernel_rfl) (by kernel_rfl) (by kernel_rfl) QK hD (by repeat (first | exact .refl | exact Qe | refine .keep ?_ | refine .drop ?_ | refine Qf ?_)) ?_
  refine QY 39 rfl (Q0 (ps:=[]) [_,_,_,_,_] znT rfl rfl) (.none rfl) rfl rfl (by kernel_rfl) (by kernel_rfl) (by kernel_rfl) QK hD (by repeat (first | exact .refl | exact Qe | refine .keep ?_ | refine .drop ?_ | refine Qf ?_)) ?_
  refine QY 40 rfl (WG rfl rfl zk1 rfl) (.none rfl) rfl rfl (by kernel_rfl) (by kernel_rfl) (by kernel_rfl) QK hD (by repeat (first | exact .refl | exact Qe | refine .keep ?_ | refine .drop ?_ | refine Qf ?_)) ?_
  refine QY 42 rfl (Qa rfl YR) (.none rfl) rfl rfl (by kernel_rfl) (by kernel_rfl) (by kernel_rfl) QK hD (by repeat (first | exact .refl | exact Qe | refine .keep ?_ | refine .drop ?_ | refine Qf ?_)) ?_
  refine QY 43 rfl (Qg rfl VH (fun hg=>by exact ze8 (BxI.cells (vs:=Zn x) h1)) rfl) (.none rfl) rfl rfl (by kernel_rfl) (by kernel_rfl) (by kernel_rfl) QK hD (by repeat (first | exact .refl | exact Qe | refine .keep ?_ | refine .drop ?_ | refine Qf ?_)) ?_
  refine QY 44 rfl (Q0 (ps:=[]) [_,_,_,_,_,_,_,_,_,_,_] zaJ rfl rfl) (.none rfl) rfl rfl (by kernel_rfl) (by kernel_rfl) (by kernel_rfl) QK hD (by repeat (first | exact .refl | exact Qe | refine .keep ?_ | refine .drop ?_ | refine Qf ?_)) ?_
  refine QY 45 rfl (WG rfl rfl za7 rfl) (.none rfl) rfl rfl (by kernel_rfl) (by kernel_rfl) (by kernel_rfl) QK hD (by repeat (first | exact .refl | exact Qe | refine .keep ?_ | refine .drop ?_ | refine Qf ?_)) ?_
  refine qd 0 rfl ?_
  refine Yf rfl rfl (fun r_7=>?_)
  refine (show XO _ _ _ _ _ _ _ ((r_7,YC (.int .i64) .bool ([]:List (Int×Bool)))::[]) from ?_)
  refine Qb ?_
  refine zD hD ?_
  refine zlb 5 36 41 46 rfl rfl rfl rfl (by kernel_rfl) ?_ ?_ ?_ ?_
  ·
   refine QI (ek:=Value.int .i64) (ev:=Value.bool) _ Zf Zk rfl rfl rfl rfl (by repeat (first | exact Upd.here | apply Upd.there | apply Qx)) ?_
   refine Qb ?_
   refine zD hD ?_
   refine VL 36 41 46 rfl rfl rfl (by kernel_rfl) ?_ ?_ ?_
   ·
    refine QI (ek:=Value.int .i64) (ev:=Value.bool) _ Zf Zk rfl rfl rfl rfl (by repeat (first | exact Upd.here | apply Upd.there | apply Qx)) ?_
    refine Qb ?_
    refine zD hD ?_
    refine Q8 41 46 rfl rfl (by kernel_rfl) ?_ ?_
    ·
     refine QI (ek:=Value.int .i64) (ev:=Value.bool) _ Zf Zk rfl rfl rfl rfl (by repeat (first | exact Upd.here | apply Upd.there | apply Qx)) ?_
     refine Qb ?_
     refine zD hD ?_
     refine qd 46 rfl ?_
     refine QI (ek:=Value.int .i64) (ev:=Value.bool) _ Zf Zk rfl rfl rfl rfl (by repeat (first | exact Upd.here | apply Upd.there | apply Qx)) ?_
     refine Qb ?_
     refine zD hD ?_
     refine QY 47 rfl (Qh rfl) (.none rfl) rfl rfl (by kernel_rfl) (by kernel_rfl) (by kernel_rfl) QK hD (by repeat (first | exact .refl | exact Qe | refine .keep ?_ | refine .drop ?_ | refine Qf ?_)) ?_
     refine QY 48 rfl (QB rfl) (.none rfl) rfl rfl (by kernel_rfl) (by kernel_rfl) (by kernel_rfl) QK hD (by repeat (first | exact .refl | exact Qe | refine .keep ?_ | refine .drop ?_ | refine Qf ?_)) ?_
     refine Qm (by kernel_rfl) ?_
     refine QA ?_
     refine Zs _ _ ⟨_,_,rfl,rfl,rfl,?_,?_,?_,?_⟩ (.cons rfl (.cons rfl .nil)) (by repeat (first | exact .refl | exact QO | refine Zh ?_ | refine .drop ?_ | refine Qf ?_))
     all_goals rfl
    refine QI (ek:=Value.int .i64) (ev:=Value.bool) _ Zf Zk rfl rfl rfl rfl (by repeat (first | exact Upd.here | apply Upd.there | apply Qx)) ?_
    refine Qb ?_
    refine zD hD ?_
    refine qd 41 rfl ?_
    refine QI (ek:=Value.int .i64) (ev:=Value.bool) _ Zf Zk rfl rfl rfl rfl (by repeat (first | exact Upd.here | apply Upd.there | apply Qx)) ?_
    refine Qb ?_
    refine zD hD ?_
    refine QY 47 rfl (Qh rfl) (.none rfl) rfl rfl (by kernel_rfl) (by kernel_rfl) (by kernel_rfl) QK hD (by repeat (first | exact .refl | exact Qe | refine .keep ?_ | refine .drop ?_ | refine Qf ?_)) ?_
    refine QY 48 rfl (QB rfl) (.none rfl) rfl rfl (by kernel_rfl) (by kernel_rfl) (by kernel_rfl) QK hD (by repeat (first | exact .refl | exact Qe | refine .keep ?_ | refine .drop ?_ | refine Qf ?_)) ?_
    refine Qm (by kernel_rfl) ?_
    refine QA ?_
    refine Zs _ _ ⟨_,_,rfl,rfl,rfl,?_,?_,?_,?_⟩ (.cons rfl (.cons rfl .nil)) (by repeat (first | exact .refl | exact QO | refine Zh ?_ | refine .drop ?_ | refine Qf ?_))
    all_goals rfl
   ·
    refine QI (ek:=Value.int .i64) (ev:=Value.bool) _ Zf Zk rfl rfl rfl rfl (by repeat (first | exact Upd.here | apply Upd.there | apply Qx)) ?_
    refine Qb ?_
    refine zD hD ?_
    refine Q8 36 46 rfl rfl (by kernel_rfl) ?_ ?_
    ·
     refine QI (ek:=Value.int .i64) (ev:=Value.bool) _ Zf Zk rfl rfl rfl rfl (by repeat (first | exact Upd.here | apply Upd.there | apply Qx)) ?_
     refine Qb ?_
     refine zD hD ?_
     refine qd 46 rfl ?_
     refine QI (ek:=Value.int .i64) (ev:=Value.bool) _ Zf Zk rfl rfl rfl rfl (by repeat (first | exact Upd.here | apply Upd.there | apply Qx)) ?_
     refine Qb ?_
     refine zD hD ?_
     refine QY 47 rfl (Qh rfl) (.none rfl) rfl rfl (by kernel_rfl) (by kernel_rfl) (by kernel_rfl) QK hD (by repeat (first | exact .refl | exact Qe | refine .keep ?_ | refine .drop ?_ | refine Qf ?_)) ?_
     refine QY 48 rfl (QB rfl) (.none rfl) rfl rfl (by kernel_rfl) (by kernel_rfl) (by kernel_rfl) QK hD (by repeat (first | exact .refl | exact Qe | refine .keep ?_ | refine .drop ?_ | refine Qf ?_)) ?_
     refine Qm (by kernel_rfl) ?_
     refine QA ?_
     refine Zs _ _ ⟨_,_,rfl,rfl,rfl,?_,?_,?_,?_⟩ (.cons rfl (.cons rfl .nil)) (by repeat (first | exact .refl | exact QO | refine Zh ?_ | refine .drop ?_ | refine Qf ?_))
     all_goals rfl
    refine QI (ek:=Value.int .i64) (ev:=Value.bool) _ Zf Zk rfl rfl rfl rfl (by repeat (first | exact Upd.here | apply Upd.there | apply Qx)) ?_
    refine Qb ?_
    refine zD hD ?_
    refine qd 36 rfl ?_
    refine QI (ek:=Value.int .i64) (ev:=Value.bool) _ Zf Zk rfl rfl rfl rfl (by repeat (first | exact Upd.here | apply Upd.there | apply Qx)) ?_
    refine Qb ?_
    refine zD hD ?_
    refine QY 47 rfl (Qh rfl) (.none rfl) rfl rfl (by kernel_rfl) (by kernel_rfl) (by kernel_rfl) QK hD (by repeat (first | exact .refl | exact Qe | refine .keep ?_ | refine .drop ?_ | refine Qf ?_)) ?_
    refine QY 48 rfl (QB rfl) (.none rfl) rfl rfl (by kernel_rfl) (by kernel_rfl) (by kernel_rfl) QK hD (by repeat (first | exact .refl | exact Qe | refine .keep ?_ | refine .drop ?_ | refine Qf ?_)) ?_
    refine Qm (by kernel_rfl) ?_
    refine QA ?_
    refine Zs _ _ ⟨_,_,rfl,rfl,rfl,?_,?_,?_,?_⟩ (.cons rfl (.cons rfl .nil)) (by repeat (first | exact .refl | exact QO | refine Zh ?_ | refine .drop ?_ | refine Qf ?_))
    all_goals rfl
   refine QI (ek:=Value.int .i64) (ev:=Value.bool) _ Zf Zk rfl rfl rfl rfl (by repeat (first | exact Upd.here | apply Upd.there | apply Qx)) ?_
   refine Qb ?_
   refine zD hD ?_
   refine Q8 36 41 rfl rfl (by kernel_rfl) ?_ ?_
   ·
    refine QI (ek:=Value.int .i64) (ev:=Value.bool) _ Zf Zk rfl rfl rfl rfl (by repeat (first | exact Upd.here | apply Upd.there | apply Qx)) ?_
    refine Qb ?_
    refine zD hD ?_
    refine qd 41 rfl ?_
    refine QI (ek:=Value.int .i64) (ev:=Value.bool) _ Zf Zk rfl rfl rfl rfl (by repeat (first | exact Upd.here | apply Upd.there | apply Qx)) ?_
    refine Qb ?_
    refine zD hD ?_
    refine QY 47 rfl (Qh rfl) (.none rfl) rfl rfl (by kernel_rfl) (by kernel_rfl) (by kernel_rfl) QK hD (by repeat (first | exact .refl | exact Qe | refine .keep ?_ | refine .drop ?_ | refine Qf ?_)) ?_
    refine QY 48 rfl (QB rfl) (.none rfl) rfl rfl (by kernel_rfl) (by kernel_rfl) (by kernel_rfl) QK hD (by repeat (first | exact .refl | exact Qe | refine .keep ?_ | refine .drop ?_ | refine Qf ?_)) ?_
    refine Qm (by kernel_rfl) ?_
    refine QA ?_
    refine Zs _ _ ⟨_,_,rfl,rfl,rfl,?_,?_,?_,?_⟩ (.cons rfl (.cons rfl .nil)) (by repeat (first | exact .refl | exact QO | refine Zh ?_ | refine .drop ?_ | refine Qf ?_))
    all_goals rfl
   refine QI (ek:=Value.int .i64) (ev:=Value.bool) _ Zf Zk rfl rfl rfl rfl (by repeat (first | exact Upd.here | apply Upd.there | apply Qx)) ?_
   refine Qb ?_
   refine zD hD ?_
   refine qd 36 rfl ?_
   refine QI (ek:=Value.int .i64) (ev:=Value.bool) _ Zf Zk rfl rfl rfl rfl (by repeat (first | exact Upd.here | apply Upd.there | apply Qx)) ?_
   refine Qb ?_
   refine zD hD ?_
   refine QY 47 rfl (Qh rfl) (.none rfl) rfl rfl (by kernel_rfl) (by kernel_rfl) (by kernel_rfl) QK hD (by repeat (first | exact .refl | exact Qe | refine .keep ?_ | refine .drop ?_ | refine Qf ?_)) ?_
   refine QY 48 rfl (QB rfl) (.none rfl) rfl rfl (by kernel_rfl) (by kernel_rfl) (by kernel_rfl) QK hD (by repeat (first | exact .refl | exact Qe | refine .keep ?_ | refine .drop ?_ | refine Qf ?_)) ?_
   refine Qm (by kernel_rfl) ?_
   refine QA ?_
   refine Zs _ _ ⟨_,_,rfl,rfl,rfl,?_,?_,?_,?_⟩ (.cons rfl (.cons rfl .nil)) (by repeat (first | exact .refl | exact QO | refine Zh ?_ | refine .drop ?_ | refine Qf ?_))
   all_goals rfl
  ·
   refine QI (ek:=Value.int .i64) (ev:=Value.bool) _ Zf Zk rfl rfl rfl rfl (by repeat (first | exact Upd.here | apply Upd.there | apply Qx)) ?_
   refine Qb ?_
   refine zD hD ?_
   refine VL 5 41 46 rfl rfl rfl (by kernel_rfl) ?_ ?_ ?_
   ·
    refine QI (ek:=Value.int .i64) (ev:=Value.bool) _ Zf Zk rfl rfl rfl rfl (by repeat (first | exact Upd.here | apply Upd.there | apply Qx)) ?_
    refine Qb ?_
    refine zD hD ?_
    refine Q8 41 46 rfl rfl (by kernel_rfl) ?_ ?_
    ·
     refine QI (ek:=Value.int .i64) (ev:=Value.bool) _ Zf Zk rfl rfl rfl rfl (by repeat (first | exact Upd.here | apply Upd.there | apply Qx)) ?_
     refine Qb ?_
     refine zD hD ?_
     refine qd 46 rfl ?_
     refine QI (ek:=Value.int .i64) (ev:=Value.bool) _ Zf Zk rfl rfl rfl rfl (by repeat (first | exact Upd.here | apply Upd.there | apply Qx)) ?_
     refine Qb ?_
     refine zD hD ?_
     refine QY 47 rfl (Qh rfl) (.none rfl) rfl rfl (by kernel_rfl) (by kernel_rfl) (by kernel_rfl) QK hD (by repeat (first | exact .refl | exact Qe | refine .keep ?_ | refine .drop ?_ | refine Qf ?_)) ?_
     refine QY 48 rfl (QB rfl) (.none rfl) rfl rfl (by kernel_rfl) (by kernel_rfl) (by kernel_rfl) QK hD (by repeat (first | exact .refl | exact Qe | refine .keep ?_ | refine .drop ?_ | refine Qf ?_)) ?_
     refine Qm (by kernel_rfl) ?_
     refine QA ?_
     refine Zs _ _ ⟨_,_,rfl,rfl,rfl,?_,?_,?_,?_⟩ (.cons rfl (.cons rfl .nil)) (by repeat (first | exact .refl | exact QO | refine Zh ?_ | refine .drop ?_ | refine Qf ?_))
     all_goals rfl
    refine QI (ek:=Value.int .i64) (ev:=Value.bool) _ Zf Zk rfl rfl rfl rfl (by repeat (first | exact Upd.here | apply Upd.there | apply Qx)) ?_
    refine Qb ?_
    refine zD hD ?_
    refine qd 41 rfl ?_
    refine QI (ek:=Value.int .i64) (ev:=Value.bool) _ Zf Zk rfl rfl rfl rfl (by repeat (first | exact Upd.here | apply Upd.there | apply Qx)) ?_
    refine Qb ?_
    refine zD hD ?_
    refine QY 47 rfl (Qh rfl) (.none rfl) rfl rfl (by kernel_rfl) (by kernel_rfl) (by kernel_rfl) QK hD (by repeat (first | exact .refl | exact Qe | refine .keep ?_ | refine .drop ?_ | refine Qf ?_)) ?_
    refine QY 48 rfl (QB rfl) (.none rfl) rfl rfl (by kernel_rfl) (by kernel_rfl) (by kernel_rfl) QK hD (by repeat (first | exact .refl | exact Qe | refine .keep ?_ | refine .drop ?_ | refine Qf ?_)) ?_
    refine Qm (by kernel_rfl) ?_
    refine QA ?_
    refine Zs _ _ ⟨_,_,rfl,rfl,rfl,?_,?_,?_,?_⟩ (.cons rfl (.cons rfl .nil)) (by repeat (first | exact .refl | exact QO | refine Zh ?_ | refine .drop ?_ | refine Qf ?_))
    all_goals rfl
   ·
    refine QI (ek:=Value.int .i64) (ev:=Value.bool) _ Zf Zk rfl rfl rfl rfl (by repeat (first | exact Upd.here | apply Upd.there | apply Qx)) ?_
    refine Qb ?_
    refine zD hD ?_
    refine Q8 5 46 rfl rfl (by kernel_rfl) ?_ ?_
    ·
     refine QI (ek:=Value.int .i64) (ev:=Value.bool) _ Zf Zk rfl rfl rfl rfl (by repeat (first | exact Upd.here | apply Upd.there | apply Qx)) ?_
     refine Qb ?_
     refine zD hD ?_
     refine qd 46 rfl ?_
     refine QI (ek:=Value.int .i64) (ev:=Value.bool) _ Zf Zk rfl rfl rfl rfl (by repeat (first | exact Upd.here | apply Upd.there | apply Qx)) ?_
     refine Qb ?_
     refine zD hD ?_
     refine QY 47 rfl (Qh rfl) (.none rfl) rfl rfl (by kernel_rfl) (by kernel_rfl) (by kernel_rfl) QK hD (by repeat (first | exact .refl | exact Qe | refine .keep ?_ | refine .drop ?_ | refine Qf ?_)) ?_
     refine QY 48 rfl (QB rfl) (.none rfl) rfl rfl (by kernel_rfl) (by kernel_rfl) (by kernel_rfl) QK hD (by repeat (first | exact .refl | exact Qe | refine .keep ?_ | refine .drop ?_ | refine Qf ?_)) ?_
     refine Qm (by kernel_rfl) ?_
     refine QA ?_
     refine Zs _ _ ⟨_,_,rfl,rfl,rfl,?_,?_,?_,?_⟩ (.cons rfl (.cons rfl .nil)) (by repeat (first | exact .refl | exact QO | refine Zh ?_ | refine .drop ?_ | refine Qf ?_))
     all_goals rfl
    refine QI (ek:=Value.int .i64) (ev:=Value.bool) _ Zf Zk rfl rfl rfl rfl (by repeat (first | exact Upd.here | apply Upd.there | apply Qx)) ?_
    refine Qb ?_
    refine zD hD ?_
    refine qd 5 rfl ?_
    refine QI (ek:=Value.int .i64) (ev:=Value.bool) _ Zf Zk rfl rfl rfl rfl (by repeat (first | exact Upd.here | apply Upd.there | apply Qx)) ?_
    refine Qb ?_
    refine zD hD ?_
    refine QY 47 rfl (Qh rfl) (.none rfl) rfl rfl (by kernel_rfl) (by kernel_rfl) (by kernel_rfl) QK hD (by repeat (first | exact .refl | exact Qe | refine .keep ?_ | refine .drop ?_ | refine Qf ?_)) ?_
    refine QY 48 rfl (QB rfl) (.none rfl) rfl rfl (by kernel_rfl) (by kernel_rfl) (by kernel_rfl) QK hD (by repeat (first | exact .refl | exact Qe | refine .keep ?_ | refine .drop ?_ | refine Qf ?_)) ?_
    refine Qm (by kernel_rfl) ?_
    refine QA ?_
    refine Zs _ _ ⟨_,_,rfl,rfl,rfl,?_,?_,?_,?_⟩ (.cons rfl (.cons rfl .nil)) (by repeat (first | exact .refl | exact QO | refine Zh ?_ | refine .drop ?_ | refine Qf ?_))
    all_goals rfl
   refine QI (ek:=Value.int .i64) (ev:=Value.bool) _ Zf Zk rfl rfl rfl rfl (by repeat (first | exact Upd.here | apply Upd.there | apply Qx)) ?_
   refine Qb ?_
   refine zD hD ?_
   refine Q8 5 41 rfl rfl (by kernel_rfl) ?_ ?_
   ·
    refine QI (ek:=Value.int .i64) (ev:=Value.bool) _ Zf Zk rfl rfl rfl rfl (by repeat (first | exact Upd.here | apply Upd.there | apply Qx)) ?_
    refine Qb ?_
    refine zD hD ?_
    refine qd 41 rfl ?_
    refine QI (ek:=Value.int .i64) (ev:=Value.bool) _ Zf Zk rfl rfl rfl rfl (by repeat (first | exact Upd.here | apply Upd.there | apply Qx)) ?_
    refine Qb ?_
    refine zD hD ?_
    refine QY 47 rfl (Qh rfl) (.none rfl) rfl rfl (by kernel_rfl) (by kernel_rfl) (by kernel_rfl) QK hD (by repeat (first | exact .refl | exact Qe | refine .keep ?_ | refine .drop ?_ | refine Qf ?_)) ?_
    refine QY 48 rfl (QB rfl) (.none rfl) rfl rfl (by kernel_rfl) (by kernel_rfl) (by kernel_rfl) QK hD (by repeat (first | exact .refl | exact Qe | refine .keep ?_ | refine .drop ?_ | refine Qf ?_)) ?_
    refine Qm (by kernel_rfl) ?_
    refine QA ?_
    refine Zs _ _ ⟨_,_,rfl,rfl,rfl,?_,?_,?_,?_⟩ (.cons rfl (.cons rfl .nil)) (by repeat (first | exact .refl | exact QO | refine Zh ?_ | refine .drop ?_ | refine Qf ?_))
    all_goals rfl
   refine QI (ek:=Value.int .i64) (ev:=Value.bool) _ Zf Zk rfl rfl rfl rfl (by repeat (first | exact Upd.here | apply Upd.there | apply Qx)) ?_
   refine Qb ?_
   refine zD hD ?_
   refine qd 5 rfl ?_
   refine QI (ek:=Value.int .i64) (ev:=Value.bool) _ Zf Zk rfl rfl rfl rfl (by repeat (first | exact Upd.here | apply Upd.there | apply Qx)) ?_
   refine Qb ?_
   refine zD hD ?_
   refine QY 47 rfl (Qh rfl) (.none rfl) rfl rfl (by kernel_rfl) (by kernel_rfl) (by kernel_rfl) QK hD (by repeat (first | exact .refl | exact Qe | refine .keep ?_ | refine .drop ?_ | refine Qf ?_)) ?_
   refine QY 48 rfl (QB rfl) (.none rfl) rfl rfl (by kernel_rfl) (by kernel_rfl) (by kernel_rfl) QK hD (by repeat (first | exact .refl | exact Qe | refine .keep ?_ | refine .drop ?_ | refine Qf ?_)) ?_
   refine Qm (by kernel_rfl) ?_
   refine QA ?_
   refine Zs _ _ ⟨_,_,rfl,rfl,rfl,?_,?_,?_,?_⟩ (.cons rfl (.cons rfl .nil)) (by repeat (first | exact .refl | exact QO | refine Zh ?_ | refine .drop ?_ | refine Qf ?_))
   all_goals rfl
  ·
   refine QI (ek:=Value.int .i64) (ev:=Value.bool) _ Zf Zk rfl rfl rfl rfl (by repeat (first | exact Upd.here | apply Upd.there | apply Qx)) ?_
   refine Qb ?_
   refine zD hD ?_
   refine VL 5 36 46 rfl rfl rfl (by kernel_rfl) ?_ ?_ ?_
   ·
    refine QI (ek:=Value.int .i64) (ev:=Value.bool) _ Zf Zk rfl rfl rfl rfl (by repeat (first | exact Upd.here | apply Upd.there | apply Qx)) ?_
    refine Qb ?_
    refine zD hD ?_
    refine Q8 36 46 rfl rfl (by kernel_rfl) ?_ ?_
    ·
     refine QI (ek:=Value.int .i64) (ev:=Value.bool) _ Zf Zk rfl rfl rfl rfl (by repeat (first | exact Upd.here | apply Upd.there | apply Qx)) ?_
     refine Qb ?_
     refine zD hD ?_
     refine qd 46 rfl ?_
     refine QI (ek:=Value.int .i64) (ev:=Value.bool) _ Zf Zk rfl rfl rfl rfl (by repeat (first | exact Upd.here | apply Upd.there | apply Qx)) ?_
     refine Qb ?_
     refine zD hD ?_
     refine QY 47 rfl (Qh rfl) (.none rfl) rfl rfl (by kernel_rfl) (by kernel_rfl) (by kernel_rfl) QK hD (by repeat (first | exact .refl | exact Qe | refine .keep ?_ | refine .drop ?_ | refine Qf ?_)) ?_
     refine QY 48 rfl (QB rfl) (.none rfl) rfl rfl (by kernel_rfl) (by kernel_rfl) (by kernel_rfl) QK hD (by repeat (first | exact .refl | exact Qe | refine .keep ?_ | refine .drop ?_ | refine Qf ?_)) ?_
     refine Qm (by kernel_rfl) ?_
     refine QA ?_
     refine Zs _ _ ⟨_,_,rfl,rfl,rfl,?_,?_,?_,?_⟩ (.cons rfl (.cons rfl .nil)) (by repeat (first | exact .refl | exact QO | refine Zh ?_ | refine .drop ?_ | refine Qf ?_))
     all_goals rfl
    refine QI (ek:=Value.int .i64) (ev:=Value.bool) _ Zf Zk rfl rfl rfl rfl (by repeat (first | exact Upd.here | apply Upd.there | apply Qx)) ?_
    refine Qb ?_
    refine zD hD ?_
    refine qd 36 rfl ?_
    refine QI (ek:=Value.int .i64) (ev:=Value.bool) _ Zf Zk rfl rfl rfl rfl (by repeat (first | exact Upd.here | apply Upd.there | apply Qx)) ?_
    refine Qb ?_
    refine zD hD ?_
    refine QY 47 rfl (Qh rfl) (.none rfl) rfl rfl (by kernel_rfl) (by kernel_rfl) (by kernel_rfl) QK hD (by repeat (first | exact .refl | exact Qe | refine .keep ?_ | refine .drop ?_ | refine Qf ?_)) ?_
    refine QY 48 rfl (QB rfl) (.none rfl) rfl rfl (by kernel_rfl) (by kernel_rfl) (by kernel_rfl) QK hD (by repeat (first | exact .refl | exact Qe | refine .keep ?_ | refine .drop ?_ | refine Qf ?_)) ?_
    refine Qm (by kernel_rfl) ?_
    refine QA ?_
    refine Zs _ _ ⟨_,_,rfl,rfl,rfl,?_,?_,?_,?_⟩ (.cons rfl (.cons rfl .nil)) (by repeat (first | exact .refl | exact QO | refine Zh ?_ | refine .drop ?_ | refine Qf ?_))
    all_goals rfl
   ·
    refine QI (ek:=Value.int .i64) (ev:=Value.bool) _ Zf Zk rfl rfl rfl rfl (by repeat (first | exact Upd.here | apply Upd.there | apply Qx)) ?_
    refine Qb ?_
    refine zD hD ?_
    refine Q8 5 46 rfl rfl (by kernel_rfl) ?_ ?_
    ·
     refine QI (ek:=Value.int .i64) (ev:=Value.bool) _ Zf Zk rfl rfl rfl rfl (by repeat (first | exact Upd.here | apply Upd.there | apply Qx)) ?_
     refine Qb ?_
     refine zD hD ?_
     refine qd 46 rfl ?_
     refine QI (ek:=Value.int .i64) (ev:=Value.bool) _ Zf Zk rfl rfl rfl rfl (by repeat (first | exact Upd.here | apply Upd.there | apply Qx)) ?_
     refine Qb ?_
     refine zD hD ?_
     refine QY 47 rfl (Qh rfl) (.none rfl) rfl rfl (by kernel_rfl) (by kernel_rfl) (by kernel_rfl) QK hD (by repeat (first | exact .refl | exact Qe | refine .keep ?_ | refine .drop ?_ | refine Qf ?_)) ?_
     refine QY 48 rfl (QB rfl) (.none rfl) rfl rfl (by kernel_rfl) (by kernel_rfl) (by kernel_rfl) QK hD (by repeat (first | exact .refl | exact Qe | refine .keep ?_ | refine .drop ?_ | refine Qf ?_)) ?_
     refine Qm (by kernel_rfl) ?_
     refine QA ?_
     refine Zs _ _ ⟨_,_,rfl,rfl,rfl,?_,?_,?_,?_⟩ (.cons rfl (.cons rfl .nil)) (by repeat (first | exact .refl | exact QO | refine Zh ?_ | refine .drop ?_ | refine Qf ?_))
     all_goals rfl
    refine QI (ek:=Value.int .i64) (ev:=Value.bool) _ Zf Zk rfl rfl rfl rfl (by repeat (first | exact Upd.here | apply Upd.there | apply Qx)) ?_
    refine Qb ?_
    refine zD hD ?_
    refine qd 5 rfl ?_
    refine QI (ek:=Value.int .i64) (ev:=Value.bool) _ Zf Zk rfl rfl rfl rfl (by repeat (first | exact Upd.here | apply Upd.there | apply Qx)) ?_
    refine Qb ?_
    refine zD hD ?_
    refine QY 47 rfl (Qh rfl) (.none rfl) rfl rfl (by kernel_rfl) (by kernel_rfl) (by kernel_rfl) QK hD (by repeat (first | exact .refl | exact Qe | refine .keep ?_ | refine .drop ?_ | refine Qf ?_)) ?_
    refine QY 48 rfl (QB rfl) (.none rfl) rfl rfl (by kernel_rfl) (by kernel_rfl) (by kernel_rfl) QK hD (by repeat (first | exact .refl | exact Qe | refine .keep ?_ | refine .drop ?_ | refine Qf ?_)) ?_
    refine Qm (by kernel_rfl) ?_
    refine QA ?_
    refine Zs _ _ ⟨_,_,rfl,rfl,rfl,?_,?_,?_,?_⟩ (.cons rfl (.cons rfl .nil)) (by repeat (first | exact .refl | exact QO | refine Zh ?_ | refine .drop ?_ | refine Qf ?_))
    all_goals rfl
   refine QI (ek:=Value.int .i64) (ev:=Value.bool) _ Zf Zk rfl rfl rfl rfl (by repeat (first | exact Upd.here | apply Upd.there | apply Qx)) ?_
   refine Qb ?_
   refine zD hD ?_
   refine Q8 5 36 rfl rfl (by kernel_rfl) ?_ ?_
   ·
    refine QI (ek:=Value.int .i64) (ev:=Value.bool) _ Zf Zk rfl rfl rfl rfl (by repeat (first | exact Upd.here | apply Upd.there | apply Qx)) ?_
    refine Qb ?_
    refine zD hD ?_
    refine qd 36 rfl ?_
    refine QI (ek:=Value.int .i64) (ev:=Value.bool) _ Zf Zk rfl rfl rfl rfl (by repeat (first | exact Upd.here | apply Upd.there | apply Qx)) ?_
    refine Qb ?_
    refine zD hD ?_
    refine QY 47 rfl (Qh rfl) (.none rfl) rfl rfl (by kernel_rfl) (by kernel_rfl) (by kernel_rfl) QK hD (by repeat (first | exact .refl | exact Qe | refine .keep ?_ | refine .drop ?_ | refine Qf ?_)) ?_
    refine QY 48 rfl (QB rfl) (.none rfl) rfl rfl (by kernel_rfl) (by kernel_rfl) (by kernel_rfl) QK hD (by repeat (first | exact .refl | exact Qe | refine .keep ?_ | refine .drop ?_ | refine Qf ?_)) ?_
    refine Qm (by kernel_rfl) ?_
    refine QA ?_
    refine Zs _ _ ⟨_,_,rfl,rfl,rfl,?_,?_,?_,?_⟩ (.cons rfl (.cons rfl .nil)) (by repeat (first | exact .refl | exact QO | refine Zh ?_ | refine .drop ?_ | refine Qf ?_))
    all_goals rfl
   refine QI (ek:=Value.int .i64) (ev:=Value.bool) _ Zf Zk rfl rfl rfl rfl (by repeat (first | exact Upd.here | apply Upd.there | apply Qx)) ?_
   refine Qb ?_
   refine zD hD ?_
   refine qd 5 rfl ?_
   refine QI (ek:=Value.int .i64) (ev:=Value.bool) _ Zf Zk rfl rfl rfl rfl (by repeat (first | exact Upd.here | apply Upd.there | apply Qx)) ?_
   refine Qb ?_
   refine zD hD ?_
   refine QY 47 rfl (Qh rfl) (.none rfl) rfl rfl (by kernel_rfl) (by kernel_rfl) (by kernel_rfl) QK hD (by repeat (first | exact .refl | exact Qe | refine .keep ?_ | refine .drop ?_ | refine Qf ?_)) ?_
   refine QY 48 rfl (QB rfl) (.none rfl) rfl rfl (by kernel_rfl) (by kernel_rfl) (by kernel_rfl) QK hD (by repeat (first | exact .refl | exact Qe | refine .keep ?_ | refine .drop ?_ | refine Qf ?_)) ?_
   refine Qm (by kernel_rfl) ?_
   refine QA ?_
   refine Zs _ _ ⟨_,_,rfl,rfl,rfl,?_,?_,?_,?_⟩ (.cons rfl (.cons rfl .nil)) (by repeat (first | exact .refl | exact QO | refine Zh ?_ | refine .drop ?_ | refine Qf ?_))
   all_goals rfl
  refine QI (ek:=Value.int .i64) (ev:=Value.bool) _ Zf Zk rfl rfl rfl rfl (by repeat (first | exact Upd.here | apply Upd.there | apply Qx)) ?_
  refine Qb ?_
  refine zD hD ?_
  refine VL 5 36 41 rfl rfl rfl (by kernel_rfl) ?_ ?_ ?_
  ·
   refine QI (ek:=Value.int .i64) (ev:=Value.bool) _ Zf Zk rfl rfl rfl rfl (by repeat (first | exact Upd.here | apply Upd.there | apply Qx)) ?_
   refine Qb ?_
   refine zD hD ?_
   refine Q8 36 41 rfl rfl (by kernel_rfl) ?_ ?_
   ·
    refine QI (ek:=Value.int .i64) (ev:=Value.bool) _ Zf Zk rfl rfl rfl rfl (by repeat (first | exact Upd.here | apply Upd.there | apply Qx)) ?_
    refine Qb ?_
    refine zD hD ?_
    refine qd 41 rfl ?_
    refine QI (ek:=Value.int .i64) (ev:=Value.bool) _ Zf Zk rfl rfl rfl rfl (by repeat (first | exact Upd.here | apply Upd.there | apply Qx)) ?_
    refine Qb ?_
    refine zD hD ?_
    refine QY 47 rfl (Qh rfl) (.none rfl) rfl rfl (by kernel_rfl) (by kernel_rfl) (by kernel_rfl) QK hD (by repeat (first | exact .refl | exact Qe | refine .keep ?_ | refine .drop ?_ | refine Qf ?_)) ?_
    refine QY 48 rfl (QB rfl) (.none rfl) rfl rfl (by kernel_rfl) (by kernel_rfl) (by kernel_rfl) QK hD (by repeat (first | exact .refl | exact Qe | refine .keep ?_ | refine .drop ?_ | refine Qf ?_)) ?_
    refine Qm (by kernel_rfl) ?_
    refine QA ?_
    refine Zs _ _ ⟨_,_,rfl,rfl,rfl,?_,?_,?_,?_⟩ (.cons rfl (.cons rfl .nil)) (by repeat (first | exact .refl | exact QO | refine Zh ?_ | refine .drop ?_ | refine Qf ?_))
    all_goals rfl
   refine QI (ek:=Value.int .i64) (ev:=Value.bool) _ Zf Zk rfl rfl rfl rfl (by repeat (first | exact Upd.here | apply Upd.there | apply Qx)) ?_
   refine Qb ?_
   refine zD hD ?_
   refine qd 36 rfl ?_
   refine QI (ek:=Value.int .i64) (ev:=Value.bool) _ Zf Zk rfl rfl rfl rfl (by repeat (first | exact Upd.here | apply Upd.there | apply Qx)) ?_
   refine Qb ?_
   refine zD hD ?_
   refine QY 47 rfl (Qh rfl) (.none rfl) rfl rfl (by kernel_rfl) (by kernel_rfl) (by kernel_rfl) QK hD (by repeat (first | exact .refl | exact Qe | refine .keep ?_ | refine .drop ?_ | refine Qf ?_)) ?_
   refine QY 48 rfl (QB rfl) (.none rfl) rfl rfl (by kernel_rfl) (by kernel_rfl) (by kernel_rfl) QK hD (by repeat (first | exact .refl | exact Qe | refine .keep ?_ | refine .drop ?_ | refine Qf ?_)) ?_
   refine Qm (by kernel_rfl) ?_
   refine QA ?_
   refine Zs _ _ ⟨_,_,rfl,rfl,rfl,?_,?_,?_,?_⟩ (.cons rfl (.cons rfl .nil)) (by repeat (first | exact .refl | exact QO | refine Zh ?_ | refine .drop ?_ | refine Qf ?_))
   all_goals rfl
  ·
   refine QI (ek:=Value.int .i64) (ev:=Value.bool) _ Zf Zk rfl rfl rfl rfl (by repeat (first | exact Upd.here | apply Upd.there | apply Qx)) ?_
   refine Qb ?_
   refine zD hD ?_
   refine Q8 5 41 rfl rfl (by kernel_rfl) ?_ ?_
   ·
    refine QI (ek:=Value.int .i64) (ev:=Value.bool) _ Zf Zk rfl rfl rfl rfl (by repeat (first | exact Upd.here | apply Upd.there | apply Qx)) ?_
    refine Qb ?_
    refine zD hD ?_
    refine qd 41 rfl ?_
    refine QI (ek:=Value.int .i64) (ev:=Value.bool) _ Zf Zk rfl rfl rfl rfl (by repeat (first | exact Upd.here | apply Upd.there | apply Qx)) ?_
    refine Qb ?_
    refine zD hD ?_
    refine QY 47 rfl (Qh rfl) (.none rfl) rfl rfl (by kernel_rfl) (by kernel_rfl) (by kernel_rfl) QK hD (by repeat (first | exact .refl | exact Qe | refine .keep ?_ | refine .drop ?_ | refine Qf ?_)) ?_
    refine QY 48 rfl (QB rfl) (.none rfl) rfl rfl (by kernel_rfl) (by kernel_rfl) (by kernel_rfl) QK hD (by repeat (first | exact .refl | exact Qe | refine .keep ?_ | refine .drop ?_ | refine Qf ?_)) ?_
    refine Qm (by kernel_rfl) ?_
    refine QA ?_
    refine Zs _ _ ⟨_,_,rfl,rfl,rfl,?_,?_,?_,?_⟩ (.cons rfl (.cons rfl .nil)) (by repeat (first | exact .refl | exact QO | refine Zh ?_ | refine .drop ?_ | refine Qf ?_))
    all_goals rfl
   refine QI (ek:=Value.int .i64) (ev:=Value.bool) _ Zf Zk rfl rfl rfl rfl (by repeat (first | exact Upd.here | apply Upd.there | apply Qx)) ?_
   refine Qb ?_
   refine zD hD ?_
   refine qd 5 rfl ?_
   refine QI (ek:=Value.int .i64) (ev:=Value.bool) _ Zf Zk rfl rfl rfl rfl (by repeat (first | exact Upd.here | apply Upd.there | apply Qx)) ?_
   refine Qb ?_
   refine zD hD ?_
   refine QY 47 rfl (Qh rfl) (.none rfl) rfl rfl (by kernel_rfl) (by kernel_rfl) (by kernel_rfl) QK hD (by repeat (first | exact .refl | exact Qe | refine .keep ?_ | refine .drop ?_ | refine Qf ?_)) ?_
   refine QY 48 rfl (QB rfl) (.none rfl) rfl rfl (by kernel_rfl) (by kernel_rfl) (by kernel_rfl) QK hD (by repeat (first | exact .refl | exact Qe | refine .keep ?_ | refine .drop ?_ | refine Qf ?_)) ?_
   refine Qm (by kernel_rfl) ?_
   refine QA ?_
   refine Zs _ _ ⟨_,_,rfl,rfl,rfl,?_,?_,?_,?_⟩ (.cons rfl (.cons rfl .nil)) (by repeat (first | exact .refl | exact QO | refine Zh ?_ | refine .drop ?_ | refine Qf ?_))
   all_goals rfl
  refine QI (ek:=Value.int .i64) (ev:=Value.bool) _ Zf Zk rfl rfl rfl rfl (by repeat (first | exact Upd.here | apply Upd.there | apply Qx)) ?_
  refine Qb ?_
  refine zD hD ?_
  refine Q8 5 36 rfl rfl (by kernel_rfl) ?_ ?_
  ·
   refine QI (ek:=Value.int .i64) (ev:=Value.bool) _ Zf Zk rfl rfl rfl rfl (by repeat (first | exact Upd.here | apply Upd.there | apply Qx)) ?_
   refine Qb ?_
   refine zD hD ?_
   refine qd 36 rfl ?_
   refine QI (ek:=Value.int .i64) (ev:=Value.bool) _ Zf Zk rfl rfl rfl rfl (by repeat (first | exact Upd.here | apply Upd.there | apply Qx)) ?_
   refine Qb ?_
   refine zD hD ?_
   refine QY 47 rfl (Qh rfl) (.none rfl) rfl rfl (by kernel_rfl) (by kernel_rfl) (by kernel_rfl) QK hD (by repeat (first | exact .refl | exact Qe | refine .keep ?_ | refine .drop ?_ | refine Qf ?_)) ?_
   refine QY 48 rfl (QB rfl) (.none rfl) rfl rfl (by kernel_rfl) (by kernel_rfl) (by kernel_rfl) QK hD (by repeat (first | exact .refl | exact Qe | refine .keep ?_ | refine .drop ?_ | refine Qf ?_)) ?_
   refine Qm (by kernel_rfl) ?_
   refine QA ?_
   refine Zs _ _ ⟨_,_,rfl,rfl,rfl,?_,?_,?_,?_⟩ (.cons rfl (.cons rfl .nil)) (by repeat (first | exact .refl | exact QO | refine Zh ?_ | refine .drop ?_ | refine Qf ?_))
   all_goals rfl
  refine QI (ek:=Value.int .i64) (ev:=Value.bool) _ Zf Zk rfl rfl rfl rfl (by repeat (first | exact Upd.here | apply Upd.there | apply Qx)) ?_
  refine Qb ?_
  refine zD hD ?_
  refine qd 5 rfl ?_
  refine QI (ek:=Value.int .i64) (ev:=Value.bool) _ Zf Zk rfl rfl rfl rfl (by repeat (first | exact Upd.here | apply Upd.there | apply Qx)) ?_
  refine Qb ?_
  refine zD hD ?_
  refine QY 47 rfl (Qh rfl) (.none rfl) rfl rfl (by kernel_rfl) (by kernel_rfl) (by kernel_rfl) QK hD (by repeat (first | exact .refl | exact Qe | refine .keep ?_ | refine .drop ?_ | refine Qf ?_)) ?_
  refine QY 48 rfl (QB rfl) (.none rfl) rfl rfl (by kernel_rfl) (by kernel_rfl) (by kernel_rfl) QK hD (by repeat (first | exact .refl | exact Qe | refine .keep ?_ | refine .drop ?_ | refine Qf ?_)) ?_
  refine Qm (by kernel_rfl) ?_
  refine QA ?_
  refine Zs _ _ ⟨_,_,rfl,rfl,rfl,?_,?_,?_,?_⟩ (.cons rfl (.cons rfl .nil)) (by repeat (first | exact .refl | exact QO | refine Zh ?_ | refine .drop ?_ | refine Qf ?_))
  all_goals rfl
 rintro E I' loc' ⟨r,m,rfl,rfl,rfl,hm1,hm2,hm3,hm4⟩
 refine zR (zM ?_)
 refine zF Vm ?_
 refine zV (Qd rfl Qy (fun hg=>by exact QG.imm h1.out rfl)) ?_
 refine ZU _ Zf Zk rfl rfl rfl rfl (by repeat (first | exact Upd.here | apply Upd.there | apply Qx)) ?_
 refine zN (zR ?_)
 refine zM ?_
 refine zV (YL Zf Zk rfl rfl (fun _=>(by exact Mem.m0))) ?_
 refine zM ?_
 refine QL 2 rfl rfl rfl ?_
 refine zK (Qh rfl) ?_
 refine zK (YL Zf Zk rfl rfl (fun _=>(by exact Mem.m0))) ?_
 refine QU rfl rfl rfl rfl rfl ?_
 refine zM ?_
 refine QL 6 rfl rfl rfl ?_
 refine zK (Qh rfl) ?_
 refine zK (YL Zf Zk rfl rfl (fun _=>(by exact Mem.m0))) ?_
 refine QU rfl rfl rfl rfl rfl ?_
 refine zM ?_
 refine QL 10 rfl rfl rfl ?_
 refine zK (Qh rfl) ?_
 refine zK (YL Zf Zk rfl rfl (fun _=>(by exact Mem.m0))) ?_
 refine QU rfl rfl rfl rfl rfl ?_
 refine zA (zN (QF ?_))
 exact zp hIc rfl rfl (by rw [zmS hm1 hm2 hm3 hm4])
end
end Go.Proofs.YtjblkbkmblkgoaaGreat
namespace Go.Proofs.YtjblkbkmblkgoaaGreat.L
section
open Go Go.Kn Go.Proofs
theorem KP:AgT Tryz.prog 41 5:=.of (by kernel_rfl)
theorem zjn:QP Tryz.prog 141 0 0:=.of (by kernel_rfl)
theorem zi4:QP Tryz.prog 141 1 1:=.of (by kernel_rfl)
theorem zkL:QP Tryz.prog 141 2 2:=.of (by kernel_rfl)
theorem zhW:QP Tryz.prog 141 3 3:=.of (by kernel_rfl)
theorem zlr:QP Tryz.prog 141 4 4:=.of (by kernel_rfl)
theorem Up:QP Tryz.prog 41 0 0:=.of (by kernel_rfl)
theorem zcb:QP Tryz.prog 41 1 1:=.of (by kernel_rfl)
theorem zcJ:QP Tryz.prog 41 2 2:=.of (by kernel_rfl)
theorem zb8:QP Tryz.prog 41 3 3:=.of (by kernel_rfl)
theorem zcv:QP Tryz.prog 41 4 4:=.of (by kernel_rfl)
theorem zbq:Fun Tryz.prog 135:=.of Tryz.func135 (by kernel_rfl) (by kernel_rfl)
theorem zbn:Fun Tryz.prog 160:=.of Tryz.func160 (by kernel_rfl) (by kernel_rfl)
theorem zaW:Fun Tryz.prog 229:=.of Tryz.func229 (by kernel_rfl) (by kernel_rfl)
theorem zux:Fun Tryz.prog 95:=.of Tryz.func95 (by kernel_rfl) (by kernel_rfl)
theorem Zk:Kk (α:=Int) Tryz.prog 3 (.int .i64):=zfD (by kernel_rfl)
theorem mixed:Tryz.prog.follows .mixedOrders=true:=by kernel_rfl
theorem Qy:ScT Tryz.prog 3:=.of (by kernel_rfl)
theorem Wt:SlT Tryz.prog 63 41 5:=.of (by kernel_rfl)
theorem zaV:SzT Tryz.prog 41 5:=.of (by kernel_rfl)
theorem znf:Tryz.prog.underlying 3=some (.int .i64):=by kernel_rfl
theorem ze0:Ve Tryz.prog 41 (.agg #[(.int .i64 0),(.int .i64 0),(.int .i64 0),(.int .i64 0),(.int .i64 0)]):=.of (by kernel_rfl)
end
section
open Go Go.Kn Go.Proofs
theorem Yd (I:Qv)(n lo hi:Int):Yb Tryz.prog 160 [.int .i64 n,.int .i64 lo,.int .i64 hi] I (.bool (within n lo hi)):=by
 intro g H w hw
 refine qe Tryz.func160 Tryz.ntmps160 hw ?_
 refine zR (zA ?_)
 refine zN (zR ?_)
 refine zM ?_
 refine zM ?_
 refine zC ?_
 refine zM ?_
 refine QL 3 rfl rfl rfl ?_
 refine zK (Qh rfl) ?_
 refine zK (Qh rfl) ?_
 refine zK (QV rfl rfl rfl) ?_
 refine QU rfl rfl rfl rfl rfl ?_
 refine zA (zN (QF ?_))
 exact zr rfl rfl (by rfl)
theorem zpk (I:Qv)(x:Ls):Yb Tryz.prog 95 [encA x] I (.bool (zba x)):=by
 intro g H w hw
 refine qe Tryz.func95 Tryz.ntmps95 hw ?_
 refine zR ?_
 refine Zd rfl rfl rfl (fun b_1=>?_)
 refine zA ?_
 refine zN (zR ?_)
 refine zF zjn ?_
 refine zL Qy ?_
 refine qcV (vs:=[_,_,_]) rfl zbn (Yd I _ _ _) ?_
 refine zM ?_
 refine QL 3 rfl rfl rfl ?_
 refine zK (Qa rfl zi4) ?_
 refine zK (Qd rfl Qy (fun hg=>by exact QG.h0 rfl)) ?_
 refine qg (vs:=[_,_,_]) rfl zbn (fun hg=>Yd I _ _ _) ?_
 refine QU rfl rfl rfl rfl rfl ?_
 refine zM ?_
 refine QL 8 rfl rfl rfl ?_
 refine zK (Qa rfl zkL) ?_
 refine zK (Qd rfl Qy (fun hg=>by exact QG.h0 rfl)) ?_
 refine qg (vs:=[_,_,_]) rfl zbn (fun hg=>Yd I _ _ _) ?_
 refine QU rfl rfl rfl rfl rfl ?_
 refine zM ?_
 refine QL 13 rfl rfl rfl ?_
 refine zK (Qa rfl zhW) ?_
 refine zK (Qd rfl Qy (fun hg=>by exact QG.h0 rfl)) ?_
 refine qg (vs:=[_,_,_]) rfl zbn (fun hg=>Yd I _ _ _) ?_
 refine QU rfl rfl rfl rfl rfl ?_
 refine zM ?_
 refine QL 18 rfl rfl rfl ?_
 refine zK (Qa rfl zlr) ?_
 refine zK (Qd rfl Qy (fun hg=>by exact QG.h0 rfl)) ?_
 refine qg (vs:=[_,_,_]) rfl zbn (fun hg=>Yd I _ _ _) ?_
 refine QU rfl rfl rfl rfl rfl ?_
 refine zA (zN (QF ?_))
 exact zr rfl rfl (by rfl)
theorem zj3 (I:Qv)(x:Int):Yb Tryz.prog 229 [.int .i64 x] I (.bool false):=by
 intro g H w hw
 refine qe Tryz.func229 Tryz.ntmps229 hw ?_
 refine zR (zA ?_)
 refine zN (zR ?_)
 refine zM ?_
 refine zM ?_
 refine zC ?_
 refine zA (zN (QF ?_))
 exact zr rfl rfl (by simp)
def zez (x y:Int):Int:=if x<y then -1 else if x>y then 1 else 0
theorem zpH (I:Qv)(x y:Int):Yb Tryz.prog 183 [.int .i64 x,.int .i64 y] I (.int .i64 (zez x y)):=by
 intro g H w hw
 refine qe Tryz.func183 Tryz.ntmps183 hw ?_
 refine zR (zA ?_)
 refine zN (zR ?_)
 refine zM ?_
 refine qcV (vs:=[_]) rfl zaW (zj3 I _) ?_
 refine zA ?_
 refine zN (zR ?_)
 refine zM ?_
 refine qcV (vs:=[_]) rfl zaW (zj3 I _) ?_
 refine zA (zN (Qr (zR ?_)))
 refine zM (zN ?_)
 refine zI ?_ ?_<;>intro hc11
 ·
  cases hc11
 refine Qw (Qc (Qr (zR (zM (zN ?_)))))
 refine zI ?_ ?_<;>intro hc13
 ·
  cases hc13
 refine Qw (Qc (Qr (zR (zM ?_))))
 refine zM ?_
 refine zC (zN ?_)
 refine zI ?_ ?_<;>intro hc16
 ·
  refine zR (zA (zN (QF (Qi ?_))))
  exact zr rfl rfl (by unfold zez;first | (rw [if_pos (by simpa using hc16)]) | (rw [if_neg (by simpa using hc16),if_pos (by simpa using hc19)]) | (rw [if_neg (by simpa using hc16),if_neg (by simpa using hc19)]))
 refine Qw (Qc (Qr (zR (zM ?_))))
 refine zM ?_
 refine zC (zN ?_)
 refine zI ?_ ?_<;>intro hc19
 ·
  refine zR (zA (zN (QF (Qi ?_))))
  exact zr rfl rfl (by unfold zez;first | (rw [if_pos (by simpa using hc16)]) | (rw [if_neg (by simpa using hc16),if_pos (by simpa using hc19)]) | (rw [if_neg (by simpa using hc16),if_neg (by simpa using hc19)]))
 refine Qw (Qc (zR (zA (zN (QF ?_)))))
 exact zr rfl rfl (by unfold zez;first | (rw [if_pos (by simpa using hc16)]) | (rw [if_neg (by simpa using hc16),if_pos (by simpa using hc19)]) | (rw [if_neg (by simpa using hc16),if_neg (by simpa using hc19)]))
theorem zmo {xs:List Ls}{x:Ls}(hx:xs[0]? =some x):ckP xs 0= !(!zba x||decide (x.no≤ -1)):=by
 unfold ckP
 rw [V3 hx]
 rw [show decide (((0:Nat):Int)>0)=false from rfl,Bool.false_and,Bool.or_false]
 cases h:zba x with
 | false=>rfl
 | true=>
  have:0≤x.no:=by
   unfold zba within at h
   simp only [Bool.and_eq_true,decide_eq_true_eq] at h
   omega
  rw [show decide (x.no≤ -1)=false from decide_eq_false (by omega)];rfl
theorem zpV {xs:List Ls}{k:Nat}{x y:Ls}(hx:xs[k+1]? =some x)(hy:xs[k]? =some y):ckP xs (k+1)= !(!zba x||decide (x.no≤y.no)):=by
 unfold ckP zuC
 rw [V3 hx,show (((k+1:Nat):Int)-1).toNat=k by omega,V3 hy,show decide (((k+1:Nat):Int)>0)=true from decide_eq_true (by omega),Bool.true_and]
def zrB (xs:List Ls)(k:Nat)(l:Int):Prop:=(k=0→l= -1)∧∀ y,xs[k-1]? =some y→k≠0→l=y.no
theorem zse {xs:List Ls}{k:Nat}{x:Ls}{l:Int}(hx:xs[k]? =some x)(hl:zrB xs k l):ckP xs k= !(!zba x||decide (x.no≤l)):=by
 cases k with
 | zero=>rw [hl.1 rfl];exact zmo hx
 | succ k=>
  have hk:=(List.getElem?_eq_some_iff.1 hx).1
  have hy:xs[k]? =some (xs[k]'(by omega)):=List.getElem?_eq_getElem _
  rw [hl.2 _ (by rw [Nat.add_sub_cancel];exact hy) (by omega)];exact zpV hx hy
theorem zjN {xs:List Ls}{k:Nat}{x:Ls}(hx:xs[k]? =some x):zrB xs (k+1) x.no:=⟨fun h=>by omega,fun y hy _=>by simp at hy;rw [hx] at hy;cases hy;rfl⟩
theorem w_check {I:Qv}{av:Option Addr}{n c:Nat}{xs:List Ls}(hS:Sl I 5 encL av n c xs)(hn:n≤100000):Yb Tryz.prog 38 [.slice av n c] I (.int .i64 (chk xs)):=by
 intro g H w hw
 refine qe Tryz.func38 Tryz.ntmps38 hw ?_
 refine zR (zA (zN (Qr (zR ?_))))
 refine zM ?_
 refine zQ Wt ?_
 refine zC (zN ?_)
 refine zI ?_ ?_<;>intro hc8
 ·
  have h6:xs.length>4096:=by rw [hS.len];simp at hc8;omega
  refine zR (zA (zN (QF (Qi ?_))))
  first
  | exact zr rfl rfl (by unfold chk;rw [if_pos h6])
 have h6:¬xs.length>4096:=by rw [hS.len];simp at hc8;omega
 refine Qw (Qc (zR (zA (zN (Qr (zR ?_))))))
 refine zM ?_
 refine zQ Wt ?_
 refine zM (zN (QE ?_))
 refine zU [(9,_),(10,_)] (fun T L0 mz E I' loc'=>∃ (k:Nat) (l:Int),mz=n-k∧E=(3,.int .i64 l)::(11,.int .i64 k)::T∧I=I'∧L0=loc'∧k≤n∧(List.range k).all (ckP xs)=true∧zrB xs k l) ?_ (h:=⟨0, -1,rfl,rfl,rfl,rfl,Nat.zero_le _,rfl,⟨fun _=>rfl,fun _ _ h=>absurd rfl h⟩⟩)
 rintro mz E I' loc' ⟨k,l,rfl,rfl,rfl,rfl,hk,hall,hl⟩
 refine zR (zC (zN (Qr ?_)))
 refine zI ?_ ?_<;>intro hc12
 ·
  have hlt_k:k<n:=by have h:=hc12;simp at h;omega
  obtain ⟨x,hx⟩:=hS.at hlt_k
  refine Qw (Qc (Qr (QE (zR ?_))))
  refine zV (QX rfl rfl Wt (by assumption) (fun hg=>by omega)) ?_
  refine zV (Qg rfl KP (fun hg=>by exact zwR hS hx) rfl) ?_
  refine Qs ze0 rfl rfl (fun b_5=>?_)
  refine zh zaV ?_
  refine zN (Qr (zR ?_))
  refine zV (Qg rfl KP (fun hg=>by exact Cells.g0) rfl) ?_
  refine qcV (vs:=[_]) rfl zux (zpk I _) ?_
  refine zO ?_
  refine zM ?_
  refine Ze 3 rfl rfl rfl ?_
  refine zJ (Qa rfl Up) ?_
  refine zJ (Qd rfl Qy (fun hg=>by exact QG.h0 rfl)) ?_
  refine zJ (Qh rfl) ?_
  refine zJ (QV rfl rfl rfl) ?_
  refine ZP rfl rfl rfl rfl rfl ?_
  refine zN ?_
  refine zI ?_ ?_<;>intro hc23
  ·
   refine zR (zA (zN (QF (Qi (Qz (Qi (Qi ?_)))))))
   refine Qz (Qi ?_)
   first
   | exact zr rfl rfl (by unfold chk ckB;rw [if_neg h6,K1 (k:=k) (by rw [hS.len];exact hlt_k) (by rw [zse hx hl,hc23];rfl)];rfl)
  refine Qw (Qc (Qk ?_))
  refine zF Up ?_
  refine zL Qy ?_
  refine zA (Qb (Qp (Qc (Qk ?_))))
  refine zB ?_
  refine zM (Qb ?_)
  exact zm (h:=⟨n-(k+1),by omega,k+1,x.no,rfl,rfl,rfl,rfl,by omega,Ky hall (by rw [zse hx hl,hc23];rfl),zjN hx⟩)
 have hge_k:n≤k:=by have h:=hc12;simp at h;omega
 refine ZC (Qt (Qt (QD (Qc (zR (zA (zN ?_)))))))
 refine QF ?_
 first
 | exact zr rfl rfl (by unfold chk ckB;rw [if_neg h6,hS.len,show n=k by omega,hall];rfl)
end
end Go.Proofs.YtjblkbkmblkgoaaGreat.L
namespace Go.Proofs.YtjblkbkmblkgoaaGreat.S
section
open Go Go.Kn Go.Proofs
theorem VH:AgT Tryz.prog 43 11:=.of (by kernel_rfl)
theorem za7:EqT Tryz.prog 43 [.int,.int,.int,.int,.int,.int,.str,.str,.int,.int,.int]:=⟨by kernel_rfl,by kernel_rfl,by kernel_rfl,by kernel_rfl⟩
theorem VJ:QP Tryz.prog 43 0 0:=.of (by kernel_rfl)
theorem Ji:QP Tryz.prog 43 1 1:=.of (by kernel_rfl)
theorem Vd:QP Tryz.prog 43 10 10:=.of (by kernel_rfl)
theorem Us:QP Tryz.prog 43 2 2:=.of (by kernel_rfl)
theorem Wd:QP Tryz.prog 43 3 3:=.of (by kernel_rfl)
theorem WN:QP Tryz.prog 43 4 4:=.of (by kernel_rfl)
theorem JB:QP Tryz.prog 43 5 5:=.of (by kernel_rfl)
theorem UA:QP Tryz.prog 43 6 6:=.of (by kernel_rfl)
theorem Uv:QP Tryz.prog 43 7 7:=.of (by kernel_rfl)
theorem KK:QP Tryz.prog 43 8 8:=.of (by kernel_rfl)
theorem KJ:QP Tryz.prog 43 9 9:=.of (by kernel_rfl)
theorem zrK:Fun Tryz.prog 100:=.of Tryz.func100 (by kernel_rfl) (by kernel_rfl)
theorem WS:Fun Tryz.prog 101:=.of Tryz.func101 (by kernel_rfl) (by kernel_rfl)
theorem zo3:Fun Tryz.prog 164:=.of Tryz.func164 (by kernel_rfl) (by kernel_rfl)
theorem zjx:Fun Tryz.prog 165:=.of Tryz.func165 (by kernel_rfl) (by kernel_rfl)
theorem zjY:Fun Tryz.prog 166:=.of Tryz.func166 (by kernel_rfl) (by kernel_rfl)
theorem zrE:Fun Tryz.prog 167:=.of Tryz.func167 (by kernel_rfl) (by kernel_rfl)
theorem Zk:Kk (α:=Int) Tryz.prog 3 (.int .i64):=zfD (by kernel_rfl)
theorem mixed:Tryz.prog.follows .mixedOrders=true:=by kernel_rfl
theorem K6:MpT Tryz.prog 151 3 43 (.agg #[(.int .i64 0),(.int .i64 0),(.int .i64 0),(.int .i64 0),(.int .i64 0),(.int .i64 0),(.string ⟨#[]⟩),(.string ⟨#[]⟩),(.int .i64 0),(.int .i64 0),(.int .i64 0)]):=⟨by kernel_rfl,.of (by kernel_rfl)⟩
theorem zaH:MpT Tryz.prog 152 3 154 .nilFunc:=⟨by kernel_rfl,.of (by kernel_rfl)⟩
theorem zaJ:PlT Tryz.prog 43 #[(0,1),(1,1),(2,1),(3,1),(4,1),(5,1),(6,1),(7,1),(8,1),(9,1),(10,1)] (.agg #[(.int .i64 0),(.int .i64 0),(.int .i64 0),(.int .i64 0),(.int .i64 0),(.int .i64 0),(.string ⟨#[]⟩),(.string ⟨#[]⟩),(.int .i64 0),(.int .i64 0),(.int .i64 0)]):=⟨.of (by kernel_rfl),by kernel_rfl,fun w=>by kernel_rfl⟩
theorem Qy:ScT Tryz.prog 3:=.of (by kernel_rfl)
theorem JJ:ScT Tryz.prog 9:=.of (by kernel_rfl)
theorem YW:SlT Tryz.prog 65 43 11:=.of (by kernel_rfl)
theorem Uc:SzT Tryz.prog 43 11:=.of (by kernel_rfl)
theorem zuJ:Tryz.prog.underlying 9=some .string:=by kernel_rfl
theorem zax:Ve Tryz.prog 43 (.agg #[(.int .i64 0),(.int .i64 0),(.int .i64 0),(.int .i64 0),(.int .i64 0),(.int .i64 0),(.string ⟨#[]⟩),(.string ⟨#[]⟩),(.int .i64 0),(.int .i64 0),(.int .i64 0)]):=.of (by kernel_rfl)
end
section
open Go Go.Kn Go.Proofs
theorem Yd (I:Qv)(n lo hi:Int):Yb Tryz.prog 101 [.int .i64 n,.int .i64 lo,.int .i64 hi] I (.bool (within n lo hi)):=by
 intro g H w hw
 refine enter Tryz.func101 rfl Tryz.ntmps101 rfl hw ?_
 refine zR ?_
 refine zA ?_
 refine zN (zR ?_)
 refine zM ?_
 refine zM ?_
 refine zC ?_
 refine zM ?_
 refine QL 3 rfl rfl rfl ?_
 refine zK (Qh rfl) ?_
 refine zK (Qh rfl) ?_
 refine zK (QV rfl rfl rfl) ?_
 refine QU rfl rfl rfl rfl rfl ?_
 refine zA ?_
 refine zN ?_
 refine QF ?_
 exact QR rfl rfl (fun w hw=>⟨by rfl,hw.drop⟩)
theorem zjD (I:Qv)(x:Rt):Yb Tryz.prog 165 [encA x] I (.bool (zqr x)):=by
 intro g H w hw
 refine enter Tryz.func165 rfl Tryz.ntmps165 rfl hw ?_
 refine zR ?_
 refine Zd rfl rfl rfl (fun b_1=>?_)
 refine zA ?_
 refine zN (zR ?_)
 refine zF KK ?_
 refine zV (Qd rfl Qy (fun hg=>by exact QG.h0 rfl)) ?_
 refine zC ?_
 refine zM ?_
 refine QL 3 rfl rfl rfl ?_
 refine zK (Qa rfl KK) ?_
 refine zK (Qd rfl Qy (fun hg=>by exact QG.h0 rfl)) ?_
 refine zK (Qa rfl KJ) ?_
 refine zK (Qd rfl Qy (fun hg=>by exact QG.h0 rfl)) ?_
 refine zK (QV rfl rfl rfl) ?_
 refine QU rfl rfl rfl rfl rfl ?_
 refine zM ?_
 refine QL 10 rfl rfl rfl ?_
 refine zK (Qa rfl KJ) ?_
 refine zK (Qd rfl Qy (fun hg=>by exact QG.h0 rfl)) ?_
 refine zK (QV rfl rfl rfl) ?_
 refine QU rfl rfl rfl rfl rfl ?_
 refine zM ?_
 refine QL 15 rfl rfl rfl ?_
 refine zK (Qa rfl Us) ?_
 refine zK (Qd rfl Qy (fun hg=>by exact QG.h0 rfl)) ?_
 refine VC (cap:=[]) (vs:=[_,_,_]) rfl rfl WS (fun hg=>Yd I _ _ _) (.some rfl rfl rfl rfl gbt) rfl rfl ?_
 refine QU rfl rfl rfl rfl rfl ?_
 refine zA ?_
 refine zN ?_
 refine QF ?_
 exact QR rfl rfl (fun w hw=>⟨by rfl,hw.drop⟩)
theorem zbF (I:Qv)(x:Rt)(m:Value):Yb Tryz.prog 166 [encA x,m] I (.bool (heldF x)):=by
 intro g H w hw
 refine enter Tryz.func166 rfl Tryz.ntmps166 rfl hw ?_
 refine zR ?_
 refine Zd rfl rfl rfl (fun b_2=>?_)
 refine zA ?_
 refine zN (zR ?_)
 refine zF VJ ?_
 refine zV (Qd rfl Qy (fun hg=>by exact QG.h0 rfl)) ?_
 refine zF Ji ?_
 refine zV (Qd rfl Qy (fun hg=>by exact QG.h0 rfl)) ?_
 refine zF Us ?_
 refine zV (Qd rfl Qy (fun hg=>by exact QG.h0 rfl)) ?_
 refine zF Wd ?_
 refine zV (Qd rfl Qy (fun hg=>by exact QG.h0 rfl)) ?_
 refine zF WN ?_
 refine zV (Qd rfl Qy (fun hg=>by exact QG.h0 rfl)) ?_
 refine zF KK ?_
 refine zV (Qd rfl Qy (fun hg=>by exact QG.h0 rfl)) ?_
 refine zF KJ ?_
 refine zV (Qd rfl Qy (fun hg=>by exact QG.h0 rfl)) ?_
 refine zF Vd ?_
 refine zV (Qd rfl Qy (fun hg=>by exact QG.h0 rfl)) ?_
 refine zV (Q0 (ps:=[(0,_),(1,_),(2,_),(3,_),(4,_),(8,_),(9,_),(10,_)]) [_,_,_,_,_,_,_,_,_,_,_] zaJ rfl rfl) ?_
 refine Qs zax rfl rfl (fun b_5=>?_)
 refine Vp rfl rfl Uc rfl rfl rfl rfl (by exact Upd.u0) ?_
 refine zN (zR ?_)
 refine zV (Qg rfl VH (fun hg=>by exact Cells.g1) rfl) ?_
 refine zV (Qg rfl VH (fun hg=>by exact Cells.g0) rfl) ?_
 refine zV (WG rfl rfl za7 rfl) ?_
 refine zM ?_
 refine QL 3 rfl rfl rfl ?_
 refine zK (Qg rfl VH (fun hg=>by exact Cells.g1) rfl) ?_
 refine VC (cap:=[]) (vs:=[_]) rfl rfl zjx (fun hg=>zjD I x) (.some rfl rfl rfl rfl gbt) rfl rfl ?_
 refine QU rfl rfl rfl rfl rfl ?_
 refine zM ?_
 refine QL 7 rfl rfl rfl ?_
 refine zK (Qa rfl Wd) ?_
 refine zK (Qd rfl Qy (fun hg=>by exact QG.h1 rfl)) ?_
 refine VC (cap:=[]) (vs:=[_,_,_]) rfl rfl WS (fun hg=>Yd I _ _ _) (.some rfl rfl rfl rfl gbt) rfl rfl ?_
 refine QU rfl rfl rfl rfl rfl ?_
 refine zM ?_
 refine QL 12 rfl rfl rfl ?_
 refine zK (Qa rfl WN) ?_
 refine zK (Qd rfl Qy (fun hg=>by exact QG.h1 rfl)) ?_
 refine VC (cap:=[]) (vs:=[_,_,_]) rfl rfl WS (fun hg=>Yd I _ _ _) (.some rfl rfl rfl rfl gbt) rfl rfl ?_
 refine QU rfl rfl rfl rfl rfl ?_
 refine zA ?_
 refine zN ?_
 refine QF ?_
 exact QR rfl rfl (fun w hw=>⟨by rfl,hw.drop⟩)
theorem zs7 (I:Qv)(x:Rt)(m:Value):Yb Tryz.prog 164 [encA x,m] I (.bool (billF x)):=by
 intro g H w hw
 refine enter Tryz.func164 rfl Tryz.ntmps164 rfl hw ?_
 refine zR ?_
 refine Zd rfl rfl rfl (fun b_2=>?_)
 refine zA ?_
 refine zN (zR ?_)
 refine zF VJ ?_
 refine zV (Qd rfl Qy (fun hg=>by exact QG.h0 rfl)) ?_
 refine zF Ji ?_
 refine zV (Qd rfl Qy (fun hg=>by exact QG.h0 rfl)) ?_
 refine zF Us ?_
 refine zV (Qd rfl Qy (fun hg=>by exact QG.h0 rfl)) ?_
 refine zF UA ?_
 refine zV (Qd rfl JJ (fun hg=>by exact QG.h0 rfl)) ?_
 refine zF Uv ?_
 refine zV (Qd rfl JJ (fun hg=>by exact QG.h0 rfl)) ?_
 refine zF KK ?_
 refine zV (Qd rfl Qy (fun hg=>by exact QG.h0 rfl)) ?_
 refine zF KJ ?_
 refine zV (Qd rfl Qy (fun hg=>by exact QG.h0 rfl)) ?_
 refine zF Vd ?_
 refine zV (Qd rfl Qy (fun hg=>by exact QG.h0 rfl)) ?_
 refine zV (Q0 (ps:=[(0,_),(1,_),(2,_),(6,_),(7,_),(8,_),(9,_),(10,_)]) [_,_,_,_,_,_,_,_,_,_,_] zaJ rfl rfl) ?_
 refine Qs zax rfl rfl (fun b_5=>?_)
 refine Vp rfl rfl Uc rfl rfl rfl rfl (by exact Upd.u0) ?_
 refine zN (zR ?_)
 refine zV (Qg rfl VH (fun hg=>by exact Cells.g1) rfl) ?_
 refine zV (Qg rfl VH (fun hg=>by exact Cells.g0) rfl) ?_
 refine zV (WG rfl rfl za7 rfl) ?_
 refine zM ?_
 refine QL 3 rfl rfl rfl ?_
 refine zK (Qg rfl VH (fun hg=>by exact Cells.g1) rfl) ?_
 refine VC (cap:=[]) (vs:=[_]) rfl rfl zjx (fun hg=>zjD I x) (.some rfl rfl rfl rfl gbt) rfl rfl ?_
 refine QU rfl rfl rfl rfl rfl ?_
 refine zM ?_
 refine QL 7 rfl rfl rfl ?_
 refine zK (Qa rfl UA) ?_
 refine zK (Qd rfl JJ (fun hg=>by exact QG.h1 rfl)) ?_
 refine zK (Wo rfl zuJ) ?_
 refine VC (cap:=[]) (vs:=[_,_,_]) rfl rfl WS (fun hg=>Yd I _ _ _) (.some rfl rfl rfl rfl gbt) rfl rfl ?_
 refine QU rfl rfl rfl rfl rfl ?_
 refine zM ?_
 refine QL 13 rfl rfl rfl ?_
 refine zK (Qa rfl Uv) ?_
 refine zK (Qd rfl JJ (fun hg=>by exact QG.h1 rfl)) ?_
 refine zK (Wo rfl zuJ) ?_
 refine VC (cap:=[]) (vs:=[_,_,_]) rfl rfl WS (fun hg=>Yd I _ _ _) (.some rfl rfl rfl rfl gbt) rfl rfl ?_
 refine QU rfl rfl rfl rfl rfl ?_
 refine zA ?_
 refine zN ?_
 refine QF ?_
 exact QR rfl rfl (fun w hw=>⟨by rfl,hw.drop⟩)
end
section
open Go Go.Kn Go.Proofs
theorem zjE (I:Qv)(x:Rt)(r:Nat)(bs:List (Int×Rt))(hm:ZV bs (w64 (x.ends-1))=none):zh0 Tryz.prog 167 [encA x,.map (some r)] I [(r,YC (.int .i64) encA bs)] (.bool (voidF x bs)):=by
 intro g H w hw
 refine enter Tryz.func167 rfl Tryz.ntmps167 rfl hw ?_
 refine zR ?_
 refine Zd rfl rfl rfl (fun b_2=>?_)
 refine zA ?_
 refine zN (zR ?_)
 refine zM ?_
 refine zF JB ?_
 refine zV (Qd rfl Qy (fun hg=>by exact QG.h0 rfl)) ?_
 refine zV (zas rfl rfl rfl) ?_
 refine zV (zdk hm K6 Zk rfl rfl (fun _=>(by exact Mem.m1))) ?_
 refine zM ?_
 refine zE ?_
 refine zE ?_
 refine Qs zax rfl rfl (fun b_5=>?_)
 refine Vp rfl rfl Uc rfl rfl rfl rfl (by exact Upd.u0) ?_
 refine zA ?_
 refine zN (zR ?_)
 refine zM ?_
 refine zM ?_
 refine QL 1 rfl rfl rfl ?_
 refine zK (Qa rfl Ji) ?_
 refine zK (Qd rfl Qy (fun hg=>by exact QG.h0 rfl)) ?_
 refine zK (QV rfl rfl rfl) ?_
 refine QU rfl rfl rfl rfl rfl ?_
 refine zM ?_
 refine QL 6 rfl rfl rfl ?_
 refine zK (Qa rfl Vd) ?_
 refine zK (Qd rfl Qy (fun hg=>by exact QG.h0 rfl)) ?_
 refine zK (Qa rfl Vd) ?_
 refine zK (Qd rfl Qy (fun hg=>by exact QG.h1 rfl)) ?_
 refine zK (QV rfl rfl rfl) ?_
 refine QU rfl rfl rfl rfl rfl ?_
 refine zM ?_
 refine QL 13 rfl rfl rfl ?_
 refine zK (Qg rfl VH (fun hg=>by exact Cells.g1) rfl) ?_
 refine zK (Qa rfl VJ) ?_
 refine zK (Qd rfl Qy (fun hg=>by exact QG.h1 rfl)) ?_
 refine zK (Qa rfl Ji) ?_
 refine zK (Qd rfl Qy (fun hg=>by exact QG.h1 rfl)) ?_
 refine zK (Qa rfl JB) ?_
 refine zK (Qd rfl Qy (fun hg=>by exact QG.h1 rfl)) ?_
 refine zK (Qa rfl Vd) ?_
 refine zK (Qd rfl Qy (fun hg=>by exact QG.h1 rfl)) ?_
 refine zK (Q0 (ps:=[(0,_),(1,_),(5,_),(10,_)]) [_,_,_,_,_,_,_,_,_,_,_] zaJ rfl rfl) ?_
 refine zK (WG rfl rfl za7 rfl) ?_
 refine QU rfl rfl rfl rfl rfl ?_
 refine zA ?_
 refine zN ?_
 refine QF ?_
 exact QR rfl rfl (fun w hw=>⟨by simp [voidF,hm],hw.subL (.drop (.drop .refl))⟩)
theorem zhd (I:Qv)(x:Rt)(r:Nat)(bs:List (Int×Rt)){old:Rt}(hm:ZV bs (w64 (x.ends-1))=some old):zh0 Tryz.prog 167 [encA x,.map (some r)] I [(r,YC (.int .i64) encA bs)] (.bool (voidF x bs)):=by
 intro g H w hw
 refine enter Tryz.func167 rfl Tryz.ntmps167 rfl hw ?_
 refine zR ?_
 refine Zd rfl rfl rfl (fun b_2=>?_)
 refine zA ?_
 refine zN (zR ?_)
 refine zM ?_
 refine zF JB ?_
 refine zV (Qd rfl Qy (fun hg=>by exact QG.h0 rfl)) ?_
 refine zV (zas rfl rfl rfl) ?_
 refine zV (zea hm K6 Zk rfl rfl (fun _=>(by exact Mem.m1))) ?_
 refine zM ?_
 refine zE ?_
 refine zE ?_
 refine Qs zax rfl rfl (fun b_5=>?_)
 refine Vp rfl rfl Uc rfl rfl rfl rfl (by exact Upd.u0) ?_
 refine zA ?_
 refine zN (zR ?_)
 refine zM ?_
 refine zM ?_
 refine QL 1 rfl rfl rfl ?_
 refine zK (Qa rfl Ji) ?_
 refine zK (Qd rfl Qy (fun hg=>by exact QG.h0 rfl)) ?_
 refine zK (QV rfl rfl rfl) ?_
 refine QU rfl rfl rfl rfl rfl ?_
 refine zM ?_
 refine QL 6 rfl rfl rfl ?_
 refine zK (Qa rfl Vd) ?_
 refine zK (Qd rfl Qy (fun hg=>by exact QG.h0 rfl)) ?_
 refine zK (Qa rfl Vd) ?_
 refine zK (Qd rfl Qy (fun hg=>by exact QG.h1 rfl)) ?_
 refine zK (QV rfl rfl rfl) ?_
 refine QU rfl rfl rfl rfl rfl ?_
 refine zM ?_
 refine QL 13 rfl rfl rfl ?_
 refine zK (Qg rfl VH (fun hg=>by exact Cells.g1) rfl) ?_
 refine zK (Qa rfl VJ) ?_
 refine zK (Qd rfl Qy (fun hg=>by exact QG.h1 rfl)) ?_
 refine zK (Qa rfl Ji) ?_
 refine zK (Qd rfl Qy (fun hg=>by exact QG.h1 rfl)) ?_
 refine zK (Qa rfl JB) ?_
 refine zK (Qd rfl Qy (fun hg=>by exact QG.h1 rfl)) ?_
 refine zK (Qa rfl Vd) ?_
 refine zK (Qd rfl Qy (fun hg=>by exact QG.h1 rfl)) ?_
 refine zK (Q0 (ps:=[(0,_),(1,_),(5,_),(10,_)]) [_,_,_,_,_,_,_,_,_,_,_] zaJ rfl rfl) ?_
 refine zK (WG rfl rfl za7 rfl) ?_
 refine QU rfl rfl rfl rfl rfl ?_
 refine zA ?_
 refine zN ?_
 refine QF ?_
 exact QR rfl rfl (fun w hw=>⟨by simp [voidF,zeroR,rtEq,hm],hw.subL (.drop (.drop .refl))⟩)
theorem zuH (I:Qv)(x:Rt)(r:Nat)(bs:List (Int×Rt)):zh0 Tryz.prog 167 [encA x,.map (some r)] I [(r,YC (.int .i64) encA bs)] (.bool (voidF x bs)):=by
 cases hm:ZV bs (w64 (x.ends-1)) with
 | none=>exact zjE I x r bs hm
 | some old=>exact zhd I x r bs hm
def evF (k:Nat):Value:=.func (.func k) #[] #[]
def UF:List (Int×Nat):=[(1,164),(2,166),(3,166),(4,167)]
theorem zts (I:Qv):Vl Tryz.prog 100 [] I [] (fun v I' L=>∃ r,v= .map (some r)∧I'=I∧L=[(r,YC (.int .i64) evF UF)]):=by
 intro g H w hw
 refine enter Tryz.func100 rfl Tryz.ntmps100 rfl hw ?_
 refine zR ?_
 refine zA ?_
 refine zN (zR ?_)
 refine Yf rfl rfl (fun r_1=>?_)
 refine QI (m:=[]) (ev:=evF) 164 zaH Zk rfl rfl rfl rfl (by exact Upd.u0) ?_
 refine QI 166 zaH Zk rfl rfl rfl rfl (by exact Upd.u0) ?_
 refine QI 166 zaH Zk rfl rfl rfl rfl (by exact Upd.u0) ?_
 refine QI 167 zaH Zk rfl rfl rfl rfl (by exact Upd.u0) ?_
 refine zM ?_
 refine zA ?_
 refine zN ?_
 refine QF ?_
 exact QR rfl rfl (fun w hw=>⟨_,I,_,rfl,zwQ _,hw,r_1,rfl,rfl,rfl⟩)
theorem zm9 {k:Int}{f:Nat}(h:ZV UF k=some f):Fun Tryz.prog f:=by
 simp only [UF,ZV] at h
 split at h
 ·
  cases h;exact zo3
 ·
  split at h
  ·
   cases h;exact zjY
  ·
   split at h
   ·
    cases h;exact zjY
   ·
    split at h
    ·
     cases h;exact zrE
    ·
     cases h
theorem XP (k:Int):(ZV UF k).isSome=ziX k:=by
 simp only [UF,ZV,ziX]
 by_cases h1:k=1
 ·
  subst h1;rfl
 ·
  by_cases h2:k=2
  ·
   subst h2;rfl
  ·
   by_cases h3:k=3
   ·
    subst h3;rfl
   ·
    by_cases h4:k=4
    ·
     subst h4;rfl
    ·
     simp [h1,h2,h3,h4,Ne.symm h1,Ne.symm h2,Ne.symm h3,Ne.symm h4]
theorem zvj {k:Int}{f:Nat}(h:ZV UF k=some f)(I:Qv)(x:Rt)(r:Nat)(bs:List (Int×Rt)):zh0 Tryz.prog f [encA x,.map (some r)] I [(r,YC (.int .i64) encA bs)] (.bool (askF k x bs)):=by
 simp only [UF,ZV] at h
 split at h
 ·
  rename_i e;cases h;subst e;exact (zs7 I x _).k _
 ·
  split at h
  ·
   rename_i e;cases h;subst e;exact (zbF I x _).k _
  ·
   split at h
   ·
    rename_i e;cases h;subst e;exact (zbF I x _).k _
   ·
    split at h
    ·
     rename_i e;cases h;subst e;exact zuH I x r bs
    ·
     cases h
end
section
open Go Go.Kn Go.Proofs
theorem w_check {I:Qv}{av:Option Addr}{n c:Nat}{xs:List Rt}(hS:Sl I 11 encR av n c xs)(hn:n≤100000):Yb Tryz.prog 40 [.slice av n c] I (.int .i64 (rCheck xs)):=by
 intro g H w hw
 refine enter Tryz.func40 rfl Tryz.ntmps40 rfl hw ?_
 refine zR ?_
 refine zA ?_
 refine zN ?_
 refine Qr ?_
 refine zR ?_
 refine zM ?_
 refine zQ YW ?_
 refine zC ?_
 refine zN ?_
 refine zI ?_ ?_<;>intro hc12
 ·
  have h5:xs.length>512:=by rw [hS.len];simp at hc12;omega
  refine zR ?_
  refine zA ?_
  refine zN ?_
  refine QF ?_
  refine Qi ?_
  exact QR rfl rfl (fun w hw=>⟨by unfold rCheck;first | (rw [if_pos h5]) | (rw [if_neg h5,hfin]) | (rw [if_neg h5,←hinv,Ww hx,rGo,if_pos (by unfold rBad;rw [←XP,hc53])]),hw.drop⟩)
 ·
  have h5:¬xs.length>512:=by rw [hS.len];simp at hc12;omega
  refine Qw ?_
  refine Qc ?_
  refine zR ?_
  refine Yf rfl rfl (fun r_13=>?_)
  refine QC (cap:=[]) (vs:=[]) rfl rfl zrK .nil (zts I) rfl rfl ?_
  rintro v I1 L' hI' ⟨rk,rfl,hI1,rfl⟩
  obtain rfl:=hI1.symm
  refine zA ?_
  refine zA ?_
  refine zA ?_
  refine zN ?_
  refine zuY (fun E I' loc'=>∃ bs:List (Int×Rt),E=[(0,.slice av n c)]∧I'=I∧loc'=[(rk,YC (.int .i64) evF UF),(r_13,YC (.int .i64) encA bs)]∧rGo xs [] (-1)=0) ?_ ?_
  ·
   refine zR ?_
   refine zM ?_
   refine zQ YW ?_
   refine zM ?_
   refine zN ?_
   refine QE ?_
   refine znY (fun m E I' loc'=>∃ (k:Nat) (bs:List (Int×Rt)) (last:Int),m=n-k∧E=[(0,.slice av n c),(3,.map (some r_13)),(4,.map (some rk)),(5,.int .i64 last),(15,.slice av n c),(16,.int .i64 n),(17,.int .i64 k)]∧I'=I∧loc'=[(rk,YC (.int .i64) evF UF),(r_13,YC (.int .i64) encA bs)]∧k≤n∧rGo (xs.drop k) bs last=rGo xs [] (-1)) _ _ _ _ ⟨0,[], -1,rfl,rfl,rfl,rfl,Nat.zero_le _,rfl⟩ (.cons rfl (.cons rfl (.cons rfl (.cons rfl (.cons rfl (.cons rfl (.cons rfl .nil))))))) (zwQ _) rfl ?_
   rintro m E I' loc' ⟨k,bs,last,rfl,rfl,rfl,rfl,hk,hinv⟩
   refine zR ?_
   refine zC ?_
   refine zN ?_
   refine Qr ?_
   refine zI ?_ ?_<;>intro hc18
   ·
    have hlt:k<n:=by simpa using hc18
    obtain ⟨x,hx⟩:=hS.at hlt
    refine Qw ?_
    refine Qc ?_
    refine Qr ?_
    refine QE ?_
    refine zR ?_
    refine zV (QX rfl rfl YW (by assumption) (fun hg=>by omega)) ?_
    refine zV (Qg rfl VH (fun hg=>by exact zwR hS hx) rfl) ?_
    refine Qs zax rfl rfl (fun b_7=>?_)
    refine Vp rfl rfl Uc rfl rfl rfl rfl (by exact Upd.u0) ?_
    refine zN (zR ?_)
    refine zM ?_
    refine zF Ji ?_
    refine zV (Qd rfl Qy (fun hg=>by exact QG.h0 rfl)) ?_
    refine zV (Z6 zaH Zk rfl rfl (fun _=>Mem.m1)) ?_
    refine zM ?_
    refine zE ?_
    refine zE ?_
    refine zA ?_
    refine zA ?_
    refine zN ?_
    refine Qr ?_
    refine zR ?_
    refine zM ?_
    refine zO ?_
    refine zM ?_
    refine Ze 2 rfl rfl rfl ?_
    refine zJ (Qa rfl VJ) ?_
    refine zJ (Qd rfl Qy (fun hg=>by exact QG.h0 rfl)) ?_
    refine zJ (Qh rfl) ?_
    refine zJ (QV rfl rfl rfl) ?_
    refine ZP rfl rfl rfl rfl rfl ?_
    refine zM ?_
    refine Ze 8 rfl rfl rfl ?_
    refine zJ (Qa rfl VJ) ?_
    refine zJ (Qd rfl Qy (fun hg=>by exact QG.h0 rfl)) ?_
    refine zJ (QV rfl rfl rfl) ?_
    refine ZP rfl rfl rfl rfl rfl ?_
    refine zM ?_
    refine Ze 13 rfl rfl rfl ?_
    refine zJ (Qa rfl Vd) ?_
    refine zJ (Qd rfl Qy (fun hg=>by exact QG.h0 rfl)) ?_
    refine VC (cap:=[]) (vs:=[_,_,_]) rfl rfl WS (fun hg=>Yd _ _ _ _) (.some rfl rfl rfl rfl gbf) rfl rfl ?_
    refine zJ (Yz rfl) ?_
    refine ZP rfl rfl rfl rfl rfl ?_
    refine zM ?_
    refine Ze 19 rfl rfl rfl ?_
    refine zJ (Qh rfl) ?_
    refine zJ (Qg rfl VH (fun hg=>by exact Cells.g0) rfl) ?_
    refine zJ (Qh rfl) ?_
    refine zk8 (L:=[(r_13,YC (.int .i64) encA bs)]) (vs:=[_,_]) (v:=.bool (askF x.kind x bs)) rfl rfl (.cons (.there (.there .here)) .nil) (fun hcj=>?_) (.some rfl rfl rfl rfl gbf) rfl rfl ?_
    ·
     simp only [YB,Bool.and_true,Bool.not_eq_true',Bool.or_eq_false_iff] at hcj
     obtain ⟨f,hf⟩:=Option.isSome_iff_exists.1 (show (ZV UF x.kind).isSome=true by simpa using hcj.1.1.1)
     exact ⟨f,by rw [hf];rfl,zm9 hf,zvj hf _ x r_13 bs⟩
    refine zJ (Yz rfl) ?_
    refine ZP rfl rfl rfl rfl rfl ?_
    refine zN ?_
    refine zI ?_ ?_<;>intro hc53
    ·
     refine zR ?_
     refine zA ?_
     refine zN ?_
     refine QF ?_
     refine Qi ?_
     refine Qz ?_
     refine Qi ?_
     refine Qi ?_
     refine Qz ?_
     refine Qi ?_
     exact QR rfl rfl (fun w hw=>⟨by unfold rCheck;first | (rw [if_pos h5]) | (rw [if_neg h5,hfin]) | (rw [if_neg h5,←hinv,Ww hx,rGo,if_pos (by unfold rBad;rw [←XP,hc53])]),hw.drop⟩)
    ·
     refine Qw ?_
     refine Qc ?_
     refine ZK ?_
     refine QZ I' [(b_7,.cells (encR x).toArray 43 (0,0))] mixed ?_
     refine QQ 0 rfl (Qh rfl) (.none rfl) rfl rfl rfl (by kernel_rfl) (by kernel_rfl) (by kernel_rfl) QK (zwQ _) (.keep (.drop (.drop .refl))) ?_
     refine QQ 1 rfl (Qa rfl VJ) (.none rfl) rfl rfl rfl (by kernel_rfl) (by kernel_rfl) (by kernel_rfl) QK (zwQ _) (.keep (.drop (.drop .refl))) ?_
     refine QQ 2 rfl (Qd rfl Qy (fun _=>QG.h0 rfl)) (.none rfl) rfl rfl rfl (by kernel_rfl) (by kernel_rfl) (by kernel_rfl) QK (zwQ _) (.keep (.drop (.drop .refl))) ?_
     refine QQ 3 rfl (Qg rfl VH (fun _=>Cells.g0) rfl) (.none rfl) rfl rfl rfl (by kernel_rfl) (by kernel_rfl) (by kernel_rfl) QK (zwQ _) (.keep (.drop (.drop .refl))) ?_
     refine QQ 4 rfl (Qa rfl VJ) (.none rfl) rfl rfl rfl (by kernel_rfl) (by kernel_rfl) (by kernel_rfl) QK (zwQ _) (.keep (.drop (.drop .refl))) ?_
     refine QQ 5 rfl (Qd rfl Qy (fun _=>QG.h0 rfl)) (.none rfl) rfl rfl rfl (by kernel_rfl) (by kernel_rfl) (by kernel_rfl) QK (zwQ _) (.keep (.drop (.drop .refl))) ?_
     refine zic 6 rfl (by kernel_rfl) ?_
     refine ZU x K6 Zk rfl rfl rfl rfl Upd.u2 ?_
     refine Qb ?_
     refine zvg (zwQ _) (.keep (.drop (.drop .refl))) ?_
     refine zic 7 rfl (by kernel_rfl) ?_
     refine zA ?_
     refine Qb ?_
     refine zvg (zwQ _) (.keep (.drop (.drop .refl))) ?_
     refine Qm (by kernel_rfl) ?_
     refine QA ?_
     refine Qp ?_
     refine Qc ?_
     refine Qk ?_
     refine zV (VZ rfl rfl rfl (fun _=>by omega)) ?_
     refine zM ?_
     refine Qb ?_
     exact Zs _ _ ⟨n-(k+1),by omega,k+1,JF bs x.no x,x.no,rfl,rfl,rfl,rfl,by omega,by rw [←hinv,Ww hx,rGo,if_neg (by unfold rBad;rw [←XP,hc53];simp)]⟩ (.cons rfl (.cons rfl (.cons rfl (.cons rfl (.cons rfl (.cons rfl (.cons rfl .nil))))))) (.drop .refl)
   ·
    have hge:n≤k:=by simpa using hc18
    refine ZC ?_
    refine Qt ?_
    refine Qt ?_
    refine QD ?_
    exact zfl _ ⟨bs,rfl,rfl,rfl,by rw [←hinv,List.drop_of_length_le (by rw [hS.len];omega)];rfl⟩ (.cons rfl .nil)
  ·
   rintro E I' loc' ⟨bs,rfl,rfl,rfl,hfin⟩
   refine zR ?_
   refine zA ?_
   refine zN ?_
   refine QF ?_
   exact QR rfl rfl (fun w hw=>⟨by unfold rCheck;first | (rw [if_pos h5]) | (rw [if_neg h5,hfin]) | (rw [if_neg h5,←hinv,Ww hx,rGo,if_pos (by unfold rBad;rw [←XP,hc53])]),hw.drop⟩)
end
end Go.Proofs.YtjblkbkmblkgoaaGreat.S
namespace Go.Kn
section
open Go
structure Kp (p:Prop):Prop where
 out:p
theorem zwB {p q:Prop}(h1:Kp p→q)(h2:p):q:=h1 ⟨h2⟩
theorem Yr {C:Cx}{Q:Exit→Act→World→Prop}{e:Exit}{E E':Env}{I:Qv}{loc:Loc}(h:Kp (At C Q e E' I loc))(hE:Sub E' E:=by repeat (first | exact Sub.nil | refine Sub.cons rfl ?_)):At C Q e E I loc:=
 fun a w ha hw=>h.out a w (ha.sub hE) hw
end
end Go.Kn
namespace Go.Proofs.YtjblkbkmblkgoaaGreat
section
open Go Go.Kn Go.Proofs
theorem zj3 (I:Qv)(x:Int):Yb Tryz.prog 229 [.int .i64 x] I (.bool false):=by
 intro g H w hw
 refine qe Tryz.func229 Tryz.ntmps229 hw ?_
 refine zR (zA ?_)
 refine zN (zR ?_)
 refine zM ?_
 refine zM ?_
 refine zC ?_
 refine zA (zN (QF ?_))
 exact zr rfl rfl (by simp)
theorem zpH (I:Qv)(x y:Int):Yb Tryz.prog 183 [.int .i64 x,.int .i64 y] I (.int .i64 (zez x y)):=by
 intro g H w hw
 refine qe Tryz.func183 Tryz.ntmps183 hw ?_
 refine zR (zA ?_)
 refine zN (zR ?_)
 refine zM ?_
 refine qcV (vs:=[_]) rfl zaW (zj3 I _) ?_
 refine zA ?_
 refine zN (zR ?_)
 refine zM ?_
 refine qcV (vs:=[_]) rfl zaW (zj3 I _) ?_
 refine zA (zN (Qr (zR ?_)))
 refine zM (zN ?_)
 refine zI ?_ ?_<;>intro hc11
 ·
  cases hc11
 refine Qw (Qc (Qr (zR (zM (zN ?_)))))
 refine zI ?_ ?_<;>intro hc13
 ·
  cases hc13
 refine Qw (Qc (Qr (zR (zM ?_))))
 refine zM ?_
 refine zC (zN ?_)
 refine zI ?_ ?_<;>intro hc16
 ·
  refine zR (zA (zN (QF (Qi ?_))))
  exact zr rfl rfl (by unfold zez;first | (rw [if_pos (by simpa using hc16)]) | (rw [if_neg (by simpa using hc16),if_pos (by simpa using hc19)]) | (rw [if_neg (by simpa using hc16),if_neg (by simpa using hc19)]))
 refine Qw (Qc (Qr (zR (zM ?_))))
 refine zM ?_
 refine zC (zN ?_)
 refine zI ?_ ?_<;>intro hc19
 ·
  refine zR (zA (zN (QF (Qi ?_))))
  exact zr rfl rfl (by unfold zez;first | (rw [if_pos (by simpa using hc16)]) | (rw [if_neg (by simpa using hc16),if_pos (by simpa using hc19)]) | (rw [if_neg (by simpa using hc16),if_neg (by simpa using hc19)]))
 refine Qw (Qc (zR (zA (zN (QF ?_)))))
 exact zr rfl rfl (by unfold zez;first | (rw [if_pos (by simpa using hc16)]) | (rw [if_neg (by simpa using hc16),if_pos (by simpa using hc19)]) | (rw [if_neg (by simpa using hc16),if_neg (by simpa using hc19)]))
theorem zvb (I:Qv)(n:Int)(hn: -1073741824≤n∧n≤1073741824):Yb Tryz.prog 282 [.int .i64 n] I (.int .u64 (zhN n)):=by
 intro g H w hw
 refine qe Tryz.func282 Tryz.ntmps282 hw ?_
 refine zR (zA (zN (Qr (zR ?_))))
 refine zM ?_
 refine zC (zN ?_)
 refine zI ?_ ?_<;>intro hc4
 ·
  refine zR (zM ?_)
  refine zV (Z3 rfl WK) ?_
  refine zV (zo6 rfl) ?_
  refine zA (zN (QF (Qi ?_)))
  exact zr rfl rfl (by rw [zpp hn (by simpa using hc4)])
 refine Qw (Qc (zR (zM ?_)))
 refine zV (Z3 rfl WK) ?_
 refine zA (zN (QF ?_))
 exact zr rfl rfl (by rw [zpz hn (by simpa using hc4)])
theorem zvF (I:Qv)(a b:Int):Vl Tryz.prog 285 [.int .u64 a,.int .u64 b] I [] (fun v I' L=>I'=I∧∃ b1 b2,v= .func (.func 287) #[] [ZM b1,ZM b2].toArray∧L=zr6 216 b1 b2 a b):=by
 intro g H w hw
 refine qe Tryz.func285 Tryz.ntmps285 hw ?_
 refine zR ?_
 refine Zd rfl rfl rfl (fun b_2=>?_)
 refine Zd rfl rfl rfl (fun b_3=>?_)
 refine zA ?_
 refine zN (zR ?_)
 refine zV (YD (us:=[]) (vs:=[_,_]) rfl rfl) ?_
 refine zA (zN (QF ?_))
 exact QR rfl rfl (fun w hw=>⟨_,I,_,rfl,zwQ _,hw,rfl,_,_,rfl,rfl⟩)
theorem zl8 (I:Qv)(a0 b0:Nat)(b1 b2:Nat)(hb0:0<b0)(ha1:a0≤9223372036854775807)(hb1:b0≤9223372036854775807):zvw Tryz.prog 287 [ZM b1,ZM b2] I (zr6 216 b1 b2 (a0) (b0)) (fun n:Nat=>.int .u64 n) (zdc a0 b0):=by
 intro g l J Jx hY I0 H w h0 hJ hw
 refine qe Tryz.func287 Tryz.ntmps287 hw ?_
 refine QE ?_
 refine zfm (fun m E I' H' loc'=>∃ (a b:Nat) (pre:List Nat),m=b∧E=[(0,.func (.yield l) #[] #[]),(1,ZM b1),(2,ZM b2)]∧loc'=zr6 216 b1 b2 (a) (b)∧HLe I0 I'∧J pre I' H'∧zdc a0 b0=pre++zdc a b∧0<b∧a≤9223372036854775807∧b≤9223372036854775807) _ _ _ ⟨a0,b0,[],rfl,rfl,rfl,zwQ _,hJ,rfl,hb0,ha1,hb1⟩ (.cons rfl (.cons rfl (.cons rfl .nil))) rfl ?_
 rintro m E I' H' loc' ⟨a,b,pre,hmb,rfl,rfl,hI1,hJk,hrem,hbp,hal,hbl⟩
 subst m
 have hI0:=h0.trans hI1
 refine Qr (zR ?_)
 refine zL ZX ?_
 refine zC ?_
 refine zM ?_
 refine QL 2 rfl rfl rfl ?_
 refine zK (Qh rfl) ?_
 refine zK (Qd rfl ZX (fun hg=>by exact QG.h1 rfl)) ?_
 refine zki (vs:=[_]) (Post:=fun t I2 H2=>if t then J (pre++[a]) I2 H2 else Jx (pre++[a]) I2 H2) rfl rfl (.some rfl rfl rfl rfl gbt) rfl rfl (fun hcj=>hY pre a _ _ (zjm hrem (by simpa [YB] using hcj)) hI0 hJk) ?_
 rintro t I2 H2 hI2 hyes hno
 refine QU rfl rfl rfl rfl rfl ?_
 refine zN ?_
 refine zI ?_ ?_<;>intro hc10
 ·
  have ha0:a≠0:=by simp at hc10;exact hc10.1
  have ht:t=true:=by simp at hc10;exact hc10.2
  subst ht
  have hJ1:J (pre++[a]) I2 H2:=hyes (by simp [YB];exact ha0)
  refine Qw (Qc (QE (Qr ?_)))
  apply zwB
  ·
   intro key
   have hD:=zwQ I2
   refine ZK ?_
   refine QZ I2 [] mixed ?_
   refine VL 0 1 2 rfl rfl rfl (by kernel_rfl) ?_ ?_ ?_
   ·
    refine zL ZX ?_
    refine Qb ?_
    refine zD hD ?_
    refine Q8 1 2 rfl rfl (by kernel_rfl) ?_ ?_
    ·
     refine zL ZX ?_
     refine Qb ?_
     refine zD hD ?_
     refine Q8 2 5 rfl rfl (by kernel_rfl) ?_ ?_
     ·
      refine zL ZX ?_
      refine Qb ?_
      refine zD hD ?_
      refine Q8 3 5 rfl rfl (by kernel_rfl) ?_ ?_
      ·
       refine zV (Vo rfl rfl) ?_
       refine Qb ?_
       refine zD hD ?_
       refine Q8 4 5 rfl rfl (by kernel_rfl) ?_ ?_
       ·
        refine zV (Yc rfl rfl (fun hg=>by rw [ZF hbp];omega)) ?_
        refine Qb ?_
        refine zD hD ?_
        refine qd 5 rfl ?_
        refine zS Zb ?_
        refine Qb ?_
        refine zD hD ?_
        refine qd 6 rfl ?_
        refine zS Zb ?_
        refine Qb ?_
        refine zD hD ?_
        refine Qm (by kernel_rfl) ?_
        refine QA ?_
        first | exact key.out | exact Yr key
       refine zS Zb ?_
       refine Qb ?_
       refine zD hD ?_
       refine qd 4 rfl ?_
       refine zV (Yc rfl rfl (fun hg=>by rw [ZF hbp];omega)) ?_
       refine Qb ?_
       refine zD hD ?_
       refine qd 6 rfl ?_
       refine zS Zb ?_
       refine Qb ?_
       refine zD hD ?_
       refine Qm (by kernel_rfl) ?_
       refine QA ?_
       first | exact key.out | exact Yr key
      refine zS Zb ?_
      refine Qb ?_
      refine zD hD ?_
      refine qd 3 rfl ?_
      refine zV (Vo rfl rfl) ?_
      refine Qb ?_
      refine zD hD ?_
      refine qd 4 rfl ?_
      refine zV (Yc rfl rfl (fun hg=>by rw [ZF hbp];omega)) ?_
      refine Qb ?_
      refine zD hD ?_
      refine qd 6 rfl ?_
      refine zS Zb ?_
      refine Qb ?_
      refine zD hD ?_
      refine Qm (by kernel_rfl) ?_
      refine QA ?_
      first | exact key.out | exact Yr key
     refine zS Zb ?_
     refine Qb ?_
     refine zD hD ?_
     refine qd 2 rfl ?_
     refine zL ZX ?_
     refine Qb ?_
     refine zD hD ?_
     refine qd 3 rfl ?_
     refine zV (Vo rfl rfl) ?_
     refine Qb ?_
     refine zD hD ?_
     refine qd 4 rfl ?_
     refine zV (Yc rfl rfl (fun hg=>by rw [ZF hbp];omega)) ?_
     refine Qb ?_
     refine zD hD ?_
     refine qd 6 rfl ?_
     refine zS Zb ?_
     refine Qb ?_
     refine zD hD ?_
     refine Qm (by kernel_rfl) ?_
     refine QA ?_
     first | exact key.out | exact Yr key
    refine zL ZX ?_
    refine Qb ?_
    refine zD hD ?_
    refine Q8 1 3 rfl rfl (by kernel_rfl) ?_ ?_
    ·
     refine zL ZX ?_
     refine Qb ?_
     refine zD hD ?_
     refine Q8 3 5 rfl rfl (by kernel_rfl) ?_ ?_
     ·
      refine zV (Vo rfl rfl) ?_
      refine Qb ?_
      refine zD hD ?_
      refine Q8 4 5 rfl rfl (by kernel_rfl) ?_ ?_
      ·
       refine zV (Yc rfl rfl (fun hg=>by rw [ZF hbp];omega)) ?_
       refine Qb ?_
       refine zD hD ?_
       refine qd 5 rfl ?_
       refine zS Zb ?_
       refine Qb ?_
       refine zD hD ?_
       refine qd 6 rfl ?_
       refine zS Zb ?_
       refine Qb ?_
       refine zD hD ?_
       refine Qm (by kernel_rfl) ?_
       refine QA ?_
       first | exact key.out | exact Yr key
      refine zS Zb ?_
      refine Qb ?_
      refine zD hD ?_
      refine qd 4 rfl ?_
      refine zV (Yc rfl rfl (fun hg=>by rw [ZF hbp];omega)) ?_
      refine Qb ?_
      refine zD hD ?_
      refine qd 6 rfl ?_
      refine zS Zb ?_
      refine Qb ?_
      refine zD hD ?_
      refine Qm (by kernel_rfl) ?_
      refine QA ?_
      first | exact key.out | exact Yr key
     refine zS Zb ?_
     refine Qb ?_
     refine zD hD ?_
     refine qd 3 rfl ?_
     refine zV (Vo rfl rfl) ?_
     refine Qb ?_
     refine zD hD ?_
     refine qd 4 rfl ?_
     refine zV (Yc rfl rfl (fun hg=>by rw [ZF hbp];omega)) ?_
     refine Qb ?_
     refine zD hD ?_
     refine qd 6 rfl ?_
     refine zS Zb ?_
     refine Qb ?_
     refine zD hD ?_
     refine Qm (by kernel_rfl) ?_
     refine QA ?_
     first | exact key.out | exact Yr key
    refine zV (Vo rfl rfl) ?_
    refine Qb ?_
    refine zD hD ?_
    refine qd 1 rfl ?_
    refine zL ZX ?_
    refine Qb ?_
    refine zD hD ?_
    refine Q8 4 5 rfl rfl (by kernel_rfl) ?_ ?_
    ·
     refine zV (Yc rfl rfl (fun hg=>by rw [ZF hbp];omega)) ?_
     refine Qb ?_
     refine zD hD ?_
     refine qd 5 rfl ?_
     refine zS Zb ?_
     refine Qb ?_
     refine zD hD ?_
     refine qd 6 rfl ?_
     refine zS Zb ?_
     refine Qb ?_
     refine zD hD ?_
     refine Qm (by kernel_rfl) ?_
     refine QA ?_
     first | exact key.out | exact Yr key
    refine zS Zb ?_
    refine Qb ?_
    refine zD hD ?_
    refine qd 4 rfl ?_
    refine zV (Yc rfl rfl (fun hg=>by rw [ZF hbp];omega)) ?_
    refine Qb ?_
    refine zD hD ?_
    refine qd 6 rfl ?_
    refine zS Zb ?_
    refine Qb ?_
    refine zD hD ?_
    refine Qm (by kernel_rfl) ?_
    refine QA ?_
    first | exact key.out | exact Yr key
   ·
    refine zL ZX ?_
    refine Qb ?_
    refine zD hD ?_
    refine Q8 0 2 rfl rfl (by kernel_rfl) ?_ ?_
    ·
     refine zL ZX ?_
     refine Qb ?_
     refine zD hD ?_
     refine Q8 2 5 rfl rfl (by kernel_rfl) ?_ ?_
     ·
      refine zL ZX ?_
      refine Qb ?_
      refine zD hD ?_
      refine Q8 3 5 rfl rfl (by kernel_rfl) ?_ ?_
      ·
       refine zV (Vo rfl rfl) ?_
       refine Qb ?_
       refine zD hD ?_
       refine Q8 4 5 rfl rfl (by kernel_rfl) ?_ ?_
       ·
        refine zV (Yc rfl rfl (fun hg=>by rw [ZF hbp];omega)) ?_
        refine Qb ?_
        refine zD hD ?_
        refine qd 5 rfl ?_
        refine zS Zb ?_
        refine Qb ?_
        refine zD hD ?_
        refine qd 6 rfl ?_
        refine zS Zb ?_
        refine Qb ?_
        refine zD hD ?_
        refine Qm (by kernel_rfl) ?_
        refine QA ?_
        first | exact key.out | exact Yr key
       refine zS Zb ?_
       refine Qb ?_
       refine zD hD ?_
       refine qd 4 rfl ?_
       refine zV (Yc rfl rfl (fun hg=>by rw [ZF hbp];omega)) ?_
       refine Qb ?_
       refine zD hD ?_
       refine qd 6 rfl ?_
       refine zS Zb ?_
       refine Qb ?_
       refine zD hD ?_
       refine Qm (by kernel_rfl) ?_
       refine QA ?_
       first | exact key.out | exact Yr key
      refine zS Zb ?_
      refine Qb ?_
      refine zD hD ?_
      refine qd 3 rfl ?_
      refine zV (Vo rfl rfl) ?_
      refine Qb ?_
      refine zD hD ?_
      refine qd 4 rfl ?_
      refine zV (Yc rfl rfl (fun hg=>by rw [ZF hbp];omega)) ?_
      refine Qb ?_
      refine zD hD ?_
      refine qd 6 rfl ?_
      refine zS Zb ?_
      refine Qb ?_
      refine zD hD ?_
      refine Qm (by kernel_rfl) ?_
      refine QA ?_
      first | exact key.out | exact Yr key
     refine zS Zb ?_
     refine Qb ?_
     refine zD hD ?_
     refine qd 2 rfl ?_
     refine zL ZX ?_
     refine Qb ?_
     refine zD hD ?_
     refine qd 3 rfl ?_
     refine zV (Vo rfl rfl) ?_
     refine Qb ?_
     refine zD hD ?_
     refine qd 4 rfl ?_
     refine zV (Yc rfl rfl (fun hg=>by rw [ZF hbp];omega)) ?_
     refine Qb ?_
     refine zD hD ?_
     refine qd 6 rfl ?_
     refine zS Zb ?_
     refine Qb ?_
     refine zD hD ?_
     refine Qm (by kernel_rfl) ?_
     refine QA ?_
     first | exact key.out | exact Yr key
    refine zL ZX ?_
    refine Qb ?_
    refine zD hD ?_
    refine Q8 0 3 rfl rfl (by kernel_rfl) ?_ ?_
    ·
     refine zL ZX ?_
     refine Qb ?_
     refine zD hD ?_
     refine Q8 3 5 rfl rfl (by kernel_rfl) ?_ ?_
     ·
      refine zV (Vo rfl rfl) ?_
      refine Qb ?_
      refine zD hD ?_
      refine Q8 4 5 rfl rfl (by kernel_rfl) ?_ ?_
      ·
       refine zV (Yc rfl rfl (fun hg=>by rw [ZF hbp];omega)) ?_
       refine Qb ?_
       refine zD hD ?_
       refine qd 5 rfl ?_
       refine zS Zb ?_
       refine Qb ?_
       refine zD hD ?_
       refine qd 6 rfl ?_
       refine zS Zb ?_
       refine Qb ?_
       refine zD hD ?_
       refine Qm (by kernel_rfl) ?_
       refine QA ?_
       first | exact key.out | exact Yr key
      refine zS Zb ?_
      refine Qb ?_
      refine zD hD ?_
      refine qd 4 rfl ?_
      refine zV (Yc rfl rfl (fun hg=>by rw [ZF hbp];omega)) ?_
      refine Qb ?_
      refine zD hD ?_
      refine qd 6 rfl ?_
      refine zS Zb ?_
      refine Qb ?_
      refine zD hD ?_
      refine Qm (by kernel_rfl) ?_
      refine QA ?_
      first | exact key.out | exact Yr key
     refine zS Zb ?_
     refine Qb ?_
     refine zD hD ?_
     refine qd 3 rfl ?_
     refine zV (Vo rfl rfl) ?_
     refine Qb ?_
     refine zD hD ?_
     refine qd 4 rfl ?_
     refine zV (Yc rfl rfl (fun hg=>by rw [ZF hbp];omega)) ?_
     refine Qb ?_
     refine zD hD ?_
     refine qd 6 rfl ?_
     refine zS Zb ?_
     refine Qb ?_
     refine zD hD ?_
     refine Qm (by kernel_rfl) ?_
     refine QA ?_
     first | exact key.out | exact Yr key
    refine zV (Vo rfl rfl) ?_
    refine Qb ?_
    refine zD hD ?_
    refine Q8 0 4 rfl rfl (by kernel_rfl) ?_ ?_
    ·
     refine zL ZX ?_
     refine Qb ?_
     refine zD hD ?_
     refine Q8 4 5 rfl rfl (by kernel_rfl) ?_ ?_
     ·
      refine zV (Yc rfl rfl (fun hg=>by rw [ZF hbp];omega)) ?_
      refine Qb ?_
      refine zD hD ?_
      refine qd 5 rfl ?_
      refine zS Zb ?_
      refine Qb ?_
      refine zD hD ?_
      refine qd 6 rfl ?_
      refine zS Zb ?_
      refine Qb ?_
      refine zD hD ?_
      refine Qm (by kernel_rfl) ?_
      refine QA ?_
      first | exact key.out | exact Yr key
     refine zS Zb ?_
     refine Qb ?_
     refine zD hD ?_
     refine qd 4 rfl ?_
     refine zV (Yc rfl rfl (fun hg=>by rw [ZF hbp];omega)) ?_
     refine Qb ?_
     refine zD hD ?_
     refine qd 6 rfl ?_
     refine zS Zb ?_
     refine Qb ?_
     refine zD hD ?_
     refine Qm (by kernel_rfl) ?_
     refine QA ?_
     first | exact key.out | exact Yr key
    refine zV (Yc rfl rfl (fun hg=>by rw [ZF hbp];omega)) ?_
    refine Qb ?_
    refine zD hD ?_
    refine qd 0 rfl ?_
    refine zL ZX ?_
    refine Qb ?_
    refine zD hD ?_
    refine qd 5 rfl ?_
    refine zS Zb ?_
    refine Qb ?_
    refine zD hD ?_
    refine qd 6 rfl ?_
    refine zS Zb ?_
    refine Qb ?_
    refine zD hD ?_
    refine Qm (by kernel_rfl) ?_
    refine QA ?_
    first | exact key.out | exact Yr key
   refine zL ZX ?_
   refine Qb ?_
   refine zD hD ?_
   refine VL 0 1 3 rfl rfl rfl (by kernel_rfl) ?_ ?_ ?_
   ·
    refine zL ZX ?_
    refine Qb ?_
    refine zD hD ?_
    refine Q8 1 3 rfl rfl (by kernel_rfl) ?_ ?_
    ·
     refine zL ZX ?_
     refine Qb ?_
     refine zD hD ?_
     refine Q8 3 5 rfl rfl (by kernel_rfl) ?_ ?_
     ·
      refine zV (Vo rfl rfl) ?_
      refine Qb ?_
      refine zD hD ?_
      refine Q8 4 5 rfl rfl (by kernel_rfl) ?_ ?_
      ·
       refine zV (Yc rfl rfl (fun hg=>by rw [ZF hbp];omega)) ?_
       refine Qb ?_
       refine zD hD ?_
       refine qd 5 rfl ?_
       refine zS Zb ?_
       refine Qb ?_
       refine zD hD ?_
       refine qd 6 rfl ?_
       refine zS Zb ?_
       refine Qb ?_
       refine zD hD ?_
       refine Qm (by kernel_rfl) ?_
       refine QA ?_
       first | exact key.out | exact Yr key
      refine zS Zb ?_
      refine Qb ?_
      refine zD hD ?_
      refine qd 4 rfl ?_
      refine zV (Yc rfl rfl (fun hg=>by rw [ZF hbp];omega)) ?_
      refine Qb ?_
      refine zD hD ?_
      refine qd 6 rfl ?_
      refine zS Zb ?_
      refine Qb ?_
      refine zD hD ?_
      refine Qm (by kernel_rfl) ?_
      refine QA ?_
      first | exact key.out | exact Yr key
     refine zS Zb ?_
     refine Qb ?_
     refine zD hD ?_
     refine qd 3 rfl ?_
     refine zV (Vo rfl rfl) ?_
     refine Qb ?_
     refine zD hD ?_
     refine qd 4 rfl ?_
     refine zV (Yc rfl rfl (fun hg=>by rw [ZF hbp];omega)) ?_
     refine Qb ?_
     refine zD hD ?_
     refine qd 6 rfl ?_
     refine zS Zb ?_
     refine Qb ?_
     refine zD hD ?_
     refine Qm (by kernel_rfl) ?_
     refine QA ?_
     first | exact key.out | exact Yr key
    refine zV (Vo rfl rfl) ?_
    refine Qb ?_
    refine zD hD ?_
    refine qd 1 rfl ?_
    refine zL ZX ?_
    refine Qb ?_
    refine zD hD ?_
    refine Q8 4 5 rfl rfl (by kernel_rfl) ?_ ?_
    ·
     refine zV (Yc rfl rfl (fun hg=>by rw [ZF hbp];omega)) ?_
     refine Qb ?_
     refine zD hD ?_
     refine qd 5 rfl ?_
     refine zS Zb ?_
     refine Qb ?_
     refine zD hD ?_
     refine qd 6 rfl ?_
     refine zS Zb ?_
     refine Qb ?_
     refine zD hD ?_
     refine Qm (by kernel_rfl) ?_
     refine QA ?_
     first | exact key.out | exact Yr key
    refine zS Zb ?_
    refine Qb ?_
    refine zD hD ?_
    refine qd 4 rfl ?_
    refine zV (Yc rfl rfl (fun hg=>by rw [ZF hbp];omega)) ?_
    refine Qb ?_
    refine zD hD ?_
    refine qd 6 rfl ?_
    refine zS Zb ?_
    refine Qb ?_
    refine zD hD ?_
    refine Qm (by kernel_rfl) ?_
    refine QA ?_
    first | exact key.out | exact Yr key
   ·
    refine zL ZX ?_
    refine Qb ?_
    refine zD hD ?_
    refine Q8 0 3 rfl rfl (by kernel_rfl) ?_ ?_
    ·
     refine zL ZX ?_
     refine Qb ?_
     refine zD hD ?_
     refine Q8 3 5 rfl rfl (by kernel_rfl) ?_ ?_
     ·
      refine zV (Vo rfl rfl) ?_
      refine Qb ?_
      refine zD hD ?_
      refine Q8 4 5 rfl rfl (by kernel_rfl) ?_ ?_
      ·
       refine zV (Yc rfl rfl (fun hg=>by rw [ZF hbp];omega)) ?_
       refine Qb ?_
       refine zD hD ?_
       refine qd 5 rfl ?_
       refine zS Zb ?_
       refine Qb ?_
       refine zD hD ?_
       refine qd 6 rfl ?_
       refine zS Zb ?_
       refine Qb ?_
       refine zD hD ?_
       refine Qm (by kernel_rfl) ?_
       refine QA ?_
       first | exact key.out | exact Yr key
      refine zS Zb ?_
      refine Qb ?_
      refine zD hD ?_
      refine qd 4 rfl ?_
      refine zV (Yc rfl rfl (fun hg=>by rw [ZF hbp];omega)) ?_
      refine Qb ?_
      refine zD hD ?_
      refine qd 6 rfl ?_
      refine zS Zb ?_
      refine Qb ?_
      refine zD hD ?_
      refine Qm (by kernel_rfl) ?_
      refine QA ?_
      first | exact key.out | exact Yr key
     refine zS Zb ?_
     refine Qb ?_
     refine zD hD ?_
     refine qd 3 rfl ?_
     refine zV (Vo rfl rfl) ?_
     refine Qb ?_
     refine zD hD ?_
     refine qd 4 rfl ?_
     refine zV (Yc rfl rfl (fun hg=>by rw [ZF hbp];omega)) ?_
     refine Qb ?_
     refine zD hD ?_
     refine qd 6 rfl ?_
     refine zS Zb ?_
     refine Qb ?_
     refine zD hD ?_
     refine Qm (by kernel_rfl) ?_
     refine QA ?_
     first | exact key.out | exact Yr key
    refine zV (Vo rfl rfl) ?_
    refine Qb ?_
    refine zD hD ?_
    refine Q8 0 4 rfl rfl (by kernel_rfl) ?_ ?_
    ·
     refine zL ZX ?_
     refine Qb ?_
     refine zD hD ?_
     refine Q8 4 5 rfl rfl (by kernel_rfl) ?_ ?_
     ·
      refine zV (Yc rfl rfl (fun hg=>by rw [ZF hbp];omega)) ?_
      refine Qb ?_
      refine zD hD ?_
      refine qd 5 rfl ?_
      refine zS Zb ?_
      refine Qb ?_
      refine zD hD ?_
      refine qd 6 rfl ?_
      refine zS Zb ?_
      refine Qb ?_
      refine zD hD ?_
      refine Qm (by kernel_rfl) ?_
      refine QA ?_
      first | exact key.out | exact Yr key
     refine zS Zb ?_
     refine Qb ?_
     refine zD hD ?_
     refine qd 4 rfl ?_
     refine zV (Yc rfl rfl (fun hg=>by rw [ZF hbp];omega)) ?_
     refine Qb ?_
     refine zD hD ?_
     refine qd 6 rfl ?_
     refine zS Zb ?_
     refine Qb ?_
     refine zD hD ?_
     refine Qm (by kernel_rfl) ?_
     refine QA ?_
     first | exact key.out | exact Yr key
    refine zV (Yc rfl rfl (fun hg=>by rw [ZF hbp];omega)) ?_
    refine Qb ?_
    refine zD hD ?_
    refine qd 0 rfl ?_
    refine zL ZX ?_
    refine Qb ?_
    refine zD hD ?_
    refine qd 5 rfl ?_
    refine zS Zb ?_
    refine Qb ?_
    refine zD hD ?_
    refine qd 6 rfl ?_
    refine zS Zb ?_
    refine Qb ?_
    refine zD hD ?_
    refine Qm (by kernel_rfl) ?_
    refine QA ?_
    first | exact key.out | exact Yr key
   refine zV (Vo rfl rfl) ?_
   refine Qb ?_
   refine zD hD ?_
   refine Q8 0 1 rfl rfl (by kernel_rfl) ?_ ?_
   ·
    refine zL ZX ?_
    refine Qb ?_
    refine zD hD ?_
    refine qd 1 rfl ?_
    refine zL ZX ?_
    refine Qb ?_
    refine zD hD ?_
    refine Q8 4 5 rfl rfl (by kernel_rfl) ?_ ?_
    ·
     refine zV (Yc rfl rfl (fun hg=>by rw [ZF hbp];omega)) ?_
     refine Qb ?_
     refine zD hD ?_
     refine qd 5 rfl ?_
     refine zS Zb ?_
     refine Qb ?_
     refine zD hD ?_
     refine qd 6 rfl ?_
     refine zS Zb ?_
     refine Qb ?_
     refine zD hD ?_
     refine Qm (by kernel_rfl) ?_
     refine QA ?_
     first | exact key.out | exact Yr key
    refine zS Zb ?_
    refine Qb ?_
    refine zD hD ?_
    refine qd 4 rfl ?_
    refine zV (Yc rfl rfl (fun hg=>by rw [ZF hbp];omega)) ?_
    refine Qb ?_
    refine zD hD ?_
    refine qd 6 rfl ?_
    refine zS Zb ?_
    refine Qb ?_
    refine zD hD ?_
    refine Qm (by kernel_rfl) ?_
    refine QA ?_
    first | exact key.out | exact Yr key
   refine zL ZX ?_
   refine Qb ?_
   refine zD hD ?_
   refine Q8 0 4 rfl rfl (by kernel_rfl) ?_ ?_
   ·
    refine zL ZX ?_
    refine Qb ?_
    refine zD hD ?_
    refine Q8 4 5 rfl rfl (by kernel_rfl) ?_ ?_
    ·
     refine zV (Yc rfl rfl (fun hg=>by rw [ZF hbp];omega)) ?_
     refine Qb ?_
     refine zD hD ?_
     refine qd 5 rfl ?_
     refine zS Zb ?_
     refine Qb ?_
     refine zD hD ?_
     refine qd 6 rfl ?_
     refine zS Zb ?_
     refine Qb ?_
     refine zD hD ?_
     refine Qm (by kernel_rfl) ?_
     refine QA ?_
     first | exact key.out | exact Yr key
    refine zS Zb ?_
    refine Qb ?_
    refine zD hD ?_
    refine qd 4 rfl ?_
    refine zV (Yc rfl rfl (fun hg=>by rw [ZF hbp];omega)) ?_
    refine Qb ?_
    refine zD hD ?_
    refine qd 6 rfl ?_
    refine zS Zb ?_
    refine Qb ?_
    refine zD hD ?_
    refine Qm (by kernel_rfl) ?_
    refine QA ?_
    first | exact key.out | exact Yr key
   refine zV (Yc rfl rfl (fun hg=>by rw [ZF hbp];omega)) ?_
   refine Qb ?_
   refine zD hD ?_
   refine qd 0 rfl ?_
   refine zL ZX ?_
   refine Qb ?_
   refine zD hD ?_
   refine qd 5 rfl ?_
   refine zS Zb ?_
   refine Qb ?_
   refine zD hD ?_
   refine qd 6 rfl ?_
   refine zS Zb ?_
   refine Qb ?_
   refine zD hD ?_
   refine Qm (by kernel_rfl) ?_
   refine QA ?_
   first | exact key.out | exact Yr key
  rw [show ((a:Int)).tmod (zdX (b:Int) 1)=((a % b:Nat):Int) by rw [ZF hbp,zlT]]
  refine Qc (zR ?_)
  refine zL ZX ?_
  refine zC (zN ?_)
  refine zI ?_ ?_<;>intro hc17
  ·
   have hab:a % b=0:=by have h:=hc17;simp only [beq_iff_eq] at h;omega
   have hpre2:(pre++[a])++[b]<+:zdc a0 b0:=by rw [hrem,zcy ha0 (by omega) hab,List.append_assoc];exact List.prefix_rfl
   refine zR (zM ?_)
   refine zL ZX ?_
   refine zaj (vs:=[_]) (Post:=fun t I3 H3=>if t then J ((pre++[a])++[b]) I3 H3 else Jx ((pre++[a])++[b]) I3 H3) rfl rfl rfl rfl (hY (pre++[a]) b _ _ hpre2 (hI0.trans hI2) hJ1) ?_
   rintro t3 I3 H3 hI3 hP3
   refine zN (QF (Qz (Qi (Qz ?_))))
   first
   | (refine Ys rfl (fun w hw=>⟨_,I3,H3,rfl,hI1.trans (hI2.trans hI3),hw.drop,?_⟩);cases t3 with | true=>exact .inl (by rw [hrem,zcy ha0 (by omega) hab];simpa using hP3) | false=>exact .inr ⟨_,hpre2,hP3⟩)
  have hab:a % b≠0:=by have h:=hc17;simp only [beq_eq_false_iff_ne,ne_eq] at h;omega
  refine Qw (Qp ?_)
  exact XF rfl rfl rfl _ (zr6 216 b1 b2 (b) (((a % b:Nat):Int))) ⟨a % b,Nat.mod_lt _ hbp,b,a % b,pre++[a],rfl,rfl,rfl,hI1.trans hI2,hJ1,by rw [hrem,zdl ha0 (by omega) hab,List.append_assoc];rfl,by omega,by omega,by have:=Nat.mod_lt a hbp;omega⟩ (.cons rfl (.cons rfl (.cons rfl .nil))) .refl
 refine ZC (Qt (Qt (QD ?_)))
 first
 | (refine YI (Ys rfl (fun w hw=>⟨_,I2,H2,rfl,hI1.trans hI2,hw.drop,?_⟩));by_cases ha0:a=0;(obtain ⟨e1,e2⟩:=hno (by simp [YB,ha0]);subst e1;subst e2;subst ha0;exact .inl (by rw [hrem,zdH,List.append_nil];exact hJk));(have ht:t=false:=(by simp [ha0] at hc10;exact hc10);subst ht;exact .inr ⟨_,zjm hrem ha0,hyes (by simp [YB];exact ha0)⟩))
end
end Go.Proofs.YtjblkbkmblkgoaaGreat
