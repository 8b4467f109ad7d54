/- topOrigins_holds, part B of the proof: what its theorems say holds without further conditions. -/
import Derived.Laws.CopyRow
import Derived.Lib.AppendZerosOnto
import Derived.Lib.Overlaps
import Derived.Laws.MakeOwn
import Derived.Sort.Row
import Derived.Sort.Grow
import Derived.Test.YtmbjmjbjdgjonaaGreatDoorProg
import Derived.KernelRfl
import Derived.Lib.Hide
import Derived.Test.YtmbjmjbjdgjonaaGreatDoorTOA
namespace Go.Kn
section
open Go
section
variable {C:Cx} {Q:Exit->Act->World->Prop} {E E':Env} {I I' I0:Qt} {loc loc' loc0 L R:Loc} {ops:Array Oper} {rest:List Oper} {S:GS}
variable {dst:Option Tmp} {d:Nat} {ty:TypeId} {pos:String} {af:Array Edge} {gd:Option (Nat×Bool)} {x y z:Operand}
theorem zmD {t n c e size:Nat}{av:Option Addr}(hx:Qv S E x=some (.slice av n c))(hT:SlT C.P t e size):QV C S E I loc ⟨dst,.call ⟨.builtin .cap, #[x], #[t]⟩,ty,pos,af,gd⟩ (.int .i64 c):=
 .of kC fun a w ha hg hc _=>by
  simp only [execOp,resolve,j6,jx,Oo,Qi ha hg hc hx,jg,jl,Result.andThen,invoke,builtin,Builtin.cap_,OO,O3,jK hT.1,goInt]
theorem St.setRow {g:World}{H:Qt}{w:World}{b:Nat}{cur:Array Value}{t:TypeId}(h:St g I H loc w)(cs:Array Value)(hu:Upd loc b (.cells cur t (0,0)) (.cells cs t (0,0)) loc'):St g I H loc' (w.setRow b cs):=by have hb:=h.own _ _ hu.mem;exact h.turn hu U U U (by simp [World.setRow]) (setRow_heap w b cur cs t (0,0) hb) (fun c hc=>setRow_other w b c cs hc)
theorem zdf {t e size b o dl dc sl sc:Nat}{sv:Option Addr}{pre old post vs:List Value}{cur cur':Array Value}{te:TypeId}(hcur:cur=(pre++old++post).toArray)(hcur':cur'=(pre++vs++post).toArray)(hx:Qv [] E x=some (.slice (some ⟨b,o,none⟩) dl dc))(hy:Qv [] E y=some (.slice sv sl sc))(hT:SlT C.P t e size)
  (hl:vs.length=Nat.min sl dl*size)(ho:old.length=vs.length)(hpre:pre.length=o)(hb:vs≠[]->sv=some ⟨Ab sv,Ao sv,none⟩)(hs:Cells I loc (Ab sv) (Ao sv) vs)(h1:YP vs=true)(hG:gd=none)(hN:Nat.blt d C.N=true)
  (hu:Upd loc b (.cells cur te (0,0)) (.cells cur' te (0,0)) loc')(h:XO C Q ops rest [] ((d,.int .i64 (Nat.min sl dl:Nat))::E) I loc'):
  XO C Q ops (⟨some d,.call ⟨.builtin .copy, #[x,y], #[t,t]⟩,ty,pos,af,gd⟩::rest) [] E I loc:=
 Ya hG kC fun a w ha hw=>by
  subst hcur;subst hcur';obtain ⟨ht,i,hi,hsz⟩:=hT;have hblk:=hw.own _ _ hu.mem
  have hcells:(Builtin.firstCells size (Nat.min sl dl) (.slice sv sl sc)).run C.P w= .ok vs.toArray w:=by
   by_cases h0:vs=[]
   ·have hz:Nat.min sl dl*size=0:=(by rw [<-hl,h0];rfl);subst h0
    cases sv with
    | none=>rfl
    | some q=>simp only [Builtin.firstCells,hz];rfl
   ·rw [hb h0];simp only [Builtin.firstCells,<-hl];exact As w _ vs fun j v hj=>by rw [Yn];exact (hs j v hj).get hw
  have hst:=run_storeCells_at C.P b o te vs 0 (pre++old++post).toArray w hblk (by simp only [Oh,jh];omega) (Je h1)
  have e1:((pre++old++post).toArray.toList.take (o+0)++vs++(pre++old++post).toArray.toList.drop (o+0+vs.length))=pre++vs++post:=by
   rw [B1,jn pre old post];rw [List.take_left' hpre,<-ho,<-hpre,<-jh,<-jn,List.drop_left' rfl]
  rw [e1] at hst
  have hrun:(Builtin.copy_ #[t,t] ty #[.slice (some ⟨b,o,none⟩) dl dc,.slice sv sl sc]).run C.P w= .ok (.int .i64 (Nat.min sl dl:Nat)) (w.setRow b (pre++vs++post).toArray):=by
   simp only [Builtin.copy_,OO,O3,Al,jg,jK ht,Result.andThen,Builtin.lenOf,jl,run_sizeOf hi,hsz,hcells,hst,goInt]
  simp only [execOp,resolve,j6,jx,Oo,Qi (S:=[]) ha trivial rfl hx,Qi (S:=[]) ha trivial rfl hy,jg,jl,Result.andThen,invoke,builtin,hrun,Oq];exact h _ _ (ha.put hN _) trivial (hw.setRow _ hu)
theorem zj4 {t tn e size bytes b off i c:Nat}{k:Int}{ys:List Value}(hx:Qv [] E x=some (.slice (some ⟨b,off,none⟩) i c))(hy:Qv [] E y=some (.int .i64 k))(hT:ElT C.P t e size bytes)(htn:C.P.underlying tn=some (.int .i64))
  (hk:0<k)(hsz:0<size)(hc:(c:Int)<i+k)(hl:ys.length=i*size)(hs:Cells I loc b off ys)(hB:(i+k.toNat)*(bytes+1)<=70368744177664)(hG:gd=none)(hN:Nat.blt d C.N=true)
  (h:∀ b' c' zs,i+k.toNat<=c'->c'<=maxLen->(ys++zs).length=c'*size->XO C Q ops rest [] ((d,.slice (some ⟨b',0,none⟩) (i+k.toNat) c')::E) I ((b',.cells (ys++zs).toArray e (0,0))::loc)):
  XO C Q ops (⟨some d,.call ⟨.builtin .append, #[x,y], #[t,tn]⟩,ty,pos,af,gd⟩::rest) [] E I loc:=
 Ya hG kC fun a w ha hw=>by
  obtain ⟨ht,inf,zz,hi,hz,hss,hb,hzs⟩:=hT;obtain ⟨q,rfl⟩:∃ q:Nat,k=q:=⟨k.toNat,kB⟩;rw [BT] at hB h
  have hnm:i+q<=70368744177664:=by
   have:(i+q)*1<=(i+q)*(bytes+1):=O7 _ kB;omega
  have hbytes:(i+q)*bytes<=140737488355328:=by
   have:(i+q)*bytes<=(i+q)*(bytes+1):=O7 _ kB;omega
  have hqb:q*bytes<=(i+q)*bytes:=O2 _ kB
  have hold:(Builtin.firstCells inf.size i (.slice (some ⟨b,off,none⟩) i c)).run C.P w.drew= .ok ys.toArray w.drew:=by
   rw [hss];simp only [Builtin.firstCells,<-hl];exact As _ _ ys fun j v hj=>by rw [Yn];exact (hs j v hj).get hw.drew'
  have hrun:=Lib.run_append_grow_zeros (P:=C.P) w t tn ty e inf zz .i64 .i64 ht htn hi hz (some ⟨b,off,none⟩) i c ys hold q kB kB kB kB (by rw [hb];omega) (by rw [hb];exact growslice_fits kB hbytes);have hge:=grownCap_ge w (i+q) c e;have hcm:grownCap w (i+q) c e<=maxLen:=BP w (i+q) c e (by simp only [maxLen];omega);simp only [execOp,resolve,j6,jx,Oo,Qi (S:=[]) ha trivial rfl hx,Qi (S:=[]) ha trivial rfl hy,jg,jl,Result.andThen,invoke,builtin,hrun,Oq]
  have e1:ys.toArray++Builtin.zeroCells zz.cells q++Builtin.zeroCells zz.cells (grownCap w (i+q) c e-(i+q))=(ys++((Builtin.zeroCells zz.cells q).toList++(Builtin.zeroCells zz.cells (grownCap w (i+q) c e-(i+q))).toList)).toArray:=by
   apply AS;simp
  rw [e1];refine h _ _ _ hge hcm ?_ _ _ (ha.put hN _) trivial (hw.drew'.alloc _);simp only [jh,O5,VX,hzs,hl];rw [<-OJ,<-OJ];congr 1;omega
theorem zbe {t t' n c e size:Nat}{av:Option Addr}(hx:Qv S E x=some (.slice av n c))(hy:Qv S E y=some (.slice none 0 0))(hT:SlT C.P t e size):QV C S E I loc ⟨dst,.binOp .eql t x y t',ty,pos,af,gd⟩ (.bool av.isNone):=
 .of kC fun a w ha hg hc _=>by
  have e1:∀ op x y t,(eqGuard op t x y (.slice av n c) (.slice none 0 0)).run C.P w= .ok () w:=by intros;unfold eqGuard;rename_i op _ _ _;cases op<;>rfl
  have e2:(Op.equal t (.slice av n c) (.slice none 0 0)).run C.P w= .ok av.isNone w:=by
   show (Op.equalIn (9999+1) t (.slice av n c) (.slice none 0 0)).run C.P w=_;unfold Op.equalIn;rw [jg,jK hT.1];cases av<;>rfl
  simp only [execOp,Qi ha hg hc hx,Qi ha hg hc hy,jg,e1,Result.andThen,binOp,e2,jl]
theorem YH {t e size b off n c:Nat}{k:IntKind}{i:Int}(hx:Qv S E x=some (.slice (some ⟨b,off,none⟩) n c))(hy:Qv S E y=some (.int k i))(hT:SlT C.P t e size)(hb:0<=i/\i<=(n:Int)/\i<(c:Int)):
  QV C S E I loc ⟨dst,.slice t x (some y) none none,ty,pos,af,gd⟩ (.slice (some ⟨b,off+i.toNat*size,none⟩) (n-i.toNat) (c-i.toNat)):=by
 have h:=Jf (C:=C) (I:=I) (loc:=loc) (dst:=dst) (ty:=ty) (pos:=pos) (af:=af) (gd:=gd) hx hy hT (fun _=>⟨hb.1,hb.2.1⟩);rwa [zfp kB] at h
theorem Cells.part {b off:Nat}{pre vs post:List Value}(h:Cells I loc b 0 (pre++vs++post))(ho:off=pre.length):Cells I loc b off vs:=fun j u hu=>by
 subst ho;have hj:j<vs.length:=(jc.1 hu).1;have:=h (pre.length+j) u (by rw [jn,OI kB,Bh,AB hj];exact hu);rwa [Oc] at this
theorem zi9 {t t':TypeId}{k k':IntKind}{a b:Int}{q:Nat}(hx:Qv S E x=some (.int k a))(hy:Qv S E y=some (.int k' b))(h0:0<=b)(hq:min b.toNat k.bits=q):QV C S E I loc ⟨dst,.binOp .shr t x y t',ty,pos,af,gd⟩ (.int k (a.fdiv (2^q))):=
 .of kC fun ac w ha hg hc _=>by
  simp only [execOp,Qi ha hg hc hx,Qi ha hg hc hy,jg,ZH,Result.andThen,binOp,Op.shift,ja (show ¬b<0 by omega),hq,jl]
theorem zhr {f:FuncId}{fn:Func}{t tr e size la ca lb cb:Nat}{a b:Nat}{oa ob:Nat}{ca' cb':Array Value}{ta tb:TypeId}{tl:Array TypeId}(he:Qv [] E z=some (.func (.func f) #[] #[]))(hx:Qv [] E x=some (.slice (some ⟨a,oa,none⟩) la ca))(hy:Qv [] E y=some (.slice (some ⟨b,ob,none⟩) lb cb))
  (hf:C.P.funcs[f]? =some fn)(hname:(fn.name== "runtime.NumGoroutine")=false)(hbody:fn.body.isNone=true)(hn:Extern.findNext fn=none)(hfi:Extern.find fn=some (Extern.SlicesOverlaps.overlaps #[t,t] #[tr]))(hT:SlT C.P t e size)
  (hne:a≠b)(ha':(a,Obj.cells ca' ta (0,0))∈loc)(hb':(b,Obj.cells cb' tb (0,0))∈loc)(hcb:cb'.size≠0)(hG:gd=none)(hN:Nat.blt d C.N=true)
  (h:XO C Q ops rest [] ((d,.bool false)::E) I loc):XO C Q ops (⟨some d,.call ⟨.value z, #[x,y],tl⟩,ty,pos,af,gd⟩::rest) [] E I loc:=
 Ya hG kC fun ac w ha hw=>by
  obtain ⟨ht,i,hi,hsz⟩:=hT;have h1:=hw.own _ _ ha';have h2:=hw.own _ _ hb';have hov:=Lib.run_overlaps_apart (P:=C.P) w t tr e ht size (fun w=>by rw [run_sizeOf hi,hsz]) ⟨a,oa,none⟩ ⟨b,ob,none⟩ la ca lb cb hne ta tb ca'.size cb'.size (by simp [World.shape?,h1]) (by simp [World.shape?,h2]) hcb (by simp [World.frozen?,h1]) (by simp [World.frozen?,h1])
  have hrun:(execOp ac.eval ⟨some d,.call ⟨.value z, #[x,y],tl⟩,ty,pos,af,gd⟩).run C.P w= .ok (.value (.bool false)) w:=by
   have e1:=Qi (S:=[]) ha trivial rfl he;have e2:=Qi (S:=[]) ha trivial rfl hx;have e3:=Qi (S:=[]) ha trivial rfl hy;simp only [execOp,resolve,j6,jx,Oo,e1,e2,e3,Deferred.ofValue,jg,jl,Result.andThen,invoke];rw [show (#[Value.slice (some ⟨a,oa,none⟩) la ca,Value.slice (some ⟨b,ob,none⟩) lb cb]:Array Value)= #[]++ #[Value.slice (some ⟨a,oa,none⟩) la ca,Value.slice (some ⟨b,ob,none⟩) lb cb] from U];simp only [Array.empty_append,Array.append_empty,run_callFunc_extern hf hname hbody hn hfi,hov,Result.andThen]
  rw [hrun,Oq];exact h _ _ (ha.put hN _) trivial hw
theorem zgX {L R:Loc}{p:Nat×Obj}:Yu (p::(L++R)) (L++[p]) R:=by
 induction L with
 | nil=>exact .cons .here .nil
 | cons q l ih=>exact .cons (.there .here) ih
theorem zb1 {i:Nat}{oi:Oper}{fuel:Nat}{listed:Array Bool}(hi:ops[i]? =some oi){a:Act}{w:World}(ha:Kf C.N C.D E a)(hg:KI S a)(hw:St C.g I C.H loc w)
  (h:XO C (fun e a w=>match e with | .normal=>St C.g I0 C.H loc0 w/\Vj C.r C.P .any ops Q (fun w=>St C.g I0 C.H loc0 w) fuel (listed.setIfInBounds i true) a w | e=>Q e a w) ops [oi] S E I loc):
  wpOpIn (FR C.r) 0 C.P ops Q i (fun a' w'=>St C.g I0 C.H loc0 w'/\Vj C.r C.P .any ops Q (fun w=>St C.g I0 C.H loc0 w) fuel (listed.setIfInBounds i true) a' w') a w:=by
 have:=h a w ha hg hw;simp only [wpListIn] at this;unfold wpOpIn;simp only [hi];split
 ·rename_i hwt;simp only [hwt,Oj] at this;unfold Oper.wpIn at*;refine ⟨fun _ _=>trivial,?_⟩;have h2:=this.2;generalize (oi.semAt (FR C.r).round a.eval).run C.P w=q at*
  cases q with
  | ok n w'=>cases n<;>exact h2
  | halt x w'=>cases x<;>exact h2
 ·rename_i hwt;simp only [hwt] at this;exact this
theorem Wn (i j k:Nat){oi oj ok:Oper}{fuel:Nat}{listed:Array Bool}(hi:ops[i]? =some oi)(hj:ops[j]? =some oj)(hk:ops[k]? =some ok)(hr:Region.ready .any ops listed=[i,j,k])
  (h1:XO C (fun e a w=>match e with | .normal=>St C.g I0 C.H loc0 w/\Vj C.r C.P .any ops Q (fun w=>St C.g I0 C.H loc0 w) fuel (listed.setIfInBounds i true) a w | e=>Q e a w) ops [oi] S E I loc)
  (h2:XO C (fun e a w=>match e with | .normal=>St C.g I0 C.H loc0 w/\Vj C.r C.P .any ops Q (fun w=>St C.g I0 C.H loc0 w) fuel (listed.setIfInBounds j true) a w | e=>Q e a w) ops [oj] S E I loc)
  (h3:XO C (fun e a w=>match e with | .normal=>St C.g I0 C.H loc0 w/\Vj C.r C.P .any ops Q (fun w=>St C.g I0 C.H loc0 w) fuel (listed.setIfInBounds k true) a w | e=>Q e a w) ops [ok] S E I loc):XD C Q ops I0 loc0 (fuel+1) listed S E I loc:=by
 intro a w ha hg hw;refine ⟨(fun h0=>by rw [hr] at h0;cases h0),fun q hq=>?_⟩;rw [hr] at hq;rcases jp.1 hq with e | hq
 ·subst e;exact zb1 hi ha hg hw h1
 ·rcases jp.1 hq with e | hq
  ·subst e;exact zb1 hj ha hg hw h2
  ·obtain rfl:=jA.1 hq;exact zb1 hk ha hg hw h3
theorem zqU (i:Nat){d:Nat}{v:Value}{fuel j dj:Nat}{want:Bool}{oj:Oper}{listed:Array Bool}{op:Op}(hi:ops[i]? =some ⟨some d,op,ty,pos,af,some (j,want)⟩)(hj:ops[j]? =some oj)(hd:oj.dst=some dj)(hlk:Jl E dj=some (.bool want))
  (hv:QV C [] E I0 loc0 ⟨some d,op,ty,pos,af,none⟩ v)(hN:Nat.blt d C.N=true)
  (hs:Region.noSelect ops=true)(hfr:Region.free .any ops listed i=true)(hr:(Region.ready .any ops listed).contains i=true)(hQ:WS Q)(hI:HLe I0 I)(hl:KE loc0 loc)
  (h:XD C Q ops I0 loc0 fuel (listed.setIfInBounds i true) [] ((d,v)::E) I loc):XD C Q ops I0 loc0 (fuel+1) listed [] E I loc:=by
 intro a w ha hg hw;have hp:=ha.put hN v;refine UZ (v:=v) hi (fun c e=>hv.1 c e) (BG hs) (fun c a w=>hQ c a d _ w) fuel listed a w (B4 hi hfr) (by simpa using hr) ?_ ((hw.mono hI).subL hl) (h _ _ hp trivial hw);have hG:Zv ops [(true,[])] E ⟨some d,op,ty,pos,af,some (j,want)⟩:=.some U hj hd (by simpa [WO,zgj] using hlk) kK;have hwt:=hG.wanted ha (show KI [(true,[])] a from ⟨(fun _ _ e=>by cases e),trivial⟩);exact .inl ⟨by rw [hwt];rfl,fun w' hw'=>hv.2 a w' ha trivial rfl hw'⟩
theorem zw (i dj:Nat){d:Nat}{v:Value}{fuel j:Nat}{want:Bool}{oj:Oper}{listed:Array Bool}{op:Op}(hi:ops[i]? =some ⟨some d,op,ty,pos,af,some (j,want)⟩)(hv:QV C [] E I0 loc0 ⟨some d,op,ty,pos,af,none⟩ v)(hI:HLe I0 I)(h:XD C Q ops I0 loc0 fuel (listed.setIfInBounds i true) [] ((d,v)::E) I loc)(hj:ops[j]? =some oj:=by exact U)(hd:oj.dst=some dj:=by exact U)(hlk:Jl E dj=some (.bool want):=by exact U)(hN:Nat.blt d C.N=true:=by exact U)
  (hs:Region.noSelect ops=true:=by kernel_rfl)(hfr:Region.free .any ops listed i=true:=by kernel_rfl)(hr:(Region.ready .any ops listed).contains i=true:=by kernel_rfl)(hQ:WS Q:=by first | exact zmh | (repeat (first | exact np_body | with_reducible refine np_then ?_ | with_reducible refine np_block ?_)))(hl:KE loc0 loc:=by repeat (first | exact .refl | exact Yb | refine .keep ?_ | refine .drop ?_ | refine Zp ?_)):XD C Q ops I0 loc0 (fuel+1) listed [] E I loc:=zqU i hi hj hd hlk hv hN hs hfr hr hQ hI hl h
end
def JK (a b:Int):Int:=IntKind.i64.wrap ((BitVec.ofInt 64 a&&& BitVec.ofInt 64 b).toNat:Int)
def orI (a b:Int):Int:=IntKind.i64.wrap ((BitVec.ofInt 64 a||| BitVec.ofInt 64 b).toNat:Int)
def zdS (a b:Int):Int:=IntKind.i64.wrap ((BitVec.ofInt 64 a&&& ~~~(BitVec.ofInt 64 b)).toNat:Int)
section
variable {C:Cx} {Q:Exit->Act->World->Prop} {E E':Env} {I I':Qt} {loc loc' L R:Loc} {ops:Array Oper} {rest:List Oper} {S:GS}
variable {dst:Option Tmp} {d:Nat} {ty:TypeId} {pos:String} {af:Array Edge} {gd:Option (Nat×Bool)} {x y z:Operand} {a b:Int}
theorem Uu {t t':TypeId}(hx:Qv S E x=some (.int .i64 a))(hy:Qv S E y=some (.int .i64 b)):QV C S E I loc ⟨dst,.binOp .and t x y t',ty,pos,af,gd⟩ (.int .i64 (JK a b)):=
 .of kC fun ac w ha hg hc _=>by
  simp only [execOp,Qi ha hg hc hx,Qi ha hg hc hy,jg,ZH,Result.andThen,binOp,Bn,OF,j2,Op.intBits,jl,JK,IntKind.bits];rfl
theorem zEF {t t':TypeId}(hx:Qv S E x=some (.int .i64 a))(hy:Qv S E y=some (.int .i64 b)):QV C S E I loc ⟨dst,.binOp .or t x y t',ty,pos,af,gd⟩ (.int .i64 (orI a b)):=
 .of kC fun ac w ha hg hc _=>by
  simp only [execOp,Qi ha hg hc hx,Qi ha hg hc hy,jg,ZH,Result.andThen,binOp,Bn,OF,j2,Op.intBits,jl,orI,IntKind.bits];rfl
theorem zbj {t t':TypeId}(hx:Qv S E x=some (.int .i64 a))(hy:Qv S E y=some (.int .i64 b)):QV C S E I loc ⟨dst,.binOp .andNot t x y t',ty,pos,af,gd⟩ (.int .i64 (zdS a b)):=
 .of kC fun ac w ha hg hc _=>by
  simp only [execOp,Qi ha hg hc hx,Qi ha hg hc hy,jg,ZH,Result.andThen,binOp,Bn,OF,j2,Op.intBits,jl,zdS,IntKind.bits];rfl
theorem zaA {t t':TypeId}{k k':IntKind}(hx:Qv S E x=some (.int k a))(hy:Qv S E y=some (.int k' b))(h0:ZS S=true->0<=b):QV C S E I loc ⟨dst,.binOp .shl t x y t',ty,pos,af,gd⟩ (.int k (k.wrap (a*2^(min b.toNat k.bits)))):=
 .of kC fun ac w ha hg hc _=>by
  have:=h0 hc;simp only [execOp,Qi ha hg hc hx,Qi ha hg hc hy,jg,ZH,Result.andThen,binOp,Op.shift,ja (show ¬b<0 by omega),jl]
theorem zfg {t:TypeId}(hx:Qv S E x=some (.int .i64 a)):QV C S E I loc ⟨dst,.unOp .neg t x,ty,pos,af,gd⟩ (.int .i64 (IntKind.i64.wrap (0-a))):=
 .of kC fun ac w ha hg hc _=>by
  simp only [execOp,Qi ha hg hc hx];rfl
def K2 (a b:Int):Int:=if b<a then b else a
def zui (a b:Int):Int:=if b>a then b else a
theorem zr5 {k:IntKind}{ats:Array TypeId}(hx:Qv S E x=some (.int k a))(hy:Qv S E y=some (.int k b)):QV C S E I loc ⟨dst,.call ⟨.builtin .min, #[x,y],ats⟩,ty,pos,af,gd⟩ (.int k (K2 a b)):=
 .of kC fun ac w ha hg hc hw=>by
  simp only [execOp,resolve,j6,jx,Oo,Qi ha hg hc hx,Qi ha hg hc hy,jg,jl,Result.andThen,invoke,builtin];rfl
theorem Vl {k:IntKind}{ats:Array TypeId}(hx:Qv S E x=some (.int k a))(hy:Qv S E y=some (.int k b)):QV C S E I loc ⟨dst,.call ⟨.builtin .max, #[x,y],ats⟩,ty,pos,af,gd⟩ (.int k (zui a b)):=
 .of kC fun ac w ha hg hc hw=>by
  simp only [execOp,resolve,j6,jx,Oo,Qi ha hg hc hx,Qi ha hg hc hy,jg,jl,Result.andThen,invoke,builtin];rfl
theorem Un {t e n size:Nat}{k:IntKind}{cs:List Value}{i:Int}{v:Value}(hx:Qv S E x=some (.agg cs.toArray))(hy:Qv S E y=some (.int k i))(hT:ArT C.P t n e size)(hS:ScT C.P e)(hb:ZS S=true->0<=i/\i<(n:Int))(hv:ZS S=true->cs[i.toNat*size]? =some v):
  QV C S E I loc ⟨dst,.index t x y,ty,pos,af,gd⟩ v:=
 .of kC fun ac w ha hg hc _=>by
  obtain ⟨h1,j,h2,h3⟩:=hT;have h4:cs.toArray[i.toNat*size]? =some v:=(by simpa using hv hc);simp only [execOp,Qi ha hg hc hx,Qi ha hg hc hy,Instr.index,asIntOf,jg,jl,jK h1,Result.andThen,jb (hb hc),run_sizeOf h2,h3,part,Vc hS,jB,j2,h4]
theorem Wd {t e n size:Nat}{k:IntKind}{cs:List Value}{i:Int}(hx:Qv S E x=some (.agg cs.toArray))(hy:Qv S E y=some (.int k i))(hT:ArT C.P t n e size)(hA:AgT C.P e size)(hb:ZS S=true->0<=i/\i<(n:Int)):
  QV C S E I loc ⟨dst,.index t x y,ty,pos,af,gd⟩ (.agg ((cs.drop (i.toNat*size)).take size).toArray):=
 .of kC fun ac w ha hg hc _=>by
  obtain ⟨h1,j,h2,h3⟩:=hT;have h5:cs.toArray.extract (i.toNat*size) (i.toNat*size+size)=((cs.drop (i.toNat*size)).take size).toArray:=(by simp);simp only [execOp,Qi ha hg hc hx,Qi ha hg hc hy,Instr.index,asIntOf,jg,jl,jK h1,Result.andThen,jb (hb hc),run_sizeOf h2,h3,part,Y6 hA,Oj,h5]
end
section
variable {P:Program} {fn:Func} {R:Ending->World->Prop} {N:Nat} {g:World} {I H:Qt} {loc:Loc} {E:Env} {r:Option Nat}
theorem Y3 {t tt n b:Nat}{vs:List Value}(hr:fn.results= #[.cell t tt])(hv:Jl E t=some (.pointer (some ⟨b,0,none⟩)))(hA:AgT P tt n)(hc:Cells I loc b 0 vs)(hn:vs.length=n)(h:∀ w,St g I H loc w->R (.returned (.agg vs.toArray)) w):
  At ⟨P,r,N,[],g,H⟩ (bodyPost P fn R) .ret E I loc:=fun a w ha hw=>
 ⟨ha.defers,.agg vs.toArray,by
  have e1:=ha.env _ _ hv;rw [Ok] at e1
  have h1:(loadCells ⟨b,0,none⟩ n).run P w= .ok vs.toArray w:=by
   rw [<-hn];exact As w _ _ fun j v hj=>by rw [Yn];exact (hc j v hj).get hw
  have hA':=hA;obtain ⟨_,i,h2,h3⟩:=hA'
  have l1:(loadVar tt ⟨b,0,none⟩).run P w= .ok (.agg vs.toArray) w:=by
   simp only [loadVar,jg,jl,Y6 hA,Result.andThen,Oj,run_sizeOf h2,h3,h1]
  simp only [results,hr]
  simp [e1,asAddr,l1],h w hw⟩
end
theorem JN {P:Program}{w:World}{dd:Nat}{f:Field}{fs:List Field}{cx cy:Array Value}{u v:Value}{c r:Bool}(hn:f.name≠ "_")(h1:(part f.type cx f.offset).run P w= .ok u w)(h2:(part f.type cy f.offset).run P w= .ok v w)
  (hc:(Op.equalIn dd f.type u v).run P w= .ok c w)(hr:(Op.eqFields dd cx cy fs).run P w= .ok r w):(Op.eqFields dd cx cy (f::fs)).run P w= .ok (c&&r) w:=by
 simp only [Op.eqFields,jb hn,jg,h1,h2,hc,Result.andThen,Sem.run_ite]
 cases c with
 | false=>simp
 | true=>simpa using hr
def zcp (P:Program):List Field->Nat->Option (List EqK)
 | [],_=>some []
 | f::fs,k=>if f.name≠ "_" /\f.offset=k then
   match Ka P f.type with
   | some q=>(zcp P fs (k+1)).map (q:: ·)
   | none=>match P.underlying f.type with
    | some (.struct gs)=>if P.stoodInHeld f.type=false then
      match Ut P gs.toList 0,P.info? f.type with
      | some l,some i=>if i.size=l.length then (zcp P fs (k+l.length)).map (l++ ·) else none
      | _,_=>none
     else none
    | _=>none
  else none
def zDV (P:Program)(t:Nat)(ks:List EqK):Prop:=P.underlying t=some (.struct (P.fieldsOf t))/\P.stoodInHeld t=false/\P.eqGuardType P.depth t=false/\zcp P (P.fieldsOf t).toList 0=some ks
theorem Xz:∀ {k1 k2:List EqK} {xs ys:List Value} {b:Bool},JS (k1++k2) xs ys=some b->∃ u1 u2 v1 v2 b1 b2,xs=u1++u2/\ys=v1++v2/\u1.length=k1.length/\v1.length=k1.length/\JS k1 u1 v1=some b1/\JS k2 u2 v2=some b2/\b=(b1&&b2)
 | [],k2,xs,ys,b,h=>⟨[],xs,[],ys,true,b,U,U,U,U,U,h,by simp⟩
 | .int::k1,k2,xs,ys,b,h=>by
  match xs,ys,h with
  | .int k a::xs,.int k' c::ys,h=>
   simp only [OE,JS] at h;split at h
   ·rename_i hk
    cases hr:JS (k1++k2) xs ys with
    | none=>rw [hr] at h;cases h
    | some r=>
     rw [hr] at h;obtain ⟨u1,u2,v1,v2,b1,b2,rfl,rfl,h1,h2,h3,h4,rfl⟩:=Xz hr;refine ⟨.int k a::u1,u2,.int k' c::v1,v2,(a==c&&b1),b2,U,U,by simp [h1],by simp [h2],?_,h4,?_⟩
     ·simp only [JS,jb hk,h3]
     ·simp only [jU] at h;rw [<-h,An]
   ·cases h
 | .str::k1,k2,xs,ys,b,h=>by
  match xs,ys,h with
  | .string a::xs,.string c::ys,h=>
   simp only [OE,JS] at h
   cases hr:JS (k1++k2) xs ys with
   | none=>rw [hr] at h;cases h
   | some r=>
    rw [hr] at h;obtain ⟨u1,u2,v1,v2,b1,b2,rfl,rfl,h1,h2,h3,h4,rfl⟩:=Xz hr;refine ⟨.string a::u1,u2,.string c::v1,v2,(zBk a c&&b1),b2,U,U,by simp [h1],by simp [h2],?_,h4,?_⟩
    ·simp only [JS,h3]
    ·simp only [jU] at h;rw [<-h,An]
 | .bool::k1,k2,xs,ys,b,h=>by
  match xs,ys,h with
  | .bool a::xs,.bool c::ys,h=>
   simp only [OE,JS] at h
   cases hr:JS (k1++k2) xs ys with
   | none=>rw [hr] at h;cases h
   | some r=>
    rw [hr] at h;obtain ⟨u1,u2,v1,v2,b1,b2,rfl,rfl,h1,h2,h3,h4,rfl⟩:=Xz hr;refine ⟨.bool a::u1,u2,.bool c::v1,v2,(a==c&&b1),b2,U,U,by simp [h1],by simp [h2],?_,h4,?_⟩
    ·simp only [JS,h3]
    ·simp only [jU] at h;rw [<-h,An]
theorem Jb {P:Program}{w:World}{t:TypeId}{cs:Array Value}{off:Nat}{v:Value}(h:ScT P t)(hv:cs[off]? =some v):(part t cs off).run P w= .ok v w:=by simp only [part,jg,Vc h,Result.andThen,jB,j2,hv,jl]
theorem JU {P:Program}{w:World}{t:TypeId}{cs:Array Value}{off n:Nat}(h:AgT P t n):(part t cs off).run P w= .ok (.agg (cs.extract off (off+n))) w:=by obtain ⟨i,hi,hs⟩:=h.2;simp only [part,jg,Y6 h,Result.andThen,Oj,run_sizeOf hi,hs,jl]
theorem JV (a b c:List Value)(n m:Nat)(hn:a.length=n)(hm:b.length=m):(a++(b++c)).toArray.extract n (n+m)=b.toArray:=by subst hn;subst hm;apply AS;simp
theorem zfG {P:Program}{w:World}{dd:Nat}{t:TypeId}{q:EqK}(hk:Ka P t=some q){ks:List EqK}{xs ys:List Value}{b:Bool}(he:JS (q::ks) xs ys=some b):
  ∃ u v us vs c r,xs=u::us/\ys=v::vs/\ScT P t/\(Op.equalIn (dd+1) t u v).run P w= .ok c w/\JS ks us vs=some r/\b=(c&&r):=by
 unfold Ka at hk
 cases hu:P.underlying t with
 | none=>rw [hu] at hk;cases hk
 | some td=>
  rw [hu] at hk;cases td<;>simp only [jU,reduceCtorEq] at hk
  case int kk=>
   subst hk
   match xs,ys,he with
   | .int k a::xs,.int k' c::ys,he=>
    simp only [JS] at he;split at he
    ·rename_i hkk;subst hkk
     cases hr:JS ks xs ys with
     | none=>rw [hr] at he;cases he
     | some r=>
      rw [hr] at he;simp only [jU] at he;exact ⟨_,_,xs,ys,(a==c),r,U,U,⟨_,hu,trivial⟩,BH w dd t k kk a c hu,hr,he.symm⟩
    ·cases he
  case string=>
   subst hk
   match xs,ys,he with
   | .string a::xs,.string c::ys,he=>
    simp only [JS] at he
    cases hr:JS ks xs ys with
    | none=>rw [hr] at he;cases he
    | some r=>
     rw [hr] at he;simp only [jU] at he;exact ⟨_,_,xs,ys,_,r,U,U,⟨_,hu,trivial⟩,run_equalIn_string w dd t a c hu,hr,he.symm⟩
  case bool=>
   subst hk
   match xs,ys,he with
   | .bool a::xs,.bool c::ys,he=>
    simp only [JS] at he
    cases hr:JS ks xs ys with
    | none=>rw [hr] at he;cases he
    | some r=>
     rw [hr] at he;simp only [jU] at he;exact ⟨_,_,xs,ys,(a==c),r,U,U,⟨_,hu,trivial⟩,Bi w dd t a c hu,hr,he.symm⟩
theorem Vd {P:Program}{w:World}(dd:Nat):∀ (fs:List Field) (ks:List EqK) (k:Nat) (pre xs pre' ys:List Value) (b:Bool),zcp P fs k=some ks->pre.length=k->pre'.length=k->JS ks xs ys=some b->
  (Op.eqFields (dd+2) (pre++xs).toArray (pre'++ys).toArray fs).run P w= .ok b w
 | [],ks,k,pre,xs,pre',ys,b,hf,_,_,he=>by
  simp only [zcp,jU] at hf;subst hf;cases xs<;>cases ys<;>simp only [JS] at he<;>first | (cases he;rfl) | cases he
 | f::fs,ks,k,pre,xs,pre',ys,b,hf,hp,hp',he=>by
  simp only [zcp] at hf;split at hf
  ·rename_i hn
   cases hk:Ka P f.type with
   | some q=>
    rw [hk] at hf;simp only [jY] at hf;obtain ⟨l,hl,rfl⟩:=hf;obtain ⟨u,v,us,vs,c,r,rfl,rfl,hs,hc,hr,rfl⟩:=zfG (w:=w) (dd:=dd+1) hk he;refine JN hn.1 (Jb hs (by rw [hn.2,<-hp];simp)) (Jb hs (by rw [hn.2,<-hp'];simp)) hc ?_;have:=Vd (P:=P) (w:=w) dd fs l (k+1) (pre++[u]) us (pre'++[v]) vs r hl (by simp [hp]) (by simp [hp']) hr;simpa using this
   | none=>
    rw [hk] at hf;simp only at hf
    cases hu:P.underlying f.type with
    | none=>rw [hu] at hf;cases hf
    | some td=>
     rw [hu] at hf;cases td<;>simp only [reduceCtorEq] at hf;rename_i gs;split at hf
     ·rename_i hst
      cases hfl:Ut P gs.toList 0 with
      | none=>rw [hfl] at hf;simp at hf
      | some l2=>
       cases hin:P.info? f.type with
       | none=>rw [hfl,hin] at hf;simp at hf
       | some i=>
        rw [hfl,hin] at hf;simp only at hf;split at hf
        ·rename_i hsz;simp only [jY] at hf;obtain ⟨l,hl,rfl⟩:=hf;obtain ⟨u1,u2,v1,v2,b1,b2,rfl,rfl,hu1,hv1,h1,h2,rfl⟩:=Xz he;have hag:AgT P f.type l2.length:=⟨⟨_,hu,trivial⟩,i,hin,hsz⟩;have hfo:P.fieldsOf f.type=gs:=(by unfold Program.fieldsOf;rw [hu]);refine JN (u:=.agg u1.toArray) (v:=.agg v1.toArray) hn.1 ?_ ?_ ?_ ?_
         ·rw [JU hag,hn.2,JV pre u1 u2 k l2.length hp hu1]
         ·rw [JU hag,hn.2,JV pre' v1 v2 k l2.length hp' hv1]
         ·rw [Ae w (dd+1) f.type _ _ (by rw [hfo];exact hu) hst,hfo];have:=UQ (P:=P) (w:=w) dd gs.toList l2 0 [] u1 [] v1 b1 hfl U U h1;simpa using this
         ·have:=Vd (P:=P) (w:=w) dd fs l (k+l2.length) (pre++u1) u2 (pre'++v1) v2 b2 hl (by simp [hp,hu1]) (by simp [hp',hv1]) h2;simpa [jn] using this
        ·cases hf
     ·cases hf
  ·cases hf
variable {C:Cx} {Q:Exit->Act->World->Prop} {E E':Env} {I I':Qt} {loc loc' L R:Loc} {ops:Array Oper} {rest:List Oper} {S:GS}
variable {dst:Option Tmp} {d:Nat} {ty:TypeId} {pos:String} {af:Array Edge} {gd:Option (Nat×Bool)} {x y z:Operand}
theorem zgV {t t':TypeId}{ks:List EqK}{us vs:List Value}{b:Bool}(hx:Qv S E x=some (.agg us.toArray))(hy:Qv S E y=some (.agg vs.toArray))(hT:zDV C.P t ks)(h:JS ks us vs=some b):QV C S E I loc ⟨dst,.binOp .eql t x y t',ty,pos,af,gd⟩ (.bool b):=
 .of kC fun a w ha hg hc _=>by
  have:=Vd (P:=C.P) (w:=w) 9997 _ _ 0 [] us [] vs b hT.2.2.2 U U h;simp only [j8] at this;simp only [execOp,Qi ha hg hc hx,Qi ha hg hc hy,jg,A6 w _ _ _ _ _ _ hT.2.2.1,Result.andThen,run_eql_struct,Ae w 9999 t _ _ hT.1 hT.2.1,this,jl]
theorem zdt {t t':TypeId}{ks:List EqK}{us vs:List Value}{b:Bool}(hx:Qv S E x=some (.agg us.toArray))(hy:Qv S E y=some (.agg vs.toArray))(hT:zDV C.P t ks)(h:JS ks us vs=some b):QV C S E I loc ⟨dst,.binOp .neq t x y t',ty,pos,af,gd⟩ (.bool (!b)):=
 .of kC fun a w ha hg hc _=>by
  have:=Vd (P:=C.P) (w:=w) 9997 _ _ 0 [] us [] vs b hT.2.2.2 U U h;simp only [j8] at this;simp only [execOp,Qi ha hg hc hx,Qi ha hg hc hy,jg,A6 w _ _ _ _ _ _ hT.2.2.1,Result.andThen,run_neq_struct,Ae w 9999 t _ _ hT.1 hT.2.1,this,jl]
end
section
open Go
def mk (ms:List Nat):List Deferred:=ms.map fun b=>{target:=.collected b,args:= #[]}
def MB:List Nat->Loc
 | []=>[]
 | b::ms=>MB ms++[(b,.deferred (some []))]
def zy9 (C:Cx)(M:List Nat->Env->Qt->Loc->Prop):Act->World->Prop:=fun a w=>∃ ms E I loc,M ms E I loc/\Kf C.N (mk ms) E a/\St C.g I C.H loc w
section
variable {P:Program} {r:Option Nat} {N:Nat} {g:World} {H:Qt} {Q:Exit->Act->World->Prop} {E E':Env} {I I':Qt} {loc loc' L R:Loc} {ms:List Nat}
theorem zkg {x y:Code}(T:Env)(_hT:Sub T E)(M:Env->Loc->List Nat->Env->Qt->Loc->Prop)(h1:X ⟨P,r,N,mk ms,g,H⟩ (Exit.then (zy9 ⟨P,r,N,[],g,H⟩ (M T loc)) Q) x E I loc)
  (h2:∀ ms E I loc',M T loc ms E I loc'->X ⟨P,r,N,mk ms,g,H⟩ Q y E I loc'):X ⟨P,r,N,mk ms,g,H⟩ Q (.seq x y) E I loc:=fun a w ha hw=>
 wpIn_seq (Aj (h1 a w ha hw) fun e a' w' hq=>by
  cases e with
  | normal=>obtain ⟨ms',E',I',loc',hM,hf,hs⟩:=hq;exact h2 ms' E' I' loc' hM _ _ hf hs
  | _=>exact hq)
theorem zc5 {M:List Nat->Env->Qt->Loc->Prop}{C':Cx}(hN:C'.N=N)(hg:C'.g=g)(hH:C'.H=H)(E':Env)(loc':Loc)(hM:M ms E' I loc')(hE:Sub E' E)(hs:KE loc' loc):At ⟨P,r,N,mk ms,g,H⟩ (Exit.then (zy9 C' M) Q) .normal E I loc:=
 fun _ _ ha hw=>⟨ms,E',I,loc',hM,by rw [hN];exact ha.sub hE,by rw [hg,hH];exact hw.dropTo hs⟩
theorem zn {M:List Nat->Env->Qt->Loc->Prop}{C':Cx}{E':Env}{loc':Loc}(hN:C'.N=N:=by exact U)(hg:C'.g=g:=by exact U)(hH:C'.H=H:=by exact U)(hE:Sub E' E:=by repeat (first | exact .nil | refine .cons U ?_))(h:M ms E' I loc')(hs:KE loc' loc:=by repeat (first | exact .refl | refine .keep ?_ | refine .drop ?_)):At ⟨P,r,N,mk ms,g,H⟩ (Exit.then (zy9 C' M) Q) .normal E I loc:=zc5 hN hg hH E' loc' h hE hs
theorem zd {M:List Nat->Env->Qt->Loc->Prop}{C':Cx}{E':Env}{loc':Loc}(hN:C'.N=N:=by exact U)(hg:C'.g=g:=by exact U)(hH:C'.H=H:=by exact U)(hE:Sub E' E:=by repeat (first | exact .nil | refine .cons U ?_))(h:M ms E' I loc')(hs:KE loc' loc:=by repeat (first | exact .refl | exact QS | refine Zr ?_ | refine .drop ?_ | refine Zp ?_)):At ⟨P,r,N,mk ms,g,H⟩ (Exit.then (zy9 C' M) Q) .normal E I loc:=zc5 hN hg hH E' loc' h hE hs
theorem zex {M:List Nat->Env->Qt->Loc->Prop}{C':Cx}(hN:C'.N=N)(hg:C'.g=g)(hH:C'.H=H)(E':Env)(loc' l:Loc)(hM:M ms E' I loc')(hE:Sub E' E)(hp:loc'.Perm l)(hs:KE l loc):At ⟨P,r,N,mk ms,g,H⟩ (Exit.then (zy9 C' M) Q) .normal E I loc:=
 fun _ _ ha hw=>⟨ms,E',I,loc',hM,by rw [hN];exact ha.sub hE,by
  rw [hg,hH];have h1:=hw.dropTo hs
  exact h1.perm (fun p=>hp.mem_iff) ((hp.map (·.1)).nodup_iff.2 h1.nodup)⟩
theorem Ud {c:Code}(T:Env)(_hT:Sub T E)(J:Env->Loc->Nat->List Nat->Env->Qt->Loc->Prop)(m0:Nat)(E0:Env)(I0:Qt)(loc0:Loc)(h0:J T loc m0 ms E0 I0 loc0)(hE:Sub E0 E)(hI:HLe I0 I)(hl:loc0=loc)
  (round:∀ m ms E I loc',J T loc m ms E I loc'->X ⟨P,r,N,mk ms,g,H⟩ (Exit.then (zy9 ⟨P,r,N,[],g,H⟩ fun ms E I loc'=>∃ m',m'<m/\J T loc m' ms E I loc') Q) c E I loc'):X ⟨P,r,N,mk ms,g,H⟩ Q (.loop c) E I loc:=by
 classical
 intro a w ha hw;let R:Nat->Act->World->Prop:=fun m a w=>∃ ms E I loc',J T loc m ms E I loc'/\Kf N (mk ms) E a/\St g I H loc' w
 have least:∀ a w,(∃ m,R m a w)->∃ m,R m a w/\∀ m',R m' a w->m<=m':=fun a w ⟨m,h⟩=>by
  induction m using Nat.strongRecOn with
  | _ m ih=>
   by_cases h':∃ m',m'<m/\R m' a w
   ·obtain ⟨m',hlt,hm⟩:=h';exact ih m' hlt hm
   ·exact ⟨m,h,fun m' hm=>Br fun hlt=>h' ⟨m',hlt,hm⟩⟩
 let μ:Act->World->Nat:=fun a w=>if h:∃ m,R m a w then Classical.choose (least a w h) else 0
 have hμ:∀ a w,(∃ m,R m a w)->R (μ a w) a w:=fun a w h=>by simp only [μ,BL h];exact (ON (least a w h)).1
 have hle:∀ m a w,R m a w->μ a w<=m:=fun m a w h=>by
  have h':∃ m,R m a w:=⟨m,h⟩;simp only [μ,BL h'];exact (ON (least a w h')).2 m h
 refine wpIn_loop (fun a w=>∃ m,R m a w) μ ⟨m0,ms,E0,I0,loc0,h0,ha.sub hE,hl ▸ hw.mono hI⟩ fun a w h=>?_;obtain ⟨ms1,E1,I1,loc1,hJ,hf,hs⟩:=hμ a w h;refine Aj (round _ _ _ _ _ hJ a w hf hs) fun e a' w' hq=>?_
 cases e with
 | normal=>
  obtain ⟨ms2,E2,I2,loc2,⟨m',hlt,hJ'⟩,hf',hs'⟩:=hq;exact ⟨⟨m',ms2,E2,I2,loc2,hJ',hf',hs'⟩,AK (hle m' a' w' ⟨ms2,E2,I2,loc2,hJ',hf',hs'⟩) hlt⟩
 | _=>exact hq
theorem UA {α:Type}{gop:Operand}{p:Nat}{assign body:Code}{f:FuncId}{cap:List Value}{K:Loc}{enc:α->Value}{xs:List α}
  (Jc:List α->Qt->Loc->Prop)(Jx:Code->List α->Qt->Loc->Prop)(Ja:List α->α->Env->Qt->Loc->Prop)
  (hg:Qv [] E gop=some (.func (.func f) #[] cap.toArray))(hF:Fun P f)(hseq:zEc P f cap I K enc xs)(hp:Nat.blt p N=true)(h0:Jc [] I L)
  (hass:∀ l pre x I' loc' H1,pre++[x]<+:xs->HLe I I'->Jc pre I' loc'->X ⟨P,some l,N,[],g,H1⟩ (Exit.then (Met ⟨P,some l,N,[],g,H1⟩ fun E2 I2 loc2=>HLe I' I2/\Ja pre x E2 I2 loc2) (fun _ _ _=>False)) assign ((p,enc x)::E) I' loc')
  (hbody:∀ l pre x E2 I2 loc2 H2,pre++[x]<+:xs->HLe I I2->Ja pre x E2 I2 loc2->X ⟨P,some l,N,[],g,H2⟩ (zb9 g H2 (fun q I3 loc3=>HLe I2 I3/\Jc q I3 loc3) (fun c q I3 loc3=>HLe I2 I3/\Jx c q I3 loc3) (pre++[x])) body E2 I2 loc2)
  (hdone:∀ bd I' loc',HLe I I'->Jc xs I' loc'->At ⟨P,none,N,mk (bd::ms),g,H⟩ Q .normal E I' (loc'++MB (bd::ms)))
  (hstop:∀ c bd pre I' loc',HLe I I'->pre<+:xs->Jx c pre I' loc'->X ⟨P,none,N,mk (bd::ms),g,H⟩ Q c E I' (loc'++MB (bd::ms))):
  X ⟨P,none,N,mk ms,g,H⟩ Q (.rangeFunc gop #[p] assign body) E I (K++(L++MB ms)):=by
 intro a w ha hw
 have back:∀ {I':Qt} {loc':Loc} {bd:Nat} {w':World},St g I' (Vz H (MB ms)) (loc'++[(bd,.deferred (some []))]) w'->St g I' H (loc'++MB (bd::ms)) w':=fun {I' loc' bd w'} h=>by
  have h1:=St.unhide ((hw.rest QO).rest QO) h;refine h1.perm (fun p=>?_) ?_
  ·simp only [MB,jv];constructor
   ·rintro (h | h | h)
    ·exact .inl (.inl h)
    ·exact .inr h
    ·exact .inl (.inr h)
   ·rintro ((h | h) | h)
    ·exact .inl h
    ·exact .inr (.inr h)
    ·exact .inr (.inl h)
  ·have hn:=h1.nodup
   have hpm:(loc'++MB (bd::ms)).Perm (loc'++[(bd,.deferred (some []))]++MB ms):=by
    rw [jn];exact (List.Perm.refl loc').append OP
   exact (hpm.map (·.1)).nodup_iff.2 hn
 refine zaP (K:=K) (P:=P) (N:=N) (D:=mk ms) (g:=g) (H:=Vz H (MB ms)) (Q:=Q) Jc Jx Ja hg hF hseq hp h0 hass hbody ?_ ?_ a w ha (show St g I (Vz H (MB ms)) (K++L) w from (show St g I H ((K++L)++MB ms) w by rw [jn];exact hw).hideR)
 ·intro bd I' loc' hI hJ a' w' ha' hw';exact hdone bd I' loc' hI hJ a' w' ha' (back hw')
 ·intro c bd pre I' loc' hI hpre hJ a' w' ha' hw';exact hstop c bd pre I' loc' hI hpre hJ a' w' ha' (back hw')
theorem zaB {fn:Func}{R:Ending->World->Prop}{tmps:Array Value}{v:Value}:∀ (ms:List Nat) {L:Loc} {w:World},St g I H (L++MB ms) w->(∀ w,St g I H L w->(results fn tmps).run P w= .ok v w/\R (.returned v) w)->
  LeavesInM Fence.wide 0 P fn tmps R (mk ms) .returning w
 | [],L,w,hw,h=>by
  have hw:St g I H L w:=(by simpa [MB] using hw);exact ⟨v,h w hw⟩
 | b::ms,L,w,hw,h=>by
  have hu:Upd (L++MB (b::ms)) b (.deferred (some [])) (.deferred none) (L++(MB ms++[(b,.deferred none)])):=QH (QH .here);have hb:=hw.own _ _ hu.mem;have hs:=hw.putObj hu;refine ⟨by simp,.inl ⟨b,_,U,run_takeDeferred hb,?_⟩⟩;exact zaB ms (L:=L) (hs.subL (Zr QS)) h
theorem Ye {fn:Func}{R:Ending->World->Prop}{v:Value}(hv:∀ a,Kf N (mk ms) E a->∀ w,St g I H L w->(results fn a.tmps).run P w= .ok v w)(h:∀ w,St g I H L w->R (.returned v) w):
  At ⟨P,r,N,mk ms,g,H⟩ (bodyPostM Fence.wide 0 P fn R) .ret E I (L++MB ms):=fun a w ha hw=>by
 show LeavesInM _ _ _ _ _ _ _ _ _;rw [ha.defers];exact zaB ms hw fun w' hw'=>⟨hv a ha w' hw',h w' hw'⟩
theorem zay {f:FuncId}{fn:Func}{c:Code}{args:List Value}{R:Ending->World->Prop}{w:World}(hf:P.funcs[f]? =some fn)(hb:fn.body=some c){N:Nat}(hN:fn.ntmps=N)
  (hlen:Nat.ble args.length N=true)(hw:St g I H loc w)(h:X ⟨P,none,N,mk [],g,H⟩ (bodyPostM Fence.wide 0 P fn R) c (zr4 0 args) I (loc++MB [])):Calls P f args.toArray w R:=
 zsJ hf hb hN hlen hw (by simpa [MB,mk] using h)
end
section
variable {g:World} {I I' H:Qt} {loc loc' L R:Loc} {w w':World}
theorem St.lend (h:St g I H L w):∃ I',HLe I I'/\(∀ b o,(b,o)∈L->I' b=some o)/\St g I' H [] w:=by obtain ⟨I',h1,h2,h3⟩:=h.freezeAll;exact ⟨I',h1,h3,h2⟩
theorem St.unlend (h:St g I H L w)(h':St g I' H [] w')(hI:HLe I I')(hL:∀ b o,(b,o)∈L->I' b=some o):St g I H L w' where
 os:=h'.os
 tape:=h'.tape
 out:=h'.out
 size:=h'.size
 imm:=fun b o hb=>h'.imm b o (hI b o hb)
 frm:=h'.frm
 own:=fun b o hb=>h'.imm b o (hL b o hb)
 sepIH:=h.sepIH
 sepIL:=h.sepIL
 nodup:=h.nodup
theorem zke.ofV {P:Program}{f:FuncId}{args:List Value}{v:Value}(h:∀ I',HLe I I'->(∀ b o,(b,o)∈L->I' b=some o)->Zt P f args I' v):zke P f args I L v:=by intro g H w hw;obtain ⟨I',h1,h2,h3⟩:=hw.lend;refine (h I' h1 h2 g H w h3).mono ?_;rintro e w' ⟨rfl,hs⟩;exact ⟨U,hw.unlend hs h1 h2⟩
end
variable {C:Cx} {Q:Exit->Act->World->Prop} {E E':Env} {I I':Qt} {loc loc' L R:Loc} {ops:Array Oper} {rest:List Oper} {S:GS}
variable {dst:Option Tmp} {d:Nat} {ty:TypeId} {pos:String} {af:Array Edge} {gd:Option (Nat×Bool)} {x y z:Operand}
section maps
variable {α β:Type} [DecidableEq α] {ek:α->Value} {ev:β->Value} {m:List (α×β)} {a:α}
def znk (m:List (α×β))(a:α):Nat:=((XT m a 0).map (·.1)).getD m.length
omit [DecidableEq α] in
theorem zeR:∀ (m:List (α×β)) (k i:Nat) (q:α×β),m[i]? =some q->((QX ek ev k m)[i]?).map (fun e=>(e.key,e.born))=some (ek q.1,k+i):=by
 intro m
 induction m with
 | nil=>intro k i q h;simp at h
 | cons p m ih=>
  intro k i q h
  cases i with
  | zero=>simp at h;subst h;simp [QX]
  | succ i=>simp only [QX,Al];rw [ih _ _ _ (by simpa using h)];simp;omega
theorem zj0 {kv vv:Value}:∀ (l:List MapEntry) (i:Nat),(l[i]?).map (·.val)=some vv\/l[i]? =none->l.modify i (fun e=>{e with key:=kv})=l.modify i fun e=>{e with key:=kv,val:=vv}:=by
 intro l
 induction l with
 | nil=>intro i _;simp
 | cons e l ih=>
  intro i hv
  cases i with
  | zero=>simp at hv;simp [hv]
  | succ i=>simp only [List.modify_succ_cons];rw [ih i (by simpa using hv)]
omit [DecidableEq α] in
theorem znN:∀ (m:List (α×β)) (k i:Nat) (q:α×β),m[i]? =some q->((QX ek ev k m)[i]?).map (·.val)=some (ev q.2):=by
 intro m
 induction m with
 | nil=>intro k i q h;simp at h
 | cons p m ih=>
  intro k i q h
  cases i with
  | zero=>simp at h;subst h;simp [QX]
  | succ i=>simp only [QX,Al];exact ih _ _ _ (by simpa using h)
theorem zxm:∀ (m:List (α×β)) (k j:Nat) (c:β),XT m a k=some (j,c)->k<=j:=by
 intro m
 induction m with
 | nil=>intro k j c h;cases h
 | cons p m ih=>
  intro k j c h;unfold XT at h;split at h
  ·simp at h;omega
  ·have:=ih _ _ _ h;omega
theorem zqi:∀ (m:List (α×β)) (k i:Nat) (c:β) (q:α×β),XT m a k=some (k+i,c)->m[i]? =some q->q.2=c:=by
 intro m
 induction m with
 | nil=>intro k i c q h;cases h
 | cons p m ih=>
  intro k i c q h h';unfold XT at h;split at h
  ·simp only [jU,AX] at h;have:i=0:=kB;subst this;simp at h';subst h';exact h.2
  ·cases i with
   | zero=>
    exfalso;have:=zxm m _ _ _ h;omega
   | succ i=>
    refine ih (k+1) i c q ?_ (by simpa using h');rw [h];simp;omega
theorem Xr:∀ (m:List (α×β)) (a:α) (b:β),ZP m a=some b->YM m a b=m
 | [],_,_,h=>by cases h
 | p::m,a,b,h=>by
  unfold ZP at h;unfold YM;split
  ·rename_i e;rw [jb e] at h;cases h;subst e;rfl
  ·rename_i e;rw [ja e] at h;rw [Xr m a b h]
theorem zgN {t k e r:Nat}{zv:Value}(zb:β)(hz:ev zb=zv)(hT:MpT C.P t k e zv)(hK:VR C.P k ek)(hx:Qv [] E x=some (.map (some r)))(hy:Qv [] E y=some (ek a))(hG:gd=none)(hN:Nat.blt d C.N=true)
  (hu:Upd loc r (Z7 ek ev m) (Z7 ek ev (YM m a ((ZP m a).getD zb))) loc')(h:XO C Q ops rest [] ((d,.tuple #[ev ((ZP m a).getD zb),.int .i64 (znk m a:Nat)])::E) I loc'):XO C Q ops (⟨some d,.mapEntry t x y,ty,pos,af,gd⟩::rest) [] E I loc:=
 Ya hG kC fun a' w ha hw=>by
  have hm:=hw.own _ _ hu.mem;have hf:=hK.find ev m a w;have hs:=hw.putObj hu
  have hr:(Instr.mapEntry t (.map (some r)) (ek a)).run C.P w= .ok (.tuple #[ev ((ZP m a).getD zb),.int .i64 (znk m a:Nat)]) (w.putObj r (Z7 ek ev (YM m a ((ZP m a).getD zb)))):=by
   simp only [Instr.mapEntry,jg,jK hT.1,Result.andThen,Yf hm,hK.chk];rw [hf]
   cases hi:XT m a 0 with
   | none=>
    have hg0:ZP m a=none:=(by rw [<-KP m a 0,hi];rfl);have h1:=za3 m a zb 0 hi;simp only [A5,jg,Yc hT.2,Result.andThen,hg0,Option.getD_none];rw [Vk _ hm,h1];simp only [jl,znk,hi,goInt];rw [<-hz];congr 2;simp [Z7,zaI]
   | some p=>
    obtain ⟨i,c⟩:=p;have hg0:ZP m a=some c:=(by rw [<-KP m a 0,hi];rfl);obtain ⟨⟨q,h1,h2⟩,h3,h4⟩:=UX (ek:=ek) (ev:=ev) m a c 0 i c (by rw [hi];simp);have hkb:=zeR (ek:=ek) (ev:=ev) m 0 i q h1
    have hkey:(((QX ek ev 0 m).toArray[i]?).map (·.key)).getD (ek a)=ek a:=by
     simp only [OO]
     cases he:(QX ek ev 0 m)[i]? with
     | none=>rfl
     | some e=>rw [he] at hkb;simp at hkb;simp [hkb.1,h2]
    have hborn:(((QX ek ev 0 m).toArray[i]?).map (·.born)).getD 0=i:=by
     simp only [OO]
     cases he:(QX ek ev 0 m)[i]? with
     | none=>rw [he] at hkb;simp at hkb
     | some e=>rw [he] at hkb;simp at hkb;simp [hkb.2]
    simp only [j9,jg,hkey,Instr.keyThatStays,hK.bits,Oj,jl,Result.andThen,hg0,Option.getD_some,Xr m a c hg0];rw [Vk _ hm]
    have hbornI:((((QX ek ev 0 m).toArray[i]?).map (fun e=>(e.born:Int))).getD 0)=(i:Int):=by
     simp only [OO] at hborn ⊢
     cases he:(QX ek ev 0 m)[i]? with
     | none=>rw [he] at hkb;simp at hkb
     | some e=>rw [he] at hkb;simp at hkb;simp [hkb.2]
    rw [Xr m a c hg0] at h4
    have hobj:((QX ek ev 0 m).toArray.modify i fun e=>{e with key:=ek a})=(QX ek ev 0 m).toArray:=by
     apply AS;rw [Array.toList_modify]
     conv=>rhs;rw [h4]
     refine zj0 _ i ?_;left;rw [znN m 0 i q h1,zqi m 0 i c q (by rw [hi];simp) h1]
    rw [hobj];simp only [znk,hi,j9,Option.getD_some,goInt]
    first
     | rfl
     | (rw [hbornI];rfl)
     | (simp only [hborn];rfl)
  simp only [execOp,Qi (S:=[]) ha trivial rfl hx,Qi (S:=[]) ha trivial rfl hy,jg,hr,Result.andThen,jl,Oq];exact h _ _ (ha.put hN _) trivial hs
omit [DecidableEq α] in
theorem zmw:∀ (m:List (α×β)) (k i:Nat),i<m.length->(QX ek ev k m).findIdx? (fun e=>(e.born:Int)==((k+i:Nat):Int))=some i:=by
 intro m
 induction m with
 | nil=>intro k i h;simp at h
 | cons p m ih=>
  intro k i h;simp only [QX,List.findIdx?_cons]
  cases i with
  | zero=>simp
  | succ i=>
   have hne:(((k:Nat):Int)==((k+(i+1):Nat):Int))=false:=by
    rw [Am];omega
   rw [hne];have:=ih (k+1) i (by simpa using h);rw [show k+(i+1)=k+1+i by omega,this];rfl
theorem zjM {kv vv:Value}:∀ (l:List MapEntry) (i:Nat),(l[i]?).map (·.key)=some kv->l.modify i (fun e=>{e with val:=vv})=l.modify i fun e=>{e with key:=kv,val:=vv}:=by
 intro l
 induction l with
 | nil=>intro i _;simp
 | cons e l ih=>
  intro i hv
  cases i with
  | zero=>simp at hv;simp [hv]
  | succ i=>simp only [List.modify_succ_cons];rw [ih i (by simpa using hv)]
theorem zeu {t r:Nat}(b c:β)(hm0:ZP m a=some c)(hx:Qv [] E x=some (.map (some r)))(hy:Qv [] E y=some (.int .i64 (znk m a:Nat)))(hz:Qv [] E z=some (ev b))(hG:gd=none)
  (hu:Upd loc r (Z7 ek ev m) (Z7 ek ev (YM m a b)) loc')(h:XO C Q ops rest [] E I loc'):XO C Q ops (⟨none,.entryStore t x y z,ty,pos,af,gd⟩::rest) [] E I loc:=
 Ya hG kC fun a' w ha hw=>by
  have hm:=hw.own _ _ hu.mem;have hs:=hw.putObj hu
  have hr:(Instr.entryStore t (.map (some r)) (.int .i64 (znk m a:Nat)) (ev b)).run C.P w= .ok () (w.putObj r (Z7 ek ev (YM m a b))):=by
   cases hi:XT m a 0 with
   | none=>rw [<-KP m a 0,hi] at hm0;cases hm0
   | some p=>
    obtain ⟨i,c'⟩:=p;obtain ⟨⟨q,h1,h2⟩,h3,h4⟩:=UX (ek:=ek) (ev:=ev) m a b 0 i c' (by rw [hi];simp);have hil:i<m.length:=(jc.1 h1).1;have hp:znk m a=i:=(by unfold znk;rw [hi];rfl);have hfi:=zmw (ek:=ek) (ev:=ev) m 0 i hil;rw [Oc] at hfi
    have hfa:(QX ek ev 0 m).toArray.findIdx? (fun e=>(e.born:Int)==((i:Nat):Int))=some i:=by
     rw [List.findIdx?_toArray];exact hfi
    have hkb:=zeR (ek:=ek) (ev:=ev) m 0 i q h1
    have hobj:((QX ek ev 0 m).toArray.modify i fun e=>{e with val:=ev b})=(QX ek ev 0 (YM m a b)).toArray:=by
     apply AS;rw [Array.toList_modify];rw [h4];refine zjM _ i ?_
     cases he:(QX ek ev 0 m)[i]? with
     | none=>rw [he] at hkb;simp at hkb
     | some e=>rw [he] at hkb;simp at hkb;simp [hkb.1,h2]
    simp only [Instr.entryStore,jg,Yf hm,Result.andThen,asInt,asIntOf,hp,jl];rw [hfa];simp only [];rw [Vk _ hm,hobj];unfold Z7;rw [h3]
  simp only [execOp,Qi (S:=[]) ha trivial rfl hx,Qi (S:=[]) ha trivial rfl hy,Qi (S:=[]) ha trivial rfl hz,jg,hr,Result.andThen,jl,AD];exact h _ _ ha trivial hs
end maps
theorem zrA {zv:Value}(h1:zv.cells= #[zv])(n:Nat):madeCells zv.cells n=(List.replicate n zv).toArray:=by
 rw [h1];apply AS;have:∀ x:Nat,[zv][x % 1]?.getD default=zv:=fun x=>by rw [Nat.mod_one];rfl
 simp [madeCells,this,List.map_const']
def MkT (P:Program)(t e bytes:Nat)(zv:Value):Prop:=P.underlying t=some (.slice e)/\(P.info? e).map (fun i=>(i.zero,i.size,i.bytes))=some (some zv,1,bytes)/\zv.cells= #[zv]
theorem Q7 {t e bytes:Nat}{zv:Value}{n:Int}(hT:MkT C.P t e bytes zv)(hx:Qv [] E x=some (.int .i64 n))(hy:Qv [] E y=some (.int .i64 n))(hn:0<=n/\n<=1000000)(hb:bytes<=1000)
  (hG:gd=none)(hN:Nat.blt d C.N=true)(h:∀ b,XO C Q ops rest [] ((d,.slice (some ⟨b,0,none⟩) n.toNat n.toNat)::E) I ((b,.cells (List.replicate n.toNat zv).toArray e (0,0))::loc)):
  XO C Q ops (⟨some d,.makeSlice t x y,ty,pos,af,gd⟩::rest) [] E I loc:=
 Ya hG kC fun a w ha hw=>by
  obtain ⟨hu,hi,h1⟩:=hT;rw [jY] at hi;obtain ⟨i,hi,he⟩:=hi;simp only [AX] at he;obtain ⟨hz,hs,hbt⟩:=he;have hr:=run_makeSlice (P:=C.P) (w:=w) t e i zv hu hi hz .i64 .i64 n n hn.1 kB (by rw [hs];omega) (by rw [hbt];exact Int.le_trans (Int.mul_le_mul (by omega:(bytes:Int)<=1000) hn.2 hn.1 kB) kE) kB;rw [hs,OB,zrA h1] at hr;simp only [execOp,Qi (S:=[]) ha trivial rfl hx,Qi (S:=[]) ha trivial rfl hy,jg,hr,Result.andThen,jl,Oq];exact h _ _ _ (ha.put hN _) trivial (hw.alloc _)
def znR (size:Nat):List Value->List (Nat×Value)->Option (List Value)
 | cells,[]=>some cells
 | cells,(i,v)::rest=>bif Nat.beq (Vw v).length size&&Nat.ble (i*size+(Vw v).length) cells.length then znR size (Y9 cells (i*size) (Vw v)) rest else none
theorem zi2 (size:Nat):∀ (ps:List (Nat×Value)) (cells out:List Value),znR size cells ps=some out->Instr.fill (fun i=>some (i*size,size)) cells.toArray ps=some out.toArray
 | [],cells,out,h=>by
  simp only [znR,jU] at h;subst h;rfl
 | (i,v)::ps,cells,out,h=>by
  simp only [znR] at h
  cases hb:(Nat.beq (Vw v).length size&&Nat.ble (i*size+(Vw v).length) cells.length) with
  | false=>rw [hb] at h;cases h
  | true=>
   rw [hb] at h;simp only [jj] at hb;have h1:=Ad hb.1;have h2:=Aw hb.2
   have e:cells=cells.take (i*size)++(cells.drop (i*size)).take size++cells.drop (i*size+size):=by
    rw [jn];have:(cells.drop (i*size)).take size++cells.drop (i*size+size)=cells.drop (i*size):=by rw [<-OT];exact jy _ _
    rw [this,jy]
   have hl1:(cells.take (i*size)).length=i*size:=(by rw [jH];omega);have hl2:((cells.drop (i*size)).take size).length=size:=by rw [jH,j7];omega
   have hsp:Y9 cells (i*size) (Vw v)=cells.take (i*size)++Vw v++cells.drop (i*size+size):=by
    have:=K8 (cells.take (i*size)) ((cells.drop (i*size)).take size) (Vw v) (cells.drop (i*size+size)) (by rw [hl2];exact h1.symm);rw [<-e,hl1] at this;exact this
   have hfo:=zc9 (place:=fun i=>some (i*size,size)) (i:=i) (off:=i*size) (size:=size) (v:=v) (vs:=Vw v) (pre:=cells.take (i*size)) (old:=(cells.drop (i*size)).take size) (tail:=cells.drop (i*size+size)) (l:=ps) U (zeU v) h1 hl1 hl2;rw [<-e] at hfo;rw [hfo,<-hsp];exact zi2 size ps _ out h
theorem ZT {t n e size:Nat}{zl:List Value}{parts:Array (Nat×Operand)}{ps:List (Nat×Value)}(cells:List Value)(hA:ArT C.P t n e size)(hz:Yw C.P t (.agg zl.toArray))(hp:parts.toList.map (fun p=>(Qv S E p.2).map fun v=>(p.1,v))=ps.map some)(hf:znR size zl ps=some cells):
  QV C S E I loc ⟨dst,.build t parts,ty,pos,af,gd⟩ (.agg cells.toArray):=
 .of kC fun a w ha hg hc hw=>by
  obtain ⟨hu,i,hi,hs⟩:=hA
  have key:∀ (l:List (Nat×Operand)) (ps:List (Nat×Value)),l.map (fun p=>(Qv S E p.2).map fun v=>(p.1,v))=ps.map some->l.map (fun p=>(p.1,a.eval p.2))=ps:=by
   intro l
   induction l with
   | nil=>intro ps h;cases ps<;>simp_all
   | cons p l ih=>
    intro ps h
    cases ps with
    | nil=>simp at h
    | cons q ps=>
     simp only [jx,AI] at h ⊢;refine ⟨?_,ih _ h.2⟩
     cases e1:Qv S E p.2 with
     | none=>rw [e1] at h;simp at h
     | some v=>
      rw [e1] at h;rw [Qi ha hg hc e1];simpa using h.1
  have hps:(parts.map fun (i,x)=>(i,a.eval x)).toList=ps:=by
   rw [<-key _ _ hp];simp
  have hfe:=zi2 size ps zl cells hf;have hzc:(Value.agg zl.toArray).cells=zl.toArray:=rfl;simp only [execOp,Instr.build,jg,Yc hz,Result.andThen,jK hu,run_sizeOf hi,hs,hps,hzc,hfe,jl]
theorem XK {P:Program}{w:World}{t k e d:Nat}{m:Option Nat}(hT:P.underlying t=some (.map k e)):(Op.equalIn (d+1) t (.map m) (.map none)).run P w= .ok m.isNone w:=by simp only [Op.equalIn,jg,jK hT,Result.andThen];cases m<;>rfl
theorem zmc {t t' k e:Nat}{m:Option Nat}(hx:Qv S E x=some (.map m))(hy:Qv S E y=some (.map none))(hT:C.P.underlying t=some (.map k e)):QV C S E I loc ⟨dst,.binOp .eql t x y t',ty,pos,af,gd⟩ (.bool m.isNone):=
 .of kC fun a w ha hg hc _=>by
  have e1:(eqGuard .eql t x y (.map m) (.map none)).run C.P w= .ok () w:=(by unfold eqGuard;rfl);have e2:(Op.equalIn 10000 t (.map m) (.map none)).run C.P w= .ok m.isNone w:=XK (d:=9999) hT;simp only [execOp,Qi ha hg hc hx,Qi ha hg hc hy,jg,e1,jl,Result.andThen,binOp,Op.equal,Op.maxDepth,e2]
end
section
open Go Go.Sort
section
variable {g:World} {I I' H:Qt} {loc loc' L R:Loc} {w w':World}
theorem St.grown (h:St g I H loc w)(os:Array Obj):St g I H loc (grow w os):=by
 have key:∀ (b:Nat) (o:Obj),w.heap[b]? =some o->(grow w os).heap[b]? =some o:=fun b o e=>by
  have hb:b<w.heap.size:=(OH.1 e).1;simp only [grow];rw [Array.getElem?_append_left hb];exact e
 exact ⟨h.os,h.tape,h.out,⟨jT h.size.1 (by simp [grow]),h.size.2⟩,fun b o e=>key b o (h.imm b o e),fun b o e=>key b o (h.frm b o e),fun b o e=>key b o (h.own b o e),h.sepIH,h.sepIL,h.nodup⟩
theorem St.aheadN (h:St g I H loc w)(n:Nat):St g I H loc (Go.Sort.ahead w n):=⟨h.os,h.tape,h.out,⟨h.size.1,jT h.size.2 (by simp [Go.Sort.ahead])⟩,h.imm,h.frm,h.own,h.sepIH,h.sepIL,h.nodup⟩
theorem St.rowPut {α:Type}[Inhabited α]{enc:α->Value}{b:Nat}{cs:Array Value}{e:TypeId}{fz:Nat×Nat}(h:St g I H loc w)(d:Array α)(hu:Upd loc b (.cells cs e fz) (.cells (putCells enc 0 d cs) e fz) loc'):St g I H loc' (putRow enc w b 0 d):=by
 have hb:=h.own _ _ hu.mem;refine h.turn hu U U U kK ?_ ?_
 ·simp only [putRow,mapBlock,Bt,hb,j9];rfl
 ·intro c hc;simp only [putRow,mapBlock,Bt,ja (By hc)]
theorem za4 {α:Type}[Inhabited α]{enc:α->Value}{cs:Array Value}{n:Nat}(xs:List α)(hl:xs.length=n)(hc:n<=cs.size):(putCells enc 0 xs.toArray cs).toList.take n=xs.map enc:=by
 apply Ai;intro i;by_cases hi:i<n
 ·rw [A9 hi,j5];have h1:i<cs.size:=kB;have h2:i<xs.length:=kB
  have h3:(putCells enc 0 xs.toArray cs)[i]? =some (enc xs[i]):=by
   simp only [putCells,Array.getElem?_mapIdx,OX h1,j9];have:(0<=i/\i<0+xs.toArray.size):=by simp;omega
   rw [jb this];congr 2;simp [h2]
  rw [O9,h3,je h2];rfl
 ·rw [Oy (by rw [jH];omega),Oy (by rw [jE];omega)]
theorem Xf {α:Type}[Inhabited α]{enc:α->Value}{b:Nat}{cs:Array Value}{e:TypeId}(h:St g I H loc w)(hm:(b,Obj.cells cs e (0,0))∈loc)(xs:List α)(hl:cs.toList.take xs.length=xs.map enc):Holds enc w b 0 xs.toArray:=by
 have hb:=h.own _ _ hm;intro j hj;have hj':j<xs.length:=(by simpa using hj);refine ⟨?_,?_⟩
 ·simp only [World.cell?,hb,Option.isSome_none,jB,j2];have:(cs.toList.take xs.length)[j]? =some (enc xs[j]):=by rw [hl,j5,je hj'];rfl
  rw [A9 hj',O9] at this;rw [show 0+j=j from by omega,this];congr 2;simp [hj']
 ·simp only [World.frozen?,hb];simp
theorem zlX {P:Program}{f:FuncId}{e:TypeId}
  (hs:∀ (blk off cap:Nat) (zs:List Int) (w:World),Holds (Value.int .i64) w blk off zs.toArray->blk<w.heap.size->zs.length<4611686018427387904->Calls P f #[.slice (some ⟨blk,off,none⟩) zs.length cap] w fun e w'=>e= .returned (.tuple #[])/\∃ n os,w'=grow (putRow (Value.int .i64) (Go.Sort.ahead w n) blk off (zs.mergeSort fun x y=>decide (x<=y)).toArray) os)
  (h0:∀ (p:Option Addr) (cap:Nat) (w:World),Calls P f #[.slice p 0 cap] w fun e w'=>e= .returned (.tuple #[])/\w'=w)
  (zs:List Int){v:Value}{n:Nat}{L:Loc}(hO:OwnS e 1 v n (zs.map (Value.int .i64)) L)(hn:n<=1000000)(I:Qt):
  ZQ P f [v] I L (fun u I' L'=>u= .tuple #[]/\I'=I/\OwnS e 1 v n ((zs.mergeSort fun x y=>decide (x<=y)).map (Value.int .i64)) L'):=by
 intro g H w hw;have hl:zs.length=n:=(by have:=hO.1;simpa using this);subst hl;rcases hO.2 with ⟨rfl,h00,rfl⟩ | ⟨b,c,cur,rfl,rfl,hc,hc2,hsz,htk⟩
 ·have:zs=[]:=jR.1 h00;subst this;refine (h0 none 0 w).mono ?_;rintro e w' ⟨rfl,rfl⟩;refine ⟨_,I,[],U,zGN _,hw,U,U,by simp,.inl ⟨U,U,U⟩⟩
 ·rw [OB] at hsz htk;have hb:=hw.own b _ (jA.2 U);refine (hs b 0 c zs w (Xf hw (jA.2 U) zs htk) (OH.1 hb).1 kB).mono ?_;rintro e w' ⟨rfl,k,os,rfl⟩;refine ⟨_,I,_,U,zGN _,(((hw.aheadN k).rowPut _ .here).grown os),U,U,by simp,.inr ⟨b,c,_,U,U,hc,hc2,by simp [putCells,hsz],?_⟩⟩;rw [OB];exact za4 _ (by simp) kB
theorem zcD {P:Program}{f:FuncId}{e:TypeId}(co:List Int->List Int)(hco:∀ zs,(co zs).length<=zs.length)(hcn:co []=[])
  (hs:∀ (blk off cap:Nat) (zs:List Int) (w:World),Holds (Value.int .i64) w blk off zs.toArray->zs.length<=9223372036854775807->zs.length<=cap->Calls P f #[.slice (some ⟨blk,off,none⟩) zs.length cap] w fun e w'=>e= .returned (.slice (some ⟨blk,off,none⟩) (co zs).length cap)/\∃ q,w'=putRow (Value.int .i64) (Go.Sort.ahead w q) blk off (co zs++List.replicate (zs.length-(co zs).length) 0).toArray)
  (h0:∀ (p:Option Addr) (cap:Nat) (w:World),Calls P f #[.slice p 0 cap] w fun e w'=>e= .returned (.slice p 0 cap)/\w'=w)
  (zs:List Int){v:Value}{n:Nat}{L:Loc}(hO:OwnS e 1 v n (zs.map (Value.int .i64)) L)(hn:n<=1000000)(I:Qt):
  ZQ P f [v] I L (fun u I' L'=>I'=I/\OwnS e 1 u (co zs).length ((co zs).map (Value.int .i64)) L'):=by
 intro g H w hw;have hl:zs.length=n:=(by have:=hO.1;simpa using this);subst hl;have hle:=hco zs;rcases hO.2 with ⟨rfl,h00,rfl⟩ | ⟨b,c,cur,rfl,rfl,hc,hc2,hsz,htk⟩
 ·have:zs=[]:=jR.1 h00;subst this;refine (h0 none 0 w).mono ?_;rintro e w' ⟨rfl,rfl⟩;refine ⟨_,I,[],U,zGN _,hw,U,by simp [hcn],.inl ⟨U,by simp [hcn],U⟩⟩
 ·rw [OB] at hsz htk;refine (hs b 0 c zs w (Xf hw (jA.2 U) zs htk) kB hc).mono ?_;rintro e w' ⟨rfl,k,rfl⟩;refine ⟨_,I,_,U,zGN _,(hw.aheadN k).rowPut _ .here,U,by simp,.inr ⟨b,c,_,U,U,kB,hc2,by simp [putCells,hsz],?_⟩⟩;rw [OB];have h1:=za4 (enc:=Value.int .i64) (cs:=cur) (n:=zs.length) (co zs++List.replicate (zs.length-(co zs).length) 0) kM kB;have h2:=jr (List.take (co zs).length) h1;rw [List.take_take,Nat.min_eq_left hle] at h2;rw [h2];simp
end
end
section
open Go
section
variable {g:World} {I I' H:Qt} {loc loc' L R:Loc} {w w':World}
theorem OwnS.sl {α:Type}{e size:Nat}{enc:α->List Value}{v:Value}{n:Nat}{xs:List α}(hO:OwnS e size v n (xs.flatMap enc) L)(hs:∀ x,(enc x).length=size)(hsz:0<size)(hI:∀ b o,(b,o)∈L->I b=some o):∃ av c,v= .slice av n c/\Sl I size enc av n c xs:=by
 have hn:xs.length=n:=by
  have:=hO.1;rw [ZF hs] at this;exact Ay hsz this
 rcases hO.2 with ⟨rfl,rfl,rfl⟩ | ⟨b,c,cur,rfl,rfl,hc,_,hcs,htake⟩
 ·have:xs=[]:=jR.1 hn;subst this;exact ⟨none,0,U,.nil⟩
 ·have h3:=hI b _ (jk ..);refine ⟨_,_,U,hn,hc,fun _=>U,fun k x hx j u hu=>.imm h3 ?_⟩;rw [YU];simp only [Ao,Oc];have hq:=zak hs xs k x hx j u hu;rw [<-htake,Ar] at hq;split at hq
  ·simpa using hq
  ·cases hq
def JY (e size:Nat):List (Value×Nat×List Value)->Loc->Prop
 | [],L=>L=[]
 | t::ts,L=>∃ L1 L2,L=L1++L2/\OwnS e size t.1 t.2.1 t.2.2 L1/\JY e size ts L2
def Uy:Value×Nat×List Value:=(.slice none 0 0,0,[])
theorem JY.nil {e size:Nat}:JY e size [] []:=rfl
theorem JY.at {α:Type}[DecidableEq α]{e size:Nat}(a:α):∀ {m:List (α×(Value×Nat×List Value))} {L:Loc},JY e size (m.map (·.2)) L->
  ∃ A Lt B,L=A++(Lt++B)/\OwnS e size ((ZP m a).getD Uy).1 ((ZP m a).getD Uy).2.1 ((ZP m a).getD Uy).2.2 Lt/\∀ t' Lt',OwnS e size t'.1 t'.2.1 t'.2.2 Lt'->JY e size ((YM m a t').map (·.2)) (A++(Lt'++B))
 | [],L,h=>by
  have h:L=[]:=h;subst h;exact ⟨[],[],[],U,.nil,fun t' Lt' h'=>⟨Lt',[],by simp,h',U⟩⟩
 | p::m,L,⟨L1,L2,e1,h1,h2⟩=>by
  by_cases hp:p.1=a
  ·refine ⟨[],L1,L2,by rw [e1];rfl,by simp only [ZP,jb hp];exact h1,fun t' Lt' h'=>?_⟩;simp only [YM,jb hp,jx];exact ⟨Lt',L2,U,h',h2⟩
  ·obtain ⟨A,Lt,B,e2,h3,h4⟩:=JY.at a h2;refine ⟨L1++A,Lt,B,by rw [e1,e2,jn],by simp only [ZP,ja hp];exact h3,fun t' Lt' h'=>?_⟩;simp only [YM,ja hp,jx];exact ⟨L1,A++(Lt'++B),by rw [jn],h1,h4 t' Lt' h'⟩
end
variable {C:Cx} {Q:Exit->Act->World->Prop} {E:Env} {I:Qt} {loc:Loc}
theorem Jg {c:Code}(h:∀ I',HLe I I'->(∀ b o,(b,o)∈loc->I' b=some o)->X C Q c E I' []):X C Q c E I loc:=fun a w ha hw=>by
 obtain ⟨I',h1,h2,h3⟩:=hw.freezeAll;exact h I' h1 h3 a w ha h2
theorem zfD {ops:Array Oper}{rest:List Oper}{S:GS}(h:∀ I',HLe I I'->(∀ b o,(b,o)∈loc->I' b=some o)->XO C Q ops rest S E I' []):XO C Q ops rest S E I loc:=fun a w ha hg hw=>by
 obtain ⟨I',h1,h2,h3⟩:=hw.freezeAll;exact h I' h1 h3 a w ha hg h2
theorem zor {c:Code}{L R:Loc}(hsp:Yu loc L R)(h:∀ I',HLe I I'->(∀ b o,(b,o)∈L->I' b=some o)->X C Q c E I' R):X C Q c E I loc:=fun a w ha hw=>by
 have h0:=hw.unsplit hsp;have h1:=h0.hideR;obtain ⟨I',h2,h3,h4⟩:=h1.freezeAll;have h5:St C.g I' C.H R w:=St.unhide (h0.rest QO) h3;exact h I' h2 h4 a w ha h5
theorem Y4 {α β:Type}[DecidableEq α]:∀ (m:List (α×β)) (a x:α) (b:β),ZP (YM m a b) x=if a=x then some b else ZP m x
 | [],a,x,b=>by simp [YM,ZP]
 | p::m,a,x,b=>by
  unfold YM;by_cases h:p.1=a
  ·rw [jb h];simp only [ZP];by_cases h2:a=x
   ·rw [jb h2,jb h2]
   ·rw [ja h2,ja h2,ja (by rw [h];exact h2)]
  ·rw [ja h];simp only [ZP];rw [Y4 m a x b];by_cases h2:p.1=x
   ·rw [jb h2,jb h2,ja (fun e=>h (by rw [h2,e]))]
   ·rw [ja h2,ja h2]
theorem U8 {α β:Type}[DecidableEq α]:∀ {m:List (α×β)} {a:α} {b:β},ZP m a=some b->(a,b)∈m
 | [],_,_,h=>by cases h
 | p::m,a,b,h=>by
  unfold ZP at h;split at h
  ·rename_i e;cases h;rw [<-e];exact jk ..
  ·exact jq _ (U8 h)
theorem XR {α β:Type}[DecidableEq α]:∀ {m:List (α×β)} {a:α},ZP m a=none↔a∉m.map (·.1)
 | [],a=>by simp [ZP]
 | p::m,a=>by
  unfold ZP;by_cases h:p.1=a
  ·simp [h]
  ·rw [ja h,XR,jx,jp,B8];exact ⟨fun h2=>⟨fun e=>h e.symm,h2⟩,fun h2=>h2.2⟩
theorem Xw {α β:Type}[DecidableEq α]:∀ (m:List (α×β)) (a:α) (b:β),(YM m a b).map (·.1)=if a∈m.map (·.1) then m.map (·.1) else m.map (·.1)++[a]
 | [],a,b=>by simp [YM]
 | p::m,a,b=>by
  unfold YM;by_cases h:p.1=a
  ·simp [h]
  ·rw [ja h,jx,Xw m a b];by_cases h2:a∈m.map (·.1)
   ·rw [jb h2,jb (by simp only [jx];exact jq _ h2)];rfl
   ·rw [ja h2,ja (by simp only [jx,jp,B8];exact ⟨fun e=>h e.symm,h2⟩)];rfl
theorem XU {α β:Type}[DecidableEq α]{m:List (α×β)}(a:α)(b:β)(h:(m.map (·.1)).Nodup):((YM m a b).map (·.1)).Nodup:=by
 rw [Xw];split
 ·exact h
 ·rename_i h2;rw [Oz];exact ⟨h,by simp,fun x hx y hy e=>by simp at hy;subst hy;subst e;exact h2 hx⟩
theorem zc6 {α β:Type}[DecidableEq α]{m:List (α×β)}(h:(m.map (·.1)).Nodup){p:α×β}(hp:p∈m):ZP m p.1=some p.2:=by
 induction m with
 | nil=>cases hp
 | cons q m ih=>
  rw [jx,OQ] at h;unfold ZP;rcases jp.1 hp with rfl | hp
  ·rw [jb rfl]
  ·rw [ja (fun e=>h.1 (by rw [e];exact jt.2 ⟨p,hp,U⟩)),ih h.2 hp]
def ziP {α:Type}[DecidableEq α](s:List (α×Bool))(a:α):Bool:=(ZP s a).getD false
theorem zaZ {α:Type}[DecidableEq α](s:List (α×Bool))(a x:α):ziP (YM s a true) x=(decide (a=x)||ziP s x):=by
 unfold ziP;rw [Y4];by_cases h:a=x
 ·simp [h]
 ·simp [h]
end
end Go.Kn
section
namespace Go.Kn
open Go
section
variable {I:Qt} {b off:Nat} {vs:List Value} {A:Array Value} {t:TypeId} {fz:Nat×Nat} {l:Loc}
variable {p0 p1 p2 p3 p4 p5 p6 p7 p8 p9:Nat×Obj}
theorem Cells.s0 (h:(A.toList.drop off).take vs.length=vs):Cells I ((b,.cells A t fz)::l) b off vs:=fun j v hv=>by
 refine zGI ?_;rw [YU];rw [<-h] at hv;rw [Ar] at hv;split at hv
 ·rw [AJ] at hv;exact hv
 ·cases hv
theorem Cells.s1 (h:(A.toList.drop off).take vs.length=vs):Cells I (p0::(b,.cells A t fz)::l) b off vs:=(Cells.s0 h).there
theorem Cells.s2 (h:(A.toList.drop off).take vs.length=vs):Cells I (p0::p1::(b,.cells A t fz)::l) b off vs:=(Cells.s1 h).there
theorem Sl.seg {α:Type}{size:Nat}{enc:α->List Value}{av:Option Addr}{n c:Nat}{xs:List α}{loc:Loc}(h:Sl I size enc av n c xs){k o:Nat}{x:α}(hx:xs[k]? =some x)(hv:((enc x).drop o).take vs.length=vs):Cells I loc (Ab av) (Ao av+k*size+o) vs:=fun j u hu=>by
 rw [<-hv,Ar] at hu;split at hu
 ·rw [AJ] at hu;rw [BR];exact h.get hx hu
 ·cases hu
end
theorem VW {P:Program}{g:World}{I H:Qt}{post:List Value}{off:Nat}:∀ (vs:List Value) (pre:List Value) (w:World) (loc loc':Loc) (b:Nat) (t:TypeId) (old:List Value) (k:Nat),pre.length=off+k->old.length=vs.length->(∀ v∈vs,v.oneCell'=true)->St g I H loc w->
  Upd loc b (.cells (pre++(old++post)).toArray t (0,0)) (.cells (pre++(vs++post)).toArray t (0,0)) loc'->∃ w',(storeCells ⟨b,off,none⟩ vs k).run P w= .ok () w'/\St g I H loc' w'
 | [],pre,w,loc,loc',b,t,old,k,_,hl,_,hw,hu=>by
  have:old=[]:=jR.1 hl;subst this;refine ⟨w,U,?_⟩;have hb:=hw.own _ _ hu.mem;exact hw.turn hu U U U U hb (fun _ _=>U)
 | v::vs,pre,w,loc,loc',b,t,old,k,hp,hl,h1,hw,hu=>by
  cases old with
  | nil=>simp at hl
  | cons u old=>
   have hb:=hw.own _ _ hu.mem;have hc:w.cell? ⟨b,off+k,none⟩=some u:=(by simp [World.cell?,hb,<-hp]);have hfz:=WC (off:=off+k) hw hu.mem;obtain ⟨l1,u1,u2⟩:=hu.middle (.cells ((pre++[v])++(old++post)).toArray t (0,0));have hset:((pre++(u::old++post)).toArray.setIfInBounds (off+k) v)=((pre++[v])++(old++post)).toArray:=(by rw [<-hp];simp);rw [<-hset] at u1;have hw1:=hw.setCell u1;rw [hset] at u1;obtain ⟨w',hr,hs⟩:=VW (P:=P) (post:=post) (off:=off) vs (pre++[v]) _ l1 loc' b t old (k+1) kM (by simpa using hl) (fun x hx=>h1 x (jq _ hx)) hw1 (by simpa using u2);refine ⟨w',?_,hs⟩;simp only [storeCells,jg,Yn,run_store _ _ _ _ _ (h1 v (jk ..)),hc,hfz,jB,j2,Result.andThen,hr]
variable {C:Cx} {Q:Exit->Act->World->Prop} {E E':Env} {I I':Qt} {loc loc' L R:Loc} {ops:Array Oper} {rest:List Oper} {S:GS}
variable {dst:Option Tmp} {d:Nat} {ty:TypeId} {pos:String} {af:Array Edge} {gd:Option (Nat×Bool)} {x y z:Operand}
theorem KS {A:List Value}{off n:Nat}{vs:List Value}(h:off+n<=A.length)(hn:vs.length=n):Y9 A off vs=A.take off++(vs++A.drop (off+n)):=by
 have e:A=A.take off++(A.drop off).take n++A.drop (off+n):=by
  rw [jn];have:(A.drop off).take n++A.drop (off+n)=A.drop off:=by rw [<-OT];exact jy _ _
  rw [this,jy]
 have hl1:(A.take off).length=off:=(by rw [jH];omega);have:=K8 (A.take off) ((A.drop off).take n) vs (A.drop (off+n)) (by rw [jH,j7];omega);rw [<-e,hl1,jn] at this;exact this
theorem YO {t t' b off n:Nat}{vs:List Value}{A:List Value}(hx:Qv [] E x=some (.pointer (some ⟨b,off,none⟩)))(hy:Qv [] E y=some (.agg vs.toArray))(hT:SzT C.P t n)(hn:vs.length=n)(ho:Nat.ble (off+n) A.length=true)(h1:YP vs=true)(hG:gd=none)
  (hu:Upd loc b (.cells A.toArray t' (0,0)) (.cells (Y9 A off vs).toArray t' (0,0)) loc')(h:XO C Q ops rest [] E I loc'):
  XO C Q ops (⟨none,.store t x y,ty,pos,af,gd⟩::rest) [] E I loc:=
 Ya hG kC fun a w ha hw=>by
  obtain ⟨i,hi,hs⟩:=hT;have hle:=Aw ho
  have e:A=A.take off++((A.drop off).take n++A.drop (off+n)):=by
   have:(A.drop off).take n++A.drop (off+n)=A.drop off:=by rw [<-OT];exact jy _ _
   rw [this,jy]
  rw [KS hle hn] at hu;have hu2:Upd loc b (.cells (A.take off++((A.drop off).take n++A.drop (off+n))).toArray t' (0,0)) (.cells (A.take off++(vs++A.drop (off+n))).toArray t' (0,0)) loc':=(by rw [<-e];exact hu);obtain ⟨w',hr,hs'⟩:=VW (P:=C.P) (off:=off) vs (A.take off) w loc loc' b t' ((A.drop off).take n) 0 (by rw [jH];omega) (by rw [jH,j7];omega) (Je h1) hw hu2;simp only [execOp,Qi (S:=[]) ha trivial rfl hx,Qi (S:=[]) ha trivial rfl hy,Instr.storeAt,Instr.sureAddr,jg,jl,Result.andThen,storeVar,run_sizeOf hi,hs,Value.cells,Oh,hn,Bn,OF,j2];simp only [hr,AD];exact h _ _ ha trivial hs'
theorem Qu {a:Addr}(hx:Qv S E x=some (.pointer (some a))):QV C S E I loc ⟨dst,.nilCheck x,ty,pos,af,gd⟩ (.pointer (some a)):=
 .of kC fun ac w ha hg hc _=>by
  simp only [execOp,Qi ha hg hc hx];rfl
theorem zgL {t:TypeId}{k:IntKind}{a:Int}(hx:Qv S E x=some (.int k a)):QV C S E I loc ⟨dst,.unOp .neg t x,ty,pos,af,gd⟩ (.int k (k.wrap (0-a))):=
 .of kC fun ac w ha hg hc _=>by
  simp only [execOp,Qi ha hg hc hx];rfl
section
variable {P:Program} {fn:Func} {N:Nat} {g:World} {I H:Qt} {loc:Loc} {E:Env}
theorem zFg {D:List Deferred}{t tt b:Nat}{v:Value}(hr:fn.results= #[.cell t tt])(hv:Jl E t=some (.pointer (some ⟨b,0,none⟩)))(hT:ScT P tt)(hc:QB I loc b 0 v)(a:Act)(ha:Kf N D E a)(w:World)(hw:St g I H loc w):(results fn a.tmps).run P w= .ok v w:=by
 have e1:=ha.env _ _ hv;rw [Ok] at e1
 have l1:(loadVar tt ⟨b,0,none⟩).run P w= .ok v w:=by
  simp only [loadVar,jg,Vc hT,Result.andThen,jB,j2,run_load,hc.get hw]
 simp only [results,hr];simp [e1,asAddr,l1]
end
end Go.Kn
namespace Go.Kn
open Go
section
variable {C:Cx} {E:Env} {I:Qt} {loc:Loc} {S:GS} {dst:Option Tmp} {ty:TypeId} {pos:String} {af:Array Edge} {gd:Option (Nat×Bool)} {x y:Operand}
variable {α β:Type} [DecidableEq α] {ek:α->Value} {ev:β->Value} {m:List (α×β)} {a:α}
theorem Vh {t k e r:Nat}{zv:Value}{b:β}(hget:ZP m a=some b)(hT:MpT C.P t k e zv)(hK:VR C.P k ek)(hx:Qv S E x=some (.map (some r)))(hy:Qv S E y=some (ek a))(hm:ZS S=true->Mem I loc r (Z7 ek ev m)):
  QV C S E I loc ⟨dst,.lookup t x y false,ty,pos,af,gd⟩ (ev b):=by
 have:=U5 (C:=C) (S:=S) (dst:=dst) (ty:=ty) (pos:=pos) (af:=af) (gd:=gd) hT hK hx hy hm;rw [hget] at this;exact this
end
end Go.Kn
end
section
namespace Go.Kn
open Go
section
variable {C:Cx} {E:Env} {I:Qt} {loc:Loc} {S:GS} {dst:Option Tmp} {ty:TypeId} {pos:String} {af:Array Edge} {gd:Option (Nat×Bool)} {x y:Operand}
variable {α:Type} [DecidableEq α] {ek:α->Value} {a:α}
def zfd (t:Value×Nat×List Value):Value:=t.1
theorem KQ {m:List (α×(Value×Nat×List Value))}{t k e r:Nat}(hT:MpT C.P t k e (.slice none 0 0))(hK:VR C.P k ek)(hx:Qv S E x=some (.map (some r)))(hy:Qv S E y=some (ek a))(hm:ZS S=true->Mem I loc r (Z7 ek zfd m)):
  QV C S E I loc ⟨dst,.lookup t x y false,ty,pos,af,gd⟩ (((ZP m a).getD Uy).1):=by
 have:=U5 (C:=C) (S:=S) (dst:=dst) (ty:=ty) (pos:=pos) (af:=af) (gd:=gd) hT hK hx hy hm
 cases h:ZP m a with
 | none=>rw [h] at this;exact this
 | some b=>rw [h] at this;exact this
theorem Ji {m:List (α×(Value×Nat×List Value))}{v:Value}(hv:((ZP m a).getD Uy).1=v){t k e r:Nat}(hT:MpT C.P t k e (.slice none 0 0))(hK:VR C.P k ek)(hx:Qv S E x=some (.map (some r)))(hy:Qv S E y=some (ek a))(hm:ZS S=true->Mem I loc r (Z7 ek zfd m)):
  QV C S E I loc ⟨dst,.lookup t x y false,ty,pos,af,gd⟩ v:=by
 rw [<-hv];exact KQ hT hK hx hy hm
theorem UU {m:List (α×Int)}{t k e r:Nat}{ik:IntKind}(hT:MpT C.P t k e (.int ik 0))(hK:VR C.P k ek)(hx:Qv S E x=some (.map (some r)))(hy:Qv S E y=some (ek a))(hm:ZS S=true->Mem I loc r (Z7 ek (Value.int ik) m)):
  QV C S E I loc ⟨dst,.lookup t x y true,ty,pos,af,gd⟩ (.tuple #[.int ik ((ZP m a).getD 0),.bool (ZP m a).isSome]):=by
 have:=K3 (C:=C) (S:=S) (dst:=dst) (ty:=ty) (pos:=pos) (af:=af) (gd:=gd) hT hK hx hy hm
 cases h:ZP m a with
 | none=>rw [h] at this;exact this
 | some b=>rw [h] at this;exact this
end
end Go.Kn
namespace Go.Kn
open Go
section
variable {C:Cx} {E:Env} {I:Qt} {loc:Loc} {S:GS} {dst:Option Tmp} {ty:TypeId} {pos:String} {af:Array Edge} {gd:Option (Nat×Bool)} {x y:Operand}
variable {α:Type} [DecidableEq α] {ek:α->Value} {a:α}
def zF7 (b:Nat):Value:=.map (some b)
theorem zcw {m:List (α×Nat)}{t k e r:Nat}(hT:MpT C.P t k e (.map none))(hK:VR C.P k ek)(hx:Qv S E x=some (.map (some r)))(hy:Qv S E y=some (ek a))(hm:ZS S=true->Mem I loc r (Z7 ek zF7 m)):
  QV C S E I loc ⟨dst,.lookup t x y false,ty,pos,af,gd⟩ (.map (ZP m a)):=by
 have:=U5 (C:=C) (S:=S) (dst:=dst) (ty:=ty) (pos:=pos) (af:=af) (gd:=gd) hT hK hx hy hm
 cases h:ZP m a with
 | none=>rw [h] at this;exact this
 | some b=>rw [h] at this;exact this
end
end Go.Kn
end
section
namespace Go.Kn
open Go
theorem zpe {P:Program}{t e:Nat}(hT:Ar2 P t e .i64):VR (α:=Int×Int) P t Vg:=by
 obtain ⟨hu,hi,hc,he,hg⟩:=hT;obtain ⟨i,hi2⟩:=jW.1 hi;have hsz:i.size=1:=(by have:=hc;unfold Program.cellsOf at this;rw [hi2] at this;exact this);refine .of_asking hu (fun b a w=>?_) (fun a=>by simp [Vg,Instr.sameBits]) (fun a b=>U) (fun a b w=>?_)
 ·have hp:∀ (xs:Array Value) (q:Nat) (u:Value),xs[q]? =some u->(part e xs q).run P w= .ok u w:=fun xs q u h=>by
   simp only [part,jg,Vc (P:=P) ⟨_,he,trivial⟩,Result.andThen,jB,j2,h,jl]
  have ck:∀ (x:Int) (q:Nat),(Instr.checkKey b (q+1) e (.int .i64 x)).run P w= .ok () w:=fun x q=>by
   simp only [Instr.checkKey,jg,jK he,Result.andThen];rfl
  have key:∀ q,(Instr.checkKey b (q+2) t (Vg a)).run P w= .ok () w:=fun q=>by
   unfold Instr.checkKey;simp only [Vg,jg,jK hu,OW];simp only [Std.Legacy.Range.forIn_eq_forIn_range',Std.Legacy.Range.size,Nat.sub_zero,Nat.add_one_sub_one,Nat.div_one]
   simp only [List.range',List.forIn_cons,List.forIn_nil,jg,run_sizeOf hi2,hsz,OW,B3,Oc,Bm,
    hp #[.int .i64 a.1,.int .i64 a.2] 0 (.int .i64 a.1) rfl,hp #[.int .i64 a.1,.int .i64 a.2] 1 (.int .i64 a.2) rfl,ck,jl]
  exact key 9998
 ·have e:=zmE (P:=P) (t:=t) ⟨hu,hi,hc,he,hg⟩ w a.1 a.2 b.1 b.2 9998
  have e2:(Op.equal t (Vg a) (Vg b)).run P w= .ok (a.1==b.1&&a.2==b.2) w:=by
   simp only [Op.equal,Op.maxDepth,Vg];exact e
  rw [e2];congr 1;obtain ⟨a1,a2⟩:=a;obtain ⟨b1,b2⟩:=b;by_cases h1:a1=b1<;>by_cases h2:a2=b2<;>simp [h1,h2]
theorem zDg {P:Program}{b:Bool}{n:Nat}{t:TypeId}{q:EqK}{v:Value}{w:World}(hk:Ka P t=some q):(Instr.checkKey b (n+1) t v).run P w= .ok () w:=by
 unfold Ka at hk
 cases hu:P.underlying t with
 | none=>rw [hu] at hk;cases hk
 | some td=>
  rw [hu] at hk;cases td<;>simp only [jU,reduceCtorEq] at hk
  all_goals (simp only [Instr.checkKey,jg,jK hu,Result.andThen];rfl)
theorem zl2 {P:Program}{t:TypeId}{q:EqK}(hk:Ka P t=some q):ScT P t:=by
 unfold Ka at hk
 cases hu:P.underlying t with
 | none=>rw [hu] at hk;cases hk
 | some td=>
  rw [hu] at hk;cases td<;>simp only [jU,reduceCtorEq] at hk
  all_goals exact ⟨_,hu,trivial⟩
theorem zeX {P:Program}{b:Bool}{n:Nat}{t:TypeId}{fs:Array Field}{cs:Array Value}{w:World}(hu:P.underlying t=some (.struct fs))
  (h:∀ f∈fs.toList,f.name≠ "_" /\∃ a,(part f.type cs f.offset).run P w= .ok a w/\(Instr.checkKey b n f.type a).run P w= .ok () w):(Instr.checkKey b (n+1) t (.agg cs)).run P w= .ok () w:=by
 rw [Instr.checkKey];simp only [jg,jK hu,OW];rw [<-Array.forIn_toList];generalize fs.toList=L at h
 induction L with
 | nil=>simp
 | cons f L ih=>
  obtain ⟨hn,a,p1,p2⟩:=h f kK;simp only [List.forIn_cons,jg,hn,Bn,not_false_eq_true,Oj,OW,p1,p2,jl];exact ih (fun y hy=>h y (by simp [hy]))
theorem zcx {P:Program}{b:Bool}{n:Nat}{w:World}:∀ (fs:List Field) (ks:List EqK) (k:Nat) (pre xs:List Value),Ut P fs k=some ks->pre.length=k->xs.length=ks.length->
  ∀ f∈fs,f.name≠ "_" /\∃ a,(part f.type (pre++xs).toArray f.offset).run P w= .ok a w/\(Instr.checkKey b (n+1) f.type a).run P w= .ok () w
 | [],_,_,_,_,_,_,_,f,hf=>by cases hf
 | g::fs,ks,k,pre,xs,hf,hp,hx,f,hfm=>by
  simp only [Ut] at hf;split at hf
  ·rename_i hn
   cases hk:Ka P g.type with
   | none=>rw [hk] at hf;simp at hf
   | some q=>
    cases hl:Ut P fs (k+1) with
    | none=>rw [hk,hl] at hf;simp at hf
    | some l=>
     rw [hk,hl] at hf;simp only [jU] at hf;subst hf
     cases xs with
     | nil=>simp at hx
     | cons u us=>
      rcases jp.1 hfm with rfl | hfm
      ·exact ⟨hn.1,u,Jb (zl2 hk) (by rw [hn.2,<-hp];simp),zDg hk⟩
      ·have:=zcx (P:=P) (b:=b) (n:=n) (w:=w) fs l (k+1) (pre++[u]) us hl (by simp [hp]) (by simpa using hx) f hfm;simpa using this
  ·cases hf
theorem zaf {P:Program}{b:Bool}{n:Nat}{w:World}:∀ (fs:List Field) (ks:List EqK) (k:Nat) (pre xs:List Value),zcp P fs k=some ks->pre.length=k->xs.length=ks.length->
  ∀ f∈fs,f.name≠ "_" /\∃ a,(part f.type (pre++xs).toArray f.offset).run P w= .ok a w/\(Instr.checkKey b (n+2) f.type a).run P w= .ok () w
 | [],_,_,_,_,_,_,_,f,hf=>by cases hf
 | g::fs,ks,k,pre,xs,hf,hp,hx,f,hfm=>by
  simp only [zcp] at hf;split at hf
  ·rename_i hn
   cases hk:Ka P g.type with
   | some q=>
    rw [hk] at hf;simp only [jY] at hf;obtain ⟨l,hl,rfl⟩:=hf
    cases xs with
    | nil=>simp at hx
    | cons u us=>
     rcases jp.1 hfm with rfl | hfm
     ·exact ⟨hn.1,u,Jb (zl2 hk) (by rw [hn.2,<-hp];simp),zDg hk⟩
     ·have:=zaf (P:=P) (b:=b) (n:=n) (w:=w) fs l (k+1) (pre++[u]) us hl (by simp [hp]) (by simpa using hx) f hfm;simpa using this
   | none=>
    rw [hk] at hf;simp only at hf
    cases hu:P.underlying g.type with
    | none=>rw [hu] at hf;cases hf
    | some td=>
     rw [hu] at hf;cases td<;>simp only [reduceCtorEq] at hf;rename_i gs;split at hf
     ·cases hfl:Ut P gs.toList 0 with
      | none=>rw [hfl] at hf;simp at hf
      | some l2=>
       cases hin:P.info? g.type with
       | none=>rw [hfl,hin] at hf;simp at hf
       | some i=>
        rw [hfl,hin] at hf;simp only at hf;split at hf
        ·rename_i hsz;simp only [jY] at hf;obtain ⟨l,hl,rfl⟩:=hf;have hx2:xs.length=l2.length+l.length:=(by simpa using hx);have hsp:xs=xs.take l2.length++xs.drop l2.length:=(jy ..).symm;have ht:(xs.take l2.length).length=l2.length:=(by rw [jH];omega);have hag:AgT P g.type l2.length:=⟨⟨_,hu,trivial⟩,i,hin,hsz⟩;rcases jp.1 hfm with rfl | hfm
         ·refine ⟨hn.1,.agg (xs.take l2.length).toArray,?_,?_⟩
          ·rw [JU hag,hn.2]
           conv=>lhs;rw [hsp]
           rw [JV pre _ _ k l2.length hp ht]
          ·have:=zcx (P:=P) (b:=b) (n:=n) (w:=w) gs.toList l2 0 [] (xs.take l2.length) hfl U ht;exact zeX hu (by simpa using this)
         ·have:=zaf (P:=P) (b:=b) (n:=n) (w:=w) fs l (k+l2.length) (pre++xs.take l2.length) (xs.drop l2.length) hl (by simp [hp,ht]) (by rw [j7];omega) f hfm;rw [jn,<-hsp] at this;exact this
        ·cases hf
     ·cases hf
  ·cases hf
theorem zkT {α:Type}[DecidableEq α]{P:Program}{t:Nat}{ks:List EqK}{enc:α->List Value}(hT:zDV P t ks)(hl:∀ a,(enc a).length=ks.length)(heq:∀ a b,JS ks (enc a) (enc b)=some (decide (a=b)))
  (hb:∀ a,Instr.sameBits 10000 (.agg (enc a).toArray) (.agg (enc a).toArray)=true):VR P t (fun a=>.agg (enc a).toArray):=by
 refine .of_asking hT.1 (fun b a w=>?_) hb (fun a b=>U) (fun a b w=>?_)
 ·have:=zaf (P:=P) (b:=b) (n:=9997) (w:=w) (P.fieldsOf t).toList ks 0 [] (enc a) hT.2.2.2 U (hl a);exact zeX (n:=9999) hT.1 (by simpa using this)
 ·have:=Vd (P:=P) (w:=w) 9997 _ _ 0 [] (enc a) [] (enc b) _ hT.2.2.2 U U (heq a b);simp only [j8] at this;simp only [Op.equal,Op.maxDepth,Ae w 9999 t _ _ hT.1 hT.2.1,this]
theorem zkZ {α β:Type}[DecidableEq α](m:List (α×β))(a:α)(b:β):znk (YM m a b) a=znk m a:=by
 have key:∀ (m:List (α×β)) (k:Nat),((XT (YM m a b) a k).map (·.1)).getD (k+(YM m a b).length)=((XT m a k).map (·.1)).getD (k+m.length):=by
  intro m
  induction m with
  | nil=>intro k;simp [YM,XT]
  | cons p m ih=>
   intro k;unfold YM;by_cases h:p.1=a
   ·rw [jb h];simp [XT,h]
   ·rw [ja h];simp only [XT,ja h,jw];have:=ih (k+1);rw [show k+((YM m a b).length+1)=k+1+(YM m a b).length by omega,show k+(m.length+1)=k+1+m.length by omega];exact this
 have:=key m 0;simpa [znk] using this
theorem OwnS.val {e size n:Nat}{v:Value}{xs:List Value}{L:Loc}(h:OwnS e size v n xs L):∃ a m c,v= .slice a m c:=by
 rcases h.2 with ⟨h1,_⟩ | ⟨b,c,cur,h1,_⟩
 ·exact ⟨_,_,_,h1⟩
 ·exact ⟨_,_,_,h1⟩
theorem zfb {α β:Type}[DecidableEq α]:∀ (m:List (α×β)) (a:α) (b c:β),YM (YM m a b) a c=YM m a c
 | [],a,b,c=>by simp [YM]
 | p::m,a,b,c=>by
  by_cases h:p.1=a
  ·simp [YM,h]
  ·simp only [YM,ja h,zfb m a b c]
section
variable {P:Program} {fn:Func} {R:Ending->World->Prop} {N:Nat} {g:World} {I H:Qt} {loc:Loc} {E:Env} {r:Option Nat}
theorem Zl {t u tt n b:Nat}{vs:List Value}{v':Value}(hr:fn.results= #[.cell t tt,.tmp u])(hv:Jl E t=some (.pointer (some ⟨b,0,none⟩)))(hv':Jl E u=some v')(hA:AgT P tt n)(hc:Cells I loc b 0 vs)(hn:vs.length=n)
  (h:∀ w,St g I H loc w->R (.returned (.tuple #[.agg vs.toArray,v'])) w):At ⟨P,r,N,[],g,H⟩ (bodyPost P fn R) .ret E I loc:=fun a w ha hw=>
 ⟨ha.defers,.tuple #[.agg vs.toArray,v'],by
  have e1:=ha.env _ _ hv;have e2:=ha.env _ _ hv';rw [Ok] at e1 e2
  have h1:(loadCells ⟨b,0,none⟩ n).run P w= .ok vs.toArray w:=by
   rw [<-hn];exact As w _ _ fun j v hj=>by rw [Yn];exact (hc j v hj).get hw
  have hA':=hA;obtain ⟨_,i,h2,h3⟩:=hA'
  have l1:(loadVar tt ⟨b,0,none⟩).run P w= .ok (.agg vs.toArray) w:=by
   simp only [loadVar,jg,jl,Y6 hA,Result.andThen,Oj,run_sizeOf h2,h3,h1]
  simp only [results,hr]
  simp [e1,e2,asAddr,l1],h w hw⟩
end
end Go.Kn
namespace Go.Kn
open Go
section
variable {C:Cx} {Q:Exit->Act->World->Prop} {E G:Env} {I I':Qt} {loc loc' L R:Loc} {ops:Array Oper} {rest:List Oper} {S:GS} {b:Bool}
variable {d:Nat} {ty:TypeId} {pos:String} {af:Array Edge} {gd:Option (Nat×Bool)}
theorem znV {f:FuncId}{cap:List Value}{l:List Operand}{vs:List Value}{tys:Array TypeId}{cal:Operand}{K:Value->Qt->Loc->Prop}
  (he:Qv ((b,G)::S) E cal=some (.func (.func f) #[] cap.toArray))(hl:l.map (Qv ((b,G)::S) E)=vs.map some)(hF:Fun C.P f)(hc:ZS ((b,G)::S)=true->ZQ C.P f (vs++cap) I [] K)(hno:∃ v,K v I [])
  (hG:Zv ops ((b,G)::S) E ⟨some d,.call ⟨.value cal,l.toArray,tys⟩,ty,pos,af,gd⟩)(hN:Nat.blt d C.N=true)(hf:Yi ((b,G)::S) E d=true)
  (h:∀ v I' L',HLe I I'->K v I' L'->XO C Q ops rest ((b,(d,v)::G)::S) E I' (L'++loc)):
  XO C Q ops (⟨some d,.call ⟨.value cal,l.toArray,tys⟩,ty,pos,af,gd⟩::rest) ((b,G)::S) E I loc:=
 za2 he hl hF hG U hN hf .nil hc (fun _=>hno) h
end
end Go.Kn
end
namespace Go.Proofs.YtmbjmjbjdgjonaaGreatDoor
section
open Go Go.Kn Go.Proofs
theorem zkH:Fun Tryz.prog 141:=.of Tryz.func141 kA kA
theorem zg3:Fun Tryz.prog 145:=.of Tryz.func145 kA kA
theorem zhi:Fun Tryz.prog 149:=.of Tryz.func149 kA kA
theorem zlL:Fun Tryz.prog 152:=.of Tryz.func152 kA kA
theorem zm9:Fun Tryz.prog 193:=.of Tryz.func193 kA kA
theorem zrI:Fun Tryz.prog 28:=.of Tryz.func28 kA kA
theorem zfr:Fun Tryz.prog 32:=.of Tryz.func32 kA kA
theorem zAn:Fun Tryz.prog 62:=.of Tryz.func62 kA kA
theorem zlD:Fun Tryz.prog 63:=.of Tryz.func63 kA kA
theorem zB8:Fun Tryz.prog 64:=.of Tryz.func64 kA kA
theorem ziT:Fun Tryz.prog 79:=.of Tryz.func79 kA kA
theorem zAk:Fun Tryz.prog 80:=.of Tryz.func80 kA kA
theorem Qq:ScT Tryz.prog 3:=.of kA
theorem QK:ScT Tryz.prog 37:=.of kA
theorem Zn:SlT Tryz.prog 33 37 1:=.of kA
theorem Qx:SlT Tryz.prog 37 3 1:=.of kA
def Q3 (n:Int):List Value:=[.int .i64 n]
structure Hd where
 a:Option Addr
 n:Nat
 c:Nat
def KU (h:Hd):List Value:=[.slice h.a h.n h.c]
theorem Zh (x:Int):(Q3 x).length=1:=rfl
theorem K5 (x:Hd):(KU x).length=1:=rfl
theorem JH (xs:List Int):YP (xs.flatMap Q3)=true:=Vb (fun _=>U) xs
theorem zrh (xs:List Hd):YP (xs.flatMap KU)=true:=Vb (fun _=>U) xs
def zhh {α:Type}[DecidableEq α](xs ys:List α):Bool:=decide (xs=ys)
variable{α:Type}
theorem zfz [DecidableEq α](xs:List α):zhh xs xs=true:=jX U
variable{I:Qt}{size n c k:Nat}{enc:α->List Value}{av:Option Addr}
theorem _root_.Go.Kn.Sl.at {xs:List α}(h:Sl I size enc av n c xs)(hk:k<n):∃ x,xs[k]? =some x:=
 ⟨_,je (by rw [h.len];exact hk)⟩
theorem V7 {p:Nat->Bool}(h:(List.range k).all p=true)(hp:p k=true):(List.range (k+1)).all p=true:=by rw [Ou,Au,h];simpa using hp
theorem JW {p:Nat->Bool}(hk:k<n)(hp:p k=false):(List.range n).all p=false:=by
 cases h:(List.range n).all p with
 | false=>rfl
 | true=>
  rw [ji] at h;rw [h k (jm.2 hk)] at hp;cases hp
variable{x d:α}
theorem Q1 {xs:List α}(h:xs[k]? =some x):xs.getD k d=x:=by simp [List.getD,h]
theorem Zc {xs:List α}(hl:xs.length=n)(h:k<n):xs[k]? =some (xs.getD k d):=by have:k<xs.length:=kB;unfold List.getD;rw [je this];rfl
def SlH (I:Qt)(av:Option Addr)(n c:Nat)(hs:List Hd)(vss:List (List Int)):Prop:=Sl I 1 KU av n c hs/\hs.length=vss.length/\∀ (k:Nat) (h:Hd) (v:List Int),hs[k]? =some h->vss[k]? =some v->Sl I 1 Q3 h.a h.n h.c v
def SlN (I:Qt)(av:Option Addr)(n c:Nat)(vss:List (List Int)):Prop:=∃ hs:List Hd,SlH I av n c hs vss
variable{I':Qt}{hs:List Hd}{vss:List (List Int)}
theorem SlH.mono (h:SlH I av n c hs vss)(hI:HLe I I'):SlH I' av n c hs vss:=
 ⟨h.1.mono hI,h.2.1,fun k h' v a b=>(h.2.2 k h' v a b).mono hI⟩
theorem SlN.mono (h:SlN I av n c vss)(hI:HLe I I'):SlN I' av n c vss:=by obtain ⟨hs,h1⟩:=h;exact ⟨hs,h1.mono hI⟩
theorem SlH.len (h:SlH I av n c hs vss):vss.length=n:=by rw [<-h.2.1,h.1.len]
theorem SlN.len (h:SlN I av n c vss):vss.length=n:=by obtain ⟨hs,h1⟩:=h;exact h1.len
theorem SlH.at (h:SlH I av n c hs vss)(hk:k<n):∃ hd v,hs[k]? =some hd/\vss[k]? =some v/\Sl I 1 Q3 hd.a hd.n hd.c v:=by obtain ⟨hd,hh⟩:=h.1.at hk;have hl:=h.len;have hv:vss[k]? =some (vss[k]' kB):=je _;exact ⟨hd,_,hh,hv,h.2.2 k hd _ hh hv⟩
def zoJ {α:Type}(e:Int)(xs:List α):List α:=if e≠0 then [] else xs
variable{e:Int}
theorem zdO {xs:List α}(h:e≠0):zoJ e xs=[]:=by unfold zoJ;rw [jb h]
theorem zal {xs:List α}(h:e=0):zoJ e xs=xs:=by unfold zoJ;rw [ja kB]
variable{R:α->α->Prop}
theorem Ky (ht:∀ a b c,R a b->R b c->R a c){l:List α}(h:∀ k (hk:k+1<l.length),R (l[k]' kB) l[k+1]):l.Pairwise R:=by
 have key:∀ (n i:Nat) (hn:i+n<l.length),0<n->R (l[i]' kB) l[i+n]:=by
  intro n
  induction n with
  | zero=>intro i _ h0;omega
  | succ n ih=>
   intro i hn _;have h2:=h (i+n) kB;by_cases e:n=0
   ·subst e;exact h2
   ·exact ht _ _ _ (ih i kB kB) h2
 rw [jM];intro i j hi hj hij;have:=key (j-i) i kB kB;simpa [show i+(j-i)=j by omega] using this
def Z5 (s:Int):Bool:=decide (s>0)&&(JK s (IntKind.i64.wrap (s-1))==0)
def WK (cl:List Int)(s:Int):Bool:=cl.any (fun c=>c==s)||Z5 s
def zey (a c:Int):Bool:=JK a (IntKind.i64.wrap (0-a))==JK c (IntKind.i64.wrap (0-c))
def JZ (cl:List Int)(c a:Int):Bool:=(JK a c==a)&&zey a c&&WK cl a&&WK cl (c-a)
def Us (cl:List Int)(c:Int)(a:Nat):Int:=match (List.range' a (c.toNat -a)).find? (fun k:Nat=>JZ cl c (k:Int)) with | none=>0 | some k=>(k:Int)
def Qw (cl:List Int)(c:Int):Int:=Us cl c 1
def Ko (all:Int)(cl:List Int)(i:Nat):Bool:= !(((decide (cl.getD i 0<1))||decide (cl.getD i 0>all))||(decide ((i:Int)>0)&&decide (cl.getD i 0<=cl.getD ((i:Int)-1).toNat 0)))
def YY (n:Int):Int:=IntKind.i64.wrap (1*2^(min n.toNat IntKind.i64.bits))-1
def V4 (n:Int)(cl:List Int):Int:=
 if n>6 then 2 else if decide (n<1)||decide ((cl.length:Int)≠n-1) then 420
 else if !(List.range cl.length).all (Ko (YY n) cl) then 420
 else if decide (n>1)&&decide (cl.getD (n-2).toNat 0≠YY n) then 420
 else if cl.any (fun c=>Qw cl c==0) then 420 else 0
theorem zfj {n:Int}(h:1<=n/\n<=6):2<=IntKind.i64.wrap (1*2^(min n.toNat IntKind.i64.bits))/\IntKind.i64.wrap (1*2^(min n.toNat IntKind.i64.bits))<=64:=by have:n=1\/n=2\/n=3\/n=4\/n=5\/n=6:=kB;rcases this with e | e | e | e | e | e<;>subst e<;>decide
theorem WA {n:Int}(h:1<=n/\n<=6):1<=YY n/\YY n<=63:=by have:=zfj h;unfold YY;omega
variable{all:Int}{cl:List Int}
theorem zd5 (h:(List.range cl.length).all (Ko all cl)=true){x:Int}(hx:cl[k]? =some x):1<=x/\x<=all:=by have h1:=ji.1 h k (jm.2 (jc.1 hx).1);unfold Ko at h1;rw [Q1 hx] at h1;simp at h1;omega
theorem zCQ {n:Int}(h:n>6):V4 n cl=2:=by unfold V4;rw [jb h]
theorem zB0 {n:Int}(h:¬n>6)(h2:(decide (n<1)||decide ((cl.length:Int)≠n-1))=true):V4 n cl=420:=by unfold V4;rw [ja h,jb h2]
theorem zz2 {n:Int}(h:¬n>6)(h2:(decide (n<1)||decide ((cl.length:Int)≠n-1))=false)(h3:(List.range cl.length).all (Ko (YY n) cl)=false):V4 n cl=420:=by unfold V4;rw [ja h,ja (by rw [h2];decide),jb (by rw [h3];rfl)]
theorem zBZ {n:Int}(h:¬n>6)(h2:(decide (n<1)||decide ((cl.length:Int)≠n-1))=false)(h3:(List.range cl.length).all (Ko (YY n) cl)=true)(h4:(decide (n>1)&&decide (cl.getD (n-2).toNat 0≠YY n))=true):V4 n cl=420:=by unfold V4;rw [ja h,ja (by rw [h2];decide),ja (by rw [h3];decide),jb h4]
theorem zsC {n:Int}(h:¬n>6)(h2:(decide (n<1)||decide ((cl.length:Int)≠n-1))=false)(h3:(List.range cl.length).all (Ko (YY n) cl)=true)(h4:(decide (n>1)&&decide (cl.getD (n-2).toNat 0≠YY n))=false):
  V4 n cl=if cl.any (fun c=>Qw cl c==0) then 420 else 0:=by
 unfold V4;rw [ja h,ja (by rw [h2];decide),ja (by rw [h3];decide),ja (by rw [h4];decide)]
def QZ (b:Nat):Value:=.pointer (some ⟨b,0,none⟩)
def zBt (cl:List Int)(s:Int):Bool:=Z5 s||cl.any (fun y=>s==y)
def zad (cl:List Int)(s a:Int):Bool:=zey a s&&zBt cl a&&zBt cl (zdS s a)
def YT (s a:Int):Int:=JK (IntKind.i64.wrap (a-1)) s
def WJ (cl:List Int)(s:Int):Nat->Int->Option Int
 | 0,_=>none
 | f+1,a=>if decide (a>0) then (if zad cl s a then some a else WJ cl s f (YT s a)) else none
def zax (cl:List Int)(s:Int):Option Int:=WJ cl s 64 (YT s s)
theorem zkL:((List.range 64).all fun a=>(List.range 64).all fun s=>decide (0<=JK (a:Int) (s:Int))&&decide (JK (a:Int) (s:Int)<=(a:Int)))=true:=kA
variable{a s:Int}
theorem zBA (ha:0<=a/\a<=63)(hs:0<=s/\s<=63):0<=JK a s/\JK a s<=a:=by have h:=ji.1 (ji.1 zkL a.toNat (jm.2 kB)) s.toNat (jm.2 kB);rw [show ((a.toNat:Nat):Int)=a by omega,show ((s.toNat:Nat):Int)=s by omega] at h;simpa using h
theorem zdo (ha:0<a/\a<=63)(hs:0<=s/\s<=63):0<=YT s a/\YT s a<=a-1:=by unfold YT;rw [zdp kB];exact zBA kB hs
variable{f:Nat}
theorem zkv (h:a>0)(hp:zad cl s a=true):WJ cl s (f+1) a=some a:=by unfold WJ;rw [jb (by simpa using h),jb hp]
theorem zjQ (h:a>0)(hp:zad cl s a=false):WJ cl s (f+1) a=WJ cl s f (YT s a):=by rw [show WJ cl s (f+1) a=if decide (a>0) then (if zad cl s a then some a else WJ cl s f (YT s a)) else none from U,jb (by simpa using h),ja (by rw [hp];decide)]
theorem znJ (h:¬a>0):WJ cl s f a=none:=by
 cases f with
 | zero=>rfl
 | succ f=>rw [show WJ cl s (f+1) a=if decide (a>0) then (if zad cl s a then some a else WJ cl s f (YT s a)) else none from U,ja (by simpa using h)]
def zgm (cl:List Int)(s:Int):Int:=match zax cl s with | some a=>a | none=>0
def zge (cl:List Int)(s:Int):Int:=match zax cl s with | some a=>zdS s a | none=>0
def Vo (m:Int)(cl:List Int)(s:Int):Int:=if V4 m cl≠0 then V4 m cl else if cl.any (fun c=>c==s) then 0 else 1
def zcS (m:Int)(cl:List Int)(s:Int):Int:=if Vo m cl s≠0 then 0 else Qw cl s
def zcQ (m:Int)(cl:List Int)(s:Int):Int:=if Vo m cl s≠0 then 0 else s-Qw cl s
variable{m:Int}
theorem zjW (h:V4 m cl≠0):Vo m cl s=V4 m cl:=by unfold Vo;rw [jb h]
theorem zg6 (h:V4 m cl=0)(h2:cl.any (fun c=>c==s)=false):Vo m cl s=1:=by unfold Vo;rw [ja kB,ja (by rw [h2];decide)]
theorem zf2 (h:V4 m cl=0)(h2:cl.any (fun c=>c==s)=true):Vo m cl s=0:=by unfold Vo;rw [ja kB,jb h2]
theorem zjL (h:Vo m cl s≠0):zcS m cl s=0/\zcQ m cl s=0:=by unfold zcS zcQ;rw [jb h,jb h];exact ⟨U,U⟩
theorem zkp (h:Vo m cl s=0):zcS m cl s=Qw cl s/\zcQ m cl s=s-Qw cl s:=by unfold zcS zcQ;rw [ja kB,ja kB];exact ⟨U,U⟩
theorem ZZ (h:V4 m cl=0):1<=m/\m<=6/\(cl.length:Int)=m-1/\∀ c∈cl,1<=c/\c<=63:=by
 unfold V4 at h;split at h
 ·cases h
 ·rename_i h1;split at h
  ·cases h
  ·rename_i h2;split at h
   ·cases h
   ·rename_i h3;simp at h2 h3;refine ⟨kB,kB,kB,fun c hc=>?_⟩;obtain ⟨k,hk⟩:=jC hc;have h4:(List.range cl.length).all (Ko (YY m) cl)=true:=(by rw [ji];intro x hx;exact h3 x (jm.1 hx));have:=zd5 h4 hk;have:=WA (n:=m) kB;omega
theorem zde (I:Qt)(s:Int):Zt Tryz.prog 145 [.int .i64 s] I (.bool (Z5 s)):=by intro g H w hw;refine qe Tryz.func145 Tryz.ntmps145 hw ?_;refine zR (zA ?_);refine zN (zR ?_);refine zM ?_;refine zC ?_;refine zM ?_;refine QA 2 U U U ?_;refine zK (Qj U) ?_;refine zK (Qj U) ?_;refine zK (KB U U U) ?_;refine zK (Uu U U) ?_;refine zK (QI U U U) ?_;refine QE U U U U U ?_;refine zA (zN (Qr ?_));exact zr U U kL
variable{p:α->Bool}
theorem VP {xs:List α}(hx:xs[k]? =some x)(h:(xs.take k).any p=false)(hp:p x=false):(xs.take (k+1)).any p=false:=by rw [zc0 hx,h,hp];rfl
theorem UO {xs:List α}(hx:xs[k]? =some x)(hp:p x=true):xs.any p=true:=ju.2 ⟨x,jd hx,hp⟩
def Wx {α:Type}(p:α->Bool)(xs:List α):Int:=if xs.any p then (xs.findIdx p:Int) else -1
theorem JX {xs:List α}(h:(xs.take k).any p=false)(hx:xs[k]? =some x)(hp:p x=true):Wx p xs=k:=by
 unfold Wx;rw [UO hx hp,jb rfl];have hk:=(jc.1 hx).1
 have:xs.findIdx p=k:=by
  rw [List.findIdx_eq hk];refine ⟨by rw [(jc.1 hx).2];exact hp,fun j hj=>?_⟩;have:=jJ.1 h xs[j] (by rw [Af];exact ⟨j,kB,U⟩);simpa using this
 omega
theorem Jm {xs:List α}(hl:xs.length=n)(hk:n<=k)(h:(xs.take k).any p=false):Wx p xs= -1:=by unfold Wx;rw [ZJ hl hk] at h;rw [h];rfl
theorem UB {xs:List α}:decide (Wx p xs>=0)=xs.any p:=by
 unfold Wx;cases h:xs.any p
 ·rfl
 simp
variable{xs:List Int}
theorem zxQ (hS:Sl I 1 Q3 av n c xs)(hn:n<=100000)(v:Int):Zt Tryz.prog 80 [.slice av n c,.int .i64 v] I (.int .i64 (Wx (fun y=>v==y) xs)):=by
 intro g H w hw;refine qe Tryz.func80 Tryz.ntmps80 hw ?_;refine zR (zA (zN (Ql (zR ?_))));refine zM ?_;refine zQ Qx ?_;refine zM (zN (Qp ?_));refine zU [(0,_),(1,_),(7,_)] (fun T L0 mz E I' loc'=>∃ (k:Nat),mz=n-k/\E=(8,.int .i64 k)::T/\I=I'/\L0=loc'/\k<=n/\(xs.take k).any (fun y=>v==y)=false) ?_ (h:=⟨0,U,U,U,U,jf _,U⟩);rintro mz E I' loc' ⟨k,rfl,rfl,rfl,rfl,hk,hno⟩;refine zR (zC (zN (Ql ?_)));refine zI ?_ ?_<;>intro hc9
 ·have hlt_k:k<n:=(by have h:=hc9;simp at h;omega);obtain ⟨x,hx⟩:=hS.at hlt_k;refine Qo (Qa (Ql (Qp (zR (zM ?_)))));refine zA ?_;refine zN (zR ?_);refine zM ?_;refine zM ?_;refine zM ?_;refine zV (Qy U U Qx kI (fun hg=>kB)) ?_;refine zV (Qd U Qq (fun hg=>by exact zGG hS hx U)) ?_;refine zC (zN ?_);refine zI ?_ ?_<;>intro hc16
  ·refine zR (zM ?_);refine zA (zN (Qr (Qn (Qc (Qc (Qn (Qc ?_)))))));exact zr U U (by rw [JX hno hx hc16])
  refine Qo (Qg (Qa (Qf (zB ?_))));refine zM (Qb ?_);exact zm (h:=⟨n-(k+1),kB,k+1,U,U,U,U,kB,VP hx hno hc16⟩)
 have hge_k:n<=k:=(by have h:=hc9;simp at h;omega);refine QF (Qh (Qh (Qm (Qa (zR (zA (zN ?_)))))));refine Qr ?_;exact zr U U (by rw [Jm hS.len hge_k hno])
theorem KJ (hS:Sl I 1 Q3 av n c xs)(hn:n<=100000)(v:Int):Zt Tryz.prog 32 [.slice av n c,.int .i64 v] I (.bool (xs.any (fun y=>v==y))):=by
 intro g H w hw;refine qe Tryz.func32 Tryz.ntmps32 hw ?_;refine zR (zA ?_);refine zN (zR ?_);refine zM ?_;refine zM ?_;refine qcV (vs:=[_,_]) U zAk (zxQ hS hn v) ?_;refine zC ?_;refine zA (zN (Qr ?_))
 first
 | exact zr U U (by rw [<-UB])
variable{b:Nat}
theorem zDb (hc:QB I [] b 0 (.slice av n c))(hS:Sl I 1 Q3 av n c xs)(hn:n<=100000)(s:Int):Zt Tryz.prog 193 [.int .i64 s,QZ b] I (.bool (zBt xs s)):=by intro g H w hw;refine qe Tryz.func193 Tryz.ntmps193 hw ?_;refine zR (zA ?_);refine zN (zR ?_);refine zM ?_;refine qcV (vs:=[_]) U zg3 (zde I _) ?_;refine zM ?_;refine Q8 2 U U U ?_;refine zJ (Qd U QK (fun hg=>by exact hc.any)) ?_;refine zJ (Qj U) ?_;refine qf (vs:=[_,_]) U zfr (fun hg=>KJ hS hn _) ?_;refine ZO U U U U U ?_;refine zA (zN (Qr ?_));exact zr U U kL
theorem zhb (hS:Sl I 1 Q3 av n c xs)(hn:n<=100000)(s:Int)(hs:1<=s/\s<=63):Zt Tryz.prog 149 [.slice av n c,.int .i64 s] I (.tuple #[.int .i64 (zgm xs s),.int .i64 (zge xs s),.bool (zax xs s).isSome]):=by
 intro g H w hw;refine qe Tryz.func149 Tryz.ntmps149 hw ?_;have hIc:=zGN I;refine zR ?_;refine QG U U U (fun b_2=>?_);refine zA ?_;refine zA ?_;refine zA (zN (Ql ?_));refine QQ .here (fun I1 hI1 hb1=>?_);have hS:=hS.mono hI1;have hIc:=hIc.trans hI1;have hbx:=hb1;refine Qf ?_;refine zV (QN (us:=[]) (vs:=[_]) U U) ?_;refine zA (zN (Ql (zR ?_)));refine zM ?_;refine zV (KB U U U) ?_;refine zM ?_;refine zV (Uu U U) ?_;refine zA (Qb ?_);have hn0:=zdo (a:=s) (s:=s) kB kB;refine Qa (Qp ?_);refine zU [(1,_),(7,_)] (fun T L0 mz E I' loc'=>∃ (a:Int) (f:Nat),mz=a.toNat/\E=(8,.int .i64 a)::T/\I1=I'/\L0=loc'/\0<=a/\a<=63/\a.toNat<f/\zax xs s=WJ xs s f a) ?_ (h:=⟨YT s s,64,U,U,U,U,hn0.1,kB,kB,U⟩);rintro mz E I' loc' ⟨a,f,rfl,rfl,rfl,rfl,ha0,ha1,haf,hpf⟩;refine Ql (zR (zM ?_));refine zC (zN ?_);refine zI ?_ ?_<;>intro hc15
 ·have ha:a>0:=(by simpa using hc15);obtain ⟨f,rfl⟩:∃ q,f=q+1:=⟨f-1,kB⟩;have hna:=zdo (a:=a) (s:=s) kB kB;have hlt2:(YT s a).toNat<a.toNat:=kB;refine Qo (Qa (Ql (Qp (zR (zM ?_)))));refine zM ?_;refine zV (zfg U) ?_;refine zV (Uu U U) ?_;refine zM ?_;refine zM ?_;refine zV (zfg U) ?_;refine zV (Uu U U) ?_;refine zC ?_;refine zM ?_;refine QA 9 U U U ?_;refine zK (Qj U) ?_;refine zK (Qj U) ?_;refine UH (cap:=[QZ b_2]) (vs:=[_]) U U zm9 (fun hg=>zDb (.imm hbx U) hS hn _) (.some U U U U gbt) U U ?_;refine QE U U U U U ?_;refine zM ?_;refine QA 14 U U U ?_;refine zK (Qj U) ?_;refine zK (Qj U) ?_;refine zK (Qj U) ?_;refine zK (zbj U U) ?_;refine UH (cap:=[QZ b_2]) (vs:=[_]) U U zm9 (fun hg=>zDb (.imm hbx U) hS hn _) (.some U U U U gbt) U U ?_;refine QE U U U U U ?_;refine zN ?_;refine zI ?_ ?_<;>intro hc40
  ·have hv:zax xs s=some a:=(by rw [hpf,zkv ha (by unfold zad zey;simpa using hc40)]);refine zR (zM ?_);refine zM ?_;refine zM ?_;refine zV (zbj U U) ?_;refine zA ?_;refine zA ?_;refine zA (zN (Qr (Qn (Qc (Qc (Qn (Qc ?_)))))));exact KD U U U U (fun w hw=>⟨by unfold zgm zge;rw [hv];rfl,(hw.mono hIc).drop⟩)
  have hpf2:zax xs s=WJ xs s f (YT s a):=(by rw [hpf,zjQ ha (by unfold zad zey;simpa using hc40)]);refine Qo (Qg (Qa (Qf (zM ?_))));refine zV (KB U U U) ?_;refine zM ?_;refine zV (Uu U U) ?_;refine zA (Qb ?_);exact zm (h:=⟨_,hlt2,YT s a,f,U,U,U,U,hna.1,kB,kB,hpf2⟩)
 have ha:¬a>0:=(by simpa using hc15);have hv:zax xs s=none:=(by rw [hpf,znJ ha]);refine QF (Qh (Qh (Qm (Qa (zR (zA ?_))))));refine zA ?_;refine zA (zN (Qr ?_));exact KD U U U U (fun w hw=>⟨by unfold zgm zge;rw [hv];rfl,(hw.mono hIc).drop⟩)
def zct (s:Int):Nat->Int->List Int
 | 0,_=>[]
 | f+1,a=>if decide (a>0) then a::zct s f (YT s a) else []
theorem zat {cl:List Int}{s:Int}:∀ (f:Nat) (a:Int),WJ cl s f a=(zct s f a).find? (zad cl s)
 | 0,_=>rfl
 | f+1,a=>by
  unfold WJ zct;split
  ·rw [OZ,zat f];cases zad cl s a<;>rfl
  ·rfl
def zsF (s:Nat):List Int:=((List.range' 1 (s-1)).map (fun k:Nat=>(k:Int))).filter (fun a=>JK a s==a)
theorem zg9:((List.range 64).all fun s=>decide (zct (s:Int) 64 (YT s s)=(zsF s).reverse)&&(zsF s).all (fun a=>zdS s a==s-a))=true:=kA
theorem zf9 (h1:JK a s=a)(h2:zdS s a=s-a):zad cl s a=JZ cl s a:=by
 have hown:∀ x,zBt cl x=WK cl x:=fun x=>by
  unfold zBt WK;rw [Bool.or_comm];congr 1;congr 1;funext y;exact jL.2 (by simp;exact eq_comm)
 unfold zad JZ;rw [h1,h2,hown,hown];simp
theorem zeM (hs:1<=s/\s<=63):(zax cl s).isSome= !(Qw cl s==0):=by
 obtain ⟨n,rfl⟩:∃ n:Nat,s=(n:Int):=⟨s.toNat,kB⟩;have ht:=ji.1 zg9 n (jm.2 kB);rw [jj,jQ] at ht;have hl:=ji.1 ht.2
 have e1:(zax cl n).isSome=(zsF n).any (zad cl n):=by
  unfold zax;rw [zat,ht.1];exact jL.2 (by rw [BV,ju];simp)
 have e2:(zsF n).any (zad cl n)=(List.range' 1 (n-1)).any (fun k:Nat=>JZ cl n k):=by
  unfold zsF at hl ⊢;rw [jL,ju,ju];constructor
  ·rintro ⟨a,ha,hp⟩;have hla:=hl a ha;rw [jF,jt] at ha;obtain ⟨⟨k,hk,rfl⟩,h2⟩:=ha;exact ⟨k,hk,by rw [<-zf9 (by simpa using h2) (by simpa using hla)];exact hp⟩
  ·rintro ⟨k,hk,hp⟩
   have h2:JK (k:Int) n=k:=by
    unfold JZ at hp;simp only [jj,j0] at hp;exact hp.1.1.1
   have hm:(k:Int)∈((List.range' 1 (n-1)).map (fun k:Nat=>(k:Int))).filter (fun a=>JK a n==a):=jF.2 ⟨jt.2 ⟨k,hk,U⟩,by simpa using h2⟩;exact ⟨k,hm,by rw [zf9 h2 (by simpa using hl _ hm)];exact hp⟩
 rw [e1,e2];unfold Qw Us;rw [show (n:Int).toNat -1=n-1 by omega]
 cases e:(List.range' 1 (n-1)).find? (fun k:Nat=>JZ cl n k) with
 | none=>
  rw [Or] at e;simp only [B6,BQ];rw [jJ];exact e
 | some k=>
  have hk:=OA e;have hp:=Av e;rw [List.mem_range'] at hk;obtain ⟨i,hi,e3⟩:=hk;have:((k:Int)==0)=false:=beq_false_of_ne kB;simp only [this,Bool.not_false];exact ju.2 ⟨k,OA e,hp⟩
def zkn (xs:List Int)(k:Nat)(l:Int):Prop:=(k=0->l=0)/\∀ y,xs[k-1]? =some y->k≠0->l=y/\1<=y
variable{l:Int}
theorem zhY {x b:Int}(hx:xs[k]? =some x)(hl:zkn xs k l):Ko (b-1) xs k= !(decide (x<=l)||decide (x>=b)):=by
 unfold Ko;rw [Q1 hx]
 cases k with
 | zero=>
  rw [hl.1 rfl];simp only [show decide (((0:Nat):Int)>0)=false from U,Bc,OL];congr 1;rw [jL];simp;omega
 | succ k=>
  have hk:=(jc.1 hx).1;have hy:xs[k]? =some (xs[k]' kB):=je _;obtain ⟨e,h1⟩:=hl.2 _ (by rw [Ba];exact hy) kB;rw [show (((k+1:Nat):Int)-1).toNat=k by omega,Q1 hy,<-e];rw [<-e] at h1;congr 1;rw [jL];simp;omega
theorem zjD {x:Int}(hx:xs[k]? =some x)(_hl:zkn xs k l)(h:l<x)(h0:0<=l):zkn xs (k+1) x:=
 ⟨fun h=>kB,fun y hy _=>by rw [Ba,hx] at hy;cases hy;exact ⟨U,kB⟩⟩
theorem zfv (hl:zkn xs k l)(hk:xs.length=k)(hm:(xs.length:Int)=m-1)(h1:m>1):xs.getD (m-2).toNat 0=l:=by have hk0:k≠0:=kB;have hy:xs[k-1]? =some (xs[k-1]' kB):=je _;rw [show (m-2).toNat=k-1 by omega,Q1 hy,(hl.2 _ hy hk0).1]
def iA (m:Int)(cl:List Int)(s:Int):Int:=if Vo m cl s≠0 then 0 else zgm cl s
def iB (m:Int)(cl:List Int)(s:Int):Int:=if Vo m cl s≠0 then 0 else zge cl s
theorem zmg (h:Vo m cl s≠0):iA m cl s=0/\iB m cl s=0:=by unfold iA iB;rw [jb h,jb h];exact ⟨U,U⟩
theorem zCH (h:Vo m cl s=0):iA m cl s=zgm cl s/\iB m cl s=zge cl s:=by unfold iA iB;rw [ja kB,ja kB];exact ⟨U,U⟩
theorem zlR :cl.any (fun y=>s==y)=cl.any (fun c=>c==s):=by congr 1;funext y;exact jL.2 (by simp;exact eq_comm)
theorem zlO (hS:Sl I 1 Q3 av n c xs)(m:Int):Zt Tryz.prog 152 [.int .i64 m,.slice av n c] I (.int .i64 (V4 m xs)):=by
 intro g H w hw;refine qe Tryz.func152 Tryz.ntmps152 hw ?_;refine zR (zA (zN (Ql (Qp (zR ?_)))));refine zM ?_;refine zC ?_;refine zA (zN ?_);refine zI ?_ ?_<;>intro hc13
 ·have h6:m>6:=(by simpa using hc13);refine zR (zA (zN (Qr (Qn (Qc ?_)))));exact zr U U (by rw [zCQ h6])
 have h6:¬m>6:=(by simpa using hc13);refine zR (zM ?_);refine zC ?_;refine zM ?_;refine Q8 2 U U U ?_;refine zJ (Qj U) ?_;refine zJ (ZX U Qx) ?_;refine zJ (Qj U) ?_;refine zJ (ZL U U U (fun hg=>by (simp [ZS] at hg;omega))) ?_;refine zJ (QI U U U) ?_;refine ZO U U U U U ?_;refine zA (zN ?_);refine zI ?_ ?_<;>intro hc16
 ·have h18:(decide (m<1)||decide ((xs.length:Int)≠m-1))=true:=(by rw [hS.len];simpa using hc16);refine zR (zA (zN (Qr (Qn (Qc ?_)))));exact zr U U (by rw [zB0 h6 h18])
 have h18:(decide (m<1)||decide ((xs.length:Int)≠m-1))=false:=(by rw [hS.len];simpa using hc16);have hm:1<=m/\m<=6/\(n:Int)=m-1:=(by rw [hS.len] at h18;simp at h18;omega);have hn:n<=100000:=kB;have hsh:=zfj ⟨hm.1,hm.2.1⟩;have hal:=WA ⟨hm.1,hm.2.1⟩;refine Qo (Qg (Qa (zR (zA (zN (Ql (zR ?_)))))));refine zM ?_;refine zQ Qx ?_;refine zM (zN (Qp ?_));refine zU [(0,_),(1,_),(26,_),(27,_)] (fun T L0 mz E I' loc'=>∃ (k:Nat) (l:Int),mz=n-k/\E=(5,.int .i64 l)::(28,.int .i64 k)::T/\I=I'/\L0=loc'/\k<=n/\(List.range k).all (Ko (YY m) xs)=true/\zkn xs k l/\0<=l) ?_ (h:=⟨0,0,U,U,U,U,jf _,U,⟨fun _=>U,fun _ _ h=>absurd U h⟩,Aq _⟩);rintro mz E I' loc' ⟨k,l,rfl,rfl,rfl,rfl,hk,hall,hl,hl0⟩;refine zR (zC (zN (Ql ?_)));refine zI ?_ ?_<;>intro hc29
 ·have hlt_k:k<n:=(by have h:=hc29;simp at h;omega);obtain ⟨x,hx⟩:=hS.at hlt_k;refine Qo (Qa (Ql (Qp (zR ?_))));refine zV (Qy U U Qx kI (fun hg=>kB)) ?_;refine zV (Qd U Qq (fun hg=>by exact zGG hS hx U)) ?_;refine zA (zN (Ql (zR ?_)));refine zM ?_;refine zM ?_;refine zC ?_;refine zM ?_;refine Q8 3 U U U ?_;refine zJ (Qj U) ?_;refine zJ (Qj U) ?_;refine zJ (zaA U U (fun hg=>kB)) ?_;refine zJ (QI U U U) ?_;refine ZO U U U U U ?_;refine zN ?_;refine zI ?_ ?_<;>intro hc40
  ·refine zR (zA (zN (Qr (Qc (Qn (Qc (Qc ?_)))))));refine Qn (Qc ?_)
   first
   | exact zr U U (by rw [zz2 h6 h18 (by rw [hS.len];exact JW hlt_k (by unfold YY;rw [zhY hx hl,hc40];rfl))])
  have hlx:l<x:=(by simp at hc40;omega);refine Qo (Qa (Qf (zM ?_)));refine zA (Qb (Qg (Qa (Qf ?_))));refine zB ?_;refine zM (Qb ?_);exact zm (h:=⟨n-(k+1),kB,k+1,x,U,U,U,U,kB,V7 hall (by unfold YY;rw [zhY hx hl,hc40];rfl),zjD hx hl hlx hl0,kB⟩)
 have hge_k:n<=k:=(by have h:=hc29;simp at h;omega);have hall0:(List.range xs.length).all (Ko (YY m) xs)=true:=(by rw [hS.len,show n=k by omega];exact hall);have hnk:n=k:=kB;refine QF (Qh (Qh (Qm (Qa (Ql (zR (zM ?_)))))));refine zC ?_;refine zM ?_;refine QA 2 U U U ?_;refine zK (Qj U) ?_;refine zK (Qj U) ?_;refine zK (zaA U U (fun hg=>kB)) ?_;refine zK (ZL U U U (fun hg=>kB)) ?_;refine zK (QI U U U) ?_;refine QE U U U U U ?_;refine zN ?_;refine zI ?_ ?_<;>intro hc51
 ·have h67:(decide (m>1)&&decide (xs.getD (m-2).toNat 0≠YY m))=true:=(by have h:=hc51;simp only [jj,jQ] at h;rw [zfv hl (by rw [hS.len];exact hnk) (by rw [hS.len];exact hm.2.2) h.1];unfold YY;simpa using hc51);refine zR (zA (zN (Qr (Qc ?_))));exact zr U U (by rw [zBZ h6 h18 hall0 h67])
 have h67:(decide (m>1)&&decide (xs.getD (m-2).toNat 0≠YY m))=false:=(Bz (m>1)).elim (fun h1=>by rw [zfv hl (by rw [hS.len];exact hnk) (by rw [hS.len];exact hm.2.2) h1];unfold YY;simpa using hc51) (fun h1=>by rw [j1 h1];rfl);refine Qo (Qa (Ql (zR (zM ?_))));refine zQ Qx ?_;refine zM (zN (Qp ?_));refine zU [(1,_),(52,_),(53,_)] (fun T L0 mz E I' loc'=>∃ (k:Nat),mz=n-k/\E=(54,.int .i64 k)::T/\I=I'/\L0=loc'/\k<=n/\(xs.take k).any (fun c=>Qw xs c==0)=false) ?_ (h:=⟨0,U,U,U,U,jf _,U⟩);rintro mz E I' loc' ⟨k,rfl,rfl,rfl,rfl,hk,hno⟩;refine zR (zC (zN (Ql ?_)));refine zI ?_ ?_<;>intro hc55
 ·have hlt_k:k<n:=(by have h:=hc55;simp at h;omega);obtain ⟨x,hx⟩:=hS.at hlt_k;have hxa:=zd5 hall0 hx;have hps:=zeM (cl:=xs) (s:=x) kB;refine Qo (Qa (Ql (Qp (zR ?_))));refine zV (Qy U U Qx kI (fun hg=>kB)) ?_;refine zV (Qd U Qq (fun hg=>by exact zGG hS hx U)) ?_;refine zA ?_;refine zN (zR ?_);refine zM ?_;refine zM ?_;refine qcV (vs:=[_,_]) U zhi (zhb hS hn x kB) ?_;refine zM ?_;refine zE ?_;refine zE ?_;refine zE ?_;refine zA ?_;refine zA ?_;refine zA ?_;refine zN (zR ?_);refine zM ?_;refine zO (zN ?_);refine zI ?_ ?_<;>intro hc66
  ·have hsp:(Qw xs x==0)=true:=(by rw [hps] at hc66;simpa using hc66);refine zR (zA (zN (Qr (Qn (Qc (Qc (Qn ?_)))))));refine Qc ?_
   first
   | exact zr U U (by rw [zsC h6 h18 hall0 h67,UO hx hsp];rfl)
  have hsp:(Qw xs x==0)=false:=(by rw [hps] at hc66;simpa using hc66);refine Qo (Qg (Qa (Qf (zB ?_))));refine zM (Qb ?_);exact zm (h:=⟨n-(k+1),kB,k+1,U,U,U,U,kB,VP hx hno hsp⟩)
 have hge_k:n<=k:=(by have h:=hc55;simp at h;omega);rw [ZJ hS.len hge_k] at hno;refine QF (Qh (Qh (Qm (Qa (zR (zA (zN ?_)))))));refine Qr ?_
 first
 | exact zr U U (by rw [zsC h6 h18 hall0 h67,hno];rfl)
theorem zyv (hS:Sl I 1 Q3 av n c xs)(hn:n<=100000)(m s:Int):Zt Tryz.prog 73 [.int .i64 m,.slice av n c,.int .i64 s] I (.tuple #[.int .i64 (iA m xs s),.int .i64 (iB m xs s),.int .i64 (Vo m xs s)]):=by
 intro g H w hw;refine qe Tryz.func73 Tryz.ntmps73 hw ?_;refine zR (zA ?_);refine zA ?_;refine zA (zN (Ql (zR ?_)));refine zM ?_;refine zM ?_;refine qcV (vs:=[_,_]) U zlL (zlO hS _) ?_;refine zA ?_;refine zN (zR ?_);refine zM ?_;refine zC (zN ?_);refine zI ?_ ?_<;>intro hc13
 ·have hb:=zjW (s:=s) (show V4 m xs≠0 by simpa using hc13);have hb2:=zmg (show Vo m xs s≠0 by rw [hb];simpa using hc13);refine zR (zM ?_);refine zA ?_;refine zA ?_;refine zA (zN (Qr (Qc ?_)));exact KD U U U U (fun w hw=>⟨by rw [hb2.1,hb2.2,hb],hw.drop⟩)
 have hc0:V4 m xs=0:=(by simpa using hc13);refine Qo (Qa (Ql (zR (zM ?_))));refine zM ?_;refine qcV (vs:=[_,_]) U zfr (KJ hS hn _) ?_;refine zO (zN ?_);refine zI ?_ ?_<;>intro hc18
 ·have hb:=zg6 (s:=s) hc0 (by rw [<-zlR];simpa using hc18);have hb2:=zmg (show Vo m xs s≠0 by rw [hb];decide);refine zR (zA ?_);refine zA ?_;refine zA (zN (Qr (Qc ?_)));exact KD U U U U (fun w hw=>⟨by rw [hb2.1,hb2.2,hb],hw.drop⟩)
 have hin:xs.any (fun c=>c==s)=true:=(by rw [<-zlR];simpa using hc18);have hb:=zf2 hc0 hin;have hb2:=zCH hb;have hs:=(ZZ hc0).2.2.2 s (by simpa using hin);refine Qo (Qa (zR (zM ?_)));refine zM ?_;refine qcV (vs:=[_,_]) U zhi (zhb hS hn s kB) ?_;refine zM ?_;refine zE ?_;refine zE ?_;refine zE ?_;refine zA ?_;refine zA ?_;refine zN (zR ?_);refine zM ?_;refine zM ?_;refine zA ?_;refine zA ?_;refine zA (zN (Qr ?_))
 first
 | exact KD U U U U (fun w hw=>⟨by rw [hb2.1,hb2.2,hb];rfl,hw.drop⟩)
theorem zzh (I:Qt)(a:Option Addr)(n c:Nat):Zt Tryz.prog 62 [.slice a n c] I (.bool (decide ((n:Int)>64))):=by intro g H w hw;refine qe Tryz.func62 Tryz.ntmps62 hw ?_;refine zR (zA ?_);refine zN (zR ?_);refine zM ?_;refine zQ Qx ?_;refine zC ?_;refine zA (zN (Qr ?_));exact zr U U kL
theorem zvT (I:Qt)(v:Int):Zt Tryz.prog 64 [.int .i64 v] I (.bool (decide (v<0)||decide (v>8589934592))):=by intro g H w hw;refine qe Tryz.func64 Tryz.ntmps64 hw ?_;refine zR (zA ?_);refine zN (zR ?_);refine zM ?_;refine zC ?_;refine zM ?_;refine Q8 2 U U U ?_;refine zJ (Qj U) ?_;refine zJ (QI U U U) ?_;refine ZO U U U U U ?_;refine zA (zN (Qr ?_));exact zr U U kL
variable{bv:Option Addr}{n2 c2:Nat}
theorem zrf (hH:Sl I 1 KU bv n2 c2 hs)(hn:n2<=100000):Zt Tryz.prog 79 [.slice bv n2 c2,.func (.func 62) #[] #[]] I (.int .i64 (Wx (fun h:Hd=>decide ((h.n:Int)>64)) hs)):=by
 intro g H w hw;refine qe Tryz.func79 Tryz.ntmps79 hw ?_;refine zR (zA (zN (Ql (zR ?_))));refine zM ?_;refine zQ Zn ?_;refine zM (zN (Qp ?_));refine zU [(0,_),(1,_),(7,_)] (fun T L0 mz E I' loc'=>∃ (k:Nat),mz=n2-k/\E=(8,.int .i64 k)::T/\I=I'/\L0=loc'/\k<=n2/\(hs.take k).any (fun h:Hd=>decide ((h.n:Int)>64))=false) ?_ (h:=⟨0,U,U,U,U,jf _,U⟩);rintro mz E I' loc' ⟨k,rfl,rfl,rfl,rfl,hk,hno⟩;refine zR (zC (zN (Ql ?_)));refine zI ?_ ?_<;>intro hc9
 ·have hlt_k:k<n2:=(by have h:=hc9;simp at h;omega);obtain ⟨x,hx⟩:=hH.at hlt_k;refine Qo (Qa (Ql (Qp (zR (zM ?_)))));refine zA ?_;refine zN (zR ?_);refine zM ?_;refine zM ?_;refine zM ?_;refine zV (Qy U U Zn kI (fun hg=>kB)) ?_;refine zV (Qd U QK (fun hg=>by exact zGG hH hx U)) ?_;refine qcV (vs:=[_]) U zAn (zzh I x.a x.n x.c) ?_;refine zN ?_;refine zI ?_ ?_<;>intro hc16
  ·refine zR (zM ?_);refine zA (zN (Qr (Qn (Qc (Qc (Qn (Qc ?_)))))));exact zr U U (by rw [JX hno hx hc16])
  refine Qo (Qg (Qa (Qf (zB ?_))));refine zM (Qb ?_);exact zm (h:=⟨n2-(k+1),kB,k+1,U,U,U,U,kB,VP hx hno hc16⟩)
 have hge_k:n2<=k:=(by have h:=hc9;simp at h;omega);refine QF (Qh (Qh (Qm (Qa (zR (zA (zN ?_)))))));refine Qr ?_;exact zr U U (by rw [Jm hH.len hge_k hno])
theorem zgc (hH:Sl I 1 KU bv n2 c2 hs)(hn:n2<=100000):Zt Tryz.prog 28 [.slice bv n2 c2,.func (.func 62) #[] #[]] I (.bool (hs.any (fun h:Hd=>decide ((h.n:Int)>64)))):=by
 intro g H w hw;refine qe Tryz.func28 Tryz.ntmps28 hw ?_;refine zR (zA ?_);refine zN (zR ?_);refine zM ?_;refine zM ?_;refine qcV (vs:=[_,_]) U ziT (zrf hH hn) ?_;refine zC ?_;refine zA (zN (Qr ?_))
 first
 | exact zr U U (by rw [<-UB])
theorem zqy (hS:Sl I 1 Q3 av n c xs)(hn:n<=100000):Zt Tryz.prog 141 [.slice av n c,.func (.func 64) #[] #[]] I (.int .i64 (Wx (fun v=>decide (v<0)||decide (v>8589934592)) xs)):=by
 intro g H w hw;refine qe Tryz.func141 Tryz.ntmps141 hw ?_;refine zR (zA (zN (Ql (zR ?_))));refine zM ?_;refine zQ Qx ?_;refine zM (zN (Qp ?_));refine zU [(0,_),(1,_),(7,_)] (fun T L0 mz E I' loc'=>∃ (k:Nat),mz=n-k/\E=(8,.int .i64 k)::T/\I=I'/\L0=loc'/\k<=n/\(xs.take k).any (fun v=>decide (v<0)||decide (v>8589934592))=false) ?_ (h:=⟨0,U,U,U,U,jf _,U⟩);rintro mz E I' loc' ⟨k,rfl,rfl,rfl,rfl,hk,hno⟩;refine zR (zC (zN (Ql ?_)));refine zI ?_ ?_<;>intro hc9
 ·have hlt_k:k<n:=(by have h:=hc9;simp at h;omega);obtain ⟨x,hx⟩:=hS.at hlt_k;refine Qo (Qa (Ql (Qp (zR (zM ?_)))));refine zA ?_;refine zN (zR ?_);refine zM ?_;refine zM ?_;refine zM ?_;refine zV (Qy U U Qx kI (fun hg=>kB)) ?_;refine zV (Qd U Qq (fun hg=>by exact zGG hS hx U)) ?_;refine qcV (vs:=[_]) U zB8 (zvT I _) ?_;refine zN ?_;refine zI ?_ ?_<;>intro hc16
  ·refine zR (zM ?_);refine zA (zN (Qr (Qn (Qc (Qc (Qn (Qc ?_)))))));exact zr U U (by rw [JX hno hx hc16])
  refine Qo (Qg (Qa (Qf (zB ?_))));refine zM (Qb ?_);exact zm (h:=⟨n-(k+1),kB,k+1,U,U,U,U,kB,VP hx hno hc16⟩)
 have hge_k:n<=k:=(by have h:=hc9;simp at h;omega);refine QF (Qh (Qh (Qm (Qa (zR (zA (zN ?_)))))));refine Qr ?_;exact zr U U (by rw [Jm hS.len hge_k hno])
theorem zg2 (hS:Sl I 1 Q3 av n c xs)(hn:n<=100000):Zt Tryz.prog 63 [.slice av n c,.func (.func 64) #[] #[]] I (.bool (xs.any (fun v=>decide (v<0)||decide (v>8589934592)))):=by
 intro g H w hw;refine qe Tryz.func63 Tryz.ntmps63 hw ?_;refine zR (zA ?_);refine zN (zR ?_);refine zM ?_;refine zM ?_;refine qcV (vs:=[_,_]) U zkH (zqy hS hn) ?_;refine zC ?_;refine zA (zN (Qr ?_))
 first
 | exact zr U U (by rw [<-UB])
def ziz (v:Int):Bool:=decide (v<0)||decide (v>8589934592)
def zvr (w:Nat)(r:List Int):Bool:=decide ((r.length:Int)≠w)||r.any ziz
def YL (rows:List (List Int)):Int:=
 if decide ((rows.length:Int)>6)||rows.any (fun r=>decide ((r.length:Int)>64)) then 2 else if rows.length=0 then 420
 else if rows.any (zvr (rows.getD 0 []).length) then 420 else 0
variable{rows:List (List Int)}
theorem zBT (h:(decide ((rows.length:Int)>6)||rows.any (fun r=>decide ((r.length:Int)>64)))=true):YL rows=2:=by unfold YL;rw [jb h]
theorem zDm (h:(decide ((rows.length:Int)>6)||rows.any (fun r=>decide ((r.length:Int)>64)))=false)(h2:rows.length=0):YL rows=420:=by unfold YL;rw [ja (by rw [h];decide),jb h2]
theorem zth (h:(decide ((rows.length:Int)>6)||rows.any (fun r=>decide ((r.length:Int)>64)))=false)(h2:¬rows.length=0):YL rows=if rows.any (zvr (rows.getD 0 []).length) then 420 else 0:=by unfold YL;rw [ja (by rw [h];decide),ja h2]
variable{v:List Int}
theorem zvk (h:(decide ((rows.length:Int)>6)||rows.any (fun r=>decide ((r.length:Int)>64)))=false)(hv:v∈rows):v.length<=64:=by rw [On] at h;have:=jJ.1 h.2 v hv;simp at this;omega
theorem zfO (h:SlH I av n c hs vss)(p:Int->Bool):hs.any (fun x:Hd=>p (x.n:Int))=vss.any (fun r=>p (r.length:Int)):=by
 have hl:=h.2.1;have hlen:∀ (k:Nat) (x:Hd) (v:List Int),hs[k]? =some x->vss[k]? =some v->v.length=x.n:=fun k x v a b=>(h.2.2 k x v a b).len;clear h;rw [jL,ju,ju];constructor
 ·rintro ⟨x,hx,hp⟩;obtain ⟨k,hk⟩:=jC hx;have hk2:vss[k]? =some (vss[k]'(by have:=(jc.1 hk).1;omega)):=je _;exact ⟨_,jd hk2,by rw [hlen k _ _ hk hk2];exact hp⟩
 ·rintro ⟨v,hv,hp⟩;obtain ⟨k,hk⟩:=jC hv;have hk2:hs[k]? =some (hs[k]'(by have:=(jc.1 hk).1;omega)):=je _;exact ⟨_,jd hk2,by rw [<-hlen k _ _ hk2 hk];exact hp⟩
theorem zkl (hV:SlN I av n c rows)(hn:n<=100000):Zt Tryz.prog 23 [.slice av n c] I (.int .i64 (YL rows)):=by
 intro g H w hw;refine qe Tryz.func23 Tryz.ntmps23 hw ?_;obtain ⟨hs,hV⟩:=hV;have hH:=hV.1;have hlV:=hV.len;refine zR (zA (zN (Ql (zR ?_))));refine zM ?_;refine zQ Zn ?_;refine zC ?_;refine zM ?_;refine Q8 3 U U U ?_;refine zJ (Qj U) ?_;refine qf (vs:=[_,_]) U zrI (fun hg=>zgc hH hn) ?_;refine ZO U U U U U ?_;refine zN ?_;refine zI ?_ ?_<;>intro hc11
 ·have h1:(decide ((rows.length:Int)>6)||rows.any (fun r=>decide ((r.length:Int)>64)))=true:=(by rw [hlV,<-zfO hV (fun q=>decide (q>64))];exact hc11);refine zR (zA (zN (Qr (Qc ?_))));exact zr U U (by rw [zBT h1])
 have h1:(decide ((rows.length:Int)>6)||rows.any (fun r=>decide ((r.length:Int)>64)))=false:=(by rw [hlV,<-zfO hV (fun q=>decide (q>64))];exact hc11);refine Qo (Qa (Ql (zR (zM ?_))));refine zQ Zn ?_;refine zC (zN ?_);refine zI ?_ ?_<;>intro hc14
 ·have h2:rows.length=0:=(by simp at hc14;omega);refine zR (zA (zN (Qr (Qc ?_))));exact zr U U (by rw [zDm h1 h2])
 have h2:¬rows.length=0:=(by simp at hc14;omega);obtain ⟨x0,v0,hx0,hv0,hQ0⟩:=hV.at (show 0<n by omega);refine Qo (Qa (Ql (zR (zM ?_))));refine zQ Zn ?_;refine zM (zN (Qp ?_));refine zU [(0,_),(15,_),(16,_)] (fun T L0 mz E I' loc'=>∃ (k:Nat),mz=n-k/\E=(17,.int .i64 k)::T/\I=I'/\L0=loc'/\k<=n/\(rows.take k).any (zvr (rows.getD 0 []).length)=false) ?_ (h:=⟨0,U,U,U,U,jf _,U⟩);rintro mz E I' loc' ⟨k,rfl,rfl,rfl,rfl,hk,hno⟩;refine zR (zC (zN (Ql ?_)));refine zI ?_ ?_<;>intro hc18
 ·have hlt_k:k<n:=(by have h:=hc18;simp at h;omega);obtain ⟨x,v,hx,hv,hQ⟩:=hV.at hlt_k;have hrow:zvr (rows.getD 0 []).length v=(((x.n:Int) != (x0.n:Int))||v.any ziz):=(by unfold zvr;rw [Q1 hv0,hQ.len,hQ0.len];congr 1;exact jL.2 kK);refine Qo (Qa (Ql (Qp (zR ?_))));refine zV (Qy U U Zn kI (fun hg=>kB)) ?_;refine zV (Qd U QK (fun hg=>by exact zGG hH hx U)) ?_;refine zA ?_;refine zN (zR ?_);refine zM ?_;refine zQ Qx ?_;refine zM ?_;refine zV (Qy U U Zn kI (fun hg=>kB)) ?_;refine zV (Qd U QK (fun hg=>by exact zGG (k:=0) hH hx0 U)) ?_;refine zQ Qx ?_;refine zC ?_;refine zM ?_;refine Q8 7 U U U ?_;refine zJ (Qj U) ?_;refine qf (vs:=[_,_]) U zlD (fun hg=>zg2 hQ (by rw [<-hQ.len];have:=zvk h1 (jd hv);omega)) ?_;refine ZO U U U U U ?_;refine zN ?_;refine zI ?_ ?_<;>intro hc31
  ·refine zR (zA (zN (Qr (Qn (Qc (Qc (Qn ?_)))))));refine Qc ?_
   first
   | exact zr U U (by rw [zth h1 h2,UO hv (by rw [hrow];exact hc31)];rfl)
  refine Qo (Qg (Qa (Qf (zB ?_))));refine zM (Qb ?_);exact zm (h:=⟨n-(k+1),kB,k+1,U,U,U,U,kB,VP hv hno (by rw [hrow];exact hc31)⟩)
 have hge_k:n<=k:=(by have h:=hc18;simp at h;omega);rw [ZJ hlV hge_k] at hno;refine QF (Qh (Qh (Qm (Qa (zR (zA (zN ?_)))))));refine Qr ?_
 first
 | exact zr U U (by rw [zth h1 h2,hno];rfl)
variable{ys:List α}{y:α}
theorem zl4 {xs:List α}(hx:xs[k]? =some x)(hy:ys[k]? =some y)(he:xs.take k=ys.take k)(h:x=y):xs.take (k+1)=ys.take (k+1):=by rw [jP,jP,hx,hy,he,h]
theorem zwe [DecidableEq α]{xs:List α}(hx:xs[k]? =some x)(hy:ys[k]? =some y)(h:x≠y):zhh xs ys=false:=
 j1 fun e=>h (by rw [e,hy] at hx;exact (Ob hx).symm)
theorem zpf [DecidableEq α]{xs:List α}{m:Nat}(h1:xs.length=n)(h2:ys.length=m)(h:n≠m):zhh xs ys=false:=
 j1 fun e=>h (by rw [<-h1,<-h2,e])
def V0 (f t:Int):Int:=if f=t then 0 else if t=0 then 1 else if f=0 then 4 else 2
theorem WR (f t:Int):0<=V0 f t/\V0 f t<=4:=by
 unfold V0;split
 ·omega
 ·split
  ·omega
  ·split<;>omega
def zd6 (st cs:List Int)(s:Int)(k:Nat):Int:=(List.range k).foldl (fun b i=>K2 b (V0 s (st.getD i 0)+cs.getD i 0)) 1048576
def YX (st cs:List Int)(s:Int):Int:=zd6 st cs s st.length
def zFZ:List Int->List Int->Bool
 | x::a,y::b=>if x≠y then decide (x<y) else zFZ a b
 | _,_=>false
theorem Zz {xs:List α}(h:xs[k]? =some x):xs.drop k=x::xs.drop (k+1):=by obtain ⟨h1,h2⟩:=jc.1 h;rw [A2 h1,h2]
def zdQ (n:Int):Int:=if n=0 then 1 else 0
theorem zsA (I:Qt)(n:Int):Zt Tryz.prog 194 [.int .i64 n] I (.int .i64 (zdQ n)):=by
 intro g H w hw;refine qe Tryz.func194 Tryz.ntmps194 hw ?_;refine zR (zA (zN (Ql (zR ?_))));refine zM ?_;refine zC (zN ?_);refine zI ?_ ?_<;>intro hc4
 ·refine zR (zA (zN (Qr (Qc ?_))));exact zr U U (by unfold zdQ;simp_all)
 refine Qo (Qa (zR (zA (zN (Qr ?_)))));exact zr U U (by unfold zdQ;simp_all)
end
end Go.Proofs.YtmbjmjbjdgjonaaGreatDoor
section
namespace Go.Kn
open Go
section
variable {C:Cx} {E:Env} {I:Qt} {loc:Loc} {S:GS} {dst:Option Tmp} {ty:TypeId} {pos:String} {af:Array Edge} {gd:Option (Nat×Bool)} {x y z:Operand}
end
end Go.Kn
namespace Go.Kn
open Go
section
variable {g:World} {I I' H:Qt} {loc loc' L R:Loc} {w w':World}
end
end Go.Kn
namespace Go.Kn
open Go
section
variable {C:Cx} {Q:Exit->Act->World->Prop} {E:Env} {I:Qt} {loc:Loc} {ops:Array Oper} {rest:List Oper} {d:Nat} {ty:TypeId} {pos:String} {af:Array Edge} {gd:Option (Nat×Bool)} {x y:Operand}
end
end Go.Kn
namespace Go.Kn
open Go
section
variable {C:Cx} {Q:Exit->Act->World->Prop} {E:Env} {I:Qt} {loc:Loc} {ops:Array Oper} {rest:List Oper} {d:Nat} {ty:TypeId} {pos:String} {af:Array Edge} {gd:Option (Nat×Bool)} {x y:Operand}
end
section
variable {C:Cx} {S:GS} {E:Env} {I:Qt} {loc:Loc} {dst:Option Tmp} {ty:TypeId} {pos:String} {af:Array Edge} {gd:Option (Nat×Bool)} {x y:Operand}
theorem Q2 {t e size b n c:Nat}{k:IntKind}{i:Int}(hx:Qv S E x=some (.slice (some ⟨b,0,none⟩) n c))(hy:Qv S E y=some (.int k i))(hT:SlT C.P t e size)(hb:ZS S=true->0<=i/\i<(n:Int)):
  QV C S E I loc ⟨dst,.indexAddr t x y,ty,pos,af,gd⟩ (.pointer (some ⟨b,i.toNat*size,none⟩)):=by
 have h:=zaK (I:=I) (loc:=loc) (dst:=dst) (ty:=ty) (pos:=pos) (af:=af) (gd:=gd) hx hy hT hb;rwa [Oc] at h
end
theorem OwnS.spot {α:Type}{e size n k:Nat}{enc:α->List Value}{v:Value}{xs:List α}{x:α}{L:Loc}(hO:OwnS e size v n (xs.flatMap enc) L)(hs:∀ x,(enc x).length=size)(hsz:0<size)(hx:xs[k]? =some x):
  k<n/\∃ b c cur,v= .slice (some ⟨b,0,none⟩) n c/\L=[(b,.cells (cur:List Value).toArray e (0,0))]/\(cur.drop (k*size)).take size=enc x/\k*size+size<=cur.length/\
   ∀ y,OwnS e size v n ((xs.set k y).flatMap enc) [(b,.cells (Y9 cur (k*size) (enc y)).toArray e (0,0))]:=by
 obtain ⟨hk,hxk⟩:=jc.1 hx;have hl:=hO.1;rw [ZF hs] at hl;have hln:xs.length=n:=Ay hsz hl;rcases hO.2 with ⟨_,h2,_⟩ | ⟨b,c,cur,h1,h2,h3,h4,h5,h6⟩
 ·omega
 obtain ⟨cl⟩:=cur;simp only [Oh] at h5 h6
 have hspl:xs=xs.take k++x::xs.drop (k+1):=by
  rw [<-hxk,<-A2 hk,jy]
 have hb1:(k+1)*size<=n*size:=O2 _ kB;have hb2:n*size<=c*size:=O2 _ h3;rw [OJ,Bm] at hb1;have htk:((xs.take k).flatMap enc).length=k*size:=by rw [ZF hs,jH];congr 1;omega
 have hcl:cl.take (n*size)=(xs.take k).flatMap enc++(enc x++(xs.drop (k+1)).flatMap enc):=by
  rw [h6];conv=>lhs;rw [hspl];rw [jo,jO]
 have hdec:cl=(xs.take k).flatMap enc++(enc x++((xs.drop (k+1)).flatMap enc++cl.drop (n*size))):=by
  conv=>lhs;rw [<-jy (n*size) cl]
  rw [hcl];simp only [jn]
 have hdrop:cl.drop (k*size)=enc x++((xs.drop (k+1)).flatMap enc++cl.drop (n*size)):=by
  conv=>lhs;rw [hdec]
  rw [<-htk];exact List.drop_left
 refine ⟨kB,b,c,cl,h1,h2,?_,kB,fun y=>⟨?_,.inr ⟨b,c,_,h1,U,h3,h4,?_,?_⟩⟩⟩
 ·rw [hdrop,<-hs x];exact Bd
 ·rw [ZF hs,A3];omega
 ·have hsl:=KS (A:=cl) (off:=k*size) (n:=size) (vs:=enc y) kB (hs y);rw [Oh,hsl];simp only [jh,jH,j7,hs];omega
 ·have hsl:=KS (A:=cl) (off:=k*size) (n:=size) (vs:=enc y) kB (hs y)
  have e1:cl.take (k*size)=(xs.take k).flatMap enc:=by
   conv=>lhs;rw [hdec]
   rw [<-htk];exact Bd
  have e2:cl.drop (k*size+size)=(xs.drop (k+1)).flatMap enc++cl.drop (n*size):=by
   have hd:∀ l:List Value,List.drop size (enc x++l)=l:=fun l=>(by rw [<-hs x];exact List.drop_left);rw [<-OT,hdrop,hd]
  rw [hsl,e1,e2]
  have e3:(xs.set k y).flatMap enc=(xs.take k).flatMap enc++(enc y++(xs.drop (k+1)).flatMap enc):=by
   rw [Bl,jb kB,jo,jO]
  have e4:((xs.set k y).flatMap enc).length=n*size:=(by rw [ZF hs,A3];omega);show List.take (n*size) ((xs.take k).flatMap enc++(enc y++((xs.drop (k+1)).flatMap enc++cl.drop (n*size))))=_;rw [<-jn (enc y),<-jn,<-e3,<-e4];exact Bd
theorem zcM {C:Cx}{Q:Exit->Act->World->Prop}{E:Env}{I:Qt}{loc L R:Loc}{α:Type}{e size n:Nat}{enc:α->List Value}{v:Value}{xs:List α}{ex:Exit}(hO:OwnS e size v n (xs.flatMap enc) L)(hs:∀ x,(enc x).length=size)(hsz:0<size)(hsp:Yu loc L R)
  (h:∀ I',HLe I I'->∀ av c0,v= .slice av n c0->Sl I' size enc av n c0 xs->At C Q ex E I' R):At C Q ex E I loc:=fun a w ha hw=>
 let ⟨I',av,c0,h1,h2,h3,h4⟩:=OwnS.freeze (R:=R) hO hs hsz (hw.unsplit hsp)
 h I' h1 av c0 h3 h4 a w ha h2
end Go.Kn
end
namespace Go.Proofs.YtmbjmjbjdgjonaaGreatDoor
section
open Go Go.Kn Go.Proofs
variable{n:Nat}{vs:List Value}
theorem _root_.Go.Kn.OwnS.lit {e size b:Nat}(h:vs.length=n*size)(hn:n<=maxLen):OwnS e size (.slice (some ⟨b,0,none⟩) n n) n vs [(b,.cells vs.toArray e (0,0))]:=
 ⟨h,.inr ⟨b,n,_,U,U,js _,hn,by simp [h],by rw [<-h];simp⟩⟩
theorem zfu {e size:Nat}{v:Value}{xs:List Value}{L:Go.Kn.Loc}(h:OwnS e size v n xs L):∃ a c,v= .slice a n c:=by
 rcases h.2 with ⟨h1,h2,_⟩ | ⟨b,c,cur,h1,_⟩
 ·subst h2;exact ⟨_,_,h1⟩
 ·exact ⟨_,_,h1⟩
def stS (out:List Int)(n:Int):List Int:=if n==8589934592||out.any (fun x=>x==n) then out else out++[n]
def Za (rows:List (List Int))(l:Nat):List Int:=(rows.map fun r=>r.getD l 0).foldl stS [0]
variable{rows:List (List Int)}{l k:Nat}{r:List Int}
theorem zmx (h:rows[k]? =some r):Za (rows.take (k+1)) l=stS (Za (rows.take k) l) (r.getD l 0):=by unfold Za;rw [jP,h,jZ,Od];rfl
variable{out:List Int}
theorem zts {n:Int}(h:(n==8589934592||out.any (fun x=>x==n))=true):stS out n=out:=by unfold stS;rw [jb h]
theorem zEa {n:Int}(h:(n==8589934592||out.any (fun x=>x==n))=false):stS out n=out++[n]:=by unfold stS;rw [ja (by rw [h];decide)]
theorem zsI :(Za rows l).length<=rows.length+1:=by
 have:∀ (ns out:List Int),(ns.foldl stS out).length<=ns.length+out.length:=by
  intro ns
  induction ns with
  | nil=>intro out;simp
  | cons n ns ih=>
   intro out;refine jT (ih _) ?_
   have:(stS out n).length<=out.length+1:=by
    unfold stS;split
    ·omega
    ·simp
   simp only [jw];omega
 have:=this (rows.map fun r=>r.getD l 0) [0];simpa [Za] using this
variable{α:Type}
theorem ZI {xs:List α}{x:α}(h:xs[k]? =some x):xs.take (k+1)=xs.take k++[x]:=by rw [jP,h];rfl
section
variable {α:Type} {lt:α->α->Bool}
def zai (lt:α->α->Bool):List α->List α->List α
 | a,[]=>a
 | a,y::b=>a.takeWhile (fun x=>lt x y)++y::zai lt (a.dropWhile fun x=>lt x y) b
theorem zh4 (a b:List α):(zai lt a b).length=a.length+b.length:=by
 induction b generalizing a with
 | nil=>simp [zai]
 | cons y b ih=>
  simp only [zai];have:=jr List.length (Ow (p:=fun x=>lt x y) (l:=a));rw [jh] at this;rw [jh,jw,ih,jw];omega
end
def ltI (a b:Int):Bool:=decide (a<b)
def zvq (xs ys:List Int)(s:Int):List Int:=zai ltI xs ys++[s]
def UD (s:Int):Nat:=s.toNat.log2
theorem zDz:((List.range 7).all fun n=>(List.range 64).all fun s=> !Z5 (s:Int)|| !decide ((s:Int)<=YY (n:Int))||decide (UD (s:Int)<n))=true:=kA
variable{s:Int}
theorem zAC (hn:n<=6)(hs:1<=s/\s<=63)(h1:Z5 s=true)(h:s<=YY (n:Int)):UD s<n:=by have h0:=ji.1 zDz n (jm.2 kB);have h0:=ji.1 h0 s.toNat (jm.2 kB);rw [show ((s.toNat:Nat):Int)=s by omega,h1] at h0;simpa [h] using h0
variable{cl:List Int}{a:Nat}
theorem X2 {c:Int}(h:Us cl c a≠0)(ha:1<=a):1<=Us cl c a/\Us cl c a<c/\JZ cl c (Us cl c a)=true:=by
 unfold Us at h ⊢
 cases hf:(List.range' a (c.toNat -a)).find? (fun k:Nat=>JZ cl c (k:Int)) with
 | none=>rw [hf] at h;exact absurd U h
 | some k=>
  have h1:=Av hf;have h2:=Az.1 (OA hf);exact ⟨by show 1<=(k:Int);omega,by show (k:Int)<c;omega,h1⟩
theorem zAq (h:1<=s/\s<=63):IntKind.i64.wrap (s-1)=s-1:=zdp kB
def OkS (n:Nat)(cl:List Int)(s:Int):Prop:=1<=s/\s<=YY (n:Int)/\WK cl s=true
variable{m:Int}
theorem Wj (h:V4 m cl=0):∀ c∈cl,Qw cl c≠0:=by
 intro c hc hs;unfold V4 at h
 repeat (split at h; · cases h)
 rename_i h5;exact h5 (ju.2 ⟨c,hc,by simp [hs]⟩)
theorem zqV (hc:V4 n cl=0)(h:OkS n cl s)(h1:(JK s (IntKind.i64.wrap (s-1))==0)=false):OkS n cl (Qw cl s)/\OkS n cl (s-Qw cl s)/\1<=Qw cl s/\Qw cl s<s:=by
 obtain ⟨h2,h3,h4⟩:=h
 have hin:s∈cl:=by
  unfold WK Z5 at h4;rw [h1,Aa,OL,ju] at h4;obtain ⟨c,hc2,e⟩:=h4;have:c=s:=by simpa using e
  exact this ▸ hc2
 obtain ⟨a1,a2,a3⟩:=X2 (Wj hc s hin) (js 1);unfold JZ at a3;simp only [jj] at a3;exact ⟨⟨a1,by show Us cl s 1<=_;omega,a3.1.2⟩,⟨by show 1<=s-Us cl s 1;omega,by show s-Us cl s 1<=_;omega,a3.2⟩,a1,a2⟩
def Um (u x:Int):Int:=if decide (u≠8589934592)&&decide (u≠x) then 1048576 else 0
def ZB (rows:List (List Int))(cl:List Int)(l:Nat):Nat->Int->List Int
 | 0,_=>[]
 | f+1,s=>
  if (JK s (IntKind.i64.wrap (s-1))==0)=true then (Za rows l).map (Um ((rows.getD (UD s) []).getD l 0))
  else (Za rows l).map fun x=>YX (Za rows l) (ZB rows cl l f (Qw cl s)) x+YX (Za rows l) (ZB rows cl l f (s-Qw cl s)) x
variable{f:Nat}
theorem zan (h:(JK s (IntKind.i64.wrap (s-1))==0)=true):ZB rows cl l (f+1) s=(Za rows l).map (Um ((rows.getD (UD s) []).getD l 0)):=by simp only [ZB];rw [jb h]
def ztn (st L R:List Int)(x:Int):Int:=YX st L x+YX st R x
theorem zbz (h:(JK s (IntKind.i64.wrap (s-1))==0)=false):ZB rows cl l (f+1) s=(Za rows l).map (ztn (Za rows l) (ZB rows cl l f (Qw cl s)) (ZB rows cl l f (s-Qw cl s))):=by simp only [ZB];rw [ja (by rw [h];decide)];rfl
variable{cs:List Int}
theorem zi7 {st:List Int}(h:∀ y∈cs,0<=y/\y<=1099511627776):0<=YX st cs s/\YX st cs s<=1048576:=by
 unfold YX
 have:∀ k,0<=zd6 st cs s k/\zd6 st cs s k<=1048576:=by
  intro k
  induction k with
  | zero=>unfold zd6;simp
  | succ k ih=>
   have e:zd6 st cs s (k+1)=K2 (zd6 st cs s k) (V0 s (st.getD k 0)+cs.getD k 0):=by
    unfold zd6;rw [Ou,Od,Of,List.foldl_nil]
   rw [e];have h1:=(WR s (st.getD k 0)).1
   have h2:0<=cs.getD k 0:=by
    cases hk:cs[k]? with
    | none=>simp [List.getD,hk]
    | some y=>rw [Q1 hk];exact (h y (jd hk)).1
   unfold K2;split<;>omega
 exact this _
theorem Wl {rows:List (List Int)}{cl:List Int}{l:Nat}:∀ (f:Nat) (s:Int),∀ y∈ZB rows cl l f s,0<=y/\y<=1099511627776
 | 0,_=>fun y hy=>by cases hy
 | f+1,s=>fun y hy=>by
  cases h:(JK s (IntKind.i64.wrap (s-1))==0) with
  | true=>
   rw [zan h,jt] at hy;obtain ⟨x,_,rfl⟩:=hy;unfold Um;split<;>omega
  | false=>
   rw [zbz h,jt] at hy;obtain ⟨x,_,rfl⟩:=hy;have h1:=zi7 (st:=Za rows l) (s:=x) (Wl (rows:=rows) (cl:=cl) (l:=l) f (Qw cl s));have h2:=zi7 (st:=Za rows l) (s:=x) (Wl (rows:=rows) (cl:=cl) (l:=l) f (s-Qw cl s));unfold ztn;omega
theorem XM :(ZB rows cl l (f+1) s).length=(Za rows l).length:=by
 cases h:(JK s (IntKind.i64.wrap (s-1))==0) with
 | true=>rw [zan h,jE]
 | false=>rw [zbz h,jE]
def Zm (row:List Int):Array Value:=(row.flatMap Q3).toArray
theorem Kd (row:List Int):row.flatMap Q3=row.map (Value.int .i64):=by
 induction row with
 | nil=>rfl
 | cons b row ih=>rw [jO,ih];rfl
theorem V9 (row:List Int)(m:Nat)(b:Int):(Zm row).setIfInBounds ((m:Int).toNat*1) (.int .i64 b)=Zm (row.set m b):=by unfold Zm;rw [Kd,Kd,OB,Ax,List.map_set];rfl
variable{row:List Int}
theorem zAl {m:Nat}(h:m<row.length):Nat.blt ((m:Int).toNat*1) (Zm row).size=true:=by unfold Zm;rw [Oh,ZF Zh,OB,OB];rw [AV];exact h
theorem Q5 (n:Nat):(List.replicate n (Value.int .i64 0)).toArray=Zm (List.replicate n 0):=by unfold Zm;rw [Kd,List.map_replicate]
theorem zhx {b e:Nat}(h:row.length=n)(hn:n<=1000000):OwnS e 1 (.slice (some ⟨b,0,none⟩) n n) n (row.flatMap Q3) [(b,.cells (Zm row) e (0,0))]:=
 OwnS.lit (by rw [ZF Zh,h]) (by simp only [maxLen];omega)
theorem Uh (h:YL rows=0):1<=rows.length/\rows.length<=6/\(rows.getD 0 []).length<=64/\∀ r∈rows,r.length=(rows.getD 0 []).length/\∀ v∈r,0<=v/\v<=8589934592:=by
 unfold YL at h;split at h
 ·cases h
 ·rename_i h1;split at h
  ·cases h
  ·rename_i h2;split at h
   ·cases h
   ·rename_i h3;simp only [OD,jQ,B8,Bo,jJ] at h1 h3;obtain ⟨r0,h0⟩:∃ r,rows[0]? =some r:=⟨_,je kB⟩;have hg:=Q1 (d:=([]:List Int)) h0;have h64:=h1.2 r0 (jd h0);simp at h64;refine ⟨kB,kB,by rw [hg];omega,fun r hr=>?_⟩;have:=h3 r hr;unfold zvr at this;rw [On] at this;obtain ⟨ha,hb⟩:=this;refine ⟨Int.ofNat.inj (Decidable.not_not.1 (O1 ha)),fun v hv=>?_⟩;have:=jJ.1 hb v hv;unfold ziz at this;simp at this;omega
theorem zov (h:V4 n cl=0):OkS n cl (YY n):=by
 obtain ⟨h1,h6,hlen,hin⟩:=ZZ h;refine ⟨(WA (n:=(n:Int)) ⟨h1,h6⟩).1,Aq _,?_⟩;by_cases e:n=1
 ·subst e;unfold WK;rw [show Z5 (YY ((1:Nat):Int))=true from by decide,BY]
 ·unfold V4 at h
  repeat (split at h; · cases h)
  rename_i h4 _;have hg:(n:Int)>1:=kB;simp only [jj,jQ,not_and,Decidable.not_not] at h4;have h4:=h4 hg;unfold WK;rw [OD];left;rw [ju];have hk:((n:Int)-2).toNat<cl.length:=kB;refine ⟨cl[((n:Int)-2).toNat],OS hk,?_⟩;rw [j0,<-h4];exact (Q1 (je hk)).symm
def zgg (cs:List Int)(k:Nat):Int:=(cs.take k).foldl K2 (cs.getD 0 0)
def YR (cs:List Int):Int:=zgg cs cs.length
theorem zff {x:Int}(hx:cs[k]? =some x):zgg cs (k+1)=K2 (zgg cs k) x:=by unfold zgg;rw [jP,hx,Od];rfl
theorem zcX (h:∀ y∈cs,0<=y/\y<=1099511627776)(h0:0<cs.length):∀ k,0<=zgg cs k/\zgg cs k<=1099511627776:=by
 have hz:0<=cs.getD 0 0/\cs.getD 0 0<=1099511627776:=by
  have:=je h0;rw [Q1 this];exact h _ (OS h0)
 intro k
 induction k with
 | zero=>simpa [zgg] using hz
 | succ k ih=>
  cases hk:cs[k]? with
  | none=>
   have:zgg cs (k+1)=zgg cs k:=by
    unfold zgg;rw [jP,hk];simp
   rw [this];exact ih
  | some x=>
   rw [zff hk];have:=h x (jd hk);unfold K2;split<;>omega
def zcP (rows:List (List Int))(cl:List Int)(k:Nat):Int:=(List.range k).foldl (fun s l=>s+YR (ZB rows cl l 64 (YY rows.length))) 0
def Yv (rows:List (List Int))(cl:List Int):Int:=zcP rows cl (rows.getD 0 []).length
theorem zcK :zcP rows cl (k+1)=zcP rows cl k+YR (ZB rows cl k 64 (YY rows.length)):=by unfold zcP;rw [Ou,Od];rfl
theorem zf5 :0<(Za rows l).length:=by
 have:∀ (ns out:List Int),out.length<=(ns.foldl stS out).length:=by
  intro ns
  induction ns with
  | nil=>intro out;simp
  | cons n ns ih=>
   intro out;refine jT ?_ (ih _);unfold stS;split
   ·omega
   ·simp
 exact this (rows.map fun r=>r.getD l 0) [0]
def Y2 (rows:List (List Int))(cl:List Int):Int:=if YL rows≠0 then YL rows else V4 rows.length cl
def ze4 (rows:List (List Int))(cl:List Int):Int:=if Y2 rows cl≠0 then 0 else Yv rows cl
theorem ziY (h:YL rows≠0):Y2 rows cl=YL rows/\ze4 rows cl=0:=by have e:Y2 rows cl=YL rows:=(by unfold Y2;rw [jb h]);exact ⟨e,by unfold ze4;rw [jb (by rw [e];exact h)]⟩
theorem zC9 (h:YL rows=0)(h2:V4 rows.length cl≠0):Y2 rows cl=V4 rows.length cl/\ze4 rows cl=0:=by have e:Y2 rows cl=V4 rows.length cl:=(by unfold Y2;rw [ja kB]);exact ⟨e,by unfold ze4;rw [jb (by rw [e];exact h2)]⟩
theorem zse (h:YL rows=0)(h2:V4 rows.length cl=0):Y2 rows cl=0/\ze4 rows cl=Yv rows cl:=by have e:Y2 rows cl=0:=(by unfold Y2;rw [ja kB,h2]);exact ⟨e,by unfold ze4;rw [ja kB]⟩
def zaq (I:Qt)(hs:List Hd)(vss:List (List Int)):Prop:=hs.length=vss.length/\∀ (k:Nat) (h:Hd) (v:List Int),hs[k]? =some h->vss[k]? =some v->Sl I 1 Q3 h.a h.n h.c v
variable{I:Qt}
theorem zaq.nil :zaq I [] []:=⟨U,fun k h v a=>by simp at a⟩
variable{hs:List Hd}{vss:List (List Int)}
theorem zaq.mono {I':Qt}(h:zaq I hs vss)(hI:HLe I I'):zaq I' hs vss:=⟨h.1,fun k x v a b=>(h.2 k x v a b).mono hI⟩
variable{hd:Hd}{v:List Int}
theorem zaq.snoc (h:zaq I hs vss)(hV:Sl I 1 Q3 hd.a hd.n hd.c v):zaq I (hs++[hd]) (vss++[v]):=by
 refine ⟨by simp [h.1],fun k x y a b=>?_⟩;rw [AA] at a b;rw [h.1] at a;split at a
 ·rename_i hk;rw [jb hk] at b;exact h.2 k x y a b
 ·rename_i hk;rw [ja hk] at b
  have e:k-vss.length=0:=by
   cases hd2:k-vss.length with
   | zero=>rfl
   | succ m=>rw [hd2] at a;simp at a
  rw [e] at a b;simp at a b;subst a;subst b;exact hV
def zco:Nat->List (List Int)->List (List Int)
 | 0,l=>l
 | f+1,l=>if l.length<2 then l else zai zFZ (zco f (l.take (l.length / 2))) (zco f (l.drop (l.length / 2)))
theorem za5:∀ (f:Nat) (l:List (List Int)),(zco f l).length=l.length
 | 0,_=>rfl
 | f+1,l=>by
  simp only [zco];split
  ·rfl
  ·rw [zh4,za5 f,za5 f,jH,j7];omega
theorem zi0 {α:Type}{lt:α->α->Bool}{x:α}:∀ {a b:List α},x∈zai lt a b↔x∈a\/x∈b
 | a,[]=>by simp [zai]
 | a,y::b=>by
  simp only [zai];rw [jv,jp,zi0 (a:=a.dropWhile _) (b:=b),jp]
  have:x∈a↔x∈a.takeWhile (fun x=>lt x y)\/x∈a.dropWhile fun x=>lt x y:=by
   rw [<-jv,Ow]
  rw [this];constructor
  ·rintro (h | h | h | h)
   ·exact .inl (.inl h)
   ·exact .inr (.inl h)
   ·exact .inl (.inr h)
   ·exact .inr (.inr h)
  ·rintro ((h | h) | h | h)
   ·exact .inl h
   ·exact .inr (.inr (.inl h))
   ·exact .inr (.inl h)
   ·exact .inr (.inr (.inr h))
theorem W6 {r:List Int}:∀ (f:Nat) (l:List (List Int)),r∈zco f l->r∈l
 | 0,_=>fun h=>h
 | f+1,l=>fun h=>by
  simp only [zco] at h;split at h
  ·exact h
  ·rcases zi0.1 h with h | h
   ·exact Ah (W6 f _ h)
   ·exact List.mem_of_mem_drop (W6 f _ h)
def zb7 (s a:Int):Bool:=(JK a s==a)&&zey a s
def zeN (X Y:List (List Int))(s:Int):List (List Int):=X.flatMap fun x=>Y.map fun y=>zvq x y s
def Kj:Nat->Int->List (List Int)
 | 0,_=>[]
 | f+1,s=>if (JK s (IntKind.i64.wrap (s-1))==0)=true then [[]] else (List.range' 1 (s.toNat -1)).flatMap fun a:Nat=>if zb7 s a then zeN (Kj f a) (Kj f (s-a)) s else []
def zkG (f:Nat)(s:Int)(k:Nat):List (List Int):=(List.range' 1 (k-1)).flatMap fun a:Nat=>if zb7 s a then zeN (Kj f a) (Kj f (s-a)) s else []
theorem znL (h:(JK s (IntKind.i64.wrap (s-1))==0)=true):Kj (f+1) s=[[]]:=by simp only [Kj];rw [jb h]
theorem zl8 (h:(JK s (IntKind.i64.wrap (s-1))==0)=false):Kj (f+1) s=zkG f s s.toNat:=by simp only [Kj];rw [ja (by rw [h];decide)];rfl
def Wp (s:Int):Nat:=(List.range 6).foldl (fun c i=>c+s.toNat / 2^i % 2) 0
theorem zyb:((List.range 64).all fun s=>(List.range s).all fun a=>a==0|| !zb7 (s:Int) (a:Int)||(decide (Wp (a:Int)<Wp (s:Int))&&decide (Wp ((s-a:Nat):Int)<Wp (s:Int))))=true:=kA
theorem zCg (hs:1<=s/\s<=63)(ha:1<=a)(hlt:(a:Int)<s)(h:zb7 s a=true):Wp a<Wp s/\Wp (s-a)<Wp s:=by have h0:=ji.1 zyb s.toNat (jm.2 kB);have h0:=ji.1 h0 a (jm.2 kB);rw [show ((s.toNat:Nat):Int)=s by omega,h,show ((s.toNat -a:Nat):Int)=s-a by omega] at h0;have ha0:(a==0)=false:=(by simp;omega);rw [ha0] at h0;simpa using h0
def zB9:Nat->Nat->Nat
 | 0,_=>0
 | f+1,s=>if s&&& (s-1)==0 then 1 else ((List.range' 1 (s-1)).map fun a=>if (a&&& s==a)&&zb7 s a then zB9 f a*zB9 f (s-a) else 0).sum
theorem znr {X Y:List (List Int)}:(zeN X Y s).length=X.length*Y.length:=by
 unfold zeN
 induction X with
 | nil=>simp
 | cons x X ih=>rw [jO,jh,ih,jE,jw,Nat.succ_mul,Nat.add_comm]
theorem zpL:((List.range 64).all fun s=>(s==0)||((JK (s:Int) (IntKind.i64.wrap ((s:Int)-1))==0)==(s&&& (s-1)==0)))=true:=kA
theorem zyG {s:Nat}(h:1<=s/\s<=63):(JK (s:Int) (IntKind.i64.wrap ((s:Int)-1))==0)=(s&&& (s-1)==0):=by have h0:=ji.1 zpL s (jm.2 kB);have hs0:(s==0)=false:=(by simp;omega);rw [hs0,OC] at h0;exact eq_of_beq h0
theorem zpk:((List.range 64).all fun s=>(List.range s).all fun a=> !zb7 (s:Int) (a:Int)||(a&&& s==a))=true:=kA
theorem zrt {s:Nat}(hs:s<=63)(hlt:a<s):((a&&& s==a)&&zb7 (s:Int) (a:Int))=zb7 (s:Int) (a:Int):=by
 have h0:=ji.1 zpk s (jm.2 kB);have h0:=ji.1 h0 a (jm.2 hlt);cases hc:zb7 (s:Int) (a:Int)
 ·rw [Aa]
 ·rw [hc] at h0;simpa using h0
theorem zbD:∀ (f s:Nat),1<=s/\s<=63->(Kj f (s:Int)).length=zB9 f s
 | 0,_,_=>rfl
 | f+1,s,hs=>by
  simp only [zB9];rw [<-zyG hs]
  cases h:(JK (s:Int) (IntKind.i64.wrap ((s:Int)-1))==0) with
  | true=>rw [znL h];rfl
  | false=>
   rw [zl8 h,ja kE];unfold zkG;rw [List.length_flatMap,BT];congr 1;refine O6 fun a ha=>?_;have ha:=Az.1 ha;rw [zrt hs.2 kB]
   cases hc:zb7 (s:Int) (a:Int) with
   | false=>rfl
   | true=>
    rw [jb rfl,jb rfl,znr,zbD f a kB,show (s:Int)-(a:Int)=((s-a:Nat):Int) by omega,zbD f (s-a) kB]
theorem zuN:((List.range 9).all fun f=>(List.range 64).all fun s=>decide (zB9 f s<=945))=true:=kA
theorem zfA (hf:f<=8)(hs:1<=s/\s<=63):(Kj f s).length<=945:=by have h:=zbD f s.toNat kB;rw [show ((s.toNat:Nat):Int)=s by omega] at h;rw [h];have h0:=ji.1 zuN f (jm.2 kB);have h0:=ji.1 h0 s.toNat (jm.2 kB);simpa using h0
theorem zmm (x y:List Int)(s:Int):(zvq x y s).length=x.length+y.length+1:=by unfold zvq;rw [jh,zh4];rfl
theorem zda:∀ (f:Nat) (s:Int),∀ r∈Kj f s,r.length+1<=2^f
 | 0,_=>fun r hr=>by cases hr
 | f+1,s=>fun r hr=>by
  cases h:(JK s (IntKind.i64.wrap (s-1))==0) with
  | true=>
   rw [znL h] at hr;simp at hr;subst hr;exact Nat.one_le_two_pow
  | false=>
   rw [zl8 h] at hr;unfold zkG at hr;rw [Ap] at hr;obtain ⟨a,_,hr⟩:=hr;split at hr
   ·unfold zeN at hr;rw [Ap] at hr;obtain ⟨x,hx,hr⟩:=hr;rw [jt] at hr;obtain ⟨y,hy,rfl⟩:=hr;have h1:=zda f _ x hx;have h2:=zda f _ y hy;rw [zmm,Nat.pow_succ];omega
   ·cases hr
def zoM (n:Int):Int:=if n>6 then 2 else if n<1 then 420 else 0
def Js (n:Int):List (List Int):=zco 946 (Kj 7 (YY n))
def zcE (e:Int)(vss:List (List Int)):Value->Qt->Go.Kn.Loc->Prop:=fun v I' L=>L=[]/\∃ av c,v= .tuple #[.slice av vss.length c,.int .i64 e]/\SlN I' av vss.length c vss
theorem SlN.none :SlN I none 0 0 []:=⟨[],.nil,zaq.nil⟩
theorem zcE.empty {e:Int}(h:vss=[]):zcE e vss (.tuple #[.slice none 0 0,.int .i64 e]) I []:=by subst h;exact ⟨U,none,0,U,.none⟩
theorem zrR {n:Int}(h:n>6):zoM n=2:=by unfold zoM;rw [jb h]
theorem ztP {n:Int}(h:¬n>6)(h2:n<1):zoM n=420:=by unfold zoM;rw [ja h,jb h2]
theorem zkw {n:Int}(h:¬n>6)(h2:¬n<1):zoM n=0:=by unfold zoM;rw [ja h,ja h2]
theorem zwB:((List.range 64).all fun s=>decide (Wp (s:Int)<7))=true:=kA
theorem zzn (hs:1<=s/\s<=63):Wp s<7:=by have h0:=ji.1 zwB s.toNat (jm.2 kB);rw [show ((s.toNat:Nat):Int)=s by omega] at h0;simpa using h0
theorem zcs :∀ r∈Kj 7 s,r.length<=100000:=fun r hr=>by have:=zda 7 s r hr;omega
theorem zof:((List.range 6).all fun n=>(Kj 7 (YY (n:Int))).all fun x=>n==0||V4 (n:Int) x==0)=true:=kA
variable{x:List Int}
theorem zlz (h1:1<=n)(h5:n<=5)(hx:x∈Js (n:Int)):V4 (n:Int) x=0:=by have h0:=ji.1 zof n (jm.2 kB);have h0:=ji.1 h0 x (W6 _ _ hx);have hn:(n==0)=false:=(by simp;omega);rw [hn,OC] at h0;exact eq_of_beq h0
def zg1 (b c:Int):Bool:=decide (b<0)||decide (c<b)
def zvL (rows:List (List Int))(p:Int×List (List Int))(x:List Int):Int×List (List Int):=
 let c:=Yv rows x;let b:=if zg1 p.1 c then c else p.1
 let o:=if zg1 p.1 c then [] else p.2
 (b,if c==b then o++[x] else o)
def Xm (rows:List (List Int))(k:Nat):Int×List (List Int):=((Js rows.length).take k).foldl (zvL rows) (-1,[])
theorem zez (hx:(Js rows.length)[k]? =some x):Xm rows (k+1)=zvL rows (Xm rows k) x:=by unfold Xm;rw [ZI hx,Od];rfl
def zc2 (rows:List (List Int)):Int:=if YL rows≠0 then 0 else (Xm rows (Js rows.length).length).1
def UF (rows:List (List Int)):List (List Int):=if YL rows≠0 then [] else (Xm rows (Js rows.length).length).2
def zoW (rows:List (List Int)):Value->Qt->Go.Kn.Loc->Prop:=fun v I' L=>L=[]/\∃ av c,v= .tuple #[.slice av (UF rows).length c,.int .i64 (zc2 rows),.int .i64 (YL rows)]/\SlN I' av (UF rows).length c (UF rows)
theorem zoW.bad (h:YL rows≠0):zoW rows (.tuple #[.slice none 0 0,.int .i64 0,.int .i64 (YL rows)]) I []:=by have e1:UF rows=[]:=(by unfold UF;rw [jb h]);have e2:zc2 rows=0:=(by unfold zc2;rw [jb h]);exact ⟨U,none,0,by rw [e1,e2];rfl,by rw [e1];exact .none⟩
theorem zgt (h:YL rows=0):UF rows=(Xm rows (Js rows.length).length).2/\zc2 rows=(Xm rows (Js rows.length).length).1:=by unfold UF zc2;rw [ja kB,ja kB];exact ⟨U,U⟩
theorem zsy:Fun Tryz.prog 75:=.of Tryz.func75 kA kA
variable{xs:List Int}
theorem zC4 {x:Int}(hx:xs[0]? =some x):zgg xs 1=x:=by
 cases xs with
 | nil=>cases hx
 | cons y xs=>cases hx;simp [zgg,K2]
variable{av:Option Addr}{c:Nat}
theorem zCL (hS:Sl I 1 Q3 av n c xs)(hn:n<=100000)(h0:0<n):Zt Tryz.prog 75 [.slice av n c] I (.int .i64 (YR xs)):=by
 intro g H w hw;refine qe Tryz.func75 Tryz.ntmps75 hw ?_;obtain ⟨x0,hx0⟩:=hS.at h0;refine zR (zA (zN (Ql (zR ?_))));refine zM ?_;refine zQ Qx ?_;refine zC (zN ?_);refine zI ?_ ?_<;>intro hc7
 ·have h:=hc7;simp at h;omega
 refine Qo (Qa (zR (zM ?_)));refine zV (Qy U U Qx kI (fun hg=>kB)) ?_;refine zV (Qd U Qq (fun hg=>by exact zGG (k:=0) hS hx0 U)) ?_;refine zA (zN (Ql (zR ?_)));refine zA (zN (Qp ?_));refine zU [(0,_)] (fun T L0 mz E I' loc'=>∃ (k:Nat) (m:Int),mz=n-k/\E=(3,.int .i64 m)::(4,.int .i64 k)::T/\I=I'/\L0=loc'/\k<=n/\m=zgg xs k/\1<=k) ?_ (h:=⟨1,_,U,U,U,U,h0,(zC4 hx0).symm,js _⟩);rintro mz E I' loc' ⟨k,m,rfl,rfl,rfl,rfl,hk,hm,hk1⟩;refine Ql (zR (zM ?_));refine zM ?_;refine zQ Qx ?_;refine zC (zN ?_);refine zI ?_ ?_<;>intro hc15
 ·have hlt_k:k<n:=(by have h:=hc15;simp at h;omega);obtain ⟨x,hx⟩:=hS.at hlt_k;refine Qo (Qa (Ql (Qp (Qf (zM ?_)))));refine zM ?_;refine zM ?_;refine zV (Qy U U Qx kI (fun hg=>kB)) ?_;refine zV (Qd U Qq (fun hg=>by exact zGG hS hx U)) ?_;refine zV (zr5 U U) ?_;refine zA (Qb (Qg (Qa (Qf ?_))));refine zM ?_;refine zB ?_;refine zA (Qb ?_);exact zm (h:=⟨n-(k+1),kB,k+1,_,U,U,U,U,kB,by rw [zff hx,hm],kB⟩)
 have hge_k:n<=k:=(by have h:=hc15;simp at h;omega);have hkn:k=xs.length:=(by rw [hS.len];omega);subst hkn;refine QF (Qh (Qh (Qm (Qa (zR (zM ?_))))));refine zA (zN (Qr ?_))
 first
 | exact zr U U (by rw [hm];rfl)
theorem zt5 (hS:Sl I 1 Q3 av n c xs)(hn:n<=100000)(h0:0<n):Zt Tryz.prog 151 [.slice av n c] I (.int .i64 (YR xs)):=by intro g H w hw;refine qe Tryz.func151 Tryz.ntmps151 hw ?_;refine zR (zA ?_);refine zN (zR ?_);refine zM ?_;refine qcV (vs:=[_]) U zsy (zCL hS hn h0) ?_;refine zA (zN (Qr ?_));exact zr U U kL
end
end Go.Proofs.YtmbjmjbjdgjonaaGreatDoor
namespace Go.Kn
section
open Go
theorem zjN {C:Cx}{S:GS}{E:Env}{I:Qt}{loc:Loc}{dst:Option Nat}{ty:Nat}{pos:String}{af:Array Edge}{gd:Option (Nat×Bool)}{t e:Nat}{z1 z2 z3 z4 a b c d:Value}{x y:Operand}
  (hT:ArT C.P t 2 e 2)(hz:Yw C.P t (.agg #[z1,z2,z3,z4]))(hx:Qv S E x=some (.agg #[a,b]))(hy:Qv S E y=some (.agg #[c,d])):
  QV C S E I loc ⟨dst,.build t #[(0,x),(1,y)],ty,pos,af,gd⟩ (.agg #[a,b,c,d]):=
 .of kC fun st w ha hg hc hw=>by
  obtain ⟨hu,i,hi,hs⟩:=hT;have hsz:∀ w:World,(sizeOf e).run C.P w= .ok 2 w:=fun w=>(by have h1:=Go.run_sizeOf (w:=w) hi;have h2:C.P.cellsOf e=2:=(by unfold Program.cellsOf;rw [hi];exact hs);rw [h2] at h1;exact h1);simp only [execOp,Instr.build,jg,Yc hz,Result.andThen,jK hu,hsz,j6,jx,Oo,Qi ha hg hc hx,Qi ha hg hc hy];rfl
end
end Go.Kn
namespace Go.Proofs.YtmbjmjbjdgjonaaGreatDoor
section
open Go Go.Kn Go.Proofs
theorem zxn:AgT Tryz.prog 244 4:=.of kA
theorem zli:Ar2 Tryz.prog 82 3 .i64:=⟨kA,kA,kA,kA,kA⟩
theorem zn7:ArT Tryz.prog 244 2 82 2:=.of kA
theorem zxu:SzT Tryz.prog 244 4:=.of kA
theorem zsi:Yw Tryz.prog 244 (.agg #[(.int .i64 0),(.int .i64 0),(.int .i64 0),(.int .i64 0)]):=.of kA
theorem WY:Yw Tryz.prog 82 (.agg #[(.int .i64 0),(.int .i64 0)]):=.of kA
theorem zv5 (I:Qt):Zt Tryz.prog 195 [] I (.agg #[.int .i64 2,.int .i64 1,.int .i64 4,.int .i64 0]):=by intro g H w hw;refine qe Tryz.func195 Tryz.ntmps195 hw ?_;refine zR ?_;refine Qs zsi U U (fun b_0=>?_);refine zN (zR ?_);refine zV (zfN zli WY U U) ?_;refine zV (zfN zli WY U U) ?_;refine zV (zjN zn7 zsi U U) ?_;refine zh zxu ?_;refine zN (Qr ?_);exact Y3 (vs:=[.int .i64 2,.int .i64 1,.int .i64 4,.int .i64 0]) U U zxn kJ U (fun w hw=>⟨U,hw.drop⟩)
theorem zhG:AgT Tryz.prog 82 2:=.of kA
theorem VM:ArT Tryz.prog 82 2 3 1:=.of kA
theorem zlk:Fun Tryz.prog 194:=.of Tryz.func194 kA kA
theorem zuB:Fun Tryz.prog 195:=.of Tryz.func195 kA kA
theorem mixed:Tryz.prog.follows .mixedOrders=true:=kA
theorem zmd (n:Int):0<=zdQ n/\zdQ n<2:=by unfold zdQ;split<;>omega
theorem zwA {f t:Int}(h:f≠t):((([.int .i64 2,.int .i64 1,.int .i64 4,.int .i64 0]:List Value).drop ((zdQ f).toNat*2)).take 2)[(zdQ t).toNat*1]? =some (.int .i64 (V0 f t)):=by
 unfold V0 zdQ;rw [ja h];by_cases h1:t=0
 ·have h2:¬f=0:=fun e=>h (by rw [e,h1]);rw [jb h1,ja h2,jb h1];rfl
 rw [ja h1,ja h1];by_cases h2:f=0
 ·rw [jb h2,jb h2];rfl
 rw [ja h2,ja h2];rfl
theorem zCb (I:Qt)(f t:Int):Zt Tryz.prog 150 [.int .i64 f,.int .i64 t] I (.int .i64 (V0 f t)):=by
 intro g H w hw;refine qe Tryz.func150 Tryz.ntmps150 hw ?_;refine zR (zA (zN (Ql (zR ?_))));refine zM ?_;refine zM ?_;refine zC (zN ?_);refine zI ?_ ?_<;>intro hc8
 ·have heq:f=t:=(by simpa using hc8);refine zR (zA (zN (Qr (Qc ?_))))
  first
  | exact zr U U (by unfold V0;rw [jb heq])
 have hne:f≠t:=(by simpa using hc8);refine Qo (Qa (zR (zA (zN (Ql ?_)))));refine YE mixed kA ?_;refine Jq (cap:=[]) (vs:=[]) U U zuB (zv5 I) U U ?_;refine zq (Qj U) ?_;refine zq (Qj U) ?_;refine Jq (cap:=[]) (vs:=[_]) U U zlk (zsA I _) U U ?_;refine zq (Wd (cs:=[.int .i64 2,.int .i64 1,.int .i64 4,.int .i64 0]) U U zn7 zhG (fun hg=>zmd _)) ?_;refine zq (Qj U) ?_;refine zq (Qj U) ?_;refine Jq (cap:=[]) (vs:=[_]) U U zlk (zsA I _) U U ?_;refine zq (Un U U VM Qq (fun hg=>zmd _) (fun hg=>zwA hne)) ?_;refine zq (QU U) ?_;refine YC ?_;refine Qa (Qr ?_);exact zr U U kL
def zua:List Int:=[0,1,56,2,57,49,28,3,61,58,42,50,38,29,17,4,62,47,59,36,45,43,51,22,53,39,33,30,24,18,12,5,63,55,48,27,60,41,37,16,46,35,44,21,52,32,23,11,54,26,40,15,34,20,31,10,25,14,19,9,13,8,7,6]
def KR (I:Qt):Prop:=∀ i:Nat,i<64->QB I [] 1 i (.int .u8 (zua.getD i 0))
variable{I I':Qt}
theorem KR.mono (h:KR I)(hI:HLe I I'):KR I':=fun i hi=>(h i hi).mono hI
def zFb (a b:Int):Int:=IntKind.u64.wrap ((BitVec.ofInt 64 a&&& BitVec.ofInt 64 b).toNat:Int)
def zoE (x:Int):Int:=(IntKind.u64.wrap (zFb x (IntKind.u64.wrap (0-x))*285870213051353865)).fdiv (2^58)
theorem zxZ:((List.range 64).all fun s=> !Z5 (s:Int)||(decide (0<=zoE (s:Int))&&decide (zoE (s:Int)<64)&&decide (IntKind.i64.wrap (zua.getD (zoE (s:Int)).toNat 0)=(UD (s:Int):Int))))=true:=kA
variable{s:Int}
theorem zAN (hs:1<=s/\s<=63)(h1:Z5 s=true):(0<=zoE s/\zoE s<64)/\IntKind.i64.wrap (zua.getD (zoE s).toNat 0)=(UD s:Int):=by have h:=ji.1 zxZ s.toNat (jm.2 kB);rw [show ((s.toNat:Nat):Int)=s by omega,h1] at h;simpa using h
section
variable {C:Cx} {E:Env} {I:Qt} {loc:Go.Kn.Loc} {S:GS} {dst:Option Tmp} {ty:TypeId} {pos:String} {af:Array Edge} {gd:Option (Nat×Bool)} {x y:Operand} {a b:Int}
theorem zyC {t t':TypeId}(hx:Qv S E x=some (.int .u64 a))(hy:Qv S E y=some (.int .u64 b)):QV C S E I loc ⟨dst,.binOp .and t x y t',ty,pos,af,gd⟩ (.int .u64 (zFb a b)):=
 .of kC fun ac w ha hg hc _=>by
  simp only [execOp,Qi ha hg hc hx,Qi ha hg hc hy,jg,ZH,Result.andThen,binOp,Bn,OF,j2,Op.intBits,jl,zFb,IntKind.bits];rfl
end
def eiv:Int->Value:=Value.int .i64
structure W2 (m:List (Int×Int))(g:Int->Option Int):Prop where
 nd:(m.map (·.1)).Nodup
 get:∀ x,ZP m x=g x
theorem W2.nil:W2 [] (fun _=>none):=⟨.nil,fun _=>U⟩
variable{m:List (Int×Int)}{g:Int->Option Int}
theorem W2.set (h:W2 m g)(x v:Int):W2 (YM m x v) (fun y=>if x=y then some v else g y):=
 ⟨XU _ _ h.nd,fun y=>by rw [Y4,h.get]⟩
theorem W2.congr {g':Int->Option Int}(h:W2 m g)(e:∀ x,g x=g' x):W2 m g':=⟨h.nd,fun x=>by rw [h.get,e]⟩
variable{p:Int×Int}
theorem W2.mem (h:W2 m g)(hp:p∈m):g p.1=some p.2:=by rw [<-h.get];exact zc6 h.nd hp
def zn9 {α:Type}(m:List α)(seen:List Nat):List α:=seen.filterMap fun i=>m[i]?
variable{α:Type}{seen:List Nat}{i:Nat}
theorem zeg {m:List α}{p:α}(hp:m[i]? =some p):zn9 m (seen++[i])=zn9 m seen++[p]:=by unfold zn9;rw [List.filterMap_append];simp [hp]
theorem zgn {m:List α}(hnd:seen.Nodup)(hlt:∀ i∈seen,i<m.length)(hall:∀ i (p:α),m[i]? =some p->i∈seen):(zn9 m seen).Perm m:=by have h1:=(zbW hnd hlt hall).filterMap (fun i=>m[i]?);rw [zfZ] at h1;exact h1
theorem zld {m:List α}{p:α}:p∈zn9 m seen↔ ∃ i∈seen,m[i]? =some p:=by unfold zn9;rw [BN]
variable{n:Nat}
theorem KG (hnd:seen.Nodup)(hlt:∀ i∈seen,i<n)(hs:i∉seen)(hi:i<n):(seen++[i]).Nodup/\(∀ j∈seen++[i],j<n)/\(seen++[i]).length<=n:=by have h1:(seen++[i]).Nodup:=Oz.2 ⟨hnd,by simp,fun a ha b hb e=>hs (by simp at hb;subst hb;subst e;exact ha)⟩;have h2:∀ j∈seen++[i],j<n:=fun j hj=>(jv.1 hj).elim (hlt j) (fun h=>by simp at h;subst h;exact hi);refine ⟨h1,h2,?_⟩;have:=Ue (m:=List.range n) h1 (by simpa using h2);simpa using this
theorem zbd:∀ (xs:List Int) (b:Int),(∀ x∈xs,xs.foldl K2 b<=x)/\xs.foldl K2 b<=b/\(xs.foldl K2 b=b\/xs.foldl K2 b∈xs)
 | [],b=>⟨fun x h=>by simp at h,Aq _,.inl U⟩
 | y::xs,b=>by
  obtain ⟨h1,h2,h3⟩:=zbd xs (K2 b y);simp only [Of];have hb:K2 b y<=b/\K2 b y<=y/\(K2 b y=b\/K2 b y=y):=(by unfold K2;split<;>omega);refine ⟨fun x hx=>?_,kB,?_⟩
  ·rcases jp.1 hx with rfl | hx
   ·omega
   ·exact h1 x hx
  ·rcases h3 with h3 | h3
   ·rcases hb.2.2 with e | e
    ·left;rw [h3,e]
    ·right;rw [h3,e];exact jk ..
   ·right;exact jq _ h3
variable{xs:List Int}
theorem zet (h:xs≠[]):YR xs∈xs/\∀ x∈xs,YR xs<=x:=by
 cases xs with
 | nil=>exact absurd U h
 | cons y xs=>
  unfold YR zgg;rw [AU];have e:(y::xs).getD 0 0=y:=rfl;rw [e];obtain ⟨h1,h2,h3⟩:=zbd (y::xs) y;refine ⟨?_,h1⟩;rcases h3 with h3 | h3
  ·rw [h3];exact jk ..
  ·exact h3
theorem ziX {v:Int}(h:v∈xs)(h2:∀ x∈xs,v<=x):YR xs=v:=by obtain ⟨h3,h4⟩:=zet (BO h);have a:=h4 v h;have b:=h2 _ h3;omega
theorem ze6 (st cs:List Int)(s:Int)(k:Nat):zd6 st cs s k=((List.range k).map fun i=>V0 s (st.getD i 0)+cs.getD i 0).foldl K2 1048576:=by unfold zd6;rw [List.foldl_map]
structure zf8 (st cs:List Int)(b:Int)(m:List (Int×Int)):Prop where
 len:cs.length=st.length
 nd:(m.map (·.1)).Nodup
 get:∀ (i:Nat) (x c:Int),st[i]? =some x->cs[i]? =some c->ZP m x=if c<1048576 then some c else none
 old:∀ p∈m,p.1∈st
 pos:∃ c∈cs,c<1048576
 le:∀ c∈cs,0<=c/\(c<1048576->c<=b)/\c<=1048576
variable{st cs:List Int}{b:Int}
theorem zf8.ne (h:zf8 st cs b m):0<m.length:=by obtain ⟨c,hc,hlt⟩:=h.pos;obtain ⟨i,hi⟩:=jC hc;have hil:=(jc.1 hi).1;have hx:st[i]? =some (st[i]'(by rw [<-h.len];exact hil)):=je _;have:=h.get i _ c hx hi;rw [jb hlt] at this;exact AL (U8 this)
variable{x:Int}
theorem zf8.ent (h:zf8 st cs b m){c:Int}:(x,c)∈m↔ ∃ i:Nat,st[i]? =some x/\cs[i]? =some c/\c<1048576:=by
 constructor
 ·intro hm;obtain ⟨i,hi⟩:=jC (h.old _ hm);have hil:=(jc.1 hi).1;have hc:cs[i]? =some (cs[i]'(by rw [h.len];exact hil)):=je _;have hg:=h.get i x _ hi hc;rw [zc6 h.nd hm] at hg;split at hg
  ·rename_i hlt;cases hg;exact ⟨i,hi,hc,hlt⟩
  ·cases hg
 ·rintro ⟨i,h1,h2,h3⟩;have:=h.get i x c h1 h2;rw [jb h3] at this;exact U8 this
variable{vs:List (Int×Int)}
theorem Wk (h:zf8 st cs b m)(hb:b<=1000)(hp:vs.Perm m)(s:Int):YR (vs.map fun p=>p.2+V0 s p.1)=YX st cs s/\0<=YX st cs s/\YX st cs s<=b+4/\∀ p∈vs,0<=p.2/\p.2<=b:=by
 have hsm:∀ p∈m,0<=p.2/\p.2<=b:=fun p hp=>by
  obtain ⟨i,_,h2,h3⟩:=(h.ent (x:=p.1) (c:=p.2)).1 hp;have:=h.le _ (jd h2);exact ⟨this.1,this.2.1 h3⟩
 have hlow:∀ p∈m,YX st cs s<=p.2+V0 s p.1:=fun p hp=>by
  obtain ⟨i,h1,h2,h3⟩:=(h.ent (x:=p.1) (c:=p.2)).1 hp;unfold YX;rw [ze6];have hil:=(jc.1 h1).1;have:=(zbd ((List.range st.length).map fun i=>V0 s (st.getD i 0)+cs.getD i 0) 1048576).1 (V0 s p.1+p.2) (jt.2 ⟨i,jm.2 hil,by rw [Q1 h1,Q1 h2]⟩);omega
 have hne:m≠[]:=fun e=>(by have:=h.ne;rw [e] at this;simp at this);obtain ⟨q,hq⟩:=List.exists_mem_of_ne_nil m hne;have hq1:=hlow q hq;have hq2:=hsm q hq;have hq3:=WR s q.1
 have hmem:∃ p∈m,YX st cs s=p.2+V0 s p.1:=by
  have h3:=(zbd ((List.range st.length).map fun i=>V0 s (st.getD i 0)+cs.getD i 0) 1048576).2.2;rw [<-ze6] at h3;rcases h3 with h3 | h3
  ·have:YX st cs s=1048576:=h3;omega
  ·obtain ⟨i,hi,e⟩:=jt.1 h3;have hi:=jm.1 hi;have h1:st[i]? =some (st.getD i 0):=Zc U hi;have h2:cs[i]? =some (cs.getD i 0):=Zc U (by rw [h.len];exact hi);have hst:=WR s (st.getD i 0);have e:V0 s (st.getD i 0)+cs.getD i 0=YX st cs s:=e;exact ⟨(st.getD i 0,cs.getD i 0),h.ent.2 ⟨i,h1,h2,kB⟩,by show _=cs.getD i 0+V0 s (st.getD i 0);omega⟩
 obtain ⟨p,hpm,he⟩:=hmem;have hp2:=hsm p hpm;have hp3:=WR s p.1;refine ⟨ziX (jt.2 ⟨p,hp.mem_iff.2 hpm,he.symm⟩) (fun x hx=>?_),kB,kB,fun p hp'=>hsm p (hp.mem_iff.1 hp')⟩;obtain ⟨r,hr,rfl⟩:=jt.1 hx;exact hlow r (hp.mem_iff.1 hr)
def Ke (c a:Nat):Bool:=c&&& a==c
variable{a:Nat}
theorem Jr {c s:Nat}(h:Ke c a=true)(g:Ke a s=true):Ke c s=true:=by
 unfold Ke at*;rw [j0] at*
 calc c&&& s=(c&&& a)&&& s:=by rw [h]
  _=c&&& (a&&& s):=Nat.and_assoc ..
  _=c:=by rw [g,h]
theorem Xj {c b:Nat}(h:Ke c a=true)(g:Ke c b=true)(e:b&&& a=0):c=0:=by
 unfold Ke at*;rw [j0] at*
 calc c=(c&&& b)&&& a:=by rw [g,h]
  _=c&&& (b&&& a):=Nat.and_assoc ..
  _=0:=by rw [e];exact Nat.and_zero _
theorem Xu (a:Nat):Ke a a=true:=by unfold Ke;rw [Nat.and_self];exact B6 _
theorem zoS {b:Nat}(h:Ke a b=true)(g:Ke b a=true):a=b:=by
 unfold Ke at*;rw [j0] at*
 calc a=a&&& b:=h.symm
  _=b&&& a:=Nat.and_comm ..
  _=b:=g
theorem zaH {b:Nat}(h:Ke a b=true):a<=b:=by unfold Ke at h;rw [j0] at h;rw [<-h];exact Nat.and_le_right
theorem zrF:((List.range 64).all fun s=>(List.range 64).all fun a=> !Ke a s||((((s-a)&&& a)==0)&&Ke (s-a) s&&(Wp (a:Int)+Wp ((s-a:Nat):Int)==Wp (s:Int))))=true:=kA
theorem zbx {s:Nat}(hs:s<64)(ha:a<64)(h:Ke a s=true):(s-a)&&& a=0/\Ke (s-a) s=true/\Wp (a:Int)+Wp ((s-a:Nat):Int)=Wp (s:Int):=by have h0:=ji.1 zrF s (jm.2 hs);have h0:=ji.1 h0 a (jm.2 ha);rw [h] at h0;simpa [and_assoc] using h0
theorem zrB:((List.range 64).all fun s=>(List.range 64).all fun a=>JK (a:Int) (s:Int)==((a&&& s:Nat):Int))=true:=kA
theorem zv1 {s:Nat}(hs:s<64)(ha:a<64):JK (a:Int) (s:Int)=((a&&& s:Nat):Int):=by have h0:=ji.1 zrB s (jm.2 hs);have h0:=ji.1 h0 a (jm.2 ha);exact eq_of_beq h0
theorem zqN {a:Int}(hs:0<=s/\s<=63)(ha:0<=a/\a<=63):(JK a s==a)=Ke a.toNat s.toNat:=by have h:=zv1 (s:=s.toNat) (a:=a.toNat) kB kB;rw [show ((s.toNat:Nat):Int)=s by omega,show ((a.toNat:Nat):Int)=a by omega] at h;unfold Ke;rw [h,jL,j0,j0];omega
def zou (s:Nat):Nat:=(JK (s:Int) (IntKind.i64.wrap (0-(s:Int)))).toNat
theorem zwm:((List.range 64).all fun s=>s==0||(Ke (zou s) s&&decide (1<=zou s)&&(JK (s:Int) (IntKind.i64.wrap (0-(s:Int)))==(zou s:Int))&&(!Z5 (s:Int)||(zou s==s&&Wp (s:Int)==1))))=true:=kA
theorem zaN {s:Nat}(h0:1<=s)(hs:s<64):Ke (zou s) s=true/\1<=zou s/\JK (s:Int) (IntKind.i64.wrap (0-(s:Int)))=(zou s:Int)/\(Z5 (s:Int)=true->zou s=s/\Wp (s:Int)=1):=by
 have h:=ji.1 zwm s (jm.2 hs);have hne:(s==0)=false:=(by simp;omega);rw [hne,OC] at h;simp only [jj,OD,jQ,j0,jS] at h;refine ⟨h.1.1.1,h.1.1.2,h.1.2,fun e=>?_⟩;rcases h.2 with h | h
 ·rw [e] at h;cases h
 ·exact h
theorem zyN:((List.range 7).all fun n=>n==0||((List.range 64).all fun s=> !decide ((s:Int)<=YY (n:Int))||Ke s (YY (n:Int)).toNat)&&(Wp (YY (n:Int))==n))=true:=kA
theorem zgd (h1:1<=n)(h6:n<=6):(∀ s:Nat,s<64->(s:Int)<=YY (n:Int)->Ke s (YY (n:Int)).toNat=true)/\Wp (YY (n:Int))=n:=by have h:=ji.1 zyN n (jm.2 kB);have hne:(n==0)=false:=(by simp;omega);rw [hne,OC,jj] at h;refine ⟨fun s hs hle=>?_,eq_of_beq h.2⟩;have:=ji.1 h.1 s (jm.2 hs);simpa [hle] using this
def wN (p:Int->Bool)(cl:List Int):Nat:=(cl.map fun c=>if p c then 1 else 0).sum
def inS (s:Int)(c:Int):Bool:=Ke c.toNat s.toNat
theorem zh6 {f g:Int->Nat}:∀ {cl:List Int},(∀ c∈cl,f c<=g c)->(cl.map f).sum<=(cl.map g).sum
 | [],_=>js _
 | c::cl,h=>by
  have h1:=h c (jk ..);have h2:=zh6 (f:=f) (g:=g) (cl:=cl) fun x hx=>h x (jq _ hx);simp only [jx,AG];omega
theorem zst {f g:Int->Nat}:∀ {cl:List Int},(∀ c∈cl,f c<=g c)->(cl.map g).sum<=(cl.map f).sum->∀ c∈cl,f c=g c
 | [],_,_=>fun c hc=>by cases hc
 | x::cl,h,hs=>by
  have h1:=h x (jk ..);have h2:=zh6 (f:=f) (g:=g) (cl:=cl) fun x hx=>h x (jq _ hx);simp only [jx,AG] at hs;intro c hc;rcases jp.1 hc with rfl | hc
  ·omega
  ·exact zst (f:=f) (g:=g) (cl:=cl) (fun x hx=>h x (jq _ hx)) kB c hc
theorem zap {f g:Int->Nat}(cl:List Int):(cl.map fun c=>f c+g c).sum=(cl.map f).sum+(cl.map g).sum:=by
 induction cl with
 | nil=>rfl
 | cons c cl ih=>simp only [jx,AG,ih];omega
variable{cl:List Int}
theorem zrZ (h:s∈cl):1<=(cl.map fun c=>if c=s then 1 else 0).sum:=by
 induction cl with
 | nil=>cases h
 | cons c cl ih=>
  simp only [jx,AG];rcases jp.1 h with rfl | h
  ·rw [jb rfl];omega
  ·have:=ih h;omega
section
variable {n:Nat} {cl:List Int} (hc:V4 n cl=0)
include hc
theorem zcm {s:Int}(h:OkS n cl s):1<=s/\s<=63:=⟨h.1,Int.le_trans h.2.1 (WA (n:=(n:Int)) ⟨(ZZ hc).1,(ZZ hc).2.1⟩).2⟩
theorem zqu {s:Int}(h:s∈cl):OkS n cl s:=by
 obtain ⟨h1,h6,hlen,hin⟩:=ZZ hc;have h63:=hin s h;refine ⟨h63.1,?_,by unfold WK;rw [OD];left;rw [ju];exact ⟨s,h,by simp⟩⟩;obtain ⟨k,hk⟩:=jC h
 have h4:(List.range cl.length).all (Ko (YY n) cl)=true:=by
  have h:=hc;unfold V4 at h
  repeat (split at h; · cases h)
  rename_i h3 _ _;simpa using h3
 exact (zd5 h4 hk).2
theorem V5 {s:Int}(h:OkS n cl s)(h1:Z5 s=false):s∈cl/\OkS n cl (Qw cl s)/\OkS n cl (s-Qw cl s)/\1<=Qw cl s/\Qw cl s<s/\Ke (Qw cl s).toNat s.toNat=true/\zey (Qw cl s) s=true:=by
 have hle:=zcm hc h
 have hin:s∈cl:=by
  have h4:=h.2.2;unfold WK at h4;rw [h1,OL,ju] at h4;obtain ⟨c,hc2,e⟩:=h4;have:c=s:=by simpa using e
  exact this ▸ hc2
 have hz:(JK s (IntKind.i64.wrap (s-1))==0)=false:=by
  unfold Z5 at h1;rw [jX (show s>0 by omega),OM] at h1;exact h1
 obtain ⟨o1,o2,o3,o4⟩:=zqV hc h hz;obtain ⟨a1,a2,a3⟩:=X2 (Wj hc s hin) (js 1);have a3:JZ cl s (Qw cl s)=true:=a3;unfold JZ at a3;simp only [jj] at a3;refine ⟨hin,o1,o2,o3,o4,?_,a3.1.1.2⟩;rw [<-zqN kB kB];exact a3.1.1.1
theorem zdG:∀ (m:Nat) (s:Int),s.toNat<=m->OkS n cl s->Wp s<=wN (inS s) cl+1
 | 0,s,hm,h=>by have:=h.1;omega
 | m+1,s,hm,h=>by
  have hle:=zcm hc h
  cases h1:Z5 s with
  | true=>
   have:=(zaN (s:=s.toNat) kB kB).2.2.2;rw [show ((s.toNat:Nat):Int)=s by omega] at this;have:=(this h1).2;omega
  | false=>
   obtain ⟨hin,o1,o2,o3,o4,o5,_⟩:=V5 hc h h1;have i1:=zdG m _ kB o1;have i2:=zdG m _ kB o2;obtain ⟨q1,q2,q3⟩:=zbx kB kB o5;rw [show (((Qw cl s).toNat:Nat):Int)=Qw cl s by omega,show ((s.toNat -(Qw cl s).toNat:Nat):Int)=s-Qw cl s by omega,show ((s.toNat:Nat):Int)=s by omega] at q3;have hone:=zrZ hin
   have hpt:∀ c∈cl,((if c=s then 1 else 0)+((if inS (Qw cl s) c then 1 else 0)+(if inS (s-Qw cl s) c then 1 else 0)):Nat)<=if inS s c then 1 else 0:=fun c hcm=>by
    have hcle:=(ZZ hc).2.2.2 c hcm;unfold inS;by_cases e:c=s
    ·subst e;rw [jb rfl,jb (Xu _),ja,ja]
     ·omega
     ·intro g;have:=zaH g;omega
     ·intro g;have:=zaH g;omega
    ·rw [ja e];by_cases g1:Ke c.toNat (Qw cl s).toNat=true
     ·rw [jb g1,jb (Jr g1 o5),ja]
      ·omega
      ·intro g2;have g2:Ke c.toNat (s.toNat -(Qw cl s).toNat)=true:=(by rw [<-show (s-Qw cl s).toNat=s.toNat -(Qw cl s).toNat by omega];exact g2);have:=Xj g1 g2 q1;omega
     ·rw [ja g1];by_cases g2:Ke c.toNat (s-Qw cl s).toNat=true
      ·rw [jb g2,jb (Jr (by rw [show s.toNat -(Qw cl s).toNat=(s-Qw cl s).toNat by omega] at q2;exact g2) (by rw [show (s-Qw cl s).toNat=s.toNat -(Qw cl s).toNat by omega];exact q2))];omega
      ·rw [ja g2];omega
   have hs:=zh6 hpt;rw [zap,zap] at hs;unfold wN at*;omega
def zr9 (n:Nat)(cl:List Int)(s:Int):Prop:=OkS n cl s/\wN (inS s) cl+1=Wp s
theorem ziV:zr9 n cl (YY n):=by
 obtain ⟨h1,h6,hlen,hin⟩:=ZZ hc;obtain ⟨g1,g2⟩:=zgd (n:=n) kB kB;refine ⟨zov hc,?_⟩
 have:wN (inS (YY n)) cl=cl.length:=by
  unfold wN
  have:∀ l:List Int,(∀ c∈l,c∈cl)->(l.map fun c=>if inS (YY n) c then 1 else 0).sum=l.length:=by
   intro l
   induction l with
   | nil=>intro _;rfl
   | cons c l ih=>
    intro hl;have hcm:=hl c (jk ..);have hle:=hin c hcm;have:=(zqu hc hcm).2.1;simp only [jx,AG,jw,ih fun x hx=>hl x (jq _ hx)];have hs:inS (YY n) c=true:=g1 c.toNat kB kB;rw [jb hs];omega
  exact this cl fun _ h=>h
 omega
theorem zcc {s:Int}(h:zr9 n cl s)(h1:Z5 s=false):zr9 n cl (Qw cl s)/\zr9 n cl (s-Qw cl s)/\∀ c∈cl,inS s c=true->c=s\/inS (Qw cl s) c=true\/inS (s-Qw cl s) c=true:=by
 have hle:=zcm hc h.1;obtain ⟨hin,o1,o2,o3,o4,o5,_⟩:=V5 hc h.1 h1;obtain ⟨q1,q2,q3⟩:=zbx kB kB o5;rw [show (((Qw cl s).toNat:Nat):Int)=Qw cl s by omega,show ((s.toNat -(Qw cl s).toNat:Nat):Int)=s-Qw cl s by omega,show ((s.toNat:Nat):Int)=s by omega] at q3;have hone:=zrZ hin;have i1:=zdG hc _ _ (js _) o1;have i2:=zdG hc _ _ (js _) o2
 have hpt:∀ c∈cl,((if c=s then 1 else 0)+((if inS (Qw cl s) c then 1 else 0)+(if inS (s-Qw cl s) c then 1 else 0)):Nat)<=if inS s c then 1 else 0:=fun c hcm=>by
  have hcle:=(ZZ hc).2.2.2 c hcm;unfold inS;by_cases e:c=s
  ·subst e;rw [jb rfl,jb (Xu _),ja,ja]
   ·omega
   ·intro g;have:=zaH g;omega
   ·intro g;have:=zaH g;omega
  ·rw [ja e];by_cases g1:Ke c.toNat (Qw cl s).toNat=true
   ·rw [jb g1,jb (Jr g1 o5),ja]
    ·omega
    ·intro g2;have g2:Ke c.toNat (s.toNat -(Qw cl s).toNat)=true:=(by rw [<-show (s-Qw cl s).toNat=s.toNat -(Qw cl s).toNat by omega];exact g2);have:=Xj g1 g2 q1;omega
   ·rw [ja g1];by_cases g2:Ke c.toNat (s-Qw cl s).toNat=true
    ·rw [jb g2,jb (Jr (by rw [show s.toNat -(Qw cl s).toNat=(s-Qw cl s).toNat by omega] at q2;exact g2) (by rw [show (s-Qw cl s).toNat=s.toNat -(Qw cl s).toNat by omega];exact q2))];omega
    ·rw [ja g2];omega
 have hs:=zh6 hpt;rw [zap,zap] at hs;have hf:=h.2;refine ⟨⟨o1,?_⟩,⟨o2,?_⟩,fun c hcm hsc=>?_⟩
 ·unfold wN at*;omega
 ·unfold wN at*;omega
 ·have he:=zst hpt (by rw [zap,zap];unfold wN at*;omega) c hcm;by_cases e:c=s
  ·exact .inl e
  ·rw [ja e,jb hsc] at he;by_cases g1:inS (Qw cl s) c=true
   ·exact .inr (.inl g1)
   ·rw [ja g1] at he;by_cases g2:inS (s-Qw cl s) c=true
    ·exact .inr (.inr g2)
    ·rw [ja g2] at he;omega
theorem zgC:∀ (m:Nat) (s:Int),s.toNat<=m->zr9 n cl s->∀ c∈cl,inS s c=true->zr9 n cl c
 | 0,s,hm,h=>by have:=h.1.1;omega
 | m+1,s,hm,h=>fun c hcm hsc=>by
  have hle:=zcm hc h.1;have hcle:=(ZZ hc).2.2.2 c hcm;by_cases e:c=s
  ·exact e ▸ h
  ·cases h1:Z5 s with
   | true=>
    have:=(zaN (s:=s.toNat) kB kB).2.2.2;rw [show ((s.toNat:Nat):Int)=s by omega] at this;have hp:=(this h1).2;have hf:=h.2
    have hz:∀ l:List Int,c∈l->1<=wN (inS s) l:=by
     intro l
     induction l with
     | nil=>intro h;cases h
     | cons x l ih=>
      intro hx;unfold wN at*;simp only [jx,AG];rcases jp.1 hx with rfl | hx
      ·rw [jb hsc];omega
      ·have:=ih hx;omega
    have:=hz cl hcm;omega
   | false=>
    obtain ⟨f1,f2,f3⟩:=zcc hc h h1;obtain ⟨_,o1,o2,o3,o4,_,_⟩:=V5 hc h.1 h1;rcases f3 c hcm hsc with e' | g | g
    ·exact absurd e' e
    ·exact zgC m _ kB f1 c hcm g
    ·exact zgC m _ kB f2 c hcm g
theorem zv0 {c:Int}(h:c∈cl):zr9 n cl c:=by obtain ⟨h1,h6,hlen,hin⟩:=ZZ hc;have hle:=hin c h;exact zgC hc _ _ (js _) (ziV hc) c h ((zgd (n:=n) kB kB).1 c.toNat kB (by have:=(zqu hc h).2.1;omega))
theorem zj5 {s a:Int}(hs:s∈cl)(h1:Z5 s=false)(ha:1<=a/\a<s)(h:JZ cl s a=true):a=Qw cl s:=by
 have hle:=(ZZ hc).2.2.2 s hs;obtain ⟨_,_,f3⟩:=zcc hc (zv0 hc hs) h1;obtain ⟨_,o1,o2,o3,o4,o5,o6⟩:=V5 hc (zqu hc hs) h1;obtain ⟨q1,q2,q3⟩:=zbx kB kB o5;generalize Qw cl s=b at*;unfold JZ at h;simp only [jj] at h;obtain ⟨⟨⟨k1,k2⟩,k3⟩,k4⟩:=h;rw [zqN kB kB] at k1;obtain ⟨p1,p2,p3⟩:=zbx kB kB k1;have la:=zaN (s:=a.toNat) kB kB;have lb:=zaN (s:=b.toNat) kB kB;have ls:=zaN (s:=s.toNat) kB kB;rw [show ((a.toNat:Nat):Int)=a by omega] at la;rw [show ((b.toNat:Nat):Int)=b by omega] at lb;rw [show ((s.toNat:Nat):Int)=s by omega] at ls;unfold zey at k2 o6;rw [j0,la.2.2.1,ls.2.2.1] at k2;rw [j0,lb.2.2.1,ls.2.2.1] at o6;have eab:zou a.toNat=zou b.toNat:=kB;have esb:(s-b).toNat=s.toNat -b.toNat:=kB;have esa:(s-a).toNat=s.toNat -a.toNat:=kB
 have hab:Ke a.toNat b.toNat=true:=by
  cases hsa:Z5 a with
  | true=>
   have:=(la.2.2.2 hsa).1;rw [<-this,eab];exact lb.1
  | false=>
   unfold WK at k3;rw [hsa,OL,ju] at k3;obtain ⟨c,hcm,e⟩:=k3;have:c=a:=by simpa using e
   subst this;rcases f3 c hcm k1 with e | g | g
   ·omega
   ·exact g
   ·exfalso;have g:Ke c.toNat (s.toNat -b.toNat)=true:=(by rw [<-esb];exact g);have:=Xj (Jr (eab ▸ la.1:Ke (zou b.toNat) c.toNat=true) g) lb.1 (by rw [Nat.and_comm];exact q1);have:=la.2.1;omega
 have hle2:=zaH hab
 have hbb:Ke (s.toNat -b.toNat) (s.toNat -a.toNat)=true:=by
  by_cases e:(s.toNat -b.toNat)<64/\(s.toNat -a.toNat)<64
  ·have:∀ x y z:Nat,x<64->y<64->z<64->Ke x z=true->Ke y z=true->Ke x y=true->Ke (z-y) (z-x)=true:=by
    intro x y z _ _ hz hx hy hxy
    have e1:∀ u v:Nat,v<64->Ke u v=true->v-u=v^^^u:=by
     intro u v hv hu;have hu64:u<64:=AK (zaH hu) hv;have ht:((List.range 64).all fun v=>(List.range 64).all fun u=> !Ke u v||(v-u==v^^^u))=true:=kA;have h0:=ji.1 ht v (jm.2 hv);have h0:=ji.1 h0 u (jm.2 hu64);rw [hu] at h0;simpa using h0
    rw [e1 _ _ hz hy,e1 _ _ hz hx];unfold Ke at*;rw [j0] at*;apply Nat.eq_of_testBit_eq;intro i;have t1:=jr (fun q=>Nat.testBit q i) hx;have t2:=jr (fun q=>Nat.testBit q i) hy;have t3:=jr (fun q=>Nat.testBit q i) hxy;simp only [Nat.testBit_and,Nat.testBit_xor] at*
    revert t1 t2 t3
    cases x.testBit i<;>cases y.testBit i<;>cases z.testBit i<;>simp
   exact this a.toNat b.toNat s.toNat kB kB kB k1 o5 hab
  ·omega
 have hpos:1<=s.toNat -b.toNat:=kB
 have hba:Ke (s.toNat -a.toNat) (s.toNat -b.toNat)=true:=by
  cases hsa:Z5 (s-a) with
  | true=>
   have l1:=zaN (s:=s.toNat -a.toNat) kB kB;have l2:=zaN (s:=s.toNat -b.toNat) kB kB;rw [show ((s.toNat -a.toNat:Nat):Int)=s-a by omega] at l1;have l3:=(l1.2.2.2 hsa).2
   have ht:((List.range 64).all fun v=>(List.range 64).all fun u=> !Ke u v||u==0|| !(Wp (v:Int)==1)||(v==u))=true:=kA;have h0:=ji.1 ht (s.toNat -a.toNat) (jm.2 kB);have h0:=ji.1 h0 (s.toNat -b.toNat) (jm.2 kB);rw [hbb,show ((s.toNat -a.toNat:Nat):Int)=s-a by omega,l3,show ((s.toNat -b.toNat)==0)=false by simp;omega] at h0;have h0:s.toNat -a.toNat=s.toNat -b.toNat:=(by simpa using h0);rw [h0];exact Xu _
  | false=>
   unfold WK at k4;rw [hsa,OL,ju] at k4;obtain ⟨c,hcm,e⟩:=k4;have:c=s-a:=by simpa using e
   subst this;rcases f3 _ hcm (by unfold inS;rw [esa];exact p2) with e | g | g
   ·omega
   ·exfalso;unfold inS at g;rw [esa] at g;have:=Xj (Jr hbb g) (Xu (s.toNat -b.toNat)) q1;omega
   ·unfold inS at g;rw [esa,esb] at g;exact g
 have:=zoS hbb hba;omega
omit hc in
theorem zpj {s a:Int} (h0:0<=s):a∈zsF s.toNat->(1<=a/\a<s)/\JK a s=a:=fun h=>by
 unfold zsF at h;obtain ⟨h1,h2⟩:=jF.1 h;obtain ⟨k,hk,rfl⟩:=jt.1 h1;have:=Az.1 hk;rw [show ((s.toNat:Nat):Int)=s by omega] at h2;exact ⟨kB,eq_of_beq h2⟩
theorem zix {s:Int}(hs:s∈cl)(h1:Z5 s=false):zgm cl s=Qw cl s/\zge cl s=s-Qw cl s/\(zax cl s).isSome=true:=by have hle:=(ZZ hc).2.2.2 s hs;have hne:=Wj hc s hs;have hsome:=zeM (cl:=cl) hle;have hsm:(zax cl s).isSome=true:=(by rw [hsome];simpa using hne);obtain ⟨a,hpa⟩:=jW.1 hsm;have htab:=ji.1 zg9 s.toNat (jm.2 kB);rw [jj,jQ,show ((s.toNat:Nat):Int)=s by omega] at htab;have hf:=hpa;unfold zax at hf;rw [zat,htab.1] at hf;have hp:=Av hf;have hm:=List.mem_reverse.1 (OA hf);obtain ⟨hr,ha⟩:=zpj (s:=s) kB hm;have hl:zdS s a=s-a:=(by simpa using ji.1 htab.2 a hm);rw [zf9 ha hl] at hp;have:=zj5 hc hs h1 hr hp;unfold zgm zge;rw [hpa];exact ⟨this,by rw [<-this];exact hl,U⟩
end
def ImO (I:Qt)(r:Nat)(o:Obj):Prop:=I r=some o
variable{o:Obj}
theorem ImO.mono {r:Nat}(h:ImO I r o)(hI:HLe I I'):ImO I' r o:=hI _ _ h
def zDP (st cs:List Int)(b:Int):Value->Qt->Go.Kn.Loc->Prop:=fun v I' L=>L=[]/\∃ r m,v= .map (some r)/\ImO I' r (Z7 eiv eiv m)/\zf8 st cs b m
theorem zb8:∀ (ns out:List Int) (x:Int),x∈ns.foldl stS out↔x∈out\/(x∈ns/\x≠8589934592)
 | [],out,x=>by simp
 | n::ns,out,x=>by
  rw [Of,zb8 ns]
  have:x∈stS out n↔x∈out\/(x=n/\n≠8589934592):=by
   unfold stS;split
   ·rename_i h;rw [OD,ju] at h;constructor
    ·exact fun h=>.inl h
    ·rintro (h2 | ⟨rfl,h2⟩)
     ·exact h2
     ·rcases h with h | ⟨y,hy,e⟩
      ·exact absurd (eq_of_beq h) h2
      ·rw [<-eq_of_beq e];exact hy
   ·rename_i h;rw [OD,B8] at h;rw [jv,jA];constructor
    ·rintro (h2 | rfl)
     ·exact .inl h2
     ·exact .inr ⟨U,fun e=>h.1 (by rw [e];rfl)⟩
    ·rintro (h2 | ⟨rfl,_⟩)
     ·exact .inl h2
     ·exact .inr U
  rw [this,jp];constructor
  ·rintro ((h | ⟨rfl,h⟩) | ⟨h,h2⟩)
   ·exact .inl h
   ·exact .inr ⟨.inl U,h⟩
   ·exact .inr ⟨.inr h,h2⟩
  ·rintro (h | ⟨rfl | h,h2⟩)
   ·exact .inl (.inl h)
   ·exact .inl (.inr ⟨U,h2⟩)
   ·exact .inr ⟨h,h2⟩
theorem zcR:∀ (ns out:List Int),out.Nodup->(ns.foldl stS out).Nodup
 | [],_,h=>h
 | n::ns,out,h=>by
  rw [Of];refine zcR ns _ ?_;unfold stS;split
  ·exact h
  ·rename_i h2;rw [OD,B8,ju] at h2;refine Oz.2 ⟨h,by simp,fun a ha b hb e=>?_⟩;simp at hb;subst hb;subst e;exact h2.2 ⟨a,ha,by simp⟩
theorem zCj (rows:List (List Int))(l:Nat):(Za rows l).Nodup:=zcR _ _ kK
variable{rows:List (List Int)}{l:Nat}
theorem ziI :x∈Za rows l↔x=0\/((∃ r∈rows,r.getD l 0=x)/\x≠8589934592):=by unfold Za;rw [zb8];simp
def stM (rows:List (List Int))(l:Nat):List (Int×Int):=(Za rows l).map fun x=>(x,0)
theorem zmO (rows:List (List Int))(l:Nat):(stM rows l).map (·.1)=Za rows l:=by unfold stM;simp [BS]
theorem ztH (h:(stM rows l)[i]? =some p):p.1∈Za rows l/\p.2=0:=by unfold stM at h;rw [j5] at h;obtain ⟨x,hx,rfl⟩:=jY.1 h;exact ⟨jd hx,U⟩
def zhE (rows:List (List Int))(l:Nat)(seen:List Nat):List Int:=(zn9 (stM rows l) seen).map (·.1)
theorem zbS (h:(stM rows l)[i]? =some p):zhE rows l (seen++[i])=zhE rows l seen++[p.1]:=by unfold zhE;rw [zeg h,jZ];rfl
theorem zqL (h:(stM rows l)[i]? =some p)(hs:i∉seen):p.1∉zhE rows l seen:=fun hm=>by
 obtain ⟨q,hq,e⟩:=jt.1 hm;obtain ⟨j,hj,hqj⟩:=zld.1 hq;have hnd:=zCj rows l;rw [<-zmO] at hnd;have h1:((stM rows l).map (·.1))[i]? =some p.1:=(by rw [j5,h];rfl);have h2:((stM rows l).map (·.1))[j]? =some p.1:=(by rw [j5,hqj,<-e];rfl);obtain ⟨g1,e1⟩:=jc.1 h1;obtain ⟨g2,e2⟩:=jc.1 h2;have:=(List.getElem_inj hnd).1 (show ((stM rows l).map (·.1))[i]=((stM rows l).map (·.1))[j] by rw [e1,e2]);exact hs (this ▸ hj)
theorem zhu (h:x∈zhE rows l seen):x∈Za rows l:=by obtain ⟨q,hq,rfl⟩:=jt.1 h;obtain ⟨j,_,hqj⟩:=zld.1 hq;exact (ztH hqj).1
theorem zh8 (hnd:seen.Nodup)(hlt:∀ i∈seen,i<(stM rows l).length)(hall:∀ i (p:Int×Int),(stM rows l)[i]? =some p->i∈seen)(x:Int):x∈zhE rows l seen↔x∈Za rows l:=by have:=(zgn hnd hlt hall).map (fun p=>p.1);rw [zmO] at this;exact this.mem_iff
def zaU (rows:List (List Int))(l:Nat)(u:Int)(seen:List Nat)(x:Int):Option Int:=if x∈zhE rows l seen/\Um u x=0 then some 0 else none
variable{u:Int}
theorem zln :W2 [] (zaU rows l u []):=W2.nil.congr fun x=>by unfold zaU zhE zn9;simp
theorem zlB (h:W2 m (zaU rows l u seen))(hp:(stM rows l)[i]? =some p)(hg:Um u p.1=0):W2 (YM m p.1 0) (zaU rows l u (seen++[i])):=
 (h.set p.1 0).congr fun x=>by
  unfold zaU;rw [zbS hp];simp only [jv,jA];by_cases e:p.1=x
  ·subst e;rw [jb rfl,jb ⟨.inr U,hg⟩]
  ·rw [ja e];by_cases g:x∈zhE rows l seen/\Um u x=0
   ·rw [jb g,jb ⟨.inl g.1,g.2⟩]
   ·rw [ja g,ja];rintro ⟨h1 | h1,h2⟩
    ·exact g ⟨h1,h2⟩
    ·exact e h1.symm
theorem zqZ (h:W2 m (zaU rows l u seen))(hp:(stM rows l)[i]? =some p)(hg:Um u p.1≠0):W2 m (zaU rows l u (seen++[i])):=
 h.congr fun x=>by
  unfold zaU;rw [zbS hp];simp only [jv,jA];by_cases g:x∈zhE rows l seen/\Um u x=0
  ·rw [jb g,jb ⟨.inl g.1,g.2⟩]
  ·rw [ja g,ja];rintro ⟨h1 | h1,h2⟩
   ·exact g ⟨h1,h2⟩
   ·subst h1;exact hg h2
theorem zel (h:(u==x||u==8589934592)=true):Um u x=0:=by
 unfold Um;rw [ja];rw [OD,j0,j0] at h;simp only [jj,jQ];rintro ⟨h1,h2⟩;rcases h with h | h
 ·exact h2 h
 ·exact h1 h
theorem zkB (h:(u==x||u==8589934592)=false):Um u x=1048576/\Um u x≠0:=by
 have:Um u x=1048576:=by
  unfold Um;rw [jb];rw [On,Am,Am] at h;simp only [jj,jQ];exact ⟨h.2,h.1⟩
 exact ⟨this,kB⟩
variable{v:List Int}
theorem zqW {w:Nat}(hb:0<=b)(hv:rows[w]? =some v)(h:W2 m (zaU rows l (v.getD l 0) seen))(hnd:seen.Nodup)(hlt:∀ i∈seen,i<(stM rows l).length)(hall:∀ i (p:Int×Int),(stM rows l)[i]? =some p->i∈seen):
  zf8 (Za rows l) ((Za rows l).map (Um ((rows.getD w []).getD l 0))) b m:=by
 rw [Q1 hv]
 have hgv:∀ x,Um (v.getD l 0) x=0\/Um (v.getD l 0) x=1048576:=fun x=>by
  cases e:(v.getD l 0==x||v.getD l 0==8589934592) with
  | true=>exact .inl (zel e)
  | false=>exact .inr (zkB e).1
 refine ⟨by rw [jE],h.nd,fun i x c hx hcx=>?_,fun p hp=>?_,?_,fun c hcm=>?_⟩
 ·rw [j5,hx] at hcx;simp only [j9,jU] at hcx;subst hcx;rw [h.get];unfold zaU;have hin:=(zh8 hnd hlt hall x).2 (jd hx);rcases hgv x with e | e
  ·rw [jb ⟨hin,e⟩,e,jb kB]
  ·rw [ja (fun g=>kB),e,ja kB]
 ·have:=h.mem hp;unfold zaU at this;split at this
  ·rename_i g;exact zhu g.1
  ·cases this
 ·by_cases e:v.getD l 0=8589934592
  ·refine ⟨Um (v.getD l 0) 0,jt.2 ⟨0,ziI.2 (.inl U),U⟩,?_⟩;rw [zel kP];omega
  ·refine ⟨Um (v.getD l 0) (v.getD l 0),jt.2 ⟨v.getD l 0,ziI.2 (.inr ⟨⟨v,jd hv,U⟩,e⟩),U⟩,?_⟩;rw [zel kK];omega
 ·obtain ⟨x,_,rfl⟩:=jt.1 hcm;rcases hgv x with e | e<;>rw [e]<;>omega
def zhz (st ca cb:List Int)(j:Nat)(x:Int):Int:=(if 1<=j then YX st ca x else 0)+(if 2<=j then YX st cb x else 0)
def gF (st ca cb:List Int)(j:Nat)(x:Int):Option Int:=if x∈st/\1<=j then some (zhz st ca cb j x) else none
def hF (rows:List (List Int))(l:Nat)(ca cb:List Int)(j:Nat)(seen:List Nat)(x:Int):Option Int:=if x∈zhE rows l seen then some (zhz (Za rows l) ca cb (j+1) x) else gF (Za rows l) ca cb j x
variable{ca cb:List Int}
theorem zF6 :W2 [] (gF st ca cb 0):=W2.nil.congr fun x=>by unfold gF;rw [ja (fun h=>kB)]
variable{j:Nat}
theorem zGj (h:W2 m (gF (Za rows l) ca cb j)):W2 m (hF rows l ca cb j []):=h.congr fun x=>by unfold hF zhE zn9;simp
theorem zCo (h:W2 m (hF rows l ca cb j seen))(hnd:seen.Nodup)(hlt:∀ i∈seen,i<(stM rows l).length)(hall:∀ i (p:Int×Int),(stM rows l)[i]? =some p->i∈seen):W2 m (gF (Za rows l) ca cb (j+1)):=
 h.congr fun x=>by
  unfold hF;by_cases g:x∈zhE rows l seen
  ·rw [jb g];unfold gF;rw [jb ⟨zhu g,kB⟩]
  ·have g':x∉Za rows l:=fun e=>g ((zh8 hnd hlt hall x).2 e);rw [ja g];unfold gF;rw [ja (fun e=>g' e.1),ja (fun e=>g' e.1)]
theorem zEC (h:W2 m (hF rows l ca cb j seen))(hp:(stM rows l)[i]? =some p)(hs:i∉seen):(ZP m p.1).getD 0=zhz (Za rows l) ca cb j p.1:=by
 rw [h.get];unfold hF;rw [ja (zqL hp hs)];unfold gF;by_cases e:1<=j
 ·rw [jb ⟨(ztH hp).1,e⟩];rfl
 ·rw [ja (fun g=>e g.2)];unfold zhz;rw [ja e,ja kB];rfl
theorem zh1 (hj:j<2):zhz st ca cb j x+YX st (if j=0 then ca else cb) x=zhz st ca cb (j+1) x:=by unfold zhz;rcases (show j=0\/j=1 by omega) with e | e<;>subst e<;>simp
theorem zrJ (h:W2 m (hF rows l ca cb j seen))(hp:(stM rows l)[i]? =some p):W2 (YM m p.1 (zhz (Za rows l) ca cb (j+1) p.1)) (hF rows l ca cb j (seen++[i])):=
 (h.set p.1 _).congr fun x=>by
  unfold hF;rw [zbS hp];simp only [jv,jA];by_cases e:p.1=x
  ·subst e;rw [jb rfl,jb (.inr U)]
  ·rw [ja e];by_cases g:x∈zhE rows l seen
   ·rw [jb g,jb (.inl g)]
   ·rw [ja g,ja];rintro (h1 | h1)
    ·exact g h1
    ·exact e h1.symm
variable{ba bb:Int}{ma mb:List (Int×Int)}
theorem zwj (hne:st≠[])(hA:zf8 st ca ba ma)(hB:zf8 st cb bb mb)(h1:ba<=1000)(h2:bb<=1000)(hb:ba+bb+8<=b)(h:W2 m (gF st ca cb 2)):zf8 st (st.map (ztn st ca cb)) b m:=by
 have ha:∀ x,0<=YX st ca x/\YX st ca x<=ba+4:=fun x=>by
  have:=Wk hA h1 (.refl _) x;exact ⟨this.2.1,this.2.2.1⟩
 have hbb:∀ x,0<=YX st cb x/\YX st cb x<=bb+4:=fun x=>by
  have:=Wk hB h2 (.refl _) x;exact ⟨this.2.1,this.2.2.1⟩
 have hlt:∀ x,0<=ztn st ca cb x/\ztn st ca cb x<1048576/\ztn st ca cb x<=b:=fun x=>by
  have:=ha x;have:=hbb x;unfold ztn;omega
 refine ⟨by rw [jE],h.nd,fun i x c hx hcx=>?_,fun p hp=>?_,?_,fun c hcm=>?_⟩
 ·rw [j5,hx] at hcx;simp only [j9,jU] at hcx;subst hcx;rw [h.get,jb (hlt x).2.1];unfold gF;rw [jb ⟨jd hx,kB⟩];unfold zhz ztn;simp
 ·have:=h.mem hp;unfold gF at this;split at this
  ·rename_i g;exact g.1
  ·cases this
 ·obtain ⟨x,hx⟩:=List.exists_mem_of_ne_nil st hne;exact ⟨_,jt.2 ⟨x,hx,U⟩,(hlt x).2.1⟩
 ·obtain ⟨x,_,rfl⟩:=jt.1 hcm;have:=hlt x;exact ⟨this.1,fun _=>this.2.2,kB⟩
theorem zkq (h:zf8 st cs b m)(hp:vs.Perm m):YR (vs.map (·.2))=YR cs:=by obtain ⟨c,hc,hlt⟩:=h.pos;have hne:cs≠[]:=BO hc;obtain ⟨h1,h2⟩:=zet hne;have h3:=h2 c hc;obtain ⟨i,hi⟩:=jC h1;have hil:=(jc.1 hi).1;have hx:st[i]? =some (st[i]'(by rw [<-h.len];exact hil)):=je _;have hm:=h.ent.2 ⟨i,hx,hi,kB⟩;refine ziX (jt.2 ⟨_,hp.mem_iff.2 hm,U⟩) (fun x hx=>?_);obtain ⟨p,hpm,rfl⟩:=jt.1 hx;obtain ⟨j,_,hj,_⟩:=(h.ent (x:=p.1) (c:=p.2)).1 (hp.mem_iff.1 hpm);exact h2 _ (jd hj)
section
variable {C:Cx} {E:Env} {I:Qt} {loc:Go.Kn.Loc} {S:GS} {dst:Option Tmp} {ty:TypeId} {pos:String} {af:Array Edge} {gd:Option (Nat×Bool)} {x y:Operand} {a:Int}
theorem zcN {m:List (Int×Int)}{t k e r:Nat}(hT:MpT C.P t k e (.int .i64 0))(hK:VR C.P k eiv)(hx:Qv S E x=some (.map (some r)))(hy:Qv S E y=some (eiv a))(hm:ZS S=true->Mem I loc r (Z7 eiv eiv m)):
  QV C S E I loc ⟨dst,.lookup t x y false,ty,pos,af,gd⟩ (.int .i64 ((ZP m a).getD 0)):=by
 have:=U5 (C:=C) (S:=S) (dst:=dst) (ty:=ty) (pos:=pos) (af:=af) (gd:=gd) hT hK hx hy hm
 cases h:ZP m a with
 | none=>rw [h] at this;exact this
 | some b=>rw [h] at this;exact this
end
variable{e:TypeId}{fz:Nat×Nat}
theorem zre {b ra rb r:Nat}{l:Go.Kn.Loc}(hr:(if j=0 then ra else rb)=r)(h:j<2):QB I ((b,.cells (([[Value.map (some ra)],[Value.map (some rb)]]:List (List Value)).flatten).toArray e fz)::l) b (((j:Nat):Int).toNat*1) (.map (some r)):=by subst hr;rcases (show j=0\/j=1 by omega) with e | e<;>subst e<;>exact .here U
theorem zf8.small (h:zf8 st cs b m):m.length<=st.length:=by
 have:=h.nd.length_le_of_subset (l₂:=st) (fun x hx=>by
  obtain ⟨p,hp,rfl⟩:=jt.1 hx
  exact h.old p hp)
 simpa using this
theorem zzw (hA:zf8 st ca ba ma)(hB:zf8 st cb bb mb)(h1:ba<=1000)(h2:bb<=1000)(j:Nat)(x:Int):0<=zhz st ca cb j x/\zhz st ca cb j x<=3000:=by have a:=Wk hA h1 (.refl _) x;have b:=Wk hB h2 (.refl _) x;unfold zhz;split<;>split<;>omega
structure PrE (I:Qt)(fid brow bloc bcst bcla bbel rm:Nat)(av bv:Option Addr)(n c n2 c2:Nat)(xs:List Int)(rows:List (List Int))(l:Nat):Prop where
 row:QB I [] brow 0 (.slice bv n2 c2)
 loc:QB I [] bloc 0 (.int .i64 l)
 cst:QB I [] bcst 0 (.map (some rm))
 cla:QB I [] bcla 0 (.slice av n c)
 bel:QB I [] bbel 0 (.func (.func fid) #[] #[QZ brow,QZ bloc,QZ bcst,QZ bcla,QZ bbel])
 mp:ImO I rm (Z7 eiv eiv (stM rows l))
 deb:KR I
 hS:Sl I 1 Q3 av n c xs
 hV:SlN I bv n2 c2 rows
theorem PrE.mono {fid brow bloc bcst bcla bbel rm:Nat}{av bv:Option Addr}{c n2 c2:Nat}(h:PrE I fid brow bloc bcst bcla bbel rm av bv n c n2 c2 xs rows l)(hI:HLe I I'):PrE I' fid brow bloc bcst bcla bbel rm av bv n c n2 c2 xs rows l:=
 ⟨h.row.mono hI,h.loc.mono hI,h.cst.mono hI,h.cla.mono hI,h.bel.mono hI,h.mp.mono hI,h.deb.mono hI,h.hS.mono hI,h.hV.mono hI⟩
theorem zt2:((List.range 64).all fun s=>IntKind.u64.wrap (s:Int)==(s:Int))=true:=kA
theorem zBK (hs:0<=s/\s<=63):IntKind.u64.wrap s=s:=by have h:=ji.1 zt2 s.toNat (jm.2 kB);rw [show ((s.toNat:Nat):Int)=s by omega] at h;exact eq_of_beq h
variable{k:Nat}{r:List Int}
theorem zu2 (h:rows[k]? =some r)(hne:r.getD l 0≠8589934592):YM (stM (rows.take k) l) (r.getD l 0) 0=stM (rows.take (k+1)) l:=by
 have hst:=zmx (l:=l) h;unfold stM;rw [hst]
 cases e:(Za (rows.take k) l).any (fun x=>x==r.getD l 0) with
 | true=>
  rw [zts (by rw [e,BY])];refine Xr _ _ _ ?_;obtain ⟨x,hx,hxe⟩:=ju.1 e;have hxe:=eq_of_beq hxe;subst hxe;have hnd:=zCj (rows.take k) l;have:=zc6 (m:=(Za (rows.take k) l).map fun x=>(x,(0:Int))) (by rw [BC];simpa [BS] using hnd) (jt.2 ⟨_,hx,U⟩);exact this
 | false=>
  rw [zEa (by rw [e,OL];exact Am.2 hne),jZ];refine za3 _ _ _ 0 ?_
  have hn:ZP ((Za (rows.take k) l).map fun x=>(x,(0:Int))) (r.getD l 0)=none:=XR.2 (by
   rw [BC];intro hm;obtain ⟨x,hx,hxe⟩:=jt.1 hm;have:=jJ.1 e x hx
   exact this (by simpa using hxe))
  rw [<-KP _ _ 0] at hn;exact AM.1 hn
theorem zqf (h:rows[k]? =some r)(he:r.getD l 0=8589934592):stM (rows.take k) l=stM (rows.take (k+1)) l:=by have hst:=zmx (l:=l) h;unfold stM;rw [hst,zts (by rw [he];rfl)]
end
end Go.Proofs.YtmbjmjbjdgjonaaGreatDoor
