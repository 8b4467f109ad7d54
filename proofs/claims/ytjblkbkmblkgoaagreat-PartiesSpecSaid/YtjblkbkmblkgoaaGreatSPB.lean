/- partiesSpec_holds, part B of the proof: what its theorems say holds without further conditions. -/
import Derived.Laws.CopyRow
import Derived.Lib.AppendZerosOnto
import Derived.Lib.Overlaps
import Derived.Laws.MakeOwn
import Derived.Lib.Hide
import Derived.RecoverIn
import Derived.Sort.Row
import Derived.Sort.Grow
import Derived.Laws.BytesString
import Derived.Lib.ConvBytes
import Derived.Laws.Build
import Derived.Test.YtjblkbkmblkgoaaGreatProg
import Derived.KernelRfl
import Derived.Test.YtjblkbkmblkgoaaGreatSPA
namespace Go.Kn
section
open Go
section
variable {C:Cx} {Q:Exit→Act→World→Prop} {E E':Env} {I I' I0:Qu} {loc loc' loc0 L R:Loc} {ops:Array Oper} {rest:List Oper} {S:GS}
variable {dst:Option Tmp} {d:Nat} {ty:TypeId} {pos:String} {af:Array Edge} {gd:Option (Nat×Bool)} {x y z:Operand}
theorem zoG {t n c e size:Nat}{av:Option Addr}(hx:QH S E x=some (.slice av n c))(hT:SlT C.P t e size):QZ C S E I loc ⟨dst,.call ⟨.builtin .cap, #[x], #[t]⟩,ty,pos,af,gd⟩ (.int .i64 c):=
 .of kE fun a w ha hg hc _=>by
  simp only [execOp,resolve,List.map_toArray,List.map_cons,List.map_nil,Qj ha hg hc hx,Sem.run_bind,Sem.run_pure,Result.andThen,invoke,builtin,Builtin.cap_,List.getElem?_toArray,List.getElem?_cons_zero,run_underlying hT.1,goInt]
theorem St.setRow {g:World}{H:Qu}{w:World}{b:Nat}{cur:Array Value}{t:TypeId}(h:St g I H loc w)(cs:Array Value)(hu:Upd loc b (.cells cur t (0,0)) (.cells cs t (0,0)) loc'):St g I H loc' (w.setRow b cs):=by
 have hb:=h.own _ _ hu.mem;exact h.turn hu rfl rfl rfl (by simp [World.setRow]) (setRow_heap w b cur cs t (0,0) hb) (fun c hc=>setRow_other w b c cs hc)
theorem Ki {t e size b o dl dc sl sc:Nat}{sv:Option Addr}{pre old post vs:List Value}{cur cur':Array Value}{te:TypeId}(hcur:cur=(pre++old++post).toArray)(hcur':cur'=(pre++vs++post).toArray)(hx:QH [] E x=some (.slice (some ⟨b,o,none⟩) dl dc))(hy:QH [] E y=some (.slice sv sl sc))(hT:SlT C.P t e size)
  (hl:vs.length=Nat.min sl dl*size)(ho:old.length=vs.length)(hpre:pre.length=o)(hb:vs≠[]→sv=some ⟨Ab sv,Ao sv,none⟩)(hs:Cells I loc (Ab sv) (Ao sv) vs)(h1:Y4 vs=true)(hG:gd=none)(hN:Nat.blt d C.N=true)
  (hu:Upd loc b (.cells cur te (0,0)) (.cells cur' te (0,0)) loc')(h:XO C Q ops rest [] ((d,.int .i64 (Nat.min sl dl:Nat))::E) I loc'):
  XO C Q ops (⟨some d,.call ⟨.builtin .copy, #[x,y], #[t,t]⟩,ty,pos,af,gd⟩::rest) [] E I loc:=
 Ym hG kE fun a w ha hw=>by
  subst hcur;subst hcur';obtain ⟨ht,i,hi,hsz⟩:=hT;have hblk:=hw.own _ _ hu.mem
  have hcells:(Builtin.firstCells size (Nat.min sl dl) (.slice sv sl sc)).run C.P w= .ok vs.toArray w:=by
   by_cases h0:vs=[]
   ·
    have hz:Nat.min sl dl*size=0:=(by rw [←hl,h0];rfl);subst h0
    cases sv with
    | none=>rfl
    | some q=>simp only [Builtin.firstCells,hz];rfl
   ·
    rw [hb h0];simp only [Builtin.firstCells,←hl];exact run_loadCells_list w _ vs fun j v hj=>by rw [Z8];exact (hs j v hj).get hw
  have hst:=run_storeCells_at C.P b o te vs 0 (pre++old++post).toArray w hblk (by simp only [List.size_toArray,List.length_append];omega) (JE h1)
  have e1:((pre++old++post).toArray.toList.take (o+0)++vs++(pre++old++post).toArray.toList.drop (o+0+vs.length))=pre++vs++post:=by
   rw [Nat.add_zero,List.append_assoc pre old post];rw [List.take_left' hpre,←ho,←hpre,←List.length_append,←List.append_assoc,List.drop_left' rfl]
  rw [e1] at hst
  have hrun:(Builtin.copy_ #[t,t] ty #[.slice (some ⟨b,o,none⟩) dl dc,.slice sv sl sc]).run C.P w= .ok (.int .i64 (Nat.min sl dl:Nat)) (w.setRow b (pre++vs++post).toArray):=by
   simp only [Builtin.copy_,List.getElem?_toArray,List.getElem?_cons_zero,List.getElem?_cons_succ,Sem.run_bind,run_underlying ht,Result.andThen,Builtin.lenOf,Sem.run_pure,run_sizeOf hi,hsz,hcells,hst,goInt]
  simp only [execOp,resolve,List.map_toArray,List.map_cons,List.map_nil,Qj (S:=[]) ha trivial rfl hx,Qj (S:=[]) ha trivial rfl hy,Sem.run_bind,Sem.run_pure,Result.andThen,invoke,builtin,hrun,Oper.uponIn_value];exact h _ _ (ha.put hN _) trivial (hw.setRow _ hu)
theorem zay {t tn e size bytes b off i c:Nat}{k:Int}{ys:List Value}(hx:QH [] E x=some (.slice (some ⟨b,off,none⟩) i c))(hy:QH [] E y=some (.int .i64 k))(hT:ElT C.P t e size bytes)(htn:C.P.underlying tn=some (.int .i64))
  (hk:0<k)(hsz:0<size)(hc:(c:Int)<i+k)(hl:ys.length=i*size)(hs:Cells I loc b off ys)(hB:(i+k.toNat)*(bytes+1)≤70368744177664)(hG:gd=none)(hN:Nat.blt d C.N=true)
  (h:∀ b' c' zs,i+k.toNat≤c'→c'≤maxLen→(ys++zs).length=c'*size→XO C Q ops rest [] ((d,.slice (some ⟨b',0,none⟩) (i+k.toNat) c')::E) I ((b',.cells (ys++zs).toArray e (0,0))::loc)):
  XO C Q ops (⟨some d,.call ⟨.builtin .append, #[x,y], #[t,tn]⟩,ty,pos,af,gd⟩::rest) [] E I loc:=
 Ym hG kE fun a w ha hw=>by
  obtain ⟨ht,inf,zz,hi,hz,hss,hb,hzs⟩:=hT;obtain ⟨q,rfl⟩:∃ q:Nat,k=q:=⟨k.toNat,kB⟩;rw [Int.toNat_natCast] at hB h
  have hnm:i+q≤70368744177664:=by
   have:(i+q)*1≤(i+q)*(bytes+1):=Nat.mul_le_mul_left _ kB;omega
  have hbytes:(i+q)*bytes≤140737488355328:=by
   have:(i+q)*bytes≤(i+q)*(bytes+1):=Nat.mul_le_mul_left _ kB;omega
  have hqb:q*bytes≤(i+q)*bytes:=Nat.mul_le_mul_right _ kB
  have hold:(Builtin.firstCells inf.size i (.slice (some ⟨b,off,none⟩) i c)).run C.P w.drew= .ok ys.toArray w.drew:=by
   rw [hss];simp only [Builtin.firstCells,←hl];exact run_loadCells_list _ _ ys fun j v hj=>by rw [Z8];exact (hs j v hj).get hw.drew'
  have hrun:=Lib.run_append_grow_zeros (P:=C.P) w t tn ty e inf zz .i64 .i64 ht htn hi hz (some ⟨b,off,none⟩) i c ys hold q kB kB kB kB (by rw [hb];omega) (by rw [hb];exact growslice_fits kB hbytes);have hge:=grownCap_ge w (i+q) c e;have hcm:grownCap w (i+q) c e≤maxLen:=grownCap_le_maxLen w (i+q) c e (by simp only [maxLen];omega);simp only [execOp,resolve,List.map_toArray,List.map_cons,List.map_nil,Qj (S:=[]) ha trivial rfl hx,Qj (S:=[]) ha trivial rfl hy,Sem.run_bind,Sem.run_pure,Result.andThen,invoke,builtin,hrun,Oper.uponIn_value]
  have e1:ys.toArray++Builtin.zeroCells zz.cells q++Builtin.zeroCells zz.cells (grownCap w (i+q) c e-(i+q))=(ys++((Builtin.zeroCells zz.cells q).toList++(Builtin.zeroCells zz.cells (grownCap w (i+q) c e-(i+q))).toList)).toArray:=by
   apply Array.ext';simp
  rw [e1];refine h _ _ _ hge hcm ?_ _ _ (ha.put hN _) trivial (hw.drew'.alloc _);simp only [List.length_append,Array.length_toList,VM,hzs,hl];rw [←Nat.add_mul,←Nat.add_mul];congr 1;omega
theorem zjk {t t' n c e size:Nat}{av:Option Addr}(hx:QH S E x=some (.slice av n c))(hy:QH S E y=some (.slice none 0 0))(hT:SlT C.P t e size):QZ C S E I loc ⟨dst,.binOp .eql t x y t',ty,pos,af,gd⟩ (.bool av.isNone):=
 .of kE fun a w ha hg hc _=>by
  have e1:∀ op x y t,(eqGuard op t x y (.slice av n c) (.slice none 0 0)).run C.P w= .ok () w:=by intros;unfold eqGuard;rename_i op _ _ _;cases op<;>rfl
  have e2:(Op.equal t (.slice av n c) (.slice none 0 0)).run C.P w= .ok av.isNone w:=by
   show (Op.equalIn (9999+1) t (.slice av n c) (.slice none 0 0)).run C.P w=_;unfold Op.equalIn;rw [Sem.run_bind,run_underlying hT.1];cases av<;>rfl
  simp only [execOp,Qj ha hg hc hx,Qj ha hg hc hy,Sem.run_bind,e1,Result.andThen,binOp,e2,Sem.run_pure]
theorem Zy {t e size b off n c:Nat}{k:IntKind}{i:Int}(hx:QH S E x=some (.slice (some ⟨b,off,none⟩) n c))(hy:QH S E y=some (.int k i))(hT:SlT C.P t e size)(hb:0≤i∧i≤(n:Int)∧i<(c:Int)):
  QZ C S E I loc ⟨dst,.slice t x (some y) none none,ty,pos,af,gd⟩ (.slice (some ⟨b,off+i.toNat*size,none⟩) (n-i.toNat) (c-i.toNat)):=by
 have h:=Z9 (C:=C) (I:=I) (loc:=loc) (dst:=dst) (ty:=ty) (pos:=pos) (af:=af) (gd:=gd) hx hy hT (fun _=>⟨hb.1,hb.2.1⟩);rwa [X2 kB] at h
theorem Cells.part {b off:Nat}{pre vs post:List Value}(h:Cells I loc b 0 (pre++vs++post))(ho:off=pre.length):Cells I loc b off vs:=fun j u hu=>by
 subst ho;have hj:j<vs.length:=(List.getElem?_eq_some_iff.1 hu).1;have:=h (pre.length+j) u (by rw [List.append_assoc,List.getElem?_append_right kB,Nat.add_sub_cancel_left,List.getElem?_append_left hj];exact hu);rwa [Nat.zero_add] at this
theorem zhO {t t':TypeId}{k k':IntKind}{a b:Int}{q:Nat}(hx:QH S E x=some (.int k a))(hy:QH S E y=some (.int k' b))(h0:0≤b)(hq:min b.toNat k.bits=q):QZ C S E I loc ⟨dst,.binOp .shr t x y t',ty,pos,af,gd⟩ (.int k (a.fdiv (2^q))):=
 .of kE fun ac w ha hg hc _=>by
  simp only [execOp,Qj ha hg hc hx,Qj ha hg hc hy,Sem.run_bind,Yj,Result.andThen,binOp,Op.shift,if_neg (show ¬b<0 by omega),hq,Sem.run_pure]
theorem Xm {f:FuncId}{fn:Func}{t tr e size la ca lb cb:Nat}{a b:Nat}{oa ob:Nat}{ca' cb':Array Value}{ta tb:TypeId}{tl:Array TypeId}(he:QH [] E z=some (.func (.func f) #[] #[]))(hx:QH [] E x=some (.slice (some ⟨a,oa,none⟩) la ca))(hy:QH [] E y=some (.slice (some ⟨b,ob,none⟩) lb cb))
  (hf:C.P.funcs[f]? =some fn)(hname:(fn.name== "runtime.NumGoroutine")=false)(hbody:fn.body.isNone=true)(hn:Extern.findNext fn=none)(hfi:Extern.find fn=some (Extern.SlicesOverlaps.overlaps #[t,t] #[tr]))(hT:SlT C.P t e size)
  (hne:a≠b)(ha':(a,Obj.cells ca' ta (0,0))∈loc)(hb':(b,Obj.cells cb' tb (0,0))∈loc)(hcb:cb'.size≠0)(hG:gd=none)(hN:Nat.blt d C.N=true)
  (h:XO C Q ops rest [] ((d,.bool false)::E) I loc):XO C Q ops (⟨some d,.call ⟨.value z, #[x,y],tl⟩,ty,pos,af,gd⟩::rest) [] E I loc:=
 Ym hG kE fun ac w ha hw=>by
  obtain ⟨ht,i,hi,hsz⟩:=hT;have h1:=hw.own _ _ ha';have h2:=hw.own _ _ hb';have hov:=Lib.run_overlaps_apart (P:=C.P) w t tr e ht size (fun w=>by rw [run_sizeOf hi,hsz]) ⟨a,oa,none⟩ ⟨b,ob,none⟩ la ca lb cb hne ta tb ca'.size cb'.size (by simp [World.shape?,h1]) (by simp [World.shape?,h2]) hcb (by simp [World.frozen?,h1]) (by simp [World.frozen?,h1])
  have hrun:(execOp ac.eval ⟨some d,.call ⟨.value z, #[x,y],tl⟩,ty,pos,af,gd⟩).run C.P w= .ok (.value (.bool false)) w:=by
   have e1:=Qj (S:=[]) ha trivial rfl he;have e2:=Qj (S:=[]) ha trivial rfl hx;have e3:=Qj (S:=[]) ha trivial rfl hy;simp only [execOp,resolve,List.map_toArray,List.map_cons,List.map_nil,e1,e2,e3,Deferred.ofValue,Sem.run_bind,Sem.run_pure,Result.andThen,invoke];rw [show (#[Value.slice (some ⟨a,oa,none⟩) la ca,Value.slice (some ⟨b,ob,none⟩) lb cb]:Array Value)= #[]++ #[Value.slice (some ⟨a,oa,none⟩) la ca,Value.slice (some ⟨b,ob,none⟩) lb cb] from rfl];simp only [Array.empty_append,Array.append_empty,run_callFunc_extern hf hname hbody hn hfi,hov,Result.andThen]
  rw [hrun,Oper.uponIn_value];exact h _ _ (ha.put hN _) trivial hw
theorem zbD {L R:Loc}{p:Nat×Obj}:YZ (L++p::R) (L++[p]) R:=by
 induction L with
 | nil=>exact .cons .here .nil
 | cons q l ih=>exact .cons .here ih
theorem zhf {L R:Loc}{p:Nat×Obj}:YZ (p::(L++R)) (L++[p]) R:=by
 induction L with
 | nil=>exact .cons .here .nil
 | cons q l ih=>exact .cons (.there .here) ih
theorem zbN {i:Nat}{oi:Oper}{fuel:Nat}{listed:Array Bool}(hi:ops[i]? =some oi){a:Act}{w:World}(ha:Uh C.N C.D E a)(hg:KM S a)(hw:St C.g I C.H loc w)
  (h:XO C (fun e a w=>match e with | .normal=>St C.g I0 C.H loc0 w∧Vj C.r C.P .any ops Q (fun w=>St C.g I0 C.H loc0 w) fuel (listed.setIfInBounds i true) a w | e=>Q e a w) ops [oi] S E I loc):
  wpOpIn (FR C.r) 0 C.P ops Q i (fun a' w'=>St C.g I0 C.H loc0 w'∧Vj C.r C.P .any ops Q (fun w=>St C.g I0 C.H loc0 w) fuel (listed.setIfInBounds i true) a' w') a w:=by
 have:=h a w ha hg hw;simp only [wpListIn] at this;unfold wpOpIn;simp only [hi];split
 ·
  rename_i hwt;simp only [hwt,if_true] at this;unfold Oper.wpIn at*;refine ⟨fun _ _=>trivial,?_⟩;have h2:=this.2;generalize (oi.semAt (FR C.r).round a.eval).run C.P w=q at*
  cases q with
  | ok n w'=>cases n<;>exact h2
  | halt x w'=>cases x<;>exact h2
 ·
  rename_i hwt;simp only [hwt] at this;exact this
theorem VD (i j k:Nat){oi oj ok:Oper}{fuel:Nat}{listed:Array Bool}(hi:ops[i]? =some oi)(hj:ops[j]? =some oj)(hk:ops[k]? =some ok)(hr:Region.ready .any ops listed=[i,j,k])
  (h1:XO C (fun e a w=>match e with | .normal=>St C.g I0 C.H loc0 w∧Vj C.r C.P .any ops Q (fun w=>St C.g I0 C.H loc0 w) fuel (listed.setIfInBounds i true) a w | e=>Q e a w) ops [oi] S E I loc)
  (h2:XO C (fun e a w=>match e with | .normal=>St C.g I0 C.H loc0 w∧Vj C.r C.P .any ops Q (fun w=>St C.g I0 C.H loc0 w) fuel (listed.setIfInBounds j true) a w | e=>Q e a w) ops [oj] S E I loc)
  (h3:XO C (fun e a w=>match e with | .normal=>St C.g I0 C.H loc0 w∧Vj C.r C.P .any ops Q (fun w=>St C.g I0 C.H loc0 w) fuel (listed.setIfInBounds k true) a w | e=>Q e a w) ops [ok] S E I loc):XD C Q ops I0 loc0 (fuel+1) listed S E I loc:=by
 intro a w ha hg hw;refine ⟨(fun h0=>by rw [hr] at h0;cases h0),fun q hq=>?_⟩;rw [hr] at hq;rcases List.mem_cons.1 hq with e | hq
 ·
  subst e;exact zbN hi ha hg hw h1
 ·
  rcases List.mem_cons.1 hq with e | hq
  ·
   subst e;exact zbN hj ha hg hw h2
  ·
   obtain rfl:=List.mem_singleton.1 hq;exact zbN hk ha hg hw h3
theorem zqA (i:Nat){d:Nat}{v:Value}{fuel j dj:Nat}{want:Bool}{oj:Oper}{listed:Array Bool}{op:Op}(hi:ops[i]? =some ⟨some d,op,ty,pos,af,some (j,want)⟩)(hj:ops[j]? =some oj)(hd:oj.dst=some dj)(hlk:VT E dj=some (.bool want))
  (hv:QZ C [] E I0 loc0 ⟨some d,op,ty,pos,af,none⟩ v)(hN:Nat.blt d C.N=true)
  (hs:Region.noSelect ops=true)(hfr:Region.free .any ops listed i=true)(hr:(Region.ready .any ops listed).contains i=true)(hQ:Yo Q)(hI:HLe I0 I)(hl:Kk loc0 loc)
  (h:XD C Q ops I0 loc0 fuel (listed.setIfInBounds i true) [] ((d,v)::E) I loc):XD C Q ops I0 loc0 (fuel+1) listed [] E I loc:=by
 intro a w ha hg hw;have hp:=ha.put hN v;refine Vl (v:=v) hi (fun c e=>hv.1 c e) (Region.noSelect_spec hs) (fun c a w=>hQ c a d _ w) fuel listed a w (Region.free_spec hi hfr) (by simpa using hr) ?_ ((hw.mono hI).subL hl) (h _ _ hp trivial hw);have hG:Zw ops [(true,[])] E ⟨some d,op,ty,pos,af,some (j,want)⟩:=.some rfl hj hd (by simpa [US,zeW] using hlk) kJ;have hwt:=hG.wanted ha (show KM [(true,[])] a from ⟨(fun _ _ e=>by cases e),trivial⟩);exact .inl ⟨by rw [hwt];rfl,fun w' hw'=>hv.2 a w' ha trivial rfl hw'⟩
theorem zw (i dj:Nat){d:Nat}{v:Value}{fuel j:Nat}{want:Bool}{oj:Oper}{listed:Array Bool}{op:Op}(hi:ops[i]? =some ⟨some d,op,ty,pos,af,some (j,want)⟩)(hv:QZ C [] E I0 loc0 ⟨some d,op,ty,pos,af,none⟩ v)(hI:HLe I0 I)(h:XD C Q ops I0 loc0 fuel (listed.setIfInBounds i true) [] ((d,v)::E) I loc)(hj:ops[j]? =some oj:=by exact rfl)(hd:oj.dst=some dj:=by exact rfl)(hlk:VT E dj=some (.bool want):=by exact rfl)(hN:Nat.blt d C.N=true:=by exact rfl)
  (hs:Region.noSelect ops=true:=by kernel_rfl)(hfr:Region.free .any ops listed i=true:=by kernel_rfl)(hr:(Region.ready .any ops listed).contains i=true:=by kernel_rfl)(hQ:Yo Q:=by first | exact JW | (repeat (first | exact UX | with_reducible refine UV ?_ | with_reducible refine Kv ?_)))(hl:Kk loc0 loc:=by repeat (first | exact .refl | exact Qq | refine .keep ?_ | refine .drop ?_ | refine QR ?_)):XD C Q ops I0 loc0 (fuel+1) listed [] E I loc:=zqA i hi hj hd hlk hv hN hs hfr hr hQ hI hl h
end
section
variable {C:Cx} {Q:Exit→Act→World→Prop} {E E':Env} {I I':Qu} {loc loc' L R:Loc} {ops:Array Oper} {rest:List Oper} {S:GS}
variable {dst:Option Tmp} {d:Nat} {ty:TypeId} {pos:String} {af:Array Edge} {gd:Option (Nat×Bool)} {x y z:Operand} {a b:Int}
theorem znw {t t':TypeId}{k k':IntKind}(hx:QH S E x=some (.int k a))(hy:QH S E y=some (.int k' b))(h0:Yq S=true→0≤b):QZ C S E I loc ⟨dst,.binOp .shl t x y t',ty,pos,af,gd⟩ (.int k (k.wrap (a*2^(min b.toNat k.bits)))):=
 .of kE fun ac w ha hg hc _=>by
  have:=h0 hc;simp only [execOp,Qj ha hg hc hx,Qj ha hg hc hy,Sem.run_bind,Yj,Result.andThen,binOp,Op.shift,if_neg (show ¬b<0 by omega),Sem.run_pure]
theorem zi8 {t:TypeId}(hx:QH S E x=some (.int .i64 a)):QZ C S E I loc ⟨dst,.unOp .neg t x,ty,pos,af,gd⟩ (.int .i64 (IntKind.i64.wrap (0-a))):=
 .of kE fun ac w ha hg hc _=>by
  simp only [execOp,Qj ha hg hc hx];rfl
def zk8 (a b:Int):Int:=if b<a then b else a
def zcU (a b:Int):Int:=if b>a then b else a
theorem zrK {k:IntKind}{ats:Array TypeId}(hx:QH S E x=some (.int k a))(hy:QH S E y=some (.int k b)):QZ C S E I loc ⟨dst,.call ⟨.builtin .min, #[x,y],ats⟩,ty,pos,af,gd⟩ (.int k (zk8 a b)):=
 .of kE fun ac w ha hg hc hw=>by
  simp only [execOp,resolve,List.map_toArray,List.map_cons,List.map_nil,Qj ha hg hc hx,Qj ha hg hc hy,Sem.run_bind,Sem.run_pure,Result.andThen,invoke,builtin];rfl
theorem VG {k:IntKind}{ats:Array TypeId}(hx:QH S E x=some (.int k a))(hy:QH S E y=some (.int k b)):QZ C S E I loc ⟨dst,.call ⟨.builtin .max, #[x,y],ats⟩,ty,pos,af,gd⟩ (.int k (zcU a b)):=
 .of kE fun ac w ha hg hc hw=>by
  simp only [execOp,resolve,List.map_toArray,List.map_cons,List.map_nil,Qj ha hg hc hx,Qj ha hg hc hy,Sem.run_bind,Sem.run_pure,Result.andThen,invoke,builtin];rfl
theorem K1 {t e n size:Nat}{k:IntKind}{cs:List Value}{i:Int}{v:Value}(hx:QH S E x=some (.agg cs.toArray))(hy:QH S E y=some (.int k i))(hT:ArT C.P t n e size)(hS:ScT C.P e)(hb:Yq S=true→0≤i∧i<(n:Int))(hv:Yq S=true→cs[i.toNat*size]? =some v):
  QZ C S E I loc ⟨dst,.index t x y,ty,pos,af,gd⟩ v:=
 .of kE fun ac w ha hg hc _=>by
  obtain ⟨h1,j,h2,h3⟩:=hT;have h4:cs.toArray[i.toNat*size]? =some v:=(by simpa using hv hc);simp only [execOp,Qj ha hg hc hx,Qj ha hg hc hy,Instr.index,asIntOf,Sem.run_bind,Sem.run_pure,run_underlying h1,Result.andThen,if_pos (hb hc),run_sizeOf h2,h3,part,VJ hS,Bool.false_eq_true,if_false,h4]
theorem zah {t e n size:Nat}{k:IntKind}{cs:List Value}{i:Int}(hx:QH S E x=some (.agg cs.toArray))(hy:QH S E y=some (.int k i))(hT:ArT C.P t n e size)(hA:AgT C.P e size)(hb:Yq S=true→0≤i∧i<(n:Int)):
  QZ C S E I loc ⟨dst,.index t x y,ty,pos,af,gd⟩ (.agg ((cs.drop (i.toNat*size)).take size).toArray):=
 .of kE fun ac w ha hg hc _=>by
  obtain ⟨h1,j,h2,h3⟩:=hT;have h5:cs.toArray.extract (i.toNat*size) (i.toNat*size+size)=((cs.drop (i.toNat*size)).take size).toArray:=(by simp);simp only [execOp,Qj ha hg hc hx,Qj ha hg hc hy,Instr.index,asIntOf,Sem.run_bind,Sem.run_pure,run_underlying h1,Result.andThen,if_pos (hb hc),run_sizeOf h2,h3,part,Vn hA,if_true,h5]
end
section
variable {P:Program} {fn:Func} {R:Ending→World→Prop} {N:Nat} {g:World} {I H:Qu} {loc:Loc} {E:Env} {r:Option Nat}
theorem ZM {t tt n b:Nat}{vs:List Value}(hr:fn.results= #[.cell t tt])(hv:VT E t=some (.pointer (some ⟨b,0,none⟩)))(hA:AgT P tt n)(hc:Cells I loc b 0 vs)(hn:vs.length=n)(h:∀ w,St g I H loc w→R (.returned (.agg vs.toArray)) w):
  At ⟨P,r,N,[],g,H⟩ (bodyPost P fn R) .ret E I loc:=fun a w ha hw=>
 ⟨ha.defers,.agg vs.toArray,by
  have e1:=ha.env _ _ hv;rw [Array.getD_eq_getD_getElem?] at e1
  have h1:(loadCells ⟨b,0,none⟩ n).run P w= .ok vs.toArray w:=by
   rw [←hn];exact run_loadCells_list w _ _ fun j v hj=>by rw [Z8];exact (hc j v hj).get hw
  have hA':=hA;obtain ⟨_,i,h2,h3⟩:=hA'
  have l1:(loadVar tt ⟨b,0,none⟩).run P w= .ok (.agg vs.toArray) w:=by
   simp only [loadVar,Sem.run_bind,Sem.run_pure,Vn hA,Result.andThen,if_true,run_sizeOf h2,h3,h1]
  simp only [results,hr]
  simp [List.mapM_cons,e1,asAddr,l1],h w hw⟩
end
theorem X8 {P:Program}{w:World}{dd:Nat}{f:Field}{fs:List Field}{cx cy:Array Value}{u v:Value}{c r:Bool}(hn:f.name≠ "_")(h1:(part f.type cx f.offset).run P w= .ok u w)(h2:(part f.type cy f.offset).run P w= .ok v w)
  (hc:(Op.equalIn dd f.type u v).run P w= .ok c w)(hr:(Op.eqFields dd cx cy fs).run P w= .ok r w):(Op.eqFields dd cx cy (f::fs)).run P w= .ok (c&&r) w:=by
 simp only [Op.eqFields,if_pos hn,Sem.run_bind,h1,h2,hc,Result.andThen,Sem.run_ite]
 cases c with
 | false=>simp
 | true=>simpa using hr
def zj3 (P:Program):List Field→Nat→Option (List EqK)
 | [],_=>some []
 | f::fs,k=>if f.name≠ "_" ∧f.offset=k then
   match zcr P f.type with
   | some q=>(zj3 P fs (k+1)).map (q:: ·)
   | none=>match P.underlying f.type with
    | some (.struct gs)=>if P.stoodInHeld f.type=false then
      match zaP P gs.toList 0,P.info? f.type with
      | some l,some i=>if i.size=l.length then (zj3 P fs (k+l.length)).map (l++ ·) else none
      | _,_=>none
     else none
    | _=>none
  else none
def zzS (P:Program)(t:Nat)(ks:List EqK):Prop:=P.underlying t=some (.struct (P.fieldsOf t))∧P.stoodInHeld t=false∧P.eqGuardType P.depth t=false∧zj3 P (P.fieldsOf t).toList 0=some ks
theorem zbi:∀ {k1 k2:List EqK} {xs ys:List Value} {b:Bool},KR (k1++k2) xs ys=some b→∃ u1 u2 v1 v2 b1 b2,xs=u1++u2∧ys=v1++v2∧u1.length=k1.length∧v1.length=k1.length∧KR k1 u1 v1=some b1∧KR k2 u2 v2=some b2∧b=(b1&&b2)
 | [],k2,xs,ys,b,h=>⟨[],xs,[],ys,true,b,rfl,rfl,rfl,rfl,rfl,h,by simp⟩
 | .int::k1,k2,xs,ys,b,h=>by
  match xs,ys,h with
  | .int k a::xs,.int k' c::ys,h=>
   simp only [List.cons_append,KR] at h;split at h
   ·
    rename_i hk
    cases hr:KR (k1++k2) xs ys with
    | none=>rw [hr] at h;cases h
    | some r=>
     rw [hr] at h;obtain ⟨u1,u2,v1,v2,b1,b2,rfl,rfl,h1,h2,h3,h4,rfl⟩:=zbi hr;refine ⟨.int k a::u1,u2,.int k' c::v1,v2,(a==c&&b1),b2,rfl,rfl,by simp [h1],by simp [h2],?_,h4,?_⟩
     ·
      simp only [KR,if_pos hk,h3]
     ·
      simp only [Option.some.injEq] at h;rw [←h,Bool.and_assoc]
   ·
    cases h
 | .str::k1,k2,xs,ys,b,h=>by
  match xs,ys,h with
  | .string a::xs,.string c::ys,h=>
   simp only [List.cons_append,KR] at h
   cases hr:KR (k1++k2) xs ys with
   | none=>rw [hr] at h;cases h
   | some r=>
    rw [hr] at h;obtain ⟨u1,u2,v1,v2,b1,b2,rfl,rfl,h1,h2,h3,h4,rfl⟩:=zbi hr;refine ⟨.string a::u1,u2,.string c::v1,v2,(Kz a c&&b1),b2,rfl,rfl,by simp [h1],by simp [h2],?_,h4,?_⟩
    ·
     simp only [KR,h3]
    ·
     simp only [Option.some.injEq] at h;rw [←h,Bool.and_assoc]
 | .bool::k1,k2,xs,ys,b,h=>by
  match xs,ys,h with
  | .bool a::xs,.bool c::ys,h=>
   simp only [List.cons_append,KR] at h
   cases hr:KR (k1++k2) xs ys with
   | none=>rw [hr] at h;cases h
   | some r=>
    rw [hr] at h;obtain ⟨u1,u2,v1,v2,b1,b2,rfl,rfl,h1,h2,h3,h4,rfl⟩:=zbi hr;refine ⟨.bool a::u1,u2,.bool c::v1,v2,(a==c&&b1),b2,rfl,rfl,by simp [h1],by simp [h2],?_,h4,?_⟩
    ·
     simp only [KR,h3]
    ·
     simp only [Option.some.injEq] at h;rw [←h,Bool.and_assoc]
theorem zb9 {P:Program}{w:World}{t:TypeId}{cs:Array Value}{off:Nat}{v:Value}(h:ScT P t)(hv:cs[off]? =some v):(part t cs off).run P w= .ok v w:=by
 simp only [part,Sem.run_bind,VJ h,Result.andThen,Bool.false_eq_true,if_false,hv,Sem.run_pure]
theorem Xg {P:Program}{w:World}{t:TypeId}{cs:Array Value}{off n:Nat}(h:AgT P t n):(part t cs off).run P w= .ok (.agg (cs.extract off (off+n))) w:=by
 obtain ⟨i,hi,hs⟩:=h.2;simp only [part,Sem.run_bind,Vn h,Result.andThen,if_true,run_sizeOf hi,hs,Sem.run_pure]
theorem zcw (a b c:List Value)(n m:Nat)(hn:a.length=n)(hm:b.length=m):(a++(b++c)).toArray.extract n (n+m)=b.toArray:=by
 subst hn;subst hm;apply Array.ext';simp
theorem zlf {P:Program}{w:World}{dd:Nat}{t:TypeId}{q:EqK}(hk:zcr P t=some q){ks:List EqK}{xs ys:List Value}{b:Bool}(he:KR (q::ks) xs ys=some b):
  ∃ u v us vs c r,xs=u::us∧ys=v::vs∧ScT P t∧(Op.equalIn (dd+1) t u v).run P w= .ok c w∧KR ks us vs=some r∧b=(c&&r):=by
 unfold zcr at hk
 cases hu:P.underlying t with
 | none=>rw [hu] at hk;cases hk
 | some td=>
  rw [hu] at hk;cases td<;>simp only [Option.some.injEq,reduceCtorEq] at hk
  case int kk=>
   subst hk
   match xs,ys,he with
   | .int k a::xs,.int k' c::ys,he=>
    simp only [KR] at he;split at he
    ·
     rename_i hkk;subst hkk
     cases hr:KR ks xs ys with
     | none=>rw [hr] at he;cases he
     | some r=>
      rw [hr] at he;simp only [Option.some.injEq] at he;exact ⟨_,_,xs,ys,(a==c),r,rfl,rfl,⟨_,hu,trivial⟩,run_equalIn_int w dd t k kk a c hu,hr,he.symm⟩
    ·
     cases he
  case string=>
   subst hk
   match xs,ys,he with
   | .string a::xs,.string c::ys,he=>
    simp only [KR] at he
    cases hr:KR ks xs ys with
    | none=>rw [hr] at he;cases he
    | some r=>
     rw [hr] at he;simp only [Option.some.injEq] at he;exact ⟨_,_,xs,ys,_,r,rfl,rfl,⟨_,hu,trivial⟩,run_equalIn_string w dd t a c hu,hr,he.symm⟩
  case bool=>
   subst hk
   match xs,ys,he with
   | .bool a::xs,.bool c::ys,he=>
    simp only [KR] at he
    cases hr:KR ks xs ys with
    | none=>rw [hr] at he;cases he
    | some r=>
     rw [hr] at he;simp only [Option.some.injEq] at he;exact ⟨_,_,xs,ys,(a==c),r,rfl,rfl,⟨_,hu,trivial⟩,run_equalIn_bool' w dd t a c hu,hr,he.symm⟩
theorem Ku {P:Program}{w:World}(dd:Nat):∀ (fs:List Field) (ks:List EqK) (k:Nat) (pre xs pre' ys:List Value) (b:Bool),zj3 P fs k=some ks→pre.length=k→pre'.length=k→KR ks xs ys=some b→
  (Op.eqFields (dd+2) (pre++xs).toArray (pre'++ys).toArray fs).run P w= .ok b w
 | [],ks,k,pre,xs,pre',ys,b,hf,_,_,he=>by
  simp only [zj3,Option.some.injEq] at hf;subst hf;cases xs<;>cases ys<;>simp only [KR] at he<;>first | (cases he;rfl) | cases he
 | f::fs,ks,k,pre,xs,pre',ys,b,hf,hp,hp',he=>by
  simp only [zj3] at hf;split at hf
  ·
   rename_i hn
   cases hk:zcr P f.type with
   | some q=>
    rw [hk] at hf;simp only [Option.map_eq_some_iff] at hf;obtain ⟨l,hl,rfl⟩:=hf;obtain ⟨u,v,us,vs,c,r,rfl,rfl,hs,hc,hr,rfl⟩:=zlf (w:=w) (dd:=dd+1) hk he;refine X8 hn.1 (zb9 hs (by rw [hn.2,←hp];simp)) (zb9 hs (by rw [hn.2,←hp'];simp)) hc ?_;have:=Ku (P:=P) (w:=w) dd fs l (k+1) (pre++[u]) us (pre'++[v]) vs r hl (by simp [hp]) (by simp [hp']) hr;simpa using this
   | none=>
    rw [hk] at hf;simp only at hf
    cases hu:P.underlying f.type with
    | none=>rw [hu] at hf;cases hf
    | some td=>
     rw [hu] at hf;cases td<;>simp only [reduceCtorEq] at hf;rename_i gs;split at hf
     ·
      rename_i hst
      cases hfl:zaP P gs.toList 0 with
      | none=>rw [hfl] at hf;simp at hf
      | some l2=>
       cases hin:P.info? f.type with
       | none=>rw [hfl,hin] at hf;simp at hf
       | some i=>
        rw [hfl,hin] at hf;simp only at hf;split at hf
        ·
         rename_i hsz;simp only [Option.map_eq_some_iff] at hf;obtain ⟨l,hl,rfl⟩:=hf;obtain ⟨u1,u2,v1,v2,b1,b2,rfl,rfl,hu1,hv1,h1,h2,rfl⟩:=zbi he;have hag:AgT P f.type l2.length:=⟨⟨_,hu,trivial⟩,i,hin,hsz⟩;have hfo:P.fieldsOf f.type=gs:=(by unfold Program.fieldsOf;rw [hu]);refine X8 (u:=.agg u1.toArray) (v:=.agg v1.toArray) hn.1 ?_ ?_ ?_ ?_
         ·
          rw [Xg hag,hn.2,zcw pre u1 u2 k l2.length hp hu1]
         ·
          rw [Xg hag,hn.2,zcw pre' v1 v2 k l2.length hp' hv1]
         ·
          rw [run_equalIn_struct w (dd+1) f.type _ _ (by rw [hfo];exact hu) hst,hfo];have:=KV (P:=P) (w:=w) dd gs.toList l2 0 [] u1 [] v1 b1 hfl rfl rfl h1;simpa using this
         ·
          have:=Ku (P:=P) (w:=w) dd fs l (k+l2.length) (pre++u1) u2 (pre'++v1) v2 b2 hl (by simp [hp,hu1]) (by simp [hp',hv1]) h2;simpa [List.append_assoc] using this
        ·
         cases hf
     ·
      cases hf
  ·
   cases hf
variable {C:Cx} {Q:Exit→Act→World→Prop} {E E':Env} {I I':Qu} {loc loc' L R:Loc} {ops:Array Oper} {rest:List Oper} {S:GS}
variable {dst:Option Tmp} {d:Nat} {ty:TypeId} {pos:String} {af:Array Edge} {gd:Option (Nat×Bool)} {x y z:Operand}
theorem Ww {t t':TypeId}{ks:List EqK}{us vs:List Value}{b:Bool}(hx:QH S E x=some (.agg us.toArray))(hy:QH S E y=some (.agg vs.toArray))(hT:zzS C.P t ks)(h:KR ks us vs=some b):QZ C S E I loc ⟨dst,.binOp .eql t x y t',ty,pos,af,gd⟩ (.bool b):=
 .of kE fun a w ha hg hc _=>by
  have:=Ku (P:=C.P) (w:=w) 9997 _ _ 0 [] us [] vs b hT.2.2.2 rfl rfl h;simp only [List.nil_append] at this;simp only [execOp,Qj ha hg hc hx,Qj ha hg hc hy,Sem.run_bind,run_eqGuard_agg w _ _ _ _ _ _ hT.2.2.1,Result.andThen,run_eql_struct,run_equalIn_struct w 9999 t _ _ hT.1 hT.2.1,this,Sem.run_pure]
theorem zkz {t t':TypeId}{ks:List EqK}{us vs:List Value}{b:Bool}(hx:QH S E x=some (.agg us.toArray))(hy:QH S E y=some (.agg vs.toArray))(hT:zzS C.P t ks)(h:KR ks us vs=some b):QZ C S E I loc ⟨dst,.binOp .neq t x y t',ty,pos,af,gd⟩ (.bool (!b)):=
 .of kE fun a w ha hg hc _=>by
  have:=Ku (P:=C.P) (w:=w) 9997 _ _ 0 [] us [] vs b hT.2.2.2 rfl rfl h;simp only [List.nil_append] at this;simp only [execOp,Qj ha hg hc hx,Qj ha hg hc hy,Sem.run_bind,run_eqGuard_agg w _ _ _ _ _ _ hT.2.2.1,Result.andThen,run_neq_struct,run_equalIn_struct w 9999 t _ _ hT.1 hT.2.1,this,Sem.run_pure]
end
section
open Go
def mk (ms:List Nat):List Deferred:=ms.map fun b=>{target:=.collected b,args:= #[]}
def MB:List Nat→Loc
 | []=>[]
 | b::ms=>MB ms++[(b,.deferred (some []))]
section
variable {P:Program} {r:Option Nat} {N:Nat} {g:World} {H:Qu} {Q:Exit→Act→World→Prop} {E E':Env} {I I':Qu} {loc loc' L R:Loc} {ms:List Nat}
theorem zeR {α:Type}{gop:Operand}{p:Nat}{assign body:Code}{f:FuncId}{cap:List Value}{K:Loc}{enc:α→Value}{xs:List α}
  (Jc:List α→Qu→Loc→Prop)(Jx:Code→List α→Qu→Loc→Prop)(Ja:List α→α→Env→Qu→Loc→Prop)
  (hg:QH [] E gop=some (.func (.func f) #[] cap.toArray))(hF:Fun P f)(hseq:zAl P f cap I K enc xs)(hp:Nat.blt p N=true)(h0:Jc [] I L)
  (hass:∀ l pre x I' loc' H1,pre++[x]<+:xs→HLe I I'→Jc pre I' loc'→X ⟨P,some l,N,[],g,H1⟩ (Exit.then (Met ⟨P,some l,N,[],g,H1⟩ fun E2 I2 loc2=>HLe I' I2∧Ja pre x E2 I2 loc2) (fun _ _ _=>False)) assign ((p,enc x)::E) I' loc')
  (hbody:∀ l pre x E2 I2 loc2 H2,pre++[x]<+:xs→HLe I I2→Ja pre x E2 I2 loc2→X ⟨P,some l,N,[],g,H2⟩ (zkI g H2 (fun q I3 loc3=>HLe I2 I3∧Jc q I3 loc3) (fun c q I3 loc3=>HLe I2 I3∧Jx c q I3 loc3) (pre++[x])) body E2 I2 loc2)
  (hdone:∀ bd I' loc',HLe I I'→Jc xs I' loc'→At ⟨P,none,N,mk (bd::ms),g,H⟩ Q .normal E I' (loc'++MB (bd::ms)))
  (hstop:∀ c bd pre I' loc',HLe I I'→pre<+:xs→Jx c pre I' loc'→X ⟨P,none,N,mk (bd::ms),g,H⟩ Q c E I' (loc'++MB (bd::ms))):
  X ⟨P,none,N,mk ms,g,H⟩ Q (.rangeFunc gop #[p] assign body) E I (K++(L++MB ms)):=by
 intro a w ha hw
 have back:∀ {I':Qu} {loc':Loc} {bd:Nat} {w':World},St g I' (Kh H (MB ms)) (loc'++[(bd,.deferred (some []))]) w'→St g I' H (loc'++MB (bd::ms)) w':=fun {I' loc' bd w'} h=>by
  have h1:=St.unhide ((hw.rest Zi).rest Zi) h;refine h1.perm (fun p=>?_) ?_
  ·
   simp only [MB,List.mem_append];constructor
   ·
    rintro (h | h | h)
    ·
     exact .inl (.inl h)
    ·
     exact .inr h
    ·
     exact .inl (.inr h)
   ·
    rintro ((h | h) | h)
    ·
     exact .inl h
    ·
     exact .inr (.inr h)
    ·
     exact .inr (.inl h)
  ·
   have hn:=h1.nodup
   have hpm:(loc'++MB (bd::ms)).Perm (loc'++[(bd,.deferred (some []))]++MB ms):=by
    rw [List.append_assoc];exact (List.Perm.refl loc').append List.perm_append_comm
   exact (hpm.map (·.1)).nodup_iff.2 hn
 refine ze6 (K:=K) (P:=P) (N:=N) (D:=mk ms) (g:=g) (H:=Kh H (MB ms)) (Q:=Q) Jc Jx Ja hg hF hseq hp h0 hass hbody ?_ ?_ a w ha (show St g I (Kh H (MB ms)) (K++L) w from (show St g I H ((K++L)++MB ms) w by rw [List.append_assoc];exact hw).hideR)
 ·
  intro bd I' loc' hI hJ a' w' ha' hw';exact hdone bd I' loc' hI hJ a' w' ha' (back hw')
 ·
  intro c bd pre I' loc' hI hpre hJ a' w' ha' hw';exact hstop c bd pre I' loc' hI hpre hJ a' w' ha' (back hw')
theorem zaN {fn:Func}{R:Ending→World→Prop}{tmps:Array Value}{v:Value}:∀ (ms:List Nat) {L:Loc} {w:World},St g I H (L++MB ms) w→(∀ w,St g I H L w→(results fn tmps).run P w= .ok v w∧R (.returned v) w)→
  LeavesInM Fence.wide 0 P fn tmps R (mk ms) .returning w
 | [],L,w,hw,h=>by
  have hw:St g I H L w:=(by simpa [MB] using hw);exact ⟨v,h w hw⟩
 | b::ms,L,w,hw,h=>by
  have hu:Upd (L++MB (b::ms)) b (.deferred (some [])) (.deferred none) (L++(MB ms++[(b,.deferred none)])):=ZD (ZD .here);have hb:=hw.own _ _ hu.mem;have hs:=hw.putObj hu;refine ⟨by simp,.inl ⟨b,_,rfl,run_takeDeferred hb,?_⟩⟩;exact zaN ms (L:=L) (hs.subL (Q7 QL)) h
theorem ziv {fn:Func}{R:Ending→World→Prop}{v:Value}(hv:∀ a,Uh N (mk ms) E a→∀ w,St g I H L w→(results fn a.tmps).run P w= .ok v w)(h:∀ w,St g I H L w→R (.returned v) w):
  At ⟨P,r,N,mk ms,g,H⟩ (bodyPostM Fence.wide 0 P fn R) .ret E I (L++MB ms):=fun a w ha hw=>by
 show LeavesInM _ _ _ _ _ _ _ _ _;rw [ha.defers];exact zaN ms hw fun w' hw'=>⟨hv a ha w' hw',h w' hw'⟩
theorem zl0 {f:FuncId}{fn:Func}{c:Code}{args:List Value}{R:Ending→World→Prop}{w:World}(hf:P.funcs[f]? =some fn)(hb:fn.body=some c){N:Nat}(hN:fn.ntmps=N)
  (hlen:Nat.ble args.length N=true)(hw:St g I H loc w)(h:X ⟨P,none,N,mk [],g,H⟩ (bodyPostM Fence.wide 0 P fn R) c (zo7 0 args) I (loc++MB [])):Calls P f args.toArray w R:=
 zwR hf hb hN hlen hw (by simpa [MB,mk] using h)
end
section
variable {g:World} {I I' H:Qu} {loc loc' L R:Loc} {w w':World}
theorem St.lend (h:St g I H L w):∃ I',HLe I I'∧(∀ b o,(b,o)∈L→I' b=some o)∧St g I' H [] w:=by
 obtain ⟨I',h1,h2,h3⟩:=h.freezeAll;exact ⟨I',h1,h3,h2⟩
theorem St.unlend (h:St g I H L w)(h':St g I' H [] w')(hI:HLe I I')(hL:∀ b o,(b,o)∈L→I' b=some o):St g I H L w' where
 os:=h'.os
 tape:=h'.tape
 out:=h'.out
 size:=h'.size
 imm:=fun b o hb=>h'.imm b o (hI b o hb)
 frm:=h'.frm
 own:=fun b o hb=>h'.imm b o (hL b o hb)
 sepIH:=h.sepIH
 sepIL:=h.sepIL
 nodup:=h.nodup
theorem zoD.ofV {P:Program}{f:FuncId}{args:List Value}{v:Value}(h:∀ I',HLe I I'→(∀ b o,(b,o)∈L→I' b=some o)→ZJ P f args I' v):zoD P f args I L v:=by
 intro g H w hw;obtain ⟨I',h1,h2,h3⟩:=hw.lend;refine (h I' h1 h2 g H w h3).mono ?_;rintro e w' ⟨rfl,hs⟩;exact ⟨rfl,hw.unlend hs h1 h2⟩
end
variable {C:Cx} {Q:Exit→Act→World→Prop} {E E':Env} {I I':Qu} {loc loc' L R:Loc} {ops:Array Oper} {rest:List Oper} {S:GS}
variable {dst:Option Tmp} {d:Nat} {ty:TypeId} {pos:String} {af:Array Edge} {gd:Option (Nat×Bool)} {x y z:Operand}
section maps
variable {α β:Type} [DecidableEq α] {ek:α→Value} {ev:β→Value} {m:List (α×β)} {a:α}
end maps
def znr (size:Nat):List Value→List (Nat×Value)→Option (List Value)
 | cells,[]=>some cells
 | cells,(i,v)::rest=>bif Nat.beq (Jk v).length size&&Nat.ble (i*size+(Jk v).length) cells.length then znr size (Kf cells (i*size) (Jk v)) rest else none
theorem zhX (size:Nat):∀ (ps:List (Nat×Value)) (cells out:List Value),znr size cells ps=some out→Instr.fill (fun i=>some (i*size,size)) cells.toArray ps=some out.toArray
 | [],cells,out,h=>by
  simp only [znr,Option.some.injEq] at h;subst h;rfl
 | (i,v)::ps,cells,out,h=>by
  simp only [znr] at h
  cases hb:(Nat.beq (Jk v).length size&&Nat.ble (i*size+(Jk v).length) cells.length) with
  | false=>rw [hb] at h;cases h
  | true=>
   rw [hb] at h;simp only [Bool.and_eq_true] at hb;have h1:=Nat.eq_of_beq_eq_true hb.1;have h2:=Nat.le_of_ble_eq_true hb.2
   have e:cells=cells.take (i*size)++(cells.drop (i*size)).take size++cells.drop (i*size+size):=by
    rw [List.append_assoc];have:(cells.drop (i*size)).take size++cells.drop (i*size+size)=cells.drop (i*size):=by rw [←List.drop_drop];exact List.take_append_drop _ _
    rw [this,List.take_append_drop]
   have hl1:(cells.take (i*size)).length=i*size:=(by rw [List.length_take];omega);have hl2:((cells.drop (i*size)).take size).length=size:=by rw [List.length_take,List.length_drop];omega
   have hsp:Kf cells (i*size) (Jk v)=cells.take (i*size)++Jk v++cells.drop (i*size+size):=by
    have:=KO (cells.take (i*size)) ((cells.drop (i*size)).take size) (Jk v) (cells.drop (i*size+size)) (by rw [hl2];exact h1.symm);rw [←e,hl1] at this;exact this
   have hfo:=zdO (place:=fun i=>some (i*size,size)) (i:=i) (off:=i*size) (size:=size) (v:=v) (vs:=Jk v) (pre:=cells.take (i*size)) (old:=(cells.drop (i*size)).take size) (tail:=cells.drop (i*size+size)) (l:=ps) rfl (ze2 v) h1 hl1 hl2;rw [←e] at hfo;rw [hfo,←hsp];exact zhX size ps _ out h
theorem VH {t n e size:Nat}{zl:List Value}{parts:Array (Nat×Operand)}{ps:List (Nat×Value)}(cells:List Value)(hA:ArT C.P t n e size)(hz:Vv C.P t (.agg zl.toArray))(hp:parts.toList.map (fun p=>(QH S E p.2).map fun v=>(p.1,v))=ps.map some)(hf:znr size zl ps=some cells):
  QZ C S E I loc ⟨dst,.build t parts,ty,pos,af,gd⟩ (.agg cells.toArray):=
 .of kE fun a w ha hg hc hw=>by
  obtain ⟨hu,i,hi,hs⟩:=hA
  have key:∀ (l:List (Nat×Operand)) (ps:List (Nat×Value)),l.map (fun p=>(QH S E p.2).map fun v=>(p.1,v))=ps.map some→l.map (fun p=>(p.1,a.eval p.2))=ps:=by
   intro l
   induction l with
   | nil=>intro ps h;cases ps<;>simp_all
   | cons p l ih=>
    intro ps h
    cases ps with
    | nil=>simp at h
    | cons q ps=>
     simp only [List.map_cons,List.cons.injEq] at h ⊢;refine ⟨?_,ih _ h.2⟩
     cases e1:QH S E p.2 with
     | none=>rw [e1] at h;simp at h
     | some v=>
      rw [e1] at h;rw [Qj ha hg hc e1];simpa using h.1
  have hps:(parts.map fun (i,x)=>(i,a.eval x)).toList=ps:=by
   rw [←key _ _ hp];simp
  have hfe:=zhX size ps zl cells hf;have hzc:(Value.agg zl.toArray).cells=zl.toArray:=rfl;simp only [execOp,Instr.build,Sem.run_bind,VP hz,Result.andThen,run_underlying hu,run_sizeOf hi,hs,hps,hzc,hfe,Sem.run_pure]
def zhU (P:Program)(s f fo n:Nat):Prop:=∃ fs x,P.underlying s=some (.struct fs)∧fs[f]? =some x∧x.offset=fo∧AgT P x.type n
def zny (P:Program)(s f fo n:Nat):Bool:=match P.underlying s with
 | some (.struct fs)=>match fs[f]? with
  | some x=>x.offset==fo&&zAv P x.type n
  | none=>false
 | _=>false
theorem zhU.of {P:Program}{s f fo n:Nat}(h:zny P s f fo n=true):zhU P s f fo n:=by
 unfold zny at h;split at h
 ·
  rename_i fs hu;split at h
  ·
   rename_i x hx;rw [Bool.and_eq_true] at h;exact ⟨fs,x,hu,hx,by simpa using h.1,.of h.2⟩
  ·
   cases h
 ·
  cases h
theorem zjW {s f fo n:Nat}{vs:List Value}(ws:List Value)(hx:QH S E x=some (.agg vs.toArray))(hF:zhU C.P s f fo n)(hv:(vs.drop fo).take n=ws):QZ C S E I loc ⟨dst,.field s x f,ty,pos,af,gd⟩ (.agg ws.toArray):=
 .of kE fun a w ha hg hc _=>by
  obtain ⟨fs,fx,h1,h2,h3,h4⟩:=hF
  have h5:vs.toArray.extract fo (fo+n)=ws.toArray:=by
   apply Array.ext';simp [←hv,List.extract_eq_take_drop]
  simp only [execOp,Qj ha hg hc hx,Instr.field,Sem.run_bind,run_underlying h1,Result.andThen,h2,asAgg,Sem.run_pure,Xg h4,h3,h5]
end
section
open Go
section
variable {g:World} {I I' H:Qu} {loc loc' L R:Loc} {w w':World}
theorem ZU.sl {α:Type}{e size:Nat}{enc:α→List Value}{v:Value}{n:Nat}{xs:List α}(hO:ZU e size v n (xs.flatMap enc) L)(hs:∀ x,(enc x).length=size)(hsz:0<size)(hI:∀ b o,(b,o)∈L→I b=some o):∃ av c,v= .slice av n c∧Sl I size enc av n c xs:=by
 have hn:xs.length=n:=by
  have:=hO.1;rw [Yp hs] at this;exact Nat.eq_of_mul_eq_mul_right hsz this
 rcases hO.2 with ⟨rfl,rfl,rfl⟩ | ⟨b,c,cur,rfl,rfl,hc,_,hcs,htake⟩
 ·
  have:xs=[]:=List.length_eq_zero_iff.1 hn;subst this;exact ⟨none,0,rfl,.nil⟩
 ·
  have h3:=hI b _ (List.mem_cons_self ..);refine ⟨_,_,rfl,hn,hc,fun _=>rfl,fun k x hx j u hu=>.imm h3 ?_⟩;rw [JG];simp only [Ao,Nat.zero_add];have hq:=zcv hs xs k x hx j u hu;rw [←htake,List.getElem?_take] at hq;split at hq
  ·
   simpa using hq
  ·
   cases hq
def W2 (e size:Nat):List (Value×Nat×List Value)→Loc→Prop
 | [],L=>L=[]
 | t::ts,L=>∃ L1 L2,L=L1++L2∧ZU e size t.1 t.2.1 t.2.2 L1∧W2 e size ts L2
def zfH:Value×Nat×List Value:=(.slice none 0 0,0,[])
theorem W2.nil {e size:Nat}:W2 e size [] []:=rfl
theorem W2.at {α:Type}[DecidableEq α]{e size:Nat}(a:α):∀ {m:List (α×(Value×Nat×List Value))} {L:Loc},W2 e size (m.map (·.2)) L→
  ∃ A Lt B,L=A++(Lt++B)∧ZU e size ((ZQ m a).getD zfH).1 ((ZQ m a).getD zfH).2.1 ((ZQ m a).getD zfH).2.2 Lt∧∀ t' Lt',ZU e size t'.1 t'.2.1 t'.2.2 Lt'→W2 e size ((JB m a t').map (·.2)) (A++(Lt'++B))
 | [],L,h=>by
  have h:L=[]:=h;subst h;exact ⟨[],[],[],rfl,.nil,fun t' Lt' h'=>⟨Lt',[],by simp,h',rfl⟩⟩
 | p::m,L,⟨L1,L2,e1,h1,h2⟩=>by
  by_cases hp:p.1=a
  ·
   refine ⟨[],L1,L2,by rw [e1];rfl,by simp only [ZQ,if_pos hp];exact h1,fun t' Lt' h'=>?_⟩;simp only [JB,if_pos hp,List.map_cons];exact ⟨Lt',L2,rfl,h',h2⟩
  ·
   obtain ⟨A,Lt,B,e2,h3,h4⟩:=W2.at a h2;refine ⟨L1++A,Lt,B,by rw [e1,e2,List.append_assoc],by simp only [ZQ,if_neg hp];exact h3,fun t' Lt' h'=>?_⟩;simp only [JB,if_neg hp,List.map_cons];exact ⟨L1,A++(Lt'++B),by rw [List.append_assoc],h1,h4 t' Lt' h'⟩
end
variable {C:Cx} {Q:Exit→Act→World→Prop} {E:Env} {I:Qu} {loc:Loc}
theorem zg1 {c:Code}(h:∀ I',HLe I I'→(∀ b o,(b,o)∈loc→I' b=some o)→X C Q c E I' []):X C Q c E I loc:=fun a w ha hw=>by
 obtain ⟨I',h1,h2,h3⟩:=hw.freezeAll;exact h I' h1 h3 a w ha h2
theorem Jr {α β:Type}[DecidableEq α]:∀ (m:List (α×β)) (a x:α) (b:β),ZQ (JB m a b) x=if a=x then some b else ZQ m x
 | [],a,x,b=>by simp [JB,ZQ]
 | p::m,a,x,b=>by
  unfold JB;by_cases h:p.1=a
  ·
   rw [if_pos h];simp only [ZQ];by_cases h2:a=x
   ·
    rw [if_pos h2,if_pos h2]
   ·
    rw [if_neg h2,if_neg h2,if_neg (by rw [h];exact h2)]
  ·
   rw [if_neg h];simp only [ZQ];rw [Jr m a x b];by_cases h2:p.1=x
   ·
    rw [if_pos h2,if_pos h2,if_neg (fun e=>h (by rw [h2,e]))]
   ·
    rw [if_neg h2,if_neg h2]
theorem zdN {α β:Type}[DecidableEq α]:∀ {m:List (α×β)} {a:α} {b:β},ZQ m a=some b→(a,b)∈m
 | [],_,_,h=>by cases h
 | p::m,a,b,h=>by
  unfold ZQ at h;split at h
  ·
   rename_i e;cases h;rw [←e];exact List.mem_cons_self ..
  ·
   exact List.mem_cons_of_mem _ (zdN h)
theorem zcn {α β:Type}[DecidableEq α]:∀ {m:List (α×β)} {a:α},ZQ m a=none↔a∉m.map (·.1)
 | [],a=>by simp [ZQ]
 | p::m,a=>by
  unfold ZQ;by_cases h:p.1=a
  ·
   simp [h]
  ·
   rw [if_neg h,zcn,List.map_cons,List.mem_cons,not_or];exact ⟨fun h2=>⟨fun e=>h e.symm,h2⟩,fun h2=>h2.2⟩
theorem zb3 {α β:Type}[DecidableEq α]:∀ (m:List (α×β)) (a:α) (b:β),(JB m a b).map (·.1)=if a∈m.map (·.1) then m.map (·.1) else m.map (·.1)++[a]
 | [],a,b=>by simp [JB]
 | p::m,a,b=>by
  unfold JB;by_cases h:p.1=a
  ·
   simp [h]
  ·
   rw [if_neg h,List.map_cons,zb3 m a b];by_cases h2:a∈m.map (·.1)
   ·
    rw [if_pos h2,if_pos (by simp only [List.map_cons];exact List.mem_cons_of_mem _ h2)];rfl
   ·
    rw [if_neg h2,if_neg (by simp only [List.map_cons,List.mem_cons,not_or];exact ⟨fun e=>h e.symm,h2⟩)];rfl
theorem zkg {α β:Type}[DecidableEq α]{m:List (α×β)}(a:α)(b:β)(h:(m.map (·.1)).Nodup):((JB m a b).map (·.1)).Nodup:=by
 rw [zb3];split
 ·
  exact h
 ·
  rename_i h2;rw [List.nodup_append];exact ⟨h,by simp,fun x hx y hy e=>by simp at hy;subst hy;subst e;exact h2 hx⟩
theorem zvk {α β:Type}[DecidableEq α]{m:List (α×β)}(h:(m.map (·.1)).Nodup){p:α×β}(hp:p∈m):ZQ m p.1=some p.2:=by
 induction m with
 | nil=>cases hp
 | cons q m ih=>
  rw [List.map_cons,List.nodup_cons] at h;unfold ZQ;rcases List.mem_cons.1 hp with rfl | hp
  ·
   rw [if_pos rfl]
  ·
   rw [if_neg (fun e=>h.1 (by rw [e];exact List.mem_map.2 ⟨p,hp,rfl⟩)),ih h.2 hp]
def zpO {α:Type}[DecidableEq α](s:List (α×Bool))(a:α):Bool:=(ZQ s a).getD false
theorem zhQ {α:Type}[DecidableEq α](s:List (α×Bool))(a x:α):zpO (JB s a true) x=(decide (a=x)||zpO s x):=by
 unfold zpO;rw [Jr];by_cases h:a=x
 ·
  simp [h]
 ·
  simp [h]
end
end Go.Kn
section
namespace Go.Kn
open Go
section
variable {I:Qu} {b off:Nat} {vs:List Value} {A:Array Value} {t:TypeId} {fz:Nat×Nat} {l:Loc}
variable {p0 p1 p2 p3 p4 p5 p6 p7 p8 p9:Nat×Obj}
theorem Cells.s0 (h:(A.toList.drop off).take vs.length=vs):Cells I ((b,.cells A t fz)::l) b off vs:=fun j v hv=>by
 refine zB1 ?_;rw [JG];rw [←h] at hv;rw [List.getElem?_take] at hv;split at hv
 ·
  rw [List.getElem?_drop] at hv;exact hv
 ·
  cases hv
theorem Cells.s1 (h:(A.toList.drop off).take vs.length=vs):Cells I (p0::(b,.cells A t fz)::l) b off vs:=(Cells.s0 h).there
end
theorem Jq {P:Program}{g:World}{I H:Qu}{post:List Value}{off:Nat}:∀ (vs:List Value) (pre:List Value) (w:World) (loc loc':Loc) (b:Nat) (t:TypeId) (old:List Value) (k:Nat),pre.length=off+k→old.length=vs.length→(∀ v∈vs,v.oneCell'=true)→St g I H loc w→
  Upd loc b (.cells (pre++(old++post)).toArray t (0,0)) (.cells (pre++(vs++post)).toArray t (0,0)) loc'→∃ w',(storeCells ⟨b,off,none⟩ vs k).run P w= .ok () w'∧St g I H loc' w'
 | [],pre,w,loc,loc',b,t,old,k,_,hl,_,hw,hu=>by
  have:old=[]:=List.length_eq_zero_iff.1 hl;subst this;refine ⟨w,rfl,?_⟩;have hb:=hw.own _ _ hu.mem;exact hw.turn hu rfl rfl rfl rfl hb (fun _ _=>rfl)
 | v::vs,pre,w,loc,loc',b,t,old,k,hp,hl,h1,hw,hu=>by
  cases old with
  | nil=>simp at hl
  | cons u old=>
   have hb:=hw.own _ _ hu.mem;have hc:w.cell? ⟨b,off+k,none⟩=some u:=(by simp [World.cell?,hb,←hp]);have hfz:=W8 (off:=off+k) hw hu.mem;obtain ⟨l1,u1,u2⟩:=hu.middle (.cells ((pre++[v])++(old++post)).toArray t (0,0));have hset:((pre++(u::old++post)).toArray.setIfInBounds (off+k) v)=((pre++[v])++(old++post)).toArray:=(by rw [←hp];simp);rw [←hset] at u1;have hw1:=hw.setCell u1;rw [hset] at u1;obtain ⟨w',hr,hs⟩:=Jq (P:=P) (post:=post) (off:=off) vs (pre++[v]) _ l1 loc' b t old (k+1) kV (by simpa using hl) (fun x hx=>h1 x (List.mem_cons_of_mem _ hx)) hw1 (by simpa using u2);refine ⟨w',?_,hs⟩;simp only [storeCells,Sem.run_bind,Z8,run_store _ _ _ _ _ (h1 v (List.mem_cons_self ..)),hc,hfz,Bool.false_eq_true,if_false,Result.andThen,hr]
variable {C:Cx} {Q:Exit→Act→World→Prop} {E E':Env} {I I':Qu} {loc loc' L R:Loc} {ops:Array Oper} {rest:List Oper} {S:GS}
variable {dst:Option Tmp} {d:Nat} {ty:TypeId} {pos:String} {af:Array Edge} {gd:Option (Nat×Bool)} {x y z:Operand}
theorem zcj {A:List Value}{off n:Nat}{vs:List Value}(h:off+n≤A.length)(hn:vs.length=n):Kf A off vs=A.take off++(vs++A.drop (off+n)):=by
 have e:A=A.take off++(A.drop off).take n++A.drop (off+n):=by
  rw [List.append_assoc];have:(A.drop off).take n++A.drop (off+n)=A.drop off:=by rw [←List.drop_drop];exact List.take_append_drop _ _
  rw [this,List.take_append_drop]
 have hl1:(A.take off).length=off:=(by rw [List.length_take];omega);have:=KO (A.take off) ((A.drop off).take n) vs (A.drop (off+n)) (by rw [List.length_take,List.length_drop];omega);rw [←e,hl1,List.append_assoc] at this;exact this
theorem Z0 {t t' b off n:Nat}{vs:List Value}{A:List Value}(hx:QH [] E x=some (.pointer (some ⟨b,off,none⟩)))(hy:QH [] E y=some (.agg vs.toArray))(hT:SzT C.P t n)(hn:vs.length=n)(ho:Nat.ble (off+n) A.length=true)(h1:Y4 vs=true)(hG:gd=none)
  (hu:Upd loc b (.cells A.toArray t' (0,0)) (.cells (Kf A off vs).toArray t' (0,0)) loc')(h:XO C Q ops rest [] E I loc'):
  XO C Q ops (⟨none,.store t x y,ty,pos,af,gd⟩::rest) [] E I loc:=
 Ym hG kE fun a w ha hw=>by
  obtain ⟨i,hi,hs⟩:=hT;have hle:=Nat.le_of_ble_eq_true ho
  have e:A=A.take off++((A.drop off).take n++A.drop (off+n)):=by
   have:(A.drop off).take n++A.drop (off+n)=A.drop off:=by rw [←List.drop_drop];exact List.take_append_drop _ _
   rw [this,List.take_append_drop]
  rw [zcj hle hn] at hu;have hu2:Upd loc b (.cells (A.take off++((A.drop off).take n++A.drop (off+n))).toArray t' (0,0)) (.cells (A.take off++(vs++A.drop (off+n))).toArray t' (0,0)) loc':=(by rw [←e];exact hu);obtain ⟨w',hr,hs'⟩:=Jq (P:=C.P) (off:=off) vs (A.take off) w loc loc' b t' ((A.drop off).take n) 0 kQ (by rw [List.length_take,List.length_drop];omega) (JE h1) hw hu2;simp only [execOp,Qj (S:=[]) ha trivial rfl hx,Qj (S:=[]) ha trivial rfl hy,Instr.storeAt,Instr.sureAddr,Sem.run_bind,Sem.run_pure,Result.andThen,storeVar,run_sizeOf hi,hs,Value.cells,List.size_toArray,hn,ne_eq,not_true_eq_false,if_false];simp only [hr,Oper.uponIn_skip];exact h _ _ ha trivial hs'
theorem QC {a:Addr}(hx:QH S E x=some (.pointer (some a))):QZ C S E I loc ⟨dst,.nilCheck x,ty,pos,af,gd⟩ (.pointer (some a)):=
 .of kE fun ac w ha hg hc _=>by
  simp only [execOp,Qj ha hg hc hx];rfl
theorem zvl {t:TypeId}{k:IntKind}{a:Int}(hx:QH S E x=some (.int k a)):QZ C S E I loc ⟨dst,.unOp .neg t x,ty,pos,af,gd⟩ (.int k (k.wrap (0-a))):=
 .of kE fun ac w ha hg hc _=>by
  simp only [execOp,Qj ha hg hc hx];rfl
section
variable {P:Program} {fn:Func} {N:Nat} {g:World} {I H:Qu} {loc:Loc} {E:Env}
theorem zAE {D:List Deferred}{t tt b:Nat}{v:Value}(hr:fn.results= #[.cell t tt])(hv:VT E t=some (.pointer (some ⟨b,0,none⟩)))(hT:ScT P tt)(hc:Qy I loc b 0 v)(a:Act)(ha:Uh N D E a)(w:World)(hw:St g I H loc w):(results fn a.tmps).run P w= .ok v w:=by
 have e1:=ha.env _ _ hv;rw [Array.getD_eq_getD_getElem?] at e1
 have l1:(loadVar tt ⟨b,0,none⟩).run P w= .ok v w:=by
  simp only [loadVar,Sem.run_bind,VJ hT,Result.andThen,Bool.false_eq_true,if_false,run_load,hc.get hw]
 simp only [results,hr];simp [List.mapM_cons,e1,asAddr,l1]
end
end Go.Kn
namespace Go.Kn
open Go
section
variable {C:Cx} {E:Env} {I:Qu} {loc:Loc} {S:GS} {dst:Option Tmp} {ty:TypeId} {pos:String} {af:Array Edge} {gd:Option (Nat×Bool)} {x y:Operand}
variable {α β:Type} [DecidableEq α] {ek:α→Value} {ev:β→Value} {m:List (α×β)} {a:α}
theorem zag {t k e r:Nat}{zv:Value}{b:β}(hget:ZQ m a=some b)(hT:MpT C.P t k e zv)(hK:KP C.P k ek)(hx:QH S E x=some (.map (some r)))(hy:QH S E y=some (ek a))(hm:Yq S=true→Mem I loc r (YH ek ev m)):
  QZ C S E I loc ⟨dst,.lookup t x y false,ty,pos,af,gd⟩ (ev b):=by
 have:=Xx (C:=C) (S:=S) (dst:=dst) (ty:=ty) (pos:=pos) (af:=af) (gd:=gd) hT hK hx hy hm;rw [hget] at this;exact this
end
end Go.Kn
end
namespace Go.Proofs.YtjblkbkmblkgoaaGreat
section
open Go Go.Kn Go.Proofs
def Z5 (n:Int):List Value:=[.int .i64 n]
theorem YL (x:Int):(Z5 x).length=1:=rfl
theorem za5 (xs:List Int):Y4 (xs.flatMap Z5)=true:=YR (fun _=>rfl) xs
theorem zBT (xs:List Int):(xs.flatMap Z5).length=xs.length:=by rw [Yp YL,Nat.mul_one]
def ZI (b:Nat):Value:=.pointer (some ⟨b,0,none⟩)
variable{α:Type}{I:Qu}{size n k:Nat}{av:Option Addr}{enc:α→List Value}{xs:List α}
theorem _root_.Go.Kn.Sl.at {c:Nat}(h:Sl I size enc av n c xs)(hk:k<n):∃ x,xs[k]? =some x:=
 ⟨_,List.getElem?_eq_getElem (by rw [h.len];exact hk)⟩
def within (n lo hi:Int):Bool:=decide (n≥lo)&&decide (n≤hi)
theorem Ji {p:Nat→Bool}(h:(List.range k).all p=true)(hp:p k=true):(List.range (k+1)).all p=true:=by
 rw [List.range_succ,List.all_append,h];simpa using hp
theorem Ka {p:Nat→Bool}(hk:k<n)(hp:p k=false):(List.range n).all p=false:=by
 cases h:(List.range n).all p with
 | false=>rfl
 | true=>
  rw [List.all_eq_true] at h;rw [h k (List.mem_range.2 hk)] at hp;cases hp
variable{x d:α}
theorem VL (h:xs[k]? =some x):xs.getD k d=x:=by simp [List.getD,h]
theorem Uw (hl:xs.length=n)(h:k<n):xs[k]? =some (xs.getD k d):=by
 have:k<xs.length:=kB;unfold List.getD;rw [List.getElem?_eq_getElem this];rfl
variable{p:α→Bool}
theorem U1 (hx:xs[k]? =some x)(h:(xs.take k).any p=false)(hp:p x=false):(xs.take (k+1)).any p=false:=by rw [zbr hx,h,hp];rfl
theorem zl8 (hx:xs[k]? =some x)(hp:p x=true):xs.any p=true:=List.any_eq_true.2 ⟨x,List.mem_of_getElem? hx,hp⟩
theorem zu1 (hx:xs[k]? =some x)(h:(xs.take k).all p=true)(hp:p x=true):(xs.take (k+1)).all p=true:=by
 rw [List.take_add_one,hx,List.all_append,h];simpa using hp
theorem zsy (hx:xs[k]? =some x)(hp:p x=false):xs.all p=false:=List.all_eq_false.2 ⟨x,List.mem_of_getElem? hx,by rw [hp];decide⟩
theorem X7 (h:xs[k]? =some x):xs.take (k+1)=xs.take k++[x]:=by
 rw [List.take_add_one,h];rfl
def zq5 {α:Type}(p:α→Bool)(xs:List α):Int:=if xs.any p then (xs.findIdx p:Int) else -1
theorem zj6 (h:(xs.take k).any p=false)(hx:xs[k]? =some x)(hp:p x=true):xs.findIdx p=k:=by
 have hk:=(List.getElem?_eq_some_iff.1 hx).1;rw [List.findIdx_eq hk];refine ⟨by rw [(List.getElem?_eq_some_iff.1 hx).2];exact hp,fun j hj=>?_⟩;have:=List.any_eq_false.1 h xs[j] (by rw [List.mem_take_iff_getElem];exact ⟨j,kB,rfl⟩);simpa using this
theorem zgL (h:(xs.take k).any p=false)(hx:xs[k]? =some x)(hp:p x=true):zq5 p xs=k:=by
 unfold zq5;rw [zl8 hx hp,if_pos rfl,zj6 h hx hp]
theorem zeo (hl:xs.length=n)(hk:n≤k)(h:(xs.take k).any p=false):zq5 p xs= -1:=by
 unfold zq5;rw [ZR hl hk] at h;rw [h];rfl
theorem zgI :decide (zq5 p xs≥0)=xs.any p:=by
 unfold zq5;cases h:xs.any p
 ·
  rfl
 ·
  simp
variable{R:α→α→Prop}{l:List α}
theorem zaG (ht:∀ a b c,R a b→R b c→R a c)(h:∀ k (hk:k+1<l.length),R (l[k]' kB) l[k+1]):l.Pairwise R:=by
 have key:∀ (n i:Nat) (hn:i+n<l.length),0<n→R (l[i]' kB) l[i+n]:=by
  intro n
  induction n with
  | zero=>intro i _ h0;omega
  | succ n ih=>
   intro i hn _;have h2:=h (i+n) kB;by_cases e:n=0
   ·
    subst e;exact h2
   ·
    exact ht _ _ _ (ih i kB kB) h2
 rw [List.pairwise_iff_getElem];intro i j hi hj hij;have:=key (j-i) i kB kB;simpa [show i+(j-i)=j by omega] using this
end
end Go.Proofs.YtjblkbkmblkgoaaGreat
namespace Go.Kn
section
open Go
def Ke (u:Nat):List Nat:=if h:u<128 then [u] else (u % 128+128)::Ke (u / 128)
termination_by u
decreasing_by omega
def V0:Nat→List Nat→Option (Nat×List Nat)
 | _,[]=>none
 | i,c::r=>if (i==0||c != 0)&&(decide (i<9)||decide (c≤1)) then
   (if c<128 then some (c*128^i,r) else (V0 (i+1) r).map fun x=>(c % 128*128^i+x.1,x.2))
  else none
theorem VC {u:Nat}(h:u<128):Ke u=[u]:=by rw [Ke,dif_pos h]
theorem zak {u:Nat}(h:¬u<128):Ke u=(u % 128+128)::Ke (u / 128):=by rw [Ke,dif_neg h]
theorem zcd {u:Nat}:∀ c∈Ke u,c<256:=by
 induction u using Nat.strongRecOn with
 | _ u ih=>
  intro c hc;by_cases h:u<128
  ·
   rw [VC h] at hc;simp at hc;omega
  ·
   rw [zak h] at hc;rcases List.mem_cons.1 hc with e | hc
   ·
    omega
   ·
    exact ih (u / 128) kB c hc
theorem zau (i:Nat):128^(i+1)=128^i*128:=Nat.pow_succ ..
theorem zv4 {i:Nat}(h:i≤9):128^i≤128^9:=Nat.pow_le_pow_right kB h
theorem zbR {r:List Nat}:∀ {u i:Nat},(i=0∨u≠0)→i≤9→u*128^i<2^64→V0 i (Ke u++r)=some (u*128^i,r):=by
 intro u
 induction u using Nat.strongRecOn with
 | _ u ih=>
  intro i h0 hi hu;have h9:i=9→u≤1:=fun e=>(by subst e;simp at hu;omega);by_cases h:u<128
  ·
   rw [VC h];simp only [List.cons_append,List.nil_append,V0];rw [if_pos,if_pos h];simp only [Bool.and_eq_true,Bool.or_eq_true,beq_iff_eq,bne_iff_ne,decide_eq_true_eq];refine ⟨h0,?_⟩;by_cases e:i=9
   ·
    exact .inr (h9 e)
   ·
    exact .inl kB
  ·
   rw [zak h];simp only [List.cons_append,V0]
   have hi9:i<9:=by
    rcases Nat.lt_or_ge i 9 with e | e
    ·
     exact e
    ·
     have:=h9 kB;omega
   rw [if_pos,if_neg kB,ih (u / 128) kB (.inr kB) kB]
   ·
    have e2:u / 128*128^(i+1)=(u / 128*128)*128^i:=(by rw [zau,Nat.mul_comm (128^i),Nat.mul_assoc]);have e1:(u % 128+128) % 128=u % 128:=kB;simp only [Option.map_some,e1,e2,←Nat.add_mul];have:u % 128+u / 128*128=u:=kB;rw [this]
   ·
    have e2:u / 128*128^(i+1)=(u / 128*128)*128^i:=(by rw [zau,Nat.mul_comm (128^i),Nat.mul_assoc]);rw [e2];exact Nat.lt_of_le_of_lt (Nat.mul_le_mul_right _ kB) hu
   ·
    simp only [Bool.and_eq_true,Bool.or_eq_true,beq_iff_eq,bne_iff_ne,decide_eq_true_eq];exact ⟨.inr kB,.inl hi9⟩
theorem WN:∀ {l:List Nat} {i x:Nat} {r:List Nat},(∀ c∈l,c<256)→i≤9→V0 i l=some (x,r)→∃ u,x=u*128^i∧l=Ke u++r∧(i=0∨u≠0)∧x<2^64
 | [],i,x,r,_,_,h=>by simp [V0] at h
 | c::l,i,x,r,hb,hi,h=>by
  simp only [V0] at h;split at h
  ·
   rename_i hc;simp only [Bool.and_eq_true,Bool.or_eq_true,beq_iff_eq,bne_iff_ne,decide_eq_true_eq] at hc;have hp:=zv4 hi;split at h
   ·
    rename_i h1;simp only [Option.some.injEq,Prod.mk.injEq] at h;refine ⟨c,h.1.symm,by rw [VC h1,←h.2];rfl,hc.1,?_⟩;rw [←h.1];rcases Nat.lt_or_ge i 9 with e | e
    ·
     have h8:128^i≤128^8:=Nat.pow_le_pow_right kB kB;have:=Nat.mul_le_mul (Nat.le_of_lt h1) h8;simp at this;omega
    ·
     have e9:i=9:=kB;subst e9;have:c≤1:=kB;have:=Nat.mul_le_mul_right (128^9) this;simp at this ⊢;omega
   ·
    rename_i h1;have hi8:i<9:=kB
    cases e:V0 (i+1) l with
    | none=>rw [e] at h;cases h
    | some y=>
     obtain ⟨y,r'⟩:=y;rw [e] at h;simp only [Option.map_some,Option.some.injEq,Prod.mk.injEq] at h;obtain ⟨u,h3,h4,h5,h6⟩:=WN (fun d hd=>hb d (List.mem_cons_of_mem _ hd)) kB e;have hu0:u≠0:=by rcases h5 with e | e<;>omega
     have hc2:=hb c (List.mem_cons_self ..);have ec:c=c % 128+128:=kB
     have e3:c % 128*128^i+u*128^(i+1)=(c % 128+u*128)*128^i:=by
      rw [zau,Nat.add_mul,Nat.mul_assoc,Nat.mul_comm 128]
     refine ⟨c % 128+u*128,?_,?_,.inr kB,?_⟩
     ·
      rw [←h.1,h3,e3]
     ·
      rw [zak kB,show (c % 128+u*128) % 128+128=c by omega,show (c % 128+u*128) / 128=u by omega,h4,←h.2];rfl
     ·
      rw [←h.1]
      -- the low part fits below the high one
      have hlow:c % 128*128^i<128^(i+1):=by
       rw [zau,Nat.mul_comm (128^i)];exact Nat.mul_lt_mul_of_pos_right kB (Nat.pow_pos kB)
      -- 2^64 is a multiple of 128^(i+1) for i < 9: 2^64 = 2^(64 - 7 (i+1)) * 128^(i+1)
      have hk:2^64=2^(64-7*(i+1))*128^(i+1):=by
       rw [show (128:Nat)=2^7 from rfl,←Nat.pow_mul,←Nat.pow_add];congr 1;omega
      rw [h3] at h6 ⊢;rw [hk] at h6 ⊢;have hu:u<2^(64-7*(i+1)):=Nat.lt_of_mul_lt_mul_right h6;have:=Nat.mul_le_mul_right (128^(i+1)) (Nat.succ_le_of_lt hu);rw [Nat.succ_mul] at this;omega
  ·
   cases h
def zz (n:Int):Nat:=if 0≤n then 2*n.toNat else 2*(-(n+1)).toNat+1
def zc0 (u:Nat):Int:=if u % 2=1 then -((u / 2:Nat):Int)-1 else ((u / 2:Nat):Int)
theorem zuU (n:Int):zc0 (zz n)=n:=by unfold zc0 zz;split<;>split<;>omega
theorem zwi (u:Nat):zz (zc0 u)=u:=by unfold zc0 zz;split<;>split<;>omega
theorem zkW {n:Int}(h: -9223372036854775808≤n∧n≤9223372036854775807):zz n<2^64:=by unfold zz;split<;>omega
theorem zvn {u:Nat}(h:u<2^64): -9223372036854775808≤zc0 u∧zc0 u≤9223372036854775807:=by unfold zc0;split<;>omega
inductive Va where
 | int (n:Int)
 | text (s:List Nat)
 | list (l:List Va)
mutual
def Va.enc:Va→List Nat
 | .int n=>1::Ke (zz n)
 | .text s=>2::(Ke s.length++s)
 | .list l=>3::(Ke l.length++Va.encL l)
def Va.encL:List Va→List Nat
 | []=>[]
 | x::l=>Va.enc x++Va.encL l
end
mutual
def Va.depth:Va→Nat
 | .int _=>0
 | .text _=>0
 | .list l=>Va.depthL l+1
def Va.depthL:List Va→Nat
 | []=>0
 | x::l=>max (Va.depth x) (Va.depthL l)
end
mutual
def Va.ok:Va→Prop
 | .int n=> -9223372036854775808≤n∧n≤9223372036854775807
 | .text s=>(∀ c∈s,c<256)∧s.length<2^63
 | .list l=>l.length<2^63∧Va.okL l
def Va.okL:List Va→Prop
 | []=>True
 | x::l=>Va.ok x∧Va.okL l
end
def zac (f:List Nat→Option (Va×List Nat)):Nat→List Nat→Option (List Va×List Nat)
 | 0,b=>some ([],b)
 | n+1,b=>(f b).bind fun x=>(zac f n x.2).map fun y=>(x.1::y.1,y.2)
def zdw (sub:Option (List Nat→Option (Va×List Nat))):List Nat→Option (Va×List Nat)
 | []=>none
 | k::r=>
  if k=1 then (V0 0 r).map fun x=>(.int (zc0 x.1),x.2)
  else if k=2 then (V0 0 r).bind fun x=>if x.1≤x.2.length then some (.text (x.2.take x.1),x.2.drop x.1) else none
  else if k=3 then sub.bind fun f=>(V0 0 r).bind fun x=>if x.1≤x.2.length then (zac f x.1 x.2).map fun y=>(.list y.1,y.2) else none
  else none
def Kl:Nat→List Nat→Option (Va×List Nat)
 | 0=>zdw none
 | d+1=>zdw (some (Kl d))
def zuk:Nat→Option (List Nat→Option (Va×List Nat))
 | 0=>none
 | d+1=>some (Kl d)
theorem zcC (d:Nat):Kl d=zdw (zuk d):=by cases d<;>rfl
theorem Va.enc_pos (v:Va):1≤(Va.enc v).length:=by cases v<;>simp [Va.enc]<;>omega
theorem Va.encL_len:∀ (l:List Va),l.length≤(Va.encL l).length
 | []=>by simp [Va.encL]
 | x::l=>by have:=Va.enc_pos x;have:=Va.encL_len l;simp [Va.encL];omega
theorem Va.encL_append:∀ (l m:List Va),Va.encL (l++m)=Va.encL l++Va.encL m
 | [],m=>by simp [Va.encL]
 | x::l,m=>by simp [Va.encL,Va.encL_append l m]
mutual
theorem zec:∀ (v:Va) {d:Nat} {r:List Nat},Va.ok v→Va.depth v≤d→Kl d (Va.enc v++r)=some (v,r)
 | .int n,d,r,h,_=>by
  have:=zbR (r:=r) (u:=zz n) (i:=0) (.inl rfl) kB (by simpa using zkW h);simp [Va.enc,zcC,zdw,this,zuU]
 | .text s,d,r,h,_=>by
  have h2:=h.2;have:=zbR (r:=s++r) (u:=s.length) (i:=0) (.inl rfl) kB kV;simp only [Nat.pow_zero,Nat.mul_one] at this;simp [Va.enc,zcC,zdw,this]
 | .list l,0,r,_,hd=>by simp [Va.depth] at hd
 | .list l,d+1,r,h,hd=>by
  have h2:=h.1;have:=zbR (r:=Va.encL l++r) (u:=l.length) (i:=0) (.inl rfl) kB kV;simp only [Nat.pow_zero,Nat.mul_one] at this;have e:=zi5 l (d:=d) (r:=r) h.2 (by simp [Va.depth] at hd;exact hd);have hl:=Va.encL_len l;simp [Va.enc,Kl,zdw,this,e];omega
theorem zi5:∀ (l:List Va) {d:Nat} {r:List Nat},Va.okL l→Va.depthL l≤d→zac (Kl d) l.length (Va.encL l++r)=some (l,r)
 | [],d,r,_,_=>by simp [zac,Va.encL]
 | x::l,d,r,h,hd=>by
  simp only [Va.depthL] at hd;have e1:=zec x (d:=d) (r:=Va.encL l++r) h.1 kB;have e2:=zi5 l (d:=d) (r:=r) h.2 kB;simp [zac,Va.encL,e1,e2]
end
theorem zgl {f:List Nat→Option (Va×List Nat)}{d:Nat}(hf:∀ {b v r},(∀ c∈b,c<256)→b.length<2^63→f b=some (v,r)→b=Va.enc v++r∧Va.depth v≤d∧Va.ok v):
  ∀ {n:Nat} {b:List Nat} {l:List Va} {r:List Nat},(∀ c∈b,c<256)→b.length<2^63→zac f n b=some (l,r)→b=Va.encL l++r∧Va.depthL l≤d∧Va.okL l∧l.length=n
 | 0,b,l,r,_,_,h=>by
  simp only [zac,Option.some.injEq,Prod.mk.injEq] at h;rw [←h.1,←h.2];simp [Va.encL,Va.depthL,Va.okL]
 | n+1,b,l,r,hb,hl,h=>by
  simp only [zac] at h
  cases e:f b with
  | none=>rw [e] at h;cases h
  | some x=>
   obtain ⟨x,b'⟩:=x;rw [e] at h;simp only [Option.bind_some] at h;obtain ⟨h1,h2,h3⟩:=hf hb hl e
   cases e':zac f n b' with
   | none=>rw [e'] at h;cases h
   | some y=>
    obtain ⟨y,b2⟩:=y;rw [e'] at h;simp only [Option.map_some,Option.some.injEq,Prod.mk.injEq] at h;obtain ⟨h4,h5,h6,h7⟩:=zgl hf (fun c hc=>hb c (by rw [h1];exact List.mem_append_right _ hc)) (by rw [h1] at hl;simp at hl;omega) e';rw [←h.1,←h.2,h1,h4];simp only [Va.encL,Va.depthL,Va.okL,List.append_assoc,List.length_cons,h7];exact ⟨trivial,kB,⟨h3,h6⟩,trivial⟩
theorem ziU {d k:Nat}{b:List Nat}{v:Va}{r:List Nat}(hb:∀ c∈k::b,c<256)(hl:(k::b).length<2^63)(h:Kl d (k::b)=some (v,r))(hk:k≠3):k::b=Va.enc v++r∧Va.depth v≤d∧Va.ok v:=by
 rw [zcC] at h;unfold zdw at h;simp only at h;split at h
 ·
  rename_i h1;subst h1
  cases e:V0 0 b with
  | none=>rw [e] at h;cases h
  | some x=>
   obtain ⟨x,b'⟩:=x;rw [e] at h;simp only [Option.map_some,Option.some.injEq,Prod.mk.injEq] at h;obtain ⟨u,h1,h2,_,h4⟩:=WN (fun c hc=>hb c (List.mem_cons_of_mem _ hc)) kB e;simp only [Nat.pow_zero,Nat.mul_one] at h1;subst h1;rw [←h.1,←h.2,h2];simp only [Va.enc,Va.depth,Va.ok,zwi];exact ⟨by simp,kB,zvn h4⟩
 ·
  split at h
  ·
   rename_i h1;subst h1
   cases e:V0 0 b with
   | none=>rw [e] at h;cases h
   | some x=>
    obtain ⟨x,b'⟩:=x;rw [e] at h;simp only [Option.bind_some] at h;obtain ⟨u,h1,h2,_,h4⟩:=WN (fun c hc=>hb c (List.mem_cons_of_mem _ hc)) kB e;simp only [Nat.pow_zero,Nat.mul_one] at h1;subst h1;split at h
    ·
     rename_i hle;simp only [Option.some.injEq,Prod.mk.injEq] at h;have hl':b'.length<2^63:=(by rw [h2] at hl;simp at hl;omega);rw [←h.1,←h.2,h2];simp only [Va.enc,Va.depth,Va.ok,List.length_take,Nat.min_eq_left hle];exact ⟨by simp,kB,fun c hc=>hb c (List.mem_cons_of_mem _ (by rw [h2];exact List.mem_append_right _ (List.mem_of_mem_take hc))),kB⟩
    ·
     cases h
  ·
   cases h
theorem zbo {d:Nat}:∀ {b:List Nat} {v:Va} {r:List Nat},(∀ c∈b,c<256)→b.length<2^63→Kl d b=some (v,r)→b=Va.enc v++r∧Va.depth v≤d∧Va.ok v:=by
 induction d with
 | zero=>
  intro b v r hb hl h
  cases b with
  | nil=>simp [Kl,zdw] at h
  | cons k b=>exact ziU hb hl h (fun e=>by subst e;simp [Kl,zdw] at h)
 | succ d ih=>
  intro b v r hb hl h
  cases b with
  | nil=>simp [Kl,zdw] at h
  | cons k b=>
   by_cases hk:k=3
   ·
    subst hk;simp only [Kl,zdw,Nat.reduceEqDiff,if_false,if_true,Option.bind_some] at h
    cases e:V0 0 b with
    | none=>rw [e] at h;cases h
    | some x=>
     obtain ⟨x,b'⟩:=x;rw [e] at h;simp only [Option.bind_some] at h;obtain ⟨u,h1,h2,_,h4⟩:=WN (fun c hc=>hb c (List.mem_cons_of_mem _ hc)) kB e;simp only [Nat.pow_zero,Nat.mul_one] at h1;subst h1;split at h
     ·
      rename_i hle
      cases e':zac (Kl d) x b' with
      | none=>rw [e'] at h;cases h
      | some y=>
       obtain ⟨y,b2⟩:=y;rw [e'] at h;simp only [Option.map_some,Option.some.injEq,Prod.mk.injEq] at h;have hl':b'.length<2^63:=(by rw [h2] at hl;simp at hl;omega);obtain ⟨g1,g2,g3,g4⟩:=zgl (d:=d) ih (fun c hc=>hb c (List.mem_cons_of_mem _ (by rw [h2];exact List.mem_append_right _ hc))) hl' e';rw [←h.1,←h.2,h2,g1];simp only [Va.enc,Va.depth,Va.ok,g4];exact ⟨by simp,kB,kB,g3⟩
     ·
      cases h
   ·
    exact ziU hb hl h hk
end
section
open Go
abbrev pan (v:Value):List PanicEntry:=[{v,recovered:=false}]
def Ui (P:Program)(f:FuncId)(args:List Value)(I:Qu)(L:Loc)(Post:Value→Qu→Loc→Prop)(Bad:Value→Prop):Prop:=
 ∀ g H w,St g I H L w→Calls P f args.toArray w fun e w'=>(∃ v I' L',e= .returned v∧HLe I I'∧St g I' H L' w'∧Post v I' L')∨(∃ v,e= .panicked (pan v)∧Bad v∧St g I H [] w')
variable{P:Program}{f:FuncId}{args:List Value}{I:Qu}{Post:Value→Qu→Loc→Prop}{Bad:Value→Prop}
theorem YE.p {L:Loc}(h:YE P f args I L Post):Ui P f args I L Post Bad:=
 fun g H w hw=>(h g H w hw).mono fun _ _ x=>.inl x
theorem Ui.m {L:Loc}(h:Ui P f args I L Post Bad)(hb:∀ v,¬Bad v):YE P f args I L Post:=
 fun g H w hw=>(h g H w hw).mono fun _ _ x=>x.elim id fun ⟨v,_,hv,_⟩=>absurd hv (hb v)
theorem Ui.mono {L:Loc}{Post':Value→Qu→Loc→Prop}{Bad':Value→Prop}(h:Ui P f args I L Post Bad)(hp:∀ v I' L',HLe I I'→Post v I' L'→Post' v I' L')(hb:∀ v,Bad v→Bad' v):Ui P f args I L Post' Bad':=
 fun g H w hw=>(h g H w hw).mono fun _ _ x=>x.elim (fun ⟨v,I',L',he,hI,hs,p⟩=>.inl ⟨v,I',L',he,hI,hs,hp _ _ _ hI p⟩) fun ⟨v,he,hv,hs⟩=>.inr ⟨v,he,hb v hv,hs⟩
section
variable {C:Cx} {Q:Exit→Act→World→Prop} {E E':Env} {I I':Qu} {loc loc' L R:Loc} {ops:Array Oper} {rest:List Oper} {S:GS}
variable {dst:Option Tmp} {d:Nat} {ty:TypeId} {pos:String} {af:Array Edge} {gd:Option (Nat×Bool)} {x y z:Operand}
theorem UD {K:Act→World→Prop}{c:List PanicEntry}(h:At C Q (.panic c) E I loc):At C (Exit.then K Q) (.panic c) E I loc:=h
theorem KD {id:Nat}{c:List PanicEntry}(h:At C Q (.panic c) E I loc):At C (Exit.inBlock id Q) (.panic c) E I loc:=h
theorem Ui.frame {P:Program}{f:FuncId}{args:List Value}{Post:Value→Qu→Loc→Prop}{Bad:Value→Prop}{g w:World}{H:Qu}(hc:Ui P f args I L Post Bad)(hs:YZ loc L R)(hw:St g I H loc w):
  Calls P f args.toArray w fun e w'=>(∃ v I' L',e= .returned v∧HLe I I'∧St g I' H (L'++R) w'∧Post v I' L')∨(∃ v,e= .panicked (pan v)∧Bad v∧St g I H R w'):=
 (hc g (Kh H R) w (hw.split hs)).mono fun _ _ x=>x.elim (fun ⟨v,I',L',he,hI,h',p⟩=>.inl ⟨v,I',L',he,hI,hw.join hs h',p⟩)
  fun ⟨v,he,hv,h'⟩=>.inr ⟨v,he,hv,by simpa using hw.join hs h'⟩
theorem zbp {f:FuncId}{cap:List Value}{l:List Operand}{vs:List Value}{tys:Array TypeId}{cal:Operand}{K:Value→Qu→Loc→Prop}{B:Value→Prop}
  (he:QH [] E cal=some (.func (.func f) #[] cap.toArray))(hl:l.map (QH [] E)=vs.map some)(hF:Fun C.P f)(hsp:YZ loc L R)(hc:Ui C.P f (vs++cap) I L K B)
  (hG:gd=none)(hN:Nat.blt d C.N=true)(h:∀ v I' L',HLe I I'→K v I' L'→XO C Q ops rest [] ((d,v)::E) I' (L'++R))(hp:∀ v,B v→At C Q (.panic (pan v)) E I R):
  XO C Q ops (⟨some d,.call ⟨.value cal,l.toArray,tys⟩,ty,pos,af,gd⟩::rest) [] E I loc:=by
 subst hG;intro a w ha hg hw;simp only [wpListIn,Region.wanted,if_true,Oper.wpIn];refine ⟨fun _ _=>trivial,?_⟩;rw [Oper.semAt_eq _ _ _ kE,zba (Qj (S:=[]) ha trivial rfl he) (Jf (S:=[]) ha trivial rfl hl) hF,Oper.uponIn_enter];refine ⟨by simp [FR],Xo.2 ((hc.frame hsp hw).mono ?_)⟩;rintro e w' (⟨v,I',L',rfl,hI,hs,hk⟩ | ⟨v,rfl,hv,hs⟩)
 ·
  exact h v I' L' hI hk _ _ (ha.put hN v) trivial hs
 ·
  exact hp v hv _ _ ha hs
theorem zx5 {f:FuncId}{l:List Operand}(vs:List Value){tys:Array TypeId}{cal:Operand}{K:Value→Qu→Loc→Prop}{B:Value→Prop}(hl:l.map (QH [] E)=vs.map some)(hF:Fun C.P f)(hsp:YZ loc L R)(hc:Ui C.P f (vs++[]) I L K B)(h:∀ v I' L',HLe I I'→K v I' L'→XO C Q ops rest [] ((d,v)::E) I' (L'++R))(hp:∀ v,B v→At C Q (.panic (pan v)) E I R)
  (he:QH [] E cal=some (.func (.func f) #[] [].toArray):=by exact rfl)(hN:Nat.blt d C.N=true:=by exact rfl):XO C Q ops (⟨some d,.call ⟨.value cal,l.toArray,tys⟩,ty,pos,af,none⟩::rest) [] E I loc:=zbp (cap:=[]) he hl hF hsp hc rfl hN h hp
theorem zx6 {A B:Prop}(h:A)(k:A→B:=by (intro h;(repeat (first | with_reducible refine UD ?_ | with_reducible refine KD ?_ | refine zAO ?_));exact zct hIc h)):B:=k h
theorem zpJ {o:Oper}{v:Value}(hG:o.guard=none)(hdf:∀ c,o.op≠ .defer c)(hv:∀ a w,Uh C.N C.D E a→St C.g I C.H loc w→(execOp a.eval o).run C.P w= .halt (.panic v) w)(h:At C Q (.panic (pan v)) E I loc):XO C Q ops (o::rest) [] E I loc:=
 Ym hG hdf fun a w ha hw=>by rw [hv a w ha hw];exact h a w ha hw
end
section
variable {P:Program} {fn:Func} {R:Ending→World→Prop} {N:Nat} {g:World} {I H:Qu} {loc:Loc} {E:Env} {r:Option Nat}
theorem zq1 {c:List PanicEntry}(h:∀ w,St g I H loc w→R (.panicked c) w):At ⟨P,r,N,[],g,H⟩ (bodyPost P fn R) (.panic c) E I loc:=fun _ _ ha hw=>⟨ha.defers,h _ hw⟩
theorem zct {v:Value}{I0:Qu}{Post:Value→Qu→Loc→Prop}{Bad:Value→Prop}(hI:HLe I0 I)(hb:Bad v):
  At ⟨P,r,N,[],g,H⟩ (bodyPost P fn fun e w'=>(∃ v I' L',e= .returned v∧HLe I0 I'∧St g I' H L' w'∧Post v I' L')∨(∃ v,e= .panicked (pan v)∧Bad v∧St g I0 H [] w')) (.panic (pan v)) E I loc:=
 zq1 fun _ hw=>.inr ⟨v,rfl,hb,(hw.mono hI).drop⟩
end
/-! Drawn regions with calls that may panic. -/
section
variable {C:Cx} {Q:Exit→Act→World→Prop} {E:Env} {I I0:Qu} {loc loc0:Loc} {ops:Array Oper}
theorem UX {P:Program}{fn:Func}{R:Ending→World→Prop}:Yo (bodyPost P fn R):=fun _ _ _ _ _ h=>h
theorem UV {K:Act→World→Prop}(h:Yo Q):Yo (Exit.then K Q):=fun c a d v w q=>h c a d v w q
theorem Kv {id:Nat}(h:Yo Q):Yo (Exit.inBlock id Q):=fun c a d v w q=>h c a d v w q
theorem zAO {i fuel:Nat}{listed:Array Bool}{c:List PanicEntry}(h:At C Q (.panic c) E I loc):
  At C (fun e a w=>match e with | .normal=>St C.g I C.H loc0 w∧Vj C.r C.P .any ops Q (fun w=>St C.g I C.H loc0 w) fuel (listed.setIfInBounds i true) a w | e=>Q e a w) (.panic c) E I loc:=h
end
def zo1 (P:Program)(f:FuncId)(args:List Value)(I:Qu)(L:Loc)(u:FrameMode)(Post:FrameMode→Qu→Loc→Prop):Prop:=
 ∀ g H w,St g I H L w→CallsDIn (FR none) 0 P f args.toArray u w fun e u' w'=>∃ v I' L',e= .returned v∧HLe I I'∧St g I' H L' w'∧Post u' I' L'
variable{F:Fence}{n:Nat}{u:FrameMode}{w:World}
theorem zyP {args:Array Value}{R R':Ending→FrameMode→World→Prop}(h:CallsDIn F n P f args u w R)(hr:∀ e u w,R e u w→R' e u w):CallsDIn F n P f args u w R':=
 ⟨h.1,fun c cs hu hro=>let ⟨e,u',w',fr,q,r⟩:=h.2 c cs hu hro;⟨e,u',w',fr,hr _ _ _ q,r⟩⟩
def dfn (f:FuncId)(args cap:List Value):Deferred:={target:=.fn (.func f) cap.toArray,args:=args.toArray}
section
variable {P:Program} {N:Nat} {D:List Deferred} {g:World} {H:Qu} {Q:Exit→Act→World→Prop} {E:Env} {I I':Qu} {loc L Ro:Loc} {ops:Array Oper} {rest:List Oper} {ty:TypeId} {pos:String} {af:Array Edge}
theorem zhZ {f:FuncId}{cap:List Value}{l:List Operand}{vs:List Value}{tys:Array TypeId}{cal:Operand}(he:QH [] E cal=some (.func (.func f) #[] cap.toArray))(hl:l.map (QH [] E)=vs.map some)
  (h:XO ⟨P,none,N,dfn f vs cap::D,g,H⟩ Q ops rest [] E I loc):XO ⟨P,none,N,D,g,H⟩ Q ops (⟨none,.defer ⟨.value cal,l.toArray,tys⟩,ty,pos,af,none⟩::rest) [] E I loc:=by
 intro a w ha hg hw;simp only [wpListIn,Region.wanted,if_true,Oper.wpIn];refine ⟨fun _ _=>trivial,?_⟩;rw [show (FR none).round=none from rfl,Oper.semAt_none]
 have e1:(execOp a.eval ⟨none,.defer ⟨.value cal,l.toArray,tys⟩,ty,pos,af,none⟩).run P w= .ok (.defer (dfn f vs cap)) w:=by
  simp only [execOp,resolve,Qj (S:=[]) ha trivial rfl he,List.map_toArray,Jf (S:=[]) ha trivial rfl hl,Deferred.ofValue,Sem.run_bind,Sem.run_pure,Result.andThen,dfn];simp
 rw [e1,Oper.uponIn_defer];exact h _ _ ⟨ha.size,by show dfn f vs cap::a.defers=_;rw [ha.defers],ha.env⟩ trivial hw
theorem zlP {f:FuncId}{fn:Func}{c:Code}{args:List Value}{R:Ending→World→Prop}{w:World}(hf:P.funcs[f]? =some fn)(hb:fn.body=some c){N:Nat}(hN:fn.ntmps=N)
  (hlen:Nat.ble args.length N=true)(hw:St g I H loc w)(h:X ⟨P,none,N,[],g,H⟩ (bodyPostDIn (FR none) 0 P fn R) c (zo7 0 args) I loc):Calls P f args.toArray w R:=by
 refine Xo.1 (callsIn_of_wp_defers (F:=FR none) (n:=0) hf hb trivial ?_);rw [hN];exact h _ w (X9 args N (Nat.le_of_ble_eq_true hlen)) hw
theorem zo1.frame {f:FuncId}{args:List Value}{u:FrameMode}{Post:FrameMode→Qu→Loc→Prop}{w:World}(hc:zo1 P f args I L u Post)(hs:YZ loc L Ro)(hw:St g I H loc w):
  CallsDIn (FR none) 0 P f args.toArray u w fun e u' w'=>∃ v I' L',e= .returned v∧HLe I I'∧St g I' H (L'++Ro) w'∧Post u' I' L':=
 zyP (hc g (Kh H Ro) w (hw.split hs)) fun _ _ _ ⟨v,I',L',he,hI,h',p⟩=>⟨v,I',L',he,hI,hw.join hs h',p⟩
theorem zde {fn:Func}{R:Ending→World→Prop}{tmps:Array Value}{f:FuncId}{args cap:List Value}{u:FrameMode}{K:Qu→Loc→Prop}{w:World}(hF:Fun P f)(hsp:YZ loc L Ro)(hu:u≠ .run)
  (hc:zo1 P f (args++cap) I L u (fun u' I' L'=>settle u'= .returning∧K I' L'))(hw:St g I H loc w)(h:∀ I' L' w',HLe I I'→K I' L'→St g I' H (L'++Ro) w'→∃ v,(results fn tmps).run P w'= .ok v w'∧R (.returned v) w'):
  LeavesIn (FR none) 0 P fn tmps R [dfn f args cap] u w:=by
 refine ⟨hu,by simp [FR],_,_,f,(args++cap).toArray,rfl,?_,fun _ _=>trivial,zyP (hc.frame hsp hw) ?_⟩
 ·
  simp only [dfn,invoke];rw [JT hF];simp
 ·
  rintro e u' w' ⟨v,I',L',rfl,hI,hs,hse,hk⟩;show LeavesIn _ _ _ _ _ _ [] (settle u') w';rw [hse];exact h I' L' w' hI hk hs
theorem zoH {fn:Func}{R:Ending→World→Prop}{f:FuncId}{args cap:List Value}{K:Qu→Loc→Prop}(hF:Fun P f)(hsp:YZ loc L Ro)
  (hc:zo1 P f (args++cap) I L .returning (fun u' I' L'=>settle u'= .returning∧K I' L'))(h:∀ a I' L' w',Uh N [dfn f args cap] E a→HLe I I'→K I' L'→St g I' H (L'++Ro) w'→∃ v,(results fn a.tmps).run P w'= .ok v w'∧R (.returned v) w'):
  At ⟨P,none,N,[dfn f args cap],g,H⟩ (bodyPostDIn (FR none) 0 P fn R) .ret E I loc:=fun a w ha hw=>by
 show LeavesIn _ _ _ _ _ _ a.defers .returning w;rw [ha.defers];exact zde hF hsp kJ hc hw fun I' L' w' hI hk hs=>h a I' L' w' ha hI hk hs
theorem zht {fn:Func}{R:Ending→World→Prop}{f:FuncId}{args cap:List Value}{K:Qu→Loc→Prop}{pv:Value}(hF:Fun P f)(hsp:YZ loc L Ro)
  (hc:zo1 P f (args++cap) I L (.panicking (pan pv)) (fun u' I' L'=>settle u'= .returning∧K I' L'))(h:∀ a I' L' w',Uh N [dfn f args cap] E a→HLe I I'→K I' L'→St g I' H (L'++Ro) w'→∃ v,(results fn a.tmps).run P w'= .ok v w'∧R (.returned v) w'):
  At ⟨P,none,N,[dfn f args cap],g,H⟩ (bodyPostDIn (FR none) 0 P fn R) (.panic (pan pv)) E I loc:=fun a w ha hw=>by
 show LeavesIn _ _ _ _ _ _ a.defers (.panicking (pan pv)) w;rw [ha.defers];exact zde hF hsp kJ hc hw fun I' L' w' hI hk hs=>h a I' L' w' ha hI hk hs
end
def zkk:FrameMode→Value×FrameMode
 | .panicking ({v,recovered:=false,goexit:=false}::older)=>(v,.panicking ({v,recovered:=true}::older))
 | u=>(.nilIface,u)
variable{c₀:Frame}{cs:List Frame}
theorem zep (hu:c₀.mode=u):match recoverD (c₀::cs) with
  | some (v,cs')=>v=(zkk u).1∧cs'= {c₀ with mode:=(zkk u).2}::cs
  | none=>(zkk u).1= .nilIface∧(zkk u).2=u:=by
 subst hu;unfold recoverD;split
 ·
  rename_i h;simp only at h;split at h
  ·
   rename_i heq;simp only [Option.some.injEq,Prod.mk.injEq] at h;rw [←h.1,←h.2];simp only [zkk,heq];exact ⟨trivial,trivial⟩
  ·
   cases h
 ·
  rename_i h;simp only at h;split at h
  ·
   cases h
  ·
   rename_i hno
   cases hm:c₀.mode with
   | run=>exact ⟨rfl,rfl⟩
   | returning=>exact ⟨rfl,rfl⟩
   | panicking ch=>
    cases ch with
    | nil=>exact ⟨rfl,rfl⟩
    | cons p older=>
     obtain ⟨v,r,gx⟩:=p;cases r<;>cases gx<;>first | exact ⟨rfl,rfl⟩ | exact absurd hm (hno _ _)
section
variable {P:Program} {I:Qu} {L:Loc}
theorem zf0 {n:Nat}{ops:Array Oper}{Q1:Exit→Act→World→Prop}{Q:Exit→Act→List Frame→World→Prop}{cs:List Frame}(hQ:∀ a w,Q1 .normal a w→Q .normal a cs w):∀ (is:List Nat) (l:List Oper) {a:Act} {w:World},is.map (fun i=>ops[i]?)=l.map some→(∀ o∈l,o.guard=none∧(∀ c,o.op≠ .defer c))→
  (∀ o∈l,∀ (a:Act) (w:World),(∃ v,(execOp a.eval o).run P w= .ok (.value v) w))→wpListIn (FR none) n P ops Q1 l a w→wpOpsSIn (FR none) n P ops Q is a cs w
 | [],[],a,w,_,_,_,h=>hQ _ _ h
 | [],_::_,_,_,e,_,_,_=>by simp at e
 | _::_,[],_,_,e,_,_,_=>by simp at e
 | i::is,o::l,a,w,e,hg,hv,h=>by
  simp only [List.map_cons,List.cons.injEq] at e;obtain ⟨g1,g2⟩:=hg o (List.mem_cons_self ..);obtain ⟨v,hx⟩:=hv o (List.mem_cons_self ..) a w;simp only [wpListIn,Region.wanted,g1,if_true,Oper.wpIn] at h;rw [Oper.semAt_eq _ _ _ g2,hx,Oper.uponIn_value] at h;simp only [wpOpsSIn,e.1,Region.wanted,g1,if_true,hx];exact ⟨h.1,zf0 hQ is l e.2 (fun o ho=>hg o (List.mem_cons_of_mem _ ho)) (fun o ho=>hv o (List.mem_cons_of_mem _ ho)) h.2⟩
theorem zl4 (o:Oper)(l:List Oper):((List.range l.length).map (· +1)).map (fun i=>(o::l).toArray[i]?)=l.map some:=by
 apply List.ext_getElem?;intro i;simp only [List.getElem?_map,List.getElem?_toArray];by_cases hi:i<l.length
 ·
  simp [hi]
 ·
  simp [hi]
theorem XJ {f:FuncId}{fn:Func}{args:List Value}{u:FrameMode}{Post:FrameMode→Qu→Loc→Prop}{id d:Nat}{ty:TypeId}{pos:String}{af:Array Edge}{tys:Array TypeId}{l:List Oper}{y:Code}{N:Nat}
  (hf:P.funcs[f]? =some fn)(hb:fn.body=some (.seq (.region id (⟨some d,.call ⟨.builtin .recover, #[],tys⟩,ty,pos,af,none⟩::l).toArray false) y))(hN:fn.ntmps=N)(hlen:Nat.ble args.length N=true)(hd:Nat.blt d N=true)
  (hpl:(∀ o∈l,o.guard=none∧(∀ c,o.op≠ .defer c))∧∀ o∈l,∀ (a:Act) (w:World),(∃ v,(execOp a.eval o).run P w= .ok (.value v) w))
  (h:∀ g H,XO ⟨P,none,N,[],g,H⟩ (Exit.then (y.wpIn (FR none) 0 P (bodyPost P fn fun e w'=>∃ v I' L',e= .returned v∧HLe I I'∧St g I' H L' w'∧Post (zkk u).2 I' L')) (bodyPost P fn fun e w'=>∃ v I' L',e= .returned v∧HLe I I'∧St g I' H L' w'∧Post (zkk u).2 I' L')) ((⟨some d,.call ⟨.builtin .recover, #[],tys⟩,ty,pos,af,none⟩::l).toArray) l [] ((d,(zkk u).1)::zo7 0 args) I L):
  zo1 P f args I L u Post:=by
 intro g H w hw;refine callsDIn_of_wpSIn (F:=FR none) (n:=0) hf hb trivial fun c₀ cs hu=>wpSIn_seq (wpSIn_region ?_)
 have conv:∀ e a w,bodyPost P fn (fun e w'=>∃ v I' L',e= .returned v∧HLe I I'∧St g I' H L' w'∧Post (zkk u).2 I' L') e a w→bodyPostS P fn c₀ cs (fun e u' w'=>∃ v I' L',e= .returned v∧HLe I I'∧St g I' H L' w'∧Post u' I' L') e a ({c₀ with mode:=(zkk u).2}::cs) w:=by
  intro e a w hq
  cases e with
  | normal=>obtain ⟨h1,v,h2,h3⟩:=hq;exact ⟨h1,_,rfl,v,h2,h3⟩
  | ret=>obtain ⟨h1,v,h2,h3⟩:=hq;exact ⟨h1,_,rfl,v,h2,h3⟩
  | panic ch=>obtain ⟨h1,v,I',L',h2,_⟩:=hq;cases h2
  | outgrown=>obtain ⟨v,I',L',h2,_⟩:=hq;cases h2
  | exit id=>exact hq.elim
  | goto l=>exact hq.elim
 rw [show List.range (⟨some d,.call ⟨.builtin .recover, #[],tys⟩,ty,pos,af,none⟩::l).toArray.size=0::(List.range l.length).map (· +1) by simp [List.range_succ_eq_map]];have hfit:=X9 args N (Nat.le_of_ble_eq_true hlen);rw [hN];simp only [wpOpsSIn,List.getElem?_toArray,List.getElem?_cons_zero,Region.wanted,if_true];refine ⟨fun _ _=>trivial,?_⟩
 have hrun:∀ a:Act,(execOp a.eval ⟨some d,.call ⟨.builtin .recover, #[],tys⟩,ty,pos,af,none⟩).run P w= .ok .recover w:=by
  intro a;simp only [execOp,resolve,Sem.run_bind,Sem.run_pure,Result.andThen,invoke,builtin]
 rw [hrun]
 have hrest:=zf0 (cs:={c₀ with mode:=(zkk u).2}::cs) (Q:=Exit.thenS (y.wpSIn (FR none) 0 P (bodyPostS P fn c₀ cs (fun e u' w'=>∃ v I' L',e= .returned v∧HLe I I'∧St g I' H L' w'∧Post u' I' L'))) (bodyPostS P fn c₀ cs (fun e u' w'=>∃ v I' L',e= .returned v∧HLe I I'∧St g I' H L' w'∧Post u' I' L')))
  (fun a w hq=>wpSIn_of_wpIn rfl (wpIn_mono hq conv)) _ l (zl4 _ l) hpl.1 hpl.2 (h g H _ w (hfit.put hd (zkk u).1) trivial hw)
 have hm:=zep (cs:=cs) hu
 revert hm
 cases hr:recoverD (c₀::cs) with
 | some x=>
  obtain ⟨v,cs'⟩:=x;rintro ⟨rfl,rfl⟩;exact hrest
 | none=>
  rintro ⟨e1,e2⟩;have hc:({c₀ with mode:=u}:Frame)=c₀:=(by subst hu;rfl);rw [e1,e2,hc] at hrest;exact hrest
end
end
section
open Go Go.Sort
section
variable {g:World} {I I' H:Qu} {loc loc' L R:Loc} {w w':World}
theorem St.grown (h:St g I H loc w)(os:Array Obj):St g I H loc (grow w os):=by
 have key:∀ (b:Nat) (o:Obj),w.heap[b]? =some o→(grow w os).heap[b]? =some o:=fun b o e=>by
  have hb:b<w.heap.size:=(Array.getElem?_eq_some_iff.1 e).1;simp only [grow];rw [Array.getElem?_append_left hb];exact e
 exact ⟨h.os,h.tape,h.out,⟨Nat.le_trans h.size.1 (by simp [grow]),h.size.2⟩,fun b o e=>key b o (h.imm b o e),fun b o e=>key b o (h.frm b o e),fun b o e=>key b o (h.own b o e),h.sepIH,h.sepIL,h.nodup⟩
theorem St.aheadN (h:St g I H loc w)(n:Nat):St g I H loc (Go.Sort.ahead w n):=⟨h.os,h.tape,h.out,⟨h.size.1,Nat.le_trans h.size.2 (by simp [Go.Sort.ahead])⟩,h.imm,h.frm,h.own,h.sepIH,h.sepIL,h.nodup⟩
theorem St.rowPut {α:Type}[Inhabited α]{enc:α→Value}{b:Nat}{cs:Array Value}{e:TypeId}{fz:Nat×Nat}(h:St g I H loc w)(d:Array α)(hu:Upd loc b (.cells cs e fz) (.cells (putCells enc 0 d cs) e fz) loc'):St g I H loc' (putRow enc w b 0 d):=by
 have hb:=h.own _ _ hu.mem;refine h.turn hu rfl rfl rfl kJ ?_ ?_
 ·
  simp only [putRow,mapBlock,Array.getElem?_modify,hb,Option.map_some];rfl
 ·
  intro c hc;simp only [putRow,mapBlock,Array.getElem?_modify,if_neg (Ne.symm hc)]
theorem ziR {α:Type}[Inhabited α]{enc:α→Value}{cs:Array Value}{n:Nat}(xs:List α)(hl:xs.length=n)(hc:n≤cs.size):(putCells enc 0 xs.toArray cs).toList.take n=xs.map enc:=by
 apply List.ext_getElem?;intro i;by_cases hi:i<n
 ·
  rw [List.getElem?_take_of_lt hi,List.getElem?_map];have h1:i<cs.size:=kB;have h2:i<xs.length:=kB
  have h3:(putCells enc 0 xs.toArray cs)[i]? =some (enc xs[i]):=by
   simp only [putCells,Array.getElem?_mapIdx,Array.getElem?_eq_getElem h1,Option.map_some];have:(0≤i∧i<0+xs.toArray.size):=by simp;omega
   rw [if_pos this];congr 2;simp [h2]
  rw [Array.getElem?_toList,h3,List.getElem?_eq_getElem h2];rfl
 ·
  rw [List.getElem?_eq_none kQ,List.getElem?_eq_none (by rw [List.length_map];omega)]
theorem zfL {α:Type}[Inhabited α]{enc:α→Value}{b:Nat}{cs:Array Value}{e:TypeId}(h:St g I H loc w)(hm:(b,Obj.cells cs e (0,0))∈loc)(xs:List α)(hl:cs.toList.take xs.length=xs.map enc):Holds enc w b 0 xs.toArray:=by
 have hb:=h.own _ _ hm;intro j hj;have hj':j<xs.length:=(by simpa using hj);refine ⟨?_,?_⟩
 ·
  simp only [World.cell?,hb,Option.isSome_none,Bool.false_eq_true,if_false];have:(cs.toList.take xs.length)[j]? =some (enc xs[j]):=by rw [hl,List.getElem?_map,List.getElem?_eq_getElem hj'];rfl
  rw [List.getElem?_take_of_lt hj',Array.getElem?_toList] at this;rw [show 0+j=j from by omega,this];congr 2;simp [hj']
 ·
  simp only [World.frozen?,hb];simp
theorem zv6 {P:Program}{f:FuncId}{e:TypeId}
  (hs:∀ (blk off cap:Nat) (zs:List Int) (w:World),Holds (Value.int .i64) w blk off zs.toArray→blk<w.heap.size→zs.length<4611686018427387904→Calls P f #[.slice (some ⟨blk,off,none⟩) zs.length cap] w fun e w'=>e= .returned (.tuple #[])∧∃ n os,w'=grow (putRow (Value.int .i64) (Go.Sort.ahead w n) blk off (zs.mergeSort fun x y=>decide (x≤y)).toArray) os)
  (h0:∀ (p:Option Addr) (cap:Nat) (w:World),Calls P f #[.slice p 0 cap] w fun e w'=>e= .returned (.tuple #[])∧w'=w)
  (zs:List Int){v:Value}{n:Nat}{L:Loc}(hO:ZU e 1 v n (zs.map (Value.int .i64)) L)(hn:n≤1000000)(I:Qu):
  YE P f [v] I L (fun u I' L'=>u= .tuple #[]∧I'=I∧ZU e 1 v n ((zs.mergeSort fun x y=>decide (x≤y)).map (Value.int .i64)) L'):=by
 intro g H w hw;have hl:zs.length=n:=(by have:=hO.1;simpa using this);subst hl;rcases hO.2 with ⟨rfl,h00,rfl⟩ | ⟨b,c,cur,rfl,rfl,hc,hc2,hsz,htk⟩
 ·
  have:zs=[]:=List.length_eq_zero_iff.1 h00;subst this;refine (h0 none 0 w).mono ?_;rintro e w' ⟨rfl,rfl⟩;refine ⟨_,I,[],rfl,zB6 _,hw,rfl,rfl,by simp,.inl ⟨rfl,rfl,rfl⟩⟩
 ·
  rw [Nat.mul_one] at hsz htk;have hb:=hw.own b _ (List.mem_singleton.2 rfl);refine (hs b 0 c zs w (zfL hw (List.mem_singleton.2 rfl) zs htk) (Array.getElem?_eq_some_iff.1 hb).1 kB).mono ?_;rintro e w' ⟨rfl,k,os,rfl⟩;refine ⟨_,I,_,rfl,zB6 _,(((hw.aheadN k).rowPut _ .here).grown os),rfl,rfl,by simp [List.length_mergeSort],.inr ⟨b,c,_,rfl,rfl,hc,hc2,by simp [putCells,hsz],?_⟩⟩;rw [Nat.mul_one];exact ziR _ (by simp [List.length_mergeSort]) kB
end
end
end Go.Kn
section
namespace Go.Kn
open Go
section
variable {C:Cx} {E:Env} {I:Qu} {loc:Loc} {S:GS} {dst:Option Tmp} {ty:TypeId} {pos:String} {af:Array Edge} {gd:Option (Nat×Bool)} {x y:Operand}
variable {α:Type} [DecidableEq α] {ek:α→Value} {a:α}
def ztT (t:Value×Nat×List Value):Value:=t.1
theorem zae {m:List (α×(Value×Nat×List Value))}{t k e r:Nat}(hT:MpT C.P t k e (.slice none 0 0))(hK:KP C.P k ek)(hx:QH S E x=some (.map (some r)))(hy:QH S E y=some (ek a))(hm:Yq S=true→Mem I loc r (YH ek ztT m)):
  QZ C S E I loc ⟨dst,.lookup t x y false,ty,pos,af,gd⟩ (((ZQ m a).getD zfH).1):=by
 have:=Xx (C:=C) (S:=S) (dst:=dst) (ty:=ty) (pos:=pos) (af:=af) (gd:=gd) hT hK hx hy hm
 cases h:ZQ m a with
 | none=>rw [h] at this;exact this
 | some b=>rw [h] at this;exact this
theorem zg8 {m:List (α×(Value×Nat×List Value))}{v:Value}(hv:((ZQ m a).getD zfH).1=v){t k e r:Nat}(hT:MpT C.P t k e (.slice none 0 0))(hK:KP C.P k ek)(hx:QH S E x=some (.map (some r)))(hy:QH S E y=some (ek a))(hm:Yq S=true→Mem I loc r (YH ek ztT m)):
  QZ C S E I loc ⟨dst,.lookup t x y false,ty,pos,af,gd⟩ v:=by
 rw [←hv];exact zae hT hK hx hy hm
theorem zaM {m:List (α×Int)}{t k e r:Nat}{ik:IntKind}(hT:MpT C.P t k e (.int ik 0))(hK:KP C.P k ek)(hx:QH S E x=some (.map (some r)))(hy:QH S E y=some (ek a))(hm:Yq S=true→Mem I loc r (YH ek (Value.int ik) m)):
  QZ C S E I loc ⟨dst,.lookup t x y true,ty,pos,af,gd⟩ (.tuple #[.int ik ((ZQ m a).getD 0),.bool (ZQ m a).isSome]):=by
 have:=Z7 (C:=C) (S:=S) (dst:=dst) (ty:=ty) (pos:=pos) (af:=af) (gd:=gd) hT hK hx hy hm
 cases h:ZQ m a with
 | none=>rw [h] at this;exact this
 | some b=>rw [h] at this;exact this
end
end Go.Kn
namespace Go.Kn
open Go
section
variable {C:Cx} {E:Env} {I:Qu} {loc:Loc} {S:GS} {dst:Option Tmp} {ty:TypeId} {pos:String} {af:Array Edge} {gd:Option (Nat×Bool)} {x y:Operand}
variable {α:Type} [DecidableEq α] {ek:α→Value} {a:α}
end
end Go.Kn
end
namespace Go.Kn
section
open Go
def zvM (k:IntKind)(a b:Int):Int:=k.wrap ((BitVec.ofInt k.bits a&&& BitVec.ofInt k.bits b).toNat:Int)
def orK (k:IntKind)(a b:Int):Int:=k.wrap ((BitVec.ofInt k.bits a||| BitVec.ofInt k.bits b).toNat:Int)
def ztq (k:IntKind)(a b:Int):Int:=k.wrap ((BitVec.ofInt k.bits a^^^BitVec.ofInt k.bits b).toNat:Int)
def VY (n:Nat):List Value:=[.int .u8 n]
def UY (l:List Nat):ByteArray:=⟨(l.map UInt8.ofNat).toArray⟩
def Ur (s:ByteArray):List Nat:=s.data.toList.map UInt8.toNat
section
variable {C:Cx} {Q:Exit→Act→World→Prop} {E E':Env} {I I':Qu} {loc loc' L R:Loc} {ops:Array Oper} {rest:List Oper} {S:GS}
variable {dst:Option Tmp} {d:Nat} {ty:TypeId} {pos:String} {af:Array Edge} {gd:Option (Nat×Bool)} {x y z:Operand} {a b:Int}
theorem znH {t t':TypeId}{k:IntKind}(hx:QH S E x=some (.int k a))(hy:QH S E y=some (.int k b)):QZ C S E I loc ⟨dst,.binOp .and t x y t',ty,pos,af,gd⟩ (.int k (zvM k a b)):=
 .of kE fun ac w ha hg hc _=>by
  simp only [execOp,Qj ha hg hc hx,Qj ha hg hc hy,Sem.run_bind,Yj,Result.andThen,binOp,ne_eq,not_true_eq_false,if_false,Op.intBits,Sem.run_pure,zvM]
theorem zr2 {t t':TypeId}{k:IntKind}(hx:QH S E x=some (.int k a))(hy:QH S E y=some (.int k b)):QZ C S E I loc ⟨dst,.binOp .or t x y t',ty,pos,af,gd⟩ (.int k (orK k a b)):=
 .of kE fun ac w ha hg hc _=>by
  simp only [execOp,Qj ha hg hc hx,Qj ha hg hc hy,Sem.run_bind,Yj,Result.andThen,binOp,ne_eq,not_true_eq_false,if_false,Op.intBits,Sem.run_pure,orK]
theorem zls {t t':TypeId}{k:IntKind}(hx:QH S E x=some (.int k a))(hy:QH S E y=some (.int k b)):QZ C S E I loc ⟨dst,.binOp .xor t x y t',ty,pos,af,gd⟩ (.int k (ztq k a b)):=
 .of kE fun ac w ha hg hc _=>by
  simp only [execOp,Qj ha hg hc hx,Qj ha hg hc hy,Sem.run_bind,Yj,Result.andThen,binOp,ne_eq,not_true_eq_false,if_false,Op.intBits,Sem.run_pure,ztq]
theorem zc7 {t:TypeId}{v:Value}(hx:QH S E x=some v)(hT:C.P.concrete t=true):QZ C S E I loc ⟨dst,.makeInterface t x,ty,pos,af,gd⟩ (.iface t v):=
 .of kE fun ac w ha hg hc _=>by
  simp only [execOp,Qj ha hg hc hx,Sem.run_bind,run_makeInterface _ _ _ hT,Result.andThen,Sem.run_pure]
def zyu (P:Program)(t:TypeId):Prop:=∃ u,P.underlying t=some u∧∀ m,u≠ .interface m
theorem zyu.of {P:Program}{t:TypeId}(h:(match P.underlying t with | some (.interface _)=>false | some _=>true | none=>false)=true):zyu P t:=by
 cases e:P.underlying t with
 | none=>rw [e] at h;cases h
 | some u=>refine ⟨u,e,?_⟩;rintro m rfl;rw [e] at h;cases h
theorem zfV {t xt:TypeId}{v:Value}(hx:QH S E x=some (.iface t v))(hT:zyu C.P t):QZ C S E I loc ⟨dst,.typeAssert x xt t false,ty,pos,af,gd⟩ v:=
 .of kE fun ac w ha hg hc _=>by
  obtain ⟨u,h1,h2⟩:=hT;simp only [execOp,Qj ha hg hc hx,Instr.typeAssert,Sem.run_bind,run_underlying h1,Result.andThen];cases u<;>first | exact absurd rfl (h2 _) | simp [Sem.run_pure]
theorem zhx {t xt:TypeId}{v:Value}(hx:QH S E x=some (.iface t v))(hT:zyu C.P t):QZ C S E I loc ⟨dst,.typeAssert x xt t true,ty,pos,af,gd⟩ (.tuple #[v,.bool true]):=
 .of kE fun ac w ha hg hc _=>by
  obtain ⟨u,h1,h2⟩:=hT;simp only [execOp,Qj ha hg hc hx,Instr.typeAssert,Sem.run_bind,run_underlying h1,Result.andThen];cases u<;>first | exact absurd rfl (h2 _) | simp [Sem.run_pure]
theorem WP (a:Act)(v:Value):a.eval (.const v)=v:=rfl
def IfT (P:Program)(t:TypeId):Prop:=∃ m,P.underlying t=some (.interface m)
theorem IfT.of {P:Program}{t:TypeId}(h:(match P.underlying t with | some (.interface _)=>true | _=>false)=true):IfT P t:=by
 split at h
 ·
  rename_i m e;exact ⟨m,e⟩
 ·
  cases h
theorem zcF {P:Program}{w:World}{t ty:TypeId}{v:Value}(hT:IfT P t):(Op.equal t (.iface ty v) .nilIface).run P w= .ok false w:=by
 obtain ⟨m,h⟩:=hT;show (Op.equalIn (9999+1) t _ _).run P w=_;unfold Op.equalIn;rw [Sem.run_bind,run_underlying h];rfl
theorem zaU {P:Program}{w:World}{t:TypeId}(hT:IfT P t):(Op.equal t .nilIface .nilIface).run P w= .ok true w:=by
 obtain ⟨m,h⟩:=hT;show (Op.equalIn (9999+1) t _ _).run P w=_;unfold Op.equalIn;rw [Sem.run_bind,run_underlying h];rfl
theorem zt3 {t t' ty':TypeId}{v:Value}(hx:QH S E x=some (.iface ty' v))(hT:IfT C.P t):QZ C S E I loc ⟨dst,.binOp .eql t x (.const .nilIface) t',ty,pos,af,gd⟩ (.bool false):=
 .of kE fun a w ha hg hc _=>by
  have e1:(eqGuard .eql t x (.const .nilIface) (.iface ty' v) .nilIface).run C.P w= .ok () w:=rfl;simp only [execOp,Qj ha hg hc hx,WP,Sem.run_bind,e1,Result.andThen,binOp,zcF hT,Sem.run_pure]
theorem ztv {t t' ty':TypeId}{v:Value}(hx:QH S E x=some (.iface ty' v))(hT:IfT C.P t):QZ C S E I loc ⟨dst,.binOp .neq t x (.const .nilIface) t',ty,pos,af,gd⟩ (.bool true):=
 .of kE fun a w ha hg hc _=>by
  have e1:(eqGuard .neq t x (.const .nilIface) (.iface ty' v) .nilIface).run C.P w= .ok () w:=rfl;simp only [execOp,Qj ha hg hc hx,WP,Sem.run_bind,e1,Result.andThen,binOp,zcF hT,Sem.run_pure];rfl
theorem zra {t t':TypeId}(hx:QH S E x=some .nilIface)(hT:IfT C.P t):QZ C S E I loc ⟨dst,.binOp .eql t x (.const .nilIface) t',ty,pos,af,gd⟩ (.bool true):=
 .of kE fun a w ha hg hc _=>by
  have e1:(eqGuard .eql t x (.const .nilIface) .nilIface .nilIface).run C.P w= .ok () w:=(by unfold eqGuard;simp);simp only [execOp,Qj ha hg hc hx,WP,Sem.run_bind,e1,Result.andThen,binOp,zaU hT,Sem.run_pure]
theorem zpn {t t':TypeId}(hx:QH S E x=some .nilIface)(hT:IfT C.P t):QZ C S E I loc ⟨dst,.binOp .neq t x (.const .nilIface) t',ty,pos,af,gd⟩ (.bool false):=
 .of kE fun a w ha hg hc _=>by
  have e1:(eqGuard .neq t x (.const .nilIface) .nilIface .nilIface).run C.P w= .ok () w:=(by unfold eqGuard;simp);simp only [execOp,Qj ha hg hc hx,WP,Sem.run_bind,e1,Result.andThen,binOp,zaU hT,Sem.run_pure];rfl
/-! ### Bytes and strings -/
def BsT (P:Program)(t e u:TypeId):Prop:=P.underlying t=some (.slice e)∧P.underlying e=some (.int .u8)∧P.underlying u=some .string
theorem zkf (l:List Nat):∀ s:ByteArray,(l.map fun n:Nat=>(n:Int)).foldl (fun r n=>r.push (UInt8.ofNat n.toNat)) s=⟨s.data++(l.map UInt8.ofNat).toArray⟩:=by
 induction l with
 | nil=>intro s;simp
 | cons n l ih=>intro s;rw [List.map_cons,List.foldl_cons,ih];simp [ByteArray.push]
theorem Zv {t e u n c:Nat}{av:Option Addr}{bs:List Nat}(hx:QH S E x=some (.slice av n c))(hT:BsT C.P t e u)(hS:Yq S=true→Sl I 1 VY av n c bs):QZ C S E I loc ⟨dst,.convert t u x,ty,pos,af,gd⟩ (.string (UY bs)):=
 .of kE fun a w ha hg hc hw=>by
  have hS:=hS hc
  have e1:(Conv.bytesToString (.slice av n c)).run C.P w= .ok (.string (UY bs)) w:=by
   by_cases h0:n=0
   ·
    subst h0;have:bs=[]:=List.length_eq_zero_iff.1 hS.len;subst this
    cases av with
    | none=>simp [Conv.bytesToString,UY];rfl
    | some ad=>
     rw [run_bytesToString w ad 0 c [] rfl];simp [UY];rfl
   ·
    rw [hS.base h0,run_bytesToString w _ n c (bs.map fun n:Nat=>(n:Int)),zkf]
    ·
     simp [UY]
    ·
     have hl:=hS.len;subst hl
     have:=run_loadCells_list (P:=C.P) w ⟨Ab av,Ao av,none⟩ (bs.map fun n:Nat=>Value.int .u8 (n:Int)) fun j v hj=>by
      rw [List.getElem?_map] at hj
      cases e:bs[j]? with
      | none=>rw [e] at hj;cases hj
      | some m=>
       rw [e] at hj;cases hj;rw [Z8];have:=(hS.get0 (loc:=loc) e (u:=.int .u8 (m:Int)) rfl).get hw;rwa [Nat.mul_one] at this
     rw [List.map_map];rw [List.length_map] at this;exact this
  simp only [execOp,Qj ha hg hc hx,Sem.run_bind,run_convert_bytes_string w t u e _ _ _ hT.1 hT.2.1 hT.2.2,e1,Result.andThen,Sem.run_pure]
theorem Xf {t e u:TypeId}{s:ByteArray}(hx:QH [] E x=some (.string s))(hT:BsT C.P t e u)(hG:gd=none)(hN:Nat.blt d C.N=true)
  (h:∀ b c I',HLe I I'→Sl I' 1 VY (some ⟨b,0,none⟩) s.size c (Ur s)→XO C Q ops rest [] ((d,.slice (some ⟨b,0,none⟩) s.size c)::E) I' loc):XO C Q ops (⟨some d,.convert u t x,ty,pos,af,gd⟩::rest) [] E I loc:=
 Ym hG kE fun a w ha hw=>by
  have hl:((Lib.bytesCells w e s).size,(Lib.bytesCells w e s).size+1)=((Lib.bytesCells w e s).size,(Lib.bytesCells w e s).size+1):=rfl;obtain ⟨f1,f2,f3⟩:=hw.fresh
  have hs:St C.g I C.H ((w.heap.size,.cells (Lib.bytesCells w e s) e ((Lib.bytesCells w e s).size,(Lib.bytesCells w e s).size+1))::loc) (Lib.bytesWorld w e s):=by
   refine ⟨hw.os,hw.tape,hw.out,⟨?_,?_⟩,fun b o hb=>?_,fun b o hb=>?_,fun b o hb=>?_,hw.sepIH,fun b o hb=>?_,?_⟩
   ·
    rw [Lib.bytesWorld_size];have:=hw.size.1;omega
   ·
    exact Nat.le_succ_of_le hw.size.2
   ·
    rw [Lib.bytesWorld_at_old w e s b (Array.getElem?_eq_some_iff.1 (hw.imm b o hb)).1];exact hw.imm b o hb
   ·
    rw [Lib.bytesWorld_at_old w e s b (Array.getElem?_eq_some_iff.1 (hw.frm b o hb)).1];exact hw.frm b o hb
   ·
    rcases List.mem_cons.1 hb with e' | hb
    ·
     cases e';exact Lib.bytesWorld_at_new w e s
    ·
     rw [Lib.bytesWorld_at_old w e s b (Array.getElem?_eq_some_iff.1 (hw.own b o hb)).1];exact hw.own b o hb
   ·
    rcases List.mem_cons.1 hb with e' | hb
    ·
     cases e';exact ⟨f1,f2⟩
    ·
     exact hw.sepIL b o hb
   ·
    simp only [List.map_cons,List.nodup_cons];refine ⟨fun hm=>?_,hw.nodup⟩;obtain ⟨⟨b,o⟩,hm,e'⟩:=List.mem_map.1 hm;simp only at e';subst e';exact f3 _ hm
  obtain ⟨h1,h2,h3⟩:=hs.freeze .here;simp only [execOp,Qj (S:=[]) ha trivial rfl hx,Sem.run_bind,Lib.run_convert_string_bytes w u t e s hT.2.2 hT.1 hT.2.1,Result.andThen,Sem.run_pure,Oper.uponIn_value];refine h _ _ _ h2 ⟨?_,?_,fun _=>rfl,?_⟩ _ _ (ha.put hN _) trivial h1
  ·
   unfold Ur;rw [List.length_map,Array.length_toList];rfl
  ·
   exact grownCap_ge _ _ _ _
  ·
   intro k m hk j v hj
   have hj0:j=0∧v= .int .u8 (m:Int):=by
    cases j with
    | zero=>simp [VY] at hj;exact ⟨rfl,hj.symm⟩
    | succ j=>simp [VY] at hj
   obtain ⟨rfl,rfl⟩:=hj0;refine .imm h3 ?_;simp only [Ur,List.getElem?_map] at hk
   cases e':s.data.toList[k]? with
   | none=>rw [e'] at hk;cases hk
   | some u8=>
    rw [e'] at hk;cases hk;have hlt:k<s.data.size:=(by have:=(List.getElem?_eq_some_iff.1 e').1;simpa using this);rw [Array.getElem?_toList] at e';rw [show Ao (some ⟨w.heap.size,0,none⟩)+k*1+0=k by simp [Ao],JG,Array.getElem?_toList];unfold Lib.bytesCells;rw [Array.getElem?_append_left (by rw [Array.size_map];exact hlt),Array.getElem?_map,e'];rfl
end
variable{C:Cx}{E:Env}{I:Qu}{loc:Loc}{o:Oper}{v:Value}
theorem Vb {S:GS}{v':Value}(h:QZ C S E I loc o v)(e:v=v'):QZ C S E I loc o v':=e ▸ h
variable{Q:Exit→Act→World→Prop}{ops:Array Oper}{rest:List Oper}{x:Operand}{pos:String}{af:Array Edge}
theorem zgb {t ty:TypeId}
  (hx:QH [] E x=some (.iface t v))(h:At C Q (.panic (pan (.iface t v))) E I loc):XO C Q ops (⟨none,.panic x,ty,pos,af,none⟩::rest) [] E I loc:=
 zpJ (v:=.iface t v) rfl kE (fun a w ha hw=>by simp only [execOp,Qj (S:=[]) ha trivial rfl hx,Sem.run_bind,show (Instr.panic (.iface t v)).run C.P w= .halt (.panic (.iface t v)) w from rfl,Result.andThen]) h
variable{n:Int}
theorem ZW (h:0≤n∧n<18446744073709551616):IntKind.u64.wrap n=n:=by
 simp only [IntKind.wrap,IntKind.bits,IntKind.signed,Bool.false_and,Bool.false_eq_true,if_false];exact Int.emod_eq_of_lt h.1 (by have:=h.2;simpa using this)
theorem zbV (h:0≤n∧n<256):IntKind.u8.wrap n=n:=by
 simp only [IntKind.wrap,IntKind.bits,IntKind.signed,Bool.false_and,Bool.false_eq_true,if_false];exact Int.emod_eq_of_lt h.1 (by have:=h.2;simpa using this)
theorem YJ (h: -9223372036854775808≤n∧n≤9223372036854775807):IntKind.i64.wrap n=n:=zer h
theorem VA (w n:Nat):BitVec.ofInt w (n:Int)=BitVec.ofNat w n:=by simp
variable{c:Nat}
theorem zxJ (h:c<256):zvM .u8 (c:Int) 127=((c % 128:Nat):Int):=by
 unfold zvM;rw [show (127:Int)=((127:Nat):Int) from rfl,VA,VA,BitVec.toNat_and,BitVec.toNat_ofNat,BitVec.toNat_ofNat];rw [show IntKind.u8.bits=8 from rfl,Nat.mod_eq_of_lt (show c<2^8 from h),show 127 % 2^8=2^7-1 from rfl,Nat.and_two_pow_sub_one_eq_mod];exact zbV ⟨kB,kB⟩
variable{u:Nat}
theorem zA2 :orK .u8 (IntKind.u8.wrap (u:Int)) 128=((u % 128+128:Nat):Int):=by
 have e0:IntKind.u8.wrap (u:Int)=((u % 256:Nat):Int):=by
  simp only [IntKind.wrap,IntKind.bits,IntKind.signed,Bool.false_and,Bool.false_eq_true,if_false];omega
 unfold orK;rw [e0,show (128:Int)=((128:Nat):Int) from rfl,VA,VA,BitVec.toNat_or,BitVec.toNat_ofNat,BitVec.toNat_ofNat];rw [show IntKind.u8.bits=8 from rfl,Nat.mod_eq_of_lt (show u % 256<2^8 from Nat.mod_lt _ kC),show 128 % 2^8=128 from rfl];have h:(List.range 256).all (fun m=>m||| 128==m % 128+128)=true:=kA;have h:=List.all_eq_true.1 h (u % 256) (List.mem_range.2 (Nat.mod_lt _ kC));rw [beq_iff_eq] at h;rw [h,show u % 256 % 128=u % 128 by omega];exact zbV ⟨kB,kB⟩
variable{i:Nat}
theorem zwI {m:Nat}(hu:u<128^i)(h:u+m*128^i<2^64):orK .u64 (u:Int) ((m*128^i:Nat):Int)=((u+m*128^i:Nat):Int):=by
 unfold orK;rw [VA,VA,BitVec.toNat_or,BitVec.toNat_ofNat,BitVec.toNat_ofNat,show IntKind.u64.bits=64 from rfl,Nat.mod_eq_of_lt kB,Nat.mod_eq_of_lt kB];have e:(128:Nat)^i=2^(7*i):=(by rw [Nat.pow_mul]);rw [e] at hu h ⊢;rw [Nat.mul_comm m,Nat.or_comm,←Nat.two_pow_add_eq_or_of_lt hu,Nat.add_comm];rw [Nat.mul_comm m,Nat.add_comm] at h;exact ZW ⟨kB,kB⟩
theorem zxi (hi:i≤9)(h:c*128^i<2^64):IntKind.u64.wrap ((c:Int)*2^(min (7*(i:Int)).toNat IntKind.u64.bits))=((c*128^i:Nat):Int):=by
 have e:min (7*(i:Int)).toNat IntKind.u64.bits=7*i:=(by rw [show IntKind.u64.bits=64 from rfl];omega);have e2:(2:Int)^(7*i)=((128^i:Nat):Int):=(by rw [show (128:Nat)=2^7 from rfl,←Nat.pow_mul];simp);rw [e,e2,show (c:Int)*((128^i:Nat):Int)=((c*128^i:Nat):Int) by simp];exact ZW ⟨kB,kB⟩
theorem zsr (u k:Nat):((u:Int).fdiv (2^k))=((u / 2^k:Nat):Int):=by
 rw [show (2:Int)^k=((2^k:Nat):Int) by simp,Int.fdiv_eq_ediv_of_nonneg _ (Int.natCast_nonneg _)];rfl
theorem zlZ (h:u<2^64):ztq .i64 (IntKind.i64.wrap ((u / 2:Nat):Int)) (IntKind.i64.wrap (0-IntKind.i64.wrap (zvM .u64 (u:Int) 1)))=zc0 u:=by
 have e1:zvM .u64 (u:Int) 1=((u % 2:Nat):Int):=by
  unfold zvM;rw [show (1:Int)=((1:Nat):Int) from rfl,VA,VA,BitVec.toNat_and,BitVec.toNat_ofNat,BitVec.toNat_ofNat,show IntKind.u64.bits=64 from rfl,Nat.mod_eq_of_lt h,show 1 % 2^64=2^1-1 from rfl,Nat.and_two_pow_sub_one_eq_mod];exact ZW ⟨kB,kB⟩
 rw [e1,YJ kB,YJ (n:=((u % 2:Nat):Int)) kB,YJ kB];unfold ztq zc0;rw [show IntKind.i64.bits=64 from rfl,VA];rcases Nat.mod_two_eq_zero_or_one u with e | e
 ·
  rw [e,if_neg kB,show (0:Int)-((0:Nat):Int)=((0:Nat):Int) by omega,VA,BitVec.toNat_xor,BitVec.toNat_ofNat,BitVec.toNat_ofNat,Nat.mod_eq_of_lt kB,Nat.zero_mod,Nat.xor_zero];exact YJ kB
 ·
  rw [e,if_pos rfl,show (0:Int)-((1:Nat):Int)= -1 by omega,show BitVec.ofInt 64 (-1)=BitVec.allOnes 64 by decide,BitVec.xor_allOnes,BitVec.toNat_not,BitVec.toNat_ofNat,Nat.mod_eq_of_lt kB,show (((2^64-1-u / 2:Nat)):Int)=(-((u / 2:Nat):Int)-1)+18446744073709551616 by omega]
  have hw:∀ x:Int,IntKind.i64.wrap (x+18446744073709551616)=IntKind.i64.wrap x:=fun x=>by
   have e:(x+18446744073709551616) % (2^IntKind.i64.bits:Int)=x % (2^IntKind.i64.bits:Int):=by
    show (x+18446744073709551616) % 18446744073709551616=x % 18446744073709551616;omega
   unfold IntKind.wrap;rw [e]
  rw [hw];exact YJ kB
theorem zhn (h: -9223372036854775808≤n∧n≤9223372036854775807):ztq .u64 (IntKind.u64.wrap (IntKind.u64.wrap n*2^1)) (IntKind.u64.wrap (IntKind.i64.wrap (n.fdiv (2^63))))=(zz n:Int):=by
 unfold zz ztq;rw [show IntKind.u64.bits=64 from rfl];by_cases h0:0≤n
 ·
  have e1:n.fdiv (2^63)=0:=(by rw [Int.fdiv_eq_ediv_of_nonneg _ kC];exact Int.ediv_eq_zero_of_lt h0 kB);rw [if_pos h0,e1,ZW (n:=n) kB,ZW (n:=n*2^1) kB,YJ kB,ZW (n:=0) kB];obtain ⟨m,rfl⟩:=Int.eq_ofNat_of_zero_le h0;rw [show (m:Int)*2^1=((2*m:Nat):Int) by omega,VA,show BitVec.ofInt 64 0=0#64 from rfl,BitVec.xor_zero,BitVec.toNat_ofNat,Nat.mod_eq_of_lt kB,ZW kB];omega
 ·
  have e1:n.fdiv (2^63)= -1:=(by rw [Int.fdiv_eq_ediv_of_nonneg _ kC];omega);have e2:IntKind.u64.wrap n=n+18446744073709551616:=(by simp only [IntKind.wrap,IntKind.bits,IntKind.signed,Bool.false_and,Bool.false_eq_true,if_false];omega);have e3:IntKind.u64.wrap ((n+18446744073709551616)*2^1)=2*n+18446744073709551616:=(by simp only [IntKind.wrap,IntKind.bits,IntKind.signed,Bool.false_and,Bool.false_eq_true,if_false];omega);rw [if_neg h0,e1,YJ kB,e2,e3,show IntKind.u64.wrap (-1)=18446744073709551615 by decide];obtain ⟨m,hm⟩:=Int.eq_ofNat_of_zero_le (show 0≤2*n+18446744073709551616 by omega);rw [hm,show BitVec.ofInt 64 18446744073709551615=BitVec.allOnes 64 by decide,BitVec.xor_allOnes,VA,BitVec.toNat_not,BitVec.toNat_ofNat,Nat.mod_eq_of_lt kB,ZW kB];omega
variable{r:List Nat}
/-! ### The reader -/
theorem zgj (h:((i==0||c != 0)&&(decide (i<9)||decide (c≤1)))=true):V0 i (c::r)=if c<128 then some (c*128^i,r) else (V0 (i+1) r).map fun x=>(c % 128*128^i+x.1,x.2):=by
 simp only [V0];rw [if_pos h]
theorem zrp (h:((i==0||c != 0)&&(decide (i<9)||decide (c≤1)))=false):V0 i (c::r)=none:=by
 simp only [V0];rw [if_neg (by rw [h];simp)]
end
end Go.Kn
section
namespace Go.Kn
open Go
section
variable {P:Program} {fn:Func} {R:Ending→World→Prop} {N:Nat} {g:World} {I H:Qu} {loc:Loc} {E:Env} {r:Option Nat}
theorem Q2 {t u tt n b:Nat}{vs:List Value}{v':Value}(hr:fn.results= #[.cell t tt,.tmp u])(hv:VT E t=some (.pointer (some ⟨b,0,none⟩)))(hv':VT E u=some v')(hA:AgT P tt n)(hc:Cells I loc b 0 vs)(hn:vs.length=n)
  (h:∀ w,St g I H loc w→R (.returned (.tuple #[.agg vs.toArray,v'])) w):At ⟨P,r,N,[],g,H⟩ (bodyPost P fn R) .ret E I loc:=fun a w ha hw=>
 ⟨ha.defers,.tuple #[.agg vs.toArray,v'],by
  have e1:=ha.env _ _ hv;have e2:=ha.env _ _ hv';rw [Array.getD_eq_getD_getElem?] at e1 e2
  have h1:(loadCells ⟨b,0,none⟩ n).run P w= .ok vs.toArray w:=by
   rw [←hn];exact run_loadCells_list w _ _ fun j v hj=>by rw [Z8];exact (hc j v hj).get hw
  have hA':=hA;obtain ⟨_,i,h2,h3⟩:=hA'
  have l1:(loadVar tt ⟨b,0,none⟩).run P w= .ok (.agg vs.toArray) w:=by
   simp only [loadVar,Sem.run_bind,Sem.run_pure,Vn hA,Result.andThen,if_true,run_sizeOf h2,h3,h1]
  simp only [results,hr]
  simp [List.mapM_cons,e1,e2,asAddr,l1],h w hw⟩
end
end Go.Kn
namespace Go.Kn
open Go
section
variable {C:Cx} {Q:Exit→Act→World→Prop} {E G:Env} {I I':Qu} {loc loc' L R:Loc} {ops:Array Oper} {rest:List Oper} {S:GS} {b:Bool}
variable {d:Nat} {ty:TypeId} {pos:String} {af:Array Edge} {gd:Option (Nat×Bool)}
end
end Go.Kn
end
section
namespace Go.Kn
open Go
section
variable {C:Cx} {E:Env} {I:Qu} {loc:Loc} {S:GS} {dst:Option Tmp} {ty:TypeId} {pos:String} {af:Array Edge} {gd:Option (Nat×Bool)} {x y z:Operand}
theorem ZA {t e size n c:Nat}{av:Option Addr}{k k':IntKind}{i:Int}(hx:QH S E x=some (.slice av n c))(hy:QH S E y=some (.int k i))(hz:QH S E z=some (.int k' i))(hT:SlT C.P t e size)(hb:Yq S=true→0≤i∧i≤(c:Int)):
  QZ C S E I loc ⟨dst,.slice t x none (some y) (some z),ty,pos,af,gd⟩ (.slice av i.toNat i.toNat):=
 .of kE fun a w ha hg hc _=>by
  obtain ⟨h1,j,h2,h3⟩:=hT
  have hav:(if i.toNat=0 then av else av.map (·.add (0*j.size)))=av:=by
   split
   ·
    rfl
   ·
    cases av<;>simp [Addr.add]
  have hi:0≤i∧i≤((i.toNat:Nat):Int):=(by have:=hb hc;omega);simp only [execOp,Option.map_none,Option.map_some,Qj ha hg hc hx,Qj ha hg hc hy,Qj ha hg hc hz,Instr.sliceAt,Instr.slice,Instr.sliceBounds,Instr.sliceBound,asIntOf,Sem.run_bind,Sem.run_pure,run_underlying h1,Result.andThen,if_pos (hb hc),if_pos hi,run_sizeOf h2,hav,Nat.sub_zero]
end
end Go.Kn
namespace Go.Kn
open Go
section
variable {g:World} {I I' H:Qu} {loc loc' L R:Loc} {w w':World}
theorem W0 {P:Program}(t ty e:TypeId)(i:TypeInfo)(z:Value){size bytes:Nat}(ht:P.underlying t=some (.slice e))(hi:P.info? e=some i)(hz:i.zero=some z)
  (hsize:i.size=size)(hby:i.bytes=bytes)(hzs:z.cells.size=size)
  {bv:Option Addr}{n:Nat}{xs:List Value}{av:Option Addr}{m c:Nat}{ys:List Value}(hX:Src I loc bv n size xs)(hw:St g I H loc w)(hS:Src I loc av m size ys)
  (hB:(n+m)*(bytes+1)≤70368744177664):
  ∃ v' w' L',(Builtin.append_ #[t,t] ty #[.slice bv n n,.slice av m c]).run P w= .ok v' w'∧St g I H (L'++loc) w'∧((m=0∧v'= .slice bv n n∧L'=[])∨ZU e size v' (n+m) (xs++ys) L'):=by
 subst hsize;subst hby
 have hnm:n+m≤70368744177664:=by
  have:(n+m)*1≤(n+m)*(i.bytes+1):=Nat.mul_le_mul_left _ kB;omega
 have hbytes:(n+m)*i.bytes≤140737488355328:=by
  have:(n+m)*i.bytes≤(n+m)*(i.bytes+1):=Nat.mul_le_mul_left _ kB;omega
 have hmL:n+m≤maxLen:=(by simp only [maxLen];omega);have hlen:(xs++ys).length=(n+m)*i.size:=(by rw [List.length_append,hX.len,hS.len,Nat.add_mul]);by_cases hm:m=0
 ·
  subst hm;refine ⟨.slice bv n n,w,[],?_,hw,.inl ⟨rfl,rfl,rfl⟩⟩;cases av<;>cases bv<;>simp [Builtin.append_,run_underlying ht,sizeOf,typeInfo,hi,Builtin.lenOf,Builtin.firstCells,loadCells,loadCellsFrom,storeCells]
 ·
  have hav:=hS.base hm;have hnews:∀ j u,ys[j]? =some u→w.cell? ((⟨Ab av,Ao av,none⟩:Addr).add j)=some u:=fun j u hj=>(by rw [Z8];exact (hS.cells j u hj).get hw);rw [hav]
  have grown:∀ (old:Nat),old<n+m→∃ L',ZU e i.size (.slice (some ⟨w.heap.size,0,none⟩) (n+m) (grownCap w (n+m) old e)) (n+m) (xs++ys) L'∧
    St g I H (L'++loc) (w.drew.alloc (.cells (xs.toArray++ys.toArray++Builtin.zeroCells z.cells (grownCap w (n+m) old e-(n+m))) e)):=by
   intro old ho;have hge:=grownCap_ge w (n+m) old e;have hcm:grownCap w (n+m) old e≤maxLen:=grownCap_le_maxLen w (n+m) old e hmL;refine ⟨_,⟨hlen,.inr ⟨w.heap.size,_,xs.toArray++ys.toArray++Builtin.zeroCells z.cells (grownCap w (n+m) old e-(n+m)),rfl,rfl,hge,hcm,?_,?_⟩⟩,?_⟩
   ·
    simp only [Array.size_append,List.size_toArray,VM,hzs,hX.len,hS.len,←Nat.add_mul];congr 1;omega
   ·
    simp only [Array.toList_append,List.append_assoc];rw [←List.append_assoc,←hlen];exact List.take_left
   ·
    exact hw.drew'.alloc _
  obtain ⟨L',h1',h2'⟩:=grown n kB
  cases bv with
  | none=>
   have hn0:n=0:=Decidable.byContradiction fun h=>(by have:=hX.base h;cases this);subst hn0;have hx:xs=[]:=List.eq_nil_of_length_eq_zero (by simpa using hX.len);subst hx;have hr:=run_append_nil (P:=P) w t ty e i z ht hi hz ⟨Ab av,Ao av,none⟩ m c ys hS.len hnews kB kB (by simp only [Nat.zero_add] at hbytes;omega);simp only [Nat.zero_add,List.nil_append,Array.empty_append] at h1' h2' ⊢;exact ⟨_,_,L',hr,h2',.inr h1'⟩
  | some q=>
   have holds:∀ j u,xs[j]? =some u→w.cell? (q.add j)=some u:=fun j u hj=>by
    by_cases hn0:n=0
    ·
     subst hn0;have hx:xs=[]:=List.eq_nil_of_length_eq_zero (by simpa using hX.len);subst hx;simp at hj
    ·
     have hq:=hX.base hn0;have hq2:q=⟨Ab (some q),Ao (some q),none⟩:=Option.some.inj hq;rw [hq2,Z8];exact (hX.cells j u hj).get hw
   have hr:=run_append_grow (P:=P) w t ty e i z ht hi hz q n n xs hX.len holds ⟨Ab av,Ao av,none⟩ m c ys hS.len hnews kB kB (growslice_fits kB hbytes);exact ⟨_,_,L',hr,h2',.inr h1'⟩
end
end Go.Kn
namespace Go.Kn
open Go
section
variable {C:Cx} {Q:Exit→Act→World→Prop} {E:Env} {I:Qu} {loc:Loc} {ops:Array Oper} {rest:List Oper} {d:Nat} {ty:TypeId} {pos:String} {af:Array Edge} {gd:Option (Nat×Bool)} {x y:Operand}
theorem zaV {α:Type}{enc:α→List Value}{t e size bytes n m c:Nat}{av bv:Option Addr}{xs ys:List α}(hs:∀ x,(enc x).length=size)(hsz:0<size)(hx:QH [] E x=some (.slice bv n n))(hy:QH [] E y=some (.slice av m c))(hT:ElT C.P t e size bytes)
  (hX:Sl I size enc bv n n xs)(hS:Sl I size enc av m c ys)(hB:(n+m)*(bytes+1)≤70368744177664)(hG:gd=none)(hN:Nat.blt d C.N=true)
  (h:∀ I' a' c',HLe I I'→Sl I' size enc a' (n+m) c' (xs++ys)→XO C Q ops rest [] ((d,.slice a' (n+m) c')::E) I' loc):
  XO C Q ops (⟨some d,.call ⟨.builtin .append, #[x,y], #[t,t]⟩,ty,pos,af,gd⟩::rest) [] E I loc:=
 Ym hG kE fun a w ha hw=>by
  obtain ⟨ht,i,zz,hi,hz,hs',hb,hzs⟩:=hT;obtain ⟨v',w',L',hr,hw',hm⟩:=W0 (P:=C.P) t ty e i zz ht hi hz hs' hb hzs (c:=c) (hX.src hs) hw (hS.src hs) hB;simp only [execOp,resolve,List.map_toArray,List.map_cons,List.map_nil,Qj (S:=[]) ha trivial rfl hx,Qj (S:=[]) ha trivial rfl hy,Sem.run_bind,Sem.run_pure,Result.andThen,invoke,builtin,hr,Oper.uponIn_value];rcases hm with ⟨hm0,rfl,rfl⟩ | hO
  ·
   subst hm0;have hy0:ys=[]:=List.eq_nil_of_length_eq_zero hS.len;subst hy0;exact h I bv n (zB6 I) (by rw [List.append_nil];exact hX) _ _ (ha.put hN _) trivial hw'
  ·
   rw [←List.flatMap_append] at hO;obtain ⟨I',a',c',h1,h2,rfl,h4⟩:=ZU.freeze (R:=loc) hO hs hsz hw';exact h I' a' c' h1 h4 _ _ (ha.put hN _) trivial h2
end
end Go.Kn
namespace Go.Kn
open Go
section
variable {C:Cx} {Q:Exit→Act→World→Prop} {E:Env} {I:Qu} {loc:Loc} {ops:Array Oper} {rest:List Oper} {d:Nat} {ty:TypeId} {pos:String} {af:Array Edge} {gd:Option (Nat×Bool)} {x y:Operand}
theorem QW {α:Type}{enc:α→List Value}{t e size bytes n m c:Nat}{av bv:Option Addr}{xs:List α}{ys:List Value}(hs:∀ x,(enc x).length=size)(hx:QH [] E x=some (.slice bv n n))(hy:QH [] E y=some (.slice av m c))(hT:ElT C.P t e size bytes)
  (hX:Sl I size enc bv n n xs)(hS:Src I loc av m size ys)(hm:0<m)(hB:(n+m)*(bytes+1)≤70368744177664)(hG:gd=none)(hN:Nat.blt d C.N=true)
  (h:∀ v' L',ZU e size v' (n+m) (xs.flatMap enc++ys) L'→XO C Q ops rest [] ((d,v')::E) I (L'++loc)):
  XO C Q ops (⟨some d,.call ⟨.builtin .append, #[x,y], #[t,t]⟩,ty,pos,af,gd⟩::rest) [] E I loc:=
 Ym hG kE fun a w ha hw=>by
  obtain ⟨ht,i,zz,hi,hz,hs',hb,hzs⟩:=hT;obtain ⟨v',w',L',hr,hw',hm'⟩:=W0 (P:=C.P) t ty e i zz ht hi hz hs' hb hzs (c:=c) (hX.src hs) hw hS hB;simp only [execOp,resolve,List.map_toArray,List.map_cons,List.map_nil,Qj (S:=[]) ha trivial rfl hx,Qj (S:=[]) ha trivial rfl hy,Sem.run_bind,Sem.run_pure,Result.andThen,invoke,builtin,hr,Oper.uponIn_value];rcases hm' with ⟨hm0,_,_⟩ | hO
  ·
   omega
  ·
   exact h v' L' hO _ _ (ha.put hN _) trivial hw'
end
section
variable {C:Cx} {S:GS} {E:Env} {I:Qu} {loc:Loc} {dst:Option Tmp} {ty:TypeId} {pos:String} {af:Array Edge} {gd:Option (Nat×Bool)} {x y:Operand}
theorem KE {t e size b n c:Nat}{k:IntKind}{i:Int}(hx:QH S E x=some (.slice (some ⟨b,0,none⟩) n c))(hy:QH S E y=some (.int k i))(hT:SlT C.P t e size)(hb:Yq S=true→0≤i∧i<(n:Int)):
  QZ C S E I loc ⟨dst,.indexAddr t x y,ty,pos,af,gd⟩ (.pointer (some ⟨b,i.toNat*size,none⟩)):=by
 have h:=Kd (I:=I) (loc:=loc) (dst:=dst) (ty:=ty) (pos:=pos) (af:=af) (gd:=gd) hx hy hT hb;rwa [Nat.zero_add] at h
end
theorem Sl.cut {α:Type}{I:Qu}{size:Nat}{enc:α→List Value}{av:Option Addr}{n c:Nat}{xs:List α}(h:Sl I size enc av n c xs):Sl I size enc av n n xs:=⟨h.len,Nat.le_refl _,h.base,h.cells⟩
theorem ZU.spot {α:Type}{e size n k:Nat}{enc:α→List Value}{v:Value}{xs:List α}{x:α}{L:Loc}(hO:ZU e size v n (xs.flatMap enc) L)(hs:∀ x,(enc x).length=size)(hsz:0<size)(hx:xs[k]? =some x):
  k<n∧∃ b c cur,v= .slice (some ⟨b,0,none⟩) n c∧L=[(b,.cells (cur:List Value).toArray e (0,0))]∧(cur.drop (k*size)).take size=enc x∧k*size+size≤cur.length∧
   ∀ y,ZU e size v n ((xs.set k y).flatMap enc) [(b,.cells (Kf cur (k*size) (enc y)).toArray e (0,0))]:=by
 obtain ⟨hk,hxk⟩:=List.getElem?_eq_some_iff.1 hx;have hl:=hO.1;rw [Yp hs] at hl;have hln:xs.length=n:=Nat.eq_of_mul_eq_mul_right hsz hl;rcases hO.2 with ⟨_,h2,_⟩ | ⟨b,c,cur,h1,h2,h3,h4,h5,h6⟩
 ·
  omega
 obtain ⟨cl⟩:=cur;simp only [List.size_toArray] at h5 h6
 have hspl:xs=xs.take k++x::xs.drop (k+1):=by
  rw [←hxk,←List.drop_eq_getElem_cons hk,List.take_append_drop]
 have hb1:(k+1)*size≤n*size:=Nat.mul_le_mul_right _ kB;have hb2:n*size≤c*size:=Nat.mul_le_mul_right _ h3;rw [Nat.add_mul,Nat.one_mul] at hb1;have htk:((xs.take k).flatMap enc).length=k*size:=by rw [Yp hs,List.length_take];congr 1;omega
 have hcl:cl.take (n*size)=(xs.take k).flatMap enc++(enc x++(xs.drop (k+1)).flatMap enc):=by
  rw [h6];conv=>lhs;rw [hspl];rw [List.flatMap_append,List.flatMap_cons]
 have hdec:cl=(xs.take k).flatMap enc++(enc x++((xs.drop (k+1)).flatMap enc++cl.drop (n*size))):=by
  conv=>lhs;rw [←List.take_append_drop (n*size) cl]
  rw [hcl];simp only [List.append_assoc]
 have hdrop:cl.drop (k*size)=enc x++((xs.drop (k+1)).flatMap enc++cl.drop (n*size)):=by
  conv=>lhs;rw [hdec]
  rw [←htk];exact List.drop_left
 refine ⟨kB,b,c,cl,h1,h2,?_,kB,fun y=>⟨?_,.inr ⟨b,c,_,h1,rfl,h3,h4,?_,?_⟩⟩⟩
 ·
  rw [hdrop,←hs x];exact List.take_left
 ·
  rw [Yp hs,List.length_set];omega
 ·
  have hsl:=zcj (A:=cl) (off:=k*size) (n:=size) (vs:=enc y) kB (hs y);rw [List.size_toArray,hsl];simp only [List.length_append,List.length_take,List.length_drop,hs];omega
 ·
  have hsl:=zcj (A:=cl) (off:=k*size) (n:=size) (vs:=enc y) kB (hs y)
  have e1:cl.take (k*size)=(xs.take k).flatMap enc:=by
   conv=>lhs;rw [hdec]
   rw [←htk];exact List.take_left
  have e2:cl.drop (k*size+size)=(xs.drop (k+1)).flatMap enc++cl.drop (n*size):=by
   have hd:∀ l:List Value,List.drop size (enc x++l)=l:=fun l=>(by rw [←hs x];exact List.drop_left);rw [←List.drop_drop,hdrop,hd]
  rw [hsl,e1,e2]
  have e3:(xs.set k y).flatMap enc=(xs.take k).flatMap enc++(enc y++(xs.drop (k+1)).flatMap enc):=by
   rw [List.set_eq_take_append_cons_drop,if_pos kB,List.flatMap_append,List.flatMap_cons]
  have e4:((xs.set k y).flatMap enc).length=n*size:=(by rw [Yp hs,List.length_set];omega);show List.take (n*size) ((xs.take k).flatMap enc++(enc y++((xs.drop (k+1)).flatMap enc++cl.drop (n*size))))=_;rw [←List.append_assoc (enc y),←List.append_assoc,←e3,←e4];exact List.take_left
end Go.Kn
end
namespace Go.Proofs.YtjblkbkmblkgoaaGreat
section
open Go Go.Kn Go.Proofs
theorem ztz:AgT Tryz.prog 279 9:=.of kA
theorem Jz:AgT Tryz.prog 34 2:=.of kA
theorem ZP:AgT Tryz.prog 36 14:=.of kA
theorem VW:AgT Tryz.prog 39 19:=.of kA
theorem zms:Ar2 Tryz.prog 179 3 .i64:=⟨kA,kA,kA,kA,kA⟩
theorem Xc:ArT Tryz.prog 279 9 184 1:=.of kA
theorem XZ:CvT Tryz.prog 3 216 .u64:=⟨kA,kA⟩
theorem zlo:ElT Tryz.prog 282 36 14 112:=.of kA
theorem Vh:ElT Tryz.prog 37 3 1 8:=.of kA
theorem Xb:zzS Tryz.prog 36 [.int,.int,.int,.int,.int,.int,.int,.int,.int,.int,.int,.int,.int,.int]:=⟨kA,kA,kA,kA⟩
theorem Y2:QM Tryz.prog 34 0 0:=.of kA
theorem Vr:QM Tryz.prog 34 1 1:=.of kA
theorem JJ:QM Tryz.prog 36 0 0:=.of kA
theorem UT:QM Tryz.prog 36 1 1:=.of kA
theorem Jv:QM Tryz.prog 36 10 10:=.of kA
theorem Jo:QM Tryz.prog 36 11 12:=.of kA
theorem UG:QM Tryz.prog 36 2 2:=.of kA
theorem UU:QM Tryz.prog 36 3 3:=.of kA
theorem zbk:QM Tryz.prog 36 4 4:=.of kA
theorem UK:QM Tryz.prog 36 5 5:=.of kA
theorem UW:QM Tryz.prog 36 6 6:=.of kA
theorem UJ:QM Tryz.prog 36 7 7:=.of kA
theorem UO:QM Tryz.prog 36 8 8:=.of kA
theorem UQ:QM Tryz.prog 36 9 9:=.of kA
theorem Yk:QM Tryz.prog 39 0 0:=.of kA
theorem JH:QM Tryz.prog 39 1 1:=.of kA
theorem YK:QM Tryz.prog 39 2 2:=.of kA
theorem YI:QM Tryz.prog 39 3 3:=.of kA
theorem YU:QM Tryz.prog 39 4 4:=.of kA
theorem ZZ:QM Tryz.prog 39 5 18:=.of kA
theorem zvE:Fun Tryz.prog 145:=.of Tryz.func145 kA kA
theorem zlH:Fun Tryz.prog 161:=.of Tryz.func161 kA kA
theorem zoa:Fun Tryz.prog 162:=.of Tryz.func162 kA kA
theorem ztH:Fun Tryz.prog 163:=.of Tryz.func163 kA kA
theorem znD:Fun Tryz.prog 183:=.of Tryz.func183 kA kA
theorem zwj:Fun Tryz.prog 191:=.of Tryz.func191 kA kA
theorem zhq:Fun Tryz.prog 216:=.of Tryz.func216 kA kA
theorem zvu:Fun Tryz.prog 217:=.of Tryz.func217 kA kA
theorem zck:Fun Tryz.prog 229:=.of Tryz.func229 kA kA
theorem zn0:Fun Tryz.prog 245:=.of Tryz.func245 kA kA
theorem zm3:Fun Tryz.prog 246:=.of Tryz.func246 kA kA
theorem zwa:Fun Tryz.prog 247:=.of Tryz.func247 kA kA
theorem zvz:Fun Tryz.prog 260:=.of Tryz.func260 kA kA
theorem zt8:Fun Tryz.prog 267:=.of Tryz.func267 kA kA
theorem K8:Fun Tryz.prog 269:=.of Tryz.func269 kA kA
theorem zt4:Fun Tryz.prog 270:=.of Tryz.func270 kA kA
theorem ztC:Fun Tryz.prog 275:=.of Tryz.func275 kA kA
theorem zvV:Fun Tryz.prog 276:=.of Tryz.func276 kA kA
theorem zvc:Fun Tryz.prog 277:=.of Tryz.func277 kA kA
theorem zmg:Fun Tryz.prog 278:=.of Tryz.func278 kA kA
theorem K9:Fun Tryz.prog 279:=.of Tryz.func279 kA kA
theorem zuE:Fun Tryz.prog 280:=.of Tryz.func280 kA kA
theorem zs4:Fun Tryz.prog 281:=.of Tryz.func281 kA kA
theorem ztn:Fun Tryz.prog 282:=.of Tryz.func282 kA kA
theorem zv0:Fun Tryz.prog 283:=.of Tryz.func283 kA kA
theorem zur:Fun Tryz.prog 284:=.of Tryz.func284 kA kA
theorem zuo:Fun Tryz.prog 285:=.of Tryz.func285 kA kA
theorem znA:Fun Tryz.prog 286:=.of Tryz.func286 kA kA
theorem zuI:Fun Tryz.prog 287:=.of Tryz.func287 kA kA
theorem zvf:Fun Tryz.prog 288:=.of Tryz.func288 kA kA
theorem zuS:Fun Tryz.prog 289:=.of Tryz.func289 kA kA
theorem zs1:Fun Tryz.prog 96:=.of Tryz.func96 kA kA
theorem zxL:Fun Tryz.prog 97:=.of Tryz.func97 kA kA
theorem zxj:Fun Tryz.prog 98:=.of Tryz.func98 kA kA
theorem zw8:Fun Tryz.prog 99:=.of Tryz.func99 kA kA
theorem Zd:KP (α:=Int) Tryz.prog 3 (.int .i64):=zhb kA
theorem mixed:Tryz.prog.follows .mixedOrders=true:=kA
theorem Xn:MpT Tryz.prog 143 3 4 (.bool false):=⟨kA,.of kA⟩
theorem zeL:MpT Tryz.prog 146 3 143 (.map none):=⟨kA,.of kA⟩
theorem zhp:MpT Tryz.prog 148 3 3 (.int .i64 0):=⟨kA,.of kA⟩
theorem zbL:MpT Tryz.prog 149 3 37 (.slice none 0 0):=⟨kA,.of kA⟩
theorem zdq:PlT Tryz.prog 34 #[(0,1),(1,1)] (.agg #[(.int .i64 0),(.int .i64 0)]):=⟨.of kA,kA,fun w=>kA⟩
theorem XW:PlT Tryz.prog 36 #[(0,1),(1,1),(2,1),(3,1),(4,1),(5,1),(6,1),(7,1),(8,1),(9,1),(10,2),(12,2)] (.agg #[(.int .i64 0),(.int .i64 0),(.int .i64 0),(.int .i64 0),(.int .i64 0),(.int .i64 0),(.int .i64 0),(.int .i64 0),(.int .i64 0),(.int .i64 0),(.int .i64 0),(.int .i64 0),(.int .i64 0),(.int .i64 0)]):=⟨.of kA,kA,fun w=>kA⟩
theorem zn3:ScT Tryz.prog 143:=.of kA
theorem Wj:ScT Tryz.prog 184:=.of kA
theorem ZV:ScT Tryz.prog 216:=.of kA
theorem Ql:ScT Tryz.prog 3:=.of kA
theorem Vy:ScT Tryz.prog 37:=.of kA
theorem zbW:ScT Tryz.prog 4:=.of kA
theorem UP:SlT Tryz.prog 282 36 14:=.of kA
theorem Zb:SlT Tryz.prog 37 3 1:=.of kA
theorem KY:SlT Tryz.prog 64 39 19:=.of kA
theorem zu0:SzT Tryz.prog 143 1:=.of kA
theorem Q3:SzT Tryz.prog 216 1:=.of kA
theorem ztx:SzT Tryz.prog 279 9:=.of kA
theorem U5:SzT Tryz.prog 3 1:=.of kA
theorem zih:SzT Tryz.prog 34 2:=.of kA
theorem Jn:SzT Tryz.prog 36 14:=.of kA
theorem U0:SzT Tryz.prog 39 19:=.of kA
theorem zjL:SzT Tryz.prog 4 1:=.of kA
theorem zxB:Vv Tryz.prog 143 (.map none):=.of kA
theorem zyo:Vv Tryz.prog 216 (.int .u64 0):=.of kA
theorem zsn:Vv Tryz.prog 279 (.agg #[(.pointer none),(.pointer none),(.pointer none),(.pointer none),(.pointer none),(.pointer none),(.pointer none),(.pointer none),(.pointer none)]):=.of kA
theorem zhH:Vv Tryz.prog 36 (.agg #[(.int .i64 0),(.int .i64 0),(.int .i64 0),(.int .i64 0),(.int .i64 0),(.int .i64 0),(.int .i64 0),(.int .i64 0),(.int .i64 0),(.int .i64 0),(.int .i64 0),(.int .i64 0),(.int .i64 0),(.int .i64 0)]):=.of kA
theorem zb0:Vv Tryz.prog 39 (.agg #[(.int .i64 0),(.int .i64 0),(.int .i64 0),(.int .i64 0),(.int .i64 0),(.int .i64 0),(.int .i64 0),(.int .i64 0),(.int .i64 0),(.int .i64 0),(.int .i64 0),(.int .i64 0),(.int .i64 0),(.int .i64 0),(.int .i64 0),(.int .i64 0),(.int .i64 0),(.int .i64 0),(.slice none 0 0)]):=.of kA
theorem Uu:QM Tryz.prog 248 0 0:=.of kA
theorem zam:Fun Tryz.prog 186:=.of Tryz.func186 kA kA
theorem V5:ScT Tryz.prog 80:=.of kA
theorem Kc:SlT Tryz.prog 80 5 1:=.of kA
theorem zy8:SzT Tryz.prog 80 1:=.of kA
theorem zc8 (I:Qu)(rb:Nat)(b:Bool):Ui Tryz.prog 186 [ZI rb,.bool b] I [] (fun v I' L'=>v= .tuple #[]∧I'=I∧L'=[]∧b=true) (fun v=>v=(.iface 50 (.int .i64 10))∧b=false):=by
 intro g H w hw;refine qe Tryz.func186 Tryz.ntmps186 hw ?_;have hIc:=zB6 I;refine zR (zM<|zO (zN ?_));refine zI ?_ ?_<;>intro hc5
 ·
  refine Qh<|zV (zc7 rfl kA)<|zgb rfl ?_
  repeat (first | apply UD | apply KD)
  exact zct hIc ⟨rfl,by simpa using hc5⟩
 exact Qr<|YX (Yu rfl (fun w hw=>.inl ⟨_,I,[],rfl,hIc,hw.drop,rfl,rfl,rfl,by simpa using hc5⟩))
theorem zkM {I:Qu}{av:Option Addr}{n c:Nat}{bs:List Nat}(hS:Sl I 1 VY av n c bs)(_hb:∀ x∈bs,x<256)(rb:Nat){k:Nat}(hk:k≤1000000000000):Ui Tryz.prog 230 [ZI rb,.int .i64 k] I [(rb,.cells #[.slice av n c] 248 (0,0))] (fun v I' L'=>v= .slice av k k∧I'=I∧L'=[(rb,.cells #[.slice (zo3 av c k 1) (n-k) (c-k)] 248 (0,0))]∧k≤n) (fun v=>v=(.iface 50 (.int .i64 10))∧n<k):=by
 intro g H w hw;refine qe Tryz.func230 Tryz.ntmps230 hw ?_;have hIc:=zB6 I;have hcp:=hS.cap;refine zR (zA<|zN (zR ?_));refine zM ?_;refine zM ?_;refine zM<|zV (QC rfl) ?_
 refine zF Uu ?_;refine zL V5<|zQ Kc<|zC ?_
 refine zx5 [_,_] rfl zam .nil (zc8 I rb (decide ((k:Int)≤(n:Int)))) ?_ (fun pv hpv=>by refine zx6 ?_;exact (⟨hpv.1,by have h:=hpv.2;simp at h;omega⟩));rintro vv1 I1 L1 hI1 ⟨rfl,rfl,rfl,hkn⟩;have hIc:=hIc.trans hI1;have hkn:k≤n:=(by simpa using hkn);refine zN (zR ?_);refine zM<|zV (QC rfl) ?_
 refine zF Uu ?_;refine zL V5<|zM ?_
 refine zM<|zV (ZA rfl rfl rfl Kc (fun hg=>kB))<|zA<|zN (zR ?_)
 refine zM ?_;refine zM<|zV (QC rfl) ?_
 refine zF Uu ?_;refine zL V5<|zM ?_
 refine zV (Z9 rfl rfl Kc (fun hg=>kB))<|zV (QC rfl) ?_
 refine zF Uu ?_;refine zS zy8 ?_;refine zN (zR ?_);refine zM<|zA (zN (Qs ?_))
 exact Qx rfl rfl (fun w hw=>.inl ⟨_,I1,_,rfl,hIc,hw,⟨by rfl,rfl,rfl,hkn⟩⟩)
end
end Go.Proofs.YtjblkbkmblkgoaaGreat
section
namespace Go.Kn
open Go
theorem zi6 (i c:Nat):((((i:Int)==0)||((c:Int) != 0))&&(decide ((i:Int)<9)||decide ((c:Int)≤1)))=((i==0||c != 0)&&(decide (i<9)||decide (c≤1))):=by
 have e1:(((i:Int)==0))=(i==0):=(by rw [Bool.eq_iff_iff];simp);have e2:(((c:Int) != 0))=(c != 0):=(by rw [Bool.eq_iff_iff];simp);have e3:decide ((i:Int)<9)=decide (i<9):=(by rw [Bool.eq_iff_iff];simp;omega);have e4:decide ((c:Int)≤1)=decide (c≤1):=(by rw [Bool.eq_iff_iff];simp;omega);rw [e1,e2,e3,e4]
theorem zfZ {i c u:Nat}(hi:i≤9)(hc:((i==0||c != 0)&&(decide (i<9)||decide (c≤1)))=true)(hu:u<128^i):u+c % 128*128^i<2^64∧(i<9→u+c % 128*128^i<128^(i+1)):=by
 have h1:i<9→u+c % 128*128^i<128^(i+1):=fun h=>by
  have:=Nat.mul_le_mul_right (128^i) (show c % 128≤127 by omega);rw [zau];omega
 refine ⟨?_,h1⟩;rcases Nat.lt_or_ge i 9 with h | h
 ·
  have h2:=h1 h;have h3:128^(i+1)≤128^9:=Nat.pow_le_pow_right kB kB;simp at h3;omega
 ·
  have e:i=9:=kB;subst e;simp only [Bool.and_eq_true,Bool.or_eq_true,decide_eq_true_eq] at hc;have h4:c % 128≤1:=kB;have:=Nat.mul_le_mul_right (128^9) h4;simp at this hu ⊢;omega
section
variable {bs:List Nat} {i c u:Nat}
theorem zcE (hc:bs[i]? =some c):bs.drop i=c::bs.drop (i+1):=by
 have h:=(List.getElem?_eq_some_iff.1 hc);obtain ⟨h1,h2⟩:=h;rw [List.drop_eq_getElem_cons h1,h2]
theorem zhM (h:V0 0 bs=(V0 i (bs.drop i)).map fun x=>(u+x.1,x.2))(hn:bs.length≤i):V0 0 bs=none:=by
 rw [h,List.drop_of_length_le hn];rfl
theorem zh0 (h:V0 0 bs=(V0 i (bs.drop i)).map fun x=>(u+x.1,x.2))(hc:bs[i]? =some c)(hb:((i==0||c != 0)&&(decide (i<9)||decide (c≤1)))=false):V0 0 bs=none:=by
 rw [h,zcE hc,zrp hb];rfl
theorem zir (h:V0 0 bs=(V0 i (bs.drop i)).map fun x=>(u+x.1,x.2))(hc:bs[i]? =some c)(hb:((i==0||c != 0)&&(decide (i<9)||decide (c≤1)))=true)(hl:c<128):V0 0 bs=some (u+c % 128*128^i,bs.drop (i+1)):=by
 rw [h,zcE hc,zgj hb,if_pos hl,Nat.mod_eq_of_lt hl];rfl
theorem zh8 (h:V0 0 bs=(V0 i (bs.drop i)).map fun x=>(u+x.1,x.2))(hc:bs[i]? =some c)(hb:((i==0||c != 0)&&(decide (i<9)||decide (c≤1)))=true)(hl:¬c<128):V0 0 bs=(V0 (i+1) (bs.drop (i+1))).map fun x=>(u+c % 128*128^i+x.1,x.2):=by
 rw [h,zcE hc,zgj hb,if_neg hl]
 cases V0 (i+1) (bs.drop (i+1)) with
 | none=>rfl
 | some x=>simp [Nat.add_assoc]
theorem znM (hi:i≤9)(hb:((i==0||c != 0)&&(decide (i<9)||decide (c≤1)))=true)(hl:¬c<128):i<9:=by
 simp only [Bool.and_eq_true,Bool.or_eq_true,decide_eq_true_eq] at hb;omega
theorem zfM:V0 0 bs=(V0 0 (bs.drop 0)).map fun x=>(0+x.1,x.2):=by
 rw [List.drop_zero];cases V0 0 bs with
 | none=>rfl
 | some x=>simp
end
def zcs (bs:List Nat):Option (Nat×List Nat):=(V0 0 bs).bind fun x=>if x.1≤x.2.length then some x else none
theorem zfa {bs r:List Nat}{u:Nat}(h:V0 0 bs=some (u,r))(hl:u≤r.length):zcs bs=some (u,r):=by simp [zcs,h,hl]
theorem zge {bs r:List Nat}{u:Nat}(h:V0 0 bs=some (u,r))(hl:¬u≤r.length):zcs bs=none:=by simp [zcs,h,hl]
theorem zmP {bs:List Nat}(h:V0 0 bs=none):zcs bs=none:=by simp [zcs,h]
theorem Ul {i:Nat}:∀ {bs r:List Nat} {u:Nat},V0 i bs=some (u,r)→∃ p,bs=p++r
 | [],r,u,h=>by simp [V0] at h
 | c::bs,r,u,h=>by
  simp only [V0] at h;split at h
  ·
   split at h
   ·
    simp only [Option.some.injEq,Prod.mk.injEq] at h;exact ⟨[c],by rw [←h.2];rfl⟩
   ·
    cases e:V0 (i+1) bs with
    | none=>rw [e] at h;cases h
    | some x=>
     obtain ⟨x,r'⟩:=x;rw [e] at h;simp only [Option.map_some,Option.some.injEq,Prod.mk.injEq] at h;obtain ⟨p,hp⟩:=Ul e;exact ⟨c::p,by rw [hp,←h.2];rfl⟩
  ·
   cases h
structure Vc where
 k:Int
 n:Int
 s:ByteArray
 a:Option Addr
 m:Nat
 c:Nat
def Zg (x:Vc):List Value:=[.int .i64 x.k,.int .i64 x.n,.string x.s,.slice x.a x.m x.c]
theorem Vg (x:Vc):(Zg x).length=4:=rfl
inductive VaR (I:Qu):Va→Vc→Prop
 | int (n:Int):VaR I (.int n) ⟨1,n,⟨#[]⟩,none,0,0⟩
 | text (s:List Nat):VaR I (.text s) ⟨2,0,UY s,none,0,0⟩
 | list {l:List Va} {hs:List Vc} {a:Option Addr} {m c:Nat} (h:Sl I 4 Zg a m c hs) (hl:l.length=hs.length) (hr:∀ (k:Nat) (x:Va) (y:Vc),l[k]? =some x→hs[k]? =some y→VaR I x y):VaR I (.list l) ⟨3,0,⟨#[]⟩,a,m,c⟩
theorem VaR.mono {I I':Qu}{v:Va}{x:Vc}(h:VaR I v x)(hI:HLe I I'):VaR I' v x:=by
 induction h with
 | int n=>exact .int n
 | text s=>exact .text s
 | list h hl _ ih=>exact .list (h.mono hI) hl ih
end Go.Kn
namespace Go.Kn
open Go
/-! ### A value, by its first byte -/
section
variable {D D' u k:Nat} {bs r r':List Nat} {l:List Va}
theorem zfr {c:Nat}(hc:bs[0]? =some c):Kl D bs=zdw (zuk D) (c::bs.drop 1):=by
 rw [zcC,←zcE hc,List.drop_zero]
theorem zmh (h:bs.length<1):Kl D bs=none:=by
 have:bs=[]:=List.length_eq_zero_iff.1 kB;subst this;rw [zcC];rfl
theorem zoE (hc:bs[0]? =some 1)(h:V0 0 (bs.drop 1)=some (u,r)):Kl D bs=some (.int (zc0 u),r):=by
 rw [zfr hc];simp only [zdw,if_true,h,Option.map_some]
theorem zi3 (hc:bs[0]? =some 1)(h:V0 0 (bs.drop 1)=none):Kl D bs=none:=by
 rw [zfr hc];simp only [zdw,if_true,h,Option.map_none]
theorem zyw (hc:bs[0]? =some 2):Kl D bs=(zcs (bs.drop 1)).bind fun x=>some (.text (x.2.take x.1),x.2.drop x.1):=by
 rw [zfr hc];simp only [zdw,Nat.reduceEqDiff,if_false,if_true,zcs]
 cases V0 0 (bs.drop 1) with
 | none=>rfl
 | some x=>simp only [Option.bind_some];by_cases h:x.1≤x.2.length<;>simp [h]
theorem zjy (hc:bs[0]? =some 2)(h:zcs (bs.drop 1)=some (u,r)):Kl D bs=some (.text (r.take u),r.drop u):=by rw [zyw hc,h];rfl
theorem zfE (hc:bs[0]? =some 2)(h:zcs (bs.drop 1)=none):Kl D bs=none:=by rw [zyw hc,h];rfl
theorem zqp (hc:bs[0]? =some 3):Kl D bs=(zuk D).bind fun f=>(zcs (bs.drop 1)).bind fun x=>(zac f x.1 x.2).map fun y=>(.list y.1,y.2):=by
 rw [zfr hc];simp only [zdw,Nat.reduceEqDiff,if_false,if_true,zcs]
 cases zuk D with
 | none=>rfl
 | some f=>
  simp only [Option.bind_some]
  cases V0 0 (bs.drop 1) with
  | none=>rfl
  | some x=>simp only [Option.bind_some];by_cases h:x.1≤x.2.length<;>simp [h]
theorem zje (hc:bs[0]? =some 3)(h:zcs (bs.drop 1)=some (u,r))(hl:zac (Kl D') u r=some (l,r')):Kl (D'+1) bs=some (.list l,r'):=by
 rw [zqp hc,h];simp only [zuk,Option.bind_some,hl,Option.map_some]
theorem zf1 (hD:D=0)(hc:bs[0]? =some 3):Kl D bs=none:=by subst hD;rw [zqp hc];rfl
theorem zfP (hc:bs[0]? =some 3)(h:zcs (bs.drop 1)=none):Kl D bs=none:=by rw [zqp hc,h];cases zuk D<;>rfl
theorem zcc (hc:bs[0]? =some 3)(h:zcs (bs.drop 1)=some (u,r))(hl:zac (Kl D') u r=none):Kl (D'+1) bs=none:=by
 rw [zqp hc,h];simp only [zuk,Option.bind_some,hl,Option.map_none]
theorem znq {c:Nat}(hc:bs[0]? =some c)(h1:c≠1)(h2:c≠2)(h3:c≠3):Kl D bs=none:=by
 rw [zfr hc];simp only [zdw,if_neg h1,if_neg h2,if_neg h3]
def LoQ (f:List Nat→Option (Va×List Nat))(u:Nat)(r:List Nat)(k:Nat)(xs:List Va)(r2:List Nat):Prop:=zac f u r=(zac f (u-k) r2).map fun y=>(xs++y.1,y.2)
theorem LoQ.start {f:List Nat→Option (Va×List Nat)}:LoQ f u r 0 [] r:=by
 unfold LoQ;rw [Nat.sub_zero];cases zac f u r<;>rfl
theorem LoQ.bad {f:List Nat→Option (Va×List Nat)}{xs:List Va}{r2:List Nat}(h:LoQ f u r k xs r2)(hk:k<u)(hf:f r2=none):zac f u r=none:=by
 rw [h,show u-k=(u-(k+1))+1 by omega];simp only [zac,hf,Option.bind_none,Option.map_none]
theorem LoQ.step {f:List Nat→Option (Va×List Nat)}{xs:List Va}{r2 r3:List Nat}{x:Va}(h:LoQ f u r k xs r2)(hk:k<u)(hf:f r2=some (x,r3)):LoQ f u r (k+1) (xs++[x]) r3:=by
 unfold LoQ;rw [h,show u-k=(u-(k+1))+1 by omega];simp only [zac,hf,Option.bind_some]
 cases zac f (u-(k+1)) r3 with
 | none=>rfl
 | some y=>simp
theorem LoQ.done {f:List Nat→Option (Va×List Nat)}{xs:List Va}{r2:List Nat}(h:LoQ f u r k xs r2)(hk:u≤k):zac f u r=some (xs,r2):=by
 rw [h,show u-k=0 by omega];simp [zac]
end
def zoA (I:Qu)(xs:List Va)(hs:List Vc):Prop:=xs.length=hs.length∧∀ (k:Nat) (x:Va) (y:Vc),xs[k]? =some x→hs[k]? =some y→VaR I x y
theorem zoA.nil {I:Qu}:zoA I [] []:=⟨rfl,fun k x y h=>by simp at h⟩
theorem zoA.mono {I I':Qu}{xs:List Va}{hs:List Vc}(h:zoA I xs hs)(hI:HLe I I'):zoA I' xs hs:=⟨h.1,fun k x y a b=>(h.2 k x y a b).mono hI⟩
theorem zoA.snoc {I:Qu}{xs:List Va}{hs:List Vc}{x:Va}{y:Vc}(h:zoA I xs hs)(hx:VaR I x y):zoA I (xs++[x]) (hs++[y]):=by
 refine ⟨by simp [h.1],fun k a b h1 h2=>?_⟩;rcases Nat.lt_or_ge k xs.length with hk | hk
 ·
  rw [List.getElem?_append_left hk] at h1;rw [List.getElem?_append_left (by rw [←h.1];exact hk)] at h2;exact h.2 k a b h1 h2
 ·
  rw [List.getElem?_append_right hk] at h1;rw [List.getElem?_append_right (by rw [←h.1];exact hk),←h.1] at h2
  cases e:k-xs.length with
  | zero=>rw [e] at h1 h2;simp at h1 h2;rw [←h1,←h2];exact hx
  | succ j=>rw [e] at h1;simp at h1
theorem zfF {f:List Nat→Option (Va×List Nat)}(hf:∀ {b v r},f b=some (v,r)→∃ p,b=p++r):∀ {n:Nat} {b:List Nat} {l:List Va} {r:List Nat},zac f n b=some (l,r)→∃ p,b=p++r
 | 0,b,l,r,h=>by simp only [zac,Option.some.injEq,Prod.mk.injEq] at h;exact ⟨[],by rw [h.2];rfl⟩
 | n+1,b,l,r,h=>by
  simp only [zac] at h
  cases e:f b with
  | none=>rw [e] at h;cases h
  | some x=>
   rw [e] at h;simp only [Option.bind_some] at h
   cases e':zac f n x.2 with
   | none=>rw [e'] at h;cases h
   | some y=>
    rw [e'] at h;simp only [Option.map_some,Option.some.injEq,Prod.mk.injEq] at h;obtain ⟨p,hp⟩:=hf e;obtain ⟨q,hq⟩:=zfF hf e';exact ⟨p++q,by rw [hp,hq,←h.2,List.append_assoc]⟩
theorem zfs {sub:Option (List Nat→Option (Va×List Nat))}{b:List Nat}{v:Va}{r:List Nat}(hs:∀ f,sub=some f→∀ {b v r},f b=some (v,r)→∃ p,b=p++r)(h:zdw sub b=some (v,r)):∃ p,b=p++r:=by
 cases b with
 | nil=>simp [zdw] at h
 | cons k b=>
  simp only [zdw] at h;split at h
  ·
   cases e:V0 0 b with
   | none=>rw [e] at h;cases h
   | some x=>
    rw [e] at h;simp only [Option.map_some,Option.some.injEq,Prod.mk.injEq] at h;obtain ⟨p,hp⟩:=Ul (r:=x.2) (u:=x.1) e;exact ⟨k::p,by rw [hp,←h.2];rfl⟩
  ·
   split at h
   ·
    cases e:V0 0 b with
    | none=>rw [e] at h;cases h
    | some x=>
     rw [e] at h;simp only [Option.bind_some] at h;split at h
     ·
      simp only [Option.some.injEq,Prod.mk.injEq] at h;obtain ⟨p,hp⟩:=Ul (r:=x.2) (u:=x.1) e;exact ⟨k::p++x.2.take x.1,by rw [hp,←h.2];simp⟩
     ·
      cases h
   ·
    split at h
    ·
     cases hf:sub with
     | none=>rw [hf] at h;cases h
     | some f=>
      rw [hf] at h;simp only [Option.bind_some] at h
      cases e:V0 0 b with
      | none=>rw [e] at h;cases h
      | some x=>
       rw [e] at h;simp only [Option.bind_some] at h;split at h
       ·
        cases e':zac f x.1 x.2 with
        | none=>rw [e'] at h;cases h
        | some y=>
         rw [e'] at h;simp only [Option.map_some,Option.some.injEq,Prod.mk.injEq] at h;obtain ⟨p,hp⟩:=Ul (r:=x.2) (u:=x.1) e;obtain ⟨q,hq⟩:=zfF (hs f hf) (l:=y.1) (r:=y.2) e';exact ⟨k::p++q,by rw [hp,hq,←h.2];simp⟩
       ·
        cases h
    ·
     cases h
theorem zfG {D:Nat}:∀ {b:List Nat} {v:Va} {r:List Nat},Kl D b=some (v,r)→∃ p,b=p++r:=by
 induction D with
 | zero=>intro b v r h;exact zfs (sub:=none) (by intro f hf;cases hf) h
 | succ D ih=>intro b v r h;exact zfs (sub:=some (Kl D)) (by rintro f hf;cases hf;exact ih) h
theorem zs2 {D:Nat}{b:List Nat}{v:Va}{r:List Nat}(h:Kl D b=some (v,r)):r.length≤b.length:=by
 obtain ⟨p,hp⟩:=zfG h;rw [hp];simp
theorem zk2 {D:Nat}{b:List Nat}{v:Va}{r:List Nat}(h:Kl D b=some (v,r)):∀ z∈r,z∈b:=by
 obtain ⟨p,hp⟩:=zfG h;intro z hz;rw [hp];exact List.mem_append_right _ hz
theorem VS (xs:List Vc):Y4 (xs.flatMap Zg)=true:=YR (fun _=>rfl) xs
theorem zoX {bs r:List Nat}{u:Nat}(h:zcs bs=some (u,r)):u≤r.length∧r.length≤bs.length∧∀ x∈r,x∈bs:=by
 unfold zcs at h
 cases e:V0 0 bs with
 | none=>rw [e] at h;cases h
 | some y=>
  obtain ⟨y,r'⟩:=y;rw [e] at h;simp only [Option.bind_some] at h;split at h
  ·
   simp only [Option.some.injEq,Prod.mk.injEq] at h;obtain ⟨p,hp⟩:=Ul e;rw [←h.1,←h.2];exact ⟨by assumption,by rw [hp];simp,fun x hx=>by rw [hp];exact List.mem_append_right _ hx⟩
  ·
   cases h
theorem zwJ {bs r:List Nat}{u:Nat}(h:V0 0 bs=some (u,r)):r.length≤bs.length∧∀ x∈r,x∈bs:=by
 obtain ⟨p,hp⟩:=Ul h;exact ⟨by rw [hp];simp,fun x hx=>by rw [hp];exact List.mem_append_right _ hx⟩
end Go.Kn
end
namespace Go.Proofs.YtjblkbkmblkgoaaGreat
section
open Go Go.Kn Go.Proofs
theorem zf9:CvT Tryz.prog 5 276 .u64:=⟨kA,kA⟩
theorem zhk:Fun Tryz.prog 230:=.of Tryz.func230 kA kA
theorem zvv:ScT Tryz.prog 5:=.of kA
variable{I:Qu}{av:Option Addr}{n c:Nat}{bs:List Nat}
theorem zjm (hS:Sl I 1 VY av n c bs)(hb:∀ x∈bs,x<256)(rb:Nat):Ui Tryz.prog 232 [ZI rb] I [(rb,.cells #[.slice av n c] 248 (0,0))] (fun v I' L'=>∃ (u:Nat) (r:List Nat) (a':Option Addr) (n' c':Nat),V0 0 bs=some (u,r)∧v= .int .u64 u∧I'=I∧L'=[(rb,.cells #[.slice a' n' c'] 248 (0,0))]∧Sl I 1 VY a' n' c' r) (fun v=>v=(.iface 50 (.int .i64 10))∧V0 0 bs=none):=by
 intro g H w hw;refine qe Tryz.func232 Tryz.ntmps232 hw ?_;have hIc:=zB6 I;have hln:=hS.len;refine zR (zA<|zN (zR<|zA (zN (Qw<|zU [(0,_)] (fun T L0 mz E I' loc'=>∃ (i:Nat) (u:Nat) (a2:Option Addr) (n2 c2:Nat),mz=10-i∧E=(2,.int .u64 u)::(3,.int .i64 i)::T∧I=I'∧[(rb,.cells #[.slice a2 n2 c2] 248 (0,0))]=loc'∧i≤10∧Sl I 1 VY a2 n2 c2 (bs.drop i)∧u<128^i∧V0 0 bs=((V0 i (bs.drop i)).map fun x=>(u+x.1,x.2))∧i≤9) ?_ (h:=⟨0,0,av,n,c,rfl,rfl,rfl,rfl,Nat.zero_le _,by rw [List.drop_zero];exact hS,by decide,zfM,Nat.zero_le _⟩)))));rintro mz E I' loc' ⟨i,u,a2,n2,c2,rfl,rfl,rfl,rfl,_,hS2,hu,hnum,hi9⟩;have hl2:=hS2.len;have hdl:(bs.drop i).length=bs.length-i:=List.length_drop ..;refine Qm (Qw (zR (zM ?_)));refine zx5 [_,_] rfl zhk (.cons .here .nil) (zkM hS2 (fun x hx=>hb x (List.mem_of_mem_drop hx)) rb (k:=1) kC) ?_ (fun pv hpv=>by refine zx6 ?_;exact (⟨hpv.1,zhM hnum (by have h:=hpv.2;omega)⟩));rintro vv2 I2 L2 hI2 ⟨rfl,rfl,rfl,h1⟩;have hIc:=hIc.trans hI2;obtain ⟨c0,hc0⟩:∃ c0,bs[i]? =some c0:=⟨_,List.getElem?_eq_getElem kB⟩;have hc256:=hb c0 (List.mem_of_getElem? hc0);have hcut:=(hS2.take h1).cut;have hcx:((bs.drop i).take 1)[0]? =some c0:=(by rw [zcE hc0];rfl);have hdr:(bs.drop i).drop 1=bs.drop (i+1):=(by rw [List.drop_drop]);refine zV (zX Kc hcut)<|zV (Qc rfl zvv (fun hg=>by exact zBZ hcut hcx rfl))<|zA<|zN (zR ?_)
 refine zM ?_;refine zM<|zC ?_
 refine zM ?_;refine QI 3 rfl rfl rfl ?_;refine zJ (Qe rfl) ?_;refine zJ (QA rfl rfl rfl)<|Q9 rfl rfl rfl rfl rfl ?_
 refine zM<|Qt 7 rfl rfl rfl ?_
 refine zK (Qe rfl) ?_;refine zK (QA rfl rfl rfl)<|zK (Qe rfl)<|QI 10 rfl rfl rfl ?_
 refine zJ (Qe rfl) ?_;refine zJ (QA rfl rfl rfl)<|zcD rfl rfl rfl (.some rfl rfl rfl rfl gbt) rfl rfl<|QE rfl rfl rfl rfl rfl ?_
 refine zx5 [_,_] rfl zam .nil (zc8 I2 rb _) ?_ (fun pv hpv=>by refine zx6 ?_;exact (⟨hpv.1,zh0 hnum hc0 (by rw [←zi6];exact hpv.2)⟩));rintro vv3 I3 L3 hI3 ⟨rfl,rfl,rfl,hcond⟩;have hIc:=hIc.trans hI3;rw [zi6] at hcond;have hsm:=zfZ hi9 hcond hu;refine zN (zR ?_);refine zM ?_;refine zM<|zV (Vb (znH rfl rfl) (congrArg (Value.int .u8) (zxJ hc256)))<|zV (Vb (ZS rfl zf9) (congrArg (Value.int .u64) (ZW ⟨kB,kB⟩)))<|zM ?_
 refine zB<|zV (Vb (znw rfl rfl (fun hg=>kB)) (congrArg (Value.int .u64) (zxi hi9 kB)))<|zV (Vb (zr2 rfl rfl) (congrArg (Value.int .u64) (zwI hu hsm.1)))<|zA<|zN (zR ?_)
 refine zM<|zC (zN ?_)
 refine zI ?_ ?_<;>intro hc36
 ·
  have hl:c0<128:=(by have h:=hc36;simp at h;omega);refine zR (zM<|zA (zN (Qs (Qi (Qf (Qf (Qi ?_)))))));exact Qx rfl rfl (fun w hw=>.inl ⟨_,I3,_,rfl,hIc,hw,_,_,_,_,_,zir hnum hc0 hcond hl,rfl,rfl,rfl,by rw [←hdr];exact hS2.drop h1⟩)
 have hge:¬c0<128:=(by have h:=hc36;simp at h;omega);have hlt9:=znM hi9 hcond hge;refine Qr (Qk (Qd (Qh (zM ?_))));refine zB<|zA (Qb ?_)
 exact zm (h:=⟨10-(i+1),kB,i+1,_,_,_,_,rfl,rfl,rfl,rfl,kB,by rw [←hdr];exact hS2.drop h1,hsm.2 hlt9,zh8 hnum hc0 hcond hge,kB⟩)
theorem Zm:AgT Tryz.prog 158 4:=.of kA
theorem bst:BsT Tryz.prog 80 5 9:=⟨kA,kA,kA⟩
theorem KG:CvT Tryz.prog 276 3 .i64:=⟨kA,kA⟩
theorem VK:CvT Tryz.prog 3 276 .u64:=⟨kA,kA⟩
theorem ztK:CvT Tryz.prog 5 3 .i64:=⟨kA,kA⟩
theorem ZG:ElT Tryz.prog 156 158 4 56:=.of kA
theorem Zh:QM Tryz.prog 158 0 0:=.of kA
theorem Y3:QM Tryz.prog 158 1 1:=.of kA
theorem Yv:QM Tryz.prog 158 2 2:=.of kA
theorem QO:QM Tryz.prog 158 3 3:=.of kA
theorem zg3:Fun Tryz.prog 185:=.of Tryz.func185 kA kA
theorem zwh:Fun Tryz.prog 231:=.of Tryz.func231 kA kA
theorem zkx:Fun Tryz.prog 232:=.of Tryz.func232 kA kA
theorem zmG:Fun Tryz.prog 233:=.of Tryz.func233 kA kA
theorem Zo:ScT Tryz.prog 156:=.of kA
theorem YY:SzT Tryz.prog 156 1:=.of kA
theorem Zx:SzT Tryz.prog 158 4:=.of kA
theorem zvr:SzT Tryz.prog 9 1:=.of kA
theorem YG:Vv Tryz.prog 158 (.agg #[(.int .i64 0),(.int .i64 0),(.string ⟨#[]⟩),(.slice none 0 0)]):=.of kA
variable{u:Nat}
theorem zqk (I:Qu)(hu:u<2^64):ZJ Tryz.prog 231 [.int .u64 u] I (.int .i64 (zc0 u)):=by
 intro g H w hw;refine qe Tryz.func231 Tryz.ntmps231 hw ?_;refine zR (zA<|zN (zR ?_));refine zM<|zV (Vb (zhO rfl rfl kC (rfl:min _ _=1)) (congrArg (Value.int .u64) (zsr u 1)))<|zV (ZS rfl KG)<|zM ?_
 refine zV (znH rfl rfl)<|zV (ZS rfl KG)<|zV (zi8 rfl)<|zV (Vb (zls rfl rfl) (congrArg (Value.int .i64) (zlZ hu)))<|zA (zN (Qs ?_))
 exact Qx rfl rfl (fun w hw=>⟨rfl,hw.drop⟩)
theorem zjg (hS:Sl I 1 VY av n c bs)(hb:∀ x∈bs,x<256)(rb:Nat)(hn:n≤100000):Ui Tryz.prog 233 [ZI rb] I [(rb,.cells #[.slice av n c] 248 (0,0))] (fun v I' L'=>∃ (u:Nat) (r:List Nat) (a':Option Addr) (n' c':Nat),zcs bs=some (u,r)∧v= .int .i64 u∧I'=I∧L'=[(rb,.cells #[.slice a' n' c'] 248 (0,0))]∧Sl I 1 VY a' n' c' r) (fun v=>v=(.iface 50 (.int .i64 10))∧zcs bs=none):=by
 intro g H w hw;refine qe Tryz.func233 Tryz.ntmps233 hw ?_;have hIc:=zB6 I;have hln:=hS.len;refine zR (zA<|zN (zR ?_));refine zM ?_;refine zx5 [_] rfl zkx (.cons .here .nil) (zjm hS hb rb) ?_ (fun pv hpv=>by refine zx6 ?_;exact (⟨hpv.1,zmP hpv.2⟩));rintro vv1 I1 L1 hI1 ⟨u,r,a2,n2,c2,hnum,rfl,rfl,rfl,hS2⟩;have hIc:=hIc.trans hI1;have hl2:=hS2.len;obtain ⟨hle,hsub⟩:=zwJ hnum;obtain ⟨u9,_,_,_,hu64⟩:=WN hb kC hnum;refine zA<|zN (zR ?_)
 refine zM ?_;refine zM ?_;refine zM<|zV (QC rfl) ?_
 refine zF Uu ?_;refine zL V5<|zQ Kc<|zV (Vb (ZS rfl VK) (congrArg (Value.int .u64) (ZW (n:=(n2:Int)) ⟨kB,kB⟩)))<|zC ?_
 refine zx5 [_,_] rfl zam .nil (zc8 I1 rb _) ?_ (fun pv hpv=>by refine zx6 ?_;exact (⟨hpv.1,zge hnum (by have h:=hpv.2;simp at h;omega)⟩));rintro vv2 I2 L2 hI2 ⟨rfl,rfl,rfl,hfit⟩;have hIc:=hIc.trans hI2;have hul:u≤r.length:=(by simp at hfit;omega);refine zN (zR ?_);refine zM<|zV (Vb (ZS rfl KG) (congrArg (Value.int .i64) (YJ (n:=(u:Int)) ⟨kB,kB⟩)))<|zA (zN (Qs ?_))
 exact Qx rfl rfl (fun w hw=>.inl ⟨_,I2,_,rfl,hIc,hw,u,r,_,_,_,zfa hnum hul,rfl,rfl,rfl,hS2⟩)
def zBd (D:Nat):Prop:=∀ (dep:Int),0≤dep→dep+D=16→∀ {I:Qu} {av:Option Addr} {n c:Nat} {bs:List Nat} (_hS:Sl I 1 VY av n c bs) (_hb:∀ x∈bs,x<256) (rb:Nat) (_hn:n≤100000),Ui Tryz.prog 185 [ZI rb,.int .i64 dep] I [(rb,.cells #[.slice av n c] 248 (0,0))] (fun v I' L'=>∃ (x:Va) (r:List Nat) (a':Option Addr) (n' c':Nat) (cv:Vc),Kl D bs=some (x,r)∧v= .agg (Zg cv).toArray∧VaR I' x cv∧L'=[(rb,.cells #[.slice a' n' c'] 248 (0,0))]∧Sl I' 1 VY a' n' c' r) (fun v=>v=(.iface 50 (.int .i64 10))∧Kl D bs=none)
variable{D:Nat}{dep:Int}
theorem zaY (ih:∀ D',D=D'+1→zBd D')(hdp0:0≤dep)(hdp:dep+D=16)(hS:Sl I 1 VY av n c bs)(hb:∀ x∈bs,x<256)(rb:Nat)(hn:n≤100000):Ui Tryz.prog 185 [ZI rb,.int .i64 dep] I [(rb,.cells #[.slice av n c] 248 (0,0))] (fun v I' L'=>∃ (x:Va) (r:List Nat) (a':Option Addr) (n' c':Nat) (cv:Vc),Kl D bs=some (x,r)∧v= .agg (Zg cv).toArray∧VaR I' x cv∧L'=[(rb,.cells #[.slice a' n' c'] 248 (0,0))]∧Sl I' 1 VY a' n' c' r) (fun v=>v=(.iface 50 (.int .i64 10))∧Kl D bs=none):=by
 intro g H w hw;refine qe Tryz.func185 Tryz.ntmps185 hw ?_;have hIc:=zB6 I;have hln:=hS.len;refine zR<|Qp YG rfl rfl (fun b_4=>zN (zR ?_))
 refine zM ?_;refine zx5 [_,_] rfl zhk (.cons (.there .here) .nil) (zkM hS hb rb (k:=1) kC) ?_ (fun pv hpv=>by refine zx6 ?_;exact (⟨hpv.1,zmh (by have h:=hpv.2;omega)⟩));rintro vv1 I1 L1 hI1 ⟨rfl,rfl,rfl,h1⟩;have hS:=hS.mono hI1;have hIc:=hIc.trans hI1;obtain ⟨c0,hc0⟩:∃ c0,bs[0]? =some c0:=⟨_,List.getElem?_eq_getElem kB⟩;have hc256:=hb c0 (List.mem_of_getElem? hc0);have hcut:=(hS.take h1).cut;have hcx:(bs.take 1)[0]? =some c0:=(by rw [←hc0];simp);have hS1:=hS.drop h1;have hb1:∀ x∈bs.drop 1,x<256:=fun x hx=>hb x (List.mem_of_mem_drop hx);refine zV (zX Kc hcut)<|zV (Qc rfl zvv (fun hg=>by exact zBZ hcut hcx rfl))<|zV (Vb (ZS rfl ztK) (congrArg (Value.int .i64) (YJ (n:=(c0:Int)) ⟨kB,kB⟩)))<|zF Zh ?_
 refine zS U5<|zN (Qm (zR<|zF Zh ?_))
 refine zL Ql<|zN (Qw (zR (zC<|zA (zN ?_))))
 refine zI ?_ ?_<;>intro hc15
 ·
  have hcn:c0=1:=(by have h:=hc15;simp at h;omega);subst hcn;have hk1:=hc0;refine Qh (zM ?_);refine zx5 [_] rfl zkx (.cons .here .nil) (zjm hS1 hb1 rb) ?_ (fun pv hpv=>by refine zx6 ?_;exact (⟨hpv.1,zi3 hk1 hpv.2⟩));rintro vv2 I2 L2 hI2 ⟨u,r,a2,n2,c2,hnum,rfl,rfl,rfl,hS2⟩;have hIc:=hIc.trans hI2;obtain ⟨u9,_,_,_,hu64⟩:=WN hb1 kC hnum;refine qcV (vs:=[_]) rfl zwh (zqk I2 hu64)<|zF Y3 ?_
  refine zS U5<|Qb (Qk (Qd (zR ?_)))
  refine zV (Qg rfl Zm (fun hg=>by exact Cells.g1) rfl) ?_;refine zh Zx<|zN (Qs ?_)
  exact ZM rfl rfl Zm Cells.g1 rfl (fun w hw=>.inl ⟨_,I2,_,rfl,hIc,hw.subL kG,.int (zc0 u),r,_,_,_,⟨1,zc0 u,⟨#[]⟩,none,0,0⟩,zoE hk1 hnum,rfl,.int _,rfl,hS2⟩)
 have hn1:c0≠1:=(by have h:=hc15;simp at h;omega);refine zR (zC<|zA (zN ?_));refine zI ?_ ?_<;>intro hc21
 ·
  have hcn:c0=2:=(by have h:=hc21;simp at h;omega);subst hcn;have hk2:=hc0;refine Qh (zM ?_);refine zM ?_;refine zx5 [_] rfl zmG (.cons .here .nil) (zjg hS1 hb1 rb kB) ?_ (fun pv hpv=>by refine zx6 ?_;exact (⟨hpv.1,zfE hk2 hpv.2⟩));rintro vv3 I3 L3 hI3 ⟨u,r,a2,n2,c2,hlen,rfl,rfl,rfl,hS2⟩;have hIc:=hIc.trans hI3;obtain ⟨hul,hrl,hrb⟩:=zoX hlen;have hrl2:r.length≤100000:=(by have:=List.length_drop (i:=1) (l:=bs);omega);have hl2:=hS2.len;refine zx5 [_,_] rfl zhk (.cons .here .nil) (zkM hS2 (fun x hx=>hb1 x (hrb x hx)) rb (k:=u) kB) ?_ (fun pv hpv=>by refine zx6 ?_;exact (absurd hpv.2 kB));rintro vv4 I4 L4 hI4 ⟨rfl,rfl,rfl,h9⟩;have hIc:=hIc.trans hI4;refine zV (Zv rfl bst (fun hg=>(hS2.take (k:=u) kB).cut))<|zF Yv ?_
  refine zS zvr<|Qb (Qk (Qd (zR ?_)))
  refine zV (Qg rfl Zm (fun hg=>by exact Cells.g1) rfl) ?_;refine zh Zx<|zN (Qs ?_)
  exact ZM rfl rfl Zm Cells.g1 rfl (fun w hw=>.inl ⟨_,I4,_,rfl,hIc,hw.subL kG,.text (r.take u),r.drop u,_,_,_,⟨2,0,UY (r.take u),none,0,0⟩,zjy hk2 hlen,rfl,.text _,rfl,hS2.drop (k:=u) kB⟩)
 have hn2:c0≠2:=(by have h:=hc21;simp at h;omega);refine zR (zC<|zA (zN ?_));refine zI ?_ ?_<;>intro hc29
 ·
  have hcn:c0=3:=(by have h:=hc29;simp at h;omega);subst hcn;have hk3:=hc0;refine zR (zM ?_);refine zM<|zC ?_
  refine zx5 [_,_] rfl zam .nil (zc8 I1 rb _) ?_ (fun pv hpv=>by refine zx6 ?_;exact (⟨hpv.1,zf1 (by have h:=hpv.2;simp at h;omega) hk3⟩));rintro vv5 I5 L5 hI5 ⟨rfl,rfl,rfl,hdep⟩;have hIc:=hIc.trans hI5;obtain ⟨D',rfl⟩:∃ D',D=D'+1:=⟨D-1,by simp at hdep;omega⟩;have hih:=ih D' rfl;refine zN (zR ?_);refine zM ?_;refine zx5 [_] rfl zmG (.cons .here .nil) (zjg hS1 hb1 rb kB) ?_ (fun pv hpv=>by refine zx6 ?_;exact (⟨hpv.1,zfP hk3 hpv.2⟩));rintro vv6 I6 L6 hI6 ⟨u,r,a2,n2,c2,hlen,rfl,rfl,rfl,hS2⟩;have hIc:=hIc.trans hI6;obtain ⟨hul,hrl,hrb⟩:=zoX hlen;have hrl2:r.length≤100000:=(by have:=List.length_drop (i:=1) (l:=bs);omega);have hl2:=hS2.len;refine zM (zN (Qw ?_));refine zU [(0,_),(1,_),(4,_),(36,_)] (fun T L0 mz E I' loc'=>∃ (k:Nat) (v3:Value) (xs:List Va) (hs:List Vc) (r3:List Nat) (a3:Option Addr) (n3:Nat) (c3:Nat) (q:Nat) (L:Go.Kn.Loc),mz=u-k∧E=(37,.int .i64 k)::T∧HLe I6 I'∧L++[(rb,.cells #[.slice a3 n3 c3] 248 (0,0)),(b_4,.cells #[.int .i64 3,.int .i64 0,.string ⟨#[]⟩,v3] 158 (0,0))]=loc'∧k≤u∧ZU 158 4 v3 hs.length (hs.flatMap Zg) L∧zoA I' xs hs∧hs.length≤k∧LoQ (Kl D') u r k xs r3∧Sl I' 1 VY a3 n3 c3 r3∧(∀ z∈r3,z<256)∧r3.length≤100000) ?_ (h:=⟨0,_,[],[],r,a2,n2,c2,0,[],rfl,rfl,zB6 _,rfl,Nat.zero_le _,ZU.nil,zoA.nil,Nat.le_refl _,LoQ.start,hS2,fun z hz=>hb1 z (hrb z hz),hrl2⟩);rintro mz E J7 loc' ⟨k,v3,xs,hs,r3,a3,n3,c3,q,L,rfl,rfl,hJ,rfl,hk,hO,hrel,hhk,hlo,hS3,hb3,hr3⟩;have hIc:=hIc.trans hJ;have hB1:=hJ;have hl3:=hS3.len;refine zR (zC (zN (Qm ?_)));refine zI ?_ ?_<;>intro hc38
  ·
   have hlt_k:k<u:=(by have h:=hc38;simp at h;omega);refine Qr (Qd (Qm (Qw ?_)));have hD:=zB6 J7;refine QJ J7 [] mixed<|zT 0 rfl (Qa rfl QO) hD<|zT 2 rfl (Qe rfl) hD<|zT 3 rfl (Qe rfl) hD<|zT 4 rfl (Ya rfl rfl rfl (fun hg=>kB)) hD ?_
   refine QU 1 5 rfl rfl kA ?_ ?_
   focus
    refine zV (Qc rfl Zo (fun hg=>by (repeat (first | exact zB1 rfl | apply zB0 | apply zB2))))<|Qb<|zD hD<|qd 5 rfl ?_
    refine zx5 [_,_] rfl zg3 (by repeat (first | exact .cons .here .nil | exact ZL | exact Zi | apply ZF | apply ZC)) (hih (dep+1) kB (by push_cast at hdp;omega) hS3 hb3 rb kB) ?_ (fun pv hpv=>by refine zx6 ?_;exact (⟨hpv.1,zcc hk3 hlen (hlo.bad hlt_k hpv.2)⟩));rintro vv8 I8 L8 hI8 ⟨x,r4,a4,n4,c4,cv,hdx,rfl,hxr,rfl,hS4⟩;have hrel:=hrel.mono hI8;have hB1:=hB1.trans hI8;have hD:=hD.trans hI8;have hb4:∀ z∈r4,z<256:=fun z hz=>hb3 z (zk2 hdx z hz);have hr4:=zs2 hdx;have hl4:=hS4.len;refine Qb<|zD hD<|qd 6 rfl<|zpb [(0,_)] [Zg cv] ZG (fun b_45=>?_)
   rotate_left
   refine zx5 [_,_] rfl zg3 (by repeat (first | exact .cons .here .nil | exact ZL | exact Zi | apply ZF | apply ZC)) (hih (dep+1) kB (by push_cast at hdp;omega) hS3 hb3 rb kB) ?_ (fun pv hpv=>by refine zx6 ?_;exact (⟨hpv.1,zcc hk3 hlen (hlo.bad hlt_k hpv.2)⟩));rintro vv9 I9 L9 hI9 ⟨x,r4,a4,n4,c4,cv,hdx,rfl,hxr,rfl,hS4⟩;have hrel:=hrel.mono hI9;have hB1:=hB1.trans hI9;have hD:=hD.trans hI9;have hb4:∀ z∈r4,z<256:=fun z hz=>hb3 z (zk2 hdx z hz);have hr4:=zs2 hdx;have hl4:=hS4.len;refine Qb<|zD hD ?_
   refine QU 1 6 rfl rfl kA ?_ ?_
   focus
    refine zV (Qc rfl Zo (fun hg=>by (repeat (first | exact zB1 rfl | apply zB0 | apply zB2))))<|Qb<|zD hD<|qd 6 rfl<|zpb [(0,_)] [Zg cv] ZG (fun b_45=>?_)
   rotate_left
   refine zpb [(0,_)] [Zg cv] ZG (fun b_45=>Qb<|zD hD<|qd 1 rfl<|zV (Qc rfl Zo (fun hg=>by (repeat (first | exact zB1 rfl | apply zB0 | apply zB2)))) ?_)
   all_goals
    refine Qb<|zD hD<|qd 7 rfl<|zpa (_) ([cv].flatMap Zg) (L) rfl rfl ZG hO ⟨rfl,fun _=>rfl,by repeat (first | exact zB4 | apply zB3 | apply zB5)⟩ (VS [cv]) ?_
    intro v9 L9 hO9 _;rw [←List.flatMap_append] at hO9;obtain ⟨a8,c8,rfl⟩:=hO9.shape;refine Qb<|zD hD<|zT 8 rfl (Qa rfl QO) hD<|qd 9 rfl ?_
    refine zS YY ?_;refine Qb<|zD hD<|Qn kA<|Qk (Qd (Qh (zB<|zM (Qb ?_))))
    exact zm (h:=⟨u-(k+1),kB,k+1,_,xs++[x],hs++[cv],r4,a4,n4,c4,0,L9,rfl,rfl,hB1,rfl,kB,by rw [List.length_append,List.length_singleton];exact hO9,hrel.snoc hxr,by rw [List.length_append,List.length_singleton];omega,hlo.step hlt_k hdx,hS4,hb4,kB⟩)
  have hge_k:u≤k:=(by have h:=hc38;simp at h;omega);refine zx4 hO Vg (fun I10 hI10 a9 c9 e9 hS9=>?_);subst e9;have hrel:=hrel.mono hI10;have hS3:=hS3.mono hI10;have hIc:=hIc.trans hI10;refine Zk (Qo (Qo (Qz (Qk (Qd (zR<|zV (Qg rfl Zm (fun hg=>by exact Cells.g1) rfl) ?_))))));refine zh Zx<|zN (Qs ?_)
  exact ZM rfl rfl Zm Cells.g1 rfl (fun w hw=>.inl ⟨_,I10,_,rfl,hIc,hw.subL kG,.list xs,r3,_,_,_,⟨3,0,⟨#[]⟩,a9,_,c9⟩,zje hk3 hlen (hlo.done hge_k),rfl,.list hS9 hrel.1 hrel.2,rfl,hS3⟩)
 have hn3:c0≠3:=(by have h:=hc29;simp at h;omega);refine Qh (zM ?_);refine zx5 [_,_] rfl zam .nil (zc8 I1 rb _) ?_ (fun pv hpv=>by refine zx6 ?_;exact (⟨hpv.1,znq hc0 hn1 hn2 hn3⟩));rintro vv11 I11 L11 hI11 ⟨rfl,rfl,rfl,hno⟩;exact absurd hno kC
end
end Go.Proofs.YtjblkbkmblkgoaaGreat
namespace Go.Kn
section
open Go
section
variable {P:Program} {fn:Func} {N:Nat} {g:World} {H:Qu} {E:Env} {I:Qu} {loc:Loc}
theorem zfb {D:List Deferred}{t u tt ut n b c:Nat}{vs:List Value}{v':Value}(hr:fn.results= #[.cell t tt,.cell u ut])(hv:VT E t=some (.pointer (some ⟨b,0,none⟩)))(hv':VT E u=some (.pointer (some ⟨c,0,none⟩)))(hA:AgT P tt n)(hU:ScT P ut)
  (hc:Cells I loc b 0 vs)(hn:vs.length=n)(hc':Qy I loc c 0 v')(a:Act)(ha:Uh N D E a)(w:World)(hw:St g I H loc w):(results fn a.tmps).run P w= .ok (.tuple #[.agg vs.toArray,v']) w:=by
 have e1:=ha.env _ _ hv;have e2:=ha.env _ _ hv';rw [Array.getD_eq_getD_getElem?] at e1 e2
 have h1:(loadCells ⟨b,0,none⟩ n).run P w= .ok vs.toArray w:=by
  rw [←hn];exact run_loadCells_list w _ _ fun j v hj=>by rw [Z8];exact (hc j v hj).get hw
 have hA':=hA;obtain ⟨_,i,h2,h3⟩:=hA'
 have l1:(loadVar tt ⟨b,0,none⟩).run P w= .ok (.agg vs.toArray) w:=by
  simp only [loadVar,Sem.run_bind,Sem.run_pure,Vn hA,Result.andThen,if_true,run_sizeOf h2,h3,h1]
 have l2:(loadVar ut ⟨c,0,none⟩).run P w= .ok v' w:=by
  simp only [loadVar,Sem.run_bind,VJ hU,Result.andThen,Bool.false_eq_true,if_false,run_load,hc'.get hw]
 simp only [results,hr];simp [List.mapM_cons,e1,e2,asAddr,l1,l2]
theorem zaR {l:List Oper}(h:∀ o∈l,∃ x d ty pos af,o=⟨d,.assign x,ty,pos,af,none⟩):(∀ o∈l,o.guard=none∧(∀ c,o.op≠ .defer c))∧∀ o∈l,∀ (a:Act) (w:World),(∃ v,(execOp a.eval o).run P w= .ok (.value v) w):=
 ⟨fun o ho=>by obtain ⟨x,d,ty,pos,af,rfl⟩:=h o ho;exact ⟨rfl,fun c e=>by cases e⟩,fun o ho a w=>by obtain ⟨x,d,ty,pos,af,rfl⟩:=h o ho;exact ⟨a.eval x,rfl⟩⟩
end
end
end Go.Kn
section
namespace Go.Kn
open Go
def zad (bs:List Nat):Option Va:=match Kl 16 bs with | some (x,[])=>some x | _=>none
theorem zfd {bs:List Nat}{x:Va}{r:List Nat}(h:Kl 16 bs=some (x,r))(hr:r.length=0):zad bs=some x:=by
 have:r=[]:=List.length_eq_zero_iff.1 hr;subst this;unfold zad;rw [h]
theorem ze4 {bs:List Nat}{x:Va}{r:List Nat}(h:Kl 16 bs=some (x,r))(hr:r.length≠0):zad bs=none:=by
 unfold zad;rw [h];cases r with
 | nil=>exact absurd rfl hr
 | cons a b=>rfl
theorem zfJ {bs:List Nat}(h:Kl 16 bs=none):zad bs=none:=by unfold zad;rw [h]
def Um:Vc:=⟨0,0,⟨#[]⟩,none,0,0⟩
def zkb (bs:List Nat)(v:Value)(I':Qu)(L':Loc):Prop:=L'=[]∧match zad bs with
 | some x=>∃ cv,v= .tuple #[.agg (Zg cv).toArray,.int .i64 0]∧VaR I' x cv
 | none=>v= .tuple #[.agg (Zg Um).toArray,.int .i64 10]
theorem zkb.ok {bs:List Nat}{x:Va}{cv:Vc}{I':Qu}(h:zad bs=some x)(hx:VaR I' x cv):zkb bs (.tuple #[.agg (Zg cv).toArray,.int .i64 0]) I' []:=by
 refine ⟨rfl,?_⟩;rw [h];exact ⟨cv,rfl,hx⟩
theorem zkb.bad {bs:List Nat}{I':Qu}(h:zad bs=none):zkb bs (.tuple #[.agg (Zg Um).toArray,.int .i64 10]) I' []:=by
 refine ⟨rfl,?_⟩;rw [h]
end Go.Kn
namespace Go.Kn
open Go
/-! ### Writing -/
theorem zpm {u:Nat}:∀ {k:Nat},u<128^(k+1)→(Ke u).length≤k+1:=by
 induction u using Nat.strongRecOn with
 | _ u ih=>
  intro k h;by_cases h1:u<128
  ·
   rw [VC h1];simp
  ·
   rw [zak h1]
   cases k with
   | zero=>simp at h;omega
   | succ k=>
    have:=ih (u / 128) kB (k:=k) (by rw [zau (k+1)] at h;exact Nat.div_lt_of_lt_mul (by rw [Nat.mul_comm];exact h));simp;omega
theorem UI {u:Nat}(h:u<2^64):(Ke u).length≤10:=zpm (k:=9) (Nat.lt_of_lt_of_le h kC)
theorem Vd (n:Nat):(VY n).length=1:=rfl
theorem zce (xs:List Nat):Y4 (xs.flatMap VY)=true:=YR (fun _=>rfl) xs
theorem zf3 {n:Int}(h: -9223372036854775808≤n∧n≤9223372036854775807):ztq .u64 (IntKind.u64.wrap (IntKind.u64.wrap n*2^1)) (IntKind.u64.wrap (n.fdiv (2^63)))=(zz n:Int):=by
 rw [←zhn h];congr 2;rw [YJ];rw [Int.fdiv_eq_ediv_of_nonneg _ kC];omega
def XB (e:Nat)(v:Value)(xs:List Nat)(L:Loc):Prop:=ZU e 1 v xs.length (xs.flatMap VY) L
theorem XB.nil {e:Nat}:XB e (.slice none 0 0) [] []:=ZU.nil
theorem XB.app {e:Nat}{v:Value}{xs ys:List Nat}{L:Loc}(h:ZU e 1 v (xs.length+ys.length) ((xs++ys).flatMap VY) L):XB e v (xs++ys) L:=by
 unfold XB;rw [List.length_append];exact h
end Go.Kn
namespace Go.Kn
open Go
theorem Wt (s:List Nat):(UY s).size=s.length:=by simp [UY,ByteArray.size]
theorem Jp {s:List Nat}(h:∀ c∈s,c<256):Ur (UY s)=s:=by
 simp only [Ur,UY,List.map_map];apply List.ext_getElem?;intro i;simp only [List.getElem?_map]
 cases e:s[i]? with
 | none=>rfl
 | some c=>
  have:=h c (List.mem_of_getElem? e);simp only [Option.map_some,Function.comp];congr 1;rw [UInt8.toNat_ofNat'];omega
theorem zaE:∀ {l:List Va} {k:Nat} {x:Va},Va.okL l→l[k]? =some x→Va.ok x
 | [],k,x,_,h=>by simp at h
 | y::l,0,x,h,e=>by simp at e;rw [←e];exact h.1
 | y::l,k+1,x,h,e=>zaE h.2 (by simpa using e)
theorem XS {l:List Va}{k:Nat}{x:Va}(h:l[k]? =some x):Va.encL (l.take (k+1))=Va.encL (l.take k)++Va.enc x:=by
 rw [List.take_add_one,h,Va.encL_append];simp [Va.encL]
theorem zdE {l:List Va}(k:Nat):(Va.encL (l.take k)).length≤(Va.encL l).length:=by
 have h:Va.encL l=Va.encL (l.take k)++Va.encL (l.drop k):=(by rw [←Va.encL_append,List.take_append_drop]);rw [h,List.length_append];omega
theorem JX:∀ {l:List Va} {k d:Nat} {x:Va},Va.depthL l≤d→l[k]? =some x→Va.depth x≤d
 | [],k,d,x,_,h=>by simp at h
 | y::l,0,d,x,h,e=>by simp at e;rw [←e];simp only [Va.depthL] at h;omega
 | y::l,k+1,d,x,h,e=>JX (l:=l) (by simp only [Va.depthL] at h;omega) (by simpa using e)
theorem zcB {l:List Va}{k:Nat}{x:Va}(h:l[k]? =some x):Va.depthL (l.take (k+1))=max (Va.depthL (l.take k)) (Va.depth x):=by
 rw [List.take_add_one,h]
 induction l.take k with
 | nil=>simp [Va.depthL]
 | cons y m ih=>simp only [List.cons_append,Va.depthL,ih];omega
end Go.Kn
namespace Go.Kn
open Go
theorem VaR.cases {I:Qu}{x:Va}{y:Vc}(h:VaR I x y):(∃ n,x= .int n∧y=⟨1,n,⟨#[]⟩,none,0,0⟩)∨(∃ s,x= .text s∧y=⟨2,0,UY s,none,0,0⟩)∨(∃ l a m c,x= .list l∧y=⟨3,0,⟨#[]⟩,a,m,c⟩):=by
 cases h with
 | int n=>exact .inl ⟨n,rfl,rfl⟩
 | text s=>exact .inr (.inl ⟨s,rfl,rfl⟩)
 | list _ _ _=>exact .inr (.inr ⟨_,_,_,_,rfl,rfl⟩)
end Go.Kn
end
namespace Go.Proofs.YtjblkbkmblkgoaaGreat
section
open Go Go.Kn Go.Proofs
theorem zib:IfT Tryz.prog 20:=.of kA
theorem zlm:zyu Tryz.prog 50:=.of kA
theorem Vs:PlT Tryz.prog 158 #[(0,1),(1,1),(2,1),(3,1)] (.agg #[(.int .i64 0),(.int .i64 0),(.string ⟨#[]⟩),(.slice none 0 0)]):=⟨.of kA,kA,fun w=>kA⟩
theorem zaI:SzT Tryz.prog 50 1:=.of kA
theorem zuB (D:Nat):zBd D:=by
 induction D with
 | zero=>intro dep h0 hdp I av n c bs hS hb rb hn;exact zaY (D:=0) (fun D' h=>kB) h0 hdp hS hb rb hn
 | succ D ih=>intro dep h0 hdp I av n c bs hS hb rb hn;exact zaY (D:=D+1) (fun D' h=>Nat.succ.inj h ▸ ih) h0 hdp hS hb rb hn
theorem zjS (I:Qu)(bv be:Nat)(cv0:Vc)(e0:Int):zo1 Tryz.prog 184 [ZI bv,ZI be] I [(be,.cells #[.int .i64 e0] 50 (0,0)),(bv,.cells (Zg cv0).toArray 158 (0,0))] .returning (fun u' I' L'=>settle u'= .returning∧I'=I∧L'=[(be,.cells #[.int .i64 e0] 50 (0,0)),(bv,.cells (Zg cv0).toArray 158 (0,0))]):=by
 refine XJ Tryz.func184 rfl Tryz.ntmps184 rfl rfl (zaR (by intro o ho;simp only [List.mem_singleton] at ho;subst ho;exact ⟨_,_,_,_,_,rfl⟩)) (fun g H=>?_);have hIc:=zB6 I;refine zA<|zN (zR ?_)
 refine zM ?_;refine zV (zpn rfl zib)<|zN ?_
 refine zI ?_ ?_<;>intro hc5
 ·
  cases hc5
 exact Qr<|YX (Yu rfl (fun w hw=>⟨_,I,_,rfl,zB6 _,hw,rfl,rfl,rfl⟩))
theorem zc9 (I:Qu)(bv be:Nat)(cv0:Vc)(e0:Int):zo1 Tryz.prog 184 [ZI bv,ZI be] I [(be,.cells #[.int .i64 e0] 50 (0,0)),(bv,.cells (Zg cv0).toArray 158 (0,0))] (.panicking (pan (.iface 50 (.int .i64 10)))) (fun u' I' L'=>settle u'= .returning∧I'=I∧L'=[(be,.cells #[.int .i64 10] 50 (0,0)),(bv,.cells (Zg Um).toArray 158 (0,0))]):=by
 refine XJ Tryz.func184 rfl Tryz.ntmps184 rfl rfl (zaR (by intro o ho;simp only [List.mem_singleton] at ho;subst ho;exact ⟨_,_,_,_,_,rfl⟩)) (fun g H=>?_);have hIc:=zB6 I;refine zA<|zN (zR ?_)
 refine zM ?_;refine zV (ztv rfl zib)<|zN ?_
 refine zI ?_ ?_<;>intro hc5
 ·
  have hD:=zB6 I;refine Zn<|QJ I [] mixed<|zT 0 rfl (QD (ps:=[]) [_,_,_,_] Vs rfl rfl) hD<|zT 1 rfl (Qe rfl) hD ?_
  refine QU 2 3 rfl rfl kA ?_ ?_
  focus
   refine zV (zfV rfl zlm)<|Qb<|zD hD<|qd 3 rfl ?_
   refine zh Zx ?_
  rotate_left
  refine zh Zx ?_;refine Qb<|zD hD<|qd 2 rfl<|zV (zfV rfl zlm) ?_
  all_goals
   refine Qb<|zD hD<|qd 4 rfl ?_
   refine zS zaI ?_;exact Qb<|zD hD<|Qn kA<|Qv<|YX (Yu rfl (fun w hw=>⟨_,I,_,rfl,zB6 _,hw,rfl,rfl,rfl⟩))
 cases hc5
theorem zgy:Fun Tryz.prog 184:=.of Tryz.func184 kA kA
theorem zu8:PlT Tryz.prog 248 #[(0,1)] (.agg #[(.slice none 0 0)]):=⟨.of kA,kA,fun w=>kA⟩
theorem zaL:ScT Tryz.prog 50:=.of kA
theorem zvS:Vv Tryz.prog 50 (.int .i64 0):=.of kA
theorem zpe {I:Qu}{av:Option Addr}{n c:Nat}{bs:List Nat}(hS:Sl I 1 VY av n c bs)(hb:∀ x∈bs,x<256)(hn:n≤100000):YE Tryz.prog 128 [.slice av n c] I [] (zkb bs):=by
 intro g H w hw;refine zlP Tryz.func128 rfl Tryz.ntmps128 rfl hw ?_;have hIc:=zB6 I;have hln:=hS.len;refine zR<|Qp YG rfl rfl (fun b_2=>Qp zvS rfl rfl (fun b_3=>zN (zR<|zV (YP (us:=[]) (vs:=[_,_]) rfl rfl)<|zhZ (cap:=[ZI b_2,ZI b_3]) (vs:=[]) rfl rfl<|zN (zR ?_))))
 refine zM<|zV (QD (ps:=[(0,_)]) [_] zu8 rfl rfl)<|QK rfl rfl rfl (fun b_8=>zA<|zN (zR ?_))
 refine zM ?_;refine zbp (cap:=[]) (vs:=[_,_]) rfl rfl zg3 (.cons .here .nil) (zuB 16 0 kC kC hS hb b_8 hn) rfl rfl ?_ (fun pv hpv=>by (repeat (first | with_reducible refine UD ?_ | with_reducible refine KD ?_));obtain ⟨rfl,hbad⟩:=hpv;exact zht (args:=[]) (cap:=[ZI b_2,ZI b_3]) zgy (by repeat (first | exact .cons .here (.cons .here .nil) | exact .cons (.there .here) (.cons (.there .here) .nil))) (zc9 I b_2 b_3 Um 0) (fun a I' L' w' ha hI hk hs=>by obtain ⟨rfl,rfl⟩:=hk;exact ⟨_,zfb rfl rfl rfl Zm zaL kI rfl kM a ha w' hs,_,_,[],rfl,hIc,hs.drop,zkb.bad (zfJ hbad)⟩));rintro vv1 I1 L1 hI1 ⟨x,r,a2,n2,c2,cv,hdx,rfl,hxr,rfl,hS2⟩;have hIc:=hIc.trans hI1;have hl2:=hS2.len;refine zh Zx<|zN (zR ?_)
 refine zM ?_;refine zM<|zV (QC rfl) ?_
 refine zF Uu ?_;refine zL V5<|zQ Kc<|zC ?_
 refine zbp (cap:=[]) (vs:=[_,_]) rfl rfl zam .nil (zc8 I1 b_8 _) rfl rfl ?_ (fun pv hpv=>by (repeat (first | with_reducible refine UD ?_ | with_reducible refine KD ?_));obtain ⟨rfl,hbad⟩:=hpv;exact zht (args:=[]) (cap:=[ZI b_2,ZI b_3]) zgy (by repeat (first | exact .cons .here (.cons .here .nil) | exact .cons (.there .here) (.cons (.there .here) .nil))) (zc9 I1 b_2 b_3 cv 0) (fun a I' L' w' ha hI hk hs=>by obtain ⟨rfl,rfl⟩:=hk;exact ⟨_,zfb rfl rfl rfl Zm zaL kI rfl kM a ha w' hs,_,_,[],rfl,hIc,hs.drop,zkb.bad (ze4 hdx (by have h:=hbad;simp at h;omega))⟩));rintro vv2 I2 L2 hI2 ⟨rfl,rfl,rfl,hz⟩;have hxr:=hxr.mono hI2;have hIc:=hIc.trans hI2;have hr0:r.length=0:=(by simp at hz;omega);refine zN (zR<|zV (Qg rfl Zm (fun hg=>by exact Cells.g2) rfl) ?_);refine zh Zx ?_;refine zS zaI<|zN (Qs ?_)
 exact zoH (args:=[]) (cap:=[ZI b_2,ZI b_3]) zgy (by repeat (first | exact .cons .here (.cons .here .nil) | exact .cons (.there .here) (.cons (.there .here) .nil))) (zjS I2 b_2 b_3 cv 0) (fun a I' L' w' ha hI hk hs=>by obtain ⟨rfl,rfl⟩:=hk;exact ⟨_,zfb rfl rfl rfl Zm zaL kI rfl kM a ha w' hs,_,_,[],rfl,hIc,hs.drop,zkb.ok (zfd hdx hr0) hxr⟩)
theorem XY:CvT Tryz.prog 276 5 .u8:=⟨kA,kA⟩
theorem VB:ElT Tryz.prog 80 5 1 1:=.of kA
theorem zj4 (I:Qu){n:Int}(hn: -9223372036854775808≤n∧n≤9223372036854775807):ZJ Tryz.prog 251 [.int .i64 n] I (.int .u64 (zz n)):=by
 intro g H w hw;refine qe Tryz.func251 Tryz.ntmps251 hw ?_;refine zR (zA<|zN (zR ?_));refine zM<|zV (ZS rfl VK)<|zV (znw rfl rfl (fun hg=>by decide))<|zM ?_
 refine zV (zhO rfl rfl kC (rfl:min _ _=63))<|zV (ZS rfl VK)<|zV (Vb (zls rfl rfl) (congrArg (Value.int .u64) (zf3 hn)))<|zA (zN (Qs ?_))
 exact Qx rfl rfl (fun w hw=>⟨rfl,hw.drop⟩)
theorem zbO {I:Qu}{v:Value}{xs:List Nat}{L:Go.Kn.Loc}(hO:XB 5 v xs L)(hx:xs.length≤1000000){u:Nat}(hu:u<2^64):YE Tryz.prog 250 [v,.int .u64 u] I L (fun v' I' L'=>I'=I∧XB 5 v' (xs++Ke u) L'):=by
 intro g H w hw;refine qe Tryz.func250 Tryz.ntmps250 hw ?_;have hIc:=zB6 I;have h10:=UI hu;refine zR (zA (zN (Qm (Qw<|zeF [] .nil (fun T L0 mz E I' loc'=>∃ (w9:Nat) (v:Value) (pre:List Nat) (L:Go.Kn.Loc),mz=w9+1∧E=(0,v)::(1,.int .u64 w9)::T∧I=I'∧L=loc'∧ZU 5 1 v (xs.length+pre.length) ((xs++pre).flatMap VY) L∧Ke u=pre++Ke w9∧w9≤u) _ _ _ _ ⟨u,v,[],L,rfl,rfl,rfl,rfl,by rw [List.append_nil];exact hO,rfl,Nat.le_refl _⟩ (.cons rfl (.cons rfl .nil)) (zB6 _) rfl ?_))));rintro mz E I' loc' ⟨w9,v,pre,L,rfl,rfl,rfl,rfl,hO,hpre,hw9⟩;have hpl:pre.length+(Ke w9).length=(Ke u).length:=(by rw [hpre,List.length_append]);refine Qm (zR (zM<|zC (zN ?_)));refine zI ?_ ?_<;>intro hc6
 ·
  have hge:¬w9<128:=(by have h:=hc6;simp at h;omega);refine Qr (Qd (Qm (Qw (Qh (zM ?_)))));refine zM<|zV (ZS rfl XY)<|zV (Vb (zr2 rfl rfl) (congrArg (Value.int .u8) (zA2 (u:=w9))))<|zpb [(0,_)] [VY (w9 % 128+128)] VB (fun b_13=>?_)
  refine zpa (_) (([w9 % 128+128]:List Nat).flatMap VY) (L) rfl rfl VB hO ⟨rfl,fun _=>rfl,by repeat (first | exact zB4 | apply zB3 | apply zB5)⟩ (zce [w9 % 128+128]) ?_;intro v9 L9 hO9 _;rw [←List.flatMap_append] at hO9;refine zA (Qb (Qk (Qd (Qh<|zM<|zV (Vb (zhO rfl rfl kC (rfl:min _ _=7)) (congrArg (Value.int .u64) (zsr w9 7)))<|zA (Qb ?_)))));exact zm (h:=⟨w9 / 128+1,kB,w9 / 128,_,pre++[w9 % 128+128],L9,rfl,rfl,rfl,rfl,by rw [List.length_append,List.length_singleton,←List.append_assoc];exact hO9,by rw [hpre,zak kB,List.append_assoc];rfl,kB⟩)
 have hlt:w9<128:=(by have h:=hc6;simp at h;omega);refine Zk (Qo (Qo (Qz (Qd (zR (zM<|zM<|zV (Vb (ZS rfl XY) (congrArg (Value.int .u8) (zbV (n:=(w9:Int)) ⟨kB,kB⟩)))<|zpb [(0,_)] [VY w9] VB (fun b_18=>?_)))))));refine zpa (_) (([w9]:List Nat).flatMap VY) (L) rfl rfl VB hO ⟨rfl,fun _=>rfl,by repeat (first | exact zB4 | apply zB3 | apply zB5)⟩ (zce [w9]) ?_;intro v9 L9 hO9 _;rw [←List.flatMap_append] at hO9;refine zA (zN (Qs ?_));exact Qx rfl rfl (fun w hw=>⟨_,I,L9,rfl,hIc,hw.subL (by exact QL),rfl,by rw [hpre,VC hlt,←List.append_assoc];exact XB.app (ys:=[w9]) (by rw [List.length_append];exact hO9)⟩)
end
end Go.Proofs.YtjblkbkmblkgoaaGreat
section
namespace Go.Kn
open Go
def V3 (s:ByteArray):List Value:=(Ur s).flatMap VY
theorem zbX (s:ByteArray):(s.data.map fun b=>Value.int .u8 (b.toNat:Int))=(V3 s).toArray:=by
 apply Array.ext';simp only [V3,Ur,Array.toList_map]
 induction s.data.toList with
 | nil=>rfl
 | cons a l ih=>simp only [List.map_cons,List.flatMap_cons,ih];rfl
theorem WJ (s:ByteArray):(V3 s).length=s.size:=by
 have h:=congrArg Array.size (zbX s);simp only [Array.size_map,List.size_toArray] at h;exact h.symm
theorem zjI (s:ByteArray):∀ u∈V3 s,u.oneCell'=true:=by
 intro u hu;simp only [V3,List.mem_flatMap,VY,List.mem_singleton] at hu;obtain ⟨n,_,rfl⟩:=hu;rfl
section
variable {P:Program} {g:World} {I H:Qu} {L R:Loc} {w:World}
theorem zjT (s:ByteArray)(size:Nat)(w:World):(Builtin.firstCells size s.size (.string s)).run P w= .ok (V3 s).toArray w:=by
 show (pure (Array.map (fun b=>Value.int IntKind.u8 (b.toNat:Int)) (s.extract 0 s.size).data):Sem (Array Value)).run P w=_;have:s.extract 0 s.size=s:=by simp
 rw [this,zbX];rfl
theorem za2 (t u ty e:TypeId)(i:TypeInfo)(z:Value){bytes:Nat}(ht:P.underlying t=some (.slice e))(hu:P.underlying u=some .string)(hi:P.info? e=some i)(hz:i.zero=some z)
  (hsize:i.size=1)(hby:i.bytes=bytes)(hzs:z.cells.size=1)
  {v:Value}{n:Nat}{xs:List Value}{s:ByteArray}(hO:ZU e 1 v n xs L)(hw:St g I H (L++R) w)(hB:(n+s.size)*(bytes+1)≤70368744177664):
  ∃ v' w' L',(Builtin.append_ #[t,u] ty #[v,.string s]).run P w= .ok v' w'∧ZU e 1 v' (n+s.size) (xs++V3 s) L'∧St g I H (L'++R) w':=by
 subst hby
 have hnm:n+s.size≤70368744177664:=by
  have:(n+s.size)*1≤(n+s.size)*(i.bytes+1):=Nat.mul_le_mul_left _ kB;omega
 have hbytes:(n+s.size)*i.bytes≤140737488355328:=by
  have:(n+s.size)*i.bytes≤(n+s.size)*(i.bytes+1):=Nat.mul_le_mul_left _ kB;omega
 have hmL:n+s.size≤maxLen:=(by simp only [maxLen];omega);have hlen:(xs++V3 s).length=(n+s.size)*1:=(by rw [List.length_append,hO.1,WJ];omega);have hfs:=fun w=>zjT (P:=P) s i.size w
 have grown:∀ (old:Nat) (R':Loc),St g I H R' w→∃ L',ZU e 1 (.slice (some ⟨w.heap.size,0,none⟩) (n+s.size) (grownCap w (n+s.size) old e)) (n+s.size) (xs++V3 s) L'∧
   St g I H (L'++R') (w.drew.alloc (.cells (xs.toArray++(V3 s).toArray++Builtin.zeroCells z.cells (grownCap w (n+s.size) old e-(n+s.size))) e)):=by
  intro old R' hw';have hge:=grownCap_ge w (n+s.size) old e;have hcm:grownCap w (n+s.size) old e≤maxLen:=grownCap_le_maxLen w (n+s.size) old e hmL;refine ⟨_,⟨hlen,.inr ⟨w.heap.size,_,xs.toArray++(V3 s).toArray++Builtin.zeroCells z.cells (grownCap w (n+s.size) old e-(n+s.size)),rfl,rfl,hge,hcm,?_,?_⟩⟩,?_⟩
  ·
   simp only [Array.size_append,List.size_toArray,VM,hzs,hO.1,WJ];omega
  ·
   simp only [Array.toList_append,List.append_assoc];rw [←List.append_assoc,←hlen];exact List.take_left
  ·
   exact hw'.drew'.alloc _
 rcases hO.2 with ⟨rfl,rfl,rfl⟩ | ⟨b,cap,cur,rfl,rfl,hnc,hcm,hcs,htake⟩
 ·
  have hx:xs=[]:=List.eq_nil_of_length_eq_zero (by simpa using hO.1);subst hx;by_cases h0:s.size=0
  ·
   refine ⟨.slice none 0 0,w,[],?_,?_,hw⟩
   ·
    simp [Builtin.append_,run_underlying ht,run_underlying hu,sizeOf,typeInfo,hi,Builtin.lenOf,h0,Builtin.firstCells]
   ·
    have:V3 s=[]:=List.eq_nil_of_length_eq_zero (by rw [WJ];exact h0);rw [this,h0];exact ZU.nil
  ·
   have hr:=run_append_nil_string (P:=P) (w:=w) t u ty e i z ht hu hi hz s kB kB (by simp only [Nat.zero_add] at hbytes;omega);obtain ⟨L',h1',h2'⟩:=grown 0 R hw;simp only [Nat.zero_add,List.nil_append,Array.empty_append,←zbX] at h1' h2' ⊢;exact ⟨_,_,L',hr,h1',h2'⟩
 ·
  have hb:=hw.own b (.cells cur e (0,0)) (List.mem_cons_self ..);by_cases hroom:n+s.size≤cap
  ·
   have hfit:n*i.size+(V3 s).length≤cur.size:=(by rw [WJ,hsize,hcs];omega);have hst:=run_storeCells_at P b (n*i.size) e (V3 s) 0 cur w hb (by simpa using hfit) (zjI s);simp only [Nat.add_zero] at hst
   have hr:(Builtin.append_ #[t,u] ty #[.slice (some ⟨b,0,none⟩) n cap,.string s]).run P w= .ok (.slice (some ⟨b,0,none⟩) (n+s.size) cap) (w.setRow b (cur.toList.take (n*i.size)++V3 s++cur.toList.drop (n*i.size+(V3 s).length)).toArray):=by
    simp [Builtin.append_,run_underlying ht,run_underlying hu,sizeOf,typeInfo,hi,Builtin.lenOf,hroom,hfs,Addr.add_lit,hst]
   rw [hsize] at hr;refine ⟨_,_,_,hr,⟨hlen,.inr ⟨b,cap,(cur.toList.take (n*1)++V3 s++cur.toList.drop (n*1+(V3 s).length)).toArray,rfl,rfl,hroom,hcm,?_,?_⟩⟩,?_⟩
   ·
    simp only [List.size_toArray,List.length_append,List.length_take,List.length_drop,Array.length_toList];rw [hsize] at hfit;omega
   ·
    rw [htake,←hlen];exact List.take_left
   ·
    exact hw.turn Upd.here rfl rfl rfl (by simp [World.setRow]) (setRow_heap w b cur _ e _ hb) (fun k hk=>setRow_other w b k _ hk)
  ·
   have holds:∀ j u,xs[j]? =some u→w.cell? ((⟨b,0,none⟩:Addr).add j)=some u:=fun j u hj=>by
    rw [Z8,Nat.zero_add];rw [←htake,List.getElem?_take] at hj;split at hj
    ·
     simpa [World.cell?,hb] using hj
    ·
     cases hj
   have hn:¬(n+s.size≤cap):=hroom;have h63':¬(9223372036854775807<((n:Int)+(s.size:Int))):=kB;have hfit:=growslice_fits (show cap<n+s.size by omega) hbytes;have h48':¬(281474976710656<Builtin.nextslicecap (n+s.size) cap*i.bytes):=kB;have hfo:=run_firstCells_some (P:=P) w.drew i.size n ⟨b,0,none⟩ n cap xs (by rw [hsize];exact hO.1) (by simpa using holds)
   have hr:(Builtin.append_ #[t,u] ty #[.slice (some ⟨b,0,none⟩) n cap,.string s]).run P w= .ok (.slice (some ⟨w.heap.size,0,none⟩) (n+s.size) (grownCap w (n+s.size) cap e))
     (w.drew.alloc (.cells (xs.toArray++(V3 s).toArray++Builtin.zeroCells z.cells (grownCap w (n+s.size) cap e-(n+s.size))) e)):=by
    simp [Builtin.append_,run_underlying ht,run_underlying hu,sizeOf,typeInfo,zeroValue,hi,hz,Builtin.lenOf,hn,h63',h48',Question.forced,hfs,hfo,newRow,grownCap];congr 2;apply Array.ext';simp [List.append_assoc]
   obtain ⟨L',h1',h2'⟩:=grown cap R (hw.take Z1.here);exact ⟨_,_,L',hr,h1',h2'⟩
end
section
variable {C:Cx} {Q:Exit→Act→World→Prop} {E:Env} {I:Qu} {loc L R:Loc} {ops:Array Oper} {rest:List Oper} {d:Nat} {ty:TypeId} {pos:String} {af:Array Edge} {gd:Option (Nat×Bool)} {x y:Operand}
theorem zaz {t u e bytes:Nat}{v:Value}{n:Nat}{xs:List Value}{s:ByteArray}(hx:QH [] E x=some v)(hy:QH [] E y=some (.string s))(hT:ElT C.P t e 1 bytes)(hu:C.P.underlying u=some .string)
  (hO:ZU e 1 v n xs L)(hsp:YZ loc L R)(hB:(n+s.size)*(bytes+1)≤70368744177664)(hG:gd=none)(hN:Nat.blt d C.N=true)
  (h:∀ v' L',ZU e 1 v' (n+s.size) (xs++V3 s) L'→XO C Q ops rest [] ((d,v')::E) I (L'++R)):
  XO C Q ops (⟨some d,.call ⟨.builtin .append, #[x,y], #[t,u]⟩,ty,pos,af,gd⟩::rest) [] E I loc:=
 Ym hG kE fun a w ha hw=>by
  obtain ⟨ht,i,zz,hi,hz,hs,hb,hzs⟩:=hT;obtain ⟨v',w',L',hr,hO',hw'⟩:=za2 (P:=C.P) t u ty e i zz ht hu hi hz hs hb hzs hO (hw.unsplit hsp) hB;simp only [execOp,resolve,List.map_toArray,List.map_cons,List.map_nil,Qj (S:=[]) ha trivial rfl hx,Qj (S:=[]) ha trivial rfl hy,Sem.run_bind,Sem.run_pure,Result.andThen,invoke,builtin,hr,Oper.uponIn_value];exact h v' L' hO' _ _ (ha.put hN _) trivial hw'
end
end Go.Kn
namespace Go.Kn
open Go
def BxI (I:Qu)(b:Nat)(o:Obj):Prop:=I b=some o
theorem BxI.of {I:Qu}{b:Nat}{o:Obj}(h:I b=some o):BxI I b o:=h
theorem BxI.out {I:Qu}{b:Nat}{o:Obj}(h:BxI I b o):I b=some o:=h
theorem BxI.mono {I I':Qu}{b:Nat}{o:Obj}(h:BxI I b o)(hI:HLe I I'):BxI I' b o:=hI _ _ h
theorem BxI.cells {I:Qu}{loc:Loc}{b t:Nat}{fz:Nat×Nat}{vs:List Value}(h:BxI I b (.cells vs.toArray t fz)):Cells I loc b 0 vs:=fun j v hj=>Qy.imm h (by rw [JG,Nat.zero_add];exact hj)
end Go.Kn
end
namespace Go.Proofs.YtjblkbkmblkgoaaGreat
section
open Go Go.Kn Go.Proofs
theorem zhc:Fun Tryz.prog 250:=.of Tryz.func250 kA kA
theorem zvT:Fun Tryz.prog 251:=.of Tryz.func251 kA kA
theorem VZ:ScT Tryz.prog 9:=.of kA
theorem zyx:Tryz.prog.underlying 9=some .string:=kA
def zBY:Va→FuncId
 | .int _=>249
 | .text _=>252
 | .list _=>253
def zBJ (bp:Nat):Va→List Value
 | .list _=>[ZI bp]
 | _=>[]
def WrH (I:Qu)(bw bp:Nat):Prop:=I bw=some (.cells #[.nilFunc,.func (.func 249) #[] #[],.func (.func 252) #[] #[],.func (.func 253) #[] #[ZI bp]] 304 (0,0))∧I bp=some (.cells #[ZI bw] 264 (0,0))
variable{I:Qu}{bw bp:Nat}
theorem WrH.mono {I':Qu}(h:WrH I bw bp)(hI:HLe I I'):WrH I' bw bp:=⟨hI _ _ h.1,hI _ _ h.2⟩
def zzR (x:Va):Prop:=∀ {I:Qu} {bw bp:Nat} (_hW:WrH I bw bp) {v:Value} {xs:List Nat} {L:Go.Kn.Loc} (_hO:XB 5 v xs L) {cv:Vc} (_hx:VaR I x cv) (_hok:Va.ok x) (_hb:xs.length+(Va.enc x).length≤900000),
 YE Tryz.prog (zBY x) ([v,.agg (Zg cv).toArray]++zBJ bp x) I L (fun v' I' L'=>I'=I∧XB 5 v' (xs++Va.enc x) L')
variable{v:Value}{xs:List Nat}{n:Int}
theorem zp0 {L:Go.Kn.Loc}(hO:XB 5 v xs L)(hx:xs.length≤900000)(hn: -9223372036854775808≤n∧n≤9223372036854775807):YE Tryz.prog 249 [v,.agg (Zg ⟨1,n,⟨#[]⟩,none,0,0⟩).toArray] I L (fun v' I' L'=>I'=I∧XB 5 v' (xs++Va.enc (.int n)) L'):=by
 intro g H w hw;refine qe Tryz.func249 Tryz.ntmps249 hw ?_;have hIc:=zB6 I;refine zR<|QK rfl rfl rfl (fun b_3=>zA (zN (Qm ?_)))
 have hD:=zB6 I;refine Zn<|QJ I [(b_3,.cells (Zg ⟨1,n,⟨#[]⟩,none,0,0⟩).toArray 158 (0,0))] mixed<|zT 0 rfl (Qe rfl) hD<|zT 3 rfl (Qa rfl Y3) hD<|zT 4 rfl (Qc rfl Ql (fun hg=>by exact Qy.h0 rfl)) hD<|qd 1 rfl<|zpb [(0,_)] [VY 1] VB (fun b_6=>Qb<|zD hD<|qd 2 rfl<|zpa (_) (([1]:List Nat).flatMap VY) (L) rfl rfl VB hO ⟨rfl,fun _=>rfl,by repeat (first | exact zB4 | apply zB3 | apply zB5)⟩ (zce [1]) ?_)
 intro v9 L9 hO9 _;rw [←List.flatMap_append] at hO9;refine Qb<|zD hD<|qd 5 rfl<|qcV (vs:=[_]) rfl zvT (zj4 I hn)<|Qb<|zD hD<|qd 6 rfl<|zpc [_,_] rfl zhc (by repeat (first | exact .cons .here .nil | exact ZL | exact Zi | apply ZF | apply ZC)) (zbO (XB.app (ys:=[1]) hO9) kY (zkW hn)) ?_
 rintro vv1 I1 L1 hI1 ⟨rfl,hO10⟩;have hIc:=hIc.trans hI1;have hD:=hD.trans hI1;refine Qb<|zD hD<|zT 7 rfl (QB rfl) hD<|Qn kA<|Qv<|Qd (Qs ?_)
 exact Qx rfl rfl (fun w hw=>⟨_,I1,_,rfl,hIc,hw.subL (by exact QL),rfl,by rw [show xs++Va.enc (.int n)=(xs++[1])++Ke (zz n) by simp [Va.enc]];exact hO10⟩)
variable{s:List Nat}
theorem zlQ {L:Go.Kn.Loc}(hO:XB 5 v xs L)(hx:xs.length+s.length≤900000)(hs:∀ c∈s,c<256):YE Tryz.prog 252 [v,.agg (Zg ⟨2,0,UY s,none,0,0⟩).toArray] I L (fun v' I' L'=>I'=I∧XB 5 v' (xs++Va.enc (.text s)) L'):=by
 intro g H w hw;refine qe Tryz.func252 Tryz.ntmps252 hw ?_;have hIc:=zB6 I;have h10:=UI (u:=s.length) kB;refine zR<|QK rfl rfl rfl (fun b_3=>zA (zN (Qm ?_)))
 have hD:=zB6 I;refine Zn<|QJ I [(b_3,.cells (Zg ⟨2,0,UY s,none,0,0⟩).toArray 158 (0,0))] mixed<|zT 0 rfl (Qe rfl) hD<|zT 3 rfl (Qa rfl Yv) hD<|zT 4 rfl (Qc rfl VZ (fun hg=>by exact Qy.h0 rfl)) hD<|zT 5 rfl (Vb (Wa rfl zyx) (congrArg (fun n:Nat=>Value.int .i64 (n:Int)) (Wt s))) hD<|zT 6 rfl (Vb (ZS rfl VK) (congrArg (Value.int .u64) (ZW (n:=(s.length:Int)) ⟨kB,kB⟩))) hD<|zT 8 rfl (Qa rfl Yv) hD<|zT 9 rfl (Qc rfl VZ (fun hg=>by exact Qy.h0 rfl)) hD<|qd 1 rfl<|zpb [(0,_)] [VY 2] VB (fun b_6=>Qb ?_)
 refine zD hD<|qd 2 rfl<|zpa (_) (([2]:List Nat).flatMap VY) (L) rfl rfl VB hO ⟨rfl,fun _=>rfl,by repeat (first | exact zB4 | apply zB3 | apply zB5)⟩ (zce [2]) ?_
 intro v9 L9 hO9 _;rw [←List.flatMap_append] at hO9;refine Qb<|zD hD<|qd 7 rfl<|zpc [_,_] rfl zhc (by repeat (first | exact .cons .here .nil | exact ZL | exact Zi | apply ZF | apply ZC)) (zbO (XB.app (ys:=[2]) hO9) kY (u:=s.length) kB) ?_
 rintro vv1 I1 L1 hI1 ⟨rfl,hO10⟩;have hIc:=hIc.trans hI1;have hD:=hD.trans hI1;refine Qb<|zD hD<|qd 10 rfl<|zaz rfl rfl VB zyx hO10 (by repeat (first | exact .cons .here .nil | exact ZL | exact Zi | apply ZF | apply ZC)) (by rw [Wt];simp only [List.length_append,List.length_singleton];omega) rfl rfl ?_
 intro v11 L11 hO11;refine Qb<|zD hD<|zT 11 rfl (QB rfl) hD<|Qn kA<|Qv<|Qd (Qs ?_)
 exact Qx rfl rfl (fun w hw=>⟨_,I1,_,rfl,hIc,hw.subL (by exact QL),rfl,by rw [show xs++Va.enc (.text s)=((xs++[2])++Ke s.length)++s by simp [Va.enc]];unfold V3 at hO11;rw [Jp hs,Wt,←List.flatMap_append] at hO11;exact XB.app (ys:=s) hO11⟩)
theorem Ue:ArT Tryz.prog 304 4 263 1:=.of kA
theorem Jt:QM Tryz.prog 263 0 0:=.of kA
theorem zlD:Fun Tryz.prog 249:=.of Tryz.func249 kA kA
theorem znC:Fun Tryz.prog 252:=.of Tryz.func252 kA kA
theorem znB:Fun Tryz.prog 253:=.of Tryz.func253 kA kA
theorem zaq:ScT Tryz.prog 261:=.of kA
theorem Xr:ScT Tryz.prog 264:=.of kA
theorem ZN:SlT Tryz.prog 156 158 4:=.of kA
theorem zhJ:SzT Tryz.prog 261 1:=.of kA
theorem zuC:SzT Tryz.prog 264 1:=.of kA
theorem zzi:Vv Tryz.prog 264 (.pointer none):=.of kA
theorem zyH:Vv Tryz.prog 304 (.agg #[.nilFunc,.nilFunc,.nilFunc,.nilFunc]):=.of kA
variable{l:List Va}{hs:List Vc}{a:Option Addr}
theorem zcS (hW:WrH I bw bp){L:Go.Kn.Loc}(hO:XB 5 v xs L){m c:Nat}(hS:Sl I 4 Zg a m c hs)(hl:l.length=hs.length)(hr:∀ (k:Nat) (x:Va) (y:Vc),l[k]? =some x→hs[k]? =some y→VaR I x y)(ih:∀ (k:Nat) (x:Va),l[k]? =some x→zzR x)(hok:Va.okL l)(hb:xs.length+(Va.enc (.list l)).length≤900000):YE Tryz.prog 253 [v,.agg #[.int .i64 3,.int .i64 0,.string ⟨#[]⟩,.slice a m c],ZI bp] I L (fun v' I' L'=>I'=I∧XB 5 v' (xs++Va.enc (.list l)) L'):=by
 intro g H w hw;refine qe Tryz.func253 Tryz.ntmps253 hw ?_;have hIc:=zB6 I;have hml:=hS.len;have hel:(Va.enc (.list l)).length=(Ke l.length).length+(Va.encL l).length+1:=(by simp [Va.enc]);have hnl:=Va.encL_len l;have h10:=UI (u:=l.length) kB;refine zR<|QK rfl rfl rfl (fun b_4=>zA (zN ?_))
 refine zY [(2,_),(4,_)] (fun T L0 E I' loc'=>∃ (v:Value) (L:Go.Kn.Loc),E=(0,v)::T∧I=I'∧L++[(b_4,.cells #[.int .i64 3,.int .i64 0,.string ⟨#[]⟩,.slice a m c] 158 (0,0))]=loc'∧XB 5 v (xs++(3::Ke l.length)) L) ?_ ?_
 ·
  have hD:=zB6 I;refine Zn<|QJ I [(b_4,.cells #[.int .i64 3,.int .i64 0,.string ⟨#[]⟩,.slice a m c] 158 (0,0))] mixed<|zT 0 rfl (Qe rfl) hD<|zT 3 rfl (Qa rfl QO) hD<|zT 4 rfl (Qc rfl Zo (fun hg=>by exact Qy.h0 rfl)) hD<|zT 5 rfl (QT rfl ZN) hD<|zT 6 rfl (Vb (ZS rfl VK) (congrArg (Value.int .u64) ((ZW (n:=(m:Int)) ⟨kB,kB⟩).trans (show (m:Int)=(l.length:Int) by omega)))) hD<|qd 1 rfl<|zpb [(0,_)] [VY 3] VB (fun b_9=>Qb<|zD hD<|qd 2 rfl ?_)
  refine zpa (_) (([3]:List Nat).flatMap VY) (L) rfl rfl VB hO ⟨rfl,fun _=>rfl,by repeat (first | exact zB4 | apply zB3 | apply zB5)⟩ (zce [3]) ?_;intro v9 L9 hO9 _;rw [←List.flatMap_append] at hO9;refine Qb<|zD hD<|qd 7 rfl<|zpc [_,_] rfl zhc (by repeat (first | exact .cons .here .nil | exact ZL | exact Zi | apply ZF | apply ZC)) (zbO (XB.app (ys:=[3]) hO9) kY (u:=l.length) kB) ?_
  rintro vv1 I1 L1 hI1 ⟨rfl,hO10⟩;have hD:=hD.trans hI1;refine Qb<|zD hD<|zT 8 rfl (QB rfl) hD<|Qn kA<|Qv ?_
  exact zm (h:=⟨_,_,rfl,rfl,rfl,by rw [show xs++(3::Ke l.length)=(xs++[3])++Ke l.length by simp];exact hO10⟩)
 rintro E I' loc' ⟨v,L,rfl,rfl,rfl,hO⟩;refine Qm (zR<|zF QO ?_);refine zV (Qc rfl Zo (fun hg=>by (repeat (first | exact zB1 rfl | apply zB0 | apply zB2))))<|zQ ZN ?_
 refine zM (zN (Qw ?_));refine zU [(2,_),(17,_),(18,_)] (fun T L0 mz E I' loc'=>∃ (k:Nat) (v:Value) (L:Go.Kn.Loc),mz=m-k∧E=(0,v)::(19,.int .i64 k)::T∧I=I'∧L++[(b_4,.cells #[.int .i64 3,.int .i64 0,.string ⟨#[]⟩,.slice a m c] 158 (0,0))]=loc'∧k≤m∧XB 5 v (xs++(3::(Ke l.length++Va.encL (l.take k)))) L) ?_ (h:=⟨0,_,_,rfl,rfl,rfl,rfl,Nat.zero_le _,by rw [List.take_zero];simpa [Va.encL] using hO⟩);rintro mz E I' loc' ⟨k,v,L,rfl,rfl,rfl,rfl,hk,hO⟩;refine zR (zC (zN (Qm ?_)));refine zI ?_ ?_<;>intro hc20
 ·
  have hlt_k:k<m:=(by have h:=hc20;simp at h;omega);obtain ⟨cv,hy⟩:∃ y,hs[k]? =some y:=⟨_,List.getElem?_eq_getElem kB⟩;obtain ⟨x,hlx⟩:∃ y,l[k]? =some y:=⟨_,List.getElem?_eq_getElem kB⟩;have hxy:=hr k x cv hlx hy;have hokx:=zaE hok hlx;have hle:=zdE (l:=l) (k+1);rw [XS hlx,List.length_append] at hle;refine Qr (Qd (Qm (Qw (zR<|zV (zX ZN hS) ?_))));refine zV (Qg rfl Zm (fun hg=>by exact zB7 hS hy) rfl)<|Qp YG rfl rfl (fun b_7=>?_)
  refine zh Zx<|zN ?_
  rcases VaR.cases hxy with ⟨n,rfl,rfl⟩ | ⟨s,rfl,rfl⟩ | ⟨l2,a2,m2,c2,rfl,rfl⟩
  focus
   have hD:=zB6 I;refine Zn<|QJ I [(b_7,.cells (Zg ⟨1,n,⟨#[]⟩,none,0,0⟩).toArray 158 (0,0))] mixed<|zT 0 rfl (Qc rfl Xr (fun hg=>by exact Qy.imm hW.2 rfl)) hD<|zT 1 rfl (Qa rfl Zh) hD<|zT 2 rfl (Qc rfl Ql (fun hg=>by exact Qy.h0 rfl)) hD<|zT 3 rfl (QC rfl) hD<|zT 4 rfl (Q8 rfl rfl Ue (fun hg=>by (dsimp only;omega))) hD<|zT 5 rfl (Qa rfl Jt) hD<|zT 6 rfl (Qc rfl zaq (fun hg=>by exact Qy.imm hW.1 rfl)) hD<|zT 7 rfl (Qe rfl) hD<|zT 8 rfl (Qg rfl Zm (fun hg=>by exact Cells.g0) rfl) hD<|qd 9 rfl ?_
   refine zpc [_,_] rfl zlD (by repeat (first | exact .cons .here .nil | exact ZL | exact Zi | apply ZF | apply ZC)) (ih k _ hlx hW hO hxy hokx kX) ?_
  rotate_left
  focus
   have hD:=zB6 I;refine Zn<|QJ I [(b_7,.cells (Zg ⟨2,0,UY s,none,0,0⟩).toArray 158 (0,0))] mixed<|zT 0 rfl (Qc rfl Xr (fun hg=>by exact Qy.imm hW.2 rfl)) hD<|zT 1 rfl (Qa rfl Zh) hD<|zT 2 rfl (Qc rfl Ql (fun hg=>by exact Qy.h0 rfl)) hD<|zT 3 rfl (QC rfl) hD<|zT 4 rfl (Q8 rfl rfl Ue (fun hg=>by (dsimp only;omega))) hD<|zT 5 rfl (Qa rfl Jt) hD<|zT 6 rfl (Qc rfl zaq (fun hg=>by exact Qy.imm hW.1 rfl)) hD<|zT 7 rfl (Qe rfl) hD<|zT 8 rfl (Qg rfl Zm (fun hg=>by exact Cells.g0) rfl) hD<|qd 9 rfl ?_
   refine zpc [_,_] rfl znC (by repeat (first | exact .cons .here .nil | exact ZL | exact Zi | apply ZF | apply ZC)) (ih k _ hlx hW hO hxy hokx kX) ?_
  rotate_left
  have hD:=zB6 I;refine Zn<|QJ I [(b_7,.cells (Zg ⟨3,0,⟨#[]⟩,a2,m2,c2⟩).toArray 158 (0,0))] mixed<|zT 0 rfl (Qc rfl Xr (fun hg=>by exact Qy.imm hW.2 rfl)) hD<|zT 1 rfl (Qa rfl Zh) hD<|zT 2 rfl (Qc rfl Ql (fun hg=>by exact Qy.h0 rfl)) hD<|zT 3 rfl (QC rfl) hD<|zT 4 rfl (Q8 rfl rfl Ue (fun hg=>by (dsimp only;omega))) hD<|zT 5 rfl (Qa rfl Jt) hD<|zT 6 rfl (Qc rfl zaq (fun hg=>by exact Qy.imm hW.1 rfl)) hD<|zT 7 rfl (Qe rfl) hD<|zT 8 rfl (Qg rfl Zm (fun hg=>by exact Cells.g0) rfl) hD<|qd 9 rfl ?_
  refine KU (cap:=[ZI bp]) (vs:=[_,_]) rfl rfl znB (by repeat (first | exact .cons .here .nil | exact ZL | exact Zi | apply ZF | apply ZC)) (ih k _ hlx hW hO hxy hokx kX) rfl rfl ?_
  all_goals
   rintro vv6 I6 L6 hI6 ⟨rfl,hO2⟩;have hD:=hD.trans hI6;refine Qb<|zD hD<|zT 10 rfl (QB rfl) hD<|Qn kA<|Qv ?_
   refine Qk (Qd (Qh (zB<|zM (Qb ?_))));exact zm (h:=⟨m-(k+1),kB,k+1,_,_,rfl,rfl,rfl,rfl,kB,by rw [XS hlx];simpa [List.append_assoc] using hO2⟩)
 have hge_k:m≤k:=(by have h:=hc20;simp at h;omega);have hke:l.take k=l:=List.take_of_length_le kB;rw [hke] at hO;refine Zk (Qo (Qo (Qz (Qd (zR (zM<|zA (zN (Qs ?_))))))));exact Qx rfl rfl (fun w hw=>⟨_,I,_,rfl,hIc,hw.subL (by exact QL),rfl,by rw [show Va.enc (.list l)=3::(Ke l.length++Va.encL l) by simp [Va.enc]];exact hO⟩)
theorem Xj (I:Qu):YE Tryz.prog 198 [] I [] (fun v I' L'=>L'=[]∧∃ bw bp,v=ZI bw∧WrH I' bw bp):=by
 intro g H w hw;refine qe Tryz.func198 Tryz.ntmps198 hw ?_;have hIc:=zB6 I;refine zR (zA<|zN (zR<|zV (VH (ps:=[]) [_,_,_,_] Ue zyH rfl rfl)<|QK rfl rfl rfl (fun b_3=>Qp zzi rfl rfl (fun b_1=>zS zuC ?_))));refine zN (zR<|zL Xr<|zV (QC rfl)<|zV (Q8 rfl rfl Ue (fun hg=>by decide))<|zF Jt ?_);refine zS zhJ ?_;refine zN (zR<|zL Xr<|zV (QC rfl)<|zV (Q8 rfl rfl Ue (fun hg=>by decide))<|zF Jt ?_);refine zS zhJ ?_;refine zN (zR<|zL Xr<|zV (YP (us:=[]) (vs:=[_]) rfl rfl)<|zV (QC rfl)<|zV (Q8 rfl rfl Ue (fun hg=>by decide))<|zF Jt ?_);refine zS zhJ ?_;refine zN (zR<|zL Xr<|zA (zN (Qs ?_)));exact Qx rfl rfl (fun w hw=>by obtain ⟨h1,h2,h3⟩:=hw.freeze .here;obtain ⟨g1,g2,g3⟩:=h1.freeze .here;exact ⟨_,_,[],rfl,h2.trans g2,g1,rfl,b_3,b_1,rfl,by exact ⟨g3,g2 _ _ h3⟩⟩)
end
end Go.Proofs.YtjblkbkmblkgoaaGreat
