/- partiesConverge_holds, part H of the proof: what its theorems say holds without further conditions. -/
import Derived.ProofKit
import Derived.Deep.Slices
import Derived.Test.YtjblkbkmblkgoaaGreatRows
import Derived.Test.YtjblkbkmblkgoaaGreatPCG
namespace Go.Kn
section
open Go Go.ChangeShapes Go.WideShapes Go.ChangeAt Go.RowKit
def zbI (W:World):Qv:=fun b=>W.heap[b]?
theorem St.start (W:World):St W (zbI W) (fun _=>none) [] W:=
 ⟨rfl,rfl,rfl,⟨Nat.le_refl _,Nat.le_refl _⟩,fun _ _ h=>h,(fun _ _ h=>by cases h),(fun _ _ h=>by cases h),fun _=>.inr rfl,(fun _ _ h=>by cases h),by simp⟩
theorem St.below {W w:World}{H:Qv}{loc:Loc}(h:St W (zbI W) H loc w):Below W.heap.size W w:=
 ⟨h.os,h.tape,h.out,h.size.1,fun k hk=>by
  have e:W.heap[k]? =some W.heap[k]:=Array.getElem?_eq_getElem hk
  rw [h.imm k _ e,e]⟩
theorem Yc.law {P:Program}{f:FuncId}{args:List Value}{W:World}{v:Value}(h:Yc P f args (zbI W) v):Calls P f args.toArray W fun e w'=>e= .returned v∧Below W.heap.size W w':=
 (h W _ W (St.start W)).mono fun _ _ ⟨he,hs⟩=>⟨he,hs.below⟩
theorem zcU {W w:World}{may:MemPlace→Prop}(h:Below W.heap.size W w):W.keptBut w may:=by
 refine ⟨h.os,h.output,fun i hi=>?_⟩
 rw [h.block i hi]
 rw [Array.getElem?_eq_getElem hi]
 cases W.heap[i]<;>simp
theorem WP {H:Type}{enc:TypeId×Value→H}{P:Program}{W W':World}(hl:laidOutB P=true)(hB:Below W.heap.size W W')(sp:Nat→Bool):∀ (ts:List TypeId) (vs:List Value) (ds:List (DataW H)) (ps:List MemPlace),(∀ t∈ts,P.readableRec t=true∧t<P.types.size)→
  DataW.TrodAll enc P W 0 (fun _=>true) true ts vs ds ps→(∀ x∈ps,x.block<W.heap.size∧sp x.block=true)→DataW.TrodAll enc P W' 0 sp true ts vs ds ps
 | [],[],[],ps,_,h,_=>h
 | t::ts,v::vs,d::ds,ps,hr,⟨p,q,h1,h2,e⟩,hlt=>by
  subst e
  exact ⟨p,q,WideElems.Trod_stays hl (hr t (List.mem_cons_self ..)).1 (hr t (List.mem_cons_self ..)).2 h1 (fun x hx=>hB.same (hlt x (List.mem_append_left _ hx)).1) (fun x hx=>(hlt x (List.mem_append_left _ hx)).2),
   WP hl hB sp ts vs ds q (fun t ht=>hr t (List.mem_cons_of_mem _ ht)) h2 (fun x hx=>hlt x (List.mem_append_right _ hx)),rfl⟩
theorem zny {H:Type}{enc:TypeId×Value→H}{P:Program}{f:Func}{s:ChangeSpec}{again:Bool}{W W':World}{args:Array Value}{ds:List (DataW H)}{before:List MemPlace}{tb:TypeId}
  (hl:laidOutB P=true)(hr:f.resultTypes= #[tb])(hb:P.underlying tb=some .bool)(hv:s.vars=[])(hs:(s.fn H (ds++[]))= {results:=[.lit (.bool true)],args:=ds})(hrd:∀ t∈f.params.toList,P.readableRec t=true∧t<P.types.size)
  (hW:DataW.Whole enc P f.params.toList s.vars false W args.toList ds [] before)(hB:Below W.heap.size W W'):s.post enc P f false true false again W args (.bool true) W':=by
 have hlt:∀ x∈before,x.block<W.heap.size:=fun x hx=>by simpa using hW.lt x hx
 have hW0:=hW
 obtain ⟨p,q,hA,hV,rfl,hfz,_⟩:=hW
 rw [hv] at hV
 obtain ⟨_,rfl⟩:=trodVars_none hV
 rw [List.append_nil] at hlt hfz hW0
 have hres:∀ (b:Nat) (sp:Nat→Bool) (hd:Bool),DataW.TrodAll enc P W' b sp hd f.resultTypes.toList ((Value.bool true).resultList f.resultTypes.size) [.lit (.bool true)] []:=fun b sp hd=>by
  rw [hr];exact trodAll_mk1 (shut_bool hb true)
 have hargs:∀ sp:Nat→Bool,(∀ x∈p,sp x.block=true)→DataW.TrodAll enc P W' 0 sp true f.params.toList args.toList ds p:=fun sp h=>WP hl hB sp _ _ _ _ hrd hA (fun x hx=>⟨hlt x hx,h x hx⟩)
 have hnil:∀ sp:Nat→Bool,DataW.TrodVars enc P W' sp s.vars [] []:=fun sp=>by rw [hv];rfl
 refine ⟨ds,[],p,[],p,[],hW0,?_,?_,?_,zcU hB,fun _=>?_⟩
 ·
  rw [hs];exact hres _ _ _
 ·
  rw [hs];exact hargs _ (fun x hx=>by simpa using hlt x hx)
 ·
  rw [hs];exact hnil _
 ·
  refine ⟨fun j t r ht hr'=>?_,[.lit (.bool true)]++ds,[],[]++p,⟨[]++p,[],trodAll_append (hargs _ (fun _ _=>rfl)) (hres _ _ _),hnil _,by simp,?_,fun h=>by cases h⟩,fun x hx _=>by simpa using hx⟩
  ·
   rw [hr] at ht hr'
   cases j with
   | zero=>simp [Value.resultList] at ht hr';subst ht;subst hr';exact okWide_bool_mk hb _
   | succ j=>simp at ht
  ·
   intro b off hx
   rw [hB.frozen (hlt _ (by simpa using hx))]
   exact hfz b off (by simpa using hx)
theorem zjj {W:World}{b o:Nat}{u:Value}(h:W.cell? ⟨b,o,none⟩=some u):QG (zbI W) [] b o u:=by
 unfold World.cell? at h
 split at h
 ·
  rename_i c t fz hb
  simp only [Option.isSome_none,Bool.false_eq_true,if_false] at h
  exact ⟨c,t,fz,.inl hb,h⟩
 ·
  cases h
theorem zhh {H:Type}{enc:TypeId×Value→H}{P:Program}{W:World}{t e:TypeId}{size fuel0:Nat}{cs:List Value}{x0:DataW H×List MemPlace}{α:Type}(enc':α→List Value)(ok:α→Prop)
  (ht:P.underlying t=some (.slice e))(hc:P.cellsOf e=size)(hpos:0<size)(hlen:∀ y,(enc' y).length=size)
  (hel:∀ fuel cs x,DataW.trod enc P W 0 (fun _=>true) true fuel e cs=some x→∃ y,ok y∧enc' y=cs)
  (hf':DataW.trod enc P W 0 (fun _=>true) true fuel0 t cs=some x0):∃ av n c xs,cs=[.slice av n c]∧Sl (zbI W) size enc' av n c xs∧(∀ x∈xs,ok x)∧c≤maxLen:=by
 rcases Go.Deep.open_slice ht hf' with ⟨e1,_⟩ | ⟨a,len0,cap0,m,n,D,Pl,e1,hb,hl,hm,hmm,_,hx⟩
 ·
  subst e1
  exact ⟨none,0,0,[],rfl,.nil,(fun x hx=>by cases hx),Nat.zero_le _⟩
 ·
  subst e1
  have hlm:len0≤m:=by rw [hmm];simp;exact hl
  have each:∀ i,i<len0→∃ y,ok y∧W.cells? 0 (a.add (i*size)) size=some (enc' y):=fun i hi=>by
   obtain ⟨cs',h1,h2⟩:=hx i (by omega)
   obtain ⟨y,hy,e⟩:=hel _ _ _ h2
   rw [hc] at h1
   exact ⟨y,hy,by rw [h1,e]⟩
  have all:∀ k,k≤len0→∃ xs:List α,xs.length=k∧∀ i x,xs[i]? =some x→ok x∧W.cells? 0 (a.add (i*size)) size=some (enc' x):=by
   intro k
   induction k with
   | zero=>intro _;exact ⟨[],rfl,fun i x h=>by simp at h⟩
   | succ k ih=>
    intro hk
    obtain ⟨xs,hl',hxs⟩:=ih (by omega)
    obtain ⟨y,hy,hcy⟩:=each k (by omega)
    refine ⟨xs++[y],by simp [hl'],fun i x h=>?_⟩
    by_cases hi:i<xs.length
    ·
     rw [List.getElem?_append_left hi] at h;exact hxs i x h
    ·
     rw [List.getElem?_append_right (by omega)] at h
     have:i=k:=by have:=(List.getElem?_eq_some_iff.1 h).1;simp at this;omega
     subst this
     rw [hl'] at h;simp at h;subst h
     exact ⟨hy,hcy⟩
  obtain ⟨xs,hl',hxs⟩:=all len0 (Nat.le_refl _)
  have add0:∀ (b o n:Nat),(⟨b,o,none⟩:Addr).add n=⟨b,o+n,none⟩:=fun b o n=>by
   unfold Addr.add
   split
   ·
    rename_i e;subst e;rfl
   ·
    rfl
  have hspot:0<xs.length→a.spot=none:=fun hx=>by
   have hx0:xs[0]? =some xs[0]:=List.getElem?_eq_getElem hx
   have hp0:0<(enc' xs[0]).length:=by rw [hlen];exact hpos
   obtain ⟨_,h1,h2⟩:=World.cells?_some (hxs 0 _ hx0).2
   have h3:=h2 0 hpos
   rw [List.getElem?_eq_getElem hp0] at h3
   simpa [Addr.add] using World.cell?_spot h3
  have cellat:∀ i x,xs[i]? =some x→∀ j u,(enc' x)[j]? =some u→W.cell? ⟨a.block,a.off+i*size+j,none⟩=some u:=fun i x hx j u hu=>by
   obtain ⟨_,h1,h2⟩:=World.cells?_some (hxs i x hx).2
   have hj:j<size:=by rw [←hlen x];exact (List.getElem?_eq_some_iff.1 hu).1
   have h3:=h2 j hj
   rw [hu] at h3
   have hsp:=hspot (by have:=(List.getElem?_eq_some_iff.1 hx).1;omega)
   obtain ⟨b,o,sp⟩:=a
   simp only at hsp
   subst hsp
   rw [add0,add0] at h3
   exact h3
  refine ⟨some a,len0,cap0,xs,rfl,⟨hl',hl,fun hn=>?_,fun k x hx j u hu=>?_⟩,fun x hx=>?_,hm⟩
  ·
   have:=hspot (by omega)
   obtain ⟨b,o,sp⟩:=a
   simp only at this
   subst this;rfl
  ·
   exact zjj (cellat k x hx j u hu)
  ·
   obtain ⟨i,hi⟩:=List.getElem?_of_mem hx
   exact (hxs i x hi).1
theorem zld {H:Type}{enc:TypeId×Value→H}{P:Program}{W:World}{base:Nat}{t e:TypeId}{size:Nat}{v:Value}{d:DataW H}{p:List MemPlace}{α:Type}(enc':α→List Value)(ok:α→Prop)
  (ht:P.underlying t=some (.slice e))(hc:P.cellsOf e=size)(hpos:0<size)(hlen:∀ y,(enc' y).length=size)
  (hel:∀ fuel cs x,DataW.trod enc P W 0 (fun _=>true) true fuel e cs=some x→∃ y,ok y∧enc' y=cs)
  (hv:Value.okWide P W .any base t v)(h:DataW.Trod enc P W 0 (fun _=>true) true t v d p):∃ av n c xs,v= .slice av n c∧Sl (zbI W) size enc' av n c xs∧(∀ x∈xs,ok x)∧c≤maxLen:=by
 obtain ⟨a0,len0,cap0,rfl⟩:=okWide_slice ht hv
 obtain ⟨fuel,hf⟩:=h
 obtain ⟨av,n,c,xs,e,h1,h2,h3⟩:=zhh enc' ok ht hc hpos hlen hel (cs:=[.slice a0 len0 cap0]) (by simpa [Value.cells] using hf)
 cases e
 exact ⟨_,_,_,xs,rfl,h1,h2,h3⟩
theorem zuU {H:Type}{enc:TypeId×Value→H}{P:Program}{W:World}{e:TypeId}{k:IntKind}(he:P.underlying e=some (.int k))(hk:k= .i64)(fuel:Nat)(cs:List Value)(x:DataW H×List MemPlace)(h:DataW.trod enc P W 0 (fun _=>true) true fuel e cs=some x):
  ∃ y:Int,(-9223372036854775808≤y∧y≤9223372036854775807)∧[Value.int .i64 y]=cs:=by
 subst hk
 obtain ⟨v,hv⟩:∃ v,cs=[v]:=by
  have:=h
  cases fuel with
  | zero=>simp [DataW.trod] at this
  | succ m=>unfold DataW.trod at this;rw [he] at this;split at this<;>simp_all
 subst hv
 obtain ⟨n,e,_,w⟩:=DataW.trod_int he h
 cases e
 simp only [Lit.wf,Bool.and_eq_true,decide_eq_true_eq] at w
 exact ⟨n,w,rfl⟩
theorem Z7 {n:Int}(h:(Lit.int .i64 n).wf=true): -9223372036854775808≤n∧n≤9223372036854775807:=by
 simp only [Lit.wf,Bool.and_eq_true,decide_eq_true_eq] at h
 exact h
end
section
open Go
theorem Ji {H:Type}{enc:TypeId×Value→H}{P:Program}{W:World}{base:Nat}{spare:Nat→Bool}{held:Bool}{t C:Nat}{fs:Array Field}{fuel:Nat}{cs:List Value}{x:DataW H×List MemPlace}(hs:P.underlying t=some (.struct fs))
  (hC:P.cellsOf t=C)(h:DataW.trod enc P W base spare held fuel t cs=some x):
  cs.length=C∧∃ n,∀ (i ty off k:Nat),((fs[i]?).map fun f=>(f.type,f.offset))=some (ty,off)→P.cellsOf ty=k→∃ y,DataW.trod enc P W base spare held n ty ((cs.drop off).take k)=some y:=by
 obtain ⟨xs,n,_,_,hl,hxl,hf⟩:=DataW.trod_struct hs h
 refine ⟨hl.trans hC,n,fun i ty off k hi hk=>?_⟩
 obtain ⟨f,hfi,e⟩:=Option.map_eq_some_iff.1 hi
 cases e
 have g:=hf i f hfi
 have hix:i<xs.length:=by rw [hxl];exact (Array.getElem?_eq_some_iff.1 hfi).1
 rw [hk,List.getElem?_eq_getElem hix] at g
 exact ⟨_,g⟩
end
end Go.Kn
namespace Go.Proofs.YtjblkbkmblkgoaaGreat
section
open Go Go.Kn Go.Proofs
open Go.ChangeShapes Go.WideShapes Go.ChangeAt Go.RowKit
set_option maxRecDepth 100000
theorem ZV:Tryz.prog.underlying 3=some (.int .i64):=by kernel_rfl
theorem zp9:Tryz.prog.underlying 45=some (.struct (Tryz.prog.fieldsOf 45)):=by kernel_rfl
theorem zqx:Tryz.prog.underlying 32=some (.struct (Tryz.prog.fieldsOf 32)):=by kernel_rfl
theorem zrB:Tryz.prog.underlying 30=some (.struct (Tryz.prog.fieldsOf 30)):=by kernel_rfl
theorem zqi:Tryz.prog.underlying 39=some (.struct (Tryz.prog.fieldsOf 39)):=by kernel_rfl
theorem zpN:Tryz.prog.underlying 36=some (.struct (Tryz.prog.fieldsOf 36)):=by kernel_rfl
theorem zih:Tryz.prog.underlying 34=some (.struct (Tryz.prog.fieldsOf 34)):=by kernel_rfl
theorem zq3:Tryz.prog.underlying 37=some (.slice 3):=by kernel_rfl
theorem zrM:Tryz.prog.underlying 41=some (.struct (Tryz.prog.fieldsOf 41)):=by kernel_rfl
theorem zpl:Tryz.prog.underlying 43=some (.struct (Tryz.prog.fieldsOf 43)):=by kernel_rfl
theorem zoJ:Tryz.prog.underlying 9=some .string:=by kernel_rfl
theorem zph:Tryz.prog.underlying 47=some (.struct (Tryz.prog.fieldsOf 47)):=by kernel_rfl
theorem zr3:Tryz.prog.underlying 79=some (.slice 47):=by kernel_rfl
theorem ziG:Tryz.prog.underlying 5=some (.int .u8):=by kernel_rfl
theorem zpQ:Tryz.prog.underlying 80=some (.slice 5):=by kernel_rfl
theorem zvN:Tryz.prog.underlying 4=some .bool:=by kernel_rfl
theorem zsE {n:Int}(h:(Lit.int .u8 n).wf=true):0≤n∧n≤255:=by
 simp only [Lit.wf,Bool.and_eq_true,decide_eq_true_eq] at h
 exact h
theorem zvT {H:Type}{enc:TypeId×Value→H}{W:World}(fuel:Nat)(cs:List Value)(x:DataW H×List MemPlace)(h:DataW.trod enc Tryz.prog W 0 (fun _=>true) true fuel 47 cs=some x):∃ y:Ev,(EvM (zbI W)) y∧zav y=cs:=by
 obtain ⟨hl,n0_,f0⟩:=Ji (C:=49) zph (by kernel_rfl) h
 match cs,hl with
 | (c0::c1::c2::c3::c4::c5::c6::c7::c8::c9::c10::c11::c12::c13::c14::c15::c16::c17::c18::c19::c20::c21::c22::c23::c24::c25::c26::c27::c28::c29::c30::c31::c32::c33::c34::c35::c36::c37::c38::c39::c40::c41::c42::c43::c44::c45::c46::c47::c48::[]),_=>
  obtain ⟨_,g0_0⟩:=f0 0 3 0 1 (by kernel_rfl) (by kernel_rfl)
  obtain ⟨n0,e0,_,w0⟩:=DataW.trod_int ZV (show DataW.trod enc Tryz.prog W 0 (fun _=>true) true n0_ 3 [c0]=some _ from g0_0)
  obtain ⟨_,g0_1⟩:=f0 1 3 1 1 (by kernel_rfl) (by kernel_rfl)
  obtain ⟨n1,e1,_,w1⟩:=DataW.trod_int ZV (show DataW.trod enc Tryz.prog W 0 (fun _=>true) true n0_ 3 [c1]=some _ from g0_1)
  obtain ⟨_,g0_2⟩:=f0 2 3 2 1 (by kernel_rfl) (by kernel_rfl)
  obtain ⟨n2,e2,_,w2⟩:=DataW.trod_int ZV (show DataW.trod enc Tryz.prog W 0 (fun _=>true) true n0_ 3 [c2]=some _ from g0_2)
  obtain ⟨_,g0_3⟩:=f0 3 3 3 1 (by kernel_rfl) (by kernel_rfl)
  obtain ⟨n3,e3,_,w3⟩:=DataW.trod_int ZV (show DataW.trod enc Tryz.prog W 0 (fun _=>true) true n0_ 3 [c3]=some _ from g0_3)
  obtain ⟨_,g0_4⟩:=f0 4 45 4 45 (by kernel_rfl) (by kernel_rfl)
  obtain ⟨_,n1_,f1⟩:=Ji (C:=45) zp9 (by kernel_rfl) (show DataW.trod enc Tryz.prog W 0 (fun _=>true) true n0_ 45 (c4::c5::c6::c7::c8::c9::c10::c11::c12::c13::c14::c15::c16::c17::c18::c19::c20::c21::c22::c23::c24::c25::c26::c27::c28::c29::c30::c31::c32::c33::c34::c35::c36::c37::c38::c39::c40::c41::c42::c43::c44::c45::c46::c47::c48::[])=some _ from g0_4)
  obtain ⟨_,g1_0⟩:=f1 0 3 0 1 (by kernel_rfl) (by kernel_rfl)
  obtain ⟨n4,e4,_,w4⟩:=DataW.trod_int ZV (show DataW.trod enc Tryz.prog W 0 (fun _=>true) true n1_ 3 [c4]=some _ from g1_0)
  obtain ⟨_,g1_1⟩:=f1 1 32 1 9 (by kernel_rfl) (by kernel_rfl)
  obtain ⟨_,n2_,f2⟩:=Ji (C:=9) zqx (by kernel_rfl) (show DataW.trod enc Tryz.prog W 0 (fun _=>true) true n1_ 32 [c5,c6,c7,c8,c9,c10,c11,c12,c13]=some _ from g1_1)
  obtain ⟨_,g2_0⟩:=f2 0 3 0 1 (by kernel_rfl) (by kernel_rfl)
  obtain ⟨n5,e5,_,w5⟩:=DataW.trod_int ZV (show DataW.trod enc Tryz.prog W 0 (fun _=>true) true n2_ 3 [c5]=some _ from g2_0)
  obtain ⟨_,g2_1⟩:=f2 1 3 1 1 (by kernel_rfl) (by kernel_rfl)
  obtain ⟨n6,e6,_,w6⟩:=DataW.trod_int ZV (show DataW.trod enc Tryz.prog W 0 (fun _=>true) true n2_ 3 [c6]=some _ from g2_1)
  obtain ⟨_,g2_2⟩:=f2 2 3 2 1 (by kernel_rfl) (by kernel_rfl)
  obtain ⟨n7,e7,_,w7⟩:=DataW.trod_int ZV (show DataW.trod enc Tryz.prog W 0 (fun _=>true) true n2_ 3 [c7]=some _ from g2_2)
  obtain ⟨_,g2_3⟩:=f2 3 3 3 1 (by kernel_rfl) (by kernel_rfl)
  obtain ⟨n8,e8,_,w8⟩:=DataW.trod_int ZV (show DataW.trod enc Tryz.prog W 0 (fun _=>true) true n2_ 3 [c8]=some _ from g2_3)
  obtain ⟨_,g2_4⟩:=f2 4 3 4 1 (by kernel_rfl) (by kernel_rfl)
  obtain ⟨n9,e9,_,w9⟩:=DataW.trod_int ZV (show DataW.trod enc Tryz.prog W 0 (fun _=>true) true n2_ 3 [c9]=some _ from g2_4)
  obtain ⟨_,g2_5⟩:=f2 5 3 5 1 (by kernel_rfl) (by kernel_rfl)
  obtain ⟨n10,e10,_,w10⟩:=DataW.trod_int ZV (show DataW.trod enc Tryz.prog W 0 (fun _=>true) true n2_ 3 [c10]=some _ from g2_5)
  obtain ⟨_,g2_6⟩:=f2 6 30 6 3 (by kernel_rfl) (by kernel_rfl)
  obtain ⟨_,n3_,f3⟩:=Ji (C:=3) zrB (by kernel_rfl) (show DataW.trod enc Tryz.prog W 0 (fun _=>true) true n2_ 30 [c11,c12,c13]=some _ from g2_6)
  obtain ⟨_,g3_0⟩:=f3 0 3 0 1 (by kernel_rfl) (by kernel_rfl)
  obtain ⟨n11,e11,_,w11⟩:=DataW.trod_int ZV (show DataW.trod enc Tryz.prog W 0 (fun _=>true) true n3_ 3 [c11]=some _ from g3_0)
  obtain ⟨_,g3_1⟩:=f3 1 3 1 1 (by kernel_rfl) (by kernel_rfl)
  obtain ⟨n12,e12,_,w12⟩:=DataW.trod_int ZV (show DataW.trod enc Tryz.prog W 0 (fun _=>true) true n3_ 3 [c12]=some _ from g3_1)
  obtain ⟨_,g3_2⟩:=f3 2 3 2 1 (by kernel_rfl) (by kernel_rfl)
  obtain ⟨n13,e13,_,w13⟩:=DataW.trod_int ZV (show DataW.trod enc Tryz.prog W 0 (fun _=>true) true n3_ 3 [c13]=some _ from g3_2)
  obtain ⟨_,g1_2⟩:=f1 2 39 10 19 (by kernel_rfl) (by kernel_rfl)
  obtain ⟨_,n4_,f4⟩:=Ji (C:=19) zqi (by kernel_rfl) (show DataW.trod enc Tryz.prog W 0 (fun _=>true) true n1_ 39 [c14,c15,c16,c17,c18,c19,c20,c21,c22,c23,c24,c25,c26,c27,c28,c29,c30,c31,c32]=some _ from g1_2)
  obtain ⟨_,g4_0⟩:=f4 0 3 0 1 (by kernel_rfl) (by kernel_rfl)
  obtain ⟨n14,e14,_,w14⟩:=DataW.trod_int ZV (show DataW.trod enc Tryz.prog W 0 (fun _=>true) true n4_ 3 [c14]=some _ from g4_0)
  obtain ⟨_,g4_1⟩:=f4 1 3 1 1 (by kernel_rfl) (by kernel_rfl)
  obtain ⟨n15,e15,_,w15⟩:=DataW.trod_int ZV (show DataW.trod enc Tryz.prog W 0 (fun _=>true) true n4_ 3 [c15]=some _ from g4_1)
  obtain ⟨_,g4_2⟩:=f4 2 3 2 1 (by kernel_rfl) (by kernel_rfl)
  obtain ⟨n16,e16,_,w16⟩:=DataW.trod_int ZV (show DataW.trod enc Tryz.prog W 0 (fun _=>true) true n4_ 3 [c16]=some _ from g4_2)
  obtain ⟨_,g4_3⟩:=f4 3 3 3 1 (by kernel_rfl) (by kernel_rfl)
  obtain ⟨n17,e17,_,w17⟩:=DataW.trod_int ZV (show DataW.trod enc Tryz.prog W 0 (fun _=>true) true n4_ 3 [c17]=some _ from g4_3)
  obtain ⟨_,g4_4⟩:=f4 4 36 4 14 (by kernel_rfl) (by kernel_rfl)
  obtain ⟨_,n5_,f5⟩:=Ji (C:=14) zpN (by kernel_rfl) (show DataW.trod enc Tryz.prog W 0 (fun _=>true) true n4_ 36 [c18,c19,c20,c21,c22,c23,c24,c25,c26,c27,c28,c29,c30,c31]=some _ from g4_4)
  obtain ⟨_,g5_0⟩:=f5 0 3 0 1 (by kernel_rfl) (by kernel_rfl)
  obtain ⟨n18,e18,_,w18⟩:=DataW.trod_int ZV (show DataW.trod enc Tryz.prog W 0 (fun _=>true) true n5_ 3 [c18]=some _ from g5_0)
  obtain ⟨_,g5_1⟩:=f5 1 3 1 1 (by kernel_rfl) (by kernel_rfl)
  obtain ⟨n19,e19,_,w19⟩:=DataW.trod_int ZV (show DataW.trod enc Tryz.prog W 0 (fun _=>true) true n5_ 3 [c19]=some _ from g5_1)
  obtain ⟨_,g5_2⟩:=f5 2 3 2 1 (by kernel_rfl) (by kernel_rfl)
  obtain ⟨n20,e20,_,w20⟩:=DataW.trod_int ZV (show DataW.trod enc Tryz.prog W 0 (fun _=>true) true n5_ 3 [c20]=some _ from g5_2)
  obtain ⟨_,g5_3⟩:=f5 3 3 3 1 (by kernel_rfl) (by kernel_rfl)
  obtain ⟨n21,e21,_,w21⟩:=DataW.trod_int ZV (show DataW.trod enc Tryz.prog W 0 (fun _=>true) true n5_ 3 [c21]=some _ from g5_3)
  obtain ⟨_,g5_4⟩:=f5 4 3 4 1 (by kernel_rfl) (by kernel_rfl)
  obtain ⟨n22,e22,_,w22⟩:=DataW.trod_int ZV (show DataW.trod enc Tryz.prog W 0 (fun _=>true) true n5_ 3 [c22]=some _ from g5_4)
  obtain ⟨_,g5_5⟩:=f5 5 3 5 1 (by kernel_rfl) (by kernel_rfl)
  obtain ⟨n23,e23,_,w23⟩:=DataW.trod_int ZV (show DataW.trod enc Tryz.prog W 0 (fun _=>true) true n5_ 3 [c23]=some _ from g5_5)
  obtain ⟨_,g5_6⟩:=f5 6 3 6 1 (by kernel_rfl) (by kernel_rfl)
  obtain ⟨n24,e24,_,w24⟩:=DataW.trod_int ZV (show DataW.trod enc Tryz.prog W 0 (fun _=>true) true n5_ 3 [c24]=some _ from g5_6)
  obtain ⟨_,g5_7⟩:=f5 7 3 7 1 (by kernel_rfl) (by kernel_rfl)
  obtain ⟨n25,e25,_,w25⟩:=DataW.trod_int ZV (show DataW.trod enc Tryz.prog W 0 (fun _=>true) true n5_ 3 [c25]=some _ from g5_7)
  obtain ⟨_,g5_8⟩:=f5 8 3 8 1 (by kernel_rfl) (by kernel_rfl)
  obtain ⟨n26,e26,_,w26⟩:=DataW.trod_int ZV (show DataW.trod enc Tryz.prog W 0 (fun _=>true) true n5_ 3 [c26]=some _ from g5_8)
  obtain ⟨_,g5_9⟩:=f5 9 3 9 1 (by kernel_rfl) (by kernel_rfl)
  obtain ⟨n27,e27,_,w27⟩:=DataW.trod_int ZV (show DataW.trod enc Tryz.prog W 0 (fun _=>true) true n5_ 3 [c27]=some _ from g5_9)
  obtain ⟨_,g5_10⟩:=f5 10 34 10 2 (by kernel_rfl) (by kernel_rfl)
  obtain ⟨_,n6_,f6⟩:=Ji (C:=2) zih (by kernel_rfl) (show DataW.trod enc Tryz.prog W 0 (fun _=>true) true n5_ 34 [c28,c29]=some _ from g5_10)
  obtain ⟨_,g6_0⟩:=f6 0 3 0 1 (by kernel_rfl) (by kernel_rfl)
  obtain ⟨n28,e28,_,w28⟩:=DataW.trod_int ZV (show DataW.trod enc Tryz.prog W 0 (fun _=>true) true n6_ 3 [c28]=some _ from g6_0)
  obtain ⟨_,g6_1⟩:=f6 1 3 1 1 (by kernel_rfl) (by kernel_rfl)
  obtain ⟨n29,e29,_,w29⟩:=DataW.trod_int ZV (show DataW.trod enc Tryz.prog W 0 (fun _=>true) true n6_ 3 [c29]=some _ from g6_1)
  obtain ⟨_,g5_11⟩:=f5 11 34 12 2 (by kernel_rfl) (by kernel_rfl)
  obtain ⟨_,n7_,f7⟩:=Ji (C:=2) zih (by kernel_rfl) (show DataW.trod enc Tryz.prog W 0 (fun _=>true) true n5_ 34 [c30,c31]=some _ from g5_11)
  obtain ⟨_,g7_0⟩:=f7 0 3 0 1 (by kernel_rfl) (by kernel_rfl)
  obtain ⟨n30,e30,_,w30⟩:=DataW.trod_int ZV (show DataW.trod enc Tryz.prog W 0 (fun _=>true) true n7_ 3 [c30]=some _ from g7_0)
  obtain ⟨_,g7_1⟩:=f7 1 3 1 1 (by kernel_rfl) (by kernel_rfl)
  obtain ⟨n31,e31,_,w31⟩:=DataW.trod_int ZV (show DataW.trod enc Tryz.prog W 0 (fun _=>true) true n7_ 3 [c31]=some _ from g7_1)
  obtain ⟨_,g4_5⟩:=f4 5 37 18 1 (by kernel_rfl) (by kernel_rfl)
  obtain ⟨a32,m32,q32,n32,e32,s32,o32,_⟩:=zhh (t:=37) (e:=3) Yk (fun n:Int=> -9223372036854775808≤n∧n≤9223372036854775807) zq3 (by kernel_rfl) (by decide) Zx (fun fuel cs x h=>zuU ZV rfl fuel cs x h) (show DataW.trod enc Tryz.prog W 0 (fun _=>true) true n4_ 37 [c32]=some _ from g4_5)
  obtain ⟨_,g1_3⟩:=f1 3 41 29 5 (by kernel_rfl) (by kernel_rfl)
  obtain ⟨_,n8_,f8⟩:=Ji (C:=5) zrM (by kernel_rfl) (show DataW.trod enc Tryz.prog W 0 (fun _=>true) true n1_ 41 [c33,c34,c35,c36,c37]=some _ from g1_3)
  obtain ⟨_,g8_0⟩:=f8 0 3 0 1 (by kernel_rfl) (by kernel_rfl)
  obtain ⟨n33,e33,_,w33⟩:=DataW.trod_int ZV (show DataW.trod enc Tryz.prog W 0 (fun _=>true) true n8_ 3 [c33]=some _ from g8_0)
  obtain ⟨_,g8_1⟩:=f8 1 3 1 1 (by kernel_rfl) (by kernel_rfl)
  obtain ⟨n34,e34,_,w34⟩:=DataW.trod_int ZV (show DataW.trod enc Tryz.prog W 0 (fun _=>true) true n8_ 3 [c34]=some _ from g8_1)
  obtain ⟨_,g8_2⟩:=f8 2 3 2 1 (by kernel_rfl) (by kernel_rfl)
  obtain ⟨n35,e35,_,w35⟩:=DataW.trod_int ZV (show DataW.trod enc Tryz.prog W 0 (fun _=>true) true n8_ 3 [c35]=some _ from g8_2)
  obtain ⟨_,g8_3⟩:=f8 3 3 3 1 (by kernel_rfl) (by kernel_rfl)
  obtain ⟨n36,e36,_,w36⟩:=DataW.trod_int ZV (show DataW.trod enc Tryz.prog W 0 (fun _=>true) true n8_ 3 [c36]=some _ from g8_3)
  obtain ⟨_,g8_4⟩:=f8 4 3 4 1 (by kernel_rfl) (by kernel_rfl)
  obtain ⟨n37,e37,_,w37⟩:=DataW.trod_int ZV (show DataW.trod enc Tryz.prog W 0 (fun _=>true) true n8_ 3 [c37]=some _ from g8_4)
  obtain ⟨_,g1_4⟩:=f1 4 43 34 11 (by kernel_rfl) (by kernel_rfl)
  obtain ⟨_,n9_,f9⟩:=Ji (C:=11) zpl (by kernel_rfl) (show DataW.trod enc Tryz.prog W 0 (fun _=>true) true n1_ 43 [c38,c39,c40,c41,c42,c43,c44,c45,c46,c47,c48]=some _ from g1_4)
  obtain ⟨_,g9_0⟩:=f9 0 3 0 1 (by kernel_rfl) (by kernel_rfl)
  obtain ⟨n38,e38,_,w38⟩:=DataW.trod_int ZV (show DataW.trod enc Tryz.prog W 0 (fun _=>true) true n9_ 3 [c38]=some _ from g9_0)
  obtain ⟨_,g9_1⟩:=f9 1 3 1 1 (by kernel_rfl) (by kernel_rfl)
  obtain ⟨n39,e39,_,w39⟩:=DataW.trod_int ZV (show DataW.trod enc Tryz.prog W 0 (fun _=>true) true n9_ 3 [c39]=some _ from g9_1)
  obtain ⟨_,g9_2⟩:=f9 2 3 2 1 (by kernel_rfl) (by kernel_rfl)
  obtain ⟨n40,e40,_,w40⟩:=DataW.trod_int ZV (show DataW.trod enc Tryz.prog W 0 (fun _=>true) true n9_ 3 [c40]=some _ from g9_2)
  obtain ⟨_,g9_3⟩:=f9 3 3 3 1 (by kernel_rfl) (by kernel_rfl)
  obtain ⟨n41,e41,_,w41⟩:=DataW.trod_int ZV (show DataW.trod enc Tryz.prog W 0 (fun _=>true) true n9_ 3 [c41]=some _ from g9_3)
  obtain ⟨_,g9_4⟩:=f9 4 3 4 1 (by kernel_rfl) (by kernel_rfl)
  obtain ⟨n42,e42,_,w42⟩:=DataW.trod_int ZV (show DataW.trod enc Tryz.prog W 0 (fun _=>true) true n9_ 3 [c42]=some _ from g9_4)
  obtain ⟨_,g9_5⟩:=f9 5 3 5 1 (by kernel_rfl) (by kernel_rfl)
  obtain ⟨n43,e43,_,w43⟩:=DataW.trod_int ZV (show DataW.trod enc Tryz.prog W 0 (fun _=>true) true n9_ 3 [c43]=some _ from g9_5)
  obtain ⟨_,g9_6⟩:=f9 6 9 6 1 (by kernel_rfl) (by kernel_rfl)
  obtain ⟨n44,e44,_⟩:=DataW.trod_string zoJ (show DataW.trod enc Tryz.prog W 0 (fun _=>true) true n9_ 9 [c44]=some _ from g9_6)
  obtain ⟨_,g9_7⟩:=f9 7 9 7 1 (by kernel_rfl) (by kernel_rfl)
  obtain ⟨n45,e45,_⟩:=DataW.trod_string zoJ (show DataW.trod enc Tryz.prog W 0 (fun _=>true) true n9_ 9 [c45]=some _ from g9_7)
  obtain ⟨_,g9_8⟩:=f9 8 3 8 1 (by kernel_rfl) (by kernel_rfl)
  obtain ⟨n46,e46,_,w46⟩:=DataW.trod_int ZV (show DataW.trod enc Tryz.prog W 0 (fun _=>true) true n9_ 3 [c46]=some _ from g9_8)
  obtain ⟨_,g9_9⟩:=f9 9 3 9 1 (by kernel_rfl) (by kernel_rfl)
  obtain ⟨n47,e47,_,w47⟩:=DataW.trod_int ZV (show DataW.trod enc Tryz.prog W 0 (fun _=>true) true n9_ 3 [c47]=some _ from g9_9)
  obtain ⟨_,g9_10⟩:=f9 10 3 10 1 (by kernel_rfl) (by kernel_rfl)
  obtain ⟨n48,e48,_,w48⟩:=DataW.trod_int ZV (show DataW.trod enc Tryz.prog W 0 (fun _=>true) true n9_ 3 [c48]=some _ from g9_10)
  cases e0;cases e1;cases e2;cases e3;cases e4;cases e5;cases e6;cases e7;cases e8;cases e9;cases e10;cases e11;cases e12;cases e13;cases e14;cases e15;cases e16;cases e17;cases e18;cases e19;cases e20;cases e21;cases e22;cases e23;cases e24;cases e25;cases e26;cases e27;cases e28;cases e29;cases e30;cases e31;cases e32;cases e33;cases e34;cases e35;cases e36;cases e37;cases e38;cases e39;cases e40;cases e41;cases e42;cases e43;cases e44;cases e45;cases e46;cases e47;cases e48
  exact ⟨⟨n0,n1,n2,n3,⟨n4,⟨n5,n6,n7,n8,n9,n10,n11,n12,n13⟩,⟨n14,n15,n16,n17,⟨n18,n19,n20,n21,n22,n23,n24,n25,n26,n27,n28,n29,n30,n31⟩,a32,m32,q32,n32⟩,⟨n33,n34,n35,n36,n37⟩,⟨n38,n39,n40,n41,n42,n43,n44,n45,n46,n47,n48⟩⟩⟩,⟨s32,⟨List.forall_mem_cons.2 ⟨Z7 w4,List.forall_mem_cons.2 ⟨Z7 w5,List.forall_mem_cons.2 ⟨Z7 w6,List.forall_mem_cons.2 ⟨Z7 w7,List.forall_mem_cons.2 ⟨Z7 w8,List.forall_mem_cons.2 ⟨Z7 w9,List.forall_mem_cons.2 ⟨Z7 w10,List.forall_mem_cons.2 ⟨Z7 w11,List.forall_mem_cons.2 ⟨Z7 w12,List.forall_mem_cons.2 ⟨Z7 w13,List.forall_mem_cons.2 ⟨Z7 w14,List.forall_mem_cons.2 ⟨Z7 w15,List.forall_mem_cons.2 ⟨Z7 w16,List.forall_mem_cons.2 ⟨Z7 w17,List.forall_mem_cons.2 ⟨Z7 w18,List.forall_mem_cons.2 ⟨Z7 w19,List.forall_mem_cons.2 ⟨Z7 w20,List.forall_mem_cons.2 ⟨Z7 w21,List.forall_mem_cons.2 ⟨Z7 w22,List.forall_mem_cons.2 ⟨Z7 w23,List.forall_mem_cons.2 ⟨Z7 w24,List.forall_mem_cons.2 ⟨Z7 w25,List.forall_mem_cons.2 ⟨Z7 w26,List.forall_mem_cons.2 ⟨Z7 w27,List.forall_mem_cons.2 ⟨Z7 w28,List.forall_mem_cons.2 ⟨Z7 w29,List.forall_mem_cons.2 ⟨Z7 w30,List.forall_mem_cons.2 ⟨Z7 w31,List.forall_mem_cons.2 ⟨Z7 w33,List.forall_mem_cons.2 ⟨Z7 w34,List.forall_mem_cons.2 ⟨Z7 w35,List.forall_mem_cons.2 ⟨Z7 w36,List.forall_mem_cons.2 ⟨Z7 w37,List.forall_mem_cons.2 ⟨Z7 w38,List.forall_mem_cons.2 ⟨Z7 w39,List.forall_mem_cons.2 ⟨Z7 w40,List.forall_mem_cons.2 ⟨Z7 w41,List.forall_mem_cons.2 ⟨Z7 w42,List.forall_mem_cons.2 ⟨Z7 w43,List.forall_mem_cons.2 ⟨Z7 w46,List.forall_mem_cons.2 ⟨Z7 w47,List.forall_mem_cons.2 ⟨Z7 w48,fun y hy=>(by cases hy)⟩⟩⟩⟩⟩⟩⟩⟩⟩⟩⟩⟩⟩⟩⟩⟩⟩⟩⟩⟩⟩⟩⟩⟩⟩⟩⟩⟩⟩⟩⟩⟩⟩⟩⟩⟩⟩⟩⟩⟩⟩⟩,o32⟩⟩,rfl⟩
theorem zm0 {H:Type}{enc:TypeId×Value→H}{W:World}{base:Nat}{v:Value}{d:DataW H}{p:List MemPlace}(hv:Value.okWide Tryz.prog W .any base 79 v)(h:DataW.Trod enc Tryz.prog W 0 (fun _=>true) true 79 v d p):
  ∃ av n c xs,v= .slice av n c∧EvS (zbI W) av n c xs:=by
 obtain ⟨av,n,c,xs,e,hS,hok,_⟩:=zld (e:=47) zav (EvM (zbI W)) zr3 (by kernel_rfl) (by decide) znP (fun fuel cs x h=>zvT fuel cs x h) hv h
 exact ⟨av,n,c,xs,e,⟨hS,hok⟩⟩
theorem zwb {H:Type}{enc:TypeId×Value→H}{W:World}(fuel:Nat)(cs:List Value)(x:DataW H×List MemPlace)(h:DataW.trod enc Tryz.prog W 0 (fun _=>true) true fuel 5 cs=some x):∃ y:Nat,y≤255∧VL y=cs:=by
 obtain ⟨v,hv⟩:∃ v,cs=[v]:=by
  have:=h
  cases fuel with
  | zero=>simp [DataW.trod] at this
  | succ m=>unfold DataW.trod at this;rw [ziG] at this;split at this<;>simp_all
 subst hv
 obtain ⟨n,e,_,w⟩:=DataW.trod_int ziG h
 cases e
 have h2:=zsE w
 refine ⟨n.toNat,by omega,?_⟩
 show [Value.int .u8 (n.toNat:Int)]=_
 rw [Int.toNat_of_nonneg h2.1]
theorem zrJ {H:Type}{enc:TypeId×Value→H}{W:World}{base:Nat}{v:Value}{d:DataW H}{p:List MemPlace}(hv:Value.okWide Tryz.prog W .any base 80 v)(h:DataW.Trod enc Tryz.prog W 0 (fun _=>true) true 80 v d p):
  ∃ av n c xs,v= .slice av n c∧(Sl (zbI W) 1 VL av n c xs∧∀ y∈xs,y≤255):=by
 obtain ⟨av,n,c,xs,e,hS,hok,_⟩:=zld (e:=5) VL (fun y:Nat=>y≤255) zpQ (by kernel_rfl) (by decide) ZW (fun fuel cs x h=>zwb fuel cs x h) hv h
 exact ⟨av,n,c,xs,e,⟨hS,hok⟩⟩
end
section
open Go Go.Kn Go.Proofs
open Go.ChangeShapes Go.WideShapes Go.ChangeAt Go.RowKit
theorem own:ownKnob Tryz.prog.godebug=none:=by kernel_rfl
theorem zqE:laidOutB Tryz.prog=true:=by kernel_rfl
set_option maxRecDepth 100000 in
theorem KZ (os:Os) (started:os.Started) (H:Type) (enc:TypeId×Value→H):
  ReturnsInHanded {} Tryz.checked os 5 .any (Rows.partiesConvergeSpec.pre6 enc Tryz.prog Tryz.f5 Rows.partiesConvergeRow.domain false) (Rows.partiesConvergeSpec.post enc Tryz.prog Tryz.f5 false true false false):=by
 refine returnsInHanded_of_change (C:=Tryz.checked) own started (by kernel_rfl) Tryz.func5
  (ChangeSpec.witness6 (enc:=enc) (C:=Tryz.checked) false ⟨#[], #[.int .u8 0,.slice none 0 0,.slice none 0 0],[]⟩ 8 (by kernel_rfl) (by kernel_rfl) (by kernel_rfl) (by kernel_rfl)) ?_
 intro W base args ds gs before hval0 hW hcnd _
 have hval:∀ (j:Nat) t v,Tryz.f5.params[j]? =some t→args[j]? =some v→Value.okWide Tryz.prog W .any base t v:=hval0
 have hW':=hW
 obtain ⟨p,q,hA0,hV,rfl,hfz,hnd⟩:=hW
 have hA:DataW.TrodAll enc Tryz.prog W 0 (fun _=>true) true Tryz.f5.params.toList args.toList ds p:=hA0
 rw [Tryz.params5] at hA hval
 obtain ⟨v0,vs1,d0,ds1,p0,q1,ea,rfl,rfl,h0,hA⟩:=trodAll_cons hA
 obtain ⟨v1,vs2,d1,ds2,p1,q2,rfl,rfl,rfl,h1,hA⟩:=trodAll_cons hA
 obtain ⟨v2,vs3,d2,ds3,p2,q3,rfl,rfl,rfl,h2,hA⟩:=trodAll_cons hA
 obtain ⟨rfl,rfl,rfl⟩:=trodAll_nil hA
 have ea':args= #[v0,v1,v2]:=by rw [←Array.toArray_toList (xs:=args),ea]
 subst ea'
 obtain ⟨rfl,rfl⟩:=trodVars_none hV
 obtain ⟨rm,rfl,_,_,wfrm⟩:=open_int ziG (hval 0 5 v0 rfl rfl) h0
 have hr:=zsE wfrm
 obtain ⟨av,n,c,xs,rfl,hE⟩:=zm0 (hval 1 79 v1 rfl rfl) h1
 obtain ⟨ob,on,oc,os2,rfl,hY,hy8⟩:=zrJ (hval 2 80 v2 rfl rfl) h2
 refine (Yc.law (zht hE rm hr hY hy8)).mono fun e W' ⟨he,hB⟩=>?_
 subst he
 exact ⟨_,rfl,zny zqE (by kernel_rfl) zvN rfl rfl (by rw [Tryz.params5];simp only [List.mem_cons,List.not_mem_nil,or_false,forall_eq_or_imp,forall_eq];exact ⟨⟨by kernel_rfl,of_decide_eq_true (by kernel_rfl)⟩,⟨by kernel_rfl,of_decide_eq_true (by kernel_rfl)⟩,⟨by kernel_rfl,of_decide_eq_true (by kernel_rfl)⟩⟩) hW' hB⟩
end
section
open Go Go.Kn Go.Proofs
open Go.ChangeShapes Go.WideShapes Go.ChangeAt Go.RowKit
theorem VM {a b:Bool}(h1:a=true)(h2:b=true):(a&&b)=true:=by rw [h1,h2];rfl
theorem jf0:(Rows.partiesConvergeRow.wf (OpenSpec.ofChange Rows.partiesConvergeSpec))=true:=by kernel_rfl
theorem jf1:(laidOutB Tryz.checked.prog)=true:=by kernel_rfl
theorem jf2:(mapsRowed Tryz.checked.prog)=true:=by kernel_rfl
theorem jf3:(Tryz.f5.params.all (Tryz.checked.prog.readableRec ·))=true:=by kernel_rfl
theorem jf4:(namedTie Tryz.checked.prog Rows.partiesConvergeRow.named Rows.partiesConvergeSpec.vars)=true:=by kernel_rfl
theorem jf5:(Rows.partiesConvergeRow.stops== [])=true:=by kernel_rfl
theorem jf6:(Tryz.checked.prog.stops== [])=true:=by kernel_rfl
theorem jf7:(Rows.partiesConvergeRow.knobs== [])=true:=by kernel_rfl
theorem jf8:(Tryz.checked.prog.stopKnobs== [])=true:=by kernel_rfl
theorem jf9:(Rows.partiesConvergeRow.inPlace==(Tryz.checked.prog.inPlace 5))=true:=by kernel_rfl
theorem zwU:(Rows.partiesConvergeRow.unfollowed==(Tryz.checked.prog.unfollowed 5))=true:=by kernel_rfl
theorem zwD:(Rows.partiesConvergeRow.recurses==(Tryz.checked.prog.recurses 5))=true:=by kernel_rfl
theorem zwQ:(Rows.partiesConvergeRow.named==(Tryz.checked.prog.varsNamed 5))=true:=by kernel_rfl
theorem zwt:(Rows.partiesConvergeRow.maps==(Tryz.f5.params.toList++Rows.partiesConvergeSpec.plain.varTypes Tryz.checked.prog).any (Tryz.checked.prog.mapsRec ·))=true:=by kernel_rfl
theorem zwH:(Rows.partiesConvergeRow.ifaces==(Tryz.f5.params.toList++Rows.partiesConvergeSpec.plain.varTypes Tryz.checked.prog).any (Tryz.checked.prog.ifacesRec ·))=true:=by kernel_rfl
theorem zwF:(Rows.partiesConvergeRow.mapsOut==Tryz.checked.prog.mapsAmong Tryz.f5.resultTypes.toList)=true:=by kernel_rfl
theorem zwL:(Rows.partiesConvergeRow.loops==(Tryz.f5.params.toList++Rows.partiesConvergeSpec.plain.varTypes Tryz.checked.prog).any (Tryz.checked.prog.loopsFrom ·))=true:=by kernel_rfl
theorem zwT:(Rows.partiesConvergeRow.wideKeys==(Tryz.f5.params.toList++Rows.partiesConvergeSpec.plain.varTypes Tryz.checked.prog++Tryz.f5.resultTypes.toList).any (Tryz.checked.prog.wideKeysFrom ·))=true:=by kernel_rfl
theorem zwO:(Rows.partiesConvergeSpec.vars.all (Tryz.checked.prog.varReadable ·))=true:=by kernel_rfl
theorem zwz:(Tryz.f5.resultTypes.all (fun t=>Tryz.checked.prog.readableRec t&&decide (t<Tryz.checked.prog.types.size)))=true:=by kernel_rfl
theorem zw2:(Rows.partiesConvergeRow.ifacesOut==Tryz.f5.resultTypes.toList.any (Tryz.checked.prog.ifacesRec ·))=true:=by kernel_rfl
theorem zwN:(Rows.partiesConvergeRow.loopsOut==Tryz.f5.resultTypes.toList.any (Tryz.checked.prog.loopsFrom ·))=true:=by kernel_rfl
theorem zww:(Rows.partiesConvergeRow.plainKeys==Tryz.checked.prog.plainKeys)=true:=by kernel_rfl
theorem zwP:(Rows.partiesConvergeRow.shortTexts.isNone)=true:=by kernel_rfl
theorem zws:(Tryz.checked.prog.stopsHeard)=true:=by kernel_rfl
theorem zwB:(Tryz.checked.prog.mayEnter)=true:=by kernel_rfl
theorem zwG:(Rows.partiesConvergeRow.lifted==Tryz.checked.prog.liftsFinal)=true:=by kernel_rfl
theorem zwI:(Tryz.checked.prog.make==some Rows.partiesConvergeRow.make)=true:=by kernel_rfl
theorem zwx:(Rows.partiesConvergeRow.pinned==Rows.partiesConvergeRow.pinnedBy)=true:=by kernel_rfl
theorem zwJ:(Rows.partiesConvergeRow.veiled==(Tryz.f5.params.toList++Rows.partiesConvergeSpec.plain.varTypes Tryz.checked.prog++Tryz.f5.resultTypes.toList).any (Tryz.checked.prog.veiledRec ·))=true:=by kernel_rfl
theorem zwX:(Rows.partiesConvergeRow.veiledFits Tryz.checked.prog Tryz.f5.params.toList (Tryz.f5.params.toList++Rows.partiesConvergeSpec.plain.varTypes Tryz.checked.prog++Tryz.f5.resultTypes.toList))=true:=by kernel_rfl
theorem ztX:joinedFacts Tryz.checked.prog 5 Tryz.f5 Rows.partiesConvergeSpec Rows.partiesConvergeRow=true:=by
 unfold joinedFacts
 exact (VM (VM (VM (VM (VM (VM (VM (VM (VM (VM (VM (VM (VM (VM (VM (VM (VM (VM (VM (VM (VM (VM (VM (VM (VM (VM (VM (VM (VM (VM (VM jf0 jf1) jf2) jf3) jf4) jf5) jf6) jf7) jf8) jf9) zwU) zwD) zwQ) zwt) zwH) zwF) zwL) zwT) zwO) zwz) zw2) zwN) zww) zwP) zws) zwB) zwG) zwI) (by kernel_rfl)) zwx) zwJ) zwX)
theorem partiesConverge_holds:Rows.PartiesConvergeSaid:=
 OpenClaim.holds_of_wide 5 Tryz.f5 rfl rfl rfl rfl rfl rfl rfl ⟨rfl,rfl,rfl,rfl,rfl⟩ rfl rfl rfl rfl rfl (by kernel_rfl) Tryz.func5 ztX
  (of_decide_eq_true (by kernel_rfl)) (by unfold Func.isWrapper;first | (rw [if_pos (by decide+kernel)];kernel_rfl) | (rw [if_neg (by decide+kernel)];exact ⟨rfl,rfl⟩))
  (fun os started H enc _=>KZ os started H enc)
#print axioms partiesConverge_holds
end
end Go.Proofs.YtjblkbkmblkgoaaGreat
