/- apparatusOriginSpec_holds, part A of the proof: what its theorems say holds without further conditions. -/
import Derived.TacticsIn
import Derived.RangeFuncRecord
import Derived.RangeFuncNested
import Derived.Laws.Entries
import Derived.Laws.Cells
import Derived.Laws.AppendOwn
import Derived.Below
import Derived.IntWalk
import Derived.Deep.Quiet
import Derived.OrdersIn
import Derived.OrdersHeld
import Derived.Laws.StructEq
import Derived.Lib.Hide
import Derived.ChangeKeysEq
namespace Go
theorem U.{u}{α:Sort u}{a:α}:a=a:=rfl
theorem kc {P:Prop}(h:P:=by repeat (first | exact .nil | refine .cons rfl ?_)):P:=h
theorem kd {P Q:Prop}(c:Q)(h:Q→P:=by intro h;simp at h;omega):P:=h c
abbrev ja:=@if_neg
abbrev jb:=@if_pos
abbrev jc:=@List.getElem?_eq_some_iff
abbrev jd:=@Nat.zero_le
abbrev je:=@List.mem_of_getElem?
abbrev jf:=@List.getElem?_eq_getElem
abbrev jg:=@Sem.run_bind
abbrev jh:=@List.flatMap_append
abbrev ji:=@Bool.and_eq_true
abbrev jj:=@List.length_append
abbrev jk:=@List.all_eq_true
abbrev jl:=@List.mem_cons_self
abbrev jm:=@List.mem_cons_of_mem
abbrev jn:=@Nat.le_refl
abbrev jo:=@List.mem_cons
abbrev jp:=@Sem.run_pure
abbrev jq:=@List.mem_range
abbrev jr:=@List.take_of_length_le
abbrev js:=@List.append_assoc
abbrev jt:=@List.mem_map
abbrev ju:=@List.length_map
abbrev jv:=@List.length_singleton
abbrev jw:=@List.append_nil
abbrev jx:=@List.length_cons
abbrev jy:=@Bool.false_eq_true
abbrev jz:=@List.take_add_one
abbrev jA:=@congrArg
abbrev jB:=@List.getElem?_map
abbrev jC:=@List.mem_append
abbrev jD:=@List.any_eq_true
abbrev jE:=@List.length_filter_le
abbrev jF:=@List.map_cons
abbrev jG:=@decide_eq_true_eq
abbrev jH:=@List.filter_append
abbrev jI:=@Bool.eq_iff_iff
abbrev jJ:=@List.length_take
abbrev jK:=@DataW.trod_int
abbrev jL:=@List.any_eq_false
abbrev jM:=@List.mem_singleton
abbrev jN:=@decide_eq_true
abbrev jO:=@Nat.le_trans
abbrev jP:=@List.mem_filter
abbrev jQ:=@run_underlying
abbrev jR:=@decide_eq_false_iff_not
abbrev jS:=@Bool.or_eq_false_iff
abbrev jT:=@List.take_append_drop
abbrev jU:=@List.getElem?_of_mem
abbrev jV:=@List.flatMap_cons
abbrev jW:=@beq_iff_eq
abbrev jX:=@decide_eq_false
abbrev jY:=@List.pairwise_iff_getElem
abbrev jZ:=@Bool.not_eq_true'
abbrev Jb:=@List.pairwise_cons
abbrev Oa:=@if_false
abbrev Ob:=@Option.some.inj
abbrev Oc:=@List.filter_cons
abbrev Od:=@List.map_append
abbrev Oe:=@Option.some.injEq
abbrev Of:=@List.foldl_cons
abbrev Oh:=@List.foldl_append
abbrev Oi:=@List.nil_append
abbrev Oj:=@Nat.zero_add
abbrev Ok:=@List.range_succ
abbrev Ol:=@List.getElem?_eq_none
abbrev Om:=@Nat.mul_one
abbrev On:=@Bool.or_eq_true
abbrev Oo:=@List.length_eq_zero_iff
abbrev Oq:=@of_decide_eq_true
abbrev Or:=@List.drop_eq_nil_of_le
abbrev Ot:=@Option.map_eq_some_iff
abbrev Ou:=@Bool.true_and
abbrev Ov:=@List.getElem?_append_right
abbrev Ow:=@Option.map_some
abbrev Ox:=@List.perm_append_comm_assoc
abbrev Oy:=@List.length_drop
abbrev Oz:=@List.getD_eq_getElem?_getD
abbrev OA:=@List.getElem?_take
abbrev OB:=@if_true
abbrev OC:=@Bool.not_eq_false'
abbrev OD:=@List.getElem?_range
abbrev OE:=@List.cons_append
abbrev OF:=@List.map_toArray
abbrev OG:=@List.length_range
abbrev OH:=@List.size_toArray
abbrev OI:=@List.eq_nil_of_length_eq_zero
abbrev OJ:=@List.pairwise_append
abbrev OK:=@List.map_congr_left
abbrev OL:=@beq_eq_false_iff_ne
abbrev OM:=@Array.getD_eq_getD_getElem?
abbrev ON:=@not_true_eq_false
abbrev OO:=@List.filter_cons_of_pos
abbrev OP:=@Bool.and_false
abbrev OQ:=@Bool.or_false
abbrev OR:=@List.find?_eq_none
abbrev OS:=@List.mem_append_left
abbrev OT:=@Decidable.byContradiction
abbrev OU:=@Oper.uponIn_value
abbrev OV:=@Bool.and_assoc
abbrev OW:=@Option.isSome_iff_exists
abbrev OX:=@List.find?_cons
abbrev OY:=@List.filter_cons_of_neg
abbrev OZ:=@List.getElem?_cons_succ
abbrev O0:=@Array.getElem?_eq_some_iff
abbrev O1:=@List.takeWhile_append_dropWhile
abbrev O2:=@Array.getElem?_eq_getElem
abbrev O3:=@List.getElem?_append_left
abbrev O4:=@List.mem_of_find?_eq_some
abbrev O5:=@List.nodup_cons
abbrev O6:=@List.mem_append_right
abbrev O7:=@Bool.false_ne_true
abbrev O8:=@List.getElem_mem
abbrev O9:=@Nat.add_mul
abbrev Aa:=@List.drop_drop
abbrev Ac:=@List.getElem?_append
abbrev Ad:=@List.ext_getElem?
abbrev Ae:=@List.nodup_append
abbrev Af:=@List.any_append
abbrev Ag:=@List.length_nil
abbrev Ah:=@List.map_nil
abbrev Ai:=@Bool.false_or
abbrev Aj:=@List.setIfInBounds_toArray
abbrev Ak:=@Oper.semAt_eq
abbrev Al:=@List.take_length
abbrev Am:=@Array.getElem?_toList
abbrev An:=@Classical.choose_spec
abbrev Ap:=@List.perm_append_comm
abbrev Aq:=@Nat.eq_of_beq_eq_true
abbrev Ar:=@List.mem_take_iff_getElem
abbrev As:=@List.all_append
abbrev Au:=@List.mem_of_mem_take
abbrev Av:=@Nat.mul_le_mul_right
abbrev Aw:=@Bool.eq_false_iff
abbrev Ax:=@Result.andThen_ok
abbrev Ay:=@List.getElem?_replicate
abbrev Az:=@Bool.false_and
abbrev AA:=@List.perm_middle
abbrev AB:=@List.take_zero
abbrev AC:=@Int.le_refl
abbrev AD:=@List.filter_eq_nil_iff
abbrev AE:=@List.getElem?_set_self
abbrev AF:=@List.getElem?_drop
abbrev AG:=@List.ne_nil_of_mem
abbrev AH:=@Nat.add_sub_cancel
abbrev AI:=@of_decide_eq_false
abbrev AJ:=@Bool.and_eq_false_iff
abbrev AK:=@List.getElem?_toArray
abbrev AL:=@List.length_set
abbrev AM:=@Nat.le_of_ble_eq_true
abbrev AN:=@Nat.eq_of_mul_eq_mul_right
abbrev AO:=@Prod.mk.injEq
abbrev AP:=@List.filter_congr
abbrev AQ:=@List.set_eq_take_append_cons_drop
abbrev AR:=@List.mapM_cons
abbrev AS:=@Oper.uponIn_skip
abbrev AT:=@Int.toNat_of_nonneg
abbrev AU:=@Bool.or_assoc
abbrev AV:=@List.cons.injEq
abbrev AW:=@Nat.blt_eq
abbrev AX:=@beq_false_of_ne
abbrev AY:=@wpIn_mono
abbrev AZ:=@List.length_pos_of_mem
abbrev A1:=@List.take_append_of_le_length
abbrev A2:=@List.find?_append
abbrev A3:=@List.pairwise_map
abbrev A4:=@Act.put_comm
abbrev A5:=@List.length_replicate
abbrev A6:=@List.take_left
abbrev A7:=@List.mem_iff_getElem
abbrev A8:=@Nat.mod_lt
abbrev A9:=@Nat.pow_le_pow_right
abbrev Ba:=@bne_iff_ne
abbrev Bb:=@ne_eq
abbrev Bc:=@Int.fdiv_eq_ediv_of_nonneg
abbrev Bd:=@List.perm_ext_iff_of_nodup
abbrev Be:=@List.sum_cons
abbrev Bf:=@Array.length_toList
abbrev Bg:=@List.filter_eq_self
abbrev Bh:=@List.length_take_le
abbrev Bi:=@List.takeWhile_cons
abbrev Bj:=@List.take_succ_cons
abbrev Bk:=@List.exists_mem_of_ne_nil
abbrev Bl:=@List.find?_some
abbrev Bm:=@Option.map_none
abbrev Bn:=@Decidable.em
abbrev Bo:=@List.findIdx?_cons
abbrev Bp:=@List.getElem?_take_of_lt
abbrev Bq:=@Nat.lt_of_le_of_lt
abbrev Br:=@Nat.sub_self
abbrev Bs:=@Array.ext'
abbrev Bt:=@List.foldl_nil
abbrev Bu:=@Ne.symm
abbrev Bv:=@List.getElem?_cons_zero
abbrev Bw:=@List.all_eq_false
abbrev Bx:=@List.mem_range'_1
abbrev By:=@Nat.one_mul
abbrev Bz:=@List.findIdx_lt_length_of_exists
abbrev BA:=@Nat.le_of_not_lt
abbrev BB:=@run_newObj_alloc
abbrev BC:=@Array.getElem?_modify
abbrev BD:=@Array.toArray_toList
abbrev BE:=@Bool.or_true
abbrev BF:=@List.Nodup.length_le_of_subset
abbrev BG:=@List.getElem?_set_ne
abbrev BH:=@Nat.gcd_comm
abbrev BI:=@Nat.le_of_lt
abbrev BJ:=@Nat.min_eq_left
abbrev BK:=@Region.noSelect_spec
abbrev BL:=@run_eqGuard_agg
abbrev BM:=@run_equalIn_int
abbrev BN:=@List.dropWhile_cons
abbrev BO:=@List.getElem_of_mem
abbrev BP:=@List.mergeSort_perm
abbrev BQ:=@bne_eq_false_iff_eq
abbrev BR:=@List.drop_left
abbrev BS:=@List.map_replicate
abbrev BT:=@run_equalIn_struct
abbrev BU:=@run_loadCells_list
abbrev BV:=@Bool.and_comm
abbrev BW:=@Bool.not_true
abbrev BX:=@List.all_cons
abbrev BY:=@List.any_cons
abbrev BZ:=@Function.comp_def
abbrev B1:=@Oper.uponIn_enter
abbrev B2:=@run_equalIn_bool'
abbrev B3:=@Int.lt_trans
abbrev B4:=@List.map_set
abbrev B5:=@List.mem_flatMap
abbrev B6:=@Nat.and_comm
abbrev B7:=@Nat.lt_or_ge
abbrev B8:=@Nat.zero_mul
abbrev B9:=@Region.free_spec
abbrev Da:=@getElem!_pos
end Go
namespace Go
theorem kA {P:Prop}(h:P:=by kernel_rfl):P:=h
theorem kB {P:Prop}(h:P:=by omega):P:=h
theorem kC {P:Prop}(h:P:=by decide):P:=h
theorem kD {P:Prop}(h:P:=by repeat (first | exact jl .. | apply jm)):P:=h
theorem kE {P:Prop}(h:P:=by assumption):P:=h
theorem kF {P:Prop}(h:P:=by intro c e;cases e):P:=h
theorem kG {P:Prop}(h:P:=by repeat (first | exact zJF | apply zJE | apply zJG)):P:=h
theorem kH {P:Prop}(h:P:=by repeat (first | exact .refl | exact Q3 | refine Z4 ?_ | refine .drop ?_ | refine ZN ?_)):P:=h
theorem kI {P:Prop}(h:P:=by repeat (first | exact zJF | apply zJE)):P:=h
theorem kJ {P:Prop}(h:P:=by simp):P:=h
theorem kK {P:Prop}(h:P:=by simp;omega):P:=h
theorem kL {P:Prop}(h:P:=by rfl):P:=h
theorem kM {P:Prop}(h:P:=by simp only [jx];omega):P:=h
theorem kN {P:Prop}(h:P:=by rw [Z1];omega):P:=h
theorem kO {P:Prop}(h:P:=by simp only [jj,jx,Ag]<;>omega):P:=h
theorem kP {P:Prop}(h:P:=by repeat (first | exact .refl | refine .keep ?_ | refine .drop ?_)):P:=h
theorem kQ {P:Prop}(h:P:=by rw [YU];exact WS):P:=h
end Go
namespace Go.Kn
section
open Go
abbrev Env:=List (Nat×Value)
def J9:Env->Nat->Option Value
 | [],_=>none
 | (k,v)::E,i=>bif Nat.beq k i then some v else J9 E i
abbrev Qu:=Nat->Option Obj
abbrev Loc:=List (Nat×Obj)
def HLe (I I':Qu):Prop:=∀ b o,I b=some o->I' b=some o
theorem HLe.refl (I:Qu):HLe I I:=fun _ _ h=>h
abbrev zJH:=@HLe.refl
variable{I:Qu}
theorem HLe.trans {J K:Qu}(h:HLe I J)(k:HLe J K):HLe I K:=fun b o e=>k b o (h b o e)
structure St (g:World)(I H:Qu)(loc:Loc)(w:World):Prop where
 os:w.os=g.os
 tape:w.tape=g.tape
 out:w.output=g.output
 size:g.heap.size<=w.heap.size/\g.drawn<=w.drawn
 imm:∀ b o,I b=some o->w.heap[b]? =some o
 frm:∀ b o,H b=some o->w.heap[b]? =some o
 own:∀ b o,(b,o)∈loc->w.heap[b]? =some o
 sepIH:∀ b,I b=none\/H b=none
 sepIL:∀ b o,(b,o)∈loc->I b=none/\H b=none
 nodup:(loc.map (·.1)).Nodup
section
variable {g:World} {I j H:Qu} {d f:Loc} {w i:World}
theorem St.fresh (h:St g I H d w):I w.heap.size=none/\H w.heap.size=none/\∀ o,(w.heap.size,o)∉d:=by
 refine ⟨?_,?_,fun o a=>?_⟩
 ·cases e:I w.heap.size with
  | none=>rfl
  | some o=>have:=h.imm _ _ e;simp at this
 ·cases e:H w.heap.size with
  | none=>rfl
  | some o=>have:=h.frm _ _ e;simp at this
 ·have:=h.own _ _ a;simp at this
theorem St.alloc (h:St g I H d w)(o:Obj):St g I H ((w.heap.size,o)::d) (w.alloc o):=by
 have n:∀ b a,w.heap[b]? =some a->(w.alloc o).heap[b]? =some a:=fun b a e=>by
  have s:b<w.heap.size:=(O0.1 e).1;show (w.heap.push o)[b]? =_;rw [Array.getElem?_push,ja kB];exact e
 obtain ⟨p,q,r⟩:=h.fresh;refine ⟨h.os,h.tape,h.out,?_,fun b a e=>n _ _ (h.imm b a e),fun b a e=>n _ _ (h.frm b a e),?_,h.sepIH,?_,?_⟩
 ·exact ⟨by have:=h.size.1;show _<=(w.heap.push o).size;simp;omega,h.size.2⟩
 ·intro b a l;rcases jo.1 l with e | l
  ·cases e;show (w.heap.push o)[w.heap.size]? =_;simp
  ·exact n _ _ (h.own b a l)
 ·intro b a l;rcases jo.1 l with e | l
  ·cases e;exact ⟨p,q⟩
  ·exact h.sepIL b a l
 ·simp only [jF,O5];refine ⟨fun l=>?_,h.nodup⟩;obtain ⟨⟨b,a⟩,l,e⟩:=jt.1 l;simp only at e;subst e;exact r _ l
theorem St.mono (h:St g I H d w)(l:HLe j I):St g j H d w:=
  ⟨h.os,h.tape,h.out,h.size,fun b o e=>h.imm b o (l b o e),h.frm,h.own,
   fun b=>by
     rcases h.sepIH b with e | e
     · left;cases a:j b with
       | none=>rfl
       | some o=>have:=l b o a;rw [e] at this;cases this
     · exact .inr e,
   fun b o n=>⟨(by
      cases a:j b with
      | none=>rfl
      | some p=>have:=l b p a;rw [(h.sepIL b o n).1] at this;cases this),(h.sepIL b o n).2⟩,h.nodup⟩
inductive Upd:Loc->Nat->Obj->Obj->Loc->Prop
 | here {b:Nat} {o o':Obj} {l:Loc}:Upd ((b,o)::l) b o o' ((b,o')::l)
 | there {x:Nat×Obj} {b:Nat} {o o':Obj} {l l':Loc} (h:Upd l b o o' l'):Upd (x::l) b o o' (x::l')
theorem Upd.mem {b:Nat}{o a:Obj}(h:Upd d b o a f):(b,o)∈d:=by
 induction h with
 | here=>exact jl ..
 | there _ ih=>exact jm _ ih
theorem Upd.keys {b:Nat}{o a:Obj}(h:Upd d b o a f):f.map (·.1)=d.map (·.1):=by
 induction h with
 | here=>rfl
 | there _ ih=>simp [ih]
theorem Upd.mem' {b:Nat}{o r:Obj}(h:Upd d b o r f)(q:(d.map (·.1)).Nodup):∀ c p,(c,p)∈f->(c=b/\p=r)\/(c≠b/\(c,p)∈d):=by
 induction h with
 | here=>
  intro c p a;simp only [jF,O5] at q;rcases jo.1 a with e | n
  ·cases e;exact .inl ⟨U,U⟩
  ·refine .inr ⟨fun e=>?_,jm _ n⟩;subst e;exact q.1 (jt.2 ⟨(_,p),n,U⟩)
 | @there x b o r l l' h ih=>
  intro c p a;simp only [jF,O5] at q;rcases jo.1 a with e | a
  ·subst e;refine .inr ⟨fun e=>?_,jl ..⟩;subst e;exact q.1 (jt.2 ⟨_,h.mem,U⟩)
  ·rcases ih q.2 c p a with e | ⟨e,a⟩
   ·exact .inl e
   ·exact .inr ⟨e,jm _ a⟩
theorem St.turn (h:St g I H d w){b:Nat}{o r:Obj}(l:Upd d b o r f)(y:i.os=w.os)(B:i.tape=w.tape)(z:i.output=w.output)(A:i.heap.size=w.heap.size)
  (u:i.heap[b]? =some r)(q:∀ c,c≠b->i.heap[c]? =w.heap[c]?)(x:w.drawn<=i.drawn:=by exact jn _):St g I H f i:=by
 have t:∀ c o,I c=some o->c≠b:=fun c p e n=>(by subst n;rw [(h.sepIL _ _ l.mem).1] at e;cases e);have s:∀ c o,H c=some o->c≠b:=fun c p e n=>(by subst n;rw [(h.sepIL _ _ l.mem).2] at e;cases e);refine ⟨y.trans h.os,B.trans h.tape,z.trans h.out,⟨by rw [A];exact h.size.1,jO h.size.2 x⟩,fun c p e=>(q c (t c p e)).trans (h.imm c p e),fun c p e=>(q c (s c p e)).trans (h.frm c p e),?_,h.sepIH,?_,by rw [l.keys];exact h.nodup⟩
 ·intro c p a;rcases l.mem' h.nodup c p a with ⟨rfl,rfl⟩ | ⟨e,a⟩
  ·exact u
  ·exact (q c e).trans (h.own c p a)
 ·intro c p a;rcases l.mem' h.nodup c p a with ⟨rfl,rfl⟩ | ⟨e,a⟩
  ·exact h.sepIL _ _ l.mem
  ·exact h.sepIL c p a
theorem St.setCell (h:St g I H d w){b a:Nat}{c:Array Value}{t:TypeId}{l:Nat×Nat}{v:Value}(n:Upd d b (.cells c t l) (.cells (c.setIfInBounds a v) t l) f):
  St g I H f (w.setCell ⟨b,a,none⟩ v):=by
 have o:=h.own _ _ n.mem;refine h.turn n U U U (by simp [World.setCell]) ?_ (fun c p=>Below.heap_setCell _ _ _ _ p);simp only [World.setCell,BC,jb,o,Ow];simp
where Below.heap_setCell (w:World) (a:Addr) (u:Value) (k:Nat) (h:k≠a.block):(w.setCell a u).heap[k]? =w.heap[k]? :=RowKit.Below.heap_setCell w a u k h
theorem St.putObj (h:St g I H d w){b:Nat}{o o':Obj}(l:Upd d b o o' f):St g I H f (w.putObj b o'):=by have n:=h.own _ _ l.mem;have a:b<w.heap.size:=(O0.1 n).1;exact h.turn l U U U kJ (World.putObj_heap_same a) (fun c p=>World.putObj_heap_other p)
theorem St.drew (h:St g I H d w):St g I H d {w with drawn:=w.drawn+1}:=
 ⟨h.os,h.tape,h.out,⟨h.size.1,Nat.le_succ_of_le h.size.2⟩,h.imm,h.frm,h.own,h.sepIH,h.sepIL,h.nodup⟩
theorem St.drew' (h:St g I H d w):St g I H d w.drew:=h.drew
inductive Zb:Loc->Nat->Obj->Loc->Prop
 | here {b:Nat} {o:Obj} {l:Loc}:Zb ((b,o)::l) b o l
 | there {x:Nat×Obj} {b:Nat} {o:Obj} {l l':Loc} (h:Zb l b o l'):Zb (x::l) b o (x::l')
theorem Zb.mem {b:Nat}{o:Obj}(h:Zb d b o f):(b,o)∈d:=by
 induction h with
 | here=>exact jl ..
 | there _ ih=>exact jm _ ih
theorem Zb.sub {b:Nat}{o:Obj}(h:Zb d b o f):∀ c p,(c,p)∈f->(c,p)∈d:=by
 induction h with
 | here=>exact fun c p a=>jm _ a
 | there _ ih=>exact fun c p a=>(jo.1 a).elim (fun e=>e ▸ jl ..) (fun a=>jm _ (ih c p a))
theorem Zb.nodup {b:Nat}{o:Obj}(h:Zb d b o f)(n:(d.map (·.1)).Nodup):(f.map (·.1)).Nodup/\∀ p,(b,p)∉f:=by
 induction h with
 | here=>
  simp only [jF,O5] at n;exact ⟨n.2,fun p a=>n.1 (jt.2 ⟨(_,p),a,U⟩)⟩
 | @there x b o l l' h ih=>
  simp only [jF,O5] at n ⊢;obtain ⟨q,r⟩:=ih n.2;refine ⟨⟨fun a=>?_,q⟩,fun p a=>?_⟩
  ·obtain ⟨⟨c,p⟩,a,e⟩:=jt.1 a;exact n.1 (jt.2 ⟨_,h.sub _ _ a,e⟩)
  ·rcases jo.1 a with e | a
   ·subst e;exact n.1 (jt.2 ⟨_,h.mem,U⟩)
   ·exact r p a
def zvf (I:Qu)(b:Nat)(o:Obj):Qu:=fun x=>if x=b then some o else I x
def JH (I:Qu):Loc->Qu
 | []=>I
 | (b,o)::l=>fun x=>if x=b then some o else JH I l x
theorem St.freeze (h:St g I H d w){b:Nat}{o:Obj}(l:Zb d b o f):St g (zvf I b o) H f w/\HLe I (zvf I b o)/\zvf I b o b=some o:=by
 obtain ⟨r,s⟩:=l.nodup h.nodup;refine ⟨⟨h.os,h.tape,h.out,h.size,?_,h.frm,fun c p n=>h.own c p (l.sub c p n),?_,?_,r⟩,?_,by simp [zvf]⟩
 ·intro c p e;simp only [zvf] at e;split at e
  ·cases e;rename_i e;subst e;exact h.own _ _ l.mem
  ·exact h.imm c p e
 ·intro c;by_cases e:c=b
  ·subst e;exact .inr (h.sepIL _ _ l.mem).2
  ·simp only [zvf,ja e];exact h.sepIH c
 ·intro c p n;have a:c≠b:=fun e=>(by subst e;exact s p n);simp only [zvf,ja a];exact h.sepIL c p (l.sub c p n)
 ·intro c p e;have a:c≠b:=fun q=>(by subst q;rw [(h.sepIL _ _ l.mem).1] at e;cases e);simp only [zvf,ja a];exact e
theorem zbl {l:Loc}:∀ {b:Nat},(∀ o,(b,o)∉l)->JH H l b=H b:=by
 induction l with
 | nil=>intro b _;rfl
 | cons x l ih=>
  obtain ⟨c,p⟩:=x;intro b h;have a:b≠c:=fun e=>(by subst e;exact h p (jl ..));simp only [JH,ja a];exact ih (fun o n=>h o (jm _ n))
theorem ziX {l:Loc}(n:(l.map (·.1)).Nodup):∀ {b:Nat} {o:Obj},(b,o)∈l->JH H l b=some o:=by
 induction l with
 | nil=>intro b o h;cases h
 | cons x l ih=>
  obtain ⟨c,p⟩:=x;simp only [jF,O5] at n;intro b o h;rcases jo.1 h with e | a
  ·cases e;simp [JH]
  ·have q:b≠c:=fun e=>(by subst e;exact n.1 (jt.2 ⟨(_,o),a,U⟩));simp only [JH,ja q];exact ih n.2 a
theorem WA {l:Loc}:∀ {b:Nat} {o:Obj},JH H l b=some o->(b,o)∈l\/H b=some o:=by
 induction l with
 | nil=>intro b o e;exact .inr e
 | cons x l ih=>
  obtain ⟨c,p⟩:=x;intro b o e;simp only [JH] at e;split at e
  ·cases e;rename_i e;subst e;exact .inl (jl ..)
  ·exact (ih e).imp (jm _) id
theorem St.hide (h:St g I H d w):St g I (JH H d) [] w:=by
 refine ⟨h.os,h.tape,h.out,h.size,h.imm,?_,(fun b o a=>by cases a),?_,(fun b o a=>by cases a),by simp⟩
 ·intro b o e;rcases WA e with a | e
  ·exact h.own b o a
  ·exact h.frm b o e
 ·intro b
  cases e:JH H d b with
  | none=>exact .inr U
  | some o=>
   rcases WA e with a | e
   ·exact .inl (h.sepIL b o a).1
   ·rcases h.sepIH b with l | l
    ·exact .inl l
    ·rw [l] at e;cases e
theorem St.unhide (h:St g I H d w){L:Loc}(l:St g j (JH H d) L i):St g j H (L++d) i:=by
 have q:∀ b o,H b=some o->JH H d b=some o:=fun b o e=>by
  rw [zbl (fun p a=>by rw [(h.sepIL b p a).2] at e;cases e)];exact e
 have n:∀ b o,(b,o)∈d->JH H d b=some o:=fun b o a=>ziX h.nodup a;refine ⟨l.os,l.tape,l.out,l.size,l.imm,fun b o e=>l.frm b o (q b o e),?_,?_,?_,?_⟩
 ·intro b o a;rcases jC.1 a with a | a
  ·exact l.own b o a
  ·exact l.frm b o (n b o a)
 ·intro b;rcases l.sepIH b with e | e
  ·exact .inl e
  ·cases r:H b with
   | none=>exact .inr U
   | some o=>rw [q b o r] at e;cases e
 ·intro b o a;rcases jC.1 a with a | a
  ·obtain ⟨u,t⟩:=l.sepIL b o a;refine ⟨u,?_⟩
   cases r:H b with
   | none=>rfl
   | some p=>rw [q b p r] at t;cases t
  ·refine ⟨?_,(h.sepIL b o a).2⟩;rcases l.sepIH b with e | e
   ·exact e
   ·rw [n b o a] at e;cases e
 ·rw [Od,Ae];refine ⟨l.nodup,h.nodup,fun x z y A e=>?_⟩;subst e;obtain ⟨⟨b,o⟩,a,rfl⟩:=jt.1 z;obtain ⟨⟨c,p⟩,s,e⟩:=jt.1 A;simp only at e;subst e;have:=(l.sepIL _ _ a).2;rw [n _ _ s] at this;cases this
end

structure UQ (N:Nat)(D:List Deferred)(E:Env)(a:Act):Prop where
 size:a.tmps.size=N
 defers:a.defers=D
 env:∀ k v,J9 E k=some v->a.tmps.getD k undef=v
abbrev GS:=List (Bool×Env)
def ZH:GS->Bool
 | []=>true
 | (b,_)::S=>b&&ZH S
def Ud:GS->Act->Prop
 | [],_=>True
 | (b,G)::S,a=>(∀ k v,J9 G k=some v->a.tmps.getD k undef=bif b&&ZH S then v else undef)/\Ud S a
def zie:GS->Env->Nat->Option Value
 | [],E,k=>J9 E k
 | (_,G)::S,E,k=>match J9 G k with
  | some v=>some v
  | none=>zie S E k
def WY:GS->Env->Nat->Option Value
 | [],E,k=>J9 E k
 | (_,G)::_,_,k=>J9 G k
def QB (S:GS)(E:Env):Operand->Option Value
 | .tmp t=>zie S E t
 | .const v=>some v
 | .global g=>some (.pointer (some ⟨g,0,none⟩))
 | .func f=>some (.func (.func f) #[] #[])
section
variable {N:Nat} {D:List Deferred} {S:GS} {E n:Env} {a:Act}
theorem zcH (h:UQ N D E a):∀ {S:GS},Ud S a->ZH S=true->∀ {k v},zie S E k=some v->a.tmps.getD k undef=v
 | [],_,_,k,v,e=>h.env k v e
 | (b,G)::S,hg,hc,k,v,e=>by
  simp only [ZH] at hc;simp only [zie] at e
  cases d:J9 G k with
  | some u=>
   rw [d] at e;cases e;have:=hg.1 k _ d;rw [hc] at this;exact this
  | none=>
   rw [d] at e;exact zcH h hg.2 (by simp only [ji] at hc;exact hc.2) e
theorem Qp (h:UQ N D E a)(hg:Ud S a)(b:ZH S=true){x:Operand}{v:Value}(e:QB S E x=some v):a.eval x=v:=by
 cases x with
 | tmp t=>exact zcH h hg b e
 | const u=>exact Ob e
 | global g=>exact Ob e
 | func f=>exact Ob e
def Sub (n E:Env):Prop:=∀ k v,J9 n k=some v->J9 E k=some v
theorem Sub.refl (E:Env):Sub E E:=fun _ _ h=>h
theorem Sub.nil:Sub [] E:=fun _ _ h=>by cases h
theorem Sub.cons {k:Nat}{v:Value}(h:J9 E k=some v)(d:Sub n E):Sub ((k,v)::n) E:=fun i u e=>by
 simp only [J9] at e
 cases b:Nat.beq k i with
 | true=>rw [b] at e;cases e;rw [<-Aq b];exact h
 | false=>rw [b] at e;exact d i u e
theorem UQ.sub (h:UQ N D E a)(b:Sub n E):UQ N D n a:=⟨h.size,h.defers,fun k v e=>h.env k v (b k v e)⟩
theorem Xp {d:Nat}{v:Value}(h:d<a.tmps.size):(a.put (some d) v).tmps.getD d undef=v:=by simp [Act.put,h]
theorem UG {d k:Nat}{v:Value}(h:k≠d):(a.put (some d) v).tmps.getD k undef=a.tmps.getD k undef:=by simp [Act.put,Array.getElem?_setIfInBounds_ne (Bu h)]
theorem UQ.put (h:UQ N D E a){d:Nat}(i:Nat.blt d N=true)(v:Value):UQ N D ((d,v)::E) (a.put (some d) v):=by
 have f:d<N:=Eq.mp AW i;refine ⟨by simp [Act.put,h.size],h.defers,fun k u e=>?_⟩;simp only [J9] at e
 cases b:Nat.beq d k with
 | true=>
  rw [b] at e;cases e;rw [<-Aq b];exact Xp (by rw [h.size];exact f)
 | false=>
  rw [b] at e;have g:k≠d:=fun e=>(by subst e;rw [show Nat.beq k k=true from Nat.beq_refl k] at b;cases b);rw [UG g];exact h.env k u e
theorem UQ.put_none (h:UQ N D E a){d:Nat}(g:J9 E d=none)(v:Value):UQ N D E (a.put (some d) v):=
 ⟨by simp [Act.put,h.size],h.defers,fun k u e=>by
  have b:k≠d:=fun f=>by subst f;rw [g] at e;cases e
  rw [UG b];exact h.env k u e⟩
def zj1:GS->Nat->Bool
 | [],_=>true
 | (_,G)::S,d=>(J9 G d).isNone&&zj1 S d
theorem Ud.put:∀ {S:GS} {d:Nat},Ud S a->zj1 S d=true->∀ v,Ud S (a.put (some d) v)
 | [],_,_,_,_=>trivial
 | (b,G)::S,d,hg,hf,v=>by
  simp only [zj1,ji] at hf;refine ⟨fun k u e=>?_,Ud.put hg.2 hf.2 v⟩;have f:k≠d:=fun g=>(by subst g;rw [e] at hf;simp at hf);rw [UG f];exact hg.1 k u e
def XY:GS->Env->Nat->Value->GS
 | [],_,_,_=>[]
 | (b,G)::S,_,d,v=>(b,(d,v)::G)::S
def zhf:GS->Env->Nat->Value->Env
 | [],E,d,v=>(d,v)::E
 | _::_,E,_,_=>E
def Yf:GS->Env->Nat->Bool
 | [],_,_=>true
 | (_,_)::S,E,d=>(J9 E d).isNone&&zj1 S d
theorem YI (h:UQ N D E a)(hg:Ud S a){d:Nat}(j:Nat.blt d N=true)(g:Yf S E d=true)(v:Value):
  UQ N D (zhf S E d v) (a.put (some d) (bif ZH S then v else undef))/\Ud (XY S E d v) (a.put (some d) (bif ZH S then v else undef)):=by
 cases S with
 | nil=>exact ⟨h.put j v,trivial⟩
 | cons x S=>
  obtain ⟨b,G⟩:=x;simp only [Yf,ji,Option.isNone_iff_eq_none] at g;refine ⟨h.put_none g.1 _,fun k u e=>?_,hg.2.put g.2 _⟩;simp only [J9] at e
  cases f:Nat.beq d k with
  | true=>
   rw [f] at e;cases e;rw [<-Aq f];exact Xp (by rw [h.size];exact Eq.mp AW j)
  | false=>
   rw [f] at e;have i:k≠d:=fun e=>(by subst e;rw [show Nat.beq k k=true from Nat.beq_refl k] at f;cases f);rw [UG i];exact hg.1 k u e
inductive Zt (ops:Array Oper):GS->Env->Oper->Prop
 | none {E:Env} {o:Oper} (h:o.guard=none):Zt ops [] E o
 | some {S:GS} {b:Bool} {G E:Env} {o oj:Oper} {j dj:Nat} {want b0:Bool} (h:o.guard=some (j,want)) (hj:ops[j]? =some oj) (hd:oj.dst=some dj)
   (hl:WY S E dj=some (.bool b0)) (hb:b=(b0==want)):Zt ops ((b,G)::S) E o
theorem U2 {b:Array Oper}{j d:Nat}{g:Oper}(l:b[j]? =some g)(i:g.dst=some d){f:Bool}(h:a.tmps.getD d undef= .bool f):yielded b a.tmps j=some f:=by
 have:a.tmps[d]? =some (.bool f):=by
  cases e:a.tmps[d]? with
  | none=>simp [e,undef] at h
  | some v=>simp [e] at h;rw [h]
 simp [yielded,l,i,this]
theorem zeX {b:Array Oper}{j d:Nat}{f:Oper}(i:b[j]? =some f)(g:f.dst=some d)(h:a.tmps.getD d undef=undef):yielded b a.tmps j=none:=by
 unfold yielded;simp only [i,Option.bind_some,g]
 cases e:a.tmps[d]? with
 | none=>rfl
 | some v=>
  simp [e] at h;rw [h];rfl
theorem Zt.wanted {d:Array Oper}{o:Oper}(i:Zt d S E o)(h:UQ N D E a)(hg:Ud S a):Region.wanted o (yielded d a.tmps)=ZH S:=by
 cases i with
 | none h0=>simp [Region.wanted,h0,ZH]
 | @some S b G E o oj j dj want b0 h0 hj hd hl hb=>
  simp only [Region.wanted,h0,ZH]
  cases S with
  | nil=>
   rw [U2 hj hd (h.env _ _ hl)];simp [hb,ZH]
  | cons x S=>
   obtain ⟨g,l⟩:=x;have:=hg.2.1 _ _ hl
   cases f:(g&&ZH S) with
   | true=>
    rw [f] at this;rw [U2 hj hd this];simp [hb,ZH,f]
   | false=>
    rw [f] at this;rw [zeX hj hd this];simp [ZH,f]
def zvP (i:Nat):List Value->Env
 | []=>[]
 | v::l=>(i,v)::zvP (i+1) l
theorem zgz:∀ (l:List Value) (i k:Nat) (v:Value),J9 (zvP i l) k=some v->∃ j,k=i+j/\l[j]? =some v
 | [],_,_,_,e=>by cases e
 | u::l,i,k,v,e=>by
  simp only [zvP,J9] at e
  cases b:Nat.beq i k with
  | true=>rw [b] at e;cases e;exact ⟨0,by simp [Aq b],by simp⟩
  | false=>
   rw [b] at e;obtain ⟨j,h1,h2⟩:=zgz l (i+1) k v e;exact ⟨j+1,kB,by simpa using h2⟩
theorem zgl (b:List Value)(N:Nat)(h:b.length<=N):UQ N [] (zvP 0 b) {tmps:=b.toArray++Array.replicate (N-b.toArray.size) undef,defers:=[]}:=by refine ⟨by simp;omega,U,fun k v e=>?_⟩;obtain ⟨j,h1,h2⟩:=zgz b 0 k v e;have d:j<b.length:=(jc.1 h2).1;have f:k=j:=kB;subst f;have h3:b[k]'d=v:=(jc.1 h2).2;simp [Array.getElem?_append,d,h3]
end
structure Cx where
 P:Program
 r:Option Nat
 N:Nat
 D:List Deferred
 g:World
 H:Qu
def FR (r:Option Nat):Fence:={fn:=fun _=>True,depth:=none,alive:=false,round:=r}
variable{r:Option Nat}{n:Nat}{P:Program}{f:FuncId}{w:World}{R:Ending->World->Prop}
theorem zav {a:Array Value}:CallsIn (FR r) n P f a w R↔Calls P f a w R:=
 show CallsIn Fence.wide n P f a w R↔_ from callsIn_wide
def X (C:Cx)(Q:Exit->Act->World->Prop)(c:Code)(E:Env)(I:Qu)(loc:Loc):Prop:=
 ∀ a w,UQ C.N C.D E a->St C.g I C.H loc w->c.wpIn (FR C.r) 0 C.P Q a w
def At (C:Cx)(Q:Exit->Act->World->Prop)(e:Exit)(E:Env)(I:Qu)(loc:Loc):Prop:=
 ∀ a w,UQ C.N C.D E a->St C.g I C.H loc w->Q e a w
def XO (C:Cx)(Q:Exit->Act->World->Prop)(ops:Array Oper)(l:List Oper)(S:GS)(E:Env)(I:Qu)(loc:Loc):Prop:=
 ∀ a w,UQ C.N C.D E a->Ud S a->St C.g I C.H loc w->wpListIn (FR C.r) 0 C.P ops Q l a w
def Met (C:Cx)(M:Env->Qu->Loc->Prop):Act->World->Prop:=fun a w=>∃ E I loc,M E I loc/\UQ C.N C.D E a/\St C.g I C.H loc w
section
variable {C:Cx} {Q:Exit->Act->World->Prop} {E F:Env} {I B:Qu} {loc A:Loc} {q:Array Oper} {rest:List Oper} {S:GS}
theorem Qk {x y:Code}(h:X C (Exit.then (y.wpIn (FR C.r) 0 C.P Q) Q) x E I loc):X C Q (.seq x y) E I loc:=fun a w b d=>wpIn_seq (h a w b d)
theorem zIr {x y:Code}(M:Env->Qu->Loc->Prop)(h1:X C (Exit.then (Met C M) Q) x E I loc)(h2:∀ E I loc,M E I loc->X C Q y E I loc):X C Q (.seq x y) E I loc:=fun a w g j=>
 wpIn_seq (AY (h1 a w g j) fun e l o b=>by
  cases e with
  | normal=>obtain ⟨F,B,A,d,h,i⟩:=b;exact h2 _ _ _ d _ _ h i
  | _=>exact b)
theorem Qa {y:Code}(h:X C Q y E I loc):At C (Exit.then (y.wpIn (FR C.r) 0 C.P Q) Q) .normal E I loc:=h
theorem zDX {M:Env->Qu->Loc->Prop}(F:Env)(B:Qu)(A:Loc)(d:M F B A)(a:Sub F E)(b:HLe B I)(h:A=loc):At C (Exit.then (Met C M) Q) .normal E I loc:=
 fun _ _ g i=>⟨F,B,A,d,g.sub a,h ▸ i.mono b⟩
theorem Qm (h:At C Q .normal E I loc):X C Q .skip E I loc:=fun a w b d=>wpIn_skip (h a w b d)
theorem Qy {b:Nat}(h:At C Q (.exit b) E I loc):X C Q (.exit b) E I loc:=fun a w d g=>wpIn_exit (h a w d g)
theorem Qq (h:At C Q .ret E I loc):X C Q .ret E I loc:=fun a w b d=>wpIn_ret (h a w b d)
theorem Ql {b:Nat}{c:Code}(h:X C (Exit.inBlock b Q) c E I loc):X C Q (.block b c) E I loc:=fun a w d g=>wpIn_block (h a w d g)
theorem zDS {c:Operand}{x y:Code}{b:Bool}(h:QB [] E c=some (.bool b))(j:b=true->X C Q x E I loc)(i:b=false->X C Q y E I loc):X C Q (.cond c x y) E I loc:=fun a w d g=>
 wpIn_cond_split (t:=b) (Qp (S:=[]) d trivial rfl h) (fun e=>j e a w d g) (fun e=>i e a w d g)
theorem Zk {c:Code}{b:Nat}{o:Obj}(g:Zb loc b o A)(h:∀ B,HLe I B->B b=some o->X C Q c E B A):X C Q c E I loc:=fun a w d i=>
 let ⟨h1,h2,h3⟩:=i.freeze g;h _ h2 h3 a w d h1
theorem Qg {a:Nat}(h:At C Q .normal E I loc):At C (Exit.inBlock a Q) .normal E I loc:=h
theorem Qn {a:Nat}(h:At C Q .ret E I loc):At C (Exit.inBlock a Q) .ret E I loc:=h
theorem Qj {b:Nat}(h:At C Q .normal E I loc):At C (Exit.inBlock b Q) (.exit b) E I loc:=fun a w d g=>by simp only [Exit.inBlock,OB];exact h a w d g
theorem zdY {d j:Nat}(b:Nat.beq j d=false)(h:At C Q (.exit j) E I loc):At C (Exit.inBlock d Q) (.exit j) E I loc:=fun a w g i=>by
 have:j≠d:=fun e=>by subst e;rw [show Nat.beq j j=true from Nat.beq_refl j] at b;cases b
 simp only [Exit.inBlock,ja this];exact h a w g i
theorem Qb {K:Act->World->Prop}(h:At C Q .ret E I loc):At C (Exit.then K Q) .ret E I loc:=h
theorem Qf {K:Act->World->Prop}{a:Nat}(h:At C Q (.exit a) E I loc):At C (Exit.then K Q) (.exit a) E I loc:=h
theorem zDQ {c:Code}(J:Nat->Env->Qu->Loc->Prop)(m0:Nat)(y:Env)(z:Qu)(j:Loc)(h0:J m0 y z j)(Z:Sub y E)(hI:HLe z I)(hl:j=loc)
  (o:∀ m E I loc,J m E I loc->X C (Exit.then (Met C fun E I loc=>∃ d,d<m/\J d E I loc) Q) c E I loc):X C Q (.loop c) E I loc:=by
 classical
 intro a w ha hw;let R:Nat->Act->World->Prop:=fun m a w=>∃ E I loc,J m E I loc/\UQ C.N C.D E a/\St C.g I C.H loc w
 have b:∀ a w,(∃ m,R m a w)->∃ m,R m a w/\∀ d,R d a w->m<=d:=fun a w ⟨m,h⟩=>by
  induction m using Nat.strongRecOn with
  | _ m ih=>
   by_cases p:∃ d,d<m/\R d a w
   ·obtain ⟨d,i,K⟩:=p;exact ih d i K
   ·exact ⟨m,h,fun d K=>BA fun i=>p ⟨d,i,K⟩⟩
 let x:Act->World->Nat:=fun a w=>if h:∃ m,R m a w then Classical.choose (b a w h) else 0
 have M:∀ a w,(∃ m,R m a w)->R (x a w) a w:=fun a w h=>by simp only [x,dif_pos h];exact (An (b a w h)).1
 have G:∀ m a w,R m a w->x a w<=m:=fun m a w h=>by
  have p:∃ m,R m a w:=⟨m,h⟩;simp only [x,dif_pos p];exact (An (b a w p)).2 m h
 refine wpIn_loop (fun a w=>∃ m,R m a w) x ⟨m0,y,z,j,h0,ha.sub Z,hl ▸ hw.mono hI⟩ fun a w h=>?_;obtain ⟨E1,I1,W,hJ,hf,hs⟩:=M a w h;refine AY (o _ _ _ _ hJ a w hf hs) fun e Y w' V=>?_
 cases e with
 | normal=>
  obtain ⟨O,T,l,⟨d,i,s⟩,t,u⟩:=V;exact ⟨⟨d,O,T,l,s,t,u⟩,Bq (G d Y w' ⟨O,T,l,s,t,u⟩) i⟩
 | _=>exact V

theorem Qh {g:Nat}{l:List Oper}(h:XO C Q l.toArray l [] E I loc):X C Q (.region g l.toArray false) E I loc:=fun a w b d=>wpIn_region_lit (h a w b trivial d)
theorem Qe (h:At C Q .normal E I loc):XO C Q q [] S E I loc:=fun a w b _ d=>wpListIn_nil (h a w b d)
theorem zN {y:Code}(h:X C Q y E I loc):XO C (Exit.then (y.wpIn (FR C.r) 0 C.P Q) Q) q [] S E I loc:=Qe (Qa h)
theorem zR {a:Nat}{l:List Oper}{y:Code}(h:XO C (Exit.then (y.wpIn (FR C.r) 0 C.P Q) Q) l.toArray l [] E I loc):X C Q (.seq (.region a l.toArray false) y) E I loc:=Qk (Qh h)
theorem zoc (b:Bool)(h:XO C Q q rest ((b,[])::S) E I loc):XO C Q q rest S E I loc:=fun a w d hg g=>h a w d ⟨(fun _ _ e=>by cases e),hg⟩ g
def Q2 (C:Cx)(S:GS)(E:Env)(I:Qu)(loc:Loc)(o:Oper)(v:Value):Prop:=
 (∀ c,o.op≠ .defer c)/\∀ a w,UQ C.N C.D E a->Ud S a->ZH S=true->St C.g I C.H loc w->(execOp a.eval o).run C.P w= .ok (.value v) w
theorem zwb {o:Oper}{d:Nat}{v:Value}(p:Q2 C S E I loc o v)(s:Zt q S E o)(l:o.dst=some d)(t:Nat.blt d C.N=true)(u:Yf S E d=true)
  (h:XO C Q q rest (XY S E d v) (zhf S E d v) I loc):XO C Q q (o::rest) S E I loc:=by
 intro a w g hg j;have b:=YI g hg t u v;simp only [wpListIn];rw [s.wanted g hg]
 cases i:ZH S with
 | true=>
  rw [i] at b;simp only [OB,Oper.wpIn];refine ⟨fun _ _=>trivial,?_⟩;rw [Ak _ _ _ p.1,p.2 a w g hg i j,OU,l];exact h _ _ b.1 b.2 j
 | false=>
  rw [i] at b;simp only [jy,Oa];refine ⟨fun _ _=>trivial,?_⟩;rw [l];exact h _ _ b.1 b.2 j
theorem zwu {o l d z:Nat}{i:String}{p:Array Edge}{s:Option (Nat×Bool)}{b t x:Bool}{G:Env}(O:b=t)(T:QB S E (.tmp o)=some (.bool t))(y:J9 G l=some (.bool x))
  (K:Zt q S E ⟨some d,.pick (.tmp o) (.tmp l) (.const (.bool false)),z,i,p,s⟩)(M:Nat.blt d C.N=true)(V:Yf S E d=true)
  (h:XO C Q q rest (XY S E d (.bool (t&&x))) (zhf S E d (.bool (t&&x))) I loc):
  XO C Q q (⟨some d,.pick (.tmp o) (.tmp l) (.const (.bool false)),z,i,p,s⟩::rest) ((b,G)::S) E I loc:=by
 intro a w u hg D;have j:=YI u hg.2 M V (.bool (t&&x));simp only [wpListIn];rw [K.wanted u hg.2]
 cases g:ZH S with
 | true=>
  rw [g] at j;simp only [OB,Oper.wpIn];refine ⟨fun _ _=>trivial,?_⟩;rw [Ak _ _ _ kF];have H:a.eval (.tmp o)= .bool t:=Qp u hg.2 g T
  have J:t=true->a.eval (.tmp l)= .bool x:=fun e=>by
   have:=hg.1 _ _ y;rw [g,O,e] at this;exact this
  have:(execOp a.eval ⟨some d,.pick (.tmp o) (.tmp l) (.const (.bool false)),z,i,p,s⟩).run C.P w= .ok (.value (.bool (t&&x))) w:=by
   simp only [execOp,H,asBool,jg,jp,Result.andThen]
   cases t with
   | true=>simp [J rfl]
   | false=>simp [Act.eval]
  rw [this];exact h _ _ j.1 j.2 D
 | false=>
  rw [g] at j;simp only [jy,Oa];refine ⟨fun _ _=>trivial,?_⟩;exact h _ _ j.1 j.2 D
theorem zC2 {o l d z:Nat}{i:String}{p:Array Edge}{s:Option (Nat×Bool)}{b t x:Bool}{G:Env}(O:b= !t)(T:QB S E (.tmp o)=some (.bool t))(y:J9 G l=some (.bool x))
  (K:Zt q S E ⟨some d,.pick (.tmp o) (.const (.bool true)) (.tmp l),z,i,p,s⟩)(M:Nat.blt d C.N=true)(V:Yf S E d=true)
  (h:XO C Q q rest (XY S E d (.bool (t||x))) (zhf S E d (.bool (t||x))) I loc):
  XO C Q q (⟨some d,.pick (.tmp o) (.const (.bool true)) (.tmp l),z,i,p,s⟩::rest) ((b,G)::S) E I loc:=by
 intro a w u hg D;have j:=YI u hg.2 M V (.bool (t||x));simp only [wpListIn];rw [K.wanted u hg.2]
 cases g:ZH S with
 | true=>
  rw [g] at j;simp only [OB,Oper.wpIn];refine ⟨fun _ _=>trivial,?_⟩;rw [Ak _ _ _ kF];have H:a.eval (.tmp o)= .bool t:=Qp u hg.2 g T
  have J:t=false->a.eval (.tmp l)= .bool x:=fun e=>by
   have:=hg.1 _ _ y;rw [g,O,e] at this;exact this
  have:(execOp a.eval ⟨some d,.pick (.tmp o) (.const (.bool true)) (.tmp l),z,i,p,s⟩).run C.P w= .ok (.value (.bool (t||x))) w:=by
   simp only [execOp,H,asBool,jg,jp,Result.andThen]
   cases t with
   | false=>simp [J rfl]
   | true=>simp [Act.eval]
  rw [this];exact h _ _ j.1 j.2 D
 | false=>
  rw [g] at j;simp only [jy,Oa];refine ⟨fun _ _=>trivial,?_⟩;exact h _ _ j.1 j.2 D

variable {dst:Option Tmp} {ty:TypeId} {pos:String} {af:Array Edge} {gd:Option (Nat×Bool)} {x y z:Operand}
theorem Q2.of {o:Oper}{v:Value}(h1:∀ c,o.op≠ .defer c)(h2:∀ a w,UQ C.N C.D E a->Ud S a->ZH S=true->St C.g I C.H loc w->(execOp a.eval o).run C.P w= .ok (.value v) w):Q2 C S E I loc o v:=⟨h1,h2⟩
theorem Qd {v:Value}(h:QB S E x=some v):Q2 C S E I loc ⟨dst,.move x,ty,pos,af,gd⟩ v:=
 .of kF fun a w b hg d _=>by simp only [execOp,Qp b hg d h];rfl
theorem ZE {v:Value}(h:QB S E x=some v):Q2 C S E I loc ⟨dst,.assign x,ty,pos,af,gd⟩ v:=
 .of kF fun a w b hg d _=>by simp only [execOp,Qp b hg d h];rfl
theorem V6 {t:Bool}{u v:Value}(h:QB S E x=some (.bool t))(h1:QB S E y=some u)(h2:QB S E z=some v):Q2 C S E I loc ⟨dst,.pick x y z,ty,pos,af,gd⟩ (if t then u else v):=
 .of kF fun a w b hg d _=>by
  simp only [execOp,Qp b hg d h,Qp b hg d h1,Qp b hg d h2,asBool,jg,jp,Result.andThen]
theorem Z2 {t u v:Bool}(h:QB S E x=some (.bool t))(h1:QB S E y=some (.bool u))(h2:QB S E z=some (.bool v)):Q2 C S E I loc ⟨dst,.pick x y z,ty,pos,af,gd⟩ (.bool (if t then u else v)):=
 .of kF fun a w b hg d _=>by
  simp only [execOp,Qp b hg d h,Qp b hg d h1,Qp b hg d h2,asBool,jg,jp,Result.andThen];cases t<;>rfl
theorem ZT {t:Bool}(h:QB S E x=some (.bool t)):Q2 C S E I loc ⟨dst,.unOp .not ty x,ty,pos,af,gd⟩ (.bool (!t)):=
 .of kF fun a w b hg d _=>by
  simp only [execOp,Qp b hg d h];rfl
def zGu:BinOp->Int->Int->Option Bool
 | .lss,a,b=>some (decide (a<b))
 | .leq,a,b=>some (decide (a<=b))
 | .gtr,a,b=>some (decide (a>b))
 | .geq,a,b=>some (decide (a>=b))
 | .eql,a,b=>some (a==b)
 | .neq,a,b=>some (a != b)
 | _,_,_=>none
def arR:BinOp->Int->Int->Option Int
 | .add,a,b=>some (a+b)
 | .sub,a,b=>some (a-b)
 | .mul,a,b=>some (a*b)
 | _,_,_=>none
theorem ZQ {P:Program}{w:World}{T:BinOp}{t:TypeId}{x y:Operand}{k d:IntKind}{a b:Int}:(eqGuard T t x y (.int k a) (.int d b)).run P w= .ok () w:=by unfold eqGuard;cases T<;>rfl
theorem zeu {P:Program}{w:World}{T:BinOp}{t:TypeId}{k:IntKind}{a b:Int}{c:Bool}(h:zGu T a b=some c):(binOp T t (.int k a) (.int k b)).run P w= .ok (.bool c) w:=by cases T<;>simp only [zGu] at h<;>first | (cases h;simp only [binOp,Bb,ON,Oa,Op.intCmp];rfl) | cases h
theorem zgY {P:Program}{w:World}{T:BinOp}{t:TypeId}{k:IntKind}{a b c:Int}(h:arR T a b=some c):(binOp T t (.int k a) (.int k b)).run P w= .ok (.int k (k.wrap c)) w:=by cases T<;>simp only [arR] at h<;>first | (cases h;simp only [binOp,Bb,ON,Oa,Op.intArith];rfl) | cases h
theorem Qx {T:BinOp}{t l:TypeId}{k:IntKind}{a b:Int}{c:Bool}(i:QB S E x=some (.int k a))(j:QB S E y=some (.int k b))(h:zGu T a b=some c):Q2 C S E I loc ⟨dst,.binOp T t x y l,ty,pos,af,gd⟩ (.bool c):=
 .of kF fun a w d hg g _=>by
  simp only [execOp,Qp d hg g i,Qp d hg g j,jg,ZQ,Result.andThen,zeu h,jp]
theorem zk4 {T:BinOp}{t t':TypeId}{k:IntKind}{a b c:Int}(i:QB S E x=some (.int k a))(j:QB S E y=some (.int k b))(h:arR T a b=some c):Q2 C S E I loc ⟨dst,.binOp T t x y t',ty,pos,af,gd⟩ (.int k (k.wrap c)):=
 .of kF fun a w d hg g _=>by
  simp only [execOp,Qp d hg g i,Qp d hg g j,jg,ZQ,Result.andThen,zgY h,jp]
theorem zct {c:Int}(h: -9223372036854775808<=c/\c<=9223372036854775807):IntKind.i64.wrap c=c:=Go.IntWalk.i64_in c h
theorem Zf {T:BinOp}{t d:TypeId}{a b c:Int}(o:QB S E x=some (.int .i64 a))(p:QB S E y=some (.int .i64 b))(h:arR T a b=some c)(i:ZH S=true-> -9223372036854775808<=c/\c<=9223372036854775807):
  Q2 C S E I loc ⟨dst,.binOp T t x y d,ty,pos,af,gd⟩ (.int .i64 c):=
 .of kF fun a w j hg g l=>by
  have:=(zk4 (C:=C) (I:=I) (loc:=loc) (dst:=dst) (ty:=ty) (pos:=pos) (af:=af) (gd:=gd) (t:=t) (t':=d) o p h).2 a w j hg g l;rw [zct (i g)] at this;exact this
def zDE (a b:ByteArray):Bool:=a.toList==b.toList
theorem zaw {i:Nat}{b:Array Value}{v:Value}(j:QB S E x=some (.tuple b))(h:b[i]? =some v):Q2 C S E I loc ⟨dst,.extract x i,ty,pos,af,gd⟩ v:=
 .of kF fun a w d hg g _=>by
  simp only [execOp,Qp d hg g j,Instr.extract,h,jg,jp,Result.andThen]
theorem Zn {d:Fn}{first b:Array Operand}{vs us:List Value}(h1:first.toList.map (QB S E)=us.map some)(h2:b.toList.map (QB S E)=vs.map some):
  Q2 C S E I loc ⟨dst,.makeFunc d first b,ty,pos,af,gd⟩ (.func d us.toArray vs.toArray):=
 .of kF fun a w j hg p _=>by
  have key:∀ (l:List Operand) (vs:List Value),l.map (QB S E)=vs.map some->l.map a.eval=vs:=by
   intro l
   induction l with
   | nil=>intro vs h;cases vs<;>simp_all
   | cons o l ih=>
    intro vs h
    cases vs with
    | nil=>simp at h
    | cons v vs=>
     simp only [jF,AV] at h ⊢;exact ⟨Qp j hg p h.1,ih _ h.2⟩
  have g:first.map a.eval=us.toArray:=by rw [<-key _ _ h1];cases first;simp
  have i:b.map a.eval=vs.toArray:=(by rw [<-key _ _ h2];cases b;simp);simp only [execOp,g,i,Instr.makeFunc,jg,jp,Result.andThen]

def Q0 (P:Program)(s f fo:Nat):Prop:=∃ fs x i,P.underlying s=some (.struct fs)/\fs[f]? =some x/\P.info? x.type=some i/\i.size≠0/\x.offset=fo
def zkE (P:Program)(s f fo:Nat):Bool:=match P.underlying s with
 | some (.struct fs)=>match fs[f]? with
  | some x=>match P.info? x.type with
   | some i=>i.size != 0&&x.offset==fo
   | none=>false
  | none=>false
 | _=>false
theorem Q0.of {P:Program}{s f a:Nat}(h:zkE P s f a=true):Q0 P s f a:=by
 unfold zkE at h;split at h
 ·rename_i b g;split at h
  ·rename_i x j;split at h
   ·rename_i i d;simp only [ji,Ba,jW] at h;exact ⟨b,x,i,g,j,d,h.1,h.2⟩
   ·cases h
  ·cases h
 ·cases h
theorem zaX {P:Program}{w:World}{t:TypeId}{i:TypeInfo}(h:P.info? t=some i):(typeInfo t).run P w= .ok i w:=by simp only [typeInfo,jg,run_program,Result.andThen];rw [show P.toTables.info? t=some i from h];rfl
theorem run_sizeOf {P:Program}{w:World}{t:TypeId}{i:TypeInfo}(h:P.info? t=some i):(sizeOf t).run P w= .ok i.size w:=by simp only [sizeOf,jg,zaX h,Result.andThen,jp]
theorem Y8 (b a n:Nat):(⟨b,a,none⟩:Addr).add n=⟨b,a+n,none⟩:=by unfold Addr.add;split<;>simp_all
theorem Qi {s f g b d:Nat}(l:QB S E x=some (.pointer (some ⟨b,d,none⟩)))(hF:Q0 C.P s f g):Q2 C S E I loc ⟨dst,.fieldAddr s x f,ty,pos,af,gd⟩ (.pointer (some ⟨b,d+g,none⟩)):=
 .of kF fun a w h hg j _=>by
  obtain ⟨o,p,i,h1,h2,h3,h4,h5⟩:=hF;simp only [execOp,Qp h hg j l,Instr.fieldAt,jg,jQ h1,Result.andThen,h2,Instr.sureAddr,jp,fieldPlace,run_sizeOf h3,ja h4,Y8,h5]
def SlT (P:Program)(t e size:Nat):Prop:=P.underlying t=some (.slice e)/\∃ i,P.info? e=some i/\i.size=size
def zI4 (P:Program)(t e size:Nat):Bool:=(match P.underlying t with | some (.slice e')=>e'==e | _=>false)&&(match P.info? e with | some i=>i.size==size | none=>false)
theorem SlT.of {P:Program}{t e a:Nat}(h:zI4 P t e a=true):SlT P t e a:=by
 simp only [zI4,ji] at h;obtain ⟨h1,h2⟩:=h;refine ⟨?_,?_⟩
 ·split at h1
  ·rename_i g b;rw [jW] at h1;rw [b,h1]
  ·cases h1
 ·split at h2
  ·rename_i i d;rw [jW] at h2;exact ⟨i,d,h2⟩
  ·cases h2
theorem zaZ {t e d b off n c:Nat}{k:IntKind}{i:Int}(p:QB S E x=some (.slice (some ⟨b,off,none⟩) n c))(s:QB S E y=some (.int k i))(l:SlT C.P t e d)(o:ZH S=true->0<=i/\i<(n:Int)):
  Q2 C S E I loc ⟨dst,.indexAddr t x y,ty,pos,af,gd⟩ (.pointer (some ⟨b,off+i.toNat*d,none⟩)):=
 .of kF fun a w h hg g _=>by
  obtain ⟨h1,j,h2,h3⟩:=l;simp only [execOp,Qp h hg g p,Qp h hg g s,Instr.indexAt,asIntOf,jg,jp,jQ h1,Result.andThen,jb (o g),run_sizeOf h2,Y8,h3]

def Mem (I:Qu)(loc:Loc)(b:Nat)(o:Obj):Prop:=I b=some o\/(b,o)∈loc
def QO (I:Qu)(loc:Loc)(b off:Nat)(v:Value):Prop:=∃ cs t fz,Mem I loc b (.cells cs t fz)/\cs[off]? =some v
theorem Mem.heap {b:Nat}{o:Obj}{g:World}{H:Qu}{w:World}(h:Mem I loc b o)(a:St g I H loc w):w.heap[b]? =some o:=h.elim (a.imm b o) (a.own b o)
theorem QO.get {b a:Nat}{v:Value}{g:World}{H:Qu}{w:World}(h:QO I loc b a v)(j:St g I H loc w):w.cell? ⟨b,a,none⟩=some v:=by obtain ⟨l,t,o,d,i⟩:=h;simp [World.cell?,d.heap j,i]
def zfj:List Value->Nat->Option Value
 | [],_=>none
 | v::_,0=>some v
 | _::l,n+1=>zfj l n
theorem Ve:∀ (l:List Value) (i:Nat),zfj l i=l[i]?
 | [],i=>by simp [zfj]
 | p::l,0=>rfl
 | p::l,n+1=>by simp [zfj,Ve l n]
theorem QO.here {b a:Nat}{v:Value}{d:Array Value}{t:TypeId}{g:Nat×Nat}{l:Loc}(h:zfj d.toList a=some v):QO I ((b,.cells d t g)::l) b a v:=⟨d,t,g,.inr (jl ..),by rw [Ve] at h;simpa using h⟩
abbrev zJC:=@QO.here
theorem QO.there {b a:Nat}{v:Value}{p:Nat×Obj}{l:Loc}(h:QO I l b a v):QO I (p::l) b a v:=by obtain ⟨d,t,g,i,j⟩:=h;exact ⟨d,t,g,i.imp id (jm _),j⟩
abbrev zJB:=@QO.there
theorem QO.imm {b a:Nat}{v:Value}{d:Array Value}{t:TypeId}{g:Nat×Nat}{l:Loc}(h:I b=some (.cells d t g))(i:zfj d.toList a=some v):QO I l b a v:=⟨d,t,g,.inl h,by rw [Ve] at i;simpa using i⟩
theorem QO.mono {b a:Nat}{v:Value}(h:QO I loc b a v)(i:HLe I B):QO B loc b a v:=by obtain ⟨d,t,g,j,l⟩:=h;exact ⟨d,t,g,j.imp (i _ _) id,l⟩
theorem QO.any {b a:Nat}{v:Value}(h:QO I [] b a v):QO I loc b a v:=by obtain ⟨d,t,g,i,j⟩:=h;exact ⟨d,t,g,i.elim .inl (fun h=>by cases h),j⟩
def ScT (P:Program)(t:Nat):Prop:=∃ d,P.underlying t=some d/\(match d with | .struct _ | .array _ _=>False | _=>True)
def zGB (P:Program)(t:Nat):Bool:=match P.underlying t with
 | some (.struct _) | some (.array _ _) | none=>false
 | _=>true
theorem ScT.of {P:Program}{t:Nat}(h:zGB P t=true):ScT P t:=by
 unfold zGB at h;split at h
 ·cases h
 ·cases h
 ·cases h
 ·rename_i d _ _ _
  cases e:P.underlying t with
  | none=>simp_all
  | some d=>exact ⟨d,e,by cases d<;>simp_all⟩
def AgT (P:Program)(t n:Nat):Prop:=(∃ d,P.underlying t=some d/\(match d with | .struct _ | .array _ _=>True | _=>False))/\∃ i,P.info? t=some i/\i.size=n
def zH5 (P:Program)(t n:Nat):Bool:=(match P.underlying t with | some (.struct _) | some (.array _ _)=>true | _=>false)&&(match P.info? t with | some i=>i.size==n | none=>false)
theorem AgT.of {P:Program}{t n:Nat}(h:zH5 P t n=true):AgT P t n:=by
 simp only [zH5,ji] at h;obtain ⟨h1,h2⟩:=h;refine ⟨?_,?_⟩
 ·split at h1<;>first | (rename_i h;exact ⟨_,h,trivial⟩) | cases h1
 ·split at h2
  ·rename_i i a;rw [jW] at h2;exact ⟨i,a,h2⟩
  ·cases h2
theorem Y2 {P:Program}{w:World}{t:TypeId}(h:ScT P t):(isAgg t).run P w= .ok false w:=by obtain ⟨d,h1,h2⟩:=h;simp only [isAgg,jg,jQ h1,Result.andThen];cases d<;>first | rfl | exact h2.elim
theorem Jg {P:Program}{w:World}{t n:Nat}(h:AgT P t n):(isAgg t).run P w= .ok true w:=by obtain ⟨⟨d,h1,h2⟩,_⟩:=h;simp only [isAgg,jg,jQ h1,Result.andThen];cases d<;>first | rfl | exact h2.elim
theorem Qc {t b d:Nat}{v:Value}(o:QB S E x=some (.pointer (some ⟨b,d,none⟩)))(h:ScT C.P t)(j:ZH S=true->QO I loc b d v):Q2 C S E I loc ⟨dst,.load t x,ty,pos,af,gd⟩ v:=
 .of kF fun a w i hg g l=>by
  simp only [execOp,Qp i hg g o,Instr.loadAt,Instr.sureAddr,jg,jp,Result.andThen,loadVar,Y2 h,jy,Oa,run_load,(j g).get l]
def Cells (I:Qu)(loc:Loc)(b off:Nat)(vs:List Value):Prop:=∀ j v,vs[j]? =some v->QO I loc b (off+j) v
theorem Qo {t n b d:Nat}{g:List Value}(H:QB S E x=some (.pointer (some ⟨b,d,none⟩)))(l:AgT C.P t n)(D:ZH S=true->Cells I loc b d g)(u:g.length=n):Q2 C S E I loc ⟨dst,.load t x,ty,pos,af,gd⟩ (.agg g.toArray):=
 .of kF fun a w p hg o G=>by
  have h1:(loadCells ⟨b,d,none⟩ n).run C.P w= .ok g.toArray w:=by
   rw [<-u];exact BU w _ _ fun j v s=>by rw [Y8];exact (D o j v s).get G
  have h:=l;obtain ⟨_,i,h2,h3⟩:=h;simp only [execOp,Qp p hg o H,Instr.loadAt,Instr.sureAddr,jg,jp,Result.andThen,loadVar,Jg l,OB,run_sizeOf h2,h3,h1]
theorem Zs {t n c e b:Nat}{d:Option Addr}(j:QB S E x=some (.slice d n c))(g:SlT C.P t e b):Q2 C S E I loc ⟨dst,.call ⟨.builtin .len, #[x], #[t]⟩,ty,pos,af,gd⟩ (.int .i64 n):=
 .of kF fun a w h hg i _=>by
  simp only [execOp,resolve,OF,jF,Ah,Qp h hg i j,jg,jp,Result.andThen,invoke,builtin,Builtin.len_,AK,Bv,jQ g.1,goInt]
end

variable{fn:Func}{c:Code}{args:List Value}{g:World}{H:Qu}{loc:Loc}{N:Nat}
theorem enter (i:P.funcs[f]? =some fn)(d:fn.body=some c)(b:fn.ntmps=N)
  (a:Nat.ble args.length N=true)(j:St g I H loc w)(h:X ⟨P,none,N,[],g,H⟩ (bodyPost P fn R) c (zvP 0 args) I loc):Calls P f args.toArray w R:=by
 refine calls_of_wp i d ?_;rw [b];exact wpIn_wide.1 (h _ w (zgl args N (AM a)) j)
theorem qe (i:P.funcs[f]? =some fn)(b:fn.ntmps=N)(j:St g I H loc w)(h:X ⟨P,none,N,[],g,H⟩ (bodyPost P fn R) c (zvP 0 args) I loc)(d:fn.body=some c:=by exact U)(a:Nat.ble args.length N=true:=by exact U):Calls P f args.toArray w R:=enter i d b a j h
section
variable {P:Program} {d:Func} {R:Ending->World->Prop} {N:Nat} {g:World} {I H:Qu} {b:Loc} {E:Env} {r:Option Nat}
theorem VQ (j:d.results= #[])(h:∀ w,St g I H b w->R (.returned (.tuple #[])) w):At ⟨P,r,N,[],g,H⟩ (bodyPost P d R) .ret E I b:=fun a w i l=>
 ⟨i.defers,_,by simp [results,j],h w l⟩
theorem Zc {t:Nat}{v:Value}(l:d.results= #[.tmp t])(o:J9 E t=some v)(h:∀ w,St g I H b w->R (.returned v) w):At ⟨P,r,N,[],g,H⟩ (bodyPost P d R) .ret E I b:=fun a w j p=>
 ⟨j.defers,v,by have i:=j.env _ _ o;rw [OM] at i;simp only [results,l];simp [i],h w p⟩
theorem QY {t u:Nat}{v p:Value}(q:d.results= #[.tmp t,.tmp u])(s:J9 E t=some v)(j:J9 E u=some p)(h:∀ w,St g I H b w->R (.returned (.tuple #[v,p])) w):At ⟨P,r,N,[],g,H⟩ (bodyPost P d R) .ret E I b:=fun a w i x=>
 ⟨i.defers,_,by have l:=i.env _ _ s;have o:=i.env _ _ j;rw [OM] at l o;simp only [results,q];simp [l,o],h w x⟩
theorem Jo {t u s:Nat}{v y j:Value}(z:d.results= #[.tmp t,.tmp u,.tmp s])(A:J9 E t=some v)(o:J9 E u=some y)(i:J9 E s=some j)(h:∀ w,St g I H b w->R (.returned (.tuple #[v,y,j])) w):At ⟨P,r,N,[],g,H⟩ (bodyPost P d R) .ret E I b:=fun a w l B=>
 ⟨l.defers,_,by have p:=l.env _ _ A;have q:=l.env _ _ o;have x:=l.env _ _ i;rw [OM] at p q x;simp only [results,z];simp [p,q,x],h w B⟩
end
def Zj (P:Program)(f:FuncId)(args:List Value)(I:Qu)(v:Value):Prop:=
 ∀ g H w,St g I H [] w->Calls P f args.toArray w fun e w'=>e= .returned v/\St g I H [] w'
def ZP (P:Program)(f:FuncId)(args:List Value)(I:Qu)(L:Loc)(Post:Value->Qu->Loc->Prop):Prop:=
 ∀ g H w,St g I H L w->Calls P f args.toArray w fun e w'=>∃ v I' L',e= .returned v/\HLe I I'/\St g I' H L' w'/\Post v I' L'
theorem Zj.m {v:Value}(h:Zj P f args I v):ZP P f args I [] (fun u a L=>u=v/\a=I/\L=[]):=
 fun g H w i=>(h g H w i).mono fun _ _ ⟨b,d⟩=>⟨v,I,[],b,zJH I,d,U,U,U⟩
theorem ZP.mono {L:Loc}{b a:Value->Qu->Loc->Prop}(h:ZP P f args I L b)(o:∀ v d i,HLe I d->b v d i->a v d i):ZP P f args I L a:=
 fun g H w s=>(h g H w s).mono fun _ _ ⟨v,d,i,l,j,q,p⟩=>⟨v,d,i,l,j,q,o _ _ _ j p⟩
inductive YS:Loc->Loc->Loc->Prop
 | nil {l:Loc}:YS l [] l
 | cons {l l1 l2 L:Loc} {b:Nat} {o:Obj} (h:Zb l b o l1) (hs:YS l1 L l2):YS l ((b,o)::L) l2
section
variable {g:World} {I d H:Qu} {a i L R:Loc} {w j:World}
theorem St.take (h:St g I H a w){b:Nat}{o:Obj}(q:Zb a b o i):St g I H i w:=
 ⟨h.os,h.tape,h.out,h.size,h.imm,h.frm,fun c p l=>h.own c p (q.sub c p l),h.sepIH,fun c p l=>h.sepIL c p (q.sub c p l),(q.nodup h.nodup).1⟩
theorem YS.parts (z:YS a L R):(a.map (·.1)).Nodup->(∀ b o,(b,o)∈L->(b,o)∈a)/\(∀ b o,(b,o)∈R->(b,o)∈a)/\(∀ b o p,(b,o)∈L->(b,p)∉R)/\(L.map (·.1)).Nodup/\(R.map (·.1)).Nodup:=by
 induction z with
 | nil=>exact fun u=>⟨(fun _ _ h=>by cases h),fun _ _ h=>h,(fun _ _ _ h=>by cases h),by simp,u⟩
 | @cons l l1 l2 L b o ht z ih=>
  intro u;obtain ⟨F,A⟩:=ht.nodup u;obtain ⟨x,y,B,C,D⟩:=ih F;refine ⟨fun c p t=>?_,fun c p t=>ht.sub _ _ (y c p t),fun c p q t=>?_,?_,D⟩
  ·rcases jo.1 t with e | s
   ·cases e;exact ht.mem
   ·exact ht.sub _ _ (x c p s)
  ·rcases jo.1 t with e | s
   ·cases e;exact fun E=>A q (y _ _ E)
   ·exact B c p q s
  ·simp only [jF,O5];refine ⟨fun t=>?_,C⟩;obtain ⟨⟨c,p⟩,s,e⟩:=jt.1 t;simp only at e;subst e;exact A p (x _ _ s)
theorem St.split (h:St g I H a w)(z:YS a L R):St g I (JH H R) L w:=by
 obtain ⟨q,t,u,x,A⟩:=z.parts h.nodup;refine ⟨h.os,h.tape,h.out,h.size,h.imm,?_,fun b o l=>h.own b o (q b o l),?_,fun b o l=>⟨(h.sepIL b o (q b o l)).1,?_⟩,x⟩
 ·intro b o e;rcases WA e with l | e
  ·exact h.own b o (t b o l)
  ·exact h.frm b o e
 ·intro b
  cases e:JH H R b with
  | none=>exact .inr U
  | some o=>
   rcases WA e with l | e
   ·exact .inl (h.sepIL b o (t b o l)).1
   ·rcases h.sepIH b with s | s
    ·exact .inl s
    ·rw [s] at e;cases e
 ·rw [zbl (fun p y=>u b o p l y)];exact (h.sepIL b o (q b o l)).2
theorem St.rest (h:St g I H a w)(s:YS a L R):St g I H R w:=by obtain ⟨t,p,u,x,q⟩:=s.parts h.nodup;exact ⟨h.os,h.tape,h.out,h.size,h.imm,h.frm,fun b o l=>h.own b o (p b o l),h.sepIH,fun b o l=>h.sepIL b o (p b o l),q⟩
theorem St.join (h:St g I H a w)(o:YS a L R){b:Loc}(l:St g d (JH H R) b j):St g d H (b++R) j:=(h.rest o).unhide l
theorem ZP.frame {P:Program}{f:FuncId}{args:List Value}{b:Value->Qu->Loc->Prop}(t:ZP P f args I L b)(l:YS a L R)(o:St g I H a w):
  Calls P f args.toArray w fun e j=>∃ v d h,e= .returned v/\HLe I d/\St g d H (h++R) j/\b v d h:=
 (t g (JH H R) w (o.split l)).mono fun _ _ ⟨v,d,h,u,s,q,p⟩=>⟨v,d,h,u,s,o.join l q,p⟩
end
def Fun (P:Program)(f:FuncId):Prop:=∃ fn,P.funcs[f]? =some fn/\(fn.name== "runtime.NumGoroutine")=false/\fn.body.isNone=false
theorem Fun.of (h:P.funcs[f]? =some fn)(h1:(fn.name== "runtime.NumGoroutine")=false)(h2:fn.body.isNone=false):Fun P f:=⟨fn,h,h1,h2⟩
theorem Ka (h:Fun P f)(args:Array Value)(w:World):(callFunc f args).run P w= .ok (.enter f args) w:=by obtain ⟨fn,h1,h2,h3⟩:=h;simp only [callFunc,jg,run_program,Result.andThen,h1,h2,h3,jy,Oa,jp]
section
variable {C:Cx} {Q:Exit->Act->World->Prop} {E M:Env} {I A:Qu} {j p L R:Loc} {q:Array Oper} {rest:List Oper} {S:GS}
variable {J:Option Tmp} {d:Nat} {F:TypeId} {s:String} {G:Array Edge} {B:Option (Nat×Bool)} {x y z:Operand}
theorem JK {N:Nat}{D:List Deferred}{a:Act}(i:UQ N D E a)(hg:Ud S a)(t:ZH S=true):∀ {l:List Operand} {b:List Value},l.map (QB S E)=b.map some->l.map a.eval=b
 | [],[],_=>rfl
 | [],_::_,h=>by simp at h
 | o::l,[],h=>by simp at h
 | o::l,v::b,h=>by
  simp only [jF,AV] at h ⊢;exact ⟨Qp i hg t h.1,JK i hg t h.2⟩
theorem zex {P:Program}{a:Act}{w:World}{f:FuncId}{h:List Value}{l:List Operand}{o:List Value}{i:Array TypeId}{b:Operand}
  (t:a.eval b= .func (.func f) #[] h.toArray)(u:l.map a.eval=o)(hF:Fun P f):
  (execOp a.eval ⟨J,.call ⟨.value b,l.toArray,i⟩,F,s,G,B⟩).run P w= .ok (.enter f (o++h).toArray) w:=by
 simp only [execOp,resolve,t,OF,u,Deferred.ofValue,jg,jp,Result.andThen,invoke,Ka hF];simp
theorem zd2 {f:FuncId}{u:List Value}{l:List Operand}{vs:List Value}{O:Array TypeId}{i:Operand}{K:Value->Qu->Loc->Prop}
  (he:QB S E i=some (.func (.func f) #[] u.toArray))(hl:l.map (QB S E)=vs.map some)(hF:Fun C.P f)(hG:Zt q S E ⟨J,.call ⟨.value i,l.toArray,O⟩,F,s,G,B⟩)
  (hd:J=some d)(Z:Nat.blt d C.N=true)(hf:Yf S E d=true)(t:YS j L R)(hc:ZH S=true->ZP C.P f (vs++u) I L K)(W:ZH S=false->∃ v,K v I L)
  (h:∀ v A T,HLe I A->K v A T->XO C Q q rest (XY S E d v) (zhf S E d v) A (T++R)):
  XO C Q q (⟨J,.call ⟨.value i,l.toArray,O⟩,F,s,G,B⟩::rest) S E I j:=by
 intro a w D hg Y;simp only [wpListIn];rw [hG.wanted D hg]
 cases b:ZH S with
 | true=>
  simp only [OB,Oper.wpIn];refine ⟨fun _ _=>trivial,?_⟩;rw [Ak _ _ _ kF,zex (Qp D hg b he) (JK D hg b hl) hF,B1];refine ⟨by simp [FR],zav.2 (((hc b).frame t Y).mono ?_)⟩;rintro e w' ⟨v,A,T,rfl,hI,hs,V⟩;have o:=YI D hg Z hf v;rw [b] at o;rw [hd];exact h v A T hI V _ _ o.1 o.2 hs
 | false=>
  simp only [jy,Oa];refine ⟨fun _ _=>trivial,?_⟩;obtain ⟨v,V⟩:=W b;have o:=YI D hg Z hf v;rw [b] at o;rw [hd];exact h v I L (zJH I) V _ _ o.1 o.2 ((Y.rest t).unhide (Y.split t))
theorem zkz {f:FuncId}{b:List Value}{l:List Operand}{o:List Value}{i:Array TypeId}{a:Operand}{v:Value}
  (T:QB S E a=some (.func (.func f) #[] b.toArray))(W:l.map (QB S E)=o.map some)(hF:Fun C.P f)(O:ZH S=true->Zj C.P f (o++b) I v)
  (t:Zt q S E ⟨some d,.call ⟨.value a,l.toArray,i⟩,F,s,G,B⟩)(D:Nat.blt d C.N=true)(V:Yf S E d=true)
  (h:XO C Q q rest (XY S E d v) (zhf S E d v) I j):
  XO C Q q (⟨some d,.call ⟨.value a,l.toArray,i⟩,F,s,G,B⟩::rest) S E I j:=
 zd2 (K:=fun u A L=>u=v/\A=I/\L=[]) T W hF t U D V .nil (fun e=>(O e).m) (fun _=>⟨v,U,U,U⟩) (by rintro _ _ _ _ ⟨rfl,rfl,rfl⟩;exact h)
theorem Yi {f:FuncId}{cap:List Value}{l:List Operand}{vs:List Value}{i:Array TypeId}{a:Operand}{K:Value->Qu->Loc->Prop}
  (O:QB [] E a=some (.func (.func f) #[] cap.toArray))(T:l.map (QB [] E)=vs.map some)(hF:Fun C.P f)(b:YS j L R)(D:ZP C.P f (vs++cap) I L K)
  (t:B=none)(u:Nat.blt d C.N=true)(h:∀ v A o,HLe I A->K v A o->XO C Q q rest [] ((d,v)::E) A (o++R)):
  XO C Q q (⟨some d,.call ⟨.value a,l.toArray,i⟩,F,s,G,B⟩::rest) [] E I j:=
 zd2 O T hF (.none t) U u U b (fun _=>D) (fun e=>by cases e) h

theorem zpc {f:FuncId}{l:List Operand}(t:List Value){i:Array TypeId}{a:Operand}{K:Value->Qu->Loc->Prop}(T:l.map (QB [] E)=t.map some)(hF:Fun C.P f)(b:YS j L R)(D:ZP C.P f (t++[]) I L K)(h:∀ v A o,HLe I A->K v A o->XO C Q q rest [] ((d,v)::E) A (o++R))
  (O:QB [] E a=some (.func (.func f) #[] [].toArray):=by exact U)(u:Nat.blt d C.N=true:=by exact U):XO C Q q (⟨some d,.call ⟨.value a,l.toArray,i⟩,F,s,G,none⟩::rest) [] E I j:=Yi (cap:=[]) O T hF b D U u h
theorem YR {o:Oper}(i:o.guard=none)(b:∀ c,o.op≠ .defer c)
  (h:∀ a w,UQ C.N C.D E a->St C.g I C.H j w->o.uponIn (FR C.r) 0 C.P a (wpListIn (FR C.r) 0 C.P q Q rest) Q ((execOp a.eval o).run C.P w)):XO C Q q (o::rest) [] E I j:=by
 intro a w l hg t;simp only [wpListIn,Region.wanted,i,OB,Oper.wpIn];exact ⟨fun _ _=>trivial,by rw [Ak _ _ _ b];exact h a w l t⟩
def YX (P:Program)(t:Nat)(z:Value):Prop:=∃ i,P.info? t=some i/\i.zero=some z
theorem YX.of {P:Program}{t:Nat}{z:Value}(h:(P.info? t).bind (·.zero)=some z):YX P t z:=by
 cases e:P.info? t with
 | none=>rw [e] at h;cases h
 | some i=>rw [e] at h;exact ⟨i,e,h⟩
theorem Yq {P:Program}{w:World}{t:TypeId}{z:Value}(h:YX P t z):(zeroValue t).run P w= .ok z w:=by obtain ⟨i,h1,h2⟩:=h;simp only [zeroValue,jg,zaX h1,Result.andThen,h2,jp]
theorem Qv {t:Nat}{i:Value}(K:YX C.P t i)(l:B=none)(o:Nat.blt d C.N=true)(h:∀ b,XO C Q q rest [] ((d,.pointer (some ⟨b,0,none⟩))::E) I ((b,.cells i.cells t (0,0))::j)):
  XO C Q q (⟨some d,.alloc t,F,s,G,B⟩::rest) [] E I j:=
 YR l kF fun a w u D=>by
  simp only [execOp,Instr.alloc,jg,Yq K,Result.andThen,newVar,newRow,BB,jp,OU];exact h _ _ _ (u.put o _) trivial (D.alloc _)
theorem QU {t:Nat}{v:Value}(D:QB [] E x=some v)(l:B=none)(o:Nat.blt d C.N=true)(h:∀ b,XO C Q q rest [] ((d,.pointer (some ⟨b,0,none⟩))::E) I ((b,.cells v.cells t (0,0))::j)):
  XO C Q q (⟨some d,.box t x,F,s,G,B⟩::rest) [] E I j:=
 YR l kF fun a w i u=>by
  simp only [execOp,Qp (S:=[]) i trivial rfl D,Instr.box,jg,Result.andThen,newVar,newRow,BB,jp,OU];exact h _ _ _ (i.put o _) trivial (u.alloc _)
def SzT (P:Program)(t n:Nat):Prop:=∃ i,P.info? t=some i/\i.size=n
def zI1 (P:Program)(t n:Nat):Bool:=match P.info? t with | some i=>i.size==n | none=>false
theorem SzT.of {P:Program}{t n:Nat}(h:zI1 P t n=true):SzT P t n:=by
 unfold zI1 at h;split at h
 ·rename_i i a;rw [jW] at h;exact ⟨i,a,h⟩
 ·cases h
theorem W7 {I H:Qu}{j:Loc}{g w:World}(h:St g I H j w){b off:Nat}{c:Array Value}{t:TypeId}(a:(b,Obj.cells c t (0,0))∈j):w.frozen? ⟨b,off,none⟩=false:=by simp [World.frozen?,h.own _ _ a]
theorem Zx {t Z b l:Nat}{v:Value}{c:Array Value}(hx:QB [] E x=some (.pointer (some ⟨b,l,none⟩)))(hy:QB [] E y=some v)(hT:SzT C.P t 1)(h1:v.oneCell'=true)(hG:B=none)
  (W:Upd j b (.cells c Z (0,0)) (.cells (c.setIfInBounds l v) Z (0,0)) p)(V:Nat.blt l c.size=true)(h:XO C Q q rest [] E I p):
  XO C Q q (⟨none,.store t x y,F,s,G,B⟩::rest) [] E I j:=
 YR hG kF fun a w D Y=>by
  have O:v.cells= #[v]:=by cases v<;>first | rfl | (simp [Value.oneCell'] at h1)
  obtain ⟨i,hi,hs⟩:=hT
  have K:∃ u,w.cell? ⟨b,l,none⟩=some u:=by
   have:=Y.own _ _ W.mem;have o:l<c.size:=Eq.mp AW V;exact ⟨c[l],by simp [World.cell?,this,o]⟩
  obtain ⟨u,K⟩:=K;have T:=W7 (off:=l) Y W.mem;simp only [execOp,Qp (S:=[]) D trivial rfl hx,Qp (S:=[]) D trivial rfl hy,Instr.storeAt,Instr.sureAddr,jg,jp,Result.andThen,storeVar,run_sizeOf hi,hs,O,OH,jx,Ag,Oj,Bb,ON,Oa,storeCells,Y8,Nat.add_zero,run_store _ _ _ _ _ h1,K,T,jy,AS];exact h _ _ D trivial (Y.setCell W)
theorem zS {t l b a:Nat}{v:Value}{c:Array Value}(o:SzT C.P t 1)(h:XO C Q q rest [] E I p)(D:QB [] E x=some (.pointer (some ⟨b,a,none⟩)):=by exact U)(K:QB [] E y=some v:=by exact U)(h1:v.oneCell'=true:=by exact U)
  (u:Upd j b (.cells c l (0,0)) (.cells (c.setIfInBounds a v) l (0,0)) p:=by repeat (first | exact Upd.here | apply Upd.there | apply QN))(i:Nat.blt a c.size=true:=by exact U):XO C Q q (⟨none,.store t x y,F,s,G,none⟩::rest) [] E I j:=Zx D K o h1 U u i h
theorem Upd.middle {b:Nat}{o i:Obj}(m:Obj)(l:Upd j b o i p):∃ h,Upd j b o m h/\Upd h b m i p:=by
 induction l with
 | here=>exact ⟨_,.here,.here⟩
 | there _ ih=>obtain ⟨h,a,b⟩:=ih;exact ⟨_,.there a,.there b⟩
theorem KO {P:Program}{g:World}{I H:Qu}:∀ (l:List Value) (a:List Value) (w:World) (j p:Loc) (b:Nat) (t:TypeId) (h:List Value),h.length=l.length->(∀ v∈l,v.oneCell'=true)->St g I H j w->
  Upd j b (.cells (a++h).toArray t (0,0)) (.cells (a++l).toArray t (0,0)) p->∃ o,(storeCells ⟨b,0,none⟩ l a.length).run P w= .ok () o/\St g I H p o
 | [],a,w,j,p,b,t,h,hl,_,hw,hu=>by
  have:h=[]:=Oo.1 hl;subst this;refine ⟨w,U,?_⟩;have D:=hw.own _ _ hu.mem;exact hw.turn hu U U U U D (fun _ _=>U)
 | v::l,a,w,j,p,b,t,h,hl,h1,hw,hu=>by
  cases h with
  | nil=>simp at hl
  | cons u h=>
   have D:=hw.own _ _ hu.mem;have V:w.cell? ⟨b,a.length,none⟩=some u:=(by simp [World.cell?,D]);have K:=W7 (off:=a.length) hw hu.mem;obtain ⟨Z,u1,u2⟩:=hu.middle (.cells ((a++[v])++h).toArray t (0,0));have i:((a++u::h).toArray.setIfInBounds a.length v)=((a++[v])++h).toArray:=(by simp);rw [<-i] at u1;have O:=hw.setCell u1;rw [i] at u1;obtain ⟨o,T,W⟩:=KO (P:=P) l (a++[v]) _ Z p b t h (by simpa using hl) (fun x Y=>h1 x (jm _ Y)) O (by simpa using u2);refine ⟨o,?_,W⟩;rw [jj,jv] at T;simp only [storeCells,jg,Y8,Oj,run_store _ _ _ _ _ (h1 v (jl ..)),V,K,jy,Oa,Result.andThen,T]
def YY:List Value->Bool
 | []=>true
 | v::l=>v.oneCell'&&YY l
theorem Kx:∀ {l:List Value},YY l=true->∀ v∈l,v.oneCell'=true
 | [],_,v,a=>by cases a
 | u::l,h,v,a=>by
  simp only [YY,ji] at h;rcases jo.1 a with rfl | a
  ·exact h.1
  ·exact Kx h.2 v a
theorem YM {o:Type}{i:o->List Value}(h:∀ x,YY (i x)=true):∀ (l:List o),YY (l.flatMap i)=true
 | []=>rfl
 | x::l=>by
  have key:∀ (a b:List Value),YY a=true->YY b=true->YY (a++b)=true:=by
   intro a
   induction a with
   | nil=>intro b _ h;exact h
   | cons v a ih=>
    intro b h1 h2;simp only [YY,ji] at h1;simp only [OE,YY,h1.1,Ou];exact ih b h1.2 h2
  rw [jV];exact key _ _ (h x) (YM h l)
theorem zcf {t K b n:Nat}{o:List Value}{l:List Value}(hx:QB [] E x=some (.pointer (some ⟨b,0,none⟩)))(hy:QB [] E y=some (.agg o.toArray))(V:SzT C.P t n)(Y:o.length=n)(ho:l.length=n)(h1:YY o=true)(T:B=none)
  (hu:Upd j b (.cells l.toArray K (0,0)) (.cells o.toArray K (0,0)) p)(h:XO C Q q rest [] E I p):
  XO C Q q (⟨none,.store t x y,F,s,G,B⟩::rest) [] E I j:=
 YR T kF fun a w u hw=>by
  obtain ⟨i,W,Z⟩:=V;obtain ⟨w',O,D⟩:=KO (P:=C.P) o [] w j p b K l kB (Kx h1) hw hu;simp only [execOp,Qp (S:=[]) u trivial rfl hx,Qp (S:=[]) u trivial rfl hy,Instr.storeAt,Instr.sureAddr,jg,jp,Result.andThen,storeVar,run_sizeOf W,Z,Value.cells,OH,Y,Bb,ON,Oa];rw [show ([]:List Value).length=0 from U] at O;simp only [O,AS];exact h _ _ u trivial D
theorem zh {t l b n:Nat}{i:List Value}{a:List Value}(o:SzT C.P t n)(h:XO C Q q rest [] E I p)(O:QB [] E x=some (.pointer (some ⟨b,0,none⟩)):=by exact U)(T:QB [] E y=some (.agg i.toArray):=by exact U)(u:i.length=n:=by exact U)(h1:YY i=true:=by exact U)
  (K:Upd j b (.cells a.toArray l (0,0)) (.cells i.toArray l (0,0)) p:=by repeat (first | exact Upd.here | apply Upd.there | apply QN))(D:a.length=n:=by exact U):XO C Q q (⟨none,.store t x y,F,s,G,none⟩::rest) [] E I j:=zcf O T o u D h1 U K h
end
theorem gbt {b:Bool}:b=(b==true):=by cases b<;>rfl
theorem gbf {b:Bool}:(!b)=(b==false):=by cases b<;>rfl
section
variable {C:Cx} {Q:Exit->Act->World->Prop} {E r:Env} {I D:Qu} {f F L R:Loc} {g:Array Oper} {rest:List Oper} {S:GS}
variable {o:Option Tmp} {d:Nat} {s:TypeId} {q:String} {A:Array Edge} {B:Option (Nat×Bool)} {x y z:Operand}
theorem Qw (j:Nat){i:Oper}{b:Nat}{a:Bool}(_hj:g[j]? =some i)(_hd:i.dst=some b)(_hl:WY S E b=some (.bool a))(h:XO C Q g rest ((a,[])::S) E I f):XO C Q g rest S E I f:=zoc a h
theorem QI (j:Nat){i:Oper}{b:Nat}{a:Bool}(_hj:g[j]? =some i)(_hd:i.dst=some b)(_hl:WY S E b=some (.bool a))(h:XO C Q g rest ((!a,[])::S) E I f):XO C Q g rest S E I f:=zoc (!a) h

def Ab (av:Option Addr):Nat:=match av with | some a=>a.block | none=>0
def Ao (av:Option Addr):Nat:=match av with | some a=>a.off | none=>0
structure Sl {α:Type}(I:Qu)(size:Nat)(enc:α->List Value)(av:Option Addr)(n c:Nat)(xs:List α):Prop where
 len:xs.length=n
 cap:n<=c
 base:n≠0->av=some ⟨Ab av,Ao av,none⟩
 cells:∀ k x,xs[k]? =some x->∀ j u,(enc x)[j]? =some u->QO I [] (Ab av) (Ao av+k*size+j) u
theorem Sl.nil {i:Type}{I:Qu}{a:Nat}{b:i->List Value}{j:Option Addr}{c:Nat}:Sl I a b j 0 c ([]:List i):=
 ⟨U,jd _,fun h=>absurd U h,fun k x h=>by simp at h⟩
theorem Sl.mono {p:Type}{a:Nat}{b:p->List Value}{i:Option Addr}{n c:Nat}{l:List p}(h:Sl I a b i n c l)(t:HLe I D):Sl D a b i n c l:=
 ⟨h.len,h.cap,h.base,fun k x J j u G=>(h.cells k x J j u G).mono t⟩
theorem Sl.get {l:Type}{a:Nat}{b:l->List Value}{i:Option Addr}{n c:Nat}{p:List l}(h:Sl I a b i n c p){k j:Nat}{x:l}{u:Value}(G:p[k]? =some x)(t:(b x)[j]? =some u):QO I f (Ab i) (Ao i+k*a+j) u:=
 (h.cells k x G j u t).any
abbrev zJJ:=@Sl.get
theorem Sl.getA {l:Type}{a:Nat}{b:l->List Value}{i:Option Addr}{n c:Nat}{p:List l}(h:Sl I a b i n c p){k:Nat}{x:l}(G:p[k]? =some x):Cells I f (Ab i) (Ao i+k*a) (b x):=
 fun j u t=>(h.cells k x G j u t).any
abbrev zJI:=@Sl.getA
theorem Qs {G:Type}{t e h n c:Nat}{l:G->List Value}{j:Option Addr}{Y:List G}{k:IntKind}{i:Int}(V:QB S E x=some (.slice j n c))(W:QB S E y=some (.int k i))(K:SlT C.P t e h)(J:Sl I h l j n c Y)
  (p:ZH S=true->0<=i/\i<(n:Int)):Q2 C S E I f ⟨o,.indexAddr t x y,s,q,A,B⟩ (.pointer (some ⟨Ab j,Ao j+i.toNat*h,none⟩)):=
 .of kF fun a w M hg u T=>by
  have O:n≠0:=(by have:=p u;omega);exact (zaZ (C:=C) (I:=I) (loc:=f) (dst:=o) (ty:=s) (pos:=q) (af:=A) (gd:=B) (b:=Ab j) (off:=Ao j) (by rw [<-J.base O];exact V) W K p).2 a w M hg u T
theorem zX {j:Type}{t e a n c:Nat}{h:j->List Value}{b:Option Addr}{K:List j}{k:IntKind}{i:Int}(p:SlT C.P t e a)(l:Sl I a h b n c K)(G:QB S E x=some (.slice b n c):=by exact U)(J:QB S E y=some (.int k i):=by exact U)
  (u:ZH S=true->0<=i/\i<(n:Int):=by (intro hg;first | omega | (simp [ZH] at hg;omega) | (simp only [jx,Ag];omega))):Q2 C S E I f ⟨o,.indexAddr t x y,s,q,A,B⟩ (.pointer (some ⟨Ab b,Ao b+i.toNat*a,none⟩)):=Qs G J p l u
theorem Cells.here {b:Nat}{a:List Value}{t:TypeId}{h:Nat×Nat}{l:Loc}:Cells I ((b,.cells a.toArray t h)::l) b 0 a:=fun j u i=>.here (by rw [Oj,Ve];simpa using i)
abbrev zJF:=@Cells.here
theorem Cells.there {b a:Nat}{i:List Value}{p:Nat×Obj}{l:Loc}(h:Cells I l b a i):Cells I (p::l) b a i:=fun j u t=>(h j u t).there
abbrev zJE:=@Cells.there
theorem zfd {M:Env->Qu->Loc->Prop}(r:Env)(b:M r I f)(a:Sub r E):At C (Exit.then (Met C M) Q) .normal E I f:=zDX r I f b a (zJH _) U
end
section quiet
variable {P:Program} {b:Array Oper} {g:Region.Mode} {d:World->Prop} {r:Option Nat}
theorem zd1 {o:Oper}{a:Act}{K:Act->Prop}{y:Act->World->Prop}{z:Exit->Act->World->Prop}{w:World}(t:d w)(h:∀ a l,d l->K a->y a l)(C:o.quiet P a d K):o.wpIn (FR r) 0 P a w y z:=by
 obtain ⟨v,h1,h2⟩:=C;have h3:=h1 w t
 have s:∀ c,o.op≠ .defer c:=fun c e=>by
  unfold Oper.quietAt at h3;have D:execOp a.eval o=(do pure (.defer (<-resolve a.eval c o.type))):=(by simp only [execOp,e]);rw [D] at h3;simp only [jg] at h3;generalize (resolve a.eval c o.type).run P w=q at h3;cases q<;>simp [Result.andThen,Oper.quietUpon] at h3
 refine ⟨fun _ _=>trivial,?_⟩;rw [Ak _ _ _ s];unfold Oper.quietAt at h3;generalize (execOp a.eval o).run P w=q at*
 cases q with
 | ok n l=>
  cases n<;>simp only [Oper.quietUpon] at h3<;>simp only [Oper.uponIn]
  case value u=>
   obtain ⟨i,p⟩:=h3;rw [i,p];exact h _ _ t h2
  case skip=>
   obtain ⟨i,p⟩:=h3;rw [i,<-p];exact h _ _ t h2
  case enter f args=>
   obtain ⟨i,A⟩:=h3;rw [i];exact ⟨by simp [FR],zav.2 (A.mono fun e E ⟨B,j⟩=>by subst B;exact h _ _ j h2)⟩
 | halt x l=>simp only [Oper.quietUpon] at h3
theorem zeS {i:Nat}{a:Act}{K:Act->Prop}{s:Act->World->Prop}{u:Exit->Act->World->Prop}{w:World}(l:d w)(h:∀ a t,d t->K a->s a t)(j:qOp P b d i K a):wpOpIn (FR r) 0 P b u i s a w:=by
 unfold qOp at j;unfold wpOpIn;split
 ·rename_i p;simp only [p] at j;exact h _ _ l j
 ·rename_i o p;simp only [p] at j;split
  ·rename_i q;simp only [q,OB] at j;exact zd1 l h j
  ·rename_i q;simp only [q] at j;exact ⟨fun _ _=>trivial,h _ _ l j⟩
theorem UN {Q:Act->Prop}{p:Exit->Act->World->Prop}(l:∀ a w,d w->Q a->p .normal a w):∀ (fuel:Nat) (j:Array Bool) (a:Act) (w:World),d w->
  wpAnyQ P g b d Q fuel j a->wpAnyIn (FR r) 0 P g b p fuel j a w
 | 0,_,_,_,hw,h=>⟨h.1,l _ _ hw h.2⟩
 | fuel+1,_,_,_,hw,h=>⟨fun h0=>l _ _ hw (h.1 h0),fun i s=>zeS hw (fun q t o=>UN l fuel _ q t o) (h.2 i s)⟩
theorem zae {s:Nat}{Q:Exit->Act->World->Prop}{a:Act}{w:World}(q:P.follows .mixedOrders=true)(l:Region.lexB .any b=true)(p:d {w with drawn:=w.drawn+1})
  (h:wpQuiet P b d (fun j=>∀ i,d i->Q .normal j i) b.toList a):(Code.region s b true).wpIn (FR r) 0 P Q a w:=by
 simp only [Region.lexB,ji] at l;refine wpIn_region_any q<|UN (Q:=fun j=>∀ i,d i->Q .normal j i) (fun _ i o h=>h i o) _ _ _ _ p ?_;have:=wpAnyQ_lex (C:=d) (md:=.any) l.1 b.toList 0 (Array.replicate b.size false) a kJ (by simpa using l.2) h;simpa using this
end quiet
section
variable {C:Cx} {Q:Exit->Act->World->Prop} {E B:Env} {I F:Qu} {i A L R:Loc} {n:Array Oper} {rest:List Oper} {S:GS}
variable {q:Option Tmp} {d:Nat} {r:TypeId} {p:String} {s:Array Edge} {u:Option (Nat×Bool)} {x y z:Operand}
def XQ (C:Cx)(Q:Exit->Act->World->Prop)(n:Array Oper)(l:List Oper)(S:GS)(E:Env)(I:Qu)(i:Loc):Prop:=
 ∀ a,UQ C.N C.D E a->Ud S a->wpQuiet C.P n (fun w=>St C.g I C.H i w) (fun a'=>∀ w',St C.g I C.H i w'->Q .normal a' w') l a
theorem ZW {D:Nat}{l:List Oper}(o:C.P.follows .mixedOrders=true)(b:Region.lexB .any l.toArray=true)(h:XQ C Q l.toArray l [] E I i):X C Q (.region D l.toArray true) E I i:=fun a w j t=>
 zae o b t.drew (by simpa using h a j trivial)
theorem ZX (h:At C Q .normal E I i):XQ C Q n [] S E I i:=fun a b _=>wpQuiet_nil fun w j=>h a w b j
theorem zmb (b:Bool)(h:XQ C Q n rest ((b,[])::S) E I i):XQ C Q n rest S E I i:=fun a j hg=>h a j ⟨(fun _ _ e=>by cases e),hg⟩
theorem Yd (j:Nat){l:Oper}{b:Nat}{a:Bool}(_hj:n[j]? =some l)(_hd:l.dst=some b)(_hl:WY S E b=some (.bool a))(h:XQ C Q n rest ((a,[])::S) E I i):XQ C Q n rest S E I i:=zmb a h
theorem Ym (j:Nat){l:Oper}{b:Nat}{a:Bool}(_hj:n[j]? =some l)(_hd:l.dst=some b)(_hl:WY S E b=some (.bool a))(h:XQ C Q n rest ((!a,[])::S) E I i):XQ C Q n rest S E I i:=zmb (!a) h
theorem zpK {o:Oper}{v:Value}(M:∀ a,UQ C.N C.D E a->Ud S a->ZH S=true->∀ w,St C.g I C.H i w->o.quietAt C.P a (fun w=>St C.g I C.H i w) w v)(G:Zt n S E o)(t:o.dst=some d)(J:Nat.blt d C.N=true)(K:Yf S E d=true)
  (h:XQ C Q n rest (XY S E d v) (zhf S E d v) I i):XQ C Q n (o::rest) S E I i:=by
 intro a j hg;have b:=YI j hg J K v;simp only [wpQuiet];rw [G.wanted j hg]
 cases l:ZH S with
 | true=>
  rw [l] at b;simp only [OB];exact ⟨v,M a j hg l,by rw [t];exact h _ b.1 b.2⟩
 | false=>
  rw [l] at b;simp only [jy,Oa];rw [t];exact h _ b.1 b.2
theorem zvc {o:Oper}{v:Value}(J:Q2 C S E I i o v)(b:Zt n S E o)(D:o.dst=some d)(j:Nat.blt d C.N=true)(G:Yf S E d=true)
  (h:XQ C Q n rest (XY S E d v) (zhf S E d v) I i):XQ C Q n (o::rest) S E I i:=
 zpK (fun a l hg t w K=>by unfold Oper.quietAt;rw [J.2 a w l hg t K];exact ⟨U,U⟩) b D j G h
theorem zi5 {f:FuncId}{o:List Value}{l:List Operand}{J:List Value}{t:Array TypeId}{b:Operand}{v:Value}
  (W:QB S E b=some (.func (.func f) #[] o.toArray))(Z:l.map (QB S E)=J.map some)(hF:Fun C.P f)(V:ZH S=true->Zj C.P f (J++o) I v)
  (O:Zt n S E ⟨some d,.call ⟨.value b,l.toArray,t⟩,r,p,s,u⟩)(T:Nat.blt d C.N=true)(Y:Yf S E d=true)
  (h:XQ C Q n rest (XY S E d v) (zhf S E d v) I i):
  XQ C Q n (⟨some d,.call ⟨.value b,l.toArray,t⟩,r,p,s,u⟩::rest) S E I i:=
 zpK (fun a D hg j w G=>by
  unfold Oper.quietAt;rw [zex (Qp D hg j W) (JK D hg j Z) hF]
  exact ⟨U,(V j _ _ _ G.hide).mono fun e w' ⟨K,M⟩=>⟨K,G.unhide M⟩⟩) O U T Y h
theorem zt1 {D o:Nat}{b t x:Bool}{G:Env}(W:b=t)(Y:QB S E (.tmp D)=some (.bool t))(K:J9 G o=some (.bool x))
  (T:Zt n S E ⟨some d,.pick (.tmp D) (.tmp o) (.const (.bool false)),r,p,s,u⟩)(V:Nat.blt d C.N=true)(Z:Yf S E d=true)
  (h:XQ C Q n rest (XY S E d (.bool (t&&x))) (zhf S E d (.bool (t&&x))) I i):
  XQ C Q n (⟨some d,.pick (.tmp D) (.tmp o) (.const (.bool false)),r,p,s,u⟩::rest) ((b,G)::S) E I i:=by
 intro a J hg;have l:=YI J hg.2 V Z (.bool (t&&x));simp only [wpQuiet];rw [T.wanted J hg.2]
 cases j:ZH S with
 | true=>
  rw [j] at l;simp only [OB];have M:a.eval (.tmp D)= .bool t:=Qp J hg.2 j Y
  have O:t=true->a.eval (.tmp o)= .bool x:=fun e=>by
   have:=hg.1 _ _ K;rw [j,W,e] at this;exact this
  refine ⟨.bool (t&&x),fun w hw=>?_,h _ l.1 l.2⟩;unfold Oper.quietAt;simp only [execOp,M,asBool,jg,jp,Result.andThen]
  cases t with
  | true=>simp only [OB,O rfl];exact ⟨U,U⟩
  | false=>exact ⟨U,U⟩
 | false=>
  rw [j] at l;simp only [jy,Oa];exact h _ l.1 l.2
theorem zBV {D o:Nat}{b t x:Bool}{G:Env}(W:b= !t)(Y:QB S E (.tmp D)=some (.bool t))(K:J9 G o=some (.bool x))
  (T:Zt n S E ⟨some d,.pick (.tmp D) (.const (.bool true)) (.tmp o),r,p,s,u⟩)(V:Nat.blt d C.N=true)(Z:Yf S E d=true)
  (h:XQ C Q n rest (XY S E d (.bool (t||x))) (zhf S E d (.bool (t||x))) I i):
  XQ C Q n (⟨some d,.pick (.tmp D) (.const (.bool true)) (.tmp o),r,p,s,u⟩::rest) ((b,G)::S) E I i:=by
 intro a J hg;have l:=YI J hg.2 V Z (.bool (t||x));simp only [wpQuiet];rw [T.wanted J hg.2]
 cases j:ZH S with
 | true=>
  rw [j] at l;simp only [OB];have M:a.eval (.tmp D)= .bool t:=Qp J hg.2 j Y
  have O:t=false->a.eval (.tmp o)= .bool x:=fun e=>by
   have:=hg.1 _ _ K;rw [j,W,e] at this;exact this
  refine ⟨.bool (t||x),fun w hw=>?_,h _ l.1 l.2⟩;unfold Oper.quietAt;simp only [execOp,M,asBool,jg,jp,Result.andThen]
  cases t with
  | false=>simp only [jy,Oa,O rfl];exact ⟨U,U⟩
  | true=>exact ⟨U,U⟩
 | false=>
  rw [j] at l;simp only [jy,Oa];exact h _ l.1 l.2
end

section
variable {P:Program} {g:Array Oper} {Q:Exit->Act->World->Prop} {s:Region.Mode} {p:World->Prop} {r:Option Nat}
def VM (r:Option Nat)(P:Program)(s:Region.Mode)(g:Array Oper)(Q:Exit->Act->World->Prop)(p:World->Prop):Nat->Array Bool->Act->World->Prop
 | 0,listed,a,w=>Region.ready s g listed=[]/\Q .normal a w
 | fuel+1,listed,a,w=>
  (Region.ready s g listed=[]->Q .normal a w)/\
  ∀ i∈Region.ready s g listed,wpOpIn (FR r) 0 P g Q i (fun a' w'=>p w'/\VM r P s g Q p fuel (listed.setIfInBounds i true) a' w') a w
theorem za2:∀ (fuel:Nat) (b:Array Bool) (a:Act) (w:World),VM r P s g Q p fuel b a w->wpAnyIn (FR r) 0 P s g Q fuel b a w
 | 0,_,_,_,h=>h
 | fuel+1,_,_,_,h=>⟨h.1,fun i l=>wpOpIn_mono (fun d o j=>za2 fuel _ d o j.2) (h.2 i l)⟩
theorem YieldsIf.wpOpIn {i:Nat}{o:Oper}{v:Value}{a:Act}(l:g[i]? =some o)(b:∀ c,o.op≠ .defer c)(t:YieldsIf P g p o v a)
  {K:Act->World->Prop}{w:World}(j:p w)(h:K (a.put o.dst v) w):wpOpIn (FR r) 0 P g Q i K a w:=by
 unfold Go.wpOpIn;simp only [l];rcases t with ⟨d,q⟩ | ⟨d,rfl⟩
 ·simp only [d,OB,Oper.wpIn];exact ⟨fun _ _=>trivial,by rw [Ak _ _ _ b,q w j];exact h⟩
 ·simp only [d,jy,Oa];exact ⟨fun _ _=>trivial,h⟩
theorem zlY {o:Oper}(z:∀ t b,o.op≠ .select t b)(j:Option Nat)(a:Act)(i:Option Tmp)(v:Value)(h:∀ d,i=some d->d∉o.looksAt g):Oper.semAt j (a.put i v).eval o=Oper.semAt j a.eval o:=by
 have q:=execOp_put o z a i v h;unfold Oper.semAt
 cases j with
 | none=>exact q
 | some l=>
  cases y:o.op<;>first | exact q | skip
  rename_i c
  have e:=resolve_congr (ρ:=(a.put i v).eval) (ρ':=a.eval) c o.type (fun x A=>Act.eval_put (fun d u e=>h d u (by
   subst e;simp only [Oper.looksAt,y,jC,List.mem_filterMap]
   exact .inl ⟨.tmp d,by simpa [Op.operands] using A,U⟩)))
  simp only [e]
theorem zg6 {j:Nat}{i y:Oper}{v:Value}(O:g[j]? =some y)(D:i.apart g y=true)
  (E:∀ B b,i.op≠ .select B b)(F:∀ B b,y.op≠ .select B b)
  (C:∀ c a w,Q (.panic c) (a.put i.dst v) w->Q (.panic c) a w){K:Act->World->Prop}{a:Act}{w:World}
  (t:YieldsIf P g p i v a)(h:wpOpIn (FR r) 0 P g Q j K (a.put i.dst v) w):
  wpOpIn (FR r) 0 P g Q j (fun M J=>YieldsIf P g p i v M/\K (M.put i.dst v) J) a w:=by
 obtain ⟨h1,h2,h3⟩:=Oper.apart_spec D
 have keep:∀ (a:Act),YieldsIf P g p i v a->∀ u,YieldsIf P g p i v (a.put y.dst u):=fun a t u=>
  t.of_same (execOp_put i E a y.dst u h3) (wanted_put i a y.dst u h3)
 have z:∀ d,YieldsIf P g p i v {a with defers:=d::a.defers}:=fun d=>t.of_same U U;unfold wpOpIn at*;simp only [O] at*;rw [wanted_put y a i.dst v h1] at h;split
 ·rename_i G;simp only [G,OB] at h;unfold Oper.wpIn at*;refine ⟨fun _ _=>trivial,?_⟩;have h:=h.2;rw [zlY F _ a i.dst v h1] at h;generalize (y.semAt (FR r).round a.eval).run P w=q at*
  cases q with
  | ok n J=>
   cases n<;>simp only [Oper.uponIn] at h ⊢
   case value u=>exact ⟨keep a t u,by rw [<-A4 a v u h2];exact h⟩
   case skip=>exact ⟨keep a t _,by rw [<-A4 a v undef h2];exact h⟩
   case defer d=>
    refine ⟨keep _ (z d) _,?_⟩;rw [<-A4 _ v undef h2,<-Act.put_defers];exact h
   case enter f args=>
    refine ⟨h.1,CallsIn.mono h.2 fun e A o=>?_⟩
    cases e with
    | returned u=>exact ⟨keep a t u,by rw [<-A4 a v u h2];exact o⟩
    | panicked c=>exact C _ _ _ o
    | outgrown=>exact o
   case row row args=>exact ⟨h.1,RowsIn.mono h.2 fun u A o=>⟨keep a t u,by rw [<-A4 a v u h2];exact o⟩⟩
   case round l f tmps assign body=>
    refine ⟨h.1,RoundIn.mono h.2 fun e A o=>?_⟩
    cases e with
    | returned u=>exact ⟨keep a t u,by rw [<-A4 a v u h2];exact o⟩
    | panicked c=>exact C _ _ _ o
    | outgrown=>exact o
  | halt x J=>
   cases x<;>simp only [Oper.uponIn] at h ⊢
   case panic u=>exact C _ _ _ h
 ·rename_i G;simp only [G] at h;exact ⟨fun _ _=>trivial,keep a t _,by rw [<-A4 a v undef h2];exact h.2⟩
theorem U6 {i:Nat}{y:Oper}{v:Value}(W:g[i]? =some y)(F:∀ c,y.op≠ .defer c)(x:∀ (j:Nat) (o:Oper) C b,g[j]? =some o->o.op≠ .select C b)
  (hQ:∀ c a w,Q (.panic c) (a.put y.dst v) w->Q (.panic c) a w):
  ∀ (fuel:Nat) (d:Array Bool) (a:Act) (w:World),
   (∀ j B,g[j]? =some B->j≠i->d.getD j true=false->(∀ e∈B.after,Region.binds s e=true->e.on≠i)->y.apart g B=true)->
   i∈Region.ready s g d->YieldsIf P g p y v a->p w->
   VM r P s g Q p fuel (d.setIfInBounds i true) (a.put y.dst v) w->VM r P s g Q p (fuel+1) d a w:=by
 intro fuel
 induction fuel with
 | zero=>
  intro d a w _ A O D H;refine ⟨fun h=>(by rw [h] at A;cases A),fun j M=>?_⟩;by_cases l:j=i
  ·subst l;exact YieldsIf.wpOpIn W F O D ⟨D,H⟩
  ·have:=ready_mono M l;rw [H.1] at this;cases this
 | succ fuel ih=>
  intro d a w q A O D H;refine ⟨fun h=>(by rw [h] at A;cases A),fun j M=>?_⟩;by_cases l:j=i
  ·subst l;exact YieldsIf.wpOpIn W F O D ⟨D,H⟩
  ·have h1:=H.2 j (ready_mono M l);obtain ⟨u,B,z,E⟩:=mem_ready.1 M
   have J:∀ e∈B.after,Region.binds s e=true->e.on≠i:=fun e he hb V=>by
    have h1:=E e he hb;have h0:=(mem_ready.1 A).1;rw [V] at h1;rcases B7 i d.size with T | T
    ·simp [T] at h0 h1;rw [h0] at h1;cases h1
    ·simp [Array.getElem?_eq_none T] at h1
   have h2:=zg6 z (q j B z l u J) (fun C b=>x i y C b W) (fun C b=>x j B C b z) hQ O h1
   have t:∀ k ok,g[k]? =some ok->k≠i->(d.setIfInBounds j true).getD k true=false->
     (∀ e∈ok.after,Region.binds s e=true->e.on≠i)->y.apart g ok=true:=fun k ok hk Y K Z=>by
    refine q k ok hk Y ?_ Z;by_cases G:j=k
    ·subst G;exact u
    ·rw [getD_set_ne true G] at K;exact K
   refine wpOpIn_mono (fun a' w' h3=>⟨h3.2.1,ih (d.setIfInBounds j true) a' w' t (ready_mono A (Bu l)) h3.1 h3.2.1 ?_⟩) h2;rw [Array.setIfInBounds_comm _ _ l];exact h3.2.2
end
section
variable {C:Cx} {Q:Exit->Act->World->Prop} {E z:Env} {I A u:Qu} {t y f L R:Loc} {s:Array Oper} {rest:List Oper} {S:GS}
def XD (C:Cx)(Q:Exit->Act->World->Prop)(s:Array Oper)(u:Qu)(f:Loc)(fuel:Nat)(listed:Array Bool)(S:GS)(E:Env)(I:Qu)(t:Loc):Prop:=
 ∀ a w,UQ C.N C.D E a->Ud S a->St C.g I C.H t w->VM C.r C.P .any s Q (fun w=>St C.g u C.H f w) fuel listed a w
def W0 (Q:Exit->Act->World->Prop):Prop:=∀ c a d v w,Q (.panic c) (a.put (some d) v) w->Q (.panic c) a w
inductive UR:Loc->Loc->Prop
 | refl {l:Loc}:UR l l
 | drop {x:Nat×Obj} {l0 l:Loc} (h:UR l0 l):UR l0 (x::l)
 | keep {x:Nat×Obj} {l0 l:Loc} (h:UR l0 l):UR (x::l0) (x::l)
theorem UR.mem (h:UR f t):∀ p∈f,p∈t:=by
 induction h with
 | refl=>exact fun p h=>h
 | drop _ ih=>exact fun p a=>jm _ (ih p a)
 | keep _ ih=>exact fun p a=>(jo.1 a).elim (fun e=>e ▸ jl ..) (fun a=>jm _ (ih p a))
theorem UR.nodup (h:UR f t):(t.map (·.1)).Nodup->(f.map (·.1)).Nodup:=by
 induction h with
 | refl=>exact id
 | drop _ ih=>intro a;simp only [jF,O5] at a;exact ih a.2
 | keep d ih=>
  intro a;simp only [jF,O5] at a ⊢;refine ⟨fun b=>?_,ih a.2⟩;obtain ⟨p,b,e⟩:=jt.1 b;exact a.1 (jt.2 ⟨p,d.mem p b,e⟩)
theorem St.subL {g:World}{H:Qu}{w:World}(h:St g I H t w)(d:UR f t):St g I H f w:=
 ⟨h.os,h.tape,h.out,h.size,h.imm,h.frm,fun b o a=>h.own b o (d.mem _ a),h.sepIH,fun b o a=>h.sepIL b o (d.mem _ a),d.nodup h.nodup⟩
def noP (Q:Exit->Act->World->Prop):Exit->Act->World->Prop
 | .panic _,_,_=>False
 | .normal,a,w=>Q .normal a w
 | .exit i,a,w=>Q (.exit i) a w
 | .goto i,a,w=>Q (.goto i) a w
 | .ret,a,w=>Q .ret a w
 | .outgrown,a,w=>Q .outgrown a w
theorem zoO:W0 (noP Q):=fun _ _ _ _ _ h=>h
theorem VR {c:Code}(h:X C (noP Q) c E I t):X C Q c E I t:=fun a w d i=>AY (h a w d i) fun e a w b=>by
 cases e<;>first | exact b | exact b.elim
theorem ZM {j:Nat}{l:List Oper}(u:Qu)(f:Loc)(d:C.P.follows .mixedOrders=true)(h:XD C Q l.toArray u f l.length (Array.replicate l.length false) [] E I t):X C Q (.region j l.toArray true) E I t:=fun a w b i=>
 wpIn_region_any d (za2 _ _ _ _ (by simpa using h a _ b trivial i.drew))
theorem zyO (i:Nat){l:Oper}{d:Nat}{v:Value}{fuel:Nat}{b:Array Bool}(D:s[i]? =some l)(G:Q2 C S E u f l v)(K:Zt s S E l)(B:l.dst=some d)(O:Nat.blt d C.N=true)(V:Yf S E d=true)
  (Z:Region.noSelect s=true)(q:Region.free .any s b i=true)(Y:(Region.ready .any s b).contains i=true)(T:W0 Q)(M:HLe u I)(W:UR f t)
  (h:XD C Q s u f fuel (b.setIfInBounds i true) (XY S E d v) (zhf S E d v) I t):XD C Q s u f (fuel+1) b S E I t:=by
 intro a w o hg J;have F:=YI o hg O V v;refine U6 (v:=bif ZH S then v else undef) D G.1 (BK Z) (fun c a w=>by rw [B];exact T c a d _ w) fuel b a w (B9 D q) (by simpa using Y) ?_ ((J.mono M).subL W) (by rw [B];exact h _ _ F.1 F.2 J);have j:=K.wanted o hg
 cases p:ZH S with
 | true=>exact .inl ⟨by rw [j,p],fun w' x=>G.2 a w' o hg p x⟩
 | false=>exact .inr ⟨by rw [j,p],U⟩
theorem zT (i:Nat){T:Op}{p:TypeId}{b:String}{j:Array Edge}{l:Option (Nat×Bool)}{d:Nat}{v:Value}{fuel:Nat}{a:Array Bool}(G:s[i]? =some ⟨some d,T,p,b,j,l⟩)(O:Q2 C S E u f ⟨some d,T,p,b,j,l⟩ v)(x:HLe u I)(h:XD C Q s u f fuel (a.setIfInBounds i true) (XY S E d v) (zhf S E d v) I t)(q:Zt s S E ⟨some d,T,p,b,j,l⟩:=by exact .none U)(B:Nat.blt d C.N=true:=by exact U)(F:Yf S E d=true:=by exact U)
  (M:Region.noSelect s=true:=by kernel_rfl)(o:Region.free .any s a i=true:=by kernel_rfl)(K:(Region.ready .any s a).contains i=true:=by kernel_rfl)(D:W0 Q:=by first | exact zoO | (repeat (first | exact np_body | with_reducible refine np_then ?_ | with_reducible refine np_block ?_)))(J:UR f t:=by repeat (first | exact .refl | exact Wq | refine .keep ?_ | refine .drop ?_ | refine ZN ?_)):XD C Q s u f (fuel+1) a S E I t:=zyO i G O q U B F M o K D x J h
theorem zGd (i:Nat){l:Oper}{fuel:Nat}{b:Array Bool}(D:s[i]? =some l)(p:Region.ready .any s b=[i])
  (h:XO C (fun e a w=>match e with | .normal=>St C.g u C.H f w/\VM C.r C.P .any s Q (fun w=>St C.g u C.H f w) fuel (b.setIfInBounds i true) a w | e=>Q e a w) s [l] S E I t):XD C Q s u f (fuel+1) b S E I t:=by
 intro a w B hg F;refine ⟨(fun h0=>by rw [p] at h0;cases h0),fun j o=>?_⟩;rw [p] at o;obtain rfl:=jM.1 o;have:=h a w B hg F;simp only [wpListIn] at this;unfold wpOpIn;simp only [D];split
 ·rename_i d;simp only [d,OB] at this;unfold Oper.wpIn at*;refine ⟨fun _ _=>trivial,?_⟩;have h2:=this.2;generalize (l.semAt (FR C.r).round a.eval).run C.P w=q at*
  cases q with
  | ok n G=>cases n<;>exact h2
  | halt x G=>cases x<;>exact h2
 ·rename_i d;simp only [d] at this;exact this
theorem qd (i:Nat){d:Oper}{fuel:Nat}{b:Array Bool}(j:s[i]? =some d)
  (h:XO C (fun e a w=>match e with | .normal=>St C.g u C.H f w/\VM C.r C.P .any s Q (fun w=>St C.g u C.H f w) fuel (b.setIfInBounds i true) a w | e=>Q e a w) s [d] S E I t)(l:Region.ready .any s b=[i]:=by kernel_rfl):XD C Q s u f (fuel+1) b S E I t:=zGd i j l h
theorem zJr {i fuel:Nat}{b:Array Bool}(j:HLe u I)(o:UR f t)(h:XD C Q s u f fuel (b.setIfInBounds i true) [] E I t):
  At C (fun e a w=>match e with | .normal=>St C.g u C.H f w/\VM C.r C.P .any s Q (fun w=>St C.g u C.H f w) fuel (b.setIfInBounds i true) a w | e=>Q e a w) .normal E I t:=
 fun a w l d=>⟨(d.mono j).subL o,h a w l trivial d⟩
theorem zD {i fuel:Nat}{b:Array Bool}(d:HLe u I)(h:XD C Q s u f fuel (b.setIfInBounds i true) [] E I t)(j:UR f t:=by repeat (first | exact .refl | exact Wq | refine .keep ?_ | refine .drop ?_ | refine ZN ?_)):
  At C (fun e a w=>match e with | .normal=>St C.g u C.H f w/\VM C.r C.P .any s Q (fun w=>St C.g u C.H f w) fuel (b.setIfInBounds i true) a w | e=>Q e a w) .normal E I t:=zJr d j h
theorem QH {fuel:Nat}{b:Array Bool}(i:Region.ready .any s b=[])(h:At C Q .normal E I t):XD C Q s u f fuel b S E I t:=fun a w d hg j=>by
 cases fuel with
 | zero=>exact ⟨i,h a w d j⟩
 | succ n=>exact ⟨fun _=>h a w d j,by rw [i];simp⟩
theorem Zv (i j:Nat){l F:Oper}{fuel:Nat}{b:Array Bool}(B:s[i]? =some l)(K:s[j]? =some F)(D:Region.ready .any s b=[i,j])
  (h1:XO C (fun e a w=>match e with | .normal=>St C.g u C.H f w/\VM C.r C.P .any s Q (fun w=>St C.g u C.H f w) fuel (b.setIfInBounds i true) a w | e=>Q e a w) s [l] S E I t)
  (h2:XO C (fun e a w=>match e with | .normal=>St C.g u C.H f w/\VM C.r C.P .any s Q (fun w=>St C.g u C.H f w) fuel (b.setIfInBounds j true) a w | e=>Q e a w) s [F] S E I t):XD C Q s u f (fuel+1) b S E I t:=by
 intro a w J hg M;refine ⟨(fun h0=>by rw [D] at h0;cases h0),fun k o=>?_⟩;rw [D] at o
 have key:∀ (i:Nat) (l:Oper),s[i]? =some l->XO C (fun e a w=>match e with | .normal=>St C.g u C.H f w/\VM C.r C.P .any s Q (fun w=>St C.g u C.H f w) fuel (b.setIfInBounds i true) a w | e=>Q e a w) s [l] S E I t->
   wpOpIn (FR C.r) 0 C.P s Q i (fun G p=>St C.g u C.H f p/\VM C.r C.P .any s Q (fun w=>St C.g u C.H f w) fuel (b.setIfInBounds i true) G p) a w:=by
  intro i l B h;have:=h a w J hg M;simp only [wpListIn] at this;unfold wpOpIn;simp only [B];split
  ·rename_i d;simp only [d,OB] at this;unfold Oper.wpIn at*;refine ⟨fun _ _=>trivial,?_⟩;have h2:=this.2;generalize (l.semAt (FR C.r).round a.eval).run C.P w=q at*
   cases q with
   | ok n p=>cases n<;>exact h2
   | halt x p=>cases x<;>exact h2
  ·rename_i d;simp only [d] at this;exact this
 rcases jo.1 o with e | o
 ·subst e;exact key _ _ B h1
 ·obtain rfl:=jM.1 o;exact key _ _ K h2
end
def OwnS (e size:Nat)(v:Value)(n:Nat)(xs:List Value)(L:Loc):Prop:=
 xs.length=n*size/\((v= .slice none 0 0/\n=0/\L=[])\/
  ∃ b c cur,v= .slice (some ⟨b,0,none⟩) n c/\L=[(b,.cells cur e (0,0))]/\n<=c/\c<=maxLen/\cur.size=c*size/\cur.toList.take (n*size)=xs)
variable{e size:Nat}
theorem OwnS.nil :OwnS e size (.slice none 0 0) 0 [] []:=⟨by simp,.inl ⟨U,U,U⟩⟩
structure Src (I:Qu)(loc:Loc)(av:Option Addr)(m size:Nat)(ys:List Value):Prop where
 len:ys.length=m*size
 base:m≠0->av=some ⟨Ab av,Ao av,none⟩
 cells:Cells I loc (Ab av) (Ao av) ys
section
variable {g:World} {I l H:Qu} {d a L R:Loc} {w f:World}
theorem St.perm (h:St g I H d w)(i:∀ p,p∈a↔p∈d)(j:(a.map (·.1)).Nodup):St g I H a w:=
 ⟨h.os,h.tape,h.out,h.size,h.imm,h.frm,fun b o x=>h.own b o ((i _).1 x),h.sepIH,fun b o x=>h.sepIL b o ((i _).1 x),j⟩
theorem U9 (z:Array Value)(n:Nat):(Builtin.zeroCells z n).size=n*z.size:=by simp [Builtin.zeroCells]
theorem zdT {P:Program}(t ty e:TypeId)(i:TypeInfo)(z:Value){size D:Nat}(ht:P.underlying t=some (.slice e))(hi:P.info? e=some i)(hz:i.zero=some z)
  (W:i.size=size)(a2:i.bytes=D)(a8:z.cells.size=size)
  {v:Value}{n:Nat}{O:List Value}{C:Option Addr}{m c:Nat}{y:List Value}(Q:OwnS e size v n O L)(Z:St g I H (L++R) w)(M:Src I (L++R) C m size y)(h1:∀ u∈y,u.oneCell'=true)
  (hB:(n+m)*(D+1)<=70368744177664):
  ∃ v' f G,(Builtin.append_ #[t,t] ty #[v,.slice C m c]).run P w= .ok v' f/\OwnS e size v' (n+m) (O++y) G/\St g I H (G++R) f/\(m=0->v'=v):=by
 subst W;subst a2
 have b0:n+m<=70368744177664:=by
  have:(n+m)*1<=(n+m)*(i.bytes+1):=Nat.mul_le_mul_left _ kB;omega
 have A:(n+m)*i.bytes<=140737488355328:=by
  have:(n+m)*i.bytes<=(n+m)*(i.bytes+1):=Nat.mul_le_mul_left _ kB;omega
 have a6:n+m<=maxLen:=(by simp only [maxLen];omega);have B:(O++y).length=(n+m)*i.size:=(by rw [jj,Q.1,M.len,O9]);by_cases hm:m=0
 ·subst hm;have hy:y=[]:=OI (by simpa using M.len);subst hy;refine ⟨v,w,L,?_,by simpa using Q,Z,fun _=>U⟩
  have key:∀ (b:Option Addr) (k q:Nat),k<=q->(Builtin.append_ #[t,t] ty #[.slice b k q,.slice C 0 c]).run P w= .ok (.slice b k q) w:=by
   intro b k q a5;cases C<;>cases b<;>simp [Builtin.append_,jQ ht,sizeOf,typeInfo,hi,Builtin.lenOf,Builtin.firstCells,loadCells,loadCellsFrom,a5,storeCells]
  rcases Q.2 with ⟨rfl,rfl,rfl⟩ | ⟨b,q,p,rfl,rfl,hc,_⟩
  ·exact key _ _ _ (jn _)
  ·exact key _ _ _ hc
 ·have a1:=M.base hm;have s:∀ j u,y[j]? =some u->w.cell? ((⟨Ab C,Ao C,none⟩:Addr).add j)=some u:=fun j u Y=>(by rw [Y8];exact (M.cells j u Y).get Z);rw [a1]
  have grown:∀ (o:Nat) (R':Loc),o<n+m->St g I H R' w->∃ G,OwnS e i.size (.slice (some ⟨w.heap.size,0,none⟩) (n+m) (grownCap w (n+m) o e)) (n+m) (O++y) G/\
    St g I H (G++R') (w.drew.alloc (.cells (O.toArray++y.toArray++Builtin.zeroCells z.cells (grownCap w (n+m) o e-(n+m))) e)):=by
   intro o R' ho a7;have a4:=grownCap_ge w (n+m) o e;have T:grownCap w (n+m) o e<=maxLen:=grownCap_le_maxLen w (n+m) o e a6;refine ⟨_,⟨B,.inr ⟨w.heap.size,_,O.toArray++y.toArray++Builtin.zeroCells z.cells (grownCap w (n+m) o e-(n+m)),U,U,a4,T,?_,?_⟩⟩,?_⟩
   ·simp only [Array.size_append,OH,U9,a8,Q.1,M.len,<-O9];congr 1;omega
   ·simp only [Array.toList_append,js];rw [<-js,<-B];exact A6
   ·exact a7.drew'.alloc _
  rcases Q.2 with ⟨rfl,rfl,rfl⟩ | ⟨b,E,p,rfl,rfl,a9,T,a3,F⟩
  ·have hx:O=[]:=OI (by simpa using Q.1);subst hx;have hr:=run_append_nil (P:=P) w t ty e i z ht hi hz ⟨Ab C,Ao C,none⟩ m c y M.len s kB kB (by simp only [Oj] at A;omega);obtain ⟨G,J,K⟩:=grown 0 R kB Z;simp only [Oj,Oi,Array.empty_append] at J K ⊢;exact ⟨_,_,G,hr,J,K,fun h=>absurd h hm⟩
  ·have hb:=Z.own b (.cells p e (0,0)) (jl ..);by_cases x:n+m<=E
   ·have a0:n*i.size+y.length<=p.size:=(by rw [M.len,a3,<-O9];exact Av _ x);have hr:=run_append_room (P:=P) w t ty e i ht hi b n E p hb ⟨Ab C,Ao C,none⟩ m c y M.len s h1 x a0;refine ⟨_,_,_,hr,⟨B,.inr ⟨b,E,(p.toList.take (n*i.size)++y++p.toList.drop (n*i.size+y.length)).toArray,U,U,x,T,?_,?_⟩⟩,?_,fun h=>absurd h hm⟩
    ·simp only [OH,jj,jJ,Oy,Bf];omega
    ·rw [F,<-B];exact A6
    ·exact Z.turn Upd.here U U U (by simp [World.setRow]) (setRow_heap w b p _ e _ hb) (fun k hk=>setRow_other w b k _ hk)
   ·have V:∀ j u,O[j]? =some u->w.cell? ((⟨b,0,none⟩:Addr).add j)=some u:=fun j u Y=>by
     rw [Y8,Oj];rw [<-F,OA] at Y;split at Y
     ·simpa [World.cell?,hb] using Y
     ·cases Y
    have hr:=run_append_grow (P:=P) w t ty e i z ht hi hz ⟨b,0,none⟩ n E O Q.1 V ⟨Ab C,Ao C,none⟩ m c y M.len s kB kB (growslice_fits kB A);obtain ⟨G,J,K⟩:=grown E R kB (Z.take Zb.here);exact ⟨_,_,G,hr,J,K,fun h=>absurd h hm⟩
end
def ElT (P:Program)(t e size bytes:Nat):Prop:=P.underlying t=some (.slice e)/\∃ i z,P.info? e=some i/\i.zero=some z/\i.size=size/\i.bytes=bytes/\z.cells.size=size
def zJd (P:Program)(t e size bytes:Nat):Bool:=(match P.underlying t with | some (.slice e')=>e'==e | _=>false)&&(match P.info? e with | some i=>(match i.zero with | some z=>i.size==size&&i.bytes==bytes&&z.cells.size==size | none=>false) | none=>false)
theorem ElT.of {t a:Nat}(h:zJd P t e size a=true):ElT P t e size a:=by
 simp only [zJd,ji] at h;obtain ⟨h1,h2⟩:=h;refine ⟨?_,?_⟩
 ·split at h1
  ·rename_i l b;rw [jW] at h1;rw [b,h1]
  ·cases h1
 ·split at h2
  ·rename_i i d;split at h2
   ·rename_i z j;simp only [ji,jW] at h2;exact ⟨i,z,d,j,h2.1.1,h2.1.2,h2.2⟩
   ·cases h2
  ·cases h2
section
variable {C:Cx} {Q:Exit->Act->World->Prop} {E F:Env} {I D:Qu} {loc B L R:Loc} {s:Array Oper} {rest:List Oper} {S:GS}
variable {dst:Option Tmp} {d:Nat} {ty:TypeId} {pos:String} {af:Array Edge} {gd:Option (Nat×Bool)} {x y z:Operand}
theorem St.unsplit {g:World}{H:Qu}{w:World}(h:St g I H loc w)(a:YS loc L R):St g I H (L++R) w:=h.join a (h.split a)
theorem Cells.of_split {b a:Nat}{i:List Value}(h:Cells I loc b a i)(A:∀ p∈loc,p∈B):Cells I B b a i:=fun j u G=>by
 obtain ⟨l,t,o,q,J⟩:=h j u G;exact ⟨l,t,o,q.imp id (A _),J⟩
theorem YS.mem (j:YS loc L R):∀ p∈loc,p∈L++R:=by
 induction j with
 | nil=>exact fun p h=>by simpa using h
 | @cons l l1 l2 L b o ht j ih=>
  intro p a
  have:p=(b,o)\/p∈l1:=by
   clear ih j
   induction ht with
   | here=>exact jo.1 a
   | @there x b o l l' ht ih=>
    rcases jo.1 a with e | a
    ·exact .inr (e ▸ jl ..)
    ·exact (ih a).imp id (jm _)
  rcases this with e | i
  ·subst e;exact OS _ (jl ..)
  ·rcases jC.1 (ih p i) with h | h
   ·exact OS _ (jm _ h)
   ·exact O6 _ h
theorem zf0 {t e size b:Nat}{v:Value}{n m c:Nat}{K ys:List Value}{J:Option Addr}(hx:QB [] E x=some v)(hy:QB [] E y=some (.slice J m c))(W:ElT C.P t e size b)
  (V:OwnS e size v n K L)(j:YS loc L R)(q:Src I loc J m size ys)(h1:YY ys=true)(M:(n+m)*(b+1)<=70368744177664)(O:gd=none)(T:Nat.blt d C.N=true)
  (h:∀ l o,OwnS e size l (n+m) (K++ys) o->(m=0->l=v)->XO C Q s rest [] ((d,l)::E) I (o++R)):
  XO C Q s (⟨some d,.call ⟨.builtin .append, #[x,y], #[t,t]⟩,ty,pos,af,gd⟩::rest) [] E I loc:=
 YR O kF fun a w u hw=>by
  obtain ⟨ht,i,zz,Z,hz,hs,Y,G⟩:=W;obtain ⟨l,w',o,hr,p,A,hm⟩:=zdT (P:=C.P) t ty e i zz ht Z hz hs Y G (c:=c) V (hw.unsplit j) ⟨q.len,q.base,q.cells.of_split j.mem⟩ (Kx h1) M;simp only [execOp,resolve,OF,jF,Ah,Qp (S:=[]) u trivial rfl hx,Qp (S:=[]) u trivial rfl hy,jg,jp,Result.andThen,invoke,builtin,hr,OU];exact h l o p hm _ _ (u.put T _) trivial A

theorem zpa {t e size a:Nat}(v:Value){n m c:Nat}{p:List Value}(j:List Value)(L:Loc){o:Option Addr}(K:QB [] E x=some v)(M:QB [] E y=some (.slice o m c))(J:ElT C.P t e size a)(A:OwnS e size v n p L)(G:Src I loc o m size j)(h1:YY j=true)
  (h:∀ i l,OwnS e size i (n+m) (p++j) l->(m=0->i=v)->XO C Q s rest [] ((d,i)::E) I (l++R))(b:YS loc L R:=by repeat (first | exact .cons .here .nil | exact Zp | exact Q6 | apply ZC | apply Zz))(q:(n+m)*(a+1)<=70368744177664:=by omega)
  (u:Nat.blt d C.N=true:=by exact U):XO C Q s (⟨some d,.call ⟨.builtin .append, #[x,y], #[t,t]⟩,ty,pos,af,none⟩::rest) [] E I loc:=zf0 K M J A b G h1 q U u h
inductive zar:Nat->List (Nat×Value)->List (List Value)->Prop
 | nil {k:Nat}:zar k [] []
 | cons {k:Nat} {v:Value} {vs:List Value} {l:List (Nat×Value)} {m:List (List Value)} (hv:v.cells=vs.toArray) (h:zar (k+1) l m):zar k ((k,v)::l) (vs::m)
theorem zgp (j:Nat):∀ (l i b a:List Value) (k:Nat),i.length=j+k->b.length=l.length->
  (l.zipIdx k).foldl (fun (o:Array Value) (p:Value×Nat)=>o.setIfInBounds (j+p.2) p.1) (i++b++a).toArray=(i++l++a).toArray
 | [],i,b,a,k,_,h=>by
  have:b=[]:=Oo.1 h;subst this;rfl
 | v::l,i,b,a,k,hk,h=>by
  cases b with
  | nil=>simp at h
  | cons u b=>
   rw [List.zipIdx_cons,Of]
   have e:(i++u::b++a).toArray.setIfInBounds (j+k) v=((i++[v])++b++a).toArray:=by
    rw [<-hk];simp
   rw [e,zgp j l (i++[v]) b a (k+1) kK (by simpa using h)];simp
theorem zfe {place:Nat->Option (Nat×Nat)}{i off size:Nat}{v:Value}{vs pre old tail:List Value}{l:List (Nat×Value)}(b:place i=some (off,size))(h:v.cells=vs.toArray)(o:vs.length=size)(a:pre.length=off)(j:old.length=size):
  Instr.fill place (pre++old++tail).toArray ((i,v)::l)=Instr.fill place (pre++vs++tail).toArray l:=by
 have:=zgp off vs pre old tail 0 kB kB;simp only [Instr.fill,b,h]
 have h1:¬(vs.toArray.size≠size||decide (off+vs.toArray.size>(pre++old++tail).toArray.size))=true:=by
  simp only [OH,jj,On,jG,not_or];omega
 rw [ja h1];congr 1;rw [<-this];simp
theorem zjb (size:Nat):∀ (l:List (Nat×Value)) (m:List (List Value)) (k:Nat) (b a:List Value),zar k l m->(∀ o∈m,o.length=size)->b.length=k*size->a.length=m.length*size->
  Instr.fill (fun i=>some (i*size,size)) (b++a).toArray l=some (b++m.flatten).toArray
 | _,_,k,b,a,.nil,_,_,ho=>by
  have:a=[]:=Oo.1 (by simpa using ho);subst this;simp [Instr.fill]
 | _,_,k,b,a,.cons (v:=v) (vs:=o) (l:=l) (m:=m) hv h,hs,hp,ho=>by
  have j:=hs o (jl ..);have p:a.length=size+m.length*size:=(by rw [ho,jx,O9,By,Nat.add_comm]);have e:a=a.take size++a.drop size:=(jT _ _).symm;rw [e,<-js];rw [zfe (off:=k*size) (size:=size) rfl hv j hp (by rw [jJ];omega)];rw [zjb size l m (k+1) (b++o) (a.drop size) h (fun u q=>hs u (jm _ q)) (by rw [jj,hp,j,O9,By]) (by rw [Oy];omega)];simp
theorem zey {t e size o n:Nat}{parts:Array (Nat×Operand)}{j:List (Nat×Value)}{m:List (List Value)}(hT:ElT C.P t e size o)(hp:parts.toList.map (fun p=>(QB [] E p.2).map fun v=>(p.1,v))=j.map some)(hm:zar 0 j m)(hn:m.length=n)(hs:∀ vs∈m,vs.length=size)
  (W:0<size)(hB:n*size<=16777216)(hG:gd=none)(hN:Nat.blt d C.N=true)(h:∀ b,XO C Q s rest [] ((d,.slice (some ⟨b,0,none⟩) n n)::E) I ((b,.cells m.flatten.toArray e (0,0))::loc)):
  XO C Q s (⟨some d,.buildSlice t n parts,ty,pos,af,gd⟩::rest) [] E I loc:=
 YR hG kF fun a w Z hw=>by
  obtain ⟨ht,i,zz,O,hz,V,hb,a0⟩:=hT
  have key:∀ (l:List (Nat×Operand)) (j:List (Nat×Value)),l.map (fun p=>(QB [] E p.2).map fun v=>(p.1,v))=j.map some->l.map (fun p=>(p.1,a.eval p.2))=j:=by
   intro l
   induction l with
   | nil=>intro j h;cases j<;>simp_all
   | cons p l ih=>
    intro j h
    cases j with
    | nil=>simp at h
    | cons q j=>
     simp only [jF,AV] at h ⊢;refine ⟨?_,ih _ h.2⟩
     cases u:QB [] E p.2 with
     | none=>rw [u] at h;simp at h
     | some v=>
      rw [u] at h;rw [Qp (S:=[]) Z trivial rfl u];simpa using h.1
  have T:(parts.map fun (i,x)=>(i,a.eval x)).toList=j:=by
   rw [<-key _ _ hp];simp
  have hf:∀ A:Array Value,A.size=n*size->Instr.fill (fun Y=>some (Y*size,size)) A j=some m.flatten.toArray:=fun A K=>by
   have:=zjb size j m 0 [] A.toList hm hs kJ (by simp [K,hn]);simpa only [Oi,BD] using this
  have G:¬(2^24<n*size):=kB
  have M:∀ A:Array (Nat×Value),A.toList=j->(Instr.buildSlice t n A).run C.P w= .ok (.slice (some ⟨w.heap.size,0,none⟩) n n) (w.alloc (.cells m.flatten.toArray e (0,0))):=by
   subst V;intro A K;by_cases h0:n=0
   ·subst h0;simp only [Instr.buildSlice,jg,jQ ht,run_sizeOf O,Result.andThen,K];simp [newRow];rw [hf _ kJ];simp
   ·have u:=hf ((Array.range (n*i.size)).map (zz.cells[· % zz.cells.size]!)) kJ;simp only [Instr.buildSlice,jg,jQ ht,run_sizeOf O,Result.andThen,K];have h1:n*i.size≠0:=Nat.mul_ne_zero h0 (Nat.pos_iff_ne_zero.1 W);simp [h1,Yq ⟨i,O,hz⟩,newRow,G,u]
  have J:=M _ T;simp only [execOp,jg,J,Result.andThen,jp,OU];exact h _ _ _ (Z.put hN _) trivial (hw.alloc _)
theorem zpb {t e size a n:Nat}{parts:Array (Nat×Operand)}(l:List (Nat×Value))(m:List (List Value))(u:ElT C.P t e size a)(h:∀ b,XO C Q s rest [] ((d,.slice (some ⟨b,0,none⟩) n n)::E) I ((b,.cells m.flatten.toArray e (0,0))::loc))
  (J:parts.toList.map (fun p=>(QB [] E p.2).map fun v=>(p.1,v))=l.map some:=by exact U)(A:zar 0 l m:=by repeat (first | exact .nil | refine .cons U ?_))(G:m.length=n:=by exact U)(K:(m.all fun j=>j.length==size)=true:=by exact U)
  (i:0<size:=by decide)(o:n*size<=16777216:=by decide)(q:Nat.blt d C.N=true:=by exact U):XO C Q s (⟨some d,.buildSlice t n parts,ty,pos,af,none⟩::rest) [] E I loc:=zey u J A G (fun j M=>by simpa using jk.1 K j M) i o U q h
def PlT (P:Program)(t:Nat)(pl:Array (Nat×Nat))(z:Value):Prop:=YX P t z/\P.underlying t=some (.struct (P.fieldsOf t))/\∀ w,((P.fieldsOf t).mapM fun f=>do pure (f.offset,<-sizeOf f.type):Sem (Array (Nat×Nat))).run P w= .ok pl w
theorem zsb {t:Nat}{A:Array (Nat×Nat)}{G:Value}{parts:Array (Nat×Operand)}{j:List (Nat×Value)}{b:Array Value}(J:PlT C.P t A G)(V:parts.toList.map (fun p=>(QB S E p.2).map fun v=>(p.1,v))=j.map some)(O:Instr.fill (A[·]?) G.cells j=some b):
  Q2 C S E I loc ⟨dst,.build t parts,ty,pos,af,gd⟩ (.agg b):=
 .of kF fun a w K hg M Z=>by
  obtain ⟨Y,W,T⟩:=J
  have key:∀ (l:List (Nat×Operand)) (j:List (Nat×Value)),l.map (fun p=>(QB S E p.2).map fun v=>(p.1,v))=j.map some->l.map (fun p=>(p.1,a.eval p.2))=j:=by
   intro l
   induction l with
   | nil=>intro j h;cases j<;>simp_all
   | cons p l ih=>
    intro j h
    cases j with
    | nil=>simp at h
    | cons q j=>
     simp only [jF,AV] at h ⊢;refine ⟨?_,ih _ h.2⟩
     cases o:QB S E p.2 with
     | none=>rw [o] at h;simp at h
     | some v=>
      rw [o] at h;rw [Qp K hg M o];simpa using h.1
  have u:(parts.map fun (i,x)=>(i,a.eval x)).toList=j:=by
   rw [<-key _ _ V];simp
  simp only [execOp,Instr.build,jg,Yq Y,Result.andThen,jQ W,T,u,O,jp]
def V7:Value->List Value
 | .agg cs=>cs.toList
 | v=>[v]
def zrf:List Value->List Value->List Value
 | _::xs,v::vs=>v::zrf xs vs
 | xs,_=>xs
def Jt:List Value->Nat->List Value->List Value
 | xs,0,vs=>zrf xs vs
 | x::xs,n+1,vs=>x::Jt xs n vs
 | [],_,_=>[]
def zCo:List (Nat×Nat)->Nat->Option (Nat×Nat)
 | [],_=>none
 | p::_,0=>some p
 | _::l,n+1=>zCo l n
def zoy (pl:List (Nat×Nat)):List Value->List (Nat×Value)->Option (List Value)
 | cells,[]=>some cells
 | cells,(i,v)::rest=>match zCo pl i with
  | none=>none
  | some (off,size)=>bif Nat.beq (V7 v).length size&&Nat.ble (off+(V7 v).length) cells.length then zoy pl (Jt cells off (V7 v)) rest else none
theorem zfJ (v:Value):v.cells=(V7 v).toArray:=by cases v<;>simp [Value.cells,V7]
theorem zpy:∀ (l:List (Nat×Nat)) (i:Nat),zCo l i=l[i]?
 | [],i=>by simp [zCo]
 | p::l,0=>rfl
 | p::l,n+1=>by simp [zCo,zpy l n]
theorem zf1:∀ (b i a:List Value),b.length=i.length->zrf (b++a) i=i++a
 | [],[],a,_=>by cases a<;>rfl
 | [],_::_,_,h=>by simp at h
 | _::_,[],_,h=>by simp at h
 | o::b,v::i,a,h=>by simp only [OE,zrf,zf1 b i a (by simpa using h)]
theorem UH:∀ (i b j a:List Value),b.length=j.length->Jt (i++b++a) i.length j=i++j++a
 | [],b,j,a,h=>by simp only [Oi,Ag,Jt];exact zf1 b j a h
 | x::i,b,j,a,h=>by
  simp only [OE,jx,Jt,AV,true_and];exact UH i b j a h
theorem zkk (A:List (Nat×Nat)):∀ (G:List (Nat×Value)) (a j:List Value),zoy A a G=some j->Instr.fill (A.toArray[·]?) a.toArray G=some j.toArray
 | [],a,j,h=>by
  simp only [zoy,Oe] at h;subst h;rfl
 | (i,v)::G,a,j,h=>by
  simp only [zoy,zpy] at h
  cases J:A[i]? with
  | none=>rw [J] at h;cases h
  | some q=>
   obtain ⟨b,size⟩:=q;rw [J] at h;simp only at h
   cases o:(Nat.beq (V7 v).length size&&Nat.ble (b+(V7 v).length) a.length) with
   | false=>rw [o] at h;cases h
   | true=>
    rw [o] at h;simp only [ji] at o;have h1:=Aq o.1;have h2:=AM o.2
    have e:a=a.take b++(a.drop b).take size++a.drop (b+size):=by
     rw [js];have:(a.drop b).take size++a.drop (b+size)=a.drop b:=by rw [<-Aa];exact jT _ _
     rw [this,jT]
    have t:(a.take b).length=b:=(by rw [jJ];omega);have u:((a.drop b).take size).length=size:=by rw [jJ,Oy];omega
    have K:Jt a b (V7 v)=a.take b++V7 v++a.drop (b+size):=by
     have:=UH (a.take b) ((a.drop b).take size) (V7 v) (a.drop (b+size)) (by rw [u];exact h1.symm);rw [<-e,t] at this;exact this
    have p:=zfe (place:=(A.toArray[·]?)) (i:=i) (off:=b) (size:=size) (v:=v) (vs:=V7 v) (pre:=a.take b) (old:=(a.drop b).take size) (tail:=a.drop (b+size)) (l:=G) (by simpa using J) (zfJ v) h1 t u;rw [<-e] at p;rw [p,<-K];exact zkk A G _ j h
theorem QK {t:Nat}{b:List (Nat×Nat)}{h:List Value}{parts:Array (Nat×Operand)}{ps:List (Nat×Value)}(a:List Value)(i:PlT C.P t b.toArray (.agg h.toArray))(l:parts.toList.map (fun p=>(QB S E p.2).map fun v=>(p.1,v))=ps.map some)(j:zoy b h ps=some a):
  Q2 C S E I loc ⟨dst,.build t parts,ty,pos,af,gd⟩ (.agg a.toArray):=zsb i l (zkk b ps h a j)

inductive EqK where
 | int | str | bool
 deriving DecidableEq
def K5:List EqK->List Value->List Value->Option Bool
 | [],[],[]=>some true
 | .int::ks,.int k a::xs,.int k' b::ys=>if k=k' then (match K5 ks xs ys with | some r=>some (a==b&&r) | none=>none) else none
 | .str::ks,.string a::xs,.string b::ys=>match K5 ks xs ys with | some r=>some (zDE a b&&r) | none=>none
 | .bool::ks,.bool a::xs,.bool b::ys=>match K5 ks xs ys with | some r=>some (a==b&&r) | none=>none
 | _,_,_=>none
def zcM (P:Program)(t:TypeId):Option EqK:=match P.underlying t with
 | some (.int _)=>some .int
 | some .string=>some .str
 | some .bool=>some .bool
 | _=>none
def zbL (P:Program):List Field->Nat->Option (List EqK)
 | [],_=>some []
 | f::fs,k=>if f.name≠ "_" /\f.offset=k then (match zcM P f.type,zbL P fs (k+1) with | some q,some l=>some (q::l) | _,_=>none) else none
theorem zaT {P:Program}{w:World}(J:Nat):∀ (K:List Field) (T:List EqK) (k:Nat) (o i h j:List Value) (b:Bool),zbL P K k=some T->o.length=k->h.length=k->K5 T i j=some b->
  (Op.eqFields (J+1) (o++i).toArray (h++j).toArray K).run P w= .ok b w
 | [],T,k,o,i,h,j,b,hf,_,_,he=>by
  simp only [zbL,Oe] at hf;subst hf;cases i<;>cases j<;>simp only [K5] at he<;>first | (cases he;rfl) | cases he
 | f::K,T,k,o,i,h,j,b,hf,hp,hp',he=>by
  simp only [zbL] at hf;split at hf
  ·rename_i Y
   cases t:zcM P f.type with
   | none=>rw [t] at hf;simp at hf
   | some q=>
    cases W:zbL P K (k+1) with
    | none=>rw [t,W] at hf;simp at hf
    | some l=>
     rw [t,W] at hf;simp only [Oe] at hf;subst hf
     have step:∀ (u v:Value) (i j:List Value) (c r:Bool),i=i->(∀ w,(isAgg f.type).run P w= .ok false w)->(∀ w,(Op.equalIn (J+1) f.type u v).run P w= .ok c w)->K5 l i j=some r->
       (Op.eqFields (J+1) (o++u::i).toArray (h++v::j).toArray (f::K)).run P w= .ok (c&&r) w:=by
      intro u v i j c r _ O Z p
      have h1:∀ w,(part f.type (o++u::i).toArray f.offset).run P w= .ok u w:=fun w=>by
       have:(o++u::i).toArray[f.offset]? =some u:=by rw [Y.2,<-hp];simp
       simp only [part,jg,O,Result.andThen,jy,Oa,this,jp]
      have h2:∀ w,(part f.type (h++v::j).toArray f.offset).run P w= .ok v w:=fun w=>by
       have:(h++v::j).toArray[f.offset]? =some v:=by rw [Y.2,<-hp'];simp
       simp only [part,jg,O,Result.andThen,jy,Oa,this,jp]
      simp only [Op.eqFields,jb Y.1,jg,h1,h2,Z,Result.andThen,Sem.run_ite]
      cases c with
      | false=>simp
      | true=>
       have:=zaT (P:=P) (w:=w) J K l (k+1) (o++[u]) i (h++[v]) j r W (by simp [hp]) (by simp [hp']) p;simpa using this
     have A:∀ d,P.underlying f.type=some d->(match d with | .struct _ | .array _ _=>False | _=>True)->∀ w,(isAgg f.type).run P w= .ok false w:=fun d h1 h2 w=>Y2 ⟨d,h1,h2⟩;unfold zcM at t
     cases G:P.underlying f.type with
     | none=>rw [G] at t;simp at t
     | some td=>
      rw [G] at t;cases td<;>simp only [Oe,reduceCtorEq] at t
      case int kk=>
       subst t
       cases i with
       | nil=>simp [K5] at he
       | cons u i=>
        cases j with
        | nil=>cases u<;>simp [K5] at he
        | cons v j=>
         cases u<;>cases v<;>simp only [K5,reduceCtorEq] at he;rename_i k1 a k2 M;split at he
         ·rename_i V
          cases p:K5 l i j with
          | none=>rw [p] at he;simp at he
          | some r=>
           rw [p] at he;simp only [Oe] at he;subst he;subst V;exact step _ _ _ _ _ _ U (A _ G trivial) (fun w=>BM w J f.type k1 kk a M G) p
         ·cases he
      case string=>
       subst t
       cases i with
       | nil=>simp [K5] at he
       | cons u i=>
        cases j with
        | nil=>cases u<;>simp [K5] at he
        | cons v j=>
         cases u<;>cases v<;>simp only [K5,reduceCtorEq] at he;rename_i a M
         cases p:K5 l i j with
         | none=>rw [p] at he;simp at he
         | some r=>
          rw [p] at he;simp only [Oe] at he;subst he;exact step _ _ _ _ _ _ U (A _ G trivial) (fun w=>run_equalIn_string w J f.type a M G) p
      case bool=>
       subst t
       cases i with
       | nil=>simp [K5] at he
       | cons u i=>
        cases j with
        | nil=>cases u<;>simp [K5] at he
        | cons v j=>
         cases u<;>cases v<;>simp only [K5,reduceCtorEq] at he;rename_i a M
         cases p:K5 l i j with
         | none=>rw [p] at he;simp at he
         | some r=>
          rw [p] at he;simp only [Oe] at he;subst he;exact step _ _ _ _ _ _ U (A _ G trivial) (fun w=>B2 w J f.type a M G) p
  ·cases hf
theorem zsx {t u:TypeId}{a b:Bool}(p:QB S E x=some (.bool a))(q:QB S E y=some (.bool b))(o:C.P.underlying t=some .bool):Q2 C S E I loc ⟨dst,.binOp .eql t x y u,ty,pos,af,gd⟩ (.bool (a==b)):=
 .of kF fun A w h hg i _=>by
  have j:∀ T x y t (a b:Bool),(eqGuard T t x y (.bool a) (.bool b)).run C.P w= .ok () w:=(by intros;unfold eqGuard;rename_i T _ _ _ _ _;cases T<;>rfl);have l:(Op.equalIn 10000 t (.bool a) (.bool b)).run C.P w= .ok (a==b) w:=B2 w 9999 t a b o;simp only [execOp,Qp h hg i p,Qp h hg i q,jg,j,jp,Result.andThen,binOp,Op.equal,Op.maxDepth,l]

def zy0 (av:Option Addr)(c k size:Nat):Option Addr:=if c=k then av else av.map (·.add (k*size))
theorem zaF {t e size n c:Nat}{b:Option Addr}{k:IntKind}{i:Int}(u:QB S E x=some (.slice b n c))(A:QB S E y=some (.int k i))(p:SlT C.P t e size)(q:ZH S=true->0<=i/\i<=(c:Int)):
  Q2 C S E I loc ⟨dst,.slice t x none (some y) none,ty,pos,af,gd⟩ (.slice b i.toNat c):=
 .of kF fun a w o hg l _=>by
  obtain ⟨h1,j,h2,h3⟩:=p
  have h:(if c=0 then b else b.map (·.add (0*j.size)))=b:=by
   split
   ·rfl
   ·cases b<;>simp [Addr.add]
  simp only [execOp,Bm,Ow,Qp o hg l u,Qp o hg l A,Instr.sliceAt,Instr.slice,Instr.sliceBounds,Instr.sliceBound,asIntOf,jg,jp,jQ h1,Result.andThen,jb (q l),run_sizeOf h2,h,Nat.sub_zero]
theorem Wu {t e size n c:Nat}{h:Option Addr}{k:IntKind}{i:Int}(q:QB S E x=some (.slice h n c))(u:QB S E y=some (.int k i))(o:SlT C.P t e size)(p:ZH S=true->0<=i/\i<=(n:Int)):
  Q2 C S E I loc ⟨dst,.slice t x (some y) none none,ty,pos,af,gd⟩ (.slice (zy0 h c i.toNat size) (n-i.toNat) (c-i.toNat)):=
 .of kF fun a w l hg b _=>by
  obtain ⟨h1,j,h2,h3⟩:=o;simp only [execOp,Bm,Ow,Qp l hg b q,Qp l hg b u,Instr.sliceAt,Instr.slice,Instr.sliceBounds,Instr.sliceBound,asIntOf,jg,jp,jQ h1,Result.andThen,jb (p b),run_sizeOf h2,h3,zy0]
theorem Sl.take {o:Type}{size:Nat}{a:o->List Value}{j:Option Addr}{n c:Nat}{l:List o}(h:Sl I size a j n c l){k:Nat}(p:k<=n):Sl I size a j k c (l.take k):=
 ⟨by rw [jJ,h.len];omega,jO p h.cap,fun q=>h.base kB,fun i x b=>h.cells i x (by rw [OA] at b;split at b<;>first | exact b | cases b)⟩
theorem zfW {b a c k size:Nat}(h:k<c):zy0 (some ⟨b,a,none⟩) c k size=some ⟨b,a+k*size,none⟩:=by unfold zy0;rw [ja kB,Ow,Y8]
theorem Sl.drop {q:Type}{size:Nat}{b:q->List Value}{a:Option Addr}{n c:Nat}{p:List q}(h:Sl I size b a n c p){k:Nat}(J:k<=n):Sl I size b (zy0 a c k size) (n-k) (c-k) (p.drop k):=by
 have G:=h.cap;by_cases l:k=n
 ·subst l;rw [Br,Or (by rw [h.len];exact jn _)];exact ⟨U,jd _,fun h=>absurd U h,fun k x h=>by simp at h⟩
 ·have t:=h.base kB;have e:zy0 a c k size=some ⟨Ab a,Ao a+k*size,none⟩:=(by rw [t];exact zfW kB);rw [e];refine ⟨by rw [Oy,h.len],kB,fun _=>U,fun i x o j u A=>?_⟩;have:=h.cells (k+i) x (by rw [AF] at o;exact o) j u A;simp only [Ab,Ao];rw [O9,<-Nat.add_assoc] at this;exact this
theorem zkD {l:Type}{a:l->List Value}{size:Nat}(i:∀ x,(a x).length=size):∀ (b:List l) (q:Nat) (u:Value),(b.flatMap a)[q]? =some u->∃ k x j,b[k]? =some x/\(a x)[j]? =some u/\q=k*size+j
 | [],q,u,h=>by simp at h
 | x::b,q,u,h=>by
  rw [jV,Ac] at h;split at h
  ·exact ⟨0,x,q,U,h,by simp⟩
  ·rename_i o;rw [i] at h o;obtain ⟨k,y,j,h1,h2,h3⟩:=zkD i b _ u h;exact ⟨k+1,y,j,by simpa using h1,h2,by rw [O9];omega⟩
theorem ZF {h:Type}{a:h->List Value}{size:Nat}(i:∀ x,(a x).length=size)(b:List h):(b.flatMap a).length=b.length*size:=by
 induction b with
 | nil=>simp
 | cons x b ih=>rw [jV,jj,i,ih,jx,O9];omega
theorem Sl.src {o:Type}{size:Nat}{a:o->List Value}{i:Option Addr}{n c:Nat}{b:List o}(h:Sl I size a i n c b)(l:∀ x,(a x).length=size):Src I loc i n size (b.flatMap a):=
 ⟨by rw [ZF l,h.len],h.base,fun q u p=>by
  obtain ⟨k,x,j,h1,h2,h3⟩:=zkD l b q u p;rw [h3,<-Nat.add_assoc]
  exact (h.cells k x h1 j u h2).any⟩
theorem OwnS.freeze {W:Type}{e size:Nat}{h:W->List Value}{v:Value}{n:Nat}{i:List W}(A:OwnS e size v n (i.flatMap h) L)(l:∀ x,(h x).length=size)(M:0<size){g:World}{H:Qu}{w:World}(O:St g I H (L++R) w):
  ∃ D T c,HLe I D/\St g D H R w/\v= .slice T n c/\Sl D size h T n c i:=by
 have K:i.length=n:=by
  have:=A.1;rw [ZF l] at this;exact AN M this
 rcases A.2 with ⟨rfl,rfl,rfl⟩ | ⟨b,c,t,rfl,rfl,Y,_,G,a⟩
 ·have:i=[]:=Oo.1 K;subst this;exact ⟨I,none,0,zJH _,O,U,.nil⟩
 ·obtain ⟨h1,h2,h3⟩:=O.freeze (b:=b) (o:=.cells t e (0,0)) Zb.here;refine ⟨_,_,_,h2,h1,U,K,Y,fun _=>U,fun k x p j u V=>.imm h3 ?_⟩;rw [Ve];simp only [Ao,Oj];have J:k<i.length:=(jc.1 p).1;have Z:j<size:=by rw [<-l x];exact (jc.1 V).1
  have q:(i.flatMap h)[k*size+j]? =some u:=by
   clear a A G O h1 h2 h3 K
   induction i generalizing k with
   | nil=>simp at p
   | cons y ys ih=>
    rw [jV,Ac]
    cases k with
    | zero=>
     simp only [B8,Oj];rw [jb (by rw [l];exact Z)];simp only [Bv,Oe] at p;rw [p];exact V
    | succ k=>
     rw [ja (by rw [l,O9];omega),l];have:=ih k (by simpa using p) (by simpa using J);rw [show (k+1)*size+j-size=k*size+j from by rw [O9];omega];exact this
  rw [<-a,OA] at q;split at q
  ·simpa using q
  ·cases q
end
def Q4 {α β:Type}(ek:α->Value)(ev:β->Value)(k:Nat):List (α×β)->List MapEntry
 | []=>[]
 | p::m=>{key:=ek p.1,val:=ev p.2,born:=k}::Q4 ek ev (k+1) m
def Yg {α β:Type}(ek:α->Value)(ev:β->Value)(m:List (α×β)):Obj:=.map (Q4 ek ev 0 m).toArray m.length
def ZR {α β:Type}[DecidableEq α]:List (α×β)->α->Option β
 | [],_=>none
 | p::m,a=>if p.1=a then some p.2 else ZR m a
def Vd {α β:Type}[DecidableEq α]:List (α×β)->α->β->List (α×β)
 | [],a,b=>[(a,b)]
 | p::m,a,b=>if p.1=a then (a,b)::m else p::Vd m a b
def X5 {α β:Type}[DecidableEq α]:List (α×β)->α->Nat->Option (Nat×β)
 | [],_,_=>none
 | p::m,a,k=>if p.1=a then some (k,p.2) else X5 m a (k+1)
structure Ke {α:Type}[DecidableEq α](P:Program)(kt:Nat)(ek:α->Value):Prop where
 chk:∀ b a w,(Instr.checkKey b 10000 kt (ek a)).run P w= .ok () w
 find:∀ {β:Type} (ev:β->Value) (m:List (α×β)) (a:α) (w:World),(Instr.findKey kt (ek a) (Q4 ek ev 0 m)).run P w= .ok ((X5 m a 0).map fun p=>(p.1,ev p.2)) w
 bits:∀ a,Instr.sameBits 10000 (ek a) (ek a)=true
section
variable {g l:Type} [DecidableEq g] {f:g->Value} {j:l->Value}
omit [DecidableEq g] in
theorem zgJ {d:TypeDesc} (o:∀ a b,Instr.sameNow d (f a) (f b)=none) (a:g) (m:List (g×l)) (k i:Nat) (h:m≠[]):Instr.findNow d (f a) (Q4 f j k m) i=none:=by
 cases m with
 | nil=>exact absurd U h
 | cons p m=>simp [Q4,Instr.findNow,o]
theorem zcE {o:TypeDesc}(d:∀ a b,Instr.sameNow o (f a) (f b)=some (decide (a=b)))(a:g):∀ (m:List (g×l)) (k i:Nat),Instr.findNow o (f a) (Q4 f j k m) i=some ((X5 m a i).map fun p=>(p.1,j p.2))
 | [],_,_=>rfl
 | p::m,k,i=>by
  simp only [Q4,Instr.findNow,d,X5];by_cases h:p.1=a
  ·simp [h]
  ·have q:¬a=p.1:=fun e=>h e.symm;simp only [q,decide_false,ja h];exact zcE d a m (k+1) (i+1)
theorem Xs {P:Program}{o:Nat}(d:∀ a b w,(Op.equal o (f a) (f b)).run P w= .ok (decide (a=b)) w)(a:g)(w:World):∀ (m:List (g×l)) (k i:Nat),(Instr.findAsking o (f a) (Q4 f j k m) i).run P w= .ok ((X5 m a i).map fun p=>(p.1,j p.2)) w
 | [],_,_=>rfl
 | p::m,k,i=>by
  simp only [Q4,Instr.findAsking,jg,d,Result.andThen,X5];by_cases h:p.1=a
  ·simp [h]
  ·have q:¬a=p.1:=fun e=>h e.symm;simp only [q,decide_false,ja h,jy,Oa];exact Xs d a w m (k+1) (i+1)
theorem Ke.of_now {P:Program}{i:Nat}{d:TypeDesc}(q:P.underlying i=some d)(p:∀ b a w,(Instr.checkKey b 10000 i (f a)).run P w= .ok () w)(o:∀ a,Instr.sameBits 10000 (f a) (f a)=true)
  (h:∀ a b,Instr.sameNow d (f a) (f b)=some (decide (a=b))):Ke P i f:=
 ⟨p,fun j m a w=>by simp only [Instr.findKey,jg,jQ q,Result.andThen,zcE h,jp],o⟩
theorem Ke.of_asking {P:Program}{h:Nat}{d:TypeDesc}(t:P.underlying h=some d)(s:∀ b a w,(Instr.checkKey b 10000 h (f a)).run P w= .ok () w)(q:∀ a,Instr.sameBits 10000 (f a) (f a)=true)
  (o:∀ a b,Instr.sameNow d (f a) (f b)=none)(i:∀ a b w,(Op.equal h (f a) (f b)).run P w= .ok (decide (a=b)) w):Ke P h f:=
 ⟨s,fun j m a w=>by
  simp only [Instr.findKey,jg,jQ t,Result.andThen]
  cases m with
  | nil=>rfl
  | cons p m=>rw [zgJ o a (p::m) 0 0 kJ];exact Xs i a w (p::m) 0 0,q⟩
end
variable{kt:Nat}
theorem zzJ (h:P.underlying kt=some (.int .i64)):Ke (α:=Int) P kt (.int .i64):=
 .of_now h (fun b a w=>by
  have key:∀ q,(Instr.checkKey b (q+1) kt (.int .i64 a)).run P w= .ok () w:=fun q=>by
   simp only [Instr.checkKey,jg,jQ h,Result.andThen];rfl
  exact key 9999) (fun a=>by simp [Instr.sameBits]) (fun a b=>by simp only [Instr.sameNow,OB];rfl)
section
variable {d f:Type} [DecidableEq d] {ek:d->Value} {ev:f->Value}
theorem Ui (m:List (d×f))(a:d):∀ k,(X5 m a k).map (·.2)=ZR m a:=by
 induction m with
 | nil=>intro k;rfl
 | cons p m ih=>
  intro k;simp only [X5,ZR];split
  ·rfl
  ·exact ih (k+1)
omit [DecidableEq d] in
omit [DecidableEq d] in
theorem zaM (m:List (d×f)) (p:d×f):∀ k,Q4 ek ev k (m++[p])=Q4 ek ev k m++[{key:=ek p.1,val:=ev p.2,born:=k+m.length}]:=by
 induction m with
 | nil=>intro k;rfl
 | cons q m ih=>intro k;simp only [OE,Q4,ih,jx];rw [show k+1+m.length=k+(m.length+1) from by omega]
theorem zbD (m:List (d×f))(a:d)(b:f):∀ k,X5 m a k=none->Vd m a b=m++[(a,b)]:=by
 induction m with
 | nil=>intro k _;rfl
 | cons p m ih=>
  intro k h;simp only [X5] at h;split at h
  ·cases h
  ·rename_i i;simp only [Vd,ja i,OE,ih _ h]
theorem Wi (m:List (d×f))(a:d)(b:f):∀ (k i:Nat) (c:f),X5 m a k=some (k+i,c)->(∃ p,m[i]? =some p/\p.1=a)/\(Vd m a b).length=m.length/\
  Q4 ek ev k (Vd m a b)=(Q4 ek ev k m).modify i fun e=>{e with key:=ek a,val:=ev b}:=by
 induction m with
 | nil=>intro k i c h;cases h
 | cons p m ih=>
  intro k i c h;simp only [X5] at h;split at h
  ·rename_i o;have:i=0:=by have:=(Ob h);simp only [AO] at this;omega
   subst this;exact ⟨⟨p,U,o⟩,by simp [Vd,o],by simp [Vd,o,Q4]⟩
  ·rename_i l
   cases i with
   | zero=>
    exfalso
    have key:∀ (m:List (d×f)) (k j:Nat) (c:f),X5 m a k=some (j,c)->k<=j:=by
     intro m
     induction m with
     | nil=>intro k j c h;cases h
     | cons p m ih=>
      intro k j c h;simp only [X5] at h;split at h
      ·have:=(Ob h);simp only [AO] at this;omega
      ·have:=ih (k+1) j c h;omega
    have:=key m (k+1) (k+0) c h;omega
   | succ i=>
    obtain ⟨h1,h2,h3⟩:=ih (k+1) i c (by rw [h];congr 2;omega);refine ⟨by simpa using h1,by simp [Vd,l,h2],?_⟩;simp only [Vd,ja l,Q4,h3];simp
end
section
variable {C:Cx} {Q:Exit->Act->World->Prop} {E B:Env} {I D:Qu} {f j L R:Loc} {s:Array Oper} {rest:List Oper} {S:GS}
variable {dst:Option Tmp} {d:Nat} {ty:TypeId} {pos:String} {af:Array Edge} {gd:Option (Nat×Bool)} {x y z:Operand}
variable {u A:Type} [DecidableEq u] {ek:u->Value} {ev:A->Value} {m:List (u×A)} {a:u}
theorem YL {P:Program}{w:World}{r:Nat}{es:Array MapEntry}{c:Nat}(h:w.heap[r]? =some (.map es c)):(getObj r).run P w= .ok (.map es c) w:=by simp [getObj,Sem.run,h]
theorem VW {P:Program}{w:World}{r:Nat}{b:Array MapEntry}{c:Nat}(o:Obj)(h:w.heap[r]? =some (.map b c)):(setObj r o).run P w= .ok () (w.putObj r o):=by simp [setObj,Sem.run,h,World.putObj]
def MpT (P:Program)(t k e:Nat)(z:Value):Prop:=P.underlying t=some (.map k e)/\YX P e z
theorem zdj {P:Program}{w:World}{t k e r:Nat}{b:Value}(i:MpT P t k e b)(h:Ke P k ek)(q:w.heap[r]? =some (Yg ek ev m))(ok:Bool):
  (Instr.lookup t (.map (some r)) (ek a) ok).run P w= .ok (if ok then .tuple #[((ZR m a).map ev).getD b,.bool (ZR m a).isSome] else ((ZR m a).map ev).getD b) w:=by
 have o:=h.find ev m a w;have hg:=Ui m a 0;simp only [Instr.lookup,jg,jQ i.1,Result.andThen,YL q,jp,h.chk];rw [o]
 cases l:X5 m a 0 with
 | none=>rw [l] at hg;rw [<-hg];cases ok<;>simp [Yq i.2]
 | some p=>rw [l] at hg;rw [<-hg];cases ok<;>simp
theorem UZ {t k e r:Nat}{i:Value}(o:MpT C.P t k e i)(l:Ke C.P k ek)(F:QB S E x=some (.map (some r)))(G:QB S E y=some (ek a))(p:ZH S=true->Mem I f r (Yg ek ev m)):
  Q2 C S E I f ⟨dst,.lookup t x y false,ty,pos,af,gd⟩ (((ZR m a).map ev).getD i):=
 .of kF fun J w h hg b q=>by
  have:=zdj (P:=C.P) (a:=a) o l ((p b).heap q) false;simp only [execOp,Qp h hg b F,Qp h hg b G,jg,this,Result.andThen,jp,jy,Oa]
theorem W5 {t k e r:Nat}{i:Value}(o:MpT C.P t k e i)(l:Ke C.P k ek)(F:QB S E x=some (.map (some r)))(G:QB S E y=some (ek a))(p:ZH S=true->Mem I f r (Yg ek ev m)):
  Q2 C S E I f ⟨dst,.lookup t x y true,ty,pos,af,gd⟩ (.tuple #[((ZR m a).map ev).getD i,.bool (ZR m a).isSome]):=
 .of kF fun J w h hg b q=>by
  have:=zdj (P:=C.P) (a:=a) o l ((p b).heap q) true;simp only [execOp,Qp h hg b F,Qp h hg b G,jg,this,Result.andThen,jp,OB]
theorem Y3 {t k e r:Nat}{m:List (u×Bool)}(l:MpT C.P t k e (.bool false))(i:Ke C.P k ek)(p:QB S E x=some (.map (some r)))(q:QB S E y=some (ek a))(o:ZH S=true->Mem I f r (Yg ek .bool m)):
  Q2 C S E I f ⟨dst,.lookup t x y false,ty,pos,af,gd⟩ (.bool ((ZR m a).getD false)):=by
 have:=UZ (C:=C) (dst:=dst) (ty:=ty) (pos:=pos) (af:=af) (gd:=gd) l i p q o
 cases h:ZR m a with
 | none=>rw [h] at this;exact this
 | some b=>rw [h] at this;exact this
theorem Xn {P:Program}{g:World}{H:Qu}{w:World}{t k e r:Nat}{V:Value}(O:MpT P t k e V)(o:Ke P k ek)(b:A)(K:St g I H f w)(J:Upd f r (Yg ek ev m) (Yg ek ev (Vd m a b)) j):
  ∃ M,(Instr.mapUpdate t (.map (some r)) (ek a) (ev b)).run P w= .ok () M/\St g I H j M:=by
 have F:=K.own _ _ J.mem;have T:=o.find ev m a w;refine ⟨w.putObj r (Yg ek ev (Vd m a b)),?_,K.putObj J⟩;simp only [Instr.mapUpdate,jg,jQ O.1,Result.andThen,YL F,o.chk];rw [T]
 cases G:X5 m a 0 with
 | none=>
  have h1:=zbD m a b 0 G;simp only [Bm];rw [VW _ F,h1];congr 2;simp [Yg,zaM]
 | some p=>
  obtain ⟨i,c⟩:=p;obtain ⟨⟨q,h1,h2⟩,h3,h4⟩:=Wi (ek:=ek) (ev:=ev) m a b 0 i c (by rw [G];simp)
  have l:(((Q4 ek ev 0 m).toArray[i]?).map (·.key)).getD (ek a)=ek a:=by
   have key:∀ (m:List (u×A)) (k i:Nat) (q:u×A),m[i]? =some q->((Q4 ek ev k m)[i]?).map (·.key)=some (ek q.1):=by
    intro m
    induction m with
    | nil=>intro k i q h;simp at h
    | cons p m ih=>
     intro k i q h
     cases i with
     | zero=>simp at h;subst h;simp [Q4]
     | succ i=>simp only [Q4,OZ];exact ih _ _ _ (by simpa using h)
   have:=key m 0 i q h1;simp only [AK];rw [this,h2];rfl
  simp only [Ow,jg,l,Instr.keyThatStays,o.bits,OB,jp,Result.andThen];rw [VW _ F];congr 2;simp only [Yg,h3,h4];congr 1;simp
theorem Zd {t k e r:Nat}{T:Value}(b:A)(p:MpT C.P t k e T)(o:Ke C.P k ek)(K:QB [] E x=some (.map (some r)))(M:QB [] E y=some (ek a))(O:QB [] E z=some (ev b))(l:gd=none)
  (G:Upd f r (Yg ek ev m) (Yg ek ev (Vd m a b)) j)(h:XO C Q s rest [] E I j):XO C Q s (⟨none,.mapUpdate t x y z,ty,pos,af,gd⟩::rest) [] E I f:=
 YR l kF fun V w i J=>by
  obtain ⟨W,q,F⟩:=Xn (P:=C.P) (ek:=ek) (ev:=ev) p o b J G;simp only [execOp,Qp (S:=[]) i trivial rfl K,Qp (S:=[]) i trivial rfl M,Qp (S:=[]) i trivial rfl O,jg,q,Result.andThen,jp,AS];exact h _ _ i trivial F
theorem Wa {t k e r:Nat}{T:Value}(b:A)(p:MpT C.P t k e T)(o:Ke C.P k ek)(K:QB [] E x=some (.map (some r)))(M:QB [] E y=some (ek a))(O:QB [] E z=some (ev b))(l:gd=none)
  (G:Upd f r (Yg ek ev m) (Yg ek ev (Vd m a b)) j)(h:XO C Q s rest [] E I j):XO C Q s (⟨none,.insert t x y z,ty,pos,af,gd⟩::rest) [] E I f:=
 YR l kF fun V w i J=>by
  obtain ⟨W,q,F⟩:=Xn (P:=C.P) (ek:=ek) (ev:=ev) p o b J G;simp only [execOp,Qp (S:=[]) i trivial rfl K,Qp (S:=[]) i trivial rfl M,Qp (S:=[]) i trivial rfl O,jg,q,Result.andThen,jp,AS];exact h _ _ i trivial F
theorem Yb {t:Nat}(b:gd=none)(i:Nat.blt d C.N=true)(h:∀ r,XO C Q s rest [] ((d,.map (some r))::E) I ((r,.map #[] 0)::f)):XO C Q s (⟨some d,.makeMap t none,ty,pos,af,gd⟩::rest) [] E I f:=
 YR b kF fun a w l o=>by
  simp only [execOp,Bm,Instr.makeMap,jg,BB,Result.andThen,jp,OU];exact h _ _ _ (l.put i _) trivial (o.alloc _)

def VS (r n:Nat)(seen:List Nat):Obj:=.mapIter (some r) n seen.toArray n
theorem WR {P:Program}{w:World}{r:Nat}{o:Obj}(h:w.heap[r]? =some o)(b:o.isCells=false):(getObj r).run P w= .ok o w:=by cases o<;>simp [Obj.isCells] at b<;>simp [getObj,Sem.run,h]
omit [DecidableEq u] in
theorem KT {t k e r:Nat} {K:Value} (J:QB [] E x=some (.map (some r))) (q:MpT C.P t k e K) (o:gd=none) (p:Nat.blt d C.N=true) (G:Mem I f r (Yg ek ev m))
  (h:∀ b,XO C Q s rest [] ((d,.pointer (some ⟨b,0,none⟩))::E) I ((b,VS r m.length [])::f)):XO C Q s (⟨some d,.range t x,ty,pos,af,gd⟩::rest) [] E I f:=
 YR o kF fun a w i l=>by
  have F:=G.heap l;simp only [execOp,Qp (S:=[]) i trivial rfl J,Instr.range,jg,jQ q.1,Result.andThen,YL F,jp,BB,OU];exact h _ _ _ (i.put p _) trivial (l.alloc _)
omit [DecidableEq u] in
theorem zbJ (m:List (u×A)):∀ (k:Nat) (e:MapEntry),e∈Q4 ek ev k m↔ ∃ i p,m[i]? =some p/\e= {key:=ek p.1,val:=ev p.2,born:=k+i}:=by
 induction m with
 | nil=>intro k e;simp [Q4]
 | cons q m ih=>
  intro k e;simp only [Q4,jo,ih];constructor
  ·rintro (rfl | ⟨i,p,h,rfl⟩)
   ·exact ⟨0,q,U,U⟩
   ·exact ⟨i+1,p,by simpa using h,by congr 1;omega⟩
  ·rintro ⟨i,p,h,rfl⟩
   cases i with
   | zero=>simp at h;subst h;exact .inl U
   | succ i=>exact .inr ⟨i,p,by simpa using h,by congr 1;omega⟩
omit [DecidableEq u] in
theorem zq0 {P:Program} {g:World} {H:Qu} {w:World} {r b:Nat} {h:List Nat} (hw:St g I H f w) (hb:(b,VS r m.length h)∈f) (hm:Mem I f r (Yg ek ev m)):
  (∃ w',(Instr.next (.pointer (some ⟨b,0,none⟩)) false ty).run P w= .ok (.tuple #[.bool false]) w'/\(∀ i p,m[i]? =some p->i∈h)/\St g I H f w')\/
  (∃ i p w',m[i]? =some p/\i∉h/\(Instr.next (.pointer (some ⟨b,0,none⟩)) false ty).run P w= .ok (.tuple #[.bool true,ek p.1,ev p.2]) w'/\
   ∀ j,Upd f b (VS r m.length h) (VS r m.length (h++[i])) j->St g I H j w'):=by
 have hh:=hm.heap hw;have hi:=hw.own _ _ hb;let F:=Q4 ek ev 0 m
 have W:∀ e∈F,∃ i p,m[i]? =some p/\e= {key:=ek p.1,val:=ev p.2,born:=i}:=fun e J=>by
  obtain ⟨i,p,h1,h2⟩:=(zbJ m 0 e).1 J;exact ⟨i,p,h1,by rw [h2];simp⟩
 have K:∀ e∈F,e.born<m.length:=fun e J=>by
  obtain ⟨i,p,h1,rfl⟩:=W e J;exact (jc.1 h1).1
 have G:(!h.toArray.isEmpty&& !F.toArray.isEmpty&&F.toArray.all (fun e=>decide (e.born>=m.length)))=false:=by
  cases hn:F with
  | nil=>simp
  | cons e l=>
   have:=K e (by rw [hn];exact jl ..);have a6:¬e.born>=m.length:=kB;simp [a6]
 let left:=F.filter fun e=> !h.contains e.born;have a0:(F.toArray.filter fun e=> !h.toArray.contains e.born)=left.toArray:=by simp [left]
 have V:left.filter (fun e=>decide (e.born<m.length))=left:=by
  apply Bg.2;intro e J;have:=K e (jP.1 J).1;simpa using this
 have M:left.filter (fun e=>decide (e.born>=m.length))=[]:=by
  apply AD.2;intro e J;have:=K e (jP.1 J).1;simp;omega
 have b3:h.toArray.isEmpty=h.isEmpty:=(by simp);unfold Instr.next
 simp only [jg,WR hi rfl,Result.andThen,VS];rw [YL (es:=F.toArray) (c:=m.length) hh];simp only [G,jy,Oa];rw [a0];have e1:(left.toArray.filter fun x=>decide (x.born<m.length))=left.toArray:=(by rw [List.filter_toArray,V]);have e2:(left.toArray.filter fun x=>decide (x.born>=m.length))= #[]:=(by rw [List.filter_toArray,M]);rw [e1,e2];obtain ⟨o,t⟩:∃ o:Array (Option MapEntry),(if left.toArray.isEmpty=true then #[none] else #[])++Array.map some (left.toArray++ #[])=o:=⟨_,U⟩;rw [t]
 have b2:1<=o.size:=by
  rw [<-t]
  cases left with
  | nil=>simp
  | cons e l=>simp
 have a2:∀ q,q<o.size->(left=[]/\o[q]? =some none)\/∃ e,e∈left/\o[q]? =some (some e):=by
  intro q T;rw [<-t] at T ⊢
  cases hl:left with
  | nil=>rw [hl] at T;simp at T;exact .inl ⟨U,by simp [T]⟩
  | cons e l=>
   rw [hl] at T;right;have a8:q<(e::l).length:=(by simpa using T);refine ⟨(e::l)[q],O8 _,?_⟩;have:((e::l).map some)[q]? =some (some (e::l)[q]):=by rw [jB,jf a8];rfl
   simpa using this
 have a3:∃ q O,(choose (.mapNext o.size)).run P w= .ok q O/\q<o.size/\O.heap=w.heap/\St g I H f O:=by
  rw [run_choose];split
  ·exact ⟨0,w,U,kB,U,hw⟩
  ·exact ⟨_,_,U,A8 _ kB,U,hw.drew⟩
 obtain ⟨q,O,a9,b0,b1,a1⟩:=a3;simp only [jg,a9,Result.andThen];rcases a2 q b0 with ⟨h1,h2⟩ | ⟨e,h1,h2⟩
 ·refine .inl ⟨O,by simp only [h2,jp],fun i p hp=>?_,a1⟩;have a5:({key:=ek p.1,val:=ev p.2,born:=i}:MapEntry)∈F:=(zbJ m 0 _).2 ⟨i,p,hp,by simp⟩;by_cases Y:i∈h
  ·exact Y
  ·have:({key:=ek p.1,val:=ev p.2,born:=i}:MapEntry)∈left:=jP.2 ⟨a5,by simpa using Y⟩;rw [h1] at this;cases this
 ·obtain ⟨Z,a7⟩:=jP.1 h1;obtain ⟨i,p,hp,rfl⟩:=W e Z;have a4:O.heap[b]? =some (.mapIter (some r) m.length h.toArray m.length):=(by rw [b1];exact hi);refine .inr ⟨i,p,O.putObj b (VS r m.length (h++[i])),hp,by simpa using a7,?_,fun j hu=>a1.putObj hu⟩;simp only [h2];simp [setObj,Sem.run,a4,World.putObj,VS]
omit [DecidableEq u] in
theorem zAN {r b:Nat} {h:List Nat} (M:QB [] E x=some (.pointer (some ⟨b,0,none⟩))) (t:gd=none) (q:Nat.blt d C.N=true) (G:Mem I f r (Yg ek ev m)) (F:(b,VS r m.length h)∈f)
  (h1:(∀ i p,m[i]? =some p->i∈h)->XO C Q s rest [] ((d,.tuple #[.bool false])::E) I f)
  (h2:∀ i p,m[i]? =some p->i∉h->∃ j,Upd f b (VS r m.length h) (VS r m.length (h++[i])) j/\XO C Q s rest [] ((d,.tuple #[.bool true,ek p.1,ev p.2])::E) I j):
  XO C Q s (⟨some d,.next x false,ty,pos,af,gd⟩::rest) [] E I f:=
 YR t kF fun a w l K=>by
  simp only [execOp,Qp (S:=[]) l trivial rfl M,jg];rcases zq0 (P:=C.P) (ty:=ty) K F G with ⟨O,o,h3,h4⟩ | ⟨i,p,O,h3,h4,o,h5⟩
  ·rw [o];exact h1 h3 _ _ (l.put q _) trivial h4
  ·rw [o];obtain ⟨j,J,h6⟩:=h2 i p h3 h4;exact h6 _ _ (l.put q _) trivial (h5 j J)
omit [DecidableEq u] in
theorem KX {r b:Nat} {seen:List Nat} {i:Nat} {p:u×A} (W:QB S E x=some (.pointer (some ⟨b,0,none⟩))) (T:Mem I f r (Yg ek ev m)) (J:Mem I f b (VS r m.length (seen++[i]))) (V:m[i]? =some p):
  Q2 C S E I f ⟨dst,.entry x,ty,pos,af,gd⟩ (.tuple #[ek p.1,ev p.2]):=
 .of kF fun a w G hg K F=>by
  have M:=T.heap F;have O:=J.heap F
  have o:(Q4 ek ev 0 m).toArray.find? (fun e=>e.born==i)=some {key:=ek p.1,val:=ev p.2,born:=i}:=by
   rw [List.find?_toArray]
   have key:∀ (m:List (u×A)) (k i:Nat) (p:u×A),m[i]? =some p->(Q4 ek ev k m).find? (fun e=>e.born==k+i)=some {key:=ek p.1,val:=ev p.2,born:=k+i}:=by
    intro m
    induction m with
    | nil=>intro k i p h;simp at h
    | cons q m ih=>
     intro k i p h
     cases i with
     | zero=>simp at h;subst h;simp [Q4]
     | succ i=>
      simp only [Q4,OX];have t:(k==k+(i+1))=false:=(by simp);rw [t];have:=ih (k+1) i p (by simpa using h);rw [show k+1+i=k+(i+1) from by omega] at this;exact this
   have:=key m 0 i p V;simpa using this
  have l:(seen++[i]).toArray.back?=some i:=(by simp);simp only [execOp,Qp G hg K W,Instr.entry,jg,WR O rfl,Result.andThen,VS,l];rw [YL M];simp [o]
end
section
variable {g:World} {I f H:Qu} {d a L K A B:Loc} {w i:World}
theorem XR {b:Nat}(h:JH H L b=none):H b=none/\∀ o,(b,o)∉L:=by
 induction L with
 | nil=>exact ⟨h,fun o q=>by cases q⟩
 | cons x l ih=>
  obtain ⟨c,p⟩:=x;simp only [JH] at h;split at h
  ·cases h
  ·rename_i j;obtain ⟨h1,h2⟩:=ih h;exact ⟨h1,fun o q=>(jo.1 q).elim (fun e=>j (by cases e;rfl)) (h2 o)⟩
theorem St.swap (h:St g I (JH H L) K w)(u:(L.map (·.1)).Nodup)(t:∀ b o,(b,o)∈L->H b=none):St g I (JH H K) L w:=by
 have hL:∀ b o,(b,o)∈L->JH H L b=some o:=fun b o j=>ziX u j
 have s:∀ b o,H b=some o->JH H L b=some o:=fun b o e=>by
  rw [zbl (fun p q=>by rw [t b p q] at e;cases e)];exact e
 refine ⟨h.os,h.tape,h.out,h.size,h.imm,?_,fun b o j=>h.frm b o (hL b o j),?_,?_,u⟩
 ·intro b o e;rcases WA e with j | e
  ·exact h.own b o j
  ·exact h.frm b o (s b o e)
 ·intro b
  cases e:JH H K b with
  | none=>exact .inr U
  | some o=>
   rcases WA e with j | e
   ·exact .inl (h.sepIL b o j).1
   ·rcases h.sepIH b with l | l
    ·exact .inl l
    ·rw [s b o e] at l;cases l
 ·intro b o j;refine ⟨?_,?_⟩
  ·rcases h.sepIH b with l | l
   ·exact l
   ·rw [hL b o j] at l;cases l
  ·rw [zbl (fun p q=>by have:=(h.sepIL b p q).2;rw [hL b o j] at this;cases this)];exact t b o j
theorem Q6:YS (A++B) A B:=by
 induction A with
 | nil=>exact .nil
 | cons x l ih=>obtain ⟨b,o⟩:=x;exact .cons .here ih
theorem St.hideR (h:St g I H (A++B) w):St g I (JH H B) A w:=h.split Q6
theorem QN {b:Nat}{o j:Obj}(h:Upd B b o j K):Upd (A++B) b o j (A++K):=by
 induction A with
 | nil=>exact h
 | cons x l ih=>exact .there ih
end
def W9 (P:Program)(g:World)(l:Nat)(args:List Value)(I H:Qu)(Post:Bool->Qu->Qu->Prop):Prop:=
 ∀ loc W,St g I H loc W->∃ fn tmps assign body,(Instr.yield l args.toArray).run P W= .ok (.round l fn tmps assign body) W/\
  RoundIn Fence.wide 0 P l fn tmps assign body W fun e W'=>∃ b I' H',e= .returned (.bool b)/\HLe I I'/\St g I' H' loc W'/\Post b I' H'
def zGo {α:Type}(P:Program)(f:FuncId)(cap:List Value)(I:Qu)(enc:α->Value)(xs:List α):Prop:=
 ∀ g l (J Y:List α->Qu->Qu->Prop),
  (∀ pre x I' H',pre++[x]<+:xs->HLe I I'->J pre I' H'->W9 P g l [enc x] I' H' fun b I2 H2=>if b then J (pre++[x]) I2 H2 else Y (pre++[x]) I2 H2)->
  ∀ I0 H w,HLe I I0->J [] I0 H->St g I0 H [] w->Calls P f ((.func (.yield l) #[] #[]:Value)::cap).toArray w fun e w'=>∃ v I' H',e= .returned v/\HLe I0 I'/\St g I' H' [] w'/\(J xs I' H'\/∃ pre,pre<+:xs/\Y pre I' H')
def zID {α:Type}(P:Program)(f:FuncId)(cap:List Value)(I:Qu)(K:Loc)(enc:α->Value)(xs:List α):Prop:=
 ∀ g l (J Y:List α->Qu->Qu->Prop),
  (∀ pre x I' H',pre++[x]<+:xs->HLe I I'->J pre I' H'->W9 P g l [enc x] I' H' fun b I2 H2=>if b then J (pre++[x]) I2 H2 else Y (pre++[x]) I2 H2)->
  ∀ I0 H w,HLe I I0->J [] I0 H->St g I0 H K w->Calls P f ((.func (.yield l) #[] #[]:Value)::cap).toArray w fun e w'=>∃ v I' H',e= .returned v/\HLe I0 I'/\St g I' H' [] w'/\(J xs I' H'\/∃ pre,pre<+:xs/\Y pre I' H')
variable{α:Type}{cap:List Value}{xs:List α}
theorem zGo.mono {p:Qu}{j:α->Value}(h:zGo P f cap I j xs)(B:HLe I p):zGo P f cap p j xs:=
 fun g l J Y E y H w h0 C F=>h g l (fun a d i=>HLe p d/\J a d i) (fun a d i=>HLe p d/\Y a d i)
  (fun a x d i t _ ⟨h2,h3⟩ loc W D=>by
   obtain ⟨fn,o,q,A,G,hR⟩:=E a x d i t h2 h3 loc W D;refine ⟨fn,o,q,A,G,hR.mono ?_⟩;rintro e K ⟨b,z,u,s,h4,h5,h6⟩;refine ⟨b,z,u,s,h4,h5,?_⟩
   cases b with
   | true=>exact ⟨h2.trans h4,h6⟩
   | false=>exact ⟨h2.trans h4,h6⟩) y H w (B.trans h0) ⟨h0,C⟩ F |>.mono fun e M ⟨v,d,i,s,h1,h2,h3⟩=>⟨v,d,i,s,h1,h2,h3.elim (fun h=>.inl h.2) (fun ⟨a,t,h⟩=>.inr ⟨a,t,h.2⟩)⟩
def zdx {α:Type}(g:World)(H:Qu)(Jc:List α->Qu->Loc->Prop)(Y:Code->List α->Qu->Loc->Prop)(pre:List α):Exit->Act->World->Prop
 | .normal,_,w=>∃ I loc,Jc pre I loc/\St g I H loc w
 | .ret,_,w=>∃ I loc,Y .ret pre I loc/\St g I H loc w
 | .exit id,_,w=>∃ I loc,Y (.exit id) pre I loc/\St g I H loc w
 | _,_,_=>False
section
variable {z:Type} {C:Cx} {Q:Exit->Act->World->Prop} {E O:Env} {I s:Qu} {i u L R:Loc} {A:Array Oper} {rest:List Oper} {S:GS}
variable {B:List z->Qu->Loc->Prop} {G:Code->List z->Qu->Loc->Prop} {j:List z}
theorem zf8 {P:Program}{N:Nat}{D:List Deferred}{K:Loc}{g:World}{H:Qu}{c1:Operand}{p:Nat}{assign body:Code}{f:FuncId}{cap:List Value}{a0:z->Value}{xs:List z}
  (B:List z->Qu->Loc->Prop)(G:Code->List z->Qu->Loc->Prop)(Ja:List z->z->Env->Qu->Loc->Prop)
  (hg:QB [] E c1=some (.func (.func f) #[] cap.toArray))(hF:Fun P f)(c9:zID P f cap I K a0 xs)(hp:Nat.blt p N=true)(h0:B [] I i)
  (c2:∀ l j x s u H1,j++[x]<+:xs->HLe I s->B j s u->X ⟨P,some l,N,[],g,H1⟩ (Exit.then (Met ⟨P,some l,N,[],g,H1⟩ fun E2 I2 Z=>HLe s I2/\Ja j x E2 I2 Z) (fun _ _ _=>False)) assign ((p,a0 x)::E) s u)
  (b5:∀ l j x E2 I2 Z H2,j++[x]<+:xs->HLe I I2->Ja j x E2 I2 Z->X ⟨P,some l,N,[],g,H2⟩ (zdx g H2 (fun q I3 M=>HLe I2 I3/\B q I3 M) (fun c q I3 M=>HLe I2 I3/\G c q I3 M) (j++[x])) body E2 I2 Z)
  (b6:∀ y s u,HLe I s->B xs s u->At ⟨P,none,N,{target:=.collected y,args:= #[]}::D,g,H⟩ Q .normal E s (u++[(y,.deferred (some []))]))
  (c0:∀ c y j s u,HLe I s->j<+:xs->G c j s u->X ⟨P,none,N,{target:=.collected y,args:= #[]}::D,g,H⟩ Q c E s (u++[(y,.deferred (some []))])):
  X ⟨P,none,N,D,g,H⟩ Q (.rangeFunc c1 #[p] assign body) E I (K++i):=by
 intro a w ha hw;refine wpIn_rangeFunc fun fn _=>?_;have c4:=run_enterLoop_outer (P:=P) (w:=w) fn a.tmps #[p] assign body;generalize d4:w.heap.size=y at c4;let d:LoopState->Option Code->Obj:=fun st pd=>.loop {state:=st,pending:=pd,fn,tmps:=a.tmps,params:= #[p],assign,body,defers:=y}
 have d0:St g I H ((y+1,d .ready none)::(y,.deferred (some []))::(K++i)) ((w.alloc (.deferred (some []))).alloc (d .ready none)):=by
  have h1:=hw.alloc (.deferred (some []));have h2:=h1.alloc (d .ready none);rw [World.size_alloc,d4] at h2;exact h2
 have d5:=Qp (S:=[]) ha trivial rfl hg;refine ⟨y+1,[{target:=.collected y,args:= #[]}],_,{target:=.fn (.func f) cap.toArray,args:= #[.func (.yield (y+1)) #[] #[]]},(w.alloc (.deferred (some []))).alloc (d .ready none),f,((.func (.yield (y+1)) #[] #[]:Value)::cap).toArray,(w.alloc (.deferred (some []))).alloc (d .ready none),c4,?_,fun _ _=>trivial,?_,by simp [FR],zav.2 ?_⟩
 ·have e2:a.eval (.const (.func (.yield (y+1)) #[] #[]))= .func (.yield (y+1)) #[] #[]:=rfl;simp only [resolve,OF,jF,Ah,e2,d5,Deferred.ofValue];rfl
 ·simp only [invoke,Ka hF];simp
 let Lr:LoopState->Option Code->Loc->Loc:=fun st pd V=>V++[(y+1,d st pd),(y,.deferred (some []))];have d9:∀ {s H1 V W st pd},St g s H1 (Lr st pd V) W->((Lr st pd V).map (·.1)).Nodup:=fun h=>h.nodup;let J:List z->Qu->Qu->Prop:=fun j s H'=>∃ V,B j s V/\HLe I s/\H'=JH H (Lr .ready none V)/\((Lr .ready none V).map (·.1)).Nodup/\∀ b o,(b,o)∈Lr .ready none V->H b=none;let Jy:List z->Qu->Qu->Prop:=fun j s H'=>∃ c V,G c j s V/\HLe I s/\H'=JH H (Lr .done (some c) V)/\((Lr .done (some c) V).map (·.1)).Nodup/\∀ b o,(b,o)∈Lr .done (some c) V->H b=none
 have d1:St g I H (K++Lr .ready none i) ((w.alloc (.deferred (some []))).alloc (d .ready none)):=by
  have hp:(K++Lr .ready none i).Perm ((y+1,d .ready none)::(y,.deferred (some []))::(K++i)):=by
   show (K++(i++[(y+1,d .ready none),(y,.deferred (some []))])).Perm _;rw [<-js];exact Ap
  exact d0.perm (fun q=>hp.mem_iff) ((hp.map (·.1)).nodup_iff.2 d0.nodup)
 have b2:=d1.rest Q6;have d2:J [] I (JH H (Lr .ready none i)):=⟨i,h0,zJH I,U,b2.nodup,fun b o hm=>(b2.sepIL b o hm).2⟩;refine (c9 g (y+1) J Jy ?_ I _ _ (zJH I) d2 d1.hideR).mono ?_
 ·intro j x s H' b0 hI ⟨V,a5,_,hH,a7,a6⟩ lit W hW;subst hH;have b4:=hW.swap a7 a6;have Y:W.heap[y+1]? =some (d .ready none):=b4.own _ _ (by simp [Lr]);refine ⟨fn,_,assign,body,run_yield (P:=P) Y kJ,?_⟩
  have c5:UQ N [] ((p,a0 x)::E) {tmps:=a.tmps.setIfInBounds p (a0 x),defers:=[]}:=by
   have h1:=ha.put hp (a0 x);exact ⟨h1.size,U,h1.env⟩
  have c3:∀ b o,(b,o)∈lit->H b=none:=fun b o hm=>(XR (hW.sepIL b o hm).2).1;refine roundIn_of_wpIn (F:=Fence.wide) trivial ?_;have d8:((#[p]:Array Tmp).zip #[a0 x]).foldl (fun tmps (t,v)=>tmps.setIfInBounds t v) a.tmps=a.tmps.setIfInBounds p (a0 x):=(by simp);show Code.wpIn _ _ _ _ _ {tmps:=((#[p]:Array Tmp).zip #[a0 x]).foldl (fun tmps (t,v)=>tmps.setIfInBounds t v) a.tmps,defers:=[]} _;rw [d8];have hA:=c2 (y+1) j x s V (JH (JH H lit) [(y+1,d .ready none),(y,.deferred (some []))]) b0 hI a5 _ W c5 b4.hideR;refine AY (F:=Fence.wide.inRound (y+1)) (n:=0) (P:=P) (show assign.wpIn (Fence.wide.inRound (y+1)) 0 P _ _ _ from hA) ?_;intro e a1 W1 hq
  cases e with
  | normal=>
   obtain ⟨E2,I2,Z,⟨a4,d3⟩,d6,a9⟩:=hq;have c6:St g I2 (JH H lit) (Z++[(y+1,d .ready none),(y,.deferred (some []))]) W1:=St.unhide (b4.rest Q6) a9;have b7:W1.heap[y+1]? =some (d .ready none):=c6.own _ _ kJ;have c7:=c6.putObj (o':=d .busy none) (b:=y+1) (QN .here);refine ⟨_,run_beginRound (P:=P) b7 U,?_⟩;have hB:=b5 (y+1) j x E2 I2 Z (JH (JH H lit) [(y+1,d .busy none),(y,.deferred (some []))]) b0 (hI.trans a4) d3 a1 _ d6 c7.hideR;refine AY (F:=Fence.wide.inRound (y+1)) (n:=0) (P:=P) (show body.wpIn (Fence.wide.inRound (y+1)) 0 P _ _ _ from hB) ?_
   have fin:∀ (W3:World) (I3:Qu) (M:Loc) (T:Option Code) (st:LoopState),St g I3 (JH (JH H lit) [(y+1,d .busy none),(y,.deferred (some []))]) M W3->
     (st=if T.isNone then .ready else .done)->
     ∃ W4,(Instr.endRound (y+1) T).run P W3= .ok (.bool T.isNone) W4/\St g I3 (JH H (Lr st T M)) lit W4/\((Lr st T M).map (·.1)).Nodup/\∀ b o,(b,o)∈Lr st T M->H b=none:=by
    intro W3 I3 M T st hs d7;have c8:St g I3 (JH H lit) (M++[(y+1,d .busy none),(y,.deferred (some []))]) W3:=St.unhide (c7.rest Q6) hs;have b8:W3.heap[y+1]? =some (d .busy none):=c8.own _ _ kJ;have b9:=c8.putObj (o':=d st T) (b:=y+1) (QN .here);refine ⟨_,run_endRound (P:=P) T b8,?_,b9.nodup,fun b o hm=>(XR (b9.sepIL b o hm).2).1⟩;rw [<-d7];exact b9.swap hW.nodup c3
   intro e a3 W3 hq
   cases e with
   | normal=>
    obtain ⟨I3,M,⟨a2,b1⟩,hs⟩:=hq;obtain ⟨W4,h1,h2,h3,h4⟩:=fin W3 I3 M none .ready hs U;exact ⟨_,W4,h1,true,I3,_,U,a4.trans a2,h2,M,b1,(hI.trans a4).trans a2,U,h3,h4⟩
   | ret=>
    obtain ⟨I3,M,⟨a2,b1⟩,hs⟩:=hq;obtain ⟨W4,h1,h2,h3,h4⟩:=fin W3 I3 M (some .ret) .done hs U;exact ⟨_,W4,h1,false,I3,_,U,a4.trans a2,h2,.ret,M,b1,(hI.trans a4).trans a2,U,h3,h4⟩
   | exit id=>
    obtain ⟨I3,M,⟨a2,b1⟩,hs⟩:=hq;obtain ⟨W4,h1,h2,h3,h4⟩:=fin W3 I3 M (some (.exit id)) .done hs U;exact ⟨_,W4,h1,false,I3,_,U,a4.trans a2,h2,.exit id,M,b1,(hI.trans a4).trans a2,U,h3,h4⟩
   | goto t=>exact hq.elim
   | panic c=>exact hq.elim
   | outgrown=>exact hq.elim
  | _=>exact hq.elim
 ·rintro e w' ⟨v,s,H',rfl,hI,hs,hJ | ⟨j,b0,hJ⟩⟩
  ·obtain ⟨V,a5,b3,rfl,a7,a6⟩:=hJ;have a8:=hs.swap a7 a6;have Y:w'.heap[y+1]? =some (d .ready none):=a8.own _ _ (by simp [Lr]);have a9:=a8.putObj (o':=d .exhausted none) (b:=y+1) (QN .here);refine ⟨none,_,run_endLoop (P:=P) Y kJ,?_⟩;refine b6 y s V b3 a5 _ _ ⟨ha.size,by simp [ha.defers],ha.env⟩ ?_;refine a9.rest (L:=[(y+1,d .exhausted none)]) ?_
   have:YS (V++[(y+1,d .exhausted none),(y,.deferred (some []))]) [(y+1,d .exhausted none)] (V++[(y,.deferred (some []))]):=by
    refine .cons ?_ .nil;clear a6 a7 a9 a8 hs a5 Y
    induction V with
    | nil=>exact .here
    | cons q l ih=>exact .there ih
   exact this
  ·obtain ⟨c,V,a5,b3,rfl,a7,a6⟩:=hJ;have a8:=hs.swap a7 a6;have Y:w'.heap[y+1]? =some (d .done (some c)):=a8.own _ _ (by simp [Lr]);have a9:=a8.putObj (o':=d .exhausted (some c)) (b:=y+1) (QN .here);refine ⟨some c,_,run_endLoop (P:=P) Y kJ,?_⟩;refine c0 c y j s V b3 b0 a5 _ _ ⟨ha.size,by simp [ha.defers],ha.env⟩ ?_;refine a9.rest (L:=[(y+1,d .exhausted (some c))]) ?_
   have:YS (V++[(y+1,d .exhausted (some c)),(y,.deferred (some []))]) [(y+1,d .exhausted (some c))] (V++[(y,.deferred (some []))]):=by
    refine .cons ?_ .nil;clear a6 a7 a9 a8 hs a5 Y
    induction V with
    | nil=>exact .here
    | cons q l ih=>exact .there ih
   exact this
def zI3 (C:Cx)(M:Env->Qu->Qu->Loc->Prop):Act->World->Prop:=fun a w=>∃ E I H i,M E I H i/\UQ C.N C.D E a/\St C.g I H i w
theorem zhQ {P:Program}{r:Option Nat}{N:Nat}{D:List Deferred}{g:World}{H:Qu}{c:Code}(J:Nat->Env->Qu->Qu->Loc->Prop)(m0:Nat)(M:Env)(o:Loc)(h0:J m0 M I H o)(hE:Sub M E)(hl:o=i)
  (q:∀ m E I H i,J m E I H i->X ⟨P,r,N,D,g,H⟩ (Exit.then (zI3 ⟨P,r,N,D,g,H⟩ fun E I H i=>∃ d,d<m/\J d E I H i) Q) c E I i):X ⟨P,r,N,D,g,H⟩ Q (.loop c) E I i:=by
 classical
 intro a w ha hw;let R:Nat->Act->World->Prop:=fun m a w=>∃ E I H i,J m E I H i/\UQ N D E a/\St g I H i w
 have b:∀ a w,(∃ m,R m a w)->∃ m,R m a w/\∀ d,R d a w->m<=d:=fun a w ⟨m,h⟩=>by
  induction m using Nat.strongRecOn with
  | _ m ih=>
   by_cases t:∃ d,d<m/\R d a w
   ·obtain ⟨d,l,V⟩:=t;exact ih d l V
   ·exact ⟨m,h,fun d V=>BA fun l=>t ⟨d,l,V⟩⟩
 let K:Act->World->Nat:=fun a w=>if h:∃ m,R m a w then Classical.choose (b a w h) else 0
 have W:∀ a w,(∃ m,R m a w)->R (K a w) a w:=fun a w h=>by simp only [K,dif_pos h];exact (An (b a w h)).1
 have T:∀ m a w,R m a w->K a w<=m:=fun m a w h=>by
  have t:∃ m,R m a w:=⟨m,h⟩;simp only [K,dif_pos t];exact (An (b a w t)).2 m h
 refine wpIn_loop (fun a w=>∃ m,R m a w) K ⟨m0,M,I,H,o,h0,ha.sub hE,hl ▸ hw⟩ fun a w h=>?_;obtain ⟨E1,I1,H1,a0,hJ,hf,hs⟩:=W a w h;refine AY (q _ _ _ _ _ hJ a w hf hs) fun e a' w' hq=>?_
 cases e with
 | normal=>
  obtain ⟨Y,I2,Z,p,⟨d,l,x⟩,y,F⟩:=hq;exact ⟨⟨d,Y,I2,Z,p,x,y,F⟩,Bq (T d a' w' ⟨Y,I2,Z,p,x,y,F⟩) l⟩
 | _=>exact hq
theorem ziM {P:Program}{r:Option Nat}{N:Nat}{D:List Deferred}{g:World}{H:Qu}{q:Option Tmp}{d l:Nat}{ty:TypeId}{J:String}{Z:Array Edge}{gd:Option (Nat×Bool)}{y:Operand}{Y:List Operand}{vs:List Value}{K:Array TypeId}{t:Bool->Qu->Qu->Prop}
  (hy:QB S E y=some (.func (.yield l) #[] #[]))(hl:Y.map (QB S E)=vs.map some)(hG:Zt A S E ⟨q,.call ⟨.value y,Y.toArray,K⟩,ty,J,Z,gd⟩)(hd:q=some d)(hN:Nat.blt d N=true)(hf:Yf S E d=true)
  (hY:ZH S=true->W9 P g l vs I H t)
  (h:∀ b s M,HLe I s->(ZH S=true->t b s M)->(ZH S=false->s=I/\M=H)->XO ⟨P,r,N,D,g,M⟩ Q A rest (XY S E d (.bool b)) (zhf S E d (.bool b)) s i):
  XO ⟨P,r,N,D,g,H⟩ Q A (⟨q,.call ⟨.value y,Y.toArray,K⟩,ty,J,Z,gd⟩::rest) S E I i:=by
 intro a w V hg hw;simp only [wpListIn];rw [hG.wanted V hg]
 cases o:ZH S with
 | true=>
  simp only [OB,Oper.wpIn];refine ⟨fun _ _=>trivial,?_⟩;obtain ⟨fn,x,T,bd,a0,hR⟩:=hY o i w hw
  have W:(execOp a.eval ⟨q,.call ⟨.value y,Y.toArray,K⟩,ty,J,Z,gd⟩).run P w= .ok (.round l fn x T bd) w:=by
   simp only [execOp,resolve,Qp V hg o hy,OF,JK V hg o hl,Deferred.ofValue,jg,jp,Result.andThen,invoke];simpa using a0
  rw [Ak _ _ _ kF,W,Oper.uponIn_round];refine ⟨by simp [FR],RoundIn.mono (F:=FR r) (show RoundIn (FR r) 0 P l fn x T bd w _ from hR) ?_⟩;rintro e w' ⟨b,s,M,rfl,hI,hs,hp⟩;have p:=YI V hg hN hf (.bool b);rw [o] at p;rw [hd];exact h b s M hI (fun _=>hp) (fun e=>by rw [o] at e;cases e) _ _ p.1 p.2 hs
 | false=>
  simp only [jy,Oa];refine ⟨fun _ _=>trivial,?_⟩;have p:=YI V hg hN hf (.bool false);rw [o] at p;rw [hd];exact h false I H (zJH I) (fun e=>by rw [o] at e;cases e) (fun _=>⟨U,U⟩) _ _ p.1 p.2 hw
end

theorem zDm (i:P.funcs[f]? =some fn)(d:fn.body=some c)(b:fn.ntmps=N)
  (a:Nat.ble args.length N=true)(j:St g I H loc w)(h:X ⟨P,none,N,[],g,H⟩ (bodyPostM Fence.wide 0 P fn R) c (zvP 0 args) I loc):Calls P f args.toArray w R:=by
 refine callsIn_wide.1<|callsIn_of_wp_marks (F:=Fence.wide) (n:=0) i d trivial ?_;rw [b];exact h _ w (zgl args N (AM a)) j
section
variable {P:Program} {b:Func} {R:Ending->World->Prop} {N:Nat} {g:World} {I H:Qu} {f d:Loc} {E:Env} {r:Option Nat}
theorem zFS {D:List Deferred}{t u:Nat}{v o:Value}(p:b.results= #[.tmp t,.tmp u])(q:J9 E t=some v)(h:J9 E u=some o)(a:Act)(l:UQ N D E a)(w:World):(results b a.tmps).run P w= .ok (.tuple #[v,o]) w:=by have i:=l.env _ _ q;have j:=l.env _ _ h;rw [OM] at i j;simp only [results,p];simp [i,j]
end
section
variable {g:World} {I i H:Qu} {a d L R:Loc} {w f:World}
theorem St.drop (h:St g I H a w):St g I H [] w:=
 ⟨h.os,h.tape,h.out,h.size,h.imm,h.frm,(fun _ _ b=>by cases b),h.sepIH,(fun _ _ b=>by cases b),by simp⟩
theorem zr {P:Program}{fn:Func}{N t:Nat}{g:World}{I H:Qu}{a:Loc}{E:Env}{r:Option Nat}{v b:Value}(j:fn.results= #[.tmp t])(l:J9 E t=some v)(h:Ending.returned v=Ending.returned b):At ⟨P,r,N,[],g,H⟩ (bodyPost P fn fun e f=>e= .returned b/\St g I H [] f) .ret E I a:=Zc j l fun _w o=>⟨h,o.drop⟩
theorem zp {P:Program}{fn:Func}{N t:Nat}{g:World}{b I H:Qu}{a:Loc}{E:Env}{r:Option Nat}{v j:Value}(l:HLe b I)(o:fn.results= #[.tmp t])(p:J9 E t=some v)(h:Ending.returned v=Ending.returned j):At ⟨P,r,N,[],g,H⟩ (bodyPost P fn fun e f=>e= .returned j/\St g b H [] f) .ret E I a:=Zc o p fun _w q=>⟨h,(q.mono l).drop⟩
theorem YS.mem' (q:YS a L R):∀ p∈L++R,p∈a:=by
 induction q with
 | nil=>exact fun p h=>by simpa using h
 | @cons l l1 l2 L b o ht q ih=>
  intro p j;rw [OE] at j;rcases jo.1 j with e | j
  ·subst e;exact ht.mem
  ·obtain ⟨b,o⟩:=p;exact ht.sub _ _ (ih _ j)
theorem St.back (h:St g I H a w)(j:YS a L R)(l:St g i (JH H R) L f):St g i H a f:=
 (h.join j l).perm (fun p=>⟨fun b=>j.mem p b,fun b=>j.mem' p b⟩) h.nodup
theorem St.dropTo (h:St g I H a w)(b:UR d a):St g I H d w:=h.subL b
end
def zk6 (P:Program)(f:FuncId)(args:List Value)(I:Qu)(L:Loc)(v:Value):Prop:=
 ∀ g H w,St g I H L w->Calls P f args.toArray w fun e w'=>e= .returned v/\St g I H L w'
theorem Zj.k {v:Value}(h:Zj P f args I v)(L:Loc):zk6 P f args I L v:=
 fun g H w a=>(h g _ w a.hide).mono fun _ _ ⟨b,d⟩=>⟨b,by have:=a.unhide d;simpa using this⟩
theorem zk6.v {v:Value}(h:zk6 P f args I [] v):Zj P f args I v:=h
section
variable {C:Cx} {Q:Exit->Act->World->Prop} {E p:Env} {I B:Qu} {i g L R:Loc} {j:Array Oper} {rest:List Oper} {S:GS}
variable {q:Option Tmp} {d:Nat} {r:TypeId} {n:String} {s:Array Edge} {u:Option (Nat×Bool)} {x y z:Operand}
theorem zi7 {f:FuncId}{cap:List Value}{l:List Operand}{J:List Value}{D:Array TypeId}{o:Operand}{v:Value}
  (T:QB S E o=some (.func (.func f) #[] cap.toArray))(W:l.map (QB S E)=J.map some)(hF:Fun C.P f)(A:YS i L R)(O:ZH S=true->zk6 C.P f (J++cap) I L v)
  (K:Zt j S E ⟨some d,.call ⟨.value o,l.toArray,D⟩,r,n,s,u⟩)(M:Nat.blt d C.N=true)(V:Yf S E d=true)
  (h:XO C Q j rest (XY S E d v) (zhf S E d v) I i):
  XO C Q j (⟨some d,.call ⟨.value o,l.toArray,D⟩,r,n,s,u⟩::rest) S E I i:=by
 intro a w F hg G;simp only [wpListIn];rw [K.wanted F hg];have t:=YI F hg M V v
 cases b:ZH S with
 | true=>
  rw [b] at t;simp only [OB,Oper.wpIn];refine ⟨fun _ _=>trivial,?_⟩;rw [Ak _ _ _ kF,zex (Qp F hg b T) (JK F hg b W) hF,B1];refine ⟨by simp [FR],zav.2 ((O b _ _ _ (G.split A)).mono ?_)⟩;rintro e Z ⟨rfl,Y⟩;exact h _ _ t.1 t.2 (G.back A Y)
 | false=>
  rw [b] at t;simp only [jy,Oa];exact ⟨fun _ _=>trivial,h _ _ t.1 t.2 G⟩
theorem zBa {o:Oper}(v:Value)(b:ZH S=false)(A:Zt j S E o)(F:o.dst=some d)(D:Nat.blt d C.N=true)(G:Yf S E d=true)(h:XO C Q j rest (XY S E d v) (zhf S E d v) I i):XO C Q j (o::rest) S E I i:=by intro a w t hg J;simp only [wpListIn];rw [A.wanted t hg];have l:=YI t hg D G v;rw [b] at l ⊢;simp only [jy,Oa];rw [F];exact ⟨fun _ _=>trivial,h _ _ l.1 l.2 J⟩
theorem Xh (g:Loc){c:Code}(l:UR g i)(h:X C Q c E I g):X C Q c E I i:=fun a w b o=>h a w b (o.subL l)
theorem Ya {M:Env->Qu->Loc->Prop}(p:Env)(g:Loc)(b:M p I g)(a:Sub p E)(l:UR g i):At C (Exit.then (Met C M) Q) .normal E I i:=fun _ _ h o=>⟨p,I,g,b,h.sub a,o.subL l⟩
theorem Cells.agg {b:Nat}{a:List Value}{t:TypeId}{o:Nat×Nat}{l:Loc}{A:Array Value}(h:A=a.toArray):Cells I ((b,.cells A t o)::l) b 0 a:=h ▸ zJF
end
section
variable {C:Cx} {Q:Exit->Act->World->Prop} {E F G:Env} {I H:Qu} {j D L R:Loc} {p:Array Oper} {rest:List Oper} {S:GS} {b:Bool}
variable {B:Option Tmp} {d:Nat} {r:TypeId} {q:String} {w:Array Edge} {A:Option (Nat×Bool)} {x y z:Operand}
theorem zbd {o:Oper}{v:Value}(s:Q2 C [] E I j o v)(a:o.guard=none)(l:o.dst=some d)(i:Nat.blt d C.N=true)(h:XO C Q p rest [] ((d,v)::E) I j):XO C Q p (o::rest) [] E I j:=zwb s (.none a) l i U h
theorem zL {t b a:Nat}{v:Value}(l:ScT C.P t)(h:XO C Q p rest [] ((d,v)::E) I j)(h0:QB [] E x=some (.pointer (some ⟨b,a,none⟩)):=by exact U)(o:ZH ([]:GS)=true->QO I j b a v:=by (intro hg;repeat (first | exact zJC U | apply zJB | apply zJD)))(i:Nat.blt d C.N=true:=by exact U):XO C Q p (⟨some d,.load t x,r,q,w,none⟩::rest) [] E I j:=zbd (Qc h0 l o) U U i h
theorem zM {v:Value}(h:XO C Q p rest [] ((d,v)::E) I j)(h0:QB [] E x=some v:=by exact U)(a:Nat.blt d C.N=true:=by exact U):XO C Q p (⟨some d,.move x,r,q,w,none⟩::rest) [] E I j:=zbd (Qd h0) U U a h
theorem zA {v:Value}(h:XO C Q p rest [] ((d,v)::E) I j)(h0:QB [] E x=some v:=by exact U)(a:Nat.blt d C.N=true:=by exact U):XO C Q p (⟨some d,.assign x,r,q,w,none⟩::rest) [] E I j:=zbd (ZE h0) U U a h
theorem zC {T:BinOp}{t s:TypeId}{k:IntKind}{m n:Int}{c:Bool}(h:XO C Q p rest [] ((d,.bool c)::E) I j)(l:QB [] E x=some (.int k m):=by exact U)(o:QB [] E y=some (.int k n):=by exact U)(i:zGu T m n=some c:=by exact U)(a:Nat.blt d C.N=true:=by exact U):XO C Q p (⟨some d,.binOp T t x y s,r,q,w,none⟩::rest) [] E I j:=zbd (Qx l o i) U U a h
theorem zB {T:BinOp}{t u:TypeId}{m n c:Int}(h:XO C Q p rest [] ((d,.int .i64 c)::E) I j)(o:QB [] E x=some (.int .i64 m):=by exact U)(s:QB [] E y=some (.int .i64 n):=by exact U)(l:arR T m n=some c:=by exact U)(i:Nat.blt d C.N=true:=by exact U)(a:ZH ([]:GS)=true-> -9223372036854775808<=c/\c<=9223372036854775807:=by (intro hg;first | omega | (simp [ZH] at hg;omega))):XO C Q p (⟨some d,.binOp T t x y u,r,q,w,none⟩::rest) [] E I j:=zbd (Zf o s l a) U U i h
theorem zV {T:Op}{r:TypeId}{q:String}{w:Array Edge}{v:Value}(i:Q2 C [] E I j ⟨some d,T,r,q,w,none⟩ v)(h:XO C Q p rest [] ((d,v)::E) I j)(a:Nat.blt d C.N=true:=by exact U):XO C Q p (⟨some d,T,r,q,w,none⟩::rest) [] E I j:=zbd i U U a h
theorem zF {s f i b a:Nat}(hF:Q0 C.P s f i)(h:XO C Q p rest [] ((d,.pointer (some ⟨b,a+i,none⟩))::E) I j)(o:QB [] E x=some (.pointer (some ⟨b,a,none⟩)):=by exact U)(l:Nat.blt d C.N=true:=by exact U):XO C Q p (⟨some d,.fieldAddr s x f,r,q,w,none⟩::rest) [] E I j:=zbd (Qi o hF) U U l h
theorem zO {t:Bool}(h:XO C Q p rest [] ((d,.bool (!t))::E) I j)(i:QB [] E x=some (.bool t):=by exact U)(a:Nat.blt d C.N=true:=by exact U):XO C Q p (⟨some d,.unOp .not r x,r,q,w,none⟩::rest) [] E I j:=zbd (ZT i) U U a h
theorem zE {i:Nat}{a:Array Value}{v:Value}(h:XO C Q p rest [] ((d,v)::E) I j)(s:QB [] E x=some (.tuple a):=by exact U)(o:a[i]? =some v:=by exact U)(l:Nat.blt d C.N=true:=by exact U):XO C Q p (⟨some d,.extract x i,r,q,w,none⟩::rest) [] E I j:=zbd (zaw s o) U U l h
theorem zQ {t n c e size:Nat}{a:Option Addr}(l:SlT C.P t e size)(h:XO C Q p rest [] ((d,.int .i64 n)::E) I j)(o:QB [] E x=some (.slice a n c):=by exact U)(i:Nat.blt d C.N=true:=by exact U):XO C Q p (⟨some d,.call ⟨.builtin .len, #[x], #[t]⟩,r,q,w,none⟩::rest) [] E I j:=zbd (Zs o l) U U i h
theorem zI {c:Operand}{x y:Code}{b:Bool}(i:b=true->X C Q x E I j)(h:b=false->X C Q y E I j)(a:QB [] E c=some (.bool b):=by exact U):X C Q (.cond c x y) E I j:=zDS a i h
theorem zDy {o:Oper}{v:Value}(t:Q2 C ((b,G)::S) E I j o v)(a:Zt p ((b,G)::S) E o)(l:o.dst=some d)(i:Nat.blt d C.N=true)(s:Yf ((b,G)::S) E d=true)(h:XO C Q p rest ((b,(d,v)::G)::S) E I j):XO C Q p (o::rest) ((b,G)::S) E I j:=zwb t a l i s h
theorem zJ {T:Op}{r:TypeId}{q:String}{w:Array Edge}{A:Option (Nat×Bool)}{v:Value}(o:Q2 C ((b,G)::S) E I j ⟨some d,T,r,q,w,A⟩ v)(h:XO C Q p rest ((b,(d,v)::G)::S) E I j)(a:Zt p ((b,G)::S) E ⟨some d,T,r,q,w,A⟩:=by exact .some U U U U gbf)(i:Nat.blt d C.N=true:=by exact U)(l:Yf ((b,G)::S) E d=true:=by exact U):XO C Q p (⟨some d,T,r,q,w,A⟩::rest) ((b,G)::S) E I j:=zDy o a U i l h
theorem zK {T:Op}{r:TypeId}{q:String}{w:Array Edge}{A:Option (Nat×Bool)}{v:Value}(o:Q2 C ((b,G)::S) E I j ⟨some d,T,r,q,w,A⟩ v)(h:XO C Q p rest ((b,(d,v)::G)::S) E I j)(a:Zt p ((b,G)::S) E ⟨some d,T,r,q,w,A⟩:=by exact .some U U U U gbt)(i:Nat.blt d C.N=true:=by exact U)(l:Yf ((b,G)::S) E d=true:=by exact U):XO C Q p (⟨some d,T,r,q,w,A⟩::rest) ((b,G)::S) E I j:=zDy o a U i l h
theorem zHV {o:Oper}{v:Value}(s:Q2 C [] E I j o v)(a:o.guard=none)(l:o.dst=some d)(i:Nat.blt d C.N=true)(h:XQ C Q p rest [] ((d,v)::E) I j):XQ C Q p (o::rest) [] E I j:=zvc s (.none a) l i U h
theorem zq {T:Op}{r:TypeId}{q:String}{w:Array Edge}{v:Value}(i:Q2 C [] E I j ⟨some d,T,r,q,w,none⟩ v)(h:XQ C Q p rest [] ((d,v)::E) I j)(a:Nat.blt d C.N=true:=by exact U):XQ C Q p (⟨some d,T,r,q,w,none⟩::rest) [] E I j:=zHV i U U a h
theorem zDz {o:Oper}{v:Value}(t:Q2 C ((b,G)::S) E I j o v)(a:Zt p ((b,G)::S) E o)(l:o.dst=some d)(i:Nat.blt d C.N=true)(s:Yf ((b,G)::S) E d=true)(h:XQ C Q p rest ((b,(d,v)::G)::S) E I j):XQ C Q p (o::rest) ((b,G)::S) E I j:=zvc t a l i s h
theorem zj {T:Op}{r:TypeId}{q:String}{w:Array Edge}{A:Option (Nat×Bool)}{v:Value}(o:Q2 C ((b,G)::S) E I j ⟨some d,T,r,q,w,A⟩ v)(h:XQ C Q p rest ((b,(d,v)::G)::S) E I j)(a:Zt p ((b,G)::S) E ⟨some d,T,r,q,w,A⟩:=by exact .some U U U U gbf)(i:Nat.blt d C.N=true:=by exact U)(l:Yf ((b,G)::S) E d=true:=by exact U):XQ C Q p (⟨some d,T,r,q,w,A⟩::rest) ((b,G)::S) E I j:=zDz o a U i l h
theorem zk {T:Op}{r:TypeId}{q:String}{w:Array Edge}{A:Option (Nat×Bool)}{v:Value}(o:Q2 C ((b,G)::S) E I j ⟨some d,T,r,q,w,A⟩ v)(h:XQ C Q p rest ((b,(d,v)::G)::S) E I j)(a:Zt p ((b,G)::S) E ⟨some d,T,r,q,w,A⟩:=by exact .some U U U U gbt)(i:Nat.blt d C.N=true:=by exact U)(l:Yf ((b,G)::S) E d=true:=by exact U):XQ C Q p (⟨some d,T,r,q,w,A⟩::rest) ((b,G)::S) E I j:=zDz o a U i l h
section
variable {a f:Nat} {t u g:Bool} {i:Env}
theorem QC (J:g=t)(K:QB [] E (.tmp a)=some (.bool t))(l:J9 i f=some (.bool u))(o:A=none)(s:Nat.blt d C.N=true)(h:XO C Q p rest [] ((d,.bool (t&&u))::E) I j):
  XO C Q p (⟨some d,.pick (.tmp a) (.tmp f) (.const (.bool false)),r,q,w,A⟩::rest) ((g,i)::[]) E I j:=zwu J K l (.none o) s U h
theorem ze5 (J:g=t)(K:QB ((b,G)::S) E (.tmp a)=some (.bool t))(l:J9 i f=some (.bool u))(o:Zt p ((b,G)::S) E ⟨some d,.pick (.tmp a) (.tmp f) (.const (.bool false)),r,q,w,A⟩)(s:Nat.blt d C.N=true)(M:Yf ((b,G)::S) E d=true)
  (h:XO C Q p rest ((b,(d,.bool (t&&u))::G)::S) E I j):
  XO C Q p (⟨some d,.pick (.tmp a) (.tmp f) (.const (.bool false)),r,q,w,A⟩::rest) ((g,i)::(b,G)::S) E I j:=zwu J K l o s M h
theorem Q5 (J:g= !t)(K:QB [] E (.tmp a)=some (.bool t))(l:J9 i f=some (.bool u))(o:A=none)(s:Nat.blt d C.N=true)(h:XO C Q p rest [] ((d,.bool (t||u))::E) I j):
  XO C Q p (⟨some d,.pick (.tmp a) (.const (.bool true)) (.tmp f),r,q,w,A⟩::rest) ((g,i)::[]) E I j:=zC2 J K l (.none o) s U h
theorem znD (J:g= !t)(K:QB ((b,G)::S) E (.tmp a)=some (.bool t))(l:J9 i f=some (.bool u))(o:Zt p ((b,G)::S) E ⟨some d,.pick (.tmp a) (.const (.bool true)) (.tmp f),r,q,w,A⟩)(s:Nat.blt d C.N=true)(M:Yf ((b,G)::S) E d=true)
  (h:XO C Q p rest ((b,(d,.bool (t||u))::G)::S) E I j):
  XO C Q p (⟨some d,.pick (.tmp a) (.const (.bool true)) (.tmp f),r,q,w,A⟩::rest) ((g,i)::(b,G)::S) E I j:=zC2 J K l o s M h
theorem JM (J:g=t)(K:QB [] E (.tmp a)=some (.bool t))(l:J9 i f=some (.bool u))(o:A=none)(s:Nat.blt d C.N=true)(h:XQ C Q p rest [] ((d,.bool (t&&u))::E) I j):
  XQ C Q p (⟨some d,.pick (.tmp a) (.tmp f) (.const (.bool false)),r,q,w,A⟩::rest) ((g,i)::[]) E I j:=zt1 J K l (.none o) s U h
theorem UX (J:g=t)(K:QB ((b,G)::S) E (.tmp a)=some (.bool t))(l:J9 i f=some (.bool u))(o:Zt p ((b,G)::S) E ⟨some d,.pick (.tmp a) (.tmp f) (.const (.bool false)),r,q,w,A⟩)(s:Nat.blt d C.N=true)(M:Yf ((b,G)::S) E d=true)
  (h:XQ C Q p rest ((b,(d,.bool (t&&u))::G)::S) E I j):
  XQ C Q p (⟨some d,.pick (.tmp a) (.tmp f) (.const (.bool false)),r,q,w,A⟩::rest) ((g,i)::(b,G)::S) E I j:=zt1 J K l o s M h
theorem Jm (J:g= !t)(K:QB [] E (.tmp a)=some (.bool t))(l:J9 i f=some (.bool u))(o:A=none)(s:Nat.blt d C.N=true)(h:XQ C Q p rest [] ((d,.bool (t||u))::E) I j):
  XQ C Q p (⟨some d,.pick (.tmp a) (.const (.bool true)) (.tmp f),r,q,w,A⟩::rest) ((g,i)::[]) E I j:=zBV J K l (.none o) s U h
end
section
variable {f:FuncId} {cap:List Value} {l:List Operand} {vs:List Value} {g:Array TypeId} {a:Operand} {v:Value}
theorem YE (t:QB [] E a=some (.func (.func f) #[] cap.toArray))(u:l.map (QB [] E)=vs.map some)(hF:Fun C.P f)(s:Zj C.P f (vs++cap) I v)(i:A=none)(o:Nat.blt d C.N=true)
  (h:XO C Q p rest [] ((d,v)::E) I j):XO C Q p (⟨some d,.call ⟨.value a,l.toArray,g⟩,r,q,w,A⟩::rest) [] E I j:=zkz t u hF (fun _=>s) (.none i) o U h
theorem qcV {f:FuncId}{l:List Operand}{vs:List Value}{g:Array TypeId}{a:Operand}{v:Value}(t:l.map (QB [] E)=vs.map some)(hF:Fun C.P f)(o:Zj C.P f (vs++[]) I v)(h:XO C Q p rest [] ((d,v)::E) I j)(s:QB [] E a=some (.func (.func f) #[] [].toArray):=by exact U)(i:Nat.blt d C.N=true:=by exact U):XO C Q p (⟨some d,.call ⟨.value a,l.toArray,g⟩,r,q,w,none⟩::rest) [] E I j:=YE s t hF o U i h
theorem Xr (t:QB ((b,G)::S) E a=some (.func (.func f) #[] cap.toArray))(J:l.map (QB ((b,G)::S) E)=vs.map some)(hF:Fun C.P f)(s:ZH ((b,G)::S)=true->Zj C.P f (vs++cap) I v)
  (i:Zt p ((b,G)::S) E ⟨some d,.call ⟨.value a,l.toArray,g⟩,r,q,w,A⟩)(o:Nat.blt d C.N=true)(u:Yf ((b,G)::S) E d=true)
  (h:XO C Q p rest ((b,(d,v)::G)::S) E I j):XO C Q p (⟨some d,.call ⟨.value a,l.toArray,g⟩,r,q,w,A⟩::rest) ((b,G)::S) E I j:=zkz t J hF s i o u h
theorem qf {f:FuncId}{l:List Operand}{vs:List Value}{g:Array TypeId}{a:Operand}{v:Value}(J:l.map (QB ((b,G)::S) E)=vs.map some)(hF:Fun C.P f)(s:ZH ((b,G)::S)=true->Zj C.P f (vs++[]) I v)(h:XO C Q p rest ((b,(d,v)::G)::S) E I j)(t:QB ((b,G)::S) E a=some (.func (.func f) #[] [].toArray):=by exact U)(i:Zt p ((b,G)::S) E ⟨some d,.call ⟨.value a,l.toArray,g⟩,r,q,w,A⟩:=by exact .some U U U U gbf)(o:Nat.blt d C.N=true:=by exact U)(u:Yf ((b,G)::S) E d=true:=by exact U):XO C Q p (⟨some d,.call ⟨.value a,l.toArray,g⟩,r,q,w,A⟩::rest) ((b,G)::S) E I j:=Xr t J hF s i o u h
theorem qg {f:FuncId}{l:List Operand}{vs:List Value}{g:Array TypeId}{a:Operand}{v:Value}(J:l.map (QB ((b,G)::S) E)=vs.map some)(hF:Fun C.P f)(s:ZH ((b,G)::S)=true->Zj C.P f (vs++[]) I v)(h:XO C Q p rest ((b,(d,v)::G)::S) E I j)(t:QB ((b,G)::S) E a=some (.func (.func f) #[] [].toArray):=by exact U)(i:Zt p ((b,G)::S) E ⟨some d,.call ⟨.value a,l.toArray,g⟩,r,q,w,A⟩:=by exact .some U U U U gbt)(o:Nat.blt d C.N=true:=by exact U)(u:Yf ((b,G)::S) E d=true:=by exact U):XO C Q p (⟨some d,.call ⟨.value a,l.toArray,g⟩,r,q,w,A⟩::rest) ((b,G)::S) E I j:=Xr t J hF s i o u h
theorem YG (t:QB [] E a=some (.func (.func f) #[] cap.toArray))(u:l.map (QB [] E)=vs.map some)(hF:Fun C.P f)(s:Zj C.P f (vs++cap) I v)(i:A=none)(o:Nat.blt d C.N=true)
  (h:XQ C Q p rest [] ((d,v)::E) I j):XQ C Q p (⟨some d,.call ⟨.value a,l.toArray,g⟩,r,q,w,A⟩::rest) [] E I j:=zi5 t u hF (fun _=>s) (.none i) o U h
theorem Va (t:QB ((b,G)::S) E a=some (.func (.func f) #[] cap.toArray))(J:l.map (QB ((b,G)::S) E)=vs.map some)(hF:Fun C.P f)(s:ZH ((b,G)::S)=true->Zj C.P f (vs++cap) I v)
  (i:Zt p ((b,G)::S) E ⟨some d,.call ⟨.value a,l.toArray,g⟩,r,q,w,A⟩)(o:Nat.blt d C.N=true)(u:Yf ((b,G)::S) E d=true)
  (h:XQ C Q p rest ((b,(d,v)::G)::S) E I j):XQ C Q p (⟨some d,.call ⟨.value a,l.toArray,g⟩,r,q,w,A⟩::rest) ((b,G)::S) E I j:=zi5 t J hF s i o u h
theorem XF (u:QB [] E a=some (.func (.func f) #[] cap.toArray))(J:l.map (QB [] E)=vs.map some)(hF:Fun C.P f)(i:YS j L R)(t:zk6 C.P f (vs++cap) I L v)(o:A=none)(s:Nat.blt d C.N=true)
  (h:XO C Q p rest [] ((d,v)::E) I j):XO C Q p (⟨some d,.call ⟨.value a,l.toArray,g⟩,r,q,w,A⟩::rest) [] E I j:=zi7 u J hF i (fun _=>t) (.none o) s U h
theorem zlD (u:QB ((b,G)::S) E a=some (.func (.func f) #[] cap.toArray))(K:l.map (QB ((b,G)::S) E)=vs.map some)(hF:Fun C.P f)(i:YS j L R)(t:ZH ((b,G)::S)=true->zk6 C.P f (vs++cap) I L v)
  (o:Zt p ((b,G)::S) E ⟨some d,.call ⟨.value a,l.toArray,g⟩,r,q,w,A⟩)(s:Nat.blt d C.N=true)(J:Yf ((b,G)::S) E d=true)
  (h:XO C Q p rest ((b,(d,v)::G)::S) E I j):XO C Q p (⟨some d,.call ⟨.value a,l.toArray,g⟩,r,q,w,A⟩::rest) ((b,G)::S) E I j:=zi7 u K hF i t o s J h
end
theorem KR {o:Oper}(v:Value)(a:ZH ((b,G)::S)=false)(i:Zt p ((b,G)::S) E o)(s:o.dst=some d)(l:Nat.blt d C.N=true)(t:Yf ((b,G)::S) E d=true)(h:XO C Q p rest ((b,(d,v)::G)::S) E I j):XO C Q p (o::rest) ((b,G)::S) E I j:=zBa v a i s l t h
end
section
variable {Q:Exit->Act->World->Prop} {E G:Env} {I a:Qu} {i j:Loc} {f:Array Oper} {rest:List Oper} {S:GS} {b:Bool}
theorem zgW {P:Program}{r:Option Nat}{N:Nat}{D:List Deferred}{g:World}{H:Qu}{d l:Nat}{z:TypeId}{o:String}{u:Array Edge}{x:Option (Nat×Bool)}{y:Operand}{s:List Operand}{vs:List Value}{p:Array TypeId}{Post:Bool->Qu->Qu->Prop}
  (K:QB ((b,G)::S) E y=some (.func (.yield l) #[] #[]))(J:s.map (QB ((b,G)::S) E)=vs.map some)(A:Zt f ((b,G)::S) E ⟨some d,.call ⟨.value y,s.toArray,p⟩,z,o,u,x⟩)(B:Nat.blt d N=true)(F:Yf ((b,G)::S) E d=true)
  (C:ZH ((b,G)::S)=true->W9 P g l vs I H Post)
  (h:∀ t a q,HLe I a->(ZH ((b,G)::S)=true->Post t a q)->(ZH ((b,G)::S)=false->a=I/\q=H)->XO ⟨P,r,N,D,g,q⟩ Q f rest ((b,(d,.bool t)::G)::S) E a i):
  XO ⟨P,r,N,D,g,H⟩ Q f (⟨some d,.call ⟨.value y,s.toArray,p⟩,z,o,u,x⟩::rest) ((b,G)::S) E I i:=ziM K J A U B F C h
theorem zgS {P:Program}{r:Option Nat}{N:Nat}{D:List Deferred}{g:World}{H:Qu}{d l:Nat}{J:TypeId}{p:String}{x:Array Edge}{s:Option (Nat×Bool)}{y:Operand}{u:List Operand}{vs:List Value}{q:Array TypeId}{Post:Bool->Qu->Qu->Prop}
  (F:QB [] E y=some (.func (.yield l) #[] #[]))(C:u.map (QB [] E)=vs.map some)(z:s=none)(A:Nat.blt d N=true)
  (B:W9 P g l vs I H Post)
  (h:∀ t a o,HLe I a->Post t a o->XO ⟨P,r,N,D,g,o⟩ Q f rest [] ((d,.bool t)::E) a i):
  XO ⟨P,r,N,D,g,H⟩ Q f (⟨some d,.call ⟨.value y,u.toArray,q⟩,J,p,x,s⟩::rest) [] E I i:=ziM F C (.none z) U A U (fun _=>B) (fun t a o h1 h2 _=>h t a o h1 (h2 U))
end
section
variable {I:Qu} {b a:Nat} {v:Value} {p:List Value} {j:Array Value} {t:TypeId} {n:Nat×Nat} {l F:Loc} {o w:Obj}
variable {d f g i q r s u x z y A B C D E:Nat×Obj}
theorem QO.h0 (h:zfj j.toList a=some v):QO I ((b,.cells j t n)::l) b a v:=.here h
theorem Cells.g0:Cells I ((b,.cells p.toArray t n)::l) b 0 p:=.here
theorem Mem.m0:Mem I ((b,o)::l) b o:=.inr kJ
theorem QO.h1 (h:zfj j.toList a=some v):QO I (d::(b,.cells j t n)::l) b a v:=.there (.here h)
theorem Cells.g1:Cells I (d::(b,.cells p.toArray t n)::l) b 0 p:=.there (.here)
theorem Upd.u1:Upd (d::(b,o)::l) b o w (d::(b,w)::l):=.there (.here)
theorem Zb.k1:Zb (d::(b,o)::l) b o (d::l):=.there (.here)
theorem Mem.m1:Mem I (d::(b,o)::l) b o:=.inr kJ
theorem QO.h2 (h:zfj j.toList a=some v):QO I (d::f::(b,.cells j t n)::l) b a v:=.there (.there (.here h))
theorem Cells.g2:Cells I (d::f::(b,.cells p.toArray t n)::l) b 0 p:=.there (.there (.here))
theorem Upd.u2:Upd (d::f::(b,o)::l) b o w (d::f::(b,w)::l):=.there (.there (.here))
theorem Zb.k2:Zb (d::f::(b,o)::l) b o (d::f::l):=.there (.there (.here))
theorem Mem.m2:Mem I (d::f::(b,o)::l) b o:=.inr kJ
theorem QO.h3 (h:zfj j.toList a=some v):QO I (d::f::g::(b,.cells j t n)::l) b a v:=.there (.there (.there (.here h)))
theorem Cells.g3:Cells I (d::f::g::(b,.cells p.toArray t n)::l) b 0 p:=.there (.there (.there (.here)))
theorem Zb.k3:Zb (d::f::g::(b,o)::l) b o (d::f::g::l):=.there (.there (.there (.here)))
theorem Mem.m3:Mem I (d::f::g::(b,o)::l) b o:=.inr kJ
theorem QO.h4 (h:zfj j.toList a=some v):QO I (d::f::g::i::(b,.cells j t n)::l) b a v:=.there (.there (.there (.there (.here h))))
theorem Cells.g4:Cells I (d::f::g::i::(b,.cells p.toArray t n)::l) b 0 p:=.there (.there (.there (.there (.here))))
theorem Zb.k4:Zb (d::f::g::i::(b,o)::l) b o (d::f::g::i::l):=.there (.there (.there (.there (.here))))
theorem Mem.m4:Mem I (d::f::g::i::(b,o)::l) b o:=.inr kJ
theorem QO.h5 (h:zfj j.toList a=some v):QO I (d::f::g::i::q::(b,.cells j t n)::l) b a v:=.there (.there (.there (.there (.there (.here h)))))
theorem Cells.g5:Cells I (d::f::g::i::q::(b,.cells p.toArray t n)::l) b 0 p:=.there (.there (.there (.there (.there (.here)))))
theorem Upd.u5:Upd (d::f::g::i::q::(b,o)::l) b o w (d::f::g::i::q::(b,w)::l):=.there (.there (.there (.there (.there (.here)))))
theorem Zb.k5:Zb (d::f::g::i::q::(b,o)::l) b o (d::f::g::i::q::l):=.there (.there (.there (.there (.there (.here)))))
theorem Mem.m5:Mem I (d::f::g::i::q::(b,o)::l) b o:=.inr kJ
theorem QO.h6 (h:zfj j.toList a=some v):QO I (d::f::g::i::q::r::(b,.cells j t n)::l) b a v:=.there (.there (.there (.there (.there (.there (.here h))))))
theorem Cells.g6:Cells I (d::f::g::i::q::r::(b,.cells p.toArray t n)::l) b 0 p:=.there (.there (.there (.there (.there (.there (.here))))))
theorem QO.h7 (h:zfj j.toList a=some v):QO I (d::f::g::i::q::r::s::(b,.cells j t n)::l) b a v:=.there (.there (.there (.there (.there (.there (.there (.here h)))))))
theorem Cells.g7:Cells I (d::f::g::i::q::r::s::(b,.cells p.toArray t n)::l) b 0 p:=.there (.there (.there (.there (.there (.there (.there (.here)))))))
theorem QO.h8 (h:zfj j.toList a=some v):QO I (d::f::g::i::q::r::s::u::(b,.cells j t n)::l) b a v:=.there (.there (.there (.there (.there (.there (.there (.there (.here h))))))))
theorem Cells.g8:Cells I (d::f::g::i::q::r::s::u::(b,.cells p.toArray t n)::l) b 0 p:=.there (.there (.there (.there (.there (.there (.there (.there (.here))))))))
theorem Upd.u8:Upd (d::f::g::i::q::r::s::u::(b,o)::l) b o w (d::f::g::i::q::r::s::u::(b,w)::l):=.there (.there (.there (.there (.there (.there (.there (.there (.here))))))))
theorem QO.h9 (h:zfj j.toList a=some v):QO I (d::f::g::i::q::r::s::u::x::(b,.cells j t n)::l) b a v:=.there (.there (.there (.there (.there (.there (.there (.there (.there (.here h)))))))))
theorem Cells.g9:Cells I (d::f::g::i::q::r::s::u::x::(b,.cells p.toArray t n)::l) b 0 p:=.there (.there (.there (.there (.there (.there (.there (.there (.there (.here)))))))))
theorem Zb.k9:Zb (d::f::g::i::q::r::s::u::x::(b,o)::l) b o (d::f::g::i::q::r::s::u::x::l):=.there (.there (.there (.there (.there (.there (.there (.there (.there (.here)))))))))
theorem Cells.g10:Cells I (d::f::g::i::q::r::s::u::x::z::(b,.cells p.toArray t n)::l) b 0 p:=.there (.there (.there (.there (.there (.there (.there (.there (.there (.there (.here))))))))))
theorem QO.h11 (h:zfj j.toList a=some v):QO I (d::f::g::i::q::r::s::u::x::z::y::(b,.cells j t n)::l) b a v:=.there (.there (.there (.there (.there (.there (.there (.there (.there (.there (.there (.here h)))))))))))
theorem QO.h12 (h:zfj j.toList a=some v):QO I (d::f::g::i::q::r::s::u::x::z::y::A::(b,.cells j t n)::l) b a v:=.there (.there (.there (.there (.there (.there (.there (.there (.there (.there (.there (.there (.here h))))))))))))
end
section
variable {C:Cx} {E:Env} {I:Qu} {g:Loc} {S:GS} {d:Option Tmp} {h:TypeId} {f:String} {i:Array Edge} {j:Option (Nat×Bool)} {x y:Operand}
variable {l n:Type} [DecidableEq l] {ek:l->Value} {ev:n->Value} {m:List (l×n)} {a:l}
theorem zgT {t k e r:Nat}{o:Value}(b:ZR m a=none)(q:MpT C.P t k e o)(p:Ke C.P k ek)(u:QB S E x=some (.map (some r)))(z:QB S E y=some (ek a))(s:ZH S=true->Mem I g r (Yg ek ev m)):
  Q2 C S E I g ⟨d,.lookup t x y true,h,f,i,j⟩ (.tuple #[o,.bool false]):=by
 have:=W5 (C:=C) (dst:=d) (ty:=h) (pos:=f) (af:=i) (gd:=j) q p u z s;rw [b] at this;exact this
theorem zfH {t k e r:Nat}{A:Value}{b:n}(o:ZR m a=some b)(q:MpT C.P t k e A)(p:Ke C.P k ek)(u:QB S E x=some (.map (some r)))(z:QB S E y=some (ek a))(s:ZH S=true->Mem I g r (Yg ek ev m)):
  Q2 C S E I g ⟨d,.lookup t x y true,h,f,i,j⟩ (.tuple #[ev b,.bool true]):=by
 have:=W5 (C:=C) (dst:=d) (ty:=h) (pos:=f) (af:=i) (gd:=j) q p u z s;rw [o] at this;exact this
end
theorem Q3 {L R:Loc}:UR L (L++R):=by
 induction L with
 | nil=>
  induction R with
  | nil=>exact .refl
  | cons x l ih=>exact .drop ih
 | cons x l ih=>exact .keep ih
def Jv {α:Type}(size:Nat)(enc:α->List Value)(xs:List α):Value->Qu->Loc->Prop:=fun v I' L=>L=[]/\∃ av c,v= .slice av xs.length c/\Sl I' size enc av xs.length c xs
variable{enc:α->List Value}
theorem OwnS.res {v:Value}{L:Loc}(h:OwnS e size v n (xs.flatMap enc) L)(i:∀ x,(enc x).length=size)(b:0<size)(j:St g I H L w):
  ∃ a,HLe I a/\St g a H [] w/\Jv size enc xs v a []:=by
 obtain ⟨a,d,c,h1,h2,h3,h4⟩:=OwnS.freeze (R:=[]) h i b (by rw [jw];exact j);have:=h4.len;subst this;exact ⟨a,h1,h2,U,d,c,h3,h4⟩
variable{x:α}{p:α->Bool}
theorem WW {k:Nat}(a:xs[k]? =some x):(xs.take (k+1)).filter p=(xs.take k).filter p++(if p x then [x] else []):=by rw [jz,a,jH];simp only [Option.toList_some,Oc,List.filter_nil]
section
variable {C:Cx} {Q:Exit->Act->World->Prop} {E G:Env} {I a:Qu} {f i L R:Loc} {j:Array Oper} {rest:List Oper} {S:GS} {b:Bool}
variable {d:Nat} {q:TypeId} {n:String} {r:Array Edge} {s:Option (Nat×Bool)}
theorem St.freezeAll {g:World}{H:Qu}{w:World}:∀ {f:Loc} {I:Qu},St g I H f w->∃ a,HLe I a/\St g a H [] w/\∀ b o,(b,o)∈f->a b=some o
 | [],I,h=>⟨I,zJH I,h,fun _ _ t=>by cases t⟩
 | (b,o)::l,I,h=>by
  obtain ⟨h1,h2,h3⟩:=h.freeze (b:=b) (o:=o) Zb.here;obtain ⟨a,h4,h5,h6⟩:=St.freezeAll h1;refine ⟨a,h2.trans h4,h5,fun c p t=>?_⟩;rcases jo.1 t with e | t
  ·cases e;exact h4 _ _ h3
  ·exact h6 c p t
def SlE {α:Type}(size:Nat)(enc:α->List Value)(xs:List α)(e:Int):Value->Qu->Loc->Prop:=fun v a L=>L=[]/\∃ av c,v= .tuple #[.slice av xs.length c,.int .i64 e]/\Sl a size enc av xs.length c xs
end
variable{C:Cx}{Q:Exit->Act->World->Prop}{E:Env}
theorem QP (h:At C Q .normal E I loc):At C (noP Q) .normal E I loc:=h
section
variable {C:Cx} {S:GS} {E:Env} {I:Qu} {f:Loc} {g:Option Nat} {o:Nat} {l:String} {p:Array Edge} {r:Option (Nat×Bool)} {x y:Operand}
theorem Sl.get0 {α:Type}{size:Nat}{enc:α->List Value}{a:Option Addr}{n c:Nat}{xs:List α}(h:Sl I size enc a n c xs){k:Nat}{x:α}{u:Value}(d:xs[k]? =some x)(b:(enc x)[0]? =some u):QO I f (Ab a) (Ao a+k*size) u:=
 zJJ h (j:=0) d b
abbrev zJA:=@Sl.get0
theorem Sl.getD0 {size : Nat} {enc : Int -> List Value} {a : Option Addr} {n c : Nat} {xs : List Int} (h : Sl I size enc a n c xs) {k : Nat} {d : Int} {u : Value} (b : k < n) (i : (enc (xs.getD k d))[0]? = some u) : QO I f (Ab a) (Ao a + k * size) u :=
  h.get0 (x := xs.getD k d) (by have : k < xs.length := by rw [h.len]; exact b
                                simp [List.getD, this]) i
def Ar2 (P:Program)(t e:Nat)(k:IntKind):Prop:=P.underlying t=some (.array 2 e)/\(P.info? e).isSome=true/\P.cellsOf e=1/\P.underlying e=some (.int k)/\P.eqGuardType P.depth t=false
theorem zhp {P:Program}{t e:Nat}{k:IntKind}(F:Ar2 P t e k)(w:World)(a b j s:Int)(d:Nat):
  (Op.equalIn (d+2) t (.agg #[.int k a,.int k b]) (.agg #[.int k j,.int k s])).run P w= .ok (a==j&&b==s) w:=by
 obtain ⟨J,D,G,B,_⟩:=F;obtain ⟨i,D⟩:=OW.1 D;have A:∀ w:World,(isAgg e).run P w= .ok false w:=fun w=>Y2 ⟨_,B,trivial⟩
 have z:∀ (w:World) (xs:Array Value) (q:Nat) (u:Value),xs[q]? =some u->(part e xs q).run P w= .ok u w:=fun w xs q u h=>by
  simp only [part,jg,A,Result.andThen,jy,Oa,h,jp]
 rw [run_equalIn_array w (d+1) _ _ J D,G];simp only [List.range,List.range.loop,Op.eqItems,jg,B8,By];rw [z w _ 0 (.int k a) rfl];simp only [Ax];rw [z w _ 0 (.int k j) rfl];simp only [Ax];rw [BM w d e k k a j B];simp only [Ax];cases h1:(a==j)
 ·rfl
 ·simp only [BW,jy,Oa,jg];rw [z w _ 1 (.int k b) rfl];simp only [Ax];rw [z w _ 1 (.int k s) rfl];simp only [Ax];rw [BM w d e k k b s B];cases h2:(b==s)<;>rfl
theorem zBC {t z e:TypeId}{k:IntKind}{a b d h:Int}(s:QB S E x=some (.agg #[.int k a,.int k b]))(u:QB S E y=some (.agg #[.int k d,.int k h]))(i:Ar2 C.P t e k):Q2 C S E I f ⟨g,.binOp .neq t x y z,o,l,p,r⟩ (.bool (!(a==d&&b==h))):=
 .of kF fun A w j hg q _=>by
  simp only [execOp,Qp j hg q s,Qp j hg q u,jg,BL w _ _ _ _ _ _ i.2.2.2.2,Result.andThen,run_neq_struct,zhp i w a b d h 9998,jp]
theorem zyA {t z e:TypeId}{k:IntKind}{a b d h:Int}(s:QB S E x=some (.agg #[.int k a,.int k b]))(u:QB S E y=some (.agg #[.int k d,.int k h]))(i:Ar2 C.P t e k):Q2 C S E I f ⟨g,.binOp .eql t x y z,o,l,p,r⟩ (.bool (a==d&&b==h)):=
 .of kF fun A w j hg q _=>by
  simp only [execOp,Qp j hg q s,Qp j hg q u,jg,BL w _ _ _ _ _ _ i.2.2.2.2,Result.andThen,run_eql_struct,zhp i w a b d h 9998,jp]
end
variable{ops:Array Oper}{dst:Option Nat}{T:Op}{ty:Nat}{pos:String}{af:Array Edge}{want:Bool}{oj:Oper}
theorem QR {rest:List Oper}{j dj:Nat}
  (o:ops[j]? =some oj)(l:oj.dst=some dj)(q:J9 E dj=some (.bool want))(h:XO C Q ops (⟨dst,T,ty,pos,af,none⟩::rest) [] E I loc):XO C Q ops (⟨dst,T,ty,pos,af,some (j,want)⟩::rest) [] E I loc:=by
 intro a w b hg s;have h1:=h a w b hg s;have i:Zt ops [(true,[])] E ⟨dst,T,ty,pos,af,some (j,want)⟩:=.some U o l (by simpa [WY,zie] using q) kJ;have d:=i.wanted b (show Ud [(true,[])] a from ⟨(fun _ _ e=>by cases e),trivial⟩);simp only [wpListIn] at h1 ⊢;rw [d];rw [(Zt.none U:Zt ops [] E ⟨dst,T,ty,pos,af,none⟩).wanted b trivial] at h1;exact h1
variable{V:Loc}{b:Nat}{o:Obj}
theorem Z5 {S:GS}{rest:List Oper}(j:Zb loc b o V)(h:∀ d,HLe I d->d b=some o->XO C Q ops rest S E d V):XO C Q ops rest S E I loc:=fun a w i hg l=>
 let ⟨h1,h2,h3⟩:=l.freeze j;h _ h2 h3 a w i hg h1
theorem zb7 {α:Type}{enc:α->List Value}{size:Nat}(a:∀ x,(enc x).length=size):∀ (xs:List α) (k:Nat) (x:α),xs[k]? =some x->∀ (j:Nat) (u:Value),(enc x)[j]? =some u->(xs.flatMap enc)[k*size+j]? =some u
 | [],k,x,hx,_,_,_=>by simp at hx
 | y::ys,0,x,hx,j,u,hu=>by
  simp at hx;subst hx;have d:=(jc.1 hu).1;rw [jV,B8,Oj,O3 d];exact hu
 | y::ys,k+1,x,hx,j,u,hu=>by
  rw [jV,O9,By,Ov (by rw [a];omega),a,show k*size+size+j-size=k*size+j from by omega];exact zb7 a ys k x (by simpa using hx) j u hu
variable{t:TypeId}
theorem Sl.lit (xs:List α)(d:xs.length=n)(h:∀ x,(enc x).length=size)(a:I b=some (.cells (xs.flatMap enc).toArray t (0,0))):Sl I size enc (some ⟨b,0,none⟩) n n xs:=
 ⟨d,jn _,fun _=>U,fun k x l j u i=>QO.imm a (by
  rw [Ve];have:=zb7 h xs k x l j u i
  simpa [Ao] using this)⟩
theorem Wc {k m:Nat}{v:Value}{L:Loc}(h:xs[k]? =some x)(d:p x=true)(a:OwnS e size v m (((xs.take k).filter p).flatMap enc++[enc x].flatten) L):OwnS e size v m (((xs.take (k+1)).filter p).flatMap enc) L:=by rw [WW h,jb d,jh];simpa using a
theorem za1 {k m:Nat}{v:Value}{L:Loc}(h:xs[k]? =some x)(d:p x=false)(a:OwnS e size v m (((xs.take k).filter p).flatMap enc) L):OwnS e size v m (((xs.take (k+1)).filter p).flatMap enc) L:=by rw [WW h,ja (by rw [d];exact O7),jw];exact a
theorem zhz {k:Nat}(d:xs[k]? =some x)(a:p x=true):(xs.take k).filter p++[x]<+:xs.filter p:=by
 have:(xs.take k).filter p++[x]=(xs.take (k+1)).filter p:=by rw [WW d,jb a]
 rw [this];exact (List.take_prefix (k+1) xs).filter p
theorem Zp {L:Loc}:YS L L []:=by have:=Q6 (A:=L) (B:=[]);rwa [jw] at this
theorem Wq {L:Loc}:UR [] L:=Q3 (L:=[])
variable{A B:Loc}
theorem Z4 {L:Loc}(h:UR A B):UR (L++A) (L++B):=by
 induction L with
 | nil=>exact h
 | cons x l ih=>exact .keep ih
theorem QO.app {a:Nat}{v:Value}(h:QO I B b a v):QO I (A++B) b a v:=by
 induction A with
 | nil=>exact h
 | cons x l ih=>exact .there ih
abbrev zJD:=@QO.app
variable{M:Env->Qu->Qu->Loc->Prop}{Z:Cx}
theorem zbA (j:Z.N=C.N)(d:Z.D=C.D)(hg:Z.g=C.g)(a:Env)(V:Loc)(i:M a I C.H V)(h:Sub a E)(q:UR V loc):At C (Exit.then (zI3 Z M) Q) .normal E I loc:=
 fun _ _ l s=>⟨a,I,C.H,V,i,by rw [j,d];exact l.sub h,by rw [hg];exact s.subL q⟩
theorem JO (h:At C (bodyPost P fn R) .ret E I loc):At C (bodyPost P fn R) .normal E I loc:=h
theorem OwnS.one {v:Value}{xs:List Value}{L:Loc}(h:OwnS e size v n xs L):v.oneCell'=true:=by rcases h.2 with ⟨rfl,_,_⟩ | ⟨b,c,a,rfl,_⟩<;>rfl
theorem OwnS.freeze' {v:Value}{L:Loc}(i:OwnS e size v n (xs.flatMap enc) L)(j:∀ x,(enc x).length=size)(h:0<size)(l:St g I H L w):
  ∃ a,HLe I a/\St g a H [] w/\∃ d c,v= .slice d n c/\Sl a size enc d n c xs:=by
 obtain ⟨a,d,c,h1,h2,h3,h4⟩:=OwnS.freeze (R:=[]) i j h (by rw [jw];exact l);exact ⟨a,h1,h2,d,c,h3,h4⟩
theorem OwnS.shape {v:Value}{xs:List Value}{L:Loc}(h:OwnS e size v n xs L):∃ a c,v= .slice a n c:=by
 rcases h.2 with ⟨rfl,rfl,_⟩ | ⟨b,c,d,rfl,_⟩
 ·exact ⟨_,_,U⟩
 ·exact ⟨_,_,U⟩
variable{Jc:List α->Qu->Loc->Prop}{Y:Code->List α->Qu->Loc->Prop}{pre:List α}
theorem zcb (h:Jc pre I V)(a:UR V loc):At C (zdx C.g C.H Jc Y pre) .normal E I loc:=fun _ _ _ d=>⟨I,V,h,d.subL a⟩
variable{ek:α->Value}{gd:Option (Nat×Bool)}{seen:List Nat}
theorem KP {K:Type}{ev:K->Value}{m:List (α×K)}{rest:List Oper}{x:Operand}{ty J:TypeId}{u:String}{z:Array Edge}{j:Option (Nat×Bool)}
  {d D r:Nat}(F:List Nat->Loc)(hF:F seen=loc)(hU:∀ a,Upd loc b (VS r m.length seen) (VS r m.length a) (F a))(hx:QB [] E x=some (.pointer (some ⟨b,0,none⟩)))(O:gd=none)(l:j=none)(W:Nat.blt d C.N=true)(q:Nat.blt D C.N=true)
  (hm:Mem I loc r (Yg ek ev m))(hb:(b,VS r m.length seen)∈loc)
  (h:∀ (t:Bool) (tv:Value) (a:List Nat),(t=false->a=seen/\∀ i p,m[i]? =some p->i∈seen)->(t=true->∃ i p,m[i]? =some p/\i∉seen/\a=seen++[i])->XO C Q ops rest [] ((D,.bool t)::(d,tv)::E) I (F a)):
  XO C Q ops (⟨some d,.next x false,ty,pos,af,gd⟩::⟨some D,.extract (.tmp d) 0,J,u,z,j⟩::rest) [] E I loc:=by
 have y:∀ v,QB [] ((d,v)::E) (.tmp d)=some v:=fun v=>(by simp [QB,zie,J9]);refine zAN hx O W hm hb (fun s=>?_) (fun i p hp G=>⟨F (seen++[i]),hU _,?_⟩)
 ·rw [<-hF];exact zbd (zaw (y _) U) l U q (h false _ seen (fun _=>⟨U,s⟩) (fun e=>by cases e))
 ·exact zbd (zaw (y _) U) l U q (h true _ _ (fun e=>by cases e) (fun _=>⟨i,p,hp,G,U⟩))
theorem KH {m:List α}(d:seen.Nodup)(a:∀ i∈seen,i<m.length):seen.length<=m.length:=by have:=BF d (l₂:=List.range m.length) (fun i h=>jq.2 (a i h));simpa using this
theorem zcq {m:List α}(j:seen.Nodup)(d:∀ i∈seen,i<m.length)(a:∀ i (p:α),m[i]? =some p->i∈seen):seen.Perm (List.range m.length):=
 (Bd j List.nodup_range).2 fun i=>⟨fun h=>jq.2 (d i h),fun h=>by
  have l:=jq.1 h
  exact a i m[i] (jf l)⟩
theorem zg7 {α:Type}:∀ (m:List α),(List.range m.length).filterMap (fun i=>m[i]?)=m
 | []=>rfl
 | x::m=>by
  rw [jx,List.range_succ_eq_map,List.filterMap_cons];simp only [Bv,List.filterMap_map,BZ,OZ];rw [zg7 m]
theorem zgw {S:GS}{t:Nat}{G J:Value}{x y:Operand}{a b:Int}
  (s:Ar2 C.P t e .i64)(F:YX C.P t (.agg #[G,J]))(z:QB S E x=some (.int .i64 a))(D:QB S E y=some (.int .i64 b)):
  Q2 C S E I loc ⟨dst,.build t #[(0,x),(1,y)],ty,pos,af,gd⟩ (.agg #[.int .i64 a,.int .i64 b]):=
 .of kF fun W w l hg q O=>by
  obtain ⟨u,h,d,K,_⟩:=s;obtain ⟨i,h⟩:=OW.1 h;have j:∀ w:World,(sizeOf e).run C.P w= .ok 1 w:=fun w=>(by have h1:=Go.run_sizeOf (w:=w) h;rw [d] at h1;exact h1);simp only [execOp,Instr.build,jg,Yq F,Result.andThen,jQ u,j,OF,jF,Ah,Qp l hg q z,Qp l hg q D];rfl
def VE (p:Int×Int):Value:=.agg #[.int .i64 p.1,.int .i64 p.2]
end
end Go.Kn
