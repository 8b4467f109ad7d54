/- topOrigins_holds, part A of the proof: what its theorems say holds without further conditions. -/
import Derived.TacticsIn
import Derived.RangeFuncRecord
import Derived.RangeFuncNested
import Derived.Laws.Entries
import Derived.Laws.Cells
import Derived.Laws.AppendOwn
import Derived.Below
import Derived.IntWalk
import Derived.Deep.Quiet
import Derived.OrdersIn
import Derived.OrdersHeld
import Derived.Laws.StructEq
import Derived.Lib.Hide
import Derived.ChangeKeysEq
namespace Go
theorem U.{u}{α:Sort u}{a:α}:a=a:=rfl
abbrev ja:=@if_neg
abbrev jb:=@if_pos
abbrev jc:=@List.getElem?_eq_some_iff
abbrev jd:=@List.mem_of_getElem?
abbrev je:=@List.getElem?_eq_getElem
abbrev jf:=@Nat.zero_le
abbrev jg:=@Sem.run_bind
abbrev jh:=@List.length_append
abbrev ji:=@List.all_eq_true
abbrev jj:=@Bool.and_eq_true
abbrev jk:=@List.mem_cons_self
abbrev jl:=@Sem.run_pure
abbrev jm:=@List.mem_range
abbrev jn:=@List.append_assoc
abbrev jo:=@List.flatMap_append
abbrev jp:=@List.mem_cons
abbrev jq:=@List.mem_cons_of_mem
abbrev jr:=@congrArg
abbrev js:=@Nat.le_refl
abbrev jt:=@List.mem_map
abbrev ju:=@List.any_eq_true
abbrev jv:=@List.mem_append
abbrev jw:=@List.length_cons
abbrev jx:=@List.map_cons
abbrev jy:=@List.take_append_drop
abbrev jz:=@List.append_nil
abbrev jA:=@List.mem_singleton
abbrev jB:=@Bool.false_eq_true
abbrev jC:=@List.getElem?_of_mem
abbrev jD:=@List.take_of_length_le
abbrev jE:=@List.length_map
abbrev jF:=@List.mem_filter
abbrev jG:=@List.length_singleton
abbrev jH:=@List.length_take
abbrev jI:=@DataW.trod_int
abbrev jJ:=@List.any_eq_false
abbrev jK:=@run_underlying
abbrev jL:=@Bool.eq_iff_iff
abbrev jM:=@List.pairwise_iff_getElem
abbrev jN:=@List.filter_append
abbrev jO:=@List.flatMap_cons
abbrev jP:=@List.take_add_one
abbrev jQ:=@decide_eq_true_eq
abbrev jR:=@List.length_eq_zero_iff
abbrev jS:=@Bool.not_eq_true'
abbrev jT:=@Nat.le_trans
abbrev jU:=@Option.some.injEq
abbrev jV:=@List.pairwise_cons
abbrev jW:=@Option.isSome_iff_exists
abbrev jX:=@decide_eq_true
abbrev jY:=@Option.map_eq_some_iff
abbrev jZ:=@List.map_append
abbrev j0:=@beq_iff_eq
abbrev j1:=@decide_eq_false
abbrev j2:=@if_false
abbrev j3:=@List.length_filter_le
abbrev j4:=@List.eq_nil_of_length_eq_zero
abbrev j5:=@List.getElem?_map
abbrev j6:=@List.map_toArray
abbrev j7:=@List.length_drop
abbrev j8:=@List.nil_append
abbrev j9:=@Option.map_some
abbrev Oa:=@List.drop_eq_nil_of_le
abbrev Ob:=@Option.some.inj
abbrev Oc:=@Nat.zero_add
abbrev Od:=@List.foldl_append
abbrev Oe:=@List.filter_cons
abbrev Of:=@List.foldl_cons
abbrev Oh:=@List.size_toArray
abbrev Oi:=@of_decide_eq_true
abbrev Oj:=@if_true
abbrev Ok:=@Array.getD_eq_getD_getElem?
abbrev Ol:=@List.perm_append_comm_assoc
abbrev Om:=@List.filter_eq_nil_iff
abbrev On:=@Bool.or_eq_false_iff
abbrev Oo:=@List.map_nil
abbrev Oq:=@Oper.uponIn_value
abbrev Or:=@List.find?_eq_none
abbrev Ot:=@List.getD_eq_getElem?_getD
abbrev Ou:=@List.range_succ
abbrev Ov:=@List.pairwise_append
abbrev Ow:=@List.takeWhile_append_dropWhile
abbrev Ox:=@Bool.not_eq_false'
abbrev Oy:=@List.getElem?_eq_none
abbrev Oz:=@List.nodup_append
abbrev OA:=@List.mem_of_find?_eq_some
abbrev OB:=@Nat.mul_one
abbrev OC:=@Bool.false_or
abbrev OD:=@Bool.or_eq_true
abbrev OE:=@List.cons_append
abbrev OF:=@not_true_eq_false
abbrev OG:=@List.filter_cons_of_pos
abbrev OH:=@Array.getElem?_eq_some_iff
abbrev OI:=@List.getElem?_append_right
abbrev OJ:=@Nat.add_mul
abbrev OK:=@List.filter_eq_self
abbrev OL:=@Bool.or_false
abbrev OM:=@Bool.true_and
abbrev ON:=@Classical.choose_spec
abbrev OO:=@List.getElem?_toArray
abbrev OP:=@List.perm_append_comm
abbrev OQ:=@List.nodup_cons
abbrev OR:=@List.filter_cons_of_neg
abbrev OS:=@List.getElem_mem
abbrev OT:=@List.drop_drop
abbrev OU:=@List.length_range
abbrev OV:=@List.pairwise_map
abbrev OW:=@Result.andThen_ok
abbrev OX:=@Array.getElem?_eq_getElem
abbrev OY:=@Decidable.byContradiction
abbrev OZ:=@List.find?_cons
abbrev O0:=@List.perm_middle
abbrev O1:=@of_decide_eq_false
abbrev O2:=@Nat.mul_le_mul_right
abbrev O3:=@List.getElem?_cons_zero
abbrev O4:=@List.length_nil
abbrev O5:=@Array.length_toList
abbrev O6:=@List.map_congr_left
abbrev O7:=@Nat.mul_le_mul_left
abbrev O8:=@Oper.semAt_eq
abbrev O9:=@Array.getElem?_toList
abbrev Aa:=@Bool.and_false
abbrev Ac:=@List.mapM_cons
abbrev Ad:=@Nat.eq_of_beq_eq_true
abbrev Ae:=@run_equalIn_struct
abbrev Af:=@List.mem_take_iff_getElem
abbrev Ag:=@List.mem_append_left
abbrev Ah:=@List.mem_of_mem_take
abbrev Ai:=@List.ext_getElem?
abbrev Aj:=@wpIn_mono
abbrev Ak:=@List.flatMap_eq_nil_iff
abbrev Al:=@List.getElem?_cons_succ
abbrev Am:=@beq_eq_false_iff_ne
abbrev An:=@Bool.and_assoc
abbrev Ap:=@List.mem_flatMap
abbrev Aq:=@Int.le_refl
abbrev Ar:=@List.getElem?_take
abbrev As:=@run_loadCells_list
abbrev Au:=@List.all_append
abbrev Av:=@List.find?_some
abbrev Aw:=@Nat.le_of_ble_eq_true
abbrev Ax:=@List.setIfInBounds_toArray
abbrev Ay:=@Nat.eq_of_mul_eq_mul_right
abbrev Az:=@List.mem_range'_1
abbrev AA:=@List.getElem?_append
abbrev AB:=@List.getElem?_append_left
abbrev AC:=@Nat.pow_le_pow_right
abbrev AD:=@Oper.uponIn_skip
abbrev AE:=@Int.toNat_of_nonneg
abbrev AF:=@decide_eq_false_iff_not
abbrev AG:=@List.sum_cons
abbrev AH:=@Bool.false_ne_true
abbrev AI:=@List.cons.injEq
abbrev AJ:=@List.getElem?_drop
abbrev AK:=@Nat.lt_of_le_of_lt
abbrev AL:=@List.length_pos_of_mem
abbrev AM:=@Option.map_eq_none_iff
abbrev AN:=@run_endLoop
abbrev AO:=@List.take_append_of_le_length
abbrev AP:=@Bool.eq_false_iff
abbrev AQ:=@List.find?_append
abbrev AR:=@Act.put_comm
abbrev AS:=@Array.ext'
abbrev AT:=@Array.toArray_toList
abbrev AU:=@List.take_length
abbrev AV:=@Nat.blt_eq
abbrev AW:=@Int.fdiv_eq_ediv_of_nonneg
abbrev AX:=@Prod.mk.injEq
abbrev AY:=@List.getElem?_range
abbrev AZ:=@List.length_take_le
abbrev A0:=@List.mergeSort_perm
abbrev A1:=@List.any_append
abbrev A2:=@List.drop_eq_getElem_cons
abbrev A3:=@List.length_set
abbrev A4:=@List.prefix_rfl
abbrev A5:=@Option.map_none
abbrev A6:=@run_eqGuard_agg
abbrev A7:=@List.Perm.eq_of_pairwise
abbrev A8:=@List.append_of_mem
abbrev A9:=@List.getElem?_take_of_lt
abbrev Ba:=@Nat.add_sub_cancel
abbrev Bb:=@getElem!_pos
abbrev Bc:=@Bool.false_and
abbrev Bd:=@List.take_left
abbrev Be:=@Nat.mod_lt
abbrev Bf:=@Option.or_none
abbrev Bg:=@List.pairwise_mergeSort
abbrev Bh:=@Nat.add_sub_cancel_left
abbrev Bi:=@run_equalIn_bool'
abbrev Bj:=@List.append_eq_nil_iff
abbrev Bk:=@List.getElem?_set_self
abbrev Bl:=@List.set_eq_take_append_cons_drop
abbrev Bm:=@Nat.one_mul
abbrev Bn:=@ne_eq
abbrev Bo:=@Bool.not_eq_true
abbrev Bp:=@List.findIdx_lt_length_of_exists
abbrev Bq:=@List.isEmpty_iff
abbrev Br:=@Nat.le_of_not_lt
abbrev Bs:=@run_newObj_alloc
abbrev Bt:=@Array.getElem?_modify
abbrev Bu:=@Bool.and_eq_false_iff
abbrev Bv:=@List.length_mergeSort
abbrev Bw:=@List.mem_append_right
abbrev Bx:=@List.set_append_right
abbrev By:=@Ne.symm
abbrev Bz:=@Decidable.em
abbrev BA:=@List.Nodup.length_le_of_subset
abbrev BB:=@List.eq_nil_iff_forall_not_mem
abbrev BC:=@List.map_map
abbrev BD:=@List.mem_iff_getElem
abbrev BE:=@Nat.le_of_lt
abbrev BF:=@Nat.sub_self
abbrev BG:=@Region.noSelect_spec
abbrev BH:=@run_equalIn_int
abbrev BI:=@List.dropWhile_cons
abbrev BJ:=@List.getElem_of_mem
abbrev BK:=@run_enterLoop_outer
abbrev BL:=@dif_pos
abbrev BM:=@wpIn_rangeFunc
abbrev BN:=@List.mem_filterMap
abbrev BO:=@List.ne_nil_of_mem
abbrev BP:=@grownCap_le_maxLen
abbrev BQ:=@Bool.not_true
abbrev BR:=@Nat.add_assoc
abbrev BS:=@Function.comp_def
abbrev BT:=@Int.toNat_natCast
abbrev BU:=@List.all_eq_false
abbrev BV:=@List.find?_isSome
abbrev BW:=@Nat.lt_trichotomy
abbrev BX:=@Oper.uponIn_enter
abbrev BY:=@Bool.or_true
abbrev BZ:=@List.nil_sublist
abbrev B0:=@List.prefix_refl
abbrev B1:=@Nat.add_zero
abbrev B2:=@Nat.lt_or_ge
abbrev B3:=@Nat.zero_mul
abbrev B4:=@Region.free_spec
abbrev B5:=@World.size_alloc
abbrev B6:=@beq_self_eq_true
abbrev B7:=@decide_false
abbrev B8:=@not_or
end Go
namespace Go
theorem kA {P:Prop}(h:P:=by kernel_rfl):P:=h
theorem kB {P:Prop}(h:P:=by omega):P:=h
theorem kC {P:Prop}(h:P:=by intro c e;cases e):P:=h
theorem kD {P:Prop}(h:P:=by repeat (first | exact .refl | exact QS | exact Yb | refine Zr ?_ | refine .keep ?_ | refine .drop ?_ | refine Zp ?_)):P:=h
theorem kE {P:Prop}(h:P:=by decide):P:=h
theorem kF {P:Prop}(h:P:=by repeat (first | exact jk .. | apply jq)):P:=h
theorem kG {P:Prop}(h:P:=by repeat (first | exact zGL | apply zGK | apply zGM)):P:=h
theorem kH {P:Prop}(h:P:=by repeat (first | exact .refl | exact QS | refine Zr ?_ | refine .drop ?_ | refine Zp ?_)):P:=h
theorem kI {P:Prop}(h:P:=by assumption):P:=h
theorem kJ {P:Prop}(h:P:=by repeat (first | exact zGL | apply zGK)):P:=h
theorem kK {P:Prop}(h:P:=by simp):P:=h
theorem kL {P:Prop}(h:P:=by rfl):P:=h
theorem kM {P:Prop}(h:P:=by simp;omega):P:=h
theorem kN {P:Prop}(h:P:=by simp only [jw];omega):P:=h
theorem kO {P:Prop}(h:P:=by rw [Yr];omega):P:=h
theorem kP {P:Prop}(h:P:=by rw [e];simp):P:=h
end Go
namespace Go.Kn
section
open Go
abbrev Env:=List (Nat×Value)
def Jl:Env->Nat->Option Value
 | [],_=>none
 | (k,v)::E,i=>bif Nat.beq k i then some v else Jl E i
abbrev Qt:=Nat->Option Obj
abbrev Loc:=List (Nat×Obj)
def HLe (I I':Qt):Prop:=∀ b o,I b=some o->I' b=some o
theorem HLe.refl (I:Qt):HLe I I:=fun _ _ h=>h
abbrev zGN:=@HLe.refl
variable{I:Qt}
theorem HLe.trans {J K:Qt}(h:HLe I J)(k:HLe J K):HLe I K:=fun b o e=>k b o (h b o e)
structure St (g:World)(I H:Qt)(loc:Loc)(w:World):Prop where
 os:w.os=g.os
 tape:w.tape=g.tape
 out:w.output=g.output
 size:g.heap.size<=w.heap.size/\g.drawn<=w.drawn
 imm:∀ b o,I b=some o->w.heap[b]? =some o
 frm:∀ b o,H b=some o->w.heap[b]? =some o
 own:∀ b o,(b,o)∈loc->w.heap[b]? =some o
 sepIH:∀ b,I b=none\/H b=none
 sepIL:∀ b o,(b,o)∈loc->I b=none/\H b=none
 nodup:(loc.map (·.1)).Nodup
section
variable {g:World} {I I' H:Qt} {loc loc':Loc} {w w':World}
theorem St.fresh (h:St g I H loc w):I w.heap.size=none/\H w.heap.size=none/\∀ o,(w.heap.size,o)∉loc:=by
 refine ⟨?_,?_,fun o ho=>?_⟩
 ·cases e:I w.heap.size with
  | none=>rfl
  | some o=>have:=h.imm _ _ e;simp at this
 ·cases e:H w.heap.size with
  | none=>rfl
  | some o=>have:=h.frm _ _ e;simp at this
 ·have:=h.own _ _ ho;simp at this
theorem St.alloc (h:St g I H loc w)(o:Obj):St g I H ((w.heap.size,o)::loc) (w.alloc o):=by
 have hn:∀ b o',w.heap[b]? =some o'->(w.alloc o).heap[b]? =some o':=fun b o' e=>by
  have hb:b<w.heap.size:=(OH.1 e).1;show (w.heap.push o)[b]? =_;rw [Array.getElem?_push,ja kB];exact e
 obtain ⟨f1,f2,f3⟩:=h.fresh;refine ⟨h.os,h.tape,h.out,?_,fun b o' e=>hn _ _ (h.imm b o' e),fun b o' e=>hn _ _ (h.frm b o' e),?_,h.sepIH,?_,?_⟩
 ·exact ⟨by have:=h.size.1;show _<=(w.heap.push o).size;simp;omega,h.size.2⟩
 ·intro b o' hm;rcases jp.1 hm with e | hm
  ·cases e;show (w.heap.push o)[w.heap.size]? =_;simp
  ·exact hn _ _ (h.own b o' hm)
 ·intro b o' hm;rcases jp.1 hm with e | hm
  ·cases e;exact ⟨f1,f2⟩
  ·exact h.sepIL b o' hm
 ·simp only [jx,OQ];refine ⟨fun hm=>?_,h.nodup⟩;obtain ⟨⟨b,o'⟩,hm,e⟩:=jt.1 hm;simp only at e;subst e;exact f3 _ hm
theorem St.mono (h:St g I H loc w)(hI:HLe I' I):St g I' H loc w:=
  ⟨h.os,h.tape,h.out,h.size,fun b o e=>h.imm b o (hI b o e),h.frm,h.own,
   fun b=>by
     rcases h.sepIH b with e | e
     · left;cases e':I' b with
       | none=>rfl
       | some o=>have:=hI b o e';rw [e] at this;cases this
     · exact .inr e,
   fun b o hm=>⟨(by
      cases e':I' b with
      | none=>rfl
      | some o'=>have:=hI b o' e';rw [(h.sepIL b o hm).1] at this;cases this),(h.sepIL b o hm).2⟩,h.nodup⟩
inductive Upd:Loc->Nat->Obj->Obj->Loc->Prop
 | here {b:Nat} {o o':Obj} {l:Loc}:Upd ((b,o)::l) b o o' ((b,o')::l)
 | there {x:Nat×Obj} {b:Nat} {o o':Obj} {l l':Loc} (h:Upd l b o o' l'):Upd (x::l) b o o' (x::l')
theorem Upd.mem {b:Nat}{o o':Obj}(h:Upd loc b o o' loc'):(b,o)∈loc:=by
 induction h with
 | here=>exact jk ..
 | there _ ih=>exact jq _ ih
theorem Upd.keys {b:Nat}{o o':Obj}(h:Upd loc b o o' loc'):loc'.map (·.1)=loc.map (·.1):=by
 induction h with
 | here=>rfl
 | there _ ih=>simp [ih]
theorem Upd.mem' {b:Nat}{o o':Obj}(h:Upd loc b o o' loc')(hn:(loc.map (·.1)).Nodup):∀ c p,(c,p)∈loc'->(c=b/\p=o')\/(c≠b/\(c,p)∈loc):=by
 induction h with
 | here=>
  intro c p hm;simp only [jx,OQ] at hn;rcases jp.1 hm with e | hm2
  ·cases e;exact .inl ⟨U,U⟩
  ·refine .inr ⟨fun e=>?_,jq _ hm2⟩;subst e;exact hn.1 (jt.2 ⟨(_,p),hm2,U⟩)
 | @there x b o o' l l' h ih=>
  intro c p hm;simp only [jx,OQ] at hn;rcases jp.1 hm with e | hm
  ·subst e;refine .inr ⟨fun e=>?_,jk ..⟩;subst e;exact hn.1 (jt.2 ⟨_,h.mem,U⟩)
  ·rcases ih hn.2 c p hm with e | ⟨e,hm⟩
   ·exact .inl e
   ·exact .inr ⟨e,jq _ hm⟩
theorem St.turn (h:St g I H loc w){b:Nat}{o o':Obj}(hu:Upd loc b o o' loc')(ho:w'.os=w.os)(ht:w'.tape=w.tape)(hp:w'.output=w.output)(hs:w'.heap.size=w.heap.size)
  (hb:w'.heap[b]? =some o')(hr:∀ c,c≠b->w'.heap[c]? =w.heap[c]?)(hd:w.drawn<=w'.drawn:=by exact js _):St g I H loc' w':=by
 have hI:∀ c o,I c=some o->c≠b:=fun c p e e'=>(by subst e';rw [(h.sepIL _ _ hu.mem).1] at e;cases e);have hH:∀ c o,H c=some o->c≠b:=fun c p e e'=>(by subst e';rw [(h.sepIL _ _ hu.mem).2] at e;cases e);refine ⟨ho.trans h.os,ht.trans h.tape,hp.trans h.out,⟨by rw [hs];exact h.size.1,jT h.size.2 hd⟩,fun c p e=>(hr c (hI c p e)).trans (h.imm c p e),fun c p e=>(hr c (hH c p e)).trans (h.frm c p e),?_,h.sepIH,?_,by rw [hu.keys];exact h.nodup⟩
 ·intro c p hm;rcases hu.mem' h.nodup c p hm with ⟨rfl,rfl⟩ | ⟨e,hm⟩
  ·exact hb
  ·exact (hr c e).trans (h.own c p hm)
 ·intro c p hm;rcases hu.mem' h.nodup c p hm with ⟨rfl,rfl⟩ | ⟨e,hm⟩
  ·exact h.sepIL _ _ hu.mem
  ·exact h.sepIL c p hm
theorem St.setCell (h:St g I H loc w){b off:Nat}{c:Array Value}{t:TypeId}{fz:Nat×Nat}{v:Value}(hu:Upd loc b (.cells c t fz) (.cells (c.setIfInBounds off v) t fz) loc'):
  St g I H loc' (w.setCell ⟨b,off,none⟩ v):=by
 have hb:=h.own _ _ hu.mem;refine h.turn hu U U U (by simp [World.setCell]) ?_ (fun c hc=>Below.heap_setCell _ _ _ _ hc);simp only [World.setCell,Bt,jb,hb,j9];simp
where Below.heap_setCell (w:World) (a:Addr) (u:Value) (k:Nat) (h:k≠a.block):(w.setCell a u).heap[k]? =w.heap[k]? :=RowKit.Below.heap_setCell w a u k h
theorem St.putObj (h:St g I H loc w){b:Nat}{o o':Obj}(hu:Upd loc b o o' loc'):St g I H loc' (w.putObj b o'):=by have hb:=h.own _ _ hu.mem;have hlt:b<w.heap.size:=(OH.1 hb).1;exact h.turn hu U U U kK (World.putObj_heap_same hlt) (fun c hc=>World.putObj_heap_other hc)
theorem St.drew (h:St g I H loc w):St g I H loc {w with drawn:=w.drawn+1}:=
 ⟨h.os,h.tape,h.out,⟨h.size.1,Nat.le_succ_of_le h.size.2⟩,h.imm,h.frm,h.own,h.sepIH,h.sepIL,h.nodup⟩
theorem St.drew' (h:St g I H loc w):St g I H loc w.drew:=h.drew
inductive Zf:Loc->Nat->Obj->Loc->Prop
 | here {b:Nat} {o:Obj} {l:Loc}:Zf ((b,o)::l) b o l
 | there {x:Nat×Obj} {b:Nat} {o:Obj} {l l':Loc} (h:Zf l b o l'):Zf (x::l) b o (x::l')
theorem Zf.mem {b:Nat}{o:Obj}(h:Zf loc b o loc'):(b,o)∈loc:=by
 induction h with
 | here=>exact jk ..
 | there _ ih=>exact jq _ ih
theorem Zf.sub {b:Nat}{o:Obj}(h:Zf loc b o loc'):∀ c p,(c,p)∈loc'->(c,p)∈loc:=by
 induction h with
 | here=>exact fun c p hm=>jq _ hm
 | there _ ih=>exact fun c p hm=>(jp.1 hm).elim (fun e=>e ▸ jk ..) (fun hm=>jq _ (ih c p hm))
theorem Zf.nodup {b:Nat}{o:Obj}(h:Zf loc b o loc')(hn:(loc.map (·.1)).Nodup):(loc'.map (·.1)).Nodup/\∀ p,(b,p)∉loc':=by
 induction h with
 | here=>
  simp only [jx,OQ] at hn;exact ⟨hn.2,fun p hm=>hn.1 (jt.2 ⟨(_,p),hm,U⟩)⟩
 | @there x b o l l' h ih=>
  simp only [jx,OQ] at hn ⊢;obtain ⟨i1,i2⟩:=ih hn.2;refine ⟨⟨fun hm=>?_,i1⟩,fun p hm=>?_⟩
  ·obtain ⟨⟨c,p⟩,hm,e⟩:=jt.1 hm;exact hn.1 (jt.2 ⟨_,h.sub _ _ hm,e⟩)
  ·rcases jp.1 hm with e | hm
   ·subst e;exact hn.1 (jt.2 ⟨_,h.mem,U⟩)
   ·exact i2 p hm
def zs1 (I:Qt)(b:Nat)(o:Obj):Qt:=fun x=>if x=b then some o else I x
def Vz (I:Qt):Loc->Qt
 | []=>I
 | (b,o)::l=>fun x=>if x=b then some o else Vz I l x
theorem St.freeze (h:St g I H loc w){b:Nat}{o:Obj}(ht:Zf loc b o loc'):St g (zs1 I b o) H loc' w/\HLe I (zs1 I b o)/\zs1 I b o b=some o:=by
 obtain ⟨n1,n2⟩:=ht.nodup h.nodup;refine ⟨⟨h.os,h.tape,h.out,h.size,?_,h.frm,fun c p hm=>h.own c p (ht.sub c p hm),?_,?_,n1⟩,?_,by simp [zs1]⟩
 ·intro c p e;simp only [zs1] at e;split at e
  ·cases e;rename_i e;subst e;exact h.own _ _ ht.mem
  ·exact h.imm c p e
 ·intro c;by_cases e:c=b
  ·subst e;exact .inr (h.sepIL _ _ ht.mem).2
  ·simp only [zs1,ja e];exact h.sepIH c
 ·intro c p hm;have hne:c≠b:=fun e=>(by subst e;exact n2 p hm);simp only [zs1,ja hne];exact h.sepIL c p (ht.sub c p hm)
 ·intro c p e;have hne:c≠b:=fun e'=>(by subst e';rw [(h.sepIL _ _ ht.mem).1] at e;cases e);simp only [zs1,ja hne];exact e
theorem Xv {l:Loc}:∀ {b:Nat},(∀ o,(b,o)∉l)->Vz H l b=H b:=by
 induction l with
 | nil=>intro b _;rfl
 | cons x l ih=>
  obtain ⟨c,p⟩:=x;intro b hb;have hne:b≠c:=fun e=>(by subst e;exact hb p (jk ..));simp only [Vz,ja hne];exact ih (fun o ho=>hb o (jq _ ho))
theorem zif {l:Loc}(hn:(l.map (·.1)).Nodup):∀ {b:Nat} {o:Obj},(b,o)∈l->Vz H l b=some o:=by
 induction l with
 | nil=>intro b o hm;cases hm
 | cons x l ih=>
  obtain ⟨c,p⟩:=x;simp only [jx,OQ] at hn;intro b o hm;rcases jp.1 hm with e | hm2
  ·cases e;simp [Vz]
  ·have hne:b≠c:=fun e=>(by subst e;exact hn.1 (jt.2 ⟨(_,o),hm2,U⟩));simp only [Vz,ja hne];exact ih hn.2 hm2
theorem Wi {l:Loc}:∀ {b:Nat} {o:Obj},Vz H l b=some o->(b,o)∈l\/H b=some o:=by
 induction l with
 | nil=>intro b o e;exact .inr e
 | cons x l ih=>
  obtain ⟨c,p⟩:=x;intro b o e;simp only [Vz] at e;split at e
  ·cases e;rename_i e;subst e;exact .inl (jk ..)
  ·exact (ih e).imp (jq _) id
theorem St.hide (h:St g I H loc w):St g I (Vz H loc) [] w:=by
 refine ⟨h.os,h.tape,h.out,h.size,h.imm,?_,(fun b o hm=>by cases hm),?_,(fun b o hm=>by cases hm),by simp⟩
 ·intro b o e;rcases Wi e with hm | e
  ·exact h.own b o hm
  ·exact h.frm b o e
 ·intro b
  cases e:Vz H loc b with
  | none=>exact .inr U
  | some o=>
   rcases Wi e with hm | e
   ·exact .inl (h.sepIL b o hm).1
   ·rcases h.sepIH b with e' | e'
    ·exact .inl e'
    ·rw [e'] at e;cases e
theorem St.unhide (h:St g I H loc w){L:Loc}(h':St g I' (Vz H loc) L w'):St g I' H (L++loc) w':=by
 have hold:∀ b o,H b=some o->Vz H loc b=some o:=fun b o e=>by
  rw [Xv (fun p hm=>by rw [(h.sepIL b p hm).2] at e;cases e)];exact e
 have hnew:∀ b o,(b,o)∈loc->Vz H loc b=some o:=fun b o hm=>zif h.nodup hm;refine ⟨h'.os,h'.tape,h'.out,h'.size,h'.imm,fun b o e=>h'.frm b o (hold b o e),?_,?_,?_,?_⟩
 ·intro b o hm;rcases jv.1 hm with hm | hm
  ·exact h'.own b o hm
  ·exact h'.frm b o (hnew b o hm)
 ·intro b;rcases h'.sepIH b with e | e
  ·exact .inl e
  ·cases e':H b with
   | none=>exact .inr U
   | some o=>rw [hold b o e'] at e;cases e
 ·intro b o hm;rcases jv.1 hm with hm | hm
  ·obtain ⟨e1,e2⟩:=h'.sepIL b o hm;refine ⟨e1,?_⟩
   cases e':H b with
   | none=>rfl
   | some p=>rw [hold b p e'] at e2;cases e2
  ·refine ⟨?_,(h.sepIL b o hm).2⟩;rcases h'.sepIH b with e | e
   ·exact e
   ·rw [hnew b o hm] at e;cases e
 ·rw [jZ,Oz];refine ⟨h'.nodup,h.nodup,fun x hx y hy e=>?_⟩;subst e;obtain ⟨⟨b,o⟩,hm,rfl⟩:=jt.1 hx;obtain ⟨⟨c,p⟩,hm',e⟩:=jt.1 hy;simp only at e;subst e;have:=(h'.sepIL _ _ hm).2;rw [hnew _ _ hm'] at this;cases this
end

structure Kf (N:Nat)(D:List Deferred)(E:Env)(a:Act):Prop where
 size:a.tmps.size=N
 defers:a.defers=D
 env:∀ k v,Jl E k=some v->a.tmps.getD k undef=v
abbrev GS:=List (Bool×Env)
def ZS:GS->Bool
 | []=>true
 | (b,_)::S=>b&&ZS S
def KI:GS->Act->Prop
 | [],_=>True
 | (b,G)::S,a=>(∀ k v,Jl G k=some v->a.tmps.getD k undef=bif b&&ZS S then v else undef)/\KI S a
def zgj:GS->Env->Nat->Option Value
 | [],E,k=>Jl E k
 | (_,G)::S,E,k=>match Jl G k with
  | some v=>some v
  | none=>zgj S E k
def WO:GS->Env->Nat->Option Value
 | [],E,k=>Jl E k
 | (_,G)::_,_,k=>Jl G k
def Qv (S:GS)(E:Env):Operand->Option Value
 | .tmp t=>zgj S E t
 | .const v=>some v
 | .global g=>some (.pointer (some ⟨g,0,none⟩))
 | .func f=>some (.func (.func f) #[] #[])
section
variable {N:Nat} {D:List Deferred} {S:GS} {E E':Env} {a:Act}
theorem zbL (h:Kf N D E a):∀ {S:GS},KI S a->ZS S=true->∀ {k v},zgj S E k=some v->a.tmps.getD k undef=v
 | [],_,_,k,v,e=>h.env k v e
 | (b,G)::S,hg,hc,k,v,e=>by
  simp only [ZS] at hc;simp only [zgj] at e
  cases e':Jl G k with
  | some u=>
   rw [e'] at e;cases e;have:=hg.1 k _ e';rw [hc] at this;exact this
  | none=>
   rw [e'] at e;exact zbL h hg.2 (by simp only [jj] at hc;exact hc.2) e
theorem Qi (h:Kf N D E a)(hg:KI S a)(hc:ZS S=true){x:Operand}{v:Value}(e:Qv S E x=some v):a.eval x=v:=by
 cases x with
 | tmp t=>exact zbL h hg hc e
 | const u=>exact Ob e
 | global g=>exact Ob e
 | func f=>exact Ob e
def Sub (E' E:Env):Prop:=∀ k v,Jl E' k=some v->Jl E k=some v
theorem Sub.nil:Sub [] E:=fun _ _ h=>by cases h
theorem Sub.cons {k:Nat}{v:Value}(h:Jl E k=some v)(hs:Sub E' E):Sub ((k,v)::E') E:=fun i u e=>by
 simp only [Jl] at e
 cases hb:Nat.beq k i with
 | true=>rw [hb] at e;cases e;rw [<-Ad hb];exact h
 | false=>rw [hb] at e;exact hs i u e
theorem Kf.sub (h:Kf N D E a)(hs:Sub E' E):Kf N D E' a:=⟨h.size,h.defers,fun k v e=>h.env k v (hs k v e)⟩
theorem XP {d:Nat}{v:Value}(h:d<a.tmps.size):(a.put (some d) v).tmps.getD d undef=v:=by simp [Act.put,h]
theorem K1 {d k:Nat}{v:Value}(h:k≠d):(a.put (some d) v).tmps.getD k undef=a.tmps.getD k undef:=by simp [Act.put,Array.getElem?_setIfInBounds_ne (By h)]
theorem Kf.put (h:Kf N D E a){d:Nat}(hd:Nat.blt d N=true)(v:Value):Kf N D ((d,v)::E) (a.put (some d) v):=by
 have hd':d<N:=Eq.mp AV hd;refine ⟨by simp [Act.put,h.size],h.defers,fun k u e=>?_⟩;simp only [Jl] at e
 cases hb:Nat.beq d k with
 | true=>
  rw [hb] at e;cases e;rw [<-Ad hb];exact XP (by rw [h.size];exact hd')
 | false=>
  rw [hb] at e;have hne:k≠d:=fun e=>(by subst e;rw [show Nat.beq k k=true from Nat.beq_refl k] at hb;cases hb);rw [K1 hne];exact h.env k u e
theorem Kf.put_none (h:Kf N D E a){d:Nat}(hd:Jl E d=none)(v:Value):Kf N D E (a.put (some d) v):=
 ⟨by simp [Act.put,h.size],h.defers,fun k u e=>by
  have hne:k≠d:=fun e'=>by subst e';rw [hd] at e;cases e
  rw [K1 hne];exact h.env k u e⟩
def zhS:GS->Nat->Bool
 | [],_=>true
 | (_,G)::S,d=>(Jl G d).isNone&&zhS S d
theorem KI.put:∀ {S:GS} {d:Nat},KI S a->zhS S d=true->∀ v,KI S (a.put (some d) v)
 | [],_,_,_,_=>trivial
 | (b,G)::S,d,hg,hf,v=>by
  simp only [zhS,jj] at hf;refine ⟨fun k u e=>?_,KI.put hg.2 hf.2 v⟩;have hne:k≠d:=fun e'=>(by subst e';rw [e] at hf;simp at hf);rw [K1 hne];exact hg.1 k u e
def Uk:GS->Env->Nat->Value->GS
 | [],_,_,_=>[]
 | (b,G)::S,_,d,v=>(b,(d,v)::G)::S
def zhj:GS->Env->Nat->Value->Env
 | [],E,d,v=>(d,v)::E
 | _::_,E,_,_=>E
def Yi:GS->Env->Nat->Bool
 | [],_,_=>true
 | (_,_)::S,E,d=>(Jl E d).isNone&&zhS S d
theorem YA (h:Kf N D E a)(hg:KI S a){d:Nat}(hd:Nat.blt d N=true)(hf:Yi S E d=true)(v:Value):
  Kf N D (zhj S E d v) (a.put (some d) (bif ZS S then v else undef))/\KI (Uk S E d v) (a.put (some d) (bif ZS S then v else undef)):=by
 cases S with
 | nil=>exact ⟨h.put hd v,trivial⟩
 | cons x S=>
  obtain ⟨b,G⟩:=x;simp only [Yi,jj,Option.isNone_iff_eq_none] at hf;refine ⟨h.put_none hf.1 _,fun k u e=>?_,hg.2.put hf.2 _⟩;simp only [Jl] at e
  cases hb:Nat.beq d k with
  | true=>
   rw [hb] at e;cases e;rw [<-Ad hb];exact XP (by rw [h.size];exact Eq.mp AV hd)
  | false=>
   rw [hb] at e;have hne:k≠d:=fun e=>(by subst e;rw [show Nat.beq k k=true from Nat.beq_refl k] at hb;cases hb);rw [K1 hne];exact hg.1 k u e
inductive Zv (ops:Array Oper):GS->Env->Oper->Prop
 | none {E:Env} {o:Oper} (h:o.guard=none):Zv ops [] E o
 | some {S:GS} {b:Bool} {G E:Env} {o oj:Oper} {j dj:Nat} {want b0:Bool} (h:o.guard=some (j,want)) (hj:ops[j]? =some oj) (hd:oj.dst=some dj)
   (hl:WO S E dj=some (.bool b0)) (hb:b=(b0==want)):Zv ops ((b,G)::S) E o
theorem UG {ops:Array Oper}{j dj:Nat}{oj:Oper}(hj:ops[j]? =some oj)(hd:oj.dst=some dj){b0:Bool}(h:a.tmps.getD dj undef= .bool b0):yielded ops a.tmps j=some b0:=by
 have:a.tmps[dj]? =some (.bool b0):=by
  cases e:a.tmps[dj]? with
  | none=>simp [e,undef] at h
  | some v=>simp [e] at h;rw [h]
 simp [yielded,hj,hd,this]
theorem zdN {ops:Array Oper}{j dj:Nat}{oj:Oper}(hj:ops[j]? =some oj)(hd:oj.dst=some dj)(h:a.tmps.getD dj undef=undef):yielded ops a.tmps j=none:=by
 unfold yielded;simp only [hj,Option.bind_some,hd]
 cases e:a.tmps[dj]? with
 | none=>rfl
 | some v=>
  simp [e] at h;rw [h];rfl
theorem Zv.wanted {ops:Array Oper}{o:Oper}(hG:Zv ops S E o)(h:Kf N D E a)(hg:KI S a):Region.wanted o (yielded ops a.tmps)=ZS S:=by
 cases hG with
 | none h0=>simp [Region.wanted,h0,ZS]
 | @some S b G E o oj j dj want b0 h0 hj hd hl hb=>
  simp only [Region.wanted,h0,ZS]
  cases S with
  | nil=>
   rw [UG hj hd (h.env _ _ hl)];simp [hb,ZS]
  | cons x S=>
   obtain ⟨b1,G1⟩:=x;have:=hg.2.1 _ _ hl
   cases hc:(b1&&ZS S) with
   | true=>
    rw [hc] at this;rw [UG hj hd this];simp [hb,ZS,hc]
   | false=>
    rw [hc] at this;rw [zdN hj hd this];simp [ZS,hc]
def zr4 (i:Nat):List Value->Env
 | []=>[]
 | v::l=>(i,v)::zr4 (i+1) l
theorem zfh:∀ (l:List Value) (i k:Nat) (v:Value),Jl (zr4 i l) k=some v->∃ j,k=i+j/\l[j]? =some v
 | [],_,_,_,e=>by cases e
 | u::l,i,k,v,e=>by
  simp only [zr4,Jl] at e
  cases hb:Nat.beq i k with
  | true=>rw [hb] at e;cases e;exact ⟨0,by simp [Ad hb],by simp⟩
  | false=>
   rw [hb] at e;obtain ⟨j,h1,h2⟩:=zfh l (i+1) k v e;exact ⟨j+1,kB,by simpa using h2⟩
theorem zfx (args:List Value)(N:Nat)(h:args.length<=N):Kf N [] (zr4 0 args) {tmps:=args.toArray++Array.replicate (N-args.toArray.size) undef,defers:=[]}:=by refine ⟨by simp;omega,U,fun k v e=>?_⟩;obtain ⟨j,h1,h2⟩:=zfh args 0 k v e;have hj:j<args.length:=(jc.1 h2).1;have hk:k=j:=kB;subst hk;have h3:args[k]'hj=v:=(jc.1 h2).2;simp [Array.getElem?_append,hj,h3]
end
structure Cx where
 P:Program
 r:Option Nat
 N:Nat
 D:List Deferred
 g:World
 H:Qt
def FR (r:Option Nat):Fence:={fn:=fun _=>True,depth:=none,alive:=false,round:=r}
variable{r:Option Nat}{n:Nat}{P:Program}{f:FuncId}{w:World}{R:Ending->World->Prop}
theorem U6 {args:Array Value}:CallsIn (FR r) n P f args w R↔Calls P f args w R:=
 show CallsIn Fence.wide n P f args w R↔_ from callsIn_wide
def X (C:Cx)(Q:Exit->Act->World->Prop)(c:Code)(E:Env)(I:Qt)(loc:Loc):Prop:=
 ∀ a w,Kf C.N C.D E a->St C.g I C.H loc w->c.wpIn (FR C.r) 0 C.P Q a w
def At (C:Cx)(Q:Exit->Act->World->Prop)(e:Exit)(E:Env)(I:Qt)(loc:Loc):Prop:=
 ∀ a w,Kf C.N C.D E a->St C.g I C.H loc w->Q e a w
def XO (C:Cx)(Q:Exit->Act->World->Prop)(ops:Array Oper)(l:List Oper)(S:GS)(E:Env)(I:Qt)(loc:Loc):Prop:=
 ∀ a w,Kf C.N C.D E a->KI S a->St C.g I C.H loc w->wpListIn (FR C.r) 0 C.P ops Q l a w
def Met (C:Cx)(M:Env->Qt->Loc->Prop):Act->World->Prop:=fun a w=>∃ E I loc,M E I loc/\Kf C.N C.D E a/\St C.g I C.H loc w
section
variable {C:Cx} {Q:Exit->Act->World->Prop} {E E':Env} {I I':Qt} {loc loc':Loc} {ops:Array Oper} {rest:List Oper} {S:GS}
theorem Ql {x y:Code}(h:X C (Exit.then (y.wpIn (FR C.r) 0 C.P Q) Q) x E I loc):X C Q (.seq x y) E I loc:=fun a w ha hw=>wpIn_seq (h a w ha hw)
theorem zES {x y:Code}(M:Env->Qt->Loc->Prop)(h1:X C (Exit.then (Met C M) Q) x E I loc)(h2:∀ E I loc,M E I loc->X C Q y E I loc):X C Q (.seq x y) E I loc:=fun a w ha hw=>
 wpIn_seq (Aj (h1 a w ha hw) fun e a' w' hq=>by
  cases e with
  | normal=>obtain ⟨E',I',loc',hM,hf,hs⟩:=hq;exact h2 _ _ _ hM _ _ hf hs
  | _=>exact hq)
theorem Qa {y:Code}(h:X C Q y E I loc):At C (Exit.then (y.wpIn (FR C.r) 0 C.P Q) Q) .normal E I loc:=h
theorem zCz {M:Env->Qt->Loc->Prop}(E':Env)(I':Qt)(loc':Loc)(hM:M E' I' loc')(hE:Sub E' E)(hI:HLe I' I)(hl:loc'=loc):At C (Exit.then (Met C M) Q) .normal E I loc:=
 fun _ _ ha hw=>⟨E',I',loc',hM,ha.sub hE,hl ▸ hw.mono hI⟩
theorem Qo (h:At C Q .normal E I loc):X C Q .skip E I loc:=fun a w ha hw=>wpIn_skip (h a w ha hw)
theorem QF {id:Nat}(h:At C Q (.exit id) E I loc):X C Q (.exit id) E I loc:=fun a w ha hw=>wpIn_exit (h a w ha hw)
theorem Qr (h:At C Q .ret E I loc):X C Q .ret E I loc:=fun a w ha hw=>wpIn_ret (h a w ha hw)
theorem Qp {id:Nat}{c:Code}(h:X C (Exit.inBlock id Q) c E I loc):X C Q (.block id c) E I loc:=fun a w ha hw=>wpIn_block (h a w ha hw)
theorem zAG {c:Operand}{x y:Code}{b:Bool}(hc:Qv [] E c=some (.bool b))(ht:b=true->X C Q x E I loc)(hf:b=false->X C Q y E I loc):X C Q (.cond c x y) E I loc:=fun a w ha hw=>
 wpIn_cond_split (t:=b) (Qi (S:=[]) ha trivial rfl hc) (fun e=>ht e a w ha hw) (fun e=>hf e a w ha hw)
theorem QQ {c:Code}{b:Nat}{o:Obj}(ht:Zf loc b o loc')(h:∀ I',HLe I I'->I' b=some o->X C Q c E I' loc'):X C Q c E I loc:=fun a w ha hw=>
 let ⟨h1,h2,h3⟩:=hw.freeze ht;h _ h2 h3 a w ha h1
theorem Qg {id:Nat}(h:At C Q .normal E I loc):At C (Exit.inBlock id Q) .normal E I loc:=h
theorem Qn {id:Nat}(h:At C Q .ret E I loc):At C (Exit.inBlock id Q) .ret E I loc:=h
theorem Qm {id:Nat}(h:At C Q .normal E I loc):At C (Exit.inBlock id Q) (.exit id) E I loc:=fun a w ha hw=>by simp only [Exit.inBlock,Oj];exact h a w ha hw
theorem zdM {id j:Nat}(hne:Nat.beq j id=false)(h:At C Q (.exit j) E I loc):At C (Exit.inBlock id Q) (.exit j) E I loc:=fun a w ha hw=>by
 have:j≠id:=fun e=>by subst e;rw [show Nat.beq j j=true from Nat.beq_refl j] at hne;cases hne
 simp only [Exit.inBlock,ja this];exact h a w ha hw
theorem Qc {K:Act->World->Prop}(h:At C Q .ret E I loc):At C (Exit.then K Q) .ret E I loc:=h
theorem Qh {K:Act->World->Prop}{id:Nat}(h:At C Q (.exit id) E I loc):At C (Exit.then K Q) (.exit id) E I loc:=h
theorem zA3 {c:Code}(J:Nat->Env->Qt->Loc->Prop)(m0:Nat)(E0:Env)(I0:Qt)(loc0:Loc)(h0:J m0 E0 I0 loc0)(hE:Sub E0 E)(hI:HLe I0 I)(hl:loc0=loc)
  (round:∀ m E I loc,J m E I loc->X C (Exit.then (Met C fun E I loc=>∃ m',m'<m/\J m' E I loc) Q) c E I loc):X C Q (.loop c) E I loc:=by
 classical
 intro a w ha hw;let R:Nat->Act->World->Prop:=fun m a w=>∃ E I loc,J m E I loc/\Kf C.N C.D E a/\St C.g I C.H loc w
 have least:∀ a w,(∃ m,R m a w)->∃ m,R m a w/\∀ m',R m' a w->m<=m':=fun a w ⟨m,h⟩=>by
  induction m using Nat.strongRecOn with
  | _ m ih=>
   by_cases h':∃ m',m'<m/\R m' a w
   ·obtain ⟨m',hlt,hm⟩:=h';exact ih m' hlt hm
   ·exact ⟨m,h,fun m' hm=>Br fun hlt=>h' ⟨m',hlt,hm⟩⟩
 let μ:Act->World->Nat:=fun a w=>if h:∃ m,R m a w then Classical.choose (least a w h) else 0
 have hμ:∀ a w,(∃ m,R m a w)->R (μ a w) a w:=fun a w h=>by simp only [μ,BL h];exact (ON (least a w h)).1
 have hle:∀ m a w,R m a w->μ a w<=m:=fun m a w h=>by
  have h':∃ m,R m a w:=⟨m,h⟩;simp only [μ,BL h'];exact (ON (least a w h')).2 m h
 refine wpIn_loop (fun a w=>∃ m,R m a w) μ ⟨m0,E0,I0,loc0,h0,ha.sub hE,hl ▸ hw.mono hI⟩ fun a w h=>?_;obtain ⟨E1,I1,loc1,hJ,hf,hs⟩:=hμ a w h;refine Aj (round _ _ _ _ hJ a w hf hs) fun e a' w' hq=>?_
 cases e with
 | normal=>
  obtain ⟨E2,I2,loc2,⟨m',hlt,hJ'⟩,hf',hs'⟩:=hq;exact ⟨⟨m',E2,I2,loc2,hJ',hf',hs'⟩,AK (hle m' a' w' ⟨E2,I2,loc2,hJ',hf',hs'⟩) hlt⟩
 | _=>exact hq

theorem Qf {id:Nat}{l:List Oper}(h:XO C Q l.toArray l [] E I loc):X C Q (.region id l.toArray false) E I loc:=fun a w ha hw=>wpIn_region_lit (h a w ha trivial hw)
theorem Qb (h:At C Q .normal E I loc):XO C Q ops [] S E I loc:=fun a w ha _ hw=>wpListIn_nil (h a w ha hw)
theorem zN {y:Code}(h:X C Q y E I loc):XO C (Exit.then (y.wpIn (FR C.r) 0 C.P Q) Q) ops [] S E I loc:=Qb (Qa h)
theorem zR {id:Nat}{l:List Oper}{y:Code}(h:XO C (Exit.then (y.wpIn (FR C.r) 0 C.P Q) Q) l.toArray l [] E I loc):X C Q (.seq (.region id l.toArray false) y) E I loc:=Ql (Qf h)
theorem zny (b:Bool)(h:XO C Q ops rest ((b,[])::S) E I loc):XO C Q ops rest S E I loc:=fun a w ha hg hw=>h a w ha ⟨(fun _ _ e=>by cases e),hg⟩ hw
def QV (C:Cx)(S:GS)(E:Env)(I:Qt)(loc:Loc)(o:Oper)(v:Value):Prop:=
 (∀ c,o.op≠ .defer c)/\∀ a w,Kf C.N C.D E a->KI S a->ZS S=true->St C.g I C.H loc w->(execOp a.eval o).run C.P w= .ok (.value v) w
theorem zsk {o:Oper}{d:Nat}{v:Value}(hv:QV C S E I loc o v)(hG:Zv ops S E o)(hd:o.dst=some d)(hN:Nat.blt d C.N=true)(hf:Yi S E d=true)
  (h:XO C Q ops rest (Uk S E d v) (zhj S E d v) I loc):XO C Q ops (o::rest) S E I loc:=by
 intro a w ha hg hw;have hp:=YA ha hg hN hf v;simp only [wpListIn];rw [hG.wanted ha hg]
 cases hc:ZS S with
 | true=>
  rw [hc] at hp;simp only [Oj,Oper.wpIn];refine ⟨fun _ _=>trivial,?_⟩;rw [O8 _ _ _ hv.1,hv.2 a w ha hg hc hw,Oq,hd];exact h _ _ hp.1 hp.2 hw
 | false=>
  rw [hc] at hp;simp only [jB,j2];refine ⟨fun _ _=>trivial,?_⟩;rw [hd];exact h _ _ hp.1 hp.2 hw
theorem zsn {tc ta d ty:Nat}{pos:String}{af:Array Edge}{gd:Option (Nat×Bool)}{b t x:Bool}{G:Env}(hb:b=t)(hc:Qv S E (.tmp tc)=some (.bool t))(ha':Jl G ta=some (.bool x))
  (hG:Zv ops S E ⟨some d,.pick (.tmp tc) (.tmp ta) (.const (.bool false)),ty,pos,af,gd⟩)(hN:Nat.blt d C.N=true)(hf:Yi S E d=true)
  (h:XO C Q ops rest (Uk S E d (.bool (t&&x))) (zhj S E d (.bool (t&&x))) I loc):
  XO C Q ops (⟨some d,.pick (.tmp tc) (.tmp ta) (.const (.bool false)),ty,pos,af,gd⟩::rest) ((b,G)::S) E I loc:=by
 intro a w ha hg hw;have hp:=YA ha hg.2 hN hf (.bool (t&&x));simp only [wpListIn];rw [hG.wanted ha hg.2]
 cases hcj:ZS S with
 | true=>
  rw [hcj] at hp;simp only [Oj,Oper.wpIn];refine ⟨fun _ _=>trivial,?_⟩;rw [O8 _ _ _ kC];have e1:a.eval (.tmp tc)= .bool t:=Qi ha hg.2 hcj hc
  have e2:t=true->a.eval (.tmp ta)= .bool x:=fun e=>by
   have:=hg.1 _ _ ha';rw [hcj,hb,e] at this;exact this
  have:(execOp a.eval ⟨some d,.pick (.tmp tc) (.tmp ta) (.const (.bool false)),ty,pos,af,gd⟩).run C.P w= .ok (.value (.bool (t&&x))) w:=by
   simp only [execOp,e1,asBool,jg,jl,Result.andThen]
   cases t with
   | true=>simp [e2 rfl]
   | false=>simp [Act.eval]
  rw [this];exact h _ _ hp.1 hp.2 hw
 | false=>
  rw [hcj] at hp;simp only [jB,j2];refine ⟨fun _ _=>trivial,?_⟩;exact h _ _ hp.1 hp.2 hw
theorem zBU {tc ta d ty:Nat}{pos:String}{af:Array Edge}{gd:Option (Nat×Bool)}{b t x:Bool}{G:Env}(hb:b= !t)(hc:Qv S E (.tmp tc)=some (.bool t))(ha':Jl G ta=some (.bool x))
  (hG:Zv ops S E ⟨some d,.pick (.tmp tc) (.const (.bool true)) (.tmp ta),ty,pos,af,gd⟩)(hN:Nat.blt d C.N=true)(hf:Yi S E d=true)
  (h:XO C Q ops rest (Uk S E d (.bool (t||x))) (zhj S E d (.bool (t||x))) I loc):
  XO C Q ops (⟨some d,.pick (.tmp tc) (.const (.bool true)) (.tmp ta),ty,pos,af,gd⟩::rest) ((b,G)::S) E I loc:=by
 intro a w ha hg hw;have hp:=YA ha hg.2 hN hf (.bool (t||x));simp only [wpListIn];rw [hG.wanted ha hg.2]
 cases hcj:ZS S with
 | true=>
  rw [hcj] at hp;simp only [Oj,Oper.wpIn];refine ⟨fun _ _=>trivial,?_⟩;rw [O8 _ _ _ kC];have e1:a.eval (.tmp tc)= .bool t:=Qi ha hg.2 hcj hc
  have e2:t=false->a.eval (.tmp ta)= .bool x:=fun e=>by
   have:=hg.1 _ _ ha';rw [hcj,hb,e] at this;exact this
  have:(execOp a.eval ⟨some d,.pick (.tmp tc) (.const (.bool true)) (.tmp ta),ty,pos,af,gd⟩).run C.P w= .ok (.value (.bool (t||x))) w:=by
   simp only [execOp,e1,asBool,jg,jl,Result.andThen]
   cases t with
   | false=>simp [e2 rfl]
   | true=>simp [Act.eval]
  rw [this];exact h _ _ hp.1 hp.2 hw
 | false=>
  rw [hcj] at hp;simp only [jB,j2];refine ⟨fun _ _=>trivial,?_⟩;exact h _ _ hp.1 hp.2 hw

variable {dst:Option Tmp} {ty:TypeId} {pos:String} {af:Array Edge} {gd:Option (Nat×Bool)} {x y z:Operand}
theorem QV.of {o:Oper}{v:Value}(h1:∀ c,o.op≠ .defer c)(h2:∀ a w,Kf C.N C.D E a->KI S a->ZS S=true->St C.g I C.H loc w->(execOp a.eval o).run C.P w= .ok (.value v) w):QV C S E I loc o v:=⟨h1,h2⟩
theorem Qj {v:Value}(h:Qv S E x=some v):QV C S E I loc ⟨dst,.move x,ty,pos,af,gd⟩ v:=
 .of kC fun a w ha hg hc _=>by simp only [execOp,Qi ha hg hc h];rfl
theorem QU {v:Value}(h:Qv S E x=some v):QV C S E I loc ⟨dst,.assign x,ty,pos,af,gd⟩ v:=
 .of kC fun a w ha hg hc _=>by simp only [execOp,Qi ha hg hc h];rfl
theorem Vs {t:Bool}{u v:Value}(h:Qv S E x=some (.bool t))(h1:Qv S E y=some u)(h2:Qv S E z=some v):QV C S E I loc ⟨dst,.pick x y z,ty,pos,af,gd⟩ (if t then u else v):=
 .of kC fun a w ha hg hc _=>by
  simp only [execOp,Qi ha hg hc h,Qi ha hg hc h1,Qi ha hg hc h2,asBool,jg,jl,Result.andThen]
theorem ZN {t u v:Bool}(h:Qv S E x=some (.bool t))(h1:Qv S E y=some (.bool u))(h2:Qv S E z=some (.bool v)):QV C S E I loc ⟨dst,.pick x y z,ty,pos,af,gd⟩ (.bool (if t then u else v)):=
 .of kC fun a w ha hg hc _=>by
  simp only [execOp,Qi ha hg hc h,Qi ha hg hc h1,Qi ha hg hc h2,asBool,jg,jl,Result.andThen];cases t<;>rfl
theorem Vv {t:Bool}(h:Qv S E x=some (.bool t)):QV C S E I loc ⟨dst,.unOp .not ty x,ty,pos,af,gd⟩ (.bool (!t)):=
 .of kC fun a w ha hg hc _=>by
  simp only [execOp,Qi ha hg hc h];rfl
def zDQ:BinOp->Int->Int->Option Bool
 | .lss,a,b=>some (decide (a<b))
 | .leq,a,b=>some (decide (a<=b))
 | .gtr,a,b=>some (decide (a>b))
 | .geq,a,b=>some (decide (a>=b))
 | .eql,a,b=>some (a==b)
 | .neq,a,b=>some (a != b)
 | _,_,_=>none
def arR:BinOp->Int->Int->Option Int
 | .add,a,b=>some (a+b)
 | .sub,a,b=>some (a-b)
 | .mul,a,b=>some (a*b)
 | _,_,_=>none
theorem ZH {P:Program}{w:World}{op:BinOp}{t:TypeId}{x y:Operand}{k k':IntKind}{a b:Int}:(eqGuard op t x y (.int k a) (.int k' b)).run P w= .ok () w:=by unfold eqGuard;cases op<;>rfl
theorem zdj {P:Program}{w:World}{op:BinOp}{t:TypeId}{k:IntKind}{a b:Int}{c:Bool}(h:zDQ op a b=some c):(binOp op t (.int k a) (.int k b)).run P w= .ok (.bool c) w:=by cases op<;>simp only [zDQ] at h<;>first | (cases h;simp only [binOp,Bn,OF,j2,Op.intCmp];rfl) | cases h
theorem zeV {P:Program}{w:World}{op:BinOp}{t:TypeId}{k:IntKind}{a b c:Int}(h:arR op a b=some c):(binOp op t (.int k a) (.int k b)).run P w= .ok (.int k (k.wrap c)) w:=by cases op<;>simp only [arR] at h<;>first | (cases h;simp only [binOp,Bn,OF,j2,Op.intArith];rfl) | cases h
theorem QI {op:BinOp}{t t':TypeId}{k:IntKind}{a b:Int}{c:Bool}(hx:Qv S E x=some (.int k a))(hy:Qv S E y=some (.int k b))(h:zDQ op a b=some c):QV C S E I loc ⟨dst,.binOp op t x y t',ty,pos,af,gd⟩ (.bool c):=
 .of kC fun a w ha hg hc _=>by
  simp only [execOp,Qi ha hg hc hx,Qi ha hg hc hy,jg,ZH,Result.andThen,zdj h,jl]
theorem KB {op:BinOp}{t t':TypeId}{k:IntKind}{a b c:Int}(hx:Qv S E x=some (.int k a))(hy:Qv S E y=some (.int k b))(h:arR op a b=some c):QV C S E I loc ⟨dst,.binOp op t x y t',ty,pos,af,gd⟩ (.int k (k.wrap c)):=
 .of kC fun a w ha hg hc _=>by
  simp only [execOp,Qi ha hg hc hx,Qi ha hg hc hy,jg,ZH,Result.andThen,zeV h,jl]
theorem zdp {c:Int}(h: -9223372036854775808<=c/\c<=9223372036854775807):IntKind.i64.wrap c=c:=Go.IntWalk.i64_in c h
theorem ZL {op:BinOp}{t t':TypeId}{a b c:Int}(hx:Qv S E x=some (.int .i64 a))(hy:Qv S E y=some (.int .i64 b))(h:arR op a b=some c)(hB:ZS S=true-> -9223372036854775808<=c/\c<=9223372036854775807):
  QV C S E I loc ⟨dst,.binOp op t x y t',ty,pos,af,gd⟩ (.int .i64 c):=
 .of kC fun a w ha hg hc hw=>by
  have:=(KB (C:=C) (I:=I) (loc:=loc) (dst:=dst) (ty:=ty) (pos:=pos) (af:=af) (gd:=gd) (t:=t) (t':=t') hx hy h).2 a w ha hg hc hw;rw [zdp (hB hc)] at this;exact this
def zBk (a b:ByteArray):Bool:=a.toList==b.toList
theorem Z6 {i:Nat}{vs:Array Value}{v:Value}(hx:Qv S E x=some (.tuple vs))(h:vs[i]? =some v):QV C S E I loc ⟨dst,.extract x i,ty,pos,af,gd⟩ v:=
 .of kC fun a w ha hg hc _=>by
  simp only [execOp,Qi ha hg hc hx,Instr.extract,h,jg,jl,Result.andThen]
theorem QN {fn:Fn}{first captured:Array Operand}{vs us:List Value}(h1:first.toList.map (Qv S E)=us.map some)(h2:captured.toList.map (Qv S E)=vs.map some):
  QV C S E I loc ⟨dst,.makeFunc fn first captured,ty,pos,af,gd⟩ (.func fn us.toArray vs.toArray):=
 .of kC fun a w ha hg hc _=>by
  have key:∀ (l:List Operand) (vs:List Value),l.map (Qv S E)=vs.map some->l.map a.eval=vs:=by
   intro l
   induction l with
   | nil=>intro vs h;cases vs<;>simp_all
   | cons o l ih=>
    intro vs h
    cases vs with
    | nil=>simp at h
    | cons v vs=>
     simp only [jx,AI] at h ⊢;exact ⟨Qi ha hg hc h.1,ih _ h.2⟩
  have e1:first.map a.eval=us.toArray:=by rw [<-key _ _ h1];cases first;simp
  have e2:captured.map a.eval=vs.toArray:=(by rw [<-key _ _ h2];cases captured;simp);simp only [execOp,e1,e2,Instr.makeFunc,jg,jl,Result.andThen]

def QP (P:Program)(s f fo:Nat):Prop:=∃ fs x i,P.underlying s=some (.struct fs)/\fs[f]? =some x/\P.info? x.type=some i/\i.size≠0/\x.offset=fo
def zhM (P:Program)(s f fo:Nat):Bool:=match P.underlying s with
 | some (.struct fs)=>match fs[f]? with
  | some x=>match P.info? x.type with
   | some i=>i.size != 0&&x.offset==fo
   | none=>false
  | none=>false
 | _=>false
theorem QP.of {P:Program}{s f fo:Nat}(h:zhM P s f fo=true):QP P s f fo:=by
 unfold zhM at h;split at h
 ·rename_i fs hs;split at h
  ·rename_i x hx;split at h
   ·rename_i i hi;simp only [jj,bne_iff_ne,j0] at h;exact ⟨fs,x,i,hs,hx,hi,h.1,h.2⟩
   ·cases h
  ·cases h
 ·cases h
theorem zaJ {P:Program}{w:World}{t:TypeId}{i:TypeInfo}(h:P.info? t=some i):(typeInfo t).run P w= .ok i w:=by simp only [typeInfo,jg,run_program,Result.andThen];rw [show P.toTables.info? t=some i from h];rfl
theorem run_sizeOf {P:Program}{w:World}{t:TypeId}{i:TypeInfo}(h:P.info? t=some i):(sizeOf t).run P w= .ok i.size w:=by simp only [sizeOf,jg,zaJ h,Result.andThen,jl]
theorem Yn (b off n:Nat):(⟨b,off,none⟩:Addr).add n=⟨b,off+n,none⟩:=by unfold Addr.add;split<;>simp_all
theorem Qe {s f fo b off:Nat}(hx:Qv S E x=some (.pointer (some ⟨b,off,none⟩)))(hF:QP C.P s f fo):QV C S E I loc ⟨dst,.fieldAddr s x f,ty,pos,af,gd⟩ (.pointer (some ⟨b,off+fo,none⟩)):=
 .of kC fun a w ha hg hc _=>by
  obtain ⟨fs,fx,i,h1,h2,h3,h4,h5⟩:=hF;simp only [execOp,Qi ha hg hc hx,Instr.fieldAt,jg,jK h1,Result.andThen,h2,Instr.sureAddr,jl,fieldPlace,run_sizeOf h3,ja h4,Yn,h5]
def SlT (P:Program)(t e size:Nat):Prop:=P.underlying t=some (.slice e)/\∃ i,P.info? e=some i/\i.size=size
def zFY (P:Program)(t e size:Nat):Bool:=(match P.underlying t with | some (.slice e')=>e'==e | _=>false)&&(match P.info? e with | some i=>i.size==size | none=>false)
theorem SlT.of {P:Program}{t e size:Nat}(h:zFY P t e size=true):SlT P t e size:=by
 simp only [zFY,jj] at h;obtain ⟨h1,h2⟩:=h;refine ⟨?_,?_⟩
 ·split at h1
  ·rename_i e' h';rw [j0] at h1;rw [h',h1]
  ·cases h1
 ·split at h2
  ·rename_i i hi;rw [j0] at h2;exact ⟨i,hi,h2⟩
  ·cases h2
theorem zaK {t e size b off n c:Nat}{k:IntKind}{i:Int}(hx:Qv S E x=some (.slice (some ⟨b,off,none⟩) n c))(hy:Qv S E y=some (.int k i))(hT:SlT C.P t e size)(hb:ZS S=true->0<=i/\i<(n:Int)):
  QV C S E I loc ⟨dst,.indexAddr t x y,ty,pos,af,gd⟩ (.pointer (some ⟨b,off+i.toNat*size,none⟩)):=
 .of kC fun a w ha hg hc _=>by
  obtain ⟨h1,j,h2,h3⟩:=hT;simp only [execOp,Qi ha hg hc hx,Qi ha hg hc hy,Instr.indexAt,asIntOf,jg,jl,jK h1,Result.andThen,jb (hb hc),run_sizeOf h2,Yn,h3]

def Mem (I:Qt)(loc:Loc)(b:Nat)(o:Obj):Prop:=I b=some o\/(b,o)∈loc
def QB (I:Qt)(loc:Loc)(b off:Nat)(v:Value):Prop:=∃ cs t fz,Mem I loc b (.cells cs t fz)/\cs[off]? =some v
theorem Mem.heap {b:Nat}{o:Obj}{g:World}{H:Qt}{w:World}(h:Mem I loc b o)(hw:St g I H loc w):w.heap[b]? =some o:=h.elim (hw.imm b o) (hw.own b o)
theorem QB.get {b off:Nat}{v:Value}{g:World}{H:Qt}{w:World}(h:QB I loc b off v)(hw:St g I H loc w):w.cell? ⟨b,off,none⟩=some v:=by obtain ⟨cs,t,fz,hm,hv⟩:=h;simp [World.cell?,hm.heap hw,hv]
def zj9:List Value->Nat->Option Value
 | [],_=>none
 | v::_,0=>some v
 | _::l,n+1=>zj9 l n
theorem YU:∀ (l:List Value) (i:Nat),zj9 l i=l[i]?
 | [],i=>by simp [zj9]
 | p::l,0=>rfl
 | p::l,n+1=>by simp [zj9,YU l n]
theorem QB.here {b off:Nat}{v:Value}{cs:Array Value}{t:TypeId}{fz:Nat×Nat}{l:Loc}(h:zj9 cs.toList off=some v):QB I ((b,.cells cs t fz)::l) b off v:=⟨cs,t,fz,.inr (jk ..),by rw [YU] at h;simpa using h⟩
abbrev zGI:=@QB.here
theorem QB.there {b off:Nat}{v:Value}{p:Nat×Obj}{l:Loc}(h:QB I l b off v):QB I (p::l) b off v:=by obtain ⟨cs,t,fz,hm,hv⟩:=h;exact ⟨cs,t,fz,hm.imp id (jq _),hv⟩
abbrev zGH:=@QB.there
theorem QB.imm {b off:Nat}{v:Value}{cs:Array Value}{t:TypeId}{fz:Nat×Nat}{l:Loc}(h:I b=some (.cells cs t fz))(hv:zj9 cs.toList off=some v):QB I l b off v:=⟨cs,t,fz,.inl h,by rw [YU] at hv;simpa using hv⟩
theorem QB.mono {b off:Nat}{v:Value}(h:QB I loc b off v)(hI:HLe I I'):QB I' loc b off v:=by obtain ⟨cs,t,fz,hm,hv⟩:=h;exact ⟨cs,t,fz,hm.imp (hI _ _) id,hv⟩
theorem QB.any {b off:Nat}{v:Value}(h:QB I [] b off v):QB I loc b off v:=by obtain ⟨cs,t,fz,hm,hv⟩:=h;exact ⟨cs,t,fz,hm.elim .inl (fun h=>by cases h),hv⟩
def ScT (P:Program)(t:Nat):Prop:=∃ d,P.underlying t=some d/\(match d with | .struct _ | .array _ _=>False | _=>True)
def zFU (P:Program)(t:Nat):Bool:=match P.underlying t with
 | some (.struct _) | some (.array _ _) | none=>false
 | _=>true
theorem ScT.of {P:Program}{t:Nat}(h:zFU P t=true):ScT P t:=by
 unfold zFU at h;split at h
 ·cases h
 ·cases h
 ·cases h
 ·rename_i d _ _ _
  cases e:P.underlying t with
  | none=>simp_all
  | some d=>exact ⟨d,e,by cases d<;>simp_all⟩
def AgT (P:Program)(t n:Nat):Prop:=(∃ d,P.underlying t=some d/\(match d with | .struct _ | .array _ _=>True | _=>False))/\∃ i,P.info? t=some i/\i.size=n
def zFS (P:Program)(t n:Nat):Bool:=(match P.underlying t with | some (.struct _) | some (.array _ _)=>true | _=>false)&&(match P.info? t with | some i=>i.size==n | none=>false)
theorem AgT.of {P:Program}{t n:Nat}(h:zFS P t n=true):AgT P t n:=by
 simp only [zFS,jj] at h;obtain ⟨h1,h2⟩:=h;refine ⟨?_,?_⟩
 ·split at h1<;>first | (rename_i h;exact ⟨_,h,trivial⟩) | cases h1
 ·split at h2
  ·rename_i i hi;rw [j0] at h2;exact ⟨i,hi,h2⟩
  ·cases h2
theorem Vc {P:Program}{w:World}{t:TypeId}(h:ScT P t):(isAgg t).run P w= .ok false w:=by obtain ⟨d,h1,h2⟩:=h;simp only [isAgg,jg,jK h1,Result.andThen];cases d<;>first | rfl | exact h2.elim
theorem Y6 {P:Program}{w:World}{t n:Nat}(h:AgT P t n):(isAgg t).run P w= .ok true w:=by obtain ⟨⟨d,h1,h2⟩,_⟩:=h;simp only [isAgg,jg,jK h1,Result.andThen];cases d<;>first | rfl | exact h2.elim
theorem Qd {t b off:Nat}{v:Value}(hx:Qv S E x=some (.pointer (some ⟨b,off,none⟩)))(hT:ScT C.P t)(hv:ZS S=true->QB I loc b off v):QV C S E I loc ⟨dst,.load t x,ty,pos,af,gd⟩ v:=
 .of kC fun a w ha hg hc hw=>by
  simp only [execOp,Qi ha hg hc hx,Instr.loadAt,Instr.sureAddr,jg,jl,Result.andThen,loadVar,Vc hT,jB,j2,run_load,(hv hc).get hw]
def Cells (I:Qt)(loc:Loc)(b off:Nat)(vs:List Value):Prop:=∀ j v,vs[j]? =some v->QB I loc b (off+j) v
theorem Qk {t n b off:Nat}{vs:List Value}(hx:Qv S E x=some (.pointer (some ⟨b,off,none⟩)))(hT:AgT C.P t n)(hv:ZS S=true->Cells I loc b off vs)(hn:vs.length=n):QV C S E I loc ⟨dst,.load t x,ty,pos,af,gd⟩ (.agg vs.toArray):=
 .of kC fun a w ha hg hc hw=>by
  have h1:(loadCells ⟨b,off,none⟩ n).run C.P w= .ok vs.toArray w:=by
   rw [<-hn];exact As w _ _ fun j v hj=>by rw [Yn];exact (hv hc j v hj).get hw
  have hT':=hT;obtain ⟨_,i,h2,h3⟩:=hT';simp only [execOp,Qi ha hg hc hx,Instr.loadAt,Instr.sureAddr,jg,jl,Result.andThen,loadVar,Y6 hT,Oj,run_sizeOf h2,h3,h1]
theorem ZX {t n c e size:Nat}{av:Option Addr}(hx:Qv S E x=some (.slice av n c))(hT:SlT C.P t e size):QV C S E I loc ⟨dst,.call ⟨.builtin .len, #[x], #[t]⟩,ty,pos,af,gd⟩ (.int .i64 n):=
 .of kC fun a w ha hg hc _=>by
  simp only [execOp,resolve,j6,jx,Oo,Qi ha hg hc hx,jg,jl,Result.andThen,invoke,builtin,Builtin.len_,OO,O3,jK hT.1,goInt]
end

variable{fn:Func}{c:Code}{args:List Value}{g:World}{H:Qt}{loc:Loc}{N:Nat}
theorem enter (hf:P.funcs[f]? =some fn)(hb:fn.body=some c)(hN:fn.ntmps=N)
  (hlen:Nat.ble args.length N=true)(hw:St g I H loc w)(h:X ⟨P,none,N,[],g,H⟩ (bodyPost P fn R) c (zr4 0 args) I loc):Calls P f args.toArray w R:=by
 refine calls_of_wp hf hb ?_;rw [hN];exact wpIn_wide.1 (h _ w (zfx args N (Aw hlen)) hw)
theorem qe (hf:P.funcs[f]? =some fn)(hN:fn.ntmps=N)(hw:St g I H loc w)(h:X ⟨P,none,N,[],g,H⟩ (bodyPost P fn R) c (zr4 0 args) I loc)(hb:fn.body=some c:=by exact U)(hlen:Nat.ble args.length N=true:=by exact U):Calls P f args.toArray w R:=enter hf hb hN hlen hw h
section
variable {P:Program} {fn:Func} {R:Ending->World->Prop} {N:Nat} {g:World} {I H:Qt} {loc:Loc} {E:Env} {r:Option Nat}
theorem Ys (hr:fn.results= #[])(h:∀ w,St g I H loc w->R (.returned (.tuple #[])) w):At ⟨P,r,N,[],g,H⟩ (bodyPost P fn R) .ret E I loc:=fun a w ha hw=>
 ⟨ha.defers,_,by simp [results,hr],h w hw⟩
theorem QR {t:Nat}{v:Value}(hr:fn.results= #[.tmp t])(hv:Jl E t=some v)(h:∀ w,St g I H loc w->R (.returned v) w):At ⟨P,r,N,[],g,H⟩ (bodyPost P fn R) .ret E I loc:=fun a w ha hw=>
 ⟨ha.defers,v,by have e1:=ha.env _ _ hv;rw [Ok] at e1;simp only [results,hr];simp [e1],h w hw⟩
theorem Q9 {t u:Nat}{v v':Value}(hr:fn.results= #[.tmp t,.tmp u])(hv:Jl E t=some v)(hv':Jl E u=some v')(h:∀ w,St g I H loc w->R (.returned (.tuple #[v,v'])) w):At ⟨P,r,N,[],g,H⟩ (bodyPost P fn R) .ret E I loc:=fun a w ha hw=>
 ⟨ha.defers,_,by have e1:=ha.env _ _ hv;have e2:=ha.env _ _ hv';rw [Ok] at e1 e2;simp only [results,hr];simp [e1,e2],h w hw⟩
theorem KD {t u s:Nat}{v v' v'':Value}(hr:fn.results= #[.tmp t,.tmp u,.tmp s])(hv:Jl E t=some v)(hv':Jl E u=some v')(hv'':Jl E s=some v'')(h:∀ w,St g I H loc w->R (.returned (.tuple #[v,v',v''])) w):At ⟨P,r,N,[],g,H⟩ (bodyPost P fn R) .ret E I loc:=fun a w ha hw=>
 ⟨ha.defers,_,by have e1:=ha.env _ _ hv;have e2:=ha.env _ _ hv';have e3:=ha.env _ _ hv'';rw [Ok] at e1 e2 e3;simp only [results,hr];simp [e1,e2,e3],h w hw⟩
end
def Zt (P:Program)(f:FuncId)(args:List Value)(I:Qt)(v:Value):Prop:=
 ∀ g H w,St g I H [] w->Calls P f args.toArray w fun e w'=>e= .returned v/\St g I H [] w'
def ZQ (P:Program)(f:FuncId)(args:List Value)(I:Qt)(L:Loc)(Post:Value->Qt->Loc->Prop):Prop:=
 ∀ g H w,St g I H L w->Calls P f args.toArray w fun e w'=>∃ v I' L',e= .returned v/\HLe I I'/\St g I' H L' w'/\Post v I' L'
variable{v:Value}
theorem Zt.m (h:Zt P f args I v):ZQ P f args I [] (fun u I' L=>u=v/\I'=I/\L=[]):=
 fun g H w hw=>(h g H w hw).mono fun _ _ ⟨he,hs⟩=>⟨v,I,[],he,zGN I,hs,U,U,U⟩
theorem ZQ.mono {L:Loc}{Post Post':Value->Qt->Loc->Prop}(h:ZQ P f args I L Post)(hp:∀ v I' L',HLe I I'->Post v I' L'->Post' v I' L'):ZQ P f args I L Post':=
 fun g H w hw=>(h g H w hw).mono fun _ _ ⟨v,I',L',he,hI,hs,p⟩=>⟨v,I',L',he,hI,hs,hp _ _ _ hI p⟩
inductive Yu:Loc->Loc->Loc->Prop
 | nil {l:Loc}:Yu l [] l
 | cons {l l1 l2 L:Loc} {b:Nat} {o:Obj} (h:Zf l b o l1) (hs:Yu l1 L l2):Yu l ((b,o)::L) l2
section
variable {g:World} {I I' H:Qt} {loc loc' L R:Loc} {w w':World}
theorem St.take (h:St g I H loc w){b:Nat}{o:Obj}(ht:Zf loc b o loc'):St g I H loc' w:=
 ⟨h.os,h.tape,h.out,h.size,h.imm,h.frm,fun c p hm=>h.own c p (ht.sub c p hm),h.sepIH,fun c p hm=>h.sepIL c p (ht.sub c p hm),(ht.nodup h.nodup).1⟩
theorem Yu.parts (hs:Yu loc L R):(loc.map (·.1)).Nodup->(∀ b o,(b,o)∈L->(b,o)∈loc)/\(∀ b o,(b,o)∈R->(b,o)∈loc)/\(∀ b o p,(b,o)∈L->(b,p)∉R)/\(L.map (·.1)).Nodup/\(R.map (·.1)).Nodup:=by
 induction hs with
 | nil=>exact fun hn=>⟨(fun _ _ h=>by cases h),fun _ _ h=>h,(fun _ _ _ h=>by cases h),by simp,hn⟩
 | @cons l l1 l2 L b o ht hs ih=>
  intro hn;obtain ⟨n1,n2⟩:=ht.nodup hn;obtain ⟨a1,a2,a3,a4,a5⟩:=ih n1;refine ⟨fun c p hm=>?_,fun c p hm=>ht.sub _ _ (a2 c p hm),fun c p q hm=>?_,?_,a5⟩
  ·rcases jp.1 hm with e | hm2
   ·cases e;exact ht.mem
   ·exact ht.sub _ _ (a1 c p hm2)
  ·rcases jp.1 hm with e | hm2
   ·cases e;exact fun hq=>n2 q (a2 _ _ hq)
   ·exact a3 c p q hm2
  ·simp only [jx,OQ];refine ⟨fun hm=>?_,a4⟩;obtain ⟨⟨c,p⟩,hm2,e⟩:=jt.1 hm;simp only at e;subst e;exact n2 p (a1 _ _ hm2)
theorem St.split (h:St g I H loc w)(hs:Yu loc L R):St g I (Vz H R) L w:=by
 obtain ⟨a1,a2,a3,a4,a5⟩:=hs.parts h.nodup;refine ⟨h.os,h.tape,h.out,h.size,h.imm,?_,fun b o hm=>h.own b o (a1 b o hm),?_,fun b o hm=>⟨(h.sepIL b o (a1 b o hm)).1,?_⟩,a4⟩
 ·intro b o e;rcases Wi e with hm | e
  ·exact h.own b o (a2 b o hm)
  ·exact h.frm b o e
 ·intro b
  cases e:Vz H R b with
  | none=>exact .inr U
  | some o=>
   rcases Wi e with hm | e
   ·exact .inl (h.sepIL b o (a2 b o hm)).1
   ·rcases h.sepIH b with e' | e'
    ·exact .inl e'
    ·rw [e'] at e;cases e
 ·rw [Xv (fun p hp=>a3 b o p hm hp)];exact (h.sepIL b o (a1 b o hm)).2
theorem St.rest (h:St g I H loc w)(hs:Yu loc L R):St g I H R w:=by obtain ⟨a1,a2,a3,a4,a5⟩:=hs.parts h.nodup;exact ⟨h.os,h.tape,h.out,h.size,h.imm,h.frm,fun b o hm=>h.own b o (a2 b o hm),h.sepIH,fun b o hm=>h.sepIL b o (a2 b o hm),a5⟩
theorem St.join (h:St g I H loc w)(hs:Yu loc L R){L':Loc}(h':St g I' (Vz H R) L' w'):St g I' H (L'++R) w':=(h.rest hs).unhide h'
theorem ZQ.frame {P:Program}{f:FuncId}{args:List Value}{Post:Value->Qt->Loc->Prop}(hc:ZQ P f args I L Post)(hs:Yu loc L R)(hw:St g I H loc w):
  Calls P f args.toArray w fun e w'=>∃ v I' L',e= .returned v/\HLe I I'/\St g I' H (L'++R) w'/\Post v I' L':=
 (hc g (Vz H R) w (hw.split hs)).mono fun _ _ ⟨v,I',L',he,hI,h',p⟩=>⟨v,I',L',he,hI,hw.join hs h',p⟩
end
def Fun (P:Program)(f:FuncId):Prop:=∃ fn,P.funcs[f]? =some fn/\(fn.name== "runtime.NumGoroutine")=false/\fn.body.isNone=false
theorem Fun.of (h:P.funcs[f]? =some fn)(h1:(fn.name== "runtime.NumGoroutine")=false)(h2:fn.body.isNone=false):Fun P f:=⟨fn,h,h1,h2⟩
theorem YF (h:Fun P f)(args:Array Value)(w:World):(callFunc f args).run P w= .ok (.enter f args) w:=by obtain ⟨fn,h1,h2,h3⟩:=h;simp only [callFunc,jg,run_program,Result.andThen,h1,h2,h3,jB,j2,jl]
section
variable {C:Cx} {Q:Exit->Act->World->Prop} {E E':Env} {I I':Qt} {loc loc' L R:Loc} {ops:Array Oper} {rest:List Oper} {S:GS}
variable {dst:Option Tmp} {d:Nat} {ty:TypeId} {pos:String} {af:Array Edge} {gd:Option (Nat×Bool)} {x y z:Operand}
theorem Jd {N:Nat}{D:List Deferred}{a:Act}(ha:Kf N D E a)(hg:KI S a)(hc:ZS S=true):∀ {l:List Operand} {vs:List Value},l.map (Qv S E)=vs.map some->l.map a.eval=vs
 | [],[],_=>rfl
 | [],_::_,h=>by simp at h
 | o::l,[],h=>by simp at h
 | o::l,v::vs,h=>by
  simp only [jx,AI] at h ⊢;exact ⟨Qi ha hg hc h.1,Jd ha hg hc h.2⟩
theorem zej {P:Program}{a:Act}{w:World}{f:FuncId}{cap:List Value}{l:List Operand}{vs:List Value}{tys:Array TypeId}{cal:Operand}
  (he:a.eval cal= .func (.func f) #[] cap.toArray)(hl:l.map a.eval=vs)(hF:Fun P f):
  (execOp a.eval ⟨dst,.call ⟨.value cal,l.toArray,tys⟩,ty,pos,af,gd⟩).run P w= .ok (.enter f (vs++cap).toArray) w:=by
 simp only [execOp,resolve,he,j6,hl,Deferred.ofValue,jg,jl,Result.andThen,invoke,YF hF];simp
theorem za2 {f:FuncId}{cap:List Value}{l:List Operand}{vs:List Value}{tys:Array TypeId}{cal:Operand}{K:Value->Qt->Loc->Prop}
  (he:Qv S E cal=some (.func (.func f) #[] cap.toArray))(hl:l.map (Qv S E)=vs.map some)(hF:Fun C.P f)(hG:Zv ops S E ⟨dst,.call ⟨.value cal,l.toArray,tys⟩,ty,pos,af,gd⟩)
  (hd:dst=some d)(hN:Nat.blt d C.N=true)(hf:Yi S E d=true)(hsp:Yu loc L R)(hc:ZS S=true->ZQ C.P f (vs++cap) I L K)(hno:ZS S=false->∃ v,K v I L)
  (h:∀ v I' L',HLe I I'->K v I' L'->XO C Q ops rest (Uk S E d v) (zhj S E d v) I' (L'++R)):
  XO C Q ops (⟨dst,.call ⟨.value cal,l.toArray,tys⟩,ty,pos,af,gd⟩::rest) S E I loc:=by
 intro a w ha hg hw;simp only [wpListIn];rw [hG.wanted ha hg]
 cases hcj:ZS S with
 | true=>
  simp only [Oj,Oper.wpIn];refine ⟨fun _ _=>trivial,?_⟩;rw [O8 _ _ _ kC,zej (Qi ha hg hcj he) (Jd ha hg hcj hl) hF,BX];refine ⟨by simp [FR],U6.2 (((hc hcj).frame hsp hw).mono ?_)⟩;rintro e w' ⟨v,I',L',rfl,hI,hs,hk⟩;have hp:=YA ha hg hN hf v;rw [hcj] at hp;rw [hd];exact h v I' L' hI hk _ _ hp.1 hp.2 hs
 | false=>
  simp only [jB,j2];refine ⟨fun _ _=>trivial,?_⟩;obtain ⟨v,hk⟩:=hno hcj;have hp:=YA ha hg hN hf v;rw [hcj] at hp;rw [hd];exact h v I L (zGN I) hk _ _ hp.1 hp.2 ((hw.rest hsp).unhide (hw.split hsp))
theorem zia {f:FuncId}{cap:List Value}{l:List Operand}{vs:List Value}{tys:Array TypeId}{cal:Operand}{v:Value}
  (he:Qv S E cal=some (.func (.func f) #[] cap.toArray))(hl:l.map (Qv S E)=vs.map some)(hF:Fun C.P f)(hc:ZS S=true->Zt C.P f (vs++cap) I v)
  (hG:Zv ops S E ⟨some d,.call ⟨.value cal,l.toArray,tys⟩,ty,pos,af,gd⟩)(hN:Nat.blt d C.N=true)(hf:Yi S E d=true)
  (h:XO C Q ops rest (Uk S E d v) (zhj S E d v) I loc):
  XO C Q ops (⟨some d,.call ⟨.value cal,l.toArray,tys⟩,ty,pos,af,gd⟩::rest) S E I loc:=
 za2 (K:=fun u I' L=>u=v/\I'=I/\L=[]) he hl hF hG U hN hf .nil (fun e=>(hc e).m) (fun _=>⟨v,U,U,U⟩) (by rintro _ _ _ _ ⟨rfl,rfl,rfl⟩;exact h)
theorem Z1 {f:FuncId}{cap:List Value}{l:List Operand}{vs:List Value}{tys:Array TypeId}{cal:Operand}{K:Value->Qt->Loc->Prop}
  (he:Qv [] E cal=some (.func (.func f) #[] cap.toArray))(hl:l.map (Qv [] E)=vs.map some)(hF:Fun C.P f)(hsp:Yu loc L R)(hc:ZQ C.P f (vs++cap) I L K)
  (hG:gd=none)(hN:Nat.blt d C.N=true)(h:∀ v I' L',HLe I I'->K v I' L'->XO C Q ops rest [] ((d,v)::E) I' (L'++R)):
  XO C Q ops (⟨some d,.call ⟨.value cal,l.toArray,tys⟩,ty,pos,af,gd⟩::rest) [] E I loc:=
 za2 he hl hF (.none hG) U hN U hsp (fun _=>hc) (fun e=>by cases e) h

theorem zpc {f:FuncId}{l:List Operand}(vs:List Value){tys:Array TypeId}{cal:Operand}{K:Value->Qt->Loc->Prop}(hl:l.map (Qv [] E)=vs.map some)(hF:Fun C.P f)(hsp:Yu loc L R)(hc:ZQ C.P f (vs++[]) I L K)(h:∀ v I' L',HLe I I'->K v I' L'->XO C Q ops rest [] ((d,v)::E) I' (L'++R))
  (he:Qv [] E cal=some (.func (.func f) #[] [].toArray):=by exact U)(hN:Nat.blt d C.N=true:=by exact U):XO C Q ops (⟨some d,.call ⟨.value cal,l.toArray,tys⟩,ty,pos,af,none⟩::rest) [] E I loc:=Z1 (cap:=[]) he hl hF hsp hc U hN h
theorem Ya {o:Oper}(hG:o.guard=none)(hdf:∀ c,o.op≠ .defer c)
  (h:∀ a w,Kf C.N C.D E a->St C.g I C.H loc w->o.uponIn (FR C.r) 0 C.P a (wpListIn (FR C.r) 0 C.P ops Q rest) Q ((execOp a.eval o).run C.P w)):XO C Q ops (o::rest) [] E I loc:=by
 intro a w ha hg hw;simp only [wpListIn,Region.wanted,hG,Oj,Oper.wpIn];exact ⟨fun _ _=>trivial,by rw [O8 _ _ _ hdf];exact h a w ha hw⟩
def Yw (P:Program)(t:Nat)(z:Value):Prop:=∃ i,P.info? t=some i/\i.zero=some z
theorem Yw.of {P:Program}{t:Nat}{z:Value}(h:(P.info? t).bind (·.zero)=some z):Yw P t z:=by
 cases e:P.info? t with
 | none=>rw [e] at h;cases h
 | some i=>rw [e] at h;exact ⟨i,e,h⟩
theorem Yc {P:Program}{w:World}{t:TypeId}{z:Value}(h:Yw P t z):(zeroValue t).run P w= .ok z w:=by obtain ⟨i,h1,h2⟩:=h;simp only [zeroValue,jg,zaJ h1,Result.andThen,h2,jl]
theorem Qs {t:Nat}{zv:Value}(hz:Yw C.P t zv)(hG:gd=none)(hN:Nat.blt d C.N=true)(h:∀ b,XO C Q ops rest [] ((d,.pointer (some ⟨b,0,none⟩))::E) I ((b,.cells zv.cells t (0,0))::loc)):
  XO C Q ops (⟨some d,.alloc t,ty,pos,af,gd⟩::rest) [] E I loc:=
 Ya hG kC fun a w ha hw=>by
  simp only [execOp,Instr.alloc,jg,Yc hz,Result.andThen,newVar,newRow,Bs,jl,Oq];exact h _ _ _ (ha.put hN _) trivial (hw.alloc _)
theorem QG {t:Nat}{v:Value}(hx:Qv [] E x=some v)(hG:gd=none)(hN:Nat.blt d C.N=true)(h:∀ b,XO C Q ops rest [] ((d,.pointer (some ⟨b,0,none⟩))::E) I ((b,.cells v.cells t (0,0))::loc)):
  XO C Q ops (⟨some d,.box t x,ty,pos,af,gd⟩::rest) [] E I loc:=
 Ya hG kC fun a w ha hw=>by
  simp only [execOp,Qi (S:=[]) ha trivial rfl hx,Instr.box,jg,Result.andThen,newVar,newRow,Bs,jl,Oq];exact h _ _ _ (ha.put hN _) trivial (hw.alloc _)
def SzT (P:Program)(t n:Nat):Prop:=∃ i,P.info? t=some i/\i.size=n
def zF0 (P:Program)(t n:Nat):Bool:=match P.info? t with | some i=>i.size==n | none=>false
theorem SzT.of {P:Program}{t n:Nat}(h:zF0 P t n=true):SzT P t n:=by
 unfold zF0 at h;split at h
 ·rename_i i hi;rw [j0] at h;exact ⟨i,hi,h⟩
 ·cases h
theorem WC {I H:Qt}{loc:Loc}{g w:World}(hw:St g I H loc w){b off:Nat}{c:Array Value}{t:TypeId}(hm:(b,Obj.cells c t (0,0))∈loc):w.frozen? ⟨b,off,none⟩=false:=by simp [World.frozen?,hw.own _ _ hm]
theorem Z0 {t t' b off:Nat}{v:Value}{c:Array Value}(hx:Qv [] E x=some (.pointer (some ⟨b,off,none⟩)))(hy:Qv [] E y=some v)(hT:SzT C.P t 1)(h1:v.oneCell'=true)(hG:gd=none)
  (hu:Upd loc b (.cells c t' (0,0)) (.cells (c.setIfInBounds off v) t' (0,0)) loc')(hlt:Nat.blt off c.size=true)(h:XO C Q ops rest [] E I loc'):
  XO C Q ops (⟨none,.store t x y,ty,pos,af,gd⟩::rest) [] E I loc:=
 Ya hG kC fun a w ha hw=>by
  have hcs:v.cells= #[v]:=by cases v<;>first | rfl | (simp [Value.oneCell'] at h1)
  obtain ⟨i,hi,hs⟩:=hT
  have hc:∃ u,w.cell? ⟨b,off,none⟩=some u:=by
   have:=hw.own _ _ hu.mem;have hlt':off<c.size:=Eq.mp AV hlt;exact ⟨c[off],by simp [World.cell?,this,hlt']⟩
  obtain ⟨u,hc⟩:=hc;have hfz:=WC (off:=off) hw hu.mem;simp only [execOp,Qi (S:=[]) ha trivial rfl hx,Qi (S:=[]) ha trivial rfl hy,Instr.storeAt,Instr.sureAddr,jg,jl,Result.andThen,storeVar,run_sizeOf hi,hs,hcs,Oh,jw,O4,Oc,Bn,OF,j2,storeCells,Yn,B1,run_store _ _ _ _ _ h1,hc,hfz,jB,AD];exact h _ _ ha trivial (hw.setCell hu)
theorem zx8 {t t' b off:Nat}{v:Value}{c:Array Value}(hT:SzT C.P t 1)(h1:v.oneCell'=true)(h:XO C Q ops rest [] E I loc')(hx:Qv [] E x=some (.pointer (some ⟨b,off,none⟩)):=by exact U)(hy:Qv [] E y=some v:=by exact U)
  (hu:Upd loc b (.cells c t' (0,0)) (.cells (c.setIfInBounds off v) t' (0,0)) loc':=by repeat (first | exact Upd.here | apply Upd.there | apply QH))(hlt:Nat.blt off c.size=true:=by exact U):XO C Q ops (⟨none,.store t x y,ty,pos,af,none⟩::rest) [] E I loc:=Z0 hx hy hT h1 U hu hlt h
theorem zS {t t' b off:Nat}{v:Value}{c:Array Value}(hT:SzT C.P t 1)(h:XO C Q ops rest [] E I loc')(hx:Qv [] E x=some (.pointer (some ⟨b,off,none⟩)):=by exact U)(hy:Qv [] E y=some v:=by exact U)(h1:v.oneCell'=true:=by exact U)
  (hu:Upd loc b (.cells c t' (0,0)) (.cells (c.setIfInBounds off v) t' (0,0)) loc':=by repeat (first | exact Upd.here | apply Upd.there | apply QH))(hlt:Nat.blt off c.size=true:=by exact U):XO C Q ops (⟨none,.store t x y,ty,pos,af,none⟩::rest) [] E I loc:=Z0 hx hy hT h1 U hu hlt h
theorem Upd.middle {b:Nat}{o o':Obj}(m:Obj)(hu:Upd loc b o o' loc'):∃ l1,Upd loc b o m l1/\Upd l1 b m o' loc':=by
 induction hu with
 | here=>exact ⟨_,.here,.here⟩
 | there _ ih=>obtain ⟨l1,a,b⟩:=ih;exact ⟨_,.there a,.there b⟩
theorem Kx {P:Program}{g:World}{I H:Qt}:∀ (vs:List Value) (pre:List Value) (w:World) (loc loc':Loc) (b:Nat) (t:TypeId) (old:List Value),old.length=vs.length->(∀ v∈vs,v.oneCell'=true)->St g I H loc w->
  Upd loc b (.cells (pre++old).toArray t (0,0)) (.cells (pre++vs).toArray t (0,0)) loc'->∃ w',(storeCells ⟨b,0,none⟩ vs pre.length).run P w= .ok () w'/\St g I H loc' w'
 | [],pre,w,loc,loc',b,t,old,hl,_,hw,hu=>by
  have:old=[]:=jR.1 hl;subst this;refine ⟨w,U,?_⟩;have hb:=hw.own _ _ hu.mem;exact hw.turn hu U U U U hb (fun _ _=>U)
 | v::vs,pre,w,loc,loc',b,t,old,hl,h1,hw,hu=>by
  cases old with
  | nil=>simp at hl
  | cons u old=>
   have hb:=hw.own _ _ hu.mem;have hc:w.cell? ⟨b,pre.length,none⟩=some u:=(by simp [World.cell?,hb]);have hfz:=WC (off:=pre.length) hw hu.mem;obtain ⟨l1,u1,u2⟩:=hu.middle (.cells ((pre++[v])++old).toArray t (0,0));have hset:((pre++u::old).toArray.setIfInBounds pre.length v)=((pre++[v])++old).toArray:=(by simp);rw [<-hset] at u1;have hw1:=hw.setCell u1;rw [hset] at u1;obtain ⟨w',hr,hs⟩:=Kx (P:=P) vs (pre++[v]) _ l1 loc' b t old (by simpa using hl) (fun x hx=>h1 x (jq _ hx)) hw1 (by simpa using u2);refine ⟨w',?_,hs⟩;rw [jh,jG] at hr;simp only [storeCells,jg,Yn,Oc,run_store _ _ _ _ _ (h1 v (jk ..)),hc,hfz,jB,j2,Result.andThen,hr]
def YP:List Value->Bool
 | []=>true
 | v::l=>v.oneCell'&&YP l
theorem Je:∀ {l:List Value},YP l=true->∀ v∈l,v.oneCell'=true
 | [],_,v,hv=>by cases hv
 | u::l,h,v,hv=>by
  simp only [YP,jj] at h;rcases jp.1 hv with rfl | hv
  ·exact h.1
  ·exact Je h.2 v hv
theorem Vb {α:Type}{enc:α->List Value}(h:∀ x,YP (enc x)=true):∀ (xs:List α),YP (xs.flatMap enc)=true
 | []=>rfl
 | x::xs=>by
  have key:∀ (a b:List Value),YP a=true->YP b=true->YP (a++b)=true:=by
   intro a
   induction a with
   | nil=>intro b _ h;exact h
   | cons v a ih=>
    intro b h1 h2;simp only [YP,jj] at h1;simp only [OE,YP,h1.1,OM];exact ih b h1.2 h2
  rw [jO];exact key _ _ (h x) (Vb h xs)
theorem zfn {t t' b n:Nat}{vs:List Value}{old:List Value}(hx:Qv [] E x=some (.pointer (some ⟨b,0,none⟩)))(hy:Qv [] E y=some (.agg vs.toArray))(hT:SzT C.P t n)(hn:vs.length=n)(ho:old.length=n)(h1:YP vs=true)(hG:gd=none)
  (hu:Upd loc b (.cells old.toArray t' (0,0)) (.cells vs.toArray t' (0,0)) loc')(h:XO C Q ops rest [] E I loc'):
  XO C Q ops (⟨none,.store t x y,ty,pos,af,gd⟩::rest) [] E I loc:=
 Ya hG kC fun a w ha hw=>by
  obtain ⟨i,hi,hs⟩:=hT;obtain ⟨w',hr,hs'⟩:=Kx (P:=C.P) vs [] w loc loc' b t' old kB (Je h1) hw hu;simp only [execOp,Qi (S:=[]) ha trivial rfl hx,Qi (S:=[]) ha trivial rfl hy,Instr.storeAt,Instr.sureAddr,jg,jl,Result.andThen,storeVar,run_sizeOf hi,hs,Value.cells,Oh,hn,Bn,OF,j2];rw [show ([]:List Value).length=0 from U] at hr;simp only [hr,AD];exact h _ _ ha trivial hs'
theorem zh {t t' b n:Nat}{vs:List Value}{old:List Value}(hT:SzT C.P t n)(h:XO C Q ops rest [] E I loc')(hx:Qv [] E x=some (.pointer (some ⟨b,0,none⟩)):=by exact U)(hy:Qv [] E y=some (.agg vs.toArray):=by exact U)(hn:vs.length=n:=by exact U)(h1:YP vs=true:=by exact U)
  (hu:Upd loc b (.cells old.toArray t' (0,0)) (.cells vs.toArray t' (0,0)) loc':=by repeat (first | exact Upd.here | apply Upd.there | apply QH))(ho:old.length=n:=by exact U):XO C Q ops (⟨none,.store t x y,ty,pos,af,none⟩::rest) [] E I loc:=zfn hx hy hT hn ho h1 U hu h
end
theorem gbt {b:Bool}:b=(b==true):=by cases b<;>rfl
theorem gbf {b:Bool}:(!b)=(b==false):=by cases b<;>rfl
section
variable {C:Cx} {Q:Exit->Act->World->Prop} {E E':Env} {I I':Qt} {loc loc' L R:Loc} {ops:Array Oper} {rest:List Oper} {S:GS}
variable {dst:Option Tmp} {d:Nat} {ty:TypeId} {pos:String} {af:Array Edge} {gd:Option (Nat×Bool)} {x y z:Operand}
theorem QA (j:Nat){oj:Oper}{dj:Nat}{b0:Bool}(_hj:ops[j]? =some oj)(_hd:oj.dst=some dj)(_hl:WO S E dj=some (.bool b0))(h:XO C Q ops rest ((b0,[])::S) E I loc):XO C Q ops rest S E I loc:=zny b0 h
theorem Q8 (j:Nat){oj:Oper}{dj:Nat}{b0:Bool}(_hj:ops[j]? =some oj)(_hd:oj.dst=some dj)(_hl:WO S E dj=some (.bool b0))(h:XO C Q ops rest ((!b0,[])::S) E I loc):XO C Q ops rest S E I loc:=zny (!b0) h

def Ab (av:Option Addr):Nat:=match av with | some a=>a.block | none=>0
def Ao (av:Option Addr):Nat:=match av with | some a=>a.off | none=>0
structure Sl {α:Type}(I:Qt)(size:Nat)(enc:α->List Value)(av:Option Addr)(n c:Nat)(xs:List α):Prop where
 len:xs.length=n
 cap:n<=c
 base:n≠0->av=some ⟨Ab av,Ao av,none⟩
 cells:∀ k x,xs[k]? =some x->∀ j u,(enc x)[j]? =some u->QB I [] (Ab av) (Ao av+k*size+j) u
theorem Sl.nil {α:Type}{I:Qt}{size:Nat}{enc:α->List Value}{av:Option Addr}{c:Nat}:Sl I size enc av 0 c ([]:List α):=
 ⟨U,jf _,fun h=>absurd U h,fun k x h=>by simp at h⟩
theorem Sl.mono {α:Type}{size:Nat}{enc:α->List Value}{av:Option Addr}{n c:Nat}{xs:List α}(h:Sl I size enc av n c xs)(hI:HLe I I'):Sl I' size enc av n c xs:=
 ⟨h.len,h.cap,h.base,fun k x hx j u hu=>(h.cells k x hx j u hu).mono hI⟩
theorem Sl.get {α:Type}{size:Nat}{enc:α->List Value}{av:Option Addr}{n c:Nat}{xs:List α}(h:Sl I size enc av n c xs){k j:Nat}{x:α}{u:Value}(hx:xs[k]? =some x)(hu:(enc x)[j]? =some u):QB I loc (Ab av) (Ao av+k*size+j) u:=
 (h.cells k x hx j u hu).any
abbrev zGP:=@Sl.get
theorem Sl.getA {α:Type}{size:Nat}{enc:α->List Value}{av:Option Addr}{n c:Nat}{xs:List α}(h:Sl I size enc av n c xs){k:Nat}{x:α}(hx:xs[k]? =some x):Cells I loc (Ab av) (Ao av+k*size) (enc x):=
 fun j u hu=>(h.cells k x hx j u hu).any
abbrev zGO:=@Sl.getA
theorem Qy {α:Type}{t e size n c:Nat}{enc:α->List Value}{av:Option Addr}{xs:List α}{k:IntKind}{i:Int}(hx:Qv S E x=some (.slice av n c))(hy:Qv S E y=some (.int k i))(hT:SlT C.P t e size)(hS:Sl I size enc av n c xs)
  (hb:ZS S=true->0<=i/\i<(n:Int)):QV C S E I loc ⟨dst,.indexAddr t x y,ty,pos,af,gd⟩ (.pointer (some ⟨Ab av,Ao av+i.toNat*size,none⟩)):=
 .of kC fun a w ha hg hc hw=>by
  have hn:n≠0:=(by have:=hb hc;omega);exact (zaK (C:=C) (I:=I) (loc:=loc) (dst:=dst) (ty:=ty) (pos:=pos) (af:=af) (gd:=gd) (b:=Ab av) (off:=Ao av) (by rw [<-hS.base hn];exact hx) hy hT hb).2 a w ha hg hc hw
theorem zX {α:Type}{t e size n c:Nat}{enc:α->List Value}{av:Option Addr}{xs:List α}{k:IntKind}{i:Int}(hT:SlT C.P t e size)(hS:Sl I size enc av n c xs)(hx:Qv S E x=some (.slice av n c):=by exact U)(hy:Qv S E y=some (.int k i):=by exact U)
  (hb:ZS S=true->0<=i/\i<(n:Int):=by (intro hg;first | omega | (simp [ZS] at hg;omega) | (simp only [jw,O4];omega))):QV C S E I loc ⟨dst,.indexAddr t x y,ty,pos,af,gd⟩ (.pointer (some ⟨Ab av,Ao av+i.toNat*size,none⟩)):=Qy hx hy hT hS hb
theorem Cells.here {b:Nat}{vs:List Value}{t:TypeId}{fz:Nat×Nat}{l:Loc}:Cells I ((b,.cells vs.toArray t fz)::l) b 0 vs:=fun j u hu=>.here (by rw [Oc,YU];simpa using hu)
abbrev zGL:=@Cells.here
theorem Cells.there {b off:Nat}{vs:List Value}{p:Nat×Obj}{l:Loc}(h:Cells I l b off vs):Cells I (p::l) b off vs:=fun j u hu=>(h j u hu).there
abbrev zGK:=@Cells.there
theorem K9 {M:Env->Qt->Loc->Prop}(E':Env)(hM:M E' I loc)(hE:Sub E' E):At C (Exit.then (Met C M) Q) .normal E I loc:=zCz E' I loc hM hE (zGN _) U
end
section quiet
variable {P:Program} {ops:Array Oper} {md:Region.Mode} {K0:World->Prop} {r:Option Nat}
theorem zdY {o:Oper}{a:Act}{K:Act->Prop}{K':Act->World->Prop}{Q':Exit->Act->World->Prop}{w:World}(hw:K0 w)(h:∀ a w',K0 w'->K a->K' a w')(hh:o.quiet P a K0 K):o.wpIn (FR r) 0 P a w K' Q':=by
 obtain ⟨v,h1,h2⟩:=hh;have h3:=h1 w hw
 have hdf:∀ c,o.op≠ .defer c:=fun c e=>by
  unfold Oper.quietAt at h3;have hx:execOp a.eval o=(do pure (.defer (<-resolve a.eval c o.type))):=(by simp only [execOp,e]);rw [hx] at h3;simp only [jg] at h3;generalize (resolve a.eval c o.type).run P w=q at h3;cases q<;>simp [Result.andThen,Oper.quietUpon] at h3
 refine ⟨fun _ _=>trivial,?_⟩;rw [O8 _ _ _ hdf];unfold Oper.quietAt at h3;generalize (execOp a.eval o).run P w=q at*
 cases q with
 | ok n w'=>
  cases n<;>simp only [Oper.quietUpon] at h3<;>simp only [Oper.uponIn]
  case value u=>
   obtain ⟨e1,e2⟩:=h3;rw [e1,e2];exact h _ _ hw h2
  case skip=>
   obtain ⟨e1,e2⟩:=h3;rw [e1,<-e2];exact h _ _ hw h2
  case enter f args=>
   obtain ⟨e1,hc⟩:=h3;rw [e1];exact ⟨by simp [FR],U6.2 (hc.mono fun e w'' ⟨he,hw''⟩=>by subst he;exact h _ _ hw'' h2)⟩
 | halt x w'=>simp only [Oper.quietUpon] at h3
theorem zeB {i:Nat}{a:Act}{K:Act->Prop}{K':Act->World->Prop}{Q':Exit->Act->World->Prop}{w:World}(hC:K0 w)(h:∀ a w',K0 w'->K a->K' a w')(hh:qOp P ops K0 i K a):wpOpIn (FR r) 0 P ops Q' i K' a w:=by
 unfold qOp at hh;unfold wpOpIn;split
 ·rename_i ho;simp only [ho] at hh;exact h _ _ hC hh
 ·rename_i o ho;simp only [ho] at hh;split
  ·rename_i hw;simp only [hw,Oj] at hh;exact zdY hC h hh
  ·rename_i hw;simp only [hw] at hh;exact ⟨fun _ _=>trivial,h _ _ hC hh⟩
theorem Ur {Q:Act->Prop}{Q':Exit->Act->World->Prop}(hQ:∀ a w,K0 w->Q a->Q' .normal a w):∀ (fuel:Nat) (listed:Array Bool) (a:Act) (w:World),K0 w->
  wpAnyQ P md ops K0 Q fuel listed a->wpAnyIn (FR r) 0 P md ops Q' fuel listed a w
 | 0,_,_,_,hw,h=>⟨h.1,hQ _ _ hw h.2⟩
 | fuel+1,_,_,_,hw,h=>⟨fun h0=>hQ _ _ hw (h.1 h0),fun i hi=>zeB hw (fun a' w' hw'=>Ur hQ fuel _ a' w' hw') (h.2 i hi)⟩
theorem zaa {id:Nat}{Q:Exit->Act->World->Prop}{a:Act}{w:World}(hm:P.follows .mixedOrders=true)(hB:Region.lexB .any ops=true)(hC:K0 {w with drawn:=w.drawn+1})
  (h:wpQuiet P ops K0 (fun a'=>∀ w',K0 w'->Q .normal a' w') ops.toList a):(Code.region id ops true).wpIn (FR r) 0 P Q a w:=by
 simp only [Region.lexB,jj] at hB;refine wpIn_region_any hm (Ur (Q:=fun a'=>∀ w',K0 w'->Q .normal a' w') (fun _ w' hw' h=>h w' hw') _ _ _ _ hC ?_);have:=wpAnyQ_lex (C:=K0) (md:=.any) hB.1 ops.toList 0 (Array.replicate ops.size false) a kK (by simpa using hB.2) h;simpa using this
end quiet
section
variable {C:Cx} {Q:Exit->Act->World->Prop} {E E':Env} {I I':Qt} {loc loc' L R:Loc} {ops:Array Oper} {rest:List Oper} {S:GS}
variable {dst:Option Tmp} {d:Nat} {ty:TypeId} {pos:String} {af:Array Edge} {gd:Option (Nat×Bool)} {x y z:Operand}
def XQ (C:Cx)(Q:Exit->Act->World->Prop)(ops:Array Oper)(l:List Oper)(S:GS)(E:Env)(I:Qt)(loc:Loc):Prop:=
 ∀ a,Kf C.N C.D E a->KI S a->wpQuiet C.P ops (fun w=>St C.g I C.H loc w) (fun a'=>∀ w',St C.g I C.H loc w'->Q .normal a' w') l a
theorem YE {id:Nat}{l:List Oper}(hm:C.P.follows .mixedOrders=true)(hB:Region.lexB .any l.toArray=true)(h:XQ C Q l.toArray l [] E I loc):X C Q (.region id l.toArray true) E I loc:=fun a w ha hw=>
 zaa hm hB hw.drew (by simpa using h a ha trivial)
theorem YC (h:At C Q .normal E I loc):XQ C Q ops [] S E I loc:=fun a ha _=>wpQuiet_nil fun w hw=>h a w ha hw
theorem zlG (b:Bool)(h:XQ C Q ops rest ((b,[])::S) E I loc):XQ C Q ops rest S E I loc:=fun a ha hg=>h a ha ⟨(fun _ _ e=>by cases e),hg⟩
theorem za9 (j:Nat){oj:Oper}{dj:Nat}{b0:Bool}(_hj:ops[j]? =some oj)(_hd:oj.dst=some dj)(_hl:WO S E dj=some (.bool b0))(h:XQ C Q ops rest ((b0,[])::S) E I loc):XQ C Q ops rest S E I loc:=zlG b0 h
theorem JL (j:Nat){oj:Oper}{dj:Nat}{b0:Bool}(_hj:ops[j]? =some oj)(_hd:oj.dst=some dj)(_hl:WO S E dj=some (.bool b0))(h:XQ C Q ops rest ((!b0,[])::S) E I loc):XQ C Q ops rest S E I loc:=zlG (!b0) h
theorem zmb {o:Oper}{v:Value}(hv:∀ a,Kf C.N C.D E a->KI S a->ZS S=true->∀ w,St C.g I C.H loc w->o.quietAt C.P a (fun w=>St C.g I C.H loc w) w v)(hG:Zv ops S E o)(hd:o.dst=some d)(hN:Nat.blt d C.N=true)(hf:Yi S E d=true)
  (h:XQ C Q ops rest (Uk S E d v) (zhj S E d v) I loc):XQ C Q ops (o::rest) S E I loc:=by
 intro a ha hg;have hp:=YA ha hg hN hf v;simp only [wpQuiet];rw [hG.wanted ha hg]
 cases hc:ZS S with
 | true=>
  rw [hc] at hp;simp only [Oj];exact ⟨v,hv a ha hg hc,by rw [hd];exact h _ hp.1 hp.2⟩
 | false=>
  rw [hc] at hp;simp only [jB,j2];rw [hd];exact h _ hp.1 hp.2
theorem zs5 {o:Oper}{v:Value}(hv:QV C S E I loc o v)(hG:Zv ops S E o)(hd:o.dst=some d)(hN:Nat.blt d C.N=true)(hf:Yi S E d=true)
  (h:XQ C Q ops rest (Uk S E d v) (zhj S E d v) I loc):XQ C Q ops (o::rest) S E I loc:=
 zmb (fun a ha hg hc w hw=>by unfold Oper.quietAt;rw [hv.2 a w ha hg hc hw];exact ⟨U,U⟩) hG hd hN hf h
theorem zjh {f:FuncId}{cap:List Value}{l:List Operand}{vs:List Value}{tys:Array TypeId}{cal:Operand}{v:Value}
  (he:Qv S E cal=some (.func (.func f) #[] cap.toArray))(hl:l.map (Qv S E)=vs.map some)(hF:Fun C.P f)(hc:ZS S=true->Zt C.P f (vs++cap) I v)
  (hG:Zv ops S E ⟨some d,.call ⟨.value cal,l.toArray,tys⟩,ty,pos,af,gd⟩)(hN:Nat.blt d C.N=true)(hf:Yi S E d=true)
  (h:XQ C Q ops rest (Uk S E d v) (zhj S E d v) I loc):
  XQ C Q ops (⟨some d,.call ⟨.value cal,l.toArray,tys⟩,ty,pos,af,gd⟩::rest) S E I loc:=
 zmb (fun a ha hg hcj w hw=>by
  unfold Oper.quietAt;rw [zej (Qi ha hg hcj he) (Jd ha hg hcj hl) hF]
  exact ⟨U,(hc hcj _ _ _ hw.hide).mono fun e w' ⟨e1,e2⟩=>⟨e1,hw.unhide e2⟩⟩) hG U hN hf h
theorem zti {tc ta:Nat}{b t x:Bool}{G:Env}(hb:b=t)(hc:Qv S E (.tmp tc)=some (.bool t))(ha':Jl G ta=some (.bool x))
  (hG:Zv ops S E ⟨some d,.pick (.tmp tc) (.tmp ta) (.const (.bool false)),ty,pos,af,gd⟩)(hN:Nat.blt d C.N=true)(hf:Yi S E d=true)
  (h:XQ C Q ops rest (Uk S E d (.bool (t&&x))) (zhj S E d (.bool (t&&x))) I loc):
  XQ C Q ops (⟨some d,.pick (.tmp tc) (.tmp ta) (.const (.bool false)),ty,pos,af,gd⟩::rest) ((b,G)::S) E I loc:=by
 intro a ha hg;have hp:=YA ha hg.2 hN hf (.bool (t&&x));simp only [wpQuiet];rw [hG.wanted ha hg.2]
 cases hcj:ZS S with
 | true=>
  rw [hcj] at hp;simp only [Oj];have e1:a.eval (.tmp tc)= .bool t:=Qi ha hg.2 hcj hc
  have e2:t=true->a.eval (.tmp ta)= .bool x:=fun e=>by
   have:=hg.1 _ _ ha';rw [hcj,hb,e] at this;exact this
  refine ⟨.bool (t&&x),fun w hw=>?_,h _ hp.1 hp.2⟩;unfold Oper.quietAt;simp only [execOp,e1,asBool,jg,jl,Result.andThen]
  cases t with
  | true=>simp only [Oj,e2 rfl];exact ⟨U,U⟩
  | false=>exact ⟨U,U⟩
 | false=>
  rw [hcj] at hp;simp only [jB,j2];exact h _ hp.1 hp.2
theorem zEE {tc ta:Nat}{b t x:Bool}{G:Env}(hb:b= !t)(hc:Qv S E (.tmp tc)=some (.bool t))(ha':Jl G ta=some (.bool x))
  (hG:Zv ops S E ⟨some d,.pick (.tmp tc) (.const (.bool true)) (.tmp ta),ty,pos,af,gd⟩)(hN:Nat.blt d C.N=true)(hf:Yi S E d=true)
  (h:XQ C Q ops rest (Uk S E d (.bool (t||x))) (zhj S E d (.bool (t||x))) I loc):
  XQ C Q ops (⟨some d,.pick (.tmp tc) (.const (.bool true)) (.tmp ta),ty,pos,af,gd⟩::rest) ((b,G)::S) E I loc:=by
 intro a ha hg;have hp:=YA ha hg.2 hN hf (.bool (t||x));simp only [wpQuiet];rw [hG.wanted ha hg.2]
 cases hcj:ZS S with
 | true=>
  rw [hcj] at hp;simp only [Oj];have e1:a.eval (.tmp tc)= .bool t:=Qi ha hg.2 hcj hc
  have e2:t=false->a.eval (.tmp ta)= .bool x:=fun e=>by
   have:=hg.1 _ _ ha';rw [hcj,hb,e] at this;exact this
  refine ⟨.bool (t||x),fun w hw=>?_,h _ hp.1 hp.2⟩;unfold Oper.quietAt;simp only [execOp,e1,asBool,jg,jl,Result.andThen]
  cases t with
  | false=>simp only [jB,j2,e2 rfl];exact ⟨U,U⟩
  | true=>exact ⟨U,U⟩
 | false=>
  rw [hcj] at hp;simp only [jB,j2];exact h _ hp.1 hp.2
end

section
variable {P:Program} {ops:Array Oper} {Q:Exit->Act->World->Prop} {md:Region.Mode} {K0:World->Prop} {r:Option Nat}
def Vj (r:Option Nat)(P:Program)(md:Region.Mode)(ops:Array Oper)(Q:Exit->Act->World->Prop)(K0:World->Prop):Nat->Array Bool->Act->World->Prop
 | 0,listed,a,w=>Region.ready md ops listed=[]/\Q .normal a w
 | fuel+1,listed,a,w=>
  (Region.ready md ops listed=[]->Q .normal a w)/\
  ∀ i∈Region.ready md ops listed,wpOpIn (FR r) 0 P ops Q i (fun a' w'=>K0 w'/\Vj r P md ops Q K0 fuel (listed.setIfInBounds i true) a' w') a w
theorem zaG:∀ (fuel:Nat) (listed:Array Bool) (a:Act) (w:World),Vj r P md ops Q K0 fuel listed a w->wpAnyIn (FR r) 0 P md ops Q fuel listed a w
 | 0,_,_,_,h=>h
 | fuel+1,_,_,_,h=>⟨h.1,fun i hi=>wpOpIn_mono (fun a' w' h'=>zaG fuel _ a' w' h'.2) (h.2 i hi)⟩
theorem YieldsIf.wpOpIn {i:Nat}{o:Oper}{v:Value}{a:Act}(hi:ops[i]? =some o)(hdf:∀ c,o.op≠ .defer c)(hy:YieldsIf P ops K0 o v a)
  {K:Act->World->Prop}{w:World}(hS:K0 w)(h:K (a.put o.dst v) w):wpOpIn (FR r) 0 P ops Q i K a w:=by
 unfold Go.wpOpIn;simp only [hi];rcases hy with ⟨hw,hv⟩ | ⟨hw,rfl⟩
 ·simp only [hw,Oj,Oper.wpIn];exact ⟨fun _ _=>trivial,by rw [O8 _ _ _ hdf,hv w hS];exact h⟩
 ·simp only [hw,jB,j2];exact ⟨fun _ _=>trivial,h⟩
theorem zlY {o:Oper}(hs:∀ cs b,o.op≠ .select cs b)(ro:Option Nat)(a:Act)(dst:Option Tmp)(v:Value)(h:∀ d,dst=some d->d∉o.looksAt ops):Oper.semAt ro (a.put dst v).eval o=Oper.semAt ro a.eval o:=by
 have he:=execOp_put o hs a dst v h;unfold Oper.semAt
 cases ro with
 | none=>exact he
 | some l=>
  cases ho:o.op<;>first | exact he | skip
  rename_i c
  have e:=resolve_congr (ρ:=(a.put dst v).eval) (ρ':=a.eval) c o.type (fun x hx=>Act.eval_put (fun d hd e=>h d hd (by
   subst e;simp only [Oper.looksAt,ho,jv,BN]
   exact .inl ⟨.tmp d,by simpa [Op.operands] using hx,U⟩)))
  simp only [e]
theorem zfT {j:Nat}{oi oj:Oper}{v:Value}(hj:ops[j]? =some oj)(hap:oi.apart ops oj=true)
  (hsi:∀ cs b,oi.op≠ .select cs b)(hsj:∀ cs b,oj.op≠ .select cs b)
  (hQ:∀ c a w,Q (.panic c) (a.put oi.dst v) w->Q (.panic c) a w){K:Act->World->Prop}{a:Act}{w:World}
  (hy:YieldsIf P ops K0 oi v a)(h:wpOpIn (FR r) 0 P ops Q j K (a.put oi.dst v) w):
  wpOpIn (FR r) 0 P ops Q j (fun a' w'=>YieldsIf P ops K0 oi v a'/\K (a'.put oi.dst v) w') a w:=by
 obtain ⟨h1,h2,h3⟩:=Oper.apart_spec hap
 have keep:∀ (a:Act),YieldsIf P ops K0 oi v a->∀ u,YieldsIf P ops K0 oi v (a.put oj.dst u):=fun a hy u=>
  hy.of_same (execOp_put oi hsi a oj.dst u h3) (wanted_put oi a oj.dst u h3)
 have keepD:∀ d,YieldsIf P ops K0 oi v {a with defers:=d::a.defers}:=fun d=>hy.of_same U U;unfold wpOpIn at*;simp only [hj] at*;rw [wanted_put oj a oi.dst v h1] at h;split
 ·rename_i hw;simp only [hw,Oj] at h;unfold Oper.wpIn at*;refine ⟨fun _ _=>trivial,?_⟩;have h:=h.2;rw [zlY hsj _ a oi.dst v h1] at h;generalize (oj.semAt (FR r).round a.eval).run P w=q at*
  cases q with
  | ok n w'=>
   cases n<;>simp only [Oper.uponIn] at h ⊢
   case value u=>exact ⟨keep a hy u,by rw [<-AR a v u h2];exact h⟩
   case skip=>exact ⟨keep a hy _,by rw [<-AR a v undef h2];exact h⟩
   case defer d=>
    refine ⟨keep _ (keepD d) _,?_⟩;rw [<-AR _ v undef h2,<-Act.put_defers];exact h
   case enter f args=>
    refine ⟨h.1,CallsIn.mono h.2 fun e w'' he=>?_⟩
    cases e with
    | returned u=>exact ⟨keep a hy u,by rw [<-AR a v u h2];exact he⟩
    | panicked c=>exact hQ _ _ _ he
    | outgrown=>exact he
   case row row args=>exact ⟨h.1,RowsIn.mono h.2 fun u w'' he=>⟨keep a hy u,by rw [<-AR a v u h2];exact he⟩⟩
   case round l f tmps assign body=>
    refine ⟨h.1,RoundIn.mono h.2 fun e w'' he=>?_⟩
    cases e with
    | returned u=>exact ⟨keep a hy u,by rw [<-AR a v u h2];exact he⟩
    | panicked c=>exact hQ _ _ _ he
    | outgrown=>exact he
  | halt x w'=>
   cases x<;>simp only [Oper.uponIn] at h ⊢
   case panic u=>exact hQ _ _ _ h
 ·rename_i hw;simp only [hw] at h;exact ⟨fun _ _=>trivial,keep a hy _,by rw [<-AR a v undef h2];exact h.2⟩
theorem UZ {i:Nat}{oi:Oper}{v:Value}(hi:ops[i]? =some oi)(hdf:∀ c,oi.op≠ .defer c)(hsel:∀ (j:Nat) (o:Oper) cs b,ops[j]? =some o->o.op≠ .select cs b)
  (hQ:∀ c a w,Q (.panic c) (a.put oi.dst v) w->Q (.panic c) a w):
  ∀ (fuel:Nat) (listed:Array Bool) (a:Act) (w:World),
   (∀ j oj,ops[j]? =some oj->j≠i->listed.getD j true=false->(∀ e∈oj.after,Region.binds md e=true->e.on≠i)->oi.apart ops oj=true)->
   i∈Region.ready md ops listed->YieldsIf P ops K0 oi v a->K0 w->
   Vj r P md ops Q K0 fuel (listed.setIfInBounds i true) (a.put oi.dst v) w->Vj r P md ops Q K0 (fuel+1) listed a w:=by
 intro fuel
 induction fuel with
 | zero=>
  intro listed a w _ hr hy hS H;refine ⟨fun h=>(by rw [h] at hr;cases hr),fun j hj=>?_⟩;by_cases hji:j=i
  ·subst hji;exact YieldsIf.wpOpIn hi hdf hy hS ⟨hS,H⟩
  ·have:=ready_mono hj hji;rw [H.1] at this;cases this
 | succ fuel ih=>
  intro listed a w hfree hr hy hS H;refine ⟨fun h=>(by rw [h] at hr;cases hr),fun j hj=>?_⟩;by_cases hji:j=i
  ·subst hji;exact YieldsIf.wpOpIn hi hdf hy hS ⟨hS,H⟩
  ·have h1:=H.2 j (ready_mono hj hji);obtain ⟨hjun,oj,hoj,hall⟩:=mem_ready.1 hj
   have hnot:∀ e∈oj.after,Region.binds md e=true->e.on≠i:=fun e he hb heq=>by
    have h1:=hall e he hb;have h0:=(mem_ready.1 hr).1;rw [heq] at h1;rcases B2 i listed.size with h' | h'
    ·simp [h'] at h0 h1;rw [h0] at h1;cases h1
    ·simp [Array.getElem?_eq_none h'] at h1
   have h2:=zfT hoj (hfree j oj hoj hji hjun hnot) (fun cs b=>hsel i oi cs b hi) (fun cs b=>hsel j oj cs b hoj) hQ hy h1
   have hfree':∀ k ok,ops[k]? =some ok->k≠i->(listed.setIfInBounds j true).getD k true=false->
     (∀ e∈ok.after,Region.binds md e=true->e.on≠i)->oi.apart ops ok=true:=fun k ok hk hki hun hno=>by
    refine hfree k ok hk hki ?_ hno;by_cases hjk:j=k
    ·subst hjk;exact hjun
    ·rw [getD_set_ne true hjk] at hun;exact hun
   refine wpOpIn_mono (fun a' w' h3=>⟨h3.2.1,ih (listed.setIfInBounds j true) a' w' hfree' (ready_mono hr (By hji)) h3.1 h3.2.1 ?_⟩) h2;rw [Array.setIfInBounds_comm _ _ hji];exact h3.2.2
end
section
variable {C:Cx} {Q:Exit->Act->World->Prop} {E E':Env} {I I' I0:Qt} {loc loc' loc0 L R:Loc} {ops:Array Oper} {rest:List Oper} {S:GS}
def XD (C:Cx)(Q:Exit->Act->World->Prop)(ops:Array Oper)(I0:Qt)(loc0:Loc)(fuel:Nat)(listed:Array Bool)(S:GS)(E:Env)(I:Qt)(loc:Loc):Prop:=
 ∀ a w,Kf C.N C.D E a->KI S a->St C.g I C.H loc w->Vj C.r C.P .any ops Q (fun w=>St C.g I0 C.H loc0 w) fuel listed a w
def WS (Q:Exit->Act->World->Prop):Prop:=∀ c a d v w,Q (.panic c) (a.put (some d) v) w->Q (.panic c) a w
inductive KE:Loc->Loc->Prop
 | refl {l:Loc}:KE l l
 | drop {x:Nat×Obj} {l0 l:Loc} (h:KE l0 l):KE l0 (x::l)
 | keep {x:Nat×Obj} {l0 l:Loc} (h:KE l0 l):KE (x::l0) (x::l)
theorem KE.mem (h:KE loc0 loc):∀ p∈loc0,p∈loc:=by
 induction h with
 | refl=>exact fun p h=>h
 | drop _ ih=>exact fun p hm=>jq _ (ih p hm)
 | keep _ ih=>exact fun p hm=>(jp.1 hm).elim (fun e=>e ▸ jk ..) (fun hm=>jq _ (ih p hm))
theorem KE.nodup (h:KE loc0 loc):(loc.map (·.1)).Nodup->(loc0.map (·.1)).Nodup:=by
 induction h with
 | refl=>exact id
 | drop _ ih=>intro hn;simp only [jx,OQ] at hn;exact ih hn.2
 | keep hs ih=>
  intro hn;simp only [jx,OQ] at hn ⊢;refine ⟨fun hm=>?_,ih hn.2⟩;obtain ⟨p,hm,e⟩:=jt.1 hm;exact hn.1 (jt.2 ⟨p,hs.mem p hm,e⟩)
theorem St.subL {g:World}{H:Qt}{w:World}(h:St g I H loc w)(hs:KE loc0 loc):St g I H loc0 w:=
 ⟨h.os,h.tape,h.out,h.size,h.imm,h.frm,fun b o hm=>h.own b o (hs.mem _ hm),h.sepIH,fun b o hm=>h.sepIL b o (hs.mem _ hm),hs.nodup h.nodup⟩
def noP (Q:Exit->Act->World->Prop):Exit->Act->World->Prop
 | .panic _,_,_=>False
 | .normal,a,w=>Q .normal a w
 | .exit i,a,w=>Q (.exit i) a w
 | .goto i,a,w=>Q (.goto i) a w
 | .ret,a,w=>Q .ret a w
 | .outgrown,a,w=>Q .outgrown a w
theorem zmh:WS (noP Q):=fun _ _ _ _ _ h=>h
theorem YZ {c:Code}(h:X C (noP Q) c E I loc):X C Q c E I loc:=fun a w ha hw=>Aj (h a w ha hw) fun e a w hq=>by
 cases e<;>first | exact hq | exact hq.elim
theorem ZA {id:Nat}{l:List Oper}(I0:Qt)(loc0:Loc)(hm:C.P.follows .mixedOrders=true)(h:XD C Q l.toArray I0 loc0 l.length (Array.replicate l.length false) [] E I loc):X C Q (.region id l.toArray true) E I loc:=fun a w ha hw=>
 wpIn_region_any hm (zaG _ _ _ _ (by simpa using h a _ ha trivial hw.drew))
theorem zuf (i:Nat){oi:Oper}{d:Nat}{v:Value}{fuel:Nat}{listed:Array Bool}(hi:ops[i]? =some oi)(hv:QV C S E I0 loc0 oi v)(hG:Zv ops S E oi)(hd:oi.dst=some d)(hN:Nat.blt d C.N=true)(hf:Yi S E d=true)
  (hs:Region.noSelect ops=true)(hfr:Region.free .any ops listed i=true)(hr:(Region.ready .any ops listed).contains i=true)(hQ:WS Q)(hI:HLe I0 I)(hl:KE loc0 loc)
  (h:XD C Q ops I0 loc0 fuel (listed.setIfInBounds i true) (Uk S E d v) (zhj S E d v) I loc):XD C Q ops I0 loc0 (fuel+1) listed S E I loc:=by
 intro a w ha hg hw;have hp:=YA ha hg hN hf v;refine UZ (v:=bif ZS S then v else undef) hi hv.1 (BG hs) (fun c a w=>by rw [hd];exact hQ c a d _ w) fuel listed a w (B4 hi hfr) (by simpa using hr) ?_ ((hw.mono hI).subL hl) (by rw [hd];exact h _ _ hp.1 hp.2 hw);have hwt:=hG.wanted ha hg
 cases hc:ZS S with
 | true=>exact .inl ⟨by rw [hwt,hc],fun w' hw'=>hv.2 a w' ha hg hc hw'⟩
 | false=>exact .inr ⟨by rw [hwt,hc],U⟩
theorem zT (i:Nat){op:Op}{ty:TypeId}{pos:String}{af:Array Edge}{gd:Option (Nat×Bool)}{d:Nat}{v:Value}{fuel:Nat}{listed:Array Bool}(hi:ops[i]? =some ⟨some d,op,ty,pos,af,gd⟩)(hv:QV C S E I0 loc0 ⟨some d,op,ty,pos,af,gd⟩ v)(hI:HLe I0 I)(h:XD C Q ops I0 loc0 fuel (listed.setIfInBounds i true) (Uk S E d v) (zhj S E d v) I loc)(hG:Zv ops S E ⟨some d,op,ty,pos,af,gd⟩:=by exact .none U)(hN:Nat.blt d C.N=true:=by exact U)(hf:Yi S E d=true:=by exact U)
  (hs:Region.noSelect ops=true:=by kernel_rfl)(hfr:Region.free .any ops listed i=true:=by kernel_rfl)(hr:(Region.ready .any ops listed).contains i=true:=by kernel_rfl)(hQ:WS Q:=by first | exact zmh | (repeat (first | exact np_body | with_reducible refine np_then ?_ | with_reducible refine np_block ?_)))(hl:KE loc0 loc:=by repeat (first | exact .refl | exact Yb | refine .keep ?_ | refine .drop ?_ | refine Zp ?_)):XD C Q ops I0 loc0 (fuel+1) listed S E I loc:=zuf i hi hv hG U hN hf hs hfr hr hQ hI hl h
theorem zAe (i:Nat){oi:Oper}{fuel:Nat}{listed:Array Bool}(hi:ops[i]? =some oi)(hr:Region.ready .any ops listed=[i])
  (h:XO C (fun e a w=>match e with | .normal=>St C.g I0 C.H loc0 w/\Vj C.r C.P .any ops Q (fun w=>St C.g I0 C.H loc0 w) fuel (listed.setIfInBounds i true) a w | e=>Q e a w) ops [oi] S E I loc):XD C Q ops I0 loc0 (fuel+1) listed S E I loc:=by
 intro a w ha hg hw;refine ⟨(fun h0=>by rw [hr] at h0;cases h0),fun j hj=>?_⟩;rw [hr] at hj;obtain rfl:=jA.1 hj;have:=h a w ha hg hw;simp only [wpListIn] at this;unfold wpOpIn;simp only [hi];split
 ·rename_i hwt;simp only [hwt,Oj] at this;unfold Oper.wpIn at*;refine ⟨fun _ _=>trivial,?_⟩;have h2:=this.2;generalize (oi.semAt (FR C.r).round a.eval).run C.P w=q at*
  cases q with
  | ok n w'=>cases n<;>exact h2
  | halt x w'=>cases x<;>exact h2
 ·rename_i hwt;simp only [hwt] at this;exact this
theorem qd (i:Nat){oi:Oper}{fuel:Nat}{listed:Array Bool}(hi:ops[i]? =some oi)
  (h:XO C (fun e a w=>match e with | .normal=>St C.g I0 C.H loc0 w/\Vj C.r C.P .any ops Q (fun w=>St C.g I0 C.H loc0 w) fuel (listed.setIfInBounds i true) a w | e=>Q e a w) ops [oi] S E I loc)(hr:Region.ready .any ops listed=[i]:=by kernel_rfl):XD C Q ops I0 loc0 (fuel+1) listed S E I loc:=zAe i hi hr h
theorem zGk {i fuel:Nat}{listed:Array Bool}(hI:HLe I0 I)(hl:KE loc0 loc)(h:XD C Q ops I0 loc0 fuel (listed.setIfInBounds i true) [] E I loc):
  At C (fun e a w=>match e with | .normal=>St C.g I0 C.H loc0 w/\Vj C.r C.P .any ops Q (fun w=>St C.g I0 C.H loc0 w) fuel (listed.setIfInBounds i true) a w | e=>Q e a w) .normal E I loc:=
 fun a w ha hw=>⟨(hw.mono hI).subL hl,h a w ha trivial hw⟩
theorem zD {i fuel:Nat}{listed:Array Bool}(hI:HLe I0 I)(h:XD C Q ops I0 loc0 fuel (listed.setIfInBounds i true) [] E I loc)(hl:KE loc0 loc:=by repeat (first | exact .refl | exact Yb | refine .keep ?_ | refine .drop ?_ | refine Zp ?_)):
  At C (fun e a w=>match e with | .normal=>St C.g I0 C.H loc0 w/\Vj C.r C.P .any ops Q (fun w=>St C.g I0 C.H loc0 w) fuel (listed.setIfInBounds i true) a w | e=>Q e a w) .normal E I loc:=zGk hI hl h
theorem Qz {fuel:Nat}{listed:Array Bool}(hr:Region.ready .any ops listed=[])(h:At C Q .normal E I loc):XD C Q ops I0 loc0 fuel listed S E I loc:=fun a w ha hg hw=>by
 cases fuel with
 | zero=>exact ⟨hr,h a w ha hw⟩
 | succ n=>exact ⟨fun _=>h a w ha hw,by rw [hr];simp⟩
theorem Zo (i j:Nat){oi oj:Oper}{fuel:Nat}{listed:Array Bool}(hi:ops[i]? =some oi)(hj:ops[j]? =some oj)(hr:Region.ready .any ops listed=[i,j])
  (h1:XO C (fun e a w=>match e with | .normal=>St C.g I0 C.H loc0 w/\Vj C.r C.P .any ops Q (fun w=>St C.g I0 C.H loc0 w) fuel (listed.setIfInBounds i true) a w | e=>Q e a w) ops [oi] S E I loc)
  (h2:XO C (fun e a w=>match e with | .normal=>St C.g I0 C.H loc0 w/\Vj C.r C.P .any ops Q (fun w=>St C.g I0 C.H loc0 w) fuel (listed.setIfInBounds j true) a w | e=>Q e a w) ops [oj] S E I loc):XD C Q ops I0 loc0 (fuel+1) listed S E I loc:=by
 intro a w ha hg hw;refine ⟨(fun h0=>by rw [hr] at h0;cases h0),fun k hk=>?_⟩;rw [hr] at hk
 have key:∀ (i:Nat) (oi:Oper),ops[i]? =some oi->XO C (fun e a w=>match e with | .normal=>St C.g I0 C.H loc0 w/\Vj C.r C.P .any ops Q (fun w=>St C.g I0 C.H loc0 w) fuel (listed.setIfInBounds i true) a w | e=>Q e a w) ops [oi] S E I loc->
   wpOpIn (FR C.r) 0 C.P ops Q i (fun a' w'=>St C.g I0 C.H loc0 w'/\Vj C.r C.P .any ops Q (fun w=>St C.g I0 C.H loc0 w) fuel (listed.setIfInBounds i true) a' w') a w:=by
  intro i oi hi h;have:=h a w ha hg hw;simp only [wpListIn] at this;unfold wpOpIn;simp only [hi];split
  ·rename_i hwt;simp only [hwt,Oj] at this;unfold Oper.wpIn at*;refine ⟨fun _ _=>trivial,?_⟩;have h2:=this.2;generalize (oi.semAt (FR C.r).round a.eval).run C.P w=q at*
   cases q with
   | ok n w'=>cases n<;>exact h2
   | halt x w'=>cases x<;>exact h2
  ·rename_i hwt;simp only [hwt] at this;exact this
 rcases jp.1 hk with e | hk
 ·subst e;exact key _ _ hi h1
 ·obtain rfl:=jA.1 hk;exact key _ _ hj h2
end
def OwnS (e size:Nat)(v:Value)(n:Nat)(xs:List Value)(L:Loc):Prop:=
 xs.length=n*size/\((v= .slice none 0 0/\n=0/\L=[])\/
  ∃ b c cur,v= .slice (some ⟨b,0,none⟩) n c/\L=[(b,.cells cur e (0,0))]/\n<=c/\c<=maxLen/\cur.size=c*size/\cur.toList.take (n*size)=xs)
variable{e size:Nat}
theorem OwnS.nil :OwnS e size (.slice none 0 0) 0 [] []:=⟨by simp,.inl ⟨U,U,U⟩⟩
structure Src (I:Qt)(loc:Loc)(av:Option Addr)(m size:Nat)(ys:List Value):Prop where
 len:ys.length=m*size
 base:m≠0->av=some ⟨Ab av,Ao av,none⟩
 cells:Cells I loc (Ab av) (Ao av) ys
section
variable {g:World} {I I' H:Qt} {loc loc' L R:Loc} {w w':World}
theorem St.perm (h:St g I H loc w)(hm:∀ p,p∈loc'↔p∈loc)(hn:(loc'.map (·.1)).Nodup):St g I H loc' w:=
 ⟨h.os,h.tape,h.out,h.size,h.imm,h.frm,fun b o x=>h.own b o ((hm _).1 x),h.sepIH,fun b o x=>h.sepIL b o ((hm _).1 x),hn⟩
theorem VX (z:Array Value)(n:Nat):(Builtin.zeroCells z n).size=n*z.size:=by simp [Builtin.zeroCells]
theorem zdl {P:Program}(t ty e:TypeId)(i:TypeInfo)(z:Value){size bytes:Nat}(ht:P.underlying t=some (.slice e))(hi:P.info? e=some i)(hz:i.zero=some z)
  (hsize:i.size=size)(hby:i.bytes=bytes)(hzs:z.cells.size=size)
  {v:Value}{n:Nat}{xs:List Value}{av:Option Addr}{m c:Nat}{ys:List Value}(hO:OwnS e size v n xs L)(hw:St g I H (L++R) w)(hS:Src I (L++R) av m size ys)(h1:∀ u∈ys,u.oneCell'=true)
  (hB:(n+m)*(bytes+1)<=70368744177664):
  ∃ v' w' L',(Builtin.append_ #[t,t] ty #[v,.slice av m c]).run P w= .ok v' w'/\OwnS e size v' (n+m) (xs++ys) L'/\St g I H (L'++R) w'/\(m=0->v'=v):=by
 subst hsize;subst hby
 have hnm:n+m<=70368744177664:=by
  have:(n+m)*1<=(n+m)*(i.bytes+1):=O7 _ kB;omega
 have hbytes:(n+m)*i.bytes<=140737488355328:=by
  have:(n+m)*i.bytes<=(n+m)*(i.bytes+1):=O7 _ kB;omega
 have hmL:n+m<=maxLen:=(by simp only [maxLen];omega);have hlen:(xs++ys).length=(n+m)*i.size:=(by rw [jh,hO.1,hS.len,OJ]);by_cases hm:m=0
 ·subst hm;have hy:ys=[]:=j4 (by simpa using hS.len);subst hy;refine ⟨v,w,L,?_,by simpa using hO,hw,fun _=>U⟩
  have key:∀ (b:Option Addr) (k q:Nat),k<=q->(Builtin.append_ #[t,t] ty #[.slice b k q,.slice av 0 c]).run P w= .ok (.slice b k q) w:=by
   intro b k q hkq;cases av<;>cases b<;>simp [Builtin.append_,jK ht,sizeOf,typeInfo,hi,Builtin.lenOf,Builtin.firstCells,loadCells,loadCellsFrom,hkq,storeCells]
  rcases hO.2 with ⟨rfl,rfl,rfl⟩ | ⟨b,q,cur,rfl,rfl,hc,_⟩
  ·exact key _ _ _ (js _)
  ·exact key _ _ _ hc
 ·have hav:=hS.base hm;have hnews:∀ j u,ys[j]? =some u->w.cell? ((⟨Ab av,Ao av,none⟩:Addr).add j)=some u:=fun j u hj=>(by rw [Yn];exact (hS.cells j u hj).get hw);rw [hav]
  have grown:∀ (old:Nat) (R':Loc),old<n+m->St g I H R' w->∃ L',OwnS e i.size (.slice (some ⟨w.heap.size,0,none⟩) (n+m) (grownCap w (n+m) old e)) (n+m) (xs++ys) L'/\
    St g I H (L'++R') (w.drew.alloc (.cells (xs.toArray++ys.toArray++Builtin.zeroCells z.cells (grownCap w (n+m) old e-(n+m))) e)):=by
   intro old R' ho hw';have hge:=grownCap_ge w (n+m) old e;have hcm:grownCap w (n+m) old e<=maxLen:=BP w (n+m) old e hmL;refine ⟨_,⟨hlen,.inr ⟨w.heap.size,_,xs.toArray++ys.toArray++Builtin.zeroCells z.cells (grownCap w (n+m) old e-(n+m)),U,U,hge,hcm,?_,?_⟩⟩,?_⟩
   ·simp only [Array.size_append,Oh,VX,hzs,hO.1,hS.len,<-OJ];congr 1;omega
   ·simp only [Array.toList_append,jn];rw [<-jn,<-hlen];exact Bd
   ·exact hw'.drew'.alloc _
  rcases hO.2 with ⟨rfl,rfl,rfl⟩ | ⟨b,cap,cur,rfl,rfl,hnc,hcm,hcs,htake⟩
  ·have hx:xs=[]:=j4 (by simpa using hO.1);subst hx;have hr:=run_append_nil (P:=P) w t ty e i z ht hi hz ⟨Ab av,Ao av,none⟩ m c ys hS.len hnews kB kB (by simp only [Oc] at hbytes;omega);obtain ⟨L',h1',h2'⟩:=grown 0 R kB hw;simp only [Oc,j8,Array.empty_append] at h1' h2' ⊢;exact ⟨_,_,L',hr,h1',h2',fun h=>absurd h hm⟩
  ·have hb:=hw.own b (.cells cur e (0,0)) (jk ..);by_cases hroom:n+m<=cap
   ·have hfit:n*i.size+ys.length<=cur.size:=(by rw [hS.len,hcs,<-OJ];exact O2 _ hroom);have hr:=run_append_room (P:=P) w t ty e i ht hi b n cap cur hb ⟨Ab av,Ao av,none⟩ m c ys hS.len hnews h1 hroom hfit;refine ⟨_,_,_,hr,⟨hlen,.inr ⟨b,cap,(cur.toList.take (n*i.size)++ys++cur.toList.drop (n*i.size+ys.length)).toArray,U,U,hroom,hcm,?_,?_⟩⟩,?_,fun h=>absurd h hm⟩
    ·simp only [Oh,jh,jH,j7,O5];omega
    ·rw [htake,<-hlen];exact Bd
    ·exact hw.turn Upd.here U U U (by simp [World.setRow]) (setRow_heap w b cur _ e _ hb) (fun k hk=>setRow_other w b k _ hk)
   ·have holds:∀ j u,xs[j]? =some u->w.cell? ((⟨b,0,none⟩:Addr).add j)=some u:=fun j u hj=>by
     rw [Yn,Oc];rw [<-htake,Ar] at hj;split at hj
     ·simpa [World.cell?,hb] using hj
     ·cases hj
    have hr:=run_append_grow (P:=P) w t ty e i z ht hi hz ⟨b,0,none⟩ n cap xs hO.1 holds ⟨Ab av,Ao av,none⟩ m c ys hS.len hnews kB kB (growslice_fits kB hbytes);obtain ⟨L',h1',h2'⟩:=grown cap R kB (hw.take Zf.here);exact ⟨_,_,L',hr,h1',h2',fun h=>absurd h hm⟩
end
def ElT (P:Program)(t e size bytes:Nat):Prop:=P.underlying t=some (.slice e)/\∃ i z,P.info? e=some i/\i.zero=some z/\i.size=size/\i.bytes=bytes/\z.cells.size=size
def zFP (P:Program)(t e size bytes:Nat):Bool:=(match P.underlying t with | some (.slice e')=>e'==e | _=>false)&&(match P.info? e with | some i=>(match i.zero with | some z=>i.size==size&&i.bytes==bytes&&z.cells.size==size | none=>false) | none=>false)
variable{t:Nat}
theorem ElT.of {bytes:Nat}(h:zFP P t e size bytes=true):ElT P t e size bytes:=by
 simp only [zFP,jj] at h;obtain ⟨h1,h2⟩:=h;refine ⟨?_,?_⟩
 ·split at h1
  ·rename_i e' h';rw [j0] at h1;rw [h',h1]
  ·cases h1
 ·split at h2
  ·rename_i i hi;split at h2
   ·rename_i z hz;simp only [jj,j0] at h2;exact ⟨i,z,hi,hz,h2.1.1,h2.1.2,h2.2⟩
   ·cases h2
  ·cases h2
section
variable {C:Cx} {Q:Exit->Act->World->Prop} {E E':Env} {I I':Qt} {loc loc' L R:Loc} {ops:Array Oper} {rest:List Oper} {S:GS}
variable {dst:Option Tmp} {d:Nat} {ty:TypeId} {pos:String} {af:Array Edge} {gd:Option (Nat×Bool)} {x y z:Operand}
theorem St.unsplit {g:World}{H:Qt}{w:World}(h:St g I H loc w)(hs:Yu loc L R):St g I H (L++R) w:=h.join hs (h.split hs)
theorem Cells.of_split {b off:Nat}{vs:List Value}(h:Cells I loc b off vs)(hs:∀ p∈loc,p∈loc'):Cells I loc' b off vs:=fun j u hu=>by
 obtain ⟨cs,t,fz,hm,hv⟩:=h j u hu;exact ⟨cs,t,fz,hm.imp id (hs _),hv⟩
theorem Yu.mem (hs:Yu loc L R):∀ p∈loc,p∈L++R:=by
 induction hs with
 | nil=>exact fun p h=>by simpa using h
 | @cons l l1 l2 L b o ht hs ih=>
  intro p hp
  have:p=(b,o)\/p∈l1:=by
   clear ih hs
   induction ht with
   | here=>exact jp.1 hp
   | @there x b o l l' ht ih=>
    rcases jp.1 hp with e | hp
    ·exact .inr (e ▸ jk ..)
    ·exact (ih hp).imp id (jq _)
  rcases this with e | hp'
  ·subst e;exact Ag _ (jk ..)
  ·rcases jv.1 (ih p hp') with h | h
   ·exact Ag _ (jq _ h)
   ·exact Bw _ h
theorem zbF {t e size bytes:Nat}{v:Value}{n m c:Nat}{xs ys:List Value}{av:Option Addr}(hx:Qv [] E x=some v)(hy:Qv [] E y=some (.slice av m c))(hT:ElT C.P t e size bytes)
  (hO:OwnS e size v n xs L)(hsp:Yu loc L R)(hS:Src I loc av m size ys)(h1:YP ys=true)(hB:(n+m)*(bytes+1)<=70368744177664)(hG:gd=none)(hN:Nat.blt d C.N=true)
  (h:∀ v' L',OwnS e size v' (n+m) (xs++ys) L'->(m=0->v'=v)->XO C Q ops rest [] ((d,v')::E) I (L'++R)):
  XO C Q ops (⟨some d,.call ⟨.builtin .append, #[x,y], #[t,t]⟩,ty,pos,af,gd⟩::rest) [] E I loc:=
 Ya hG kC fun a w ha hw=>by
  obtain ⟨ht,i,zz,hi,hz,hs,hb,hzs⟩:=hT;obtain ⟨v',w',L',hr,hO',hw',hm⟩:=zdl (P:=C.P) t ty e i zz ht hi hz hs hb hzs (c:=c) hO (hw.unsplit hsp) ⟨hS.len,hS.base,hS.cells.of_split hsp.mem⟩ (Je h1) hB;simp only [execOp,resolve,j6,jx,Oo,Qi (S:=[]) ha trivial rfl hx,Qi (S:=[]) ha trivial rfl hy,jg,jl,Result.andThen,invoke,builtin,hr,Oq];exact h v' L' hO' hm _ _ (ha.put hN _) trivial hw'

theorem zpa {t e size bytes:Nat}(v:Value){n m c:Nat}{xs:List Value}(ys:List Value)(L:Loc){av:Option Addr}(hx:Qv [] E x=some v)(hy:Qv [] E y=some (.slice av m c))(hT:ElT C.P t e size bytes)(hO:OwnS e size v n xs L)(hS:Src I loc av m size ys)(h1:YP ys=true)
  (h:∀ v' L',OwnS e size v' (n+m) (xs++ys) L'->(m=0->v'=v)->XO C Q ops rest [] ((d,v')::E) I (L'++R))(hsp:Yu loc L R:=by repeat (first | exact .cons .here .nil | exact QT | exact QO | apply Zi | apply Zd))(hB:(n+m)*(bytes+1)<=70368744177664:=by omega)
  (hN:Nat.blt d C.N=true:=by exact U):XO C Q ops (⟨some d,.call ⟨.builtin .append, #[x,y], #[t,t]⟩,ty,pos,af,none⟩::rest) [] E I loc:=zbF hx hy hT hO hsp hS h1 hB U hN h
inductive X1:Nat->List (Nat×Value)->List (List Value)->Prop
 | nil {k:Nat}:X1 k [] []
 | cons {k:Nat} {v:Value} {vs:List Value} {l:List (Nat×Value)} {m:List (List Value)} (hv:v.cells=vs.toArray) (h:X1 (k+1) l m):X1 k ((k,v)::l) (vs::m)
theorem zfY (off:Nat):∀ (vs pre old tail:List Value) (k:Nat),pre.length=off+k->old.length=vs.length->
  (vs.zipIdx k).foldl (fun (cs:Array Value) (p:Value×Nat)=>cs.setIfInBounds (off+p.2) p.1) (pre++old++tail).toArray=(pre++vs++tail).toArray
 | [],pre,old,tail,k,_,h=>by
  have:old=[]:=jR.1 h;subst this;rfl
 | v::vs,pre,old,tail,k,hk,h=>by
  cases old with
  | nil=>simp at h
  | cons u old=>
   rw [List.zipIdx_cons,Of]
   have e:(pre++u::old++tail).toArray.setIfInBounds (off+k) v=((pre++[v])++old++tail).toArray:=by
    rw [<-hk];simp
   rw [e,zfY off vs (pre++[v]) old tail (k+1) kM (by simpa using h)];simp
theorem zc9 {place:Nat->Option (Nat×Nat)}{i off size:Nat}{v:Value}{vs pre old tail:List Value}{l:List (Nat×Value)}(hp:place i=some (off,size))(hv:v.cells=vs.toArray)(hs:vs.length=size)(hpre:pre.length=off)(ho:old.length=size):
  Instr.fill place (pre++old++tail).toArray ((i,v)::l)=Instr.fill place (pre++vs++tail).toArray l:=by
 have:=zfY off vs pre old tail 0 kB kB;simp only [Instr.fill,hp,hv]
 have h1:¬(vs.toArray.size≠size||decide (off+vs.toArray.size>(pre++old++tail).toArray.size))=true:=by
  simp only [Oh,jh,OD,jQ,B8];omega
 rw [ja h1];congr 1;rw [<-this];simp
theorem zhO (size:Nat):∀ (l:List (Nat×Value)) (m:List (List Value)) (k:Nat) (pre old:List Value),X1 k l m->(∀ vs∈m,vs.length=size)->pre.length=k*size->old.length=m.length*size->
  Instr.fill (fun i=>some (i*size,size)) (pre++old).toArray l=some (pre++m.flatten).toArray
 | _,_,k,pre,old,.nil,_,_,ho=>by
  have:old=[]:=jR.1 (by simpa using ho);subst this;simp [Instr.fill]
 | _,_,k,pre,old,.cons (v:=v) (vs:=vs) (l:=l) (m:=m) hv h,hs,hp,ho=>by
  have hvs:=hs vs (jk ..);have ho':old.length=size+m.length*size:=(by rw [ho,jw,OJ,Bm,Nat.add_comm]);have e:old=old.take size++old.drop size:=(jy _ _).symm;rw [e,<-jn];rw [zc9 (off:=k*size) (size:=size) rfl hv hvs hp (by rw [jH];omega)];rw [zhO size l m (k+1) (pre++vs) (old.drop size) h (fun u hu=>hs u (jq _ hu)) (by rw [jh,hp,hvs,OJ,Bm]) (by rw [j7];omega)];simp
theorem zes {t e size bytes n:Nat}{parts:Array (Nat×Operand)}{ps:List (Nat×Value)}{m:List (List Value)}(hT:ElT C.P t e size bytes)(hp:parts.toList.map (fun p=>(Qv [] E p.2).map fun v=>(p.1,v))=ps.map some)(hm:X1 0 ps m)(hn:m.length=n)(hs:∀ vs∈m,vs.length=size)
  (hsz:0<size)(hB:n*size<=16777216)(hG:gd=none)(hN:Nat.blt d C.N=true)(h:∀ b,XO C Q ops rest [] ((d,.slice (some ⟨b,0,none⟩) n n)::E) I ((b,.cells m.flatten.toArray e (0,0))::loc)):
  XO C Q ops (⟨some d,.buildSlice t n parts,ty,pos,af,gd⟩::rest) [] E I loc:=
 Ya hG kC fun a w ha hw=>by
  obtain ⟨ht,i,zz,hi,hz,hs',hb,hzs⟩:=hT
  have key:∀ (l:List (Nat×Operand)) (ps:List (Nat×Value)),l.map (fun p=>(Qv [] E p.2).map fun v=>(p.1,v))=ps.map some->l.map (fun p=>(p.1,a.eval p.2))=ps:=by
   intro l
   induction l with
   | nil=>intro ps h;cases ps<;>simp_all
   | cons p l ih=>
    intro ps h
    cases ps with
    | nil=>simp at h
    | cons q ps=>
     simp only [jx,AI] at h ⊢;refine ⟨?_,ih _ h.2⟩
     cases e1:Qv [] E p.2 with
     | none=>rw [e1] at h;simp at h
     | some v=>
      rw [e1] at h;rw [Qi (S:=[]) ha trivial rfl e1];simpa using h.1
  have hps:(parts.map fun (i,x)=>(i,a.eval x)).toList=ps:=by
   rw [<-key _ _ hp];simp
  have hf:∀ A:Array Value,A.size=n*size->Instr.fill (fun i_1=>some (i_1*size,size)) A ps=some m.flatten.toArray:=fun A hA=>by
   have:=zhO size ps m 0 [] A.toList hm hs kK (by simp [hA,hn]);simpa only [j8,AT] using this
  have hnot:¬(2^24<n*size):=kB
  have gen:∀ A:Array (Nat×Value),A.toList=ps->(Instr.buildSlice t n A).run C.P w= .ok (.slice (some ⟨w.heap.size,0,none⟩) n n) (w.alloc (.cells m.flatten.toArray e (0,0))):=by
   subst hs';intro A hA;by_cases h0:n=0
   ·subst h0;simp only [Instr.buildSlice,jg,jK ht,run_sizeOf hi,Result.andThen,hA];simp [newRow];rw [hf _ kK];simp
   ·have e1:=hf ((Array.range (n*i.size)).map (zz.cells[· % zz.cells.size]!)) kK;simp only [Instr.buildSlice,jg,jK ht,run_sizeOf hi,Result.andThen,hA];have h1:n*i.size≠0:=Nat.mul_ne_zero h0 (Nat.pos_iff_ne_zero.1 hsz);simp [h1,Yc ⟨i,hi,hz⟩,newRow,hnot,e1]
  have hrun:=gen _ hps;simp only [execOp,jg,hrun,Result.andThen,jl,Oq];exact h _ _ _ (ha.put hN _) trivial (hw.alloc _)
theorem zpb {t e size bytes n:Nat}{parts:Array (Nat×Operand)}(ps:List (Nat×Value))(m:List (List Value))(hT:ElT C.P t e size bytes)(h:∀ b,XO C Q ops rest [] ((d,.slice (some ⟨b,0,none⟩) n n)::E) I ((b,.cells m.flatten.toArray e (0,0))::loc))
  (hp:parts.toList.map (fun p=>(Qv [] E p.2).map fun v=>(p.1,v))=ps.map some:=by exact U)(hm:X1 0 ps m:=by repeat (first | exact .nil | refine .cons U ?_))(hn:m.length=n:=by exact U)(hs:(m.all fun vs=>vs.length==size)=true:=by exact U)
  (hsz:0<size:=by decide)(hB:n*size<=16777216:=by decide)(hN:Nat.blt d C.N=true:=by exact U):XO C Q ops (⟨some d,.buildSlice t n parts,ty,pos,af,none⟩::rest) [] E I loc:=zes hT hp hm hn (fun vs hv=>by simpa using ji.1 hs vs hv) hsz hB U hN h
def PlT (P:Program)(t:Nat)(pl:Array (Nat×Nat))(z:Value):Prop:=Yw P t z/\P.underlying t=some (.struct (P.fieldsOf t))/\∀ w,((P.fieldsOf t).mapM fun f=>do pure (f.offset,<-sizeOf f.type):Sem (Array (Nat×Nat))).run P w= .ok pl w
theorem zrm {t:Nat}{pl:Array (Nat×Nat)}{zv:Value}{parts:Array (Nat×Operand)}{ps:List (Nat×Value)}{cells:Array Value}(hT:PlT C.P t pl zv)(hp:parts.toList.map (fun p=>(Qv S E p.2).map fun v=>(p.1,v))=ps.map some)(hf:Instr.fill (pl[·]?) zv.cells ps=some cells):
  QV C S E I loc ⟨dst,.build t parts,ty,pos,af,gd⟩ (.agg cells):=
 .of kC fun a w ha hg hc hw=>by
  obtain ⟨hz,ht,hm⟩:=hT
  have key:∀ (l:List (Nat×Operand)) (ps:List (Nat×Value)),l.map (fun p=>(Qv S E p.2).map fun v=>(p.1,v))=ps.map some->l.map (fun p=>(p.1,a.eval p.2))=ps:=by
   intro l
   induction l with
   | nil=>intro ps h;cases ps<;>simp_all
   | cons p l ih=>
    intro ps h
    cases ps with
    | nil=>simp at h
    | cons q ps=>
     simp only [jx,AI] at h ⊢;refine ⟨?_,ih _ h.2⟩
     cases e1:Qv S E p.2 with
     | none=>rw [e1] at h;simp at h
     | some v=>
      rw [e1] at h;rw [Qi ha hg hc e1];simpa using h.1
  have hps:(parts.map fun (i,x)=>(i,a.eval x)).toList=ps:=by
   rw [<-key _ _ hp];simp
  simp only [execOp,Instr.build,jg,Yc hz,Result.andThen,jK ht,hm,hps,hf,jl]
def Vw:Value->List Value
 | .agg cs=>cs.toList
 | v=>[v]
def zo0:List Value->List Value->List Value
 | _::xs,v::vs=>v::zo0 xs vs
 | xs,_=>xs
def Y9:List Value->Nat->List Value->List Value
 | xs,0,vs=>zo0 xs vs
 | x::xs,n+1,vs=>x::Y9 xs n vs
 | [],_,_=>[]
def zDq:List (Nat×Nat)->Nat->Option (Nat×Nat)
 | [],_=>none
 | p::_,0=>some p
 | _::l,n+1=>zDq l n
def znA (pl:List (Nat×Nat)):List Value->List (Nat×Value)->Option (List Value)
 | cells,[]=>some cells
 | cells,(i,v)::rest=>match zDq pl i with
  | none=>none
  | some (off,size)=>bif Nat.beq (Vw v).length size&&Nat.ble (off+(Vw v).length) cells.length then znA pl (Y9 cells off (Vw v)) rest else none
theorem zeU (v:Value):v.cells=(Vw v).toArray:=by cases v<;>simp [Value.cells,Vw]
theorem zk9:∀ (l:List (Nat×Nat)) (i:Nat),zDq l i=l[i]?
 | [],i=>by simp [zDq]
 | p::l,0=>rfl
 | p::l,n+1=>by simp [zDq,zk9 l n]
theorem zeS:∀ (old vs tail:List Value),old.length=vs.length->zo0 (old++tail) vs=vs++tail
 | [],[],tail,_=>by cases tail<;>rfl
 | [],_::_,_,h=>by simp at h
 | _::_,[],_,h=>by simp at h
 | o::old,v::vs,tail,h=>by simp only [OE,zo0,zeS old vs tail (by simpa using h)]
theorem K8:∀ (pre old vs tail:List Value),old.length=vs.length->Y9 (pre++old++tail) pre.length vs=pre++vs++tail
 | [],old,vs,tail,h=>by simp only [j8,O4,Y9];exact zeS old vs tail h
 | x::pre,old,vs,tail,h=>by
  simp only [OE,jw,Y9,AI,true_and];exact K8 pre old vs tail h
theorem zh2 (pl:List (Nat×Nat)):∀ (ps:List (Nat×Value)) (cells out:List Value),znA pl cells ps=some out->Instr.fill (pl.toArray[·]?) cells.toArray ps=some out.toArray
 | [],cells,out,h=>by
  simp only [znA,jU] at h;subst h;rfl
 | (i,v)::ps,cells,out,h=>by
  simp only [znA,zk9] at h
  cases hp:pl[i]? with
  | none=>rw [hp] at h;cases h
  | some q=>
   obtain ⟨off,size⟩:=q;rw [hp] at h;simp only at h
   cases hb:(Nat.beq (Vw v).length size&&Nat.ble (off+(Vw v).length) cells.length) with
   | false=>rw [hb] at h;cases h
   | true=>
    rw [hb] at h;simp only [jj] at hb;have h1:=Ad hb.1;have h2:=Aw hb.2
    have e:cells=cells.take off++(cells.drop off).take size++cells.drop (off+size):=by
     rw [jn];have:(cells.drop off).take size++cells.drop (off+size)=cells.drop off:=by rw [<-OT];exact jy _ _
     rw [this,jy]
    have hl1:(cells.take off).length=off:=(by rw [jH];omega);have hl2:((cells.drop off).take size).length=size:=by rw [jH,j7];omega
    have hsp:Y9 cells off (Vw v)=cells.take off++Vw v++cells.drop (off+size):=by
     have:=K8 (cells.take off) ((cells.drop off).take size) (Vw v) (cells.drop (off+size)) (by rw [hl2];exact h1.symm);rw [<-e,hl1] at this;exact this
    have hfo:=zc9 (place:=(pl.toArray[·]?)) (i:=i) (off:=off) (size:=size) (v:=v) (vs:=Vw v) (pre:=cells.take off) (old:=(cells.drop off).take size) (tail:=cells.drop (off+size)) (l:=ps) (by simpa using hp) (zeU v) h1 hl1 hl2;rw [<-e] at hfo;rw [hfo,<-hsp];exact zh2 pl ps _ out h
theorem QC {t:Nat}{pl:List (Nat×Nat)}{zl:List Value}{parts:Array (Nat×Operand)}{ps:List (Nat×Value)}(cells:List Value)(hT:PlT C.P t pl.toArray (.agg zl.toArray))(hp:parts.toList.map (fun p=>(Qv S E p.2).map fun v=>(p.1,v))=ps.map some)(hf:znA pl zl ps=some cells):
  QV C S E I loc ⟨dst,.build t parts,ty,pos,af,gd⟩ (.agg cells.toArray):=zrm hT hp (zh2 pl ps zl cells hf)

inductive EqK where
 | int | str | bool
 deriving DecidableEq
def JS:List EqK->List Value->List Value->Option Bool
 | [],[],[]=>some true
 | .int::ks,.int k a::xs,.int k' b::ys=>if k=k' then (match JS ks xs ys with | some r=>some (a==b&&r) | none=>none) else none
 | .str::ks,.string a::xs,.string b::ys=>match JS ks xs ys with | some r=>some (zBk a b&&r) | none=>none
 | .bool::ks,.bool a::xs,.bool b::ys=>match JS ks xs ys with | some r=>some (a==b&&r) | none=>none
 | _,_,_=>none
def Ka (P:Program)(t:TypeId):Option EqK:=match P.underlying t with
 | some (.int _)=>some .int
 | some .string=>some .str
 | some .bool=>some .bool
 | _=>none
def Ut (P:Program):List Field->Nat->Option (List EqK)
 | [],_=>some []
 | f::fs,k=>if f.name≠ "_" /\f.offset=k then (match Ka P f.type,Ut P fs (k+1) with | some q,some l=>some (q::l) | _,_=>none) else none
def EqT (P:Program)(t:Nat)(ks:List EqK):Prop:=P.underlying t=some (.struct (P.fieldsOf t))/\P.stoodInHeld t=false/\P.eqGuardType P.depth t=false/\Ut P (P.fieldsOf t).toList 0=some ks
theorem UQ {P:Program}{w:World}(dd:Nat):∀ (fs:List Field) (ks:List EqK) (k:Nat) (pre xs pre' ys:List Value) (b:Bool),Ut P fs k=some ks->pre.length=k->pre'.length=k->JS ks xs ys=some b->
  (Op.eqFields (dd+1) (pre++xs).toArray (pre'++ys).toArray fs).run P w= .ok b w
 | [],ks,k,pre,xs,pre',ys,b,hf,_,_,he=>by
  simp only [Ut,jU] at hf;subst hf;cases xs<;>cases ys<;>simp only [JS] at he<;>first | (cases he;rfl) | cases he
 | f::fs,ks,k,pre,xs,pre',ys,b,hf,hp,hp',he=>by
  simp only [Ut] at hf;split at hf
  ·rename_i hn
   cases hk:Ka P f.type with
   | none=>rw [hk] at hf;simp at hf
   | some q=>
    cases hl:Ut P fs (k+1) with
    | none=>rw [hk,hl] at hf;simp at hf
    | some l=>
     rw [hk,hl] at hf;simp only [jU] at hf;subst hf
     have step:∀ (u v:Value) (xs ys:List Value) (c r:Bool),xs=xs->(∀ w,(isAgg f.type).run P w= .ok false w)->(∀ w,(Op.equalIn (dd+1) f.type u v).run P w= .ok c w)->JS l xs ys=some r->
       (Op.eqFields (dd+1) (pre++u::xs).toArray (pre'++v::ys).toArray (f::fs)).run P w= .ok (c&&r) w:=by
      intro u v xs ys c r _ hag hc hr
      have h1:∀ w,(part f.type (pre++u::xs).toArray f.offset).run P w= .ok u w:=fun w=>by
       have:(pre++u::xs).toArray[f.offset]? =some u:=by rw [hn.2,<-hp];simp
       simp only [part,jg,hag,Result.andThen,jB,j2,this,jl]
      have h2:∀ w,(part f.type (pre'++v::ys).toArray f.offset).run P w= .ok v w:=fun w=>by
       have:(pre'++v::ys).toArray[f.offset]? =some v:=by rw [hn.2,<-hp'];simp
       simp only [part,jg,hag,Result.andThen,jB,j2,this,jl]
      simp only [Op.eqFields,jb hn.1,jg,h1,h2,hc,Result.andThen,Sem.run_ite]
      cases c with
      | false=>simp
      | true=>
       have:=UQ (P:=P) (w:=w) dd fs l (k+1) (pre++[u]) xs (pre'++[v]) ys r hl (by simp [hp]) (by simp [hp']) hr;simpa using this
     have scal:∀ d,P.underlying f.type=some d->(match d with | .struct _ | .array _ _=>False | _=>True)->∀ w,(isAgg f.type).run P w= .ok false w:=fun d h1 h2 w=>Vc ⟨d,h1,h2⟩;unfold Ka at hk
     cases hu:P.underlying f.type with
     | none=>rw [hu] at hk;simp at hk
     | some td=>
      rw [hu] at hk;cases td<;>simp only [jU,reduceCtorEq] at hk
      case int kk=>
       subst hk
       cases xs with
       | nil=>simp [JS] at he
       | cons u xs=>
        cases ys with
        | nil=>cases u<;>simp [JS] at he
        | cons v ys=>
         cases u<;>cases v<;>simp only [JS,reduceCtorEq] at he;rename_i k1 a k2 b';split at he
         ·rename_i hkk
          cases hr:JS l xs ys with
          | none=>rw [hr] at he;simp at he
          | some r=>
           rw [hr] at he;simp only [jU] at he;subst he;subst hkk;exact step _ _ _ _ _ _ U (scal _ hu trivial) (fun w=>BH w dd f.type k1 kk a b' hu) hr
         ·cases he
      case string=>
       subst hk
       cases xs with
       | nil=>simp [JS] at he
       | cons u xs=>
        cases ys with
        | nil=>cases u<;>simp [JS] at he
        | cons v ys=>
         cases u<;>cases v<;>simp only [JS,reduceCtorEq] at he;rename_i a b'
         cases hr:JS l xs ys with
         | none=>rw [hr] at he;simp at he
         | some r=>
          rw [hr] at he;simp only [jU] at he;subst he;exact step _ _ _ _ _ _ U (scal _ hu trivial) (fun w=>run_equalIn_string w dd f.type a b' hu) hr
      case bool=>
       subst hk
       cases xs with
       | nil=>simp [JS] at he
       | cons u xs=>
        cases ys with
        | nil=>cases u<;>simp [JS] at he
        | cons v ys=>
         cases u<;>cases v<;>simp only [JS,reduceCtorEq] at he;rename_i a b'
         cases hr:JS l xs ys with
         | none=>rw [hr] at he;simp at he
         | some r=>
          rw [hr] at he;simp only [jU] at he;subst he;exact step _ _ _ _ _ _ U (scal _ hu trivial) (fun w=>Bi w dd f.type a b' hu) hr
  ·cases hf
theorem zrX {t t':TypeId}{ks:List EqK}{us vs:List Value}{b:Bool}(hx:Qv S E x=some (.agg us.toArray))(hy:Qv S E y=some (.agg vs.toArray))(hT:EqT C.P t ks)(h:JS ks us vs=some b):QV C S E I loc ⟨dst,.binOp .neq t x y t',ty,pos,af,gd⟩ (.bool (!b)):=
 .of kC fun a w ha hg hc _=>by
  have:=UQ (P:=C.P) (w:=w) 9998 _ _ 0 [] us [] vs b hT.2.2.2 U U h;simp only [j8] at this;simp only [execOp,Qi ha hg hc hx,Qi ha hg hc hy,jg,A6 w _ _ _ _ _ _ hT.2.2.1,Result.andThen,run_neq_struct,Ae w 9999 t _ _ hT.1 hT.2.1,this,jl]
theorem zp3 {t t':TypeId}{a b:Bool}(hx:Qv S E x=some (.bool a))(hy:Qv S E y=some (.bool b))(hT:C.P.underlying t=some .bool):QV C S E I loc ⟨dst,.binOp .eql t x y t',ty,pos,af,gd⟩ (.bool (a==b)):=
 .of kC fun st w ha hg hc _=>by
  have e1:∀ op x y t (a b:Bool),(eqGuard op t x y (.bool a) (.bool b)).run C.P w= .ok () w:=(by intros;unfold eqGuard;rename_i op _ _ _ _ _;cases op<;>rfl);have e2:(Op.equalIn 10000 t (.bool a) (.bool b)).run C.P w= .ok (a==b) w:=Bi w 9999 t a b hT;simp only [execOp,Qi ha hg hc hx,Qi ha hg hc hy,jg,e1,jl,Result.andThen,binOp,Op.equal,Op.maxDepth,e2]
theorem ziL {t t':TypeId}{a b:Bool}(hx:Qv S E x=some (.bool a))(hy:Qv S E y=some (.bool b))(hT:C.P.underlying t=some .bool):QV C S E I loc ⟨dst,.binOp .neq t x y t',ty,pos,af,gd⟩ (.bool (!(a==b))):=
 .of kC fun st w ha hg hc _=>by
  have e1:∀ op x y t (a b:Bool),(eqGuard op t x y (.bool a) (.bool b)).run C.P w= .ok () w:=(by intros;unfold eqGuard;rename_i op _ _ _ _ _;cases op<;>rfl);have e2:(Op.equalIn 10000 t (.bool a) (.bool b)).run C.P w= .ok (a==b) w:=Bi w 9999 t a b hT;simp only [execOp,Qi ha hg hc hx,Qi ha hg hc hy,jg,e1,jl,Result.andThen,binOp,Op.equal,Op.maxDepth,e2]

def zoB (av:Option Addr)(c k size:Nat):Option Addr:=if c=k then av else av.map (·.add (k*size))
theorem KM {t e size n c:Nat}{av:Option Addr}{k:IntKind}{i:Int}(hx:Qv S E x=some (.slice av n c))(hy:Qv S E y=some (.int k i))(hT:SlT C.P t e size)(hb:ZS S=true->0<=i/\i<=(c:Int)):
  QV C S E I loc ⟨dst,.slice t x none (some y) none,ty,pos,af,gd⟩ (.slice av i.toNat c):=
 .of kC fun a w ha hg hc _=>by
  obtain ⟨h1,j,h2,h3⟩:=hT
  have hav:(if c=0 then av else av.map (·.add (0*j.size)))=av:=by
   split
   ·rfl
   ·cases av<;>simp [Addr.add]
  simp only [execOp,A5,j9,Qi ha hg hc hx,Qi ha hg hc hy,Instr.sliceAt,Instr.slice,Instr.sliceBounds,Instr.sliceBound,asIntOf,jg,jl,jK h1,Result.andThen,jb (hb hc),run_sizeOf h2,hav,Nat.sub_zero]
theorem Jf {t e size n c:Nat}{av:Option Addr}{k:IntKind}{i:Int}(hx:Qv S E x=some (.slice av n c))(hy:Qv S E y=some (.int k i))(hT:SlT C.P t e size)(hb:ZS S=true->0<=i/\i<=(n:Int)):
  QV C S E I loc ⟨dst,.slice t x (some y) none none,ty,pos,af,gd⟩ (.slice (zoB av c i.toNat size) (n-i.toNat) (c-i.toNat)):=
 .of kC fun a w ha hg hc _=>by
  obtain ⟨h1,j,h2,h3⟩:=hT;simp only [execOp,A5,j9,Qi ha hg hc hx,Qi ha hg hc hy,Instr.sliceAt,Instr.slice,Instr.sliceBounds,Instr.sliceBound,asIntOf,jg,jl,jK h1,Result.andThen,jb (hb hc),run_sizeOf h2,h3,zoB]
theorem zfp {b off c k size:Nat}(hk:k<c):zoB (some ⟨b,off,none⟩) c k size=some ⟨b,off+k*size,none⟩:=by unfold zoB;rw [ja kB,j9,Yn]
theorem Sl.drop {α:Type}{size:Nat}{enc:α->List Value}{av:Option Addr}{n c:Nat}{xs:List α}(h:Sl I size enc av n c xs){k:Nat}(hk:k<=n):Sl I size enc (zoB av c k size) (n-k) (c-k) (xs.drop k):=by
 have hc:=h.cap;by_cases hkn:k=n
 ·subst hkn;rw [BF,Oa (by rw [h.len];exact js _)];exact ⟨U,jf _,fun h=>absurd U h,fun k x h=>by simp at h⟩
 ·have hb:=h.base kB;have e:zoB av c k size=some ⟨Ab av,Ao av+k*size,none⟩:=(by rw [hb];exact zfp kB);rw [e];refine ⟨by rw [j7,h.len],kB,fun _=>U,fun i x hx j u hu=>?_⟩;have:=h.cells (k+i) x (by rw [AJ] at hx;exact hx) j u hu;simp only [Ab,Ao];rw [OJ,<-BR] at this;exact this
theorem zhU {α:Type}{enc:α->List Value}{size:Nat}(hs:∀ x,(enc x).length=size):∀ (xs:List α) (q:Nat) (u:Value),(xs.flatMap enc)[q]? =some u->∃ k x j,xs[k]? =some x/\(enc x)[j]? =some u/\q=k*size+j
 | [],q,u,h=>by simp at h
 | x::xs,q,u,h=>by
  rw [jO,AA] at h;split at h
  ·exact ⟨0,x,q,U,h,by simp⟩
  ·rename_i hq;rw [hs] at h hq;obtain ⟨k,y,j,h1,h2,h3⟩:=zhU hs xs _ u h;exact ⟨k+1,y,j,by simpa using h1,h2,by rw [OJ];omega⟩
theorem ZF {α:Type}{enc:α->List Value}{size:Nat}(hs:∀ x,(enc x).length=size)(xs:List α):(xs.flatMap enc).length=xs.length*size:=by
 induction xs with
 | nil=>simp
 | cons x xs ih=>rw [jO,jh,hs,ih,jw,OJ];omega
theorem Sl.src {α:Type}{size:Nat}{enc:α->List Value}{av:Option Addr}{n c:Nat}{xs:List α}(h:Sl I size enc av n c xs)(hs:∀ x,(enc x).length=size):Src I loc av n size (xs.flatMap enc):=
 ⟨by rw [ZF hs,h.len],h.base,fun q u hu=>by
  obtain ⟨k,x,j,h1,h2,h3⟩:=zhU hs xs q u hu;rw [h3,<-BR]
  exact (h.cells k x h1 j u h2).any⟩
theorem OwnS.freeze {α:Type}{e size:Nat}{enc:α->List Value}{v:Value}{n:Nat}{xs:List α}(hO:OwnS e size v n (xs.flatMap enc) L)(hs:∀ x,(enc x).length=size)(hsz:0<size){g:World}{H:Qt}{w:World}(hw:St g I H (L++R) w):
  ∃ I' av c,HLe I I'/\St g I' H R w/\v= .slice av n c/\Sl I' size enc av n c xs:=by
 have hn:xs.length=n:=by
  have:=hO.1;rw [ZF hs] at this;exact Ay hsz this
 rcases hO.2 with ⟨rfl,rfl,rfl⟩ | ⟨b,c,cur,rfl,rfl,hc,_,hcs,htake⟩
 ·have:xs=[]:=jR.1 hn;subst this;exact ⟨I,none,0,zGN _,hw,U,.nil⟩
 ·obtain ⟨h1,h2,h3⟩:=hw.freeze (b:=b) (o:=.cells cur e (0,0)) Zf.here;refine ⟨_,_,_,h2,h1,U,hn,hc,fun _=>U,fun k x hx j u hu=>.imm h3 ?_⟩;rw [YU];simp only [Ao,Oc];have hlt:k<xs.length:=(jc.1 hx).1;have hj:j<size:=by rw [<-hs x];exact (jc.1 hu).1
  have hq:(xs.flatMap enc)[k*size+j]? =some u:=by
   clear htake hO hcs hw h1 h2 h3 hn
   induction xs generalizing k with
   | nil=>simp at hx
   | cons y ys ih=>
    rw [jO,AA]
    cases k with
    | zero=>
     simp only [B3,Oc];rw [jb (by rw [hs];exact hj)];simp only [O3,jU] at hx;rw [hx];exact hu
    | succ k=>
     rw [ja (by rw [hs,OJ];omega),hs];have:=ih k (by simpa using hx) (by simpa using hlt);rw [show (k+1)*size+j-size=k*size+j from by rw [OJ];omega];exact this
  rw [<-htake,Ar] at hq;split at hq
  ·simpa using hq
  ·cases hq
end
def QX {α β:Type}(ek:α->Value)(ev:β->Value)(k:Nat):List (α×β)->List MapEntry
 | []=>[]
 | p::m=>{key:=ek p.1,val:=ev p.2,born:=k}::QX ek ev (k+1) m
def Z7 {α β:Type}(ek:α->Value)(ev:β->Value)(m:List (α×β)):Obj:=.map (QX ek ev 0 m).toArray m.length
def ZP {α β:Type}[DecidableEq α]:List (α×β)->α->Option β
 | [],_=>none
 | p::m,a=>if p.1=a then some p.2 else ZP m a
def YM {α β:Type}[DecidableEq α]:List (α×β)->α->β->List (α×β)
 | [],a,b=>[(a,b)]
 | p::m,a,b=>if p.1=a then (a,b)::m else p::YM m a b
def XT {α β:Type}[DecidableEq α]:List (α×β)->α->Nat->Option (Nat×β)
 | [],_,_=>none
 | p::m,a,k=>if p.1=a then some (k,p.2) else XT m a (k+1)
structure VR {α:Type}[DecidableEq α](P:Program)(kt:Nat)(ek:α->Value):Prop where
 chk:∀ b a w,(Instr.checkKey b 10000 kt (ek a)).run P w= .ok () w
 find:∀ {β:Type} (ev:β->Value) (m:List (α×β)) (a:α) (w:World),(Instr.findKey kt (ek a) (QX ek ev 0 m)).run P w= .ok ((XT m a 0).map fun p=>(p.1,ev p.2)) w
 bits:∀ a,Instr.sameBits 10000 (ek a) (ek a)=true
section
variable {α β:Type} [DecidableEq α] {ek:α->Value} {ev:β->Value}
omit [DecidableEq α] in
theorem zf3 {kind:TypeDesc} (hno:∀ a b,Instr.sameNow kind (ek a) (ek b)=none) (a:α) (m:List (α×β)) (k i:Nat) (hne:m≠[]):Instr.findNow kind (ek a) (QX ek ev k m) i=none:=by
 cases m with
 | nil=>exact absurd U hne
 | cons p m=>simp [QX,Instr.findNow,hno]
theorem zbw {kind:TypeDesc}(hyes:∀ a b,Instr.sameNow kind (ek a) (ek b)=some (decide (a=b)))(a:α):∀ (m:List (α×β)) (k i:Nat),Instr.findNow kind (ek a) (QX ek ev k m) i=some ((XT m a i).map fun p=>(p.1,ev p.2))
 | [],_,_=>rfl
 | p::m,k,i=>by
  simp only [QX,Instr.findNow,hyes,XT];by_cases h:p.1=a
  ·simp [h]
  ·have h':¬a=p.1:=fun e=>h e.symm;simp only [h',B7,ja h];exact zbw hyes a m (k+1) (i+1)
theorem XA {P:Program}{kt:Nat}(heq:∀ a b w,(Op.equal kt (ek a) (ek b)).run P w= .ok (decide (a=b)) w)(a:α)(w:World):∀ (m:List (α×β)) (k i:Nat),(Instr.findAsking kt (ek a) (QX ek ev k m) i).run P w= .ok ((XT m a i).map fun p=>(p.1,ev p.2)) w
 | [],_,_=>rfl
 | p::m,k,i=>by
  simp only [QX,Instr.findAsking,jg,heq,Result.andThen,XT];by_cases h:p.1=a
  ·simp [h]
  ·have h':¬a=p.1:=fun e=>h e.symm;simp only [h',B7,ja h,jB,j2];exact XA heq a w m (k+1) (i+1)
theorem VR.of_now {P:Program}{kt:Nat}{d:TypeDesc}(hd:P.underlying kt=some d)(hc:∀ b a w,(Instr.checkKey b 10000 kt (ek a)).run P w= .ok () w)(hb:∀ a,Instr.sameBits 10000 (ek a) (ek a)=true)
  (hyes:∀ a b,Instr.sameNow d (ek a) (ek b)=some (decide (a=b))):VR P kt ek:=
 ⟨hc,fun ev m a w=>by simp only [Instr.findKey,jg,jK hd,Result.andThen,zbw hyes,jl],hb⟩
theorem VR.of_asking {P:Program}{kt:Nat}{d:TypeDesc}(hd:P.underlying kt=some d)(hc:∀ b a w,(Instr.checkKey b 10000 kt (ek a)).run P w= .ok () w)(hb:∀ a,Instr.sameBits 10000 (ek a) (ek a)=true)
  (hno:∀ a b,Instr.sameNow d (ek a) (ek b)=none)(heq:∀ a b w,(Op.equal kt (ek a) (ek b)).run P w= .ok (decide (a=b)) w):VR P kt ek:=
 ⟨hc,fun ev m a w=>by
  simp only [Instr.findKey,jg,jK hd,Result.andThen]
  cases m with
  | nil=>rfl
  | cons p m=>rw [zf3 hno a (p::m) 0 0 kK];exact XA heq a w (p::m) 0 0,hb⟩
end
variable{kt:Nat}
theorem zwF (h:P.underlying kt=some (.int .i64)):VR (α:=Int) P kt (.int .i64):=
 .of_now h (fun b a w=>by
  have key:∀ q,(Instr.checkKey b (q+1) kt (.int .i64 a)).run P w= .ok () w:=fun q=>by
   simp only [Instr.checkKey,jg,jK h,Result.andThen];rfl
  exact key 9999) (fun a=>by simp [Instr.sameBits]) (fun a b=>by simp only [Instr.sameNow,Oj];rfl)
section
variable {α β:Type} [DecidableEq α] {ek:α->Value} {ev:β->Value}
theorem KP (m:List (α×β))(a:α):∀ k,(XT m a k).map (·.2)=ZP m a:=by
 induction m with
 | nil=>intro k;rfl
 | cons p m ih=>
  intro k;simp only [XT,ZP];split
  ·rfl
  ·exact ih (k+1)
omit [DecidableEq α] in
theorem zfJ (m:List (α×β)):∀ k,(QX ek ev k m).length=m.length:=by
 induction m with
 | nil=>intro k;rfl
 | cons p m ih=>intro k;simp [QX,ih]
omit [DecidableEq α] in
theorem zaI (m:List (α×β)) (p:α×β):∀ k,QX ek ev k (m++[p])=QX ek ev k m++[{key:=ek p.1,val:=ev p.2,born:=k+m.length}]:=by
 induction m with
 | nil=>intro k;rfl
 | cons q m ih=>intro k;simp only [OE,QX,ih,jw];rw [show k+1+m.length=k+(m.length+1) from by omega]
theorem za3 (m:List (α×β))(a:α)(b:β):∀ k,XT m a k=none->YM m a b=m++[(a,b)]:=by
 induction m with
 | nil=>intro k _;rfl
 | cons p m ih=>
  intro k h;simp only [XT] at h;split at h
  ·cases h
  ·rename_i hne;simp only [YM,ja hne,OE,ih _ h]
theorem UX (m:List (α×β))(a:α)(b:β):∀ (k i:Nat) (c:β),XT m a k=some (k+i,c)->(∃ p,m[i]? =some p/\p.1=a)/\(YM m a b).length=m.length/\
  QX ek ev k (YM m a b)=(QX ek ev k m).modify i fun e=>{e with key:=ek a,val:=ev b}:=by
 induction m with
 | nil=>intro k i c h;cases h
 | cons p m ih=>
  intro k i c h;simp only [XT] at h;split at h
  ·rename_i he;have:i=0:=by have:=(Ob h);simp only [AX] at this;omega
   subst this;exact ⟨⟨p,U,he⟩,by simp [YM,he],by simp [YM,he,QX]⟩
  ·rename_i hne
   cases i with
   | zero=>
    exfalso
    have key:∀ (m:List (α×β)) (k j:Nat) (c:β),XT m a k=some (j,c)->k<=j:=by
     intro m
     induction m with
     | nil=>intro k j c h;cases h
     | cons p m ih=>
      intro k j c h;simp only [XT] at h;split at h
      ·have:=(Ob h);simp only [AX] at this;omega
      ·have:=ih (k+1) j c h;omega
    have:=key m (k+1) (k+0) c h;omega
   | succ i=>
    obtain ⟨h1,h2,h3⟩:=ih (k+1) i c (by rw [h];congr 2;omega);refine ⟨by simpa using h1,by simp [YM,hne,h2],?_⟩;simp only [YM,ja hne,QX,h3];simp
end
section
variable {C:Cx} {Q:Exit->Act->World->Prop} {E E':Env} {I I':Qt} {loc loc' L R:Loc} {ops:Array Oper} {rest:List Oper} {S:GS}
variable {dst:Option Tmp} {d:Nat} {ty:TypeId} {pos:String} {af:Array Edge} {gd:Option (Nat×Bool)} {x y z:Operand}
variable {α β:Type} [DecidableEq α] {ek:α->Value} {ev:β->Value} {m:List (α×β)} {a:α}
theorem Yf {P:Program}{w:World}{r:Nat}{es:Array MapEntry}{c:Nat}(h:w.heap[r]? =some (.map es c)):(getObj r).run P w= .ok (.map es c) w:=by simp [getObj,Sem.run,h]
theorem Vk {P:Program}{w:World}{r:Nat}{es:Array MapEntry}{c:Nat}(o:Obj)(h:w.heap[r]? =some (.map es c)):(setObj r o).run P w= .ok () (w.putObj r o):=by simp [setObj,Sem.run,h,World.putObj]
def MpT (P:Program)(t k e:Nat)(z:Value):Prop:=P.underlying t=some (.map k e)/\Yw P e z
theorem zcC {P:Program}{w:World}{t k e r:Nat}{zv:Value}(hT:MpT P t k e zv)(hK:VR P k ek)(hm:w.heap[r]? =some (Z7 ek ev m))(ok:Bool):
  (Instr.lookup t (.map (some r)) (ek a) ok).run P w= .ok (if ok then .tuple #[((ZP m a).map ev).getD zv,.bool (ZP m a).isSome] else ((ZP m a).map ev).getD zv) w:=by
 have hf:=hK.find ev m a w;have hg:=KP m a 0;simp only [Instr.lookup,jg,jK hT.1,Result.andThen,Yf hm,jl,hK.chk];rw [hf]
 cases hi:XT m a 0 with
 | none=>rw [hi] at hg;rw [<-hg];cases ok<;>simp [Yc hT.2]
 | some p=>rw [hi] at hg;rw [<-hg];cases ok<;>simp
theorem U5 {t k e r:Nat}{zv:Value}(hT:MpT C.P t k e zv)(hK:VR C.P k ek)(hx:Qv S E x=some (.map (some r)))(hy:Qv S E y=some (ek a))(hm:ZS S=true->Mem I loc r (Z7 ek ev m)):
  QV C S E I loc ⟨dst,.lookup t x y false,ty,pos,af,gd⟩ (((ZP m a).map ev).getD zv):=
 .of kC fun a' w ha hg hc hw=>by
  have:=zcC (P:=C.P) (a:=a) hT hK ((hm hc).heap hw) false;simp only [execOp,Qi ha hg hc hx,Qi ha hg hc hy,jg,this,Result.andThen,jl,jB,j2]
theorem K3 {t k e r:Nat}{zv:Value}(hT:MpT C.P t k e zv)(hK:VR C.P k ek)(hx:Qv S E x=some (.map (some r)))(hy:Qv S E y=some (ek a))(hm:ZS S=true->Mem I loc r (Z7 ek ev m)):
  QV C S E I loc ⟨dst,.lookup t x y true,ty,pos,af,gd⟩ (.tuple #[((ZP m a).map ev).getD zv,.bool (ZP m a).isSome]):=
 .of kC fun a' w ha hg hc hw=>by
  have:=zcC (P:=C.P) (a:=a) hT hK ((hm hc).heap hw) true;simp only [execOp,Qi ha hg hc hx,Qi ha hg hc hy,jg,this,Result.andThen,jl,Oj]
theorem YJ {t k e r:Nat}{m:List (α×Bool)}(hT:MpT C.P t k e (.bool false))(hK:VR C.P k ek)(hx:Qv S E x=some (.map (some r)))(hy:Qv S E y=some (ek a))(hm:ZS S=true->Mem I loc r (Z7 ek .bool m)):
  QV C S E I loc ⟨dst,.lookup t x y false,ty,pos,af,gd⟩ (.bool ((ZP m a).getD false)):=by
 have:=U5 (C:=C) (dst:=dst) (ty:=ty) (pos:=pos) (af:=af) (gd:=gd) hT hK hx hy hm
 cases h:ZP m a with
 | none=>rw [h] at this;exact this
 | some b=>rw [h] at this;exact this
omit [DecidableEq α] in
theorem zvu {t k e r:Nat} {zv:Value} (hx:Qv S E x=some (.map (some r))) (hT:MpT C.P t k e zv) (hm:ZS S=true->Mem I loc r (Z7 ek ev m)):QV C S E I loc ⟨dst,.call ⟨.builtin .len, #[x], #[t]⟩,ty,pos,af,gd⟩ (.int .i64 m.length):=
 .of kC fun a w ha hg hc hw=>by
  have hh:=(hm hc).heap hw;simp only [execOp,resolve,j6,jx,Oo,Qi ha hg hc hx,jg,jl,Result.andThen,invoke,builtin,Builtin.len_,OO,O3,jK hT.1,goInt,Yf hh,Oh,zfJ]
theorem XJ {P:Program}{g:World}{H:Qt}{w:World}{t k e r:Nat}{zv:Value}(hT:MpT P t k e zv)(hK:VR P k ek)(b:β)(hw:St g I H loc w)(hu:Upd loc r (Z7 ek ev m) (Z7 ek ev (YM m a b)) loc'):
  ∃ w',(Instr.mapUpdate t (.map (some r)) (ek a) (ev b)).run P w= .ok () w'/\St g I H loc' w':=by
 have hm:=hw.own _ _ hu.mem;have hf:=hK.find ev m a w;refine ⟨w.putObj r (Z7 ek ev (YM m a b)),?_,hw.putObj hu⟩;simp only [Instr.mapUpdate,jg,jK hT.1,Result.andThen,Yf hm,hK.chk];rw [hf]
 cases hi:XT m a 0 with
 | none=>
  have h1:=za3 m a b 0 hi;simp only [A5];rw [Vk _ hm,h1];congr 2;simp [Z7,zaI]
 | some p=>
  obtain ⟨i,c⟩:=p;obtain ⟨⟨q,h1,h2⟩,h3,h4⟩:=UX (ek:=ek) (ev:=ev) m a b 0 i c (by rw [hi];simp)
  have hkey:(((QX ek ev 0 m).toArray[i]?).map (·.key)).getD (ek a)=ek a:=by
   have key:∀ (m:List (α×β)) (k i:Nat) (q:α×β),m[i]? =some q->((QX ek ev k m)[i]?).map (·.key)=some (ek q.1):=by
    intro m
    induction m with
    | nil=>intro k i q h;simp at h
    | cons p m ih=>
     intro k i q h
     cases i with
     | zero=>simp at h;subst h;simp [QX]
     | succ i=>simp only [QX,Al];exact ih _ _ _ (by simpa using h)
   have:=key m 0 i q h1;simp only [OO];rw [this,h2];rfl
  simp only [j9,jg,hkey,Instr.keyThatStays,hK.bits,Oj,jl,Result.andThen];rw [Vk _ hm];congr 2;simp only [Z7,h3,h4];congr 1;simp
theorem Q6 {t k e r:Nat}{zv:Value}(b:β)(hT:MpT C.P t k e zv)(hK:VR C.P k ek)(hx:Qv [] E x=some (.map (some r)))(hy:Qv [] E y=some (ek a))(hz:Qv [] E z=some (ev b))(hG:gd=none)
  (hu:Upd loc r (Z7 ek ev m) (Z7 ek ev (YM m a b)) loc')(h:XO C Q ops rest [] E I loc'):XO C Q ops (⟨none,.mapUpdate t x y z,ty,pos,af,gd⟩::rest) [] E I loc:=
 Ya hG kC fun a' w ha hw=>by
  obtain ⟨w',hr,hs⟩:=XJ (P:=C.P) (ek:=ek) (ev:=ev) hT hK b hw hu;simp only [execOp,Qi (S:=[]) ha trivial rfl hx,Qi (S:=[]) ha trivial rfl hy,Qi (S:=[]) ha trivial rfl hz,jg,hr,Result.andThen,jl,AD];exact h _ _ ha trivial hs
theorem zx9 {t k e r:Nat}{zv:Value}(b:β)(hT:MpT C.P t k e zv)(hK:VR C.P k ek)(h:XO C Q ops rest [] E I loc')(hx:Qv [] E x=some (.map (some r)):=by exact U)(hy:Qv [] E y=some (ek a):=by exact U)(hz:Qv [] E z=some (ev b):=by exact U)
  (hu:Upd loc r (Z7 ek ev m) (Z7 ek ev (YM m a b)) loc':=by repeat (first | exact Upd.here | apply Upd.there | apply QH)):XO C Q ops (⟨none,.mapUpdate t x y z,ty,pos,af,none⟩::rest) [] E I loc:=Q6 b hT hK hx hy hz U hu h
theorem UJ {t k e r:Nat}{zv:Value}(b:β)(hT:MpT C.P t k e zv)(hK:VR C.P k ek)(hx:Qv [] E x=some (.map (some r)))(hy:Qv [] E y=some (ek a))(hz:Qv [] E z=some (ev b))(hG:gd=none)
  (hu:Upd loc r (Z7 ek ev m) (Z7 ek ev (YM m a b)) loc')(h:XO C Q ops rest [] E I loc'):XO C Q ops (⟨none,.insert t x y z,ty,pos,af,gd⟩::rest) [] E I loc:=
 Ya hG kC fun a' w ha hw=>by
  obtain ⟨w',hr,hs⟩:=XJ (P:=C.P) (ek:=ek) (ev:=ev) hT hK b hw hu;simp only [execOp,Qi (S:=[]) ha trivial rfl hx,Qi (S:=[]) ha trivial rfl hy,Qi (S:=[]) ha trivial rfl hz,jg,hr,Result.andThen,jl,AD];exact h _ _ ha trivial hs
theorem zpi {t k e r:Nat}{zv:Value}(b:β)(hT:MpT C.P t k e zv)(hK:VR C.P k ek)(h:XO C Q ops rest [] E I loc')(hx:Qv [] E x=some (.map (some r)):=by exact U)(hy:Qv [] E y=some (ek a):=by exact U)(hz:Qv [] E z=some (ev b):=by exact U)
  (hu:Upd loc r (Z7 ek ev m) (Z7 ek ev (YM m a b)) loc':=by repeat (first | exact Upd.here | apply Upd.there | apply QH)):XO C Q ops (⟨none,.insert t x y z,ty,pos,af,none⟩::rest) [] E I loc:=UJ b hT hK hx hy hz U hu h
theorem ZV {t:Nat}(hG:gd=none)(hN:Nat.blt d C.N=true)(h:∀ r,XO C Q ops rest [] ((d,.map (some r))::E) I ((r,.map #[] 0)::loc)):XO C Q ops (⟨some d,.makeMap t none,ty,pos,af,gd⟩::rest) [] E I loc:=
 Ya hG kC fun a w ha hw=>by
  simp only [execOp,A5,Instr.makeMap,jg,Bs,Result.andThen,jl,Oq];exact h _ _ _ (ha.put hN _) trivial (hw.alloc _)

def Vt (r n:Nat)(seen:List Nat):Obj:=.mapIter (some r) n seen.toArray n
theorem Wv {P:Program}{w:World}{r:Nat}{o:Obj}(h:w.heap[r]? =some o)(ho:o.isCells=false):(getObj r).run P w= .ok o w:=by cases o<;>simp [Obj.isCells] at ho<;>simp [getObj,Sem.run,h]
omit [DecidableEq α] in
theorem Uj {t k e r:Nat} {zv:Value} (hx:Qv [] E x=some (.map (some r))) (hT:MpT C.P t k e zv) (hG:gd=none) (hN:Nat.blt d C.N=true) (hm:Mem I loc r (Z7 ek ev m))
  (h:∀ b,XO C Q ops rest [] ((d,.pointer (some ⟨b,0,none⟩))::E) I ((b,Vt r m.length [])::loc)):XO C Q ops (⟨some d,.range t x,ty,pos,af,gd⟩::rest) [] E I loc:=
 Ya hG kC fun a w ha hw=>by
  have hh:=hm.heap hw;simp only [execOp,Qi (S:=[]) ha trivial rfl hx,Instr.range,jg,jK hT.1,Result.andThen,Yf hh,jl,Bs,Oq];exact h _ _ _ (ha.put hN _) trivial (hw.alloc _)
omit [DecidableEq α] in
theorem zbN (m:List (α×β)):∀ (k:Nat) (e:MapEntry),e∈QX ek ev k m↔ ∃ i p,m[i]? =some p/\e= {key:=ek p.1,val:=ev p.2,born:=k+i}:=by
 induction m with
 | nil=>intro k e;simp [QX]
 | cons q m ih=>
  intro k e;simp only [QX,jp,ih];constructor
  ·rintro (rfl | ⟨i,p,h,rfl⟩)
   ·exact ⟨0,q,U,U⟩
   ·exact ⟨i+1,p,by simpa using h,by congr 1;omega⟩
  ·rintro ⟨i,p,h,rfl⟩
   cases i with
   | zero=>simp at h;subst h;exact .inl U
   | succ i=>exact .inr ⟨i,p,by simpa using h,by congr 1;omega⟩
omit [DecidableEq α] in
theorem zp2 {P:Program} {g:World} {H:Qt} {w:World} {r b:Nat} {seen:List Nat} (hw:St g I H loc w) (hb:(b,Vt r m.length seen)∈loc) (hm:Mem I loc r (Z7 ek ev m)):
  (∃ w',(Instr.next (.pointer (some ⟨b,0,none⟩)) false ty).run P w= .ok (.tuple #[.bool false]) w'/\(∀ i p,m[i]? =some p->i∈seen)/\St g I H loc w')\/
  (∃ i p w',m[i]? =some p/\i∉seen/\(Instr.next (.pointer (some ⟨b,0,none⟩)) false ty).run P w= .ok (.tuple #[.bool true,ek p.1,ev p.2]) w'/\
   ∀ loc',Upd loc b (Vt r m.length seen) (Vt r m.length (seen++[i])) loc'->St g I H loc' w'):=by
 have hh:=hm.heap hw;have hi:=hw.own _ _ hb;let es:=QX ek ev 0 m
 have hes:∀ e∈es,∃ i p,m[i]? =some p/\e= {key:=ek p.1,val:=ev p.2,born:=i}:=fun e he=>by
  obtain ⟨i,p,h1,h2⟩:=(zbN m 0 e).1 he;exact ⟨i,p,h1,by rw [h2];simp⟩
 have hlt:∀ e∈es,e.born<m.length:=fun e he=>by
  obtain ⟨i,p,h1,rfl⟩:=hes e he;exact (jc.1 h1).1
 have hguard:(!seen.toArray.isEmpty&& !es.toArray.isEmpty&&es.toArray.all (fun e=>decide (e.born>=m.length)))=false:=by
  cases hn:es with
  | nil=>simp
  | cons e l=>
   have:=hlt e (by rw [hn];exact jk ..);have hn':¬e.born>=m.length:=kB;simp [hn']
 let left:=es.filter fun e=> !seen.contains e.born;have hold:(es.toArray.filter fun e=> !seen.toArray.contains e.born)=left.toArray:=by simp [left]
 have hall:left.filter (fun e=>decide (e.born<m.length))=left:=by
  apply OK.2;intro e he;have:=hlt e (jF.1 he).1;simpa using this
 have hnone:left.filter (fun e=>decide (e.born>=m.length))=[]:=by
  apply Om.2;intro e he;have:=hlt e (jF.1 he).1;simp;omega
 have hs1:seen.toArray.isEmpty=seen.isEmpty:=(by simp);unfold Instr.next
 simp only [jg,Wv hi rfl,Result.andThen,Vt];rw [Yf (es:=es.toArray) (c:=m.length) hh];simp only [hguard,jB,j2];rw [hold];have e1:(left.toArray.filter fun x=>decide (x.born<m.length))=left.toArray:=(by rw [List.filter_toArray,hall]);have e2:(left.toArray.filter fun x=>decide (x.born>=m.length))= #[]:=(by rw [List.filter_toArray,hnone]);rw [e1,e2];obtain ⟨cand,hcand⟩:∃ cand:Array (Option MapEntry),(if left.toArray.isEmpty=true then #[none] else #[])++Array.map some (left.toArray++ #[])=cand:=⟨_,U⟩;rw [hcand]
 have hpos:1<=cand.size:=by
  rw [<-hcand]
  cases left with
  | nil=>simp
  | cons e l=>simp
 have hsel:∀ q,q<cand.size->(left=[]/\cand[q]? =some none)\/∃ e,e∈left/\cand[q]? =some (some e):=by
  intro q hq;rw [<-hcand] at hq ⊢
  cases hl:left with
  | nil=>rw [hl] at hq;simp at hq;exact .inl ⟨U,by simp [hq]⟩
  | cons e l=>
   rw [hl] at hq;right;have hq':q<(e::l).length:=(by simpa using hq);refine ⟨(e::l)[q],OS _,?_⟩;have:((e::l).map some)[q]? =some (some (e::l)[q]):=by rw [j5,je hq'];rfl
   simpa using this
 have hch:∃ q w1,(choose (.mapNext cand.size)).run P w= .ok q w1/\q<cand.size/\w1.heap=w.heap/\St g I H loc w1:=by
  rw [run_choose];split
  ·exact ⟨0,w,U,kB,U,hw⟩
  ·exact ⟨_,_,U,Be _ kB,U,hw.drew⟩
 obtain ⟨q,w1,hq1,hq2,hq3,hq4⟩:=hch;simp only [jg,hq1,Result.andThen];rcases hsel q hq2 with ⟨h1,h2⟩ | ⟨e,h1,h2⟩
 ·refine .inl ⟨w1,by simp only [h2,jl],fun i p hp=>?_,hq4⟩;have hm':({key:=ek p.1,val:=ev p.2,born:=i}:MapEntry)∈es:=(zbN m 0 _).2 ⟨i,p,hp,by simp⟩;by_cases hin:i∈seen
  ·exact hin
  ·have:({key:=ek p.1,val:=ev p.2,born:=i}:MapEntry)∈left:=jF.2 ⟨hm',by simpa using hin⟩;rw [h1] at this;cases this
 ·obtain ⟨hmem,hns⟩:=jF.1 h1;obtain ⟨i,p,hp,rfl⟩:=hes e hmem;have hi1:w1.heap[b]? =some (.mapIter (some r) m.length seen.toArray m.length):=(by rw [hq3];exact hi);refine .inr ⟨i,p,w1.putObj b (Vt r m.length (seen++[i])),hp,by simpa using hns,?_,fun loc' hu=>hq4.putObj hu⟩;simp only [h2];simp [setObj,Sem.run,hi1,World.putObj,Vt]
omit [DecidableEq α] in
theorem zyI {r b:Nat} {seen:List Nat} (hx:Qv [] E x=some (.pointer (some ⟨b,0,none⟩))) (hG:gd=none) (hN:Nat.blt d C.N=true) (hm:Mem I loc r (Z7 ek ev m)) (hb:(b,Vt r m.length seen)∈loc)
  (h1:(∀ i p,m[i]? =some p->i∈seen)->XO C Q ops rest [] ((d,.tuple #[.bool false])::E) I loc)
  (h2:∀ i p,m[i]? =some p->i∉seen->∃ loc',Upd loc b (Vt r m.length seen) (Vt r m.length (seen++[i])) loc'/\XO C Q ops rest [] ((d,.tuple #[.bool true,ek p.1,ev p.2])::E) I loc'):
  XO C Q ops (⟨some d,.next x false,ty,pos,af,gd⟩::rest) [] E I loc:=
 Ya hG kC fun a w ha hw=>by
  simp only [execOp,Qi (S:=[]) ha trivial rfl hx,jg];rcases zp2 (P:=C.P) (ty:=ty) hw hb hm with ⟨w',hr,h3,h4⟩ | ⟨i,p,w',h3,h4,hr,h5⟩
  ·rw [hr];exact h1 h3 _ _ (ha.put hN _) trivial h4
  ·rw [hr];obtain ⟨loc',hu,h6⟩:=h2 i p h3 h4;exact h6 _ _ (ha.put hN _) trivial (h5 loc' hu)
omit [DecidableEq α] in
theorem KX {r b:Nat} {seen:List Nat} {i:Nat} {p:α×β} (hx:Qv S E x=some (.pointer (some ⟨b,0,none⟩))) (hm:Mem I loc r (Z7 ek ev m)) (hb:Mem I loc b (Vt r m.length (seen++[i]))) (hp:m[i]? =some p):
  QV C S E I loc ⟨dst,.entry x,ty,pos,af,gd⟩ (.tuple #[ek p.1,ev p.2]):=
 .of kC fun a w ha hg hc hw=>by
  have hh:=hm.heap hw;have hi:=hb.heap hw
  have hfind:(QX ek ev 0 m).toArray.find? (fun e=>e.born==i)=some {key:=ek p.1,val:=ev p.2,born:=i}:=by
   rw [List.find?_toArray]
   have key:∀ (m:List (α×β)) (k i:Nat) (p:α×β),m[i]? =some p->(QX ek ev k m).find? (fun e=>e.born==k+i)=some {key:=ek p.1,val:=ev p.2,born:=k+i}:=by
    intro m
    induction m with
    | nil=>intro k i p h;simp at h
    | cons q m ih=>
     intro k i p h
     cases i with
     | zero=>simp at h;subst h;simp [QX]
     | succ i=>
      simp only [QX,OZ];have hne:(k==k+(i+1))=false:=(by simp);rw [hne];have:=ih (k+1) i p (by simpa using h);rw [show k+1+i=k+(i+1) from by omega] at this;exact this
   have:=key m 0 i p hp;simpa using this
  have hback:(seen++[i]).toArray.back?=some i:=(by simp);simp only [execOp,Qi ha hg hc hx,Instr.entry,jg,Wv hi rfl,Result.andThen,Vt,hback];rw [Yf hh];simp [hfind]
end
section
variable {g:World} {I I' H:Qt} {loc loc' L K A B:Loc} {w w':World}
theorem J0 {b:Nat}(h:Vz H L b=none):H b=none/\∀ o,(b,o)∉L:=by
 induction L with
 | nil=>exact ⟨h,fun o ho=>by cases ho⟩
 | cons x l ih=>
  obtain ⟨c,p⟩:=x;simp only [Vz] at h;split at h
  ·cases h
  ·rename_i hne;obtain ⟨h1,h2⟩:=ih h;exact ⟨h1,fun o ho=>(jp.1 ho).elim (fun e=>hne (by cases e;rfl)) (h2 o)⟩
theorem St.swap (h:St g I (Vz H L) K w)(hn:(L.map (·.1)).Nodup)(hd:∀ b o,(b,o)∈L->H b=none):St g I (Vz H K) L w:=by
 have hL:∀ b o,(b,o)∈L->Vz H L b=some o:=fun b o hm=>zif hn hm
 have hH:∀ b o,H b=some o->Vz H L b=some o:=fun b o e=>by
  rw [Xv (fun p hp=>by rw [hd b p hp] at e;cases e)];exact e
 refine ⟨h.os,h.tape,h.out,h.size,h.imm,?_,fun b o hm=>h.frm b o (hL b o hm),?_,?_,hn⟩
 ·intro b o e;rcases Wi e with hm | e
  ·exact h.own b o hm
  ·exact h.frm b o (hH b o e)
 ·intro b
  cases e:Vz H K b with
  | none=>exact .inr U
  | some o=>
   rcases Wi e with hm | e
   ·exact .inl (h.sepIL b o hm).1
   ·rcases h.sepIH b with e' | e'
    ·exact .inl e'
    ·rw [hH b o e] at e';cases e'
 ·intro b o hm;refine ⟨?_,?_⟩
  ·rcases h.sepIH b with e' | e'
   ·exact e'
   ·rw [hL b o hm] at e';cases e'
  ·rw [Xv (fun p hp=>by have:=(h.sepIL b p hp).2;rw [hL b o hm] at this;cases this)];exact hd b o hm
theorem QO:Yu (A++B) A B:=by
 induction A with
 | nil=>exact .nil
 | cons x l ih=>obtain ⟨b,o⟩:=x;exact .cons .here ih
theorem St.hideR (h:St g I H (A++B) w):St g I (Vz H B) A w:=h.split QO
theorem QH {b:Nat}{o o':Obj}(h:Upd B b o o' K):Upd (A++B) b o o' (A++K):=by
 induction A with
 | nil=>exact h
 | cons x l ih=>exact .there ih
end
def WQ (P:Program)(g:World)(l:Nat)(args:List Value)(I H:Qt)(Post:Bool->Qt->Qt->Prop):Prop:=
 ∀ loc W,St g I H loc W->∃ fn tmps assign body,(Instr.yield l args.toArray).run P W= .ok (.round l fn tmps assign body) W/\
  RoundIn Fence.wide 0 P l fn tmps assign body W fun e W'=>∃ b I' H',e= .returned (.bool b)/\HLe I I'/\St g I' H' loc W'/\Post b I' H'
def zDO {α:Type}(P:Program)(f:FuncId)(cap:List Value)(I:Qt)(enc:α->Value)(xs:List α):Prop:=
 ∀ g l (J Jx:List α->Qt->Qt->Prop),
  (∀ pre x I' H',pre++[x]<+:xs->HLe I I'->J pre I' H'->WQ P g l [enc x] I' H' fun b I2 H2=>if b then J (pre++[x]) I2 H2 else Jx (pre++[x]) I2 H2)->
  ∀ I0 H w,HLe I I0->J [] I0 H->St g I0 H [] w->Calls P f ((.func (.yield l) #[] #[]:Value)::cap).toArray w fun e w'=>∃ v I' H',e= .returned v/\HLe I0 I'/\St g I' H' [] w'/\(J xs I' H'\/∃ pre,pre<+:xs/\Jx pre I' H')
def zEc {α:Type}(P:Program)(f:FuncId)(cap:List Value)(I:Qt)(K:Loc)(enc:α->Value)(xs:List α):Prop:=
 ∀ g l (J Jx:List α->Qt->Qt->Prop),
  (∀ pre x I' H',pre++[x]<+:xs->HLe I I'->J pre I' H'->WQ P g l [enc x] I' H' fun b I2 H2=>if b then J (pre++[x]) I2 H2 else Jx (pre++[x]) I2 H2)->
  ∀ I0 H w,HLe I I0->J [] I0 H->St g I0 H K w->Calls P f ((.func (.yield l) #[] #[]:Value)::cap).toArray w fun e w'=>∃ v I' H',e= .returned v/\HLe I0 I'/\St g I' H' [] w'/\(J xs I' H'\/∃ pre,pre<+:xs/\Jx pre I' H')
def zb9 {α:Type}(g:World)(H:Qt)(Jc:List α->Qt->Loc->Prop)(Jx:Code->List α->Qt->Loc->Prop)(pre:List α):Exit->Act->World->Prop
 | .normal,_,w=>∃ I loc,Jc pre I loc/\St g I H loc w
 | .ret,_,w=>∃ I loc,Jx .ret pre I loc/\St g I H loc w
 | .exit id,_,w=>∃ I loc,Jx (.exit id) pre I loc/\St g I H loc w
 | _,_,_=>False
section
variable {α:Type} {C:Cx} {Q:Exit->Act->World->Prop} {E E':Env} {I I':Qt} {loc loc' L R:Loc} {ops:Array Oper} {rest:List Oper} {S:GS}
variable {Jc:List α->Qt->Loc->Prop} {Jx:Code->List α->Qt->Loc->Prop} {pre:List α}
theorem zaP {P:Program}{N:Nat}{D:List Deferred}{K:Loc}{g:World}{H:Qt}{gop:Operand}{p:Nat}{assign body:Code}{f:FuncId}{cap:List Value}{enc:α->Value}{xs:List α}
  (Jc:List α->Qt->Loc->Prop)(Jx:Code->List α->Qt->Loc->Prop)(Ja:List α->α->Env->Qt->Loc->Prop)
  (hg:Qv [] E gop=some (.func (.func f) #[] cap.toArray))(hF:Fun P f)(hseq:zEc P f cap I K enc xs)(hp:Nat.blt p N=true)(h0:Jc [] I loc)
  (hass:∀ l pre x I' loc' H1,pre++[x]<+:xs->HLe I I'->Jc pre I' loc'->X ⟨P,some l,N,[],g,H1⟩ (Exit.then (Met ⟨P,some l,N,[],g,H1⟩ fun E2 I2 loc2=>HLe I' I2/\Ja pre x E2 I2 loc2) (fun _ _ _=>False)) assign ((p,enc x)::E) I' loc')
  (hbody:∀ l pre x E2 I2 loc2 H2,pre++[x]<+:xs->HLe I I2->Ja pre x E2 I2 loc2->X ⟨P,some l,N,[],g,H2⟩ (zb9 g H2 (fun q I3 loc3=>HLe I2 I3/\Jc q I3 loc3) (fun c q I3 loc3=>HLe I2 I3/\Jx c q I3 loc3) (pre++[x])) body E2 I2 loc2)
  (hdone:∀ bd I' loc',HLe I I'->Jc xs I' loc'->At ⟨P,none,N,{target:=.collected bd,args:= #[]}::D,g,H⟩ Q .normal E I' (loc'++[(bd,.deferred (some []))]))
  (hstop:∀ c bd pre I' loc',HLe I I'->pre<+:xs->Jx c pre I' loc'->X ⟨P,none,N,{target:=.collected bd,args:= #[]}::D,g,H⟩ Q c E I' (loc'++[(bd,.deferred (some []))])):
  X ⟨P,none,N,D,g,H⟩ Q (.rangeFunc gop #[p] assign body) E I (K++loc):=by
 intro a w ha hw;refine BM fun fn _=>?_;have hen:=BK (P:=P) (w:=w) fn a.tmps #[p] assign body;generalize hbd:w.heap.size=bd at hen;let rec_:LoopState->Option Code->Obj:=fun st pd=>.loop {state:=st,pending:=pd,fn,tmps:=a.tmps,params:= #[p],assign,body,defers:=bd}
 have hw1:St g I H ((bd+1,rec_ .ready none)::(bd,.deferred (some []))::(K++loc)) ((w.alloc (.deferred (some []))).alloc (rec_ .ready none)):=by
  have h1:=hw.alloc (.deferred (some []));have h2:=h1.alloc (rec_ .ready none);rw [B5,hbd] at h2;exact h2
 have hev:=Qi (S:=[]) ha trivial rfl hg;refine ⟨bd+1,[{target:=.collected bd,args:= #[]}],_,{target:=.fn (.func f) cap.toArray,args:= #[.func (.yield (bd+1)) #[] #[]]},(w.alloc (.deferred (some []))).alloc (rec_ .ready none),f,((.func (.yield (bd+1)) #[] #[]:Value)::cap).toArray,(w.alloc (.deferred (some []))).alloc (rec_ .ready none),hen,?_,fun _ _=>trivial,?_,by simp [FR],U6.2 ?_⟩
 ·have e2:a.eval (.const (.func (.yield (bd+1)) #[] #[]))= .func (.yield (bd+1)) #[] #[]:=rfl;simp only [resolve,j6,jx,Oo,e2,hev,Deferred.ofValue];rfl
 ·simp only [invoke,YF hF];simp
 let Lr:LoopState->Option Code->Loc->Loc:=fun st pd l'=>l'++[(bd+1,rec_ st pd),(bd,.deferred (some []))];have okL:∀ {I' H1 l' W st pd},St g I' H1 (Lr st pd l') W->((Lr st pd l').map (·.1)).Nodup:=fun h=>h.nodup;let J:List α->Qt->Qt->Prop:=fun pre I' H'=>∃ l',Jc pre I' l'/\HLe I I'/\H'=Vz H (Lr .ready none l')/\((Lr .ready none l').map (·.1)).Nodup/\∀ b o,(b,o)∈Lr .ready none l'->H b=none;let Jy:List α->Qt->Qt->Prop:=fun pre I' H'=>∃ c l',Jx c pre I' l'/\HLe I I'/\H'=Vz H (Lr .done (some c) l')/\((Lr .done (some c) l').map (·.1)).Nodup/\∀ b o,(b,o)∈Lr .done (some c) l'->H b=none
 have hw2:St g I H (K++Lr .ready none loc) ((w.alloc (.deferred (some []))).alloc (rec_ .ready none)):=by
  have hp:(K++Lr .ready none loc).Perm ((bd+1,rec_ .ready none)::(bd,.deferred (some []))::(K++loc)):=by
   show (K++(loc++[(bd+1,rec_ .ready none),(bd,.deferred (some []))])).Perm _;rw [<-jn];exact OP
  exact hw1.perm (fun q=>hp.mem_iff) ((hp.map (·.1)).nodup_iff.2 hw1.nodup)
 have hw2r:=hw2.rest QO;have hJ0:J [] I (Vz H (Lr .ready none loc)):=⟨loc,h0,zGN I,U,hw2r.nodup,fun b o hm=>(hw2r.sepIL b o hm).2⟩;refine (hseq g (bd+1) J Jy ?_ I _ _ (zGN I) hJ0 hw2.hideR).mono ?_
 ·intro pre x I' H' hpre hI ⟨l',hJc,_,hH,hnd,hdj⟩ lit W hW;subst hH;have hS1:=hW.swap hnd hdj;have hrec:W.heap[bd+1]? =some (rec_ .ready none):=hS1.own _ _ (by simp [Lr]);refine ⟨fn,_,assign,body,run_yield (P:=P) hrec kK,?_⟩
  have hfit:Kf N [] ((p,enc x)::E) {tmps:=a.tmps.setIfInBounds p (enc x),defers:=[]}:=by
   have h1:=ha.put hp (enc x);exact ⟨h1.size,U,h1.env⟩
  have hdjK:∀ b o,(b,o)∈lit->H b=none:=fun b o hm=>(J0 (hW.sepIL b o hm).2).1;refine roundIn_of_wpIn (F:=Fence.wide) trivial ?_;have htm:((#[p]:Array Tmp).zip #[enc x]).foldl (fun tmps (t,v)=>tmps.setIfInBounds t v) a.tmps=a.tmps.setIfInBounds p (enc x):=(by simp);show Code.wpIn _ _ _ _ _ {tmps:=((#[p]:Array Tmp).zip #[enc x]).foldl (fun tmps (t,v)=>tmps.setIfInBounds t v) a.tmps,defers:=[]} _;rw [htm];have hA:=hass (bd+1) pre x I' l' (Vz (Vz H lit) [(bd+1,rec_ .ready none),(bd,.deferred (some []))]) hpre hI hJc _ W hfit hS1.hideR;refine Aj (F:=Fence.wide.inRound (bd+1)) (n:=0) (P:=P) (show assign.wpIn (Fence.wide.inRound (bd+1)) 0 P _ _ _ from hA) ?_;intro e a1 W1 hq
  cases e with
  | normal=>
   obtain ⟨E2,I2,loc2,⟨hI2,hJa⟩,hf2,hs2⟩:=hq;have hs3:St g I2 (Vz H lit) (loc2++[(bd+1,rec_ .ready none),(bd,.deferred (some []))]) W1:=St.unhide (hS1.rest QO) hs2;have hrec1:W1.heap[bd+1]? =some (rec_ .ready none):=hs3.own _ _ kK;have hs4:=hs3.putObj (o':=rec_ .busy none) (b:=bd+1) (QH .here);refine ⟨_,run_beginRound (P:=P) hrec1 U,?_⟩;have hB:=hbody (bd+1) pre x E2 I2 loc2 (Vz (Vz H lit) [(bd+1,rec_ .busy none),(bd,.deferred (some []))]) hpre (hI.trans hI2) hJa a1 _ hf2 hs4.hideR;refine Aj (F:=Fence.wide.inRound (bd+1)) (n:=0) (P:=P) (show body.wpIn (Fence.wide.inRound (bd+1)) 0 P _ _ _ from hB) ?_
   have fin:∀ (W3:World) (I3:Qt) (loc3:Loc) (jump:Option Code) (st:LoopState),St g I3 (Vz (Vz H lit) [(bd+1,rec_ .busy none),(bd,.deferred (some []))]) loc3 W3->
     (st=if jump.isNone then .ready else .done)->
     ∃ W4,(Instr.endRound (bd+1) jump).run P W3= .ok (.bool jump.isNone) W4/\St g I3 (Vz H (Lr st jump loc3)) lit W4/\((Lr st jump loc3).map (·.1)).Nodup/\∀ b o,(b,o)∈Lr st jump loc3->H b=none:=by
    intro W3 I3 loc3 jump st hs hst;have hs5:St g I3 (Vz H lit) (loc3++[(bd+1,rec_ .busy none),(bd,.deferred (some []))]) W3:=St.unhide (hs4.rest QO) hs;have hrec3:W3.heap[bd+1]? =some (rec_ .busy none):=hs5.own _ _ kK;have hs6:=hs5.putObj (o':=rec_ st jump) (b:=bd+1) (QH .here);refine ⟨_,run_endRound (P:=P) jump hrec3,?_,hs6.nodup,fun b o hm=>(J0 (hs6.sepIL b o hm).2).1⟩;rw [<-hst];exact hs6.swap hW.nodup hdjK
   intro e a3 W3 hq
   cases e with
   | normal=>
    obtain ⟨I3,loc3,⟨hI3,hJ3⟩,hs⟩:=hq;obtain ⟨W4,h1,h2,h3,h4⟩:=fin W3 I3 loc3 none .ready hs U;exact ⟨_,W4,h1,true,I3,_,U,hI2.trans hI3,h2,loc3,hJ3,(hI.trans hI2).trans hI3,U,h3,h4⟩
   | ret=>
    obtain ⟨I3,loc3,⟨hI3,hJ3⟩,hs⟩:=hq;obtain ⟨W4,h1,h2,h3,h4⟩:=fin W3 I3 loc3 (some .ret) .done hs U;exact ⟨_,W4,h1,false,I3,_,U,hI2.trans hI3,h2,.ret,loc3,hJ3,(hI.trans hI2).trans hI3,U,h3,h4⟩
   | exit id=>
    obtain ⟨I3,loc3,⟨hI3,hJ3⟩,hs⟩:=hq;obtain ⟨W4,h1,h2,h3,h4⟩:=fin W3 I3 loc3 (some (.exit id)) .done hs U;exact ⟨_,W4,h1,false,I3,_,U,hI2.trans hI3,h2,.exit id,loc3,hJ3,(hI.trans hI2).trans hI3,U,h3,h4⟩
   | goto t=>exact hq.elim
   | panic c=>exact hq.elim
   | outgrown=>exact hq.elim
  | _=>exact hq.elim
 ·rintro e w' ⟨v,I',H',rfl,hI,hs,hJ | ⟨pre,hpre,hJ⟩⟩
  ·obtain ⟨l',hJc,hI1,rfl,hnd,hdj⟩:=hJ;have hs1:=hs.swap hnd hdj;have hrec:w'.heap[bd+1]? =some (rec_ .ready none):=hs1.own _ _ (by simp [Lr]);have hs2:=hs1.putObj (o':=rec_ .exhausted none) (b:=bd+1) (QH .here);refine ⟨none,_,AN (P:=P) hrec kK,?_⟩;refine hdone bd I' l' hI1 hJc _ _ ⟨ha.size,by simp [ha.defers],ha.env⟩ ?_;refine hs2.rest (L:=[(bd+1,rec_ .exhausted none)]) ?_
   have:Yu (l'++[(bd+1,rec_ .exhausted none),(bd,.deferred (some []))]) [(bd+1,rec_ .exhausted none)] (l'++[(bd,.deferred (some []))]):=by
    refine .cons ?_ .nil;clear hdj hnd hs2 hs1 hs hJc hrec
    induction l' with
    | nil=>exact .here
    | cons q l ih=>exact .there ih
   exact this
  ·obtain ⟨c,l',hJc,hI1,rfl,hnd,hdj⟩:=hJ;have hs1:=hs.swap hnd hdj;have hrec:w'.heap[bd+1]? =some (rec_ .done (some c)):=hs1.own _ _ (by simp [Lr]);have hs2:=hs1.putObj (o':=rec_ .exhausted (some c)) (b:=bd+1) (QH .here);refine ⟨some c,_,AN (P:=P) hrec kK,?_⟩;refine hstop c bd pre I' l' hI1 hpre hJc _ _ ⟨ha.size,by simp [ha.defers],ha.env⟩ ?_;refine hs2.rest (L:=[(bd+1,rec_ .exhausted (some c))]) ?_
   have:Yu (l'++[(bd+1,rec_ .exhausted (some c)),(bd,.deferred (some []))]) [(bd+1,rec_ .exhausted (some c))] (l'++[(bd,.deferred (some []))]):=by
    refine .cons ?_ .nil;clear hdj hnd hs2 hs1 hs hJc hrec
    induction l' with
    | nil=>exact .here
    | cons q l ih=>exact .there ih
   exact this
theorem zgw {P:Program}{N:Nat}{g:World}{H:Qt}{gop:Operand}{p:Nat}{assign body:Code}{f:FuncId}{cap:List Value}{enc:α->Value}{xs:List α}
  (Jc:List α->Qt->Loc->Prop)(Jx:Code->List α->Qt->Loc->Prop)(Ja:List α->α->Env->Qt->Loc->Prop)
  (hg:Qv [] E gop=some (.func (.func f) #[] cap.toArray))(hF:Fun P f)(hseq:zDO P f cap I enc xs)(hp:Nat.blt p N=true)(h0:Jc [] I loc)
  (hass:∀ l pre x I' loc' H1,pre++[x]<+:xs->HLe I I'->Jc pre I' loc'->X ⟨P,some l,N,[],g,H1⟩ (Exit.then (Met ⟨P,some l,N,[],g,H1⟩ fun E2 I2 loc2=>HLe I' I2/\Ja pre x E2 I2 loc2) (fun _ _ _=>False)) assign ((p,enc x)::E) I' loc')
  (hbody:∀ l pre x E2 I2 loc2 H2,pre++[x]<+:xs->HLe I I2->Ja pre x E2 I2 loc2->X ⟨P,some l,N,[],g,H2⟩ (zb9 g H2 (fun q I3 loc3=>HLe I2 I3/\Jc q I3 loc3) (fun c q I3 loc3=>HLe I2 I3/\Jx c q I3 loc3) (pre++[x])) body E2 I2 loc2)
  (hdone:∀ bd I' loc',HLe I I'->Jc xs I' loc'->At ⟨P,none,N,[{target:=.collected bd,args:= #[]}],g,H⟩ Q .normal E I' (loc'++[(bd,.deferred (some []))]))
  (hstop:∀ c bd pre I' loc',HLe I I'->pre<+:xs->Jx c pre I' loc'->X ⟨P,none,N,[{target:=.collected bd,args:= #[]}],g,H⟩ Q c E I' (loc'++[(bd,.deferred (some []))])):
  X ⟨P,none,N,[],g,H⟩ Q (.rangeFunc gop #[p] assign body) E I loc:=zaP (D:=[]) (K:=[]) Jc Jx Ja hg hF hseq hp h0 hass hbody hdone hstop
def zFO (C:Cx)(M:Env->Qt->Qt->Loc->Prop):Act->World->Prop:=fun a w=>∃ E I H loc,M E I H loc/\Kf C.N C.D E a/\St C.g I H loc w
theorem zdg {P:Program}{r:Option Nat}{N:Nat}{D:List Deferred}{g:World}{H:Qt}{c:Code}(J:Nat->Env->Qt->Qt->Loc->Prop)(m0:Nat)(E0:Env)(loc0:Loc)(h0:J m0 E0 I H loc0)(hE:Sub E0 E)(hl:loc0=loc)
  (round:∀ m E I H loc,J m E I H loc->X ⟨P,r,N,D,g,H⟩ (Exit.then (zFO ⟨P,r,N,D,g,H⟩ fun E I H loc=>∃ m',m'<m/\J m' E I H loc) Q) c E I loc):X ⟨P,r,N,D,g,H⟩ Q (.loop c) E I loc:=by
 classical
 intro a w ha hw;let R:Nat->Act->World->Prop:=fun m a w=>∃ E I H loc,J m E I H loc/\Kf N D E a/\St g I H loc w
 have least:∀ a w,(∃ m,R m a w)->∃ m,R m a w/\∀ m',R m' a w->m<=m':=fun a w ⟨m,h⟩=>by
  induction m using Nat.strongRecOn with
  | _ m ih=>
   by_cases h':∃ m',m'<m/\R m' a w
   ·obtain ⟨m',hlt,hm⟩:=h';exact ih m' hlt hm
   ·exact ⟨m,h,fun m' hm=>Br fun hlt=>h' ⟨m',hlt,hm⟩⟩
 let μ:Act->World->Nat:=fun a w=>if h:∃ m,R m a w then Classical.choose (least a w h) else 0
 have hμ:∀ a w,(∃ m,R m a w)->R (μ a w) a w:=fun a w h=>by simp only [μ,BL h];exact (ON (least a w h)).1
 have hle:∀ m a w,R m a w->μ a w<=m:=fun m a w h=>by
  have h':∃ m,R m a w:=⟨m,h⟩;simp only [μ,BL h'];exact (ON (least a w h')).2 m h
 refine wpIn_loop (fun a w=>∃ m,R m a w) μ ⟨m0,E0,I,H,loc0,h0,ha.sub hE,hl ▸ hw⟩ fun a w h=>?_;obtain ⟨E1,I1,H1,loc1,hJ,hf,hs⟩:=hμ a w h;refine Aj (round _ _ _ _ _ hJ a w hf hs) fun e a' w' hq=>?_
 cases e with
 | normal=>
  obtain ⟨E2,I2,H2,loc2,⟨m',hlt,hJ'⟩,hf',hs'⟩:=hq;exact ⟨⟨m',E2,I2,H2,loc2,hJ',hf',hs'⟩,AK (hle m' a' w' ⟨E2,I2,H2,loc2,hJ',hf',hs'⟩) hlt⟩
 | _=>exact hq
theorem zid {P:Program}{r:Option Nat}{N:Nat}{D:List Deferred}{g:World}{H:Qt}{dst:Option Tmp}{d l:Nat}{ty:TypeId}{pos:String}{af:Array Edge}{gd:Option (Nat×Bool)}{y:Operand}{os:List Operand}{vs:List Value}{tys:Array TypeId}{Post:Bool->Qt->Qt->Prop}
  (hy:Qv S E y=some (.func (.yield l) #[] #[]))(hl:os.map (Qv S E)=vs.map some)(hG:Zv ops S E ⟨dst,.call ⟨.value y,os.toArray,tys⟩,ty,pos,af,gd⟩)(hd:dst=some d)(hN:Nat.blt d N=true)(hf:Yi S E d=true)
  (hY:ZS S=true->WQ P g l vs I H Post)
  (h:∀ b I' H',HLe I I'->(ZS S=true->Post b I' H')->(ZS S=false->I'=I/\H'=H)->XO ⟨P,r,N,D,g,H'⟩ Q ops rest (Uk S E d (.bool b)) (zhj S E d (.bool b)) I' loc):
  XO ⟨P,r,N,D,g,H⟩ Q ops (⟨dst,.call ⟨.value y,os.toArray,tys⟩,ty,pos,af,gd⟩::rest) S E I loc:=by
 intro a w ha hg hw;simp only [wpListIn];rw [hG.wanted ha hg]
 cases hcj:ZS S with
 | true=>
  simp only [Oj,Oper.wpIn];refine ⟨fun _ _=>trivial,?_⟩;obtain ⟨fn,tmps,asg,bd,hy',hR⟩:=hY hcj loc w hw
  have hrun:(execOp a.eval ⟨dst,.call ⟨.value y,os.toArray,tys⟩,ty,pos,af,gd⟩).run P w= .ok (.round l fn tmps asg bd) w:=by
   simp only [execOp,resolve,Qi ha hg hcj hy,j6,Jd ha hg hcj hl,Deferred.ofValue,jg,jl,Result.andThen,invoke];simpa using hy'
  rw [O8 _ _ _ kC,hrun,Oper.uponIn_round];refine ⟨by simp [FR],RoundIn.mono (F:=FR r) (show RoundIn (FR r) 0 P l fn tmps asg bd w _ from hR) ?_⟩;rintro e w' ⟨b,I',H',rfl,hI,hs,hp⟩;have hpp:=YA ha hg hN hf (.bool b);rw [hcj] at hpp;rw [hd];exact h b I' H' hI (fun _=>hp) (fun e=>by rw [hcj] at e;cases e) _ _ hpp.1 hpp.2 hs
 | false=>
  simp only [jB,j2];refine ⟨fun _ _=>trivial,?_⟩;have hpp:=YA ha hg hN hf (.bool false);rw [hcj] at hpp;rw [hd];exact h false I H (zGN I) (fun e=>by rw [hcj] at e;cases e) (fun _=>⟨U,U⟩) _ _ hpp.1 hpp.2 hw
end

theorem zsJ (hf:P.funcs[f]? =some fn)(hb:fn.body=some c)(hN:fn.ntmps=N)
  (hlen:Nat.ble args.length N=true)(hw:St g I H loc w)(h:X ⟨P,none,N,[],g,H⟩ (bodyPostM Fence.wide 0 P fn R) c (zr4 0 args) I loc):Calls P f args.toArray w R:=by
 refine callsIn_wide.1 (callsIn_of_wp_marks (F:=Fence.wide) (n:=0) hf hb trivial ?_);rw [hN];exact h _ w (zfx args N (Aw hlen)) hw
section
variable {P:Program} {fn:Func} {R:Ending->World->Prop} {N:Nat} {g:World} {I H:Qt} {loc loc':Loc} {E:Env} {r:Option Nat}
theorem zxy {bd:Nat}{v:Value}(hv:∀ a,Kf N [{target:=.collected bd,args:= #[]}] E a->∀ w,St g I H loc' w->(results fn a.tmps).run P w= .ok v w)
  (ht:Upd loc bd (.deferred (some [])) (.deferred none) loc')(h:∀ w,St g I H loc' w->R (.returned v) w):At ⟨P,r,N,[{target:=.collected bd,args:= #[]}],g,H⟩ (bodyPostM Fence.wide 0 P fn R) .ret E I loc:=fun a w ha hw=>by
 have hbd:=hw.own _ _ ht.mem;have hs:=hw.putObj ht;show LeavesInM _ _ _ _ _ _ _ _ _;rw [ha.defers];refine ⟨by simp,.inl ⟨_,_,U,run_takeDeferred hbd,?_⟩⟩;exact ⟨v,hv a ha _ hs,h _ hs⟩
theorem zpx (hr:fn.results= #[])(a:Act)(w:World):(results fn a.tmps).run P w= .ok (.tuple #[]) w:=by simp [results,hr]
theorem zFN {D:List Deferred}{t:Nat}{v:Value}(hr:fn.results= #[.tmp t])(hv:Jl E t=some v)(a:Act)(ha:Kf N D E a)(w:World):(results fn a.tmps).run P w= .ok v w:=by have e1:=ha.env _ _ hv;rw [Ok] at e1;simp only [results,hr];simp [e1]
theorem ztG {D:List Deferred}{t u:Nat}{v v':Value}(hr:fn.results= #[.tmp t,.tmp u])(hv:Jl E t=some v)(hv':Jl E u=some v')(a:Act)(ha:Kf N D E a)(w:World):(results fn a.tmps).run P w= .ok (.tuple #[v,v']) w:=by have e1:=ha.env _ _ hv;have e2:=ha.env _ _ hv';rw [Ok] at e1 e2;simp only [results,hr];simp [e1,e2]
end
section
variable {g:World} {I I' H:Qt} {loc loc' L R:Loc} {w w':World}
theorem St.drop (h:St g I H loc w):St g I H [] w:=
 ⟨h.os,h.tape,h.out,h.size,h.imm,h.frm,(fun _ _ hm=>by cases hm),h.sepIH,(fun _ _ hm=>by cases hm),by simp⟩
theorem zr {P:Program}{fn:Func}{N t:Nat}{g:World}{I H:Qt}{loc:Loc}{E:Env}{r:Option Nat}{v v0:Value}(hr:fn.results= #[.tmp t])(hv:Jl E t=some v)(h:Ending.returned v=Ending.returned v0):At ⟨P,r,N,[],g,H⟩ (bodyPost P fn fun e w'=>e= .returned v0/\St g I H [] w') .ret E I loc:=QR hr hv fun _w hw=>⟨h,hw.drop⟩
theorem zp {P:Program}{fn:Func}{N t:Nat}{g:World}{I0 I H:Qt}{loc:Loc}{E:Env}{r:Option Nat}{v v0:Value}(hI:HLe I0 I)(hr:fn.results= #[.tmp t])(hv:Jl E t=some v)(h:Ending.returned v=Ending.returned v0):At ⟨P,r,N,[],g,H⟩ (bodyPost P fn fun e w'=>e= .returned v0/\St g I0 H [] w') .ret E I loc:=QR hr hv fun _w hw=>⟨h,(hw.mono hI).drop⟩
theorem Yu.mem' (hs:Yu loc L R):∀ p∈L++R,p∈loc:=by
 induction hs with
 | nil=>exact fun p h=>by simpa using h
 | @cons l l1 l2 L b o ht hs ih=>
  intro p hp;rw [OE] at hp;rcases jp.1 hp with e | hp
  ·subst e;exact ht.mem
  ·obtain ⟨b,o⟩:=p;exact ht.sub _ _ (ih _ hp)
theorem St.back (h:St g I H loc w)(hs:Yu loc L R)(h':St g I' (Vz H R) L w'):St g I' H loc w':=
 (h.join hs h').perm (fun p=>⟨fun hp=>hs.mem p hp,fun hp=>hs.mem' p hp⟩) h.nodup
theorem St.dropTo (h:St g I H loc w)(hs:KE loc' loc):St g I H loc' w:=h.subL hs
end
def zke (P:Program)(f:FuncId)(args:List Value)(I:Qt)(L:Loc)(v:Value):Prop:=
 ∀ g H w,St g I H L w->Calls P f args.toArray w fun e w'=>e= .returned v/\St g I H L w'
section
variable {C:Cx} {Q:Exit->Act->World->Prop} {E E':Env} {I I':Qt} {loc loc' L R:Loc} {ops:Array Oper} {rest:List Oper} {S:GS}
variable {dst:Option Tmp} {d:Nat} {ty:TypeId} {pos:String} {af:Array Edge} {gd:Option (Nat×Bool)} {x y z:Operand}
theorem zhw {f:FuncId}{cap:List Value}{l:List Operand}{vs:List Value}{tys:Array TypeId}{cal:Operand}{v:Value}
  (he:Qv S E cal=some (.func (.func f) #[] cap.toArray))(hl:l.map (Qv S E)=vs.map some)(hF:Fun C.P f)(hsp:Yu loc L R)(hc:ZS S=true->zke C.P f (vs++cap) I L v)
  (hG:Zv ops S E ⟨some d,.call ⟨.value cal,l.toArray,tys⟩,ty,pos,af,gd⟩)(hN:Nat.blt d C.N=true)(hf:Yi S E d=true)
  (h:XO C Q ops rest (Uk S E d v) (zhj S E d v) I loc):
  XO C Q ops (⟨some d,.call ⟨.value cal,l.toArray,tys⟩,ty,pos,af,gd⟩::rest) S E I loc:=by
 intro a w ha hg hw;simp only [wpListIn];rw [hG.wanted ha hg];have hp:=YA ha hg hN hf v
 cases hcj:ZS S with
 | true=>
  rw [hcj] at hp;simp only [Oj,Oper.wpIn];refine ⟨fun _ _=>trivial,?_⟩;rw [O8 _ _ _ kC,zej (Qi ha hg hcj he) (Jd ha hg hcj hl) hF,BX];refine ⟨by simp [FR],U6.2 ((hc hcj _ _ _ (hw.split hsp)).mono ?_)⟩;rintro e w' ⟨rfl,hs⟩;exact h _ _ hp.1 hp.2 (hw.back hsp hs)
 | false=>
  rw [hcj] at hp;simp only [jB,j2];exact ⟨fun _ _=>trivial,h _ _ hp.1 hp.2 hw⟩
theorem Xh (loc':Loc){c:Code}(hs:KE loc' loc)(h:X C Q c E I loc'):X C Q c E I loc:=fun a w ha hw=>h a w ha (hw.subL hs)
theorem Y8 {M:Env->Qt->Loc->Prop}(E':Env)(loc':Loc)(hM:M E' I loc')(hE:Sub E' E)(hs:KE loc' loc):At C (Exit.then (Met C M) Q) .normal E I loc:=fun _ _ ha hw=>⟨E',I,loc',hM,ha.sub hE,hw.subL hs⟩
end
section
variable {C:Cx} {Q:Exit->Act->World->Prop} {E E' G:Env} {I I':Qt} {loc loc' L R:Loc} {ops:Array Oper} {rest:List Oper} {S:GS} {b:Bool}
variable {dst:Option Tmp} {d:Nat} {ty:TypeId} {pos:String} {af:Array Edge} {gd:Option (Nat×Bool)} {x y z:Operand}
theorem zaS {o:Oper}{v:Value}(hv:QV C [] E I loc o v)(hG:o.guard=none)(hd:o.dst=some d)(hN:Nat.blt d C.N=true)(h:XO C Q ops rest [] ((d,v)::E) I loc):XO C Q ops (o::rest) [] E I loc:=zsk hv (.none hG) hd hN U h
theorem zL {t b off:Nat}{v:Value}(hT:ScT C.P t)(h:XO C Q ops rest [] ((d,v)::E) I loc)(h0:Qv [] E x=some (.pointer (some ⟨b,off,none⟩)):=by exact U)(hv:ZS ([]:GS)=true->QB I loc b off v:=by (intro hg;repeat (first | exact zGI U | apply zGH | apply zGJ)))(hN:Nat.blt d C.N=true:=by exact U):XO C Q ops (⟨some d,.load t x,ty,pos,af,none⟩::rest) [] E I loc:=zaS (Qd h0 hT hv) U U hN h
theorem zM {v:Value}(h:XO C Q ops rest [] ((d,v)::E) I loc)(h0:Qv [] E x=some v:=by exact U)(hN:Nat.blt d C.N=true:=by exact U):XO C Q ops (⟨some d,.move x,ty,pos,af,none⟩::rest) [] E I loc:=zaS (Qj h0) U U hN h
theorem zA {v:Value}(h:XO C Q ops rest [] ((d,v)::E) I loc)(h0:Qv [] E x=some v:=by exact U)(hN:Nat.blt d C.N=true:=by exact U):XO C Q ops (⟨some d,.assign x,ty,pos,af,none⟩::rest) [] E I loc:=zaS (QU h0) U U hN h
theorem zC {op:BinOp}{t t':TypeId}{k:IntKind}{m n:Int}{c:Bool}(h:XO C Q ops rest [] ((d,.bool c)::E) I loc)(hx:Qv [] E x=some (.int k m):=by exact U)(hy:Qv [] E y=some (.int k n):=by exact U)(hc:zDQ op m n=some c:=by exact U)(hN:Nat.blt d C.N=true:=by exact U):XO C Q ops (⟨some d,.binOp op t x y t',ty,pos,af,none⟩::rest) [] E I loc:=zaS (QI hx hy hc) U U hN h
theorem zB {op:BinOp}{t t':TypeId}{m n c:Int}(h:XO C Q ops rest [] ((d,.int .i64 c)::E) I loc)(hx:Qv [] E x=some (.int .i64 m):=by exact U)(hy:Qv [] E y=some (.int .i64 n):=by exact U)(hc:arR op m n=some c:=by exact U)(hN:Nat.blt d C.N=true:=by exact U)(hB:ZS ([]:GS)=true-> -9223372036854775808<=c/\c<=9223372036854775807:=by (intro hg;first | omega | (simp [ZS] at hg;omega))):XO C Q ops (⟨some d,.binOp op t x y t',ty,pos,af,none⟩::rest) [] E I loc:=zaS (ZL hx hy hc hB) U U hN h
theorem zV {op:Op}{ty:TypeId}{pos:String}{af:Array Edge}{v:Value}(hv:QV C [] E I loc ⟨some d,op,ty,pos,af,none⟩ v)(h:XO C Q ops rest [] ((d,v)::E) I loc)(hN:Nat.blt d C.N=true:=by exact U):XO C Q ops (⟨some d,op,ty,pos,af,none⟩::rest) [] E I loc:=zaS hv U U hN h
theorem zF {s f fo b off:Nat}(hF:QP C.P s f fo)(h:XO C Q ops rest [] ((d,.pointer (some ⟨b,off+fo,none⟩))::E) I loc)(hx:Qv [] E x=some (.pointer (some ⟨b,off,none⟩)):=by exact U)(hN:Nat.blt d C.N=true:=by exact U):XO C Q ops (⟨some d,.fieldAddr s x f,ty,pos,af,none⟩::rest) [] E I loc:=zaS (Qe hx hF) U U hN h
theorem zO {t:Bool}(h:XO C Q ops rest [] ((d,.bool (!t))::E) I loc)(hx:Qv [] E x=some (.bool t):=by exact U)(hN:Nat.blt d C.N=true:=by exact U):XO C Q ops (⟨some d,.unOp .not ty x,ty,pos,af,none⟩::rest) [] E I loc:=zaS (Vv hx) U U hN h
theorem zE {i:Nat}{vs:Array Value}{v:Value}(h:XO C Q ops rest [] ((d,v)::E) I loc)(hx:Qv [] E x=some (.tuple vs):=by exact U)(hi:vs[i]? =some v:=by exact U)(hN:Nat.blt d C.N=true:=by exact U):XO C Q ops (⟨some d,.extract x i,ty,pos,af,none⟩::rest) [] E I loc:=zaS (Z6 hx hi) U U hN h
theorem zQ {t n c e size:Nat}{av:Option Addr}(hT:SlT C.P t e size)(h:XO C Q ops rest [] ((d,.int .i64 n)::E) I loc)(hx:Qv [] E x=some (.slice av n c):=by exact U)(hN:Nat.blt d C.N=true:=by exact U):XO C Q ops (⟨some d,.call ⟨.builtin .len, #[x], #[t]⟩,ty,pos,af,none⟩::rest) [] E I loc:=zaS (ZX hx hT) U U hN h
theorem zI {c:Operand}{x y:Code}{b:Bool}(ht:b=true->X C Q x E I loc)(hf:b=false->X C Q y E I loc)(hc:Qv [] E c=some (.bool b):=by exact U):X C Q (.cond c x y) E I loc:=zAG hc ht hf
theorem zCM {o:Oper}{v:Value}(hv:QV C ((b,G)::S) E I loc o v)(hG:Zv ops ((b,G)::S) E o)(hd:o.dst=some d)(hN:Nat.blt d C.N=true)(hf:Yi ((b,G)::S) E d=true)(h:XO C Q ops rest ((b,(d,v)::G)::S) E I loc):XO C Q ops (o::rest) ((b,G)::S) E I loc:=zsk hv hG hd hN hf h
theorem zJ {op:Op}{ty:TypeId}{pos:String}{af:Array Edge}{gd:Option (Nat×Bool)}{v:Value}(hv:QV C ((b,G)::S) E I loc ⟨some d,op,ty,pos,af,gd⟩ v)(h:XO C Q ops rest ((b,(d,v)::G)::S) E I loc)(hG:Zv ops ((b,G)::S) E ⟨some d,op,ty,pos,af,gd⟩:=by exact .some U U U U gbf)(hN:Nat.blt d C.N=true:=by exact U)(hf:Yi ((b,G)::S) E d=true:=by exact U):XO C Q ops (⟨some d,op,ty,pos,af,gd⟩::rest) ((b,G)::S) E I loc:=zCM hv hG U hN hf h
theorem zK {op:Op}{ty:TypeId}{pos:String}{af:Array Edge}{gd:Option (Nat×Bool)}{v:Value}(hv:QV C ((b,G)::S) E I loc ⟨some d,op,ty,pos,af,gd⟩ v)(h:XO C Q ops rest ((b,(d,v)::G)::S) E I loc)(hG:Zv ops ((b,G)::S) E ⟨some d,op,ty,pos,af,gd⟩:=by exact .some U U U U gbt)(hN:Nat.blt d C.N=true:=by exact U)(hf:Yi ((b,G)::S) E d=true:=by exact U):XO C Q ops (⟨some d,op,ty,pos,af,gd⟩::rest) ((b,G)::S) E I loc:=zCM hv hG U hN hf h
theorem zD6 {o:Oper}{v:Value}(hv:QV C [] E I loc o v)(hG:o.guard=none)(hd:o.dst=some d)(hN:Nat.blt d C.N=true)(h:XQ C Q ops rest [] ((d,v)::E) I loc):XQ C Q ops (o::rest) [] E I loc:=zs5 hv (.none hG) hd hN U h
theorem zq {op:Op}{ty:TypeId}{pos:String}{af:Array Edge}{v:Value}(hv:QV C [] E I loc ⟨some d,op,ty,pos,af,none⟩ v)(h:XQ C Q ops rest [] ((d,v)::E) I loc)(hN:Nat.blt d C.N=true:=by exact U):XQ C Q ops (⟨some d,op,ty,pos,af,none⟩::rest) [] E I loc:=zD6 hv U U hN h
theorem zzL {o:Oper}{v:Value}(hv:QV C ((b,G)::S) E I loc o v)(hG:Zv ops ((b,G)::S) E o)(hd:o.dst=some d)(hN:Nat.blt d C.N=true)(hf:Yi ((b,G)::S) E d=true)(h:XQ C Q ops rest ((b,(d,v)::G)::S) E I loc):XQ C Q ops (o::rest) ((b,G)::S) E I loc:=zs5 hv hG hd hN hf h
theorem zj {op:Op}{ty:TypeId}{pos:String}{af:Array Edge}{gd:Option (Nat×Bool)}{v:Value}(hv:QV C ((b,G)::S) E I loc ⟨some d,op,ty,pos,af,gd⟩ v)(h:XQ C Q ops rest ((b,(d,v)::G)::S) E I loc)(hG:Zv ops ((b,G)::S) E ⟨some d,op,ty,pos,af,gd⟩:=by exact .some U U U U gbf)(hN:Nat.blt d C.N=true:=by exact U)(hf:Yi ((b,G)::S) E d=true:=by exact U):XQ C Q ops (⟨some d,op,ty,pos,af,gd⟩::rest) ((b,G)::S) E I loc:=zzL hv hG U hN hf h
theorem zk {op:Op}{ty:TypeId}{pos:String}{af:Array Edge}{gd:Option (Nat×Bool)}{v:Value}(hv:QV C ((b,G)::S) E I loc ⟨some d,op,ty,pos,af,gd⟩ v)(h:XQ C Q ops rest ((b,(d,v)::G)::S) E I loc)(hG:Zv ops ((b,G)::S) E ⟨some d,op,ty,pos,af,gd⟩:=by exact .some U U U U gbt)(hN:Nat.blt d C.N=true:=by exact U)(hf:Yi ((b,G)::S) E d=true:=by exact U):XQ C Q ops (⟨some d,op,ty,pos,af,gd⟩::rest) ((b,G)::S) E I loc:=zzL hv hG U hN hf h
section
variable {tc ta:Nat} {t u b':Bool} {G':Env}
theorem QE (hb:b'=t)(hc:Qv [] E (.tmp tc)=some (.bool t))(ha':Jl G' ta=some (.bool u))(hG:gd=none)(hN:Nat.blt d C.N=true)(h:XO C Q ops rest [] ((d,.bool (t&&u))::E) I loc):
  XO C Q ops (⟨some d,.pick (.tmp tc) (.tmp ta) (.const (.bool false)),ty,pos,af,gd⟩::rest) ((b',G')::[]) E I loc:=zsn hb hc ha' (.none hG) hN U h
theorem zww (hb:b'=t)(hc:Qv ((b,G)::S) E (.tmp tc)=some (.bool t))(ha':Jl G' ta=some (.bool u))(hG:Zv ops ((b,G)::S) E ⟨some d,.pick (.tmp tc) (.tmp ta) (.const (.bool false)),ty,pos,af,gd⟩)(hN:Nat.blt d C.N=true)(hf:Yi ((b,G)::S) E d=true)
  (h:XO C Q ops rest ((b,(d,.bool (t&&u))::G)::S) E I loc):
  XO C Q ops (⟨some d,.pick (.tmp tc) (.tmp ta) (.const (.bool false)),ty,pos,af,gd⟩::rest) ((b',G')::(b,G)::S) E I loc:=zsn hb hc ha' hG hN hf h
theorem ZO (hb:b'= !t)(hc:Qv [] E (.tmp tc)=some (.bool t))(ha':Jl G' ta=some (.bool u))(hG:gd=none)(hN:Nat.blt d C.N=true)(h:XO C Q ops rest [] ((d,.bool (t||u))::E) I loc):
  XO C Q ops (⟨some d,.pick (.tmp tc) (.const (.bool true)) (.tmp ta),ty,pos,af,gd⟩::rest) ((b',G')::[]) E I loc:=zBU hb hc ha' (.none hG) hN U h
theorem zsw (hb:b'= !t)(hc:Qv ((b,G)::S) E (.tmp tc)=some (.bool t))(ha':Jl G' ta=some (.bool u))(hG:Zv ops ((b,G)::S) E ⟨some d,.pick (.tmp tc) (.const (.bool true)) (.tmp ta),ty,pos,af,gd⟩)(hN:Nat.blt d C.N=true)(hf:Yi ((b,G)::S) E d=true)
  (h:XO C Q ops rest ((b,(d,.bool (t||u))::G)::S) E I loc):
  XO C Q ops (⟨some d,.pick (.tmp tc) (.const (.bool true)) (.tmp ta),ty,pos,af,gd⟩::rest) ((b',G')::(b,G)::S) E I loc:=zBU hb hc ha' hG hN hf h
theorem zyl (hb:b'=t)(hc:Qv [] E (.tmp tc)=some (.bool t))(ha':Jl G' ta=some (.bool u))(hG:gd=none)(hN:Nat.blt d C.N=true)(h:XQ C Q ops rest [] ((d,.bool (t&&u))::E) I loc):
  XQ C Q ops (⟨some d,.pick (.tmp tc) (.tmp ta) (.const (.bool false)),ty,pos,af,gd⟩::rest) ((b',G')::[]) E I loc:=zti hb hc ha' (.none hG) hN U h
theorem zgy (hb:b'=t)(hc:Qv ((b,G)::S) E (.tmp tc)=some (.bool t))(ha':Jl G' ta=some (.bool u))(hG:Zv ops ((b,G)::S) E ⟨some d,.pick (.tmp tc) (.tmp ta) (.const (.bool false)),ty,pos,af,gd⟩)(hN:Nat.blt d C.N=true)(hf:Yi ((b,G)::S) E d=true)
  (h:XQ C Q ops rest ((b,(d,.bool (t&&u))::G)::S) E I loc):
  XQ C Q ops (⟨some d,.pick (.tmp tc) (.tmp ta) (.const (.bool false)),ty,pos,af,gd⟩::rest) ((b',G')::(b,G)::S) E I loc:=zti hb hc ha' hG hN hf h
theorem W5 (hb:b'= !t)(hc:Qv [] E (.tmp tc)=some (.bool t))(ha':Jl G' ta=some (.bool u))(hG:gd=none)(hN:Nat.blt d C.N=true)(h:XQ C Q ops rest [] ((d,.bool (t||u))::E) I loc):
  XQ C Q ops (⟨some d,.pick (.tmp tc) (.const (.bool true)) (.tmp ta),ty,pos,af,gd⟩::rest) ((b',G')::[]) E I loc:=zEE hb hc ha' (.none hG) hN U h
end
section
variable {f:FuncId} {cap:List Value} {l:List Operand} {vs:List Value} {tys:Array TypeId} {cal:Operand} {v:Value}
theorem Yo (he:Qv [] E cal=some (.func (.func f) #[] cap.toArray))(hl:l.map (Qv [] E)=vs.map some)(hF:Fun C.P f)(hc:Zt C.P f (vs++cap) I v)(hG:gd=none)(hN:Nat.blt d C.N=true)
  (h:XO C Q ops rest [] ((d,v)::E) I loc):XO C Q ops (⟨some d,.call ⟨.value cal,l.toArray,tys⟩,ty,pos,af,gd⟩::rest) [] E I loc:=zia he hl hF (fun _=>hc) (.none hG) hN U h
theorem qcV {f:FuncId}{l:List Operand}{vs:List Value}{tys:Array TypeId}{cal:Operand}{v:Value}(hl:l.map (Qv [] E)=vs.map some)(hF:Fun C.P f)(hc:Zt C.P f (vs++[]) I v)(h:XO C Q ops rest [] ((d,v)::E) I loc)(he:Qv [] E cal=some (.func (.func f) #[] [].toArray):=by exact U)(hN:Nat.blt d C.N=true:=by exact U):XO C Q ops (⟨some d,.call ⟨.value cal,l.toArray,tys⟩,ty,pos,af,none⟩::rest) [] E I loc:=Yo he hl hF hc U hN h
theorem UH (he:Qv ((b,G)::S) E cal=some (.func (.func f) #[] cap.toArray))(hl:l.map (Qv ((b,G)::S) E)=vs.map some)(hF:Fun C.P f)(hc:ZS ((b,G)::S)=true->Zt C.P f (vs++cap) I v)
  (hG:Zv ops ((b,G)::S) E ⟨some d,.call ⟨.value cal,l.toArray,tys⟩,ty,pos,af,gd⟩)(hN:Nat.blt d C.N=true)(hf:Yi ((b,G)::S) E d=true)
  (h:XO C Q ops rest ((b,(d,v)::G)::S) E I loc):XO C Q ops (⟨some d,.call ⟨.value cal,l.toArray,tys⟩,ty,pos,af,gd⟩::rest) ((b,G)::S) E I loc:=zia he hl hF hc hG hN hf h
theorem qf {f:FuncId}{l:List Operand}{vs:List Value}{tys:Array TypeId}{cal:Operand}{v:Value}(hl:l.map (Qv ((b,G)::S) E)=vs.map some)(hF:Fun C.P f)(hc:ZS ((b,G)::S)=true->Zt C.P f (vs++[]) I v)(h:XO C Q ops rest ((b,(d,v)::G)::S) E I loc)(he:Qv ((b,G)::S) E cal=some (.func (.func f) #[] [].toArray):=by exact U)(hG:Zv ops ((b,G)::S) E ⟨some d,.call ⟨.value cal,l.toArray,tys⟩,ty,pos,af,gd⟩:=by exact .some U U U U gbf)(hN:Nat.blt d C.N=true:=by exact U)(hf:Yi ((b,G)::S) E d=true:=by exact U):XO C Q ops (⟨some d,.call ⟨.value cal,l.toArray,tys⟩,ty,pos,af,gd⟩::rest) ((b,G)::S) E I loc:=UH he hl hF hc hG hN hf h
theorem qg {f:FuncId}{l:List Operand}{vs:List Value}{tys:Array TypeId}{cal:Operand}{v:Value}(hl:l.map (Qv ((b,G)::S) E)=vs.map some)(hF:Fun C.P f)(hc:ZS ((b,G)::S)=true->Zt C.P f (vs++[]) I v)(h:XO C Q ops rest ((b,(d,v)::G)::S) E I loc)(he:Qv ((b,G)::S) E cal=some (.func (.func f) #[] [].toArray):=by exact U)(hG:Zv ops ((b,G)::S) E ⟨some d,.call ⟨.value cal,l.toArray,tys⟩,ty,pos,af,gd⟩:=by exact .some U U U U gbt)(hN:Nat.blt d C.N=true:=by exact U)(hf:Yi ((b,G)::S) E d=true:=by exact U):XO C Q ops (⟨some d,.call ⟨.value cal,l.toArray,tys⟩,ty,pos,af,gd⟩::rest) ((b,G)::S) E I loc:=UH he hl hF hc hG hN hf h
theorem Jq (he:Qv [] E cal=some (.func (.func f) #[] cap.toArray))(hl:l.map (Qv [] E)=vs.map some)(hF:Fun C.P f)(hc:Zt C.P f (vs++cap) I v)(hG:gd=none)(hN:Nat.blt d C.N=true)
  (h:XQ C Q ops rest [] ((d,v)::E) I loc):XQ C Q ops (⟨some d,.call ⟨.value cal,l.toArray,tys⟩,ty,pos,af,gd⟩::rest) [] E I loc:=zjh he hl hF (fun _=>hc) (.none hG) hN U h
theorem UT (he:Qv ((b,G)::S) E cal=some (.func (.func f) #[] cap.toArray))(hl:l.map (Qv ((b,G)::S) E)=vs.map some)(hF:Fun C.P f)(hc:ZS ((b,G)::S)=true->Zt C.P f (vs++cap) I v)
  (hG:Zv ops ((b,G)::S) E ⟨some d,.call ⟨.value cal,l.toArray,tys⟩,ty,pos,af,gd⟩)(hN:Nat.blt d C.N=true)(hf:Yi ((b,G)::S) E d=true)
  (h:XQ C Q ops rest ((b,(d,v)::G)::S) E I loc):XQ C Q ops (⟨some d,.call ⟨.value cal,l.toArray,tys⟩,ty,pos,af,gd⟩::rest) ((b,G)::S) E I loc:=zjh he hl hF hc hG hN hf h
theorem KL (he:Qv [] E cal=some (.func (.func f) #[] cap.toArray))(hl:l.map (Qv [] E)=vs.map some)(hF:Fun C.P f)(hsp:Yu loc L R)(hc:zke C.P f (vs++cap) I L v)(hG:gd=none)(hN:Nat.blt d C.N=true)
  (h:XO C Q ops rest [] ((d,v)::E) I loc):XO C Q ops (⟨some d,.call ⟨.value cal,l.toArray,tys⟩,ty,pos,af,gd⟩::rest) [] E I loc:=zhw he hl hF hsp (fun _=>hc) (.none hG) hN U h
theorem zmP (he:Qv ((b,G)::S) E cal=some (.func (.func f) #[] cap.toArray))(hl:l.map (Qv ((b,G)::S) E)=vs.map some)(hF:Fun C.P f)(hsp:Yu loc L R)(hc:ZS ((b,G)::S)=true->zke C.P f (vs++cap) I L v)
  (hG:Zv ops ((b,G)::S) E ⟨some d,.call ⟨.value cal,l.toArray,tys⟩,ty,pos,af,gd⟩)(hN:Nat.blt d C.N=true)(hf:Yi ((b,G)::S) E d=true)
  (h:XO C Q ops rest ((b,(d,v)::G)::S) E I loc):XO C Q ops (⟨some d,.call ⟨.value cal,l.toArray,tys⟩,ty,pos,af,gd⟩::rest) ((b,G)::S) E I loc:=zhw he hl hF hsp hc hG hN hf h
end
end
section
variable {Q:Exit->Act->World->Prop} {E G:Env} {I I':Qt} {loc loc':Loc} {ops:Array Oper} {rest:List Oper} {S:GS} {b:Bool}
theorem ze0 {P:Program}{r:Option Nat}{N:Nat}{D:List Deferred}{g:World}{H:Qt}{d l:Nat}{ty:TypeId}{pos:String}{af:Array Edge}{gd:Option (Nat×Bool)}{y:Operand}{os:List Operand}{vs:List Value}{tys:Array TypeId}{Post:Bool->Qt->Qt->Prop}
  (hy:Qv ((b,G)::S) E y=some (.func (.yield l) #[] #[]))(hl:os.map (Qv ((b,G)::S) E)=vs.map some)(hG:Zv ops ((b,G)::S) E ⟨some d,.call ⟨.value y,os.toArray,tys⟩,ty,pos,af,gd⟩)(hN:Nat.blt d N=true)(hf:Yi ((b,G)::S) E d=true)
  (hY:ZS ((b,G)::S)=true->WQ P g l vs I H Post)
  (h:∀ t I' H',HLe I I'->(ZS ((b,G)::S)=true->Post t I' H')->(ZS ((b,G)::S)=false->I'=I/\H'=H)->XO ⟨P,r,N,D,g,H'⟩ Q ops rest ((b,(d,.bool t)::G)::S) E I' loc):
  XO ⟨P,r,N,D,g,H⟩ Q ops (⟨some d,.call ⟨.value y,os.toArray,tys⟩,ty,pos,af,gd⟩::rest) ((b,G)::S) E I loc:=zid hy hl hG U hN hf hY h
theorem JA {P:Program}{r:Option Nat}{N:Nat}{D:List Deferred}{g:World}{H:Qt}{d l:Nat}{ty:TypeId}{pos:String}{af:Array Edge}{gd:Option (Nat×Bool)}{y:Operand}{os:List Operand}{vs:List Value}{tys:Array TypeId}{Post:Bool->Qt->Qt->Prop}
  (hy:Qv [] E y=some (.func (.yield l) #[] #[]))(hl:os.map (Qv [] E)=vs.map some)(hG:gd=none)(hN:Nat.blt d N=true)
  (hY:WQ P g l vs I H Post)
  (h:∀ t I' H',HLe I I'->Post t I' H'->XO ⟨P,r,N,D,g,H'⟩ Q ops rest [] ((d,.bool t)::E) I' loc):
  XO ⟨P,r,N,D,g,H⟩ Q ops (⟨some d,.call ⟨.value y,os.toArray,tys⟩,ty,pos,af,gd⟩::rest) [] E I loc:=zid hy hl (.none hG) U hN U (fun _=>hY) (fun t I' H' h1 h2 _=>h t I' H' h1 (h2 U))
end
section
variable {I:Qt} {b off:Nat} {v:Value} {vs:List Value} {cs:Array Value} {t:TypeId} {fz:Nat×Nat} {l l':Loc} {o o':Obj}
variable {p0 p1 p2 p3 p4 p5 p6 p7 p8 p9 p10 p11 p12 p13 p14 p15:Nat×Obj}
theorem QB.h0 (h:zj9 cs.toList off=some v):QB I ((b,.cells cs t fz)::l) b off v:=.here h
theorem Cells.g0:Cells I ((b,.cells vs.toArray t fz)::l) b 0 vs:=.here
theorem Upd.u0:Upd ((b,o)::l) b o o' ((b,o')::l):=.here
theorem Mem.m0:Mem I ((b,o)::l) b o:=.inr kK
theorem QB.h1 (h:zj9 cs.toList off=some v):QB I (p0::(b,.cells cs t fz)::l) b off v:=.there (.here h)
theorem Cells.g1:Cells I (p0::(b,.cells vs.toArray t fz)::l) b 0 vs:=.there (.here)
theorem Upd.u1:Upd (p0::(b,o)::l) b o o' (p0::(b,o')::l):=.there (.here)
theorem Mem.m1:Mem I (p0::(b,o)::l) b o:=.inr kK
theorem QB.h2 (h:zj9 cs.toList off=some v):QB I (p0::p1::(b,.cells cs t fz)::l) b off v:=.there (.there (.here h))
theorem Cells.g2:Cells I (p0::p1::(b,.cells vs.toArray t fz)::l) b 0 vs:=.there (.there (.here))
theorem Upd.u2:Upd (p0::p1::(b,o)::l) b o o' (p0::p1::(b,o')::l):=.there (.there (.here))
theorem QB.h3 (h:zj9 cs.toList off=some v):QB I (p0::p1::p2::(b,.cells cs t fz)::l) b off v:=.there (.there (.there (.here h)))
theorem Upd.u3:Upd (p0::p1::p2::(b,o)::l) b o o' (p0::p1::p2::(b,o')::l):=.there (.there (.there (.here)))
theorem Mem.m3:Mem I (p0::p1::p2::(b,o)::l) b o:=.inr kK
theorem QB.h4 (h:zj9 cs.toList off=some v):QB I (p0::p1::p2::p3::(b,.cells cs t fz)::l) b off v:=.there (.there (.there (.there (.here h))))
theorem Cells.g4:Cells I (p0::p1::p2::p3::(b,.cells vs.toArray t fz)::l) b 0 vs:=.there (.there (.there (.there (.here))))
end
section
variable {C:Cx} {E:Env} {I:Qt} {loc:Loc} {S:GS} {dst:Option Tmp} {ty:TypeId} {pos:String} {af:Array Edge} {gd:Option (Nat×Bool)} {x y:Operand}
variable {α β:Type} [DecidableEq α] {ek:α->Value} {ev:β->Value} {m:List (α×β)} {a:α}
theorem zfE {t k e r:Nat}{zv:Value}(hget:ZP m a=none)(hT:MpT C.P t k e zv)(hK:VR C.P k ek)(hx:Qv S E x=some (.map (some r)))(hy:Qv S E y=some (ek a))(hm:ZS S=true->Mem I loc r (Z7 ek ev m)):
  QV C S E I loc ⟨dst,.lookup t x y true,ty,pos,af,gd⟩ (.tuple #[zv,.bool false]):=by
 have:=K3 (C:=C) (dst:=dst) (ty:=ty) (pos:=pos) (af:=af) (gd:=gd) hT hK hx hy hm;rw [hget] at this;exact this
theorem zfk {t k e r:Nat}{zv:Value}{b:β}(hget:ZP m a=some b)(hT:MpT C.P t k e zv)(hK:VR C.P k ek)(hx:Qv S E x=some (.map (some r)))(hy:Qv S E y=some (ek a))(hm:ZS S=true->Mem I loc r (Z7 ek ev m)):
  QV C S E I loc ⟨dst,.lookup t x y true,ty,pos,af,gd⟩ (.tuple #[ev b,.bool true]):=by
 have:=K3 (C:=C) (dst:=dst) (ty:=ty) (pos:=pos) (af:=af) (gd:=gd) hT hK hx hy hm;rw [hget] at this;exact this
end
variable{A:Loc}{b:Nat}{o:Obj}
theorem zj3 {L:Loc}:Zf (A++(b,o)::L) b o (A++L):=by
 induction A with
 | nil=>exact .here
 | cons x l ih=>exact .there ih
theorem QS {L R:Loc}:KE L (L++R):=by
 induction L with
 | nil=>
  induction R with
  | nil=>exact .refl
  | cons x l ih=>exact .drop ih
 | cons x l ih=>exact .keep ih
def zec {α:Type}(size:Nat)(enc:α->List Value)(xs:List α):Value->Qt->Loc->Prop:=fun v I' L=>L=[]/\∃ av c,v= .slice av xs.length c/\Sl I' size enc av xs.length c xs
variable{α:Type}{enc:α->List Value}{xs:List α}
theorem OwnS.res {L:Loc}(hO:OwnS e size v n (xs.flatMap enc) L)(hs:∀ x,(enc x).length=size)(hsz:0<size)(hw:St g I H L w):
  ∃ I',HLe I I'/\St g I' H [] w/\zec size enc xs v I' []:=by
 obtain ⟨I',av,c,h1,h2,h3,h4⟩:=OwnS.freeze (R:=[]) hO hs hsz (by rw [jz];exact hw);have:=h4.len;subst this;exact ⟨I',h1,h2,U,av,c,h3,h4⟩
section
variable {C:Cx} {Q:Exit->Act->World->Prop} {E G:Env} {I I':Qt} {loc loc' L R:Loc} {ops:Array Oper} {rest:List Oper} {S:GS} {b:Bool}
variable {d:Nat} {ty:TypeId} {pos:String} {af:Array Edge} {gd:Option (Nat×Bool)}
theorem St.freezeAll {g:World}{H:Qt}{w:World}:∀ {loc:Loc} {I:Qt},St g I H loc w->∃ I',HLe I I'/\St g I' H [] w/\∀ b o,(b,o)∈loc->I' b=some o
 | [],I,h=>⟨I,zGN I,h,fun _ _ hm=>by cases hm⟩
 | (b,o)::l,I,h=>by
  obtain ⟨h1,h2,h3⟩:=h.freeze (b:=b) (o:=o) Zf.here;obtain ⟨I',h4,h5,h6⟩:=St.freezeAll h1;refine ⟨I',h2.trans h4,h5,fun c p hm=>?_⟩;rcases jp.1 hm with e | hm
  ·cases e;exact h4 _ _ h3
  ·exact h6 c p hm
end
variable{C:Cx}{Q:Exit->Act->World->Prop}{E:Env}
theorem QD (h:At C Q .normal E I loc):At C (noP Q) .normal E I loc:=h
section
variable {C:Cx} {S:GS} {E:Env} {I:Qt} {loc:Loc} {dst:Option Nat} {ty:Nat} {pos:String} {af:Array Edge} {gd:Option (Nat×Bool)} {x y:Operand}
theorem Sl.get0 {α:Type}{size:Nat}{enc:α->List Value}{av:Option Addr}{n c:Nat}{xs:List α}(h:Sl I size enc av n c xs){k:Nat}{x:α}{u:Value}(hx:xs[k]? =some x)(hu:(enc x)[0]? =some u):QB I loc (Ab av) (Ao av+k*size) u:=
 zGP h (j:=0) hx hu
abbrev zGG:=@Sl.get0
theorem Sl.getD0 {size : Nat} {enc : Int -> List Value} {av : Option Addr} {n c : Nat} {xs : List Int} (h : Sl I size enc av n c xs) {k : Nat} {d : Int} {u : Value} (hk : k < n) (hu : (enc (xs.getD k d))[0]? = some u) : QB I loc (Ab av) (Ao av + k * size) u :=
  h.get0 (x := xs.getD k d) (by have : k < xs.length := by rw [h.len]; exact hk
                                simp [List.getD, this]) hu
def Ar2 (P:Program)(t e:Nat)(k:IntKind):Prop:=P.underlying t=some (.array 2 e)/\(P.info? e).isSome=true/\P.cellsOf e=1/\P.underlying e=some (.int k)/\P.eqGuardType P.depth t=false
theorem zmE {P:Program}{t e:Nat}{k:IntKind}(hT:Ar2 P t e k)(w:World)(a b a' b':Int)(d:Nat):
  (Op.equalIn (d+2) t (.agg #[.int k a,.int k b]) (.agg #[.int k a',.int k b'])).run P w= .ok (a==a'&&b==b') w:=by
 obtain ⟨hu,hi,hc,he,_⟩:=hT;obtain ⟨i,hi⟩:=jW.1 hi;have hag:∀ w:World,(isAgg e).run P w= .ok false w:=fun w=>Vc ⟨_,he,trivial⟩
 have hp:∀ (w:World) (xs:Array Value) (q:Nat) (u:Value),xs[q]? =some u->(part e xs q).run P w= .ok u w:=fun w xs q u h=>by
  simp only [part,jg,hag,Result.andThen,jB,j2,h,jl]
 rw [run_equalIn_array w (d+1) _ _ hu hi,hc];simp only [List.range,List.range.loop,Op.eqItems,jg,B3,Bm];rw [hp w _ 0 (.int k a) rfl];simp only [OW];rw [hp w _ 0 (.int k a') rfl];simp only [OW];rw [BH w d e k k a a' he];simp only [OW];cases h1:(a==a')
 ·rfl
 ·simp only [BQ,jB,j2,jg];rw [hp w _ 1 (.int k b) rfl];simp only [OW];rw [hp w _ 1 (.int k b') rfl];simp only [OW];rw [BH w d e k k b b' he];cases h2:(b==b')<;>rfl
theorem zuL {t t' e:TypeId}{k:IntKind}{a b a' b':Int}(hx:Qv S E x=some (.agg #[.int k a,.int k b]))(hy:Qv S E y=some (.agg #[.int k a',.int k b']))(hT:Ar2 C.P t e k):QV C S E I loc ⟨dst,.binOp .eql t x y t',ty,pos,af,gd⟩ (.bool (a==a'&&b==b')):=
 .of kC fun st w ha hg hc _=>by
  simp only [execOp,Qi ha hg hc hx,Qi ha hg hc hy,jg,A6 w _ _ _ _ _ _ hT.2.2.2.2,Result.andThen,run_eql_struct,zmE hT w a b a' b' 9998,jl]
end
variable{ops:Array Oper}{dst:Option Nat}{op:Op}{ty:Nat}{pos:String}{af:Array Edge}{want:Bool}{oj:Oper}
theorem QJ {rest:List Oper}{j dj:Nat}
  (hj:ops[j]? =some oj)(hd:oj.dst=some dj)(hl:Jl E dj=some (.bool want))(h:XO C Q ops (⟨dst,op,ty,pos,af,none⟩::rest) [] E I loc):XO C Q ops (⟨dst,op,ty,pos,af,some (j,want)⟩::rest) [] E I loc:=by
 intro a w ha hg hw;have h1:=h a w ha hg hw;have hG:Zv ops [(true,[])] E ⟨dst,op,ty,pos,af,some (j,want)⟩:=.some U hj hd (by simpa [WO,zgj] using hl) kK;have hwt:=hG.wanted ha (show KI [(true,[])] a from ⟨(fun _ _ e=>by cases e),trivial⟩);simp only [wpListIn] at h1 ⊢;rw [hwt];rw [(Zv.none U:Zv ops [] E ⟨dst,op,ty,pos,af,none⟩).wanted ha trivial] at h1;exact h1
variable{loc':Loc}
theorem Ju {S:GS}{rest:List Oper}(ht:Zf loc b o loc')(h:∀ I',HLe I I'->I' b=some o->XO C Q ops rest S E I' loc'):XO C Q ops rest S E I loc:=fun a w ha hg hw=>
 let ⟨h1,h2,h3⟩:=hw.freeze ht;h _ h2 h3 a w ha hg h1
theorem zak {α:Type}{enc:α->List Value}{size:Nat}(hs:∀ x,(enc x).length=size):∀ (xs:List α) (k:Nat) (x:α),xs[k]? =some x->∀ (j:Nat) (u:Value),(enc x)[j]? =some u->(xs.flatMap enc)[k*size+j]? =some u
 | [],k,x,hx,_,_,_=>by simp at hx
 | y::ys,0,x,hx,j,u,hu=>by
  simp at hx;subst hx;have hj:=(jc.1 hu).1;rw [jO,B3,Oc,AB hj];exact hu
 | y::ys,k+1,x,hx,j,u,hu=>by
  rw [jO,OJ,Bm,OI (by rw [hs];omega),hs,show k*size+size+j-size=k*size+j from by omega];exact zak hs ys k x (by simpa using hx) j u hu
theorem Sl.lit {t:TypeId}(xs:List α)(hn:xs.length=n)(hs:∀ x,(enc x).length=size)(hb:I b=some (.cells (xs.flatMap enc).toArray t (0,0))):Sl I size enc (some ⟨b,0,none⟩) n n xs:=
 ⟨hn,js _,fun _=>U,fun k x hx j u hu=>QB.imm hb (by
  rw [YU];have:=zak hs xs k x hx j u hu
  simpa [Ao] using this)⟩
theorem zfl {A B:Loc}:∀ {L:Loc},Yu (A++(L++B)) L (A++B)
 | []=>.nil
 | (_,_)::_=>.cons zj3 zfl
theorem QT {L:Loc}:Yu L L []:=by have:=QO (A:=L) (B:=[]);rwa [jz] at this
theorem Yb {L:Loc}:KE [] L:=QS (L:=[])
variable{B:Loc}
theorem Zr {L:Loc}(h:KE A B):KE (L++A) (L++B):=by
 induction L with
 | nil=>exact h
 | cons x l ih=>exact .keep ih
variable{off:Nat}
theorem QB.app (h:QB I B b off v):QB I (A++B) b off v:=by
 induction A with
 | nil=>exact h
 | cons x l ih=>exact .there ih
abbrev zGJ:=@QB.app
theorem QB.lft (h:QB I A b off v):QB I (A++B) b off v:=by obtain ⟨cs,t,fz,hm,hv⟩:=h;exact ⟨cs,t,fz,hm.imp id (fun h=>Ag _ h),hv⟩
variable{C':Cx}
theorem Wh {M:Env->Qt->Qt->Loc->Prop}(hN:C'.N=C.N)(hD:C'.D=C.D)(hg:C'.g=C.g)(E':Env)(loc':Loc)(hM:M E' I C.H loc')(hE:Sub E' E)(hs:KE loc' loc):At C (Exit.then (zFO C' M) Q) .normal E I loc:=
 fun _ _ ha hw=>⟨E',I,C.H,loc',hM,by rw [hN,hD];exact ha.sub hE,by rw [hg];exact hw.subL hs⟩
theorem YV (h:At C (bodyPost P fn R) .ret E I loc):At C (bodyPost P fn R) .normal E I loc:=h
theorem OwnS.one {xs:List Value}{L:Loc}(h:OwnS e size v n xs L):v.oneCell'=true:=by rcases h.2 with ⟨rfl,_,_⟩ | ⟨b,c,cur,rfl,_⟩<;>rfl
theorem OwnS.shape {xs:List Value}{L:Loc}(h:OwnS e size v n xs L):∃ av c,v= .slice av n c:=by
 rcases h.2 with ⟨rfl,rfl,_⟩ | ⟨b,c,cur,rfl,_⟩
 ·exact ⟨_,_,U⟩
 ·exact ⟨_,_,U⟩
variable{Jc:List α->Qt->Loc->Prop}{Jx:Code->List α->Qt->Loc->Prop}{pre:List α}
theorem KH (h:Jc pre I loc')(hs:KE loc' loc):At C (zb9 C.g C.H Jc Jx pre) .normal E I loc:=fun _ _ _ hw=>⟨I,loc',h,hw.subL hs⟩
variable{ek:α->Value}{x:Operand}{gd:Option (Nat×Bool)}{seen:List Nat}
theorem Ul {β:Type}{ev:β->Value}{m:List (α×β)}{rest:List Oper}{ty ty2:TypeId}{pos2:String}{af2:Array Edge}{gd2:Option (Nat×Bool)}
  {d d2 r:Nat}(F:List Nat->Loc)(hF:F seen=loc)(hU:∀ s',Upd loc b (Vt r m.length seen) (Vt r m.length s') (F s'))(hx:Qv [] E x=some (.pointer (some ⟨b,0,none⟩)))(hG:gd=none)(hG2:gd2=none)(hN:Nat.blt d C.N=true)(hN2:Nat.blt d2 C.N=true)
  (hm:Mem I loc r (Z7 ek ev m))(hb:(b,Vt r m.length seen)∈loc)
  (h:∀ (t:Bool) (tv:Value) (s':List Nat),(t=false->s'=seen/\∀ i p,m[i]? =some p->i∈seen)->(t=true->∃ i p,m[i]? =some p/\i∉seen/\s'=seen++[i])->XO C Q ops rest [] ((d2,.bool t)::(d,tv)::E) I (F s')):
  XO C Q ops (⟨some d,.next x false,ty,pos,af,gd⟩::⟨some d2,.extract (.tmp d) 0,ty2,pos2,af2,gd2⟩::rest) [] E I loc:=by
 have top:∀ v,Qv [] ((d,v)::E) (.tmp d)=some v:=fun v=>(by simp [Qv,zgj,Jl]);refine zyI hx hG hN hm hb (fun hall=>?_) (fun i p hp hns=>⟨F (seen++[i]),hU _,?_⟩)
 ·rw [<-hF];exact zaS (Z6 (top _) U) hG2 U hN2 (h false _ seen (fun _=>⟨U,hall⟩) (fun e=>by cases e))
 ·exact zaS (Z6 (top _) U) hG2 U hN2 (h true _ _ (fun e=>by cases e) (fun _=>⟨i,p,hp,hns,U⟩))
theorem Ue {m:List α}(hnd:seen.Nodup)(hlt:∀ i∈seen,i<m.length):seen.length<=m.length:=by have:=BA hnd (l₂:=List.range m.length) (fun i hi=>jm.2 (hlt i hi));simpa using this
theorem zbW {m:List α}(hnd:seen.Nodup)(hlt:∀ i∈seen,i<m.length)(hall:∀ i (p:α),m[i]? =some p->i∈seen):seen.Perm (List.range m.length):=
 (List.perm_ext_iff_of_nodup hnd List.nodup_range).2 fun i=>⟨fun h=>jm.2 (hlt i h),fun h=>by
  have hi:=jm.1 h
  exact hall i m[i] (je hi)⟩
theorem zfZ {α:Type}:∀ (m:List α),(List.range m.length).filterMap (fun i=>m[i]?)=m
 | []=>rfl
 | x::m=>by
  rw [jw,List.range_succ_eq_map,List.filterMap_cons];simp only [O3,List.filterMap_map,BS,Al];rw [zfZ m]
theorem zfN {S:GS}{z1 z2:Value}{y:Operand}{a b:Int}
  (hA:Ar2 C.P t e .i64)(hz:Yw C.P t (.agg #[z1,z2]))(hx:Qv S E x=some (.int .i64 a))(hy:Qv S E y=some (.int .i64 b)):
  QV C S E I loc ⟨dst,.build t #[(0,x),(1,y)],ty,pos,af,gd⟩ (.agg #[.int .i64 a,.int .i64 b]):=
 .of kC fun st w ha hg hc hw=>by
  obtain ⟨hu,hi,hcl,he,_⟩:=hA;obtain ⟨i,hi⟩:=jW.1 hi;have hsz:∀ w:World,(sizeOf e).run C.P w= .ok 1 w:=fun w=>(by have h1:=Go.run_sizeOf (w:=w) hi;rw [hcl] at h1;exact h1);simp only [execOp,Instr.build,jg,Yc hz,Result.andThen,jK hu,hsz,j6,jx,Oo,Qi ha hg hc hx,Qi ha hg hc hy];rfl
def Vg (p:Int×Int):Value:=.agg #[.int .i64 p.1,.int .i64 p.2]
section
variable {C:Cx} {Q:Exit->Act->World->Prop} {E:Env} {I:Qt} {loc:Loc}
theorem ztg {x y:Code}(T:Env)(_hT:Sub T E)(M:Env->Loc->Env->Qt->Loc->Prop)(h1:X C (Exit.then (Met C (M T loc)) Q) x E I loc)(h2:∀ E I loc',M T loc E I loc'->X C Q y E I loc'):X C Q (.seq x y) E I loc:=zES (M T loc) h1 h2
theorem zY {x y:Code}(T:Env)(M:Env->Loc->Env->Qt->Loc->Prop)(h1:X C (Exit.then (Met C (M T loc)) Q) x E I loc)(h2:∀ E I loc',M T loc E I loc'->X C Q y E I loc')(_hT:Sub T E:=by repeat (first | exact .nil | refine .cons U ?_)):X C Q (.seq x y) E I loc:=ztg T _hT M h1 h2
theorem zyF {c:Code}(T:Env)(_hT:Sub T E)(J:Env->Loc->Nat->Env->Qt->Loc->Prop)(m0:Nat)(E0:Env)(I0:Qt)(loc0:Loc)(h0:J T loc m0 E0 I0 loc0)(hE:Sub E0 E)(hI:HLe I0 I)(hl:loc0=loc)
  (round:∀ m E I loc',J T loc m E I loc'->X C (Exit.then (Met C fun E I loc'=>∃ m',m'<m/\J T loc m' E I loc') Q) c E I loc'):X C Q (.loop c) E I loc:=zA3 (J T loc) m0 E0 I0 loc0 h0 hE hI hl round
theorem zU {c:Code}(T:Env)(J:Env->Loc->Nat->Env->Qt->Loc->Prop){m0:Nat}{E0:Env}{I0:Qt}{loc0:Loc}
  (round:∀ m E I loc',J T loc m E I loc'->X C (Exit.then (Met C fun E I loc'=>∃ m',m'<m/\J T loc m' E I loc') Q) c E I loc')(_hT:Sub T E:=by repeat (first | exact .nil | refine .cons U ?_))(hE:Sub E0 E:=by repeat (first | exact .nil | refine .cons U ?_))(hI:HLe I0 I:=by exact zGN _)(hl:loc0=loc:=by exact U)(h:J T loc m0 E0 I0 loc0):X C Q (.loop c) E I loc:=zyF T _hT J m0 E0 I0 loc0 h hE hI hl round
end
def ArT (P:Program)(t n e size:Nat):Prop:=P.underlying t=some (.array n e)/\∃ i,P.info? e=some i/\i.size=size
def zFW (P:Program)(t n e size:Nat):Bool:=(match P.underlying t with | some (.array n' e')=>n'==n&&e'==e | _=>false)&&(match P.info? e with | some i=>i.size==size | none=>false)
theorem ArT.of (h:zFW P t n e size=true):ArT P t n e size:=by
 simp only [zFW,jj] at h;obtain ⟨h1,h2⟩:=h;refine ⟨?_,?_⟩
 ·split at h1
  ·rename_i n' e' h';rw [jj,j0,j0] at h1;rw [h',h1.1,h1.2]
  ·cases h1
 ·split at h2
  ·rename_i i hi;rw [j0] at h2;exact ⟨i,hi,h2⟩
  ·cases h2
section
variable {C:Cx} {S:GS} {E:Env} {I I':Qt} {loc:Loc} {dst:Option Nat} {ty:Nat} {pos:String} {af:Array Edge} {gd:Option (Nat×Bool)} {x y:Operand}
theorem Zx {t e size b off n:Nat}{k:IntKind}{i:Int}(hx:Qv S E x=some (.pointer (some ⟨b,off,none⟩)))(hy:Qv S E y=some (.int k i))(hT:ArT C.P t n e size)(hb:ZS S=true->0<=i/\i<(n:Int)):
  QV C S E I loc ⟨dst,.indexAddr t x y,ty,pos,af,gd⟩ (.pointer (some ⟨b,off+i.toNat*size,none⟩)):=
 .of kC fun a w ha hg hc _=>by
  obtain ⟨h1,j,h2,h3⟩:=hT;simp only [execOp,Qi ha hg hc hx,Qi ha hg hc hy,Instr.indexAt,asIntOf,Instr.sureAddr,jg,jl,jK h1,Result.andThen,jb (hb hc),run_sizeOf h2,Yn,h3]
end
section
variable {C:Cx} {S:GS} {E:Env} {I I':Qt} {loc:Loc} {dst:Option Nat} {ty:Nat} {pos:String} {af:Array Edge} {gd:Option (Nat×Bool)} {x y:Operand}
theorem Z4 {t t':TypeId}{k:IntKind}{a b:Int}(hx:Qv S E x=some (.int k a))(hy:Qv S E y=some (.int k b))(h:ZS S=true->b≠0):QV C S E I loc ⟨dst,.binOp .rem t x y t',ty,pos,af,gd⟩ (.int k (a.tmod b)):=
 .of kC fun a w ha hg hc _=>by
  simp only [execOp,Qi ha hg hc hx,Qi ha hg hc hy,jg,ZH,Result.andThen,binOp,Bn,OF,j2,Op.intDiv,ja (h hc),jl]
theorem zss {t t':TypeId}{k:IntKind}{a b:Int}(hx:Qv S E x=some (.int k a))(hy:Qv S E y=some (.int k b))(h:ZS S=true->b≠0):QV C S E I loc ⟨dst,.binOp .quo t x y t',ty,pos,af,gd⟩ (.int k (k.wrap (a.tdiv b))):=
 .of kC fun a w ha hg hc _=>by
  simp only [execOp,Qi ha hg hc hx,Qi ha hg hc hy,jg,ZH,Result.andThen,binOp,Bn,OF,j2,Op.intDiv,ja (h hc),jl]
def CvT (P:Program)(s d:Nat)(k:IntKind):Prop:=(P.underlying s).isSome=true/\P.underlying d=some (.int k)
theorem YK {s d:TypeId}{k k':IntKind}{a:Int}(hx:Qv S E x=some (.int k' a))(hT:CvT C.P s d k):QV C S E I loc ⟨dst,.convert s d x,ty,pos,af,gd⟩ (.int k (k.wrap a)):=
 .of kC fun a w ha hg hc _=>by
  obtain ⟨h1,h2⟩:=hT;obtain ⟨u,h1⟩:=jW.1 h1;simp only [execOp,Qi ha hg hc hx,convert,jg,jK h1,jK h2,Result.andThen,Conv.intToInt,jl]
end
section
variable {C:Cx} {Q:Exit->Act->World->Prop} {E:Env} {I:Qt} {loc:Loc}
theorem KF {id:Nat}{l:List Oper}(hm:C.P.follows .mixedOrders=true)(h:XD C (noP Q) l.toArray I loc l.length (Array.replicate l.length false) [] E I loc):X C Q (.region id l.toArray true) E I loc:=YZ (ZA I loc hm h)
end
theorem Zp {L:Loc}(h:KE A B):KE A (L++B):=by
 induction L with
 | nil=>exact h
 | cons x l ih=>exact .drop ih
variable{M:Env->Qt->Loc->Prop}{E':Env}
theorem zm (hE:Sub E' E:=by repeat (first | exact .nil | refine .cons U ?_))(h:M E' I loc')(hs:KE loc' loc:=by repeat (first | exact .refl | exact QS | refine Zr ?_ | refine .drop ?_ | refine Zp ?_)):At C (Exit.then (Met C M) Q) .normal E I loc:=Y8 E' loc' h hE hs
theorem zmk (hE:Sub E' E:=by repeat (first | exact .nil | refine .cons U ?_))(h:M E' I loc')(hs:KE loc' loc:=by repeat (first | exact .refl | exact QS | refine Zr ?_ | refine .keep ?_ | refine .drop ?_ | refine Zp ?_)):At C (Exit.then (Met C M) Q) .normal E I loc:=Y8 E' loc' h hE hs
theorem znW {l l':Loc}(h:Zf l b o l'):Zf (A++l) b o (A++l'):=by
 induction A with
 | nil=>exact h
 | cons x l ih=>exact .there ih
theorem Zd {l L R:Loc}(h:Yu l L R):Yu (A++l) L (A++R):=by
 induction h with
 | nil=>exact .nil
 | cons h _ ih=>exact .cons (znW h) ih
variable{p:Nat×Obj}
theorem Zi {l L R:Loc}(h:Yu l L R):Yu (p::l) L (p::R):=Zd (A:=[p]) h
theorem Ub (E':Env)(loc' l:Loc)(hM:M E' I loc')(hE:Sub E' E)(hp:loc'.Perm l)(hs:KE l loc):At C (Exit.then (Met C M) Q) .normal E I loc:=
 fun _ _ ha hw=>⟨E',I,loc',hM,ha.sub hE,(hw.subL hs).perm (fun _p=>hp.mem_iff) ((hp.map (·.1)).nodup_iff.2 (hw.subL hs).nodup)⟩
variable{vs:List Value}
theorem Cells.app (h:Cells I B b off vs):Cells I (A++B) b off vs:=fun j u hu=>(h j u hu).app
abbrev zGM:=@Cells.app
section
variable {C:Cx} {Q:Exit->Act->World->Prop} {E:Env} {I:Qt} {loc L R:Loc} {α:Type} {e size:Nat} {enc:α->List Value} {v:Value} {n:Nat} {xs:List α}
theorem KO {c:Code}(hO:OwnS e size v n (xs.flatMap enc) L)(hs:∀ x,(enc x).length=size)(hsz:0<size)(hsp:Yu loc L R)
  (h:∀ I',HLe I I'->∀ av c0,v= .slice av n c0->Sl I' size enc av n c0 xs->X C Q c E I' R):X C Q c E I loc:=fun a w ha hw=>
 let ⟨I',av,c0,h1,h2,h3,h4⟩:=OwnS.freeze (R:=R) hO hs hsz (hw.unsplit hsp)
 h I' h1 av c0 h3 h4 a w ha h2
theorem zx4 {c:Code}(hO:OwnS e size v n (xs.flatMap enc) L)(hs:∀ x,(enc x).length=size)(h:∀ I',HLe I I'->∀ av c0,v= .slice av n c0->Sl I' size enc av n c0 xs->X C Q c E I' R)(hsp:Yu loc L R:=by repeat (first | exact .cons .here .nil | exact QT | exact QO | apply Zi | apply Zd))(hsz:0<size:=by decide):X C Q c E I loc:=KO hO hs hsz hsp h
theorem zjP {ops:Array Oper}{rest:List Oper}{S:GS}(hO:OwnS e size v n (xs.flatMap enc) L)(hs:∀ x,(enc x).length=size)(hsz:0<size)(hsp:Yu loc L R)
  (h:∀ I',HLe I I'->∀ av c0,v= .slice av n c0->Sl I' size enc av n c0 xs->XO C Q ops rest S E I' R):XO C Q ops rest S E I loc:=fun a w ha hg hw=>
 let ⟨I',av,c0,h1,h2,h3,h4⟩:=OwnS.freeze (R:=R) hO hs hsz (hw.unsplit hsp)
 h I' h1 av c0 h3 h4 a w ha hg h2
theorem zx7 {ops:Array Oper}{rest:List Oper}{S:GS}(hO:OwnS e size v n (xs.flatMap enc) L)(hs:∀ x,(enc x).length=size)(h:∀ I',HLe I I'->∀ av c0,v= .slice av n c0->Sl I' size enc av n c0 xs->XO C Q ops rest S E I' R)(hsp:Yu loc L R:=by repeat (first | exact .cons .here .nil | exact QT | exact QO | apply Zi | apply Zd))(hsz:0<size:=by decide):XO C Q ops rest S E I loc:=zjP hO hs hsz hsp h
end
theorem OwnS.new :OwnS e size (.slice (some ⟨b,0,none⟩) 0 0) 0 [] [(b,.cells #[] e (0,0))]:=⟨by simp,.inr ⟨b,0, #[],U,U,js _,by decide,by simp,by simp⟩⟩
variable{k:Nat}
theorem zc0 {x:α}(h:xs[k]? =some x)(p:α->Bool):(xs.take (k+1)).any p=((xs.take k).any p||p x):=by rw [jP,h,A1];simp
theorem ZJ (hn:xs.length=n)(h:n<=k):xs.take k=xs:=jD kB
end
end Go.Kn
