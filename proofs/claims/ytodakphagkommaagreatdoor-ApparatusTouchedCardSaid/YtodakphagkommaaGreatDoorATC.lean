/- apparatusTouched_holds, part C of the proof: what its theorems say holds without further conditions. -/
import Derived.Lib.SlicesCompact
import Derived.Lib.RowBridge
import Derived.Shelf.SlSortCmp.WholeK
import Derived.Shelf.Small.Bits
import Derived.Shelf.Small.Wraps
import Derived.Shelf.Strconv.Itoa0
import Derived.Shelf.Sort.Plain
import Derived.Shelf.Slices.Turned
import Derived.Shelf.Slices.Equal
import Derived.Ground.Names2Prog
import Derived.Shelf.Slices.Clone
import Derived.Shelf.Slices.CompactI
import Derived.Shelf.Slices.SearchI
import Derived.Shelf.Slices.Cells
import Derived.Shelf.Slices.In.SortNone
import Derived.Shelf.Slices.Empties
import Derived.Shelf.Slices.Empties2
import Derived.Ground.SlgnProg
import Derived.Shelf.SlicesE.Clone
import Derived.Ground.SlsfProg
import Derived.Shelf.SlSortCmp.InsertionK
import Derived.Shelf.SlSortCmp.SiftDownK
import Derived.Shelf.SlSortCmp.HeapSortK
import Derived.Shelf.SlSortCmp.MedianK
import Derived.Shelf.SlSortCmp.PivotK
import Derived.Shelf.SlSortCmp.ReverseRangeK
import Derived.Shelf.SlSortCmp.PartialInsertionK
import Derived.Shelf.SlSortCmp.PartitionEqualK
import Derived.Shelf.SlSortCmp.PartitionK
import Derived.Shelf.SlSortCmp.PdqK
import Derived.Shelf.SlSortCmp.NoneTotal
import Derived.Test.YtodakphagkommaaGreatDoorProg
import Derived.Test.YtodakphagkommaaGreatDoorATB
namespace Go.Kn
section
open Go
section
variable {g:World} {I I' H:Qu} {loc loc' L K A B:Loc} {w w':World}
theorem St.permL (h:St g I H loc w)(hp:loc'.Perm loc):St g I H loc' w:=h.perm (fun _p=>hp.mem_iff) ((hp.map (·.1)).nodup_iff.2 h.nodup)
end
section
variable {α:Type} {C:Cx} {Q:Exit→Act→World→Prop} {E E':Env} {I I':Qu} {loc loc' L Z R:Loc}
variable {Jc:List α→Qu→Qu→Loc→Prop} {Jx:Code→List α→Qu→Qu→Loc→Prop} {pre:List α}
end
section
variable {α:Type} {P:Program} {N:Nat} {g:World} {p:Nat} {assign body:Code} {f:FuncId} {cap:List Value} {rel:Value→α→Qu→Prop} {xs:List α} {E:Env} {I H:Qu} {L B:Loc}
end
section
variable {α:Type} {P:Program} {N:Nat} {g:World} {H:Qu} {Q:Exit→Act→World→Prop} {gop:Operand} {p:Nat} {assign body:Code} {f:FuncId} {cap:List Value} {rel:Value→α→Qu→Prop} {xs:List α} {E:Env} {I:Qu} {L:Loc}
end
/-! ### A loop whose rounds may leave marks and turn the frame -/
section
variable {P:Program} {r:Option Nat} {N:Nat} {g:World} {H:Qu} {Q:Exit→Act→World→Prop} {E E':Env} {I I':Qu} {loc loc' L R:Loc} {ms:List Nat}
end
end
end Go.Kn
namespace Go.Proofs.YtodakphagkommaaGreatDoor
section
open Go Go.Kn Go.Proofs
def YC (zs:List Int):List Int:=zs.mergeSort fun x y=>decide (x≤y)
end
section
open Go Go.Kn Go.Proofs
def zrO (x y:Int):Int:=if x<y then -1 else if x>y then 1 else 0
structure HdP (I:Qu) where
 h:Hd
 v:List Int
 ok:Sl I 1 QR h.a h.n h.c v
 len:v.length≤1000
instance (I : Qu) : Inhabited (HdP I) := ⟨⟨⟨none, 0, 0⟩, [], Sl.nil, by simp⟩⟩
end
section
open Go Go.Kn Go.Proofs
theorem zhm {n:Nat}{cl:List Int}(hc:VY n cl=0){s:Int}(hs:s∈cl):Z6 s=false:=by
 have hle:=(ZW hc).2.2.2 s hs
 obtain ⟨a1,a2,a3⟩:=Wq (KS hc s hs) (Nat.le_refl 1)
 have a3:Jb cl s (Km cl s 1)=true:=a3
 unfold Jb at a3
 simp only [Bool.and_eq_true] at a3
 generalize Km cl s 1=a at a1 a2 a3
 cases h:Z6 s with
 | false=>rfl
 | true=>
  exfalso
  have k1:=a3.1.1.1
  rw [zqG (by omega) (by omega)] at k1
  have ht:((List.range 64).all fun s=>(List.range 64).all fun a=>a==0|| !(Z6 (s:Int))|| !(Jn a s)||(a==s))=true:=by kernel_rfl
  have h0:=List.all_eq_true.1 ht s.toNat (List.mem_range.2 (by omega))
  have h0:=List.all_eq_true.1 h0 a.toNat (List.mem_range.2 (by omega))
  rw [show ((s.toNat:Nat):Int)=s by omega,h,k1,show (a.toNat==0)=false by simp;omega] at h0
  have:a.toNat=s.toNat:=by simpa using h0
  omega
theorem zgj {m:Int}{cl:List Int}{s:Int}:iA m cl s=zaI m cl s∧iB m cl s=zaG m cl s:=by
 by_cases h:YP m cl s=0
 ·
  obtain ⟨e1,e2⟩:=zsT h
  obtain ⟨e3,e4⟩:=zhj h
  have hc:VY m cl=0:=by
   unfold YP at h
   by_cases e:VY m cl=0
   ·
    exact e
   ·
    rw [if_pos e] at h;exact absurd h e
  have hin:s∈cl:=by
   unfold YP at h
   rw [if_neg (fun e=>e hc)] at h
   cases e:cl.any (fun c=>c==s) with
   | true=>simpa using e
   | false=>rw [e] at h;simp at h
  obtain ⟨n,rfl⟩:∃ n:Nat,m=n:=⟨m.toNat,by have:=ZW hc;omega⟩
  obtain ⟨g1,g2,_⟩:=ze0 hc hin (zhm hc hin)
  rw [e1,e2,e3,e4,g1,g2]
  exact ⟨rfl,rfl⟩
 ·
  obtain ⟨e1,e2⟩:=zi4 h
  obtain ⟨e3,e4⟩:=zgk h
  rw [e1,e2,e3,e4]
  exact ⟨rfl,rfl⟩
end
section
open Go Go.Kn Go.Proofs
theorem zd5:((List.range 64).all fun s=> !Z6 (s:Int)||(2^KK (s:Int)==s))=true:=by kernel_rfl
theorem zgW {s:Int}(hs:1≤s∧s≤63)(h:Z6 s=true):2^KK s=s.toNat:=by
 have h0:=List.all_eq_true.1 zd5 s.toNat (List.mem_range.2 (by omega))
 rw [show ((s.toNat:Nat):Int)=s by omega,h] at h0
 simpa using h0
section
variable {n:Nat} {cl:List Int} (hc:VY n cl=0)
include hc
end
def uF (rows:List (List Int))(l:Nat)(w:Nat):Int:=(rows.getD w []).getD l 0
end
section
open Go Go.Kn Go.Proofs
theorem Xj {α β:Type}{f:α→β}{xs:List α}{i:Nat}{x:α}(h:xs[i]? =some x):(xs.take (i+1)).map f=(xs.take i).map f++[f x]:=by
 rw [List.take_add_one,h,List.map_append];rfl
theorem V0 {I:Qu}{b t k:Nat}{nm:List Int}{x:Int}{l:Go.Kn.Loc}(h:nm[k]? =some x):QU I ((b,.cells (Zh nm) t (0,0))::l) b (k*1) (.int .i64 x):=by
 refine .here ?_
 rw [Y8]
 unfold Zh
 rw [Jk,Nat.mul_one]
 simp [h]
def VE (hs:List Hd):Array Value:=(hs.flatMap W2).toArray
theorem X4 (hs:List Hd):hs.flatMap W2=hs.map fun h=>Value.slice h.a h.n h.c:=by
 induction hs with
 | nil=>rfl
 | cons b hs ih=>rw [List.flatMap_cons,ih];rfl
theorem zgp {hs:List Hd}{m:Nat}{a:Option Addr}{n c:Nat}:(VE hs).setIfInBounds (m*1) (.slice a n c)=VE (hs.set m ⟨a,n,c⟩):=by
 unfold VE
 rw [X4,X4,Nat.mul_one];simp
theorem zx4 {hs:List Hd}{m:Nat}(h:m<hs.length):Nat.blt (m*1) (VE hs).size=true:=by
 unfold VE
 rw [X4,Nat.mul_one]
 simpa [Nat.blt_eq] using h
theorem zgi (n:Nat):(List.replicate n (Value.slice none 0 0)).toArray=VE (List.replicate n ⟨none,0,0⟩):=by
 unfold VE;rw [X4];simp
end
section
open Go Go.Kn Go.Proofs
section
variable {S:List Int} {u:Nat→Int} {n:Nat} {cl:List Int}
end
theorem zdt:((List.range 6).all fun v=>(List.range 6).all fun w=>v==w|| !(2^v==2^w))=true:=by kernel_rfl
theorem zq4 {v w:Nat}(hv:v<6)(hw:w<6)(h:2^v=2^w):v=w:=by
 have h0:=List.all_eq_true.1 zdt v (List.mem_range.2 hv)
 have h0:=List.all_eq_true.1 h0 w (List.mem_range.2 hw)
 rw [h] at h0
 simpa using h0
end
section
open Go Go.Kn Go.Proofs
def stL (rows:List (List Int))(l k:Nat):List Int:=0::(((List.range k).map fun w=>uF rows l w).filter fun x=>x != 8589934592)
theorem zsa {rows:List (List Int)}{l k:Nat}(h:uF rows l k≠8589934592):stL rows l (k+1)=stL rows l k++[uF rows l k]:=by
 unfold stL;rw [List.range_succ,List.map_append,List.filter_append];simp [h]
theorem zxo {rows:List (List Int)}{l k:Nat}(h:uF rows l k=8589934592):stL rows l (k+1)=stL rows l k:=by
 unfold stL;rw [List.range_succ,List.map_append,List.filter_append];simp [h]
theorem zse {rows:List (List Int)}{l:Nat}{y:Int}:y∈stL rows l rows.length↔y∈Q9 rows l:=by
 unfold stL
 rw [zfn,List.mem_cons,List.mem_filter,List.mem_map,bne_iff_ne]
 constructor
 ·
  rintro (h | ⟨⟨w,hw,rfl⟩,h⟩)
  ·
   exact .inl h
  ·
   have hw:=List.mem_range.1 hw
   refine .inr ⟨⟨rows.getD w [],?_,rfl⟩,h⟩
   unfold List.getD;rw [List.getElem?_eq_getElem hw];exact List.getElem_mem hw
 ·
  rintro (h | ⟨⟨r,hr,rfl⟩,h⟩)
  ·
   exact .inl h
  ·
   obtain ⟨w,hw,rfl⟩:=List.getElem_of_mem hr
   refine .inr ⟨⟨w,List.mem_range.2 hw,?_⟩,h⟩
   unfold uF
   rw [Q1 (List.getElem?_eq_getElem hw)]
theorem zoc:((List.range 6).all fun w=>IntKind.i64.wrap (1*2^(min ((w:Nat):Int).toNat IntKind.i64.bits))==((2^w:Nat):Int))=true:=by kernel_rfl
theorem zsF {w:Nat}(h:w<6):IntKind.i64.wrap (1*2^(min ((w:Nat):Int).toNat IntKind.i64.bits))=((2^w:Nat):Int):=eq_of_beq (List.all_eq_true.1 zoc w (List.mem_range.2 h))
end
section
open Go Go.Kn Go.Proofs
theorem zpG:Fun Tryz.prog 150:=.of Tryz.func150 (by kernel_rfl) (by kernel_rfl)
theorem zpz:Fun Tryz.prog 152:=.of Tryz.func152 (by kernel_rfl) (by kernel_rfl)
theorem zqm {I:Qu}{av:Option Addr}{n c:Nat}{xs:List Int}(hS:Sl I 1 QR av n c xs){bv:Option Addr}{n2 c2:Nat}{rows:List (List Int)}(hV:SlN I bv n2 c2 rows)(hn2:n2≤100000)(hDb:VI I):Zw Tryz.prog 92 [.slice bv n2 c2,.slice av n c] I (.tuple #[.int .i64 (zdY rows xs),.int .i64 (YH rows xs)]):=by
 intro g H w hw
 refine qe Tryz.func92 Tryz.ntmps92 hw ?_
 have hlV:=hV.len
 subst hlV
 refine zR (zA ?_)
 refine zA (zN (Ql (zR ?_)))
 refine zM ?_
 refine qc (vs:=[_]) rfl zpG (zpx hV hn2) ?_
 refine zA ?_
 refine zN (zR ?_)
 refine zM ?_
 refine zC (zN ?_)
 refine zI ?_ ?_<;>intro hc9
 ·
  have hr0:VM rows≠0:=by simpa using hc9
  obtain ⟨e1,e2⟩:=zfs (cl:=xs) hr0
  refine zR (zM ?_)
  refine zA ?_
  refine zA (zN (Qt (Qc ?_)))
  first
  | exact Zx rfl rfl rfl (fun w hw=>⟨by rw [e1,e2],hw.drop⟩)
 have hr0:VM rows=0:=by simpa using hc9
 refine Qo (Qa (Ql (zR (zM ?_))))
 refine zQ Zo ?_
 refine zM ?_
 refine qc (vs:=[_,_]) rfl zjF (zht hS _) ?_
 refine zA ?_
 refine zN (zR ?_)
 refine zM ?_
 refine zC (zN ?_)
 refine zI ?_ ?_<;>intro hc16
 ·
  have hc0:VY rows.length xs≠0:=by simpa using hc16
  obtain ⟨e1,e2⟩:=ztL hr0 hc0
  refine zR (zM ?_)
  refine zA ?_
  refine zA (zN (Qt (Qc ?_)))
  first
  | exact Zx rfl rfl rfl (fun w hw=>⟨by rw [e1,e2],hw.drop⟩)
 have hc0:VY rows.length xs=0:=by simpa using hc16
 obtain ⟨e1,e2⟩:=zss hr0 hc0
 have hn:n≤100000:=by have h1:=(ZW hc0).2.2.1;have h2:=hS.len;omega
 refine Qo (Qa (zR (zM ?_)))
 refine zM ?_
 refine qc (vs:=[_,_]) rfl zpz (ztO hS hn hV hn2 hDb hr0 hc0) ?_
 refine zA ?_
 refine zA (zN (Qt ?_))
 first
 | exact Zx rfl rfl rfl (fun w hw=>⟨by rw [e1,e2],hw.drop⟩)
end
section
open Go Go.Kn Go.Proofs
def WS (u x:Int):Int:=if (u != 8589934592&&u != x)=true then 1073741824 else 0
def zgv (S cs:List Int)(x:Int)(k:Nat):Int:=(List.range k).foldl (fun b j=>JT b (Va x (S.getD j 0)+cs.getD j 0)) 1073741824
def XS (S cs:List Int)(x:Int):Int:=zgv S cs x S.length
theorem zhY {S cs:List Int}{x y c:Int}{k:Nat}(hy:S[k]? =some y)(hc:cs[k]? =some c):zgv S cs x (k+1)=JT (zgv S cs x k) (Va x y+c):=by
 unfold zgv
 rw [List.range_succ,List.foldl_append,List.foldl_cons,List.foldl_nil,Q1 hy,Q1 hc]
theorem zbY {S cs:List Int}{x:Int}(h:∀ c∈cs,0≤c):∀ k,0≤zgv S cs x k∧zgv S cs x k≤1073741824
 | 0=>by unfold zgv;simp
 | k+1=>by
  have ih:=zbY (S:=S) (x:=x) h k
  have e:zgv S cs x (k+1)=JT (zgv S cs x k) (Va x (S.getD k 0)+cs.getD k 0):=by unfold zgv;rw [List.range_succ,List.foldl_append];rfl
  have h1:0≤cs.getD k 0:=by
   unfold List.getD
   cases hc:cs[k]? with
   | none=>exact Int.le_refl _
   | some c=>exact h c (List.mem_of_getElem? hc)
  have h2:=(Ud x (S.getD k 0)).1
  rw [e]
  unfold JT
  split<;>omega
def Uo (S A B:List Int)(j:Nat)(x:Int):Int:=(if 0<j then XS S A x else 0)+(if 1<j then XS S B x else 0)
theorem zhs {S A B:List Int}{j:Nat}{x:Int}(hj:j<2):Uo S A B j x+XS S (if j=0 then A else B) x=Uo S A B (j+1) x:=by
 unfold Uo
 rcases (show j=0∨j=1 by omega) with rfl | rfl<;>simp
theorem zi0 {S A B:List Int}{x:Int}(hA:∀ c∈A,0≤c)(hB:∀ c∈B,0≤c)(j:Nat):0≤Uo S A B j x∧Uo S A B j x≤2147483648:=by
 have a:0≤XS S A x∧XS S A x≤1073741824:=zbY hA S.length
 have b:0≤XS S B x∧XS S B x≤1073741824:=zbY hB S.length
 unfold Uo
 split<;>split<;>omega
def rcF (S:List Int)(u:Nat→Int)(cl:List Int):Nat→Int→List Int
 | 0,_=>[]
 | f+1,s=>if Z6 s=true then S.map (WS (u (KK s))) else S.map (Uo S (rcF S u cl f (Qx cl s)) (rcF S u cl f (s-Qx cl s)) 2)
theorem zvD {S:List Int}{u:Nat→Int}{cl:List Int}{f:Nat}{s:Int}(h:Z6 s=true):rcF S u cl (f+1) s=S.map (WS (u (KK s))):=by simp only [rcF];rw [if_pos h]
theorem zvM {S:List Int}{u:Nat→Int}{cl:List Int}{f:Nat}{s:Int}(h:Z6 s=false):rcF S u cl (f+1) s=S.map (Uo S (rcF S u cl f (Qx cl s)) (rcF S u cl f (s-Qx cl s)) 2):=by simp only [rcF];rw [if_neg (by rw [h];decide)]
theorem zj0 {S:List Int}{u:Nat→Int}{cl:List Int}:∀ (f:Nat) (s:Int),∀ c∈rcF S u cl f s,0≤c∧c≤2147483648
 | 0,_,c,h=>by cases h
 | f+1,s,c,h=>by
  cases h1:Z6 s with
  | true=>
   rw [zvD h1] at h
   obtain ⟨x,_,rfl⟩:=List.mem_map.1 h
   unfold WS;split<;>omega
  | false=>
   rw [zvM h1] at h
   obtain ⟨x,_,rfl⟩:=List.mem_map.1 h
   exact zi0 (fun c hc=>(zj0 f _ c hc).1) (fun c hc=>(zj0 f _ c hc).1) 2
theorem zuM {S:List Int}{u:Nat→Int}{cl:List Int}{f:Nat}{s:Int}:(rcF S u cl (f+1) s).length=S.length:=by
 cases h1:Z6 s with
 | true=>rw [zvD h1,List.length_map]
 | false=>rw [zvM h1,List.length_map]
def Wa (S:List Int)(g h:Int→Int)(i:Nat):List Int:=(S.take i).map g++(S.drop i).map h
theorem zh4 {S:List Int}{g h:Int→Int}:Wa S g h 0=S.map h:=by unfold Wa;simp
theorem ziI {S:List Int}{g h:Int→Int}{i:Nat}(hi:S.length≤i):Wa S g h i=S.map g:=by unfold Wa;rw [List.take_of_length_le hi,List.drop_eq_nil_of_le hi];simp
theorem zj7 {S:List Int}{g h:Int→Int}{i:Nat}:(Wa S g h i).length=S.length:=by unfold Wa;rw [List.length_append,List.length_map,List.length_map,←List.length_append,List.take_append_drop]
theorem zvl {S:List Int}{g h:Int→Int}{i:Nat}{x:Int}(hx:S[i]? =some x):(Wa S g h i)[i]? =some (h x):=by
 have hi:=(List.getElem?_eq_some_iff.1 hx).1
 have hl:((S.take i).map g).length=i:=by rw [List.length_map,List.length_take];omega
 unfold Wa
 rw [List.getElem?_append_right (by omega),hl,Nat.sub_self,Z2 hx];rfl
theorem zhS {S:List Int}{g h:Int→Int}{i:Nat}{x:Int}(hx:S[i]? =some x):(Wa S g h i).set i (g x)=Wa S g h (i+1):=by
 have hi:=(List.getElem?_eq_some_iff.1 hx).1
 have hl:((S.take i).map g).length=i:=by rw [List.length_map,List.length_take];omega
 unfold Wa
 rw [List.set_append_right _ _ (by omega),hl,Nat.sub_self,Z2 hx,List.map_cons,List.set_cons_zero,Xj hx,List.append_assoc];rfl
theorem zlv {S:List Int}{g h:Int→Int}{i:Nat}{x:Int}(hx:S[i]? =some x)(e:g x=h x):Wa S g h i=Wa S g h (i+1):=by
 unfold Wa
 rw [Z2 hx,Xj hx,List.append_assoc,List.map_cons,e];rfl
theorem zhT {S:List Int}{g h:Int→Int}(e:∀ x,h x=0):List.replicate S.length (0:Int)=Wa S g h 0:=by
 rw [zh4]
 induction S with
 | nil=>rfl
 | cons x S ih=>rw [List.map_cons,e,List.length_cons,List.replicate_succ,ih]
theorem zub {s:Int}(hs:1≤s∧s≤63)(h:Z6 s=true):KK s<6:=by
 have e:=zgW hs h
 by_cases h6:KK s<6
 ·
  exact h6
 ·
  have:2^6≤2^KK s:=Nat.pow_le_pow_right (by decide) (by omega)
  omega
theorem znC {s:Int}{w:Nat}(hs:1≤s∧s≤63)(h:Z6 s=true)(hw:w≤KK s):(IntKind.i64.wrap (1*2^(min ((w:Nat):Int).toNat IntKind.i64.bits)) != s)=decide (w<KK s):=by
 have h6:=zub hs h
 have e:=zgW hs h
 rw [zsF (by omega)]
 by_cases hl:w<KK s
 ·
  rw [decide_eq_true hl,bne_iff_ne]
  intro e2
  have:w=KK s:=zq4 (by omega) h6 (by omega)
  omega
 ·
  rw [decide_eq_false hl,bne_eq_false_iff_eq]
  have:w=KK s:=by omega
  rw [this];omega
structure RtE (I:Qu)(fid bst brow bloc bcla bse:Nat)(sv bv av:Option Addr)(ns cs n2 c2 n c:Nat)(St xs:List Int)(rows:List (List Int))(l:Nat):Prop where
 st:QU I [] bst 0 (.slice sv ns cs)
 row:QU I [] brow 0 (.slice bv n2 c2)
 loc:QU I [] bloc 0 (.int .i64 l)
 cla:QU I [] bcla 0 (.slice av n c)
 se:QU I [] bse 0 (.func (.func fid) #[] #[Zb bst,Zb brow,Zb bloc,Zb bcla,Zb bse])
 hT:Sl I 1 QR sv ns cs St
 hS:Sl I 1 QR av n c xs
 hV:SlN I bv n2 c2 rows
theorem RtE.mono {I I':Qu}{fid bst brow bloc bcla bse:Nat}{sv bv av:Option Addr}{ns cs n2 c2 n c:Nat}{St xs:List Int}{rows:List (List Int)}{l:Nat}(h:RtE I fid bst brow bloc bcla bse sv bv av ns cs n2 c2 n c St xs rows l)(hI:HLe I I'):RtE I' fid bst brow bloc bcla bse sv bv av ns cs n2 c2 n c St xs rows l:=
 ⟨h.st.mono hI,h.row.mono hI,h.loc.mono hI,h.cla.mono hI,h.se.mono hI,h.hT.mono hI,h.hS.mono hI,h.hV.mono hI⟩
end
section
open Go Go.Kn Go.Proofs
theorem znI:Fun Tryz.prog 93:=.of Tryz.func93 (by kernel_rfl) (by kernel_rfl)
theorem zsG:Fun Tryz.prog 94:=.of Tryz.func94 (by kernel_rfl) (by kernel_rfl)
theorem zsM:Fun Tryz.prog 95:=.of Tryz.func95 (by kernel_rfl) (by kernel_rfl)
theorem ziS:ScT Tryz.prog 174:=.of (by kernel_rfl)
theorem zlF (I:Qu)(x y:Int):Zw Tryz.prog 95 [.int .i64 x,.int .i64 y] I (.int .i64 (Va x y)):=by
 intro g H w hw
 refine qe Tryz.func95 Tryz.ntmps95 hw ?_
 refine zR (zA (zN (Ql (Qm (zR ?_)))))
 refine zM ?_
 refine zM ?_
 refine zC ?_
 refine zA (zN ?_)
 refine zI ?_ ?_<;>intro hc5
 ·
  refine zR (zA (zN (Qt (Qn (Qc ?_)))))
  first
  | exact zr rfl rfl (by unfold Va;rw [if_pos (by simpa using hc5)])
 refine zR (zM ?_)
 refine zC ?_
 refine zA (zN ?_)
 refine zI ?_ ?_<;>intro hc9
 ·
  refine zR (zA (zN (Qt (Qn (Qc ?_)))))
  first
  | exact zr rfl rfl (by unfold Va;rw [if_neg (by simpa using hc5),if_pos (by simpa using hc9)])
 refine zR (zM ?_)
 refine zC ?_
 refine zA (zN ?_)
 refine zI ?_ ?_<;>intro hc12
 ·
  refine zR (zA (zN (Qt (Qn (Qc ?_)))))
  first
  | exact zr rfl rfl (by unfold Va;rw [if_neg (by simpa using hc5),if_neg (by simpa using hc9),if_pos (by simpa using hc12)])
 refine Qo (Qh (Qa (zR (zA (zN (Qt ?_))))))
 first
 | exact zr rfl rfl (by unfold Va;rw [if_neg (by simpa using hc5),if_neg (by simpa using hc9),if_neg (by simpa using hc12)])
theorem zmk {I:Qu}{av:Option Addr}{n c m:Nat}{xs:List Int}(hS:Sl I 1 QR av n c xs)(hn:n≤100000)(hc:VY m xs=0){s:Int}(hin:s∈xs):Zw Tryz.prog 94 [.int .i64 m,.slice av n c,.int .i64 s] I (.tuple #[.int .i64 (Qx xs s),.int .i64 (s-Qx xs s),.int .i64 0]):=by
 have h:=zrE hS hn (m:Int) s
 have e:YP (m:Int) xs s=0:=zb4 hc (List.any_eq_true.2 ⟨s,hin,by simp⟩)
 obtain ⟨e1,e2⟩:=zgj (m:=(m:Int)) (cl:=xs) (s:=s)
 rw [e1,e2,e] at h
 unfold zaI zaG at h
 rw [if_neg (by omega),if_neg (by omega)] at h
 exact h
theorem zkE {I:Qu}{bst brow bloc bcla bse:Nat}{sv bv av:Option Addr}{ns cs n2 c2 n c:Nat}{St xs:List Int}{rows:List (List Int)}{l:Nat}(hE:RtE I 93 bst brow bloc bcla bse sv bv av ns cs n2 c2 n c St xs rows l)(hn:n≤100000)(hn2:n2≤100000)(hns:ns≤1000)(hl:∀ r∈rows,l<r.length)(hc:VY rows.length xs=0)(f:Nat)(s:Int)(hok:OkS rows.length xs s)(hf:1<s→1≤f)(ih:∀ (I':Qu),HLe I I'→∀ (s':Int),OkS rows.length xs s'→s'<s→Yg Tryz.prog 93 ([.int .i64 s']++[Zb bst,Zb brow,Zb bloc,Zb bcla,Zb bse]) I' [] (zbT 1 QR (rcF St (uF rows l) xs f s'))):Yg Tryz.prog 93 [.int .i64 s,Zb bst,Zb brow,Zb bloc,Zb bcla,Zb bse] I [] (zbT 1 QR (rcF St (uF rows l) xs (f+1) s)):=by
 intro g H w hw
 refine qe Tryz.func93 Tryz.ntmps93 hw ?_
 have hIc:=zye I
 have hVl:=hE.hV.len
 subst hVl
 have hTl:=hE.hT.len
 subst hTl
 obtain ⟨hs,hV⟩:=hE.hV
 have hH:=hV.1
 have hal:=(ZW hc).1
 have hal6:=(ZW hc).2.1
 have hs63:=zgg hc hok
 refine zR (zA ?_)
 refine zN (zR ?_)
 refine zV (Qd rfl QK (fun hg=>by exact hE.st.any)) ?_
 refine zQ Qy ?_
 refine Q3 YI rfl rfl (by omega) (by decide) rfl rfl (fun b_26=>?_)
 refine zA (Qb ?_)
 have e0:((St.length:Nat):Int).toNat=St.length:=rfl
 rw [e0,Q2]
 refine Qa (Ql (zR (zM ?_)))
 refine zM ?_
 refine zB ?_
 refine zV (Xo rfl rfl) ?_
 refine zC (zN ?_)
 refine zI ?_ ?_<;>intro hc31
 ·
  have hsing:Z6 s=true:=by unfold Z6;rw [decide_eq_true (show s>0 by omega),Bool.true_and,zvt hs63];exact hc31
  have hwn:=zsE (n:=rows.length) (by omega) hs63 hsing hok.2.1
  have hw6:=zub hs63 hsing
  refine zR (zA (zN (Ql (Qm ?_))))
  refine zU [(0,_),(1,_),(2,_),(3,_),(8,_)] (fun T L0 mz E I' loc'=>∃ (k:Nat),mz=(KK s)-k∧E=(9,.int .i64 k)::T∧I=I'∧[(b_26,.cells (Zh (List.replicate St.length 0)) 3 (0,0))]=loc'∧k≤(KK s)) ?_ (h:=⟨0,rfl,rfl,rfl,rfl,Nat.zero_le _⟩)
  rintro mz E I' loc' ⟨k,rfl,rfl,rfl,rfl,hk⟩
  refine Ql (zR (zM ?_))
  refine zV (Xu rfl rfl (fun hg=>by omega)) ?_
  refine zM ?_
  refine zC (zN ?_)
  refine zI ?_ ?_<;>intro hc35
  ·
   have hlt_k:k<KK s:=by rw [znC hs63 hsing hk] at hc35;simpa using hc35
   refine Qo (Qa (Qm (Qg (zM ?_))))
   refine zB ?_
   refine zA (Qb (Qh ?_))
   exact zm (h:=⟨(KK s)-(k+1),by omega,k+1,rfl,rfl,rfl,rfl,by omega⟩)
  have hge_k:k=KK s:=by rw [znC hs63 hsing hk] at hc35;simp at hc35;omega
  subst hge_k
  obtain ⟨x,v,hx,hv,hQ⟩:=hV.at hwn
  have hlv:=hl v (List.mem_of_getElem? hv)
  have hu:=Zk (d:=0) rfl hlv
  have hvn:=hQ.len
  have hUF:uF rows l (KK s)=v.getD l 0:=by unfold uF;rw [Q1 hv]
  rw [zhT (g:=(WS (uF rows l (KK s)))) (h:=(fun _=>0)) (fun _=>rfl)]
  refine QI (Qf (Qf (Qk (Qa (Ql (zR ?_))))))
  refine zV (Qd rfl QK (fun hg=>by exact hE.st.any)) ?_
  refine zQ Qy ?_
  refine zM (zN (Qm ?_))
  refine zU [(2,_),(3,_),(8,_),(9,_),(38,_),(39,_)] (fun T L0 mz E I' loc'=>∃ (i:Nat),mz=St.length-i∧E=(40,.int .i64 i)::T∧I=I'∧[(b_26,.cells (Zh (Wa St (WS (uF rows l (KK s))) (fun _=>0) i)) 3 (0,0))]=loc'∧i≤St.length) ?_ (h:=⟨0,rfl,rfl,rfl,rfl,Nat.zero_le _⟩)
  rintro mz E I' loc' ⟨i,rfl,rfl,rfl,rfl,hi⟩
  refine zR (zC (zN (Ql ?_)))
  refine zI ?_ ?_<;>intro hc41
  ·
   have hlt_i:i<St.length:=by have h:=hc41;simp at h;omega
   obtain ⟨y,hst⟩:=hE.hT.at hlt_i
   refine Qo (Qa (Ql (Qm (zR (zM ?_)))))
   refine zV (QF rfl rfl Qy hE.hT (fun hg=>by omega)) ?_
   refine zV (Qd rfl Qs (fun hg=>by exact zx7 (hE.hT) hst rfl)) ?_
   refine zA ?_
   refine zA (zN (Ql ?_))
   refine YU mixed (by kernel_rfl) ?_
   refine zq (Qd rfl Kl (fun hg=>by exact hE.row.any)) ?_
   refine zq (Qi rfl) ?_
   refine zq (zX Zo hH) ?_
   refine zq (Qd rfl QK (fun hg=>by exact zx7 hH hx rfl)) ?_
   refine zq (Qd rfl Qs (fun hg=>by exact hE.loc.any)) ?_
   refine zq (zX Qy hQ) ?_
   refine zq (Qd rfl Qs (fun hg=>by exact zx7 hQ hu rfl)) ?_
   refine zq (ZP rfl) ?_
   refine YV ?_
   refine Qa (zR (zM ?_))
   refine zC ?_
   refine zM ?_
   refine QE 2 rfl rfl rfl ?_
   refine zK (Qi rfl) ?_
   refine zK (Qi rfl) ?_
   refine zK (QH rfl rfl rfl) ?_
   refine QP rfl rfl rfl rfl rfl ?_
   refine zN ?_
   refine zI ?_ ?_<;>intro hc58
   ·
    have hgy:(WS (uF rows l (KK s))) y=1073741824:=by unfold WS;rw [hUF,if_pos (by simpa using hc58)]
    refine Qg (zM ?_)
    refine zM ?_
    refine zV (Q6 rfl rfl Qy (fun hg=>by omega)) ?_
    refine ZI rfl rfl Yi rfl rfl (by repeat (first | exact Upd.here | apply Upd.there | apply QJ)) (zvv (by rw [zj7];omega)) ?_
    refine Qb ?_
    rw [Vm,show (Wa St (WS (uF rows l (KK s))) (fun _=>0) i).set i 1073741824=Wa St (WS (uF rows l (KK s))) (fun _=>0) (i+1) from by rw [←zhS hst,hgy]]
    refine Qh (Qa (Qg (zB ?_)))
    refine zM (Qb ?_)
    exact zm (h:=⟨St.length-(i+1),by omega,i+1,rfl,rfl,rfl,rfl,by omega⟩)
   have hgy:(WS (uF rows l (KK s))) y=0:=by unfold WS;rw [hUF,if_neg (by rw [hc58];decide)]
   rw [zlv hst hgy]
   refine Qo (Qh (Qa (Qg (zB ?_))))
   refine zM (Qb ?_)
   exact zm (h:=⟨St.length-(i+1),by omega,i+1,rfl,rfl,rfl,rfl,by omega⟩)
  have hge_i:St.length≤i:=by have h:=hc41;simp at h;omega
  rw [ziI hge_i]
  refine QI (Qf (Qf (Qk (Qa (zR (zM ?_))))))
  refine zA (zN (Qt (Qc ?_)))
  first
  | exact Zv rfl rfl (fun w hw=>by obtain ⟨I9,h91,h92,h93⟩:=OwnS.res (zfx (by rw [List.length_map]) (by omega)) Qv (by decide) hw;rw [←zvD (f:=f) (cl:=xs) hsing] at h93;exact ⟨_,I9,[],rfl,hIc.trans h91,h92,h93⟩)
 have hns0:Z6 s=false:=by unfold Z6;rw [decide_eq_true (show s>0 by omega),Bool.true_and,zvt hs63];exact hc31
 obtain ⟨hin,ok1,ok2,hp1,hp2,_,_⟩:=V5 hc hok hns0
 obtain ⟨f0,rfl⟩:∃ f0,f=f0+1:=⟨f-1,by have:=hf (by omega);omega⟩
 rw [zhT (g:=(Uo St (rcF St (uF rows l) xs (f0+1) (Qx xs s)) (rcF St (uF rows l) xs (f0+1) (s-Qx xs s)) 0)) (h:=(Uo St (rcF St (uF rows l) xs (f0+1) (Qx xs s)) (rcF St (uF rows l) xs (f0+1) (s-Qx xs s)) 0)) (fun _=>by unfold Uo;simp)]
 refine Qo (Qa (zR ?_))
 refine zV (Qd rfl Kl (fun hg=>by exact hE.row.any)) ?_
 refine zQ Zo ?_
 refine zV (Qd rfl QK (fun hg=>by exact hE.cla.any)) ?_
 refine zM ?_
 refine qc (vs:=[_,_,_]) rfl zsG (zmk hE.hS hn hc hin) ?_
 refine zM ?_
 refine zE ?_
 refine zE ?_
 refine zE ?_
 refine zA ?_
 refine zA ?_
 refine zA (zN (Ql (zR ?_)))
 refine zM ?_
 refine zM ?_
 refine Qq (ps:=[(0,_),(1,_)]) (m:=[QR (Qx xs s),QR (s-Qx xs s)]) Zi rfl (.cons rfl (.cons rfl (.nil))) rfl (by simp [Qv]) (by decide) (by decide) rfl rfl (fun b_75=>?_)
 refine ZY (b:=b_75) (by repeat (first | exact Q7.here | apply Q7.there)) (fun I3 hI3 hb3=>?_)
 have hE:=hE.mono hI3;have hIc:=hIc.trans hI3
 have hAB:Sl I3 1 QR (some ⟨b_75,0,none⟩) 2 2 ([Qx xs s,s-Qx xs s]:List Int):=Sl.lit ([Qx xs s,s-Qx xs s]:List Int) rfl Qv (show _=some (Obj.cells (([Qx xs s,s-Qx xs s]:List Int).flatMap QR).toArray 3 (0,0)) from hb3)
 refine zQ Qy ?_
 refine zM (zN (Qm ?_))
 refine zU [(1,_),(5,_),(8,_),(75,_),(76,_)] (fun T L0 mz E I' loc'=>∃ (j:Nat),mz=2-j∧E=(77,.int .i64 j)::T∧HLe I3 I'∧[(b_26,.cells (Zh (Wa St (Uo St (rcF St (uF rows l) xs (f0+1) (Qx xs s)) (rcF St (uF rows l) xs (f0+1) (s-Qx xs s)) j) (Uo St (rcF St (uF rows l) xs (f0+1) (Qx xs s)) (rcF St (uF rows l) xs (f0+1) (s-Qx xs s)) j) 0)) 3 (0,0))]=loc'∧j≤2) ?_ (h:=⟨0,rfl,rfl,zye _,rfl,Nat.zero_le _⟩)
 rintro mz E J4 loc' ⟨j,rfl,rfl,hJ,rfl,hj⟩
 have hE:=hE.mono hJ;have hAB:=hAB.mono hJ;have hIc:=hIc.trans hJ
 have hB4:=hJ
 refine zR (zC (zN (Ql ?_)))
 refine zI ?_ ?_<;>intro hc78
 ·
  have hlt_j:j<2:=by have h:=hc78;simp at h;omega
  obtain ⟨q,hpj,hpe,okp,hpl⟩:∃ q,([Qx xs s,s-Qx xs s]:List Int)[j]? =some q∧(rcF St (uF rows l) xs (f0+1) (q))=(if j=0 then (rcF St (uF rows l) xs (f0+1) (Qx xs s)) else (rcF St (uF rows l) xs (f0+1) (s-Qx xs s)))∧OkS rows.length xs q∧q<s:=by
   rcases (show j=0∨j=1 by omega) with rfl | rfl
   ·
    exact ⟨_,rfl,rfl,ok1,by omega⟩
   exact ⟨_,rfl,rfl,ok2,by omega⟩
  have hcl:(if j=0 then (rcF St (uF rows l) xs (f0+1) (Qx xs s)) else (rcF St (uF rows l) xs (f0+1) (s-Qx xs s))).length=St.length:=by split<;>exact zuM
  have hci:∀ c∈(if j=0 then (rcF St (uF rows l) xs (f0+1) (Qx xs s)) else (rcF St (uF rows l) xs (f0+1) (s-Qx xs s))),0≤c∧c≤2147483648:=by split<;>exact zj0 _ _
  rw [show Wa St (Uo St (rcF St (uF rows l) xs (f0+1) (Qx xs s)) (rcF St (uF rows l) xs (f0+1) (s-Qx xs s)) j) (Uo St (rcF St (uF rows l) xs (f0+1) (Qx xs s)) (rcF St (uF rows l) xs (f0+1) (s-Qx xs s)) j) 0=Wa St (Uo St (rcF St (uF rows l) xs (f0+1) (Qx xs s)) (rcF St (uF rows l) xs (f0+1) (s-Qx xs s)) (j+1)) (Uo St (rcF St (uF rows l) xs (f0+1) (Qx xs s)) (rcF St (uF rows l) xs (f0+1) (s-Qx xs s)) j) 0 by rw [zh4,zh4]]
  refine Qo (Qa (Ql (Qm (zR ?_))))
  refine zV (zX Qy hAB) ?_
  refine zV (Qd rfl Qs (fun hg=>by exact zx7 hAB hpj rfl)) ?_
  refine zA ?_
  refine zN (zR ?_)
  refine zV (Qd rfl ziS (fun hg=>by exact hE.se.any)) ?_
  refine zM ?_
  refine Qz (cap:=[Zb bst,Zb brow,Zb bloc,Zb bcla,Zb bse]) (vs:=[_]) rfl rfl znI (by exact .nil) (ih _ hIc _ okp hpl) rfl rfl ?_
  rintro vv5 I5 L5 hI5 ⟨rfl,aC,cC,rfl,hBl⟩
  have hE:=hE.mono hI5;have hB4:=hB4.trans hI5
  rw [hpe] at hBl ⊢
  refine zA ?_
  refine zN (zR ?_)
  refine zV (Qd rfl QK (fun hg=>by exact hE.st.any)) ?_
  refine zQ Qy ?_
  refine zM (zN (Qm ?_))
  refine zU [(1,_),(5,_),(8,_),(18,_),(75,_),(76,_),(77,_),(84,_),(85,_)] (fun T L0 mz E I' loc'=>∃ (i:Nat),mz=St.length-i∧E=(86,.int .i64 i)::T∧I5=I'∧[(b_26,.cells (Zh (Wa St (Uo St (rcF St (uF rows l) xs (f0+1) (Qx xs s)) (rcF St (uF rows l) xs (f0+1) (s-Qx xs s)) (j+1)) (Uo St (rcF St (uF rows l) xs (f0+1) (Qx xs s)) (rcF St (uF rows l) xs (f0+1) (s-Qx xs s)) j) i)) 3 (0,0))]=loc'∧i≤St.length) ?_ (h:=⟨0,rfl,rfl,rfl,rfl,Nat.zero_le _⟩)
  rintro mz E I' loc' ⟨i,rfl,rfl,rfl,rfl,hi⟩
  refine zR (zC (zN (Ql ?_)))
  refine zI ?_ ?_<;>intro hc87
  ·
   have hlt_i:i<St.length:=by have h:=hc87;simp at h;omega
   obtain ⟨y,hst⟩:=hE.hT.at hlt_i
   have hti:=zi0 (S:=St) (A:=(rcF St (uF rows l) xs (f0+1) (Qx xs s))) (B:=(rcF St (uF rows l) xs (f0+1) (s-Qx xs s))) (x:=y) (fun c h=>(zj0 _ _ c h).1) (fun c h=>(zj0 _ _ c h).1) j
   refine Qo (Qa (Ql (Qm (zR (zM ?_)))))
   refine zV (QF rfl rfl Qy hE.hT (fun hg=>by omega)) ?_
   refine zV (Qd rfl Qs (fun hg=>by exact zx7 (hE.hT) hst rfl)) ?_
   refine zA ?_
   refine zA ?_
   refine zN (zR ?_)
   refine zA (zN (Ql (zR ?_)))
   refine zV (Qd rfl QK (fun hg=>by exact hE.st.any)) ?_
   refine zQ Qy ?_
   refine zM (zN (Qm ?_))
   refine zU [(1,_),(5,_),(8,_),(18,_),(19,_),(20,_),(75,_),(76,_),(77,_),(84,_),(85,_),(86,_),(91,_),(92,_)] (fun T L0 mz E I' loc'=>∃ (k:Nat),mz=St.length-k∧E=(21,.int .i64 (zgv St (if j=0 then (rcF St (uF rows l) xs (f0+1) (Qx xs s)) else (rcF St (uF rows l) xs (f0+1) (s-Qx xs s))) y k))::(93,.int .i64 k)::T∧I5=I'∧[(b_26,.cells (Zh (Wa St (Uo St (rcF St (uF rows l) xs (f0+1) (Qx xs s)) (rcF St (uF rows l) xs (f0+1) (s-Qx xs s)) (j+1)) (Uo St (rcF St (uF rows l) xs (f0+1) (Qx xs s)) (rcF St (uF rows l) xs (f0+1) (s-Qx xs s)) j) i)) 3 (0,0))]=loc'∧k≤St.length) ?_ (h:=⟨0,rfl,rfl,rfl,rfl,Nat.zero_le _⟩)
   rintro mz E I' loc' ⟨k,rfl,rfl,rfl,rfl,hk⟩
   refine zR (zC (zN (Ql ?_)))
   refine zI ?_ ?_<;>intro hc94
   ·
    have hlt_k:k<St.length:=by have h:=hc94;simp at h;omega
    obtain ⟨yk,hsk⟩:=hE.hT.at hlt_k
    obtain ⟨ck,hck⟩:=hBl.at (show k<_ by omega)
    have hcki:=hci ck (List.mem_of_getElem? hck)
    have hsti:=Ud y yk
    refine Qo (Qa (Ql (Qm (zR (zM ?_)))))
    refine zV (QF rfl rfl Qy hE.hT (fun hg=>by omega)) ?_
    refine zV (Qd rfl Qs (fun hg=>by exact zx7 (hE.hT) hsk rfl)) ?_
    refine zA ?_
    refine zA (zN ?_)
    refine YU mixed (by kernel_rfl) ?_
    refine zq (Qi rfl) ?_
    refine zq (Qi rfl) ?_
    refine zq (Qi rfl) ?_
    refine Jj (cap:=[]) (vs:=[_,_]) rfl rfl zsM (zlF _ _ _) rfl rfl ?_
    refine zq (Qi rfl) ?_
    refine zq (Qi rfl) ?_
    refine zq (zX Qy hBl) ?_
    refine zq (Qd rfl Qs (fun hg=>by exact zx7 hBl hck rfl)) ?_
    refine zq (ZO rfl rfl rfl (fun hg=>by omega)) ?_
    refine zq (zmZ rfl rfl) ?_
    refine zq (ZP rfl) ?_
    refine YV ?_
    rw [←zhY hsk hck]
    refine Qh (Qa (Qg (zB ?_)))
    refine zM (Qb ?_)
    exact zm (h:=⟨St.length-(k+1),by omega,k+1,rfl,rfl,rfl,rfl,by omega⟩)
   have hge_k:St.length≤k:=by have h:=hc94;simp at h;omega
   rw [show k=St.length by omega]
   have hmni:=zbY (S:=St) (x:=y) (fun c h=>(hci c h).1) St.length
   refine QI (Qf (Qf (Qk (Qa (Qg (zM ?_))))))
   refine zM ?_
   refine zV (Q6 rfl rfl Qy (fun hg=>by omega)) ?_
   refine zV (Qd rfl Qs (fun hg=>by exact V0 (zvl hst))) ?_
   refine zM ?_
   refine zB ?_
   refine zV (Q6 rfl rfl Qy (fun hg=>by omega)) ?_
   refine ZI rfl rfl Yi rfl rfl (by repeat (first | exact Upd.here | apply Upd.there | apply QJ)) (zvv (by rw [zj7];omega)) ?_
   refine Qb ?_
   rw [Vm,show (Wa St (Uo St (rcF St (uF rows l) xs (f0+1) (Qx xs s)) (rcF St (uF rows l) xs (f0+1) (s-Qx xs s)) (j+1)) (Uo St (rcF St (uF rows l) xs (f0+1) (Qx xs s)) (rcF St (uF rows l) xs (f0+1) (s-Qx xs s)) j) i).set i ((Uo St (rcF St (uF rows l) xs (f0+1) (Qx xs s)) (rcF St (uF rows l) xs (f0+1) (s-Qx xs s)) j) y+zgv St (if j=0 then (rcF St (uF rows l) xs (f0+1) (Qx xs s)) else (rcF St (uF rows l) xs (f0+1) (s-Qx xs s))) y St.length)=Wa St (Uo St (rcF St (uF rows l) xs (f0+1) (Qx xs s)) (rcF St (uF rows l) xs (f0+1) (s-Qx xs s)) (j+1)) (Uo St (rcF St (uF rows l) xs (f0+1) (Qx xs s)) (rcF St (uF rows l) xs (f0+1) (s-Qx xs s)) j) (i+1) from by rw [←zhS hst,←zhs hlt_j];rfl]
   refine Qh (Qa (Qg (zB ?_)))
   refine zM (Qb ?_)
   exact zm (h:=⟨St.length-(i+1),by omega,i+1,rfl,rfl,rfl,rfl,by omega⟩)
  have hge_i:St.length≤i:=by have h:=hc87;simp at h;omega
  rw [show Wa St (Uo St (rcF St (uF rows l) xs (f0+1) (Qx xs s)) (rcF St (uF rows l) xs (f0+1) (s-Qx xs s)) (j+1)) (Uo St (rcF St (uF rows l) xs (f0+1) (Qx xs s)) (rcF St (uF rows l) xs (f0+1) (s-Qx xs s)) j) i=Wa St (Uo St (rcF St (uF rows l) xs (f0+1) (Qx xs s)) (rcF St (uF rows l) xs (f0+1) (s-Qx xs s)) (j+1)) (Uo St (rcF St (uF rows l) xs (f0+1) (Qx xs s)) (rcF St (uF rows l) xs (f0+1) (s-Qx xs s)) (j+1)) 0 by rw [ziI hge_i,zh4]]
  refine QI (Qf (Qf (Qk (Qh (Qa (Qg (zB ?_)))))))
  refine zM (Qb ?_)
  exact zm (h:=⟨2-(j+1),by omega,j+1,rfl,rfl,hB4,rfl,by omega⟩)
 have hge_j:2≤j:=by have h:=hc78;simp at h;omega
 rw [show j=2 by omega,zh4]
 refine QI (Qf (Qf (Qk (Qa (zR (zM ?_))))))
 refine zA (zN (Qt ?_))
 first
 | exact Zv rfl rfl (fun w hw=>by obtain ⟨I9,h91,h92,h93⟩:=OwnS.res (zfx (by rw [List.length_map]) (by omega)) Qv (by decide) hw;rw [←zvM (f:=f0+1) hns0] at h93;exact ⟨_,I9,[],rfl,hIc.trans h91,h92,h93⟩)
end
section
open Go Go.Kn
theorem zfA (d:Array Int)(hs:∀ j,0<j→j<d.size→d[j-1]! ≤d[j]!):∀ m,m≤d.size→(Lib.compactUpTo d m).Pairwise (· < ·)∧(∀ x∈Lib.compactUpTo d m,0<m∧x≤d[m-1]!)∧∀ x,x∈Lib.compactUpTo d m↔ ∃ j,j<m∧d[j]! =x
 | 0,_=>⟨.nil,(fun x h=>by cases h),fun x=>⟨(fun h=>by cases h),fun ⟨j,h,_⟩=>by omega⟩⟩
 | m+1,hm=>by
  obtain ⟨h1,h2,h3⟩:=zfA d hs m (by omega)
  rw [Lib.compactUpTo_succ]
  by_cases hk:Lib.keeps d m=true
  ·
   rw [if_pos hk]
   have hlt:∀ x∈Lib.compactUpTo d m,x<d[m]! :=fun x hx=>by
    obtain ⟨a,b⟩:=h2 x hx
    have h4:=hs m a (by omega)
    unfold Lib.keeps at hk
    have h5:=of_decide_eq_true hk
    omega
   refine ⟨?_,?_,?_⟩
   ·
    rw [List.pairwise_append]
    exact ⟨h1,List.pairwise_singleton ..,fun y hy z hz=>by rw [List.mem_singleton] at hz;rw [hz];exact hlt y hy⟩
   ·
    intro x hx
    refine ⟨by omega,?_⟩
    rw [show m+1-1=m from by omega]
    rcases List.mem_append.1 hx with hx | hx
    ·
     have:=hlt x hx;omega
    ·
     rw [List.mem_singleton] at hx;rw [hx];exact Int.le_refl _
   ·
    intro x
    rw [List.mem_append,h3,List.mem_singleton]
    constructor
    ·
     rintro (⟨j,a,b⟩ | e)
     ·
      exact ⟨j,by omega,b⟩
     ·
      exact ⟨m,by omega,e.symm⟩
    ·
     rintro ⟨j,a,b⟩
     by_cases e:j=m
     ·
      subst e;exact .inr b.symm
     ·
      exact .inl ⟨j,by omega,b⟩
  ·
   rw [if_neg hk,List.append_nil]
   unfold Lib.keeps at hk
   have h5:¬(m=0∨d[m]! ≠d[m-1]!):=fun h=>hk (decide_eq_true h)
   have h6:0<m∧d[m]! =d[m-1]! :=by omega
   refine ⟨h1,?_,?_⟩
   ·
    intro x hx
    have:=h2 x hx
    rw [show m+1-1=m from by omega]
    omega
   ·
    intro x
    rw [h3]
    constructor
    ·
     rintro ⟨j,a,b⟩;exact ⟨j,by omega,b⟩
    ·
     rintro ⟨j,a,b⟩
     by_cases e:j=m
     ·
      subst e;exact ⟨j-1,by omega,by rw [←h6.2];exact b⟩
     ·
      exact ⟨j,by omega,b⟩
theorem Kv (zs:List Int):(Lib.compact (YC zs)).Pairwise (· < ·)∧∀ x,x∈Lib.compact (YC zs)↔x∈zs:=by
 have hp:(YC zs).Pairwise (fun a b=>decide (a≤b)=true):=List.pairwise_mergeSort (by intro a b c;simp;omega) (by intro a b;simp;omega) zs
 have hget:∀ j,j<(YC zs).length→(YC zs).toArray[j]! =(YC zs)[j]! :=fun j hj=>by simp
 have hs:∀ j,0<j→j<(YC zs).toArray.size→(YC zs).toArray[j-1]! ≤(YC zs).toArray[j]! :=by
  intro j h0 hj
  have hj':j<(YC zs).length:=by simpa using hj
  have h1:=List.pairwise_iff_getElem.1 hp (j-1) j (by omega) hj' (by omega)
  have h2:=of_decide_eq_true h1
  simpa [hj',show j-1<(YC zs).length from by omega] using h2
 obtain ⟨h1,_,h3⟩:=zfA (YC zs).toArray hs (YC zs).length (by simp)
 refine ⟨h1,fun x=>?_⟩
 unfold Lib.compact
 rw [h3]
 have hmem:x∈YC zs↔x∈zs:=(List.mergeSort_perm zs _).mem_iff
 rw [←hmem]
 constructor
 ·
  rintro ⟨j,hj,e⟩
  have:(YC zs)[j]=x:=by simpa [hj] using e
  rw [←this];exact List.getElem_mem hj
 ·
  intro h
  obtain ⟨j,hj,e⟩:=List.getElem_of_mem h
  exact ⟨j,hj,by simpa [hj] using e⟩
end
section
open Go Go.Kn Go.Proofs
def rcV (S:List Int)(u:Nat→Int)(cl:List Int)(f:Nat)(s x:Int):Int:=if Z6 s=true then WS (u (KK s)) x else Uo S (rcF S u cl f (Qx cl s)) (rcF S u cl f (s-Qx cl s)) 2 x
theorem ztm {S:List Int}{u:Nat→Int}{cl:List Int}{f:Nat}{s:Int}:rcF S u cl (f+1) s=S.map (rcV S u cl f s):=by
 cases h:Z6 s with
 | true=>rw [zvD h];exact List.map_congr_left fun x _=>by unfold rcV;rw [if_pos h]
 | false=>rw [zvM h];exact List.map_congr_left fun x _=>by unfold rcV;rw [if_neg (by rw [h];decide)]
def stE (rows:List (List Int))(l:Nat):List Int:=Lib.compact (YC (stL rows l rows.length))
def zhg (rows:List (List Int))(cl:List Int)(l:Nat):List Int:=rcF (stE rows l) (uF rows l) cl 64 (Vd rows.length)
def znL (rows:List (List Int))(cl:List Int)(l:Nat)(x:Int):Int:=rcV (stE rows l) (uF rows l) cl 63 (Vd rows.length) x
theorem zbw {rows:List (List Int)}{cl:List Int}{l:Nat}:zhg rows cl l=(stE rows l).map (znL rows cl l):=ztm (f:=63)
def JB (rows:List (List Int))(cl:List Int)(l:Nat):List Int:=(stE rows l).filter fun x=>znL rows cl l x==Yn (zhg rows cl l)
def UH (rows:List (List Int))(cl:List Int):List (List Int):=if YH rows cl≠0 then [] else (List.range (rows.getD 0 []).length).map (JB rows cl)
theorem zcm {rows:List (List Int)}{cl:List Int}(h:YH rows cl≠0):UH rows cl=[]:=by unfold UH;rw [if_pos h]
theorem Xc {rows:List (List Int)}{cl:List Int}(h:YH rows cl=0):UH rows cl=(List.range (rows.getD 0 []).length).map (JB rows cl):=by unfold UH;rw [if_neg (by omega)]
theorem XH {α:Type}{f:Nat→α}{k:Nat}:(List.range (k+1)).map f=(List.range k).map f++[f k]:=by rw [List.range_succ,List.map_append];rfl
theorem zk4 {α:Type}{p:α→Bool}{xs:List α}{k:Nat}{x:α}(hx:xs[k]? =some x)(h:p x=true):(xs.take (k+1)).filter p=(xs.take k).filter p++[x]:=by
 rw [List.take_add_one,hx,List.filter_append];simp [h]
theorem zri {α:Type}{p:α→Bool}{xs:List α}{k:Nat}{x:α}(hx:xs[k]? =some x)(h:p x=false):(xs.take (k+1)).filter p=(xs.take k).filter p:=by
 rw [List.take_add_one,hx,List.filter_append];simp [h]
theorem zjU {rows:List (List Int)}{l:Nat}:(stE rows l).length≤rows.length+1:=by
 have h1:(stL rows l rows.length).length≤rows.length+1:=by
  unfold stL
  have:=List.length_filter_le (fun x=>x != 8589934592) ((List.range rows.length).map fun w=>uF rows l w)
  rw [List.length_map,List.length_range] at this
  rw [List.length_cons];omega
 have h2:(YC (stL rows l rows.length)).length=(stL rows l rows.length).length:=by unfold YC;exact (List.mergeSort_perm _ _).length_eq
 have h3:=Lib.compact_length_le (YC (stL rows l rows.length))
 unfold stE;omega
theorem zq9 {rows:List (List Int)}{l:Nat}{y:Int}:y∈stE rows l↔y∈Q9 rows l:=by unfold stE;rw [(Kv _).2,zse]
theorem zux {rows:List (List Int)}{l:Nat}:(stE rows l).Pairwise (· < ·):=(Kv _).1
theorem zgR {rows:List (List Int)}{l:Nat}:0<(stE rows l).length:=List.length_pos_of_mem (zq9.2 (zfn.2 (.inl rfl)))
theorem zgQ {rows:List (List Int)}{cl:List Int}{l:Nat}:(zhg rows cl l).length=(stE rows l).length:=by rw [zbw,List.length_map]
def zuj (rows:List (List Int))(cl:List Int):Value→Qu→Go.Kn.Loc→Prop:=fun v I' L=>L=[]∧∃ av c,v= .tuple #[.slice av (UH rows cl).length c,.int .i64 (YH rows cl)]∧SlN I' av (UH rows cl).length c (UH rows cl)
end
end Go.Proofs.YtodakphagkommaaGreatDoor
namespace Go.Kn
section
open Go Go.Sort Go.Shelf Go.Lib Go.Proofs
theorem zls {w w':World}{L:Loc}(h:St w (fun b=>w.heap[b]?) (fun _=>none) L w'):∃ q os',w'=grow (w.drewN q) os':=by
 refine ⟨w'.drawn-w.drawn,w'.heap.extract w.heap.size w'.heap.size,?_⟩
 have h1:=h.size
 have hh:w.heap++w'.heap.extract w.heap.size w'.heap.size=w'.heap:=by
  apply Array.ext'
  apply List.ext_getElem?
  intro i
  by_cases hi:i<w.heap.size
  ·
   have:=h.imm i _ (Array.getElem?_eq_getElem hi)
   rw [Array.getElem?_toList,Array.getElem?_toList,this,Array.getElem?_append_left hi,Array.getElem?_eq_getElem hi]
  ·
   rw [Array.getElem?_toList,Array.getElem?_toList,Array.getElem?_append_right (by omega),Array.getElem?_extract]
   by_cases h2:i<w'.heap.size
   ·
    rw [if_pos (by omega),show w.heap.size+(i-w.heap.size)=i by omega]
   ·
    rw [if_neg (by omega),Array.getElem?_eq_none (by omega)]
 have e1:=h.os;have e2:=h.tape;have e3:=h.out
 cases w;cases w'
 simp only [grow,World.drewN] at*
 subst e1;subst e2;subst e3
 simp only [World.mk.injEq,true_and,and_true]
 exact ⟨hh.symm,by omega⟩
theorem zhr {α:Type}[Inhabited α]{enc:α→List Value}{k:Nat}(hk:∀ x,(enc x).length=k)(hpos:0<k)(xs:List α):flatK enc k xs.toArray=(xs.flatMap enc).toArray:=by
 have hl:(xs.flatMap enc).length=xs.length*k:=ZU hk xs
 apply Array.ext
 ·
  rw [size_flatK];simp [hl]
 ·
  intro t h1 h2
  have ht:t<xs.length*k:=by rw [size_flatK] at h1;simpa using h1
  have hq:t / k<xs.length:=by rw [Nat.div_lt_iff_lt_mul hpos];exact ht
  have hr:t % k<k:=Nat.mod_lt _ hpos
  have hx:xs[t / k]? =some xs[t / k]:=List.getElem?_eq_getElem hq
  have hu:(enc xs[t / k])[t % k]? =some ((enc xs[t / k])[t % k]'(by rw [hk];exact hr)):=List.getElem?_eq_getElem _
  have h3:=XL hk xs (t / k) _ hx (t % k) _ hu
  rw [Nat.mul_comm,Nat.div_add_mod] at h3
  have h4:=get_flatK enc k xs.toArray t (by simpa using ht)
  rw [getElem!_pos (flatK enc k xs.toArray) t h1] at h4
  rw [h4]
  have e1:xs.toArray[t / k]! =xs[t / k]'hq:=by simp [hq]
  rw [e1]
  have e2:(enc (xs[t / k]'hq))[t % k]! =(enc (xs[t / k]'hq))[t % k]'(by rw [hk];exact hr):=getElem!_pos (enc (xs[t / k]'hq)) (t % k) (by rw [hk];exact hr)
  rw [e2]
  have e3:(xs.flatMap enc).toArray[t]? =some ((enc xs[t / k])[t % k]'(by rw [hk];exact hr)):=by simpa using h3
  rw [Array.getElem?_eq_getElem h2] at e3
  exact (Option.some.inj e3).symm
theorem zl3 {α:Type}[Inhabited α]{P:Program}{f g0:FuncId}{e:TypeId}{k:Nat}{enc:α→List Value}{cf:α→α→Int}(hk:∀ x,(enc x).length=k)(hpos:0<k)
  (hs:∀ (blk off cap:Nat) (d:Array α) (w:World),CmpLays P g0 #[] enc k cf blk off d.size w→HoldsK enc k w blk off d→blk<w.heap.size→d.size<4611686018427387904→
   Calls P f #[.slice (some ⟨blk,off,none⟩) d.size cap,.func (.func g0) #[] #[]] w fun e w'=>e= .returned (.tuple #[])∧∃ d' n os,PermIn 0 d.size d d'∧SortedIn (ltOf cf) 0 d.size d'∧w'=sortWorldK enc k w blk off n d' os)
  (h0:∀ (p:Option Addr) (cap:Nat) (fv:Value) (w:World),Calls P f #[.slice p 0 cap,fv] w fun e w'=>e= .returned (.tuple #[])∧w'=w)
  (hcmp:∀ (I:Qu) (x y:α),Zw P g0 [.agg (enc x).toArray,.agg (enc y).toArray] I (.int .i64 (cf x y)))
  (zs:List α){v:Value}{n:Nat}{L:Loc}(hO:OwnS e k v n (zs.flatMap enc) L)(hn:n≤1000000)(I:Qu):
  Yg P f [v,.func (.func g0) #[] #[]] I L (fun u I' L'=>u= .tuple #[]∧I'=I∧∃ zs':List α,zs'.Perm zs∧zs'.Pairwise (fun x y=>ltOf cf y x=false)∧OwnS e k v n (zs'.flatMap enc) L'):=by
 intro g H w hw
 have hl:zs.length=n:=by
  have:=hO.1
  rw [ZU hk] at this
  exact Nat.eq_of_mul_eq_mul_right hpos this
 subst hl
 rcases hO.2 with ⟨rfl,h00,rfl⟩ | ⟨b,c,cur,rfl,rfl,hc,hc2,hsz,htk⟩
 ·
  have:zs=[]:=List.length_eq_zero_iff.1 h00
  subst this
  refine (h0 none 0 _ w).mono ?_
  rintro e w' ⟨rfl,rfl⟩
  exact ⟨_,I,[],rfl,zye _,hw,rfl,rfl,[],.nil,.nil,by simp,.inl ⟨rfl,rfl,rfl⟩⟩
 ·
  have hb:=hw.own b _ (List.mem_singleton.2 rfl)
  have hbs:b<w.heap.size:=(Array.getElem?_eq_some_iff.1 hb).1
  have hfl:(zs.flatMap enc).length=zs.length*k:=ZU hk zs
  have hH:HoldsK enc k w b 0 zs.toArray:=by
   unfold HoldsK
   rw [zhr hk hpos]
   exact zac (enc:=id) hw (List.mem_singleton.2 rfl) (zs.flatMap enc) (by rw [hfl,htk];simp)
  have hC:CmpLays P g0 #[] enc k cf b 0 zs.toArray.size w:=by
   intro m os dk _ x y
   have h1:=hcmp (fun q=>(sortWorldK enc k w b 0 m dk os).heap[q]?) x y (sortWorldK enc k w b 0 m dk os) (fun _=>none) (sortWorldK enc k w b 0 m dk os)
    ⟨rfl,rfl,rfl,⟨Nat.le_refl _,Nat.le_refl _⟩,fun _ _ h=>h,(fun _ _ h=>by cases h),(fun _ _ h=>by cases h),fun _=>.inr rfl,(fun _ _ h=>by cases h),by simp⟩
   refine Calls.mono h1 ?_
   rintro e w' ⟨rfl,hs⟩
   exact ⟨rfl,zls hs⟩
  have hcall:=hs b 0 c zs.toArray w hC hH hbs (by simp;omega)
  rw [List.size_toArray] at hcall
  refine hcall.mono ?_
  rintro e w' ⟨rfl,d',m,os,hp,hsd,rfl⟩
  have hps:d'.size=zs.length:=by simpa using hp.1
  have hperm:d'.toList.Perm zs:=by
   have:=hp.2.2
   simpa [Array.extract_eq_self_of_le,hps] using this
  have hdl:d'=d'.toList.toArray:=by simp
  have hfd:(d'.toList.flatMap enc).length=zs.length*k:=by rw [ZU hk,Array.length_toList,hps]
  refine ⟨_,I,[(b,.cells (putCells id 0 (d'.toList.flatMap enc).toArray cur) e (0,0))],rfl,zye _,?_,rfl,rfl,d'.toList,hperm,?_,?_⟩
  ·
   unfold sortWorldK putRowK
   rw [hdl,zhr hk hpos]
   simp only
   exact (((hw.aheadN m).rowPut (enc:=id) _ .here).grown os)
  ·
   rw [List.pairwise_iff_getElem]
   intro i j hi hj hij
   have:=hsd i j (Nat.zero_le _) hij (by rw [←hps];simpa using hj)
   rw [getElem!_pos d' i (by simpa using hi),getElem!_pos d' j (by simpa using hj)] at this
   simpa using this
  ·
   refine ⟨by rw [hfd],.inr ⟨b,c,_,rfl,rfl,hc,hc2,by simp [putCells,hsz],?_⟩⟩
   have:=zbA (enc:=id) (cs:=cur) (n:=zs.length*k) (d'.toList.flatMap enc) hfd (by rw [hsz];exact Nat.mul_le_mul_right k hc)
   simpa using this
end
end Go.Kn
namespace Go.Proofs
section
open Go.Shelf
def Tryz.lays189_ren:Go.Shelf.Ren:=⟨fun | 189=>64 | 125=>108 | 257=>107 | 128=>164 | 129=>165 | 294=>155 | 295=>156 | 296=>157 | 297=>158 | 298=>159 | 299=>160 | 216=>161 | 300=>162 | 301=>163 | 328=>204 | 329=>205 | 330=>206 | 331=>207 | 332=>208 | 215=>192 | 343=>238 | n=>n,fun | 28=>23 | 3=>3 | 46=>186 | 0=>0 | 51=>234 | 53=>236 | 4=>4 | 183=>228 | 182=>227 | 131=>141 | 5=>5 | 9=>9 | 218=>259 | 222=>253 | 228=>278 | 229=>279 | n=>n,fun | n=>n⟩
theorem Tryz.lays189:Go.Proofs.Lays.n189 Tryz.prog Tryz.lays189_ren:={
 mixed:=by kernel_rfl
 f125:=Tryz.func108.trans (congrArg some (by kernel_rfl))
 f128:=Tryz.func164.trans (congrArg some (by kernel_rfl))
 f129:=Tryz.func165.trans (congrArg some (by kernel_rfl))
 f189:=Tryz.func64.trans (congrArg some (by kernel_rfl))
 f215:=Tryz.func192.trans (congrArg some (by kernel_rfl))
 f216:=Tryz.func161.trans (congrArg some (by kernel_rfl))
 f257:=Tryz.func107.trans (congrArg some (by kernel_rfl))
 f294:=Tryz.func155.trans (congrArg some (by kernel_rfl))
 f295:=Tryz.func156.trans (congrArg some (by kernel_rfl))
 f296:=Tryz.func157.trans (congrArg some (by kernel_rfl))
 f297:=Tryz.func158.trans (congrArg some (by kernel_rfl))
 f298:=Tryz.func159.trans (congrArg some (by kernel_rfl))
 f299:=Tryz.func160.trans (congrArg some (by kernel_rfl))
 f300:=Tryz.func162.trans (congrArg some (by kernel_rfl))
 f301:=Tryz.func163.trans (congrArg some (by kernel_rfl))
 f328:=Tryz.func204.trans (congrArg some (by kernel_rfl))
 f329:=Tryz.func205.trans (congrArg some (by kernel_rfl))
 f330:=Tryz.func206.trans (congrArg some (by kernel_rfl))
 f331:=Tryz.func207.trans (congrArg some (by kernel_rfl))
 f332:=Tryz.func208.trans (congrArg some (by kernel_rfl))
 f343:=Tryz.func238.trans (congrArg some (by kernel_rfl))
 t0:=Tryz.underlying0
 a0:=Tryz.isAgg0
 z0:=Tryz.sizeOf0
 v0:=Tryz.zeroValue0
 t3:=Tryz.underlying3
 a3:=Tryz.isAgg3
 z3:=Tryz.sizeOf3
 v3:=Tryz.zeroValue3
 t4:=Tryz.underlying4
 a4:=Tryz.isAgg4
 z4:=Tryz.sizeOf4
 v4:=Tryz.zeroValue4
 t5:=Tryz.underlying5
 a5:=Tryz.isAgg5
 z5:=Tryz.sizeOf5
 v5:=Tryz.zeroValue5
 t9:=Tryz.underlying9
 a9:=Tryz.isAgg9
 z9:=Tryz.sizeOf9
 v9:=Tryz.zeroValue9
 t28:=Tryz.underlying23
 a28:=Tryz.isAgg23
 z28:=Tryz.sizeOf23
 v28:=Tryz.zeroValue23
 t46:=Tryz.underlying186
 a46:=Tryz.isAgg186
 z46:=Tryz.sizeOf186
 v46:=Tryz.zeroValue186
 t51:=Tryz.underlying234
 a51:=Tryz.isAgg234
 z51:=Tryz.sizeOf234
 v51:=Tryz.zeroValue234
 t53:=Tryz.underlying236
 a53:=Tryz.isAgg236
 z53:=Tryz.sizeOf236
 v53:=Tryz.zeroValue236
 t131:=Tryz.underlying141
 a131:=Tryz.isAgg141
 z131:=Tryz.sizeOf141
 v131:=Tryz.zeroValue141
 t182:=Tryz.underlying227
 a182:=Tryz.isAgg227
 z182:=Tryz.sizeOf227
 v182:=Tryz.zeroValue227
 t183:=Tryz.underlying228
 a183:=Tryz.isAgg228
 z183:=Tryz.sizeOf228
 v183:=Tryz.zeroValue228
 t218:=Tryz.underlying259
 a218:=Tryz.isAgg259
 z218:=Tryz.sizeOf259
 v218:=Tryz.zeroValue259
 t222:=Tryz.underlying253
 a222:=Tryz.isAgg253
 z222:=Tryz.sizeOf253
 v222:=Tryz.zeroValue253
 t228:=Tryz.underlying278
 a228:=Tryz.isAgg278
 z228:=Tryz.sizeOf278
 v228:=Tryz.zeroValue278
 t229:=Tryz.underlying279
 a229:=Tryz.isAgg279
 z229:=Tryz.sizeOf279
 v229:=Tryz.zeroValue279}
open Go.Sort Go.RowKit in
theorem Tryz.slices_Sort_int (blk off cap:Nat) (zs:List Int) (w:World) (hH:Holds (Value.int .i64) w blk off zs.toArray) (hblk:blk<w.heap.size) (hsz:zs.length<4611686018427387904):
  Calls Tryz.prog 64 #[.slice (some ⟨blk,off,none⟩) zs.length cap] w fun e w'=>
   e= .returned (.tuple #[])∧∃ n os,w'=grow (putRow (Value.int .i64) (Sort.ahead w n) blk off (zs.mergeSort fun x y=>decide (x≤y)).toArray) os:=Any.slices_Sort_int Tryz.lays189 blk off cap zs w hH hblk hsz
def Tryz.laysNm220_ren:Go.Shelf.Ren:=⟨fun | 20=>91 | n=>n,fun | 22=>23 | 3=>3 | 4=>4 | 0=>0 | n=>n,fun | n=>n⟩
theorem Tryz.laysNm220:Go.Proofs.Lays2.n20 Tryz.prog Tryz.laysNm220_ren:={
 mixed:=by kernel_rfl
 f20:=Tryz.func91.trans (congrArg some (by kernel_rfl))
 t0:=Tryz.underlying0
 a0:=Tryz.isAgg0
 z0:=Tryz.sizeOf0
 v0:=Tryz.zeroValue0
 t3:=Tryz.underlying3
 a3:=Tryz.isAgg3
 z3:=Tryz.sizeOf3
 v3:=Tryz.zeroValue3
 t4:=Tryz.underlying4
 a4:=Tryz.isAgg4
 z4:=Tryz.sizeOf4
 v4:=Tryz.zeroValue4
 t22:=Tryz.underlying23
 a22:=Tryz.isAgg23
 z22:=Tryz.sizeOf23
 v22:=Tryz.zeroValue23
 i3:=by kernel_rfl}
open Go.RowKit Go.Lib Go.Sort in
theorem Tryz.slices_Compact_int (blk off cap:Nat) (zs:List Int) (w:World) (hH:Holds (Value.int .i64) w blk off zs.toArray) (hsz:zs.length≤9223372036854775807) (hcap:zs.length≤cap):
  Calls Tryz.prog 91 #[.slice (some ⟨blk,off,none⟩) zs.length cap] w fun e w'=>e= .returned (.slice (some ⟨blk,off,none⟩) (Lib.compact zs).length cap)∧∃ q,w'=putRow (Value.int .i64) (Sort.ahead w q) blk off (Lib.compact zs++List.replicate (zs.length-(Lib.compact zs).length) 0).toArray:=Any.slices_Compact_int Tryz.laysNm220 blk off cap zs w hH hsz hcap
open Go.RowKit Go.Lib Go.Sort in
theorem Tryz.slices_Compact_int_empty (a:Option Addr) (cap:Nat) (w:World):
  Calls Tryz.prog 91 #[.slice a 0 cap] w fun e w'=>e= .returned (.slice a 0 cap)∧w'=w:=Any.slices_Compact_int_empty Tryz.laysNm220 a cap w
open Go.RowKit Go.Sort in
theorem Tryz.slices_Sort_int_none (p:Option Addr) (cap:Nat) (w:World):
  Calls Tryz.prog 64 #[.slice p 0 cap] w fun e w'=>e= .returned (.tuple #[])∧w'=w:=Any.slices_Sort_int_none Tryz.lays189 p cap w
def Tryz.laysSlF06_f140_ren:Go.Shelf.Ren:=⟨fun | 6=>140 | 15=>108 | 14=>191 | 28=>164 | 29=>165 | 20=>224 | 21=>225 | 22=>226 | 23=>227 | 24=>228 | 25=>229 | 26=>230 | 27=>231 | 46=>246 | 47=>205 | 48=>206 | 49=>247 | 50=>248 | 57=>258 | n=>n,fun | 22=>48 | 24=>54 | 25=>213 | 3=>3 | 39=>186 | 0=>0 | 53=>234 | 55=>236 | 4=>4 | 46=>228 | 45=>227 | 50=>141 | 5=>5 | 9=>9 | 66=>259 | 70=>253 | 76=>278 | 77=>279 | n=>n,fun | n=>n⟩
theorem Tryz.laysSlF06_f140:Go.Proofs.SlLaysF0.n6 Tryz.prog Tryz.laysSlF06_f140_ren:={
 mixed:=by kernel_rfl
 f6:=⟨Tryz.f140.name,by decide,Tryz.func140.trans (congrArg some (by kernel_rfl))⟩
 f14:=⟨Tryz.f191.name,by decide,Tryz.func191.trans (congrArg some (by kernel_rfl))⟩
 f15:=Tryz.func108.trans (congrArg some (by kernel_rfl))
 f20:=⟨Tryz.f224.name,by decide,Tryz.func224.trans (congrArg some (by kernel_rfl))⟩
 f21:=⟨Tryz.f225.name,by decide,Tryz.func225.trans (congrArg some (by kernel_rfl))⟩
 f22:=⟨Tryz.f226.name,by decide,Tryz.func226.trans (congrArg some (by kernel_rfl))⟩
 f23:=⟨Tryz.f227.name,by decide,Tryz.func227.trans (congrArg some (by kernel_rfl))⟩
 f24:=⟨Tryz.f228.name,by decide,Tryz.func228.trans (congrArg some (by kernel_rfl))⟩
 f25:=⟨Tryz.f229.name,by decide,Tryz.func229.trans (congrArg some (by kernel_rfl))⟩
 f26:=⟨Tryz.f230.name,by decide,Tryz.func230.trans (congrArg some (by kernel_rfl))⟩
 f27:=⟨Tryz.f231.name,by decide,Tryz.func231.trans (congrArg some (by kernel_rfl))⟩
 f28:=Tryz.func164.trans (congrArg some (by kernel_rfl))
 f29:=Tryz.func165.trans (congrArg some (by kernel_rfl))
 f46:=⟨Tryz.f246.name,by decide,Tryz.func246.trans (congrArg some (by kernel_rfl))⟩
 f47:=Tryz.func205.trans (congrArg some (by kernel_rfl))
 f48:=Tryz.func206.trans (congrArg some (by kernel_rfl))
 f49:=⟨Tryz.f247.name,by decide,Tryz.func247.trans (congrArg some (by kernel_rfl))⟩
 f50:=⟨Tryz.f248.name,by decide,Tryz.func248.trans (congrArg some (by kernel_rfl))⟩
 f57:=⟨Tryz.f258.name,by decide,Tryz.func258.trans (congrArg some (by kernel_rfl))⟩
 t0:=Tryz.underlying0
 a0:=Tryz.isAgg0
 z0:=Tryz.sizeOf0
 v0:=Tryz.zeroValue0
 t3:=Tryz.underlying3
 a3:=Tryz.isAgg3
 z3:=Tryz.sizeOf3
 v3:=Tryz.zeroValue3
 t4:=Tryz.underlying4
 a4:=Tryz.isAgg4
 z4:=Tryz.sizeOf4
 v4:=Tryz.zeroValue4
 t5:=Tryz.underlying5
 a5:=Tryz.isAgg5
 z5:=Tryz.sizeOf5
 v5:=Tryz.zeroValue5
 t9:=Tryz.underlying9
 a9:=Tryz.isAgg9
 z9:=Tryz.sizeOf9
 v9:=Tryz.zeroValue9
 t22:=Tryz.underlying48
 a22:=Tryz.isAgg48
 z22:=Tryz.sizeOf48
 v22:=Tryz.zeroValue48
 t25:=Tryz.underlying213
 a25:=Tryz.isAgg213
 z25:=Tryz.sizeOf213
 v25:=Tryz.zeroValue213
 t39:=Tryz.underlying186
 a39:=Tryz.isAgg186
 z39:=Tryz.sizeOf186
 v39:=Tryz.zeroValue186
 t45:=Tryz.underlying227
 a45:=Tryz.isAgg227
 z45:=Tryz.sizeOf227
 v45:=Tryz.zeroValue227
 t46:=Tryz.underlying228
 a46:=Tryz.isAgg228
 z46:=Tryz.sizeOf228
 v46:=Tryz.zeroValue228
 t50:=Tryz.underlying141
 a50:=Tryz.isAgg141
 z50:=Tryz.sizeOf141
 v50:=Tryz.zeroValue141
 t53:=Tryz.underlying234
 a53:=Tryz.isAgg234
 z53:=Tryz.sizeOf234
 v53:=Tryz.zeroValue234
 t55:=Tryz.underlying236
 a55:=Tryz.isAgg236
 z55:=Tryz.sizeOf236
 v55:=Tryz.zeroValue236
 t66:=Tryz.underlying259
 a66:=Tryz.isAgg259
 z66:=Tryz.sizeOf259
 v66:=Tryz.zeroValue259
 t70:=Tryz.underlying253
 a70:=Tryz.isAgg253
 z70:=Tryz.sizeOf253
 v70:=Tryz.zeroValue253
 t76:=Tryz.underlying278
 a76:=Tryz.isAgg278
 z76:=Tryz.sizeOf278
 v76:=Tryz.zeroValue278
 t77:=Tryz.underlying279
 a77:=Tryz.isAgg279
 z77:=Tryz.sizeOf279
 v77:=Tryz.zeroValue279}
open Go.RowKit Go.Lib Go.Sort in
theorem Tryz.slices_SortFunc {α:Type} [Inhabited α] (k:Nat) (aE:∀ w,(isAgg (Tryz.laysSlF06_f140_ren.t 24)).run Tryz.prog w= .ok true w) (zE:∀ w,(Go.sizeOf (Tryz.laysSlF06_f140_ren.t 24)).run Tryz.prog w= .ok k w) (enc:α→List Value) (hk:∀ x,(enc x).length=k) (h1:∀ x,∀ v∈enc x,v.oneCell'=true) (cf:α→α→Int) (hO:SWO (ltOf cf)) (g:Nat) (cb:Array Value) (blk off cap:Nat) (d:Array α) (w:World) (eg:∀ args w,(callFunc g args).run Tryz.prog w= .ok (.enter g args) w) (hcmp:CmpLays Tryz.prog g cb enc k cf blk off d.size w) (hH:HoldsK enc k w blk off d) (hblk:blk<w.heap.size) (hsz:d.size<4611686018427387904):
  Calls Tryz.prog 140 #[.slice (some ⟨blk,off,none⟩) d.size cap,.func (.func g) #[] cb] w fun e w'=>
   e= .returned (.tuple #[])∧∃ d' n os,PermIn 0 d.size d d'∧SortedIn (ltOf cf) 0 d.size d'∧w'=sortWorldK enc k w blk off n d' os:=AnyQ.slices_SortFunc Tryz.laysSlF06_f140 k aE zE enc hk h1 cf hO g cb blk off cap d w eg hcmp hH hblk hsz
open Go.RowKit Go.Lib Go.Sort in
theorem Tryz.slices_SortFunc_none {α:Type} [Inhabited α] (p:Option Addr) (cap:Nat) (fv:Value) (w:World):
  Calls Tryz.prog 140 #[.slice p 0 cap,fv] w fun e w'=>e= .returned (.tuple #[])∧w'=w:=AnyF.slices_SortFunc_none Tryz.laysSlF06_f140 p cap fv w
end
end Go.Proofs
namespace Go.Proofs.YtodakphagkommaaGreatDoor
section
open Go Go.Kn Go.Proofs
theorem zat:ElT Tryz.prog 22 23 1 24:=.of (by kernel_rfl)
theorem zhA:Fun Tryz.prog 64:=.of Tryz.func64 (by kernel_rfl) (by kernel_rfl)
theorem zny:Fun Tryz.prog 91:=.of Tryz.func91 (by kernel_rfl) (by kernel_rfl)
theorem zsL:Fun Tryz.prog 92:=.of Tryz.func92 (by kernel_rfl) (by kernel_rfl)
theorem zo1:SzT Tryz.prog 174 1:=.of (by kernel_rfl)
theorem Zj:SzT Tryz.prog 23 1:=.of (by kernel_rfl)
theorem zva:Yp Tryz.prog 174 .nilFunc:=.of (by kernel_rfl)
theorem Yt:Yp Tryz.prog 23 (.slice none 0 0):=.of (by kernel_rfl)
theorem zsX:Yp Tryz.prog 3 (.int .i64 0):=.of (by kernel_rfl)
theorem U6 (zs:List Int):zs.flatMap QR=zs.map (Value.int .i64):=by
 induction zs with
 | nil=>rfl
 | cons z zs ih=>rw [List.flatMap_cons,ih];rfl
theorem zjM {zs:List Int}{v:Value}{n:Nat}{L:Go.Kn.Loc}(hO:OwnS 3 1 v n (zs.flatMap QR) L)(hn:n≤1000000)(I:Qu):Yg Tryz.prog 64 [v] I L (fun u I' L'=>u= .tuple #[]∧I'=I∧OwnS 3 1 v n ((YC zs).flatMap QR) L'):=by
 rw [U6] at hO
 rw [U6]
 exact zhn Tryz.slices_Sort_int Tryz.slices_Sort_int_none zs hO hn I
theorem zf7 {zs:List Int}{v:Value}{n:Nat}{L:Go.Kn.Loc}(hO:OwnS 3 1 v n (zs.flatMap QR) L)(hn:n≤1000000)(I:Qu):Yg Tryz.prog 91 [v] I L (fun u I' L'=>I'=I∧OwnS 3 1 u (Lib.compact zs).length ((Lib.compact zs).flatMap QR) L'):=by
 rw [U6] at hO
 rw [U6]
 exact zaw Lib.compact Lib.compact_length_le rfl Tryz.slices_Compact_int Tryz.slices_Compact_int_empty zs hO hn I
theorem zcj {I:Qu}{bst brow bloc bcla bse:Nat}{sv bv av:Option Addr}{ns cs n2 c2 n c:Nat}{St xs:List Int}{rows:List (List Int)}{l:Nat}(hn:n≤100000)(hn2:n2≤100000)(hns:ns≤1000)(hl:∀ r∈rows,l<r.length)(hc:VY rows.length xs=0):∀ (f:Nat) (I:Qu),RtE I 93 bst brow bloc bcla bse sv bv av ns cs n2 c2 n c St xs rows l→∀ (s:Int),OkS rows.length xs s→s.toNat≤f→Yg Tryz.prog 93 ([.int .i64 s]++[Zb bst,Zb brow,Zb bloc,Zb bcla,Zb bse]) I [] (zbT 1 QR (rcF St (uF rows l) xs f s))
 | 0,_,_,s,hok,hf=>by have:=hok.1;omega
 | f+1,I,hE,s,hok,hf=>zkE hE hn hn2 hns hl hc f s hok (fun h=>by omega) fun I' hI s' hok' hlt=>zcj (I:=I') hn hn2 hns hl hc f I' (hE.mono hI) s' hok' (by have:=hok'.1;have:=hok.1;omega)
theorem zpE {I:Qu}{av:Option Addr}{n c:Nat}{xs:List Int}(hS:Sl I 1 QR av n c xs){bv:Option Addr}{n2 c2:Nat}{rows:List (List Int)}(hVn:SlN I bv n2 c2 rows)(hn2:n2≤100000)(hDb:VI I):Yg Tryz.prog 51 [.slice bv n2 c2,.slice av n c] I [] (zuj rows xs):=by
 intro g H w hw
 refine qe Tryz.func51 Tryz.ntmps51 hw ?_
 have hIc:=zye I
 have hlV:=hVn.len
 subst hlV
 have hVn9:=hVn
 obtain ⟨hs,hV⟩:=hVn9
 have hH:=hV.1
 refine zR ?_
 refine Q5 rfl rfl rfl (fun b_2=>?_)
 refine Q5 rfl rfl rfl (fun b_3=>?_)
 refine zA ?_
 refine zA (zN (Ql (zR ?_)))
 refine zV (Qd rfl Kl (fun hg=>by exact zx8 (zx9 rfl))) ?_
 refine zV (Qd rfl QK (fun hg=>by exact zx9 rfl)) ?_
 refine qc (vs:=[_,_]) rfl zsL (zqm hS hVn hn2 hDb) ?_
 refine zM ?_
 refine zE ?_
 refine zE ?_
 refine zA ?_
 refine zN (zR ?_)
 refine zM ?_
 refine zC (zN ?_)
 refine zI ?_ ?_<;>intro hc24
 ·
  have hcE:YH rows xs≠0:=by simpa using hc24
  refine zR (zM ?_)
  refine zA ?_
  refine zA (zN (Qt (Qc ?_)))
  first
  | exact Zx rfl rfl rfl (fun w hw=>⟨_,_,[],rfl,hIc,hw.drop,rfl,none,0,by rw [zcm hcE];rfl,by rw [zcm hcE];exact .none⟩)
 have hcE:YH rows xs=0:=by simpa using hc24
 have hr0:VM rows=0:=by cases Decidable.em (VM rows=0) with
  | inl h=>exact h
  | inr h=>exact absurd ((zfs h).1.symm.trans hcE) h
 have hc0:VY rows.length xs=0:=by have h:=hcE;unfold YH at h;rw [if_neg (by omega)] at h;exact h
 obtain ⟨hr1,hr6,hr64,hrr⟩:=We hr0
 obtain ⟨x0,v0,hx0,hv0,hQ0⟩:=hV.at (k:=0) (by omega)
 have hx0l:=hQ0.len
 have hg0:rows.getD 0 []=v0:=Q1 hv0
 rw [hg0] at hr64 hrr
 have hxl:=(ZW hc0).2.2.1
 have hSl:=hS.len
 have hn:n≤100000:=by omega
 have hsh:=zeu (n:=(rows.length:Int)) ⟨by omega,by omega⟩
 have hal9:=zaD (n:=(rows.length:Int)) ⟨by omega,by omega⟩
 refine Qo (Qa (Ql (Ql ?_)))
 refine Vo (fun I1 hI1 hall=>?_)
 have hS:=hS.mono hI1;have hVn:=hVn.mono hI1;have hV:=hV.mono hI1;have hH:=hH.mono hI1;have hIc:=hIc.trans hI1
 have hB2:QU I1 [] b_2 0 (.slice bv rows.length c2):=.imm (hall _ _ (by repeat (first | exact List.mem_cons_self .. | apply List.mem_cons_of_mem))) rfl
 have hB3:QU I1 [] b_3 0 (.slice av n c):=.imm (hall _ _ (by repeat (first | exact List.mem_cons_self .. | apply List.mem_cons_of_mem))) rfl
 refine Qg ?_
 refine zV (Qd rfl Kl (fun hg=>by exact hB2.any)) ?_
 refine zV (zX Zo hH) ?_
 refine zV (Qd rfl QK (fun hg=>by exact zx7 hH hx0 rfl)) ?_
 refine zQ Qy ?_
 refine zM (zN (Qm ?_))
 refine zU [(2,_),(3,_),(29,_)] (fun T L0 mz E I' loc'=>∃ (l:Nat) (v4:Value) (os:List Hd) (L:Go.Kn.Loc),mz=x0.n-l∧E=(4,v4)::(30,.int .i64 l)::T∧HLe I1 I'∧L=loc'∧l≤x0.n∧OwnS 23 1 v4 l (os.flatMap W2) L∧zb8 I' os ((List.range l).map (JB rows xs))) ?_ (h:=⟨0,_,[],[],rfl,rfl,zye _,rfl,Nat.zero_le _,OwnS.nil,zb8.nil⟩)
 rintro mz E J2 loc' ⟨l,v4,os,L,rfl,rfl,hJ,rfl,hl,hO4,hre⟩
 have hS:=hS.mono hJ;have hVn:=hVn.mono hJ;have hV:=hV.mono hJ;have hH:=hH.mono hJ;have hB2:=hB2.mono hJ;have hB3:=hB3.mono hJ;have hIc:=hIc.trans hJ
 have hB0:=hJ
 obtain ⟨va4,vc4,rfl⟩:=zdd hO4
 refine zR (zC (zN (Ql ?_)))
 refine zI ?_ ?_<;>intro hc31
 ·
  have hlt_l:l<x0.n:=by have h:=hc31;simp at h;omega
  have hsl:=zjU (rows:=rows) (l:=l)
  refine Qo (Qa (Ql (Qm (zR (zM ?_)))))
  refine Qr zsX rfl rfl (fun b_6=>?_)
  refine zS Yi ?_
  refine zN (zR ?_)
  refine Qq (ps:=[(0,_)]) (m:=[QR (0:Int)]) Zi rfl (.cons rfl (.nil)) rfl (by simp [Qv]) (by decide) (by decide) rfl rfl (fun b_33=>?_)
  refine Qr Yt rfl rfl (fun b_7=>?_)
  refine zS Zj ?_
  refine zN (Ql (zR ?_))
  refine zV (Qd rfl Kl (fun hg=>by exact hB2.any)) ?_
  refine zQ Zo ?_
  refine zM (zN (Qm ?_))
  refine zU [(2,_),(3,_),(4,_),(6,_),(7,_),(29,_),(30,_),(34,_),(35,_)] (fun T L0 mz E I' loc'=>∃ (i:Nat) (v7:Value) (q7:Nat) (L7:Go.Kn.Loc),mz=rows.length-i∧E=(36,.int .i64 i)::T∧J2=I'∧(b_7,.cells #[v7] 23 (0,0))::(L7++((b_6,.cells #[.int .i64 l] 3 (0,0))::L))=loc'∧i≤rows.length∧OwnS 3 1 v7 q7 ((stL rows l i).flatMap QR) L7∧q7≤i+1) ?_ (h:=⟨0,_,1,[(b_33,_)],rfl,rfl,rfl,rfl,Nat.zero_le _,OwnS.lit rfl (by decide),Nat.le_refl _⟩)
  rintro mz E I' loc' ⟨i,v7,q7,L7,rfl,rfl,rfl,rfl,hi,hO7,hq7⟩
  obtain ⟨va,vc,rfl⟩:=zdd hO7
  refine zR (zC (zN (Ql ?_)))
  refine zI ?_ ?_<;>intro hc37
  ·
   have hlt_i:i<rows.length:=by have h:=hc37;simp at h;omega
   obtain ⟨x,v,hx,hv,hQ⟩:=hV.at hlt_i
   have hlv:l<v.length:=by rw [(hrr v (List.mem_of_getElem? hv)).1];omega
   have hu:=Zk (d:=0) rfl hlv
   have hvn:=hQ.len
   have hUF:uF rows l i=v.getD l 0:=by unfold uF;rw [Q1 hv]
   refine Qo (Qa (Ql (Qm (zR ?_))))
   refine zV (zX Zo hH) ?_
   refine zV (Qd rfl QK (fun hg=>by exact zx7 hH hx rfl)) ?_
   refine zA ?_
   refine zN (zR ?_)
   refine zM ?_
   refine zV (Qd rfl Qs (fun hg=>by (repeat (first | exact zx9 rfl | apply zx8 | apply zya)))) ?_
   refine zV (zX Qy hQ) ?_
   refine zV (Qd rfl Qs (fun hg=>by exact zx7 hQ hu rfl)) ?_
   refine zA ?_
   refine zN (zR ?_)
   refine zM ?_
   refine zC (zN ?_)
   refine zI ?_ ?_<;>intro hc45
   ·
    have hne:uF rows l i≠8589934592:=by rw [hUF];simpa using hc45
    refine Qg ?_
    refine zV (Qd rfl QK (fun hg=>by exact zx9 rfl)) ?_
    refine zM ?_
    refine Qq (ps:=[(0,_)]) (m:=[QR (v.getD l 0)]) Zi rfl (.cons rfl (.nil)) rfl (by simp [Qv]) (by decide) (by decide) rfl rfl (fun b_48=>?_)
    refine QY (v:=_) (ys:=[v.getD l 0].flatMap QR) (L:=L7) rfl rfl Zi hO7 (by repeat (first | exact .cons .here .nil | exact QD | exact Qw | apply QC | apply QB)) ⟨rfl,fun _=>rfl,by repeat (first | exact zyc | apply zyb | apply zyd)⟩ (JG [v.getD l 0]) (by omega) rfl rfl ?_
    intro v9 L9 hO9 _;rw [←List.flatMap_append] at hO9;obtain ⟨va9,vc9,rfl⟩:=zdd hO9
    refine ZI rfl rfl Zj rfl rfl (by (repeat (first | exact Upd.here | apply Upd.there | apply QJ))) rfl ?_
    refine Qb (Qh (Qa (Qg (zB ?_))))
    refine zM (Qb ?_)
    first
    | exact Ji _ _ (L9++((b_7,_)::((b_6,_)::L))) ⟨rows.length-(i+1),by omega,i+1,_,q7+1,L9,rfl,rfl,rfl,rfl,by omega,by rw [zsa hne,hUF];exact hO9,by omega⟩ (.cons rfl (.cons rfl (.cons rfl (.cons rfl (.cons rfl (.cons rfl (.cons rfl (.cons rfl (.cons rfl (.cons rfl .nil)))))))))) List.perm_middle.symm (by repeat (first | exact .refl | exact Zg | refine Ym ?_ | refine .drop ?_ | refine Z4 ?_))
   have heq:uF rows l i=8589934592:=by rw [hUF];simpa using hc45
   refine Qo (Qh (Qa (Qg (zB ?_))))
   refine zM (Qb ?_)
   first
   | exact zm (h:=⟨rows.length-(i+1),by omega,i+1,_,q7,L7,rfl,rfl,rfl,rfl,by omega,by rw [zxo heq];exact hO7,by omega⟩)
  have hge_i:rows.length≤i:=by have h:=hc37;simp at h;omega
  rw [show i=rows.length by omega] at hO7
  refine QI (Qf (Qf (Qk (Qa (zR ?_)))))
  refine zV (Qd rfl QK (fun hg=>by exact zx9 rfl)) ?_
  refine Qz (cap:=[]) (vs:=[_]) rfl rfl zhA (by repeat (first | exact .cons .here .nil | exact QD | exact Qw | apply QC | apply QB)) (zjM hO7 (by omega) _) rfl rfl ?_
  rintro vv4 I4 L4 hI4 ⟨rfl,rfl,hO5⟩
  have hS:=hS.mono hI4;have hVn:=hVn.mono hI4;have hB2:=hB2.mono hI4;have hB3:=hB3.mono hI4;have hre:=hre.mono hI4;have hB0:=hB0.trans hI4
  refine zN (zR ?_)
  refine zV (Qd rfl QK (fun hg=>by (repeat (first | exact zx9 rfl | apply zx8 | apply zya)))) ?_
  refine Qz (cap:=[]) (vs:=[_]) rfl rfl zny (by repeat (first | exact .cons .here .nil | exact QD | exact Qw | apply QC | apply QB)) (zf7 hO5 (by omega) _) rfl rfl ?_
  rintro vv5 I5 L5 hI5 ⟨rfl,hO6⟩
  have hS:=hS.mono hI5;have hVn:=hVn.mono hI5;have hB2:=hB2.mono hI5;have hB3:=hB3.mono hI5;have hre:=hre.mono hI5;have hB0:=hB0.trans hI5
  have hO6:OwnS 3 1 _ (stE rows l).length ((stE rows l).flatMap QR) _:=hO6
  obtain ⟨va6,vc6,rfl⟩:=zdd hO6
  refine ZI rfl rfl Zj rfl rfl (by (repeat (first | exact Upd.here | apply Upd.there | apply QJ))) rfl ?_
  refine zN (zR ?_)
  refine Qr zva rfl rfl (fun b_11=>?_)
  refine zN (zR ?_)
  refine zV (Zc (us:=[]) (vs:=[_,_,_,_,_]) rfl rfl) ?_
  refine zS zo1 ?_
  refine zN (Ql ?_)
  refine Y9 hO6 Qv (by decide) (by repeat (first | exact .cons .here .nil | exact QD | exact Qw | apply QC | apply QB)) (fun I6 hI6 af6 cf6 ef6 hT9=>?_)
  cases ef6
  have hS:=hS.mono hI6;have hVn:=hVn.mono hI6;have hB2:=hB2.mono hI6;have hB3:=hB3.mono hI6;have hre:=hre.mono hI6;have hB0:=hB0.trans hI6
  refine Zf (b:=b_11) (by repeat (first | exact Q7.here | apply Q7.there)) (fun I7 hI7 hb7=>?_)
  have hS:=hS.mono hI7;have hVn:=hVn.mono hI7;have hB2:=hB2.mono hI7;have hB3:=hB3.mono hI7;have hre:=hre.mono hI7;have hT9:=hT9.mono hI7;have hB0:=hB0.trans hI7
  have hC11:QU I7 [] b_11 0 (.func (.func 93) #[] #[Zb b_7,Zb b_2,Zb b_6,Zb b_3,Zb b_11]):=.imm hb7 rfl
  refine Zf (b:=b_7) (by repeat (first | exact Q7.here | apply Q7.there)) (fun I8 hI8 hb8=>?_)
  have hS:=hS.mono hI8;have hVn:=hVn.mono hI8;have hB2:=hB2.mono hI8;have hB3:=hB3.mono hI8;have hre:=hre.mono hI8;have hT9:=hT9.mono hI8;have hC11:=hC11.mono hI8;have hB0:=hB0.trans hI8
  have hC7:QU I8 [] b_7 0 (.slice va6 (stE rows l).length vc6):=.imm hb8 rfl
  refine Zf (b:=b_6) (by repeat (first | exact Q7.here | apply Q7.there)) (fun I9 hI9 hb9=>?_)
  have hS:=hS.mono hI9;have hVn:=hVn.mono hI9;have hB2:=hB2.mono hI9;have hB3:=hB3.mono hI9;have hre:=hre.mono hI9;have hT9:=hT9.mono hI9;have hC11:=hC11.mono hI9;have hC7:=hC7.mono hI9;have hB0:=hB0.trans hI9
  have hC6:QU I9 [] b_6 0 (.int .i64 l):=.imm hb9 rfl
  have hRE:RtE I9 93 b_7 b_2 b_6 b_3 b_11 va6 bv av (stE rows l).length vc6 rows.length c2 n c (stE rows l) xs rows l:=⟨hC7,hB2,hC6,hB3,hC11,hT9,hS,hVn⟩
  have hD:=zye I9
  refine Kw mixed ?_
  refine zT 0 rfl (Qd rfl ziS (fun hg=>by exact hC11.any)) hD ?_
  refine zT 1 rfl (Qd rfl Kl (fun hg=>by exact hB2.any)) hD ?_
  refine zT 2 rfl (ZH rfl Zo) hD ?_
  refine zT 3 rfl (Xu rfl rfl (fun hg=>by omega)) hD ?_
  refine zT 4 rfl (ZO rfl rfl rfl (fun hg=>by omega)) hD ?_
  refine qd 5 rfl ?_
  refine Qz (cap:=[Zb b_7,Zb b_2,Zb b_6,Zb b_3,Zb b_11]) (vs:=[_]) rfl rfl znI (by exact .nil) (zcj (I:=I9) hn hn2 (by omega) (fun r hr=>by rw [(hrr r hr).1];omega) hc0 64 I9 hRE (Vd rows.length) (zjC hc0) (by omega)) rfl rfl ?_
  rintro vv10 I10 L10 hI10 ⟨rfl,aA,cA,rfl,hAll⟩
  have hre:=hre.mono hI10;have hT9:=hT9.mono hI10;have hC7:=hC7.mono hI10;have hB0:=hB0.trans hI10;have hD:=hD.trans hI10
  have htl:(rcF (stE rows l) (uF rows l) xs 64 (Vd rows.length)).length=(stE rows l).length:=zgQ
  have hsp:=zgR (rows:=rows) (l:=l)
  have hMin:=zuC (xs:=zhg rows xs l) hAll (by omega) (by omega)
  refine Qb ?_
  refine zD hD ?_
  refine zT 6 rfl (ZP rfl) hD ?_
  refine QG (by kernel_rfl) ?_
  refine QQ ?_
  refine Qa (zR (zM ?_))
  refine qc (vs:=[_]) rfl zn2 (hMin) ?_
  refine zA ?_
  refine zN (zR ?_)
  refine zA (zN (Ql (zR ?_)))
  refine zV (Qd rfl QK (fun hg=>by exact hC7.any)) ?_
  refine zQ Qy ?_
  refine zM (zN (Qm ?_))
  refine zU [(2,_),(3,_),(4,_),(12,_),(13,_),(29,_),(30,_),(64,_),(65,_)] (fun T L0 mz E I' loc'=>∃ (i:Nat) (v14:Value) (q14:Nat) (L14:Go.Kn.Loc),mz=(stE rows l).length-i∧E=(14,v14)::(66,.int .i64 i)::T∧I10=I'∧L14++L=loc'∧i≤(stE rows l).length∧OwnS 3 1 v14 q14 ((((stE rows l).take i).filter fun x=>znL rows xs l x==Yn (zhg rows xs l)).flatMap QR) L14∧q14≤i) ?_ (h:=⟨0,_,0,[],rfl,rfl,rfl,rfl,Nat.zero_le _,OwnS.nil,Nat.le_refl _⟩)
  rintro mz E I' loc' ⟨i,v14,q14,L14,rfl,rfl,rfl,rfl,hi,hO14,hq14⟩
  refine zR (zC (zN (Ql ?_)))
  refine zI ?_ ?_<;>intro hc67
  ·
   have hlt_i:i<(stE rows l).length:=by have h:=hc67;simp at h;omega
   obtain ⟨y,hst⟩:=hT9.at hlt_i
   have hax:(zhg rows xs l)[i]? =some (znL rows xs l y):=by rw [zbw,List.getElem?_map,hst];rfl
   refine Qo (Qa (Ql (Qm (zR (zM ?_)))))
   refine zV (zX Qy hT9) ?_
   refine zV (Qd rfl Qs (fun hg=>by exact zx7 hT9 hst rfl)) ?_
   refine zA ?_
   refine zA ?_
   refine zN (zR ?_)
   refine zM ?_
   refine zM ?_
   refine zV (zX Qy hAll) ?_
   refine zV (Qd rfl Qs (fun hg=>by exact zx7 hAll hax rfl)) ?_
   refine zM ?_
   refine zC (zN ?_)
   refine zI ?_ ?_<;>intro hc76
   ·
    have hbf:(znL rows xs l y==Yn (zhg rows xs l))=true:=hc76
    refine Qg (zM ?_)
    refine zM ?_
    refine Qq (ps:=[(0,_)]) (m:=[QR y]) Zi rfl (.cons rfl (.nil)) rfl (by simp [Qv]) (by decide) (by decide) rfl rfl (fun b_79=>?_)
    refine QY (v:=_) (ys:=[y].flatMap QR) (L:=L14) rfl rfl Zi hO14 (by repeat (first | exact .cons .here .nil | exact QD | exact Qw | apply QC | apply QB)) ⟨rfl,fun _=>rfl,by repeat (first | exact zyc | apply zyb | apply zyd)⟩ (JG [y]) (by omega) rfl rfl ?_
    intro v9 L9 hO9 _;rw [←List.flatMap_append] at hO9
    refine zA (Qb (Qh (Qa (Qg ?_))))
    refine zB ?_
    refine zM (Qb ?_)
    first
    | exact zm (h:=⟨(stE rows l).length-(i+1),by omega,i+1,_,_,_,rfl,rfl,rfl,rfl,by omega,by rw [zk4 hst hbf];exact hO9,by omega⟩)
   have hbf:(znL rows xs l y==Yn (zhg rows xs l))=false:=hc76
   refine Qo (Qh (Qa (Qg (zB ?_))))
   refine zM (Qb ?_)
   first
   | exact zm (h:=⟨(stE rows l).length-(i+1),by omega,i+1,_,_,_,rfl,rfl,rfl,rfl,by omega,by rw [zri hst hbf];exact hO14,by omega⟩)
  have hge_i:(stE rows l).length≤i:=by have h:=hc67;simp at h;omega
  rw [List.take_of_length_le hge_i] at hO14
  obtain ⟨va14,vc14,rfl⟩:=zdd hO14
  have hrf:(stE rows l).filter (fun x=>znL rows xs l x==Yn (zhg rows xs l))=JB rows xs l:=rfl
  have hq9:q14=(JB rows xs l).length:=by have h1:=hO14.1;rw [ZU Qv,hrf] at h1;omega
  subst hq9
  refine QI (Qf (Qf (Qk (Qa ?_))))
  refine Y9 hO14 Qv (by decide) (by repeat (first | exact .cons .here .nil | exact QD | exact Qw | apply QC | apply QB)) (fun I12 hI12 af12 cf12 ef12 hR14=>?_)
  cases ef12
  have hre:=hre.mono hI12;have hB0:=hB0.trans hI12
  refine Qg (zM ?_)
  refine zM ?_
  refine Qq (ps:=[(0,_)]) (m:=[W2 ⟨va14,(JB rows xs l).length,vc14⟩]) zat rfl (.cons rfl (.nil)) rfl (by simp [Za]) (by decide) (by decide) rfl rfl (fun b_84=>?_)
  refine QY (v:=_) (ys:=[(⟨va14,(JB rows xs l).length,vc14⟩:Hd)].flatMap W2) (L:=L) rfl rfl zat hO4 (by repeat (first | exact .cons .here .nil | exact QD | exact Qw | apply QC | apply QB)) ⟨rfl,fun _=>rfl,by repeat (first | exact zyc | apply zyb | apply zyd)⟩ (ztQ _) (by omega) rfl rfl ?_
  intro v8 L8 hO8 _;rw [←List.flatMap_append] at hO8
  refine zA (Qb (Qh (Qa (Qg ?_))))
  refine zB ?_
  refine zM (Qb ?_)
  exact zm (h:=⟨x0.n-(l+1),by omega,l+1,_,_,_,rfl,rfl,hB0,rfl,by omega,hO8,by rw [XH];exact hre.snoc (hd:=⟨va14,(JB rows xs l).length,vc14⟩) (by rw [←hrf];exact hR14)⟩)
 have hge_l:l=x0.n:=by have h:=hc31;simp at h;omega
 refine QI (Qf (Qf (Qk (Qa (zR (zM ?_))))))
 refine zA ?_
 refine zA (zN (Qt ?_))
 first
 | exact Zx rfl rfl rfl (fun w hw=>by obtain ⟨I9,av9,c9,h1',h2',e9,h4'⟩:=OwnS.freeze (R:=[]) hO4 Za (by decide) (by rw [List.append_nil];exact hw);cases e9;exact ⟨_,I9,[],rfl,hIc.trans h1',h2',rfl,va4,vc4,by rw [Xc hcE,List.length_map,List.length_range,hg0,hx0l,hcE,←hge_l],by rw [Xc hcE,List.length_map,List.length_range,hg0,hx0l,←hge_l];exact ⟨os,h4',hre.mono h1'⟩⟩)
end
section
open Go Go.Kn Go.Proofs
theorem zui:Fun Tryz.prog 62:=.of Tryz.func62 (by kernel_rfl) (by kernel_rfl)
theorem K5:SlT Tryz.prog 24 67 3:=.of (by kernel_rfl)
theorem zpB {I:Qu}{bv:Option Addr}{n2 c2:Nat}{rows:List (List Int)}(hV:SlN I bv n2 c2 rows)(av:Option Addr)(n c:Nat)(ev:Option Addr)(n4 c4:Nat):Zw Tryz.prog 29 [.slice bv n2 c2,.slice av n c,.slice ev n4 c4] I (.bool (zkj rows&&decide ((n:Int)≤40)&&decide ((n4:Int)≤40))):=by
 intro g H w hw
 refine qe Tryz.func29 Tryz.ntmps29 hw ?_
 refine zR (zA ?_)
 refine zN (zR ?_)
 refine zM ?_
 refine qc (vs:=[_]) rfl zui (zv5 hV) ?_
 refine zA ?_
 refine zN (zR ?_)
 refine zM ?_
 refine zM ?_
 refine QE 1 rfl rfl rfl ?_
 refine zK (Qi rfl) ?_
 refine zK (ZH rfl Qy) ?_
 refine zK (QH rfl rfl rfl) ?_
 refine QP rfl rfl rfl rfl rfl ?_
 refine zM ?_
 refine QE 6 rfl rfl rfl ?_
 refine zK (Qi rfl) ?_
 refine zK (ZH rfl K5) ?_
 refine zK (QH rfl rfl rfl) ?_
 refine QP rfl rfl rfl rfl rfl ?_
 refine zA (zN (Qt ?_))
 exact zr rfl rfl (by cases zkj rows<;>cases decide ((n:Int)≤40)<;>rfl)
end
section
open Go Go.Kn Go.Proofs
structure Dg where
 n:Int
 lo:Int
 hi:Int
 b:Int
def ziX (d:Dg):List Value:=[.int .i64 d.n,.int .i64 d.lo,.int .i64 d.hi,.int .i64 d.b]
theorem zeo (d:Dg):(ziX d).length=4:=rfl
def zvK (d:Dg):Bool:=decide (d.n<d.lo)||decide (d.n>d.hi)
def zvT (c:Int)(d:Dg):Int:=orI (IntKind.i64.wrap (c*2^(min d.b.toNat IntKind.i64.bits))) d.n
def JZ (c:Int):List Dg→Option Int
 | []=>some c
 | d::ds=>if zvK d=true then none else JZ (zvT c d) ds
theorem zkM {c:Int}{ds:List Dg}{k:Nat}{d:Dg}(h:ds[k]? =some d)(hb:zvK d=true):JZ c (ds.drop k)=none:=by
 rw [Z2 h];unfold JZ;rw [if_pos hb]
theorem zhJ {c:Int}{ds:List Dg}{k:Nat}{d:Dg}(h:ds[k]? =some d)(hb:zvK d=false):JZ c (ds.drop k)=JZ (zvT c d) (ds.drop (k+1)):=by
 rw [Z2 h]
 show (if zvK d=true then none else JZ (zvT c d) (ds.drop (k+1)))=_
 rw [if_neg (by rw [hb];decide)]
theorem zkO {c:Int}{ds:List Dg}{k:Nat}(h:ds.length≤k):JZ c (ds.drop k)=some c:=by rw [List.drop_eq_nil_of_le h];rfl
end
section
open Go Go.Kn Go.Proofs
theorem zrG:AgT Tryz.prog 165 4:=.of (by kernel_rfl)
theorem Xw:QW Tryz.prog 165 0 0:=.of (by kernel_rfl)
theorem zhk:QW Tryz.prog 165 1 1:=.of (by kernel_rfl)
theorem zik:QW Tryz.prog 165 2 2:=.of (by kernel_rfl)
theorem zis:QW Tryz.prog 165 3 3:=.of (by kernel_rfl)
theorem zhB:SlT Tryz.prog 218 165 4:=.of (by kernel_rfl)
theorem zo5:SzT Tryz.prog 165 4:=.of (by kernel_rfl)
theorem zti:Yp Tryz.prog 165 (.agg #[(.int .i64 0),(.int .i64 0),(.int .i64 0),(.int .i64 0)]):=.of (by kernel_rfl)
theorem zud {I:Qu}{av:Option Addr}{n c:Nat}{ds:List Dg}(hS:Sl I 4 ziX av n c ds)(hn:n≤100000)(hb:∀ d∈ds,0≤d.b):Zw Tryz.prog 85 [.slice av n c] I (.tuple #[.int .i64 ((JZ 0 ds).getD 0),.bool (JZ 0 ds).isSome]):=by
 intro g H w hw
 refine qe Tryz.func85 Tryz.ntmps85 hw ?_
 refine zR (zA ?_)
 refine zA (zN (Ql (zR ?_)))
 refine zM ?_
 refine zQ zhB ?_
 refine zM (zN (Qm ?_))
 refine zU [(6,_),(7,_)] (fun T L0 mz E I' loc'=>∃ (k:Nat) (a:Int),mz=n-k∧E=(2,.int .i64 a)::(8,.int .i64 k)::T∧I=I'∧[]=loc'∧k≤n∧JZ 0 ds=JZ a (ds.drop k)) ?_ (h:=⟨0,0,rfl,rfl,rfl,rfl,Nat.zero_le _,rfl⟩)
 rintro mz E I' loc' ⟨k,a,rfl,rfl,rfl,rfl,hk,hpk⟩
 refine zR (zC (zN (Ql ?_)))
 refine zI ?_ ?_<;>intro hc9
 ·
  have hlt_k:k<n:=by have h:=hc9;simp at h;omega
  obtain ⟨d,hd⟩:=hS.at hlt_k
  have hbd:=hb d (List.mem_of_getElem? hd)
  refine Qo (Qa (Ql (Qm (zR ?_))))
  refine zV (zX zhB hS) ?_
  refine zV (Qp rfl zrG (fun hg=>by exact zyf hS hd) rfl) ?_
  refine Qr zti rfl rfl (fun b_5=>?_)
  refine zh zo5 ?_
  refine zN (Ql (zR ?_))
  refine zF Xw ?_
  refine zL Qs ?_
  refine zF zhk ?_
  refine zL Qs ?_
  refine zC ?_
  refine zM ?_
  refine QX 5 rfl rfl rfl ?_
  refine zJ (Qe rfl Xw) ?_
  refine zJ (Qd rfl Qs (fun hg=>by exact QU.h0 rfl)) ?_
  refine zJ (Qe rfl zik) ?_
  refine zJ (Qd rfl Qs (fun hg=>by exact QU.h0 rfl)) ?_
  refine zJ (QH rfl rfl rfl) ?_
  refine ZA rfl rfl rfl rfl rfl ?_
  refine zN ?_
  refine zI ?_ ?_<;>intro hc23
  ·
   rw [zkM hd hc23] at hpk
   refine zR (zA ?_)
   refine zA (zN (Qt (Qc (Qn (Qc (Qc (Qn ?_)))))))
   refine Qc ?_
   first
   | exact Zx rfl rfl rfl (fun w hw=>⟨by rw [hpk];rfl,hw.drop⟩)
  refine Qo (Qa ?_)
  refine YU mixed (by kernel_rfl) ?_
  refine zq (Qi rfl) ?_
  refine zq (Qe rfl zis) ?_
  refine zq (Qd rfl Qs (fun hg=>by exact QU.h0 rfl)) ?_
  refine zq (Xu rfl rfl (fun hg=>by exact hbd)) ?_
  refine zq (Qe rfl Xw) ?_
  refine zq (Qd rfl Qs (fun hg=>by exact QU.h0 rfl)) ?_
  refine zq (zvV rfl rfl) ?_
  refine zq (ZP rfl) ?_
  refine YV ?_
  refine Qh (Qa (Qg (zB ?_)))
  refine zM (Qb ?_)
  exact zm (h:=⟨n-(k+1),by omega,k+1,zvT a d,rfl,rfl,rfl,rfl,by omega,by rw [hpk,zhJ hd hc23]⟩)
 have hge_k:n≤k:=by have h:=hc9;simp at h;omega
 rw [zkO (by rw [hS.len];exact hge_k)] at hpk
 refine QI (Qf (Qf (Qk (Qa (zR (zM ?_))))))
 refine zA ?_
 refine zA (zN (Qt ?_))
 first
 | exact Zx rfl rfl rfl (fun w hw=>⟨by rw [hpk];rfl,hw.drop⟩)
end
section
open Go Go.Kn Go.Proofs
structure Sg where
 id:Int
 role:Int
 bar:Int
 mark:Int
 kind:Int
 side:Int
 dir:Int
 level:Int
 size:Int
 wth:Int
 fn:Int
 fd:Int
 tn:Int
 td:Int
def Y2 (x:Sg):List Value:=[.int .i64 x.id,.int .i64 x.role,.int .i64 x.bar,.int .i64 x.mark,.int .i64 x.kind,.int .i64 x.side,.int .i64 x.dir,.int .i64 x.level,.int .i64 x.size,.int .i64 x.wth,.int .i64 x.fn,.int .i64 x.fd,.int .i64 x.tn,.int .i64 x.td]
def JX (x:Sg):Value:=.agg (Y2 x).toArray
theorem Z5 (x:Sg):(Y2 x).length=14:=rfl
def dgs (x:Sg):List Dg:=[⟨x.role,0,63,6⟩,⟨x.kind,1,9,4⟩,⟨x.side,0,2,2⟩,⟨x.dir,0,8,4⟩,⟨x.level,0,3,2⟩,⟨x.size,0,255,8⟩,⟨x.wth,0,64,7⟩]
theorem zwW (x:Sg):∀ d∈dgs x,0≤d.b:=fun d h=>by
 unfold dgs at h
 simp only [List.mem_cons,List.not_mem_nil,or_false] at h
 rcases h with rfl | rfl | rfl | rfl | rfl | rfl | rfl<;>simp
def zgL (x:Sg):Int:=(JZ 0 (dgs x)).getD 0
def zdT (x:Sg):Int:=if (JZ 0 (dgs x)).isSome=true then 0 else 410
theorem zqR {x:Sg}(h:(JZ 0 (dgs x)).isSome=false):zgL x=0∧zdT x=410:=by
 have:JZ 0 (dgs x)=none:=by cases hp:JZ 0 (dgs x) with
  | none=>rfl
  | some c=>rw [hp] at h;cases h
 unfold zgL zdT
 rw [this];exact ⟨rfl,rfl⟩
theorem zkw {x:Sg}(h:(JZ 0 (dgs x)).isSome=true):zdT x=0:=by unfold zdT;rw [if_pos h]
end
section
open Go Go.Kn Go.Proofs
theorem zrl:ElT Tryz.prog 218 165 4 32:=.of (by kernel_rfl)
theorem Ke:QW Tryz.prog 54 1 1:=.of (by kernel_rfl)
theorem W6:QW Tryz.prog 54 4 4:=.of (by kernel_rfl)
theorem JW:QW Tryz.prog 54 5 5:=.of (by kernel_rfl)
theorem JV:QW Tryz.prog 54 6 6:=.of (by kernel_rfl)
theorem Kb:QW Tryz.prog 54 7 7:=.of (by kernel_rfl)
theorem JR:QW Tryz.prog 54 8 8:=.of (by kernel_rfl)
theorem J0:QW Tryz.prog 54 9 9:=.of (by kernel_rfl)
theorem zum:Fun Tryz.prog 85:=.of Tryz.func85 (by kernel_rfl) (by kernel_rfl)
theorem Uh:PlT Tryz.prog 165 #[(0,1),(1,1),(2,1),(3,1)] (.agg #[(.int .i64 0),(.int .i64 0),(.int .i64 0),(.int .i64 0)]):=⟨.of (by kernel_rfl),by kernel_rfl,fun w=>by kernel_rfl⟩
theorem znj (I:Qu)(x:Sg):Zw Tryz.prog 47 [JX x] I (.tuple #[.int .i64 (zgL x),.int .i64 (zdT x)]):=by
 intro g H w hw
 refine qe Tryz.func47 Tryz.ntmps47 hw ?_
 have hIc:=zye I
 refine zR ?_
 refine Q5 rfl rfl rfl (fun b_1=>?_)
 refine zA ?_
 refine zA ?_
 refine zN (zR ?_)
 refine zF Ke ?_
 refine zL Qs ?_
 refine zV (QS (ps:=[(0,_),(1,_),(2,_),(3,_)]) [_,_,_,_] Uh rfl rfl) ?_
 refine zF W6 ?_
 refine zL Qs ?_
 refine zV (QS (ps:=[(0,_),(1,_),(2,_),(3,_)]) [_,_,_,_] Uh rfl rfl) ?_
 refine zF JW ?_
 refine zL Qs ?_
 refine zV (QS (ps:=[(0,_),(1,_),(2,_),(3,_)]) [_,_,_,_] Uh rfl rfl) ?_
 refine zF JV ?_
 refine zL Qs ?_
 refine zV (QS (ps:=[(0,_),(1,_),(2,_),(3,_)]) [_,_,_,_] Uh rfl rfl) ?_
 refine zF Kb ?_
 refine zL Qs ?_
 refine zV (QS (ps:=[(0,_),(1,_),(2,_),(3,_)]) [_,_,_,_] Uh rfl rfl) ?_
 refine zF JR ?_
 refine zL Qs ?_
 refine zV (QS (ps:=[(0,_),(1,_),(2,_),(3,_)]) [_,_,_,_] Uh rfl rfl) ?_
 refine zF J0 ?_
 refine zL Qs ?_
 refine zV (QS (ps:=[(0,_),(1,_),(2,_),(3,_)]) [_,_,_,_] Uh rfl rfl) ?_
 refine Qq (ps:=[(0,_),(1,_),(2,_),(3,_),(4,_),(5,_),(6,_)]) (m:=[ziX ⟨x.role,0,63,6⟩,ziX ⟨x.kind,1,9,4⟩,ziX ⟨x.side,0,2,2⟩,ziX ⟨x.dir,0,8,4⟩,ziX ⟨x.level,0,3,2⟩,ziX ⟨x.size,0,255,8⟩,ziX ⟨x.wth,0,64,7⟩]) zrl rfl (.cons rfl (.cons rfl (.cons rfl (.cons rfl (.cons rfl (.cons rfl (.cons rfl (.nil)))))))) rfl (by simp [zeo]) (by decide) (by decide) rfl rfl (fun b_27=>?_)
 refine ZY (b:=b_27) (by repeat (first | exact Q7.here | apply Q7.there)) (fun I1 hI1 hb1=>?_)
 have hIc:=hIc.trans hI1
 have hDg:Sl I1 4 ziX (some ⟨b_27,0,none⟩) 7 7 (dgs x):=Sl.lit (dgs x) rfl zeo (show _=some (Obj.cells ((dgs x).flatMap ziX).toArray 165 (0,0)) from hb1)
 refine qc (vs:=[_]) rfl zum (zud hDg (by decide) (zwW x)) ?_
 refine zM ?_
 refine zE ?_
 refine zE ?_
 refine zA ?_
 refine zA (zN (Ql (zR ?_)))
 refine zM ?_
 refine zO (zN ?_)
 refine zI ?_ ?_<;>intro hc32
 ·
  have hp0:(JZ 0 (dgs x)).isSome=false:=by simpa using hc32
  obtain ⟨k1,k2⟩:=zqR hp0
  refine zR (zA ?_)
  refine zA (zN (Qt (Qc ?_)))
  exact Zx rfl rfl rfl (fun w hw=>⟨by rw [k1,k2],(hw.mono hIc).drop⟩)
 have hp0:(JZ 0 (dgs x)).isSome=true:=by simpa using hc32
 have k2:=zkw hp0
 refine Qo (Qa (zR (zM ?_)))
 refine zA ?_
 refine zA (zN (Qt ?_))
 first
 | exact Zx rfl rfl rfl (fun w hw=>⟨by rw [k2];rfl,(hw.mono hIc).drop⟩)
end
section
open Go Go.Kn Go.Proofs
theorem zlK:((List.range 9).all fun b=>decide (0≤IntKind.i64.wrap (1*2^(min ((b:Nat):Int).toNat IntKind.i64.bits))∧IntKind.i64.wrap (1*2^(min ((b:Nat):Int).toNat IntKind.i64.bits))≤256))=true:=by kernel_rfl
theorem zqT {b:Nat}(h:b≤8):0≤IntKind.i64.wrap (1*2^(min ((b:Nat):Int).toNat IntKind.i64.bits))∧IntKind.i64.wrap (1*2^(min ((b:Nat):Int).toNat IntKind.i64.bits))≤256:=of_decide_eq_true (List.all_eq_true.1 zlK b (List.mem_range.2 (by omega)))
theorem zqN (I:Qu)(r:Nat)(c:Int)(b:Nat)(hb:b≤8):Yg Tryz.prog 46 [.int .i64 b,Zb r] I [(r,.cells #[.int .i64 c] 3 (0,0))] (fun v I' L'=>v= .int .i64 (K4 c (IntKind.i64.wrap (1*2^(min (b:Int).toNat IntKind.i64.bits))-1))∧I'=I∧L'=[(r,.cells #[.int .i64 (c.fdiv (2^(min (b:Int).toNat IntKind.i64.bits)))] 3 (0,0))]):=by
 intro g H w hw
 refine qe Tryz.func46 Tryz.ntmps46 hw ?_
 have hmb:=zqT hb
 refine zR (zA (zN (Ql ?_)))
 refine YU mixed (by kernel_rfl) ?_
 refine zq (Qd rfl Qs (fun hg=>by exact QU.h0 rfl)) ?_
 refine zq (Qi rfl) ?_
 refine zq (Xu rfl rfl (fun hg=>by omega)) ?_
 refine zq (ZO rfl rfl rfl (fun _=>by omega)) ?_
 refine zq (Xo rfl rfl) ?_
 refine zq (ZP rfl) ?_
 refine YV ?_
 refine Qa (zR ?_)
 refine zL Qs ?_
 refine zM ?_
 refine zV (zjl rfl rfl (by omega) rfl) ?_
 refine zS Yi ?_
 refine zN (zR ?_)
 refine zM ?_
 refine zA (zN (Qt ?_))
 exact Zv rfl rfl (fun w hw=>⟨_,I,_,rfl,zye _,hw,rfl,rfl,rfl⟩)
end
section
open Go Go.Kn Go.Proofs
def lbN (b:Nat)(c:Int):Int:=K4 c (IntKind.i64.wrap (1*2^(min (b:Int).toNat IntKind.i64.bits))-1)
def shN (b:Nat)(c:Int):Int:=c.fdiv (2^(min (b:Int).toNat IntKind.i64.bits))
def ztN (c:Int):Sg:=⟨0,shN 4 (shN 2 (shN 4 (shN 2 (shN 8 (shN 7 c))))),0,0,lbN 4 (shN 2 (shN 4 (shN 2 (shN 8 (shN 7 c))))),lbN 2 (shN 4 (shN 2 (shN 8 (shN 7 c)))),lbN 4 (shN 2 (shN 8 (shN 7 c))),lbN 2 (shN 8 (shN 7 c)),lbN 8 (shN 7 c),lbN 7 c,0,0,0,0⟩
def zkH:Sg:=⟨0,0,0,0,0,0,0,0,0,0,0,0,0,0⟩
def UG (c:Int):Int:=zdT (ztN c)
def zjc (c:Int):Sg:=if UG c≠0 then zkH else ztN c
end
section
open Go Go.Kn Go.Proofs
theorem ZL:AgT Tryz.prog 54 14:=.of (by kernel_rfl)
theorem zaE:Fun Tryz.prog 46:=.of Tryz.func46 (by kernel_rfl) (by kernel_rfl)
theorem znt:Fun Tryz.prog 47:=.of Tryz.func47 (by kernel_rfl) (by kernel_rfl)
theorem UQ:PlT Tryz.prog 54 #[(0,1),(1,1),(2,1),(3,1),(4,1),(5,1),(6,1),(7,1),(8,1),(9,1),(10,2),(12,2)] (.agg #[(.int .i64 0),(.int .i64 0),(.int .i64 0),(.int .i64 0),(.int .i64 0),(.int .i64 0),(.int .i64 0),(.int .i64 0),(.int .i64 0),(.int .i64 0),(.int .i64 0),(.int .i64 0),(.int .i64 0),(.int .i64 0)]):=⟨.of (by kernel_rfl),by kernel_rfl,fun w=>by kernel_rfl⟩
theorem Vx:SzT Tryz.prog 54 14:=.of (by kernel_rfl)
theorem WX:Yp Tryz.prog 54 (.agg #[(.int .i64 0),(.int .i64 0),(.int .i64 0),(.int .i64 0),(.int .i64 0),(.int .i64 0),(.int .i64 0),(.int .i64 0),(.int .i64 0),(.int .i64 0),(.int .i64 0),(.int .i64 0),(.int .i64 0),(.int .i64 0)]):=.of (by kernel_rfl)
theorem Wk (I:Qu)(r:Nat)(c:Int)(b:Nat)(hb:b≤8):Yg Tryz.prog 46 [.int .i64 b,Zb r] I [(r,.cells #[.int .i64 c] 3 (0,0))] (fun v I' L'=>v= .int .i64 (lbN b c)∧I'=I∧L'=[(r,.cells #[.int .i64 (shN b c)] 3 (0,0))]):=zqN I r c b hb
set_option maxHeartbeats 1600000 in
theorem zgN (I:Qu) (c:Int):Zw Tryz.prog 23 [.int .i64 c] I (.tuple #[JX (zjc c),.int .i64 (UG c)]):=by
 intro g H w hw
 refine qe Tryz.func23 Tryz.ntmps23 hw ?_
 have hIc:=zye I
 refine zR ?_
 refine Qr WX rfl rfl (fun b_2=>?_)
 refine zA ?_
 refine zN (zR ?_)
 refine zM ?_
 refine Qr zsX rfl rfl (fun b_4=>?_)
 refine zS Yi ?_
 refine zN (zR ?_)
 refine zV (Zc (us:=[]) (vs:=[_]) rfl rfl) ?_
 refine zA ?_
 refine zN (zR ?_)
 refine zM ?_
 refine Qz (cap:=[Zb b_4]) (vs:=[_]) rfl rfl zaE (by repeat (first | exact .cons .here .nil | exact QD | exact Qw | apply QC | apply QB)) (Wk _ b_4 c 7 (by decide)) rfl rfl ?_
 rintro vv1 I1 L1 hI1 ⟨rfl,rfl,rfl⟩
 have hIc:=hIc.trans hI1
 refine zF J0 ?_
 refine zS Yi ?_
 refine zN (zR ?_)
 refine zM ?_
 refine Qz (cap:=[Zb b_4]) (vs:=[_]) rfl rfl zaE (by repeat (first | exact .cons .here .nil | exact QD | exact Qw | apply QC | apply QB)) (Wk _ b_4 (shN 7 c) 8 (by decide)) rfl rfl ?_
 rintro vv2 I2 L2 hI2 ⟨rfl,rfl,rfl⟩
 have hIc:=hIc.trans hI2
 refine zF JR ?_
 refine zS Yi ?_
 refine zN (zR ?_)
 refine zM ?_
 refine Qz (cap:=[Zb b_4]) (vs:=[_]) rfl rfl zaE (by repeat (first | exact .cons .here .nil | exact QD | exact Qw | apply QC | apply QB)) (Wk _ b_4 (shN 8 (shN 7 c)) 2 (by decide)) rfl rfl ?_
 rintro vv3 I3 L3 hI3 ⟨rfl,rfl,rfl⟩
 have hIc:=hIc.trans hI3
 refine zF Kb ?_
 refine zS Yi ?_
 refine zN (zR ?_)
 refine zM ?_
 refine Qz (cap:=[Zb b_4]) (vs:=[_]) rfl rfl zaE (by repeat (first | exact .cons .here .nil | exact QD | exact Qw | apply QC | apply QB)) (Wk _ b_4 (shN 2 (shN 8 (shN 7 c))) 4 (by decide)) rfl rfl ?_
 rintro vv4 I4 L4 hI4 ⟨rfl,rfl,rfl⟩
 have hIc:=hIc.trans hI4
 refine zF JV ?_
 refine zS Yi ?_
 refine zN (zR ?_)
 refine zM ?_
 refine Qz (cap:=[Zb b_4]) (vs:=[_]) rfl rfl zaE (by repeat (first | exact .cons .here .nil | exact QD | exact Qw | apply QC | apply QB)) (Wk _ b_4 (shN 4 (shN 2 (shN 8 (shN 7 c)))) 2 (by decide)) rfl rfl ?_
 rintro vv5 I5 L5 hI5 ⟨rfl,rfl,rfl⟩
 have hIc:=hIc.trans hI5
 refine zF JW ?_
 refine zS Yi ?_
 refine zN (zR ?_)
 refine zM ?_
 refine Qz (cap:=[Zb b_4]) (vs:=[_]) rfl rfl zaE (by repeat (first | exact .cons .here .nil | exact QD | exact Qw | apply QC | apply QB)) (Wk _ b_4 (shN 2 (shN 4 (shN 2 (shN 8 (shN 7 c))))) 4 (by decide)) rfl rfl ?_
 rintro vv6 I6 L6 hI6 ⟨rfl,rfl,rfl⟩
 have hIc:=hIc.trans hI6
 refine zF W6 ?_
 refine zS Yi ?_
 refine zN (zR ?_)
 refine zL Qs ?_
 refine zF Ke ?_
 refine zS Yi ?_
 refine zN (Ql (zR ?_))
 refine zV (Qp rfl ZL (fun hg=>by exact Cells.g1) rfl) ?_
 refine qc (vs:=[_]) rfl znt (znj _ (ztN c)) ?_
 refine zM ?_
 refine zE ?_
 refine zE ?_
 refine zA ?_
 refine zN (zR ?_)
 refine zM ?_
 refine zC (zN ?_)
 refine zI ?_ ?_<;>intro hc34
 ·
  have he:UG c≠0:=by unfold UG;simpa using hc34
  have k1:zjc c=zkH:=if_pos he
  have he9:UG c=zdT (ztN c):=rfl
  refine zR ?_
  refine zV (QS (ps:=[]) [_,_,_,_,_,_,_,_,_,_,_,_,_,_] UQ rfl rfl) ?_
  refine zM ?_
  refine zh Vx ?_
  refine zA (zN (Qt (Qc ?_)))
  exact Zs rfl rfl rfl ZL (by repeat (first | exact zyc | apply zyb)) rfl (fun w hw=>⟨by rw [k1,he9];rfl,(hw.mono hIc).drop⟩)
 have he:UG c=0:=by unfold UG;simpa using hc34
 have k1:zjc c=ztN c:=if_neg (by omega)
 have he9:=he
 refine Qo (Qa (zR ?_))
 refine zV (Qp rfl ZL (fun hg=>by exact Cells.g1) rfl) ?_
 refine zh Vx ?_
 refine zA (zN (Qt ?_))
 exact Zs rfl rfl rfl ZL (by repeat (first | exact zyc | apply zyb)) rfl (fun w hw=>⟨by rw [k1,he9];rfl,(hw.mono hIc).drop⟩)
end
section
open Go Go.Kn Go.Proofs
def zfi (x y:Int):Int:=if (x != y&&x != 8589934592&&y != 8589934592)=true then 3 else 0
end
section
open Go Go.Kn Go.Proofs
theorem zft (I:Qu)(x y:Int):Zw Tryz.prog 104 [.int .i64 x,.int .i64 y] I (.int .i64 (zfi x y)):=by
 intro g H w hw
 refine qe Tryz.func104 Tryz.ntmps104 hw ?_
 refine zR (zA (zN (Ql (zR ?_))))
 refine zM ?_
 refine zM ?_
 refine zC ?_
 refine zM ?_
 refine QE 3 rfl rfl rfl ?_
 refine zK (Qi rfl) ?_
 refine zK (QH rfl rfl rfl) ?_
 refine QP rfl rfl rfl rfl rfl ?_
 refine zM ?_
 refine QE 7 rfl rfl rfl ?_
 refine zK (Qi rfl) ?_
 refine zK (QH rfl rfl rfl) ?_
 refine QP rfl rfl rfl rfl rfl ?_
 refine zN ?_
 refine zI ?_ ?_<;>intro hc15
 ·
  refine zR (zA (zN (Qt (Qc ?_))))
  first
  | exact zr rfl rfl (by unfold zfi;rw [if_pos (by assumption)])
 refine Qo (Qa (zR (zA (zN (Qt ?_)))))
 first
 | exact zr rfl rfl (by unfold zfi;rw [if_neg (by simp_all)])
end
section
open Go Go.Kn Go.Proofs
structure Rd where
 lost:Bool
 sg:Sg
def JF (r:Rd):List Value:=.bool r.lost::Y2 r.sg
theorem Zq (r:Rd):(JF r).length=15:=rfl
def Ko (r:Rd):Int:=if r.lost=true then 8589934592 else zgL r.sg
end
section
open Go Go.Kn Go.Proofs
theorem ze7:AgT Tryz.prog 60 15:=.of (by kernel_rfl)
theorem V3:QW Tryz.prog 60 0 0:=.of (by kernel_rfl)
theorem Jr:QW Tryz.prog 60 1 1:=.of (by kernel_rfl)
theorem UR:QW Tryz.prog 65 2 2:=.of (by kernel_rfl)
theorem za7:ScT Tryz.prog 4:=.of (by kernel_rfl)
theorem zck:ScT Tryz.prog 63:=.of (by kernel_rfl)
theorem Xp:SlT Tryz.prog 63 60 15:=.of (by kernel_rfl)
theorem ze6:SzT Tryz.prog 60 15:=.of (by kernel_rfl)
theorem zme:Yp Tryz.prog 60 (.agg #[(.bool false),(.int .i64 0),(.int .i64 0),(.int .i64 0),(.int .i64 0),(.int .i64 0),(.int .i64 0),(.int .i64 0),(.int .i64 0),(.int .i64 0),(.int .i64 0),(.int .i64 0),(.int .i64 0),(.int .i64 0),(.int .i64 0)]):=.of (by kernel_rfl)
theorem Yq {I:Qu}{av:Option Addr}{n c:Nat}{rs:List Rd}(hR:Sl I 15 JF av n c rs)(hn:n≤100000)(no yr:Int):Yg Tryz.prog 59 [.agg #[.int .i64 no,.int .i64 yr,.slice av n c]] I [] (zbT 1 QR (rs.map Ko)):=by
 intro g H w hw
 refine qe Tryz.func59 Tryz.ntmps59 hw ?_
 have hIc:=zye I
 refine zR ?_
 refine Q5 rfl rfl rfl (fun b_1=>?_)
 refine zA (zN (Ql (Ql ?_)))
 refine Vo (fun I1 hI1 hall=>?_)
 have hR:=hR.mono hI1;have hIc:=hIc.trans hI1
 have hCw:QU I1 [] b_1 2 (.slice av n c):=.imm (hall _ _ (by repeat (first | exact List.mem_cons_self .. | apply List.mem_cons_of_mem))) rfl
 refine Qg ?_
 refine zF UR ?_
 refine zV (Qd rfl zck (fun hg=>by exact hCw.any)) ?_
 refine zQ Xp ?_
 refine zM (zN (Qm ?_))
 refine zU [(7,_),(8,_)] (fun T L0 mz E I' loc'=>∃ (k:Nat) (v2:Value) (L:Go.Kn.Loc),mz=n-k∧E=(2,v2)::(9,.int .i64 k)::T∧I1=I'∧L=loc'∧k≤n∧OwnS 3 1 v2 k (((rs.take k).map Ko).flatMap QR) L) ?_ (h:=⟨0,_,[],rfl,rfl,rfl,rfl,Nat.zero_le _,OwnS.nil⟩)
 rintro mz E I' loc' ⟨k,v2,L,rfl,rfl,rfl,rfl,hk,hO⟩
 refine zR (zC (zN (Ql ?_)))
 refine zI ?_ ?_<;>intro hc10
 ·
  have hlt_k:k<n:=by have h:=hc10;simp at h;omega
  obtain ⟨r,hr⟩:=hR.at hlt_k
  refine Qo (Qa (Ql (Qm (zR ?_))))
  refine zV (zX Xp hR) ?_
  refine zV (Qp rfl ze7 (fun hg=>by exact zyf hR hr) rfl) ?_
  refine Qr zme rfl rfl (fun b_4=>?_)
  refine zh ze6 ?_
  refine zN (zR ?_)
  refine zA (zN (Ql (zR ?_)))
  refine zF V3 ?_
  refine zV (Qd rfl za7 (fun hg=>by exact zx9 rfl)) ?_
  refine zO (zN ?_)
  refine zI ?_ ?_<;>intro hc15
  ·
   have hlo:Ko r=zgL r.sg:=by unfold Ko;rw [if_neg (by simpa using hc15)]
   refine Qg ?_
   refine zF Jr ?_
   refine zV (Qp rfl ZL (fun hg=>by exact Cells.s0 (vs:=[_,_,_,_,_,_,_,_,_,_,_,_,_,_]) rfl) rfl) ?_
   refine qc (vs:=[_]) rfl znt (znj _ r.sg) ?_
   refine zM ?_
   refine zE ?_
   refine zE ?_
   refine zA (Qb ?_)
   rw [←hlo]
   refine Qa (Qg (zM ?_))
   refine zM ?_
   refine Qq (ps:=[(0,_)]) (m:=[QR (Ko r)]) Zi rfl (.cons rfl (.nil)) rfl (by simp [Qv]) (by decide) (by decide) rfl rfl (fun b_24=>?_)
   refine QY (v:=_) (ys:=[Ko r].flatMap QR) (L:=L) rfl rfl Zi hO (by repeat (first | exact .cons .here .nil | exact QD | exact Qw | apply QC | apply QB)) ⟨rfl,fun _=>rfl,by repeat (first | exact zyc | apply zyb | apply zyd)⟩ (JG [Ko r]) (by omega) rfl rfl ?_
   intro v9 L9 hO9 _;rw [←List.flatMap_append] at hO9
   refine zA (Qb (Qh (Qa (Qg ?_))))
   refine zB ?_
   refine zM (Qb ?_)
   exact zm (h:=⟨n-(k+1),by omega,k+1,_,_,rfl,rfl,rfl,rfl,by omega,by rw [Xj hr];exact hO9⟩)
  have hlo:Ko r=8589934592:=by unfold Ko;rw [if_pos (by simpa using hc15)]
  rw [←hlo]
  refine Qo (Qa (Qg (zM ?_)))
  refine zM ?_
  refine Qq (ps:=[(0,_)]) (m:=[QR (Ko r)]) Zi rfl (.cons rfl (.nil)) rfl (by simp [Qv]) (by decide) (by decide) rfl rfl (fun b_24=>?_)
  refine QY (v:=_) (ys:=[Ko r].flatMap QR) (L:=L) rfl rfl Zi hO (by repeat (first | exact .cons .here .nil | exact QD | exact Qw | apply QC | apply QB)) ⟨rfl,fun _=>rfl,by repeat (first | exact zyc | apply zyb | apply zyd)⟩ (JG [Ko r]) (by omega) rfl rfl ?_
  intro v9 L9 hO9 _;rw [←List.flatMap_append] at hO9
  refine zA (Qb (Qh (Qa (Qg ?_))))
  refine zB ?_
  refine zM (Qb ?_)
  exact zm (h:=⟨n-(k+1),by omega,k+1,_,_,rfl,rfl,rfl,rfl,by omega,by rw [Xj hr];exact hO9⟩)
 have hge_k:n≤k:=by have h:=hc10;simp at h;omega
 rw [ZF hR.len hge_k,show k=n by omega] at hO
 refine QI (Qf (Qf (Qk (Qa (zR (zM ?_))))))
 refine zA (zN (Qt ?_))
 exact Zv rfl rfl (fun w hw=>by obtain ⟨I9,h91,h92,h93⟩:=OwnS.res hO Qv (by decide) hw;exact ⟨_,I9,[],rfl,hIc.trans h91,h92,h93⟩)
end
section
open Go Go.Kn Go.Proofs
structure Wt where
 no:Int
 yr:Int
 a:Option Addr
 n:Nat
 c:Nat
def zki (w:Wt):List Value:=[.int .i64 w.no,.int .i64 w.yr,.slice w.a w.n w.c]
theorem ZK (w:Wt):(zki w).length=3:=rfl
def zm6 (ws:List Wt):Bool:=decide (ws.length≤5)&&ws.all fun w=>decide (w.n≤8)
end
section
open Go Go.Kn Go.Proofs
theorem Vf:SlT Tryz.prog 35 65 3:=.of (by kernel_rfl)
theorem ztq {I:Qu}{av:Option Addr}{n c:Nat}{ws:List Wt}(hW:Sl I 3 zki av n c ws)(hn:n≤9223372036854775807):Zw Tryz.prog 28 [.slice av n c] I (.bool (zm6 ws)):=by
 intro g H w hw
 refine qe Tryz.func28 Tryz.ntmps28 hw ?_
 have hWl:=hW.len
 refine zR (zA (zN (Ql (zR ?_))))
 refine zM ?_
 refine zQ Vf ?_
 refine zC (zN ?_)
 refine zI ?_ ?_<;>intro hc6
 ·
  have h5:¬ws.length≤5:=by have h:=hc6;simp at h;omega
  refine zR (zA (zN (Qt (Qc ?_))))
  first
  | exact zr rfl rfl (by unfold zm6;rw [decide_eq_false h5];rfl)
 have h5:ws.length≤5:=by have h:=hc6;simp at h;omega
 refine Qo (Qa (Ql (zR (zA (zN (Qm ?_))))))
 refine zU [(0,_)] (fun T L0 mz E I' loc'=>∃ (k:Nat),mz=n-k∧E=(3,.int .i64 k)::T∧I=I'∧L0=loc'∧k≤n∧(ws.take k).all (fun w=>decide (w.n≤8))=true) ?_ (h:=⟨0,rfl,rfl,rfl,rfl,Nat.zero_le _,rfl⟩)
 rintro mz E I' loc' ⟨k,rfl,rfl,rfl,rfl,hk,hall⟩
 refine Ql (zR (zM ?_))
 refine zM ?_
 refine zQ Vf ?_
 refine zC (zN ?_)
 refine zI ?_ ?_<;>intro hc10
 ·
  have hlt_k:k<n:=by have h:=hc10;simp at h;omega
  obtain ⟨x,hx⟩:=hW.at hlt_k
  refine Qo (Qa (Ql (Qm (zR (zM ?_)))))
  refine zM ?_
  refine zV (zX Vf hW) ?_
  refine zF UR ?_
  refine zV (Qd rfl zck (fun hg=>by exact zyg hW hx rfl)) ?_
  refine zQ Xp ?_
  refine zC (zN ?_)
  refine zI ?_ ?_<;>intro hc19
  ·
   have h8:decide (x.n≤8)=false:=by have h:=hc19;simp at h;simp;omega
   refine zR (zA (zN (Qt (Qn (Qc (Qc (Qn ?_)))))))
   refine Qc ?_
   first
   | exact zr rfl rfl (by unfold zm6;rw [List.all_eq_false.2 ⟨x,List.mem_of_getElem? hx,by rw [h8];decide⟩,Bool.and_false])
  have h8:decide (x.n≤8)=true:=by have h:=hc19;simp at h;simp;omega
  refine Qo (Qh (Qa (Qg (zM ?_))))
  refine zB ?_
  refine zA (Qb ?_)
  exact zm (h:=⟨n-(k+1),by omega,k+1,rfl,rfl,rfl,rfl,by omega,by rw [Z3 hx,List.all_append,hall];simpa using h8⟩)
 have hge_k:n≤k:=by have h:=hc10;simp at h;omega
 rw [List.take_of_length_le (by omega)] at hall
 refine QI (Qf (Qf (Qk (Qa (zR (zA (zN ?_)))))))
 refine Qt ?_
 first
 | exact zr rfl rfl (by unfold zm6;rw [hall,decide_eq_true h5];rfl)
end
section
open Go Go.Kn Go.Proofs
def Y6:Sg:=zkH
def YK (n lo hi:Int):Bool:=decide (n≥lo)&&decide (n≤hi)
/-! ### Ratios -/
def zgw (n:Int):Int:=if n<0 then 0-n else n
def zvF (a b:Int):Int:=(Int.gcd a b:Int)
def Um (n d:Int):Bool:= !(((((decide (d<1)||decide (d>1073741824))||decide (n< -1073741824))||decide (n>1073741824))||(zvF n d != 1)))
def zdi (fn fd tn td:Int):Bool:=(Um fn fd&&Um tn td)&&(decide (fn*td<tn*fd)&&(decide (fn≥0)&&decide (tn≤td)))
/-! ### Signs -/
def zx1 (k:Sg):Bool:=YK k.id 0 1048576&&YK k.role 0 63&&YK k.bar 0 4095&&YK k.kind 1 9&&YK k.mark 1 3&&YK k.side 0 2&&YK k.dir 0 8&&YK k.level 0 3&&YK k.size 0 255&&YK k.wth 0 64
def frm (k:Sg):Bool:=zx1 k&&zdi k.fn k.fd k.tn k.td
def skP (xs:List Sg)(i:Nat):Bool:= !(!frm (xs.getD i Y6)||(decide ((i:Int)>0)&&decide ((xs.getD ((i:Int)-1).toNat Y6).id≥(xs.getD i Y6).id)))
def skB (xs:List Sg):Bool:=(List.range xs.length).all (skP xs)
def WA (xs:List Sg):Int:=if xs.length>4096 then 2 else if skB xs then 0 else 360
def zw0 (n d:Int):List Value:=[.int .i64 n,.int .i64 d]
def zbD (n d:Int):Value:=.agg (zw0 n d).toArray
theorem zih {n:Int}(h:0≤n∧n≤9223372036854775807):IntKind.u64.wrap n=n:=by
 unfold IntKind.wrap IntKind.signed IntKind.bits
 simp
 omega
theorem zp5 {n:Int}(hn: -1073741824≤n∧n≤1073741824)(h:¬n<0):IntKind.u64.wrap n=zgw n:=by
 rw [zih (by omega)]
 unfold zgw;rw [if_neg h]
theorem zov {n:Int}(hn: -1073741824≤n∧n≤1073741824)(h:n<0):IntKind.u64.wrap (0-IntKind.u64.wrap n)=zgw n:=by
 unfold zgw;rw [if_pos h]
 unfold IntKind.wrap IntKind.signed IntKind.bits
 simp
 omega
def zvj (t b1 b2:Nat)(a b:Int):Go.Kn.Loc:=[(b2,.cells #[.int .u64 b] t (0,0)),(b1,.cells #[.int .u64 a] t (0,0))]
def zb2 (a b:Nat):List Nat:=if a=0 then [] else if b=0 then [a,0] else if a % b=0 then [a,b] else a::zb2 b (a % b)
termination_by b
decreasing_by exact Nat.mod_lt _ (by omega)
theorem zc3 (b:Nat):zb2 0 b=[]:=by rw [zb2];rfl
theorem zbo {a b:Nat}(ha:a≠0)(hb:b≠0)(h:a % b=0):zb2 a b=[a,b]:=by rw [zb2,if_neg ha,if_neg hb,if_pos h]
theorem zdb {a b:Nat}(ha:a≠0)(hb:b≠0)(h:a % b≠0):zb2 a b=a::zb2 b (a % b):=by rw [zb2,if_neg ha,if_neg hb,if_neg h]
theorem zkA:∀ (m:Nat) {a b d:Nat},b≤m→b≠0→(a=0→d=b)→(zb2 a b).getLastD d=Nat.gcd a b:=by
 intro m
 induction m with
 | zero=>intro a b d h1 h2;omega
 | succ m ih=>
  intro a b d h1 h2 hd
  by_cases ha:a=0
  ·
   subst ha;rw [zc3,Nat.gcd_zero_left,hd rfl];rfl
  ·
   by_cases h:a % b=0
   ·
    rw [zbo ha h2 h]
    show b=_
    rw [Nat.gcd_comm,Nat.gcd_rec,h,Nat.gcd_zero_left]
   ·
    rw [zdb ha h2 h,List.getLastD_cons,ih (by have:=Nat.mod_lt a (show 0<b by omega);omega) h (fun e=>absurd e h2)]
    rw [Nat.gcd_comm b,←Nat.gcd_rec,Nat.gcd_comm]
theorem zle (a b:Nat):((a:Int)).tmod (b:Int)=((a % b:Nat):Int):=by
 rw [Int.tmod_eq_emod_of_nonneg (by omega)];rfl
theorem zmx {a b:Int}(ha: -1073741824≤a∧a≤1073741824)(hb: -1073741824≤b∧b≤1073741824): -9223372036854775808≤a*b∧a*b≤9223372036854775807:=by
 have h1:(a*b).natAbs≤1073741824*1073741824:=by
  rw [Int.natAbs_mul]
  exact Nat.mul_le_mul (by omega) (by omega)
 omega
def zrS (n d:Int):Int:=if Um n d then 0 else 120
theorem zbe {n d:Int}(h:Um n d=true):(1≤d∧d≤1073741824)∧ -1073741824≤n∧n≤1073741824:=by
 unfold Um at h
 simp at h
 omega
theorem zrk (n d:Int):Nat.gcd (zgw n).toNat d.toNat=Int.gcd n d.toNat:=by
 unfold Int.gcd zgw
 congr 1
 split<;>omega
theorem Zd {b:Nat}(h:0<b):zp2 (b:Int) 1=(b:Int):=by
 unfold zp2
 split<;>omega
theorem ziL {a0 b0 a b:Nat}{pre:List Nat}(h:zb2 a0 b0=pre++zb2 a b)(ha:a≠0):pre++[a]<+:zb2 a0 b0:=by
 rw [h,zb2,if_neg ha]
 have key:∀ l:List Nat,pre++[a]<+:pre++a::l:=fun l=>⟨l,by simp⟩
 split
 ·
  exact key _
 ·
  split<;>exact key _
theorem zim {l:List Nat}{x d:Nat}:(l++[x]).getLastD d=x:=by simp [List.getLastD_eq_getLast?]
theorem zqc {n d:Int}(h:((((decide (d<1)||decide (d>1073741824))||decide (n< -1073741824))||decide (n>1073741824))||(zvF n d != 1))=true):Um n d=false:=by unfold Um;rw [h];rfl
theorem zlq {n d:Int}(h:((((decide (d<1)||decide (d>1073741824))||decide (n< -1073741824))||decide (n>1073741824))||(zvF n d != 1))=false):Um n d=true:=by unfold Um;rw [h];rfl
theorem zbH {fn fd tn td:Int}:(zrS fn fd != 0||zrS tn td != 0)= !(Um fn fd&&Um tn td):=by
 unfold zrS
 cases Um fn fd<;>cases Um tn td<;>rfl
def zkg (an ad bn bd:Int):Int:=if Um an ad&&Um bn bd then 0 else 120
def zjw (an ad bn bd:Int):Int:=if Um an ad&&Um bn bd then zrO (an*bd) (bn*ad) else 0
theorem zdA {fn fd tn td:Int}:(((zkg fn fd tn td==0)&&decide (zjw fn fd tn td<0))&&decide (fn≥0)&&decide (tn≤td))=zdi fn fd tn td:=by
 unfold zkg zjw zdi zrO
 cases h:(Um fn fd&&Um tn td) with
 | false=>rfl
 | true=>
  simp only [if_true,Bool.true_and]
  by_cases h2:fn*td<tn*fd
  ·
   simp [h2]
  ·
   by_cases h3:fn*td>tn*fd<;>simp [h2,h3]
theorem zcn {xs:List Sg}{k:Nat}{x:Sg}(hx:xs[k]? =some x):skP xs k= !(!frm x||(decide ((k:Int)>0)&&decide ((xs.getD ((k:Int)-1).toNat Y6).id≥x.id))):=by unfold skP;rw [Q1 hx]
end
end Go.Proofs.YtodakphagkommaaGreatDoor
namespace Go.Kn
section
open Go
structure Kp (p:Prop):Prop where
 out:p
theorem zxT {p q:Prop}(h1:Kp p→q)(h2:p):q:=h1 ⟨h2⟩
theorem ZT {C:Cx}{Q:Exit→Act→World→Prop}{e:Exit}{E E':Env}{I:Qu}{loc:Loc}(h:Kp (At C Q e E' I loc))(hE:Sub E' E:=by repeat (first | exact Sub.nil | refine Sub.cons rfl ?_)):At C Q e E I loc:=
 fun a w ha hw=>h.out a w (ha.sub hE) hw
end
end Go.Kn
namespace Go.Proofs.YtodakphagkommaaGreatDoor
section
open Go Go.Kn Go.Proofs
theorem Vg:AgT Tryz.prog 52 2:=.of (by kernel_rfl)
theorem Vb:QW Tryz.prog 52 0 0:=.of (by kernel_rfl)
theorem VW:QW Tryz.prog 52 1 1:=.of (by kernel_rfl)
theorem ZN:QW Tryz.prog 54 0 0:=.of (by kernel_rfl)
theorem VF:QW Tryz.prog 54 10 10:=.of (by kernel_rfl)
theorem Vw:QW Tryz.prog 54 11 12:=.of (by kernel_rfl)
theorem Kh:QW Tryz.prog 54 2 2:=.of (by kernel_rfl)
theorem Jz:QW Tryz.prog 54 3 3:=.of (by kernel_rfl)
theorem zdu:Fun Tryz.prog 142:=.of Tryz.func142 (by kernel_rfl) (by kernel_rfl)
theorem zgI:Fun Tryz.prog 154:=.of Tryz.func154 (by kernel_rfl) (by kernel_rfl)
theorem Wz:Fun Tryz.prog 192:=.of Tryz.func192 (by kernel_rfl) (by kernel_rfl)
theorem Yj:Fun Tryz.prog 202:=.of Tryz.func202 (by kernel_rfl) (by kernel_rfl)
theorem zhV:Fun Tryz.prog 203:=.of Tryz.func203 (by kernel_rfl) (by kernel_rfl)
theorem zjE:Fun Tryz.prog 237:=.of Tryz.func237 (by kernel_rfl) (by kernel_rfl)
theorem zaS:Fun Tryz.prog 253:=.of Tryz.func253 (by kernel_rfl) (by kernel_rfl)
theorem zoL:Fun Tryz.prog 259:=.of Tryz.func259 (by kernel_rfl) (by kernel_rfl)
theorem zoH:Fun Tryz.prog 260:=.of Tryz.func260 (by kernel_rfl) (by kernel_rfl)
theorem zpH:Fun Tryz.prog 262:=.of Tryz.func262 (by kernel_rfl) (by kernel_rfl)
theorem zqu:Fun Tryz.prog 265:=.of Tryz.func265 (by kernel_rfl) (by kernel_rfl)
theorem Zu:ScT Tryz.prog 186:=.of (by kernel_rfl)
theorem YZ:SlT Tryz.prog 48 54 14:=.of (by kernel_rfl)
theorem QN:SzT Tryz.prog 186 1:=.of (by kernel_rfl)
theorem zuE:Yp Tryz.prog 186 (.int .u64 0):=.of (by kernel_rfl)
theorem zge (I:Qu)(x:Int):Zw Tryz.prog 192 [.int .i64 x] I (.bool false):=by
 intro g H w hw
 refine qe Tryz.func192 Tryz.ntmps192 hw ?_
 refine zR (zA ?_)
 refine zN (zR ?_)
 refine zM ?_
 refine zM ?_
 refine zC ?_
 refine zA (zN (Qt ?_))
 exact zr rfl rfl (by simp)
theorem zlB (I:Qu)(x y:Int):Zw Tryz.prog 142 [.int .i64 x,.int .i64 y] I (.int .i64 (zrO x y)):=by
 intro g H w hw
 refine qe Tryz.func142 Tryz.ntmps142 hw ?_
 refine zR (zA ?_)
 refine zN (zR ?_)
 refine zM ?_
 refine qc (vs:=[_]) rfl Wz (zge I _) ?_
 refine zA ?_
 refine zN (zR ?_)
 refine zM ?_
 refine qc (vs:=[_]) rfl Wz (zge I _) ?_
 refine zA (zN (Ql (zR ?_)))
 refine zM (zN ?_)
 refine zI ?_ ?_<;>intro hc11
 ·
  cases hc11
 refine Qo (Qa (Ql (zR (zM (zN ?_)))))
 refine zI ?_ ?_<;>intro hc13
 ·
  cases hc13
 refine Qo (Qa (Ql (zR (zM ?_))))
 refine zM ?_
 refine zC (zN ?_)
 refine zI ?_ ?_<;>intro hc16
 ·
  refine zR (zA (zN (Qt (Qc ?_))))
  exact zr rfl rfl (by unfold zrO;first | (rw [if_pos (by simpa using hc16)]) | (rw [if_neg (by simpa using hc16),if_pos (by simpa using hc19)]) | (rw [if_neg (by simpa using hc16),if_neg (by simpa using hc19)]))
 refine Qo (Qa (Ql (zR (zM ?_))))
 refine zM ?_
 refine zC (zN ?_)
 refine zI ?_ ?_<;>intro hc19
 ·
  refine zR (zA (zN (Qt (Qc ?_))))
  exact zr rfl rfl (by unfold zrO;first | (rw [if_pos (by simpa using hc16)]) | (rw [if_neg (by simpa using hc16),if_pos (by simpa using hc19)]) | (rw [if_neg (by simpa using hc16),if_neg (by simpa using hc19)]))
 refine Qo (Qa (zR (zA (zN (Qt ?_)))))
 exact zr rfl rfl (by unfold zrO;first | (rw [if_pos (by simpa using hc16)]) | (rw [if_neg (by simpa using hc16),if_pos (by simpa using hc19)]) | (rw [if_neg (by simpa using hc16),if_neg (by simpa using hc19)]))
theorem zwJ (I:Qu)(n:Int)(hn: -1073741824≤n∧n≤1073741824):Zw Tryz.prog 260 [.int .i64 n] I (.int .u64 (zgw n)):=by
 intro g H w hw
 refine qe Tryz.func260 Tryz.ntmps260 hw ?_
 refine zR (zA (zN (Ql (zR ?_))))
 refine zM ?_
 refine zC (zN ?_)
 refine zI ?_ ?_<;>intro hc4
 ·
  refine zR (zM ?_)
  refine zV (JU rfl KB) ?_
  refine zV (ziE rfl) ?_
  refine zA (zN (Qt (Qc ?_)))
  exact zr rfl rfl (by rw [zov hn (by simpa using hc4)])
 refine Qo (Qa (zR (zM ?_)))
 refine zV (JU rfl KB) ?_
 refine zA (zN (Qt ?_))
 exact zr rfl rfl (by rw [zp5 hn (by simpa using hc4)])
theorem zwI (I:Qu)(a b:Int):Yg Tryz.prog 262 [.int .u64 a,.int .u64 b] I [] (fun v I' L=>I'=I∧∃ b1 b2,v= .func (.func 265) #[] [Zb b1,Zb b2].toArray∧L=zvj 186 b1 b2 a b):=by
 intro g H w hw
 refine qe Tryz.func262 Tryz.ntmps262 hw ?_
 refine zR ?_
 refine Q5 rfl rfl rfl (fun b_2=>?_)
 refine Q5 rfl rfl rfl (fun b_3=>?_)
 refine zA ?_
 refine zN (zR ?_)
 refine zV (Zc (us:=[]) (vs:=[_,_]) rfl rfl) ?_
 refine zA (zN (Qt ?_))
 exact Zv rfl rfl (fun w hw=>⟨_,I,_,rfl,zye _,hw,rfl,_,_,rfl,rfl⟩)
theorem zkD (I:Qu)(a0 b0:Nat)(b1 b2:Nat)(hb0:0<b0)(ha1:a0≤9223372036854775807)(hb1:b0≤9223372036854775807):zxj Tryz.prog 265 [Zb b1,Zb b2] I (zvj 186 b1 b2 (a0) (b0)) (fun n:Nat=>.int .u64 n) (zb2 a0 b0):=by
 intro g l J Jx hY I0 H w h0 hJ hw
 refine qe Tryz.func265 Tryz.ntmps265 hw ?_
 refine Qm ?_
 refine zdh (fun m E I' H' loc'=>∃ (a b:Nat) (pre:List Nat),m=b∧E=[(0,.func (.yield l) #[] #[]),(1,Zb b1),(2,Zb b2)]∧loc'=zvj 186 b1 b2 (a) (b)∧HLe I0 I'∧J pre I' H'∧zb2 a0 b0=pre++zb2 a b∧0<b∧a≤9223372036854775807∧b≤9223372036854775807) _ _ _ ⟨a0,b0,[],rfl,rfl,rfl,zye _,hJ,rfl,hb0,ha1,hb1⟩ (.cons rfl (.cons rfl (.cons rfl .nil))) rfl ?_
 rintro m E I' H' loc' ⟨a,b,pre,hmb,rfl,rfl,hI1,hJk,hrem,hbp,hal,hbl⟩
 subst m
 have hI0:=h0.trans hI1
 refine Ql (zR ?_)
 refine zL Zu ?_
 refine zC ?_
 refine zM ?_
 refine QE 2 rfl rfl rfl ?_
 refine zK (Qi rfl) ?_
 refine zK (Qd rfl Zu (fun hg=>by exact QU.h1 rfl)) ?_
 refine zco (vs:=[_]) (Post:=fun t I2 H2=>if t then J (pre++[a]) I2 H2 else Jx (pre++[a]) I2 H2) rfl rfl (.some rfl rfl rfl rfl gbt) rfl rfl (fun hcj=>hY pre a _ _ (ziL hrem (by simpa [ZX] using hcj)) hI0 hJk) ?_
 rintro t I2 H2 hI2 hyes hno
 refine QP rfl rfl rfl rfl rfl ?_
 refine zN ?_
 refine zI ?_ ?_<;>intro hc10
 ·
  have ha0:a≠0:=by simp at hc10;exact hc10.1
  have ht:t=true:=by simp at hc10;exact hc10.2
  subst ht
  have hJ1:J (pre++[a]) I2 H2:=hyes (by simp [ZX];exact ha0)
  refine Qo (Qa (Qm (Ql ?_)))
  apply zxT
  ·
   intro key
   have hD:=zye I2
   refine Jo ?_
   refine Z7 I2 [] mixed ?_
   refine KP 0 1 2 rfl rfl rfl (by kernel_rfl) ?_ ?_ ?_
   ·
    refine zL Zu ?_
    refine Qb ?_
    refine zD hD ?_
    refine Zr 1 2 rfl rfl (by kernel_rfl) ?_ ?_
    ·
     refine zL Zu ?_
     refine Qb ?_
     refine zD hD ?_
     refine Zr 2 5 rfl rfl (by kernel_rfl) ?_ ?_
     ·
      refine zL Zu ?_
      refine Qb ?_
      refine zD hD ?_
      refine Zr 3 5 rfl rfl (by kernel_rfl) ?_ ?_
      ·
       refine zV (YS rfl rfl) ?_
       refine Qb ?_
       refine zD hD ?_
       refine Zr 4 5 rfl rfl (by kernel_rfl) ?_ ?_
       ·
        refine zV (ZS rfl rfl (fun hg=>by rw [Zd hbp];omega)) ?_
        refine Qb ?_
        refine zD hD ?_
        refine qd 5 rfl ?_
        refine zS QN ?_
        refine Qb ?_
        refine zD hD ?_
        refine qd 6 rfl ?_
        refine zS QN ?_
        refine Qb ?_
        refine zD hD ?_
        refine QG (by kernel_rfl) ?_
        refine QQ ?_
        first | exact key.out | exact ZT key
       refine zS QN ?_
       refine Qb ?_
       refine zD hD ?_
       refine qd 4 rfl ?_
       refine zV (ZS rfl rfl (fun hg=>by rw [Zd hbp];omega)) ?_
       refine Qb ?_
       refine zD hD ?_
       refine qd 6 rfl ?_
       refine zS QN ?_
       refine Qb ?_
       refine zD hD ?_
       refine QG (by kernel_rfl) ?_
       refine QQ ?_
       first | exact key.out | exact ZT key
      refine zS QN ?_
      refine Qb ?_
      refine zD hD ?_
      refine qd 3 rfl ?_
      refine zV (YS rfl rfl) ?_
      refine Qb ?_
      refine zD hD ?_
      refine qd 4 rfl ?_
      refine zV (ZS rfl rfl (fun hg=>by rw [Zd hbp];omega)) ?_
      refine Qb ?_
      refine zD hD ?_
      refine qd 6 rfl ?_
      refine zS QN ?_
      refine Qb ?_
      refine zD hD ?_
      refine QG (by kernel_rfl) ?_
      refine QQ ?_
      first | exact key.out | exact ZT key
     refine zS QN ?_
     refine Qb ?_
     refine zD hD ?_
     refine qd 2 rfl ?_
     refine zL Zu ?_
     refine Qb ?_
     refine zD hD ?_
     refine qd 3 rfl ?_
     refine zV (YS rfl rfl) ?_
     refine Qb ?_
     refine zD hD ?_
     refine qd 4 rfl ?_
     refine zV (ZS rfl rfl (fun hg=>by rw [Zd hbp];omega)) ?_
     refine Qb ?_
     refine zD hD ?_
     refine qd 6 rfl ?_
     refine zS QN ?_
     refine Qb ?_
     refine zD hD ?_
     refine QG (by kernel_rfl) ?_
     refine QQ ?_
     first | exact key.out | exact ZT key
    refine zL Zu ?_
    refine Qb ?_
    refine zD hD ?_
    refine Zr 1 3 rfl rfl (by kernel_rfl) ?_ ?_
    ·
     refine zL Zu ?_
     refine Qb ?_
     refine zD hD ?_
     refine Zr 3 5 rfl rfl (by kernel_rfl) ?_ ?_
     ·
      refine zV (YS rfl rfl) ?_
      refine Qb ?_
      refine zD hD ?_
      refine Zr 4 5 rfl rfl (by kernel_rfl) ?_ ?_
      ·
       refine zV (ZS rfl rfl (fun hg=>by rw [Zd hbp];omega)) ?_
       refine Qb ?_
       refine zD hD ?_
       refine qd 5 rfl ?_
       refine zS QN ?_
       refine Qb ?_
       refine zD hD ?_
       refine qd 6 rfl ?_
       refine zS QN ?_
       refine Qb ?_
       refine zD hD ?_
       refine QG (by kernel_rfl) ?_
       refine QQ ?_
       first | exact key.out | exact ZT key
      refine zS QN ?_
      refine Qb ?_
      refine zD hD ?_
      refine qd 4 rfl ?_
      refine zV (ZS rfl rfl (fun hg=>by rw [Zd hbp];omega)) ?_
      refine Qb ?_
      refine zD hD ?_
      refine qd 6 rfl ?_
      refine zS QN ?_
      refine Qb ?_
      refine zD hD ?_
      refine QG (by kernel_rfl) ?_
      refine QQ ?_
      first | exact key.out | exact ZT key
     refine zS QN ?_
     refine Qb ?_
     refine zD hD ?_
     refine qd 3 rfl ?_
     refine zV (YS rfl rfl) ?_
     refine Qb ?_
     refine zD hD ?_
     refine qd 4 rfl ?_
     refine zV (ZS rfl rfl (fun hg=>by rw [Zd hbp];omega)) ?_
     refine Qb ?_
     refine zD hD ?_
     refine qd 6 rfl ?_
     refine zS QN ?_
     refine Qb ?_
     refine zD hD ?_
     refine QG (by kernel_rfl) ?_
     refine QQ ?_
     first | exact key.out | exact ZT key
    refine zV (YS rfl rfl) ?_
    refine Qb ?_
    refine zD hD ?_
    refine qd 1 rfl ?_
    refine zL Zu ?_
    refine Qb ?_
    refine zD hD ?_
    refine Zr 4 5 rfl rfl (by kernel_rfl) ?_ ?_
    ·
     refine zV (ZS rfl rfl (fun hg=>by rw [Zd hbp];omega)) ?_
     refine Qb ?_
     refine zD hD ?_
     refine qd 5 rfl ?_
     refine zS QN ?_
     refine Qb ?_
     refine zD hD ?_
     refine qd 6 rfl ?_
     refine zS QN ?_
     refine Qb ?_
     refine zD hD ?_
     refine QG (by kernel_rfl) ?_
     refine QQ ?_
     first | exact key.out | exact ZT key
    refine zS QN ?_
    refine Qb ?_
    refine zD hD ?_
    refine qd 4 rfl ?_
    refine zV (ZS rfl rfl (fun hg=>by rw [Zd hbp];omega)) ?_
    refine Qb ?_
    refine zD hD ?_
    refine qd 6 rfl ?_
    refine zS QN ?_
    refine Qb ?_
    refine zD hD ?_
    refine QG (by kernel_rfl) ?_
    refine QQ ?_
    first | exact key.out | exact ZT key
   ·
    refine zL Zu ?_
    refine Qb ?_
    refine zD hD ?_
    refine Zr 0 2 rfl rfl (by kernel_rfl) ?_ ?_
    ·
     refine zL Zu ?_
     refine Qb ?_
     refine zD hD ?_
     refine Zr 2 5 rfl rfl (by kernel_rfl) ?_ ?_
     ·
      refine zL Zu ?_
      refine Qb ?_
      refine zD hD ?_
      refine Zr 3 5 rfl rfl (by kernel_rfl) ?_ ?_
      ·
       refine zV (YS rfl rfl) ?_
       refine Qb ?_
       refine zD hD ?_
       refine Zr 4 5 rfl rfl (by kernel_rfl) ?_ ?_
       ·
        refine zV (ZS rfl rfl (fun hg=>by rw [Zd hbp];omega)) ?_
        refine Qb ?_
        refine zD hD ?_
        refine qd 5 rfl ?_
        refine zS QN ?_
        refine Qb ?_
        refine zD hD ?_
        refine qd 6 rfl ?_
        refine zS QN ?_
        refine Qb ?_
        refine zD hD ?_
        refine QG (by kernel_rfl) ?_
        refine QQ ?_
        first | exact key.out | exact ZT key
       refine zS QN ?_
       refine Qb ?_
       refine zD hD ?_
       refine qd 4 rfl ?_
       refine zV (ZS rfl rfl (fun hg=>by rw [Zd hbp];omega)) ?_
       refine Qb ?_
       refine zD hD ?_
       refine qd 6 rfl ?_
       refine zS QN ?_
       refine Qb ?_
       refine zD hD ?_
       refine QG (by kernel_rfl) ?_
       refine QQ ?_
       first | exact key.out | exact ZT key
      refine zS QN ?_
      refine Qb ?_
      refine zD hD ?_
      refine qd 3 rfl ?_
      refine zV (YS rfl rfl) ?_
      refine Qb ?_
      refine zD hD ?_
      refine qd 4 rfl ?_
      refine zV (ZS rfl rfl (fun hg=>by rw [Zd hbp];omega)) ?_
      refine Qb ?_
      refine zD hD ?_
      refine qd 6 rfl ?_
      refine zS QN ?_
      refine Qb ?_
      refine zD hD ?_
      refine QG (by kernel_rfl) ?_
      refine QQ ?_
      first | exact key.out | exact ZT key
     refine zS QN ?_
     refine Qb ?_
     refine zD hD ?_
     refine qd 2 rfl ?_
     refine zL Zu ?_
     refine Qb ?_
     refine zD hD ?_
     refine qd 3 rfl ?_
     refine zV (YS rfl rfl) ?_
     refine Qb ?_
     refine zD hD ?_
     refine qd 4 rfl ?_
     refine zV (ZS rfl rfl (fun hg=>by rw [Zd hbp];omega)) ?_
     refine Qb ?_
     refine zD hD ?_
     refine qd 6 rfl ?_
     refine zS QN ?_
     refine Qb ?_
     refine zD hD ?_
     refine QG (by kernel_rfl) ?_
     refine QQ ?_
     first | exact key.out | exact ZT key
    refine zL Zu ?_
    refine Qb ?_
    refine zD hD ?_
    refine Zr 0 3 rfl rfl (by kernel_rfl) ?_ ?_
    ·
     refine zL Zu ?_
     refine Qb ?_
     refine zD hD ?_
     refine Zr 3 5 rfl rfl (by kernel_rfl) ?_ ?_
     ·
      refine zV (YS rfl rfl) ?_
      refine Qb ?_
      refine zD hD ?_
      refine Zr 4 5 rfl rfl (by kernel_rfl) ?_ ?_
      ·
       refine zV (ZS rfl rfl (fun hg=>by rw [Zd hbp];omega)) ?_
       refine Qb ?_
       refine zD hD ?_
       refine qd 5 rfl ?_
       refine zS QN ?_
       refine Qb ?_
       refine zD hD ?_
       refine qd 6 rfl ?_
       refine zS QN ?_
       refine Qb ?_
       refine zD hD ?_
       refine QG (by kernel_rfl) ?_
       refine QQ ?_
       first | exact key.out | exact ZT key
      refine zS QN ?_
      refine Qb ?_
      refine zD hD ?_
      refine qd 4 rfl ?_
      refine zV (ZS rfl rfl (fun hg=>by rw [Zd hbp];omega)) ?_
      refine Qb ?_
      refine zD hD ?_
      refine qd 6 rfl ?_
      refine zS QN ?_
      refine Qb ?_
      refine zD hD ?_
      refine QG (by kernel_rfl) ?_
      refine QQ ?_
      first | exact key.out | exact ZT key
     refine zS QN ?_
     refine Qb ?_
     refine zD hD ?_
     refine qd 3 rfl ?_
     refine zV (YS rfl rfl) ?_
     refine Qb ?_
     refine zD hD ?_
     refine qd 4 rfl ?_
     refine zV (ZS rfl rfl (fun hg=>by rw [Zd hbp];omega)) ?_
     refine Qb ?_
     refine zD hD ?_
     refine qd 6 rfl ?_
     refine zS QN ?_
     refine Qb ?_
     refine zD hD ?_
     refine QG (by kernel_rfl) ?_
     refine QQ ?_
     first | exact key.out | exact ZT key
    refine zV (YS rfl rfl) ?_
    refine Qb ?_
    refine zD hD ?_
    refine Zr 0 4 rfl rfl (by kernel_rfl) ?_ ?_
    ·
     refine zL Zu ?_
     refine Qb ?_
     refine zD hD ?_
     refine Zr 4 5 rfl rfl (by kernel_rfl) ?_ ?_
     ·
      refine zV (ZS rfl rfl (fun hg=>by rw [Zd hbp];omega)) ?_
      refine Qb ?_
      refine zD hD ?_
      refine qd 5 rfl ?_
      refine zS QN ?_
      refine Qb ?_
      refine zD hD ?_
      refine qd 6 rfl ?_
      refine zS QN ?_
      refine Qb ?_
      refine zD hD ?_
      refine QG (by kernel_rfl) ?_
      refine QQ ?_
      first | exact key.out | exact ZT key
     refine zS QN ?_
     refine Qb ?_
     refine zD hD ?_
     refine qd 4 rfl ?_
     refine zV (ZS rfl rfl (fun hg=>by rw [Zd hbp];omega)) ?_
     refine Qb ?_
     refine zD hD ?_
     refine qd 6 rfl ?_
     refine zS QN ?_
     refine Qb ?_
     refine zD hD ?_
     refine QG (by kernel_rfl) ?_
     refine QQ ?_
     first | exact key.out | exact ZT key
    refine zV (ZS rfl rfl (fun hg=>by rw [Zd hbp];omega)) ?_
    refine Qb ?_
    refine zD hD ?_
    refine qd 0 rfl ?_
    refine zL Zu ?_
    refine Qb ?_
    refine zD hD ?_
    refine qd 5 rfl ?_
    refine zS QN ?_
    refine Qb ?_
    refine zD hD ?_
    refine qd 6 rfl ?_
    refine zS QN ?_
    refine Qb ?_
    refine zD hD ?_
    refine QG (by kernel_rfl) ?_
    refine QQ ?_
    first | exact key.out | exact ZT key
   refine zL Zu ?_
   refine Qb ?_
   refine zD hD ?_
   refine KP 0 1 3 rfl rfl rfl (by kernel_rfl) ?_ ?_ ?_
   ·
    refine zL Zu ?_
    refine Qb ?_
    refine zD hD ?_
    refine Zr 1 3 rfl rfl (by kernel_rfl) ?_ ?_
    ·
     refine zL Zu ?_
     refine Qb ?_
     refine zD hD ?_
     refine Zr 3 5 rfl rfl (by kernel_rfl) ?_ ?_
     ·
      refine zV (YS rfl rfl) ?_
      refine Qb ?_
      refine zD hD ?_
      refine Zr 4 5 rfl rfl (by kernel_rfl) ?_ ?_
      ·
       refine zV (ZS rfl rfl (fun hg=>by rw [Zd hbp];omega)) ?_
       refine Qb ?_
       refine zD hD ?_
       refine qd 5 rfl ?_
       refine zS QN ?_
       refine Qb ?_
       refine zD hD ?_
       refine qd 6 rfl ?_
       refine zS QN ?_
       refine Qb ?_
       refine zD hD ?_
       refine QG (by kernel_rfl) ?_
       refine QQ ?_
       first | exact key.out | exact ZT key
      refine zS QN ?_
      refine Qb ?_
      refine zD hD ?_
      refine qd 4 rfl ?_
      refine zV (ZS rfl rfl (fun hg=>by rw [Zd hbp];omega)) ?_
      refine Qb ?_
      refine zD hD ?_
      refine qd 6 rfl ?_
      refine zS QN ?_
      refine Qb ?_
      refine zD hD ?_
      refine QG (by kernel_rfl) ?_
      refine QQ ?_
      first | exact key.out | exact ZT key
     refine zS QN ?_
     refine Qb ?_
     refine zD hD ?_
     refine qd 3 rfl ?_
     refine zV (YS rfl rfl) ?_
     refine Qb ?_
     refine zD hD ?_
     refine qd 4 rfl ?_
     refine zV (ZS rfl rfl (fun hg=>by rw [Zd hbp];omega)) ?_
     refine Qb ?_
     refine zD hD ?_
     refine qd 6 rfl ?_
     refine zS QN ?_
     refine Qb ?_
     refine zD hD ?_
     refine QG (by kernel_rfl) ?_
     refine QQ ?_
     first | exact key.out | exact ZT key
    refine zV (YS rfl rfl) ?_
    refine Qb ?_
    refine zD hD ?_
    refine qd 1 rfl ?_
    refine zL Zu ?_
    refine Qb ?_
    refine zD hD ?_
    refine Zr 4 5 rfl rfl (by kernel_rfl) ?_ ?_
    ·
     refine zV (ZS rfl rfl (fun hg=>by rw [Zd hbp];omega)) ?_
     refine Qb ?_
     refine zD hD ?_
     refine qd 5 rfl ?_
     refine zS QN ?_
     refine Qb ?_
     refine zD hD ?_
     refine qd 6 rfl ?_
     refine zS QN ?_
     refine Qb ?_
     refine zD hD ?_
     refine QG (by kernel_rfl) ?_
     refine QQ ?_
     first | exact key.out | exact ZT key
    refine zS QN ?_
    refine Qb ?_
    refine zD hD ?_
    refine qd 4 rfl ?_
    refine zV (ZS rfl rfl (fun hg=>by rw [Zd hbp];omega)) ?_
    refine Qb ?_
    refine zD hD ?_
    refine qd 6 rfl ?_
    refine zS QN ?_
    refine Qb ?_
    refine zD hD ?_
    refine QG (by kernel_rfl) ?_
    refine QQ ?_
    first | exact key.out | exact ZT key
   ·
    refine zL Zu ?_
    refine Qb ?_
    refine zD hD ?_
    refine Zr 0 3 rfl rfl (by kernel_rfl) ?_ ?_
    ·
     refine zL Zu ?_
     refine Qb ?_
     refine zD hD ?_
     refine Zr 3 5 rfl rfl (by kernel_rfl) ?_ ?_
     ·
      refine zV (YS rfl rfl) ?_
      refine Qb ?_
      refine zD hD ?_
      refine Zr 4 5 rfl rfl (by kernel_rfl) ?_ ?_
      ·
       refine zV (ZS rfl rfl (fun hg=>by rw [Zd hbp];omega)) ?_
       refine Qb ?_
       refine zD hD ?_
       refine qd 5 rfl ?_
       refine zS QN ?_
       refine Qb ?_
       refine zD hD ?_
       refine qd 6 rfl ?_
       refine zS QN ?_
       refine Qb ?_
       refine zD hD ?_
       refine QG (by kernel_rfl) ?_
       refine QQ ?_
       first | exact key.out | exact ZT key
      refine zS QN ?_
      refine Qb ?_
      refine zD hD ?_
      refine qd 4 rfl ?_
      refine zV (ZS rfl rfl (fun hg=>by rw [Zd hbp];omega)) ?_
      refine Qb ?_
      refine zD hD ?_
      refine qd 6 rfl ?_
      refine zS QN ?_
      refine Qb ?_
      refine zD hD ?_
      refine QG (by kernel_rfl) ?_
      refine QQ ?_
      first | exact key.out | exact ZT key
     refine zS QN ?_
     refine Qb ?_
     refine zD hD ?_
     refine qd 3 rfl ?_
     refine zV (YS rfl rfl) ?_
     refine Qb ?_
     refine zD hD ?_
     refine qd 4 rfl ?_
     refine zV (ZS rfl rfl (fun hg=>by rw [Zd hbp];omega)) ?_
     refine Qb ?_
     refine zD hD ?_
     refine qd 6 rfl ?_
     refine zS QN ?_
     refine Qb ?_
     refine zD hD ?_
     refine QG (by kernel_rfl) ?_
     refine QQ ?_
     first | exact key.out | exact ZT key
    refine zV (YS rfl rfl) ?_
    refine Qb ?_
    refine zD hD ?_
    refine Zr 0 4 rfl rfl (by kernel_rfl) ?_ ?_
    ·
     refine zL Zu ?_
     refine Qb ?_
     refine zD hD ?_
     refine Zr 4 5 rfl rfl (by kernel_rfl) ?_ ?_
     ·
      refine zV (ZS rfl rfl (fun hg=>by rw [Zd hbp];omega)) ?_
      refine Qb ?_
      refine zD hD ?_
      refine qd 5 rfl ?_
      refine zS QN ?_
      refine Qb ?_
      refine zD hD ?_
      refine qd 6 rfl ?_
      refine zS QN ?_
      refine Qb ?_
      refine zD hD ?_
      refine QG (by kernel_rfl) ?_
      refine QQ ?_
      first | exact key.out | exact ZT key
     refine zS QN ?_
     refine Qb ?_
     refine zD hD ?_
     refine qd 4 rfl ?_
     refine zV (ZS rfl rfl (fun hg=>by rw [Zd hbp];omega)) ?_
     refine Qb ?_
     refine zD hD ?_
     refine qd 6 rfl ?_
     refine zS QN ?_
     refine Qb ?_
     refine zD hD ?_
     refine QG (by kernel_rfl) ?_
     refine QQ ?_
     first | exact key.out | exact ZT key
    refine zV (ZS rfl rfl (fun hg=>by rw [Zd hbp];omega)) ?_
    refine Qb ?_
    refine zD hD ?_
    refine qd 0 rfl ?_
    refine zL Zu ?_
    refine Qb ?_
    refine zD hD ?_
    refine qd 5 rfl ?_
    refine zS QN ?_
    refine Qb ?_
    refine zD hD ?_
    refine qd 6 rfl ?_
    refine zS QN ?_
    refine Qb ?_
    refine zD hD ?_
    refine QG (by kernel_rfl) ?_
    refine QQ ?_
    first | exact key.out | exact ZT key
   refine zV (YS rfl rfl) ?_
   refine Qb ?_
   refine zD hD ?_
   refine Zr 0 1 rfl rfl (by kernel_rfl) ?_ ?_
   ·
    refine zL Zu ?_
    refine Qb ?_
    refine zD hD ?_
    refine qd 1 rfl ?_
    refine zL Zu ?_
    refine Qb ?_
    refine zD hD ?_
    refine Zr 4 5 rfl rfl (by kernel_rfl) ?_ ?_
    ·
     refine zV (ZS rfl rfl (fun hg=>by rw [Zd hbp];omega)) ?_
     refine Qb ?_
     refine zD hD ?_
     refine qd 5 rfl ?_
     refine zS QN ?_
     refine Qb ?_
     refine zD hD ?_
     refine qd 6 rfl ?_
     refine zS QN ?_
     refine Qb ?_
     refine zD hD ?_
     refine QG (by kernel_rfl) ?_
     refine QQ ?_
     first | exact key.out | exact ZT key
    refine zS QN ?_
    refine Qb ?_
    refine zD hD ?_
    refine qd 4 rfl ?_
    refine zV (ZS rfl rfl (fun hg=>by rw [Zd hbp];omega)) ?_
    refine Qb ?_
    refine zD hD ?_
    refine qd 6 rfl ?_
    refine zS QN ?_
    refine Qb ?_
    refine zD hD ?_
    refine QG (by kernel_rfl) ?_
    refine QQ ?_
    first | exact key.out | exact ZT key
   refine zL Zu ?_
   refine Qb ?_
   refine zD hD ?_
   refine Zr 0 4 rfl rfl (by kernel_rfl) ?_ ?_
   ·
    refine zL Zu ?_
    refine Qb ?_
    refine zD hD ?_
    refine Zr 4 5 rfl rfl (by kernel_rfl) ?_ ?_
    ·
     refine zV (ZS rfl rfl (fun hg=>by rw [Zd hbp];omega)) ?_
     refine Qb ?_
     refine zD hD ?_
     refine qd 5 rfl ?_
     refine zS QN ?_
     refine Qb ?_
     refine zD hD ?_
     refine qd 6 rfl ?_
     refine zS QN ?_
     refine Qb ?_
     refine zD hD ?_
     refine QG (by kernel_rfl) ?_
     refine QQ ?_
     first | exact key.out | exact ZT key
    refine zS QN ?_
    refine Qb ?_
    refine zD hD ?_
    refine qd 4 rfl ?_
    refine zV (ZS rfl rfl (fun hg=>by rw [Zd hbp];omega)) ?_
    refine Qb ?_
    refine zD hD ?_
    refine qd 6 rfl ?_
    refine zS QN ?_
    refine Qb ?_
    refine zD hD ?_
    refine QG (by kernel_rfl) ?_
    refine QQ ?_
    first | exact key.out | exact ZT key
   refine zV (ZS rfl rfl (fun hg=>by rw [Zd hbp];omega)) ?_
   refine Qb ?_
   refine zD hD ?_
   refine qd 0 rfl ?_
   refine zL Zu ?_
   refine Qb ?_
   refine zD hD ?_
   refine qd 5 rfl ?_
   refine zS QN ?_
   refine Qb ?_
   refine zD hD ?_
   refine qd 6 rfl ?_
   refine zS QN ?_
   refine Qb ?_
   refine zD hD ?_
   refine QG (by kernel_rfl) ?_
   refine QQ ?_
   first | exact key.out | exact ZT key
  rw [show ((a:Int)).tmod (zp2 (b:Int) 1)=((a % b:Nat):Int) by rw [Zd hbp,zle]]
  refine Qa (zR ?_)
  refine zL Zu ?_
  refine zC (zN ?_)
  refine zI ?_ ?_<;>intro hc17
  ·
   have hab:a % b=0:=by have h:=hc17;simp only [beq_iff_eq] at h;omega
   have hpre2:(pre++[a])++[b]<+:zb2 a0 b0:=by rw [hrem,zbo ha0 (by omega) hab,List.append_assoc];exact List.prefix_rfl
   refine zR (zM ?_)
   refine zL Zu ?_
   refine zcU (vs:=[_]) (Post:=fun t I3 H3=>if t then J ((pre++[a])++[b]) I3 H3 else Jx ((pre++[a])++[b]) I3 H3) rfl rfl rfl rfl (hY (pre++[a]) b _ _ hpre2 (hI0.trans hI2) hJ1) ?_
   rintro t3 I3 H3 hI3 hP3
   refine zN (Qt (Qn (Qc (Qn ?_))))
   first
   | (refine YL rfl (fun w hw=>⟨_,I3,H3,rfl,hI1.trans (hI2.trans hI3),hw.drop,?_⟩);cases t3 with | true=>exact .inl (by rw [hrem,zbo ha0 (by omega) hab];simpa using hP3) | false=>exact .inr ⟨_,hpre2,hP3⟩)
  have hab:a % b≠0:=by have h:=hc17;simp only [beq_eq_false_iff_ne,ne_eq] at h;omega
  refine Qo (Qh ?_)
  exact Xi rfl rfl rfl _ (zvj 186 b1 b2 (b) (((a % b:Nat):Int))) ⟨a % b,Nat.mod_lt _ hbp,b,a % b,pre++[a],rfl,rfl,rfl,hI1.trans hI2,hJ1,by rw [hrem,zdb ha0 (by omega) hab,List.append_assoc];rfl,by omega,by omega,by have:=Nat.mod_lt a hbp;omega⟩ (.cons rfl (.cons rfl (.cons rfl .nil))) .refl
 refine QI (Qf (Qf (Qk ?_)))
 first
 | (refine Vl (YL rfl (fun w hw=>⟨_,I2,H2,rfl,hI1.trans hI2,hw.drop,?_⟩));by_cases ha0:a=0;(obtain ⟨e1,e2⟩:=hno (by simp [ZX,ha0]);subst e1;subst e2;subst ha0;exact .inl (by rw [hrem,zc3,List.append_nil];exact hJk));(have ht:t=false:=(by simp [ha0] at hc10;exact hc10);subst ht;exact .inr ⟨_,ziL hrem ha0,hyes (by simp [ZX];exact ha0)⟩))
theorem zw6 (I:Qu)(a b:Nat)(hb:0<b)(ha:a≤9223372036854775807)(hb2:b≤9223372036854775807):Zw Tryz.prog 259 [.int .u64 a,.int .u64 b] I (.int .u64 (Nat.gcd a b:Nat)):=by
 intro g H w hw
 refine zdX Tryz.func259 rfl Tryz.ntmps259 rfl hw ?_
 have hIc:=zye I
 refine zR ?_
 refine Qr zuE rfl rfl (fun b_4=>?_)
 refine zN (Ql (zR (zM ?_)))
 refine zC (zN ?_)
 refine zI ?_ ?_<;>intro hc7
 ·
  simp at hc7;omega
 refine Qo (Qa (zR (zM ?_)))
 refine zS QN ?_
 refine zN (Ql (zR (zM ?_)))
 refine zM ?_
 refine Qz (cap:=[]) (vs:=[_,_]) rfl rfl zpH .nil (zwI I _ _) rfl rfl ?_
 rintro vv1 I1 L1 hI1 ⟨rfl,b1,b2,rfl,rfl⟩
 have hIc:=hIc.trans hI1
 refine zN (Qm ?_)
 refine WG (ms:=[]) (K:=zvj 186 b1 b2 (a) (b)) (L:=[(b_4,.cells #[.int .u64 b] 186 (0,0))]) (enc:=fun n:Nat=>.int .u64 n) (xs:=zb2 a b) (fun pre I' loc'=>loc'=[(b_4,.cells #[.int .u64 ((pre.getLastD b:Nat):Int)] 186 (0,0))]) (fun _ _ _ _=>False) (fun pre x E2 I2 loc2=>E2=[(4,Zb b_4),(5,.int .u64 x)]∧loc2=[(b_4,.cells #[.int .u64 ((pre.getLastD b:Nat):Int)] 186 (0,0))]) rfl zqu (zkD _ a b b1 b2 hb ha hb2) rfl rfl ?_ ?_ ?_ ?_
 ·
  rintro l pre x I1 loc1 H1 hpre hI1 rfl
  refine Qg (zA (Qb ?_))
  exact zbm _ ⟨zye _,rfl,rfl⟩ (.cons rfl (.cons rfl .nil))
 ·
  rintro l pre x E2 I2 loc2 H2 hpre hI2 ⟨rfl,rfl⟩
  refine Qm (Qg (zM ?_))
  refine zS QN ?_
  refine Qb (Qh ?_)
  exact XK ⟨zye _,by rw [zim];rfl⟩ .refl
 ·
  rintro bd I1 loc1 hI1 rfl
  have hIc:=hIc.trans hI1
  refine Qh (Qa (zR ?_))
  refine zL Zu ?_
  refine zS QN ?_
  refine zN (Qt ?_)
  exact KY (L:=[(b_4,_)]) (fun a ha w hw=>zwn rfl rfl Zu (QU.h0 rfl) a ha w hw) (fun w hw=>⟨by rw [zkA b (Nat.le_refl _) (by omega) (fun _=>rfl)],(hw.mono hIc).drop⟩)
 rintro c bd pre I1 loc1 hI1 hpre hF;exact hF.elim
theorem zur (I:Qu)(n d:Int)(hn: -1073741824≤n∧n≤1073741824)(hd:1≤d∧d≤1073741824):Zw Tryz.prog 259 [.int .u64 (zgw n),.int .u64 (IntKind.u64.wrap d)] I (.int .u64 (zvF n d)):=by
 have h0:0≤zgw n∧zgw n≤1073741824:=by unfold zgw;split<;>omega
 have h:=zw6 I (zgw n).toNat d.toNat (by omega) (by omega) (by omega)
 rw [zih (by omega)]
 rw [Int.toNat_of_nonneg h0.1,Int.toNat_of_nonneg (by omega),zrk,Int.toNat_of_nonneg (by omega)] at h
 exact h
theorem Xe (I:Qu)(n d:Int):Zw Tryz.prog 253 [zbD (n) (d)] I (.int .i64 (zrS n d)):=by
 intro g H w hw
 refine qe Tryz.func253 Tryz.ntmps253 hw ?_
 refine zR ?_
 refine Q5 rfl rfl rfl (fun b_1=>?_)
 refine zA (zN (Ql (Ql ?_)))
 refine YU mixed (by kernel_rfl) ?_
 refine zq (Qe rfl VW) ?_
 refine zq (Qd rfl Qs (fun hg=>by exact QU.h0 rfl)) ?_
 refine zq (QH rfl rfl rfl) ?_
 refine zq (Qi rfl) ?_
 refine Vu 3 rfl rfl rfl ?_
 refine zj (Qe rfl VW) ?_
 refine zj (Qd rfl Qs (fun hg=>by exact QU.h0 rfl)) ?_
 refine zj (QH rfl rfl rfl) ?_
 refine U7 rfl rfl rfl rfl rfl ?_
 refine zq (Qi rfl) ?_
 refine Vu 8 rfl rfl rfl ?_
 refine zj (Qe rfl Vb) ?_
 refine zj (Qd rfl Qs (fun hg=>by exact QU.h0 rfl)) ?_
 refine zj (QH rfl rfl rfl) ?_
 refine U7 rfl rfl rfl rfl rfl ?_
 refine zq (Qi rfl) ?_
 refine Vu 13 rfl rfl rfl ?_
 refine zj (Qe rfl Vb) ?_
 refine zj (Qd rfl Qs (fun hg=>by exact QU.h0 rfl)) ?_
 refine zj (QH rfl rfl rfl) ?_
 refine U7 rfl rfl rfl rfl rfl ?_
 refine zq (Qi rfl) ?_
 refine Vu 18 rfl rfl rfl ?_
 refine zj (Qe rfl Vb) ?_
 refine zj (Qd rfl Qs (fun hg=>by exact QU.h0 rfl)) ?_
 refine Ux (cap:=[]) (vs:=[_]) rfl rfl zoH (fun hg=>zwJ I n (by simp [ZX] at hg;omega)) (.some rfl rfl rfl rfl gbf) rfl rfl ?_
 refine zj (Qe rfl VW) ?_
 refine zj (Qd rfl Qs (fun hg=>by exact QU.h0 rfl)) ?_
 refine zj (JU rfl KB) ?_
 refine Ux (cap:=[]) (vs:=[_,_]) rfl rfl zoL (fun hg=>zur I n d (by simp [ZX] at hg;omega) (by simp [ZX] at hg;omega)) (.some rfl rfl rfl rfl gbf) rfl rfl ?_
 refine zj (QH rfl rfl rfl) ?_
 refine U7 rfl rfl rfl rfl rfl ?_
 refine YV ?_
 refine Qa ?_
 refine zI ?_ ?_<;>intro hc30
 ·
  refine zR (zA (zN (Qt (Qc ?_))))
  first
  | exact zr rfl rfl (by unfold zrS;rw [zqc hc30];rfl)
 refine Qo (Qa (zR (zA (zN (Qt ?_)))))
 first
 | exact zr rfl rfl (by unfold zrS;rw [zlq hc30];rfl)
theorem zh0 (I:Qu)(an ad bn bd:Int):Zw Tryz.prog 237 [zbD (an) (ad),zbD (bn) (bd)] I (.tuple #[.int .i64 (zjw an ad bn bd),.int .i64 (zkg an ad bn bd)]):=by
 intro g H w hw
 refine qe Tryz.func237 Tryz.ntmps237 hw ?_
 refine zR ?_
 refine Q5 rfl rfl rfl (fun b_2=>?_)
 refine Q5 rfl rfl rfl (fun b_3=>?_)
 refine zA ?_
 refine zA (zN (Ql (zR ?_)))
 refine zV (Qp rfl Vg (fun hg=>by exact Cells.g1) rfl) ?_
 refine qc (vs:=[_]) rfl zaS (Xe I _ _) ?_
 refine zC ?_
 refine zM ?_
 refine QX 3 rfl rfl rfl ?_
 refine zJ (Qp rfl Vg (fun hg=>by exact Cells.g0) rfl) ?_
 refine qf (vs:=[_]) rfl zaS (fun hg=>Xe I _ _) ?_
 refine zJ (QH rfl rfl rfl) ?_
 refine ZA rfl rfl rfl rfl rfl ?_
 refine zN ?_
 refine zI ?_ ?_<;>intro hc13
 ·
  have hb:(Um an ad&&Um bn bd)=false:=by have h:=hc13;rw [zbH,Bool.not_eq_true'] at h;exact h
  refine zR (zA ?_)
  refine zA (zN (Qt (Qc ?_)))
  exact Zx rfl rfl rfl (fun w hw=>⟨by unfold zjw zkg;rw [hb];rfl,hw.drop⟩)
 have hb:(Um an ad&&Um bn bd)=true:=by have h:=hc13;rw [zbH,Bool.not_eq_false'] at h;exact h
 have ⟨ha1,ha2⟩:=zbe (Bool.and_eq_true .. ▸ hb).1
 have ⟨hb1,hb2⟩:=zbe (Bool.and_eq_true .. ▸ hb).2
 refine Qo (Qa (zR ?_))
 refine zF Vb ?_
 refine zL Qs ?_
 refine zF VW ?_
 refine zL Qs ?_
 refine zV (ZO rfl rfl rfl (fun _=>by exact zmx (by omega) (by omega))) ?_
 refine zF Vb ?_
 refine zL Qs ?_
 refine zF VW ?_
 refine zL Qs ?_
 refine zV (ZO rfl rfl rfl (fun _=>by exact zmx (by omega) (by omega))) ?_
 refine qc (vs:=[_,_]) rfl zdu (zlB I _ _) ?_
 refine zA ?_
 refine zA (zN (Qt ?_))
 exact Zx rfl rfl rfl (fun w hw=>⟨by unfold zjw zkg;rw [hb];rfl,hw.drop⟩)
theorem zjm (I:Qu)(an ad bn bd:Int):Zw Tryz.prog 203 [zbD (an) (ad),zbD (bn) (bd)] I (.bool (zdi an ad bn bd)):=by
 intro g H w hw
 refine qe Tryz.func203 Tryz.ntmps203 hw ?_
 refine zR ?_
 refine Q5 rfl rfl rfl (fun b_2=>?_)
 refine Q5 rfl rfl rfl (fun b_3=>?_)
 refine zA ?_
 refine zN (zR ?_)
 refine zV (Qp rfl Vg (fun hg=>by exact Cells.g1) rfl) ?_
 refine zV (Qp rfl Vg (fun hg=>by exact Cells.g0) rfl) ?_
 refine qc (vs:=[_,_]) rfl zjE (zh0 I _ _ _ _) ?_
 refine zM ?_
 refine zE ?_
 refine zE ?_
 refine zA ?_
 refine zA ?_
 refine zN (zR ?_)
 refine zM ?_
 refine zC ?_
 refine zM ?_
 refine QE 2 rfl rfl rfl ?_
 refine zK (Qi rfl) ?_
 refine zK (QH rfl rfl rfl) ?_
 refine QP rfl rfl rfl rfl rfl ?_
 refine zM ?_
 refine QE 6 rfl rfl rfl ?_
 refine zK (Qe rfl Vb) ?_
 refine zK (Qd rfl Qs (fun hg=>by exact QU.h1 rfl)) ?_
 refine zK (QH rfl rfl rfl) ?_
 refine QP rfl rfl rfl rfl rfl ?_
 refine zM ?_
 refine QE 11 rfl rfl rfl ?_
 refine zK (Qe rfl Vb) ?_
 refine zK (Qd rfl Qs (fun hg=>by exact QU.h0 rfl)) ?_
 refine zK (Qe rfl VW) ?_
 refine zK (Qd rfl Qs (fun hg=>by exact QU.h0 rfl)) ?_
 refine zK (QH rfl rfl rfl) ?_
 refine QP rfl rfl rfl rfl rfl ?_
 refine zA (zN (Qt ?_))
 exact zr rfl rfl (by rw [←zdA])
theorem ZV (I:Qu)(n lo hi:Int):Zw Tryz.prog 202 [.int .i64 n,.int .i64 lo,.int .i64 hi] I (.bool (YK n lo hi)):=by
 intro g H w hw
 refine qe Tryz.func202 Tryz.ntmps202 hw ?_
 refine zR (zA ?_)
 refine zN (zR ?_)
 refine zM ?_
 refine zM ?_
 refine zC ?_
 refine zM ?_
 refine QE 3 rfl rfl rfl ?_
 refine zK (Qi rfl) ?_
 refine zK (Qi rfl) ?_
 refine zK (QH rfl rfl rfl) ?_
 refine QP rfl rfl rfl rfl rfl ?_
 refine zA (zN (Qt ?_))
 exact zr rfl rfl (by rfl)
theorem zol (I:Qu)(x:Sg):Zw Tryz.prog 154 [JX x] I (.bool (frm x)):=by
 intro g H w hw
 refine qe Tryz.func154 Tryz.ntmps154 hw ?_
 refine zR ?_
 refine Q5 rfl rfl rfl (fun b_1=>?_)
 refine zA ?_
 refine zN (zR ?_)
 refine zF ZN ?_
 refine zL Qs ?_
 refine qc (vs:=[_,_,_]) rfl Yj (ZV I _ _ _) ?_
 refine zM ?_
 refine QE 3 rfl rfl rfl ?_
 refine zK (Qe rfl Ke) ?_
 refine zK (Qd rfl Qs (fun hg=>by exact QU.h0 rfl)) ?_
 refine qg (vs:=[_,_,_]) rfl Yj (fun hg=>ZV I _ _ _) ?_
 refine QP rfl rfl rfl rfl rfl ?_
 refine zM ?_
 refine QE 8 rfl rfl rfl ?_
 refine zK (Qe rfl Kh) ?_
 refine zK (Qd rfl Qs (fun hg=>by exact QU.h0 rfl)) ?_
 refine qg (vs:=[_,_,_]) rfl Yj (fun hg=>ZV I _ _ _) ?_
 refine QP rfl rfl rfl rfl rfl ?_
 refine zM ?_
 refine QE 13 rfl rfl rfl ?_
 refine zK (Qe rfl W6) ?_
 refine zK (Qd rfl Qs (fun hg=>by exact QU.h0 rfl)) ?_
 refine qg (vs:=[_,_,_]) rfl Yj (fun hg=>ZV I _ _ _) ?_
 refine QP rfl rfl rfl rfl rfl ?_
 refine zM ?_
 refine QE 18 rfl rfl rfl ?_
 refine zK (Qe rfl Jz) ?_
 refine zK (Qd rfl Qs (fun hg=>by exact QU.h0 rfl)) ?_
 refine qg (vs:=[_,_,_]) rfl Yj (fun hg=>ZV I _ _ _) ?_
 refine QP rfl rfl rfl rfl rfl ?_
 refine zM ?_
 refine QE 23 rfl rfl rfl ?_
 refine zK (Qe rfl JW) ?_
 refine zK (Qd rfl Qs (fun hg=>by exact QU.h0 rfl)) ?_
 refine qg (vs:=[_,_,_]) rfl Yj (fun hg=>ZV I _ _ _) ?_
 refine QP rfl rfl rfl rfl rfl ?_
 refine zM ?_
 refine QE 28 rfl rfl rfl ?_
 refine zK (Qe rfl JV) ?_
 refine zK (Qd rfl Qs (fun hg=>by exact QU.h0 rfl)) ?_
 refine qg (vs:=[_,_,_]) rfl Yj (fun hg=>ZV I _ _ _) ?_
 refine QP rfl rfl rfl rfl rfl ?_
 refine zM ?_
 refine QE 33 rfl rfl rfl ?_
 refine zK (Qe rfl Kb) ?_
 refine zK (Qd rfl Qs (fun hg=>by exact QU.h0 rfl)) ?_
 refine qg (vs:=[_,_,_]) rfl Yj (fun hg=>ZV I _ _ _) ?_
 refine QP rfl rfl rfl rfl rfl ?_
 refine zM ?_
 refine QE 38 rfl rfl rfl ?_
 refine zK (Qe rfl JR) ?_
 refine zK (Qd rfl Qs (fun hg=>by exact QU.h0 rfl)) ?_
 refine qg (vs:=[_,_,_]) rfl Yj (fun hg=>ZV I _ _ _) ?_
 refine QP rfl rfl rfl rfl rfl ?_
 refine zM ?_
 refine QE 43 rfl rfl rfl ?_
 refine zK (Qe rfl J0) ?_
 refine zK (Qd rfl Qs (fun hg=>by exact QU.h0 rfl)) ?_
 refine qg (vs:=[_,_,_]) rfl Yj (fun hg=>ZV I _ _ _) ?_
 refine QP rfl rfl rfl rfl rfl ?_
 refine zM ?_
 refine QE 48 rfl rfl rfl ?_
 refine zK (Qe rfl VF) ?_
 refine zK (Qp rfl Vg (fun hg=>by exact Cells.s0 (vs:=[_,_]) rfl) rfl) ?_
 refine zK (Qe rfl Vw) ?_
 refine zK (Qp rfl Vg (fun hg=>by exact Cells.s0 (vs:=[_,_]) rfl) rfl) ?_
 refine qg (vs:=[_,_]) rfl zhV (fun hg=>zjm I _ _ _ _) ?_
 refine QP rfl rfl rfl rfl rfl ?_
 refine zA (zN (Qt ?_))
 exact zr rfl rfl (by rfl)
theorem zfR {I:Qu}{av:Option Addr}{n c:Nat}{xs:List Sg}(hS:Sl I 14 Y2 av n c xs)(hn:n≤100000):Zw Tryz.prog 102 [.slice av n c] I (.int .i64 (WA xs)):=by
 intro g H w hw
 refine qe Tryz.func102 Tryz.ntmps102 hw ?_
 refine zR (zA (zN (Ql (zR ?_))))
 refine zM ?_
 refine zQ YZ ?_
 refine zC (zN ?_)
 refine zI ?_ ?_<;>intro hc7
 ·
  have h6:xs.length>4096:=by rw [hS.len];simp at hc7;omega
  refine zR (zA (zN (Qt (Qc ?_))))
  first
  | exact zr rfl rfl (by unfold WA;rw [if_pos h6])
 have h6:¬xs.length>4096:=by rw [hS.len];simp at hc7;omega
 refine Qo (Qa (Ql (zR (zM ?_))))
 refine zQ YZ ?_
 refine zM (zN (Qm ?_))
 refine zU [(0,_),(8,_),(9,_)] (fun T L0 mz E I' loc'=>∃ (k:Nat),mz=n-k∧E=(10,.int .i64 k)::T∧I=I'∧L0=loc'∧k≤n∧(List.range k).all (skP xs)=true) ?_ (h:=⟨0,rfl,rfl,rfl,rfl,Nat.zero_le _,rfl⟩)
 rintro mz E I' loc' ⟨k,rfl,rfl,rfl,rfl,hk,hall⟩
 refine zR (zC (zN (Ql ?_)))
 refine zI ?_ ?_<;>intro hc11
 ·
  have hlt_k:k<n:=by have h:=hc11;simp at h;omega
  obtain ⟨x,hx⟩:=hS.at hlt_k
  refine Qo (Qa (Ql (Qm (zR (zM ?_)))))
  refine zV (QF rfl rfl YZ (by assumption) (fun hg=>by omega)) ?_
  refine zV (Qp rfl ZL (fun hg=>by exact zyf hS hx) rfl) ?_
  refine Qr WX rfl rfl (fun b_4=>?_)
  refine zA ?_
  refine zh Vx ?_
  refine zN (Ql ?_)
  refine YU mixed (by kernel_rfl) ?_
  refine zq (Qp rfl ZL (fun hg=>by exact Cells.g0) rfl) ?_
  refine Jj (cap:=[]) (vs:=[_]) rfl rfl zgI (zol I _) rfl rfl ?_
  refine zq (Vy rfl) ?_
  refine zq (Qi rfl) ?_
  refine Vu 3 rfl rfl rfl ?_
  refine zj (Qi rfl) ?_
  refine zj (QH rfl rfl rfl) ?_
  refine zj (Qi rfl) ?_
  refine W5 6 rfl rfl rfl ?_
  refine zk (Qi rfl) ?_
  refine zk (Qi rfl) ?_
  refine zk (ZO rfl rfl rfl (fun hg=>by omega)) ?_
  refine zk (QF rfl rfl YZ (by assumption) (fun hg=>by (simp [ZX] at hg;omega))) ?_
  refine zk (Qe rfl ZN) ?_
  refine zk (Qd rfl Qs (fun hg=>by exact zx7 (k:=((k:Int)-1).toNat) hS (Zk (d:=Y6) hS.len (by simp [ZX] at hg;omega)) rfl)) ?_
  refine zk (Qe rfl ZN) ?_
  refine zk (Qd rfl Qs (fun hg=>by exact QU.h0 rfl)) ?_
  refine zk (QH rfl rfl rfl) ?_
  refine zek rfl rfl rfl (.some rfl rfl rfl rfl gbf) rfl rfl ?_
  refine U7 rfl rfl rfl rfl rfl ?_
  refine YV ?_
  refine Qa ?_
  refine zI ?_ ?_<;>intro hc32
  ·
   refine zR (zA (zN (Qt (Qn (Qc (Qc (Qn ?_)))))))
   refine Qc ?_
   first
   | exact zr rfl rfl (by unfold WA skB;rw [if_neg h6,JK (k:=k) (by rw [hS.len];exact hlt_k) (by rw [zcn hx,hc32];rfl)];rfl)
  refine Qo (Qh (Qa (Qg (zB ?_))))
  refine zM (Qb ?_)
  exact zm (h:=⟨n-(k+1),by omega,k+1,rfl,rfl,rfl,rfl,by omega,V8 hall (by rw [zcn hx,hc32];rfl)⟩)
 have hge_k:n≤k:=by have h:=hc11;simp at h;omega
 refine QI (Qf (Qf (Qk (Qa (zR (zA (zN ?_)))))))
 refine Qt ?_
 first
 | exact zr rfl rfl (by unfold WA skB;rw [if_neg h6,hS.len,show n=k by omega,hall];rfl)
end
section
open Go Go.Kn Go.Proofs
structure Wr where
 no:Int
 yr:Int
 rs:List Rd
def zhf (I:Qu)(av:Option Addr)(n c:Nat)(ws:List Wt)(xs:List Wr):Prop:=Sl I 3 zki av n c ws∧ws.length=xs.length∧∀ (k:Nat) (w:Wt) (x:Wr),ws[k]? =some w→xs[k]? =some x→w.no=x.no∧w.yr=x.yr∧Sl I 15 JF w.a w.n w.c x.rs
def SlW (I:Qu)(av:Option Addr)(n c:Nat)(xs:List Wr):Prop:=∃ ws:List Wt,zhf I av n c ws xs
theorem zhf.mono {I I':Qu}{av:Option Addr}{n c:Nat}{ws:List Wt}{xs:List Wr}(h:zhf I av n c ws xs)(hI:HLe I I'):zhf I' av n c ws xs:=
 ⟨h.1.mono hI,h.2.1,fun k w x h1 h2=>⟨(h.2.2 k w x h1 h2).1,(h.2.2 k w x h1 h2).2.1,(h.2.2 k w x h1 h2).2.2.mono hI⟩⟩
theorem SlW.mono {I I':Qu}{av:Option Addr}{n c:Nat}{xs:List Wr}(h:SlW I av n c xs)(hI:HLe I I'):SlW I' av n c xs:=by
 obtain ⟨ws,h⟩:=h;exact ⟨ws,h.mono hI⟩
theorem zhf.len {I:Qu}{av:Option Addr}{n c:Nat}{ws:List Wt}{xs:List Wr}(h:zhf I av n c ws xs):xs.length=n:=by rw [←h.2.1];exact h.1.len
theorem SlW.len {I:Qu}{av:Option Addr}{n c:Nat}{xs:List Wr}(h:SlW I av n c xs):xs.length=n:=by obtain ⟨ws,h⟩:=h;exact h.len
theorem zhf.at {I:Qu}{av:Option Addr}{n c:Nat}{ws:List Wt}{xs:List Wr}(h:zhf I av n c ws xs){k:Nat}(hk:k<n):∃ w x,ws[k]? =some w∧xs[k]? =some x∧w.no=x.no∧w.yr=x.yr∧Sl I 15 JF w.a w.n w.c x.rs:=by
 obtain ⟨w,hw⟩:=h.1.at hk
 have hl:=h.len
 obtain ⟨x,hx⟩:∃ x,xs[k]? =some x:=⟨_,List.getElem?_eq_getElem (by omega)⟩
 exact ⟨w,x,hw,hx,h.2.2 k w x hw hx⟩
def zvH (xs:List Wr):Bool:=decide (xs.length≤5)&&xs.all fun x=>decide (x.rs.length≤8)
theorem zvu {I:Qu}{av:Option Addr}{n c:Nat}{ws:List Wt}{xs:List Wr}(h:zhf I av n c ws xs):zm6 ws=zvH xs:=by
 unfold zm6 zvH
 rw [h.2.1]
 congr 1
 rw [Bool.eq_iff_iff,List.all_eq_true,List.all_eq_true]
 constructor
 ·
  intro ha x hx
  obtain ⟨k,hk,e⟩:=List.mem_iff_getElem.1 hx
  obtain ⟨w,x',hw,hx',_,_,hs⟩:=h.at (k:=k) (by rw [←h.len];exact hk)
  have:x'=x:=by rw [List.getElem?_eq_getElem hk,e] at hx';exact (Option.some.inj hx').symm
  subst this
  have:=ha w (List.mem_of_getElem? hw)
  rw [hs.len];exact this
 ·
  intro ha w hw
  obtain ⟨k,hk,e⟩:=List.mem_iff_getElem.1 hw
  obtain ⟨w',x,hw',hx',_,_,hs⟩:=h.at (k:=k) (by rw [←h.1.len];exact hk)
  have:w'=w:=by rw [List.getElem?_eq_getElem hk,e] at hw';exact (Option.some.inj hw').symm
  subst this
  have:=ha x (List.mem_of_getElem? hx')
  rw [←hs.len];exact this
def zag (x y:Sg):Bool:=x.id==y.id&&(x.role==y.role&&(x.bar==y.bar&&(x.mark==y.mark&&(x.kind==y.kind&&(x.side==y.side&&(x.dir==y.dir&&(x.level==y.level&&(x.size==y.size&&(x.wth==y.wth&&(x.fn==y.fn&&(x.fd==y.fd&&(x.tn==y.tn&&(x.td==y.td&&true)))))))))))))
theorem zaT {x y:Sg}:zag x y=true↔x=y:=by
 obtain ⟨a1,a2,a3,a4,a5,a6,a7,a8,a9,a10,a11,a12,a13,a14⟩:=x
 obtain ⟨b1,b2,b3,b4,b5,b6,b7,b8,b9,b10,b11,b12,b13,b14⟩:=y
 simp [zag]
instance : DecidableEq Sg := fun a b => decidable_of_iff (zag a b = true) zaT
def zgz (r:Rd):Bool:=(r.lost&& !zag r.sg Y6)||(!r.lost&&((r.sg.id != 0)||(WA [r.sg] != 0)))
theorem znf {r:Rd}(h:r.lost=true)(b:Bool)(h2:(!zag r.sg Y6)=b):zgz r=b:=by unfold zgz;rw [h,h2];cases b<;>rfl
theorem zsO {r:Rd}(h:r.lost=false)(h2:(r.sg.id != 0)=true):zgz r=true:=by unfold zgz;rw [h,h2];rfl
theorem zr9 {r:Rd}(h:r.lost=false)(h2:(r.sg.id != 0)=false):zgz r=(WA [r.sg] != 0):=by unfold zgz;rw [h,h2];simp
theorem zla (r:Rd):(r.lost=true∧(!zag r.sg Y6)=true)∨(r.lost=true∧(!zag r.sg Y6)=false)∨(r.lost=false∧(r.sg.id != 0)=true)∨(r.lost=false∧(r.sg.id != 0)=false):=by
 cases r.lost<;>cases (!zag r.sg Y6)<;>cases (r.sg.id != 0)<;>simp
def zmW (l:Int)(x:Wr):Bool:=((decide (x.no≤l)||decide (x.no>1048576))||decide (x.yr<0))||decide (x.yr>3000)
def UF:Int→List Wr→Bool
 | _,[]=>true
 | l,x::xs=> !zmW l x&&(!x.rs.any zgz&&UF x.no xs)
def WZ (xs:List Wr):Int:=if xs.length>24 then 2 else if xs.any (fun x=>decide (x.rs.length>64))=true then 2 else if UF 0 xs=true then 0 else 410
theorem zuA {xs:List Wr}(h:xs.length>24):WZ xs=2:=by unfold WZ;rw [if_pos h]
theorem zsv {xs:List Wr}(h:¬xs.length>24)(h2:xs.any (fun x=>decide (x.rs.length>64))=true):WZ xs=2:=by unfold WZ;rw [if_neg h,if_pos h2]
theorem zfj {xs:List Wr}(h:¬xs.length>24)(h2:xs.any (fun x=>decide (x.rs.length>64))=false)(h3:UF 0 xs=false):WZ xs=410:=by unfold WZ;rw [if_neg h,h2,h3];rfl
theorem ztz {xs:List Wr}(h:¬xs.length>24)(h2:xs.any (fun x=>decide (x.rs.length>64))=false)(h3:UF 0 xs=true):WZ xs=0:=by unfold WZ;rw [if_neg h,h2,h3];rfl
theorem zg5 {xs:List Wr}{k:Nat}{l:Int}{x:Wr}(hx:xs[k]? =some x)(hb:zmW l x=true):UF l (xs.drop k)=false:=by rw [Z2 hx];unfold UF;rw [hb];rfl
theorem zaV {xs:List Wr}{k:Nat}{l:Int}{x:Wr}{r:Rd}{j:Nat}(hx:xs[k]? =some x)(hr:x.rs[j]? =some r)(hb:zgz r=true):UF l (xs.drop k)=false:=by
 rw [Z2 hx];unfold UF
 rw [show x.rs.any zgz=true from List.any_eq_true.2 ⟨r,List.mem_of_getElem? hr,hb⟩];simp
theorem zgq {xs:List Wr}{k:Nat}{l:Int}{x:Wr}(hx:xs[k]? =some x)(hb:zmW l x=false)(hr:x.rs.any zgz=false):UF l (xs.drop k)=UF x.no (xs.drop (k+1)):=by
 rw [Z2 hx]
 show (!zmW l x&&(!x.rs.any zgz&&UF x.no (xs.drop (k+1))))=_
 rw [hb,hr];rfl
theorem zhH {xs:List Wr}{k:Nat}{l:Int}(h:xs.length≤k):UF l (xs.drop k)=true:=by rw [List.drop_eq_nil_of_le h];rfl
end
end Go.Proofs.YtodakphagkommaaGreatDoor
namespace Go.Kn
section
open Go
section
variable {C:Cx} {Q:Exit→Act→World→Prop} {E G:Env} {I I' I0:Qu} {loc loc' loc0 L R:Loc} {ops:Array Oper} {rest:List Oper} {S:GS}
variable {dst:Option Nat} {d:Nat} {ty:TypeId} {pos:String} {af:Array Edge} {gd:Option (Nat×Bool)} {x y z:Operand} {a b c:Int}
theorem zq1 {k:IntKind}{ats:Array TypeId}(hx:QA S E x=some (.int k a))(hy:QA S E y=some (.int k b))(hz:QA S E z=some (.int k c)):QT C S E I loc ⟨dst,.call ⟨.builtin .min, #[x,y,z],ats⟩,ty,pos,af,gd⟩ (.int k (JT (JT a b) c)):=
 .of (by intro c e;cases e) fun ac w ha hg hc hw=>by
  simp only [execOp,resolve,List.map_toArray,List.map_cons,List.map_nil,Qj ha hg hc hx,Qj ha hg hc hy,Qj ha hg hc hz,Sem.run_bind,Sem.run_pure,Result.andThen,invoke,builtin];rfl
def zll (u:Value)(want:Bool):Bool:=match u with | .bool b=>b != want | _=>true
theorem zcC {j dj:Nat}{want:Bool}{oj o:Oper}{u:Value}{N:Nat}{D:List Deferred}{a:Act}(hg:o.guard=some (j,want))(hj:ops[j]? =some oj)(hd:oj.dst=some dj)(ha:Kk N D E a)(hl:VJ E dj=some u)(hu:zll u want=true):Region.wanted o (yielded ops a.tmps)=false:=by
 have h:=ha.env _ _ hl
 simp only [Region.wanted,hg]
 cases u with
 | bool b0=>
  rw [KD hj hd h]
  cases b0<;>cases want<;>first | rfl | cases hu
 | _=>
  have hy:yielded ops a.tmps j=none:=by
   unfold yielded
   simp only [hj,Option.bind_some,hd]
   cases e:a.tmps[dj]? with
   | none=>rfl
   | some v=>
    simp [e] at h;rw [h]
  rw [hy];rfl
theorem QV {op:Op}{j dj:Nat}{want:Bool}{oj:Oper}{u:Value}(hj:ops[j]? =some oj)(hd:oj.dst=some dj)(hl:VJ E dj=some u)(hu:zll u want=true)(hN:Nat.blt d C.N=true)
  (h:XO C Q ops rest [] ((d,undef)::E) I loc):XO C Q ops (⟨some d,op,ty,pos,af,some (j,want)⟩::rest) [] E I loc:=by
 intro a w ha hg hw
 simp only [wpListIn]
 rw [zcC (o:=⟨some d,op,ty,pos,af,some (j,want)⟩) rfl hj hd ha hl hu]
 simp only [Bool.false_eq_true,if_false]
 exact ⟨fun _ _=>trivial,h _ _ (ha.put hN undef) trivial hw⟩
theorem zmm (i:Nat){j dj fuel:Nat}{want:Bool}{oj:Oper}{listed:Array Bool}{op:Op}{u:Value}(hi:ops[i]? =some ⟨some d,op,ty,pos,af,some (j,want)⟩)(hj:ops[j]? =some oj)(hd:oj.dst=some dj)(hlk:VJ E dj=some u)(hu:zll u want=true)
  (hdf:∀ c,op≠ .defer c)(hN:Nat.blt d C.N=true)
  (hs:Region.noSelect ops=true)(hfr:Region.free .any ops listed i=true)(hr:(Region.ready .any ops listed).contains i=true)(hQ:Un Q)(hI:HLe I0 I)(hl:Kq loc0 loc)
  (h:XD C Q ops I0 loc0 fuel (listed.setIfInBounds i true) [] ((d,undef)::E) I loc):XD C Q ops I0 loc0 (fuel+1) listed [] E I loc:=by
 intro a w ha hg hw
 have hp:=ha.put hN undef
 refine Ky (v:=undef) hi hdf (Region.noSelect_spec hs) (fun c a w=>hQ c a d _ w) fuel listed a w (Region.free_spec hi hfr) (by simpa using hr) ?_ ((hw.mono hI).subL hl) (h _ _ hp trivial hw)
 exact .inr ⟨by rw [zcC (o:=⟨some d,op,ty,pos,af,some (j,want)⟩) rfl hj hd ha hlk hu],rfl⟩
theorem zW (i dj:Nat){j fuel:Nat}{want:Bool}{oj:Oper}{listed:Array Bool}{op:Op}{u:Value}(hI:HLe I0 I)(h:XD C Q ops I0 loc0 fuel (listed.setIfInBounds i true) [] ((d,undef)::E) I loc)(hi:ops[i]? =some ⟨some d,op,ty,pos,af,some (j,want)⟩:=by exact rfl)(hj:ops[j]? =some oj:=by exact rfl)(hd:oj.dst=some dj:=by exact rfl)(hlk:VJ E dj=some u:=by exact rfl)(hu:zll u want=true:=by exact rfl)
  (hdf:∀ c,op≠ .defer c:=by (intro c e;cases e))(hN:Nat.blt d C.N=true:=by exact rfl)(hs:Region.noSelect ops=true:=by kernel_rfl)(hfr:Region.free .any ops listed i=true:=by kernel_rfl)(hr:(Region.ready .any ops listed).contains i=true:=by kernel_rfl)(hQ:Un Q:=by exact zj5)(hl:Kq loc0 loc:=by repeat (first | exact .refl | exact U5 | refine .keep ?_ | refine .drop ?_ | refine Z4 ?_)):XD C Q ops I0 loc0 (fuel+1) listed [] E I loc:=zmm i hi hj hd hlk hu hdf hN hs hfr hr hQ hI hl h
end
end
end Go.Kn
namespace Go.Proofs.YtodakphagkommaaGreatDoor
section
open Go Go.Kn Go.Proofs
theorem zax:AgT Tryz.prog 65 3:=.of (by kernel_rfl)
theorem K7:ElT Tryz.prog 48 54 14 112:=.of (by kernel_rfl)
theorem XX:zw9 Tryz.prog 54 [.int,.int,.int,.int,.int,.int,.int,.int,.int,.int,.int,.int,.int,.int]:=⟨by kernel_rfl,by kernel_rfl,by kernel_rfl,by kernel_rfl⟩
theorem zby:QW Tryz.prog 65 0 0:=.of (by kernel_rfl)
theorem zfI:QW Tryz.prog 65 1 1:=.of (by kernel_rfl)
theorem zd3:Fun Tryz.prog 102:=.of Tryz.func102 (by kernel_rfl) (by kernel_rfl)
theorem zhq:SzT Tryz.prog 65 3:=.of (by kernel_rfl)
theorem zrA:Yp Tryz.prog 65 (.agg #[(.int .i64 0),(.int .i64 0),(.slice none 0 0)]):=.of (by kernel_rfl)
theorem zvf {I:Qu}{av:Option Addr}{n c:Nat}{xs:List Wr}(hW:SlW I av n c xs)(hn:n≤100000):Zw Tryz.prog 58 [.slice av n c] I (.int .i64 (WZ xs)):=by
 intro g H w hw
 refine qe Tryz.func58 Tryz.ntmps58 hw ?_
 have hIc:=zye I
 obtain ⟨ws,hW⟩:=hW
 have hH:=hW.1
 have hlW:=hW.len
 refine zR (zA (zN (Ql (zR ?_))))
 refine zM ?_
 refine zQ Vf ?_
 refine zC (zN ?_)
 refine zI ?_ ?_<;>intro hc12
 ·
  have h1:xs.length>24:=by rw [hlW];simp at hc12;omega
  refine zR (zA (zN (Qt (Qc ?_))))
  exact zp hIc rfl rfl (by rw [zuA h1])
 have h1:¬xs.length>24:=by rw [hlW];simp at hc12;omega
 refine Qo (Qa (Ql (zR (zM ?_))))
 refine zQ Vf ?_
 refine zM (zN (Qm ?_))
 refine zU [(0,_),(13,_),(14,_)] (fun T L0 mz E I' loc'=>∃ (k:Nat),mz=n-k∧E=(15,.int .i64 k)::T∧I=I'∧L0=loc'∧k≤n∧(xs.take k).any (fun x=>decide (x.rs.length>64))=false) ?_ (h:=⟨0,rfl,rfl,rfl,rfl,Nat.zero_le _,rfl⟩)
 rintro mz E I' loc' ⟨k,rfl,rfl,rfl,rfl,hk,hno⟩
 refine zR (zC (zN (Ql ?_)))
 refine zI ?_ ?_<;>intro hc16
 ·
  have hlt_k:k<n:=by have h:=hc16;simp at h;omega
  obtain ⟨w,x,hx,hv,e1,e2,hR⟩:=hW.at hlt_k
  refine Qo (Qa (Ql (Qm (zR ?_))))
  refine zV (zX Vf hH) ?_
  refine zV (Qp rfl zax (fun hg=>by exact zyf hH hx) rfl) ?_
  refine Qr zrA rfl rfl (fun b_4=>?_)
  refine zh zhq ?_
  refine zN (zR ?_)
  refine zF UR ?_
  refine zL zck ?_
  refine zQ Xp ?_
  refine zC (zN ?_)
  refine zI ?_ ?_<;>intro hc22
  ·
   have h2:xs.any (fun x=>decide (x.rs.length>64))=true:=JY hv (by rw [hR.len];have h:=hc22;simp at h ⊢;omega)
   refine zR (zA (zN (Qt (Qn (Qc (Qc (Qn ?_)))))))
   refine Qc ?_
   exact zp hIc rfl rfl (by rw [zsv h1 h2])
  refine Qo (Qh (Qa (Qg (zB ?_))))
  refine zM (Qb ?_)
  exact zm (h:=⟨n-(k+1),by omega,k+1,rfl,rfl,rfl,rfl,by omega,YX hv hno (by rw [hR.len];have h:=hc22;simp at h ⊢;omega)⟩)
 have hge_k:n≤k:=by have h:=hc16;simp at h;omega
 rw [ZF hlW hge_k] at hno
 refine QI (Qf (Qf (Qk (Qa (zR (zA (zN ?_)))))))
 refine Ql (zR (zM ?_))
 refine zQ Vf ?_
 refine zM (zN (Qm ?_))
 refine zU [(24,_),(25,_)] (fun T L0 mz E I' loc'=>∃ (k:Nat) (l:Int),mz=n-k∧E=(5,.int .i64 l)::(26,.int .i64 k)::T∧HLe I I'∧L0=loc'∧k≤n∧UF 0 xs=UF l (xs.drop k)) ?_ (h:=⟨0,0,rfl,rfl,zye _,rfl,Nat.zero_le _,rfl⟩)
 rintro mz E J2 loc' ⟨k,l,rfl,rfl,hJ,rfl,hk,hgo⟩
 have hW:=hW.mono hJ;have hH:=hH.mono hJ;have hIc:=hIc.trans hJ
 have hB2:=hJ
 refine zR (zC (zN (Ql ?_)))
 refine zI ?_ ?_<;>intro hc27
 ·
  have hlt_k:k<n:=by have h:=hc27;simp at h;omega
  obtain ⟨w,x,hx,hv,e1,e2,hR⟩:=hW.at hlt_k
  have hrn:=hR.len
  have hR64:w.n≤64:=by have:=List.any_eq_false.1 hno x (List.mem_of_getElem? hv);simp at this;omega
  refine Qo (Qa (Ql (Qm (zR ?_))))
  refine zV (zX Vf hH) ?_
  refine zV (Qp rfl zax (fun hg=>by exact zyf hH hx) rfl) ?_
  refine Qr zrA rfl rfl (fun b_7=>?_)
  refine zh zhq ?_
  refine zN (Ql (zR ?_))
  refine zF zby ?_
  refine zL Qs ?_
  refine zM ?_
  refine zC ?_
  refine zM ?_
  refine QX 4 rfl rfl rfl ?_
  refine zJ (Qe rfl zby) ?_
  refine zJ (Qd rfl Qs (fun hg=>by exact QU.h0 rfl)) ?_
  refine zJ (QH rfl rfl rfl) ?_
  refine ZA rfl rfl rfl rfl rfl ?_
  refine zM ?_
  refine QX 9 rfl rfl rfl ?_
  refine zJ (Qe rfl zfI) ?_
  refine zJ (Qd rfl Qs (fun hg=>by exact QU.h0 rfl)) ?_
  refine zJ (QH rfl rfl rfl) ?_
  refine ZA rfl rfl rfl rfl rfl ?_
  refine zM ?_
  refine QX 14 rfl rfl rfl ?_
  refine zJ (Qe rfl zfI) ?_
  refine zJ (Qd rfl Qs (fun hg=>by exact QU.h0 rfl)) ?_
  refine zJ (QH rfl rfl rfl) ?_
  refine ZA rfl rfl rfl rfl rfl ?_
  refine zN ?_
  refine zI ?_ ?_<;>intro hc48
  ·
   have hbw:zmW l x=true:=by unfold zmW;rw [←e1,←e2];exact hc48
   refine zR (zA (zN (Qt (Qc (Qn (Qc (Qc ?_)))))))
   refine Qn (Qc ?_)
   exact zp hIc rfl rfl (by rw [zfj h1 hno (hgo.trans (zg5 hv hbw))])
  have hbw:zmW l x=false:=by unfold zmW;rw [←e1,←e2];exact hc48
  refine Qo (Qa (zR ?_))
  refine zF zby ?_
  refine zL Qs ?_
  refine zA ?_
  refine zN (zR ?_)
  refine zF UR ?_
  refine zL zck ?_
  refine zQ Xp ?_
  refine zM (zN (Qm ?_))
  refine zU [(5,_),(24,_),(25,_),(26,_),(52,_),(53,_)] (fun T L0 mz E I' loc'=>∃ (j:Nat),mz=w.n-j∧E=(54,.int .i64 j)::T∧HLe J2 I'∧[(b_7,.cells (zki w).toArray 65 (0,0))]=loc'∧j≤w.n∧(x.rs.take j).any zgz=false) ?_ (h:=⟨0,rfl,rfl,zye _,rfl,Nat.zero_le _,rfl⟩)
  rintro mz E J3 loc' ⟨j,rfl,rfl,hJ,rfl,hj,hnr⟩
  have hR:=hR.mono hJ;have hIc:=hIc.trans hJ;have hB2:=hB2.trans hJ
  have hB4:=hJ
  refine zR (zC (zN (Ql ?_)))
  refine zI ?_ ?_<;>intro hc55
  ·
   have hlt_j:j<w.n:=by have h:=hc55;simp at h;omega
   obtain ⟨r,hr⟩:=hR.at hlt_j
   refine Qo (Qa (Ql (Qm (zR ?_))))
   refine zV (zX Xp hR) ?_
   refine zV (Qp rfl ze7 (fun hg=>by exact zyf hR hr) rfl) ?_
   refine Qr zme rfl rfl (fun b_9=>?_)
   refine zh ze6 ?_
   refine zN (Ql ?_)
   obtain ⟨hlo,hz⟩ | ⟨hlo,hz⟩ | ⟨hlo,hz⟩ | ⟨hlo,hz⟩:=zla r
   ·
    have hbr:=znf hlo true hz
    refine Qg ?_
    refine zF V3 ?_
    refine zL za7 ?_
    rw [hlo]
    refine zM ?_
    refine QO (dj:=60) rfl rfl rfl ?_
    refine zF Jr ?_
    refine QO (dj:=60) rfl rfl rfl ?_
    refine zV (Qp rfl ZL (fun hg=>by exact Cells.s0 (vs:=[_,_,_,_,_,_,_,_,_,_,_,_,_,_]) rfl) rfl) ?_
    refine QO (dj:=60) rfl rfl rfl ?_
    refine zV (QS (ps:=[]) [_,_,_,_,_,_,_,_,_,_,_,_,_,_] UQ rfl rfl) ?_
    refine QO (dj:=60) rfl rfl rfl ?_
    refine zV (v:=.bool (!zag r.sg Y6)) (zi5 rfl rfl XX rfl) ?_
    rw [hz]
    refine zV (ZM rfl rfl rfl) ?_
    refine zM ?_
    refine QV (dj:=66) rfl rfl rfl rfl rfl ?_
    refine QV (dj:=66) rfl rfl rfl rfl rfl ?_
    refine QV (dj:=66) rfl rfl rfl rfl rfl ?_
    refine QV (dj:=66) rfl rfl rfl rfl rfl ?_
    refine QV (dj:=70) rfl rfl rfl rfl rfl ?_
    refine QV (dj:=70) rfl rfl rfl rfl rfl ?_
    refine QV (dj:=70) rfl rfl rfl rfl rfl ?_
    refine QV (dj:=70) rfl rfl rfl rfl rfl ?_
    refine QV (dj:=70) rfl rfl rfl rfl rfl ?_
    refine QV (dj:=75) rfl rfl rfl rfl rfl ?_
    refine QV (dj:=75) rfl rfl rfl rfl rfl ?_
    refine QV (dj:=75) rfl rfl rfl rfl rfl ?_
    refine QV (dj:=75) rfl rfl rfl rfl rfl ?_
    refine QV (dj:=75) rfl rfl rfl rfl rfl ?_
    refine QV (dj:=70) rfl rfl rfl rfl rfl ?_
    refine QV (dj:=66) rfl rfl rfl rfl rfl ?_
    refine zV (YR rfl rfl rfl) ?_
    refine zN ?_
    refine zI ?_ ?_<;>intro hc83
    ·
     refine zR (zA (zN (Qt (Qn (Qc (Qc (Qn ?_)))))))
     refine Qn (Qc (Qc (Qn (Qc ?_))))
     exact zp hIc rfl rfl (by rw [zfj h1 hno (hgo.trans (zaV hv hr hbr))])
    cases hc83
   ·
    have hbr:=znf hlo false hz
    refine Qg ?_
    refine zF V3 ?_
    refine zL za7 ?_
    rw [hlo]
    refine zM ?_
    refine QO (dj:=60) rfl rfl rfl ?_
    refine zF Jr ?_
    refine QO (dj:=60) rfl rfl rfl ?_
    refine zV (Qp rfl ZL (fun hg=>by exact Cells.s0 (vs:=[_,_,_,_,_,_,_,_,_,_,_,_,_,_]) rfl) rfl) ?_
    refine QO (dj:=60) rfl rfl rfl ?_
    refine zV (QS (ps:=[]) [_,_,_,_,_,_,_,_,_,_,_,_,_,_] UQ rfl rfl) ?_
    refine QO (dj:=60) rfl rfl rfl ?_
    refine zV (v:=.bool (!zag r.sg Y6)) (zi5 rfl rfl XX rfl) ?_
    rw [hz]
    refine zV (ZM rfl rfl rfl) ?_
    refine zM ?_
    refine QO (dj:=66) rfl rfl rfl ?_
    refine zF V3 ?_
    refine QO (dj:=66) rfl rfl rfl ?_
    refine zL za7 ?_
    rw [hlo]
    refine QO (dj:=66) rfl rfl rfl ?_
    refine zO ?_
    refine QO (dj:=66) rfl rfl rfl ?_
    refine zM ?_
    refine QV (dj:=70) rfl rfl rfl rfl rfl ?_
    refine QV (dj:=70) rfl rfl rfl rfl rfl ?_
    refine QV (dj:=70) rfl rfl rfl rfl rfl ?_
    refine QV (dj:=70) rfl rfl rfl rfl rfl ?_
    refine QV (dj:=70) rfl rfl rfl rfl rfl ?_
    refine QV (dj:=75) rfl rfl rfl rfl rfl ?_
    refine QV (dj:=75) rfl rfl rfl rfl rfl ?_
    refine QV (dj:=75) rfl rfl rfl rfl rfl ?_
    refine QV (dj:=75) rfl rfl rfl rfl rfl ?_
    refine QV (dj:=75) rfl rfl rfl rfl rfl ?_
    refine QV (dj:=70) rfl rfl rfl rfl rfl ?_
    refine QO (dj:=66) rfl rfl rfl ?_
    refine zV (YR rfl rfl rfl) ?_
    refine zV (ZM rfl rfl rfl) ?_
    refine zN ?_
    refine zI ?_ ?_<;>intro hc83
    ·
     cases hc83
    refine Qo (Qh (Qa (Qg (zB ?_))))
    refine zM (Qb ?_)
    exact zm (h:=⟨w.n-(j+1),by omega,j+1,rfl,rfl,hB4,rfl,by omega,YX hr hnr hbr⟩)
   ·
    have hbr:=zsO hlo hz
    refine Qg ?_
    refine zF V3 ?_
    refine zL za7 ?_
    rw [hlo]
    refine zM ?_
    refine QV (dj:=60) rfl rfl rfl rfl rfl ?_
    refine QV (dj:=60) rfl rfl rfl rfl rfl ?_
    refine QV (dj:=60) rfl rfl rfl rfl rfl ?_
    refine QV (dj:=60) rfl rfl rfl rfl rfl ?_
    refine zV (YR rfl rfl rfl) ?_
    refine zM ?_
    refine QO (dj:=66) rfl rfl rfl ?_
    refine zF V3 ?_
    refine QO (dj:=66) rfl rfl rfl ?_
    refine zL za7 ?_
    rw [hlo]
    refine QO (dj:=66) rfl rfl rfl ?_
    refine zO ?_
    refine QO (dj:=66) rfl rfl rfl ?_
    refine zM ?_
    refine QO (dj:=70) rfl rfl rfl ?_
    refine zF Jr ?_
    refine QO (dj:=70) rfl rfl rfl ?_
    refine zF ZN ?_
    refine QO (dj:=70) rfl rfl rfl ?_
    refine zL Qs ?_
    refine QO (dj:=70) rfl rfl rfl ?_
    refine zC ?_
    rw [hz]
    refine QO (dj:=70) rfl rfl rfl ?_
    refine zM ?_
    refine QV (dj:=75) rfl rfl rfl rfl rfl ?_
    refine QV (dj:=75) rfl rfl rfl rfl rfl ?_
    refine QV (dj:=75) rfl rfl rfl rfl rfl ?_
    refine QV (dj:=75) rfl rfl rfl rfl rfl ?_
    refine QV (dj:=75) rfl rfl rfl rfl rfl ?_
    refine QO (dj:=70) rfl rfl rfl ?_
    refine zV (YR rfl rfl rfl) ?_
    refine QO (dj:=66) rfl rfl rfl ?_
    refine zV (ZM rfl rfl rfl) ?_
    refine zV (ZM rfl rfl rfl) ?_
    refine zN ?_
    refine zI ?_ ?_<;>intro hc83
    ·
     refine zR (zA (zN (Qt (Qn (Qc (Qc (Qn ?_)))))))
     refine Qn (Qc (Qc (Qn (Qc ?_))))
     exact zp hIc rfl rfl (by rw [zfj h1 hno (hgo.trans (zaV hv hr hbr))])
    cases hc83
   have hbr:=zr9 hlo hz
   refine Qg ?_
   refine zF V3 ?_
   refine zL za7 ?_
   rw [hlo]
   refine zM ?_
   refine QV (dj:=60) rfl rfl rfl rfl rfl ?_
   refine QV (dj:=60) rfl rfl rfl rfl rfl ?_
   refine QV (dj:=60) rfl rfl rfl rfl rfl ?_
   refine QV (dj:=60) rfl rfl rfl rfl rfl ?_
   refine zV (YR rfl rfl rfl) ?_
   refine zM ?_
   refine QO (dj:=66) rfl rfl rfl ?_
   refine zF V3 ?_
   refine QO (dj:=66) rfl rfl rfl ?_
   refine zL za7 ?_
   rw [hlo]
   refine QO (dj:=66) rfl rfl rfl ?_
   refine zO ?_
   refine QO (dj:=66) rfl rfl rfl ?_
   refine zM ?_
   refine QO (dj:=70) rfl rfl rfl ?_
   refine zF Jr ?_
   refine QO (dj:=70) rfl rfl rfl ?_
   refine zF ZN ?_
   refine QO (dj:=70) rfl rfl rfl ?_
   refine zL Qs ?_
   refine QO (dj:=70) rfl rfl rfl ?_
   refine zC ?_
   rw [hz]
   refine QO (dj:=70) rfl rfl rfl ?_
   refine zM ?_
   refine QO (dj:=75) rfl rfl rfl ?_
   refine zF Jr ?_
   refine QO (dj:=75) rfl rfl rfl ?_
   refine zV (Qp rfl ZL (fun hg=>by exact Cells.s0 (vs:=[_,_,_,_,_,_,_,_,_,_,_,_,_,_]) rfl) rfl) ?_
   refine QO (dj:=75) rfl rfl rfl ?_
   refine Qq (ps:=[(0,_)]) (m:=[Y2 r.sg]) K7 rfl (.cons rfl (.nil)) rfl (by simp [Z5]) (by decide) (by decide) rfl rfl (fun b_78=>?_)
   refine ZY (b:=b_78) (by repeat (first | exact Q7.here | apply Q7.there)) (fun I4 hI4 hb4=>?_)
   have hIc:=hIc.trans hI4;have hB4:=hB4.trans hI4
   have hSg:Sl I4 14 Y2 (some ⟨b_78,0,none⟩) 1 1 [r.sg]:=Sl.lit [r.sg] rfl Z5 (show _=some (Obj.cells ([r.sg].flatMap Y2).toArray 54 (0,0)) from hb4)
   refine QO (dj:=75) rfl rfl rfl ?_
   refine qc (vs:=[_]) rfl zd3 (zfR hSg (by decide)) ?_
   refine QO (dj:=75) rfl rfl rfl ?_
   refine zC ?_
   refine QO (dj:=70) rfl rfl rfl ?_
   refine zV (ZM rfl rfl rfl) ?_
   refine QO (dj:=66) rfl rfl rfl ?_
   refine zV (ZM rfl rfl rfl) ?_
   refine zV (ZM rfl rfl rfl) ?_
   refine zN ?_
   refine zI ?_ ?_<;>intro hc83
   ·
    have hbr:=hbr.trans hc83
    refine zR (zA (zN (Qt (Qn (Qc (Qc (Qn ?_)))))))
    refine Qn (Qc (Qc (Qn (Qc ?_))))
    exact zp hIc rfl rfl (by rw [zfj h1 hno (hgo.trans (zaV hv hr hbr))])
   have hbr:=hbr.trans hc83
   refine Qo (Qh (Qa (Qg (zB ?_))))
   refine zM (Qb ?_)
   exact zm (h:=⟨w.n-(j+1),by omega,j+1,rfl,rfl,hB4,rfl,by omega,YX hr hnr hbr⟩)
  have hge_j:w.n≤j:=by have h:=hc55;simp at h;omega
  rw [ZF hrn hge_j] at hnr
  refine QI (Qf (Qf (Qk (Qh (Qa (Qg (zB ?_)))))))
  refine zM (Qb ?_)
  exact zm (h:=⟨n-(k+1),by omega,k+1,_,rfl,rfl,hB2,rfl,by omega,by rw [hgo,zgq hv hbw hnr,e1]⟩)
 have hge_k:n≤k:=by have h:=hc27;simp at h;omega
 rw [zhH (by omega)] at hgo
 refine QI (Qf (Qf (Qk (Qa (zR (zA (zN ?_)))))))
 refine Qt ?_
 exact zp hIc rfl rfl (by rw [ztz h1 hno hgo])
end
section
open Go Go.Kn Go.Proofs
def lcG:Nat→List Int→List Int→Int
 | _,[],ys=>2*(ys.length:Int)
 | _,x::xs,[]=>2*((x::xs).length:Int)
 | 0,_::_,_::_=>0
 | f+1,x::xs,y::ys=>JT (JT (zfi x y+lcG f xs ys) (2+lcG f xs (y::ys))) (2+lcG f (x::xs) ys)
theorem VQ:∀ (f:Nat) (xs ys:List Int),xs.length+ys.length≤f→lcG f xs ys=lcG (xs.length+ys.length) xs ys
 | _,[],ys,_=>by simp [lcG]
 | _,x::xs,[],_=>by simp [lcG]
 | 0,_::_,_::_,h=>by simp at h
 | f+1,x::xs,y::ys,h=>by
  simp only [List.length_cons] at h
  have e:(x::xs).length+(y::ys).length=(xs.length+ys.length+1)+1:=by simp only [List.length_cons];omega
  rw [e]
  simp only [lcG]
  rw [VQ f xs ys (by omega),VQ f xs (y::ys) (by simp only [List.length_cons];omega),VQ f (x::xs) ys (by simp only [List.length_cons];omega)]
  rw [VQ (xs.length+ys.length+1) xs ys (by omega),VQ (xs.length+ys.length+1) xs (y::ys) (by simp only [List.length_cons];omega),VQ (xs.length+ys.length+1) (x::xs) ys (by simp only [List.length_cons];omega)]
theorem zdD (x y:Int):0≤zfi x y∧zfi x y≤3:=by unfold zfi;split<;>omega
theorem zhC {a b:Int}:JT a b≤a∧JT a b≤b∧(JT a b=a∨JT a b=b):=by unfold JT;split<;>omega
theorem zfF:∀ (f:Nat) (xs ys:List Int),0≤lcG f xs ys∧lcG f xs ys≤2*((xs.length:Int)+ys.length)
 | _,[],ys=>by simp only [lcG,List.length_nil];omega
 | _,x::xs,[]=>by simp only [lcG,List.length_nil];omega
 | 0,_::_,_::_=>by simp only [lcG];omega
 | f+1,x::xs,y::ys=>by
  have h1:=zfF f xs ys
  have h2:=zfF f xs (y::ys)
  have h3:=zfF f (x::xs) ys
  have hb:=zdD x y
  simp only [lcG]
  have m1:=@zhC (zfi x y+lcG f xs ys) (2+lcG f xs (y::ys))
  have m2:=@zhC (JT (zfi x y+lcG f xs ys) (2+lcG f xs (y::ys))) (2+lcG f (x::xs) ys)
  simp only [List.length_cons] at*
  omega
def LC (a b:List Int)(i k:Nat):Int:=lcG ((a.drop i).length+(b.drop k).length) (a.drop i) (b.drop k)
theorem zjj {a b:List Int}{i k:Nat}(hi:i≤a.length)(hk:k≤b.length)(h:i=a.length∨k=b.length):LC a b i k=2*((a.length:Int)-i+b.length-k):=by
 unfold LC
 rcases h with rfl | rfl
 ·
  rw [List.drop_length];simp only [lcG,List.length_drop];omega
 ·
  rw [List.drop_length]
  cases h:a.drop i with
  | nil=>have:=congrArg List.length h;simp at this;simp only [lcG,List.length_nil];omega
  | cons x xs=>have:=congrArg List.length h;simp only [List.length_drop] at this;simp only [lcG];omega
theorem zrc {a b:List Int}{i k:Nat}{x y:Int}(hx:a[i]? =some x)(hy:b[k]? =some y):LC a b i k=JT (JT (zfi x y+LC a b (i+1) (k+1)) (2+LC a b (i+1) k)) (2+LC a b i (k+1)):=by
 unfold LC
 rw [Z2 hx,Z2 hy]
 have e:(x::a.drop (i+1)).length+(y::b.drop (k+1)).length=((a.drop (i+1)).length+(b.drop (k+1)).length+1)+1:=by simp only [List.length_cons];omega
 rw [e]
 simp only [lcG]
 rw [VQ (_+1) (a.drop (i+1)) (b.drop (k+1)) (by omega),VQ (_+1) (a.drop (i+1)) (y::b.drop (k+1)) (by simp only [List.length_cons];omega),VQ (_+1) (x::a.drop (i+1)) (b.drop (k+1)) (by simp only [List.length_cons];omega)]
theorem zwZ (a b:List Int)(i k:Nat):0≤LC a b i k∧LC a b i k≤2*((a.length:Int)+b.length):=by
 have h:=zfF ((a.drop i).length+(b.drop k).length) (a.drop i) (b.drop k)
 unfold LC
 simp only [List.length_drop] at*
 omega
def U2 (a b:List Int)(i k:Nat)(v:Int):Prop:=v=LC a b i k
theorem U2.inn {a b:List Int}{i k:Nat}{v:Int}(h:U2 a b i k v):0≤v∧v≤2*((a.length:Int)+b.length):=by unfold U2 at h;rw [h];exact zwZ a b i k
theorem U2.fin {a b:List Int}{i k:Nat}(hi:i≤a.length)(hk:k≤b.length)(h:i=a.length∨k=b.length):U2 a b i k (2*((a.length:Int)-i+b.length-k)):=(zjj hi hk h).symm
theorem U2.step {a b:List Int}{i k:Nat}{x y A B C:Int}(hx:a[i]? =some x)(hy:b[k]? =some y)(hA:U2 a b (i+1) (k+1) A)(hB:U2 a b (i+1) k B)(hC:U2 a b i (k+1) C):U2 a b i k (JT (JT (zfi x y+A) (2+B)) (2+C)):=by
 unfold U2 at*;rw [zrc hx hy,hA,hB,hC]
def MOK (a b:List Int)(m:List ((Int×Int)×Int)):Prop:=∀ (i k:Nat) (v:Int),Zy m ((i:Int),(k:Int))=some v→U2 a b i k v
theorem MOK.nil {a b:List Int}:MOK a b []:=fun _ _ _ h=>by cases h
theorem MOK.set {a b:List Int}{m:List ((Int×Int)×Int)}(h:MOK a b m){i k:Nat}{v:Int}(hv:U2 a b i k v):MOK a b (Ys m ((i:Int),(k:Int)) v):=fun i' k' v' e=>by
 rw [YE] at e
 split at e
 ·
  rename_i h2
  simp only [Prod.mk.injEq] at h2
  obtain ⟨rfl,rfl⟩:i=i'∧k=k':=by omega
  cases e;exact hv
 ·
  exact h i' k' v' e
structure LsE (I:Qu)(fid ba bb bk bs r:Nat)(av bv:Option Addr)(n c n2 c2:Nat)(xs ys:List Int):Prop where
 a:QU I [] ba 0 (.slice av n c)
 b:QU I [] bb 0 (.slice bv n2 c2)
 kn:QU I [] bk 0 (.map (some r))
 se:QU I [] bs 0 (.func (.func fid) #[] #[Zb ba,Zb bb,Zb bk,Zb bs])
 hA:Sl I 1 QR av n c xs
 hB:Sl I 1 QR bv n2 c2 ys
theorem LsE.mono {I I':Qu}{fid ba bb bk bs r:Nat}{av bv:Option Addr}{n c n2 c2:Nat}{xs ys:List Int}(h:LsE I fid ba bb bk bs r av bv n c n2 c2 xs ys)(hI:HLe I I'):LsE I' fid ba bb bk bs r av bv n c n2 c2 xs ys:=
 ⟨h.a.mono hI,h.b.mono hI,h.kn.mono hI,h.se.mono hI,h.hA.mono hI,h.hB.mono hI⟩
def zb0:Int→Value:=Value.int .i64
/-! ### The pairs -/
def VO (p:Int×Int):List Value:=[.int .i64 p.1,.int .i64 p.2]
theorem Ka (p:Int×Int):(VO p).length=2:=rfl
theorem zf9 (xs:List (Int×Int)):Yx (xs.flatMap VO)=true:=Yl (fun _=>rfl) xs
def WW (a b:List Int)(i k:Nat):Bool:=decide (i<a.length)&&decide (k<b.length)&&(LC a b i k==zfi (a.getD i 0) (b.getD k 0)+LC a b (i+1) (k+1))
def zgC (a b:List Int)(i k:Nat):Bool:=decide (i<a.length)&&(LC a b i k==2+LC a b (i+1) k)
def paF (a b:List Int):Nat→Nat→Nat→List (Int×Int)
 | 0,_,_=>[]
 | f+1,i,k=>
  if (decide (i<a.length)||decide (k<b.length))=true then
   if WW a b i k=true then (((i+1:Nat):Int),((k+1:Nat):Int))::paF a b f (i+1) (k+1)
   else if zgC a b i k=true then (((i+1:Nat):Int),0)::paF a b f (i+1) k
   else (0,((k+1:Nat):Int))::paF a b f i (k+1)
  else []
def PaQ (a b:List Int)(pre:List (Int×Int))(i k:Nat):Prop:=∃ f,a.length-i+(b.length-k)≤f∧paF a b (a.length+b.length) 0 0=pre++paF a b f i k
theorem PaQ.start {a b:List Int}:PaQ a b [] 0 0:=⟨a.length+b.length,by omega,rfl⟩
theorem PaQ.fin {a b:List Int}{pre:List (Int×Int)}{i k:Nat}(h:PaQ a b pre i k)(hi:a.length≤i)(hk:b.length≤k):paF a b (a.length+b.length) 0 0=pre:=by
 obtain ⟨f,_,e⟩:=h
 rw [e]
 cases f with
 | zero=>simp [paF]
 | succ f=>unfold paF;rw [if_neg (by simp;omega),List.append_nil]
theorem PaQ.fuel {a b:List Int}{pre:List (Int×Int)}{i k:Nat}(h:PaQ a b pre i k)(hg:i<a.length∨k<b.length):∃ f,a.length-i+(b.length-k)≤f+1∧paF a b (a.length+b.length) 0 0=pre++paF a b (f+1) i k:=by
 obtain ⟨f,hf,e⟩:=h
 cases f with
 | zero=>omega
 | succ f=>exact ⟨f,hf,e⟩
theorem PaQ.both {a b:List Int}{pre:List (Int×Int)}{i k:Nat}(h:PaQ a b pre i k)(hb:WW a b i k=true):PaQ a b (pre++[(((i+1:Nat):Int),((k+1:Nat):Int))]) (i+1) (k+1):=by
 have h1:i<a.length∧k<b.length:=by unfold WW at hb;simp at hb;omega
 obtain ⟨f,hf,e⟩:=h.fuel (.inl h1.1)
 refine ⟨f,by omega,?_⟩
 rw [e]
 show pre++(if (decide (i<a.length)||decide (k<b.length))=true then _ else _)=_
 rw [if_pos (by simp;omega),if_pos hb,List.append_assoc];rfl
theorem PaQ.one {a b:List Int}{pre:List (Int×Int)}{i k:Nat}(h:PaQ a b pre i k)(hb:WW a b i k=false)(ho:zgC a b i k=true):PaQ a b (pre++[(((i+1:Nat):Int),0)]) (i+1) k:=by
 have h1:i<a.length:=by unfold zgC at ho;simp at ho;omega
 obtain ⟨f,hf,e⟩:=h.fuel (.inl h1)
 refine ⟨f,by omega,?_⟩
 rw [e]
 show pre++(if (decide (i<a.length)||decide (k<b.length))=true then _ else _)=_
 rw [if_pos (by simp;omega),if_neg (by rw [hb];decide),if_pos ho,List.append_assoc];rfl
theorem zhO {a b:List Int}{i k:Nat}(hi:i≤a.length)(hk:k≤b.length)(hg:i<a.length∨k<b.length)(_hb:WW a b i k=false)(ho:zgC a b i k=false):k<b.length:=by
 by_cases h:k<b.length
 ·
  exact h
 ·
  have hia:i<a.length:=by omega
  have e1:=zjj (a:=a) (b:=b) hi hk (.inr (by omega))
  have e2:=zjj (a:=a) (b:=b) (i:=i+1) (by omega) hk (.inr (by omega))
  unfold zgC at ho
  simp only [Bool.and_eq_false_iff,decide_eq_false_iff_not,beq_eq_false_iff_ne] at ho
  rcases ho with ho | ho
  ·
   omega
  ·
   omega
theorem PaQ.two {a b:List Int}{pre:List (Int×Int)}{i k:Nat}(h:PaQ a b pre i k)(hg:k<b.length)(hb:WW a b i k=false)(ho:zgC a b i k=false):PaQ a b (pre++[(0,((k+1:Nat):Int))]) i (k+1):=by
 obtain ⟨f,hf,e⟩:=h.fuel (.inr hg)
 refine ⟨f,by omega,?_⟩
 rw [e]
 show pre++(if (decide (i<a.length)||decide (k<b.length))=true then _ else _)=_
 rw [if_pos (by simp;omega),if_neg (by rw [hb];decide),if_neg (by rw [ho];decide),List.append_assoc];rfl
def zl1 (a b:List Int):List (Int×Int):=paF a b (a.length+b.length) 0 0
def zd7 (c:Int):Bool:=(UG c != 0)&&(c != 8589934592)
def XF (a b:List Int):Int:=if a.length>64∨b.length>64 then 2 else if (a.any zd7||b.any zd7)=true then 410 else 0
theorem zl2 {i k n m:Nat}(h:i<n∨k<m):(decide ((i:Int)<(n:Int))=true∧decide ((k:Int)<(m:Int))=true∧i<n∧k<m)∨(decide ((i:Int)<(n:Int))=true∧decide ((k:Int)<(m:Int))=false∧i<n∧m≤k)∨(decide ((i:Int)<(n:Int))=false∧decide ((k:Int)<(m:Int))=true∧n≤i∧k<m):=by
 by_cases h1:i<n
 ·
  by_cases h2:k<m
  ·
   exact .inl ⟨decide_eq_true (by omega),decide_eq_true (by omega),h1,h2⟩
  ·
   exact .inr (.inl ⟨decide_eq_true (by omega),decide_eq_false (by omega),h1,by omega⟩)
 ·
  exact .inr (.inr ⟨decide_eq_false (by omega),decide_eq_true (by omega),by omega,by omega⟩)
theorem zfu {a b:List Int}{i k:Nat}{x y V A:Int}{t:Bool}(hx:a[i]? =some x)(hy:b[k]? =some y)(hV:U2 a b i k V)(hA:U2 a b (i+1) (k+1) A)(h:(V==zfi x y+A)=t):WW a b i k=t:=by
 have h1:=(List.getElem?_eq_some_iff.1 hx).1
 have h2:=(List.getElem?_eq_some_iff.1 hy).1
 unfold U2 at hV hA
 unfold WW
 rw [Q1 hx,Q1 hy,←hV,←hA,h,decide_eq_true h1,decide_eq_true h2];rfl
theorem zeQ {a b:List Int}{i k:Nat}(h:a.length≤i∨b.length≤k):WW a b i k=false:=by
 unfold WW
 rcases h with h | h
 ·
  rw [decide_eq_false (show ¬i<a.length by omega)];rfl
 ·
  rw [decide_eq_false (show ¬k<b.length by omega),Bool.and_false];rfl
theorem za6 {a b:List Int}{i k:Nat}{V B:Int}{t:Bool}(hi:i<a.length)(hV:U2 a b i k V)(hB:U2 a b (i+1) k B)(h:(V==2+B)=t):zgC a b i k=t:=by
 unfold U2 at hV hB
 unfold zgC
 rw [←hV,←hB,h,decide_eq_true hi];rfl
theorem zoG {a b:List Int}{i k:Nat}(h:a.length≤i):zgC a b i k=false:=by
 unfold zgC
 rw [decide_eq_false (show ¬i<a.length by omega)];rfl
theorem zdF {a b:List Int}(h:a.length>64∨b.length>64):XF a b=2:=by unfold XF;rw [if_pos h]
theorem zef {a b:List Int}(h:¬(a.length>64∨b.length>64))(h2:(a.any zd7||b.any zd7)=true):XF a b=410:=by unfold XF;rw [if_neg h,if_pos h2]
theorem zpi {a b:List Int}(h:¬(a.length>64∨b.length>64))(h2:(a.any zd7||b.any zd7)=false):XF a b=0:=by unfold XF;rw [if_neg h,h2];rfl
def V1 (a b:List Int):List (Int×Int):=if XF a b≠0 then [] else zl1 a b
def zwH (a b:List Int):Value→Qu→Go.Kn.Loc→Prop:=fun v I' L=>L=[]∧∃ z av c,v= .tuple #[.int .i64 z,.slice av (V1 a b).length c,.int .i64 (XF a b)]∧Sl I' 2 VO av (V1 a b).length c (V1 a b)
theorem UN {a b:List Int}(h:XF a b≠0):V1 a b=[]:=by unfold V1;rw [if_pos h]
theorem zmi {a b:List Int}(h:XF a b=0):V1 a b=zl1 a b:=by unfold V1;rw [if_neg (by omega)]
theorem zgG {I:Qu}{av bv:Option Addr}{n c n2 c2:Nat}{xs ys:List Int}(hA:Sl I 1 QR av n c xs)(hB:Sl I 1 QR bv n2 c2 ys){q:Nat}(hq:q<2):∃ hd zs,([⟨av,n,c⟩,⟨bv,n2,c2⟩]:List Hd)[q]? =some hd∧([xs,ys]:List (List Int))[q]? =some zs∧Sl I 1 QR hd.a hd.n hd.c zs∧(hd.n=n∨hd.n=n2):=by
 rcases (show q=0∨q=1 by omega) with rfl | rfl
 ·
  exact ⟨_,xs,rfl,rfl,hA,.inl rfl⟩
 ·
  exact ⟨_,ys,rfl,rfl,hB,.inr rfl⟩
end
section
open Go Go.Kn Go.Proofs
theorem Kr:Fun Tryz.prog 103:=.of Tryz.func103 (by kernel_rfl) (by kernel_rfl)
theorem zgJ:Fun Tryz.prog 104:=.of Tryz.func104 (by kernel_rfl) (by kernel_rfl)
theorem Uv:Y7 (α:=Int×Int) Tryz.prog 79 Ya:=zfe zcN
theorem zi3:MpT Tryz.prog 182 79 3 (.int .i64 0):=⟨by kernel_rfl,.of (by kernel_rfl)⟩
theorem KI:ScT Tryz.prog 177:=.of (by kernel_rfl)
theorem zj1:ScT Tryz.prog 182:=.of (by kernel_rfl)
set_option maxHeartbeats 1600000 in
theorem zaz {I:Qu} {ba bb bk bs r:Nat} {av bv:Option Addr} {n c n2 c2:Nat} {xs ys:List Int} (hE:(LsE I 103 ba bb bk bs r av bv n c n2 c2 xs ys)) (hn:n≤100000) (hn2:n2≤100000) (i k:Nat) (hi:i≤xs.length) (hk:k≤ys.length) (m1:List ((Int×Int)×Int)) (hm1:MOK xs ys m1) (ihA:∀ (m':List ((Int×Int)×Int)),i<xs.length∧k<ys.length→MOK xs ys m'→Yg Tryz.prog 103 ([.int .i64 ((i:Int)+1),.int .i64 ((k:Int)+1)]++[Zb ba,Zb bb,Zb bk,Zb bs]) I [(r,ZR Ya zb0 m')] (fun v I' L'=>∃ A,U2 xs ys (i+1) (k+1) A∧v= .int .i64 A∧I'=I∧∃ m',MOK xs ys m'∧L'=[(r,ZR Ya zb0 m')])) (ihB:∀ (m':List ((Int×Int)×Int)),i<xs.length∧k<ys.length→MOK xs ys m'→Yg Tryz.prog 103 ([.int .i64 ((i:Int)+1),.int .i64 ((k:Int))]++[Zb ba,Zb bb,Zb bk,Zb bs]) I [(r,ZR Ya zb0 m')] (fun v I' L'=>∃ A,U2 xs ys (i+1) (k) A∧v= .int .i64 A∧I'=I∧∃ m',MOK xs ys m'∧L'=[(r,ZR Ya zb0 m')])) (ihC:∀ (m':List ((Int×Int)×Int)),i<xs.length∧k<ys.length→MOK xs ys m'→Yg Tryz.prog 103 ([.int .i64 ((i:Int)),.int .i64 ((k:Int)+1)]++[Zb ba,Zb bb,Zb bk,Zb bs]) I [(r,ZR Ya zb0 m')] (fun v I' L'=>∃ A,U2 xs ys (i) (k+1) A∧v= .int .i64 A∧I'=I∧∃ m',MOK xs ys m'∧L'=[(r,ZR Ya zb0 m')])):Yg Tryz.prog 103 [.int .i64 i,.int .i64 k,Zb ba,Zb bb,Zb bk,Zb bs] I [(r,ZR Ya zb0 m1)] (fun v I' L'=>∃ A,U2 xs ys (i) (k) A∧v= .int .i64 A∧I'=I∧∃ m',MOK xs ys m'∧L'=[(r,ZR Ya zb0 m')]):=by
 intro g H w hw
 refine qe Tryz.func103 Tryz.ntmps103 hw ?_
 have hAl:=hE.hA.len
 subst hAl
 have hBl:=hE.hB.len
 subst hBl
 refine zR (zA (zN (Ql (zR ?_))))
 refine zM ?_
 refine zV (Qd rfl QK (fun hg=>by exact hE.a.any)) ?_
 refine zQ Qy ?_
 refine zC ?_
 refine zM ?_
 refine QX 4 rfl rfl rfl ?_
 refine zJ (Qi rfl) ?_
 refine zJ (Qd rfl QK (fun hg=>by exact hE.b.any)) ?_
 refine zJ (ZH rfl Qy) ?_
 refine zJ (QH rfl rfl rfl) ?_
 refine ZA rfl rfl rfl rfl rfl ?_
 refine zN ?_
 refine zI ?_ ?_<;>intro hc20
 ·
  have hend:i=xs.length∨k=ys.length:=by have h:=hc20;simp at h;omega
  refine zR ?_
  refine zV (Qd rfl QK (fun hg=>by exact hE.a.any)) ?_
  refine zQ Qy ?_
  refine zM ?_
  refine zB ?_
  refine zV (Qd rfl QK (fun hg=>by exact hE.b.any)) ?_
  refine zQ Qy ?_
  refine zB ?_
  refine zM ?_
  refine zB ?_
  refine zB ?_
  refine zA (zN (Qt (Qc ?_)))
  exact Zv rfl rfl (fun w hw=>⟨_,_,_,rfl,zye _,hw,_,U2.fin hi hk hend,rfl,rfl,m1,hm1,rfl⟩)
 have hlt:i<xs.length∧k<ys.length:=by have h:=hc20;simp at h;omega
 obtain ⟨x,hx⟩:=hE.hA.at hlt.1
 obtain ⟨y,hy⟩:=hE.hB.at hlt.2
 have hbn:=zdD x y
 refine Qo (Qa (zR ?_))
 refine zV (Qd rfl zj1 (fun hg=>by exact hE.kn.any)) ?_
 refine zM ?_
 refine zM ?_
 refine zV (Zp (ps:=[(0,_),(1,_)]) [_,_] Yc JJ rfl rfl) ?_
 refine zV (Kx (m:=m1) (ek:=Ya) (a:=((i:Int),(k:Int))) zi3 Uv rfl rfl (fun _=>(by exact Mem.m0))) ?_
 refine zM ?_
 refine zE ?_
 refine zE ?_
 refine zA ?_
 refine zA (zN (Ql (zR ?_)))
 refine zM ?_
 refine zO (zN ?_)
 refine zI ?_ ?_<;>intro hc40
 ·
  refine Ql ?_
  have hD:=zye I
  refine Jo ?_
  refine Z7 I [] mixed ?_
  refine zT 0 rfl (Qd rfl QK (fun hg=>by exact hE.a.any)) hD ?_
  refine zT 1 rfl (Qi rfl) hD ?_
  refine zT 2 rfl (QF rfl rfl Qy hE.hA (fun hg=>by omega)) hD ?_
  refine zT 3 rfl (Qd rfl Qs (fun hg=>by exact zx7 hE.hA hx rfl)) hD ?_
  refine zT 4 rfl (Qd rfl QK (fun hg=>by exact hE.b.any)) hD ?_
  refine zT 5 rfl (Qi rfl) hD ?_
  refine zT 6 rfl (QF rfl rfl Qy hE.hB (fun hg=>by omega)) hD ?_
  refine zT 7 rfl (Qd rfl Qs (fun hg=>by exact zx7 hE.hB hy rfl)) hD ?_
  refine zT 9 rfl (Qd rfl KI (fun hg=>by exact hE.se.any)) hD ?_
  refine zT 10 rfl (Qi rfl) hD ?_
  refine zT 11 rfl (ZO rfl rfl rfl (fun hg=>by omega)) hD ?_
  refine zT 12 rfl (Qi rfl) hD ?_
  refine zT 13 rfl (ZO rfl rfl rfl (fun hg=>by omega)) hD ?_
  refine zT 16 rfl (Qd rfl KI (fun hg=>by exact hE.se.any)) hD ?_
  refine zT 17 rfl (Qi rfl) hD ?_
  refine zT 18 rfl (ZO rfl rfl rfl (fun hg=>by omega)) hD ?_
  refine zT 19 rfl (Qi rfl) hD ?_
  refine zT 22 rfl (Qd rfl KI (fun hg=>by exact hE.se.any)) hD ?_
  refine zT 23 rfl (Qi rfl) hD ?_
  refine zT 24 rfl (Qi rfl) hD ?_
  refine zT 25 rfl (ZO rfl rfl rfl (fun hg=>by omega)) hD ?_
  refine qd 8 rfl ?_
  refine qc (vs:=[_,_]) rfl zgJ (zft I _ _) ?_
  refine Qb ?_
  refine zD hD ?_
  refine qd 14 rfl ?_
  refine Qz (cap:=[Zb ba,Zb bb,Zb bk,Zb bs]) (vs:=[_,_]) rfl rfl Kr QD (ihA m1 hlt hm1) rfl rfl ?_
  rintro vv1 I1 L1 hI1 ⟨VA,hLA,rfl,rfl,m2,hm2,rfl⟩
  have hE:=hE.mono hI1;have hD:=hD.trans hI1
  have hbA:=hLA.inn
  refine Qb ?_
  refine zD hD ?_
  refine zT 15 rfl (ZO rfl rfl rfl (fun hg=>by omega)) hD ?_
  refine qd 20 rfl ?_
  refine Qz (cap:=[Zb ba,Zb bb,Zb bk,Zb bs]) (vs:=[_,_]) rfl rfl Kr QD (ihB m2 hlt hm2) rfl rfl ?_
  rintro vv2 I2 L2 hI2 ⟨VB,hLB,rfl,rfl,m3,hm3,rfl⟩
  have hE:=hE.mono hI2;have hD:=hD.trans hI2
  have hbB:=hLB.inn
  refine Qb ?_
  refine zD hD ?_
  refine zT 21 rfl (ZO rfl rfl rfl (fun hg=>by omega)) hD ?_
  refine qd 26 rfl ?_
  refine Qz (cap:=[Zb ba,Zb bb,Zb bk,Zb bs]) (vs:=[_,_]) rfl rfl Kr QD (ihC m3 hlt hm3) rfl rfl ?_
  rintro vv3 I3 L3 hI3 ⟨VC,hLC,rfl,rfl,m4,hm4,rfl⟩
  have hE:=hE.mono hI3;have hD:=hD.trans hI3
  have hbC:=hLC.inn
  refine Qb ?_
  refine zD hD ?_
  refine zT 27 rfl (ZO rfl rfl rfl (fun hg=>by omega)) hD ?_
  refine zT 28 rfl (zq1 rfl rfl rfl) hD ?_
  refine zT 29 rfl (ZP rfl) hD ?_
  refine QG (by kernel_rfl) ?_
  refine QQ ?_
  have hst:=U2.step hx hy hLA hLB hLC
  refine Qa (Qg ?_)
  refine zV (Qd rfl zj1 (fun hg=>by exact hE.kn.any)) ?_
  refine zM ?_
  refine zM ?_
  refine zV (Zp (ps:=[(0,_),(1,_)]) [_,_] Yc JJ rfl rfl) ?_
  refine zM ?_
  refine Q4 (m:=m4) (ev:=zb0) (ek:=Ya) (a:=((i:Int),(k:Int))) (JT (JT (zfi x y+VA) (2+VB)) (2+VC)) zi3 Uv rfl rfl rfl rfl (by repeat (first | exact Upd.here | apply Upd.there | apply QJ)) ?_
  refine zN (zR ?_)
  refine zM ?_
  refine zA (zN (Qt ?_))
  exact Zv rfl rfl (fun w hw=>⟨_,_,_,rfl,zye _,hw,_,hst,rfl,rfl,_,hm4.set hst,rfl⟩)
 obtain ⟨v,hv⟩:=Option.isSome_iff_exists.1 (by simpa using hc40)
 have hv2:=hm1 i k v hv
 rw [hv]
 refine Qo (Qa (zR (zM ?_)))
 refine zA (zN (Qt ?_))
 exact Zv rfl rfl (fun w hw=>⟨_,_,_,rfl,zye _,hw,_,hv2,rfl,rfl,m1,hm1,rfl⟩)
theorem zdV {I:Qu}{ba bb bk bs r:Nat}{av bv:Option Addr}{n c n2 c2:Nat}{xs ys:List Int}(hE:(LsE I 103 ba bb bk bs r av bv n c n2 c2 xs ys))(hn:n≤100000)(hn2:n2≤100000):∀ (q i k:Nat) (m1:List ((Int×Int)×Int)),xs.length+ys.length≤q+(i+k)→i≤xs.length→k≤ys.length→MOK xs ys m1→Yg Tryz.prog 103 ([.int .i64 i,.int .i64 k]++[Zb ba,Zb bb,Zb bk,Zb bs]) I [(r,ZR Ya zb0 m1)] (fun v I' L'=>∃ A,U2 xs ys (i) (k) A∧v= .int .i64 A∧I'=I∧∃ m',MOK xs ys m'∧L'=[(r,ZR Ya zb0 m')])
 | 0,i,k,m1,hq,hi,hk,hm=>zaz hE hn hn2 i k hi hk m1 hm (fun m' h=>by omega) (fun m' h=>by omega) (fun m' h=>by omega)
 | q+1,i,k,m1,hq,hi,hk,hm=>zaz hE hn hn2 i k hi hk m1 hm (fun m' h hm'=>zdV hE hn hn2 q (i+1) (k+1) m' (by omega) (by omega) (by omega) hm') (fun m' h hm'=>zdV hE hn hn2 q (i+1) k m' (by omega) (by omega) (by omega) hm') (fun m' h hm'=>zdV hE hn hn2 q i (k+1) m' (by omega) (by omega) (by omega) hm')
end
end Go.Proofs.YtodakphagkommaaGreatDoor
