/- apparatusValue_holds, part C of the proof: what its theorems say holds without further conditions. -/
import Derived.Lib.SlicesCompact
import Derived.Lib.RowBridge
import Derived.Shelf.SlSortCmp.WholeK
import Derived.Shelf.Small.Bits
import Derived.Shelf.Small.Wraps
import Derived.Shelf.Strconv.Itoa0
import Derived.Shelf.Sort.Plain
import Derived.Shelf.Slices.Turned
import Derived.Shelf.Slices.Equal
import Derived.Ground.Names2Prog
import Derived.Shelf.Slices.Clone
import Derived.Shelf.Slices.CompactI
import Derived.Shelf.Slices.SearchI
import Derived.Shelf.Slices.Cells
import Derived.Shelf.Slices.In.SortNone
import Derived.Shelf.Slices.Empties
import Derived.Shelf.Slices.Empties2
import Derived.Ground.SlgnProg
import Derived.Shelf.SlicesE.Clone
import Derived.Ground.SlsfProg
import Derived.Shelf.SlSortCmp.InsertionK
import Derived.Shelf.SlSortCmp.SiftDownK
import Derived.Shelf.SlSortCmp.HeapSortK
import Derived.Shelf.SlSortCmp.MedianK
import Derived.Shelf.SlSortCmp.PivotK
import Derived.Shelf.SlSortCmp.ReverseRangeK
import Derived.Shelf.SlSortCmp.PartialInsertionK
import Derived.Shelf.SlSortCmp.PartitionEqualK
import Derived.Shelf.SlSortCmp.PartitionK
import Derived.Shelf.SlSortCmp.PdqK
import Derived.Shelf.SlSortCmp.NoneTotal
import Derived.Test.YtodakphagkommaaGreatDoorProg
import Derived.Test.YtodakphagkommaaGreatDoorAVB
namespace Go.Kn
section
open Go
section
variable {g:World} {I I' H:Qu} {loc loc' L K A B:Loc} {w w':World}
theorem St.permL (h:St g I H loc w)(hp:loc'.Perm loc):St g I H loc' w:=h.perm (fun _p=>hp.mem_iff) ((hp.map (·.1)).nodup_iff.2 h.nodup)
end
section
variable {α:Type} {C:Cx} {Q:Exit→Act→World→Prop} {E E':Env} {I I':Qu} {loc loc' L Z R:Loc}
variable {Jc:List α→Qu→Qu→Loc→Prop} {Jx:Code→List α→Qu→Qu→Loc→Prop} {pre:List α}
end
section
variable {α:Type} {P:Program} {N:Nat} {g:World} {p:Nat} {assign body:Code} {f:FuncId} {cap:List Value} {rel:Value→α→Qu→Prop} {xs:List α} {E:Env} {I H:Qu} {L B:Loc}
end
section
variable {α:Type} {P:Program} {N:Nat} {g:World} {H:Qu} {Q:Exit→Act→World→Prop} {gop:Operand} {p:Nat} {assign body:Code} {f:FuncId} {cap:List Value} {rel:Value→α→Qu→Prop} {xs:List α} {E:Env} {I:Qu} {L:Loc}
end
/-! ### A loop whose rounds may leave marks and turn the frame -/
section
variable {P:Program} {r:Option Nat} {N:Nat} {g:World} {H:Qu} {Q:Exit→Act→World→Prop} {E E':Env} {I I':Qu} {loc loc' L R:Loc} {ms:List Nat}
end
end
end Go.Kn
namespace Go.Proofs.YtodakphagkommaaGreatDoor
section
open Go Go.Kn Go.Proofs
def YL (zs:List Int):List Int:=zs.mergeSort fun x y=>decide (x≤y)
end
section
open Go Go.Kn Go.Proofs
def zty (x y:Int):Int:=if x<y then -1 else if x>y then 1 else 0
structure HdP (I:Qu) where
 h:Hd
 v:List Int
 ok:Sl I 1 QQ h.a h.n h.c v
 len:v.length≤1000
instance (I : Qu) : Inhabited (HdP I) := ⟨⟨⟨none, 0, 0⟩, [], Sl.nil, by simp⟩⟩
end
section
open Go Go.Kn Go.Proofs
theorem zjE {n:Nat}{cl:List Int}(hc:Jg n cl=0){s:Int}(hs:s∈cl):Z8 s=false:=by
 have hle:=(ZV hc).2.2.2 s hs
 obtain ⟨a1,a2,a3⟩:=WM (Ud hc s hs) (Nat.le_refl 1)
 have a3:JL cl s (KG cl s 1)=true:=a3
 unfold JL at a3
 simp only [Bool.and_eq_true] at a3
 generalize KG cl s 1=a at a1 a2 a3
 cases h:Z8 s with
 | false=>rfl
 | true=>
  exfalso
  have k1:=a3.1.1.1
  rw [zry (by omega) (by omega)] at k1
  have ht:((List.range 64).all fun s=>(List.range 64).all fun a=>a==0|| !(Z8 (s:Int))|| !(JN a s)||(a==s))=true:=by kernel_rfl
  have h0:=List.all_eq_true.1 ht s.toNat (List.mem_range.2 (by omega))
  have h0:=List.all_eq_true.1 h0 a.toNat (List.mem_range.2 (by omega))
  rw [show ((s.toNat:Nat):Int)=s by omega,h,k1,show (a.toNat==0)=false by simp;omega] at h0
  have:a.toNat=s.toNat:=by simpa using h0
  omega
theorem zg6 {m:Int}{cl:List Int}{s:Int}:iA m cl s=zbf m cl s∧iB m cl s=za0 m cl s:=by
 by_cases h:YX m cl s=0
 ·
  obtain ⟨e1,e2⟩:=zuj h
  obtain ⟨e3,e4⟩:=zij h
  have hc:Jg m cl=0:=by
   unfold YX at h
   by_cases e:Jg m cl=0
   ·
    exact e
   ·
    rw [if_pos e] at h;exact absurd h e
  have hin:s∈cl:=by
   unfold YX at h
   rw [if_neg (fun e=>e hc)] at h
   cases e:cl.any (fun c=>c==s) with
   | true=>simpa using e
   | false=>rw [e] at h;simp at h
  obtain ⟨n,rfl⟩:∃ n:Nat,m=n:=⟨m.toNat,by have:=ZV hc;omega⟩
  obtain ⟨g1,g2,_⟩:=zgX hc hin (zjE hc hin)
  rw [e1,e2,e3,e4,g1,g2]
  exact ⟨rfl,rfl⟩
 ·
  obtain ⟨e1,e2⟩:=zlh h
  obtain ⟨e3,e4⟩:=zha h
  rw [e1,e2,e3,e4]
  exact ⟨rfl,rfl⟩
end
section
open Go Go.Kn Go.Proofs
theorem zey:((List.range 64).all fun s=> !Z8 (s:Int)||(2^KS (s:Int)==s))=true:=by kernel_rfl
theorem zim {s:Int}(hs:1≤s∧s≤63)(h:Z8 s=true):2^KS s=s.toNat:=by
 have h0:=List.all_eq_true.1 zey s.toNat (List.mem_range.2 (by omega))
 rw [show ((s.toNat:Nat):Int)=s by omega,h] at h0
 simpa using h0
section
variable {n:Nat} {cl:List Int} (hc:Jg n cl=0)
include hc
end
def uF (rows:List (List Int))(l:Nat)(w:Nat):Int:=(rows.getD w []).getD l 0
end
section
open Go Go.Kn Go.Proofs
theorem XM {α β:Type}{f:α→β}{xs:List α}{i:Nat}{x:α}(h:xs[i]? =some x):(xs.take (i+1)).map f=(xs.take i).map f++[f x]:=by
 rw [List.take_add_one,h,List.map_append];rfl
theorem Jh {I:Qu}{b t k:Nat}{nm:List Int}{x:Int}{l:Go.Kn.Loc}(h:nm[k]? =some x):QT I ((b,.cells (Zi nm) t (0,0))::l) b (k*1) (.int .i64 x):=by
 refine .here ?_
 rw [Vq]
 unfold Zi
 rw [JG,Nat.mul_one]
 simp [h]
def VX (hs:List Hd):Array Value:=(hs.flatMap XI).toArray
theorem zap (hs:List Hd):hs.flatMap XI=hs.map fun h=>Value.slice h.a h.n h.c:=by
 induction hs with
 | nil=>rfl
 | cons b hs ih=>rw [List.flatMap_cons,ih];rfl
theorem zg4 {hs:List Hd}{m:Nat}{a:Option Addr}{n c:Nat}:(VX hs).setIfInBounds (m*1) (.slice a n c)=VX (hs.set m ⟨a,n,c⟩):=by
 unfold VX
 rw [zap,zap,Nat.mul_one];simp
theorem zz4 {hs:List Hd}{m:Nat}(h:m<hs.length):Nat.blt (m*1) (VX hs).size=true:=by
 unfold VX
 rw [zap,Nat.mul_one]
 simpa [Nat.blt_eq] using h
theorem zg2 (n:Nat):(List.replicate n (Value.slice none 0 0)).toArray=VX (List.replicate n ⟨none,0,0⟩):=by
 unfold VX;rw [zap];simp
end
section
open Go Go.Kn Go.Proofs
section
variable {S:List Int} {u:Nat→Int} {n:Nat} {cl:List Int}
end
theorem zec:((List.range 6).all fun v=>(List.range 6).all fun w=>v==w|| !(2^v==2^w))=true:=by kernel_rfl
theorem zs1 {v w:Nat}(hv:v<6)(hw:w<6)(h:2^v=2^w):v=w:=by
 have h0:=List.all_eq_true.1 zec v (List.mem_range.2 hv)
 have h0:=List.all_eq_true.1 h0 w (List.mem_range.2 hw)
 rw [h] at h0
 simpa using h0
end
section
open Go Go.Kn Go.Proofs
def stL (rows:List (List Int))(l k:Nat):List Int:=0::(((List.range k).map fun w=>uF rows l w).filter fun x=>x != 8589934592)
theorem ztL {rows:List (List Int)}{l k:Nat}(h:uF rows l k≠8589934592):stL rows l (k+1)=stL rows l k++[uF rows l k]:=by
 unfold stL;rw [List.range_succ,List.map_append,List.filter_append];simp [h]
theorem zzb {rows:List (List Int)}{l k:Nat}(h:uF rows l k=8589934592):stL rows l (k+1)=stL rows l k:=by
 unfold stL;rw [List.range_succ,List.map_append,List.filter_append];simp [h]
theorem zxa {rows:List (List Int)}{l:Nat}{y:Int}:y∈stL rows l rows.length↔y∈Za rows l:=by
 unfold stL
 rw [zbh,List.mem_cons,List.mem_filter,List.mem_map,bne_iff_ne]
 constructor
 ·
  rintro (h | ⟨⟨w,hw,rfl⟩,h⟩)
  ·
   exact .inl h
  ·
   have hw:=List.mem_range.1 hw
   refine .inr ⟨⟨rows.getD w [],?_,rfl⟩,h⟩
   unfold List.getD;rw [List.getElem?_eq_getElem hw];exact List.getElem_mem hw
 ·
  rintro (h | ⟨⟨r,hr,rfl⟩,h⟩)
  ·
   exact .inl h
  ·
   obtain ⟨w,hw,rfl⟩:=List.getElem_of_mem hr
   refine .inr ⟨⟨w,List.mem_range.2 hw,?_⟩,h⟩
   unfold uF
   rw [QU (List.getElem?_eq_getElem hw)]
theorem zsZ:((List.range 6).all fun w=>IntKind.i64.wrap (1*2^(min ((w:Nat):Int).toNat IntKind.i64.bits))==((2^w:Nat):Int))=true:=by kernel_rfl
theorem zuk {w:Nat}(h:w<6):IntKind.i64.wrap (1*2^(min ((w:Nat):Int).toNat IntKind.i64.bits))=((2^w:Nat):Int):=eq_of_beq (List.all_eq_true.1 zsZ w (List.mem_range.2 h))
end
section
open Go Go.Kn Go.Proofs
theorem zpZ:Fun Tryz.prog 150:=.of Tryz.func150 (by kernel_rfl) (by kernel_rfl)
theorem zso:Fun Tryz.prog 152:=.of Tryz.func152 (by kernel_rfl) (by kernel_rfl)
theorem zs9 {I:Qu}{av:Option Addr}{n c:Nat}{xs:List Int}(hS:Sl I 1 QQ av n c xs){bv:Option Addr}{n2 c2:Nat}{rows:List (List Int)}(hV:SlN I bv n2 c2 rows)(hn2:n2≤100000)(hDb:VT I):Zy Tryz.prog 92 [.slice bv n2 c2,.slice av n c] I (.tuple #[.int .i64 (zeo rows xs),.int .i64 (YO rows xs)]):=by
 intro g H w hw
 refine qe Tryz.func92 Tryz.ntmps92 hw ?_
 have hlV:=hV.len
 subst hlV
 refine zR (zA ?_)
 refine zA (zN (Ql (zR ?_)))
 refine zM ?_
 refine qc (vs:=[_]) rfl zpZ (zqb hV hn2) ?_
 refine zA ?_
 refine zN (zR ?_)
 refine zM ?_
 refine zC (zN ?_)
 refine zI ?_ ?_<;>intro hc9
 ·
  have hr0:V5 rows≠0:=by simpa using hc9
  obtain ⟨e1,e2⟩:=zfW (cl:=xs) hr0
  refine zR (zM ?_)
  refine zA ?_
  refine zA (zN (Qt (Qc ?_)))
  first
  | exact ZA rfl rfl rfl (fun w hw=>⟨by rw [e1,e2],hw.drop⟩)
 have hr0:V5 rows=0:=by simpa using hc9
 refine Qn (Qa (Ql (zR (zM ?_))))
 refine zQ Zp ?_
 refine zM ?_
 refine qc (vs:=[_,_]) rfl zh2 (zks hS _) ?_
 refine zA ?_
 refine zN (zR ?_)
 refine zM ?_
 refine zC (zN ?_)
 refine zI ?_ ?_<;>intro hc16
 ·
  have hc0:Jg rows.length xs≠0:=by simpa using hc16
  obtain ⟨e1,e2⟩:=zxq hr0 hc0
  refine zR (zM ?_)
  refine zA ?_
  refine zA (zN (Qt (Qc ?_)))
  first
  | exact ZA rfl rfl rfl (fun w hw=>⟨by rw [e1,e2],hw.drop⟩)
 have hc0:Jg rows.length xs=0:=by simpa using hc16
 obtain ⟨e1,e2⟩:=zwQ hr0 hc0
 have hn:n≤100000:=by have h1:=(ZV hc0).2.2.1;have h2:=hS.len;omega
 refine Qn (Qa (zR (zM ?_)))
 refine zM ?_
 refine qc (vs:=[_,_]) rfl zso (zu2 hS hn hV hn2 hDb hr0 hc0) ?_
 refine zA ?_
 refine zA (zN (Qt ?_))
 first
 | exact ZA rfl rfl rfl (fun w hw=>⟨by rw [e1,e2],hw.drop⟩)
end
section
open Go Go.Kn Go.Proofs
def Xy (u x:Int):Int:=if (u != 8589934592&&u != x)=true then 1073741824 else 0
def zhB (S cs:List Int)(x:Int)(k:Nat):Int:=(List.range k).foldl (fun b j=>Kq b (Vu x (S.getD j 0)+cs.getD j 0)) 1073741824
def zaM (S cs:List Int)(x:Int):Int:=zhB S cs x S.length
theorem zkS {S cs:List Int}{x y c:Int}{k:Nat}(hy:S[k]? =some y)(hc:cs[k]? =some c):zhB S cs x (k+1)=Kq (zhB S cs x k) (Vu x y+c):=by
 unfold zhB
 rw [List.range_succ,List.foldl_append,List.foldl_cons,List.foldl_nil,QU hy,QU hc]
theorem zcH {S cs:List Int}{x:Int}(h:∀ c∈cs,0≤c):∀ k,0≤zhB S cs x k∧zhB S cs x k≤1073741824
 | 0=>by unfold zhB;simp
 | k+1=>by
  have ih:=zcH (S:=S) (x:=x) h k
  have e:zhB S cs x (k+1)=Kq (zhB S cs x k) (Vu x (S.getD k 0)+cs.getD k 0):=by unfold zhB;rw [List.range_succ,List.foldl_append];rfl
  have h1:0≤cs.getD k 0:=by
   unfold List.getD
   cases hc:cs[k]? with
   | none=>exact Int.le_refl _
   | some c=>exact h c (List.mem_of_getElem? hc)
  have h2:=(UC x (S.getD k 0)).1
  rw [e]
  unfold Kq
  split<;>omega
def UN (S A B:List Int)(j:Nat)(x:Int):Int:=(if 0<j then zaM S A x else 0)+(if 1<j then zaM S B x else 0)
theorem zif {S A B:List Int}{j:Nat}{x:Int}(hj:j<2):UN S A B j x+zaM S (if j=0 then A else B) x=UN S A B (j+1) x:=by
 unfold UN
 rcases (show j=0∨j=1 by omega) with rfl | rfl<;>simp
theorem zjU {S A B:List Int}{x:Int}(hA:∀ c∈A,0≤c)(hB:∀ c∈B,0≤c)(j:Nat):0≤UN S A B j x∧UN S A B j x≤2147483648:=by
 have a:0≤zaM S A x∧zaM S A x≤1073741824:=zcH hA S.length
 have b:0≤zaM S B x∧zaM S B x≤1073741824:=zcH hB S.length
 unfold UN
 split<;>split<;>omega
def rcF (S:List Int)(u:Nat→Int)(cl:List Int):Nat→Int→List Int
 | 0,_=>[]
 | f+1,s=>if Z8 s=true then S.map (Xy (u (KS s))) else S.map (UN S (rcF S u cl f (Qy cl s)) (rcF S u cl f (s-Qy cl s)) 2)
theorem zxF {S:List Int}{u:Nat→Int}{cl:List Int}{f:Nat}{s:Int}(h:Z8 s=true):rcF S u cl (f+1) s=S.map (Xy (u (KS s))):=by simp only [rcF];rw [if_pos h]
theorem zxE {S:List Int}{u:Nat→Int}{cl:List Int}{f:Nat}{s:Int}(h:Z8 s=false):rcF S u cl (f+1) s=S.map (UN S (rcF S u cl f (Qy cl s)) (rcF S u cl f (s-Qy cl s)) 2):=by simp only [rcF];rw [if_neg (by rw [h];decide)]
theorem zjw {S:List Int}{u:Nat→Int}{cl:List Int}:∀ (f:Nat) (s:Int),∀ c∈rcF S u cl f s,0≤c∧c≤2147483648
 | 0,_,c,h=>by cases h
 | f+1,s,c,h=>by
  cases h1:Z8 s with
  | true=>
   rw [zxF h1] at h
   obtain ⟨x,_,rfl⟩:=List.mem_map.1 h
   unfold Xy;split<;>omega
  | false=>
   rw [zxE h1] at h
   obtain ⟨x,_,rfl⟩:=List.mem_map.1 h
   exact zjU (fun c hc=>(zjw f _ c hc).1) (fun c hc=>(zjw f _ c hc).1) 2
theorem zwt {S:List Int}{u:Nat→Int}{cl:List Int}{f:Nat}{s:Int}:(rcF S u cl (f+1) s).length=S.length:=by
 cases h1:Z8 s with
 | true=>rw [zxF h1,List.length_map]
 | false=>rw [zxE h1,List.length_map]
def WX (S:List Int)(g h:Int→Int)(i:Nat):List Int:=(S.take i).map g++(S.drop i).map h
theorem zle {S:List Int}{g h:Int→Int}:WX S g h 0=S.map h:=by unfold WX;simp
theorem zjd {S:List Int}{g h:Int→Int}{i:Nat}(hi:S.length≤i):WX S g h i=S.map g:=by unfold WX;rw [List.take_of_length_le hi,List.drop_eq_nil_of_le hi];simp
theorem ziQ {S:List Int}{g h:Int→Int}{i:Nat}:(WX S g h i).length=S.length:=by unfold WX;rw [List.length_append,List.length_map,List.length_map,←List.length_append,List.take_append_drop]
theorem zvu {S:List Int}{g h:Int→Int}{i:Nat}{x:Int}(hx:S[i]? =some x):(WX S g h i)[i]? =some (h x):=by
 have hi:=(List.getElem?_eq_some_iff.1 hx).1
 have hl:((S.take i).map g).length=i:=by rw [List.length_map,List.length_take];omega
 unfold WX
 rw [List.getElem?_append_right (by omega),hl,Nat.sub_self,ZO hx];rfl
theorem zj5 {S:List Int}{g h:Int→Int}{i:Nat}{x:Int}(hx:S[i]? =some x):(WX S g h i).set i (g x)=WX S g h (i+1):=by
 have hi:=(List.getElem?_eq_some_iff.1 hx).1
 have hl:((S.take i).map g).length=i:=by rw [List.length_map,List.length_take];omega
 unfold WX
 rw [List.set_append_right _ _ (by omega),hl,Nat.sub_self,ZO hx,List.map_cons,List.set_cons_zero,XM hx,List.append_assoc];rfl
theorem zlP {S:List Int}{g h:Int→Int}{i:Nat}{x:Int}(hx:S[i]? =some x)(e:g x=h x):WX S g h i=WX S g h (i+1):=by
 unfold WX
 rw [ZO hx,XM hx,List.append_assoc,List.map_cons,e];rfl
theorem zi3 {S:List Int}{g h:Int→Int}(e:∀ x,h x=0):List.replicate S.length (0:Int)=WX S g h 0:=by
 rw [zle]
 induction S with
 | nil=>rfl
 | cons x S ih=>rw [List.map_cons,e,List.length_cons,List.replicate_succ,ih]
theorem zue {s:Int}(hs:1≤s∧s≤63)(h:Z8 s=true):KS s<6:=by
 have e:=zim hs h
 by_cases h6:KS s<6
 ·
  exact h6
 ·
  have:2^6≤2^KS s:=Nat.pow_le_pow_right (by decide) (by omega)
  omega
theorem zpr {s:Int}{w:Nat}(hs:1≤s∧s≤63)(h:Z8 s=true)(hw:w≤KS s):(IntKind.i64.wrap (1*2^(min ((w:Nat):Int).toNat IntKind.i64.bits)) != s)=decide (w<KS s):=by
 have h6:=zue hs h
 have e:=zim hs h
 rw [zuk (by omega)]
 by_cases hl:w<KS s
 ·
  rw [decide_eq_true hl,bne_iff_ne]
  intro e2
  have:w=KS s:=zs1 (by omega) h6 (by omega)
  omega
 ·
  rw [decide_eq_false hl,bne_eq_false_iff_eq]
  have:w=KS s:=by omega
  rw [this];omega
structure RtE (I:Qu)(fid bst brow bloc bcla bse:Nat)(sv bv av:Option Addr)(ns cs n2 c2 n c:Nat)(St xs:List Int)(rows:List (List Int))(l:Nat):Prop where
 st:QT I [] bst 0 (.slice sv ns cs)
 row:QT I [] brow 0 (.slice bv n2 c2)
 loc:QT I [] bloc 0 (.int .i64 l)
 cla:QT I [] bcla 0 (.slice av n c)
 se:QT I [] bse 0 (.func (.func fid) #[] #[Zc bst,Zc brow,Zc bloc,Zc bcla,Zc bse])
 hT:Sl I 1 QQ sv ns cs St
 hS:Sl I 1 QQ av n c xs
 hV:SlN I bv n2 c2 rows
theorem RtE.mono {I I':Qu}{fid bst brow bloc bcla bse:Nat}{sv bv av:Option Addr}{ns cs n2 c2 n c:Nat}{St xs:List Int}{rows:List (List Int)}{l:Nat}(h:RtE I fid bst brow bloc bcla bse sv bv av ns cs n2 c2 n c St xs rows l)(hI:HLe I I'):RtE I' fid bst brow bloc bcla bse sv bv av ns cs n2 c2 n c St xs rows l:=
 ⟨h.st.mono hI,h.row.mono hI,h.loc.mono hI,h.cla.mono hI,h.se.mono hI,h.hT.mono hI,h.hS.mono hI,h.hV.mono hI⟩
end
section
open Go Go.Kn Go.Proofs
theorem zoT:Fun Tryz.prog 93:=.of Tryz.func93 (by kernel_rfl) (by kernel_rfl)
theorem zwU:Fun Tryz.prog 94:=.of Tryz.func94 (by kernel_rfl) (by kernel_rfl)
theorem zxv:Fun Tryz.prog 95:=.of Tryz.func95 (by kernel_rfl) (by kernel_rfl)
theorem ziA:ScT Tryz.prog 174:=.of (by kernel_rfl)
theorem zmx (I:Qu)(x y:Int):Zy Tryz.prog 95 [.int .i64 x,.int .i64 y] I (.int .i64 (Vu x y)):=by
 intro g H w hw
 refine qe Tryz.func95 Tryz.ntmps95 hw ?_
 refine zR (zA (zN (Ql (Qm (zR ?_)))))
 refine zM ?_
 refine zM ?_
 refine zC ?_
 refine zA (zN ?_)
 refine zI ?_ ?_<;>intro hc5
 ·
  refine zR (zA (zN (Qt (Qp (Qc ?_)))))
  first
  | exact zr rfl rfl (by unfold Vu;rw [if_pos (by simpa using hc5)])
 refine zR (zM ?_)
 refine zC ?_
 refine zA (zN ?_)
 refine zI ?_ ?_<;>intro hc9
 ·
  refine zR (zA (zN (Qt (Qp (Qc ?_)))))
  first
  | exact zr rfl rfl (by unfold Vu;rw [if_neg (by simpa using hc5),if_pos (by simpa using hc9)])
 refine zR (zM ?_)
 refine zC ?_
 refine zA (zN ?_)
 refine zI ?_ ?_<;>intro hc12
 ·
  refine zR (zA (zN (Qt (Qp (Qc ?_)))))
  first
  | exact zr rfl rfl (by unfold Vu;rw [if_neg (by simpa using hc5),if_neg (by simpa using hc9),if_pos (by simpa using hc12)])
 refine Qn (Qf (Qa (zR (zA (zN (Qt ?_))))))
 first
 | exact zr rfl rfl (by unfold Vu;rw [if_neg (by simpa using hc5),if_neg (by simpa using hc9),if_neg (by simpa using hc12)])
theorem zny {I:Qu}{av:Option Addr}{n c m:Nat}{xs:List Int}(hS:Sl I 1 QQ av n c xs)(hn:n≤100000)(hc:Jg m xs=0){s:Int}(hin:s∈xs):Zy Tryz.prog 94 [.int .i64 m,.slice av n c,.int .i64 s] I (.tuple #[.int .i64 (Qy xs s),.int .i64 (s-Qy xs s),.int .i64 0]):=by
 have h:=zrb hS hn (m:Int) s
 have e:YX (m:Int) xs s=0:=zcS hc (List.any_eq_true.2 ⟨s,hin,by simp⟩)
 obtain ⟨e1,e2⟩:=zg6 (m:=(m:Int)) (cl:=xs) (s:=s)
 rw [e1,e2,e] at h
 unfold zbf za0 at h
 rw [if_neg (by omega),if_neg (by omega)] at h
 exact h
theorem zmD {I:Qu}{bst brow bloc bcla bse:Nat}{sv bv av:Option Addr}{ns cs n2 c2 n c:Nat}{St xs:List Int}{rows:List (List Int)}{l:Nat}(hE:RtE I 93 bst brow bloc bcla bse sv bv av ns cs n2 c2 n c St xs rows l)(hn:n≤100000)(hn2:n2≤100000)(hns:ns≤1000)(hl:∀ r∈rows,l<r.length)(hc:Jg rows.length xs=0)(f:Nat)(s:Int)(hok:OkS rows.length xs s)(hf:1<s→1≤f)(ih:∀ (I':Qu),HLe I I'→∀ (s':Int),OkS rows.length xs s'→s'<s→Yf Tryz.prog 93 ([.int .i64 s']++[Zc bst,Zc brow,Zc bloc,Zc bcla,Zc bse]) I' [] (zbv 1 QQ (rcF St (uF rows l) xs f s'))):Yf Tryz.prog 93 [.int .i64 s,Zc bst,Zc brow,Zc bloc,Zc bcla,Zc bse] I [] (zbv 1 QQ (rcF St (uF rows l) xs (f+1) s)):=by
 intro g H w hw
 refine qe Tryz.func93 Tryz.ntmps93 hw ?_
 have hIc:=zAh I
 have hVl:=hE.hV.len
 subst hVl
 have hTl:=hE.hT.len
 subst hTl
 obtain ⟨hs,hV⟩:=hE.hV
 have hH:=hV.1
 have hal:=(ZV hc).1
 have hal6:=(ZV hc).2.1
 have hs63:=zhn hc hok
 refine zR (zA ?_)
 refine zN (zR ?_)
 refine zV (Qe rfl QJ (fun hg=>by exact hE.st.any)) ?_
 refine zQ Qw ?_
 refine Q5 YQ rfl rfl (by omega) (by decide) rfl rfl (fun b_26=>?_)
 refine zA (Qb ?_)
 have e0:((St.length:Nat):Int).toNat=St.length:=rfl
 rw [e0,Q3]
 refine Qa (Ql (zR (zM ?_)))
 refine zM ?_
 refine zB ?_
 refine zV (zay rfl rfl) ?_
 refine zC (zN ?_)
 refine zI ?_ ?_<;>intro hc31
 ·
  have hsing:Z8 s=true:=by unfold Z8;rw [decide_eq_true (show s>0 by omega),Bool.true_and,zwP hs63];exact hc31
  have hwn:=zwf (n:=rows.length) (by omega) hs63 hsing hok.2.1
  have hw6:=zue hs63 hsing
  refine zR (zA (zN (Ql (Qm ?_))))
  refine zU [(0,_),(1,_),(2,_),(3,_),(8,_)] (fun T L0 mz E I' loc'=>∃ (k:Nat),mz=(KS s)-k∧E=(9,.int .i64 k)::T∧I=I'∧[(b_26,.cells (Zi (List.replicate St.length 0)) 3 (0,0))]=loc'∧k≤(KS s)) ?_ (h:=⟨0,rfl,rfl,rfl,rfl,Nat.zero_le _⟩)
  rintro mz E I' loc' ⟨k,rfl,rfl,rfl,rfl,hk⟩
  refine Ql (zR (zM ?_))
  refine zV (zaa rfl rfl (fun hg=>by omega)) ?_
  refine zM ?_
  refine zC (zN ?_)
  refine zI ?_ ?_<;>intro hc35
  ·
   have hlt_k:k<KS s:=by rw [zpr hs63 hsing hk] at hc35;simpa using hc35
   refine Qn (Qa (Qm (Qg (zM ?_))))
   refine zB ?_
   refine zA (Qb (Qf ?_))
   exact zm (h:=⟨(KS s)-(k+1),by omega,k+1,rfl,rfl,rfl,rfl,by omega⟩)
  have hge_k:k=KS s:=by rw [zpr hs63 hsing hk] at hc35;simp at hc35;omega
  subst hge_k
  obtain ⟨x,v,hx,hv,hQ⟩:=hV.at hwn
  have hlv:=hl v (List.mem_of_getElem? hv)
  have hu:=Q4 (d:=0) rfl hlv
  have hvn:=hQ.len
  have hUF:uF rows l (KS s)=v.getD l 0:=by unfold uF;rw [QU hv]
  rw [zi3 (g:=(Xy (uF rows l (KS s)))) (h:=(fun _=>0)) (fun _=>rfl)]
  refine QI (Qh (Qh (Qk (Qa (Ql (zR ?_))))))
  refine zV (Qe rfl QJ (fun hg=>by exact hE.st.any)) ?_
  refine zQ Qw ?_
  refine zM (zN (Qm ?_))
  refine zU [(2,_),(3,_),(8,_),(9,_),(38,_),(39,_)] (fun T L0 mz E I' loc'=>∃ (i:Nat),mz=St.length-i∧E=(40,.int .i64 i)::T∧I=I'∧[(b_26,.cells (Zi (WX St (Xy (uF rows l (KS s))) (fun _=>0) i)) 3 (0,0))]=loc'∧i≤St.length) ?_ (h:=⟨0,rfl,rfl,rfl,rfl,Nat.zero_le _⟩)
  rintro mz E I' loc' ⟨i,rfl,rfl,rfl,rfl,hi⟩
  refine zR (zC (zN (Ql ?_)))
  refine zI ?_ ?_<;>intro hc41
  ·
   have hlt_i:i<St.length:=by have h:=hc41;simp at h;omega
   obtain ⟨y,hst⟩:=hE.hT.at hlt_i
   refine Qn (Qa (Ql (Qm (zR (zM ?_)))))
   refine zV (QE rfl rfl Qw hE.hT (fun hg=>by omega)) ?_
   refine zV (Qe rfl Qr (fun hg=>by exact zAa (hE.hT) hst rfl)) ?_
   refine zA ?_
   refine zA (zN (Ql ?_))
   refine YF mixed (by kernel_rfl) ?_
   refine zq (Qe rfl KH (fun hg=>by exact hE.row.any)) ?_
   refine zq (Qi rfl) ?_
   refine zq (zX Zp hH) ?_
   refine zq (Qe rfl QJ (fun hg=>by exact zAa hH hx rfl)) ?_
   refine zq (Qe rfl Qr (fun hg=>by exact hE.loc.any)) ?_
   refine zq (zX Qw hQ) ?_
   refine zq (Qe rfl Qr (fun hg=>by exact zAa hQ hu rfl)) ?_
   refine zq (ZF rfl) ?_
   refine YK ?_
   refine Qa (zR (zM ?_))
   refine zC ?_
   refine zM ?_
   refine QH 2 rfl rfl rfl ?_
   refine zK (Qi rfl) ?_
   refine zK (Qi rfl) ?_
   refine zK (QG rfl rfl rfl) ?_
   refine QP rfl rfl rfl rfl rfl ?_
   refine zN ?_
   refine zI ?_ ?_<;>intro hc58
   ·
    have hgy:(Xy (uF rows l (KS s))) y=1073741824:=by unfold Xy;rw [hUF,if_pos (by simpa using hc58)]
    refine Qg (zM ?_)
    refine zM ?_
    refine zV (Q6 rfl rfl Qw (fun hg=>by omega)) ?_
    refine ZI rfl rfl Z2 rfl rfl (by repeat (first | exact Upd.here | apply Upd.there | apply QK)) (ztJ (by rw [ziQ];omega)) ?_
    refine Qb ?_
    rw [VN,show (WX St (Xy (uF rows l (KS s))) (fun _=>0) i).set i 1073741824=WX St (Xy (uF rows l (KS s))) (fun _=>0) (i+1) from by rw [←zj5 hst,hgy]]
    refine Qf (Qa (Qg (zB ?_)))
    refine zM (Qb ?_)
    exact zm (h:=⟨St.length-(i+1),by omega,i+1,rfl,rfl,rfl,rfl,by omega⟩)
   have hgy:(Xy (uF rows l (KS s))) y=0:=by unfold Xy;rw [hUF,if_neg (by rw [hc58];decide)]
   rw [zlP hst hgy]
   refine Qn (Qf (Qa (Qg (zB ?_))))
   refine zM (Qb ?_)
   exact zm (h:=⟨St.length-(i+1),by omega,i+1,rfl,rfl,rfl,rfl,by omega⟩)
  have hge_i:St.length≤i:=by have h:=hc41;simp at h;omega
  rw [zjd hge_i]
  refine QI (Qh (Qh (Qk (Qa (zR (zM ?_))))))
  refine zA (zN (Qt (Qc ?_)))
  first
  | exact Zx rfl rfl (fun w hw=>by obtain ⟨I9,h91,h92,h93⟩:=OwnS.res (zfO (by rw [List.length_map]) (by omega)) Qv (by decide) hw;rw [←zxF (f:=f) (cl:=xs) hsing] at h93;exact ⟨_,I9,[],rfl,hIc.trans h91,h92,h93⟩)
 have hns0:Z8 s=false:=by unfold Z8;rw [decide_eq_true (show s>0 by omega),Bool.true_and,zwP hs63];exact hc31
 obtain ⟨hin,ok1,ok2,hp1,hp2,_,_⟩:=JA hc hok hns0
 obtain ⟨f0,rfl⟩:∃ f0,f=f0+1:=⟨f-1,by have:=hf (by omega);omega⟩
 rw [zi3 (g:=(UN St (rcF St (uF rows l) xs (f0+1) (Qy xs s)) (rcF St (uF rows l) xs (f0+1) (s-Qy xs s)) 0)) (h:=(UN St (rcF St (uF rows l) xs (f0+1) (Qy xs s)) (rcF St (uF rows l) xs (f0+1) (s-Qy xs s)) 0)) (fun _=>by unfold UN;simp)]
 refine Qn (Qa (zR ?_))
 refine zV (Qe rfl KH (fun hg=>by exact hE.row.any)) ?_
 refine zQ Zp ?_
 refine zV (Qe rfl QJ (fun hg=>by exact hE.cla.any)) ?_
 refine zM ?_
 refine qc (vs:=[_,_,_]) rfl zwU (zny hE.hS hn hc hin) ?_
 refine zM ?_
 refine zE ?_
 refine zE ?_
 refine zE ?_
 refine zA ?_
 refine zA ?_
 refine zA (zN (Ql (zR ?_)))
 refine zM ?_
 refine zM ?_
 refine Qq (ps:=[(0,_),(1,_)]) (m:=[QQ (Qy xs s),QQ (s-Qy xs s)]) Zh rfl (.cons rfl (.cons rfl (.nil))) rfl (by simp [Qv]) (by decide) (by decide) rfl rfl (fun b_75=>?_)
 refine ZW (b:=b_75) (by repeat (first | exact Q8.here | apply Q8.there)) (fun I3 hI3 hb3=>?_)
 have hE:=hE.mono hI3;have hIc:=hIc.trans hI3
 have hAB:Sl I3 1 QQ (some ⟨b_75,0,none⟩) 2 2 ([Qy xs s,s-Qy xs s]:List Int):=Sl.lit ([Qy xs s,s-Qy xs s]:List Int) rfl Qv (show _=some (Obj.cells (([Qy xs s,s-Qy xs s]:List Int).flatMap QQ).toArray 3 (0,0)) from hb3)
 refine zQ Qw ?_
 refine zM (zN (Qm ?_))
 refine zU [(1,_),(5,_),(8,_),(75,_),(76,_)] (fun T L0 mz E I' loc'=>∃ (j:Nat),mz=2-j∧E=(77,.int .i64 j)::T∧HLe I3 I'∧[(b_26,.cells (Zi (WX St (UN St (rcF St (uF rows l) xs (f0+1) (Qy xs s)) (rcF St (uF rows l) xs (f0+1) (s-Qy xs s)) j) (UN St (rcF St (uF rows l) xs (f0+1) (Qy xs s)) (rcF St (uF rows l) xs (f0+1) (s-Qy xs s)) j) 0)) 3 (0,0))]=loc'∧j≤2) ?_ (h:=⟨0,rfl,rfl,zAh _,rfl,Nat.zero_le _⟩)
 rintro mz E J4 loc' ⟨j,rfl,rfl,hJ,rfl,hj⟩
 have hE:=hE.mono hJ;have hAB:=hAB.mono hJ;have hIc:=hIc.trans hJ
 have hB4:=hJ
 refine zR (zC (zN (Ql ?_)))
 refine zI ?_ ?_<;>intro hc78
 ·
  have hlt_j:j<2:=by have h:=hc78;simp at h;omega
  obtain ⟨q,hpj,hpe,okp,hpl⟩:∃ q,([Qy xs s,s-Qy xs s]:List Int)[j]? =some q∧(rcF St (uF rows l) xs (f0+1) (q))=(if j=0 then (rcF St (uF rows l) xs (f0+1) (Qy xs s)) else (rcF St (uF rows l) xs (f0+1) (s-Qy xs s)))∧OkS rows.length xs q∧q<s:=by
   rcases (show j=0∨j=1 by omega) with rfl | rfl
   ·
    exact ⟨_,rfl,rfl,ok1,by omega⟩
   exact ⟨_,rfl,rfl,ok2,by omega⟩
  have hcl:(if j=0 then (rcF St (uF rows l) xs (f0+1) (Qy xs s)) else (rcF St (uF rows l) xs (f0+1) (s-Qy xs s))).length=St.length:=by split<;>exact zwt
  have hci:∀ c∈(if j=0 then (rcF St (uF rows l) xs (f0+1) (Qy xs s)) else (rcF St (uF rows l) xs (f0+1) (s-Qy xs s))),0≤c∧c≤2147483648:=by split<;>exact zjw _ _
  rw [show WX St (UN St (rcF St (uF rows l) xs (f0+1) (Qy xs s)) (rcF St (uF rows l) xs (f0+1) (s-Qy xs s)) j) (UN St (rcF St (uF rows l) xs (f0+1) (Qy xs s)) (rcF St (uF rows l) xs (f0+1) (s-Qy xs s)) j) 0=WX St (UN St (rcF St (uF rows l) xs (f0+1) (Qy xs s)) (rcF St (uF rows l) xs (f0+1) (s-Qy xs s)) (j+1)) (UN St (rcF St (uF rows l) xs (f0+1) (Qy xs s)) (rcF St (uF rows l) xs (f0+1) (s-Qy xs s)) j) 0 by rw [zle,zle]]
  refine Qn (Qa (Ql (Qm (zR ?_))))
  refine zV (zX Qw hAB) ?_
  refine zV (Qe rfl Qr (fun hg=>by exact zAa hAB hpj rfl)) ?_
  refine zA ?_
  refine zN (zR ?_)
  refine zV (Qe rfl ziA (fun hg=>by exact hE.se.any)) ?_
  refine zM ?_
  refine Qz (cap:=[Zc bst,Zc brow,Zc bloc,Zc bcla,Zc bse]) (vs:=[_]) rfl rfl zoT (by exact .nil) (ih _ hIc _ okp hpl) rfl rfl ?_
  rintro vv5 I5 L5 hI5 ⟨rfl,aC,cC,rfl,hBl⟩
  have hE:=hE.mono hI5;have hB4:=hB4.trans hI5
  rw [hpe] at hBl ⊢
  refine zA ?_
  refine zN (zR ?_)
  refine zV (Qe rfl QJ (fun hg=>by exact hE.st.any)) ?_
  refine zQ Qw ?_
  refine zM (zN (Qm ?_))
  refine zU [(1,_),(5,_),(8,_),(18,_),(75,_),(76,_),(77,_),(84,_),(85,_)] (fun T L0 mz E I' loc'=>∃ (i:Nat),mz=St.length-i∧E=(86,.int .i64 i)::T∧I5=I'∧[(b_26,.cells (Zi (WX St (UN St (rcF St (uF rows l) xs (f0+1) (Qy xs s)) (rcF St (uF rows l) xs (f0+1) (s-Qy xs s)) (j+1)) (UN St (rcF St (uF rows l) xs (f0+1) (Qy xs s)) (rcF St (uF rows l) xs (f0+1) (s-Qy xs s)) j) i)) 3 (0,0))]=loc'∧i≤St.length) ?_ (h:=⟨0,rfl,rfl,rfl,rfl,Nat.zero_le _⟩)
  rintro mz E I' loc' ⟨i,rfl,rfl,rfl,rfl,hi⟩
  refine zR (zC (zN (Ql ?_)))
  refine zI ?_ ?_<;>intro hc87
  ·
   have hlt_i:i<St.length:=by have h:=hc87;simp at h;omega
   obtain ⟨y,hst⟩:=hE.hT.at hlt_i
   have hti:=zjU (S:=St) (A:=(rcF St (uF rows l) xs (f0+1) (Qy xs s))) (B:=(rcF St (uF rows l) xs (f0+1) (s-Qy xs s))) (x:=y) (fun c h=>(zjw _ _ c h).1) (fun c h=>(zjw _ _ c h).1) j
   refine Qn (Qa (Ql (Qm (zR (zM ?_)))))
   refine zV (QE rfl rfl Qw hE.hT (fun hg=>by omega)) ?_
   refine zV (Qe rfl Qr (fun hg=>by exact zAa (hE.hT) hst rfl)) ?_
   refine zA ?_
   refine zA ?_
   refine zN (zR ?_)
   refine zA (zN (Ql (zR ?_)))
   refine zV (Qe rfl QJ (fun hg=>by exact hE.st.any)) ?_
   refine zQ Qw ?_
   refine zM (zN (Qm ?_))
   refine zU [(1,_),(5,_),(8,_),(18,_),(19,_),(20,_),(75,_),(76,_),(77,_),(84,_),(85,_),(86,_),(91,_),(92,_)] (fun T L0 mz E I' loc'=>∃ (k:Nat),mz=St.length-k∧E=(21,.int .i64 (zhB St (if j=0 then (rcF St (uF rows l) xs (f0+1) (Qy xs s)) else (rcF St (uF rows l) xs (f0+1) (s-Qy xs s))) y k))::(93,.int .i64 k)::T∧I5=I'∧[(b_26,.cells (Zi (WX St (UN St (rcF St (uF rows l) xs (f0+1) (Qy xs s)) (rcF St (uF rows l) xs (f0+1) (s-Qy xs s)) (j+1)) (UN St (rcF St (uF rows l) xs (f0+1) (Qy xs s)) (rcF St (uF rows l) xs (f0+1) (s-Qy xs s)) j) i)) 3 (0,0))]=loc'∧k≤St.length) ?_ (h:=⟨0,rfl,rfl,rfl,rfl,Nat.zero_le _⟩)
   rintro mz E I' loc' ⟨k,rfl,rfl,rfl,rfl,hk⟩
   refine zR (zC (zN (Ql ?_)))
   refine zI ?_ ?_<;>intro hc94
   ·
    have hlt_k:k<St.length:=by have h:=hc94;simp at h;omega
    obtain ⟨yk,hsk⟩:=hE.hT.at hlt_k
    obtain ⟨ck,hck⟩:=hBl.at (show k<_ by omega)
    have hcki:=hci ck (List.mem_of_getElem? hck)
    have hsti:=UC y yk
    refine Qn (Qa (Ql (Qm (zR (zM ?_)))))
    refine zV (QE rfl rfl Qw hE.hT (fun hg=>by omega)) ?_
    refine zV (Qe rfl Qr (fun hg=>by exact zAa (hE.hT) hsk rfl)) ?_
    refine zA ?_
    refine zA (zN ?_)
    refine YF mixed (by kernel_rfl) ?_
    refine zq (Qi rfl) ?_
    refine zq (Qi rfl) ?_
    refine zq (Qi rfl) ?_
    refine JC (cap:=[]) (vs:=[_,_]) rfl rfl zxv (zmx _ _ _) rfl rfl ?_
    refine zq (Qi rfl) ?_
    refine zq (Qi rfl) ?_
    refine zq (zX Qw hBl) ?_
    refine zq (Qe rfl Qr (fun hg=>by exact zAa hBl hck rfl)) ?_
    refine zq (ZR rfl rfl rfl (fun hg=>by omega)) ?_
    refine zq (znZ rfl rfl) ?_
    refine zq (ZF rfl) ?_
    refine YK ?_
    rw [←zkS hsk hck]
    refine Qf (Qa (Qg (zB ?_)))
    refine zM (Qb ?_)
    exact zm (h:=⟨St.length-(k+1),by omega,k+1,rfl,rfl,rfl,rfl,by omega⟩)
   have hge_k:St.length≤k:=by have h:=hc94;simp at h;omega
   rw [show k=St.length by omega]
   have hmni:=zcH (S:=St) (x:=y) (fun c h=>(hci c h).1) St.length
   refine QI (Qh (Qh (Qk (Qa (Qg (zM ?_))))))
   refine zM ?_
   refine zV (Q6 rfl rfl Qw (fun hg=>by omega)) ?_
   refine zV (Qe rfl Qr (fun hg=>by exact Jh (zvu hst))) ?_
   refine zM ?_
   refine zB ?_
   refine zV (Q6 rfl rfl Qw (fun hg=>by omega)) ?_
   refine ZI rfl rfl Z2 rfl rfl (by repeat (first | exact Upd.here | apply Upd.there | apply QK)) (ztJ (by rw [ziQ];omega)) ?_
   refine Qb ?_
   rw [VN,show (WX St (UN St (rcF St (uF rows l) xs (f0+1) (Qy xs s)) (rcF St (uF rows l) xs (f0+1) (s-Qy xs s)) (j+1)) (UN St (rcF St (uF rows l) xs (f0+1) (Qy xs s)) (rcF St (uF rows l) xs (f0+1) (s-Qy xs s)) j) i).set i ((UN St (rcF St (uF rows l) xs (f0+1) (Qy xs s)) (rcF St (uF rows l) xs (f0+1) (s-Qy xs s)) j) y+zhB St (if j=0 then (rcF St (uF rows l) xs (f0+1) (Qy xs s)) else (rcF St (uF rows l) xs (f0+1) (s-Qy xs s))) y St.length)=WX St (UN St (rcF St (uF rows l) xs (f0+1) (Qy xs s)) (rcF St (uF rows l) xs (f0+1) (s-Qy xs s)) (j+1)) (UN St (rcF St (uF rows l) xs (f0+1) (Qy xs s)) (rcF St (uF rows l) xs (f0+1) (s-Qy xs s)) j) (i+1) from by rw [←zj5 hst,←zif hlt_j];rfl]
   refine Qf (Qa (Qg (zB ?_)))
   refine zM (Qb ?_)
   exact zm (h:=⟨St.length-(i+1),by omega,i+1,rfl,rfl,rfl,rfl,by omega⟩)
  have hge_i:St.length≤i:=by have h:=hc87;simp at h;omega
  rw [show WX St (UN St (rcF St (uF rows l) xs (f0+1) (Qy xs s)) (rcF St (uF rows l) xs (f0+1) (s-Qy xs s)) (j+1)) (UN St (rcF St (uF rows l) xs (f0+1) (Qy xs s)) (rcF St (uF rows l) xs (f0+1) (s-Qy xs s)) j) i=WX St (UN St (rcF St (uF rows l) xs (f0+1) (Qy xs s)) (rcF St (uF rows l) xs (f0+1) (s-Qy xs s)) (j+1)) (UN St (rcF St (uF rows l) xs (f0+1) (Qy xs s)) (rcF St (uF rows l) xs (f0+1) (s-Qy xs s)) (j+1)) 0 by rw [zjd hge_i,zle]]
  refine QI (Qh (Qh (Qk (Qf (Qa (Qg (zB ?_)))))))
  refine zM (Qb ?_)
  exact zm (h:=⟨2-(j+1),by omega,j+1,rfl,rfl,hB4,rfl,by omega⟩)
 have hge_j:2≤j:=by have h:=hc78;simp at h;omega
 rw [show j=2 by omega,zle]
 refine QI (Qh (Qh (Qk (Qa (zR (zM ?_))))))
 refine zA (zN (Qt ?_))
 first
 | exact Zx rfl rfl (fun w hw=>by obtain ⟨I9,h91,h92,h93⟩:=OwnS.res (zfO (by rw [List.length_map]) (by omega)) Qv (by decide) hw;rw [←zxE (f:=f0+1) hns0] at h93;exact ⟨_,I9,[],rfl,hIc.trans h91,h92,h93⟩)
end
section
open Go Go.Kn
theorem zgH (d:Array Int)(hs:∀ j,0<j→j<d.size→d[j-1]! ≤d[j]!):∀ m,m≤d.size→(Lib.compactUpTo d m).Pairwise (· < ·)∧(∀ x∈Lib.compactUpTo d m,0<m∧x≤d[m-1]!)∧∀ x,x∈Lib.compactUpTo d m↔ ∃ j,j<m∧d[j]! =x
 | 0,_=>⟨.nil,(fun x h=>by cases h),fun x=>⟨(fun h=>by cases h),fun ⟨j,h,_⟩=>by omega⟩⟩
 | m+1,hm=>by
  obtain ⟨h1,h2,h3⟩:=zgH d hs m (by omega)
  rw [Lib.compactUpTo_succ]
  by_cases hk:Lib.keeps d m=true
  ·
   rw [if_pos hk]
   have hlt:∀ x∈Lib.compactUpTo d m,x<d[m]! :=fun x hx=>by
    obtain ⟨a,b⟩:=h2 x hx
    have h4:=hs m a (by omega)
    unfold Lib.keeps at hk
    have h5:=of_decide_eq_true hk
    omega
   refine ⟨?_,?_,?_⟩
   ·
    rw [List.pairwise_append]
    exact ⟨h1,List.pairwise_singleton ..,fun y hy z hz=>by rw [List.mem_singleton] at hz;rw [hz];exact hlt y hy⟩
   ·
    intro x hx
    refine ⟨by omega,?_⟩
    rw [show m+1-1=m from by omega]
    rcases List.mem_append.1 hx with hx | hx
    ·
     have:=hlt x hx;omega
    ·
     rw [List.mem_singleton] at hx;rw [hx];exact Int.le_refl _
   ·
    intro x
    rw [List.mem_append,h3,List.mem_singleton]
    constructor
    ·
     rintro (⟨j,a,b⟩ | e)
     ·
      exact ⟨j,by omega,b⟩
     ·
      exact ⟨m,by omega,e.symm⟩
    ·
     rintro ⟨j,a,b⟩
     by_cases e:j=m
     ·
      subst e;exact .inr b.symm
     ·
      exact .inl ⟨j,by omega,b⟩
  ·
   rw [if_neg hk,List.append_nil]
   unfold Lib.keeps at hk
   have h5:¬(m=0∨d[m]! ≠d[m-1]!):=fun h=>hk (decide_eq_true h)
   have h6:0<m∧d[m]! =d[m-1]! :=by omega
   refine ⟨h1,?_,?_⟩
   ·
    intro x hx
    have:=h2 x hx
    rw [show m+1-1=m from by omega]
    omega
   ·
    intro x
    rw [h3]
    constructor
    ·
     rintro ⟨j,a,b⟩;exact ⟨j,by omega,b⟩
    ·
     rintro ⟨j,a,b⟩
     by_cases e:j=m
     ·
      subst e;exact ⟨j-1,by omega,by rw [←h6.2];exact b⟩
     ·
      exact ⟨j,by omega,b⟩
theorem KY (zs:List Int):(Lib.compact (YL zs)).Pairwise (· < ·)∧∀ x,x∈Lib.compact (YL zs)↔x∈zs:=by
 have hp:(YL zs).Pairwise (fun a b=>decide (a≤b)=true):=List.pairwise_mergeSort (by intro a b c;simp;omega) (by intro a b;simp;omega) zs
 have hget:∀ j,j<(YL zs).length→(YL zs).toArray[j]! =(YL zs)[j]! :=fun j hj=>by simp
 have hs:∀ j,0<j→j<(YL zs).toArray.size→(YL zs).toArray[j-1]! ≤(YL zs).toArray[j]! :=by
  intro j h0 hj
  have hj':j<(YL zs).length:=by simpa using hj
  have h1:=List.pairwise_iff_getElem.1 hp (j-1) j (by omega) hj' (by omega)
  have h2:=of_decide_eq_true h1
  simpa [hj',show j-1<(YL zs).length from by omega] using h2
 obtain ⟨h1,_,h3⟩:=zgH (YL zs).toArray hs (YL zs).length (by simp)
 refine ⟨h1,fun x=>?_⟩
 unfold Lib.compact
 rw [h3]
 have hmem:x∈YL zs↔x∈zs:=(List.mergeSort_perm zs _).mem_iff
 rw [←hmem]
 constructor
 ·
  rintro ⟨j,hj,e⟩
  have:(YL zs)[j]=x:=by simpa [hj] using e
  rw [←this];exact List.getElem_mem hj
 ·
  intro h
  obtain ⟨j,hj,e⟩:=List.getElem_of_mem h
  exact ⟨j,hj,by simpa [hj] using e⟩
end
section
open Go Go.Kn Go.Proofs
def rcV (S:List Int)(u:Nat→Int)(cl:List Int)(f:Nat)(s x:Int):Int:=if Z8 s=true then Xy (u (KS s)) x else UN S (rcF S u cl f (Qy cl s)) (rcF S u cl f (s-Qy cl s)) 2 x
theorem zul {S:List Int}{u:Nat→Int}{cl:List Int}{f:Nat}{s:Int}:rcF S u cl (f+1) s=S.map (rcV S u cl f s):=by
 cases h:Z8 s with
 | true=>rw [zxF h];exact List.map_congr_left fun x _=>by unfold rcV;rw [if_pos h]
 | false=>rw [zxE h];exact List.map_congr_left fun x _=>by unfold rcV;rw [if_neg (by rw [h];decide)]
def stE (rows:List (List Int))(l:Nat):List Int:=Lib.compact (YL (stL rows l rows.length))
def zlj (rows:List (List Int))(cl:List Int)(l:Nat):List Int:=rcF (stE rows l) (uF rows l) cl 64 (Vs rows.length)
def zoP (rows:List (List Int))(cl:List Int)(l:Nat)(x:Int):Int:=rcV (stE rows l) (uF rows l) cl 63 (Vs rows.length) x
theorem zcI {rows:List (List Int)}{cl:List Int}{l:Nat}:zlj rows cl l=(stE rows l).map (zoP rows cl l):=zul (f:=63)
def JF (rows:List (List Int))(cl:List Int)(l:Nat):List Int:=(stE rows l).filter fun x=>zoP rows cl l x==Yo (zlj rows cl l)
def UY (rows:List (List Int))(cl:List Int):List (List Int):=if YO rows cl≠0 then [] else (List.range (rows.getD 0 []).length).map (JF rows cl)
theorem zdu {rows:List (List Int)}{cl:List Int}(h:YO rows cl≠0):UY rows cl=[]:=by unfold UY;rw [if_pos h]
theorem XT {rows:List (List Int)}{cl:List Int}(h:YO rows cl=0):UY rows cl=(List.range (rows.getD 0 []).length).map (JF rows cl):=by unfold UY;rw [if_neg (by omega)]
theorem zag {α:Type}{f:Nat→α}{k:Nat}:(List.range (k+1)).map f=(List.range k).map f++[f k]:=by rw [List.range_succ,List.map_append];rfl
theorem znr {α:Type}{p:α→Bool}{xs:List α}{k:Nat}{x:α}(hx:xs[k]? =some x)(h:p x=true):(xs.take (k+1)).filter p=(xs.take k).filter p++[x]:=by
 rw [List.take_add_one,hx,List.filter_append];simp [h]
theorem zsx {α:Type}{p:α→Bool}{xs:List α}{k:Nat}{x:α}(hx:xs[k]? =some x)(h:p x=false):(xs.take (k+1)).filter p=(xs.take k).filter p:=by
 rw [List.take_add_one,hx,List.filter_append];simp [h]
theorem zjK {rows:List (List Int)}{l:Nat}:(stE rows l).length≤rows.length+1:=by
 have h1:(stL rows l rows.length).length≤rows.length+1:=by
  unfold stL
  have:=List.length_filter_le (fun x=>x != 8589934592) ((List.range rows.length).map fun w=>uF rows l w)
  rw [List.length_map,List.length_range] at this
  rw [List.length_cons];omega
 have h2:(YL (stL rows l rows.length)).length=(stL rows l rows.length).length:=by unfold YL;exact (List.mergeSort_perm _ _).length_eq
 have h3:=Lib.compact_length_le (YL (stL rows l rows.length))
 unfold stE;omega
theorem zeX {rows:List (List Int)}{l:Nat}{y:Int}:y∈stE rows l↔y∈Za rows l:=by unfold stE;rw [(KY _).2,zxa]
theorem zwL {rows:List (List Int)}{l:Nat}:(stE rows l).Pairwise (· < ·):=(KY _).1
theorem zjB {rows:List (List Int)}{l:Nat}:0<(stE rows l).length:=List.length_pos_of_mem (zeX.2 (zbh.2 (.inl rfl)))
theorem zkT {rows:List (List Int)}{cl:List Int}{l:Nat}:(zlj rows cl l).length=(stE rows l).length:=by rw [zcI,List.length_map]
def zwN (rows:List (List Int))(cl:List Int):Value→Qu→Go.Kn.Loc→Prop:=fun v I' L=>L=[]∧∃ av c,v= .tuple #[.slice av (UY rows cl).length c,.int .i64 (YO rows cl)]∧SlN I' av (UY rows cl).length c (UY rows cl)
end
end Go.Proofs.YtodakphagkommaaGreatDoor
namespace Go.Kn
section
open Go Go.Sort Go.Shelf Go.Lib Go.Proofs
theorem znQ {w w':World}{L:Loc}(h:St w (fun b=>w.heap[b]?) (fun _=>none) L w'):∃ q os',w'=grow (w.drewN q) os':=by
 refine ⟨w'.drawn-w.drawn,w'.heap.extract w.heap.size w'.heap.size,?_⟩
 have h1:=h.size
 have hh:w.heap++w'.heap.extract w.heap.size w'.heap.size=w'.heap:=by
  apply Array.ext'
  apply List.ext_getElem?
  intro i
  by_cases hi:i<w.heap.size
  ·
   have:=h.imm i _ (Array.getElem?_eq_getElem hi)
   rw [Array.getElem?_toList,Array.getElem?_toList,this,Array.getElem?_append_left hi,Array.getElem?_eq_getElem hi]
  ·
   rw [Array.getElem?_toList,Array.getElem?_toList,Array.getElem?_append_right (by omega),Array.getElem?_extract]
   by_cases h2:i<w'.heap.size
   ·
    rw [if_pos (by omega),show w.heap.size+(i-w.heap.size)=i by omega]
   ·
    rw [if_neg (by omega),Array.getElem?_eq_none (by omega)]
 have e1:=h.os;have e2:=h.tape;have e3:=h.out
 cases w;cases w'
 simp only [grow,World.drewN] at*
 subst e1;subst e2;subst e3
 simp only [World.mk.injEq,true_and,and_true]
 exact ⟨hh.symm,by omega⟩
theorem zk3 {α:Type}[Inhabited α]{enc:α→List Value}{k:Nat}(hk:∀ x,(enc x).length=k)(hpos:0<k)(xs:List α):flatK enc k xs.toArray=(xs.flatMap enc).toArray:=by
 have hl:(xs.flatMap enc).length=xs.length*k:=ZT hk xs
 apply Array.ext
 ·
  rw [size_flatK];simp [hl]
 ·
  intro t h1 h2
  have ht:t<xs.length*k:=by rw [size_flatK] at h1;simpa using h1
  have hq:t / k<xs.length:=by rw [Nat.div_lt_iff_lt_mul hpos];exact ht
  have hr:t % k<k:=Nat.mod_lt _ hpos
  have hx:xs[t / k]? =some xs[t / k]:=List.getElem?_eq_getElem hq
  have hu:(enc xs[t / k])[t % k]? =some ((enc xs[t / k])[t % k]'(by rw [hk];exact hr)):=List.getElem?_eq_getElem _
  have h3:=X4 hk xs (t / k) _ hx (t % k) _ hu
  rw [Nat.mul_comm,Nat.div_add_mod] at h3
  have h4:=get_flatK enc k xs.toArray t (by simpa using ht)
  rw [getElem!_pos (flatK enc k xs.toArray) t h1] at h4
  rw [h4]
  have e1:xs.toArray[t / k]! =xs[t / k]'hq:=by simp [hq]
  rw [e1]
  have e2:(enc (xs[t / k]'hq))[t % k]! =(enc (xs[t / k]'hq))[t % k]'(by rw [hk];exact hr):=getElem!_pos (enc (xs[t / k]'hq)) (t % k) (by rw [hk];exact hr)
  rw [e2]
  have e3:(xs.flatMap enc).toArray[t]? =some ((enc xs[t / k])[t % k]'(by rw [hk];exact hr)):=by simpa using h3
  rw [Array.getElem?_eq_getElem h2] at e3
  exact (Option.some.inj e3).symm
theorem zmd {α:Type}[Inhabited α]{P:Program}{f g0:FuncId}{e:TypeId}{k:Nat}{enc:α→List Value}{cf:α→α→Int}(hk:∀ x,(enc x).length=k)(hpos:0<k)
  (hs:∀ (blk off cap:Nat) (d:Array α) (w:World),CmpLays P g0 #[] enc k cf blk off d.size w→HoldsK enc k w blk off d→blk<w.heap.size→d.size<4611686018427387904→
   Calls P f #[.slice (some ⟨blk,off,none⟩) d.size cap,.func (.func g0) #[] #[]] w fun e w'=>e= .returned (.tuple #[])∧∃ d' n os,PermIn 0 d.size d d'∧SortedIn (ltOf cf) 0 d.size d'∧w'=sortWorldK enc k w blk off n d' os)
  (h0:∀ (p:Option Addr) (cap:Nat) (fv:Value) (w:World),Calls P f #[.slice p 0 cap,fv] w fun e w'=>e= .returned (.tuple #[])∧w'=w)
  (hcmp:∀ (I:Qu) (x y:α),Zy P g0 [.agg (enc x).toArray,.agg (enc y).toArray] I (.int .i64 (cf x y)))
  (zs:List α){v:Value}{n:Nat}{L:Loc}(hO:OwnS e k v n (zs.flatMap enc) L)(hn:n≤1000000)(I:Qu):
  Yf P f [v,.func (.func g0) #[] #[]] I L (fun u I' L'=>u= .tuple #[]∧I'=I∧∃ zs':List α,zs'.Perm zs∧zs'.Pairwise (fun x y=>ltOf cf y x=false)∧OwnS e k v n (zs'.flatMap enc) L'):=by
 intro g H w hw
 have hl:zs.length=n:=by
  have:=hO.1
  rw [ZT hk] at this
  exact Nat.eq_of_mul_eq_mul_right hpos this
 subst hl
 rcases hO.2 with ⟨rfl,h00,rfl⟩ | ⟨b,c,cur,rfl,rfl,hc,hc2,hsz,htk⟩
 ·
  have:zs=[]:=List.length_eq_zero_iff.1 h00
  subst this
  refine (h0 none 0 _ w).mono ?_
  rintro e w' ⟨rfl,rfl⟩
  exact ⟨_,I,[],rfl,zAh _,hw,rfl,rfl,[],.nil,.nil,by simp,.inl ⟨rfl,rfl,rfl⟩⟩
 ·
  have hb:=hw.own b _ (List.mem_singleton.2 rfl)
  have hbs:b<w.heap.size:=(Array.getElem?_eq_some_iff.1 hb).1
  have hfl:(zs.flatMap enc).length=zs.length*k:=ZT hk zs
  have hH:HoldsK enc k w b 0 zs.toArray:=by
   unfold HoldsK
   rw [zk3 hk hpos]
   exact zao (enc:=id) hw (List.mem_singleton.2 rfl) (zs.flatMap enc) (by rw [hfl,htk];simp)
  have hC:CmpLays P g0 #[] enc k cf b 0 zs.toArray.size w:=by
   intro m os dk _ x y
   have h1:=hcmp (fun q=>(sortWorldK enc k w b 0 m dk os).heap[q]?) x y (sortWorldK enc k w b 0 m dk os) (fun _=>none) (sortWorldK enc k w b 0 m dk os)
    ⟨rfl,rfl,rfl,⟨Nat.le_refl _,Nat.le_refl _⟩,fun _ _ h=>h,(fun _ _ h=>by cases h),(fun _ _ h=>by cases h),fun _=>.inr rfl,(fun _ _ h=>by cases h),by simp⟩
   refine Calls.mono h1 ?_
   rintro e w' ⟨rfl,hs⟩
   exact ⟨rfl,znQ hs⟩
  have hcall:=hs b 0 c zs.toArray w hC hH hbs (by simp;omega)
  rw [List.size_toArray] at hcall
  refine hcall.mono ?_
  rintro e w' ⟨rfl,d',m,os,hp,hsd,rfl⟩
  have hps:d'.size=zs.length:=by simpa using hp.1
  have hperm:d'.toList.Perm zs:=by
   have:=hp.2.2
   simpa [Array.extract_eq_self_of_le,hps] using this
  have hdl:d'=d'.toList.toArray:=by simp
  have hfd:(d'.toList.flatMap enc).length=zs.length*k:=by rw [ZT hk,Array.length_toList,hps]
  refine ⟨_,I,[(b,.cells (putCells id 0 (d'.toList.flatMap enc).toArray cur) e (0,0))],rfl,zAh _,?_,rfl,rfl,d'.toList,hperm,?_,?_⟩
  ·
   unfold sortWorldK putRowK
   rw [hdl,zk3 hk hpos]
   simp only
   exact (((hw.aheadN m).rowPut (enc:=id) _ .here).grown os)
  ·
   rw [List.pairwise_iff_getElem]
   intro i j hi hj hij
   have:=hsd i j (Nat.zero_le _) hij (by rw [←hps];simpa using hj)
   rw [getElem!_pos d' i (by simpa using hi),getElem!_pos d' j (by simpa using hj)] at this
   simpa using this
  ·
   refine ⟨by rw [hfd],.inr ⟨b,c,_,rfl,rfl,hc,hc2,by simp [putCells,hsz],?_⟩⟩
   have:=zcJ (enc:=id) (cs:=cur) (n:=zs.length*k) (d'.toList.flatMap enc) hfd (by rw [hsz];exact Nat.mul_le_mul_right k hc)
   simpa using this
end
end Go.Kn
namespace Go.Proofs
section
open Go.Shelf
def Tryz.lays189_ren:Go.Shelf.Ren:=⟨fun | 189=>64 | 125=>108 | 257=>107 | 128=>164 | 129=>165 | 294=>155 | 295=>156 | 296=>157 | 297=>158 | 298=>159 | 299=>160 | 216=>161 | 300=>162 | 301=>163 | 328=>204 | 329=>205 | 330=>206 | 331=>207 | 332=>208 | 215=>192 | 343=>238 | n=>n,fun | 28=>23 | 3=>3 | 46=>186 | 0=>0 | 51=>234 | 53=>236 | 4=>4 | 183=>228 | 182=>227 | 131=>141 | 5=>5 | 9=>9 | 218=>259 | 222=>253 | 228=>278 | 229=>279 | n=>n,fun | n=>n⟩
theorem Tryz.lays189:Go.Proofs.Lays.n189 Tryz.prog Tryz.lays189_ren:={
 mixed:=by kernel_rfl
 f125:=Tryz.func108.trans (congrArg some (by kernel_rfl))
 f128:=Tryz.func164.trans (congrArg some (by kernel_rfl))
 f129:=Tryz.func165.trans (congrArg some (by kernel_rfl))
 f189:=Tryz.func64.trans (congrArg some (by kernel_rfl))
 f215:=Tryz.func192.trans (congrArg some (by kernel_rfl))
 f216:=Tryz.func161.trans (congrArg some (by kernel_rfl))
 f257:=Tryz.func107.trans (congrArg some (by kernel_rfl))
 f294:=Tryz.func155.trans (congrArg some (by kernel_rfl))
 f295:=Tryz.func156.trans (congrArg some (by kernel_rfl))
 f296:=Tryz.func157.trans (congrArg some (by kernel_rfl))
 f297:=Tryz.func158.trans (congrArg some (by kernel_rfl))
 f298:=Tryz.func159.trans (congrArg some (by kernel_rfl))
 f299:=Tryz.func160.trans (congrArg some (by kernel_rfl))
 f300:=Tryz.func162.trans (congrArg some (by kernel_rfl))
 f301:=Tryz.func163.trans (congrArg some (by kernel_rfl))
 f328:=Tryz.func204.trans (congrArg some (by kernel_rfl))
 f329:=Tryz.func205.trans (congrArg some (by kernel_rfl))
 f330:=Tryz.func206.trans (congrArg some (by kernel_rfl))
 f331:=Tryz.func207.trans (congrArg some (by kernel_rfl))
 f332:=Tryz.func208.trans (congrArg some (by kernel_rfl))
 f343:=Tryz.func238.trans (congrArg some (by kernel_rfl))
 t0:=Tryz.underlying0
 a0:=Tryz.isAgg0
 z0:=Tryz.sizeOf0
 v0:=Tryz.zeroValue0
 t3:=Tryz.underlying3
 a3:=Tryz.isAgg3
 z3:=Tryz.sizeOf3
 v3:=Tryz.zeroValue3
 t4:=Tryz.underlying4
 a4:=Tryz.isAgg4
 z4:=Tryz.sizeOf4
 v4:=Tryz.zeroValue4
 t5:=Tryz.underlying5
 a5:=Tryz.isAgg5
 z5:=Tryz.sizeOf5
 v5:=Tryz.zeroValue5
 t9:=Tryz.underlying9
 a9:=Tryz.isAgg9
 z9:=Tryz.sizeOf9
 v9:=Tryz.zeroValue9
 t28:=Tryz.underlying23
 a28:=Tryz.isAgg23
 z28:=Tryz.sizeOf23
 v28:=Tryz.zeroValue23
 t46:=Tryz.underlying186
 a46:=Tryz.isAgg186
 z46:=Tryz.sizeOf186
 v46:=Tryz.zeroValue186
 t51:=Tryz.underlying234
 a51:=Tryz.isAgg234
 z51:=Tryz.sizeOf234
 v51:=Tryz.zeroValue234
 t53:=Tryz.underlying236
 a53:=Tryz.isAgg236
 z53:=Tryz.sizeOf236
 v53:=Tryz.zeroValue236
 t131:=Tryz.underlying141
 a131:=Tryz.isAgg141
 z131:=Tryz.sizeOf141
 v131:=Tryz.zeroValue141
 t182:=Tryz.underlying227
 a182:=Tryz.isAgg227
 z182:=Tryz.sizeOf227
 v182:=Tryz.zeroValue227
 t183:=Tryz.underlying228
 a183:=Tryz.isAgg228
 z183:=Tryz.sizeOf228
 v183:=Tryz.zeroValue228
 t218:=Tryz.underlying259
 a218:=Tryz.isAgg259
 z218:=Tryz.sizeOf259
 v218:=Tryz.zeroValue259
 t222:=Tryz.underlying253
 a222:=Tryz.isAgg253
 z222:=Tryz.sizeOf253
 v222:=Tryz.zeroValue253
 t228:=Tryz.underlying278
 a228:=Tryz.isAgg278
 z228:=Tryz.sizeOf278
 v228:=Tryz.zeroValue278
 t229:=Tryz.underlying279
 a229:=Tryz.isAgg279
 z229:=Tryz.sizeOf279
 v229:=Tryz.zeroValue279}
open Go.Sort Go.RowKit in
theorem Tryz.slices_Sort_int (blk off cap:Nat) (zs:List Int) (w:World) (hH:Holds (Value.int .i64) w blk off zs.toArray) (hblk:blk<w.heap.size) (hsz:zs.length<4611686018427387904):
  Calls Tryz.prog 64 #[.slice (some ⟨blk,off,none⟩) zs.length cap] w fun e w'=>
   e= .returned (.tuple #[])∧∃ n os,w'=grow (putRow (Value.int .i64) (Sort.ahead w n) blk off (zs.mergeSort fun x y=>decide (x≤y)).toArray) os:=Any.slices_Sort_int Tryz.lays189 blk off cap zs w hH hblk hsz
def Tryz.laysNm220_ren:Go.Shelf.Ren:=⟨fun | 20=>91 | n=>n,fun | 22=>23 | 3=>3 | 4=>4 | 0=>0 | n=>n,fun | n=>n⟩
theorem Tryz.laysNm220:Go.Proofs.Lays2.n20 Tryz.prog Tryz.laysNm220_ren:={
 mixed:=by kernel_rfl
 f20:=Tryz.func91.trans (congrArg some (by kernel_rfl))
 t0:=Tryz.underlying0
 a0:=Tryz.isAgg0
 z0:=Tryz.sizeOf0
 v0:=Tryz.zeroValue0
 t3:=Tryz.underlying3
 a3:=Tryz.isAgg3
 z3:=Tryz.sizeOf3
 v3:=Tryz.zeroValue3
 t4:=Tryz.underlying4
 a4:=Tryz.isAgg4
 z4:=Tryz.sizeOf4
 v4:=Tryz.zeroValue4
 t22:=Tryz.underlying23
 a22:=Tryz.isAgg23
 z22:=Tryz.sizeOf23
 v22:=Tryz.zeroValue23
 i3:=by kernel_rfl}
open Go.RowKit Go.Lib Go.Sort in
theorem Tryz.slices_Compact_int (blk off cap:Nat) (zs:List Int) (w:World) (hH:Holds (Value.int .i64) w blk off zs.toArray) (hsz:zs.length≤9223372036854775807) (hcap:zs.length≤cap):
  Calls Tryz.prog 91 #[.slice (some ⟨blk,off,none⟩) zs.length cap] w fun e w'=>e= .returned (.slice (some ⟨blk,off,none⟩) (Lib.compact zs).length cap)∧∃ q,w'=putRow (Value.int .i64) (Sort.ahead w q) blk off (Lib.compact zs++List.replicate (zs.length-(Lib.compact zs).length) 0).toArray:=Any.slices_Compact_int Tryz.laysNm220 blk off cap zs w hH hsz hcap
open Go.RowKit Go.Lib Go.Sort in
theorem Tryz.slices_Compact_int_empty (a:Option Addr) (cap:Nat) (w:World):
  Calls Tryz.prog 91 #[.slice a 0 cap] w fun e w'=>e= .returned (.slice a 0 cap)∧w'=w:=Any.slices_Compact_int_empty Tryz.laysNm220 a cap w
open Go.RowKit Go.Sort in
theorem Tryz.slices_Sort_int_none (p:Option Addr) (cap:Nat) (w:World):
  Calls Tryz.prog 64 #[.slice p 0 cap] w fun e w'=>e= .returned (.tuple #[])∧w'=w:=Any.slices_Sort_int_none Tryz.lays189 p cap w
def Tryz.laysSlF06_f140_ren:Go.Shelf.Ren:=⟨fun | 6=>140 | 15=>108 | 14=>191 | 28=>164 | 29=>165 | 20=>224 | 21=>225 | 22=>226 | 23=>227 | 24=>228 | 25=>229 | 26=>230 | 27=>231 | 46=>246 | 47=>205 | 48=>206 | 49=>247 | 50=>248 | 57=>258 | n=>n,fun | 22=>48 | 24=>54 | 25=>213 | 3=>3 | 39=>186 | 0=>0 | 53=>234 | 55=>236 | 4=>4 | 46=>228 | 45=>227 | 50=>141 | 5=>5 | 9=>9 | 66=>259 | 70=>253 | 76=>278 | 77=>279 | n=>n,fun | n=>n⟩
theorem Tryz.laysSlF06_f140:Go.Proofs.SlLaysF0.n6 Tryz.prog Tryz.laysSlF06_f140_ren:={
 mixed:=by kernel_rfl
 f6:=⟨Tryz.f140.name,by decide,Tryz.func140.trans (congrArg some (by kernel_rfl))⟩
 f14:=⟨Tryz.f191.name,by decide,Tryz.func191.trans (congrArg some (by kernel_rfl))⟩
 f15:=Tryz.func108.trans (congrArg some (by kernel_rfl))
 f20:=⟨Tryz.f224.name,by decide,Tryz.func224.trans (congrArg some (by kernel_rfl))⟩
 f21:=⟨Tryz.f225.name,by decide,Tryz.func225.trans (congrArg some (by kernel_rfl))⟩
 f22:=⟨Tryz.f226.name,by decide,Tryz.func226.trans (congrArg some (by kernel_rfl))⟩
 f23:=⟨Tryz.f227.name,by decide,Tryz.func227.trans (congrArg some (by kernel_rfl))⟩
 f24:=⟨Tryz.f228.name,by decide,Tryz.func228.trans (congrArg some (by kernel_rfl))⟩
 f25:=⟨Tryz.f229.name,by decide,Tryz.func229.trans (congrArg some (by kernel_rfl))⟩
 f26:=⟨Tryz.f230.name,by decide,Tryz.func230.trans (congrArg some (by kernel_rfl))⟩
 f27:=⟨Tryz.f231.name,by decide,Tryz.func231.trans (congrArg some (by kernel_rfl))⟩
 f28:=Tryz.func164.trans (congrArg some (by kernel_rfl))
 f29:=Tryz.func165.trans (congrArg some (by kernel_rfl))
 f46:=⟨Tryz.f246.name,by decide,Tryz.func246.trans (congrArg some (by kernel_rfl))⟩
 f47:=Tryz.func205.trans (congrArg some (by kernel_rfl))
 f48:=Tryz.func206.trans (congrArg some (by kernel_rfl))
 f49:=⟨Tryz.f247.name,by decide,Tryz.func247.trans (congrArg some (by kernel_rfl))⟩
 f50:=⟨Tryz.f248.name,by decide,Tryz.func248.trans (congrArg some (by kernel_rfl))⟩
 f57:=⟨Tryz.f258.name,by decide,Tryz.func258.trans (congrArg some (by kernel_rfl))⟩
 t0:=Tryz.underlying0
 a0:=Tryz.isAgg0
 z0:=Tryz.sizeOf0
 v0:=Tryz.zeroValue0
 t3:=Tryz.underlying3
 a3:=Tryz.isAgg3
 z3:=Tryz.sizeOf3
 v3:=Tryz.zeroValue3
 t4:=Tryz.underlying4
 a4:=Tryz.isAgg4
 z4:=Tryz.sizeOf4
 v4:=Tryz.zeroValue4
 t5:=Tryz.underlying5
 a5:=Tryz.isAgg5
 z5:=Tryz.sizeOf5
 v5:=Tryz.zeroValue5
 t9:=Tryz.underlying9
 a9:=Tryz.isAgg9
 z9:=Tryz.sizeOf9
 v9:=Tryz.zeroValue9
 t22:=Tryz.underlying48
 a22:=Tryz.isAgg48
 z22:=Tryz.sizeOf48
 v22:=Tryz.zeroValue48
 t25:=Tryz.underlying213
 a25:=Tryz.isAgg213
 z25:=Tryz.sizeOf213
 v25:=Tryz.zeroValue213
 t39:=Tryz.underlying186
 a39:=Tryz.isAgg186
 z39:=Tryz.sizeOf186
 v39:=Tryz.zeroValue186
 t45:=Tryz.underlying227
 a45:=Tryz.isAgg227
 z45:=Tryz.sizeOf227
 v45:=Tryz.zeroValue227
 t46:=Tryz.underlying228
 a46:=Tryz.isAgg228
 z46:=Tryz.sizeOf228
 v46:=Tryz.zeroValue228
 t50:=Tryz.underlying141
 a50:=Tryz.isAgg141
 z50:=Tryz.sizeOf141
 v50:=Tryz.zeroValue141
 t53:=Tryz.underlying234
 a53:=Tryz.isAgg234
 z53:=Tryz.sizeOf234
 v53:=Tryz.zeroValue234
 t55:=Tryz.underlying236
 a55:=Tryz.isAgg236
 z55:=Tryz.sizeOf236
 v55:=Tryz.zeroValue236
 t66:=Tryz.underlying259
 a66:=Tryz.isAgg259
 z66:=Tryz.sizeOf259
 v66:=Tryz.zeroValue259
 t70:=Tryz.underlying253
 a70:=Tryz.isAgg253
 z70:=Tryz.sizeOf253
 v70:=Tryz.zeroValue253
 t76:=Tryz.underlying278
 a76:=Tryz.isAgg278
 z76:=Tryz.sizeOf278
 v76:=Tryz.zeroValue278
 t77:=Tryz.underlying279
 a77:=Tryz.isAgg279
 z77:=Tryz.sizeOf279
 v77:=Tryz.zeroValue279}
open Go.RowKit Go.Lib Go.Sort in
theorem Tryz.slices_SortFunc {α:Type} [Inhabited α] (k:Nat) (aE:∀ w,(isAgg (Tryz.laysSlF06_f140_ren.t 24)).run Tryz.prog w= .ok true w) (zE:∀ w,(Go.sizeOf (Tryz.laysSlF06_f140_ren.t 24)).run Tryz.prog w= .ok k w) (enc:α→List Value) (hk:∀ x,(enc x).length=k) (h1:∀ x,∀ v∈enc x,v.oneCell'=true) (cf:α→α→Int) (hO:SWO (ltOf cf)) (g:Nat) (cb:Array Value) (blk off cap:Nat) (d:Array α) (w:World) (eg:∀ args w,(callFunc g args).run Tryz.prog w= .ok (.enter g args) w) (hcmp:CmpLays Tryz.prog g cb enc k cf blk off d.size w) (hH:HoldsK enc k w blk off d) (hblk:blk<w.heap.size) (hsz:d.size<4611686018427387904):
  Calls Tryz.prog 140 #[.slice (some ⟨blk,off,none⟩) d.size cap,.func (.func g) #[] cb] w fun e w'=>
   e= .returned (.tuple #[])∧∃ d' n os,PermIn 0 d.size d d'∧SortedIn (ltOf cf) 0 d.size d'∧w'=sortWorldK enc k w blk off n d' os:=AnyQ.slices_SortFunc Tryz.laysSlF06_f140 k aE zE enc hk h1 cf hO g cb blk off cap d w eg hcmp hH hblk hsz
open Go.RowKit Go.Lib Go.Sort in
theorem Tryz.slices_SortFunc_none {α:Type} [Inhabited α] (p:Option Addr) (cap:Nat) (fv:Value) (w:World):
  Calls Tryz.prog 140 #[.slice p 0 cap,fv] w fun e w'=>e= .returned (.tuple #[])∧w'=w:=AnyF.slices_SortFunc_none Tryz.laysSlF06_f140 p cap fv w
end
end Go.Proofs
namespace Go.Proofs.YtodakphagkommaaGreatDoor
section
open Go Go.Kn Go.Proofs
theorem zbl:ElT Tryz.prog 22 23 1 24:=.of (by kernel_rfl)
theorem ziX:Fun Tryz.prog 64:=.of Tryz.func64 (by kernel_rfl) (by kernel_rfl)
theorem zpk:Fun Tryz.prog 91:=.of Tryz.func91 (by kernel_rfl) (by kernel_rfl)
theorem zw1:Fun Tryz.prog 92:=.of Tryz.func92 (by kernel_rfl) (by kernel_rfl)
theorem zqS:SzT Tryz.prog 174 1:=.of (by kernel_rfl)
theorem Zk:SzT Tryz.prog 23 1:=.of (by kernel_rfl)
theorem ztY:Yu Tryz.prog 174 .nilFunc:=.of (by kernel_rfl)
theorem Yq:Yu Tryz.prog 23 (.slice none 0 0):=.of (by kernel_rfl)
theorem zvz:Yu Tryz.prog 3 (.int .i64 0):=.of (by kernel_rfl)
theorem Wb (zs:List Int):zs.flatMap QQ=zs.map (Value.int .i64):=by
 induction zs with
 | nil=>rfl
 | cons z zs ih=>rw [List.flatMap_cons,ih];rfl
theorem zi4 {zs:List Int}{v:Value}{n:Nat}{L:Go.Kn.Loc}(hO:OwnS 3 1 v n (zs.flatMap QQ) L)(hn:n≤1000000)(I:Qu):Yf Tryz.prog 64 [v] I L (fun u I' L'=>u= .tuple #[]∧I'=I∧OwnS 3 1 v n ((YL zs).flatMap QQ) L'):=by
 rw [Wb] at hO
 rw [Wb]
 exact zji Tryz.slices_Sort_int Tryz.slices_Sort_int_none zs hO hn I
theorem zg8 {zs:List Int}{v:Value}{n:Nat}{L:Go.Kn.Loc}(hO:OwnS 3 1 v n (zs.flatMap QQ) L)(hn:n≤1000000)(I:Qu):Yf Tryz.prog 91 [v] I L (fun u I' L'=>I'=I∧OwnS 3 1 u (Lib.compact zs).length ((Lib.compact zs).flatMap QQ) L'):=by
 rw [Wb] at hO
 rw [Wb]
 exact zbc Lib.compact Lib.compact_length_le rfl Tryz.slices_Compact_int Tryz.slices_Compact_int_empty zs hO hn I
theorem zdc {I:Qu}{bst brow bloc bcla bse:Nat}{sv bv av:Option Addr}{ns cs n2 c2 n c:Nat}{St xs:List Int}{rows:List (List Int)}{l:Nat}(hn:n≤100000)(hn2:n2≤100000)(hns:ns≤1000)(hl:∀ r∈rows,l<r.length)(hc:Jg rows.length xs=0):∀ (f:Nat) (I:Qu),RtE I 93 bst brow bloc bcla bse sv bv av ns cs n2 c2 n c St xs rows l→∀ (s:Int),OkS rows.length xs s→s.toNat≤f→Yf Tryz.prog 93 ([.int .i64 s]++[Zc bst,Zc brow,Zc bloc,Zc bcla,Zc bse]) I [] (zbv 1 QQ (rcF St (uF rows l) xs f s))
 | 0,_,_,s,hok,hf=>by have:=hok.1;omega
 | f+1,I,hE,s,hok,hf=>zmD hE hn hn2 hns hl hc f s hok (fun h=>by omega) fun I' hI s' hok' hlt=>zdc (I:=I') hn hn2 hns hl hc f I' (hE.mono hI) s' hok' (by have:=hok'.1;have:=hok.1;omega)
theorem zrj {I:Qu}{av:Option Addr}{n c:Nat}{xs:List Int}(hS:Sl I 1 QQ av n c xs){bv:Option Addr}{n2 c2:Nat}{rows:List (List Int)}(hVn:SlN I bv n2 c2 rows)(hn2:n2≤100000)(hDb:VT I):Yf Tryz.prog 51 [.slice bv n2 c2,.slice av n c] I [] (zwN rows xs):=by
 intro g H w hw
 refine qe Tryz.func51 Tryz.ntmps51 hw ?_
 have hIc:=zAh I
 have hlV:=hVn.len
 subst hlV
 have hVn9:=hVn
 obtain ⟨hs,hV⟩:=hVn9
 have hH:=hV.1
 refine zR ?_
 refine Q2 rfl rfl rfl (fun b_2=>?_)
 refine Q2 rfl rfl rfl (fun b_3=>?_)
 refine zA ?_
 refine zA (zN (Ql (zR ?_)))
 refine zV (Qe rfl KH (fun hg=>by exact zAb (zAc rfl))) ?_
 refine zV (Qe rfl QJ (fun hg=>by exact zAc rfl)) ?_
 refine qc (vs:=[_,_]) rfl zw1 (zs9 hS hVn hn2 hDb) ?_
 refine zM ?_
 refine zE ?_
 refine zE ?_
 refine zA ?_
 refine zN (zR ?_)
 refine zM ?_
 refine zC (zN ?_)
 refine zI ?_ ?_<;>intro hc24
 ·
  have hcE:YO rows xs≠0:=by simpa using hc24
  refine zR (zM ?_)
  refine zA ?_
  refine zA (zN (Qt (Qc ?_)))
  first
  | exact ZA rfl rfl rfl (fun w hw=>⟨_,_,[],rfl,hIc,hw.drop,rfl,none,0,by rw [zdu hcE];rfl,by rw [zdu hcE];exact .none⟩)
 have hcE:YO rows xs=0:=by simpa using hc24
 have hr0:V5 rows=0:=by cases Decidable.em (V5 rows=0) with
  | inl h=>exact h
  | inr h=>exact absurd ((zfW h).1.symm.trans hcE) h
 have hc0:Jg rows.length xs=0:=by have h:=hcE;unfold YO at h;rw [if_neg (by omega)] at h;exact h
 obtain ⟨hr1,hr6,hr64,hrr⟩:=KU hr0
 obtain ⟨x0,v0,hx0,hv0,hQ0⟩:=hV.at (k:=0) (by omega)
 have hx0l:=hQ0.len
 have hg0:rows.getD 0 []=v0:=QU hv0
 rw [hg0] at hr64 hrr
 have hxl:=(ZV hc0).2.2.1
 have hSl:=hS.len
 have hn:n≤100000:=by omega
 have hsh:=zgv (n:=(rows.length:Int)) ⟨by omega,by omega⟩
 have hal9:=zbj (n:=(rows.length:Int)) ⟨by omega,by omega⟩
 refine Qn (Qa (Ql (Ql ?_)))
 refine VJ (fun I1 hI1 hall=>?_)
 have hS:=hS.mono hI1;have hVn:=hVn.mono hI1;have hV:=hV.mono hI1;have hH:=hH.mono hI1;have hIc:=hIc.trans hI1
 have hB2:QT I1 [] b_2 0 (.slice bv rows.length c2):=.imm (hall _ _ (by repeat (first | exact List.mem_cons_self .. | apply List.mem_cons_of_mem))) rfl
 have hB3:QT I1 [] b_3 0 (.slice av n c):=.imm (hall _ _ (by repeat (first | exact List.mem_cons_self .. | apply List.mem_cons_of_mem))) rfl
 refine Qg ?_
 refine zV (Qe rfl KH (fun hg=>by exact hB2.any)) ?_
 refine zV (zX Zp hH) ?_
 refine zV (Qe rfl QJ (fun hg=>by exact zAa hH hx0 rfl)) ?_
 refine zQ Qw ?_
 refine zM (zN (Qm ?_))
 refine zU [(2,_),(3,_),(29,_)] (fun T L0 mz E I' loc'=>∃ (l:Nat) (v4:Value) (os:List Hd) (L:Go.Kn.Loc),mz=x0.n-l∧E=(4,v4)::(30,.int .i64 l)::T∧HLe I1 I'∧L=loc'∧l≤x0.n∧OwnS 23 1 v4 l (os.flatMap XI) L∧zdT I' os ((List.range l).map (JF rows xs))) ?_ (h:=⟨0,_,[],[],rfl,rfl,zAh _,rfl,Nat.zero_le _,OwnS.nil,zdT.nil⟩)
 rintro mz E J2 loc' ⟨l,v4,os,L,rfl,rfl,hJ,rfl,hl,hO4,hre⟩
 have hS:=hS.mono hJ;have hVn:=hVn.mono hJ;have hV:=hV.mono hJ;have hH:=hH.mono hJ;have hB2:=hB2.mono hJ;have hB3:=hB3.mono hJ;have hIc:=hIc.trans hJ
 have hB0:=hJ
 obtain ⟨va4,vc4,rfl⟩:=zd6 hO4
 refine zR (zC (zN (Ql ?_)))
 refine zI ?_ ?_<;>intro hc31
 ·
  have hlt_l:l<x0.n:=by have h:=hc31;simp at h;omega
  have hsl:=zjK (rows:=rows) (l:=l)
  refine Qn (Qa (Ql (Qm (zR (zM ?_)))))
  refine Qs zvz rfl rfl (fun b_6=>?_)
  refine zS Z2 ?_
  refine zN (zR ?_)
  refine Qq (ps:=[(0,_)]) (m:=[QQ (0:Int)]) Zh rfl (.cons rfl (.nil)) rfl (by simp [Qv]) (by decide) (by decide) rfl rfl (fun b_33=>?_)
  refine Qs Yq rfl rfl (fun b_7=>?_)
  refine zS Zk ?_
  refine zN (Ql (zR ?_))
  refine zV (Qe rfl KH (fun hg=>by exact hB2.any)) ?_
  refine zQ Zp ?_
  refine zM (zN (Qm ?_))
  refine zU [(2,_),(3,_),(4,_),(6,_),(7,_),(29,_),(30,_),(34,_),(35,_)] (fun T L0 mz E I' loc'=>∃ (i:Nat) (v7:Value) (q7:Nat) (L7:Go.Kn.Loc),mz=rows.length-i∧E=(36,.int .i64 i)::T∧J2=I'∧(b_7,.cells #[v7] 23 (0,0))::(L7++((b_6,.cells #[.int .i64 l] 3 (0,0))::L))=loc'∧i≤rows.length∧OwnS 3 1 v7 q7 ((stL rows l i).flatMap QQ) L7∧q7≤i+1) ?_ (h:=⟨0,_,1,[(b_33,_)],rfl,rfl,rfl,rfl,Nat.zero_le _,OwnS.lit rfl (by decide),Nat.le_refl _⟩)
  rintro mz E I' loc' ⟨i,v7,q7,L7,rfl,rfl,rfl,rfl,hi,hO7,hq7⟩
  obtain ⟨va,vc,rfl⟩:=zd6 hO7
  refine zR (zC (zN (Ql ?_)))
  refine zI ?_ ?_<;>intro hc37
  ·
   have hlt_i:i<rows.length:=by have h:=hc37;simp at h;omega
   obtain ⟨x,v,hx,hv,hQ⟩:=hV.at hlt_i
   have hlv:l<v.length:=by rw [(hrr v (List.mem_of_getElem? hv)).1];omega
   have hu:=Q4 (d:=0) rfl hlv
   have hvn:=hQ.len
   have hUF:uF rows l i=v.getD l 0:=by unfold uF;rw [QU hv]
   refine Qn (Qa (Ql (Qm (zR ?_))))
   refine zV (zX Zp hH) ?_
   refine zV (Qe rfl QJ (fun hg=>by exact zAa hH hx rfl)) ?_
   refine zA ?_
   refine zN (zR ?_)
   refine zM ?_
   refine zV (Qe rfl Qr (fun hg=>by (repeat (first | exact zAc rfl | apply zAb | apply zAd)))) ?_
   refine zV (zX Qw hQ) ?_
   refine zV (Qe rfl Qr (fun hg=>by exact zAa hQ hu rfl)) ?_
   refine zA ?_
   refine zN (zR ?_)
   refine zM ?_
   refine zC (zN ?_)
   refine zI ?_ ?_<;>intro hc45
   ·
    have hne:uF rows l i≠8589934592:=by rw [hUF];simpa using hc45
    refine Qg ?_
    refine zV (Qe rfl QJ (fun hg=>by exact zAc rfl)) ?_
    refine zM ?_
    refine Qq (ps:=[(0,_)]) (m:=[QQ (v.getD l 0)]) Zh rfl (.cons rfl (.nil)) rfl (by simp [Qv]) (by decide) (by decide) rfl rfl (fun b_48=>?_)
    refine QY (v:=_) (ys:=[v.getD l 0].flatMap QQ) (L:=L7) rfl rfl Zh hO7 (by repeat (first | exact .cons .here .nil | exact QD | exact Qx | apply QC | apply QB)) ⟨rfl,fun _=>rfl,by repeat (first | exact zAf | apply zAe | apply zAg)⟩ (Kk [v.getD l 0]) (by omega) rfl rfl ?_
    intro v9 L9 hO9 _;rw [←List.flatMap_append] at hO9;obtain ⟨va9,vc9,rfl⟩:=zd6 hO9
    refine ZI rfl rfl Zk rfl rfl (by (repeat (first | exact Upd.here | apply Upd.there | apply QK))) rfl ?_
    refine Qb (Qf (Qa (Qg (zB ?_))))
    refine zM (Qb ?_)
    first
    | exact JD _ _ (L9++((b_7,_)::((b_6,_)::L))) ⟨rows.length-(i+1),by omega,i+1,_,q7+1,L9,rfl,rfl,rfl,rfl,by omega,by rw [ztL hne,hUF];exact hO9,by omega⟩ (.cons rfl (.cons rfl (.cons rfl (.cons rfl (.cons rfl (.cons rfl (.cons rfl (.cons rfl (.cons rfl (.cons rfl .nil)))))))))) List.perm_middle.symm (by repeat (first | exact .refl | exact Zj | refine Yk ?_ | refine .drop ?_ | refine Z7 ?_))
   have heq:uF rows l i=8589934592:=by rw [hUF];simpa using hc45
   refine Qn (Qf (Qa (Qg (zB ?_))))
   refine zM (Qb ?_)
   first
   | exact zm (h:=⟨rows.length-(i+1),by omega,i+1,_,q7,L7,rfl,rfl,rfl,rfl,by omega,by rw [zzb heq];exact hO7,by omega⟩)
  have hge_i:rows.length≤i:=by have h:=hc37;simp at h;omega
  rw [show i=rows.length by omega] at hO7
  refine QI (Qh (Qh (Qk (Qa (zR ?_)))))
  refine zV (Qe rfl QJ (fun hg=>by exact zAc rfl)) ?_
  refine Qz (cap:=[]) (vs:=[_]) rfl rfl ziX (by repeat (first | exact .cons .here .nil | exact QD | exact Qx | apply QC | apply QB)) (zi4 hO7 (by omega) _) rfl rfl ?_
  rintro vv4 I4 L4 hI4 ⟨rfl,rfl,hO5⟩
  have hS:=hS.mono hI4;have hVn:=hVn.mono hI4;have hB2:=hB2.mono hI4;have hB3:=hB3.mono hI4;have hre:=hre.mono hI4;have hB0:=hB0.trans hI4
  refine zN (zR ?_)
  refine zV (Qe rfl QJ (fun hg=>by (repeat (first | exact zAc rfl | apply zAb | apply zAd)))) ?_
  refine Qz (cap:=[]) (vs:=[_]) rfl rfl zpk (by repeat (first | exact .cons .here .nil | exact QD | exact Qx | apply QC | apply QB)) (zg8 hO5 (by omega) _) rfl rfl ?_
  rintro vv5 I5 L5 hI5 ⟨rfl,hO6⟩
  have hS:=hS.mono hI5;have hVn:=hVn.mono hI5;have hB2:=hB2.mono hI5;have hB3:=hB3.mono hI5;have hre:=hre.mono hI5;have hB0:=hB0.trans hI5
  have hO6:OwnS 3 1 _ (stE rows l).length ((stE rows l).flatMap QQ) _:=hO6
  obtain ⟨va6,vc6,rfl⟩:=zd6 hO6
  refine ZI rfl rfl Zk rfl rfl (by (repeat (first | exact Upd.here | apply Upd.there | apply QK))) rfl ?_
  refine zN (zR ?_)
  refine Qs ztY rfl rfl (fun b_11=>?_)
  refine zN (zR ?_)
  refine zV (Zd (us:=[]) (vs:=[_,_,_,_,_]) rfl rfl) ?_
  refine zS zqS ?_
  refine zN (Ql ?_)
  refine Vr hO6 Qv (by decide) (by repeat (first | exact .cons .here .nil | exact QD | exact Qx | apply QC | apply QB)) (fun I6 hI6 af6 cf6 ef6 hT9=>?_)
  cases ef6
  have hS:=hS.mono hI6;have hVn:=hVn.mono hI6;have hB2:=hB2.mono hI6;have hB3:=hB3.mono hI6;have hre:=hre.mono hI6;have hB0:=hB0.trans hI6
  refine Zg (b:=b_11) (by repeat (first | exact Q8.here | apply Q8.there)) (fun I7 hI7 hb7=>?_)
  have hS:=hS.mono hI7;have hVn:=hVn.mono hI7;have hB2:=hB2.mono hI7;have hB3:=hB3.mono hI7;have hre:=hre.mono hI7;have hT9:=hT9.mono hI7;have hB0:=hB0.trans hI7
  have hC11:QT I7 [] b_11 0 (.func (.func 93) #[] #[Zc b_7,Zc b_2,Zc b_6,Zc b_3,Zc b_11]):=.imm hb7 rfl
  refine Zg (b:=b_7) (by repeat (first | exact Q8.here | apply Q8.there)) (fun I8 hI8 hb8=>?_)
  have hS:=hS.mono hI8;have hVn:=hVn.mono hI8;have hB2:=hB2.mono hI8;have hB3:=hB3.mono hI8;have hre:=hre.mono hI8;have hT9:=hT9.mono hI8;have hC11:=hC11.mono hI8;have hB0:=hB0.trans hI8
  have hC7:QT I8 [] b_7 0 (.slice va6 (stE rows l).length vc6):=.imm hb8 rfl
  refine Zg (b:=b_6) (by repeat (first | exact Q8.here | apply Q8.there)) (fun I9 hI9 hb9=>?_)
  have hS:=hS.mono hI9;have hVn:=hVn.mono hI9;have hB2:=hB2.mono hI9;have hB3:=hB3.mono hI9;have hre:=hre.mono hI9;have hT9:=hT9.mono hI9;have hC11:=hC11.mono hI9;have hC7:=hC7.mono hI9;have hB0:=hB0.trans hI9
  have hC6:QT I9 [] b_6 0 (.int .i64 l):=.imm hb9 rfl
  have hRE:RtE I9 93 b_7 b_2 b_6 b_3 b_11 va6 bv av (stE rows l).length vc6 rows.length c2 n c (stE rows l) xs rows l:=⟨hC7,hB2,hC6,hB3,hC11,hT9,hS,hVn⟩
  have hD:=zAh I9
  refine K4 mixed ?_
  refine zT 0 rfl (Qe rfl ziA (fun hg=>by exact hC11.any)) hD ?_
  refine zT 1 rfl (Qe rfl KH (fun hg=>by exact hB2.any)) hD ?_
  refine zT 2 rfl (Zr rfl Zp) hD ?_
  refine zT 3 rfl (zaa rfl rfl (fun hg=>by omega)) hD ?_
  refine zT 4 rfl (ZR rfl rfl rfl (fun hg=>by omega)) hD ?_
  refine qd 5 rfl ?_
  refine Qz (cap:=[Zc b_7,Zc b_2,Zc b_6,Zc b_3,Zc b_11]) (vs:=[_]) rfl rfl zoT (by exact .nil) (zdc (I:=I9) hn hn2 (by omega) (fun r hr=>by rw [(hrr r hr).1];omega) hc0 64 I9 hRE (Vs rows.length) (ziJ hc0) (by omega)) rfl rfl ?_
  rintro vv10 I10 L10 hI10 ⟨rfl,aA,cA,rfl,hAll⟩
  have hre:=hre.mono hI10;have hT9:=hT9.mono hI10;have hC7:=hC7.mono hI10;have hB0:=hB0.trans hI10;have hD:=hD.trans hI10
  have htl:(rcF (stE rows l) (uF rows l) xs 64 (Vs rows.length)).length=(stE rows l).length:=zkT
  have hsp:=zjB (rows:=rows) (l:=l)
  have hMin:=zuF (xs:=zlj rows xs l) hAll (by omega) (by omega)
  refine Qb ?_
  refine zD hD ?_
  refine zT 6 rfl (ZF rfl) hD ?_
  refine QF (by kernel_rfl) ?_
  refine QO ?_
  refine Qa (zR (zM ?_))
  refine qc (vs:=[_]) rfl zoX (hMin) ?_
  refine zA ?_
  refine zN (zR ?_)
  refine zA (zN (Ql (zR ?_)))
  refine zV (Qe rfl QJ (fun hg=>by exact hC7.any)) ?_
  refine zQ Qw ?_
  refine zM (zN (Qm ?_))
  refine zU [(2,_),(3,_),(4,_),(12,_),(13,_),(29,_),(30,_),(64,_),(65,_)] (fun T L0 mz E I' loc'=>∃ (i:Nat) (v14:Value) (q14:Nat) (L14:Go.Kn.Loc),mz=(stE rows l).length-i∧E=(14,v14)::(66,.int .i64 i)::T∧I10=I'∧L14++L=loc'∧i≤(stE rows l).length∧OwnS 3 1 v14 q14 ((((stE rows l).take i).filter fun x=>zoP rows xs l x==Yo (zlj rows xs l)).flatMap QQ) L14∧q14≤i) ?_ (h:=⟨0,_,0,[],rfl,rfl,rfl,rfl,Nat.zero_le _,OwnS.nil,Nat.le_refl _⟩)
  rintro mz E I' loc' ⟨i,v14,q14,L14,rfl,rfl,rfl,rfl,hi,hO14,hq14⟩
  refine zR (zC (zN (Ql ?_)))
  refine zI ?_ ?_<;>intro hc67
  ·
   have hlt_i:i<(stE rows l).length:=by have h:=hc67;simp at h;omega
   obtain ⟨y,hst⟩:=hT9.at hlt_i
   have hax:(zlj rows xs l)[i]? =some (zoP rows xs l y):=by rw [zcI,List.getElem?_map,hst];rfl
   refine Qn (Qa (Ql (Qm (zR (zM ?_)))))
   refine zV (zX Qw hT9) ?_
   refine zV (Qe rfl Qr (fun hg=>by exact zAa hT9 hst rfl)) ?_
   refine zA ?_
   refine zA ?_
   refine zN (zR ?_)
   refine zM ?_
   refine zM ?_
   refine zV (zX Qw hAll) ?_
   refine zV (Qe rfl Qr (fun hg=>by exact zAa hAll hax rfl)) ?_
   refine zM ?_
   refine zC (zN ?_)
   refine zI ?_ ?_<;>intro hc76
   ·
    have hbf:(zoP rows xs l y==Yo (zlj rows xs l))=true:=hc76
    refine Qg (zM ?_)
    refine zM ?_
    refine Qq (ps:=[(0,_)]) (m:=[QQ y]) Zh rfl (.cons rfl (.nil)) rfl (by simp [Qv]) (by decide) (by decide) rfl rfl (fun b_79=>?_)
    refine QY (v:=_) (ys:=[y].flatMap QQ) (L:=L14) rfl rfl Zh hO14 (by repeat (first | exact .cons .here .nil | exact QD | exact Qx | apply QC | apply QB)) ⟨rfl,fun _=>rfl,by repeat (first | exact zAf | apply zAe | apply zAg)⟩ (Kk [y]) (by omega) rfl rfl ?_
    intro v9 L9 hO9 _;rw [←List.flatMap_append] at hO9
    refine zA (Qb (Qf (Qa (Qg ?_))))
    refine zB ?_
    refine zM (Qb ?_)
    first
    | exact zm (h:=⟨(stE rows l).length-(i+1),by omega,i+1,_,_,_,rfl,rfl,rfl,rfl,by omega,by rw [znr hst hbf];exact hO9,by omega⟩)
   have hbf:(zoP rows xs l y==Yo (zlj rows xs l))=false:=hc76
   refine Qn (Qf (Qa (Qg (zB ?_))))
   refine zM (Qb ?_)
   first
   | exact zm (h:=⟨(stE rows l).length-(i+1),by omega,i+1,_,_,_,rfl,rfl,rfl,rfl,by omega,by rw [zsx hst hbf];exact hO14,by omega⟩)
  have hge_i:(stE rows l).length≤i:=by have h:=hc67;simp at h;omega
  rw [List.take_of_length_le hge_i] at hO14
  obtain ⟨va14,vc14,rfl⟩:=zd6 hO14
  have hrf:(stE rows l).filter (fun x=>zoP rows xs l x==Yo (zlj rows xs l))=JF rows xs l:=rfl
  have hq9:q14=(JF rows xs l).length:=by have h1:=hO14.1;rw [ZT Qv,hrf] at h1;omega
  subst hq9
  refine QI (Qh (Qh (Qk (Qa ?_))))
  refine Vr hO14 Qv (by decide) (by repeat (first | exact .cons .here .nil | exact QD | exact Qx | apply QC | apply QB)) (fun I12 hI12 af12 cf12 ef12 hR14=>?_)
  cases ef12
  have hre:=hre.mono hI12;have hB0:=hB0.trans hI12
  refine Qg (zM ?_)
  refine zM ?_
  refine Qq (ps:=[(0,_)]) (m:=[XI ⟨va14,(JF rows xs l).length,vc14⟩]) zbl rfl (.cons rfl (.nil)) rfl (by simp [Zb]) (by decide) (by decide) rfl rfl (fun b_84=>?_)
  refine QY (v:=_) (ys:=[(⟨va14,(JF rows xs l).length,vc14⟩:Hd)].flatMap XI) (L:=L) rfl rfl zbl hO4 (by repeat (first | exact .cons .here .nil | exact QD | exact Qx | apply QC | apply QB)) ⟨rfl,fun _=>rfl,by repeat (first | exact zAf | apply zAe | apply zAg)⟩ (zwr _) (by omega) rfl rfl ?_
  intro v8 L8 hO8 _;rw [←List.flatMap_append] at hO8
  refine zA (Qb (Qf (Qa (Qg ?_))))
  refine zB ?_
  refine zM (Qb ?_)
  exact zm (h:=⟨x0.n-(l+1),by omega,l+1,_,_,_,rfl,rfl,hB0,rfl,by omega,hO8,by rw [zag];exact hre.snoc (hd:=⟨va14,(JF rows xs l).length,vc14⟩) (by rw [←hrf];exact hR14)⟩)
 have hge_l:l=x0.n:=by have h:=hc31;simp at h;omega
 refine QI (Qh (Qh (Qk (Qa (zR (zM ?_))))))
 refine zA ?_
 refine zA (zN (Qt ?_))
 first
 | exact ZA rfl rfl rfl (fun w hw=>by obtain ⟨I9,av9,c9,h1',h2',e9,h4'⟩:=OwnS.freeze (R:=[]) hO4 Zb (by decide) (by rw [List.append_nil];exact hw);cases e9;exact ⟨_,I9,[],rfl,hIc.trans h1',h2',rfl,va4,vc4,by rw [XT hcE,List.length_map,List.length_range,hg0,hx0l,hcE,←hge_l],by rw [XT hcE,List.length_map,List.length_range,hg0,hx0l,←hge_l];exact ⟨os,h4',hre.mono h1'⟩⟩)
end
section
open Go Go.Kn Go.Proofs
theorem ztR:Fun Tryz.prog 62:=.of Tryz.func62 (by kernel_rfl) (by kernel_rfl)
theorem KC:SlT Tryz.prog 24 67 3:=.of (by kernel_rfl)
theorem zsC {I:Qu}{bv:Option Addr}{n2 c2:Nat}{rows:List (List Int)}(hV:SlN I bv n2 c2 rows)(av:Option Addr)(n c:Nat)(ev:Option Addr)(n4 c4:Nat):Zy Tryz.prog 29 [.slice bv n2 c2,.slice av n c,.slice ev n4 c4] I (.bool (zlA rows&&decide ((n:Int)≤40)&&decide ((n4:Int)≤40))):=by
 intro g H w hw
 refine qe Tryz.func29 Tryz.ntmps29 hw ?_
 refine zR (zA ?_)
 refine zN (zR ?_)
 refine zM ?_
 refine qc (vs:=[_]) rfl ztR (zyy hV) ?_
 refine zA ?_
 refine zN (zR ?_)
 refine zM ?_
 refine zM ?_
 refine QH 1 rfl rfl rfl ?_
 refine zK (Qi rfl) ?_
 refine zK (Zr rfl Qw) ?_
 refine zK (QG rfl rfl rfl) ?_
 refine QP rfl rfl rfl rfl rfl ?_
 refine zM ?_
 refine QH 6 rfl rfl rfl ?_
 refine zK (Qi rfl) ?_
 refine zK (Zr rfl KC) ?_
 refine zK (QG rfl rfl rfl) ?_
 refine QP rfl rfl rfl rfl rfl ?_
 refine zA (zN (Qt ?_))
 exact zr rfl rfl (by cases zlA rows<;>cases decide ((n:Int)≤40)<;>rfl)
end
section
open Go Go.Kn Go.Proofs
structure Dg where
 n:Int
 lo:Int
 hi:Int
 b:Int
def zjJ (d:Dg):List Value:=[.int .i64 d.n,.int .i64 d.lo,.int .i64 d.hi,.int .i64 d.b]
theorem zf6 (d:Dg):(zjJ d).length=4:=rfl
def zhh (d:Dg):Bool:=decide (d.n<d.lo)||decide (d.n>d.hi)
def zl0 (c:Int)(d:Dg):Int:=orI (IntKind.i64.wrap (c*2^(min d.b.toNat IntKind.i64.bits))) d.n
def Vj (c:Int):List Dg→Option Int
 | []=>some c
 | d::ds=>if zhh d=true then none else Vj (zl0 c d) ds
theorem zlK {c:Int}{ds:List Dg}{k:Nat}{d:Dg}(h:ds[k]? =some d)(hb:zhh d=true):Vj c (ds.drop k)=none:=by
 rw [ZO h];unfold Vj;rw [if_pos hb]
theorem ziD {c:Int}{ds:List Dg}{k:Nat}{d:Dg}(h:ds[k]? =some d)(hb:zhh d=false):Vj c (ds.drop k)=Vj (zl0 c d) (ds.drop (k+1)):=by
 rw [ZO h]
 show (if zhh d=true then none else Vj (zl0 c d) (ds.drop (k+1)))=_
 rw [if_neg (by rw [hb];decide)]
theorem zlM {c:Int}{ds:List Dg}{k:Nat}(h:ds.length≤k):Vj c (ds.drop k)=some c:=by rw [List.drop_eq_nil_of_le h];rfl
end
section
open Go Go.Kn Go.Proofs
theorem zr7:AgT Tryz.prog 165 4:=.of (by kernel_rfl)
theorem zaT:QZ Tryz.prog 165 0 0:=.of (by kernel_rfl)
theorem zjb:QZ Tryz.prog 165 1 1:=.of (by kernel_rfl)
theorem zhZ:QZ Tryz.prog 165 2 2:=.of (by kernel_rfl)
theorem zke:QZ Tryz.prog 165 3 3:=.of (by kernel_rfl)
theorem zjx:SlT Tryz.prog 218 165 4:=.of (by kernel_rfl)
theorem zsk:SzT Tryz.prog 165 4:=.of (by kernel_rfl)
theorem zvv:Yu Tryz.prog 165 (.agg #[(.int .i64 0),(.int .i64 0),(.int .i64 0),(.int .i64 0)]):=.of (by kernel_rfl)
theorem zu1 {I:Qu}{av:Option Addr}{n c:Nat}{ds:List Dg}(hS:Sl I 4 zjJ av n c ds)(hn:n≤100000)(hb:∀ d∈ds,0≤d.b):Zy Tryz.prog 85 [.slice av n c] I (.tuple #[.int .i64 ((Vj 0 ds).getD 0),.bool (Vj 0 ds).isSome]):=by
 intro g H w hw
 refine qe Tryz.func85 Tryz.ntmps85 hw ?_
 refine zR (zA ?_)
 refine zA (zN (Ql (zR ?_)))
 refine zM ?_
 refine zQ zjx ?_
 refine zM (zN (Qm ?_))
 refine zU [(6,_),(7,_)] (fun T L0 mz E I' loc'=>∃ (k:Nat) (a:Int),mz=n-k∧E=(2,.int .i64 a)::(8,.int .i64 k)::T∧I=I'∧[]=loc'∧k≤n∧Vj 0 ds=Vj a (ds.drop k)) ?_ (h:=⟨0,0,rfl,rfl,rfl,rfl,Nat.zero_le _,rfl⟩)
 rintro mz E I' loc' ⟨k,a,rfl,rfl,rfl,rfl,hk,hpk⟩
 refine zR (zC (zN (Ql ?_)))
 refine zI ?_ ?_<;>intro hc9
 ·
  have hlt_k:k<n:=by have h:=hc9;simp at h;omega
  obtain ⟨d,hd⟩:=hS.at hlt_k
  have hbd:=hb d (List.mem_of_getElem? hd)
  refine Qn (Qa (Ql (Qm (zR ?_))))
  refine zV (zX zjx hS) ?_
  refine zV (Qo rfl zr7 (fun hg=>by exact zAi hS hd) rfl) ?_
  refine Qs zvv rfl rfl (fun b_5=>?_)
  refine zh zsk ?_
  refine zN (Ql (zR ?_))
  refine zF zaT ?_
  refine zL Qr ?_
  refine zF zjb ?_
  refine zL Qr ?_
  refine zC ?_
  refine zM ?_
  refine QR 5 rfl rfl rfl ?_
  refine zJ (Qd rfl zaT) ?_
  refine zJ (Qe rfl Qr (fun hg=>by exact QT.h0 rfl)) ?_
  refine zJ (Qd rfl zhZ) ?_
  refine zJ (Qe rfl Qr (fun hg=>by exact QT.h0 rfl)) ?_
  refine zJ (QG rfl rfl rfl) ?_
  refine Zo rfl rfl rfl rfl rfl ?_
  refine zN ?_
  refine zI ?_ ?_<;>intro hc23
  ·
   rw [zlK hd hc23] at hpk
   refine zR (zA ?_)
   refine zA (zN (Qt (Qc (Qp (Qc (Qc (Qp ?_)))))))
   refine Qc ?_
   first
   | exact ZA rfl rfl rfl (fun w hw=>⟨by rw [hpk];rfl,hw.drop⟩)
  refine Qn (Qa ?_)
  refine YF mixed (by kernel_rfl) ?_
  refine zq (Qi rfl) ?_
  refine zq (Qd rfl zke) ?_
  refine zq (Qe rfl Qr (fun hg=>by exact QT.h0 rfl)) ?_
  refine zq (zaa rfl rfl (fun hg=>by exact hbd)) ?_
  refine zq (Qd rfl zaT) ?_
  refine zq (Qe rfl Qr (fun hg=>by exact QT.h0 rfl)) ?_
  refine zq (zyY rfl rfl) ?_
  refine zq (ZF rfl) ?_
  refine YK ?_
  refine Qf (Qa (Qg (zB ?_)))
  refine zM (Qb ?_)
  exact zm (h:=⟨n-(k+1),by omega,k+1,zl0 a d,rfl,rfl,rfl,rfl,by omega,by rw [hpk,ziD hd hc23]⟩)
 have hge_k:n≤k:=by have h:=hc9;simp at h;omega
 rw [zlM (by rw [hS.len];exact hge_k)] at hpk
 refine QI (Qh (Qh (Qk (Qa (zR (zM ?_))))))
 refine zA ?_
 refine zA (zN (Qt ?_))
 first
 | exact ZA rfl rfl rfl (fun w hw=>⟨by rw [hpk];rfl,hw.drop⟩)
end
section
open Go Go.Kn Go.Proofs
structure Sg where
 id:Int
 role:Int
 bar:Int
 mark:Int
 kind:Int
 side:Int
 dir:Int
 level:Int
 size:Int
 wth:Int
 fn:Int
 fd:Int
 tn:Int
 td:Int
def YU (x:Sg):List Value:=[.int .i64 x.id,.int .i64 x.role,.int .i64 x.bar,.int .i64 x.mark,.int .i64 x.kind,.int .i64 x.side,.int .i64 x.dir,.int .i64 x.level,.int .i64 x.size,.int .i64 x.wth,.int .i64 x.fn,.int .i64 x.fd,.int .i64 x.tn,.int .i64 x.td]
def JO (x:Sg):Value:=.agg (YU x).toArray
theorem Z6 (x:Sg):(YU x).length=14:=rfl
def dgs (x:Sg):List Dg:=[⟨x.role,0,63,6⟩,⟨x.kind,1,9,4⟩,⟨x.side,0,2,2⟩,⟨x.dir,0,8,4⟩,⟨x.level,0,3,2⟩,⟨x.size,0,255,8⟩,⟨x.wth,0,64,7⟩]
theorem zzi (x:Sg):∀ d∈dgs x,0≤d.b:=fun d h=>by
 unfold dgs at h
 simp only [List.mem_cons,List.not_mem_nil,or_false] at h
 rcases h with rfl | rfl | rfl | rfl | rfl | rfl | rfl<;>simp
def Wn (x:Sg):Int:=(Vj 0 (dgs x)).getD 0
def KI (x:Sg):Int:=if (Vj 0 (dgs x)).isSome=true then 0 else 410
theorem zlg {x:Sg}(h:(Vj 0 (dgs x)).isSome=false):Wn x=0∧KI x=410:=by
 have:Vj 0 (dgs x)=none:=by cases hp:Vj 0 (dgs x) with
  | none=>rfl
  | some c=>rw [hp] at h;cases h
 unfold Wn KI
 rw [this];exact ⟨rfl,rfl⟩
theorem znh {x:Sg}(h:(Vj 0 (dgs x)).isSome=true):KI x=0:=by unfold KI;rw [if_pos h]
end
section
open Go Go.Kn Go.Proofs
theorem zp6:ElT Tryz.prog 218 165 4 32:=.of (by kernel_rfl)
theorem Jo:QZ Tryz.prog 54 1 1:=.of (by kernel_rfl)
theorem XS:QZ Tryz.prog 54 4 4:=.of (by kernel_rfl)
theorem Jr:QZ Tryz.prog 54 5 5:=.of (by kernel_rfl)
theorem Jj:QZ Tryz.prog 54 6 6:=.of (by kernel_rfl)
theorem Jm:QZ Tryz.prog 54 7 7:=.of (by kernel_rfl)
theorem Jf:QZ Tryz.prog 54 8 8:=.of (by kernel_rfl)
theorem Jp:QZ Tryz.prog 54 9 9:=.of (by kernel_rfl)
theorem zuJ:Fun Tryz.prog 85:=.of Tryz.func85 (by kernel_rfl) (by kernel_rfl)
theorem UJ:PlT Tryz.prog 165 #[(0,1),(1,1),(2,1),(3,1)] (.agg #[(.int .i64 0),(.int .i64 0),(.int .i64 0),(.int .i64 0)]):=⟨.of (by kernel_rfl),by kernel_rfl,fun w=>by kernel_rfl⟩
theorem zog (I:Qu)(x:Sg):Zy Tryz.prog 47 [JO x] I (.tuple #[.int .i64 (Wn x),.int .i64 (KI x)]):=by
 intro g H w hw
 refine qe Tryz.func47 Tryz.ntmps47 hw ?_
 have hIc:=zAh I
 refine zR ?_
 refine Q2 rfl rfl rfl (fun b_1=>?_)
 refine zA ?_
 refine zA ?_
 refine zN (zR ?_)
 refine zF Jo ?_
 refine zL Qr ?_
 refine zV (QS (ps:=[(0,_),(1,_),(2,_),(3,_)]) [_,_,_,_] UJ rfl rfl) ?_
 refine zF XS ?_
 refine zL Qr ?_
 refine zV (QS (ps:=[(0,_),(1,_),(2,_),(3,_)]) [_,_,_,_] UJ rfl rfl) ?_
 refine zF Jr ?_
 refine zL Qr ?_
 refine zV (QS (ps:=[(0,_),(1,_),(2,_),(3,_)]) [_,_,_,_] UJ rfl rfl) ?_
 refine zF Jj ?_
 refine zL Qr ?_
 refine zV (QS (ps:=[(0,_),(1,_),(2,_),(3,_)]) [_,_,_,_] UJ rfl rfl) ?_
 refine zF Jm ?_
 refine zL Qr ?_
 refine zV (QS (ps:=[(0,_),(1,_),(2,_),(3,_)]) [_,_,_,_] UJ rfl rfl) ?_
 refine zF Jf ?_
 refine zL Qr ?_
 refine zV (QS (ps:=[(0,_),(1,_),(2,_),(3,_)]) [_,_,_,_] UJ rfl rfl) ?_
 refine zF Jp ?_
 refine zL Qr ?_
 refine zV (QS (ps:=[(0,_),(1,_),(2,_),(3,_)]) [_,_,_,_] UJ rfl rfl) ?_
 refine Qq (ps:=[(0,_),(1,_),(2,_),(3,_),(4,_),(5,_),(6,_)]) (m:=[zjJ ⟨x.role,0,63,6⟩,zjJ ⟨x.kind,1,9,4⟩,zjJ ⟨x.side,0,2,2⟩,zjJ ⟨x.dir,0,8,4⟩,zjJ ⟨x.level,0,3,2⟩,zjJ ⟨x.size,0,255,8⟩,zjJ ⟨x.wth,0,64,7⟩]) zp6 rfl (.cons rfl (.cons rfl (.cons rfl (.cons rfl (.cons rfl (.cons rfl (.cons rfl (.nil)))))))) rfl (by simp [zf6]) (by decide) (by decide) rfl rfl (fun b_27=>?_)
 refine ZW (b:=b_27) (by repeat (first | exact Q8.here | apply Q8.there)) (fun I1 hI1 hb1=>?_)
 have hIc:=hIc.trans hI1
 have hDg:Sl I1 4 zjJ (some ⟨b_27,0,none⟩) 7 7 (dgs x):=Sl.lit (dgs x) rfl zf6 (show _=some (Obj.cells ((dgs x).flatMap zjJ).toArray 165 (0,0)) from hb1)
 refine qc (vs:=[_]) rfl zuJ (zu1 hDg (by decide) (zzi x)) ?_
 refine zM ?_
 refine zE ?_
 refine zE ?_
 refine zA ?_
 refine zA (zN (Ql (zR ?_)))
 refine zM ?_
 refine zO (zN ?_)
 refine zI ?_ ?_<;>intro hc32
 ·
  have hp0:(Vj 0 (dgs x)).isSome=false:=by simpa using hc32
  obtain ⟨k1,k2⟩:=zlg hp0
  refine zR (zA ?_)
  refine zA (zN (Qt (Qc ?_)))
  exact ZA rfl rfl rfl (fun w hw=>⟨by rw [k1,k2],(hw.mono hIc).drop⟩)
 have hp0:(Vj 0 (dgs x)).isSome=true:=by simpa using hc32
 have k2:=znh hp0
 refine Qn (Qa (zR (zM ?_)))
 refine zA ?_
 refine zA (zN (Qt ?_))
 first
 | exact ZA rfl rfl rfl (fun w hw=>⟨by rw [k2];rfl,(hw.mono hIc).drop⟩)
end
section
open Go Go.Kn Go.Proofs
theorem zm5:((List.range 9).all fun b=>decide (0≤IntKind.i64.wrap (1*2^(min ((b:Nat):Int).toNat IntKind.i64.bits))∧IntKind.i64.wrap (1*2^(min ((b:Nat):Int).toNat IntKind.i64.bits))≤256))=true:=by kernel_rfl
theorem zqa {b:Nat}(h:b≤8):0≤IntKind.i64.wrap (1*2^(min ((b:Nat):Int).toNat IntKind.i64.bits))∧IntKind.i64.wrap (1*2^(min ((b:Nat):Int).toNat IntKind.i64.bits))≤256:=of_decide_eq_true (List.all_eq_true.1 zm5 b (List.mem_range.2 (by omega)))
theorem zqM (I:Qu)(r:Nat)(c:Int)(b:Nat)(hb:b≤8):Yf Tryz.prog 46 [.int .i64 b,Zc r] I [(r,.cells #[.int .i64 c] 3 (0,0))] (fun v I' L'=>v= .int .i64 (K3 c (IntKind.i64.wrap (1*2^(min (b:Int).toNat IntKind.i64.bits))-1))∧I'=I∧L'=[(r,.cells #[.int .i64 (c.fdiv (2^(min (b:Int).toNat IntKind.i64.bits)))] 3 (0,0))]):=by
 intro g H w hw
 refine qe Tryz.func46 Tryz.ntmps46 hw ?_
 have hmb:=zqa hb
 refine zR (zA (zN (Ql ?_)))
 refine YF mixed (by kernel_rfl) ?_
 refine zq (Qe rfl Qr (fun hg=>by exact QT.h0 rfl)) ?_
 refine zq (Qi rfl) ?_
 refine zq (zaa rfl rfl (fun hg=>by omega)) ?_
 refine zq (ZR rfl rfl rfl (fun _=>by omega)) ?_
 refine zq (zay rfl rfl) ?_
 refine zq (ZF rfl) ?_
 refine YK ?_
 refine Qa (zR ?_)
 refine zL Qr ?_
 refine zM ?_
 refine zV (zj3 rfl rfl (by omega) rfl) ?_
 refine zS Z2 ?_
 refine zN (zR ?_)
 refine zM ?_
 refine zA (zN (Qt ?_))
 exact Zx rfl rfl (fun w hw=>⟨_,I,_,rfl,zAh _,hw,rfl,rfl,rfl⟩)
end
section
open Go Go.Kn Go.Proofs
def lbN (b:Nat)(c:Int):Int:=K3 c (IntKind.i64.wrap (1*2^(min (b:Int).toNat IntKind.i64.bits))-1)
def shN (b:Nat)(c:Int):Int:=c.fdiv (2^(min (b:Int).toNat IntKind.i64.bits))
def zkv (c:Int):Sg:=⟨0,shN 4 (shN 2 (shN 4 (shN 2 (shN 8 (shN 7 c))))),0,0,lbN 4 (shN 2 (shN 4 (shN 2 (shN 8 (shN 7 c))))),lbN 2 (shN 4 (shN 2 (shN 8 (shN 7 c)))),lbN 4 (shN 2 (shN 8 (shN 7 c))),lbN 2 (shN 8 (shN 7 c)),lbN 8 (shN 7 c),lbN 7 c,0,0,0,0⟩
def znx:Sg:=⟨0,0,0,0,0,0,0,0,0,0,0,0,0,0⟩
def Vl (c:Int):Int:=KI (zkv c)
def UI (c:Int):Sg:=if Vl c≠0 then znx else zkv c
end
section
open Go Go.Kn Go.Proofs
theorem Q9:AgT Tryz.prog 54 14:=.of (by kernel_rfl)
theorem zbk:Fun Tryz.prog 46:=.of Tryz.func46 (by kernel_rfl) (by kernel_rfl)
theorem zn7:Fun Tryz.prog 47:=.of Tryz.func47 (by kernel_rfl) (by kernel_rfl)
theorem WD:PlT Tryz.prog 54 #[(0,1),(1,1),(2,1),(3,1),(4,1),(5,1),(6,1),(7,1),(8,1),(9,1),(10,2),(12,2)] (.agg #[(.int .i64 0),(.int .i64 0),(.int .i64 0),(.int .i64 0),(.int .i64 0),(.int .i64 0),(.int .i64 0),(.int .i64 0),(.int .i64 0),(.int .i64 0),(.int .i64 0),(.int .i64 0),(.int .i64 0),(.int .i64 0)]):=⟨.of (by kernel_rfl),by kernel_rfl,fun w=>by kernel_rfl⟩
theorem Ye:SzT Tryz.prog 54 14:=.of (by kernel_rfl)
theorem Wv:Yu Tryz.prog 54 (.agg #[(.int .i64 0),(.int .i64 0),(.int .i64 0),(.int .i64 0),(.int .i64 0),(.int .i64 0),(.int .i64 0),(.int .i64 0),(.int .i64 0),(.int .i64 0),(.int .i64 0),(.int .i64 0),(.int .i64 0),(.int .i64 0)]):=.of (by kernel_rfl)
theorem W8 (I:Qu)(r:Nat)(c:Int)(b:Nat)(hb:b≤8):Yf Tryz.prog 46 [.int .i64 b,Zc r] I [(r,.cells #[.int .i64 c] 3 (0,0))] (fun v I' L'=>v= .int .i64 (lbN b c)∧I'=I∧L'=[(r,.cells #[.int .i64 (shN b c)] 3 (0,0))]):=zqM I r c b hb
set_option maxHeartbeats 1600000 in
theorem zga (I:Qu) (c:Int):Zy Tryz.prog 23 [.int .i64 c] I (.tuple #[JO (UI c),.int .i64 (Vl c)]):=by
 intro g H w hw
 refine qe Tryz.func23 Tryz.ntmps23 hw ?_
 have hIc:=zAh I
 refine zR ?_
 refine Qs Wv rfl rfl (fun b_2=>?_)
 refine zA ?_
 refine zN (zR ?_)
 refine zM ?_
 refine Qs zvz rfl rfl (fun b_4=>?_)
 refine zS Z2 ?_
 refine zN (zR ?_)
 refine zV (Zd (us:=[]) (vs:=[_]) rfl rfl) ?_
 refine zA ?_
 refine zN (zR ?_)
 refine zM ?_
 refine Qz (cap:=[Zc b_4]) (vs:=[_]) rfl rfl zbk (by repeat (first | exact .cons .here .nil | exact QD | exact Qx | apply QC | apply QB)) (W8 _ b_4 c 7 (by decide)) rfl rfl ?_
 rintro vv1 I1 L1 hI1 ⟨rfl,rfl,rfl⟩
 have hIc:=hIc.trans hI1
 refine zF Jp ?_
 refine zS Z2 ?_
 refine zN (zR ?_)
 refine zM ?_
 refine Qz (cap:=[Zc b_4]) (vs:=[_]) rfl rfl zbk (by repeat (first | exact .cons .here .nil | exact QD | exact Qx | apply QC | apply QB)) (W8 _ b_4 (shN 7 c) 8 (by decide)) rfl rfl ?_
 rintro vv2 I2 L2 hI2 ⟨rfl,rfl,rfl⟩
 have hIc:=hIc.trans hI2
 refine zF Jf ?_
 refine zS Z2 ?_
 refine zN (zR ?_)
 refine zM ?_
 refine Qz (cap:=[Zc b_4]) (vs:=[_]) rfl rfl zbk (by repeat (first | exact .cons .here .nil | exact QD | exact Qx | apply QC | apply QB)) (W8 _ b_4 (shN 8 (shN 7 c)) 2 (by decide)) rfl rfl ?_
 rintro vv3 I3 L3 hI3 ⟨rfl,rfl,rfl⟩
 have hIc:=hIc.trans hI3
 refine zF Jm ?_
 refine zS Z2 ?_
 refine zN (zR ?_)
 refine zM ?_
 refine Qz (cap:=[Zc b_4]) (vs:=[_]) rfl rfl zbk (by repeat (first | exact .cons .here .nil | exact QD | exact Qx | apply QC | apply QB)) (W8 _ b_4 (shN 2 (shN 8 (shN 7 c))) 4 (by decide)) rfl rfl ?_
 rintro vv4 I4 L4 hI4 ⟨rfl,rfl,rfl⟩
 have hIc:=hIc.trans hI4
 refine zF Jj ?_
 refine zS Z2 ?_
 refine zN (zR ?_)
 refine zM ?_
 refine Qz (cap:=[Zc b_4]) (vs:=[_]) rfl rfl zbk (by repeat (first | exact .cons .here .nil | exact QD | exact Qx | apply QC | apply QB)) (W8 _ b_4 (shN 4 (shN 2 (shN 8 (shN 7 c)))) 2 (by decide)) rfl rfl ?_
 rintro vv5 I5 L5 hI5 ⟨rfl,rfl,rfl⟩
 have hIc:=hIc.trans hI5
 refine zF Jr ?_
 refine zS Z2 ?_
 refine zN (zR ?_)
 refine zM ?_
 refine Qz (cap:=[Zc b_4]) (vs:=[_]) rfl rfl zbk (by repeat (first | exact .cons .here .nil | exact QD | exact Qx | apply QC | apply QB)) (W8 _ b_4 (shN 2 (shN 4 (shN 2 (shN 8 (shN 7 c))))) 4 (by decide)) rfl rfl ?_
 rintro vv6 I6 L6 hI6 ⟨rfl,rfl,rfl⟩
 have hIc:=hIc.trans hI6
 refine zF XS ?_
 refine zS Z2 ?_
 refine zN (zR ?_)
 refine zL Qr ?_
 refine zF Jo ?_
 refine zS Z2 ?_
 refine zN (Ql (zR ?_))
 refine zV (Qo rfl Q9 (fun hg=>by exact Cells.g1) rfl) ?_
 refine qc (vs:=[_]) rfl zn7 (zog _ (zkv c)) ?_
 refine zM ?_
 refine zE ?_
 refine zE ?_
 refine zA ?_
 refine zN (zR ?_)
 refine zM ?_
 refine zC (zN ?_)
 refine zI ?_ ?_<;>intro hc34
 ·
  have he:Vl c≠0:=by unfold Vl;simpa using hc34
  have k1:UI c=znx:=if_pos he
  have he9:Vl c=KI (zkv c):=rfl
  refine zR ?_
  refine zV (QS (ps:=[]) [_,_,_,_,_,_,_,_,_,_,_,_,_,_] WD rfl rfl) ?_
  refine zM ?_
  refine zh Ye ?_
  refine zA (zN (Qt (Qc ?_)))
  exact Zu rfl rfl rfl Q9 (by repeat (first | exact zAf | apply zAe)) rfl (fun w hw=>⟨by rw [k1,he9];rfl,(hw.mono hIc).drop⟩)
 have he:Vl c=0:=by unfold Vl;simpa using hc34
 have k1:UI c=zkv c:=if_neg (by omega)
 have he9:=he
 refine Qn (Qa (zR ?_))
 refine zV (Qo rfl Q9 (fun hg=>by exact Cells.g1) rfl) ?_
 refine zh Ye ?_
 refine zA (zN (Qt ?_))
 exact Zu rfl rfl rfl Q9 (by repeat (first | exact zAf | apply zAe)) rfl (fun w hw=>⟨by rw [k1,he9];rfl,(hw.mono hIc).drop⟩)
end
section
open Go Go.Kn Go.Proofs
def zgW (x y:Int):Int:=if (x != y&&x != 8589934592&&y != 8589934592)=true then 3 else 0
end
section
open Go Go.Kn Go.Proofs
theorem zfs (I:Qu)(x y:Int):Zy Tryz.prog 104 [.int .i64 x,.int .i64 y] I (.int .i64 (zgW x y)):=by
 intro g H w hw
 refine qe Tryz.func104 Tryz.ntmps104 hw ?_
 refine zR (zA (zN (Ql (zR ?_))))
 refine zM ?_
 refine zM ?_
 refine zC ?_
 refine zM ?_
 refine QH 3 rfl rfl rfl ?_
 refine zK (Qi rfl) ?_
 refine zK (QG rfl rfl rfl) ?_
 refine QP rfl rfl rfl rfl rfl ?_
 refine zM ?_
 refine QH 7 rfl rfl rfl ?_
 refine zK (Qi rfl) ?_
 refine zK (QG rfl rfl rfl) ?_
 refine QP rfl rfl rfl rfl rfl ?_
 refine zN ?_
 refine zI ?_ ?_<;>intro hc15
 ·
  refine zR (zA (zN (Qt (Qc ?_))))
  first
  | exact zr rfl rfl (by unfold zgW;rw [if_pos (by assumption)])
 refine Qn (Qa (zR (zA (zN (Qt ?_)))))
 first
 | exact zr rfl rfl (by unfold zgW;rw [if_neg (by simp_all)])
end
section
open Go Go.Kn Go.Proofs
structure Rd where
 lost:Bool
 sg:Sg
def JJ (r:Rd):List Value:=.bool r.lost::YU r.sg
theorem Zs (r:Rd):(JJ r).length=15:=rfl
def YJ (r:Rd):Int:=if r.lost=true then 8589934592 else Wn r.sg
end
section
open Go Go.Kn Go.Proofs
theorem zbb:AgT Tryz.prog 60 15:=.of (by kernel_rfl)
theorem Vp:QZ Tryz.prog 60 0 0:=.of (by kernel_rfl)
theorem VP:QZ Tryz.prog 60 1 1:=.of (by kernel_rfl)
theorem Kr:QZ Tryz.prog 65 2 2:=.of (by kernel_rfl)
theorem zax:ScT Tryz.prog 4:=.of (by kernel_rfl)
theorem X2:ScT Tryz.prog 63:=.of (by kernel_rfl)
theorem Ww:SlT Tryz.prog 63 60 15:=.of (by kernel_rfl)
theorem zaH:SzT Tryz.prog 60 15:=.of (by kernel_rfl)
theorem zfd:Yu Tryz.prog 60 (.agg #[(.bool false),(.int .i64 0),(.int .i64 0),(.int .i64 0),(.int .i64 0),(.int .i64 0),(.int .i64 0),(.int .i64 0),(.int .i64 0),(.int .i64 0),(.int .i64 0),(.int .i64 0),(.int .i64 0),(.int .i64 0),(.int .i64 0)]):=.of (by kernel_rfl)
theorem Yt {I:Qu}{av:Option Addr}{n c:Nat}{rs:List Rd}(hR:Sl I 15 JJ av n c rs)(hn:n≤100000)(no yr:Int):Yf Tryz.prog 59 [.agg #[.int .i64 no,.int .i64 yr,.slice av n c]] I [] (zbv 1 QQ (rs.map YJ)):=by
 intro g H w hw
 refine qe Tryz.func59 Tryz.ntmps59 hw ?_
 have hIc:=zAh I
 refine zR ?_
 refine Q2 rfl rfl rfl (fun b_1=>?_)
 refine zA (zN (Ql (Ql ?_)))
 refine VJ (fun I1 hI1 hall=>?_)
 have hR:=hR.mono hI1;have hIc:=hIc.trans hI1
 have hCw:QT I1 [] b_1 2 (.slice av n c):=.imm (hall _ _ (by repeat (first | exact List.mem_cons_self .. | apply List.mem_cons_of_mem))) rfl
 refine Qg ?_
 refine zF Kr ?_
 refine zV (Qe rfl X2 (fun hg=>by exact hCw.any)) ?_
 refine zQ Ww ?_
 refine zM (zN (Qm ?_))
 refine zU [(7,_),(8,_)] (fun T L0 mz E I' loc'=>∃ (k:Nat) (v2:Value) (L:Go.Kn.Loc),mz=n-k∧E=(2,v2)::(9,.int .i64 k)::T∧I1=I'∧L=loc'∧k≤n∧OwnS 3 1 v2 k (((rs.take k).map YJ).flatMap QQ) L) ?_ (h:=⟨0,_,[],rfl,rfl,rfl,rfl,Nat.zero_le _,OwnS.nil⟩)
 rintro mz E I' loc' ⟨k,v2,L,rfl,rfl,rfl,rfl,hk,hO⟩
 refine zR (zC (zN (Ql ?_)))
 refine zI ?_ ?_<;>intro hc10
 ·
  have hlt_k:k<n:=by have h:=hc10;simp at h;omega
  obtain ⟨r,hr⟩:=hR.at hlt_k
  refine Qn (Qa (Ql (Qm (zR ?_))))
  refine zV (zX Ww hR) ?_
  refine zV (Qo rfl zbb (fun hg=>by exact zAi hR hr) rfl) ?_
  refine Qs zfd rfl rfl (fun b_4=>?_)
  refine zh zaH ?_
  refine zN (zR ?_)
  refine zA (zN (Ql (zR ?_)))
  refine zF Vp ?_
  refine zV (Qe rfl zax (fun hg=>by exact zAc rfl)) ?_
  refine zO (zN ?_)
  refine zI ?_ ?_<;>intro hc15
  ·
   have hlo:YJ r=Wn r.sg:=by unfold YJ;rw [if_neg (by simpa using hc15)]
   refine Qg ?_
   refine zF VP ?_
   refine zV (Qo rfl Q9 (fun hg=>by exact Cells.s0 (vs:=[_,_,_,_,_,_,_,_,_,_,_,_,_,_]) rfl) rfl) ?_
   refine qc (vs:=[_]) rfl zn7 (zog _ r.sg) ?_
   refine zM ?_
   refine zE ?_
   refine zE ?_
   refine zA (Qb ?_)
   rw [←hlo]
   refine Qa (Qg (zM ?_))
   refine zM ?_
   refine Qq (ps:=[(0,_)]) (m:=[QQ (YJ r)]) Zh rfl (.cons rfl (.nil)) rfl (by simp [Qv]) (by decide) (by decide) rfl rfl (fun b_24=>?_)
   refine QY (v:=_) (ys:=[YJ r].flatMap QQ) (L:=L) rfl rfl Zh hO (by repeat (first | exact .cons .here .nil | exact QD | exact Qx | apply QC | apply QB)) ⟨rfl,fun _=>rfl,by repeat (first | exact zAf | apply zAe | apply zAg)⟩ (Kk [YJ r]) (by omega) rfl rfl ?_
   intro v9 L9 hO9 _;rw [←List.flatMap_append] at hO9
   refine zA (Qb (Qf (Qa (Qg ?_))))
   refine zB ?_
   refine zM (Qb ?_)
   exact zm (h:=⟨n-(k+1),by omega,k+1,_,_,rfl,rfl,rfl,rfl,by omega,by rw [XM hr];exact hO9⟩)
  have hlo:YJ r=8589934592:=by unfold YJ;rw [if_pos (by simpa using hc15)]
  rw [←hlo]
  refine Qn (Qa (Qg (zM ?_)))
  refine zM ?_
  refine Qq (ps:=[(0,_)]) (m:=[QQ (YJ r)]) Zh rfl (.cons rfl (.nil)) rfl (by simp [Qv]) (by decide) (by decide) rfl rfl (fun b_24=>?_)
  refine QY (v:=_) (ys:=[YJ r].flatMap QQ) (L:=L) rfl rfl Zh hO (by repeat (first | exact .cons .here .nil | exact QD | exact Qx | apply QC | apply QB)) ⟨rfl,fun _=>rfl,by repeat (first | exact zAf | apply zAe | apply zAg)⟩ (Kk [YJ r]) (by omega) rfl rfl ?_
  intro v9 L9 hO9 _;rw [←List.flatMap_append] at hO9
  refine zA (Qb (Qf (Qa (Qg ?_))))
  refine zB ?_
  refine zM (Qb ?_)
  exact zm (h:=⟨n-(k+1),by omega,k+1,_,_,rfl,rfl,rfl,rfl,by omega,by rw [XM hr];exact hO9⟩)
 have hge_k:n≤k:=by have h:=hc10;simp at h;omega
 rw [ZH hR.len hge_k,show k=n by omega] at hO
 refine QI (Qh (Qh (Qk (Qa (zR (zM ?_))))))
 refine zA (zN (Qt ?_))
 exact Zx rfl rfl (fun w hw=>by obtain ⟨I9,h91,h92,h93⟩:=OwnS.res hO Qv (by decide) hw;exact ⟨_,I9,[],rfl,hIc.trans h91,h92,h93⟩)
end
section
open Go Go.Kn Go.Proofs
structure Wt where
 no:Int
 yr:Int
 a:Option Addr
 n:Nat
 c:Nat
def zlt (w:Wt):List Value:=[.int .i64 w.no,.int .i64 w.yr,.slice w.a w.n w.c]
theorem ZJ (w:Wt):(zlt w).length=3:=rfl
def zps (ws:List Wt):Bool:=decide (ws.length≤5)&&ws.all fun w=>decide (w.n≤8)
end
section
open Go Go.Kn Go.Proofs
theorem Y9:SlT Tryz.prog 35 65 3:=.of (by kernel_rfl)
theorem zu7 {I:Qu}{av:Option Addr}{n c:Nat}{ws:List Wt}(hW:Sl I 3 zlt av n c ws)(hn:n≤9223372036854775807):Zy Tryz.prog 28 [.slice av n c] I (.bool (zps ws)):=by
 intro g H w hw
 refine qe Tryz.func28 Tryz.ntmps28 hw ?_
 have hWl:=hW.len
 refine zR (zA (zN (Ql (zR ?_))))
 refine zM ?_
 refine zQ Y9 ?_
 refine zC (zN ?_)
 refine zI ?_ ?_<;>intro hc6
 ·
  have h5:¬ws.length≤5:=by have h:=hc6;simp at h;omega
  refine zR (zA (zN (Qt (Qc ?_))))
  first
  | exact zr rfl rfl (by unfold zps;rw [decide_eq_false h5];rfl)
 have h5:ws.length≤5:=by have h:=hc6;simp at h;omega
 refine Qn (Qa (Ql (zR (zA (zN (Qm ?_))))))
 refine zU [(0,_)] (fun T L0 mz E I' loc'=>∃ (k:Nat),mz=n-k∧E=(3,.int .i64 k)::T∧I=I'∧L0=loc'∧k≤n∧(ws.take k).all (fun w=>decide (w.n≤8))=true) ?_ (h:=⟨0,rfl,rfl,rfl,rfl,Nat.zero_le _,rfl⟩)
 rintro mz E I' loc' ⟨k,rfl,rfl,rfl,rfl,hk,hall⟩
 refine Ql (zR (zM ?_))
 refine zM ?_
 refine zQ Y9 ?_
 refine zC (zN ?_)
 refine zI ?_ ?_<;>intro hc10
 ·
  have hlt_k:k<n:=by have h:=hc10;simp at h;omega
  obtain ⟨x,hx⟩:=hW.at hlt_k
  refine Qn (Qa (Ql (Qm (zR (zM ?_)))))
  refine zM ?_
  refine zV (zX Y9 hW) ?_
  refine zF Kr ?_
  refine zV (Qe rfl X2 (fun hg=>by exact zAj hW hx rfl)) ?_
  refine zQ Ww ?_
  refine zC (zN ?_)
  refine zI ?_ ?_<;>intro hc19
  ·
   have h8:decide (x.n≤8)=false:=by have h:=hc19;simp at h;simp;omega
   refine zR (zA (zN (Qt (Qp (Qc (Qc (Qp ?_)))))))
   refine Qc ?_
   first
   | exact zr rfl rfl (by unfold zps;rw [List.all_eq_false.2 ⟨x,List.mem_of_getElem? hx,by rw [h8];decide⟩,Bool.and_false])
  have h8:decide (x.n≤8)=true:=by have h:=hc19;simp at h;simp;omega
  refine Qn (Qf (Qa (Qg (zM ?_))))
  refine zB ?_
  refine zA (Qb ?_)
  exact zm (h:=⟨n-(k+1),by omega,k+1,rfl,rfl,rfl,rfl,by omega,by rw [Z4 hx,List.all_append,hall];simpa using h8⟩)
 have hge_k:n≤k:=by have h:=hc10;simp at h;omega
 rw [List.take_of_length_le (by omega)] at hall
 refine QI (Qh (Qh (Qk (Qa (zR (zA (zN ?_)))))))
 refine Qt ?_
 first
 | exact zr rfl rfl (by unfold zps;rw [hall,decide_eq_true h5];rfl)
end
section
open Go Go.Kn Go.Proofs
def YC:Sg:=znx
def Yy (n lo hi:Int):Bool:=decide (n≥lo)&&decide (n≤hi)
/-! ### Ratios -/
def zhF (n:Int):Int:=if n<0 then 0-n else n
def zxM (a b:Int):Int:=(Int.gcd a b:Int)
def UO (n d:Int):Bool:= !(((((decide (d<1)||decide (d>1073741824))||decide (n< -1073741824))||decide (n>1073741824))||(zxM n d != 1)))
def zet (fn fd tn td:Int):Bool:=(UO fn fd&&UO tn td)&&(decide (fn*td<tn*fd)&&(decide (fn≥0)&&decide (tn≤td)))
/-! ### Signs -/
def zzC (k:Sg):Bool:=Yy k.id 0 1048576&&Yy k.role 0 63&&Yy k.bar 0 4095&&Yy k.kind 1 9&&Yy k.mark 1 3&&Yy k.side 0 2&&Yy k.dir 0 8&&Yy k.level 0 3&&Yy k.size 0 255&&Yy k.wth 0 64
def frm (k:Sg):Bool:=zzC k&&zet k.fn k.fd k.tn k.td
def skP (xs:List Sg)(i:Nat):Bool:= !(!frm (xs.getD i YC)||(decide ((i:Int)>0)&&decide ((xs.getD ((i:Int)-1).toNat YC).id≥(xs.getD i YC).id)))
def skB (xs:List Sg):Bool:=(List.range xs.length).all (skP xs)
def We (xs:List Sg):Int:=if xs.length>4096 then 2 else if skB xs then 0 else 360
def zze (n d:Int):List Value:=[.int .i64 n,.int .i64 d]
def zbp (n d:Int):Value:=.agg (zze n d).toArray
theorem zlf {n:Int}(h:0≤n∧n≤9223372036854775807):IntKind.u64.wrap n=n:=by
 unfold IntKind.wrap IntKind.signed IntKind.bits
 simp
 omega
theorem zsh {n:Int}(hn: -1073741824≤n∧n≤1073741824)(h:¬n<0):IntKind.u64.wrap n=zhF n:=by
 rw [zlf (by omega)]
 unfold zhF;rw [if_neg h]
theorem zrZ {n:Int}(hn: -1073741824≤n∧n≤1073741824)(h:n<0):IntKind.u64.wrap (0-IntKind.u64.wrap n)=zhF n:=by
 unfold zhF;rw [if_pos h]
 unfold IntKind.wrap IntKind.signed IntKind.bits
 simp
 omega
def zwp (t b1 b2:Nat)(a b:Int):Go.Kn.Loc:=[(b2,.cells #[.int .u64 b] t (0,0)),(b1,.cells #[.int .u64 a] t (0,0))]
def zcO (a b:Nat):List Nat:=if a=0 then [] else if b=0 then [a,0] else if a % b=0 then [a,b] else a::zcO b (a % b)
termination_by b
decreasing_by exact Nat.mod_lt _ (by omega)
theorem zc3 (b:Nat):zcO 0 b=[]:=by rw [zcO];rfl
theorem zbE {a b:Nat}(ha:a≠0)(hb:b≠0)(h:a % b=0):zcO a b=[a,b]:=by rw [zcO,if_neg ha,if_neg hb,if_pos h]
theorem zc4 {a b:Nat}(ha:a≠0)(hb:b≠0)(h:a % b≠0):zcO a b=a::zcO b (a % b):=by rw [zcO,if_neg ha,if_neg hb,if_neg h]
theorem zlU:∀ (m:Nat) {a b d:Nat},b≤m→b≠0→(a=0→d=b)→(zcO a b).getLastD d=Nat.gcd a b:=by
 intro m
 induction m with
 | zero=>intro a b d h1 h2;omega
 | succ m ih=>
  intro a b d h1 h2 hd
  by_cases ha:a=0
  ·
   subst ha;rw [zc3,Nat.gcd_zero_left,hd rfl];rfl
  ·
   by_cases h:a % b=0
   ·
    rw [zbE ha h2 h]
    show b=_
    rw [Nat.gcd_comm,Nat.gcd_rec,h,Nat.gcd_zero_left]
   ·
    rw [zc4 ha h2 h,List.getLastD_cons,ih (by have:=Nat.mod_lt a (show 0<b by omega);omega) h (fun e=>absurd e h2)]
    rw [Nat.gcd_comm b,←Nat.gcd_rec,Nat.gcd_comm]
theorem znY (a b:Nat):((a:Int)).tmod (b:Int)=((a % b:Nat):Int):=by
 rw [Int.tmod_eq_emod_of_nonneg (by omega)];rfl
theorem znH {a b:Int}(ha: -1073741824≤a∧a≤1073741824)(hb: -1073741824≤b∧b≤1073741824): -9223372036854775808≤a*b∧a*b≤9223372036854775807:=by
 have h1:(a*b).natAbs≤1073741824*1073741824:=by
  rw [Int.natAbs_mul]
  exact Nat.mul_le_mul (by omega) (by omega)
 omega
def ztB (n d:Int):Int:=if UO n d then 0 else 120
theorem zcy {n d:Int}(h:UO n d=true):(1≤d∧d≤1073741824)∧ -1073741824≤n∧n≤1073741824:=by
 unfold UO at h
 simp at h
 omega
theorem zq2 (n d:Int):Nat.gcd (zhF n).toNat d.toNat=Int.gcd n d.toNat:=by
 unfold Int.gcd zhF
 congr 1
 split<;>omega
theorem Ze {b:Nat}(h:0<b):ztl (b:Int) 1=(b:Int):=by
 unfold ztl
 split<;>omega
theorem zkh {a0 b0 a b:Nat}{pre:List Nat}(h:zcO a0 b0=pre++zcO a b)(ha:a≠0):pre++[a]<+:zcO a0 b0:=by
 rw [h,zcO,if_neg ha]
 have key:∀ l:List Nat,pre++[a]<+:pre++a::l:=fun l=>⟨l,by simp⟩
 split
 ·
  exact key _
 ·
  split<;>exact key _
theorem ziz {l:List Nat}{x d:Nat}:(l++[x]).getLastD d=x:=by simp [List.getLastD_eq_getLast?]
theorem zrv {n d:Int}(h:((((decide (d<1)||decide (d>1073741824))||decide (n< -1073741824))||decide (n>1073741824))||(zxM n d != 1))=true):UO n d=false:=by unfold UO;rw [h];rfl
theorem znp {n d:Int}(h:((((decide (d<1)||decide (d>1073741824))||decide (n< -1073741824))||decide (n>1073741824))||(zxM n d != 1))=false):UO n d=true:=by unfold UO;rw [h];rfl
theorem zcn {fn fd tn td:Int}:(ztB fn fd != 0||ztB tn td != 0)= !(UO fn fd&&UO tn td):=by
 unfold ztB
 cases UO fn fd<;>cases UO tn td<;>rfl
def zlw (an ad bn bd:Int):Int:=if UO an ad&&UO bn bd then 0 else 120
def zi7 (an ad bn bd:Int):Int:=if UO an ad&&UO bn bd then zty (an*bd) (bn*ad) else 0
theorem zel {fn fd tn td:Int}:(((zlw fn fd tn td==0)&&decide (zi7 fn fd tn td<0))&&decide (fn≥0)&&decide (tn≤td))=zet fn fd tn td:=by
 unfold zlw zi7 zet zty
 cases h:(UO fn fd&&UO tn td) with
 | false=>rfl
 | true=>
  simp only [if_true,Bool.true_and]
  by_cases h2:fn*td<tn*fd
  ·
   simp [h2]
  ·
   by_cases h3:fn*td>tn*fd<;>simp [h2,h3]
theorem zdV {xs:List Sg}{k:Nat}{x:Sg}(hx:xs[k]? =some x):skP xs k= !(!frm x||(decide ((k:Int)>0)&&decide ((xs.getD ((k:Int)-1).toNat YC).id≥x.id))):=by unfold skP;rw [QU hx]
end
end Go.Proofs.YtodakphagkommaaGreatDoor
namespace Go.Kn
section
open Go
structure Kp (p:Prop):Prop where
 out:p
theorem zzZ {p q:Prop}(h1:Kp p→q)(h2:p):q:=h1 ⟨h2⟩
theorem ZS {C:Cx}{Q:Exit→Act→World→Prop}{e:Exit}{E E':Env}{I:Qu}{loc:Loc}(h:Kp (At C Q e E' I loc))(hE:Sub E' E:=by repeat (first | exact Sub.nil | refine Sub.cons rfl ?_)):At C Q e E I loc:=
 fun a w ha hw=>h.out a w (ha.sub hE) hw
end
end Go.Kn
namespace Go.Proofs.YtodakphagkommaaGreatDoor
section
open Go Go.Kn Go.Proofs
theorem Vf:AgT Tryz.prog 52 2:=.of (by kernel_rfl)
theorem Vw:QZ Tryz.prog 52 0 0:=.of (by kernel_rfl)
theorem Jd:QZ Tryz.prog 52 1 1:=.of (by kernel_rfl)
theorem ZM:QZ Tryz.prog 54 0 0:=.of (by kernel_rfl)
theorem YZ:QZ Tryz.prog 54 10 10:=.of (by kernel_rfl)
theorem Y2:QZ Tryz.prog 54 11 12:=.of (by kernel_rfl)
theorem Je:QZ Tryz.prog 54 2 2:=.of (by kernel_rfl)
theorem Y4:QZ Tryz.prog 54 3 3:=.of (by kernel_rfl)
theorem zeK:Fun Tryz.prog 142:=.of Tryz.func142 (by kernel_rfl) (by kernel_rfl)
theorem zjH:Fun Tryz.prog 154:=.of Tryz.func154 (by kernel_rfl) (by kernel_rfl)
theorem WW:Fun Tryz.prog 192:=.of Tryz.func192 (by kernel_rfl) (by kernel_rfl)
theorem Yi:Fun Tryz.prog 202:=.of Tryz.func202 (by kernel_rfl) (by kernel_rfl)
theorem zkR:Fun Tryz.prog 203:=.of Tryz.func203 (by kernel_rfl) (by kernel_rfl)
theorem zjF:Fun Tryz.prog 237:=.of Tryz.func237 (by kernel_rfl) (by kernel_rfl)
theorem zbI:Fun Tryz.prog 253:=.of Tryz.func253 (by kernel_rfl) (by kernel_rfl)
theorem zp1:Fun Tryz.prog 259:=.of Tryz.func259 (by kernel_rfl) (by kernel_rfl)
theorem zsE:Fun Tryz.prog 260:=.of Tryz.func260 (by kernel_rfl) (by kernel_rfl)
theorem zqj:Fun Tryz.prog 262:=.of Tryz.func262 (by kernel_rfl) (by kernel_rfl)
theorem zrM:Fun Tryz.prog 265:=.of Tryz.func265 (by kernel_rfl) (by kernel_rfl)
theorem Zv:ScT Tryz.prog 186:=.of (by kernel_rfl)
theorem YW:SlT Tryz.prog 48 54 14:=.of (by kernel_rfl)
theorem QM:SzT Tryz.prog 186 1:=.of (by kernel_rfl)
theorem zwq:Yu Tryz.prog 186 (.int .u64 0):=.of (by kernel_rfl)
theorem zg5 (I:Qu)(x:Int):Zy Tryz.prog 192 [.int .i64 x] I (.bool false):=by
 intro g H w hw
 refine qe Tryz.func192 Tryz.ntmps192 hw ?_
 refine zR (zA ?_)
 refine zN (zR ?_)
 refine zM ?_
 refine zM ?_
 refine zC ?_
 refine zA (zN (Qt ?_))
 exact zr rfl rfl (by simp)
theorem znv (I:Qu)(x y:Int):Zy Tryz.prog 142 [.int .i64 x,.int .i64 y] I (.int .i64 (zty x y)):=by
 intro g H w hw
 refine qe Tryz.func142 Tryz.ntmps142 hw ?_
 refine zR (zA ?_)
 refine zN (zR ?_)
 refine zM ?_
 refine qc (vs:=[_]) rfl WW (zg5 I _) ?_
 refine zA ?_
 refine zN (zR ?_)
 refine zM ?_
 refine qc (vs:=[_]) rfl WW (zg5 I _) ?_
 refine zA (zN (Ql (zR ?_)))
 refine zM (zN ?_)
 refine zI ?_ ?_<;>intro hc11
 ·
  cases hc11
 refine Qn (Qa (Ql (zR (zM (zN ?_)))))
 refine zI ?_ ?_<;>intro hc13
 ·
  cases hc13
 refine Qn (Qa (Ql (zR (zM ?_))))
 refine zM ?_
 refine zC (zN ?_)
 refine zI ?_ ?_<;>intro hc16
 ·
  refine zR (zA (zN (Qt (Qc ?_))))
  exact zr rfl rfl (by unfold zty;first | (rw [if_pos (by simpa using hc16)]) | (rw [if_neg (by simpa using hc16),if_pos (by simpa using hc19)]) | (rw [if_neg (by simpa using hc16),if_neg (by simpa using hc19)]))
 refine Qn (Qa (Ql (zR (zM ?_))))
 refine zM ?_
 refine zC (zN ?_)
 refine zI ?_ ?_<;>intro hc19
 ·
  refine zR (zA (zN (Qt (Qc ?_))))
  exact zr rfl rfl (by unfold zty;first | (rw [if_pos (by simpa using hc16)]) | (rw [if_neg (by simpa using hc16),if_pos (by simpa using hc19)]) | (rw [if_neg (by simpa using hc16),if_neg (by simpa using hc19)]))
 refine Qn (Qa (zR (zA (zN (Qt ?_)))))
 exact zr rfl rfl (by unfold zty;first | (rw [if_pos (by simpa using hc16)]) | (rw [if_neg (by simpa using hc16),if_pos (by simpa using hc19)]) | (rw [if_neg (by simpa using hc16),if_neg (by simpa using hc19)]))
theorem zyN (I:Qu)(n:Int)(hn: -1073741824≤n∧n≤1073741824):Zy Tryz.prog 260 [.int .i64 n] I (.int .u64 (zhF n)):=by
 intro g H w hw
 refine qe Tryz.func260 Tryz.ntmps260 hw ?_
 refine zR (zA (zN (Ql (zR ?_))))
 refine zM ?_
 refine zC (zN ?_)
 refine zI ?_ ?_<;>intro hc4
 ·
  refine zR (zM ?_)
  refine zV (JW rfl K6) ?_
  refine zV (zjX rfl) ?_
  refine zA (zN (Qt (Qc ?_)))
  exact zr rfl rfl (by rw [zrZ hn (by simpa using hc4)])
 refine Qn (Qa (zR (zM ?_)))
 refine zV (JW rfl K6) ?_
 refine zA (zN (Qt ?_))
 exact zr rfl rfl (by rw [zsh hn (by simpa using hc4)])
theorem zyu (I:Qu)(a b:Int):Yf Tryz.prog 262 [.int .u64 a,.int .u64 b] I [] (fun v I' L=>I'=I∧∃ b1 b2,v= .func (.func 265) #[] [Zc b1,Zc b2].toArray∧L=zwp 186 b1 b2 a b):=by
 intro g H w hw
 refine qe Tryz.func262 Tryz.ntmps262 hw ?_
 refine zR ?_
 refine Q2 rfl rfl rfl (fun b_2=>?_)
 refine Q2 rfl rfl rfl (fun b_3=>?_)
 refine zA ?_
 refine zN (zR ?_)
 refine zV (Zd (us:=[]) (vs:=[_,_]) rfl rfl) ?_
 refine zA (zN (Qt ?_))
 exact Zx rfl rfl (fun w hw=>⟨_,I,_,rfl,zAh _,hw,rfl,_,_,rfl,rfl⟩)
theorem zm1 (I:Qu)(a0 b0:Nat)(b1 b2:Nat)(hb0:0<b0)(ha1:a0≤9223372036854775807)(hb1:b0≤9223372036854775807):zzo Tryz.prog 265 [Zc b1,Zc b2] I (zwp 186 b1 b2 (a0) (b0)) (fun n:Nat=>.int .u64 n) (zcO a0 b0):=by
 intro g l J Jx hY I0 H w h0 hJ hw
 refine qe Tryz.func265 Tryz.ntmps265 hw ?_
 refine Qm ?_
 refine zex (fun m E I' H' loc'=>∃ (a b:Nat) (pre:List Nat),m=b∧E=[(0,.func (.yield l) #[] #[]),(1,Zc b1),(2,Zc b2)]∧loc'=zwp 186 b1 b2 (a) (b)∧HLe I0 I'∧J pre I' H'∧zcO a0 b0=pre++zcO a b∧0<b∧a≤9223372036854775807∧b≤9223372036854775807) _ _ _ ⟨a0,b0,[],rfl,rfl,rfl,zAh _,hJ,rfl,hb0,ha1,hb1⟩ (.cons rfl (.cons rfl (.cons rfl .nil))) rfl ?_
 rintro m E I' H' loc' ⟨a,b,pre,hmb,rfl,rfl,hI1,hJk,hrem,hbp,hal,hbl⟩
 subst m
 have hI0:=h0.trans hI1
 refine Ql (zR ?_)
 refine zL Zv ?_
 refine zC ?_
 refine zM ?_
 refine QH 2 rfl rfl rfl ?_
 refine zK (Qi rfl) ?_
 refine zK (Qe rfl Zv (fun hg=>by exact QT.h1 rfl)) ?_
 refine zdk (vs:=[_]) (Post:=fun t I2 H2=>if t then J (pre++[a]) I2 H2 else Jx (pre++[a]) I2 H2) rfl rfl (.some rfl rfl rfl rfl gbt) rfl rfl (fun hcj=>hY pre a _ _ (zkh hrem (by simpa [ZY] using hcj)) hI0 hJk) ?_
 rintro t I2 H2 hI2 hyes hno
 refine QP rfl rfl rfl rfl rfl ?_
 refine zN ?_
 refine zI ?_ ?_<;>intro hc10
 ·
  have ha0:a≠0:=by simp at hc10;exact hc10.1
  have ht:t=true:=by simp at hc10;exact hc10.2
  subst ht
  have hJ1:J (pre++[a]) I2 H2:=hyes (by simp [ZY];exact ha0)
  refine Qn (Qa (Qm (Ql ?_)))
  apply zzZ
  ·
   intro key
   have hD:=zAh I2
   refine Jl ?_
   refine Z0 I2 [] mixed ?_
   refine Uo 0 1 2 rfl rfl rfl (by kernel_rfl) ?_ ?_ ?_
   ·
    refine zL Zv ?_
    refine Qb ?_
    refine zD hD ?_
    refine Zt 1 2 rfl rfl (by kernel_rfl) ?_ ?_
    ·
     refine zL Zv ?_
     refine Qb ?_
     refine zD hD ?_
     refine Zt 2 5 rfl rfl (by kernel_rfl) ?_ ?_
     ·
      refine zL Zv ?_
      refine Qb ?_
      refine zD hD ?_
      refine Zt 3 5 rfl rfl (by kernel_rfl) ?_ ?_
      ·
       refine zV (Y8 rfl rfl) ?_
       refine Qb ?_
       refine zD hD ?_
       refine Zt 4 5 rfl rfl (by kernel_rfl) ?_ ?_
       ·
        refine zV (ZP rfl rfl (fun hg=>by rw [Ze hbp];omega)) ?_
        refine Qb ?_
        refine zD hD ?_
        refine qd 5 rfl ?_
        refine zS QM ?_
        refine Qb ?_
        refine zD hD ?_
        refine qd 6 rfl ?_
        refine zS QM ?_
        refine Qb ?_
        refine zD hD ?_
        refine QF (by kernel_rfl) ?_
        refine QO ?_
        first | exact key.out | exact ZS key
       refine zS QM ?_
       refine Qb ?_
       refine zD hD ?_
       refine qd 4 rfl ?_
       refine zV (ZP rfl rfl (fun hg=>by rw [Ze hbp];omega)) ?_
       refine Qb ?_
       refine zD hD ?_
       refine qd 6 rfl ?_
       refine zS QM ?_
       refine Qb ?_
       refine zD hD ?_
       refine QF (by kernel_rfl) ?_
       refine QO ?_
       first | exact key.out | exact ZS key
      refine zS QM ?_
      refine Qb ?_
      refine zD hD ?_
      refine qd 3 rfl ?_
      refine zV (Y8 rfl rfl) ?_
      refine Qb ?_
      refine zD hD ?_
      refine qd 4 rfl ?_
      refine zV (ZP rfl rfl (fun hg=>by rw [Ze hbp];omega)) ?_
      refine Qb ?_
      refine zD hD ?_
      refine qd 6 rfl ?_
      refine zS QM ?_
      refine Qb ?_
      refine zD hD ?_
      refine QF (by kernel_rfl) ?_
      refine QO ?_
      first | exact key.out | exact ZS key
     refine zS QM ?_
     refine Qb ?_
     refine zD hD ?_
     refine qd 2 rfl ?_
     refine zL Zv ?_
     refine Qb ?_
     refine zD hD ?_
     refine qd 3 rfl ?_
     refine zV (Y8 rfl rfl) ?_
     refine Qb ?_
     refine zD hD ?_
     refine qd 4 rfl ?_
     refine zV (ZP rfl rfl (fun hg=>by rw [Ze hbp];omega)) ?_
     refine Qb ?_
     refine zD hD ?_
     refine qd 6 rfl ?_
     refine zS QM ?_
     refine Qb ?_
     refine zD hD ?_
     refine QF (by kernel_rfl) ?_
     refine QO ?_
     first | exact key.out | exact ZS key
    refine zL Zv ?_
    refine Qb ?_
    refine zD hD ?_
    refine Zt 1 3 rfl rfl (by kernel_rfl) ?_ ?_
    ·
     refine zL Zv ?_
     refine Qb ?_
     refine zD hD ?_
     refine Zt 3 5 rfl rfl (by kernel_rfl) ?_ ?_
     ·
      refine zV (Y8 rfl rfl) ?_
      refine Qb ?_
      refine zD hD ?_
      refine Zt 4 5 rfl rfl (by kernel_rfl) ?_ ?_
      ·
       refine zV (ZP rfl rfl (fun hg=>by rw [Ze hbp];omega)) ?_
       refine Qb ?_
       refine zD hD ?_
       refine qd 5 rfl ?_
       refine zS QM ?_
       refine Qb ?_
       refine zD hD ?_
       refine qd 6 rfl ?_
       refine zS QM ?_
       refine Qb ?_
       refine zD hD ?_
       refine QF (by kernel_rfl) ?_
       refine QO ?_
       first | exact key.out | exact ZS key
      refine zS QM ?_
      refine Qb ?_
      refine zD hD ?_
      refine qd 4 rfl ?_
      refine zV (ZP rfl rfl (fun hg=>by rw [Ze hbp];omega)) ?_
      refine Qb ?_
      refine zD hD ?_
      refine qd 6 rfl ?_
      refine zS QM ?_
      refine Qb ?_
      refine zD hD ?_
      refine QF (by kernel_rfl) ?_
      refine QO ?_
      first | exact key.out | exact ZS key
     refine zS QM ?_
     refine Qb ?_
     refine zD hD ?_
     refine qd 3 rfl ?_
     refine zV (Y8 rfl rfl) ?_
     refine Qb ?_
     refine zD hD ?_
     refine qd 4 rfl ?_
     refine zV (ZP rfl rfl (fun hg=>by rw [Ze hbp];omega)) ?_
     refine Qb ?_
     refine zD hD ?_
     refine qd 6 rfl ?_
     refine zS QM ?_
     refine Qb ?_
     refine zD hD ?_
     refine QF (by kernel_rfl) ?_
     refine QO ?_
     first | exact key.out | exact ZS key
    refine zV (Y8 rfl rfl) ?_
    refine Qb ?_
    refine zD hD ?_
    refine qd 1 rfl ?_
    refine zL Zv ?_
    refine Qb ?_
    refine zD hD ?_
    refine Zt 4 5 rfl rfl (by kernel_rfl) ?_ ?_
    ·
     refine zV (ZP rfl rfl (fun hg=>by rw [Ze hbp];omega)) ?_
     refine Qb ?_
     refine zD hD ?_
     refine qd 5 rfl ?_
     refine zS QM ?_
     refine Qb ?_
     refine zD hD ?_
     refine qd 6 rfl ?_
     refine zS QM ?_
     refine Qb ?_
     refine zD hD ?_
     refine QF (by kernel_rfl) ?_
     refine QO ?_
     first | exact key.out | exact ZS key
    refine zS QM ?_
    refine Qb ?_
    refine zD hD ?_
    refine qd 4 rfl ?_
    refine zV (ZP rfl rfl (fun hg=>by rw [Ze hbp];omega)) ?_
    refine Qb ?_
    refine zD hD ?_
    refine qd 6 rfl ?_
    refine zS QM ?_
    refine Qb ?_
    refine zD hD ?_
    refine QF (by kernel_rfl) ?_
    refine QO ?_
    first | exact key.out | exact ZS key
   ·
    refine zL Zv ?_
    refine Qb ?_
    refine zD hD ?_
    refine Zt 0 2 rfl rfl (by kernel_rfl) ?_ ?_
    ·
     refine zL Zv ?_
     refine Qb ?_
     refine zD hD ?_
     refine Zt 2 5 rfl rfl (by kernel_rfl) ?_ ?_
     ·
      refine zL Zv ?_
      refine Qb ?_
      refine zD hD ?_
      refine Zt 3 5 rfl rfl (by kernel_rfl) ?_ ?_
      ·
       refine zV (Y8 rfl rfl) ?_
       refine Qb ?_
       refine zD hD ?_
       refine Zt 4 5 rfl rfl (by kernel_rfl) ?_ ?_
       ·
        refine zV (ZP rfl rfl (fun hg=>by rw [Ze hbp];omega)) ?_
        refine Qb ?_
        refine zD hD ?_
        refine qd 5 rfl ?_
        refine zS QM ?_
        refine Qb ?_
        refine zD hD ?_
        refine qd 6 rfl ?_
        refine zS QM ?_
        refine Qb ?_
        refine zD hD ?_
        refine QF (by kernel_rfl) ?_
        refine QO ?_
        first | exact key.out | exact ZS key
       refine zS QM ?_
       refine Qb ?_
       refine zD hD ?_
       refine qd 4 rfl ?_
       refine zV (ZP rfl rfl (fun hg=>by rw [Ze hbp];omega)) ?_
       refine Qb ?_
       refine zD hD ?_
       refine qd 6 rfl ?_
       refine zS QM ?_
       refine Qb ?_
       refine zD hD ?_
       refine QF (by kernel_rfl) ?_
       refine QO ?_
       first | exact key.out | exact ZS key
      refine zS QM ?_
      refine Qb ?_
      refine zD hD ?_
      refine qd 3 rfl ?_
      refine zV (Y8 rfl rfl) ?_
      refine Qb ?_
      refine zD hD ?_
      refine qd 4 rfl ?_
      refine zV (ZP rfl rfl (fun hg=>by rw [Ze hbp];omega)) ?_
      refine Qb ?_
      refine zD hD ?_
      refine qd 6 rfl ?_
      refine zS QM ?_
      refine Qb ?_
      refine zD hD ?_
      refine QF (by kernel_rfl) ?_
      refine QO ?_
      first | exact key.out | exact ZS key
     refine zS QM ?_
     refine Qb ?_
     refine zD hD ?_
     refine qd 2 rfl ?_
     refine zL Zv ?_
     refine Qb ?_
     refine zD hD ?_
     refine qd 3 rfl ?_
     refine zV (Y8 rfl rfl) ?_
     refine Qb ?_
     refine zD hD ?_
     refine qd 4 rfl ?_
     refine zV (ZP rfl rfl (fun hg=>by rw [Ze hbp];omega)) ?_
     refine Qb ?_
     refine zD hD ?_
     refine qd 6 rfl ?_
     refine zS QM ?_
     refine Qb ?_
     refine zD hD ?_
     refine QF (by kernel_rfl) ?_
     refine QO ?_
     first | exact key.out | exact ZS key
    refine zL Zv ?_
    refine Qb ?_
    refine zD hD ?_
    refine Zt 0 3 rfl rfl (by kernel_rfl) ?_ ?_
    ·
     refine zL Zv ?_
     refine Qb ?_
     refine zD hD ?_
     refine Zt 3 5 rfl rfl (by kernel_rfl) ?_ ?_
     ·
      refine zV (Y8 rfl rfl) ?_
      refine Qb ?_
      refine zD hD ?_
      refine Zt 4 5 rfl rfl (by kernel_rfl) ?_ ?_
      ·
       refine zV (ZP rfl rfl (fun hg=>by rw [Ze hbp];omega)) ?_
       refine Qb ?_
       refine zD hD ?_
       refine qd 5 rfl ?_
       refine zS QM ?_
       refine Qb ?_
       refine zD hD ?_
       refine qd 6 rfl ?_
       refine zS QM ?_
       refine Qb ?_
       refine zD hD ?_
       refine QF (by kernel_rfl) ?_
       refine QO ?_
       first | exact key.out | exact ZS key
      refine zS QM ?_
      refine Qb ?_
      refine zD hD ?_
      refine qd 4 rfl ?_
      refine zV (ZP rfl rfl (fun hg=>by rw [Ze hbp];omega)) ?_
      refine Qb ?_
      refine zD hD ?_
      refine qd 6 rfl ?_
      refine zS QM ?_
      refine Qb ?_
      refine zD hD ?_
      refine QF (by kernel_rfl) ?_
      refine QO ?_
      first | exact key.out | exact ZS key
     refine zS QM ?_
     refine Qb ?_
     refine zD hD ?_
     refine qd 3 rfl ?_
     refine zV (Y8 rfl rfl) ?_
     refine Qb ?_
     refine zD hD ?_
     refine qd 4 rfl ?_
     refine zV (ZP rfl rfl (fun hg=>by rw [Ze hbp];omega)) ?_
     refine Qb ?_
     refine zD hD ?_
     refine qd 6 rfl ?_
     refine zS QM ?_
     refine Qb ?_
     refine zD hD ?_
     refine QF (by kernel_rfl) ?_
     refine QO ?_
     first | exact key.out | exact ZS key
    refine zV (Y8 rfl rfl) ?_
    refine Qb ?_
    refine zD hD ?_
    refine Zt 0 4 rfl rfl (by kernel_rfl) ?_ ?_
    ·
     refine zL Zv ?_
     refine Qb ?_
     refine zD hD ?_
     refine Zt 4 5 rfl rfl (by kernel_rfl) ?_ ?_
     ·
      refine zV (ZP rfl rfl (fun hg=>by rw [Ze hbp];omega)) ?_
      refine Qb ?_
      refine zD hD ?_
      refine qd 5 rfl ?_
      refine zS QM ?_
      refine Qb ?_
      refine zD hD ?_
      refine qd 6 rfl ?_
      refine zS QM ?_
      refine Qb ?_
      refine zD hD ?_
      refine QF (by kernel_rfl) ?_
      refine QO ?_
      first | exact key.out | exact ZS key
     refine zS QM ?_
     refine Qb ?_
     refine zD hD ?_
     refine qd 4 rfl ?_
     refine zV (ZP rfl rfl (fun hg=>by rw [Ze hbp];omega)) ?_
     refine Qb ?_
     refine zD hD ?_
     refine qd 6 rfl ?_
     refine zS QM ?_
     refine Qb ?_
     refine zD hD ?_
     refine QF (by kernel_rfl) ?_
     refine QO ?_
     first | exact key.out | exact ZS key
    refine zV (ZP rfl rfl (fun hg=>by rw [Ze hbp];omega)) ?_
    refine Qb ?_
    refine zD hD ?_
    refine qd 0 rfl ?_
    refine zL Zv ?_
    refine Qb ?_
    refine zD hD ?_
    refine qd 5 rfl ?_
    refine zS QM ?_
    refine Qb ?_
    refine zD hD ?_
    refine qd 6 rfl ?_
    refine zS QM ?_
    refine Qb ?_
    refine zD hD ?_
    refine QF (by kernel_rfl) ?_
    refine QO ?_
    first | exact key.out | exact ZS key
   refine zL Zv ?_
   refine Qb ?_
   refine zD hD ?_
   refine Uo 0 1 3 rfl rfl rfl (by kernel_rfl) ?_ ?_ ?_
   ·
    refine zL Zv ?_
    refine Qb ?_
    refine zD hD ?_
    refine Zt 1 3 rfl rfl (by kernel_rfl) ?_ ?_
    ·
     refine zL Zv ?_
     refine Qb ?_
     refine zD hD ?_
     refine Zt 3 5 rfl rfl (by kernel_rfl) ?_ ?_
     ·
      refine zV (Y8 rfl rfl) ?_
      refine Qb ?_
      refine zD hD ?_
      refine Zt 4 5 rfl rfl (by kernel_rfl) ?_ ?_
      ·
       refine zV (ZP rfl rfl (fun hg=>by rw [Ze hbp];omega)) ?_
       refine Qb ?_
       refine zD hD ?_
       refine qd 5 rfl ?_
       refine zS QM ?_
       refine Qb ?_
       refine zD hD ?_
       refine qd 6 rfl ?_
       refine zS QM ?_
       refine Qb ?_
       refine zD hD ?_
       refine QF (by kernel_rfl) ?_
       refine QO ?_
       first | exact key.out | exact ZS key
      refine zS QM ?_
      refine Qb ?_
      refine zD hD ?_
      refine qd 4 rfl ?_
      refine zV (ZP rfl rfl (fun hg=>by rw [Ze hbp];omega)) ?_
      refine Qb ?_
      refine zD hD ?_
      refine qd 6 rfl ?_
      refine zS QM ?_
      refine Qb ?_
      refine zD hD ?_
      refine QF (by kernel_rfl) ?_
      refine QO ?_
      first | exact key.out | exact ZS key
     refine zS QM ?_
     refine Qb ?_
     refine zD hD ?_
     refine qd 3 rfl ?_
     refine zV (Y8 rfl rfl) ?_
     refine Qb ?_
     refine zD hD ?_
     refine qd 4 rfl ?_
     refine zV (ZP rfl rfl (fun hg=>by rw [Ze hbp];omega)) ?_
     refine Qb ?_
     refine zD hD ?_
     refine qd 6 rfl ?_
     refine zS QM ?_
     refine Qb ?_
     refine zD hD ?_
     refine QF (by kernel_rfl) ?_
     refine QO ?_
     first | exact key.out | exact ZS key
    refine zV (Y8 rfl rfl) ?_
    refine Qb ?_
    refine zD hD ?_
    refine qd 1 rfl ?_
    refine zL Zv ?_
    refine Qb ?_
    refine zD hD ?_
    refine Zt 4 5 rfl rfl (by kernel_rfl) ?_ ?_
    ·
     refine zV (ZP rfl rfl (fun hg=>by rw [Ze hbp];omega)) ?_
     refine Qb ?_
     refine zD hD ?_
     refine qd 5 rfl ?_
     refine zS QM ?_
     refine Qb ?_
     refine zD hD ?_
     refine qd 6 rfl ?_
     refine zS QM ?_
     refine Qb ?_
     refine zD hD ?_
     refine QF (by kernel_rfl) ?_
     refine QO ?_
     first | exact key.out | exact ZS key
    refine zS QM ?_
    refine Qb ?_
    refine zD hD ?_
    refine qd 4 rfl ?_
    refine zV (ZP rfl rfl (fun hg=>by rw [Ze hbp];omega)) ?_
    refine Qb ?_
    refine zD hD ?_
    refine qd 6 rfl ?_
    refine zS QM ?_
    refine Qb ?_
    refine zD hD ?_
    refine QF (by kernel_rfl) ?_
    refine QO ?_
    first | exact key.out | exact ZS key
   ·
    refine zL Zv ?_
    refine Qb ?_
    refine zD hD ?_
    refine Zt 0 3 rfl rfl (by kernel_rfl) ?_ ?_
    ·
     refine zL Zv ?_
     refine Qb ?_
     refine zD hD ?_
     refine Zt 3 5 rfl rfl (by kernel_rfl) ?_ ?_
     ·
      refine zV (Y8 rfl rfl) ?_
      refine Qb ?_
      refine zD hD ?_
      refine Zt 4 5 rfl rfl (by kernel_rfl) ?_ ?_
      ·
       refine zV (ZP rfl rfl (fun hg=>by rw [Ze hbp];omega)) ?_
       refine Qb ?_
       refine zD hD ?_
       refine qd 5 rfl ?_
       refine zS QM ?_
       refine Qb ?_
       refine zD hD ?_
       refine qd 6 rfl ?_
       refine zS QM ?_
       refine Qb ?_
       refine zD hD ?_
       refine QF (by kernel_rfl) ?_
       refine QO ?_
       first | exact key.out | exact ZS key
      refine zS QM ?_
      refine Qb ?_
      refine zD hD ?_
      refine qd 4 rfl ?_
      refine zV (ZP rfl rfl (fun hg=>by rw [Ze hbp];omega)) ?_
      refine Qb ?_
      refine zD hD ?_
      refine qd 6 rfl ?_
      refine zS QM ?_
      refine Qb ?_
      refine zD hD ?_
      refine QF (by kernel_rfl) ?_
      refine QO ?_
      first | exact key.out | exact ZS key
     refine zS QM ?_
     refine Qb ?_
     refine zD hD ?_
     refine qd 3 rfl ?_
     refine zV (Y8 rfl rfl) ?_
     refine Qb ?_
     refine zD hD ?_
     refine qd 4 rfl ?_
     refine zV (ZP rfl rfl (fun hg=>by rw [Ze hbp];omega)) ?_
     refine Qb ?_
     refine zD hD ?_
     refine qd 6 rfl ?_
     refine zS QM ?_
     refine Qb ?_
     refine zD hD ?_
     refine QF (by kernel_rfl) ?_
     refine QO ?_
     first | exact key.out | exact ZS key
    refine zV (Y8 rfl rfl) ?_
    refine Qb ?_
    refine zD hD ?_
    refine Zt 0 4 rfl rfl (by kernel_rfl) ?_ ?_
    ·
     refine zL Zv ?_
     refine Qb ?_
     refine zD hD ?_
     refine Zt 4 5 rfl rfl (by kernel_rfl) ?_ ?_
     ·
      refine zV (ZP rfl rfl (fun hg=>by rw [Ze hbp];omega)) ?_
      refine Qb ?_
      refine zD hD ?_
      refine qd 5 rfl ?_
      refine zS QM ?_
      refine Qb ?_
      refine zD hD ?_
      refine qd 6 rfl ?_
      refine zS QM ?_
      refine Qb ?_
      refine zD hD ?_
      refine QF (by kernel_rfl) ?_
      refine QO ?_
      first | exact key.out | exact ZS key
     refine zS QM ?_
     refine Qb ?_
     refine zD hD ?_
     refine qd 4 rfl ?_
     refine zV (ZP rfl rfl (fun hg=>by rw [Ze hbp];omega)) ?_
     refine Qb ?_
     refine zD hD ?_
     refine qd 6 rfl ?_
     refine zS QM ?_
     refine Qb ?_
     refine zD hD ?_
     refine QF (by kernel_rfl) ?_
     refine QO ?_
     first | exact key.out | exact ZS key
    refine zV (ZP rfl rfl (fun hg=>by rw [Ze hbp];omega)) ?_
    refine Qb ?_
    refine zD hD ?_
    refine qd 0 rfl ?_
    refine zL Zv ?_
    refine Qb ?_
    refine zD hD ?_
    refine qd 5 rfl ?_
    refine zS QM ?_
    refine Qb ?_
    refine zD hD ?_
    refine qd 6 rfl ?_
    refine zS QM ?_
    refine Qb ?_
    refine zD hD ?_
    refine QF (by kernel_rfl) ?_
    refine QO ?_
    first | exact key.out | exact ZS key
   refine zV (Y8 rfl rfl) ?_
   refine Qb ?_
   refine zD hD ?_
   refine Zt 0 1 rfl rfl (by kernel_rfl) ?_ ?_
   ·
    refine zL Zv ?_
    refine Qb ?_
    refine zD hD ?_
    refine qd 1 rfl ?_
    refine zL Zv ?_
    refine Qb ?_
    refine zD hD ?_
    refine Zt 4 5 rfl rfl (by kernel_rfl) ?_ ?_
    ·
     refine zV (ZP rfl rfl (fun hg=>by rw [Ze hbp];omega)) ?_
     refine Qb ?_
     refine zD hD ?_
     refine qd 5 rfl ?_
     refine zS QM ?_
     refine Qb ?_
     refine zD hD ?_
     refine qd 6 rfl ?_
     refine zS QM ?_
     refine Qb ?_
     refine zD hD ?_
     refine QF (by kernel_rfl) ?_
     refine QO ?_
     first | exact key.out | exact ZS key
    refine zS QM ?_
    refine Qb ?_
    refine zD hD ?_
    refine qd 4 rfl ?_
    refine zV (ZP rfl rfl (fun hg=>by rw [Ze hbp];omega)) ?_
    refine Qb ?_
    refine zD hD ?_
    refine qd 6 rfl ?_
    refine zS QM ?_
    refine Qb ?_
    refine zD hD ?_
    refine QF (by kernel_rfl) ?_
    refine QO ?_
    first | exact key.out | exact ZS key
   refine zL Zv ?_
   refine Qb ?_
   refine zD hD ?_
   refine Zt 0 4 rfl rfl (by kernel_rfl) ?_ ?_
   ·
    refine zL Zv ?_
    refine Qb ?_
    refine zD hD ?_
    refine Zt 4 5 rfl rfl (by kernel_rfl) ?_ ?_
    ·
     refine zV (ZP rfl rfl (fun hg=>by rw [Ze hbp];omega)) ?_
     refine Qb ?_
     refine zD hD ?_
     refine qd 5 rfl ?_
     refine zS QM ?_
     refine Qb ?_
     refine zD hD ?_
     refine qd 6 rfl ?_
     refine zS QM ?_
     refine Qb ?_
     refine zD hD ?_
     refine QF (by kernel_rfl) ?_
     refine QO ?_
     first | exact key.out | exact ZS key
    refine zS QM ?_
    refine Qb ?_
    refine zD hD ?_
    refine qd 4 rfl ?_
    refine zV (ZP rfl rfl (fun hg=>by rw [Ze hbp];omega)) ?_
    refine Qb ?_
    refine zD hD ?_
    refine qd 6 rfl ?_
    refine zS QM ?_
    refine Qb ?_
    refine zD hD ?_
    refine QF (by kernel_rfl) ?_
    refine QO ?_
    first | exact key.out | exact ZS key
   refine zV (ZP rfl rfl (fun hg=>by rw [Ze hbp];omega)) ?_
   refine Qb ?_
   refine zD hD ?_
   refine qd 0 rfl ?_
   refine zL Zv ?_
   refine Qb ?_
   refine zD hD ?_
   refine qd 5 rfl ?_
   refine zS QM ?_
   refine Qb ?_
   refine zD hD ?_
   refine qd 6 rfl ?_
   refine zS QM ?_
   refine Qb ?_
   refine zD hD ?_
   refine QF (by kernel_rfl) ?_
   refine QO ?_
   first | exact key.out | exact ZS key
  rw [show ((a:Int)).tmod (ztl (b:Int) 1)=((a % b:Nat):Int) by rw [Ze hbp,znY]]
  refine Qa (zR ?_)
  refine zL Zv ?_
  refine zC (zN ?_)
  refine zI ?_ ?_<;>intro hc17
  ·
   have hab:a % b=0:=by have h:=hc17;simp only [beq_iff_eq] at h;omega
   have hpre2:(pre++[a])++[b]<+:zcO a0 b0:=by rw [hrem,zbE ha0 (by omega) hab,List.append_assoc];exact List.prefix_rfl
   refine zR (zM ?_)
   refine zL Zv ?_
   refine zdR (vs:=[_]) (Post:=fun t I3 H3=>if t then J ((pre++[a])++[b]) I3 H3 else Jx ((pre++[a])++[b]) I3 H3) rfl rfl rfl rfl (hY (pre++[a]) b _ _ hpre2 (hI0.trans hI2) hJ1) ?_
   rintro t3 I3 H3 hI3 hP3
   refine zN (Qt (Qp (Qc (Qp ?_))))
   first
   | (refine YR rfl (fun w hw=>⟨_,I3,H3,rfl,hI1.trans (hI2.trans hI3),hw.drop,?_⟩);cases t3 with | true=>exact .inl (by rw [hrem,zbE ha0 (by omega) hab];simpa using hP3) | false=>exact .inr ⟨_,hpre2,hP3⟩)
  have hab:a % b≠0:=by have h:=hc17;simp only [beq_eq_false_iff_ne,ne_eq] at h;omega
  refine Qn (Qf ?_)
  exact XW rfl rfl rfl _ (zwp 186 b1 b2 (b) (((a % b:Nat):Int))) ⟨a % b,Nat.mod_lt _ hbp,b,a % b,pre++[a],rfl,rfl,rfl,hI1.trans hI2,hJ1,by rw [hrem,zc4 ha0 (by omega) hab,List.append_assoc];rfl,by omega,by omega,by have:=Nat.mod_lt a hbp;omega⟩ (.cons rfl (.cons rfl (.cons rfl .nil))) .refl
 refine QI (Qh (Qh (Qk ?_)))
 first
 | (refine VI (YR rfl (fun w hw=>⟨_,I2,H2,rfl,hI1.trans hI2,hw.drop,?_⟩));by_cases ha0:a=0;(obtain ⟨e1,e2⟩:=hno (by simp [ZY,ha0]);subst e1;subst e2;subst ha0;exact .inl (by rw [hrem,zc3,List.append_nil];exact hJk));(have ht:t=false:=(by simp [ha0] at hc10;exact hc10);subst ht;exact .inr ⟨_,zkh hrem ha0,hyes (by simp [ZY];exact ha0)⟩))
theorem zy9 (I:Qu)(a b:Nat)(hb:0<b)(ha:a≤9223372036854775807)(hb2:b≤9223372036854775807):Zy Tryz.prog 259 [.int .u64 a,.int .u64 b] I (.int .u64 (Nat.gcd a b:Nat)):=by
 intro g H w hw
 refine zeF Tryz.func259 rfl Tryz.ntmps259 rfl hw ?_
 have hIc:=zAh I
 refine zR ?_
 refine Qs zwq rfl rfl (fun b_4=>?_)
 refine zN (Ql (zR (zM ?_)))
 refine zC (zN ?_)
 refine zI ?_ ?_<;>intro hc7
 ·
  simp at hc7;omega
 refine Qn (Qa (zR (zM ?_)))
 refine zS QM ?_
 refine zN (Ql (zR (zM ?_)))
 refine zM ?_
 refine Qz (cap:=[]) (vs:=[_,_]) rfl rfl zqj .nil (zyu I _ _) rfl rfl ?_
 rintro vv1 I1 L1 hI1 ⟨rfl,b1,b2,rfl,rfl⟩
 have hIc:=hIc.trans hI1
 refine zN (Qm ?_)
 refine Xj (ms:=[]) (K:=zwp 186 b1 b2 (a) (b)) (L:=[(b_4,.cells #[.int .u64 b] 186 (0,0))]) (enc:=fun n:Nat=>.int .u64 n) (xs:=zcO a b) (fun pre I' loc'=>loc'=[(b_4,.cells #[.int .u64 ((pre.getLastD b:Nat):Int)] 186 (0,0))]) (fun _ _ _ _=>False) (fun pre x E2 I2 loc2=>E2=[(4,Zc b_4),(5,.int .u64 x)]∧loc2=[(b_4,.cells #[.int .u64 ((pre.getLastD b:Nat):Int)] 186 (0,0))]) rfl zrM (zm1 _ a b b1 b2 hb ha hb2) rfl rfl ?_ ?_ ?_ ?_
 ·
  rintro l pre x I1 loc1 H1 hpre hI1 rfl
  refine Qg (zA (Qb ?_))
  exact zcF _ ⟨zAh _,rfl,rfl⟩ (.cons rfl (.cons rfl .nil))
 ·
  rintro l pre x E2 I2 loc2 H2 hpre hI2 ⟨rfl,rfl⟩
  refine Qm (Qg (zM ?_))
  refine zS QM ?_
  refine Qb (Qf ?_)
  exact zaG ⟨zAh _,by rw [ziz];rfl⟩ .refl
 ·
  rintro bd I1 loc1 hI1 rfl
  have hIc:=hIc.trans hI1
  refine Qf (Qa (zR ?_))
  refine zL Zv ?_
  refine zS QM ?_
  refine zN (Qt ?_)
  exact Uh (L:=[(b_4,_)]) (fun a ha w hw=>zyJ rfl rfl Zv (QT.h0 rfl) a ha w hw) (fun w hw=>⟨by rw [zlU b (Nat.le_refl _) (by omega) (fun _=>rfl)],(hw.mono hIc).drop⟩)
 rintro c bd pre I1 loc1 hI1 hpre hF;exact hF.elim
theorem zvS (I:Qu)(n d:Int)(hn: -1073741824≤n∧n≤1073741824)(hd:1≤d∧d≤1073741824):Zy Tryz.prog 259 [.int .u64 (zhF n),.int .u64 (IntKind.u64.wrap d)] I (.int .u64 (zxM n d)):=by
 have h0:0≤zhF n∧zhF n≤1073741824:=by unfold zhF;split<;>omega
 have h:=zy9 I (zhF n).toNat d.toNat (by omega) (by omega) (by omega)
 rw [zlf (by omega)]
 rw [Int.toNat_of_nonneg h0.1,Int.toNat_of_nonneg (by omega),zq2,Int.toNat_of_nonneg (by omega)] at h
 exact h
theorem XZ (I:Qu)(n d:Int):Zy Tryz.prog 253 [zbp (n) (d)] I (.int .i64 (ztB n d)):=by
 intro g H w hw
 refine qe Tryz.func253 Tryz.ntmps253 hw ?_
 refine zR ?_
 refine Q2 rfl rfl rfl (fun b_1=>?_)
 refine zA (zN (Ql (Ql ?_)))
 refine YF mixed (by kernel_rfl) ?_
 refine zq (Qd rfl Jd) ?_
 refine zq (Qe rfl Qr (fun hg=>by exact QT.h0 rfl)) ?_
 refine zq (QG rfl rfl rfl) ?_
 refine zq (Qi rfl) ?_
 refine ZZ 3 rfl rfl rfl ?_
 refine zj (Qd rfl Jd) ?_
 refine zj (Qe rfl Qr (fun hg=>by exact QT.h0 rfl)) ?_
 refine zj (QG rfl rfl rfl) ?_
 refine VS rfl rfl rfl rfl rfl ?_
 refine zq (Qi rfl) ?_
 refine ZZ 8 rfl rfl rfl ?_
 refine zj (Qd rfl Vw) ?_
 refine zj (Qe rfl Qr (fun hg=>by exact QT.h0 rfl)) ?_
 refine zj (QG rfl rfl rfl) ?_
 refine VS rfl rfl rfl rfl rfl ?_
 refine zq (Qi rfl) ?_
 refine ZZ 13 rfl rfl rfl ?_
 refine zj (Qd rfl Vw) ?_
 refine zj (Qe rfl Qr (fun hg=>by exact QT.h0 rfl)) ?_
 refine zj (QG rfl rfl rfl) ?_
 refine VS rfl rfl rfl rfl rfl ?_
 refine zq (Qi rfl) ?_
 refine ZZ 18 rfl rfl rfl ?_
 refine zj (Qd rfl Vw) ?_
 refine zj (Qe rfl Qr (fun hg=>by exact QT.h0 rfl)) ?_
 refine Yn (cap:=[]) (vs:=[_]) rfl rfl zsE (fun hg=>zyN I n (by simp [ZY] at hg;omega)) (.some rfl rfl rfl rfl gbf) rfl rfl ?_
 refine zj (Qd rfl Jd) ?_
 refine zj (Qe rfl Qr (fun hg=>by exact QT.h0 rfl)) ?_
 refine zj (JW rfl K6) ?_
 refine Yn (cap:=[]) (vs:=[_,_]) rfl rfl zp1 (fun hg=>zvS I n d (by simp [ZY] at hg;omega) (by simp [ZY] at hg;omega)) (.some rfl rfl rfl rfl gbf) rfl rfl ?_
 refine zj (QG rfl rfl rfl) ?_
 refine VS rfl rfl rfl rfl rfl ?_
 refine YK ?_
 refine Qa ?_
 refine zI ?_ ?_<;>intro hc30
 ·
  refine zR (zA (zN (Qt (Qc ?_))))
  first
  | exact zr rfl rfl (by unfold ztB;rw [zrv hc30];rfl)
 refine Qn (Qa (zR (zA (zN (Qt ?_)))))
 first
 | exact zr rfl rfl (by unfold ztB;rw [znp hc30];rfl)
theorem zkw (I:Qu)(an ad bn bd:Int):Zy Tryz.prog 237 [zbp (an) (ad),zbp (bn) (bd)] I (.tuple #[.int .i64 (zi7 an ad bn bd),.int .i64 (zlw an ad bn bd)]):=by
 intro g H w hw
 refine qe Tryz.func237 Tryz.ntmps237 hw ?_
 refine zR ?_
 refine Q2 rfl rfl rfl (fun b_2=>?_)
 refine Q2 rfl rfl rfl (fun b_3=>?_)
 refine zA ?_
 refine zA (zN (Ql (zR ?_)))
 refine zV (Qo rfl Vf (fun hg=>by exact Cells.g1) rfl) ?_
 refine qc (vs:=[_]) rfl zbI (XZ I _ _) ?_
 refine zC ?_
 refine zM ?_
 refine QR 3 rfl rfl rfl ?_
 refine zJ (Qo rfl Vf (fun hg=>by exact Cells.g0) rfl) ?_
 refine qf (vs:=[_]) rfl zbI (fun hg=>XZ I _ _) ?_
 refine zJ (QG rfl rfl rfl) ?_
 refine Zo rfl rfl rfl rfl rfl ?_
 refine zN ?_
 refine zI ?_ ?_<;>intro hc13
 ·
  have hb:(UO an ad&&UO bn bd)=false:=by have h:=hc13;rw [zcn,Bool.not_eq_true'] at h;exact h
  refine zR (zA ?_)
  refine zA (zN (Qt (Qc ?_)))
  exact ZA rfl rfl rfl (fun w hw=>⟨by unfold zi7 zlw;rw [hb];rfl,hw.drop⟩)
 have hb:(UO an ad&&UO bn bd)=true:=by have h:=hc13;rw [zcn,Bool.not_eq_false'] at h;exact h
 have ⟨ha1,ha2⟩:=zcy (Bool.and_eq_true .. ▸ hb).1
 have ⟨hb1,hb2⟩:=zcy (Bool.and_eq_true .. ▸ hb).2
 refine Qn (Qa (zR ?_))
 refine zF Vw ?_
 refine zL Qr ?_
 refine zF Jd ?_
 refine zL Qr ?_
 refine zV (ZR rfl rfl rfl (fun _=>by exact znH (by omega) (by omega))) ?_
 refine zF Vw ?_
 refine zL Qr ?_
 refine zF Jd ?_
 refine zL Qr ?_
 refine zV (ZR rfl rfl rfl (fun _=>by exact znH (by omega) (by omega))) ?_
 refine qc (vs:=[_,_]) rfl zeK (znv I _ _) ?_
 refine zA ?_
 refine zA (zN (Qt ?_))
 exact ZA rfl rfl rfl (fun w hw=>⟨by unfold zi7 zlw;rw [hb];rfl,hw.drop⟩)
theorem zjO (I:Qu)(an ad bn bd:Int):Zy Tryz.prog 203 [zbp (an) (ad),zbp (bn) (bd)] I (.bool (zet an ad bn bd)):=by
 intro g H w hw
 refine qe Tryz.func203 Tryz.ntmps203 hw ?_
 refine zR ?_
 refine Q2 rfl rfl rfl (fun b_2=>?_)
 refine Q2 rfl rfl rfl (fun b_3=>?_)
 refine zA ?_
 refine zN (zR ?_)
 refine zV (Qo rfl Vf (fun hg=>by exact Cells.g1) rfl) ?_
 refine zV (Qo rfl Vf (fun hg=>by exact Cells.g0) rfl) ?_
 refine qc (vs:=[_,_]) rfl zjF (zkw I _ _ _ _) ?_
 refine zM ?_
 refine zE ?_
 refine zE ?_
 refine zA ?_
 refine zA ?_
 refine zN (zR ?_)
 refine zM ?_
 refine zC ?_
 refine zM ?_
 refine QH 2 rfl rfl rfl ?_
 refine zK (Qi rfl) ?_
 refine zK (QG rfl rfl rfl) ?_
 refine QP rfl rfl rfl rfl rfl ?_
 refine zM ?_
 refine QH 6 rfl rfl rfl ?_
 refine zK (Qd rfl Vw) ?_
 refine zK (Qe rfl Qr (fun hg=>by exact QT.h1 rfl)) ?_
 refine zK (QG rfl rfl rfl) ?_
 refine QP rfl rfl rfl rfl rfl ?_
 refine zM ?_
 refine QH 11 rfl rfl rfl ?_
 refine zK (Qd rfl Vw) ?_
 refine zK (Qe rfl Qr (fun hg=>by exact QT.h0 rfl)) ?_
 refine zK (Qd rfl Jd) ?_
 refine zK (Qe rfl Qr (fun hg=>by exact QT.h0 rfl)) ?_
 refine zK (QG rfl rfl rfl) ?_
 refine QP rfl rfl rfl rfl rfl ?_
 refine zA (zN (Qt ?_))
 exact zr rfl rfl (by rw [←zel])
theorem ZU (I:Qu)(n lo hi:Int):Zy Tryz.prog 202 [.int .i64 n,.int .i64 lo,.int .i64 hi] I (.bool (Yy n lo hi)):=by
 intro g H w hw
 refine qe Tryz.func202 Tryz.ntmps202 hw ?_
 refine zR (zA ?_)
 refine zN (zR ?_)
 refine zM ?_
 refine zM ?_
 refine zC ?_
 refine zM ?_
 refine QH 3 rfl rfl rfl ?_
 refine zK (Qi rfl) ?_
 refine zK (Qi rfl) ?_
 refine zK (QG rfl rfl rfl) ?_
 refine QP rfl rfl rfl rfl rfl ?_
 refine zA (zN (Qt ?_))
 exact zr rfl rfl (by rfl)
theorem zr4 (I:Qu)(x:Sg):Zy Tryz.prog 154 [JO x] I (.bool (frm x)):=by
 intro g H w hw
 refine qe Tryz.func154 Tryz.ntmps154 hw ?_
 refine zR ?_
 refine Q2 rfl rfl rfl (fun b_1=>?_)
 refine zA ?_
 refine zN (zR ?_)
 refine zF ZM ?_
 refine zL Qr ?_
 refine qc (vs:=[_,_,_]) rfl Yi (ZU I _ _ _) ?_
 refine zM ?_
 refine QH 3 rfl rfl rfl ?_
 refine zK (Qd rfl Jo) ?_
 refine zK (Qe rfl Qr (fun hg=>by exact QT.h0 rfl)) ?_
 refine qg (vs:=[_,_,_]) rfl Yi (fun hg=>ZU I _ _ _) ?_
 refine QP rfl rfl rfl rfl rfl ?_
 refine zM ?_
 refine QH 8 rfl rfl rfl ?_
 refine zK (Qd rfl Je) ?_
 refine zK (Qe rfl Qr (fun hg=>by exact QT.h0 rfl)) ?_
 refine qg (vs:=[_,_,_]) rfl Yi (fun hg=>ZU I _ _ _) ?_
 refine QP rfl rfl rfl rfl rfl ?_
 refine zM ?_
 refine QH 13 rfl rfl rfl ?_
 refine zK (Qd rfl XS) ?_
 refine zK (Qe rfl Qr (fun hg=>by exact QT.h0 rfl)) ?_
 refine qg (vs:=[_,_,_]) rfl Yi (fun hg=>ZU I _ _ _) ?_
 refine QP rfl rfl rfl rfl rfl ?_
 refine zM ?_
 refine QH 18 rfl rfl rfl ?_
 refine zK (Qd rfl Y4) ?_
 refine zK (Qe rfl Qr (fun hg=>by exact QT.h0 rfl)) ?_
 refine qg (vs:=[_,_,_]) rfl Yi (fun hg=>ZU I _ _ _) ?_
 refine QP rfl rfl rfl rfl rfl ?_
 refine zM ?_
 refine QH 23 rfl rfl rfl ?_
 refine zK (Qd rfl Jr) ?_
 refine zK (Qe rfl Qr (fun hg=>by exact QT.h0 rfl)) ?_
 refine qg (vs:=[_,_,_]) rfl Yi (fun hg=>ZU I _ _ _) ?_
 refine QP rfl rfl rfl rfl rfl ?_
 refine zM ?_
 refine QH 28 rfl rfl rfl ?_
 refine zK (Qd rfl Jj) ?_
 refine zK (Qe rfl Qr (fun hg=>by exact QT.h0 rfl)) ?_
 refine qg (vs:=[_,_,_]) rfl Yi (fun hg=>ZU I _ _ _) ?_
 refine QP rfl rfl rfl rfl rfl ?_
 refine zM ?_
 refine QH 33 rfl rfl rfl ?_
 refine zK (Qd rfl Jm) ?_
 refine zK (Qe rfl Qr (fun hg=>by exact QT.h0 rfl)) ?_
 refine qg (vs:=[_,_,_]) rfl Yi (fun hg=>ZU I _ _ _) ?_
 refine QP rfl rfl rfl rfl rfl ?_
 refine zM ?_
 refine QH 38 rfl rfl rfl ?_
 refine zK (Qd rfl Jf) ?_
 refine zK (Qe rfl Qr (fun hg=>by exact QT.h0 rfl)) ?_
 refine qg (vs:=[_,_,_]) rfl Yi (fun hg=>ZU I _ _ _) ?_
 refine QP rfl rfl rfl rfl rfl ?_
 refine zM ?_
 refine QH 43 rfl rfl rfl ?_
 refine zK (Qd rfl Jp) ?_
 refine zK (Qe rfl Qr (fun hg=>by exact QT.h0 rfl)) ?_
 refine qg (vs:=[_,_,_]) rfl Yi (fun hg=>ZU I _ _ _) ?_
 refine QP rfl rfl rfl rfl rfl ?_
 refine zM ?_
 refine QH 48 rfl rfl rfl ?_
 refine zK (Qd rfl YZ) ?_
 refine zK (Qo rfl Vf (fun hg=>by exact Cells.s0 (vs:=[_,_]) rfl) rfl) ?_
 refine zK (Qd rfl Y2) ?_
 refine zK (Qo rfl Vf (fun hg=>by exact Cells.s0 (vs:=[_,_]) rfl) rfl) ?_
 refine qg (vs:=[_,_]) rfl zkR (fun hg=>zjO I _ _ _ _) ?_
 refine QP rfl rfl rfl rfl rfl ?_
 refine zA (zN (Qt ?_))
 exact zr rfl rfl (by rfl)
theorem zfD {I:Qu}{av:Option Addr}{n c:Nat}{xs:List Sg}(hS:Sl I 14 YU av n c xs)(hn:n≤100000):Zy Tryz.prog 102 [.slice av n c] I (.int .i64 (We xs)):=by
 intro g H w hw
 refine qe Tryz.func102 Tryz.ntmps102 hw ?_
 refine zR (zA (zN (Ql (zR ?_))))
 refine zM ?_
 refine zQ YW ?_
 refine zC (zN ?_)
 refine zI ?_ ?_<;>intro hc7
 ·
  have h6:xs.length>4096:=by rw [hS.len];simp at hc7;omega
  refine zR (zA (zN (Qt (Qc ?_))))
  first
  | exact zr rfl rfl (by unfold We;rw [if_pos h6])
 have h6:¬xs.length>4096:=by rw [hS.len];simp at hc7;omega
 refine Qn (Qa (Ql (zR (zM ?_))))
 refine zQ YW ?_
 refine zM (zN (Qm ?_))
 refine zU [(0,_),(8,_),(9,_)] (fun T L0 mz E I' loc'=>∃ (k:Nat),mz=n-k∧E=(10,.int .i64 k)::T∧I=I'∧L0=loc'∧k≤n∧(List.range k).all (skP xs)=true) ?_ (h:=⟨0,rfl,rfl,rfl,rfl,Nat.zero_le _,rfl⟩)
 rintro mz E I' loc' ⟨k,rfl,rfl,rfl,rfl,hk,hall⟩
 refine zR (zC (zN (Ql ?_)))
 refine zI ?_ ?_<;>intro hc11
 ·
  have hlt_k:k<n:=by have h:=hc11;simp at h;omega
  obtain ⟨x,hx⟩:=hS.at hlt_k
  refine Qn (Qa (Ql (Qm (zR (zM ?_)))))
  refine zV (QE rfl rfl YW (by assumption) (fun hg=>by omega)) ?_
  refine zV (Qo rfl Q9 (fun hg=>by exact zAi hS hx) rfl) ?_
  refine Qs Wv rfl rfl (fun b_4=>?_)
  refine zA ?_
  refine zh Ye ?_
  refine zN (Ql ?_)
  refine YF mixed (by kernel_rfl) ?_
  refine zq (Qo rfl Q9 (fun hg=>by exact Cells.g0) rfl) ?_
  refine JC (cap:=[]) (vs:=[_]) rfl rfl zjH (zr4 I _) rfl rfl ?_
  refine zq (Ve rfl) ?_
  refine zq (Qi rfl) ?_
  refine ZZ 3 rfl rfl rfl ?_
  refine zj (Qi rfl) ?_
  refine zj (QG rfl rfl rfl) ?_
  refine zj (Qi rfl) ?_
  refine JX 6 rfl rfl rfl ?_
  refine zk (Qi rfl) ?_
  refine zk (Qi rfl) ?_
  refine zk (ZR rfl rfl rfl (fun hg=>by omega)) ?_
  refine zk (QE rfl rfl YW (by assumption) (fun hg=>by (simp [ZY] at hg;omega))) ?_
  refine zk (Qd rfl ZM) ?_
  refine zk (Qe rfl Qr (fun hg=>by exact zAa (k:=((k:Int)-1).toNat) hS (Q4 (d:=YC) hS.len (by simp [ZY] at hg;omega)) rfl)) ?_
  refine zk (Qd rfl ZM) ?_
  refine zk (Qe rfl Qr (fun hg=>by exact QT.h0 rfl)) ?_
  refine zk (QG rfl rfl rfl) ?_
  refine zaC rfl rfl rfl (.some rfl rfl rfl rfl gbf) rfl rfl ?_
  refine VS rfl rfl rfl rfl rfl ?_
  refine YK ?_
  refine Qa ?_
  refine zI ?_ ?_<;>intro hc32
  ·
   refine zR (zA (zN (Qt (Qp (Qc (Qc (Qp ?_)))))))
   refine Qc ?_
   first
   | exact zr rfl rfl (by unfold We skB;rw [if_neg h6,Kd (k:=k) (by rw [hS.len];exact hlt_k) (by rw [zdV hx,hc32];rfl)];rfl)
  refine Qn (Qf (Qa (Qg (zB ?_))))
  refine zM (Qb ?_)
  exact zm (h:=⟨n-(k+1),by omega,k+1,rfl,rfl,rfl,rfl,by omega,Jv hall (by rw [zdV hx,hc32];rfl)⟩)
 have hge_k:n≤k:=by have h:=hc11;simp at h;omega
 refine QI (Qh (Qh (Qk (Qa (zR (zA (zN ?_)))))))
 refine Qt ?_
 first
 | exact zr rfl rfl (by unfold We skB;rw [if_neg h6,hS.len,show n=k by omega,hall];rfl)
end
section
open Go Go.Kn Go.Proofs
structure Wr where
 no:Int
 yr:Int
 rs:List Rd
def ziV (I:Qu)(av:Option Addr)(n c:Nat)(ws:List Wt)(xs:List Wr):Prop:=Sl I 3 zlt av n c ws∧ws.length=xs.length∧∀ (k:Nat) (w:Wt) (x:Wr),ws[k]? =some w→xs[k]? =some x→w.no=x.no∧w.yr=x.yr∧Sl I 15 JJ w.a w.n w.c x.rs
def SlW (I:Qu)(av:Option Addr)(n c:Nat)(xs:List Wr):Prop:=∃ ws:List Wt,ziV I av n c ws xs
theorem ziV.mono {I I':Qu}{av:Option Addr}{n c:Nat}{ws:List Wt}{xs:List Wr}(h:ziV I av n c ws xs)(hI:HLe I I'):ziV I' av n c ws xs:=
 ⟨h.1.mono hI,h.2.1,fun k w x h1 h2=>⟨(h.2.2 k w x h1 h2).1,(h.2.2 k w x h1 h2).2.1,(h.2.2 k w x h1 h2).2.2.mono hI⟩⟩
theorem SlW.mono {I I':Qu}{av:Option Addr}{n c:Nat}{xs:List Wr}(h:SlW I av n c xs)(hI:HLe I I'):SlW I' av n c xs:=by
 obtain ⟨ws,h⟩:=h;exact ⟨ws,h.mono hI⟩
theorem ziV.len {I:Qu}{av:Option Addr}{n c:Nat}{ws:List Wt}{xs:List Wr}(h:ziV I av n c ws xs):xs.length=n:=by rw [←h.2.1];exact h.1.len
theorem SlW.len {I:Qu}{av:Option Addr}{n c:Nat}{xs:List Wr}(h:SlW I av n c xs):xs.length=n:=by obtain ⟨ws,h⟩:=h;exact h.len
theorem ziV.at {I:Qu}{av:Option Addr}{n c:Nat}{ws:List Wt}{xs:List Wr}(h:ziV I av n c ws xs){k:Nat}(hk:k<n):∃ w x,ws[k]? =some w∧xs[k]? =some x∧w.no=x.no∧w.yr=x.yr∧Sl I 15 JJ w.a w.n w.c x.rs:=by
 obtain ⟨w,hw⟩:=h.1.at hk
 have hl:=h.len
 obtain ⟨x,hx⟩:∃ x,xs[k]? =some x:=⟨_,List.getElem?_eq_getElem (by omega)⟩
 exact ⟨w,x,hw,hx,h.2.2 k w x hw hx⟩
def zxL (xs:List Wr):Bool:=decide (xs.length≤5)&&xs.all fun x=>decide (x.rs.length≤8)
theorem zww {I:Qu}{av:Option Addr}{n c:Nat}{ws:List Wt}{xs:List Wr}(h:ziV I av n c ws xs):zps ws=zxL xs:=by
 unfold zps zxL
 rw [h.2.1]
 congr 1
 rw [Bool.eq_iff_iff,List.all_eq_true,List.all_eq_true]
 constructor
 ·
  intro ha x hx
  obtain ⟨k,hk,e⟩:=List.mem_iff_getElem.1 hx
  obtain ⟨w,x',hw,hx',_,_,hs⟩:=h.at (k:=k) (by rw [←h.len];exact hk)
  have:x'=x:=by rw [List.getElem?_eq_getElem hk,e] at hx';exact (Option.some.inj hx').symm
  subst this
  have:=ha w (List.mem_of_getElem? hw)
  rw [hs.len];exact this
 ·
  intro ha w hw
  obtain ⟨k,hk,e⟩:=List.mem_iff_getElem.1 hw
  obtain ⟨w',x,hw',hx',_,_,hs⟩:=h.at (k:=k) (by rw [←h.1.len];exact hk)
  have:w'=w:=by rw [List.getElem?_eq_getElem hk,e] at hw';exact (Option.some.inj hw').symm
  subst this
  have:=ha x (List.mem_of_getElem? hx')
  rw [←hs.len];exact this
def WK (x y:Sg):Bool:=x.id==y.id&&(x.role==y.role&&(x.bar==y.bar&&(x.mark==y.mark&&(x.kind==y.kind&&(x.side==y.side&&(x.dir==y.dir&&(x.level==y.level&&(x.size==y.size&&(x.wth==y.wth&&(x.fn==y.fn&&(x.fd==y.fd&&(x.tn==y.tn&&(x.td==y.td&&true)))))))))))))
theorem Uj {x y:Sg}:WK x y=true↔x=y:=by
 obtain ⟨a1,a2,a3,a4,a5,a6,a7,a8,a9,a10,a11,a12,a13,a14⟩:=x
 obtain ⟨b1,b2,b3,b4,b5,b6,b7,b8,b9,b10,b11,b12,b13,b14⟩:=y
 simp [WK]
instance : DecidableEq Sg := fun a b => decidable_of_iff (WK a b = true) Uj
def zdD (r:Rd):Bool:=(r.lost&& !WK r.sg YC)||(!r.lost&&((r.sg.id != 0)||(We [r.sg] != 0)))
theorem zou {r:Rd}(h:r.lost=true)(b:Bool)(h2:(!WK r.sg YC)=b):zdD r=b:=by unfold zdD;rw [h,h2];cases b<;>rfl
theorem zuE {r:Rd}(h:r.lost=false)(h2:(r.sg.id != 0)=true):zdD r=true:=by unfold zdD;rw [h,h2];rfl
theorem zwJ {r:Rd}(h:r.lost=false)(h2:(r.sg.id != 0)=false):zdD r=(We [r.sg] != 0):=by unfold zdD;rw [h,h2];simp
theorem znR (r:Rd):(r.lost=true∧(!WK r.sg YC)=true)∨(r.lost=true∧(!WK r.sg YC)=false)∨(r.lost=false∧(r.sg.id != 0)=true)∨(r.lost=false∧(r.sg.id != 0)=false):=by
 cases r.lost<;>cases (!WK r.sg YC)<;>cases (r.sg.id != 0)<;>simp
def zl6 (l:Int)(x:Wr):Bool:=((decide (x.no≤l)||decide (x.no>1048576))||decide (x.yr<0))||decide (x.yr>3000)
def K9:Int→List Wr→Bool
 | _,[]=>true
 | l,x::xs=> !zl6 l x&&(!x.rs.any zdD&&K9 x.no xs)
def Ut (xs:List Wr):Int:=if xs.length>24 then 2 else if xs.any (fun x=>decide (x.rs.length>64))=true then 2 else if K9 0 xs=true then 0 else 410
theorem zu5 {xs:List Wr}(h:xs.length>24):Ut xs=2:=by unfold Ut;rw [if_pos h]
theorem zwD {xs:List Wr}(h:¬xs.length>24)(h2:xs.any (fun x=>decide (x.rs.length>64))=true):Ut xs=2:=by unfold Ut;rw [if_neg h,if_pos h2]
theorem zfm {xs:List Wr}(h:¬xs.length>24)(h2:xs.any (fun x=>decide (x.rs.length>64))=false)(h3:K9 0 xs=false):Ut xs=410:=by unfold Ut;rw [if_neg h,h2,h3];rfl
theorem zw6 {xs:List Wr}(h:¬xs.length>24)(h2:xs.any (fun x=>decide (x.rs.length>64))=false)(h3:K9 0 xs=true):Ut xs=0:=by unfold Ut;rw [if_neg h,h2,h3];rfl
theorem zjh {xs:List Wr}{k:Nat}{l:Int}{x:Wr}(hx:xs[k]? =some x)(hb:zl6 l x=true):K9 l (xs.drop k)=false:=by rw [ZO hx];unfold K9;rw [hb];rfl
theorem zbL {xs:List Wr}{k:Nat}{l:Int}{x:Wr}{r:Rd}{j:Nat}(hx:xs[k]? =some x)(hr:x.rs[j]? =some r)(hb:zdD r=true):K9 l (xs.drop k)=false:=by
 rw [ZO hx];unfold K9
 rw [show x.rs.any zdD=true from List.any_eq_true.2 ⟨r,List.mem_of_getElem? hr,hb⟩];simp
theorem zhx {xs:List Wr}{k:Nat}{l:Int}{x:Wr}(hx:xs[k]? =some x)(hb:zl6 l x=false)(hr:x.rs.any zdD=false):K9 l (xs.drop k)=K9 x.no (xs.drop (k+1)):=by
 rw [ZO hx]
 show (!zl6 l x&&(!x.rs.any zdD&&K9 x.no (xs.drop (k+1))))=_
 rw [hb,hr];rfl
theorem zjV {xs:List Wr}{k:Nat}{l:Int}(h:xs.length≤k):K9 l (xs.drop k)=true:=by rw [List.drop_eq_nil_of_le h];rfl
end
end Go.Proofs.YtodakphagkommaaGreatDoor
namespace Go.Kn
section
open Go
section
variable {C:Cx} {Q:Exit→Act→World→Prop} {E G:Env} {I I' I0:Qu} {loc loc' loc0 L R:Loc} {ops:Array Oper} {rest:List Oper} {S:GS}
variable {dst:Option Nat} {d:Nat} {ty:TypeId} {pos:String} {af:Array Edge} {gd:Option (Nat×Bool)} {x y z:Operand} {a b c:Int}
theorem zqK {k:IntKind}{ats:Array TypeId}(hx:QA S E x=some (.int k a))(hy:QA S E y=some (.int k b))(hz:QA S E z=some (.int k c)):QV C S E I loc ⟨dst,.call ⟨.builtin .min, #[x,y,z],ats⟩,ty,pos,af,gd⟩ (.int k (Kq (Kq a b) c)):=
 .of (by intro c e;cases e) fun ac w ha hg hc hw=>by
  simp only [execOp,resolve,List.map_toArray,List.map_cons,List.map_nil,Qj ha hg hc hx,Qj ha hg hc hy,Qj ha hg hc hz,Sem.run_bind,Sem.run_pure,Result.andThen,invoke,builtin];rfl
def zmg (u:Value)(want:Bool):Bool:=match u with | .bool b=>b != want | _=>true
theorem zds {j dj:Nat}{want:Bool}{oj o:Oper}{u:Value}{N:Nat}{D:List Deferred}{a:Act}(hg:o.guard=some (j,want))(hj:ops[j]? =some oj)(hd:oj.dst=some dj)(ha:KD N D E a)(hl:V1 E dj=some u)(hu:zmg u want=true):Region.wanted o (yielded ops a.tmps)=false:=by
 have h:=ha.env _ _ hl
 simp only [Region.wanted,hg]
 cases u with
 | bool b0=>
  rw [KL hj hd h]
  cases b0<;>cases want<;>first | rfl | cases hu
 | _=>
  have hy:yielded ops a.tmps j=none:=by
   unfold yielded
   simp only [hj,Option.bind_some,hd]
   cases e:a.tmps[dj]? with
   | none=>rfl
   | some v=>
    simp [e] at h;rw [h]
  rw [hy];rfl
theorem QW {op:Op}{j dj:Nat}{want:Bool}{oj:Oper}{u:Value}(hj:ops[j]? =some oj)(hd:oj.dst=some dj)(hl:V1 E dj=some u)(hu:zmg u want=true)(hN:Nat.blt d C.N=true)
  (h:XO C Q ops rest [] ((d,undef)::E) I loc):XO C Q ops (⟨some d,op,ty,pos,af,some (j,want)⟩::rest) [] E I loc:=by
 intro a w ha hg hw
 simp only [wpListIn]
 rw [zds (o:=⟨some d,op,ty,pos,af,some (j,want)⟩) rfl hj hd ha hl hu]
 simp only [Bool.false_eq_true,if_false]
 exact ⟨fun _ _=>trivial,h _ _ (ha.put hN undef) trivial hw⟩
theorem zmq (i:Nat){j dj fuel:Nat}{want:Bool}{oj:Oper}{listed:Array Bool}{op:Op}{u:Value}(hi:ops[i]? =some ⟨some d,op,ty,pos,af,some (j,want)⟩)(hj:ops[j]? =some oj)(hd:oj.dst=some dj)(hlk:V1 E dj=some u)(hu:zmg u want=true)
  (hdf:∀ c,op≠ .defer c)(hN:Nat.blt d C.N=true)
  (hs:Region.noSelect ops=true)(hfr:Region.free .any ops listed i=true)(hr:(Region.ready .any ops listed).contains i=true)(hQ:UD Q)(hI:HLe I0 I)(hl:KJ loc0 loc)
  (h:XD C Q ops I0 loc0 fuel (listed.setIfInBounds i true) [] ((d,undef)::E) I loc):XD C Q ops I0 loc0 (fuel+1) listed [] E I loc:=by
 intro a w ha hg hw
 have hp:=ha.put hN undef
 refine K5 (v:=undef) hi hdf (Region.noSelect_spec hs) (fun c a w=>hQ c a d _ w) fuel listed a w (Region.free_spec hi hfr) (by simpa using hr) ?_ ((hw.mono hI).subL hl) (h _ _ hp trivial hw)
 exact .inr ⟨by rw [zds (o:=⟨some d,op,ty,pos,af,some (j,want)⟩) rfl hj hd ha hlk hu],rfl⟩
theorem zW (i dj:Nat){j fuel:Nat}{want:Bool}{oj:Oper}{listed:Array Bool}{op:Op}{u:Value}(hI:HLe I0 I)(h:XD C Q ops I0 loc0 fuel (listed.setIfInBounds i true) [] ((d,undef)::E) I loc)(hi:ops[i]? =some ⟨some d,op,ty,pos,af,some (j,want)⟩:=by exact rfl)(hj:ops[j]? =some oj:=by exact rfl)(hd:oj.dst=some dj:=by exact rfl)(hlk:V1 E dj=some u:=by exact rfl)(hu:zmg u want=true:=by exact rfl)
  (hdf:∀ c,op≠ .defer c:=by (intro c e;cases e))(hN:Nat.blt d C.N=true:=by exact rfl)(hs:Region.noSelect ops=true:=by kernel_rfl)(hfr:Region.free .any ops listed i=true:=by kernel_rfl)(hr:(Region.ready .any ops listed).contains i=true:=by kernel_rfl)(hQ:UD Q:=by exact zir)(hl:KJ loc0 loc:=by repeat (first | exact .refl | exact Wh | refine .keep ?_ | refine .drop ?_ | refine Z7 ?_)):XD C Q ops I0 loc0 (fuel+1) listed [] E I loc:=zmq i hi hj hd hlk hu hdf hN hs hfr hr hQ hI hl h
end
end
end Go.Kn
namespace Go.Proofs.YtodakphagkommaaGreatDoor
section
open Go Go.Kn Go.Proofs
theorem zas:AgT Tryz.prog 65 3:=.of (by kernel_rfl)
theorem Uz:ElT Tryz.prog 48 54 14 112:=.of (by kernel_rfl)
theorem Ks:zx4 Tryz.prog 54 [.int,.int,.int,.int,.int,.int,.int,.int,.int,.int,.int,.int,.int,.int]:=⟨by kernel_rfl,by kernel_rfl,by kernel_rfl,by kernel_rfl⟩
theorem zbs:QZ Tryz.prog 65 0 0:=.of (by kernel_rfl)
theorem zgj:QZ Tryz.prog 65 1 1:=.of (by kernel_rfl)
theorem ze4:Fun Tryz.prog 102:=.of Tryz.func102 (by kernel_rfl) (by kernel_rfl)
theorem zkW:SzT Tryz.prog 65 3:=.of (by kernel_rfl)
theorem ztc:Yu Tryz.prog 65 (.agg #[(.int .i64 0),(.int .i64 0),(.slice none 0 0)]):=.of (by kernel_rfl)
theorem zt4 {I:Qu}{av:Option Addr}{n c:Nat}{xs:List Wr}(hW:SlW I av n c xs)(hn:n≤100000):Zy Tryz.prog 58 [.slice av n c] I (.int .i64 (Ut xs)):=by
 intro g H w hw
 refine qe Tryz.func58 Tryz.ntmps58 hw ?_
 have hIc:=zAh I
 obtain ⟨ws,hW⟩:=hW
 have hH:=hW.1
 have hlW:=hW.len
 refine zR (zA (zN (Ql (zR ?_))))
 refine zM ?_
 refine zQ Y9 ?_
 refine zC (zN ?_)
 refine zI ?_ ?_<;>intro hc12
 ·
  have h1:xs.length>24:=by rw [hlW];simp at hc12;omega
  refine zR (zA (zN (Qt (Qc ?_))))
  exact zp hIc rfl rfl (by rw [zu5 h1])
 have h1:¬xs.length>24:=by rw [hlW];simp at hc12;omega
 refine Qn (Qa (Ql (zR (zM ?_))))
 refine zQ Y9 ?_
 refine zM (zN (Qm ?_))
 refine zU [(0,_),(13,_),(14,_)] (fun T L0 mz E I' loc'=>∃ (k:Nat),mz=n-k∧E=(15,.int .i64 k)::T∧I=I'∧L0=loc'∧k≤n∧(xs.take k).any (fun x=>decide (x.rs.length>64))=false) ?_ (h:=⟨0,rfl,rfl,rfl,rfl,Nat.zero_le _,rfl⟩)
 rintro mz E I' loc' ⟨k,rfl,rfl,rfl,rfl,hk,hno⟩
 refine zR (zC (zN (Ql ?_)))
 refine zI ?_ ?_<;>intro hc16
 ·
  have hlt_k:k<n:=by have h:=hc16;simp at h;omega
  obtain ⟨w,x,hx,hv,e1,e2,hR⟩:=hW.at hlt_k
  refine Qn (Qa (Ql (Qm (zR ?_))))
  refine zV (zX Y9 hH) ?_
  refine zV (Qo rfl zas (fun hg=>by exact zAi hH hx) rfl) ?_
  refine Qs ztc rfl rfl (fun b_4=>?_)
  refine zh zkW ?_
  refine zN (zR ?_)
  refine zF Kr ?_
  refine zL X2 ?_
  refine zQ Ww ?_
  refine zC (zN ?_)
  refine zI ?_ ?_<;>intro hc22
  ·
   have h2:xs.any (fun x=>decide (x.rs.length>64))=true:=Kt hv (by rw [hR.len];have h:=hc22;simp at h ⊢;omega)
   refine zR (zA (zN (Qt (Qp (Qc (Qc (Qp ?_)))))))
   refine Qc ?_
   exact zp hIc rfl rfl (by rw [zwD h1 h2])
  refine Qn (Qf (Qa (Qg (zB ?_))))
  refine zM (Qb ?_)
  exact zm (h:=⟨n-(k+1),by omega,k+1,rfl,rfl,rfl,rfl,by omega,Vb hv hno (by rw [hR.len];have h:=hc22;simp at h ⊢;omega)⟩)
 have hge_k:n≤k:=by have h:=hc16;simp at h;omega
 rw [ZH hlW hge_k] at hno
 refine QI (Qh (Qh (Qk (Qa (zR (zA (zN ?_)))))))
 refine Ql (zR (zM ?_))
 refine zQ Y9 ?_
 refine zM (zN (Qm ?_))
 refine zU [(24,_),(25,_)] (fun T L0 mz E I' loc'=>∃ (k:Nat) (l:Int),mz=n-k∧E=(5,.int .i64 l)::(26,.int .i64 k)::T∧HLe I I'∧L0=loc'∧k≤n∧K9 0 xs=K9 l (xs.drop k)) ?_ (h:=⟨0,0,rfl,rfl,zAh _,rfl,Nat.zero_le _,rfl⟩)
 rintro mz E J2 loc' ⟨k,l,rfl,rfl,hJ,rfl,hk,hgo⟩
 have hW:=hW.mono hJ;have hH:=hH.mono hJ;have hIc:=hIc.trans hJ
 have hB2:=hJ
 refine zR (zC (zN (Ql ?_)))
 refine zI ?_ ?_<;>intro hc27
 ·
  have hlt_k:k<n:=by have h:=hc27;simp at h;omega
  obtain ⟨w,x,hx,hv,e1,e2,hR⟩:=hW.at hlt_k
  have hrn:=hR.len
  have hR64:w.n≤64:=by have:=List.any_eq_false.1 hno x (List.mem_of_getElem? hv);simp at this;omega
  refine Qn (Qa (Ql (Qm (zR ?_))))
  refine zV (zX Y9 hH) ?_
  refine zV (Qo rfl zas (fun hg=>by exact zAi hH hx) rfl) ?_
  refine Qs ztc rfl rfl (fun b_7=>?_)
  refine zh zkW ?_
  refine zN (Ql (zR ?_))
  refine zF zbs ?_
  refine zL Qr ?_
  refine zM ?_
  refine zC ?_
  refine zM ?_
  refine QR 4 rfl rfl rfl ?_
  refine zJ (Qd rfl zbs) ?_
  refine zJ (Qe rfl Qr (fun hg=>by exact QT.h0 rfl)) ?_
  refine zJ (QG rfl rfl rfl) ?_
  refine Zo rfl rfl rfl rfl rfl ?_
  refine zM ?_
  refine QR 9 rfl rfl rfl ?_
  refine zJ (Qd rfl zgj) ?_
  refine zJ (Qe rfl Qr (fun hg=>by exact QT.h0 rfl)) ?_
  refine zJ (QG rfl rfl rfl) ?_
  refine Zo rfl rfl rfl rfl rfl ?_
  refine zM ?_
  refine QR 14 rfl rfl rfl ?_
  refine zJ (Qd rfl zgj) ?_
  refine zJ (Qe rfl Qr (fun hg=>by exact QT.h0 rfl)) ?_
  refine zJ (QG rfl rfl rfl) ?_
  refine Zo rfl rfl rfl rfl rfl ?_
  refine zN ?_
  refine zI ?_ ?_<;>intro hc48
  ·
   have hbw:zl6 l x=true:=by unfold zl6;rw [←e1,←e2];exact hc48
   refine zR (zA (zN (Qt (Qc (Qp (Qc (Qc ?_)))))))
   refine Qp (Qc ?_)
   exact zp hIc rfl rfl (by rw [zfm h1 hno (hgo.trans (zjh hv hbw))])
  have hbw:zl6 l x=false:=by unfold zl6;rw [←e1,←e2];exact hc48
  refine Qn (Qa (zR ?_))
  refine zF zbs ?_
  refine zL Qr ?_
  refine zA ?_
  refine zN (zR ?_)
  refine zF Kr ?_
  refine zL X2 ?_
  refine zQ Ww ?_
  refine zM (zN (Qm ?_))
  refine zU [(5,_),(24,_),(25,_),(26,_),(52,_),(53,_)] (fun T L0 mz E I' loc'=>∃ (j:Nat),mz=w.n-j∧E=(54,.int .i64 j)::T∧HLe J2 I'∧[(b_7,.cells (zlt w).toArray 65 (0,0))]=loc'∧j≤w.n∧(x.rs.take j).any zdD=false) ?_ (h:=⟨0,rfl,rfl,zAh _,rfl,Nat.zero_le _,rfl⟩)
  rintro mz E J3 loc' ⟨j,rfl,rfl,hJ,rfl,hj,hnr⟩
  have hR:=hR.mono hJ;have hIc:=hIc.trans hJ;have hB2:=hB2.trans hJ
  have hB4:=hJ
  refine zR (zC (zN (Ql ?_)))
  refine zI ?_ ?_<;>intro hc55
  ·
   have hlt_j:j<w.n:=by have h:=hc55;simp at h;omega
   obtain ⟨r,hr⟩:=hR.at hlt_j
   refine Qn (Qa (Ql (Qm (zR ?_))))
   refine zV (zX Ww hR) ?_
   refine zV (Qo rfl zbb (fun hg=>by exact zAi hR hr) rfl) ?_
   refine Qs zfd rfl rfl (fun b_9=>?_)
   refine zh zaH ?_
   refine zN (Ql ?_)
   obtain ⟨hlo,hz⟩ | ⟨hlo,hz⟩ | ⟨hlo,hz⟩ | ⟨hlo,hz⟩:=znR r
   ·
    have hbr:=zou hlo true hz
    refine Qg ?_
    refine zF Vp ?_
    refine zL zax ?_
    rw [hlo]
    refine zM ?_
    refine QN (dj:=60) rfl rfl rfl ?_
    refine zF VP ?_
    refine QN (dj:=60) rfl rfl rfl ?_
    refine zV (Qo rfl Q9 (fun hg=>by exact Cells.s0 (vs:=[_,_,_,_,_,_,_,_,_,_,_,_,_,_]) rfl) rfl) ?_
    refine QN (dj:=60) rfl rfl rfl ?_
    refine zV (QS (ps:=[]) [_,_,_,_,_,_,_,_,_,_,_,_,_,_] WD rfl rfl) ?_
    refine QN (dj:=60) rfl rfl rfl ?_
    refine zV (v:=.bool (!WK r.sg YC)) (zaO rfl rfl Ks rfl) ?_
    rw [hz]
    refine zV (ZN rfl rfl rfl) ?_
    refine zM ?_
    refine QW (dj:=66) rfl rfl rfl rfl rfl ?_
    refine QW (dj:=66) rfl rfl rfl rfl rfl ?_
    refine QW (dj:=66) rfl rfl rfl rfl rfl ?_
    refine QW (dj:=66) rfl rfl rfl rfl rfl ?_
    refine QW (dj:=70) rfl rfl rfl rfl rfl ?_
    refine QW (dj:=70) rfl rfl rfl rfl rfl ?_
    refine QW (dj:=70) rfl rfl rfl rfl rfl ?_
    refine QW (dj:=70) rfl rfl rfl rfl rfl ?_
    refine QW (dj:=70) rfl rfl rfl rfl rfl ?_
    refine QW (dj:=75) rfl rfl rfl rfl rfl ?_
    refine QW (dj:=75) rfl rfl rfl rfl rfl ?_
    refine QW (dj:=75) rfl rfl rfl rfl rfl ?_
    refine QW (dj:=75) rfl rfl rfl rfl rfl ?_
    refine QW (dj:=75) rfl rfl rfl rfl rfl ?_
    refine QW (dj:=70) rfl rfl rfl rfl rfl ?_
    refine QW (dj:=66) rfl rfl rfl rfl rfl ?_
    refine zV (Y5 rfl rfl rfl) ?_
    refine zN ?_
    refine zI ?_ ?_<;>intro hc83
    ·
     refine zR (zA (zN (Qt (Qp (Qc (Qc (Qp ?_)))))))
     refine Qp (Qc (Qc (Qp (Qc ?_))))
     exact zp hIc rfl rfl (by rw [zfm h1 hno (hgo.trans (zbL hv hr hbr))])
    cases hc83
   ·
    have hbr:=zou hlo false hz
    refine Qg ?_
    refine zF Vp ?_
    refine zL zax ?_
    rw [hlo]
    refine zM ?_
    refine QN (dj:=60) rfl rfl rfl ?_
    refine zF VP ?_
    refine QN (dj:=60) rfl rfl rfl ?_
    refine zV (Qo rfl Q9 (fun hg=>by exact Cells.s0 (vs:=[_,_,_,_,_,_,_,_,_,_,_,_,_,_]) rfl) rfl) ?_
    refine QN (dj:=60) rfl rfl rfl ?_
    refine zV (QS (ps:=[]) [_,_,_,_,_,_,_,_,_,_,_,_,_,_] WD rfl rfl) ?_
    refine QN (dj:=60) rfl rfl rfl ?_
    refine zV (v:=.bool (!WK r.sg YC)) (zaO rfl rfl Ks rfl) ?_
    rw [hz]
    refine zV (ZN rfl rfl rfl) ?_
    refine zM ?_
    refine QN (dj:=66) rfl rfl rfl ?_
    refine zF Vp ?_
    refine QN (dj:=66) rfl rfl rfl ?_
    refine zL zax ?_
    rw [hlo]
    refine QN (dj:=66) rfl rfl rfl ?_
    refine zO ?_
    refine QN (dj:=66) rfl rfl rfl ?_
    refine zM ?_
    refine QW (dj:=70) rfl rfl rfl rfl rfl ?_
    refine QW (dj:=70) rfl rfl rfl rfl rfl ?_
    refine QW (dj:=70) rfl rfl rfl rfl rfl ?_
    refine QW (dj:=70) rfl rfl rfl rfl rfl ?_
    refine QW (dj:=70) rfl rfl rfl rfl rfl ?_
    refine QW (dj:=75) rfl rfl rfl rfl rfl ?_
    refine QW (dj:=75) rfl rfl rfl rfl rfl ?_
    refine QW (dj:=75) rfl rfl rfl rfl rfl ?_
    refine QW (dj:=75) rfl rfl rfl rfl rfl ?_
    refine QW (dj:=75) rfl rfl rfl rfl rfl ?_
    refine QW (dj:=70) rfl rfl rfl rfl rfl ?_
    refine QN (dj:=66) rfl rfl rfl ?_
    refine zV (Y5 rfl rfl rfl) ?_
    refine zV (ZN rfl rfl rfl) ?_
    refine zN ?_
    refine zI ?_ ?_<;>intro hc83
    ·
     cases hc83
    refine Qn (Qf (Qa (Qg (zB ?_))))
    refine zM (Qb ?_)
    exact zm (h:=⟨w.n-(j+1),by omega,j+1,rfl,rfl,hB4,rfl,by omega,Vb hr hnr hbr⟩)
   ·
    have hbr:=zuE hlo hz
    refine Qg ?_
    refine zF Vp ?_
    refine zL zax ?_
    rw [hlo]
    refine zM ?_
    refine QW (dj:=60) rfl rfl rfl rfl rfl ?_
    refine QW (dj:=60) rfl rfl rfl rfl rfl ?_
    refine QW (dj:=60) rfl rfl rfl rfl rfl ?_
    refine QW (dj:=60) rfl rfl rfl rfl rfl ?_
    refine zV (Y5 rfl rfl rfl) ?_
    refine zM ?_
    refine QN (dj:=66) rfl rfl rfl ?_
    refine zF Vp ?_
    refine QN (dj:=66) rfl rfl rfl ?_
    refine zL zax ?_
    rw [hlo]
    refine QN (dj:=66) rfl rfl rfl ?_
    refine zO ?_
    refine QN (dj:=66) rfl rfl rfl ?_
    refine zM ?_
    refine QN (dj:=70) rfl rfl rfl ?_
    refine zF VP ?_
    refine QN (dj:=70) rfl rfl rfl ?_
    refine zF ZM ?_
    refine QN (dj:=70) rfl rfl rfl ?_
    refine zL Qr ?_
    refine QN (dj:=70) rfl rfl rfl ?_
    refine zC ?_
    rw [hz]
    refine QN (dj:=70) rfl rfl rfl ?_
    refine zM ?_
    refine QW (dj:=75) rfl rfl rfl rfl rfl ?_
    refine QW (dj:=75) rfl rfl rfl rfl rfl ?_
    refine QW (dj:=75) rfl rfl rfl rfl rfl ?_
    refine QW (dj:=75) rfl rfl rfl rfl rfl ?_
    refine QW (dj:=75) rfl rfl rfl rfl rfl ?_
    refine QN (dj:=70) rfl rfl rfl ?_
    refine zV (Y5 rfl rfl rfl) ?_
    refine QN (dj:=66) rfl rfl rfl ?_
    refine zV (ZN rfl rfl rfl) ?_
    refine zV (ZN rfl rfl rfl) ?_
    refine zN ?_
    refine zI ?_ ?_<;>intro hc83
    ·
     refine zR (zA (zN (Qt (Qp (Qc (Qc (Qp ?_)))))))
     refine Qp (Qc (Qc (Qp (Qc ?_))))
     exact zp hIc rfl rfl (by rw [zfm h1 hno (hgo.trans (zbL hv hr hbr))])
    cases hc83
   have hbr:=zwJ hlo hz
   refine Qg ?_
   refine zF Vp ?_
   refine zL zax ?_
   rw [hlo]
   refine zM ?_
   refine QW (dj:=60) rfl rfl rfl rfl rfl ?_
   refine QW (dj:=60) rfl rfl rfl rfl rfl ?_
   refine QW (dj:=60) rfl rfl rfl rfl rfl ?_
   refine QW (dj:=60) rfl rfl rfl rfl rfl ?_
   refine zV (Y5 rfl rfl rfl) ?_
   refine zM ?_
   refine QN (dj:=66) rfl rfl rfl ?_
   refine zF Vp ?_
   refine QN (dj:=66) rfl rfl rfl ?_
   refine zL zax ?_
   rw [hlo]
   refine QN (dj:=66) rfl rfl rfl ?_
   refine zO ?_
   refine QN (dj:=66) rfl rfl rfl ?_
   refine zM ?_
   refine QN (dj:=70) rfl rfl rfl ?_
   refine zF VP ?_
   refine QN (dj:=70) rfl rfl rfl ?_
   refine zF ZM ?_
   refine QN (dj:=70) rfl rfl rfl ?_
   refine zL Qr ?_
   refine QN (dj:=70) rfl rfl rfl ?_
   refine zC ?_
   rw [hz]
   refine QN (dj:=70) rfl rfl rfl ?_
   refine zM ?_
   refine QN (dj:=75) rfl rfl rfl ?_
   refine zF VP ?_
   refine QN (dj:=75) rfl rfl rfl ?_
   refine zV (Qo rfl Q9 (fun hg=>by exact Cells.s0 (vs:=[_,_,_,_,_,_,_,_,_,_,_,_,_,_]) rfl) rfl) ?_
   refine QN (dj:=75) rfl rfl rfl ?_
   refine Qq (ps:=[(0,_)]) (m:=[YU r.sg]) Uz rfl (.cons rfl (.nil)) rfl (by simp [Z6]) (by decide) (by decide) rfl rfl (fun b_78=>?_)
   refine ZW (b:=b_78) (by repeat (first | exact Q8.here | apply Q8.there)) (fun I4 hI4 hb4=>?_)
   have hIc:=hIc.trans hI4;have hB4:=hB4.trans hI4
   have hSg:Sl I4 14 YU (some ⟨b_78,0,none⟩) 1 1 [r.sg]:=Sl.lit [r.sg] rfl Z6 (show _=some (Obj.cells ([r.sg].flatMap YU).toArray 54 (0,0)) from hb4)
   refine QN (dj:=75) rfl rfl rfl ?_
   refine qc (vs:=[_]) rfl ze4 (zfD hSg (by decide)) ?_
   refine QN (dj:=75) rfl rfl rfl ?_
   refine zC ?_
   refine QN (dj:=70) rfl rfl rfl ?_
   refine zV (ZN rfl rfl rfl) ?_
   refine QN (dj:=66) rfl rfl rfl ?_
   refine zV (ZN rfl rfl rfl) ?_
   refine zV (ZN rfl rfl rfl) ?_
   refine zN ?_
   refine zI ?_ ?_<;>intro hc83
   ·
    have hbr:=hbr.trans hc83
    refine zR (zA (zN (Qt (Qp (Qc (Qc (Qp ?_)))))))
    refine Qp (Qc (Qc (Qp (Qc ?_))))
    exact zp hIc rfl rfl (by rw [zfm h1 hno (hgo.trans (zbL hv hr hbr))])
   have hbr:=hbr.trans hc83
   refine Qn (Qf (Qa (Qg (zB ?_))))
   refine zM (Qb ?_)
   exact zm (h:=⟨w.n-(j+1),by omega,j+1,rfl,rfl,hB4,rfl,by omega,Vb hr hnr hbr⟩)
  have hge_j:w.n≤j:=by have h:=hc55;simp at h;omega
  rw [ZH hrn hge_j] at hnr
  refine QI (Qh (Qh (Qk (Qf (Qa (Qg (zB ?_)))))))
  refine zM (Qb ?_)
  exact zm (h:=⟨n-(k+1),by omega,k+1,_,rfl,rfl,hB2,rfl,by omega,by rw [hgo,zhx hv hbw hnr,e1]⟩)
 have hge_k:n≤k:=by have h:=hc27;simp at h;omega
 rw [zjV (by omega)] at hgo
 refine QI (Qh (Qh (Qk (Qa (zR (zA (zN ?_)))))))
 refine Qt ?_
 exact zp hIc rfl rfl (by rw [zw6 h1 hno hgo])
end
section
open Go Go.Kn Go.Proofs
def lcG:Nat→List Int→List Int→Int
 | _,[],ys=>2*(ys.length:Int)
 | _,x::xs,[]=>2*((x::xs).length:Int)
 | 0,_::_,_::_=>0
 | f+1,x::xs,y::ys=>Kq (Kq (zgW x y+lcG f xs ys) (2+lcG f xs (y::ys))) (2+lcG f (x::xs) ys)
theorem Jq:∀ (f:Nat) (xs ys:List Int),xs.length+ys.length≤f→lcG f xs ys=lcG (xs.length+ys.length) xs ys
 | _,[],ys,_=>by simp [lcG]
 | _,x::xs,[],_=>by simp [lcG]
 | 0,_::_,_::_,h=>by simp at h
 | f+1,x::xs,y::ys,h=>by
  simp only [List.length_cons] at h
  have e:(x::xs).length+(y::ys).length=(xs.length+ys.length+1)+1:=by simp only [List.length_cons];omega
  rw [e]
  simp only [lcG]
  rw [Jq f xs ys (by omega),Jq f xs (y::ys) (by simp only [List.length_cons];omega),Jq f (x::xs) ys (by simp only [List.length_cons];omega)]
  rw [Jq (xs.length+ys.length+1) xs ys (by omega),Jq (xs.length+ys.length+1) xs (y::ys) (by simp only [List.length_cons];omega),Jq (xs.length+ys.length+1) (x::xs) ys (by simp only [List.length_cons];omega)]
theorem zeY (x y:Int):0≤zgW x y∧zgW x y≤3:=by unfold zgW;split<;>omega
theorem zkG {a b:Int}:Kq a b≤a∧Kq a b≤b∧(Kq a b=a∨Kq a b=b):=by unfold Kq;split<;>omega
theorem zf2:∀ (f:Nat) (xs ys:List Int),0≤lcG f xs ys∧lcG f xs ys≤2*((xs.length:Int)+ys.length)
 | _,[],ys=>by simp only [lcG,List.length_nil];omega
 | _,x::xs,[]=>by simp only [lcG,List.length_nil];omega
 | 0,_::_,_::_=>by simp only [lcG];omega
 | f+1,x::xs,y::ys=>by
  have h1:=zf2 f xs ys
  have h2:=zf2 f xs (y::ys)
  have h3:=zf2 f (x::xs) ys
  have hb:=zeY x y
  simp only [lcG]
  have m1:=@zkG (zgW x y+lcG f xs ys) (2+lcG f xs (y::ys))
  have m2:=@zkG (Kq (zgW x y+lcG f xs ys) (2+lcG f xs (y::ys))) (2+lcG f (x::xs) ys)
  simp only [List.length_cons] at*
  omega
def LC (a b:List Int)(i k:Nat):Int:=lcG ((a.drop i).length+(b.drop k).length) (a.drop i) (b.drop k)
theorem zj2 {a b:List Int}{i k:Nat}(hi:i≤a.length)(hk:k≤b.length)(h:i=a.length∨k=b.length):LC a b i k=2*((a.length:Int)-i+b.length-k):=by
 unfold LC
 rcases h with rfl | rfl
 ·
  rw [List.drop_length];simp only [lcG,List.length_drop];omega
 ·
  rw [List.drop_length]
  cases h:a.drop i with
  | nil=>have:=congrArg List.length h;simp at this;simp only [lcG,List.length_nil];omega
  | cons x xs=>have:=congrArg List.length h;simp only [List.length_drop] at this;simp only [lcG];omega
theorem zsJ {a b:List Int}{i k:Nat}{x y:Int}(hx:a[i]? =some x)(hy:b[k]? =some y):LC a b i k=Kq (Kq (zgW x y+LC a b (i+1) (k+1)) (2+LC a b (i+1) k)) (2+LC a b i (k+1)):=by
 unfold LC
 rw [ZO hx,ZO hy]
 have e:(x::a.drop (i+1)).length+(y::b.drop (k+1)).length=((a.drop (i+1)).length+(b.drop (k+1)).length+1)+1:=by simp only [List.length_cons];omega
 rw [e]
 simp only [lcG]
 rw [Jq (_+1) (a.drop (i+1)) (b.drop (k+1)) (by omega),Jq (_+1) (a.drop (i+1)) (y::b.drop (k+1)) (by simp only [List.length_cons];omega),Jq (_+1) (x::a.drop (i+1)) (b.drop (k+1)) (by simp only [List.length_cons];omega)]
theorem zyX (a b:List Int)(i k:Nat):0≤LC a b i k∧LC a b i k≤2*((a.length:Int)+b.length):=by
 have h:=zf2 ((a.drop i).length+(b.drop k).length) (a.drop i) (b.drop k)
 unfold LC
 simp only [List.length_drop] at*
 omega
def U5 (a b:List Int)(i k:Nat)(v:Int):Prop:=v=LC a b i k
theorem U5.inn {a b:List Int}{i k:Nat}{v:Int}(h:U5 a b i k v):0≤v∧v≤2*((a.length:Int)+b.length):=by unfold U5 at h;rw [h];exact zyX a b i k
theorem U5.fin {a b:List Int}{i k:Nat}(hi:i≤a.length)(hk:k≤b.length)(h:i=a.length∨k=b.length):U5 a b i k (2*((a.length:Int)-i+b.length-k)):=(zj2 hi hk h).symm
theorem U5.step {a b:List Int}{i k:Nat}{x y A B C:Int}(hx:a[i]? =some x)(hy:b[k]? =some y)(hA:U5 a b (i+1) (k+1) A)(hB:U5 a b (i+1) k B)(hC:U5 a b i (k+1) C):U5 a b i k (Kq (Kq (zgW x y+A) (2+B)) (2+C)):=by
 unfold U5 at*;rw [zsJ hx hy,hA,hB,hC]
def MOK (a b:List Int)(m:List ((Int×Int)×Int)):Prop:=∀ (i k:Nat) (v:Int),ZE m ((i:Int),(k:Int))=some v→U5 a b i k v
theorem MOK.nil {a b:List Int}:MOK a b []:=fun _ _ _ h=>by cases h
theorem MOK.set {a b:List Int}{m:List ((Int×Int)×Int)}(h:MOK a b m){i k:Nat}{v:Int}(hv:U5 a b i k v):MOK a b (YA m ((i:Int),(k:Int)) v):=fun i' k' v' e=>by
 rw [YE] at e
 split at e
 ·
  rename_i h2
  simp only [Prod.mk.injEq] at h2
  obtain ⟨rfl,rfl⟩:i=i'∧k=k':=by omega
  cases e;exact hv
 ·
  exact h i' k' v' e
structure LsE (I:Qu)(fid ba bb bk bs r:Nat)(av bv:Option Addr)(n c n2 c2:Nat)(xs ys:List Int):Prop where
 a:QT I [] ba 0 (.slice av n c)
 b:QT I [] bb 0 (.slice bv n2 c2)
 kn:QT I [] bk 0 (.map (some r))
 se:QT I [] bs 0 (.func (.func fid) #[] #[Zc ba,Zc bb,Zc bk,Zc bs])
 hA:Sl I 1 QQ av n c xs
 hB:Sl I 1 QQ bv n2 c2 ys
theorem LsE.mono {I I':Qu}{fid ba bb bk bs r:Nat}{av bv:Option Addr}{n c n2 c2:Nat}{xs ys:List Int}(h:LsE I fid ba bb bk bs r av bv n c n2 c2 xs ys)(hI:HLe I I'):LsE I' fid ba bb bk bs r av bv n c n2 c2 xs ys:=
 ⟨h.a.mono hI,h.b.mono hI,h.kn.mono hI,h.se.mono hI,h.hA.mono hI,h.hB.mono hI⟩
def zcM:Int→Value:=Value.int .i64
/-! ### The pairs -/
def V8 (p:Int×Int):List Value:=[.int .i64 p.1,.int .i64 p.2]
theorem Ky (p:Int×Int):(V8 p).length=2:=rfl
theorem zhf (xs:List (Int×Int)):Yz (xs.flatMap V8)=true:=Yl (fun _=>rfl) xs
def WZ (a b:List Int)(i k:Nat):Bool:=decide (i<a.length)&&decide (k<b.length)&&(LC a b i k==zgW (a.getD i 0) (b.getD k 0)+LC a b (i+1) (k+1))
def zgZ (a b:List Int)(i k:Nat):Bool:=decide (i<a.length)&&(LC a b i k==2+LC a b (i+1) k)
def paF (a b:List Int):Nat→Nat→Nat→List (Int×Int)
 | 0,_,_=>[]
 | f+1,i,k=>
  if (decide (i<a.length)||decide (k<b.length))=true then
   if WZ a b i k=true then (((i+1:Nat):Int),((k+1:Nat):Int))::paF a b f (i+1) (k+1)
   else if zgZ a b i k=true then (((i+1:Nat):Int),0)::paF a b f (i+1) k
   else (0,((k+1:Nat):Int))::paF a b f i (k+1)
  else []
def PaQ (a b:List Int)(pre:List (Int×Int))(i k:Nat):Prop:=∃ f,a.length-i+(b.length-k)≤f∧paF a b (a.length+b.length) 0 0=pre++paF a b f i k
theorem PaQ.start {a b:List Int}:PaQ a b [] 0 0:=⟨a.length+b.length,by omega,rfl⟩
theorem PaQ.fin {a b:List Int}{pre:List (Int×Int)}{i k:Nat}(h:PaQ a b pre i k)(hi:a.length≤i)(hk:b.length≤k):paF a b (a.length+b.length) 0 0=pre:=by
 obtain ⟨f,_,e⟩:=h
 rw [e]
 cases f with
 | zero=>simp [paF]
 | succ f=>unfold paF;rw [if_neg (by simp;omega),List.append_nil]
theorem PaQ.fuel {a b:List Int}{pre:List (Int×Int)}{i k:Nat}(h:PaQ a b pre i k)(hg:i<a.length∨k<b.length):∃ f,a.length-i+(b.length-k)≤f+1∧paF a b (a.length+b.length) 0 0=pre++paF a b (f+1) i k:=by
 obtain ⟨f,hf,e⟩:=h
 cases f with
 | zero=>omega
 | succ f=>exact ⟨f,hf,e⟩
theorem PaQ.both {a b:List Int}{pre:List (Int×Int)}{i k:Nat}(h:PaQ a b pre i k)(hb:WZ a b i k=true):PaQ a b (pre++[(((i+1:Nat):Int),((k+1:Nat):Int))]) (i+1) (k+1):=by
 have h1:i<a.length∧k<b.length:=by unfold WZ at hb;simp at hb;omega
 obtain ⟨f,hf,e⟩:=h.fuel (.inl h1.1)
 refine ⟨f,by omega,?_⟩
 rw [e]
 show pre++(if (decide (i<a.length)||decide (k<b.length))=true then _ else _)=_
 rw [if_pos (by simp;omega),if_pos hb,List.append_assoc];rfl
theorem PaQ.one {a b:List Int}{pre:List (Int×Int)}{i k:Nat}(h:PaQ a b pre i k)(hb:WZ a b i k=false)(ho:zgZ a b i k=true):PaQ a b (pre++[(((i+1:Nat):Int),0)]) (i+1) k:=by
 have h1:i<a.length:=by unfold zgZ at ho;simp at ho;omega
 obtain ⟨f,hf,e⟩:=h.fuel (.inl h1)
 refine ⟨f,by omega,?_⟩
 rw [e]
 show pre++(if (decide (i<a.length)||decide (k<b.length))=true then _ else _)=_
 rw [if_pos (by simp;omega),if_neg (by rw [hb];decide),if_pos ho,List.append_assoc];rfl
theorem zgE {a b:List Int}{i k:Nat}(hi:i≤a.length)(hk:k≤b.length)(hg:i<a.length∨k<b.length)(_hb:WZ a b i k=false)(ho:zgZ a b i k=false):k<b.length:=by
 by_cases h:k<b.length
 ·
  exact h
 ·
  have hia:i<a.length:=by omega
  have e1:=zj2 (a:=a) (b:=b) hi hk (.inr (by omega))
  have e2:=zj2 (a:=a) (b:=b) (i:=i+1) (by omega) hk (.inr (by omega))
  unfold zgZ at ho
  simp only [Bool.and_eq_false_iff,decide_eq_false_iff_not,beq_eq_false_iff_ne] at ho
  rcases ho with ho | ho
  ·
   omega
  ·
   omega
theorem PaQ.two {a b:List Int}{pre:List (Int×Int)}{i k:Nat}(h:PaQ a b pre i k)(hg:k<b.length)(hb:WZ a b i k=false)(ho:zgZ a b i k=false):PaQ a b (pre++[(0,((k+1:Nat):Int))]) i (k+1):=by
 obtain ⟨f,hf,e⟩:=h.fuel (.inr hg)
 refine ⟨f,by omega,?_⟩
 rw [e]
 show pre++(if (decide (i<a.length)||decide (k<b.length))=true then _ else _)=_
 rw [if_pos (by simp;omega),if_neg (by rw [hb];decide),if_neg (by rw [ho];decide),List.append_assoc];rfl
def znW (a b:List Int):List (Int×Int):=paF a b (a.length+b.length) 0 0
def zcR (c:Int):Bool:=(Vl c != 0)&&(c != 8589934592)
def Xv (a b:List Int):Int:=if a.length>64∨b.length>64 then 2 else if (a.any zcR||b.any zcR)=true then 410 else 0
theorem zlS {i k n m:Nat}(h:i<n∨k<m):(decide ((i:Int)<(n:Int))=true∧decide ((k:Int)<(m:Int))=true∧i<n∧k<m)∨(decide ((i:Int)<(n:Int))=true∧decide ((k:Int)<(m:Int))=false∧i<n∧m≤k)∨(decide ((i:Int)<(n:Int))=false∧decide ((k:Int)<(m:Int))=true∧n≤i∧k<m):=by
 by_cases h1:i<n
 ·
  by_cases h2:k<m
  ·
   exact .inl ⟨decide_eq_true (by omega),decide_eq_true (by omega),h1,h2⟩
  ·
   exact .inr (.inl ⟨decide_eq_true (by omega),decide_eq_false (by omega),h1,by omega⟩)
 ·
  exact .inr (.inr ⟨decide_eq_false (by omega),decide_eq_true (by omega),by omega,by omega⟩)
theorem zgn {a b:List Int}{i k:Nat}{x y V A:Int}{t:Bool}(hx:a[i]? =some x)(hy:b[k]? =some y)(hV:U5 a b i k V)(hA:U5 a b (i+1) (k+1) A)(h:(V==zgW x y+A)=t):WZ a b i k=t:=by
 have h1:=(List.getElem?_eq_some_iff.1 hx).1
 have h2:=(List.getElem?_eq_some_iff.1 hy).1
 unfold U5 at hV hA
 unfold WZ
 rw [QU hx,QU hy,←hV,←hA,h,decide_eq_true h1,decide_eq_true h2];rfl
theorem zf7 {a b:List Int}{i k:Nat}(h:a.length≤i∨b.length≤k):WZ a b i k=false:=by
 unfold WZ
 rcases h with h | h
 ·
  rw [decide_eq_false (show ¬i<a.length by omega)];rfl
 ·
  rw [decide_eq_false (show ¬k<b.length by omega),Bool.and_false];rfl
theorem zcb {a b:List Int}{i k:Nat}{V B:Int}{t:Bool}(hi:i<a.length)(hV:U5 a b i k V)(hB:U5 a b (i+1) k B)(h:(V==2+B)=t):zgZ a b i k=t:=by
 unfold U5 at hV hB
 unfold zgZ
 rw [←hV,←hB,h,decide_eq_true hi];rfl
theorem zsQ {a b:List Int}{i k:Nat}(h:a.length≤i):zgZ a b i k=false:=by
 unfold zgZ
 rw [decide_eq_false (show ¬i<a.length by omega)];rfl
theorem zed {a b:List Int}(h:a.length>64∨b.length>64):Xv a b=2:=by unfold Xv;rw [if_pos h]
theorem zfb {a b:List Int}(h:¬(a.length>64∨b.length>64))(h2:(a.any zcR||b.any zcR)=true):Xv a b=410:=by unfold Xv;rw [if_neg h,if_pos h2]
theorem zkg {a b:List Int}(h:¬(a.length>64∨b.length>64))(h2:(a.any zcR||b.any zcR)=false):Xv a b=0:=by unfold Xv;rw [if_neg h,h2];rfl
def V6 (a b:List Int):List (Int×Int):=if Xv a b≠0 then [] else znW a b
def zyA (a b:List Int):Value→Qu→Go.Kn.Loc→Prop:=fun v I' L=>L=[]∧∃ z av c,v= .tuple #[.int .i64 z,.slice av (V6 a b).length c,.int .i64 (Xv a b)]∧Sl I' 2 V8 av (V6 a b).length c (V6 a b)
theorem WE {a b:List Int}(h:Xv a b≠0):V6 a b=[]:=by unfold V6;rw [if_pos h]
theorem zgi {a b:List Int}(h:Xv a b=0):V6 a b=znW a b:=by unfold V6;rw [if_neg (by omega)]
theorem ziY {I:Qu}{av bv:Option Addr}{n c n2 c2:Nat}{xs ys:List Int}(hA:Sl I 1 QQ av n c xs)(hB:Sl I 1 QQ bv n2 c2 ys){q:Nat}(hq:q<2):∃ hd zs,([⟨av,n,c⟩,⟨bv,n2,c2⟩]:List Hd)[q]? =some hd∧([xs,ys]:List (List Int))[q]? =some zs∧Sl I 1 QQ hd.a hd.n hd.c zs∧(hd.n=n∨hd.n=n2):=by
 rcases (show q=0∨q=1 by omega) with rfl | rfl
 ·
  exact ⟨_,xs,rfl,rfl,hA,.inl rfl⟩
 ·
  exact ⟨_,ys,rfl,rfl,hB,.inr rfl⟩
end
section
open Go Go.Kn Go.Proofs
theorem K7:Fun Tryz.prog 103:=.of Tryz.func103 (by kernel_rfl) (by kernel_rfl)
theorem zkd:Fun Tryz.prog 104:=.of Tryz.func104 (by kernel_rfl) (by kernel_rfl)
theorem za7:V4 (α:=Int×Int) Tryz.prog 79 YD:=zfw zdi
theorem ziZ:MpT Tryz.prog 182 79 3 (.int .i64 0):=⟨by kernel_rfl,.of (by kernel_rfl)⟩
theorem K2:ScT Tryz.prog 177:=.of (by kernel_rfl)
theorem zkM:ScT Tryz.prog 182:=.of (by kernel_rfl)
set_option maxHeartbeats 1600000 in
theorem zbd {I:Qu} {ba bb bk bs r:Nat} {av bv:Option Addr} {n c n2 c2:Nat} {xs ys:List Int} (hE:(LsE I 103 ba bb bk bs r av bv n c n2 c2 xs ys)) (hn:n≤100000) (hn2:n2≤100000) (i k:Nat) (hi:i≤xs.length) (hk:k≤ys.length) (m1:List ((Int×Int)×Int)) (hm1:MOK xs ys m1) (ihA:∀ (m':List ((Int×Int)×Int)),i<xs.length∧k<ys.length→MOK xs ys m'→Yf Tryz.prog 103 ([.int .i64 ((i:Int)+1),.int .i64 ((k:Int)+1)]++[Zc ba,Zc bb,Zc bk,Zc bs]) I [(r,ZQ YD zcM m')] (fun v I' L'=>∃ A,U5 xs ys (i+1) (k+1) A∧v= .int .i64 A∧I'=I∧∃ m',MOK xs ys m'∧L'=[(r,ZQ YD zcM m')])) (ihB:∀ (m':List ((Int×Int)×Int)),i<xs.length∧k<ys.length→MOK xs ys m'→Yf Tryz.prog 103 ([.int .i64 ((i:Int)+1),.int .i64 ((k:Int))]++[Zc ba,Zc bb,Zc bk,Zc bs]) I [(r,ZQ YD zcM m')] (fun v I' L'=>∃ A,U5 xs ys (i+1) (k) A∧v= .int .i64 A∧I'=I∧∃ m',MOK xs ys m'∧L'=[(r,ZQ YD zcM m')])) (ihC:∀ (m':List ((Int×Int)×Int)),i<xs.length∧k<ys.length→MOK xs ys m'→Yf Tryz.prog 103 ([.int .i64 ((i:Int)),.int .i64 ((k:Int)+1)]++[Zc ba,Zc bb,Zc bk,Zc bs]) I [(r,ZQ YD zcM m')] (fun v I' L'=>∃ A,U5 xs ys (i) (k+1) A∧v= .int .i64 A∧I'=I∧∃ m',MOK xs ys m'∧L'=[(r,ZQ YD zcM m')])):Yf Tryz.prog 103 [.int .i64 i,.int .i64 k,Zc ba,Zc bb,Zc bk,Zc bs] I [(r,ZQ YD zcM m1)] (fun v I' L'=>∃ A,U5 xs ys (i) (k) A∧v= .int .i64 A∧I'=I∧∃ m',MOK xs ys m'∧L'=[(r,ZQ YD zcM m')]):=by
 intro g H w hw
 refine qe Tryz.func103 Tryz.ntmps103 hw ?_
 have hAl:=hE.hA.len
 subst hAl
 have hBl:=hE.hB.len
 subst hBl
 refine zR (zA (zN (Ql (zR ?_))))
 refine zM ?_
 refine zV (Qe rfl QJ (fun hg=>by exact hE.a.any)) ?_
 refine zQ Qw ?_
 refine zC ?_
 refine zM ?_
 refine QR 4 rfl rfl rfl ?_
 refine zJ (Qi rfl) ?_
 refine zJ (Qe rfl QJ (fun hg=>by exact hE.b.any)) ?_
 refine zJ (Zr rfl Qw) ?_
 refine zJ (QG rfl rfl rfl) ?_
 refine Zo rfl rfl rfl rfl rfl ?_
 refine zN ?_
 refine zI ?_ ?_<;>intro hc20
 ·
  have hend:i=xs.length∨k=ys.length:=by have h:=hc20;simp at h;omega
  refine zR ?_
  refine zV (Qe rfl QJ (fun hg=>by exact hE.a.any)) ?_
  refine zQ Qw ?_
  refine zM ?_
  refine zB ?_
  refine zV (Qe rfl QJ (fun hg=>by exact hE.b.any)) ?_
  refine zQ Qw ?_
  refine zB ?_
  refine zM ?_
  refine zB ?_
  refine zB ?_
  refine zA (zN (Qt (Qc ?_)))
  exact Zx rfl rfl (fun w hw=>⟨_,_,_,rfl,zAh _,hw,_,U5.fin hi hk hend,rfl,rfl,m1,hm1,rfl⟩)
 have hlt:i<xs.length∧k<ys.length:=by have h:=hc20;simp at h;omega
 obtain ⟨x,hx⟩:=hE.hA.at hlt.1
 obtain ⟨y,hy⟩:=hE.hB.at hlt.2
 have hbn:=zeY x y
 refine Qn (Qa (zR ?_))
 refine zV (Qe rfl zkM (fun hg=>by exact hE.kn.any)) ?_
 refine zM ?_
 refine zM ?_
 refine zV (Zz (ps:=[(0,_),(1,_)]) [_,_] Y0 Ub rfl rfl) ?_
 refine zV (KV (m:=m1) (ek:=YD) (a:=((i:Int),(k:Int))) ziZ za7 rfl rfl (fun _=>(by exact Mem.m0))) ?_
 refine zM ?_
 refine zE ?_
 refine zE ?_
 refine zA ?_
 refine zA (zN (Ql (zR ?_)))
 refine zM ?_
 refine zO (zN ?_)
 refine zI ?_ ?_<;>intro hc40
 ·
  refine Ql ?_
  have hD:=zAh I
  refine Jl ?_
  refine Z0 I [] mixed ?_
  refine zT 0 rfl (Qe rfl QJ (fun hg=>by exact hE.a.any)) hD ?_
  refine zT 1 rfl (Qi rfl) hD ?_
  refine zT 2 rfl (QE rfl rfl Qw hE.hA (fun hg=>by omega)) hD ?_
  refine zT 3 rfl (Qe rfl Qr (fun hg=>by exact zAa hE.hA hx rfl)) hD ?_
  refine zT 4 rfl (Qe rfl QJ (fun hg=>by exact hE.b.any)) hD ?_
  refine zT 5 rfl (Qi rfl) hD ?_
  refine zT 6 rfl (QE rfl rfl Qw hE.hB (fun hg=>by omega)) hD ?_
  refine zT 7 rfl (Qe rfl Qr (fun hg=>by exact zAa hE.hB hy rfl)) hD ?_
  refine zT 9 rfl (Qe rfl K2 (fun hg=>by exact hE.se.any)) hD ?_
  refine zT 10 rfl (Qi rfl) hD ?_
  refine zT 11 rfl (ZR rfl rfl rfl (fun hg=>by omega)) hD ?_
  refine zT 12 rfl (Qi rfl) hD ?_
  refine zT 13 rfl (ZR rfl rfl rfl (fun hg=>by omega)) hD ?_
  refine zT 16 rfl (Qe rfl K2 (fun hg=>by exact hE.se.any)) hD ?_
  refine zT 17 rfl (Qi rfl) hD ?_
  refine zT 18 rfl (ZR rfl rfl rfl (fun hg=>by omega)) hD ?_
  refine zT 19 rfl (Qi rfl) hD ?_
  refine zT 22 rfl (Qe rfl K2 (fun hg=>by exact hE.se.any)) hD ?_
  refine zT 23 rfl (Qi rfl) hD ?_
  refine zT 24 rfl (Qi rfl) hD ?_
  refine zT 25 rfl (ZR rfl rfl rfl (fun hg=>by omega)) hD ?_
  refine qd 8 rfl ?_
  refine qc (vs:=[_,_]) rfl zkd (zfs I _ _) ?_
  refine Qb ?_
  refine zD hD ?_
  refine qd 14 rfl ?_
  refine Qz (cap:=[Zc ba,Zc bb,Zc bk,Zc bs]) (vs:=[_,_]) rfl rfl K7 QD (ihA m1 hlt hm1) rfl rfl ?_
  rintro vv1 I1 L1 hI1 ⟨VA,hLA,rfl,rfl,m2,hm2,rfl⟩
  have hE:=hE.mono hI1;have hD:=hD.trans hI1
  have hbA:=hLA.inn
  refine Qb ?_
  refine zD hD ?_
  refine zT 15 rfl (ZR rfl rfl rfl (fun hg=>by omega)) hD ?_
  refine qd 20 rfl ?_
  refine Qz (cap:=[Zc ba,Zc bb,Zc bk,Zc bs]) (vs:=[_,_]) rfl rfl K7 QD (ihB m2 hlt hm2) rfl rfl ?_
  rintro vv2 I2 L2 hI2 ⟨VB,hLB,rfl,rfl,m3,hm3,rfl⟩
  have hE:=hE.mono hI2;have hD:=hD.trans hI2
  have hbB:=hLB.inn
  refine Qb ?_
  refine zD hD ?_
  refine zT 21 rfl (ZR rfl rfl rfl (fun hg=>by omega)) hD ?_
  refine qd 26 rfl ?_
  refine Qz (cap:=[Zc ba,Zc bb,Zc bk,Zc bs]) (vs:=[_,_]) rfl rfl K7 QD (ihC m3 hlt hm3) rfl rfl ?_
  rintro vv3 I3 L3 hI3 ⟨VC,hLC,rfl,rfl,m4,hm4,rfl⟩
  have hE:=hE.mono hI3;have hD:=hD.trans hI3
  have hbC:=hLC.inn
  refine Qb ?_
  refine zD hD ?_
  refine zT 27 rfl (ZR rfl rfl rfl (fun hg=>by omega)) hD ?_
  refine zT 28 rfl (zqK rfl rfl rfl) hD ?_
  refine zT 29 rfl (ZF rfl) hD ?_
  refine QF (by kernel_rfl) ?_
  refine QO ?_
  have hst:=U5.step hx hy hLA hLB hLC
  refine Qa (Qg ?_)
  refine zV (Qe rfl zkM (fun hg=>by exact hE.kn.any)) ?_
  refine zM ?_
  refine zM ?_
  refine zV (Zz (ps:=[(0,_),(1,_)]) [_,_] Y0 Ub rfl rfl) ?_
  refine zM ?_
  refine Q7 (m:=m4) (ev:=zcM) (ek:=YD) (a:=((i:Int),(k:Int))) (Kq (Kq (zgW x y+VA) (2+VB)) (2+VC)) ziZ za7 rfl rfl rfl rfl (by repeat (first | exact Upd.here | apply Upd.there | apply QK)) ?_
  refine zN (zR ?_)
  refine zM ?_
  refine zA (zN (Qt ?_))
  exact Zx rfl rfl (fun w hw=>⟨_,_,_,rfl,zAh _,hw,_,hst,rfl,rfl,_,hm4.set hst,rfl⟩)
 obtain ⟨v,hv⟩:=Option.isSome_iff_exists.1 (by simpa using hc40)
 have hv2:=hm1 i k v hv
 rw [hv]
 refine Qn (Qa (zR (zM ?_)))
 refine zA (zN (Qt ?_))
 exact Zx rfl rfl (fun w hw=>⟨_,_,_,rfl,zAh _,hw,_,hv2,rfl,rfl,m1,hm1,rfl⟩)
theorem zfe {I:Qu}{ba bb bk bs r:Nat}{av bv:Option Addr}{n c n2 c2:Nat}{xs ys:List Int}(hE:(LsE I 103 ba bb bk bs r av bv n c n2 c2 xs ys))(hn:n≤100000)(hn2:n2≤100000):∀ (q i k:Nat) (m1:List ((Int×Int)×Int)),xs.length+ys.length≤q+(i+k)→i≤xs.length→k≤ys.length→MOK xs ys m1→Yf Tryz.prog 103 ([.int .i64 i,.int .i64 k]++[Zc ba,Zc bb,Zc bk,Zc bs]) I [(r,ZQ YD zcM m1)] (fun v I' L'=>∃ A,U5 xs ys (i) (k) A∧v= .int .i64 A∧I'=I∧∃ m',MOK xs ys m'∧L'=[(r,ZQ YD zcM m')])
 | 0,i,k,m1,hq,hi,hk,hm=>zbd hE hn hn2 i k hi hk m1 hm (fun m' h=>by omega) (fun m' h=>by omega) (fun m' h=>by omega)
 | q+1,i,k,m1,hq,hi,hk,hm=>zbd hE hn hn2 i k hi hk m1 hm (fun m' h hm'=>zfe hE hn hn2 q (i+1) (k+1) m' (by omega) (by omega) (by omega) hm') (fun m' h hm'=>zfe hE hn hn2 q (i+1) k m' (by omega) (by omega) (by omega) hm') (fun m' h hm'=>zfe hE hn hn2 q i (k+1) m' (by omega) (by omega) (by omega) hm')
end
end Go.Proofs.YtodakphagkommaaGreatDoor
