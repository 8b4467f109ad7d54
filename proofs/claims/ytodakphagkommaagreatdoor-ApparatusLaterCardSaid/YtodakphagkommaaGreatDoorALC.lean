/- apparatusLater_holds, part C of the proof: what its theorems say holds without further conditions. -/
import Derived.Lib.SlicesCompact
import Derived.Lib.RowBridge
import Derived.Shelf.SlSortCmp.WholeK
import Derived.Shelf.Small.Bits
import Derived.Shelf.Small.Wraps
import Derived.Shelf.Strconv.Itoa0
import Derived.Shelf.Sort.Plain
import Derived.Shelf.Slices.Turned
import Derived.Shelf.Slices.Equal
import Derived.Ground.Names2Prog
import Derived.Shelf.Slices.Clone
import Derived.Shelf.Slices.CompactI
import Derived.Shelf.Slices.SearchI
import Derived.Shelf.Slices.Cells
import Derived.Shelf.Slices.In.SortNone
import Derived.Shelf.Slices.Empties
import Derived.Shelf.Slices.Empties2
import Derived.Ground.SlgnProg
import Derived.Shelf.SlicesE.Clone
import Derived.Ground.SlsfProg
import Derived.Shelf.SlSortCmp.InsertionK
import Derived.Shelf.SlSortCmp.SiftDownK
import Derived.Shelf.SlSortCmp.HeapSortK
import Derived.Shelf.SlSortCmp.MedianK
import Derived.Shelf.SlSortCmp.PivotK
import Derived.Shelf.SlSortCmp.ReverseRangeK
import Derived.Shelf.SlSortCmp.PartialInsertionK
import Derived.Shelf.SlSortCmp.PartitionEqualK
import Derived.Shelf.SlSortCmp.PartitionK
import Derived.Shelf.SlSortCmp.PdqK
import Derived.Shelf.SlSortCmp.NoneTotal
import Derived.Test.YtodakphagkommaaGreatDoorProg
import Derived.Test.YtodakphagkommaaGreatDoorALB
namespace Go.Proofs.YtodakphagkommaaGreatDoor
section
open Go Go.Kn Go.Proofs
def stL (rows:List (List Int))(l k:Nat):List Int:=0::(((List.range k).map fun w=>uF rows l w).filter fun x=>x != 8589934592)
theorem zuZ {rows:List (List Int)}{l k:Nat}(h:uF rows l k≠8589934592):stL rows l (k+1)=stL rows l k++[uF rows l k]:=by
 unfold stL;rw [List.range_succ,List.map_append,List.filter_append];simp [h]
theorem zxg {rows:List (List Int)}{l k:Nat}(h:uF rows l k=8589934592):stL rows l (k+1)=stL rows l k:=by
 unfold stL;rw [List.range_succ,List.map_append,List.filter_append];simp [h]
theorem zvj {rows:List (List Int)}{l:Nat}{y:Int}:y∈stL rows l rows.length↔y∈Q9 rows l:=by
 unfold stL
 rw [zfy,List.mem_cons,List.mem_filter,List.mem_map,bne_iff_ne]
 constructor
 ·
  rintro (h | ⟨⟨w,hw,rfl⟩,h⟩)
  ·
   exact .inl h
  ·
   have hw:=List.mem_range.1 hw
   refine .inr ⟨⟨rows.getD w [],?_,rfl⟩,h⟩
   unfold List.getD;rw [List.getElem?_eq_getElem hw];exact List.getElem_mem hw
 ·
  rintro (h | ⟨⟨r,hr,rfl⟩,h⟩)
  ·
   exact .inl h
  ·
   obtain ⟨w,hw,rfl⟩:=List.getElem_of_mem hr
   refine .inr ⟨⟨w,List.mem_range.2 hw,?_⟩,h⟩
   unfold uF
   rw [Q1 (List.getElem?_eq_getElem hw)]
theorem zp8:((List.range 6).all fun w=>IntKind.i64.wrap (1*2^(min ((w:Nat):Int).toNat IntKind.i64.bits))==((2^w:Nat):Int))=true:=by kernel_rfl
theorem zt6 {w:Nat}(h:w<6):IntKind.i64.wrap (1*2^(min ((w:Nat):Int).toNat IntKind.i64.bits))=((2^w:Nat):Int):=eq_of_beq (List.all_eq_true.1 zp8 w (List.mem_range.2 h))
end
section
open Go Go.Kn Go.Proofs
theorem zpL:Fun Tryz.prog 150:=.of Tryz.func150 (by kernel_rfl) (by kernel_rfl)
theorem zrm:Fun Tryz.prog 152:=.of Tryz.func152 (by kernel_rfl) (by kernel_rfl)
theorem zo0 {I:Qu}{av:Option Addr}{n c:Nat}{xs:List Int}(hS:Sl I 1 QP av n c xs){bv:Option Addr}{n2 c2:Nat}{rows:List (List Int)}(hV:SlN I bv n2 c2 rows)(hn2:n2≤100000)(hDb:VF I):Zx Tryz.prog 92 [.slice bv n2 c2,.slice av n c] I (.tuple #[.int .i64 (zd9 rows xs),.int .i64 (YB rows xs)]):=by
 intro g H w hw
 refine qe Tryz.func92 Tryz.ntmps92 hw ?_
 have hlV:=hV.len
 subst hlV
 refine zR (zA ?_)
 refine zA (zN (Ql (zR ?_)))
 refine zM ?_
 refine qc (vs:=[_]) rfl zpL (zrT hV hn2) ?_
 refine zA ?_
 refine zN (zR ?_)
 refine zM ?_
 refine zC (zN ?_)
 refine zI ?_ ?_<;>intro hc9
 ·
  have hr0:VI rows≠0:=by simpa using hc9
  obtain ⟨e1,e2⟩:=zfW (cl:=xs) hr0
  refine zR (zM ?_)
  refine zA ?_
  refine zA (zN (Qs (Qc ?_)))
  first
  | exact Zo rfl rfl rfl (fun w hw=>⟨by rw [e1,e2],hw.drop⟩)
 have hr0:VI rows=0:=by simpa using hc9
 refine Qo (Qa (Ql (zR (zM ?_))))
 refine zQ Zn ?_
 refine zM ?_
 refine qc (vs:=[_,_]) rfl zhr (zhe hS _) ?_
 refine zA ?_
 refine zN (zR ?_)
 refine zM ?_
 refine zC (zN ?_)
 refine zI ?_ ?_<;>intro hc16
 ·
  have hc0:VS rows.length xs≠0:=by simpa using hc16
  obtain ⟨e1,e2⟩:=zsk hr0 hc0
  refine zR (zM ?_)
  refine zA ?_
  refine zA (zN (Qs (Qc ?_)))
  first
  | exact Zo rfl rfl rfl (fun w hw=>⟨by rw [e1,e2],hw.drop⟩)
 have hc0:VS rows.length xs=0:=by simpa using hc16
 obtain ⟨e1,e2⟩:=zvP hr0 hc0
 have hn:n≤100000:=by have h1:=(ZV hc0).2.2.1;have h2:=hS.len;omega
 refine Qo (Qa (zR (zM ?_)))
 refine zM ?_
 refine qc (vs:=[_,_]) rfl zrm (zvO hS hn hV hn2 hDb hr0 hc0) ?_
 refine zA ?_
 refine zA (zN (Qs ?_))
 first
 | exact Zo rfl rfl rfl (fun w hw=>⟨by rw [e1,e2],hw.drop⟩)
end
section
open Go Go.Kn Go.Proofs
def WQ (u x:Int):Int:=if (u != 8589934592&&u != x)=true then 1073741824 else 0
def zgB (S cs:List Int)(x:Int)(k:Nat):Int:=(List.range k).foldl (fun b j=>Ke b (Y9 x (S.getD j 0)+cs.getD j 0)) 1073741824
def XU (S cs:List Int)(x:Int):Int:=zgB S cs x S.length
theorem zjO {S cs:List Int}{x y c:Int}{k:Nat}(hy:S[k]? =some y)(hc:cs[k]? =some c):zgB S cs x (k+1)=Ke (zgB S cs x k) (Y9 x y+c):=by
 unfold zgB
 rw [List.range_succ,List.foldl_append,List.foldl_cons,List.foldl_nil,Q1 hy,Q1 hc]
theorem zbi {S cs:List Int}{x:Int}(h:∀ c∈cs,0≤c):∀ k,0≤zgB S cs x k∧zgB S cs x k≤1073741824
 | 0=>by unfold zgB;simp
 | k+1=>by
  have ih:=zbi (S:=S) (x:=x) h k
  have e:zgB S cs x (k+1)=Ke (zgB S cs x k) (Y9 x (S.getD k 0)+cs.getD k 0):=by unfold zgB;rw [List.range_succ,List.foldl_append];rfl
  have h1:0≤cs.getD k 0:=by
   unfold List.getD
   cases hc:cs[k]? with
   | none=>exact Int.le_refl _
   | some c=>exact h c (List.mem_of_getElem? hc)
  have h2:=(Up x (S.getD k 0)).1
  rw [e]
  unfold Ke
  split<;>omega
def Uh (S A B:List Int)(j:Nat)(x:Int):Int:=(if 0<j then XU S A x else 0)+(if 1<j then XU S B x else 0)
theorem zjE {S A B:List Int}{j:Nat}{x:Int}(hj:j<2):Uh S A B j x+XU S (if j=0 then A else B) x=Uh S A B (j+1) x:=by
 unfold Uh
 rcases (show j=0∨j=1 by omega) with rfl | rfl<;>simp
theorem zjp {S A B:List Int}{x:Int}(hA:∀ c∈A,0≤c)(hB:∀ c∈B,0≤c)(j:Nat):0≤Uh S A B j x∧Uh S A B j x≤2147483648:=by
 have a:0≤XU S A x∧XU S A x≤1073741824:=zbi hA S.length
 have b:0≤XU S B x∧XU S B x≤1073741824:=zbi hB S.length
 unfold Uh
 split<;>split<;>omega
def rcF (S:List Int)(u:Nat→Int)(cl:List Int):Nat→Int→List Int
 | 0,_=>[]
 | f+1,s=>if Z7 s=true then S.map (WQ (u (KN s))) else S.map (Uh S (rcF S u cl f (Qz cl s)) (rcF S u cl f (s-Qz cl s)) 2)
theorem zvS {S:List Int}{u:Nat→Int}{cl:List Int}{f:Nat}{s:Int}(h:Z7 s=true):rcF S u cl (f+1) s=S.map (WQ (u (KN s))):=by simp only [rcF];rw [if_pos h]
theorem zvU {S:List Int}{u:Nat→Int}{cl:List Int}{f:Nat}{s:Int}(h:Z7 s=false):rcF S u cl (f+1) s=S.map (Uh S (rcF S u cl f (Qz cl s)) (rcF S u cl f (s-Qz cl s)) 2):=by simp only [rcF];rw [if_neg (by rw [h];decide)]
theorem zjU {S:List Int}{u:Nat→Int}{cl:List Int}:∀ (f:Nat) (s:Int),∀ c∈rcF S u cl f s,0≤c∧c≤2147483648
 | 0,_,c,h=>by cases h
 | f+1,s,c,h=>by
  cases h1:Z7 s with
  | true=>
   rw [zvS h1] at h
   obtain ⟨x,_,rfl⟩:=List.mem_map.1 h
   unfold WQ;split<;>omega
  | false=>
   rw [zvU h1] at h
   obtain ⟨x,_,rfl⟩:=List.mem_map.1 h
   exact zjp (fun c hc=>(zjU f _ c hc).1) (fun c hc=>(zjU f _ c hc).1) 2
theorem zux {S:List Int}{u:Nat→Int}{cl:List Int}{f:Nat}{s:Int}:(rcF S u cl (f+1) s).length=S.length:=by
 cases h1:Z7 s with
 | true=>rw [zvS h1,List.length_map]
 | false=>rw [zvU h1,List.length_map]
def Wh (S:List Int)(g h:Int→Int)(i:Nat):List Int:=(S.take i).map g++(S.drop i).map h
theorem zhC {S:List Int}{g h:Int→Int}:Wh S g h 0=S.map h:=by unfold Wh;simp
theorem zj3 {S:List Int}{g h:Int→Int}{i:Nat}(hi:S.length≤i):Wh S g h i=S.map g:=by unfold Wh;rw [List.take_of_length_le hi,List.drop_eq_nil_of_le hi];simp
theorem ziL {S:List Int}{g h:Int→Int}{i:Nat}:(Wh S g h i).length=S.length:=by unfold Wh;rw [List.length_append,List.length_map,List.length_map,←List.length_append,List.take_append_drop]
theorem zsX {S:List Int}{g h:Int→Int}{i:Nat}{x:Int}(hx:S[i]? =some x):(Wh S g h i)[i]? =some (h x):=by
 have hi:=(List.getElem?_eq_some_iff.1 hx).1
 have hl:((S.take i).map g).length=i:=by rw [List.length_map,List.length_take];omega
 unfold Wh
 rw [List.getElem?_append_right (by omega),hl,Nat.sub_self,Z4 hx];rfl
theorem ziF {S:List Int}{g h:Int→Int}{i:Nat}{x:Int}(hx:S[i]? =some x):(Wh S g h i).set i (g x)=Wh S g h (i+1):=by
 have hi:=(List.getElem?_eq_some_iff.1 hx).1
 have hl:((S.take i).map g).length=i:=by rw [List.length_map,List.length_take];omega
 unfold Wh
 rw [List.set_append_right _ _ (by omega),hl,Nat.sub_self,Z4 hx,List.map_cons,List.set_cons_zero,Xd hx,List.append_assoc];rfl
theorem zlu {S:List Int}{g h:Int→Int}{i:Nat}{x:Int}(hx:S[i]? =some x)(e:g x=h x):Wh S g h i=Wh S g h (i+1):=by
 unfold Wh
 rw [Z4 hx,Xd hx,List.append_assoc,List.map_cons,e];rfl
theorem zg5 {S:List Int}{g h:Int→Int}(e:∀ x,h x=0):List.replicate S.length (0:Int)=Wh S g h 0:=by
 rw [zhC]
 induction S with
 | nil=>rfl
 | cons x S ih=>rw [List.map_cons,e,List.length_cons,List.replicate_succ,ih]
theorem zuX {s:Int}(hs:1≤s∧s≤63)(h:Z7 s=true):KN s<6:=by
 have e:=zgS hs h
 by_cases h6:KN s<6
 ·
  exact h6
 ·
  have:2^6≤2^KN s:=Nat.pow_le_pow_right (by decide) (by omega)
  omega
theorem zmQ {s:Int}{w:Nat}(hs:1≤s∧s≤63)(h:Z7 s=true)(hw:w≤KN s):(IntKind.i64.wrap (1*2^(min ((w:Nat):Int).toNat IntKind.i64.bits)) != s)=decide (w<KN s):=by
 have h6:=zuX hs h
 have e:=zgS hs h
 rw [zt6 (by omega)]
 by_cases hl:w<KN s
 ·
  rw [decide_eq_true hl,bne_iff_ne]
  intro e2
  have:w=KN s:=zpv (by omega) h6 (by omega)
  omega
 ·
  rw [decide_eq_false hl,bne_eq_false_iff_eq]
  have:w=KN s:=by omega
  rw [this];omega
structure RtE (I:Qu)(fid bst brow bloc bcla bse:Nat)(sv bv av:Option Addr)(ns cs n2 c2 n c:Nat)(St xs:List Int)(rows:List (List Int))(l:Nat):Prop where
 st:QV I [] bst 0 (.slice sv ns cs)
 row:QV I [] brow 0 (.slice bv n2 c2)
 loc:QV I [] bloc 0 (.int .i64 l)
 cla:QV I [] bcla 0 (.slice av n c)
 se:QV I [] bse 0 (.func (.func fid) #[] #[Za bst,Za brow,Za bloc,Za bcla,Za bse])
 hT:Sl I 1 QP sv ns cs St
 hS:Sl I 1 QP av n c xs
 hV:SlN I bv n2 c2 rows
theorem RtE.mono {I I':Qu}{fid bst brow bloc bcla bse:Nat}{sv bv av:Option Addr}{ns cs n2 c2 n c:Nat}{St xs:List Int}{rows:List (List Int)}{l:Nat}(h:RtE I fid bst brow bloc bcla bse sv bv av ns cs n2 c2 n c St xs rows l)(hI:HLe I I'):RtE I' fid bst brow bloc bcla bse sv bv av ns cs n2 c2 n c St xs rows l:=
 ⟨h.st.mono hI,h.row.mono hI,h.loc.mono hI,h.cla.mono hI,h.se.mono hI,h.hT.mono hI,h.hS.mono hI,h.hV.mono hI⟩
end
section
open Go Go.Kn Go.Proofs
theorem zna:Fun Tryz.prog 93:=.of Tryz.func93 (by kernel_rfl) (by kernel_rfl)
theorem zur:Fun Tryz.prog 94:=.of Tryz.func94 (by kernel_rfl) (by kernel_rfl)
theorem zvk:Fun Tryz.prog 95:=.of Tryz.func95 (by kernel_rfl) (by kernel_rfl)
theorem zhn:ScT Tryz.prog 174:=.of (by kernel_rfl)
theorem zkq (I:Qu)(x y:Int):Zx Tryz.prog 95 [.int .i64 x,.int .i64 y] I (.int .i64 (Y9 x y)):=by
 intro g H w hw
 refine qe Tryz.func95 Tryz.ntmps95 hw ?_
 refine zR (zA (zN (Ql (Qm (zR ?_)))))
 refine zM ?_
 refine zM ?_
 refine zC ?_
 refine zA (zN ?_)
 refine zI ?_ ?_<;>intro hc5
 ·
  refine zR (zA (zN (Qs (Qn (Qc ?_)))))
  first
  | exact zr rfl rfl (by unfold Y9;rw [if_pos (by simpa using hc5)])
 refine zR (zM ?_)
 refine zC ?_
 refine zA (zN ?_)
 refine zI ?_ ?_<;>intro hc9
 ·
  refine zR (zA (zN (Qs (Qn (Qc ?_)))))
  first
  | exact zr rfl rfl (by unfold Y9;rw [if_neg (by simpa using hc5),if_pos (by simpa using hc9)])
 refine zR (zM ?_)
 refine zC ?_
 refine zA (zN ?_)
 refine zI ?_ ?_<;>intro hc12
 ·
  refine zR (zA (zN (Qs (Qn (Qc ?_)))))
  first
  | exact zr rfl rfl (by unfold Y9;rw [if_neg (by simpa using hc5),if_neg (by simpa using hc9),if_pos (by simpa using hc12)])
 refine Qo (Qh (Qa (zR (zA (zN (Qs ?_))))))
 first
 | exact zr rfl rfl (by unfold Y9;rw [if_neg (by simpa using hc5),if_neg (by simpa using hc9),if_neg (by simpa using hc12)])
theorem zms {I:Qu}{av:Option Addr}{n c m:Nat}{xs:List Int}(hS:Sl I 1 QP av n c xs)(hn:n≤100000)(hc:VS m xs=0){s:Int}(hin:s∈xs):Zx Tryz.prog 94 [.int .i64 m,.slice av n c,.int .i64 s] I (.tuple #[.int .i64 (Qz xs s),.int .i64 (s-Qz xs s),.int .i64 0]):=by
 have h:=zpt hS hn (m:Int) s
 have e:YL (m:Int) xs s=0:=zdd hc (List.any_eq_true.2 ⟨s,hin,by simp⟩)
 obtain ⟨e1,e2⟩:=zga (m:=(m:Int)) (cl:=xs) (s:=s)
 rw [e1,e2,e] at h
 unfold zaH zar at h
 rw [if_neg (by omega),if_neg (by omega)] at h
 exact h
theorem zlM {I:Qu}{bst brow bloc bcla bse:Nat}{sv bv av:Option Addr}{ns cs n2 c2 n c:Nat}{St xs:List Int}{rows:List (List Int)}{l:Nat}(hE:RtE I 93 bst brow bloc bcla bse sv bv av ns cs n2 c2 n c St xs rows l)(hn:n≤100000)(hn2:n2≤100000)(hns:ns≤1000)(hl:∀ r∈rows,l<r.length)(hc:VS rows.length xs=0)(f:Nat)(s:Int)(hok:OkS rows.length xs s)(hf:1<s→1≤f)(ih:∀ (I':Qu),HLe I I'→∀ (s':Int),OkS rows.length xs s'→s'<s→Yc Tryz.prog 93 ([.int .i64 s']++[Za bst,Za brow,Za bloc,Za bcla,Za bse]) I' [] (zbG 1 QP (rcF St (uF rows l) xs f s'))):Yc Tryz.prog 93 [.int .i64 s,Za bst,Za brow,Za bloc,Za bcla,Za bse] I [] (zbG 1 QP (rcF St (uF rows l) xs (f+1) s)):=by
 intro g H w hw
 refine qe Tryz.func93 Tryz.ntmps93 hw ?_
 have hIc:=zyv I
 have hVl:=hE.hV.len
 subst hVl
 have hTl:=hE.hT.len
 subst hTl
 obtain ⟨hs,hV⟩:=hE.hV
 have hH:=hV.1
 have hal:=(ZV hc).1
 have hal6:=(ZV hc).2.1
 have hs63:=zf7 hc hok
 refine zR (zA ?_)
 refine zN (zR ?_)
 refine zV (Qd rfl QK (fun hg=>by exact hE.st.any)) ?_
 refine zQ Qy ?_
 refine Q3 YI rfl rfl (by omega) (by decide) rfl rfl (fun b_26=>?_)
 refine zA (Qb ?_)
 have e0:((St.length:Nat):Int).toNat=St.length:=rfl
 rw [e0,Q2]
 refine Qa (Ql (zR (zM ?_)))
 refine zM ?_
 refine zB ?_
 refine zV (XR rfl rfl) ?_
 refine zC (zN ?_)
 refine zI ?_ ?_<;>intro hc31
 ·
  have hsing:Z7 s=true:=by unfold Z7;rw [decide_eq_true (show s>0 by omega),Bool.true_and,zut hs63];exact hc31
  have hwn:=zt8 (n:=rows.length) (by omega) hs63 hsing hok.2.1
  have hw6:=zuX hs63 hsing
  refine zR (zA (zN (Ql (Qm ?_))))
  refine zU [(0,_),(1,_),(2,_),(3,_),(8,_)] (fun T L0 mz E I' loc'=>∃ (k:Nat),mz=(KN s)-k∧E=(9,.int .i64 k)::T∧I=I'∧[(b_26,.cells (Zh (List.replicate St.length 0)) 3 (0,0))]=loc'∧k≤(KN s)) ?_ (h:=⟨0,rfl,rfl,rfl,rfl,Nat.zero_le _⟩)
  rintro mz E I' loc' ⟨k,rfl,rfl,rfl,rfl,hk⟩
  refine Ql (zR (zM ?_))
  refine zV (Xy rfl rfl (fun hg=>by omega)) ?_
  refine zM ?_
  refine zC (zN ?_)
  refine zI ?_ ?_<;>intro hc35
  ·
   have hlt_k:k<KN s:=by rw [zmQ hs63 hsing hk] at hc35;simpa using hc35
   refine Qo (Qa (Qm (Qg (zM ?_))))
   refine zB ?_
   refine zA (Qb (Qh ?_))
   exact zm (h:=⟨(KN s)-(k+1),by omega,k+1,rfl,rfl,rfl,rfl,by omega⟩)
  have hge_k:k=KN s:=by rw [zmQ hs63 hsing hk] at hc35;simp at hc35;omega
  subst hge_k
  obtain ⟨x,v,hx,hv,hQ⟩:=hV.at hwn
  have hlv:=hl v (List.mem_of_getElem? hv)
  have hu:=Zj (d:=0) rfl hlv
  have hvn:=hQ.len
  have hUF:uF rows l (KN s)=v.getD l 0:=by unfold uF;rw [Q1 hv]
  rw [zg5 (g:=(WQ (uF rows l (KN s)))) (h:=(fun _=>0)) (fun _=>rfl)]
  refine QH (Qe (Qe (Qk (Qa (Ql (zR ?_))))))
  refine zV (Qd rfl QK (fun hg=>by exact hE.st.any)) ?_
  refine zQ Qy ?_
  refine zM (zN (Qm ?_))
  refine zU [(2,_),(3,_),(8,_),(9,_),(38,_),(39,_)] (fun T L0 mz E I' loc'=>∃ (i:Nat),mz=St.length-i∧E=(40,.int .i64 i)::T∧I=I'∧[(b_26,.cells (Zh (Wh St (WQ (uF rows l (KN s))) (fun _=>0) i)) 3 (0,0))]=loc'∧i≤St.length) ?_ (h:=⟨0,rfl,rfl,rfl,rfl,Nat.zero_le _⟩)
  rintro mz E I' loc' ⟨i,rfl,rfl,rfl,rfl,hi⟩
  refine zR (zC (zN (Ql ?_)))
  refine zI ?_ ?_<;>intro hc41
  ·
   have hlt_i:i<St.length:=by have h:=hc41;simp at h;omega
   obtain ⟨y,hst⟩:=hE.hT.at hlt_i
   refine Qo (Qa (Ql (Qm (zR (zM ?_)))))
   refine zV (QE rfl rfl Qy hE.hT (fun hg=>by omega)) ?_
   refine zV (Qd rfl Qt (fun hg=>by exact zyo (hE.hT) hst rfl)) ?_
   refine zA ?_
   refine zA (zN (Ql ?_))
   refine Va mixed (by kernel_rfl) ?_
   refine zq (Qd rfl Ki (fun hg=>by exact hE.row.any)) ?_
   refine zq (Qi rfl) ?_
   refine zq (zX Zn hH) ?_
   refine zq (Qd rfl QK (fun hg=>by exact zyo hH hx rfl)) ?_
   refine zq (Qd rfl Qt (fun hg=>by exact hE.loc.any)) ?_
   refine zq (zX Qy hQ) ?_
   refine zq (Qd rfl Qt (fun hg=>by exact zyo hQ hu rfl)) ?_
   refine zq (ZM rfl) ?_
   refine Vc ?_
   refine Qa (zR (zM ?_))
   refine zC ?_
   refine zM ?_
   refine QG 2 rfl rfl rfl ?_
   refine zK (Qi rfl) ?_
   refine zK (Qi rfl) ?_
   refine zK (QJ rfl rfl rfl) ?_
   refine QO rfl rfl rfl rfl rfl ?_
   refine zN ?_
   refine zI ?_ ?_<;>intro hc58
   ·
    have hgy:(WQ (uF rows l (KN s))) y=1073741824:=by unfold WQ;rw [hUF,if_pos (by simpa using hc58)]
    refine Qg (zM ?_)
    refine zM ?_
    refine zV (Q6 rfl rfl Qy (fun hg=>by omega)) ?_
    refine ZG rfl rfl Yf rfl rfl (by repeat (first | exact Upd.here | apply Upd.there | apply QI)) (ztC (by rw [ziL];omega)) ?_
    refine Qb ?_
    rw [Vq,show (Wh St (WQ (uF rows l (KN s))) (fun _=>0) i).set i 1073741824=Wh St (WQ (uF rows l (KN s))) (fun _=>0) (i+1) from by rw [←ziF hst,hgy]]
    refine Qh (Qa (Qg (zB ?_)))
    refine zM (Qb ?_)
    exact zm (h:=⟨St.length-(i+1),by omega,i+1,rfl,rfl,rfl,rfl,by omega⟩)
   have hgy:(WQ (uF rows l (KN s))) y=0:=by unfold WQ;rw [hUF,if_neg (by rw [hc58];decide)]
   rw [zlu hst hgy]
   refine Qo (Qh (Qa (Qg (zB ?_))))
   refine zM (Qb ?_)
   exact zm (h:=⟨St.length-(i+1),by omega,i+1,rfl,rfl,rfl,rfl,by omega⟩)
  have hge_i:St.length≤i:=by have h:=hc41;simp at h;omega
  rw [zj3 hge_i]
  refine QH (Qe (Qe (Qk (Qa (zR (zM ?_))))))
  refine zA (zN (Qs (Qc ?_)))
  first
  | exact Zt rfl rfl (fun w hw=>by obtain ⟨I9,h91,h92,h93⟩:=OwnS.res (zfn (by rw [List.length_map]) (by omega)) Qv (by decide) hw;rw [←zvS (f:=f) (cl:=xs) hsing] at h93;exact ⟨_,I9,[],rfl,hIc.trans h91,h92,h93⟩)
 have hns0:Z7 s=false:=by unfold Z7;rw [decide_eq_true (show s>0 by omega),Bool.true_and,zut hs63];exact hc31
 obtain ⟨hin,ok1,ok2,hp1,hp2,_,_⟩:=V5 hc hok hns0
 obtain ⟨f0,rfl⟩:∃ f0,f=f0+1:=⟨f-1,by have:=hf (by omega);omega⟩
 rw [zg5 (g:=(Uh St (rcF St (uF rows l) xs (f0+1) (Qz xs s)) (rcF St (uF rows l) xs (f0+1) (s-Qz xs s)) 0)) (h:=(Uh St (rcF St (uF rows l) xs (f0+1) (Qz xs s)) (rcF St (uF rows l) xs (f0+1) (s-Qz xs s)) 0)) (fun _=>by unfold Uh;simp)]
 refine Qo (Qa (zR ?_))
 refine zV (Qd rfl Ki (fun hg=>by exact hE.row.any)) ?_
 refine zQ Zn ?_
 refine zV (Qd rfl QK (fun hg=>by exact hE.cla.any)) ?_
 refine zM ?_
 refine qc (vs:=[_,_,_]) rfl zur (zms hE.hS hn hc hin) ?_
 refine zM ?_
 refine zE ?_
 refine zE ?_
 refine zE ?_
 refine zA ?_
 refine zA ?_
 refine zA (zN (Ql (zR ?_)))
 refine zM ?_
 refine zM ?_
 refine Qq (ps:=[(0,_),(1,_)]) (m:=[QP (Qz xs s),QP (s-Qz xs s)]) Zf rfl (.cons rfl (.cons rfl (.nil))) rfl (by simp [Qv]) (by decide) (by decide) rfl rfl (fun b_75=>?_)
 refine ZR (b:=b_75) (by repeat (first | exact Q8.here | apply Q8.there)) (fun I3 hI3 hb3=>?_)
 have hE:=hE.mono hI3;have hIc:=hIc.trans hI3
 have hAB:Sl I3 1 QP (some ⟨b_75,0,none⟩) 2 2 ([Qz xs s,s-Qz xs s]:List Int):=Sl.lit ([Qz xs s,s-Qz xs s]:List Int) rfl Qv (show _=some (Obj.cells (([Qz xs s,s-Qz xs s]:List Int).flatMap QP).toArray 3 (0,0)) from hb3)
 refine zQ Qy ?_
 refine zM (zN (Qm ?_))
 refine zU [(1,_),(5,_),(8,_),(75,_),(76,_)] (fun T L0 mz E I' loc'=>∃ (j:Nat),mz=2-j∧E=(77,.int .i64 j)::T∧HLe I3 I'∧[(b_26,.cells (Zh (Wh St (Uh St (rcF St (uF rows l) xs (f0+1) (Qz xs s)) (rcF St (uF rows l) xs (f0+1) (s-Qz xs s)) j) (Uh St (rcF St (uF rows l) xs (f0+1) (Qz xs s)) (rcF St (uF rows l) xs (f0+1) (s-Qz xs s)) j) 0)) 3 (0,0))]=loc'∧j≤2) ?_ (h:=⟨0,rfl,rfl,zyv _,rfl,Nat.zero_le _⟩)
 rintro mz E J4 loc' ⟨j,rfl,rfl,hJ,rfl,hj⟩
 have hE:=hE.mono hJ;have hAB:=hAB.mono hJ;have hIc:=hIc.trans hJ
 have hB4:=hJ
 refine zR (zC (zN (Ql ?_)))
 refine zI ?_ ?_<;>intro hc78
 ·
  have hlt_j:j<2:=by have h:=hc78;simp at h;omega
  obtain ⟨q,hpj,hpe,okp,hpl⟩:∃ q,([Qz xs s,s-Qz xs s]:List Int)[j]? =some q∧(rcF St (uF rows l) xs (f0+1) (q))=(if j=0 then (rcF St (uF rows l) xs (f0+1) (Qz xs s)) else (rcF St (uF rows l) xs (f0+1) (s-Qz xs s)))∧OkS rows.length xs q∧q<s:=by
   rcases (show j=0∨j=1 by omega) with rfl | rfl
   ·
    exact ⟨_,rfl,rfl,ok1,by omega⟩
   exact ⟨_,rfl,rfl,ok2,by omega⟩
  have hcl:(if j=0 then (rcF St (uF rows l) xs (f0+1) (Qz xs s)) else (rcF St (uF rows l) xs (f0+1) (s-Qz xs s))).length=St.length:=by split<;>exact zux
  have hci:∀ c∈(if j=0 then (rcF St (uF rows l) xs (f0+1) (Qz xs s)) else (rcF St (uF rows l) xs (f0+1) (s-Qz xs s))),0≤c∧c≤2147483648:=by split<;>exact zjU _ _
  rw [show Wh St (Uh St (rcF St (uF rows l) xs (f0+1) (Qz xs s)) (rcF St (uF rows l) xs (f0+1) (s-Qz xs s)) j) (Uh St (rcF St (uF rows l) xs (f0+1) (Qz xs s)) (rcF St (uF rows l) xs (f0+1) (s-Qz xs s)) j) 0=Wh St (Uh St (rcF St (uF rows l) xs (f0+1) (Qz xs s)) (rcF St (uF rows l) xs (f0+1) (s-Qz xs s)) (j+1)) (Uh St (rcF St (uF rows l) xs (f0+1) (Qz xs s)) (rcF St (uF rows l) xs (f0+1) (s-Qz xs s)) j) 0 by rw [zhC,zhC]]
  refine Qo (Qa (Ql (Qm (zR ?_))))
  refine zV (zX Qy hAB) ?_
  refine zV (Qd rfl Qt (fun hg=>by exact zyo hAB hpj rfl)) ?_
  refine zA ?_
  refine zN (zR ?_)
  refine zV (Qd rfl zhn (fun hg=>by exact hE.se.any)) ?_
  refine zM ?_
  refine Qx (cap:=[Za bst,Za brow,Za bloc,Za bcla,Za bse]) (vs:=[_]) rfl rfl zna (by exact .nil) (ih _ hIc _ okp hpl) rfl rfl ?_
  rintro vv5 I5 L5 hI5 ⟨rfl,aC,cC,rfl,hBl⟩
  have hE:=hE.mono hI5;have hB4:=hB4.trans hI5
  rw [hpe] at hBl ⊢
  refine zA ?_
  refine zN (zR ?_)
  refine zV (Qd rfl QK (fun hg=>by exact hE.st.any)) ?_
  refine zQ Qy ?_
  refine zM (zN (Qm ?_))
  refine zU [(1,_),(5,_),(8,_),(18,_),(75,_),(76,_),(77,_),(84,_),(85,_)] (fun T L0 mz E I' loc'=>∃ (i:Nat),mz=St.length-i∧E=(86,.int .i64 i)::T∧I5=I'∧[(b_26,.cells (Zh (Wh St (Uh St (rcF St (uF rows l) xs (f0+1) (Qz xs s)) (rcF St (uF rows l) xs (f0+1) (s-Qz xs s)) (j+1)) (Uh St (rcF St (uF rows l) xs (f0+1) (Qz xs s)) (rcF St (uF rows l) xs (f0+1) (s-Qz xs s)) j) i)) 3 (0,0))]=loc'∧i≤St.length) ?_ (h:=⟨0,rfl,rfl,rfl,rfl,Nat.zero_le _⟩)
  rintro mz E I' loc' ⟨i,rfl,rfl,rfl,rfl,hi⟩
  refine zR (zC (zN (Ql ?_)))
  refine zI ?_ ?_<;>intro hc87
  ·
   have hlt_i:i<St.length:=by have h:=hc87;simp at h;omega
   obtain ⟨y,hst⟩:=hE.hT.at hlt_i
   have hti:=zjp (S:=St) (A:=(rcF St (uF rows l) xs (f0+1) (Qz xs s))) (B:=(rcF St (uF rows l) xs (f0+1) (s-Qz xs s))) (x:=y) (fun c h=>(zjU _ _ c h).1) (fun c h=>(zjU _ _ c h).1) j
   refine Qo (Qa (Ql (Qm (zR (zM ?_)))))
   refine zV (QE rfl rfl Qy hE.hT (fun hg=>by omega)) ?_
   refine zV (Qd rfl Qt (fun hg=>by exact zyo (hE.hT) hst rfl)) ?_
   refine zA ?_
   refine zA ?_
   refine zN (zR ?_)
   refine zA (zN (Ql (zR ?_)))
   refine zV (Qd rfl QK (fun hg=>by exact hE.st.any)) ?_
   refine zQ Qy ?_
   refine zM (zN (Qm ?_))
   refine zU [(1,_),(5,_),(8,_),(18,_),(19,_),(20,_),(75,_),(76,_),(77,_),(84,_),(85,_),(86,_),(91,_),(92,_)] (fun T L0 mz E I' loc'=>∃ (k:Nat),mz=St.length-k∧E=(21,.int .i64 (zgB St (if j=0 then (rcF St (uF rows l) xs (f0+1) (Qz xs s)) else (rcF St (uF rows l) xs (f0+1) (s-Qz xs s))) y k))::(93,.int .i64 k)::T∧I5=I'∧[(b_26,.cells (Zh (Wh St (Uh St (rcF St (uF rows l) xs (f0+1) (Qz xs s)) (rcF St (uF rows l) xs (f0+1) (s-Qz xs s)) (j+1)) (Uh St (rcF St (uF rows l) xs (f0+1) (Qz xs s)) (rcF St (uF rows l) xs (f0+1) (s-Qz xs s)) j) i)) 3 (0,0))]=loc'∧k≤St.length) ?_ (h:=⟨0,rfl,rfl,rfl,rfl,Nat.zero_le _⟩)
   rintro mz E I' loc' ⟨k,rfl,rfl,rfl,rfl,hk⟩
   refine zR (zC (zN (Ql ?_)))
   refine zI ?_ ?_<;>intro hc94
   ·
    have hlt_k:k<St.length:=by have h:=hc94;simp at h;omega
    obtain ⟨yk,hsk⟩:=hE.hT.at hlt_k
    obtain ⟨ck,hck⟩:=hBl.at (show k<_ by omega)
    have hcki:=hci ck (List.mem_of_getElem? hck)
    have hsti:=Up y yk
    refine Qo (Qa (Ql (Qm (zR (zM ?_)))))
    refine zV (QE rfl rfl Qy hE.hT (fun hg=>by omega)) ?_
    refine zV (Qd rfl Qt (fun hg=>by exact zyo (hE.hT) hsk rfl)) ?_
    refine zA ?_
    refine zA (zN ?_)
    refine Va mixed (by kernel_rfl) ?_
    refine zq (Qi rfl) ?_
    refine zq (Qi rfl) ?_
    refine zq (Qi rfl) ?_
    refine Jf (cap:=[]) (vs:=[_,_]) rfl rfl zvk (zkq _ _ _) rfl rfl ?_
    refine zq (Qi rfl) ?_
    refine zq (Qi rfl) ?_
    refine zq (zX Qy hBl) ?_
    refine zq (Qd rfl Qt (fun hg=>by exact zyo hBl hck rfl)) ?_
    refine zq (ZS rfl rfl rfl (fun hg=>by omega)) ?_
    refine zq (zn3 rfl rfl) ?_
    refine zq (ZM rfl) ?_
    refine Vc ?_
    rw [←zjO hsk hck]
    refine Qh (Qa (Qg (zB ?_)))
    refine zM (Qb ?_)
    exact zm (h:=⟨St.length-(k+1),by omega,k+1,rfl,rfl,rfl,rfl,by omega⟩)
   have hge_k:St.length≤k:=by have h:=hc94;simp at h;omega
   rw [show k=St.length by omega]
   have hmni:=zbi (S:=St) (x:=y) (fun c h=>(hci c h).1) St.length
   refine QH (Qe (Qe (Qk (Qa (Qg (zM ?_))))))
   refine zM ?_
   refine zV (Q6 rfl rfl Qy (fun hg=>by omega)) ?_
   refine zV (Qd rfl Qt (fun hg=>by exact V0 (zsX hst))) ?_
   refine zM ?_
   refine zB ?_
   refine zV (Q6 rfl rfl Qy (fun hg=>by omega)) ?_
   refine ZG rfl rfl Yf rfl rfl (by repeat (first | exact Upd.here | apply Upd.there | apply QI)) (ztC (by rw [ziL];omega)) ?_
   refine Qb ?_
   rw [Vq,show (Wh St (Uh St (rcF St (uF rows l) xs (f0+1) (Qz xs s)) (rcF St (uF rows l) xs (f0+1) (s-Qz xs s)) (j+1)) (Uh St (rcF St (uF rows l) xs (f0+1) (Qz xs s)) (rcF St (uF rows l) xs (f0+1) (s-Qz xs s)) j) i).set i ((Uh St (rcF St (uF rows l) xs (f0+1) (Qz xs s)) (rcF St (uF rows l) xs (f0+1) (s-Qz xs s)) j) y+zgB St (if j=0 then (rcF St (uF rows l) xs (f0+1) (Qz xs s)) else (rcF St (uF rows l) xs (f0+1) (s-Qz xs s))) y St.length)=Wh St (Uh St (rcF St (uF rows l) xs (f0+1) (Qz xs s)) (rcF St (uF rows l) xs (f0+1) (s-Qz xs s)) (j+1)) (Uh St (rcF St (uF rows l) xs (f0+1) (Qz xs s)) (rcF St (uF rows l) xs (f0+1) (s-Qz xs s)) j) (i+1) from by rw [←ziF hst,←zjE hlt_j];rfl]
   refine Qh (Qa (Qg (zB ?_)))
   refine zM (Qb ?_)
   exact zm (h:=⟨St.length-(i+1),by omega,i+1,rfl,rfl,rfl,rfl,by omega⟩)
  have hge_i:St.length≤i:=by have h:=hc87;simp at h;omega
  rw [show Wh St (Uh St (rcF St (uF rows l) xs (f0+1) (Qz xs s)) (rcF St (uF rows l) xs (f0+1) (s-Qz xs s)) (j+1)) (Uh St (rcF St (uF rows l) xs (f0+1) (Qz xs s)) (rcF St (uF rows l) xs (f0+1) (s-Qz xs s)) j) i=Wh St (Uh St (rcF St (uF rows l) xs (f0+1) (Qz xs s)) (rcF St (uF rows l) xs (f0+1) (s-Qz xs s)) (j+1)) (Uh St (rcF St (uF rows l) xs (f0+1) (Qz xs s)) (rcF St (uF rows l) xs (f0+1) (s-Qz xs s)) (j+1)) 0 by rw [zj3 hge_i,zhC]]
  refine QH (Qe (Qe (Qk (Qh (Qa (Qg (zB ?_)))))))
  refine zM (Qb ?_)
  exact zm (h:=⟨2-(j+1),by omega,j+1,rfl,rfl,hB4,rfl,by omega⟩)
 have hge_j:2≤j:=by have h:=hc78;simp at h;omega
 rw [show j=2 by omega,zhC]
 refine QH (Qe (Qe (Qk (Qa (zR (zM ?_))))))
 refine zA (zN (Qs ?_))
 first
 | exact Zt rfl rfl (fun w hw=>by obtain ⟨I9,h91,h92,h93⟩:=OwnS.res (zfn (by rw [List.length_map]) (by omega)) Qv (by decide) hw;rw [←zvU (f:=f0+1) hns0] at h93;exact ⟨_,I9,[],rfl,hIc.trans h91,h92,h93⟩)
end
section
open Go Go.Kn
theorem zeP (d:Array Int)(hs:∀ j,0<j→j<d.size→d[j-1]! ≤d[j]!):∀ m,m≤d.size→(Lib.compactUpTo d m).Pairwise (· < ·)∧(∀ x∈Lib.compactUpTo d m,0<m∧x≤d[m-1]!)∧∀ x,x∈Lib.compactUpTo d m↔ ∃ j,j<m∧d[j]! =x
 | 0,_=>⟨.nil,(fun x h=>by cases h),fun x=>⟨(fun h=>by cases h),fun ⟨j,h,_⟩=>by omega⟩⟩
 | m+1,hm=>by
  obtain ⟨h1,h2,h3⟩:=zeP d hs m (by omega)
  rw [Lib.compactUpTo_succ]
  by_cases hk:Lib.keeps d m=true
  ·
   rw [if_pos hk]
   have hlt:∀ x∈Lib.compactUpTo d m,x<d[m]! :=fun x hx=>by
    obtain ⟨a,b⟩:=h2 x hx
    have h4:=hs m a (by omega)
    unfold Lib.keeps at hk
    have h5:=of_decide_eq_true hk
    omega
   refine ⟨?_,?_,?_⟩
   ·
    rw [List.pairwise_append]
    exact ⟨h1,List.pairwise_singleton ..,fun y hy z hz=>by rw [List.mem_singleton] at hz;rw [hz];exact hlt y hy⟩
   ·
    intro x hx
    refine ⟨by omega,?_⟩
    rw [show m+1-1=m from by omega]
    rcases List.mem_append.1 hx with hx | hx
    ·
     have:=hlt x hx;omega
    ·
     rw [List.mem_singleton] at hx;rw [hx];exact Int.le_refl _
   ·
    intro x
    rw [List.mem_append,h3,List.mem_singleton]
    constructor
    ·
     rintro (⟨j,a,b⟩ | e)
     ·
      exact ⟨j,by omega,b⟩
     ·
      exact ⟨m,by omega,e.symm⟩
    ·
     rintro ⟨j,a,b⟩
     by_cases e:j=m
     ·
      subst e;exact .inr b.symm
     ·
      exact .inl ⟨j,by omega,b⟩
  ·
   rw [if_neg hk,List.append_nil]
   unfold Lib.keeps at hk
   have h5:¬(m=0∨d[m]! ≠d[m-1]!):=fun h=>hk (decide_eq_true h)
   have h6:0<m∧d[m]! =d[m-1]! :=by omega
   refine ⟨h1,?_,?_⟩
   ·
    intro x hx
    have:=h2 x hx
    rw [show m+1-1=m from by omega]
    omega
   ·
    intro x
    rw [h3]
    constructor
    ·
     rintro ⟨j,a,b⟩;exact ⟨j,by omega,b⟩
    ·
     rintro ⟨j,a,b⟩
     by_cases e:j=m
     ·
      subst e;exact ⟨j-1,by omega,by rw [←h6.2];exact b⟩
     ·
      exact ⟨j,by omega,b⟩
theorem Ks (zs:List Int):(Lib.compact (Yu zs)).Pairwise (· < ·)∧∀ x,x∈Lib.compact (Yu zs)↔x∈zs:=by
 have hp:(Yu zs).Pairwise (fun a b=>decide (a≤b)=true):=List.pairwise_mergeSort (by intro a b c;simp;omega) (by intro a b;simp;omega) zs
 have hget:∀ j,j<(Yu zs).length→(Yu zs).toArray[j]! =(Yu zs)[j]! :=fun j hj=>by simp
 have hs:∀ j,0<j→j<(Yu zs).toArray.size→(Yu zs).toArray[j-1]! ≤(Yu zs).toArray[j]! :=by
  intro j h0 hj
  have hj':j<(Yu zs).length:=by simpa using hj
  have h1:=List.pairwise_iff_getElem.1 hp (j-1) j (by omega) hj' (by omega)
  have h2:=of_decide_eq_true h1
  simpa [hj',show j-1<(Yu zs).length from by omega] using h2
 obtain ⟨h1,_,h3⟩:=zeP (Yu zs).toArray hs (Yu zs).length (by simp)
 refine ⟨h1,fun x=>?_⟩
 unfold Lib.compact
 rw [h3]
 have hmem:x∈Yu zs↔x∈zs:=(List.mergeSort_perm zs _).mem_iff
 rw [←hmem]
 constructor
 ·
  rintro ⟨j,hj,e⟩
  have:(Yu zs)[j]=x:=by simpa [hj] using e
  rw [←this];exact List.getElem_mem hj
 ·
  intro h
  obtain ⟨j,hj,e⟩:=List.getElem_of_mem h
  exact ⟨j,hj,by simpa [hj] using e⟩
end
section
open Go Go.Kn Go.Proofs
def rcV (S:List Int)(u:Nat→Int)(cl:List Int)(f:Nat)(s x:Int):Int:=if Z7 s=true then WQ (u (KN s)) x else Uh S (rcF S u cl f (Qz cl s)) (rcF S u cl f (s-Qz cl s)) 2 x
theorem zs5 {S:List Int}{u:Nat→Int}{cl:List Int}{f:Nat}{s:Int}:rcF S u cl (f+1) s=S.map (rcV S u cl f s):=by
 cases h:Z7 s with
 | true=>rw [zvS h];exact List.map_congr_left fun x _=>by unfold rcV;rw [if_pos h]
 | false=>rw [zvU h];exact List.map_congr_left fun x _=>by unfold rcV;rw [if_neg (by rw [h];decide)]
def stE (rows:List (List Int))(l:Nat):List Int:=Lib.compact (Yu (stL rows l rows.length))
def ziD (rows:List (List Int))(cl:List Int)(l:Nat):List Int:=rcF (stE rows l) (uF rows l) cl 64 (Y6 rows.length)
def zoi (rows:List (List Int))(cl:List Int)(l:Nat)(x:Int):Int:=rcV (stE rows l) (uF rows l) cl 63 (Y6 rows.length) x
theorem zaY {rows:List (List Int)}{cl:List Int}{l:Nat}:ziD rows cl l=(stE rows l).map (zoi rows cl l):=zs5 (f:=63)
def Jz (rows:List (List Int))(cl:List Int)(l:Nat):List Int:=(stE rows l).filter fun x=>zoi rows cl l x==Yl (ziD rows cl l)
def U1 (rows:List (List Int))(cl:List Int):List (List Int):=if YB rows cl≠0 then [] else (List.range (rows.getD 0 []).length).map (Jz rows cl)
theorem zcN {rows:List (List Int)}{cl:List Int}(h:YB rows cl≠0):U1 rows cl=[]:=by unfold U1;rw [if_pos h]
theorem Xg {rows:List (List Int)}{cl:List Int}(h:YB rows cl=0):U1 rows cl=(List.range (rows.getD 0 []).length).map (Jz rows cl):=by unfold U1;rw [if_neg (by omega)]
theorem Xt {α:Type}{f:Nat→α}{k:Nat}:(List.range (k+1)).map f=(List.range k).map f++[f k]:=by rw [List.range_succ,List.map_append];rfl
theorem zlB {α:Type}{p:α→Bool}{xs:List α}{k:Nat}{x:α}(hx:xs[k]? =some x)(h:p x=true):(xs.take (k+1)).filter p=(xs.take k).filter p++[x]:=by
 rw [List.take_add_one,hx,List.filter_append];simp [h]
theorem zro {α:Type}{p:α→Bool}{xs:List α}{k:Nat}{x:α}(hx:xs[k]? =some x)(h:p x=false):(xs.take (k+1)).filter p=(xs.take k).filter p:=by
 rw [List.take_add_one,hx,List.filter_append];simp [h]
theorem zkg {rows:List (List Int)}{l:Nat}:(stE rows l).length≤rows.length+1:=by
 have h1:(stL rows l rows.length).length≤rows.length+1:=by
  unfold stL
  have:=List.length_filter_le (fun x=>x != 8589934592) ((List.range rows.length).map fun w=>uF rows l w)
  rw [List.length_map,List.length_range] at this
  rw [List.length_cons];omega
 have h2:(Yu (stL rows l rows.length)).length=(stL rows l rows.length).length:=by unfold Yu;exact (List.mergeSort_perm _ _).length_eq
 have h3:=Lib.compact_length_le (Yu (stL rows l rows.length))
 unfold stE;omega
theorem zq1 {rows:List (List Int)}{l:Nat}{y:Int}:y∈stE rows l↔y∈Q9 rows l:=by unfold stE;rw [(Ks _).2,zvj]
theorem zs4 {rows:List (List Int)}{l:Nat}:(stE rows l).Pairwise (· < ·):=(Ks _).1
theorem zg8 {rows:List (List Int)}{l:Nat}:0<(stE rows l).length:=List.length_pos_of_mem (zq1.2 (zfy.2 (.inl rfl)))
theorem ziK {rows:List (List Int)}{cl:List Int}{l:Nat}:(ziD rows cl l).length=(stE rows l).length:=by rw [zaY,List.length_map]
def zu1 (rows:List (List Int))(cl:List Int):Value→Qu→Go.Kn.Loc→Prop:=fun v I' L=>L=[]∧∃ av c,v= .tuple #[.slice av (U1 rows cl).length c,.int .i64 (YB rows cl)]∧SlN I' av (U1 rows cl).length c (U1 rows cl)
end
end Go.Proofs.YtodakphagkommaaGreatDoor
namespace Go.Kn
section
open Go Go.Sort Go.Shelf Go.Lib Go.Proofs
theorem zl3 {w w':World}{L:Loc}(h:St w (fun b=>w.heap[b]?) (fun _=>none) L w'):∃ q os',w'=grow (w.drewN q) os':=by
 refine ⟨w'.drawn-w.drawn,w'.heap.extract w.heap.size w'.heap.size,?_⟩
 have h1:=h.size
 have hh:w.heap++w'.heap.extract w.heap.size w'.heap.size=w'.heap:=by
  apply Array.ext'
  apply List.ext_getElem?
  intro i
  by_cases hi:i<w.heap.size
  ·
   have:=h.imm i _ (Array.getElem?_eq_getElem hi)
   rw [Array.getElem?_toList,Array.getElem?_toList,this,Array.getElem?_append_left hi,Array.getElem?_eq_getElem hi]
  ·
   rw [Array.getElem?_toList,Array.getElem?_toList,Array.getElem?_append_right (by omega),Array.getElem?_extract]
   by_cases h2:i<w'.heap.size
   ·
    rw [if_pos (by omega),show w.heap.size+(i-w.heap.size)=i by omega]
   ·
    rw [if_neg (by omega),Array.getElem?_eq_none (by omega)]
 have e1:=h.os;have e2:=h.tape;have e3:=h.out
 cases w;cases w'
 simp only [grow,World.drewN] at*
 subst e1;subst e2;subst e3
 simp only [World.mk.injEq,true_and,and_true]
 exact ⟨hh.symm,by omega⟩
theorem zgH {α:Type}[Inhabited α]{enc:α→List Value}{k:Nat}(hk:∀ x,(enc x).length=k)(hpos:0<k)(xs:List α):flatK enc k xs.toArray=(xs.flatMap enc).toArray:=by
 have hl:(xs.flatMap enc).length=xs.length*k:=ZU hk xs
 apply Array.ext
 ·
  rw [size_flatK];simp [hl]
 ·
  intro t h1 h2
  have ht:t<xs.length*k:=by rw [size_flatK] at h1;simpa using h1
  have hq:t / k<xs.length:=by rw [Nat.div_lt_iff_lt_mul hpos];exact ht
  have hr:t % k<k:=Nat.mod_lt _ hpos
  have hx:xs[t / k]? =some xs[t / k]:=List.getElem?_eq_getElem hq
  have hu:(enc xs[t / k])[t % k]? =some ((enc xs[t / k])[t % k]'(by rw [hk];exact hr)):=List.getElem?_eq_getElem _
  have h3:=X7 hk xs (t / k) _ hx (t % k) _ hu
  rw [Nat.mul_comm,Nat.div_add_mod] at h3
  have h4:=get_flatK enc k xs.toArray t (by simpa using ht)
  rw [getElem!_pos (flatK enc k xs.toArray) t h1] at h4
  rw [h4]
  have e1:xs.toArray[t / k]! =xs[t / k]'hq:=by simp [hq]
  rw [e1]
  have e2:(enc (xs[t / k]'hq))[t % k]! =(enc (xs[t / k]'hq))[t % k]'(by rw [hk];exact hr):=getElem!_pos (enc (xs[t / k]'hq)) (t % k) (by rw [hk];exact hr)
  rw [e2]
  have e3:(xs.flatMap enc).toArray[t]? =some ((enc xs[t / k])[t % k]'(by rw [hk];exact hr)):=by simpa using h3
  rw [Array.getElem?_eq_getElem h2] at e3
  exact (Option.some.inj e3).symm
theorem zkK {α:Type}[Inhabited α]{P:Program}{f g0:FuncId}{e:TypeId}{k:Nat}{enc:α→List Value}{cf:α→α→Int}(hk:∀ x,(enc x).length=k)(hpos:0<k)
  (hs:∀ (blk off cap:Nat) (d:Array α) (w:World),CmpLays P g0 #[] enc k cf blk off d.size w→HoldsK enc k w blk off d→blk<w.heap.size→d.size<4611686018427387904→
   Calls P f #[.slice (some ⟨blk,off,none⟩) d.size cap,.func (.func g0) #[] #[]] w fun e w'=>e= .returned (.tuple #[])∧∃ d' n os,PermIn 0 d.size d d'∧SortedIn (ltOf cf) 0 d.size d'∧w'=sortWorldK enc k w blk off n d' os)
  (h0:∀ (p:Option Addr) (cap:Nat) (fv:Value) (w:World),Calls P f #[.slice p 0 cap,fv] w fun e w'=>e= .returned (.tuple #[])∧w'=w)
  (hcmp:∀ (I:Qu) (x y:α),Zx P g0 [.agg (enc x).toArray,.agg (enc y).toArray] I (.int .i64 (cf x y)))
  (zs:List α){v:Value}{n:Nat}{L:Loc}(hO:OwnS e k v n (zs.flatMap enc) L)(hn:n≤1000000)(I:Qu):
  Yc P f [v,.func (.func g0) #[] #[]] I L (fun u I' L'=>u= .tuple #[]∧I'=I∧∃ zs':List α,zs'.Perm zs∧zs'.Pairwise (fun x y=>ltOf cf y x=false)∧OwnS e k v n (zs'.flatMap enc) L'):=by
 intro g H w hw
 have hl:zs.length=n:=by
  have:=hO.1
  rw [ZU hk] at this
  exact Nat.eq_of_mul_eq_mul_right hpos this
 subst hl
 rcases hO.2 with ⟨rfl,h00,rfl⟩ | ⟨b,c,cur,rfl,rfl,hc,hc2,hsz,htk⟩
 ·
  have:zs=[]:=List.length_eq_zero_iff.1 h00
  subst this
  refine (h0 none 0 _ w).mono ?_
  rintro e w' ⟨rfl,rfl⟩
  exact ⟨_,I,[],rfl,zyv _,hw,rfl,rfl,[],.nil,.nil,by simp,.inl ⟨rfl,rfl,rfl⟩⟩
 ·
  have hb:=hw.own b _ (List.mem_singleton.2 rfl)
  have hbs:b<w.heap.size:=(Array.getElem?_eq_some_iff.1 hb).1
  have hfl:(zs.flatMap enc).length=zs.length*k:=ZU hk zs
  have hH:HoldsK enc k w b 0 zs.toArray:=by
   unfold HoldsK
   rw [zgH hk hpos]
   exact Xp (enc:=id) hw (List.mem_singleton.2 rfl) (zs.flatMap enc) (by rw [hfl,htk];simp)
  have hC:CmpLays P g0 #[] enc k cf b 0 zs.toArray.size w:=by
   intro m os dk _ x y
   have h1:=hcmp (fun q=>(sortWorldK enc k w b 0 m dk os).heap[q]?) x y (sortWorldK enc k w b 0 m dk os) (fun _=>none) (sortWorldK enc k w b 0 m dk os)
    ⟨rfl,rfl,rfl,⟨Nat.le_refl _,Nat.le_refl _⟩,fun _ _ h=>h,(fun _ _ h=>by cases h),(fun _ _ h=>by cases h),fun _=>.inr rfl,(fun _ _ h=>by cases h),by simp⟩
   refine Calls.mono h1 ?_
   rintro e w' ⟨rfl,hs⟩
   exact ⟨rfl,zl3 hs⟩
  have hcall:=hs b 0 c zs.toArray w hC hH hbs (by simp;omega)
  rw [List.size_toArray] at hcall
  refine hcall.mono ?_
  rintro e w' ⟨rfl,d',m,os,hp,hsd,rfl⟩
  have hps:d'.size=zs.length:=by simpa using hp.1
  have hperm:d'.toList.Perm zs:=by
   have:=hp.2.2
   simpa [Array.extract_eq_self_of_le,hps] using this
  have hdl:d'=d'.toList.toArray:=by simp
  have hfd:(d'.toList.flatMap enc).length=zs.length*k:=by rw [ZU hk,Array.length_toList,hps]
  refine ⟨_,I,[(b,.cells (putCells id 0 (d'.toList.flatMap enc).toArray cur) e (0,0))],rfl,zyv _,?_,rfl,rfl,d'.toList,hperm,?_,?_⟩
  ·
   unfold sortWorldK putRowK
   rw [hdl,zgH hk hpos]
   simp only
   exact (((hw.aheadN m).rowPut (enc:=id) _ .here).grown os)
  ·
   rw [List.pairwise_iff_getElem]
   intro i j hi hj hij
   have:=hsd i j (Nat.zero_le _) hij (by rw [←hps];simpa using hj)
   rw [getElem!_pos d' i (by simpa using hi),getElem!_pos d' j (by simpa using hj)] at this
   simpa using this
  ·
   refine ⟨by rw [hfd],.inr ⟨b,c,_,rfl,rfl,hc,hc2,by simp [putCells,hsz],?_⟩⟩
   have:=zbn (enc:=id) (cs:=cur) (n:=zs.length*k) (d'.toList.flatMap enc) hfd (by rw [hsz];exact Nat.mul_le_mul_right k hc)
   simpa using this
end
end Go.Kn
namespace Go.Proofs
section
open Go.Shelf
def Tryz.lays189_ren:Go.Shelf.Ren:=⟨fun | 189=>64 | 125=>108 | 257=>107 | 128=>164 | 129=>165 | 294=>155 | 295=>156 | 296=>157 | 297=>158 | 298=>159 | 299=>160 | 216=>161 | 300=>162 | 301=>163 | 328=>204 | 329=>205 | 330=>206 | 331=>207 | 332=>208 | 215=>192 | 343=>238 | n=>n,fun | 28=>23 | 3=>3 | 46=>186 | 0=>0 | 51=>234 | 53=>236 | 4=>4 | 183=>228 | 182=>227 | 131=>141 | 5=>5 | 9=>9 | 218=>259 | 222=>253 | 228=>278 | 229=>279 | n=>n,fun | n=>n⟩
theorem Tryz.lays189:Go.Proofs.Lays.n189 Tryz.prog Tryz.lays189_ren:={
 mixed:=by kernel_rfl
 f125:=Tryz.func108.trans (congrArg some (by kernel_rfl))
 f128:=Tryz.func164.trans (congrArg some (by kernel_rfl))
 f129:=Tryz.func165.trans (congrArg some (by kernel_rfl))
 f189:=Tryz.func64.trans (congrArg some (by kernel_rfl))
 f215:=Tryz.func192.trans (congrArg some (by kernel_rfl))
 f216:=Tryz.func161.trans (congrArg some (by kernel_rfl))
 f257:=Tryz.func107.trans (congrArg some (by kernel_rfl))
 f294:=Tryz.func155.trans (congrArg some (by kernel_rfl))
 f295:=Tryz.func156.trans (congrArg some (by kernel_rfl))
 f296:=Tryz.func157.trans (congrArg some (by kernel_rfl))
 f297:=Tryz.func158.trans (congrArg some (by kernel_rfl))
 f298:=Tryz.func159.trans (congrArg some (by kernel_rfl))
 f299:=Tryz.func160.trans (congrArg some (by kernel_rfl))
 f300:=Tryz.func162.trans (congrArg some (by kernel_rfl))
 f301:=Tryz.func163.trans (congrArg some (by kernel_rfl))
 f328:=Tryz.func204.trans (congrArg some (by kernel_rfl))
 f329:=Tryz.func205.trans (congrArg some (by kernel_rfl))
 f330:=Tryz.func206.trans (congrArg some (by kernel_rfl))
 f331:=Tryz.func207.trans (congrArg some (by kernel_rfl))
 f332:=Tryz.func208.trans (congrArg some (by kernel_rfl))
 f343:=Tryz.func238.trans (congrArg some (by kernel_rfl))
 t0:=Tryz.underlying0
 a0:=Tryz.isAgg0
 z0:=Tryz.sizeOf0
 v0:=Tryz.zeroValue0
 t3:=Tryz.underlying3
 a3:=Tryz.isAgg3
 z3:=Tryz.sizeOf3
 v3:=Tryz.zeroValue3
 t4:=Tryz.underlying4
 a4:=Tryz.isAgg4
 z4:=Tryz.sizeOf4
 v4:=Tryz.zeroValue4
 t5:=Tryz.underlying5
 a5:=Tryz.isAgg5
 z5:=Tryz.sizeOf5
 v5:=Tryz.zeroValue5
 t9:=Tryz.underlying9
 a9:=Tryz.isAgg9
 z9:=Tryz.sizeOf9
 v9:=Tryz.zeroValue9
 t28:=Tryz.underlying23
 a28:=Tryz.isAgg23
 z28:=Tryz.sizeOf23
 v28:=Tryz.zeroValue23
 t46:=Tryz.underlying186
 a46:=Tryz.isAgg186
 z46:=Tryz.sizeOf186
 v46:=Tryz.zeroValue186
 t51:=Tryz.underlying234
 a51:=Tryz.isAgg234
 z51:=Tryz.sizeOf234
 v51:=Tryz.zeroValue234
 t53:=Tryz.underlying236
 a53:=Tryz.isAgg236
 z53:=Tryz.sizeOf236
 v53:=Tryz.zeroValue236
 t131:=Tryz.underlying141
 a131:=Tryz.isAgg141
 z131:=Tryz.sizeOf141
 v131:=Tryz.zeroValue141
 t182:=Tryz.underlying227
 a182:=Tryz.isAgg227
 z182:=Tryz.sizeOf227
 v182:=Tryz.zeroValue227
 t183:=Tryz.underlying228
 a183:=Tryz.isAgg228
 z183:=Tryz.sizeOf228
 v183:=Tryz.zeroValue228
 t218:=Tryz.underlying259
 a218:=Tryz.isAgg259
 z218:=Tryz.sizeOf259
 v218:=Tryz.zeroValue259
 t222:=Tryz.underlying253
 a222:=Tryz.isAgg253
 z222:=Tryz.sizeOf253
 v222:=Tryz.zeroValue253
 t228:=Tryz.underlying278
 a228:=Tryz.isAgg278
 z228:=Tryz.sizeOf278
 v228:=Tryz.zeroValue278
 t229:=Tryz.underlying279
 a229:=Tryz.isAgg279
 z229:=Tryz.sizeOf279
 v229:=Tryz.zeroValue279}
open Go.Sort Go.RowKit in
theorem Tryz.slices_Sort_int (blk off cap:Nat) (zs:List Int) (w:World) (hH:Holds (Value.int .i64) w blk off zs.toArray) (hblk:blk<w.heap.size) (hsz:zs.length<4611686018427387904):
  Calls Tryz.prog 64 #[.slice (some ⟨blk,off,none⟩) zs.length cap] w fun e w'=>
   e= .returned (.tuple #[])∧∃ n os,w'=grow (putRow (Value.int .i64) (Sort.ahead w n) blk off (zs.mergeSort fun x y=>decide (x≤y)).toArray) os:=Any.slices_Sort_int Tryz.lays189 blk off cap zs w hH hblk hsz
def Tryz.laysNm220_ren:Go.Shelf.Ren:=⟨fun | 20=>91 | n=>n,fun | 22=>23 | 3=>3 | 4=>4 | 0=>0 | n=>n,fun | n=>n⟩
theorem Tryz.laysNm220:Go.Proofs.Lays2.n20 Tryz.prog Tryz.laysNm220_ren:={
 mixed:=by kernel_rfl
 f20:=Tryz.func91.trans (congrArg some (by kernel_rfl))
 t0:=Tryz.underlying0
 a0:=Tryz.isAgg0
 z0:=Tryz.sizeOf0
 v0:=Tryz.zeroValue0
 t3:=Tryz.underlying3
 a3:=Tryz.isAgg3
 z3:=Tryz.sizeOf3
 v3:=Tryz.zeroValue3
 t4:=Tryz.underlying4
 a4:=Tryz.isAgg4
 z4:=Tryz.sizeOf4
 v4:=Tryz.zeroValue4
 t22:=Tryz.underlying23
 a22:=Tryz.isAgg23
 z22:=Tryz.sizeOf23
 v22:=Tryz.zeroValue23
 i3:=by kernel_rfl}
open Go.RowKit Go.Lib Go.Sort in
theorem Tryz.slices_Compact_int (blk off cap:Nat) (zs:List Int) (w:World) (hH:Holds (Value.int .i64) w blk off zs.toArray) (hsz:zs.length≤9223372036854775807) (hcap:zs.length≤cap):
  Calls Tryz.prog 91 #[.slice (some ⟨blk,off,none⟩) zs.length cap] w fun e w'=>e= .returned (.slice (some ⟨blk,off,none⟩) (Lib.compact zs).length cap)∧∃ q,w'=putRow (Value.int .i64) (Sort.ahead w q) blk off (Lib.compact zs++List.replicate (zs.length-(Lib.compact zs).length) 0).toArray:=Any.slices_Compact_int Tryz.laysNm220 blk off cap zs w hH hsz hcap
open Go.RowKit Go.Lib Go.Sort in
theorem Tryz.slices_Compact_int_empty (a:Option Addr) (cap:Nat) (w:World):
  Calls Tryz.prog 91 #[.slice a 0 cap] w fun e w'=>e= .returned (.slice a 0 cap)∧w'=w:=Any.slices_Compact_int_empty Tryz.laysNm220 a cap w
open Go.RowKit Go.Sort in
theorem Tryz.slices_Sort_int_none (p:Option Addr) (cap:Nat) (w:World):
  Calls Tryz.prog 64 #[.slice p 0 cap] w fun e w'=>e= .returned (.tuple #[])∧w'=w:=Any.slices_Sort_int_none Tryz.lays189 p cap w
def Tryz.laysSlF06_f140_ren:Go.Shelf.Ren:=⟨fun | 6=>140 | 15=>108 | 14=>191 | 28=>164 | 29=>165 | 20=>224 | 21=>225 | 22=>226 | 23=>227 | 24=>228 | 25=>229 | 26=>230 | 27=>231 | 46=>246 | 47=>205 | 48=>206 | 49=>247 | 50=>248 | 57=>258 | n=>n,fun | 22=>48 | 24=>54 | 25=>213 | 3=>3 | 39=>186 | 0=>0 | 53=>234 | 55=>236 | 4=>4 | 46=>228 | 45=>227 | 50=>141 | 5=>5 | 9=>9 | 66=>259 | 70=>253 | 76=>278 | 77=>279 | n=>n,fun | n=>n⟩
theorem Tryz.laysSlF06_f140:Go.Proofs.SlLaysF0.n6 Tryz.prog Tryz.laysSlF06_f140_ren:={
 mixed:=by kernel_rfl
 f6:=⟨Tryz.f140.name,by decide,Tryz.func140.trans (congrArg some (by kernel_rfl))⟩
 f14:=⟨Tryz.f191.name,by decide,Tryz.func191.trans (congrArg some (by kernel_rfl))⟩
 f15:=Tryz.func108.trans (congrArg some (by kernel_rfl))
 f20:=⟨Tryz.f224.name,by decide,Tryz.func224.trans (congrArg some (by kernel_rfl))⟩
 f21:=⟨Tryz.f225.name,by decide,Tryz.func225.trans (congrArg some (by kernel_rfl))⟩
 f22:=⟨Tryz.f226.name,by decide,Tryz.func226.trans (congrArg some (by kernel_rfl))⟩
 f23:=⟨Tryz.f227.name,by decide,Tryz.func227.trans (congrArg some (by kernel_rfl))⟩
 f24:=⟨Tryz.f228.name,by decide,Tryz.func228.trans (congrArg some (by kernel_rfl))⟩
 f25:=⟨Tryz.f229.name,by decide,Tryz.func229.trans (congrArg some (by kernel_rfl))⟩
 f26:=⟨Tryz.f230.name,by decide,Tryz.func230.trans (congrArg some (by kernel_rfl))⟩
 f27:=⟨Tryz.f231.name,by decide,Tryz.func231.trans (congrArg some (by kernel_rfl))⟩
 f28:=Tryz.func164.trans (congrArg some (by kernel_rfl))
 f29:=Tryz.func165.trans (congrArg some (by kernel_rfl))
 f46:=⟨Tryz.f246.name,by decide,Tryz.func246.trans (congrArg some (by kernel_rfl))⟩
 f47:=Tryz.func205.trans (congrArg some (by kernel_rfl))
 f48:=Tryz.func206.trans (congrArg some (by kernel_rfl))
 f49:=⟨Tryz.f247.name,by decide,Tryz.func247.trans (congrArg some (by kernel_rfl))⟩
 f50:=⟨Tryz.f248.name,by decide,Tryz.func248.trans (congrArg some (by kernel_rfl))⟩
 f57:=⟨Tryz.f258.name,by decide,Tryz.func258.trans (congrArg some (by kernel_rfl))⟩
 t0:=Tryz.underlying0
 a0:=Tryz.isAgg0
 z0:=Tryz.sizeOf0
 v0:=Tryz.zeroValue0
 t3:=Tryz.underlying3
 a3:=Tryz.isAgg3
 z3:=Tryz.sizeOf3
 v3:=Tryz.zeroValue3
 t4:=Tryz.underlying4
 a4:=Tryz.isAgg4
 z4:=Tryz.sizeOf4
 v4:=Tryz.zeroValue4
 t5:=Tryz.underlying5
 a5:=Tryz.isAgg5
 z5:=Tryz.sizeOf5
 v5:=Tryz.zeroValue5
 t9:=Tryz.underlying9
 a9:=Tryz.isAgg9
 z9:=Tryz.sizeOf9
 v9:=Tryz.zeroValue9
 t22:=Tryz.underlying48
 a22:=Tryz.isAgg48
 z22:=Tryz.sizeOf48
 v22:=Tryz.zeroValue48
 t25:=Tryz.underlying213
 a25:=Tryz.isAgg213
 z25:=Tryz.sizeOf213
 v25:=Tryz.zeroValue213
 t39:=Tryz.underlying186
 a39:=Tryz.isAgg186
 z39:=Tryz.sizeOf186
 v39:=Tryz.zeroValue186
 t45:=Tryz.underlying227
 a45:=Tryz.isAgg227
 z45:=Tryz.sizeOf227
 v45:=Tryz.zeroValue227
 t46:=Tryz.underlying228
 a46:=Tryz.isAgg228
 z46:=Tryz.sizeOf228
 v46:=Tryz.zeroValue228
 t50:=Tryz.underlying141
 a50:=Tryz.isAgg141
 z50:=Tryz.sizeOf141
 v50:=Tryz.zeroValue141
 t53:=Tryz.underlying234
 a53:=Tryz.isAgg234
 z53:=Tryz.sizeOf234
 v53:=Tryz.zeroValue234
 t55:=Tryz.underlying236
 a55:=Tryz.isAgg236
 z55:=Tryz.sizeOf236
 v55:=Tryz.zeroValue236
 t66:=Tryz.underlying259
 a66:=Tryz.isAgg259
 z66:=Tryz.sizeOf259
 v66:=Tryz.zeroValue259
 t70:=Tryz.underlying253
 a70:=Tryz.isAgg253
 z70:=Tryz.sizeOf253
 v70:=Tryz.zeroValue253
 t76:=Tryz.underlying278
 a76:=Tryz.isAgg278
 z76:=Tryz.sizeOf278
 v76:=Tryz.zeroValue278
 t77:=Tryz.underlying279
 a77:=Tryz.isAgg279
 z77:=Tryz.sizeOf279
 v77:=Tryz.zeroValue279}
open Go.RowKit Go.Lib Go.Sort in
theorem Tryz.slices_SortFunc {α:Type} [Inhabited α] (k:Nat) (aE:∀ w,(isAgg (Tryz.laysSlF06_f140_ren.t 24)).run Tryz.prog w= .ok true w) (zE:∀ w,(Go.sizeOf (Tryz.laysSlF06_f140_ren.t 24)).run Tryz.prog w= .ok k w) (enc:α→List Value) (hk:∀ x,(enc x).length=k) (h1:∀ x,∀ v∈enc x,v.oneCell'=true) (cf:α→α→Int) (hO:SWO (ltOf cf)) (g:Nat) (cb:Array Value) (blk off cap:Nat) (d:Array α) (w:World) (eg:∀ args w,(callFunc g args).run Tryz.prog w= .ok (.enter g args) w) (hcmp:CmpLays Tryz.prog g cb enc k cf blk off d.size w) (hH:HoldsK enc k w blk off d) (hblk:blk<w.heap.size) (hsz:d.size<4611686018427387904):
  Calls Tryz.prog 140 #[.slice (some ⟨blk,off,none⟩) d.size cap,.func (.func g) #[] cb] w fun e w'=>
   e= .returned (.tuple #[])∧∃ d' n os,PermIn 0 d.size d d'∧SortedIn (ltOf cf) 0 d.size d'∧w'=sortWorldK enc k w blk off n d' os:=AnyQ.slices_SortFunc Tryz.laysSlF06_f140 k aE zE enc hk h1 cf hO g cb blk off cap d w eg hcmp hH hblk hsz
open Go.RowKit Go.Lib Go.Sort in
theorem Tryz.slices_SortFunc_none {α:Type} [Inhabited α] (p:Option Addr) (cap:Nat) (fv:Value) (w:World):
  Calls Tryz.prog 140 #[.slice p 0 cap,fv] w fun e w'=>e= .returned (.tuple #[])∧w'=w:=AnyF.slices_SortFunc_none Tryz.laysSlF06_f140 p cap fv w
end
end Go.Proofs
namespace Go.Proofs.YtodakphagkommaaGreatDoor
section
open Go Go.Kn Go.Proofs
theorem zag:ElT Tryz.prog 22 23 1 24:=.of (by kernel_rfl)
theorem ziA:Fun Tryz.prog 64:=.of Tryz.func64 (by kernel_rfl) (by kernel_rfl)
theorem znG:Fun Tryz.prog 91:=.of Tryz.func91 (by kernel_rfl) (by kernel_rfl)
theorem zsc:Fun Tryz.prog 92:=.of Tryz.func92 (by kernel_rfl) (by kernel_rfl)
theorem zoW:SzT Tryz.prog 174 1:=.of (by kernel_rfl)
theorem Zg:SzT Tryz.prog 23 1:=.of (by kernel_rfl)
theorem zvL:Yn Tryz.prog 174 .nilFunc:=.of (by kernel_rfl)
theorem Yp:Yn Tryz.prog 23 (.slice none 0 0):=.of (by kernel_rfl)
theorem zuB:Yn Tryz.prog 3 (.int .i64 0):=.of (by kernel_rfl)
theorem Ux (zs:List Int):zs.flatMap QP=zs.map (Value.int .i64):=by
 induction zs with
 | nil=>rfl
 | cons z zs ih=>rw [List.flatMap_cons,ih];rfl
theorem zg6 {zs:List Int}{v:Value}{n:Nat}{L:Go.Kn.Loc}(hO:OwnS 3 1 v n (zs.flatMap QP) L)(hn:n≤1000000)(I:Qu):Yc Tryz.prog 64 [v] I L (fun u I' L'=>u= .tuple #[]∧I'=I∧OwnS 3 1 v n ((Yu zs).flatMap QP) L'):=by
 rw [Ux] at hO
 rw [Ux]
 exact zjB Tryz.slices_Sort_int Tryz.slices_Sort_int_none zs hO hn I
theorem zf3 {zs:List Int}{v:Value}{n:Nat}{L:Go.Kn.Loc}(hO:OwnS 3 1 v n (zs.flatMap QP) L)(hn:n≤1000000)(I:Qu):Yc Tryz.prog 91 [v] I L (fun u I' L'=>I'=I∧OwnS 3 1 u (Lib.compact zs).length ((Lib.compact zs).flatMap QP) L'):=by
 rw [Ux] at hO
 rw [Ux]
 exact zaz Lib.compact Lib.compact_length_le rfl Tryz.slices_Compact_int Tryz.slices_Compact_int_empty zs hO hn I
theorem zcK {I:Qu}{bst brow bloc bcla bse:Nat}{sv bv av:Option Addr}{ns cs n2 c2 n c:Nat}{St xs:List Int}{rows:List (List Int)}{l:Nat}(hn:n≤100000)(hn2:n2≤100000)(hns:ns≤1000)(hl:∀ r∈rows,l<r.length)(hc:VS rows.length xs=0):∀ (f:Nat) (I:Qu),RtE I 93 bst brow bloc bcla bse sv bv av ns cs n2 c2 n c St xs rows l→∀ (s:Int),OkS rows.length xs s→s.toNat≤f→Yc Tryz.prog 93 ([.int .i64 s]++[Za bst,Za brow,Za bloc,Za bcla,Za bse]) I [] (zbG 1 QP (rcF St (uF rows l) xs f s))
 | 0,_,_,s,hok,hf=>by have:=hok.1;omega
 | f+1,I,hE,s,hok,hf=>zlM hE hn hn2 hns hl hc f s hok (fun h=>by omega) fun I' hI s' hok' hlt=>zcK (I:=I') hn hn2 hns hl hc f I' (hE.mono hI) s' hok' (by have:=hok'.1;have:=hok.1;omega)
theorem zqz {I:Qu}{av:Option Addr}{n c:Nat}{xs:List Int}(hS:Sl I 1 QP av n c xs){bv:Option Addr}{n2 c2:Nat}{rows:List (List Int)}(hVn:SlN I bv n2 c2 rows)(hn2:n2≤100000)(hDb:VF I):Yc Tryz.prog 51 [.slice bv n2 c2,.slice av n c] I [] (zu1 rows xs):=by
 intro g H w hw
 refine qe Tryz.func51 Tryz.ntmps51 hw ?_
 have hIc:=zyv I
 have hlV:=hVn.len
 subst hlV
 have hVn9:=hVn
 obtain ⟨hs,hV⟩:=hVn9
 have hH:=hV.1
 refine zR ?_
 refine Q5 rfl rfl rfl (fun b_2=>?_)
 refine Q5 rfl rfl rfl (fun b_3=>?_)
 refine zA ?_
 refine zA (zN (Ql (zR ?_)))
 refine zV (Qd rfl Ki (fun hg=>by exact zyp (zyq rfl))) ?_
 refine zV (Qd rfl QK (fun hg=>by exact zyq rfl)) ?_
 refine qc (vs:=[_,_]) rfl zsc (zo0 hS hVn hn2 hDb) ?_
 refine zM ?_
 refine zE ?_
 refine zE ?_
 refine zA ?_
 refine zN (zR ?_)
 refine zM ?_
 refine zC (zN ?_)
 refine zI ?_ ?_<;>intro hc24
 ·
  have hcE:YB rows xs≠0:=by simpa using hc24
  refine zR (zM ?_)
  refine zA ?_
  refine zA (zN (Qs (Qc ?_)))
  first
  | exact Zo rfl rfl rfl (fun w hw=>⟨_,_,[],rfl,hIc,hw.drop,rfl,none,0,by rw [zcN hcE];rfl,by rw [zcN hcE];exact .none⟩)
 have hcE:YB rows xs=0:=by simpa using hc24
 have hr0:VI rows=0:=by cases Decidable.em (VI rows=0) with
  | inl h=>exact h
  | inr h=>exact absurd ((zfW h).1.symm.trans hcE) h
 have hc0:VS rows.length xs=0:=by have h:=hcE;unfold YB at h;rw [if_neg (by omega)] at h;exact h
 obtain ⟨hr1,hr6,hr64,hrr⟩:=Ww hr0
 obtain ⟨x0,v0,hx0,hv0,hQ0⟩:=hV.at (k:=0) (by omega)
 have hx0l:=hQ0.len
 have hg0:rows.getD 0 []=v0:=Q1 hv0
 rw [hg0] at hr64 hrr
 have hxl:=(ZV hc0).2.2.1
 have hSl:=hS.len
 have hn:n≤100000:=by omega
 have hsh:=zeD (n:=(rows.length:Int)) ⟨by omega,by omega⟩
 have hal9:=zau (n:=(rows.length:Int)) ⟨by omega,by omega⟩
 refine Qo (Qa (Ql (Ql ?_)))
 refine Vv (fun I1 hI1 hall=>?_)
 have hS:=hS.mono hI1;have hVn:=hVn.mono hI1;have hV:=hV.mono hI1;have hH:=hH.mono hI1;have hIc:=hIc.trans hI1
 have hB2:QV I1 [] b_2 0 (.slice bv rows.length c2):=.imm (hall _ _ (by repeat (first | exact List.mem_cons_self .. | apply List.mem_cons_of_mem))) rfl
 have hB3:QV I1 [] b_3 0 (.slice av n c):=.imm (hall _ _ (by repeat (first | exact List.mem_cons_self .. | apply List.mem_cons_of_mem))) rfl
 refine Qg ?_
 refine zV (Qd rfl Ki (fun hg=>by exact hB2.any)) ?_
 refine zV (zX Zn hH) ?_
 refine zV (Qd rfl QK (fun hg=>by exact zyo hH hx0 rfl)) ?_
 refine zQ Qy ?_
 refine zM (zN (Qm ?_))
 refine zU [(2,_),(3,_),(29,_)] (fun T L0 mz E I' loc'=>∃ (l:Nat) (v4:Value) (os:List Hd) (L:Go.Kn.Loc),mz=x0.n-l∧E=(4,v4)::(30,.int .i64 l)::T∧HLe I1 I'∧L=loc'∧l≤x0.n∧OwnS 23 1 v4 l (os.flatMap WD) L∧zcp I' os ((List.range l).map (Jz rows xs))) ?_ (h:=⟨0,_,[],[],rfl,rfl,zyv _,rfl,Nat.zero_le _,OwnS.nil,zcp.nil⟩)
 rintro mz E J2 loc' ⟨l,v4,os,L,rfl,rfl,hJ,rfl,hl,hO4,hre⟩
 have hS:=hS.mono hJ;have hVn:=hVn.mono hJ;have hV:=hV.mono hJ;have hH:=hH.mono hJ;have hB2:=hB2.mono hJ;have hB3:=hB3.mono hJ;have hIc:=hIc.trans hJ
 have hB0:=hJ
 obtain ⟨va4,vc4,rfl⟩:=zdh hO4
 refine zR (zC (zN (Ql ?_)))
 refine zI ?_ ?_<;>intro hc31
 ·
  have hlt_l:l<x0.n:=by have h:=hc31;simp at h;omega
  have hsl:=zkg (rows:=rows) (l:=l)
  refine Qo (Qa (Ql (Qm (zR (zM ?_)))))
  refine Qr zuB rfl rfl (fun b_6=>?_)
  refine zS Yf ?_
  refine zN (zR ?_)
  refine Qq (ps:=[(0,_)]) (m:=[QP (0:Int)]) Zf rfl (.cons rfl (.nil)) rfl (by simp [Qv]) (by decide) (by decide) rfl rfl (fun b_33=>?_)
  refine Qr Yp rfl rfl (fun b_7=>?_)
  refine zS Zg ?_
  refine zN (Ql (zR ?_))
  refine zV (Qd rfl Ki (fun hg=>by exact hB2.any)) ?_
  refine zQ Zn ?_
  refine zM (zN (Qm ?_))
  refine zU [(2,_),(3,_),(4,_),(6,_),(7,_),(29,_),(30,_),(34,_),(35,_)] (fun T L0 mz E I' loc'=>∃ (i:Nat) (v7:Value) (q7:Nat) (L7:Go.Kn.Loc),mz=rows.length-i∧E=(36,.int .i64 i)::T∧J2=I'∧(b_7,.cells #[v7] 23 (0,0))::(L7++((b_6,.cells #[.int .i64 l] 3 (0,0))::L))=loc'∧i≤rows.length∧OwnS 3 1 v7 q7 ((stL rows l i).flatMap QP) L7∧q7≤i+1) ?_ (h:=⟨0,_,1,[(b_33,_)],rfl,rfl,rfl,rfl,Nat.zero_le _,OwnS.lit rfl (by decide),Nat.le_refl _⟩)
  rintro mz E I' loc' ⟨i,v7,q7,L7,rfl,rfl,rfl,rfl,hi,hO7,hq7⟩
  obtain ⟨va,vc,rfl⟩:=zdh hO7
  refine zR (zC (zN (Ql ?_)))
  refine zI ?_ ?_<;>intro hc37
  ·
   have hlt_i:i<rows.length:=by have h:=hc37;simp at h;omega
   obtain ⟨x,v,hx,hv,hQ⟩:=hV.at hlt_i
   have hlv:l<v.length:=by rw [(hrr v (List.mem_of_getElem? hv)).1];omega
   have hu:=Zj (d:=0) rfl hlv
   have hvn:=hQ.len
   have hUF:uF rows l i=v.getD l 0:=by unfold uF;rw [Q1 hv]
   refine Qo (Qa (Ql (Qm (zR ?_))))
   refine zV (zX Zn hH) ?_
   refine zV (Qd rfl QK (fun hg=>by exact zyo hH hx rfl)) ?_
   refine zA ?_
   refine zN (zR ?_)
   refine zM ?_
   refine zV (Qd rfl Qt (fun hg=>by (repeat (first | exact zyq rfl | apply zyp | apply zyr)))) ?_
   refine zV (zX Qy hQ) ?_
   refine zV (Qd rfl Qt (fun hg=>by exact zyo hQ hu rfl)) ?_
   refine zA ?_
   refine zN (zR ?_)
   refine zM ?_
   refine zC (zN ?_)
   refine zI ?_ ?_<;>intro hc45
   ·
    have hne:uF rows l i≠8589934592:=by rw [hUF];simpa using hc45
    refine Qg ?_
    refine zV (Qd rfl QK (fun hg=>by exact zyq rfl)) ?_
    refine zM ?_
    refine Qq (ps:=[(0,_)]) (m:=[QP (v.getD l 0)]) Zf rfl (.cons rfl (.nil)) rfl (by simp [Qv]) (by decide) (by decide) rfl rfl (fun b_48=>?_)
    refine QW (v:=_) (ys:=[v.getD l 0].flatMap QP) (L:=L7) rfl rfl Zf hO7 (by repeat (first | exact .cons .here .nil | exact QD | exact Qw | apply QC | apply QA)) ⟨rfl,fun _=>rfl,by repeat (first | exact zyt | apply zys | apply zyu)⟩ (JG [v.getD l 0]) (by omega) rfl rfl ?_
    intro v9 L9 hO9 _;rw [←List.flatMap_append] at hO9;obtain ⟨va9,vc9,rfl⟩:=zdh hO9
    refine ZG rfl rfl Zg rfl rfl (by (repeat (first | exact Upd.here | apply Upd.there | apply QI))) rfl ?_
    refine Qb (Qh (Qa (Qg (zB ?_))))
    refine zM (Qb ?_)
    first
    | exact Jj _ _ (L9++((b_7,_)::((b_6,_)::L))) ⟨rows.length-(i+1),by omega,i+1,_,q7+1,L9,rfl,rfl,rfl,rfl,by omega,by rw [zuZ hne,hUF];exact hO9,by omega⟩ (.cons rfl (.cons rfl (.cons rfl (.cons rfl (.cons rfl (.cons rfl (.cons rfl (.cons rfl (.cons rfl (.cons rfl .nil)))))))))) List.perm_middle.symm (by repeat (first | exact .refl | exact Zi | refine Yj ?_ | refine .drop ?_ | refine Z6 ?_))
   have heq:uF rows l i=8589934592:=by rw [hUF];simpa using hc45
   refine Qo (Qh (Qa (Qg (zB ?_))))
   refine zM (Qb ?_)
   first
   | exact zm (h:=⟨rows.length-(i+1),by omega,i+1,_,q7,L7,rfl,rfl,rfl,rfl,by omega,by rw [zxg heq];exact hO7,by omega⟩)
  have hge_i:rows.length≤i:=by have h:=hc37;simp at h;omega
  rw [show i=rows.length by omega] at hO7
  refine QH (Qe (Qe (Qk (Qa (zR ?_)))))
  refine zV (Qd rfl QK (fun hg=>by exact zyq rfl)) ?_
  refine Qx (cap:=[]) (vs:=[_]) rfl rfl ziA (by repeat (first | exact .cons .here .nil | exact QD | exact Qw | apply QC | apply QA)) (zg6 hO7 (by omega) _) rfl rfl ?_
  rintro vv4 I4 L4 hI4 ⟨rfl,rfl,hO5⟩
  have hS:=hS.mono hI4;have hVn:=hVn.mono hI4;have hB2:=hB2.mono hI4;have hB3:=hB3.mono hI4;have hre:=hre.mono hI4;have hB0:=hB0.trans hI4
  refine zN (zR ?_)
  refine zV (Qd rfl QK (fun hg=>by (repeat (first | exact zyq rfl | apply zyp | apply zyr)))) ?_
  refine Qx (cap:=[]) (vs:=[_]) rfl rfl znG (by repeat (first | exact .cons .here .nil | exact QD | exact Qw | apply QC | apply QA)) (zf3 hO5 (by omega) _) rfl rfl ?_
  rintro vv5 I5 L5 hI5 ⟨rfl,hO6⟩
  have hS:=hS.mono hI5;have hVn:=hVn.mono hI5;have hB2:=hB2.mono hI5;have hB3:=hB3.mono hI5;have hre:=hre.mono hI5;have hB0:=hB0.trans hI5
  have hO6:OwnS 3 1 _ (stE rows l).length ((stE rows l).flatMap QP) _:=hO6
  obtain ⟨va6,vc6,rfl⟩:=zdh hO6
  refine ZG rfl rfl Zg rfl rfl (by (repeat (first | exact Upd.here | apply Upd.there | apply QI))) rfl ?_
  refine zN (zR ?_)
  refine Qr zvL rfl rfl (fun b_11=>?_)
  refine zN (zR ?_)
  refine zV (Zb (us:=[]) (vs:=[_,_,_,_,_]) rfl rfl) ?_
  refine zS zoW ?_
  refine zN (Ql ?_)
  refine Y4 hO6 Qv (by decide) (by repeat (first | exact .cons .here .nil | exact QD | exact Qw | apply QC | apply QA)) (fun I6 hI6 af6 cf6 ef6 hT9=>?_)
  cases ef6
  have hS:=hS.mono hI6;have hVn:=hVn.mono hI6;have hB2:=hB2.mono hI6;have hB3:=hB3.mono hI6;have hre:=hre.mono hI6;have hB0:=hB0.trans hI6
  refine Ze (b:=b_11) (by repeat (first | exact Q8.here | apply Q8.there)) (fun I7 hI7 hb7=>?_)
  have hS:=hS.mono hI7;have hVn:=hVn.mono hI7;have hB2:=hB2.mono hI7;have hB3:=hB3.mono hI7;have hre:=hre.mono hI7;have hT9:=hT9.mono hI7;have hB0:=hB0.trans hI7
  have hC11:QV I7 [] b_11 0 (.func (.func 93) #[] #[Za b_7,Za b_2,Za b_6,Za b_3,Za b_11]):=.imm hb7 rfl
  refine Ze (b:=b_7) (by repeat (first | exact Q8.here | apply Q8.there)) (fun I8 hI8 hb8=>?_)
  have hS:=hS.mono hI8;have hVn:=hVn.mono hI8;have hB2:=hB2.mono hI8;have hB3:=hB3.mono hI8;have hre:=hre.mono hI8;have hT9:=hT9.mono hI8;have hC11:=hC11.mono hI8;have hB0:=hB0.trans hI8
  have hC7:QV I8 [] b_7 0 (.slice va6 (stE rows l).length vc6):=.imm hb8 rfl
  refine Ze (b:=b_6) (by repeat (first | exact Q8.here | apply Q8.there)) (fun I9 hI9 hb9=>?_)
  have hS:=hS.mono hI9;have hVn:=hVn.mono hI9;have hB2:=hB2.mono hI9;have hB3:=hB3.mono hI9;have hre:=hre.mono hI9;have hT9:=hT9.mono hI9;have hC11:=hC11.mono hI9;have hC7:=hC7.mono hI9;have hB0:=hB0.trans hI9
  have hC6:QV I9 [] b_6 0 (.int .i64 l):=.imm hb9 rfl
  have hRE:RtE I9 93 b_7 b_2 b_6 b_3 b_11 va6 bv av (stE rows l).length vc6 rows.length c2 n c (stE rows l) xs rows l:=⟨hC7,hB2,hC6,hB3,hC11,hT9,hS,hVn⟩
  have hD:=zyv I9
  refine KJ mixed ?_
  refine zT 0 rfl (Qd rfl zhn (fun hg=>by exact hC11.any)) hD ?_
  refine zT 1 rfl (Qd rfl Ki (fun hg=>by exact hB2.any)) hD ?_
  refine zT 2 rfl (ZH rfl Zn) hD ?_
  refine zT 3 rfl (Xy rfl rfl (fun hg=>by omega)) hD ?_
  refine zT 4 rfl (ZS rfl rfl rfl (fun hg=>by omega)) hD ?_
  refine qd 5 rfl ?_
  refine Qx (cap:=[Za b_7,Za b_2,Za b_6,Za b_3,Za b_11]) (vs:=[_]) rfl rfl zna (by exact .nil) (zcK (I:=I9) hn hn2 (by omega) (fun r hr=>by rw [(hrr r hr).1];omega) hc0 64 I9 hRE (Y6 rows.length) (zh8 hc0) (by omega)) rfl rfl ?_
  rintro vv10 I10 L10 hI10 ⟨rfl,aA,cA,rfl,hAll⟩
  have hre:=hre.mono hI10;have hT9:=hT9.mono hI10;have hC7:=hC7.mono hI10;have hB0:=hB0.trans hI10;have hD:=hD.trans hI10
  have htl:(rcF (stE rows l) (uF rows l) xs 64 (Y6 rows.length)).length=(stE rows l).length:=ziK
  have hsp:=zg8 (rows:=rows) (l:=l)
  have hMin:=ztM (xs:=ziD rows xs l) hAll (by omega) (by omega)
  refine Qb ?_
  refine zD hD ?_
  refine zT 6 rfl (ZM rfl) hD ?_
  refine QF (by kernel_rfl) ?_
  refine QQ ?_
  refine Qa (zR (zM ?_))
  refine qc (vs:=[_]) rfl zmU (hMin) ?_
  refine zA ?_
  refine zN (zR ?_)
  refine zA (zN (Ql (zR ?_)))
  refine zV (Qd rfl QK (fun hg=>by exact hC7.any)) ?_
  refine zQ Qy ?_
  refine zM (zN (Qm ?_))
  refine zU [(2,_),(3,_),(4,_),(12,_),(13,_),(29,_),(30,_),(64,_),(65,_)] (fun T L0 mz E I' loc'=>∃ (i:Nat) (v14:Value) (q14:Nat) (L14:Go.Kn.Loc),mz=(stE rows l).length-i∧E=(14,v14)::(66,.int .i64 i)::T∧I10=I'∧L14++L=loc'∧i≤(stE rows l).length∧OwnS 3 1 v14 q14 ((((stE rows l).take i).filter fun x=>zoi rows xs l x==Yl (ziD rows xs l)).flatMap QP) L14∧q14≤i) ?_ (h:=⟨0,_,0,[],rfl,rfl,rfl,rfl,Nat.zero_le _,OwnS.nil,Nat.le_refl _⟩)
  rintro mz E I' loc' ⟨i,v14,q14,L14,rfl,rfl,rfl,rfl,hi,hO14,hq14⟩
  refine zR (zC (zN (Ql ?_)))
  refine zI ?_ ?_<;>intro hc67
  ·
   have hlt_i:i<(stE rows l).length:=by have h:=hc67;simp at h;omega
   obtain ⟨y,hst⟩:=hT9.at hlt_i
   have hax:(ziD rows xs l)[i]? =some (zoi rows xs l y):=by rw [zaY,List.getElem?_map,hst];rfl
   refine Qo (Qa (Ql (Qm (zR (zM ?_)))))
   refine zV (zX Qy hT9) ?_
   refine zV (Qd rfl Qt (fun hg=>by exact zyo hT9 hst rfl)) ?_
   refine zA ?_
   refine zA ?_
   refine zN (zR ?_)
   refine zM ?_
   refine zM ?_
   refine zV (zX Qy hAll) ?_
   refine zV (Qd rfl Qt (fun hg=>by exact zyo hAll hax rfl)) ?_
   refine zM ?_
   refine zC (zN ?_)
   refine zI ?_ ?_<;>intro hc76
   ·
    have hbf:(zoi rows xs l y==Yl (ziD rows xs l))=true:=hc76
    refine Qg (zM ?_)
    refine zM ?_
    refine Qq (ps:=[(0,_)]) (m:=[QP y]) Zf rfl (.cons rfl (.nil)) rfl (by simp [Qv]) (by decide) (by decide) rfl rfl (fun b_79=>?_)
    refine QW (v:=_) (ys:=[y].flatMap QP) (L:=L14) rfl rfl Zf hO14 (by repeat (first | exact .cons .here .nil | exact QD | exact Qw | apply QC | apply QA)) ⟨rfl,fun _=>rfl,by repeat (first | exact zyt | apply zys | apply zyu)⟩ (JG [y]) (by omega) rfl rfl ?_
    intro v9 L9 hO9 _;rw [←List.flatMap_append] at hO9
    refine zA (Qb (Qh (Qa (Qg ?_))))
    refine zB ?_
    refine zM (Qb ?_)
    first
    | exact zm (h:=⟨(stE rows l).length-(i+1),by omega,i+1,_,_,_,rfl,rfl,rfl,rfl,by omega,by rw [zlB hst hbf];exact hO9,by omega⟩)
   have hbf:(zoi rows xs l y==Yl (ziD rows xs l))=false:=hc76
   refine Qo (Qh (Qa (Qg (zB ?_))))
   refine zM (Qb ?_)
   first
   | exact zm (h:=⟨(stE rows l).length-(i+1),by omega,i+1,_,_,_,rfl,rfl,rfl,rfl,by omega,by rw [zro hst hbf];exact hO14,by omega⟩)
  have hge_i:(stE rows l).length≤i:=by have h:=hc67;simp at h;omega
  rw [List.take_of_length_le hge_i] at hO14
  obtain ⟨va14,vc14,rfl⟩:=zdh hO14
  have hrf:(stE rows l).filter (fun x=>zoi rows xs l x==Yl (ziD rows xs l))=Jz rows xs l:=rfl
  have hq9:q14=(Jz rows xs l).length:=by have h1:=hO14.1;rw [ZU Qv,hrf] at h1;omega
  subst hq9
  refine QH (Qe (Qe (Qk (Qa ?_))))
  refine Y4 hO14 Qv (by decide) (by repeat (first | exact .cons .here .nil | exact QD | exact Qw | apply QC | apply QA)) (fun I12 hI12 af12 cf12 ef12 hR14=>?_)
  cases ef12
  have hre:=hre.mono hI12;have hB0:=hB0.trans hI12
  refine Qg (zM ?_)
  refine zM ?_
  refine Qq (ps:=[(0,_)]) (m:=[WD ⟨va14,(Jz rows xs l).length,vc14⟩]) zag rfl (.cons rfl (.nil)) rfl (by simp [Q7]) (by decide) (by decide) rfl rfl (fun b_84=>?_)
  refine QW (v:=_) (ys:=[(⟨va14,(Jz rows xs l).length,vc14⟩:Hd)].flatMap WD) (L:=L) rfl rfl zag hO4 (by repeat (first | exact .cons .here .nil | exact QD | exact Qw | apply QC | apply QA)) ⟨rfl,fun _=>rfl,by repeat (first | exact zyt | apply zys | apply zyu)⟩ (zs7 _) (by omega) rfl rfl ?_
  intro v8 L8 hO8 _;rw [←List.flatMap_append] at hO8
  refine zA (Qb (Qh (Qa (Qg ?_))))
  refine zB ?_
  refine zM (Qb ?_)
  exact zm (h:=⟨x0.n-(l+1),by omega,l+1,_,_,_,rfl,rfl,hB0,rfl,by omega,hO8,by rw [Xt];exact hre.snoc (hd:=⟨va14,(Jz rows xs l).length,vc14⟩) (by rw [←hrf];exact hR14)⟩)
 have hge_l:l=x0.n:=by have h:=hc31;simp at h;omega
 refine QH (Qe (Qe (Qk (Qa (zR (zM ?_))))))
 refine zA ?_
 refine zA (zN (Qs ?_))
 first
 | exact Zo rfl rfl rfl (fun w hw=>by obtain ⟨I9,av9,c9,h1',h2',e9,h4'⟩:=OwnS.freeze (R:=[]) hO4 Q7 (by decide) (by rw [List.append_nil];exact hw);cases e9;exact ⟨_,I9,[],rfl,hIc.trans h1',h2',rfl,va4,vc4,by rw [Xg hcE,List.length_map,List.length_range,hg0,hx0l,hcE,←hge_l],by rw [Xg hcE,List.length_map,List.length_range,hg0,hx0l,←hge_l];exact ⟨os,h4',hre.mono h1'⟩⟩)
end
section
open Go Go.Kn Go.Proofs
theorem zvt:Fun Tryz.prog 62:=.of Tryz.func62 (by kernel_rfl) (by kernel_rfl)
theorem K7:SlT Tryz.prog 24 67 3:=.of (by kernel_rfl)
theorem zrh {I:Qu}{bv:Option Addr}{n2 c2:Nat}{rows:List (List Int)}(hV:SlN I bv n2 c2 rows)(av:Option Addr)(n c:Nat)(ev:Option Addr)(n4 c4:Nat):Zx Tryz.prog 29 [.slice bv n2 c2,.slice av n c,.slice ev n4 c4] I (.bool (zki rows&&decide ((n:Int)≤40)&&decide ((n4:Int)≤40))):=by
 intro g H w hw
 refine qe Tryz.func29 Tryz.ntmps29 hw ?_
 refine zR (zA ?_)
 refine zN (zR ?_)
 refine zM ?_
 refine qc (vs:=[_]) rfl zvt (zxO hV) ?_
 refine zA ?_
 refine zN (zR ?_)
 refine zM ?_
 refine zM ?_
 refine QG 1 rfl rfl rfl ?_
 refine zK (Qi rfl) ?_
 refine zK (ZH rfl Qy) ?_
 refine zK (QJ rfl rfl rfl) ?_
 refine QO rfl rfl rfl rfl rfl ?_
 refine zM ?_
 refine QG 6 rfl rfl rfl ?_
 refine zK (Qi rfl) ?_
 refine zK (ZH rfl K7) ?_
 refine zK (QJ rfl rfl rfl) ?_
 refine QO rfl rfl rfl rfl rfl ?_
 refine zA (zN (Qs ?_))
 exact zr rfl rfl (by cases zki rows<;>cases decide ((n:Int)≤40)<;>rfl)
end
section
open Go Go.Kn Go.Proofs
structure Dg where
 n:Int
 lo:Int
 hi:Int
 b:Int
def zhl (d:Dg):List Value:=[.int .i64 d.n,.int .i64 d.lo,.int .i64 d.hi,.int .i64 d.b]
theorem zfj (d:Dg):(zhl d).length=4:=rfl
def zvX (d:Dg):Bool:=decide (d.n<d.lo)||decide (d.n>d.hi)
def zvV (c:Int)(d:Dg):Int:=orI (IntKind.i64.wrap (c*2^(min d.b.toNat IntKind.i64.bits))) d.n
def Kb (c:Int):List Dg→Option Int
 | []=>some c
 | d::ds=>if zvX d=true then none else Kb (zvV c d) ds
theorem zlv {c:Int}{ds:List Dg}{k:Nat}{d:Dg}(h:ds[k]? =some d)(hb:zvX d=true):Kb c (ds.drop k)=none:=by
 rw [Z4 h];unfold Kb;rw [if_pos hb]
theorem zjL {c:Int}{ds:List Dg}{k:Nat}{d:Dg}(h:ds[k]? =some d)(hb:zvX d=false):Kb c (ds.drop k)=Kb (zvV c d) (ds.drop (k+1)):=by
 rw [Z4 h]
 show (if zvX d=true then none else Kb (zvV c d) (ds.drop (k+1)))=_
 rw [if_neg (by rw [hb];decide)]
theorem zlj {c:Int}{ds:List Dg}{k:Nat}(h:ds.length≤k):Kb c (ds.drop k)=some c:=by rw [List.drop_eq_nil_of_le h];rfl
end
section
open Go Go.Kn Go.Proofs
theorem zri:AgT Tryz.prog 165 4:=.of (by kernel_rfl)
theorem X1:QX Tryz.prog 165 0 0:=.of (by kernel_rfl)
theorem zg7:QX Tryz.prog 165 1 1:=.of (by kernel_rfl)
theorem zj0:QX Tryz.prog 165 2 2:=.of (by kernel_rfl)
theorem zj2:QX Tryz.prog 165 3 3:=.of (by kernel_rfl)
theorem zik:SlT Tryz.prog 218 165 4:=.of (by kernel_rfl)
theorem zqt:SzT Tryz.prog 165 4:=.of (by kernel_rfl)
theorem zuA:Yn Tryz.prog 165 (.agg #[(.int .i64 0),(.int .i64 0),(.int .i64 0),(.int .i64 0)]):=.of (by kernel_rfl)
theorem zuR {I:Qu}{av:Option Addr}{n c:Nat}{ds:List Dg}(hS:Sl I 4 zhl av n c ds)(hn:n≤100000)(hb:∀ d∈ds,0≤d.b):Zx Tryz.prog 85 [.slice av n c] I (.tuple #[.int .i64 ((Kb 0 ds).getD 0),.bool (Kb 0 ds).isSome]):=by
 intro g H w hw
 refine qe Tryz.func85 Tryz.ntmps85 hw ?_
 refine zR (zA ?_)
 refine zA (zN (Ql (zR ?_)))
 refine zM ?_
 refine zQ zik ?_
 refine zM (zN (Qm ?_))
 refine zU [(6,_),(7,_)] (fun T L0 mz E I' loc'=>∃ (k:Nat) (a:Int),mz=n-k∧E=(2,.int .i64 a)::(8,.int .i64 k)::T∧I=I'∧[]=loc'∧k≤n∧Kb 0 ds=Kb a (ds.drop k)) ?_ (h:=⟨0,0,rfl,rfl,rfl,rfl,Nat.zero_le _,rfl⟩)
 rintro mz E I' loc' ⟨k,a,rfl,rfl,rfl,rfl,hk,hpk⟩
 refine zR (zC (zN (Ql ?_)))
 refine zI ?_ ?_<;>intro hc9
 ·
  have hlt_k:k<n:=by have h:=hc9;simp at h;omega
  obtain ⟨d,hd⟩:=hS.at hlt_k
  have hbd:=hb d (List.mem_of_getElem? hd)
  refine Qo (Qa (Ql (Qm (zR ?_))))
  refine zV (zX zik hS) ?_
  refine zV (Qp rfl zri (fun hg=>by exact zyw hS hd) rfl) ?_
  refine Qr zuA rfl rfl (fun b_5=>?_)
  refine zh zqt ?_
  refine zN (Ql (zR ?_))
  refine zF X1 ?_
  refine zL Qt ?_
  refine zF zg7 ?_
  refine zL Qt ?_
  refine zC ?_
  refine zM ?_
  refine Q0 5 rfl rfl rfl ?_
  refine zJ (Qf rfl X1) ?_
  refine zJ (Qd rfl Qt (fun hg=>by exact QV.h0 rfl)) ?_
  refine zJ (Qf rfl zj0) ?_
  refine zJ (Qd rfl Qt (fun hg=>by exact QV.h0 rfl)) ?_
  refine zJ (QJ rfl rfl rfl) ?_
  refine ZA rfl rfl rfl rfl rfl ?_
  refine zN ?_
  refine zI ?_ ?_<;>intro hc23
  ·
   rw [zlv hd hc23] at hpk
   refine zR (zA ?_)
   refine zA (zN (Qs (Qc (Qn (Qc (Qc (Qn ?_)))))))
   refine Qc ?_
   first
   | exact Zo rfl rfl rfl (fun w hw=>⟨by rw [hpk];rfl,hw.drop⟩)
  refine Qo (Qa ?_)
  refine Va mixed (by kernel_rfl) ?_
  refine zq (Qi rfl) ?_
  refine zq (Qf rfl zj2) ?_
  refine zq (Qd rfl Qt (fun hg=>by exact QV.h0 rfl)) ?_
  refine zq (Xy rfl rfl (fun hg=>by exact hbd)) ?_
  refine zq (Qf rfl X1) ?_
  refine zq (Qd rfl Qt (fun hg=>by exact QV.h0 rfl)) ?_
  refine zq (zwH rfl rfl) ?_
  refine zq (ZM rfl) ?_
  refine Vc ?_
  refine Qh (Qa (Qg (zB ?_)))
  refine zM (Qb ?_)
  exact zm (h:=⟨n-(k+1),by omega,k+1,zvV a d,rfl,rfl,rfl,rfl,by omega,by rw [hpk,zjL hd hc23]⟩)
 have hge_k:n≤k:=by have h:=hc9;simp at h;omega
 rw [zlj (by rw [hS.len];exact hge_k)] at hpk
 refine QH (Qe (Qe (Qk (Qa (zR (zM ?_))))))
 refine zA ?_
 refine zA (zN (Qs ?_))
 first
 | exact Zo rfl rfl rfl (fun w hw=>⟨by rw [hpk];rfl,hw.drop⟩)
end
section
open Go Go.Kn Go.Proofs
structure Sg where
 id:Int
 role:Int
 bar:Int
 mark:Int
 kind:Int
 side:Int
 dir:Int
 level:Int
 size:Int
 wth:Int
 fn:Int
 fd:Int
 tn:Int
 td:Int
def YZ (x:Sg):List Value:=[.int .i64 x.id,.int .i64 x.role,.int .i64 x.bar,.int .i64 x.mark,.int .i64 x.kind,.int .i64 x.side,.int .i64 x.dir,.int .i64 x.level,.int .i64 x.size,.int .i64 x.wth,.int .i64 x.fn,.int .i64 x.fd,.int .i64 x.tn,.int .i64 x.td]
def JT (x:Sg):Value:=.agg (YZ x).toArray
theorem Z5 (x:Sg):(YZ x).length=14:=rfl
def dgs (x:Sg):List Dg:=[⟨x.role,0,63,6⟩,⟨x.kind,1,9,4⟩,⟨x.side,0,2,2⟩,⟨x.dir,0,8,4⟩,⟨x.level,0,3,2⟩,⟨x.size,0,255,8⟩,⟨x.wth,0,64,7⟩]
theorem zwg (x:Sg):∀ d∈dgs x,0≤d.b:=fun d h=>by
 unfold dgs at h
 simp only [List.mem_cons,List.not_mem_nil,or_false] at h
 rcases h with rfl | rfl | rfl | rfl | rfl | rfl | rfl<;>simp
def zgQ (x:Sg):Int:=(Kb 0 (dgs x)).getD 0
def zd0 (x:Sg):Int:=if (Kb 0 (dgs x)).isSome=true then 0 else 410
theorem zpH {x:Sg}(h:(Kb 0 (dgs x)).isSome=false):zgQ x=0∧zd0 x=410:=by
 have:Kb 0 (dgs x)=none:=by cases hp:Kb 0 (dgs x) with
  | none=>rfl
  | some c=>rw [hp] at h;cases h
 unfold zgQ zd0
 rw [this];exact ⟨rfl,rfl⟩
theorem zk6 {x:Sg}(h:(Kb 0 (dgs x)).isSome=true):zd0 x=0:=by unfold zd0;rw [if_pos h]
end
section
open Go Go.Kn Go.Proofs
theorem zpi:ElT Tryz.prog 218 165 4 32:=.of (by kernel_rfl)
theorem JX:QX Tryz.prog 54 1 1:=.of (by kernel_rfl)
theorem W7:QX Tryz.prog 54 4 4:=.of (by kernel_rfl)
theorem JZ:QX Tryz.prog 54 5 5:=.of (by kernel_rfl)
theorem JY:QX Tryz.prog 54 6 6:=.of (by kernel_rfl)
theorem JV:QX Tryz.prog 54 7 7:=.of (by kernel_rfl)
theorem JR:QX Tryz.prog 54 8 8:=.of (by kernel_rfl)
theorem JP:QX Tryz.prog 54 9 9:=.of (by kernel_rfl)
theorem ztv:Fun Tryz.prog 85:=.of Tryz.func85 (by kernel_rfl) (by kernel_rfl)
theorem Un:PlT Tryz.prog 165 #[(0,1),(1,1),(2,1),(3,1)] (.agg #[(.int .i64 0),(.int .i64 0),(.int .i64 0),(.int .i64 0)]):=⟨.of (by kernel_rfl),by kernel_rfl,fun w=>by kernel_rfl⟩
theorem znU (I:Qu)(x:Sg):Zx Tryz.prog 47 [JT x] I (.tuple #[.int .i64 (zgQ x),.int .i64 (zd0 x)]):=by
 intro g H w hw
 refine qe Tryz.func47 Tryz.ntmps47 hw ?_
 have hIc:=zyv I
 refine zR ?_
 refine Q5 rfl rfl rfl (fun b_1=>?_)
 refine zA ?_
 refine zA ?_
 refine zN (zR ?_)
 refine zF JX ?_
 refine zL Qt ?_
 refine zV (QR (ps:=[(0,_),(1,_),(2,_),(3,_)]) [_,_,_,_] Un rfl rfl) ?_
 refine zF W7 ?_
 refine zL Qt ?_
 refine zV (QR (ps:=[(0,_),(1,_),(2,_),(3,_)]) [_,_,_,_] Un rfl rfl) ?_
 refine zF JZ ?_
 refine zL Qt ?_
 refine zV (QR (ps:=[(0,_),(1,_),(2,_),(3,_)]) [_,_,_,_] Un rfl rfl) ?_
 refine zF JY ?_
 refine zL Qt ?_
 refine zV (QR (ps:=[(0,_),(1,_),(2,_),(3,_)]) [_,_,_,_] Un rfl rfl) ?_
 refine zF JV ?_
 refine zL Qt ?_
 refine zV (QR (ps:=[(0,_),(1,_),(2,_),(3,_)]) [_,_,_,_] Un rfl rfl) ?_
 refine zF JR ?_
 refine zL Qt ?_
 refine zV (QR (ps:=[(0,_),(1,_),(2,_),(3,_)]) [_,_,_,_] Un rfl rfl) ?_
 refine zF JP ?_
 refine zL Qt ?_
 refine zV (QR (ps:=[(0,_),(1,_),(2,_),(3,_)]) [_,_,_,_] Un rfl rfl) ?_
 refine Qq (ps:=[(0,_),(1,_),(2,_),(3,_),(4,_),(5,_),(6,_)]) (m:=[zhl ⟨x.role,0,63,6⟩,zhl ⟨x.kind,1,9,4⟩,zhl ⟨x.side,0,2,2⟩,zhl ⟨x.dir,0,8,4⟩,zhl ⟨x.level,0,3,2⟩,zhl ⟨x.size,0,255,8⟩,zhl ⟨x.wth,0,64,7⟩]) zpi rfl (.cons rfl (.cons rfl (.cons rfl (.cons rfl (.cons rfl (.cons rfl (.cons rfl (.nil)))))))) rfl (by simp [zfj]) (by decide) (by decide) rfl rfl (fun b_27=>?_)
 refine ZR (b:=b_27) (by repeat (first | exact Q8.here | apply Q8.there)) (fun I1 hI1 hb1=>?_)
 have hIc:=hIc.trans hI1
 have hDg:Sl I1 4 zhl (some ⟨b_27,0,none⟩) 7 7 (dgs x):=Sl.lit (dgs x) rfl zfj (show _=some (Obj.cells ((dgs x).flatMap zhl).toArray 165 (0,0)) from hb1)
 refine qc (vs:=[_]) rfl ztv (zuR hDg (by decide) (zwg x)) ?_
 refine zM ?_
 refine zE ?_
 refine zE ?_
 refine zA ?_
 refine zA (zN (Ql (zR ?_)))
 refine zM ?_
 refine zO (zN ?_)
 refine zI ?_ ?_<;>intro hc32
 ·
  have hp0:(Kb 0 (dgs x)).isSome=false:=by simpa using hc32
  obtain ⟨k1,k2⟩:=zpH hp0
  refine zR (zA ?_)
  refine zA (zN (Qs (Qc ?_)))
  exact Zo rfl rfl rfl (fun w hw=>⟨by rw [k1,k2],(hw.mono hIc).drop⟩)
 have hp0:(Kb 0 (dgs x)).isSome=true:=by simpa using hc32
 have k2:=zk6 hp0
 refine Qo (Qa (zR (zM ?_)))
 refine zA ?_
 refine zA (zN (Qs ?_))
 first
 | exact Zo rfl rfl rfl (fun w hw=>⟨by rw [k2];rfl,(hw.mono hIc).drop⟩)
end
section
open Go Go.Kn Go.Proofs
theorem zkY:((List.range 9).all fun b=>decide (0≤IntKind.i64.wrap (1*2^(min ((b:Nat):Int).toNat IntKind.i64.bits))∧IntKind.i64.wrap (1*2^(min ((b:Nat):Int).toNat IntKind.i64.bits))≤256))=true:=by kernel_rfl
theorem zpT {b:Nat}(h:b≤8):0≤IntKind.i64.wrap (1*2^(min ((b:Nat):Int).toNat IntKind.i64.bits))∧IntKind.i64.wrap (1*2^(min ((b:Nat):Int).toNat IntKind.i64.bits))≤256:=of_decide_eq_true (List.all_eq_true.1 zkY b (List.mem_range.2 (by omega)))
theorem zpq (I:Qu)(r:Nat)(c:Int)(b:Nat)(hb:b≤8):Yc Tryz.prog 46 [.int .i64 b,Za r] I [(r,.cells #[.int .i64 c] 3 (0,0))] (fun v I' L'=>v= .int .i64 (K4 c (IntKind.i64.wrap (1*2^(min (b:Int).toNat IntKind.i64.bits))-1))∧I'=I∧L'=[(r,.cells #[.int .i64 (c.fdiv (2^(min (b:Int).toNat IntKind.i64.bits)))] 3 (0,0))]):=by
 intro g H w hw
 refine qe Tryz.func46 Tryz.ntmps46 hw ?_
 have hmb:=zpT hb
 refine zR (zA (zN (Ql ?_)))
 refine Va mixed (by kernel_rfl) ?_
 refine zq (Qd rfl Qt (fun hg=>by exact QV.h0 rfl)) ?_
 refine zq (Qi rfl) ?_
 refine zq (Xy rfl rfl (fun hg=>by omega)) ?_
 refine zq (ZS rfl rfl rfl (fun _=>by omega)) ?_
 refine zq (XR rfl rfl) ?_
 refine zq (ZM rfl) ?_
 refine Vc ?_
 refine Qa (zR ?_)
 refine zL Qt ?_
 refine zM ?_
 refine zV (zhv rfl rfl (by omega) rfl) ?_
 refine zS Yf ?_
 refine zN (zR ?_)
 refine zM ?_
 refine zA (zN (Qs ?_))
 exact Zt rfl rfl (fun w hw=>⟨_,I,_,rfl,zyv _,hw,rfl,rfl,rfl⟩)
end
section
open Go Go.Kn Go.Proofs
def lbN (b:Nat)(c:Int):Int:=K4 c (IntKind.i64.wrap (1*2^(min (b:Int).toNat IntKind.i64.bits))-1)
def shN (b:Nat)(c:Int):Int:=c.fdiv (2^(min (b:Int).toNat IntKind.i64.bits))
def ztK (c:Int):Sg:=⟨0,shN 4 (shN 2 (shN 4 (shN 2 (shN 8 (shN 7 c))))),0,0,lbN 4 (shN 2 (shN 4 (shN 2 (shN 8 (shN 7 c))))),lbN 2 (shN 4 (shN 2 (shN 8 (shN 7 c)))),lbN 4 (shN 2 (shN 8 (shN 7 c))),lbN 2 (shN 8 (shN 7 c)),lbN 8 (shN 7 c),lbN 7 c,0,0,0,0⟩
def zk8:Sg:=⟨0,0,0,0,0,0,0,0,0,0,0,0,0,0⟩
def Uv (c:Int):Int:=zd0 (ztK c)
def zg2 (c:Int):Sg:=if Uv c≠0 then zk8 else ztK c
end
section
open Go Go.Kn Go.Proofs
theorem ZK:AgT Tryz.prog 54 14:=.of (by kernel_rfl)
theorem zaE:Fun Tryz.prog 46:=.of Tryz.func46 (by kernel_rfl) (by kernel_rfl)
theorem zn8:Fun Tryz.prog 47:=.of Tryz.func47 (by kernel_rfl) (by kernel_rfl)
theorem UF:PlT Tryz.prog 54 #[(0,1),(1,1),(2,1),(3,1),(4,1),(5,1),(6,1),(7,1),(8,1),(9,1),(10,2),(12,2)] (.agg #[(.int .i64 0),(.int .i64 0),(.int .i64 0),(.int .i64 0),(.int .i64 0),(.int .i64 0),(.int .i64 0),(.int .i64 0),(.int .i64 0),(.int .i64 0),(.int .i64 0),(.int .i64 0),(.int .i64 0),(.int .i64 0)]):=⟨.of (by kernel_rfl),by kernel_rfl,fun w=>by kernel_rfl⟩
theorem VG:SzT Tryz.prog 54 14:=.of (by kernel_rfl)
theorem WW:Yn Tryz.prog 54 (.agg #[(.int .i64 0),(.int .i64 0),(.int .i64 0),(.int .i64 0),(.int .i64 0),(.int .i64 0),(.int .i64 0),(.int .i64 0),(.int .i64 0),(.int .i64 0),(.int .i64 0),(.int .i64 0),(.int .i64 0),(.int .i64 0)]):=.of (by kernel_rfl)
theorem Wi (I:Qu)(r:Nat)(c:Int)(b:Nat)(hb:b≤8):Yc Tryz.prog 46 [.int .i64 b,Za r] I [(r,.cells #[.int .i64 c] 3 (0,0))] (fun v I' L'=>v= .int .i64 (lbN b c)∧I'=I∧L'=[(r,.cells #[.int .i64 (shN b c)] 3 (0,0))]):=zpq I r c b hb
set_option maxHeartbeats 1600000 in
theorem zhS (I:Qu) (c:Int):Zx Tryz.prog 23 [.int .i64 c] I (.tuple #[JT (zg2 c),.int .i64 (Uv c)]):=by
 intro g H w hw
 refine qe Tryz.func23 Tryz.ntmps23 hw ?_
 have hIc:=zyv I
 refine zR ?_
 refine Qr WW rfl rfl (fun b_2=>?_)
 refine zA ?_
 refine zN (zR ?_)
 refine zM ?_
 refine Qr zuB rfl rfl (fun b_4=>?_)
 refine zS Yf ?_
 refine zN (zR ?_)
 refine zV (Zb (us:=[]) (vs:=[_]) rfl rfl) ?_
 refine zA ?_
 refine zN (zR ?_)
 refine zM ?_
 refine Qx (cap:=[Za b_4]) (vs:=[_]) rfl rfl zaE (by repeat (first | exact .cons .here .nil | exact QD | exact Qw | apply QC | apply QA)) (Wi _ b_4 c 7 (by decide)) rfl rfl ?_
 rintro vv1 I1 L1 hI1 ⟨rfl,rfl,rfl⟩
 have hIc:=hIc.trans hI1
 refine zF JP ?_
 refine zS Yf ?_
 refine zN (zR ?_)
 refine zM ?_
 refine Qx (cap:=[Za b_4]) (vs:=[_]) rfl rfl zaE (by repeat (first | exact .cons .here .nil | exact QD | exact Qw | apply QC | apply QA)) (Wi _ b_4 (shN 7 c) 8 (by decide)) rfl rfl ?_
 rintro vv2 I2 L2 hI2 ⟨rfl,rfl,rfl⟩
 have hIc:=hIc.trans hI2
 refine zF JR ?_
 refine zS Yf ?_
 refine zN (zR ?_)
 refine zM ?_
 refine Qx (cap:=[Za b_4]) (vs:=[_]) rfl rfl zaE (by repeat (first | exact .cons .here .nil | exact QD | exact Qw | apply QC | apply QA)) (Wi _ b_4 (shN 8 (shN 7 c)) 2 (by decide)) rfl rfl ?_
 rintro vv3 I3 L3 hI3 ⟨rfl,rfl,rfl⟩
 have hIc:=hIc.trans hI3
 refine zF JV ?_
 refine zS Yf ?_
 refine zN (zR ?_)
 refine zM ?_
 refine Qx (cap:=[Za b_4]) (vs:=[_]) rfl rfl zaE (by repeat (first | exact .cons .here .nil | exact QD | exact Qw | apply QC | apply QA)) (Wi _ b_4 (shN 2 (shN 8 (shN 7 c))) 4 (by decide)) rfl rfl ?_
 rintro vv4 I4 L4 hI4 ⟨rfl,rfl,rfl⟩
 have hIc:=hIc.trans hI4
 refine zF JY ?_
 refine zS Yf ?_
 refine zN (zR ?_)
 refine zM ?_
 refine Qx (cap:=[Za b_4]) (vs:=[_]) rfl rfl zaE (by repeat (first | exact .cons .here .nil | exact QD | exact Qw | apply QC | apply QA)) (Wi _ b_4 (shN 4 (shN 2 (shN 8 (shN 7 c)))) 2 (by decide)) rfl rfl ?_
 rintro vv5 I5 L5 hI5 ⟨rfl,rfl,rfl⟩
 have hIc:=hIc.trans hI5
 refine zF JZ ?_
 refine zS Yf ?_
 refine zN (zR ?_)
 refine zM ?_
 refine Qx (cap:=[Za b_4]) (vs:=[_]) rfl rfl zaE (by repeat (first | exact .cons .here .nil | exact QD | exact Qw | apply QC | apply QA)) (Wi _ b_4 (shN 2 (shN 4 (shN 2 (shN 8 (shN 7 c))))) 4 (by decide)) rfl rfl ?_
 rintro vv6 I6 L6 hI6 ⟨rfl,rfl,rfl⟩
 have hIc:=hIc.trans hI6
 refine zF W7 ?_
 refine zS Yf ?_
 refine zN (zR ?_)
 refine zL Qt ?_
 refine zF JX ?_
 refine zS Yf ?_
 refine zN (Ql (zR ?_))
 refine zV (Qp rfl ZK (fun hg=>by exact Cells.g1) rfl) ?_
 refine qc (vs:=[_]) rfl zn8 (znU _ (ztK c)) ?_
 refine zM ?_
 refine zE ?_
 refine zE ?_
 refine zA ?_
 refine zN (zR ?_)
 refine zM ?_
 refine zC (zN ?_)
 refine zI ?_ ?_<;>intro hc34
 ·
  have he:Uv c≠0:=by unfold Uv;simpa using hc34
  have k1:zg2 c=zk8:=if_pos he
  have he9:Uv c=zd0 (ztK c):=rfl
  refine zR ?_
  refine zV (QR (ps:=[]) [_,_,_,_,_,_,_,_,_,_,_,_,_,_] UF rfl rfl) ?_
  refine zM ?_
  refine zh VG ?_
  refine zA (zN (Qs (Qc ?_)))
  exact Zv rfl rfl rfl ZK (by repeat (first | exact zyt | apply zys)) rfl (fun w hw=>⟨by rw [k1,he9];rfl,(hw.mono hIc).drop⟩)
 have he:Uv c=0:=by unfold Uv;simpa using hc34
 have k1:zg2 c=ztK c:=if_neg (by omega)
 have he9:=he
 refine Qo (Qa (zR ?_))
 refine zV (Qp rfl ZK (fun hg=>by exact Cells.g1) rfl) ?_
 refine zh VG ?_
 refine zA (zN (Qs ?_))
 exact Zv rfl rfl rfl ZK (by repeat (first | exact zyt | apply zys)) rfl (fun w hw=>⟨by rw [k1,he9];rfl,(hw.mono hIc).drop⟩)
end
section
open Go Go.Kn Go.Proofs
def zeN (x y:Int):Int:=if (x != y&&x != 8589934592&&y != 8589934592)=true then 3 else 0
end
section
open Go Go.Kn Go.Proofs
theorem zft (I:Qu)(x y:Int):Zx Tryz.prog 104 [.int .i64 x,.int .i64 y] I (.int .i64 (zeN x y)):=by
 intro g H w hw
 refine qe Tryz.func104 Tryz.ntmps104 hw ?_
 refine zR (zA (zN (Ql (zR ?_))))
 refine zM ?_
 refine zM ?_
 refine zC ?_
 refine zM ?_
 refine QG 3 rfl rfl rfl ?_
 refine zK (Qi rfl) ?_
 refine zK (QJ rfl rfl rfl) ?_
 refine QO rfl rfl rfl rfl rfl ?_
 refine zM ?_
 refine QG 7 rfl rfl rfl ?_
 refine zK (Qi rfl) ?_
 refine zK (QJ rfl rfl rfl) ?_
 refine QO rfl rfl rfl rfl rfl ?_
 refine zN ?_
 refine zI ?_ ?_<;>intro hc15
 ·
  refine zR (zA (zN (Qs (Qc ?_))))
  first
  | exact zr rfl rfl (by unfold zeN;rw [if_pos (by assumption)])
 refine Qo (Qa (zR (zA (zN (Qs ?_)))))
 first
 | exact zr rfl rfl (by unfold zeN;rw [if_neg (by simp_all)])
end
section
open Go Go.Kn Go.Proofs
structure Rd where
 lost:Bool
 sg:Sg
def JM (r:Rd):List Value:=.bool r.lost::YZ r.sg
theorem Zq (r:Rd):(JM r).length=15:=rfl
def Kq (r:Rd):Int:=if r.lost=true then 8589934592 else zgQ r.sg
end
section
open Go Go.Kn Go.Proofs
theorem ze0:AgT Tryz.prog 60 15:=.of (by kernel_rfl)
theorem V3:QX Tryz.prog 60 0 0:=.of (by kernel_rfl)
theorem Jv:QX Tryz.prog 60 1 1:=.of (by kernel_rfl)
theorem UR:QX Tryz.prog 65 2 2:=.of (by kernel_rfl)
theorem zbc:ScT Tryz.prog 4:=.of (by kernel_rfl)
theorem zcP:ScT Tryz.prog 63:=.of (by kernel_rfl)
theorem XF:SlT Tryz.prog 63 60 15:=.of (by kernel_rfl)
theorem zeR:SzT Tryz.prog 60 15:=.of (by kernel_rfl)
theorem zln:Yn Tryz.prog 60 (.agg #[(.bool false),(.int .i64 0),(.int .i64 0),(.int .i64 0),(.int .i64 0),(.int .i64 0),(.int .i64 0),(.int .i64 0),(.int .i64 0),(.int .i64 0),(.int .i64 0),(.int .i64 0),(.int .i64 0),(.int .i64 0),(.int .i64 0)]):=.of (by kernel_rfl)
theorem Yo {I:Qu}{av:Option Addr}{n c:Nat}{rs:List Rd}(hR:Sl I 15 JM av n c rs)(hn:n≤100000)(no yr:Int):Yc Tryz.prog 59 [.agg #[.int .i64 no,.int .i64 yr,.slice av n c]] I [] (zbG 1 QP (rs.map Kq)):=by
 intro g H w hw
 refine qe Tryz.func59 Tryz.ntmps59 hw ?_
 have hIc:=zyv I
 refine zR ?_
 refine Q5 rfl rfl rfl (fun b_1=>?_)
 refine zA (zN (Ql (Ql ?_)))
 refine Vv (fun I1 hI1 hall=>?_)
 have hR:=hR.mono hI1;have hIc:=hIc.trans hI1
 have hCw:QV I1 [] b_1 2 (.slice av n c):=.imm (hall _ _ (by repeat (first | exact List.mem_cons_self .. | apply List.mem_cons_of_mem))) rfl
 refine Qg ?_
 refine zF UR ?_
 refine zV (Qd rfl zcP (fun hg=>by exact hCw.any)) ?_
 refine zQ XF ?_
 refine zM (zN (Qm ?_))
 refine zU [(7,_),(8,_)] (fun T L0 mz E I' loc'=>∃ (k:Nat) (v2:Value) (L:Go.Kn.Loc),mz=n-k∧E=(2,v2)::(9,.int .i64 k)::T∧I1=I'∧L=loc'∧k≤n∧OwnS 3 1 v2 k (((rs.take k).map Kq).flatMap QP) L) ?_ (h:=⟨0,_,[],rfl,rfl,rfl,rfl,Nat.zero_le _,OwnS.nil⟩)
 rintro mz E I' loc' ⟨k,v2,L,rfl,rfl,rfl,rfl,hk,hO⟩
 refine zR (zC (zN (Ql ?_)))
 refine zI ?_ ?_<;>intro hc10
 ·
  have hlt_k:k<n:=by have h:=hc10;simp at h;omega
  obtain ⟨r,hr⟩:=hR.at hlt_k
  refine Qo (Qa (Ql (Qm (zR ?_))))
  refine zV (zX XF hR) ?_
  refine zV (Qp rfl ze0 (fun hg=>by exact zyw hR hr) rfl) ?_
  refine Qr zln rfl rfl (fun b_4=>?_)
  refine zh zeR ?_
  refine zN (zR ?_)
  refine zA (zN (Ql (zR ?_)))
  refine zF V3 ?_
  refine zV (Qd rfl zbc (fun hg=>by exact zyq rfl)) ?_
  refine zO (zN ?_)
  refine zI ?_ ?_<;>intro hc15
  ·
   have hlo:Kq r=zgQ r.sg:=by unfold Kq;rw [if_neg (by simpa using hc15)]
   refine Qg ?_
   refine zF Jv ?_
   refine zV (Qp rfl ZK (fun hg=>by exact Cells.s0 (vs:=[_,_,_,_,_,_,_,_,_,_,_,_,_,_]) rfl) rfl) ?_
   refine qc (vs:=[_]) rfl zn8 (znU _ r.sg) ?_
   refine zM ?_
   refine zE ?_
   refine zE ?_
   refine zA (Qb ?_)
   rw [←hlo]
   refine Qa (Qg (zM ?_))
   refine zM ?_
   refine Qq (ps:=[(0,_)]) (m:=[QP (Kq r)]) Zf rfl (.cons rfl (.nil)) rfl (by simp [Qv]) (by decide) (by decide) rfl rfl (fun b_24=>?_)
   refine QW (v:=_) (ys:=[Kq r].flatMap QP) (L:=L) rfl rfl Zf hO (by repeat (first | exact .cons .here .nil | exact QD | exact Qw | apply QC | apply QA)) ⟨rfl,fun _=>rfl,by repeat (first | exact zyt | apply zys | apply zyu)⟩ (JG [Kq r]) (by omega) rfl rfl ?_
   intro v9 L9 hO9 _;rw [←List.flatMap_append] at hO9
   refine zA (Qb (Qh (Qa (Qg ?_))))
   refine zB ?_
   refine zM (Qb ?_)
   exact zm (h:=⟨n-(k+1),by omega,k+1,_,_,rfl,rfl,rfl,rfl,by omega,by rw [Xd hr];exact hO9⟩)
  have hlo:Kq r=8589934592:=by unfold Kq;rw [if_pos (by simpa using hc15)]
  rw [←hlo]
  refine Qo (Qa (Qg (zM ?_)))
  refine zM ?_
  refine Qq (ps:=[(0,_)]) (m:=[QP (Kq r)]) Zf rfl (.cons rfl (.nil)) rfl (by simp [Qv]) (by decide) (by decide) rfl rfl (fun b_24=>?_)
  refine QW (v:=_) (ys:=[Kq r].flatMap QP) (L:=L) rfl rfl Zf hO (by repeat (first | exact .cons .here .nil | exact QD | exact Qw | apply QC | apply QA)) ⟨rfl,fun _=>rfl,by repeat (first | exact zyt | apply zys | apply zyu)⟩ (JG [Kq r]) (by omega) rfl rfl ?_
  intro v9 L9 hO9 _;rw [←List.flatMap_append] at hO9
  refine zA (Qb (Qh (Qa (Qg ?_))))
  refine zB ?_
  refine zM (Qb ?_)
  exact zm (h:=⟨n-(k+1),by omega,k+1,_,_,rfl,rfl,rfl,rfl,by omega,by rw [Xd hr];exact hO9⟩)
 have hge_k:n≤k:=by have h:=hc10;simp at h;omega
 rw [ZF hR.len hge_k,show k=n by omega] at hO
 refine QH (Qe (Qe (Qk (Qa (zR (zM ?_))))))
 refine zA (zN (Qs ?_))
 exact Zt rfl rfl (fun w hw=>by obtain ⟨I9,h91,h92,h93⟩:=OwnS.res hO Qv (by decide) hw;exact ⟨_,I9,[],rfl,hIc.trans h91,h92,h93⟩)
end
section
open Go Go.Kn Go.Proofs
structure Wt where
 no:Int
 yr:Int
 a:Option Addr
 n:Nat
 c:Nat
def zkk (w:Wt):List Value:=[.int .i64 w.no,.int .i64 w.yr,.slice w.a w.n w.c]
theorem ZI (w:Wt):(zkk w).length=3:=rfl
def zm8 (ws:List Wt):Bool:=decide (ws.length≤5)&&ws.all fun w=>decide (w.n≤8)
end
section
open Go Go.Kn Go.Proofs
theorem Vg:SlT Tryz.prog 35 65 3:=.of (by kernel_rfl)
theorem zvx {I:Qu}{av:Option Addr}{n c:Nat}{ws:List Wt}(hW:Sl I 3 zkk av n c ws)(hn:n≤9223372036854775807):Zx Tryz.prog 28 [.slice av n c] I (.bool (zm8 ws)):=by
 intro g H w hw
 refine qe Tryz.func28 Tryz.ntmps28 hw ?_
 have hWl:=hW.len
 refine zR (zA (zN (Ql (zR ?_))))
 refine zM ?_
 refine zQ Vg ?_
 refine zC (zN ?_)
 refine zI ?_ ?_<;>intro hc6
 ·
  have h5:¬ws.length≤5:=by have h:=hc6;simp at h;omega
  refine zR (zA (zN (Qs (Qc ?_))))
  first
  | exact zr rfl rfl (by unfold zm8;rw [decide_eq_false h5];rfl)
 have h5:ws.length≤5:=by have h:=hc6;simp at h;omega
 refine Qo (Qa (Ql (zR (zA (zN (Qm ?_))))))
 refine zU [(0,_)] (fun T L0 mz E I' loc'=>∃ (k:Nat),mz=n-k∧E=(3,.int .i64 k)::T∧I=I'∧L0=loc'∧k≤n∧(ws.take k).all (fun w=>decide (w.n≤8))=true) ?_ (h:=⟨0,rfl,rfl,rfl,rfl,Nat.zero_le _,rfl⟩)
 rintro mz E I' loc' ⟨k,rfl,rfl,rfl,rfl,hk,hall⟩
 refine Ql (zR (zM ?_))
 refine zM ?_
 refine zQ Vg ?_
 refine zC (zN ?_)
 refine zI ?_ ?_<;>intro hc10
 ·
  have hlt_k:k<n:=by have h:=hc10;simp at h;omega
  obtain ⟨x,hx⟩:=hW.at hlt_k
  refine Qo (Qa (Ql (Qm (zR (zM ?_)))))
  refine zM ?_
  refine zV (zX Vg hW) ?_
  refine zF UR ?_
  refine zV (Qd rfl zcP (fun hg=>by exact zyx hW hx rfl)) ?_
  refine zQ XF ?_
  refine zC (zN ?_)
  refine zI ?_ ?_<;>intro hc19
  ·
   have h8:decide (x.n≤8)=false:=by have h:=hc19;simp at h;simp;omega
   refine zR (zA (zN (Qs (Qn (Qc (Qc (Qn ?_)))))))
   refine Qc ?_
   first
   | exact zr rfl rfl (by unfold zm8;rw [List.all_eq_false.2 ⟨x,List.mem_of_getElem? hx,by rw [h8];decide⟩,Bool.and_false])
  have h8:decide (x.n≤8)=true:=by have h:=hc19;simp at h;simp;omega
  refine Qo (Qh (Qa (Qg (zM ?_))))
  refine zB ?_
  refine zA (Qb ?_)
  exact zm (h:=⟨n-(k+1),by omega,k+1,rfl,rfl,rfl,rfl,by omega,by rw [Z2 hx,List.all_append,hall];simpa using h8⟩)
 have hge_k:n≤k:=by have h:=hc10;simp at h;omega
 rw [List.take_of_length_le (by omega)] at hall
 refine QH (Qe (Qe (Qk (Qa (zR (zA (zN ?_)))))))
 refine Qs ?_
 first
 | exact zr rfl rfl (by unfold zm8;rw [hall,decide_eq_true h5];rfl)
end
section
open Go Go.Kn Go.Proofs
def Vb:Sg:=zk8
def YG (n lo hi:Int):Bool:=decide (n≥lo)&&decide (n≤hi)
/-! ### Ratios -/
def zgG (n:Int):Int:=if n<0 then 0-n else n
def zvT (a b:Int):Int:=(Int.gcd a b:Int)
def Uo (n d:Int):Bool:= !(((((decide (d<1)||decide (d>1073741824))||decide (n< -1073741824))||decide (n>1073741824))||(zvT n d != 1)))
def zef (fn fd tn td:Int):Bool:=(Uo fn fd&&Uo tn td)&&(decide (fn*td<tn*fd)&&(decide (fn≥0)&&decide (tn≤td)))
/-! ### Signs -/
def zyd (k:Sg):Bool:=YG k.id 0 1048576&&YG k.role 0 63&&YG k.bar 0 4095&&YG k.kind 1 9&&YG k.mark 1 3&&YG k.side 0 2&&YG k.dir 0 8&&YG k.level 0 3&&YG k.size 0 255&&YG k.wth 0 64
def frm (k:Sg):Bool:=zyd k&&zef k.fn k.fd k.tn k.td
def skP (xs:List Sg)(i:Nat):Bool:= !(!frm (xs.getD i Vb)||(decide ((i:Int)>0)&&decide ((xs.getD ((i:Int)-1).toNat Vb).id≥(xs.getD i Vb).id)))
def skB (xs:List Sg):Bool:=(List.range xs.length).all (skP xs)
def Wz (xs:List Sg):Int:=if xs.length>4096 then 2 else if skB xs then 0 else 360
def zxD (n d:Int):List Value:=[.int .i64 n,.int .i64 d]
def zbB (n d:Int):Value:=.agg (zxD n d).toArray
theorem zgK {n:Int}(h:0≤n∧n≤9223372036854775807):IntKind.u64.wrap n=n:=by
 unfold IntKind.wrap IntKind.signed IntKind.bits
 simp
 omega
theorem zpD {n:Int}(hn: -1073741824≤n∧n≤1073741824)(h:¬n<0):IntKind.u64.wrap n=zgG n:=by
 rw [zgK (by omega)]
 unfold zgG;rw [if_neg h]
theorem zqd {n:Int}(hn: -1073741824≤n∧n≤1073741824)(h:n<0):IntKind.u64.wrap (0-IntKind.u64.wrap n)=zgG n:=by
 unfold zgG;rw [if_pos h]
 unfold IntKind.wrap IntKind.signed IntKind.bits
 simp
 omega
def zud (t b1 b2:Nat)(a b:Int):Go.Kn.Loc:=[(b2,.cells #[.int .u64 b] t (0,0)),(b1,.cells #[.int .u64 a] t (0,0))]
def zcc (a b:Nat):List Nat:=if a=0 then [] else if b=0 then [a,0] else if a % b=0 then [a,b] else a::zcc b (a % b)
termination_by b
decreasing_by exact Nat.mod_lt _ (by omega)
theorem zcQ (b:Nat):zcc 0 b=[]:=by rw [zcc];rfl
theorem zb3 {a b:Nat}(ha:a≠0)(hb:b≠0)(h:a % b=0):zcc a b=[a,b]:=by rw [zcc,if_neg ha,if_neg hb,if_pos h]
theorem zcA {a b:Nat}(ha:a≠0)(hb:b≠0)(h:a % b≠0):zcc a b=a::zcc b (a % b):=by rw [zcc,if_neg ha,if_neg hb,if_neg h]
theorem zlE:∀ (m:Nat) {a b d:Nat},b≤m→b≠0→(a=0→d=b)→(zcc a b).getLastD d=Nat.gcd a b:=by
 intro m
 induction m with
 | zero=>intro a b d h1 h2;omega
 | succ m ih=>
  intro a b d h1 h2 hd
  by_cases ha:a=0
  ·
   subst ha;rw [zcQ,Nat.gcd_zero_left,hd rfl];rfl
  ·
   by_cases h:a % b=0
   ·
    rw [zb3 ha h2 h]
    show b=_
    rw [Nat.gcd_comm,Nat.gcd_rec,h,Nat.gcd_zero_left]
   ·
    rw [zcA ha h2 h,List.getLastD_cons,ih (by have:=Nat.mod_lt a (show 0<b by omega);omega) h (fun e=>absurd e h2)]
    rw [Nat.gcd_comm b,←Nat.gcd_rec,Nat.gcd_comm]
theorem zkv (a b:Nat):((a:Int)).tmod (b:Int)=((a % b:Nat):Int):=by
 rw [Int.tmod_eq_emod_of_nonneg (by omega)];rfl
theorem zly {a b:Int}(ha: -1073741824≤a∧a≤1073741824)(hb: -1073741824≤b∧b≤1073741824): -9223372036854775808≤a*b∧a*b≤9223372036854775807:=by
 have h1:(a*b).natAbs≤1073741824*1073741824:=by
  rw [Int.natAbs_mul]
  exact Nat.mul_le_mul (by omega) (by omega)
 omega
def zrZ (n d:Int):Int:=if Uo n d then 0 else 120
theorem za5 {n d:Int}(h:Uo n d=true):(1≤d∧d≤1073741824)∧ -1073741824≤n∧n≤1073741824:=by
 unfold Uo at h
 simp at h
 omega
theorem zrP (n d:Int):Nat.gcd (zgG n).toNat d.toNat=Int.gcd n d.toNat:=by
 unfold Int.gcd zgG
 congr 1
 split<;>omega
theorem Zc {b:Nat}(h:0<b):zlk (b:Int) 1=(b:Int):=by
 unfold zlk
 split<;>omega
theorem zin {a0 b0 a b:Nat}{pre:List Nat}(h:zcc a0 b0=pre++zcc a b)(ha:a≠0):pre++[a]<+:zcc a0 b0:=by
 rw [h,zcc,if_neg ha]
 have key:∀ l:List Nat,pre++[a]<+:pre++a::l:=fun l=>⟨l,by simp⟩
 split
 ·
  exact key _
 ·
  split<;>exact key _
theorem ziQ {l:List Nat}{x d:Nat}:(l++[x]).getLastD d=x:=by simp [List.getLastD_eq_getLast?]
theorem zoK {n d:Int}(h:((((decide (d<1)||decide (d>1073741824))||decide (n< -1073741824))||decide (n>1073741824))||(zvT n d != 1))=true):Uo n d=false:=by unfold Uo;rw [h];rfl
theorem zlY {n d:Int}(h:((((decide (d<1)||decide (d>1073741824))||decide (n< -1073741824))||decide (n>1073741824))||(zvT n d != 1))=false):Uo n d=true:=by unfold Uo;rw [h];rfl
theorem zby {fn fd tn td:Int}:(zrZ fn fd != 0||zrZ tn td != 0)= !(Uo fn fd&&Uo tn td):=by
 unfold zrZ
 cases Uo fn fd<;>cases Uo tn td<;>rfl
def zkj (an ad bn bd:Int):Int:=if Uo an ad&&Uo bn bd then 0 else 120
def zkb (an ad bn bd:Int):Int:=if Uo an ad&&Uo bn bd then zr2 (an*bd) (bn*ad) else 0
theorem zeh {fn fd tn td:Int}:(((zkj fn fd tn td==0)&&decide (zkb fn fd tn td<0))&&decide (fn≥0)&&decide (tn≤td))=zef fn fd tn td:=by
 unfold zkj zkb zef zr2
 cases h:(Uo fn fd&&Uo tn td) with
 | false=>rfl
 | true=>
  simp only [if_true,Bool.true_and]
  by_cases h2:fn*td<tn*fd
  ·
   simp [h2]
  ·
   by_cases h3:fn*td>tn*fd<;>simp [h2,h3]
theorem zcV {xs:List Sg}{k:Nat}{x:Sg}(hx:xs[k]? =some x):skP xs k= !(!frm x||(decide ((k:Int)>0)&&decide ((xs.getD ((k:Int)-1).toNat Vb).id≥x.id))):=by unfold skP;rw [Q1 hx]
end
end Go.Proofs.YtodakphagkommaaGreatDoor
namespace Go.Kn
section
open Go
structure Kp (p:Prop):Prop where
 out:p
theorem zyc {p q:Prop}(h1:Kp p→q)(h2:p):q:=h1 ⟨h2⟩
theorem ZQ {C:Cx}{Q:Exit→Act→World→Prop}{e:Exit}{E E':Env}{I:Qu}{loc:Loc}(h:Kp (At C Q e E' I loc))(hE:Sub E' E:=by repeat (first | exact Sub.nil | refine Sub.cons rfl ?_)):At C Q e E I loc:=
 fun a w ha hw=>h.out a w (ha.sub hE) hw
end
end Go.Kn
namespace Go.Proofs.YtodakphagkommaaGreatDoor
section
open Go Go.Kn Go.Proofs
theorem Vl:AgT Tryz.prog 52 2:=.of (by kernel_rfl)
theorem Y7:QX Tryz.prog 52 0 0:=.of (by kernel_rfl)
theorem VW:QX Tryz.prog 52 1 1:=.of (by kernel_rfl)
theorem ZO:QX Tryz.prog 54 0 0:=.of (by kernel_rfl)
theorem Vy:QX Tryz.prog 54 10 10:=.of (by kernel_rfl)
theorem VD:QX Tryz.prog 54 11 12:=.of (by kernel_rfl)
theorem Kf:QX Tryz.prog 54 2 2:=.of (by kernel_rfl)
theorem Jw:QX Tryz.prog 54 3 3:=.of (by kernel_rfl)
theorem zdS:Fun Tryz.prog 142:=.of Tryz.func142 (by kernel_rfl) (by kernel_rfl)
theorem zh1:Fun Tryz.prog 154:=.of Tryz.func154 (by kernel_rfl) (by kernel_rfl)
theorem Wd:Fun Tryz.prog 192:=.of Tryz.func192 (by kernel_rfl) (by kernel_rfl)
theorem Yg:Fun Tryz.prog 202:=.of Tryz.func202 (by kernel_rfl) (by kernel_rfl)
theorem zhd:Fun Tryz.prog 203:=.of Tryz.func203 (by kernel_rfl) (by kernel_rfl)
theorem zjf:Fun Tryz.prog 237:=.of Tryz.func237 (by kernel_rfl) (by kernel_rfl)
theorem zbf:Fun Tryz.prog 253:=.of Tryz.func253 (by kernel_rfl) (by kernel_rfl)
theorem zrv:Fun Tryz.prog 259:=.of Tryz.func259 (by kernel_rfl) (by kernel_rfl)
theorem zq6:Fun Tryz.prog 260:=.of Tryz.func260 (by kernel_rfl) (by kernel_rfl)
theorem zpN:Fun Tryz.prog 262:=.of Tryz.func262 (by kernel_rfl) (by kernel_rfl)
theorem zry:Fun Tryz.prog 265:=.of Tryz.func265 (by kernel_rfl) (by kernel_rfl)
theorem Zs:ScT Tryz.prog 186:=.of (by kernel_rfl)
theorem YW:SlT Tryz.prog 48 54 14:=.of (by kernel_rfl)
theorem QN:SzT Tryz.prog 186 1:=.of (by kernel_rfl)
theorem ztI:Yn Tryz.prog 186 (.int .u64 0):=.of (by kernel_rfl)
theorem zgb (I:Qu)(x:Int):Zx Tryz.prog 192 [.int .i64 x] I (.bool false):=by
 intro g H w hw
 refine qe Tryz.func192 Tryz.ntmps192 hw ?_
 refine zR (zA ?_)
 refine zN (zR ?_)
 refine zM ?_
 refine zM ?_
 refine zC ?_
 refine zA (zN (Qs ?_))
 exact zr rfl rfl (by simp)
theorem zlG (I:Qu)(x y:Int):Zx Tryz.prog 142 [.int .i64 x,.int .i64 y] I (.int .i64 (zr2 x y)):=by
 intro g H w hw
 refine qe Tryz.func142 Tryz.ntmps142 hw ?_
 refine zR (zA ?_)
 refine zN (zR ?_)
 refine zM ?_
 refine qc (vs:=[_]) rfl Wd (zgb I _) ?_
 refine zA ?_
 refine zN (zR ?_)
 refine zM ?_
 refine qc (vs:=[_]) rfl Wd (zgb I _) ?_
 refine zA (zN (Ql (zR ?_)))
 refine zM (zN ?_)
 refine zI ?_ ?_<;>intro hc11
 ·
  cases hc11
 refine Qo (Qa (Ql (zR (zM (zN ?_)))))
 refine zI ?_ ?_<;>intro hc13
 ·
  cases hc13
 refine Qo (Qa (Ql (zR (zM ?_))))
 refine zM ?_
 refine zC (zN ?_)
 refine zI ?_ ?_<;>intro hc16
 ·
  refine zR (zA (zN (Qs (Qc ?_))))
  exact zr rfl rfl (by unfold zr2;first | (rw [if_pos (by simpa using hc16)]) | (rw [if_neg (by simpa using hc16),if_pos (by simpa using hc19)]) | (rw [if_neg (by simpa using hc16),if_neg (by simpa using hc19)]))
 refine Qo (Qa (Ql (zR (zM ?_))))
 refine zM ?_
 refine zC (zN ?_)
 refine zI ?_ ?_<;>intro hc19
 ·
  refine zR (zA (zN (Qs (Qc ?_))))
  exact zr rfl rfl (by unfold zr2;first | (rw [if_pos (by simpa using hc16)]) | (rw [if_neg (by simpa using hc16),if_pos (by simpa using hc19)]) | (rw [if_neg (by simpa using hc16),if_neg (by simpa using hc19)]))
 refine Qo (Qa (zR (zA (zN (Qs ?_)))))
 exact zr rfl rfl (by unfold zr2;first | (rw [if_pos (by simpa using hc16)]) | (rw [if_neg (by simpa using hc16),if_pos (by simpa using hc19)]) | (rw [if_neg (by simpa using hc16),if_neg (by simpa using hc19)]))
theorem zxa (I:Qu)(n:Int)(hn: -1073741824≤n∧n≤1073741824):Zx Tryz.prog 260 [.int .i64 n] I (.int .u64 (zgG n)):=by
 intro g H w hw
 refine qe Tryz.func260 Tryz.ntmps260 hw ?_
 refine zR (zA (zN (Ql (zR ?_))))
 refine zM ?_
 refine zC (zN ?_)
 refine zI ?_ ?_<;>intro hc4
 ·
  refine zR (zM ?_)
  refine zV (Kc rfl KL) ?_
  refine zV (zhW rfl) ?_
  refine zA (zN (Qs (Qc ?_)))
  exact zr rfl rfl (by rw [zqd hn (by simpa using hc4)])
 refine Qo (Qa (zR (zM ?_)))
 refine zV (Kc rfl KL) ?_
 refine zA (zN (Qs ?_))
 exact zr rfl rfl (by rw [zpD hn (by simpa using hc4)])
theorem zxG (I:Qu)(a b:Int):Yc Tryz.prog 262 [.int .u64 a,.int .u64 b] I [] (fun v I' L=>I'=I∧∃ b1 b2,v= .func (.func 265) #[] [Za b1,Za b2].toArray∧L=zud 186 b1 b2 a b):=by
 intro g H w hw
 refine qe Tryz.func262 Tryz.ntmps262 hw ?_
 refine zR ?_
 refine Q5 rfl rfl rfl (fun b_2=>?_)
 refine Q5 rfl rfl rfl (fun b_3=>?_)
 refine zA ?_
 refine zN (zR ?_)
 refine zV (Zb (us:=[]) (vs:=[_,_]) rfl rfl) ?_
 refine zA (zN (Qs ?_))
 exact Zt rfl rfl (fun w hw=>⟨_,I,_,rfl,zyv _,hw,rfl,_,_,rfl,rfl⟩)
theorem zkU (I:Qu)(a0 b0:Nat)(b1 b2:Nat)(hb0:0<b0)(ha1:a0≤9223372036854775807)(hb1:b0≤9223372036854775807):zxv Tryz.prog 265 [Za b1,Za b2] I (zud 186 b1 b2 (a0) (b0)) (fun n:Nat=>.int .u64 n) (zcc a0 b0):=by
 intro g l J Jx hY I0 H w h0 hJ hw
 refine qe Tryz.func265 Tryz.ntmps265 hw ?_
 refine Qm ?_
 refine zdw (fun m E I' H' loc'=>∃ (a b:Nat) (pre:List Nat),m=b∧E=[(0,.func (.yield l) #[] #[]),(1,Za b1),(2,Za b2)]∧loc'=zud 186 b1 b2 (a) (b)∧HLe I0 I'∧J pre I' H'∧zcc a0 b0=pre++zcc a b∧0<b∧a≤9223372036854775807∧b≤9223372036854775807) _ _ _ ⟨a0,b0,[],rfl,rfl,rfl,zyv _,hJ,rfl,hb0,ha1,hb1⟩ (.cons rfl (.cons rfl (.cons rfl .nil))) rfl ?_
 rintro m E I' H' loc' ⟨a,b,pre,hmb,rfl,rfl,hI1,hJk,hrem,hbp,hal,hbl⟩
 subst m
 have hI0:=h0.trans hI1
 refine Ql (zR ?_)
 refine zL Zs ?_
 refine zC ?_
 refine zM ?_
 refine QG 2 rfl rfl rfl ?_
 refine zK (Qi rfl) ?_
 refine zK (Qd rfl Zs (fun hg=>by exact QV.h1 rfl)) ?_
 refine zcz (vs:=[_]) (Post:=fun t I2 H2=>if t then J (pre++[a]) I2 H2 else Jx (pre++[a]) I2 H2) rfl rfl (.some rfl rfl rfl rfl gbt) rfl rfl (fun hcj=>hY pre a _ _ (zin hrem (by simpa [ZX] using hcj)) hI0 hJk) ?_
 rintro t I2 H2 hI2 hyes hno
 refine QO rfl rfl rfl rfl rfl ?_
 refine zN ?_
 refine zI ?_ ?_<;>intro hc10
 ·
  have ha0:a≠0:=by simp at hc10;exact hc10.1
  have ht:t=true:=by simp at hc10;exact hc10.2
  subst ht
  have hJ1:J (pre++[a]) I2 H2:=hyes (by simp [ZX];exact ha0)
  refine Qo (Qa (Qm (Ql ?_)))
  apply zyc
  ·
   intro key
   have hD:=zyv I2
   refine Jn ?_
   refine Z8 I2 [] mixed ?_
   refine KX 0 1 2 rfl rfl rfl (by kernel_rfl) ?_ ?_ ?_
   ·
    refine zL Zs ?_
    refine Qb ?_
    refine zD hD ?_
    refine Zr 1 2 rfl rfl (by kernel_rfl) ?_ ?_
    ·
     refine zL Zs ?_
     refine Qb ?_
     refine zD hD ?_
     refine Zr 2 5 rfl rfl (by kernel_rfl) ?_ ?_
     ·
      refine zL Zs ?_
      refine Qb ?_
      refine zD hD ?_
      refine Zr 3 5 rfl rfl (by kernel_rfl) ?_ ?_
      ·
       refine zV (YP rfl rfl) ?_
       refine Qb ?_
       refine zD hD ?_
       refine Zr 4 5 rfl rfl (by kernel_rfl) ?_ ?_
       ·
        refine zV (ZP rfl rfl (fun hg=>by rw [Zc hbp];omega)) ?_
        refine Qb ?_
        refine zD hD ?_
        refine qd 5 rfl ?_
        refine zS QN ?_
        refine Qb ?_
        refine zD hD ?_
        refine qd 6 rfl ?_
        refine zS QN ?_
        refine Qb ?_
        refine zD hD ?_
        refine QF (by kernel_rfl) ?_
        refine QQ ?_
        first | exact key.out | exact ZQ key
       refine zS QN ?_
       refine Qb ?_
       refine zD hD ?_
       refine qd 4 rfl ?_
       refine zV (ZP rfl rfl (fun hg=>by rw [Zc hbp];omega)) ?_
       refine Qb ?_
       refine zD hD ?_
       refine qd 6 rfl ?_
       refine zS QN ?_
       refine Qb ?_
       refine zD hD ?_
       refine QF (by kernel_rfl) ?_
       refine QQ ?_
       first | exact key.out | exact ZQ key
      refine zS QN ?_
      refine Qb ?_
      refine zD hD ?_
      refine qd 3 rfl ?_
      refine zV (YP rfl rfl) ?_
      refine Qb ?_
      refine zD hD ?_
      refine qd 4 rfl ?_
      refine zV (ZP rfl rfl (fun hg=>by rw [Zc hbp];omega)) ?_
      refine Qb ?_
      refine zD hD ?_
      refine qd 6 rfl ?_
      refine zS QN ?_
      refine Qb ?_
      refine zD hD ?_
      refine QF (by kernel_rfl) ?_
      refine QQ ?_
      first | exact key.out | exact ZQ key
     refine zS QN ?_
     refine Qb ?_
     refine zD hD ?_
     refine qd 2 rfl ?_
     refine zL Zs ?_
     refine Qb ?_
     refine zD hD ?_
     refine qd 3 rfl ?_
     refine zV (YP rfl rfl) ?_
     refine Qb ?_
     refine zD hD ?_
     refine qd 4 rfl ?_
     refine zV (ZP rfl rfl (fun hg=>by rw [Zc hbp];omega)) ?_
     refine Qb ?_
     refine zD hD ?_
     refine qd 6 rfl ?_
     refine zS QN ?_
     refine Qb ?_
     refine zD hD ?_
     refine QF (by kernel_rfl) ?_
     refine QQ ?_
     first | exact key.out | exact ZQ key
    refine zL Zs ?_
    refine Qb ?_
    refine zD hD ?_
    refine Zr 1 3 rfl rfl (by kernel_rfl) ?_ ?_
    ·
     refine zL Zs ?_
     refine Qb ?_
     refine zD hD ?_
     refine Zr 3 5 rfl rfl (by kernel_rfl) ?_ ?_
     ·
      refine zV (YP rfl rfl) ?_
      refine Qb ?_
      refine zD hD ?_
      refine Zr 4 5 rfl rfl (by kernel_rfl) ?_ ?_
      ·
       refine zV (ZP rfl rfl (fun hg=>by rw [Zc hbp];omega)) ?_
       refine Qb ?_
       refine zD hD ?_
       refine qd 5 rfl ?_
       refine zS QN ?_
       refine Qb ?_
       refine zD hD ?_
       refine qd 6 rfl ?_
       refine zS QN ?_
       refine Qb ?_
       refine zD hD ?_
       refine QF (by kernel_rfl) ?_
       refine QQ ?_
       first | exact key.out | exact ZQ key
      refine zS QN ?_
      refine Qb ?_
      refine zD hD ?_
      refine qd 4 rfl ?_
      refine zV (ZP rfl rfl (fun hg=>by rw [Zc hbp];omega)) ?_
      refine Qb ?_
      refine zD hD ?_
      refine qd 6 rfl ?_
      refine zS QN ?_
      refine Qb ?_
      refine zD hD ?_
      refine QF (by kernel_rfl) ?_
      refine QQ ?_
      first | exact key.out | exact ZQ key
     refine zS QN ?_
     refine Qb ?_
     refine zD hD ?_
     refine qd 3 rfl ?_
     refine zV (YP rfl rfl) ?_
     refine Qb ?_
     refine zD hD ?_
     refine qd 4 rfl ?_
     refine zV (ZP rfl rfl (fun hg=>by rw [Zc hbp];omega)) ?_
     refine Qb ?_
     refine zD hD ?_
     refine qd 6 rfl ?_
     refine zS QN ?_
     refine Qb ?_
     refine zD hD ?_
     refine QF (by kernel_rfl) ?_
     refine QQ ?_
     first | exact key.out | exact ZQ key
    refine zV (YP rfl rfl) ?_
    refine Qb ?_
    refine zD hD ?_
    refine qd 1 rfl ?_
    refine zL Zs ?_
    refine Qb ?_
    refine zD hD ?_
    refine Zr 4 5 rfl rfl (by kernel_rfl) ?_ ?_
    ·
     refine zV (ZP rfl rfl (fun hg=>by rw [Zc hbp];omega)) ?_
     refine Qb ?_
     refine zD hD ?_
     refine qd 5 rfl ?_
     refine zS QN ?_
     refine Qb ?_
     refine zD hD ?_
     refine qd 6 rfl ?_
     refine zS QN ?_
     refine Qb ?_
     refine zD hD ?_
     refine QF (by kernel_rfl) ?_
     refine QQ ?_
     first | exact key.out | exact ZQ key
    refine zS QN ?_
    refine Qb ?_
    refine zD hD ?_
    refine qd 4 rfl ?_
    refine zV (ZP rfl rfl (fun hg=>by rw [Zc hbp];omega)) ?_
    refine Qb ?_
    refine zD hD ?_
    refine qd 6 rfl ?_
    refine zS QN ?_
    refine Qb ?_
    refine zD hD ?_
    refine QF (by kernel_rfl) ?_
    refine QQ ?_
    first | exact key.out | exact ZQ key
   ·
    refine zL Zs ?_
    refine Qb ?_
    refine zD hD ?_
    refine Zr 0 2 rfl rfl (by kernel_rfl) ?_ ?_
    ·
     refine zL Zs ?_
     refine Qb ?_
     refine zD hD ?_
     refine Zr 2 5 rfl rfl (by kernel_rfl) ?_ ?_
     ·
      refine zL Zs ?_
      refine Qb ?_
      refine zD hD ?_
      refine Zr 3 5 rfl rfl (by kernel_rfl) ?_ ?_
      ·
       refine zV (YP rfl rfl) ?_
       refine Qb ?_
       refine zD hD ?_
       refine Zr 4 5 rfl rfl (by kernel_rfl) ?_ ?_
       ·
        refine zV (ZP rfl rfl (fun hg=>by rw [Zc hbp];omega)) ?_
        refine Qb ?_
        refine zD hD ?_
        refine qd 5 rfl ?_
        refine zS QN ?_
        refine Qb ?_
        refine zD hD ?_
        refine qd 6 rfl ?_
        refine zS QN ?_
        refine Qb ?_
        refine zD hD ?_
        refine QF (by kernel_rfl) ?_
        refine QQ ?_
        first | exact key.out | exact ZQ key
       refine zS QN ?_
       refine Qb ?_
       refine zD hD ?_
       refine qd 4 rfl ?_
       refine zV (ZP rfl rfl (fun hg=>by rw [Zc hbp];omega)) ?_
       refine Qb ?_
       refine zD hD ?_
       refine qd 6 rfl ?_
       refine zS QN ?_
       refine Qb ?_
       refine zD hD ?_
       refine QF (by kernel_rfl) ?_
       refine QQ ?_
       first | exact key.out | exact ZQ key
      refine zS QN ?_
      refine Qb ?_
      refine zD hD ?_
      refine qd 3 rfl ?_
      refine zV (YP rfl rfl) ?_
      refine Qb ?_
      refine zD hD ?_
      refine qd 4 rfl ?_
      refine zV (ZP rfl rfl (fun hg=>by rw [Zc hbp];omega)) ?_
      refine Qb ?_
      refine zD hD ?_
      refine qd 6 rfl ?_
      refine zS QN ?_
      refine Qb ?_
      refine zD hD ?_
      refine QF (by kernel_rfl) ?_
      refine QQ ?_
      first | exact key.out | exact ZQ key
     refine zS QN ?_
     refine Qb ?_
     refine zD hD ?_
     refine qd 2 rfl ?_
     refine zL Zs ?_
     refine Qb ?_
     refine zD hD ?_
     refine qd 3 rfl ?_
     refine zV (YP rfl rfl) ?_
     refine Qb ?_
     refine zD hD ?_
     refine qd 4 rfl ?_
     refine zV (ZP rfl rfl (fun hg=>by rw [Zc hbp];omega)) ?_
     refine Qb ?_
     refine zD hD ?_
     refine qd 6 rfl ?_
     refine zS QN ?_
     refine Qb ?_
     refine zD hD ?_
     refine QF (by kernel_rfl) ?_
     refine QQ ?_
     first | exact key.out | exact ZQ key
    refine zL Zs ?_
    refine Qb ?_
    refine zD hD ?_
    refine Zr 0 3 rfl rfl (by kernel_rfl) ?_ ?_
    ·
     refine zL Zs ?_
     refine Qb ?_
     refine zD hD ?_
     refine Zr 3 5 rfl rfl (by kernel_rfl) ?_ ?_
     ·
      refine zV (YP rfl rfl) ?_
      refine Qb ?_
      refine zD hD ?_
      refine Zr 4 5 rfl rfl (by kernel_rfl) ?_ ?_
      ·
       refine zV (ZP rfl rfl (fun hg=>by rw [Zc hbp];omega)) ?_
       refine Qb ?_
       refine zD hD ?_
       refine qd 5 rfl ?_
       refine zS QN ?_
       refine Qb ?_
       refine zD hD ?_
       refine qd 6 rfl ?_
       refine zS QN ?_
       refine Qb ?_
       refine zD hD ?_
       refine QF (by kernel_rfl) ?_
       refine QQ ?_
       first | exact key.out | exact ZQ key
      refine zS QN ?_
      refine Qb ?_
      refine zD hD ?_
      refine qd 4 rfl ?_
      refine zV (ZP rfl rfl (fun hg=>by rw [Zc hbp];omega)) ?_
      refine Qb ?_
      refine zD hD ?_
      refine qd 6 rfl ?_
      refine zS QN ?_
      refine Qb ?_
      refine zD hD ?_
      refine QF (by kernel_rfl) ?_
      refine QQ ?_
      first | exact key.out | exact ZQ key
     refine zS QN ?_
     refine Qb ?_
     refine zD hD ?_
     refine qd 3 rfl ?_
     refine zV (YP rfl rfl) ?_
     refine Qb ?_
     refine zD hD ?_
     refine qd 4 rfl ?_
     refine zV (ZP rfl rfl (fun hg=>by rw [Zc hbp];omega)) ?_
     refine Qb ?_
     refine zD hD ?_
     refine qd 6 rfl ?_
     refine zS QN ?_
     refine Qb ?_
     refine zD hD ?_
     refine QF (by kernel_rfl) ?_
     refine QQ ?_
     first | exact key.out | exact ZQ key
    refine zV (YP rfl rfl) ?_
    refine Qb ?_
    refine zD hD ?_
    refine Zr 0 4 rfl rfl (by kernel_rfl) ?_ ?_
    ·
     refine zL Zs ?_
     refine Qb ?_
     refine zD hD ?_
     refine Zr 4 5 rfl rfl (by kernel_rfl) ?_ ?_
     ·
      refine zV (ZP rfl rfl (fun hg=>by rw [Zc hbp];omega)) ?_
      refine Qb ?_
      refine zD hD ?_
      refine qd 5 rfl ?_
      refine zS QN ?_
      refine Qb ?_
      refine zD hD ?_
      refine qd 6 rfl ?_
      refine zS QN ?_
      refine Qb ?_
      refine zD hD ?_
      refine QF (by kernel_rfl) ?_
      refine QQ ?_
      first | exact key.out | exact ZQ key
     refine zS QN ?_
     refine Qb ?_
     refine zD hD ?_
     refine qd 4 rfl ?_
     refine zV (ZP rfl rfl (fun hg=>by rw [Zc hbp];omega)) ?_
     refine Qb ?_
     refine zD hD ?_
     refine qd 6 rfl ?_
     refine zS QN ?_
     refine Qb ?_
     refine zD hD ?_
     refine QF (by kernel_rfl) ?_
     refine QQ ?_
     first | exact key.out | exact ZQ key
    refine zV (ZP rfl rfl (fun hg=>by rw [Zc hbp];omega)) ?_
    refine Qb ?_
    refine zD hD ?_
    refine qd 0 rfl ?_
    refine zL Zs ?_
    refine Qb ?_
    refine zD hD ?_
    refine qd 5 rfl ?_
    refine zS QN ?_
    refine Qb ?_
    refine zD hD ?_
    refine qd 6 rfl ?_
    refine zS QN ?_
    refine Qb ?_
    refine zD hD ?_
    refine QF (by kernel_rfl) ?_
    refine QQ ?_
    first | exact key.out | exact ZQ key
   refine zL Zs ?_
   refine Qb ?_
   refine zD hD ?_
   refine KX 0 1 3 rfl rfl rfl (by kernel_rfl) ?_ ?_ ?_
   ·
    refine zL Zs ?_
    refine Qb ?_
    refine zD hD ?_
    refine Zr 1 3 rfl rfl (by kernel_rfl) ?_ ?_
    ·
     refine zL Zs ?_
     refine Qb ?_
     refine zD hD ?_
     refine Zr 3 5 rfl rfl (by kernel_rfl) ?_ ?_
     ·
      refine zV (YP rfl rfl) ?_
      refine Qb ?_
      refine zD hD ?_
      refine Zr 4 5 rfl rfl (by kernel_rfl) ?_ ?_
      ·
       refine zV (ZP rfl rfl (fun hg=>by rw [Zc hbp];omega)) ?_
       refine Qb ?_
       refine zD hD ?_
       refine qd 5 rfl ?_
       refine zS QN ?_
       refine Qb ?_
       refine zD hD ?_
       refine qd 6 rfl ?_
       refine zS QN ?_
       refine Qb ?_
       refine zD hD ?_
       refine QF (by kernel_rfl) ?_
       refine QQ ?_
       first | exact key.out | exact ZQ key
      refine zS QN ?_
      refine Qb ?_
      refine zD hD ?_
      refine qd 4 rfl ?_
      refine zV (ZP rfl rfl (fun hg=>by rw [Zc hbp];omega)) ?_
      refine Qb ?_
      refine zD hD ?_
      refine qd 6 rfl ?_
      refine zS QN ?_
      refine Qb ?_
      refine zD hD ?_
      refine QF (by kernel_rfl) ?_
      refine QQ ?_
      first | exact key.out | exact ZQ key
     refine zS QN ?_
     refine Qb ?_
     refine zD hD ?_
     refine qd 3 rfl ?_
     refine zV (YP rfl rfl) ?_
     refine Qb ?_
     refine zD hD ?_
     refine qd 4 rfl ?_
     refine zV (ZP rfl rfl (fun hg=>by rw [Zc hbp];omega)) ?_
     refine Qb ?_
     refine zD hD ?_
     refine qd 6 rfl ?_
     refine zS QN ?_
     refine Qb ?_
     refine zD hD ?_
     refine QF (by kernel_rfl) ?_
     refine QQ ?_
     first | exact key.out | exact ZQ key
    refine zV (YP rfl rfl) ?_
    refine Qb ?_
    refine zD hD ?_
    refine qd 1 rfl ?_
    refine zL Zs ?_
    refine Qb ?_
    refine zD hD ?_
    refine Zr 4 5 rfl rfl (by kernel_rfl) ?_ ?_
    ·
     refine zV (ZP rfl rfl (fun hg=>by rw [Zc hbp];omega)) ?_
     refine Qb ?_
     refine zD hD ?_
     refine qd 5 rfl ?_
     refine zS QN ?_
     refine Qb ?_
     refine zD hD ?_
     refine qd 6 rfl ?_
     refine zS QN ?_
     refine Qb ?_
     refine zD hD ?_
     refine QF (by kernel_rfl) ?_
     refine QQ ?_
     first | exact key.out | exact ZQ key
    refine zS QN ?_
    refine Qb ?_
    refine zD hD ?_
    refine qd 4 rfl ?_
    refine zV (ZP rfl rfl (fun hg=>by rw [Zc hbp];omega)) ?_
    refine Qb ?_
    refine zD hD ?_
    refine qd 6 rfl ?_
    refine zS QN ?_
    refine Qb ?_
    refine zD hD ?_
    refine QF (by kernel_rfl) ?_
    refine QQ ?_
    first | exact key.out | exact ZQ key
   ·
    refine zL Zs ?_
    refine Qb ?_
    refine zD hD ?_
    refine Zr 0 3 rfl rfl (by kernel_rfl) ?_ ?_
    ·
     refine zL Zs ?_
     refine Qb ?_
     refine zD hD ?_
     refine Zr 3 5 rfl rfl (by kernel_rfl) ?_ ?_
     ·
      refine zV (YP rfl rfl) ?_
      refine Qb ?_
      refine zD hD ?_
      refine Zr 4 5 rfl rfl (by kernel_rfl) ?_ ?_
      ·
       refine zV (ZP rfl rfl (fun hg=>by rw [Zc hbp];omega)) ?_
       refine Qb ?_
       refine zD hD ?_
       refine qd 5 rfl ?_
       refine zS QN ?_
       refine Qb ?_
       refine zD hD ?_
       refine qd 6 rfl ?_
       refine zS QN ?_
       refine Qb ?_
       refine zD hD ?_
       refine QF (by kernel_rfl) ?_
       refine QQ ?_
       first | exact key.out | exact ZQ key
      refine zS QN ?_
      refine Qb ?_
      refine zD hD ?_
      refine qd 4 rfl ?_
      refine zV (ZP rfl rfl (fun hg=>by rw [Zc hbp];omega)) ?_
      refine Qb ?_
      refine zD hD ?_
      refine qd 6 rfl ?_
      refine zS QN ?_
      refine Qb ?_
      refine zD hD ?_
      refine QF (by kernel_rfl) ?_
      refine QQ ?_
      first | exact key.out | exact ZQ key
     refine zS QN ?_
     refine Qb ?_
     refine zD hD ?_
     refine qd 3 rfl ?_
     refine zV (YP rfl rfl) ?_
     refine Qb ?_
     refine zD hD ?_
     refine qd 4 rfl ?_
     refine zV (ZP rfl rfl (fun hg=>by rw [Zc hbp];omega)) ?_
     refine Qb ?_
     refine zD hD ?_
     refine qd 6 rfl ?_
     refine zS QN ?_
     refine Qb ?_
     refine zD hD ?_
     refine QF (by kernel_rfl) ?_
     refine QQ ?_
     first | exact key.out | exact ZQ key
    refine zV (YP rfl rfl) ?_
    refine Qb ?_
    refine zD hD ?_
    refine Zr 0 4 rfl rfl (by kernel_rfl) ?_ ?_
    ·
     refine zL Zs ?_
     refine Qb ?_
     refine zD hD ?_
     refine Zr 4 5 rfl rfl (by kernel_rfl) ?_ ?_
     ·
      refine zV (ZP rfl rfl (fun hg=>by rw [Zc hbp];omega)) ?_
      refine Qb ?_
      refine zD hD ?_
      refine qd 5 rfl ?_
      refine zS QN ?_
      refine Qb ?_
      refine zD hD ?_
      refine qd 6 rfl ?_
      refine zS QN ?_
      refine Qb ?_
      refine zD hD ?_
      refine QF (by kernel_rfl) ?_
      refine QQ ?_
      first | exact key.out | exact ZQ key
     refine zS QN ?_
     refine Qb ?_
     refine zD hD ?_
     refine qd 4 rfl ?_
     refine zV (ZP rfl rfl (fun hg=>by rw [Zc hbp];omega)) ?_
     refine Qb ?_
     refine zD hD ?_
     refine qd 6 rfl ?_
     refine zS QN ?_
     refine Qb ?_
     refine zD hD ?_
     refine QF (by kernel_rfl) ?_
     refine QQ ?_
     first | exact key.out | exact ZQ key
    refine zV (ZP rfl rfl (fun hg=>by rw [Zc hbp];omega)) ?_
    refine Qb ?_
    refine zD hD ?_
    refine qd 0 rfl ?_
    refine zL Zs ?_
    refine Qb ?_
    refine zD hD ?_
    refine qd 5 rfl ?_
    refine zS QN ?_
    refine Qb ?_
    refine zD hD ?_
    refine qd 6 rfl ?_
    refine zS QN ?_
    refine Qb ?_
    refine zD hD ?_
    refine QF (by kernel_rfl) ?_
    refine QQ ?_
    first | exact key.out | exact ZQ key
   refine zV (YP rfl rfl) ?_
   refine Qb ?_
   refine zD hD ?_
   refine Zr 0 1 rfl rfl (by kernel_rfl) ?_ ?_
   ·
    refine zL Zs ?_
    refine Qb ?_
    refine zD hD ?_
    refine qd 1 rfl ?_
    refine zL Zs ?_
    refine Qb ?_
    refine zD hD ?_
    refine Zr 4 5 rfl rfl (by kernel_rfl) ?_ ?_
    ·
     refine zV (ZP rfl rfl (fun hg=>by rw [Zc hbp];omega)) ?_
     refine Qb ?_
     refine zD hD ?_
     refine qd 5 rfl ?_
     refine zS QN ?_
     refine Qb ?_
     refine zD hD ?_
     refine qd 6 rfl ?_
     refine zS QN ?_
     refine Qb ?_
     refine zD hD ?_
     refine QF (by kernel_rfl) ?_
     refine QQ ?_
     first | exact key.out | exact ZQ key
    refine zS QN ?_
    refine Qb ?_
    refine zD hD ?_
    refine qd 4 rfl ?_
    refine zV (ZP rfl rfl (fun hg=>by rw [Zc hbp];omega)) ?_
    refine Qb ?_
    refine zD hD ?_
    refine qd 6 rfl ?_
    refine zS QN ?_
    refine Qb ?_
    refine zD hD ?_
    refine QF (by kernel_rfl) ?_
    refine QQ ?_
    first | exact key.out | exact ZQ key
   refine zL Zs ?_
   refine Qb ?_
   refine zD hD ?_
   refine Zr 0 4 rfl rfl (by kernel_rfl) ?_ ?_
   ·
    refine zL Zs ?_
    refine Qb ?_
    refine zD hD ?_
    refine Zr 4 5 rfl rfl (by kernel_rfl) ?_ ?_
    ·
     refine zV (ZP rfl rfl (fun hg=>by rw [Zc hbp];omega)) ?_
     refine Qb ?_
     refine zD hD ?_
     refine qd 5 rfl ?_
     refine zS QN ?_
     refine Qb ?_
     refine zD hD ?_
     refine qd 6 rfl ?_
     refine zS QN ?_
     refine Qb ?_
     refine zD hD ?_
     refine QF (by kernel_rfl) ?_
     refine QQ ?_
     first | exact key.out | exact ZQ key
    refine zS QN ?_
    refine Qb ?_
    refine zD hD ?_
    refine qd 4 rfl ?_
    refine zV (ZP rfl rfl (fun hg=>by rw [Zc hbp];omega)) ?_
    refine Qb ?_
    refine zD hD ?_
    refine qd 6 rfl ?_
    refine zS QN ?_
    refine Qb ?_
    refine zD hD ?_
    refine QF (by kernel_rfl) ?_
    refine QQ ?_
    first | exact key.out | exact ZQ key
   refine zV (ZP rfl rfl (fun hg=>by rw [Zc hbp];omega)) ?_
   refine Qb ?_
   refine zD hD ?_
   refine qd 0 rfl ?_
   refine zL Zs ?_
   refine Qb ?_
   refine zD hD ?_
   refine qd 5 rfl ?_
   refine zS QN ?_
   refine Qb ?_
   refine zD hD ?_
   refine qd 6 rfl ?_
   refine zS QN ?_
   refine Qb ?_
   refine zD hD ?_
   refine QF (by kernel_rfl) ?_
   refine QQ ?_
   first | exact key.out | exact ZQ key
  rw [show ((a:Int)).tmod (zlk (b:Int) 1)=((a % b:Nat):Int) by rw [Zc hbp,zkv]]
  refine Qa (zR ?_)
  refine zL Zs ?_
  refine zC (zN ?_)
  refine zI ?_ ?_<;>intro hc17
  ·
   have hab:a % b=0:=by have h:=hc17;simp only [beq_iff_eq] at h;omega
   have hpre2:(pre++[a])++[b]<+:zcc a0 b0:=by rw [hrem,zb3 ha0 (by omega) hab,List.append_assoc];exact List.prefix_rfl
   refine zR (zM ?_)
   refine zL Zs ?_
   refine zcf (vs:=[_]) (Post:=fun t I3 H3=>if t then J ((pre++[a])++[b]) I3 H3 else Jx ((pre++[a])++[b]) I3 H3) rfl rfl rfl rfl (hY (pre++[a]) b _ _ hpre2 (hI0.trans hI2) hJ1) ?_
   rintro t3 I3 H3 hI3 hP3
   refine zN (Qs (Qn (Qc (Qn ?_))))
   first
   | (refine YJ rfl (fun w hw=>⟨_,I3,H3,rfl,hI1.trans (hI2.trans hI3),hw.drop,?_⟩);cases t3 with | true=>exact .inl (by rw [hrem,zb3 ha0 (by omega) hab];simpa using hP3) | false=>exact .inr ⟨_,hpre2,hP3⟩)
  have hab:a % b≠0:=by have h:=hc17;simp only [beq_eq_false_iff_ne,ne_eq] at h;omega
  refine Qo (Qh ?_)
  exact Xm rfl rfl rfl _ (zud 186 b1 b2 (b) (((a % b:Nat):Int))) ⟨a % b,Nat.mod_lt _ hbp,b,a % b,pre++[a],rfl,rfl,rfl,hI1.trans hI2,hJ1,by rw [hrem,zcA ha0 (by omega) hab,List.append_assoc];rfl,by omega,by omega,by have:=Nat.mod_lt a hbp;omega⟩ (.cons rfl (.cons rfl (.cons rfl .nil))) .refl
 refine QH (Qe (Qe (Qk ?_)))
 first
 | (refine Vp (YJ rfl (fun w hw=>⟨_,I2,H2,rfl,hI1.trans hI2,hw.drop,?_⟩));by_cases ha0:a=0;(obtain ⟨e1,e2⟩:=hno (by simp [ZX,ha0]);subst e1;subst e2;subst ha0;exact .inl (by rw [hrem,zcQ,List.append_nil];exact hJk));(have ht:t=false:=(by simp [ha0] at hc10;exact hc10);subst ht;exact .inr ⟨_,zin hrem ha0,hyes (by simp [ZX];exact ha0)⟩))
theorem zw9 (I:Qu)(a b:Nat)(hb:0<b)(ha:a≤9223372036854775807)(hb2:b≤9223372036854775807):Zx Tryz.prog 259 [.int .u64 a,.int .u64 b] I (.int .u64 (Nat.gcd a b:Nat)):=by
 intro g H w hw
 refine zeq Tryz.func259 rfl Tryz.ntmps259 rfl hw ?_
 have hIc:=zyv I
 refine zR ?_
 refine Qr ztI rfl rfl (fun b_4=>?_)
 refine zN (Ql (zR (zM ?_)))
 refine zC (zN ?_)
 refine zI ?_ ?_<;>intro hc7
 ·
  simp at hc7;omega
 refine Qo (Qa (zR (zM ?_)))
 refine zS QN ?_
 refine zN (Ql (zR (zM ?_)))
 refine zM ?_
 refine Qx (cap:=[]) (vs:=[_,_]) rfl rfl zpN .nil (zxG I _ _) rfl rfl ?_
 rintro vv1 I1 L1 hI1 ⟨rfl,b1,b2,rfl,rfl⟩
 have hIc:=hIc.trans hI1
 refine zN (Qm ?_)
 refine WG (ms:=[]) (K:=zud 186 b1 b2 (a) (b)) (L:=[(b_4,.cells #[.int .u64 b] 186 (0,0))]) (enc:=fun n:Nat=>.int .u64 n) (xs:=zcc a b) (fun pre I' loc'=>loc'=[(b_4,.cells #[.int .u64 ((pre.getLastD b:Nat):Int)] 186 (0,0))]) (fun _ _ _ _=>False) (fun pre x E2 I2 loc2=>E2=[(4,Za b_4),(5,.int .u64 x)]∧loc2=[(b_4,.cells #[.int .u64 ((pre.getLastD b:Nat):Int)] 186 (0,0))]) rfl zry (zkU _ a b b1 b2 hb ha hb2) rfl rfl ?_ ?_ ?_ ?_
 ·
  rintro l pre x I1 loc1 H1 hpre hI1 rfl
  refine Qg (zA (Qb ?_))
  exact zbU _ ⟨zyv _,rfl,rfl⟩ (.cons rfl (.cons rfl .nil))
 ·
  rintro l pre x E2 I2 loc2 H2 hpre hI2 ⟨rfl,rfl⟩
  refine Qm (Qg (zM ?_))
  refine zS QN ?_
  refine Qb (Qh ?_)
  exact XG ⟨zyv _,by rw [ziQ];rfl⟩ .refl
 ·
  rintro bd I1 loc1 hI1 rfl
  have hIc:=hIc.trans hI1
  refine Qh (Qa (zR ?_))
  refine zL Zs ?_
  refine zS QN ?_
  refine zN (Qs ?_)
  exact K1 (L:=[(b_4,_)]) (fun a ha w hw=>zxJ rfl rfl Zs (QV.h0 rfl) a ha w hw) (fun w hw=>⟨by rw [zlE b (Nat.le_refl _) (by omega) (fun _=>rfl)],(hw.mono hIc).drop⟩)
 rintro c bd pre I1 loc1 hI1 hpre hF;exact hF.elim
theorem zsQ (I:Qu)(n d:Int)(hn: -1073741824≤n∧n≤1073741824)(hd:1≤d∧d≤1073741824):Zx Tryz.prog 259 [.int .u64 (zgG n),.int .u64 (IntKind.u64.wrap d)] I (.int .u64 (zvT n d)):=by
 have h0:0≤zgG n∧zgG n≤1073741824:=by unfold zgG;split<;>omega
 have h:=zw9 I (zgG n).toNat d.toNat (by omega) (by omega) (by omega)
 rw [zgK (by omega)]
 rw [Int.toNat_of_nonneg h0.1,Int.toNat_of_nonneg (by omega),zrP,Int.toNat_of_nonneg (by omega)] at h
 exact h
theorem W9 (I:Qu)(n d:Int):Zx Tryz.prog 253 [zbB (n) (d)] I (.int .i64 (zrZ n d)):=by
 intro g H w hw
 refine qe Tryz.func253 Tryz.ntmps253 hw ?_
 refine zR ?_
 refine Q5 rfl rfl rfl (fun b_1=>?_)
 refine zA (zN (Ql (Ql ?_)))
 refine Va mixed (by kernel_rfl) ?_
 refine zq (Qf rfl VW) ?_
 refine zq (Qd rfl Qt (fun hg=>by exact QV.h0 rfl)) ?_
 refine zq (QJ rfl rfl rfl) ?_
 refine zq (Qi rfl) ?_
 refine VY 3 rfl rfl rfl ?_
 refine zj (Qf rfl VW) ?_
 refine zj (Qd rfl Qt (fun hg=>by exact QV.h0 rfl)) ?_
 refine zj (QJ rfl rfl rfl) ?_
 refine U0 rfl rfl rfl rfl rfl ?_
 refine zq (Qi rfl) ?_
 refine VY 8 rfl rfl rfl ?_
 refine zj (Qf rfl Y7) ?_
 refine zj (Qd rfl Qt (fun hg=>by exact QV.h0 rfl)) ?_
 refine zj (QJ rfl rfl rfl) ?_
 refine U0 rfl rfl rfl rfl rfl ?_
 refine zq (Qi rfl) ?_
 refine VY 13 rfl rfl rfl ?_
 refine zj (Qf rfl Y7) ?_
 refine zj (Qd rfl Qt (fun hg=>by exact QV.h0 rfl)) ?_
 refine zj (QJ rfl rfl rfl) ?_
 refine U0 rfl rfl rfl rfl rfl ?_
 refine zq (Qi rfl) ?_
 refine VY 18 rfl rfl rfl ?_
 refine zj (Qf rfl Y7) ?_
 refine zj (Qd rfl Qt (fun hg=>by exact QV.h0 rfl)) ?_
 refine UW (cap:=[]) (vs:=[_]) rfl rfl zq6 (fun hg=>zxa I n (by simp [ZX] at hg;omega)) (.some rfl rfl rfl rfl gbf) rfl rfl ?_
 refine zj (Qf rfl VW) ?_
 refine zj (Qd rfl Qt (fun hg=>by exact QV.h0 rfl)) ?_
 refine zj (Kc rfl KL) ?_
 refine UW (cap:=[]) (vs:=[_,_]) rfl rfl zrv (fun hg=>zsQ I n d (by simp [ZX] at hg;omega) (by simp [ZX] at hg;omega)) (.some rfl rfl rfl rfl gbf) rfl rfl ?_
 refine zj (QJ rfl rfl rfl) ?_
 refine U0 rfl rfl rfl rfl rfl ?_
 refine Vc ?_
 refine Qa ?_
 refine zI ?_ ?_<;>intro hc30
 ·
  refine zR (zA (zN (Qs (Qc ?_))))
  first
  | exact zr rfl rfl (by unfold zrZ;rw [zoK hc30];rfl)
 refine Qo (Qa (zR (zA (zN (Qs ?_)))))
 first
 | exact zr rfl rfl (by unfold zrZ;rw [zlY hc30];rfl)
theorem zgR (I:Qu)(an ad bn bd:Int):Zx Tryz.prog 237 [zbB (an) (ad),zbB (bn) (bd)] I (.tuple #[.int .i64 (zkb an ad bn bd),.int .i64 (zkj an ad bn bd)]):=by
 intro g H w hw
 refine qe Tryz.func237 Tryz.ntmps237 hw ?_
 refine zR ?_
 refine Q5 rfl rfl rfl (fun b_2=>?_)
 refine Q5 rfl rfl rfl (fun b_3=>?_)
 refine zA ?_
 refine zA (zN (Ql (zR ?_)))
 refine zV (Qp rfl Vl (fun hg=>by exact Cells.g1) rfl) ?_
 refine qc (vs:=[_]) rfl zbf (W9 I _ _) ?_
 refine zC ?_
 refine zM ?_
 refine Q0 3 rfl rfl rfl ?_
 refine zJ (Qp rfl Vl (fun hg=>by exact Cells.g0) rfl) ?_
 refine qf (vs:=[_]) rfl zbf (fun hg=>W9 I _ _) ?_
 refine zJ (QJ rfl rfl rfl) ?_
 refine ZA rfl rfl rfl rfl rfl ?_
 refine zN ?_
 refine zI ?_ ?_<;>intro hc13
 ·
  have hb:(Uo an ad&&Uo bn bd)=false:=by have h:=hc13;rw [zby,Bool.not_eq_true'] at h;exact h
  refine zR (zA ?_)
  refine zA (zN (Qs (Qc ?_)))
  exact Zo rfl rfl rfl (fun w hw=>⟨by unfold zkb zkj;rw [hb];rfl,hw.drop⟩)
 have hb:(Uo an ad&&Uo bn bd)=true:=by have h:=hc13;rw [zby,Bool.not_eq_false'] at h;exact h
 have ⟨ha1,ha2⟩:=za5 (Bool.and_eq_true .. ▸ hb).1
 have ⟨hb1,hb2⟩:=za5 (Bool.and_eq_true .. ▸ hb).2
 refine Qo (Qa (zR ?_))
 refine zF Y7 ?_
 refine zL Qt ?_
 refine zF VW ?_
 refine zL Qt ?_
 refine zV (ZS rfl rfl rfl (fun _=>by exact zly (by omega) (by omega))) ?_
 refine zF Y7 ?_
 refine zL Qt ?_
 refine zF VW ?_
 refine zL Qt ?_
 refine zV (ZS rfl rfl rfl (fun _=>by exact zly (by omega) (by omega))) ?_
 refine qc (vs:=[_,_]) rfl zdS (zlG I _ _) ?_
 refine zA ?_
 refine zA (zN (Qs ?_))
 exact Zo rfl rfl rfl (fun w hw=>⟨by unfold zkb zkj;rw [hb];rfl,hw.drop⟩)
theorem zhU (I:Qu)(an ad bn bd:Int):Zx Tryz.prog 203 [zbB (an) (ad),zbB (bn) (bd)] I (.bool (zef an ad bn bd)):=by
 intro g H w hw
 refine qe Tryz.func203 Tryz.ntmps203 hw ?_
 refine zR ?_
 refine Q5 rfl rfl rfl (fun b_2=>?_)
 refine Q5 rfl rfl rfl (fun b_3=>?_)
 refine zA ?_
 refine zN (zR ?_)
 refine zV (Qp rfl Vl (fun hg=>by exact Cells.g1) rfl) ?_
 refine zV (Qp rfl Vl (fun hg=>by exact Cells.g0) rfl) ?_
 refine qc (vs:=[_,_]) rfl zjf (zgR I _ _ _ _) ?_
 refine zM ?_
 refine zE ?_
 refine zE ?_
 refine zA ?_
 refine zA ?_
 refine zN (zR ?_)
 refine zM ?_
 refine zC ?_
 refine zM ?_
 refine QG 2 rfl rfl rfl ?_
 refine zK (Qi rfl) ?_
 refine zK (QJ rfl rfl rfl) ?_
 refine QO rfl rfl rfl rfl rfl ?_
 refine zM ?_
 refine QG 6 rfl rfl rfl ?_
 refine zK (Qf rfl Y7) ?_
 refine zK (Qd rfl Qt (fun hg=>by exact QV.h1 rfl)) ?_
 refine zK (QJ rfl rfl rfl) ?_
 refine QO rfl rfl rfl rfl rfl ?_
 refine zM ?_
 refine QG 11 rfl rfl rfl ?_
 refine zK (Qf rfl Y7) ?_
 refine zK (Qd rfl Qt (fun hg=>by exact QV.h0 rfl)) ?_
 refine zK (Qf rfl VW) ?_
 refine zK (Qd rfl Qt (fun hg=>by exact QV.h0 rfl)) ?_
 refine zK (QJ rfl rfl rfl) ?_
 refine QO rfl rfl rfl rfl rfl ?_
 refine zA (zN (Qs ?_))
 exact zr rfl rfl (by rw [←zeh])
theorem ZT (I:Qu)(n lo hi:Int):Zx Tryz.prog 202 [.int .i64 n,.int .i64 lo,.int .i64 hi] I (.bool (YG n lo hi)):=by
 intro g H w hw
 refine qe Tryz.func202 Tryz.ntmps202 hw ?_
 refine zR (zA ?_)
 refine zN (zR ?_)
 refine zM ?_
 refine zM ?_
 refine zC ?_
 refine zM ?_
 refine QG 3 rfl rfl rfl ?_
 refine zK (Qi rfl) ?_
 refine zK (Qi rfl) ?_
 refine zK (QJ rfl rfl rfl) ?_
 refine QO rfl rfl rfl rfl rfl ?_
 refine zA (zN (Qs ?_))
 exact zr rfl rfl (by rfl)
theorem zpp (I:Qu)(x:Sg):Zx Tryz.prog 154 [JT x] I (.bool (frm x)):=by
 intro g H w hw
 refine qe Tryz.func154 Tryz.ntmps154 hw ?_
 refine zR ?_
 refine Q5 rfl rfl rfl (fun b_1=>?_)
 refine zA ?_
 refine zN (zR ?_)
 refine zF ZO ?_
 refine zL Qt ?_
 refine qc (vs:=[_,_,_]) rfl Yg (ZT I _ _ _) ?_
 refine zM ?_
 refine QG 3 rfl rfl rfl ?_
 refine zK (Qf rfl JX) ?_
 refine zK (Qd rfl Qt (fun hg=>by exact QV.h0 rfl)) ?_
 refine qg (vs:=[_,_,_]) rfl Yg (fun hg=>ZT I _ _ _) ?_
 refine QO rfl rfl rfl rfl rfl ?_
 refine zM ?_
 refine QG 8 rfl rfl rfl ?_
 refine zK (Qf rfl Kf) ?_
 refine zK (Qd rfl Qt (fun hg=>by exact QV.h0 rfl)) ?_
 refine qg (vs:=[_,_,_]) rfl Yg (fun hg=>ZT I _ _ _) ?_
 refine QO rfl rfl rfl rfl rfl ?_
 refine zM ?_
 refine QG 13 rfl rfl rfl ?_
 refine zK (Qf rfl W7) ?_
 refine zK (Qd rfl Qt (fun hg=>by exact QV.h0 rfl)) ?_
 refine qg (vs:=[_,_,_]) rfl Yg (fun hg=>ZT I _ _ _) ?_
 refine QO rfl rfl rfl rfl rfl ?_
 refine zM ?_
 refine QG 18 rfl rfl rfl ?_
 refine zK (Qf rfl Jw) ?_
 refine zK (Qd rfl Qt (fun hg=>by exact QV.h0 rfl)) ?_
 refine qg (vs:=[_,_,_]) rfl Yg (fun hg=>ZT I _ _ _) ?_
 refine QO rfl rfl rfl rfl rfl ?_
 refine zM ?_
 refine QG 23 rfl rfl rfl ?_
 refine zK (Qf rfl JZ) ?_
 refine zK (Qd rfl Qt (fun hg=>by exact QV.h0 rfl)) ?_
 refine qg (vs:=[_,_,_]) rfl Yg (fun hg=>ZT I _ _ _) ?_
 refine QO rfl rfl rfl rfl rfl ?_
 refine zM ?_
 refine QG 28 rfl rfl rfl ?_
 refine zK (Qf rfl JY) ?_
 refine zK (Qd rfl Qt (fun hg=>by exact QV.h0 rfl)) ?_
 refine qg (vs:=[_,_,_]) rfl Yg (fun hg=>ZT I _ _ _) ?_
 refine QO rfl rfl rfl rfl rfl ?_
 refine zM ?_
 refine QG 33 rfl rfl rfl ?_
 refine zK (Qf rfl JV) ?_
 refine zK (Qd rfl Qt (fun hg=>by exact QV.h0 rfl)) ?_
 refine qg (vs:=[_,_,_]) rfl Yg (fun hg=>ZT I _ _ _) ?_
 refine QO rfl rfl rfl rfl rfl ?_
 refine zM ?_
 refine QG 38 rfl rfl rfl ?_
 refine zK (Qf rfl JR) ?_
 refine zK (Qd rfl Qt (fun hg=>by exact QV.h0 rfl)) ?_
 refine qg (vs:=[_,_,_]) rfl Yg (fun hg=>ZT I _ _ _) ?_
 refine QO rfl rfl rfl rfl rfl ?_
 refine zM ?_
 refine QG 43 rfl rfl rfl ?_
 refine zK (Qf rfl JP) ?_
 refine zK (Qd rfl Qt (fun hg=>by exact QV.h0 rfl)) ?_
 refine qg (vs:=[_,_,_]) rfl Yg (fun hg=>ZT I _ _ _) ?_
 refine QO rfl rfl rfl rfl rfl ?_
 refine zM ?_
 refine QG 48 rfl rfl rfl ?_
 refine zK (Qf rfl Vy) ?_
 refine zK (Qp rfl Vl (fun hg=>by exact Cells.s0 (vs:=[_,_]) rfl) rfl) ?_
 refine zK (Qf rfl VD) ?_
 refine zK (Qp rfl Vl (fun hg=>by exact Cells.s0 (vs:=[_,_]) rfl) rfl) ?_
 refine qg (vs:=[_,_]) rfl zhd (fun hg=>zhU I _ _ _ _) ?_
 refine QO rfl rfl rfl rfl rfl ?_
 refine zA (zN (Qs ?_))
 exact zr rfl rfl (by rfl)
theorem zeB {I:Qu}{av:Option Addr}{n c:Nat}{xs:List Sg}(hS:Sl I 14 YZ av n c xs)(hn:n≤100000):Zx Tryz.prog 102 [.slice av n c] I (.int .i64 (Wz xs)):=by
 intro g H w hw
 refine qe Tryz.func102 Tryz.ntmps102 hw ?_
 refine zR (zA (zN (Ql (zR ?_))))
 refine zM ?_
 refine zQ YW ?_
 refine zC (zN ?_)
 refine zI ?_ ?_<;>intro hc7
 ·
  have h6:xs.length>4096:=by rw [hS.len];simp at hc7;omega
  refine zR (zA (zN (Qs (Qc ?_))))
  first
  | exact zr rfl rfl (by unfold Wz;rw [if_pos h6])
 have h6:¬xs.length>4096:=by rw [hS.len];simp at hc7;omega
 refine Qo (Qa (Ql (zR (zM ?_))))
 refine zQ YW ?_
 refine zM (zN (Qm ?_))
 refine zU [(0,_),(8,_),(9,_)] (fun T L0 mz E I' loc'=>∃ (k:Nat),mz=n-k∧E=(10,.int .i64 k)::T∧I=I'∧L0=loc'∧k≤n∧(List.range k).all (skP xs)=true) ?_ (h:=⟨0,rfl,rfl,rfl,rfl,Nat.zero_le _,rfl⟩)
 rintro mz E I' loc' ⟨k,rfl,rfl,rfl,rfl,hk,hall⟩
 refine zR (zC (zN (Ql ?_)))
 refine zI ?_ ?_<;>intro hc11
 ·
  have hlt_k:k<n:=by have h:=hc11;simp at h;omega
  obtain ⟨x,hx⟩:=hS.at hlt_k
  refine Qo (Qa (Ql (Qm (zR (zM ?_)))))
  refine zV (QE rfl rfl YW (by assumption) (fun hg=>by omega)) ?_
  refine zV (Qp rfl ZK (fun hg=>by exact zyw hS hx) rfl) ?_
  refine Qr WW rfl rfl (fun b_4=>?_)
  refine zA ?_
  refine zh VG ?_
  refine zN (Ql ?_)
  refine Va mixed (by kernel_rfl) ?_
  refine zq (Qp rfl ZK (fun hg=>by exact Cells.g0) rfl) ?_
  refine Jf (cap:=[]) (vs:=[_]) rfl rfl zh1 (zpp I _) rfl rfl ?_
  refine zq (Vd rfl) ?_
  refine zq (Qi rfl) ?_
  refine VY 3 rfl rfl rfl ?_
  refine zj (Qi rfl) ?_
  refine zj (QJ rfl rfl rfl) ?_
  refine zj (Qi rfl) ?_
  refine zev 6 rfl rfl rfl ?_
  refine zk (Qi rfl) ?_
  refine zk (Qi rfl) ?_
  refine zk (ZS rfl rfl rfl (fun hg=>by omega)) ?_
  refine zk (QE rfl rfl YW (by assumption) (fun hg=>by (simp [ZX] at hg;omega))) ?_
  refine zk (Qf rfl ZO) ?_
  refine zk (Qd rfl Qt (fun hg=>by exact zyo (k:=((k:Int)-1).toNat) hS (Zj (d:=Vb) hS.len (by simp [ZX] at hg;omega)) rfl)) ?_
  refine zk (Qf rfl ZO) ?_
  refine zk (Qd rfl Qt (fun hg=>by exact QV.h0 rfl)) ?_
  refine zk (QJ rfl rfl rfl) ?_
  refine zgP rfl rfl rfl (.some rfl rfl rfl rfl gbf) rfl rfl ?_
  refine U0 rfl rfl rfl rfl rfl ?_
  refine Vc ?_
  refine Qa ?_
  refine zI ?_ ?_<;>intro hc32
  ·
   refine zR (zA (zN (Qs (Qn (Qc (Qc (Qn ?_)))))))
   refine Qc ?_
   first
   | exact zr rfl rfl (by unfold Wz skB;rw [if_neg h6,JH (k:=k) (by rw [hS.len];exact hlt_k) (by rw [zcV hx,hc32];rfl)];rfl)
  refine Qo (Qh (Qa (Qg (zB ?_))))
  refine zM (Qb ?_)
  exact zm (h:=⟨n-(k+1),by omega,k+1,rfl,rfl,rfl,rfl,by omega,V6 hall (by rw [zcV hx,hc32];rfl)⟩)
 have hge_k:n≤k:=by have h:=hc11;simp at h;omega
 refine QH (Qe (Qe (Qk (Qa (zR (zA (zN ?_)))))))
 refine Qs ?_
 first
 | exact zr rfl rfl (by unfold Wz skB;rw [if_neg h6,hS.len,show n=k by omega,hall];rfl)
end
section
open Go Go.Kn Go.Proofs
structure Wr where
 no:Int
 yr:Int
 rs:List Rd
def zis (I:Qu)(av:Option Addr)(n c:Nat)(ws:List Wt)(xs:List Wr):Prop:=Sl I 3 zkk av n c ws∧ws.length=xs.length∧∀ (k:Nat) (w:Wt) (x:Wr),ws[k]? =some w→xs[k]? =some x→w.no=x.no∧w.yr=x.yr∧Sl I 15 JM w.a w.n w.c x.rs
def SlW (I:Qu)(av:Option Addr)(n c:Nat)(xs:List Wr):Prop:=∃ ws:List Wt,zis I av n c ws xs
theorem zis.mono {I I':Qu}{av:Option Addr}{n c:Nat}{ws:List Wt}{xs:List Wr}(h:zis I av n c ws xs)(hI:HLe I I'):zis I' av n c ws xs:=
 ⟨h.1.mono hI,h.2.1,fun k w x h1 h2=>⟨(h.2.2 k w x h1 h2).1,(h.2.2 k w x h1 h2).2.1,(h.2.2 k w x h1 h2).2.2.mono hI⟩⟩
theorem SlW.mono {I I':Qu}{av:Option Addr}{n c:Nat}{xs:List Wr}(h:SlW I av n c xs)(hI:HLe I I'):SlW I' av n c xs:=by
 obtain ⟨ws,h⟩:=h;exact ⟨ws,h.mono hI⟩
theorem zis.len {I:Qu}{av:Option Addr}{n c:Nat}{ws:List Wt}{xs:List Wr}(h:zis I av n c ws xs):xs.length=n:=by rw [←h.2.1];exact h.1.len
theorem SlW.len {I:Qu}{av:Option Addr}{n c:Nat}{xs:List Wr}(h:SlW I av n c xs):xs.length=n:=by obtain ⟨ws,h⟩:=h;exact h.len
theorem zis.at {I:Qu}{av:Option Addr}{n c:Nat}{ws:List Wt}{xs:List Wr}(h:zis I av n c ws xs){k:Nat}(hk:k<n):∃ w x,ws[k]? =some w∧xs[k]? =some x∧w.no=x.no∧w.yr=x.yr∧Sl I 15 JM w.a w.n w.c x.rs:=by
 obtain ⟨w,hw⟩:=h.1.at hk
 have hl:=h.len
 obtain ⟨x,hx⟩:∃ x,xs[k]? =some x:=⟨_,List.getElem?_eq_getElem (by omega)⟩
 exact ⟨w,x,hw,hx,h.2.2 k w x hw hx⟩
def zv3 (xs:List Wr):Bool:=decide (xs.length≤5)&&xs.all fun x=>decide (x.rs.length≤8)
theorem zsI {I:Qu}{av:Option Addr}{n c:Nat}{ws:List Wt}{xs:List Wr}(h:zis I av n c ws xs):zm8 ws=zv3 xs:=by
 unfold zm8 zv3
 rw [h.2.1]
 congr 1
 rw [Bool.eq_iff_iff,List.all_eq_true,List.all_eq_true]
 constructor
 ·
  intro ha x hx
  obtain ⟨k,hk,e⟩:=List.mem_iff_getElem.1 hx
  obtain ⟨w,x',hw,hx',_,_,hs⟩:=h.at (k:=k) (by rw [←h.len];exact hk)
  have:x'=x:=by rw [List.getElem?_eq_getElem hk,e] at hx';exact (Option.some.inj hx').symm
  subst this
  have:=ha w (List.mem_of_getElem? hw)
  rw [hs.len];exact this
 ·
  intro ha w hw
  obtain ⟨k,hk,e⟩:=List.mem_iff_getElem.1 hw
  obtain ⟨w',x,hw',hx',_,_,hs⟩:=h.at (k:=k) (by rw [←h.1.len];exact hk)
  have:w'=w:=by rw [List.getElem?_eq_getElem hk,e] at hw';exact (Option.some.inj hw').symm
  subst this
  have:=ha x (List.mem_of_getElem? hx')
  rw [←hs.len];exact this
def zak (x y:Sg):Bool:=x.id==y.id&&(x.role==y.role&&(x.bar==y.bar&&(x.mark==y.mark&&(x.kind==y.kind&&(x.side==y.side&&(x.dir==y.dir&&(x.level==y.level&&(x.size==y.size&&(x.wth==y.wth&&(x.fn==y.fn&&(x.fd==y.fd&&(x.tn==y.tn&&(x.td==y.td&&true)))))))))))))
theorem zbd {x y:Sg}:zak x y=true↔x=y:=by
 obtain ⟨a1,a2,a3,a4,a5,a6,a7,a8,a9,a10,a11,a12,a13,a14⟩:=x
 obtain ⟨b1,b2,b3,b4,b5,b6,b7,b8,b9,b10,b11,b12,b13,b14⟩:=y
 simp [zak]
instance : DecidableEq Sg := fun a b => decidable_of_iff (zak a b = true) zbd
def zgv (r:Rd):Bool:=(r.lost&& !zak r.sg Vb)||(!r.lost&&((r.sg.id != 0)||(Wz [r.sg] != 0)))
theorem znF {r:Rd}(h:r.lost=true)(b:Bool)(h2:(!zak r.sg Vb)=b):zgv r=b:=by unfold zgv;rw [h,h2];cases b<;>rfl
theorem zt0 {r:Rd}(h:r.lost=false)(h2:(r.sg.id != 0)=true):zgv r=true:=by unfold zgv;rw [h,h2];rfl
theorem zui {r:Rd}(h:r.lost=false)(h2:(r.sg.id != 0)=false):zgv r=(Wz [r.sg] != 0):=by unfold zgv;rw [h,h2];simp
theorem zky (r:Rd):(r.lost=true∧(!zak r.sg Vb)=true)∨(r.lost=true∧(!zak r.sg Vb)=false)∨(r.lost=false∧(r.sg.id != 0)=true)∨(r.lost=false∧(r.sg.id != 0)=false):=by
 cases r.lost<;>cases (!zak r.sg Vb)<;>cases (r.sg.id != 0)<;>simp
def zm3 (l:Int)(x:Wr):Bool:=((decide (x.no≤l)||decide (x.no>1048576))||decide (x.yr<0))||decide (x.yr>3000)
def UY:Int→List Wr→Bool
 | _,[]=>true
 | l,x::xs=> !zm3 l x&&(!x.rs.any zgv&&UY x.no xs)
def WR (xs:List Wr):Int:=if xs.length>24 then 2 else if xs.any (fun x=>decide (x.rs.length>64))=true then 2 else if UY 0 xs=true then 0 else 410
theorem zvz {xs:List Wr}(h:xs.length>24):WR xs=2:=by unfold WR;rw [if_pos h]
theorem zvd {xs:List Wr}(h:¬xs.length>24)(h2:xs.any (fun x=>decide (x.rs.length>64))=true):WR xs=2:=by unfold WR;rw [if_neg h,if_pos h2]
theorem zfi {xs:List Wr}(h:¬xs.length>24)(h2:xs.any (fun x=>decide (x.rs.length>64))=false)(h3:UY 0 xs=false):WR xs=410:=by unfold WR;rw [if_neg h,h2,h3];rfl
theorem zu5 {xs:List Wr}(h:¬xs.length>24)(h2:xs.any (fun x=>decide (x.rs.length>64))=false)(h3:UY 0 xs=true):WR xs=0:=by unfold WR;rw [if_neg h,h2,h3];rfl
theorem ziM {xs:List Wr}{k:Nat}{l:Int}{x:Wr}(hx:xs[k]? =some x)(hb:zm3 l x=true):UY l (xs.drop k)=false:=by rw [Z4 hx];unfold UY;rw [hb];rfl
theorem zaV {xs:List Wr}{k:Nat}{l:Int}{x:Wr}{r:Rd}{j:Nat}(hx:xs[k]? =some x)(hr:x.rs[j]? =some r)(hb:zgv r=true):UY l (xs.drop k)=false:=by
 rw [Z4 hx];unfold UY
 rw [show x.rs.any zgv=true from List.any_eq_true.2 ⟨r,List.mem_of_getElem? hr,hb⟩];simp
theorem zgm {xs:List Wr}{k:Nat}{l:Int}{x:Wr}(hx:xs[k]? =some x)(hb:zm3 l x=false)(hr:x.rs.any zgv=false):UY l (xs.drop k)=UY x.no (xs.drop (k+1)):=by
 rw [Z4 hx]
 show (!zm3 l x&&(!x.rs.any zgv&&UY x.no (xs.drop (k+1))))=_
 rw [hb,hr];rfl
theorem zhq {xs:List Wr}{k:Nat}{l:Int}(h:xs.length≤k):UY l (xs.drop k)=true:=by rw [List.drop_eq_nil_of_le h];rfl
end
end Go.Proofs.YtodakphagkommaaGreatDoor
namespace Go.Kn
section
open Go
section
variable {C:Cx} {Q:Exit→Act→World→Prop} {E G:Env} {I I' I0:Qu} {loc loc' loc0 L R:Loc} {ops:Array Oper} {rest:List Oper} {S:GS}
variable {dst:Option Nat} {d:Nat} {ty:TypeId} {pos:String} {af:Array Edge} {gd:Option (Nat×Bool)} {x y z:Operand} {a b c:Int}
theorem zpy {k:IntKind}{ats:Array TypeId}(hx:QB S E x=some (.int k a))(hy:QB S E y=some (.int k b))(hz:QB S E z=some (.int k c)):QS C S E I loc ⟨dst,.call ⟨.builtin .min, #[x,y,z],ats⟩,ty,pos,af,gd⟩ (.int k (Ke (Ke a b) c)):=
 .of (by intro c e;cases e) fun ac w ha hg hc hw=>by
  simp only [execOp,resolve,List.map_toArray,List.map_cons,List.map_nil,Qj ha hg hc hx,Qj ha hg hc hy,Qj ha hg hc hz,Sem.run_bind,Sem.run_pure,Result.andThen,invoke,builtin];rfl
def zmj (u:Value)(want:Bool):Bool:=match u with | .bool b=>b != want | _=>true
theorem zcO {j dj:Nat}{want:Bool}{oj o:Oper}{u:Value}{N:Nat}{D:List Deferred}{a:Act}(hg:o.guard=some (j,want))(hj:ops[j]? =some oj)(hd:oj.dst=some dj)(ha:Km N D E a)(hl:VK E dj=some u)(hu:zmj u want=true):Region.wanted o (yielded ops a.tmps)=false:=by
 have h:=ha.env _ _ hl
 simp only [Region.wanted,hg]
 cases u with
 | bool b0=>
  rw [Kz hj hd h]
  cases b0<;>cases want<;>first | rfl | cases hu
 | _=>
  have hy:yielded ops a.tmps j=none:=by
   unfold yielded
   simp only [hj,Option.bind_some,hd]
   cases e:a.tmps[dj]? with
   | none=>rfl
   | some v=>
    simp [e] at h;rw [h]
  rw [hy];rfl
theorem QT {op:Op}{j dj:Nat}{want:Bool}{oj:Oper}{u:Value}(hj:ops[j]? =some oj)(hd:oj.dst=some dj)(hl:VK E dj=some u)(hu:zmj u want=true)(hN:Nat.blt d C.N=true)
  (h:XO C Q ops rest [] ((d,undef)::E) I loc):XO C Q ops (⟨some d,op,ty,pos,af,some (j,want)⟩::rest) [] E I loc:=by
 intro a w ha hg hw
 simp only [wpListIn]
 rw [zcO (o:=⟨some d,op,ty,pos,af,some (j,want)⟩) rfl hj hd ha hl hu]
 simp only [Bool.false_eq_true,if_false]
 exact ⟨fun _ _=>trivial,h _ _ (ha.put hN undef) trivial hw⟩
theorem zk3 (i:Nat){j dj fuel:Nat}{want:Bool}{oj:Oper}{listed:Array Bool}{op:Op}{u:Value}(hi:ops[i]? =some ⟨some d,op,ty,pos,af,some (j,want)⟩)(hj:ops[j]? =some oj)(hd:oj.dst=some dj)(hlk:VK E dj=some u)(hu:zmj u want=true)
  (hdf:∀ c,op≠ .defer c)(hN:Nat.blt d C.N=true)
  (hs:Region.noSelect ops=true)(hfr:Region.free .any ops listed i=true)(hr:(Region.ready .any ops listed).contains i=true)(hQ:Ui Q)(hI:HLe I0 I)(hl:Kr loc0 loc)
  (h:XD C Q ops I0 loc0 fuel (listed.setIfInBounds i true) [] ((d,undef)::E) I loc):XD C Q ops I0 loc0 (fuel+1) listed [] E I loc:=by
 intro a w ha hg hw
 have hp:=ha.put hN undef
 refine KO (v:=undef) hi hdf (Region.noSelect_spec hs) (fun c a w=>hQ c a d _ w) fuel listed a w (Region.free_spec hi hfr) (by simpa using hr) ?_ ((hw.mono hI).subL hl) (h _ _ hp trivial hw)
 exact .inr ⟨by rw [zcO (o:=⟨some d,op,ty,pos,af,some (j,want)⟩) rfl hj hd ha hlk hu],rfl⟩
theorem zW (i dj:Nat){j fuel:Nat}{want:Bool}{oj:Oper}{listed:Array Bool}{op:Op}{u:Value}(hI:HLe I0 I)(h:XD C Q ops I0 loc0 fuel (listed.setIfInBounds i true) [] ((d,undef)::E) I loc)(hi:ops[i]? =some ⟨some d,op,ty,pos,af,some (j,want)⟩:=by exact rfl)(hj:ops[j]? =some oj:=by exact rfl)(hd:oj.dst=some dj:=by exact rfl)(hlk:VK E dj=some u:=by exact rfl)(hu:zmj u want=true:=by exact rfl)
  (hdf:∀ c,op≠ .defer c:=by (intro c e;cases e))(hN:Nat.blt d C.N=true:=by exact rfl)(hs:Region.noSelect ops=true:=by kernel_rfl)(hfr:Region.free .any ops listed i=true:=by kernel_rfl)(hr:(Region.ready .any ops listed).contains i=true:=by kernel_rfl)(hQ:Ui Q:=by exact ziG)(hl:Kr loc0 loc:=by repeat (first | exact .refl | exact U6 | refine .keep ?_ | refine .drop ?_ | refine Z6 ?_)):XD C Q ops I0 loc0 (fuel+1) listed [] E I loc:=zk3 i hi hj hd hlk hu hdf hN hs hfr hr hQ hI hl h
end
end
end Go.Kn
namespace Go.Proofs.YtodakphagkommaaGreatDoor
section
open Go Go.Kn Go.Proofs
theorem zaF:AgT Tryz.prog 65 3:=.of (by kernel_rfl)
theorem K8:ElT Tryz.prog 48 54 14 112:=.of (by kernel_rfl)
theorem X6:zwz Tryz.prog 54 [.int,.int,.int,.int,.int,.int,.int,.int,.int,.int,.int,.int,.int,.int]:=⟨by kernel_rfl,by kernel_rfl,by kernel_rfl,by kernel_rfl⟩
theorem zbp:QX Tryz.prog 65 0 0:=.of (by kernel_rfl)
theorem zff:QX Tryz.prog 65 1 1:=.of (by kernel_rfl)
theorem zdr:Fun Tryz.prog 102:=.of Tryz.func102 (by kernel_rfl) (by kernel_rfl)
theorem zio:SzT Tryz.prog 65 3:=.of (by kernel_rfl)
theorem zpW:Yn Tryz.prog 65 (.agg #[(.int .i64 0),(.int .i64 0),(.slice none 0 0)]):=.of (by kernel_rfl)
theorem ztW {I:Qu}{av:Option Addr}{n c:Nat}{xs:List Wr}(hW:SlW I av n c xs)(hn:n≤100000):Zx Tryz.prog 58 [.slice av n c] I (.int .i64 (WR xs)):=by
 intro g H w hw
 refine qe Tryz.func58 Tryz.ntmps58 hw ?_
 have hIc:=zyv I
 obtain ⟨ws,hW⟩:=hW
 have hH:=hW.1
 have hlW:=hW.len
 refine zR (zA (zN (Ql (zR ?_))))
 refine zM ?_
 refine zQ Vg ?_
 refine zC (zN ?_)
 refine zI ?_ ?_<;>intro hc12
 ·
  have h1:xs.length>24:=by rw [hlW];simp at hc12;omega
  refine zR (zA (zN (Qs (Qc ?_))))
  exact zp hIc rfl rfl (by rw [zvz h1])
 have h1:¬xs.length>24:=by rw [hlW];simp at hc12;omega
 refine Qo (Qa (Ql (zR (zM ?_))))
 refine zQ Vg ?_
 refine zM (zN (Qm ?_))
 refine zU [(0,_),(13,_),(14,_)] (fun T L0 mz E I' loc'=>∃ (k:Nat),mz=n-k∧E=(15,.int .i64 k)::T∧I=I'∧L0=loc'∧k≤n∧(xs.take k).any (fun x=>decide (x.rs.length>64))=false) ?_ (h:=⟨0,rfl,rfl,rfl,rfl,Nat.zero_le _,rfl⟩)
 rintro mz E I' loc' ⟨k,rfl,rfl,rfl,rfl,hk,hno⟩
 refine zR (zC (zN (Ql ?_)))
 refine zI ?_ ?_<;>intro hc16
 ·
  have hlt_k:k<n:=by have h:=hc16;simp at h;omega
  obtain ⟨w,x,hx,hv,e1,e2,hR⟩:=hW.at hlt_k
  refine Qo (Qa (Ql (Qm (zR ?_))))
  refine zV (zX Vg hH) ?_
  refine zV (Qp rfl zaF (fun hg=>by exact zyw hH hx) rfl) ?_
  refine Qr zpW rfl rfl (fun b_4=>?_)
  refine zh zio ?_
  refine zN (zR ?_)
  refine zF UR ?_
  refine zL zcP ?_
  refine zQ XF ?_
  refine zC (zN ?_)
  refine zI ?_ ?_<;>intro hc22
  ·
   have h2:xs.any (fun x=>decide (x.rs.length>64))=true:=JU hv (by rw [hR.len];have h:=hc22;simp at h ⊢;omega)
   refine zR (zA (zN (Qs (Qn (Qc (Qc (Qn ?_)))))))
   refine Qc ?_
   exact zp hIc rfl rfl (by rw [zvd h1 h2])
  refine Qo (Qh (Qa (Qg (zB ?_))))
  refine zM (Qb ?_)
  exact zm (h:=⟨n-(k+1),by omega,k+1,rfl,rfl,rfl,rfl,by omega,YX hv hno (by rw [hR.len];have h:=hc22;simp at h ⊢;omega)⟩)
 have hge_k:n≤k:=by have h:=hc16;simp at h;omega
 rw [ZF hlW hge_k] at hno
 refine QH (Qe (Qe (Qk (Qa (zR (zA (zN ?_)))))))
 refine Ql (zR (zM ?_))
 refine zQ Vg ?_
 refine zM (zN (Qm ?_))
 refine zU [(24,_),(25,_)] (fun T L0 mz E I' loc'=>∃ (k:Nat) (l:Int),mz=n-k∧E=(5,.int .i64 l)::(26,.int .i64 k)::T∧HLe I I'∧L0=loc'∧k≤n∧UY 0 xs=UY l (xs.drop k)) ?_ (h:=⟨0,0,rfl,rfl,zyv _,rfl,Nat.zero_le _,rfl⟩)
 rintro mz E J2 loc' ⟨k,l,rfl,rfl,hJ,rfl,hk,hgo⟩
 have hW:=hW.mono hJ;have hH:=hH.mono hJ;have hIc:=hIc.trans hJ
 have hB2:=hJ
 refine zR (zC (zN (Ql ?_)))
 refine zI ?_ ?_<;>intro hc27
 ·
  have hlt_k:k<n:=by have h:=hc27;simp at h;omega
  obtain ⟨w,x,hx,hv,e1,e2,hR⟩:=hW.at hlt_k
  have hrn:=hR.len
  have hR64:w.n≤64:=by have:=List.any_eq_false.1 hno x (List.mem_of_getElem? hv);simp at this;omega
  refine Qo (Qa (Ql (Qm (zR ?_))))
  refine zV (zX Vg hH) ?_
  refine zV (Qp rfl zaF (fun hg=>by exact zyw hH hx) rfl) ?_
  refine Qr zpW rfl rfl (fun b_7=>?_)
  refine zh zio ?_
  refine zN (Ql (zR ?_))
  refine zF zbp ?_
  refine zL Qt ?_
  refine zM ?_
  refine zC ?_
  refine zM ?_
  refine Q0 4 rfl rfl rfl ?_
  refine zJ (Qf rfl zbp) ?_
  refine zJ (Qd rfl Qt (fun hg=>by exact QV.h0 rfl)) ?_
  refine zJ (QJ rfl rfl rfl) ?_
  refine ZA rfl rfl rfl rfl rfl ?_
  refine zM ?_
  refine Q0 9 rfl rfl rfl ?_
  refine zJ (Qf rfl zff) ?_
  refine zJ (Qd rfl Qt (fun hg=>by exact QV.h0 rfl)) ?_
  refine zJ (QJ rfl rfl rfl) ?_
  refine ZA rfl rfl rfl rfl rfl ?_
  refine zM ?_
  refine Q0 14 rfl rfl rfl ?_
  refine zJ (Qf rfl zff) ?_
  refine zJ (Qd rfl Qt (fun hg=>by exact QV.h0 rfl)) ?_
  refine zJ (QJ rfl rfl rfl) ?_
  refine ZA rfl rfl rfl rfl rfl ?_
  refine zN ?_
  refine zI ?_ ?_<;>intro hc48
  ·
   have hbw:zm3 l x=true:=by unfold zm3;rw [←e1,←e2];exact hc48
   refine zR (zA (zN (Qs (Qc (Qn (Qc (Qc ?_)))))))
   refine Qn (Qc ?_)
   exact zp hIc rfl rfl (by rw [zfi h1 hno (hgo.trans (ziM hv hbw))])
  have hbw:zm3 l x=false:=by unfold zm3;rw [←e1,←e2];exact hc48
  refine Qo (Qa (zR ?_))
  refine zF zbp ?_
  refine zL Qt ?_
  refine zA ?_
  refine zN (zR ?_)
  refine zF UR ?_
  refine zL zcP ?_
  refine zQ XF ?_
  refine zM (zN (Qm ?_))
  refine zU [(5,_),(24,_),(25,_),(26,_),(52,_),(53,_)] (fun T L0 mz E I' loc'=>∃ (j:Nat),mz=w.n-j∧E=(54,.int .i64 j)::T∧HLe J2 I'∧[(b_7,.cells (zkk w).toArray 65 (0,0))]=loc'∧j≤w.n∧(x.rs.take j).any zgv=false) ?_ (h:=⟨0,rfl,rfl,zyv _,rfl,Nat.zero_le _,rfl⟩)
  rintro mz E J3 loc' ⟨j,rfl,rfl,hJ,rfl,hj,hnr⟩
  have hR:=hR.mono hJ;have hIc:=hIc.trans hJ;have hB2:=hB2.trans hJ
  have hB4:=hJ
  refine zR (zC (zN (Ql ?_)))
  refine zI ?_ ?_<;>intro hc55
  ·
   have hlt_j:j<w.n:=by have h:=hc55;simp at h;omega
   obtain ⟨r,hr⟩:=hR.at hlt_j
   refine Qo (Qa (Ql (Qm (zR ?_))))
   refine zV (zX XF hR) ?_
   refine zV (Qp rfl ze0 (fun hg=>by exact zyw hR hr) rfl) ?_
   refine Qr zln rfl rfl (fun b_9=>?_)
   refine zh zeR ?_
   refine zN (Ql ?_)
   obtain ⟨hlo,hz⟩ | ⟨hlo,hz⟩ | ⟨hlo,hz⟩ | ⟨hlo,hz⟩:=zky r
   ·
    have hbr:=znF hlo true hz
    refine Qg ?_
    refine zF V3 ?_
    refine zL zbc ?_
    rw [hlo]
    refine zM ?_
    refine QM (dj:=60) rfl rfl rfl ?_
    refine zF Jv ?_
    refine QM (dj:=60) rfl rfl rfl ?_
    refine zV (Qp rfl ZK (fun hg=>by exact Cells.s0 (vs:=[_,_,_,_,_,_,_,_,_,_,_,_,_,_]) rfl) rfl) ?_
    refine QM (dj:=60) rfl rfl rfl ?_
    refine zV (QR (ps:=[]) [_,_,_,_,_,_,_,_,_,_,_,_,_,_] UF rfl rfl) ?_
    refine QM (dj:=60) rfl rfl rfl ?_
    refine zV (v:=.bool (!zak r.sg Vb)) (zjZ rfl rfl X6 rfl) ?_
    rw [hz]
    refine zV (ZL rfl rfl rfl) ?_
    refine zM ?_
    refine QT (dj:=66) rfl rfl rfl rfl rfl ?_
    refine QT (dj:=66) rfl rfl rfl rfl rfl ?_
    refine QT (dj:=66) rfl rfl rfl rfl rfl ?_
    refine QT (dj:=66) rfl rfl rfl rfl rfl ?_
    refine QT (dj:=70) rfl rfl rfl rfl rfl ?_
    refine QT (dj:=70) rfl rfl rfl rfl rfl ?_
    refine QT (dj:=70) rfl rfl rfl rfl rfl ?_
    refine QT (dj:=70) rfl rfl rfl rfl rfl ?_
    refine QT (dj:=70) rfl rfl rfl rfl rfl ?_
    refine QT (dj:=75) rfl rfl rfl rfl rfl ?_
    refine QT (dj:=75) rfl rfl rfl rfl rfl ?_
    refine QT (dj:=75) rfl rfl rfl rfl rfl ?_
    refine QT (dj:=75) rfl rfl rfl rfl rfl ?_
    refine QT (dj:=75) rfl rfl rfl rfl rfl ?_
    refine QT (dj:=70) rfl rfl rfl rfl rfl ?_
    refine QT (dj:=66) rfl rfl rfl rfl rfl ?_
    refine zV (YR rfl rfl rfl) ?_
    refine zN ?_
    refine zI ?_ ?_<;>intro hc83
    ·
     refine zR (zA (zN (Qs (Qn (Qc (Qc (Qn ?_)))))))
     refine Qn (Qc (Qc (Qn (Qc ?_))))
     exact zp hIc rfl rfl (by rw [zfi h1 hno (hgo.trans (zaV hv hr hbr))])
    cases hc83
   ·
    have hbr:=znF hlo false hz
    refine Qg ?_
    refine zF V3 ?_
    refine zL zbc ?_
    rw [hlo]
    refine zM ?_
    refine QM (dj:=60) rfl rfl rfl ?_
    refine zF Jv ?_
    refine QM (dj:=60) rfl rfl rfl ?_
    refine zV (Qp rfl ZK (fun hg=>by exact Cells.s0 (vs:=[_,_,_,_,_,_,_,_,_,_,_,_,_,_]) rfl) rfl) ?_
    refine QM (dj:=60) rfl rfl rfl ?_
    refine zV (QR (ps:=[]) [_,_,_,_,_,_,_,_,_,_,_,_,_,_] UF rfl rfl) ?_
    refine QM (dj:=60) rfl rfl rfl ?_
    refine zV (v:=.bool (!zak r.sg Vb)) (zjZ rfl rfl X6 rfl) ?_
    rw [hz]
    refine zV (ZL rfl rfl rfl) ?_
    refine zM ?_
    refine QM (dj:=66) rfl rfl rfl ?_
    refine zF V3 ?_
    refine QM (dj:=66) rfl rfl rfl ?_
    refine zL zbc ?_
    rw [hlo]
    refine QM (dj:=66) rfl rfl rfl ?_
    refine zO ?_
    refine QM (dj:=66) rfl rfl rfl ?_
    refine zM ?_
    refine QT (dj:=70) rfl rfl rfl rfl rfl ?_
    refine QT (dj:=70) rfl rfl rfl rfl rfl ?_
    refine QT (dj:=70) rfl rfl rfl rfl rfl ?_
    refine QT (dj:=70) rfl rfl rfl rfl rfl ?_
    refine QT (dj:=70) rfl rfl rfl rfl rfl ?_
    refine QT (dj:=75) rfl rfl rfl rfl rfl ?_
    refine QT (dj:=75) rfl rfl rfl rfl rfl ?_
    refine QT (dj:=75) rfl rfl rfl rfl rfl ?_
    refine QT (dj:=75) rfl rfl rfl rfl rfl ?_
    refine QT (dj:=75) rfl rfl rfl rfl rfl ?_
    refine QT (dj:=70) rfl rfl rfl rfl rfl ?_
    refine QM (dj:=66) rfl rfl rfl ?_
    refine zV (YR rfl rfl rfl) ?_
    refine zV (ZL rfl rfl rfl) ?_
    refine zN ?_
    refine zI ?_ ?_<;>intro hc83
    ·
     cases hc83
    refine Qo (Qh (Qa (Qg (zB ?_))))
    refine zM (Qb ?_)
    exact zm (h:=⟨w.n-(j+1),by omega,j+1,rfl,rfl,hB4,rfl,by omega,YX hr hnr hbr⟩)
   ·
    have hbr:=zt0 hlo hz
    refine Qg ?_
    refine zF V3 ?_
    refine zL zbc ?_
    rw [hlo]
    refine zM ?_
    refine QT (dj:=60) rfl rfl rfl rfl rfl ?_
    refine QT (dj:=60) rfl rfl rfl rfl rfl ?_
    refine QT (dj:=60) rfl rfl rfl rfl rfl ?_
    refine QT (dj:=60) rfl rfl rfl rfl rfl ?_
    refine zV (YR rfl rfl rfl) ?_
    refine zM ?_
    refine QM (dj:=66) rfl rfl rfl ?_
    refine zF V3 ?_
    refine QM (dj:=66) rfl rfl rfl ?_
    refine zL zbc ?_
    rw [hlo]
    refine QM (dj:=66) rfl rfl rfl ?_
    refine zO ?_
    refine QM (dj:=66) rfl rfl rfl ?_
    refine zM ?_
    refine QM (dj:=70) rfl rfl rfl ?_
    refine zF Jv ?_
    refine QM (dj:=70) rfl rfl rfl ?_
    refine zF ZO ?_
    refine QM (dj:=70) rfl rfl rfl ?_
    refine zL Qt ?_
    refine QM (dj:=70) rfl rfl rfl ?_
    refine zC ?_
    rw [hz]
    refine QM (dj:=70) rfl rfl rfl ?_
    refine zM ?_
    refine QT (dj:=75) rfl rfl rfl rfl rfl ?_
    refine QT (dj:=75) rfl rfl rfl rfl rfl ?_
    refine QT (dj:=75) rfl rfl rfl rfl rfl ?_
    refine QT (dj:=75) rfl rfl rfl rfl rfl ?_
    refine QT (dj:=75) rfl rfl rfl rfl rfl ?_
    refine QM (dj:=70) rfl rfl rfl ?_
    refine zV (YR rfl rfl rfl) ?_
    refine QM (dj:=66) rfl rfl rfl ?_
    refine zV (ZL rfl rfl rfl) ?_
    refine zV (ZL rfl rfl rfl) ?_
    refine zN ?_
    refine zI ?_ ?_<;>intro hc83
    ·
     refine zR (zA (zN (Qs (Qn (Qc (Qc (Qn ?_)))))))
     refine Qn (Qc (Qc (Qn (Qc ?_))))
     exact zp hIc rfl rfl (by rw [zfi h1 hno (hgo.trans (zaV hv hr hbr))])
    cases hc83
   have hbr:=zui hlo hz
   refine Qg ?_
   refine zF V3 ?_
   refine zL zbc ?_
   rw [hlo]
   refine zM ?_
   refine QT (dj:=60) rfl rfl rfl rfl rfl ?_
   refine QT (dj:=60) rfl rfl rfl rfl rfl ?_
   refine QT (dj:=60) rfl rfl rfl rfl rfl ?_
   refine QT (dj:=60) rfl rfl rfl rfl rfl ?_
   refine zV (YR rfl rfl rfl) ?_
   refine zM ?_
   refine QM (dj:=66) rfl rfl rfl ?_
   refine zF V3 ?_
   refine QM (dj:=66) rfl rfl rfl ?_
   refine zL zbc ?_
   rw [hlo]
   refine QM (dj:=66) rfl rfl rfl ?_
   refine zO ?_
   refine QM (dj:=66) rfl rfl rfl ?_
   refine zM ?_
   refine QM (dj:=70) rfl rfl rfl ?_
   refine zF Jv ?_
   refine QM (dj:=70) rfl rfl rfl ?_
   refine zF ZO ?_
   refine QM (dj:=70) rfl rfl rfl ?_
   refine zL Qt ?_
   refine QM (dj:=70) rfl rfl rfl ?_
   refine zC ?_
   rw [hz]
   refine QM (dj:=70) rfl rfl rfl ?_
   refine zM ?_
   refine QM (dj:=75) rfl rfl rfl ?_
   refine zF Jv ?_
   refine QM (dj:=75) rfl rfl rfl ?_
   refine zV (Qp rfl ZK (fun hg=>by exact Cells.s0 (vs:=[_,_,_,_,_,_,_,_,_,_,_,_,_,_]) rfl) rfl) ?_
   refine QM (dj:=75) rfl rfl rfl ?_
   refine Qq (ps:=[(0,_)]) (m:=[YZ r.sg]) K8 rfl (.cons rfl (.nil)) rfl (by simp [Z5]) (by decide) (by decide) rfl rfl (fun b_78=>?_)
   refine ZR (b:=b_78) (by repeat (first | exact Q8.here | apply Q8.there)) (fun I4 hI4 hb4=>?_)
   have hIc:=hIc.trans hI4;have hB4:=hB4.trans hI4
   have hSg:Sl I4 14 YZ (some ⟨b_78,0,none⟩) 1 1 [r.sg]:=Sl.lit [r.sg] rfl Z5 (show _=some (Obj.cells ([r.sg].flatMap YZ).toArray 54 (0,0)) from hb4)
   refine QM (dj:=75) rfl rfl rfl ?_
   refine qc (vs:=[_]) rfl zdr (zeB hSg (by decide)) ?_
   refine QM (dj:=75) rfl rfl rfl ?_
   refine zC ?_
   refine QM (dj:=70) rfl rfl rfl ?_
   refine zV (ZL rfl rfl rfl) ?_
   refine QM (dj:=66) rfl rfl rfl ?_
   refine zV (ZL rfl rfl rfl) ?_
   refine zV (ZL rfl rfl rfl) ?_
   refine zN ?_
   refine zI ?_ ?_<;>intro hc83
   ·
    have hbr:=hbr.trans hc83
    refine zR (zA (zN (Qs (Qn (Qc (Qc (Qn ?_)))))))
    refine Qn (Qc (Qc (Qn (Qc ?_))))
    exact zp hIc rfl rfl (by rw [zfi h1 hno (hgo.trans (zaV hv hr hbr))])
   have hbr:=hbr.trans hc83
   refine Qo (Qh (Qa (Qg (zB ?_))))
   refine zM (Qb ?_)
   exact zm (h:=⟨w.n-(j+1),by omega,j+1,rfl,rfl,hB4,rfl,by omega,YX hr hnr hbr⟩)
  have hge_j:w.n≤j:=by have h:=hc55;simp at h;omega
  rw [ZF hrn hge_j] at hnr
  refine QH (Qe (Qe (Qk (Qh (Qa (Qg (zB ?_)))))))
  refine zM (Qb ?_)
  exact zm (h:=⟨n-(k+1),by omega,k+1,_,rfl,rfl,hB2,rfl,by omega,by rw [hgo,zgm hv hbw hnr,e1]⟩)
 have hge_k:n≤k:=by have h:=hc27;simp at h;omega
 rw [zhq (by omega)] at hgo
 refine QH (Qe (Qe (Qk (Qa (zR (zA (zN ?_)))))))
 refine Qs ?_
 exact zp hIc rfl rfl (by rw [zu5 h1 hno hgo])
end
section
open Go Go.Kn Go.Proofs
def lcG:Nat→List Int→List Int→Int
 | _,[],ys=>2*(ys.length:Int)
 | _,x::xs,[]=>2*((x::xs).length:Int)
 | 0,_::_,_::_=>0
 | f+1,x::xs,y::ys=>Ke (Ke (zeN x y+lcG f xs ys) (2+lcG f xs (y::ys))) (2+lcG f (x::xs) ys)
theorem V4:∀ (f:Nat) (xs ys:List Int),xs.length+ys.length≤f→lcG f xs ys=lcG (xs.length+ys.length) xs ys
 | _,[],ys,_=>by simp [lcG]
 | _,x::xs,[],_=>by simp [lcG]
 | 0,_::_,_::_,h=>by simp at h
 | f+1,x::xs,y::ys,h=>by
  simp only [List.length_cons] at h
  have e:(x::xs).length+(y::ys).length=(xs.length+ys.length+1)+1:=by simp only [List.length_cons];omega
  rw [e]
  simp only [lcG]
  rw [V4 f xs ys (by omega),V4 f xs (y::ys) (by simp only [List.length_cons];omega),V4 f (x::xs) ys (by simp only [List.length_cons];omega)]
  rw [V4 (xs.length+ys.length+1) xs ys (by omega),V4 (xs.length+ys.length+1) xs (y::ys) (by simp only [List.length_cons];omega),V4 (xs.length+ys.length+1) (x::xs) ys (by simp only [List.length_cons];omega)]
theorem zdD (x y:Int):0≤zeN x y∧zeN x y≤3:=by unfold zeN;split<;>omega
theorem zjo {a b:Int}:Ke a b≤a∧Ke a b≤b∧(Ke a b=a∨Ke a b=b):=by unfold Ke;split<;>omega
theorem zfg:∀ (f:Nat) (xs ys:List Int),0≤lcG f xs ys∧lcG f xs ys≤2*((xs.length:Int)+ys.length)
 | _,[],ys=>by simp only [lcG,List.length_nil];omega
 | _,x::xs,[]=>by simp only [lcG,List.length_nil];omega
 | 0,_::_,_::_=>by simp only [lcG];omega
 | f+1,x::xs,y::ys=>by
  have h1:=zfg f xs ys
  have h2:=zfg f xs (y::ys)
  have h3:=zfg f (x::xs) ys
  have hb:=zdD x y
  simp only [lcG]
  have m1:=@zjo (zeN x y+lcG f xs ys) (2+lcG f xs (y::ys))
  have m2:=@zjo (Ke (zeN x y+lcG f xs ys) (2+lcG f xs (y::ys))) (2+lcG f (x::xs) ys)
  simp only [List.length_cons] at*
  omega
def LC (a b:List Int)(i k:Nat):Int:=lcG ((a.drop i).length+(b.drop k).length) (a.drop i) (b.drop k)
theorem ziE {a b:List Int}{i k:Nat}(hi:i≤a.length)(hk:k≤b.length)(h:i=a.length∨k=b.length):LC a b i k=2*((a.length:Int)-i+b.length-k):=by
 unfold LC
 rcases h with rfl | rfl
 ·
  rw [List.drop_length];simp only [lcG,List.length_drop];omega
 ·
  rw [List.drop_length]
  cases h:a.drop i with
  | nil=>have:=congrArg List.length h;simp at this;simp only [lcG,List.length_nil];omega
  | cons x xs=>have:=congrArg List.length h;simp only [List.length_drop] at this;simp only [lcG];omega
theorem zq5 {a b:List Int}{i k:Nat}{x y:Int}(hx:a[i]? =some x)(hy:b[k]? =some y):LC a b i k=Ke (Ke (zeN x y+LC a b (i+1) (k+1)) (2+LC a b (i+1) k)) (2+LC a b i (k+1)):=by
 unfold LC
 rw [Z4 hx,Z4 hy]
 have e:(x::a.drop (i+1)).length+(y::b.drop (k+1)).length=((a.drop (i+1)).length+(b.drop (k+1)).length+1)+1:=by simp only [List.length_cons];omega
 rw [e]
 simp only [lcG]
 rw [V4 (_+1) (a.drop (i+1)) (b.drop (k+1)) (by omega),V4 (_+1) (a.drop (i+1)) (y::b.drop (k+1)) (by simp only [List.length_cons];omega),V4 (_+1) (x::a.drop (i+1)) (b.drop (k+1)) (by simp only [List.length_cons];omega)]
theorem zwf (a b:List Int)(i k:Nat):0≤LC a b i k∧LC a b i k≤2*((a.length:Int)+b.length):=by
 have h:=zfg ((a.drop i).length+(b.drop k).length) (a.drop i) (b.drop k)
 unfold LC
 simp only [List.length_drop] at*
 omega
def UP (a b:List Int)(i k:Nat)(v:Int):Prop:=v=LC a b i k
theorem UP.inn {a b:List Int}{i k:Nat}{v:Int}(h:UP a b i k v):0≤v∧v≤2*((a.length:Int)+b.length):=by unfold UP at h;rw [h];exact zwf a b i k
theorem UP.fin {a b:List Int}{i k:Nat}(hi:i≤a.length)(hk:k≤b.length)(h:i=a.length∨k=b.length):UP a b i k (2*((a.length:Int)-i+b.length-k)):=(ziE hi hk h).symm
theorem UP.step {a b:List Int}{i k:Nat}{x y A B C:Int}(hx:a[i]? =some x)(hy:b[k]? =some y)(hA:UP a b (i+1) (k+1) A)(hB:UP a b (i+1) k B)(hC:UP a b i (k+1) C):UP a b i k (Ke (Ke (zeN x y+A) (2+B)) (2+C)):=by
 unfold UP at*;rw [zq5 hx hy,hA,hB,hC]
def MOK (a b:List Int)(m:List ((Int×Int)×Int)):Prop:=∀ (i k:Nat) (v:Int),ZC m ((i:Int),(k:Int))=some v→UP a b i k v
theorem MOK.nil {a b:List Int}:MOK a b []:=fun _ _ _ h=>by cases h
theorem MOK.set {a b:List Int}{m:List ((Int×Int)×Int)}(h:MOK a b m){i k:Nat}{v:Int}(hv:UP a b i k v):MOK a b (Yv m ((i:Int),(k:Int)) v):=fun i' k' v' e=>by
 rw [YA] at e
 split at e
 ·
  rename_i h2
  simp only [Prod.mk.injEq] at h2
  obtain ⟨rfl,rfl⟩:i=i'∧k=k':=by omega
  cases e;exact hv
 ·
  exact h i' k' v' e
structure LsE (I:Qu)(fid ba bb bk bs r:Nat)(av bv:Option Addr)(n c n2 c2:Nat)(xs ys:List Int):Prop where
 a:QV I [] ba 0 (.slice av n c)
 b:QV I [] bb 0 (.slice bv n2 c2)
 kn:QV I [] bk 0 (.map (some r))
 se:QV I [] bs 0 (.func (.func fid) #[] #[Za ba,Za bb,Za bk,Za bs])
 hA:Sl I 1 QP av n c xs
 hB:Sl I 1 QP bv n2 c2 ys
theorem LsE.mono {I I':Qu}{fid ba bb bk bs r:Nat}{av bv:Option Addr}{n c n2 c2:Nat}{xs ys:List Int}(h:LsE I fid ba bb bk bs r av bv n c n2 c2 xs ys)(hI:HLe I I'):LsE I' fid ba bb bk bs r av bv n c n2 c2 xs ys:=
 ⟨h.a.mono hI,h.b.mono hI,h.kn.mono hI,h.se.mono hI,h.hA.mono hI,h.hB.mono hI⟩
def zcb:Int→Value:=Value.int .i64
/-! ### The pairs -/
def VO (p:Int×Int):List Value:=[.int .i64 p.1,.int .i64 p.2]
theorem Kd (p:Int×Int):(VO p).length=2:=rfl
theorem zgn (xs:List (Int×Int)):Yq (xs.flatMap VO)=true:=Yk (fun _=>rfl) xs
def WV (a b:List Int)(i k:Nat):Bool:=decide (i<a.length)&&decide (k<b.length)&&(LC a b i k==zeN (a.getD i 0) (b.getD k 0)+LC a b (i+1) (k+1))
def zgE (a b:List Int)(i k:Nat):Bool:=decide (i<a.length)&&(LC a b i k==2+LC a b (i+1) k)
def paF (a b:List Int):Nat→Nat→Nat→List (Int×Int)
 | 0,_,_=>[]
 | f+1,i,k=>
  if (decide (i<a.length)||decide (k<b.length))=true then
   if WV a b i k=true then (((i+1:Nat):Int),((k+1:Nat):Int))::paF a b f (i+1) (k+1)
   else if zgE a b i k=true then (((i+1:Nat):Int),0)::paF a b f (i+1) k
   else (0,((k+1:Nat):Int))::paF a b f i (k+1)
  else []
def PaQ (a b:List Int)(pre:List (Int×Int))(i k:Nat):Prop:=∃ f,a.length-i+(b.length-k)≤f∧paF a b (a.length+b.length) 0 0=pre++paF a b f i k
theorem PaQ.start {a b:List Int}:PaQ a b [] 0 0:=⟨a.length+b.length,by omega,rfl⟩
theorem PaQ.fin {a b:List Int}{pre:List (Int×Int)}{i k:Nat}(h:PaQ a b pre i k)(hi:a.length≤i)(hk:b.length≤k):paF a b (a.length+b.length) 0 0=pre:=by
 obtain ⟨f,_,e⟩:=h
 rw [e]
 cases f with
 | zero=>simp [paF]
 | succ f=>unfold paF;rw [if_neg (by simp;omega),List.append_nil]
theorem PaQ.fuel {a b:List Int}{pre:List (Int×Int)}{i k:Nat}(h:PaQ a b pre i k)(hg:i<a.length∨k<b.length):∃ f,a.length-i+(b.length-k)≤f+1∧paF a b (a.length+b.length) 0 0=pre++paF a b (f+1) i k:=by
 obtain ⟨f,hf,e⟩:=h
 cases f with
 | zero=>omega
 | succ f=>exact ⟨f,hf,e⟩
theorem PaQ.both {a b:List Int}{pre:List (Int×Int)}{i k:Nat}(h:PaQ a b pre i k)(hb:WV a b i k=true):PaQ a b (pre++[(((i+1:Nat):Int),((k+1:Nat):Int))]) (i+1) (k+1):=by
 have h1:i<a.length∧k<b.length:=by unfold WV at hb;simp at hb;omega
 obtain ⟨f,hf,e⟩:=h.fuel (.inl h1.1)
 refine ⟨f,by omega,?_⟩
 rw [e]
 show pre++(if (decide (i<a.length)||decide (k<b.length))=true then _ else _)=_
 rw [if_pos (by simp;omega),if_pos hb,List.append_assoc];rfl
theorem PaQ.one {a b:List Int}{pre:List (Int×Int)}{i k:Nat}(h:PaQ a b pre i k)(hb:WV a b i k=false)(ho:zgE a b i k=true):PaQ a b (pre++[(((i+1:Nat):Int),0)]) (i+1) k:=by
 have h1:i<a.length:=by unfold zgE at ho;simp at ho;omega
 obtain ⟨f,hf,e⟩:=h.fuel (.inl h1)
 refine ⟨f,by omega,?_⟩
 rw [e]
 show pre++(if (decide (i<a.length)||decide (k<b.length))=true then _ else _)=_
 rw [if_pos (by simp;omega),if_neg (by rw [hb];decide),if_pos ho,List.append_assoc];rfl
theorem zhw {a b:List Int}{i k:Nat}(hi:i≤a.length)(hk:k≤b.length)(hg:i<a.length∨k<b.length)(_hb:WV a b i k=false)(ho:zgE a b i k=false):k<b.length:=by
 by_cases h:k<b.length
 ·
  exact h
 ·
  have hia:i<a.length:=by omega
  have e1:=ziE (a:=a) (b:=b) hi hk (.inr (by omega))
  have e2:=ziE (a:=a) (b:=b) (i:=i+1) (by omega) hk (.inr (by omega))
  unfold zgE at ho
  simp only [Bool.and_eq_false_iff,decide_eq_false_iff_not,beq_eq_false_iff_ne] at ho
  rcases ho with ho | ho
  ·
   omega
  ·
   omega
theorem PaQ.two {a b:List Int}{pre:List (Int×Int)}{i k:Nat}(h:PaQ a b pre i k)(hg:k<b.length)(hb:WV a b i k=false)(ho:zgE a b i k=false):PaQ a b (pre++[(0,((k+1:Nat):Int))]) i (k+1):=by
 obtain ⟨f,hf,e⟩:=h.fuel (.inr hg)
 refine ⟨f,by omega,?_⟩
 rw [e]
 show pre++(if (decide (i<a.length)||decide (k<b.length))=true then _ else _)=_
 rw [if_pos (by simp;omega),if_neg (by rw [hb];decide),if_neg (by rw [ho];decide),List.append_assoc];rfl
def zme (a b:List Int):List (Int×Int):=paF a b (a.length+b.length) 0 0
def zdq (c:Int):Bool:=(Uv c != 0)&&(c != 8589934592)
def Xz (a b:List Int):Int:=if a.length>64∨b.length>64 then 2 else if (a.any zdq||b.any zdq)=true then 410 else 0
theorem zlJ {i k n m:Nat}(h:i<n∨k<m):(decide ((i:Int)<(n:Int))=true∧decide ((k:Int)<(m:Int))=true∧i<n∧k<m)∨(decide ((i:Int)<(n:Int))=true∧decide ((k:Int)<(m:Int))=false∧i<n∧m≤k)∨(decide ((i:Int)<(n:Int))=false∧decide ((k:Int)<(m:Int))=true∧n≤i∧k<m):=by
 by_cases h1:i<n
 ·
  by_cases h2:k<m
  ·
   exact .inl ⟨decide_eq_true (by omega),decide_eq_true (by omega),h1,h2⟩
  ·
   exact .inr (.inl ⟨decide_eq_true (by omega),decide_eq_false (by omega),h1,by omega⟩)
 ·
  exact .inr (.inr ⟨decide_eq_false (by omega),decide_eq_true (by omega),by omega,by omega⟩)
theorem zfP {a b:List Int}{i k:Nat}{x y V A:Int}{t:Bool}(hx:a[i]? =some x)(hy:b[k]? =some y)(hV:UP a b i k V)(hA:UP a b (i+1) (k+1) A)(h:(V==zeN x y+A)=t):WV a b i k=t:=by
 have h1:=(List.getElem?_eq_some_iff.1 hx).1
 have h2:=(List.getElem?_eq_some_iff.1 hy).1
 unfold UP at hV hA
 unfold WV
 rw [Q1 hx,Q1 hy,←hV,←hA,h,decide_eq_true h1,decide_eq_true h2];rfl
theorem zfd {a b:List Int}{i k:Nat}(h:a.length≤i∨b.length≤k):WV a b i k=false:=by
 unfold WV
 rcases h with h | h
 ·
  rw [decide_eq_false (show ¬i<a.length by omega)];rfl
 ·
  rw [decide_eq_false (show ¬k<b.length by omega),Bool.and_false];rfl
theorem zbY {a b:List Int}{i k:Nat}{V B:Int}{t:Bool}(hi:i<a.length)(hV:UP a b i k V)(hB:UP a b (i+1) k B)(h:(V==2+B)=t):zgE a b i k=t:=by
 unfold UP at hV hB
 unfold zgE
 rw [←hV,←hB,h,decide_eq_true hi];rfl
theorem zre {a b:List Int}{i k:Nat}(h:a.length≤i):zgE a b i k=false:=by
 unfold zgE
 rw [decide_eq_false (show ¬i<a.length by omega)];rfl
theorem zdX {a b:List Int}(h:a.length>64∨b.length>64):Xz a b=2:=by unfold Xz;rw [if_pos h]
theorem zeo {a b:List Int}(h:¬(a.length>64∨b.length>64))(h2:(a.any zdq||b.any zdq)=true):Xz a b=410:=by unfold Xz;rw [if_neg h,if_pos h2]
theorem zqO {a b:List Int}(h:¬(a.length>64∨b.length>64))(h2:(a.any zdq||b.any zdq)=false):Xz a b=0:=by unfold Xz;rw [if_neg h,h2];rfl
def VR (a b:List Int):List (Int×Int):=if Xz a b≠0 then [] else zme a b
def zww (a b:List Int):Value→Qu→Go.Kn.Loc→Prop:=fun v I' L=>L=[]∧∃ z av c,v= .tuple #[.int .i64 z,.slice av (VR a b).length c,.int .i64 (Xz a b)]∧Sl I' 2 VO av (VR a b).length c (VR a b)
theorem UG {a b:List Int}(h:Xz a b≠0):VR a b=[]:=by unfold VR;rw [if_pos h]
theorem zl4 {a b:List Int}(h:Xz a b=0):VR a b=zme a b:=by unfold VR;rw [if_neg (by omega)]
theorem zjx {I:Qu}{av bv:Option Addr}{n c n2 c2:Nat}{xs ys:List Int}(hA:Sl I 1 QP av n c xs)(hB:Sl I 1 QP bv n2 c2 ys){q:Nat}(hq:q<2):∃ hd zs,([⟨av,n,c⟩,⟨bv,n2,c2⟩]:List Hd)[q]? =some hd∧([xs,ys]:List (List Int))[q]? =some zs∧Sl I 1 QP hd.a hd.n hd.c zs∧(hd.n=n∨hd.n=n2):=by
 rcases (show q=0∨q=1 by omega) with rfl | rfl
 ·
  exact ⟨_,xs,rfl,rfl,hA,.inl rfl⟩
 ·
  exact ⟨_,ys,rfl,rfl,hB,.inr rfl⟩
end
section
open Go Go.Kn Go.Proofs
theorem KC:Fun Tryz.prog 103:=.of Tryz.func103 (by kernel_rfl) (by kernel_rfl)
theorem zih:Fun Tryz.prog 104:=.of Tryz.func104 (by kernel_rfl) (by kernel_rfl)
theorem zcd:V1 (α:=Int×Int) Tryz.prog 79 YC:=zkR zfM
theorem zir:MpT Tryz.prog 182 79 3 (.int .i64 0):=⟨by kernel_rfl,.of (by kernel_rfl)⟩
theorem KH:ScT Tryz.prog 177:=.of (by kernel_rfl)
theorem ziR:ScT Tryz.prog 182:=.of (by kernel_rfl)
set_option maxHeartbeats 1600000 in
theorem zaO {I:Qu} {ba bb bk bs r:Nat} {av bv:Option Addr} {n c n2 c2:Nat} {xs ys:List Int} (hE:(LsE I 103 ba bb bk bs r av bv n c n2 c2 xs ys)) (hn:n≤100000) (hn2:n2≤100000) (i k:Nat) (hi:i≤xs.length) (hk:k≤ys.length) (m1:List ((Int×Int)×Int)) (hm1:MOK xs ys m1) (ihA:∀ (m':List ((Int×Int)×Int)),i<xs.length∧k<ys.length→MOK xs ys m'→Yc Tryz.prog 103 ([.int .i64 ((i:Int)+1),.int .i64 ((k:Int)+1)]++[Za ba,Za bb,Za bk,Za bs]) I [(r,ZN YC zcb m')] (fun v I' L'=>∃ A,UP xs ys (i+1) (k+1) A∧v= .int .i64 A∧I'=I∧∃ m',MOK xs ys m'∧L'=[(r,ZN YC zcb m')])) (ihB:∀ (m':List ((Int×Int)×Int)),i<xs.length∧k<ys.length→MOK xs ys m'→Yc Tryz.prog 103 ([.int .i64 ((i:Int)+1),.int .i64 ((k:Int))]++[Za ba,Za bb,Za bk,Za bs]) I [(r,ZN YC zcb m')] (fun v I' L'=>∃ A,UP xs ys (i+1) (k) A∧v= .int .i64 A∧I'=I∧∃ m',MOK xs ys m'∧L'=[(r,ZN YC zcb m')])) (ihC:∀ (m':List ((Int×Int)×Int)),i<xs.length∧k<ys.length→MOK xs ys m'→Yc Tryz.prog 103 ([.int .i64 ((i:Int)),.int .i64 ((k:Int)+1)]++[Za ba,Za bb,Za bk,Za bs]) I [(r,ZN YC zcb m')] (fun v I' L'=>∃ A,UP xs ys (i) (k+1) A∧v= .int .i64 A∧I'=I∧∃ m',MOK xs ys m'∧L'=[(r,ZN YC zcb m')])):Yc Tryz.prog 103 [.int .i64 i,.int .i64 k,Za ba,Za bb,Za bk,Za bs] I [(r,ZN YC zcb m1)] (fun v I' L'=>∃ A,UP xs ys (i) (k) A∧v= .int .i64 A∧I'=I∧∃ m',MOK xs ys m'∧L'=[(r,ZN YC zcb m')]):=by
 intro g H w hw
 refine qe Tryz.func103 Tryz.ntmps103 hw ?_
 have hAl:=hE.hA.len
 subst hAl
 have hBl:=hE.hB.len
 subst hBl
 refine zR (zA (zN (Ql (zR ?_))))
 refine zM ?_
 refine zV (Qd rfl QK (fun hg=>by exact hE.a.any)) ?_
 refine zQ Qy ?_
 refine zC ?_
 refine zM ?_
 refine Q0 4 rfl rfl rfl ?_
 refine zJ (Qi rfl) ?_
 refine zJ (Qd rfl QK (fun hg=>by exact hE.b.any)) ?_
 refine zJ (ZH rfl Qy) ?_
 refine zJ (QJ rfl rfl rfl) ?_
 refine ZA rfl rfl rfl rfl rfl ?_
 refine zN ?_
 refine zI ?_ ?_<;>intro hc20
 ·
  have hend:i=xs.length∨k=ys.length:=by have h:=hc20;simp at h;omega
  refine zR ?_
  refine zV (Qd rfl QK (fun hg=>by exact hE.a.any)) ?_
  refine zQ Qy ?_
  refine zM ?_
  refine zB ?_
  refine zV (Qd rfl QK (fun hg=>by exact hE.b.any)) ?_
  refine zQ Qy ?_
  refine zB ?_
  refine zM ?_
  refine zB ?_
  refine zB ?_
  refine zA (zN (Qs (Qc ?_)))
  exact Zt rfl rfl (fun w hw=>⟨_,_,_,rfl,zyv _,hw,_,UP.fin hi hk hend,rfl,rfl,m1,hm1,rfl⟩)
 have hlt:i<xs.length∧k<ys.length:=by have h:=hc20;simp at h;omega
 obtain ⟨x,hx⟩:=hE.hA.at hlt.1
 obtain ⟨y,hy⟩:=hE.hB.at hlt.2
 have hbn:=zdD x y
 refine Qo (Qa (zR ?_))
 refine zV (Qd rfl ziR (fun hg=>by exact hE.kn.any)) ?_
 refine zM ?_
 refine zM ?_
 refine zV (Zw (ps:=[(0,_),(1,_)]) [_,_] YN KI rfl rfl) ?_
 refine zV (Kt (m:=m1) (ek:=YC) (a:=((i:Int),(k:Int))) zir zcd rfl rfl (fun _=>(by exact Mem.m0))) ?_
 refine zM ?_
 refine zE ?_
 refine zE ?_
 refine zA ?_
 refine zA (zN (Ql (zR ?_)))
 refine zM ?_
 refine zO (zN ?_)
 refine zI ?_ ?_<;>intro hc40
 ·
  refine Ql ?_
  have hD:=zyv I
  refine Jn ?_
  refine Z8 I [] mixed ?_
  refine zT 0 rfl (Qd rfl QK (fun hg=>by exact hE.a.any)) hD ?_
  refine zT 1 rfl (Qi rfl) hD ?_
  refine zT 2 rfl (QE rfl rfl Qy hE.hA (fun hg=>by omega)) hD ?_
  refine zT 3 rfl (Qd rfl Qt (fun hg=>by exact zyo hE.hA hx rfl)) hD ?_
  refine zT 4 rfl (Qd rfl QK (fun hg=>by exact hE.b.any)) hD ?_
  refine zT 5 rfl (Qi rfl) hD ?_
  refine zT 6 rfl (QE rfl rfl Qy hE.hB (fun hg=>by omega)) hD ?_
  refine zT 7 rfl (Qd rfl Qt (fun hg=>by exact zyo hE.hB hy rfl)) hD ?_
  refine zT 9 rfl (Qd rfl KH (fun hg=>by exact hE.se.any)) hD ?_
  refine zT 10 rfl (Qi rfl) hD ?_
  refine zT 11 rfl (ZS rfl rfl rfl (fun hg=>by omega)) hD ?_
  refine zT 12 rfl (Qi rfl) hD ?_
  refine zT 13 rfl (ZS rfl rfl rfl (fun hg=>by omega)) hD ?_
  refine zT 16 rfl (Qd rfl KH (fun hg=>by exact hE.se.any)) hD ?_
  refine zT 17 rfl (Qi rfl) hD ?_
  refine zT 18 rfl (ZS rfl rfl rfl (fun hg=>by omega)) hD ?_
  refine zT 19 rfl (Qi rfl) hD ?_
  refine zT 22 rfl (Qd rfl KH (fun hg=>by exact hE.se.any)) hD ?_
  refine zT 23 rfl (Qi rfl) hD ?_
  refine zT 24 rfl (Qi rfl) hD ?_
  refine zT 25 rfl (ZS rfl rfl rfl (fun hg=>by omega)) hD ?_
  refine qd 8 rfl ?_
  refine qc (vs:=[_,_]) rfl zih (zft I _ _) ?_
  refine Qb ?_
  refine zD hD ?_
  refine qd 14 rfl ?_
  refine Qx (cap:=[Za ba,Za bb,Za bk,Za bs]) (vs:=[_,_]) rfl rfl KC QD (ihA m1 hlt hm1) rfl rfl ?_
  rintro vv1 I1 L1 hI1 ⟨VA,hLA,rfl,rfl,m2,hm2,rfl⟩
  have hE:=hE.mono hI1;have hD:=hD.trans hI1
  have hbA:=hLA.inn
  refine Qb ?_
  refine zD hD ?_
  refine zT 15 rfl (ZS rfl rfl rfl (fun hg=>by omega)) hD ?_
  refine qd 20 rfl ?_
  refine Qx (cap:=[Za ba,Za bb,Za bk,Za bs]) (vs:=[_,_]) rfl rfl KC QD (ihB m2 hlt hm2) rfl rfl ?_
  rintro vv2 I2 L2 hI2 ⟨VB,hLB,rfl,rfl,m3,hm3,rfl⟩
  have hE:=hE.mono hI2;have hD:=hD.trans hI2
  have hbB:=hLB.inn
  refine Qb ?_
  refine zD hD ?_
  refine zT 21 rfl (ZS rfl rfl rfl (fun hg=>by omega)) hD ?_
  refine qd 26 rfl ?_
  refine Qx (cap:=[Za ba,Za bb,Za bk,Za bs]) (vs:=[_,_]) rfl rfl KC QD (ihC m3 hlt hm3) rfl rfl ?_
  rintro vv3 I3 L3 hI3 ⟨VC,hLC,rfl,rfl,m4,hm4,rfl⟩
  have hE:=hE.mono hI3;have hD:=hD.trans hI3
  have hbC:=hLC.inn
  refine Qb ?_
  refine zD hD ?_
  refine zT 27 rfl (ZS rfl rfl rfl (fun hg=>by omega)) hD ?_
  refine zT 28 rfl (zpy rfl rfl rfl) hD ?_
  refine zT 29 rfl (ZM rfl) hD ?_
  refine QF (by kernel_rfl) ?_
  refine QQ ?_
  have hst:=UP.step hx hy hLA hLB hLC
  refine Qa (Qg ?_)
  refine zV (Qd rfl ziR (fun hg=>by exact hE.kn.any)) ?_
  refine zM ?_
  refine zM ?_
  refine zV (Zw (ps:=[(0,_),(1,_)]) [_,_] YN KI rfl rfl) ?_
  refine zM ?_
  refine Q4 (m:=m4) (ev:=zcb) (ek:=YC) (a:=((i:Int),(k:Int))) (Ke (Ke (zeN x y+VA) (2+VB)) (2+VC)) zir zcd rfl rfl rfl rfl (by repeat (first | exact Upd.here | apply Upd.there | apply QI)) ?_
  refine zN (zR ?_)
  refine zM ?_
  refine zA (zN (Qs ?_))
  exact Zt rfl rfl (fun w hw=>⟨_,_,_,rfl,zyv _,hw,_,hst,rfl,rfl,_,hm4.set hst,rfl⟩)
 obtain ⟨v,hv⟩:=Option.isSome_iff_exists.1 (by simpa using hc40)
 have hv2:=hm1 i k v hv
 rw [hv]
 refine Qo (Qa (zR (zM ?_)))
 refine zA (zN (Qs ?_))
 exact Zt rfl rfl (fun w hw=>⟨_,_,_,rfl,zyv _,hw,_,hv2,rfl,rfl,m1,hm1,rfl⟩)
theorem zd4 {I:Qu}{ba bb bk bs r:Nat}{av bv:Option Addr}{n c n2 c2:Nat}{xs ys:List Int}(hE:(LsE I 103 ba bb bk bs r av bv n c n2 c2 xs ys))(hn:n≤100000)(hn2:n2≤100000):∀ (q i k:Nat) (m1:List ((Int×Int)×Int)),xs.length+ys.length≤q+(i+k)→i≤xs.length→k≤ys.length→MOK xs ys m1→Yc Tryz.prog 103 ([.int .i64 i,.int .i64 k]++[Za ba,Za bb,Za bk,Za bs]) I [(r,ZN YC zcb m1)] (fun v I' L'=>∃ A,UP xs ys (i) (k) A∧v= .int .i64 A∧I'=I∧∃ m',MOK xs ys m'∧L'=[(r,ZN YC zcb m')])
 | 0,i,k,m1,hq,hi,hk,hm=>zaO hE hn hn2 i k hi hk m1 hm (fun m' h=>by omega) (fun m' h=>by omega) (fun m' h=>by omega)
 | q+1,i,k,m1,hq,hi,hk,hm=>zaO hE hn hn2 i k hi hk m1 hm (fun m' h hm'=>zd4 hE hn hn2 q (i+1) (k+1) m' (by omega) (by omega) (by omega) hm') (fun m' h hm'=>zd4 hE hn hn2 q (i+1) k m' (by omega) (by omega) (by omega) hm') (fun m' h hm'=>zd4 hE hn hn2 q i (k+1) m' (by omega) (by omega) (by omega) hm')
end
section
open Go Go.Kn Go.Proofs
theorem JN:ElT Tryz.prog 41 79 2 16:=.of (by kernel_rfl)
theorem zie:Fun Tryz.prog 23:=.of Tryz.func23 (by kernel_rfl) (by kernel_rfl)
theorem zrG:SzT Tryz.prog 177 1:=.of (by kernel_rfl)
theorem zos:SzT Tryz.prog 182 1:=.of (by kernel_rfl)
theorem zuw:Yn Tryz.prog 177 .nilFunc:=.of (by kernel_rfl)
theorem zuz:Yn Tryz.prog 182 (.map none):=.of (by kernel_rfl)
theorem zve {I:Qu}{ba bb bk bs r:Nat}{av bv:Option Addr}{n c n2 c2:Nat}{xs ys:List Int}(hE:(LsE I 103 ba bb bk bs r av bv n c n2 c2 xs ys))(hn:n≤100000)(hn2:n2≤100000)(i k:Nat)(m1:List ((Int×Int)×Int))(h:i<xs.length∧k<ys.length)(hm:MOK xs ys m1):Yc Tryz.prog 103 ([.int .i64 ((i:Int)+1),.int .i64 ((k:Int)+1)]++[Za ba,Za bb,Za bk,Za bs]) I [(r,ZN YC zcb m1)] (fun v I' L'=>∃ A,UP xs ys (i+1) (k+1) A∧v= .int .i64 A∧I'=I∧∃ m',MOK xs ys m'∧L'=[(r,ZN YC zcb m')]):=zd4 hE hn hn2 (xs.length+ys.length) (i+1) (k+1) m1 (by omega) (by omega) (by omega) hm
theorem zmR {I:Qu}{ba bb bk bs r:Nat}{av bv:Option Addr}{n c n2 c2:Nat}{xs ys:List Int}(hE:(LsE I 103 ba bb bk bs r av bv n c n2 c2 xs ys))(hn:n≤100000)(hn2:n2≤100000)(i k:Nat)(m1:List ((Int×Int)×Int))(h:i<xs.length∧k≤ys.length)(hm:MOK xs ys m1):Yc Tryz.prog 103 ([.int .i64 ((i:Int)+1),.int .i64 ((k:Int))]++[Za ba,Za bb,Za bk,Za bs]) I [(r,ZN YC zcb m1)] (fun v I' L'=>∃ A,UP xs ys (i+1) (k) A∧v= .int .i64 A∧I'=I∧∃ m',MOK xs ys m'∧L'=[(r,ZN YC zcb m')]):=zd4 hE hn hn2 (xs.length+ys.length) (i+1) (k) m1 (by omega) (by omega) (by omega) hm
theorem zvM {I:Qu}{ba bb bk bs r:Nat}{av bv:Option Addr}{n c n2 c2:Nat}{xs ys:List Int}(hE:(LsE I 103 ba bb bk bs r av bv n c n2 c2 xs ys))(hn:n≤100000)(hn2:n2≤100000)(_i _k:Nat)(m1:List ((Int×Int)×Int))(_h:True)(hm:MOK xs ys m1):Yc Tryz.prog 103 ([.int .i64 (0),.int .i64 (0)]++[Za ba,Za bb,Za bk,Za bs]) I [(r,ZN YC zcb m1)] (fun v I' L'=>∃ A,UP xs ys (0) (0) A∧v= .int .i64 A∧I'=I∧∃ m',MOK xs ys m'∧L'=[(r,ZN YC zcb m')]):=zd4 hE hn hn2 (xs.length+ys.length) (0) (0) m1 (by omega) (by omega) (by omega) hm
set_option maxHeartbeats 1600000 in
theorem zuL {I:Qu} {av:Option Addr} {n c:Nat} {xs:List Int} (hA:Sl I 1 QP av n c xs) {bv:Option Addr} {n2 c2:Nat} {ys:List Int} (hB:Sl I 1 QP bv n2 c2 ys) (hnn:n≤1000000) (hnn2:n2≤1000000):Yc Tryz.prog 60 [.slice av n c,.slice bv n2 c2] I [] (zww xs ys):=by
 intro g H w hw
 refine qe Tryz.func60 Tryz.ntmps60 hw ?_
 have hIc:=zyv I
 have hlA:=hA.len
 subst hlA
 have hlB:=hB.len
 subst hlB
 refine zR ?_
 refine Q5 rfl rfl rfl (fun b_2=>?_)
 refine Q5 rfl rfl rfl (fun b_3=>?_)
 refine zA ?_
 refine zA ?_
 refine zA (zN (Ql (Ql ?_)))
 refine Vv (fun I1 hI1 hall=>?_)
 have hA:=hA.mono hI1;have hB:=hB.mono hI1;have hIc:=hIc.trans hI1
 have hB2:QV I1 [] b_2 0 (.slice av xs.length c):=.imm (hall _ _ (by repeat (first | exact List.mem_cons_self .. | apply List.mem_cons_of_mem))) rfl
 have hB3:QV I1 [] b_3 0 (.slice bv ys.length c2):=.imm (hall _ _ (by repeat (first | exact List.mem_cons_self .. | apply List.mem_cons_of_mem))) rfl
 refine Qg ?_
 refine zV (Qd rfl QK (fun hg=>by exact hB2.any)) ?_
 refine zQ Qy ?_
 refine zC ?_
 refine zM ?_
 refine Q0 3 rfl rfl rfl ?_
 refine zJ (Qd rfl QK (fun hg=>by exact hB3.any)) ?_
 refine zJ (ZH rfl Qy) ?_
 refine zJ (QJ rfl rfl rfl) ?_
 refine ZA rfl rfl rfl rfl rfl ?_
 refine zN ?_
 refine zI ?_ ?_<;>intro hc25
 ·
  have hlong:xs.length>64∨ys.length>64:=by have h:=hc25;simp at h;omega
  refine zR (zA ?_)
  refine zA ?_
  refine zA (zN (Qs (Qc ?_)))
  first
  | exact KP rfl rfl rfl rfl (fun w hw=>⟨_,_,[],rfl,hIc,hw.drop,rfl,_,none,0,by rw [zdX hlong,UG (by rw [zdX hlong];decide)];rfl,by rw [UG (by rw [zdX hlong];decide)];exact .nil⟩)
 have hlong:¬(xs.length>64∨ys.length>64):=by have h:=hc25;simp at h;omega
 refine Qo (Qa (Ql (zR ?_)))
 refine zV (Qd rfl QK (fun hg=>by exact hB2.any)) ?_
 refine zV (Qd rfl QK (fun hg=>by exact hB3.any)) ?_
 refine Qq (ps:=[(0,_),(1,_)]) (m:=[WD ⟨av,xs.length,c⟩,WD ⟨bv,ys.length,c2⟩]) zag rfl (.cons rfl (.cons rfl (.nil))) rfl (by simp [Q7]) (by decide) (by decide) rfl rfl (fun b_28=>?_)
 refine zQ Zn ?_
 refine zM (Qb ?_)
 refine Vv (fun I2 hI2 hall=>?_)
 have hA:=hA.mono hI2;have hB:=hB.mono hI2;have hB2:=hB2.mono hI2;have hB3:=hB3.mono hI2;have hIc:=hIc.trans hI2
 have hAB:Sl I2 1 WD (some ⟨b_28,0,none⟩) 2 2 ([⟨av,xs.length,c⟩,⟨bv,ys.length,c2⟩]:List Hd):=Sl.lit _ rfl Q7 (show _=some (Obj.cells (([⟨av,xs.length,c⟩,⟨bv,ys.length,c2⟩]:List Hd).flatMap WD).toArray 23 (0,0)) from (hall _ _ (by repeat (first | exact List.mem_cons_self .. | apply List.mem_cons_of_mem))))
 refine Qa (Qm ?_)
 refine zU [(2,_),(3,_),(28,_),(29,_)] (fun T L0 mz E I' loc'=>∃ (z:Nat),mz=2-z∧E=(5,.slice none 0 0)::(30,.int .i64 z)::T∧I2=I'∧[]=loc'∧z≤2∧([xs,ys].take z).any (fun l=>l.any zdq)=false) ?_ (h:=⟨0,rfl,rfl,rfl,rfl,Nat.zero_le _,rfl⟩)
 rintro mz E I' loc' ⟨z,rfl,rfl,rfl,rfl,hz,hno⟩
 refine zR (zC (zN (Ql ?_)))
 refine zI ?_ ?_<;>intro hc31
 ·
  have hlt_z:z<2:=by have h:=hc31;simp at h;omega
  obtain ⟨hd,zs,hhd,hzs,hZ,hz2⟩:=zjx hA hB hlt_z
  refine Qo (Qa (Ql (Qm (zR ?_))))
  refine zV (zX Zn hAB) ?_
  refine zV (Qd rfl QK (fun hg=>by exact zyo hAB hhd rfl)) ?_
  refine zA ?_
  refine zN (zR ?_)
  refine zM ?_
  refine zQ Qy ?_
  refine zM (zN (Qm ?_))
  refine zU [(2,_),(3,_),(28,_),(29,_),(30,_),(34,_),(35,_)] (fun T L0 mz E I' loc'=>∃ (j:Nat),mz=hd.n-j∧E=(5,.slice none 0 0)::(36,.int .i64 j)::T∧I2=I'∧[]=loc'∧j≤hd.n∧(zs.take j).any zdq=false) ?_ (h:=⟨0,rfl,rfl,rfl,rfl,Nat.zero_le _,rfl⟩)
  rintro mz E I' loc' ⟨j,rfl,rfl,rfl,rfl,hj,hzb⟩
  refine zR (zC (zN (Ql ?_)))
  refine zI ?_ ?_<;>intro hc37
  ·
   have hlt_j:j<hd.n:=by have h:=hc37;simp at h;omega
   obtain ⟨cc,hz⟩:=hZ.at hlt_j
   refine Qo (Qa (Ql (Qm (zR ?_))))
   refine zV (zX Qy hZ) ?_
   refine zV (Qd rfl Qt (fun hg=>by exact zyo hZ hz rfl)) ?_
   refine zA ?_
   refine zN (zR ?_)
   refine zM ?_
   refine qc (vs:=[_]) rfl zie (zhS _ _) ?_
   refine zM ?_
   refine zE ?_
   refine zE ?_
   refine Qr WW rfl rfl (fun b_11=>?_)
   refine zh VG ?_
   refine zA ?_
   refine zN (zR ?_)
   refine zM ?_
   refine zC ?_
   refine zM ?_
   refine QG 2 rfl rfl rfl ?_
   refine zK (Qi rfl) ?_
   refine zK (QJ rfl rfl rfl) ?_
   refine QO rfl rfl rfl rfl rfl ?_
   refine zN ?_
   refine zI ?_ ?_<;>intro hc50
   ·
    have hbc:zdq cc=true:=hc50
    have hyes:(xs.any zdq||ys.any zdq)=true:=by have h:=JU (p:=fun l:List Int=>l.any zdq) hzs (JU hz hbc);simpa using h
    refine zR (zA ?_)
    refine zA ?_
    refine zA (zN (Qs (Qn (Qc (Qc (Qn (Qn ?_)))))))
    refine Qc (Qc (Qn (Qc ?_)))
    first
    | exact KP rfl rfl rfl rfl (fun w hw=>⟨_,_,[],rfl,hIc,hw.drop,rfl,_,none,0,by rw [zeo hlong hyes,UG (by rw [zeo hlong hyes];decide)];rfl,by rw [UG (by rw [zeo hlong hyes];decide)];exact .nil⟩)
   have hbc:zdq cc=false:=hc50
   refine Qo (Qh (Qa (Qg (zB ?_))))
   refine zM (Qb ?_)
   exact zm (h:=⟨hd.n-(j+1),by omega,j+1,rfl,rfl,rfl,rfl,by omega,YX hz hzb hbc⟩)
  have hge_j:hd.n≤j:=by have h:=hc37;simp at h;omega
  rw [ZF hZ.len hge_j] at hzb
  refine QH (Qe (Qe (Qk (Qh (Qa (Qg (zB ?_)))))))
  refine zM (Qb ?_)
  exact zm (h:=⟨2-(z+1),by omega,z+1,rfl,rfl,rfl,rfl,by omega,YX hzs hno hzb⟩)
 have hge_z:2≤z:=by have h:=hc31;simp at h;omega
 rw [List.take_of_length_le (by simpa using hge_z)] at hno
 have hno2:(xs.any zdq||ys.any zdq)=false:=by simpa using hno
 refine QH (Qe (Qe (Qk (Qa (zR ?_)))))
 refine ZE rfl rfl (fun r_53=>?_)
 refine Qr zuz rfl rfl (fun b_13=>?_)
 refine zS zos ?_
 refine zN (zR ?_)
 refine Qr zuw rfl rfl (fun b_14=>?_)
 refine zN (zR ?_)
 refine zV (Zb (us:=[]) (vs:=[_,_,_,_]) rfl rfl) ?_
 refine zS zrG ?_
 refine zN (Ql (Ql ?_))
 refine Ze (b:=b_14) (by repeat (first | exact Q8.here | apply Q8.there)) (fun I5 hI5 hb5=>?_)
 have hA:=hA.mono hI5;have hB:=hB.mono hI5;have hB2:=hB2.mono hI5;have hB3:=hB3.mono hI5;have hIc:=hIc.trans hI5
 have hC14:QV I5 [] b_14 0 (.func (.func 103) #[] #[Za b_2,Za b_3,Za b_13,Za b_14]):=.imm hb5 rfl
 refine Ze (b:=b_13) (by repeat (first | exact Q8.here | apply Q8.there)) (fun I6 hI6 hb6=>?_)
 have hA:=hA.mono hI6;have hB:=hB.mono hI6;have hB2:=hB2.mono hI6;have hB3:=hB3.mono hI6;have hC14:=hC14.mono hI6;have hIc:=hIc.trans hI6
 have hC13:QV I6 [] b_13 0 (.map (some r_53)):=.imm hb6 rfl
 have hLE:LsE I6 103 b_2 b_3 b_13 b_14 r_53 av bv xs.length c ys.length c2 xs ys:=⟨hB2,hB3,hC13,hC14,hA,hB⟩
 refine Qg (zA ?_)
 refine zA (zN (Qm ?_))
 refine zU [(2,_),(3,_),(14,_)] (fun T L0 mz E I' loc'=>∃ (i k:Nat) (m:List ((Int×Int)×Int)) (pre:List (Int×Int)) (v5:Value) (q:Nat) (L:Go.Kn.Loc),mz=xs.length-i+(ys.length-k)∧E=(5,v5)::(15,.int .i64 i)::(16,.int .i64 k)::T∧HLe I6 I'∧L++[(r_53,ZN YC zcb m)]=loc'∧i≤xs.length∧k≤ys.length∧MOK xs ys m∧PaQ xs ys pre i k∧OwnS 79 2 v5 q (pre.flatMap VO) L∧q≤i+k) ?_ (h:=⟨0,0,[],[],_,0,[],rfl,rfl,zyv _,rfl,Nat.zero_le _,Nat.zero_le _,.nil,.start,OwnS.nil,Nat.le_refl _⟩)
 rintro mz E J7 loc' ⟨i,k,m,pre,v5,q,L,rfl,rfl,hJ,rfl,hi,hk,hm,hpq,hO,hq⟩
 have hB2:=hB2.mono hJ;have hB3:=hB3.mono hJ;have hLE:=hLE.mono hJ;have hIc:=hIc.trans hJ
 have hB4:=hJ
 refine Ql (zR (zM ?_))
 refine zV (Qd rfl QK (fun hg=>by exact hB2.any)) ?_
 refine zQ Qy ?_
 refine zC ?_
 refine zM ?_
 refine Q0 4 rfl rfl rfl ?_
 refine zJ (Qi rfl) ?_
 refine zJ (Qd rfl QK (fun hg=>by exact hB3.any)) ?_
 refine zJ (ZH rfl Qy) ?_
 refine zJ (QJ rfl rfl rfl) ?_
 refine ZA rfl rfl rfl rfl rfl ?_
 refine zN ?_
 refine zI ?_ ?_<;>intro hc64
 ·
  have hor:i<xs.length∨k<ys.length:=by have h:=hc64;simp at h;omega
  refine Qo (Qa (Qm (zR ?_)))
  refine zV (Qd rfl KH (fun hg=>by exact hLE.se.any)) ?_
  refine zM ?_
  refine zM ?_
  refine Qx (cap:=[Za b_2,Za b_3,Za b_13,Za b_14]) (vs:=[_,_]) rfl rfl KC (by repeat (first | exact .cons .here .nil | exact QD | exact Qw | apply QC | apply QA)) (zd4 hLE (by omega) (by omega) (xs.length+ys.length) i k m (by omega) hi hk hm) rfl rfl ?_
  rintro vv8 I8 L8 hI8 ⟨VV,hLV,rfl,rfl,m1,hm1,rfl⟩
  have hB2:=hB2.mono hI8;have hB3:=hB3.mono hI8;have hLE:=hLE.mono hI8;have hLE:=hLE.mono hI8;have hB4:=hB4.trans hI8
  have hbV:=hLV.inn
  refine zA (zN (Qm (Ql ?_)))
  obtain ⟨hd1,hd2,h5,h6⟩ | ⟨hd1,hd2,h5,h6⟩ | ⟨hd1,hd2,h5,h6⟩:=zlJ hor
  ·
   obtain ⟨x,hx⟩:=hLE.hA.at h5
   obtain ⟨y,hy⟩:=hLE.hB.at h6
   have hbn:=zdD x y
   have hD:=zyv I8
   refine Jn ?_
   refine Z8 I8 [] mixed ?_
   refine zT 0 rfl (Qi rfl) hD ?_
   refine zT 1 rfl (Qd rfl QK (fun hg=>by exact hB2.any)) hD ?_
   refine zT 2 rfl (ZH rfl Qy) hD ?_
   refine zT 3 rfl (QJ rfl rfl rfl) hD ?_
   rw [hd1]
   refine zT 4 rfl (Qi rfl) hD ?_
   refine zw 5 81 rfl (Qi rfl) hD ?_
   refine zw 6 81 rfl (Qd rfl QK (fun hg=>by exact hB3.any)) hD ?_
   refine zw 7 81 rfl (ZH rfl Qy) hD ?_
   refine zw 8 81 rfl (QJ rfl rfl rfl) hD ?_
   rw [hd2]
   refine zT 9 rfl (ZL rfl rfl rfl) hD ?_
   refine zT 10 rfl (Qi rfl) hD ?_
   refine zw 11 87 rfl (Qi rfl) hD ?_
   refine zw 12 87 rfl (Qd rfl QK (fun hg=>by exact hB2.any)) hD ?_
   refine zw 13 87 rfl (Qi rfl) hD ?_
   refine zw 14 87 rfl (QE rfl rfl Qy hLE.hA (fun hg=>by omega)) hD ?_
   refine zw 15 87 rfl (Qd rfl Qt (fun hg=>by exact zyo hLE.hA hx rfl)) hD ?_
   refine zw 16 87 rfl (Qd rfl QK (fun hg=>by exact hB3.any)) hD ?_
   refine zw 17 87 rfl (Qi rfl) hD ?_
   refine zw 18 87 rfl (QE rfl rfl Qy hLE.hB (fun hg=>by omega)) hD ?_
   refine zw 19 87 rfl (Qd rfl Qt (fun hg=>by exact zyo hLE.hB hy rfl)) hD ?_
   refine zw 21 87 rfl (Qd rfl KH (fun hg=>by exact hLE.se.any)) hD ?_
   refine zw 22 87 rfl (Qi rfl) hD ?_
   refine zw 23 87 rfl (ZS rfl rfl rfl (fun hg=>by omega)) hD ?_
   refine zw 24 87 rfl (Qi rfl) hD ?_
   refine zw 25 87 rfl (ZS rfl rfl rfl (fun hg=>by omega)) hD ?_
   refine qd 20 rfl ?_
   refine QM (dj:=87) rfl rfl rfl ?_
   refine qc (vs:=[_,_]) rfl zih (zft _ _ _) ?_
   refine Qb ?_
   refine zD hD ?_
   refine qd 26 rfl ?_
   refine QM (dj:=87) rfl rfl rfl ?_
   refine Qx (cap:=[Za b_2,Za b_3,Za b_13,Za b_14]) (vs:=[_,_]) rfl rfl KC (by repeat (first | exact .cons .here .nil | exact QD | exact Qw | apply QC | apply QA)) (zve hLE (by omega) (by omega) i k m1 (by omega) hm1) rfl rfl ?_
   rintro vv9 I9 L9 hI9 ⟨VA,hLA,rfl,rfl,m2,hm2,rfl⟩
   have hB2:=hB2.mono hI9;have hLE:=hLE.mono hI9;have hLE:=hLE.mono hI9;have hB4:=hB4.trans hI9;have hD:=hD.trans hI9
   have hbA:=hLA.inn
   refine Qb ?_
   refine zD hD ?_
   refine zw 27 87 rfl (ZS rfl rfl rfl (fun hg=>by omega)) hD ?_
   refine zw 28 87 rfl (QJ rfl rfl rfl) hD ?_
   refine zT 29 rfl (ZL rfl rfl rfl) hD ?_
   refine zT 30 rfl (ZM rfl) hD ?_
   refine QF (by kernel_rfl) ?_
   refine QQ ?_
   refine Qa ?_
   refine zI ?_ ?_<;>intro hc76
   ·
    have hbo:=zfP (t:=true) hx hy hLV hLA (by simpa using hc76)
    refine zR (zM ?_)
    refine zB ?_
    refine zM ?_
    refine zB ?_
    refine zA ?_
    refine zA (zN (Qg ?_))
    refine zM ?_
    refine zM ?_
    refine zM ?_
    refine zV (Zw (ps:=[(0,_),(1,_)]) [_,_] YN KI rfl rfl) ?_
    refine Qq (ps:=[(0,_)]) (m:=[VO ((i:Int)+1,(k:Int)+1)]) JN rfl (.cons rfl (.nil)) rfl (by simp [Kd]) (by decide) (by decide) rfl rfl (fun b_115=>?_)
    refine QW (v:=_) (ys:=[((i:Int)+1,(k:Int)+1)].flatMap VO) (L:=L) rfl rfl JN hO (by repeat (first | exact .cons .here .nil | exact QD | exact Qw | apply QC | apply QA)) ⟨rfl,fun _=>rfl,by repeat (first | exact zyt | apply zys | apply zyu)⟩ (zgn [((i:Int)+1,(k:Int)+1)]) (by omega) rfl rfl ?_
    intro v9 L9 hO9 _;rw [←List.flatMap_append] at hO9
    refine zA (Qb (Qh (Qh ?_)))
    exact zm (h:=⟨xs.length-(i+1)+(ys.length-(k+1)),by omega,i+1,k+1,_,_,_,_,_,rfl,rfl,hB4,rfl,by omega,by omega,hm2,hpq.both hbo,hO9,by omega⟩)
   have hbo:=zfP (t:=false) hx hy hLV hLA (by simpa using hc76)
   refine zR (zM ?_)
   refine zV (Qd rfl QK (fun hg=>by exact hB2.any)) ?_
   refine zQ Qy ?_
   refine zC ?_
   rw [hd1]
   refine zM ?_
   refine QM (dj:=122) rfl rfl rfl ?_
   refine zM ?_
   refine QM (dj:=122) rfl rfl rfl ?_
   refine zV (Qd rfl KH (fun hg=>by exact hLE.se.any)) ?_
   refine QM (dj:=122) rfl rfl rfl ?_
   refine zM ?_
   refine QM (dj:=122) rfl rfl rfl ?_
   refine zB ?_
   refine QM (dj:=122) rfl rfl rfl ?_
   refine zM ?_
   refine QM (dj:=122) rfl rfl rfl ?_
   refine Qx (cap:=[Za b_2,Za b_3,Za b_13,Za b_14]) (vs:=[_,_]) rfl rfl KC (by repeat (first | exact .cons .here .nil | exact QD | exact Qw | apply QC | apply QA)) (zmR hLE (by omega) (by omega) i k m2 (by omega) hm2) rfl rfl ?_
   rintro vv10 I10 L10 hI10 ⟨VB,hLB,rfl,rfl,m3,hm3,rfl⟩
   have hB4:=hB4.trans hI10
   have hbB:=hLB.inn
   refine QM (dj:=122) rfl rfl rfl ?_
   refine zB ?_
   refine QM (dj:=122) rfl rfl rfl ?_
   refine zC ?_
   refine zV (ZL rfl rfl rfl) ?_
   refine zA (zN ?_)
   refine zI ?_ ?_<;>intro hc117
   ·
    have hon:=zbY (t:=true) h5 hLV hLB (by simpa using hc117)
    refine zR (zM ?_)
    refine zB ?_
    refine zA (zN (Qg ?_))
    refine zM ?_
    refine zM ?_
    refine zV (Zw (ps:=[(0,_),(1,_)]) [_,_] YN KI rfl rfl) ?_
    refine Qq (ps:=[(0,_)]) (m:=[VO ((i:Int)+1,(0:Int))]) JN rfl (.cons rfl (.nil)) rfl (by simp [Kd]) (by decide) (by decide) rfl rfl (fun b_137=>?_)
    refine QW (v:=_) (ys:=[((i:Int)+1,(0:Int))].flatMap VO) (L:=L) rfl rfl JN hO (by repeat (first | exact .cons .here .nil | exact QD | exact Qw | apply QC | apply QA)) ⟨rfl,fun _=>rfl,by repeat (first | exact zyt | apply zys | apply zyu)⟩ (zgn [((i:Int)+1,(0:Int))]) (by omega) rfl rfl ?_
    intro v9 L9 hO9 _;rw [←List.flatMap_append] at hO9
    refine zA (Qb (Qh (Qh ?_)))
    exact zm (h:=⟨xs.length-(i+1)+(ys.length-(k)),by omega,i+1,k,_,_,_,_,_,rfl,rfl,hB4,rfl,by omega,by omega,hm3,hpq.one hbo hon,hO9,by omega⟩)
   have hon:=zbY (t:=false) h5 hLV hLB (by simpa using hc117)
   refine zR (zM ?_)
   refine zB ?_
   refine zA (zN (Qg ?_))
   refine zM ?_
   refine zM ?_
   refine zV (Zw (ps:=[(0,_),(1,_)]) [_,_] YN KI rfl rfl) ?_
   refine Qq (ps:=[(0,_)]) (m:=[VO ((0:Int),(k:Int)+1)]) JN rfl (.cons rfl (.nil)) rfl (by simp [Kd]) (by decide) (by decide) rfl rfl (fun b_74=>?_)
   refine QW (v:=_) (ys:=[((0:Int),(k:Int)+1)].flatMap VO) (L:=L) rfl rfl JN hO (by repeat (first | exact .cons .here .nil | exact QD | exact Qw | apply QC | apply QA)) ⟨rfl,fun _=>rfl,by repeat (first | exact zyt | apply zys | apply zyu)⟩ (zgn [((0:Int),(k:Int)+1)]) (by omega) rfl rfl ?_
   intro v9 L9 hO9 _;rw [←List.flatMap_append] at hO9
   refine zA (Qb (Qh (Qh ?_)))
   exact zm (h:=⟨xs.length-(i)+(ys.length-(k+1)),by omega,i,k+1,_,_,_,_,_,rfl,rfl,hB4,rfl,by omega,by omega,hm3,hpq.two h6 hbo hon,hO9,by omega⟩)
  ·
   have hD:=zyv I8
   refine Jn ?_
   refine Z8 I8 [] mixed ?_
   refine zT 0 rfl (Qi rfl) hD ?_
   refine zT 1 rfl (Qd rfl QK (fun hg=>by exact hB2.any)) hD ?_
   refine zT 2 rfl (ZH rfl Qy) hD ?_
   refine zT 3 rfl (QJ rfl rfl rfl) hD ?_
   rw [hd1]
   refine zT 4 rfl (Qi rfl) hD ?_
   refine zw 5 81 rfl (Qi rfl) hD ?_
   refine zw 6 81 rfl (Qd rfl QK (fun hg=>by exact hB3.any)) hD ?_
   refine zw 7 81 rfl (ZH rfl Qy) hD ?_
   refine zw 8 81 rfl (QJ rfl rfl rfl) hD ?_
   rw [hd2]
   refine zT 9 rfl (ZL rfl rfl rfl) hD ?_
   refine zT 10 rfl (Qi rfl) hD ?_
   refine zW 11 87 hD ?_
   refine zW 12 87 hD ?_
   refine zW 13 87 hD ?_
   refine zW 14 87 hD ?_
   refine zW 15 87 hD ?_
   refine zW 16 87 hD ?_
   refine zW 17 87 hD ?_
   refine zW 18 87 hD ?_
   refine zW 19 87 hD ?_
   refine zW 20 87 hD ?_
   refine zW 21 87 hD ?_
   refine zW 22 87 hD ?_
   refine zW 23 87 hD ?_
   refine zW 24 87 hD ?_
   refine zW 25 87 hD ?_
   refine zW 26 87 hD ?_
   refine zW 27 87 hD ?_
   refine zW 28 87 hD ?_
   refine zT 29 rfl (YR rfl rfl rfl) hD ?_
   refine zT 30 rfl (ZM rfl) hD ?_
   refine QF (by kernel_rfl) ?_
   refine QQ ?_
   refine Qa ?_
   refine zI ?_ ?_<;>intro hc76
   ·
    cases hc76
   have hbo:=zfd (a:=xs) (b:=ys) (i:=i) (k:=k) (.inr h6)
   refine zR (zM ?_)
   refine zV (Qd rfl QK (fun hg=>by exact hB2.any)) ?_
   refine zQ Qy ?_
   refine zC ?_
   rw [hd1]
   refine zM ?_
   refine QM (dj:=122) rfl rfl rfl ?_
   refine zM ?_
   refine QM (dj:=122) rfl rfl rfl ?_
   refine zV (Qd rfl KH (fun hg=>by exact hLE.se.any)) ?_
   refine QM (dj:=122) rfl rfl rfl ?_
   refine zM ?_
   refine QM (dj:=122) rfl rfl rfl ?_
   refine zB ?_
   refine QM (dj:=122) rfl rfl rfl ?_
   refine zM ?_
   refine QM (dj:=122) rfl rfl rfl ?_
   refine Qx (cap:=[Za b_2,Za b_3,Za b_13,Za b_14]) (vs:=[_,_]) rfl rfl KC (by repeat (first | exact .cons .here .nil | exact QD | exact Qw | apply QC | apply QA)) (zmR hLE (by omega) (by omega) i k m1 (by omega) hm1) rfl rfl ?_
   rintro vv11 I11 L11 hI11 ⟨VB,hLB,rfl,rfl,m3,hm3,rfl⟩
   have hB4:=hB4.trans hI11
   have hbB:=hLB.inn
   refine QM (dj:=122) rfl rfl rfl ?_
   refine zB ?_
   refine QM (dj:=122) rfl rfl rfl ?_
   refine zC ?_
   refine zV (ZL rfl rfl rfl) ?_
   refine zA (zN ?_)
   refine zI ?_ ?_<;>intro hc117
   ·
    have hon:=zbY (t:=true) h5 hLV hLB (by simpa using hc117)
    refine zR (zM ?_)
    refine zB ?_
    refine zA (zN (Qg ?_))
    refine zM ?_
    refine zM ?_
    refine zV (Zw (ps:=[(0,_),(1,_)]) [_,_] YN KI rfl rfl) ?_
    refine Qq (ps:=[(0,_)]) (m:=[VO ((i:Int)+1,(0:Int))]) JN rfl (.cons rfl (.nil)) rfl (by simp [Kd]) (by decide) (by decide) rfl rfl (fun b_137=>?_)
    refine QW (v:=_) (ys:=[((i:Int)+1,(0:Int))].flatMap VO) (L:=L) rfl rfl JN hO (by repeat (first | exact .cons .here .nil | exact QD | exact Qw | apply QC | apply QA)) ⟨rfl,fun _=>rfl,by repeat (first | exact zyt | apply zys | apply zyu)⟩ (zgn [((i:Int)+1,(0:Int))]) (by omega) rfl rfl ?_
    intro v9 L9 hO9 _;rw [←List.flatMap_append] at hO9
    refine zA (Qb (Qh (Qh ?_)))
    exact zm (h:=⟨xs.length-(i+1)+(ys.length-(k)),by omega,i+1,k,_,_,_,_,_,rfl,rfl,hB4,rfl,by omega,by omega,hm3,hpq.one hbo hon,hO9,by omega⟩)
   have hon:=zbY (t:=false) h5 hLV hLB (by simpa using hc117)
   exact absurd (zhw hi hk (.inl h5) hbo hon) (by omega)
  have hD:=zyv I8
  refine Jn ?_
  refine Z8 I8 [] mixed ?_
  refine zT 0 rfl (Qi rfl) hD ?_
  refine zT 1 rfl (Qd rfl QK (fun hg=>by exact hB2.any)) hD ?_
  refine zT 2 rfl (ZH rfl Qy) hD ?_
  refine zT 3 rfl (QJ rfl rfl rfl) hD ?_
  rw [hd1]
  refine zT 4 rfl (Qi rfl) hD ?_
  refine zW 5 81 hD ?_
  refine zW 6 81 hD ?_
  refine zW 7 81 hD ?_
  refine zW 8 81 hD ?_
  refine zT 9 rfl (YR rfl rfl rfl) hD ?_
  refine zT 10 rfl (Qi rfl) hD ?_
  refine zW 11 87 hD ?_
  refine zW 12 87 hD ?_
  refine zW 13 87 hD ?_
  refine zW 14 87 hD ?_
  refine zW 15 87 hD ?_
  refine zW 16 87 hD ?_
  refine zW 17 87 hD ?_
  refine zW 18 87 hD ?_
  refine zW 19 87 hD ?_
  refine zW 20 87 hD ?_
  refine zW 21 87 hD ?_
  refine zW 22 87 hD ?_
  refine zW 23 87 hD ?_
  refine zW 24 87 hD ?_
  refine zW 25 87 hD ?_
  refine zW 26 87 hD ?_
  refine zW 27 87 hD ?_
  refine zW 28 87 hD ?_
  refine zT 29 rfl (YR rfl rfl rfl) hD ?_
  refine zT 30 rfl (ZM rfl) hD ?_
  refine QF (by kernel_rfl) ?_
  refine QQ ?_
  refine Qa ?_
  refine zI ?_ ?_<;>intro hc76
  ·
   cases hc76
  have hbo:=zfd (a:=xs) (b:=ys) (i:=i) (k:=k) (.inl h5)
  refine zR (zM ?_)
  refine zV (Qd rfl QK (fun hg=>by exact hB2.any)) ?_
  refine zQ Qy ?_
  refine zC ?_
  rw [hd1]
  refine zM ?_
  refine QT (dj:=122) rfl rfl rfl rfl rfl ?_
  refine QT (dj:=122) rfl rfl rfl rfl rfl ?_
  refine QT (dj:=122) rfl rfl rfl rfl rfl ?_
  refine QT (dj:=122) rfl rfl rfl rfl rfl ?_
  refine QT (dj:=122) rfl rfl rfl rfl rfl ?_
  refine QT (dj:=122) rfl rfl rfl rfl rfl ?_
  refine QT (dj:=122) rfl rfl rfl rfl rfl ?_
  refine QT (dj:=122) rfl rfl rfl rfl rfl ?_
  refine zV (YR rfl rfl rfl) ?_
  refine zA (zN ?_)
  refine zI ?_ ?_<;>intro hc117
  ·
   cases hc117
  have hon:=zre (a:=xs) (b:=ys) (i:=i) (k:=k) h5
  refine zR (zM ?_)
  refine zB ?_
  refine zA (zN (Qg ?_))
  refine zM ?_
  refine zM ?_
  refine zV (Zw (ps:=[(0,_),(1,_)]) [_,_] YN KI rfl rfl) ?_
  refine Qq (ps:=[(0,_)]) (m:=[VO ((0:Int),(k:Int)+1)]) JN rfl (.cons rfl (.nil)) rfl (by simp [Kd]) (by decide) (by decide) rfl rfl (fun b_74=>?_)
  refine QW (v:=_) (ys:=[((0:Int),(k:Int)+1)].flatMap VO) (L:=L) rfl rfl JN hO (by repeat (first | exact .cons .here .nil | exact QD | exact Qw | apply QC | apply QA)) ⟨rfl,fun _=>rfl,by repeat (first | exact zyt | apply zys | apply zyu)⟩ (zgn [((0:Int),(k:Int)+1)]) (by omega) rfl rfl ?_
  intro v9 L9 hO9 _;rw [←List.flatMap_append] at hO9
  refine zA (Qb (Qh (Qh ?_)))
  exact zm (h:=⟨xs.length-(i)+(ys.length-(k+1)),by omega,i,k+1,_,_,_,_,_,rfl,rfl,hB4,rfl,by omega,by omega,hm1,hpq.two h6 hbo hon,hO9,by omega⟩)
 have hnor:xs.length≤i∧ys.length≤k:=by have h:=hc64;simp at h;omega
 have hfin:zme xs ys=pre:=hpq.fin hnor.1 hnor.2
 have hE0:=zqO hlong hno2
 have hR0:=(zl4 hE0).trans hfin
 refine QH (Qe (Qe (Qk (Qa (zR ?_)))))
 refine zV (Qd rfl KH (fun hg=>by exact hLE.se.any)) ?_
 refine Qx (cap:=[Za b_2,Za b_3,Za b_13,Za b_14]) (vs:=[_,_]) rfl rfl KC (by repeat (first | exact .cons .here .nil | exact QD | exact Qw | apply QC | apply QA)) (zvM hLE (by omega) (by omega) i k m trivial hm) rfl rfl ?_
 rintro vv12 I12 L12 hI12 ⟨VZ,hLZ,rfl,rfl,m5,hm5,rfl⟩
 have hIc:=hIc.trans hI12
 refine zM ?_
 refine zA ?_
 refine zA ?_
 refine zA (zN (Qs ?_))
 first
 | exact KP rfl rfl rfl rfl (fun w hw=>by obtain ⟨I9,av9,c9,h1',h2',e9,h4'⟩:=OwnS.freeze (R:=[]) hO Kd (by decide) (by rw [List.append_nil];exact hw.subL (by repeat (first | exact .refl | exact Zi | exact Zi (L:=L) (R:=[]) | refine .drop ?_)));have hq9:=h4'.len;subst hq9;exact ⟨_,I9,[],rfl,hIc.trans h1',h2',rfl,_,av9,c9,by rw [hE0,hR0,e9],by rw [hR0];exact h4'⟩)
end
section
open Go Go.Kn Go.Proofs
def zaj (a:Int):List (Int×Int)→List (Int×Int)
 | []=>[]
 | p::ps=>if p.1>0 then zaj p.1 ps else (a,p.2-1)::zaj a ps
def zhx (ps:List (Int×Int)):List (Int×Int):=zaj 0 ps
theorem zqW {a:Int}{ps:List (Int×Int)}{k:Nat}{p:Int×Int}(hp:ps[k]? =some p)(h:decide (p.1>0)=true):zaj a (ps.drop k)=zaj p.1 (ps.drop (k+1)):=by
 rw [Z4 hp]
 show (if p.1>0 then zaj p.1 (ps.drop (k+1)) else (a,p.2-1)::zaj a (ps.drop (k+1)))=_
 rw [if_pos (by simpa using h)]
theorem zop {a:Int}{ps:List (Int×Int)}{k:Nat}{p:Int×Int}(hp:ps[k]? =some p)(h:decide (p.1>0)=false):zaj a (ps.drop k)=(a,p.2-1)::zaj a (ps.drop (k+1)):=by
 rw [Z4 hp]
 show (if p.1>0 then zaj p.1 (ps.drop (k+1)) else (a,p.2-1)::zaj a (ps.drop (k+1)))=_
 rw [if_neg (by simpa using h)]
theorem zpZ {a:Int}{ps pre:List (Int×Int)}{k:Nat}(h:zhx ps=pre++zaj a (ps.drop k))(hk:ps.length≤k):zhx ps=pre:=by
 rw [h,List.drop_eq_nil_of_le hk];simp [zaj]
theorem zoC {a:Int}{ps pre:List (Int×Int)}{k:Nat}{p:Int×Int}(h:zhx ps=pre++zaj a (ps.drop k))(hp:ps[k]? =some p)(hn:decide (p.1>0)=false):pre++[(a,p.2-1)]<+:zhx ps:=by
 rw [h,zop hp hn]
 exact ⟨zaj a (ps.drop (k+1)),by simp⟩
def zxl (q:Int×Int):Value:=.int .i64 q.1
def zw1 (q:Int×Int):Value:=.int .i64 q.2
end
end Go.Proofs.YtodakphagkommaaGreatDoor
