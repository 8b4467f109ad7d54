/- apparatusRows_holds, part C of the proof: what its theorems say holds without further conditions. -/
import Derived.Lib.SlicesCompact
import Derived.Lib.RowBridge
import Derived.Shelf.SlSortCmp.WholeK
import Derived.Shelf.Small.Bits
import Derived.Shelf.Small.Wraps
import Derived.Shelf.Strconv.Itoa0
import Derived.Shelf.Sort.Plain
import Derived.Shelf.Slices.Turned
import Derived.Shelf.Slices.Equal
import Derived.Ground.Names2Prog
import Derived.Shelf.Slices.Clone
import Derived.Shelf.Slices.CompactI
import Derived.Shelf.Slices.SearchI
import Derived.Shelf.Slices.Cells
import Derived.Shelf.Slices.In.SortNone
import Derived.Shelf.Slices.Empties
import Derived.Shelf.Slices.Empties2
import Derived.Ground.SlgnProg
import Derived.Shelf.SlicesE.Clone
import Derived.Ground.SlsfProg
import Derived.Shelf.SlSortCmp.InsertionK
import Derived.Shelf.SlSortCmp.SiftDownK
import Derived.Shelf.SlSortCmp.HeapSortK
import Derived.Shelf.SlSortCmp.MedianK
import Derived.Shelf.SlSortCmp.PivotK
import Derived.Shelf.SlSortCmp.ReverseRangeK
import Derived.Shelf.SlSortCmp.PartialInsertionK
import Derived.Shelf.SlSortCmp.PartitionEqualK
import Derived.Shelf.SlSortCmp.PartitionK
import Derived.Shelf.SlSortCmp.PdqK
import Derived.Shelf.SlSortCmp.NoneTotal
import Derived.Test.YtodakphagkommaaGreatDoorProg
import Derived.Test.YtodakphagkommaaGreatDoorARB
namespace Go.Proofs.YtodakphagkommaaGreatDoor
section
open Go Go.Kn Go.Proofs
def stL (rows:List (List Int))(l k:Nat):List Int:=0::(((List.range k).map fun w=>uF rows l w).filter fun x=>x != 8589934592)
theorem zrC {rows:List (List Int)}{l k:Nat}(h:uF rows l k≠8589934592):stL rows l (k+1)=stL rows l k++[uF rows l k]:=by
 unfold stL;rw [List.range_succ,List.map_append,List.filter_append];simp [h]
theorem zwV {rows:List (List Int)}{l k:Nat}(h:uF rows l k=8589934592):stL rows l (k+1)=stL rows l k:=by
 unfold stL;rw [List.range_succ,List.map_append,List.filter_append];simp [h]
theorem ztd {rows:List (List Int)}{l:Nat}{y:Int}:y∈stL rows l rows.length↔y∈Q8 rows l:=by
 unfold stL
 rw [zeu,List.mem_cons,List.mem_filter,List.mem_map,bne_iff_ne]
 constructor
 ·
  rintro (h | ⟨⟨w,hw,rfl⟩,h⟩)
  ·
   exact .inl h
  ·
   have hw:=List.mem_range.1 hw
   refine .inr ⟨⟨rows.getD w [],?_,rfl⟩,h⟩
   unfold List.getD;rw [List.getElem?_eq_getElem hw];exact List.getElem_mem hw
 ·
  rintro (h | ⟨⟨r,hr,rfl⟩,h⟩)
  ·
   exact .inl h
  ·
   obtain ⟨w,hw,rfl⟩:=List.getElem_of_mem hr
   refine .inr ⟨⟨w,List.mem_range.2 hw,?_⟩,h⟩
   unfold uF
   rw [QY (List.getElem?_eq_getElem hw)]
theorem zqb:((List.range 6).all fun w=>IntKind.i64.wrap (1*2^(min ((w:Nat):Int).toNat IntKind.i64.bits))==((2^w:Nat):Int))=true:=by kernel_rfl
theorem ztu {w:Nat}(h:w<6):IntKind.i64.wrap (1*2^(min ((w:Nat):Int).toNat IntKind.i64.bits))=((2^w:Nat):Int):=eq_of_beq (List.all_eq_true.1 zqb w (List.mem_range.2 h))
end
section
open Go Go.Kn Go.Proofs
theorem zn0:Fun Tryz.prog 150:=.of Tryz.func150 (by kernel_rfl) (by kernel_rfl)
theorem zoO:Fun Tryz.prog 152:=.of Tryz.func152 (by kernel_rfl) (by kernel_rfl)
theorem zq1 {I:Qu}{av:Option Addr}{n c:Nat}{xs:List Int}(hS:Sl I 1 QQ av n c xs){bv:Option Addr}{n2 c2:Nat}{rows:List (List Int)}(hV:SlN I bv n2 c2 rows)(hn2:n2≤100000)(hDb:VJ I):Zx Tryz.prog 92 [.slice bv n2 c2,.slice av n c] I (.tuple #[.int .i64 (zdz rows xs),.int .i64 (YF rows xs)]):=by
 intro g H w hw
 refine qe Tryz.func92 Tryz.ntmps92 hw ?_
 have hlV:=hV.len
 subst hlV
 refine zR (zA ?_)
 refine zA (zN (Ql (zR ?_)))
 refine zM ?_
 refine qc (vs:=[_]) rfl zn0 (zqt hV hn2) ?_
 refine zA ?_
 refine zN (zR ?_)
 refine zM ?_
 refine zC (zN ?_)
 refine zI ?_ ?_<;>intro hc9
 ·
  have hr0:VI rows≠0:=by simpa using hc9
  obtain ⟨e1,e2⟩:=zea (cl:=xs) hr0
  refine zR (zM ?_)
  refine zA ?_
  refine zA (zN (Qt (Qc ?_)))
  first
  | exact ZF rfl rfl rfl (fun w hw=>⟨by rw [e1,e2],hw.drop⟩)
 have hr0:VI rows=0:=by simpa using hc9
 refine Qo (Qa (Ql (zR (zM ?_))))
 refine zQ Zk ?_
 refine zM ?_
 refine qc (vs:=[_,_]) rfl zhe (ziM hS _) ?_
 refine zA ?_
 refine zN (zR ?_)
 refine zM ?_
 refine zC (zN ?_)
 refine zI ?_ ?_<;>intro hc16
 ·
  have hc0:VU rows.length xs≠0:=by simpa using hc16
  obtain ⟨e1,e2⟩:=zuZ hr0 hc0
  refine zR (zM ?_)
  refine zA ?_
  refine zA (zN (Qt (Qc ?_)))
  first
  | exact ZF rfl rfl rfl (fun w hw=>⟨by rw [e1,e2],hw.drop⟩)
 have hc0:VU rows.length xs=0:=by simpa using hc16
 obtain ⟨e1,e2⟩:=zsD hr0 hc0
 have hn:n≤100000:=by have h1:=(ZS hc0).2.2.1;have h2:=hS.len;omega
 refine Qo (Qa (zR (zM ?_)))
 refine zM ?_
 refine qc (vs:=[_,_]) rfl zoO (zrL hS hn hV hn2 hDb hr0 hc0) ?_
 refine zA ?_
 refine zA (zN (Qt ?_))
 first
 | exact ZF rfl rfl rfl (fun w hw=>⟨by rw [e1,e2],hw.drop⟩)
end
section
open Go Go.Kn Go.Proofs
def WN (u x:Int):Int:=if (u != 8589934592&&u != x)=true then 1073741824 else 0
def zgk (S cs:List Int)(x:Int)(k:Nat):Int:=(List.range k).foldl (fun b j=>Kd b (Y8 x (S.getD j 0)+cs.getD j 0)) 1073741824
def Xr (S cs:List Int)(x:Int):Int:=zgk S cs x S.length
theorem ziZ {S cs:List Int}{x y c:Int}{k:Nat}(hy:S[k]? =some y)(hc:cs[k]? =some c):zgk S cs x (k+1)=Kd (zgk S cs x k) (Y8 x y+c):=by
 unfold zgk
 rw [List.range_succ,List.foldl_append,List.foldl_cons,List.foldl_nil,QY hy,QY hc]
theorem zbV {S cs:List Int}{x:Int}(h:∀ c∈cs,0≤c):∀ k,0≤zgk S cs x k∧zgk S cs x k≤1073741824
 | 0=>by unfold zgk;simp
 | k+1=>by
  have ih:=zbV (S:=S) (x:=x) h k
  have e:zgk S cs x (k+1)=Kd (zgk S cs x k) (Y8 x (S.getD k 0)+cs.getD k 0):=by unfold zgk;rw [List.range_succ,List.foldl_append];rfl
  have h1:0≤cs.getD k 0:=by
   unfold List.getD
   cases hc:cs[k]? with
   | none=>exact Int.le_refl _
   | some c=>exact h c (List.mem_of_getElem? hc)
  have h2:=(Ug x (S.getD k 0)).1
  rw [e]
  unfold Kd
  split<;>omega
def Uh (S A B:List Int)(j:Nat)(x:Int):Int:=(if 0<j then Xr S A x else 0)+(if 1<j then Xr S B x else 0)
theorem ziW {S A B:List Int}{j:Nat}{x:Int}(hj:j<2):Uh S A B j x+Xr S (if j=0 then A else B) x=Uh S A B (j+1) x:=by
 unfold Uh
 rcases (show j=0∨j=1 by omega) with rfl | rfl<;>simp
theorem zjO {S A B:List Int}{x:Int}(hA:∀ c∈A,0≤c)(hB:∀ c∈B,0≤c)(j:Nat):0≤Uh S A B j x∧Uh S A B j x≤2147483648:=by
 have a:0≤Xr S A x∧Xr S A x≤1073741824:=zbV hA S.length
 have b:0≤Xr S B x∧Xr S B x≤1073741824:=zbV hB S.length
 unfold Uh
 split<;>split<;>omega
def rcF (S:List Int)(u:Nat→Int)(cl:List Int):Nat→Int→List Int
 | 0,_=>[]
 | f+1,s=>if Z4 s=true then S.map (WN (u (Km s))) else S.map (Uh S (rcF S u cl f (Qy cl s)) (rcF S u cl f (s-Qy cl s)) 2)
theorem zvi {S:List Int}{u:Nat→Int}{cl:List Int}{f:Nat}{s:Int}(h:Z4 s=true):rcF S u cl (f+1) s=S.map (WN (u (Km s))):=by simp only [rcF];rw [if_pos h]
theorem zvo {S:List Int}{u:Nat→Int}{cl:List Int}{f:Nat}{s:Int}(h:Z4 s=false):rcF S u cl (f+1) s=S.map (Uh S (rcF S u cl f (Qy cl s)) (rcF S u cl f (s-Qy cl s)) 2):=by simp only [rcF];rw [if_neg (by rw [h];decide)]
theorem zgH {S:List Int}{u:Nat→Int}{cl:List Int}:∀ (f:Nat) (s:Int),∀ c∈rcF S u cl f s,0≤c∧c≤2147483648
 | 0,_,c,h=>by cases h
 | f+1,s,c,h=>by
  cases h1:Z4 s with
  | true=>
   rw [zvi h1] at h
   obtain ⟨x,_,rfl⟩:=List.mem_map.1 h
   unfold WN;split<;>omega
  | false=>
   rw [zvo h1] at h
   obtain ⟨x,_,rfl⟩:=List.mem_map.1 h
   exact zjO (fun c hc=>(zgH f _ c hc).1) (fun c hc=>(zgH f _ c hc).1) 2
theorem zrF {S:List Int}{u:Nat→Int}{cl:List Int}{f:Nat}{s:Int}:(rcF S u cl (f+1) s).length=S.length:=by
 cases h1:Z4 s with
 | true=>rw [zvi h1,List.length_map]
 | false=>rw [zvo h1,List.length_map]
def Ws (S:List Int)(g h:Int→Int)(i:Nat):List Int:=(S.take i).map g++(S.drop i).map h
theorem zjQ {S:List Int}{g h:Int→Int}:Ws S g h 0=S.map h:=by unfold Ws;simp
theorem zhX {S:List Int}{g h:Int→Int}{i:Nat}(hi:S.length≤i):Ws S g h i=S.map g:=by unfold Ws;rw [List.take_of_length_le hi,List.drop_eq_nil_of_le hi];simp
theorem zi3 {S:List Int}{g h:Int→Int}{i:Nat}:(Ws S g h i).length=S.length:=by unfold Ws;rw [List.length_append,List.length_map,List.length_map,←List.length_append,List.take_append_drop]
theorem zsM {S:List Int}{g h:Int→Int}{i:Nat}{x:Int}(hx:S[i]? =some x):(Ws S g h i)[i]? =some (h x):=by
 have hi:=(List.getElem?_eq_some_iff.1 hx).1
 have hl:((S.take i).map g).length=i:=by rw [List.length_map,List.length_take];omega
 unfold Ws
 rw [List.getElem?_append_right (by omega),hl,Nat.sub_self,ZY hx];rfl
theorem zgt {S:List Int}{g h:Int→Int}{i:Nat}{x:Int}(hx:S[i]? =some x):(Ws S g h i).set i (g x)=Ws S g h (i+1):=by
 have hi:=(List.getElem?_eq_some_iff.1 hx).1
 have hl:((S.take i).map g).length=i:=by rw [List.length_map,List.length_take];omega
 unfold Ws
 rw [List.set_append_right _ _ (by omega),hl,Nat.sub_self,ZY hx,List.map_cons,List.set_cons_zero,W9 hx,List.append_assoc];rfl
theorem zll {S:List Int}{g h:Int→Int}{i:Nat}{x:Int}(hx:S[i]? =some x)(e:g x=h x):Ws S g h i=Ws S g h (i+1):=by
 unfold Ws
 rw [ZY hx,W9 hx,List.append_assoc,List.map_cons,e];rfl
theorem zgG {S:List Int}{g h:Int→Int}(e:∀ x,h x=0):List.replicate S.length (0:Int)=Ws S g h 0:=by
 rw [zjQ]
 induction S with
 | nil=>rfl
 | cons x S ih=>rw [List.map_cons,e,List.length_cons,List.replicate_succ,ih]
theorem zrv {s:Int}(hs:1≤s∧s≤63)(h:Z4 s=true):Km s<6:=by
 have e:=zi9 hs h
 by_cases h6:Km s<6
 ·
  exact h6
 ·
  have:2^6≤2^Km s:=Nat.pow_le_pow_right (by decide) (by omega)
  omega
theorem zne {s:Int}{w:Nat}(hs:1≤s∧s≤63)(h:Z4 s=true)(hw:w≤Km s):(IntKind.i64.wrap (1*2^(min ((w:Nat):Int).toNat IntKind.i64.bits)) != s)=decide (w<Km s):=by
 have h6:=zrv hs h
 have e:=zi9 hs h
 rw [ztu (by omega)]
 by_cases hl:w<Km s
 ·
  rw [decide_eq_true hl,bne_iff_ne]
  intro e2
  have:w=Km s:=zo1 (by omega) h6 (by omega)
  omega
 ·
  rw [decide_eq_false hl,bne_eq_false_iff_eq]
  have:w=Km s:=by omega
  rw [this];omega
structure RtE (I:Qu)(fid bst brow bloc bcla bse:Nat)(sv bv av:Option Addr)(ns cs n2 c2 n c:Nat)(St xs:List Int)(rows:List (List Int))(l:Nat):Prop where
 st:QS I [] bst 0 (.slice sv ns cs)
 row:QS I [] brow 0 (.slice bv n2 c2)
 loc:QS I [] bloc 0 (.int .i64 l)
 cla:QS I [] bcla 0 (.slice av n c)
 se:QS I [] bse 0 (.func (.func fid) #[] #[Za bst,Za brow,Za bloc,Za bcla,Za bse])
 hT:Sl I 1 QQ sv ns cs St
 hS:Sl I 1 QQ av n c xs
 hV:SlN I bv n2 c2 rows
theorem RtE.mono {I I':Qu}{fid bst brow bloc bcla bse:Nat}{sv bv av:Option Addr}{ns cs n2 c2 n c:Nat}{St xs:List Int}{rows:List (List Int)}{l:Nat}(h:RtE I fid bst brow bloc bcla bse sv bv av ns cs n2 c2 n c St xs rows l)(hI:HLe I I'):RtE I' fid bst brow bloc bcla bse sv bv av ns cs n2 c2 n c St xs rows l:=
 ⟨h.st.mono hI,h.row.mono hI,h.loc.mono hI,h.cla.mono hI,h.se.mono hI,h.hT.mono hI,h.hS.mono hI,h.hV.mono hI⟩
end
section
open Go Go.Kn Go.Proofs
theorem znA:Fun Tryz.prog 93:=.of Tryz.func93 (by kernel_rfl) (by kernel_rfl)
theorem zsz:Fun Tryz.prog 94:=.of Tryz.func94 (by kernel_rfl) (by kernel_rfl)
theorem zuQ:Fun Tryz.prog 95:=.of Tryz.func95 (by kernel_rfl) (by kernel_rfl)
theorem zjP:ScT Tryz.prog 174:=.of (by kernel_rfl)
theorem zlO (I:Qu)(x y:Int):Zx Tryz.prog 95 [.int .i64 x,.int .i64 y] I (.int .i64 (Y8 x y)):=by
 intro g H w hw
 refine qe Tryz.func95 Tryz.ntmps95 hw ?_
 refine zR (zA (zN (Ql (Qm (zR ?_)))))
 refine zM ?_
 refine zM ?_
 refine zC ?_
 refine zA (zN ?_)
 refine zI ?_ ?_<;>intro hc5
 ·
  refine zR (zA (zN (Qt (Qn (Qc ?_)))))
  first
  | exact zr rfl rfl (by unfold Y8;rw [if_pos (by simpa using hc5)])
 refine zR (zM ?_)
 refine zC ?_
 refine zA (zN ?_)
 refine zI ?_ ?_<;>intro hc9
 ·
  refine zR (zA (zN (Qt (Qn (Qc ?_)))))
  first
  | exact zr rfl rfl (by unfold Y8;rw [if_neg (by simpa using hc5),if_pos (by simpa using hc9)])
 refine zR (zM ?_)
 refine zC ?_
 refine zA (zN ?_)
 refine zI ?_ ?_<;>intro hc12
 ·
  refine zR (zA (zN (Qt (Qn (Qc ?_)))))
  first
  | exact zr rfl rfl (by unfold Y8;rw [if_neg (by simpa using hc5),if_neg (by simpa using hc9),if_pos (by simpa using hc12)])
 refine Qo (Qh (Qa (zR (zA (zN (Qt ?_))))))
 first
 | exact zr rfl rfl (by unfold Y8;rw [if_neg (by simpa using hc5),if_neg (by simpa using hc9),if_neg (by simpa using hc12)])
theorem zlJ {I:Qu}{av:Option Addr}{n c m:Nat}{xs:List Int}(hS:Sl I 1 QQ av n c xs)(hn:n≤100000)(hc:VU m xs=0){s:Int}(hin:s∈xs):Zx Tryz.prog 94 [.int .i64 m,.slice av n c,.int .i64 s] I (.tuple #[.int .i64 (Qy xs s),.int .i64 (s-Qy xs s),.int .i64 0]):=by
 have h:=zqO hS hn (m:Int) s
 have e:YR (m:Int) xs s=0:=zc0 hc (List.any_eq_true.2 ⟨s,hin,by simp⟩)
 obtain ⟨e1,e2⟩:=zf7 (m:=(m:Int)) (cl:=xs) (s:=s)
 rw [e1,e2,e] at h
 unfold zaJ zao at h
 rw [if_neg (by omega),if_neg (by omega)] at h
 exact h
theorem zlr {I:Qu}{bst brow bloc bcla bse:Nat}{sv bv av:Option Addr}{ns cs n2 c2 n c:Nat}{St xs:List Int}{rows:List (List Int)}{l:Nat}(hE:RtE I 93 bst brow bloc bcla bse sv bv av ns cs n2 c2 n c St xs rows l)(hn:n≤100000)(hn2:n2≤100000)(hns:ns≤1000)(hl:∀ r∈rows,l<r.length)(hc:VU rows.length xs=0)(f:Nat)(s:Int)(hok:OkS rows.length xs s)(hf:1<s→1≤f)(ih:∀ (I':Qu),HLe I I'→∀ (s':Int),OkS rows.length xs s'→s'<s→Yb Tryz.prog 93 ([.int .i64 s']++[Za bst,Za brow,Za bloc,Za bcla,Za bse]) I' [] (zbf 1 QQ (rcF St (uF rows l) xs f s'))):Yb Tryz.prog 93 [.int .i64 s,Za bst,Za brow,Za bloc,Za bcla,Za bse] I [] (zbf 1 QQ (rcF St (uF rows l) xs (f+1) s)):=by
 intro g H w hw
 refine qe Tryz.func93 Tryz.ntmps93 hw ?_
 have hIc:=zxQ I
 have hVl:=hE.hV.len
 subst hVl
 have hTl:=hE.hT.len
 subst hTl
 obtain ⟨hs,hV⟩:=hE.hV
 have hH:=hV.1
 have hal:=(ZS hc).1
 have hal6:=(ZS hc).2.1
 have hs63:=zgb hc hok
 refine zR (zA ?_)
 refine zN (zR ?_)
 refine zV (Qd rfl QK (fun hg=>by exact hE.st.any)) ?_
 refine zQ Qw ?_
 refine Q3 YB rfl rfl (by omega) (by decide) rfl rfl (fun b_26=>?_)
 refine zA (Qb ?_)
 have e0:((St.length:Nat):Int).toNat=St.length:=rfl
 rw [e0,Q4]
 refine Qa (Ql (zR (zM ?_)))
 refine zM ?_
 refine zB ?_
 refine zV (XH rfl rfl) ?_
 refine zC (zN ?_)
 refine zI ?_ ?_<;>intro hc31
 ·
  have hsing:Z4 s=true:=by unfold Z4;rw [decide_eq_true (show s>0 by omega),Bool.true_and,zrx hs63];exact hc31
  have hwn:=zrQ (n:=rows.length) (by omega) hs63 hsing hok.2.1
  have hw6:=zrv hs63 hsing
  refine zR (zA (zN (Ql (Qm ?_))))
  refine zU [(0,_),(1,_),(2,_),(3,_),(8,_)] (fun T L0 mz E I' loc'=>∃ (k:Nat),mz=(Km s)-k∧E=(9,.int .i64 k)::T∧I=I'∧[(b_26,.cells (Zd (List.replicate St.length 0)) 3 (0,0))]=loc'∧k≤(Km s)) ?_ (h:=⟨0,rfl,rfl,rfl,rfl,Nat.zero_le _⟩)
  rintro mz E I' loc' ⟨k,rfl,rfl,rfl,rfl,hk⟩
  refine Ql (zR (zM ?_))
  refine zV (Xj rfl rfl (fun hg=>by omega)) ?_
  refine zM ?_
  refine zC (zN ?_)
  refine zI ?_ ?_<;>intro hc35
  ·
   have hlt_k:k<Km s:=by rw [zne hs63 hsing hk] at hc35;simpa using hc35
   refine Qo (Qa (Qm (Qg (zM ?_))))
   refine zB ?_
   refine zA (Qb (Qh ?_))
   exact zm (h:=⟨(Km s)-(k+1),by omega,k+1,rfl,rfl,rfl,rfl,by omega⟩)
  have hge_k:k=Km s:=by rw [zne hs63 hsing hk] at hc35;simp at hc35;omega
  subst hge_k
  obtain ⟨x,v,hx,hv,hQ⟩:=hV.at hwn
  have hlv:=hl v (List.mem_of_getElem? hv)
  have hu:=Zb (d:=0) rfl hlv
  have hvn:=hQ.len
  have hUF:uF rows l (Km s)=v.getD l 0:=by unfold uF;rw [QY hv]
  rw [zgG (g:=(WN (uF rows l (Km s)))) (h:=(fun _=>0)) (fun _=>rfl)]
  refine QI (Qf (Qf (Qk (Qa (Ql (zR ?_))))))
  refine zV (Qd rfl QK (fun hg=>by exact hE.st.any)) ?_
  refine zQ Qw ?_
  refine zM (zN (Qm ?_))
  refine zU [(2,_),(3,_),(8,_),(9,_),(38,_),(39,_)] (fun T L0 mz E I' loc'=>∃ (i:Nat),mz=St.length-i∧E=(40,.int .i64 i)::T∧I=I'∧[(b_26,.cells (Zd (Ws St (WN (uF rows l (Km s))) (fun _=>0) i)) 3 (0,0))]=loc'∧i≤St.length) ?_ (h:=⟨0,rfl,rfl,rfl,rfl,Nat.zero_le _⟩)
  rintro mz E I' loc' ⟨i,rfl,rfl,rfl,rfl,hi⟩
  refine zR (zC (zN (Ql ?_)))
  refine zI ?_ ?_<;>intro hc41
  ·
   have hlt_i:i<St.length:=by have h:=hc41;simp at h;omega
   obtain ⟨y,hst⟩:=hE.hT.at hlt_i
   refine Qo (Qa (Ql (Qm (zR (zM ?_)))))
   refine zV (QG rfl rfl Qw hE.hT (fun hg=>by omega)) ?_
   refine zV (Qd rfl Qr (fun hg=>by exact zxJ (hE.hT) hst rfl)) ?_
   refine zA ?_
   refine zA (zN (Ql ?_))
   refine YI mixed (by kernel_rfl) ?_
   refine zq (Qd rfl Kj (fun hg=>by exact hE.row.any)) ?_
   refine zq (Qi rfl) ?_
   refine zq (zX Zk hH) ?_
   refine zq (Qd rfl QK (fun hg=>by exact zxJ hH hx rfl)) ?_
   refine zq (Qd rfl Qr (fun hg=>by exact hE.loc.any)) ?_
   refine zq (zX Qw hQ) ?_
   refine zq (Qd rfl Qr (fun hg=>by exact zxJ hQ hu rfl)) ?_
   refine zq (ZK rfl) ?_
   refine YH ?_
   refine Qa (zR (zM ?_))
   refine zC ?_
   refine zM ?_
   refine QE 2 rfl rfl rfl ?_
   refine zK (Qi rfl) ?_
   refine zK (Qi rfl) ?_
   refine zK (QH rfl rfl rfl) ?_
   refine QO rfl rfl rfl rfl rfl ?_
   refine zN ?_
   refine zI ?_ ?_<;>intro hc58
   ·
    have hgy:(WN (uF rows l (Km s))) y=1073741824:=by unfold WN;rw [hUF,if_pos (by simpa using hc58)]
    refine Qg (zM ?_)
    refine zM ?_
    refine zV (QZ rfl rfl Qw (fun hg=>by omega)) ?_
    refine ZB rfl rfl Z7 rfl rfl (by repeat (first | exact Upd.here | apply Upd.there | apply QJ)) (zoN (by rw [zi3];omega)) ?_
    refine Qb ?_
    rw [YE,show (Ws St (WN (uF rows l (Km s))) (fun _=>0) i).set i 1073741824=Ws St (WN (uF rows l (Km s))) (fun _=>0) (i+1) from by rw [←zgt hst,hgy]]
    refine Qh (Qa (Qg (zB ?_)))
    refine zM (Qb ?_)
    exact zm (h:=⟨St.length-(i+1),by omega,i+1,rfl,rfl,rfl,rfl,by omega⟩)
   have hgy:(WN (uF rows l (Km s))) y=0:=by unfold WN;rw [hUF,if_neg (by rw [hc58];decide)]
   rw [zll hst hgy]
   refine Qo (Qh (Qa (Qg (zB ?_))))
   refine zM (Qb ?_)
   exact zm (h:=⟨St.length-(i+1),by omega,i+1,rfl,rfl,rfl,rfl,by omega⟩)
  have hge_i:St.length≤i:=by have h:=hc41;simp at h;omega
  rw [zhX hge_i]
  refine QI (Qf (Qf (Qk (Qa (zR (zM ?_))))))
  refine zA (zN (Qt (Qc ?_)))
  first
  | exact Zt rfl rfl (fun w hw=>by obtain ⟨I9,h91,h92,h93⟩:=OwnS.res (zeI (by rw [List.length_map]) (by omega)) Qv (by decide) hw;rw [←zvi (f:=f) (cl:=xs) hsing] at h93;exact ⟨_,I9,[],rfl,hIc.trans h91,h92,h93⟩)
 have hns0:Z4 s=false:=by unfold Z4;rw [decide_eq_true (show s>0 by omega),Bool.true_and,zrx hs63];exact hc31
 obtain ⟨hin,ok1,ok2,hp1,hp2,_,_⟩:=V5 hc hok hns0
 obtain ⟨f0,rfl⟩:∃ f0,f=f0+1:=⟨f-1,by have:=hf (by omega);omega⟩
 rw [zgG (g:=(Uh St (rcF St (uF rows l) xs (f0+1) (Qy xs s)) (rcF St (uF rows l) xs (f0+1) (s-Qy xs s)) 0)) (h:=(Uh St (rcF St (uF rows l) xs (f0+1) (Qy xs s)) (rcF St (uF rows l) xs (f0+1) (s-Qy xs s)) 0)) (fun _=>by unfold Uh;simp)]
 refine Qo (Qa (zR ?_))
 refine zV (Qd rfl Kj (fun hg=>by exact hE.row.any)) ?_
 refine zQ Zk ?_
 refine zV (Qd rfl QK (fun hg=>by exact hE.cla.any)) ?_
 refine zM ?_
 refine qc (vs:=[_,_,_]) rfl zsz (zlJ hE.hS hn hc hin) ?_
 refine zM ?_
 refine zE ?_
 refine zE ?_
 refine zE ?_
 refine zA ?_
 refine zA ?_
 refine zA (zN (Ql (zR ?_)))
 refine zM ?_
 refine zM ?_
 refine Qq (ps:=[(0,_),(1,_)]) (m:=[QQ (Qy xs s),QQ (s-Qy xs s)]) Zh rfl (.cons rfl (.cons rfl (.nil))) rfl (by simp [Qv]) (by decide) (by decide) rfl rfl (fun b_75=>?_)
 refine ZU (b:=b_75) (by repeat (first | exact Q7.here | apply Q7.there)) (fun I3 hI3 hb3=>?_)
 have hE:=hE.mono hI3;have hIc:=hIc.trans hI3
 have hAB:Sl I3 1 QQ (some ⟨b_75,0,none⟩) 2 2 ([Qy xs s,s-Qy xs s]:List Int):=Sl.lit ([Qy xs s,s-Qy xs s]:List Int) rfl Qv (show _=some (Obj.cells (([Qy xs s,s-Qy xs s]:List Int).flatMap QQ).toArray 3 (0,0)) from hb3)
 refine zQ Qw ?_
 refine zM (zN (Qm ?_))
 refine zU [(1,_),(5,_),(8,_),(75,_),(76,_)] (fun T L0 mz E I' loc'=>∃ (j:Nat),mz=2-j∧E=(77,.int .i64 j)::T∧HLe I3 I'∧[(b_26,.cells (Zd (Ws St (Uh St (rcF St (uF rows l) xs (f0+1) (Qy xs s)) (rcF St (uF rows l) xs (f0+1) (s-Qy xs s)) j) (Uh St (rcF St (uF rows l) xs (f0+1) (Qy xs s)) (rcF St (uF rows l) xs (f0+1) (s-Qy xs s)) j) 0)) 3 (0,0))]=loc'∧j≤2) ?_ (h:=⟨0,rfl,rfl,zxQ _,rfl,Nat.zero_le _⟩)
 rintro mz E J4 loc' ⟨j,rfl,rfl,hJ,rfl,hj⟩
 have hE:=hE.mono hJ;have hAB:=hAB.mono hJ;have hIc:=hIc.trans hJ
 have hB4:=hJ
 refine zR (zC (zN (Ql ?_)))
 refine zI ?_ ?_<;>intro hc78
 ·
  have hlt_j:j<2:=by have h:=hc78;simp at h;omega
  obtain ⟨q,hpj,hpe,okp,hpl⟩:∃ q,([Qy xs s,s-Qy xs s]:List Int)[j]? =some q∧(rcF St (uF rows l) xs (f0+1) (q))=(if j=0 then (rcF St (uF rows l) xs (f0+1) (Qy xs s)) else (rcF St (uF rows l) xs (f0+1) (s-Qy xs s)))∧OkS rows.length xs q∧q<s:=by
   rcases (show j=0∨j=1 by omega) with rfl | rfl
   ·
    exact ⟨_,rfl,rfl,ok1,by omega⟩
   exact ⟨_,rfl,rfl,ok2,by omega⟩
  have hcl:(if j=0 then (rcF St (uF rows l) xs (f0+1) (Qy xs s)) else (rcF St (uF rows l) xs (f0+1) (s-Qy xs s))).length=St.length:=by split<;>exact zrF
  have hci:∀ c∈(if j=0 then (rcF St (uF rows l) xs (f0+1) (Qy xs s)) else (rcF St (uF rows l) xs (f0+1) (s-Qy xs s))),0≤c∧c≤2147483648:=by split<;>exact zgH _ _
  rw [show Ws St (Uh St (rcF St (uF rows l) xs (f0+1) (Qy xs s)) (rcF St (uF rows l) xs (f0+1) (s-Qy xs s)) j) (Uh St (rcF St (uF rows l) xs (f0+1) (Qy xs s)) (rcF St (uF rows l) xs (f0+1) (s-Qy xs s)) j) 0=Ws St (Uh St (rcF St (uF rows l) xs (f0+1) (Qy xs s)) (rcF St (uF rows l) xs (f0+1) (s-Qy xs s)) (j+1)) (Uh St (rcF St (uF rows l) xs (f0+1) (Qy xs s)) (rcF St (uF rows l) xs (f0+1) (s-Qy xs s)) j) 0 by rw [zjQ,zjQ]]
  refine Qo (Qa (Ql (Qm (zR ?_))))
  refine zV (zX Qw hAB) ?_
  refine zV (Qd rfl Qr (fun hg=>by exact zxJ hAB hpj rfl)) ?_
  refine zA ?_
  refine zN (zR ?_)
  refine zV (Qd rfl zjP (fun hg=>by exact hE.se.any)) ?_
  refine zM ?_
  refine Qz (cap:=[Za bst,Za brow,Za bloc,Za bcla,Za bse]) (vs:=[_]) rfl rfl znA (by exact .nil) (ih _ hIc _ okp hpl) rfl rfl ?_
  rintro vv5 I5 L5 hI5 ⟨rfl,aC,cC,rfl,hBl⟩
  have hE:=hE.mono hI5;have hB4:=hB4.trans hI5
  rw [hpe] at hBl ⊢
  refine zA ?_
  refine zN (zR ?_)
  refine zV (Qd rfl QK (fun hg=>by exact hE.st.any)) ?_
  refine zQ Qw ?_
  refine zM (zN (Qm ?_))
  refine zU [(1,_),(5,_),(8,_),(18,_),(75,_),(76,_),(77,_),(84,_),(85,_)] (fun T L0 mz E I' loc'=>∃ (i:Nat),mz=St.length-i∧E=(86,.int .i64 i)::T∧I5=I'∧[(b_26,.cells (Zd (Ws St (Uh St (rcF St (uF rows l) xs (f0+1) (Qy xs s)) (rcF St (uF rows l) xs (f0+1) (s-Qy xs s)) (j+1)) (Uh St (rcF St (uF rows l) xs (f0+1) (Qy xs s)) (rcF St (uF rows l) xs (f0+1) (s-Qy xs s)) j) i)) 3 (0,0))]=loc'∧i≤St.length) ?_ (h:=⟨0,rfl,rfl,rfl,rfl,Nat.zero_le _⟩)
  rintro mz E I' loc' ⟨i,rfl,rfl,rfl,rfl,hi⟩
  refine zR (zC (zN (Ql ?_)))
  refine zI ?_ ?_<;>intro hc87
  ·
   have hlt_i:i<St.length:=by have h:=hc87;simp at h;omega
   obtain ⟨y,hst⟩:=hE.hT.at hlt_i
   have hti:=zjO (S:=St) (A:=(rcF St (uF rows l) xs (f0+1) (Qy xs s))) (B:=(rcF St (uF rows l) xs (f0+1) (s-Qy xs s))) (x:=y) (fun c h=>(zgH _ _ c h).1) (fun c h=>(zgH _ _ c h).1) j
   refine Qo (Qa (Ql (Qm (zR (zM ?_)))))
   refine zV (QG rfl rfl Qw hE.hT (fun hg=>by omega)) ?_
   refine zV (Qd rfl Qr (fun hg=>by exact zxJ (hE.hT) hst rfl)) ?_
   refine zA ?_
   refine zA ?_
   refine zN (zR ?_)
   refine zA (zN (Ql (zR ?_)))
   refine zV (Qd rfl QK (fun hg=>by exact hE.st.any)) ?_
   refine zQ Qw ?_
   refine zM (zN (Qm ?_))
   refine zU [(1,_),(5,_),(8,_),(18,_),(19,_),(20,_),(75,_),(76,_),(77,_),(84,_),(85,_),(86,_),(91,_),(92,_)] (fun T L0 mz E I' loc'=>∃ (k:Nat),mz=St.length-k∧E=(21,.int .i64 (zgk St (if j=0 then (rcF St (uF rows l) xs (f0+1) (Qy xs s)) else (rcF St (uF rows l) xs (f0+1) (s-Qy xs s))) y k))::(93,.int .i64 k)::T∧I5=I'∧[(b_26,.cells (Zd (Ws St (Uh St (rcF St (uF rows l) xs (f0+1) (Qy xs s)) (rcF St (uF rows l) xs (f0+1) (s-Qy xs s)) (j+1)) (Uh St (rcF St (uF rows l) xs (f0+1) (Qy xs s)) (rcF St (uF rows l) xs (f0+1) (s-Qy xs s)) j) i)) 3 (0,0))]=loc'∧k≤St.length) ?_ (h:=⟨0,rfl,rfl,rfl,rfl,Nat.zero_le _⟩)
   rintro mz E I' loc' ⟨k,rfl,rfl,rfl,rfl,hk⟩
   refine zR (zC (zN (Ql ?_)))
   refine zI ?_ ?_<;>intro hc94
   ·
    have hlt_k:k<St.length:=by have h:=hc94;simp at h;omega
    obtain ⟨yk,hsk⟩:=hE.hT.at hlt_k
    obtain ⟨ck,hck⟩:=hBl.at (show k<_ by omega)
    have hcki:=hci ck (List.mem_of_getElem? hck)
    have hsti:=Ug y yk
    refine Qo (Qa (Ql (Qm (zR (zM ?_)))))
    refine zV (QG rfl rfl Qw hE.hT (fun hg=>by omega)) ?_
    refine zV (Qd rfl Qr (fun hg=>by exact zxJ (hE.hT) hsk rfl)) ?_
    refine zA ?_
    refine zA (zN ?_)
    refine YI mixed (by kernel_rfl) ?_
    refine zq (Qi rfl) ?_
    refine zq (Qi rfl) ?_
    refine zq (Qi rfl) ?_
    refine Jg (cap:=[]) (vs:=[_,_]) rfl rfl zuQ (zlO _ _ _) rfl rfl ?_
    refine zq (Qi rfl) ?_
    refine zq (Qi rfl) ?_
    refine zq (zX Qw hBl) ?_
    refine zq (Qd rfl Qr (fun hg=>by exact zxJ hBl hck rfl)) ?_
    refine zq (ZN rfl rfl rfl (fun hg=>by omega)) ?_
    refine zq (znr rfl rfl) ?_
    refine zq (ZK rfl) ?_
    refine YH ?_
    rw [←ziZ hsk hck]
    refine Qh (Qa (Qg (zB ?_)))
    refine zM (Qb ?_)
    exact zm (h:=⟨St.length-(k+1),by omega,k+1,rfl,rfl,rfl,rfl,by omega⟩)
   have hge_k:St.length≤k:=by have h:=hc94;simp at h;omega
   rw [show k=St.length by omega]
   have hmni:=zbV (S:=St) (x:=y) (fun c h=>(hci c h).1) St.length
   refine QI (Qf (Qf (Qk (Qa (Qg (zM ?_))))))
   refine zM ?_
   refine zV (QZ rfl rfl Qw (fun hg=>by omega)) ?_
   refine zV (Qd rfl Qr (fun hg=>by exact Vs (zsM hst))) ?_
   refine zM ?_
   refine zB ?_
   refine zV (QZ rfl rfl Qw (fun hg=>by omega)) ?_
   refine ZB rfl rfl Z7 rfl rfl (by repeat (first | exact Upd.here | apply Upd.there | apply QJ)) (zoN (by rw [zi3];omega)) ?_
   refine Qb ?_
   rw [YE,show (Ws St (Uh St (rcF St (uF rows l) xs (f0+1) (Qy xs s)) (rcF St (uF rows l) xs (f0+1) (s-Qy xs s)) (j+1)) (Uh St (rcF St (uF rows l) xs (f0+1) (Qy xs s)) (rcF St (uF rows l) xs (f0+1) (s-Qy xs s)) j) i).set i ((Uh St (rcF St (uF rows l) xs (f0+1) (Qy xs s)) (rcF St (uF rows l) xs (f0+1) (s-Qy xs s)) j) y+zgk St (if j=0 then (rcF St (uF rows l) xs (f0+1) (Qy xs s)) else (rcF St (uF rows l) xs (f0+1) (s-Qy xs s))) y St.length)=Ws St (Uh St (rcF St (uF rows l) xs (f0+1) (Qy xs s)) (rcF St (uF rows l) xs (f0+1) (s-Qy xs s)) (j+1)) (Uh St (rcF St (uF rows l) xs (f0+1) (Qy xs s)) (rcF St (uF rows l) xs (f0+1) (s-Qy xs s)) j) (i+1) from by rw [←zgt hst,←ziW hlt_j];rfl]
   refine Qh (Qa (Qg (zB ?_)))
   refine zM (Qb ?_)
   exact zm (h:=⟨St.length-(i+1),by omega,i+1,rfl,rfl,rfl,rfl,by omega⟩)
  have hge_i:St.length≤i:=by have h:=hc87;simp at h;omega
  rw [show Ws St (Uh St (rcF St (uF rows l) xs (f0+1) (Qy xs s)) (rcF St (uF rows l) xs (f0+1) (s-Qy xs s)) (j+1)) (Uh St (rcF St (uF rows l) xs (f0+1) (Qy xs s)) (rcF St (uF rows l) xs (f0+1) (s-Qy xs s)) j) i=Ws St (Uh St (rcF St (uF rows l) xs (f0+1) (Qy xs s)) (rcF St (uF rows l) xs (f0+1) (s-Qy xs s)) (j+1)) (Uh St (rcF St (uF rows l) xs (f0+1) (Qy xs s)) (rcF St (uF rows l) xs (f0+1) (s-Qy xs s)) (j+1)) 0 by rw [zhX hge_i,zjQ]]
  refine QI (Qf (Qf (Qk (Qh (Qa (Qg (zB ?_)))))))
  refine zM (Qb ?_)
  exact zm (h:=⟨2-(j+1),by omega,j+1,rfl,rfl,hB4,rfl,by omega⟩)
 have hge_j:2≤j:=by have h:=hc78;simp at h;omega
 rw [show j=2 by omega,zjQ]
 refine QI (Qf (Qf (Qk (Qa (zR (zM ?_))))))
 refine zA (zN (Qt ?_))
 first
 | exact Zt rfl rfl (fun w hw=>by obtain ⟨I9,h91,h92,h93⟩:=OwnS.res (zeI (by rw [List.length_map]) (by omega)) Qv (by decide) hw;rw [←zvo (f:=f0+1) hns0] at h93;exact ⟨_,I9,[],rfl,hIc.trans h91,h92,h93⟩)
end
section
open Go Go.Kn
theorem zfl (d:Array Int)(hs:∀ j,0<j→j<d.size→d[j-1]! ≤d[j]!):∀ m,m≤d.size→(Lib.compactUpTo d m).Pairwise (· < ·)∧(∀ x∈Lib.compactUpTo d m,0<m∧x≤d[m-1]!)∧∀ x,x∈Lib.compactUpTo d m↔ ∃ j,j<m∧d[j]! =x
 | 0,_=>⟨.nil,(fun x h=>by cases h),fun x=>⟨(fun h=>by cases h),fun ⟨j,h,_⟩=>by omega⟩⟩
 | m+1,hm=>by
  obtain ⟨h1,h2,h3⟩:=zfl d hs m (by omega)
  rw [Lib.compactUpTo_succ]
  by_cases hk:Lib.keeps d m=true
  ·
   rw [if_pos hk]
   have hlt:∀ x∈Lib.compactUpTo d m,x<d[m]! :=fun x hx=>by
    obtain ⟨a,b⟩:=h2 x hx
    have h4:=hs m a (by omega)
    unfold Lib.keeps at hk
    have h5:=of_decide_eq_true hk
    omega
   refine ⟨?_,?_,?_⟩
   ·
    rw [List.pairwise_append]
    exact ⟨h1,List.pairwise_singleton ..,fun y hy z hz=>by rw [List.mem_singleton] at hz;rw [hz];exact hlt y hy⟩
   ·
    intro x hx
    refine ⟨by omega,?_⟩
    rw [show m+1-1=m from by omega]
    rcases List.mem_append.1 hx with hx | hx
    ·
     have:=hlt x hx;omega
    ·
     rw [List.mem_singleton] at hx;rw [hx];exact Int.le_refl _
   ·
    intro x
    rw [List.mem_append,h3,List.mem_singleton]
    constructor
    ·
     rintro (⟨j,a,b⟩ | e)
     ·
      exact ⟨j,by omega,b⟩
     ·
      exact ⟨m,by omega,e.symm⟩
    ·
     rintro ⟨j,a,b⟩
     by_cases e:j=m
     ·
      subst e;exact .inr b.symm
     ·
      exact .inl ⟨j,by omega,b⟩
  ·
   rw [if_neg hk,List.append_nil]
   unfold Lib.keeps at hk
   have h5:¬(m=0∨d[m]! ≠d[m-1]!):=fun h=>hk (decide_eq_true h)
   have h6:0<m∧d[m]! =d[m-1]! :=by omega
   refine ⟨h1,?_,?_⟩
   ·
    intro x hx
    have:=h2 x hx
    rw [show m+1-1=m from by omega]
    omega
   ·
    intro x
    rw [h3]
    constructor
    ·
     rintro ⟨j,a,b⟩;exact ⟨j,by omega,b⟩
    ·
     rintro ⟨j,a,b⟩
     by_cases e:j=m
     ·
      subst e;exact ⟨j-1,by omega,by rw [←h6.2];exact b⟩
     ·
      exact ⟨j,by omega,b⟩
theorem KL (zs:List Int):(Lib.compact (Yv zs)).Pairwise (· < ·)∧∀ x,x∈Lib.compact (Yv zs)↔x∈zs:=by
 have hp:(Yv zs).Pairwise (fun a b=>decide (a≤b)=true):=List.pairwise_mergeSort (by intro a b c;simp;omega) (by intro a b;simp;omega) zs
 have hget:∀ j,j<(Yv zs).length→(Yv zs).toArray[j]! =(Yv zs)[j]! :=fun j hj=>by simp
 have hs:∀ j,0<j→j<(Yv zs).toArray.size→(Yv zs).toArray[j-1]! ≤(Yv zs).toArray[j]! :=by
  intro j h0 hj
  have hj':j<(Yv zs).length:=by simpa using hj
  have h1:=List.pairwise_iff_getElem.1 hp (j-1) j (by omega) hj' (by omega)
  have h2:=of_decide_eq_true h1
  simpa [hj',show j-1<(Yv zs).length from by omega] using h2
 obtain ⟨h1,_,h3⟩:=zfl (Yv zs).toArray hs (Yv zs).length (by simp)
 refine ⟨h1,fun x=>?_⟩
 unfold Lib.compact
 rw [h3]
 have hmem:x∈Yv zs↔x∈zs:=(List.mergeSort_perm zs _).mem_iff
 rw [←hmem]
 constructor
 ·
  rintro ⟨j,hj,e⟩
  have:(Yv zs)[j]=x:=by simpa [hj] using e
  rw [←this];exact List.getElem_mem hj
 ·
  intro h
  obtain ⟨j,hj,e⟩:=List.getElem_of_mem h
  exact ⟨j,hj,by simpa [hj] using e⟩
end
section
open Go Go.Kn Go.Proofs
def rcV (S:List Int)(u:Nat→Int)(cl:List Int)(f:Nat)(s x:Int):Int:=if Z4 s=true then WN (u (Km s)) x else Uh S (rcF S u cl f (Qy cl s)) (rcF S u cl f (s-Qy cl s)) 2 x
theorem zt7 {S:List Int}{u:Nat→Int}{cl:List Int}{f:Nat}{s:Int}:rcF S u cl (f+1) s=S.map (rcV S u cl f s):=by
 cases h:Z4 s with
 | true=>rw [zvi h];exact List.map_congr_left fun x _=>by unfold rcV;rw [if_pos h]
 | false=>rw [zvo h];exact List.map_congr_left fun x _=>by unfold rcV;rw [if_neg (by rw [h];decide)]
def stE (rows:List (List Int))(l:Nat):List Int:=Lib.compact (Yv (stL rows l rows.length))
def zi8 (rows:List (List Int))(cl:List Int)(l:Nat):List Int:=rcF (stE rows l) (uF rows l) cl 64 (Y3 rows.length)
def zmX (rows:List (List Int))(cl:List Int)(l:Nat)(x:Int):Int:=rcV (stE rows l) (uF rows l) cl 63 (Y3 rows.length) x
theorem zbM {rows:List (List Int)}{cl:List Int}{l:Nat}:zi8 rows cl l=(stE rows l).map (zmX rows cl l):=zt7 (f:=63)
def Jz (rows:List (List Int))(cl:List Int)(l:Nat):List Int:=(stE rows l).filter fun x=>zmX rows cl l x==Yj (zi8 rows cl l)
def UV (rows:List (List Int))(cl:List Int):List (List Int):=if YF rows cl≠0 then [] else (List.range (rows.getD 0 []).length).map (Jz rows cl)
theorem zcM {rows:List (List Int)}{cl:List Int}(h:YF rows cl≠0):UV rows cl=[]:=by unfold UV;rw [if_pos h]
theorem W0 {rows:List (List Int)}{cl:List Int}(h:YF rows cl=0):UV rows cl=(List.range (rows.getD 0 []).length).map (Jz rows cl):=by unfold UV;rw [if_neg (by omega)]
theorem XE {α:Type}{f:Nat→α}{k:Nat}:(List.range (k+1)).map f=(List.range k).map f++[f k]:=by rw [List.range_succ,List.map_append];rfl
theorem zkG {α:Type}{p:α→Bool}{xs:List α}{k:Nat}{x:α}(hx:xs[k]? =some x)(h:p x=true):(xs.take (k+1)).filter p=(xs.take k).filter p++[x]:=by
 rw [List.take_add_one,hx,List.filter_append];simp [h]
theorem zpm {α:Type}{p:α→Bool}{xs:List α}{k:Nat}{x:α}(hx:xs[k]? =some x)(h:p x=false):(xs.take (k+1)).filter p=(xs.take k).filter p:=by
 rw [List.take_add_one,hx,List.filter_append];simp [h]
theorem ziw {rows:List (List Int)}{l:Nat}:(stE rows l).length≤rows.length+1:=by
 have h1:(stL rows l rows.length).length≤rows.length+1:=by
  unfold stL
  have:=List.length_filter_le (fun x=>x != 8589934592) ((List.range rows.length).map fun w=>uF rows l w)
  rw [List.length_map,List.length_range] at this
  rw [List.length_cons];omega
 have h2:(Yv (stL rows l rows.length)).length=(stL rows l rows.length).length:=by unfold Yv;exact (List.mergeSort_perm _ _).length_eq
 have h3:=Lib.compact_length_le (Yv (stL rows l rows.length))
 unfold stE;omega
theorem zo4 {rows:List (List Int)}{l:Nat}{y:Int}:y∈stE rows l↔y∈Q8 rows l:=by unfold stE;rw [(KL _).2,ztd]
theorem zrV {rows:List (List Int)}{l:Nat}:(stE rows l).Pairwise (· < ·):=(KL _).1
theorem zg3 {rows:List (List Int)}{l:Nat}:0<(stE rows l).length:=List.length_pos_of_mem (zo4.2 (zeu.2 (.inl rfl)))
theorem zjY {rows:List (List Int)}{cl:List Int}{l:Nat}:(zi8 rows cl l).length=(stE rows l).length:=by rw [zbM,List.length_map]
def zsA (rows:List (List Int))(cl:List Int):Value→Qu→Go.Kn.Loc→Prop:=fun v I' L=>L=[]∧∃ av c,v= .tuple #[.slice av (UV rows cl).length c,.int .i64 (YF rows cl)]∧SlN I' av (UV rows cl).length c (UV rows cl)
end
end Go.Proofs.YtodakphagkommaaGreatDoor
namespace Go.Kn
section
open Go Go.Sort Go.Shelf Go.Lib Go.Proofs
theorem zmk {w w':World}{L:Loc}(h:St w (fun b=>w.heap[b]?) (fun _=>none) L w'):∃ q os',w'=grow (w.drewN q) os':=by
 refine ⟨w'.drawn-w.drawn,w'.heap.extract w.heap.size w'.heap.size,?_⟩
 have h1:=h.size
 have hh:w.heap++w'.heap.extract w.heap.size w'.heap.size=w'.heap:=by
  apply Array.ext'
  apply List.ext_getElem?
  intro i
  by_cases hi:i<w.heap.size
  ·
   have:=h.imm i _ (Array.getElem?_eq_getElem hi)
   rw [Array.getElem?_toList,Array.getElem?_toList,this,Array.getElem?_append_left hi,Array.getElem?_eq_getElem hi]
  ·
   rw [Array.getElem?_toList,Array.getElem?_toList,Array.getElem?_append_right (by omega),Array.getElem?_extract]
   by_cases h2:i<w'.heap.size
   ·
    rw [if_pos (by omega),show w.heap.size+(i-w.heap.size)=i by omega]
   ·
    rw [if_neg (by omega),Array.getElem?_eq_none (by omega)]
 have e1:=h.os;have e2:=h.tape;have e3:=h.out
 cases w;cases w'
 simp only [grow,World.drewN] at*
 subst e1;subst e2;subst e3
 simp only [World.mk.injEq,true_and,and_true]
 exact ⟨hh.symm,by omega⟩
theorem zjl {α:Type}[Inhabited α]{enc:α→List Value}{k:Nat}(hk:∀ x,(enc x).length=k)(hpos:0<k)(xs:List α):flatK enc k xs.toArray=(xs.flatMap enc).toArray:=by
 have hl:(xs.flatMap enc).length=xs.length*k:=ZR hk xs
 apply Array.ext
 ·
  rw [size_flatK];simp [hl]
 ·
  intro t h1 h2
  have ht:t<xs.length*k:=by rw [size_flatK] at h1;simpa using h1
  have hq:t / k<xs.length:=by rw [Nat.div_lt_iff_lt_mul hpos];exact ht
  have hr:t % k<k:=Nat.mod_lt _ hpos
  have hx:xs[t / k]? =some xs[t / k]:=List.getElem?_eq_getElem hq
  have hu:(enc xs[t / k])[t % k]? =some ((enc xs[t / k])[t % k]'(by rw [hk];exact hr)):=List.getElem?_eq_getElem _
  have h3:=Xt hk xs (t / k) _ hx (t % k) _ hu
  rw [Nat.mul_comm,Nat.div_add_mod] at h3
  have h4:=get_flatK enc k xs.toArray t (by simpa using ht)
  rw [getElem!_pos (flatK enc k xs.toArray) t h1] at h4
  rw [h4]
  have e1:xs.toArray[t / k]! =xs[t / k]'hq:=by simp [hq]
  rw [e1]
  have e2:(enc (xs[t / k]'hq))[t % k]! =(enc (xs[t / k]'hq))[t % k]'(by rw [hk];exact hr):=getElem!_pos (enc (xs[t / k]'hq)) (t % k) (by rw [hk];exact hr)
  rw [e2]
  have e3:(xs.flatMap enc).toArray[t]? =some ((enc xs[t / k])[t % k]'(by rw [hk];exact hr)):=by simpa using h3
  rw [Array.getElem?_eq_getElem h2] at e3
  exact (Option.some.inj e3).symm
theorem zk5 {α:Type}[Inhabited α]{P:Program}{f g0:FuncId}{e:TypeId}{k:Nat}{enc:α→List Value}{cf:α→α→Int}(hk:∀ x,(enc x).length=k)(hpos:0<k)
  (hs:∀ (blk off cap:Nat) (d:Array α) (w:World),CmpLays P g0 #[] enc k cf blk off d.size w→HoldsK enc k w blk off d→blk<w.heap.size→d.size<4611686018427387904→
   Calls P f #[.slice (some ⟨blk,off,none⟩) d.size cap,.func (.func g0) #[] #[]] w fun e w'=>e= .returned (.tuple #[])∧∃ d' n os,PermIn 0 d.size d d'∧SortedIn (ltOf cf) 0 d.size d'∧w'=sortWorldK enc k w blk off n d' os)
  (h0:∀ (p:Option Addr) (cap:Nat) (fv:Value) (w:World),Calls P f #[.slice p 0 cap,fv] w fun e w'=>e= .returned (.tuple #[])∧w'=w)
  (hcmp:∀ (I:Qu) (x y:α),Zx P g0 [.agg (enc x).toArray,.agg (enc y).toArray] I (.int .i64 (cf x y)))
  (zs:List α){v:Value}{n:Nat}{L:Loc}(hO:OwnS e k v n (zs.flatMap enc) L)(hn:n≤1000000)(I:Qu):
  Yb P f [v,.func (.func g0) #[] #[]] I L (fun u I' L'=>u= .tuple #[]∧I'=I∧∃ zs':List α,zs'.Perm zs∧zs'.Pairwise (fun x y=>ltOf cf y x=false)∧OwnS e k v n (zs'.flatMap enc) L'):=by
 intro g H w hw
 have hl:zs.length=n:=by
  have:=hO.1
  rw [ZR hk] at this
  exact Nat.eq_of_mul_eq_mul_right hpos this
 subst hl
 rcases hO.2 with ⟨rfl,h00,rfl⟩ | ⟨b,c,cur,rfl,rfl,hc,hc2,hsz,htk⟩
 ·
  have:zs=[]:=List.length_eq_zero_iff.1 h00
  subst this
  refine (h0 none 0 _ w).mono ?_
  rintro e w' ⟨rfl,rfl⟩
  exact ⟨_,I,[],rfl,zxQ _,hw,rfl,rfl,[],.nil,.nil,by simp,.inl ⟨rfl,rfl,rfl⟩⟩
 ·
  have hb:=hw.own b _ (List.mem_singleton.2 rfl)
  have hbs:b<w.heap.size:=(Array.getElem?_eq_some_iff.1 hb).1
  have hfl:(zs.flatMap enc).length=zs.length*k:=ZR hk zs
  have hH:HoldsK enc k w b 0 zs.toArray:=by
   unfold HoldsK
   rw [zjl hk hpos]
   exact X2 (enc:=id) hw (List.mem_singleton.2 rfl) (zs.flatMap enc) (by rw [hfl,htk];simp)
  have hC:CmpLays P g0 #[] enc k cf b 0 zs.toArray.size w:=by
   intro m os dk _ x y
   have h1:=hcmp (fun q=>(sortWorldK enc k w b 0 m dk os).heap[q]?) x y (sortWorldK enc k w b 0 m dk os) (fun _=>none) (sortWorldK enc k w b 0 m dk os)
    ⟨rfl,rfl,rfl,⟨Nat.le_refl _,Nat.le_refl _⟩,fun _ _ h=>h,(fun _ _ h=>by cases h),(fun _ _ h=>by cases h),fun _=>.inr rfl,(fun _ _ h=>by cases h),by simp⟩
   refine Calls.mono h1 ?_
   rintro e w' ⟨rfl,hs⟩
   exact ⟨rfl,zmk hs⟩
  have hcall:=hs b 0 c zs.toArray w hC hH hbs (by simp;omega)
  rw [List.size_toArray] at hcall
  refine hcall.mono ?_
  rintro e w' ⟨rfl,d',m,os,hp,hsd,rfl⟩
  have hps:d'.size=zs.length:=by simpa using hp.1
  have hperm:d'.toList.Perm zs:=by
   have:=hp.2.2
   simpa [Array.extract_eq_self_of_le,hps] using this
  have hdl:d'=d'.toList.toArray:=by simp
  have hfd:(d'.toList.flatMap enc).length=zs.length*k:=by rw [ZR hk,Array.length_toList,hps]
  refine ⟨_,I,[(b,.cells (putCells id 0 (d'.toList.flatMap enc).toArray cur) e (0,0))],rfl,zxQ _,?_,rfl,rfl,d'.toList,hperm,?_,?_⟩
  ·
   unfold sortWorldK putRowK
   rw [hdl,zjl hk hpos]
   simp only
   exact (((hw.aheadN m).rowPut (enc:=id) _ .here).grown os)
  ·
   rw [List.pairwise_iff_getElem]
   intro i j hi hj hij
   have:=hsd i j (Nat.zero_le _) hij (by rw [←hps];simpa using hj)
   rw [getElem!_pos d' i (by simpa using hi),getElem!_pos d' j (by simpa using hj)] at this
   simpa using this
  ·
   refine ⟨by rw [hfd],.inr ⟨b,c,_,rfl,rfl,hc,hc2,by simp [putCells,hsz],?_⟩⟩
   have:=zbF (enc:=id) (cs:=cur) (n:=zs.length*k) (d'.toList.flatMap enc) hfd (by rw [hsz];exact Nat.mul_le_mul_right k hc)
   simpa using this
end
end Go.Kn
namespace Go.Proofs
section
open Go.Shelf
def Tryz.lays189_ren:Go.Shelf.Ren:=⟨fun | 189=>64 | 125=>108 | 257=>107 | 128=>164 | 129=>165 | 294=>155 | 295=>156 | 296=>157 | 297=>158 | 298=>159 | 299=>160 | 216=>161 | 300=>162 | 301=>163 | 328=>204 | 329=>205 | 330=>206 | 331=>207 | 332=>208 | 215=>192 | 343=>238 | n=>n,fun | 28=>23 | 3=>3 | 46=>186 | 0=>0 | 51=>234 | 53=>236 | 4=>4 | 183=>228 | 182=>227 | 131=>141 | 5=>5 | 9=>9 | 218=>259 | 222=>253 | 228=>278 | 229=>279 | n=>n,fun | n=>n⟩
theorem Tryz.lays189:Go.Proofs.Lays.n189 Tryz.prog Tryz.lays189_ren:={
 mixed:=by kernel_rfl
 f125:=Tryz.func108.trans (congrArg some (by kernel_rfl))
 f128:=Tryz.func164.trans (congrArg some (by kernel_rfl))
 f129:=Tryz.func165.trans (congrArg some (by kernel_rfl))
 f189:=Tryz.func64.trans (congrArg some (by kernel_rfl))
 f215:=Tryz.func192.trans (congrArg some (by kernel_rfl))
 f216:=Tryz.func161.trans (congrArg some (by kernel_rfl))
 f257:=Tryz.func107.trans (congrArg some (by kernel_rfl))
 f294:=Tryz.func155.trans (congrArg some (by kernel_rfl))
 f295:=Tryz.func156.trans (congrArg some (by kernel_rfl))
 f296:=Tryz.func157.trans (congrArg some (by kernel_rfl))
 f297:=Tryz.func158.trans (congrArg some (by kernel_rfl))
 f298:=Tryz.func159.trans (congrArg some (by kernel_rfl))
 f299:=Tryz.func160.trans (congrArg some (by kernel_rfl))
 f300:=Tryz.func162.trans (congrArg some (by kernel_rfl))
 f301:=Tryz.func163.trans (congrArg some (by kernel_rfl))
 f328:=Tryz.func204.trans (congrArg some (by kernel_rfl))
 f329:=Tryz.func205.trans (congrArg some (by kernel_rfl))
 f330:=Tryz.func206.trans (congrArg some (by kernel_rfl))
 f331:=Tryz.func207.trans (congrArg some (by kernel_rfl))
 f332:=Tryz.func208.trans (congrArg some (by kernel_rfl))
 f343:=Tryz.func238.trans (congrArg some (by kernel_rfl))
 t0:=Tryz.underlying0
 a0:=Tryz.isAgg0
 z0:=Tryz.sizeOf0
 v0:=Tryz.zeroValue0
 t3:=Tryz.underlying3
 a3:=Tryz.isAgg3
 z3:=Tryz.sizeOf3
 v3:=Tryz.zeroValue3
 t4:=Tryz.underlying4
 a4:=Tryz.isAgg4
 z4:=Tryz.sizeOf4
 v4:=Tryz.zeroValue4
 t5:=Tryz.underlying5
 a5:=Tryz.isAgg5
 z5:=Tryz.sizeOf5
 v5:=Tryz.zeroValue5
 t9:=Tryz.underlying9
 a9:=Tryz.isAgg9
 z9:=Tryz.sizeOf9
 v9:=Tryz.zeroValue9
 t28:=Tryz.underlying23
 a28:=Tryz.isAgg23
 z28:=Tryz.sizeOf23
 v28:=Tryz.zeroValue23
 t46:=Tryz.underlying186
 a46:=Tryz.isAgg186
 z46:=Tryz.sizeOf186
 v46:=Tryz.zeroValue186
 t51:=Tryz.underlying234
 a51:=Tryz.isAgg234
 z51:=Tryz.sizeOf234
 v51:=Tryz.zeroValue234
 t53:=Tryz.underlying236
 a53:=Tryz.isAgg236
 z53:=Tryz.sizeOf236
 v53:=Tryz.zeroValue236
 t131:=Tryz.underlying141
 a131:=Tryz.isAgg141
 z131:=Tryz.sizeOf141
 v131:=Tryz.zeroValue141
 t182:=Tryz.underlying227
 a182:=Tryz.isAgg227
 z182:=Tryz.sizeOf227
 v182:=Tryz.zeroValue227
 t183:=Tryz.underlying228
 a183:=Tryz.isAgg228
 z183:=Tryz.sizeOf228
 v183:=Tryz.zeroValue228
 t218:=Tryz.underlying259
 a218:=Tryz.isAgg259
 z218:=Tryz.sizeOf259
 v218:=Tryz.zeroValue259
 t222:=Tryz.underlying253
 a222:=Tryz.isAgg253
 z222:=Tryz.sizeOf253
 v222:=Tryz.zeroValue253
 t228:=Tryz.underlying278
 a228:=Tryz.isAgg278
 z228:=Tryz.sizeOf278
 v228:=Tryz.zeroValue278
 t229:=Tryz.underlying279
 a229:=Tryz.isAgg279
 z229:=Tryz.sizeOf279
 v229:=Tryz.zeroValue279}
open Go.Sort Go.RowKit in
theorem Tryz.slices_Sort_int (blk off cap:Nat) (zs:List Int) (w:World) (hH:Holds (Value.int .i64) w blk off zs.toArray) (hblk:blk<w.heap.size) (hsz:zs.length<4611686018427387904):
  Calls Tryz.prog 64 #[.slice (some ⟨blk,off,none⟩) zs.length cap] w fun e w'=>
   e= .returned (.tuple #[])∧∃ n os,w'=grow (putRow (Value.int .i64) (Sort.ahead w n) blk off (zs.mergeSort fun x y=>decide (x≤y)).toArray) os:=Any.slices_Sort_int Tryz.lays189 blk off cap zs w hH hblk hsz
def Tryz.laysNm220_ren:Go.Shelf.Ren:=⟨fun | 20=>91 | n=>n,fun | 22=>23 | 3=>3 | 4=>4 | 0=>0 | n=>n,fun | n=>n⟩
theorem Tryz.laysNm220:Go.Proofs.Lays2.n20 Tryz.prog Tryz.laysNm220_ren:={
 mixed:=by kernel_rfl
 f20:=Tryz.func91.trans (congrArg some (by kernel_rfl))
 t0:=Tryz.underlying0
 a0:=Tryz.isAgg0
 z0:=Tryz.sizeOf0
 v0:=Tryz.zeroValue0
 t3:=Tryz.underlying3
 a3:=Tryz.isAgg3
 z3:=Tryz.sizeOf3
 v3:=Tryz.zeroValue3
 t4:=Tryz.underlying4
 a4:=Tryz.isAgg4
 z4:=Tryz.sizeOf4
 v4:=Tryz.zeroValue4
 t22:=Tryz.underlying23
 a22:=Tryz.isAgg23
 z22:=Tryz.sizeOf23
 v22:=Tryz.zeroValue23
 i3:=by kernel_rfl}
open Go.RowKit Go.Lib Go.Sort in
theorem Tryz.slices_Compact_int (blk off cap:Nat) (zs:List Int) (w:World) (hH:Holds (Value.int .i64) w blk off zs.toArray) (hsz:zs.length≤9223372036854775807) (hcap:zs.length≤cap):
  Calls Tryz.prog 91 #[.slice (some ⟨blk,off,none⟩) zs.length cap] w fun e w'=>e= .returned (.slice (some ⟨blk,off,none⟩) (Lib.compact zs).length cap)∧∃ q,w'=putRow (Value.int .i64) (Sort.ahead w q) blk off (Lib.compact zs++List.replicate (zs.length-(Lib.compact zs).length) 0).toArray:=Any.slices_Compact_int Tryz.laysNm220 blk off cap zs w hH hsz hcap
open Go.RowKit Go.Lib Go.Sort in
theorem Tryz.slices_Compact_int_empty (a:Option Addr) (cap:Nat) (w:World):
  Calls Tryz.prog 91 #[.slice a 0 cap] w fun e w'=>e= .returned (.slice a 0 cap)∧w'=w:=Any.slices_Compact_int_empty Tryz.laysNm220 a cap w
open Go.RowKit Go.Sort in
theorem Tryz.slices_Sort_int_none (p:Option Addr) (cap:Nat) (w:World):
  Calls Tryz.prog 64 #[.slice p 0 cap] w fun e w'=>e= .returned (.tuple #[])∧w'=w:=Any.slices_Sort_int_none Tryz.lays189 p cap w
def Tryz.laysSlF06_f140_ren:Go.Shelf.Ren:=⟨fun | 6=>140 | 15=>108 | 14=>191 | 28=>164 | 29=>165 | 20=>224 | 21=>225 | 22=>226 | 23=>227 | 24=>228 | 25=>229 | 26=>230 | 27=>231 | 46=>246 | 47=>205 | 48=>206 | 49=>247 | 50=>248 | 57=>258 | n=>n,fun | 22=>48 | 24=>54 | 25=>213 | 3=>3 | 39=>186 | 0=>0 | 53=>234 | 55=>236 | 4=>4 | 46=>228 | 45=>227 | 50=>141 | 5=>5 | 9=>9 | 66=>259 | 70=>253 | 76=>278 | 77=>279 | n=>n,fun | n=>n⟩
theorem Tryz.laysSlF06_f140:Go.Proofs.SlLaysF0.n6 Tryz.prog Tryz.laysSlF06_f140_ren:={
 mixed:=by kernel_rfl
 f6:=⟨Tryz.f140.name,by decide,Tryz.func140.trans (congrArg some (by kernel_rfl))⟩
 f14:=⟨Tryz.f191.name,by decide,Tryz.func191.trans (congrArg some (by kernel_rfl))⟩
 f15:=Tryz.func108.trans (congrArg some (by kernel_rfl))
 f20:=⟨Tryz.f224.name,by decide,Tryz.func224.trans (congrArg some (by kernel_rfl))⟩
 f21:=⟨Tryz.f225.name,by decide,Tryz.func225.trans (congrArg some (by kernel_rfl))⟩
 f22:=⟨Tryz.f226.name,by decide,Tryz.func226.trans (congrArg some (by kernel_rfl))⟩
 f23:=⟨Tryz.f227.name,by decide,Tryz.func227.trans (congrArg some (by kernel_rfl))⟩
 f24:=⟨Tryz.f228.name,by decide,Tryz.func228.trans (congrArg some (by kernel_rfl))⟩
 f25:=⟨Tryz.f229.name,by decide,Tryz.func229.trans (congrArg some (by kernel_rfl))⟩
 f26:=⟨Tryz.f230.name,by decide,Tryz.func230.trans (congrArg some (by kernel_rfl))⟩
 f27:=⟨Tryz.f231.name,by decide,Tryz.func231.trans (congrArg some (by kernel_rfl))⟩
 f28:=Tryz.func164.trans (congrArg some (by kernel_rfl))
 f29:=Tryz.func165.trans (congrArg some (by kernel_rfl))
 f46:=⟨Tryz.f246.name,by decide,Tryz.func246.trans (congrArg some (by kernel_rfl))⟩
 f47:=Tryz.func205.trans (congrArg some (by kernel_rfl))
 f48:=Tryz.func206.trans (congrArg some (by kernel_rfl))
 f49:=⟨Tryz.f247.name,by decide,Tryz.func247.trans (congrArg some (by kernel_rfl))⟩
 f50:=⟨Tryz.f248.name,by decide,Tryz.func248.trans (congrArg some (by kernel_rfl))⟩
 f57:=⟨Tryz.f258.name,by decide,Tryz.func258.trans (congrArg some (by kernel_rfl))⟩
 t0:=Tryz.underlying0
 a0:=Tryz.isAgg0
 z0:=Tryz.sizeOf0
 v0:=Tryz.zeroValue0
 t3:=Tryz.underlying3
 a3:=Tryz.isAgg3
 z3:=Tryz.sizeOf3
 v3:=Tryz.zeroValue3
 t4:=Tryz.underlying4
 a4:=Tryz.isAgg4
 z4:=Tryz.sizeOf4
 v4:=Tryz.zeroValue4
 t5:=Tryz.underlying5
 a5:=Tryz.isAgg5
 z5:=Tryz.sizeOf5
 v5:=Tryz.zeroValue5
 t9:=Tryz.underlying9
 a9:=Tryz.isAgg9
 z9:=Tryz.sizeOf9
 v9:=Tryz.zeroValue9
 t22:=Tryz.underlying48
 a22:=Tryz.isAgg48
 z22:=Tryz.sizeOf48
 v22:=Tryz.zeroValue48
 t25:=Tryz.underlying213
 a25:=Tryz.isAgg213
 z25:=Tryz.sizeOf213
 v25:=Tryz.zeroValue213
 t39:=Tryz.underlying186
 a39:=Tryz.isAgg186
 z39:=Tryz.sizeOf186
 v39:=Tryz.zeroValue186
 t45:=Tryz.underlying227
 a45:=Tryz.isAgg227
 z45:=Tryz.sizeOf227
 v45:=Tryz.zeroValue227
 t46:=Tryz.underlying228
 a46:=Tryz.isAgg228
 z46:=Tryz.sizeOf228
 v46:=Tryz.zeroValue228
 t50:=Tryz.underlying141
 a50:=Tryz.isAgg141
 z50:=Tryz.sizeOf141
 v50:=Tryz.zeroValue141
 t53:=Tryz.underlying234
 a53:=Tryz.isAgg234
 z53:=Tryz.sizeOf234
 v53:=Tryz.zeroValue234
 t55:=Tryz.underlying236
 a55:=Tryz.isAgg236
 z55:=Tryz.sizeOf236
 v55:=Tryz.zeroValue236
 t66:=Tryz.underlying259
 a66:=Tryz.isAgg259
 z66:=Tryz.sizeOf259
 v66:=Tryz.zeroValue259
 t70:=Tryz.underlying253
 a70:=Tryz.isAgg253
 z70:=Tryz.sizeOf253
 v70:=Tryz.zeroValue253
 t76:=Tryz.underlying278
 a76:=Tryz.isAgg278
 z76:=Tryz.sizeOf278
 v76:=Tryz.zeroValue278
 t77:=Tryz.underlying279
 a77:=Tryz.isAgg279
 z77:=Tryz.sizeOf279
 v77:=Tryz.zeroValue279}
open Go.RowKit Go.Lib Go.Sort in
theorem Tryz.slices_SortFunc {α:Type} [Inhabited α] (k:Nat) (aE:∀ w,(isAgg (Tryz.laysSlF06_f140_ren.t 24)).run Tryz.prog w= .ok true w) (zE:∀ w,(Go.sizeOf (Tryz.laysSlF06_f140_ren.t 24)).run Tryz.prog w= .ok k w) (enc:α→List Value) (hk:∀ x,(enc x).length=k) (h1:∀ x,∀ v∈enc x,v.oneCell'=true) (cf:α→α→Int) (hO:SWO (ltOf cf)) (g:Nat) (cb:Array Value) (blk off cap:Nat) (d:Array α) (w:World) (eg:∀ args w,(callFunc g args).run Tryz.prog w= .ok (.enter g args) w) (hcmp:CmpLays Tryz.prog g cb enc k cf blk off d.size w) (hH:HoldsK enc k w blk off d) (hblk:blk<w.heap.size) (hsz:d.size<4611686018427387904):
  Calls Tryz.prog 140 #[.slice (some ⟨blk,off,none⟩) d.size cap,.func (.func g) #[] cb] w fun e w'=>
   e= .returned (.tuple #[])∧∃ d' n os,PermIn 0 d.size d d'∧SortedIn (ltOf cf) 0 d.size d'∧w'=sortWorldK enc k w blk off n d' os:=AnyQ.slices_SortFunc Tryz.laysSlF06_f140 k aE zE enc hk h1 cf hO g cb blk off cap d w eg hcmp hH hblk hsz
open Go.RowKit Go.Lib Go.Sort in
theorem Tryz.slices_SortFunc_none {α:Type} [Inhabited α] (p:Option Addr) (cap:Nat) (fv:Value) (w:World):
  Calls Tryz.prog 140 #[.slice p 0 cap,fv] w fun e w'=>e= .returned (.tuple #[])∧w'=w:=AnyF.slices_SortFunc_none Tryz.laysSlF06_f140 p cap fv w
end
end Go.Proofs
namespace Go.Proofs.YtodakphagkommaaGreatDoor
section
open Go Go.Kn Go.Proofs
theorem zaz:ElT Tryz.prog 22 23 1 24:=.of (by kernel_rfl)
theorem zgr:Fun Tryz.prog 64:=.of Tryz.func64 (by kernel_rfl) (by kernel_rfl)
theorem zmR:Fun Tryz.prog 91:=.of Tryz.func91 (by kernel_rfl) (by kernel_rfl)
theorem ztq:Fun Tryz.prog 92:=.of Tryz.func92 (by kernel_rfl) (by kernel_rfl)
theorem zpz:SzT Tryz.prog 174 1:=.of (by kernel_rfl)
theorem Zj:SzT Tryz.prog 23 1:=.of (by kernel_rfl)
theorem zuK:Yi Tryz.prog 174 .nilFunc:=.of (by kernel_rfl)
theorem Yn:Yi Tryz.prog 23 (.slice none 0 0):=.of (by kernel_rfl)
theorem ztX:Yi Tryz.prog 3 (.int .i64 0):=.of (by kernel_rfl)
theorem UF (zs:List Int):zs.flatMap QQ=zs.map (Value.int .i64):=by
 induction zs with
 | nil=>rfl
 | cons z zs ih=>rw [List.flatMap_cons,ih];rfl
theorem zhf {zs:List Int}{v:Value}{n:Nat}{L:Go.Kn.Loc}(hO:OwnS 3 1 v n (zs.flatMap QQ) L)(hn:n≤1000000)(I:Qu):Yb Tryz.prog 64 [v] I L (fun u I' L'=>u= .tuple #[]∧I'=I∧OwnS 3 1 v n ((Yv zs).flatMap QQ) L'):=by
 rw [UF] at hO
 rw [UF]
 exact zhD Tryz.slices_Sort_int Tryz.slices_Sort_int_none zs hO hn I
theorem zfN {zs:List Int}{v:Value}{n:Nat}{L:Go.Kn.Loc}(hO:OwnS 3 1 v n (zs.flatMap QQ) L)(hn:n≤1000000)(I:Qu):Yb Tryz.prog 91 [v] I L (fun u I' L'=>I'=I∧OwnS 3 1 u (Lib.compact zs).length ((Lib.compact zs).flatMap QQ) L'):=by
 rw [UF] at hO
 rw [UF]
 exact zaF Lib.compact Lib.compact_length_le rfl Tryz.slices_Compact_int Tryz.slices_Compact_int_empty zs hO hn I
theorem zcC {I:Qu}{bst brow bloc bcla bse:Nat}{sv bv av:Option Addr}{ns cs n2 c2 n c:Nat}{St xs:List Int}{rows:List (List Int)}{l:Nat}(hn:n≤100000)(hn2:n2≤100000)(hns:ns≤1000)(hl:∀ r∈rows,l<r.length)(hc:VU rows.length xs=0):∀ (f:Nat) (I:Qu),RtE I 93 bst brow bloc bcla bse sv bv av ns cs n2 c2 n c St xs rows l→∀ (s:Int),OkS rows.length xs s→s.toNat≤f→Yb Tryz.prog 93 ([.int .i64 s]++[Za bst,Za brow,Za bloc,Za bcla,Za bse]) I [] (zbf 1 QQ (rcF St (uF rows l) xs f s))
 | 0,_,_,s,hok,hf=>by have:=hok.1;omega
 | f+1,I,hE,s,hok,hf=>zlr hE hn hn2 hns hl hc f s hok (fun h=>by omega) fun I' hI s' hok' hlt=>zcC (I:=I') hn hn2 hns hl hc f I' (hE.mono hI) s' hok' (by have:=hok'.1;have:=hok.1;omega)
theorem zqT {I:Qu}{av:Option Addr}{n c:Nat}{xs:List Int}(hS:Sl I 1 QQ av n c xs){bv:Option Addr}{n2 c2:Nat}{rows:List (List Int)}(hVn:SlN I bv n2 c2 rows)(hn2:n2≤100000)(hDb:VJ I):Yb Tryz.prog 51 [.slice bv n2 c2,.slice av n c] I [] (zsA rows xs):=by
 intro g H w hw
 refine qe Tryz.func51 Tryz.ntmps51 hw ?_
 have hIc:=zxQ I
 have hlV:=hVn.len
 subst hlV
 have hVn9:=hVn
 obtain ⟨hs,hV⟩:=hVn9
 have hH:=hV.1
 refine zR ?_
 refine Q5 rfl rfl rfl (fun b_2=>?_)
 refine Q5 rfl rfl rfl (fun b_3=>?_)
 refine zA ?_
 refine zA (zN (Ql (zR ?_)))
 refine zV (Qd rfl Kj (fun hg=>by exact zxK (zxL rfl))) ?_
 refine zV (Qd rfl QK (fun hg=>by exact zxL rfl)) ?_
 refine qc (vs:=[_,_]) rfl ztq (zq1 hS hVn hn2 hDb) ?_
 refine zM ?_
 refine zE ?_
 refine zE ?_
 refine zA ?_
 refine zN (zR ?_)
 refine zM ?_
 refine zC (zN ?_)
 refine zI ?_ ?_<;>intro hc24
 ·
  have hcE:YF rows xs≠0:=by simpa using hc24
  refine zR (zM ?_)
  refine zA ?_
  refine zA (zN (Qt (Qc ?_)))
  first
  | exact ZF rfl rfl rfl (fun w hw=>⟨_,_,[],rfl,hIc,hw.drop,rfl,none,0,by rw [zcM hcE];rfl,by rw [zcM hcE];exact .none⟩)
 have hcE:YF rows xs=0:=by simpa using hc24
 have hr0:VI rows=0:=by cases Decidable.em (VI rows=0) with
  | inl h=>exact h
  | inr h=>exact absurd ((zea h).1.symm.trans hcE) h
 have hc0:VU rows.length xs=0:=by have h:=hcE;unfold YF at h;rw [if_neg (by omega)] at h;exact h
 obtain ⟨hr1,hr6,hr64,hrr⟩:=Ue hr0
 obtain ⟨x0,v0,hx0,hv0,hQ0⟩:=hV.at (k:=0) (by omega)
 have hx0l:=hQ0.len
 have hg0:rows.getD 0 []=v0:=QY hv0
 rw [hg0] at hr64 hrr
 have hxl:=(ZS hc0).2.2.1
 have hSl:=hS.len
 have hn:n≤100000:=by omega
 have hsh:=zed (n:=(rows.length:Int)) ⟨by omega,by omega⟩
 have hal9:=zaD (n:=(rows.length:Int)) ⟨by omega,by omega⟩
 refine Qo (Qa (Ql (Ql ?_)))
 refine Vn (fun I1 hI1 hall=>?_)
 have hS:=hS.mono hI1;have hVn:=hVn.mono hI1;have hV:=hV.mono hI1;have hH:=hH.mono hI1;have hIc:=hIc.trans hI1
 have hB2:QS I1 [] b_2 0 (.slice bv rows.length c2):=.imm (hall _ _ (by repeat (first | exact List.mem_cons_self .. | apply List.mem_cons_of_mem))) rfl
 have hB3:QS I1 [] b_3 0 (.slice av n c):=.imm (hall _ _ (by repeat (first | exact List.mem_cons_self .. | apply List.mem_cons_of_mem))) rfl
 refine Qg ?_
 refine zV (Qd rfl Kj (fun hg=>by exact hB2.any)) ?_
 refine zV (zX Zk hH) ?_
 refine zV (Qd rfl QK (fun hg=>by exact zxJ hH hx0 rfl)) ?_
 refine zQ Qw ?_
 refine zM (zN (Qm ?_))
 refine zU [(2,_),(3,_),(29,_)] (fun T L0 mz E I' loc'=>∃ (l:Nat) (v4:Value) (os:List Hd) (L:Go.Kn.Loc),mz=x0.n-l∧E=(4,v4)::(30,.int .i64 l)::T∧HLe I1 I'∧L=loc'∧l≤x0.n∧OwnS 23 1 v4 l (os.flatMap Xc) L∧zcn I' os ((List.range l).map (Jz rows xs))) ?_ (h:=⟨0,_,[],[],rfl,rfl,zxQ _,rfl,Nat.zero_le _,OwnS.nil,zcn.nil⟩)
 rintro mz E J2 loc' ⟨l,v4,os,L,rfl,rfl,hJ,rfl,hl,hO4,hre⟩
 have hS:=hS.mono hJ;have hVn:=hVn.mono hJ;have hV:=hV.mono hJ;have hH:=hH.mono hJ;have hB2:=hB2.mono hJ;have hB3:=hB3.mono hJ;have hIc:=hIc.trans hJ
 have hB0:=hJ
 obtain ⟨va4,vc4,rfl⟩:=zc4 hO4
 refine zR (zC (zN (Ql ?_)))
 refine zI ?_ ?_<;>intro hc31
 ·
  have hlt_l:l<x0.n:=by have h:=hc31;simp at h;omega
  have hsl:=ziw (rows:=rows) (l:=l)
  refine Qo (Qa (Ql (Qm (zR (zM ?_)))))
  refine Qs ztX rfl rfl (fun b_6=>?_)
  refine zS Z7 ?_
  refine zN (zR ?_)
  refine Qq (ps:=[(0,_)]) (m:=[QQ (0:Int)]) Zh rfl (.cons rfl (.nil)) rfl (by simp [Qv]) (by decide) (by decide) rfl rfl (fun b_33=>?_)
  refine Qs Yn rfl rfl (fun b_7=>?_)
  refine zS Zj ?_
  refine zN (Ql (zR ?_))
  refine zV (Qd rfl Kj (fun hg=>by exact hB2.any)) ?_
  refine zQ Zk ?_
  refine zM (zN (Qm ?_))
  refine zU [(2,_),(3,_),(4,_),(6,_),(7,_),(29,_),(30,_),(34,_),(35,_)] (fun T L0 mz E I' loc'=>∃ (i:Nat) (v7:Value) (q7:Nat) (L7:Go.Kn.Loc),mz=rows.length-i∧E=(36,.int .i64 i)::T∧J2=I'∧(b_7,.cells #[v7] 23 (0,0))::(L7++((b_6,.cells #[.int .i64 l] 3 (0,0))::L))=loc'∧i≤rows.length∧OwnS 3 1 v7 q7 ((stL rows l i).flatMap QQ) L7∧q7≤i+1) ?_ (h:=⟨0,_,1,[(b_33,_)],rfl,rfl,rfl,rfl,Nat.zero_le _,OwnS.lit rfl (by decide),Nat.le_refl _⟩)
  rintro mz E I' loc' ⟨i,v7,q7,L7,rfl,rfl,rfl,rfl,hi,hO7,hq7⟩
  obtain ⟨va,vc,rfl⟩:=zc4 hO7
  refine zR (zC (zN (Ql ?_)))
  refine zI ?_ ?_<;>intro hc37
  ·
   have hlt_i:i<rows.length:=by have h:=hc37;simp at h;omega
   obtain ⟨x,v,hx,hv,hQ⟩:=hV.at hlt_i
   have hlv:l<v.length:=by rw [(hrr v (List.mem_of_getElem? hv)).1];omega
   have hu:=Zb (d:=0) rfl hlv
   have hvn:=hQ.len
   have hUF:uF rows l i=v.getD l 0:=by unfold uF;rw [QY hv]
   refine Qo (Qa (Ql (Qm (zR ?_))))
   refine zV (zX Zk hH) ?_
   refine zV (Qd rfl QK (fun hg=>by exact zxJ hH hx rfl)) ?_
   refine zA ?_
   refine zN (zR ?_)
   refine zM ?_
   refine zV (Qd rfl Qr (fun hg=>by (repeat (first | exact zxL rfl | apply zxK | apply zxM)))) ?_
   refine zV (zX Qw hQ) ?_
   refine zV (Qd rfl Qr (fun hg=>by exact zxJ hQ hu rfl)) ?_
   refine zA ?_
   refine zN (zR ?_)
   refine zM ?_
   refine zC (zN ?_)
   refine zI ?_ ?_<;>intro hc45
   ·
    have hne:uF rows l i≠8589934592:=by rw [hUF];simpa using hc45
    refine Qg ?_
    refine zV (Qd rfl QK (fun hg=>by exact zxL rfl)) ?_
    refine zM ?_
    refine Qq (ps:=[(0,_)]) (m:=[QQ (v.getD l 0)]) Zh rfl (.cons rfl (.nil)) rfl (by simp [Qv]) (by decide) (by decide) rfl rfl (fun b_48=>?_)
    refine QW (v:=_) (ys:=[v.getD l 0].flatMap QQ) (L:=L7) rfl rfl Zh hO7 (by repeat (first | exact .cons .here .nil | exact QD | exact Qx | apply QC | apply QB)) ⟨rfl,fun _=>rfl,by repeat (first | exact zxO | apply zxN | apply zxP)⟩ (JI [v.getD l 0]) (by omega) rfl rfl ?_
    intro v9 L9 hO9 _;rw [←List.flatMap_append] at hO9;obtain ⟨va9,vc9,rfl⟩:=zc4 hO9
    refine ZB rfl rfl Zj rfl rfl (by (repeat (first | exact Upd.here | apply Upd.there | apply QJ))) rfl ?_
    refine Qb (Qh (Qa (Qg (zB ?_))))
    refine zM (Qb ?_)
    first
    | exact Jk _ _ (L9++((b_7,_)::((b_6,_)::L))) ⟨rows.length-(i+1),by omega,i+1,_,q7+1,L9,rfl,rfl,rfl,rfl,by omega,by rw [zrC hne,hUF];exact hO9,by omega⟩ (.cons rfl (.cons rfl (.cons rfl (.cons rfl (.cons rfl (.cons rfl (.cons rfl (.cons rfl (.cons rfl (.cons rfl .nil)))))))))) List.perm_middle.symm (by repeat (first | exact .refl | exact Zi | refine Yf ?_ | refine .drop ?_ | refine Z2 ?_))
   have heq:uF rows l i=8589934592:=by rw [hUF];simpa using hc45
   refine Qo (Qh (Qa (Qg (zB ?_))))
   refine zM (Qb ?_)
   first
   | exact zm (h:=⟨rows.length-(i+1),by omega,i+1,_,q7,L7,rfl,rfl,rfl,rfl,by omega,by rw [zwV heq];exact hO7,by omega⟩)
  have hge_i:rows.length≤i:=by have h:=hc37;simp at h;omega
  rw [show i=rows.length by omega] at hO7
  refine QI (Qf (Qf (Qk (Qa (zR ?_)))))
  refine zV (Qd rfl QK (fun hg=>by exact zxL rfl)) ?_
  refine Qz (cap:=[]) (vs:=[_]) rfl rfl zgr (by repeat (first | exact .cons .here .nil | exact QD | exact Qx | apply QC | apply QB)) (zhf hO7 (by omega) _) rfl rfl ?_
  rintro vv4 I4 L4 hI4 ⟨rfl,rfl,hO5⟩
  have hS:=hS.mono hI4;have hVn:=hVn.mono hI4;have hB2:=hB2.mono hI4;have hB3:=hB3.mono hI4;have hre:=hre.mono hI4;have hB0:=hB0.trans hI4
  refine zN (zR ?_)
  refine zV (Qd rfl QK (fun hg=>by (repeat (first | exact zxL rfl | apply zxK | apply zxM)))) ?_
  refine Qz (cap:=[]) (vs:=[_]) rfl rfl zmR (by repeat (first | exact .cons .here .nil | exact QD | exact Qx | apply QC | apply QB)) (zfN hO5 (by omega) _) rfl rfl ?_
  rintro vv5 I5 L5 hI5 ⟨rfl,hO6⟩
  have hS:=hS.mono hI5;have hVn:=hVn.mono hI5;have hB2:=hB2.mono hI5;have hB3:=hB3.mono hI5;have hre:=hre.mono hI5;have hB0:=hB0.trans hI5
  have hO6:OwnS 3 1 _ (stE rows l).length ((stE rows l).flatMap QQ) _:=hO6
  obtain ⟨va6,vc6,rfl⟩:=zc4 hO6
  refine ZB rfl rfl Zj rfl rfl (by (repeat (first | exact Upd.here | apply Upd.there | apply QJ))) rfl ?_
  refine zN (zR ?_)
  refine Qs zuK rfl rfl (fun b_11=>?_)
  refine zN (zR ?_)
  refine zV (Zc (us:=[]) (vs:=[_,_,_,_,_]) rfl rfl) ?_
  refine zS zpz ?_
  refine zN (Ql ?_)
  refine Y5 hO6 Qv (by decide) (by repeat (first | exact .cons .here .nil | exact QD | exact Qx | apply QC | apply QB)) (fun I6 hI6 af6 cf6 ef6 hT9=>?_)
  cases ef6
  have hS:=hS.mono hI6;have hVn:=hVn.mono hI6;have hB2:=hB2.mono hI6;have hB3:=hB3.mono hI6;have hre:=hre.mono hI6;have hB0:=hB0.trans hI6
  refine Zg (b:=b_11) (by repeat (first | exact Q7.here | apply Q7.there)) (fun I7 hI7 hb7=>?_)
  have hS:=hS.mono hI7;have hVn:=hVn.mono hI7;have hB2:=hB2.mono hI7;have hB3:=hB3.mono hI7;have hre:=hre.mono hI7;have hT9:=hT9.mono hI7;have hB0:=hB0.trans hI7
  have hC11:QS I7 [] b_11 0 (.func (.func 93) #[] #[Za b_7,Za b_2,Za b_6,Za b_3,Za b_11]):=.imm hb7 rfl
  refine Zg (b:=b_7) (by repeat (first | exact Q7.here | apply Q7.there)) (fun I8 hI8 hb8=>?_)
  have hS:=hS.mono hI8;have hVn:=hVn.mono hI8;have hB2:=hB2.mono hI8;have hB3:=hB3.mono hI8;have hre:=hre.mono hI8;have hT9:=hT9.mono hI8;have hC11:=hC11.mono hI8;have hB0:=hB0.trans hI8
  have hC7:QS I8 [] b_7 0 (.slice va6 (stE rows l).length vc6):=.imm hb8 rfl
  refine Zg (b:=b_6) (by repeat (first | exact Q7.here | apply Q7.there)) (fun I9 hI9 hb9=>?_)
  have hS:=hS.mono hI9;have hVn:=hVn.mono hI9;have hB2:=hB2.mono hI9;have hB3:=hB3.mono hI9;have hre:=hre.mono hI9;have hT9:=hT9.mono hI9;have hC11:=hC11.mono hI9;have hC7:=hC7.mono hI9;have hB0:=hB0.trans hI9
  have hC6:QS I9 [] b_6 0 (.int .i64 l):=.imm hb9 rfl
  have hRE:RtE I9 93 b_7 b_2 b_6 b_3 b_11 va6 bv av (stE rows l).length vc6 rows.length c2 n c (stE rows l) xs rows l:=⟨hC7,hB2,hC6,hB3,hC11,hT9,hS,hVn⟩
  have hD:=zxQ I9
  refine KG mixed ?_
  refine zT 0 rfl (Qd rfl zjP (fun hg=>by exact hC11.any)) hD ?_
  refine zT 1 rfl (Qd rfl Kj (fun hg=>by exact hB2.any)) hD ?_
  refine zT 2 rfl (Zp rfl Zk) hD ?_
  refine zT 3 rfl (Xj rfl rfl (fun hg=>by omega)) hD ?_
  refine zT 4 rfl (ZN rfl rfl rfl (fun hg=>by omega)) hD ?_
  refine qd 5 rfl ?_
  refine Qz (cap:=[Za b_7,Za b_2,Za b_6,Za b_3,Za b_11]) (vs:=[_]) rfl rfl znA (by exact .nil) (zcC (I:=I9) hn hn2 (by omega) (fun r hr=>by rw [(hrr r hr).1];omega) hc0 64 I9 hRE (Y3 rows.length) (zgV hc0) (by omega)) rfl rfl ?_
  rintro vv10 I10 L10 hI10 ⟨rfl,aA,cA,rfl,hAll⟩
  have hre:=hre.mono hI10;have hT9:=hT9.mono hI10;have hC7:=hC7.mono hI10;have hB0:=hB0.trans hI10;have hD:=hD.trans hI10
  have htl:(rcF (stE rows l) (uF rows l) xs 64 (Y3 rows.length)).length=(stE rows l).length:=zjY
  have hsp:=zg3 (rows:=rows) (l:=l)
  have hMin:=zuB (xs:=zi8 rows xs l) hAll (by omega) (by omega)
  refine Qb ?_
  refine zD hD ?_
  refine zT 6 rfl (ZK rfl) hD ?_
  refine QF (by kernel_rfl) ?_
  refine QP ?_
  refine Qa (zR (zM ?_))
  refine qc (vs:=[_]) rfl znS (hMin) ?_
  refine zA ?_
  refine zN (zR ?_)
  refine zA (zN (Ql (zR ?_)))
  refine zV (Qd rfl QK (fun hg=>by exact hC7.any)) ?_
  refine zQ Qw ?_
  refine zM (zN (Qm ?_))
  refine zU [(2,_),(3,_),(4,_),(12,_),(13,_),(29,_),(30,_),(64,_),(65,_)] (fun T L0 mz E I' loc'=>∃ (i:Nat) (v14:Value) (q14:Nat) (L14:Go.Kn.Loc),mz=(stE rows l).length-i∧E=(14,v14)::(66,.int .i64 i)::T∧I10=I'∧L14++L=loc'∧i≤(stE rows l).length∧OwnS 3 1 v14 q14 ((((stE rows l).take i).filter fun x=>zmX rows xs l x==Yj (zi8 rows xs l)).flatMap QQ) L14∧q14≤i) ?_ (h:=⟨0,_,0,[],rfl,rfl,rfl,rfl,Nat.zero_le _,OwnS.nil,Nat.le_refl _⟩)
  rintro mz E I' loc' ⟨i,v14,q14,L14,rfl,rfl,rfl,rfl,hi,hO14,hq14⟩
  refine zR (zC (zN (Ql ?_)))
  refine zI ?_ ?_<;>intro hc67
  ·
   have hlt_i:i<(stE rows l).length:=by have h:=hc67;simp at h;omega
   obtain ⟨y,hst⟩:=hT9.at hlt_i
   have hax:(zi8 rows xs l)[i]? =some (zmX rows xs l y):=by rw [zbM,List.getElem?_map,hst];rfl
   refine Qo (Qa (Ql (Qm (zR (zM ?_)))))
   refine zV (zX Qw hT9) ?_
   refine zV (Qd rfl Qr (fun hg=>by exact zxJ hT9 hst rfl)) ?_
   refine zA ?_
   refine zA ?_
   refine zN (zR ?_)
   refine zM ?_
   refine zM ?_
   refine zV (zX Qw hAll) ?_
   refine zV (Qd rfl Qr (fun hg=>by exact zxJ hAll hax rfl)) ?_
   refine zM ?_
   refine zC (zN ?_)
   refine zI ?_ ?_<;>intro hc76
   ·
    have hbf:(zmX rows xs l y==Yj (zi8 rows xs l))=true:=hc76
    refine Qg (zM ?_)
    refine zM ?_
    refine Qq (ps:=[(0,_)]) (m:=[QQ y]) Zh rfl (.cons rfl (.nil)) rfl (by simp [Qv]) (by decide) (by decide) rfl rfl (fun b_79=>?_)
    refine QW (v:=_) (ys:=[y].flatMap QQ) (L:=L14) rfl rfl Zh hO14 (by repeat (first | exact .cons .here .nil | exact QD | exact Qx | apply QC | apply QB)) ⟨rfl,fun _=>rfl,by repeat (first | exact zxO | apply zxN | apply zxP)⟩ (JI [y]) (by omega) rfl rfl ?_
    intro v9 L9 hO9 _;rw [←List.flatMap_append] at hO9
    refine zA (Qb (Qh (Qa (Qg ?_))))
    refine zB ?_
    refine zM (Qb ?_)
    first
    | exact zm (h:=⟨(stE rows l).length-(i+1),by omega,i+1,_,_,_,rfl,rfl,rfl,rfl,by omega,by rw [zkG hst hbf];exact hO9,by omega⟩)
   have hbf:(zmX rows xs l y==Yj (zi8 rows xs l))=false:=hc76
   refine Qo (Qh (Qa (Qg (zB ?_))))
   refine zM (Qb ?_)
   first
   | exact zm (h:=⟨(stE rows l).length-(i+1),by omega,i+1,_,_,_,rfl,rfl,rfl,rfl,by omega,by rw [zpm hst hbf];exact hO14,by omega⟩)
  have hge_i:(stE rows l).length≤i:=by have h:=hc67;simp at h;omega
  rw [List.take_of_length_le hge_i] at hO14
  obtain ⟨va14,vc14,rfl⟩:=zc4 hO14
  have hrf:(stE rows l).filter (fun x=>zmX rows xs l x==Yj (zi8 rows xs l))=Jz rows xs l:=rfl
  have hq9:q14=(Jz rows xs l).length:=by have h1:=hO14.1;rw [ZR Qv,hrf] at h1;omega
  subst hq9
  refine QI (Qf (Qf (Qk (Qa ?_))))
  refine Y5 hO14 Qv (by decide) (by repeat (first | exact .cons .here .nil | exact QD | exact Qx | apply QC | apply QB)) (fun I12 hI12 af12 cf12 ef12 hR14=>?_)
  cases ef12
  have hre:=hre.mono hI12;have hB0:=hB0.trans hI12
  refine Qg (zM ?_)
  refine zM ?_
  refine Qq (ps:=[(0,_)]) (m:=[Xc ⟨va14,(Jz rows xs l).length,vc14⟩]) zaz rfl (.cons rfl (.nil)) rfl (by simp [Q9]) (by decide) (by decide) rfl rfl (fun b_84=>?_)
  refine QW (v:=_) (ys:=[(⟨va14,(Jz rows xs l).length,vc14⟩:Hd)].flatMap Xc) (L:=L) rfl rfl zaz hO4 (by repeat (first | exact .cons .here .nil | exact QD | exact Qx | apply QC | apply QB)) ⟨rfl,fun _=>rfl,by repeat (first | exact zxO | apply zxN | apply zxP)⟩ (zrZ _) (by omega) rfl rfl ?_
  intro v8 L8 hO8 _;rw [←List.flatMap_append] at hO8
  refine zA (Qb (Qh (Qa (Qg ?_))))
  refine zB ?_
  refine zM (Qb ?_)
  exact zm (h:=⟨x0.n-(l+1),by omega,l+1,_,_,_,rfl,rfl,hB0,rfl,by omega,hO8,by rw [XE];exact hre.snoc (hd:=⟨va14,(Jz rows xs l).length,vc14⟩) (by rw [←hrf];exact hR14)⟩)
 have hge_l:l=x0.n:=by have h:=hc31;simp at h;omega
 refine QI (Qf (Qf (Qk (Qa (zR (zM ?_))))))
 refine zA ?_
 refine zA (zN (Qt ?_))
 first
 | exact ZF rfl rfl rfl (fun w hw=>by obtain ⟨I9,av9,c9,h1',h2',e9,h4'⟩:=OwnS.freeze (R:=[]) hO4 Q9 (by decide) (by rw [List.append_nil];exact hw);cases e9;exact ⟨_,I9,[],rfl,hIc.trans h1',h2',rfl,va4,vc4,by rw [W0 hcE,List.length_map,List.length_range,hg0,hx0l,hcE,←hge_l],by rw [W0 hcE,List.length_map,List.length_range,hg0,hx0l,←hge_l];exact ⟨os,h4',hre.mono h1'⟩⟩)
end
section
open Go Go.Kn Go.Proofs
theorem ztc:Fun Tryz.prog 62:=.of Tryz.func62 (by kernel_rfl) (by kernel_rfl)
theorem K2:SlT Tryz.prog 24 67 3:=.of (by kernel_rfl)
theorem zoZ {I:Qu}{bv:Option Addr}{n2 c2:Nat}{rows:List (List Int)}(hV:SlN I bv n2 c2 rows)(av:Option Addr)(n c:Nat)(ev:Option Addr)(n4 c4:Nat):Zx Tryz.prog 29 [.slice bv n2 c2,.slice av n c,.slice ev n4 c4] I (.bool (zj2 rows&&decide ((n:Int)≤40)&&decide ((n4:Int)≤40))):=by
 intro g H w hw
 refine qe Tryz.func29 Tryz.ntmps29 hw ?_
 refine zR (zA ?_)
 refine zN (zR ?_)
 refine zM ?_
 refine qc (vs:=[_]) rfl ztc (zwi hV) ?_
 refine zA ?_
 refine zN (zR ?_)
 refine zM ?_
 refine zM ?_
 refine QE 1 rfl rfl rfl ?_
 refine zK (Qi rfl) ?_
 refine zK (Zp rfl Qw) ?_
 refine zK (QH rfl rfl rfl) ?_
 refine QO rfl rfl rfl rfl rfl ?_
 refine zM ?_
 refine QE 6 rfl rfl rfl ?_
 refine zK (Qi rfl) ?_
 refine zK (Zp rfl K2) ?_
 refine zK (QH rfl rfl rfl) ?_
 refine QO rfl rfl rfl rfl rfl ?_
 refine zA (zN (Qt ?_))
 exact zr rfl rfl (by cases zj2 rows<;>cases decide ((n:Int)≤40)<;>rfl)
end
section
open Go Go.Kn Go.Proofs
structure Dg where
 n:Int
 lo:Int
 hi:Int
 b:Int
def zi2 (d:Dg):List Value:=[.int .i64 d.n,.int .i64 d.lo,.int .i64 d.hi,.int .i64 d.b]
theorem zfn (d:Dg):(zi2 d).length=4:=rfl
def zvp (d:Dg):Bool:=decide (d.n<d.lo)||decide (d.n>d.hi)
def zvf (c:Int)(d:Dg):Int:=orI (IntKind.i64.wrap (c*2^(min d.b.toNat IntKind.i64.bits))) d.n
def J0 (c:Int):List Dg→Option Int
 | []=>some c
 | d::ds=>if zvp d=true then none else J0 (zvf c d) ds
theorem zl3 {c:Int}{ds:List Dg}{k:Nat}{d:Dg}(h:ds[k]? =some d)(hb:zvp d=true):J0 c (ds.drop k)=none:=by
 rw [ZY h];unfold J0;rw [if_pos hb]
theorem zjg {c:Int}{ds:List Dg}{k:Nat}{d:Dg}(h:ds[k]? =some d)(hb:zvp d=false):J0 c (ds.drop k)=J0 (zvf c d) (ds.drop (k+1)):=by
 rw [ZY h]
 show (if zvp d=true then none else J0 (zvf c d) (ds.drop (k+1)))=_
 rw [if_neg (by rw [hb];decide)]
theorem zkX {c:Int}{ds:List Dg}{k:Nat}(h:ds.length≤k):J0 c (ds.drop k)=some c:=by rw [List.drop_eq_nil_of_le h];rfl
end
section
open Go Go.Kn Go.Proofs
theorem zn9:AgT Tryz.prog 165 4:=.of (by kernel_rfl)
theorem Xy:QX Tryz.prog 165 0 0:=.of (by kernel_rfl)
theorem zjC:QX Tryz.prog 165 1 1:=.of (by kernel_rfl)
theorem ziP:QX Tryz.prog 165 2 2:=.of (by kernel_rfl)
theorem zhu:QX Tryz.prog 165 3 3:=.of (by kernel_rfl)
theorem ziX:SlT Tryz.prog 218 165 4:=.of (by kernel_rfl)
theorem zo2:SzT Tryz.prog 165 4:=.of (by kernel_rfl)
theorem zry:Yi Tryz.prog 165 (.agg #[(.int .i64 0),(.int .i64 0),(.int .i64 0),(.int .i64 0)]):=.of (by kernel_rfl)
theorem zsU {I:Qu}{av:Option Addr}{n c:Nat}{ds:List Dg}(hS:Sl I 4 zi2 av n c ds)(hn:n≤100000)(hb:∀ d∈ds,0≤d.b):Zx Tryz.prog 85 [.slice av n c] I (.tuple #[.int .i64 ((J0 0 ds).getD 0),.bool (J0 0 ds).isSome]):=by
 intro g H w hw
 refine qe Tryz.func85 Tryz.ntmps85 hw ?_
 refine zR (zA ?_)
 refine zA (zN (Ql (zR ?_)))
 refine zM ?_
 refine zQ ziX ?_
 refine zM (zN (Qm ?_))
 refine zU [(6,_),(7,_)] (fun T L0 mz E I' loc'=>∃ (k:Nat) (a:Int),mz=n-k∧E=(2,.int .i64 a)::(8,.int .i64 k)::T∧I=I'∧[]=loc'∧k≤n∧J0 0 ds=J0 a (ds.drop k)) ?_ (h:=⟨0,0,rfl,rfl,rfl,rfl,Nat.zero_le _,rfl⟩)
 rintro mz E I' loc' ⟨k,a,rfl,rfl,rfl,rfl,hk,hpk⟩
 refine zR (zC (zN (Ql ?_)))
 refine zI ?_ ?_<;>intro hc9
 ·
  have hlt_k:k<n:=by have h:=hc9;simp at h;omega
  obtain ⟨d,hd⟩:=hS.at hlt_k
  have hbd:=hb d (List.mem_of_getElem? hd)
  refine Qo (Qa (Ql (Qm (zR ?_))))
  refine zV (zX ziX hS) ?_
  refine zV (Qp rfl zn9 (fun hg=>by exact zxR hS hd) rfl) ?_
  refine Qs zry rfl rfl (fun b_5=>?_)
  refine zh zo2 ?_
  refine zN (Ql (zR ?_))
  refine zF Xy ?_
  refine zL Qr ?_
  refine zF zjC ?_
  refine zL Qr ?_
  refine zC ?_
  refine zM ?_
  refine Q2 5 rfl rfl rfl ?_
  refine zJ (Qe rfl Xy) ?_
  refine zJ (Qd rfl Qr (fun hg=>by exact QS.h0 rfl)) ?_
  refine zJ (Qe rfl ziP) ?_
  refine zJ (Qd rfl Qr (fun hg=>by exact QS.h0 rfl)) ?_
  refine zJ (QH rfl rfl rfl) ?_
  refine Zz rfl rfl rfl rfl rfl ?_
  refine zN ?_
  refine zI ?_ ?_<;>intro hc23
  ·
   rw [zl3 hd hc23] at hpk
   refine zR (zA ?_)
   refine zA (zN (Qt (Qc (Qn (Qc (Qc (Qn ?_)))))))
   refine Qc ?_
   first
   | exact ZF rfl rfl rfl (fun w hw=>⟨by rw [hpk];rfl,hw.drop⟩)
  refine Qo (Qa ?_)
  refine YI mixed (by kernel_rfl) ?_
  refine zq (Qi rfl) ?_
  refine zq (Qe rfl zhu) ?_
  refine zq (Qd rfl Qr (fun hg=>by exact QS.h0 rfl)) ?_
  refine zq (Xj rfl rfl (fun hg=>by exact hbd)) ?_
  refine zq (Qe rfl Xy) ?_
  refine zq (Qd rfl Qr (fun hg=>by exact QS.h0 rfl)) ?_
  refine zq (zwU rfl rfl) ?_
  refine zq (ZK rfl) ?_
  refine YH ?_
  refine Qh (Qa (Qg (zB ?_)))
  refine zM (Qb ?_)
  exact zm (h:=⟨n-(k+1),by omega,k+1,zvf a d,rfl,rfl,rfl,rfl,by omega,by rw [hpk,zjg hd hc23]⟩)
 have hge_k:n≤k:=by have h:=hc9;simp at h;omega
 rw [zkX (by rw [hS.len];exact hge_k)] at hpk
 refine QI (Qf (Qf (Qk (Qa (zR (zM ?_))))))
 refine zA ?_
 refine zA (zN (Qt ?_))
 first
 | exact ZF rfl rfl rfl (fun w hw=>⟨by rw [hpk];rfl,hw.drop⟩)
end
section
open Go Go.Kn Go.Proofs
structure Sg where
 id:Int
 role:Int
 bar:Int
 mark:Int
 kind:Int
 side:Int
 dir:Int
 level:Int
 size:Int
 wth:Int
 fn:Int
 fd:Int
 tn:Int
 td:Int
def Vc (x:Sg):List Value:=[.int .i64 x.id,.int .i64 x.role,.int .i64 x.bar,.int .i64 x.mark,.int .i64 x.kind,.int .i64 x.side,.int .i64 x.dir,.int .i64 x.level,.int .i64 x.size,.int .i64 x.wth,.int .i64 x.fn,.int .i64 x.fd,.int .i64 x.tn,.int .i64 x.td]
def JQ (x:Sg):Value:=.agg (Vc x).toArray
theorem Z1 (x:Sg):(Vc x).length=14:=rfl
def dgs (x:Sg):List Dg:=[⟨x.role,0,63,6⟩,⟨x.kind,1,9,4⟩,⟨x.side,0,2,2⟩,⟨x.dir,0,8,4⟩,⟨x.level,0,3,2⟩,⟨x.size,0,255,8⟩,⟨x.wth,0,64,7⟩]
theorem zw6 (x:Sg):∀ d∈dgs x,0≤d.b:=fun d h=>by
 unfold dgs at h
 simp only [List.mem_cons,List.not_mem_nil,or_false] at h
 rcases h with rfl | rfl | rfl | rfl | rfl | rfl | rfl<;>simp
def ziC (x:Sg):Int:=(J0 0 (dgs x)).getD 0
def zdN (x:Sg):Int:=if (J0 0 (dgs x)).isSome=true then 0 else 410
theorem zp3 {x:Sg}(h:(J0 0 (dgs x)).isSome=false):ziC x=0∧zdN x=410:=by
 have:J0 0 (dgs x)=none:=by cases hp:J0 0 (dgs x) with
  | none=>rfl
  | some c=>rw [hp] at h;cases h
 unfold ziC zdN
 rw [this];exact ⟨rfl,rfl⟩
theorem zlc {x:Sg}(h:(J0 0 (dgs x)).isSome=true):zdN x=0:=by unfold zdN;rw [if_pos h]
end
section
open Go Go.Kn Go.Proofs
theorem zp2:ElT Tryz.prog 218 165 4 32:=.of (by kernel_rfl)
theorem J9:QX Tryz.prog 54 1 1:=.of (by kernel_rfl)
theorem Xa:QX Tryz.prog 54 4 4:=.of (by kernel_rfl)
theorem JW:QX Tryz.prog 54 5 5:=.of (by kernel_rfl)
theorem Kc:QX Tryz.prog 54 6 6:=.of (by kernel_rfl)
theorem JP:QX Tryz.prog 54 7 7:=.of (by kernel_rfl)
theorem JS:QX Tryz.prog 54 8 8:=.of (by kernel_rfl)
theorem JY:QX Tryz.prog 54 9 9:=.of (by kernel_rfl)
theorem ztr:Fun Tryz.prog 85:=.of Tryz.func85 (by kernel_rfl) (by kernel_rfl)
theorem Uf:PlT Tryz.prog 165 #[(0,1),(1,1),(2,1),(3,1)] (.agg #[(.int .i64 0),(.int .i64 0),(.int .i64 0),(.int .i64 0)]):=⟨.of (by kernel_rfl),by kernel_rfl,fun w=>by kernel_rfl⟩
theorem zmP (I:Qu)(x:Sg):Zx Tryz.prog 47 [JQ x] I (.tuple #[.int .i64 (ziC x),.int .i64 (zdN x)]):=by
 intro g H w hw
 refine qe Tryz.func47 Tryz.ntmps47 hw ?_
 have hIc:=zxQ I
 refine zR ?_
 refine Q5 rfl rfl rfl (fun b_1=>?_)
 refine zA ?_
 refine zA ?_
 refine zN (zR ?_)
 refine zF J9 ?_
 refine zL Qr ?_
 refine zV (QR (ps:=[(0,_),(1,_),(2,_),(3,_)]) [_,_,_,_] Uf rfl rfl) ?_
 refine zF Xa ?_
 refine zL Qr ?_
 refine zV (QR (ps:=[(0,_),(1,_),(2,_),(3,_)]) [_,_,_,_] Uf rfl rfl) ?_
 refine zF JW ?_
 refine zL Qr ?_
 refine zV (QR (ps:=[(0,_),(1,_),(2,_),(3,_)]) [_,_,_,_] Uf rfl rfl) ?_
 refine zF Kc ?_
 refine zL Qr ?_
 refine zV (QR (ps:=[(0,_),(1,_),(2,_),(3,_)]) [_,_,_,_] Uf rfl rfl) ?_
 refine zF JP ?_
 refine zL Qr ?_
 refine zV (QR (ps:=[(0,_),(1,_),(2,_),(3,_)]) [_,_,_,_] Uf rfl rfl) ?_
 refine zF JS ?_
 refine zL Qr ?_
 refine zV (QR (ps:=[(0,_),(1,_),(2,_),(3,_)]) [_,_,_,_] Uf rfl rfl) ?_
 refine zF JY ?_
 refine zL Qr ?_
 refine zV (QR (ps:=[(0,_),(1,_),(2,_),(3,_)]) [_,_,_,_] Uf rfl rfl) ?_
 refine Qq (ps:=[(0,_),(1,_),(2,_),(3,_),(4,_),(5,_),(6,_)]) (m:=[zi2 ⟨x.role,0,63,6⟩,zi2 ⟨x.kind,1,9,4⟩,zi2 ⟨x.side,0,2,2⟩,zi2 ⟨x.dir,0,8,4⟩,zi2 ⟨x.level,0,3,2⟩,zi2 ⟨x.size,0,255,8⟩,zi2 ⟨x.wth,0,64,7⟩]) zp2 rfl (.cons rfl (.cons rfl (.cons rfl (.cons rfl (.cons rfl (.cons rfl (.cons rfl (.nil)))))))) rfl (by simp [zfn]) (by decide) (by decide) rfl rfl (fun b_27=>?_)
 refine ZU (b:=b_27) (by repeat (first | exact Q7.here | apply Q7.there)) (fun I1 hI1 hb1=>?_)
 have hIc:=hIc.trans hI1
 have hDg:Sl I1 4 zi2 (some ⟨b_27,0,none⟩) 7 7 (dgs x):=Sl.lit (dgs x) rfl zfn (show _=some (Obj.cells ((dgs x).flatMap zi2).toArray 165 (0,0)) from hb1)
 refine qc (vs:=[_]) rfl ztr (zsU hDg (by decide) (zw6 x)) ?_
 refine zM ?_
 refine zE ?_
 refine zE ?_
 refine zA ?_
 refine zA (zN (Ql (zR ?_)))
 refine zM ?_
 refine zO (zN ?_)
 refine zI ?_ ?_<;>intro hc32
 ·
  have hp0:(J0 0 (dgs x)).isSome=false:=by simpa using hc32
  obtain ⟨k1,k2⟩:=zp3 hp0
  refine zR (zA ?_)
  refine zA (zN (Qt (Qc ?_)))
  exact ZF rfl rfl rfl (fun w hw=>⟨by rw [k1,k2],(hw.mono hIc).drop⟩)
 have hp0:(J0 0 (dgs x)).isSome=true:=by simpa using hc32
 have k2:=zlc hp0
 refine Qo (Qa (zR (zM ?_)))
 refine zA ?_
 refine zA (zN (Qt ?_))
 first
 | exact ZF rfl rfl rfl (fun w hw=>⟨by rw [k2];rfl,(hw.mono hIc).drop⟩)
end
section
open Go Go.Kn Go.Proofs
theorem zlm:((List.range 9).all fun b=>decide (0≤IntKind.i64.wrap (1*2^(min ((b:Nat):Int).toNat IntKind.i64.bits))∧IntKind.i64.wrap (1*2^(min ((b:Nat):Int).toNat IntKind.i64.bits))≤256))=true:=by kernel_rfl
theorem zpC {b:Nat}(h:b≤8):0≤IntKind.i64.wrap (1*2^(min ((b:Nat):Int).toNat IntKind.i64.bits))∧IntKind.i64.wrap (1*2^(min ((b:Nat):Int).toNat IntKind.i64.bits))≤256:=of_decide_eq_true (List.all_eq_true.1 zlm b (List.mem_range.2 (by omega)))
theorem zn7 (I:Qu)(r:Nat)(c:Int)(b:Nat)(hb:b≤8):Yb Tryz.prog 46 [.int .i64 b,Za r] I [(r,.cells #[.int .i64 c] 3 (0,0))] (fun v I' L'=>v= .int .i64 (K1 c (IntKind.i64.wrap (1*2^(min (b:Int).toNat IntKind.i64.bits))-1))∧I'=I∧L'=[(r,.cells #[.int .i64 (c.fdiv (2^(min (b:Int).toNat IntKind.i64.bits)))] 3 (0,0))]):=by
 intro g H w hw
 refine qe Tryz.func46 Tryz.ntmps46 hw ?_
 have hmb:=zpC hb
 refine zR (zA (zN (Ql ?_)))
 refine YI mixed (by kernel_rfl) ?_
 refine zq (Qd rfl Qr (fun hg=>by exact QS.h0 rfl)) ?_
 refine zq (Qi rfl) ?_
 refine zq (Xj rfl rfl (fun hg=>by omega)) ?_
 refine zq (ZN rfl rfl rfl (fun _=>by omega)) ?_
 refine zq (XH rfl rfl) ?_
 refine zq (ZK rfl) ?_
 refine YH ?_
 refine Qa (zR ?_)
 refine zL Qr ?_
 refine zM ?_
 refine zV (zgD rfl rfl (by omega) rfl) ?_
 refine zS Z7 ?_
 refine zN (zR ?_)
 refine zM ?_
 refine zA (zN (Qt ?_))
 exact Zt rfl rfl (fun w hw=>⟨_,I,_,rfl,zxQ _,hw,rfl,rfl,rfl⟩)
end
section
open Go Go.Kn Go.Proofs
def lbN (b:Nat)(c:Int):Int:=K1 c (IntKind.i64.wrap (1*2^(min (b:Int).toNat IntKind.i64.bits))-1)
def shN (b:Nat)(c:Int):Int:=c.fdiv (2^(min (b:Int).toNat IntKind.i64.bits))
def zu4 (c:Int):Sg:=⟨0,shN 4 (shN 2 (shN 4 (shN 2 (shN 8 (shN 7 c))))),0,0,lbN 4 (shN 2 (shN 4 (shN 2 (shN 8 (shN 7 c))))),lbN 2 (shN 4 (shN 2 (shN 8 (shN 7 c)))),lbN 4 (shN 2 (shN 8 (shN 7 c))),lbN 2 (shN 8 (shN 7 c)),lbN 8 (shN 7 c),lbN 7 c,0,0,0,0⟩
def zk8:Sg:=⟨0,0,0,0,0,0,0,0,0,0,0,0,0,0⟩
def Ux (c:Int):Int:=zdN (zu4 c)
def zje (c:Int):Sg:=if Ux c≠0 then zk8 else zu4 c
end
section
open Go Go.Kn Go.Proofs
theorem ZL:AgT Tryz.prog 54 14:=.of (by kernel_rfl)
theorem zas:Fun Tryz.prog 46:=.of Tryz.func46 (by kernel_rfl) (by kernel_rfl)
theorem zmZ:Fun Tryz.prog 47:=.of Tryz.func47 (by kernel_rfl) (by kernel_rfl)
theorem UZ:PlT Tryz.prog 54 #[(0,1),(1,1),(2,1),(3,1),(4,1),(5,1),(6,1),(7,1),(8,1),(9,1),(10,2),(12,2)] (.agg #[(.int .i64 0),(.int .i64 0),(.int .i64 0),(.int .i64 0),(.int .i64 0),(.int .i64 0),(.int .i64 0),(.int .i64 0),(.int .i64 0),(.int .i64 0),(.int .i64 0),(.int .i64 0),(.int .i64 0),(.int .i64 0)]):=⟨.of (by kernel_rfl),by kernel_rfl,fun w=>by kernel_rfl⟩
theorem VK:SzT Tryz.prog 54 14:=.of (by kernel_rfl)
theorem XV:Yi Tryz.prog 54 (.agg #[(.int .i64 0),(.int .i64 0),(.int .i64 0),(.int .i64 0),(.int .i64 0),(.int .i64 0),(.int .i64 0),(.int .i64 0),(.int .i64 0),(.int .i64 0),(.int .i64 0),(.int .i64 0),(.int .i64 0),(.int .i64 0)]):=.of (by kernel_rfl)
theorem U7 (I:Qu)(r:Nat)(c:Int)(b:Nat)(hb:b≤8):Yb Tryz.prog 46 [.int .i64 b,Za r] I [(r,.cells #[.int .i64 c] 3 (0,0))] (fun v I' L'=>v= .int .i64 (lbN b c)∧I'=I∧L'=[(r,.cells #[.int .i64 (shN b c)] 3 (0,0))]):=zn7 I r c b hb
set_option maxHeartbeats 1600000 in
theorem zjf (I:Qu) (c:Int):Zx Tryz.prog 23 [.int .i64 c] I (.tuple #[JQ (zje c),.int .i64 (Ux c)]):=by
 intro g H w hw
 refine qe Tryz.func23 Tryz.ntmps23 hw ?_
 have hIc:=zxQ I
 refine zR ?_
 refine Qs XV rfl rfl (fun b_2=>?_)
 refine zA ?_
 refine zN (zR ?_)
 refine zM ?_
 refine Qs ztX rfl rfl (fun b_4=>?_)
 refine zS Z7 ?_
 refine zN (zR ?_)
 refine zV (Zc (us:=[]) (vs:=[_]) rfl rfl) ?_
 refine zA ?_
 refine zN (zR ?_)
 refine zM ?_
 refine Qz (cap:=[Za b_4]) (vs:=[_]) rfl rfl zas (by repeat (first | exact .cons .here .nil | exact QD | exact Qx | apply QC | apply QB)) (U7 _ b_4 c 7 (by decide)) rfl rfl ?_
 rintro vv1 I1 L1 hI1 ⟨rfl,rfl,rfl⟩
 have hIc:=hIc.trans hI1
 refine zF JY ?_
 refine zS Z7 ?_
 refine zN (zR ?_)
 refine zM ?_
 refine Qz (cap:=[Za b_4]) (vs:=[_]) rfl rfl zas (by repeat (first | exact .cons .here .nil | exact QD | exact Qx | apply QC | apply QB)) (U7 _ b_4 (shN 7 c) 8 (by decide)) rfl rfl ?_
 rintro vv2 I2 L2 hI2 ⟨rfl,rfl,rfl⟩
 have hIc:=hIc.trans hI2
 refine zF JS ?_
 refine zS Z7 ?_
 refine zN (zR ?_)
 refine zM ?_
 refine Qz (cap:=[Za b_4]) (vs:=[_]) rfl rfl zas (by repeat (first | exact .cons .here .nil | exact QD | exact Qx | apply QC | apply QB)) (U7 _ b_4 (shN 8 (shN 7 c)) 2 (by decide)) rfl rfl ?_
 rintro vv3 I3 L3 hI3 ⟨rfl,rfl,rfl⟩
 have hIc:=hIc.trans hI3
 refine zF JP ?_
 refine zS Z7 ?_
 refine zN (zR ?_)
 refine zM ?_
 refine Qz (cap:=[Za b_4]) (vs:=[_]) rfl rfl zas (by repeat (first | exact .cons .here .nil | exact QD | exact Qx | apply QC | apply QB)) (U7 _ b_4 (shN 2 (shN 8 (shN 7 c))) 4 (by decide)) rfl rfl ?_
 rintro vv4 I4 L4 hI4 ⟨rfl,rfl,rfl⟩
 have hIc:=hIc.trans hI4
 refine zF Kc ?_
 refine zS Z7 ?_
 refine zN (zR ?_)
 refine zM ?_
 refine Qz (cap:=[Za b_4]) (vs:=[_]) rfl rfl zas (by repeat (first | exact .cons .here .nil | exact QD | exact Qx | apply QC | apply QB)) (U7 _ b_4 (shN 4 (shN 2 (shN 8 (shN 7 c)))) 2 (by decide)) rfl rfl ?_
 rintro vv5 I5 L5 hI5 ⟨rfl,rfl,rfl⟩
 have hIc:=hIc.trans hI5
 refine zF JW ?_
 refine zS Z7 ?_
 refine zN (zR ?_)
 refine zM ?_
 refine Qz (cap:=[Za b_4]) (vs:=[_]) rfl rfl zas (by repeat (first | exact .cons .here .nil | exact QD | exact Qx | apply QC | apply QB)) (U7 _ b_4 (shN 2 (shN 4 (shN 2 (shN 8 (shN 7 c))))) 4 (by decide)) rfl rfl ?_
 rintro vv6 I6 L6 hI6 ⟨rfl,rfl,rfl⟩
 have hIc:=hIc.trans hI6
 refine zF Xa ?_
 refine zS Z7 ?_
 refine zN (zR ?_)
 refine zL Qr ?_
 refine zF J9 ?_
 refine zS Z7 ?_
 refine zN (Ql (zR ?_))
 refine zV (Qp rfl ZL (fun hg=>by exact Cells.g1) rfl) ?_
 refine qc (vs:=[_]) rfl zmZ (zmP _ (zu4 c)) ?_
 refine zM ?_
 refine zE ?_
 refine zE ?_
 refine zA ?_
 refine zN (zR ?_)
 refine zM ?_
 refine zC (zN ?_)
 refine zI ?_ ?_<;>intro hc34
 ·
  have he:Ux c≠0:=by unfold Ux;simpa using hc34
  have k1:zje c=zk8:=if_pos he
  have he9:Ux c=zdN (zu4 c):=rfl
  refine zR ?_
  refine zV (QR (ps:=[]) [_,_,_,_,_,_,_,_,_,_,_,_,_,_] UZ rfl rfl) ?_
  refine zM ?_
  refine zh VK ?_
  refine zA (zN (Qt (Qc ?_)))
  exact Zu rfl rfl rfl ZL (by repeat (first | exact zxO | apply zxN)) rfl (fun w hw=>⟨by rw [k1,he9];rfl,(hw.mono hIc).drop⟩)
 have he:Ux c=0:=by unfold Ux;simpa using hc34
 have k1:zje c=zu4 c:=if_neg (by omega)
 have he9:=he
 refine Qo (Qa (zR ?_))
 refine zV (Qp rfl ZL (fun hg=>by exact Cells.g1) rfl) ?_
 refine zh VK ?_
 refine zA (zN (Qt ?_))
 exact Zu rfl rfl rfl ZL (by repeat (first | exact zxO | apply zxN)) rfl (fun w hw=>⟨by rw [k1,he9];rfl,(hw.mono hIc).drop⟩)
end
section
open Go Go.Kn Go.Proofs
def zex (x y:Int):Int:=if (x != y&&x != 8589934592&&y != 8589934592)=true then 3 else 0
end
section
open Go Go.Kn Go.Proofs
theorem zek (I:Qu)(x y:Int):Zx Tryz.prog 104 [.int .i64 x,.int .i64 y] I (.int .i64 (zex x y)):=by
 intro g H w hw
 refine qe Tryz.func104 Tryz.ntmps104 hw ?_
 refine zR (zA (zN (Ql (zR ?_))))
 refine zM ?_
 refine zM ?_
 refine zC ?_
 refine zM ?_
 refine QE 3 rfl rfl rfl ?_
 refine zK (Qi rfl) ?_
 refine zK (QH rfl rfl rfl) ?_
 refine QO rfl rfl rfl rfl rfl ?_
 refine zM ?_
 refine QE 7 rfl rfl rfl ?_
 refine zK (Qi rfl) ?_
 refine zK (QH rfl rfl rfl) ?_
 refine QO rfl rfl rfl rfl rfl ?_
 refine zN ?_
 refine zI ?_ ?_<;>intro hc15
 ·
  refine zR (zA (zN (Qt (Qc ?_))))
  first
  | exact zr rfl rfl (by unfold zex;rw [if_pos (by assumption)])
 refine Qo (Qa (zR (zA (zN (Qt ?_)))))
 first
 | exact zr rfl rfl (by unfold zex;rw [if_neg (by simp_all)])
end
section
open Go Go.Kn Go.Proofs
structure Rd where
 lost:Bool
 sg:Sg
def UN (r:Rd):List Value:=.bool r.lost::Vc r.sg
theorem Zr (r:Rd):(UN r).length=15:=rfl
def Kk (r:Rd):Int:=if r.lost=true then 8589934592 else ziC r.sg
end
section
open Go Go.Kn Go.Proofs
theorem zeA:AgT Tryz.prog 60 15:=.of (by kernel_rfl)
theorem VS:QX Tryz.prog 60 0 0:=.of (by kernel_rfl)
theorem Jq:QX Tryz.prog 60 1 1:=.of (by kernel_rfl)
theorem UQ:QX Tryz.prog 65 2 2:=.of (by kernel_rfl)
theorem zbS:ScT Tryz.prog 4:=.of (by kernel_rfl)
theorem zcq:ScT Tryz.prog 63:=.of (by kernel_rfl)
theorem XM:SlT Tryz.prog 63 60 15:=.of (by kernel_rfl)
theorem ze0:SzT Tryz.prog 60 15:=.of (by kernel_rfl)
theorem zk2:Yi Tryz.prog 60 (.agg #[(.bool false),(.int .i64 0),(.int .i64 0),(.int .i64 0),(.int .i64 0),(.int .i64 0),(.int .i64 0),(.int .i64 0),(.int .i64 0),(.int .i64 0),(.int .i64 0),(.int .i64 0),(.int .i64 0),(.int .i64 0),(.int .i64 0)]):=.of (by kernel_rfl)
theorem Yl {I:Qu}{av:Option Addr}{n c:Nat}{rs:List Rd}(hR:Sl I 15 UN av n c rs)(hn:n≤100000)(no yr:Int):Yb Tryz.prog 59 [.agg #[.int .i64 no,.int .i64 yr,.slice av n c]] I [] (zbf 1 QQ (rs.map Kk)):=by
 intro g H w hw
 refine qe Tryz.func59 Tryz.ntmps59 hw ?_
 have hIc:=zxQ I
 refine zR ?_
 refine Q5 rfl rfl rfl (fun b_1=>?_)
 refine zA (zN (Ql (Ql ?_)))
 refine Vn (fun I1 hI1 hall=>?_)
 have hR:=hR.mono hI1;have hIc:=hIc.trans hI1
 have hCw:QS I1 [] b_1 2 (.slice av n c):=.imm (hall _ _ (by repeat (first | exact List.mem_cons_self .. | apply List.mem_cons_of_mem))) rfl
 refine Qg ?_
 refine zF UQ ?_
 refine zV (Qd rfl zcq (fun hg=>by exact hCw.any)) ?_
 refine zQ XM ?_
 refine zM (zN (Qm ?_))
 refine zU [(7,_),(8,_)] (fun T L0 mz E I' loc'=>∃ (k:Nat) (v2:Value) (L:Go.Kn.Loc),mz=n-k∧E=(2,v2)::(9,.int .i64 k)::T∧I1=I'∧L=loc'∧k≤n∧OwnS 3 1 v2 k (((rs.take k).map Kk).flatMap QQ) L) ?_ (h:=⟨0,_,[],rfl,rfl,rfl,rfl,Nat.zero_le _,OwnS.nil⟩)
 rintro mz E I' loc' ⟨k,v2,L,rfl,rfl,rfl,rfl,hk,hO⟩
 refine zR (zC (zN (Ql ?_)))
 refine zI ?_ ?_<;>intro hc10
 ·
  have hlt_k:k<n:=by have h:=hc10;simp at h;omega
  obtain ⟨r,hr⟩:=hR.at hlt_k
  refine Qo (Qa (Ql (Qm (zR ?_))))
  refine zV (zX XM hR) ?_
  refine zV (Qp rfl zeA (fun hg=>by exact zxR hR hr) rfl) ?_
  refine Qs zk2 rfl rfl (fun b_4=>?_)
  refine zh ze0 ?_
  refine zN (zR ?_)
  refine zA (zN (Ql (zR ?_)))
  refine zF VS ?_
  refine zV (Qd rfl zbS (fun hg=>by exact zxL rfl)) ?_
  refine zO (zN ?_)
  refine zI ?_ ?_<;>intro hc15
  ·
   have hlo:Kk r=ziC r.sg:=by unfold Kk;rw [if_neg (by simpa using hc15)]
   refine Qg ?_
   refine zF Jq ?_
   refine zV (Qp rfl ZL (fun hg=>by exact Cells.s0 (vs:=[_,_,_,_,_,_,_,_,_,_,_,_,_,_]) rfl) rfl) ?_
   refine qc (vs:=[_]) rfl zmZ (zmP _ r.sg) ?_
   refine zM ?_
   refine zE ?_
   refine zE ?_
   refine zA (Qb ?_)
   rw [←hlo]
   refine Qa (Qg (zM ?_))
   refine zM ?_
   refine Qq (ps:=[(0,_)]) (m:=[QQ (Kk r)]) Zh rfl (.cons rfl (.nil)) rfl (by simp [Qv]) (by decide) (by decide) rfl rfl (fun b_24=>?_)
   refine QW (v:=_) (ys:=[Kk r].flatMap QQ) (L:=L) rfl rfl Zh hO (by repeat (first | exact .cons .here .nil | exact QD | exact Qx | apply QC | apply QB)) ⟨rfl,fun _=>rfl,by repeat (first | exact zxO | apply zxN | apply zxP)⟩ (JI [Kk r]) (by omega) rfl rfl ?_
   intro v9 L9 hO9 _;rw [←List.flatMap_append] at hO9
   refine zA (Qb (Qh (Qa (Qg ?_))))
   refine zB ?_
   refine zM (Qb ?_)
   exact zm (h:=⟨n-(k+1),by omega,k+1,_,_,rfl,rfl,rfl,rfl,by omega,by rw [W9 hr];exact hO9⟩)
  have hlo:Kk r=8589934592:=by unfold Kk;rw [if_pos (by simpa using hc15)]
  rw [←hlo]
  refine Qo (Qa (Qg (zM ?_)))
  refine zM ?_
  refine Qq (ps:=[(0,_)]) (m:=[QQ (Kk r)]) Zh rfl (.cons rfl (.nil)) rfl (by simp [Qv]) (by decide) (by decide) rfl rfl (fun b_24=>?_)
  refine QW (v:=_) (ys:=[Kk r].flatMap QQ) (L:=L) rfl rfl Zh hO (by repeat (first | exact .cons .here .nil | exact QD | exact Qx | apply QC | apply QB)) ⟨rfl,fun _=>rfl,by repeat (first | exact zxO | apply zxN | apply zxP)⟩ (JI [Kk r]) (by omega) rfl rfl ?_
  intro v9 L9 hO9 _;rw [←List.flatMap_append] at hO9
  refine zA (Qb (Qh (Qa (Qg ?_))))
  refine zB ?_
  refine zM (Qb ?_)
  exact zm (h:=⟨n-(k+1),by omega,k+1,_,_,rfl,rfl,rfl,rfl,by omega,by rw [W9 hr];exact hO9⟩)
 have hge_k:n≤k:=by have h:=hc10;simp at h;omega
 rw [ZE hR.len hge_k,show k=n by omega] at hO
 refine QI (Qf (Qf (Qk (Qa (zR (zM ?_))))))
 refine zA (zN (Qt ?_))
 exact Zt rfl rfl (fun w hw=>by obtain ⟨I9,h91,h92,h93⟩:=OwnS.res hO Qv (by decide) hw;exact ⟨_,I9,[],rfl,hIc.trans h91,h92,h93⟩)
end
section
open Go Go.Kn Go.Proofs
structure Wt where
 no:Int
 yr:Int
 a:Option Addr
 n:Nat
 c:Nat
def znv (w:Wt):List Value:=[.int .i64 w.no,.int .i64 w.yr,.slice w.a w.n w.c]
theorem ZI (w:Wt):(znv w).length=3:=rfl
def zm3 (ws:List Wt):Bool:=decide (ws.length≤5)&&ws.all fun w=>decide (w.n≤8)
end
section
open Go Go.Kn Go.Proofs
theorem Vi:SlT Tryz.prog 35 65 3:=.of (by kernel_rfl)
theorem zsJ {I:Qu}{av:Option Addr}{n c:Nat}{ws:List Wt}(hW:Sl I 3 znv av n c ws)(hn:n≤9223372036854775807):Zx Tryz.prog 28 [.slice av n c] I (.bool (zm3 ws)):=by
 intro g H w hw
 refine qe Tryz.func28 Tryz.ntmps28 hw ?_
 have hWl:=hW.len
 refine zR (zA (zN (Ql (zR ?_))))
 refine zM ?_
 refine zQ Vi ?_
 refine zC (zN ?_)
 refine zI ?_ ?_<;>intro hc6
 ·
  have h5:¬ws.length≤5:=by have h:=hc6;simp at h;omega
  refine zR (zA (zN (Qt (Qc ?_))))
  first
  | exact zr rfl rfl (by unfold zm3;rw [decide_eq_false h5];rfl)
 have h5:ws.length≤5:=by have h:=hc6;simp at h;omega
 refine Qo (Qa (Ql (zR (zA (zN (Qm ?_))))))
 refine zU [(0,_)] (fun T L0 mz E I' loc'=>∃ (k:Nat),mz=n-k∧E=(3,.int .i64 k)::T∧I=I'∧L0=loc'∧k≤n∧(ws.take k).all (fun w=>decide (w.n≤8))=true) ?_ (h:=⟨0,rfl,rfl,rfl,rfl,Nat.zero_le _,rfl⟩)
 rintro mz E I' loc' ⟨k,rfl,rfl,rfl,rfl,hk,hall⟩
 refine Ql (zR (zM ?_))
 refine zM ?_
 refine zQ Vi ?_
 refine zC (zN ?_)
 refine zI ?_ ?_<;>intro hc10
 ·
  have hlt_k:k<n:=by have h:=hc10;simp at h;omega
  obtain ⟨x,hx⟩:=hW.at hlt_k
  refine Qo (Qa (Ql (Qm (zR (zM ?_)))))
  refine zM ?_
  refine zV (zX Vi hW) ?_
  refine zF UQ ?_
  refine zV (Qd rfl zcq (fun hg=>by exact zxS hW hx rfl)) ?_
  refine zQ XM ?_
  refine zC (zN ?_)
  refine zI ?_ ?_<;>intro hc19
  ·
   have h8:decide (x.n≤8)=false:=by have h:=hc19;simp at h;simp;omega
   refine zR (zA (zN (Qt (Qn (Qc (Qc (Qn ?_)))))))
   refine Qc ?_
   first
   | exact zr rfl rfl (by unfold zm3;rw [List.all_eq_false.2 ⟨x,List.mem_of_getElem? hx,by rw [h8];decide⟩,Bool.and_false])
  have h8:decide (x.n≤8)=true:=by have h:=hc19;simp at h;simp;omega
  refine Qo (Qh (Qa (Qg (zM ?_))))
  refine zB ?_
  refine zA (Qb ?_)
  exact zm (h:=⟨n-(k+1),by omega,k+1,rfl,rfl,rfl,rfl,by omega,by rw [Z0 hx,List.all_append,hall];simpa using h8⟩)
 have hge_k:n≤k:=by have h:=hc10;simp at h;omega
 rw [List.take_of_length_le (by omega)] at hall
 refine QI (Qf (Qf (Qk (Qa (zR (zA (zN ?_)))))))
 refine Qt ?_
 first
 | exact zr rfl rfl (by unfold zm3;rw [hall,decide_eq_true h5];rfl)
end
section
open Go Go.Kn Go.Proofs
def Y6:Sg:=zk8
def YJ (n lo hi:Int):Bool:=decide (n≥lo)&&decide (n≤hi)
/-! ### Ratios -/
def zgl (n:Int):Int:=if n<0 then 0-n else n
def zvs (a b:Int):Int:=(Int.gcd a b:Int)
def K7 (n d:Int):Bool:= !(((((decide (d<1)||decide (d>1073741824))||decide (n< -1073741824))||decide (n>1073741824))||(zvs n d != 1)))
def zdi (fn fd tn td:Int):Bool:=(K7 fn fd&&K7 tn td)&&(decide (fn*td<tn*fd)&&(decide (fn≥0)&&decide (tn≤td)))
/-! ### Signs -/
def zxE (k:Sg):Bool:=YJ k.id 0 1048576&&YJ k.role 0 63&&YJ k.bar 0 4095&&YJ k.kind 1 9&&YJ k.mark 1 3&&YJ k.side 0 2&&YJ k.dir 0 8&&YJ k.level 0 3&&YJ k.size 0 255&&YJ k.wth 0 64
def frm (k:Sg):Bool:=zxE k&&zdi k.fn k.fd k.tn k.td
def skP (xs:List Sg)(i:Nat):Bool:= !(!frm (xs.getD i Y6)||(decide ((i:Int)>0)&&decide ((xs.getD ((i:Int)-1).toNat Y6).id≥(xs.getD i Y6).id)))
def skB (xs:List Sg):Bool:=(List.range xs.length).all (skP xs)
def Wm (xs:List Sg):Int:=if xs.length>4096 then 2 else if skB xs then 0 else 360
def zxd (n d:Int):List Value:=[.int .i64 n,.int .i64 d]
def zbl (n d:Int):Value:=.agg (zxd n d).toArray
theorem zhL {n:Int}(h:0≤n∧n≤9223372036854775807):IntKind.u64.wrap n=n:=by
 unfold IntKind.wrap IntKind.signed IntKind.bits
 simp
 omega
theorem zqm {n:Int}(hn: -1073741824≤n∧n≤1073741824)(h:¬n<0):IntKind.u64.wrap n=zgl n:=by
 rw [zhL (by omega)]
 unfold zgl;rw [if_neg h]
theorem zpA {n:Int}(hn: -1073741824≤n∧n≤1073741824)(h:n<0):IntKind.u64.wrap (0-IntKind.u64.wrap n)=zgl n:=by
 unfold zgl;rw [if_pos h]
 unfold IntKind.wrap IntKind.signed IntKind.bits
 simp
 omega
def zrW (t b1 b2:Nat)(a b:Int):Go.Kn.Loc:=[(b2,.cells #[.int .u64 b] t (0,0)),(b1,.cells #[.int .u64 a] t (0,0))]
def zbZ (a b:Nat):List Nat:=if a=0 then [] else if b=0 then [a,0] else if a % b=0 then [a,b] else a::zbZ b (a % b)
termination_by b
decreasing_by exact Nat.mod_lt _ (by omega)
theorem zcr (b:Nat):zbZ 0 b=[]:=by rw [zbZ];rfl
theorem zbt {a b:Nat}(ha:a≠0)(hb:b≠0)(h:a % b=0):zbZ a b=[a,b]:=by rw [zbZ,if_neg ha,if_neg hb,if_pos h]
theorem zct {a b:Nat}(ha:a≠0)(hb:b≠0)(h:a % b≠0):zbZ a b=a::zbZ b (a % b):=by rw [zbZ,if_neg ha,if_neg hb,if_neg h]
theorem zli:∀ (m:Nat) {a b d:Nat},b≤m→b≠0→(a=0→d=b)→(zbZ a b).getLastD d=Nat.gcd a b:=by
 intro m
 induction m with
 | zero=>intro a b d h1 h2;omega
 | succ m ih=>
  intro a b d h1 h2 hd
  by_cases ha:a=0
  ·
   subst ha;rw [zcr,Nat.gcd_zero_left,hd rfl];rfl
  ·
   by_cases h:a % b=0
   ·
    rw [zbt ha h2 h]
    show b=_
    rw [Nat.gcd_comm,Nat.gcd_rec,h,Nat.gcd_zero_left]
   ·
    rw [zct ha h2 h,List.getLastD_cons,ih (by have:=Nat.mod_lt a (show 0<b by omega);omega) h (fun e=>absurd e h2)]
    rw [Nat.gcd_comm b,←Nat.gcd_rec,Nat.gcd_comm]
theorem zk0 (a b:Nat):((a:Int)).tmod (b:Int)=((a % b:Nat):Int):=by
 rw [Int.tmod_eq_emod_of_nonneg (by omega)];rfl
theorem zkW {a b:Int}(ha: -1073741824≤a∧a≤1073741824)(hb: -1073741824≤b∧b≤1073741824): -9223372036854775808≤a*b∧a*b≤9223372036854775807:=by
 have h1:(a*b).natAbs≤1073741824*1073741824:=by
  rw [Int.natAbs_mul]
  exact Nat.mul_le_mul (by omega) (by omega)
 omega
def zrl (n d:Int):Int:=if K7 n d then 0 else 120
theorem zaU {n d:Int}(h:K7 n d=true):(1≤d∧d≤1073741824)∧ -1073741824≤n∧n≤1073741824:=by
 unfold K7 at h
 simp at h
 omega
theorem znX (n d:Int):Nat.gcd (zgl n).toNat d.toNat=Int.gcd n d.toNat:=by
 unfold Int.gcd zgl
 congr 1
 split<;>omega
theorem Zf {b:Nat}(h:0<b):zpt (b:Int) 1=(b:Int):=by
 unfold zpt
 split<;>omega
theorem zia {a0 b0 a b:Nat}{pre:List Nat}(h:zbZ a0 b0=pre++zbZ a b)(ha:a≠0):pre++[a]<+:zbZ a0 b0:=by
 rw [h,zbZ,if_neg ha]
 have key:∀ l:List Nat,pre++[a]<+:pre++a::l:=fun l=>⟨l,by simp⟩
 split
 ·
  exact key _
 ·
  split<;>exact key _
theorem zjV {l:List Nat}{x d:Nat}:(l++[x]).getLastD d=x:=by simp [List.getLastD_eq_getLast?]
theorem zoj {n d:Int}(h:((((decide (d<1)||decide (d>1073741824))||decide (n< -1073741824))||decide (n>1073741824))||(zvs n d != 1))=true):K7 n d=false:=by unfold K7;rw [h];rfl
theorem zmh {n d:Int}(h:((((decide (d<1)||decide (d>1073741824))||decide (n< -1073741824))||decide (n>1073741824))||(zvs n d != 1))=false):K7 n d=true:=by unfold K7;rw [h];rfl
theorem za7 {fn fd tn td:Int}:(zrl fn fd != 0||zrl tn td != 0)= !(K7 fn fd&&K7 tn td):=by
 unfold zrl
 cases K7 fn fd<;>cases K7 tn td<;>rfl
def zj5 (an ad bn bd:Int):Int:=if K7 an ad&&K7 bn bd then 0 else 120
def zja (an ad bn bd:Int):Int:=if K7 an ad&&K7 bn bd then zrq (an*bd) (bn*ad) else 0
theorem zdY {fn fd tn td:Int}:(((zj5 fn fd tn td==0)&&decide (zja fn fd tn td<0))&&decide (fn≥0)&&decide (tn≤td))=zdi fn fd tn td:=by
 unfold zj5 zja zdi zrq
 cases h:(K7 fn fd&&K7 tn td) with
 | false=>rfl
 | true=>
  simp only [if_true,Bool.true_and]
  by_cases h2:fn*td<tn*fd
  ·
   simp [h2]
  ·
   by_cases h3:fn*td>tn*fd<;>simp [h2,h3]
theorem zca {xs:List Sg}{k:Nat}{x:Sg}(hx:xs[k]? =some x):skP xs k= !(!frm x||(decide ((k:Int)>0)&&decide ((xs.getD ((k:Int)-1).toNat Y6).id≥x.id))):=by unfold skP;rw [QY hx]
end
end Go.Proofs.YtodakphagkommaaGreatDoor
namespace Go.Kn
section
open Go
structure Kp (p:Prop):Prop where
 out:p
theorem zxG {p q:Prop}(h1:Kp p→q)(h2:p):q:=h1 ⟨h2⟩
theorem ZP {C:Cx}{Q:Exit→Act→World→Prop}{e:Exit}{E E':Env}{I:Qu}{loc:Loc}(h:Kp (At C Q e E' I loc))(hE:Sub E' E:=by repeat (first | exact Sub.nil | refine Sub.cons rfl ?_)):At C Q e E I loc:=
 fun a w ha hw=>h.out a w (ha.sub hE) hw
end
end Go.Kn
namespace Go.Proofs.YtodakphagkommaaGreatDoor
section
open Go Go.Kn Go.Proofs
theorem Ve:AgT Tryz.prog 52 2:=.of (by kernel_rfl)
theorem Va:QX Tryz.prog 52 0 0:=.of (by kernel_rfl)
theorem VT:QX Tryz.prog 52 1 1:=.of (by kernel_rfl)
theorem Z3:QX Tryz.prog 54 0 0:=.of (by kernel_rfl)
theorem VE:QX Tryz.prog 54 10 10:=.of (by kernel_rfl)
theorem Vy:QX Tryz.prog 54 11 12:=.of (by kernel_rfl)
theorem JT:QX Tryz.prog 54 2 2:=.of (by kernel_rfl)
theorem Jr:QX Tryz.prog 54 3 3:=.of (by kernel_rfl)
theorem zd5:Fun Tryz.prog 142:=.of Tryz.func142 (by kernel_rfl) (by kernel_rfl)
theorem zgT:Fun Tryz.prog 154:=.of Tryz.func154 (by kernel_rfl) (by kernel_rfl)
theorem Wb:Fun Tryz.prog 192:=.of Tryz.func192 (by kernel_rfl) (by kernel_rfl)
theorem Yc:Fun Tryz.prog 202:=.of Tryz.func202 (by kernel_rfl) (by kernel_rfl)
theorem zik:Fun Tryz.prog 203:=.of Tryz.func203 (by kernel_rfl) (by kernel_rfl)
theorem zg7:Fun Tryz.prog 237:=.of Tryz.func237 (by kernel_rfl) (by kernel_rfl)
theorem zbg:Fun Tryz.prog 253:=.of Tryz.func253 (by kernel_rfl) (by kernel_rfl)
theorem zof:Fun Tryz.prog 259:=.of Tryz.func259 (by kernel_rfl) (by kernel_rfl)
theorem zo9:Fun Tryz.prog 260:=.of Tryz.func260 (by kernel_rfl) (by kernel_rfl)
theorem zq8:Fun Tryz.prog 262:=.of Tryz.func262 (by kernel_rfl) (by kernel_rfl)
theorem zq3:Fun Tryz.prog 265:=.of Tryz.func265 (by kernel_rfl) (by kernel_rfl)
theorem Zv:ScT Tryz.prog 186:=.of (by kernel_rfl)
theorem Vf:SlT Tryz.prog 48 54 14:=.of (by kernel_rfl)
theorem QN:SzT Tryz.prog 186 1:=.of (by kernel_rfl)
theorem ztO:Yi Tryz.prog 186 (.int .u64 0):=.of (by kernel_rfl)
theorem zfQ (I:Qu)(x:Int):Zx Tryz.prog 192 [.int .i64 x] I (.bool false):=by
 intro g H w hw
 refine qe Tryz.func192 Tryz.ntmps192 hw ?_
 refine zR (zA ?_)
 refine zN (zR ?_)
 refine zM ?_
 refine zM ?_
 refine zC ?_
 refine zA (zN (Qt ?_))
 exact zr rfl rfl (by simp)
theorem zkf (I:Qu)(x y:Int):Zx Tryz.prog 142 [.int .i64 x,.int .i64 y] I (.int .i64 (zrq x y)):=by
 intro g H w hw
 refine qe Tryz.func142 Tryz.ntmps142 hw ?_
 refine zR (zA ?_)
 refine zN (zR ?_)
 refine zM ?_
 refine qc (vs:=[_]) rfl Wb (zfQ I _) ?_
 refine zA ?_
 refine zN (zR ?_)
 refine zM ?_
 refine qc (vs:=[_]) rfl Wb (zfQ I _) ?_
 refine zA (zN (Ql (zR ?_)))
 refine zM (zN ?_)
 refine zI ?_ ?_<;>intro hc11
 ·
  cases hc11
 refine Qo (Qa (Ql (zR (zM (zN ?_)))))
 refine zI ?_ ?_<;>intro hc13
 ·
  cases hc13
 refine Qo (Qa (Ql (zR (zM ?_))))
 refine zM ?_
 refine zC (zN ?_)
 refine zI ?_ ?_<;>intro hc16
 ·
  refine zR (zA (zN (Qt (Qc ?_))))
  exact zr rfl rfl (by unfold zrq;first | (rw [if_pos (by simpa using hc16)]) | (rw [if_neg (by simpa using hc16),if_pos (by simpa using hc19)]) | (rw [if_neg (by simpa using hc16),if_neg (by simpa using hc19)]))
 refine Qo (Qa (Ql (zR (zM ?_))))
 refine zM ?_
 refine zC (zN ?_)
 refine zI ?_ ?_<;>intro hc19
 ·
  refine zR (zA (zN (Qt (Qc ?_))))
  exact zr rfl rfl (by unfold zrq;first | (rw [if_pos (by simpa using hc16)]) | (rw [if_neg (by simpa using hc16),if_pos (by simpa using hc19)]) | (rw [if_neg (by simpa using hc16),if_neg (by simpa using hc19)]))
 refine Qo (Qa (zR (zA (zN (Qt ?_)))))
 exact zr rfl rfl (by unfold zrq;first | (rw [if_pos (by simpa using hc16)]) | (rw [if_neg (by simpa using hc16),if_pos (by simpa using hc19)]) | (rw [if_neg (by simpa using hc16),if_neg (by simpa using hc19)]))
theorem zvI (I:Qu)(n:Int)(hn: -1073741824≤n∧n≤1073741824):Zx Tryz.prog 260 [.int .i64 n] I (.int .u64 (zgl n)):=by
 intro g H w hw
 refine qe Tryz.func260 Tryz.ntmps260 hw ?_
 refine zR (zA (zN (Ql (zR ?_))))
 refine zM ?_
 refine zC (zN ?_)
 refine zI ?_ ?_<;>intro hc4
 ·
  refine zR (zM ?_)
  refine zV (Kb rfl KC) ?_
  refine zV (zgC rfl) ?_
  refine zA (zN (Qt (Qc ?_)))
  exact zr rfl rfl (by rw [zpA hn (by simpa using hc4)])
 refine Qo (Qa (zR (zM ?_)))
 refine zV (Kb rfl KC) ?_
 refine zA (zN (Qt ?_))
 exact zr rfl rfl (by rw [zqm hn (by simpa using hc4)])
theorem zwY (I:Qu)(a b:Int):Yb Tryz.prog 262 [.int .u64 a,.int .u64 b] I [] (fun v I' L=>I'=I∧∃ b1 b2,v= .func (.func 265) #[] [Za b1,Za b2].toArray∧L=zrW 186 b1 b2 a b):=by
 intro g H w hw
 refine qe Tryz.func262 Tryz.ntmps262 hw ?_
 refine zR ?_
 refine Q5 rfl rfl rfl (fun b_2=>?_)
 refine Q5 rfl rfl rfl (fun b_3=>?_)
 refine zA ?_
 refine zN (zR ?_)
 refine zV (Zc (us:=[]) (vs:=[_,_]) rfl rfl) ?_
 refine zA (zN (Qt ?_))
 exact Zt rfl rfl (fun w hw=>⟨_,I,_,rfl,zxQ _,hw,rfl,_,_,rfl,rfl⟩)
theorem zme (I:Qu)(a0 b0:Nat)(b1 b2:Nat)(hb0:0<b0)(ha1:a0≤9223372036854775807)(hb1:b0≤9223372036854775807):zvH Tryz.prog 265 [Za b1,Za b2] I (zrW 186 b1 b2 (a0) (b0)) (fun n:Nat=>.int .u64 n) (zbZ a0 b0):=by
 intro g l J Jx hY I0 H w h0 hJ hw
 refine qe Tryz.func265 Tryz.ntmps265 hw ?_
 refine Qm ?_
 refine zdT (fun m E I' H' loc'=>∃ (a b:Nat) (pre:List Nat),m=b∧E=[(0,.func (.yield l) #[] #[]),(1,Za b1),(2,Za b2)]∧loc'=zrW 186 b1 b2 (a) (b)∧HLe I0 I'∧J pre I' H'∧zbZ a0 b0=pre++zbZ a b∧0<b∧a≤9223372036854775807∧b≤9223372036854775807) _ _ _ ⟨a0,b0,[],rfl,rfl,rfl,zxQ _,hJ,rfl,hb0,ha1,hb1⟩ (.cons rfl (.cons rfl (.cons rfl .nil))) rfl ?_
 rintro m E I' H' loc' ⟨a,b,pre,hmb,rfl,rfl,hI1,hJk,hrem,hbp,hal,hbl⟩
 subst m
 have hI0:=h0.trans hI1
 refine Ql (zR ?_)
 refine zL Zv ?_
 refine zC ?_
 refine zM ?_
 refine QE 2 rfl rfl rfl ?_
 refine zK (Qi rfl) ?_
 refine zK (Qd rfl Zv (fun hg=>by exact QS.h1 rfl)) ?_
 refine zb3 (vs:=[_]) (Post:=fun t I2 H2=>if t then J (pre++[a]) I2 H2 else Jx (pre++[a]) I2 H2) rfl rfl (.some rfl rfl rfl rfl gbt) rfl rfl (fun hcj=>hY pre a _ _ (zia hrem (by simpa [ZT] using hcj)) hI0 hJk) ?_
 rintro t I2 H2 hI2 hyes hno
 refine QO rfl rfl rfl rfl rfl ?_
 refine zN ?_
 refine zI ?_ ?_<;>intro hc10
 ·
  have ha0:a≠0:=by simp at hc10;exact hc10.1
  have ht:t=true:=by simp at hc10;exact hc10.2
  subst ht
  have hJ1:J (pre++[a]) I2 H2:=hyes (by simp [ZT];exact ha0)
  refine Qo (Qa (Qm (Ql ?_)))
  apply zxG
  ·
   intro key
   have hD:=zxQ I2
   refine Jn ?_
   refine Z5 I2 [] mixed ?_
   refine KU 0 1 2 rfl rfl rfl (by kernel_rfl) ?_ ?_ ?_
   ·
    refine zL Zv ?_
    refine Qb ?_
    refine zD hD ?_
    refine Zq 1 2 rfl rfl (by kernel_rfl) ?_ ?_
    ·
     refine zL Zv ?_
     refine Qb ?_
     refine zD hD ?_
     refine Zq 2 5 rfl rfl (by kernel_rfl) ?_ ?_
     ·
      refine zL Zv ?_
      refine Qb ?_
      refine zD hD ?_
      refine Zq 3 5 rfl rfl (by kernel_rfl) ?_ ?_
      ·
       refine zV (YX rfl rfl) ?_
       refine Qb ?_
       refine zD hD ?_
       refine Zq 4 5 rfl rfl (by kernel_rfl) ?_ ?_
       ·
        refine zV (ZO rfl rfl (fun hg=>by rw [Zf hbp];omega)) ?_
        refine Qb ?_
        refine zD hD ?_
        refine qd 5 rfl ?_
        refine zS QN ?_
        refine Qb ?_
        refine zD hD ?_
        refine qd 6 rfl ?_
        refine zS QN ?_
        refine Qb ?_
        refine zD hD ?_
        refine QF (by kernel_rfl) ?_
        refine QP ?_
        first | exact key.out | exact ZP key
       refine zS QN ?_
       refine Qb ?_
       refine zD hD ?_
       refine qd 4 rfl ?_
       refine zV (ZO rfl rfl (fun hg=>by rw [Zf hbp];omega)) ?_
       refine Qb ?_
       refine zD hD ?_
       refine qd 6 rfl ?_
       refine zS QN ?_
       refine Qb ?_
       refine zD hD ?_
       refine QF (by kernel_rfl) ?_
       refine QP ?_
       first | exact key.out | exact ZP key
      refine zS QN ?_
      refine Qb ?_
      refine zD hD ?_
      refine qd 3 rfl ?_
      refine zV (YX rfl rfl) ?_
      refine Qb ?_
      refine zD hD ?_
      refine qd 4 rfl ?_
      refine zV (ZO rfl rfl (fun hg=>by rw [Zf hbp];omega)) ?_
      refine Qb ?_
      refine zD hD ?_
      refine qd 6 rfl ?_
      refine zS QN ?_
      refine Qb ?_
      refine zD hD ?_
      refine QF (by kernel_rfl) ?_
      refine QP ?_
      first | exact key.out | exact ZP key
     refine zS QN ?_
     refine Qb ?_
     refine zD hD ?_
     refine qd 2 rfl ?_
     refine zL Zv ?_
     refine Qb ?_
     refine zD hD ?_
     refine qd 3 rfl ?_
     refine zV (YX rfl rfl) ?_
     refine Qb ?_
     refine zD hD ?_
     refine qd 4 rfl ?_
     refine zV (ZO rfl rfl (fun hg=>by rw [Zf hbp];omega)) ?_
     refine Qb ?_
     refine zD hD ?_
     refine qd 6 rfl ?_
     refine zS QN ?_
     refine Qb ?_
     refine zD hD ?_
     refine QF (by kernel_rfl) ?_
     refine QP ?_
     first | exact key.out | exact ZP key
    refine zL Zv ?_
    refine Qb ?_
    refine zD hD ?_
    refine Zq 1 3 rfl rfl (by kernel_rfl) ?_ ?_
    ·
     refine zL Zv ?_
     refine Qb ?_
     refine zD hD ?_
     refine Zq 3 5 rfl rfl (by kernel_rfl) ?_ ?_
     ·
      refine zV (YX rfl rfl) ?_
      refine Qb ?_
      refine zD hD ?_
      refine Zq 4 5 rfl rfl (by kernel_rfl) ?_ ?_
      ·
       refine zV (ZO rfl rfl (fun hg=>by rw [Zf hbp];omega)) ?_
       refine Qb ?_
       refine zD hD ?_
       refine qd 5 rfl ?_
       refine zS QN ?_
       refine Qb ?_
       refine zD hD ?_
       refine qd 6 rfl ?_
       refine zS QN ?_
       refine Qb ?_
       refine zD hD ?_
       refine QF (by kernel_rfl) ?_
       refine QP ?_
       first | exact key.out | exact ZP key
      refine zS QN ?_
      refine Qb ?_
      refine zD hD ?_
      refine qd 4 rfl ?_
      refine zV (ZO rfl rfl (fun hg=>by rw [Zf hbp];omega)) ?_
      refine Qb ?_
      refine zD hD ?_
      refine qd 6 rfl ?_
      refine zS QN ?_
      refine Qb ?_
      refine zD hD ?_
      refine QF (by kernel_rfl) ?_
      refine QP ?_
      first | exact key.out | exact ZP key
     refine zS QN ?_
     refine Qb ?_
     refine zD hD ?_
     refine qd 3 rfl ?_
     refine zV (YX rfl rfl) ?_
     refine Qb ?_
     refine zD hD ?_
     refine qd 4 rfl ?_
     refine zV (ZO rfl rfl (fun hg=>by rw [Zf hbp];omega)) ?_
     refine Qb ?_
     refine zD hD ?_
     refine qd 6 rfl ?_
     refine zS QN ?_
     refine Qb ?_
     refine zD hD ?_
     refine QF (by kernel_rfl) ?_
     refine QP ?_
     first | exact key.out | exact ZP key
    refine zV (YX rfl rfl) ?_
    refine Qb ?_
    refine zD hD ?_
    refine qd 1 rfl ?_
    refine zL Zv ?_
    refine Qb ?_
    refine zD hD ?_
    refine Zq 4 5 rfl rfl (by kernel_rfl) ?_ ?_
    ·
     refine zV (ZO rfl rfl (fun hg=>by rw [Zf hbp];omega)) ?_
     refine Qb ?_
     refine zD hD ?_
     refine qd 5 rfl ?_
     refine zS QN ?_
     refine Qb ?_
     refine zD hD ?_
     refine qd 6 rfl ?_
     refine zS QN ?_
     refine Qb ?_
     refine zD hD ?_
     refine QF (by kernel_rfl) ?_
     refine QP ?_
     first | exact key.out | exact ZP key
    refine zS QN ?_
    refine Qb ?_
    refine zD hD ?_
    refine qd 4 rfl ?_
    refine zV (ZO rfl rfl (fun hg=>by rw [Zf hbp];omega)) ?_
    refine Qb ?_
    refine zD hD ?_
    refine qd 6 rfl ?_
    refine zS QN ?_
    refine Qb ?_
    refine zD hD ?_
    refine QF (by kernel_rfl) ?_
    refine QP ?_
    first | exact key.out | exact ZP key
   ·
    refine zL Zv ?_
    refine Qb ?_
    refine zD hD ?_
    refine Zq 0 2 rfl rfl (by kernel_rfl) ?_ ?_
    ·
     refine zL Zv ?_
     refine Qb ?_
     refine zD hD ?_
     refine Zq 2 5 rfl rfl (by kernel_rfl) ?_ ?_
     ·
      refine zL Zv ?_
      refine Qb ?_
      refine zD hD ?_
      refine Zq 3 5 rfl rfl (by kernel_rfl) ?_ ?_
      ·
       refine zV (YX rfl rfl) ?_
       refine Qb ?_
       refine zD hD ?_
       refine Zq 4 5 rfl rfl (by kernel_rfl) ?_ ?_
       ·
        refine zV (ZO rfl rfl (fun hg=>by rw [Zf hbp];omega)) ?_
        refine Qb ?_
        refine zD hD ?_
        refine qd 5 rfl ?_
        refine zS QN ?_
        refine Qb ?_
        refine zD hD ?_
        refine qd 6 rfl ?_
        refine zS QN ?_
        refine Qb ?_
        refine zD hD ?_
        refine QF (by kernel_rfl) ?_
        refine QP ?_
        first | exact key.out | exact ZP key
       refine zS QN ?_
       refine Qb ?_
       refine zD hD ?_
       refine qd 4 rfl ?_
       refine zV (ZO rfl rfl (fun hg=>by rw [Zf hbp];omega)) ?_
       refine Qb ?_
       refine zD hD ?_
       refine qd 6 rfl ?_
       refine zS QN ?_
       refine Qb ?_
       refine zD hD ?_
       refine QF (by kernel_rfl) ?_
       refine QP ?_
       first | exact key.out | exact ZP key
      refine zS QN ?_
      refine Qb ?_
      refine zD hD ?_
      refine qd 3 rfl ?_
      refine zV (YX rfl rfl) ?_
      refine Qb ?_
      refine zD hD ?_
      refine qd 4 rfl ?_
      refine zV (ZO rfl rfl (fun hg=>by rw [Zf hbp];omega)) ?_
      refine Qb ?_
      refine zD hD ?_
      refine qd 6 rfl ?_
      refine zS QN ?_
      refine Qb ?_
      refine zD hD ?_
      refine QF (by kernel_rfl) ?_
      refine QP ?_
      first | exact key.out | exact ZP key
     refine zS QN ?_
     refine Qb ?_
     refine zD hD ?_
     refine qd 2 rfl ?_
     refine zL Zv ?_
     refine Qb ?_
     refine zD hD ?_
     refine qd 3 rfl ?_
     refine zV (YX rfl rfl) ?_
     refine Qb ?_
     refine zD hD ?_
     refine qd 4 rfl ?_
     refine zV (ZO rfl rfl (fun hg=>by rw [Zf hbp];omega)) ?_
     refine Qb ?_
     refine zD hD ?_
     refine qd 6 rfl ?_
     refine zS QN ?_
     refine Qb ?_
     refine zD hD ?_
     refine QF (by kernel_rfl) ?_
     refine QP ?_
     first | exact key.out | exact ZP key
    refine zL Zv ?_
    refine Qb ?_
    refine zD hD ?_
    refine Zq 0 3 rfl rfl (by kernel_rfl) ?_ ?_
    ·
     refine zL Zv ?_
     refine Qb ?_
     refine zD hD ?_
     refine Zq 3 5 rfl rfl (by kernel_rfl) ?_ ?_
     ·
      refine zV (YX rfl rfl) ?_
      refine Qb ?_
      refine zD hD ?_
      refine Zq 4 5 rfl rfl (by kernel_rfl) ?_ ?_
      ·
       refine zV (ZO rfl rfl (fun hg=>by rw [Zf hbp];omega)) ?_
       refine Qb ?_
       refine zD hD ?_
       refine qd 5 rfl ?_
       refine zS QN ?_
       refine Qb ?_
       refine zD hD ?_
       refine qd 6 rfl ?_
       refine zS QN ?_
       refine Qb ?_
       refine zD hD ?_
       refine QF (by kernel_rfl) ?_
       refine QP ?_
       first | exact key.out | exact ZP key
      refine zS QN ?_
      refine Qb ?_
      refine zD hD ?_
      refine qd 4 rfl ?_
      refine zV (ZO rfl rfl (fun hg=>by rw [Zf hbp];omega)) ?_
      refine Qb ?_
      refine zD hD ?_
      refine qd 6 rfl ?_
      refine zS QN ?_
      refine Qb ?_
      refine zD hD ?_
      refine QF (by kernel_rfl) ?_
      refine QP ?_
      first | exact key.out | exact ZP key
     refine zS QN ?_
     refine Qb ?_
     refine zD hD ?_
     refine qd 3 rfl ?_
     refine zV (YX rfl rfl) ?_
     refine Qb ?_
     refine zD hD ?_
     refine qd 4 rfl ?_
     refine zV (ZO rfl rfl (fun hg=>by rw [Zf hbp];omega)) ?_
     refine Qb ?_
     refine zD hD ?_
     refine qd 6 rfl ?_
     refine zS QN ?_
     refine Qb ?_
     refine zD hD ?_
     refine QF (by kernel_rfl) ?_
     refine QP ?_
     first | exact key.out | exact ZP key
    refine zV (YX rfl rfl) ?_
    refine Qb ?_
    refine zD hD ?_
    refine Zq 0 4 rfl rfl (by kernel_rfl) ?_ ?_
    ·
     refine zL Zv ?_
     refine Qb ?_
     refine zD hD ?_
     refine Zq 4 5 rfl rfl (by kernel_rfl) ?_ ?_
     ·
      refine zV (ZO rfl rfl (fun hg=>by rw [Zf hbp];omega)) ?_
      refine Qb ?_
      refine zD hD ?_
      refine qd 5 rfl ?_
      refine zS QN ?_
      refine Qb ?_
      refine zD hD ?_
      refine qd 6 rfl ?_
      refine zS QN ?_
      refine Qb ?_
      refine zD hD ?_
      refine QF (by kernel_rfl) ?_
      refine QP ?_
      first | exact key.out | exact ZP key
     refine zS QN ?_
     refine Qb ?_
     refine zD hD ?_
     refine qd 4 rfl ?_
     refine zV (ZO rfl rfl (fun hg=>by rw [Zf hbp];omega)) ?_
     refine Qb ?_
     refine zD hD ?_
     refine qd 6 rfl ?_
     refine zS QN ?_
     refine Qb ?_
     refine zD hD ?_
     refine QF (by kernel_rfl) ?_
     refine QP ?_
     first | exact key.out | exact ZP key
    refine zV (ZO rfl rfl (fun hg=>by rw [Zf hbp];omega)) ?_
    refine Qb ?_
    refine zD hD ?_
    refine qd 0 rfl ?_
    refine zL Zv ?_
    refine Qb ?_
    refine zD hD ?_
    refine qd 5 rfl ?_
    refine zS QN ?_
    refine Qb ?_
    refine zD hD ?_
    refine qd 6 rfl ?_
    refine zS QN ?_
    refine Qb ?_
    refine zD hD ?_
    refine QF (by kernel_rfl) ?_
    refine QP ?_
    first | exact key.out | exact ZP key
   refine zL Zv ?_
   refine Qb ?_
   refine zD hD ?_
   refine KU 0 1 3 rfl rfl rfl (by kernel_rfl) ?_ ?_ ?_
   ·
    refine zL Zv ?_
    refine Qb ?_
    refine zD hD ?_
    refine Zq 1 3 rfl rfl (by kernel_rfl) ?_ ?_
    ·
     refine zL Zv ?_
     refine Qb ?_
     refine zD hD ?_
     refine Zq 3 5 rfl rfl (by kernel_rfl) ?_ ?_
     ·
      refine zV (YX rfl rfl) ?_
      refine Qb ?_
      refine zD hD ?_
      refine Zq 4 5 rfl rfl (by kernel_rfl) ?_ ?_
      ·
       refine zV (ZO rfl rfl (fun hg=>by rw [Zf hbp];omega)) ?_
       refine Qb ?_
       refine zD hD ?_
       refine qd 5 rfl ?_
       refine zS QN ?_
       refine Qb ?_
       refine zD hD ?_
       refine qd 6 rfl ?_
       refine zS QN ?_
       refine Qb ?_
       refine zD hD ?_
       refine QF (by kernel_rfl) ?_
       refine QP ?_
       first | exact key.out | exact ZP key
      refine zS QN ?_
      refine Qb ?_
      refine zD hD ?_
      refine qd 4 rfl ?_
      refine zV (ZO rfl rfl (fun hg=>by rw [Zf hbp];omega)) ?_
      refine Qb ?_
      refine zD hD ?_
      refine qd 6 rfl ?_
      refine zS QN ?_
      refine Qb ?_
      refine zD hD ?_
      refine QF (by kernel_rfl) ?_
      refine QP ?_
      first | exact key.out | exact ZP key
     refine zS QN ?_
     refine Qb ?_
     refine zD hD ?_
     refine qd 3 rfl ?_
     refine zV (YX rfl rfl) ?_
     refine Qb ?_
     refine zD hD ?_
     refine qd 4 rfl ?_
     refine zV (ZO rfl rfl (fun hg=>by rw [Zf hbp];omega)) ?_
     refine Qb ?_
     refine zD hD ?_
     refine qd 6 rfl ?_
     refine zS QN ?_
     refine Qb ?_
     refine zD hD ?_
     refine QF (by kernel_rfl) ?_
     refine QP ?_
     first | exact key.out | exact ZP key
    refine zV (YX rfl rfl) ?_
    refine Qb ?_
    refine zD hD ?_
    refine qd 1 rfl ?_
    refine zL Zv ?_
    refine Qb ?_
    refine zD hD ?_
    refine Zq 4 5 rfl rfl (by kernel_rfl) ?_ ?_
    ·
     refine zV (ZO rfl rfl (fun hg=>by rw [Zf hbp];omega)) ?_
     refine Qb ?_
     refine zD hD ?_
     refine qd 5 rfl ?_
     refine zS QN ?_
     refine Qb ?_
     refine zD hD ?_
     refine qd 6 rfl ?_
     refine zS QN ?_
     refine Qb ?_
     refine zD hD ?_
     refine QF (by kernel_rfl) ?_
     refine QP ?_
     first | exact key.out | exact ZP key
    refine zS QN ?_
    refine Qb ?_
    refine zD hD ?_
    refine qd 4 rfl ?_
    refine zV (ZO rfl rfl (fun hg=>by rw [Zf hbp];omega)) ?_
    refine Qb ?_
    refine zD hD ?_
    refine qd 6 rfl ?_
    refine zS QN ?_
    refine Qb ?_
    refine zD hD ?_
    refine QF (by kernel_rfl) ?_
    refine QP ?_
    first | exact key.out | exact ZP key
   ·
    refine zL Zv ?_
    refine Qb ?_
    refine zD hD ?_
    refine Zq 0 3 rfl rfl (by kernel_rfl) ?_ ?_
    ·
     refine zL Zv ?_
     refine Qb ?_
     refine zD hD ?_
     refine Zq 3 5 rfl rfl (by kernel_rfl) ?_ ?_
     ·
      refine zV (YX rfl rfl) ?_
      refine Qb ?_
      refine zD hD ?_
      refine Zq 4 5 rfl rfl (by kernel_rfl) ?_ ?_
      ·
       refine zV (ZO rfl rfl (fun hg=>by rw [Zf hbp];omega)) ?_
       refine Qb ?_
       refine zD hD ?_
       refine qd 5 rfl ?_
       refine zS QN ?_
       refine Qb ?_
       refine zD hD ?_
       refine qd 6 rfl ?_
       refine zS QN ?_
       refine Qb ?_
       refine zD hD ?_
       refine QF (by kernel_rfl) ?_
       refine QP ?_
       first | exact key.out | exact ZP key
      refine zS QN ?_
      refine Qb ?_
      refine zD hD ?_
      refine qd 4 rfl ?_
      refine zV (ZO rfl rfl (fun hg=>by rw [Zf hbp];omega)) ?_
      refine Qb ?_
      refine zD hD ?_
      refine qd 6 rfl ?_
      refine zS QN ?_
      refine Qb ?_
      refine zD hD ?_
      refine QF (by kernel_rfl) ?_
      refine QP ?_
      first | exact key.out | exact ZP key
     refine zS QN ?_
     refine Qb ?_
     refine zD hD ?_
     refine qd 3 rfl ?_
     refine zV (YX rfl rfl) ?_
     refine Qb ?_
     refine zD hD ?_
     refine qd 4 rfl ?_
     refine zV (ZO rfl rfl (fun hg=>by rw [Zf hbp];omega)) ?_
     refine Qb ?_
     refine zD hD ?_
     refine qd 6 rfl ?_
     refine zS QN ?_
     refine Qb ?_
     refine zD hD ?_
     refine QF (by kernel_rfl) ?_
     refine QP ?_
     first | exact key.out | exact ZP key
    refine zV (YX rfl rfl) ?_
    refine Qb ?_
    refine zD hD ?_
    refine Zq 0 4 rfl rfl (by kernel_rfl) ?_ ?_
    ·
     refine zL Zv ?_
     refine Qb ?_
     refine zD hD ?_
     refine Zq 4 5 rfl rfl (by kernel_rfl) ?_ ?_
     ·
      refine zV (ZO rfl rfl (fun hg=>by rw [Zf hbp];omega)) ?_
      refine Qb ?_
      refine zD hD ?_
      refine qd 5 rfl ?_
      refine zS QN ?_
      refine Qb ?_
      refine zD hD ?_
      refine qd 6 rfl ?_
      refine zS QN ?_
      refine Qb ?_
      refine zD hD ?_
      refine QF (by kernel_rfl) ?_
      refine QP ?_
      first | exact key.out | exact ZP key
     refine zS QN ?_
     refine Qb ?_
     refine zD hD ?_
     refine qd 4 rfl ?_
     refine zV (ZO rfl rfl (fun hg=>by rw [Zf hbp];omega)) ?_
     refine Qb ?_
     refine zD hD ?_
     refine qd 6 rfl ?_
     refine zS QN ?_
     refine Qb ?_
     refine zD hD ?_
     refine QF (by kernel_rfl) ?_
     refine QP ?_
     first | exact key.out | exact ZP key
    refine zV (ZO rfl rfl (fun hg=>by rw [Zf hbp];omega)) ?_
    refine Qb ?_
    refine zD hD ?_
    refine qd 0 rfl ?_
    refine zL Zv ?_
    refine Qb ?_
    refine zD hD ?_
    refine qd 5 rfl ?_
    refine zS QN ?_
    refine Qb ?_
    refine zD hD ?_
    refine qd 6 rfl ?_
    refine zS QN ?_
    refine Qb ?_
    refine zD hD ?_
    refine QF (by kernel_rfl) ?_
    refine QP ?_
    first | exact key.out | exact ZP key
   refine zV (YX rfl rfl) ?_
   refine Qb ?_
   refine zD hD ?_
   refine Zq 0 1 rfl rfl (by kernel_rfl) ?_ ?_
   ·
    refine zL Zv ?_
    refine Qb ?_
    refine zD hD ?_
    refine qd 1 rfl ?_
    refine zL Zv ?_
    refine Qb ?_
    refine zD hD ?_
    refine Zq 4 5 rfl rfl (by kernel_rfl) ?_ ?_
    ·
     refine zV (ZO rfl rfl (fun hg=>by rw [Zf hbp];omega)) ?_
     refine Qb ?_
     refine zD hD ?_
     refine qd 5 rfl ?_
     refine zS QN ?_
     refine Qb ?_
     refine zD hD ?_
     refine qd 6 rfl ?_
     refine zS QN ?_
     refine Qb ?_
     refine zD hD ?_
     refine QF (by kernel_rfl) ?_
     refine QP ?_
     first | exact key.out | exact ZP key
    refine zS QN ?_
    refine Qb ?_
    refine zD hD ?_
    refine qd 4 rfl ?_
    refine zV (ZO rfl rfl (fun hg=>by rw [Zf hbp];omega)) ?_
    refine Qb ?_
    refine zD hD ?_
    refine qd 6 rfl ?_
    refine zS QN ?_
    refine Qb ?_
    refine zD hD ?_
    refine QF (by kernel_rfl) ?_
    refine QP ?_
    first | exact key.out | exact ZP key
   refine zL Zv ?_
   refine Qb ?_
   refine zD hD ?_
   refine Zq 0 4 rfl rfl (by kernel_rfl) ?_ ?_
   ·
    refine zL Zv ?_
    refine Qb ?_
    refine zD hD ?_
    refine Zq 4 5 rfl rfl (by kernel_rfl) ?_ ?_
    ·
     refine zV (ZO rfl rfl (fun hg=>by rw [Zf hbp];omega)) ?_
     refine Qb ?_
     refine zD hD ?_
     refine qd 5 rfl ?_
     refine zS QN ?_
     refine Qb ?_
     refine zD hD ?_
     refine qd 6 rfl ?_
     refine zS QN ?_
     refine Qb ?_
     refine zD hD ?_
     refine QF (by kernel_rfl) ?_
     refine QP ?_
     first | exact key.out | exact ZP key
    refine zS QN ?_
    refine Qb ?_
    refine zD hD ?_
    refine qd 4 rfl ?_
    refine zV (ZO rfl rfl (fun hg=>by rw [Zf hbp];omega)) ?_
    refine Qb ?_
    refine zD hD ?_
    refine qd 6 rfl ?_
    refine zS QN ?_
    refine Qb ?_
    refine zD hD ?_
    refine QF (by kernel_rfl) ?_
    refine QP ?_
    first | exact key.out | exact ZP key
   refine zV (ZO rfl rfl (fun hg=>by rw [Zf hbp];omega)) ?_
   refine Qb ?_
   refine zD hD ?_
   refine qd 0 rfl ?_
   refine zL Zv ?_
   refine Qb ?_
   refine zD hD ?_
   refine qd 5 rfl ?_
   refine zS QN ?_
   refine Qb ?_
   refine zD hD ?_
   refine qd 6 rfl ?_
   refine zS QN ?_
   refine Qb ?_
   refine zD hD ?_
   refine QF (by kernel_rfl) ?_
   refine QP ?_
   first | exact key.out | exact ZP key
  rw [show ((a:Int)).tmod (zpt (b:Int) 1)=((a % b:Nat):Int) by rw [Zf hbp,zk0]]
  refine Qa (zR ?_)
  refine zL Zv ?_
  refine zC (zN ?_)
  refine zI ?_ ?_<;>intro hc17
  ·
   have hab:a % b=0:=by have h:=hc17;simp only [beq_iff_eq] at h;omega
   have hpre2:(pre++[a])++[b]<+:zbZ a0 b0:=by rw [hrem,zbt ha0 (by omega) hab,List.append_assoc];exact List.prefix_rfl
   refine zR (zM ?_)
   refine zL Zv ?_
   refine zcc (vs:=[_]) (Post:=fun t I3 H3=>if t then J ((pre++[a])++[b]) I3 H3 else Jx ((pre++[a])++[b]) I3 H3) rfl rfl rfl rfl (hY (pre++[a]) b _ _ hpre2 (hI0.trans hI2) hJ1) ?_
   rintro t3 I3 H3 hI3 hP3
   refine zN (Qt (Qn (Qc (Qn ?_))))
   first
   | (refine YK rfl (fun w hw=>⟨_,I3,H3,rfl,hI1.trans (hI2.trans hI3),hw.drop,?_⟩);cases t3 with | true=>exact .inl (by rw [hrem,zbt ha0 (by omega) hab];simpa using hP3) | false=>exact .inr ⟨_,hpre2,hP3⟩)
  have hab:a % b≠0:=by have h:=hc17;simp only [beq_eq_false_iff_ne,ne_eq] at h;omega
  refine Qo (Qh ?_)
  exact WX rfl rfl rfl _ (zrW 186 b1 b2 (b) (((a % b:Nat):Int))) ⟨a % b,Nat.mod_lt _ hbp,b,a % b,pre++[a],rfl,rfl,rfl,hI1.trans hI2,hJ1,by rw [hrem,zct ha0 (by omega) hab,List.append_assoc];rfl,by omega,by omega,by have:=Nat.mod_lt a hbp;omega⟩ (.cons rfl (.cons rfl (.cons rfl .nil))) .refl
 refine QI (Qf (Qf (Qk ?_)))
 first
 | (refine Vm (YK rfl (fun w hw=>⟨_,I2,H2,rfl,hI1.trans hI2,hw.drop,?_⟩));by_cases ha0:a=0;(obtain ⟨e1,e2⟩:=hno (by simp [ZT,ha0]);subst e1;subst e2;subst ha0;exact .inl (by rw [hrem,zcr,List.append_nil];exact hJk));(have ht:t=false:=(by simp [ha0] at hc10;exact hc10);subst ht;exact .inr ⟨_,zia hrem ha0,hyes (by simp [ZT];exact ha0)⟩))
theorem zvO (I:Qu)(a b:Nat)(hb:0<b)(ha:a≤9223372036854775807)(hb2:b≤9223372036854775807):Zx Tryz.prog 259 [.int .u64 a,.int .u64 b] I (.int .u64 (Nat.gcd a b:Nat)):=by
 intro g H w hw
 refine zdb Tryz.func259 rfl Tryz.ntmps259 rfl hw ?_
 have hIc:=zxQ I
 refine zR ?_
 refine Qs ztO rfl rfl (fun b_4=>?_)
 refine zN (Ql (zR (zM ?_)))
 refine zC (zN ?_)
 refine zI ?_ ?_<;>intro hc7
 ·
  simp at hc7;omega
 refine Qo (Qa (zR (zM ?_)))
 refine zS QN ?_
 refine zN (Ql (zR (zM ?_)))
 refine zM ?_
 refine Qz (cap:=[]) (vs:=[_,_]) rfl rfl zq8 .nil (zwY I _ _) rfl rfl ?_
 rintro vv1 I1 L1 hI1 ⟨rfl,b1,b2,rfl,rfl⟩
 have hIc:=hIc.trans hI1
 refine zN (Qm ?_)
 refine WF (ms:=[]) (K:=zrW 186 b1 b2 (a) (b)) (L:=[(b_4,.cells #[.int .u64 b] 186 (0,0))]) (enc:=fun n:Nat=>.int .u64 n) (xs:=zbZ a b) (fun pre I' loc'=>loc'=[(b_4,.cells #[.int .u64 ((pre.getLastD b:Nat):Int)] 186 (0,0))]) (fun _ _ _ _=>False) (fun pre x E2 I2 loc2=>E2=[(4,Za b_4),(5,.int .u64 x)]∧loc2=[(b_4,.cells #[.int .u64 ((pre.getLastD b:Nat):Int)] 186 (0,0))]) rfl zq3 (zme _ a b b1 b2 hb ha hb2) rfl rfl ?_ ?_ ?_ ?_
 ·
  rintro l pre x I1 loc1 H1 hpre hI1 rfl
  refine Qg (zA (Qb ?_))
  exact zaX _ ⟨zxQ _,rfl,rfl⟩ (.cons rfl (.cons rfl .nil))
 ·
  rintro l pre x E2 I2 loc2 H2 hpre hI2 ⟨rfl,rfl⟩
  refine Qm (Qg (zM ?_))
  refine zS QN ?_
  refine Qb (Qh ?_)
  exact XY ⟨zxQ _,by rw [zjV];rfl⟩ .refl
 ·
  rintro bd I1 loc1 hI1 rfl
  have hIc:=hIc.trans hI1
  refine Qh (Qa (zR ?_))
  refine zL Zv ?_
  refine zS QN ?_
  refine zN (Qt ?_)
  exact KV (L:=[(b_4,_)]) (fun a ha w hw=>zwP rfl rfl Zv (QS.h0 rfl) a ha w hw) (fun w hw=>⟨by rw [zli b (Nat.le_refl _) (by omega) (fun _=>rfl)],(hw.mono hIc).drop⟩)
 rintro c bd pre I1 loc1 hI1 hpre hF;exact hF.elim
theorem zu5 (I:Qu)(n d:Int)(hn: -1073741824≤n∧n≤1073741824)(hd:1≤d∧d≤1073741824):Zx Tryz.prog 259 [.int .u64 (zgl n),.int .u64 (IntKind.u64.wrap d)] I (.int .u64 (zvs n d)):=by
 have h0:0≤zgl n∧zgl n≤1073741824:=by unfold zgl;split<;>omega
 have h:=zvO I (zgl n).toNat d.toNat (by omega) (by omega) (by omega)
 rw [zhL (by omega)]
 rw [Int.toNat_of_nonneg h0.1,Int.toNat_of_nonneg (by omega),znX,Int.toNat_of_nonneg (by omega)] at h
 exact h
theorem Xi (I:Qu)(n d:Int):Zx Tryz.prog 253 [zbl (n) (d)] I (.int .i64 (zrl n d)):=by
 intro g H w hw
 refine qe Tryz.func253 Tryz.ntmps253 hw ?_
 refine zR ?_
 refine Q5 rfl rfl rfl (fun b_1=>?_)
 refine zA (zN (Ql (Ql ?_)))
 refine YI mixed (by kernel_rfl) ?_
 refine zq (Qe rfl VT) ?_
 refine zq (Qd rfl Qr (fun hg=>by exact QS.h0 rfl)) ?_
 refine zq (QH rfl rfl rfl) ?_
 refine zq (Qi rfl) ?_
 refine Ys 3 rfl rfl rfl ?_
 refine zj (Qe rfl VT) ?_
 refine zj (Qd rfl Qr (fun hg=>by exact QS.h0 rfl)) ?_
 refine zj (QH rfl rfl rfl) ?_
 refine Ju rfl rfl rfl rfl rfl ?_
 refine zq (Qi rfl) ?_
 refine Ys 8 rfl rfl rfl ?_
 refine zj (Qe rfl Va) ?_
 refine zj (Qd rfl Qr (fun hg=>by exact QS.h0 rfl)) ?_
 refine zj (QH rfl rfl rfl) ?_
 refine Ju rfl rfl rfl rfl rfl ?_
 refine zq (Qi rfl) ?_
 refine Ys 13 rfl rfl rfl ?_
 refine zj (Qe rfl Va) ?_
 refine zj (Qd rfl Qr (fun hg=>by exact QS.h0 rfl)) ?_
 refine zj (QH rfl rfl rfl) ?_
 refine Ju rfl rfl rfl rfl rfl ?_
 refine zq (Qi rfl) ?_
 refine Ys 18 rfl rfl rfl ?_
 refine zj (Qe rfl Va) ?_
 refine zj (Qd rfl Qr (fun hg=>by exact QS.h0 rfl)) ?_
 refine UI (cap:=[]) (vs:=[_]) rfl rfl zo9 (fun hg=>zvI I n (by simp [ZT] at hg;omega)) (.some rfl rfl rfl rfl gbf) rfl rfl ?_
 refine zj (Qe rfl VT) ?_
 refine zj (Qd rfl Qr (fun hg=>by exact QS.h0 rfl)) ?_
 refine zj (Kb rfl KC) ?_
 refine UI (cap:=[]) (vs:=[_,_]) rfl rfl zof (fun hg=>zu5 I n d (by simp [ZT] at hg;omega) (by simp [ZT] at hg;omega)) (.some rfl rfl rfl rfl gbf) rfl rfl ?_
 refine zj (QH rfl rfl rfl) ?_
 refine Ju rfl rfl rfl rfl rfl ?_
 refine YH ?_
 refine Qa ?_
 refine zI ?_ ?_<;>intro hc30
 ·
  refine zR (zA (zN (Qt (Qc ?_))))
  first
  | exact zr rfl rfl (by unfold zrl;rw [zoj hc30];rfl)
 refine Qo (Qa (zR (zA (zN (Qt ?_)))))
 first
 | exact zr rfl rfl (by unfold zrl;rw [zmh hc30];rfl)
theorem zgQ (I:Qu)(an ad bn bd:Int):Zx Tryz.prog 237 [zbl (an) (ad),zbl (bn) (bd)] I (.tuple #[.int .i64 (zja an ad bn bd),.int .i64 (zj5 an ad bn bd)]):=by
 intro g H w hw
 refine qe Tryz.func237 Tryz.ntmps237 hw ?_
 refine zR ?_
 refine Q5 rfl rfl rfl (fun b_2=>?_)
 refine Q5 rfl rfl rfl (fun b_3=>?_)
 refine zA ?_
 refine zA (zN (Ql (zR ?_)))
 refine zV (Qp rfl Ve (fun hg=>by exact Cells.g1) rfl) ?_
 refine qc (vs:=[_]) rfl zbg (Xi I _ _) ?_
 refine zC ?_
 refine zM ?_
 refine Q2 3 rfl rfl rfl ?_
 refine zJ (Qp rfl Ve (fun hg=>by exact Cells.g0) rfl) ?_
 refine qf (vs:=[_]) rfl zbg (fun hg=>Xi I _ _) ?_
 refine zJ (QH rfl rfl rfl) ?_
 refine Zz rfl rfl rfl rfl rfl ?_
 refine zN ?_
 refine zI ?_ ?_<;>intro hc13
 ·
  have hb:(K7 an ad&&K7 bn bd)=false:=by have h:=hc13;rw [za7,Bool.not_eq_true'] at h;exact h
  refine zR (zA ?_)
  refine zA (zN (Qt (Qc ?_)))
  exact ZF rfl rfl rfl (fun w hw=>⟨by unfold zja zj5;rw [hb];rfl,hw.drop⟩)
 have hb:(K7 an ad&&K7 bn bd)=true:=by have h:=hc13;rw [za7,Bool.not_eq_false'] at h;exact h
 have ⟨ha1,ha2⟩:=zaU (Bool.and_eq_true .. ▸ hb).1
 have ⟨hb1,hb2⟩:=zaU (Bool.and_eq_true .. ▸ hb).2
 refine Qo (Qa (zR ?_))
 refine zF Va ?_
 refine zL Qr ?_
 refine zF VT ?_
 refine zL Qr ?_
 refine zV (ZN rfl rfl rfl (fun _=>by exact zkW (by omega) (by omega))) ?_
 refine zF Va ?_
 refine zL Qr ?_
 refine zF VT ?_
 refine zL Qr ?_
 refine zV (ZN rfl rfl rfl (fun _=>by exact zkW (by omega) (by omega))) ?_
 refine qc (vs:=[_,_]) rfl zd5 (zkf I _ _) ?_
 refine zA ?_
 refine zA (zN (Qt ?_))
 exact ZF rfl rfl rfl (fun w hw=>⟨by unfold zja zj5;rw [hb];rfl,hw.drop⟩)
theorem zjs (I:Qu)(an ad bn bd:Int):Zx Tryz.prog 203 [zbl (an) (ad),zbl (bn) (bd)] I (.bool (zdi an ad bn bd)):=by
 intro g H w hw
 refine qe Tryz.func203 Tryz.ntmps203 hw ?_
 refine zR ?_
 refine Q5 rfl rfl rfl (fun b_2=>?_)
 refine Q5 rfl rfl rfl (fun b_3=>?_)
 refine zA ?_
 refine zN (zR ?_)
 refine zV (Qp rfl Ve (fun hg=>by exact Cells.g1) rfl) ?_
 refine zV (Qp rfl Ve (fun hg=>by exact Cells.g0) rfl) ?_
 refine qc (vs:=[_,_]) rfl zg7 (zgQ I _ _ _ _) ?_
 refine zM ?_
 refine zE ?_
 refine zE ?_
 refine zA ?_
 refine zA ?_
 refine zN (zR ?_)
 refine zM ?_
 refine zC ?_
 refine zM ?_
 refine QE 2 rfl rfl rfl ?_
 refine zK (Qi rfl) ?_
 refine zK (QH rfl rfl rfl) ?_
 refine QO rfl rfl rfl rfl rfl ?_
 refine zM ?_
 refine QE 6 rfl rfl rfl ?_
 refine zK (Qe rfl Va) ?_
 refine zK (Qd rfl Qr (fun hg=>by exact QS.h1 rfl)) ?_
 refine zK (QH rfl rfl rfl) ?_
 refine QO rfl rfl rfl rfl rfl ?_
 refine zM ?_
 refine QE 11 rfl rfl rfl ?_
 refine zK (Qe rfl Va) ?_
 refine zK (Qd rfl Qr (fun hg=>by exact QS.h0 rfl)) ?_
 refine zK (Qe rfl VT) ?_
 refine zK (Qd rfl Qr (fun hg=>by exact QS.h0 rfl)) ?_
 refine zK (QH rfl rfl rfl) ?_
 refine QO rfl rfl rfl rfl rfl ?_
 refine zA (zN (Qt ?_))
 exact zr rfl rfl (by rw [←zdY])
theorem ZQ (I:Qu)(n lo hi:Int):Zx Tryz.prog 202 [.int .i64 n,.int .i64 lo,.int .i64 hi] I (.bool (YJ n lo hi)):=by
 intro g H w hw
 refine qe Tryz.func202 Tryz.ntmps202 hw ?_
 refine zR (zA ?_)
 refine zN (zR ?_)
 refine zM ?_
 refine zM ?_
 refine zC ?_
 refine zM ?_
 refine QE 3 rfl rfl rfl ?_
 refine zK (Qi rfl) ?_
 refine zK (Qi rfl) ?_
 refine zK (QH rfl rfl rfl) ?_
 refine QO rfl rfl rfl rfl rfl ?_
 refine zA (zN (Qt ?_))
 exact zr rfl rfl (by rfl)
theorem zql (I:Qu)(x:Sg):Zx Tryz.prog 154 [JQ x] I (.bool (frm x)):=by
 intro g H w hw
 refine qe Tryz.func154 Tryz.ntmps154 hw ?_
 refine zR ?_
 refine Q5 rfl rfl rfl (fun b_1=>?_)
 refine zA ?_
 refine zN (zR ?_)
 refine zF Z3 ?_
 refine zL Qr ?_
 refine qc (vs:=[_,_,_]) rfl Yc (ZQ I _ _ _) ?_
 refine zM ?_
 refine QE 3 rfl rfl rfl ?_
 refine zK (Qe rfl J9) ?_
 refine zK (Qd rfl Qr (fun hg=>by exact QS.h0 rfl)) ?_
 refine qg (vs:=[_,_,_]) rfl Yc (fun hg=>ZQ I _ _ _) ?_
 refine QO rfl rfl rfl rfl rfl ?_
 refine zM ?_
 refine QE 8 rfl rfl rfl ?_
 refine zK (Qe rfl JT) ?_
 refine zK (Qd rfl Qr (fun hg=>by exact QS.h0 rfl)) ?_
 refine qg (vs:=[_,_,_]) rfl Yc (fun hg=>ZQ I _ _ _) ?_
 refine QO rfl rfl rfl rfl rfl ?_
 refine zM ?_
 refine QE 13 rfl rfl rfl ?_
 refine zK (Qe rfl Xa) ?_
 refine zK (Qd rfl Qr (fun hg=>by exact QS.h0 rfl)) ?_
 refine qg (vs:=[_,_,_]) rfl Yc (fun hg=>ZQ I _ _ _) ?_
 refine QO rfl rfl rfl rfl rfl ?_
 refine zM ?_
 refine QE 18 rfl rfl rfl ?_
 refine zK (Qe rfl Jr) ?_
 refine zK (Qd rfl Qr (fun hg=>by exact QS.h0 rfl)) ?_
 refine qg (vs:=[_,_,_]) rfl Yc (fun hg=>ZQ I _ _ _) ?_
 refine QO rfl rfl rfl rfl rfl ?_
 refine zM ?_
 refine QE 23 rfl rfl rfl ?_
 refine zK (Qe rfl JW) ?_
 refine zK (Qd rfl Qr (fun hg=>by exact QS.h0 rfl)) ?_
 refine qg (vs:=[_,_,_]) rfl Yc (fun hg=>ZQ I _ _ _) ?_
 refine QO rfl rfl rfl rfl rfl ?_
 refine zM ?_
 refine QE 28 rfl rfl rfl ?_
 refine zK (Qe rfl Kc) ?_
 refine zK (Qd rfl Qr (fun hg=>by exact QS.h0 rfl)) ?_
 refine qg (vs:=[_,_,_]) rfl Yc (fun hg=>ZQ I _ _ _) ?_
 refine QO rfl rfl rfl rfl rfl ?_
 refine zM ?_
 refine QE 33 rfl rfl rfl ?_
 refine zK (Qe rfl JP) ?_
 refine zK (Qd rfl Qr (fun hg=>by exact QS.h0 rfl)) ?_
 refine qg (vs:=[_,_,_]) rfl Yc (fun hg=>ZQ I _ _ _) ?_
 refine QO rfl rfl rfl rfl rfl ?_
 refine zM ?_
 refine QE 38 rfl rfl rfl ?_
 refine zK (Qe rfl JS) ?_
 refine zK (Qd rfl Qr (fun hg=>by exact QS.h0 rfl)) ?_
 refine qg (vs:=[_,_,_]) rfl Yc (fun hg=>ZQ I _ _ _) ?_
 refine QO rfl rfl rfl rfl rfl ?_
 refine zM ?_
 refine QE 43 rfl rfl rfl ?_
 refine zK (Qe rfl JY) ?_
 refine zK (Qd rfl Qr (fun hg=>by exact QS.h0 rfl)) ?_
 refine qg (vs:=[_,_,_]) rfl Yc (fun hg=>ZQ I _ _ _) ?_
 refine QO rfl rfl rfl rfl rfl ?_
 refine zM ?_
 refine QE 48 rfl rfl rfl ?_
 refine zK (Qe rfl VE) ?_
 refine zK (Qp rfl Ve (fun hg=>by exact Cells.s0 (vs:=[_,_]) rfl) rfl) ?_
 refine zK (Qe rfl Vy) ?_
 refine zK (Qp rfl Ve (fun hg=>by exact Cells.s0 (vs:=[_,_]) rfl) rfl) ?_
 refine qg (vs:=[_,_]) rfl zik (fun hg=>zjs I _ _ _ _) ?_
 refine QO rfl rfl rfl rfl rfl ?_
 refine zA (zN (Qt ?_))
 exact zr rfl rfl (by rfl)
theorem zfo {I:Qu}{av:Option Addr}{n c:Nat}{xs:List Sg}(hS:Sl I 14 Vc av n c xs)(hn:n≤100000):Zx Tryz.prog 102 [.slice av n c] I (.int .i64 (Wm xs)):=by
 intro g H w hw
 refine qe Tryz.func102 Tryz.ntmps102 hw ?_
 refine zR (zA (zN (Ql (zR ?_))))
 refine zM ?_
 refine zQ Vf ?_
 refine zC (zN ?_)
 refine zI ?_ ?_<;>intro hc7
 ·
  have h6:xs.length>4096:=by rw [hS.len];simp at hc7;omega
  refine zR (zA (zN (Qt (Qc ?_))))
  first
  | exact zr rfl rfl (by unfold Wm;rw [if_pos h6])
 have h6:¬xs.length>4096:=by rw [hS.len];simp at hc7;omega
 refine Qo (Qa (Ql (zR (zM ?_))))
 refine zQ Vf ?_
 refine zM (zN (Qm ?_))
 refine zU [(0,_),(8,_),(9,_)] (fun T L0 mz E I' loc'=>∃ (k:Nat),mz=n-k∧E=(10,.int .i64 k)::T∧I=I'∧L0=loc'∧k≤n∧(List.range k).all (skP xs)=true) ?_ (h:=⟨0,rfl,rfl,rfl,rfl,Nat.zero_le _,rfl⟩)
 rintro mz E I' loc' ⟨k,rfl,rfl,rfl,rfl,hk,hall⟩
 refine zR (zC (zN (Ql ?_)))
 refine zI ?_ ?_<;>intro hc11
 ·
  have hlt_k:k<n:=by have h:=hc11;simp at h;omega
  obtain ⟨x,hx⟩:=hS.at hlt_k
  refine Qo (Qa (Ql (Qm (zR (zM ?_)))))
  refine zV (QG rfl rfl Vf (by assumption) (fun hg=>by omega)) ?_
  refine zV (Qp rfl ZL (fun hg=>by exact zxR hS hx) rfl) ?_
  refine Qs XV rfl rfl (fun b_4=>?_)
  refine zA ?_
  refine zh VK ?_
  refine zN (Ql ?_)
  refine YI mixed (by kernel_rfl) ?_
  refine zq (Qp rfl ZL (fun hg=>by exact Cells.g0) rfl) ?_
  refine Jg (cap:=[]) (vs:=[_]) rfl rfl zgT (zql I _) rfl rfl ?_
  refine zq (VF rfl) ?_
  refine zq (Qi rfl) ?_
  refine Ys 3 rfl rfl rfl ?_
  refine zj (Qi rfl) ?_
  refine zj (QH rfl rfl rfl) ?_
  refine zj (Qi rfl) ?_
  refine zbN 6 rfl rfl rfl ?_
  refine zk (Qi rfl) ?_
  refine zk (Qi rfl) ?_
  refine zk (ZN rfl rfl rfl (fun hg=>by omega)) ?_
  refine zk (QG rfl rfl Vf (by assumption) (fun hg=>by (simp [ZT] at hg;omega))) ?_
  refine zk (Qe rfl Z3) ?_
  refine zk (Qd rfl Qr (fun hg=>by exact zxJ (k:=((k:Int)-1).toNat) hS (Zb (d:=Y6) hS.len (by simp [ZT] at hg;omega)) rfl)) ?_
  refine zk (Qe rfl Z3) ?_
  refine zk (Qd rfl Qr (fun hg=>by exact QS.h0 rfl)) ?_
  refine zk (QH rfl rfl rfl) ?_
  refine zhM rfl rfl rfl (.some rfl rfl rfl rfl gbf) rfl rfl ?_
  refine Ju rfl rfl rfl rfl rfl ?_
  refine YH ?_
  refine Qa ?_
  refine zI ?_ ?_<;>intro hc32
  ·
   refine zR (zA (zN (Qt (Qn (Qc (Qc (Qn ?_)))))))
   refine Qc ?_
   first
   | exact zr rfl rfl (by unfold Wm skB;rw [if_neg h6,JG (k:=k) (by rw [hS.len];exact hlt_k) (by rw [zca hx,hc32];rfl)];rfl)
  refine Qo (Qh (Qa (Qg (zB ?_))))
  refine zM (Qb ?_)
  exact zm (h:=⟨n-(k+1),by omega,k+1,rfl,rfl,rfl,rfl,by omega,V6 hall (by rw [zca hx,hc32];rfl)⟩)
 have hge_k:n≤k:=by have h:=hc11;simp at h;omega
 refine QI (Qf (Qf (Qk (Qa (zR (zA (zN ?_)))))))
 refine Qt ?_
 first
 | exact zr rfl rfl (by unfold Wm skB;rw [if_neg h6,hS.len,show n=k by omega,hall];rfl)
end
section
open Go Go.Kn Go.Proofs
structure Wr where
 no:Int
 yr:Int
 rs:List Rd
def zgX (I:Qu)(av:Option Addr)(n c:Nat)(ws:List Wt)(xs:List Wr):Prop:=Sl I 3 znv av n c ws∧ws.length=xs.length∧∀ (k:Nat) (w:Wt) (x:Wr),ws[k]? =some w→xs[k]? =some x→w.no=x.no∧w.yr=x.yr∧Sl I 15 UN w.a w.n w.c x.rs
def SlW (I:Qu)(av:Option Addr)(n c:Nat)(xs:List Wr):Prop:=∃ ws:List Wt,zgX I av n c ws xs
theorem zgX.mono {I I':Qu}{av:Option Addr}{n c:Nat}{ws:List Wt}{xs:List Wr}(h:zgX I av n c ws xs)(hI:HLe I I'):zgX I' av n c ws xs:=
 ⟨h.1.mono hI,h.2.1,fun k w x h1 h2=>⟨(h.2.2 k w x h1 h2).1,(h.2.2 k w x h1 h2).2.1,(h.2.2 k w x h1 h2).2.2.mono hI⟩⟩
theorem SlW.mono {I I':Qu}{av:Option Addr}{n c:Nat}{xs:List Wr}(h:SlW I av n c xs)(hI:HLe I I'):SlW I' av n c xs:=by
 obtain ⟨ws,h⟩:=h;exact ⟨ws,h.mono hI⟩
theorem zgX.len {I:Qu}{av:Option Addr}{n c:Nat}{ws:List Wt}{xs:List Wr}(h:zgX I av n c ws xs):xs.length=n:=by rw [←h.2.1];exact h.1.len
theorem zgX.at {I:Qu}{av:Option Addr}{n c:Nat}{ws:List Wt}{xs:List Wr}(h:zgX I av n c ws xs){k:Nat}(hk:k<n):∃ w x,ws[k]? =some w∧xs[k]? =some x∧w.no=x.no∧w.yr=x.yr∧Sl I 15 UN w.a w.n w.c x.rs:=by
 obtain ⟨w,hw⟩:=h.1.at hk
 have hl:=h.len
 obtain ⟨x,hx⟩:∃ x,xs[k]? =some x:=⟨_,List.getElem?_eq_getElem (by omega)⟩
 exact ⟨w,x,hw,hx,h.2.2 k w x hw hx⟩
def zvu (xs:List Wr):Bool:=decide (xs.length≤5)&&xs.all fun x=>decide (x.rs.length≤8)
theorem zrD {I:Qu}{av:Option Addr}{n c:Nat}{ws:List Wt}{xs:List Wr}(h:zgX I av n c ws xs):zm3 ws=zvu xs:=by
 unfold zm3 zvu
 rw [h.2.1]
 congr 1
 rw [Bool.eq_iff_iff,List.all_eq_true,List.all_eq_true]
 constructor
 ·
  intro ha x hx
  obtain ⟨k,hk,e⟩:=List.mem_iff_getElem.1 hx
  obtain ⟨w,x',hw,hx',_,_,hs⟩:=h.at (k:=k) (by rw [←h.len];exact hk)
  have:x'=x:=by rw [List.getElem?_eq_getElem hk,e] at hx';exact (Option.some.inj hx').symm
  subst this
  have:=ha w (List.mem_of_getElem? hw)
  rw [hs.len];exact this
 ·
  intro ha w hw
  obtain ⟨k,hk,e⟩:=List.mem_iff_getElem.1 hw
  obtain ⟨w',x,hw',hx',_,_,hs⟩:=h.at (k:=k) (by rw [←h.1.len];exact hk)
  have:w'=w:=by rw [List.getElem?_eq_getElem hk,e] at hw';exact (Option.some.inj hw').symm
  subst this
  have:=ha x (List.mem_of_getElem? hx')
  rw [←hs.len];exact this
def zah (x y:Sg):Bool:=x.id==y.id&&(x.role==y.role&&(x.bar==y.bar&&(x.mark==y.mark&&(x.kind==y.kind&&(x.side==y.side&&(x.dir==y.dir&&(x.level==y.level&&(x.size==y.size&&(x.wth==y.wth&&(x.fn==y.fn&&(x.fd==y.fd&&(x.tn==y.tn&&(x.td==y.td&&true)))))))))))))
theorem za3 {x y:Sg}:zah x y=true↔x=y:=by
 obtain ⟨a1,a2,a3,a4,a5,a6,a7,a8,a9,a10,a11,a12,a13,a14⟩:=x
 obtain ⟨b1,b2,b3,b4,b5,b6,b7,b8,b9,b10,b11,b12,b13,b14⟩:=y
 simp [zah]
instance : DecidableEq Sg := fun a b => decidable_of_iff (zah a b = true) za3
def zgg (r:Rd):Bool:=(r.lost&& !zah r.sg Y6)||(!r.lost&&((r.sg.id != 0)||(Wm [r.sg] != 0)))
theorem zny {r:Rd}(h:r.lost=true)(b:Bool)(h2:(!zah r.sg Y6)=b):zgg r=b:=by unfold zgg;rw [h,h2];cases b<;>rfl
theorem zuW {r:Rd}(h:r.lost=false)(h2:(r.sg.id != 0)=true):zgg r=true:=by unfold zgg;rw [h,h2];rfl
theorem zse {r:Rd}(h:r.lost=false)(h2:(r.sg.id != 0)=false):zgg r=(Wm [r.sg] != 0):=by unfold zgg;rw [h,h2];simp
theorem zkA (r:Rd):(r.lost=true∧(!zah r.sg Y6)=true)∨(r.lost=true∧(!zah r.sg Y6)=false)∨(r.lost=false∧(r.sg.id != 0)=true)∨(r.lost=false∧(r.sg.id != 0)=false):=by
 cases r.lost<;>cases (!zah r.sg Y6)<;>cases (r.sg.id != 0)<;>simp
def znu (l:Int)(x:Wr):Bool:=((decide (x.no≤l)||decide (x.no>1048576))||decide (x.yr<0))||decide (x.yr>3000)
def U0:Int→List Wr→Bool
 | _,[]=>true
 | l,x::xs=> !znu l x&&(!x.rs.any zgg&&U0 x.no xs)
def WP (xs:List Wr):Int:=if xs.length>24 then 2 else if xs.any (fun x=>decide (x.rs.length>64))=true then 2 else if U0 0 xs=true then 0 else 410
theorem ztB {xs:List Wr}(h:xs.length>24):WP xs=2:=by unfold WP;rw [if_pos h]
theorem ztH {xs:List Wr}(h:¬xs.length>24)(h2:xs.any (fun x=>decide (x.rs.length>64))=true):WP xs=2:=by unfold WP;rw [if_neg h,if_pos h2]
theorem zeZ {xs:List Wr}(h:¬xs.length>24)(h2:xs.any (fun x=>decide (x.rs.length>64))=false)(h3:U0 0 xs=false):WP xs=410:=by unfold WP;rw [if_neg h,h2,h3];rfl
theorem zru {xs:List Wr}(h:¬xs.length>24)(h2:xs.any (fun x=>decide (x.rs.length>64))=false)(h3:U0 0 xs=true):WP xs=0:=by unfold WP;rw [if_neg h,h2,h3];rfl
theorem zgN {xs:List Wr}{k:Nat}{l:Int}{x:Wr}(hx:xs[k]? =some x)(hb:znu l x=true):U0 l (xs.drop k)=false:=by rw [ZY hx];unfold U0;rw [hb];rfl
theorem zbr {xs:List Wr}{k:Nat}{l:Int}{x:Wr}{r:Rd}{j:Nat}(hx:xs[k]? =some x)(hr:x.rs[j]? =some r)(hb:zgg r=true):U0 l (xs.drop k)=false:=by
 rw [ZY hx];unfold U0
 rw [show x.rs.any zgg=true from List.any_eq_true.2 ⟨r,List.mem_of_getElem? hr,hb⟩];simp
theorem zfW {xs:List Wr}{k:Nat}{l:Int}{x:Wr}(hx:xs[k]? =some x)(hb:znu l x=false)(hr:x.rs.any zgg=false):U0 l (xs.drop k)=U0 x.no (xs.drop (k+1)):=by
 rw [ZY hx]
 show (!znu l x&&(!x.rs.any zgg&&U0 x.no (xs.drop (k+1))))=_
 rw [hb,hr];rfl
theorem zjk {xs:List Wr}{k:Nat}{l:Int}(h:xs.length≤k):U0 l (xs.drop k)=true:=by rw [List.drop_eq_nil_of_le h];rfl
end
end Go.Proofs.YtodakphagkommaaGreatDoor
namespace Go.Kn
section
open Go
section
variable {C:Cx} {Q:Exit→Act→World→Prop} {E G:Env} {I I' I0:Qu} {loc loc' loc0 L R:Loc} {ops:Array Oper} {rest:List Oper} {S:GS}
variable {dst:Option Nat} {d:Nat} {ty:TypeId} {pos:String} {af:Array Edge} {gd:Option (Nat×Bool)} {x y z:Operand} {a b c:Int}
theorem zol {k:IntKind}{ats:Array TypeId}(hx:QA S E x=some (.int k a))(hy:QA S E y=some (.int k b))(hz:QA S E z=some (.int k c)):QT C S E I loc ⟨dst,.call ⟨.builtin .min, #[x,y,z],ats⟩,ty,pos,af,gd⟩ (.int k (Kd (Kd a b) c)):=
 .of (by intro c e;cases e) fun ac w ha hg hc hw=>by
  simp only [execOp,resolve,List.map_toArray,List.map_cons,List.map_nil,Qj ha hg hc hx,Qj ha hg hc hy,Qj ha hg hc hz,Sem.run_bind,Sem.run_pure,Result.andThen,invoke,builtin];rfl
def zkV (u:Value)(want:Bool):Bool:=match u with | .bool b=>b != want | _=>true
theorem zch {j dj:Nat}{want:Bool}{oj o:Oper}{u:Value}{N:Nat}{D:List Deferred}{a:Act}(hg:o.guard=some (j,want))(hj:ops[j]? =some oj)(hd:oj.dst=some dj)(ha:Kf N D E a)(hl:VG E dj=some u)(hu:zkV u want=true):Region.wanted o (yielded ops a.tmps)=false:=by
 have h:=ha.env _ _ hl
 simp only [Region.wanted,hg]
 cases u with
 | bool b0=>
  rw [KJ hj hd h]
  cases b0<;>cases want<;>first | rfl | cases hu
 | _=>
  have hy:yielded ops a.tmps j=none:=by
   unfold yielded
   simp only [hj,Option.bind_some,hd]
   cases e:a.tmps[dj]? with
   | none=>rfl
   | some v=>
    simp [e] at h;rw [h]
  rw [hy];rfl
theorem QU {op:Op}{j dj:Nat}{want:Bool}{oj:Oper}{u:Value}(hj:ops[j]? =some oj)(hd:oj.dst=some dj)(hl:VG E dj=some u)(hu:zkV u want=true)(hN:Nat.blt d C.N=true)
  (h:XO C Q ops rest [] ((d,undef)::E) I loc):XO C Q ops (⟨some d,op,ty,pos,af,some (j,want)⟩::rest) [] E I loc:=by
 intro a w ha hg hw
 simp only [wpListIn]
 rw [zch (o:=⟨some d,op,ty,pos,af,some (j,want)⟩) rfl hj hd ha hl hu]
 simp only [Bool.false_eq_true,if_false]
 exact ⟨fun _ _=>trivial,h _ _ (ha.put hN undef) trivial hw⟩
theorem zl2 (i:Nat){j dj fuel:Nat}{want:Bool}{oj:Oper}{listed:Array Bool}{op:Op}{u:Value}(hi:ops[i]? =some ⟨some d,op,ty,pos,af,some (j,want)⟩)(hj:ops[j]? =some oj)(hd:oj.dst=some dj)(hlk:VG E dj=some u)(hu:zkV u want=true)
  (hdf:∀ c,op≠ .defer c)(hN:Nat.blt d C.N=true)
  (hs:Region.noSelect ops=true)(hfr:Region.free .any ops listed i=true)(hr:(Region.ready .any ops listed).contains i=true)(hQ:K8 Q)(hI:HLe I0 I)(hl:Kl loc0 loc)
  (h:XD C Q ops I0 loc0 fuel (listed.setIfInBounds i true) [] ((d,undef)::E) I loc):XD C Q ops I0 loc0 (fuel+1) listed [] E I loc:=by
 intro a w ha hg hw
 have hp:=ha.put hN undef
 refine Ko (v:=undef) hi hdf (Region.noSelect_spec hs) (fun c a w=>hQ c a d _ w) fuel listed a w (Region.free_spec hi hfr) (by simpa using hr) ?_ ((hw.mono hI).subL hl) (h _ _ hp trivial hw)
 exact .inr ⟨by rw [zch (o:=⟨some d,op,ty,pos,af,some (j,want)⟩) rfl hj hd ha hlk hu],rfl⟩
theorem zW (i dj:Nat){j fuel:Nat}{want:Bool}{oj:Oper}{listed:Array Bool}{op:Op}{u:Value}(hI:HLe I0 I)(h:XD C Q ops I0 loc0 fuel (listed.setIfInBounds i true) [] ((d,undef)::E) I loc)(hi:ops[i]? =some ⟨some d,op,ty,pos,af,some (j,want)⟩:=by exact rfl)(hj:ops[j]? =some oj:=by exact rfl)(hd:oj.dst=some dj:=by exact rfl)(hlk:VG E dj=some u:=by exact rfl)(hu:zkV u want=true:=by exact rfl)
  (hdf:∀ c,op≠ .defer c:=by (intro c e;cases e))(hN:Nat.blt d C.N=true:=by exact rfl)(hs:Region.noSelect ops=true:=by kernel_rfl)(hfr:Region.free .any ops listed i=true:=by kernel_rfl)(hr:(Region.ready .any ops listed).contains i=true:=by kernel_rfl)(hQ:K8 Q:=by exact zjT)(hl:Kl loc0 loc:=by repeat (first | exact .refl | exact UP | refine .keep ?_ | refine .drop ?_ | refine Z2 ?_)):XD C Q ops I0 loc0 (fuel+1) listed [] E I loc:=zl2 i hi hj hd hlk hu hdf hN hs hfr hr hQ hI hl h
end
end
end Go.Kn
namespace Go.Proofs.YtodakphagkommaaGreatDoor
section
open Go Go.Kn Go.Proofs
theorem zax:AgT Tryz.prog 65 3:=.of (by kernel_rfl)
theorem K6:ElT Tryz.prog 48 54 14 112:=.of (by kernel_rfl)
theorem XR:zwh Tryz.prog 54 [.int,.int,.int,.int,.int,.int,.int,.int,.int,.int,.int,.int,.int,.int]:=⟨by kernel_rfl,by kernel_rfl,by kernel_rfl,by kernel_rfl⟩
theorem zbm:QX Tryz.prog 65 0 0:=.of (by kernel_rfl)
theorem zfE:QX Tryz.prog 65 1 1:=.of (by kernel_rfl)
theorem zc6:Fun Tryz.prog 102:=.of Tryz.func102 (by kernel_rfl) (by kernel_rfl)
theorem zi0:SzT Tryz.prog 65 3:=.of (by kernel_rfl)
theorem zos:Yi Tryz.prog 65 (.agg #[(.int .i64 0),(.int .i64 0),(.slice none 0 0)]):=.of (by kernel_rfl)
theorem zsy {I:Qu}{av:Option Addr}{n c:Nat}{xs:List Wr}(hW:SlW I av n c xs)(hn:n≤100000):Zx Tryz.prog 58 [.slice av n c] I (.int .i64 (WP xs)):=by
 intro g H w hw
 refine qe Tryz.func58 Tryz.ntmps58 hw ?_
 have hIc:=zxQ I
 obtain ⟨ws,hW⟩:=hW
 have hH:=hW.1
 have hlW:=hW.len
 refine zR (zA (zN (Ql (zR ?_))))
 refine zM ?_
 refine zQ Vi ?_
 refine zC (zN ?_)
 refine zI ?_ ?_<;>intro hc12
 ·
  have h1:xs.length>24:=by rw [hlW];simp at hc12;omega
  refine zR (zA (zN (Qt (Qc ?_))))
  exact zp hIc rfl rfl (by rw [ztB h1])
 have h1:¬xs.length>24:=by rw [hlW];simp at hc12;omega
 refine Qo (Qa (Ql (zR (zM ?_))))
 refine zQ Vi ?_
 refine zM (zN (Qm ?_))
 refine zU [(0,_),(13,_),(14,_)] (fun T L0 mz E I' loc'=>∃ (k:Nat),mz=n-k∧E=(15,.int .i64 k)::T∧I=I'∧L0=loc'∧k≤n∧(xs.take k).any (fun x=>decide (x.rs.length>64))=false) ?_ (h:=⟨0,rfl,rfl,rfl,rfl,Nat.zero_le _,rfl⟩)
 rintro mz E I' loc' ⟨k,rfl,rfl,rfl,rfl,hk,hno⟩
 refine zR (zC (zN (Ql ?_)))
 refine zI ?_ ?_<;>intro hc16
 ·
  have hlt_k:k<n:=by have h:=hc16;simp at h;omega
  obtain ⟨w,x,hx,hv,e1,e2,hR⟩:=hW.at hlt_k
  refine Qo (Qa (Ql (Qm (zR ?_))))
  refine zV (zX Vi hH) ?_
  refine zV (Qp rfl zax (fun hg=>by exact zxR hH hx) rfl) ?_
  refine Qs zos rfl rfl (fun b_4=>?_)
  refine zh zi0 ?_
  refine zN (zR ?_)
  refine zF UQ ?_
  refine zL zcq ?_
  refine zQ XM ?_
  refine zC (zN ?_)
  refine zI ?_ ?_<;>intro hc22
  ·
   have h2:xs.any (fun x=>decide (x.rs.length>64))=true:=JZ hv (by rw [hR.len];have h:=hc22;simp at h ⊢;omega)
   refine zR (zA (zN (Qt (Qn (Qc (Qc (Qn ?_)))))))
   refine Qc ?_
   exact zp hIc rfl rfl (by rw [ztH h1 h2])
  refine Qo (Qh (Qa (Qg (zB ?_))))
  refine zM (Qb ?_)
  exact zm (h:=⟨n-(k+1),by omega,k+1,rfl,rfl,rfl,rfl,by omega,YW hv hno (by rw [hR.len];have h:=hc22;simp at h ⊢;omega)⟩)
 have hge_k:n≤k:=by have h:=hc16;simp at h;omega
 rw [ZE hlW hge_k] at hno
 refine QI (Qf (Qf (Qk (Qa (zR (zA (zN ?_)))))))
 refine Ql (zR (zM ?_))
 refine zQ Vi ?_
 refine zM (zN (Qm ?_))
 refine zU [(24,_),(25,_)] (fun T L0 mz E I' loc'=>∃ (k:Nat) (l:Int),mz=n-k∧E=(5,.int .i64 l)::(26,.int .i64 k)::T∧HLe I I'∧L0=loc'∧k≤n∧U0 0 xs=U0 l (xs.drop k)) ?_ (h:=⟨0,0,rfl,rfl,zxQ _,rfl,Nat.zero_le _,rfl⟩)
 rintro mz E J2 loc' ⟨k,l,rfl,rfl,hJ,rfl,hk,hgo⟩
 have hW:=hW.mono hJ;have hH:=hH.mono hJ;have hIc:=hIc.trans hJ
 have hB2:=hJ
 refine zR (zC (zN (Ql ?_)))
 refine zI ?_ ?_<;>intro hc27
 ·
  have hlt_k:k<n:=by have h:=hc27;simp at h;omega
  obtain ⟨w,x,hx,hv,e1,e2,hR⟩:=hW.at hlt_k
  have hrn:=hR.len
  have hR64:w.n≤64:=by have:=List.any_eq_false.1 hno x (List.mem_of_getElem? hv);simp at this;omega
  refine Qo (Qa (Ql (Qm (zR ?_))))
  refine zV (zX Vi hH) ?_
  refine zV (Qp rfl zax (fun hg=>by exact zxR hH hx) rfl) ?_
  refine Qs zos rfl rfl (fun b_7=>?_)
  refine zh zi0 ?_
  refine zN (Ql (zR ?_))
  refine zF zbm ?_
  refine zL Qr ?_
  refine zM ?_
  refine zC ?_
  refine zM ?_
  refine Q2 4 rfl rfl rfl ?_
  refine zJ (Qe rfl zbm) ?_
  refine zJ (Qd rfl Qr (fun hg=>by exact QS.h0 rfl)) ?_
  refine zJ (QH rfl rfl rfl) ?_
  refine Zz rfl rfl rfl rfl rfl ?_
  refine zM ?_
  refine Q2 9 rfl rfl rfl ?_
  refine zJ (Qe rfl zfE) ?_
  refine zJ (Qd rfl Qr (fun hg=>by exact QS.h0 rfl)) ?_
  refine zJ (QH rfl rfl rfl) ?_
  refine Zz rfl rfl rfl rfl rfl ?_
  refine zM ?_
  refine Q2 14 rfl rfl rfl ?_
  refine zJ (Qe rfl zfE) ?_
  refine zJ (Qd rfl Qr (fun hg=>by exact QS.h0 rfl)) ?_
  refine zJ (QH rfl rfl rfl) ?_
  refine Zz rfl rfl rfl rfl rfl ?_
  refine zN ?_
  refine zI ?_ ?_<;>intro hc48
  ·
   have hbw:znu l x=true:=by unfold znu;rw [←e1,←e2];exact hc48
   refine zR (zA (zN (Qt (Qc (Qn (Qc (Qc ?_)))))))
   refine Qn (Qc ?_)
   exact zp hIc rfl rfl (by rw [zeZ h1 hno (hgo.trans (zgN hv hbw))])
  have hbw:znu l x=false:=by unfold znu;rw [←e1,←e2];exact hc48
  refine Qo (Qa (zR ?_))
  refine zF zbm ?_
  refine zL Qr ?_
  refine zA ?_
  refine zN (zR ?_)
  refine zF UQ ?_
  refine zL zcq ?_
  refine zQ XM ?_
  refine zM (zN (Qm ?_))
  refine zU [(5,_),(24,_),(25,_),(26,_),(52,_),(53,_)] (fun T L0 mz E I' loc'=>∃ (j:Nat),mz=w.n-j∧E=(54,.int .i64 j)::T∧HLe J2 I'∧[(b_7,.cells (znv w).toArray 65 (0,0))]=loc'∧j≤w.n∧(x.rs.take j).any zgg=false) ?_ (h:=⟨0,rfl,rfl,zxQ _,rfl,Nat.zero_le _,rfl⟩)
  rintro mz E J3 loc' ⟨j,rfl,rfl,hJ,rfl,hj,hnr⟩
  have hR:=hR.mono hJ;have hIc:=hIc.trans hJ;have hB2:=hB2.trans hJ
  have hB4:=hJ
  refine zR (zC (zN (Ql ?_)))
  refine zI ?_ ?_<;>intro hc55
  ·
   have hlt_j:j<w.n:=by have h:=hc55;simp at h;omega
   obtain ⟨r,hr⟩:=hR.at hlt_j
   refine Qo (Qa (Ql (Qm (zR ?_))))
   refine zV (zX XM hR) ?_
   refine zV (Qp rfl zeA (fun hg=>by exact zxR hR hr) rfl) ?_
   refine Qs zk2 rfl rfl (fun b_9=>?_)
   refine zh ze0 ?_
   refine zN (Ql ?_)
   obtain ⟨hlo,hz⟩ | ⟨hlo,hz⟩ | ⟨hlo,hz⟩ | ⟨hlo,hz⟩:=zkA r
   ·
    have hbr:=zny hlo true hz
    refine Qg ?_
    refine zF VS ?_
    refine zL zbS ?_
    rw [hlo]
    refine zM ?_
    refine QM (dj:=60) rfl rfl rfl ?_
    refine zF Jq ?_
    refine QM (dj:=60) rfl rfl rfl ?_
    refine zV (Qp rfl ZL (fun hg=>by exact Cells.s0 (vs:=[_,_,_,_,_,_,_,_,_,_,_,_,_,_]) rfl) rfl) ?_
    refine QM (dj:=60) rfl rfl rfl ?_
    refine zV (QR (ps:=[]) [_,_,_,_,_,_,_,_,_,_,_,_,_,_] UZ rfl rfl) ?_
    refine QM (dj:=60) rfl rfl rfl ?_
    refine zV (v:=.bool (!zah r.sg Y6)) (zh6 rfl rfl XR rfl) ?_
    rw [hz]
    refine zV (ZJ rfl rfl rfl) ?_
    refine zM ?_
    refine QU (dj:=66) rfl rfl rfl rfl rfl ?_
    refine QU (dj:=66) rfl rfl rfl rfl rfl ?_
    refine QU (dj:=66) rfl rfl rfl rfl rfl ?_
    refine QU (dj:=66) rfl rfl rfl rfl rfl ?_
    refine QU (dj:=70) rfl rfl rfl rfl rfl ?_
    refine QU (dj:=70) rfl rfl rfl rfl rfl ?_
    refine QU (dj:=70) rfl rfl rfl rfl rfl ?_
    refine QU (dj:=70) rfl rfl rfl rfl rfl ?_
    refine QU (dj:=70) rfl rfl rfl rfl rfl ?_
    refine QU (dj:=75) rfl rfl rfl rfl rfl ?_
    refine QU (dj:=75) rfl rfl rfl rfl rfl ?_
    refine QU (dj:=75) rfl rfl rfl rfl rfl ?_
    refine QU (dj:=75) rfl rfl rfl rfl rfl ?_
    refine QU (dj:=75) rfl rfl rfl rfl rfl ?_
    refine QU (dj:=70) rfl rfl rfl rfl rfl ?_
    refine QU (dj:=66) rfl rfl rfl rfl rfl ?_
    refine zV (YT rfl rfl rfl) ?_
    refine zN ?_
    refine zI ?_ ?_<;>intro hc83
    ·
     refine zR (zA (zN (Qt (Qn (Qc (Qc (Qn ?_)))))))
     refine Qn (Qc (Qc (Qn (Qc ?_))))
     exact zp hIc rfl rfl (by rw [zeZ h1 hno (hgo.trans (zbr hv hr hbr))])
    cases hc83
   ·
    have hbr:=zny hlo false hz
    refine Qg ?_
    refine zF VS ?_
    refine zL zbS ?_
    rw [hlo]
    refine zM ?_
    refine QM (dj:=60) rfl rfl rfl ?_
    refine zF Jq ?_
    refine QM (dj:=60) rfl rfl rfl ?_
    refine zV (Qp rfl ZL (fun hg=>by exact Cells.s0 (vs:=[_,_,_,_,_,_,_,_,_,_,_,_,_,_]) rfl) rfl) ?_
    refine QM (dj:=60) rfl rfl rfl ?_
    refine zV (QR (ps:=[]) [_,_,_,_,_,_,_,_,_,_,_,_,_,_] UZ rfl rfl) ?_
    refine QM (dj:=60) rfl rfl rfl ?_
    refine zV (v:=.bool (!zah r.sg Y6)) (zh6 rfl rfl XR rfl) ?_
    rw [hz]
    refine zV (ZJ rfl rfl rfl) ?_
    refine zM ?_
    refine QM (dj:=66) rfl rfl rfl ?_
    refine zF VS ?_
    refine QM (dj:=66) rfl rfl rfl ?_
    refine zL zbS ?_
    rw [hlo]
    refine QM (dj:=66) rfl rfl rfl ?_
    refine zO ?_
    refine QM (dj:=66) rfl rfl rfl ?_
    refine zM ?_
    refine QU (dj:=70) rfl rfl rfl rfl rfl ?_
    refine QU (dj:=70) rfl rfl rfl rfl rfl ?_
    refine QU (dj:=70) rfl rfl rfl rfl rfl ?_
    refine QU (dj:=70) rfl rfl rfl rfl rfl ?_
    refine QU (dj:=70) rfl rfl rfl rfl rfl ?_
    refine QU (dj:=75) rfl rfl rfl rfl rfl ?_
    refine QU (dj:=75) rfl rfl rfl rfl rfl ?_
    refine QU (dj:=75) rfl rfl rfl rfl rfl ?_
    refine QU (dj:=75) rfl rfl rfl rfl rfl ?_
    refine QU (dj:=75) rfl rfl rfl rfl rfl ?_
    refine QU (dj:=70) rfl rfl rfl rfl rfl ?_
    refine QM (dj:=66) rfl rfl rfl ?_
    refine zV (YT rfl rfl rfl) ?_
    refine zV (ZJ rfl rfl rfl) ?_
    refine zN ?_
    refine zI ?_ ?_<;>intro hc83
    ·
     cases hc83
    refine Qo (Qh (Qa (Qg (zB ?_))))
    refine zM (Qb ?_)
    exact zm (h:=⟨w.n-(j+1),by omega,j+1,rfl,rfl,hB4,rfl,by omega,YW hr hnr hbr⟩)
   ·
    have hbr:=zuW hlo hz
    refine Qg ?_
    refine zF VS ?_
    refine zL zbS ?_
    rw [hlo]
    refine zM ?_
    refine QU (dj:=60) rfl rfl rfl rfl rfl ?_
    refine QU (dj:=60) rfl rfl rfl rfl rfl ?_
    refine QU (dj:=60) rfl rfl rfl rfl rfl ?_
    refine QU (dj:=60) rfl rfl rfl rfl rfl ?_
    refine zV (YT rfl rfl rfl) ?_
    refine zM ?_
    refine QM (dj:=66) rfl rfl rfl ?_
    refine zF VS ?_
    refine QM (dj:=66) rfl rfl rfl ?_
    refine zL zbS ?_
    rw [hlo]
    refine QM (dj:=66) rfl rfl rfl ?_
    refine zO ?_
    refine QM (dj:=66) rfl rfl rfl ?_
    refine zM ?_
    refine QM (dj:=70) rfl rfl rfl ?_
    refine zF Jq ?_
    refine QM (dj:=70) rfl rfl rfl ?_
    refine zF Z3 ?_
    refine QM (dj:=70) rfl rfl rfl ?_
    refine zL Qr ?_
    refine QM (dj:=70) rfl rfl rfl ?_
    refine zC ?_
    rw [hz]
    refine QM (dj:=70) rfl rfl rfl ?_
    refine zM ?_
    refine QU (dj:=75) rfl rfl rfl rfl rfl ?_
    refine QU (dj:=75) rfl rfl rfl rfl rfl ?_
    refine QU (dj:=75) rfl rfl rfl rfl rfl ?_
    refine QU (dj:=75) rfl rfl rfl rfl rfl ?_
    refine QU (dj:=75) rfl rfl rfl rfl rfl ?_
    refine QM (dj:=70) rfl rfl rfl ?_
    refine zV (YT rfl rfl rfl) ?_
    refine QM (dj:=66) rfl rfl rfl ?_
    refine zV (ZJ rfl rfl rfl) ?_
    refine zV (ZJ rfl rfl rfl) ?_
    refine zN ?_
    refine zI ?_ ?_<;>intro hc83
    ·
     refine zR (zA (zN (Qt (Qn (Qc (Qc (Qn ?_)))))))
     refine Qn (Qc (Qc (Qn (Qc ?_))))
     exact zp hIc rfl rfl (by rw [zeZ h1 hno (hgo.trans (zbr hv hr hbr))])
    cases hc83
   have hbr:=zse hlo hz
   refine Qg ?_
   refine zF VS ?_
   refine zL zbS ?_
   rw [hlo]
   refine zM ?_
   refine QU (dj:=60) rfl rfl rfl rfl rfl ?_
   refine QU (dj:=60) rfl rfl rfl rfl rfl ?_
   refine QU (dj:=60) rfl rfl rfl rfl rfl ?_
   refine QU (dj:=60) rfl rfl rfl rfl rfl ?_
   refine zV (YT rfl rfl rfl) ?_
   refine zM ?_
   refine QM (dj:=66) rfl rfl rfl ?_
   refine zF VS ?_
   refine QM (dj:=66) rfl rfl rfl ?_
   refine zL zbS ?_
   rw [hlo]
   refine QM (dj:=66) rfl rfl rfl ?_
   refine zO ?_
   refine QM (dj:=66) rfl rfl rfl ?_
   refine zM ?_
   refine QM (dj:=70) rfl rfl rfl ?_
   refine zF Jq ?_
   refine QM (dj:=70) rfl rfl rfl ?_
   refine zF Z3 ?_
   refine QM (dj:=70) rfl rfl rfl ?_
   refine zL Qr ?_
   refine QM (dj:=70) rfl rfl rfl ?_
   refine zC ?_
   rw [hz]
   refine QM (dj:=70) rfl rfl rfl ?_
   refine zM ?_
   refine QM (dj:=75) rfl rfl rfl ?_
   refine zF Jq ?_
   refine QM (dj:=75) rfl rfl rfl ?_
   refine zV (Qp rfl ZL (fun hg=>by exact Cells.s0 (vs:=[_,_,_,_,_,_,_,_,_,_,_,_,_,_]) rfl) rfl) ?_
   refine QM (dj:=75) rfl rfl rfl ?_
   refine Qq (ps:=[(0,_)]) (m:=[Vc r.sg]) K6 rfl (.cons rfl (.nil)) rfl (by simp [Z1]) (by decide) (by decide) rfl rfl (fun b_78=>?_)
   refine ZU (b:=b_78) (by repeat (first | exact Q7.here | apply Q7.there)) (fun I4 hI4 hb4=>?_)
   have hIc:=hIc.trans hI4;have hB4:=hB4.trans hI4
   have hSg:Sl I4 14 Vc (some ⟨b_78,0,none⟩) 1 1 [r.sg]:=Sl.lit [r.sg] rfl Z1 (show _=some (Obj.cells ([r.sg].flatMap Vc).toArray 54 (0,0)) from hb4)
   refine QM (dj:=75) rfl rfl rfl ?_
   refine qc (vs:=[_]) rfl zc6 (zfo hSg (by decide)) ?_
   refine QM (dj:=75) rfl rfl rfl ?_
   refine zC ?_
   refine QM (dj:=70) rfl rfl rfl ?_
   refine zV (ZJ rfl rfl rfl) ?_
   refine QM (dj:=66) rfl rfl rfl ?_
   refine zV (ZJ rfl rfl rfl) ?_
   refine zV (ZJ rfl rfl rfl) ?_
   refine zN ?_
   refine zI ?_ ?_<;>intro hc83
   ·
    have hbr:=hbr.trans hc83
    refine zR (zA (zN (Qt (Qn (Qc (Qc (Qn ?_)))))))
    refine Qn (Qc (Qc (Qn (Qc ?_))))
    exact zp hIc rfl rfl (by rw [zeZ h1 hno (hgo.trans (zbr hv hr hbr))])
   have hbr:=hbr.trans hc83
   refine Qo (Qh (Qa (Qg (zB ?_))))
   refine zM (Qb ?_)
   exact zm (h:=⟨w.n-(j+1),by omega,j+1,rfl,rfl,hB4,rfl,by omega,YW hr hnr hbr⟩)
  have hge_j:w.n≤j:=by have h:=hc55;simp at h;omega
  rw [ZE hrn hge_j] at hnr
  refine QI (Qf (Qf (Qk (Qh (Qa (Qg (zB ?_)))))))
  refine zM (Qb ?_)
  exact zm (h:=⟨n-(k+1),by omega,k+1,_,rfl,rfl,hB2,rfl,by omega,by rw [hgo,zfW hv hbw hnr,e1]⟩)
 have hge_k:n≤k:=by have h:=hc27;simp at h;omega
 rw [zjk (by omega)] at hgo
 refine QI (Qf (Qf (Qk (Qa (zR (zA (zN ?_)))))))
 refine Qt ?_
 exact zp hIc rfl rfl (by rw [zru h1 hno hgo])
end
section
open Go Go.Kn Go.Proofs
def lcG:Nat→List Int→List Int→Int
 | _,[],ys=>2*(ys.length:Int)
 | _,x::xs,[]=>2*((x::xs).length:Int)
 | 0,_::_,_::_=>0
 | f+1,x::xs,y::ys=>Kd (Kd (zex x y+lcG f xs ys) (2+lcG f xs (y::ys))) (2+lcG f (x::xs) ys)
theorem VO:∀ (f:Nat) (xs ys:List Int),xs.length+ys.length≤f→lcG f xs ys=lcG (xs.length+ys.length) xs ys
 | _,[],ys,_=>by simp [lcG]
 | _,x::xs,[],_=>by simp [lcG]
 | 0,_::_,_::_,h=>by simp at h
 | f+1,x::xs,y::ys,h=>by
  simp only [List.length_cons] at h
  have e:(x::xs).length+(y::ys).length=(xs.length+ys.length+1)+1:=by simp only [List.length_cons];omega
  rw [e]
  simp only [lcG]
  rw [VO f xs ys (by omega),VO f xs (y::ys) (by simp only [List.length_cons];omega),VO f (x::xs) ys (by simp only [List.length_cons];omega)]
  rw [VO (xs.length+ys.length+1) xs ys (by omega),VO (xs.length+ys.length+1) xs (y::ys) (by simp only [List.length_cons];omega),VO (xs.length+ys.length+1) (x::xs) ys (by simp only [List.length_cons];omega)]
theorem zds (x y:Int):0≤zex x y∧zex x y≤3:=by unfold zex;split<;>omega
theorem zjo {a b:Int}:Kd a b≤a∧Kd a b≤b∧(Kd a b=a∨Kd a b=b):=by unfold Kd;split<;>omega
theorem zeY:∀ (f:Nat) (xs ys:List Int),0≤lcG f xs ys∧lcG f xs ys≤2*((xs.length:Int)+ys.length)
 | _,[],ys=>by simp only [lcG,List.length_nil];omega
 | _,x::xs,[]=>by simp only [lcG,List.length_nil];omega
 | 0,_::_,_::_=>by simp only [lcG];omega
 | f+1,x::xs,y::ys=>by
  have h1:=zeY f xs ys
  have h2:=zeY f xs (y::ys)
  have h3:=zeY f (x::xs) ys
  have hb:=zds x y
  simp only [lcG]
  have m1:=@zjo (zex x y+lcG f xs ys) (2+lcG f xs (y::ys))
  have m2:=@zjo (Kd (zex x y+lcG f xs ys) (2+lcG f xs (y::ys))) (2+lcG f (x::xs) ys)
  simp only [List.length_cons] at*
  omega
def LC (a b:List Int)(i k:Nat):Int:=lcG ((a.drop i).length+(b.drop k).length) (a.drop i) (b.drop k)
theorem zjD {a b:List Int}{i k:Nat}(hi:i≤a.length)(hk:k≤b.length)(h:i=a.length∨k=b.length):LC a b i k=2*((a.length:Int)-i+b.length-k):=by
 unfold LC
 rcases h with rfl | rfl
 ·
  rw [List.drop_length];simp only [lcG,List.length_drop];omega
 ·
  rw [List.drop_length]
  cases h:a.drop i with
  | nil=>have:=congrArg List.length h;simp at this;simp only [lcG,List.length_nil];omega
  | cons x xs=>have:=congrArg List.length h;simp only [List.length_drop] at this;simp only [lcG];omega
theorem zoe {a b:List Int}{i k:Nat}{x y:Int}(hx:a[i]? =some x)(hy:b[k]? =some y):LC a b i k=Kd (Kd (zex x y+LC a b (i+1) (k+1)) (2+LC a b (i+1) k)) (2+LC a b i (k+1)):=by
 unfold LC
 rw [ZY hx,ZY hy]
 have e:(x::a.drop (i+1)).length+(y::b.drop (k+1)).length=((a.drop (i+1)).length+(b.drop (k+1)).length+1)+1:=by simp only [List.length_cons];omega
 rw [e]
 simp only [lcG]
 rw [VO (_+1) (a.drop (i+1)) (b.drop (k+1)) (by omega),VO (_+1) (a.drop (i+1)) (y::b.drop (k+1)) (by simp only [List.length_cons];omega),VO (_+1) (x::a.drop (i+1)) (b.drop (k+1)) (by simp only [List.length_cons];omega)]
theorem zvR (a b:List Int)(i k:Nat):0≤LC a b i k∧LC a b i k≤2*((a.length:Int)+b.length):=by
 have h:=zeY ((a.drop i).length+(b.drop k).length) (a.drop i) (b.drop k)
 unfold LC
 simp only [List.length_drop] at*
 omega
def UX (a b:List Int)(i k:Nat)(v:Int):Prop:=v=LC a b i k
theorem UX.inn {a b:List Int}{i k:Nat}{v:Int}(h:UX a b i k v):0≤v∧v≤2*((a.length:Int)+b.length):=by unfold UX at h;rw [h];exact zvR a b i k
theorem UX.fin {a b:List Int}{i k:Nat}(hi:i≤a.length)(hk:k≤b.length)(h:i=a.length∨k=b.length):UX a b i k (2*((a.length:Int)-i+b.length-k)):=(zjD hi hk h).symm
theorem UX.step {a b:List Int}{i k:Nat}{x y A B C:Int}(hx:a[i]? =some x)(hy:b[k]? =some y)(hA:UX a b (i+1) (k+1) A)(hB:UX a b (i+1) k B)(hC:UX a b i (k+1) C):UX a b i k (Kd (Kd (zex x y+A) (2+B)) (2+C)):=by
 unfold UX at*;rw [zoe hx hy,hA,hB,hC]
def MOK (a b:List Int)(m:List ((Int×Int)×Int)):Prop:=∀ (i k:Nat) (v:Int),Zs m ((i:Int),(k:Int))=some v→UX a b i k v
theorem MOK.nil {a b:List Int}:MOK a b []:=fun _ _ _ h=>by cases h
theorem MOK.set {a b:List Int}{m:List ((Int×Int)×Int)}(h:MOK a b m){i k:Nat}{v:Int}(hv:UX a b i k v):MOK a b (Yp m ((i:Int),(k:Int)) v):=fun i' k' v' e=>by
 rw [Yx] at e
 split at e
 ·
  rename_i h2
  simp only [Prod.mk.injEq] at h2
  obtain ⟨rfl,rfl⟩:i=i'∧k=k':=by omega
  cases e;exact hv
 ·
  exact h i' k' v' e
structure LsE (I:Qu)(fid ba bb bk bs r:Nat)(av bv:Option Addr)(n c n2 c2:Nat)(xs ys:List Int):Prop where
 a:QS I [] ba 0 (.slice av n c)
 b:QS I [] bb 0 (.slice bv n2 c2)
 kn:QS I [] bk 0 (.map (some r))
 se:QS I [] bs 0 (.func (.func fid) #[] #[Za ba,Za bb,Za bk,Za bs])
 hA:Sl I 1 QQ av n c xs
 hB:Sl I 1 QQ bv n2 c2 ys
theorem LsE.mono {I I':Qu}{fid ba bb bk bs r:Nat}{av bv:Option Addr}{n c n2 c2:Nat}{xs ys:List Int}(h:LsE I fid ba bb bk bs r av bv n c n2 c2 xs ys)(hI:HLe I I'):LsE I' fid ba bb bk bs r av bv n c n2 c2 xs ys:=
 ⟨h.a.mono hI,h.b.mono hI,h.kn.mono hI,h.se.mono hI,h.hA.mono hI,h.hB.mono hI⟩
def zbX:Int→Value:=Value.int .i64
/-! ### The pairs -/
def VN (p:Int×Int):List Value:=[.int .i64 p.1,.int .i64 p.2]
theorem JX (p:Int×Int):(VN p).length=2:=rfl
theorem zf4 (xs:List (Int×Int)):Yr (xs.flatMap VN)=true:=Yh (fun _=>rfl) xs
def WV (a b:List Int)(i k:Nat):Bool:=decide (i<a.length)&&decide (k<b.length)&&(LC a b i k==zex (a.getD i 0) (b.getD k 0)+LC a b (i+1) (k+1))
def zgq (a b:List Int)(i k:Nat):Bool:=decide (i<a.length)&&(LC a b i k==2+LC a b (i+1) k)
def paF (a b:List Int):Nat→Nat→Nat→List (Int×Int)
 | 0,_,_=>[]
 | f+1,i,k=>
  if (decide (i<a.length)||decide (k<b.length))=true then
   if WV a b i k=true then (((i+1:Nat):Int),((k+1:Nat):Int))::paF a b f (i+1) (k+1)
   else if zgq a b i k=true then (((i+1:Nat):Int),0)::paF a b f (i+1) k
   else (0,((k+1:Nat):Int))::paF a b f i (k+1)
  else []
def PaQ (a b:List Int)(pre:List (Int×Int))(i k:Nat):Prop:=∃ f,a.length-i+(b.length-k)≤f∧paF a b (a.length+b.length) 0 0=pre++paF a b f i k
theorem PaQ.start {a b:List Int}:PaQ a b [] 0 0:=⟨a.length+b.length,by omega,rfl⟩
theorem PaQ.fin {a b:List Int}{pre:List (Int×Int)}{i k:Nat}(h:PaQ a b pre i k)(hi:a.length≤i)(hk:b.length≤k):paF a b (a.length+b.length) 0 0=pre:=by
 obtain ⟨f,_,e⟩:=h
 rw [e]
 cases f with
 | zero=>simp [paF]
 | succ f=>unfold paF;rw [if_neg (by simp;omega),List.append_nil]
theorem PaQ.fuel {a b:List Int}{pre:List (Int×Int)}{i k:Nat}(h:PaQ a b pre i k)(hg:i<a.length∨k<b.length):∃ f,a.length-i+(b.length-k)≤f+1∧paF a b (a.length+b.length) 0 0=pre++paF a b (f+1) i k:=by
 obtain ⟨f,hf,e⟩:=h
 cases f with
 | zero=>omega
 | succ f=>exact ⟨f,hf,e⟩
theorem PaQ.both {a b:List Int}{pre:List (Int×Int)}{i k:Nat}(h:PaQ a b pre i k)(hb:WV a b i k=true):PaQ a b (pre++[(((i+1:Nat):Int),((k+1:Nat):Int))]) (i+1) (k+1):=by
 have h1:i<a.length∧k<b.length:=by unfold WV at hb;simp at hb;omega
 obtain ⟨f,hf,e⟩:=h.fuel (.inl h1.1)
 refine ⟨f,by omega,?_⟩
 rw [e]
 show pre++(if (decide (i<a.length)||decide (k<b.length))=true then _ else _)=_
 rw [if_pos (by simp;omega),if_pos hb,List.append_assoc];rfl
theorem PaQ.one {a b:List Int}{pre:List (Int×Int)}{i k:Nat}(h:PaQ a b pre i k)(hb:WV a b i k=false)(ho:zgq a b i k=true):PaQ a b (pre++[(((i+1:Nat):Int),0)]) (i+1) k:=by
 have h1:i<a.length:=by unfold zgq at ho;simp at ho;omega
 obtain ⟨f,hf,e⟩:=h.fuel (.inl h1)
 refine ⟨f,by omega,?_⟩
 rw [e]
 show pre++(if (decide (i<a.length)||decide (k<b.length))=true then _ else _)=_
 rw [if_pos (by simp;omega),if_neg (by rw [hb];decide),if_pos ho,List.append_assoc];rfl
theorem zjI {a b:List Int}{i k:Nat}(hi:i≤a.length)(hk:k≤b.length)(hg:i<a.length∨k<b.length)(_hb:WV a b i k=false)(ho:zgq a b i k=false):k<b.length:=by
 by_cases h:k<b.length
 ·
  exact h
 ·
  have hia:i<a.length:=by omega
  have e1:=zjD (a:=a) (b:=b) hi hk (.inr (by omega))
  have e2:=zjD (a:=a) (b:=b) (i:=i+1) (by omega) hk (.inr (by omega))
  unfold zgq at ho
  simp only [Bool.and_eq_false_iff,decide_eq_false_iff_not,beq_eq_false_iff_ne] at ho
  rcases ho with ho | ho
  ·
   omega
  ·
   omega
theorem PaQ.two {a b:List Int}{pre:List (Int×Int)}{i k:Nat}(h:PaQ a b pre i k)(hg:k<b.length)(hb:WV a b i k=false)(ho:zgq a b i k=false):PaQ a b (pre++[(0,((k+1:Nat):Int))]) i (k+1):=by
 obtain ⟨f,hf,e⟩:=h.fuel (.inr hg)
 refine ⟨f,by omega,?_⟩
 rw [e]
 show pre++(if (decide (i<a.length)||decide (k<b.length))=true then _ else _)=_
 rw [if_pos (by simp;omega),if_neg (by rw [hb];decide),if_neg (by rw [ho];decide),List.append_assoc];rfl
def zkR (a b:List Int):List (Int×Int):=paF a b (a.length+b.length) 0 0
def zdI (c:Int):Bool:=(Ux c != 0)&&(c != 8589934592)
def Xu (a b:List Int):Int:=if a.length>64∨b.length>64 then 2 else if (a.any zdI||b.any zdI)=true then 410 else 0
theorem zlA {i k n m:Nat}(h:i<n∨k<m):(decide ((i:Int)<(n:Int))=true∧decide ((k:Int)<(m:Int))=true∧i<n∧k<m)∨(decide ((i:Int)<(n:Int))=true∧decide ((k:Int)<(m:Int))=false∧i<n∧m≤k)∨(decide ((i:Int)<(n:Int))=false∧decide ((k:Int)<(m:Int))=true∧n≤i∧k<m):=by
 by_cases h1:i<n
 ·
  by_cases h2:k<m
  ·
   exact .inl ⟨decide_eq_true (by omega),decide_eq_true (by omega),h1,h2⟩
  ·
   exact .inr (.inl ⟨decide_eq_true (by omega),decide_eq_false (by omega),h1,by omega⟩)
 ·
  exact .inr (.inr ⟨decide_eq_false (by omega),decide_eq_true (by omega),by omega,by omega⟩)
theorem zeW {a b:List Int}{i k:Nat}{x y V A:Int}{t:Bool}(hx:a[i]? =some x)(hy:b[k]? =some y)(hV:UX a b i k V)(hA:UX a b (i+1) (k+1) A)(h:(V==zex x y+A)=t):WV a b i k=t:=by
 have h1:=(List.getElem?_eq_some_iff.1 hx).1
 have h2:=(List.getElem?_eq_some_iff.1 hy).1
 unfold UX at hV hA
 unfold WV
 rw [QY hx,QY hy,←hV,←hA,h,decide_eq_true h1,decide_eq_true h2];rfl
theorem zfq {a b:List Int}{i k:Nat}(h:a.length≤i∨b.length≤k):WV a b i k=false:=by
 unfold WV
 rcases h with h | h
 ·
  rw [decide_eq_false (show ¬i<a.length by omega)];rfl
 ·
  rw [decide_eq_false (show ¬k<b.length by omega),Bool.and_false];rfl
theorem zbL {a b:List Int}{i k:Nat}{V B:Int}{t:Bool}(hi:i<a.length)(hV:UX a b i k V)(hB:UX a b (i+1) k B)(h:(V==2+B)=t):zgq a b i k=t:=by
 unfold UX at hV hB
 unfold zgq
 rw [←hV,←hB,h,decide_eq_true hi];rfl
theorem zra {a b:List Int}{i k:Nat}(h:a.length≤i):zgq a b i k=false:=by
 unfold zgq
 rw [decide_eq_false (show ¬i<a.length by omega)];rfl
theorem zdS {a b:List Int}(h:a.length>64∨b.length>64):Xu a b=2:=by unfold Xu;rw [if_pos h]
theorem zc5 {a b:List Int}(h:¬(a.length>64∨b.length>64))(h2:(a.any zdI||b.any zdI)=true):Xu a b=410:=by unfold Xu;rw [if_neg h,if_pos h2]
theorem zp1 {a b:List Int}(h:¬(a.length>64∨b.length>64))(h2:(a.any zdI||b.any zdI)=false):Xu a b=0:=by unfold Xu;rw [if_neg h,h2];rfl
def VQ (a b:List Int):List (Int×Int):=if Xu a b≠0 then [] else zkR a b
def zw9 (a b:List Int):Value→Qu→Go.Kn.Loc→Prop:=fun v I' L=>L=[]∧∃ z av c,v= .tuple #[.int .i64 z,.slice av (VQ a b).length c,.int .i64 (Xu a b)]∧Sl I' 2 VN av (VQ a b).length c (VQ a b)
theorem UB {a b:List Int}(h:Xu a b≠0):VQ a b=[]:=by unfold VQ;rw [if_pos h]
theorem zlz {a b:List Int}(h:Xu a b=0):VQ a b=zkR a b:=by unfold VQ;rw [if_neg (by omega)]
theorem zhH {I:Qu}{av bv:Option Addr}{n c n2 c2:Nat}{xs ys:List Int}(hA:Sl I 1 QQ av n c xs)(hB:Sl I 1 QQ bv n2 c2 ys){q:Nat}(hq:q<2):∃ hd zs,([⟨av,n,c⟩,⟨bv,n2,c2⟩]:List Hd)[q]? =some hd∧([xs,ys]:List (List Int))[q]? =some zs∧Sl I 1 QQ hd.a hd.n hd.c zs∧(hd.n=n∨hd.n=n2):=by
 rcases (show q=0∨q=1 by omega) with rfl | rfl
 ·
  exact ⟨_,xs,rfl,rfl,hA,.inl rfl⟩
 ·
  exact ⟨_,ys,rfl,rfl,hB,.inr rfl⟩
end
section
open Go Go.Kn Go.Proofs
theorem KI:Fun Tryz.prog 103:=.of Tryz.func103 (by kernel_rfl) (by kernel_rfl)
theorem ziT:Fun Tryz.prog 104:=.of Tryz.func104 (by kernel_rfl) (by kernel_rfl)
theorem zay:Vx (α:=Int×Int) Tryz.prog 79 YA:=ze4 zci
theorem zg5:MpT Tryz.prog 182 79 3 (.int .i64 0):=⟨by kernel_rfl,.of (by kernel_rfl)⟩
theorem Kx:ScT Tryz.prog 177:=.of (by kernel_rfl)
theorem zhx:ScT Tryz.prog 182:=.of (by kernel_rfl)
set_option maxHeartbeats 1600000 in
theorem zaG {I:Qu} {ba bb bk bs r:Nat} {av bv:Option Addr} {n c n2 c2:Nat} {xs ys:List Int} (hE:(LsE I 103 ba bb bk bs r av bv n c n2 c2 xs ys)) (hn:n≤100000) (hn2:n2≤100000) (i k:Nat) (hi:i≤xs.length) (hk:k≤ys.length) (m1:List ((Int×Int)×Int)) (hm1:MOK xs ys m1) (ihA:∀ (m':List ((Int×Int)×Int)),i<xs.length∧k<ys.length→MOK xs ys m'→Yb Tryz.prog 103 ([.int .i64 ((i:Int)+1),.int .i64 ((k:Int)+1)]++[Za ba,Za bb,Za bk,Za bs]) I [(r,ZM YA zbX m')] (fun v I' L'=>∃ A,UX xs ys (i+1) (k+1) A∧v= .int .i64 A∧I'=I∧∃ m',MOK xs ys m'∧L'=[(r,ZM YA zbX m')])) (ihB:∀ (m':List ((Int×Int)×Int)),i<xs.length∧k<ys.length→MOK xs ys m'→Yb Tryz.prog 103 ([.int .i64 ((i:Int)+1),.int .i64 ((k:Int))]++[Za ba,Za bb,Za bk,Za bs]) I [(r,ZM YA zbX m')] (fun v I' L'=>∃ A,UX xs ys (i+1) (k) A∧v= .int .i64 A∧I'=I∧∃ m',MOK xs ys m'∧L'=[(r,ZM YA zbX m')])) (ihC:∀ (m':List ((Int×Int)×Int)),i<xs.length∧k<ys.length→MOK xs ys m'→Yb Tryz.prog 103 ([.int .i64 ((i:Int)),.int .i64 ((k:Int)+1)]++[Za ba,Za bb,Za bk,Za bs]) I [(r,ZM YA zbX m')] (fun v I' L'=>∃ A,UX xs ys (i) (k+1) A∧v= .int .i64 A∧I'=I∧∃ m',MOK xs ys m'∧L'=[(r,ZM YA zbX m')])):Yb Tryz.prog 103 [.int .i64 i,.int .i64 k,Za ba,Za bb,Za bk,Za bs] I [(r,ZM YA zbX m1)] (fun v I' L'=>∃ A,UX xs ys (i) (k) A∧v= .int .i64 A∧I'=I∧∃ m',MOK xs ys m'∧L'=[(r,ZM YA zbX m')]):=by
 intro g H w hw
 refine qe Tryz.func103 Tryz.ntmps103 hw ?_
 have hAl:=hE.hA.len
 subst hAl
 have hBl:=hE.hB.len
 subst hBl
 refine zR (zA (zN (Ql (zR ?_))))
 refine zM ?_
 refine zV (Qd rfl QK (fun hg=>by exact hE.a.any)) ?_
 refine zQ Qw ?_
 refine zC ?_
 refine zM ?_
 refine Q2 4 rfl rfl rfl ?_
 refine zJ (Qi rfl) ?_
 refine zJ (Qd rfl QK (fun hg=>by exact hE.b.any)) ?_
 refine zJ (Zp rfl Qw) ?_
 refine zJ (QH rfl rfl rfl) ?_
 refine Zz rfl rfl rfl rfl rfl ?_
 refine zN ?_
 refine zI ?_ ?_<;>intro hc20
 ·
  have hend:i=xs.length∨k=ys.length:=by have h:=hc20;simp at h;omega
  refine zR ?_
  refine zV (Qd rfl QK (fun hg=>by exact hE.a.any)) ?_
  refine zQ Qw ?_
  refine zM ?_
  refine zB ?_
  refine zV (Qd rfl QK (fun hg=>by exact hE.b.any)) ?_
  refine zQ Qw ?_
  refine zB ?_
  refine zM ?_
  refine zB ?_
  refine zB ?_
  refine zA (zN (Qt (Qc ?_)))
  exact Zt rfl rfl (fun w hw=>⟨_,_,_,rfl,zxQ _,hw,_,UX.fin hi hk hend,rfl,rfl,m1,hm1,rfl⟩)
 have hlt:i<xs.length∧k<ys.length:=by have h:=hc20;simp at h;omega
 obtain ⟨x,hx⟩:=hE.hA.at hlt.1
 obtain ⟨y,hy⟩:=hE.hB.at hlt.2
 have hbn:=zds x y
 refine Qo (Qa (zR ?_))
 refine zV (Qd rfl zhx (fun hg=>by exact hE.kn.any)) ?_
 refine zM ?_
 refine zM ?_
 refine zV (Zw (ps:=[(0,_),(1,_)]) [_,_] YP Ku rfl rfl) ?_
 refine zV (KA (m:=m1) (ek:=YA) (a:=((i:Int),(k:Int))) zg5 zay rfl rfl (fun _=>(by exact Mem.m0))) ?_
 refine zM ?_
 refine zE ?_
 refine zE ?_
 refine zA ?_
 refine zA (zN (Ql (zR ?_)))
 refine zM ?_
 refine zO (zN ?_)
 refine zI ?_ ?_<;>intro hc40
 ·
  refine Ql ?_
  have hD:=zxQ I
  refine Jn ?_
  refine Z5 I [] mixed ?_
  refine zT 0 rfl (Qd rfl QK (fun hg=>by exact hE.a.any)) hD ?_
  refine zT 1 rfl (Qi rfl) hD ?_
  refine zT 2 rfl (QG rfl rfl Qw hE.hA (fun hg=>by omega)) hD ?_
  refine zT 3 rfl (Qd rfl Qr (fun hg=>by exact zxJ hE.hA hx rfl)) hD ?_
  refine zT 4 rfl (Qd rfl QK (fun hg=>by exact hE.b.any)) hD ?_
  refine zT 5 rfl (Qi rfl) hD ?_
  refine zT 6 rfl (QG rfl rfl Qw hE.hB (fun hg=>by omega)) hD ?_
  refine zT 7 rfl (Qd rfl Qr (fun hg=>by exact zxJ hE.hB hy rfl)) hD ?_
  refine zT 9 rfl (Qd rfl Kx (fun hg=>by exact hE.se.any)) hD ?_
  refine zT 10 rfl (Qi rfl) hD ?_
  refine zT 11 rfl (ZN rfl rfl rfl (fun hg=>by omega)) hD ?_
  refine zT 12 rfl (Qi rfl) hD ?_
  refine zT 13 rfl (ZN rfl rfl rfl (fun hg=>by omega)) hD ?_
  refine zT 16 rfl (Qd rfl Kx (fun hg=>by exact hE.se.any)) hD ?_
  refine zT 17 rfl (Qi rfl) hD ?_
  refine zT 18 rfl (ZN rfl rfl rfl (fun hg=>by omega)) hD ?_
  refine zT 19 rfl (Qi rfl) hD ?_
  refine zT 22 rfl (Qd rfl Kx (fun hg=>by exact hE.se.any)) hD ?_
  refine zT 23 rfl (Qi rfl) hD ?_
  refine zT 24 rfl (Qi rfl) hD ?_
  refine zT 25 rfl (ZN rfl rfl rfl (fun hg=>by omega)) hD ?_
  refine qd 8 rfl ?_
  refine qc (vs:=[_,_]) rfl ziT (zek I _ _) ?_
  refine Qb ?_
  refine zD hD ?_
  refine qd 14 rfl ?_
  refine Qz (cap:=[Za ba,Za bb,Za bk,Za bs]) (vs:=[_,_]) rfl rfl KI QD (ihA m1 hlt hm1) rfl rfl ?_
  rintro vv1 I1 L1 hI1 ⟨VA,hLA,rfl,rfl,m2,hm2,rfl⟩
  have hE:=hE.mono hI1;have hD:=hD.trans hI1
  have hbA:=hLA.inn
  refine Qb ?_
  refine zD hD ?_
  refine zT 15 rfl (ZN rfl rfl rfl (fun hg=>by omega)) hD ?_
  refine qd 20 rfl ?_
  refine Qz (cap:=[Za ba,Za bb,Za bk,Za bs]) (vs:=[_,_]) rfl rfl KI QD (ihB m2 hlt hm2) rfl rfl ?_
  rintro vv2 I2 L2 hI2 ⟨VB,hLB,rfl,rfl,m3,hm3,rfl⟩
  have hE:=hE.mono hI2;have hD:=hD.trans hI2
  have hbB:=hLB.inn
  refine Qb ?_
  refine zD hD ?_
  refine zT 21 rfl (ZN rfl rfl rfl (fun hg=>by omega)) hD ?_
  refine qd 26 rfl ?_
  refine Qz (cap:=[Za ba,Za bb,Za bk,Za bs]) (vs:=[_,_]) rfl rfl KI QD (ihC m3 hlt hm3) rfl rfl ?_
  rintro vv3 I3 L3 hI3 ⟨VC,hLC,rfl,rfl,m4,hm4,rfl⟩
  have hE:=hE.mono hI3;have hD:=hD.trans hI3
  have hbC:=hLC.inn
  refine Qb ?_
  refine zD hD ?_
  refine zT 27 rfl (ZN rfl rfl rfl (fun hg=>by omega)) hD ?_
  refine zT 28 rfl (zol rfl rfl rfl) hD ?_
  refine zT 29 rfl (ZK rfl) hD ?_
  refine QF (by kernel_rfl) ?_
  refine QP ?_
  have hst:=UX.step hx hy hLA hLB hLC
  refine Qa (Qg ?_)
  refine zV (Qd rfl zhx (fun hg=>by exact hE.kn.any)) ?_
  refine zM ?_
  refine zM ?_
  refine zV (Zw (ps:=[(0,_),(1,_)]) [_,_] YP Ku rfl rfl) ?_
  refine zM ?_
  refine Q6 (m:=m4) (ev:=zbX) (ek:=YA) (a:=((i:Int),(k:Int))) (Kd (Kd (zex x y+VA) (2+VB)) (2+VC)) zg5 zay rfl rfl rfl rfl (by repeat (first | exact Upd.here | apply Upd.there | apply QJ)) ?_
  refine zN (zR ?_)
  refine zM ?_
  refine zA (zN (Qt ?_))
  exact Zt rfl rfl (fun w hw=>⟨_,_,_,rfl,zxQ _,hw,_,hst,rfl,rfl,_,hm4.set hst,rfl⟩)
 obtain ⟨v,hv⟩:=Option.isSome_iff_exists.1 (by simpa using hc40)
 have hv2:=hm1 i k v hv
 rw [hv]
 refine Qo (Qa (zR (zM ?_)))
 refine zA (zN (Qt ?_))
 exact Zt rfl rfl (fun w hw=>⟨_,_,_,rfl,zxQ _,hw,_,hv2,rfl,rfl,m1,hm1,rfl⟩)
theorem zdk {I:Qu}{ba bb bk bs r:Nat}{av bv:Option Addr}{n c n2 c2:Nat}{xs ys:List Int}(hE:(LsE I 103 ba bb bk bs r av bv n c n2 c2 xs ys))(hn:n≤100000)(hn2:n2≤100000):∀ (q i k:Nat) (m1:List ((Int×Int)×Int)),xs.length+ys.length≤q+(i+k)→i≤xs.length→k≤ys.length→MOK xs ys m1→Yb Tryz.prog 103 ([.int .i64 i,.int .i64 k]++[Za ba,Za bb,Za bk,Za bs]) I [(r,ZM YA zbX m1)] (fun v I' L'=>∃ A,UX xs ys (i) (k) A∧v= .int .i64 A∧I'=I∧∃ m',MOK xs ys m'∧L'=[(r,ZM YA zbX m')])
 | 0,i,k,m1,hq,hi,hk,hm=>zaG hE hn hn2 i k hi hk m1 hm (fun m' h=>by omega) (fun m' h=>by omega) (fun m' h=>by omega)
 | q+1,i,k,m1,hq,hi,hk,hm=>zaG hE hn hn2 i k hi hk m1 hm (fun m' h hm'=>zdk hE hn hn2 q (i+1) (k+1) m' (by omega) (by omega) (by omega) hm') (fun m' h hm'=>zdk hE hn hn2 q (i+1) k m' (by omega) (by omega) (by omega) hm') (fun m' h hm'=>zdk hE hn hn2 q i (k+1) m' (by omega) (by omega) (by omega) hm')
end
section
open Go Go.Kn Go.Proofs
theorem JH:ElT Tryz.prog 41 79 2 16:=.of (by kernel_rfl)
theorem zjy:Fun Tryz.prog 23:=.of Tryz.func23 (by kernel_rfl) (by kernel_rfl)
theorem zqS:SzT Tryz.prog 177 1:=.of (by kernel_rfl)
theorem zoH:SzT Tryz.prog 182 1:=.of (by kernel_rfl)
theorem zua:Yi Tryz.prog 177 .nilFunc:=.of (by kernel_rfl)
theorem ztC:Yi Tryz.prog 182 (.map none):=.of (by kernel_rfl)
theorem zuy {I:Qu}{ba bb bk bs r:Nat}{av bv:Option Addr}{n c n2 c2:Nat}{xs ys:List Int}(hE:(LsE I 103 ba bb bk bs r av bv n c n2 c2 xs ys))(hn:n≤100000)(hn2:n2≤100000)(i k:Nat)(m1:List ((Int×Int)×Int))(h:i<xs.length∧k<ys.length)(hm:MOK xs ys m1):Yb Tryz.prog 103 ([.int .i64 ((i:Int)+1),.int .i64 ((k:Int)+1)]++[Za ba,Za bb,Za bk,Za bs]) I [(r,ZM YA zbX m1)] (fun v I' L'=>∃ A,UX xs ys (i+1) (k+1) A∧v= .int .i64 A∧I'=I∧∃ m',MOK xs ys m'∧L'=[(r,ZM YA zbX m')]):=zdk hE hn hn2 (xs.length+ys.length) (i+1) (k+1) m1 (by omega) (by omega) (by omega) hm
theorem znx {I:Qu}{ba bb bk bs r:Nat}{av bv:Option Addr}{n c n2 c2:Nat}{xs ys:List Int}(hE:(LsE I 103 ba bb bk bs r av bv n c n2 c2 xs ys))(hn:n≤100000)(hn2:n2≤100000)(i k:Nat)(m1:List ((Int×Int)×Int))(h:i<xs.length∧k≤ys.length)(hm:MOK xs ys m1):Yb Tryz.prog 103 ([.int .i64 ((i:Int)+1),.int .i64 ((k:Int))]++[Za ba,Za bb,Za bk,Za bs]) I [(r,ZM YA zbX m1)] (fun v I' L'=>∃ A,UX xs ys (i+1) (k) A∧v= .int .i64 A∧I'=I∧∃ m',MOK xs ys m'∧L'=[(r,ZM YA zbX m')]):=zdk hE hn hn2 (xs.length+ys.length) (i+1) (k) m1 (by omega) (by omega) (by omega) hm
theorem zsl {I:Qu}{ba bb bk bs r:Nat}{av bv:Option Addr}{n c n2 c2:Nat}{xs ys:List Int}(hE:(LsE I 103 ba bb bk bs r av bv n c n2 c2 xs ys))(hn:n≤100000)(hn2:n2≤100000)(_i _k:Nat)(m1:List ((Int×Int)×Int))(_h:True)(hm:MOK xs ys m1):Yb Tryz.prog 103 ([.int .i64 (0),.int .i64 (0)]++[Za ba,Za bb,Za bk,Za bs]) I [(r,ZM YA zbX m1)] (fun v I' L'=>∃ A,UX xs ys (0) (0) A∧v= .int .i64 A∧I'=I∧∃ m',MOK xs ys m'∧L'=[(r,ZM YA zbX m')]):=zdk hE hn hn2 (xs.length+ys.length) (0) (0) m1 (by omega) (by omega) (by omega) hm
set_option maxHeartbeats 1600000 in
theorem zrO {I:Qu} {av:Option Addr} {n c:Nat} {xs:List Int} (hA:Sl I 1 QQ av n c xs) {bv:Option Addr} {n2 c2:Nat} {ys:List Int} (hB:Sl I 1 QQ bv n2 c2 ys) (hnn:n≤1000000) (hnn2:n2≤1000000):Yb Tryz.prog 60 [.slice av n c,.slice bv n2 c2] I [] (zw9 xs ys):=by
 intro g H w hw
 refine qe Tryz.func60 Tryz.ntmps60 hw ?_
 have hIc:=zxQ I
 have hlA:=hA.len
 subst hlA
 have hlB:=hB.len
 subst hlB
 refine zR ?_
 refine Q5 rfl rfl rfl (fun b_2=>?_)
 refine Q5 rfl rfl rfl (fun b_3=>?_)
 refine zA ?_
 refine zA ?_
 refine zA (zN (Ql (Ql ?_)))
 refine Vn (fun I1 hI1 hall=>?_)
 have hA:=hA.mono hI1;have hB:=hB.mono hI1;have hIc:=hIc.trans hI1
 have hB2:QS I1 [] b_2 0 (.slice av xs.length c):=.imm (hall _ _ (by repeat (first | exact List.mem_cons_self .. | apply List.mem_cons_of_mem))) rfl
 have hB3:QS I1 [] b_3 0 (.slice bv ys.length c2):=.imm (hall _ _ (by repeat (first | exact List.mem_cons_self .. | apply List.mem_cons_of_mem))) rfl
 refine Qg ?_
 refine zV (Qd rfl QK (fun hg=>by exact hB2.any)) ?_
 refine zQ Qw ?_
 refine zC ?_
 refine zM ?_
 refine Q2 3 rfl rfl rfl ?_
 refine zJ (Qd rfl QK (fun hg=>by exact hB3.any)) ?_
 refine zJ (Zp rfl Qw) ?_
 refine zJ (QH rfl rfl rfl) ?_
 refine Zz rfl rfl rfl rfl rfl ?_
 refine zN ?_
 refine zI ?_ ?_<;>intro hc25
 ·
  have hlong:xs.length>64∨ys.length>64:=by have h:=hc25;simp at h;omega
  refine zR (zA ?_)
  refine zA ?_
  refine zA (zN (Qt (Qc ?_)))
  first
  | exact KD rfl rfl rfl rfl (fun w hw=>⟨_,_,[],rfl,hIc,hw.drop,rfl,_,none,0,by rw [zdS hlong,UB (by rw [zdS hlong];decide)];rfl,by rw [UB (by rw [zdS hlong];decide)];exact .nil⟩)
 have hlong:¬(xs.length>64∨ys.length>64):=by have h:=hc25;simp at h;omega
 refine Qo (Qa (Ql (zR ?_)))
 refine zV (Qd rfl QK (fun hg=>by exact hB2.any)) ?_
 refine zV (Qd rfl QK (fun hg=>by exact hB3.any)) ?_
 refine Qq (ps:=[(0,_),(1,_)]) (m:=[Xc ⟨av,xs.length,c⟩,Xc ⟨bv,ys.length,c2⟩]) zaz rfl (.cons rfl (.cons rfl (.nil))) rfl (by simp [Q9]) (by decide) (by decide) rfl rfl (fun b_28=>?_)
 refine zQ Zk ?_
 refine zM (Qb ?_)
 refine Vn (fun I2 hI2 hall=>?_)
 have hA:=hA.mono hI2;have hB:=hB.mono hI2;have hB2:=hB2.mono hI2;have hB3:=hB3.mono hI2;have hIc:=hIc.trans hI2
 have hAB:Sl I2 1 Xc (some ⟨b_28,0,none⟩) 2 2 ([⟨av,xs.length,c⟩,⟨bv,ys.length,c2⟩]:List Hd):=Sl.lit _ rfl Q9 (show _=some (Obj.cells (([⟨av,xs.length,c⟩,⟨bv,ys.length,c2⟩]:List Hd).flatMap Xc).toArray 23 (0,0)) from (hall _ _ (by repeat (first | exact List.mem_cons_self .. | apply List.mem_cons_of_mem))))
 refine Qa (Qm ?_)
 refine zU [(2,_),(3,_),(28,_),(29,_)] (fun T L0 mz E I' loc'=>∃ (z:Nat),mz=2-z∧E=(5,.slice none 0 0)::(30,.int .i64 z)::T∧I2=I'∧[]=loc'∧z≤2∧([xs,ys].take z).any (fun l=>l.any zdI)=false) ?_ (h:=⟨0,rfl,rfl,rfl,rfl,Nat.zero_le _,rfl⟩)
 rintro mz E I' loc' ⟨z,rfl,rfl,rfl,rfl,hz,hno⟩
 refine zR (zC (zN (Ql ?_)))
 refine zI ?_ ?_<;>intro hc31
 ·
  have hlt_z:z<2:=by have h:=hc31;simp at h;omega
  obtain ⟨hd,zs,hhd,hzs,hZ,hz2⟩:=zhH hA hB hlt_z
  refine Qo (Qa (Ql (Qm (zR ?_))))
  refine zV (zX Zk hAB) ?_
  refine zV (Qd rfl QK (fun hg=>by exact zxJ hAB hhd rfl)) ?_
  refine zA ?_
  refine zN (zR ?_)
  refine zM ?_
  refine zQ Qw ?_
  refine zM (zN (Qm ?_))
  refine zU [(2,_),(3,_),(28,_),(29,_),(30,_),(34,_),(35,_)] (fun T L0 mz E I' loc'=>∃ (j:Nat),mz=hd.n-j∧E=(5,.slice none 0 0)::(36,.int .i64 j)::T∧I2=I'∧[]=loc'∧j≤hd.n∧(zs.take j).any zdI=false) ?_ (h:=⟨0,rfl,rfl,rfl,rfl,Nat.zero_le _,rfl⟩)
  rintro mz E I' loc' ⟨j,rfl,rfl,rfl,rfl,hj,hzb⟩
  refine zR (zC (zN (Ql ?_)))
  refine zI ?_ ?_<;>intro hc37
  ·
   have hlt_j:j<hd.n:=by have h:=hc37;simp at h;omega
   obtain ⟨cc,hz⟩:=hZ.at hlt_j
   refine Qo (Qa (Ql (Qm (zR ?_))))
   refine zV (zX Qw hZ) ?_
   refine zV (Qd rfl Qr (fun hg=>by exact zxJ hZ hz rfl)) ?_
   refine zA ?_
   refine zN (zR ?_)
   refine zM ?_
   refine qc (vs:=[_]) rfl zjy (zjf _ _) ?_
   refine zM ?_
   refine zE ?_
   refine zE ?_
   refine Qs XV rfl rfl (fun b_11=>?_)
   refine zh VK ?_
   refine zA ?_
   refine zN (zR ?_)
   refine zM ?_
   refine zC ?_
   refine zM ?_
   refine QE 2 rfl rfl rfl ?_
   refine zK (Qi rfl) ?_
   refine zK (QH rfl rfl rfl) ?_
   refine QO rfl rfl rfl rfl rfl ?_
   refine zN ?_
   refine zI ?_ ?_<;>intro hc50
   ·
    have hbc:zdI cc=true:=hc50
    have hyes:(xs.any zdI||ys.any zdI)=true:=by have h:=JZ (p:=fun l:List Int=>l.any zdI) hzs (JZ hz hbc);simpa using h
    refine zR (zA ?_)
    refine zA ?_
    refine zA (zN (Qt (Qn (Qc (Qc (Qn (Qn ?_)))))))
    refine Qc (Qc (Qn (Qc ?_)))
    first
    | exact KD rfl rfl rfl rfl (fun w hw=>⟨_,_,[],rfl,hIc,hw.drop,rfl,_,none,0,by rw [zc5 hlong hyes,UB (by rw [zc5 hlong hyes];decide)];rfl,by rw [UB (by rw [zc5 hlong hyes];decide)];exact .nil⟩)
   have hbc:zdI cc=false:=hc50
   refine Qo (Qh (Qa (Qg (zB ?_))))
   refine zM (Qb ?_)
   exact zm (h:=⟨hd.n-(j+1),by omega,j+1,rfl,rfl,rfl,rfl,by omega,YW hz hzb hbc⟩)
  have hge_j:hd.n≤j:=by have h:=hc37;simp at h;omega
  rw [ZE hZ.len hge_j] at hzb
  refine QI (Qf (Qf (Qk (Qh (Qa (Qg (zB ?_)))))))
  refine zM (Qb ?_)
  exact zm (h:=⟨2-(z+1),by omega,z+1,rfl,rfl,rfl,rfl,by omega,YW hzs hno hzb⟩)
 have hge_z:2≤z:=by have h:=hc31;simp at h;omega
 rw [List.take_of_length_le (by simpa using hge_z)] at hno
 have hno2:(xs.any zdI||ys.any zdI)=false:=by simpa using hno
 refine QI (Qf (Qf (Qk (Qa (zR ?_)))))
 refine ZH rfl rfl (fun r_53=>?_)
 refine Qs ztC rfl rfl (fun b_13=>?_)
 refine zS zoH ?_
 refine zN (zR ?_)
 refine Qs zua rfl rfl (fun b_14=>?_)
 refine zN (zR ?_)
 refine zV (Zc (us:=[]) (vs:=[_,_,_,_]) rfl rfl) ?_
 refine zS zqS ?_
 refine zN (Ql (Ql ?_))
 refine Zg (b:=b_14) (by repeat (first | exact Q7.here | apply Q7.there)) (fun I5 hI5 hb5=>?_)
 have hA:=hA.mono hI5;have hB:=hB.mono hI5;have hB2:=hB2.mono hI5;have hB3:=hB3.mono hI5;have hIc:=hIc.trans hI5
 have hC14:QS I5 [] b_14 0 (.func (.func 103) #[] #[Za b_2,Za b_3,Za b_13,Za b_14]):=.imm hb5 rfl
 refine Zg (b:=b_13) (by repeat (first | exact Q7.here | apply Q7.there)) (fun I6 hI6 hb6=>?_)
 have hA:=hA.mono hI6;have hB:=hB.mono hI6;have hB2:=hB2.mono hI6;have hB3:=hB3.mono hI6;have hC14:=hC14.mono hI6;have hIc:=hIc.trans hI6
 have hC13:QS I6 [] b_13 0 (.map (some r_53)):=.imm hb6 rfl
 have hLE:LsE I6 103 b_2 b_3 b_13 b_14 r_53 av bv xs.length c ys.length c2 xs ys:=⟨hB2,hB3,hC13,hC14,hA,hB⟩
 refine Qg (zA ?_)
 refine zA (zN (Qm ?_))
 refine zU [(2,_),(3,_),(14,_)] (fun T L0 mz E I' loc'=>∃ (i k:Nat) (m:List ((Int×Int)×Int)) (pre:List (Int×Int)) (v5:Value) (q:Nat) (L:Go.Kn.Loc),mz=xs.length-i+(ys.length-k)∧E=(5,v5)::(15,.int .i64 i)::(16,.int .i64 k)::T∧HLe I6 I'∧L++[(r_53,ZM YA zbX m)]=loc'∧i≤xs.length∧k≤ys.length∧MOK xs ys m∧PaQ xs ys pre i k∧OwnS 79 2 v5 q (pre.flatMap VN) L∧q≤i+k) ?_ (h:=⟨0,0,[],[],_,0,[],rfl,rfl,zxQ _,rfl,Nat.zero_le _,Nat.zero_le _,.nil,.start,OwnS.nil,Nat.le_refl _⟩)
 rintro mz E J7 loc' ⟨i,k,m,pre,v5,q,L,rfl,rfl,hJ,rfl,hi,hk,hm,hpq,hO,hq⟩
 have hB2:=hB2.mono hJ;have hB3:=hB3.mono hJ;have hLE:=hLE.mono hJ;have hIc:=hIc.trans hJ
 have hB4:=hJ
 refine Ql (zR (zM ?_))
 refine zV (Qd rfl QK (fun hg=>by exact hB2.any)) ?_
 refine zQ Qw ?_
 refine zC ?_
 refine zM ?_
 refine Q2 4 rfl rfl rfl ?_
 refine zJ (Qi rfl) ?_
 refine zJ (Qd rfl QK (fun hg=>by exact hB3.any)) ?_
 refine zJ (Zp rfl Qw) ?_
 refine zJ (QH rfl rfl rfl) ?_
 refine Zz rfl rfl rfl rfl rfl ?_
 refine zN ?_
 refine zI ?_ ?_<;>intro hc64
 ·
  have hor:i<xs.length∨k<ys.length:=by have h:=hc64;simp at h;omega
  refine Qo (Qa (Qm (zR ?_)))
  refine zV (Qd rfl Kx (fun hg=>by exact hLE.se.any)) ?_
  refine zM ?_
  refine zM ?_
  refine Qz (cap:=[Za b_2,Za b_3,Za b_13,Za b_14]) (vs:=[_,_]) rfl rfl KI (by repeat (first | exact .cons .here .nil | exact QD | exact Qx | apply QC | apply QB)) (zdk hLE (by omega) (by omega) (xs.length+ys.length) i k m (by omega) hi hk hm) rfl rfl ?_
  rintro vv8 I8 L8 hI8 ⟨VV,hLV,rfl,rfl,m1,hm1,rfl⟩
  have hB2:=hB2.mono hI8;have hB3:=hB3.mono hI8;have hLE:=hLE.mono hI8;have hLE:=hLE.mono hI8;have hB4:=hB4.trans hI8
  have hbV:=hLV.inn
  refine zA (zN (Qm (Ql ?_)))
  obtain ⟨hd1,hd2,h5,h6⟩ | ⟨hd1,hd2,h5,h6⟩ | ⟨hd1,hd2,h5,h6⟩:=zlA hor
  ·
   obtain ⟨x,hx⟩:=hLE.hA.at h5
   obtain ⟨y,hy⟩:=hLE.hB.at h6
   have hbn:=zds x y
   have hD:=zxQ I8
   refine Jn ?_
   refine Z5 I8 [] mixed ?_
   refine zT 0 rfl (Qi rfl) hD ?_
   refine zT 1 rfl (Qd rfl QK (fun hg=>by exact hB2.any)) hD ?_
   refine zT 2 rfl (Zp rfl Qw) hD ?_
   refine zT 3 rfl (QH rfl rfl rfl) hD ?_
   rw [hd1]
   refine zT 4 rfl (Qi rfl) hD ?_
   refine zw 5 81 rfl (Qi rfl) hD ?_
   refine zw 6 81 rfl (Qd rfl QK (fun hg=>by exact hB3.any)) hD ?_
   refine zw 7 81 rfl (Zp rfl Qw) hD ?_
   refine zw 8 81 rfl (QH rfl rfl rfl) hD ?_
   rw [hd2]
   refine zT 9 rfl (ZJ rfl rfl rfl) hD ?_
   refine zT 10 rfl (Qi rfl) hD ?_
   refine zw 11 87 rfl (Qi rfl) hD ?_
   refine zw 12 87 rfl (Qd rfl QK (fun hg=>by exact hB2.any)) hD ?_
   refine zw 13 87 rfl (Qi rfl) hD ?_
   refine zw 14 87 rfl (QG rfl rfl Qw hLE.hA (fun hg=>by omega)) hD ?_
   refine zw 15 87 rfl (Qd rfl Qr (fun hg=>by exact zxJ hLE.hA hx rfl)) hD ?_
   refine zw 16 87 rfl (Qd rfl QK (fun hg=>by exact hB3.any)) hD ?_
   refine zw 17 87 rfl (Qi rfl) hD ?_
   refine zw 18 87 rfl (QG rfl rfl Qw hLE.hB (fun hg=>by omega)) hD ?_
   refine zw 19 87 rfl (Qd rfl Qr (fun hg=>by exact zxJ hLE.hB hy rfl)) hD ?_
   refine zw 21 87 rfl (Qd rfl Kx (fun hg=>by exact hLE.se.any)) hD ?_
   refine zw 22 87 rfl (Qi rfl) hD ?_
   refine zw 23 87 rfl (ZN rfl rfl rfl (fun hg=>by omega)) hD ?_
   refine zw 24 87 rfl (Qi rfl) hD ?_
   refine zw 25 87 rfl (ZN rfl rfl rfl (fun hg=>by omega)) hD ?_
   refine qd 20 rfl ?_
   refine QM (dj:=87) rfl rfl rfl ?_
   refine qc (vs:=[_,_]) rfl ziT (zek _ _ _) ?_
   refine Qb ?_
   refine zD hD ?_
   refine qd 26 rfl ?_
   refine QM (dj:=87) rfl rfl rfl ?_
   refine Qz (cap:=[Za b_2,Za b_3,Za b_13,Za b_14]) (vs:=[_,_]) rfl rfl KI (by repeat (first | exact .cons .here .nil | exact QD | exact Qx | apply QC | apply QB)) (zuy hLE (by omega) (by omega) i k m1 (by omega) hm1) rfl rfl ?_
   rintro vv9 I9 L9 hI9 ⟨VA,hLA,rfl,rfl,m2,hm2,rfl⟩
   have hB2:=hB2.mono hI9;have hLE:=hLE.mono hI9;have hLE:=hLE.mono hI9;have hB4:=hB4.trans hI9;have hD:=hD.trans hI9
   have hbA:=hLA.inn
   refine Qb ?_
   refine zD hD ?_
   refine zw 27 87 rfl (ZN rfl rfl rfl (fun hg=>by omega)) hD ?_
   refine zw 28 87 rfl (QH rfl rfl rfl) hD ?_
   refine zT 29 rfl (ZJ rfl rfl rfl) hD ?_
   refine zT 30 rfl (ZK rfl) hD ?_
   refine QF (by kernel_rfl) ?_
   refine QP ?_
   refine Qa ?_
   refine zI ?_ ?_<;>intro hc76
   ·
    have hbo:=zeW (t:=true) hx hy hLV hLA (by simpa using hc76)
    refine zR (zM ?_)
    refine zB ?_
    refine zM ?_
    refine zB ?_
    refine zA ?_
    refine zA (zN (Qg ?_))
    refine zM ?_
    refine zM ?_
    refine zM ?_
    refine zV (Zw (ps:=[(0,_),(1,_)]) [_,_] YP Ku rfl rfl) ?_
    refine Qq (ps:=[(0,_)]) (m:=[VN ((i:Int)+1,(k:Int)+1)]) JH rfl (.cons rfl (.nil)) rfl (by simp [JX]) (by decide) (by decide) rfl rfl (fun b_115=>?_)
    refine QW (v:=_) (ys:=[((i:Int)+1,(k:Int)+1)].flatMap VN) (L:=L) rfl rfl JH hO (by repeat (first | exact .cons .here .nil | exact QD | exact Qx | apply QC | apply QB)) ⟨rfl,fun _=>rfl,by repeat (first | exact zxO | apply zxN | apply zxP)⟩ (zf4 [((i:Int)+1,(k:Int)+1)]) (by omega) rfl rfl ?_
    intro v9 L9 hO9 _;rw [←List.flatMap_append] at hO9
    refine zA (Qb (Qh (Qh ?_)))
    exact zm (h:=⟨xs.length-(i+1)+(ys.length-(k+1)),by omega,i+1,k+1,_,_,_,_,_,rfl,rfl,hB4,rfl,by omega,by omega,hm2,hpq.both hbo,hO9,by omega⟩)
   have hbo:=zeW (t:=false) hx hy hLV hLA (by simpa using hc76)
   refine zR (zM ?_)
   refine zV (Qd rfl QK (fun hg=>by exact hB2.any)) ?_
   refine zQ Qw ?_
   refine zC ?_
   rw [hd1]
   refine zM ?_
   refine QM (dj:=122) rfl rfl rfl ?_
   refine zM ?_
   refine QM (dj:=122) rfl rfl rfl ?_
   refine zV (Qd rfl Kx (fun hg=>by exact hLE.se.any)) ?_
   refine QM (dj:=122) rfl rfl rfl ?_
   refine zM ?_
   refine QM (dj:=122) rfl rfl rfl ?_
   refine zB ?_
   refine QM (dj:=122) rfl rfl rfl ?_
   refine zM ?_
   refine QM (dj:=122) rfl rfl rfl ?_
   refine Qz (cap:=[Za b_2,Za b_3,Za b_13,Za b_14]) (vs:=[_,_]) rfl rfl KI (by repeat (first | exact .cons .here .nil | exact QD | exact Qx | apply QC | apply QB)) (znx hLE (by omega) (by omega) i k m2 (by omega) hm2) rfl rfl ?_
   rintro vv10 I10 L10 hI10 ⟨VB,hLB,rfl,rfl,m3,hm3,rfl⟩
   have hB4:=hB4.trans hI10
   have hbB:=hLB.inn
   refine QM (dj:=122) rfl rfl rfl ?_
   refine zB ?_
   refine QM (dj:=122) rfl rfl rfl ?_
   refine zC ?_
   refine zV (ZJ rfl rfl rfl) ?_
   refine zA (zN ?_)
   refine zI ?_ ?_<;>intro hc117
   ·
    have hon:=zbL (t:=true) h5 hLV hLB (by simpa using hc117)
    refine zR (zM ?_)
    refine zB ?_
    refine zA (zN (Qg ?_))
    refine zM ?_
    refine zM ?_
    refine zV (Zw (ps:=[(0,_),(1,_)]) [_,_] YP Ku rfl rfl) ?_
    refine Qq (ps:=[(0,_)]) (m:=[VN ((i:Int)+1,(0:Int))]) JH rfl (.cons rfl (.nil)) rfl (by simp [JX]) (by decide) (by decide) rfl rfl (fun b_137=>?_)
    refine QW (v:=_) (ys:=[((i:Int)+1,(0:Int))].flatMap VN) (L:=L) rfl rfl JH hO (by repeat (first | exact .cons .here .nil | exact QD | exact Qx | apply QC | apply QB)) ⟨rfl,fun _=>rfl,by repeat (first | exact zxO | apply zxN | apply zxP)⟩ (zf4 [((i:Int)+1,(0:Int))]) (by omega) rfl rfl ?_
    intro v9 L9 hO9 _;rw [←List.flatMap_append] at hO9
    refine zA (Qb (Qh (Qh ?_)))
    exact zm (h:=⟨xs.length-(i+1)+(ys.length-(k)),by omega,i+1,k,_,_,_,_,_,rfl,rfl,hB4,rfl,by omega,by omega,hm3,hpq.one hbo hon,hO9,by omega⟩)
   have hon:=zbL (t:=false) h5 hLV hLB (by simpa using hc117)
   refine zR (zM ?_)
   refine zB ?_
   refine zA (zN (Qg ?_))
   refine zM ?_
   refine zM ?_
   refine zV (Zw (ps:=[(0,_),(1,_)]) [_,_] YP Ku rfl rfl) ?_
   refine Qq (ps:=[(0,_)]) (m:=[VN ((0:Int),(k:Int)+1)]) JH rfl (.cons rfl (.nil)) rfl (by simp [JX]) (by decide) (by decide) rfl rfl (fun b_74=>?_)
   refine QW (v:=_) (ys:=[((0:Int),(k:Int)+1)].flatMap VN) (L:=L) rfl rfl JH hO (by repeat (first | exact .cons .here .nil | exact QD | exact Qx | apply QC | apply QB)) ⟨rfl,fun _=>rfl,by repeat (first | exact zxO | apply zxN | apply zxP)⟩ (zf4 [((0:Int),(k:Int)+1)]) (by omega) rfl rfl ?_
   intro v9 L9 hO9 _;rw [←List.flatMap_append] at hO9
   refine zA (Qb (Qh (Qh ?_)))
   exact zm (h:=⟨xs.length-(i)+(ys.length-(k+1)),by omega,i,k+1,_,_,_,_,_,rfl,rfl,hB4,rfl,by omega,by omega,hm3,hpq.two h6 hbo hon,hO9,by omega⟩)
  ·
   have hD:=zxQ I8
   refine Jn ?_
   refine Z5 I8 [] mixed ?_
   refine zT 0 rfl (Qi rfl) hD ?_
   refine zT 1 rfl (Qd rfl QK (fun hg=>by exact hB2.any)) hD ?_
   refine zT 2 rfl (Zp rfl Qw) hD ?_
   refine zT 3 rfl (QH rfl rfl rfl) hD ?_
   rw [hd1]
   refine zT 4 rfl (Qi rfl) hD ?_
   refine zw 5 81 rfl (Qi rfl) hD ?_
   refine zw 6 81 rfl (Qd rfl QK (fun hg=>by exact hB3.any)) hD ?_
   refine zw 7 81 rfl (Zp rfl Qw) hD ?_
   refine zw 8 81 rfl (QH rfl rfl rfl) hD ?_
   rw [hd2]
   refine zT 9 rfl (ZJ rfl rfl rfl) hD ?_
   refine zT 10 rfl (Qi rfl) hD ?_
   refine zW 11 87 hD ?_
   refine zW 12 87 hD ?_
   refine zW 13 87 hD ?_
   refine zW 14 87 hD ?_
   refine zW 15 87 hD ?_
   refine zW 16 87 hD ?_
   refine zW 17 87 hD ?_
   refine zW 18 87 hD ?_
   refine zW 19 87 hD ?_
   refine zW 20 87 hD ?_
   refine zW 21 87 hD ?_
   refine zW 22 87 hD ?_
   refine zW 23 87 hD ?_
   refine zW 24 87 hD ?_
   refine zW 25 87 hD ?_
   refine zW 26 87 hD ?_
   refine zW 27 87 hD ?_
   refine zW 28 87 hD ?_
   refine zT 29 rfl (YT rfl rfl rfl) hD ?_
   refine zT 30 rfl (ZK rfl) hD ?_
   refine QF (by kernel_rfl) ?_
   refine QP ?_
   refine Qa ?_
   refine zI ?_ ?_<;>intro hc76
   ·
    cases hc76
   have hbo:=zfq (a:=xs) (b:=ys) (i:=i) (k:=k) (.inr h6)
   refine zR (zM ?_)
   refine zV (Qd rfl QK (fun hg=>by exact hB2.any)) ?_
   refine zQ Qw ?_
   refine zC ?_
   rw [hd1]
   refine zM ?_
   refine QM (dj:=122) rfl rfl rfl ?_
   refine zM ?_
   refine QM (dj:=122) rfl rfl rfl ?_
   refine zV (Qd rfl Kx (fun hg=>by exact hLE.se.any)) ?_
   refine QM (dj:=122) rfl rfl rfl ?_
   refine zM ?_
   refine QM (dj:=122) rfl rfl rfl ?_
   refine zB ?_
   refine QM (dj:=122) rfl rfl rfl ?_
   refine zM ?_
   refine QM (dj:=122) rfl rfl rfl ?_
   refine Qz (cap:=[Za b_2,Za b_3,Za b_13,Za b_14]) (vs:=[_,_]) rfl rfl KI (by repeat (first | exact .cons .here .nil | exact QD | exact Qx | apply QC | apply QB)) (znx hLE (by omega) (by omega) i k m1 (by omega) hm1) rfl rfl ?_
   rintro vv11 I11 L11 hI11 ⟨VB,hLB,rfl,rfl,m3,hm3,rfl⟩
   have hB4:=hB4.trans hI11
   have hbB:=hLB.inn
   refine QM (dj:=122) rfl rfl rfl ?_
   refine zB ?_
   refine QM (dj:=122) rfl rfl rfl ?_
   refine zC ?_
   refine zV (ZJ rfl rfl rfl) ?_
   refine zA (zN ?_)
   refine zI ?_ ?_<;>intro hc117
   ·
    have hon:=zbL (t:=true) h5 hLV hLB (by simpa using hc117)
    refine zR (zM ?_)
    refine zB ?_
    refine zA (zN (Qg ?_))
    refine zM ?_
    refine zM ?_
    refine zV (Zw (ps:=[(0,_),(1,_)]) [_,_] YP Ku rfl rfl) ?_
    refine Qq (ps:=[(0,_)]) (m:=[VN ((i:Int)+1,(0:Int))]) JH rfl (.cons rfl (.nil)) rfl (by simp [JX]) (by decide) (by decide) rfl rfl (fun b_137=>?_)
    refine QW (v:=_) (ys:=[((i:Int)+1,(0:Int))].flatMap VN) (L:=L) rfl rfl JH hO (by repeat (first | exact .cons .here .nil | exact QD | exact Qx | apply QC | apply QB)) ⟨rfl,fun _=>rfl,by repeat (first | exact zxO | apply zxN | apply zxP)⟩ (zf4 [((i:Int)+1,(0:Int))]) (by omega) rfl rfl ?_
    intro v9 L9 hO9 _;rw [←List.flatMap_append] at hO9
    refine zA (Qb (Qh (Qh ?_)))
    exact zm (h:=⟨xs.length-(i+1)+(ys.length-(k)),by omega,i+1,k,_,_,_,_,_,rfl,rfl,hB4,rfl,by omega,by omega,hm3,hpq.one hbo hon,hO9,by omega⟩)
   have hon:=zbL (t:=false) h5 hLV hLB (by simpa using hc117)
   exact absurd (zjI hi hk (.inl h5) hbo hon) (by omega)
  have hD:=zxQ I8
  refine Jn ?_
  refine Z5 I8 [] mixed ?_
  refine zT 0 rfl (Qi rfl) hD ?_
  refine zT 1 rfl (Qd rfl QK (fun hg=>by exact hB2.any)) hD ?_
  refine zT 2 rfl (Zp rfl Qw) hD ?_
  refine zT 3 rfl (QH rfl rfl rfl) hD ?_
  rw [hd1]
  refine zT 4 rfl (Qi rfl) hD ?_
  refine zW 5 81 hD ?_
  refine zW 6 81 hD ?_
  refine zW 7 81 hD ?_
  refine zW 8 81 hD ?_
  refine zT 9 rfl (YT rfl rfl rfl) hD ?_
  refine zT 10 rfl (Qi rfl) hD ?_
  refine zW 11 87 hD ?_
  refine zW 12 87 hD ?_
  refine zW 13 87 hD ?_
  refine zW 14 87 hD ?_
  refine zW 15 87 hD ?_
  refine zW 16 87 hD ?_
  refine zW 17 87 hD ?_
  refine zW 18 87 hD ?_
  refine zW 19 87 hD ?_
  refine zW 20 87 hD ?_
  refine zW 21 87 hD ?_
  refine zW 22 87 hD ?_
  refine zW 23 87 hD ?_
  refine zW 24 87 hD ?_
  refine zW 25 87 hD ?_
  refine zW 26 87 hD ?_
  refine zW 27 87 hD ?_
  refine zW 28 87 hD ?_
  refine zT 29 rfl (YT rfl rfl rfl) hD ?_
  refine zT 30 rfl (ZK rfl) hD ?_
  refine QF (by kernel_rfl) ?_
  refine QP ?_
  refine Qa ?_
  refine zI ?_ ?_<;>intro hc76
  ·
   cases hc76
  have hbo:=zfq (a:=xs) (b:=ys) (i:=i) (k:=k) (.inl h5)
  refine zR (zM ?_)
  refine zV (Qd rfl QK (fun hg=>by exact hB2.any)) ?_
  refine zQ Qw ?_
  refine zC ?_
  rw [hd1]
  refine zM ?_
  refine QU (dj:=122) rfl rfl rfl rfl rfl ?_
  refine QU (dj:=122) rfl rfl rfl rfl rfl ?_
  refine QU (dj:=122) rfl rfl rfl rfl rfl ?_
  refine QU (dj:=122) rfl rfl rfl rfl rfl ?_
  refine QU (dj:=122) rfl rfl rfl rfl rfl ?_
  refine QU (dj:=122) rfl rfl rfl rfl rfl ?_
  refine QU (dj:=122) rfl rfl rfl rfl rfl ?_
  refine QU (dj:=122) rfl rfl rfl rfl rfl ?_
  refine zV (YT rfl rfl rfl) ?_
  refine zA (zN ?_)
  refine zI ?_ ?_<;>intro hc117
  ·
   cases hc117
  have hon:=zra (a:=xs) (b:=ys) (i:=i) (k:=k) h5
  refine zR (zM ?_)
  refine zB ?_
  refine zA (zN (Qg ?_))
  refine zM ?_
  refine zM ?_
  refine zV (Zw (ps:=[(0,_),(1,_)]) [_,_] YP Ku rfl rfl) ?_
  refine Qq (ps:=[(0,_)]) (m:=[VN ((0:Int),(k:Int)+1)]) JH rfl (.cons rfl (.nil)) rfl (by simp [JX]) (by decide) (by decide) rfl rfl (fun b_74=>?_)
  refine QW (v:=_) (ys:=[((0:Int),(k:Int)+1)].flatMap VN) (L:=L) rfl rfl JH hO (by repeat (first | exact .cons .here .nil | exact QD | exact Qx | apply QC | apply QB)) ⟨rfl,fun _=>rfl,by repeat (first | exact zxO | apply zxN | apply zxP)⟩ (zf4 [((0:Int),(k:Int)+1)]) (by omega) rfl rfl ?_
  intro v9 L9 hO9 _;rw [←List.flatMap_append] at hO9
  refine zA (Qb (Qh (Qh ?_)))
  exact zm (h:=⟨xs.length-(i)+(ys.length-(k+1)),by omega,i,k+1,_,_,_,_,_,rfl,rfl,hB4,rfl,by omega,by omega,hm1,hpq.two h6 hbo hon,hO9,by omega⟩)
 have hnor:xs.length≤i∧ys.length≤k:=by have h:=hc64;simp at h;omega
 have hfin:zkR xs ys=pre:=hpq.fin hnor.1 hnor.2
 have hE0:=zp1 hlong hno2
 have hR0:=(zlz hE0).trans hfin
 refine QI (Qf (Qf (Qk (Qa (zR ?_)))))
 refine zV (Qd rfl Kx (fun hg=>by exact hLE.se.any)) ?_
 refine Qz (cap:=[Za b_2,Za b_3,Za b_13,Za b_14]) (vs:=[_,_]) rfl rfl KI (by repeat (first | exact .cons .here .nil | exact QD | exact Qx | apply QC | apply QB)) (zsl hLE (by omega) (by omega) i k m trivial hm) rfl rfl ?_
 rintro vv12 I12 L12 hI12 ⟨VZ,hLZ,rfl,rfl,m5,hm5,rfl⟩
 have hIc:=hIc.trans hI12
 refine zM ?_
 refine zA ?_
 refine zA ?_
 refine zA (zN (Qt ?_))
 first
 | exact KD rfl rfl rfl rfl (fun w hw=>by obtain ⟨I9,av9,c9,h1',h2',e9,h4'⟩:=OwnS.freeze (R:=[]) hO JX (by decide) (by rw [List.append_nil];exact hw.subL (by repeat (first | exact .refl | exact Zi | exact Zi (L:=L) (R:=[]) | refine .drop ?_)));have hq9:=h4'.len;subst hq9;exact ⟨_,I9,[],rfl,hIc.trans h1',h2',rfl,_,av9,c9,by rw [hE0,hR0,e9],by rw [hR0];exact h4'⟩)
end
section
open Go Go.Kn Go.Proofs
def zae (a:Int):List (Int×Int)→List (Int×Int)
 | []=>[]
 | p::ps=>if p.1>0 then zae p.1 ps else (a,p.2-1)::zae a ps
def zh1 (ps:List (Int×Int)):List (Int×Int):=zae 0 ps
theorem zqU {a:Int}{ps:List (Int×Int)}{k:Nat}{p:Int×Int}(hp:ps[k]? =some p)(h:decide (p.1>0)=true):zae a (ps.drop k)=zae p.1 (ps.drop (k+1)):=by
 rw [ZY hp]
 show (if p.1>0 then zae p.1 (ps.drop (k+1)) else (a,p.2-1)::zae a (ps.drop (k+1)))=_
 rw [if_pos (by simpa using h)]
theorem zmK {a:Int}{ps:List (Int×Int)}{k:Nat}{p:Int×Int}(hp:ps[k]? =some p)(h:decide (p.1>0)=false):zae a (ps.drop k)=(a,p.2-1)::zae a (ps.drop (k+1)):=by
 rw [ZY hp]
 show (if p.1>0 then zae p.1 (ps.drop (k+1)) else (a,p.2-1)::zae a (ps.drop (k+1)))=_
 rw [if_neg (by simpa using h)]
theorem zoa {a:Int}{ps pre:List (Int×Int)}{k:Nat}(h:zh1 ps=pre++zae a (ps.drop k))(hk:ps.length≤k):zh1 ps=pre:=by
 rw [h,List.drop_eq_nil_of_le hk];simp [zae]
theorem zoX {a:Int}{ps pre:List (Int×Int)}{k:Nat}{p:Int×Int}(h:zh1 ps=pre++zae a (ps.drop k))(hp:ps[k]? =some p)(hn:decide (p.1>0)=false):pre++[(a,p.2-1)]<+:zh1 ps:=by
 rw [h,zmK hp hn]
 exact ⟨zae a (ps.drop (k+1)),by simp⟩
def zwM (q:Int×Int):Value:=.int .i64 q.1
def zwW (q:Int×Int):Value:=.int .i64 q.2
end
end Go.Proofs.YtodakphagkommaaGreatDoor
