/- partiesConverge_holds, part E of the proof: what its theorems say holds without further conditions. -/
import Derived.Test.YtjblkbkmblkgoaaGreatPCD
namespace Go.Proofs.YtjblkbkmblkgoaaGreat
section
open Go Go.Kn Go.Proofs
def WJ (f:Nat→Int)(a:Option Addr)(n c:Nat)(needs:List Int)(name town:ByteArray):Nt:=
 ⟨f 0,⟨f 1,f 2,f 3,f 4,f 5,f 6,f 7,f 8,f 9⟩,⟨f 10,f 11,f 12,f 13,⟨f 14,f 15,f 16,f 17,f 18,f 19,f 20,f 21,f 22,f 23,f 24,f 25,f 26,f 27⟩,a,n,c,needs⟩,⟨f 28,f 29,f 30,f 31,f 32⟩,⟨f 33,f 34,f 35,f 36,f 37,f 38,name,town,f 39,f 40,f 41⟩⟩
def zlU (hs:List Vc)(k j:Nat):Int:=if j<k then (hs.getD j Wl).n else 0
def zi2 (hs:List Vc)(k:Nat):Nt:=WJ (zlU hs k) none 0 0 [] ⟨#[]⟩ ⟨#[]⟩
theorem zpu:∀ k,k<42→(zhV.getD k 0).blt 45=true:=by decide
theorem Jn (hs:List Vc):∀ k,k<42→(Zn (zi2 hs k)).toArray.setIfInBounds (zhV.getD k 0) (.int .i64 (hs.getD k Wl).n)=(Zn (zi2 hs (k+1))).toArray
 | 0,_=>by kernel_rfl
 | 1,_=>by kernel_rfl
 | 2,_=>by kernel_rfl
 | 3,_=>by kernel_rfl
 | 4,_=>by kernel_rfl
 | 5,_=>by kernel_rfl
 | 6,_=>by kernel_rfl
 | 7,_=>by kernel_rfl
 | 8,_=>by kernel_rfl
 | 9,_=>by kernel_rfl
 | 10,_=>by kernel_rfl
 | 11,_=>by kernel_rfl
 | 12,_=>by kernel_rfl
 | 13,_=>by kernel_rfl
 | 14,_=>by kernel_rfl
 | 15,_=>by kernel_rfl
 | 16,_=>by kernel_rfl
 | 17,_=>by kernel_rfl
 | 18,_=>by kernel_rfl
 | 19,_=>by kernel_rfl
 | 20,_=>by kernel_rfl
 | 21,_=>by kernel_rfl
 | 22,_=>by kernel_rfl
 | 23,_=>by kernel_rfl
 | 24,_=>by kernel_rfl
 | 25,_=>by kernel_rfl
 | 26,_=>by kernel_rfl
 | 27,_=>by kernel_rfl
 | 28,_=>by kernel_rfl
 | 29,_=>by kernel_rfl
 | 30,_=>by kernel_rfl
 | 31,_=>by kernel_rfl
 | 32,_=>by kernel_rfl
 | 33,_=>by kernel_rfl
 | 34,_=>by kernel_rfl
 | 35,_=>by kernel_rfl
 | 36,_=>by kernel_rfl
 | 37,_=>by kernel_rfl
 | 38,_=>by kernel_rfl
 | 39,_=>by kernel_rfl
 | 40,_=>by kernel_rfl
 | 41,_=>by kernel_rfl
 | k+42,h=>absurd h (by omega)
def isI:Va→Bool
 | .int _=>true
 | _=>false
def zh1:Va→Int
 | .int n=>n
 | _=>0
def W9:Va→Option Nt
 | .list l=>if l.length=45∧(l.take 42).all isI=true then match l.drop 42 with
   | [.list q,.text a,.text b]=>if q.all isI=true then some (WJ (fun j=>zh1 (l.getD j (.int 0))) none q.length 0 (q.map zh1) (UE a) (UE b)) else none
   | _=>none
  else none
 | _=>none
def Z2 (x:Nt):Nt:={x with pt:={x.pt with a:=none,n:=x.pt.needs.length,c:=0}}
def okN (bs:List Nat):Option Nt:=(zbE bs).bind fun v=>(W9 v).bind fun y=>if Q7 y=true then some y else none
theorem Jd {x:Nt}(h:x.pt.n=x.pt.needs.length):Q7 (Z2 x)=Q7 x:=by
 obtain ⟨k,lm,⟨i,kd,s,fd,nw,a,n,c,nd⟩,ls,rt⟩:=x
 simp only at h
 subst h
 rfl
theorem zfU (xs:List Int):(xs.map Va.int).all isI=true:=by
 induction xs with
 | nil=>rfl
 | cons a l ih=>simp [isI,ih]
theorem zmR (xs:List Int):(xs.map Va.int).map zh1=xs:=by
 induction xs with
 | nil=>rfl
 | cons a l ih=>simp only [List.map_cons,zh1,ih]
theorem zfa (x:Nt):W9 (JW x)=some (Z2 x):=by
 unfold JW W9
 have h1:((VE x).map Va.int++[Va.list (x.pt.needs.map .int),.text (Kv x.rt.name),.text (Kv x.rt.town)]).length=45:=by simp [YT]
 have h2:((VE x).map Va.int++[Va.list (x.pt.needs.map .int),.text (Kv x.rt.name),.text (Kv x.rt.town)]).take 42=(VE x).map Va.int:=List.take_left' (by rw [List.length_map,YT])
 have h3:((VE x).map Va.int++[Va.list (x.pt.needs.map .int),.text (Kv x.rt.name),.text (Kv x.rt.town)]).drop 42=[Va.list (x.pt.needs.map .int),.text (Kv x.rt.name),.text (Kv x.rt.town)]:=List.drop_left' (by rw [List.length_map,YT])
 simp only [h2,h3]
 rw [if_pos ⟨h1,zfU _⟩,if_pos (zfU _),zmR,WI,WI,List.length_map]
 congr 1
def zr8 (I:Qv)(bs:List Nat)(cv:Vc)(e:Int):Prop:=(e=0∧∃ x,zbE bs=some x∧VaR I x cv)∨(e=10∧zbE bs=none∧cv=Wl)
theorem zr8.mono {I I':Qv}{bs:List Nat}{cv:Vc}{e:Int}(h:zr8 I bs cv e)(hI:HLe I I'):zr8 I' bs cv e:=h.imp (fun ⟨h1,x,h2,h3⟩=>⟨h1,x,h2,h3.mono hI⟩) id
theorem zhH {bs:List Nat}{v:Value}{I':Qv}{L':Go.Kn.Loc}(h:znc bs v I' L'):L'=[]∧∃ cv e,v= .tuple #[.agg (Zo cv).toArray,.int .i64 e]∧zr8 I' bs cv e:=by
 obtain ⟨h1,h2⟩:=h
 refine ⟨h1,?_⟩
 cases hd:zbE bs with
 | none=>rw [hd] at h2;exact ⟨Wl,10,h2,.inr ⟨rfl,hd,rfl⟩⟩
 | some x=>rw [hd] at h2;obtain ⟨cv,e1,e2⟩:=h2;exact ⟨cv,0,e1,.inl ⟨rfl,x,hd,e2⟩⟩
structure RdP (I:Qv)(bs:List Nat)(cv:Vc)(l:List Va)(hs:List Vc):Prop where
 dec:zbE bs=some (.list l)
 sl:Sl I 4 Zo cv.a cv.m cv.c hs
 m:cv.m=45
 len:l.length=45
 rel:∀ (k:Nat) (x:Va) (y:Vc),l[k]? =some x→hs[k]? =some y→VaR I x y
theorem RdP.mono {I I':Qv}{bs:List Nat}{cv:Vc}{l:List Va}{hs:List Vc}(h:RdP I bs cv l hs)(hI:HLe I I'):RdP I' bs cv l hs:=⟨h.dec,h.sl.mono hI,h.m,h.len,fun k x y hx hy=>(h.rel k x y hx hy).mono hI⟩
theorem RdP.hlen {I:Qv}{bs:List Nat}{cv:Vc}{l:List Va}{hs:List Vc}(h:RdP I bs cv l hs):hs.length=45:=by rw [h.sl.len,h.m]
theorem zap {I:Qv}{x:Va}{y:Vc}(h:VaR I x y):isI x=(y.k==1):=by cases h<;>rfl
theorem zgJ {I:Qv}{x:Va}{y:Vc}(h:VaR I x y)(hk:isI x=true):zh1 x=y.n:=by cases h<;>first | rfl | cases hk
theorem zbL {l:List Va}(h:¬(l.length=45∧(l.take 42).all isI=true)):W9 (.list l)=none:=by
 unfold W9
 simp only [if_neg h]
theorem XY {bs:List Nat}{l:List Va}(h:zbE bs=some (.list l))(hr:W9 (.list l)=none):okN bs=none:=by unfold okN;rw [h,Option.bind_some,hr];rfl
theorem zsw {I:Qv}{bs:List Nat}{cv:Vc}{e:Int}(h:zr8 I bs cv e)(hc:((e != 0||cv.k != 3)||(cv.m:Int) != 45)=true):okN bs=none:=by
 rcases h with ⟨he,x,hd,hx⟩ | ⟨he,hd,hz⟩
 ·
  subst he
  cases hx with
  | int n=>unfold okN;rw [hd];rfl
  | text s=>unfold okN;rw [hd];rfl
  | list hS hl hr=>
   rename_i l hs a m c
   refine XY hd ?_
   have hm:=hS.len
   have:¬(l.length=45):=fun e45=>by
    rw [hl,hm] at e45
    simp [e45] at hc
   exact zbL (fun h2=>this h2.1)
 ·
  unfold okN;rw [hd];rfl
theorem zqt {I:Qv}{bs:List Nat}{cv:Vc}{e:Int}(h:zr8 I bs cv e)(hc:((e != 0||cv.k != 3)||(cv.m:Int) != 45)=false):∃ l hs,RdP I bs cv l hs:=by
 simp only [Bool.or_eq_false_iff,bne_eq_false_iff_eq] at hc
 obtain ⟨⟨he,hk⟩,hm⟩:=hc
 rcases h with ⟨_,x,hd,hx⟩ | ⟨he2,_,_⟩
 ·
  cases hx with
  | int n=>simp at hk
  | text s=>simp at hk
  | list hS hl hr=>
   rename_i l hs a m c
   have hm2:(m:Int)=45:=hm
   have hm3:m=45:=by omega
   exact ⟨l,hs,hd,hS,hm3,by rw [hl,hS.len];exact hm3,hr⟩
 ·
  omega
theorem zth {I:Qv}{bs:List Nat}{cv:Vc}{l:List Va}{hs:List Vc}(h:RdP I bs cv l hs){k:Nat}{y:Vc}(hk:k<42)(hy:hs[k]? =some y)(hne:(y.k != 1)=true):okN bs=none:=by
 refine XY h.dec ?_
 obtain ⟨x,hx⟩:∃ x,l[k]? =some x:=⟨_,List.getElem?_eq_getElem (by rw [h.len];omega)⟩
 have hi:=zap (h.rel k x y hx hy)
 have hf:isI x=false:=by rw [hi];simpa using hne
 refine zbL ?_
 rintro ⟨_,ha⟩
 have hm:x∈l.take 42:=List.mem_iff_getElem?.2 ⟨k,by rw [List.getElem?_take,if_pos hk];exact hx⟩
 have:=List.all_eq_true.1 ha x hm
 rw [hf] at this;cases this
theorem zft {f g:Nat→Int}(h:∀ j,j<42→f j=g j){a:Option Addr}{n c:Nat}{needs:List Int}{name town:ByteArray}:WJ f a n c needs name town=WJ g a n c needs name town:=by
 unfold WJ
 simp only [h 0 (by decide),h 1 (by decide),h 2 (by decide),h 3 (by decide),h 4 (by decide),h 5 (by decide),h 6 (by decide),h 7 (by decide),h 8 (by decide),h 9 (by decide),h 10 (by decide),h 11 (by decide),h 12 (by decide),h 13 (by decide),h 14 (by decide),h 15 (by decide),h 16 (by decide),h 17 (by decide),h 18 (by decide),h 19 (by decide),h 20 (by decide),h 21 (by decide),h 22 (by decide),h 23 (by decide),h 24 (by decide),h 25 (by decide),h 26 (by decide),h 27 (by decide),h 28 (by decide),h 29 (by decide),h 30 (by decide),h 31 (by decide),h 32 (by decide),h 33 (by decide),h 34 (by decide),h 35 (by decide),h 36 (by decide),h 37 (by decide),h 38 (by decide),h 39 (by decide),h 40 (by decide),h 41 (by decide)]
theorem zpn {I:Qv}{bs:List Nat}{cv:Vc}{l:List Va}{hs:List Vc}(h:RdP I bs cv l hs)(hall:∀ j y,j<42→hs[j]? =some y→(y.k != 1)=false):(l.take 42).all isI=true:=by
 rw [List.all_eq_true]
 intro x hx
 obtain ⟨j,hj⟩:=List.mem_iff_getElem?.1 hx
 rw [List.getElem?_take] at hj
 split at hj
 ·
  rename_i hlt
  obtain ⟨y,hy⟩:∃ y,hs[j]? =some y:=⟨_,List.getElem?_eq_getElem (by rw [h.hlen];omega)⟩
  rw [zap (h.rel j x y hj hy)]
  have:=hall j y hlt hy
  simpa using this
 ·
  cases hj
theorem zuI {l:List Va}(h:l.length=45){x y z:Va}(hx:l[42]? =some x)(hy:l[43]? =some y)(hz:l[44]? =some z):l.drop 42=[x,y,z]:=by
 apply List.ext_getElem?
 intro i
 rw [List.getElem?_drop]
 match i with
 | 0=>exact hx
 | 1=>exact hy
 | 2=>exact hz
 | i+3=>rw [List.getElem?_eq_none (by omega)];rfl
structure RtP (I:Qv)(bs:List Nat)(l:List Va)(hs:List Vc)(u v w:Vc)(q:List Va)(qs:List Vc):Prop where
 dec:zbE bs=some (.list l)
 len:l.length=45
 ints:(l.take 42).all isI=true
 nums:∀ j,j<42→zh1 (l.getD j (.int 0))=zlU hs 42 j
 drop:∃ a b,l.drop 42=[.list q,.text a,.text b]∧v.s=UE a∧w.s=UE b
 sl:Sl I 4 Zo u.a u.m u.c qs
 qlen:q.length=qs.length
 rel:∀ (k:Nat) (x:Va) (y:Vc),q[k]? =some x→qs[k]? =some y→VaR I x y
theorem RtP.mono {I I':Qv}{bs:List Nat}{l:List Va}{hs:List Vc}{u v w:Vc}{q:List Va}{qs:List Vc}(h:RtP I bs l hs u v w q qs)(hI:HLe I I'):RtP I' bs l hs u v w q qs:=⟨h.dec,h.len,h.ints,h.nums,h.drop,h.sl.mono hI,h.qlen,fun k x y hx hy=>(h.rel k x y hx hy).mono hI⟩
theorem zq4 {I:Qv}{bs:List Nat}{cv:Vc}{l:List Va}{hs:List Vc}(h:RdP I bs cv l hs)(hall:∀ j y,j<42→hs[j]? =some y→(y.k != 1)=false):∀ j,j<42→zh1 (l.getD j (.int 0))=zlU hs 42 j:=by
 intro j hj
 obtain ⟨x,hx⟩:∃ x,l[j]? =some x:=⟨_,List.getElem?_eq_getElem (by rw [h.len];omega)⟩
 obtain ⟨y,hy⟩:∃ y,hs[j]? =some y:=⟨_,List.getElem?_eq_getElem (by rw [h.hlen];omega)⟩
 have hr:=h.rel j x y hx hy
 have hi:isI x=true:=by rw [zap hr];simpa using hall j y hj hy
 unfold zlU
 rw [if_pos hj,List.getD_eq_getElem?_getD,List.getD_eq_getElem?_getD,hx,hy]
 exact zgJ hr hi
theorem ziV {I:Qv}{bs:List Nat}{cv:Vc}{l:List Va}{hs:List Vc}(h:RdP I bs cv l hs)(hall:∀ j y,j<42→hs[j]? =some y→(y.k != 1)=false){u v w:Vc}(hu:hs[42]? =some u)(hv:hs[43]? =some v)(hw:hs[44]? =some w):
  (((u.k != 3||v.k != 2)||w.k != 2)=true→okN bs=none)∧(((u.k != 3||v.k != 2)||w.k != 2)=false→∃ q qs,RtP I bs l hs u v w q qs):=by
 obtain ⟨x,hx⟩:∃ x,l[42]? =some x:=⟨_,List.getElem?_eq_getElem (by rw [h.len];omega)⟩
 obtain ⟨y,hy⟩:∃ x,l[43]? =some x:=⟨_,List.getElem?_eq_getElem (by rw [h.len];omega)⟩
 obtain ⟨z,hz⟩:∃ x,l[44]? =some x:=⟨_,List.getElem?_eq_getElem (by rw [h.len];omega)⟩
 have hd:=zuI h.len hx hy hz
 have r1:=h.rel 42 x u hx hu;have r2:=h.rel 43 y v hy hv;have r3:=h.rel 44 z w hz hw
 have hn:=zq4 h hall
 have hi:=zpn h hall
 have hno:(∀ q a b,[x,y,z]≠[.list q,.text a,.text b])→okN bs=none:=fun hne=>XY h.dec (by
  unfold W9
  simp only [if_pos (show l.length=45∧(l.take 42).all isI=true from ⟨h.len,hi⟩),hd])
 cases r1 with
 | int n=>exact ⟨fun _=>hno (by intro q a b e;cases e),fun hc=>by simp at hc⟩
 | text s=>exact ⟨fun _=>hno (by intro q a b e;cases e),fun hc=>by simp at hc⟩
 | list hS hl hr=>
  cases r2 with
  | int n=>exact ⟨fun _=>hno (by intro q a b e;cases e),fun hc=>by simp at hc⟩
  | list hS2 hl2 hr2=>exact ⟨fun _=>hno (by intro q a b e;cases e),fun hc=>by simp at hc⟩
  | text s=>
   cases r3 with
   | int n=>exact ⟨fun _=>hno (by intro q a b e;cases e),fun hc=>by simp at hc⟩
   | list hS2 hl2 hr2=>exact ⟨fun _=>hno (by intro q a b e;cases e),fun hc=>by simp at hc⟩
   | text s2=>exact ⟨fun hc=>by simp at hc,fun _=>⟨_,_,h.dec,h.len,hi,hn,⟨s,s2,hd,rfl,rfl⟩,hS,hl,hr⟩⟩
theorem zq8 {I:Qv}{bs:List Nat}{l:List Va}{hs:List Vc}{u v w:Vc}{q:List Va}{qs:List Vc}(h:RtP I bs l hs u v w q qs){k:Nat}{y:Vc}(hy:qs[k]? =some y)(hne:(y.k != 1)=true):okN bs=none:=by
 refine XY h.dec ?_
 obtain ⟨a,b,hd,_,_⟩:=h.drop
 have hk:=(List.getElem?_eq_some_iff.1 hy).1
 obtain ⟨x,hx⟩:∃ x,q[k]? =some x:=⟨_,List.getElem?_eq_getElem (by rw [h.qlen];exact hk)⟩
 have hf:isI x=false:=by rw [zap (h.rel k x y hx hy)];simpa using hne
 have hq:¬(q.all isI=true):=fun e=>by
  have:=List.all_eq_true.1 e x (List.mem_of_getElem? hx)
  rw [hf] at this;cases this
 unfold W9
 simp only [if_pos (show l.length=45∧(l.take 42).all isI=true from ⟨h.len,h.ints⟩),hd,if_neg hq]
theorem zqu {I:Qv}{bs:List Nat}{l:List Va}{hs:List Vc}{u v w:Vc}{q:List Va}{qs:List Vc}(h:RtP I bs l hs u v w q qs)(hall:∀ j y,j<qs.length→qs[j]? =some y→(y.k != 1)=false)(a:Option Addr)(c:Nat):
  W9 (.list l)=some (Z2 (WJ (zlU hs 42) a qs.length c (qs.map (·.n)) v.s w.s)):=by
 obtain ⟨s,s2,hd,e1,e2⟩:=h.drop
 have hq:q.all isI=true:=by
  rw [List.all_eq_true]
  intro x hx
  obtain ⟨j,hj⟩:=List.mem_iff_getElem?.1 hx
  have hjl:=(List.getElem?_eq_some_iff.1 hj).1
  obtain ⟨y,hy⟩:∃ y,qs[j]? =some y:=⟨_,List.getElem?_eq_getElem (by rw [←h.qlen];exact hjl)⟩
  rw [zap (h.rel j x y hj hy)]
  simpa using hall j y (by rw [←h.qlen];exact hjl) hy
 have hm:q.map zh1=qs.map (·.n):=by
  apply List.ext_getElem?
  intro j
  rw [List.getElem?_map,List.getElem?_map]
  cases hx:q[j]? with
  | none=>rw [List.getElem?_eq_none (by rw [←h.qlen];exact List.getElem?_eq_none_iff.1 hx)];rfl
  | some x=>
   have hjl:=(List.getElem?_eq_some_iff.1 hx).1
   obtain ⟨y,hy⟩:∃ y,qs[j]? =some y:=⟨_,List.getElem?_eq_getElem (by rw [←h.qlen];exact hjl)⟩
   rw [hy]
   have hi:isI x=true:=List.all_eq_true.1 hq x (List.mem_of_getElem? hx)
   simp only [Option.map_some]
   rw [zgJ (h.rel j x y hx hy) hi]
 unfold W9
 simp only [if_pos (show l.length=45∧(l.take 42).all isI=true from ⟨h.len,h.ints⟩),hd,if_pos hq]
 rw [zft h.nums,hm,e1,e2]
 simp [Z2,WJ,h.qlen]
def fl2 (hs:List Vc)(v:Value):List Value:=(Zn (zi2 hs 42)).set 28 v
theorem zuP {I:Qv}{bs:List Nat}{l:List Va}{hs:List Vc}{u v w:Vc}{q:List Va}{qs:List Vc}(h:RtP I bs l hs u v w q qs)(hall:∀ j y,j<qs.length→qs[j]? =some y→(y.k != 1)=false){a:Option Addr}{n c:Nat}(hn:qs.length=n):
  okN bs=if Q7 (WJ (zlU hs 42) a n c (qs.map (·.n)) v.s w.s)=true then some (Z2 (WJ (zlU hs 42) a n c (qs.map (·.n)) v.s w.s)) else none:=by
 have h2:=zqu h hall a c
 rw [hn] at h2
 unfold okN
 rw [h.dec,Option.bind_some,h2,Option.bind_some,Jd (by simp [WJ,hn])]
def zsK (bs:List Nat)(I:Qv)(cs:List Value)(b:Bool):Prop:=(cs.length=45∧YZ cs=true)∧((b=false∧okN bs=none)∨(b=true∧∃ x,cs=Zn x∧Nd I x.pt∧okN bs=some (Z2 x)))
theorem zfZ {bs:List Nat}{I:Qv}{cs:List Value}(hl:cs.length=45)(ha:YZ cs=true)(h:okN bs=none):zsK bs I cs false:=⟨⟨hl,ha⟩,.inl ⟨rfl,h⟩⟩
theorem zpv {bs:List Nat}{I:Qv}{x:Nt}(h:okN bs=if Q7 x=true then some (Z2 x) else none)(hN:Nd I x.pt):zsK bs I (Zn x) (Q7 x):=by
 refine ⟨⟨rfl,rfl⟩,?_⟩
 cases hf:Q7 x with
 | false=>rw [hf] at h;exact .inl ⟨rfl,h⟩
 | true=>rw [hf] at h;exact .inr ⟨rfl,x,rfl,hN,h⟩
theorem zqI {bs:List Nat}{v:Va}(hb:∀ c∈bs,c<256)(hl:bs.length<2^63)(h:zbE bs=some v):(Va.enc v).length≤bs.length:=by
 unfold zbE at h
 split at h
 ·
  rename_i x e
  cases h
  have:=(zf6 hb hl e).1
  rw [this];simp
 ·
  cases h
theorem ztL {I:Qv}{bs:List Nat}{l:List Va}{hs:List Vc}{u v w:Vc}{q:List Va}{qs:List Vc}(h:RtP I bs l hs u v w q qs)(hb:∀ c∈bs,c<256)(hl:bs.length<2^63):qs.length≤bs.length:=by
 have h1:=zqI hb hl h.dec
 obtain ⟨a,b,hd,_,_⟩:=h.drop
 have h2:Va.encL l=Va.encL (l.take 42)++Va.encL (l.drop 42):=by rw [←Va.encL_append,List.take_append_drop]
 have h3:=Va.encL_len q
 have h4:=h.qlen
 rw [hd] at h2
 have h5:(Va.encL l).length≤(Va.enc (.list l)).length:=by simp [Va.enc];omega
 have h6:(Va.encL q).length≤(Va.encL l).length:=by
  rw [h2]
  simp only [Va.encL,Va.enc,List.length_append,List.length_cons];omega
 omega
theorem zqL {x:Va}(h:isI x=true):x= .int (zh1 x):=by cases x<;>first | rfl | cases h
theorem zeo {q:List Va}(h:q.all isI=true):(q.map zh1).map Va.int=q:=by
 induction q with
 | nil=>rfl
 | cons a l ih=>
  rw [List.all_cons,Bool.and_eq_true] at h
  simp only [List.map_cons]
  rw [ih h.2,←zqL h.1]
theorem zfA (f:Nat→Int)(a:Option Addr)(n c:Nat)(needs:List Int)(name town:ByteArray):VE (WJ f a n c needs name town)=(List.range 42).map f:=rfl
theorem zjg {l:List Va}(hl:l.length=45)(h:(l.take 42).all isI=true):((List.range 42).map fun j=>zh1 (l.getD j (.int 0))).map Va.int=l.take 42:=by
 rw [←zeo h]
 congr 1
 apply List.ext_getElem?
 intro j
 rw [List.getElem?_map,List.getElem?_map,List.getElem?_take]
 by_cases hj:j<42
 ·
  rw [if_pos hj,List.getElem?_range hj,List.getElem?_eq_getElem (by omega),Option.map_some,Option.map_some,List.getD_eq_getElem?_getD,List.getElem?_eq_getElem (by omega)];rfl
 ·
  rw [if_neg hj,List.getElem?_eq_none (by simp;omega)];rfl
theorem zll {v:Va}{y:Nt}(hok:Va.ok v)(h:W9 v=some y):JW y=v:=by
 cases v with
 | int n=>cases h
 | text s=>cases h
 | list l=>
  unfold W9 at h
  simp only at h
  split at h
  ·
   rename_i hc
   split at h
   ·
    rename_i q a b hd
    split at h
    ·
     rename_i hq
     cases h
     have hl:l=l.take 42++l.drop 42:=(List.take_append_drop ..).symm
     have hm:∀ x∈l,Va.ok x:=fun x hx=>by
      obtain ⟨k,hk⟩:=List.mem_iff_getElem?.1 hx
      exact zdp hok.2 hk
     have ha:Va.ok (.text a):=hm _ (by rw [hl,hd];simp)
     have hb:Va.ok (.text b):=hm _ (by rw [hl,hd];simp)
     unfold JW
     rw [zfA,zjg hc.1 hc.2]
     show Va.list (l.take 42++[.list ((q.map zh1).map .int),.text (Kv (UE a)),.text (Kv (UE b))])=_
     rw [zeo hq,VV ha.1,VV hb.1,←hd,←hl]
    ·
     cases h
   ·
    cases h
  ·
   cases h
theorem zcD (x:Nt):JW (Z2 x)=JW x:=rfl
theorem zgW {bs:List Nat}{y:Nt}(hb:∀ c∈bs,c<256)(hl:bs.length<2^63)(h:okN bs=some y):JU y=bs∧Va.ok (JW y)∧Q7 y=true:=by
 unfold okN at h
 cases hd:zbE bs with
 | none=>rw [hd] at h;cases h
 | some v=>
  rw [hd,Option.bind_some] at h
  cases hr:W9 v with
  | none=>rw [hr] at h;cases h
  | some z=>
   rw [hr,Option.bind_some] at h
   split at h
   ·
    rename_i hf
    cases h
    unfold zbE at hd
    split at hd
    ·
     rename_i x e
     cases hd
     obtain ⟨e1,_,e3⟩:=zf6 hb hl e
     have e4:=zll e3 hr
     refine ⟨?_,by rw [e4];exact e3,hf⟩
     unfold JU
     rw [e4,e1,List.append_nil]
    ·
     cases hd
   ·
    cases h
theorem znu (x:Nt):x.pt.needs.length≤(JU x).length:=by
 unfold JU JW
 have h1:=Va.encL_len (x.pt.needs.map Va.int)
 rw [List.length_map] at h1
 have h2:(Va.encL (x.pt.needs.map Va.int)).length≤(Va.enc (.list ((VE x).map .int++[.list (x.pt.needs.map .int),.text (Kv x.rt.name),.text (Kv x.rt.town)]))).length:=by
  simp only [Va.enc,Va.encL_append,Va.encL,List.length_append,List.length_cons];omega
 omega
theorem zgz {I:Qv}{bs:List Nat}{x:Nt}(hb:∀ c∈bs,c<256)(hn:bs.length≤100000)(h:okN bs=some (Z2 x))(hN:Nd I x.pt):NtM I x:=by
 obtain ⟨h1,h2,_⟩:=zgW hb (by omega) h
 have e:JU x=bs:=h1
 have hl:=znu x
 have hN2:Sl I 1 Yk x.pt.a x.pt.n x.pt.c x.pt.needs:=hN
 have:=hN2.len
 exact ⟨hN,by rw [e] at hl;omega,h2,by rw [e];omega⟩
end
section
open Go Go.Kn Go.Proofs
theorem zrU:Fun Tryz.prog 128:=.of Tryz.func128 (by kernel_rfl) (by kernel_rfl)
theorem zux:SzT Tryz.prog 37 1:=.of (by kernel_rfl)
set_option maxRecDepth 100000 in
theorem zkh {I:Qv} {av:Option Addr} {n c:Nat} {bs:List Nat} (hS:Sl I 1 VL av n c bs) (hb:∀ x∈bs,x<256) (hn:n≤100000):Vi Tryz.prog 62 [.slice av n c] I [] (fun v I' L'=>L'=[]∧∃ (cs:List Value) (b:Bool),v= .tuple #[.agg cs.toArray,.bool b]∧zsK bs I' cs b):=by
 intro g H w hw
 refine qe Tryz.func62 Tryz.ntmps62 hw ?_
 have hIc:=zxd I
 have hbl:=hS.len
 refine zR ?_
 refine Qt Wj rfl rfl (fun b_2=>?_)
 refine zA ?_
 refine zN (zR ?_)
 refine zM ?_
 refine QE (cap:=[]) (vs:=[_]) rfl rfl zrU .nil (znV hS hb hn) rfl rfl ?_
 rintro vv1 I1 L1 hI1 hq0
 have hIc:=hIc.trans hI1
 obtain ⟨rfl,cv,e,rfl,hq⟩:=zhH hq0
 refine zM ?_
 refine zE ?_
 refine zE ?_
 refine Qt YX rfl rfl (fun b_4=>?_)
 refine zh ZT ?_
 refine zA (Qb ?_)
 refine QO .here (fun I2 hI2 hb2=>?_)
 have hq:=hq.mono hI2;have hIc:=hIc.trans hI2
 have h4:=BxI.of hb2
 refine Qc (zR ?_)
 refine qcV (vs:=[_]) rfl zi8 (zgu _ _) ?_
 refine Qt ziH rfl rfl (fun b_6=>?_)
 refine zh zlx ?_
 refine Qb ?_
 refine QO .here (fun I3 hI3 hb3=>?_)
 have hq:=hq.mono hI3;have h4:=h4.mono hI3;have hIc:=hIc.trans hI3
 have h6:=BxI.of hb3
 refine Qc (Qq (zR (zM ?_)))
 refine zC ?_
 refine zM ?_
 refine Ze 2 rfl rfl rfl ?_
 refine zJ (Qa rfl Zs) ?_
 refine zJ (Qd rfl QA (fun hg=>by exact QG.imm h4.out rfl)) ?_
 refine zJ (QT rfl rfl rfl) ?_
 refine ZP rfl rfl rfl rfl rfl ?_
 refine zM ?_
 refine Ze 7 rfl rfl rfl ?_
 refine zJ (Qa rfl Q5) ?_
 refine zJ (Qd rfl ZI (fun hg=>by exact QG.imm h4.out rfl)) ?_
 refine zJ (Q9 rfl Yj) ?_
 refine zJ (QT rfl rfl rfl) ?_
 refine ZP rfl rfl rfl rfl rfl ?_
 refine zN ?_
 refine zI ?_ ?_<;>intro hc32
 ·
  have hno:=zsw hq hc32
  refine zR ?_
  refine zV (Qg rfl Zr (fun hg=>by exact zxc .here) rfl) ?_
  refine zh VX ?_
  refine zA (zN (QF (Qi ?_)))
  exact Z1 rfl rfl rfl Zr zxb rfl (fun w hw=>⟨_,I3,[],rfl,hIc,by repeat (first | exact hw.drop | exact hw.subL Qe | exact hw.drop.drop),rfl,_,_,rfl,zfZ rfl rfl hno⟩)
 obtain ⟨l,hs,hR⟩:=zqt hq hc32
 have hm45:=hR.m
 have hl45:=hR.hlen
 refine Qw (Qc (Qq (zR ?_)))
 refine zV (Qg rfl zjU (fun hg=>by exact BxI.cells (vs:=zqU b_2) h6) rfl) ?_
 refine zM (zN (QD ?_))
 refine zU [(2,_),(4,_),(34,_)] (fun T L0 mz E I' loc'=>∃ (k:Nat),mz=42-k∧E=(35,.int .i64 k)::T∧I3=I'∧[(b_2,.cells (Zn (zi2 hs k)).toArray 45 (0,0))]=loc'∧k≤42∧(∀ j y,j<k→hs[j]? =some y→(y.k != 1)=false)) ?_ (h:=⟨0,rfl,rfl,rfl,rfl,Nat.zero_le _,fun j y h=>absurd h (Nat.not_lt_zero _)⟩)
 rintro mz E I' loc' ⟨k,rfl,rfl,rfl,rfl,hk,hall⟩
 refine zR (zC (zN (Qq ?_)))
 refine zI ?_ ?_<;>intro hc36
 ·
  have hlt_k:k<42:=by have h:=hc36;simp at h;omega
  obtain ⟨y,hy⟩:∃ y,hs[k]? =some y:=⟨_,List.getElem?_eq_getElem (by omega)⟩
  have hgd:hs.getD k Wl=y:=by rw [List.getD_eq_getElem?_getD,hy];rfl
  refine Qw (Qc (Qq (QD (zR (zM ?_)))))
  refine zV (J0 rfl rfl zfh Uc (fun hg=>by omega) (fun hg=>show (zqU b_2)[((k:Int)).toNat*1]? =some (.pointer (some ⟨b_2,zhV.getD k 0,none⟩)) by rw [Nat.mul_one,Int.toNat_natCast];exact zkO (by omega))) ?_
  refine zA ?_
  refine zA (zN (Qq (zR ?_)))
  refine zF Q5 ?_
  refine zV (Qd rfl ZI (fun hg=>by exact QG.imm h4.out rfl)) ?_
  refine zM ?_
  refine zV (QV rfl rfl Yj hR.sl (fun hg=>by omega)) ?_
  refine zF Zs ?_
  refine zV (Qd rfl QA (fun hg=>by exact zw6 hR.sl hy rfl)) ?_
  refine zC (zN ?_)
  refine zI ?_ ?_<;>intro hc45
  ·
   have hno:=zth hR (by omega) hy hc45
   refine zR ?_
   refine zV (Qg rfl Zr (fun hg=>by exact Cells.g0) rfl) ?_
   refine zh VX ?_
   refine zA (zN (QF (Qi (Qz (Qi (Qi (Qz ?_)))))))
   refine Qi ?_
   exact Z1 rfl rfl rfl Zr zxb rfl (fun w hw=>⟨_,I3,[],rfl,hIc,by repeat (first | exact hw.drop | exact hw.subL Qe | exact hw.drop.drop),rfl,_,_,rfl,zfZ rfl rfl hno⟩)
  refine Qw (Qc (Qk (zM ?_)))
  refine zF Q5 ?_
  refine zV (Qd rfl ZI (fun hg=>by exact QG.imm h4.out rfl)) ?_
  refine zM ?_
  refine zV (QV rfl rfl Yj hR.sl (fun hg=>by omega)) ?_
  refine zF YY ?_
  refine zV (Qd rfl QA (fun hg=>by exact zxf hR.sl hy (j:=1) rfl)) ?_
  refine zV (QM rfl) ?_
  refine Zg rfl rfl zdL rfl rfl Upd.u0 (zpu _ (by omega)) ?_
  refine Qb (Qn (Qc (Qk (zB ?_))))
  refine zM (Qb ?_)
  exact Zt _ _ ⟨42-(k+1),by omega,k+1,rfl,rfl,rfl,rfl,by omega,KO hy hall hc45⟩ (.cons rfl (.cons rfl (.cons rfl (.cons rfl .nil)))) (by (try rw [←Jn hs k (by omega),hgd]);repeat (first | exact .refl | exact QN | refine Zf ?_ | refine .drop ?_ | refine Qf ?_))
 have hge_k:42≤k:=by have h:=hc36;simp at h;omega
 obtain rfl:k=42:=by omega
 obtain ⟨u,hu⟩:∃ y,hs[42]? =some y:=⟨_,List.getElem?_eq_getElem (by omega)⟩
 obtain ⟨v3,hv⟩:∃ y,hs[43]? =some y:=⟨_,List.getElem?_eq_getElem (by omega)⟩
 obtain ⟨w4,hw4⟩:∃ y,hs[44]? =some y:=⟨_,List.getElem?_eq_getElem (by omega)⟩
 refine Zy (Qs (Qs (QB (Qc ?_))))
 refine zY [(2,_)] (fun T L0 E I' loc'=>∃ (p9 p10 p11:Nat),E=(9,ZK p9)::(10,ZK p10)::(11,ZK p11)::T∧HLe I3 I'∧[(b_2,.cells (Zn (zi2 hs 42)).toArray 45 (0,0))]=loc'∧BxI I' p9 (.cells (Zo u).toArray 158 (0,0))∧BxI I' p10 (.cells (Zo v3).toArray 158 (0,0))∧BxI I' p11 (.cells (Zo w4).toArray 158 (0,0))) ?_ ?_
 ·
  have hKc12:=zxd I3
  have hD:=zxd I3
  refine ZL ?_
  refine Q0 I3 [] mixed ?_
  refine zT 0 rfl (Qa rfl Q5) hD ?_
  refine zT 1 rfl (Qd rfl ZI (fun hg=>by exact QG.imm h4.out rfl)) hD ?_
  refine zT 2 rfl (QV rfl rfl Yj hR.sl (fun hg=>by omega)) hD ?_
  refine zT 3 rfl (Qg rfl ZH (fun hg=>by exact zxe hR.sl hu) rfl) hD ?_
  refine zT 4 rfl (Qa rfl Q5) hD ?_
  refine zT 5 rfl (Qd rfl ZI (fun hg=>by exact QG.imm h4.out rfl)) hD ?_
  refine zT 6 rfl (QV rfl rfl Yj hR.sl (fun hg=>by omega)) hD ?_
  refine zT 7 rfl (Qg rfl ZH (fun hg=>by exact zxe hR.sl hv) rfl) hD ?_
  refine zT 8 rfl (Qa rfl Q5) hD ?_
  refine zT 9 rfl (Qd rfl ZI (fun hg=>by exact QG.imm h4.out rfl)) hD ?_
  refine zT 10 rfl (QV rfl rfl Yj hR.sl (fun hg=>by omega)) hD ?_
  refine zT 11 rfl (Qg rfl ZH (fun hg=>by exact zxe hR.sl hw4) rfl) hD ?_
  refine VH 12 13 14 rfl rfl rfl (by kernel_rfl) ?_ ?_ ?_
  ·
   refine Qt YX rfl rfl (fun b_9=>?_)
   refine Qb ?_
   refine zD hD ?_
   refine Q8 13 14 rfl rfl (by kernel_rfl) ?_ ?_
   ·
    refine Qt YX rfl rfl (fun b_10=>?_)
    refine Qb ?_
    refine zD hD ?_
    refine qd 14 rfl ?_
    refine Qt YX rfl rfl (fun b_11=>?_)
    refine Qb ?_
    refine zD hD ?_
    refine qd 15 rfl ?_
    refine zh ZT ?_
    refine Za (b:=b_9) (by repeat (first | exact Yd.here | apply Yd.there)) (fun I5 hI5 hb5=>?_)
    have hKc12:=hKc12.trans hI5;have hD:=hD.trans hI5
    have h9:=BxI.of hb5
    refine Qb ?_
    refine zD hD ?_
    refine qd 16 rfl ?_
    refine zh ZT ?_
    refine Za (b:=b_10) (by repeat (first | exact Yd.here | apply Yd.there)) (fun I6 hI6 hb6=>?_)
    have h9:=h9.mono hI6;have hKc12:=hKc12.trans hI6;have hD:=hD.trans hI6
    have h10:=BxI.of hb6
    refine Qb ?_
    refine zD hD ?_
    refine qd 17 rfl ?_
    refine zh ZT ?_
    refine Za (b:=b_11) (by repeat (first | exact Yd.here | apply Yd.there)) (fun I7 hI7 hb7=>?_)
    have h9:=h9.mono hI7;have h10:=h10.mono hI7;have hKc12:=hKc12.trans hI7;have hD:=hD.trans hI7
    have h11:=BxI.of hb7
    refine Qb ?_
    refine zD hD ?_
    refine Qm (by kernel_rfl) ?_
    refine Qy ?_
    exact Zt _ _ ⟨_,_,_,rfl,hKc12,rfl,h9,h10,h11⟩ (.cons rfl (.cons rfl (.cons rfl (.cons rfl .nil)))) (by (try rw [←Jn hs k (by omega),hgd]);repeat (first | exact .refl | exact QN | refine Zf ?_ | refine .drop ?_ | refine Qf ?_))
   refine Qt YX rfl rfl (fun b_11=>?_)
   refine Qb ?_
   refine zD hD ?_
   refine qd 13 rfl ?_
   refine Qt YX rfl rfl (fun b_10=>?_)
   refine Qb ?_
   refine zD hD ?_
   refine qd 15 rfl ?_
   refine zh ZT ?_
   refine Za (b:=b_9) (by repeat (first | exact Yd.here | apply Yd.there)) (fun I8 hI8 hb8=>?_)
   have hKc12:=hKc12.trans hI8;have hD:=hD.trans hI8
   have h9:=BxI.of hb8
   refine Qb ?_
   refine zD hD ?_
   refine qd 16 rfl ?_
   refine zh ZT ?_
   refine Za (b:=b_10) (by repeat (first | exact Yd.here | apply Yd.there)) (fun I9 hI9 hb9=>?_)
   have h9:=h9.mono hI9;have hKc12:=hKc12.trans hI9;have hD:=hD.trans hI9
   have h10:=BxI.of hb9
   refine Qb ?_
   refine zD hD ?_
   refine qd 17 rfl ?_
   refine zh ZT ?_
   refine Za (b:=b_11) (by repeat (first | exact Yd.here | apply Yd.there)) (fun I10 hI10 hb10=>?_)
   have h9:=h9.mono hI10;have h10:=h10.mono hI10;have hKc12:=hKc12.trans hI10;have hD:=hD.trans hI10
   have h11:=BxI.of hb10
   refine Qb ?_
   refine zD hD ?_
   refine Qm (by kernel_rfl) ?_
   refine Qy ?_
   exact Zt _ _ ⟨_,_,_,rfl,hKc12,rfl,h9,h10,h11⟩ (.cons rfl (.cons rfl (.cons rfl (.cons rfl .nil)))) (by (try rw [←Jn hs k (by omega),hgd]);repeat (first | exact .refl | exact QN | refine Zf ?_ | refine .drop ?_ | refine Qf ?_))
  ·
   refine Qt YX rfl rfl (fun b_10=>?_)
   refine Qb ?_
   refine zD hD ?_
   refine Q8 12 14 rfl rfl (by kernel_rfl) ?_ ?_
   ·
    refine Qt YX rfl rfl (fun b_9=>?_)
    refine Qb ?_
    refine zD hD ?_
    refine qd 14 rfl ?_
    refine Qt YX rfl rfl (fun b_11=>?_)
    refine Qb ?_
    refine zD hD ?_
    refine qd 15 rfl ?_
    refine zh ZT ?_
    refine Za (b:=b_9) (by repeat (first | exact Yd.here | apply Yd.there)) (fun I11 hI11 hb11=>?_)
    have hKc12:=hKc12.trans hI11;have hD:=hD.trans hI11
    have h9:=BxI.of hb11
    refine Qb ?_
    refine zD hD ?_
    refine qd 16 rfl ?_
    refine zh ZT ?_
    refine Za (b:=b_10) (by repeat (first | exact Yd.here | apply Yd.there)) (fun I12 hI12 hb12=>?_)
    have h9:=h9.mono hI12;have hKc12:=hKc12.trans hI12;have hD:=hD.trans hI12
    have h10:=BxI.of hb12
    refine Qb ?_
    refine zD hD ?_
    refine qd 17 rfl ?_
    refine zh ZT ?_
    refine Za (b:=b_11) (by repeat (first | exact Yd.here | apply Yd.there)) (fun I13 hI13 hb13=>?_)
    have h9:=h9.mono hI13;have h10:=h10.mono hI13;have hKc12:=hKc12.trans hI13;have hD:=hD.trans hI13
    have h11:=BxI.of hb13
    refine Qb ?_
    refine zD hD ?_
    refine Qm (by kernel_rfl) ?_
    refine Qy ?_
    exact Zt _ _ ⟨_,_,_,rfl,hKc12,rfl,h9,h10,h11⟩ (.cons rfl (.cons rfl (.cons rfl (.cons rfl .nil)))) (by (try rw [←Jn hs k (by omega),hgd]);repeat (first | exact .refl | exact QN | refine Zf ?_ | refine .drop ?_ | refine Qf ?_))
   refine Qt YX rfl rfl (fun b_11=>?_)
   refine Qb ?_
   refine zD hD ?_
   refine qd 12 rfl ?_
   refine Qt YX rfl rfl (fun b_9=>?_)
   refine Qb ?_
   refine zD hD ?_
   refine qd 15 rfl ?_
   refine zh ZT ?_
   refine Za (b:=b_9) (by repeat (first | exact Yd.here | apply Yd.there)) (fun I14 hI14 hb14=>?_)
   have hKc12:=hKc12.trans hI14;have hD:=hD.trans hI14
   have h9:=BxI.of hb14
   refine Qb ?_
   refine zD hD ?_
   refine qd 16 rfl ?_
   refine zh ZT ?_
   refine Za (b:=b_10) (by repeat (first | exact Yd.here | apply Yd.there)) (fun I15 hI15 hb15=>?_)
   have h9:=h9.mono hI15;have hKc12:=hKc12.trans hI15;have hD:=hD.trans hI15
   have h10:=BxI.of hb15
   refine Qb ?_
   refine zD hD ?_
   refine qd 17 rfl ?_
   refine zh ZT ?_
   refine Za (b:=b_11) (by repeat (first | exact Yd.here | apply Yd.there)) (fun I16 hI16 hb16=>?_)
   have h9:=h9.mono hI16;have h10:=h10.mono hI16;have hKc12:=hKc12.trans hI16;have hD:=hD.trans hI16
   have h11:=BxI.of hb16
   refine Qb ?_
   refine zD hD ?_
   refine Qm (by kernel_rfl) ?_
   refine Qy ?_
   exact Zt _ _ ⟨_,_,_,rfl,hKc12,rfl,h9,h10,h11⟩ (.cons rfl (.cons rfl (.cons rfl (.cons rfl .nil)))) (by (try rw [←Jn hs k (by omega),hgd]);repeat (first | exact .refl | exact QN | refine Zf ?_ | refine .drop ?_ | refine Qf ?_))
  refine Qt YX rfl rfl (fun b_11=>?_)
  refine Qb ?_
  refine zD hD ?_
  refine Q8 12 13 rfl rfl (by kernel_rfl) ?_ ?_
  ·
   refine Qt YX rfl rfl (fun b_9=>?_)
   refine Qb ?_
   refine zD hD ?_
   refine qd 13 rfl ?_
   refine Qt YX rfl rfl (fun b_10=>?_)
   refine Qb ?_
   refine zD hD ?_
   refine qd 15 rfl ?_
   refine zh ZT ?_
   refine Za (b:=b_9) (by repeat (first | exact Yd.here | apply Yd.there)) (fun I17 hI17 hb17=>?_)
   have hKc12:=hKc12.trans hI17;have hD:=hD.trans hI17
   have h9:=BxI.of hb17
   refine Qb ?_
   refine zD hD ?_
   refine qd 16 rfl ?_
   refine zh ZT ?_
   refine Za (b:=b_10) (by repeat (first | exact Yd.here | apply Yd.there)) (fun I18 hI18 hb18=>?_)
   have h9:=h9.mono hI18;have hKc12:=hKc12.trans hI18;have hD:=hD.trans hI18
   have h10:=BxI.of hb18
   refine Qb ?_
   refine zD hD ?_
   refine qd 17 rfl ?_
   refine zh ZT ?_
   refine Za (b:=b_11) (by repeat (first | exact Yd.here | apply Yd.there)) (fun I19 hI19 hb19=>?_)
   have h9:=h9.mono hI19;have h10:=h10.mono hI19;have hKc12:=hKc12.trans hI19;have hD:=hD.trans hI19
   have h11:=BxI.of hb19
   refine Qb ?_
   refine zD hD ?_
   refine Qm (by kernel_rfl) ?_
   refine Qy ?_
   exact Zt _ _ ⟨_,_,_,rfl,hKc12,rfl,h9,h10,h11⟩ (.cons rfl (.cons rfl (.cons rfl (.cons rfl .nil)))) (by (try rw [←Jn hs k (by omega),hgd]);repeat (first | exact .refl | exact QN | refine Zf ?_ | refine .drop ?_ | refine Qf ?_))
  refine Qt YX rfl rfl (fun b_10=>?_)
  refine Qb ?_
  refine zD hD ?_
  refine qd 12 rfl ?_
  refine Qt YX rfl rfl (fun b_9=>?_)
  refine Qb ?_
  refine zD hD ?_
  refine qd 15 rfl ?_
  refine zh ZT ?_
  refine Za (b:=b_9) (by repeat (first | exact Yd.here | apply Yd.there)) (fun I20 hI20 hb20=>?_)
  have hKc12:=hKc12.trans hI20;have hD:=hD.trans hI20
  have h9:=BxI.of hb20
  refine Qb ?_
  refine zD hD ?_
  refine qd 16 rfl ?_
  refine zh ZT ?_
  refine Za (b:=b_10) (by repeat (first | exact Yd.here | apply Yd.there)) (fun I21 hI21 hb21=>?_)
  have h9:=h9.mono hI21;have hKc12:=hKc12.trans hI21;have hD:=hD.trans hI21
  have h10:=BxI.of hb21
  refine Qb ?_
  refine zD hD ?_
  refine qd 17 rfl ?_
  refine zh ZT ?_
  refine Za (b:=b_11) (by repeat (first | exact Yd.here | apply Yd.there)) (fun I22 hI22 hb22=>?_)
  have h9:=h9.mono hI22;have h10:=h10.mono hI22;have hKc12:=hKc12.trans hI22;have hD:=hD.trans hI22
  have h11:=BxI.of hb22
  refine Qb ?_
  refine zD hD ?_
  refine Qm (by kernel_rfl) ?_
  refine Qy ?_
  exact Zt _ _ ⟨_,_,_,rfl,hKc12,rfl,h9,h10,h11⟩ (.cons rfl (.cons rfl (.cons rfl (.cons rfl .nil)))) (by (try rw [←Jn hs k (by omega),hgd]);repeat (first | exact .refl | exact QN | refine Zf ?_ | refine .drop ?_ | refine Qf ?_))
 rintro E J23 loc' ⟨p9,p10,p11,rfl,hJ,rfl,h9,h10,h11⟩
 have hR:=hR.mono hJ;have hIc:=hIc.trans hJ
 refine Qq (zR ?_)
 refine zF Zs ?_
 refine zV (Qd rfl QA (fun hg=>by exact QG.imm h9.out rfl)) ?_
 refine zC ?_
 refine zM ?_
 refine Ze 3 rfl rfl rfl ?_
 refine zJ (Qa rfl Zs) ?_
 refine zJ (Qd rfl QA (fun hg=>by exact QG.imm h10.out rfl)) ?_
 refine zJ (QT rfl rfl rfl) ?_
 refine ZP rfl rfl rfl rfl rfl ?_
 refine zM ?_
 refine Ze 8 rfl rfl rfl ?_
 refine zJ (Qa rfl Zs) ?_
 refine zJ (Qd rfl QA (fun hg=>by exact QG.imm h11.out rfl)) ?_
 refine zJ (QT rfl rfl rfl) ?_
 refine ZP rfl rfl rfl rfl rfl ?_
 refine zN ?_
 refine zI ?_ ?_<;>intro hc80
 ·
  have hno:=(ziV hR hall hu hv hw4).1 hc80
  refine zR ?_
  refine zV (Qg rfl Zr (fun hg=>by exact Cells.g0) rfl) ?_
  refine zh VX ?_
  refine zA (zN (QF (Qi ?_)))
  exact Z1 rfl rfl rfl Zr zxb rfl (fun w hw=>⟨_,J23,[],rfl,hIc,by repeat (first | exact hw.drop | exact hw.subL Qe | exact hw.drop.drop),rfl,_,_,rfl,zfZ rfl rfl hno⟩)
 obtain ⟨q,qs,hT⟩:=(ziV hR hall hu hv hw4).2 hc80
 have hql:=hT.sl.len
 have hum:u.m≤100000:=by have h:=ztL hT hb (by omega);omega
 refine Qw (Qc (Qq (zR ?_)))
 refine zF Q5 ?_
 refine zV (Qd rfl ZI (fun hg=>by exact QG.imm h9.out rfl)) ?_
 refine zQ Yj ?_
 refine zM (zN (QD ?_))
 refine zU [(2,_),(10,_),(11,_),(83,_),(84,_)] (fun T L0 mz E I' loc'=>∃ (j:Nat) (v:Value) (L:Go.Kn.Loc),mz=u.m-j∧E=(85,.int .i64 j)::T∧HLe J23 I'∧L++[(b_2,.cells (fl2 hs v).toArray 45 (0,0))]=loc'∧j≤u.m∧Yp 3 1 v j (((qs.take j).map (·.n)).flatMap Yk) L∧(∀ i y,i<j→qs[i]? =some y→(y.k != 1)=false)) ?_ (h:=⟨0,_,[],rfl,rfl,zxd _,rfl,Nat.zero_le _,Yp.nil,fun j y h=>absurd h (Nat.not_lt_zero _)⟩)
 rintro mz E J24 loc' ⟨j,v,L,rfl,rfl,hJ,rfl,hj,hO,hall2⟩
 have h10:=h10.mono hJ;have h11:=h11.mono hJ;have hT:=hT.mono hJ;have hIc:=hIc.trans hJ
 have hB2:=hJ
 refine zR (zC (zN (Qq ?_)))
 refine zI ?_ ?_<;>intro hc86
 ·
  have hlt_j:j<u.m:=by have h:=hc86;simp at h;omega
  obtain ⟨z,hz⟩:∃ y,qs[j]? =some y:=⟨_,List.getElem?_eq_getElem (by omega)⟩
  refine Qw (Qc (Qq (QD (zR ?_))))
  refine zV (QV rfl rfl Yj hT.sl (fun hg=>by omega)) ?_
  refine zV (Qg rfl ZH (fun hg=>by exact zxe hT.sl hz) rfl) ?_
  refine Qt YX rfl rfl (fun b_13=>?_)
  refine zh ZT ?_
  refine Qb ?_
  refine QO .here (fun I25 hI25 hb25=>?_)
  have hT:=hT.mono hI25;have hIc:=hIc.trans hI25;have hB2:=hB2.trans hI25
  have h13:=BxI.of hb25
  refine Qc (Qq (zR ?_))
  refine zF Zs ?_
  refine zV (Qd rfl QA (fun hg=>by exact QG.imm h13.out rfl)) ?_
  refine zC (zN ?_)
  refine zI ?_ ?_<;>intro hc91
  ·
   have hno:=zq8 hT hz hc91
   obtain ⟨a0,c0,rfl⟩:=hO.shape
   refine zR ?_
   refine zV (Qg rfl Zr (fun hg=>by exact zxc .here) rfl) ?_
   refine Vm rfl rfl VX rfl rfl rfl rfl (by (repeat (first | exact Upd.here | apply Upd.there | apply Qx))) ?_
   refine zA (zN (QF (Qi (Qz (Qi (Qi (Qz ?_)))))))
   refine Qi ?_
   exact Z1 rfl rfl rfl Zr (.app .here) rfl (fun w hw=>⟨_,I25,[],rfl,hIc,by repeat (first | exact hw.drop | exact hw.subL Qe | exact hw.drop.drop),rfl,_,_,rfl,zfZ rfl rfl hno⟩)
  refine Qw (Qc (Qk ?_))
  refine zF Vv ?_
  refine zF Y6 ?_
  refine zV (Qd rfl Kb (fun hg=>by exact zw9 (QG.h0 rfl))) ?_
  refine zF YY ?_
  refine zV (Qd rfl QA (fun hg=>by exact QG.imm h13.out rfl)) ?_
  refine Ql (ps:=[(0,_)]) (m:=[Yk z.n]) Y9 rfl (.cons rfl (.nil)) rfl (by simp [Zx]) (by decide) (by decide) rfl rfl (fun b_98=>?_)
  refine QX (v:=_) (ys:=([z.n]:List Int).flatMap Yk) (L:=L) rfl rfl Y9 hO (by repeat (first | exact .cons .here .nil | exact Qu | exact Qr | apply Qp | apply Qo)) ⟨rfl,fun _=>rfl,by repeat (first | exact zxb | apply zxa | apply zxc)⟩ (zbh [z.n]) (by omega) rfl rfl ?_
  intro v2 L2 hO2 _;rw [←List.flatMap_append] at hO2;obtain ⟨a2,c2,rfl⟩:=hO2.shape
  refine zF Vv ?_
  refine zF Y6 ?_
  refine Zg rfl rfl zux rfl rfl (by (repeat (first | exact Upd.here | apply Upd.there | apply Qx))) rfl ?_
  refine Qb (Qn (Qc (Qk (zB ?_))))
  refine zM (Qb ?_)
  exact Zt _ _ ⟨u.m-(j+1),by omega,j+1,_,_,rfl,rfl,hB2,rfl,by omega,by rw [ZD hz,List.map_append];exact hO2,KO hz hall2 hc91⟩ (.cons rfl (.cons rfl (.cons rfl (.cons rfl (.cons rfl (.cons rfl .nil)))))) (by (try rw [←Jn hs k (by omega),hgd]);repeat (first | exact .refl | exact QN | refine Zf ?_ | refine .drop ?_ | refine Qf ?_))
 have hge_j:u.m≤j:=by have h:=hc86;simp at h;omega
 obtain rfl:j=u.m:=by omega
 have hke:qs.take u.m=qs:=List.take_of_length_le (by omega)
 rw [hke] at hO
 have hall2:∀ j y,j<qs.length→qs[j]? =some y→(y.k != 1)=false:=fun j y hj hy=>hall2 j y (by omega) hy
 refine Zy (Qs (Qs (QB (Qc (Qq ?_)))))
 have hD:=zxd J24
 refine ZL ?_
 refine Q0 J24 [] mixed ?_
 refine zT 0 rfl (Qa rfl YH) hD ?_
 refine zT 1 rfl (Qd rfl JP (fun hg=>by exact QG.imm h10.out rfl)) hD ?_
 refine zT 2 rfl (Qa rfl YH) hD ?_
 refine zT 3 rfl (Qd rfl JP (fun hg=>by exact QG.imm h11.out rfl)) hD ?_
 refine zT 4 rfl (Qa rfl YR) hD ?_
 refine zT 5 rfl (Qa rfl Uy) hD ?_
 refine qd 6 rfl ?_
 refine Zg rfl rfl zqk rfl rfl (by (repeat (first | exact Upd.here | apply Upd.there | apply Qx))) rfl ?_
 refine Qb ?_
 refine zD hD ?_
 refine zT 7 rfl (Qa rfl YR) hD ?_
 refine zT 8 rfl (Qa rfl Uq) hD ?_
 refine qd 9 rfl ?_
 refine Zg rfl rfl zqk rfl rfl (by (repeat (first | exact Upd.here | apply Upd.there | apply Qx))) rfl ?_
 refine Qb ?_
 refine zD hD ?_
 refine Qm (by kernel_rfl) ?_
 refine Qy ?_
 refine Qc (Qq ?_)
 refine Zw hO Zx (by decide) (by repeat (first | exact .cons .here .nil | exact Qu | exact Qr | apply Qp | apply Qo)) (fun I26 hI26 af26 cf26 ef26 hNd=>?_)
 subst ef26
 have hT:=hT.mono hI26;have hIc:=hIc.trans hI26
 refine zfc (loc':=[(b_2,.cells (Zn (WJ (zlU hs 42) af26 u.m cf26 (qs.map (·.n)) v3.s w4.s)).toArray 45 (0,0))]) (by rfl) ?_
 have hF:=zuP (a:=af26) (c:=cf26) hT hall2 hT.sl.len
 have hNd2:Nd I26 (WJ (zlU hs 42) af26 u.m cf26 (qs.map (·.n)) v3.s w4.s).pt:=hNd
 have hD:=zxd I26
 refine ZL ?_
 refine Q0 I26 [(b_2,.cells (Zn (WJ (zlU hs 42) af26 u.m cf26 (qs.map (·.n)) v3.s w4.s)).toArray 45 (0,0))] mixed ?_
 refine zT 0 rfl (Qg rfl Zr (fun hg=>by exact Cells.g0) rfl) hD ?_
 refine zT 1 rfl (Qg rfl Zr (fun hg=>by exact Cells.g0) rfl) hD ?_
 refine qd 2 rfl ?_
 refine qcV (vs:=[_]) rfl zaF (KD _ hNd2) ?_
 refine Qb ?_
 refine zD hD ?_
 refine qd 3 rfl ?_
 refine zh VX ?_
 refine Qb ?_
 refine zD hD ?_
 refine zT 4 rfl (QC rfl) hD ?_
 refine Qm (by kernel_rfl) ?_
 refine Qy ?_
 refine Qc (QF ?_)
 exact Z1 rfl rfl rfl Zr zxb rfl (fun w hw=>⟨_,I26,[],rfl,hIc,hw.drop,rfl,_,_,rfl,zpv hF hNd2⟩)
end
section
open Go Go.Kn Go.Proofs
def UK (xs:List Nt)(t:Nt):Nat:=(xs.takeWhile fun x=>decide (YN x t<0)).length
def zkM (xs:List Nt)(t:Nt):Prop:=∀ (k l:Nat) (x y:Nt),k≤l→xs[k]? =some x→xs[l]? =some y→YN y t<0→YN x t<0
theorem zqP {xs:List Nt}{t:Nt}{i:Nat}(hi:i≤xs.length)(h1:∀ k x,k<i→xs[k]? =some x→YN x t<0)(h2:∀ k x,i≤k→xs[k]? =some x→¬YN x t<0):UK xs t=i:=by
 unfold UK
 have e:xs.takeWhile (fun x=>decide (YN x t<0))=xs.take i:=by
  induction xs generalizing i with
  | nil=>simp
  | cons a l ih=>
   cases i with
   | zero=>
    have:=h2 0 a (Nat.le_refl _) rfl
    simp [List.takeWhile,this]
   | succ i=>
    have h:=h1 0 a (by omega) rfl
    simp only [List.takeWhile,h,decide_true,List.take_succ_cons]
    rw [ih (i:=i) (by simpa using hi) (fun k x hk hx=>h1 (k+1) x (by omega) hx) (fun k x hk hx=>h2 (k+1) x (by omega) hx)]
 rw [e,List.length_take];omega
theorem zq0 {xs:List Nt}{t:Nt}(hm:zkM xs t){i m:Nat}{y:Nt}(hy:xs[m]? =some y)(hc:YN y t<0):∀ k x,k<m+1→xs[k]? =some x→YN x t<0:=fun k x hk hx=>hm k m x y (by omega) hx hy hc
theorem zjE {xs:List Nt}{t:Nt}(hm:zkM xs t){m:Nat}{y:Nt}(hy:xs[m]? =some y)(hc:¬YN y t<0):∀ k x,m≤k→xs[k]? =some x→¬YN x t<0:=fun k x hk hx h=>hc (hm m k y x hk hy hx h)
def zcg (xs:List Nt)(t:Nt):Bool:=match xs[UK xs t]? with | some y=>YN y t==0 | none=>false
theorem zk3 {xs:List Nt}{t:Nt}{i:Nat}{y:Nt}(hp:UK xs t=i)(hy:xs[i]? =some y):zcg xs t=(YN y t==0):=by unfold zcg;rw [hp,hy]
theorem ztS {xs:List Nt}{t:Nt}{i:Nat}(hp:UK xs t=i)(hi:xs.length≤i):zcg xs t=false:=by unfold zcg;rw [hp,List.getElem?_eq_none hi]
structure Pe where
 a:Option Addr
 n:Nat
 c:Nat
 notes:List Nt
def UO (x:Pe):List Value:=[.slice x.a x.n x.c]
theorem zdN (x:Pe):(UO x).length=1:=rfl
theorem zsC (xs:List Pe):YZ (xs.flatMap UO)=true:=YV (fun _=>rfl) xs
def ze9 (xs:List Nt)(t:Nt):List Nt:=xs.take (UK xs t)++t::xs.drop (UK xs t)
theorem zfG (xs:List Nt)(t:Nt):UK xs t≤xs.length:=by
 unfold UK
 exact (List.takeWhile_sublist _).length_le
theorem zdb {I:Qv}{l:Go.Kn.Loc}{b i t:Nat}{fz:Nat×Nat}{cur:List Value}{v:Value}(h:cur[i]? =some v):QG I ((b,.cells cur.toArray t fz)::l) b ((i:Int).toNat*1+0) v:=by
 rw [Nat.add_zero,Nat.mul_one,Int.toNat_natCast]
 exact zw8 (by simpa [Jb] using h)
theorem zeT {cur:List Value}{i:Nat}{v:Value}(h:cur[i]? =some v):((i:Int).toNat*1+0).blt cur.toArray.size=true:=by
 rw [Nat.add_zero,Nat.mul_one,Int.toNat_natCast,List.size_toArray]
 have:=(List.getElem?_eq_some_iff.1 h).1
 exact Nat.ble_eq_true_of_le this
theorem zlB {cur:List Value}{i:Nat}{v:Value}:cur.toArray.setIfInBounds ((i:Int).toNat*1+0) v=(cur.set i v).toArray:=by
 rw [Nat.add_zero,Nat.mul_one,Int.toNat_natCast];simp
end
section
open Go Go.Kn Go.Proofs
theorem zlr:CvT Tryz.prog 216 3 .i64:=⟨by kernel_rfl,by kernel_rfl⟩
theorem zvP {I:Qv}{av:Option Addr}{n c:Nat}{xs:List Nt}{t:Nt}(hP:K9 I av n c xs)(hf:∀ x∈xs,Q7 x=true)(hT:NtM I t)(hm:zkM xs t)(hn:n≤100000):Yc Tryz.prog 173 [.slice av n c,JK t,.func (.func 81) #[] #[]] I (.tuple #[.int .i64 (UK xs t:Nat),.bool (zcg xs t)]):=by
 intro g H w hw
 refine qe Tryz.func173 Tryz.ntmps173 hw ?_
 have hIc:=zxd I
 have hln:=hP.sl.len
 refine zR ?_
 refine Zh rfl rfl rfl (fun b_4=>?_)
 refine zA ?_
 refine zA (Qb ?_)
 refine QO .here (fun I1 hI1 hb1=>?_)
 have hP:=hP.mono hI1;have hT:=hT.mono hI1;have hIc:=hIc.trans hI1
 have h4:=BxI.of hb1
 refine Qc (zR (zM ?_))
 refine zQ Zu ?_
 refine zA ?_
 refine zN (zR ?_)
 refine zM ?_
 refine zA ?_
 refine zA (zN (Qq (QD ?_)))
 refine zU [(0,_),(2,_),(4,_),(8,_)] (fun T L0 mz E I' loc'=>∃ (i j:Nat),mz=j-i∧E=(9,.int .i64 i)::(10,.int .i64 j)::T∧I1=I'∧L0=loc'∧i≤j∧j≤n∧(∀ k x,k<i→xs[k]? =some x→YN x t<0)∧(∀ k x,j≤k→xs[k]? =some x→¬YN x t<0)) ?_ (h:=⟨0,n,rfl,rfl,rfl,rfl,Nat.zero_le _,Nat.le_refl _,fun k x h=>absurd h (Nat.not_lt_zero _),fun k x hk hx=>by rw [List.getElem?_eq_none (by omega)] at hx;cases hx⟩)
 rintro mz E I' loc' ⟨i,j,rfl,rfl,rfl,rfl,hij,hjn,hlo,hup⟩
 refine Qq (zR (zM ?_))
 refine zM ?_
 refine zC (zN ?_)
 refine zI ?_ ?_<;>intro hc17
 ·
  have hlt:i<j:=by have h:=hc17;simp at h;omega
  obtain ⟨y,hy⟩:∃ y,xs[(i+j) / 2]? =some y:=⟨_,List.getElem?_eq_getElem (by omega)⟩
  have hym:y∈xs:=List.mem_of_getElem? hy
  refine Qw (Qc (QD (zR (zM ?_))))
  refine zM ?_
  refine zB ?_
  refine zV (Z6 rfl U9) ?_
  refine zV (zgt rfl rfl (by decide) (rfl:min _ _=1)) ?_
  refine zV (Z6 rfl zlr) ?_
  refine zA (Qb ?_)
  rw [zp0 i j (by omega)]
  refine Qc (Qq ?_)
  have hD:=zxd I1
  refine ZL ?_
  refine Q0 I1 [] mixed ?_
  refine zT 0 rfl (Qh rfl) hD ?_
  refine zT 1 rfl (Qh rfl) hD ?_
  refine zT 2 rfl (Qh rfl) hD ?_
  refine zT 3 rfl (QV rfl rfl Zu hP.sl (fun hg=>by omega)) hD ?_
  refine zT 4 rfl (Qg rfl Zr (fun hg=>by exact zxe (k:=(i+j) / 2) hP.sl hy) rfl) hD ?_
  refine zT 5 rfl (Qg rfl Zr (fun hg=>by exact BxI.cells (vs:=Zn t) h4) rfl) hD ?_
  refine qd 6 rfl ?_
  refine qcV (vs:=[_,_]) rfl zer (zeu (hP.m y hym (hf y hym)) hT) ?_
  refine Qb ?_
  refine zD hD ?_
  refine zT 7 rfl (QT rfl rfl rfl) hD ?_
  refine Qm (by kernel_rfl) ?_
  refine Qy ?_
  refine Qc ?_
  refine zI ?_ ?_<;>intro hc31
  ·
   refine Qk (zM ?_)
   refine zB ?_
   refine zA (Qb (Qn ?_))
   exact zm (h:=⟨j-((i+j) / 2+1),by omega,(i+j) / 2+1,j,rfl,rfl,rfl,rfl,by omega,hjn,zq0 (i:=i) hm hy (by simpa using hc31),hup⟩)
  refine Qk (zM ?_)
  refine zA (Qb (Qn ?_))
  exact zm (h:=⟨(i+j) / 2-i,by omega,i,(i+j) / 2,rfl,rfl,rfl,rfl,by omega,by omega,hlo,zjE hm hy (by simpa using hc31)⟩)
 have hge:j≤i:=by have h:=hc17;simp at h;omega
 have hje:j=i:=by omega
 subst hje
 have hpos:=zqP (by omega) hlo hup
 refine Zy (Qs (Qs (QB (Qc (Qq ?_)))))
 rcases (show j<n∨n≤j by omega) with hjl | hjl
 ·
  have hk0:decide ((j:Int)<(n:Int))=true:=by simp;omega
  obtain ⟨y,hy⟩:∃ y,xs[j]? =some y:=⟨_,List.getElem?_eq_getElem (by omega)⟩
  have hym:y∈xs:=List.mem_of_getElem? hy
  have hD:=zxd I1
  refine ZL ?_
  refine Q0 I1 [] mixed ?_
  refine zT 0 rfl (Qh rfl) hD ?_
  refine zT 1 rfl (Qh rfl) hD ?_
  refine zT 2 rfl (Qh rfl) hD ?_
  refine zT 3 rfl (QT rfl rfl rfl) hD ?_
  rw [hk0]
  refine zT 4 rfl (Qh rfl) hD ?_
  refine zw 5 39 rfl (Qh rfl) hD ?_
  refine zw 6 39 rfl (Qh rfl) hD ?_
  refine zw 7 39 rfl (Qh rfl) hD ?_
  refine zw 8 39 rfl (QV rfl rfl Zu hP.sl (fun hg=>by omega)) hD ?_
  refine zw 9 39 rfl (Qg rfl Zr (fun hg=>by exact zxe (k:=j) hP.sl hy) rfl) hD ?_
  refine zw 10 39 rfl (Qg rfl Zr (fun hg=>by exact BxI.cells (vs:=Zn t) h4) rfl) hD ?_
  refine qd 11 rfl ?_
  refine Q6 (dj:=39) rfl rfl rfl ?_
  refine qcV (vs:=[_,_]) rfl zer (zeu (hP.m y hym (hf y hym)) hT) ?_
  refine Qb ?_
  refine zD hD ?_
  refine zw 12 39 rfl (QT rfl rfl rfl) hD ?_
  refine zT 13 rfl (Zv rfl rfl rfl) hD ?_
  refine zT 14 rfl (QC rfl) hD ?_
  refine zT 15 rfl (QC rfl) hD ?_
  refine Qm (by kernel_rfl) ?_
  refine Qy ?_
  refine Qc (QF ?_)
  exact Vs rfl rfl rfl (fun w hw=>⟨by rw [hpos,zk3 hpos hy]<;>rfl,(hw.mono hIc).drop⟩)
 have hk0:decide ((j:Int)<(n:Int))=false:=by simp;omega
 have hD:=zxd I1
 refine ZL ?_
 refine Q0 I1 [] mixed ?_
 refine zT 0 rfl (Qh rfl) hD ?_
 refine zT 1 rfl (Qh rfl) hD ?_
 refine zT 2 rfl (Qh rfl) hD ?_
 refine zT 3 rfl (QT rfl rfl rfl) hD ?_
 rw [hk0]
 refine zT 4 rfl (Qh rfl) hD ?_
 refine zW 5 39 hD ?_
 refine zW 6 39 hD ?_
 refine zW 7 39 hD ?_
 refine zW 8 39 hD ?_
 refine zW 9 39 hD ?_
 refine zW 10 39 hD ?_
 refine zW 11 39 hD ?_
 refine zW 12 39 hD ?_
 refine zT 13 rfl (Kl rfl rfl rfl) hD ?_
 refine zT 14 rfl (QC rfl) hD ?_
 refine zT 15 rfl (QC rfl) hD ?_
 refine Qm (by kernel_rfl) ?_
 refine Qy ?_
 refine Qc (QF ?_)
 exact Vs rfl rfl rfl (fun w hw=>⟨by rw [hpos,ztS hpos (by omega)]<;>rfl,(hw.mono hIc).drop⟩)
end
section
open Go Go.Kn Go.Proofs
theorem zoz:ElT Tryz.prog 22 59 1 24:=.of (by kernel_rfl)
theorem zcx {I:Qv}{av:Option Addr}{n c:Nat}{xs:List Nt}(hS:Sl I 45 Zn av n c xs)(hn:n≤400000):Vi Tryz.prog 175 [.slice av n c] I [] (fun v I' L=>I'=I∧Yp 45 45 v n (xs.flatMap Zn) L):=by
 intro g H w hw
 refine qe Tryz.func175 Tryz.ntmps175 hw ?_
 refine zR (zA (zN (Qq (zR ?_))))
 refine zM ?_
 refine zV (zgm rfl rfl Zu) ?_
 refine zN ?_
 refine zI ?_ ?_<;>intro hc4
 ·
  have hn0:n=0:=Decidable.byContradiction fun h=>by have:=hS.base h;rw [this] at hc4;cases hc4
  have hl:=hS.len
  subst hn0
  have hx0:=List.eq_nil_of_length_eq_zero hl
  subst hx0
  refine zR (zA (zN (QF (Qi ?_))))
  exact QP rfl rfl (fun w hw=>⟨_,I,_,rfl,zxd _,hw,rfl,Yp.nil⟩)
 refine Qw (Qc (zR ?_))
 refine Ql (ps:=[]) (m:=[]) Ve rfl (.nil) rfl (by simp) (by decide) (by decide) rfl rfl (fun b_5=>?_)
 refine zM ?_
 refine QX (v:=_) (ys:=xs.flatMap Zn) (L:=[(b_5,_)]) rfl rfl Ve Yp.new (by repeat (first | exact .cons .here .nil | exact Qu | exact Qr | apply Qp | apply Qo)) (hS.src Q4) (Xf _) (by omega) rfl rfl ?_
 intro v1 L1 hO1 _;rw [List.nil_append,Nat.zero_add] at hO1
 refine zA (zN (QF ?_))
 exact QP rfl rfl (fun w hw=>⟨_,I,_,rfl,zxd _,hw.subL QN,rfl,hO1⟩)
theorem zj2 {I:Qv}{av:Option Addr}{n c:Nat}{xs:List Pe}(hS:Sl I 1 UO av n c xs)(hn:n≤400000):Vi Tryz.prog 52 [.slice av n c] I [] (fun v I' L=>I'=I∧Yp 59 1 v n (xs.flatMap UO) L):=by
 intro g H w hw
 refine qe Tryz.func52 Tryz.ntmps52 hw ?_
 refine zR (zA (zN (Qq (zR ?_))))
 refine zM ?_
 refine zV (zgm rfl rfl YJ) ?_
 refine zN ?_
 refine zI ?_ ?_<;>intro hc4
 ·
  have hn0:n=0:=Decidable.byContradiction fun h=>by have:=hS.base h;rw [this] at hc4;cases hc4
  have hl:=hS.len
  subst hn0
  have hx0:=List.eq_nil_of_length_eq_zero hl
  subst hx0
  refine zR (zA (zN (QF (Qi ?_))))
  exact QP rfl rfl (fun w hw=>⟨_,I,_,rfl,zxd _,hw,rfl,Yp.nil⟩)
 refine Qw (Qc (zR ?_))
 refine Ql (ps:=[]) (m:=[]) zoz rfl (.nil) rfl (by simp) (by decide) (by decide) rfl rfl (fun b_5=>?_)
 refine zM ?_
 refine QX (v:=_) (ys:=xs.flatMap UO) (L:=[(b_5,_)]) rfl rfl zoz Yp.new (by repeat (first | exact .cons .here .nil | exact Qu | exact Qr | apply Qp | apply Qo)) (hS.src zdN) (zsC _) (by omega) rfl rfl ?_
 intro v1 L1 hO1 _;rw [List.nil_append,Nat.zero_add] at hO1
 refine zA (zN (QF ?_))
 exact QP rfl rfl (fun w hw=>⟨_,I,_,rfl,zxd _,hw.subL QN,rfl,hO1⟩)
end
section
open Go Go.Kn Go.Proofs
theorem zpd:Fun Tryz.prog 173:=.of Tryz.func173 (by kernel_rfl) (by kernel_rfl)
theorem zeQ:Fun Tryz.prog 174:=.of Tryz.func174 (by kernel_rfl) (by kernel_rfl)
theorem zfm:Fun Tryz.prog 175:=.of Tryz.func175 (by kernel_rfl) (by kernel_rfl)
theorem zfT:SzT Tryz.prog 57 1:=.of (by kernel_rfl)
theorem zqo {I:Qv}{bc bp:Nat}{qa aa:Option Addr}{pn pc qn qc an ac:Nat}{cur:List Value}{i:Nat}{pe:Pe}{t:Nt}(hci:cur[i]? =some (.slice pe.a pe.n pe.c))(hi:i<pn)(hpn:pn≤100000)(hP:K9 I pe.a pe.n pe.c pe.notes)(hf:∀ x∈pe.notes,Q7 x=true)(hT:NtM I t)(hm:zkM pe.notes t)(hn:pe.n≤4096):KN Tryz.prog 109 [ZK bc,.int .i64 i,JK t] I [(bc,.cells #[.slice (some ⟨bp,0,none⟩) pn pc,.slice qa qn qc,.slice aa an ac] 108 (0,0)),(bp,.cells (cur).toArray 59 (0,0))] (fun v I' L'=>v= .tuple #[]∧((zcg pe.notes t=true∧L'=[(bc,.cells #[.slice (some ⟨bp,0,none⟩) pn pc,.slice qa qn qc,.slice aa an ac] 108 (0,0)),(bp,.cells (cur).toArray 59 (0,0))])∨(zcg pe.notes t=false∧pe.n<4096∧∃ a c,L'=[(bc,.cells #[.slice (some ⟨bp,0,none⟩) pn pc,.slice qa qn qc,.slice aa an ac] 108 (0,0)),(bp,.cells (cur.set i (.slice a (pe.n+1) c)).toArray 59 (0,0))]∧Sl I' 45 Zn a (pe.n+1) c (ze9 pe.notes t)))) (fun v=>v= .iface 50 (.int .i64 2)∧zcg pe.notes t=false∧¬pe.n<4096):=by
 intro g H w hw
 refine qe Tryz.func109 Tryz.ntmps109 hw ?_
 have hIc:=zxd I
 have hln:=hP.sl.len
 have hpl:=zfG pe.notes t
 refine zR ?_
 refine Zh rfl rfl rfl (fun b_5=>?_)
 refine Qb ?_
 refine QO .here (fun I1 hI1 hb1=>?_)
 have hP:=hP.mono hI1;have hT:=hT.mono hI1;have hIc:=hIc.trans hI1
 have h5:=BxI.of hb1
 refine Qc (zR (zM ?_))
 refine zV (QM rfl) ?_
 refine zF Ys ?_
 refine zF ZR ?_
 refine zL YW ?_
 refine zM ?_
 refine zV (KT rfl rfl YJ (fun hg=>by omega)) ?_
 refine zA (zN (Qq ?_))
 have hD:=zxd I1
 refine Q0 I1 [(bc,.cells #[.slice (some ⟨bp,0,none⟩) pn pc,.slice qa qn qc,.slice aa an ac] 108 (0,0)),(bp,.cells (cur).toArray 59 (0,0))] mixed ?_
 refine QR 0 rfl (Qh rfl) (.none rfl) rfl rfl rfl (by kernel_rfl) (by kernel_rfl) (by kernel_rfl) (by repeat (first | exact QU | with_reducible refine QS ?_ | with_reducible refine QJ ?_)) hD (by repeat (first | exact .refl | exact Qe | refine .keep ?_ | refine .drop ?_ | refine Qf ?_)) ?_
 refine QR 1 rfl (QM rfl) (.none rfl) rfl rfl rfl (by kernel_rfl) (by kernel_rfl) (by kernel_rfl) (by repeat (first | exact QU | with_reducible refine QS ?_ | with_reducible refine QJ ?_)) hD (by repeat (first | exact .refl | exact Qe | refine .keep ?_ | refine .drop ?_ | refine Qf ?_)) ?_
 refine QR 2 rfl (Qa rfl Ym) (.none rfl) rfl rfl rfl (by kernel_rfl) (by kernel_rfl) (by kernel_rfl) (by repeat (first | exact QU | with_reducible refine QS ?_ | with_reducible refine QJ ?_)) hD (by repeat (first | exact .refl | exact Qe | refine .keep ?_ | refine .drop ?_ | refine Qf ?_)) ?_
 refine QR 3 rfl (Qd rfl VW (fun hg=>by exact zw7 (zdb hci))) (.none rfl) rfl rfl rfl (by kernel_rfl) (by kernel_rfl) (by kernel_rfl) (by repeat (first | exact QU | with_reducible refine QS ?_ | with_reducible refine QJ ?_)) hD (by repeat (first | exact .refl | exact Qe | refine .keep ?_ | refine .drop ?_ | refine Qf ?_)) ?_
 refine QR 4 rfl (Qg rfl Zr (fun hg=>by exact BxI.cells (vs:=Zn t) h5) rfl) (.none rfl) rfl rfl rfl (by kernel_rfl) (by kernel_rfl) (by kernel_rfl) (by repeat (first | exact QU | with_reducible refine QS ?_ | with_reducible refine QJ ?_)) hD (by repeat (first | exact .refl | exact Qe | refine .keep ?_ | refine .drop ?_ | refine Qf ?_)) ?_
 refine qd 5 rfl ?_
 refine qcV (vs:=[_,_,_]) rfl zpd (zvP hP hf hT hm (by omega)) ?_
 refine Qb ?_
 refine zD hD ?_
 refine QR 6 rfl (Qh rfl) (.none rfl) rfl rfl rfl (by kernel_rfl) (by kernel_rfl) (by kernel_rfl) (by repeat (first | exact QU | with_reducible refine QS ?_ | with_reducible refine QJ ?_)) hD (by repeat (first | exact .refl | exact Qe | refine .keep ?_ | refine .drop ?_ | refine Qf ?_)) ?_
 refine QR 7 rfl (Q3 rfl rfl) (.none rfl) rfl rfl rfl (by kernel_rfl) (by kernel_rfl) (by kernel_rfl) (by repeat (first | exact QU | with_reducible refine QS ?_ | with_reducible refine QJ ?_)) hD (by repeat (first | exact .refl | exact Qe | refine .keep ?_ | refine .drop ?_ | refine Qf ?_)) ?_
 refine QR 8 rfl (Q3 rfl rfl) (.none rfl) rfl rfl rfl (by kernel_rfl) (by kernel_rfl) (by kernel_rfl) (by repeat (first | exact QU | with_reducible refine QS ?_ | with_reducible refine QJ ?_)) hD (by repeat (first | exact .refl | exact Qe | refine .keep ?_ | refine .drop ?_ | refine Qf ?_)) ?_
 refine QR 9 rfl (QC rfl) (.none rfl) rfl rfl rfl (by kernel_rfl) (by kernel_rfl) (by kernel_rfl) (by repeat (first | exact QU | with_reducible refine QS ?_ | with_reducible refine QJ ?_)) hD (by repeat (first | exact .refl | exact Qe | refine .keep ?_ | refine .drop ?_ | refine Qf ?_)) ?_
 refine QR 10 rfl (QC rfl) (.none rfl) rfl rfl rfl (by kernel_rfl) (by kernel_rfl) (by kernel_rfl) (by repeat (first | exact QU | with_reducible refine QS ?_ | with_reducible refine QJ ?_)) hD (by repeat (first | exact .refl | exact Qe | refine .keep ?_ | refine .drop ?_ | refine Qf ?_)) ?_
 refine Qm (by kernel_rfl) ?_
 refine Qc (Qq (zR (zM (zN ?_))))
 refine zI ?_ ?_<;>intro hc25
 ·
  refine QF (Qi ?_)
  exact Yv rfl (fun w hw=>.inl ⟨_,I1,_,rfl,hIc,hw,rfl,.inl ⟨hc25,rfl⟩⟩)
 refine Qw (Qc (zR (zM ?_)))
 refine zV (QM rfl) ?_
 refine zF Ym ?_
 refine zV (Qd rfl VW (fun hg=>by exact zw7 (zdb hci))) ?_
 refine zQ Zu ?_
 refine zC ?_
 refine ZN (cap:=[]) (vs:=[_,_]) rfl rfl JO .nil (K6 I1 (decide ((pe.n:Int)<4096)) 2) rfl rfl ?_ (fun pv hpv=>by (repeat (first | with_reducible refine Zz ?_ | with_reducible refine Zm ?_ | refine V6 ?_));refine ZE hIc ?_;exact (⟨hpv.1,hc25,by have h:=hpv.2;simp at h;omega⟩))
 rintro vv2 I2 L2 hI2 ⟨rfl,rfl,rfl,hok⟩
 have hP:=hP.mono hI2;have h5:=h5.mono hI2;have hIc:=hIc.trans hI2
 have hok2:pe.n<4096:=by have h:=hok;simp at h;omega
 refine zN ?_
 have hD:=zxd I2
 refine Q0 I2 [] mixed ?_
 refine QR 0 rfl (Qh rfl) (.none rfl) rfl rfl rfl (by kernel_rfl) (by kernel_rfl) (by kernel_rfl) (by repeat (first | exact QU | with_reducible refine QS ?_ | with_reducible refine QJ ?_)) hD (by repeat (first | exact .refl | exact Qe | refine .keep ?_ | refine .drop ?_ | refine Qf ?_)) ?_
 refine QR 1 rfl (Qh rfl) (.none rfl) rfl rfl rfl (by kernel_rfl) (by kernel_rfl) (by kernel_rfl) (by repeat (first | exact QU | with_reducible refine QS ?_ | with_reducible refine QJ ?_)) hD (by repeat (first | exact .refl | exact Qe | refine .keep ?_ | refine .drop ?_ | refine Qf ?_)) ?_
 refine QR 2 rfl (QM rfl) (.none rfl) rfl rfl rfl (by kernel_rfl) (by kernel_rfl) (by kernel_rfl) (by repeat (first | exact QU | with_reducible refine QS ?_ | with_reducible refine QJ ?_)) hD (by repeat (first | exact .refl | exact Qe | refine .keep ?_ | refine .drop ?_ | refine Qf ?_)) ?_
 refine QR 3 rfl (Qa rfl Ym) (.none rfl) rfl rfl rfl (by kernel_rfl) (by kernel_rfl) (by kernel_rfl) (by repeat (first | exact QU | with_reducible refine QS ?_ | with_reducible refine QJ ?_)) hD (by repeat (first | exact .refl | exact Qe | refine .keep ?_ | refine .drop ?_ | refine Qf ?_)) ?_
 refine QR 6 rfl (Qh rfl) (.none rfl) rfl rfl rfl (by kernel_rfl) (by kernel_rfl) (by kernel_rfl) (by repeat (first | exact QU | with_reducible refine QS ?_ | with_reducible refine QJ ?_)) hD (by repeat (first | exact .refl | exact Qe | refine .keep ?_ | refine .drop ?_ | refine Qf ?_)) ?_
 refine QR 7 rfl (Qg rfl Zr (fun hg=>by exact BxI.cells (vs:=Zn t) h5) rfl) (.none rfl) rfl rfl rfl (by kernel_rfl) (by kernel_rfl) (by kernel_rfl) (by repeat (first | exact QU | with_reducible refine QS ?_ | with_reducible refine QJ ?_)) hD (by repeat (first | exact .refl | exact Qe | refine .keep ?_ | refine .drop ?_ | refine Qf ?_)) ?_
 refine Q8 4 8 rfl rfl (by kernel_rfl) ?_ ?_
 ·
  refine zV (Qd rfl VW (fun hg=>by exact zw7 (zdb hci))) ?_
  refine Qb ?_
  refine zD hD ?_
  refine Q8 5 8 rfl rfl (by kernel_rfl) ?_ ?_
  ·
   refine QE (cap:=[]) (vs:=[_]) rfl rfl zfm .nil (zcx hP.sl (by omega)) rfl rfl ?_
   rintro vv3 I3 L3 hI3 ⟨rfl,hOc⟩
   have hP:=hP.mono hI3;have hIc:=hIc.trans hI3;have hD:=hD.trans hI3
   refine Qb ?_
   refine zD hD ?_
   refine qd 8 rfl ?_
   refine Ql (ps:=[(0,_)]) (m:=[Zn t]) Ve rfl (.cons rfl (.nil)) rfl (by simp [Q4]) (by decide) (by decide) rfl rfl (fun b_41=>?_)
   refine Qb ?_
   refine zD hD ?_
   refine qd 9 rfl ?_
   refine QE (cap:=[]) (vs:=[_,_,_]) rfl rfl zeQ (by exact ze6) (zao hOc (by omega) hP.sl.len (i:=UK pe.notes t) (by omega) b_41 t) rfl rfl ?_
   rintro vv4 I4 L4 hI4 ⟨rfl,hOi⟩
   have hIc:=hIc.trans hI4;have hD:=hD.trans hI4
   refine Qb ?_
   refine zD hD ?_
   refine QR 10 rfl (QM rfl) (.none rfl) rfl rfl rfl (by kernel_rfl) (by kernel_rfl) (by kernel_rfl) (by repeat (first | exact QU | with_reducible refine QS ?_ | with_reducible refine QJ ?_)) hD (by repeat (first | exact .refl | exact Qe | refine .keep ?_ | refine .drop ?_ | refine Qf ?_)) ?_
   refine QR 11 rfl (Qa rfl Ym) (.none rfl) rfl rfl rfl (by kernel_rfl) (by kernel_rfl) (by kernel_rfl) (by repeat (first | exact QU | with_reducible refine QS ?_ | with_reducible refine QJ ?_)) hD (by repeat (first | exact .refl | exact Qe | refine .keep ?_ | refine .drop ?_ | refine Qf ?_)) ?_
   refine qd 12 rfl ?_
   refine YM hOi Q4 (by decide) (by repeat (first | exact .cons .here .nil | exact Qu | exact Qr | apply Qp | apply Qo)) (fun I5 hI5 af5 cf5 ef5 hZ=>?_)
   subst ef5
   have hIc:=hIc.trans hI5;have hD:=hD.trans hI5
   refine Zg rfl rfl zfT rfl rfl Upd.u1 (zeT hci) ?_
   refine Qb ?_
   refine zD hD ?_
   refine Qm (by kernel_rfl) ?_
   exact YL (Yv rfl (fun w hw=>.inl ⟨_,I5,_,rfl,hIc,hw,rfl,.inr ⟨hc25,hok2,_,_,by rw [zlB],hZ⟩⟩))
  refine Ql (ps:=[(0,_)]) (m:=[Zn t]) Ve rfl (.cons rfl (.nil)) rfl (by simp [Q4]) (by decide) (by decide) rfl rfl (fun b_41=>?_)
  refine Qb ?_
  refine zD hD ?_
  refine qd 5 rfl ?_
  refine QE (cap:=[]) (vs:=[_]) rfl rfl zfm .nil (zcx hP.sl (by omega)) rfl rfl ?_
  rintro vv6 I6 L6 hI6 ⟨rfl,hOc⟩
  have hP:=hP.mono hI6;have hIc:=hIc.trans hI6;have hD:=hD.trans hI6
  refine Qb ?_
  refine zD hD ?_
  refine qd 9 rfl ?_
  refine QE (cap:=[]) (vs:=[_,_,_]) rfl rfl zeQ (by exact zas) (zao hOc (by omega) hP.sl.len (i:=UK pe.notes t) (by omega) b_41 t) rfl rfl ?_
  rintro vv7 I7 L7 hI7 ⟨rfl,hOi⟩
  have hIc:=hIc.trans hI7;have hD:=hD.trans hI7
  refine Qb ?_
  refine zD hD ?_
  refine QR 10 rfl (QM rfl) (.none rfl) rfl rfl rfl (by kernel_rfl) (by kernel_rfl) (by kernel_rfl) (by repeat (first | exact QU | with_reducible refine QS ?_ | with_reducible refine QJ ?_)) hD (by repeat (first | exact .refl | exact Qe | refine .keep ?_ | refine .drop ?_ | refine Qf ?_)) ?_
  refine QR 11 rfl (Qa rfl Ym) (.none rfl) rfl rfl rfl (by kernel_rfl) (by kernel_rfl) (by kernel_rfl) (by repeat (first | exact QU | with_reducible refine QS ?_ | with_reducible refine QJ ?_)) hD (by repeat (first | exact .refl | exact Qe | refine .keep ?_ | refine .drop ?_ | refine Qf ?_)) ?_
  refine qd 12 rfl ?_
  refine YM hOi Q4 (by decide) (by repeat (first | exact .cons .here .nil | exact Qu | exact Qr | apply Qp | apply Qo)) (fun I8 hI8 af8 cf8 ef8 hZ=>?_)
  subst ef8
  have hIc:=hIc.trans hI8;have hD:=hD.trans hI8
  refine Zg rfl rfl zfT rfl rfl Upd.u1 (zeT hci) ?_
  refine Qb ?_
  refine zD hD ?_
  refine Qm (by kernel_rfl) ?_
  exact YL (Yv rfl (fun w hw=>.inl ⟨_,I8,_,rfl,hIc,hw,rfl,.inr ⟨hc25,hok2,_,_,by rw [zlB],hZ⟩⟩))
 refine Ql (ps:=[(0,_)]) (m:=[Zn t]) Ve rfl (.cons rfl (.nil)) rfl (by simp [Q4]) (by decide) (by decide) rfl rfl (fun b_41=>?_)
 refine Qb ?_
 refine zD hD ?_
 refine qd 4 rfl ?_
 refine zV (Qd rfl VW (fun hg=>by exact zw7 (zw7 (zdb hci)))) ?_
 refine Qb ?_
 refine zD hD ?_
 refine qd 5 rfl ?_
 refine QE (cap:=[]) (vs:=[_]) rfl rfl zfm .nil (zcx hP.sl (by omega)) rfl rfl ?_
 rintro vv9 I9 L9 hI9 ⟨rfl,hOc⟩
 have hP:=hP.mono hI9;have hIc:=hIc.trans hI9;have hD:=hD.trans hI9
 refine Qb ?_
 refine zD hD ?_
 refine qd 9 rfl ?_
 refine QE (cap:=[]) (vs:=[_,_,_]) rfl rfl zeQ (by exact zas) (zao hOc (by omega) hP.sl.len (i:=UK pe.notes t) (by omega) b_41 t) rfl rfl ?_
 rintro vv10 I10 L10 hI10 ⟨rfl,hOi⟩
 have hIc:=hIc.trans hI10;have hD:=hD.trans hI10
 refine Qb ?_
 refine zD hD ?_
 refine QR 10 rfl (QM rfl) (.none rfl) rfl rfl rfl (by kernel_rfl) (by kernel_rfl) (by kernel_rfl) (by repeat (first | exact QU | with_reducible refine QS ?_ | with_reducible refine QJ ?_)) hD (by repeat (first | exact .refl | exact Qe | refine .keep ?_ | refine .drop ?_ | refine Qf ?_)) ?_
 refine QR 11 rfl (Qa rfl Ym) (.none rfl) rfl rfl rfl (by kernel_rfl) (by kernel_rfl) (by kernel_rfl) (by repeat (first | exact QU | with_reducible refine QS ?_ | with_reducible refine QJ ?_)) hD (by repeat (first | exact .refl | exact Qe | refine .keep ?_ | refine .drop ?_ | refine Qf ?_)) ?_
 refine qd 12 rfl ?_
 refine YM hOi Q4 (by decide) (by repeat (first | exact .cons .here .nil | exact Qu | exact Qr | apply Qp | apply Qo)) (fun I11 hI11 af11 cf11 ef11 hZ=>?_)
 subst ef11
 have hIc:=hIc.trans hI11;have hD:=hD.trans hI11
 refine Zg rfl rfl zfT rfl rfl Upd.u1 (zeT hci) ?_
 refine Qb ?_
 refine zD hD ?_
 refine Qm (by kernel_rfl) ?_
 exact YL (Yv rfl (fun w hw=>.inl ⟨_,I11,_,rfl,hIc,hw,rfl,.inr ⟨hc25,hok2,_,_,by rw [zlB],hZ⟩⟩))
end
section
open Go Go.Kn Go.Proofs
theorem YE:AgT Tryz.prog 28 3:=.of (by kernel_rfl)
theorem zoo:Fun Tryz.prog 58:=.of Tryz.func58 (by kernel_rfl) (by kernel_rfl)
theorem zgA:PlT Tryz.prog 28 #[(0,1),(1,2)] (.agg #[(.slice none 0 0),(.slice none 0 0),(.slice none 0 0)]):=⟨.of (by kernel_rfl),by kernel_rfl,fun w=>by kernel_rfl⟩
theorem YK:SzT Tryz.prog 28 3:=.of (by kernel_rfl)
theorem Kx:Vf Tryz.prog 28 (.agg #[(.slice none 0 0),(.slice none 0 0),(.slice none 0 0)]):=.of (by kernel_rfl)
theorem zoX:zwn Tryz.prog 22 59 24 (.agg #[.slice none 0 0]) (.slice none 0 0):=⟨by kernel_rfl,by kernel_rfl,by rfl⟩
theorem zgC (I:Qv):Yc Tryz.prog 58 [] I (zpA):=by
 intro g H w hw
 refine qe Tryz.func58 Tryz.ntmps58 hw ?_
 refine zR ?_
 refine Qt K4 rfl rfl (fun b_0=>?_)
 refine zN (zR ?_)
 refine zV (Qg rfl Z5 (fun hg=>by exact Cells.g0) rfl) ?_
 refine zh YB ?_
 refine zN (QF ?_)
 exact Y7 rfl rfl Z5 zxb rfl (fun w hw=>⟨by rfl,hw.drop⟩)
theorem zvG (I:Qv)(n:Int):Vi Tryz.prog 14 [.int .i64 n] I [] (fun v I' L'=>I'=I∧(((decide (n<1)||decide (n>24))=true∧L'=[]∧v= .tuple #[.agg #[.slice none 0 0,.slice none 0 0,.slice none 0 0],.int .i64 1])∨((decide (n<1)||decide (n>24))=false∧∃ b,L'=[(b,.cells (List.replicate n.toNat (Value.slice none 0 0)).toArray 59 (0,0))]∧v= .tuple #[.agg #[.slice (some ⟨b,0,none⟩) n.toNat n.toNat,.slice none 0 0,.slice none 0 0],.int .i64 0]))):=by
 intro g H w hw
 refine qe Tryz.func14 Tryz.ntmps14 hw ?_
 refine zR ?_
 refine Qt Kx rfl rfl (fun b_2=>?_)
 refine zA (zN (Qq (zR ?_)))
 refine zM ?_
 refine zC ?_
 refine zM ?_
 refine Ze 2 rfl rfl rfl ?_
 refine zJ (Qh rfl) ?_
 refine zJ (QT rfl rfl rfl) ?_
 refine ZP rfl rfl rfl rfl rfl ?_
 refine zN ?_
 refine zI ?_ ?_<;>intro hc9
 ·
  refine zR ?_
  refine zV (Qg rfl YE (fun hg=>by exact Cells.g0) rfl) ?_
  refine zh YK ?_
  refine zA (zN (QF (Qi ?_)))
  exact Z1 rfl rfl rfl YE zxb rfl (fun w hw=>⟨_,I,_,rfl,zxd _,hw.drop,rfl,.inl ⟨hc9,rfl,rfl⟩⟩)
 have h9:1≤n∧n≤24:=by have h:=hc9;simp at h;omega
 refine Qw (Qc (Qq ?_))
 have hD:=zxd I
 refine ZL ?_
 refine Q0 I [] mixed ?_
 refine zT 0 rfl (Qh rfl) hD ?_
 refine Q8 1 2 rfl rfl (by kernel_rfl) ?_ ?_
 ·
  refine Wv zoX rfl rfl (by omega) (by decide) rfl rfl (fun b_12=>?_)
  refine Qb ?_
  refine zD hD ?_
  refine qd 2 rfl ?_
  refine qcV (vs:=[]) rfl zoo (zgC _) ?_
  refine Qb ?_
  refine zD hD ?_
  refine zT 3 rfl (QZ (ps:=[(0,_),(1,_)]) [_,_,_] zgA rfl rfl) hD ?_
  refine qd 4 rfl ?_
  refine zh YK ?_
  refine Qb ?_
  refine zD hD ?_
  refine zT 5 rfl (QC rfl) hD ?_
  refine Qm (by kernel_rfl) ?_
  refine Qy ?_
  refine Qc (QF ?_)
  exact Z1 rfl rfl rfl YE (.there .here) rfl (fun w hw=>⟨_,I,_,rfl,zxd _,hw.subL (.keep (.drop .refl)),rfl,.inr ⟨hc9,_,rfl,rfl⟩⟩)
 refine qcV (vs:=[]) rfl zoo (zgC _) ?_
 refine Qb ?_
 refine zD hD ?_
 refine qd 1 rfl ?_
 refine Wv zoX rfl rfl (by omega) (by decide) rfl rfl (fun b_12=>?_)
 refine Qb ?_
 refine zD hD ?_
 refine zT 3 rfl (QZ (ps:=[(0,_),(1,_)]) [_,_,_] zgA rfl rfl) hD ?_
 refine qd 4 rfl ?_
 refine zh YK ?_
 refine Qb ?_
 refine zD hD ?_
 refine zT 5 rfl (QC rfl) hD ?_
 refine Qm (by kernel_rfl) ?_
 refine Qy ?_
 refine Qc (QF ?_)
 exact Z1 rfl rfl rfl YE (.there .here) rfl (fun w hw=>⟨_,I,_,rfl,zxd _,hw.subL (.keep (.drop .refl)),rfl,.inr ⟨hc9,_,rfl,rfl⟩⟩)
end
section
open Go Go.Kn Go.Proofs
theorem ziW:∀ a:List UInt8,Lib.compareBytes a a=0
 | []=>rfl
 | x::l=>by simp only [Lib.compareBytes,if_neg (UInt8.lt_irrefl x)];exact ziW l
theorem zpJ:∀ {a b:List UInt8},Lib.compareBytes a b=0→a=b
 | [],[],_=>rfl
 | [],_::_,h=>by simp [Lib.compareBytes] at h
 | _::_,[],h=>by simp [Lib.compareBytes] at h
 | x::a,y::b,h=>by
  unfold Lib.compareBytes at h
  split at h
  ·
   cases h
  ·
   rename_i h1
   split at h
   ·
    cases h
   ·
    rename_i h2
    have e:x=y:=UInt8.le_antisymm (UInt8.not_lt.1 h2) (UInt8.not_lt.1 h1)
    rw [e,zpJ h]
theorem zgR:∀ {a b c:List UInt8},Lib.compareBytes a b<0→Lib.compareBytes b c<0→Lib.compareBytes a c<0
 | [],[],_,h,_=>by simp [Lib.compareBytes] at h
 | _::_,[],_,h,_=>by simp [Lib.compareBytes] at h
 | _,_::_,[],_,h=>by simp [Lib.compareBytes] at h
 | [],_::_,_::_,_,_=>by simp [Lib.compareBytes]
 | x::a,y::b,z::c,h1,h2=>by
  unfold Lib.compareBytes at h1 h2 ⊢
  by_cases hxy:x<y
  ·
   by_cases hyz:y<z
   ·
    rw [if_pos (UInt8.lt_trans hxy hyz)];decide
   ·
    rw [if_neg hyz] at h2
    by_cases hzy:z<y
    ·
     rw [if_pos hzy] at h2;simp at h2
    ·
     have e:y=z:=UInt8.le_antisymm (UInt8.not_lt.1 hzy) (UInt8.not_lt.1 hyz)
     rw [←e,if_pos hxy];decide
  ·
   rw [if_neg hxy] at h1
   by_cases hyx:y<x
   ·
    rw [if_pos hyx] at h1;simp at h1
   ·
    rw [if_neg hyx] at h1
    have e:x=y:=UInt8.le_antisymm (UInt8.not_lt.1 hyx) (UInt8.not_lt.1 hxy)
    rw [e]
    by_cases hyz:y<z
    ·
     rw [if_pos hyz];decide
    ·
     rw [if_neg hyz] at h2 ⊢
     by_cases hzy:z<y
     ·
      rw [if_pos hzy] at h2;simp at h2
     ·
      rw [if_neg hzy] at h2 ⊢
      exact zgR h1 h2
theorem ziF:∀ (a b:List UInt8),Lib.compareBytes a b= - Lib.compareBytes b a
 | [],[]=>rfl
 | [],_::_=>rfl
 | _::_,[]=>rfl
 | x::a,y::b=>by
  unfold Lib.compareBytes
  by_cases hxy:x<y
  ·
   rw [if_pos hxy,if_neg (UInt8.lt_asymm hxy),if_pos hxy]
  ·
   rw [if_neg hxy]
   by_cases hyx:y<x
   ·
    rw [if_pos hyx,if_pos hyx];rfl
   ·
    rw [if_neg hyx,if_neg hyx,if_neg hxy];exact ziF a b
theorem Vx {x y z:Nt}(h1:YN x y<0)(h2:YN y z<0):YN x z<0:=zgR h1 h2
theorem JV (x:Nt):YN x x=0:=ziW _
theorem Ku (x y:Nt):YN x y= - YN y x:=ziF _ _
def zb6 (xs:List Nt):Prop:=∀ (k l:Nat) (x y:Nt),k<l→xs[k]? =some x→xs[l]? =some y→YN x y<0
theorem zb6.mono {xs:List Nt}(h:zb6 xs)(t:Nt):zkM xs t:=fun k l x y hkl hx hy hc=>by
 rcases Nat.lt_or_ge k l with h1 | h1
 ·
  exact Vx (h k l x y h1 hx hy) hc
 ·
  obtain rfl:k=l:=by omega
  rw [hx] at hy;cases hy;exact hc
theorem V5 {xs:List Nt}(h:Z3 xs=true):zb6 xs∧(∀ x∈xs,Q7 x=true)∧xs.length≤4096:=by
 unfold Z3 at h
 rw [Bool.and_eq_true,decide_eq_true_eq] at h
 obtain ⟨hg,hl⟩:=h
 have hall:=(WC xs []).1 hg
 have hf:∀ x∈xs,Q7 x=true:=fun x hx=>by
  obtain ⟨k,hk⟩:=List.mem_iff_getElem?.1 hx
  exact zdU (hall k x hk)
 have hstep:∀ (k:Nat) (x y:Nt),xs[k]? =some x→xs[k+1]? =some y→YN x y<0:=fun k x y hx hy=>by
  have h1:=hall (k+1) y hy
  rw [List.nil_append] at h1
  have e:(((k+1:Nat):Int)-1).toNat=k:=by omega
  rw [U8 (hf y (List.mem_of_getElem? hy)) (Nat.succ_pos k) (by rw [e];exact hx)] at h1
  simpa using h1
 refine ⟨?_,hf,hl⟩
 intro k l x y hkl hx hy
 induction l generalizing y with
 | zero=>omega
 | succ l ih=>
  rcases Nat.lt_or_ge k l with h1 | h1
  ·
   obtain ⟨z,hz⟩:∃ z,xs[l]? =some z:=⟨_,List.getElem?_eq_getElem (by have:=(List.getElem?_eq_some_iff.1 hy).1;omega)⟩
   exact Vx (ih z h1 hz) (hstep l z y hz hy)
  ·
   obtain rfl:k=l:=by omega
   exact hstep k x y hx hy
theorem zre {xs:List Nt}{t:Nt}:∀ k x,k<UK xs t→xs[k]? =some x→YN x t<0:=by
 unfold UK
 induction xs with
 | nil=>intro k x h;simp at h
 | cons a l ih=>
  intro k x hk hx
  by_cases h:YN a t<0
  ·
   simp only [List.takeWhile,h,decide_true] at hk
   cases k with
   | zero=>cases hx;exact h
   | succ k=>exact ih k x (by simpa using hk) hx
  ·
   simp [List.takeWhile,h] at hk
theorem zqa {xs:List Nt}{t x:Nt}(hx:xs[UK xs t]? =some x):¬YN x t<0:=by
 unfold UK at hx
 induction xs with
 | nil=>cases hx
 | cons a l ih=>
  by_cases h:YN a t<0
  ·
   simp only [List.takeWhile,h,decide_true,List.length_cons,List.getElem?_cons_succ] at hx
   exact ih hx
  ·
   simp only [List.takeWhile,h,decide_false,List.length_nil,List.getElem?_cons_zero,Option.some.injEq] at hx
   subst hx;exact h
theorem zpO {xs:List Nt}{t:Nt}(k:Nat):(ze9 xs t)[k]? =if k<UK xs t then xs[k]? else if k=UK xs t then some t else xs[k-1]? :=by
 have hp:=zfG xs t
 unfold ze9
 by_cases h1:k<UK xs t
 ·
  rw [if_pos h1,List.getElem?_append_left (by rw [List.length_take];omega),List.getElem?_take,if_pos h1]
 ·
  rw [if_neg h1,List.getElem?_append_right (by rw [List.length_take];omega),List.length_take,Nat.min_eq_left hp]
  by_cases h2:k=UK xs t
  ·
   rw [if_pos h2,h2,Nat.sub_self];rfl
  ·
   rw [if_neg h2,show k-UK xs t=(k-1-UK xs t)+1 by omega,List.getElem?_cons_succ,List.getElem?_drop]
   congr 1;omega
theorem zli {xs:List Nt}{t:Nt}(h:zb6 xs)(hh:zcg xs t=false):zb6 (ze9 xs t):=by
 have hgt:∀ k x,UK xs t≤k→xs[k]? =some x→YN t x<0:=fun k x hk hx=>by
  obtain ⟨y,hy⟩:∃ y,xs[UK xs t]? =some y:=⟨_,List.getElem?_eq_getElem (by have:=(List.getElem?_eq_some_iff.1 hx).1;omega)⟩
  have h1:=zqa hy
  have h2:YN y t≠0:=by
   have:=zk3 rfl hy
   rw [hh] at this
   simpa using this.symm
  have h3:YN t y<0:=by rw [Ku];omega
  rcases Nat.lt_or_ge (UK xs t) k with h4 | h4
  ·
   exact Vx h3 (h _ _ _ _ h4 hy hx)
  ·
   obtain rfl:k=UK xs t:=by omega
   rw [hy] at hx;cases hx;exact h3
 intro k l x y hkl hx hy
 rw [zpO] at hx hy
 split at hx
 ·
  rename_i hk
  split at hy
  ·
   exact h k l x y hkl hx hy
  ·
   split at hy
   ·
    cases hy;exact zre k x hk hx
   ·
    rename_i h2 h3
    exact h k (l-1) x y (by omega) hx hy
 ·
  rename_i hk
  split at hx
  ·
   rename_i hk2
   cases hx
   rw [if_neg (by omega),if_neg (by omega)] at hy
   exact hgt (l-1) y (by omega) hy
  ·
   rename_i hk2
   rw [if_neg (by omega),if_neg (by omega)] at hy
   exact h (k-1) (l-1) x y (by omega) hx hy
theorem UZ {xs:List Nt}{t x:Nt}:x∈ze9 xs t↔x=t∨x∈xs:=by
 unfold ze9
 rw [List.mem_append,List.mem_cons]
 conv=>rhs;rw [←List.take_append_drop (UK xs t) xs,List.mem_append]
 constructor
 ·
  rintro (h | h | h)
  ·
   exact .inr (.inl h)
  ·
   exact .inl h
  ·
   exact .inr (.inr h)
 ·
  rintro (h | h | h)
  ·
   exact .inr (.inl h)
  ·
   exact .inl h
  ·
   exact .inr (.inr h)
theorem ze1 {xs:List Nt}{t:Nt}:(ze9 xs t).length=xs.length+1:=by
 have:=zfG xs t
 unfold ze9
 rw [List.length_append,List.length_cons,List.length_take,List.length_drop];omega
theorem zrG {xs:List Nt}{t:Nt}(h:zcg xs t=true):∃ y∈xs,YN y t=0:=by
 unfold zcg at h
 split at h
 ·
  rename_i y hy;exact ⟨y,List.mem_of_getElem? hy,by simpa using h⟩
 ·
  cases h
mutual
theorem KK:∀ (v:Va),Va.ok v→∀ c∈Va.enc v,c<256
 | .int n,h,c,hc=>by
  simp only [Va.enc,List.mem_cons] at hc
  rcases hc with rfl | hc
  ·
   decide
  ·
   exact zbv c hc
 | .text s,h,c,hc=>by
  simp only [Va.enc,List.mem_cons,List.mem_append] at hc
  rcases hc with rfl | hc | hc
  ·
   decide
  ·
   exact zbv c hc
  ·
   exact h.1 c hc
 | .list l,h,c,hc=>by
  simp only [Va.enc,List.mem_cons,List.mem_append] at hc
  rcases hc with rfl | hc | hc
  ·
   decide
  ·
   exact zbv c hc
  ·
   exact zdY l h.2 c hc
theorem zdY:∀ (l:List Va),Va.okL l→∀ c∈Va.encL l,c<256
 | [],_,c,hc=>by cases hc
 | x::l,h,c,hc=>by
  simp only [Va.encL,List.mem_append] at hc
  rcases hc with hc | hc
  ·
   exact KK x h.1 c hc
  ·
   exact zdY l h.2 c hc
end
theorem zmU {a b:List Nat}(ha:∀ c∈a,c<256)(hb:∀ c∈b,c<256)(h:UE a=UE b):a=b:=by
 rw [←VV ha,←VV hb,h]
theorem zeR {x y:Nt}(hx:Va.ok (JW x))(hy:Va.ok (JW y))(h:YN x y=0):Z2 x=Z2 y:=by
 have h1:(XG x).data.toList=(XG y).data.toList:=zpJ h
 have h2:XG x=XG y:=by
  have e:(XG x).data=(XG y).data:=Array.toList_inj.1 h1
  have:∀ a b:ByteArray,a.data=b.data→a=b:=fun a b e=>by cases a;cases b;simp_all
  exact this _ _ e
 have h3:JU x=JU y:=zmU (KK _ hx) (KK _ hy) h2
 have d1:=zcj (JW x) (d:=16) (r:=[]) hx (Jg x)
 have d2:=zcj (JW y) (d:=16) (r:=[]) hy (Jg y)
 have h4:Va.enc (JW x)=Va.enc (JW y):=h3
 rw [h4,d2] at d1
 have h5:JW y=JW x:=by simpa using d1
 have r1:=zfa x
 rw [←h5,zfa y] at r1
 exact (Option.some.inj r1).symm
end
section
open Go Go.Kn Go.Proofs
structure PkM (I:Qv)(p:Pk):Prop where
 sl:Sl I 1 VL p.a p.n p.c p.data
 byte:∀ c∈p.data,c<256
theorem PkM.mono {I I':Qv}{p:Pk}(h:PkM I p)(hI:HLe I I'):PkM I' p:=⟨h.sl.mono hI,h.byte⟩
structure zh3 (I:Qv)(cur:List Value)(ps:List Pe):Prop where
 at_:∀ (i:Nat) (pe:Pe),ps[i]? =some pe→cur[i]? =some (.slice pe.a pe.n pe.c)
 nt:∀ pe∈ps,K9 I pe.a pe.n pe.c pe.notes
 ok:∀ pe∈ps,Z3 pe.notes=true
theorem zh3.mono {I I':Qv}{cur:List Value}{ps:List Pe}(h:zh3 I cur ps)(hI:HLe I I'):zh3 I' cur ps:=⟨h.at_,fun p hp=>(h.nt p hp).mono hI,h.ok⟩
theorem Wd {xs:List Nt}(hs:zb6 xs)(hf:∀ x∈xs,Q7 x=true)(hl:xs.length≤4096):Z3 xs=true:=by
 rw [zgM (fun j y hj hy=>?_)]
 ·
  simp only [decide_eq_true_eq];omega
 ·
  have hfy:=hf y (List.mem_of_getElem? hy)
  cases j with
  | zero=>exact zgZ hfy
  | succ j=>
   obtain ⟨z,hz⟩:∃ z,xs[j]? =some z:=⟨_,List.getElem?_eq_getElem (by omega)⟩
   rw [U8 (k:=j+1) hfy (Nat.succ_pos j) (y:=z) (by rw [show (((j+1:Nat):Int)-1).toNat=j by omega];exact hz)]
   have:=hs j (j+1) z y (by omega) hz hy
   simp;omega
/-! ### Notes without their heads -/
theorem X7 (x y:Nt):YN (Z2 x) (Z2 y)=YN x y:=rfl
theorem zgn (t:Nt):∀ xs:List Nt,UK (xs.map Z2) (Z2 t)=UK xs t:=by
 intro xs
 unfold UK
 induction xs with
 | nil=>rfl
 | cons a l ih=>
  simp only [List.map_cons,List.takeWhile]
  rw [X7]
  split
  ·
   simp only [List.length_cons];rw [ih]
  ·
   rfl
theorem zcq (xs:List Nt)(t:Nt):zcg (xs.map Z2) (Z2 t)=zcg xs t:=by
 unfold zcg
 rw [zgn,List.getElem?_map]
 cases xs[UK xs t]? <;>rfl
theorem znI (xs:List Nt)(t:Nt):ze9 (xs.map Z2) (Z2 t)=(ze9 xs t).map Z2:=by
 unfold ze9
 rw [zgn,List.map_append,List.map_cons,List.map_take,List.map_drop]
def dtP (ps:List Pe):List (List Nt):=ps.map fun pe=>pe.notes.map Z2
theorem zcX (ps:List Pe):(dtP ps).length=ps.length:=by simp [dtP]
theorem zaz {ps:List Pe}{i:Nat}{pe:Pe}(h:ps[i]? =some pe):(dtP ps)[i]? =some (pe.notes.map Z2):=by simp [dtP,h]
def zf3 (xs:List Nt)(t:Nt):Option (List Nt):=if zcg xs t=true then some xs else if xs.length<4096 then some (ze9 xs t) else none
def XI (P:List (List Nt))(i:Nat)(t:Nt):Option (List (List Nt)):=(P[i]?).bind fun xs=>(zf3 xs t).map fun ys=>P.set i ys
theorem zm3 {α:Type}{l:List α}{i:Nat}{x:α}(h:l[i]? =some x):l.set i x=l:=by
 obtain ⟨h1,h2⟩:=List.getElem?_eq_some_iff.1 h
 rw [←h2,List.set_getElem_self]
theorem zn4 {ps:List Pe}{i:Nat}{pe:Pe}{t:Nt}(h:ps[i]? =some pe)(hh:zcg pe.notes t=true):XI (dtP ps) i (Z2 t)=some (dtP ps):=by
 unfold XI zf3
 rw [zaz h,Option.bind_some,zcq,if_pos hh,Option.map_some,zm3 (zaz h)]
theorem zmZ {ps:List Pe}{i:Nat}{pe:Pe}{t:Nt}(h:ps[i]? =some pe)(hh:zcg pe.notes t=false)(hl:pe.notes.length<4096)(a:Option Addr)(n c:Nat):XI (dtP ps) i (Z2 t)=some (dtP (ps.set i ⟨a,n,c,ze9 pe.notes t⟩)):=by
 unfold XI zf3
 rw [zaz h,Option.bind_some,zcq,if_neg (by rw [hh];simp),if_pos (by simpa using hl),Option.map_some,znI]
 simp [dtP,List.map_set]
theorem zkV {ps:List Pe}{i:Nat}{pe:Pe}{t:Nt}(h:ps[i]? =some pe)(hh:zcg pe.notes t=false)(hl:¬pe.notes.length<4096):XI (dtP ps) i (Z2 t)=none:=by
 unfold XI zf3
 rw [zaz h,Option.bind_some,zcq,if_neg (by rw [hh];simp),if_neg (by simpa using hl)];rfl
theorem zh3.lrn {I I':Qv}{cur:List Value}{ps:List Pe}{i:Nat}{pe:Pe}{t:Nt}{a:Option Addr}{c:Nat}(h:zh3 I cur ps)(hI:HLe I I')(hx:ps[i]? =some pe)(hT:NtM I t)(ht:Q7 t=true)(hh:zcg pe.notes t=false)
  (hl:pe.n<4096)(hS:Sl I' 45 Zn a (pe.n+1) c (ze9 pe.notes t)):zh3 I' (cur.set i (.slice a (pe.n+1) c)) (ps.set i ⟨a,pe.n+1,c,ze9 pe.notes t⟩):=by
 have hm:=List.mem_of_getElem? hx
 have hP:=h.nt pe hm
 obtain ⟨v1,v2,v3⟩:=V5 (h.ok pe hm)
 have hlen:=hP.sl.len
 refine ⟨fun j q hq=>?_,fun q hq=>?_,fun q hq=>?_⟩
 ·
  rw [List.getElem?_set] at hq
  split at hq
  ·
   rename_i e
   subst e
   split at hq
   ·
    cases hq
    rw [List.getElem?_set_self (by
     have:=(List.getElem?_eq_some_iff.1 (h.at_ i pe hx)).1
     exact this)]
   ·
    cases hq
  ·
   rename_i e
   rw [List.getElem?_set_ne e];exact h.at_ j q hq
 ·
  rcases List.mem_or_eq_of_mem_set hq with hq | rfl
  ·
   exact (h.nt q hq).mono hI
  ·
   refine ⟨hS,fun x hx=>?_,fun x hx hf=>?_⟩
   ·
    rcases UZ.1 hx with rfl | hx
    ·
     exact hT.nd.mono hI
    ·
     exact (hP.nd x hx).mono hI
   ·
    rcases UZ.1 hx with rfl | hx
    ·
     exact hT.mono hI
    ·
     exact (hP.m x hx hf).mono hI
 ·
  rcases List.mem_or_eq_of_mem_set hq with hq | rfl
  ·
   exact h.ok q hq
  ·
   refine Wd (zli v1 hh) (fun x hx=>?_) (by rw [ze1];omega)
   rcases UZ.1 hx with rfl | hx
   ·
    exact ht
   ·
    exact v2 x hx
end
section
open Go Go.Kn Go.Proofs
def Vz (p:Pk):Pk:={p with a:=none,n:=p.data.length,c:=0}
structure Rd where
 ps:List (List Nt)
 qs:List Pk
 ks:List (Int×Int)
def zeroR:Rd:=⟨[],[],[]⟩
def Ub (m:Nat)(p:Pk):Bool:= !(okN p.data).isSome||decide (zd4 p.frm p.to_≥(m:Int))
def zdz (r:Rd):Int:=
 if ((decide ((r.ps.length:Int)<1)||decide ((r.ps.length:Int)>24))||K1 r.qs r.ks != 0)=true then 570
 else if r.ps.any (fun xs=> !Z3 xs)=true then 570
 else if r.qs.any (Ub r.ps.length)=true then 570 else 0
def pkN (i k:Int)(t:Nt):Pk:=⟨i,k,none,(JU t).length,0,JU t⟩
def JS (m:Nat)(i:Int)(t:Nt):List Pk:=((List.range m).filter fun (k:Nat)=>(k:Int) != i).map fun (k:Nat)=>pkN i k t
def isP (r:Rd)(i:Int):Bool:=decide (i≥0)&&decide (i<(r.ps.length:Int))
def KR (r:Rd)(x:Ev):Int×Rd:=
 if isP r x.peer=true then
  if Q7 x.note=true then (match XI r.ps x.peer.toNat x.note with
   | none=>(2,zeroR)
   | some P=>(0,⟨P,r.qs++JS r.ps.length x.peer x.note,r.ks⟩))
  else (570,zeroR)
 else (1,zeroR)
def WT (r:Rd)(x:Ev):Int×Rd:=
 if (isP r x.peer&&isP r x.to_&&x.peer != x.to_)=true then (0,⟨r.ps,r.qs++(r.ps.getD x.peer.toNat []).map (pkN x.peer x.to_),r.ks⟩) else (1,zeroR)
def zaM (r:Rd)(x:Ev):Int×Rd:=
 if atE r.qs r.ks x.at_≠0 then (atE r.qs r.ks x.at_,zeroR)
 else if (V8 r.qs r.ks x.at_).frm=(V8 r.qs r.ks x.at_).to_ then (0,⟨r.ps,r.qs.eraseIdx x.at_.toNat,r.ks⟩)
 else match (okN (V8 r.qs r.ks x.at_).data).bind (XI r.ps (V8 r.qs r.ks x.at_).to_.toNat) with
  | none=>(2,zeroR)
  | some P=>(0,⟨P,r.qs.eraseIdx x.at_.toNat,r.ks⟩)
def zbG (r:Rd)(x:Ev):Int×Rd:=if atE r.qs r.ks x.at_≠0 then (atE r.qs r.ks x.at_,zeroR) else (0,⟨r.ps,r.qs.eraseIdx x.at_.toNat,r.ks⟩)
def zaI (r:Rd)(x:Ev):Int×Rd:=if UD r.qs r.ks x.at_≠0 then (UD r.qs r.ks x.at_,zeroR) else (0,⟨r.ps,r.qs++[atP r.qs r.ks x.at_],r.ks⟩)
def XJ (r:Rd)(x:Ev):Int×Rd:=
 if x.kind=1 then KR r x else if x.kind=2 then WT r x else if x.kind=3 then zaM r x else if x.kind=4 then zbG r x else if x.kind=5 then zaI r x else (1,zeroR)
def doF (r:Rd)(x:Ev):Int×Rd:=if zdz r≠0 then (zdz r,zeroR) else XJ r x
def Yx (x:Ev):Ev:={x with note:=Z2 x.note}
structure RmP (I:Qv)(pa:Option Addr)(pn pc:Nat)(qa:Option Addr)(qn qc:Nat)(aa:Option Addr)(an ac:Nat)(ps:List Pe)(qs:List Pk)(ks:List (Int×Int)):Prop where
 pe:Sl I 1 UO pa pn pc ps
 nt:∀ x∈ps,K9 I x.a x.n x.c x.notes
 q:Sl I 3 ZQ qa qn qc qs
 pk:∀ x∈qs,PkM I x
 k:Sl I 2 Ky aa an ac ks
theorem RmP.mono {I I':Qv}{pa qa aa:Option Addr}{pn pc qn qc an ac:Nat}{ps:List Pe}{qs:List Pk}{ks:List (Int×Int)}(h:RmP I pa pn pc qa qn qc aa an ac ps qs ks)(hI:HLe I I'):RmP I' pa pn pc qa qn qc aa an ac ps qs ks:=
 ⟨h.pe.mono hI,fun x hx=>(h.nt x hx).mono hI,h.q.mono hI,fun x hx=>(h.pk x hx).mono hI,h.k.mono hI⟩
def Vr (ps:List Pe)(qs:List Pk)(ks:List (Int×Int)):Rd:=⟨dtP ps,qs.map Vz,ks⟩
def RmV (I:Qv)(v:Value)(r:Rd):Prop:=∃ pa pn pc qa qn qc aa an ac ps qs,v= .agg #[.slice pa pn pc,.slice qa qn qc,.slice aa an ac]∧RmP I pa pn pc qa qn qc aa an ac ps qs r.ks∧Vr ps qs r.ks=r
theorem zax {I:Qv}{a:Option Addr}{n c:Nat}{xs:List Nt}(h:K9 I a n c xs):Z3 (xs.map Z2)=Z3 xs:=by
 have hf:∀ x∈xs,Q7 (Z2 x)=Q7 x:=fun x hx=>Jd (by
  have h1:Sl I 1 Yk x.pt.a x.pt.n x.pt.c x.pt.needs:=h.nd x hx
  exact h1.len.symm)
 have hb:∀ (pre:List Nt) (x:Nt),x∈xs→zcZ (pre.map Z2) (Z2 x)=zcZ pre x:=fun pre x hx=>by
  unfold zcZ
  rw [hf x hx,List.getLast?_map]
  cases pre.getLast? with
  | none=>rfl
  | some y=>simp only [Option.map_some,X7];rfl
 have hg:∀ (ys pre:List Nt),(∀ y∈ys,y∈xs)→zbm (pre.map Z2) (ys.map Z2)=zbm pre ys:=by
  intro ys
  induction ys with
  | nil=>intro pre _;rfl
  | cons y ys ih=>
   intro pre hys
   rw [List.map_cons,zbm,zbm,hb pre y (hys y (List.mem_cons_self ..)),←ih (pre++[y]) (fun z hz=>hys z (List.mem_cons_of_mem _ hz))]
   simp
 unfold Z3
 rw [←hg xs [] (fun _ h=>h)]
 simp
theorem ze4 {α β:Type}{f:α→β}{p:β→Bool}{q:α→Bool}{xs:List α}(h:∀ x∈xs,p (f x)=q x):(xs.map f).any p=xs.any q:=by
 rw [List.any_map]
 exact zgr h
theorem zjk {I:Qv}{p:Pk}(h:PkM I p):pkV (Vz p)=pkV p:=by
 have:=h.sl.len
 unfold pkV Vz
 simp only [this]
theorem WO {I:Qv}{qs:List Pk}(h:∀ x∈qs,PkM I x)(ks:List (Int×Int)):K1 (qs.map Vz) ks=K1 qs ks:=by
 unfold K1
 rw [ze4 (q:=fun x=> !pkV x) (fun x hx=>by simp only [zjk (h x hx)]),List.length_map]
theorem UU {I:Qv}{qs:List Pk}(h:∀ x∈qs,PkM I x)(ks:List (Int×Int))(i:Int):atE (qs.map Vz) ks i=atE qs ks i:=by
 unfold atE
 rw [WO h,List.length_map]
theorem zfS {I:Qv}{qs:List Pk}(h:∀ x∈qs,PkM I x)(ks:List (Int×Int))(i:Int):atP (qs.map Vz) ks i=Vz (atP qs ks i):=by
 unfold atP
 rw [UU h]
 split
 ·
  rw [List.getD_eq_getElem?_getD,List.getD_eq_getElem?_getD,List.getElem?_map]
  cases qs[i.toNat]? <;>rfl
 ·
  rfl
theorem zf9 {I:Qv}{qs:List Pk}(h:∀ x∈qs,PkM I x)(ks:List (Int×Int))(i:Int):V8 (qs.map Vz) ks i=Vz (V8 qs ks i):=by
 unfold V8
 rw [zfS h]
 have e:zoH ks (Vz (atP qs ks i))=zoH ks (atP qs ks i):=rfl
 rw [e]
 split<;>rfl
theorem zgQ {I:Qv}:PkM I za1:=⟨.nil,fun _ h=>by cases h⟩
theorem zo0 {I:Qv}{qs:List Pk}(h:∀ x∈qs,PkM I x)(ks:List (Int×Int))(i:Int):PkM I (atP qs ks i):=by
 unfold atP
 split
 ·
  rw [List.getD_eq_getElem?_getD]
  cases hx:qs[i.toNat]? with
  | none=>exact zgQ
  | some x=>exact h x (List.mem_of_getElem? hx)
 ·
  exact zgQ
theorem zdt {I:Qv}{qs:List Pk}(h:∀ x∈qs,PkM I x)(ks:List (Int×Int)){p:Pk}(hp:PkM I p):KX (qs.map Vz) ks (Vz p)=KX qs ks p:=by
 unfold KX
 rw [WO h,zjk hp,List.length_map]
theorem zhb {I:Qv}{qs:List Pk}(h:∀ x∈qs,PkM I x)(ks:List (Int×Int))(i:Int):UD (qs.map Vz) ks i=UD qs ks i:=by
 unfold UD
 rw [UU h,zfS h,zdt h _ (zo0 h ks i)]
theorem U7 {α β:Type}(f:α→β):∀ (l:List α) (j:Nat),(l.map f).eraseIdx j=(l.eraseIdx j).map f
 | [],_=>rfl
 | _::_,0=>rfl
 | x::l,j+1=>by simp [U7 f l j]
end
section
open Go Go.Kn Go.Proofs
structure NtW (x:Nt):Prop where
 ints:∀ y∈VE x, -9223372036854775808≤y∧y≤9223372036854775807
 needs:∀ y∈x.pt.needs, -9223372036854775808≤y∧y≤9223372036854775807
theorem znS {xs:List S.Rt}{x:S.Rt}:∀ {bs:List (Int×S.Rt)} {last:Int},S.rGo (xs++[x]) bs last=0→∃ bs' last',S.rBad x bs' last'=false:=by
 induction xs with
 | nil=>
  intro bs last h
  simp only [List.nil_append,S.rGo] at h
  split at h
  ·
   cases h
  ·
   rename_i hb;exact ⟨bs,last,by simpa using hb⟩
 | cons y ys ih=>
  intro bs last h
  simp only [List.cons_append,S.rGo] at h
  split at h
  ·
   cases h
  ·
   exact ih h
theorem zm1 {x:S.Rt}(h:S.rCheck (rtC x)=0):x.name.size≤32∧x.town.size≤32:=by
 obtain ⟨xs,hxs⟩:∃ xs,rtC x=xs++[x]:=by
  unfold rtC
  split
  ·
   exact ⟨[],rfl⟩
  ·
   exact ⟨[_],rfl⟩
 rw [hxs] at h
 unfold S.rCheck at h
 split at h
 ·
  cases h
 ·
  obtain ⟨bs,last,hb⟩:=znS h
  unfold S.rBad at hb
  simp only [Bool.or_eq_false_iff,Bool.not_eq_false'] at hb
  have ha:=hb.2
  have hheld:S.heldF x=true→x.name.size≤32∧x.town.size≤32:=fun h=>by
   unfold S.heldF at h
   simp only [Bool.and_eq_true] at h
   have e:=S.rtEq_iff.1 h.1.1.1
   have e1:x.name=⟨#[]⟩:=congrArg S.Rt.name e
   have e2:x.town=⟨#[]⟩:=congrArg S.Rt.town e
   rw [e1,e2];exact ⟨by decide,by decide⟩
  unfold S.askF at ha
  split at ha
  ·
   unfold S.billF S.within at ha
   simp only [Bool.and_eq_true,decide_eq_true_eq] at ha
   omega
  ·
   split at ha
   ·
    exact hheld ha
   ·
    split at ha
    ·
     exact hheld ha
    ·
     unfold S.voidF at ha
     split at ha
     ·
      cases ha
     ·
      simp only [Bool.and_eq_true] at ha
      have e:=S.rtEq_iff.1 ha.2
      have e1:x.name=⟨#[]⟩:=congrArg S.Rt.name e
      have e2:x.town=⟨#[]⟩:=congrArg S.Rt.town e
      rw [e1,e2];exact ⟨by decide,by decide⟩
theorem W0 {x:Nt}(hl:x.pt.needs.length=x.pt.n)(h:Q7 x=true):x.pt.needs.length≤32∧x.rt.name.size≤32∧x.rt.town.size≤32:=by
 unfold Q7 at h
 simp only [Bool.and_eq_true,beq_iff_eq] at h
 obtain ⟨h1,h2⟩:=h
 unfold zf4 at h2
 simp only [Bool.and_eq_true,Bool.or_eq_true,beq_iff_eq] at h2
 obtain ⟨⟨⟨_,h3⟩,_⟩,h5⟩:=h2
 constructor
 ·
  rcases h3 with hk | hz
  ·
   unfold zbF at h1
   rw [if_neg (by omega),if_pos hk] at h1
   unfold KL at h1
   split at h1
   ·
    cases h1
   ·
    omega
  ·
   unfold z2 at hz
   simp only [Bool.and_eq_true,beq_iff_eq] at hz
   omega
 ·
  rcases h5 with hk | hz
  ·
   unfold zbF at h1
   rw [if_neg (by omega),if_neg (by omega),if_neg (by omega),if_pos hk] at h1
   exact zm1 h1
  ·
   have e:=S.rtEq_iff.1 hz
   rw [e];exact ⟨by decide,by decide⟩
theorem zef:∀ {l:List Va},(∀ v∈l,Va.ok v)→Va.okL l
 | [],_=>trivial
 | x::l,h=>⟨h x (List.mem_cons_self ..),zef fun v hv=>h v (List.mem_cons_of_mem _ hv)⟩
theorem KC {b:Nat}:∀ {l:List Va},(∀ v∈l,(Va.enc v).length≤b)→(Va.encL l).length≤l.length*b
 | [],_=>by simp [Va.encL]
 | x::l,h=>by
  have h1:=h x (List.mem_cons_self ..)
  have h2:=KC (l:=l) fun v hv=>h v (List.mem_cons_of_mem _ hv)
  simp only [Va.encL,List.length_append,List.length_cons,Nat.succ_mul];omega
theorem KF {n:Int}(h: -9223372036854775808≤n∧n≤9223372036854775807):(Va.enc (.int n)).length≤11:=by
 have:=KJ (zkr h)
 simp only [Va.enc,List.length_cons];omega
theorem Jf (s:ByteArray):(Kv s).length=s.size:=by
 unfold Kv
 rw [List.length_map,Array.length_toList];rfl
theorem zcB (s:ByteArray):∀ c∈Kv s,c<256:=by
 intro c hc
 unfold Kv at hc
 obtain ⟨u,_,rfl⟩:=List.mem_map.1 hc
 exact u.toNat_lt
theorem Kg {s:List Nat}(h:s.length≤32):(Va.enc (.text s)).length≤34:=by
 rw [Va.enc,Vh (by omega)]
 simp only [List.length_cons,List.length_append,List.length_nil];omega
theorem zc0 {x:Nt}(hw:NtW x)(hl:x.pt.needs.length=x.pt.n)(h:Q7 x=true):Va.ok (JW x)∧(JU x).length≤2000:=by
 obtain ⟨s1,s2,s3⟩:=W0 hl h
 have hok:∀ v∈(VE x).map Va.int,Va.ok v:=fun v hv=>by
  obtain ⟨y,hy,rfl⟩:=List.mem_map.1 hv
  exact hw.ints y hy
 have hon:∀ v∈x.pt.needs.map Va.int,Va.ok v:=fun v hv=>by
  obtain ⟨y,hy,rfl⟩:=List.mem_map.1 hv
  exact hw.needs y hy
 have hb:(Va.encL ((VE x).map Va.int)).length≤462:=by
  have:=KC (b:=11) (l:=(VE x).map Va.int) fun v hv=>by
   obtain ⟨y,hy,rfl⟩:=List.mem_map.1 hv
   exact KF (hw.ints y hy)
  rw [List.length_map,YT] at this;omega
 have hn:(Va.encL (x.pt.needs.map Va.int)).length≤352:=by
  have:=KC (b:=11) (l:=x.pt.needs.map Va.int) fun v hv=>by
   obtain ⟨y,hy,rfl⟩:=List.mem_map.1 hv
   exact KF (hw.needs y hy)
  rw [List.length_map] at this
  have h2:=Nat.mul_le_mul_right 11 s1
  omega
 constructor
 ·
  refine ⟨by simp [YT],zef fun v hv=>?_⟩
  rw [List.mem_append] at hv
  rcases hv with hv | hv
  ·
   exact hok v hv
  ·
   simp only [List.mem_cons,List.not_mem_nil,or_false] at hv
   rcases hv with rfl | rfl | rfl
   ·
    exact ⟨by rw [List.length_map];omega,zef hon⟩
   ·
    exact ⟨zcB _,by rw [Jf];omega⟩
   ·
    exact ⟨zcB _,by rw [Jf];omega⟩
 ·
  have e1:=Kg (s:=Kv x.rt.name) (by rw [Jf];exact s2)
  have e2:=Kg (s:=Kv x.rt.town) (by rw [Jf];exact s3)
  have e3:(Va.enc (.list (x.pt.needs.map Va.int))).length≤354:=by
   rw [Va.enc,List.length_map,Vh (by omega)]
   simp only [List.length_cons,List.length_append,List.length_nil];omega
  unfold JU JW
  rw [Va.enc,Vh (by simp [YT])]
  simp only [List.length_cons,List.length_append,List.length_nil,Va.encL_append,Va.encL];omega
theorem zfW {I:Qv}{x:Nt}(hw:NtW x)(hN:Nd I x.pt)(h:Q7 x=true):NtM I x:=by
 have hl:Sl I 1 Yk x.pt.a x.pt.n x.pt.c x.pt.needs:=hN
 obtain ⟨h1,h2⟩:=zc0 hw hl.len h
 have:=(W0 hl.len h).1
 have:=hl.len
 exact ⟨hN,by omega,h1,by omega⟩
theorem zte {x:Nt}(hok:Va.ok (JW x))(h:Q7 (Z2 x)=true):okN (JU x)=some (Z2 x):=by
 have d:=zcj (JW x) (d:=16) (r:=[]) hok (Jg x)
 rw [List.append_nil] at d
 unfold okN zbE
 show (match Kq 16 (Va.enc (JW x)) with | some (x,[])=>some x | _=>none).bind _=_
 rw [d]
 simp only [Option.bind_some]
 rw [zfa,Option.bind_some,if_pos h]
end
section
open Go Go.Kn Go.Proofs
def TkN (t:Nt):Prop:=Va.ok (JW t)∧Q7 (Z2 t)=true∧(JU t).length≤2000
structure PkG (m:Nat)(told:List Nt)(p:Pk):Prop where
 frm:0≤p.frm∧p.frm<(m:Int)
 to_:0≤p.to_∧p.to_<(m:Int)
 ne:p.frm≠p.to_
 n:p.n=p.data.length
 data:∃ t∈told,p.data=JU t
structure Kn (m:Nat)(r:Rd)(told:List Nt):Prop where
 m0:1≤m∧m≤24
 len:r.ps.length=m
 ks:r.ks=[]
 val:∀ xs∈r.ps,Z3 xs=true
 mem:∀ xs∈r.ps,∀ y∈xs,∃ t∈told,Z2 t=y
 pk:∀ p∈r.qs,PkG m told p
 tok:∀ t∈told,TkN t
theorem WS {t:Nt}(h:TkN t):okN (JU t)=some (Z2 t):=zte h.1 h.2.1
theorem PkG.read {m:Nat}{told:List Nt}{p:Pk}(h:PkG m told p)(ht:∀ t∈told,TkN t):∃ t∈told,okN p.data=some (Z2 t):=by
 obtain ⟨t,h1,h2⟩:=h.data
 exact ⟨t,h1,by rw [h2];exact WS (ht t h1)⟩
theorem PkG.more {m:Nat}{told:List Nt}{p:Pk}(h:PkG m told p)(l:List Nt):PkG m (told++l) p:=
 ⟨h.frm,h.to_,h.ne,h.n,let ⟨t,h1,h2⟩:=h.data;⟨t,List.mem_append_left _ h1,h2⟩⟩
theorem PkG.ok {m:Nat}{told:List Nt}{p:Pk}(h:PkG m told p)(hm:m≤24)(ht:∀ t∈told,TkN t):pkV p=true:=by
 obtain ⟨t,h1,h2⟩:=h.data
 have h3:=(ht t h1).2.2
 have h4:=h.n
 have h5:=h.frm;have h6:=h.to_;have h7:=h.ne
 rw [h2] at h4
 unfold pkV lkV zoN zd4
 simp only [Bool.and_eq_true,decide_eq_true_eq]
 split<;>split<;>omega
theorem znC {qs:List Pk}(hl:qs.length≤4096)(h:∀ p∈qs,pkV p=true):K1 qs []=0:=by
 refine zke ?_ (fun j y hj=>by simp at hj)
 rw [Bool.or_eq_false_iff]
 refine ⟨by simp only [decide_eq_false_iff_not];omega,?_⟩
 rw [List.any_eq_false]
 intro p hp
 simp [h p hp]
theorem Kn.net {m:Nat}{r:Rd}{told:List Nt}(h:Kn m r told)(hq:r.qs.length≤4096):K1 r.qs r.ks=0:=by
 rw [h.ks];exact znC hq fun p hp=>(h.pk p hp).ok h.m0.2 h.tok
theorem Kn.chk {m:Nat}{r:Rd}{told:List Nt}(h:Kn m r told)(hq:r.qs.length≤4096):zdz r=0:=by
 have hm:=h.m0;have hl:=h.len
 unfold zdz
 rw [if_neg,if_neg,if_neg]
 ·
  rw [Bool.not_eq_true,List.any_eq_false]
  intro p hp
  obtain ⟨t,h1,h2⟩:=(h.pk p hp).read h.tok
  have h3:=(h.pk p hp).frm;have h4:=(h.pk p hp).to_
  have h5:zd4 p.frm p.to_<(m:Int):=by unfold zd4;split<;>omega
  unfold Ub
  rw [h2,hl]
  simp only [Option.isSome_some,Bool.not_true,Bool.false_or,decide_eq_true_eq]
  omega
 ·
  rw [Bool.not_eq_true,List.any_eq_false]
  intro xs hx
  simp [h.val xs hx]
 ·
  rw [h.net hq]
  simp;omega
/-! ### Learning -/
theorem zmV {xs ys:List Nt}{t:Nt}(h:zf3 xs t=some ys):(∀ y∈ys,y∈xs∨y=t)∧(∀ y∈xs,y∈ys)∧ys.length≤xs.length+1:=by
 unfold zf3 at h
 split at h
 ·
  cases h;exact ⟨fun y hy=>.inl hy,fun y hy=>hy,by omega⟩
 ·
  split at h
  ·
   cases h
   exact ⟨fun y hy=>(UZ.1 hy).symm,fun y hy=>UZ.2 (.inr hy),by rw [ze1];omega⟩
  ·
   cases h
theorem zhS {xs ys:List Nt}{t:Nt}(h:zf3 xs t=some ys)(hv:Z3 xs=true)(ht:Q7 t=true):Z3 ys=true:=by
 unfold zf3 at h
 split at h
 ·
  cases h;exact hv
 ·
  rename_i hh
  split at h
  ·
   cases h
   obtain ⟨v1,v2,v3⟩:=V5 hv
   refine Wd (zli v1 (by simpa using hh)) (fun x hx=>?_) (by rw [ze1];omega)
   rcases UZ.1 hx with rfl | hx
   ·
    exact ht
   ·
    exact v2 x hx
  ·
   cases h
theorem zdw {P P':List (List Nt)}{i:Nat}{t:Nt}(h:XI P i t=some P'):∃ xs ys,P[i]? =some xs∧zf3 xs t=some ys∧P'=P.set i ys:=by
 unfold XI at h
 cases hx:P[i]? with
 | none=>rw [hx] at h;cases h
 | some xs=>
  rw [hx,Option.bind_some] at h
  cases hy:zf3 xs t with
  | none=>rw [hy] at h;cases h
  | some ys=>rw [hy] at h;cases h;exact ⟨xs,ys,rfl,hy,rfl⟩
def Grow (P P':List (List Nt)):Prop:=∀ (i:Nat) (xs ys:List Nt),P[i]? =some xs→P'[i]? =some ys→∀ y∈xs,y∈ys
theorem WH (P:List (List Nt)):Grow P P:=fun i xs ys h1 h2 y hy=>by rw [h1] at h2;cases h2;exact hy
theorem zkw {P P':List (List Nt)}{i:Nat}{t:Nt}{told:List Nt}(h:XI P i (Z2 t)=some P')(ht:t∈told)(hf:Q7 (Z2 t)=true)(hv:∀ xs∈P,Z3 xs=true)(hm:∀ xs∈P,∀ y∈xs,∃ t∈told,Z2 t=y):
  P'.length=P.length∧(∀ xs∈P',Z3 xs=true)∧(∀ xs∈P',∀ y∈xs,∃ t∈told,Z2 t=y)∧Grow P P':=by
 obtain ⟨xs,ys,h1,h2,rfl⟩:=zdw h
 have hx:=List.mem_of_getElem? h1
 obtain ⟨m1,m2,_⟩:=zmV h2
 refine ⟨by simp,fun zs hz=>?_,fun zs hz y hy=>?_,fun j us vs hu hw y hy=>?_⟩
 ·
  rcases List.mem_or_eq_of_mem_set hz with hz | rfl
  ·
   exact hv zs hz
  ·
   exact zhS h2 (hv xs hx) hf
 ·
  rcases List.mem_or_eq_of_mem_set hz with hz | rfl
  ·
   exact hm zs hz y hy
  ·
   rcases m1 y hy with hy | rfl
   ·
    exact hm xs hx y hy
   ·
    exact ⟨t,ht,rfl⟩
 ·
  rw [List.getElem?_set] at hw
  split at hw
  ·
   rename_i e
   subst e
   rw [h1] at hu;cases hu
   split at hw
   ·
    cases hw;exact m2 y hy
   ·
    cases hw
  ·
   rw [hu] at hw;cases hw;exact hy
theorem Kn.more {m:Nat}{r:Rd}{told:List Nt}(h:Kn m r told){t:Nt}(ht:TkN t):Kn m r (told++[t]):=
 ⟨h.m0,h.len,h.ks,h.val,fun xs hx y hy=>let ⟨u,h1,h2⟩:=h.mem xs hx y hy;⟨u,List.mem_append_left _ h1,h2⟩,fun p hp=>(h.pk p hp).more _,fun u hu=>by
  rcases List.mem_append.1 hu with hu | hu
  ·
   exact h.tok u hu
  ·
   rw [List.mem_singleton] at hu;subst hu;exact ht⟩
/-! ### Events -/
theorem zgX {m:Nat}{i:Int}{t:Nt}{p:Pk}(h:p∈JS m i t):∃ k:Nat,k<m∧(k:Int)≠i∧p=pkN i k t:=by
 unfold JS at h
 obtain ⟨k,hk,rfl⟩:=List.mem_map.1 h
 rw [List.mem_filter,List.mem_range] at hk
 exact ⟨k,hk.1,by simpa using hk.2,rfl⟩
theorem zga (m:Nat)(i:Int)(t:Nt):(JS m i t).length≤m:=by
 unfold JS
 rw [List.length_map]
 exact Nat.le_trans (List.length_filter_le ..) (by simp)
theorem zg8 {m:Nat}{told:List Nt}{i k:Int}{t:Nt}(hi:0≤i∧i<(m:Int))(hk:0≤k∧k<(m:Int))(hne:i≠k){u:Nt}(hu:u∈told)(e:Z2 u=Z2 t):PkG m told (pkN i k t):=
 ⟨hi,hk,hne,rfl,u,hu,by
  show JU t=JU u
  have e2:JW t=JW u:=by rw [←zcD t,←e,zcD]
  unfold JU;rw [e2]⟩
theorem zcA {r:Rd}{i:Int}:isP r i=true↔0≤i∧i<(r.ps.length:Int):=by simp [isP]
theorem ze5 {qs:List Pk}{ks:List (Int×Int)}{i:Int}(h:atE qs ks i=0):atP qs ks i∈qs:=by
 have hr:=zch h
 unfold atP
 rw [if_pos h,List.getD_eq_getElem?_getD,List.getElem?_eq_getElem (by omega),Option.getD_some]
 exact List.getElem_mem _
theorem zcp {qs:List Pk}{i:Int}:V8 qs [] i=atP qs [] i:=if_neg (by simp [zoH])
theorem zot {t:Nt}(h:TkN t):TkN (Z2 t):=h
theorem Kn.step {m:Nat}{r r':Rd}{told:List Nt}{x:Ev}(h:Kn m r told)(hq:r.qs.length≤4096)(hx:x.kind=1→Q7 (Z2 x.note)=true→TkN x.note)(hd:doF r (Yx x)=(0,r')):
  Kn m r' (if x.kind=1 then told++[x.note] else told)∧Grow r.ps r'.ps∧r'.qs.length≤r.qs.length+max m (max 1 ((r.ps.map List.length).foldl max 0)):=by
 have hc:=h.chk hq
 unfold doF at hd
 rw [if_neg (by rw [hc];simp)] at hd
 unfold XJ at hd
 have hmx:∀ (l:List Nat) (a:Nat),a≤l.foldl max a∧∀ b∈l,b≤l.foldl max a:=by
  intro l
  induction l with
  | nil=>intro a;exact ⟨Nat.le_refl _,fun b hb=>by cases hb⟩
  | cons c l ih=>
   intro a
   rw [List.foldl_cons]
   obtain ⟨h1,h2⟩:=ih (max a c)
   refine ⟨by omega,fun b hb=>?_⟩
   rcases List.mem_cons.1 hb with rfl | hb
   ·
    omega
   ·
    exact h2 b hb
 split at hd
 ·
  -- told
  rename_i hk
  have hk:x.kind=1:=hk
  rw [if_pos hk]
  unfold KR at hd
  split at hd
  ·
   rename_i hi
   have hi:=zcA.1 hi
   split at hd
   ·
    rename_i hf
    have hf:Q7 (Z2 x.note)=true:=hf
    split at hd
    ·
     cases hd
    ·
     rename_i P hP
     have hP:XI r.ps x.peer.toNat (Z2 x.note)=some P:=hP
     cases hd
     have ht:=hx hk hf
     have h2:=h.more ht
     obtain ⟨l1,l2,l3,l4⟩:=zkw hP (told:=told++[x.note]) (by simp) hf h2.val h2.mem
     refine ⟨⟨h.m0,by rw [←h.len];exact l1,h.ks,l2,l3,fun p hp=>?_,h2.tok⟩,l4,?_⟩
     ·
      rcases List.mem_append.1 hp with hp | hp
      ·
       exact h2.pk p hp
      ·
       obtain ⟨k,hk,hne,rfl⟩:=zgX hp
       rw [h.len] at hk hi
       exact zg8 hi ⟨by omega,by omega⟩ (fun e=>hne e.symm) (u:=x.note) (by simp) rfl
     ·
      have:=zga r.ps.length x.peer (Z2 x.note)
      have hl:=h.len
      show (r.qs++JS r.ps.length x.peer (Z2 x.note)).length≤_
      rw [List.length_append];omega
   ·
    cases hd
  ·
   cases hd
 ·
  rename_i hk
  have hk:¬x.kind=1:=hk
  rw [if_neg hk]
  split at hd
  ·
   unfold WT at hd
   split at hd
   ·
    rename_i hi
    simp only [Bool.and_eq_true,zcA] at hi
    obtain ⟨⟨i1,i2⟩,i3⟩:=hi
    have i1:0≤x.peer∧x.peer<(r.ps.length:Int):=i1
    have i2:0≤x.to_∧x.to_<(r.ps.length:Int):=i2
    have i3:x.peer≠x.to_:=bne_iff_ne.1 i3
    cases hd
    obtain ⟨xs,hxs⟩:∃ xs,r.ps[x.peer.toNat]? =some xs:=⟨_,List.getElem?_eq_getElem (by omega)⟩
    have e:r.ps.getD (Yx x).peer.toNat []=xs:=by
     show r.ps.getD x.peer.toNat []=xs
     rw [List.getD_eq_getElem?_getD,hxs];rfl
    have hm:=List.mem_of_getElem? hxs
    simp only [e]
    refine ⟨⟨h.m0,h.len,h.ks,h.val,h.mem,fun p hp=>?_,h.tok⟩,WH _,?_⟩
    ·
     rcases List.mem_append.1 hp with hp | hp
     ·
      exact h.pk p hp
     ·
      obtain ⟨y,hy,rfl⟩:=List.mem_map.1 hp
      obtain ⟨t,ht,e⟩:=h.mem xs hm y hy
      rw [h.len] at i1 i2
      exact zg8 i1 i2 i3 ht (by rw [←e];rfl)
    ·
     rw [List.length_append,List.length_map]
     have:=(hmx (r.ps.map List.length) 0).2 xs.length (List.mem_map.2 ⟨xs,hm,rfl⟩)
     omega
   ·
    cases hd
  ·
   split at hd
   ·
    unfold zaM at hd
    split at hd
    ·
     rename_i hz
     exact absurd (congrArg Prod.fst hd) hz
    ·
     rename_i hz
     have hz:atE r.qs r.ks x.at_=0:=Decidable.not_not.1 hz
     have hmem:=ze5 hz
     have hdl:V8 r.qs r.ks x.at_=atP r.qs r.ks x.at_:=by rw [h.ks];exact zcp
     have hg:=h.pk _ hmem
     have hle:(r.qs.eraseIdx x.at_.toNat).length≤r.qs.length:=(List.eraseIdx_sublist ..).length_le
     have hsub:∀ p∈r.qs.eraseIdx x.at_.toNat,p∈r.qs:=fun p hp=>(List.eraseIdx_sublist ..).mem hp
     split at hd
     ·
      cases hd
      exact ⟨⟨h.m0,h.len,h.ks,h.val,h.mem,fun p hp=>h.pk p (hsub p hp),h.tok⟩,WH _,Nat.le_trans hle (by omega)⟩
     ·
      split at hd
      ·
       cases hd
      ·
       rename_i P hP
       cases hd
       obtain ⟨t,ht,e⟩:=hg.read h.tok
       have hP:(okN (V8 r.qs r.ks x.at_).data).bind (XI r.ps (V8 r.qs r.ks x.at_).to_.toNat)=some P:=hP
       rw [hdl,e,Option.bind_some] at hP
       obtain ⟨l1,l2,l3,l4⟩:=zkw hP ht (h.tok t ht).2.1 h.val h.mem
       exact ⟨⟨h.m0,by rw [←h.len];exact l1,h.ks,l2,l3,fun p hp=>h.pk p (hsub p hp),h.tok⟩,l4,Nat.le_trans hle (by omega)⟩
   ·
    split at hd
    ·
     unfold zbG at hd
     split at hd
     ·
      rename_i hz
      exact absurd (congrArg Prod.fst hd) hz
     ·
      cases hd
      have hle:(r.qs.eraseIdx x.at_.toNat).length≤r.qs.length:=(List.eraseIdx_sublist ..).length_le
      exact ⟨⟨h.m0,h.len,h.ks,h.val,h.mem,fun p hp=>h.pk p ((List.eraseIdx_sublist ..).mem hp),h.tok⟩,WH _,Nat.le_trans hle (by omega)⟩
    ·
     split at hd
     ·
      unfold zaI at hd
      split at hd
      ·
       rename_i hz
       exact absurd (congrArg Prod.fst hd) hz
      ·
       rename_i hz
       cases hd
       have hz:UD r.qs r.ks x.at_=0:=Decidable.not_not.1 hz
       have ha:atE r.qs r.ks x.at_=0:=by
        unfold UD at hz
        split at hz
        ·
         assumption
        ·
         exact hz
       refine ⟨⟨h.m0,h.len,h.ks,h.val,h.mem,fun p hp=>?_,h.tok⟩,WH _,?_⟩
       ·
        rcases List.mem_append.1 hp with hp | hp
        ·
         exact h.pk p hp
        ·
         rw [List.mem_singleton] at hp;subst hp;exact h.pk _ (ze5 ha)
       ·
        rw [List.length_append,List.length_singleton];omega
     ·
      cases hd
end
section
open Go Go.Kn Go.Proofs
theorem zgl {bs:List Nat}{I:Qv}{cs:List Value}{b:Bool}(h:zsK bs I cs b)(hs:(okN bs).isSome=true):∃ x,b=true∧cs=Zn x∧Nd I x.pt∧okN bs=some (Z2 x):=by
 rcases h.2 with ⟨_,h2⟩ | ⟨h1,x,h2,h3,h4⟩
 ·
  rw [h2] at hs;cases hs
 ·
  exact ⟨x,h1,h2,h3,h4⟩
theorem zeF {I:Qv}{bs:List Nat}{x:Nt}(hb:∀ c∈bs,c<256)(hn:bs.length≤100000)(h:okN bs=some (Z2 x))(hN:Nd I x.pt):Q7 x=true:=by
 obtain ⟨_,_,h3⟩:=zgW hb (by omega) h
 have hN2:Sl I 1 Yk x.pt.a x.pt.n x.pt.c x.pt.needs:=hN
 rw [Jd hN2.len.symm] at h3;exact h3
theorem zqz {qs:List Pk}{ks:List (Int×Int)}{i:Int}(he:atE qs ks i=0)(hne:(V8 qs ks i).frm≠(V8 qs ks i).to_):V8 qs ks i∈qs:=by
 unfold V8 at hne ⊢
 split at hne
 ·
  exact absurd rfl hne
 ·
  rename_i h;rw [if_neg h];exact ze5 he
theorem zmi {m:Nat}{p:Pk}(h:Ub m p=false):(okN p.data).isSome=true∧p.frm<(m:Int)∧p.to_<(m:Int):=by
 unfold Ub at h
 rw [Bool.or_eq_false_iff] at h
 obtain ⟨h1,h2⟩:=h
 refine ⟨by simpa using h1,?_⟩
 simp only [decide_eq_false_iff_not] at h2
 unfold zd4 at h2
 split at h2<;>omega
section
variable {I:Qv} {P:List (List Nt)} {qs:List Pk} {ks:List (Int×Int)} {x:Ev}
theorem zoO (hpk:∀ q∈qs,PkM I q)(ne:atE qs ks x.at_≠0):zaM ⟨P,qs.map Vz,ks⟩ (Yx x)=(atE qs ks x.at_,zeroR):=by
 unfold zaM
 have e:atE (qs.map Vz) ks (Yx x).at_=atE qs ks x.at_:=UU hpk ks x.at_
 simp only [e,if_pos ne]
theorem zo5 (hpk:∀ q∈qs,PkM I q)(he:atE qs ks x.at_=0)(h:(V8 qs ks x.at_).frm=(V8 qs ks x.at_).to_):zaM ⟨P,qs.map Vz,ks⟩ (Yx x)=(0,⟨P,(qs.eraseIdx x.at_.toNat).map Vz,ks⟩):=by
 unfold zaM
 have e:atE (qs.map Vz) ks (Yx x).at_=0:=by rw [←he];exact UU hpk ks x.at_
 have e2:V8 (qs.map Vz) ks (Yx x).at_=Vz (V8 qs ks x.at_):=zf9 hpk ks x.at_
 have e3:(Vz (V8 qs ks x.at_)).frm=(Vz (V8 qs ks x.at_)).to_:=h
 simp only [e,e2,if_pos e3,ne_eq,not_true_eq_false,if_false]
 rw [U7];rfl
theorem zoe (hpk:∀ q∈qs,PkM I q)(he:atE qs ks x.at_=0)(h:(V8 qs ks x.at_).frm≠(V8 qs ks x.at_).to_){t:Nt}(hok:okN (V8 qs ks x.at_).data=some t):zaM ⟨P,qs.map Vz,ks⟩ (Yx x)=(match XI P (V8 qs ks x.at_).to_.toNat t with
  | none=>(2,zeroR)
  | some P'=>(0,⟨P',(qs.eraseIdx x.at_.toNat).map Vz,ks⟩)):=by
 unfold zaM
 have e:atE (qs.map Vz) ks (Yx x).at_=0:=by rw [←he];exact UU hpk ks x.at_
 have e2:V8 (qs.map Vz) ks (Yx x).at_=Vz (V8 qs ks x.at_):=zf9 hpk ks x.at_
 have e3:¬(Vz (V8 qs ks x.at_)).frm=(Vz (V8 qs ks x.at_)).to_:=h
 have e4:okN (Vz (V8 qs ks x.at_)).data=some t:=hok
 simp only [e,e2,if_neg e3,ne_eq,not_true_eq_false,if_false,e4,Option.bind_some]
 have e5:(Vz (V8 qs ks x.at_)).to_=(V8 qs ks x.at_).to_:=rfl
 rw [e5,U7];rfl
theorem zjz (hpk:∀ q∈qs,PkM I q)(he:atE qs ks x.at_=0)(h:(V8 qs ks x.at_).frm≠(V8 qs ks x.at_).to_){t:Nt}(hok:okN (V8 qs ks x.at_).data=some t)(hl:XI P (V8 qs ks x.at_).to_.toNat t=none):zaM ⟨P,qs.map Vz,ks⟩ (Yx x)=(2,zeroR):=by
 rw [zoe hpk he h hok,hl]
theorem zjM (hpk:∀ q∈qs,PkM I q)(he:atE qs ks x.at_=0)(h:(V8 qs ks x.at_).frm≠(V8 qs ks x.at_).to_){t:Nt}(hok:okN (V8 qs ks x.at_).data=some t){P':List (List Nt)}(hl:XI P (V8 qs ks x.at_).to_.toNat t=some P'):zaM ⟨P,qs.map Vz,ks⟩ (Yx x)=(0,⟨P',(qs.eraseIdx x.at_.toNat).map Vz,ks⟩):=by
 rw [zoe hpk he h hok,hl]
end
theorem zby {α:Type}{l:List α}{j:Nat}:∀ q∈l.eraseIdx j,q∈l:=fun _ hq=>(List.eraseIdx_sublist ..).mem hq
end
section
open Go Go.Kn Go.Proofs
theorem zk5:Fun Tryz.prog 109:=.of Tryz.func109 (by kernel_rfl) (by kernel_rfl)
theorem zal:Fun Tryz.prog 113:=.of Tryz.func113 (by kernel_rfl) (by kernel_rfl)
theorem zlK:Fun Tryz.prog 62:=.of Tryz.func62 (by kernel_rfl) (by kernel_rfl)
theorem zg6 {I:Qv}{bc bp:Nat}{qa aa:Option Addr}{pn pc qn qc an ac:Nat}{cur:List Value}{ps:List Pe}{i:Nat}{j:Int}{t:Nt}(hj:j=(i:Int))(hP:zh3 I cur ps)(hpl:ps.length=pn)(hi:i<pn)(hpn:pn≤100000)(hT:NtM I t)(ht:Q7 t=true):KN Tryz.prog 109 [ZK bc,.int .i64 j,JK t] I [(bc,.cells #[.slice (some ⟨bp,0,none⟩) pn pc,.slice qa qn qc,.slice aa an ac] 108 (0,0)),(bp,.cells (cur).toArray 59 (0,0))] (fun v I' L'=>v= .tuple #[]∧∃ cur' ps',L'=[(bc,.cells #[.slice (some ⟨bp,0,none⟩) pn pc,.slice qa qn qc,.slice aa an ac] 108 (0,0)),(bp,.cells (cur').toArray 59 (0,0))]∧zh3 I' cur' ps'∧ps'.length=pn∧XI (dtP ps) i (Z2 t)=some (dtP ps')) (fun v=>v= .iface 50 (.int .i64 2)∧XI (dtP ps) i (Z2 t)=none):=by
 subst hj
 obtain ⟨pe,hx⟩:∃ pe,ps[i]? =some pe:=⟨_,List.getElem?_eq_getElem (by omega)⟩
 have hm:=List.mem_of_getElem? hx
 obtain ⟨v1,v2,v3⟩:=V5 (hP.ok pe hm)
 have hlen:=(hP.nt pe hm).sl.len
 refine (zqo (hP.at_ i pe hx) hi hpn (hP.nt pe hm) v2 hT (v1.mono t) (by omega)).mono (fun v I' L' hI ⟨hv,h⟩=>⟨hv,?_⟩) (fun v ⟨hv,hh,hn⟩=>⟨hv,zkV hx hh (by omega)⟩)
 rcases h with ⟨hh,rfl⟩ | ⟨hh,hl,a,c,rfl,hS⟩
 ·
  exact ⟨cur,ps,rfl,hP.mono hI,hpl,zn4 hx hh⟩
 exact ⟨_,_,rfl,hP.lrn hI hx hT ht hh hl hS,by simpa using hpl,zmZ hx hh (by omega) _ _ _⟩
theorem zjK {I:Qv}{bc bp:Nat}{qa aa:Option Addr}{pn pc qn qc an ac:Nat}{cur:List Value}{ps:List Pe}{qs:List Pk}{ks:List (Int×Int)}(hP:zh3 I cur ps)(hpl:ps.length=pn)(hpn:pn≤100000)(hQ:Sl I 3 ZQ qa qn qc qs)(hqn:qn≤100000)(hpk:∀ q∈qs,PkM I q)(hA:Sl I 2 Ky aa an ac ks)(han:an≤100000)(x:Ev)(hg:∀ q∈qs,Ub pn q=false)(hdl:∀ q∈qs,q.n≤100000)(hz0:∀ q∈qs,0≤q.frm∧0≤q.to_):KN Tryz.prog 48 [ZK bc,.agg (zav x).toArray] I [(bc,.cells #[.slice (some ⟨bp,0,none⟩) pn pc,.slice qa qn qc,.slice aa an ac] 108 (0,0)),(bp,.cells (cur).toArray 59 (0,0))] (fun v I' L'=>v= .tuple #[]∧(zaM ⟨dtP ps,qs.map Vz,ks⟩ (Yx x)).1=0∧∃ cur' ps' a m c qs',L'=[(bc,.cells #[.slice (some ⟨bp,0,none⟩) pn pc,.slice a m c,.slice aa an ac] 108 (0,0)),(bp,.cells (cur').toArray 59 (0,0))]∧zh3 I' cur' ps'∧ps'.length=pn∧Sl I' 3 ZQ a m c qs'∧(∀ q∈qs',q∈qs)∧(zaM ⟨dtP ps,qs.map Vz,ks⟩ (Yx x)).2=⟨dtP ps',qs'.map Vz,ks⟩) (fun v=>v= .iface 50 (.int .i64 (zaM ⟨dtP ps,qs.map Vz,ks⟩ (Yx x)).1)∧(zaM ⟨dtP ps,qs.map Vz,ks⟩ (Yx x)).1≠0):=by
 intro g H w hw
 refine qe Tryz.func48 Tryz.ntmps48 hw ?_
 have hIc:=zxd I
 refine zR ?_
 refine Zh rfl rfl rfl (fun b_3=>?_)
 refine Qb ?_
 refine QO .here (fun I1 hI1 hb1=>?_)
 have hP:=hP.mono hI1;have hQ:=hQ.mono hI1;have hA:=hA.mono hI1;have hIc:=hIc.trans hI1
 have h3:=BxI.of hb1
 refine Qc ?_
 refine zY [(0,_)] (fun T L0 E I' loc'=>∃ (p4 p5:Nat) (pk:Pk) (a5:Option Addr) (m5 c5:Nat) (a6:Option Addr) (m6 c6:Nat),E=(4,ZK p4)::(5,ZK p5)::(6,.int .i64 (atE qs ks x.at_))::T∧HLe I1 I'∧[(bc,.cells #[.slice (some ⟨bp,0,none⟩) pn pc,.slice qa qn qc,.slice aa an ac] 108 (0,0)),(bp,.cells (cur).toArray 59 (0,0))]=loc'∧BxI I' p4 (.cells (ZQ pk).toArray 99 (0,0))∧BxI I' p5 (.cells #[.slice a5 m5 c5,.slice a6 m6 c6] 26 (0,0))∧(atE qs ks x.at_=0→pk=V8 qs ks x.at_)∧zhY I' (atE qs ks x.at_) a5 m5 c5 a6 m6 c6 (qs.eraseIdx x.at_.toNat) aa an ac) ?_ ?_
 ·
  have hKc1:=zxd I1
  have hD:=zxd I1
  refine Q0 I1 [(bc,.cells #[.slice (some ⟨bp,0,none⟩) pn pc,.slice qa qn qc,.slice aa an ac] 108 (0,0)),(bp,.cells (cur).toArray 59 (0,0))] mixed ?_
  refine QR 0 rfl (Qh rfl) (.none rfl) rfl rfl rfl (by kernel_rfl) (by kernel_rfl) (by kernel_rfl) (by repeat (first | exact QU | with_reducible refine QS ?_ | with_reducible refine QJ ?_)) hD (by repeat (first | exact .refl | exact Qe | refine .keep ?_ | refine .drop ?_ | refine Qf ?_)) ?_
  refine QR 1 rfl (QM rfl) (.none rfl) rfl rfl rfl (by kernel_rfl) (by kernel_rfl) (by kernel_rfl) (by repeat (first | exact QU | with_reducible refine QS ?_ | with_reducible refine QJ ?_)) hD (by repeat (first | exact .refl | exact Qe | refine .keep ?_ | refine .drop ?_ | refine Qf ?_)) ?_
  refine QR 2 rfl (Qa rfl Ys) (.none rfl) rfl rfl rfl (by kernel_rfl) (by kernel_rfl) (by kernel_rfl) (by repeat (first | exact QU | with_reducible refine QS ?_ | with_reducible refine QJ ?_)) hD (by repeat (first | exact .refl | exact Qe | refine .keep ?_ | refine .drop ?_ | refine Qf ?_)) ?_
  refine QR 3 rfl (Qa rfl ZY) (.none rfl) rfl rfl rfl (by kernel_rfl) (by kernel_rfl) (by kernel_rfl) (by repeat (first | exact QU | with_reducible refine QS ?_ | with_reducible refine QJ ?_)) hD (by repeat (first | exact .refl | exact Qe | refine .keep ?_ | refine .drop ?_ | refine Qf ?_)) ?_
  refine QR 4 rfl (Qg rfl Z5 (fun hg=>by exact Cells.s0 (vs:=[_,_]) rfl) rfl) (.none rfl) rfl rfl rfl (by kernel_rfl) (by kernel_rfl) (by kernel_rfl) (by repeat (first | exact QU | with_reducible refine QS ?_ | with_reducible refine QJ ?_)) hD (by repeat (first | exact .refl | exact Qe | refine .keep ?_ | refine .drop ?_ | refine Qf ?_)) ?_
  refine QR 5 rfl (Qa rfl zcG) (.none rfl) rfl rfl rfl (by kernel_rfl) (by kernel_rfl) (by kernel_rfl) (by repeat (first | exact QU | with_reducible refine QS ?_ | with_reducible refine QJ ?_)) hD (by repeat (first | exact .refl | exact Qe | refine .keep ?_ | refine .drop ?_ | refine Qf ?_)) ?_
  refine QR 6 rfl (Qd rfl QA (fun hg=>by exact QG.imm h3.out rfl)) (.none rfl) rfl rfl rfl (by kernel_rfl) (by kernel_rfl) (by kernel_rfl) (by repeat (first | exact QU | with_reducible refine QS ?_ | with_reducible refine QJ ?_)) hD (by repeat (first | exact .refl | exact Qe | refine .keep ?_ | refine .drop ?_ | refine Qf ?_)) ?_
  refine VH 7 12 13 rfl rfl rfl (by kernel_rfl) ?_ ?_ ?_
  ·
   refine QE (cap:=[]) (vs:=[_,_]) rfl rfl zal .nil (Ui hQ hqn hA han x.at_) rfl rfl ?_
   rintro vv2 I2 L2 hI2 ⟨pk,a5,m5,c5,a6,m6,c6,rfl,rfl,hpe,hZ⟩
   have hKc1:=hKc1.trans hI2;have hD:=hD.trans hI2
   refine Qb ?_
   refine zD hD ?_
   refine QR 8 rfl (Qh rfl) (.none rfl) rfl rfl rfl (by kernel_rfl) (by kernel_rfl) (by kernel_rfl) (by repeat (first | exact QU | with_reducible refine QS ?_ | with_reducible refine QJ ?_)) hD (by repeat (first | exact .refl | exact Qe | refine .keep ?_ | refine .drop ?_ | refine Qf ?_)) ?_
   refine QR 9 rfl (Q3 rfl rfl) (.none rfl) rfl rfl rfl (by kernel_rfl) (by kernel_rfl) (by kernel_rfl) (by repeat (first | exact QU | with_reducible refine QS ?_ | with_reducible refine QJ ?_)) hD (by repeat (first | exact .refl | exact Qe | refine .keep ?_ | refine .drop ?_ | refine Qf ?_)) ?_
   refine QR 10 rfl (Q3 rfl rfl) (.none rfl) rfl rfl rfl (by kernel_rfl) (by kernel_rfl) (by kernel_rfl) (by repeat (first | exact QU | with_reducible refine QS ?_ | with_reducible refine QJ ?_)) hD (by repeat (first | exact .refl | exact Qe | refine .keep ?_ | refine .drop ?_ | refine Qf ?_)) ?_
   refine QR 11 rfl (Q3 rfl rfl) (.none rfl) rfl rfl rfl (by kernel_rfl) (by kernel_rfl) (by kernel_rfl) (by repeat (first | exact QU | with_reducible refine QS ?_ | with_reducible refine QJ ?_)) hD (by repeat (first | exact .refl | exact Qe | refine .keep ?_ | refine .drop ?_ | refine Qf ?_)) ?_
   refine Q8 12 13 rfl rfl (by kernel_rfl) ?_ ?_
   ·
    refine Qt zbA rfl rfl (fun b_4=>?_)
    refine Qb ?_
    refine zD hD ?_
    refine qd 13 rfl ?_
    refine Qt K4 rfl rfl (fun b_5=>?_)
    refine Qb ?_
    refine zD hD ?_
    refine qd 14 rfl ?_
    refine zh Jo ?_
    refine Za (b:=b_4) (by repeat (first | exact Yd.here | apply Yd.there)) (fun I3 hI3 hb3=>?_)
    have hZ:=hZ.mono hI3;have hKc1:=hKc1.trans hI3;have hD:=hD.trans hI3
    have h4:=BxI.of hb3
    refine Qb ?_
    refine zD hD ?_
    refine qd 15 rfl ?_
    refine zh YB ?_
    refine Za (b:=b_5) (by repeat (first | exact Yd.here | apply Yd.there)) (fun I4 hI4 hb4=>?_)
    have hZ:=hZ.mono hI4;have h4:=h4.mono hI4;have hKc1:=hKc1.trans hI4;have hD:=hD.trans hI4
    have h5:=BxI.of hb4
    refine Qb ?_
    refine zD hD ?_
    refine QR 16 rfl (QC rfl) (.none rfl) rfl rfl rfl (by kernel_rfl) (by kernel_rfl) (by kernel_rfl) (by repeat (first | exact QU | with_reducible refine QS ?_ | with_reducible refine QJ ?_)) hD (by repeat (first | exact .refl | exact Qe | refine .keep ?_ | refine .drop ?_ | refine Qf ?_)) ?_
    refine Qm (by kernel_rfl) ?_
    exact zm (h:=⟨_,_,_,_,_,_,_,_,_,rfl,hKc1,rfl,h4,h5,hpe,hZ⟩)
   refine Qt K4 rfl rfl (fun b_5=>?_)
   refine Qb ?_
   refine zD hD ?_
   refine qd 12 rfl ?_
   refine Qt zbA rfl rfl (fun b_4=>?_)
   refine Qb ?_
   refine zD hD ?_
   refine qd 14 rfl ?_
   refine zh Jo ?_
   refine Za (b:=b_4) (by repeat (first | exact Yd.here | apply Yd.there)) (fun I5 hI5 hb5=>?_)
   have hZ:=hZ.mono hI5;have hKc1:=hKc1.trans hI5;have hD:=hD.trans hI5
   have h4:=BxI.of hb5
   refine Qb ?_
   refine zD hD ?_
   refine qd 15 rfl ?_
   refine zh YB ?_
   refine Za (b:=b_5) (by repeat (first | exact Yd.here | apply Yd.there)) (fun I6 hI6 hb6=>?_)
   have hZ:=hZ.mono hI6;have h4:=h4.mono hI6;have hKc1:=hKc1.trans hI6;have hD:=hD.trans hI6
   have h5:=BxI.of hb6
   refine Qb ?_
   refine zD hD ?_
   refine QR 16 rfl (QC rfl) (.none rfl) rfl rfl rfl (by kernel_rfl) (by kernel_rfl) (by kernel_rfl) (by repeat (first | exact QU | with_reducible refine QS ?_ | with_reducible refine QJ ?_)) hD (by repeat (first | exact .refl | exact Qe | refine .keep ?_ | refine .drop ?_ | refine Qf ?_)) ?_
   refine Qm (by kernel_rfl) ?_
   exact zm (h:=⟨_,_,_,_,_,_,_,_,_,rfl,hKc1,rfl,h4,h5,hpe,hZ⟩)
  ·
   refine Qt zbA rfl rfl (fun b_4=>?_)
   refine Qb ?_
   refine zD hD ?_
   refine Q8 7 13 rfl rfl (by kernel_rfl) ?_ ?_
   ·
    refine QE (cap:=[]) (vs:=[_,_]) rfl rfl zal .nil (Ui hQ hqn hA han x.at_) rfl rfl ?_
    rintro vv7 I7 L7 hI7 ⟨pk,a5,m5,c5,a6,m6,c6,rfl,rfl,hpe,hZ⟩
    have hKc1:=hKc1.trans hI7;have hD:=hD.trans hI7
    refine Qb ?_
    refine zD hD ?_
    refine QR 8 rfl (Qh rfl) (.none rfl) rfl rfl rfl (by kernel_rfl) (by kernel_rfl) (by kernel_rfl) (by repeat (first | exact QU | with_reducible refine QS ?_ | with_reducible refine QJ ?_)) hD (by repeat (first | exact .refl | exact Qe | refine .keep ?_ | refine .drop ?_ | refine Qf ?_)) ?_
    refine QR 9 rfl (Q3 rfl rfl) (.none rfl) rfl rfl rfl (by kernel_rfl) (by kernel_rfl) (by kernel_rfl) (by repeat (first | exact QU | with_reducible refine QS ?_ | with_reducible refine QJ ?_)) hD (by repeat (first | exact .refl | exact Qe | refine .keep ?_ | refine .drop ?_ | refine Qf ?_)) ?_
    refine QR 10 rfl (Q3 rfl rfl) (.none rfl) rfl rfl rfl (by kernel_rfl) (by kernel_rfl) (by kernel_rfl) (by repeat (first | exact QU | with_reducible refine QS ?_ | with_reducible refine QJ ?_)) hD (by repeat (first | exact .refl | exact Qe | refine .keep ?_ | refine .drop ?_ | refine Qf ?_)) ?_
    refine QR 11 rfl (Q3 rfl rfl) (.none rfl) rfl rfl rfl (by kernel_rfl) (by kernel_rfl) (by kernel_rfl) (by repeat (first | exact QU | with_reducible refine QS ?_ | with_reducible refine QJ ?_)) hD (by repeat (first | exact .refl | exact Qe | refine .keep ?_ | refine .drop ?_ | refine Qf ?_)) ?_
    refine qd 13 rfl ?_
    refine Qt K4 rfl rfl (fun b_5=>?_)
    refine Qb ?_
    refine zD hD ?_
    refine qd 14 rfl ?_
    refine zh Jo ?_
    refine Za (b:=b_4) (by repeat (first | exact Yd.here | apply Yd.there)) (fun I8 hI8 hb8=>?_)
    have hZ:=hZ.mono hI8;have hKc1:=hKc1.trans hI8;have hD:=hD.trans hI8
    have h4:=BxI.of hb8
    refine Qb ?_
    refine zD hD ?_
    refine qd 15 rfl ?_
    refine zh YB ?_
    refine Za (b:=b_5) (by repeat (first | exact Yd.here | apply Yd.there)) (fun I9 hI9 hb9=>?_)
    have hZ:=hZ.mono hI9;have h4:=h4.mono hI9;have hKc1:=hKc1.trans hI9;have hD:=hD.trans hI9
    have h5:=BxI.of hb9
    refine Qb ?_
    refine zD hD ?_
    refine QR 16 rfl (QC rfl) (.none rfl) rfl rfl rfl (by kernel_rfl) (by kernel_rfl) (by kernel_rfl) (by repeat (first | exact QU | with_reducible refine QS ?_ | with_reducible refine QJ ?_)) hD (by repeat (first | exact .refl | exact Qe | refine .keep ?_ | refine .drop ?_ | refine Qf ?_)) ?_
    refine Qm (by kernel_rfl) ?_
    exact zm (h:=⟨_,_,_,_,_,_,_,_,_,rfl,hKc1,rfl,h4,h5,hpe,hZ⟩)
   refine Qt K4 rfl rfl (fun b_5=>?_)
   refine Qb ?_
   refine zD hD ?_
   refine qd 7 rfl ?_
   refine QE (cap:=[]) (vs:=[_,_]) rfl rfl zal .nil (Ui hQ hqn hA han x.at_) rfl rfl ?_
   rintro vv10 I10 L10 hI10 ⟨pk,a5,m5,c5,a6,m6,c6,rfl,rfl,hpe,hZ⟩
   have hKc1:=hKc1.trans hI10;have hD:=hD.trans hI10
   refine Qb ?_
   refine zD hD ?_
   refine QR 8 rfl (Qh rfl) (.none rfl) rfl rfl rfl (by kernel_rfl) (by kernel_rfl) (by kernel_rfl) (by repeat (first | exact QU | with_reducible refine QS ?_ | with_reducible refine QJ ?_)) hD (by repeat (first | exact .refl | exact Qe | refine .keep ?_ | refine .drop ?_ | refine Qf ?_)) ?_
   refine QR 9 rfl (Q3 rfl rfl) (.none rfl) rfl rfl rfl (by kernel_rfl) (by kernel_rfl) (by kernel_rfl) (by repeat (first | exact QU | with_reducible refine QS ?_ | with_reducible refine QJ ?_)) hD (by repeat (first | exact .refl | exact Qe | refine .keep ?_ | refine .drop ?_ | refine Qf ?_)) ?_
   refine QR 10 rfl (Q3 rfl rfl) (.none rfl) rfl rfl rfl (by kernel_rfl) (by kernel_rfl) (by kernel_rfl) (by repeat (first | exact QU | with_reducible refine QS ?_ | with_reducible refine QJ ?_)) hD (by repeat (first | exact .refl | exact Qe | refine .keep ?_ | refine .drop ?_ | refine Qf ?_)) ?_
   refine QR 11 rfl (Q3 rfl rfl) (.none rfl) rfl rfl rfl (by kernel_rfl) (by kernel_rfl) (by kernel_rfl) (by repeat (first | exact QU | with_reducible refine QS ?_ | with_reducible refine QJ ?_)) hD (by repeat (first | exact .refl | exact Qe | refine .keep ?_ | refine .drop ?_ | refine Qf ?_)) ?_
   refine qd 14 rfl ?_
   refine zh Jo ?_
   refine Za (b:=b_4) (by repeat (first | exact Yd.here | apply Yd.there)) (fun I11 hI11 hb11=>?_)
   have hZ:=hZ.mono hI11;have hKc1:=hKc1.trans hI11;have hD:=hD.trans hI11
   have h4:=BxI.of hb11
   refine Qb ?_
   refine zD hD ?_
   refine qd 15 rfl ?_
   refine zh YB ?_
   refine Za (b:=b_5) (by repeat (first | exact Yd.here | apply Yd.there)) (fun I12 hI12 hb12=>?_)
   have hZ:=hZ.mono hI12;have h4:=h4.mono hI12;have hKc1:=hKc1.trans hI12;have hD:=hD.trans hI12
   have h5:=BxI.of hb12
   refine Qb ?_
   refine zD hD ?_
   refine QR 16 rfl (QC rfl) (.none rfl) rfl rfl rfl (by kernel_rfl) (by kernel_rfl) (by kernel_rfl) (by repeat (first | exact QU | with_reducible refine QS ?_ | with_reducible refine QJ ?_)) hD (by repeat (first | exact .refl | exact Qe | refine .keep ?_ | refine .drop ?_ | refine Qf ?_)) ?_
   refine Qm (by kernel_rfl) ?_
   exact zm (h:=⟨_,_,_,_,_,_,_,_,_,rfl,hKc1,rfl,h4,h5,hpe,hZ⟩)
  refine Qt K4 rfl rfl (fun b_5=>?_)
  refine Qb ?_
  refine zD hD ?_
  refine Q8 7 12 rfl rfl (by kernel_rfl) ?_ ?_
  ·
   refine QE (cap:=[]) (vs:=[_,_]) rfl rfl zal .nil (Ui hQ hqn hA han x.at_) rfl rfl ?_
   rintro vv13 I13 L13 hI13 ⟨pk,a5,m5,c5,a6,m6,c6,rfl,rfl,hpe,hZ⟩
   have hKc1:=hKc1.trans hI13;have hD:=hD.trans hI13
   refine Qb ?_
   refine zD hD ?_
   refine QR 8 rfl (Qh rfl) (.none rfl) rfl rfl rfl (by kernel_rfl) (by kernel_rfl) (by kernel_rfl) (by repeat (first | exact QU | with_reducible refine QS ?_ | with_reducible refine QJ ?_)) hD (by repeat (first | exact .refl | exact Qe | refine .keep ?_ | refine .drop ?_ | refine Qf ?_)) ?_
   refine QR 9 rfl (Q3 rfl rfl) (.none rfl) rfl rfl rfl (by kernel_rfl) (by kernel_rfl) (by kernel_rfl) (by repeat (first | exact QU | with_reducible refine QS ?_ | with_reducible refine QJ ?_)) hD (by repeat (first | exact .refl | exact Qe | refine .keep ?_ | refine .drop ?_ | refine Qf ?_)) ?_
   refine QR 10 rfl (Q3 rfl rfl) (.none rfl) rfl rfl rfl (by kernel_rfl) (by kernel_rfl) (by kernel_rfl) (by repeat (first | exact QU | with_reducible refine QS ?_ | with_reducible refine QJ ?_)) hD (by repeat (first | exact .refl | exact Qe | refine .keep ?_ | refine .drop ?_ | refine Qf ?_)) ?_
   refine QR 11 rfl (Q3 rfl rfl) (.none rfl) rfl rfl rfl (by kernel_rfl) (by kernel_rfl) (by kernel_rfl) (by repeat (first | exact QU | with_reducible refine QS ?_ | with_reducible refine QJ ?_)) hD (by repeat (first | exact .refl | exact Qe | refine .keep ?_ | refine .drop ?_ | refine Qf ?_)) ?_
   refine qd 12 rfl ?_
   refine Qt zbA rfl rfl (fun b_4=>?_)
   refine Qb ?_
   refine zD hD ?_
   refine qd 14 rfl ?_
   refine zh Jo ?_
   refine Za (b:=b_4) (by repeat (first | exact Yd.here | apply Yd.there)) (fun I14 hI14 hb14=>?_)
   have hZ:=hZ.mono hI14;have hKc1:=hKc1.trans hI14;have hD:=hD.trans hI14
   have h4:=BxI.of hb14
   refine Qb ?_
   refine zD hD ?_
   refine qd 15 rfl ?_
   refine zh YB ?_
   refine Za (b:=b_5) (by repeat (first | exact Yd.here | apply Yd.there)) (fun I15 hI15 hb15=>?_)
   have hZ:=hZ.mono hI15;have h4:=h4.mono hI15;have hKc1:=hKc1.trans hI15;have hD:=hD.trans hI15
   have h5:=BxI.of hb15
   refine Qb ?_
   refine zD hD ?_
   refine QR 16 rfl (QC rfl) (.none rfl) rfl rfl rfl (by kernel_rfl) (by kernel_rfl) (by kernel_rfl) (by repeat (first | exact QU | with_reducible refine QS ?_ | with_reducible refine QJ ?_)) hD (by repeat (first | exact .refl | exact Qe | refine .keep ?_ | refine .drop ?_ | refine Qf ?_)) ?_
   refine Qm (by kernel_rfl) ?_
   exact zm (h:=⟨_,_,_,_,_,_,_,_,_,rfl,hKc1,rfl,h4,h5,hpe,hZ⟩)
  refine Qt zbA rfl rfl (fun b_4=>?_)
  refine Qb ?_
  refine zD hD ?_
  refine qd 7 rfl ?_
  refine QE (cap:=[]) (vs:=[_,_]) rfl rfl zal .nil (Ui hQ hqn hA han x.at_) rfl rfl ?_
  rintro vv16 I16 L16 hI16 ⟨pk,a5,m5,c5,a6,m6,c6,rfl,rfl,hpe,hZ⟩
  have hKc1:=hKc1.trans hI16;have hD:=hD.trans hI16
  refine Qb ?_
  refine zD hD ?_
  refine QR 8 rfl (Qh rfl) (.none rfl) rfl rfl rfl (by kernel_rfl) (by kernel_rfl) (by kernel_rfl) (by repeat (first | exact QU | with_reducible refine QS ?_ | with_reducible refine QJ ?_)) hD (by repeat (first | exact .refl | exact Qe | refine .keep ?_ | refine .drop ?_ | refine Qf ?_)) ?_
  refine QR 9 rfl (Q3 rfl rfl) (.none rfl) rfl rfl rfl (by kernel_rfl) (by kernel_rfl) (by kernel_rfl) (by repeat (first | exact QU | with_reducible refine QS ?_ | with_reducible refine QJ ?_)) hD (by repeat (first | exact .refl | exact Qe | refine .keep ?_ | refine .drop ?_ | refine Qf ?_)) ?_
  refine QR 10 rfl (Q3 rfl rfl) (.none rfl) rfl rfl rfl (by kernel_rfl) (by kernel_rfl) (by kernel_rfl) (by repeat (first | exact QU | with_reducible refine QS ?_ | with_reducible refine QJ ?_)) hD (by repeat (first | exact .refl | exact Qe | refine .keep ?_ | refine .drop ?_ | refine Qf ?_)) ?_
  refine QR 11 rfl (Q3 rfl rfl) (.none rfl) rfl rfl rfl (by kernel_rfl) (by kernel_rfl) (by kernel_rfl) (by repeat (first | exact QU | with_reducible refine QS ?_ | with_reducible refine QJ ?_)) hD (by repeat (first | exact .refl | exact Qe | refine .keep ?_ | refine .drop ?_ | refine Qf ?_)) ?_
  refine qd 14 rfl ?_
  refine zh Jo ?_
  refine Za (b:=b_4) (by repeat (first | exact Yd.here | apply Yd.there)) (fun I17 hI17 hb17=>?_)
  have hZ:=hZ.mono hI17;have hKc1:=hKc1.trans hI17;have hD:=hD.trans hI17
  have h4:=BxI.of hb17
  refine Qb ?_
  refine zD hD ?_
  refine qd 15 rfl ?_
  refine zh YB ?_
  refine Za (b:=b_5) (by repeat (first | exact Yd.here | apply Yd.there)) (fun I18 hI18 hb18=>?_)
  have hZ:=hZ.mono hI18;have h4:=h4.mono hI18;have hKc1:=hKc1.trans hI18;have hD:=hD.trans hI18
  have h5:=BxI.of hb18
  refine Qb ?_
  refine zD hD ?_
  refine QR 16 rfl (QC rfl) (.none rfl) rfl rfl rfl (by kernel_rfl) (by kernel_rfl) (by kernel_rfl) (by repeat (first | exact QU | with_reducible refine QS ?_ | with_reducible refine QJ ?_)) hD (by repeat (first | exact .refl | exact Qe | refine .keep ?_ | refine .drop ?_ | refine Qf ?_)) ?_
  refine Qm (by kernel_rfl) ?_
  exact zm (h:=⟨_,_,_,_,_,_,_,_,_,rfl,hKc1,rfl,h4,h5,hpe,hZ⟩)
 rintro E J19 loc' ⟨p4,p5,pk,a5,m5,c5,a6,m6,c6,rfl,hJ,rfl,h4,h5,hpe,hZ⟩
 have hP:=hP.mono hJ;have hIc:=hIc.trans hJ
 refine zR (zM ?_)
 refine zC ?_
 refine zM ?_
 refine ZN (cap:=[]) (vs:=[_,_]) rfl rfl JO .nil (K6 J19 (atE qs ks x.at_==0) (atE qs ks x.at_)) rfl rfl ?_ (fun pv hpv=>by (repeat (first | with_reducible refine Zz ?_ | with_reducible refine Zm ?_ | refine V6 ?_));refine ZE hIc ?_;exact (have hn9:atE qs ks x.at_≠0:=(by simpa using hpv.2);⟨by rw [zoO hpk hn9];exact hpv.1,by rw [zoO hpk hn9];exact hn9⟩))
 rintro vv20 I20 L20 hI20 ⟨rfl,rfl,rfl,hok⟩
 have hP:=hP.mono hI20;have h4:=h4.mono hI20;have h5:=h5.mono hI20;have hZ:=hZ.mono hI20;have hIc:=hIc.trans hI20
 have he:atE qs ks x.at_=0:=by simpa using hok
 obtain ⟨rfl,rfl,rfl,hS9⟩:=hZ.ok he
 obtain rfl:=hpe he
 refine zN (zR ?_)
 refine zM ?_
 refine zV (Qg rfl Z5 (fun hg=>by exact BxI.cells (vs:=[_,_]) h5) rfl) ?_
 refine zV (QM rfl) ?_
 refine zF Ys ?_
 refine zF ZY ?_
 refine VC rfl rfl YB rfl rfl rfl rfl (by repeat (first | exact Upd.here | apply Upd.there | apply Qx)) ?_
 refine zN (zR ?_)
 refine zF X0 ?_
 refine zV (Qd rfl QA (fun hg=>by exact QG.imm h4.out rfl)) ?_
 refine zF WB ?_
 refine zV (Qd rfl QA (fun hg=>by exact QG.imm h4.out rfl)) ?_
 refine zC (zN ?_)
 refine zI ?_ ?_<;>intro hc34
 ·
  have hne:(V8 qs ks x.at_).frm≠(V8 qs ks x.at_).to_:=by simpa using hc34
  have hin:=zqz he hne
  have hPk:=(hpk _ hin).mono hIc
  have hdn:=hdl _ hin
  obtain ⟨hsm,_,hto9⟩:=zmi (hg _ hin)
  have hz9:=(hz0 _ hin).2
  have hto:(V8 qs ks x.at_).to_.toNat<pn:=by omega
  have hti:(V8 qs ks x.at_).to_=(((V8 qs ks x.at_).to_.toNat:Nat):Int):=(Int.toNat_of_nonneg hz9).symm
  refine zR ?_
  refine zF XT ?_
  refine zV (Qd rfl UH (fun hg=>by exact QG.imm h4.out rfl)) ?_
  refine QE (cap:=[]) (vs:=[_]) rfl rfl zlK .nil (zkh hPk.sl hPk.byte hdn) rfl rfl ?_
  rintro vv21 I21 L21 hI21 ⟨rfl,cs,bb,rfl,hrd⟩
  have hP:=hP.mono hI21;have h4:=h4.mono hI21;have hS9:=hS9.mono hI21;have hIc:=hIc.trans hI21
  obtain ⟨t9,rfl,rfl,hNd9,hok9⟩:=zgl hrd hsm
  have hPk:=hPk.mono hI21
  have hTM:=zgz hPk.byte (by have h:=hPk.sl.len;omega) hok9 hNd9
  have hTf:=zeF hPk.byte (by have h:=hPk.sl.len;omega) hok9 hNd9
  refine zM ?_
  refine zE ?_
  refine zE ?_
  refine Qt Wj rfl rfl (fun b_7=>?_)
  refine zh VX ?_
  refine zA (zN (Qk ?_))
  refine zM ?_
  refine zF WB ?_
  refine zV (Qd rfl QA (fun hg=>by exact QG.imm h4.out rfl)) ?_
  refine zV (Qg rfl Zr (fun hg=>by exact Cells.g0) rfl) ?_
  refine ZN (cap:=[]) (vs:=[_,_,_]) rfl rfl zk5 (by repeat (first | exact .cons .here .nil | exact Qu | exact Qr | apply Qp | apply Qo)) (zg6 hti hP hpl hto hpn hTM hTf) rfl rfl ?_ (fun pv hpv=>by (repeat (first | with_reducible refine Zz ?_ | with_reducible refine Zm ?_ | refine V6 ?_));refine ZE hIc ?_;exact (⟨by rw [zjz hpk he hne hok9 hpv.2];exact hpv.1,by rw [zjz hpk he hne hok9 hpv.2];decide⟩))
  rintro vv22 I22 L22 hI22 ⟨rfl,cur2,ps2,rfl,hP2,hpl2,hlr⟩
  have hS9:=hS9.mono hI22;have hIc:=hIc.trans hI22
  refine Qb ?_
  exact YL (Yv rfl (fun w hw=>.inl ⟨_,I22,_,rfl,hIc,by exact hw.subL (by repeat (first | exact .refl | exact QN | refine .drop ?_ | refine .keep ?_)),rfl,by rw [zjM hpk he hne hok9 hlr],cur2,ps2,_,_,_,_,rfl,hP2,hpl2,hS9,zby,by rw [zjM hpk he hne hok9 hlr]⟩))
 have heq:(V8 qs ks x.at_).frm=(V8 qs ks x.at_).to_:=by simpa using hc34
 refine Qw ?_
 exact YL (Yv rfl (fun w hw=>.inl ⟨_,I20,_,rfl,hIc,by exact hw,rfl,by rw [zo5 hpk he heq],cur,ps,_,_,_,_,rfl,hP,hpl,hS9,zby,by rw [zo5 hpk he heq]⟩))
end
section
open Go Go.Kn Go.Proofs
theorem zhi {bs:List Nat}{I:Qv}{cs:List Value}{b:Bool}(h:zsK bs I cs b):(okN bs).isSome=b:=by
 rcases h.2 with ⟨h1,h2⟩ | ⟨h1,x,h2,h3,h4⟩
 ·
  rw [h2,h1];rfl
 ·
  rw [h4,h1];rfl
def ziT (pn:Nat)(ps:List Pe)(qs:List Pk)(ks:List (Int×Int)):Int:=
 if ((decide ((pn:Int)<1)||decide ((pn:Int)>24))||K1 qs ks != 0)=true then 570 else if ps.any (fun x=> !Z3 x.notes)=true then 570 else if qs.any (Ub pn)=true then 570 else 0
section
variable {pn:Nat} {ps:List Pe} {qs:List Pk} {ks:List (Int×Int)}
theorem zs1 (h:((decide ((pn:Int)<1)||decide ((pn:Int)>24))||K1 qs ks != 0)=true):ziT pn ps qs ks=570:=if_pos h
theorem zve (h:((decide ((pn:Int)<1)||decide ((pn:Int)>24))||K1 qs ks != 0)=false){k:Nat}{x:Pe}(hx:ps[k]? =some x)(hc:(!Z3 x.notes)=true):ziT pn ps qs ks=570:=by
 unfold ziT
 rw [h,if_neg (by simp),if_pos (List.any_eq_true.2 ⟨x,List.mem_of_getElem? hx,hc⟩)]
theorem zsm (h:((decide ((pn:Int)<1)||decide ((pn:Int)>24))||K1 qs ks != 0)=false)(h1:ps.any (fun x=> !Z3 x.notes)=false){k:Nat}{x:Pk}(hx:qs[k]? =some x)(hc:Ub pn x=true):ziT pn ps qs ks=570:=by
 unfold ziT
 rw [h,if_neg (by simp),h1,if_neg (by simp),if_pos (List.any_eq_true.2 ⟨x,List.mem_of_getElem? hx,hc⟩)]
theorem zuD (h:((decide ((pn:Int)<1)||decide ((pn:Int)>24))||K1 qs ks != 0)=false)(h1:ps.any (fun x=> !Z3 x.notes)=false)(h2:qs.any (Ub pn)=false):ziT pn ps qs ks=0:=by
 unfold ziT
 rw [h,if_neg (by simp),h1,if_neg (by simp),h2,if_neg (by simp)]
theorem zeD {I:Qv}{pa qa aa:Option Addr}{pc qn qc an ac:Nat}(hR:RmP I pa pn pc qa qn qc aa an ac ps qs ks):zdz (Vr ps qs ks)=ziT pn ps qs ks:=by
 have hl:(Vr ps qs ks).ps.length=pn:=by rw [←hR.pe.len];exact zcX ps
 have e1:(dtP ps).any (fun xs=> !Z3 xs)=ps.any (fun x=> !Z3 x.notes):=ze4 fun x hx=>by simp only [zax (hR.nt x hx)]
 have e2:(qs.map Vz).any (Ub pn)=qs.any (Ub pn):=ze4 fun x _=>rfl
 unfold zdz ziT
 rw [hl]
 simp only [Vr,WO hR.pk,e1,e2]
theorem zrR (h:ziT pn ps qs ks=0):(1≤pn∧pn≤24)∧K1 qs ks=0∧(∀ x∈ps,Z3 x.notes=true)∧∀ q∈qs,Ub pn q=false:=by
 unfold ziT at h
 split at h
 ·
  cases h
 ·
  rename_i h1
  split at h
  ·
   cases h
  ·
   rename_i h2
   split at h
   ·
    cases h
   ·
    rename_i h3
    simp only [Bool.or_eq_true,decide_eq_true_eq,bne_iff_ne,not_or,ne_eq,Decidable.not_not] at h1
    refine ⟨by omega,h1.2,fun x hx=>?_,fun q hq=>?_⟩
    ·
     rw [Bool.not_eq_true,List.any_eq_false] at h2
     simpa using h2 x hx
    ·
     rw [Bool.not_eq_true,List.any_eq_false] at h3
     simpa using h3 q hq
end
end
section
open Go Go.Kn Go.Proofs
theorem Jm:AgT Tryz.prog 59 1:=.of (by kernel_rfl)
theorem zii:Fun Tryz.prog 61:=.of Tryz.func61 (by kernel_rfl) (by kernel_rfl)
theorem zaO:SzT Tryz.prog 59 1:=.of (by kernel_rfl)
theorem zig:Vf Tryz.prog 59 (.agg #[(.slice none 0 0)]):=.of (by kernel_rfl)
theorem zjc {I:Qv}{pa qa aa:Option Addr}{pn pc qn qc an ac:Nat}{ps:List Pe}{qs:List Pk}{ks:List (Int×Int)}(hR:RmP I pa pn pc qa qn qc aa an ac ps qs ks)(hpn:pn≤100000)(hqn:qn≤100000)(han:an≤100000)(hnn:∀ x∈ps,x.n≤100000)(hdl:∀ q∈qs,q.n≤100000):Vi Tryz.prog 16 [.agg #[.slice pa pn pc,.slice qa qn qc,.slice aa an ac]] I [] (fun v I' L'=>L'=[]∧v= .int .i64 (zdz (Vr ps qs ks))):=by
 intro g H w hw
 refine qe Tryz.func16 Tryz.ntmps16 hw ?_
 have hIc:=zxd I
 have hlp:=hR.pe.len
 have hlq:=hR.q.len
 refine zR ?_
 refine Zh rfl rfl rfl (fun b_1=>?_)
 refine zA (Qb ?_)
 refine QO .here (fun I1 hI1 hb1=>?_)
 have hR:=hR.mono hI1;have hIc:=hIc.trans hI1
 have h1:=BxI.of hb1
 refine Qc (Qq (zR ?_))
 refine zF ZR ?_
 refine zV (Qd rfl YW (fun hg=>by exact QG.imm h1.out rfl)) ?_
 refine zQ YJ ?_
 refine zC ?_
 refine zM ?_
 refine Ze 4 rfl rfl rfl ?_
 refine zJ (Qa rfl ZR) ?_
 refine zJ (Qd rfl YW (fun hg=>by exact QG.imm h1.out rfl)) ?_
 refine zJ (Q9 rfl YJ) ?_
 refine zJ (QT rfl rfl rfl) ?_
 refine ZP rfl rfl rfl rfl rfl ?_
 refine zM ?_
 refine Ze 10 rfl rfl rfl ?_
 refine zJ (Qa rfl ZY) ?_
 refine zJ (Qg rfl Z5 (fun hg=>by exact Cells.part (pre:=[.slice pa pn pc]) (vs:=[.slice qa qn qc,.slice aa an ac]) (post:=[]) (BxI.cells (vs:=[_,_,_]) h1) rfl) rfl) ?_
 refine qf (vs:=[_]) rfl ziI (fun hg=>zlq hR.q hqn hR.k han) ?_
 refine zJ (QT rfl rfl rfl) ?_
 refine ZP rfl rfl rfl rfl rfl ?_
 refine zN ?_
 refine zI ?_ ?_<;>intro hc24
 ·
  have h24:=hc24
  refine zR (zA (zN (QF (Qi ?_))))
  exact QP rfl rfl (fun w hw=>⟨_,I1,[],rfl,hIc,by exact hw.drop,rfl,by rw [zeD hR,zs1 h24]⟩)
 have h24:=hc24
 refine Qw (Qc (Qq (zR ?_)))
 refine zF ZR ?_
 refine zV (Qd rfl YW (fun hg=>by exact QG.imm h1.out rfl)) ?_
 refine zQ YJ ?_
 refine zM (zN (QD ?_))
 refine zU [(1,_),(26,_),(27,_)] (fun T L0 mz E I' loc'=>∃ (k:Nat),mz=pn-k∧E=(28,.int .i64 k)::T∧I1=I'∧L0=loc'∧k≤pn∧(ps.take k).any (fun x=> !Z3 x.notes)=false) ?_ (h:=⟨0,rfl,rfl,rfl,rfl,Nat.zero_le _,rfl⟩)
 rintro mz E I' loc' ⟨k,rfl,rfl,rfl,rfl,hk,hno⟩
 refine zR (zC (zN (Qq ?_)))
 refine zI ?_ ?_<;>intro hc29
 ·
  have hlt_k:k<pn:=by have h:=hc29;simp at h;omega
  obtain ⟨x,hx⟩:∃ y,ps[k]? =some y:=⟨_,List.getElem?_eq_getElem (by omega)⟩
  have hxm:=List.mem_of_getElem? hx
  refine Qw (Qc (Qq (QD (zR ?_))))
  refine zV (QV rfl rfl YJ hR.pe (fun hg=>by omega)) ?_
  refine zV (Qg rfl Jm (fun hg=>by exact zxe hR.pe hx) rfl) ?_
  refine Qt zig rfl rfl (fun b_4=>?_)
  refine zh zaO ?_
  refine zN (zR ?_)
  refine zV (Qg rfl Jm (fun hg=>by exact Cells.g0) rfl) ?_
  refine qcV (vs:=[_]) rfl zii (zfM (hR.nt x hxm) (hnn x hxm)) ?_
  refine zO (zN ?_)
  refine zI ?_ ?_<;>intro hc34
  ·
   refine zR (zA (zN (QF (Qz (Qi (Qi (Qz ?_)))))))
   refine Qi ?_
   exact QP rfl rfl (fun w hw=>⟨_,I1,[],rfl,hIc,by exact hw.drop,rfl,by rw [zeD hR,zve h24 hx hc34]⟩)
  refine Qw (Qn (Qc (Qk (zB ?_))))
  refine zM (Qb ?_)
  exact zm (h:=⟨pn-(k+1),by omega,k+1,rfl,rfl,rfl,rfl,by omega,zbW hx hno hc34⟩)
 have hge_k:pn≤k:=by have h:=hc29;simp at h;omega
 rw [Yl hlp hge_k] at hno
 refine Zy (Qs (Qs (QB (Qc (Qq (zR ?_))))))
 refine zF ZY ?_
 refine zF Zk ?_
 refine zV (Qd rfl Zq (fun hg=>by exact QG.imm h1.out rfl)) ?_
 refine zQ Zl ?_
 refine zM (zN (QD ?_))
 refine zU [(1,_),(38,_),(39,_)] (fun T L0 mz E I' loc'=>∃ (j:Nat),mz=qn-j∧E=(40,.int .i64 j)::T∧HLe I1 I'∧L0=loc'∧j≤qn∧(qs.take j).any (Ub pn)=false) ?_ (h:=⟨0,rfl,rfl,zxd _,rfl,Nat.zero_le _,rfl⟩)
 rintro mz E J3 loc' ⟨j,rfl,rfl,hJ,rfl,hj,hno2⟩
 have hR:=hR.mono hJ;have h1:=h1.mono hJ;have hIc:=hIc.trans hJ
 have hB2:=hJ
 refine zR (zC (zN (Qq ?_)))
 refine zI ?_ ?_<;>intro hc41
 ·
  have hlt_j:j<qn:=by have h:=hc41;simp at h;omega
  obtain ⟨y,hy⟩:∃ y,qs[j]? =some y:=⟨_,List.getElem?_eq_getElem (by omega)⟩
  have hym:=List.mem_of_getElem? hy
  refine Qw (Qc (Qq (QD (zR ?_))))
  refine zV (QV rfl rfl Zl hR.q (fun hg=>by omega)) ?_
  refine zV (Qg rfl VU (fun hg=>by exact zxe hR.q hy) rfl) ?_
  refine Qt zbA rfl rfl (fun b_6=>?_)
  refine zh Jo ?_
  refine zN (zR ?_)
  refine zF XT ?_
  refine zL UH ?_
  refine QE (cap:=[]) (vs:=[_]) rfl rfl zlK .nil (zkh (hR.pk y hym).sl (hR.pk y hym).byte (hdl y hym)) rfl rfl ?_
  rintro vv4 I4 L4 hI4 ⟨rfl,cs,bb,rfl,hrd⟩
  have hR:=hR.mono hI4;have h1:=h1.mono hI4;have hIc:=hIc.trans hI4;have hB2:=hB2.trans hI4
  refine zM ?_
  refine zE ?_
  refine zE ?_
  refine Qt Wj rfl rfl (fun b_7=>?_)
  refine Vm (old:=Zn zbD) rfl rfl VX hrd.1.1 rfl hrd.1.2 rfl (by repeat (first | exact Upd.here | apply Upd.there | apply Qx)) ?_
  refine zA ?_
  refine zN (zR ?_)
  refine zM ?_
  refine zO ?_
  refine zM ?_
  refine Ze 2 rfl rfl rfl ?_
  refine zJ (Qa rfl X0) ?_
  refine zJ (Qd rfl QA (fun hg=>by exact QG.h1 rfl)) ?_
  refine zJ (Qa rfl WB) ?_
  refine zJ (Qd rfl QA (fun hg=>by exact QG.h1 rfl)) ?_
  refine zJ (Vo rfl rfl) ?_
  refine zJ (Qa rfl ZR) ?_
  refine zJ (Qd rfl YW (fun hg=>by exact QG.imm h1.out rfl)) ?_
  refine zJ (Q9 rfl YJ) ?_
  refine zJ (QT rfl rfl rfl) ?_
  refine ZP rfl rfl rfl rfl rfl ?_
  refine zN ?_
  refine zI ?_ ?_<;>intro hc62
  ·
   have hbk:Ub pn y=true:=by unfold Ub;rw [zhi hrd];exact hc62
   refine zR (zA (zN (QF (Qz (Qi (Qi (Qz ?_)))))))
   refine Qi ?_
   exact QP rfl rfl (fun w hw=>⟨_,I4,[],rfl,hIc,by exact hw.drop,rfl,by rw [zeD hR,zsm h24 hno hy hbk]⟩)
  have hbk:Ub pn y=false:=by unfold Ub;rw [zhi hrd];exact hc62
  refine Qw (Qn (Qc (Qk (zB ?_))))
  refine zM (Qb ?_)
  exact zm (h:=⟨qn-(j+1),by omega,j+1,rfl,rfl,hB2,rfl,by omega,zbW hy hno2 hbk⟩)
 have hge_j:qn≤j:=by have h:=hc41;simp at h;omega
 rw [Yl hlq hge_j] at hno2
 refine Zy (Qs (Qs (QB (Qc (zR (zA (zN ?_)))))))
 refine QF ?_
 exact QP rfl rfl (fun w hw=>⟨_,J3,[],rfl,hIc,by exact hw.drop,rfl,by rw [zeD hR,zuD h24 hno hno2]⟩)
end
end Go.Proofs.YtjblkbkmblkgoaaGreat
namespace Go.Kn
section
open Go
def zey {α:Type}(P:Program)(f:FuncId)(cap:List Value)(I:Qv)(Lb:Loc)(rel:Value→α→Qv→Prop)(xs:List α):Prop:=
 ∀ g l (J Jx:List α→Qv→Qv→Prop),(∀ pre I1 I2 H',HLe I1 I2→J pre I1 H'→J pre I2 H')→
  (∀ pre x v I' H',pre++[x]<+:xs→HLe I I'→rel v x I'→J pre I' H'→zbg P g l [v] I' H' fun b I2 H2=>if b then J (pre++[x]) I2 H2 else Jx (pre++[x]) I2 H2)→
  ∀ I0 H w,HLe I I0→J [] I0 H→(∀ p∈Lb,H p.1=some p.2)→St g I0 H [] w→Calls P f ((.func (.yield l) #[] #[]:Value)::cap).toArray w fun e w'=>∃ v I' H',e= .returned v∧HLe I0 I'∧St g I' H' [] w'∧(J xs I' H'∨∃ pre,pre<+:xs∧Jx pre I' H')
theorem zey.mono {α:Type}{P:Program}{f:FuncId}{cap:List Value}{I I':Qv}{Lb:Loc}{rel:Value→α→Qv→Prop}{xs:List α}(h:zey P f cap I Lb rel xs)(hI:HLe I I'):zey P f cap I' Lb rel xs:=
 fun g l J Jx hm hY I0 H w h0 hJ hb hw=>h g l (fun pre I1 H1=>HLe I' I1∧J pre I1 H1) (fun pre I1 H1=>HLe I' I1∧Jx pre I1 H1)
  (fun pre I1 I2 H' h12 ⟨h1,h2⟩=>⟨h1.trans h12,hm pre I1 I2 H' h12 h2⟩)
  (fun pre x v I1 H1 hp _ hv ⟨h2,h3⟩ loc W hW=>by
   obtain ⟨fn,tmps,asg,bd,hy,hR⟩:=hY pre x v I1 H1 hp h2 hv h3 loc W hW
   refine ⟨fn,tmps,asg,bd,hy,hR.mono ?_⟩
   rintro e W' ⟨b,I2,H2,he,h4,h5,h6⟩
   refine ⟨b,I2,H2,he,h4,h5,?_⟩
   cases b with
   | true=>exact ⟨h2.trans h4,h6⟩
   | false=>exact ⟨h2.trans h4,h6⟩) I0 H w (hI.trans h0) ⟨h0,hJ⟩ hb hw |>.mono fun e w' ⟨v,I1,H1,he,h1,h2,h3⟩=>⟨v,I1,H1,he,h1,h2,h3.elim (fun h=>.inl h.2) (fun ⟨pre,hp,h⟩=>.inr ⟨pre,hp,h.2⟩)⟩
def znT (H:Qv)(b:Nat):Qv:=fun x=>if x=b then none else H x
theorem zls {H:Qv}{b:Nat}{o:Obj}(hb:H b=some o):Jw (znT H b) [(b,o)]=H:=by
 funext x
 simp only [Jw,znT]
 split
 ·
  rename_i e;rw [e,hb]
 ·
  rfl
section
variable {g:World} {I H:Qv} {loc A B:Loc} {w:World} {b:Nat} {o:Obj}
theorem St.peek (h:St g I H [] w)(hb:H b=some o):St g I (znT H b) [(b,o)] w:=by
 have hd:∀ x p,znT H b x=some p→H x=some p:=fun x p e=>by
  unfold znT at e
  split at e
  ·
   cases e
  ·
   exact e
 refine ⟨h.os,h.tape,h.out,h.size,h.imm,fun x p e=>h.frm x p (hd x p e),?_,?_,?_,by simp⟩
 ·
  intro x p hm
  obtain ⟨rfl,rfl⟩:=Prod.mk.inj (List.mem_singleton.1 hm)
  exact h.frm _ _ hb
 ·
  intro x
  rcases h.sepIH x with e | e
  ·
   exact .inl e
  ·
   refine .inr ?_
   unfold znT
   split
   ·
    rfl
   ·
    exact e
 ·
  intro x p hm
  obtain ⟨rfl,rfl⟩:=Prod.mk.inj (List.mem_singleton.1 hm)
  refine ⟨?_,by simp [znT]⟩
  rcases h.sepIH x with e | e
  ·
   exact e
  ·
   rw [hb] at e;cases e
end
section
variable {α:Type} {P:Program} {N:Nat} {g:World} {p:Nat} {assign body:Code} {f:FuncId} {cap:List Value} {rel:Value→α→Qv→Prop} {xs:List α} {E:Env} {I H:Qv} {L B:Loc}
theorem zkR {fn:FuncId}{tmps:Array Value}{l df:Nat}{w2:World}(Jc:List α→Qv→Qv→Loc→Prop)(Jx:Code→List α→Qv→Qv→Loc→Prop)(Ja:List α→α→Env→Qv→Qv→Loc→Prop)
    (hm:∀ pre I1 I2 H' L',HLe I1 I2→Jc pre I1 H' L'→Jc pre I2 H' L'){Lb:Loc}(hst:∀ p∈Lb,p∈L)(hseq:zey P f cap I Lb rel xs)(hfit0:∀ v,Ko N [] ((p,v)::E) {tmps:=tmps.setIfInBounds p v,defers:=[]})(h0:Jc [] I H L)
    (hass:∀ l Z pre x v I' H' L',pre++[x]<+:xs→HLe I I'→rel v x I'→Jc pre I' H' L'→X ⟨P,some l,N,[],g,H'⟩ (Exit.then (Met ⟨P,some l,N,[],g,H'⟩ fun E2 I2 loc2=>HLe I' I2∧∃ L2,loc2=L2++Z∧Ja pre x E2 I2 H' L2) (fun _ _ _=>False)) assign ((p,v)::E) I' (L'++Z))
    (hbody:∀ l Z pre x E2 I2 H2 L2,(∃ r0,(l,Obj.loop r0)∈Z)→pre++[x]<+:xs→HLe I I2→Ja pre x E2 I2 H2 L2→X ⟨P,some l,N,[],g,H2⟩ (zic g Z (fun q I3 H3 L3=>HLe I2 I3∧Jc q I3 H3 L3) (fun c q I3 H3 L3=>HLe I2 I3∧Jx c q I3 H3 L3) (pre++[x])) body E2 I2 (L2++Z))
    (hw2:St g I H (L++((l,zsL fn tmps p assign body df .ready none)::B)) w2):
    Calls P f ((.func (.yield l) #[] #[]:Value)::cap).toArray w2 fun e w'=>∃ v,e= .returned v∧
      ((∃ I' H' L',HLe I I'∧Jc xs I' H' L'∧St g I' H' (L'++((l,zsL fn tmps p assign body df .ready none)::B)) w')∨
       (∃ c pre I' H' L',HLe I I'∧pre<+:xs∧Jx c pre I' H' L'∧St g I' H' (L'++((l,zsL fn tmps p assign body df .done (some c))::B)) w')):=by
  let rc:=zsL fn tmps p assign body df
  let Lr:LoopState→Option Code→Loc→Loc:=fun st pd L'=>L'++((l,rc st pd)::B)
  let J:List α→Qv→Qv→Prop:=fun pre I' H'=>∃ H0 L',Jc pre I' H0 L'∧HLe I I'∧H'=Jw H0 (Lr .ready none L')∧((Lr .ready none L').map (·.1)).Nodup∧∀ b o,(b,o)∈Lr .ready none L'→H0 b=none
  let Jy:List α→Qv→Qv→Prop:=fun pre I' H'=>∃ c H0 L',Jx c pre I' H0 L'∧HLe I I'∧H'=Jw H0 (Lr .done (some c) L')∧((Lr .done (some c) L').map (·.1)).Nodup∧∀ b o,(b,o)∈Lr .done (some c) L'→H0 b=none
  have hJ0:J [] I (Jw H (Lr .ready none L)):=⟨H,L,h0,zxd I,rfl,hw2.nodup,fun b o hm=>(hw2.sepIL b o hm).2⟩
  refine (hseq g l J Jy (fun pre I1 I2 H' h12 ⟨H0,L',h1,h2,h3,h4,h5⟩=>⟨H0,L',hm pre I1 I2 H0 L' h12 h1,h2.trans h12,h3,h4,h5⟩) ?_ I _ _ (zxd I) hJ0 (fun p hp=>zc8 hw2.nodup (List.mem_append_left _ (hst p hp))) hw2.hide).mono ?_
  · intro pre x v I' H' hpre hI hrel ⟨H0,L',hJc,_,hH,hnd,hdj⟩ lit W hW
    subst hH
    have hS0:=hW.join2 hnd hdj
    -- own blocks first, the record, the rest, the iterator's blocks
    have hS1:St g I' H0 (L'++((l,rc .ready none)::(B++lit))) W:=hS0.permL (by
      have:(L'++((l,rc .ready none)::(B++lit)))=(L'++((l,rc .ready none)::B))++lit:=by simp
      rw [this];exact List.perm_append_comm)
    have hrec:W.heap[l]? =some (rc .ready none):=hS1.own _ _ (by simp)
    refine ⟨fn,_,assign,body,run_yield (P:=P) hrec (by simp),?_⟩
    refine roundIn_of_wpIn (F:=Fence.wide) trivial ?_
    have htm:((#[p]:Array Tmp).zip #[v]).foldl (fun tmps (t,v)=>tmps.setIfInBounds t v) tmps=tmps.setIfInBounds p v:=by simp
    show Code.wpIn _ _ _ _ _ {tmps:=((#[p]:Array Tmp).zip #[v]).foldl (fun tmps (t,v)=>tmps.setIfInBounds t v) tmps,defers:=[]} _
    rw [htm]
    have hA:=hass l ((l,rc .ready none)::(B++lit)) pre x v I' H0 L' hpre hI hrel hJc _ W (hfit0 v) hS1
    refine wpIn_mono (F:=Fence.wide.inRound l) (n:=0) (P:=P) (show assign.wpIn (Fence.wide.inRound l) 0 P _ _ _ from hA) ?_
    intro e a1 W1 hq
    cases e with
    | normal=>
      obtain ⟨E2,I2,loc2,⟨hI2,L2,rfl,hJa⟩,hf2,hs2⟩:=hq
      have hrec1:W1.heap[l]? =some (rc .ready none):=hs2.own _ _ (by simp)
      have hs4:=hs2.putObj (o':=rc .busy none) (b:=l) (Qx .here)
      refine ⟨_,run_beginRound (P:=P) hrec1 rfl,?_⟩
      have hB:=hbody l ((l,rc .busy none)::(B++lit)) pre x E2 I2 H0 L2 ⟨_,List.mem_cons_self ..⟩ hpre (hI.trans hI2) hJa a1 _ hf2 hs4
      refine wpIn_mono (F:=Fence.wide.inRound l) (n:=0) (P:=P) (show body.wpIn (Fence.wide.inRound l) 0 P _ _ _ from hB) ?_
      have fin:∀ (W3:World) (I3 H3:Qv) (L3:Loc) (jump:Option Code) (st:LoopState),St g I3 H3 (L3++((l,rc .busy none)::(B++lit))) W3→(st=if jump.isNone then .ready else .done)→
          ∃ W4,(Instr.endRound l jump).run P W3= .ok (.bool jump.isNone) W4∧St g I3 (Jw H3 (Lr st jump L3)) lit W4∧((Lr st jump L3).map (·.1)).Nodup∧∀ b o,(b,o)∈Lr st jump L3→H3 b=none:=by
        intro W3 I3 H3 L3 jump st hs hst
        have hrec3:W3.heap[l]? =some (rc .busy none):=hs.own _ _ (by simp)
        have hs6:=hs.putObj (o':=rc st jump) (b:=l) (Qx .here)
        have hs7:St g I3 H3 (lit++Lr st jump L3) (W3.putObj l (rc st jump)):=hs6.permL (by
          have:(L3++((l,rc st jump)::(B++lit)))=Lr st jump L3++lit:=by simp [Lr]
          rw [this];exact List.perm_append_comm)
        have hs8:=hs7.rest Qr
        refine ⟨_,run_endRound (P:=P) jump hrec3,?_,hs8.nodup,fun b o hm=>(hs8.sepIL b o hm).2⟩
        rw [←hst]
        exact hs7.hideR
      intro e a3 W3 hq
      cases e with
      | normal=>
        obtain ⟨I3,H3,L3,⟨hI3,hJ3⟩,hs⟩:=hq
        obtain ⟨W4,h1,h2,h3,h4⟩:=fin W3 I3 H3 L3 none .ready hs rfl
        exact ⟨_,W4,h1,true,I3,_,rfl,hI2.trans hI3,h2,H3,L3,hJ3,(hI.trans hI2).trans hI3,rfl,h3,h4⟩
      | ret=>
        obtain ⟨I3,H3,L3,⟨hI3,hJ3⟩,hs⟩:=hq
        obtain ⟨W4,h1,h2,h3,h4⟩:=fin W3 I3 H3 L3 (some .ret) .done hs rfl
        exact ⟨_,W4,h1,false,I3,_,rfl,hI2.trans hI3,h2,.ret,H3,L3,hJ3,(hI.trans hI2).trans hI3,rfl,h3,h4⟩
      | exit id=>
        obtain ⟨I3,H3,L3,⟨hI3,hJ3⟩,hs⟩:=hq
        obtain ⟨W4,h1,h2,h3,h4⟩:=fin W3 I3 H3 L3 (some (.exit id)) .done hs rfl
        exact ⟨_,W4,h1,false,I3,_,rfl,hI2.trans hI3,h2,.exit id,H3,L3,hJ3,(hI.trans hI2).trans hI3,rfl,h3,h4⟩
      | goto t=>exact hq.elim
      | panic c=>exact hq.elim
      | outgrown=>exact hq.elim
    | _=>exact hq.elim
  · rintro e w' ⟨v,I',H',rfl,hI,hs,hJ | ⟨pre,hpre,hJ⟩⟩
    · obtain ⟨H0,L',hJc,hI1,rfl,hnd,hdj⟩:=hJ
      have hs1:=hs.join2 hnd hdj
      exact ⟨v,rfl,.inl ⟨I',H0,L',hI1,hJc,by simpa using hs1⟩⟩
    · obtain ⟨c,H0,L',hJc,hI1,rfl,hnd,hdj⟩:=hJ
      have hs1:=hs.join2 hnd hdj
      exact ⟨v,rfl,.inr ⟨c,pre,I',H0,L',hI1,hpre,hJc,by simpa using hs1⟩⟩
end
section
variable {α:Type} {P:Program} {N:Nat} {g:World} {H:Qv} {Q:Exit→Act→World→Prop} {gop:Operand} {p:Nat} {assign body:Code} {f:FuncId} {cap:List Value} {rel:Value→α→Qv→Prop} {xs:List α} {E:Env} {I:Qv} {L:Loc}
theorem zce {ms:List Nat}(Jc:List α→Qv→Qv→Loc→Prop)(Jx:Code→List α→Qv→Qv→Loc→Prop)(Ja:List α→α→Env→Qv→Qv→Loc→Prop)
  (hm:∀ pre I1 I2 H' L',HLe I1 I2→Jc pre I1 H' L'→Jc pre I2 H' L')(hg:QH [] E gop=some (.func (.func f) #[] cap.toArray))(hF:Fun P f){Lb:Loc}(hst:∀ p∈Lb,p∈L)(hseq:zey P f cap I Lb rel xs)(hp:Nat.blt p N=true)(h0:Jc [] I H L)
  (hass:∀ l Z pre x v I' H' L',pre++[x]<+:xs→HLe I I'→rel v x I'→Jc pre I' H' L'→X ⟨P,some l,N,[],g,H'⟩ (Exit.then (Met ⟨P,some l,N,[],g,H'⟩ fun E2 I2 loc2=>HLe I' I2∧∃ L2,loc2=L2++Z∧Ja pre x E2 I2 H' L2) (fun _ _ _=>False)) assign ((p,v)::E) I' (L'++Z))
  (hbody:∀ l Z pre x E2 I2 H2 L2,(∃ r0,(l,Obj.loop r0)∈Z)→pre++[x]<+:xs→HLe I I2→Ja pre x E2 I2 H2 L2→X ⟨P,some l,N,[],g,H2⟩ (zic g Z (fun q I3 H3 L3=>HLe I2 I3∧Jc q I3 H3 L3) (fun c q I3 H3 L3=>HLe I2 I3∧Jx c q I3 H3 L3) (pre++[x])) body E2 I2 (L2++Z))
  (hdone:∀ bd I' H' L',HLe I I'→Jc xs I' H' L'→At ⟨P,none,N,mk (bd::ms),g,H'⟩ Q .normal E I' (L'++MB (bd::ms)))
  (hstop:∀ c bd pre I' H' L',HLe I I'→pre<+:xs→Jx c pre I' H' L'→X ⟨P,none,N,mk (bd::ms),g,H'⟩ Q c E I' (L'++MB (bd::ms))):
  X ⟨P,none,N,mk ms,g,H⟩ Q (.rangeFunc gop #[p] assign body) E I (L++MB ms):=by
 intro a w ha hw
 refine wpIn_rangeFunc fun fn _=>?_
 have hen:=run_enterLoop_outer (P:=P) (w:=w) fn a.tmps #[p] assign body
 generalize hbd:w.heap.size=bd at hen
 let rc:=zsL fn a.tmps p assign body bd
 have hw1:St g I H ((bd+1,rc .ready none)::(bd,.deferred (some []))::(L++MB ms)) ((w.alloc (.deferred (some []))).alloc (rc .ready none)):=by
  have h1:=hw.alloc (.deferred (some []))
  have h2:=h1.alloc (rc .ready none)
  rw [World.size_alloc,hbd] at h2
  exact h2
 have hw2:St g I H (L++((bd+1,rc .ready none)::MB (bd::ms))) ((w.alloc (.deferred (some []))).alloc (rc .ready none)):=hw1.permL (by
  have e:L++((bd+1,rc .ready none)::MB (bd::ms))=(L++(bd+1,rc .ready none)::MB ms)++[(bd,.deferred (some []))]:=by simp [MB]
  rw [e]
  refine List.perm_append_comm.trans ?_
  have h1:(L++(bd+1,rc .ready none)::MB ms).Perm ((bd+1,rc .ready none)::(L++MB ms)):=List.perm_middle
  exact (h1.cons _).trans (List.Perm.swap ..))
 have hev:=Qj (S:=[]) ha trivial rfl hg
 refine ⟨bd+1,[{target:=.collected bd,args:= #[]}],_,{target:=.fn (.func f) cap.toArray,args:= #[.func (.yield (bd+1)) #[] #[]]},(w.alloc (.deferred (some []))).alloc (rc .ready none),f,((.func (.yield (bd+1)) #[] #[]:Value)::cap).toArray,(w.alloc (.deferred (some []))).alloc (rc .ready none),hen,?_,fun _ _=>trivial,?_,by simp [FR],UY.2 ?_⟩
 ·
  have e2:a.eval (.const (.func (.yield (bd+1)) #[] #[]))= .func (.yield (bd+1)) #[] #[]:=rfl
  simp only [resolve,List.map_toArray,List.map_cons,List.map_nil,e2,hev,Deferred.ofValue]
  rfl
 ·
  simp only [invoke,Jp hF]
  simp
 have hfit:∀ v,Ko N [] ((p,v)::E) {tmps:=a.tmps.setIfInBounds p v,defers:=[]}:=fun v=>by
  have h1:=ha.put hp v
  exact ⟨h1.size,rfl,h1.env⟩
 refine (zkR (l:=bd+1) (df:=bd) Jc Jx Ja hm hst hseq hfit h0 hass hbody hw2).mono ?_
 rintro e w' ⟨v,rfl,⟨I',H',L',hI,hJ,hs⟩ | ⟨c,pre,I',H',L',hI,hpre,hJ,hs⟩⟩
 ·
  have hrec:w'.heap[bd+1]? =some (rc .ready none):=hs.own _ _ (by simp [rc])
  have hs2:=hs.putObj (o':=rc .exhausted none) (b:=bd+1) (Qx .here)
  refine ⟨none,_,run_endLoop (P:=P) hrec (by simp),?_⟩
  refine hdone bd I' H' L' hI hJ _ _ ⟨ha.size,by simp [ha.defers,mk],ha.env⟩ ?_
  exact hs2.subL (zbZ (.drop .refl))
 ·
  have hrec:w'.heap[bd+1]? =some (rc .done (some c)):=hs.own _ _ (by simp [rc])
  have hs2:=hs.putObj (o':=rc .exhausted (some c)) (b:=bd+1) (Qx .here)
  refine ⟨some c,_,run_endLoop (P:=P) hrec (by simp),?_⟩
  refine hstop c bd pre I' H' L' hI hpre hJ _ _ ⟨ha.size,by simp [ha.defers,mk],ha.env⟩ ?_
  exact hs2.subL (zbZ (.drop .refl))
end
end
end Go.Kn
namespace Go.Proofs.YtjblkbkmblkgoaaGreat
section
open Go Go.Kn Go.Proofs
structure zdm (I:Qv)(a:Option Addr)(m c:Nat)(qs D:List Pk):Prop where
 sl:Sl I 3 ZQ a m c qs
 pk:∀ q∈qs,PkM I q
 dat:qs.map Vz=D
theorem zdm.mono {I I':Qv}{a:Option Addr}{m c:Nat}{qs D:List Pk}(h:zdm I a m c qs D)(hI:HLe I I'):zdm I' a m c qs D:=⟨h.sl.mono hI,fun q hq=>(h.pk q hq).mono hI,h.dat⟩
theorem zdm.len {I:Qv}{a:Option Addr}{m c:Nat}{qs D:List Pk}(h:zdm I a m c qs D):m=D.length:=by
 rw [←h.dat,List.length_map];exact h.sl.len.symm
def zsv (v:Value)(x:Pk)(I:Qv):Prop:=∃ y:Pk,v=WG y∧PkM I y∧Vz y=x
theorem zeE {qs:List Pk}{ks:List (Int×Int)}(h:K1 qs ks=0):qs.length≤4096∧(∀ p∈qs,pkV p=true)∧zfb [] ks=true:=by
 unfold K1 at h
 split at h
 ·
  cases h
 ·
  rename_i h1
  split at h
  ·
   rename_i h2
   rw [Bool.not_eq_true,Bool.or_eq_false_iff,List.any_eq_false] at h1
   have h3:=h1.1
   simp only [decide_eq_false_iff_not] at h3
   exact ⟨by omega,fun p hp=>by simpa using h1.2 p hp,h2⟩
  ·
   cases h
theorem zmh {qs l:List Pk}{ks:List (Int×Int)}(h:K1 qs ks=0)(hv:∀ p∈l,pkV p=true)(hl:qs.length+l.length≤4096):K1 (qs++l) ks=0:=by
 obtain ⟨h1,h2,h3⟩:=zeE h
 unfold K1
 rw [h3,if_pos rfl,if_neg]
 rw [Bool.not_eq_true,Bool.or_eq_false_iff,List.any_eq_false]
 refine ⟨by rw [List.length_append];simp only [decide_eq_false_iff_not];omega,fun p hp=>?_⟩
 rcases List.mem_append.1 hp with hp | hp
 ·
  simp [h2 p hp]
 ·
  simp [hv p hp]
theorem znp {I:Qv}{a:Option Addr}{m c:Nat}{qs D pre xs:List Pk}{ks:List (Int×Int)}{x y:Pk}(h:zdm I a m c qs (D++pre))(hok:K1 D ks=0)(hv:∀ p∈xs,pkV p=true)(hl:D.length+xs.length≤4096)(hpre:pre++[x]<+:xs)(hy:PkM I y)(e:Vz y=x):KX qs ks y=0:=by
 have hle:=hpre.length_le
 rw [List.length_append,List.length_singleton] at hle
 have hmem:∀ p∈pre++[x],p∈xs:=fun p hp=>hpre.subset hp
 have h1:K1 (D++pre) ks=0:=zmh hok (fun p hp=>hv p (hmem p (List.mem_append_left _ hp))) (by omega)
 have h2:pkV x=true:=hv x (hmem x (by simp))
 rw [←zdt h.pk ks hy,h.dat,e]
 refine zj8 (by rw [h1,h2];rfl) ?_
 rw [List.length_append]
 simp only [beq_eq_false_iff_ne,ne_eq];omega
theorem zdm.snoc {I I':Qv}{a b:Option Addr}{m c n d:Nat}{qs D pre:List Pk}{x y:Pk}(h:zdm I a m c qs (D++pre))(hI:HLe I I')(hS:Sl I' 3 ZQ b n d (qs++[y]))(hy:PkM I' y)(e:Vz y=x):zdm I' b n d (qs++[y]) (D++(pre++[x])):=
 ⟨hS,fun q hq=>by
  rcases List.mem_append.1 hq with hq | hq
  ·
   exact (h.pk q hq).mono hI
  ·
   rw [List.mem_singleton] at hq;subst hq;exact hy,by rw [List.map_append,h.dat,List.map_singleton,e,List.append_assoc]⟩
end
section
open Go Go.Kn Go.Proofs
theorem JN:ScT Tryz.prog 105:=.of (by kernel_rfl)
theorem zoc {I:Qv}{bc:Nat}{pa qa aa:Option Addr}{pn pc qn qc an ac:Nat}{qs D xs:List Pk}{ks:List (Int×Int)}(hS:zdm I qa qn qc qs D)(hA:Sl I 2 Ky aa an ac ks)(han:an≤100000){f:Nat}{cap:List Value}(hF:Fun Tryz.prog f)(hseq:zey Tryz.prog f cap I [(bc,.cells #[.slice pa pn pc,.slice qa qn qc,.slice aa an ac] 108 (0,0))] zsv xs)(hok:K1 D ks=0)(hv:∀ p∈xs,pkV p=true)(hl:D.length+xs.length≤4096):Vi Tryz.prog 110 [ZK bc,.func (.func f) #[] cap.toArray] I [(bc,.cells #[.slice pa pn pc,.slice qa qn qc,.slice aa an ac] 108 (0,0))] (fun v I' L'=>v= .tuple #[]∧∃ a m c qs2,L'=[(bc,.cells #[.slice pa pn pc,.slice a m c,.slice aa an ac] 108 (0,0))]∧zdm I' a m c qs2 (D++xs)):=by
 intro g H w hw
 refine ziJ Tryz.func110 rfl Tryz.ntmps110 rfl hw ?_
 have hIc:=zxd I
 refine zR ?_
 refine Zh rfl rfl rfl (fun b_2=>?_)
 refine Qb ?_
 refine QO .here (fun I1 hI1 hb1=>?_)
 have hS:=hS.mono hI1;have hA:=hA.mono hI1;have hIc:=hIc.trans hI1
 have h2:=BxI.of hb1
 refine Qc (zR (zM (zN (QD ?_))))
 refine zce (ms:=[]) (rel:=zsv) (L:=[(bc,.cells #[.slice pa pn pc,.slice qa qn qc,.slice aa an ac] 108 (0,0))]) (fun pre I' H' L'=>∃ (a:Option Addr) (m c:Nat) (qs2:List Pk),L'=[(bc,.cells #[.slice pa pn pc,.slice a m c,.slice aa an ac] 108 (0,0))]∧H'=H∧HLe I1 I'∧zdm I' a m c qs2 (D++pre)) (fun _ _ _ _ _=>False) (fun pre x E2 I2 H2 L2=>∃ (y:Pk) (b4:Nat) (a:Option Addr) (m c:Nat) (qs2:List Pk),E2=[(2,ZK b_2),(4,ZK b4)]∧L2=[(b4,.cells (ZQ y).toArray 99 (0,0)),(bc,.cells #[.slice pa pn pc,.slice a m c,.slice aa an ac] 108 (0,0))]∧H2=H∧HLe I1 I2∧PkM I2 y∧Vz y=x∧zdm I2 a m c qs2 (D++pre)) (fun pre I1 I2 H' L' h12 ⟨a,m,c,qs2,e1,e2,e3,e4⟩=>⟨a,m,c,qs2,e1,e2,e3.trans h12,e4.mono h12⟩) rfl hF (fun p hp=>hp) (hseq.mono hIc) rfl ⟨_,_,_,qs,rfl,rfl,zxd _,by rw [List.append_nil];exact hS⟩ ?_ ?_ ?_ ?_
 ·
  rintro l9 Z pre x v0 I1 H1 L1 hpre hI1 ⟨y,rfl,hyM,hyD⟩ ⟨a,m,c,qs2,rfl,rfl,hI01,hQ⟩
  refine Qk ?_
  refine Qt zbA rfl rfl (fun b_4=>?_)
  refine zh Jo ?_
  refine Qb ?_
  exact zfw _ ⟨zxd _,_,rfl,y,b_4,a,m,c,qs2,rfl,rfl,rfl,hI01,hyM,hyD,hQ⟩ (.cons rfl (.cons rfl .nil))
 ·
  rintro l9 Z pre x E2 I2 H2 L2 hl9 hpre hI2 ⟨y,b4,a,m,c,qs2,rfl,rfl,rfl,hI02,hyM,hyD,hQ⟩
  have hA:=hA.mono hI02;have h2:=h2.mono hI02
  have hz:=znp hQ hok hv hl hpre hyM hyD
  have hle:=hpre.length_le
  have hml:=hQ.len
  rw [List.length_append,List.length_singleton] at hle
  rw [List.length_append] at hml
  have hC:=zxd I2
  refine QD (Qq ?_)
  have hD:=zxd I2
  refine ZL ?_
  refine Q0 I2 [(b4,.cells (ZQ y).toArray 99 (0,0)),(bc,.cells #[.slice pa pn pc,.slice a m c,.slice aa an ac] 108 (0,0))] mixed ?_
  refine zT 0 rfl (Qd rfl JN (fun hg=>by exact QG.imm h2.out rfl)) hD ?_
  refine zT 1 rfl (QM rfl) hD ?_
  refine zT 2 rfl (Qa rfl Ys) hD ?_
  refine zT 3 rfl (Qa rfl ZY) hD ?_
  refine zT 4 rfl (Qg rfl Z5 (fun hg=>by exact Cells.s1 (vs:=[_,_]) rfl) rfl) hD ?_
  refine zT 5 rfl (Qg rfl VU (fun hg=>by exact Cells.g0) rfl) hD ?_
  refine Q8 6 10 rfl rfl (by kernel_rfl) ?_ ?_
  ·
   refine QE (cap:=[]) (vs:=[_,_]) rfl rfl zfz .nil (zj1 hQ.sl (by omega) hA han y) rfl rfl ?_
   rintro vv2 I2 L2 hI2 ⟨a6,m6,c6,a7,m7,c7,rfl,rfl,hN,hm⟩
   have hQ:=hQ.mono hI2;have h2:=h2.mono hI2;have hyM:=hyM.mono hI2;have hI02:=hI02.trans hI2;have hC:=hC.trans hI2;have hD:=hD.trans hI2
   refine Qb ?_
   refine zD hD ?_
   refine zT 7 rfl (Qh rfl) hD ?_
   refine zT 8 rfl (Q3 rfl rfl) hD ?_
   refine zT 9 rfl (Q3 rfl rfl) hD ?_
   refine qd 10 rfl ?_
   refine Qt K4 rfl rfl (fun b_5=>?_)
   refine Qb ?_
   refine zD hD ?_
   refine qd 11 rfl ?_
   refine zh YB ?_
   refine Qb ?_
   refine zD hD ?_
   refine zT 12 rfl (QC rfl) hD ?_
   refine Qm (by kernel_rfl) ?_
   refine Qy ?_
   refine Qc (zR (zM ?_))
   refine zC ?_
   refine zM ?_
   refine QE (cap:=[]) (vs:=[_,_]) rfl rfl JO .nil ((K6 I2 (KX qs2 ks y==0) (KX qs2 ks y)).m (fun v hv=>by have h9:=hv.2;simp [hz] at h9)) rfl rfl ?_
   rintro vv3 I3 L3 hI3 ⟨rfl,rfl,rfl,_⟩
   have hQ:=hQ.mono hI3;have h2:=h2.mono hI3;have hyM:=hyM.mono hI3;have hN:=hN.mono hI3;have hI02:=hI02.trans hI3;have hC:=hC.trans hI3
   obtain ⟨e7,e8,e9,hS9⟩:=hN.ok hz
   subst a7 m7 c7
   have hQ3:=zdm.snoc hQ (zxd _) hS9 hyM hyD
   refine zN (Qk ?_)
   refine zV (Qd rfl JN (fun hg=>by exact QG.imm h2.out rfl)) ?_
   refine zV (Qg rfl Z5 (fun hg=>by exact Cells.g0) rfl) ?_
   refine zV (QM rfl) ?_
   refine zF Ys ?_
   refine zF ZY ?_
   refine VC rfl rfl YB rfl rfl rfl rfl (by repeat (first | exact Upd.here | apply Upd.there | apply Qx)) ?_
   refine Qb (Qn ?_)
   exact zdv (L:=[(bc,.cells #[.slice pa pn pc,.slice _ _ _,.slice aa an ac] 108 (0,0))]) ⟨hC,_,_,_,_,rfl,rfl,hI02,hQ3⟩ (by repeat (first | exact .refl | refine .keep ?_ | refine .drop ?_))
  refine Qt K4 rfl rfl (fun b_5=>?_)
  refine Qb ?_
  refine zD hD ?_
  refine qd 6 rfl ?_
  refine QE (cap:=[]) (vs:=[_,_]) rfl rfl zfz .nil (zj1 hQ.sl (by omega) hA han y) rfl rfl ?_
  rintro vv4 I4 L4 hI4 ⟨a6,m6,c6,a7,m7,c7,rfl,rfl,hN,hm⟩
  have hQ:=hQ.mono hI4;have h2:=h2.mono hI4;have hyM:=hyM.mono hI4;have hI02:=hI02.trans hI4;have hC:=hC.trans hI4;have hD:=hD.trans hI4
  refine Qb ?_
  refine zD hD ?_
  refine zT 7 rfl (Qh rfl) hD ?_
  refine zT 8 rfl (Q3 rfl rfl) hD ?_
  refine zT 9 rfl (Q3 rfl rfl) hD ?_
  refine qd 11 rfl ?_
  refine zh YB ?_
  refine Qb ?_
  refine zD hD ?_
  refine zT 12 rfl (QC rfl) hD ?_
  refine Qm (by kernel_rfl) ?_
  refine Qy ?_
  refine Qc (zR (zM ?_))
  refine zC ?_
  refine zM ?_
  refine QE (cap:=[]) (vs:=[_,_]) rfl rfl JO .nil ((K6 I4 (KX qs2 ks y==0) (KX qs2 ks y)).m (fun v hv=>by have h9:=hv.2;simp [hz] at h9)) rfl rfl ?_
  rintro vv5 I5 L5 hI5 ⟨rfl,rfl,rfl,_⟩
  have hQ:=hQ.mono hI5;have h2:=h2.mono hI5;have hyM:=hyM.mono hI5;have hN:=hN.mono hI5;have hI02:=hI02.trans hI5;have hC:=hC.trans hI5
  obtain ⟨e7,e8,e9,hS9⟩:=hN.ok hz
  subst a7 m7 c7
  have hQ3:=zdm.snoc hQ (zxd _) hS9 hyM hyD
  refine zN (Qk ?_)
  refine zV (Qd rfl JN (fun hg=>by exact QG.imm h2.out rfl)) ?_
  refine zV (Qg rfl Z5 (fun hg=>by exact Cells.g0) rfl) ?_
  refine zV (QM rfl) ?_
  refine zF Ys ?_
  refine zF ZY ?_
  refine VC rfl rfl YB rfl rfl rfl rfl (by repeat (first | exact Upd.here | apply Upd.there | apply Qx)) ?_
  refine Qb (Qn ?_)
  exact zdv (L:=[(bc,.cells #[.slice pa pn pc,.slice _ _ _,.slice aa an ac] 108 (0,0))]) ⟨hC,_,_,_,_,rfl,rfl,hI02,hQ3⟩ (by repeat (first | exact .refl | refine .keep ?_ | refine .drop ?_))
 ·
  rintro bd I1 H1 L1 hI1 ⟨a,m,c,qs2,rfl,rfl,hI01,hQ⟩
  have hIc:=hIc.trans hI1
  refine Qn ?_
  exact zgO (L:=[(bc,.cells #[.slice pa pn pc,.slice _ _ _,.slice aa an ac] 108 (0,0))]) (ms:=[bd]) (fun a ha w hw=>zwE rfl a w) (fun w hw=>⟨_,I1,_,rfl,hIc,hw,rfl,_,_,_,_,rfl,hQ⟩)
 rintro cd bd pre I1 H1 L1 hI1 hpre hF;exact hF.elim
end
section
open Go Go.Kn Go.Proofs
theorem zew {k:Nat}{i:Int}{t:Nt}(h:(k:Int)=i):JS (k+1) i t=JS k i t:=by
 unfold JS
 rw [List.range_succ,List.filter_append,List.map_append]
 simp [h]
theorem zbn {k:Nat}{i:Int}{t:Nt}(h:(k:Int)≠i):JS (k+1) i t=JS k i t++[pkN i k t]:=by
 unfold JS
 rw [List.range_succ,List.filter_append,List.map_append]
 simp [h]
theorem zgb (i : Int) (t : Nt) : ∀ {m k : Nat}, k ≤ m → JS k i t <+: JS m i t
  | 0, k, h => by obtain rfl : k = 0 := by omega
                  exact List.prefix_rfl
  | m + 1, k, h => by
    by_cases e : k = m + 1
    · subst e; exact List.prefix_rfl
    · have h1 := zgb i t (m := m) (k := k) (by omega)
      by_cases hi : (m : Int) = i
      · rw [zew hi]; exact h1
      · rw [zbn hi]; exact h1.trans (List.prefix_append ..)
theorem zdW {k m:Nat}{i:Int}{t:Nt}(h:(k:Int)≠i)(hk:k<m):JS k i t++[pkN i k t]<+:JS m i t:=by
 rw [←zbn h];exact zgb i t hk
theorem zh8 {I:Qv}{i k:Int}{t:Nt}{b c:Nat}(hok:Va.ok (JW t))(hS:Sl I 1 VL (some ⟨b,0,none⟩) (XG t).size c (Kv (XG t))):zsv (WG ⟨i,k,some ⟨b,0,none⟩,(XG t).size,c,JU t⟩) (pkN i k t) I:=by
 have e:Kv (XG t)=JU t:=VV (KK _ hok)
 rw [e] at hS
 exact ⟨_,rfl,⟨hS,KK _ hok⟩,rfl⟩
theorem zfY {α β:Type}(f:α→β){l:List α}{k:Nat}{x:α}(h:l[k]? =some x):(l.take k).map f++[f x]<+:l.map f:=by
 have h1:(l.take k).map f++[f x]=(l.take (k+1)).map f:=by rw [ZD h,List.map_append];rfl
 rw [h1]
 exact (List.take_prefix _ _).map f
end
end Go.Proofs.YtjblkbkmblkgoaaGreat
namespace Go.Kn
section
open Go
section
variable {g:World} {H H':Qv} {P:Program} {r:Option Nat} {N:Nat} {D:List Deferred} {Q:Exit→Act→World→Prop} {E:Env} {I:Qv} {b:Nat} {o:Obj} {e:Exit}
theorem zdJ (hb:H b=some o)(h:At ⟨P,r,N,D,g,H⟩ Q e E I []):At ⟨P,r,N,D,g,znT H b⟩ Q e E I [(b,o)]:=fun a w ha hw=>by
 have h1:St g I (Jw (znT H b) [(b,o)]) [] w:=St.hide hw
 rw [zls hb] at h1
 exact h a w ha h1
end
section
variable {C:Cx} {Q:Exit→Act→World→Prop} {E E':Env} {I I' I0:Qv} {loc loc' loc0 L R:Loc} {ops:Array Oper} {rest:List Oper} {S:GS}
variable {d:Nat} {ty:TypeId} {pos:String} {af:Array Edge}
def zut (g:World)(I0:Qv)(loc0:Loc):World→Prop:=fun w=>∃ H,St g I0 H loc0 w
def XH (C:Cx)(Q:Exit→Act→World→Prop)(ops:Array Oper)(I0:Qv)(loc0:Loc)(fuel:Nat)(listed:Array Bool)(S:GS)(E:Env)(I:Qv)(loc:Loc):Prop:=
 ∀ a w,Ko C.N C.D E a→JL S a→St C.g I C.H loc w→Y1 C.r C.P .any ops Q (zut C.g I0 loc0) fuel listed a w
theorem zai {id:Nat}{l:List Oper}(I0:Qv)(loc0:Loc)(hm:C.P.follows .mixedOrders=true)(h:XH C Q l.toArray I0 loc0 l.length (Array.replicate l.length false) [] E I loc):X C Q (.region id l.toArray true) E I loc:=fun a w ha hw=>
 wpIn_region_any hm (K5 _ _ _ _ (by simpa using h a _ ha trivial hw.drew))
theorem Z4 (i:Nat){oi:Oper}{d:Nat}{v:Value}{fuel:Nat}{listed:Array Bool}(hi:ops[i]? =some oi)(hv:∀ H,Zb {C with H:=H} S E I0 loc0 oi v)(hG:ZG ops S E oi)(hd:oi.dst=some d)(hN:Nat.blt d C.N=true)(hf:Yq S E d=true)
  (hs:Region.noSelect ops=true)(hfr:Region.free .any ops listed i=true)(hr:(Region.ready .any ops listed).contains i=true)(hQ:YU Q)(hI:HLe I0 I)(hl:Kj loc0 loc)
  (h:XH C Q ops I0 loc0 fuel (listed.setIfInBounds i true) (zdj S E d v) (zdk S E d v) I loc):XH C Q ops I0 loc0 (fuel+1) listed S E I loc:=by
 intro a w ha hg hw
 have hp:=YF ha hg hN hf v
 refine Y3 (v:=bif YC S then v else undef) hi (hv C.H).1 (Region.noSelect_spec hs) (fun c a w=>by rw [hd];exact hQ c a d _ w) fuel listed a w (Region.free_spec hi hfr) (by simpa using hr) ?_ ⟨C.H,(hw.mono hI).subL hl⟩ (by rw [hd];exact h _ _ hp.1 hp.2 hw)
 have hwt:=hG.wanted ha hg
 cases hc:YC S with
 | true=>exact .inl ⟨by rw [hwt,hc],fun w' ⟨H,hw'⟩=>(hv H).2 a w' ha hg hc hw'⟩
 | false=>exact .inr ⟨by rw [hwt,hc],rfl⟩
theorem Ke (i:Nat){v:Value}{fuel j dj:Nat}{want:Bool}{oj:Oper}{listed:Array Bool}{op:Op}(hi:ops[i]? =some ⟨some d,op,ty,pos,af,some (j,want)⟩)(hj:ops[j]? =some oj)(hd:oj.dst=some dj)(hlk:VA E dj=some (.bool want))
  (hv:∀ H,Zb {C with H:=H} [] E I0 loc0 ⟨some d,op,ty,pos,af,none⟩ v)(hN:Nat.blt d C.N=true)
  (hs:Region.noSelect ops=true)(hfr:Region.free .any ops listed i=true)(hr:(Region.ready .any ops listed).contains i=true)(hQ:YU Q)(hI:HLe I0 I)(hl:Kj loc0 loc)
  (h:XH C Q ops I0 loc0 fuel (listed.setIfInBounds i true) [] ((d,v)::E) I loc):XH C Q ops I0 loc0 (fuel+1) listed [] E I loc:=by
 intro a w ha hg hw
 have hp:=ha.put hN v
 refine Y3 (v:=v) hi (fun c e=>(hv C.H).1 c e) (Region.noSelect_spec hs) (fun c a w=>hQ c a d _ w) fuel listed a w (Region.free_spec hi hfr) (by simpa using hr) ?_ ⟨C.H,(hw.mono hI).subL hl⟩ (h _ _ hp trivial hw)
 have hG:ZG ops [(true,[])] E ⟨some d,op,ty,pos,af,some (j,want)⟩:=.some rfl hj hd (by simpa [KG,zdE] using hlk) (by simp)
 have hwt:=hG.wanted ha (show JL [(true,[])] a from ⟨(fun _ _ e=>by cases e),trivial⟩)
 exact .inl ⟨by rw [hwt];rfl,fun w' ⟨H,hw'⟩=>(hv H).2 a w' ha trivial rfl hw'⟩
theorem VY (i:Nat){j dj fuel:Nat}{want:Bool}{oj:Oper}{listed:Array Bool}{op:Op}{u:Value}(hi:ops[i]? =some ⟨some d,op,ty,pos,af,some (j,want)⟩)(hj:ops[j]? =some oj)(hd:oj.dst=some dj)(hlk:VA E dj=some u)(hu:zik u want=true)
  (hdf:∀ c,op≠ .defer c)(hN:Nat.blt d C.N=true)
  (hs:Region.noSelect ops=true)(hfr:Region.free .any ops listed i=true)(hr:(Region.ready .any ops listed).contains i=true)(hQ:YU Q)(hI:HLe I0 I)(hl:Kj loc0 loc)
  (h:XH C Q ops I0 loc0 fuel (listed.setIfInBounds i true) [] ((d,undef)::E) I loc):XH C Q ops I0 loc0 (fuel+1) listed [] E I loc:=by
 intro a w ha hg hw
 have hp:=ha.put hN undef
 refine Y3 (v:=undef) hi hdf (Region.noSelect_spec hs) (fun c a w=>hQ c a d _ w) fuel listed a w (Region.free_spec hi hfr) (by simpa using hr) ?_ ⟨C.H,(hw.mono hI).subL hl⟩ (h _ _ hp trivial hw)
 exact .inr ⟨by rw [zbl (o:=⟨some d,op,ty,pos,af,some (j,want)⟩) rfl hj hd ha hlk hu],rfl⟩
theorem zbO (i:Nat){oi:Oper}{fuel:Nat}{listed:Array Bool}(hi:ops[i]? =some oi)(hr:Region.ready .any ops listed=[i])
  (h:XO C (fun e a w=>match e with | .normal=>zut C.g I0 loc0 w∧Y1 C.r C.P .any ops Q (zut C.g I0 loc0) fuel (listed.setIfInBounds i true) a w | e=>Q e a w) ops [oi] S E I loc):XH C Q ops I0 loc0 (fuel+1) listed S E I loc:=by
 intro a w ha hg hw
 refine ⟨(fun h0=>by rw [hr] at h0;cases h0),fun j hj=>?_⟩
 rw [hr] at hj
 obtain rfl:=List.mem_singleton.1 hj
 have:=h a w ha hg hw
 simp only [wpListIn] at this
 unfold wpOpIn
 simp only [hi]
 split
 ·
  rename_i hwt
  simp only [hwt,if_true] at this
  unfold Oper.wpIn at*
  refine ⟨fun _ _=>trivial,?_⟩
  have h2:=this.2
  generalize (oi.semAt (FR C.r).round a.eval).run C.P w=q at*
  cases q with
  | ok n w'=>cases n<;>exact h2
  | halt x w'=>cases x<;>exact h2
 ·
  rename_i hwt
  simp only [hwt] at this
  exact this
theorem zhL {i fuel:Nat}{listed:Array Bool}(hI:HLe I0 I)(hl:Kj loc0 loc)(h:XH C Q ops I0 loc0 fuel (listed.setIfInBounds i true) [] E I loc):
  At C (fun e a w=>match e with | .normal=>zut C.g I0 loc0 w∧Y1 C.r C.P .any ops Q (zut C.g I0 loc0) fuel (listed.setIfInBounds i true) a w | e=>Q e a w) .normal E I loc:=
 fun a w ha hw=>⟨⟨C.H,(hw.mono hI).subL hl⟩,h a w ha trivial hw⟩
theorem zc3 {fuel:Nat}{listed:Array Bool}(hr:Region.ready .any ops listed=[])(h:At C Q .normal E I loc):XH C Q ops I0 loc0 fuel listed S E I loc:=fun a w ha hg hw=>by
 cases fuel with
 | zero=>exact ⟨hr,h a w ha hw⟩
 | succ n=>exact ⟨fun _=>h a w ha hw,by rw [hr];simp⟩
end
end
end Go.Kn
namespace Go.Proofs.YtjblkbkmblkgoaaGreat
section
open Go Go.Kn Go.Proofs
theorem zkd:BsT Tryz.prog 80 5 9:=⟨by kernel_rfl,by kernel_rfl,by kernel_rfl⟩
theorem JC:QQ Tryz.prog 47 1 1:=.of (by kernel_rfl)
theorem XN:QQ Tryz.prog 47 4 4:=.of (by kernel_rfl)
theorem zra:Fun Tryz.prog 111:=.of Tryz.func111 (by kernel_rfl) (by kernel_rfl)
theorem zpM {I:Qv}{bc b2 b3:Nat}{pa qa aa:Option Addr}{pn pc qn qc an ac:Nat}(x:Ev)(h2:BxI I b2 (.cells #[ZK bc] 105 (0,0)))(h3:BxI I b3 (.cells (zav x).toArray 47 (0,0)))(hT:NtM I x.note)(hok9:Va.ok (JW x.note))(hpn:pn≤100000):zey Tryz.prog 111 [ZK b2,ZK b3] I [(bc,.cells #[.slice pa pn pc,.slice qa qn qc,.slice aa an ac] 108 (0,0))] zsv (JS pn x.peer x.note):=by
 intro g l J Jx hJm hY I0 H w h0 hJ hb hw
 have hbc:=hb _ (List.mem_singleton.2 rfl)
 have hw:=hw.peek hbc
 have hI0:=zxd I0
 have hCI:=zxd I0
 have h2:=h2.mono h0;have h3:=h3.mono h0;have hT:=hT.mono h0
 refine qe Tryz.func111 Tryz.ntmps111 hw ?_
 refine zR ?_
 refine zV (Qd rfl JN (fun hg=>by exact QG.imm h2.out rfl)) ?_
 refine zV (QM rfl) ?_
 refine zF Ys ?_
 refine zF ZR ?_
 refine zL YW ?_
 refine zQ YJ ?_
 refine zM (Qb ?_)
 refine zdJ hbc ?_
 refine Qc (QD ?_)
 refine zeP (fun m E I' H' loc'=>∃ k:Nat,m=pn-k∧E=[(0,.func (.yield l) #[] #[]),(1,ZK b2),(2,ZK b3),(10,.int .i64 pn),(11,.int .i64 k)]∧loc'=[]∧HLe I0 I'∧k≤pn∧J (JS k x.peer x.note) I' H') _ _ _ ⟨0,rfl,rfl,rfl,zxd _,Nat.zero_le _,hJ⟩ (.cons rfl (.cons rfl (.cons rfl (.cons rfl (.cons rfl .nil))))) rfl ?_
 rintro m E J9 H' loc' ⟨k,rfl,rfl,rfl,hI1,hk,hJk⟩
 have h3:=h3.mono hI1;have hT:=hT.mono hI1
 have hI0:=hI1
 have hCI:=zxd J9
 refine zR (zC (zN (Qq ?_)))
 refine zI ?_ ?_<;>intro hc12
 ·
  have hlt:k<pn:=by have h:=hc12;simp at h;omega
  refine Qw (Qc (Qq (QD (zR (zM ?_)))))
  refine zA (zN (Qq ?_))
  by_cases hne:(k:Int)=x.peer
  ·
   have hk0:((k:Int) != x.peer)=false:=by simp [hne]
   have hD:=zxd J9
   refine ZL ?_
   refine zai J9 [] mixed ?_
   refine Z4 0 rfl (fun _=>Qh rfl) (.none rfl) rfl rfl rfl (by kernel_rfl) (by kernel_rfl) (by kernel_rfl) QK hD (by repeat (first | exact .refl | exact Qe | refine .keep ?_ | refine .drop ?_ | refine Qf ?_)) ?_
   refine Z4 1 rfl (fun _=>Qa rfl JC) (.none rfl) rfl rfl rfl (by kernel_rfl) (by kernel_rfl) (by kernel_rfl) QK hD (by repeat (first | exact .refl | exact Qe | refine .keep ?_ | refine .drop ?_ | refine Qf ?_)) ?_
   refine Z4 2 rfl (fun _=>Qd rfl QA (fun hg=>by exact QG.imm h3.out rfl)) (.none rfl) rfl rfl rfl (by kernel_rfl) (by kernel_rfl) (by kernel_rfl) QK hD (by repeat (first | exact .refl | exact Qe | refine .keep ?_ | refine .drop ?_ | refine Qf ?_)) ?_
   refine Z4 3 rfl (fun _=>QT rfl rfl rfl) (.none rfl) rfl rfl rfl (by kernel_rfl) (by kernel_rfl) (by kernel_rfl) QK hD (by repeat (first | exact .refl | exact Qe | refine .keep ?_ | refine .drop ?_ | refine Qf ?_)) ?_
   rw [hk0]
   refine Z4 4 rfl (fun _=>Qh rfl) (.none rfl) rfl rfl rfl (by kernel_rfl) (by kernel_rfl) (by kernel_rfl) QK hD (by repeat (first | exact .refl | exact Qe | refine .keep ?_ | refine .drop ?_ | refine Qf ?_)) ?_
   refine VY 5 rfl rfl rfl (dj:=18) rfl rfl (by intro c e;cases e) rfl (by kernel_rfl) (by kernel_rfl) (by kernel_rfl) QK hD (by repeat (first | exact .refl | exact Qe | refine .keep ?_ | refine .drop ?_ | refine Qf ?_)) ?_
   refine VY 6 rfl rfl rfl (dj:=18) rfl rfl (by intro c e;cases e) rfl (by kernel_rfl) (by kernel_rfl) (by kernel_rfl) QK hD (by repeat (first | exact .refl | exact Qe | refine .keep ?_ | refine .drop ?_ | refine Qf ?_)) ?_
   refine VY 7 rfl rfl rfl (dj:=18) rfl rfl (by intro c e;cases e) rfl (by kernel_rfl) (by kernel_rfl) (by kernel_rfl) QK hD (by repeat (first | exact .refl | exact Qe | refine .keep ?_ | refine .drop ?_ | refine Qf ?_)) ?_
   refine VY 8 rfl rfl rfl (dj:=18) rfl rfl (by intro c e;cases e) rfl (by kernel_rfl) (by kernel_rfl) (by kernel_rfl) QK hD (by repeat (first | exact .refl | exact Qe | refine .keep ?_ | refine .drop ?_ | refine Qf ?_)) ?_
   refine VY 9 rfl rfl rfl (dj:=18) rfl rfl (by intro c e;cases e) rfl (by kernel_rfl) (by kernel_rfl) (by kernel_rfl) QK hD (by repeat (first | exact .refl | exact Qe | refine .keep ?_ | refine .drop ?_ | refine Qf ?_)) ?_
   refine VY 10 rfl rfl rfl (dj:=18) rfl rfl (by intro c e;cases e) rfl (by kernel_rfl) (by kernel_rfl) (by kernel_rfl) QK hD (by repeat (first | exact .refl | exact Qe | refine .keep ?_ | refine .drop ?_ | refine Qf ?_)) ?_
   refine VY 11 rfl rfl rfl (dj:=18) rfl rfl (by intro c e;cases e) rfl (by kernel_rfl) (by kernel_rfl) (by kernel_rfl) QK hD (by repeat (first | exact .refl | exact Qe | refine .keep ?_ | refine .drop ?_ | refine Qf ?_)) ?_
   refine VY 12 rfl rfl rfl (dj:=18) rfl rfl (by intro c e;cases e) rfl (by kernel_rfl) (by kernel_rfl) (by kernel_rfl) QK hD (by repeat (first | exact .refl | exact Qe | refine .keep ?_ | refine .drop ?_ | refine Qf ?_)) ?_
   refine VY 13 rfl rfl rfl (dj:=18) rfl rfl (by intro c e;cases e) rfl (by kernel_rfl) (by kernel_rfl) (by kernel_rfl) QK hD (by repeat (first | exact .refl | exact Qe | refine .keep ?_ | refine .drop ?_ | refine Qf ?_)) ?_
   refine VY 14 rfl rfl rfl (dj:=18) rfl rfl (by intro c e;cases e) rfl (by kernel_rfl) (by kernel_rfl) (by kernel_rfl) QK hD (by repeat (first | exact .refl | exact Qe | refine .keep ?_ | refine .drop ?_ | refine Qf ?_)) ?_
   refine VY 15 rfl rfl rfl (dj:=18) rfl rfl (by intro c e;cases e) rfl (by kernel_rfl) (by kernel_rfl) (by kernel_rfl) QK hD (by repeat (first | exact .refl | exact Qe | refine .keep ?_ | refine .drop ?_ | refine Qf ?_)) ?_
   refine Z4 16 rfl (fun _=>Kl rfl rfl rfl) (.none rfl) rfl rfl rfl (by kernel_rfl) (by kernel_rfl) (by kernel_rfl) QK hD (by repeat (first | exact .refl | exact Qe | refine .keep ?_ | refine .drop ?_ | refine Qf ?_)) ?_
   refine zc3 (by kernel_rfl) ?_
   refine Qy ?_
   refine Qc ?_
   refine zI ?_ ?_<;>intro hc30
   ·
    cases hc30
   refine Qw (Qn (Qc (Qk (zB ?_))))
   refine zM (Qb ?_)
   first
   | exact X3 rfl rfl rfl _ [] ⟨pn-(k+1),by omega,k+1,rfl,rfl,rfl,hI0,by omega,by rw [zew hne];exact hJm _ _ _ _ hCI hJk⟩ (.cons rfl (.cons rfl (.cons rfl (.cons rfl (.cons rfl .nil))))) (by repeat (first | exact .refl | refine .drop ?_))
  have hk0:((k:Int) != x.peer)=true:=by simp [hne]
  have hD:=zxd J9
  refine ZL ?_
  refine zai J9 [] mixed ?_
  refine Z4 0 rfl (fun _=>Qh rfl) (.none rfl) rfl rfl rfl (by kernel_rfl) (by kernel_rfl) (by kernel_rfl) QK hD (by repeat (first | exact .refl | exact Qe | refine .keep ?_ | refine .drop ?_ | refine Qf ?_)) ?_
  refine Z4 1 rfl (fun _=>Qa rfl JC) (.none rfl) rfl rfl rfl (by kernel_rfl) (by kernel_rfl) (by kernel_rfl) QK hD (by repeat (first | exact .refl | exact Qe | refine .keep ?_ | refine .drop ?_ | refine Qf ?_)) ?_
  refine Z4 2 rfl (fun _=>Qd rfl QA (fun hg=>by exact QG.imm h3.out rfl)) (.none rfl) rfl rfl rfl (by kernel_rfl) (by kernel_rfl) (by kernel_rfl) QK hD (by repeat (first | exact .refl | exact Qe | refine .keep ?_ | refine .drop ?_ | refine Qf ?_)) ?_
  refine Z4 3 rfl (fun _=>QT rfl rfl rfl) (.none rfl) rfl rfl rfl (by kernel_rfl) (by kernel_rfl) (by kernel_rfl) QK hD (by repeat (first | exact .refl | exact Qe | refine .keep ?_ | refine .drop ?_ | refine Qf ?_)) ?_
  rw [hk0]
  refine Z4 4 rfl (fun _=>Qh rfl) (.none rfl) rfl rfl rfl (by kernel_rfl) (by kernel_rfl) (by kernel_rfl) QK hD (by repeat (first | exact .refl | exact Qe | refine .keep ?_ | refine .drop ?_ | refine Qf ?_)) ?_
  refine Ke 5 rfl rfl rfl (dj:=18) rfl (fun _=>Qh rfl) rfl (by kernel_rfl) (by kernel_rfl) (by kernel_rfl) QK hD (by repeat (first | exact .refl | exact Qe | refine .keep ?_ | refine .drop ?_ | refine Qf ?_)) ?_
  refine Ke 6 rfl rfl rfl (dj:=18) rfl (fun _=>Qa rfl JC) rfl (by kernel_rfl) (by kernel_rfl) (by kernel_rfl) QK hD (by repeat (first | exact .refl | exact Qe | refine .keep ?_ | refine .drop ?_ | refine Qf ?_)) ?_
  refine Ke 7 rfl rfl rfl (dj:=18) rfl (fun _=>Qd rfl QA (fun hg=>by exact QG.imm h3.out rfl)) rfl (by kernel_rfl) (by kernel_rfl) (by kernel_rfl) QK hD (by repeat (first | exact .refl | exact Qe | refine .keep ?_ | refine .drop ?_ | refine Qf ?_)) ?_
  refine Ke 8 rfl rfl rfl (dj:=18) rfl (fun _=>Qh rfl) rfl (by kernel_rfl) (by kernel_rfl) (by kernel_rfl) QK hD (by repeat (first | exact .refl | exact Qe | refine .keep ?_ | refine .drop ?_ | refine Qf ?_)) ?_
  refine Ke 9 rfl rfl rfl (dj:=18) rfl (fun _=>Qa rfl XN) rfl (by kernel_rfl) (by kernel_rfl) (by kernel_rfl) QK hD (by repeat (first | exact .refl | exact Qe | refine .keep ?_ | refine .drop ?_ | refine Qf ?_)) ?_
  refine Ke 10 rfl rfl rfl (dj:=18) rfl (fun _=>Qg rfl Zr (fun hg=>by exact Cells.part (pre:=[_,_,_,_]) (vs:=Zn x.note) (post:=[]) (BxI.cells (vs:=zav x) h3) rfl) rfl) rfl (by kernel_rfl) (by kernel_rfl) (by kernel_rfl) QK hD (by repeat (first | exact .refl | exact Qe | refine .keep ?_ | refine .drop ?_ | refine Qf ?_)) ?_
  refine zbO 11 rfl (by kernel_rfl) ?_
  refine Q6 (dj:=18) rfl rfl rfl ?_
  refine qcV (vs:=[_]) rfl zdC (zjv x.note hT.nd hT.nn hT.ok hT.len) ?_
  refine Qb ?_
  refine zhL hD (by repeat (first | exact .refl | exact Qe | refine .keep ?_ | refine .drop ?_ | refine Qf ?_)) ?_
  refine zbO 12 rfl (by kernel_rfl) ?_
  refine Q6 (dj:=18) rfl rfl rfl ?_
  refine UQ (s:=XG x.note) rfl zkd rfl rfl (fun b9 c9 I1 hI1 hB=>?_)
  have hI0:=hI0.trans hI1;have hCI:=hCI.trans hI1;have hD:=hD.trans hI1
  refine Qb ?_
  refine zhL hD (by repeat (first | exact .refl | exact Qe | refine .keep ?_ | refine .drop ?_ | refine Qf ?_)) ?_
  refine Ke 13 rfl rfl rfl (dj:=18) rfl (fun _=>QZ (ps:=[(0,_),(1,_),(2,_)]) [_,_,_] ziq rfl rfl) rfl (by kernel_rfl) (by kernel_rfl) (by kernel_rfl) QK hD (by repeat (first | exact .refl | exact Qe | refine .keep ?_ | refine .drop ?_ | refine Qf ?_)) ?_
  refine zbO 14 rfl (by kernel_rfl) ?_
  refine Q6 (dj:=18) rfl rfl rfl ?_
  refine zaV (vs:=[_]) (Post:=fun b I2 H2=>if b then J ((JS k x.peer x.note)++[pkN x.peer k x.note]) I2 H2 else Jx ((JS k x.peer x.note)++[pkN x.peer k x.note]) I2 H2) rfl rfl rfl rfl (hY _ _ _ _ _ (zdW hne hlt) (h0.trans hI0) (zh8 hok9 hB) (hJm _ _ _ _ hCI hJk)) ?_
  rintro t9 I2 H9 hI2 hP9
  have hI0:=hI0.trans hI2;have hD:=hD.trans hI2
  refine Qb ?_
  refine zhL hD (by repeat (first | exact .refl | exact Qe | refine .keep ?_ | refine .drop ?_ | refine Qf ?_)) ?_
  refine Ke 15 rfl rfl rfl (dj:=18) rfl (fun _=>Yz rfl) rfl (by kernel_rfl) (by kernel_rfl) (by kernel_rfl) QK hD (by repeat (first | exact .refl | exact Qe | refine .keep ?_ | refine .drop ?_ | refine Qf ?_)) ?_
  refine Z4 16 rfl (fun _=>Zv rfl rfl rfl) (.none rfl) rfl rfl rfl (by kernel_rfl) (by kernel_rfl) (by kernel_rfl) QK hD (by repeat (first | exact .refl | exact Qe | refine .keep ?_ | refine .drop ?_ | refine Qf ?_)) ?_
  refine zc3 (by kernel_rfl) ?_
  refine Qy ?_
  refine Qc ?_
  refine zI ?_ ?_<;>intro hc30
  ·
   have ht:t9=false:=by simpa using hc30
   subst ht
   have hJ2:Jx ((JS k x.peer x.note)++[pkN x.peer k x.note]) _ H9:=hP9
   refine QF (Qz (Qi (Qi (Qz ?_))))
   exact Yv rfl (fun w hw=>⟨_,_,H9,rfl,hI0,by exact hw,.inr ⟨_,zdW hne hlt,hJ2⟩⟩)
  have ht:t9=true:=by simpa using hc30
  subst ht
  have hJ2:J ((JS k x.peer x.note)++[pkN x.peer k x.note]) _ H9:=hP9
  refine Qw (Qn (Qc (Qk (zB ?_))))
  refine zM (Qb ?_)
  first
  | exact X3 rfl rfl rfl _ [] ⟨pn-(k+1),by omega,k+1,rfl,rfl,rfl,hI0,by omega,by rw [zbn hne];exact hJ2⟩ (.cons rfl (.cons rfl (.cons rfl (.cons rfl (.cons rfl .nil))))) (by repeat (first | exact .refl | refine .drop ?_))
 have hge:pn≤k:=by have h:=hc12;simp at h;omega
 obtain rfl:k=pn:=by omega
 refine Zy (Qs (Qs (QB ?_)))
 exact YL (Yv rfl (fun w hw=>⟨_,_,_,rfl,hI1,hw,.inl hJk⟩))
end
section
open Go Go.Kn Go.Proofs
theorem zdf:QQ Tryz.prog 47 2 2:=.of (by kernel_rfl)
theorem zrC:Fun Tryz.prog 112:=.of Tryz.func112 (by kernel_rfl) (by kernel_rfl)
theorem zr5 {I:Qv}{bc b2 b3:Nat}{pa qa aa:Option Addr}{pn pc qn qc an ac:Nat}{ps:List Pe}{pe:Pe}(x:Ev)(h2:BxI I b2 (.cells #[ZK bc] 105 (0,0)))(h3:BxI I b3 (.cells (zav x).toArray 47 (0,0)))(hPs:Sl I 1 UO pa pn pc ps)(hpr:0≤x.peer∧x.peer<(pn:Int))(hpe:ps[x.peer.toNat]? =some pe)(hN:K9 I pe.a pe.n pe.c pe.notes)(hf:∀ y∈pe.notes,Q7 y=true)(hpn:pn≤100000)(hnn:pe.n≤100000):zey Tryz.prog 112 [ZK b2,ZK b3] I [(bc,.cells #[.slice pa pn pc,.slice qa qn qc,.slice aa an ac] 108 (0,0))] zsv (pe.notes.map (pkN x.peer x.to_)):=by
 intro g l J Jx hJm hY I0 H w h0 hJ hb hw
 have hbc:=hb _ (List.mem_singleton.2 rfl)
 have hw:=hw.peek hbc
 have hI0:=zxd I0
 have hCI:=zxd I0
 have h2:=h2.mono h0;have h3:=h3.mono h0;have hPs:=hPs.mono h0;have hN:=hN.mono h0
 have hNl:=hN.sl.len
 refine qe Tryz.func112 Tryz.ntmps112 hw ?_
 refine Qq ?_
 have hD:=zxd I0
 refine ZL ?_
 refine zai I0 [(bc,.cells #[.slice pa pn pc,.slice qa qn qc,.slice aa an ac] 108 (0,0))] mixed ?_
 refine Z4 0 rfl (fun _=>Qd rfl JN (fun hg=>by exact QG.imm h2.out rfl)) (.none rfl) rfl rfl rfl (by kernel_rfl) (by kernel_rfl) (by kernel_rfl) QK hD (by repeat (first | exact .refl | exact Qe | refine .keep ?_ | refine .drop ?_ | refine Qf ?_)) ?_
 refine Z4 1 rfl (fun _=>QM rfl) (.none rfl) rfl rfl rfl (by kernel_rfl) (by kernel_rfl) (by kernel_rfl) QK hD (by repeat (first | exact .refl | exact Qe | refine .keep ?_ | refine .drop ?_ | refine Qf ?_)) ?_
 refine Z4 2 rfl (fun _=>Qa rfl Ys) (.none rfl) rfl rfl rfl (by kernel_rfl) (by kernel_rfl) (by kernel_rfl) QK hD (by repeat (first | exact .refl | exact Qe | refine .keep ?_ | refine .drop ?_ | refine Qf ?_)) ?_
 refine Z4 3 rfl (fun _=>Qa rfl ZR) (.none rfl) rfl rfl rfl (by kernel_rfl) (by kernel_rfl) (by kernel_rfl) QK hD (by repeat (first | exact .refl | exact Qe | refine .keep ?_ | refine .drop ?_ | refine Qf ?_)) ?_
 refine Z4 4 rfl (fun _=>Qd rfl YW (fun hg=>by exact QG.h0 rfl)) (.none rfl) rfl rfl rfl (by kernel_rfl) (by kernel_rfl) (by kernel_rfl) QK hD (by repeat (first | exact .refl | exact Qe | refine .keep ?_ | refine .drop ?_ | refine Qf ?_)) ?_
 refine Z4 5 rfl (fun _=>Qa rfl JC) (.none rfl) rfl rfl rfl (by kernel_rfl) (by kernel_rfl) (by kernel_rfl) QK hD (by repeat (first | exact .refl | exact Qe | refine .keep ?_ | refine .drop ?_ | refine Qf ?_)) ?_
 refine Z4 6 rfl (fun _=>Qd rfl QA (fun hg=>by exact QG.imm h3.out rfl)) (.none rfl) rfl rfl rfl (by kernel_rfl) (by kernel_rfl) (by kernel_rfl) QK hD (by repeat (first | exact .refl | exact Qe | refine .keep ?_ | refine .drop ?_ | refine Qf ?_)) ?_
 refine Z4 7 rfl (fun _=>zX YJ hPs) (.none rfl) rfl rfl rfl (by kernel_rfl) (by kernel_rfl) (by kernel_rfl) QK hD (by repeat (first | exact .refl | exact Qe | refine .keep ?_ | refine .drop ?_ | refine Qf ?_)) ?_
 refine Z4 8 rfl (fun _=>Qa rfl Ym) (.none rfl) rfl rfl rfl (by kernel_rfl) (by kernel_rfl) (by kernel_rfl) QK hD (by repeat (first | exact .refl | exact Qe | refine .keep ?_ | refine .drop ?_ | refine Qf ?_)) ?_
 refine Z4 9 rfl (fun _=>Qd rfl VW (fun hg=>by exact zw6 hPs hpe rfl)) (.none rfl) rfl rfl rfl (by kernel_rfl) (by kernel_rfl) (by kernel_rfl) QK hD (by repeat (first | exact .refl | exact Qe | refine .keep ?_ | refine .drop ?_ | refine Qf ?_)) ?_
 refine Z4 10 rfl (fun _=>Q9 rfl Zu) (.none rfl) rfl rfl rfl (by kernel_rfl) (by kernel_rfl) (by kernel_rfl) QK hD (by repeat (first | exact .refl | exact Qe | refine .keep ?_ | refine .drop ?_ | refine Qf ?_)) ?_
 refine Z4 11 rfl (fun _=>Qh rfl) (.none rfl) rfl rfl rfl (by kernel_rfl) (by kernel_rfl) (by kernel_rfl) QK hD (by repeat (first | exact .refl | exact Qe | refine .keep ?_ | refine .drop ?_ | refine Qf ?_)) ?_
 refine zc3 (by kernel_rfl) ?_
 refine Qy ?_
 refine zdJ hbc ?_
 refine Qc (QD ?_)
 refine zeP (fun m E I' H' loc'=>∃ k:Nat,m=pe.n-k∧E=[(0,.func (.yield l) #[] #[]),(1,ZK b2),(2,ZK b3),(15,.slice pe.a pe.n pe.c),(16,.int .i64 pe.n),(17,.int .i64 k)]∧loc'=[]∧HLe I0 I'∧k≤pe.n∧J ((pe.notes.take k).map (pkN x.peer x.to_)) I' H') _ _ _ ⟨0,rfl,rfl,rfl,zxd _,Nat.zero_le _,hJ⟩ (.cons rfl (.cons rfl (.cons rfl (.cons rfl (.cons rfl (.cons rfl .nil)))))) rfl ?_
 rintro m E J9 H' loc' ⟨k,rfl,rfl,rfl,hI1,hk,hJk⟩
 have h3:=h3.mono hI1;have hN:=hN.mono hI1
 have hI0:=hI1
 have hCI:=zxd J9
 refine zR (zC (zN (Qq ?_)))
 refine zI ?_ ?_<;>intro hc18
 ·
  have hlt:k<pe.n:=by have h:=hc18;simp at h;omega
  obtain ⟨y,hy⟩:∃ y,pe.notes[k]? =some y:=⟨_,List.getElem?_eq_getElem (by omega)⟩
  have hym:=List.mem_of_getElem? hy
  have hM:=hN.m y hym (hf y hym)
  refine Qw (Qc (Qq (QD (zR ?_))))
  refine zV (QV rfl rfl Zu hN.sl (fun hg=>by omega)) ?_
  refine zV (Qg rfl Zr (fun hg=>by exact zxe hN.sl hy) rfl) ?_
  refine Qt Wj rfl rfl (fun b_5=>?_)
  refine zh VX ?_
  refine zN (Qq ?_)
  have hD:=zxd J9
  refine ZL ?_
  refine zai J9 [(b_5,.cells (Zn y).toArray 45 (0,0))] mixed ?_
  refine Z4 0 rfl (fun _=>Qh rfl) (.none rfl) rfl rfl rfl (by kernel_rfl) (by kernel_rfl) (by kernel_rfl) QK hD (by repeat (first | exact .refl | exact Qe | refine .keep ?_ | refine .drop ?_ | refine Qf ?_)) ?_
  refine Z4 1 rfl (fun _=>Qa rfl JC) (.none rfl) rfl rfl rfl (by kernel_rfl) (by kernel_rfl) (by kernel_rfl) QK hD (by repeat (first | exact .refl | exact Qe | refine .keep ?_ | refine .drop ?_ | refine Qf ?_)) ?_
  refine Z4 2 rfl (fun _=>Qd rfl QA (fun hg=>by exact QG.imm h3.out rfl)) (.none rfl) rfl rfl rfl (by kernel_rfl) (by kernel_rfl) (by kernel_rfl) QK hD (by repeat (first | exact .refl | exact Qe | refine .keep ?_ | refine .drop ?_ | refine Qf ?_)) ?_
  refine Z4 3 rfl (fun _=>Qa rfl zdf) (.none rfl) rfl rfl rfl (by kernel_rfl) (by kernel_rfl) (by kernel_rfl) QK hD (by repeat (first | exact .refl | exact Qe | refine .keep ?_ | refine .drop ?_ | refine Qf ?_)) ?_
  refine Z4 4 rfl (fun _=>Qd rfl QA (fun hg=>by exact QG.imm h3.out rfl)) (.none rfl) rfl rfl rfl (by kernel_rfl) (by kernel_rfl) (by kernel_rfl) QK hD (by repeat (first | exact .refl | exact Qe | refine .keep ?_ | refine .drop ?_ | refine Qf ?_)) ?_
  refine Z4 5 rfl (fun _=>Qg rfl Zr (fun hg=>by exact Cells.g0) rfl) (.none rfl) rfl rfl rfl (by kernel_rfl) (by kernel_rfl) (by kernel_rfl) QK hD (by repeat (first | exact .refl | exact Qe | refine .keep ?_ | refine .drop ?_ | refine Qf ?_)) ?_
  refine zbO 6 rfl (by kernel_rfl) ?_
  refine qcV (vs:=[_]) rfl zdC (zjv y hM.nd hM.nn hM.ok hM.len) ?_
  refine Qb ?_
  refine zhL hD (by repeat (first | exact .refl | exact Qe | refine .keep ?_ | refine .drop ?_ | refine Qf ?_)) ?_
  refine zbO 7 rfl (by kernel_rfl) ?_
  refine UQ (s:=XG y) rfl zkd rfl rfl (fun b9 c9 I1 hI1 hB=>?_)
  have hI0:=hI0.trans hI1;have hCI:=hCI.trans hI1;have hD:=hD.trans hI1
  refine Qb ?_
  refine zhL hD (by repeat (first | exact .refl | exact Qe | refine .keep ?_ | refine .drop ?_ | refine Qf ?_)) ?_
  refine Z4 8 rfl (fun _=>QZ (ps:=[(0,_),(1,_),(2,_)]) [_,_,_] ziq rfl rfl) (.none rfl) rfl rfl rfl (by kernel_rfl) (by kernel_rfl) (by kernel_rfl) QK hD (by repeat (first | exact .refl | exact Qe | refine .keep ?_ | refine .drop ?_ | refine Qf ?_)) ?_
  refine zbO 9 rfl (by kernel_rfl) ?_
  refine zaV (vs:=[_]) (Post:=fun b I2 H2=>if b then J (((pe.notes.take k).map (pkN x.peer x.to_))++[pkN x.peer x.to_ y]) I2 H2 else Jx (((pe.notes.take k).map (pkN x.peer x.to_))++[pkN x.peer x.to_ y]) I2 H2) rfl rfl rfl rfl (hY _ _ _ _ _ (zfY _ hy) (h0.trans hI0) (zh8 hM.ok hB) (hJm _ _ _ _ hCI hJk)) ?_
  rintro t9 I2 H9 hI2 hP9
  have hI0:=hI0.trans hI2;have hD:=hD.trans hI2
  refine Qb ?_
  refine zhL hD (by repeat (first | exact .refl | exact Qe | refine .keep ?_ | refine .drop ?_ | refine Qf ?_)) ?_
  refine Z4 10 rfl (fun _=>Yz rfl) (.none rfl) rfl rfl rfl (by kernel_rfl) (by kernel_rfl) (by kernel_rfl) QK hD (by repeat (first | exact .refl | exact Qe | refine .keep ?_ | refine .drop ?_ | refine Qf ?_)) ?_
  refine zc3 (by kernel_rfl) ?_
  refine Qy ?_
  refine Qc ?_
  refine zI ?_ ?_<;>intro hc31
  ·
   have ht:t9=false:=by simpa using hc31
   subst ht
   have hJ2:Jx (((pe.notes.take k).map (pkN x.peer x.to_))++[pkN x.peer x.to_ y]) _ H9:=hP9
   refine QF (Qz (Qi (Qi (Qz ?_))))
   exact Yv rfl (fun w hw=>⟨_,_,H9,rfl,hI0,by exact hw.drop,.inr ⟨_,zfY _ hy,hJ2⟩⟩)
  have ht:t9=true:=by simpa using hc31
  subst ht
  have hJ2:J (((pe.notes.take k).map (pkN x.peer x.to_))++[pkN x.peer x.to_ y]) _ H9:=hP9
  refine Qw (Qn (Qc (Qk (zB ?_))))
  refine zM (Qb ?_)
  exact X3 rfl rfl rfl _ [] ⟨pe.n-(k+1),by omega,k+1,rfl,rfl,rfl,hI0,by omega,by rw [ZD hy,List.map_append];exact hJ2⟩ (.cons rfl (.cons rfl (.cons rfl (.cons rfl (.cons rfl (.cons rfl .nil)))))) (by repeat (first | exact .refl | refine .drop ?_))
 have hge:pe.n≤k:=by have h:=hc18;simp at h;omega
 rw [Yl hNl hge] at hJk
 refine Zy (Qs (Qs (QB ?_)))
 exact YL (Yv rfl (fun w hw=>⟨_,_,_,rfl,hI1,hw,.inl hJk⟩))
end
end Go.Proofs.YtjblkbkmblkgoaaGreat
section
namespace Go.Kn
open Go
theorem KN.frz {P:Program}{f:FuncId}{args:List Value}{I:Qv}{L:Loc}{Post Post':Value→Qv→Loc→Prop}{Bad:Value→Prop}(h:KN P f args I L Post Bad)
  (hp:∀ v I' L',HLe I I'→Post v I' L'→∃ L1 b o,Yd L' b o L1∧∀ I2,HLe I' I2→I2 b=some o→Post' v I2 L1):KN P f args I L Post' Bad:=fun g H w hw=>
 (h g H w hw).mono fun _ _ x=>x.elim (fun ⟨v,I',L',he,hI,hs,p⟩=>by
  obtain ⟨L1,b,o,ht,k⟩:=hp v I' L' hI p
  obtain ⟨h1,h2,h3⟩:=hs.freeze ht
  exact .inl ⟨v,_,L1,he,hI.trans h2,h1,k _ h2 h3⟩) .inr
theorem KN.wide {P:Program}{f:FuncId}{args:List Value}{I:Qv}{L:Loc}{Post:Value→Qv→Loc→Prop}{Bad:Value→Prop}(h:KN P f args I L Post Bad)(R:Loc):KN P f args I (L++R) (fun v I' L'=>∃ L1,L'=L1++R∧Post v I' L1) Bad:=fun g H w hw=>
 (h.frame Qr hw).mono fun _ _ x=>x.elim (fun ⟨v,I',L',he,hI,hs,p⟩=>.inl ⟨v,I',_,he,hI,hs,_,rfl,p⟩) fun ⟨v,he,hv,hs⟩=>.inr ⟨v,he,hv,hs.drop⟩
end Go.Kn
namespace Go.Proofs.YtjblkbkmblkgoaaGreat
open Go Go.Kn Go.Proofs
structure zl1 (I:Qv)(pn pc:Nat)(qa:Option Addr)(qn qc:Nat)(aa:Option Addr)(an ac:Nat)(cur:List Value)(ps:List Pe)(qs:List Pk)(ks:List (Int×Int)):Prop where
 p:zh3 I cur ps
 pl:ps.length=pn
 pc:pn≤pc
 m:1≤pn∧pn≤24
 q:Sl I 3 ZQ qa qn qc qs
 pk:∀ q∈qs,PkM I q
 k:Sl I 2 Ky aa an ac ks
 net:K1 qs ks=0
 bad:∀ q∈qs,Ub pn q=false
 an:an≤100000
 dl:∀ q∈qs,q.n≤100000
 sm:qn+24≤4096∧∀ pe∈ps,qn+pe.n≤4096
theorem zl1.mono {I I':Qv}{pn pc:Nat}{qa:Option Addr}{qn qc:Nat}{aa:Option Addr}{an ac:Nat}{cur:List Value}{ps:List Pe}{qs:List Pk}{ks:List (Int×Int)}(h:zl1 I pn pc qa qn qc aa an ac cur ps qs ks)(hI:HLe I I'):zl1 I' pn pc qa qn qc aa an ac cur ps qs ks:=
 ⟨h.p.mono hI,h.pl,h.pc,h.m,h.q.mono hI,fun q hq=>(h.pk q hq).mono hI,h.k.mono hI,h.net,h.bad,h.an,h.dl,h.sm⟩
structure EvM (I:Qv)(x:Ev):Prop where
 nd:Nd I x.note.pt
 w:NtW x.note
theorem EvM.mono {I I':Qv}{x:Ev}(h:EvM I x)(hI:HLe I I'):EvM I' x:=⟨h.nd.mono hI,h.w⟩
theorem EvM.msg {I:Qv}{x:Ev}(h:EvM I x)(hf:Q7 x.note=true):NtM I x.note:=zfW h.w h.nd hf
theorem EvM.form {I:Qv}{x:Ev}(h:EvM I x):Q7 (Z2 x.note)=Q7 x.note:=Jd (by
 have h1:Sl I 1 Yk x.note.pt.a x.note.pt.n x.note.pt.c x.note.pt.needs:=h.nd
 exact h1.len.symm)
theorem zjs {a b:Int}(h:lkV (zoN a b) (zd4 a b)=true):0≤a∧0≤b∧a<24∧b<24:=by
 unfold lkV zoN zd4 at h
 simp only [Bool.and_eq_true,decide_eq_true_eq] at h
 split at h<;>split at h<;>omega
theorem zp3 {qs:List Pk}{ks:List (Int×Int)}(h:K1 qs ks=0):∀ q∈qs,0≤q.frm∧0≤q.to_:=fun q hq=>by
 have h1:=(zeE h).2.1 q hq
 unfold pkV at h1
 rw [Bool.and_eq_true] at h1
 exact ⟨(zjs h1.1).1,(zjs h1.1).2.1⟩
theorem zd8 {I:Qv}{bp pn pc t:Nat}{cur:List Value}{ps:List Pe}(hP:zh3 I cur ps)(hpl:ps.length=pn)(hpc:pn≤pc)(hb:I bp=some (.cells cur.toArray t (0,0))):Sl I 1 UO (some ⟨bp,0,none⟩) pn pc ps:=
 ⟨hpl,hpc,fun _=>rfl,fun k x hx j u hu=>by
  have hj:j=0:=by have:=(List.getElem?_eq_some_iff.1 hu).1;simp [UO] at this;omega
  subst hj
  have hu:u= .slice x.a x.n x.c:=by simpa [UO] using hu.symm
  subst hu
  refine QG.imm hb ?_
  show zhW _ (0+k*1+0)=_
  rw [Nat.zero_add,Nat.mul_one,Nat.add_zero,Jb]
  exact hP.at_ k x hx⟩
def zp2 (bc bp pn pc:Nat)(aa:Option Addr)(an ac:Nat)(ks:List (Int×Int))(R:Int×Rd)(v:Value)(I':Qv)(L':Go.Kn.Loc):Prop:=
 v= .tuple #[]∧R.1=0∧∃ a m c ps' qs',L'=[(bc,.cells #[.slice (some ⟨bp,0,none⟩) pn pc,.slice a m c,.slice aa an ac] 108 (0,0))]∧RmP I' (some ⟨bp,0,none⟩) pn pc a m c aa an ac ps' qs' ks∧Vr ps' qs' ks=R.2
def zp1 (R:Int×Rd)(v:Value):Prop:=v= .iface 50 (.int .i64 R.1)∧R.1≠0
theorem Uf {R:Int×Rd}{v:Value}{e:Int}{r:Rd}(h:R=(e,r))(hv:v= .iface 50 (.int .i64 e))(he:e≠0):zp1 R v:=by subst h;exact ⟨hv,he⟩
theorem zlp {bc bp pn pc:Nat}{aa:Option Addr}{an ac:Nat}{ks:List (Int×Int)}{R:Int×Rd}{I':Qv}{a:Option Addr}{m c:Nat}{ps:List Pe}{qs D:List Pk}{r:Rd}(h:R=(0,r))(hpe:Sl I' 1 UO (some ⟨bp,0,none⟩) pn pc ps)(hnt:∀ x∈ps,K9 I' x.a x.n x.c x.notes)
  (hS:zdm I' a m c qs D)(hk:Sl I' 2 Ky aa an ac ks)(e:r=⟨dtP ps,D,ks⟩):zp2 bc bp pn pc aa an ac ks R (.tuple #[]) I' [(bc,.cells #[.slice (some ⟨bp,0,none⟩) pn pc,.slice a m c,.slice aa an ac] 108 (0,0))]:=by
 subst h;subst e
 exact ⟨rfl,rfl,a,m,c,ps,qs,rfl,⟨hpe,hnt,hS.sl,hS.pk,hk⟩,by unfold Vr;rw [hS.dat]⟩
/-! ### Telling -/
section
variable {ps:List Pe} {qs:List Pk} {ks:List (Int×Int)} {x:Ev} {I:Qv}
theorem Xu {i:Int}:isP (Vr ps qs ks) i=true↔0≤i∧i<(ps.length:Int):=by rw [zcA];simp [Vr,zcX]
theorem zt0 (h:¬(0≤x.peer∧x.peer<(ps.length:Int))):KR (Vr ps qs ks) (Yx x)=(1,zeroR):=by
 unfold KR
 rw [if_neg]
 intro h2
 exact h (Xu.1 h2)
theorem zso (hE:EvM I x)(h:0≤x.peer∧x.peer<(ps.length:Int))(h2:Q7 x.note=false):KR (Vr ps qs ks) (Yx x)=(570,zeroR):=by
 have e:Q7 (Yx x).note=false:=by show Q7 (Z2 x.note)=false;rw [hE.form,h2]
 have ei:isP (Vr ps qs ks) (Yx x).peer=true:=Xu.2 h
 unfold KR
 rw [if_pos ei,e];rfl
theorem zu6 (hE:EvM I x)(h:0≤x.peer∧x.peer<(ps.length:Int))(h2:Q7 x.note=true)(h3:XI (dtP ps) x.peer.toNat (Z2 x.note)=none):KR (Vr ps qs ks) (Yx x)=(2,zeroR):=by
 have e:Q7 (Yx x).note=true:=by show Q7 (Z2 x.note)=true;rw [hE.form,h2]
 have e2:XI (Vr ps qs ks).ps (Yx x).peer.toNat (Yx x).note=none:=h3
 have ei:isP (Vr ps qs ks) (Yx x).peer=true:=Xu.2 h
 unfold KR
 rw [if_pos ei,if_pos e,e2]
theorem zs6 (hE:EvM I x)(h:0≤x.peer∧x.peer<(ps.length:Int))(h2:Q7 x.note=true){P:List (List Nt)}(h3:XI (dtP ps) x.peer.toNat (Z2 x.note)=some P):KR (Vr ps qs ks) (Yx x)=(0,⟨P,qs.map Vz++JS ps.length x.peer x.note,ks⟩):=by
 have e:Q7 (Yx x).note=true:=by show Q7 (Z2 x.note)=true;rw [hE.form,h2]
 have e2:XI (Vr ps qs ks).ps (Yx x).peer.toNat (Yx x).note=some P:=h3
 have ei:isP (Vr ps qs ks) (Yx x).peer=true:=Xu.2 h
 unfold KR
 rw [if_pos ei,if_pos e,e2]
 simp only [Vr,zcX];rfl
theorem ziy (h:¬(isP (Vr ps qs ks) x.peer=true∧isP (Vr ps qs ks) x.to_=true∧x.peer≠x.to_)):WT (Vr ps qs ks) (Yx x)=(1,zeroR):=by
 unfold WT
 rw [if_neg]
 intro h2
 simp only [Bool.and_eq_true] at h2
 exact h ⟨h2.1.1,h2.1.2,bne_iff_ne.1 h2.2⟩
theorem zvd (h1:0≤x.peer∧x.peer<(ps.length:Int))(h2:0≤x.to_∧x.to_<(ps.length:Int))(h3:x.peer≠x.to_){pe:Pe}(hpe:ps[x.peer.toNat]? =some pe):WT (Vr ps qs ks) (Yx x)=(0,⟨dtP ps,qs.map Vz++pe.notes.map (pkN x.peer x.to_),ks⟩):=by
 have e3:(x.peer != x.to_)=true:=by simp [h3]
 have e1:(isP (Vr ps qs ks) (Yx x).peer&&isP (Vr ps qs ks) (Yx x).to_&&(Yx x).peer != (Yx x).to_)=true:=by
  show (isP (Vr ps qs ks) x.peer&&isP (Vr ps qs ks) x.to_&&x.peer != x.to_)=true
  rw [Xu.2 h1,Xu.2 h2,e3];rfl
 have e2:(Vr ps qs ks).ps.getD (Yx x).peer.toNat []=pe.notes.map Z2:=by
  show (dtP ps).getD x.peer.toNat []=_
  rw [List.getD_eq_getElem?_getD,zaz hpe];rfl
 unfold WT
 rw [if_pos e1,e2,List.map_map];rfl
theorem zs9 (hpk:∀ q∈qs,PkM I q)(h:atE qs ks x.at_≠0):zbG (Vr ps qs ks) (Yx x)=(atE qs ks x.at_,zeroR):=by
 have e:atE (qs.map Vz) ks x.at_=atE qs ks x.at_:=UU hpk ks x.at_
 show (if atE (qs.map Vz) ks x.at_≠0 then (atE (qs.map Vz) ks x.at_,zeroR) else _)=_
 rw [e,if_pos h]
theorem zo2 (hpk:∀ q∈qs,PkM I q)(h:atE qs ks x.at_=0):zbG (Vr ps qs ks) (Yx x)=(0,⟨dtP ps,(qs.eraseIdx x.at_.toNat).map Vz,ks⟩):=by
 have e:atE (qs.map Vz) ks x.at_=atE qs ks x.at_:=UU hpk ks x.at_
 show (if atE (qs.map Vz) ks x.at_≠0 then (atE (qs.map Vz) ks x.at_,zeroR) else (0,⟨dtP ps,(qs.map Vz).eraseIdx x.at_.toNat,ks⟩))=_
 rw [e,if_neg (by simpa using h),U7]
theorem zvh (hpk:∀ q∈qs,PkM I q)(h:UD qs ks x.at_≠0):zaI (Vr ps qs ks) (Yx x)=(UD qs ks x.at_,zeroR):=by
 have e:UD (qs.map Vz) ks x.at_=UD qs ks x.at_:=zhb hpk ks x.at_
 show (if UD (qs.map Vz) ks x.at_≠0 then (UD (qs.map Vz) ks x.at_,zeroR) else _)=_
 rw [e,if_pos h]
theorem zoC (hpk:∀ q∈qs,PkM I q)(h:UD qs ks x.at_=0):zaI (Vr ps qs ks) (Yx x)=(0,⟨dtP ps,(qs++[atP qs ks x.at_]).map Vz,ks⟩):=by
 have e:UD (qs.map Vz) ks x.at_=UD qs ks x.at_:=zhb hpk ks x.at_
 show (if UD (qs.map Vz) ks x.at_≠0 then (UD (qs.map Vz) ks x.at_,zeroR) else (0,⟨dtP ps,qs.map Vz++[atP (qs.map Vz) ks x.at_],ks⟩))=_
 rw [e,if_neg (by simpa using h),zfS hpk,List.map_append];rfl
end
theorem zoy {m:Nat}(hm:m≤24){i k:Int}{t:Nt}(hi:0≤i∧i<(m:Int))(hk:0≤k∧k<(m:Int))(hne:i≠k)(hl:(JU t).length≤900000):pkV (pkN i k t)=true:=by
 unfold pkV pkN lkV zoN zd4
 simp only [Bool.and_eq_true,decide_eq_true_eq]
 split<;>split<;>omega
end Go.Proofs.YtjblkbkmblkgoaaGreat
end
