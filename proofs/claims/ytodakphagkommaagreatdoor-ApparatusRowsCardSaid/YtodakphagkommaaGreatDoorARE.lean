/- apparatusRows_holds, part E of the proof: what its theorems say holds without further conditions. -/
import Derived.Test.YtodakphagkommaaGreatDoorProg
import Derived.KernelRfl
import Derived.Lib.Hide
import Derived.Lib.SlicesCompact
import Derived.Lib.RowBridge
import Derived.Test.YtodakphagkommaaGreatDoorARD
namespace Go.Proofs.YtodakphagkommaaGreatDoor
section
open Go Go.Kn Go.Proofs
def ixF {α:Type}(P:α→Bool)(xs:List α):List Int:=(xs.zipIdx.filter fun q=>P q.1).map fun q=>(q.2:Int)
theorem zgx {α:Type}{P:α→Bool}{xs:List α}{k:Nat}{x:α}(hx:xs[k]? =some x):ixF P (xs.take (k+1))=ixF P (xs.take k)++(if P x then [(k:Int)] else []):=by
 obtain ⟨hk,hk2⟩:=List.getElem?_eq_some_iff.1 hx
 have e:xs.take (k+1)=xs.take k++[x]:=by rw [List.take_add_one,hx];rfl
 unfold ixF
 rw [e,List.zipIdx_append,List.filter_append,List.map_append]
 have hl:(xs.take k).length=k:=by rw [List.length_take];omega
 cases h:P x<;>simp [h,hl]
theorem zi5 {α:Type}{P:α→Bool}{xs:List α}{k:Nat}{x:α}(hx:xs[k]? =some x)(h:P x=true):ixF P (xs.take (k+1))=ixF P (xs.take k)++[(k:Int)]:=by rw [zgx hx,if_pos h]
theorem zo7 {α:Type}{P:α→Bool}{xs:List α}{k:Nat}{x:α}(hx:xs[k]? =some x)(h:P x=false):ixF P (xs.take (k+1))=ixF P (xs.take k):=by rw [zgx hx,if_neg (by rw [h];decide),List.append_nil]
def Jl (rows:List (List Int))(k:Nat)(c:Int):List Int:=ixF (fun r=>r.getD k 0==c) rows
def zgn (k:Nat)(n:Int):Option Int→List Int→Option Int
 | o,r=>if decide (r.getD k 0>n)&&(match o with | none=>true | some b=>decide (r.getD k 0<b)) then some (r.getD k 0) else o
def zad (rows:List (List Int))(k:Nat)(n:Int):Option Int:=rows.foldl (zgn k n) none
theorem zhE {k:Nat}{n:Int}{o:Option Int}{r:List Int}(h:(decide (r.getD k 0>n)&&(!o.isSome||decide (r.getD k 0<o.getD 0)))=true):zgn k n o r=some (r.getD k 0):=by
 cases o<;>simp_all [zgn]
theorem znw {k:Nat}{n:Int}{o:Option Int}{r:List Int}(h:(decide (r.getD k 0>n)&&(!o.isSome||decide (r.getD k 0<o.getD 0)))=false):zgn k n o r=o:=by
 cases o<;>simp_all [zgn]<;>omega
structure Vt where
 code:Int
 ws:List Int
structure En where
 loc:Int
 lem:Int
 vs:List Vt
structure Og where
 k:Int
 r:Int
 ws:List Int
 ps:List Int
deriving DecidableEq
def zvK (q:Nat)(r:List Int):Bool:=r.getD q 0 != 0&&r.getD q 0 != 8589934592
def zxk (q:Int)(e:Em):Bool:=e.locus==q&&e.reason==2
def OgQ (o:Og)(v:Value)(I:Qu)(L:Go.Kn.Loc):Prop:=L=[]∧∃ a n c b m d,v= .agg #[.int .i64 o.k,.int .i64 o.r,.slice a n c,.slice b m d]∧Sl I 1 QQ a n c o.ws∧Sl I 1 QQ b m d o.ps
def zhP (rows:List (List Int))(q:Nat):Nat→Option Int→List Vt
 | _,none=>[]
 | 0,some _=>[]
 | m+1,some c=>⟨c,Jl rows q c⟩::zhP rows q m (zad rows q c)
def zf9 (rows:List (List Int))(q:Nat):List Vt:=zhP rows q rows.length (zad rows q (-1))
theorem zjw {q:Nat}{n:Int}:∀ {rows:List (List Int)} {o:Option Int} {c:Int},rows.foldl (zgn q n) o=some c→o=some c∨(n<c∧∃ r∈rows,r.getD q 0=c)
 | [],o,c,h=>.inl h
 | r::rows,o,c,h=>by
  rcases zjw (rows:=rows) h with h1 | ⟨h1,r',h2,h3⟩
  ·
   cases hb:(decide (r.getD q 0>n)&&(!o.isSome||decide (r.getD q 0<o.getD 0))) with
   | true=>
    rw [zhE hb] at h1
    cases h1
    simp only [Bool.and_eq_true,decide_eq_true_eq] at hb
    exact .inr ⟨hb.1,r,List.mem_cons_self ..,rfl⟩
   | false=>rw [znw hb] at h1;exact .inl h1
  ·
   exact .inr ⟨h1,r',List.mem_cons_of_mem _ h2,h3⟩
theorem zb2 {rows:List (List Int)}{q:Nat}{n c:Int}(h:zad rows q n=some c):n<c∧∃ r∈rows,r.getD q 0=c:=(zjw h).resolve_left (by simp)
def geC (rows:List (List Int))(q:Nat)(c:Int):Nat:=rows.countP fun r=>decide (c≤r.getD q 0)
theorem zul {rows:List (List Int)}{q:Nat}{c d:Int}(h:c<d):geC rows q d≤geC rows q c:=List.countP_mono_left fun r _ hr=>by simp at*;omega
theorem zmv {q:Nat}{c d:Int}(h:c<d):∀ {rows:List (List Int)},(∃ r∈rows,r.getD q 0=c)→geC rows q d<geC rows q c
 | [],⟨_,hm,_⟩=>by cases hm
 | r::rows,⟨r',hm,he⟩=>by
  unfold geC
  rw [List.countP_cons,List.countP_cons]
  have hl:=zul (rows:=rows) (q:=q) h
  unfold geC at hl
  by_cases hr:r.getD q 0=c
  ·
   rw [if_neg (by simp only [decide_eq_true_eq];omega),if_pos (by simp only [decide_eq_true_eq];omega)];omega
  ·
   have hx:∃ r∈rows,r.getD q 0=c:=by
    rcases List.mem_cons.1 hm with rfl | hm
    ·
     exact absurd he hr
    ·
     exact ⟨r',hm,he⟩
   have:=zmv h hx
   unfold geC at this
   by_cases h1:d≤r.getD q 0
   ·
    rw [if_pos (by simpa using h1),if_pos (by simp only [decide_eq_true_eq];omega)];omega
   ·
    rw [if_neg (by simpa using h1)];split<;>omega
def zvh (rows:List (List Int))(q m:Nat):Option Int→Prop
 | none=>True
 | some c=>geC rows q c≤m∧∃ r∈rows,r.getD q 0=c
theorem zkD {rows:List (List Int)}{q:Nat}{n:Int}:zvh rows q rows.length (zad rows q n):=by
 cases h:zad rows q n with
 | none=>trivial
 | some c=>exact ⟨List.countP_le_length ..,(zb2 h).2⟩
theorem zey {rows:List (List Int)}{q m:Nat}{c:Int}(h:zvh rows q m (some c)):∃ m',m=m'+1∧zvh rows q m' (zad rows q c):=by
 obtain ⟨h1,r,hm,he⟩:=h
 have hp:0<geC rows q c:=List.countP_pos_iff.2 ⟨r,hm,by simp only [decide_eq_true_eq];omega⟩
 refine ⟨m-1,by omega,?_⟩
 cases h2:zad rows q c with
 | none=>trivial
 | some d=>have h3:=zb2 h2;exact ⟨by have:=zmv (rows:=rows) (q:=q) h3.1 ⟨r,hm,he⟩;omega,h3.2⟩
theorem Xx {rows:List (List Int)}{q m:Nat}{c:Int}:zhP rows q (m+1) (some c)=⟨c,Jl rows q c⟩::zhP rows q m (zad rows q c):=rfl
theorem XX {rows:List (List Int)}{q m:Nat}:zhP rows q m none=[]:=by cases m<;>rfl
def zaf {α β:Type}(R:α→β→Prop)(hs:List α)(vs:List β):Prop:=hs.length=vs.length∧∀ (k:Nat) (h:α) (v:β),hs[k]? =some h→vs[k]? =some v→R h v
theorem zaf.nil {α β:Type}{R:α→β→Prop}:zaf R [] []:=⟨rfl,fun k h v a=>by simp at a⟩
theorem zaf.imp {α β:Type}{R R':α→β→Prop}{hs:List α}{vs:List β}(h:zaf R hs vs)(hi:∀ a b,R a b→R' a b):zaf R' hs vs:=⟨h.1,fun k x v a b=>hi _ _ (h.2 k x v a b)⟩
theorem zaf.snoc {α β:Type}{R:α→β→Prop}{hs:List α}{vs:List β}(h:zaf R hs vs){x:α}{v:β}(hV:R x v):zaf R (hs++[x]) (vs++[v]):=by
 refine ⟨by simp [h.1],fun k y z a b=>?_⟩
 rw [List.getElem?_append] at a b
 rw [h.1] at a
 split at a
 ·
  next hk=>rw [if_pos hk] at b;exact h.2 k y z a b
 ·
  next hk=>
  rw [if_neg hk] at b
  cases hk2:k-vs.length with
  | zero=>rw [hk2] at a b;simp at a b;subst a b;exact hV
  | succ j=>rw [hk2] at a;simp at a
theorem zaf.at {α β:Type}{R:α→β→Prop}{hs:List α}{vs:List β}(h:zaf R hs vs){k:Nat}{v:β}(hv:vs[k]? =some v):∃ x,hs[k]? =some x∧R x v:=by
 obtain ⟨hk,_⟩:=List.getElem?_eq_some_iff.1 hv
 have hk2:k<hs.length:=by rw [h.1];exact hk
 exact ⟨hs[k],List.getElem?_eq_getElem hk2,h.2 k _ _ (List.getElem?_eq_getElem hk2) hv⟩
structure Vh where
 code:Int
 h:Hd
def zam (x:Vh):List Value:=[.int .i64 x.code,.slice x.h.a x.h.n x.h.c]
theorem Zl (x:Vh):(zam x).length=2:=rfl
def ztn (I:Qu)(x:Vh)(v:Vt):Prop:=x.code=v.code∧Sl I 1 QQ x.h.a x.h.n x.h.c v.ws
theorem ztn.mono {I I':Qu}{x:Vh}{v:Vt}(h:ztn I x v)(hI:HLe I I'):ztn I' x v:=⟨h.1,h.2.mono hI⟩
def zcY (I:Qu)(hs:List Vh)(vs:List Vt):Prop:=zaf (ztn I) hs vs
theorem zcY.mono {I I':Qu}{hs:List Vh}{vs:List Vt}(h:zcY I hs vs)(hI:HLe I I'):zcY I' hs vs:=zaf.imp h fun _ _ q=>q.mono hI
theorem zcY.snoc {I:Qu}{hs:List Vh}{vs:List Vt}(h:zcY I hs vs){x:Vh}{v:Vt}(hV:ztn I x v):zcY I (hs++[x]) (vs++[v]):=zaf.snoc h hV
def SlV (I:Qu)(a:Option Addr)(n c:Nat)(vs:List Vt):Prop:=∃ hs,Sl I 2 zam a n c hs∧zcY I hs vs
theorem SlV.mono {I I':Qu}{a:Option Addr}{n c:Nat}{vs:List Vt}(h:SlV I a n c vs)(hI:HLe I I'):SlV I' a n c vs:=⟨_,h.choose_spec.1.mono hI,h.choose_spec.2.mono hI⟩
structure Eh where
 loc:Int
 lem:Int
 h:Hd
def Wp (x:Eh):List Value:=[.int .i64 x.loc,.int .i64 x.lem,.slice x.h.a x.h.n x.h.c]
theorem Zm (x:Eh):(Wp x).length=3:=rfl
def zrU (I:Qu)(x:Eh)(v:En):Prop:=x.loc=v.loc∧x.lem=v.lem∧SlV I x.h.a x.h.n x.h.c v.vs
theorem zrU.mono {I I':Qu}{x:Eh}{v:En}(h:zrU I x v)(hI:HLe I I'):zrU I' x v:=⟨h.1,h.2.1,h.2.2.mono hI⟩
def WO (I:Qu)(hs:List Eh)(vs:List En):Prop:=zaf (zrU I) hs vs
theorem WO.mono {I I':Qu}{hs:List Eh}{vs:List En}(h:WO I hs vs)(hI:HLe I I'):WO I' hs vs:=zaf.imp h fun _ _ q=>q.mono hI
theorem WO.snoc {I:Qu}{hs:List Eh}{vs:List En}(h:WO I hs vs){x:Eh}{v:En}(hV:zrU I x v):WO I (hs++[x]) (vs++[v]):=zaf.snoc h hV
def zfz (I:Qu)(a:Option Addr)(n c:Nat)(vs:List En):Prop:=∃ hs,Sl I 3 Wp a n c hs∧WO I hs vs
theorem zfz.mono {I I':Qu}{a:Option Addr}{n c:Nat}{vs:List En}(h:zfz I a n c vs)(hI:HLe I I'):zfz I' a n c vs:=⟨_,h.choose_spec.1.mono hI,h.choose_spec.2.mono hI⟩
theorem zv6 (xs:List Vh):Yr (xs.flatMap zam)=true:=Yh (fun _=>rfl) xs
theorem zt8 (xs:List Eh):Yr (xs.flatMap Wp)=true:=Yh (fun _=>rfl) xs
end
section
open Go Go.Kn Go.Proofs
theorem YV:AgT Tryz.prog 38 4:=.of (by kernel_rfl)
theorem XZ:PlT Tryz.prog 38 #[(0,1),(1,1),(2,1),(3,1)] (.agg #[(.int .i64 0),(.int .i64 0),(.slice none 0 0),(.slice none 0 0)]):=⟨.of (by kernel_rfl),by kernel_rfl,fun w=>by kernel_rfl⟩
theorem VM:SzT Tryz.prog 38 4:=.of (by kernel_rfl)
theorem WT:Yi Tryz.prog 38 (.agg #[(.int .i64 0),(.int .i64 0),(.slice none 0 0),(.slice none 0 0)]):=.of (by kernel_rfl)
theorem zwJ {I:Qu}{bv:Option Addr}{n2 c2:Nat}{rows:List (List Int)}(hV:SlN I bv n2 c2 rows)(hn2:n2≤100000)(q:Nat)(hq:∀ r∈rows,q<r.length)(c:Int):Yb Tryz.prog 123 [.slice bv n2 c2,.int .i64 (q:Nat),.int .i64 c] I [] (zbf 1 QQ (Jl rows q c)):=by
 intro g H w hw
 refine qe Tryz.func123 Tryz.ntmps123 hw ?_
 have hIc:=zxQ I
 have hVl:=hV.len
 obtain ⟨hs,hVH⟩:=id hV
 have hHH:=hVH.1
 refine zR (zA (zN (Ql (zR ?_))))
 refine zM ?_
 refine zQ Zk ?_
 refine zM (zN (Qm ?_))
 refine zU [(1,_),(2,_),(9,_),(10,_)] (fun T L0 mz E I' loc'=>∃ (k:Nat) (v:Value) (m:Nat) (L:Go.Kn.Loc),mz=n2-k∧E=(6,v)::(11,.int .i64 k)::T∧I=I'∧L=loc'∧k≤n2∧OwnS 3 1 v m ((ixF (fun r=>r.getD q 0==c) (rows.take k)).flatMap QQ) L∧m≤k) ?_ (h:=⟨0,_,0,[],rfl,rfl,rfl,rfl,Nat.zero_le _,by rw [List.take_zero];exact OwnS.nil,Nat.le_refl _⟩)
 rintro mz E I' loc' ⟨k,v,m,L,rfl,rfl,rfl,rfl,hk,hO,hm⟩
 refine zR (zC (zN (Ql ?_)))
 refine zI ?_ ?_<;>intro hc12
 ·
  have hlt_k:k<n2:=by have h:=hc12;simp at h;omega
  obtain ⟨hx,rx,hhx,hrx,hQ⟩:=hVH.at hlt_k
  have hqk:=hq rx (List.mem_of_getElem? hrx)
  have hQl:=hQ.len
  have hgx:rx[q]? =some (rx.getD q 0):=Zb rfl (by omega)
  refine Qo (Qa (Ql (Qm (zR (zM ?_)))))
  refine zV (zX Zk hHH) ?_
  refine zV (Qd rfl QK (fun hg=>by exact zxJ hHH hhx rfl)) ?_
  refine zA ?_
  refine zA ?_
  refine zN (zR ?_)
  refine zM ?_
  refine zM ?_
  refine zV (zX Qw hQ) ?_
  refine zV (Qd rfl Qr (fun hg=>by exact zxJ (k:=q) hQ hgx rfl)) ?_
  refine zM ?_
  refine zC (zN ?_)
  refine zI ?_ ?_<;>intro hc21
  ·
   have hy:(rx.getD q 0==c)=true:=by simpa using hc21
   refine Qg (zM ?_)
   refine zM ?_
   refine Qq (ps:=[(0,_)]) (m:=[QQ (k:Int)]) Zh rfl (.cons rfl (.nil)) rfl (by simp [Qv]) (by decide) (by decide) rfl rfl (fun b_24=>?_)
   refine QW (v:=_) (ys:=[(k:Int)].flatMap QQ) (L:=L) rfl rfl Zh hO (by repeat (first | exact .cons .here .nil | exact QD | exact Qx | apply QC | apply QB)) ⟨rfl,fun _=>rfl,by repeat (first | exact zxO | apply zxN | apply zxP)⟩ (JI _) (by omega) rfl rfl ?_
   intro v9 L9 hO9 _;rw [←List.flatMap_append] at hO9
   refine zA (Qb (Qh (Qa (Qg ?_))))
   refine zB ?_
   refine zM (Qb ?_)
   first
   | exact zm (h:=⟨n2-(k+1),by omega,k+1,_,_,_,rfl,rfl,rfl,rfl,by omega,by rw [zi5 hrx hy];exact hO9,by omega⟩)
  have hy:(rx.getD q 0==c)=false:=by simpa using hc21
  refine Qo (Qh (Qa (Qg (zB ?_))))
  refine zM (Qb ?_)
  first
  | exact zm (h:=⟨n2-(k+1),by omega,k+1,_,_,_,rfl,rfl,rfl,rfl,by omega,by rw [zo7 hrx hy];exact hO,by omega⟩)
 have hge_k:n2≤k:=by have h:=hc12;simp at h;omega
 rw [ZE hVl hge_k] at hO
 refine QI (Qf (Qf (Qk (Qa (zR (zM ?_))))))
 refine zA (zN (Qt ?_))
 exact Zt rfl rfl (fun w hw=>by obtain ⟨I9,h91,h92,h93⟩:=OwnS.res hO Qv (by decide) hw;exact ⟨_,I9,[],rfl,hIc.trans h91,h92,h93⟩)
theorem zbu {I:Qu}{av:Option Addr}{n c:Nat}{xs:List Int}(hS:Sl I 1 QQ av n c xs){bv:Option Addr}{n2 c2:Nat}{ys:List Int}(hT:Sl I 1 QQ bv n2 c2 ys)(hn:n≤100000):Zx Tryz.prog 43 [.slice av n c,.slice bv n2 c2] I (.bool (decide (xs=ys))):=by
 intro g H w hw
 refine qe Tryz.func43 Tryz.ntmps43 hw ?_
 have hl1:=hS.len
 have hl2:=hT.len
 refine zR (zA (zN (Ql (zR ?_))))
 refine zM ?_
 refine zQ Qw ?_
 refine zM ?_
 refine zQ Qw ?_
 refine zC (zN ?_)
 refine zI ?_ ?_<;>intro hc10
 ·
  have hne:xs≠ys:=fun e=>by have h:=hc10;subst e;simp at h;omega
  refine zR (zA (zN (Qt (Qc ?_))))
  exact zr rfl rfl (by rw [decide_eq_false hne])
 have hnn:n=n2:=by have h:=hc10;simp at h;omega
 refine Qo (Qa (Ql (zR (zA (zN (Qm ?_))))))
 refine zU [(0,_),(1,_)] (fun T L0 mz E I' loc'=>∃ (k:Nat),mz=n-k∧E=(5,.int .i64 k)::T∧I=I'∧L0=loc'∧k≤n∧xs.take k=ys.take k) ?_ (h:=⟨0,rfl,rfl,rfl,rfl,Nat.zero_le _,rfl⟩)
 rintro mz E I' loc' ⟨k,rfl,rfl,rfl,rfl,hk,hall⟩
 refine Ql (zR (zM ?_))
 refine zM ?_
 refine zQ Qw ?_
 refine zC (zN ?_)
 refine zI ?_ ?_<;>intro hc14
 ·
  have hlt_k:k<n:=by have h:=hc14;simp at h;omega
  obtain ⟨x,hx⟩:=hS.at hlt_k
  obtain ⟨y,hy⟩:=hT.at (show k<n2 by omega)
  refine Qo (Qa (Ql (Qm (Ql ?_))))
  refine YI mixed (by kernel_rfl) ?_
  refine zq (Qi rfl) ?_
  refine zq (Qi rfl) ?_
  refine zq (zX Qw hS) ?_
  refine zq (Qd rfl Qr (fun hg=>by exact zxJ hS hx rfl)) ?_
  refine zq (Qi rfl) ?_
  refine zq (Qi rfl) ?_
  refine zq (zX Qw hT) ?_
  refine zq (Qd rfl Qr (fun hg=>by exact zxJ hT hy rfl)) ?_
  refine zq (QH rfl rfl rfl) ?_
  refine YH ?_
  refine Qa ?_
  refine zI ?_ ?_<;>intro hc25
  ·
   have hne:xs≠ys:=fun e=>by subst e;rw [hx] at hy;cases hy;simp at hc25
   refine zR (zA (zN (Qt (Qn (Qc (Qc (Qn ?_)))))))
   refine Qc ?_
   exact zr rfl rfl (by rw [decide_eq_false hne])
  have hxy:x=y:=by simpa using hc25
  refine Qo (Qh (Qa (Qg (zM ?_))))
  refine zB ?_
  refine zA (Qb ?_)
  exact zm (h:=⟨n-(k+1),by omega,k+1,rfl,rfl,rfl,rfl,by omega,by rw [List.take_add_one,List.take_add_one,hall,hx,hy,hxy]⟩)
 have hge_k:n≤k:=by have h:=hc14;simp at h;omega
 have heq:xs=ys:=by rw [List.take_of_length_le (by omega),List.take_of_length_le (by omega)] at hall;exact hall
 refine QI (Qf (Qf (Qk (Qa (zR (zA (zN ?_)))))))
 refine Qt ?_
 exact zr rfl rfl (by rw [decide_eq_true heq])
end
section
open Go Go.Kn Go.Proofs
theorem zhd:ElT Tryz.prog 72 77 2 32:=.of (by kernel_rfl)
theorem zhy:PlT Tryz.prog 77 #[(0,1),(1,1)] (.agg #[(.int .i64 0),(.slice none 0 0)]):=⟨.of (by kernel_rfl),by kernel_rfl,fun w=>by kernel_rfl⟩
end
section
open Go Go.Kn Go.Proofs
def zm1 (rows:List (List Int))(rd:List Int)(k:Nat):List En:=if (Jl rows k (rd.getD k 0)).length<rows.length then [⟨(k:Int),rd.getD k 0,zf9 rows k⟩] else []
def zaj (rows:List (List Int))(rd:List Int)(k:Nat):List En:=(List.range k).flatMap (zm1 rows rd)
theorem XN {rows:List (List Int)}{rd:List Int}{k:Nat}:zaj rows rd (k+1)=zaj rows rd k++zm1 rows rd k:=by
 unfold zaj;rw [List.range_succ,List.flatMap_append];simp
theorem zeS {rows:List (List Int)}{rd:List Int}{k:Nat}(h:(Jl rows k (rd.getD k 0)).length<rows.length):zaj rows rd (k+1)=zaj rows rd k++[⟨(k:Int),rd.getD k 0,zf9 rows k⟩]:=by rw [XN];unfold zm1;rw [if_pos h]
theorem zgz {rows:List (List Int)}{rd:List Int}{k:Nat}(h:¬(Jl rows k (rd.getD k 0)).length<rows.length):zaj rows rd (k+1)=zaj rows rd k:=by rw [XN];unfold zm1;rw [if_neg h,List.append_nil]
def zvB (e:Int)(rows:List (List Int))(rd:List Int):List En:=if e≠0 then [] else zaj rows rd rd.length
theorem zil {e:Int}{rows:List (List Int)}{rd:List Int}(h:e≠0):zvB e rows rd=[]:=if_pos h
theorem zaL {e:Int}{rows:List (List Int)}{rd:List Int}(h:e=0):zvB e rows rd=zaj rows rd rd.length:=if_neg (by omega)
def zvF (e:Int)(xs:List En)(v:Value)(I:Qu)(L:Go.Kn.Loc):Prop:=L=[]∧∃ a n c,v= .tuple #[.slice a n c,.int .i64 e]∧zfz I a n c xs
theorem zfz.nil {I:Qu}:zfz I none 0 0 []:=⟨[],.nil,zaf.nil⟩
theorem SlV.len {I:Qu}{a:Option Addr}{n c:Nat}{vs:List Vt}(h:SlV I a n c vs):vs.length=n:=by obtain ⟨hs,h1,h2⟩:=h;rw [←h2.1];exact h1.len
theorem zfz.len {I:Qu}{a:Option Addr}{n c:Nat}{vs:List En}(h:zfz I a n c vs):vs.length=n:=by obtain ⟨hs,h1,h2⟩:=h;rw [←h2.1];exact h1.len
def eqL {α:Type}(P:α→α→Bool):List α→List α→Bool
 | [],[]=>true
 | a::as1,b::bs=>P a b&&eqL P as1 bs
 | _,_=>false
theorem zd0 {α:Type}{P:α→α→Bool}:∀ {xs ys:List α},xs.length≠ys.length→eqL P xs ys=false
 | [],[],h=>absurd rfl h
 | _::_,[],_=>rfl
 | [],_::_,_=>rfl
 | a::xs,b::ys,h=>by
  unfold eqL;rw [zd0 (xs:=xs) (ys:=ys) (fun e=>h (by simp [e])),Bool.and_false]
theorem zbK {α:Type}{P:α→α→Bool}:∀ {xs ys:List α} {k:Nat} {x y:α},xs[k]? =some x→ys[k]? =some y→eqL P (xs.take (k+1)) (ys.take (k+1))=(eqL P (xs.take k) (ys.take k)&&P x y)
 | [],_,k,x,y,h,_=>by simp at h
 | _::_,[],k,x,y,_,h=>by simp at h
 | a::xs,b::ys,0,x,y,h1,h2=>by simp at h1 h2;subst h1;subst h2;simp [eqL]
 | a::xs,b::ys,k+1,x,y,h1,h2=>by
  simp only [List.getElem?_cons_succ] at h1 h2
  simp only [List.take_succ_cons,eqL]
  rw [zbK h1 h2,Bool.and_assoc]
theorem zdJ {α:Type}{P:α→α→Bool}:∀ {xs ys:List α} {k:Nat} {x y:α},xs[k]? =some x→ys[k]? =some y→P x y=false→eqL P xs ys=false
 | [],_,k,x,y,h,_,_=>by simp at h
 | _::_,[],k,x,y,_,h,_=>by simp at h
 | a::xs,b::ys,0,x,y,h1,h2,h=>by simp at h1 h2;subst h1;subst h2;unfold eqL;rw [h];rfl
 | a::xs,b::ys,k+1,x,y,h1,h2,h=>by
  simp only [List.getElem?_cons_succ] at h1 h2
  unfold eqL;rw [zdJ h1 h2 h,Bool.and_false]
theorem zaQ {α:Type}{P:α→α→Bool}(h:∀ a,P a a=true):∀ xs:List α,eqL P xs xs=true
 | []=>rfl
 | a::xs=>by unfold eqL;rw [h a,zaQ h xs];rfl
theorem dm2 {p q c:Bool}(h:(!p|| !q)=c):(p&&q)= !c:=by cases p<;>cases q<;>simp_all
theorem dm3 {p q r c:Bool}(h:((!p|| !q)|| !r)=c):((p&&q)&&r)= !c:=by cases p<;>cases q<;>cases r<;>simp_all
def vtE (x y:Vt):Bool:=x.code==y.code&&decide (x.ws=y.ws)
def enE (x y:En):Bool:=(x.loc==y.loc&&x.lem==y.lem)&&eqL vtE x.vs y.vs
theorem zky (x:Vt):vtE x x=true:=by simp [vtE]
theorem zlB (x:En):enE x x=true:=by unfold enE;rw [zaQ zky];simp
def ogE (x y:Og):Bool:=x.k==y.k&&(x.r==y.r&&(decide (x.ws=y.ws)&&decide (x.ps=y.ps)))
theorem zlQ (x:Og):ogE x x=true:=by simp [ogE]
end
section
open Go Go.Kn Go.Proofs
theorem zgY:ElT Tryz.prog 29 74 3 40:=.of (by kernel_rfl)
theorem zbU:QX Tryz.prog 38 0 0:=.of (by kernel_rfl)
theorem zeJ:QX Tryz.prog 38 1 1:=.of (by kernel_rfl)
theorem zfC:QX Tryz.prog 38 2 2:=.of (by kernel_rfl)
theorem WZ:QX Tryz.prog 38 3 3:=.of (by kernel_rfl)
theorem JM:QX Tryz.prog 74 0 0:=.of (by kernel_rfl)
theorem zaK:QX Tryz.prog 74 1 1:=.of (by kernel_rfl)
theorem VX:QX Tryz.prog 74 2 2:=.of (by kernel_rfl)
theorem KT:QX Tryz.prog 77 0 0:=.of (by kernel_rfl)
theorem W7:QX Tryz.prog 77 1 1:=.of (by kernel_rfl)
theorem zuD:Fun Tryz.prog 35:=.of Tryz.func35 (by kernel_rfl) (by kernel_rfl)
theorem zib:Fun Tryz.prog 43:=.of Tryz.func43 (by kernel_rfl) (by kernel_rfl)
theorem znd:PlT Tryz.prog 74 #[(0,1),(1,1),(2,1)] (.agg #[(.int .i64 0),(.int .i64 0),(.slice none 0 0)]):=⟨.of (by kernel_rfl),by kernel_rfl,fun w=>by kernel_rfl⟩
theorem WK:ScT Tryz.prog 72:=.of (by kernel_rfl)
theorem Ki:SlT Tryz.prog 29 74 3:=.of (by kernel_rfl)
theorem JB:SlT Tryz.prog 72 77 2:=.of (by kernel_rfl)
theorem zkn {I:Qu}{av:Option Addr}{n c:Nat}{xs:List Vt}(hS:SlV I av n c xs){bv:Option Addr}{n2 c2:Nat}{ys:List Vt}(hT:SlV I bv n2 c2 ys)(hn:n≤100000)(hlb:∀ v∈xs,v.ws.length≤100000):Zx Tryz.prog 35 [.slice av n c,.slice bv n2 c2] I (.bool (eqL vtE xs ys)):=by
 intro g H w hw
 refine qe Tryz.func35 Tryz.ntmps35 hw ?_
 have hl1:=hS.len
 have hl2:=hT.len
 obtain ⟨hs,hSh,hSr⟩:=hS
 obtain ⟨ht,hTh,hTr⟩:=hT
 refine zR (zA (zN (Ql (zR ?_))))
 refine zM ?_
 refine zQ JB ?_
 refine zM ?_
 refine zQ JB ?_
 refine zC (zN ?_)
 refine zI ?_ ?_<;>intro hc10
 ·
  have hne:xs.length≠ys.length:=by have h:=hc10;simp at h;omega
  refine zR (zA (zN (Qt (Qc ?_))))
  exact zr rfl rfl (by rw [zd0 hne])
 have hnn:n=n2:=by have h:=hc10;simp at h;omega
 refine Qo (Qa (Ql (zR (zA (zN (Qm ?_))))))
 refine zU [(0,_),(1,_)] (fun T L0 mz E I' loc'=>∃ (k:Nat),mz=n-k∧E=(5,.int .i64 k)::T∧I=I'∧L0=loc'∧k≤n∧eqL vtE (xs.take k) (ys.take k)=true) ?_ (h:=⟨0,rfl,rfl,rfl,rfl,Nat.zero_le _,rfl⟩)
 rintro mz E I' loc' ⟨k,rfl,rfl,rfl,rfl,hk,hall⟩
 refine Ql (zR (zM ?_))
 refine zM ?_
 refine zQ JB ?_
 refine zC (zN ?_)
 refine zI ?_ ?_<;>intro hc14
 ·
  have hlt_k:k<n:=by have h:=hc14;simp at h;omega
  obtain ⟨u,hu⟩:∃ u,xs[k]? =some u:=⟨_,List.getElem?_eq_getElem (by omega)⟩
  obtain ⟨v,hv⟩:∃ v,ys[k]? =some v:=⟨_,List.getElem?_eq_getElem (by omega)⟩
  obtain ⟨x,hx,rx⟩:=hSr.at hu
  obtain ⟨y,hy,ry⟩:=hTr.at hv
  have hub:=hlb u (List.mem_of_getElem? hu)
  refine Qo (Qa (Ql (Qm (Ql ?_))))
  refine YI mixed (by kernel_rfl) ?_
  refine zq (Qi rfl) ?_
  refine zq (Qi rfl) ?_
  refine zq (zX JB hSh) ?_
  refine zq (Qe rfl KT) ?_
  refine zq (Qd rfl Qr (fun hg=>by exact zxJ hSh hx rfl)) ?_
  refine zq (Qi rfl) ?_
  refine zq (Qi rfl) ?_
  refine zq (zX JB hTh) ?_
  refine zq (Qe rfl KT) ?_
  refine zq (Qd rfl Qr (fun hg=>by exact zxJ hTh hy rfl)) ?_
  refine zq (QH rfl rfl rfl) ?_
  refine zq (Qi rfl) ?_
  refine Ys 11 rfl rfl rfl ?_
  refine zj (Qi rfl) ?_
  refine zj (Qi rfl) ?_
  refine zj (zX JB hSh) ?_
  refine zj (Qe rfl W7) ?_
  refine zj (Qd rfl QK (fun hg=>by exact zxS (j:=1) hSh hx rfl)) ?_
  refine zj (Qi rfl) ?_
  refine zj (Qi rfl) ?_
  refine zj (zX JB hTh) ?_
  refine zj (Qe rfl W7) ?_
  refine zj (Qd rfl QK (fun hg=>by exact zxS (j:=1) hTh hy rfl)) ?_
  refine UI (cap:=[]) (vs:=[_,_]) rfl rfl zib (fun hg=>zbu rx.2 ry.2 (by rw [←rx.2.len];exact hub)) (.some rfl rfl rfl rfl gbf) rfl rfl ?_
  refine zj (VF rfl) ?_
  refine Ju rfl rfl rfl rfl rfl ?_
  refine YH ?_
  refine Qa ?_
  refine zI ?_ ?_<;>intro hc41
  ·
   have hxy:vtE u v=false:=by unfold vtE;rw [←rx.1,←ry.1];exact dm2 hc41
   refine zR (zA (zN (Qt (Qn (Qc (Qc (Qn ?_)))))))
   refine Qc ?_
   exact zr rfl rfl (by rw [zdJ hu hv hxy])
  have hxy:vtE u v=true:=by unfold vtE;rw [←rx.1,←ry.1];exact dm2 hc41
  refine Qo (Qh (Qa (Qg (zM ?_))))
  refine zB ?_
  refine zA (Qb ?_)
  exact zm (h:=⟨n-(k+1),by omega,k+1,rfl,rfl,rfl,rfl,by omega,by rw [zbK hu hv,hall,hxy];rfl⟩)
 have hge_k:n≤k:=by have h:=hc14;simp at h;omega
 rw [List.take_of_length_le (by omega),List.take_of_length_le (by omega)] at hall
 refine QI (Qf (Qf (Qk (Qa (zR (zA (zN ?_)))))))
 refine Qt ?_
 exact zr rfl rfl (by rw [hall])
theorem zl0 {I:Qu}{av:Option Addr}{n c:Nat}{xs:List En}(hS:zfz I av n c xs){bv:Option Addr}{n2 c2:Nat}{ys:List En}(hT:zfz I bv n2 c2 ys)(hn:n≤100000)(hlb:∀ v∈xs,v.vs.length≤100000∧∀ u∈v.vs,u.ws.length≤100000):Zx Tryz.prog 13 [.slice av n c,.slice bv n2 c2] I (.bool (eqL enE xs ys)):=by
 intro g H w hw
 refine qe Tryz.func13 Tryz.ntmps13 hw ?_
 have hl1:=hS.len
 have hl2:=hT.len
 obtain ⟨hs,hSh,hSr⟩:=hS
 obtain ⟨ht,hTh,hTr⟩:=hT
 refine zR (zA (zN (Ql (zR ?_))))
 refine zM ?_
 refine zQ Ki ?_
 refine zM ?_
 refine zQ Ki ?_
 refine zC (zN ?_)
 refine zI ?_ ?_<;>intro hc10
 ·
  have hne:xs.length≠ys.length:=by have h:=hc10;simp at h;omega
  refine zR (zA (zN (Qt (Qc ?_))))
  exact zr rfl rfl (by rw [zd0 hne])
 have hnn:n=n2:=by have h:=hc10;simp at h;omega
 refine Qo (Qa (Ql (zR (zA (zN (Qm ?_))))))
 refine zU [(0,_),(1,_)] (fun T L0 mz E I' loc'=>∃ (k:Nat),mz=n-k∧E=(5,.int .i64 k)::T∧I=I'∧L0=loc'∧k≤n∧eqL enE (xs.take k) (ys.take k)=true) ?_ (h:=⟨0,rfl,rfl,rfl,rfl,Nat.zero_le _,rfl⟩)
 rintro mz E I' loc' ⟨k,rfl,rfl,rfl,rfl,hk,hall⟩
 refine Ql (zR (zM ?_))
 refine zM ?_
 refine zQ Ki ?_
 refine zC (zN ?_)
 refine zI ?_ ?_<;>intro hc14
 ·
  have hlt_k:k<n:=by have h:=hc14;simp at h;omega
  obtain ⟨u,hu⟩:∃ u,xs[k]? =some u:=⟨_,List.getElem?_eq_getElem (by omega)⟩
  obtain ⟨v,hv⟩:∃ v,ys[k]? =some v:=⟨_,List.getElem?_eq_getElem (by omega)⟩
  obtain ⟨x,hx,rx⟩:=hSr.at hu
  obtain ⟨y,hy,ry⟩:=hTr.at hv
  have hub:=hlb u (List.mem_of_getElem? hu)
  refine Qo (Qa (Ql (Qm (Ql ?_))))
  refine YI mixed (by kernel_rfl) ?_
  refine zq (Qi rfl) ?_
  refine zq (Qi rfl) ?_
  refine zq (zX Ki hSh) ?_
  refine zq (Qe rfl JM) ?_
  refine zq (Qd rfl Qr (fun hg=>by exact zxJ hSh hx rfl)) ?_
  refine zq (Qi rfl) ?_
  refine zq (Qi rfl) ?_
  refine zq (zX Ki hTh) ?_
  refine zq (Qe rfl JM) ?_
  refine zq (Qd rfl Qr (fun hg=>by exact zxJ hTh hy rfl)) ?_
  refine zq (QH rfl rfl rfl) ?_
  refine zq (Qi rfl) ?_
  refine Ys 11 rfl rfl rfl ?_
  refine zj (Qi rfl) ?_
  refine zj (Qi rfl) ?_
  refine zj (zX Ki hSh) ?_
  refine zj (Qe rfl zaK) ?_
  refine zj (Qd rfl Qr (fun hg=>by exact zxS (j:=1) hSh hx rfl)) ?_
  refine zj (Qi rfl) ?_
  refine zj (Qi rfl) ?_
  refine zj (zX Ki hTh) ?_
  refine zj (Qe rfl zaK) ?_
  refine zj (Qd rfl Qr (fun hg=>by exact zxS (j:=1) hTh hy rfl)) ?_
  refine zj (QH rfl rfl rfl) ?_
  refine Ju rfl rfl rfl rfl rfl ?_
  refine zq (Qi rfl) ?_
  refine Ys 24 rfl rfl rfl ?_
  refine zj (Qi rfl) ?_
  refine zj (Qi rfl) ?_
  refine zj (zX Ki hSh) ?_
  refine zj (Qe rfl VX) ?_
  refine zj (Qd rfl WK (fun hg=>by exact zxS (j:=2) hSh hx rfl)) ?_
  refine zj (Qi rfl) ?_
  refine zj (Qi rfl) ?_
  refine zj (zX Ki hTh) ?_
  refine zj (Qe rfl VX) ?_
  refine zj (Qd rfl WK (fun hg=>by exact zxS (j:=2) hTh hy rfl)) ?_
  refine UI (cap:=[]) (vs:=[_,_]) rfl rfl zuD (fun hg=>zkn rx.2.2 ry.2.2 (by rw [←rx.2.2.len];exact hub.1) hub.2) (.some rfl rfl rfl rfl gbf) rfl rfl ?_
  refine zj (VF rfl) ?_
  refine Ju rfl rfl rfl rfl rfl ?_
  refine YH ?_
  refine Qa ?_
  refine zI ?_ ?_<;>intro hc54
  ·
   have hxy:enE u v=false:=by unfold enE;rw [←rx.1,←ry.1,←rx.2.1,←ry.2.1];exact dm3 hc54
   refine zR (zA (zN (Qt (Qn (Qc (Qc (Qn ?_)))))))
   refine Qc ?_
   exact zr rfl rfl (by rw [zdJ hu hv hxy])
  have hxy:enE u v=true:=by unfold enE;rw [←rx.1,←ry.1,←rx.2.1,←ry.2.1];exact dm3 hc54
  refine Qo (Qh (Qa (Qg (zM ?_))))
  refine zB ?_
  refine zA (Qb ?_)
  exact zm (h:=⟨n-(k+1),by omega,k+1,rfl,rfl,rfl,rfl,by omega,by rw [zbK hu hv,hall,hxy];rfl⟩)
 have hge_k:n≤k:=by have h:=hc14;simp at h;omega
 rw [List.take_of_length_le (by omega),List.take_of_length_le (by omega)] at hall
 refine QI (Qf (Qf (Qk (Qa (zR (zA (zN ?_)))))))
 refine Qt ?_
 exact zr rfl rfl (by rw [hall])
theorem zpo {I:Qu}{o1 o2:Og}{a1:Option Addr}{n1 c1:Nat}{a2:Option Addr}{n2 c2:Nat}(h1:Sl I 1 QQ a1 n1 c1 o1.ws)(h2:Sl I 1 QQ a2 n2 c2 o1.ps){a3:Option Addr}{n3 c3:Nat}{a4:Option Addr}{n4 c4:Nat}(h3:Sl I 1 QQ a3 n3 c3 o2.ws)(h4:Sl I 1 QQ a4 n4 c4 o2.ps)(hb1:n1≤100000)(hb2:n2≤100000):Zx Tryz.prog 18 [.agg #[.int .i64 o1.k,.int .i64 o1.r,.slice a1 n1 c1,.slice a2 n2 c2],.agg #[.int .i64 o2.k,.int .i64 o2.r,.slice a3 n3 c3,.slice a4 n4 c4]] I (.bool (ogE o1 o2)):=by
 intro g H w hw
 refine qe Tryz.func18 Tryz.ntmps18 hw ?_
 refine zR ?_
 refine Q5 rfl rfl rfl (fun b_2=>?_)
 refine Q5 rfl rfl rfl (fun b_3=>?_)
 refine zA ?_
 refine zN (zR ?_)
 refine zF zbU ?_
 refine zL Qr ?_
 refine zF zbU ?_
 refine zL Qr ?_
 refine zC ?_
 refine zM ?_
 refine QE 5 rfl rfl rfl ?_
 refine zK (Qe rfl zeJ) ?_
 refine zK (Qd rfl Qr (fun hg=>by exact QS.h1 rfl)) ?_
 refine zK (Qe rfl zeJ) ?_
 refine zK (Qd rfl Qr (fun hg=>by exact QS.h0 rfl)) ?_
 refine zK (QH rfl rfl rfl) ?_
 refine QO rfl rfl rfl rfl rfl ?_
 refine zM ?_
 refine QE 12 rfl rfl rfl ?_
 refine zK (Qe rfl zfC) ?_
 refine zK (Qd rfl QK (fun hg=>by exact QS.h1 rfl)) ?_
 refine zK (Qe rfl zfC) ?_
 refine zK (Qd rfl QK (fun hg=>by exact QS.h0 rfl)) ?_
 refine qg (vs:=[_,_]) rfl zib (fun hg=>zbu h1 h3 hb1) ?_
 refine QO rfl rfl rfl rfl rfl ?_
 refine zM ?_
 refine QE 19 rfl rfl rfl ?_
 refine zK (Qe rfl WZ) ?_
 refine zK (Qd rfl QK (fun hg=>by exact QS.h1 rfl)) ?_
 refine zK (Qe rfl WZ) ?_
 refine zK (Qd rfl QK (fun hg=>by exact QS.h0 rfl)) ?_
 refine qg (vs:=[_,_]) rfl zib (fun hg=>zbu h2 h4 hb2) ?_
 refine QO rfl rfl rfl rfl rfl ?_
 refine zA (zN (Qt ?_))
 exact zr rfl rfl (by unfold ogE;simp only [Bool.and_assoc])
theorem zpl {I:Qu}{av:Option Addr}{n c:Nat}{xs:List (Int×Int)}(hS:Sl I 2 VN av n c xs){bv:Option Addr}{n2 c2:Nat}{ys:List (Int×Int)}(hT:Sl I 2 VN bv n2 c2 ys)(hn:n≤100000):Zx Tryz.prog 19 [.slice av n c,.slice bv n2 c2] I (.bool (decide (xs=ys))):=by
 intro g H w hw
 refine qe Tryz.func19 Tryz.ntmps19 hw ?_
 have hl1:=hS.len
 have hl2:=hT.len
 refine zR (zA (zN (Ql (zR ?_))))
 refine zM ?_
 refine zQ K5 ?_
 refine zM ?_
 refine zQ K5 ?_
 refine zC (zN ?_)
 refine zI ?_ ?_<;>intro hc10
 ·
  have hne:xs≠ys:=fun e=>by have h:=hc10;subst e;simp at h;omega
  refine zR (zA (zN (Qt (Qc ?_))))
  exact zr rfl rfl (by rw [decide_eq_false hne])
 have hnn:n=n2:=by have h:=hc10;simp at h;omega
 refine Qo (Qa (Ql (zR (zA (zN (Qm ?_))))))
 refine zU [(0,_),(1,_)] (fun T L0 mz E I' loc'=>∃ (k:Nat),mz=n-k∧E=(5,.int .i64 k)::T∧I=I'∧L0=loc'∧k≤n∧xs.take k=ys.take k) ?_ (h:=⟨0,rfl,rfl,rfl,rfl,Nat.zero_le _,rfl⟩)
 rintro mz E I' loc' ⟨k,rfl,rfl,rfl,rfl,hk,hall⟩
 refine Ql (zR (zM ?_))
 refine zM ?_
 refine zQ K5 ?_
 refine zC (zN ?_)
 refine zI ?_ ?_<;>intro hc14
 ·
  have hlt_k:k<n:=by have h:=hc14;simp at h;omega
  obtain ⟨x,hx⟩:=hS.at hlt_k
  obtain ⟨y,hy⟩:=hT.at (show k<n2 by omega)
  refine Qo (Qa (Ql (Qm (Ql ?_))))
  refine YI mixed (by kernel_rfl) ?_
  refine zq (Qi rfl) ?_
  refine zq (Qi rfl) ?_
  refine zq (zX K5 hS) ?_
  refine zq (Qp rfl zaA (fun hg=>by exact zxR hS hx) rfl) ?_
  refine zq (Qi rfl) ?_
  refine zq (Qi rfl) ?_
  refine zq (zX K5 hT) ?_
  refine zq (Qp rfl zaA (fun hg=>by exact zxR hT hy) rfl) ?_
  refine zq (zoD rfl rfl zci) ?_
  refine YH ?_
  refine Qa ?_
  refine zI ?_ ?_<;>intro hc25
  ·
   have hne:xs≠ys:=fun e=>by subst e;rw [hx] at hy;cases hy;simp at hc25
   refine zR (zA (zN (Qt (Qn (Qc (Qc (Qn ?_)))))))
   refine Qc ?_
   exact zr rfl rfl (by rw [decide_eq_false hne])
  have hxy:x=y:=by have h:=hc25;simp at h;exact Prod.ext h.1 h.2
  refine Qo (Qh (Qa (Qg (zM ?_))))
  refine zB ?_
  refine zA (Qb ?_)
  exact zm (h:=⟨n-(k+1),by omega,k+1,rfl,rfl,rfl,rfl,by omega,by rw [List.take_add_one,List.take_add_one,hall,hx,hy,hxy]⟩)
 have hge_k:n≤k:=by have h:=hc14;simp at h;omega
 have heq:xs=ys:=by rw [List.take_of_length_le (by omega),List.take_of_length_le (by omega)] at hall;exact hall
 refine QI (Qf (Qf (Qk (Qa (zR (zA (zN ?_)))))))
 refine Qt ?_
 exact zr rfl rfl (by rw [decide_eq_true heq])
end
end Go.Proofs.YtodakphagkommaaGreatDoor
namespace Go.Proofs.YtodakphagkommaaGreatDoor.R
section
open Go Go.Kn Go.Proofs
theorem Y9:AgT Tryz.prog 159 4:=.of (by kernel_rfl)
theorem zqC:AgT Tryz.prog 254 9:=.of (by kernel_rfl)
theorem Yw:AgT Tryz.prog 57 19:=.of (by kernel_rfl)
theorem Ub:ArT Tryz.prog 254 9 253 1:=.of (by kernel_rfl)
theorem zhk:CvT Tryz.prog 186 3 .i64:=⟨by kernel_rfl,by kernel_rfl⟩
theorem Us:ElT Tryz.prog 36 57 19 168:=.of (by kernel_rfl)
theorem zcJ:QX Tryz.prog 159 0 0:=.of (by kernel_rfl)
theorem Xw:QX Tryz.prog 159 1 1:=.of (by kernel_rfl)
theorem UU:QX Tryz.prog 159 2 2:=.of (by kernel_rfl)
theorem UC:QX Tryz.prog 159 3 3:=.of (by kernel_rfl)
theorem Zy:QX Tryz.prog 57 0 0:=.of (by kernel_rfl)
theorem KY:QX Tryz.prog 57 1 1:=.of (by kernel_rfl)
theorem Ya:QX Tryz.prog 57 2 2:=.of (by kernel_rfl)
theorem Js:QX Tryz.prog 57 3 3:=.of (by kernel_rfl)
theorem VP:QX Tryz.prog 57 4 4:=.of (by kernel_rfl)
theorem KP:QX Tryz.prog 57 5 18:=.of (by kernel_rfl)
theorem zgL:Fun Tryz.prog 116:=.of Tryz.func116 (by kernel_rfl) (by kernel_rfl)
theorem zow:Fun Tryz.prog 138:=.of Tryz.func138 (by kernel_rfl) (by kernel_rfl)
theorem zrc:Fun Tryz.prog 139:=.of Tryz.func139 (by kernel_rfl) (by kernel_rfl)
theorem zo0:Fun Tryz.prog 140:=.of Tryz.func140 (by kernel_rfl) (by kernel_rfl)
theorem zoh:Fun Tryz.prog 141:=.of Tryz.func141 (by kernel_rfl) (by kernel_rfl)
theorem zn8:Fun Tryz.prog 143:=.of Tryz.func143 (by kernel_rfl) (by kernel_rfl)
theorem zrd:Fun Tryz.prog 144:=.of Tryz.func144 (by kernel_rfl) (by kernel_rfl)
theorem zoI:Fun Tryz.prog 145:=.of Tryz.func145 (by kernel_rfl) (by kernel_rfl)
theorem zjt:Fun Tryz.prog 146:=.of Tryz.func146 (by kernel_rfl) (by kernel_rfl)
theorem zh0:Fun Tryz.prog 147:=.of Tryz.func147 (by kernel_rfl) (by kernel_rfl)
theorem zrk:Fun Tryz.prog 149:=.of Tryz.func149 (by kernel_rfl) (by kernel_rfl)
theorem zqk:Fun Tryz.prog 161:=.of Tryz.func161 (by kernel_rfl) (by kernel_rfl)
theorem zdH:Fun Tryz.prog 169:=.of Tryz.func169 (by kernel_rfl) (by kernel_rfl)
theorem zg9:Fun Tryz.prog 190:=.of Tryz.func190 (by kernel_rfl) (by kernel_rfl)
theorem zn5:Fun Tryz.prog 193:=.of Tryz.func193 (by kernel_rfl) (by kernel_rfl)
theorem zpV:Fun Tryz.prog 194:=.of Tryz.func194 (by kernel_rfl) (by kernel_rfl)
theorem zoK:Fun Tryz.prog 195:=.of Tryz.func195 (by kernel_rfl) (by kernel_rfl)
theorem zd7:Fun Tryz.prog 196:=.of Tryz.func196 (by kernel_rfl) (by kernel_rfl)
theorem znY:Fun Tryz.prog 232:=.of Tryz.func232 (by kernel_rfl) (by kernel_rfl)
theorem zuH:Fun Tryz.prog 48:=.of Tryz.func48 (by kernel_rfl) (by kernel_rfl)
theorem zum:Fun Tryz.prog 49:=.of Tryz.func49 (by kernel_rfl) (by kernel_rfl)
theorem zva:Fun Tryz.prog 50:=.of Tryz.func50 (by kernel_rfl) (by kernel_rfl)
theorem zsN:Fun Tryz.prog 83:=.of Tryz.func83 (by kernel_rfl) (by kernel_rfl)
theorem zs8:Fun Tryz.prog 84:=.of Tryz.func84 (by kernel_rfl) (by kernel_rfl)
theorem zuk:Fun Tryz.prog 86:=.of Tryz.func86 (by kernel_rfl) (by kernel_rfl)
theorem zsE:Fun Tryz.prog 88:=.of Tryz.func88 (by kernel_rfl) (by kernel_rfl)
theorem ziz:Fun Tryz.prog 89:=.of Tryz.func89 (by kernel_rfl) (by kernel_rfl)
theorem zrS:Fun Tryz.prog 90:=.of Tryz.func90 (by kernel_rfl) (by kernel_rfl)
theorem Kq:MpT Tryz.prog 156 3 167 (.map none):=⟨by kernel_rfl,.of (by kernel_rfl)⟩
theorem zdE:MpT Tryz.prog 157 79 36 (.slice none 0 0):=⟨by kernel_rfl,.of (by kernel_rfl)⟩
theorem Vq:MpT Tryz.prog 167 3 4 (.bool false):=⟨by kernel_rfl,.of (by kernel_rfl)⟩
theorem YU:MpT Tryz.prog 91 3 23 (.slice none 0 0):=⟨by kernel_rfl,.of (by kernel_rfl)⟩
theorem zpN:PlT Tryz.prog 159 #[(0,1),(1,1),(2,1),(3,1)] (.agg #[(.map none),(.map none),(.map none),(.slice none 0 0)]):=⟨.of (by kernel_rfl),by kernel_rfl,fun w=>by kernel_rfl⟩
theorem ze1:PlT Tryz.prog 52 #[(0,1),(1,1)] (.agg #[(.int .i64 0),(.int .i64 0)]):=⟨.of (by kernel_rfl),by kernel_rfl,fun w=>by kernel_rfl⟩
theorem zhb:ScT Tryz.prog 156:=.of (by kernel_rfl)
theorem zdQ:ScT Tryz.prog 157:=.of (by kernel_rfl)
theorem zio:ScT Tryz.prog 167:=.of (by kernel_rfl)
theorem Wu:ScT Tryz.prog 253:=.of (by kernel_rfl)
theorem zb0:ScT Tryz.prog 48:=.of (by kernel_rfl)
theorem zeD:ScT Tryz.prog 91:=.of (by kernel_rfl)
theorem ZC:SlT Tryz.prog 36 57 19:=.of (by kernel_rfl)
theorem K9:SzT Tryz.prog 159 4:=.of (by kernel_rfl)
theorem zqB:SzT Tryz.prog 167 1:=.of (by kernel_rfl)
theorem zoC:SzT Tryz.prog 254 9:=.of (by kernel_rfl)
theorem zmE:SzT Tryz.prog 48 1:=.of (by kernel_rfl)
theorem V8:SzT Tryz.prog 57 19:=.of (by kernel_rfl)
theorem zqZ:Tryz.prog.underlying 167=some (.map 3 4):=by kernel_rfl
theorem zws:Tryz.prog.underlying 4=some .bool:=by kernel_rfl
theorem zmA:Yi Tryz.prog 159 (.agg #[(.map none),(.map none),(.map none),(.slice none 0 0)]):=.of (by kernel_rfl)
theorem ztv:Yi Tryz.prog 167 (.map none):=.of (by kernel_rfl)
theorem zmV:Yi Tryz.prog 254 (.agg #[(.pointer none),(.pointer none),(.pointer none),(.pointer none),(.pointer none),(.pointer none),(.pointer none),(.pointer none),(.pointer none)]):=.of (by kernel_rfl)
theorem Ui:Yi Tryz.prog 57 (.agg #[(.int .i64 0),(.int .i64 0),(.int .i64 0),(.int .i64 0),(.int .i64 0),(.int .i64 0),(.int .i64 0),(.int .i64 0),(.int .i64 0),(.int .i64 0),(.int .i64 0),(.int .i64 0),(.int .i64 0),(.int .i64 0),(.int .i64 0),(.int .i64 0),(.int .i64 0),(.int .i64 0),(.slice none 0 0)]):=.of (by kernel_rfl)
end
section
open Go Go.Kn Go.Proofs
theorem zxo (xs:List Int):(xs.flatMap QQ).length=xs.length:=by rw [ZR Qv,Nat.mul_one]
theorem ziG {α:Type}{xs:List α}{k:Nat}{x:α}{p:α→Bool}(hx:xs[k]? =some x)(h:(xs.take k).all p=true)(hp:p x=true):(xs.take (k+1)).all p=true:=by
 rw [List.take_add_one,hx,List.all_append,h];simpa using hp
theorem zhZ {α:Type}{xs:List α}{k:Nat}{x:α}{p:α→Bool}(hx:xs[k]? =some x)(hp:p x=false):xs.all p=false:=List.all_eq_false.2 ⟨x,List.mem_of_getElem? hx,by rw [hp];decide⟩
theorem zf1 {α:Type}{xs:List α}{k:Nat}{x:α}{p:α→Bool}(h:(xs.take k).any p=false)(hx:xs[k]? =some x)(hp:p x=true):xs.findIdx p=k:=by
 have hk:=(List.getElem?_eq_some_iff.1 hx).1
 rw [List.findIdx_eq hk]
 refine ⟨by rw [(List.getElem?_eq_some_iff.1 hx).2];exact hp,fun j hj=>?_⟩
 have:=List.any_eq_false.1 h xs[j] (by rw [List.mem_take_iff_getElem];exact ⟨j,by omega,rfl⟩)
 simpa using this
theorem V7 {α:Type}{xs:List α}{k:Nat}{x:α}{p:α→Bool}(h:(xs.take k).any p=false)(hx:xs[k]? =some x)(hp:p x=true):K3 p xs=k:=by
 unfold K3
 rw [JZ hx hp,if_pos rfl,zf1 h hx hp]
theorem zqJ {α:Type}{xs:List α}{p:α→Bool}(h:xs.any p=true):∃ i x,K3 p xs=(i:Nat)∧xs[i]? =some x∧p x=true∧i<xs.length:=by
 obtain ⟨x,hx,hp⟩:=List.any_eq_true.1 h
 have hl:=List.findIdx_lt_length_of_exists ⟨x,hx,hp⟩
 exact ⟨xs.findIdx p,xs[xs.findIdx p],by unfold K3;rw [h];rfl,List.getElem?_eq_getElem hl,List.findIdx_getElem,hl⟩
theorem zsX {α:Type}{p:α→Bool}:∀ {xs:List α} {k:Nat},(xs.take k).all p=true→k≤xs.length→(∀ y,xs[k]? =some y→p y=false)→xs.takeWhile p=xs.take k∧xs.dropWhile p=xs.drop k
 | [],k,_,hk,_=>by simp
 | x::xs,0,_,_,h=>by
  have:=h x rfl
  simp [this]
 | x::xs,k+1,h,hk,h2=>by
  rw [List.take_succ_cons,List.all_cons,Bool.and_eq_true] at h
  obtain ⟨h3,h4⟩:=zsX h.2 (by simpa using hk) (fun y hy=>h2 y (by simpa using hy))
  rw [List.takeWhile_cons,List.dropWhile_cons,if_pos h.1,if_pos h.1,h3,h4]
  exact ⟨rfl,rfl⟩
theorem Wf:∀ {xs ys:List Int},xs.Pairwise (· < ·)→ys.Pairwise (· < ·)→(∀ a,a∈xs↔a∈ys)→xs=ys
 | [],[],_,_,_=>rfl
 | [],y::ys,_,_,h=>by have:=(h y).2 (List.mem_cons_self ..);cases this
 | x::xs,[],_,_,h=>by have:=(h x).1 (List.mem_cons_self ..);cases this
 | x::xs,y::ys,hx,hy,h=>by
  rw [List.pairwise_cons] at hx hy
  have e:x=y:=by
   rcases List.mem_cons.1 ((h x).1 (List.mem_cons_self ..)) with e | e
   ·
    exact e
   ·
    rcases List.mem_cons.1 ((h y).2 (List.mem_cons_self ..)) with e2 | e2
    ·
     exact e2.symm
    ·
     have h1:=hx.1 _ e2;have h2:=hy.1 _ e;omega
  subst e
  refine congrArg _ (Wf hx.2 hy.2 fun a=>?_)
  constructor
  ·
   intro ha
   rcases List.mem_cons.1 ((h a).1 (List.mem_cons_of_mem _ ha)) with e | e
   ·
    subst e;have:=hx.1 _ ha;omega
   ·
    exact e
  ·
   intro ha
   rcases List.mem_cons.1 ((h a).2 (List.mem_cons_of_mem _ ha)) with e | e
   ·
    subst e;have:=hy.1 _ ha;omega
   ·
    exact e
theorem U5:∀ {ys xs:List Int},xs.Pairwise (· < ·)→ys.Pairwise (· < ·)→(∀ a∈xs,a∈ys)→xs.length≤ys.length∧(ys.length≤xs.length→xs=ys)
 | [],[],_,_,_=>⟨Nat.le_refl _,fun _=>rfl⟩
 | [],x::xs,_,_,h=>by have:=h x (List.mem_cons_self ..);cases this
 | y::ys,[],_,_,_=>⟨Nat.zero_le _,fun h=>by simp at h⟩
 | y::ys,x::xs,hx,hy,h=>by
  have hx':=List.pairwise_cons.1 hx
  have hy':=List.pairwise_cons.1 hy
  by_cases e:x=y
  ·
   subst e
   have:=U5 hx'.2 hy'.2 fun a ha=>(List.mem_cons.1 (h a (List.mem_cons_of_mem _ ha))).elim (fun e=>by subst e;have:=hx'.1 _ ha;omega) id
   exact ⟨by simpa using this.1,fun hl=>by rw [this.2 (by simpa using hl)]⟩
  ·
   have hxy:y<x:=by
    rcases List.mem_cons.1 (h x (List.mem_cons_self ..)) with e2 | e2
    ·
     exact absurd e2 e
    ·
     exact hy'.1 _ e2
   have:=(U5 hx hy'.2 fun a ha=>(List.mem_cons.1 (h a ha)).elim (fun e2=>by
    subst e2
    rcases List.mem_cons.1 ha with e3 | e3
    ·
     omega
    ·
     have:=hx'.1 _ e3;omega) id).1
   simp only [List.length_cons] at this ⊢
   exact ⟨by omega,fun hl=>by omega⟩
end
section
open Go Go.Kn Go.Proofs
def Y6:Sg:=⟨0,0,0,0,0,0,0,0,0,0,0,0,0,0⟩
instance : DecidableEq Sg := fun a b => decidable_of_iff (zah a b = true) za3
structure Pt where
 id:Int
 kind:Int
 sign:Int
 field:Int
 nw:Sg
 a:Option Addr
 n:Nat
 c:Nat
 needs:List Int
def Yt (p:Pt):List Value:=[.int .i64 p.id,.int .i64 p.kind,.int .i64 p.sign,.int .i64 p.field,.int .i64 p.nw.id,.int .i64 p.nw.role,.int .i64 p.nw.bar,.int .i64 p.nw.mark,.int .i64 p.nw.kind,.int .i64 p.nw.side,.int .i64 p.nw.dir,.int .i64 p.nw.level,.int .i64 p.nw.size,.int .i64 p.nw.wth,.int .i64 p.nw.fn,.int .i64 p.nw.fd,.int .i64 p.nw.tn,.int .i64 p.nw.td,.slice p.a p.n p.c]
def Wq (p:Pt):Value:=.agg (Yt p).toArray
theorem Q1 (x:Pt):(Yt x).length=19:=rfl
theorem zk7 (xs:List Pt):Yr (xs.flatMap Yt)=true:=Yh (fun _=>rfl) xs
def WU:Pt:=⟨0,0,0,0,Y6,none,0,0,[]⟩
def Nd (I:Qu)(p:Pt):Prop:=Sl I 1 QQ p.a p.n p.c p.needs
theorem Nd.mono {I I':Qu}{p:Pt}(h:Nd I p)(hI:HLe I I'):Nd I' p:=Sl.mono h hI
def SlP (I:Qu)(av:Option Addr)(n c:Nat)(ps:List Pt):Prop:=Sl I 19 Yt av n c ps∧∀ p∈ps,Nd I p
theorem SlP.mono {I I':Qu}{av:Option Addr}{n c:Nat}{ps:List Pt}(h:SlP I av n c ps)(hI:HLe I I'):SlP I' av n c ps:=⟨h.1.mono hI,fun p hp=>(h.2 p hp).mono hI⟩
theorem SlP.len {I:Qu}{av:Option Addr}{n c:Nat}{ps:List Pt}(h:SlP I av n c ps):ps.length=n:=h.1.len
theorem SlP.at {I:Qu}{av:Option Addr}{n c:Nat}{ps:List Pt}(h:SlP I av n c ps){k:Nat}(hk:k<n):∃ p,ps[k]? =some p∧Nd I p:=by
 obtain ⟨p,hp⟩:=h.1.at hk
 exact ⟨p,hp,h.2 p (List.mem_of_getElem? hp)⟩
def skP (xs:List Sg)(i:Nat):Bool:= !(!frm (xs.getD i Y6)||(decide ((i:Int)>0)&&decide ((xs.getD ((i:Int)-1).toNat Y6).id≥(xs.getD i Y6).id)))
def skB (xs:List Sg):Bool:=(List.range xs.length).all (skP xs)
def Wm (xs:List Sg):Int:=if xs.length>4096 then 2 else if skB xs then 0 else 360
/-! ### Patches -/
def zai (x:Sg)(f:Int)(y:Sg):Sg:=
 if f=1 then {x with role:=y.role} else if f=2 then {x with bar:=y.bar} else if f=3 then {x with mark:=y.mark} else if f=4 then {x with side:=y.side} else if f=5 then {x with dir:=y.dir}
 else if f=6 then {x with level:=y.level} else if f=7 then {x with size:=y.size} else if f=8 then {x with wth:=y.wth} else if f=9 then {x with fn:=y.fn,fd:=y.fd,tn:=y.tn,td:=y.td} else x
def zfk:Sg:=⟨0,0,0,3,9,0,0,0,0,0,0,1,1,2⟩
def ndP (id:Int)(v:List Int)(i:Nat):Bool:= !((decide (v.getD i 0<1)||decide (v.getD i 0≥id))||(decide ((i:Int)>0)&&decide (v.getD i 0≤v.getD ((i:Int)-1).toNat 0)))
def ndB (id:Int)(v:List Int):Bool:=(List.range v.length).all (ndP id v)
def idB (p:Pt):Bool:=(decide (p.id≥1)&&decide (p.id≤1048576))&&(decide (p.sign≥0)&&decide (p.sign≤1048576))
def Uo (p:Pt):Bool:=
 if p.kind=1 then YJ p.field 1 9&&(zah (zai p.nw p.field Y6) Y6&&frm (zai zfk p.field p.nw))
 else if p.kind=2 then p.field==0&&(p.nw.id==p.sign&&frm p.nw)
 else if p.kind=3 then p.field==0&&zah p.nw Y6 else false
def JK (p:Pt):Int:=if p.needs.length>32 then 2 else if ndB p.id p.needs&&(idB p&&Uo p) then 0 else 370
end
section
open Go Go.Kn Go.Proofs
def orF:List Int→Int
 | []=>0
 | x::xs=>if x≠0 then x else orF xs
theorem JR:∀ {xs:List Int},orF xs=0↔ ∀ x∈xs,x=0
 | []=>by simp [orF]
 | x::xs=>by
  unfold orF
  by_cases h:x=0
  ·
   rw [if_neg (by simpa using h),JR];simp [h]
  ·
   rw [if_pos h];simp [h]
theorem zkQ {xs:List Int}{k:Nat}{x:Int}(hx:xs[k]? =some x)(h:orF (xs.take k)=0)(hne:x≠0):orF xs=x:=by
 induction xs generalizing k with
 | nil=>simp at hx
 | cons y ys ih=>
  cases k with
  | zero=>
   simp at hx;subst hx
   unfold orF;rw [if_pos hne]
  | succ k=>
   rw [List.take_succ_cons] at h
   unfold orF at h ⊢
   by_cases hy:y=0
   ·
    rw [if_neg (by simpa using hy)] at h ⊢
    exact ih (by simpa using hx) h
   ·
    rw [if_pos hy] at h;exact absurd h hy
def onS (f:Int→Int→Bool)(p:Pt):Int→Int→Bool:=fun a b=>if a=p.id then p.needs.any (fun n=>n==b||f n b) else f a b
def onF (ps:List Pt):Int→Int→Bool:=ps.foldl onS (fun _ _=>false)
def zal (ps:List Pt)(n:Int):Bool:=ps.any (fun q=>q.id==n)
def lsP (ps:List Pt)(i:Nat):Bool:= !((decide ((i:Int)>0)&&decide ((ps.getD i WU).id≤(ps.getD ((i:Int)-1).toNat WU).id))||(ps.getD i WU).needs.any (fun n=> !zal ps n))
def lsB (ps:List Pt):Bool:=(List.range ps.length).all (lsP ps)
def zmy (p q:Pt)(on:Bool):Bool:=if p.sign≠q.sign then true else if q.kind=2 then p.kind != 2&&on else if q.kind=3 then !on else true
def zjh (ps:List Pt):Bool:=ps.all fun p=>ps.all fun q=>p.id==q.id||zmy p q (onF ps p.id q.id)
def KX (ps:List Pt):Int:=if ps.length>512 then 2 else if orF (ps.map JK)≠0 then orF (ps.map JK) else if lsB ps&&zjh ps then 0 else 380
structure Lst (ps:List Pt):Prop where
 pos:∀ p∈ps,1≤p.id
 inc:ps.Pairwise (fun p q=>p.id<q.id)
 has:∀ p∈ps,∀ n∈p.needs,n<p.id∧∃ q∈ps,q.id=n
theorem V0 {ps:List Pt}{n:Int}:zal ps n=true↔ ∃ q∈ps,q.id=n:=by
 unfold zal
 rw [List.any_eq_true]
 simp
theorem Lst.uniq {ps:List Pt}(h:Lst ps){p q:Pt}(hp:p∈ps)(hq:q∈ps)(e:p.id=q.id):p=q:=by
 obtain ⟨i,hi⟩:=List.getElem?_of_mem hp
 obtain ⟨j,hj⟩:=List.getElem?_of_mem hq
 obtain ⟨hi1,hi2⟩:=List.getElem?_eq_some_iff.1 hi
 obtain ⟨hj1,hj2⟩:=List.getElem?_eq_some_iff.1 hj
 by_cases hij:i=j
 ·
  subst hij;rw [hi] at hj;exact Option.some.inj hj
 ·
  rcases Nat.lt_or_gt_of_ne hij with hlt | hlt
  ·
   have:=List.pairwise_iff_getElem.1 h.inc i j hi1 hj1 hlt;rw [hi2,hj2] at this;omega
  ·
   have:=List.pairwise_iff_getElem.1 h.inc j i hj1 hi1 hlt;rw [hi2,hj2] at this;omega
theorem zhU {f:Int→Int→Bool}{p:Pt}{a b:Int}(h:a≠p.id):onS f p a b=f a b:=by unfold onS;rw [if_neg h]
theorem KQ:∀ (ps:List Pt) {f:Int→Int→Bool} {a b:Int},(∀ p∈ps,p.id≠a)→ps.foldl onS f a b=f a b
 | [],_,_,_,_=>rfl
 | p::ps,f,a,b,h=>by
  rw [List.foldl_cons,KQ ps (fun q hq=>h q (List.mem_cons_of_mem _ hq)),zhU (fun e=>h p (List.mem_cons_self ..) e.symm)]
theorem zlN {ps:List Pt}{a b:Int}(h:∀ p∈ps,p.id≠a):onF ps a b=false:=KQ ps h
theorem zcj {ps qs:List Pt}{p:Pt}{b:Int}(h:∀ q∈qs,q.id≠p.id):onF (ps++p::qs) p.id b=p.needs.any (fun n=>n==b||onF ps n b):=by
 unfold onF
 rw [List.foldl_append,List.foldl_cons,KQ qs h]
 unfold onS;rw [if_pos rfl]
theorem zeH {ps qs:List Pt}{a b:Int}(h:∀ q∈qs,q.id≠a):onF (ps++qs) a b=onF ps a b:=by
 unfold onF
 rw [List.foldl_append,KQ qs h]
theorem Lst.tail_ne {ps qs:List Pt}{p:Pt}(h:Lst (ps++p::qs)):(∀ q∈qs,p.id<q.id)∧(∀ q∈ps,q.id<p.id):=by
 have h1:=h.inc
 rw [List.pairwise_append] at h1
 exact ⟨(List.pairwise_cons.1 h1.2.1).1,fun q hq=>h1.2.2 q hq p (List.mem_cons_self ..)⟩
theorem zez {α:Type}{xs:List α}{f g:α→Bool}(h:∀ x∈xs,f x=g x):xs.any f=xs.any g:=by
 induction xs with
 | nil=>rfl
 | cons x xs ih=>rw [List.any_cons,List.any_cons,h x (List.mem_cons_self ..),ih fun y hy=>h y (List.mem_cons_of_mem _ hy)]
theorem Lst.on {ps:List Pt}(h:Lst ps){p:Pt}(hp:p∈ps)(b:Int):onF ps p.id b=p.needs.any (fun n=>n==b||onF ps n b):=by
 obtain ⟨l,r,rfl⟩:=List.append_of_mem hp
 obtain ⟨h1,h2⟩:=h.tail_ne
 rw [zcj (fun q hq e=>by have:=h1 q hq;omega)]
 refine zez fun n hn=>?_
 have hlt:=(h.has p hp n hn).1
 rw [zeH (ps:=l) (qs:=p::r)]
 intro q hq e
 rcases List.mem_cons.1 hq with rfl | hq
 ·
  omega
 ·
  have:=h1 q hq;omega
theorem Lst.on_iff {ps:List Pt}(h:Lst ps){p:Pt}(hp:p∈ps){b:Int}:onF ps p.id b=true↔ ∃ n∈p.needs,n=b∨onF ps n b=true:=by
 rw [h.on hp,List.any_eq_true]
 simp
theorem zd3 {ps:List Pt}{a b:Int}(h:onF ps a b=true):∃ p∈ps,p.id=a:=by
 by_cases hx:∃ p∈ps,p.id=a
 ·
  exact hx
 ·
  rw [zlN (fun p hp e=>hx ⟨p,hp,e⟩)] at h;cases h
theorem Lst.ind {ps:List Pt}(h:Lst ps){M:Pt→Prop}(hs:∀ p∈ps,(∀ q∈ps,q.id<p.id→M q)→M p):∀ p∈ps,M p:=by
 have key:∀ (m:Nat) (q:Pt),q∈ps→q.id.toNat≤m→M q:=by
  intro m
  induction m with
  | zero=>
   intro q hq hm
   have:=h.pos q hq;omega
  | succ m ih=>
   intro q hq hm
   exact hs q hq fun r hr hlt=>ih r hr (by have:=h.pos r hr;omega)
 exact fun p hp=>key _ p hp (Nat.le_refl _)
theorem Lst.on_lt {ps:List Pt}(h:Lst ps){a b:Int}(hon:onF ps a b=true):b<a∧∃ q∈ps,q.id=b:=by
 obtain ⟨p,hp,rfl⟩:=zd3 hon
 revert hon
 refine h.ind (M:=fun p=>onF ps p.id b=true→b<p.id∧∃ q∈ps,q.id=b) (fun p hp ih hon=>?_) p hp
 obtain ⟨n,hn,e⟩:=(h.on_iff hp).1 hon
 obtain ⟨h1,q,hq,rfl⟩:=h.has p hp n hn
 rcases e with rfl | e
 ·
  exact ⟨h1,q,hq,rfl⟩
 ·
  have:=ih q hq h1 e
  exact ⟨by omega,this.2⟩
theorem Lst.on_irr {ps:List Pt}(h:Lst ps){a:Int}:onF ps a a=false:=by
 cases hon:onF ps a a with
 | false=>rfl
 | true=>have:=(h.on_lt hon).1;omega
theorem Lst.on_trans {ps:List Pt}(h:Lst ps){a b c:Int}(h1:onF ps a b=true)(h2:onF ps b c=true):onF ps a c=true:=by
 obtain ⟨p,hp,rfl⟩:=zd3 h1
 revert h1
 refine h.ind (M:=fun p=>onF ps p.id b=true→onF ps p.id c=true) (fun p hp ih hon=>?_) p hp
 obtain ⟨n,hn,e⟩:=(h.on_iff hp).1 hon
 obtain ⟨hlt,q,hq,rfl⟩:=h.has p hp n hn
 rcases e with rfl | e
 ·
  exact (h.on_iff hp).2 ⟨_,hn,.inr h2⟩
 ·
  exact (h.on_iff hp).2 ⟨_,hn,.inr (ih q hq hlt e)⟩
theorem Lst.on_need {ps:List Pt}(h:Lst ps){p:Pt}(hp:p∈ps){n:Int}(hn:n∈p.needs):onF ps p.id n=true:=(h.on_iff hp).2 ⟨n,hn,.inl rfl⟩
theorem Lst.part {ps:List Pt}(h:Lst ps){f:Pt→Bool}(hc:∀ p∈ps,f p=true→∀ q∈ps,q.id∈p.needs→f q=true):Lst (ps.filter f):=
 ⟨fun p hp=>h.pos p (List.mem_filter.1 hp).1,h.inc.filter f,fun p hp n hn=>by
  obtain ⟨hp1,hp2⟩:=List.mem_filter.1 hp
  obtain ⟨h1,q,hq,rfl⟩:=h.has p hp1 n hn
  exact ⟨h1,q,List.mem_filter.2 ⟨hq,hc p hp1 hp2 q hq hn⟩,rfl⟩⟩
theorem Lst.on_part {ps:List Pt}(h:Lst ps){f:Pt→Bool}(hc:∀ p∈ps,f p=true→∀ q∈ps,q.id∈p.needs→f q=true){b:Int}{p:Pt}(hp:p∈ps)(hf:f p=true):onF (ps.filter f) p.id b=onF ps p.id b:=by
 have hL:=h.part hc
 revert hf
 refine h.ind (M:=fun p=>f p=true→onF (ps.filter f) p.id b=onF ps p.id b) (fun p hp ih hf=>?_) p hp
 rw [hL.on (List.mem_filter.2 ⟨hp,hf⟩),h.on hp]
 refine zez fun n hn=>?_
 obtain ⟨h1,q,hq,rfl⟩:=h.has p hp n hn
 rw [ih q hq h1 (hc p hp hf q hq hn)]
/-! ### Closures -/
def zpK (v:List Int):Bool:=(List.range v.length).all fun i=> !(decide ((i:Int)>0)&&decide (v.getD i 0≤v.getD ((i:Int)-1).toNat 0))
theorem zkl {v:List Int}:zpK v=true↔v.Pairwise (· < ·):=by
 unfold zpK
 constructor
 ·
  intro h
  refine KF (R:=fun a b:Int=>a<b) (fun a b c h1 h2=>Int.lt_trans h1 h2) fun k hk=>?_
  rw [List.all_eq_true] at h
  have h1:=h (k+1) (List.mem_range.2 hk)
  rw [show (((k+1:Nat):Int)-1).toNat=k by omega,QY (List.getElem?_eq_getElem hk),QY (List.getElem?_eq_getElem (show k<v.length by omega))] at h1
  simp at h1;omega
 ·
  intro h
  rw [List.all_eq_true]
  intro k hk
  rw [List.mem_range] at hk
  cases k with
  | zero=>rfl
  | succ k=>
   rw [show (((k+1:Nat):Int)-1).toNat=k by omega,QY (List.getElem?_eq_getElem hk),QY (List.getElem?_eq_getElem (show k<v.length by omega))]
   have:=List.pairwise_iff_getElem.1 h k (k+1) (by omega) hk (by omega)
   simp;omega
def chB (ps:List Pt)(ids:List Int):Bool:=zpK ids&&ids.all (zal ps)
def zd8 (ps:List Pt)(ids:List Int):List Int:=(ps.filter fun p=>ids.any fun n=>n==p.id||onF ps n p.id).map (·.id)
def zj9 (ps:List Pt)(v:List Int):Bool:=chB ps v&&zqV (zd8 ps v) v
end
section
open Go Go.Kn Go.Proofs
theorem zfY {ps:List Pt}(h:Lst ps)(f:Pt→Bool):((ps.filter f).map (·.id)).Pairwise (· < ·):=by
 rw [List.pairwise_map]
 exact h.inc.filter f
theorem zd1 {ps:List Pt}{f:Pt→Bool}{x:Int}:x∈(ps.filter f).map (·.id)↔ ∃ p∈ps,f p=true∧p.id=x:=by
 rw [List.mem_map]
 constructor
 ·
  rintro ⟨p,hp,e⟩
  exact ⟨p,(List.mem_filter.1 hp).1,(List.mem_filter.1 hp).2,e⟩
 ·
  rintro ⟨p,hp,hf,e⟩
  exact ⟨p,List.mem_filter.2 ⟨hp,hf⟩,e⟩
structure Ver (ps:List Pt)(v:List Int):Prop where
 inc:v.Pairwise (· < ·)
 sub:∀ x∈v,∃ p∈ps,p.id=x
 need:∀ p∈ps,p.id∈v→∀ n∈p.needs,n∈v
theorem Ver.on {ps:List Pt}{v:List Int}(h:Lst ps)(hv:Ver ps v){a b:Int}(ha:a∈v)(hon:onF ps a b=true):b∈v:=by
 obtain ⟨p,hp,rfl⟩:=zd3 hon
 revert hon ha
 refine h.ind (M:=fun p=>p.id∈v→onF ps p.id b=true→b∈v) (fun p hp ih ha hon=>?_) p hp
 obtain ⟨n,hn,e⟩:=(h.on_iff hp).1 hon
 have hnv:=hv.need p hp ha n hn
 rcases e with rfl | e
 ·
  exact hnv
 ·
  obtain ⟨hlt,q,hq,rfl⟩:=h.has p hp n hn
  exact ih q hq hlt hnv e
theorem Wx {ps:List Pt}{ids:List Int}{x:Int}:x∈zd8 ps ids↔(∃ p∈ps,p.id=x)∧∃ n∈ids,n=x∨onF ps n x=true:=by
 unfold zd8
 rw [zd1]
 constructor
 ·
  rintro ⟨p,hp,hf,rfl⟩
  rw [List.any_eq_true] at hf
  obtain ⟨n,hn,e⟩:=hf
  exact ⟨⟨p,hp,rfl⟩,n,hn,by simpa using e⟩
 ·
  rintro ⟨⟨p,hp,rfl⟩,n,hn,e⟩
  exact ⟨p,hp,List.any_eq_true.2 ⟨n,hn,by simpa using e⟩,rfl⟩
theorem KW {ps:List Pt}(h:Lst ps)(ids:List Int):(zd8 ps ids).Pairwise (· < ·):=zfY h _
theorem zdD {ps:List Pt}{ids:List Int}:chB ps ids=true↔ids.Pairwise (· < ·)∧∀ x∈ids,∃ p∈ps,p.id=x:=by
 unfold chB
 rw [Bool.and_eq_true,zkl,List.all_eq_true]
 exact ⟨fun h=>⟨h.1,fun x hx=>V0.1 (h.2 x hx)⟩,fun h=>⟨h.1,fun x hx=>V0.2 (h.2 x hx)⟩⟩
theorem zpD {ps:List Pt}(h:Lst ps)(ids:List Int):Ver ps (zd8 ps ids) where
 inc:=KW h ids
 sub:=fun x hx=>(Wx.1 hx).1
 need:=fun p hp hpv m hm=>by
  obtain ⟨_,n,hn,e⟩:=Wx.1 hpv
  obtain ⟨_,q,hq,rfl⟩:=h.has p hp m hm
  refine Wx.2 ⟨⟨q,hq,rfl⟩,n,hn,.inr ?_⟩
  rcases e with rfl | e
  ·
   exact h.on_need hp hm
  ·
   exact h.on_trans e (h.on_need hp hm)
theorem zfK {ps:List Pt}(h:Lst ps){v:List Int}(hv:Ver ps v):zd8 ps v=v:=
 Wf (KW h v) hv.inc fun a=>by
  rw [Wx]
  constructor
  ·
   rintro ⟨_,n,hn,rfl | e⟩
   ·
    exact hn
   ·
    exact hv.on h hn e
  ·
   intro ha
   exact ⟨hv.sub a ha,a,ha,.inl rfl⟩
theorem zep {ps:List Pt}(h:Lst ps){v:List Int}:zj9 ps v=true↔Ver ps v:=by
 unfold zj9
 rw [Bool.and_eq_true,zdD]
 constructor
 ·
  rintro ⟨⟨h1,h2⟩,h3⟩
  have e:zd8 ps v=v:=of_decide_eq_true h3
  have:=zpD h v
  rwa [e] at this
 ·
  intro hv
  exact ⟨⟨hv.inc,hv.sub⟩,decide_eq_true (zfK h hv)⟩
theorem zrh {ps:List Pt}(h:Lst ps){v:List Int}(hc:chB ps v=true):decide ((zd8 ps v).length≠v.length)= !zj9 ps v:=by
 have hsub:∀ x∈v,x∈zd8 ps v:=fun x hx=>Wx.2 ⟨(zdD.1 hc).2 x hx,x,hx,.inl rfl⟩
 have hnd:=(zdD.1 hc).1
 unfold zj9
 rw [hc,Bool.true_and]
 by_cases e:zd8 ps v=v
 ·
  rw [show zqV (zd8 ps v) v=true from decide_eq_true e,e];simp
 ·
  rw [show zqV (zd8 ps v) v=false from decide_eq_false e]
  refine decide_eq_true fun hl=>e ?_
  exact ((U5 hnd (KW h v) hsub).2 (by omega)).symm
theorem zgZ {ps:List Pt}(h0:orF (ps.map JK)=0)(h:lsB ps=true):Lst ps:=by
 have hk:∀ p∈ps,ndB p.id p.needs=true∧idB p=true∧Uo p=true:=fun p hp=>by
  have h1:=JR.1 h0 (JK p) (List.mem_map.2 ⟨p,hp,rfl⟩)
  unfold JK at h1
  split at h1
  ·
   cases h1
  ·
   split at h1
   ·
    rename_i h2
    simpa [Bool.and_eq_true] using h2
   ·
    cases h1
 unfold lsB at h
 rw [List.all_eq_true] at h
 refine ⟨fun p hp=>?_,?_,fun p hp n hn=>?_⟩
 ·
  have:=(hk p hp).2.1
  unfold idB at this
  simp at this
  omega
 ·
  refine KF (R:=fun p q:Pt=>p.id<q.id) (fun a b c h1 h2=>Int.lt_trans h1 h2) fun k hk=>?_
  have h1:=h (k+1) (List.mem_range.2 hk)
  unfold lsP at h1
  rw [show (((k+1:Nat):Int)-1).toNat=k by omega,QY (List.getElem?_eq_getElem hk),QY (List.getElem?_eq_getElem (show k<ps.length by omega))] at h1
  simp at h1
  have:=h1.1
  omega
 ·
  obtain ⟨k,hk1,rfl⟩:=List.mem_iff_getElem.1 hp
  have h1:=h k (List.mem_range.2 hk1)
  unfold lsP at h1
  rw [QY (List.getElem?_eq_getElem hk1)] at h1
  simp at h1
  refine ⟨?_,V0.1 (h1.2 n hn)⟩
  obtain ⟨j,hj,rfl⟩:=List.mem_iff_getElem.1 hn
  have h2:=(hk _ hp).1
  unfold ndB at h2
  rw [List.all_eq_true] at h2
  have h3:=h2 j (List.mem_range.2 hj)
  unfold ndP at h3
  rw [QY (List.getElem?_eq_getElem hj)] at h3
  simp at h3
  omega
theorem Uk {ps:List Pt}(h:KX ps=0):ps.length≤512∧orF (ps.map JK)=0∧lsB ps=true∧zjh ps=true:=by
 unfold KX at h
 split at h
 ·
  cases h
 ·
  split at h
  ·
   contradiction
  ·
   split at h
   ·
    rename_i h1 h2 h3
    rw [Bool.and_eq_true] at h3
    exact ⟨by omega,by omega,h3⟩
   ·
    cases h
theorem za8 {ps:List Pt}(h:KX ps=0):Lst ps:=zgZ (Uk h).2.1 (Uk h).2.2.1
end
section
open Go Go.Kn Go.Proofs
/-! ### Lists by keys -/
def Srt (xs:List Sg):Prop:=xs.Pairwise fun a b=>a.id<b.id
def Ym (xs:List Sg)(s:Int):Option Sg:=xs.find? fun x=>x.id==s
theorem zb9 {x:Sg}{xs:List Sg}{s:Int}:Ym (x::xs) s=if x.id=s then some x else Ym xs s:=by
 unfold Ym
 rw [List.find?_cons]
 by_cases h:x.id=s
 ·
  rw [if_pos h,show (x.id==s)=true by simpa using h]
 ·
  rw [if_neg h,show (x.id==s)=false by simpa using h]
theorem zqd {xs:List Sg}{s:Int}{x:Sg}(h:Ym xs s=some x):x.id=s:=by
 have:=List.find?_some h
 simpa using this
theorem zfj {xs:List Sg}{s:Int}{x:Sg}(h:Ym xs s=some x):x∈xs:=List.mem_of_find?_eq_some h
theorem XW {xs:List Sg}{s:Int}:Ym xs s=none↔ ∀ x∈xs,x.id≠s:=by
 unfold Ym
 rw [List.find?_eq_none]
 simp
theorem zg1 {xs:List Sg}(h:Srt xs){x:Sg}(hx:x∈xs):Ym xs x.id=some x:=by
 induction xs with
 | nil=>cases hx
 | cons y ys ih=>
  rw [zb9]
  have h':=List.pairwise_cons.1 h
  rcases List.mem_cons.1 hx with rfl | hx
  ·
   rw [if_pos rfl]
  ·
   rw [if_neg (by have:=h'.1 x hx;omega)]
   exact ih h'.2 hx
theorem zpS {xs ys:List Sg}(hx:Srt xs)(hy:Srt ys)(h:∀ s,Ym xs s=Ym ys s):xs=ys:=by
 have hm:∀ {xs ys:List Sg},Srt xs→(∀ s,Ym xs s=Ym ys s)→∀ a∈xs,a∈ys:=fun {xs ys} h1 h2 a ha=>zfj (by rw [←h2];exact zg1 h1 ha)
 have h1:=hm hx h
 have h2:=hm hy (fun s=>(h s).symm)
 clear hm h
 induction xs generalizing ys with
 | nil=>
  cases ys with
  | nil=>rfl
  | cons y ys=>have:=h2 y (List.mem_cons_self ..);cases this
 | cons x xs ih=>
  cases ys with
  | nil=>have:=h1 x (List.mem_cons_self ..);cases this
  | cons y ys=>
   have hx':=List.pairwise_cons.1 hx
   have hy':=List.pairwise_cons.1 hy
   have e:x=y:=by
    rcases List.mem_cons.1 (h1 x (List.mem_cons_self ..)) with e | e
    ·
     exact e
    ·
     rcases List.mem_cons.1 (h2 y (List.mem_cons_self ..)) with e2 | e2
     ·
      exact e2.symm
     ·
      have h3:=hx'.1 _ e2;have h4:=hy'.1 _ e;omega
   subst e
   refine congrArg _ (ih hx'.2 hy'.2 (fun a ha=>?_) (fun a ha=>?_))
   ·
    rcases List.mem_cons.1 (h1 a (List.mem_cons_of_mem _ ha)) with e | e
    ·
     subst e;have:=hx'.1 _ ha;omega
    ·
     exact e
   ·
    rcases List.mem_cons.1 (h2 a (List.mem_cons_of_mem _ ha)) with e | e
    ·
     subst e;have:=hy'.1 _ ha;omega
    ·
     exact e
theorem zoJ {xs:List Sg}(h:skB xs=true):Srt xs:=by
 unfold skB at h
 rw [List.all_eq_true] at h
 refine KF (R:=fun p q:Sg=>p.id<q.id) (fun a b c h1 h2=>Int.lt_trans h1 h2) fun k hk=>?_
 have h1:=h (k+1) (List.mem_range.2 hk)
 unfold skP at h1
 rw [show (((k+1:Nat):Int)-1).toNat=k by omega,QY (List.getElem?_eq_getElem hk),QY (List.getElem?_eq_getElem (show k<xs.length by omega))] at h1
 simp at h1
 have:=h1.2
 omega
theorem zj1 {xs:List Sg}(h:Wm xs=0):xs.length≤4096∧skB xs=true:=by
 unfold Wm at h
 split at h
 ·
  cases h
 ·
  split at h
  ·
   rename_i h1 h2;exact ⟨by omega,h2⟩
  ·
   cases h
def zfM (xs:List Sg)(k:Sg):List Sg:=xs.takeWhile (fun x=>decide (x.id<k.id))++k::xs.dropWhile (fun x=>decide (x.id<k.id))
theorem zfi {xs ys:List Sg}{s:Int}:Ym (xs++ys) s=(Ym xs s).or (Ym ys s):=by unfold Ym;rw [List.find?_append]
theorem zkd {xs:List Sg}{k:Sg}{s:Int}(hn:Ym xs k.id=none):Ym (zfM xs k) s=if k.id=s then some k else Ym xs s:=by
 unfold zfM
 rw [zfi,zb9]
 by_cases h:k.id=s
 ·
  subst h
  have h1:Ym (xs.takeWhile fun x=>decide (x.id<k.id)) k.id=none:=XW.2 fun x hx=>XW.1 hn x ((List.takeWhile_sublist _).mem hx)
  rw [h1,if_pos rfl,if_pos rfl];rfl
 ·
  rw [if_neg h,if_neg h,←zfi,List.takeWhile_append_dropWhile]
theorem zcs {xs:List Sg}(h:Srt xs){k:Int}:∀ x∈xs.dropWhile (fun x=>decide (x.id<k)),k≤x.id:=by
 induction xs with
 | nil=>intro x hx;cases hx
 | cons y ys ih=>
  have h':=List.pairwise_cons.1 h
  intro x hx
  rw [List.dropWhile_cons] at hx
  split at hx
  ·
   exact ih h'.2 x hx
  ·
   rename_i hy
   have hy:k≤y.id:=by simpa using hy
   rcases List.mem_cons.1 hx with rfl | hx
   ·
    exact hy
   ·
    have:=h'.1 x hx;omega
theorem zco {xs:List Sg}{k:Int}:∀ x∈xs.takeWhile (fun x=>decide (x.id<k)),x.id<k:=fun x hx=>by
 have:=List.all_eq_true.1 (List.all_takeWhile (l:=xs) (p:=fun x:Sg=>decide (x.id<k))) x hx
 simpa using this
theorem zqM {xs:List Sg}(h:Srt xs){k:Sg}(hn:Ym xs k.id=none):Srt (zfM xs k):=by
 have h0:Srt (xs.takeWhile (fun x=>decide (x.id<k.id))++xs.dropWhile (fun x=>decide (x.id<k.id))):=by rw [List.takeWhile_append_dropWhile];exact h
 unfold Srt at h0
 rw [List.pairwise_append] at h0
 unfold Srt zfM
 rw [List.pairwise_append,List.pairwise_cons]
 refine ⟨h0.1,⟨fun x hx=>?_,h0.2.1⟩,fun x hx y hy=>?_⟩
 ·
  have h1:=zcs h x hx
  have h2:=XW.1 hn x ((List.dropWhile_sublist _).mem hx)
  omega
 ·
  rcases List.mem_cons.1 hy with rfl | hy
  ·
   exact zco x hx
  ·
   exact h0.2.2 x hx y hy
/-! ### One field of a sign -/
def isF (f:Int):Prop:=1≤f∧f≤9
theorem zrw {x y:Sg}{f:Int}:(zai x f y).id=x.id:=by unfold zai;(repeat' split)<;>rfl
theorem zmb {x y:Sg}{f:Int}:(zai x f y).kind=x.kind:=by unfold zai;(repeat' split)<;>rfl
end
section
open Go Go.Kn Go.Proofs
def rmF (l:List Pt)(s:Int):List Int:=(l.filter fun p=>p.kind==3&&p.sign==s).map (·.id)
def stF (l:List Pt)(s f:Int):List Pt:=l.filter fun p=>p.kind==1&&(p.sign==s&&p.field==f)
def unB (on:Int→Int→Bool)(l:List Pt)(p:Pt):Bool:=p.kind==1&&(rmF l p.sign).any fun i=> !on i p.id
def unF (on:Int→Int→Bool)(l:List Pt)(s:Int):List Pt:=l.filter fun p=>p.sign==s&&unB on l p
def exB (on:Int→Int→Bool)(l:List Pt)(s:Int):Bool:=(rmF l s).isEmpty|| !(unF on l s).isEmpty
def zgi (on:Int→Int→Bool)(l:List Pt)(s f:Int):List Pt:=(stF l s f).filter fun p=> !(stF l s f).any fun q=>on q.id p.id
def zp7 (x:Sg)(f:Int):List Pt→Sg
 | []=>x
 | p::_=>zai x f p.nw
def zgh (on:Int→Int→Bool)(l:List Pt)(x:Sg)(k:Nat):Sg:=(List.range k).foldl (fun y (j:Nat)=>zp7 y ((j:Int)+1) (zgi on l x.id ((j:Int)+1))) x
def zj8 (on:Int→Int→Bool)(l:List Pt)(x:Sg):Sg:=zgh on l x 9
def WE (base:List Sg)(l:List Pt):List Sg:=l.foldl (fun s p=>if p.kind=2 then zfM s p.nw else s) base
def zcm (on:Int→Int→Bool)(base:List Sg)(l:List Pt):List Sg:=((WE base l).filter fun x=>exB on l x.id).map (zj8 on l)
def YM (ps:List Pt)(v:List Int):List Pt:=ps.filter fun p=>v.any (· ==p.id)
def WR (xs:List Sg)(s:Int):Bool:=xs.any fun x=>x.id==s
def zfO (l:List Pt)(s:Int):Bool:=l.any fun q=>q.kind==2&&q.sign==s
def zrs (base:List Sg)(l:List Pt)(p:Pt):Bool:= !((p.kind==2&&WR base p.sign)||(p.kind != 2&& !WR base p.sign)&& !zfO l p.sign)
def zgj (base:List Sg)(l:List Pt):Bool:=l.all (zrs base l)
def X3 (ps:List Pt)(base:List Sg)(v:List Int):Int:=if KX ps≠0 then KX ps else if Wm base≠0 then Wm base else if v.length>512 then 2 else if zj9 ps v&&zgj base (YM ps v) then 0 else 380
def zeh (ps:List Pt)(base:List Sg)(v:List Int):Int:=if X3 ps base v≠0 then X3 ps base v else if (zcm (onF ps) base (YM ps v)).length>4096 then 2 else 0
def zfA (ps:List Pt)(base:List Sg)(v:List Int):List Sg:=zln (zeh ps base v) (zcm (onF ps) base (YM ps v))
/-! ### Conflicts -/
structure zqa (p:Pt):Prop where
 pos:1≤p.id∧p.id≤1048576
 sg:0≤p.sign∧p.sign≤1048576
 kind:p.kind=1∨p.kind=2∨p.kind=3
 set:p.kind=1→isF p.field∧zai p.nw p.field Y6=Y6∧frm (zai zfk p.field p.nw)=true
 ins:p.kind=2→p.nw.id=p.sign∧frm p.nw=true
theorem zpW {p:Pt}(h:JK p=0):zqa p:=by
 unfold JK at h
 split at h
 ·
  cases h
 ·
  split at h
  ·
   rename_i h1 h2
   rw [Bool.and_eq_true,Bool.and_eq_true] at h2
   obtain ⟨h3,h4,h5⟩:=h2
   unfold idB at h4
   unfold Uo at h5
   simp only [Bool.and_eq_true,decide_eq_true_eq] at h4
   refine ⟨by omega,by omega,?_,fun hk=>?_,fun hk=>?_⟩
   ·
    split at h5
    ·
     omega
    ·
     split at h5
     ·
      omega
     ·
      split at h5
      ·
       omega
      ·
       cases h5
   ·
    rw [if_pos hk] at h5
    simp only [Bool.and_eq_true,YJ,decide_eq_true_eq] at h5
    exact ⟨⟨h5.1.1,h5.1.2⟩,za3.1 h5.2.1,h5.2.2⟩
   ·
    rw [if_neg (by omega),if_pos hk] at h5
    simp only [Bool.and_eq_true,beq_iff_eq] at h5
    exact h5.2
  ·
   cases h
structure Sto (ps:List Pt):Prop where
 lst:Lst ps
 ok:∀ p∈ps,zqa p
 tog:∀ p∈ps,∀ q∈ps,p.id≠q.id→zmy p q (onF ps p.id q.id)=true
theorem zpe {ps:List Pt}(h:zjh ps=true){p q:Pt}(hp:p∈ps)(hq:q∈ps)(hne:p.id≠q.id):zmy p q (onF ps p.id q.id)=true:=by
 unfold zjh at h
 rw [List.all_eq_true] at h
 have h1:=h p hp
 rw [List.all_eq_true] at h1
 have h2:=h1 q hq
 rw [show (p.id==q.id)=false by simpa using hne,Bool.false_or] at h2
 exact h2
theorem zaV {ps:List Pt}(h:KX ps=0):Sto ps:=
 ⟨za8 h,fun p hp=>zpW (JR.1 (Uk h).2.1 _ (List.mem_map.2 ⟨p,hp,rfl⟩)),fun _p hp _q hq hne=>zpe (Uk h).2.2.2 hp hq hne⟩
theorem Sto.ins {ps:List Pt}(h:Sto ps){p q:Pt}(hp:p∈ps)(hq:q∈ps)(hs:p.sign=q.sign)(hk:q.kind=2):p=q∨(p.kind≠2∧onF ps p.id q.id=true):=by
 by_cases e:p.id=q.id
 ·
  exact .inl (h.lst.uniq hp hq e)
 ·
  have:=h.tog p hp q hq e
  unfold zmy at this
  rw [if_neg (by simpa using hs),if_pos hk] at this
  simp at this
  exact .inr this
theorem Y2 {ps:List Pt}{v:List Int}{p:Pt}:p∈YM ps v↔p∈ps∧p.id∈v:=by
 unfold YM
 rw [List.mem_filter]
 simp
theorem Ver.closed {ps:List Pt}{v:List Int}(hv:Ver ps v):∀ p∈ps,(v.any (· ==p.id))=true→∀ q∈ps,q.id∈p.needs→(v.any (· ==q.id))=true:=fun p hp h q _ hq=>by
 have:p.id∈v:=by simpa using h
 have:=hv.need p hp this _ hq
 simpa using this
theorem zmf {ps:List Pt}{v:List Int}(h:Lst ps)(hv:Ver ps v):Lst (YM ps v):=h.part hv.closed
theorem zpq {ps:List Pt}{v:List Int}(h:Lst ps)(hv:Ver ps v){p:Pt}(hp:p∈YM ps v)(b:Int):onF (YM ps v) p.id b=onF ps p.id b:=
 h.on_part hv.closed (Y2.1 hp).1 (List.mem_filter.1 hp).2
theorem ze5 {ps:List Pt}{v:List Int}(h:Sto ps)(hv:Ver ps v):Sto (YM ps v):=
 ⟨zmf h.lst hv,fun p hp=>h.ok p (Y2.1 hp).1,fun p hp q hq hne=>by rw [zpq h.lst hv hp];exact h.tog p (Y2.1 hp).1 q (Y2.1 hq).1 hne⟩
/-! ### Standing matters YJ the version alone -/
theorem zo3 {l:List Pt}{s i:Int}:i∈rmF l s↔ ∃ p∈l,p.kind=3∧p.sign=s∧p.id=i:=by
 unfold rmF
 rw [zd1]
 simp [and_assoc]
theorem X4 {l:List Pt}{s f:Int}{p:Pt}:p∈stF l s f↔p∈l∧p.kind=1∧p.sign=s∧p.field=f:=by
 unfold stF
 rw [List.mem_filter]
 simp
section
variable {l:List Pt} {on on':Int→Int→Bool}
end
end
section
open Go Go.Kn Go.Proofs
section
variable {ps:List Pt} {base:List Sg} {v:List Int}
end
/-! ### All signs of a base and of what is inserted -/
theorem zjZ {xs:List Sg}{s:Int}:WR xs s=(Ym xs s).isSome:=by
 unfold WR Ym
 rw [Bool.eq_iff_iff,List.find?_isSome,List.any_eq_true]
def zfT (l:List Pt)(s:Int):Option Sg:=(l.find? fun q=>q.kind==2&&q.sign==s).map (·.nw)
theorem zcH {l:List Pt}{s:Int}{x:Sg}(h:zfT l s=some x):∃ q∈l,q.kind=2∧q.sign=s∧q.nw=x:=by
 unfold zfT at h
 rw [Option.map_eq_some_iff] at h
 obtain ⟨q,hq,rfl⟩:=h
 have:=List.find?_some hq
 simp at this
 exact ⟨q,List.mem_of_find?_eq_some hq,this.1,this.2,rfl⟩
theorem zjb {base:List Sg}{l:List Pt}(h:zgj base l=true){q:Pt}(hq:q∈l)(hk:q.kind=2):Ym base q.sign=none:=by
 unfold zgj at h
 rw [List.all_eq_true] at h
 have:=h q hq
 unfold zrs at this
 rw [zjZ] at this
 simp [hk] at this
 exact this
theorem zfg {base:List Sg}{l:List Pt}{q:Pt}:WE base (l++[q])=if q.kind=2 then zfM (WE base l) q.nw else WE base l:=by
 unfold WE
 rw [List.foldl_append];rfl
theorem zjd {base:List Sg}(hb:Srt base):∀ (l2 l1:List Pt),Sto (l1++l2)→zgj base (l1++l2)=true→Srt (WE base l1)→(∀ s,Ym (WE base l1) s=(Ym base s).or (zfT l1 s))→
  Srt (WE base (l1++l2))∧∀ s,Ym (WE base (l1++l2)) s=(Ym base s).or (zfT (l1++l2) s)
 | [],l1,_,_,h1,h2=>by rw [List.append_nil];exact ⟨h1,h2⟩
 | q::l2,l1,hs,hf,h1,h2=>by
  have e:l1++q::l2=(l1++[q])++l2:=by simp
  rw [e] at hs hf ⊢
  have hq:q∈l1++[q]++l2:=by simp
  have hins:∀ s,zfT (l1++[q]) s=(zfT l1 s).or (if q.kind=2∧q.sign=s then some q.nw else none):=by
   intro s
   unfold zfT
   rw [List.find?_append]
   by_cases hk:q.kind=2∧q.sign=s
   ·
    rw [if_pos hk,List.find?_cons,show (q.kind==2&&q.sign==s)=true by simpa using hk]
    cases l1.find? fun q=>q.kind==2&&q.sign==s<;>rfl
   ·
    rw [if_neg hk,List.find?_cons,show (q.kind==2&&q.sign==s)=false by simpa using hk]
    cases l1.find? fun q=>q.kind==2&&q.sign==s<;>rfl
  refine zjd hb l2 (l1++[q]) hs hf ?_ ?_
  ·
   rw [zfg]
   by_cases hk:q.kind=2
   ·
    rw [if_pos hk]
    have hid:=((hs.ok q hq).ins hk).1
    refine zqM h1 ?_
    rw [h2,hid,zjb hf hq hk]
    cases hi:zfT l1 q.sign with
    | none=>rfl
    | some x=>
     exfalso
     obtain ⟨r,hr,hr1,hr2,_⟩:=zcH hi
     rcases hs.ins (p:=r) (q:=q) (by simp [hr]) hq hr2 hk with e2 | ⟨e2,_⟩
     ·
      subst e2
      have:=hs.lst.inc
      rw [List.append_assoc,List.pairwise_append] at this
      have:=this.2.2 r hr r (by simp)
      omega
     ·
      exact e2 hr1
   ·
    rw [if_neg hk];exact h1
  ·
   intro s
   rw [zfg,hins]
   by_cases hk:q.kind=2
   ·
    have hid:=((hs.ok q hq).ins hk).1
    have hnone:Ym (WE base l1) q.nw.id=none:=by
     rw [h2,hid,zjb hf hq hk]
     cases hi:zfT l1 q.sign with
     | none=>rfl
     | some x=>
      exfalso
      obtain ⟨r,hr,hr1,hr2,_⟩:=zcH hi
      rcases hs.ins (p:=r) (q:=q) (by simp [hr]) hq hr2 hk with e2 | ⟨e2,_⟩
      ·
       subst e2
       have:=hs.lst.inc
       rw [List.append_assoc,List.pairwise_append] at this
       have:=this.2.2 r hr r (by simp)
       omega
      ·
       exact e2 hr1
    rw [if_pos hk,zkd hnone,hid,h2]
    have hn2:=hnone
    rw [h2,hid] at hn2
    by_cases hs2:q.sign=s
    ·
     subst hs2
     rw [if_pos rfl,if_pos ⟨hk,rfl⟩]
     cases h3:Ym base q.sign with
     | some x=>rw [h3] at hn2;cases hn2
     | none=>
      rw [h3] at hn2
      cases h4:zfT l1 q.sign with
      | some x=>rw [h4] at hn2;cases hn2
      | none=>rfl
    ·
     rw [if_neg hs2,if_neg (fun h=>hs2 h.2),Option.or_none]
   ·
    rw [if_neg hk,if_neg (fun h=>hk h.1),Option.or_none,h2]
theorem zmn {base:List Sg}{l:List Pt}(hb:Srt base)(hs:Sto l)(hf:zgj base l=true):Srt (WE base l)∧∀ s,Ym (WE base l) s=(Ym base s).or (zfT l s):=by
 have:=zjd hb l [] hs hf hb (fun s=>by simp [zfT,WE])
 simpa using this
end
section
open Go Go.Kn Go.Proofs
theorem zo8 {x:Sg}{f:Int}{ps:List Pt}:(zp7 x f ps).id=x.id:=by
 cases ps with
 | nil=>rfl
 | cons p ps=>exact zrw
theorem ziK {x:Sg}{f:Int}{ps:List Pt}:(zp7 x f ps).kind=x.kind:=by
 cases ps with
 | nil=>rfl
 | cons p ps=>exact zmb
theorem zcG {on:Int→Int→Bool}{l:List Pt}{x:Sg}{k:Nat}:zgh on l x (k+1)=zp7 (zgh on l x k) ((k:Int)+1) (zgi on l x.id ((k:Int)+1)):=by
 unfold zgh
 rw [List.range_succ,List.foldl_append];rfl
theorem zdh {on:Int→Int→Bool}{l:List Pt}{x:Sg}:∀ k:Nat,(zgh on l x k).id=x.id∧(zgh on l x k).kind=x.kind
 | 0=>⟨rfl,rfl⟩
 | k+1=>by
  rw [zcG,zo8,ziK]
  exact zdh k
theorem zm9 {on:Int→Int→Bool}{l:List Pt}{x:Sg}:(zj8 on l x).id=x.id:=(zdh 9).1
section
variable {l l':List Pt} {s:Int} {on:Int→Int→Bool}
end
end
section
open Go Go.Kn Go.Proofs
def zxt (t:List Pt)(s:Int):Bool:=t.any fun p=>p.kind==3&&p.sign==s
def zxw (x:Sg)(t:List Pt)(s:Int):Sg:=t.foldl (fun y p=>if p.kind=1∧p.sign=s then zai y p.field p.nw else y) x
def stS (base:List Sg)(t:List Pt)(s:Int):Option Sg:=if zxt t s then none else ((Ym base s).or (zfT t s)).map fun x=>zxw x t s
end
section
open Go Go.Kn Go.Proofs
def zkB (x y:Int):Int:=if x<y then -1 else if x>y then 1 else 0
/-! ### Fields as cells -/
def foF (f:Int):Nat:=if f=1 then 1 else if f=2 then 2 else if f=3 then 3 else if f=4 then 5 else if f=5 then 6 else if f=6 then 7 else if f=7 then 8 else 9
def ztS (x:Sg)(f:Int):Int:=if f=1 then x.role else if f=2 then x.bar else if f=3 then x.mark else if f=4 then x.side else if f=5 then x.dir else if f=6 then x.level else if f=7 then x.size else x.wth
def zxj (b:Nat):List Value:=[.pointer none,.pointer (some ⟨b,0+1,none⟩),.pointer (some ⟨b,0+2,none⟩),.pointer (some ⟨b,0+3,none⟩),.pointer (some ⟨b,0+5,none⟩),.pointer (some ⟨b,0+6,none⟩),.pointer (some ⟨b,0+7,none⟩),.pointer (some ⟨b,0+8,none⟩),.pointer (some ⟨b,0+9,none⟩)]
theorem X9 {f:Int}(h:1≤f∧f≤8):f=1∨f=2∨f=3∨f=4∨f=5∨f=6∨f=7∨f=8:=by omega
theorem zap {f:Int}(h:1≤f∧f≤8)(b:Nat):(zxj b)[f.toNat*1]? =some (.pointer (some ⟨b,foF f,none⟩)):=by
 rcases X9 h with rfl | rfl | rfl | rfl | rfl | rfl | rfl | rfl<;>rfl
theorem zdr {f:Int}(h:1≤f∧f≤8)(x:Sg):ziE (Vc x) (foF f)=some (.int .i64 (ztS x f)):=by
 rcases X9 h with rfl | rfl | rfl | rfl | rfl | rfl | rfl | rfl<;>rfl
theorem zqE {f:Int}:Nat.blt (foF f) 14=true:=by
 unfold foF
 repeat' split
 all_goals rfl
theorem zhh {f:Int}(h:1≤f∧f≤8)(x y:Sg):(Vc x).toArray.setIfInBounds (foF f) (.int .i64 (ztS y f))=(Vc (zai x f y)).toArray:=by
 rcases X9 h with rfl | rfl | rfl | rfl | rfl | rfl | rfl | rfl<;>rfl
def zfH (v:List Int)(k:Nat)(l:Int):Prop:=(k=0→l=0)∧∀ y,v[k-1]? =some y→k≠0→l=y
theorem zaq {v:List Int}{k:Nat}{x:Int}(hx:v[k]? =some x):zfH v (k+1) x:=⟨fun h=>by omega,fun y hy _=>by simp at hy;rw [hx] at hy;cases hy;rfl⟩
theorem ztf {id:Int}{v:List Int}{k:Nat}{l x:Int}(hall:(List.range k).all (ndP id v)=true)(hl:zfH v k l)(hx:v[k]? =some x):ndP id v k= !(decide (x≤l)||decide (x≥id)):=by
 unfold ndP
 rw [QY hx]
 cases k with
 | zero=>
  rw [hl.1 rfl]
  rw [Bool.eq_iff_iff];simp;omega
 | succ k=>
  have hk:=(List.getElem?_eq_some_iff.1 hx).1
  have hy:v[k]? =some (v[k]'(by omega)):=List.getElem?_eq_getElem _
  have e:=hl.2 _ (by rw [Nat.add_sub_cancel];exact hy) (by omega)
  rw [show (((k+1:Nat):Int)-1).toNat=k by omega,QY hy,←e]
  have h1:1≤l:=by
   rw [List.all_eq_true] at hall
   have:=hall k (List.mem_range.2 (by omega))
   unfold ndP at this
   rw [QY hy] at this
   simp at this
   omega
  rw [Bool.eq_iff_iff];simp;omega
theorem zuJ {p:Pt}(h:p.needs.length>32):JK p=2:=by unfold JK;rw [if_pos h]
theorem zs4 {p:Pt}(h:¬p.needs.length>32)(h2:ndB p.id p.needs=false):JK p=370:=by unfold JK;rw [if_neg h,h2];rfl
theorem zcx {p:Pt}(h:¬p.needs.length>32)(h2:ndB p.id p.needs=true)(h3:(idB p&&Uo p)=false):JK p=370:=by unfold JK;rw [if_neg h,h2,h3];rfl
theorem zeR {p:Pt}(h:¬p.needs.length>32)(h2:ndB p.id p.needs=true)(h3:(idB p&&Uo p)=true):JK p=0:=by unfold JK;rw [if_neg h,h2,h3];rfl
theorem zrG {p:Pt}(h:p.kind=1)(h2:YJ p.field 1 9=true):Uo p=(zah (zai p.nw p.field Y6) Y6&&frm (zai zfk p.field p.nw)):=by unfold Uo;rw [if_pos h,h2,Bool.true_and]
theorem ztZ {p:Pt}(h:p.kind=1)(h2:YJ p.field 1 9=false):(idB p&&Uo p)=false:=by unfold Uo;rw [if_pos h,h2,Bool.false_and,Bool.and_false]
theorem zvc {p:Pt}(h:p.kind=2):Uo p=(p.field==0&&(p.nw.id==p.sign&&frm p.nw)):=by unfold Uo;rw [if_neg (by omega),if_pos h]
theorem zt1 {p:Pt}(h:p.kind=3):Uo p=(p.field==0&&zah p.nw Y6):=by unfold Uo;rw [if_neg (by omega),if_neg (by omega),if_pos h]
theorem zvQ {p:Pt}(h1:p.kind≠1)(h2:p.kind≠2)(h3:p.kind≠3):(idB p&&Uo p)=false:=by unfold Uo;rw [if_neg h1,if_neg h2,if_neg h3,Bool.and_false]
def zja (an ad bn bd:Int):Int:=if K7 an ad&&K7 bn bd then zkB (an*bd) (bn*ad) else 0
theorem zdY {fn fd tn td:Int}:(((zj5 fn fd tn td==0)&&decide (zja fn fd tn td<0))&&decide (fn≥0)&&decide (tn≤td))=zdi fn fd tn td:=by
 unfold zj5 zja zdi zkB
 cases h:(K7 fn fd&&K7 tn td) with
 | false=>rfl
 | true=>
  simp only [if_true,Bool.true_and]
  by_cases h2:fn*td<tn*fd
  ·
   simp [h2]
  ·
   by_cases h3:fn*td>tn*fd<;>simp [h2,h3]
theorem zca {xs:List Sg}{k:Nat}{x:Sg}(hx:xs[k]? =some x):skP xs k= !(!frm x||(decide ((k:Int)>0)&&decide ((xs.getD ((k:Int)-1).toNat Y6).id≥x.id))):=by unfold skP;rw [QY hx]
end
section
open Go Go.Kn Go.Proofs
theorem zkf (I:Qu)(x y:Int):Zx Tryz.prog 142 [.int .i64 x,.int .i64 y] I (.int .i64 (zkB x y)):=by
 intro g H w hw
 refine qe Tryz.func142 Tryz.ntmps142 hw ?_
 refine zR (zA ?_)
 refine zN (zR ?_)
 refine zM ?_
 refine qc (vs:=[_]) rfl Wb (zfQ I _) ?_
 refine zA ?_
 refine zN (zR ?_)
 refine zM ?_
 refine qc (vs:=[_]) rfl Wb (zfQ I _) ?_
 refine zA (zN (Ql (zR ?_)))
 refine zM (zN ?_)
 refine zI ?_ ?_<;>intro hc11
 ·
  cases hc11
 refine Qo (Qa (Ql (zR (zM (zN ?_)))))
 refine zI ?_ ?_<;>intro hc13
 ·
  cases hc13
 refine Qo (Qa (Ql (zR (zM ?_))))
 refine zM ?_
 refine zC (zN ?_)
 refine zI ?_ ?_<;>intro hc16
 ·
  refine zR (zA (zN (Qt (Qc ?_))))
  exact zr rfl rfl (by unfold zkB;first | (rw [if_pos (by simpa using hc16)]) | (rw [if_neg (by simpa using hc16),if_pos (by simpa using hc19)]) | (rw [if_neg (by simpa using hc16),if_neg (by simpa using hc19)]))
 refine Qo (Qa (Ql (zR (zM ?_))))
 refine zM ?_
 refine zC (zN ?_)
 refine zI ?_ ?_<;>intro hc19
 ·
  refine zR (zA (zN (Qt (Qc ?_))))
  exact zr rfl rfl (by unfold zkB;first | (rw [if_pos (by simpa using hc16)]) | (rw [if_neg (by simpa using hc16),if_pos (by simpa using hc19)]) | (rw [if_neg (by simpa using hc16),if_neg (by simpa using hc19)]))
 refine Qo (Qa (zR (zA (zN (Qt ?_)))))
 exact zr rfl rfl (by unfold zkB;first | (rw [if_pos (by simpa using hc16)]) | (rw [if_neg (by simpa using hc16),if_pos (by simpa using hc19)]) | (rw [if_neg (by simpa using hc16),if_neg (by simpa using hc19)]))
end
section
open Go Go.Kn Go.Proofs
theorem zgQ (I:Qu)(an ad bn bd:Int):Zx Tryz.prog 237 [zbl (an) (ad),zbl (bn) (bd)] I (.tuple #[.int .i64 (zja an ad bn bd),.int .i64 (zj5 an ad bn bd)]):=by
 intro g H w hw
 refine qe Tryz.func237 Tryz.ntmps237 hw ?_
 refine zR ?_
 refine Q5 rfl rfl rfl (fun b_2=>?_)
 refine Q5 rfl rfl rfl (fun b_3=>?_)
 refine zA ?_
 refine zA (zN (Ql (zR ?_)))
 refine zV (Qp rfl Ve (fun hg=>by exact Cells.g1) rfl) ?_
 refine qc (vs:=[_]) rfl zbg (Xi I _ _) ?_
 refine zC ?_
 refine zM ?_
 refine Q2 3 rfl rfl rfl ?_
 refine zJ (Qp rfl Ve (fun hg=>by exact Cells.g0) rfl) ?_
 refine qf (vs:=[_]) rfl zbg (fun hg=>Xi I _ _) ?_
 refine zJ (QH rfl rfl rfl) ?_
 refine Zz rfl rfl rfl rfl rfl ?_
 refine zN ?_
 refine zI ?_ ?_<;>intro hc13
 ·
  have hb:(K7 an ad&&K7 bn bd)=false:=by have h:=hc13;rw [za7,Bool.not_eq_true'] at h;exact h
  refine zR (zA ?_)
  refine zA (zN (Qt (Qc ?_)))
  exact ZF rfl rfl rfl (fun w hw=>⟨by unfold zja zj5;rw [hb];rfl,hw.drop⟩)
 have hb:(K7 an ad&&K7 bn bd)=true:=by have h:=hc13;rw [za7,Bool.not_eq_false'] at h;exact h
 have ⟨ha1,ha2⟩:=zaU (Bool.and_eq_true .. ▸ hb).1
 have ⟨hb1,hb2⟩:=zaU (Bool.and_eq_true .. ▸ hb).2
 refine Qo (Qa (zR ?_))
 refine zF Va ?_
 refine zL Qr ?_
 refine zF VT ?_
 refine zL Qr ?_
 refine zV (ZN rfl rfl rfl (fun _=>by exact zkW (by omega) (by omega))) ?_
 refine zF Va ?_
 refine zL Qr ?_
 refine zF VT ?_
 refine zL Qr ?_
 refine zV (ZN rfl rfl rfl (fun _=>by exact zkW (by omega) (by omega))) ?_
 refine qc (vs:=[_,_]) rfl zd5 (zkf I _ _) ?_
 refine zA ?_
 refine zA (zN (Qt ?_))
 exact ZF rfl rfl rfl (fun w hw=>⟨by unfold zja zj5;rw [hb];rfl,hw.drop⟩)
theorem zjs (I:Qu)(an ad bn bd:Int):Zx Tryz.prog 203 [zbl (an) (ad),zbl (bn) (bd)] I (.bool (zdi an ad bn bd)):=by
 intro g H w hw
 refine qe Tryz.func203 Tryz.ntmps203 hw ?_
 refine zR ?_
 refine Q5 rfl rfl rfl (fun b_2=>?_)
 refine Q5 rfl rfl rfl (fun b_3=>?_)
 refine zA ?_
 refine zN (zR ?_)
 refine zV (Qp rfl Ve (fun hg=>by exact Cells.g1) rfl) ?_
 refine zV (Qp rfl Ve (fun hg=>by exact Cells.g0) rfl) ?_
 refine qc (vs:=[_,_]) rfl zg7 (zgQ I _ _ _ _) ?_
 refine zM ?_
 refine zE ?_
 refine zE ?_
 refine zA ?_
 refine zA ?_
 refine zN (zR ?_)
 refine zM ?_
 refine zC ?_
 refine zM ?_
 refine QE 2 rfl rfl rfl ?_
 refine zK (Qi rfl) ?_
 refine zK (QH rfl rfl rfl) ?_
 refine QO rfl rfl rfl rfl rfl ?_
 refine zM ?_
 refine QE 6 rfl rfl rfl ?_
 refine zK (Qe rfl Va) ?_
 refine zK (Qd rfl Qr (fun hg=>by exact QS.h1 rfl)) ?_
 refine zK (QH rfl rfl rfl) ?_
 refine QO rfl rfl rfl rfl rfl ?_
 refine zM ?_
 refine QE 11 rfl rfl rfl ?_
 refine zK (Qe rfl Va) ?_
 refine zK (Qd rfl Qr (fun hg=>by exact QS.h0 rfl)) ?_
 refine zK (Qe rfl VT) ?_
 refine zK (Qd rfl Qr (fun hg=>by exact QS.h0 rfl)) ?_
 refine zK (QH rfl rfl rfl) ?_
 refine QO rfl rfl rfl rfl rfl ?_
 refine zA (zN (Qt ?_))
 exact zr rfl rfl (by rw [←zdY])
theorem zql (I:Qu)(x:Sg):Zx Tryz.prog 154 [JQ x] I (.bool (frm x)):=by
 intro g H w hw
 refine qe Tryz.func154 Tryz.ntmps154 hw ?_
 refine zR ?_
 refine Q5 rfl rfl rfl (fun b_1=>?_)
 refine zA ?_
 refine zN (zR ?_)
 refine zF Z3 ?_
 refine zL Qr ?_
 refine qc (vs:=[_,_,_]) rfl Yc (ZQ I _ _ _) ?_
 refine zM ?_
 refine QE 3 rfl rfl rfl ?_
 refine zK (Qe rfl J9) ?_
 refine zK (Qd rfl Qr (fun hg=>by exact QS.h0 rfl)) ?_
 refine qg (vs:=[_,_,_]) rfl Yc (fun hg=>ZQ I _ _ _) ?_
 refine QO rfl rfl rfl rfl rfl ?_
 refine zM ?_
 refine QE 8 rfl rfl rfl ?_
 refine zK (Qe rfl JT) ?_
 refine zK (Qd rfl Qr (fun hg=>by exact QS.h0 rfl)) ?_
 refine qg (vs:=[_,_,_]) rfl Yc (fun hg=>ZQ I _ _ _) ?_
 refine QO rfl rfl rfl rfl rfl ?_
 refine zM ?_
 refine QE 13 rfl rfl rfl ?_
 refine zK (Qe rfl Xa) ?_
 refine zK (Qd rfl Qr (fun hg=>by exact QS.h0 rfl)) ?_
 refine qg (vs:=[_,_,_]) rfl Yc (fun hg=>ZQ I _ _ _) ?_
 refine QO rfl rfl rfl rfl rfl ?_
 refine zM ?_
 refine QE 18 rfl rfl rfl ?_
 refine zK (Qe rfl Jr) ?_
 refine zK (Qd rfl Qr (fun hg=>by exact QS.h0 rfl)) ?_
 refine qg (vs:=[_,_,_]) rfl Yc (fun hg=>ZQ I _ _ _) ?_
 refine QO rfl rfl rfl rfl rfl ?_
 refine zM ?_
 refine QE 23 rfl rfl rfl ?_
 refine zK (Qe rfl JW) ?_
 refine zK (Qd rfl Qr (fun hg=>by exact QS.h0 rfl)) ?_
 refine qg (vs:=[_,_,_]) rfl Yc (fun hg=>ZQ I _ _ _) ?_
 refine QO rfl rfl rfl rfl rfl ?_
 refine zM ?_
 refine QE 28 rfl rfl rfl ?_
 refine zK (Qe rfl Kc) ?_
 refine zK (Qd rfl Qr (fun hg=>by exact QS.h0 rfl)) ?_
 refine qg (vs:=[_,_,_]) rfl Yc (fun hg=>ZQ I _ _ _) ?_
 refine QO rfl rfl rfl rfl rfl ?_
 refine zM ?_
 refine QE 33 rfl rfl rfl ?_
 refine zK (Qe rfl JP) ?_
 refine zK (Qd rfl Qr (fun hg=>by exact QS.h0 rfl)) ?_
 refine qg (vs:=[_,_,_]) rfl Yc (fun hg=>ZQ I _ _ _) ?_
 refine QO rfl rfl rfl rfl rfl ?_
 refine zM ?_
 refine QE 38 rfl rfl rfl ?_
 refine zK (Qe rfl JS) ?_
 refine zK (Qd rfl Qr (fun hg=>by exact QS.h0 rfl)) ?_
 refine qg (vs:=[_,_,_]) rfl Yc (fun hg=>ZQ I _ _ _) ?_
 refine QO rfl rfl rfl rfl rfl ?_
 refine zM ?_
 refine QE 43 rfl rfl rfl ?_
 refine zK (Qe rfl JY) ?_
 refine zK (Qd rfl Qr (fun hg=>by exact QS.h0 rfl)) ?_
 refine qg (vs:=[_,_,_]) rfl Yc (fun hg=>ZQ I _ _ _) ?_
 refine QO rfl rfl rfl rfl rfl ?_
 refine zM ?_
 refine QE 48 rfl rfl rfl ?_
 refine zK (Qe rfl VE) ?_
 refine zK (Qp rfl Ve (fun hg=>by exact Cells.s0 (vs:=[_,_]) rfl) rfl) ?_
 refine zK (Qe rfl Vy) ?_
 refine zK (Qp rfl Ve (fun hg=>by exact Cells.s0 (vs:=[_,_]) rfl) rfl) ?_
 refine qg (vs:=[_,_]) rfl zik (fun hg=>zjs I _ _ _ _) ?_
 refine QO rfl rfl rfl rfl rfl ?_
 refine zA (zN (Qt ?_))
 exact zr rfl rfl (by rfl)
theorem zfo {I:Qu}{av:Option Addr}{n c:Nat}{xs:List Sg}(hS:Sl I 14 Vc av n c xs)(hn:n≤100000):Zx Tryz.prog 102 [.slice av n c] I (.int .i64 (Wm xs)):=by
 intro g H w hw
 refine qe Tryz.func102 Tryz.ntmps102 hw ?_
 refine zR (zA (zN (Ql (zR ?_))))
 refine zM ?_
 refine zQ Vf ?_
 refine zC (zN ?_)
 refine zI ?_ ?_<;>intro hc7
 ·
  have h6:xs.length>4096:=by rw [hS.len];simp at hc7;omega
  refine zR (zA (zN (Qt (Qc ?_))))
  first
  | exact zr rfl rfl (by unfold Wm;rw [if_pos h6])
 have h6:¬xs.length>4096:=by rw [hS.len];simp at hc7;omega
 refine Qo (Qa (Ql (zR (zM ?_))))
 refine zQ Vf ?_
 refine zM (zN (Qm ?_))
 refine zU [(0,_),(8,_),(9,_)] (fun T L0 mz E I' loc'=>∃ (k:Nat),mz=n-k∧E=(10,.int .i64 k)::T∧I=I'∧L0=loc'∧k≤n∧(List.range k).all (skP xs)=true) ?_ (h:=⟨0,rfl,rfl,rfl,rfl,Nat.zero_le _,rfl⟩)
 rintro mz E I' loc' ⟨k,rfl,rfl,rfl,rfl,hk,hall⟩
 refine zR (zC (zN (Ql ?_)))
 refine zI ?_ ?_<;>intro hc11
 ·
  have hlt_k:k<n:=by have h:=hc11;simp at h;omega
  obtain ⟨x,hx⟩:=hS.at hlt_k
  refine Qo (Qa (Ql (Qm (zR (zM ?_)))))
  refine zV (QG rfl rfl Vf (by assumption) (fun hg=>by omega)) ?_
  refine zV (Qp rfl ZL (fun hg=>by exact zxR hS hx) rfl) ?_
  refine Qs XV rfl rfl (fun b_4=>?_)
  refine zA ?_
  refine zh VK ?_
  refine zN (Ql ?_)
  refine YI mixed (by kernel_rfl) ?_
  refine zq (Qp rfl ZL (fun hg=>by exact Cells.g0) rfl) ?_
  refine Jg (cap:=[]) (vs:=[_]) rfl rfl zgT (zql I _) rfl rfl ?_
  refine zq (VF rfl) ?_
  refine zq (Qi rfl) ?_
  refine Ys 3 rfl rfl rfl ?_
  refine zj (Qi rfl) ?_
  refine zj (QH rfl rfl rfl) ?_
  refine zj (Qi rfl) ?_
  refine zbN 6 rfl rfl rfl ?_
  refine zk (Qi rfl) ?_
  refine zk (Qi rfl) ?_
  refine zk (ZN rfl rfl rfl (fun hg=>by omega)) ?_
  refine zk (QG rfl rfl Vf (by assumption) (fun hg=>by (simp [ZT] at hg;omega))) ?_
  refine zk (Qe rfl Z3) ?_
  refine zk (Qd rfl Qr (fun hg=>by exact zxJ (k:=((k:Int)-1).toNat) hS (Zb (d:=Y6) hS.len (by simp [ZT] at hg;omega)) rfl)) ?_
  refine zk (Qe rfl Z3) ?_
  refine zk (Qd rfl Qr (fun hg=>by exact QS.h0 rfl)) ?_
  refine zk (QH rfl rfl rfl) ?_
  refine zhM rfl rfl rfl (.some rfl rfl rfl rfl gbf) rfl rfl ?_
  refine Ju rfl rfl rfl rfl rfl ?_
  refine YH ?_
  refine Qa ?_
  refine zI ?_ ?_<;>intro hc32
  ·
   refine zR (zA (zN (Qt (Qn (Qc (Qc (Qn ?_)))))))
   refine Qc ?_
   first
   | exact zr rfl rfl (by unfold Wm skB;rw [if_neg h6,JG (k:=k) (by rw [hS.len];exact hlt_k) (by rw [zca hx,hc32];rfl)];rfl)
  refine Qo (Qh (Qa (Qg (zB ?_))))
  refine zM (Qb ?_)
  exact zm (h:=⟨n-(k+1),by omega,k+1,rfl,rfl,rfl,rfl,by omega,V6 hall (by rw [zca hx,hc32];rfl)⟩)
 have hge_k:n≤k:=by have h:=hc11;simp at h;omega
 refine QI (Qf (Qf (Qk (Qa (zR (zA (zN ?_)))))))
 refine Qt ?_
 first
 | exact zr rfl rfl (by unfold Wm skB;rw [if_neg h6,hS.len,show n=k by omega,hall];rfl)
theorem XI (I:Qu)(b:Nat):Zx Tryz.prog 196 [Za b] I (.agg (zxj b).toArray):=by
 intro g H w hw
 refine qe Tryz.func196 Tryz.ntmps196 hw ?_
 refine zR ?_
 refine Qs zmV rfl rfl (fun b_2=>?_)
 refine zN (Ql ?_)
 have hD:=zxQ I
 refine Jn ?_
 refine Z5 I [] mixed ?_
 refine zT 0 rfl (Qi rfl) hD ?_
 refine zT 1 rfl (Q0 rfl) hD ?_
 refine zT 2 rfl (Qe rfl J9) hD ?_
 refine zT 3 rfl (Qi rfl) hD ?_
 refine zT 4 rfl (Q0 rfl) hD ?_
 refine zT 5 rfl (Qe rfl JT) hD ?_
 refine zT 6 rfl (Qi rfl) hD ?_
 refine zT 7 rfl (Q0 rfl) hD ?_
 refine zT 8 rfl (Qe rfl Jr) hD ?_
 refine zT 9 rfl (Qi rfl) hD ?_
 refine zT 10 rfl (Q0 rfl) hD ?_
 refine zT 11 rfl (Qe rfl JW) hD ?_
 refine zT 12 rfl (Qi rfl) hD ?_
 refine zT 13 rfl (Q0 rfl) hD ?_
 refine zT 14 rfl (Qe rfl Kc) hD ?_
 refine zT 15 rfl (Qi rfl) hD ?_
 refine zT 16 rfl (Q0 rfl) hD ?_
 refine zT 17 rfl (Qe rfl JP) hD ?_
 refine zT 18 rfl (Qi rfl) hD ?_
 refine zT 19 rfl (Q0 rfl) hD ?_
 refine zT 20 rfl (Qe rfl JS) hD ?_
 refine zT 21 rfl (Qi rfl) hD ?_
 refine zT 22 rfl (Q0 rfl) hD ?_
 refine zT 23 rfl (Qe rfl JY) hD ?_
 refine zT 24 rfl (Zw (ps:=[(1,_),(2,_),(3,_),(4,_),(5,_),(6,_),(7,_),(8,_)]) [_,_,_,_,_,_,_,_,_] Ub zmV rfl rfl) hD ?_
 refine qd 25 rfl ?_
 refine zh zoC ?_
 refine Qb ?_
 refine zD hD ?_
 refine QF (by kernel_rfl) ?_
 refine QP ?_
 refine Qa (Qt ?_)
 exact KB rfl rfl zqC Cells.g0 rfl (fun w hw=>⟨rfl,hw.drop⟩)
theorem zuC (I:Qu)(x:Sg)(f:Int)(y:Sg)(hf:isF f):Zx Tryz.prog 146 [JQ x,.int .i64 f,JQ y] I (JQ (zai x f y)):=by
 intro g H w hw
 refine qe Tryz.func146 Tryz.ntmps146 hw ?_
 refine zR ?_
 refine Q5 rfl rfl rfl (fun b_3=>?_)
 refine Q5 rfl rfl rfl (fun b_5=>?_)
 refine Qs XV rfl rfl (fun b_6=>?_)
 refine zN (Ql (zR (zM ?_)))
 refine zC (zN ?_)
 refine zI ?_ ?_<;>intro hc8
 ·
  have hf9:f=9:=by simpa using hc8
  refine zR ?_
  refine zF VE ?_
  refine zV (Qp rfl Ve (fun hg=>by exact Cells.s1 (vs:=[_,_]) rfl) rfl) ?_
  refine zF Vy ?_
  refine zV (Qp rfl Ve (fun hg=>by exact Cells.s1 (vs:=[_,_]) rfl) rfl) ?_
  refine zF VE ?_
  refine Jf rfl rfl zaw rfl rfl rfl rfl (by repeat (first | exact Upd.here | apply Upd.there | apply QJ)) ?_
  refine zF Vy ?_
  refine Jf rfl rfl zaw rfl rfl rfl rfl (by repeat (first | exact Upd.here | apply Upd.there | apply QJ)) ?_
  refine zN (zR ?_)
  refine zV (Qp rfl ZL (fun hg=>by exact Cells.g2) rfl) ?_
  refine zh VK ?_
  refine zN (Qt (Qc ?_))
  first
  | exact KB rfl rfl ZL Cells.g0 rfl (fun w hw=>⟨by rw [hf9];rfl,hw.drop⟩)
 have hf8:1≤f∧f≤8:=by have h:=hc8;unfold isF at hf;simp at h;omega
 refine Qo (Qa (Ql ?_))
 have hD:=zxQ I
 refine Jn ?_
 refine Z5 I [(b_5,.cells (JQ y).cells 54 (0,0))] mixed ?_
 refine zT 1 rfl (Qi rfl) hD ?_
 refine zT 4 rfl (Qi rfl) hD ?_
 refine qd 0 rfl ?_
 refine qc (vs:=[_]) rfl zd7 (XI I _) ?_
 refine Qb ?_
 refine zD hD ?_
 refine Zq 2 3 rfl rfl (by kernel_rfl) ?_ ?_
 ·
  refine zV (JU rfl rfl Ub Wu (fun hg=>by omega) (fun hg=>zap hf8 b_3)) ?_
  refine Qb ?_
  refine zD hD ?_
  refine qd 3 rfl ?_
  refine qc (vs:=[_]) rfl zd7 (XI I _) ?_
  refine Qb ?_
  refine zD hD ?_
  refine qd 5 rfl ?_
  refine zV (JU rfl rfl Ub Wu (fun hg=>by omega) (fun hg=>zap hf8 b_5)) ?_
  refine Qb ?_
  refine zD hD ?_
  refine zT 6 rfl (Q0 rfl) hD ?_
  refine zT 7 rfl (Qd rfl Qr (fun hg=>by exact QS.h0 (zdr hf8 y))) hD ?_
  refine zT 8 rfl (Q0 rfl) hD ?_
  refine qd 9 rfl ?_
  refine ZB rfl rfl Z7 rfl rfl Upd.u2 (by exact zqE) ?_
  rw [show (JQ x).cells.setIfInBounds (foF f) (.int .i64 (ztS y f))=(Vc (zai x f y)).toArray from zhh hf8 x y]
  refine Qb ?_
  refine zD hD ?_
  refine QF (by kernel_rfl) ?_
  refine QP ?_
  refine Qa (zR ?_)
  refine zV (Qp rfl ZL (fun hg=>by exact Cells.g2) rfl) ?_
  refine zh VK ?_
  refine zN (Qt ?_)
  exact KB rfl rfl ZL Cells.g0 rfl (fun w hw=>⟨rfl,hw.drop⟩)
 refine qc (vs:=[_]) rfl zd7 (XI I _) ?_
 refine Qb ?_
 refine zD hD ?_
 refine Zq 2 5 rfl rfl (by kernel_rfl) ?_ ?_
 ·
  refine zV (JU rfl rfl Ub Wu (fun hg=>by omega) (fun hg=>zap hf8 b_3)) ?_
  refine Qb ?_
  refine zD hD ?_
  refine qd 5 rfl ?_
  refine zV (JU rfl rfl Ub Wu (fun hg=>by omega) (fun hg=>zap hf8 b_5)) ?_
  refine Qb ?_
  refine zD hD ?_
  refine zT 6 rfl (Q0 rfl) hD ?_
  refine zT 7 rfl (Qd rfl Qr (fun hg=>by exact QS.h0 (zdr hf8 y))) hD ?_
  refine zT 8 rfl (Q0 rfl) hD ?_
  refine qd 9 rfl ?_
  refine ZB rfl rfl Z7 rfl rfl Upd.u2 (by exact zqE) ?_
  rw [show (JQ x).cells.setIfInBounds (foF f) (.int .i64 (ztS y f))=(Vc (zai x f y)).toArray from zhh hf8 x y]
  refine Qb ?_
  refine zD hD ?_
  refine QF (by kernel_rfl) ?_
  refine QP ?_
  refine Qa (zR ?_)
  refine zV (Qp rfl ZL (fun hg=>by exact Cells.g2) rfl) ?_
  refine zh VK ?_
  refine zN (Qt ?_)
  exact KB rfl rfl ZL Cells.g0 rfl (fun w hw=>⟨rfl,hw.drop⟩)
 refine zV (JU rfl rfl Ub Wu (fun hg=>by omega) (fun hg=>zap hf8 b_5)) ?_
 refine Qb ?_
 refine zD hD ?_
 refine zT 6 rfl (Q0 rfl) hD ?_
 refine zT 7 rfl (Qd rfl Qr (fun hg=>by exact QS.h0 (zdr hf8 y))) hD ?_
 refine qd 2 rfl ?_
 refine zV (JU rfl rfl Ub Wu (fun hg=>by omega) (fun hg=>zap hf8 b_3)) ?_
 refine Qb ?_
 refine zD hD ?_
 refine zT 8 rfl (Q0 rfl) hD ?_
 refine qd 9 rfl ?_
 refine ZB rfl rfl Z7 rfl rfl Upd.u2 (by exact zqE) ?_
 rw [show (JQ x).cells.setIfInBounds (foF f) (.int .i64 (ztS y f))=(Vc (zai x f y)).toArray from zhh hf8 x y]
 refine Qb ?_
 refine zD hD ?_
 refine QF (by kernel_rfl) ?_
 refine QP ?_
 refine Qa (zR ?_)
 refine zV (Qp rfl ZL (fun hg=>by exact Cells.g2) rfl) ?_
 refine zh VK ?_
 refine zN (Qt ?_)
 exact KB rfl rfl ZL Cells.g0 rfl (fun w hw=>⟨rfl,hw.drop⟩)
end
section
open Go Go.Kn
theorem zeE (zs:List Int):zs.flatMap QQ=zs.map (Value.int .i64):=by
 induction zs with
 | nil=>rfl
 | cons z zs ih=>rw [List.flatMap_cons,ih];rfl
theorem zc2 {zs ys:List Int}(hy:ys.Pairwise (· < ·))(h:∀ x,x∈zs↔x∈ys):Lib.compact (Yv zs)=ys:=
 Wf (KL zs).1 hy fun a=>by rw [(KL zs).2,h]
end
section
open Go Go.Kn Go.Proofs
theorem zq9 (i j:Nat)(h:i+j≤1000000):IntKind.i64.wrap ((IntKind.u64.wrap ((i:Int)+(j:Int))).fdiv (2^1))=(((i+j) / 2:Nat):Int):=by
 have h1:IntKind.u64.wrap ((i:Int)+(j:Int))=((i+j:Nat):Int):=by
  rw [show ((i:Int)+(j:Int))=((i+j:Nat):Int) by omega]
  exact zhL ⟨by omega,by omega⟩
 rw [h1,show ((2:Int)^1)=((2:Nat):Int) from rfl,Int.fdiv_eq_ediv_of_nonneg _ (by omega),←Int.natCast_ediv]
 exact zaW ⟨by omega,by omega⟩
theorem zup {x y:Int}:decide (zkB x y<0)=decide (x<y):=by
 unfold zkB
 by_cases h:x<y
 ·
  rw [if_pos h];simp [h]
 ·
  rw [if_neg h];split<;>simp [h]
section
variable {α:Type} {key:α→Int} {xs:List α} {t:Int}
theorem zvN (hs:xs.Pairwise (fun a b=>key a<key b)){h:Nat}{y:α}(hy:xs[h]? =some y)(hlt:key y<t):∀ q z,q<h+1→xs[q]? =some z→key z<t:=fun q z hq hz=>by
 obtain ⟨h1,h2⟩:=List.getElem?_eq_some_iff.1 hz
 obtain ⟨h3,h4⟩:=List.getElem?_eq_some_iff.1 hy
 by_cases e:q=h
 ·
  subst e;rw [hy] at hz;cases hz;exact hlt
 ·
  have:=List.pairwise_iff_getElem.1 hs q h h1 h3 (by omega)
  rw [h2,h4] at this;omega
theorem zwn (hs:xs.Pairwise (fun a b=>key a<key b)){h:Nat}{y:α}(hy:xs[h]? =some y)(hlt:¬key y<t):∀ q z,h≤q→xs[q]? =some z→¬key z<t:=fun q z hq hz=>by
 obtain ⟨h1,h2⟩:=List.getElem?_eq_some_iff.1 hz
 obtain ⟨h3,h4⟩:=List.getElem?_eq_some_iff.1 hy
 by_cases e:q=h
 ·
  subst e;rw [hy] at hz;cases hz;exact hlt
 ·
  have:=List.pairwise_iff_getElem.1 hs h q h3 h1 (by omega)
  rw [h2,h4] at this;omega
def zwN (key:α→Int)(xs:List α)(t:Int):Nat:=(xs.takeWhile fun x=>decide (key x<t)).length
theorem zsO {i:Nat}(hi:i≤xs.length)(hlo:∀ q z,q<i→xs[q]? =some z→key z<t)(hhi:∀ q z,i≤q→xs[q]? =some z→¬key z<t):zwN key xs t=i:=by
 unfold zwN
 have h1:(xs.take i).all (fun x=>decide (key x<t))=true:=by
  rw [List.all_eq_true]
  intro z hz
  obtain ⟨q,hq⟩:=List.getElem?_of_mem hz
  have hq1:q<i:=by have:=(List.getElem?_eq_some_iff.1 hq).1;rw [List.length_take] at this;omega
  rw [List.getElem?_take_of_lt hq1] at hq
  exact decide_eq_true (hlo q z hq1 hq)
 rw [(zsX h1 hi (fun y hy=>decide_eq_false (hhi i y (Nat.le_refl _) hy))).1,List.length_take];omega
theorem zkb {i n:Nat}{d:α}(hl:xs.length=n)(hlo:∀ q z,q<i→xs[q]? =some z→key z<t)(hhi:∀ q z,i≤q→xs[q]? =some z→¬key z<t)(hs:xs.Pairwise (fun a b=>key a<key b)):(decide ((i:Int)<(n:Int))&&(key (xs.getD i d)==t))=xs.any fun x=>key x==t:=by
 rw [Bool.eq_iff_iff,List.any_eq_true,Bool.and_eq_true]
 constructor
 ·
  rintro ⟨h1,h2⟩
  have hi:i<n:=by have:=of_decide_eq_true h1;omega
  exact ⟨_,List.mem_of_getElem? (Zb hl hi),h2⟩
 ·
  rintro ⟨x,hx,e⟩
  have e:key x=t:=by simpa using e
  obtain ⟨q,hq⟩:=List.getElem?_of_mem hx
  have hqn:=(List.getElem?_eq_some_iff.1 hq).1
  have h1:i≤q:=by
   rcases Nat.lt_or_ge q i with h | h
   ·
    have:=hlo q x h hq;omega
   ·
    exact h
  have h2:q=i:=by
   by_cases e2:q=i
   ·
    exact e2
   ·
    have hy:=Zb (d:=d) hl (show i<n by omega)
    obtain ⟨h3,h4⟩:=List.getElem?_eq_some_iff.1 hq
    obtain ⟨h5,h6⟩:=List.getElem?_eq_some_iff.1 hy
    have h7:=List.pairwise_iff_getElem.1 hs i q h5 h3 (by omega)
    rw [h4,h6] at h7
    have:=hhi i _ (Nat.le_refl _) hy
    omega
  subst h2
  refine ⟨decide_eq_true (by omega),?_⟩
  rw [QY hq,e];simp
end
instance : Inhabited Sg := ⟨Y6⟩
def znN (a b:Sg):Int:=zkB a.id b.id
theorem ltG (a b:Sg):Go.Proofs.ltOf znN a b=decide (a.id<b.id):=by unfold Go.Proofs.ltOf znN;exact zup
theorem zxI:Go.Sort.SWO (Go.Proofs.ltOf znN) where
 irrefl:=fun x=>by rw [ltG];simp
 trans:=fun x y z h1 h2=>by rw [ltG] at*;simp at*;omega
 ntrans:=fun x y z h1 h2=>by rw [ltG] at*;simp at*;omega
theorem zlD {zs zs':List Sg}(hp:zs'.Perm zs)(hs:zs'.Pairwise (fun x y=>Go.Proofs.ltOf znN y x=false))(hn:(zs.map (·.id)).Nodup):Srt zs':=by
 have hn':(zs'.map (·.id)).Nodup:=(hp.map (·.id)).nodup_iff.2 hn
 unfold Srt
 have h2:zs'.Pairwise (fun a b=>a.id≠b.id):=List.pairwise_map.1 hn'
 refine (hs.and h2).imp fun {a b} h=>?_
 have:=h.1
 rw [ltG] at this
 simp at this
 have:=h.2
 omega
end
section
open Go Go.Kn Go.Proofs
def zrn (v:List Int)(i:Nat):Bool:= !(decide ((i:Int)>0)&&decide (v.getD i 0≤v.getD ((i:Int)-1).toNat 0))
theorem zjx {v:List Int}:zpK v=(List.range v.length).all (zrn v):=rfl
theorem zi6 (v:List Int):(List.range 1).all (zrn v)=true:=by simp [zrn]
theorem zh4 {v:List Int}{k:Nat}{x:Int}(hx:v[k]? =some x)(h:1≤k):zrn v k= !decide (x≤v.getD ((k:Int)-1).toNat 0):=by
 unfold zrn
 rw [QY hx,decide_eq_true (show (k:Int)>0 by omega),Bool.true_and]
theorem zh2 {p:Nat→Bool}{n k:Nat}(h:(List.range k).all p=true)(hn:n≤k):(List.range n).all p=true:=by
 rw [List.all_eq_true] at*
 intro i hi
 exact h i (List.mem_range.2 (Nat.lt_of_lt_of_le (List.mem_range.1 hi) hn))
end
section
open Go Go.Kn Go.Proofs
theorem zsw (e:Nat)(zs:List Int){v:Value}{n:Nat}{L:Go.Kn.Loc}(hO:OwnS e 1 v n (zs.map (Value.int .i64)) L)(hn:n≤1000000)(I:Qu):
  Yb Tryz.prog 64 [v] I L (fun u I' L'=>u= .tuple #[]∧I'=I∧OwnS e 1 v n ((Yv zs).map (Value.int .i64)) L'):=
 zhD Tryz.slices_Sort_int Tryz.slices_Sort_int_none zs hO hn I
theorem ziY (e:Nat)(zs:List Int){v:Value}{n:Nat}{L:Go.Kn.Loc}(hO:OwnS e 1 v n (zs.map (Value.int .i64)) L)(hn:n≤1000000)(I:Qu):
  Yb Tryz.prog 91 [v] I L (fun u I' L'=>I'=I∧OwnS e 1 u (Lib.compact zs).length ((Lib.compact zs).map (Value.int .i64)) L'):=
 zaF Lib.compact Lib.compact_length_le rfl Tryz.slices_Compact_int Tryz.slices_Compact_int_empty zs hO hn I
theorem zsk (I:Qu)(x y:Sg):Zx Tryz.prog 141 [JQ x,JQ y] I (.int .i64 (znN x y)):=by
 intro g H w hw
 refine qe Tryz.func141 Tryz.ntmps141 hw ?_
 refine zR ?_
 refine Q5 rfl rfl rfl (fun b_2=>?_)
 refine Q5 rfl rfl rfl (fun b_3=>?_)
 refine zA ?_
 refine zN (zR ?_)
 refine zF Z3 ?_
 refine zL Qr ?_
 refine zF Z3 ?_
 refine zL Qr ?_
 refine qc (vs:=[_,_]) rfl zd5 (zkf I _ _) ?_
 refine zA (zN (Qt ?_))
 exact zr rfl rfl (by rfl)
theorem zok (e:Nat)(zs:List Sg){v:Value}{n:Nat}{L:Go.Kn.Loc}(hO:OwnS e 14 v n (zs.flatMap Vc) L)(hn:n≤1000000)(I:Qu):
  Yb Tryz.prog 140 [v,.func (.func 141) #[] #[]] I L (fun u I' L'=>u= .tuple #[]∧I'=I∧∃ zs':List Sg,zs'.Perm zs∧zs'.Pairwise (fun x y=>Go.Proofs.ltOf znN y x=false)∧OwnS e 14 v n (zs'.flatMap Vc) L'):=
 zk5 Z1 (by decide) (fun blk off cap d w hC hH hb hs=>Tryz.slices_SortFunc 14 (fun w=>YY ZL) (fun w=>by obtain ⟨i,hi,hz⟩:=VK;rw [←hz];exact Go.Kn.run_sizeOf hi) Vc Z1 (fun x=>V1 (by rfl)) znN zxI 141 #[] blk off cap d w (fun args w=>Vv zoh args w) hC hH hb hs)
  (Tryz.slices_SortFunc_none (α:=Sg)) (fun I x y=>zsk I x y) zs hO hn I
theorem zm2 (I:Qu)(x:Int):Zx Tryz.prog 190 [.int .i64 x] I (.bool false):=by
 intro g H w hw
 refine qe Tryz.func190 Tryz.ntmps190 hw ?_
 refine zR (zA ?_)
 refine zN (zR ?_)
 refine zM ?_
 refine zM ?_
 refine zC ?_
 refine zA (zN (Qt ?_))
 exact zr rfl rfl (by simp)
theorem zue (I:Qu)(x y:Int):Zx Tryz.prog 161 [.int .i64 x,.int .i64 y] I (.bool (decide (x<y))):=by
 intro g H w hw
 refine qe Tryz.func161 Tryz.ntmps161 hw ?_
 refine zR (zA ?_)
 refine zN (zR ?_)
 refine zM ?_
 refine qc (vs:=[_]) rfl Wb (zfQ I _) ?_
 refine zM ?_
 refine QE 2 rfl rfl rfl ?_
 refine zK (Qi rfl) ?_
 refine qg (vs:=[_]) rfl Wb (fun hg=>zfQ I _) ?_
 refine zK (VF rfl) ?_
 refine QO rfl rfl rfl rfl rfl ?_
 refine zM ?_
 refine Q2 7 rfl rfl rfl ?_
 refine zJ (Qi rfl) ?_
 refine zJ (Qi rfl) ?_
 refine zJ (QH rfl rfl rfl) ?_
 refine Zz rfl rfl rfl rfl rfl ?_
 refine zA (zN (Qt ?_))
 exact zr rfl rfl (by rfl)
theorem zwZ {I:Qu}{av:Option Addr}{n c:Nat}{xs:List Int}(hS:Sl I 1 QQ av n c xs)(hn:n≤100000)(hs:xs.Pairwise (· < ·))(t:Int):Zx Tryz.prog 139 [.slice av n c,.int .i64 t] I (.tuple #[.int .i64 (zwN (fun x:Int=>x) xs t:Nat),.bool (xs.any fun x=>x==t)]):=by
 intro g H w hw
 refine qe Tryz.func139 Tryz.ntmps139 hw ?_
 refine zR (zA ?_)
 refine zA ?_
 refine zN (zR ?_)
 refine zM ?_
 refine zQ Qw ?_
 refine zA ?_
 refine zN (zR ?_)
 refine zM ?_
 refine zA ?_
 refine zA (zN (Ql (Qm ?_)))
 refine zU [(0,_),(1,_),(6,_)] (fun T L0 mz E I' loc'=>∃ (i j:Nat),mz=j-i∧E=(7,.int .i64 i)::(8,.int .i64 j)::T∧I=I'∧L0=loc'∧i≤j∧j≤n∧(∀ q z,q<i→xs[q]? =some z→z<t)∧∀ q z,j≤q→xs[q]? =some z→¬z<t) ?_ (h:=⟨0,n,rfl,rfl,rfl,rfl,Nat.zero_le _,Nat.le_refl _,fun q z h=>absurd h (by omega),fun q z h1 h2=>by have:=(List.getElem?_eq_some_iff.1 h2).1;rw [hS.len] at this;omega⟩)
 rintro mz E I' loc' ⟨i,j,rfl,rfl,rfl,rfl,hij,hjn,hlo,hhi⟩
 refine Ql (zR (zM ?_))
 refine zM ?_
 refine zC (zN ?_)
 refine zI ?_ ?_<;>intro hc15
 ·
  have hlt:i<j:=by have h:=hc15;simp at h;omega
  obtain ⟨y,hy⟩:=hS.at (k:=(i+j) / 2) (by omega)
  refine Qo (Qa (Qm (zR (zM ?_))))
  refine zM ?_
  refine zB ?_
  refine zV (Kb rfl KC) ?_
  refine zV (zgD rfl rfl (by decide) (rfl:min _ _=1)) ?_
  refine zV (Kb rfl zhk) ?_
  refine zA (Qb ?_)
  rw [zq9 i j (by omega)]
  refine Qa (zR (zM ?_))
  refine zM ?_
  refine zV (QG rfl rfl Qw (by assumption) (fun hg=>by omega)) ?_
  refine zV (Qd rfl Qr (fun hg=>by exact zxJ (k:=(i+j) / 2) hS hy rfl)) ?_
  refine zM ?_
  refine qc (vs:=[_,_]) rfl zqk (zue I _ _) ?_
  refine zN ?_
  refine zI ?_ ?_<;>intro hc27
  ·
   refine Qg (zM ?_)
   refine zB ?_
   refine zA (Qb (Qh ?_))
   exact zm (h:=⟨j-((i+j) / 2+1),by omega,(i+j) / 2+1,j,rfl,rfl,rfl,rfl,by omega,hjn,zvN (key:=fun x:Int=>x) hs hy (by simpa using hc27),hhi⟩)
  refine Qg (zM ?_)
  refine zA (Qb (Qh ?_))
  exact zm (h:=⟨(i+j) / 2-i,by omega,i,(i+j) / 2,rfl,rfl,rfl,rfl,by omega,by omega,hlo,zwn (key:=fun x:Int=>x) hs hy (by simpa using hc27)⟩)
 have hge:j≤i:=by have h:=hc15;simp at h;omega
 have hje:j=i:=by omega
 subst hje
 refine QI (Qf (Qf (Qk (Qa (zR (zM ?_))))))
 refine zM ?_
 refine zM ?_
 refine zC ?_
 refine zM ?_
 refine QE 4 rfl rfl rfl ?_
 refine zK (Qi rfl) ?_
 refine zK (Qi rfl) ?_
 refine zK (QG rfl rfl Qw (by assumption) (fun hg=>by (simp [ZT] at hg;omega))) ?_
 refine zK (Qd rfl Qr (fun hg=>by exact Sl.getD0 (k:=j) (d:=0) hS (by simp [ZT] at hg;omega) rfl)) ?_
 refine zK (Qi rfl) ?_
 refine zK (QH rfl rfl rfl) ?_
 refine zK (Qi rfl) ?_
 refine Q2 11 rfl rfl rfl ?_
 refine zJ (Qi rfl) ?_
 refine zJ (Qi rfl) ?_
 refine zJ (QG rfl rfl Qw (by assumption) (fun hg=>by (simp [ZT] at hg;omega))) ?_
 refine zJ (Qd rfl Qr (fun hg=>by exact Sl.getD0 (k:=j) (d:=0) hS (by simp [ZT] at hg;omega) rfl)) ?_
 refine qf (vs:=[_]) rfl zg9 (fun hg=>zm2 I _) ?_
 refine zJ (Qi rfl) ?_
 refine QE 17 rfl rfl rfl ?_
 refine zK (Qi rfl) ?_
 refine qg (vs:=[_]) rfl zg9 (fun hg=>zm2 I _) ?_
 refine zbE rfl rfl rfl (.some rfl rfl rfl rfl gbf) rfl rfl ?_
 refine zmH rfl rfl rfl (.some rfl rfl rfl rfl gbt) rfl rfl ?_
 refine QO rfl rfl rfl rfl rfl ?_
 refine zA ?_
 refine zA (zN (Qt ?_))
 exact ZF rfl rfl rfl (fun w hw=>⟨by rw [←zkb (key:=fun x:Int=>x) (d:=0) hS.len hlo hhi hs,zsO (key:=fun x:Int=>x) (by rw [hS.len];omega) hlo hhi];simp,hw.drop⟩)
theorem zuS {I:Qu}{av:Option Addr}{n c:Nat}{xs:List Int}(hS:Sl I 1 QQ av n c xs)(hn:n≤100000):Zx Tryz.prog 149 [.slice av n c] I (.bool (zpK xs)):=by
 intro g H w hw
 refine qe Tryz.func149 Tryz.ntmps149 hw ?_
 refine zR (zA (zN (Ql (zR ?_))))
 refine zA (zN (Qm ?_))
 refine zU [(0,_)] (fun T L0 mz E I' loc'=>∃ (k:Nat),mz=(max n 1)-k∧E=(3,.int .i64 k)::T∧I=I'∧L0=loc'∧k≤(max n 1)∧1≤k∧(List.range k).all (zrn xs)=true) ?_ (h:=⟨1,rfl,rfl,rfl,rfl,by omega,Nat.le_refl _,zi6 xs⟩)
 rintro mz E I' loc' ⟨k,rfl,rfl,rfl,rfl,hk,h1,hall⟩
 refine Ql (zR (zM ?_))
 refine zM ?_
 refine zQ Qw ?_
 refine zC (zN ?_)
 refine zI ?_ ?_<;>intro hc7
 ·
  have hlt_k:k<n:=by have h:=hc7;simp at h;omega
  obtain ⟨x,hx⟩:=hS.at hlt_k
  refine Qo (Qa (Ql (Qm (Ql ?_))))
  refine YI mixed (by kernel_rfl) ?_
  refine zq (Qi rfl) ?_
  refine zq (Qi rfl) ?_
  refine zq (QG rfl rfl Qw (by assumption) (fun hg=>by omega)) ?_
  refine zq (Qd rfl Qr (fun hg=>by exact zxJ (k:=k) hS hx rfl)) ?_
  refine zq (Qi rfl) ?_
  refine zq (Qi rfl) ?_
  refine zq (ZN rfl rfl rfl (fun _=>by omega)) ?_
  refine zq (QG rfl rfl Qw (by assumption) (fun hg=>by omega)) ?_
  refine zq (Qd rfl Qr (fun hg=>by exact Sl.getD0 (k:=((k:Int)-1).toNat) (d:=0) hS (by omega) rfl)) ?_
  refine zq (QH rfl rfl rfl) ?_
  refine YH ?_
  refine Qa ?_
  refine zI ?_ ?_<;>intro hc19
  ·
   refine zR (zA (zN (Qt (Qn (Qc (Qc (Qn ?_)))))))
   refine Qc ?_
   first
   | exact zr rfl rfl (by rw [zjx,JG (k:=k) (by rw [hS.len];exact hlt_k) (by rw [zh4 hx h1,hc19];rfl)])
  refine Qo (Qh (Qa (Qg (zM ?_))))
  refine zB ?_
  refine zA (Qb ?_)
  exact zm (h:=⟨(max n 1)-(k+1),by omega,k+1,rfl,rfl,rfl,rfl,by omega,by omega,V6 hall (by rw [zh4 hx h1,hc19];rfl)⟩)
 have hge_k:n≤k:=by have h:=hc7;simp at h;omega
 refine QI (Qf (Qf (Qk (Qa (zR (zA (zN ?_)))))))
 refine Qt ?_
 exact zr rfl rfl (by rw [zjx,hS.len,zh2 hall (show n≤k from hge_k)])
theorem zkh {I:Qu}{av:Option Addr}{n c:Nat}{xs:List Sg}(hS:Sl I 14 Vc av n c xs)(hn:n≤400000):Yb Tryz.prog 138 [.slice av n c] I [] (fun v I' L=>I'=I∧OwnS 54 14 v n (xs.flatMap Vc) L):=by
 intro g H w hw
 refine qe Tryz.func138 Tryz.ntmps138 hw ?_
 refine zR (zA (zN (Ql (zR ?_))))
 refine zM ?_
 refine zV (WW rfl rfl Vf) ?_
 refine zN ?_
 refine zI ?_ ?_<;>intro hc4
 ·
  have hn0:n=0:=Decidable.byContradiction fun h=>by have:=hS.base h;rw [this] at hc4;cases hc4
  have hl:=hS.len
  subst hn0
  have hx0:=List.eq_nil_of_length_eq_zero hl
  subst hx0
  refine zR (zA (zN (Qt (Qc ?_))))
  exact Zt rfl rfl (fun w hw=>⟨_,I,_,rfl,zxQ _,hw,rfl,OwnS.nil⟩)
 refine Qo (Qa (zR ?_))
 refine Qq (ps:=[]) (m:=[]) K6 rfl (.nil) rfl (by simp) (by decide) (by decide) rfl rfl (fun b_5=>?_)
 refine zM ?_
 refine QW (v:=_) (ys:=xs.flatMap Vc) (L:=[(b_5,_)]) rfl rfl K6 OwnS.new (by repeat (first | exact .cons .here .nil | exact QD | exact Qx | apply QC | apply QB)) (hS.src Z1) (zlw _) (by omega) rfl rfl ?_
 intro v1 L1 hO1 _;rw [List.nil_append,Nat.zero_add] at hO1
 refine zA (zN (Qt ?_))
 exact Zt rfl rfl (fun w hw=>⟨_,I,_,rfl,zxQ _,hw.subL Zi,rfl,hO1⟩)
theorem zoB {I:Qu}{av:Option Addr}{n c:Nat}{xs:List Int}(hS:Sl I 1 QQ av n c xs)(hn:n≤400000){bv:Option Addr}{n2 c2:Nat}{ys:List Int}(hT:Sl I 1 QQ bv n2 c2 ys)(hn2:n2≤100000):Yb Tryz.prog 50 [.slice av n c,.slice bv n2 c2] I [] (zbf 1 QQ (Lib.compact (Yv (xs++ys)))):=by
 intro g H w hw
 refine qe Tryz.func50 Tryz.ntmps50 hw ?_
 have hIc:=zxQ I
 refine zR (zA ?_)
 refine zN (zR ?_)
 refine zM ?_
 refine Qz (cap:=[]) (vs:=[_]) rfl rfl zhN .nil (zaT hS hn) rfl rfl ?_
 rintro vv1 I1 L1 hI1 ⟨rfl,hO⟩
 have hT:=hT.mono hI1;have hIc:=hIc.trans hI1
 refine zM ?_
 refine QW (v:=_) (ys:=ys.flatMap QQ) (L:=_) rfl rfl Zh hO Qx (hT.src Qv) (JI _) (by omega) rfl rfl ?_
 intro v2 L2 hO2 _;rw [←List.flatMap_append,zeE] at hO2
 refine zA ?_
 refine zN (zR ?_)
 refine zM ?_
 refine Qz (cap:=[]) (vs:=[_]) rfl rfl zgr Qx (zsw 3 (xs++ys) hO2 (by omega) _) rfl rfl ?_
 rintro vv2 I2 L2 hI2 ⟨rfl,rfl,hO3⟩
 have hIc:=hIc.trans hI2
 refine zN (zR ?_)
 refine zM ?_
 refine Qz (cap:=[]) (vs:=[_]) rfl rfl zmR Qx (ziY 3 _ hO3 (by omega) _) rfl rfl ?_
 rintro vv3 I3 L3 hI3 ⟨rfl,hO4⟩
 have hIc:=hIc.trans hI3
 refine zA (zN (Qt ?_))
 rw [←zeE] at hO4
 exact Zt rfl rfl (fun w hw=>by obtain ⟨I9,h91,h92,h93⟩:=OwnS.res hO4 Qv (by decide) (hw.subL (by exact Zi));exact ⟨_,I9,[],rfl,hIc.trans h91,h92,h93⟩)
end
section
open Go Go.Kn Go.Proofs
def zbY (b:Nat):Value:=.map (some b)
structure X0 (s:List (Int×Bool))(A:Int→Bool):Prop where
 nodup:(s.map (·.1)).Nodup
 all:∀ q∈s,q.2=true
 mem:∀ x,ze3 s x=A x
theorem X0.nil:X0 [] (fun _=>false):=⟨.nil,(fun q hq=>by cases hq),fun _=>rfl⟩
theorem X0.put {s:List (Int×Bool)}{A:Int→Bool}(h:X0 s A)(a:Int):X0 (Yp s a true) (fun x=>decide (a=x)||A x) where
 nodup:=Wi a true h.nodup
 all:=by
  have key:∀ (s:List (Int×Bool)),(∀ q∈s,q.2=true)→∀ q∈Yp s a true,q.2=true:=by
   intro s
   induction s with
   | nil=>intro _ q hq;simp [Yp] at hq;rw [hq]
   | cons p s ih=>
    intro h q hq
    unfold Yp at hq
    split at hq
    ·
     rcases List.mem_cons.1 hq with rfl | hq
     ·
      rfl
     ·
      exact h q (List.mem_cons_of_mem _ hq)
    ·
     rcases List.mem_cons.1 hq with rfl | hq
     ·
      exact h _ (List.mem_cons_self ..)
     ·
      exact ih (fun q hq=>h q (List.mem_cons_of_mem _ hq)) q hq
  exact key s h.all
 mem:=fun x=>by rw [Xd,h.mem]
theorem X0.congr {s:List (Int×Bool)}{A B:Int→Bool}(h:X0 s A)(e:∀ x,A x=B x):X0 s B:=⟨h.nodup,h.all,fun x=>by rw [h.mem,e]⟩
theorem X0.key {s:List (Int×Bool)}{A:Int→Bool}(h:X0 s A){x:Int}:A x=true↔x∈s.map (·.1):=by
 rw [←h.mem]
 unfold ze3
 constructor
 ·
  intro h1
  cases hg:Zs s x with
  | none=>rw [hg] at h1;cases h1
  | some b=>exact List.mem_map.2 ⟨_,KR hg,rfl⟩
 ·
  intro h1
  obtain ⟨q,hq,rfl⟩:=List.mem_map.1 h1
  rw [X7 h.nodup hq,h.all q hq];rfl
def OnS (I:Qu)(ref:Nat)(A:Int→Bool):Prop:=∃ s:List (Int×Bool),I ref=some (ZM (Value.int .i64) Value.bool s)∧X0 s A
theorem OnS.mono {I I':Qu}{ref:Nat}{A:Int→Bool}(h:OnS I ref A)(hI:HLe I I'):OnS I' ref A:=by
 obtain ⟨s,h1,h2⟩:=h
 exact ⟨s,hI _ _ h1,h2⟩
def OnL (I:Qu)(m:List (Int×Nat))(ps:List Pt):Prop:=m.map (·.1)=ps.map (·.id)∧∀ q∈m,OnS I q.2 (onF ps q.1)
theorem OnL.mono {I I':Qu}{m:List (Int×Nat)}{ps:List Pt}(h:OnL I m ps)(hI:HLe I I'):OnL I' m ps:=⟨h.1,fun q hq=>(h.2 q hq).mono hI⟩
theorem OnL.nil {I:Qu}{ps:List Pt}:OnL I [] (ps.take 0):=⟨by simp,fun q hq=>by cases hq⟩
def OnM (I:Qu)(r:Nat)(ps:List Pt):Prop:=∃ m:List (Int×Nat),I r=some (ZM (Value.int .i64) zbY m)∧OnL I m ps
theorem OnM.mono {I I':Qu}{r:Nat}{ps:List Pt}(h:OnM I r ps)(hI:HLe I I'):OnM I' r ps:=by
 obtain ⟨m,h1,h2⟩:=h
 exact ⟨m,hI _ _ h1,h2.mono hI⟩
theorem OnL.get {I:Qu}{m:List (Int×Nat)}{ps:List Pt}(h:OnL I m ps){a:Int}(ha:∃ q∈ps,q.id=a):∃ ref,Zs m a=some ref∧OnS I ref (onF ps a):=by
 cases hg:Zs m a with
 | none=>
  have:=Jj.1 hg
  rw [h.1] at this
  obtain ⟨q,hq,rfl⟩:=ha
  exact absurd (List.mem_map.2 ⟨q,hq,rfl⟩) this
 | some ref=>exact ⟨ref,rfl,h.2 _ (KR hg)⟩
theorem Lst.before {ps:List Pt}(h:Lst ps){k:Nat}{p:Pt}(hk:ps[k]? =some p){n:Int}(hn:n∈p.needs):∃ q∈ps.take k,q.id=n:=by
 obtain ⟨h1,q,hq,rfl⟩:=h.has p (List.mem_of_getElem? hk) n hn
 obtain ⟨j,hj⟩:=List.getElem?_of_mem hq
 obtain ⟨hj1,hj2⟩:=List.getElem?_eq_some_iff.1 hj
 obtain ⟨hk1,hk2⟩:=List.getElem?_eq_some_iff.1 hk
 have hjk:j<k:=by
  rcases Nat.lt_or_ge j k with h3 | h3
  ·
   exact h3
  ·
   exfalso
   by_cases e:k=j
   ·
    subst e;rw [hk] at hj;cases hj;omega
   ·
    have:=List.pairwise_iff_getElem.1 h.inc k j hk1 hj1 (by omega)
    rw [hj2,hk2] at this;omega
 refine ⟨q,?_,rfl⟩
 rw [List.mem_take_iff_getElem]
 exact ⟨j,by omega,hj2⟩
theorem Lst.fresh {ps:List Pt}(h:Lst ps){k:Nat}{p:Pt}(hk:ps[k]? =some p):∀ q∈ps.take k,q.id<p.id:=fun q hq=>by
 obtain ⟨j,hj,rfl⟩:=List.mem_take_iff_getElem.1 hq
 obtain ⟨hk1,hk2⟩:=List.getElem?_eq_some_iff.1 hk
 have:=List.pairwise_iff_getElem.1 h.inc j k (by omega) hk1 (by omega)
 rw [hk2] at this;exact this
theorem OnL.step {I:Qu}{m:List (Int×Nat)}{ps:List Pt}{k ref:Nat}{p:Pt}{s:List (Int×Bool)}(hL:Lst ps)(hk:ps[k]? =some p)(hm:OnL I m (ps.take k))(hb:I ref=some (ZM (Value.int .i64) Value.bool s))
  (hs:X0 s (fun x=>p.needs.any fun n=>n==x||onF (ps.take k) n x)):OnL I (Yp m p.id ref) (ps.take (k+1)):=by
 have hfr:=hL.fresh hk
 have hnew:p.id∉m.map (·.1):=by
  rw [hm.1]
  intro h
  obtain ⟨q,hq,e⟩:=List.mem_map.1 h
  have:=hfr q hq;omega
 have hmi:Yp m p.id ref=m++[(p.id,ref)]:=by
  refine Uv m p.id ref 0 ?_
  have:=Jj.2 hnew
  rw [←Jh m p.id 0] at this
  simpa using this
 rw [Z0 hk]
 refine ⟨by rw [KE,if_neg hnew,hm.1];simp,fun q hq=>?_⟩
 rw [hmi] at hq
 rcases List.mem_append.1 hq with hq | hq
 ·
  obtain ⟨s',h1,h2⟩:=hm.2 q hq
  refine ⟨s',h1,h2.congr fun x=>?_⟩
  have hne:q.1≠p.id:=fun e=>hnew (by rw [←e];exact List.mem_map.2 ⟨q,hq,rfl⟩)
  rw [zeH (fun z hz=>by simp at hz;subst hz;exact fun e=>hne e.symm)]
 ·
  simp at hq;subst hq
  refine ⟨s,hb,hs.congr fun x=>?_⟩
  exact (zcj (fun z hz=>by cases hz)).symm
def zl6 (sn:List (Int×Bool))(seen:List Nat)(x:Int):Bool:=seen.any fun i=>(sn[i]?.map (·.1))==some x
theorem zbh (sn:List (Int×Bool))(x:Int):zl6 sn [] x=false:=rfl
theorem Xn {sn:List (Int×Bool)}{seen:List Nat}{i:Nat}{p:Int×Bool}(hp:sn[i]? =some p)(x:Int):zl6 sn (seen++[i]) x=(decide (p.1=x)||zl6 sn seen x):=by
 unfold zl6
 rw [List.any_append,Bool.eq_iff_iff]
 simp [hp,or_comm]
theorem zaO {sn:List (Int×Bool)}{A:Int→Bool}(h:X0 sn A){seen:List Nat}(hall:∀ i p,sn[i]? =some p→i∈seen)(x:Int):zl6 sn seen x=A x:=by
 rw [Bool.eq_iff_iff,h.key]
 unfold zl6
 rw [List.any_eq_true]
 constructor
 ·
  rintro ⟨i,_,hi⟩
  cases hx:sn[i]? with
  | none=>rw [hx] at hi;simp at hi
  | some p=>rw [hx] at hi;simp at hi;exact List.mem_map.2 ⟨p,List.mem_of_getElem? hx,hi⟩
 ·
  intro hx
  obtain ⟨p,hp,rfl⟩:=List.mem_map.1 hx
  obtain ⟨i,hi⟩:=List.getElem?_of_mem hp
  exact ⟨i,hall i p hi,by rw [hi];simp⟩
end
section
open Go Go.Kn Go.Proofs
theorem za9 {I:Qu}{av:Option Addr}{n c:Nat}{ps:List Pt}(hP:SlP I av n c ps)(hn:n≤100000)(hL:Lst ps)(hnd:∀ p∈ps,p.n≤100000):Yb Tryz.prog 89 [.slice av n c] I [] (fun v I' L=>L=[]∧∃ r,v= .map (some r)∧OnM I' r ps):=by
 intro g H w hw
 refine qe Tryz.func89 Tryz.ntmps89 hw ?_
 have hIc:=zxQ I
 refine zR (zA ?_)
 refine zN (zR ?_)
 refine ZH rfl rfl (fun r_10=>?_)
 refine zA (zN (Ql (zR ?_)))
 refine zM ?_
 refine zQ ZC ?_
 refine zM (zN (Qm ?_))
 refine zU [(3,_),(11,_),(12,_)] (fun T L0 mz E I' loc'=>∃ (k:Nat) (m:List (Int×Nat)),mz=n-k∧E=(13,.int .i64 k)::T∧HLe I I'∧[(r_10,ZM (Value.int .i64) zbY m)]=loc'∧k≤n∧OnL I' m (ps.take k)) ?_ (h:=⟨0,[],rfl,rfl,zxQ _,rfl,Nat.zero_le _,OnL.nil⟩)
 rintro mz E J1 loc' ⟨k,m,rfl,rfl,hJ,rfl,hk,hm⟩
 have hP:=hP.mono hJ;have hIc:=hIc.trans hJ
 have hB0:=hJ
 refine zR (zC (zN (Ql ?_)))
 refine zI ?_ ?_<;>intro hc14
 ·
  have hlt_k:k<n:=by have h:=hc14;simp at h;omega
  have hP1:=hP.1
  obtain ⟨p,hp,hN⟩:=hP.at hlt_k
  have hpm:=List.mem_of_getElem? hp
  have hN:Sl J1 1 QQ p.a p.n p.c p.needs:=hN
  have hpn:=hnd p hpm
  refine Qo (Qa (Ql (Qm (zR ?_))))
  refine zV (QG rfl rfl ZC (by assumption) (fun hg=>by omega)) ?_
  refine zV (Qp rfl Yw (fun hg=>by exact zxR hP.1 hp) rfl) ?_
  refine Qs Ui rfl rfl (fun b_5=>?_)
  refine zh V8 ?_
  refine zN (zR ?_)
  refine ZH rfl rfl (fun r_17=>?_)
  refine zA (zN (Ql (zR ?_)))
  refine zF KP ?_
  refine zL QK ?_
  refine zQ Qw ?_
  refine zM (zN (Qm ?_))
  refine zU [(3,_),(5,_),(6,_),(11,_),(12,_),(13,_),(19,_),(20,_)] (fun T L0 mz E I' loc'=>∃ (j:Nat) (s:List (Int×Bool)),mz=p.n-j∧E=(21,.int .i64 j)::T∧J1=I'∧[(r_17,ZM (Value.int .i64) Value.bool s),(b_5,.cells (Yt p).toArray 57 (0,0)),(r_10,ZM (Value.int .i64) zbY m)]=loc'∧j≤p.n∧X0 s (fun x=>(p.needs.take j).any fun n=>n==x||onF (ps.take k) n x)) ?_ (h:=⟨0,[],rfl,rfl,rfl,rfl,Nat.zero_le _,X0.nil⟩)
  rintro mz E I' loc' ⟨j,s,rfl,rfl,rfl,rfl,hj,hs⟩
  refine zR (zC (zN (Ql ?_)))
  refine zI ?_ ?_<;>intro hc22
  ·
   have hlt_j:j<p.n:=by have h:=hc22;simp at h;omega
   obtain ⟨y,hy⟩:=hN.at hlt_j
   obtain ⟨ref,hget,sn,hsn,hsq⟩:=hm.get (hL.before hp (List.mem_of_getElem? hy))
   refine Qo (Qa (Ql (Qm (zR ?_))))
   refine zV (QG rfl rfl Qw (by assumption) (fun hg=>by omega)) ?_
   refine zV (Qd rfl Qr (fun hg=>by exact zxJ hN hy rfl)) ?_
   refine zA ?_
   refine zN (zR ?_)
   refine zM ?_
   refine zM ?_
   refine Q6 (m:=s) (ek:=Value.int .i64) (ev:=Value.bool) (a:=y) true Vq ZD rfl rfl rfl rfl (by repeat (first | exact Upd.here | apply Upd.there | apply QJ)) ?_
   refine zN (zR ?_)
   refine zM ?_
   refine zM ?_
   refine zV (YC (m:=m) (ek:=Value.int .i64) (ev:=zbY) (a:=y) hget Kq ZD rfl rfl (fun _=>.inr (by simp))) ?_
   refine Jp (ek:=Value.int .i64) (ev:=Value.bool) (m:=sn) rfl Vq rfl rfl (.inl hsn) (fun b_30=>?_)
   refine zN (Qm ?_)
   refine zU [(3,_),(5,_),(6,_),(11,_),(12,_),(13,_),(19,_),(20,_),(21,_),(30,_)] (fun T L0 mz E I' loc'=>∃ (seen:List Nat) (s:List (Int×Bool)),mz=sn.length-seen.length∧E=T∧J1=I'∧[(b_30,YL ref sn.length seen),(r_17,ZM (Value.int .i64) Value.bool s),(b_5,.cells (Yt p).toArray 57 (0,0)),(r_10,ZM (Value.int .i64) zbY m)]=loc'∧X0 s (fun x=>zl6 sn seen x||(decide (y=x)||(p.needs.take j).any fun n=>n==x||onF (ps.take k) n x))∧seen.Nodup∧∀ i∈seen,i<sn.length) ?_ (h:=⟨[],_,rfl,rfl,rfl,rfl,(hs.put y).congr (fun x=>by rw [zbh,Bool.false_or]),.nil,fun i h=>by cases h⟩)
   rintro mz E I' loc' ⟨seen,s,rfl,rfl,rfl,rfl,hs,hnd2,hlt⟩
   have hsl:=Jb hnd2 hlt
   refine zR ?_
   refine Jt (ek:=Value.int .i64) (ev:=Value.bool) (m:=sn) (fun s'=>[(b_30,YL ref sn.length s'),(r_17,ZM (Value.int .i64) Value.bool s),(b_5,.cells (Yt p).toArray 57 (0,0)),(r_10,ZM (Value.int .i64) zbY m)]) rfl (fun s'=>.here) rfl rfl rfl rfl rfl (.inl hsn) (by simp) ?_
   intro t tv s' hno hyes
   refine zN (Ql ?_)
   refine zI ?_ ?_<;>intro hc32
   ·
    obtain ⟨i,q,hq,hns,rfl⟩:=hyes hc32
    refine Qo (Qa (Qm (zR ?_)))
    refine zV (Jv (ek:=Value.int .i64) (ev:=Value.bool) (m:=sn) (p:=q) (seen:=seen) (i:=i) rfl (.inl hsn) (.inr (by simp)) hq) ?_
    refine zE ?_
    refine zA (zN (Qg ?_))
    refine zM ?_
    refine zM ?_
    refine Q6 (m:=s) (ek:=Value.int .i64) (ev:=Value.bool) (a:=q.1) true Vq ZD rfl rfl rfl rfl (by repeat (first | exact Upd.here | apply Upd.there | apply QJ)) ?_
    refine Qb (Qh ?_)
    have hnd3:(seen++[i]).Nodup:=List.nodup_append.2 ⟨hnd2,by simp,fun a ha b hb e=>hns (by simp at hb;subst hb;subst e;exact ha)⟩
    have hlt3:∀ j∈seen++[i],j<sn.length:=fun j hj=>(List.mem_append.1 hj).elim (hlt j) (fun h=>by simp at h;subst h;exact (List.getElem?_eq_some_iff.1 hq).1)
    have hsl2:=Jb hnd3 hlt3
    rw [List.length_append,List.length_singleton] at hsl2
    exact zm (h:=⟨sn.length-(seen++[i]).length,by rw [List.length_append,List.length_singleton];omega,seen++[i],_,rfl,rfl,rfl,rfl,(hs.put q.1).congr (fun x=>by rw [Xn hq,Bool.or_assoc]),hnd3,hlt3⟩)
   obtain ⟨rfl,hall⟩:=hno hc32
   refine QI (Qf (Qf (Qk (Qh (Qa (Qg (zB ?_)))))))
   refine zM (Qb ?_)
   exact zm (h:=⟨p.n-(j+1),by omega,j+1,_,rfl,rfl,rfl,rfl,by omega,hs.congr (fun x=>by rw [Xb hy,zaO hsq hall x];rw [Bool.eq_iff_iff];simp;grind)⟩)
  have hge_j:p.n≤j:=by have h:=hc22;simp at h;omega
  refine QI (Qf (Qf (Qk (Qa ?_))))
  refine Zg .here (fun I4 hI4 hb4=>?_)
  have hm:=hm.mono hI4;have hB0:=hB0.trans hI4
  have hbx:=hb4
  refine Qg (zM ?_)
  refine zF Zy ?_
  refine zL Qr ?_
  refine zM ?_
  refine Q6 (m:=m) (ek:=Value.int .i64) (ev:=zbY) (a:=p.id) r_17 Kq ZD rfl rfl rfl rfl (by repeat (first | exact Upd.here | apply Upd.there | apply QJ)) ?_
  refine Qb (Qh (Qa (Qg (zB ?_))))
  refine zM (Qb ?_)
  exact zm (h:=⟨n-(k+1),by omega,k+1,_,rfl,rfl,hB0,rfl,by omega,OnL.step hL hp hm hbx (by rw [ZE hN.len hge_j] at hs;exact hs)⟩)
 have hge_k:n≤k:=by have h:=hc14;simp at h;omega
 rw [ZE hP.len hge_k] at hm
 refine QI (Qf (Qf (Qk (Qa (zR (zM ?_))))))
 refine zA (zN (Qt ?_))
 exact Zt rfl rfl (fun w hw=>by obtain ⟨I9,h91,h92,h93⟩:=hw.freezeAll;exact ⟨_,I9,[],rfl,hIc.trans h91,h92,rfl,r_10,rfl,m,h93 _ _ (by simp),hm.mono h91⟩)
end
section
open Go Go.Kn Go.Proofs
theorem zoL (x:Sg):(Wm [x]==0)=frm x:=by
 unfold Wm skB skP
 cases h:frm x<;>simp [h]
theorem zeV (a b c d x y:Bool):(((((a&&b)&&c)&&d)&&x)&&y)=(((a&&b)&&(c&&d))&&(x&&y)):=by simp only [Bool.and_assoc]
theorem zmT (a b c d x y z:Bool):((((((a&&b)&&c)&&d)&&x)&&y)&&z)=(((a&&b)&&(c&&d))&&(x&&(y&&z))):=by simp only [Bool.and_assoc]
theorem zmQ (I:Qu)(x:Sg):Zx Tryz.prog 147 [JQ x] I (.bool (frm x)):=by
 intro g H w hw
 refine qe Tryz.func147 Tryz.ntmps147 hw ?_
 have hIc:=zxQ I
 refine zR ?_
 refine Q5 rfl rfl rfl (fun b_1=>?_)
 refine zA ?_
 refine zN (zR ?_)
 refine zV (Qp rfl ZL (fun hg=>by exact Cells.g0) rfl) ?_
 refine Qq (ps:=[(0,_)]) (m:=[Vc x]) K6 rfl (.cons rfl (.nil)) rfl (by simp [Z1]) (by decide) (by decide) rfl rfl (fun b_4=>?_)
 refine ZU .here (fun I1 hI1 hb1=>?_)
 have hIc:=hIc.trans hI1
 have hS:=Sl.lit [x] rfl Z1 (show _=some (Obj.cells (([x]:List Sg).flatMap Vc).toArray 54 (0,0)) from hb1)
 refine qc (vs:=[_]) rfl zc6 (zfo hS (by decide)) ?_
 refine zC ?_
 refine zA (zN (Qt ?_))
 exact zp hIc rfl rfl (by rw [zoL])
theorem zrA {I:Qu}(p:Pt)(hN:Nd I p):Zx Tryz.prog 86 [Wq p] I (.int .i64 (JK p)):=by
 intro g H w hw
 refine qe Tryz.func86 Tryz.ntmps86 hw ?_
 have hN:Sl I 1 QQ p.a p.n p.c p.needs:=hN
 refine zR ?_
 refine Q5 rfl rfl rfl (fun b_1=>?_)
 refine zA (zN (Ql (zR ?_)))
 refine zF KP ?_
 refine zL QK ?_
 refine zQ Qw ?_
 refine zC (zN ?_)
 refine zI ?_ ?_<;>intro hc11
 ·
  have hlen:p.needs.length>32:=by rw [hN.len];simp at hc11;omega
  refine zR (zA (zN (Qt (Qc ?_))))
  exact zr rfl rfl (by rw [zuJ hlen])
 have hlen:¬p.needs.length>32:=by rw [hN.len];simp at hc11;omega
 have hpn:p.n≤100000:=by have:=hN.len;omega
 refine Qo (Qa (zR (zA (zN (Ql (zR ?_))))))
 refine zF KP ?_
 refine zL QK ?_
 refine zQ Qw ?_
 refine zM (zN (Qm ?_))
 refine zU [(1,_),(13,_),(14,_)] (fun T L0 mz E I' loc'=>∃ (k:Nat) (l:Int),mz=p.n-k∧E=(3,.int .i64 l)::(15,.int .i64 k)::T∧I=I'∧L0=loc'∧k≤p.n∧(List.range k).all (ndP p.id p.needs)=true∧zfH p.needs k l) ?_ (h:=⟨0,0,rfl,rfl,rfl,rfl,Nat.zero_le _,rfl,⟨fun _=>rfl,fun y hy h=>absurd rfl h⟩⟩)
 rintro mz E I' loc' ⟨k,l,rfl,rfl,rfl,rfl,hk,hall,hl⟩
 refine zR (zC (zN (Ql ?_)))
 refine zI ?_ ?_<;>intro hc16
 ·
  have hlt_k:k<p.n:=by have h:=hc16;simp at h;omega
  obtain ⟨x,hx⟩:=hN.at hlt_k
  refine Qo (Qa (Ql (Qm (zR ?_))))
  refine zV (QG rfl rfl Qw (by assumption) (fun hg=>by omega)) ?_
  refine zV (Qd rfl Qr (fun hg=>by exact zxJ hN hx rfl)) ?_
  refine zA (zN (Ql (zR ?_)))
  refine zM ?_
  refine zM ?_
  refine zC ?_
  refine zM ?_
  refine Q2 3 rfl rfl rfl ?_
  refine zJ (Qi rfl) ?_
  refine zJ (Qe rfl Zy) ?_
  refine zJ (Qd rfl Qr (fun hg=>by exact QS.h0 rfl)) ?_
  refine zJ (QH rfl rfl rfl) ?_
  refine Zz rfl rfl rfl rfl rfl ?_
  refine zN ?_
  refine zI ?_ ?_<;>intro hc27
  ·
   have hnd:ndB p.id p.needs=false:=by unfold ndB;exact JG (k:=k) (by rw [hN.len];exact hlt_k) (by rw [ztf hall hl hx,hc27];rfl)
   refine zR (zA (zN (Qt (Qc (Qn (Qc (Qc ?_)))))))
   refine Qn (Qc ?_)
   exact zr rfl rfl (by rw [zs4 hlen hnd])
  refine Qo (Qa (Qg (zM ?_)))
  refine zA (Qb (Qh (Qa (Qg ?_))))
  refine zB ?_
  refine zM (Qb ?_)
  exact zm (h:=⟨p.n-(k+1),by omega,k+1,_,rfl,rfl,rfl,rfl,by omega,V6 hall (by rw [ztf hall hl hx,hc27];rfl),zaq hx⟩)
 have hge_k:p.n≤k:=by have h:=hc16;simp at h;omega
 have hnd:ndB p.id p.needs=true:=by unfold ndB;rw [hN.len,show p.n=k by omega];exact hall
 refine QI (Qf (Qf (Qk (Qa (zR ?_)))))
 refine zF Zy ?_
 refine zL Qr ?_
 refine zC ?_
 refine zM ?_
 refine QE 3 rfl rfl rfl ?_
 refine zK (Qe rfl Zy) ?_
 refine zK (Qd rfl Qr (fun hg=>by exact QS.h0 rfl)) ?_
 refine zK (QH rfl rfl rfl) ?_
 refine QO rfl rfl rfl rfl rfl ?_
 refine zM ?_
 refine QE 8 rfl rfl rfl ?_
 refine zK (Qe rfl Ya) ?_
 refine zK (Qd rfl Qr (fun hg=>by exact QS.h0 rfl)) ?_
 refine zK (QH rfl rfl rfl) ?_
 refine QO rfl rfl rfl rfl rfl ?_
 refine zM ?_
 refine QE 13 rfl rfl rfl ?_
 refine zK (Qe rfl Ya) ?_
 refine zK (Qd rfl Qr (fun hg=>by exact QS.h0 rfl)) ?_
 refine zK (QH rfl rfl rfl) ?_
 refine QO rfl rfl rfl rfl rfl ?_
 refine zA (zN (Ql (zR ?_)))
 refine zF KY ?_
 refine zL Qr ?_
 refine zN (Qm (zR (zC ?_)))
 refine zA (zN ?_)
 refine zI ?_ ?_<;>intro hc50
 ·
  have hk:p.kind=1:=by simpa using hc50
  refine Ql (zR ?_)
  refine zF Js ?_
  refine zL Qr ?_
  refine zC ?_
  refine zM ?_
  refine Q2 3 rfl rfl rfl ?_
  refine zJ (Qe rfl Js) ?_
  refine zJ (Qd rfl Qr (fun hg=>by exact QS.h0 rfl)) ?_
  refine zJ (QH rfl rfl rfl) ?_
  refine Zz rfl rfl rfl rfl rfl ?_
  refine zN ?_
  refine zI ?_ ?_<;>intro hc59
  ·
   have hb:(idB p&&Uo p)=false:=ztZ hk (by unfold YJ;simp at hc59 ⊢;omega)
   refine zR (zA (zN (Qt (Qc (Qn (Qc ?_))))))
   exact zr rfl rfl (by rw [zcx hlen hnd hb])
  have hf:isF p.field:=by have h:=hc59;unfold isF;simp at h;omega
  have hw1:YJ p.field 1 9=true:=by have h:=hc59;unfold YJ;simp at h ⊢;omega
  refine Qo (Qa (zR ?_))
  refine zV (QR (ps:=[(1,_)]) [_,_] ze1 rfl rfl) ?_
  refine zV (QR (ps:=[(0,_),(1,_)]) [_,_] ze1 rfl rfl) ?_
  refine zV (QR (ps:=[(3,_),(4,_),(10,_),(11,_)]) [_,_,_,_,_,_,_,_,_,_,_,_,_,_] UZ rfl rfl) ?_
  refine Qs XV rfl rfl (fun b_7=>?_)
  refine zh VK ?_
  refine zN (Qg (zM ?_))
  refine zM ?_
  refine QE 1 rfl rfl rfl ?_
  refine zK (Qe rfl VP) ?_
  refine zK (Qp rfl ZL (fun hg=>by exact Cells.s1 (vs:=[_,_,_,_,_,_,_,_,_,_,_,_,_,_]) rfl) rfl) ?_
  refine zK (Qe rfl Js) ?_
  refine zK (Qd rfl Qr (fun hg=>by exact QS.h1 rfl)) ?_
  refine zK (QR (ps:=[]) [_,_,_,_,_,_,_,_,_,_,_,_,_,_] UZ rfl rfl) ?_
  refine qg (vs:=[_,_,_]) rfl zjt (fun hg=>zuC I p.nw p.field Y6 hf) ?_
  refine zK (QR (ps:=[]) [_,_,_,_,_,_,_,_,_,_,_,_,_,_] UZ rfl rfl) ?_
  refine zK (zdo rfl rfl XR rfl) ?_
  refine QO rfl rfl rfl rfl rfl ?_
  refine zM ?_
  refine QE 11 rfl rfl rfl ?_
  refine zK (Qp rfl ZL (fun hg=>by exact Cells.g0) rfl) ?_
  refine zK (Qe rfl Js) ?_
  refine zK (Qd rfl Qr (fun hg=>by exact QS.h1 rfl)) ?_
  refine zK (Qe rfl VP) ?_
  refine zK (Qp rfl ZL (fun hg=>by exact Cells.s1 (vs:=[_,_,_,_,_,_,_,_,_,_,_,_,_,_]) rfl) rfl) ?_
  refine qg (vs:=[_,_,_]) rfl zjt (fun hg=>zuC I zfk p.field p.nw hf) ?_
  refine qg (vs:=[_]) rfl zh0 (fun hg=>zmQ I _) ?_
  refine QO rfl rfl rfl rfl rfl ?_
  refine zA (Qb (Qh (Qa (Ql (zR ?_)))))
  refine zM ?_
  refine zO (zN ?_)
  refine zI ?_ ?_<;>intro hc119
  ·
   have hb:(idB p&&Uo p)=false:=by (exact (show (idB p&&Uo p)=false from by rw [zrG hk hw1];exact (zeV _ _ _ _ _ _).symm.trans ((Bool.not_eq_true' _).mp hc119)))
   refine zR (zA (zN (Qt (Qc ?_))))
   exact zr rfl rfl (by rw [zcx hlen hnd hb])
  have hb:(idB p&&Uo p)=true:=by (exact (show (idB p&&Uo p)=true from by rw [zrG hk hw1];exact (zeV _ _ _ _ _ _).symm.trans ((Bool.not_eq_false' _).mp hc119)))
  refine Qo (Qa (zR (zA (zN (Qt ?_)))))
  exact zr rfl rfl (by rw [zeR hlen hnd hb])
 have hk1:p.kind≠1:=by simpa using hc50
 refine zR (zC ?_)
 refine zA (zN ?_)
 refine zI ?_ ?_<;>intro hc83
 ·
  have hk:p.kind=2:=by simpa using hc83
  refine Qg (zM ?_)
  refine zM ?_
  refine QE 1 rfl rfl rfl ?_
  refine zK (Qe rfl Js) ?_
  refine zK (Qd rfl Qr (fun hg=>by exact QS.h0 rfl)) ?_
  refine zK (QH rfl rfl rfl) ?_
  refine QO rfl rfl rfl rfl rfl ?_
  refine zM ?_
  refine QE 6 rfl rfl rfl ?_
  refine zK (Qe rfl VP) ?_
  refine zK (Qe rfl Z3) ?_
  refine zK (Qd rfl Qr (fun hg=>by exact QS.h0 rfl)) ?_
  refine zK (Qe rfl Ya) ?_
  refine zK (Qd rfl Qr (fun hg=>by exact QS.h0 rfl)) ?_
  refine zK (QH rfl rfl rfl) ?_
  refine QO rfl rfl rfl rfl rfl ?_
  refine zM ?_
  refine QE 14 rfl rfl rfl ?_
  refine zK (Qe rfl VP) ?_
  refine zK (Qp rfl ZL (fun hg=>by exact Cells.s0 (vs:=[_,_,_,_,_,_,_,_,_,_,_,_,_,_]) rfl) rfl) ?_
  refine qg (vs:=[_]) rfl zh0 (fun hg=>zmQ I _) ?_
  refine QO rfl rfl rfl rfl rfl ?_
  refine zA (Qb (Qh (Qa (Ql (zR ?_)))))
  refine zM ?_
  refine zO (zN ?_)
  refine zI ?_ ?_<;>intro hc119
  ·
   have hb:(idB p&&Uo p)=false:=by (exact (show (idB p&&Uo p)=false from by rw [zvc hk];exact (zmT _ _ _ _ _ _ _).symm.trans ((Bool.not_eq_true' _).mp hc119)))
   refine zR (zA (zN (Qt (Qc ?_))))
   exact zr rfl rfl (by rw [zcx hlen hnd hb])
  have hb:(idB p&&Uo p)=true:=by (exact (show (idB p&&Uo p)=true from by rw [zvc hk];exact (zmT _ _ _ _ _ _ _).symm.trans ((Bool.not_eq_false' _).mp hc119)))
  refine Qo (Qa (zR (zA (zN (Qt ?_)))))
  exact zr rfl rfl (by rw [zeR hlen hnd hb])
 have hk2:p.kind≠2:=by simpa using hc83
 refine zR (zC ?_)
 refine zA (zN ?_)
 refine zI ?_ ?_<;>intro hc104
 ·
  have hk:p.kind=3:=by simpa using hc104
  refine Qg (zM ?_)
  refine zM ?_
  refine QE 1 rfl rfl rfl ?_
  refine zK (Qe rfl Js) ?_
  refine zK (Qd rfl Qr (fun hg=>by exact QS.h0 rfl)) ?_
  refine zK (QH rfl rfl rfl) ?_
  refine QO rfl rfl rfl rfl rfl ?_
  refine zM ?_
  refine QE 6 rfl rfl rfl ?_
  refine zK (Qe rfl VP) ?_
  refine zK (Qp rfl ZL (fun hg=>by exact Cells.s0 (vs:=[_,_,_,_,_,_,_,_,_,_,_,_,_,_]) rfl) rfl) ?_
  refine zK (QR (ps:=[]) [_,_,_,_,_,_,_,_,_,_,_,_,_,_] UZ rfl rfl) ?_
  refine zK (zdo rfl rfl XR rfl) ?_
  refine QO rfl rfl rfl rfl rfl ?_
  refine zA (Qb (Qh (Qa (Ql (zR ?_)))))
  refine zM ?_
  refine zO (zN ?_)
  refine zI ?_ ?_<;>intro hc119
  ·
   have hb:(idB p&&Uo p)=false:=by (exact (show (idB p&&Uo p)=false from by rw [zt1 hk];exact (zeV _ _ _ _ _ _).symm.trans ((Bool.not_eq_true' _).mp hc119)))
   refine zR (zA (zN (Qt (Qc ?_))))
   exact zr rfl rfl (by rw [zcx hlen hnd hb])
  have hb:(idB p&&Uo p)=true:=by (exact (show (idB p&&Uo p)=true from by rw [zt1 hk];exact (zeV _ _ _ _ _ _).symm.trans ((Bool.not_eq_false' _).mp hc119)))
  refine Qo (Qa (zR (zA (zN (Qt ?_)))))
  exact zr rfl rfl (by rw [zeR hlen hnd hb])
 have hk3:p.kind≠3:=by simpa using hc104
 refine Qg (zA (Qb (Qh (Qa (Ql (zR ?_))))))
 refine zM ?_
 refine zO (zN ?_)
 refine zI ?_ ?_<;>intro hc119
 ·
  have hb:(idB p&&Uo p)=false:=by exact zvQ hk1 hk2 hk3
  refine zR (zA (zN (Qt (Qc ?_))))
  exact zr rfl rfl (by rw [zcx hlen hnd hb])
 have hb:(idB p&&Uo p)=true:=by (exfalso;have h:=hc119;simp at h)
 refine Qo (Qa (zR (zA (zN (Qt ?_)))))
 exact zr rfl rfl (by rw [zeR hlen hnd hb])
theorem zvz {I:Qu}{av:Option Addr}{n c:Nat}{xs:List Int}(hS:Sl I 1 QQ av n c xs)(hn:n≤100000){fid:Nat}{cap:List Value}{P:Int→Bool}(hF:Fun Tryz.prog fid)(hf:∀ x∈xs,Zx Tryz.prog fid ([.int .i64 x]++cap) I (.bool (P x))):Zx Tryz.prog 148 [.slice av n c,.func (.func fid) #[] cap.toArray] I (.int .i64 (K3 P xs)):=by
 intro g H w hw
 refine qe Tryz.func148 Tryz.ntmps148 hw ?_
 have hS:=hS
 refine zR (zA (zN (Ql (zR ?_))))
 refine zM ?_
 refine zQ Qw ?_
 refine zM (zN (Qm ?_))
 refine zU [(0,_),(1,_),(7,_)] (fun T L0 mz E I' loc'=>∃ (k:Nat),mz=n-k∧E=(8,.int .i64 k)::T∧I=I'∧L0=loc'∧k≤n∧(xs.take k).any P=false) ?_ (h:=⟨0,rfl,rfl,rfl,rfl,Nat.zero_le _,rfl⟩)
 rintro mz E I' loc' ⟨k,rfl,rfl,rfl,rfl,hk,hno⟩
 refine zR (zC (zN (Ql ?_)))
 refine zI ?_ ?_<;>intro hc9
 ·
  have hlt_k:k<n:=by have h:=hc9;simp at h;omega
  obtain ⟨x,hx⟩:=hS.at hlt_k
  refine Qo (Qa (Ql (Qm (zR (zM ?_)))))
  refine zA ?_
  refine zN (zR ?_)
  refine zM ?_
  refine zM ?_
  refine zM ?_
  refine zV (QG rfl rfl Qw (by assumption) (fun hg=>by omega)) ?_
  refine zV (Qd rfl Qr (fun hg=>by exact zxJ hS hx rfl)) ?_
  refine YO (cap:=cap) (vs:=[_]) rfl rfl hF (hf x (List.mem_of_getElem? hx)) rfl rfl ?_
  refine zN ?_
  refine zI ?_ ?_<;>intro hc16
  ·
   refine zR (zM ?_)
   refine zA (zN (Qt (Qn (Qc (Qc (Qn (Qc ?_)))))))
   exact zr rfl rfl (by rw [V7 hno hx hc16])
  refine Qo (Qh (Qa (Qg (zB ?_))))
  refine zM (Qb ?_)
  exact zm (h:=⟨n-(k+1),by omega,k+1,rfl,rfl,rfl,rfl,by omega,YW hx hno hc16⟩)
 have hge_k:n≤k:=by have h:=hc9;simp at h;omega
 refine QI (Qf (Qf (Qk (Qa (zR (zA (zN ?_)))))))
 refine Qt ?_
 exact zr rfl rfl (by rw [Vr hS.len hge_k hno])
theorem zr8 {I:Qu}{av:Option Addr}{n c:Nat}{xs:List Int}(hS:Sl I 1 QQ av n c xs)(hn:n≤100000){fid:Nat}{cap:List Value}{P:Int→Bool}(hF:Fun Tryz.prog fid)(hf:∀ x∈xs,Zx Tryz.prog fid ([.int .i64 x]++cap) I (.bool (P x))):Zx Tryz.prog 87 [.slice av n c,.func (.func fid) #[] cap.toArray] I (.bool (xs.any P)):=by
 intro g H w hw
 refine qe Tryz.func87 Tryz.ntmps87 hw ?_
 refine zR (zA ?_)
 refine zN (zR ?_)
 refine zM ?_
 refine zM ?_
 refine qc (vs:=[_,_]) rfl zjH (zvz hS hn hF hf) ?_
 refine zC ?_
 refine zA (zN (Qt ?_))
 exact zr rfl rfl (by rw [←KK])
theorem zr9 {I:Qu}{av:Option Addr}{n c:Nat}{ps:List Pt}(hP:SlP I av n c ps)(hn:n≤100000){fid:Nat}{cap:List Value}{P:Pt→Bool}(hF:Fun Tryz.prog fid)(hf:∀ x∈ps,Zx Tryz.prog fid ([Wq x]++cap) I (.bool (P x))):Zx Tryz.prog 169 [.slice av n c,.func (.func fid) #[] cap.toArray] I (.int .i64 (K3 P ps)):=by
 intro g H w hw
 refine qe Tryz.func169 Tryz.ntmps169 hw ?_
 have hS:=hP.1
 refine zR (zA (zN (Ql (zR ?_))))
 refine zM ?_
 refine zQ ZC ?_
 refine zM (zN (Qm ?_))
 refine zU [(0,_),(1,_),(7,_)] (fun T L0 mz E I' loc'=>∃ (k:Nat),mz=n-k∧E=(8,.int .i64 k)::T∧I=I'∧L0=loc'∧k≤n∧(ps.take k).any P=false) ?_ (h:=⟨0,rfl,rfl,rfl,rfl,Nat.zero_le _,rfl⟩)
 rintro mz E I' loc' ⟨k,rfl,rfl,rfl,rfl,hk,hno⟩
 refine zR (zC (zN (Ql ?_)))
 refine zI ?_ ?_<;>intro hc9
 ·
  have hlt_k:k<n:=by have h:=hc9;simp at h;omega
  obtain ⟨x,hx⟩:=hS.at hlt_k
  refine Qo (Qa (Ql (Qm (zR (zM ?_)))))
  refine zA ?_
  refine zN (zR ?_)
  refine zM ?_
  refine zM ?_
  refine zM ?_
  refine zV (QG rfl rfl ZC (by assumption) (fun hg=>by omega)) ?_
  refine zV (Qp rfl Yw (fun hg=>by exact zxR hS hx) rfl) ?_
  refine YO (cap:=cap) (vs:=[_]) rfl rfl hF (hf x (List.mem_of_getElem? hx)) rfl rfl ?_
  refine zN ?_
  refine zI ?_ ?_<;>intro hc16
  ·
   refine zR (zM ?_)
   refine zA (zN (Qt (Qn (Qc (Qc (Qn (Qc ?_)))))))
   exact zr rfl rfl (by rw [V7 hno hx hc16])
  refine Qo (Qh (Qa (Qg (zB ?_))))
  refine zM (Qb ?_)
  exact zm (h:=⟨n-(k+1),by omega,k+1,rfl,rfl,rfl,rfl,by omega,YW hx hno hc16⟩)
 have hge_k:n≤k:=by have h:=hc9;simp at h;omega
 refine QI (Qf (Qf (Qk (Qa (zR (zA (zN ?_)))))))
 refine Qt ?_
 exact zr rfl rfl (by rw [Vr hS.len hge_k hno])
theorem zuR {I:Qu}{av:Option Addr}{n c:Nat}{ps:List Pt}(hP:SlP I av n c ps)(hn:n≤100000){fid:Nat}{cap:List Value}{P:Pt→Bool}(hF:Fun Tryz.prog fid)(hf:∀ x∈ps,Zx Tryz.prog fid ([Wq x]++cap) I (.bool (P x))):Zx Tryz.prog 116 [.slice av n c,.func (.func fid) #[] cap.toArray] I (.bool (ps.any P)):=by
 intro g H w hw
 refine qe Tryz.func116 Tryz.ntmps116 hw ?_
 refine zR (zA ?_)
 refine zN (zR ?_)
 refine zM ?_
 refine zM ?_
 refine qc (vs:=[_,_]) rfl zdH (zr9 hP hn hF hf) ?_
 refine zC ?_
 refine zA (zN (Qt ?_))
 exact zr rfl rfl (by rw [←KK])
theorem zwb {I:Qu}{b r:Nat}{s:List (Int×Bool)}(hb:I b=some (.cells #[.map (some r)] 167 (0,0)))(hr:I r=some (ZM (Value.int .i64) Value.bool s))(x:Int):Zx Tryz.prog 88 [.int .i64 x,.pointer (some ⟨b,0,none⟩)] I (.bool (!ze3 s x)):=by
 intro g H w hw
 refine qe Tryz.func88 Tryz.ntmps88 hw ?_
 refine zR (zA ?_)
 refine zN (zR ?_)
 refine zV (Qd rfl zio (fun hg=>by exact .imm hb rfl)) ?_
 refine zM ?_
 refine zV (Yg Vq ZD rfl rfl (fun _=>.inl hr)) ?_
 refine zO ?_
 refine zA (zN (Qt ?_))
 exact zr rfl rfl (by rfl)
end
section
open Go Go.Kn Go.Proofs
def zoi (ps:List Pt):List Int:=ps.map (·.id)
def lsQ (ps:List Pt)(i:Nat):Bool:= !((decide ((i:Int)>0)&&decide ((ps.getD i WU).id≤(ps.getD ((i:Int)-1).toNat WU).id))||(ps.getD i WU).needs.any (fun n=> !zal (ps.take i) n))
theorem znT {ps:List Pt}{k:Nat}{p:Pt}{l:Int}{s:List (Int×Bool)}(hp:ps[k]? =some p)(h1:1≤p.id)(hl:zfH (zoi ps) k l)(hs:∀ x,ze3 s x=zal (ps.take k) x):lsQ ps k= !(decide (p.id≤l)||p.needs.any fun x=> !ze3 s x):=by
 unfold lsQ
 rw [QY hp]
 simp only [hs]
 congr 2
 cases k with
 | zero=>
  rw [hl.1 rfl,Bool.eq_iff_iff];simp;omega
 | succ k=>
  have hk:=(List.getElem?_eq_some_iff.1 hp).1
  have hy:ps[k]? =some (ps[k]'(by omega)):=List.getElem?_eq_getElem _
  have e:=hl.2 (ps[k]'(by omega)).id (by rw [Nat.add_sub_cancel];simp [zoi,hy]) (by omega)
  rw [show (((k+1:Nat):Int)-1).toNat=k by omega,QY hy,←e,Bool.eq_iff_iff];simp
theorem zf6 {ps:List Pt}{k:Nat}{p:Pt}(hp:ps[k]? =some p):zfH (zoi ps) (k+1) p.id:=zaq (by simp [zoi,hp])
theorem zlI {ps:List Pt}{k:Nat}{p:Pt}(hp:ps[k]? =some p)(x:Int):zal (ps.take (k+1)) x=(decide (p.id=x)||zal (ps.take k) x):=by
 unfold zal
 rw [Z0 hp,List.any_append,Bool.eq_iff_iff]
 simp [or_comm]
theorem zl9 {ps:List Pt}{k:Nat}{n:Int}(h:zal (ps.take k) n=true):zal ps n=true:=by
 obtain ⟨q,hq,e⟩:=V0.1 h
 exact V0.2 ⟨q,List.mem_of_mem_take hq,e⟩
theorem zjX {ps:List Pt}(h0:orF (ps.map JK)=0):(List.range ps.length).all (lsQ ps)=lsB ps:=by
 rw [Bool.eq_iff_iff]
 constructor
 ·
  intro h
  unfold lsB
  rw [List.all_eq_true] at h ⊢
  intro i hi
  have:=h i hi
  unfold lsQ at this
  unfold lsP
  simp only [Bool.not_eq_true',Bool.or_eq_false_iff] at this ⊢
  refine ⟨this.1,?_⟩
  have h2:=this.2
  rw [List.any_eq_false] at h2 ⊢
  intro n hn hc
  refine h2 n hn ?_
  rw [Bool.not_eq_true'] at hc ⊢
  cases hh:zal (ps.take i) n with
  | false=>rfl
  | true=>rw [zl9 hh] at hc;cases hc
 ·
  intro h
  have hL:=zgZ h0 h
  unfold lsB at h
  rw [List.all_eq_true] at h ⊢
  intro i hi
  have:=h i hi
  unfold lsP at this
  unfold lsQ
  simp only [Bool.not_eq_true',Bool.or_eq_false_iff] at this ⊢
  refine ⟨this.1,?_⟩
  rw [List.any_eq_false]
  intro n hn hc
  have hk:ps[i]? =some (ps.getD i WU):=Zb rfl (List.mem_range.1 hi)
  obtain ⟨q,hq,e⟩:=hL.before hk hn
  rw [V0.2 ⟨q,hq,e⟩] at hc
  cases hc
/-! ### Inserts and removes of a sign -/
def VW (k:Int)(ps:List Pt)(s:Int):List Int:=(ps.filter fun q=>q.kind==k&&q.sign==s).map (·.id)
theorem KS {c:Int}{ps:List Pt}{k:Nat}{p:Pt}(hp:ps[k]? =some p)(s:Int):VW c (ps.take (k+1)) s=VW c (ps.take k) s++(if p.kind=c∧p.sign=s then [p.id] else []):=by
 unfold VW
 rw [Z0 hp,List.filter_append,List.map_append]
 congr 1
 by_cases h:p.kind=c∧p.sign=s
 ·
  rw [if_pos h];simp [h.1,h.2]
 ·
  rw [if_neg h]
  have:(p.kind==c&&p.sign==s)=false:=by
   rw [Bool.eq_false_iff];intro hc;simp at hc;exact h hc
  simp [this]
theorem U3 {c:Int}{ps:List Pt}{s x:Int}:x∈VW c ps s↔ ∃ q∈ps,q.kind=c∧q.sign=s∧q.id=x:=by
 unfold VW
 rw [zd1]
 simp [and_assoc]
def zfL (mi:List (Int×Int))(ps:List Pt):Prop:=∀ s,VW 2 ps s=(Zs mi s).toList
theorem zfL.nil {ps:List Pt}:zfL [] (ps.take 0):=fun s=>by simp [VW,Zs]
theorem zfL.put {mi:List (Int×Int)}{ps:List Pt}{k:Nat}{p:Pt}(h:zfL mi (ps.take k))(hp:ps[k]? =some p)(hk:p.kind=2)(hn:Zs mi p.sign=none):zfL (Yp mi p.sign p.id) (ps.take (k+1)):=fun s=>by
 rw [KS hp,h s,Yx]
 by_cases e:p.sign=s
 ·
  subst e;rw [if_pos ⟨hk,rfl⟩,if_pos rfl,hn];rfl
 ·
  rw [if_neg (fun q=>e q.2),if_neg e,List.append_nil]
theorem zfL.skip {mi:List (Int×Int)}{ps:List Pt}{k:Nat}{p:Pt}(h:zfL mi (ps.take k))(hp:ps[k]? =some p)(hk:p.kind≠2):zfL mi (ps.take (k+1)):=fun s=>by
 rw [KS hp,h s,if_neg (fun q=>hk q.1),List.append_nil]
def WH (mr:List (Int×(Value×Nat×List Value)))(ps:List Pt):Prop:=∀ s,((Zs mr s).getD V3).2.2=(VW 3 ps s).flatMap QQ
theorem WH.nil {ps:List Pt}:WH [] (ps.take 0):=fun s=>by simp [VW,Zs,V3]
theorem WH.put {mr:List (Int×(Value×Nat×List Value))}{ps:List Pt}{k n:Nat}{p:Pt}{v:Value}(h:WH mr (ps.take k))(hp:ps[k]? =some p)(hk:p.kind=3):WH (Yp mr p.sign (v,n,((Zs mr p.sign).getD V3).2.2++[p.id].flatMap QQ)) (ps.take (k+1)):=fun s=>by
 rw [KS hp,Yx]
 by_cases e:p.sign=s
 ·
  subst e;rw [if_pos rfl,if_pos ⟨hk,rfl⟩,List.flatMap_append,←h];rfl
 ·
  rw [if_neg e,if_neg (fun q=>e q.2),List.append_nil,h s]
theorem WH.skip {mr:List (Int×(Value×Nat×List Value))}{ps:List Pt}{k:Nat}{p:Pt}(h:WH mr (ps.take k))(hp:ps[k]? =some p)(hk:p.kind≠3):WH mr (ps.take (k+1)):=fun s=>by
 rw [KS hp,h s,if_neg (fun q=>hk q.1),List.append_nil]
theorem Xq {c:Int}{ps:List Pt}{s:Int}:(VW c ps s).length≤ps.length:=by
 unfold VW
 rw [List.length_map]
 exact List.length_filter_le _ _
theorem znc {I:Qu}{e:Nat}{mr:List (Int×(Value×Nat×List Value))}{ps:List Pt}{L:Go.Kn.Loc}(h:WH mr ps)(hA:Vj e 1 (mr.map (·.2)) L)(hI:∀ b o,(b,o)∈L→I b=some o)(s:Int):
  ∃ av c,((Zs mr s).getD V3).1= .slice av (VW 3 ps s).length c∧Sl I 1 QQ av (VW 3 ps s).length c (VW 3 ps s):=by
 obtain ⟨A,Lt,B,rfl,hO,_⟩:=hA.at s
 rw [h s] at hO
 obtain ⟨av,c,e1,e2⟩:=hO.sl Qv (by decide) (fun b o hb=>hI b o (by simp [hb]))
 have hn:=e2.len
 rw [←hn] at e1 e2
 exact ⟨av,c,e1,e2⟩
theorem zmz {e:Nat}{mr:List (Int×(Value×Nat×List Value))}{ps:List Pt}{s:Int}{L:Go.Kn.Loc}(h:WH mr ps)(hO:OwnS e 1 ((Zs mr s).getD V3).1 ((Zs mr s).getD V3).2.1 ((Zs mr s).getD V3).2.2 L):((Zs mr s).getD V3).2.1≤ps.length:=by
 have h1:=hO.1
 rw [h s,zxo] at h1
 have h2:=Xq (c:=3) (ps:=ps) (s:=s)
 omega
theorem zhG {x y:Nat×Obj}{A L B:Go.Kn.Loc}:(x::y::(A++(L++B))).Perm (L++(x::y::(A++B))):=List.perm_append_comm_assoc (x::y::A) L B
def tgP (ps:List Pt)(p:Pt):Bool:= !(((VW 2 ps p.sign).any fun i=>p.id != i&& !onF ps p.id i)||(VW 3 ps p.sign).any (onF ps p.id))
theorem zhA {ps:List Pt}(hL:Lst ps){mi:List (Int×Int)}(hi:zfL mi ps):zjh ps=ps.all (tgP ps):=by
 unfold zjh
 rw [Bool.eq_iff_iff,List.all_eq_true,List.all_eq_true]
 refine forall_congr' fun p=>forall_congr' fun hp=>?_
 unfold tgP
 rw [List.all_eq_true]
 simp only [Bool.not_eq_true',Bool.or_eq_false_iff,List.any_eq_false,U3]
 constructor
 ·
  intro h
  constructor
  ·
   rintro x ⟨q,hq,h2,hs,rfl⟩ hc
   have:=h q hq
   unfold zmy at this
   rw [if_neg (by simpa using hs.symm),if_pos h2] at this
   simp at this hc
   rcases this with e | e
   ·
    exact hc.1 e
   ·
    rw [hc.2] at e;cases e.2
  ·
   rintro x ⟨q,hq,h3,hs,rfl⟩ hc
   have:=h q hq
   unfold zmy at this
   rw [if_neg (by simpa using hs.symm),if_neg (by omega),if_pos h3] at this
   simp at this
   rcases this with e | e
   ·
    rw [e,hL.on_irr] at hc;cases hc
   ·
    rw [e] at hc;cases hc
 ·
  rintro ⟨h1,h2⟩ q hq
  unfold zmy
  by_cases hs:p.sign=q.sign
  ·
   rw [if_neg (by simpa using hs)]
   by_cases e:p.id=q.id
   ·
    simp [e]
   ·
    by_cases k2:q.kind=2
    ·
     rw [if_pos k2]
     have:=h1 q.id ⟨q,hq,k2,hs.symm,rfl⟩
     have hk:p.kind≠2:=fun k=>e (by
      have hm1:=U3.2 ⟨p,hp,k,rfl,rfl⟩
      have hm2:=U3.2 ⟨q,hq,k2,hs.symm,rfl⟩
      rw [hi p.sign] at hm1 hm2
      cases hg:Zs mi p.sign with
      | none=>rw [hg] at hm1;cases hm1
      | some z=>rw [hg] at hm1 hm2;simp at hm1 hm2;rw [hm1,hm2])
     simp [e] at this
     simp [this,hk]
    ·
     rw [if_neg k2]
     by_cases k3:q.kind=3
     ·
      rw [if_pos k3]
      have:=h2 q.id ⟨q,hq,k3,hs.symm,rfl⟩
      simp at this
      simp [this]
     ·
      rw [if_neg k3];simp
  ·
   rw [if_pos hs];simp
theorem zri {ps:List Pt}(hL:Lst ps){mi:List (Int×Int)}{k:Nat}{p:Pt}{id:Int}(h:zfL mi (ps.take k))(hp:ps[k]? =some p)(hk:p.kind=2)(hn:Zs mi p.sign=some id):zjh ps=false:=by
 have hm:id∈VW 2 (ps.take k) p.sign:=by rw [h,hn];simp
 obtain ⟨q,hq,k2,hs,rfl⟩:=U3.1 hm
 have hlt:=hL.fresh hp q hq
 unfold zjh
 rw [Bool.eq_false_iff]
 intro hc
 rw [List.all_eq_true] at hc
 have h1:=hc p (List.mem_of_getElem? hp)
 rw [List.all_eq_true] at h1
 have h2:=h1 q (List.mem_of_mem_take hq)
 unfold zmy at h2
 rw [if_neg (by simpa using hs.symm),if_pos k2] at h2
 simp [hk] at h2
 omega
theorem znm {ps:List Pt}{p:Pt}{mi:List (Int×Int)}(hi:zfL mi ps):((Zs mi p.sign).isSome&&(p.id != (Zs mi p.sign).getD 0)&& !onF ps p.id ((Zs mi p.sign).getD 0))=((VW 2 ps p.sign).any fun i=>p.id != i&& !onF ps p.id i):=by
 rw [hi p.sign]
 cases Zs mi p.sign with
 | none=>rfl
 | some x=>simp
theorem zuV {ps:List Pt}(h:ps.length>512):KX ps=2:=by unfold KX;rw [if_pos h]
theorem ztU {ps:List Pt}(h:¬ps.length>512){k:Nat}{p:Pt}(hp:ps[k]? =some p)(h0:orF ((ps.take k).map JK)=0)(h1:JK p≠0):KX ps=JK p:=by
 have:orF (ps.map JK)=JK p:=zkQ (k:=k) (by simp [hp]) (by rw [←List.map_take];exact h0) h1
 unfold KX;rw [if_neg h,this,if_pos h1]
theorem zrE {ps:List Pt}(h:¬ps.length>512)(h0:orF (ps.map JK)=0)(h1:lsB ps=false):KX ps=380:=by unfold KX;rw [if_neg h,if_neg (by omega),h1];rfl
theorem zht {ps:List Pt}(h:¬ps.length>512)(h0:orF (ps.map JK)=0)(h1:lsB ps=true)(h2:zjh ps=false):KX ps=380:=by unfold KX;rw [if_neg h,if_neg (by omega),h1,h2];rfl
theorem zsQ {ps:List Pt}(h:¬ps.length>512)(h0:orF (ps.map JK)=0)(h1:lsB ps=true)(h2:zjh ps=true):KX ps=0:=by unfold KX;rw [if_neg h,if_neg (by omega),h1,h2];rfl
theorem zp6 {ps:List Pt}{k:Nat}{p:Pt}(hp:ps[k]? =some p)(h0:orF ((ps.take k).map JK)=0)(h1:JK p=0):orF ((ps.take (k+1)).map JK)=0:=by
 rw [JR] at h0 ⊢
 intro x hx
 rw [Z0 hp,List.map_append,List.mem_append] at hx
 rcases hx with hx | hx
 ·
  exact h0 x hx
 ·
  simp at hx;rw [hx,h1]
theorem zlu {p:Pt}(h:JK p=0):1≤p.id∧p.id≤1048576∧0≤p.sign∧p.sign≤1048576∧p.needs.length≤32:=by
 unfold JK at h
 split at h
 ·
  cases h
 ·
  split at h
  ·
   rename_i h1 h2
   simp only [Bool.and_eq_true] at h2
   have h3:=h2.2.1
   unfold idB at h3
   simp at h3
   omega
  ·
   cases h
theorem zsC {I:Qu}{av:Option Addr}{n c:Nat}{ps:List Pt}(hP:SlP I av n c ps)(hz:∀ p∈ps,JK p=0):∀ p∈ps,p.n≤100000:=fun p hp=>by
 have h1:Sl I 1 QQ p.a p.n p.c p.needs:=hP.2 p hp
 have h2:=hz p hp
 have h3:=h1.len
 unfold JK at h2
 split at h2
 ·
  cases h2
 ·
  omega
theorem ztl {I:Qu}{av:Option Addr}{n c:Nat}{ps:List Pt}(hP:SlP I av n c ps)(h:KX ps=0):∀ p∈ps,p.n≤100000:=zsC hP fun p hp=>JR.1 (Uk h).2.1 _ (List.mem_map.2 ⟨p,hp,rfl⟩)
end
section
open Go Go.Kn Go.Proofs
theorem ztw {I:Qu}{av:Option Addr}{n c:Nat}{ps:List Pt}(hP:SlP I av n c ps)(hn:n≤100000):Zx Tryz.prog 48 [.slice av n c] I (.int .i64 (KX ps)):=by
 intro g H w hw
 refine qe Tryz.func48 Tryz.ntmps48 hw ?_
 have hIc:=zxQ I
 refine zR (zA (zN (Ql (zR ?_))))
 refine zM ?_
 refine zQ ZC ?_
 refine zC (zN ?_)
 refine zI ?_ ?_<;>intro hc24
 ·
  have hlen:ps.length>512:=by rw [hP.len];simp at hc24;omega
  refine zR (zA (zN (Qt (Qc ?_))))
  exact zp hIc rfl rfl (by rw [zuV hlen])
 have hlen:¬ps.length>512:=by rw [hP.len];simp at hc24;omega
 refine Qo (Qa (Ql (zR (zM ?_))))
 refine zQ ZC ?_
 refine zM (zN (Qm ?_))
 refine zU [(0,_),(25,_),(26,_)] (fun T L0 mz E I' loc'=>∃ (k:Nat) (e:Int),mz=n-k∧E=(27,.int .i64 k)::T∧I=I'∧L0=loc'∧k≤n∧e=0∧orF ((ps.take k).map JK)=0) ?_ (h:=⟨0,0,rfl,rfl,rfl,rfl,Nat.zero_le _,rfl,rfl⟩)
 rintro mz E I' loc' ⟨k,e,rfl,rfl,rfl,rfl,hk,he,h0⟩
 refine zR (zC (zN (Ql ?_)))
 refine zI ?_ ?_<;>intro hc28
 ·
  have hlt_k:k<n:=by have h:=hc28;simp at h;omega
  have hP1:=hP.1
  obtain ⟨p,hp,hN⟩:=hP.at hlt_k
  have hpm:=List.mem_of_getElem? hp
  have hN:Sl I 1 QQ p.a p.n p.c p.needs:=hN
  refine Qo (Qa (Ql (Qm (zR ?_))))
  refine zV (QG rfl rfl ZC (by assumption) (fun hg=>by omega)) ?_
  refine zV (Qp rfl Yw (fun hg=>by exact zxR hP1 hp) rfl) ?_
  refine Qs Ui rfl rfl (fun b_4=>?_)
  refine zh V8 ?_
  refine zN (zR ?_)
  refine zV (Qp rfl Yw (fun hg=>by exact Cells.g0) rfl) ?_
  refine qc (vs:=[_]) rfl zuk (zrA p hN) ?_
  refine zA ?_
  refine zN (zR ?_)
  refine zM ?_
  refine zC (zN ?_)
  refine zI ?_ ?_<;>intro hc34
  ·
   have hbad:KX ps=JK p:=ztU hlen hp h0 (by simpa using hc34)
   refine zR (zM ?_)
   refine zA (zN (Qt (Qn (Qc (Qc (Qn (Qc ?_)))))))
   exact zp hIc rfl rfl (by rw [hbad])
  have hpk:JK p=0:=by simpa using hc34
  refine Qo (Qh (Qa (Qg (zB ?_))))
  refine zM (Qb ?_)
  exact zm (h:=⟨n-(k+1),by omega,k+1,_,rfl,rfl,rfl,rfl,by omega,hpk,zp6 hp h0 hpk⟩)
 have hge_k:n≤k:=by have h:=hc28;simp at h;omega
 have h0:orF (ps.map JK)=0:=by rw [ZE hP.len hge_k] at h0;exact h0
 have hz:∀ p∈ps,JK p=0:=fun p hp=>JR.1 h0 _ (List.mem_map.2 ⟨p,hp,rfl⟩)
 have hnd:=zsC hP hz
 refine QI (Qf (Qf (Qk (Qa (zR ?_)))))
 refine ZH rfl rfl (fun r_37=>?_)
 refine Qs ztv rfl rfl (fun b_5=>?_)
 refine zS zqB ?_
 refine zA (zN (Ql (zR ?_)))
 refine zM ?_
 refine zQ ZC ?_
 refine zM (zN (Qm ?_))
 refine zU [(0,_),(5,_),(38,_),(39,_)] (fun T L0 mz E I' loc'=>∃ (k:Nat) (l:Int) (s:List (Int×Bool)),mz=n-k∧E=(6,.int .i64 l)::(40,.int .i64 k)::T∧I=I'∧[(b_5,.cells #[.map (some r_37)] 167 (0,0)),(r_37,ZM (Value.int .i64) Value.bool s)]=loc'∧k≤n∧(List.range k).all (lsQ ps)=true∧zfH (zoi ps) k l∧∀ x,ze3 s x=zal (ps.take k) x) ?_ (h:=⟨0,0,[],rfl,rfl,rfl,rfl,Nat.zero_le _,rfl,⟨fun _=>rfl,fun y hy h=>absurd rfl h⟩,fun x=>rfl⟩)
 rintro mz E I' loc' ⟨k,l,s,rfl,rfl,rfl,rfl,hk,hall,hl,hs⟩
 refine zR (zC (zN (Ql ?_)))
 refine zI ?_ ?_<;>intro hc41
 ·
  have hlt_k:k<n:=by have h:=hc41;simp at h;omega
  have hP1:=hP.1
  obtain ⟨p,hp,hN⟩:=hP.at hlt_k
  have hpm:=List.mem_of_getElem? hp
  have hN:Sl I 1 QQ p.a p.n p.c p.needs:=hN
  have hpn:=hnd p hpm
  have hp1:=(zlu (hz p hpm)).1
  refine Qo (Qa (Ql (Qm (zR ?_))))
  refine zV (QG rfl rfl ZC (by assumption) (fun hg=>by omega)) ?_
  refine zV (Qp rfl Yw (fun hg=>by exact zxR hP1 hp) rfl) ?_
  refine Qs Ui rfl rfl (fun b_8=>?_)
  refine zh V8 ?_
  refine zN (Ql (zR ?_))
  refine zF Zy ?_
  refine zL Qr ?_
  refine zM ?_
  refine zC ?_
  refine zM ?_
  refine Q2 4 rfl rfl rfl ?_
  refine zJ (Qe rfl KP) ?_
  refine zJ (Qd rfl QK (fun hg=>by exact QS.h0 rfl)) ?_
  refine zJ (Zc (us:=[]) (vs:=[_]) rfl rfl) ?_
  refine zgU (cap:=[]) (vs:=[_,_]) rfl rfl zhr QD (fun hg=>zj4.ofV fun I' hI' hL'=>zr8 (cap:=[.pointer (some ⟨b_5,0,none⟩)]) (hN.mono hI') hpn zsE (fun x _=>zwb (b:=b_5) (r:=r_37) (s:=s) (hL' b_5 _ (by simp)) (hL' r_37 _ (by simp)) x)) (.some rfl rfl rfl rfl gbf) rfl rfl ?_
  refine Zz rfl rfl rfl rfl rfl ?_
  refine zN ?_
  refine zI ?_ ?_<;>intro hc53
  ·
   have hbad:KX ps=380:=zrE hlen h0 (by rw [←zjX h0];exact JG (k:=k) (by rw [hP.len];exact hlt_k) (by rw [znT hp hp1 hl hs];exact congrArg (! ·) hc53))
   refine zR (zA (zN (Qt (Qc (Qn (Qc (Qc ?_)))))))
   refine Qn (Qc ?_)
   exact zp hIc rfl rfl (by rw [hbad])
  refine Qo (Qa ?_)
  have hD:=zxQ I
  refine Jn ?_
  refine Z5 I [(b_8,.cells (Yt p).toArray 57 (0,0)),(b_5,.cells #[.map (some r_37)] 167 (0,0))] mixed ?_
  refine zT 0 rfl (Qd rfl zio (fun hg=>by exact QS.h1 rfl)) hD ?_
  refine zT 1 rfl (Qe rfl Zy) hD ?_
  refine zT 2 rfl (Qd rfl Qr (fun hg=>by exact QS.h0 rfl)) hD ?_
  refine zT 3 rfl (Qe rfl Zy) hD ?_
  refine zT 4 rfl (Qd rfl Qr (fun hg=>by exact QS.h0 rfl)) hD ?_
  refine qd 5 rfl ?_
  refine Q6 (m:=s) (ek:=Value.int .i64) (ev:=Value.bool) (a:=p.id) true Vq ZD rfl rfl rfl rfl (by repeat (first | exact Upd.here | apply Upd.there | apply QJ)) ?_
  refine Qb ?_
  refine zD hD ?_
  refine zT 6 rfl (ZK rfl) hD ?_
  refine QF (by kernel_rfl) ?_
  refine QP ?_
  refine Qh (Qa (Qg (zB ?_)))
  refine zM (Qb ?_)
  exact zm (h:=⟨n-(k+1),by omega,k+1,_,_,rfl,rfl,rfl,rfl,by omega,V6 hall (by rw [znT hp hp1 hl hs];exact congrArg (! ·) hc53),zf6 hp,fun x=>by rw [Xd,hs,zlI hp]⟩)
 have hge_k:n≤k:=by have h:=hc41;simp at h;omega
 have hls:lsB ps=true:=by rw [←zjX h0,hP.len,show n=k by omega];exact hall
 have hL:Lst ps:=zgZ h0 hls
 refine QI (Qf (Qf (Qk (Qa (zR (zM ?_))))))
 refine Qz (cap:=[]) (vs:=[_]) rfl rfl ziz .nil (za9 hP hn hL hnd) rfl rfl ?_
 rintro vv3 I3 L3 hI3 ⟨rfl,r9,rfl,hOn⟩
 have hP:=hP.mono hI3;have hIc:=hIc.trans hI3
 refine zA ?_
 refine zN (zR ?_)
 refine ZH rfl rfl (fun r_62=>?_)
 refine ZH rfl rfl (fun r_63=>?_)
 refine zA ?_
 refine zA (zN (Ql (Ql ?_)))
 refine Xe [(r_63,ZM (Value.int .i64) WC []),(r_62,ZM (Value.int .i64) (Value.int .i64) [])] (by repeat (first | exact UP | exact .refl | refine .keep ?_ | refine .drop ?_)) ?_
 refine Qg (zM ?_)
 refine zQ ZC ?_
 refine zM (zN (Qm ?_))
 refine zU [(0,_),(9,_),(10,_),(11,_),(64,_),(65,_)] (fun T L0 mz E I' loc'=>∃ (k:Nat) (mi:List (Int×Int)) (mr:List (Int×(Value×Nat×List Value))) (L:Go.Kn.Loc),mz=n-k∧E=(66,.int .i64 k)::T∧I3=I'∧(r_63,ZM (Value.int .i64) WC mr)::(r_62,ZM (Value.int .i64) (Value.int .i64) mi)::L=loc'∧k≤n∧zfL mi (ps.take k)∧WH mr (ps.take k)∧Vj 3 1 (mr.map (·.2)) L) ?_ (h:=⟨0,[],[],[],rfl,rfl,rfl,rfl,Nat.zero_le _,zfL.nil,WH.nil,Vj.nil⟩)
 rintro mz E I' loc' ⟨k,mi,mr,L,rfl,rfl,rfl,rfl,hk,hmi,hmr,hAll⟩
 refine zR (zC (zN (Ql ?_)))
 refine zI ?_ ?_<;>intro hc67
 ·
  have hlt_k:k<n:=by have h:=hc67;simp at h;omega
  have hP1:=hP.1
  obtain ⟨p,hp,hN⟩:=hP.at hlt_k
  have hpm:=List.mem_of_getElem? hp
  have hN:Sl I3 1 QQ p.a p.n p.c p.needs:=hN
  have hpn:=hnd p hpm
  refine Qo (Qa (Ql (Qm (zR ?_))))
  refine zV (QG rfl rfl ZC (by assumption) (fun hg=>by omega)) ?_
  refine zV (Qp rfl Yw (fun hg=>by exact zxR hP1 hp) rfl) ?_
  refine Qs Ui rfl rfl (fun b_13=>?_)
  refine zh V8 ?_
  refine zN (zR ?_)
  refine zF KY ?_
  refine zL Qr ?_
  refine zN (Qm (zR (zC ?_)))
  refine zA (zN ?_)
  refine zI ?_ ?_<;>intro hc72
  ·
   have hk2:p.kind=2:=by simpa using hc72
   refine Ql (zR (zM ?_))
   refine zF Ya ?_
   refine zL Qr ?_
   refine zV (KA (m:=mi) (ek:=Value.int .i64) (a:=p.sign) Y7 ZD rfl rfl (fun _=>.inr (by simp))) ?_
   refine zM ?_
   refine zE ?_
   refine zE ?_
   refine zA ?_
   refine zA ?_
   refine zN (zR ?_)
   refine zM (zN ?_)
   refine zI ?_ ?_<;>intro hc81
   ·
    obtain ⟨id,hid⟩:=Option.isSome_iff_exists.1 hc81
    have hbad:KX ps=380:=zht hlen h0 hls (zri hL hmi hp hk2 hid)
    refine zR (zA (zN (Qt (Qc (Qn (Qn (Qc ?_)))))))
    refine Qc (Qn (Qc ?_))
    exact zp hIc rfl rfl (by rw [hbad])
   have hnone:Zs mi p.sign=none:=by simpa using hc81
   refine Qo (Qa (Qg (zM ?_)))
   refine zF Ya ?_
   refine zL Qr ?_
   refine zF Zy ?_
   refine zL Qr ?_
   refine Q6 (m:=mi) (ek:=Value.int .i64) (ev:=Value.int .i64) (a:=p.sign) p.id Y7 ZD rfl rfl rfl rfl (by repeat (first | exact Upd.here | apply Upd.there | apply QJ)) ?_
   refine Qb (Qh (Qh (Qa (Qg (zB ?_)))))
   refine zM (Qb ?_)
   exact zm (h:=⟨n-(k+1),by omega,k+1,_,_,_,rfl,rfl,rfl,rfl,by omega,hmi.put hp hk2 hnone,hmr.skip hp (by omega),hAll⟩)
  have hk2n:p.kind≠2:=by simpa using hc72
  refine zR (zC ?_)
  refine zA (zN ?_)
  refine zI ?_ ?_<;>intro hc87
  ·
   have hk3:p.kind=3:=by simpa using hc87
   obtain ⟨A,Lt,B,rfl,hOt,hset⟩:=hAll.at p.sign
   have hq:=zmz hmr hOt
   have hq2:=List.length_take_le k ps
   have hD:=zxQ I3
   refine Jn ?_
   refine Z5 I3 [(b_13,.cells (Yt p).toArray 57 (0,0))] mixed ?_
   refine zT 0 rfl (Qi rfl) hD ?_
   refine zT 1 rfl (Qe rfl Ya) hD ?_
   refine zT 2 rfl (Qd rfl Qr (fun hg=>by exact QS.h0 rfl)) hD ?_
   refine zT 3 rfl (Qi rfl) hD ?_
   refine zT 4 rfl (Qe rfl Ya) hD ?_
   refine zT 5 rfl (Qd rfl Qr (fun hg=>by exact QS.h0 rfl)) hD ?_
   refine zT 7 rfl (Qe rfl Zy) hD ?_
   refine zT 8 rfl (Qd rfl Qr (fun hg=>by exact QS.h0 rfl)) hD ?_
   refine Zq 6 9 rfl rfl (by kernel_rfl) ?_ ?_
   ·
    refine zV (Vl (m:=mr) (ek:=Value.int .i64) (a:=p.sign) YU ZD rfl rfl (fun _=>.inr (by simp))) ?_
    refine Qb ?_
    refine zD hD ?_
    refine qd 9 rfl ?_
    refine Qq (ps:=[(0,_)]) (m:=[QQ p.id]) Zh rfl (.cons rfl (.nil)) rfl (by simp [Qv]) (by decide) (by decide) rfl rfl (fun b_98=>?_)
    refine Qb ?_
    refine zD hD ?_
    refine qd 10 rfl ?_
    refine QW (v:=_) (ys:=[p.id].flatMap QQ) (L:=Lt) rfl rfl Zh hOt (by repeat (first | exact .cons .here .nil | exact QD | exact Qx | apply QC | apply QB)) ⟨rfl,fun _=>rfl,zxO⟩ (JI [p.id]) (by omega) rfl rfl ?_
    intro v9 L9 hO9 _
    refine Qb ?_
    refine zD hD ?_
    refine qd 11 rfl ?_
    refine Q6 (m:=mr) (ek:=Value.int .i64) (ev:=WC) (a:=p.sign) (v9,((Zs mr p.sign).getD V3).2.1+1,((Zs mr p.sign).getD V3).2.2++[p.id].flatMap QQ) YU ZD rfl rfl rfl rfl (by (repeat (first | exact Upd.here | apply Upd.there | apply QJ))) ?_
    refine Qb ?_
    refine zD hD ?_
    refine QF (by kernel_rfl) ?_
    refine QP ?_
    refine Qh (Qh (Qa (Qg (zB ?_))))
    refine zM (Qb ?_)
    exact Jk _ _ (L9++((r_63,_)::(r_62,_)::(A++B))) ⟨n-(k+1),by omega,k+1,_,_,A++(L9++B),rfl,rfl,rfl,rfl,by omega,hmi.skip hp hk2n,hmr.put hp hk3,hset (v9,_,_) L9 hO9⟩ (.cons rfl (.cons rfl (.cons rfl (.cons rfl (.cons rfl (.cons rfl (.cons rfl .nil))))))) zhG (by repeat (first | exact .refl | exact Zi | refine Yf ?_ | refine .drop ?_ | refine Z2 ?_))
   refine Qq (ps:=[(0,_)]) (m:=[QQ p.id]) Zh rfl (.cons rfl (.nil)) rfl (by simp [Qv]) (by decide) (by decide) rfl rfl (fun b_98=>?_)
   refine Qb ?_
   refine zD hD ?_
   refine qd 6 rfl ?_
   refine zV (Vl (m:=mr) (ek:=Value.int .i64) (a:=p.sign) YU ZD rfl rfl (fun _=>.inr (by simp))) ?_
   refine Qb ?_
   refine zD hD ?_
   refine qd 10 rfl ?_
   refine QW (v:=_) (ys:=[p.id].flatMap QQ) (L:=Lt) rfl rfl Zh hOt (by repeat (first | exact .cons .here .nil | exact QD | exact Qx | apply QC | apply QB)) ⟨rfl,fun _=>rfl,zxO⟩ (JI [p.id]) (by omega) rfl rfl ?_
   intro v9 L9 hO9 _
   refine Qb ?_
   refine zD hD ?_
   refine qd 11 rfl ?_
   refine Q6 (m:=mr) (ek:=Value.int .i64) (ev:=WC) (a:=p.sign) (v9,((Zs mr p.sign).getD V3).2.1+1,((Zs mr p.sign).getD V3).2.2++[p.id].flatMap QQ) YU ZD rfl rfl rfl rfl (by (repeat (first | exact Upd.here | apply Upd.there | apply QJ))) ?_
   refine Qb ?_
   refine zD hD ?_
   refine QF (by kernel_rfl) ?_
   refine QP ?_
   refine Qh (Qh (Qa (Qg (zB ?_))))
   refine zM (Qb ?_)
   exact Jk _ _ (L9++((r_63,_)::(r_62,_)::(A++B))) ⟨n-(k+1),by omega,k+1,_,_,A++(L9++B),rfl,rfl,rfl,rfl,by omega,hmi.skip hp hk2n,hmr.put hp hk3,hset (v9,_,_) L9 hO9⟩ (.cons rfl (.cons rfl (.cons rfl (.cons rfl (.cons rfl (.cons rfl (.cons rfl .nil))))))) zhG (by repeat (first | exact .refl | exact Zi | refine Yf ?_ | refine .drop ?_ | refine Z2 ?_))
  have hk3n:p.kind≠3:=by simpa using hc87
  refine Qo (Qh (Qh (Qa (Qg (zB ?_)))))
  refine zM (Qb ?_)
  exact zm (h:=⟨n-(k+1),by omega,k+1,_,_,_,rfl,rfl,rfl,rfl,by omega,hmi.skip hp hk2n,hmr.skip hp hk3n,hAll⟩)
 have hge_k:n≤k:=by have h:=hc67;simp at h;omega
 rw [ZE hP.len hge_k] at hmi hmr
 refine QI (Qf (Qf (Qk (Qa (Ql (Ql ?_))))))
 refine Vn (fun I5 hI5 hb5=>?_)
 have hP:=hP.mono hI5;have hOn:=hOn.mono hI5;have hIc:=hIc.trans hI5
 have hmiI:I5 r_62=some (ZM (Value.int .i64) (Value.int .i64) mi):=hb5 _ _ (by simp)
 have hmrI:I5 r_63=some (ZM (Value.int .i64) WC mr):=hb5 _ _ (by simp)
 have hrem:=znc hmr hAll (fun b o h=>hb5 b o (by simp [h]))
 obtain ⟨m,hm1,hm2⟩:=hOn
 refine Qg (zM ?_)
 refine zQ ZC ?_
 refine zM (zN (Qm ?_))
 refine zU [(9,_),(10,_),(11,_),(101,_),(102,_)] (fun T L0 mz E I' loc'=>∃ (k:Nat),mz=n-k∧E=(103,.int .i64 k)::T∧I5=I'∧[]=loc'∧k≤n∧(ps.take k).all (tgP ps)=true) ?_ (h:=⟨0,rfl,rfl,rfl,rfl,Nat.zero_le _,rfl⟩)
 rintro mz E I' loc' ⟨k,rfl,rfl,rfl,rfl,hk,htg⟩
 refine zR (zC (zN (Ql ?_)))
 refine zI ?_ ?_<;>intro hc104
 ·
  have hlt_k:k<n:=by have h:=hc104;simp at h;omega
  have hP1:=hP.1
  obtain ⟨p,hp,hN⟩:=hP.at hlt_k
  have hpm:=List.mem_of_getElem? hp
  have hN:Sl I5 1 QQ p.a p.n p.c p.needs:=hN
  have hpn:=hnd p hpm
  obtain ⟨ref,hget,sn,hsn,hsq⟩:=hm2.get ⟨p,hpm,rfl⟩
  refine Qo (Qa (Ql (Qm (zR ?_))))
  refine zV (QG rfl rfl ZC (by assumption) (fun hg=>by omega)) ?_
  refine zV (Qp rfl Yw (fun hg=>by exact zxR hP1 hp) rfl) ?_
  refine Qs Ui rfl rfl (fun b_17=>?_)
  refine zh V8 ?_
  refine zN (Ql (zR (zM ?_)))
  refine zF Ya ?_
  refine zL Qr ?_
  refine zV (KA (m:=mi) (ek:=Value.int .i64) (a:=p.sign) Y7 ZD rfl rfl (fun _=>.inl hmiI)) ?_
  refine zM ?_
  refine zE ?_
  refine zE ?_
  refine zA ?_
  refine zA ?_
  refine zN (zR ?_)
  refine zM ?_
  refine zM ?_
  refine QE 1 rfl rfl rfl ?_
  refine zK (Qe rfl Zy) ?_
  refine zK (Qd rfl Qr (fun hg=>by exact QS.h0 rfl)) ?_
  refine zK (Qi rfl) ?_
  refine zK (QH rfl rfl rfl) ?_
  refine QO rfl rfl rfl rfl rfl ?_
  refine zM ?_
  refine QE 7 rfl rfl rfl ?_
  refine zK (Qi rfl) ?_
  refine zK (Qe rfl Zy) ?_
  refine zK (Qd rfl Qr (fun hg=>by exact QS.h0 rfl)) ?_
  refine zK (YC (m:=m) (ek:=Value.int .i64) (ev:=zbY) (a:=p.id) hget Kq ZD rfl rfl (fun _=>.inl hm1)) ?_
  refine zK (Qi rfl) ?_
  refine zK (Yg (m:=sn) Vq ZD rfl rfl (fun _=>.inl hsn)) ?_
  refine zK (VF rfl) ?_
  refine QO rfl rfl rfl rfl rfl ?_
  refine zN ?_
  refine zI ?_ ?_<;>intro hc129
  ·
   have hA:=hc129
   simp only [show ∀ x,(Zs sn x).getD false=onF ps p.id x from fun x=>hsq.mem x] at hA
   have hbad:KX ps=380:=zht hlen h0 hls (by rw [zhA hL hmi];exact zhZ hp (by unfold tgP;rw [←znm hmi,hA];rfl))
   refine zR (zA (zN (Qt (Qc (Qn (Qc (Qc ?_)))))))
   refine Qn (Qc ?_)
   exact zp hIc rfl rfl (by rw [hbad])
  have hA:=hc129
  simp only [show ∀ x,(Zs sn x).getD false=onF ps p.id x from fun x=>hsq.mem x] at hA
  refine Qo (Qa (Ql ?_))
  obtain ⟨av2,c2,hv2,hS2⟩:=hrem p.sign
  have hk3l:=Xq (c:=3) (ps:=ps) (s:=p.sign)
  have hpl:=hP.len
  refine Qg (zM ?_)
  refine zF Ya ?_
  refine zL Qr ?_
  refine zV (Yz (m:=mr) (ek:=Value.int .i64) (a:=p.sign) hv2 YU ZD rfl rfl (fun _=>.inl hmrI)) ?_
  refine zQ Qw ?_
  refine zM (zN (Qm ?_))
  refine zU [(9,_),(10,_),(11,_),(17,_),(101,_),(102,_),(103,_),(133,_),(134,_)] (fun T L0 mz E I' loc'=>∃ (j:Nat),mz=(VW 3 ps p.sign).length-j∧E=(135,.int .i64 j)::T∧I5=I'∧[(b_17,.cells (Yt p).toArray 57 (0,0))]=loc'∧j≤(VW 3 ps p.sign).length∧((VW 3 ps p.sign).take j).any (onF ps p.id)=false) ?_ (h:=⟨0,rfl,rfl,rfl,rfl,Nat.zero_le _,rfl⟩)
  rintro mz E I' loc' ⟨j,rfl,rfl,rfl,rfl,hj,hno⟩
  refine zR (zC (zN (Ql ?_)))
  refine zI ?_ ?_<;>intro hc136
  ·
   have hlt_j:j<(VW 3 ps p.sign).length:=by have h:=hc136;simp at h;omega
   obtain ⟨y,hy⟩:=hS2.at hlt_j
   refine Qo (Qa (Ql (Qm (zR ?_))))
   refine zV (QG rfl rfl Qw (by assumption) (fun hg=>by omega)) ?_
   refine zV (Qd rfl Qr (fun hg=>by exact zxJ hS2 hy rfl)) ?_
   refine zA ?_
   refine zN (zR ?_)
   refine zM ?_
   refine zF Zy ?_
   refine zL Qr ?_
   refine zV (YC (m:=m) (ek:=Value.int .i64) (ev:=zbY) (a:=p.id) hget Kq ZD rfl rfl (fun _=>.inl hm1)) ?_
   refine zM ?_
   refine zV (Yg (m:=sn) Vq ZD rfl rfl (fun _=>.inl hsn)) ?_
   refine zN ?_
   refine zI ?_ ?_<;>intro hc144
   ·
    have hon:=hc144
    simp only [show ∀ x,(Zs sn x).getD false=onF ps p.id x from fun x=>hsq.mem x] at hon
    have hbad:KX ps=380:=zht hlen h0 hls (by rw [zhA hL hmi];exact zhZ hp (by unfold tgP;rw [JZ hy hon,Bool.or_true];rfl))
    refine zR (zA (zN (Qt (Qn (Qc (Qc (Qn ?_)))))))
    refine Qn (Qc (Qc (Qn (Qc ?_))))
    exact zp hIc rfl rfl (by rw [hbad])
   have hon:=hc144
   simp only [show ∀ x,(Zs sn x).getD false=onF ps p.id x from fun x=>hsq.mem x] at hon
   refine Qo (Qh (Qa (Qg (zB ?_))))
   refine zM (Qb ?_)
   exact zm (h:=⟨(VW 3 ps p.sign).length-(j+1),by omega,j+1,rfl,rfl,rfl,rfl,by omega,YW hy hno hon⟩)
  have hge_j:(VW 3 ps p.sign).length≤j:=by have h:=hc136;simp at h;omega
  rw [ZE rfl hge_j] at hno
  have htp:tgP ps p=true:=by unfold tgP;rw [←znm hmi,hA,hno];rfl
  refine QI (Qf (Qf (Qk (Qh (Qa (Qg (zB ?_)))))))
  refine zM (Qb ?_)
  exact zm (h:=⟨n-(k+1),by omega,k+1,rfl,rfl,rfl,rfl,by omega,ziG hp htg htp⟩)
 have hge_k:n≤k:=by have h:=hc104;simp at h;omega
 have htog:zjh ps=true:=by rw [zhA hL hmi];rw [ZE hP.len hge_k] at htg;exact htg
 refine QI (Qf (Qf (Qk (Qa (zR (zA (zN ?_)))))))
 refine Qt ?_
 exact zp hIc rfl rfl (by rw [zsQ hlen h0 hls htog])
end
section
open Go Go.Kn Go.Proofs
def zkx (e:Int)(xs:List Int):Value→Qu→Go.Kn.Loc→Prop:=fun v I' L=>L=[]∧∃ av c,v= .tuple #[.slice av xs.length c,.int .i64 e]∧Sl I' 1 QQ av xs.length c xs
theorem zkx.empty {e:Int}{xs:List Int}{I:Qu}(h:xs=[]):zkx e xs (.tuple #[.slice none 0 0,.int .i64 e]) I []:=by
 subst h
 exact ⟨rfl,none,0,rfl,.nil⟩
theorem zkx.good {e e':Int}{xs ys:List Int}{I:Qu}{av:Option Addr}{n c:Nat}(h:e=e')(hx:ys=xs)(hS:Sl I 1 QQ av n c ys):zkx e' xs (.tuple #[.slice av n c,.int .i64 e]) I []:=by
 subst h;subst hx
 have hn:=hS.len
 subst hn
 exact ⟨rfl,av,c,rfl,hS⟩
def clE (ps:List Pt)(ids:List Int):Int:=if ids.length>512 then 2 else if chB ps ids then 0 else 380
theorem zuG {ps:List Pt}{ids:List Int}(h:ids.length>512):clE ps ids=2:=by unfold clE;rw [if_pos h]
theorem zpw {ps:List Pt}{ids:List Int}(h:¬ids.length>512)(h2:chB ps ids=false):clE ps ids=380:=by unfold clE;rw [if_neg h,h2];rfl
theorem zuA {ps:List Pt}{ids:List Int}(h:¬ids.length>512)(h2:chB ps ids=true):clE ps ids=0:=by unfold clE;rw [if_neg h,h2];rfl
theorem zt9 {ps:List Pt}{ids:List Int}(h:zpK ids=false):chB ps ids=false:=by unfold chB;rw [h];rfl
theorem zu0 {ps:List Pt}{ids:List Int}{k:Nat}{x:Int}(hx:ids[k]? =some x)(h:zal ps x=false):chB ps ids=false:=by unfold chB;rw [zhZ hx h,Bool.and_false]
theorem zuv {ps:List Pt}{ids:List Int}(h:zpK ids=true)(h2:ids.all (zal ps)=true):chB ps ids=true:=by unfold chB;rw [h,h2];rfl
def zdx (ps:List Pt)(ids:List Int)(k:Nat)(zs:List Int)(S:Int→Bool):Prop:=∀ x,x∈zs↔(x∈ids∨∃ n∈ids.take k,onF ps n x=true)∨S x=true
theorem zdx.start {ps:List Pt}{ids:List Int}:zdx ps ids 0 ids (fun _=>false):=fun x=>by simp
theorem zdx.put {ps:List Pt}{ids zs:List Int}{k:Nat}{S S':Int→Bool}{a:Int}(h:zdx ps ids k zs S)(e:∀ x,S' x=(decide (a=x)||S x)):zdx ps ids k (zs++[a]) S':=fun x=>by
 rw [List.mem_append,h x,e x]
 simp only [List.mem_singleton,Bool.or_eq_true,decide_eq_true_eq]
 constructor
 ·
  rintro (h | h)
  ·
   rcases h with h | h
   ·
    exact .inl h
   ·
    exact .inr (.inr h)
  ·
   exact .inr (.inl h.symm)
 ·
  rintro (h | h | h)
  ·
   exact .inl (.inl h)
  ·
   exact .inr h.symm
  ·
   exact .inl (.inr h)
theorem zdx.next {ps:List Pt}{ids zs:List Int}{k:Nat}{S:Int→Bool}{n:Int}(h:zdx ps ids k zs S)(hn:ids[k]? =some n)(e:∀ x,S x=onF ps n x):zdx ps ids (k+1) zs (fun _=>false):=fun x=>by
 rw [h x,e x,Z0 hn]
 simp only [List.mem_append,List.mem_singleton,Bool.false_eq_true,or_false]
 constructor
 ·
  rintro (h | h)
  ·
   rcases h with h | ⟨m,hm,h⟩
   ·
    exact .inl h
   ·
    exact .inr ⟨m,.inl hm,h⟩
  ·
   exact .inr ⟨n,.inr rfl,h⟩
 ·
  rintro (h | ⟨m,hm | rfl,h⟩)
  ·
   exact .inl (.inl h)
  ·
   exact .inl (.inr ⟨m,hm,h⟩)
  ·
   exact .inr h
theorem zdx.congr {ps:List Pt}{ids zs:List Int}{k:Nat}{S S':Int→Bool}(h:zdx ps ids k zs S)(e:∀ x,S x=S' x):zdx ps ids k zs S':=fun x=>by rw [h x,e x]
theorem zk1 {ps:List Pt}{ids zs:List Int}{n:Nat}(hL:Lst ps)(h:zdx ps ids n zs (fun _=>false))(hn:ids.length=n)(hall:ids.all (zal ps)=true):Lib.compact (Yv (zs++[]))=zd8 ps ids:=by
 rw [List.append_nil]
 refine zc2 (KW hL ids) fun x=>?_
 rw [h x,Wx,←hn,List.take_length]
 simp only [Bool.false_eq_true,or_false]
 constructor
 ·
  rintro (hx | ⟨m,hm,ho⟩)
  ·
   exact ⟨V0.1 (List.all_eq_true.1 hall x hx),x,hx,.inl rfl⟩
  ·
   exact ⟨(hL.on_lt ho).2,m,hm,.inr ho⟩
 ·
  rintro ⟨_,m,hm,rfl | ho⟩
  ·
   exact .inl hm
  ·
   exact .inr ⟨m,hm,ho⟩
theorem zt4 {ps:List Pt}(hL:Lst ps){a:Int}{sn:List (Int×Bool)}(h:X0 sn (onF ps a)):sn.length≤ps.length:=by
 have:=List.Nodup.length_le_of_subset h.nodup (l₂:=zoi ps) (fun x hx=>by
  obtain ⟨_,q,hq,e⟩:=hL.on_lt (h.key.2 hx)
  exact List.mem_map.2 ⟨q,hq,e⟩)
 simpa [zoi] using this
theorem OnL.hit {I:Qu}{m:List (Int×Nat)}{ps:List Pt}(h:OnL I m ps){a:Int}{ref:Nat}(hg:Zs m a=some ref):zal ps a=true∧OnS I ref (onF ps a):=by
 have hm:=KR hg
 refine ⟨?_,h.2 _ hm⟩
 have hk:a∈m.map (·.1):=List.mem_map.2 ⟨_,hm,rfl⟩
 rw [h.1] at hk
 obtain ⟨q,hq,e⟩:=List.mem_map.1 hk
 exact V0.2 ⟨q,hq,e⟩
theorem OnL.miss {I:Qu}{m:List (Int×Nat)}{ps:List Pt}(h:OnL I m ps){a:Int}(hg:Zs m a=none):zal ps a=false:=by
 cases hh:zal ps a with
 | false=>rfl
 | true=>
  obtain ⟨ref,h1,_⟩:=h.get (V0.1 hh)
  rw [hg] at h1;cases h1
def vrE (ps:List Pt)(v:List Int):Int:=if v.length>512 then 2 else if zj9 ps v then 0 else 380
theorem zsP {ps:List Pt}(hL:Lst ps){v:List Int}{w:Int}(h:w=(zln (clE ps v) (zd8 ps v)).length):(if ((clE ps v==0)&&(w != (v.length:Int)))=true then 380 else clE ps v)=vrE ps v:=by
 unfold vrE
 by_cases h1:v.length>512
 ·
  rw [if_pos h1,zuG h1];rfl
 ·
  rw [if_neg h1]
  cases hc:chB ps v with
  | false=>
   rw [zpw h1 hc]
   unfold zj9
   rw [hc];rfl
  | true=>
   rw [zuA h1 hc,zhF rfl] at*
   have h2:=zrh hL hc
   subst h
   cases hv:zj9 ps v with
   | true=>
    rw [hv] at h2
    simp at h2
    simp [h2]
   | false=>
    rw [hv] at h2
    simp at h2
    rw [if_pos]
    ·
     rfl
    ·
     simp;omega
theorem znH {ps:List Pt}{v:List Int}(h:vrE ps v=0):zj9 ps v=true:=by
 unfold vrE at h
 split at h
 ·
  cases h
 ·
  split at h
  ·
   assumption
  ·
   cases h
theorem zcf (x:Nat×Obj)(L:Go.Kn.Loc):(x::L).Perm (L++[x]):=(List.perm_append_comm (l₁:=L) (l₂:=[x])).symm
end
section
open Go Go.Kn Go.Proofs
theorem zhn {I:Qu}{av:Option Addr}{n c:Nat}{ps:List Pt}(hP:SlP I av n c ps)(hn:n≤512)(hL:Lst ps)(hnd:∀ p∈ps,p.n≤100000){bv:Option Addr}{n2 c2:Nat}{ys:List Int}(hT:Sl I 1 QQ bv n2 c2 ys)(hn2:n2≤100000):Yb Tryz.prog 90 [.slice av n c,.slice bv n2 c2] I [] (zkx (clE ps ys) (zln (clE ps ys) (zd8 ps ys))):=by
 intro g H w hw
 refine qe Tryz.func90 Tryz.ntmps90 hw ?_
 have hIc:=zxQ I
 refine zR (zA ?_)
 refine zA (zN (Ql (zR ?_)))
 refine zM ?_
 refine zQ Qw ?_
 refine zC (zN ?_)
 refine zI ?_ ?_<;>intro hc12
 ·
  have hlen:ys.length>512:=by rw [hT.len];simp at hc12;omega
  refine zR (zA ?_)
  refine zA (zN (Qt (Qc ?_)))
  first
  | exact ZF rfl rfl rfl (fun w hw=>⟨_,I,[],rfl,hIc,hw.drop,by rw [zuG hlen];exact zkx.empty rfl⟩)
 have hlen:¬ys.length>512:=by rw [hT.len];simp at hc12;omega
 refine Qo (Qa (zR (zM ?_)))
 refine Qz (cap:=[]) (vs:=[_]) rfl rfl ziz .nil (za9 hP (by omega) hL hnd) rfl rfl ?_
 rintro vv1 I1 L1 hI1 ⟨rfl,r9,rfl,hOn⟩
 have hP:=hP.mono hI1;have hT:=hT.mono hI1;have hIc:=hIc.trans hI1
 refine zA ?_
 refine zN (zR ?_)
 refine zM ?_
 refine Qz (cap:=[]) (vs:=[_]) rfl rfl zhN .nil (zaT hT (by omega)) rfl rfl ?_
 rintro vv2 I2 L2 hI2 ⟨rfl,hO⟩
 have hP:=hP.mono hI2;have hT:=hT.mono hI2;have hOn:=hOn.mono hI2;have hIc:=hIc.trans hI2
 refine zA (zN (Ql (Ql ?_)))
 refine Xe _ Zi ?_
 refine Qg (zM ?_)
 refine zQ Qw ?_
 refine zM (zN (Qm ?_))
 refine zU [(1,_),(6,_),(17,_),(18,_)] (fun T L0 mz E I' loc'=>∃ (k:Nat) (zs:List Int) (v:Value) (q:Nat) (L:Go.Kn.Loc),mz=n2-k∧E=(4,v)::(19,.int .i64 k)::T∧I2=I'∧L=loc'∧k≤n2∧OwnS 3 1 v q (zs.flatMap QQ) L∧q≤n2+512*k∧zdx ps ys k zs (fun _=>false)∧(ys.take k).all (zal ps)=true) ?_ (h:=⟨0,ys,_,n2,_,rfl,rfl,rfl,rfl,Nat.zero_le _,hO,by omega,zdx.start,rfl⟩)
 rintro mz E I' loc' ⟨k,zs,v,q,L,rfl,rfl,rfl,rfl,hk,hO,hq5,hM,hall⟩
 refine zR (zC (zN (Ql ?_)))
 refine zI ?_ ?_<;>intro hc20
 ·
  have hlt_k:k<n2:=by have h:=hc20;simp at h;omega
  obtain ⟨y,hy⟩:=hT.at hlt_k
  refine Qo (Qa (Ql (Qm (zR ?_))))
  refine zV (QG rfl rfl Qw (by assumption) (fun hg=>by omega)) ?_
  refine zV (Qd rfl Qr (fun hg=>by exact zxJ hT hy rfl)) ?_
  refine zA (zN (Ql (Ql ?_)))
  obtain ⟨m,hm1,hm2⟩:=hOn
  refine Qg (zM ?_)
  refine zM ?_
  refine zV (zau (m:=m) (ek:=Value.int .i64) Kq ZD rfl rfl (fun _=>.inl hm1)) ?_
  refine zV (ziy rfl rfl zqZ) ?_
  refine zN ?_
  refine zI ?_ ?_<;>intro hc26
  ·
   have hmiss:zal ps y=false:=hm2.miss (Option.isNone_iff_eq_none.1 hc26)
   have hbad:clE ps ys=380:=zpw hlen (zu0 hy hmiss)
   refine zR (zA ?_)
   refine zA (zN (Qt (Qc (Qn (Qc (Qc (Qn ?_)))))))
   refine Qc ?_
   first
   | exact ZF rfl rfl rfl (fun w hw=>⟨_,I2,[],rfl,hIc,hw.drop,by rw [hbad];exact zkx.empty rfl⟩)
  obtain ⟨ref,hget⟩:∃ ref,Zs m y=some ref:=by cases hg:Zs m y with | none=>rw [hg] at hc26;cases hc26 | some r=>exact ⟨r,rfl⟩
  obtain ⟨hhas,sn,hsn,hsq⟩:=hm2.hit hget
  have hfew:=zt4 hL hsq
  have hpl:=hP.len
  refine Qo (Qa (zR (zM ?_)))
  refine zM ?_
  refine zV (zau (m:=m) (ek:=Value.int .i64) Kq ZD rfl rfl (fun _=>.inl hm1)) ?_
  rw [hget]
  refine Jp (ek:=Value.int .i64) (ev:=Value.bool) (m:=sn) rfl Vq rfl rfl (.inl hsn) (fun b_30=>?_)
  refine zN (Qm ?_)
  refine zU [(1,_),(6,_),(17,_),(18,_),(19,_),(30,_)] (fun T L0 mz E I' loc'=>∃ (seen:List Nat) (zs:List Int) (v:Value) (q:Nat) (L:Go.Kn.Loc),mz=sn.length-seen.length∧E=(4,v)::T∧I2=I'∧(b_30,YL ref sn.length seen)::L=loc'∧OwnS 3 1 v q (zs.flatMap QQ) L∧q≤n2+512*k+seen.length∧zdx ps ys k zs (zl6 sn seen)∧seen.Nodup∧∀ i∈seen,i<sn.length) ?_ (h:=⟨[],zs,v,q,L,rfl,rfl,rfl,rfl,hO,by simpa using hq5,hM.congr (fun x=>(zbh sn x).symm),.nil,fun i h=>by cases h⟩)
  rintro mz E I' loc' ⟨seen,zs,v,q,L,rfl,rfl,rfl,rfl,hO,hq5,hM,hnd2,hlt⟩
  have hsl:=Jb hnd2 hlt
  refine zR ?_
  refine Jt (ek:=Value.int .i64) (ev:=Value.bool) (m:=sn) (fun s'=>(b_30,YL ref sn.length s')::L) rfl (fun s'=>.here) rfl rfl rfl rfl rfl (.inl hsn) (by simp) ?_
  intro t tv s' hno hyes
  refine zN (Ql ?_)
  refine zI ?_ ?_<;>intro hc32
  ·
   obtain ⟨i,q,hq,hns,rfl⟩:=hyes hc32
   refine Qo (Qa (Qm (zR ?_)))
   refine zV (Jv (ek:=Value.int .i64) (ev:=Value.bool) (m:=sn) (p:=q) (seen:=seen) (i:=i) rfl (.inl hsn) (.inr (by simp)) hq) ?_
   refine zE ?_
   refine zA (zN (Qg ?_))
   refine zM ?_
   refine zM ?_
   refine Qq (ps:=[(0,_)]) (m:=[QQ q.1]) Zh rfl (.cons rfl (.nil)) rfl (by simp [Qv]) (by decide) (by decide) rfl rfl (fun b_37=>?_)
   refine QW (v:=_) (ys:=[q.1].flatMap QQ) (L:=L) rfl rfl Zh hO (by repeat (first | exact .cons .here .nil | exact QD | exact Qx | apply QC | apply QB)) ⟨rfl,fun _=>rfl,zxO⟩ (JI [q.1]) (by omega) rfl rfl ?_
   intro v9 L9 hO9 _;rw [←List.flatMap_append] at hO9
   refine zA (Qb (Qh ?_))
   have hnd3:(seen++[i]).Nodup:=List.nodup_append.2 ⟨hnd2,by simp,fun a ha b hb e=>hns (by simp at hb;subst hb;subst e;exact ha)⟩
   have hlt3:∀ j∈seen++[i],j<sn.length:=fun j hj=>(List.mem_append.1 hj).elim (hlt j) (fun h=>by simp at h;subst h;exact (List.getElem?_eq_some_iff.1 hq).1)
   have hsl2:=Jb hnd3 hlt3
   rw [List.length_append,List.length_singleton] at hsl2
   exact Jk _ _ (L9++[(b_30,_)]) ⟨sn.length-(seen++[i]).length,by rw [List.length_append,List.length_singleton];omega,seen++[i],zs++[q.1],v9,_,L9,rfl,rfl,rfl,rfl,hO9,by rw [List.length_append,List.length_singleton];omega,hM.put (fun x=>Xn hq x),hnd3,hlt3⟩ (.cons rfl (.cons rfl (.cons rfl (.cons rfl (.cons rfl (.cons rfl (.cons rfl .nil))))))) (zcf _ _) (by repeat (first | exact .refl | exact Zi | refine Yf ?_ | refine .drop ?_ | refine Z2 ?_))
  obtain ⟨rfl,hall2⟩:=hno hc32
  refine QI (Qf (Qf (Qk (Qh (Qa (Qg (zB ?_)))))))
  refine zM (Qb ?_)
  exact zm (h:=⟨n2-(k+1),by omega,k+1,zs,v,q,L,rfl,rfl,rfl,rfl,by omega,hO,by omega,(hM.next hy (fun x=>zaO hsq hall2 x)),ziG hy hall hhas⟩)
 have hge_k:n2≤k:=by have h:=hc20;simp at h;omega
 rw [ZE hT.len hge_k] at hall
 have hk2:n2=k:=by omega
 refine QI (Qf (Qf (Qk (Qa (Ql (zR (zM ?_)))))))
 refine qc (vs:=[_]) rfl zrk (zuS hT hn2) ?_
 refine zO (zN ?_)
 refine zI ?_ ?_<;>intro hc42
 ·
  have hbad:clE ps ys=380:=zpw hlen (zt9 (by simpa using hc42))
  refine zR (zA ?_)
  refine zA (zN (Qt (Qc ?_)))
  first
  | exact ZF rfl rfl rfl (fun w hw=>⟨_,I2,[],rfl,hIc,hw.drop,by rw [hbad];exact zkx.empty rfl⟩)
 have hgood:clE ps ys=0:=zuA hlen (zuv (by simpa using hc42) hall)
 refine Qo (Qa (Ql ?_))
 refine Y5 hO Qv (by decide) (by repeat (first | exact .cons .here .nil | exact QD | exact Qx | apply QC | apply QB)) (fun I5 hI5 af5 cf5 ef5 hZ=>?_)
 subst ef5
 have hT:=hT.mono hI5;have hIc:=hIc.trans hI5
 refine Qg (zM ?_)
 refine Qz (cap:=[]) (vs:=[_,_]) rfl rfl zva .nil (zoB hZ (by have:=hT.len;omega) .nil (by omega)) rfl rfl ?_
 rintro vv6 I6 L6 hI6 ⟨rfl,av9,c9,rfl,hR⟩
 have hT:=hT.mono hI6;have hIc:=hIc.trans hI6
 refine zA ?_
 refine zA (zN (Qt ?_))
 first
 | exact ZF rfl rfl rfl (fun w hw=>⟨_,I6,[],rfl,hIc,hw.drop,by rw [hgood];exact zkx.good rfl (by rw [zhF rfl];exact zk1 hL hM (by rw [hT.len];omega) hall) hR⟩)
theorem zgR {I:Qu}{av:Option Addr}{n c:Nat}{ps:List Pt}(hP:SlP I av n c ps)(hn:n≤512)(hL:Lst ps)(hnd:∀ p∈ps,p.n≤100000){bv:Option Addr}{n2 c2:Nat}{ys:List Int}(hT:Sl I 1 QQ bv n2 c2 ys)(hn2:n2≤100000):Zx Tryz.prog 49 [.slice av n c,.slice bv n2 c2] I (.int .i64 (vrE ps ys)):=by
 intro g H w hw
 refine qe Tryz.func49 Tryz.ntmps49 hw ?_
 have hIc:=zxQ I
 refine zR (zA ?_)
 refine zN (zR ?_)
 refine zM ?_
 refine zM ?_
 refine Qz (cap:=[]) (vs:=[_,_]) rfl rfl zrS .nil (zhn hP hn hL hnd hT hn2) rfl rfl ?_
 rintro vv1 I1 L1 hI1 ⟨rfl,av9,c9,rfl,hR⟩
 have hT:=hT.mono hI1;have hIc:=hIc.trans hI1
 refine zM ?_
 refine zE ?_
 refine zE ?_
 refine zA ?_
 refine zA (zN (Ql (zR ?_)))
 refine zM ?_
 refine zC ?_
 refine zM ?_
 refine QE 2 rfl rfl rfl ?_
 refine zK (Qi rfl) ?_
 refine zK (Zp rfl Qw) ?_
 refine zK (Qi rfl) ?_
 refine zK (Zp rfl Qw) ?_
 refine zK (QH rfl rfl rfl) ?_
 refine QO rfl rfl rfl rfl rfl ?_
 refine zN ?_
 refine zI ?_ ?_<;>intro hc20
 ·
  have hv:vrE ps ys=380:=by rw [←zsP (v:=ys) hL rfl,hT.len,if_pos hc20]
  refine zR (zA (zN (Qt (Qc ?_))))
  exact zp hIc rfl rfl (by rw [hv]<;>rfl)
 have hv:vrE ps ys=clE ps ys:=by rw [←zsP (v:=ys) hL rfl,hT.len,if_neg (by rw [hc20];exact Bool.false_ne_true)]
 refine Qo (Qa (zR (zM ?_)))
 refine zA (zN (Qt ?_))
 exact zp hIc rfl rfl (by rw [hv]<;>rfl)
end
section
open Go Go.Kn Go.Proofs
abbrev zjF:=Value×Nat×List Value
theorem zob {ps:List Pt}{ws:List Int}{k:Nat}{p:Pt}(hp:ps[k]? =some p)(h:(ws.any fun x=>x==p.id)=false):YM (ps.take (k+1)) ws=YM (ps.take k) ws:=by
 unfold YM
 rw [Z0 hp,List.filter_append,List.filter_cons,h];simp
theorem zkZ {ps:List Pt}{ws:List Int}{k:Nat}{p:Pt}(hp:ps[k]? =some p)(h:(ws.any fun x=>x==p.id)=true):YM (ps.take (k+1)) ws=YM (ps.take k) ws++[p]:=by
 unfold YM
 rw [Z0 hp,List.filter_append,List.filter_cons,h];rfl
/-! ### Removes -/
theorem WH.start:WH [] []:=fun _s=>rfl
theorem WH.put' {mr:List (Int×zjF)}{l:List Pt}{n:Nat}{p:Pt}{v:Value}(h:WH mr l)(hk:p.kind=3):WH (Yp mr p.sign (v,n,((Zs mr p.sign).getD V3).2.2++[p.id].flatMap QQ)) (l++[p]):=by
 have h1:WH mr ((l++[p]).take l.length):=by simpa using h
 have:=WH.put (v:=v) (n:=n) h1 (show (l++[p])[l.length]? =some p by simp) hk
 rw [show (l++[p]).take (l.length+1)=l++[p] from List.take_of_length_le (by simp)] at this
 exact this
theorem WH.skip' {mr:List (Int×zjF)}{l:List Pt}{p:Pt}(h:WH mr l)(hk:p.kind≠3):WH mr (l++[p]):=by
 have h1:WH mr ((l++[p]).take l.length):=by simpa using h
 have:=WH.skip h1 (show (l++[p])[l.length]? =some p by simp) hk
 rw [show (l++[p]).take (l.length+1)=l++[p] from List.take_of_length_le (by simp)] at this
 exact this
/-! ### Sets -/
def zgm (ms:List ((Int×Int)×zjF))(l:List Pt):Prop:=∀ q:Int×Int,((Zs ms q).getD V3).2.2=(stF l q.1 q.2).flatMap Yt
theorem zgm.start:zgm [] []:=fun _q=>rfl
theorem zeU (l:List Pt)(p:Pt)(s f:Int):stF (l++[p]) s f=stF l s f++(if p.kind=1∧p.sign=s∧p.field=f then [p] else []):=by
 unfold stF
 rw [List.filter_append]
 congr 1
 by_cases h:p.kind=1∧p.sign=s∧p.field=f
 ·
  rw [if_pos h];simp [h.1,h.2.1,h.2.2]
 ·
  rw [if_neg h]
  have:(p.kind==1&&(p.sign==s&&p.field==f))=false:=by
   rw [Bool.eq_false_iff];intro hc;simp at hc;exact h hc
  simp [this]
theorem zgm.put {ms:List ((Int×Int)×zjF)}{l:List Pt}{n:Nat}{p:Pt}{v:Value}(h:zgm ms l)(hk:p.kind=1):zgm (Yp ms (p.sign,p.field) (v,n,((Zs ms (p.sign,p.field)).getD V3).2.2++[p].flatMap Yt)) (l++[p]):=fun q=>by
 rw [zeU,Yx]
 by_cases e:(p.sign,p.field)=q
 ·
  subst e;rw [if_pos rfl,if_pos ⟨hk,rfl,rfl⟩,List.flatMap_append,←h];rfl
 ·
  rw [if_neg e,if_neg (fun h2=>e (Prod.ext h2.2.1 h2.2.2)),List.append_nil,h q]
theorem zgm.skip {ms:List ((Int×Int)×zjF)}{l:List Pt}{p:Pt}(h:zgm ms l)(hk:p.kind≠1):zgm ms (l++[p]):=fun q=>by
 rw [zeU,if_neg (fun h2=>hk h2.1),List.append_nil,h q]
theorem Xk {l:List Pt}{s f:Int}:(stF l s f).length≤l.length:=List.length_filter_le _ _
theorem zuP {e:Nat}{ms:List ((Int×Int)×zjF)}{l:List Pt}{q:Int×Int}{L:Go.Kn.Loc}(h:zgm ms l)(hO:OwnS e 19 ((Zs ms q).getD V3).1 ((Zs ms q).getD V3).2.1 ((Zs ms q).getD V3).2.2 L):((Zs ms q).getD V3).2.1≤l.length:=by
 have h1:=hO.1
 rw [h q,ZR Q1] at h1
 have h2:=Xk (l:=l) (s:=q.1) (f:=q.2)
 omega
theorem zss {I:Qu}{e:Nat}{ms:List ((Int×Int)×zjF)}{l:List Pt}{L:Go.Kn.Loc}(h:zgm ms l)(hA:Vj e 19 (ms.map (·.2)) L)(hI:∀ b o,(b,o)∈L→I b=some o)(q:Int×Int):
  ∃ av c,((Zs ms q).getD V3).1= .slice av (stF l q.1 q.2).length c∧Sl I 19 Yt av (stF l q.1 q.2).length c (stF l q.1 q.2):=by
 obtain ⟨A,Lt,B,rfl,hO,_⟩:=hA.at q
 rw [h q] at hO
 obtain ⟨av,c,e1,e2⟩:=hO.sl Q1 (by decide) (fun b o hb=>hI b o (by simp [hb]))
 have hn:=e2.len
 rw [←hn] at e1 e2
 exact ⟨av,c,e1,e2⟩
/-! ### Signs that are known -/
def zcl (s:List (Int×Bool))(bs:List Sg)(l:List Pt):Prop:=∀ x,ze3 s x=(WR bs x||zfO l x)
theorem ziU {bs:List Sg}{k:Nat}{b:Sg}(hb:bs[k]? =some b)(x:Int):WR (bs.take (k+1)) x=(decide (b.id=x)||WR (bs.take k) x):=by
 unfold WR
 rw [Z0 hb,List.any_append,Bool.eq_iff_iff]
 simp [or_comm]
theorem zcw (l:List Pt)(p:Pt)(x:Int):zfO (l++[p]) x=(zfO l x||(p.kind==2&&p.sign==x)):=by
 unfold zfO
 rw [List.any_append];simp
theorem zcl.put {s:List (Int×Bool)}{bs:List Sg}{l:List Pt}{p:Pt}(h:zcl s bs l)(hk:p.kind=2):zcl (Yp s p.sign true) bs (l++[p]):=fun x=>by
 rw [Xd,h x,zcw,hk,Bool.eq_iff_iff]
 simp only [Bool.or_eq_true,decide_eq_true_eq,Bool.and_eq_true,beq_iff_eq,true_and]
 constructor
 ·
  rintro (h | h | h)
  ·
   exact .inr (.inr h)
  ·
   exact .inl h
  ·
   exact .inr (.inl h)
 ·
  rintro (h | h | h)
  ·
   exact .inr (.inl h)
  ·
   exact .inr (.inr h)
  ·
   exact .inl h
theorem zcl.skip {s:List (Int×Bool)}{bs:List Sg}{l:List Pt}{p:Pt}(h:zcl s bs l)(hk:p.kind≠2):zcl s bs (l++[p]):=fun x=>by
 rw [h x,zcw,show (p.kind==2)=false by simpa using hk,Bool.false_and,Bool.or_false]
theorem zf8 {s:List (Int×Bool)}{bs:List Sg}{n:Nat}(h:∀ x,ze3 s x=WR (bs.take n) x)(hn:bs.length≤n):zcl s bs []:=fun x=>by
 rw [h x,List.take_of_length_le hn];simp [zfO]
theorem zqf {ps:List Pt}(hL:Lst ps){k:Nat}{p q:Pt}(hp:ps[k]? =some p)(hq:q∈ps)(h:q.id<p.id):q∈ps.take k:=by
 obtain ⟨j,hj⟩:=List.getElem?_of_mem hq
 obtain ⟨hj1,hj2⟩:=List.getElem?_eq_some_iff.1 hj
 obtain ⟨hk1,hk2⟩:=List.getElem?_eq_some_iff.1 hp
 rw [List.mem_take_iff_getElem]
 refine ⟨j,?_,hj2⟩
 have hjk:j<k:=by
  rcases Nat.lt_or_ge j k with h3 | h3
  ·
   exact h3
  ·
   exfalso
   by_cases e:k=j
   ·
    subst e;rw [hp] at hj;cases hj;omega
   ·
    have:=List.pairwise_iff_getElem.1 hL.inc k j hk1 hj1 (by omega)
    rw [hj2,hk2] at this;omega
 omega
theorem zbv {l:List Pt}{s:Int}:zfO l s=true↔ ∃ q∈l,q.kind=2∧q.sign=s:=by
 unfold zfO
 rw [List.any_eq_true];simp
theorem zfs {ps:List Pt}{ws:List Int}{bs:List Sg}{k:Nat}{p:Pt}{kn:Bool}(hS:Sto ps)(hp:ps[k]? =some p)(_hin:(ws.any fun x=>x==p.id)=true)(hkn:kn=(WR bs p.sign||zfO (YM (ps.take k) ws) p.sign)):
  (kn==(p.kind==2))= !zrs bs (YM ps ws) p:=by
 subst hkn
 have hpm:=List.mem_of_getElem? hp
 unfold zrs
 by_cases hk:p.kind=2
 ·
  have h1:zfO (YM (ps.take k) ws) p.sign=false:=by
   rw [Bool.eq_false_iff]
   intro hc
   obtain ⟨q,hq,hq2,hqs⟩:=zbv.1 hc
   obtain ⟨hq1,_⟩:=Y2.1 hq
   have hlt:=hS.lst.fresh hp q hq1
   rcases hS.ins hpm (List.mem_of_mem_take hq1) hqs.symm hq2 with rfl | ⟨h,_⟩
   ·
    omega
   ·
    exact h hk
  rw [h1,hk];simp
 ·
  have h1:zfO (YM (ps.take k) ws) p.sign=zfO (YM ps ws) p.sign:=by
   rw [Bool.eq_iff_iff,zbv,zbv]
   constructor
   ·
    rintro ⟨q,hq,h⟩
    obtain ⟨hq1,hq2⟩:=Y2.1 hq
    exact ⟨q,Y2.2 ⟨List.mem_of_mem_take hq1,hq2⟩,h⟩
   ·
    rintro ⟨q,hq,h2,hs⟩
    obtain ⟨hq1,hq2⟩:=Y2.1 hq
    rcases hS.ins hpm hq1 hs.symm h2 with rfl | ⟨_,h⟩
    ·
     exact absurd h2 hk
    ·
     exact ⟨q,Y2.2 ⟨zqf hS.lst hp hq1 (hS.lst.on_lt h).1,hq2⟩,h2,hs⟩
  rw [h1,show (p.kind==2)=false by simpa using hk]
  have:(p.kind != 2)=true:=by simpa using hk
  rw [this]
  cases WR bs p.sign<;>cases zfO (YM ps ws) p.sign<;>rfl
/-! ### Signs that are inserted -/
def zbp (l:List Pt):List Sg:=(l.filter fun p=>p.kind==2).map (·.nw)
theorem zk9 {l:List Pt}{p:Pt}(h:p.kind=2):zbp (l++[p])=zbp l++[p.nw]:=by
 unfold zbp;rw [List.filter_append];simp [h]
theorem zbw {l:List Pt}{p:Pt}(h:p.kind≠2):zbp (l++[p])=zbp l:=by
 unfold zbp;rw [List.filter_append];simp [h]
theorem zkT (xs:List Sg)(k:Sg):(zfM xs k).Perm (k::xs):=by
 unfold zfM
 refine List.perm_middle.trans (List.Perm.cons _ ?_)
 rw [List.takeWhile_append_dropWhile]
theorem zaY:∀ (l:List Pt) (bs:List Sg),(WE bs l).Perm (bs++zbp l)
 | [],bs=>by unfold WE zbp;simp
 | p::l,bs=>by
  have h:=zaY l (if p.kind=2 then zfM bs p.nw else bs)
  have e:WE bs (p::l)=WE (if p.kind=2 then zfM bs p.nw else bs) l:=rfl
  rw [e]
  refine h.trans ?_
  by_cases hk:p.kind=2
  ·
   rw [if_pos hk]
   have e2:zbp (p::l)=p.nw::zbp l:=by unfold zbp;simp [hk]
   rw [e2]
   exact ((zkT bs p.nw).append_right _).trans List.perm_middle.symm
  ·
   rw [if_neg hk]
   have e2:zbp (p::l)=zbp l:=by unfold zbp;simp [hk]
   rw [e2]
theorem zjp {xs ys:List Sg}(h1:Srt xs)(h2:Srt ys)(hp:∀ a,a∈xs↔a∈ys):xs=ys:=by
 have key:∀ {xs ys:List Sg},Srt ys→(∀ a∈xs,a∈ys)→∀ s x,Ym xs s=some x→Ym ys s=some x:=fun h hm s x hx=>by
  have:=zg1 h (hm x (zfj hx))
  rw [zqd hx] at this
  exact this
 refine zpS h1 h2 fun s=>?_
 cases hx:Ym xs s with
 | some x=>exact (key h2 (fun a ha=>(hp a).1 ha) s x hx).symm
 | none=>
  cases hy:Ym ys s with
  | none=>rfl
  | some y=>rw [key h1 (fun a ha=>(hp a).2 ha) s y hy] at hx;cases hx
theorem zkw {bs zs:List Sg}{l:List Pt}(hb:Srt bs)(hS:Sto l)(hf:zgj bs l=true)(hp:zs.Perm (bs++zbp l))(hs:zs.Pairwise (fun x y=>Go.Proofs.ltOf znN y x=false)):zs=WE bs l:=by
 have h1:=(zmn hb hS hf).1
 have hp2:=zaY l bs
 have hnd:((WE bs l).map (·.id)).Nodup:=by
  rw [List.nodup_iff_pairwise_ne,List.pairwise_map]
  exact List.Pairwise.imp (fun {a b} h=>by omega) h1
 have hnd2:((bs++zbp l).map (·.id)).Nodup:=(hp2.map (·.id)).nodup_iff.1 hnd
 exact zjp (zlD hp hs hnd2) h1 fun a=>(hp.trans hp2.symm).mem_iff
/-! ### The state -/
def zvl (I:Qu)(r:Nat)(l:List Pt):Prop:=∃ ms:List ((Int×Int)×zjF),I r=some (ZM YA WC ms)∧∀ q:Int×Int,∃ av c,((Zs ms q).getD V3).1= .slice av (stF l q.1 q.2).length c∧Sl I 19 Yt av (stF l q.1 q.2).length c (stF l q.1 q.2)
theorem zvl.mono {I I':Qu}{r:Nat}{l:List Pt}(h:zvl I r l)(hI:HLe I I'):zvl I' r l:=by
 obtain ⟨ms,h1,h2⟩:=h
 exact ⟨ms,hI _ _ h1,fun q=>by obtain ⟨av,c,h3,h4⟩:=h2 q;exact ⟨av,c,h3,h4.mono hI⟩⟩
def zvq (I:Qu)(r:Nat)(l:List Pt):Prop:=∃ mr:List (Int×zjF),I r=some (ZM (Value.int .i64) WC mr)∧∀ s,∃ av c,((Zs mr s).getD V3).1= .slice av (rmF l s).length c∧Sl I 1 QQ av (rmF l s).length c (rmF l s)
theorem zvq.mono {I I':Qu}{r:Nat}{l:List Pt}(h:zvq I r l)(hI:HLe I I'):zvq I' r l:=by
 obtain ⟨mr,h1,h2⟩:=h
 exact ⟨mr,hI _ _ h1,fun s=>by obtain ⟨av,c,h3,h4⟩:=h2 s;exact ⟨av,c,h3,h4.mono hI⟩⟩
structure StQ (I:Qu)(ps l:List Pt)(xs:List Sg)(r1 r2 r3:Nat)(av:Option Addr)(n c:Nat):Prop where
 on:OnM I r1 ps
 set:zvl I r2 l
 rem:zvq I r3 l
 sg:Sl I 14 Vc av n c xs
 sub:∀ p∈l,p∈ps
 nd:∀ p∈ps,Nd I p
 lst:Lst ps
 few:ps.length≤512
 fewl:l.length≤512
theorem StQ.mono {I I':Qu}{ps l:List Pt}{xs:List Sg}{r1 r2 r3:Nat}{av:Option Addr}{n c:Nat}(h:StQ I ps l xs r1 r2 r3 av n c)(hI:HLe I I'):StQ I' ps l xs r1 r2 r3 av n c:=
 ⟨h.on.mono hI,h.set.mono hI,h.rem.mono hI,h.sg.mono hI,h.sub,fun p hp=>(h.nd p hp).mono hI,h.lst,h.few,h.fewl⟩
def stA (r1 r2 r3:Nat)(av:Option Addr)(n c:Nat):Value:=.agg #[.map (some r1),.map (some r2),.map (some r3),.slice av n c]
def RdQ (e:Int)(ps l:List Pt)(xs:List Sg):Value→Qu→Go.Kn.Loc→Prop:=fun v I' L=>L=[]∧∃ m1 m2 m3 av n c,v= .tuple #[.agg #[.map m1,.map m2,.map m3,.slice av n c],.int .i64 e]∧(e=0→∃ r1 r2 r3,m1=some r1∧m2=some r2∧m3=some r3∧StQ I' ps l xs r1 r2 r3 av n c)
theorem zpO {ps:List Pt}{bs:List Sg}{ws:List Int}(h:KX ps≠0):X3 ps bs ws=KX ps:=by unfold X3;rw [if_pos h]
theorem zrg {ps:List Pt}{bs:List Sg}{ws:List Int}(h:KX ps=0)(h2:Wm bs≠0):X3 ps bs ws=Wm bs:=by unfold X3;rw [if_neg (by omega),if_pos h2]
theorem ztP {ps:List Pt}{bs:List Sg}{ws:List Int}(h:KX ps=0)(h2:Wm bs=0)(h3:vrE ps ws≠0):X3 ps bs ws=vrE ps ws:=by
 unfold X3;rw [if_neg (by omega),if_neg (by omega)]
 unfold vrE at*
 split
 ·
  rfl
 ·
  rename_i h4
  rw [if_neg h4] at h3
  cases hv:zj9 ps ws with
  | true=>rw [hv] at h3;exact absurd rfl h3
  | false=>rfl
theorem zmL {ps:List Pt}{ws:List Int}(h:vrE ps ws=0):¬ws.length>512:=fun h2=>by unfold vrE at h;rw [if_pos h2] at h;cases h
theorem zti {ps:List Pt}{bs:List Sg}{ws:List Int}(h:KX ps=0)(h2:Wm bs=0)(h3:vrE ps ws=0)(h4:zgj bs (YM ps ws)=false):X3 ps bs ws=380:=by
 unfold X3;rw [if_neg (by omega),if_neg (by omega),if_neg (zmL h3),h4,Bool.and_false];rfl
theorem zwI {ps:List Pt}{bs:List Sg}{ws:List Int}(h:KX ps=0)(h2:Wm bs=0)(h3:vrE ps ws=0)(h4:zgj bs (YM ps ws)=true):X3 ps bs ws=0:=by
 unfold X3;rw [if_neg (by omega),if_neg (by omega),if_neg (zmL h3),h4,znH h3];rfl
theorem zp5 {ps:List Pt}{bs:List Sg}{ws:List Int}{p:Pt}(hp:p∈ps)(hin:(ws.any fun x=>x==p.id)=true)(h:zrs bs (YM ps ws) p=false):zgj bs (YM ps ws)=false:=by
 unfold zgj
 exact List.all_eq_false.2 ⟨p,List.mem_filter.2 ⟨hp,hin⟩,by rw [h];exact Bool.false_ne_true⟩
theorem zuU {x a b c:Nat×Obj}{Lg Ls Lr:Go.Kn.Loc}:(x::(Lg++(a::b::c::(Ls++Lr)))).Perm (Lg++(x::a::b::c::(Ls++Lr))):=List.perm_middle.symm
theorem ztp {x a b c:Nat×Obj}{Lg A L B Lr:Go.Kn.Loc}:(x::(Lg++(a::b::c::((A++(L++B))++Lr)))).Perm (L++(x::(Lg++(a::b::c::(A++(B++Lr)))))):=by
 have h1:((A++(L++B))++Lr).Perm (L++(A++(B++Lr))):=by
  rw [List.append_assoc,List.append_assoc];exact List.perm_append_comm_assoc A L _
 have h2:(x::(Lg++(a::b::c::((A++(L++B))++Lr)))).Perm (x::(Lg++(a::b::c::(L++(A++(B++Lr)))))):=((h1.cons c |>.cons b |>.cons a).append_left Lg).cons x
 refine h2.trans ?_
 have h3:(a::b::c::(L++(A++(B++Lr)))).Perm (L++(a::b::c::(A++(B++Lr)))):=List.perm_append_comm_assoc [a,b,c] L _
 refine ((h3.append_left Lg).cons x).trans ?_
 exact List.perm_append_comm_assoc (x::Lg) L _
theorem zm4 {x a b c:Nat×Obj}{Lg A L B Ls:Go.Kn.Loc}:(x::(Lg++(a::b::c::(Ls++(A++(L++B)))))).Perm (L++(x::(Lg++(a::b::c::(Ls++(A++B)))))):=by
 have h1:(Ls++(A++(L++B))).Perm (L++(Ls++(A++B))):=by
  refine ((List.perm_append_comm_assoc A L B).append_left Ls).trans (List.perm_append_comm_assoc Ls L _)
 have h2:=((h1.cons c |>.cons b |>.cons a).append_left Lg).cons x
 refine h2.trans ?_
 have h3:(a::b::c::(L++(Ls++(A++B)))).Perm (L++(a::b::c::(Ls++(A++B)))):=List.perm_append_comm_assoc [a,b,c] L _
 refine ((h3.append_left Lg).cons x).trans ?_
 exact List.perm_append_comm_assoc (x::Lg) L _
end
end Go.Proofs.YtodakphagkommaaGreatDoor.R
