/- apparatusLater_holds, part E of the proof: what its theorems say holds without further conditions. -/
import Derived.Test.YtodakphagkommaaGreatDoorProg
import Derived.KernelRfl
import Derived.Lib.Hide
import Derived.Lib.SlicesCompact
import Derived.Lib.RowBridge
import Derived.Test.YtodakphagkommaaGreatDoorALD
namespace Go.Proofs.YtodakphagkommaaGreatDoor
section
open Go Go.Kn Go.Proofs
theorem YH:AgT Tryz.prog 38 4:=.of (by kernel_rfl)
theorem XX:PlT Tryz.prog 38 #[(0,1),(1,1),(2,1),(3,1)] (.agg #[(.int .i64 0),(.int .i64 0),(.slice none 0 0),(.slice none 0 0)]):=⟨.of (by kernel_rfl),by kernel_rfl,fun w=>by kernel_rfl⟩
theorem Vk:SzT Tryz.prog 38 4:=.of (by kernel_rfl)
theorem UM:Yn Tryz.prog 38 (.agg #[(.int .i64 0),(.int .i64 0),(.slice none 0 0),(.slice none 0 0)]):=.of (by kernel_rfl)
theorem zwE {I:Qu}{bv:Option Addr}{n2 c2:Nat}{rows:List (List Int)}(hV:SlN I bv n2 c2 rows)(hn2:n2≤100000)(q:Nat)(hq:∀ r∈rows,q<r.length)(c:Int):Yc Tryz.prog 123 [.slice bv n2 c2,.int .i64 (q:Nat),.int .i64 c] I [] (zbG 1 QP (K3 rows q c)):=by
 intro g H w hw
 refine qe Tryz.func123 Tryz.ntmps123 hw ?_
 have hIc:=zyv I
 have hVl:=hV.len
 obtain ⟨hs,hVH⟩:=id hV
 have hHH:=hVH.1
 refine zR (zA (zN (Ql (zR ?_))))
 refine zM ?_
 refine zQ Zn ?_
 refine zM (zN (Qm ?_))
 refine zU [(1,_),(2,_),(9,_),(10,_)] (fun T L0 mz E I' loc'=>∃ (k:Nat) (v:Value) (m:Nat) (L:Go.Kn.Loc),mz=n2-k∧E=(6,v)::(11,.int .i64 k)::T∧I=I'∧L=loc'∧k≤n2∧OwnS 3 1 v m ((ixF (fun r=>r.getD q 0==c) (rows.take k)).flatMap QP) L∧m≤k) ?_ (h:=⟨0,_,0,[],rfl,rfl,rfl,rfl,Nat.zero_le _,by rw [List.take_zero];exact OwnS.nil,Nat.le_refl _⟩)
 rintro mz E I' loc' ⟨k,v,m,L,rfl,rfl,rfl,rfl,hk,hO,hm⟩
 refine zR (zC (zN (Ql ?_)))
 refine zI ?_ ?_<;>intro hc12
 ·
  have hlt_k:k<n2:=by have h:=hc12;simp at h;omega
  obtain ⟨hx,rx,hhx,hrx,hQ⟩:=hVH.at hlt_k
  have hqk:=hq rx (List.mem_of_getElem? hrx)
  have hQl:=hQ.len
  have hgx:rx[q]? =some (rx.getD q 0):=Zj rfl (by omega)
  refine Qo (Qa (Ql (Qm (zR (zM ?_)))))
  refine zV (zX Zn hHH) ?_
  refine zV (Qd rfl QK (fun hg=>by exact zyo hHH hhx rfl)) ?_
  refine zA ?_
  refine zA ?_
  refine zN (zR ?_)
  refine zM ?_
  refine zM ?_
  refine zV (zX Qy hQ) ?_
  refine zV (Qd rfl Qt (fun hg=>by exact zyo (k:=q) hQ hgx rfl)) ?_
  refine zM ?_
  refine zC (zN ?_)
  refine zI ?_ ?_<;>intro hc21
  ·
   have hy:(rx.getD q 0==c)=true:=by simpa using hc21
   refine Qg (zM ?_)
   refine zM ?_
   refine Qq (ps:=[(0,_)]) (m:=[QP (k:Int)]) Zf rfl (.cons rfl (.nil)) rfl (by simp [Qv]) (by decide) (by decide) rfl rfl (fun b_24=>?_)
   refine QW (v:=_) (ys:=[(k:Int)].flatMap QP) (L:=L) rfl rfl Zf hO (by repeat (first | exact .cons .here .nil | exact QD | exact Qw | apply QC | apply QA)) ⟨rfl,fun _=>rfl,by repeat (first | exact zyt | apply zys | apply zyu)⟩ (JG _) (by omega) rfl rfl ?_
   intro v9 L9 hO9 _;rw [←List.flatMap_append] at hO9
   refine zA (Qb (Qh (Qa (Qg ?_))))
   refine zB ?_
   refine zM (Qb ?_)
   first
   | exact zm (h:=⟨n2-(k+1),by omega,k+1,_,_,_,rfl,rfl,rfl,rfl,by omega,by rw [zif hrx hy];exact hO9,by omega⟩)
  have hy:(rx.getD q 0==c)=false:=by simpa using hc21
  refine Qo (Qh (Qa (Qg (zB ?_))))
  refine zM (Qb ?_)
  first
  | exact zm (h:=⟨n2-(k+1),by omega,k+1,_,_,_,rfl,rfl,rfl,rfl,by omega,by rw [zqZ hrx hy];exact hO,by omega⟩)
 have hge_k:n2≤k:=by have h:=hc12;simp at h;omega
 rw [ZF hVl hge_k] at hO
 refine QH (Qe (Qe (Qk (Qa (zR (zM ?_))))))
 refine zA (zN (Qs ?_))
 exact Zt rfl rfl (fun w hw=>by obtain ⟨I9,h91,h92,h93⟩:=OwnS.res hO Qv (by decide) hw;exact ⟨_,I9,[],rfl,hIc.trans h91,h92,h93⟩)
theorem zbx {I:Qu}{av:Option Addr}{n c:Nat}{xs:List Int}(hS:Sl I 1 QP av n c xs){bv:Option Addr}{n2 c2:Nat}{ys:List Int}(hT:Sl I 1 QP bv n2 c2 ys)(hn:n≤100000):Zx Tryz.prog 43 [.slice av n c,.slice bv n2 c2] I (.bool (decide (xs=ys))):=by
 intro g H w hw
 refine qe Tryz.func43 Tryz.ntmps43 hw ?_
 have hl1:=hS.len
 have hl2:=hT.len
 refine zR (zA (zN (Ql (zR ?_))))
 refine zM ?_
 refine zQ Qy ?_
 refine zM ?_
 refine zQ Qy ?_
 refine zC (zN ?_)
 refine zI ?_ ?_<;>intro hc10
 ·
  have hne:xs≠ys:=fun e=>by have h:=hc10;subst e;simp at h;omega
  refine zR (zA (zN (Qs (Qc ?_))))
  exact zr rfl rfl (by rw [decide_eq_false hne])
 have hnn:n=n2:=by have h:=hc10;simp at h;omega
 refine Qo (Qa (Ql (zR (zA (zN (Qm ?_))))))
 refine zU [(0,_),(1,_)] (fun T L0 mz E I' loc'=>∃ (k:Nat),mz=n-k∧E=(5,.int .i64 k)::T∧I=I'∧L0=loc'∧k≤n∧xs.take k=ys.take k) ?_ (h:=⟨0,rfl,rfl,rfl,rfl,Nat.zero_le _,rfl⟩)
 rintro mz E I' loc' ⟨k,rfl,rfl,rfl,rfl,hk,hall⟩
 refine Ql (zR (zM ?_))
 refine zM ?_
 refine zQ Qy ?_
 refine zC (zN ?_)
 refine zI ?_ ?_<;>intro hc14
 ·
  have hlt_k:k<n:=by have h:=hc14;simp at h;omega
  obtain ⟨x,hx⟩:=hS.at hlt_k
  obtain ⟨y,hy⟩:=hT.at (show k<n2 by omega)
  refine Qo (Qa (Ql (Qm (Ql ?_))))
  refine Va mixed (by kernel_rfl) ?_
  refine zq (Qi rfl) ?_
  refine zq (Qi rfl) ?_
  refine zq (zX Qy hS) ?_
  refine zq (Qd rfl Qt (fun hg=>by exact zyo hS hx rfl)) ?_
  refine zq (Qi rfl) ?_
  refine zq (Qi rfl) ?_
  refine zq (zX Qy hT) ?_
  refine zq (Qd rfl Qt (fun hg=>by exact zyo hT hy rfl)) ?_
  refine zq (QJ rfl rfl rfl) ?_
  refine Vc ?_
  refine Qa ?_
  refine zI ?_ ?_<;>intro hc25
  ·
   have hne:xs≠ys:=fun e=>by subst e;rw [hx] at hy;cases hy;simp at hc25
   refine zR (zA (zN (Qs (Qn (Qc (Qc (Qn ?_)))))))
   refine Qc ?_
   exact zr rfl rfl (by rw [decide_eq_false hne])
  have hxy:x=y:=by simpa using hc25
  refine Qo (Qh (Qa (Qg (zM ?_))))
  refine zB ?_
  refine zA (Qb ?_)
  exact zm (h:=⟨n-(k+1),by omega,k+1,rfl,rfl,rfl,rfl,by omega,by rw [List.take_add_one,List.take_add_one,hall,hx,hy,hxy]⟩)
 have hge_k:n≤k:=by have h:=hc14;simp at h;omega
 have heq:xs=ys:=by rw [List.take_of_length_le (by omega),List.take_of_length_le (by omega)] at hall;exact hall
 refine QH (Qe (Qe (Qk (Qa (zR (zA (zN ?_)))))))
 refine Qs ?_
 exact zr rfl rfl (by rw [decide_eq_true heq])
end
section
open Go Go.Kn Go.Proofs
theorem zjz:ElT Tryz.prog 72 77 2 32:=.of (by kernel_rfl)
theorem zjb:PlT Tryz.prog 77 #[(0,1),(1,1)] (.agg #[(.int .i64 0),(.slice none 0 0)]):=⟨.of (by kernel_rfl),by kernel_rfl,fun w=>by kernel_rfl⟩
end
section
open Go Go.Kn Go.Proofs
def zv4 (rows:List (List Int))(rd:List Int)(k:Nat):List En:=if (K3 rows k (rd.getD k 0)).length<rows.length then [⟨(k:Int),rd.getD k 0,zoh rows k⟩] else []
def ziv (rows:List (List Int))(rd:List Int)(k:Nat):List En:=(List.range k).flatMap (zv4 rows rd)
theorem zcn {rows:List (List Int)}{rd:List Int}{k:Nat}:ziv rows rd (k+1)=ziv rows rd k++zv4 rows rd k:=by
 unfold ziv;rw [List.range_succ,List.flatMap_append];simp
theorem zmz {rows:List (List Int)}{rd:List Int}{k:Nat}(h:(K3 rows k (rd.getD k 0)).length<rows.length):ziv rows rd (k+1)=ziv rows rd k++[⟨(k:Int),rd.getD k 0,zoh rows k⟩]:=by rw [zcn];unfold zv4;rw [if_pos h]
theorem zph {rows:List (List Int)}{rd:List Int}{k:Nat}(h:¬(K3 rows k (rd.getD k 0)).length<rows.length):ziv rows rd (k+1)=ziv rows rd k:=by rw [zcn];unfold zv4;rw [if_neg h,List.append_nil]
def zwI (e:Int)(rows:List (List Int))(rd:List Int):List En:=if e≠0 then [] else ziv rows rd rd.length
theorem zq8 {e:Int}{rows:List (List Int)}{rd:List Int}(h:e≠0):zwI e rows rd=[]:=if_pos h
theorem zeW {e:Int}{rows:List (List Int)}{rd:List Int}(h:e=0):zwI e rows rd=ziv rows rd rd.length:=if_neg (by omega)
def zxd (e:Int)(xs:List En)(v:Value)(I:Qu)(L:Go.Kn.Loc):Prop:=L=[]∧∃ a n c,v= .tuple #[.slice a n c,.int .i64 e]∧zeS I a n c xs
theorem zeS.nil {I:Qu}:zeS I none 0 0 []:=⟨[],.nil,zal.nil⟩
theorem SlV.len {I:Qu}{a:Option Addr}{n c:Nat}{vs:List Vt}(h:SlV I a n c vs):vs.length=n:=by obtain ⟨hs,h1,h2⟩:=h;rw [←h2.1];exact h1.len
theorem zeS.len {I:Qu}{a:Option Addr}{n c:Nat}{vs:List En}(h:zeS I a n c vs):vs.length=n:=by obtain ⟨hs,h1,h2⟩:=h;rw [←h2.1];exact h1.len
def eqL {α:Type}(P:α→α→Bool):List α→List α→Bool
 | [],[]=>true
 | a::as1,b::bs=>P a b&&eqL P as1 bs
 | _,_=>false
theorem zd6 {α:Type}{P:α→α→Bool}:∀ {xs ys:List α},xs.length≠ys.length→eqL P xs ys=false
 | [],[],h=>absurd rfl h
 | _::_,[],_=>rfl
 | [],_::_,_=>rfl
 | a::xs,b::ys,h=>by
  unfold eqL;rw [zd6 (xs:=xs) (ys:=ys) (fun e=>h (by simp [e])),Bool.and_false]
theorem zbh {α:Type}{P:α→α→Bool}:∀ {xs ys:List α} {k:Nat} {x y:α},xs[k]? =some x→ys[k]? =some y→eqL P (xs.take (k+1)) (ys.take (k+1))=(eqL P (xs.take k) (ys.take k)&&P x y)
 | [],_,k,x,y,h,_=>by simp at h
 | _::_,[],k,x,y,_,h=>by simp at h
 | a::xs,b::ys,0,x,y,h1,h2=>by simp at h1 h2;subst h1;subst h2;simp [eqL]
 | a::xs,b::ys,k+1,x,y,h1,h2=>by
  simp only [List.getElem?_cons_succ] at h1 h2
  simp only [List.take_succ_cons,eqL]
  rw [zbh h1 h2,Bool.and_assoc]
theorem zec {α:Type}{P:α→α→Bool}:∀ {xs ys:List α} {k:Nat} {x y:α},xs[k]? =some x→ys[k]? =some y→P x y=false→eqL P xs ys=false
 | [],_,k,x,y,h,_,_=>by simp at h
 | _::_,[],k,x,y,_,h,_=>by simp at h
 | a::xs,b::ys,0,x,y,h1,h2,h=>by simp at h1 h2;subst h1;subst h2;unfold eqL;rw [h];rfl
 | a::xs,b::ys,k+1,x,y,h1,h2,h=>by
  simp only [List.getElem?_cons_succ] at h1 h2
  unfold eqL;rw [zec h1 h2 h,Bool.and_false]
theorem zaT {α:Type}{P:α→α→Bool}(h:∀ a,P a a=true):∀ xs:List α,eqL P xs xs=true
 | []=>rfl
 | a::xs=>by unfold eqL;rw [h a,zaT h xs];rfl
theorem dm2 {p q c:Bool}(h:(!p|| !q)=c):(p&&q)= !c:=by cases p<;>cases q<;>simp_all
theorem dm3 {p q r c:Bool}(h:((!p|| !q)|| !r)=c):((p&&q)&&r)= !c:=by cases p<;>cases q<;>cases r<;>simp_all
def vtE (x y:Vt):Bool:=x.code==y.code&&decide (x.ws=y.ws)
def enE (x y:En):Bool:=(x.loc==y.loc&&x.lem==y.lem)&&eqL vtE x.vs y.vs
theorem zkV (x:Vt):vtE x x=true:=by simp [vtE]
theorem zk7 (x:En):enE x x=true:=by unfold enE;rw [zaT zkV];simp
def ogE (x y:Og):Bool:=x.k==y.k&&(x.r==y.r&&(decide (x.ws=y.ws)&&decide (x.ps=y.ps)))
theorem zeG (x:Og):ogE x x=true:=by simp [ogE]
end
section
open Go Go.Kn Go.Proofs
theorem zhZ:ElT Tryz.prog 29 74 3 40:=.of (by kernel_rfl)
theorem zbz:QX Tryz.prog 38 0 0:=.of (by kernel_rfl)
theorem zfb:QX Tryz.prog 38 1 1:=.of (by kernel_rfl)
theorem zfs:QX Tryz.prog 38 2 2:=.of (by kernel_rfl)
theorem Xn:QX Tryz.prog 38 3 3:=.of (by kernel_rfl)
theorem zew:QX Tryz.prog 74 0 0:=.of (by kernel_rfl)
theorem zeu:QX Tryz.prog 74 1 1:=.of (by kernel_rfl)
theorem W8:QX Tryz.prog 74 2 2:=.of (by kernel_rfl)
theorem zeA:QX Tryz.prog 77 0 0:=.of (by kernel_rfl)
theorem zfJ:QX Tryz.prog 77 1 1:=.of (by kernel_rfl)
theorem zuY:Fun Tryz.prog 35:=.of Tryz.func35 (by kernel_rfl) (by kernel_rfl)
theorem zhJ:Fun Tryz.prog 43:=.of Tryz.func43 (by kernel_rfl) (by kernel_rfl)
theorem zn6:PlT Tryz.prog 74 #[(0,1),(1,1),(2,1)] (.agg #[(.int .i64 0),(.int .i64 0),(.slice none 0 0)]):=⟨.of (by kernel_rfl),by kernel_rfl,fun w=>by kernel_rfl⟩
theorem zhp:ScT Tryz.prog 72:=.of (by kernel_rfl)
theorem UZ:SlT Tryz.prog 29 74 3:=.of (by kernel_rfl)
theorem zah:SlT Tryz.prog 72 77 2:=.of (by kernel_rfl)
theorem zl2 {I:Qu}{av:Option Addr}{n c:Nat}{xs:List Vt}(hS:SlV I av n c xs){bv:Option Addr}{n2 c2:Nat}{ys:List Vt}(hT:SlV I bv n2 c2 ys)(hn:n≤100000)(hlb:∀ v∈xs,v.ws.length≤100000):Zx Tryz.prog 35 [.slice av n c,.slice bv n2 c2] I (.bool (eqL vtE xs ys)):=by
 intro g H w hw
 refine qe Tryz.func35 Tryz.ntmps35 hw ?_
 have hl1:=hS.len
 have hl2:=hT.len
 obtain ⟨hs,hSh,hSr⟩:=hS
 obtain ⟨ht,hTh,hTr⟩:=hT
 refine zR (zA (zN (Ql (zR ?_))))
 refine zM ?_
 refine zQ zah ?_
 refine zM ?_
 refine zQ zah ?_
 refine zC (zN ?_)
 refine zI ?_ ?_<;>intro hc10
 ·
  have hne:xs.length≠ys.length:=by have h:=hc10;simp at h;omega
  refine zR (zA (zN (Qs (Qc ?_))))
  exact zr rfl rfl (by rw [zd6 hne])
 have hnn:n=n2:=by have h:=hc10;simp at h;omega
 refine Qo (Qa (Ql (zR (zA (zN (Qm ?_))))))
 refine zU [(0,_),(1,_)] (fun T L0 mz E I' loc'=>∃ (k:Nat),mz=n-k∧E=(5,.int .i64 k)::T∧I=I'∧L0=loc'∧k≤n∧eqL vtE (xs.take k) (ys.take k)=true) ?_ (h:=⟨0,rfl,rfl,rfl,rfl,Nat.zero_le _,rfl⟩)
 rintro mz E I' loc' ⟨k,rfl,rfl,rfl,rfl,hk,hall⟩
 refine Ql (zR (zM ?_))
 refine zM ?_
 refine zQ zah ?_
 refine zC (zN ?_)
 refine zI ?_ ?_<;>intro hc14
 ·
  have hlt_k:k<n:=by have h:=hc14;simp at h;omega
  obtain ⟨u,hu⟩:∃ u,xs[k]? =some u:=⟨_,List.getElem?_eq_getElem (by omega)⟩
  obtain ⟨v,hv⟩:∃ v,ys[k]? =some v:=⟨_,List.getElem?_eq_getElem (by omega)⟩
  obtain ⟨x,hx,rx⟩:=hSr.at hu
  obtain ⟨y,hy,ry⟩:=hTr.at hv
  have hub:=hlb u (List.mem_of_getElem? hu)
  refine Qo (Qa (Ql (Qm (Ql ?_))))
  refine Va mixed (by kernel_rfl) ?_
  refine zq (Qi rfl) ?_
  refine zq (Qi rfl) ?_
  refine zq (zX zah hSh) ?_
  refine zq (Qf rfl zeA) ?_
  refine zq (Qd rfl Qt (fun hg=>by exact zyo hSh hx rfl)) ?_
  refine zq (Qi rfl) ?_
  refine zq (Qi rfl) ?_
  refine zq (zX zah hTh) ?_
  refine zq (Qf rfl zeA) ?_
  refine zq (Qd rfl Qt (fun hg=>by exact zyo hTh hy rfl)) ?_
  refine zq (QJ rfl rfl rfl) ?_
  refine zq (Qi rfl) ?_
  refine VY 11 rfl rfl rfl ?_
  refine zj (Qi rfl) ?_
  refine zj (Qi rfl) ?_
  refine zj (zX zah hSh) ?_
  refine zj (Qf rfl zfJ) ?_
  refine zj (Qd rfl QK (fun hg=>by exact zyx (j:=1) hSh hx rfl)) ?_
  refine zj (Qi rfl) ?_
  refine zj (Qi rfl) ?_
  refine zj (zX zah hTh) ?_
  refine zj (Qf rfl zfJ) ?_
  refine zj (Qd rfl QK (fun hg=>by exact zyx (j:=1) hTh hy rfl)) ?_
  refine UW (cap:=[]) (vs:=[_,_]) rfl rfl zhJ (fun hg=>zbx rx.2 ry.2 (by rw [←rx.2.len];exact hub)) (.some rfl rfl rfl rfl gbf) rfl rfl ?_
  refine zj (Vd rfl) ?_
  refine U0 rfl rfl rfl rfl rfl ?_
  refine Vc ?_
  refine Qa ?_
  refine zI ?_ ?_<;>intro hc41
  ·
   have hxy:vtE u v=false:=by unfold vtE;rw [←rx.1,←ry.1];exact dm2 hc41
   refine zR (zA (zN (Qs (Qn (Qc (Qc (Qn ?_)))))))
   refine Qc ?_
   exact zr rfl rfl (by rw [zec hu hv hxy])
  have hxy:vtE u v=true:=by unfold vtE;rw [←rx.1,←ry.1];exact dm2 hc41
  refine Qo (Qh (Qa (Qg (zM ?_))))
  refine zB ?_
  refine zA (Qb ?_)
  exact zm (h:=⟨n-(k+1),by omega,k+1,rfl,rfl,rfl,rfl,by omega,by rw [zbh hu hv,hall,hxy];rfl⟩)
 have hge_k:n≤k:=by have h:=hc14;simp at h;omega
 rw [List.take_of_length_le (by omega),List.take_of_length_le (by omega)] at hall
 refine QH (Qe (Qe (Qk (Qa (zR (zA (zN ?_)))))))
 refine Qs ?_
 exact zr rfl rfl (by rw [hall])
theorem zk1 {I:Qu}{av:Option Addr}{n c:Nat}{xs:List En}(hS:zeS I av n c xs){bv:Option Addr}{n2 c2:Nat}{ys:List En}(hT:zeS I bv n2 c2 ys)(hn:n≤100000)(hlb:∀ v∈xs,v.vs.length≤100000∧∀ u∈v.vs,u.ws.length≤100000):Zx Tryz.prog 13 [.slice av n c,.slice bv n2 c2] I (.bool (eqL enE xs ys)):=by
 intro g H w hw
 refine qe Tryz.func13 Tryz.ntmps13 hw ?_
 have hl1:=hS.len
 have hl2:=hT.len
 obtain ⟨hs,hSh,hSr⟩:=hS
 obtain ⟨ht,hTh,hTr⟩:=hT
 refine zR (zA (zN (Ql (zR ?_))))
 refine zM ?_
 refine zQ UZ ?_
 refine zM ?_
 refine zQ UZ ?_
 refine zC (zN ?_)
 refine zI ?_ ?_<;>intro hc10
 ·
  have hne:xs.length≠ys.length:=by have h:=hc10;simp at h;omega
  refine zR (zA (zN (Qs (Qc ?_))))
  exact zr rfl rfl (by rw [zd6 hne])
 have hnn:n=n2:=by have h:=hc10;simp at h;omega
 refine Qo (Qa (Ql (zR (zA (zN (Qm ?_))))))
 refine zU [(0,_),(1,_)] (fun T L0 mz E I' loc'=>∃ (k:Nat),mz=n-k∧E=(5,.int .i64 k)::T∧I=I'∧L0=loc'∧k≤n∧eqL enE (xs.take k) (ys.take k)=true) ?_ (h:=⟨0,rfl,rfl,rfl,rfl,Nat.zero_le _,rfl⟩)
 rintro mz E I' loc' ⟨k,rfl,rfl,rfl,rfl,hk,hall⟩
 refine Ql (zR (zM ?_))
 refine zM ?_
 refine zQ UZ ?_
 refine zC (zN ?_)
 refine zI ?_ ?_<;>intro hc14
 ·
  have hlt_k:k<n:=by have h:=hc14;simp at h;omega
  obtain ⟨u,hu⟩:∃ u,xs[k]? =some u:=⟨_,List.getElem?_eq_getElem (by omega)⟩
  obtain ⟨v,hv⟩:∃ v,ys[k]? =some v:=⟨_,List.getElem?_eq_getElem (by omega)⟩
  obtain ⟨x,hx,rx⟩:=hSr.at hu
  obtain ⟨y,hy,ry⟩:=hTr.at hv
  have hub:=hlb u (List.mem_of_getElem? hu)
  refine Qo (Qa (Ql (Qm (Ql ?_))))
  refine Va mixed (by kernel_rfl) ?_
  refine zq (Qi rfl) ?_
  refine zq (Qi rfl) ?_
  refine zq (zX UZ hSh) ?_
  refine zq (Qf rfl zew) ?_
  refine zq (Qd rfl Qt (fun hg=>by exact zyo hSh hx rfl)) ?_
  refine zq (Qi rfl) ?_
  refine zq (Qi rfl) ?_
  refine zq (zX UZ hTh) ?_
  refine zq (Qf rfl zew) ?_
  refine zq (Qd rfl Qt (fun hg=>by exact zyo hTh hy rfl)) ?_
  refine zq (QJ rfl rfl rfl) ?_
  refine zq (Qi rfl) ?_
  refine VY 11 rfl rfl rfl ?_
  refine zj (Qi rfl) ?_
  refine zj (Qi rfl) ?_
  refine zj (zX UZ hSh) ?_
  refine zj (Qf rfl zeu) ?_
  refine zj (Qd rfl Qt (fun hg=>by exact zyx (j:=1) hSh hx rfl)) ?_
  refine zj (Qi rfl) ?_
  refine zj (Qi rfl) ?_
  refine zj (zX UZ hTh) ?_
  refine zj (Qf rfl zeu) ?_
  refine zj (Qd rfl Qt (fun hg=>by exact zyx (j:=1) hTh hy rfl)) ?_
  refine zj (QJ rfl rfl rfl) ?_
  refine U0 rfl rfl rfl rfl rfl ?_
  refine zq (Qi rfl) ?_
  refine VY 24 rfl rfl rfl ?_
  refine zj (Qi rfl) ?_
  refine zj (Qi rfl) ?_
  refine zj (zX UZ hSh) ?_
  refine zj (Qf rfl W8) ?_
  refine zj (Qd rfl zhp (fun hg=>by exact zyx (j:=2) hSh hx rfl)) ?_
  refine zj (Qi rfl) ?_
  refine zj (Qi rfl) ?_
  refine zj (zX UZ hTh) ?_
  refine zj (Qf rfl W8) ?_
  refine zj (Qd rfl zhp (fun hg=>by exact zyx (j:=2) hTh hy rfl)) ?_
  refine UW (cap:=[]) (vs:=[_,_]) rfl rfl zuY (fun hg=>zl2 rx.2.2 ry.2.2 (by rw [←rx.2.2.len];exact hub.1) hub.2) (.some rfl rfl rfl rfl gbf) rfl rfl ?_
  refine zj (Vd rfl) ?_
  refine U0 rfl rfl rfl rfl rfl ?_
  refine Vc ?_
  refine Qa ?_
  refine zI ?_ ?_<;>intro hc54
  ·
   have hxy:enE u v=false:=by unfold enE;rw [←rx.1,←ry.1,←rx.2.1,←ry.2.1];exact dm3 hc54
   refine zR (zA (zN (Qs (Qn (Qc (Qc (Qn ?_)))))))
   refine Qc ?_
   exact zr rfl rfl (by rw [zec hu hv hxy])
  have hxy:enE u v=true:=by unfold enE;rw [←rx.1,←ry.1,←rx.2.1,←ry.2.1];exact dm3 hc54
  refine Qo (Qh (Qa (Qg (zM ?_))))
  refine zB ?_
  refine zA (Qb ?_)
  exact zm (h:=⟨n-(k+1),by omega,k+1,rfl,rfl,rfl,rfl,by omega,by rw [zbh hu hv,hall,hxy];rfl⟩)
 have hge_k:n≤k:=by have h:=hc14;simp at h;omega
 rw [List.take_of_length_le (by omega),List.take_of_length_le (by omega)] at hall
 refine QH (Qe (Qe (Qk (Qa (zR (zA (zN ?_)))))))
 refine Qs ?_
 exact zr rfl rfl (by rw [hall])
theorem zj8 {I:Qu}{o1 o2:Og}{a1:Option Addr}{n1 c1:Nat}{a2:Option Addr}{n2 c2:Nat}(h1:Sl I 1 QP a1 n1 c1 o1.ws)(h2:Sl I 1 QP a2 n2 c2 o1.ps){a3:Option Addr}{n3 c3:Nat}{a4:Option Addr}{n4 c4:Nat}(h3:Sl I 1 QP a3 n3 c3 o2.ws)(h4:Sl I 1 QP a4 n4 c4 o2.ps)(hb1:n1≤100000)(hb2:n2≤100000):Zx Tryz.prog 18 [.agg #[.int .i64 o1.k,.int .i64 o1.r,.slice a1 n1 c1,.slice a2 n2 c2],.agg #[.int .i64 o2.k,.int .i64 o2.r,.slice a3 n3 c3,.slice a4 n4 c4]] I (.bool (ogE o1 o2)):=by
 intro g H w hw
 refine qe Tryz.func18 Tryz.ntmps18 hw ?_
 refine zR ?_
 refine Q5 rfl rfl rfl (fun b_2=>?_)
 refine Q5 rfl rfl rfl (fun b_3=>?_)
 refine zA ?_
 refine zN (zR ?_)
 refine zF zbz ?_
 refine zL Qt ?_
 refine zF zbz ?_
 refine zL Qt ?_
 refine zC ?_
 refine zM ?_
 refine QG 5 rfl rfl rfl ?_
 refine zK (Qf rfl zfb) ?_
 refine zK (Qd rfl Qt (fun hg=>by exact QV.h1 rfl)) ?_
 refine zK (Qf rfl zfb) ?_
 refine zK (Qd rfl Qt (fun hg=>by exact QV.h0 rfl)) ?_
 refine zK (QJ rfl rfl rfl) ?_
 refine QO rfl rfl rfl rfl rfl ?_
 refine zM ?_
 refine QG 12 rfl rfl rfl ?_
 refine zK (Qf rfl zfs) ?_
 refine zK (Qd rfl QK (fun hg=>by exact QV.h1 rfl)) ?_
 refine zK (Qf rfl zfs) ?_
 refine zK (Qd rfl QK (fun hg=>by exact QV.h0 rfl)) ?_
 refine qg (vs:=[_,_]) rfl zhJ (fun hg=>zbx h1 h3 hb1) ?_
 refine QO rfl rfl rfl rfl rfl ?_
 refine zM ?_
 refine QG 19 rfl rfl rfl ?_
 refine zK (Qf rfl Xn) ?_
 refine zK (Qd rfl QK (fun hg=>by exact QV.h1 rfl)) ?_
 refine zK (Qf rfl Xn) ?_
 refine zK (Qd rfl QK (fun hg=>by exact QV.h0 rfl)) ?_
 refine qg (vs:=[_,_]) rfl zhJ (fun hg=>zbx h2 h4 hb2) ?_
 refine QO rfl rfl rfl rfl rfl ?_
 refine zA (zN (Qs ?_))
 exact zr rfl rfl (by unfold ogE;simp only [Bool.and_assoc])
theorem zo4 {I:Qu}{av:Option Addr}{n c:Nat}{xs:List (Int×Int)}(hS:Sl I 2 VO av n c xs){bv:Option Addr}{n2 c2:Nat}{ys:List (Int×Int)}(hT:Sl I 2 VO bv n2 c2 ys)(hn:n≤100000):Zx Tryz.prog 19 [.slice av n c,.slice bv n2 c2] I (.bool (decide (xs=ys))):=by
 intro g H w hw
 refine qe Tryz.func19 Tryz.ntmps19 hw ?_
 have hl1:=hS.len
 have hl2:=hT.len
 refine zR (zA (zN (Ql (zR ?_))))
 refine zM ?_
 refine zQ K9 ?_
 refine zM ?_
 refine zQ K9 ?_
 refine zC (zN ?_)
 refine zI ?_ ?_<;>intro hc10
 ·
  have hne:xs≠ys:=fun e=>by have h:=hc10;subst e;simp at h;omega
  refine zR (zA (zN (Qs (Qc ?_))))
  exact zr rfl rfl (by rw [decide_eq_false hne])
 have hnn:n=n2:=by have h:=hc10;simp at h;omega
 refine Qo (Qa (Ql (zR (zA (zN (Qm ?_))))))
 refine zU [(0,_),(1,_)] (fun T L0 mz E I' loc'=>∃ (k:Nat),mz=n-k∧E=(5,.int .i64 k)::T∧I=I'∧L0=loc'∧k≤n∧xs.take k=ys.take k) ?_ (h:=⟨0,rfl,rfl,rfl,rfl,Nat.zero_le _,rfl⟩)
 rintro mz E I' loc' ⟨k,rfl,rfl,rfl,rfl,hk,hall⟩
 refine Ql (zR (zM ?_))
 refine zM ?_
 refine zQ K9 ?_
 refine zC (zN ?_)
 refine zI ?_ ?_<;>intro hc14
 ·
  have hlt_k:k<n:=by have h:=hc14;simp at h;omega
  obtain ⟨x,hx⟩:=hS.at hlt_k
  obtain ⟨y,hy⟩:=hT.at (show k<n2 by omega)
  refine Qo (Qa (Ql (Qm (Ql ?_))))
  refine Va mixed (by kernel_rfl) ?_
  refine zq (Qi rfl) ?_
  refine zq (Qi rfl) ?_
  refine zq (zX K9 hS) ?_
  refine zq (Qp rfl zaG (fun hg=>by exact zyw hS hx) rfl) ?_
  refine zq (Qi rfl) ?_
  refine zq (Qi rfl) ?_
  refine zq (zX K9 hT) ?_
  refine zq (Qp rfl zaG (fun hg=>by exact zyw hT hy) rfl) ?_
  refine zq (zoD rfl rfl zfM) ?_
  refine Vc ?_
  refine Qa ?_
  refine zI ?_ ?_<;>intro hc25
  ·
   have hne:xs≠ys:=fun e=>by subst e;rw [hx] at hy;cases hy;simp at hc25
   refine zR (zA (zN (Qs (Qn (Qc (Qc (Qn ?_)))))))
   refine Qc ?_
   exact zr rfl rfl (by rw [decide_eq_false hne])
  have hxy:x=y:=by have h:=hc25;simp at h;exact Prod.ext h.1 h.2
  refine Qo (Qh (Qa (Qg (zM ?_))))
  refine zB ?_
  refine zA (Qb ?_)
  exact zm (h:=⟨n-(k+1),by omega,k+1,rfl,rfl,rfl,rfl,by omega,by rw [List.take_add_one,List.take_add_one,hall,hx,hy,hxy]⟩)
 have hge_k:n≤k:=by have h:=hc14;simp at h;omega
 have heq:xs=ys:=by rw [List.take_of_length_le (by omega),List.take_of_length_le (by omega)] at hall;exact hall
 refine QH (Qe (Qe (Qk (Qa (zR (zA (zN ?_)))))))
 refine Qs ?_
 exact zr rfl rfl (by rw [decide_eq_true heq])
end
end Go.Proofs.YtodakphagkommaaGreatDoor
namespace Go.Proofs.YtodakphagkommaaGreatDoor.R
section
open Go Go.Kn Go.Proofs
theorem Y8:AgT Tryz.prog 159 4:=.of (by kernel_rfl)
theorem zpk:AgT Tryz.prog 254 9:=.of (by kernel_rfl)
theorem Yr:AgT Tryz.prog 57 19:=.of (by kernel_rfl)
theorem Um:ArT Tryz.prog 254 9 253 1:=.of (by kernel_rfl)
theorem zgT:CvT Tryz.prog 186 3 .i64:=⟨by kernel_rfl,by kernel_rfl⟩
theorem UK:ElT Tryz.prog 36 57 19 168:=.of (by kernel_rfl)
theorem zct:QX Tryz.prog 159 0 0:=.of (by kernel_rfl)
theorem Xx:QX Tryz.prog 159 1 1:=.of (by kernel_rfl)
theorem UE:QX Tryz.prog 159 2 2:=.of (by kernel_rfl)
theorem UD:QX Tryz.prog 159 3 3:=.of (by kernel_rfl)
theorem Zu:QX Tryz.prog 57 0 0:=.of (by kernel_rfl)
theorem KU:QX Tryz.prog 57 1 1:=.of (by kernel_rfl)
theorem Ya:QX Tryz.prog 57 2 2:=.of (by kernel_rfl)
theorem Jp:QX Tryz.prog 57 3 3:=.of (by kernel_rfl)
theorem VX:QX Tryz.prog 57 4 4:=.of (by kernel_rfl)
theorem KV:QX Tryz.prog 57 5 18:=.of (by kernel_rfl)
theorem zia:Fun Tryz.prog 116:=.of Tryz.func116 (by kernel_rfl) (by kernel_rfl)
theorem zp7:Fun Tryz.prog 138:=.of Tryz.func138 (by kernel_rfl) (by kernel_rfl)
theorem zov:Fun Tryz.prog 139:=.of Tryz.func139 (by kernel_rfl) (by kernel_rfl)
theorem zrF:Fun Tryz.prog 140:=.of Tryz.func140 (by kernel_rfl) (by kernel_rfl)
theorem zra:Fun Tryz.prog 141:=.of Tryz.func141 (by kernel_rfl) (by kernel_rfl)
theorem zqn:Fun Tryz.prog 143:=.of Tryz.func143 (by kernel_rfl) (by kernel_rfl)
theorem zqb:Fun Tryz.prog 144:=.of Tryz.func144 (by kernel_rfl) (by kernel_rfl)
theorem zoA:Fun Tryz.prog 145:=.of Tryz.func145 (by kernel_rfl) (by kernel_rfl)
theorem zjP:Fun Tryz.prog 146:=.of Tryz.func146 (by kernel_rfl) (by kernel_rfl)
theorem zj7:Fun Tryz.prog 147:=.of Tryz.func147 (by kernel_rfl) (by kernel_rfl)
theorem zqc:Fun Tryz.prog 149:=.of Tryz.func149 (by kernel_rfl) (by kernel_rfl)
theorem zoN:Fun Tryz.prog 161:=.of Tryz.func161 (by kernel_rfl) (by kernel_rfl)
theorem zdp:Fun Tryz.prog 169:=.of Tryz.func169 (by kernel_rfl) (by kernel_rfl)
theorem zg3:Fun Tryz.prog 190:=.of Tryz.func190 (by kernel_rfl) (by kernel_rfl)
theorem zrM:Fun Tryz.prog 193:=.of Tryz.func193 (by kernel_rfl) (by kernel_rfl)
theorem zpA:Fun Tryz.prog 194:=.of Tryz.func194 (by kernel_rfl) (by kernel_rfl)
theorem zpz:Fun Tryz.prog 195:=.of Tryz.func195 (by kernel_rfl) (by kernel_rfl)
theorem zeb:Fun Tryz.prog 196:=.of Tryz.func196 (by kernel_rfl) (by kernel_rfl)
theorem zrz:Fun Tryz.prog 232:=.of Tryz.func232 (by kernel_rfl) (by kernel_rfl)
theorem znq:Fun Tryz.prog 48:=.of Tryz.func48 (by kernel_rfl) (by kernel_rfl)
theorem zod:Fun Tryz.prog 49:=.of Tryz.func49 (by kernel_rfl) (by kernel_rfl)
theorem zn4:Fun Tryz.prog 50:=.of Tryz.func50 (by kernel_rfl) (by kernel_rfl)
theorem ztR:Fun Tryz.prog 83:=.of Tryz.func83 (by kernel_rfl) (by kernel_rfl)
theorem zsR:Fun Tryz.prog 84:=.of Tryz.func84 (by kernel_rfl) (by kernel_rfl)
theorem zsu:Fun Tryz.prog 86:=.of Tryz.func86 (by kernel_rfl) (by kernel_rfl)
theorem zup:Fun Tryz.prog 88:=.of Tryz.func88 (by kernel_rfl) (by kernel_rfl)
theorem zjG:Fun Tryz.prog 89:=.of Tryz.func89 (by kernel_rfl) (by kernel_rfl)
theorem zvK:Fun Tryz.prog 90:=.of Tryz.func90 (by kernel_rfl) (by kernel_rfl)
theorem KE:MpT Tryz.prog 156 3 167 (.map none):=⟨by kernel_rfl,.of (by kernel_rfl)⟩
theorem zej:MpT Tryz.prog 157 79 36 (.slice none 0 0):=⟨by kernel_rfl,.of (by kernel_rfl)⟩
theorem Vn:MpT Tryz.prog 167 3 4 (.bool false):=⟨by kernel_rfl,.of (by kernel_rfl)⟩
theorem YS:MpT Tryz.prog 91 3 23 (.slice none 0 0):=⟨by kernel_rfl,.of (by kernel_rfl)⟩
theorem zpx:PlT Tryz.prog 159 #[(0,1),(1,1),(2,1),(3,1)] (.agg #[(.map none),(.map none),(.map none),(.slice none 0 0)]):=⟨.of (by kernel_rfl),by kernel_rfl,fun w=>by kernel_rfl⟩
theorem zfQ:PlT Tryz.prog 52 #[(0,1),(1,1)] (.agg #[(.int .i64 0),(.int .i64 0)]):=⟨.of (by kernel_rfl),by kernel_rfl,fun w=>by kernel_rfl⟩
theorem zh2:ScT Tryz.prog 156:=.of (by kernel_rfl)
theorem zen:ScT Tryz.prog 157:=.of (by kernel_rfl)
theorem zhh:ScT Tryz.prog 167:=.of (by kernel_rfl)
theorem Wx:ScT Tryz.prog 253:=.of (by kernel_rfl)
theorem zci:ScT Tryz.prog 48:=.of (by kernel_rfl)
theorem zfc:ScT Tryz.prog 91:=.of (by kernel_rfl)
theorem Zy:SlT Tryz.prog 36 57 19:=.of (by kernel_rfl)
theorem Uf:SzT Tryz.prog 159 4:=.of (by kernel_rfl)
theorem zpr:SzT Tryz.prog 167 1:=.of (by kernel_rfl)
theorem zoR:SzT Tryz.prog 254 9:=.of (by kernel_rfl)
theorem znw:SzT Tryz.prog 48 1:=.of (by kernel_rfl)
theorem VM:SzT Tryz.prog 57 19:=.of (by kernel_rfl)
theorem zoB:Tryz.prog.underlying 167=some (.map 3 4):=by kernel_rfl
theorem zwr:Tryz.prog.underlying 4=some .bool:=by kernel_rfl
theorem znj:Yn Tryz.prog 159 (.agg #[(.map none),(.map none),(.map none),(.slice none 0 0)]):=.of (by kernel_rfl)
theorem zts:Yn Tryz.prog 167 (.map none):=.of (by kernel_rfl)
theorem zm4:Yn Tryz.prog 254 (.agg #[(.pointer none),(.pointer none),(.pointer none),(.pointer none),(.pointer none),(.pointer none),(.pointer none),(.pointer none),(.pointer none)]):=.of (by kernel_rfl)
theorem K5:Yn Tryz.prog 57 (.agg #[(.int .i64 0),(.int .i64 0),(.int .i64 0),(.int .i64 0),(.int .i64 0),(.int .i64 0),(.int .i64 0),(.int .i64 0),(.int .i64 0),(.int .i64 0),(.int .i64 0),(.int .i64 0),(.int .i64 0),(.int .i64 0),(.int .i64 0),(.int .i64 0),(.int .i64 0),(.int .i64 0),(.slice none 0 0)]):=.of (by kernel_rfl)
end
section
open Go Go.Kn Go.Proofs
theorem zxZ (xs:List Int):(xs.flatMap QP).length=xs.length:=by rw [ZU Qv,Nat.mul_one]
theorem zjw {α:Type}{xs:List α}{k:Nat}{x:α}{p:α→Bool}(hx:xs[k]? =some x)(h:(xs.take k).all p=true)(hp:p x=true):(xs.take (k+1)).all p=true:=by
 rw [List.take_add_one,hx,List.all_append,h];simpa using hp
theorem ziW {α:Type}{xs:List α}{k:Nat}{x:α}{p:α→Bool}(hx:xs[k]? =some x)(hp:p x=false):xs.all p=false:=List.all_eq_false.2 ⟨x,List.mem_of_getElem? hx,by rw [hp];decide⟩
theorem zgt {α:Type}{xs:List α}{k:Nat}{x:α}{p:α→Bool}(h:(xs.take k).any p=false)(hx:xs[k]? =some x)(hp:p x=true):xs.findIdx p=k:=by
 have hk:=(List.getElem?_eq_some_iff.1 hx).1
 rw [List.findIdx_eq hk]
 refine ⟨by rw [(List.getElem?_eq_some_iff.1 hx).2];exact hp,fun j hj=>?_⟩
 have:=List.any_eq_false.1 h xs[j] (by rw [List.mem_take_iff_getElem];exact ⟨j,by omega,rfl⟩)
 simpa using this
theorem Ji {α:Type}{xs:List α}{k:Nat}{x:α}{p:α→Bool}(h:(xs.take k).any p=false)(hx:xs[k]? =some x)(hp:p x=true):Ua p xs=k:=by
 unfold Ua
 rw [JU hx hp,if_pos rfl,zgt h hx hp]
theorem zpl {α:Type}{xs:List α}{p:α→Bool}(h:xs.any p=true):∃ i x,Ua p xs=(i:Nat)∧xs[i]? =some x∧p x=true∧i<xs.length:=by
 obtain ⟨x,hx,hp⟩:=List.any_eq_true.1 h
 have hl:=List.findIdx_lt_length_of_exists ⟨x,hx,hp⟩
 exact ⟨xs.findIdx p,xs[xs.findIdx p],by unfold Ua;rw [h];rfl,List.getElem?_eq_getElem hl,List.findIdx_getElem,hl⟩
theorem zsN {α:Type}{p:α→Bool}:∀ {xs:List α} {k:Nat},(xs.take k).all p=true→k≤xs.length→(∀ y,xs[k]? =some y→p y=false)→xs.takeWhile p=xs.take k∧xs.dropWhile p=xs.drop k
 | [],k,_,hk,_=>by simp
 | x::xs,0,_,_,h=>by
  have:=h x rfl
  simp [this]
 | x::xs,k+1,h,hk,h2=>by
  rw [List.take_succ_cons,List.all_cons,Bool.and_eq_true] at h
  obtain ⟨h3,h4⟩:=zsN h.2 (by simpa using hk) (fun y hy=>h2 y (by simpa using hy))
  rw [List.takeWhile_cons,List.dropWhile_cons,if_pos h.1,if_pos h.1,h3,h4]
  exact ⟨rfl,rfl⟩
theorem Wl:∀ {xs ys:List Int},xs.Pairwise (· < ·)→ys.Pairwise (· < ·)→(∀ a,a∈xs↔a∈ys)→xs=ys
 | [],[],_,_,_=>rfl
 | [],y::ys,_,_,h=>by have:=(h y).2 (List.mem_cons_self ..);cases this
 | x::xs,[],_,_,h=>by have:=(h x).1 (List.mem_cons_self ..);cases this
 | x::xs,y::ys,hx,hy,h=>by
  rw [List.pairwise_cons] at hx hy
  have e:x=y:=by
   rcases List.mem_cons.1 ((h x).1 (List.mem_cons_self ..)) with e | e
   ·
    exact e
   ·
    rcases List.mem_cons.1 ((h y).2 (List.mem_cons_self ..)) with e2 | e2
    ·
     exact e2.symm
    ·
     have h1:=hx.1 _ e2;have h2:=hy.1 _ e;omega
  subst e
  refine congrArg _ (Wl hx.2 hy.2 fun a=>?_)
  constructor
  ·
   intro ha
   rcases List.mem_cons.1 ((h a).1 (List.mem_cons_of_mem _ ha)) with e | e
   ·
    subst e;have:=hx.1 _ ha;omega
   ·
    exact e
  ·
   intro ha
   rcases List.mem_cons.1 ((h a).2 (List.mem_cons_of_mem _ ha)) with e | e
   ·
    subst e;have:=hy.1 _ ha;omega
   ·
    exact e
theorem Wu:∀ {ys xs:List Int},xs.Pairwise (· < ·)→ys.Pairwise (· < ·)→(∀ a∈xs,a∈ys)→xs.length≤ys.length∧(ys.length≤xs.length→xs=ys)
 | [],[],_,_,_=>⟨Nat.le_refl _,fun _=>rfl⟩
 | [],x::xs,_,_,h=>by have:=h x (List.mem_cons_self ..);cases this
 | y::ys,[],_,_,_=>⟨Nat.zero_le _,fun h=>by simp at h⟩
 | y::ys,x::xs,hx,hy,h=>by
  have hx':=List.pairwise_cons.1 hx
  have hy':=List.pairwise_cons.1 hy
  by_cases e:x=y
  ·
   subst e
   have:=Wu hx'.2 hy'.2 fun a ha=>(List.mem_cons.1 (h a (List.mem_cons_of_mem _ ha))).elim (fun e=>by subst e;have:=hx'.1 _ ha;omega) id
   exact ⟨by simpa using this.1,fun hl=>by rw [this.2 (by simpa using hl)]⟩
  ·
   have hxy:y<x:=by
    rcases List.mem_cons.1 (h x (List.mem_cons_self ..)) with e2 | e2
    ·
     exact absurd e2 e
    ·
     exact hy'.1 _ e2
   have:=(Wu hx hy'.2 fun a ha=>(List.mem_cons.1 (h a ha)).elim (fun e2=>by
    subst e2
    rcases List.mem_cons.1 ha with e3 | e3
    ·
     omega
    ·
     have:=hx'.1 _ e3;omega) id).1
   simp only [List.length_cons] at this ⊢
   exact ⟨by omega,fun hl=>by omega⟩
end
section
open Go Go.Kn Go.Proofs
def Vb:Sg:=⟨0,0,0,0,0,0,0,0,0,0,0,0,0,0⟩
instance : DecidableEq Sg := fun a b => decidable_of_iff (zak a b = true) zbd
structure Pt where
 id:Int
 kind:Int
 sign:Int
 field:Int
 nw:Sg
 a:Option Addr
 n:Nat
 c:Nat
 needs:List Int
def Yw (p:Pt):List Value:=[.int .i64 p.id,.int .i64 p.kind,.int .i64 p.sign,.int .i64 p.field,.int .i64 p.nw.id,.int .i64 p.nw.role,.int .i64 p.nw.bar,.int .i64 p.nw.mark,.int .i64 p.nw.kind,.int .i64 p.nw.side,.int .i64 p.nw.dir,.int .i64 p.nw.level,.int .i64 p.nw.size,.int .i64 p.nw.wth,.int .i64 p.nw.fn,.int .i64 p.nw.fd,.int .i64 p.nw.tn,.int .i64 p.nw.td,.slice p.a p.n p.c]
def Wy (p:Pt):Value:=.agg (Yw p).toArray
theorem QY (x:Pt):(Yw x).length=19:=rfl
theorem zlr (xs:List Pt):Yq (xs.flatMap Yw)=true:=Yk (fun _=>rfl) xs
def WT:Pt:=⟨0,0,0,0,Vb,none,0,0,[]⟩
def Nd (I:Qu)(p:Pt):Prop:=Sl I 1 QP p.a p.n p.c p.needs
theorem Nd.mono {I I':Qu}{p:Pt}(h:Nd I p)(hI:HLe I I'):Nd I' p:=Sl.mono h hI
def SlP (I:Qu)(av:Option Addr)(n c:Nat)(ps:List Pt):Prop:=Sl I 19 Yw av n c ps∧∀ p∈ps,Nd I p
theorem SlP.mono {I I':Qu}{av:Option Addr}{n c:Nat}{ps:List Pt}(h:SlP I av n c ps)(hI:HLe I I'):SlP I' av n c ps:=⟨h.1.mono hI,fun p hp=>(h.2 p hp).mono hI⟩
theorem SlP.len {I:Qu}{av:Option Addr}{n c:Nat}{ps:List Pt}(h:SlP I av n c ps):ps.length=n:=h.1.len
theorem SlP.at {I:Qu}{av:Option Addr}{n c:Nat}{ps:List Pt}(h:SlP I av n c ps){k:Nat}(hk:k<n):∃ p,ps[k]? =some p∧Nd I p:=by
 obtain ⟨p,hp⟩:=h.1.at hk
 exact ⟨p,hp,h.2 p (List.mem_of_getElem? hp)⟩
def skP (xs:List Sg)(i:Nat):Bool:= !(!frm (xs.getD i Vb)||(decide ((i:Int)>0)&&decide ((xs.getD ((i:Int)-1).toNat Vb).id≥(xs.getD i Vb).id)))
def skB (xs:List Sg):Bool:=(List.range xs.length).all (skP xs)
def Wz (xs:List Sg):Int:=if xs.length>4096 then 2 else if skB xs then 0 else 360
/-! ### Patches -/
def JC (x:Sg)(f:Int)(y:Sg):Sg:=
 if f=1 then {x with role:=y.role} else if f=2 then {x with bar:=y.bar} else if f=3 then {x with mark:=y.mark} else if f=4 then {x with side:=y.side} else if f=5 then {x with dir:=y.dir}
 else if f=6 then {x with level:=y.level} else if f=7 then {x with size:=y.size} else if f=8 then {x with wth:=y.wth} else if f=9 then {x with fn:=y.fn,fd:=y.fd,tn:=y.tn,td:=y.td} else x
def zfp:Sg:=⟨0,0,0,3,9,0,0,0,0,0,0,1,1,2⟩
def ndP (id:Int)(v:List Int)(i:Nat):Bool:= !((decide (v.getD i 0<1)||decide (v.getD i 0≥id))||(decide ((i:Int)>0)&&decide (v.getD i 0≤v.getD ((i:Int)-1).toNat 0)))
def ndB (id:Int)(v:List Int):Bool:=(List.range v.length).all (ndP id v)
def idB (p:Pt):Bool:=(decide (p.id≥1)&&decide (p.id≤1048576))&&(decide (p.sign≥0)&&decide (p.sign≤1048576))
def Uu (p:Pt):Bool:=
 if p.kind=1 then YG p.field 1 9&&(zak (JC p.nw p.field Vb) Vb&&frm (JC zfp p.field p.nw))
 else if p.kind=2 then p.field==0&&(p.nw.id==p.sign&&frm p.nw)
 else if p.kind=3 then p.field==0&&zak p.nw Vb else false
def JO (p:Pt):Int:=if p.needs.length>32 then 2 else if ndB p.id p.needs&&(idB p&&Uu p) then 0 else 370
end
section
open Go Go.Kn Go.Proofs
def orF:List Int→Int
 | []=>0
 | x::xs=>if x≠0 then x else orF xs
theorem J9:∀ {xs:List Int},orF xs=0↔ ∀ x∈xs,x=0
 | []=>by simp [orF]
 | x::xs=>by
  unfold orF
  by_cases h:x=0
  ·
   rw [if_neg (by simpa using h),J9];simp [h]
  ·
   rw [if_pos h];simp [h]
theorem zk4 {xs:List Int}{k:Nat}{x:Int}(hx:xs[k]? =some x)(h:orF (xs.take k)=0)(hne:x≠0):orF xs=x:=by
 induction xs generalizing k with
 | nil=>simp at hx
 | cons y ys ih=>
  cases k with
  | zero=>
   simp at hx;subst hx
   unfold orF;rw [if_pos hne]
  | succ k=>
   rw [List.take_succ_cons] at h
   unfold orF at h ⊢
   by_cases hy:y=0
   ·
    rw [if_neg (by simpa using hy)] at h ⊢
    exact ih (by simpa using hx) h
   ·
    rw [if_pos hy] at h;exact absurd h hy
def onS (f:Int→Int→Bool)(p:Pt):Int→Int→Bool:=fun a b=>if a=p.id then p.needs.any (fun n=>n==b||f n b) else f a b
def onF (ps:List Pt):Int→Int→Bool:=ps.foldl onS (fun _ _=>false)
def zam (ps:List Pt)(n:Int):Bool:=ps.any (fun q=>q.id==n)
def lsP (ps:List Pt)(i:Nat):Bool:= !((decide ((i:Int)>0)&&decide ((ps.getD i WT).id≤(ps.getD ((i:Int)-1).toNat WT).id))||(ps.getD i WT).needs.any (fun n=> !zam ps n))
def lsB (ps:List Pt):Bool:=(List.range ps.length).all (lsP ps)
def znV (p q:Pt)(on:Bool):Bool:=if p.sign≠q.sign then true else if q.kind=2 then p.kind != 2&&on else if q.kind=3 then !on else true
def zhz (ps:List Pt):Bool:=ps.all fun p=>ps.all fun q=>p.id==q.id||znV p q (onF ps p.id q.id)
def JB (ps:List Pt):Int:=if ps.length>512 then 2 else if orF (ps.map JO)≠0 then orF (ps.map JO) else if lsB ps&&zhz ps then 0 else 380
structure Lst (ps:List Pt):Prop where
 pos:∀ p∈ps,1≤p.id
 inc:ps.Pairwise (fun p q=>p.id<q.id)
 has:∀ p∈ps,∀ n∈p.needs,n<p.id∧∃ q∈ps,q.id=n
theorem VP {ps:List Pt}{n:Int}:zam ps n=true↔ ∃ q∈ps,q.id=n:=by
 unfold zam
 rw [List.any_eq_true]
 simp
theorem Lst.uniq {ps:List Pt}(h:Lst ps){p q:Pt}(hp:p∈ps)(hq:q∈ps)(e:p.id=q.id):p=q:=by
 obtain ⟨i,hi⟩:=List.getElem?_of_mem hp
 obtain ⟨j,hj⟩:=List.getElem?_of_mem hq
 obtain ⟨hi1,hi2⟩:=List.getElem?_eq_some_iff.1 hi
 obtain ⟨hj1,hj2⟩:=List.getElem?_eq_some_iff.1 hj
 by_cases hij:i=j
 ·
  subst hij;rw [hi] at hj;exact Option.some.inj hj
 ·
  rcases Nat.lt_or_gt_of_ne hij with hlt | hlt
  ·
   have:=List.pairwise_iff_getElem.1 h.inc i j hi1 hj1 hlt;rw [hi2,hj2] at this;omega
  ·
   have:=List.pairwise_iff_getElem.1 h.inc j i hj1 hi1 hlt;rw [hi2,hj2] at this;omega
theorem zhb {f:Int→Int→Bool}{p:Pt}{a b:Int}(h:a≠p.id):onS f p a b=f a b:=by unfold onS;rw [if_neg h]
theorem KT:∀ (ps:List Pt) {f:Int→Int→Bool} {a b:Int},(∀ p∈ps,p.id≠a)→ps.foldl onS f a b=f a b
 | [],_,_,_,_=>rfl
 | p::ps,f,a,b,h=>by
  rw [List.foldl_cons,KT ps (fun q hq=>h q (List.mem_cons_of_mem _ hq)),zhb (fun e=>h p (List.mem_cons_self ..) e.symm)]
theorem zmG {ps:List Pt}{a b:Int}(h:∀ p∈ps,p.id≠a):onF ps a b=false:=KT ps h
theorem zcD {ps qs:List Pt}{p:Pt}{b:Int}(h:∀ q∈qs,q.id≠p.id):onF (ps++p::qs) p.id b=p.needs.any (fun n=>n==b||onF ps n b):=by
 unfold onF
 rw [List.foldl_append,List.foldl_cons,KT qs h]
 unfold onS;rw [if_pos rfl]
theorem zez {ps qs:List Pt}{a b:Int}(h:∀ q∈qs,q.id≠a):onF (ps++qs) a b=onF ps a b:=by
 unfold onF
 rw [List.foldl_append,KT qs h]
theorem Lst.tail_ne {ps qs:List Pt}{p:Pt}(h:Lst (ps++p::qs)):(∀ q∈qs,p.id<q.id)∧(∀ q∈ps,q.id<p.id):=by
 have h1:=h.inc
 rw [List.pairwise_append] at h1
 exact ⟨(List.pairwise_cons.1 h1.2.1).1,fun q hq=>h1.2.2 q hq p (List.mem_cons_self ..)⟩
theorem ze8 {α:Type}{xs:List α}{f g:α→Bool}(h:∀ x∈xs,f x=g x):xs.any f=xs.any g:=by
 induction xs with
 | nil=>rfl
 | cons x xs ih=>rw [List.any_cons,List.any_cons,h x (List.mem_cons_self ..),ih fun y hy=>h y (List.mem_cons_of_mem _ hy)]
theorem Lst.on {ps:List Pt}(h:Lst ps){p:Pt}(hp:p∈ps)(b:Int):onF ps p.id b=p.needs.any (fun n=>n==b||onF ps n b):=by
 obtain ⟨l,r,rfl⟩:=List.append_of_mem hp
 obtain ⟨h1,h2⟩:=h.tail_ne
 rw [zcD (fun q hq e=>by have:=h1 q hq;omega)]
 refine ze8 fun n hn=>?_
 have hlt:=(h.has p hp n hn).1
 rw [zez (ps:=l) (qs:=p::r)]
 intro q hq e
 rcases List.mem_cons.1 hq with rfl | hq
 ·
  omega
 ·
  have:=h1 q hq;omega
theorem Lst.on_iff {ps:List Pt}(h:Lst ps){p:Pt}(hp:p∈ps){b:Int}:onF ps p.id b=true↔ ∃ n∈p.needs,n=b∨onF ps n b=true:=by
 rw [h.on hp,List.any_eq_true]
 simp
theorem zdo {ps:List Pt}{a b:Int}(h:onF ps a b=true):∃ p∈ps,p.id=a:=by
 by_cases hx:∃ p∈ps,p.id=a
 ·
  exact hx
 ·
  rw [zmG (fun p hp e=>hx ⟨p,hp,e⟩)] at h;cases h
theorem Lst.ind {ps:List Pt}(h:Lst ps){M:Pt→Prop}(hs:∀ p∈ps,(∀ q∈ps,q.id<p.id→M q)→M p):∀ p∈ps,M p:=by
 have key:∀ (m:Nat) (q:Pt),q∈ps→q.id.toNat≤m→M q:=by
  intro m
  induction m with
  | zero=>
   intro q hq hm
   have:=h.pos q hq;omega
  | succ m ih=>
   intro q hq hm
   exact hs q hq fun r hr hlt=>ih r hr (by have:=h.pos r hr;omega)
 exact fun p hp=>key _ p hp (Nat.le_refl _)
theorem Lst.on_lt {ps:List Pt}(h:Lst ps){a b:Int}(hon:onF ps a b=true):b<a∧∃ q∈ps,q.id=b:=by
 obtain ⟨p,hp,rfl⟩:=zdo hon
 revert hon
 refine h.ind (M:=fun p=>onF ps p.id b=true→b<p.id∧∃ q∈ps,q.id=b) (fun p hp ih hon=>?_) p hp
 obtain ⟨n,hn,e⟩:=(h.on_iff hp).1 hon
 obtain ⟨h1,q,hq,rfl⟩:=h.has p hp n hn
 rcases e with rfl | e
 ·
  exact ⟨h1,q,hq,rfl⟩
 ·
  have:=ih q hq h1 e
  exact ⟨by omega,this.2⟩
theorem Lst.on_irr {ps:List Pt}(h:Lst ps){a:Int}:onF ps a a=false:=by
 cases hon:onF ps a a with
 | false=>rfl
 | true=>have:=(h.on_lt hon).1;omega
theorem Lst.on_trans {ps:List Pt}(h:Lst ps){a b c:Int}(h1:onF ps a b=true)(h2:onF ps b c=true):onF ps a c=true:=by
 obtain ⟨p,hp,rfl⟩:=zdo h1
 revert h1
 refine h.ind (M:=fun p=>onF ps p.id b=true→onF ps p.id c=true) (fun p hp ih hon=>?_) p hp
 obtain ⟨n,hn,e⟩:=(h.on_iff hp).1 hon
 obtain ⟨hlt,q,hq,rfl⟩:=h.has p hp n hn
 rcases e with rfl | e
 ·
  exact (h.on_iff hp).2 ⟨_,hn,.inr h2⟩
 ·
  exact (h.on_iff hp).2 ⟨_,hn,.inr (ih q hq hlt e)⟩
theorem Lst.on_need {ps:List Pt}(h:Lst ps){p:Pt}(hp:p∈ps){n:Int}(hn:n∈p.needs):onF ps p.id n=true:=(h.on_iff hp).2 ⟨n,hn,.inl rfl⟩
theorem Lst.part {ps:List Pt}(h:Lst ps){f:Pt→Bool}(hc:∀ p∈ps,f p=true→∀ q∈ps,q.id∈p.needs→f q=true):Lst (ps.filter f):=
 ⟨fun p hp=>h.pos p (List.mem_filter.1 hp).1,h.inc.filter f,fun p hp n hn=>by
  obtain ⟨hp1,hp2⟩:=List.mem_filter.1 hp
  obtain ⟨h1,q,hq,rfl⟩:=h.has p hp1 n hn
  exact ⟨h1,q,List.mem_filter.2 ⟨hq,hc p hp1 hp2 q hq hn⟩,rfl⟩⟩
theorem Lst.on_part {ps:List Pt}(h:Lst ps){f:Pt→Bool}(hc:∀ p∈ps,f p=true→∀ q∈ps,q.id∈p.needs→f q=true){b:Int}{p:Pt}(hp:p∈ps)(hf:f p=true):onF (ps.filter f) p.id b=onF ps p.id b:=by
 have hL:=h.part hc
 revert hf
 refine h.ind (M:=fun p=>f p=true→onF (ps.filter f) p.id b=onF ps p.id b) (fun p hp ih hf=>?_) p hp
 rw [hL.on (List.mem_filter.2 ⟨hp,hf⟩),h.on hp]
 refine ze8 fun n hn=>?_
 obtain ⟨h1,q,hq,rfl⟩:=h.has p hp n hn
 rw [ih q hq h1 (hc p hp hf q hq hn)]
/-! ### Closures -/
def zrs (v:List Int):Bool:=(List.range v.length).all fun i=> !(decide ((i:Int)>0)&&decide (v.getD i 0≤v.getD ((i:Int)-1).toNat 0))
theorem zl9 {v:List Int}:zrs v=true↔v.Pairwise (· < ·):=by
 unfold zrs
 constructor
 ·
  intro h
  refine KA (R:=fun a b:Int=>a<b) (fun a b c h1 h2=>Int.lt_trans h1 h2) fun k hk=>?_
  rw [List.all_eq_true] at h
  have h1:=h (k+1) (List.mem_range.2 hk)
  rw [show (((k+1:Nat):Int)-1).toNat=k by omega,Q1 (List.getElem?_eq_getElem hk),Q1 (List.getElem?_eq_getElem (show k<v.length by omega))] at h1
  simp at h1;omega
 ·
  intro h
  rw [List.all_eq_true]
  intro k hk
  rw [List.mem_range] at hk
  cases k with
  | zero=>rfl
  | succ k=>
   rw [show (((k+1:Nat):Int)-1).toNat=k by omega,Q1 (List.getElem?_eq_getElem hk),Q1 (List.getElem?_eq_getElem (show k<v.length by omega))]
   have:=List.pairwise_iff_getElem.1 h k (k+1) (by omega) hk (by omega)
   simp;omega
def chB (ps:List Pt)(ids:List Int):Bool:=zrs ids&&ids.all (zam ps)
def zdx (ps:List Pt)(ids:List Int):List Int:=(ps.filter fun p=>ids.any fun n=>n==p.id||onF ps n p.id).map (·.id)
def zey (ps:List Pt)(v:List Int):Bool:=chB ps v&&zqL (zdx ps v) v
def Ur (ps:List Pt)(a b:List Int):List Int:=(ps.filter fun p=>a.any (· ==p.id)||b.any (· ==p.id)).map (·.id)
def zgs (ps:List Pt)(a b:List Int):Int:=if JB ps≠0 then JB ps else if decide (a.length>512)||decide (b.length>512) then 2 else if zey ps a&&zey ps b then 0 else 380
end
section
open Go Go.Kn Go.Proofs
theorem zay {ps:List Pt}(h:Lst ps)(f:Pt→Bool):((ps.filter f).map (·.id)).Pairwise (· < ·):=by
 rw [List.pairwise_map]
 exact h.inc.filter f
theorem zaR {ps:List Pt}{f:Pt→Bool}{x:Int}:x∈(ps.filter f).map (·.id)↔ ∃ p∈ps,f p=true∧p.id=x:=by
 rw [List.mem_map]
 constructor
 ·
  rintro ⟨p,hp,e⟩
  exact ⟨p,(List.mem_filter.1 hp).1,(List.mem_filter.1 hp).2,e⟩
 ·
  rintro ⟨p,hp,hf,e⟩
  exact ⟨p,List.mem_filter.2 ⟨hp,hf⟩,e⟩
structure Ver (ps:List Pt)(v:List Int):Prop where
 inc:v.Pairwise (· < ·)
 sub:∀ x∈v,∃ p∈ps,p.id=x
 need:∀ p∈ps,p.id∈v→∀ n∈p.needs,n∈v
theorem Ver.on {ps:List Pt}{v:List Int}(h:Lst ps)(hv:Ver ps v){a b:Int}(ha:a∈v)(hon:onF ps a b=true):b∈v:=by
 obtain ⟨p,hp,rfl⟩:=zdo hon
 revert hon ha
 refine h.ind (M:=fun p=>p.id∈v→onF ps p.id b=true→b∈v) (fun p hp ih ha hon=>?_) p hp
 obtain ⟨n,hn,e⟩:=(h.on_iff hp).1 hon
 have hnv:=hv.need p hp ha n hn
 rcases e with rfl | e
 ·
  exact hnv
 ·
  obtain ⟨hlt,q,hq,rfl⟩:=h.has p hp n hn
  exact ih q hq hlt hnv e
theorem Wg {ps:List Pt}{ids:List Int}{x:Int}:x∈zdx ps ids↔(∃ p∈ps,p.id=x)∧∃ n∈ids,n=x∨onF ps n x=true:=by
 unfold zdx
 rw [zaR]
 constructor
 ·
  rintro ⟨p,hp,hf,rfl⟩
  rw [List.any_eq_true] at hf
  obtain ⟨n,hn,e⟩:=hf
  exact ⟨⟨p,hp,rfl⟩,n,hn,by simpa using e⟩
 ·
  rintro ⟨⟨p,hp,rfl⟩,n,hn,e⟩
  exact ⟨p,hp,List.any_eq_true.2 ⟨n,hn,by simpa using e⟩,rfl⟩
theorem K2 {ps:List Pt}(h:Lst ps)(ids:List Int):(zdx ps ids).Pairwise (· < ·):=zay h _
theorem zdU {ps:List Pt}{ids:List Int}:chB ps ids=true↔ids.Pairwise (· < ·)∧∀ x∈ids,∃ p∈ps,p.id=x:=by
 unfold chB
 rw [Bool.and_eq_true,zl9,List.all_eq_true]
 exact ⟨fun h=>⟨h.1,fun x hx=>VP.1 (h.2 x hx)⟩,fun h=>⟨h.1,fun x hx=>VP.2 (h.2 x hx)⟩⟩
theorem zqa {ps:List Pt}(h:Lst ps)(ids:List Int):Ver ps (zdx ps ids) where
 inc:=K2 h ids
 sub:=fun x hx=>(Wg.1 hx).1
 need:=fun p hp hpv m hm=>by
  obtain ⟨_,n,hn,e⟩:=Wg.1 hpv
  obtain ⟨_,q,hq,rfl⟩:=h.has p hp m hm
  refine Wg.2 ⟨⟨q,hq,rfl⟩,n,hn,.inr ?_⟩
  rcases e with rfl | e
  ·
   exact h.on_need hp hm
  ·
   exact h.on_trans e (h.on_need hp hm)
theorem zf2 {ps:List Pt}(h:Lst ps){v:List Int}(hv:Ver ps v):zdx ps v=v:=
 Wl (K2 h v) hv.inc fun a=>by
  rw [Wg]
  constructor
  ·
   rintro ⟨_,n,hn,rfl | e⟩
   ·
    exact hn
   ·
    exact hv.on h hn e
  ·
   intro ha
   exact ⟨hv.sub a ha,a,ha,.inl rfl⟩
theorem Xo {ps:List Pt}(h:Lst ps){v:List Int}:zey ps v=true↔Ver ps v:=by
 unfold zey
 rw [Bool.and_eq_true,zdU]
 constructor
 ·
  rintro ⟨⟨h1,h2⟩,h3⟩
  have e:zdx ps v=v:=of_decide_eq_true h3
  have:=zqa h v
  rwa [e] at this
 ·
  intro hv
  exact ⟨⟨hv.inc,hv.sub⟩,decide_eq_true (zf2 h hv)⟩
theorem zrd {ps:List Pt}(h:Lst ps){v:List Int}(hc:chB ps v=true):decide ((zdx ps v).length≠v.length)= !zey ps v:=by
 have hsub:∀ x∈v,x∈zdx ps v:=fun x hx=>Wg.2 ⟨(zdU.1 hc).2 x hx,x,hx,.inl rfl⟩
 have hnd:=(zdU.1 hc).1
 unfold zey
 rw [hc,Bool.true_and]
 by_cases e:zdx ps v=v
 ·
  rw [show zqL (zdx ps v) v=true from decide_eq_true e,e];simp
 ·
  rw [show zqL (zdx ps v) v=false from decide_eq_false e]
  refine decide_eq_true fun hl=>e ?_
  exact ((Wu hnd (K2 h v) hsub).2 (by omega)).symm
theorem zbj {ps:List Pt}{a b:List Int}{x:Int}:x∈Ur ps a b↔(∃ p∈ps,p.id=x)∧(x∈a∨x∈b):=by
 unfold Ur
 rw [zaR]
 constructor
 ·
  rintro ⟨p,hp,hf,rfl⟩
  exact ⟨⟨p,hp,rfl⟩,by simpa using hf⟩
 ·
  rintro ⟨⟨p,hp,rfl⟩,e⟩
  exact ⟨p,hp,by simpa using e,rfl⟩
theorem zpF {ps:List Pt}(h:Lst ps){a b:List Int}(ha:Ver ps a)(hb:Ver ps b):Ver ps (Ur ps a b) where
 inc:=zay h _
 sub:=fun x hx=>(zbj.1 hx).1
 need:=fun p hp hpv m hm=>by
  obtain ⟨_,q,hq,rfl⟩:=h.has p hp m hm
  refine zbj.2 ⟨⟨q,hq,rfl⟩,?_⟩
  rcases (zbj.1 hpv).2 with e | e
  ·
   exact .inl (ha.need p hp e _ hm)
  ·
   exact .inr (hb.need p hp e _ hm)
theorem zmk {ps:List Pt}{a b:List Int}(ha:Ver ps a)(hb:Ver ps b){x:Int}:x∈Ur ps a b↔x∈a∨x∈b:=by
 rw [zbj]
 exact ⟨fun h=>h.2,fun h=>⟨h.elim (ha.sub x) (hb.sub x),h⟩⟩
theorem ziC {ps:List Pt}(h0:orF (ps.map JO)=0)(h:lsB ps=true):Lst ps:=by
 have hk:∀ p∈ps,ndB p.id p.needs=true∧idB p=true∧Uu p=true:=fun p hp=>by
  have h1:=J9.1 h0 (JO p) (List.mem_map.2 ⟨p,hp,rfl⟩)
  unfold JO at h1
  split at h1
  ·
   cases h1
  ·
   split at h1
   ·
    rename_i h2
    simpa [Bool.and_eq_true] using h2
   ·
    cases h1
 unfold lsB at h
 rw [List.all_eq_true] at h
 refine ⟨fun p hp=>?_,?_,fun p hp n hn=>?_⟩
 ·
  have:=(hk p hp).2.1
  unfold idB at this
  simp at this
  omega
 ·
  refine KA (R:=fun p q:Pt=>p.id<q.id) (fun a b c h1 h2=>Int.lt_trans h1 h2) fun k hk=>?_
  have h1:=h (k+1) (List.mem_range.2 hk)
  unfold lsP at h1
  rw [show (((k+1:Nat):Int)-1).toNat=k by omega,Q1 (List.getElem?_eq_getElem hk),Q1 (List.getElem?_eq_getElem (show k<ps.length by omega))] at h1
  simp at h1
  have:=h1.1
  omega
 ·
  obtain ⟨k,hk1,rfl⟩:=List.mem_iff_getElem.1 hp
  have h1:=h k (List.mem_range.2 hk1)
  unfold lsP at h1
  rw [Q1 (List.getElem?_eq_getElem hk1)] at h1
  simp at h1
  refine ⟨?_,VP.1 (h1.2 n hn)⟩
  obtain ⟨j,hj,rfl⟩:=List.mem_iff_getElem.1 hn
  have h2:=(hk _ hp).1
  unfold ndB at h2
  rw [List.all_eq_true] at h2
  have h3:=h2 j (List.mem_range.2 hj)
  unfold ndP at h3
  rw [Q1 (List.getElem?_eq_getElem hj)] at h3
  simp at h3
  omega
theorem Ky {ps:List Pt}(h:JB ps=0):ps.length≤512∧orF (ps.map JO)=0∧lsB ps=true∧zhz ps=true:=by
 unfold JB at h
 split at h
 ·
  cases h
 ·
  split at h
  ·
   contradiction
  ·
   split at h
   ·
    rename_i h1 h2 h3
    rw [Bool.and_eq_true] at h3
    exact ⟨by omega,by omega,h3⟩
   ·
    cases h
theorem Xb {ps:List Pt}(h:JB ps=0):Lst ps:=ziC (Ky h).2.1 (Ky h).2.2.1
end
section
open Go Go.Kn Go.Proofs
/-! ### Lists by keys -/
def Srt (xs:List Sg):Prop:=xs.Pairwise fun a b=>a.id<b.id
def Z1 (xs:List Sg)(s:Int):Option Sg:=xs.find? fun x=>x.id==s
theorem Jb {x:Sg}{xs:List Sg}{s:Int}:Z1 (x::xs) s=if x.id=s then some x else Z1 xs s:=by
 unfold Z1
 rw [List.find?_cons]
 by_cases h:x.id=s
 ·
  rw [if_pos h,show (x.id==s)=true by simpa using h]
 ·
  rw [if_neg h,show (x.id==s)=false by simpa using h]
theorem zgI {xs:List Sg}{s:Int}{x:Sg}(h:Z1 xs s=some x):x.id=s:=by
 have:=List.find?_some h
 simpa using this
theorem zbu {xs:List Sg}{s:Int}{x:Sg}(h:Z1 xs s=some x):x∈xs:=List.mem_of_find?_eq_some h
theorem X0 {xs:List Sg}{s:Int}:Z1 xs s=none↔ ∀ x∈xs,x.id≠s:=by
 unfold Z1
 rw [List.find?_eq_none]
 simp
theorem zd5 {xs:List Sg}(h:Srt xs){x:Sg}(hx:x∈xs):Z1 xs x.id=some x:=by
 induction xs with
 | nil=>cases hx
 | cons y ys ih=>
  rw [Jb]
  have h':=List.pairwise_cons.1 h
  rcases List.mem_cons.1 hx with rfl | hx
  ·
   rw [if_pos rfl]
  ·
   rw [if_neg (by have:=h'.1 x hx;omega)]
   exact ih h'.2 hx
theorem zpg {xs ys:List Sg}(hx:Srt xs)(hy:Srt ys)(h:∀ s,Z1 xs s=Z1 ys s):xs=ys:=by
 have hm:∀ {xs ys:List Sg},Srt xs→(∀ s,Z1 xs s=Z1 ys s)→∀ a∈xs,a∈ys:=fun {xs ys} h1 h2 a ha=>zbu (by rw [←h2];exact zd5 h1 ha)
 have h1:=hm hx h
 have h2:=hm hy (fun s=>(h s).symm)
 clear hm h
 induction xs generalizing ys with
 | nil=>
  cases ys with
  | nil=>rfl
  | cons y ys=>have:=h2 y (List.mem_cons_self ..);cases this
 | cons x xs ih=>
  cases ys with
  | nil=>have:=h1 x (List.mem_cons_self ..);cases this
  | cons y ys=>
   have hx':=List.pairwise_cons.1 hx
   have hy':=List.pairwise_cons.1 hy
   have e:x=y:=by
    rcases List.mem_cons.1 (h1 x (List.mem_cons_self ..)) with e | e
    ·
     exact e
    ·
     rcases List.mem_cons.1 (h2 y (List.mem_cons_self ..)) with e2 | e2
     ·
      exact e2.symm
     ·
      have h3:=hx'.1 _ e2;have h4:=hy'.1 _ e;omega
   subst e
   refine congrArg _ (ih hx'.2 hy'.2 (fun a ha=>?_) (fun a ha=>?_))
   ·
    rcases List.mem_cons.1 (h1 a (List.mem_cons_of_mem _ ha)) with e | e
    ·
     subst e;have:=hx'.1 _ ha;omega
    ·
     exact e
   ·
    rcases List.mem_cons.1 (h2 a (List.mem_cons_of_mem _ ha)) with e | e
    ·
     subst e;have:=hy'.1 _ ha;omega
    ·
     exact e
theorem zhG {xs:List Sg}(h:skB xs=true):Srt xs:=by
 unfold skB at h
 rw [List.all_eq_true] at h
 refine KA (R:=fun p q:Sg=>p.id<q.id) (fun a b c h1 h2=>Int.lt_trans h1 h2) fun k hk=>?_
 have h1:=h (k+1) (List.mem_range.2 hk)
 unfold skP at h1
 rw [show (((k+1:Nat):Int)-1).toNat=k by omega,Q1 (List.getElem?_eq_getElem hk),Q1 (List.getElem?_eq_getElem (show k<xs.length by omega))] at h1
 simp at h1
 have:=h1.2
 omega
theorem zek {xs:List Sg}(h:Wz xs=0):xs.length≤4096∧skB xs=true:=by
 unfold Wz at h
 split at h
 ·
  cases h
 ·
  split at h
  ·
   rename_i h1 h2;exact ⟨by omega,h2⟩
  ·
   cases h
def zdi (xs:List Sg)(k:Sg):List Sg:=xs.takeWhile (fun x=>decide (x.id<k.id))++k::xs.dropWhile (fun x=>decide (x.id<k.id))
theorem zfo {xs ys:List Sg}{s:Int}:Z1 (xs++ys) s=(Z1 xs s).or (Z1 ys s):=by unfold Z1;rw [List.find?_append]
theorem zmu {xs:List Sg}{k:Sg}{s:Int}(hn:Z1 xs k.id=none):Z1 (zdi xs k) s=if k.id=s then some k else Z1 xs s:=by
 unfold zdi
 rw [zfo,Jb]
 by_cases h:k.id=s
 ·
  subst h
  have h1:Z1 (xs.takeWhile fun x=>decide (x.id<k.id)) k.id=none:=X0.2 fun x hx=>X0.1 hn x ((List.takeWhile_sublist _).mem hx)
  rw [h1,if_pos rfl,if_pos rfl];rfl
 ·
  rw [if_neg h,if_neg h,←zfo,List.takeWhile_append_dropWhile]
theorem zcH {xs:List Sg}(h:Srt xs){k:Int}:∀ x∈xs.dropWhile (fun x=>decide (x.id<k)),k≤x.id:=by
 induction xs with
 | nil=>intro x hx;cases hx
 | cons y ys ih=>
  have h':=List.pairwise_cons.1 h
  intro x hx
  rw [List.dropWhile_cons] at hx
  split at hx
  ·
   exact ih h'.2 x hx
  ·
   rename_i hy
   have hy:k≤y.id:=by simpa using hy
   rcases List.mem_cons.1 hx with rfl | hx
   ·
    exact hy
   ·
    have:=h'.1 x hx;omega
theorem zcR {xs:List Sg}{k:Int}:∀ x∈xs.takeWhile (fun x=>decide (x.id<k)),x.id<k:=fun x hx=>by
 have:=List.all_eq_true.1 (List.all_takeWhile (l:=xs) (p:=fun x:Sg=>decide (x.id<k))) x hx
 simpa using this
theorem zqY {xs:List Sg}(h:Srt xs){k:Sg}(hn:Z1 xs k.id=none):Srt (zdi xs k):=by
 have h0:Srt (xs.takeWhile (fun x=>decide (x.id<k.id))++xs.dropWhile (fun x=>decide (x.id<k.id))):=by rw [List.takeWhile_append_dropWhile];exact h
 unfold Srt at h0
 rw [List.pairwise_append] at h0
 unfold Srt zdi
 rw [List.pairwise_append,List.pairwise_cons]
 refine ⟨h0.1,⟨fun x hx=>?_,h0.2.1⟩,fun x hx y hy=>?_⟩
 ·
  have h1:=zcH h x hx
  have h2:=X0.1 hn x ((List.dropWhile_sublist _).mem hx)
  omega
 ·
  rcases List.mem_cons.1 hy with rfl | hy
  ·
   exact zcR x hx
  ·
   exact h0.2.2 x hx y hy
/-! ### One field of a sign -/
def VL (x:Sg)(f:Int):Int×Int×Int×Int:=
 if f=1 then (x.role,0,0,0) else if f=2 then (x.bar,0,0,0) else if f=3 then (x.mark,0,0,0) else if f=4 then (x.side,0,0,0) else if f=5 then (x.dir,0,0,0)
 else if f=6 then (x.level,0,0,0) else if f=7 then (x.size,0,0,0) else if f=8 then (x.wth,0,0,0) else if f=9 then (x.fn,x.fd,x.tn,x.td) else (0,0,0,0)
def isF (f:Int):Prop:=1≤f∧f≤9
theorem zi0 {f:Int}(h:isF f):f=1∨f=2∨f=3∨f=4∨f=5∨f=6∨f=7∨f=8∨f=9:=by unfold isF at h;omega
theorem zto {x y:Sg}{f:Int}:(JC x f y).id=x.id:=by unfold JC;(repeat' split)<;>rfl
theorem zlZ {x y:Sg}{f:Int}:(JC x f y).kind=x.kind:=by unfold JC;(repeat' split)<;>rfl
theorem zlb {x y:Sg}{g:Int}:VL (JC x 1 y) g=if g=1 then VL y g else VL x g:=by
 rw [show JC x 1 y= {x with role:=y.role} from rfl]
 by_cases hg:g=1
 ·
  subst hg;rfl
 ·
  rw [if_neg hg]
  unfold VL
  simp only [if_neg hg]
theorem zkN {x y:Sg}{g:Int}:VL (JC x 2 y) g=if g=2 then VL y g else VL x g:=by
 rw [show JC x 2 y= {x with bar:=y.bar} from rfl]
 by_cases hg:g=2
 ·
  subst hg;rfl
 ·
  rw [if_neg hg]
  unfold VL
  simp only [if_neg hg]
theorem zmy {x y:Sg}{g:Int}:VL (JC x 3 y) g=if g=3 then VL y g else VL x g:=by
 rw [show JC x 3 y= {x with mark:=y.mark} from rfl]
 by_cases hg:g=3
 ·
  subst hg;rfl
 ·
  rw [if_neg hg]
  unfold VL
  simp only [if_neg hg]
theorem zlO {x y:Sg}{g:Int}:VL (JC x 4 y) g=if g=4 then VL y g else VL x g:=by
 rw [show JC x 4 y= {x with side:=y.side} from rfl]
 by_cases hg:g=4
 ·
  subst hg;rfl
 ·
  rw [if_neg hg]
  unfold VL
  simp only [if_neg hg]
theorem zlV {x y:Sg}{g:Int}:VL (JC x 5 y) g=if g=5 then VL y g else VL x g:=by
 rw [show JC x 5 y= {x with dir:=y.dir} from rfl]
 by_cases hg:g=5
 ·
  subst hg;rfl
 ·
  rw [if_neg hg]
  unfold VL
  simp only [if_neg hg]
theorem zmb {x y:Sg}{g:Int}:VL (JC x 6 y) g=if g=6 then VL y g else VL x g:=by
 rw [show JC x 6 y= {x with level:=y.level} from rfl]
 by_cases hg:g=6
 ·
  subst hg;rfl
 ·
  rw [if_neg hg]
  unfold VL
  simp only [if_neg hg]
theorem zlg {x y:Sg}{g:Int}:VL (JC x 7 y) g=if g=7 then VL y g else VL x g:=by
 rw [show JC x 7 y= {x with size:=y.size} from rfl]
 by_cases hg:g=7
 ·
  subst hg;rfl
 ·
  rw [if_neg hg]
  unfold VL
  simp only [if_neg hg]
theorem zkE {x y:Sg}{g:Int}:VL (JC x 8 y) g=if g=8 then VL y g else VL x g:=by
 rw [show JC x 8 y= {x with wth:=y.wth} from rfl]
 by_cases hg:g=8
 ·
  subst hg;rfl
 ·
  rw [if_neg hg]
  unfold VL
  simp only [if_neg hg]
theorem zlD {x y:Sg}{g:Int}:VL (JC x 9 y) g=if g=9 then VL y g else VL x g:=by
 rw [show JC x 9 y= {x with fn:=y.fn,fd:=y.fd,tn:=y.tn,td:=y.td} from rfl]
 by_cases hg:g=9
 ·
  subst hg;rfl
 ·
  rw [if_neg hg]
  unfold VL
  simp only [if_neg hg]
theorem zj1 {x y:Sg}{f g:Int}(hf:isF f):VL (JC x f y) g=if g=f then VL y g else VL x g:=by
 rcases zi0 hf with rfl | rfl | rfl | rfl | rfl | rfl | rfl | rfl | rfl
 ·
  exact zlb
 ·
  exact zkN
 ·
  exact zmy
 ·
  exact zlO
 ·
  exact zlV
 ·
  exact zmb
 ·
  exact zlg
 ·
  exact zkE
 ·
  exact zlD
theorem zt7 {x y:Sg}(h1:x.id=y.id)(h2:x.kind=y.kind)(h:∀ f,isF f→VL x f=VL y f):x=y:=by
 have e1:x.role=y.role:=congrArg (fun p=>p.1) (show ((x.role,0,0,0):Int×Int×Int×Int)=(y.role,0,0,0) from h 1 ⟨by decide,by decide⟩)
 have e2:x.bar=y.bar:=congrArg (fun p=>p.1) (show ((x.bar,0,0,0):Int×Int×Int×Int)=(y.bar,0,0,0) from h 2 ⟨by decide,by decide⟩)
 have e3:x.mark=y.mark:=congrArg (fun p=>p.1) (show ((x.mark,0,0,0):Int×Int×Int×Int)=(y.mark,0,0,0) from h 3 ⟨by decide,by decide⟩)
 have e4:x.side=y.side:=congrArg (fun p=>p.1) (show ((x.side,0,0,0):Int×Int×Int×Int)=(y.side,0,0,0) from h 4 ⟨by decide,by decide⟩)
 have e5:x.dir=y.dir:=congrArg (fun p=>p.1) (show ((x.dir,0,0,0):Int×Int×Int×Int)=(y.dir,0,0,0) from h 5 ⟨by decide,by decide⟩)
 have e6:x.level=y.level:=congrArg (fun p=>p.1) (show ((x.level,0,0,0):Int×Int×Int×Int)=(y.level,0,0,0) from h 6 ⟨by decide,by decide⟩)
 have e7:x.size=y.size:=congrArg (fun p=>p.1) (show ((x.size,0,0,0):Int×Int×Int×Int)=(y.size,0,0,0) from h 7 ⟨by decide,by decide⟩)
 have e8:x.wth=y.wth:=congrArg (fun p=>p.1) (show ((x.wth,0,0,0):Int×Int×Int×Int)=(y.wth,0,0,0) from h 8 ⟨by decide,by decide⟩)
 have e9:(x.fn,x.fd,x.tn,x.td)=(y.fn,y.fd,y.tn,y.td):=h 9 ⟨by decide,by decide⟩
 obtain ⟨a1,a2,a3,a4,a5,a6,a7,a8,a9,a10,a11,a12,a13,a14⟩:=x
 obtain ⟨b1,b2,b3,b4,b5,b6,b7,b8,b9,b10,b11,b12,b13,b14⟩:=y
 cases h1;cases h2;cases e1;cases e2;cases e3;cases e4;cases e5;cases e6;cases e7;cases e8;cases e9
 rfl
end
section
open Go Go.Kn Go.Proofs
def rmF (l:List Pt)(s:Int):List Int:=(l.filter fun p=>p.kind==3&&p.sign==s).map (·.id)
def stF (l:List Pt)(s f:Int):List Pt:=l.filter fun p=>p.kind==1&&(p.sign==s&&p.field==f)
def unB (on:Int→Int→Bool)(l:List Pt)(p:Pt):Bool:=p.kind==1&&(rmF l p.sign).any fun i=> !on i p.id
def unF (on:Int→Int→Bool)(l:List Pt)(s:Int):List Pt:=l.filter fun p=>p.sign==s&&unB on l p
def exB (on:Int→Int→Bool)(l:List Pt)(s:Int):Bool:=(rmF l s).isEmpty|| !(unF on l s).isEmpty
def XM (on:Int→Int→Bool)(l:List Pt)(s f:Int):List Pt:=(stF l s f).filter fun p=> !(stF l s f).any fun q=>on q.id p.id
def zoa (x:Sg)(f:Int):List Pt→Sg
 | []=>x
 | p::_=>JC x f p.nw
def zdV (on:Int→Int→Bool)(l:List Pt)(x:Sg)(k:Nat):Sg:=(List.range k).foldl (fun y (j:Nat)=>zoa y ((j:Int)+1) (XM on l x.id ((j:Int)+1))) x
def zdf (on:Int→Int→Bool)(l:List Pt)(x:Sg):Sg:=zdV on l x 9
def Uj (base:List Sg)(l:List Pt):List Sg:=l.foldl (fun s p=>if p.kind=2 then zdi s p.nw else s) base
def U8 (on:Int→Int→Bool)(base:List Sg)(l:List Pt):List Sg:=((Uj base l).filter fun x=>exB on l x.id).map (zdf on l)
def Yh (ps:List Pt)(v:List Int):List Pt:=ps.filter fun p=>v.any (· ==p.id)
def WU (xs:List Sg)(s:Int):Bool:=xs.any fun x=>x.id==s
def zf0 (l:List Pt)(s:Int):Bool:=l.any fun q=>q.kind==2&&q.sign==s
def zr0 (base:List Sg)(l:List Pt)(p:Pt):Bool:= !((p.kind==2&&WU base p.sign)||(p.kind != 2&& !WU base p.sign)&& !zf0 l p.sign)
def zfH (base:List Sg)(l:List Pt):Bool:=l.all (zr0 base l)
def XA (ps:List Pt)(base:List Sg)(v:List Int):Int:=if JB ps≠0 then JB ps else if Wz base≠0 then Wz base else if v.length>512 then 2 else if zey ps v&&zfH base (Yh ps v) then 0 else 380
def zc7 (ps:List Pt)(base:List Sg)(v:List Int):Int:=if XA ps base v≠0 then XA ps base v else if (U8 (onF ps) base (Yh ps v)).length>4096 then 2 else 0
def zfR (ps:List Pt)(base:List Sg)(v:List Int):List Sg:=zgD (zc7 ps base v) (U8 (onF ps) base (Yh ps v))
/-! ### Conflicts -/
structure zpE (p:Pt):Prop where
 pos:1≤p.id∧p.id≤1048576
 sg:0≤p.sign∧p.sign≤1048576
 kind:p.kind=1∨p.kind=2∨p.kind=3
 set:p.kind=1→isF p.field∧JC p.nw p.field Vb=Vb∧frm (JC zfp p.field p.nw)=true
 ins:p.kind=2→p.nw.id=p.sign∧frm p.nw=true
theorem zqq {p:Pt}(h:JO p=0):zpE p:=by
 unfold JO at h
 split at h
 ·
  cases h
 ·
  split at h
  ·
   rename_i h1 h2
   rw [Bool.and_eq_true,Bool.and_eq_true] at h2
   obtain ⟨h3,h4,h5⟩:=h2
   unfold idB at h4
   unfold Uu at h5
   simp only [Bool.and_eq_true,decide_eq_true_eq] at h4
   refine ⟨by omega,by omega,?_,fun hk=>?_,fun hk=>?_⟩
   ·
    split at h5
    ·
     omega
    ·
     split at h5
     ·
      omega
     ·
      split at h5
      ·
       omega
      ·
       cases h5
   ·
    rw [if_pos hk] at h5
    simp only [Bool.and_eq_true,YG,decide_eq_true_eq] at h5
    exact ⟨⟨h5.1.1,h5.1.2⟩,zbd.1 h5.2.1,h5.2.2⟩
   ·
    rw [if_neg (by omega),if_pos hk] at h5
    simp only [Bool.and_eq_true,beq_iff_eq] at h5
    exact h5.2
  ·
   cases h
structure Sto (ps:List Pt):Prop where
 lst:Lst ps
 ok:∀ p∈ps,zpE p
 tog:∀ p∈ps,∀ q∈ps,p.id≠q.id→znV p q (onF ps p.id q.id)=true
theorem zpR {ps:List Pt}(h:zhz ps=true){p q:Pt}(hp:p∈ps)(hq:q∈ps)(hne:p.id≠q.id):znV p q (onF ps p.id q.id)=true:=by
 unfold zhz at h
 rw [List.all_eq_true] at h
 have h1:=h p hp
 rw [List.all_eq_true] at h1
 have h2:=h1 q hq
 rw [show (p.id==q.id)=false by simpa using hne,Bool.false_or] at h2
 exact h2
theorem zbI {ps:List Pt}(h:JB ps=0):Sto ps:=
 ⟨Xb h,fun p hp=>zqq (J9.1 (Ky h).2.1 _ (List.mem_map.2 ⟨p,hp,rfl⟩)),fun _p hp _q hq hne=>zpR (Ky h).2.2.2 hp hq hne⟩
theorem Sto.ins {ps:List Pt}(h:Sto ps){p q:Pt}(hp:p∈ps)(hq:q∈ps)(hs:p.sign=q.sign)(hk:q.kind=2):p=q∨(p.kind≠2∧onF ps p.id q.id=true):=by
 by_cases e:p.id=q.id
 ·
  exact .inl (h.lst.uniq hp hq e)
 ·
  have:=h.tog p hp q hq e
  unfold znV at this
  rw [if_neg (by simpa using hs),if_pos hk] at this
  simp at this
  exact .inr this
theorem Y2 {ps:List Pt}{v:List Int}{p:Pt}:p∈Yh ps v↔p∈ps∧p.id∈v:=by
 unfold Yh
 rw [List.mem_filter]
 simp
theorem Ver.closed {ps:List Pt}{v:List Int}(hv:Ver ps v):∀ p∈ps,(v.any (· ==p.id))=true→∀ q∈ps,q.id∈p.needs→(v.any (· ==q.id))=true:=fun p hp h q _ hq=>by
 have:p.id∈v:=by simpa using h
 have:=hv.need p hp this _ hq
 simpa using this
theorem zmd {ps:List Pt}{v:List Int}(h:Lst ps)(hv:Ver ps v):Lst (Yh ps v):=h.part hv.closed
theorem zp4 {ps:List Pt}{v:List Int}(h:Lst ps)(hv:Ver ps v){p:Pt}(hp:p∈Yh ps v)(b:Int):onF (Yh ps v) p.id b=onF ps p.id b:=
 h.on_part hv.closed (Y2.1 hp).1 (List.mem_filter.1 hp).2
theorem Xi {ps:List Pt}{v:List Int}(h:Sto ps)(hv:Ver ps v):Sto (Yh ps v):=
 ⟨zmd h.lst hv,fun p hp=>h.ok p (Y2.1 hp).1,fun p hp q hq hne=>by rw [zp4 h.lst hv hp];exact h.tog p (Y2.1 hp).1 q (Y2.1 hq).1 hne⟩
/-! ### Standing matters YG the version alone -/
theorem zqs {l:List Pt}{s i:Int}:i∈rmF l s↔ ∃ p∈l,p.kind=3∧p.sign=s∧p.id=i:=by
 unfold rmF
 rw [zaR]
 simp [and_assoc]
theorem zac {l:List Pt}{s f:Int}{p:Pt}:p∈stF l s f↔p∈l∧p.kind=1∧p.sign=s∧p.field=f:=by
 unfold stF
 rw [List.mem_filter]
 simp
section
variable {l:List Pt} {on on':Int→Int→Bool}
end
end
section
open Go Go.Kn Go.Proofs
section
variable {ps:List Pt} {base:List Sg} {v:List Int}
end
/-! ### All signs of a base and of what is inserted -/
theorem zjK {xs:List Sg}{s:Int}:WU xs s=(Z1 xs s).isSome:=by
 unfold WU Z1
 rw [Bool.eq_iff_iff,List.find?_isSome,List.any_eq_true]
def zcw (l:List Pt)(s:Int):Option Sg:=(l.find? fun q=>q.kind==2&&q.sign==s).map (·.nw)
theorem X4 {l:List Pt}{s:Int}{x:Sg}(h:zcw l s=some x):∃ q∈l,q.kind=2∧q.sign=s∧q.nw=x:=by
 unfold zcw at h
 rw [Option.map_eq_some_iff] at h
 obtain ⟨q,hq,rfl⟩:=h
 have:=List.find?_some hq
 simp at this
 exact ⟨q,List.mem_of_find?_eq_some hq,this.1,this.2,rfl⟩
theorem ziT {base:List Sg}{l:List Pt}(h:zfH base l=true){q:Pt}(hq:q∈l)(hk:q.kind=2):Z1 base q.sign=none:=by
 unfold zfH at h
 rw [List.all_eq_true] at h
 have:=h q hq
 unfold zr0 at this
 rw [zjK] at this
 simp [hk] at this
 exact this
theorem zeC {base:List Sg}{l:List Pt}{q:Pt}:Uj base (l++[q])=if q.kind=2 then zdi (Uj base l) q.nw else Uj base l:=by
 unfold Uj
 rw [List.foldl_append];rfl
theorem ziP {base:List Sg}(hb:Srt base):∀ (l2 l1:List Pt),Sto (l1++l2)→zfH base (l1++l2)=true→Srt (Uj base l1)→(∀ s,Z1 (Uj base l1) s=(Z1 base s).or (zcw l1 s))→
  Srt (Uj base (l1++l2))∧∀ s,Z1 (Uj base (l1++l2)) s=(Z1 base s).or (zcw (l1++l2) s)
 | [],l1,_,_,h1,h2=>by rw [List.append_nil];exact ⟨h1,h2⟩
 | q::l2,l1,hs,hf,h1,h2=>by
  have e:l1++q::l2=(l1++[q])++l2:=by simp
  rw [e] at hs hf ⊢
  have hq:q∈l1++[q]++l2:=by simp
  have hins:∀ s,zcw (l1++[q]) s=(zcw l1 s).or (if q.kind=2∧q.sign=s then some q.nw else none):=by
   intro s
   unfold zcw
   rw [List.find?_append]
   by_cases hk:q.kind=2∧q.sign=s
   ·
    rw [if_pos hk,List.find?_cons,show (q.kind==2&&q.sign==s)=true by simpa using hk]
    cases l1.find? fun q=>q.kind==2&&q.sign==s<;>rfl
   ·
    rw [if_neg hk,List.find?_cons,show (q.kind==2&&q.sign==s)=false by simpa using hk]
    cases l1.find? fun q=>q.kind==2&&q.sign==s<;>rfl
  refine ziP hb l2 (l1++[q]) hs hf ?_ ?_
  ·
   rw [zeC]
   by_cases hk:q.kind=2
   ·
    rw [if_pos hk]
    have hid:=((hs.ok q hq).ins hk).1
    refine zqY h1 ?_
    rw [h2,hid,ziT hf hq hk]
    cases hi:zcw l1 q.sign with
    | none=>rfl
    | some x=>
     exfalso
     obtain ⟨r,hr,hr1,hr2,_⟩:=X4 hi
     rcases hs.ins (p:=r) (q:=q) (by simp [hr]) hq hr2 hk with e2 | ⟨e2,_⟩
     ·
      subst e2
      have:=hs.lst.inc
      rw [List.append_assoc,List.pairwise_append] at this
      have:=this.2.2 r hr r (by simp)
      omega
     ·
      exact e2 hr1
   ·
    rw [if_neg hk];exact h1
  ·
   intro s
   rw [zeC,hins]
   by_cases hk:q.kind=2
   ·
    have hid:=((hs.ok q hq).ins hk).1
    have hnone:Z1 (Uj base l1) q.nw.id=none:=by
     rw [h2,hid,ziT hf hq hk]
     cases hi:zcw l1 q.sign with
     | none=>rfl
     | some x=>
      exfalso
      obtain ⟨r,hr,hr1,hr2,_⟩:=X4 hi
      rcases hs.ins (p:=r) (q:=q) (by simp [hr]) hq hr2 hk with e2 | ⟨e2,_⟩
      ·
       subst e2
       have:=hs.lst.inc
       rw [List.append_assoc,List.pairwise_append] at this
       have:=this.2.2 r hr r (by simp)
       omega
      ·
       exact e2 hr1
    rw [if_pos hk,zmu hnone,hid,h2]
    have hn2:=hnone
    rw [h2,hid] at hn2
    by_cases hs2:q.sign=s
    ·
     subst hs2
     rw [if_pos rfl,if_pos ⟨hk,rfl⟩]
     cases h3:Z1 base q.sign with
     | some x=>rw [h3] at hn2;cases hn2
     | none=>
      rw [h3] at hn2
      cases h4:zcw l1 q.sign with
      | some x=>rw [h4] at hn2;cases hn2
      | none=>rfl
    ·
     rw [if_neg hs2,if_neg (fun h=>hs2 h.2),Option.or_none]
   ·
    rw [if_neg hk,if_neg (fun h=>hk h.1),Option.or_none,h2]
theorem Xf {base:List Sg}{l:List Pt}(hb:Srt base)(hs:Sto l)(hf:zfH base l=true):Srt (Uj base l)∧∀ s,Z1 (Uj base l) s=(Z1 base s).or (zcw l s):=by
 have:=ziP hb l [] hs hf hb (fun s=>by simp [zcw,Uj])
 simpa using this
end
section
open Go Go.Kn Go.Proofs
theorem zqE {x:Sg}{f:Int}{ps:List Pt}:(zoa x f ps).id=x.id:=by
 cases ps with
 | nil=>rfl
 | cons p ps=>exact zto
theorem zj6 {x:Sg}{f:Int}{ps:List Pt}:(zoa x f ps).kind=x.kind:=by
 cases ps with
 | nil=>rfl
 | cons p ps=>exact zlZ
theorem XC {on:Int→Int→Bool}{l:List Pt}{x:Sg}{k:Nat}:zdV on l x (k+1)=zoa (zdV on l x k) ((k:Int)+1) (XM on l x.id ((k:Int)+1)):=by
 unfold zdV
 rw [List.range_succ,List.foldl_append];rfl
theorem za3 {on:Int→Int→Bool}{l:List Pt}{x:Sg}:∀ k:Nat,(zdV on l x k).id=x.id∧(zdV on l x k).kind=x.kind
 | 0=>⟨rfl,rfl⟩
 | k+1=>by
  rw [XC,zqE,zj6]
  exact za3 k
def zxT (x:Sg)(f:Int):List Pt→Int×Int×Int×Int
 | []=>VL x f
 | p::_=>VL p.nw f
theorem zfG {on:Int→Int→Bool}{l:List Pt}{x:Sg}{f:Int}(hf:isF f):∀ k:Nat,k≤9→VL (zdV on l x k) f=if f≤k then zxT x f (XM on l x.id f) else VL x f
 | 0,_=>by rw [if_neg (by unfold isF at hf;omega)];rfl
 | k+1,hk=>by
  rw [XC]
  have ih:=zfG (on:=on) (l:=l) (x:=x) hf k (by omega)
  by_cases e:f=(k:Int)+1
  ·
   subst e
   rw [if_pos (by omega)]
   rw [if_neg (by omega)] at ih
   cases hl:XM on l x.id ((k:Int)+1) with
   | nil=>exact ih
   | cons p ps=>show VL (JC _ _ _) _=_;rw [zj1 hf,if_pos rfl];rfl
  ·
   have:VL (zoa (zdV on l x k) ((k:Int)+1) (XM on l x.id ((k:Int)+1))) f=VL (zdV on l x k) f:=by
    cases XM on l x.id ((k:Int)+1) with
    | nil=>rfl
    | cons p ps=>show VL (JC _ _ _) _=_;rw [zj1 (by unfold isF;omega),if_neg e]
   rw [this,ih]
   by_cases h2:f≤(k:Int)
   ·
    rw [if_pos h2,if_pos (by omega)]
   ·
    rw [if_neg h2,if_neg (by omega)]
theorem zjq {on:Int→Int→Bool}{l:List Pt}{x:Sg}{f:Int}(hf:isF f):VL (zdf on l x) f=zxT x f (XM on l x.id f):=by
 unfold zdf
 rw [zfG hf 9 (Nat.le_refl _),if_pos (by unfold isF at hf;omega)]
theorem zaw {on:Int→Int→Bool}{l:List Pt}{x:Sg}:(zdf on l x).id=x.id:=(za3 9).1
theorem zeF {on:Int→Int→Bool}{l:List Pt}{x:Sg}:(zdf on l x).kind=x.kind:=(za3 9).2
theorem zdv {xs:List Sg}{p:Int→Bool}{s:Int}:Z1 (xs.filter fun x=>p x.id) s=if p s then Z1 xs s else none:=by
 induction xs with
 | nil=>cases p s<;>rfl
 | cons x xs ih=>
  rw [List.filter_cons,Jb]
  by_cases e:x.id=s
  ·
   subst e
   rw [if_pos rfl]
   cases hp:p x.id with
   | true=>simp [Jb]
   | false=>rw [hp] at ih;simpa using ih
  ·
   rw [if_neg e]
   cases hp:p x.id with
   | true=>simp [Jb,e,ih]
   | false=>simpa using ih
theorem zkw {xs:List Sg}{f:Sg→Sg}(hf:∀ x,(f x).id=x.id){s:Int}:Z1 (xs.map f) s=(Z1 xs s).map f:=by
 induction xs with
 | nil=>rfl
 | cons x xs ih=>
  rw [List.map_cons,Jb,Jb,hf]
  by_cases e:x.id=s
  ·
   rw [if_pos e,if_pos e];rfl
  ·
   rw [if_neg e,if_neg e,ih]
theorem zgo {xs:List Sg}(h:Srt xs)(p:Sg→Bool):Srt (xs.filter p):=List.Pairwise.filter p h
theorem zrK {xs:List Sg}(h:Srt xs){f:Sg→Sg}(hf:∀ x,(f x).id=x.id):Srt (xs.map f):=by
 unfold Srt
 rw [List.pairwise_map]
 simp only [hf]
 exact h
theorem zpm {on:Int→Int→Bool}{base:List Sg}{l:List Pt}(h:Srt (Uj base l)):Srt (U8 on base l):=zrK (zgo h _) fun _=>zaw
theorem zfu {on:Int→Int→Bool}{base:List Sg}{l:List Pt}{s:Int}:Z1 (U8 on base l) s=if exB on l s then (Z1 (Uj base l) s).map (zdf on l) else none:=by
 unfold U8
 rw [zkw (fun _=>zaw),zdv (p:=exB on l)]
 cases exB on l s<;>rfl
/-! ### What is about one sign -/
def zgz (l l':List Pt)(s:Int):Prop:=(l.filter fun p=>p.sign==s)=l'.filter fun p=>p.sign==s
theorem YV {l:List Pt}{s:Int}(f:Pt→Bool)(h:∀ p,f p=true→p.sign=s):l.filter f=(l.filter fun p=>p.sign==s).filter f:=by
 rw [List.filter_filter]
 refine congrArg (fun g=>l.filter g) (funext fun p=>?_)
 cases hf:f p with
 | false=>rfl
 | true=>simp [h p hf]
section
variable {l l':List Pt} {s:Int} {on:Int→Int→Bool}
theorem zog (h:zgz l l' s):rmF l s=rmF l' s:=by
 unfold rmF
 rw [YV (l:=l) (s:=s) _ (by simp),YV (l:=l') (s:=s) _ (by simp),h]
theorem zu9 (h:zgz l l' s)(f:Int):stF l s f=stF l' s f:=by
 unfold stF
 rw [YV (l:=l) (s:=s) _ (by simp;intros;assumption),YV (l:=l') (s:=s) _ (by simp;intros;assumption),h]
theorem zsf (h:zgz l l' s):unF on l s=unF on l' s:=by
 unfold unF
 rw [YV (l:=l) (s:=s) _ (by simp;intros;assumption),YV (l:=l') (s:=s) _ (by simp;intros;assumption),h]
 refine List.filter_congr fun p hp=>?_
 have hs:p.sign=s:=by simpa using (List.mem_filter.1 hp).2
 unfold unB
 rw [hs,zog h]
theorem zsB (h:zgz l l' s):exB on l s=exB on l' s:=by
 unfold exB
 rw [zog h,zsf h]
theorem zhu (h:zgz l l' s)(f:Int):XM on l s f=XM on l' s f:=by
 unfold XM
 rw [zu9 h]
theorem zpY (h:zgz l l' s):zcw l s=zcw l' s:=by
 have key:∀ l:List Pt,(l.find? fun q=>q.kind==2&&q.sign==s)=((l.filter fun p=>p.sign==s).find? fun q=>q.kind==2):=fun l=>by
  rw [List.find?_filter]
  exact congrArg (fun g=>l.find? g) (funext fun q=>by cases (q.kind==2)<;>cases (q.sign==s)<;>rfl)
 unfold zcw
 rw [key l,key l',h]
theorem zoS (h:zgz l l' s){x:Sg}(hx:x.id=s):zdf on l x=zdf on l' x:=
 zt7 (by rw [zaw,zaw]) (by rw [zeF,zeF]) fun f hf=>by rw [zjq hf,zjq hf,hx,zhu h]
end
theorem zmt {on:Int→Int→Bool}{base:List Sg}{l l':List Pt}(hb:Srt base)(hs:Sto l)(hf:zfH base l=true)(hs':Sto l')(hf':zfH base l'=true){s:Int}(h:zgz l l' s):Z1 (U8 on base l) s=Z1 (U8 on base l') s:=by
 rw [zfu,zfu,zsB h,(Xf hb hs hf).2,(Xf hb hs' hf').2,zpY h]
 cases hl:(Z1 base s).or (zcw l' s) with
 | none=>rfl
 | some x=>
  have hx:x.id=s:=by
   cases h1:Z1 base s with
   | some y=>rw [h1] at hl;simp at hl;subst hl;exact zgI h1
   | none=>
    rw [h1] at hl
    simp at hl
    obtain ⟨q,hq,hk,hsg,rfl⟩:=X4 hl
    rw [((hs'.ok q hq).ins hk).1,hsg]
  rw [Option.map_some,Option.map_some,zoS h hx]
theorem zqT {xs:List Sg}{k:Sg}:(zdi xs k).length=xs.length+1:=by
 have:=congrArg List.length (List.takeWhile_append_dropWhile (p:=fun x:Sg=>decide (x.id<k.id)) (l:=xs))
 rw [List.length_append] at this
 unfold zdi
 rw [List.length_append,List.length_cons]
 omega
theorem ziN:∀ {l:List Pt} {base:List Sg},(Uj base l).length≤base.length+l.length
 | [],base=>by simp [Uj]
 | q::l,base=>by
  show (Uj (if q.kind=2 then zdi base q.nw else base) l).length≤_
  refine Nat.le_trans ziN ?_
  split
  ·
   rw [zqT,List.length_cons];omega
  ·
   rw [List.length_cons];omega
theorem zqF {on:Int→Int→Bool}{base:List Sg}{l:List Pt}:(U8 on base l).length≤base.length+l.length:=by
 unfold U8
 rw [List.length_map]
 exact Nat.le_trans (List.length_filter_le ..) ziN
end
section
open Go Go.Kn Go.Proofs
def zx9 (t:List Pt)(s:Int):Bool:=t.any fun p=>p.kind==3&&p.sign==s
def zyf (x:Sg)(t:List Pt)(s:Int):Sg:=t.foldl (fun y p=>if p.kind=1∧p.sign=s then JC y p.field p.nw else y) x
def stS (base:List Sg)(t:List Pt)(s:Int):Option Sg:=if zx9 t s then none else ((Z1 base s).or (zcw t s)).map fun x=>zyf x t s
end
section
open Go Go.Kn Go.Proofs
def zkP (x y:Int):Int:=if x<y then -1 else if x>y then 1 else 0
/-! ### Fields as cells -/
def foF (f:Int):Nat:=if f=1 then 1 else if f=2 then 2 else if f=3 then 3 else if f=4 then 5 else if f=5 then 6 else if f=6 then 7 else if f=7 then 8 else 9
def zsz (x:Sg)(f:Int):Int:=if f=1 then x.role else if f=2 then x.bar else if f=3 then x.mark else if f=4 then x.side else if f=5 then x.dir else if f=6 then x.level else if f=7 then x.size else x.wth
def zxX (b:Nat):List Value:=[.pointer none,.pointer (some ⟨b,0+1,none⟩),.pointer (some ⟨b,0+2,none⟩),.pointer (some ⟨b,0+3,none⟩),.pointer (some ⟨b,0+5,none⟩),.pointer (some ⟨b,0+6,none⟩),.pointer (some ⟨b,0+7,none⟩),.pointer (some ⟨b,0+8,none⟩),.pointer (some ⟨b,0+9,none⟩)]
theorem Xv {f:Int}(h:1≤f∧f≤8):f=1∨f=2∨f=3∨f=4∨f=5∨f=6∨f=7∨f=8:=by omega
theorem zat {f:Int}(h:1≤f∧f≤8)(b:Nat):(zxX b)[f.toNat*1]? =some (.pointer (some ⟨b,foF f,none⟩)):=by
 rcases Xv h with rfl | rfl | rfl | rfl | rfl | rfl | rfl | rfl<;>rfl
theorem zdk {f:Int}(h:1≤f∧f≤8)(x:Sg):zi9 (YZ x) (foF f)=some (.int .i64 (zsz x f)):=by
 rcases Xv h with rfl | rfl | rfl | rfl | rfl | rfl | rfl | rfl<;>rfl
theorem zps {f:Int}:Nat.blt (foF f) 14=true:=by
 unfold foF
 repeat' split
 all_goals rfl
theorem zgY {f:Int}(h:1≤f∧f≤8)(x y:Sg):(YZ x).toArray.setIfInBounds (foF f) (.int .i64 (zsz y f))=(YZ (JC x f y)).toArray:=by
 rcases Xv h with rfl | rfl | rfl | rfl | rfl | rfl | rfl | rfl<;>rfl
def zgu (v:List Int)(k:Nat)(l:Int):Prop:=(k=0→l=0)∧∀ y,v[k-1]? =some y→k≠0→l=y
theorem zav {v:List Int}{k:Nat}{x:Int}(hx:v[k]? =some x):zgu v (k+1) x:=⟨fun h=>by omega,fun y hy _=>by simp at hy;rw [hx] at hy;cases hy;rfl⟩
theorem zu4 {id:Int}{v:List Int}{k:Nat}{l x:Int}(hall:(List.range k).all (ndP id v)=true)(hl:zgu v k l)(hx:v[k]? =some x):ndP id v k= !(decide (x≤l)||decide (x≥id)):=by
 unfold ndP
 rw [Q1 hx]
 cases k with
 | zero=>
  rw [hl.1 rfl]
  rw [Bool.eq_iff_iff];simp;omega
 | succ k=>
  have hk:=(List.getElem?_eq_some_iff.1 hx).1
  have hy:v[k]? =some (v[k]'(by omega)):=List.getElem?_eq_getElem _
  have e:=hl.2 _ (by rw [Nat.add_sub_cancel];exact hy) (by omega)
  rw [show (((k+1:Nat):Int)-1).toNat=k by omega,Q1 hy,←e]
  have h1:1≤l:=by
   rw [List.all_eq_true] at hall
   have:=hall k (List.mem_range.2 (by omega))
   unfold ndP at this
   rw [Q1 hy] at this
   simp at this
   omega
  rw [Bool.eq_iff_iff];simp;omega
theorem zt2 {p:Pt}(h:p.needs.length>32):JO p=2:=by unfold JO;rw [if_pos h]
theorem zuN {p:Pt}(h:¬p.needs.length>32)(h2:ndB p.id p.needs=false):JO p=370:=by unfold JO;rw [if_neg h,h2];rfl
theorem zcL {p:Pt}(h:¬p.needs.length>32)(h2:ndB p.id p.needs=true)(h3:(idB p&&Uu p)=false):JO p=370:=by unfold JO;rw [if_neg h,h2,h3];rfl
theorem ze2 {p:Pt}(h:¬p.needs.length>32)(h2:ndB p.id p.needs=true)(h3:(idB p&&Uu p)=true):JO p=0:=by unfold JO;rw [if_neg h,h2,h3];rfl
theorem zuF {p:Pt}(h:p.kind=1)(h2:YG p.field 1 9=true):Uu p=(zak (JC p.nw p.field Vb) Vb&&frm (JC zfp p.field p.nw)):=by unfold Uu;rw [if_pos h,h2,Bool.true_and]
theorem zsp {p:Pt}(h:p.kind=1)(h2:YG p.field 1 9=false):(idB p&&Uu p)=false:=by unfold Uu;rw [if_pos h,h2,Bool.false_and,Bool.and_false]
theorem ztN {p:Pt}(h:p.kind=2):Uu p=(p.field==0&&(p.nw.id==p.sign&&frm p.nw)):=by unfold Uu;rw [if_neg (by omega),if_pos h]
theorem zs1 {p:Pt}(h:p.kind=3):Uu p=(p.field==0&&zak p.nw Vb):=by unfold Uu;rw [if_neg (by omega),if_neg (by omega),if_pos h]
theorem zxP {p:Pt}(h1:p.kind≠1)(h2:p.kind≠2)(h3:p.kind≠3):(idB p&&Uu p)=false:=by unfold Uu;rw [if_neg h1,if_neg h2,if_neg h3,Bool.and_false]
def zkb (an ad bn bd:Int):Int:=if Uo an ad&&Uo bn bd then zkP (an*bd) (bn*ad) else 0
theorem zeh {fn fd tn td:Int}:(((zkj fn fd tn td==0)&&decide (zkb fn fd tn td<0))&&decide (fn≥0)&&decide (tn≤td))=zef fn fd tn td:=by
 unfold zkj zkb zef zkP
 cases h:(Uo fn fd&&Uo tn td) with
 | false=>rfl
 | true=>
  simp only [if_true,Bool.true_and]
  by_cases h2:fn*td<tn*fd
  ·
   simp [h2]
  ·
   by_cases h3:fn*td>tn*fd<;>simp [h2,h3]
theorem zcV {xs:List Sg}{k:Nat}{x:Sg}(hx:xs[k]? =some x):skP xs k= !(!frm x||(decide ((k:Int)>0)&&decide ((xs.getD ((k:Int)-1).toNat Vb).id≥x.id))):=by unfold skP;rw [Q1 hx]
end
section
open Go Go.Kn Go.Proofs
theorem zlG (I:Qu)(x y:Int):Zx Tryz.prog 142 [.int .i64 x,.int .i64 y] I (.int .i64 (zkP x y)):=by
 intro g H w hw
 refine qe Tryz.func142 Tryz.ntmps142 hw ?_
 refine zR (zA ?_)
 refine zN (zR ?_)
 refine zM ?_
 refine qc (vs:=[_]) rfl Wd (zgb I _) ?_
 refine zA ?_
 refine zN (zR ?_)
 refine zM ?_
 refine qc (vs:=[_]) rfl Wd (zgb I _) ?_
 refine zA (zN (Ql (zR ?_)))
 refine zM (zN ?_)
 refine zI ?_ ?_<;>intro hc11
 ·
  cases hc11
 refine Qo (Qa (Ql (zR (zM (zN ?_)))))
 refine zI ?_ ?_<;>intro hc13
 ·
  cases hc13
 refine Qo (Qa (Ql (zR (zM ?_))))
 refine zM ?_
 refine zC (zN ?_)
 refine zI ?_ ?_<;>intro hc16
 ·
  refine zR (zA (zN (Qs (Qc ?_))))
  exact zr rfl rfl (by unfold zkP;first | (rw [if_pos (by simpa using hc16)]) | (rw [if_neg (by simpa using hc16),if_pos (by simpa using hc19)]) | (rw [if_neg (by simpa using hc16),if_neg (by simpa using hc19)]))
 refine Qo (Qa (Ql (zR (zM ?_))))
 refine zM ?_
 refine zC (zN ?_)
 refine zI ?_ ?_<;>intro hc19
 ·
  refine zR (zA (zN (Qs (Qc ?_))))
  exact zr rfl rfl (by unfold zkP;first | (rw [if_pos (by simpa using hc16)]) | (rw [if_neg (by simpa using hc16),if_pos (by simpa using hc19)]) | (rw [if_neg (by simpa using hc16),if_neg (by simpa using hc19)]))
 refine Qo (Qa (zR (zA (zN (Qs ?_)))))
 exact zr rfl rfl (by unfold zkP;first | (rw [if_pos (by simpa using hc16)]) | (rw [if_neg (by simpa using hc16),if_pos (by simpa using hc19)]) | (rw [if_neg (by simpa using hc16),if_neg (by simpa using hc19)]))
end
section
open Go Go.Kn Go.Proofs
theorem zgR (I:Qu)(an ad bn bd:Int):Zx Tryz.prog 237 [zbB (an) (ad),zbB (bn) (bd)] I (.tuple #[.int .i64 (zkb an ad bn bd),.int .i64 (zkj an ad bn bd)]):=by
 intro g H w hw
 refine qe Tryz.func237 Tryz.ntmps237 hw ?_
 refine zR ?_
 refine Q5 rfl rfl rfl (fun b_2=>?_)
 refine Q5 rfl rfl rfl (fun b_3=>?_)
 refine zA ?_
 refine zA (zN (Ql (zR ?_)))
 refine zV (Qp rfl Vl (fun hg=>by exact Cells.g1) rfl) ?_
 refine qc (vs:=[_]) rfl zbf (W9 I _ _) ?_
 refine zC ?_
 refine zM ?_
 refine Q0 3 rfl rfl rfl ?_
 refine zJ (Qp rfl Vl (fun hg=>by exact Cells.g0) rfl) ?_
 refine qf (vs:=[_]) rfl zbf (fun hg=>W9 I _ _) ?_
 refine zJ (QJ rfl rfl rfl) ?_
 refine ZA rfl rfl rfl rfl rfl ?_
 refine zN ?_
 refine zI ?_ ?_<;>intro hc13
 ·
  have hb:(Uo an ad&&Uo bn bd)=false:=by have h:=hc13;rw [zby,Bool.not_eq_true'] at h;exact h
  refine zR (zA ?_)
  refine zA (zN (Qs (Qc ?_)))
  exact Zo rfl rfl rfl (fun w hw=>⟨by unfold zkb zkj;rw [hb];rfl,hw.drop⟩)
 have hb:(Uo an ad&&Uo bn bd)=true:=by have h:=hc13;rw [zby,Bool.not_eq_false'] at h;exact h
 have ⟨ha1,ha2⟩:=za5 (Bool.and_eq_true .. ▸ hb).1
 have ⟨hb1,hb2⟩:=za5 (Bool.and_eq_true .. ▸ hb).2
 refine Qo (Qa (zR ?_))
 refine zF Y7 ?_
 refine zL Qt ?_
 refine zF VW ?_
 refine zL Qt ?_
 refine zV (ZS rfl rfl rfl (fun _=>by exact zly (by omega) (by omega))) ?_
 refine zF Y7 ?_
 refine zL Qt ?_
 refine zF VW ?_
 refine zL Qt ?_
 refine zV (ZS rfl rfl rfl (fun _=>by exact zly (by omega) (by omega))) ?_
 refine qc (vs:=[_,_]) rfl zdS (zlG I _ _) ?_
 refine zA ?_
 refine zA (zN (Qs ?_))
 exact Zo rfl rfl rfl (fun w hw=>⟨by unfold zkb zkj;rw [hb];rfl,hw.drop⟩)
theorem zhU (I:Qu)(an ad bn bd:Int):Zx Tryz.prog 203 [zbB (an) (ad),zbB (bn) (bd)] I (.bool (zef an ad bn bd)):=by
 intro g H w hw
 refine qe Tryz.func203 Tryz.ntmps203 hw ?_
 refine zR ?_
 refine Q5 rfl rfl rfl (fun b_2=>?_)
 refine Q5 rfl rfl rfl (fun b_3=>?_)
 refine zA ?_
 refine zN (zR ?_)
 refine zV (Qp rfl Vl (fun hg=>by exact Cells.g1) rfl) ?_
 refine zV (Qp rfl Vl (fun hg=>by exact Cells.g0) rfl) ?_
 refine qc (vs:=[_,_]) rfl zjf (zgR I _ _ _ _) ?_
 refine zM ?_
 refine zE ?_
 refine zE ?_
 refine zA ?_
 refine zA ?_
 refine zN (zR ?_)
 refine zM ?_
 refine zC ?_
 refine zM ?_
 refine QG 2 rfl rfl rfl ?_
 refine zK (Qi rfl) ?_
 refine zK (QJ rfl rfl rfl) ?_
 refine QO rfl rfl rfl rfl rfl ?_
 refine zM ?_
 refine QG 6 rfl rfl rfl ?_
 refine zK (Qf rfl Y7) ?_
 refine zK (Qd rfl Qt (fun hg=>by exact QV.h1 rfl)) ?_
 refine zK (QJ rfl rfl rfl) ?_
 refine QO rfl rfl rfl rfl rfl ?_
 refine zM ?_
 refine QG 11 rfl rfl rfl ?_
 refine zK (Qf rfl Y7) ?_
 refine zK (Qd rfl Qt (fun hg=>by exact QV.h0 rfl)) ?_
 refine zK (Qf rfl VW) ?_
 refine zK (Qd rfl Qt (fun hg=>by exact QV.h0 rfl)) ?_
 refine zK (QJ rfl rfl rfl) ?_
 refine QO rfl rfl rfl rfl rfl ?_
 refine zA (zN (Qs ?_))
 exact zr rfl rfl (by rw [←zeh])
theorem zpp (I:Qu)(x:Sg):Zx Tryz.prog 154 [JT x] I (.bool (frm x)):=by
 intro g H w hw
 refine qe Tryz.func154 Tryz.ntmps154 hw ?_
 refine zR ?_
 refine Q5 rfl rfl rfl (fun b_1=>?_)
 refine zA ?_
 refine zN (zR ?_)
 refine zF ZO ?_
 refine zL Qt ?_
 refine qc (vs:=[_,_,_]) rfl Yg (ZT I _ _ _) ?_
 refine zM ?_
 refine QG 3 rfl rfl rfl ?_
 refine zK (Qf rfl JX) ?_
 refine zK (Qd rfl Qt (fun hg=>by exact QV.h0 rfl)) ?_
 refine qg (vs:=[_,_,_]) rfl Yg (fun hg=>ZT I _ _ _) ?_
 refine QO rfl rfl rfl rfl rfl ?_
 refine zM ?_
 refine QG 8 rfl rfl rfl ?_
 refine zK (Qf rfl Kf) ?_
 refine zK (Qd rfl Qt (fun hg=>by exact QV.h0 rfl)) ?_
 refine qg (vs:=[_,_,_]) rfl Yg (fun hg=>ZT I _ _ _) ?_
 refine QO rfl rfl rfl rfl rfl ?_
 refine zM ?_
 refine QG 13 rfl rfl rfl ?_
 refine zK (Qf rfl W7) ?_
 refine zK (Qd rfl Qt (fun hg=>by exact QV.h0 rfl)) ?_
 refine qg (vs:=[_,_,_]) rfl Yg (fun hg=>ZT I _ _ _) ?_
 refine QO rfl rfl rfl rfl rfl ?_
 refine zM ?_
 refine QG 18 rfl rfl rfl ?_
 refine zK (Qf rfl Jw) ?_
 refine zK (Qd rfl Qt (fun hg=>by exact QV.h0 rfl)) ?_
 refine qg (vs:=[_,_,_]) rfl Yg (fun hg=>ZT I _ _ _) ?_
 refine QO rfl rfl rfl rfl rfl ?_
 refine zM ?_
 refine QG 23 rfl rfl rfl ?_
 refine zK (Qf rfl JZ) ?_
 refine zK (Qd rfl Qt (fun hg=>by exact QV.h0 rfl)) ?_
 refine qg (vs:=[_,_,_]) rfl Yg (fun hg=>ZT I _ _ _) ?_
 refine QO rfl rfl rfl rfl rfl ?_
 refine zM ?_
 refine QG 28 rfl rfl rfl ?_
 refine zK (Qf rfl JY) ?_
 refine zK (Qd rfl Qt (fun hg=>by exact QV.h0 rfl)) ?_
 refine qg (vs:=[_,_,_]) rfl Yg (fun hg=>ZT I _ _ _) ?_
 refine QO rfl rfl rfl rfl rfl ?_
 refine zM ?_
 refine QG 33 rfl rfl rfl ?_
 refine zK (Qf rfl JV) ?_
 refine zK (Qd rfl Qt (fun hg=>by exact QV.h0 rfl)) ?_
 refine qg (vs:=[_,_,_]) rfl Yg (fun hg=>ZT I _ _ _) ?_
 refine QO rfl rfl rfl rfl rfl ?_
 refine zM ?_
 refine QG 38 rfl rfl rfl ?_
 refine zK (Qf rfl JR) ?_
 refine zK (Qd rfl Qt (fun hg=>by exact QV.h0 rfl)) ?_
 refine qg (vs:=[_,_,_]) rfl Yg (fun hg=>ZT I _ _ _) ?_
 refine QO rfl rfl rfl rfl rfl ?_
 refine zM ?_
 refine QG 43 rfl rfl rfl ?_
 refine zK (Qf rfl JP) ?_
 refine zK (Qd rfl Qt (fun hg=>by exact QV.h0 rfl)) ?_
 refine qg (vs:=[_,_,_]) rfl Yg (fun hg=>ZT I _ _ _) ?_
 refine QO rfl rfl rfl rfl rfl ?_
 refine zM ?_
 refine QG 48 rfl rfl rfl ?_
 refine zK (Qf rfl Vy) ?_
 refine zK (Qp rfl Vl (fun hg=>by exact Cells.s0 (vs:=[_,_]) rfl) rfl) ?_
 refine zK (Qf rfl VD) ?_
 refine zK (Qp rfl Vl (fun hg=>by exact Cells.s0 (vs:=[_,_]) rfl) rfl) ?_
 refine qg (vs:=[_,_]) rfl zhd (fun hg=>zhU I _ _ _ _) ?_
 refine QO rfl rfl rfl rfl rfl ?_
 refine zA (zN (Qs ?_))
 exact zr rfl rfl (by rfl)
theorem zeB {I:Qu}{av:Option Addr}{n c:Nat}{xs:List Sg}(hS:Sl I 14 YZ av n c xs)(hn:n≤100000):Zx Tryz.prog 102 [.slice av n c] I (.int .i64 (Wz xs)):=by
 intro g H w hw
 refine qe Tryz.func102 Tryz.ntmps102 hw ?_
 refine zR (zA (zN (Ql (zR ?_))))
 refine zM ?_
 refine zQ YW ?_
 refine zC (zN ?_)
 refine zI ?_ ?_<;>intro hc7
 ·
  have h6:xs.length>4096:=by rw [hS.len];simp at hc7;omega
  refine zR (zA (zN (Qs (Qc ?_))))
  first
  | exact zr rfl rfl (by unfold Wz;rw [if_pos h6])
 have h6:¬xs.length>4096:=by rw [hS.len];simp at hc7;omega
 refine Qo (Qa (Ql (zR (zM ?_))))
 refine zQ YW ?_
 refine zM (zN (Qm ?_))
 refine zU [(0,_),(8,_),(9,_)] (fun T L0 mz E I' loc'=>∃ (k:Nat),mz=n-k∧E=(10,.int .i64 k)::T∧I=I'∧L0=loc'∧k≤n∧(List.range k).all (skP xs)=true) ?_ (h:=⟨0,rfl,rfl,rfl,rfl,Nat.zero_le _,rfl⟩)
 rintro mz E I' loc' ⟨k,rfl,rfl,rfl,rfl,hk,hall⟩
 refine zR (zC (zN (Ql ?_)))
 refine zI ?_ ?_<;>intro hc11
 ·
  have hlt_k:k<n:=by have h:=hc11;simp at h;omega
  obtain ⟨x,hx⟩:=hS.at hlt_k
  refine Qo (Qa (Ql (Qm (zR (zM ?_)))))
  refine zV (QE rfl rfl YW (by assumption) (fun hg=>by omega)) ?_
  refine zV (Qp rfl ZK (fun hg=>by exact zyw hS hx) rfl) ?_
  refine Qr WW rfl rfl (fun b_4=>?_)
  refine zA ?_
  refine zh VG ?_
  refine zN (Ql ?_)
  refine Va mixed (by kernel_rfl) ?_
  refine zq (Qp rfl ZK (fun hg=>by exact Cells.g0) rfl) ?_
  refine Jf (cap:=[]) (vs:=[_]) rfl rfl zh1 (zpp I _) rfl rfl ?_
  refine zq (Vd rfl) ?_
  refine zq (Qi rfl) ?_
  refine VY 3 rfl rfl rfl ?_
  refine zj (Qi rfl) ?_
  refine zj (QJ rfl rfl rfl) ?_
  refine zj (Qi rfl) ?_
  refine zev 6 rfl rfl rfl ?_
  refine zk (Qi rfl) ?_
  refine zk (Qi rfl) ?_
  refine zk (ZS rfl rfl rfl (fun hg=>by omega)) ?_
  refine zk (QE rfl rfl YW (by assumption) (fun hg=>by (simp [ZX] at hg;omega))) ?_
  refine zk (Qf rfl ZO) ?_
  refine zk (Qd rfl Qt (fun hg=>by exact zyo (k:=((k:Int)-1).toNat) hS (Zj (d:=Vb) hS.len (by simp [ZX] at hg;omega)) rfl)) ?_
  refine zk (Qf rfl ZO) ?_
  refine zk (Qd rfl Qt (fun hg=>by exact QV.h0 rfl)) ?_
  refine zk (QJ rfl rfl rfl) ?_
  refine zgP rfl rfl rfl (.some rfl rfl rfl rfl gbf) rfl rfl ?_
  refine U0 rfl rfl rfl rfl rfl ?_
  refine Vc ?_
  refine Qa ?_
  refine zI ?_ ?_<;>intro hc32
  ·
   refine zR (zA (zN (Qs (Qn (Qc (Qc (Qn ?_)))))))
   refine Qc ?_
   first
   | exact zr rfl rfl (by unfold Wz skB;rw [if_neg h6,JH (k:=k) (by rw [hS.len];exact hlt_k) (by rw [zcV hx,hc32];rfl)];rfl)
  refine Qo (Qh (Qa (Qg (zB ?_))))
  refine zM (Qb ?_)
  exact zm (h:=⟨n-(k+1),by omega,k+1,rfl,rfl,rfl,rfl,by omega,V6 hall (by rw [zcV hx,hc32];rfl)⟩)
 have hge_k:n≤k:=by have h:=hc11;simp at h;omega
 refine QH (Qe (Qe (Qk (Qa (zR (zA (zN ?_)))))))
 refine Qs ?_
 first
 | exact zr rfl rfl (by unfold Wz skB;rw [if_neg h6,hS.len,show n=k by omega,hall];rfl)
theorem XY (I:Qu)(b:Nat):Zx Tryz.prog 196 [Za b] I (.agg (zxX b).toArray):=by
 intro g H w hw
 refine qe Tryz.func196 Tryz.ntmps196 hw ?_
 refine zR ?_
 refine Qr zm4 rfl rfl (fun b_2=>?_)
 refine zN (Ql ?_)
 have hD:=zyv I
 refine Jn ?_
 refine Z8 I [] mixed ?_
 refine zT 0 rfl (Qi rfl) hD ?_
 refine zT 1 rfl (QZ rfl) hD ?_
 refine zT 2 rfl (Qf rfl JX) hD ?_
 refine zT 3 rfl (Qi rfl) hD ?_
 refine zT 4 rfl (QZ rfl) hD ?_
 refine zT 5 rfl (Qf rfl Kf) hD ?_
 refine zT 6 rfl (Qi rfl) hD ?_
 refine zT 7 rfl (QZ rfl) hD ?_
 refine zT 8 rfl (Qf rfl Jw) hD ?_
 refine zT 9 rfl (Qi rfl) hD ?_
 refine zT 10 rfl (QZ rfl) hD ?_
 refine zT 11 rfl (Qf rfl JZ) hD ?_
 refine zT 12 rfl (Qi rfl) hD ?_
 refine zT 13 rfl (QZ rfl) hD ?_
 refine zT 14 rfl (Qf rfl JY) hD ?_
 refine zT 15 rfl (Qi rfl) hD ?_
 refine zT 16 rfl (QZ rfl) hD ?_
 refine zT 17 rfl (Qf rfl JV) hD ?_
 refine zT 18 rfl (Qi rfl) hD ?_
 refine zT 19 rfl (QZ rfl) hD ?_
 refine zT 20 rfl (Qf rfl JR) hD ?_
 refine zT 21 rfl (Qi rfl) hD ?_
 refine zT 22 rfl (QZ rfl) hD ?_
 refine zT 23 rfl (Qf rfl JP) hD ?_
 refine zT 24 rfl (Zw (ps:=[(1,_),(2,_),(3,_),(4,_),(5,_),(6,_),(7,_),(8,_)]) [_,_,_,_,_,_,_,_,_] Um zm4 rfl rfl) hD ?_
 refine qd 25 rfl ?_
 refine zh zoR ?_
 refine Qb ?_
 refine zD hD ?_
 refine QF (by kernel_rfl) ?_
 refine QQ ?_
 refine Qa (Qs ?_)
 exact Kx rfl rfl zpk Cells.g0 rfl (fun w hw=>⟨rfl,hw.drop⟩)
theorem ztg (I:Qu)(x:Sg)(f:Int)(y:Sg)(hf:isF f):Zx Tryz.prog 146 [JT x,.int .i64 f,JT y] I (JT (JC x f y)):=by
 intro g H w hw
 refine qe Tryz.func146 Tryz.ntmps146 hw ?_
 refine zR ?_
 refine Q5 rfl rfl rfl (fun b_3=>?_)
 refine Q5 rfl rfl rfl (fun b_5=>?_)
 refine Qr WW rfl rfl (fun b_6=>?_)
 refine zN (Ql (zR (zM ?_)))
 refine zC (zN ?_)
 refine zI ?_ ?_<;>intro hc8
 ·
  have hf9:f=9:=by simpa using hc8
  refine zR ?_
  refine zF Vy ?_
  refine zV (Qp rfl Vl (fun hg=>by exact Cells.s1 (vs:=[_,_]) rfl) rfl) ?_
  refine zF VD ?_
  refine zV (Qp rfl Vl (fun hg=>by exact Cells.s1 (vs:=[_,_]) rfl) rfl) ?_
  refine zF Vy ?_
  refine Jh rfl rfl zaD rfl rfl rfl rfl (by repeat (first | exact Upd.here | apply Upd.there | apply QI)) ?_
  refine zF VD ?_
  refine Jh rfl rfl zaD rfl rfl rfl rfl (by repeat (first | exact Upd.here | apply Upd.there | apply QI)) ?_
  refine zN (zR ?_)
  refine zV (Qp rfl ZK (fun hg=>by exact Cells.g2) rfl) ?_
  refine zh VG ?_
  refine zN (Qs (Qc ?_))
  first
  | exact Kx rfl rfl ZK Cells.g0 rfl (fun w hw=>⟨by rw [hf9];rfl,hw.drop⟩)
 have hf8:1≤f∧f≤8:=by have h:=hc8;unfold isF at hf;simp at h;omega
 refine Qo (Qa (Ql ?_))
 have hD:=zyv I
 refine Jn ?_
 refine Z8 I [(b_5,.cells (JT y).cells 54 (0,0))] mixed ?_
 refine zT 1 rfl (Qi rfl) hD ?_
 refine zT 4 rfl (Qi rfl) hD ?_
 refine qd 0 rfl ?_
 refine qc (vs:=[_]) rfl zeb (XY I _) ?_
 refine Qb ?_
 refine zD hD ?_
 refine Zr 2 3 rfl rfl (by kernel_rfl) ?_ ?_
 ·
  refine zV (Kg rfl rfl Um Wx (fun hg=>by omega) (fun hg=>zat hf8 b_3)) ?_
  refine Qb ?_
  refine zD hD ?_
  refine qd 3 rfl ?_
  refine qc (vs:=[_]) rfl zeb (XY I _) ?_
  refine Qb ?_
  refine zD hD ?_
  refine qd 5 rfl ?_
  refine zV (Kg rfl rfl Um Wx (fun hg=>by omega) (fun hg=>zat hf8 b_5)) ?_
  refine Qb ?_
  refine zD hD ?_
  refine zT 6 rfl (QZ rfl) hD ?_
  refine zT 7 rfl (Qd rfl Qt (fun hg=>by exact QV.h0 (zdk hf8 y))) hD ?_
  refine zT 8 rfl (QZ rfl) hD ?_
  refine qd 9 rfl ?_
  refine ZG rfl rfl Yf rfl rfl Upd.u2 (by exact zps) ?_
  rw [show (JT x).cells.setIfInBounds (foF f) (.int .i64 (zsz y f))=(YZ (JC x f y)).toArray from zgY hf8 x y]
  refine Qb ?_
  refine zD hD ?_
  refine QF (by kernel_rfl) ?_
  refine QQ ?_
  refine Qa (zR ?_)
  refine zV (Qp rfl ZK (fun hg=>by exact Cells.g2) rfl) ?_
  refine zh VG ?_
  refine zN (Qs ?_)
  exact Kx rfl rfl ZK Cells.g0 rfl (fun w hw=>⟨rfl,hw.drop⟩)
 refine qc (vs:=[_]) rfl zeb (XY I _) ?_
 refine Qb ?_
 refine zD hD ?_
 refine Zr 2 5 rfl rfl (by kernel_rfl) ?_ ?_
 ·
  refine zV (Kg rfl rfl Um Wx (fun hg=>by omega) (fun hg=>zat hf8 b_3)) ?_
  refine Qb ?_
  refine zD hD ?_
  refine qd 5 rfl ?_
  refine zV (Kg rfl rfl Um Wx (fun hg=>by omega) (fun hg=>zat hf8 b_5)) ?_
  refine Qb ?_
  refine zD hD ?_
  refine zT 6 rfl (QZ rfl) hD ?_
  refine zT 7 rfl (Qd rfl Qt (fun hg=>by exact QV.h0 (zdk hf8 y))) hD ?_
  refine zT 8 rfl (QZ rfl) hD ?_
  refine qd 9 rfl ?_
  refine ZG rfl rfl Yf rfl rfl Upd.u2 (by exact zps) ?_
  rw [show (JT x).cells.setIfInBounds (foF f) (.int .i64 (zsz y f))=(YZ (JC x f y)).toArray from zgY hf8 x y]
  refine Qb ?_
  refine zD hD ?_
  refine QF (by kernel_rfl) ?_
  refine QQ ?_
  refine Qa (zR ?_)
  refine zV (Qp rfl ZK (fun hg=>by exact Cells.g2) rfl) ?_
  refine zh VG ?_
  refine zN (Qs ?_)
  exact Kx rfl rfl ZK Cells.g0 rfl (fun w hw=>⟨rfl,hw.drop⟩)
 refine zV (Kg rfl rfl Um Wx (fun hg=>by omega) (fun hg=>zat hf8 b_5)) ?_
 refine Qb ?_
 refine zD hD ?_
 refine zT 6 rfl (QZ rfl) hD ?_
 refine zT 7 rfl (Qd rfl Qt (fun hg=>by exact QV.h0 (zdk hf8 y))) hD ?_
 refine qd 2 rfl ?_
 refine zV (Kg rfl rfl Um Wx (fun hg=>by omega) (fun hg=>zat hf8 b_3)) ?_
 refine Qb ?_
 refine zD hD ?_
 refine zT 8 rfl (QZ rfl) hD ?_
 refine qd 9 rfl ?_
 refine ZG rfl rfl Yf rfl rfl Upd.u2 (by exact zps) ?_
 rw [show (JT x).cells.setIfInBounds (foF f) (.int .i64 (zsz y f))=(YZ (JC x f y)).toArray from zgY hf8 x y]
 refine Qb ?_
 refine zD hD ?_
 refine QF (by kernel_rfl) ?_
 refine QQ ?_
 refine Qa (zR ?_)
 refine zV (Qp rfl ZK (fun hg=>by exact Cells.g2) rfl) ?_
 refine zh VG ?_
 refine zN (Qs ?_)
 exact Kx rfl rfl ZK Cells.g0 rfl (fun w hw=>⟨rfl,hw.drop⟩)
end
section
open Go Go.Kn
theorem zfL (zs:List Int):zs.flatMap QP=zs.map (Value.int .i64):=by
 induction zs with
 | nil=>rfl
 | cons z zs ih=>rw [List.flatMap_cons,ih];rfl
theorem WJ {zs ys:List Int}(hy:ys.Pairwise (· < ·))(h:∀ x,x∈zs↔x∈ys):Lib.compact (Yu zs)=ys:=
 Wl (Ks zs).1 hy fun a=>by rw [(Ks zs).2,h]
end
section
open Go Go.Kn Go.Proofs
theorem zq7 (i j:Nat)(h:i+j≤1000000):IntKind.i64.wrap ((IntKind.u64.wrap ((i:Int)+(j:Int))).fdiv (2^1))=(((i+j) / 2:Nat):Int):=by
 have h1:IntKind.u64.wrap ((i:Int)+(j:Int))=((i+j:Nat):Int):=by
  rw [show ((i:Int)+(j:Int))=((i+j:Nat):Int) by omega]
  exact zgK ⟨by omega,by omega⟩
 rw [h1,show ((2:Int)^1)=((2:Nat):Int) from rfl,Int.fdiv_eq_ediv_of_nonneg _ (by omega),←Int.natCast_ediv]
 exact zaQ ⟨by omega,by omega⟩
theorem zus {x y:Int}:decide (zkP x y<0)=decide (x<y):=by
 unfold zkP
 by_cases h:x<y
 ·
  rw [if_pos h];simp [h]
 ·
  rw [if_neg h];split<;>simp [h]
section
variable {α:Type} {key:α→Int} {xs:List α} {t:Int}
theorem zxe (hs:xs.Pairwise (fun a b=>key a<key b)){h:Nat}{y:α}(hy:xs[h]? =some y)(hlt:key y<t):∀ q z,q<h+1→xs[q]? =some z→key z<t:=fun q z hq hz=>by
 obtain ⟨h1,h2⟩:=List.getElem?_eq_some_iff.1 hz
 obtain ⟨h3,h4⟩:=List.getElem?_eq_some_iff.1 hy
 by_cases e:q=h
 ·
  subst e;rw [hy] at hz;cases hz;exact hlt
 ·
  have:=List.pairwise_iff_getElem.1 hs q h h1 h3 (by omega)
  rw [h2,h4] at this;omega
theorem zwu (hs:xs.Pairwise (fun a b=>key a<key b)){h:Nat}{y:α}(hy:xs[h]? =some y)(hlt:¬key y<t):∀ q z,h≤q→xs[q]? =some z→¬key z<t:=fun q z hq hz=>by
 obtain ⟨h1,h2⟩:=List.getElem?_eq_some_iff.1 hz
 obtain ⟨h3,h4⟩:=List.getElem?_eq_some_iff.1 hy
 by_cases e:q=h
 ·
  subst e;rw [hy] at hz;cases hz;exact hlt
 ·
  have:=List.pairwise_iff_getElem.1 hs h q h3 h1 (by omega)
  rw [h2,h4] at this;omega
def zwx (key:α→Int)(xs:List α)(t:Int):Nat:=(xs.takeWhile fun x=>decide (key x<t)).length
theorem zsK {i:Nat}(hi:i≤xs.length)(hlo:∀ q z,q<i→xs[q]? =some z→key z<t)(hhi:∀ q z,i≤q→xs[q]? =some z→¬key z<t):zwx key xs t=i:=by
 unfold zwx
 have h1:(xs.take i).all (fun x=>decide (key x<t))=true:=by
  rw [List.all_eq_true]
  intro z hz
  obtain ⟨q,hq⟩:=List.getElem?_of_mem hz
  have hq1:q<i:=by have:=(List.getElem?_eq_some_iff.1 hq).1;rw [List.length_take] at this;omega
  rw [List.getElem?_take_of_lt hq1] at hq
  exact decide_eq_true (hlo q z hq1 hq)
 rw [(zsN h1 hi (fun y hy=>decide_eq_false (hhi i y (Nat.le_refl _) hy))).1,List.length_take];omega
theorem zlN {i n:Nat}{d:α}(hl:xs.length=n)(hlo:∀ q z,q<i→xs[q]? =some z→key z<t)(hhi:∀ q z,i≤q→xs[q]? =some z→¬key z<t)(hs:xs.Pairwise (fun a b=>key a<key b)):(decide ((i:Int)<(n:Int))&&(key (xs.getD i d)==t))=xs.any fun x=>key x==t:=by
 rw [Bool.eq_iff_iff,List.any_eq_true,Bool.and_eq_true]
 constructor
 ·
  rintro ⟨h1,h2⟩
  have hi:i<n:=by have:=of_decide_eq_true h1;omega
  exact ⟨_,List.mem_of_getElem? (Zj hl hi),h2⟩
 ·
  rintro ⟨x,hx,e⟩
  have e:key x=t:=by simpa using e
  obtain ⟨q,hq⟩:=List.getElem?_of_mem hx
  have hqn:=(List.getElem?_eq_some_iff.1 hq).1
  have h1:i≤q:=by
   rcases Nat.lt_or_ge q i with h | h
   ·
    have:=hlo q x h hq;omega
   ·
    exact h
  have h2:q=i:=by
   by_cases e2:q=i
   ·
    exact e2
   ·
    have hy:=Zj (d:=d) hl (show i<n by omega)
    obtain ⟨h3,h4⟩:=List.getElem?_eq_some_iff.1 hq
    obtain ⟨h5,h6⟩:=List.getElem?_eq_some_iff.1 hy
    have h7:=List.pairwise_iff_getElem.1 hs i q h5 h3 (by omega)
    rw [h4,h6] at h7
    have:=hhi i _ (Nat.le_refl _) hy
    omega
  subst h2
  refine ⟨decide_eq_true (by omega),?_⟩
  rw [Q1 hq,e];simp
end
instance : Inhabited Sg := ⟨Vb⟩
def znQ (a b:Sg):Int:=zkP a.id b.id
theorem ltG (a b:Sg):Go.Proofs.ltOf znQ a b=decide (a.id<b.id):=by unfold Go.Proofs.ltOf znQ;exact zus
theorem zyj:Go.Sort.SWO (Go.Proofs.ltOf znQ) where
 irrefl:=fun x=>by rw [ltG];simp
 trans:=fun x y z h1 h2=>by rw [ltG] at*;simp at*;omega
 ntrans:=fun x y z h1 h2=>by rw [ltG] at*;simp at*;omega
theorem zlQ {zs zs':List Sg}(hp:zs'.Perm zs)(hs:zs'.Pairwise (fun x y=>Go.Proofs.ltOf znQ y x=false))(hn:(zs.map (·.id)).Nodup):Srt zs':=by
 have hn':(zs'.map (·.id)).Nodup:=(hp.map (·.id)).nodup_iff.2 hn
 unfold Srt
 have h2:zs'.Pairwise (fun a b=>a.id≠b.id):=List.pairwise_map.1 hn'
 refine (hs.and h2).imp fun {a b} h=>?_
 have:=h.1
 rw [ltG] at this
 simp at this
 have:=h.2
 omega
end
section
open Go Go.Kn Go.Proofs
def zr5 (v:List Int)(i:Nat):Bool:= !(decide ((i:Int)>0)&&decide (v.getD i 0≤v.getD ((i:Int)-1).toNat 0))
theorem zkf {v:List Int}:zrs v=(List.range v.length).all (zr5 v):=rfl
theorem zjS (v:List Int):(List.range 1).all (zr5 v)=true:=by simp [zr5]
theorem zh0 {v:List Int}{k:Nat}{x:Int}(hx:v[k]? =some x)(h:1≤k):zr5 v k= !decide (x≤v.getD ((k:Int)-1).toNat 0):=by
 unfold zr5
 rw [Q1 hx,decide_eq_true (show (k:Int)>0 by omega),Bool.true_and]
theorem zi4 {p:Nat→Bool}{n k:Nat}(h:(List.range k).all p=true)(hn:n≤k):(List.range n).all p=true:=by
 rw [List.all_eq_true] at*
 intro i hi
 exact h i (List.mem_range.2 (Nat.lt_of_lt_of_le (List.mem_range.1 hi) hn))
end
section
open Go Go.Kn Go.Proofs
theorem zsx (e:Nat)(zs:List Int){v:Value}{n:Nat}{L:Go.Kn.Loc}(hO:OwnS e 1 v n (zs.map (Value.int .i64)) L)(hn:n≤1000000)(I:Qu):
  Yc Tryz.prog 64 [v] I L (fun u I' L'=>u= .tuple #[]∧I'=I∧OwnS e 1 v n ((Yu zs).map (Value.int .i64)) L'):=
 zjB Tryz.slices_Sort_int Tryz.slices_Sort_int_none zs hO hn I
theorem zjn (e:Nat)(zs:List Int){v:Value}{n:Nat}{L:Go.Kn.Loc}(hO:OwnS e 1 v n (zs.map (Value.int .i64)) L)(hn:n≤1000000)(I:Qu):
  Yc Tryz.prog 91 [v] I L (fun u I' L'=>I'=I∧OwnS e 1 u (Lib.compact zs).length ((Lib.compact zs).map (Value.int .i64)) L'):=
 zaz Lib.compact Lib.compact_length_le rfl Tryz.slices_Compact_int Tryz.slices_Compact_int_empty zs hO hn I
theorem zvD (I:Qu)(x y:Sg):Zx Tryz.prog 141 [JT x,JT y] I (.int .i64 (znQ x y)):=by
 intro g H w hw
 refine qe Tryz.func141 Tryz.ntmps141 hw ?_
 refine zR ?_
 refine Q5 rfl rfl rfl (fun b_2=>?_)
 refine Q5 rfl rfl rfl (fun b_3=>?_)
 refine zA ?_
 refine zN (zR ?_)
 refine zF ZO ?_
 refine zL Qt ?_
 refine zF ZO ?_
 refine zL Qt ?_
 refine qc (vs:=[_,_]) rfl zdS (zlG I _ _) ?_
 refine zA (zN (Qs ?_))
 exact zr rfl rfl (by rfl)
theorem zrl (e:Nat)(zs:List Sg){v:Value}{n:Nat}{L:Go.Kn.Loc}(hO:OwnS e 14 v n (zs.flatMap YZ) L)(hn:n≤1000000)(I:Qu):
  Yc Tryz.prog 140 [v,.func (.func 141) #[] #[]] I L (fun u I' L'=>u= .tuple #[]∧I'=I∧∃ zs':List Sg,zs'.Perm zs∧zs'.Pairwise (fun x y=>Go.Proofs.ltOf znQ y x=false)∧OwnS e 14 v n (zs'.flatMap YZ) L'):=
 zkK Z5 (by decide) (fun blk off cap d w hC hH hb hs=>Tryz.slices_SortFunc 14 (fun w=>YU ZK) (fun w=>by obtain ⟨i,hi,hz⟩:=VG;rw [←hz];exact Go.Kn.run_sizeOf hi) YZ Z5 (fun x=>V7 (by rfl)) znQ zyj 141 #[] blk off cap d w (fun args w=>Vz zra args w) hC hH hb hs)
  (Tryz.slices_SortFunc_none (α:=Sg)) (fun I x y=>zvD I x y) zs hO hn I
theorem zmM (I:Qu)(x:Int):Zx Tryz.prog 190 [.int .i64 x] I (.bool false):=by
 intro g H w hw
 refine qe Tryz.func190 Tryz.ntmps190 hw ?_
 refine zR (zA ?_)
 refine zN (zR ?_)
 refine zM ?_
 refine zM ?_
 refine zC ?_
 refine zA (zN (Qs ?_))
 exact zr rfl rfl (by simp)
theorem zvE (I:Qu)(x y:Int):Zx Tryz.prog 161 [.int .i64 x,.int .i64 y] I (.bool (decide (x<y))):=by
 intro g H w hw
 refine qe Tryz.func161 Tryz.ntmps161 hw ?_
 refine zR (zA ?_)
 refine zN (zR ?_)
 refine zM ?_
 refine qc (vs:=[_]) rfl Wd (zgb I _) ?_
 refine zM ?_
 refine QG 2 rfl rfl rfl ?_
 refine zK (Qi rfl) ?_
 refine qg (vs:=[_]) rfl Wd (fun hg=>zgb I _) ?_
 refine zK (Vd rfl) ?_
 refine QO rfl rfl rfl rfl rfl ?_
 refine zM ?_
 refine Q0 7 rfl rfl rfl ?_
 refine zJ (Qi rfl) ?_
 refine zJ (Qi rfl) ?_
 refine zJ (QJ rfl rfl rfl) ?_
 refine ZA rfl rfl rfl rfl rfl ?_
 refine zA (zN (Qs ?_))
 exact zr rfl rfl (by rfl)
theorem zxn {I:Qu}{av:Option Addr}{n c:Nat}{xs:List Int}(hS:Sl I 1 QP av n c xs)(hn:n≤100000)(hs:xs.Pairwise (· < ·))(t:Int):Zx Tryz.prog 139 [.slice av n c,.int .i64 t] I (.tuple #[.int .i64 (zwx (fun x:Int=>x) xs t:Nat),.bool (xs.any fun x=>x==t)]):=by
 intro g H w hw
 refine qe Tryz.func139 Tryz.ntmps139 hw ?_
 refine zR (zA ?_)
 refine zA ?_
 refine zN (zR ?_)
 refine zM ?_
 refine zQ Qy ?_
 refine zA ?_
 refine zN (zR ?_)
 refine zM ?_
 refine zA ?_
 refine zA (zN (Ql (Qm ?_)))
 refine zU [(0,_),(1,_),(6,_)] (fun T L0 mz E I' loc'=>∃ (i j:Nat),mz=j-i∧E=(7,.int .i64 i)::(8,.int .i64 j)::T∧I=I'∧L0=loc'∧i≤j∧j≤n∧(∀ q z,q<i→xs[q]? =some z→z<t)∧∀ q z,j≤q→xs[q]? =some z→¬z<t) ?_ (h:=⟨0,n,rfl,rfl,rfl,rfl,Nat.zero_le _,Nat.le_refl _,fun q z h=>absurd h (by omega),fun q z h1 h2=>by have:=(List.getElem?_eq_some_iff.1 h2).1;rw [hS.len] at this;omega⟩)
 rintro mz E I' loc' ⟨i,j,rfl,rfl,rfl,rfl,hij,hjn,hlo,hhi⟩
 refine Ql (zR (zM ?_))
 refine zM ?_
 refine zC (zN ?_)
 refine zI ?_ ?_<;>intro hc15
 ·
  have hlt:i<j:=by have h:=hc15;simp at h;omega
  obtain ⟨y,hy⟩:=hS.at (k:=(i+j) / 2) (by omega)
  refine Qo (Qa (Qm (zR (zM ?_))))
  refine zM ?_
  refine zB ?_
  refine zV (Kc rfl KL) ?_
  refine zV (zhv rfl rfl (by decide) (rfl:min _ _=1)) ?_
  refine zV (Kc rfl zgT) ?_
  refine zA (Qb ?_)
  rw [zq7 i j (by omega)]
  refine Qa (zR (zM ?_))
  refine zM ?_
  refine zV (QE rfl rfl Qy (by assumption) (fun hg=>by omega)) ?_
  refine zV (Qd rfl Qt (fun hg=>by exact zyo (k:=(i+j) / 2) hS hy rfl)) ?_
  refine zM ?_
  refine qc (vs:=[_,_]) rfl zoN (zvE I _ _) ?_
  refine zN ?_
  refine zI ?_ ?_<;>intro hc27
  ·
   refine Qg (zM ?_)
   refine zB ?_
   refine zA (Qb (Qh ?_))
   exact zm (h:=⟨j-((i+j) / 2+1),by omega,(i+j) / 2+1,j,rfl,rfl,rfl,rfl,by omega,hjn,zxe (key:=fun x:Int=>x) hs hy (by simpa using hc27),hhi⟩)
  refine Qg (zM ?_)
  refine zA (Qb (Qh ?_))
  exact zm (h:=⟨(i+j) / 2-i,by omega,i,(i+j) / 2,rfl,rfl,rfl,rfl,by omega,by omega,hlo,zwu (key:=fun x:Int=>x) hs hy (by simpa using hc27)⟩)
 have hge:j≤i:=by have h:=hc15;simp at h;omega
 have hje:j=i:=by omega
 subst hje
 refine QH (Qe (Qe (Qk (Qa (zR (zM ?_))))))
 refine zM ?_
 refine zM ?_
 refine zC ?_
 refine zM ?_
 refine QG 4 rfl rfl rfl ?_
 refine zK (Qi rfl) ?_
 refine zK (Qi rfl) ?_
 refine zK (QE rfl rfl Qy (by assumption) (fun hg=>by (simp [ZX] at hg;omega))) ?_
 refine zK (Qd rfl Qt (fun hg=>by exact Sl.getD0 (k:=j) (d:=0) hS (by simp [ZX] at hg;omega) rfl)) ?_
 refine zK (Qi rfl) ?_
 refine zK (QJ rfl rfl rfl) ?_
 refine zK (Qi rfl) ?_
 refine Q0 11 rfl rfl rfl ?_
 refine zJ (Qi rfl) ?_
 refine zJ (Qi rfl) ?_
 refine zJ (QE rfl rfl Qy (by assumption) (fun hg=>by (simp [ZX] at hg;omega))) ?_
 refine zJ (Qd rfl Qt (fun hg=>by exact Sl.getD0 (k:=j) (d:=0) hS (by simp [ZX] at hg;omega) rfl)) ?_
 refine qf (vs:=[_]) rfl zg3 (fun hg=>zmM I _) ?_
 refine zJ (Qi rfl) ?_
 refine QG 17 rfl rfl rfl ?_
 refine zK (Qi rfl) ?_
 refine qg (vs:=[_]) rfl zg3 (fun hg=>zmM I _) ?_
 refine zke rfl rfl rfl (.some rfl rfl rfl rfl gbf) rfl rfl ?_
 refine znk rfl rfl rfl (.some rfl rfl rfl rfl gbt) rfl rfl ?_
 refine QO rfl rfl rfl rfl rfl ?_
 refine zA ?_
 refine zA (zN (Qs ?_))
 exact Zo rfl rfl rfl (fun w hw=>⟨by rw [←zlN (key:=fun x:Int=>x) (d:=0) hS.len hlo hhi hs,zsK (key:=fun x:Int=>x) (by rw [hS.len];omega) hlo hhi];simp,hw.drop⟩)
theorem ztX {I:Qu}{av:Option Addr}{n c:Nat}{xs:List Int}(hS:Sl I 1 QP av n c xs)(hn:n≤100000):Zx Tryz.prog 149 [.slice av n c] I (.bool (zrs xs)):=by
 intro g H w hw
 refine qe Tryz.func149 Tryz.ntmps149 hw ?_
 refine zR (zA (zN (Ql (zR ?_))))
 refine zA (zN (Qm ?_))
 refine zU [(0,_)] (fun T L0 mz E I' loc'=>∃ (k:Nat),mz=(max n 1)-k∧E=(3,.int .i64 k)::T∧I=I'∧L0=loc'∧k≤(max n 1)∧1≤k∧(List.range k).all (zr5 xs)=true) ?_ (h:=⟨1,rfl,rfl,rfl,rfl,by omega,Nat.le_refl _,zjS xs⟩)
 rintro mz E I' loc' ⟨k,rfl,rfl,rfl,rfl,hk,h1,hall⟩
 refine Ql (zR (zM ?_))
 refine zM ?_
 refine zQ Qy ?_
 refine zC (zN ?_)
 refine zI ?_ ?_<;>intro hc7
 ·
  have hlt_k:k<n:=by have h:=hc7;simp at h;omega
  obtain ⟨x,hx⟩:=hS.at hlt_k
  refine Qo (Qa (Ql (Qm (Ql ?_))))
  refine Va mixed (by kernel_rfl) ?_
  refine zq (Qi rfl) ?_
  refine zq (Qi rfl) ?_
  refine zq (QE rfl rfl Qy (by assumption) (fun hg=>by omega)) ?_
  refine zq (Qd rfl Qt (fun hg=>by exact zyo (k:=k) hS hx rfl)) ?_
  refine zq (Qi rfl) ?_
  refine zq (Qi rfl) ?_
  refine zq (ZS rfl rfl rfl (fun _=>by omega)) ?_
  refine zq (QE rfl rfl Qy (by assumption) (fun hg=>by omega)) ?_
  refine zq (Qd rfl Qt (fun hg=>by exact Sl.getD0 (k:=((k:Int)-1).toNat) (d:=0) hS (by omega) rfl)) ?_
  refine zq (QJ rfl rfl rfl) ?_
  refine Vc ?_
  refine Qa ?_
  refine zI ?_ ?_<;>intro hc19
  ·
   refine zR (zA (zN (Qs (Qn (Qc (Qc (Qn ?_)))))))
   refine Qc ?_
   first
   | exact zr rfl rfl (by rw [zkf,JH (k:=k) (by rw [hS.len];exact hlt_k) (by rw [zh0 hx h1,hc19];rfl)])
  refine Qo (Qh (Qa (Qg (zM ?_))))
  refine zB ?_
  refine zA (Qb ?_)
  exact zm (h:=⟨(max n 1)-(k+1),by omega,k+1,rfl,rfl,rfl,rfl,by omega,by omega,V6 hall (by rw [zh0 hx h1,hc19];rfl)⟩)
 have hge_k:n≤k:=by have h:=hc7;simp at h;omega
 refine QH (Qe (Qe (Qk (Qa (zR (zA (zN ?_)))))))
 refine Qs ?_
 exact zr rfl rfl (by rw [zkf,hS.len,zi4 hall (show n≤k from hge_k)])
theorem zma {I:Qu}{av:Option Addr}{n c:Nat}{xs:List Sg}(hS:Sl I 14 YZ av n c xs)(hn:n≤400000):Yc Tryz.prog 138 [.slice av n c] I [] (fun v I' L=>I'=I∧OwnS 54 14 v n (xs.flatMap YZ) L):=by
 intro g H w hw
 refine qe Tryz.func138 Tryz.ntmps138 hw ?_
 refine zR (zA (zN (Ql (zR ?_))))
 refine zM ?_
 refine zV (W5 rfl rfl YW) ?_
 refine zN ?_
 refine zI ?_ ?_<;>intro hc4
 ·
  have hn0:n=0:=Decidable.byContradiction fun h=>by have:=hS.base h;rw [this] at hc4;cases hc4
  have hl:=hS.len
  subst hn0
  have hx0:=List.eq_nil_of_length_eq_zero hl
  subst hx0
  refine zR (zA (zN (Qs (Qc ?_))))
  exact Zt rfl rfl (fun w hw=>⟨_,I,_,rfl,zyv _,hw,rfl,OwnS.nil⟩)
 refine Qo (Qa (zR ?_))
 refine Qq (ps:=[]) (m:=[]) K8 rfl (.nil) rfl (by simp) (by decide) (by decide) rfl rfl (fun b_5=>?_)
 refine zM ?_
 refine QW (v:=_) (ys:=xs.flatMap YZ) (L:=[(b_5,_)]) rfl rfl K8 OwnS.new (by repeat (first | exact .cons .here .nil | exact QD | exact Qw | apply QC | apply QA)) (hS.src Z5) (zmF _) (by omega) rfl rfl ?_
 intro v1 L1 hO1 _;rw [List.nil_append,Nat.zero_add] at hO1
 refine zA (zN (Qs ?_))
 exact Zt rfl rfl (fun w hw=>⟨_,I,_,rfl,zyv _,hw.subL Zi,rfl,hO1⟩)
theorem zjA {I:Qu}{av:Option Addr}{n c:Nat}{xs:List Int}(hS:Sl I 1 QP av n c xs)(hn:n≤400000){bv:Option Addr}{n2 c2:Nat}{ys:List Int}(hT:Sl I 1 QP bv n2 c2 ys)(hn2:n2≤100000):Yc Tryz.prog 50 [.slice av n c,.slice bv n2 c2] I [] (zbG 1 QP (Lib.compact (Yu (xs++ys)))):=by
 intro g H w hw
 refine qe Tryz.func50 Tryz.ntmps50 hw ?_
 have hIc:=zyv I
 refine zR (zA ?_)
 refine zN (zR ?_)
 refine zM ?_
 refine Qx (cap:=[]) (vs:=[_]) rfl rfl zhj .nil (zbW hS hn) rfl rfl ?_
 rintro vv1 I1 L1 hI1 ⟨rfl,hO⟩
 have hT:=hT.mono hI1;have hIc:=hIc.trans hI1
 refine zM ?_
 refine QW (v:=_) (ys:=ys.flatMap QP) (L:=_) rfl rfl Zf hO Qw (hT.src Qv) (JG _) (by omega) rfl rfl ?_
 intro v2 L2 hO2 _;rw [←List.flatMap_append,zfL] at hO2
 refine zA ?_
 refine zN (zR ?_)
 refine zM ?_
 refine Qx (cap:=[]) (vs:=[_]) rfl rfl ziA Qw (zsx 3 (xs++ys) hO2 (by omega) _) rfl rfl ?_
 rintro vv2 I2 L2 hI2 ⟨rfl,rfl,hO3⟩
 have hIc:=hIc.trans hI2
 refine zN (zR ?_)
 refine zM ?_
 refine Qx (cap:=[]) (vs:=[_]) rfl rfl znG Qw (zjn 3 _ hO3 (by omega) _) rfl rfl ?_
 rintro vv3 I3 L3 hI3 ⟨rfl,hO4⟩
 have hIc:=hIc.trans hI3
 refine zA (zN (Qs ?_))
 rw [←zfL] at hO4
 exact Zt rfl rfl (fun w hw=>by obtain ⟨I9,h91,h92,h93⟩:=OwnS.res hO4 Qv (by decide) (hw.subL (by exact Zi));exact ⟨_,I9,[],rfl,hIc.trans h91,h92,h93⟩)
end
section
open Go Go.Kn Go.Proofs
def zca (b:Nat):Value:=.map (some b)
structure XH (s:List (Int×Bool))(A:Int→Bool):Prop where
 nodup:(s.map (·.1)).Nodup
 all:∀ q∈s,q.2=true
 mem:∀ x,za4 s x=A x
theorem XH.nil:XH [] (fun _=>false):=⟨.nil,(fun q hq=>by cases hq),fun _=>rfl⟩
theorem XH.put {s:List (Int×Bool)}{A:Int→Bool}(h:XH s A)(a:Int):XH (Yv s a true) (fun x=>decide (a=x)||A x) where
 nodup:=Wn a true h.nodup
 all:=by
  have key:∀ (s:List (Int×Bool)),(∀ q∈s,q.2=true)→∀ q∈Yv s a true,q.2=true:=by
   intro s
   induction s with
   | nil=>intro _ q hq;simp [Yv] at hq;rw [hq]
   | cons p s ih=>
    intro h q hq
    unfold Yv at hq
    split at hq
    ·
     rcases List.mem_cons.1 hq with rfl | hq
     ·
      rfl
     ·
      exact h q (List.mem_cons_of_mem _ hq)
    ·
     rcases List.mem_cons.1 hq with rfl | hq
     ·
      exact h _ (List.mem_cons_self ..)
     ·
      exact ih (fun q hq=>h q (List.mem_cons_of_mem _ hq)) q hq
  exact key s h.all
 mem:=fun x=>by rw [KS,h.mem]
theorem XH.congr {s:List (Int×Bool)}{A B:Int→Bool}(h:XH s A)(e:∀ x,A x=B x):XH s B:=⟨h.nodup,h.all,fun x=>by rw [h.mem,e]⟩
theorem XH.key {s:List (Int×Bool)}{A:Int→Bool}(h:XH s A){x:Int}:A x=true↔x∈s.map (·.1):=by
 rw [←h.mem]
 unfold za4
 constructor
 ·
  intro h1
  cases hg:ZC s x with
  | none=>rw [hg] at h1;cases h1
  | some b=>exact List.mem_map.2 ⟨_,KZ hg,rfl⟩
 ·
  intro h1
  obtain ⟨q,hq,rfl⟩:=List.mem_map.1 h1
  rw [zbq h.nodup hq,h.all q hq];rfl
def OnS (I:Qu)(ref:Nat)(A:Int→Bool):Prop:=∃ s:List (Int×Bool),I ref=some (ZN (Value.int .i64) Value.bool s)∧XH s A
theorem OnS.mono {I I':Qu}{ref:Nat}{A:Int→Bool}(h:OnS I ref A)(hI:HLe I I'):OnS I' ref A:=by
 obtain ⟨s,h1,h2⟩:=h
 exact ⟨s,hI _ _ h1,h2⟩
def OnL (I:Qu)(m:List (Int×Nat))(ps:List Pt):Prop:=m.map (·.1)=ps.map (·.id)∧∀ q∈m,OnS I q.2 (onF ps q.1)
theorem OnL.mono {I I':Qu}{m:List (Int×Nat)}{ps:List Pt}(h:OnL I m ps)(hI:HLe I I'):OnL I' m ps:=⟨h.1,fun q hq=>(h.2 q hq).mono hI⟩
theorem OnL.nil {I:Qu}{ps:List Pt}:OnL I [] (ps.take 0):=⟨by simp,fun q hq=>by cases hq⟩
def OnM (I:Qu)(r:Nat)(ps:List Pt):Prop:=∃ m:List (Int×Nat),I r=some (ZN (Value.int .i64) zca m)∧OnL I m ps
theorem OnM.mono {I I':Qu}{r:Nat}{ps:List Pt}(h:OnM I r ps)(hI:HLe I I'):OnM I' r ps:=by
 obtain ⟨m,h1,h2⟩:=h
 exact ⟨m,hI _ _ h1,h2.mono hI⟩
theorem OnL.get {I:Qu}{m:List (Int×Nat)}{ps:List Pt}(h:OnL I m ps){a:Int}(ha:∃ q∈ps,q.id=a):∃ ref,ZC m a=some ref∧OnS I ref (onF ps a):=by
 cases hg:ZC m a with
 | none=>
  have:=UU.1 hg
  rw [h.1] at this
  obtain ⟨q,hq,rfl⟩:=ha
  exact absurd (List.mem_map.2 ⟨q,hq,rfl⟩) this
 | some ref=>exact ⟨ref,rfl,h.2 _ (KZ hg)⟩
theorem Lst.before {ps:List Pt}(h:Lst ps){k:Nat}{p:Pt}(hk:ps[k]? =some p){n:Int}(hn:n∈p.needs):∃ q∈ps.take k,q.id=n:=by
 obtain ⟨h1,q,hq,rfl⟩:=h.has p (List.mem_of_getElem? hk) n hn
 obtain ⟨j,hj⟩:=List.getElem?_of_mem hq
 obtain ⟨hj1,hj2⟩:=List.getElem?_eq_some_iff.1 hj
 obtain ⟨hk1,hk2⟩:=List.getElem?_eq_some_iff.1 hk
 have hjk:j<k:=by
  rcases Nat.lt_or_ge j k with h3 | h3
  ·
   exact h3
  ·
   exfalso
   by_cases e:k=j
   ·
    subst e;rw [hk] at hj;cases hj;omega
   ·
    have:=List.pairwise_iff_getElem.1 h.inc k j hk1 hj1 (by omega)
    rw [hj2,hk2] at this;omega
 refine ⟨q,?_,rfl⟩
 rw [List.mem_take_iff_getElem]
 exact ⟨j,by omega,hj2⟩
theorem Lst.fresh {ps:List Pt}(h:Lst ps){k:Nat}{p:Pt}(hk:ps[k]? =some p):∀ q∈ps.take k,q.id<p.id:=fun q hq=>by
 obtain ⟨j,hj,rfl⟩:=List.mem_take_iff_getElem.1 hq
 obtain ⟨hk1,hk2⟩:=List.getElem?_eq_some_iff.1 hk
 have:=List.pairwise_iff_getElem.1 h.inc j k (by omega) hk1 (by omega)
 rw [hk2] at this;exact this
theorem OnL.step {I:Qu}{m:List (Int×Nat)}{ps:List Pt}{k ref:Nat}{p:Pt}{s:List (Int×Bool)}(hL:Lst ps)(hk:ps[k]? =some p)(hm:OnL I m (ps.take k))(hb:I ref=some (ZN (Value.int .i64) Value.bool s))
  (hs:XH s (fun x=>p.needs.any fun n=>n==x||onF (ps.take k) n x)):OnL I (Yv m p.id ref) (ps.take (k+1)):=by
 have hfr:=hL.fresh hk
 have hnew:p.id∉m.map (·.1):=by
  rw [hm.1]
  intro h
  obtain ⟨q,hq,e⟩:=List.mem_map.1 h
  have:=hfr q hq;omega
 have hmi:Yv m p.id ref=m++[(p.id,ref)]:=by
  refine Xa m p.id ref 0 ?_
  have:=UU.2 hnew
  rw [←JJ m p.id 0] at this
  simpa using this
 rw [Z2 hk]
 refine ⟨by rw [KF,if_neg hnew,hm.1];simp,fun q hq=>?_⟩
 rw [hmi] at hq
 rcases List.mem_append.1 hq with hq | hq
 ·
  obtain ⟨s',h1,h2⟩:=hm.2 q hq
  refine ⟨s',h1,h2.congr fun x=>?_⟩
  have hne:q.1≠p.id:=fun e=>hnew (by rw [←e];exact List.mem_map.2 ⟨q,hq,rfl⟩)
  rw [zez (fun z hz=>by simp at hz;subst hz;exact fun e=>hne e.symm)]
 ·
  simp at hq;subst hq
  refine ⟨s,hb,hs.congr fun x=>?_⟩
  exact (zcD (fun z hz=>by cases hz)).symm
def zmc (sn:List (Int×Bool))(seen:List Nat)(x:Int):Bool:=seen.any fun i=>(sn[i]?.map (·.1))==some x
theorem zbJ (sn:List (Int×Bool))(x:Int):zmc sn [] x=false:=rfl
theorem zaa {sn:List (Int×Bool)}{seen:List Nat}{i:Nat}{p:Int×Bool}(hp:sn[i]? =some p)(x:Int):zmc sn (seen++[i]) x=(decide (p.1=x)||zmc sn seen x):=by
 unfold zmc
 rw [List.any_append,Bool.eq_iff_iff]
 simp [hp,or_comm]
theorem zbM {sn:List (Int×Bool)}{A:Int→Bool}(h:XH sn A){seen:List Nat}(hall:∀ i p,sn[i]? =some p→i∈seen)(x:Int):zmc sn seen x=A x:=by
 rw [Bool.eq_iff_iff,h.key]
 unfold zmc
 rw [List.any_eq_true]
 constructor
 ·
  rintro ⟨i,_,hi⟩
  cases hx:sn[i]? with
  | none=>rw [hx] at hi;simp at hi
  | some p=>rw [hx] at hi;simp at hi;exact List.mem_map.2 ⟨p,List.mem_of_getElem? hx,hi⟩
 ·
  intro hx
  obtain ⟨p,hp,rfl⟩:=List.mem_map.1 hx
  obtain ⟨i,hi⟩:=List.getElem?_of_mem hp
  exact ⟨i,hall i p hi,by rw [hi];simp⟩
end
section
open Go Go.Kn Go.Proofs
theorem zbg {I:Qu}{av:Option Addr}{n c:Nat}{ps:List Pt}(hP:SlP I av n c ps)(hn:n≤100000)(hL:Lst ps)(hnd:∀ p∈ps,p.n≤100000):Yc Tryz.prog 89 [.slice av n c] I [] (fun v I' L=>L=[]∧∃ r,v= .map (some r)∧OnM I' r ps):=by
 intro g H w hw
 refine qe Tryz.func89 Tryz.ntmps89 hw ?_
 have hIc:=zyv I
 refine zR (zA ?_)
 refine zN (zR ?_)
 refine ZE rfl rfl (fun r_10=>?_)
 refine zA (zN (Ql (zR ?_)))
 refine zM ?_
 refine zQ Zy ?_
 refine zM (zN (Qm ?_))
 refine zU [(3,_),(11,_),(12,_)] (fun T L0 mz E I' loc'=>∃ (k:Nat) (m:List (Int×Nat)),mz=n-k∧E=(13,.int .i64 k)::T∧HLe I I'∧[(r_10,ZN (Value.int .i64) zca m)]=loc'∧k≤n∧OnL I' m (ps.take k)) ?_ (h:=⟨0,[],rfl,rfl,zyv _,rfl,Nat.zero_le _,OnL.nil⟩)
 rintro mz E J1 loc' ⟨k,m,rfl,rfl,hJ,rfl,hk,hm⟩
 have hP:=hP.mono hJ;have hIc:=hIc.trans hJ
 have hB0:=hJ
 refine zR (zC (zN (Ql ?_)))
 refine zI ?_ ?_<;>intro hc14
 ·
  have hlt_k:k<n:=by have h:=hc14;simp at h;omega
  have hP1:=hP.1
  obtain ⟨p,hp,hN⟩:=hP.at hlt_k
  have hpm:=List.mem_of_getElem? hp
  have hN:Sl J1 1 QP p.a p.n p.c p.needs:=hN
  have hpn:=hnd p hpm
  refine Qo (Qa (Ql (Qm (zR ?_))))
  refine zV (QE rfl rfl Zy (by assumption) (fun hg=>by omega)) ?_
  refine zV (Qp rfl Yr (fun hg=>by exact zyw hP.1 hp) rfl) ?_
  refine Qr K5 rfl rfl (fun b_5=>?_)
  refine zh VM ?_
  refine zN (zR ?_)
  refine ZE rfl rfl (fun r_17=>?_)
  refine zA (zN (Ql (zR ?_)))
  refine zF KV ?_
  refine zL QK ?_
  refine zQ Qy ?_
  refine zM (zN (Qm ?_))
  refine zU [(3,_),(5,_),(6,_),(11,_),(12,_),(13,_),(19,_),(20,_)] (fun T L0 mz E I' loc'=>∃ (j:Nat) (s:List (Int×Bool)),mz=p.n-j∧E=(21,.int .i64 j)::T∧J1=I'∧[(r_17,ZN (Value.int .i64) Value.bool s),(b_5,.cells (Yw p).toArray 57 (0,0)),(r_10,ZN (Value.int .i64) zca m)]=loc'∧j≤p.n∧XH s (fun x=>(p.needs.take j).any fun n=>n==x||onF (ps.take k) n x)) ?_ (h:=⟨0,[],rfl,rfl,rfl,rfl,Nat.zero_le _,XH.nil⟩)
  rintro mz E I' loc' ⟨j,s,rfl,rfl,rfl,rfl,hj,hs⟩
  refine zR (zC (zN (Ql ?_)))
  refine zI ?_ ?_<;>intro hc22
  ·
   have hlt_j:j<p.n:=by have h:=hc22;simp at h;omega
   obtain ⟨y,hy⟩:=hN.at hlt_j
   obtain ⟨ref,hget,sn,hsn,hsq⟩:=hm.get (hL.before hp (List.mem_of_getElem? hy))
   refine Qo (Qa (Ql (Qm (zR ?_))))
   refine zV (QE rfl rfl Qy (by assumption) (fun hg=>by omega)) ?_
   refine zV (Qd rfl Qt (fun hg=>by exact zyo hN hy rfl)) ?_
   refine zA ?_
   refine zN (zR ?_)
   refine zM ?_
   refine zM ?_
   refine Q4 (m:=s) (ek:=Value.int .i64) (ev:=Value.bool) (a:=y) true Vn ZD rfl rfl rfl rfl (by repeat (first | exact Upd.here | apply Upd.there | apply QI)) ?_
   refine zN (zR ?_)
   refine zM ?_
   refine zM ?_
   refine zV (YD (m:=m) (ek:=Value.int .i64) (ev:=zca) (a:=y) hget KE ZD rfl rfl (fun _=>.inr (by simp))) ?_
   refine Js (ek:=Value.int .i64) (ev:=Value.bool) (m:=sn) rfl Vn rfl rfl (.inl hsn) (fun b_30=>?_)
   refine zN (Qm ?_)
   refine zU [(3,_),(5,_),(6,_),(11,_),(12,_),(13,_),(19,_),(20,_),(21,_),(30,_)] (fun T L0 mz E I' loc'=>∃ (seen:List Nat) (s:List (Int×Bool)),mz=sn.length-seen.length∧E=T∧J1=I'∧[(b_30,YK ref sn.length seen),(r_17,ZN (Value.int .i64) Value.bool s),(b_5,.cells (Yw p).toArray 57 (0,0)),(r_10,ZN (Value.int .i64) zca m)]=loc'∧XH s (fun x=>zmc sn seen x||(decide (y=x)||(p.needs.take j).any fun n=>n==x||onF (ps.take k) n x))∧seen.Nodup∧∀ i∈seen,i<sn.length) ?_ (h:=⟨[],_,rfl,rfl,rfl,rfl,(hs.put y).congr (fun x=>by rw [zbJ,Bool.false_or]),.nil,fun i h=>by cases h⟩)
   rintro mz E I' loc' ⟨seen,s,rfl,rfl,rfl,rfl,hs,hnd2,hlt⟩
   have hsl:=Jg hnd2 hlt
   refine zR ?_
   refine Jt (ek:=Value.int .i64) (ev:=Value.bool) (m:=sn) (fun s'=>[(b_30,YK ref sn.length s'),(r_17,ZN (Value.int .i64) Value.bool s),(b_5,.cells (Yw p).toArray 57 (0,0)),(r_10,ZN (Value.int .i64) zca m)]) rfl (fun s'=>.here) rfl rfl rfl rfl rfl (.inl hsn) (by simp) ?_
   intro t tv s' hno hyes
   refine zN (Ql ?_)
   refine zI ?_ ?_<;>intro hc32
   ·
    obtain ⟨i,q,hq,hns,rfl⟩:=hyes hc32
    refine Qo (Qa (Qm (zR ?_)))
    refine zV (Jq (ek:=Value.int .i64) (ev:=Value.bool) (m:=sn) (p:=q) (seen:=seen) (i:=i) rfl (.inl hsn) (.inr (by simp)) hq) ?_
    refine zE ?_
    refine zA (zN (Qg ?_))
    refine zM ?_
    refine zM ?_
    refine Q4 (m:=s) (ek:=Value.int .i64) (ev:=Value.bool) (a:=q.1) true Vn ZD rfl rfl rfl rfl (by repeat (first | exact Upd.here | apply Upd.there | apply QI)) ?_
    refine Qb (Qh ?_)
    have hnd3:(seen++[i]).Nodup:=List.nodup_append.2 ⟨hnd2,by simp,fun a ha b hb e=>hns (by simp at hb;subst hb;subst e;exact ha)⟩
    have hlt3:∀ j∈seen++[i],j<sn.length:=fun j hj=>(List.mem_append.1 hj).elim (hlt j) (fun h=>by simp at h;subst h;exact (List.getElem?_eq_some_iff.1 hq).1)
    have hsl2:=Jg hnd3 hlt3
    rw [List.length_append,List.length_singleton] at hsl2
    exact zm (h:=⟨sn.length-(seen++[i]).length,by rw [List.length_append,List.length_singleton];omega,seen++[i],_,rfl,rfl,rfl,rfl,(hs.put q.1).congr (fun x=>by rw [zaa hq,Bool.or_assoc]),hnd3,hlt3⟩)
   obtain ⟨rfl,hall⟩:=hno hc32
   refine QH (Qe (Qe (Qk (Qh (Qa (Qg (zB ?_)))))))
   refine zM (Qb ?_)
   exact zm (h:=⟨p.n-(j+1),by omega,j+1,_,rfl,rfl,rfl,rfl,by omega,hs.congr (fun x=>by rw [JS hy,zbM hsq hall x];rw [Bool.eq_iff_iff];simp;grind)⟩)
  have hge_j:p.n≤j:=by have h:=hc22;simp at h;omega
  refine QH (Qe (Qe (Qk (Qa ?_))))
  refine Ze .here (fun I4 hI4 hb4=>?_)
  have hm:=hm.mono hI4;have hB0:=hB0.trans hI4
  have hbx:=hb4
  refine Qg (zM ?_)
  refine zF Zu ?_
  refine zL Qt ?_
  refine zM ?_
  refine Q4 (m:=m) (ek:=Value.int .i64) (ev:=zca) (a:=p.id) r_17 KE ZD rfl rfl rfl rfl (by repeat (first | exact Upd.here | apply Upd.there | apply QI)) ?_
  refine Qb (Qh (Qa (Qg (zB ?_))))
  refine zM (Qb ?_)
  exact zm (h:=⟨n-(k+1),by omega,k+1,_,rfl,rfl,hB0,rfl,by omega,OnL.step hL hp hm hbx (by rw [ZF hN.len hge_j] at hs;exact hs)⟩)
 have hge_k:n≤k:=by have h:=hc14;simp at h;omega
 rw [ZF hP.len hge_k] at hm
 refine QH (Qe (Qe (Qk (Qa (zR (zM ?_))))))
 refine zA (zN (Qs ?_))
 exact Zt rfl rfl (fun w hw=>by obtain ⟨I9,h91,h92,h93⟩:=hw.freezeAll;exact ⟨_,I9,[],rfl,hIc.trans h91,h92,rfl,r_10,rfl,m,h93 _ _ (by simp),hm.mono h91⟩)
end
section
open Go Go.Kn Go.Proofs
theorem zpj (x:Sg):(Wz [x]==0)=frm x:=by
 unfold Wz skB skP
 cases h:frm x<;>simp [h]
theorem zfa (a b c d x y:Bool):(((((a&&b)&&c)&&d)&&x)&&y)=(((a&&b)&&(c&&d))&&(x&&y)):=by simp only [Bool.and_assoc]
theorem zmP (a b c d x y z:Bool):((((((a&&b)&&c)&&d)&&x)&&y)&&z)=(((a&&b)&&(c&&d))&&(x&&(y&&z))):=by simp only [Bool.and_assoc]
theorem zm5 (I:Qu)(x:Sg):Zx Tryz.prog 147 [JT x] I (.bool (frm x)):=by
 intro g H w hw
 refine qe Tryz.func147 Tryz.ntmps147 hw ?_
 have hIc:=zyv I
 refine zR ?_
 refine Q5 rfl rfl rfl (fun b_1=>?_)
 refine zA ?_
 refine zN (zR ?_)
 refine zV (Qp rfl ZK (fun hg=>by exact Cells.g0) rfl) ?_
 refine Qq (ps:=[(0,_)]) (m:=[YZ x]) K8 rfl (.cons rfl (.nil)) rfl (by simp [Z5]) (by decide) (by decide) rfl rfl (fun b_4=>?_)
 refine ZR .here (fun I1 hI1 hb1=>?_)
 have hIc:=hIc.trans hI1
 have hS:=Sl.lit [x] rfl Z5 (show _=some (Obj.cells (([x]:List Sg).flatMap YZ).toArray 54 (0,0)) from hb1)
 refine qc (vs:=[_]) rfl zdr (zeB hS (by decide)) ?_
 refine zC ?_
 refine zA (zN (Qs ?_))
 exact zp hIc rfl rfl (by rw [zpj])
theorem ztk {I:Qu}(p:Pt)(hN:Nd I p):Zx Tryz.prog 86 [Wy p] I (.int .i64 (JO p)):=by
 intro g H w hw
 refine qe Tryz.func86 Tryz.ntmps86 hw ?_
 have hN:Sl I 1 QP p.a p.n p.c p.needs:=hN
 refine zR ?_
 refine Q5 rfl rfl rfl (fun b_1=>?_)
 refine zA (zN (Ql (zR ?_)))
 refine zF KV ?_
 refine zL QK ?_
 refine zQ Qy ?_
 refine zC (zN ?_)
 refine zI ?_ ?_<;>intro hc11
 ·
  have hlen:p.needs.length>32:=by rw [hN.len];simp at hc11;omega
  refine zR (zA (zN (Qs (Qc ?_))))
  exact zr rfl rfl (by rw [zt2 hlen])
 have hlen:¬p.needs.length>32:=by rw [hN.len];simp at hc11;omega
 have hpn:p.n≤100000:=by have:=hN.len;omega
 refine Qo (Qa (zR (zA (zN (Ql (zR ?_))))))
 refine zF KV ?_
 refine zL QK ?_
 refine zQ Qy ?_
 refine zM (zN (Qm ?_))
 refine zU [(1,_),(13,_),(14,_)] (fun T L0 mz E I' loc'=>∃ (k:Nat) (l:Int),mz=p.n-k∧E=(3,.int .i64 l)::(15,.int .i64 k)::T∧I=I'∧L0=loc'∧k≤p.n∧(List.range k).all (ndP p.id p.needs)=true∧zgu p.needs k l) ?_ (h:=⟨0,0,rfl,rfl,rfl,rfl,Nat.zero_le _,rfl,⟨fun _=>rfl,fun y hy h=>absurd rfl h⟩⟩)
 rintro mz E I' loc' ⟨k,l,rfl,rfl,rfl,rfl,hk,hall,hl⟩
 refine zR (zC (zN (Ql ?_)))
 refine zI ?_ ?_<;>intro hc16
 ·
  have hlt_k:k<p.n:=by have h:=hc16;simp at h;omega
  obtain ⟨x,hx⟩:=hN.at hlt_k
  refine Qo (Qa (Ql (Qm (zR ?_))))
  refine zV (QE rfl rfl Qy (by assumption) (fun hg=>by omega)) ?_
  refine zV (Qd rfl Qt (fun hg=>by exact zyo hN hx rfl)) ?_
  refine zA (zN (Ql (zR ?_)))
  refine zM ?_
  refine zM ?_
  refine zC ?_
  refine zM ?_
  refine Q0 3 rfl rfl rfl ?_
  refine zJ (Qi rfl) ?_
  refine zJ (Qf rfl Zu) ?_
  refine zJ (Qd rfl Qt (fun hg=>by exact QV.h0 rfl)) ?_
  refine zJ (QJ rfl rfl rfl) ?_
  refine ZA rfl rfl rfl rfl rfl ?_
  refine zN ?_
  refine zI ?_ ?_<;>intro hc27
  ·
   have hnd:ndB p.id p.needs=false:=by unfold ndB;exact JH (k:=k) (by rw [hN.len];exact hlt_k) (by rw [zu4 hall hl hx,hc27];rfl)
   refine zR (zA (zN (Qs (Qc (Qn (Qc (Qc ?_)))))))
   refine Qn (Qc ?_)
   exact zr rfl rfl (by rw [zuN hlen hnd])
  refine Qo (Qa (Qg (zM ?_)))
  refine zA (Qb (Qh (Qa (Qg ?_))))
  refine zB ?_
  refine zM (Qb ?_)
  exact zm (h:=⟨p.n-(k+1),by omega,k+1,_,rfl,rfl,rfl,rfl,by omega,V6 hall (by rw [zu4 hall hl hx,hc27];rfl),zav hx⟩)
 have hge_k:p.n≤k:=by have h:=hc16;simp at h;omega
 have hnd:ndB p.id p.needs=true:=by unfold ndB;rw [hN.len,show p.n=k by omega];exact hall
 refine QH (Qe (Qe (Qk (Qa (zR ?_)))))
 refine zF Zu ?_
 refine zL Qt ?_
 refine zC ?_
 refine zM ?_
 refine QG 3 rfl rfl rfl ?_
 refine zK (Qf rfl Zu) ?_
 refine zK (Qd rfl Qt (fun hg=>by exact QV.h0 rfl)) ?_
 refine zK (QJ rfl rfl rfl) ?_
 refine QO rfl rfl rfl rfl rfl ?_
 refine zM ?_
 refine QG 8 rfl rfl rfl ?_
 refine zK (Qf rfl Ya) ?_
 refine zK (Qd rfl Qt (fun hg=>by exact QV.h0 rfl)) ?_
 refine zK (QJ rfl rfl rfl) ?_
 refine QO rfl rfl rfl rfl rfl ?_
 refine zM ?_
 refine QG 13 rfl rfl rfl ?_
 refine zK (Qf rfl Ya) ?_
 refine zK (Qd rfl Qt (fun hg=>by exact QV.h0 rfl)) ?_
 refine zK (QJ rfl rfl rfl) ?_
 refine QO rfl rfl rfl rfl rfl ?_
 refine zA (zN (Ql (zR ?_)))
 refine zF KU ?_
 refine zL Qt ?_
 refine zN (Qm (zR (zC ?_)))
 refine zA (zN ?_)
 refine zI ?_ ?_<;>intro hc50
 ·
  have hk:p.kind=1:=by simpa using hc50
  refine Ql (zR ?_)
  refine zF Jp ?_
  refine zL Qt ?_
  refine zC ?_
  refine zM ?_
  refine Q0 3 rfl rfl rfl ?_
  refine zJ (Qf rfl Jp) ?_
  refine zJ (Qd rfl Qt (fun hg=>by exact QV.h0 rfl)) ?_
  refine zJ (QJ rfl rfl rfl) ?_
  refine ZA rfl rfl rfl rfl rfl ?_
  refine zN ?_
  refine zI ?_ ?_<;>intro hc59
  ·
   have hb:(idB p&&Uu p)=false:=zsp hk (by unfold YG;simp at hc59 ⊢;omega)
   refine zR (zA (zN (Qs (Qc (Qn (Qc ?_))))))
   exact zr rfl rfl (by rw [zcL hlen hnd hb])
  have hf:isF p.field:=by have h:=hc59;unfold isF;simp at h;omega
  have hw1:YG p.field 1 9=true:=by have h:=hc59;unfold YG;simp at h ⊢;omega
  refine Qo (Qa (zR ?_))
  refine zV (QR (ps:=[(1,_)]) [_,_] zfQ rfl rfl) ?_
  refine zV (QR (ps:=[(0,_),(1,_)]) [_,_] zfQ rfl rfl) ?_
  refine zV (QR (ps:=[(3,_),(4,_),(10,_),(11,_)]) [_,_,_,_,_,_,_,_,_,_,_,_,_,_] UF rfl rfl) ?_
  refine Qr WW rfl rfl (fun b_7=>?_)
  refine zh VG ?_
  refine zN (Qg (zM ?_))
  refine zM ?_
  refine QG 1 rfl rfl rfl ?_
  refine zK (Qf rfl VX) ?_
  refine zK (Qp rfl ZK (fun hg=>by exact Cells.s1 (vs:=[_,_,_,_,_,_,_,_,_,_,_,_,_,_]) rfl) rfl) ?_
  refine zK (Qf rfl Jp) ?_
  refine zK (Qd rfl Qt (fun hg=>by exact QV.h1 rfl)) ?_
  refine zK (QR (ps:=[]) [_,_,_,_,_,_,_,_,_,_,_,_,_,_] UF rfl rfl) ?_
  refine qg (vs:=[_,_,_]) rfl zjP (fun hg=>ztg I p.nw p.field Vb hf) ?_
  refine zK (QR (ps:=[]) [_,_,_,_,_,_,_,_,_,_,_,_,_,_] UF rfl rfl) ?_
  refine zK (zds rfl rfl X6 rfl) ?_
  refine QO rfl rfl rfl rfl rfl ?_
  refine zM ?_
  refine QG 11 rfl rfl rfl ?_
  refine zK (Qp rfl ZK (fun hg=>by exact Cells.g0) rfl) ?_
  refine zK (Qf rfl Jp) ?_
  refine zK (Qd rfl Qt (fun hg=>by exact QV.h1 rfl)) ?_
  refine zK (Qf rfl VX) ?_
  refine zK (Qp rfl ZK (fun hg=>by exact Cells.s1 (vs:=[_,_,_,_,_,_,_,_,_,_,_,_,_,_]) rfl) rfl) ?_
  refine qg (vs:=[_,_,_]) rfl zjP (fun hg=>ztg I zfp p.field p.nw hf) ?_
  refine qg (vs:=[_]) rfl zj7 (fun hg=>zm5 I _) ?_
  refine QO rfl rfl rfl rfl rfl ?_
  refine zA (Qb (Qh (Qa (Ql (zR ?_)))))
  refine zM ?_
  refine zO (zN ?_)
  refine zI ?_ ?_<;>intro hc119
  ·
   have hb:(idB p&&Uu p)=false:=by (exact (show (idB p&&Uu p)=false from by rw [zuF hk hw1];exact (zfa _ _ _ _ _ _).symm.trans ((Bool.not_eq_true' _).mp hc119)))
   refine zR (zA (zN (Qs (Qc ?_))))
   exact zr rfl rfl (by rw [zcL hlen hnd hb])
  have hb:(idB p&&Uu p)=true:=by (exact (show (idB p&&Uu p)=true from by rw [zuF hk hw1];exact (zfa _ _ _ _ _ _).symm.trans ((Bool.not_eq_false' _).mp hc119)))
  refine Qo (Qa (zR (zA (zN (Qs ?_)))))
  exact zr rfl rfl (by rw [ze2 hlen hnd hb])
 have hk1:p.kind≠1:=by simpa using hc50
 refine zR (zC ?_)
 refine zA (zN ?_)
 refine zI ?_ ?_<;>intro hc83
 ·
  have hk:p.kind=2:=by simpa using hc83
  refine Qg (zM ?_)
  refine zM ?_
  refine QG 1 rfl rfl rfl ?_
  refine zK (Qf rfl Jp) ?_
  refine zK (Qd rfl Qt (fun hg=>by exact QV.h0 rfl)) ?_
  refine zK (QJ rfl rfl rfl) ?_
  refine QO rfl rfl rfl rfl rfl ?_
  refine zM ?_
  refine QG 6 rfl rfl rfl ?_
  refine zK (Qf rfl VX) ?_
  refine zK (Qf rfl ZO) ?_
  refine zK (Qd rfl Qt (fun hg=>by exact QV.h0 rfl)) ?_
  refine zK (Qf rfl Ya) ?_
  refine zK (Qd rfl Qt (fun hg=>by exact QV.h0 rfl)) ?_
  refine zK (QJ rfl rfl rfl) ?_
  refine QO rfl rfl rfl rfl rfl ?_
  refine zM ?_
  refine QG 14 rfl rfl rfl ?_
  refine zK (Qf rfl VX) ?_
  refine zK (Qp rfl ZK (fun hg=>by exact Cells.s0 (vs:=[_,_,_,_,_,_,_,_,_,_,_,_,_,_]) rfl) rfl) ?_
  refine qg (vs:=[_]) rfl zj7 (fun hg=>zm5 I _) ?_
  refine QO rfl rfl rfl rfl rfl ?_
  refine zA (Qb (Qh (Qa (Ql (zR ?_)))))
  refine zM ?_
  refine zO (zN ?_)
  refine zI ?_ ?_<;>intro hc119
  ·
   have hb:(idB p&&Uu p)=false:=by (exact (show (idB p&&Uu p)=false from by rw [ztN hk];exact (zmP _ _ _ _ _ _ _).symm.trans ((Bool.not_eq_true' _).mp hc119)))
   refine zR (zA (zN (Qs (Qc ?_))))
   exact zr rfl rfl (by rw [zcL hlen hnd hb])
  have hb:(idB p&&Uu p)=true:=by (exact (show (idB p&&Uu p)=true from by rw [ztN hk];exact (zmP _ _ _ _ _ _ _).symm.trans ((Bool.not_eq_false' _).mp hc119)))
  refine Qo (Qa (zR (zA (zN (Qs ?_)))))
  exact zr rfl rfl (by rw [ze2 hlen hnd hb])
 have hk2:p.kind≠2:=by simpa using hc83
 refine zR (zC ?_)
 refine zA (zN ?_)
 refine zI ?_ ?_<;>intro hc104
 ·
  have hk:p.kind=3:=by simpa using hc104
  refine Qg (zM ?_)
  refine zM ?_
  refine QG 1 rfl rfl rfl ?_
  refine zK (Qf rfl Jp) ?_
  refine zK (Qd rfl Qt (fun hg=>by exact QV.h0 rfl)) ?_
  refine zK (QJ rfl rfl rfl) ?_
  refine QO rfl rfl rfl rfl rfl ?_
  refine zM ?_
  refine QG 6 rfl rfl rfl ?_
  refine zK (Qf rfl VX) ?_
  refine zK (Qp rfl ZK (fun hg=>by exact Cells.s0 (vs:=[_,_,_,_,_,_,_,_,_,_,_,_,_,_]) rfl) rfl) ?_
  refine zK (QR (ps:=[]) [_,_,_,_,_,_,_,_,_,_,_,_,_,_] UF rfl rfl) ?_
  refine zK (zds rfl rfl X6 rfl) ?_
  refine QO rfl rfl rfl rfl rfl ?_
  refine zA (Qb (Qh (Qa (Ql (zR ?_)))))
  refine zM ?_
  refine zO (zN ?_)
  refine zI ?_ ?_<;>intro hc119
  ·
   have hb:(idB p&&Uu p)=false:=by (exact (show (idB p&&Uu p)=false from by rw [zs1 hk];exact (zfa _ _ _ _ _ _).symm.trans ((Bool.not_eq_true' _).mp hc119)))
   refine zR (zA (zN (Qs (Qc ?_))))
   exact zr rfl rfl (by rw [zcL hlen hnd hb])
  have hb:(idB p&&Uu p)=true:=by (exact (show (idB p&&Uu p)=true from by rw [zs1 hk];exact (zfa _ _ _ _ _ _).symm.trans ((Bool.not_eq_false' _).mp hc119)))
  refine Qo (Qa (zR (zA (zN (Qs ?_)))))
  exact zr rfl rfl (by rw [ze2 hlen hnd hb])
 have hk3:p.kind≠3:=by simpa using hc104
 refine Qg (zA (Qb (Qh (Qa (Ql (zR ?_))))))
 refine zM ?_
 refine zO (zN ?_)
 refine zI ?_ ?_<;>intro hc119
 ·
  have hb:(idB p&&Uu p)=false:=by exact zxP hk1 hk2 hk3
  refine zR (zA (zN (Qs (Qc ?_))))
  exact zr rfl rfl (by rw [zcL hlen hnd hb])
 have hb:(idB p&&Uu p)=true:=by (exfalso;have h:=hc119;simp at h)
 refine Qo (Qa (zR (zA (zN (Qs ?_)))))
 exact zr rfl rfl (by rw [ze2 hlen hnd hb])
theorem zwM {I:Qu}{av:Option Addr}{n c:Nat}{xs:List Int}(hS:Sl I 1 QP av n c xs)(hn:n≤100000){fid:Nat}{cap:List Value}{P:Int→Bool}(hF:Fun Tryz.prog fid)(hf:∀ x∈xs,Zx Tryz.prog fid ([.int .i64 x]++cap) I (.bool (P x))):Zx Tryz.prog 148 [.slice av n c,.func (.func fid) #[] cap.toArray] I (.int .i64 (Ua P xs)):=by
 intro g H w hw
 refine qe Tryz.func148 Tryz.ntmps148 hw ?_
 have hS:=hS
 refine zR (zA (zN (Ql (zR ?_))))
 refine zM ?_
 refine zQ Qy ?_
 refine zM (zN (Qm ?_))
 refine zU [(0,_),(1,_),(7,_)] (fun T L0 mz E I' loc'=>∃ (k:Nat),mz=n-k∧E=(8,.int .i64 k)::T∧I=I'∧L0=loc'∧k≤n∧(xs.take k).any P=false) ?_ (h:=⟨0,rfl,rfl,rfl,rfl,Nat.zero_le _,rfl⟩)
 rintro mz E I' loc' ⟨k,rfl,rfl,rfl,rfl,hk,hno⟩
 refine zR (zC (zN (Ql ?_)))
 refine zI ?_ ?_<;>intro hc9
 ·
  have hlt_k:k<n:=by have h:=hc9;simp at h;omega
  obtain ⟨x,hx⟩:=hS.at hlt_k
  refine Qo (Qa (Ql (Qm (zR (zM ?_)))))
  refine zA ?_
  refine zN (zR ?_)
  refine zM ?_
  refine zM ?_
  refine zM ?_
  refine zV (QE rfl rfl Qy (by assumption) (fun hg=>by omega)) ?_
  refine zV (Qd rfl Qt (fun hg=>by exact zyo hS hx rfl)) ?_
  refine YQ (cap:=cap) (vs:=[_]) rfl rfl hF (hf x (List.mem_of_getElem? hx)) rfl rfl ?_
  refine zN ?_
  refine zI ?_ ?_<;>intro hc16
  ·
   refine zR (zM ?_)
   refine zA (zN (Qs (Qn (Qc (Qc (Qn (Qc ?_)))))))
   exact zr rfl rfl (by rw [Ji hno hx hc16])
  refine Qo (Qh (Qa (Qg (zB ?_))))
  refine zM (Qb ?_)
  exact zm (h:=⟨n-(k+1),by omega,k+1,rfl,rfl,rfl,rfl,by omega,YX hx hno hc16⟩)
 have hge_k:n≤k:=by have h:=hc9;simp at h;omega
 refine QH (Qe (Qe (Qk (Qa (zR (zA (zN ?_)))))))
 refine Qs ?_
 exact zr rfl rfl (by rw [Vw hS.len hge_k hno])
theorem zsW {I:Qu}{av:Option Addr}{n c:Nat}{xs:List Int}(hS:Sl I 1 QP av n c xs)(hn:n≤100000){fid:Nat}{cap:List Value}{P:Int→Bool}(hF:Fun Tryz.prog fid)(hf:∀ x∈xs,Zx Tryz.prog fid ([.int .i64 x]++cap) I (.bool (P x))):Zx Tryz.prog 87 [.slice av n c,.func (.func fid) #[] cap.toArray] I (.bool (xs.any P)):=by
 intro g H w hw
 refine qe Tryz.func87 Tryz.ntmps87 hw ?_
 refine zR (zA ?_)
 refine zN (zR ?_)
 refine zM ?_
 refine zM ?_
 refine qc (vs:=[_,_]) rfl ziZ (zwM hS hn hF hf) ?_
 refine zC ?_
 refine zA (zN (Qs ?_))
 exact zr rfl rfl (by rw [←Ku])
theorem zr9 {I:Qu}{av:Option Addr}{n c:Nat}{ps:List Pt}(hP:SlP I av n c ps)(hn:n≤100000){fid:Nat}{cap:List Value}{P:Pt→Bool}(hF:Fun Tryz.prog fid)(hf:∀ x∈ps,Zx Tryz.prog fid ([Wy x]++cap) I (.bool (P x))):Zx Tryz.prog 169 [.slice av n c,.func (.func fid) #[] cap.toArray] I (.int .i64 (Ua P ps)):=by
 intro g H w hw
 refine qe Tryz.func169 Tryz.ntmps169 hw ?_
 have hS:=hP.1
 refine zR (zA (zN (Ql (zR ?_))))
 refine zM ?_
 refine zQ Zy ?_
 refine zM (zN (Qm ?_))
 refine zU [(0,_),(1,_),(7,_)] (fun T L0 mz E I' loc'=>∃ (k:Nat),mz=n-k∧E=(8,.int .i64 k)::T∧I=I'∧L0=loc'∧k≤n∧(ps.take k).any P=false) ?_ (h:=⟨0,rfl,rfl,rfl,rfl,Nat.zero_le _,rfl⟩)
 rintro mz E I' loc' ⟨k,rfl,rfl,rfl,rfl,hk,hno⟩
 refine zR (zC (zN (Ql ?_)))
 refine zI ?_ ?_<;>intro hc9
 ·
  have hlt_k:k<n:=by have h:=hc9;simp at h;omega
  obtain ⟨x,hx⟩:=hS.at hlt_k
  refine Qo (Qa (Ql (Qm (zR (zM ?_)))))
  refine zA ?_
  refine zN (zR ?_)
  refine zM ?_
  refine zM ?_
  refine zM ?_
  refine zV (QE rfl rfl Zy (by assumption) (fun hg=>by omega)) ?_
  refine zV (Qp rfl Yr (fun hg=>by exact zyw hS hx) rfl) ?_
  refine YQ (cap:=cap) (vs:=[_]) rfl rfl hF (hf x (List.mem_of_getElem? hx)) rfl rfl ?_
  refine zN ?_
  refine zI ?_ ?_<;>intro hc16
  ·
   refine zR (zM ?_)
   refine zA (zN (Qs (Qn (Qc (Qc (Qn (Qc ?_)))))))
   exact zr rfl rfl (by rw [Ji hno hx hc16])
  refine Qo (Qh (Qa (Qg (zB ?_))))
  refine zM (Qb ?_)
  exact zm (h:=⟨n-(k+1),by omega,k+1,rfl,rfl,rfl,rfl,by omega,YX hx hno hc16⟩)
 have hge_k:n≤k:=by have h:=hc9;simp at h;omega
 refine QH (Qe (Qe (Qk (Qa (zR (zA (zN ?_)))))))
 refine Qs ?_
 exact zr rfl rfl (by rw [Vw hS.len hge_k hno])
theorem zsy {I:Qu}{av:Option Addr}{n c:Nat}{ps:List Pt}(hP:SlP I av n c ps)(hn:n≤100000){fid:Nat}{cap:List Value}{P:Pt→Bool}(hF:Fun Tryz.prog fid)(hf:∀ x∈ps,Zx Tryz.prog fid ([Wy x]++cap) I (.bool (P x))):Zx Tryz.prog 116 [.slice av n c,.func (.func fid) #[] cap.toArray] I (.bool (ps.any P)):=by
 intro g H w hw
 refine qe Tryz.func116 Tryz.ntmps116 hw ?_
 refine zR (zA ?_)
 refine zN (zR ?_)
 refine zM ?_
 refine zM ?_
 refine qc (vs:=[_,_]) rfl zdp (zr9 hP hn hF hf) ?_
 refine zC ?_
 refine zA (zN (Qs ?_))
 exact zr rfl rfl (by rw [←Ku])
theorem zw7 {I:Qu}{b r:Nat}{s:List (Int×Bool)}(hb:I b=some (.cells #[.map (some r)] 167 (0,0)))(hr:I r=some (ZN (Value.int .i64) Value.bool s))(x:Int):Zx Tryz.prog 88 [.int .i64 x,.pointer (some ⟨b,0,none⟩)] I (.bool (!za4 s x)):=by
 intro g H w hw
 refine qe Tryz.func88 Tryz.ntmps88 hw ?_
 refine zR (zA ?_)
 refine zN (zR ?_)
 refine zV (Qd rfl zhh (fun hg=>by exact .imm hb rfl)) ?_
 refine zM ?_
 refine zV (ZY Vn ZD rfl rfl (fun _=>.inl hr)) ?_
 refine zO ?_
 refine zA (zN (Qs ?_))
 exact zr rfl rfl (by rfl)
end
section
open Go Go.Kn Go.Proofs
def zpM (ps:List Pt):List Int:=ps.map (·.id)
def lsQ (ps:List Pt)(i:Nat):Bool:= !((decide ((i:Int)>0)&&decide ((ps.getD i WT).id≤(ps.getD ((i:Int)-1).toNat WT).id))||(ps.getD i WT).needs.any (fun n=> !zam (ps.take i) n))
theorem znK {ps:List Pt}{k:Nat}{p:Pt}{l:Int}{s:List (Int×Bool)}(hp:ps[k]? =some p)(h1:1≤p.id)(hl:zgu (zpM ps) k l)(hs:∀ x,za4 s x=zam (ps.take k) x):lsQ ps k= !(decide (p.id≤l)||p.needs.any fun x=> !za4 s x):=by
 unfold lsQ
 rw [Q1 hp]
 simp only [hs]
 congr 2
 cases k with
 | zero=>
  rw [hl.1 rfl,Bool.eq_iff_iff];simp;omega
 | succ k=>
  have hk:=(List.getElem?_eq_some_iff.1 hp).1
  have hy:ps[k]? =some (ps[k]'(by omega)):=List.getElem?_eq_getElem _
  have e:=hl.2 (ps[k]'(by omega)).id (by rw [Nat.add_sub_cancel];simp [zpM,hy]) (by omega)
  rw [show (((k+1:Nat):Int)-1).toNat=k by omega,Q1 hy,←e,Bool.eq_iff_iff];simp
theorem zf6 {ps:List Pt}{k:Nat}{p:Pt}(hp:ps[k]? =some p):zgu (zpM ps) (k+1) p.id:=zav (by simp [zpM,hp])
theorem zmI {ps:List Pt}{k:Nat}{p:Pt}(hp:ps[k]? =some p)(x:Int):zam (ps.take (k+1)) x=(decide (p.id=x)||zam (ps.take k) x):=by
 unfold zam
 rw [Z2 hp,List.any_append,Bool.eq_iff_iff]
 simp [or_comm]
theorem zkL {ps:List Pt}{k:Nat}{n:Int}(h:zam (ps.take k) n=true):zam ps n=true:=by
 obtain ⟨q,hq,e⟩:=VP.1 h
 exact VP.2 ⟨q,List.mem_of_mem_take hq,e⟩
theorem zhL {ps:List Pt}(h0:orF (ps.map JO)=0):(List.range ps.length).all (lsQ ps)=lsB ps:=by
 rw [Bool.eq_iff_iff]
 constructor
 ·
  intro h
  unfold lsB
  rw [List.all_eq_true] at h ⊢
  intro i hi
  have:=h i hi
  unfold lsQ at this
  unfold lsP
  simp only [Bool.not_eq_true',Bool.or_eq_false_iff] at this ⊢
  refine ⟨this.1,?_⟩
  have h2:=this.2
  rw [List.any_eq_false] at h2 ⊢
  intro n hn hc
  refine h2 n hn ?_
  rw [Bool.not_eq_true'] at hc ⊢
  cases hh:zam (ps.take i) n with
  | false=>rfl
  | true=>rw [zkL hh] at hc;cases hc
 ·
  intro h
  have hL:=ziC h0 h
  unfold lsB at h
  rw [List.all_eq_true] at h ⊢
  intro i hi
  have:=h i hi
  unfold lsP at this
  unfold lsQ
  simp only [Bool.not_eq_true',Bool.or_eq_false_iff] at this ⊢
  refine ⟨this.1,?_⟩
  rw [List.any_eq_false]
  intro n hn hc
  have hk:ps[i]? =some (ps.getD i WT):=Zj rfl (List.mem_range.1 hi)
  obtain ⟨q,hq,e⟩:=hL.before hk hn
  rw [VP.2 ⟨q,hq,e⟩] at hc
  cases hc
/-! ### Inserts and removes of a sign -/
def V2 (k:Int)(ps:List Pt)(s:Int):List Int:=(ps.filter fun q=>q.kind==k&&q.sign==s).map (·.id)
theorem KQ {c:Int}{ps:List Pt}{k:Nat}{p:Pt}(hp:ps[k]? =some p)(s:Int):V2 c (ps.take (k+1)) s=V2 c (ps.take k) s++(if p.kind=c∧p.sign=s then [p.id] else []):=by
 unfold V2
 rw [Z2 hp,List.filter_append,List.map_append]
 congr 1
 by_cases h:p.kind=c∧p.sign=s
 ·
  rw [if_pos h];simp [h.1,h.2]
 ·
  rw [if_neg h]
  have:(p.kind==c&&p.sign==s)=false:=by
   rw [Bool.eq_false_iff];intro hc;simp at hc;exact h hc
  simp [this]
theorem UX {c:Int}{ps:List Pt}{s x:Int}:x∈V2 c ps s↔ ∃ q∈ps,q.kind=c∧q.sign=s∧q.id=x:=by
 unfold V2
 rw [zaR]
 simp [and_assoc]
def zgg (mi:List (Int×Int))(ps:List Pt):Prop:=∀ s,V2 2 ps s=(ZC mi s).toList
theorem zgg.nil {ps:List Pt}:zgg [] (ps.take 0):=fun s=>by simp [V2,ZC]
theorem zgg.put {mi:List (Int×Int)}{ps:List Pt}{k:Nat}{p:Pt}(h:zgg mi (ps.take k))(hp:ps[k]? =some p)(hk:p.kind=2)(hn:ZC mi p.sign=none):zgg (Yv mi p.sign p.id) (ps.take (k+1)):=fun s=>by
 rw [KQ hp,h s,YA]
 by_cases e:p.sign=s
 ·
  subst e;rw [if_pos ⟨hk,rfl⟩,if_pos rfl,hn];rfl
 ·
  rw [if_neg (fun q=>e q.2),if_neg e,List.append_nil]
theorem zgg.skip {mi:List (Int×Int)}{ps:List Pt}{k:Nat}{p:Pt}(h:zgg mi (ps.take k))(hp:ps[k]? =some p)(hk:p.kind≠2):zgg mi (ps.take (k+1)):=fun s=>by
 rw [KQ hp,h s,if_neg (fun q=>hk q.1),List.append_nil]
def WE (mr:List (Int×(Value×Nat×List Value)))(ps:List Pt):Prop:=∀ s,((ZC mr s).getD V8).2.2=(V2 3 ps s).flatMap QP
theorem WE.nil {ps:List Pt}:WE [] (ps.take 0):=fun s=>by simp [V2,ZC,V8]
theorem WE.put {mr:List (Int×(Value×Nat×List Value))}{ps:List Pt}{k n:Nat}{p:Pt}{v:Value}(h:WE mr (ps.take k))(hp:ps[k]? =some p)(hk:p.kind=3):WE (Yv mr p.sign (v,n,((ZC mr p.sign).getD V8).2.2++[p.id].flatMap QP)) (ps.take (k+1)):=fun s=>by
 rw [KQ hp,YA]
 by_cases e:p.sign=s
 ·
  subst e;rw [if_pos rfl,if_pos ⟨hk,rfl⟩,List.flatMap_append,←h];rfl
 ·
  rw [if_neg e,if_neg (fun q=>e q.2),List.append_nil,h s]
theorem WE.skip {mr:List (Int×(Value×Nat×List Value))}{ps:List Pt}{k:Nat}{p:Pt}(h:WE mr (ps.take k))(hp:ps[k]? =some p)(hk:p.kind≠3):WE mr (ps.take (k+1)):=fun s=>by
 rw [KQ hp,h s,if_neg (fun q=>hk q.1),List.append_nil]
theorem XK {c:Int}{ps:List Pt}{s:Int}:(V2 c ps s).length≤ps.length:=by
 unfold V2
 rw [List.length_map]
 exact List.length_filter_le _ _
theorem znX {I:Qu}{e:Nat}{mr:List (Int×(Value×Nat×List Value))}{ps:List Pt}{L:Go.Kn.Loc}(h:WE mr ps)(hA:Vm e 1 (mr.map (·.2)) L)(hI:∀ b o,(b,o)∈L→I b=some o)(s:Int):
  ∃ av c,((ZC mr s).getD V8).1= .slice av (V2 3 ps s).length c∧Sl I 1 QP av (V2 3 ps s).length c (V2 3 ps s):=by
 obtain ⟨A,Lt,B,rfl,hO,_⟩:=hA.at s
 rw [h s] at hO
 obtain ⟨av,c,e1,e2⟩:=hO.sl Qv (by decide) (fun b o hb=>hI b o (by simp [hb]))
 have hn:=e2.len
 rw [←hn] at e1 e2
 exact ⟨av,c,e1,e2⟩
theorem zn9 {e:Nat}{mr:List (Int×(Value×Nat×List Value))}{ps:List Pt}{s:Int}{L:Go.Kn.Loc}(h:WE mr ps)(hO:OwnS e 1 ((ZC mr s).getD V8).1 ((ZC mr s).getD V8).2.1 ((ZC mr s).getD V8).2.2 L):((ZC mr s).getD V8).2.1≤ps.length:=by
 have h1:=hO.1
 rw [h s,zxZ] at h1
 have h2:=XK (c:=3) (ps:=ps) (s:=s)
 omega
theorem zhk {x y:Nat×Obj}{A L B:Go.Kn.Loc}:(x::y::(A++(L++B))).Perm (L++(x::y::(A++B))):=List.perm_append_comm_assoc (x::y::A) L B
def tgP (ps:List Pt)(p:Pt):Bool:= !(((V2 2 ps p.sign).any fun i=>p.id != i&& !onF ps p.id i)||(V2 3 ps p.sign).any (onF ps p.id))
theorem zhi {ps:List Pt}(hL:Lst ps){mi:List (Int×Int)}(hi:zgg mi ps):zhz ps=ps.all (tgP ps):=by
 unfold zhz
 rw [Bool.eq_iff_iff,List.all_eq_true,List.all_eq_true]
 refine forall_congr' fun p=>forall_congr' fun hp=>?_
 unfold tgP
 rw [List.all_eq_true]
 simp only [Bool.not_eq_true',Bool.or_eq_false_iff,List.any_eq_false,UX]
 constructor
 ·
  intro h
  constructor
  ·
   rintro x ⟨q,hq,h2,hs,rfl⟩ hc
   have:=h q hq
   unfold znV at this
   rw [if_neg (by simpa using hs.symm),if_pos h2] at this
   simp at this hc
   rcases this with e | e
   ·
    exact hc.1 e
   ·
    rw [hc.2] at e;cases e.2
  ·
   rintro x ⟨q,hq,h3,hs,rfl⟩ hc
   have:=h q hq
   unfold znV at this
   rw [if_neg (by simpa using hs.symm),if_neg (by omega),if_pos h3] at this
   simp at this
   rcases this with e | e
   ·
    rw [e,hL.on_irr] at hc;cases hc
   ·
    rw [e] at hc;cases hc
 ·
  rintro ⟨h1,h2⟩ q hq
  unfold znV
  by_cases hs:p.sign=q.sign
  ·
   rw [if_neg (by simpa using hs)]
   by_cases e:p.id=q.id
   ·
    simp [e]
   ·
    by_cases k2:q.kind=2
    ·
     rw [if_pos k2]
     have:=h1 q.id ⟨q,hq,k2,hs.symm,rfl⟩
     have hk:p.kind≠2:=fun k=>e (by
      have hm1:=UX.2 ⟨p,hp,k,rfl,rfl⟩
      have hm2:=UX.2 ⟨q,hq,k2,hs.symm,rfl⟩
      rw [hi p.sign] at hm1 hm2
      cases hg:ZC mi p.sign with
      | none=>rw [hg] at hm1;cases hm1
      | some z=>rw [hg] at hm1 hm2;simp at hm1 hm2;rw [hm1,hm2])
     simp [e] at this
     simp [this,hk]
    ·
     rw [if_neg k2]
     by_cases k3:q.kind=3
     ·
      rw [if_pos k3]
      have:=h2 q.id ⟨q,hq,k3,hs.symm,rfl⟩
      simp at this
      simp [this]
     ·
      rw [if_neg k3];simp
  ·
   rw [if_pos hs];simp
theorem zpn {ps:List Pt}(hL:Lst ps){mi:List (Int×Int)}{k:Nat}{p:Pt}{id:Int}(h:zgg mi (ps.take k))(hp:ps[k]? =some p)(hk:p.kind=2)(hn:ZC mi p.sign=some id):zhz ps=false:=by
 have hm:id∈V2 2 (ps.take k) p.sign:=by rw [h,hn];simp
 obtain ⟨q,hq,k2,hs,rfl⟩:=UX.1 hm
 have hlt:=hL.fresh hp q hq
 unfold zhz
 rw [Bool.eq_false_iff]
 intro hc
 rw [List.all_eq_true] at hc
 have h1:=hc p (List.mem_of_getElem? hp)
 rw [List.all_eq_true] at h1
 have h2:=h1 q (List.mem_of_mem_take hq)
 unfold znV at h2
 rw [if_neg (by simpa using hs.symm),if_pos k2] at h2
 simp [hk] at h2
 omega
theorem zoo {ps:List Pt}{p:Pt}{mi:List (Int×Int)}(hi:zgg mi ps):((ZC mi p.sign).isSome&&(p.id != (ZC mi p.sign).getD 0)&& !onF ps p.id ((ZC mi p.sign).getD 0))=((V2 2 ps p.sign).any fun i=>p.id != i&& !onF ps p.id i):=by
 rw [hi p.sign]
 cases ZC mi p.sign with
 | none=>rfl
 | some x=>simp
theorem ztD {ps:List Pt}(h:ps.length>512):JB ps=2:=by unfold JB;rw [if_pos h]
theorem zuh {ps:List Pt}(h:¬ps.length>512){k:Nat}{p:Pt}(hp:ps[k]? =some p)(h0:orF ((ps.take k).map JO)=0)(h1:JO p≠0):JB ps=JO p:=by
 have:orF (ps.map JO)=JO p:=zk4 (k:=k) (by simp [hp]) (by rw [←List.map_take];exact h0) h1
 unfold JB;rw [if_neg h,this,if_pos h1]
theorem zuj {ps:List Pt}(h:¬ps.length>512)(h0:orF (ps.map JO)=0)(h1:lsB ps=false):JB ps=380:=by unfold JB;rw [if_neg h,if_neg (by omega),h1];rfl
theorem zhc {ps:List Pt}(h:¬ps.length>512)(h0:orF (ps.map JO)=0)(h1:lsB ps=true)(h2:zhz ps=false):JB ps=380:=by unfold JB;rw [if_neg h,if_neg (by omega),h1,h2];rfl
theorem zsO {ps:List Pt}(h:¬ps.length>512)(h0:orF (ps.map JO)=0)(h1:lsB ps=true)(h2:zhz ps=true):JB ps=0:=by unfold JB;rw [if_neg h,if_neg (by omega),h1,h2];rfl
theorem zp5 {ps:List Pt}{k:Nat}{p:Pt}(hp:ps[k]? =some p)(h0:orF ((ps.take k).map JO)=0)(h1:JO p=0):orF ((ps.take (k+1)).map JO)=0:=by
 rw [J9] at h0 ⊢
 intro x hx
 rw [Z2 hp,List.map_append,List.mem_append] at hx
 rcases hx with hx | hx
 ·
  exact h0 x hx
 ·
  simp at hx;rw [hx,h1]
theorem zlW {p:Pt}(h:JO p=0):1≤p.id∧p.id≤1048576∧0≤p.sign∧p.sign≤1048576∧p.needs.length≤32:=by
 unfold JO at h
 split at h
 ·
  cases h
 ·
  split at h
  ·
   rename_i h1 h2
   simp only [Bool.and_eq_true] at h2
   have h3:=h2.2.1
   unfold idB at h3
   simp at h3
   omega
  ·
   cases h
theorem ztu {I:Qu}{av:Option Addr}{n c:Nat}{ps:List Pt}(hP:SlP I av n c ps)(hz:∀ p∈ps,JO p=0):∀ p∈ps,p.n≤100000:=fun p hp=>by
 have h1:Sl I 1 QP p.a p.n p.c p.needs:=hP.2 p hp
 have h2:=hz p hp
 have h3:=h1.len
 unfold JO at h2
 split at h2
 ·
  cases h2
 ·
  omega
theorem zmO {I:Qu}{av:Option Addr}{n c:Nat}{ps:List Pt}(hP:SlP I av n c ps)(h:JB ps=0):∀ p∈ps,p.n≤100000:=ztu hP fun p hp=>J9.1 (Ky h).2.1 _ (List.mem_map.2 ⟨p,hp,rfl⟩)
end
section
open Go Go.Kn Go.Proofs
theorem zn1 {I:Qu}{av:Option Addr}{n c:Nat}{ps:List Pt}(hP:SlP I av n c ps)(hn:n≤100000):Zx Tryz.prog 48 [.slice av n c] I (.int .i64 (JB ps)):=by
 intro g H w hw
 refine qe Tryz.func48 Tryz.ntmps48 hw ?_
 have hIc:=zyv I
 refine zR (zA (zN (Ql (zR ?_))))
 refine zM ?_
 refine zQ Zy ?_
 refine zC (zN ?_)
 refine zI ?_ ?_<;>intro hc24
 ·
  have hlen:ps.length>512:=by rw [hP.len];simp at hc24;omega
  refine zR (zA (zN (Qs (Qc ?_))))
  exact zp hIc rfl rfl (by rw [ztD hlen])
 have hlen:¬ps.length>512:=by rw [hP.len];simp at hc24;omega
 refine Qo (Qa (Ql (zR (zM ?_))))
 refine zQ Zy ?_
 refine zM (zN (Qm ?_))
 refine zU [(0,_),(25,_),(26,_)] (fun T L0 mz E I' loc'=>∃ (k:Nat) (e:Int),mz=n-k∧E=(27,.int .i64 k)::T∧I=I'∧L0=loc'∧k≤n∧e=0∧orF ((ps.take k).map JO)=0) ?_ (h:=⟨0,0,rfl,rfl,rfl,rfl,Nat.zero_le _,rfl,rfl⟩)
 rintro mz E I' loc' ⟨k,e,rfl,rfl,rfl,rfl,hk,he,h0⟩
 refine zR (zC (zN (Ql ?_)))
 refine zI ?_ ?_<;>intro hc28
 ·
  have hlt_k:k<n:=by have h:=hc28;simp at h;omega
  have hP1:=hP.1
  obtain ⟨p,hp,hN⟩:=hP.at hlt_k
  have hpm:=List.mem_of_getElem? hp
  have hN:Sl I 1 QP p.a p.n p.c p.needs:=hN
  refine Qo (Qa (Ql (Qm (zR ?_))))
  refine zV (QE rfl rfl Zy (by assumption) (fun hg=>by omega)) ?_
  refine zV (Qp rfl Yr (fun hg=>by exact zyw hP1 hp) rfl) ?_
  refine Qr K5 rfl rfl (fun b_4=>?_)
  refine zh VM ?_
  refine zN (zR ?_)
  refine zV (Qp rfl Yr (fun hg=>by exact Cells.g0) rfl) ?_
  refine qc (vs:=[_]) rfl zsu (ztk p hN) ?_
  refine zA ?_
  refine zN (zR ?_)
  refine zM ?_
  refine zC (zN ?_)
  refine zI ?_ ?_<;>intro hc34
  ·
   have hbad:JB ps=JO p:=zuh hlen hp h0 (by simpa using hc34)
   refine zR (zM ?_)
   refine zA (zN (Qs (Qn (Qc (Qc (Qn (Qc ?_)))))))
   exact zp hIc rfl rfl (by rw [hbad])
  have hpk:JO p=0:=by simpa using hc34
  refine Qo (Qh (Qa (Qg (zB ?_))))
  refine zM (Qb ?_)
  exact zm (h:=⟨n-(k+1),by omega,k+1,_,rfl,rfl,rfl,rfl,by omega,hpk,zp5 hp h0 hpk⟩)
 have hge_k:n≤k:=by have h:=hc28;simp at h;omega
 have h0:orF (ps.map JO)=0:=by rw [ZF hP.len hge_k] at h0;exact h0
 have hz:∀ p∈ps,JO p=0:=fun p hp=>J9.1 h0 _ (List.mem_map.2 ⟨p,hp,rfl⟩)
 have hnd:=ztu hP hz
 refine QH (Qe (Qe (Qk (Qa (zR ?_)))))
 refine ZE rfl rfl (fun r_37=>?_)
 refine Qr zts rfl rfl (fun b_5=>?_)
 refine zS zpr ?_
 refine zA (zN (Ql (zR ?_)))
 refine zM ?_
 refine zQ Zy ?_
 refine zM (zN (Qm ?_))
 refine zU [(0,_),(5,_),(38,_),(39,_)] (fun T L0 mz E I' loc'=>∃ (k:Nat) (l:Int) (s:List (Int×Bool)),mz=n-k∧E=(6,.int .i64 l)::(40,.int .i64 k)::T∧I=I'∧[(b_5,.cells #[.map (some r_37)] 167 (0,0)),(r_37,ZN (Value.int .i64) Value.bool s)]=loc'∧k≤n∧(List.range k).all (lsQ ps)=true∧zgu (zpM ps) k l∧∀ x,za4 s x=zam (ps.take k) x) ?_ (h:=⟨0,0,[],rfl,rfl,rfl,rfl,Nat.zero_le _,rfl,⟨fun _=>rfl,fun y hy h=>absurd rfl h⟩,fun x=>rfl⟩)
 rintro mz E I' loc' ⟨k,l,s,rfl,rfl,rfl,rfl,hk,hall,hl,hs⟩
 refine zR (zC (zN (Ql ?_)))
 refine zI ?_ ?_<;>intro hc41
 ·
  have hlt_k:k<n:=by have h:=hc41;simp at h;omega
  have hP1:=hP.1
  obtain ⟨p,hp,hN⟩:=hP.at hlt_k
  have hpm:=List.mem_of_getElem? hp
  have hN:Sl I 1 QP p.a p.n p.c p.needs:=hN
  have hpn:=hnd p hpm
  have hp1:=(zlW (hz p hpm)).1
  refine Qo (Qa (Ql (Qm (zR ?_))))
  refine zV (QE rfl rfl Zy (by assumption) (fun hg=>by omega)) ?_
  refine zV (Qp rfl Yr (fun hg=>by exact zyw hP1 hp) rfl) ?_
  refine Qr K5 rfl rfl (fun b_8=>?_)
  refine zh VM ?_
  refine zN (Ql (zR ?_))
  refine zF Zu ?_
  refine zL Qt ?_
  refine zM ?_
  refine zC ?_
  refine zM ?_
  refine Q0 4 rfl rfl rfl ?_
  refine zJ (Qf rfl KV) ?_
  refine zJ (Qd rfl QK (fun hg=>by exact QV.h0 rfl)) ?_
  refine zJ (Zb (us:=[]) (vs:=[_]) rfl rfl) ?_
  refine ziq (cap:=[]) (vs:=[_,_]) rfl rfl zi1 QD (fun hg=>zkn.ofV fun I' hI' hL'=>zsW (cap:=[.pointer (some ⟨b_5,0,none⟩)]) (hN.mono hI') hpn zup (fun x _=>zw7 (b:=b_5) (r:=r_37) (s:=s) (hL' b_5 _ (by simp)) (hL' r_37 _ (by simp)) x)) (.some rfl rfl rfl rfl gbf) rfl rfl ?_
  refine ZA rfl rfl rfl rfl rfl ?_
  refine zN ?_
  refine zI ?_ ?_<;>intro hc53
  ·
   have hbad:JB ps=380:=zuj hlen h0 (by rw [←zhL h0];exact JH (k:=k) (by rw [hP.len];exact hlt_k) (by rw [znK hp hp1 hl hs];exact congrArg (! ·) hc53))
   refine zR (zA (zN (Qs (Qc (Qn (Qc (Qc ?_)))))))
   refine Qn (Qc ?_)
   exact zp hIc rfl rfl (by rw [hbad])
  refine Qo (Qa ?_)
  have hD:=zyv I
  refine Jn ?_
  refine Z8 I [(b_8,.cells (Yw p).toArray 57 (0,0)),(b_5,.cells #[.map (some r_37)] 167 (0,0))] mixed ?_
  refine zT 0 rfl (Qd rfl zhh (fun hg=>by exact QV.h1 rfl)) hD ?_
  refine zT 1 rfl (Qf rfl Zu) hD ?_
  refine zT 2 rfl (Qd rfl Qt (fun hg=>by exact QV.h0 rfl)) hD ?_
  refine zT 3 rfl (Qf rfl Zu) hD ?_
  refine zT 4 rfl (Qd rfl Qt (fun hg=>by exact QV.h0 rfl)) hD ?_
  refine qd 5 rfl ?_
  refine Q4 (m:=s) (ek:=Value.int .i64) (ev:=Value.bool) (a:=p.id) true Vn ZD rfl rfl rfl rfl (by repeat (first | exact Upd.here | apply Upd.there | apply QI)) ?_
  refine Qb ?_
  refine zD hD ?_
  refine zT 6 rfl (ZM rfl) hD ?_
  refine QF (by kernel_rfl) ?_
  refine QQ ?_
  refine Qh (Qa (Qg (zB ?_)))
  refine zM (Qb ?_)
  exact zm (h:=⟨n-(k+1),by omega,k+1,_,_,rfl,rfl,rfl,rfl,by omega,V6 hall (by rw [znK hp hp1 hl hs];exact congrArg (! ·) hc53),zf6 hp,fun x=>by rw [KS,hs,zmI hp]⟩)
 have hge_k:n≤k:=by have h:=hc41;simp at h;omega
 have hls:lsB ps=true:=by rw [←zhL h0,hP.len,show n=k by omega];exact hall
 have hL:Lst ps:=ziC h0 hls
 refine QH (Qe (Qe (Qk (Qa (zR (zM ?_))))))
 refine Qx (cap:=[]) (vs:=[_]) rfl rfl zjG .nil (zbg hP hn hL hnd) rfl rfl ?_
 rintro vv3 I3 L3 hI3 ⟨rfl,r9,rfl,hOn⟩
 have hP:=hP.mono hI3;have hIc:=hIc.trans hI3
 refine zA ?_
 refine zN (zR ?_)
 refine ZE rfl rfl (fun r_62=>?_)
 refine ZE rfl rfl (fun r_63=>?_)
 refine zA ?_
 refine zA (zN (Ql (Ql ?_)))
 refine Xk [(r_63,ZN (Value.int .i64) WL []),(r_62,ZN (Value.int .i64) (Value.int .i64) [])] (by repeat (first | exact U6 | exact .refl | refine .keep ?_ | refine .drop ?_)) ?_
 refine Qg (zM ?_)
 refine zQ Zy ?_
 refine zM (zN (Qm ?_))
 refine zU [(0,_),(9,_),(10,_),(11,_),(64,_),(65,_)] (fun T L0 mz E I' loc'=>∃ (k:Nat) (mi:List (Int×Int)) (mr:List (Int×(Value×Nat×List Value))) (L:Go.Kn.Loc),mz=n-k∧E=(66,.int .i64 k)::T∧I3=I'∧(r_63,ZN (Value.int .i64) WL mr)::(r_62,ZN (Value.int .i64) (Value.int .i64) mi)::L=loc'∧k≤n∧zgg mi (ps.take k)∧WE mr (ps.take k)∧Vm 3 1 (mr.map (·.2)) L) ?_ (h:=⟨0,[],[],[],rfl,rfl,rfl,rfl,Nat.zero_le _,zgg.nil,WE.nil,Vm.nil⟩)
 rintro mz E I' loc' ⟨k,mi,mr,L,rfl,rfl,rfl,rfl,hk,hmi,hmr,hAll⟩
 refine zR (zC (zN (Ql ?_)))
 refine zI ?_ ?_<;>intro hc67
 ·
  have hlt_k:k<n:=by have h:=hc67;simp at h;omega
  have hP1:=hP.1
  obtain ⟨p,hp,hN⟩:=hP.at hlt_k
  have hpm:=List.mem_of_getElem? hp
  have hN:Sl I3 1 QP p.a p.n p.c p.needs:=hN
  have hpn:=hnd p hpm
  refine Qo (Qa (Ql (Qm (zR ?_))))
  refine zV (QE rfl rfl Zy (by assumption) (fun hg=>by omega)) ?_
  refine zV (Qp rfl Yr (fun hg=>by exact zyw hP1 hp) rfl) ?_
  refine Qr K5 rfl rfl (fun b_13=>?_)
  refine zh VM ?_
  refine zN (zR ?_)
  refine zF KU ?_
  refine zL Qt ?_
  refine zN (Qm (zR (zC ?_)))
  refine zA (zN ?_)
  refine zI ?_ ?_<;>intro hc72
  ·
   have hk2:p.kind=2:=by simpa using hc72
   refine Ql (zR (zM ?_))
   refine zF Ya ?_
   refine zL Qt ?_
   refine zV (Kt (m:=mi) (ek:=Value.int .i64) (a:=p.sign) Y0 ZD rfl rfl (fun _=>.inr (by simp))) ?_
   refine zM ?_
   refine zE ?_
   refine zE ?_
   refine zA ?_
   refine zA ?_
   refine zN (zR ?_)
   refine zM (zN ?_)
   refine zI ?_ ?_<;>intro hc81
   ·
    obtain ⟨id,hid⟩:=Option.isSome_iff_exists.1 hc81
    have hbad:JB ps=380:=zhc hlen h0 hls (zpn hL hmi hp hk2 hid)
    refine zR (zA (zN (Qs (Qc (Qn (Qn (Qc ?_)))))))
    refine Qc (Qn (Qc ?_))
    exact zp hIc rfl rfl (by rw [hbad])
   have hnone:ZC mi p.sign=none:=by simpa using hc81
   refine Qo (Qa (Qg (zM ?_)))
   refine zF Ya ?_
   refine zL Qt ?_
   refine zF Zu ?_
   refine zL Qt ?_
   refine Q4 (m:=mi) (ek:=Value.int .i64) (ev:=Value.int .i64) (a:=p.sign) p.id Y0 ZD rfl rfl rfl rfl (by repeat (first | exact Upd.here | apply Upd.there | apply QI)) ?_
   refine Qb (Qh (Qh (Qa (Qg (zB ?_)))))
   refine zM (Qb ?_)
   exact zm (h:=⟨n-(k+1),by omega,k+1,_,_,_,rfl,rfl,rfl,rfl,by omega,hmi.put hp hk2 hnone,hmr.skip hp (by omega),hAll⟩)
  have hk2n:p.kind≠2:=by simpa using hc72
  refine zR (zC ?_)
  refine zA (zN ?_)
  refine zI ?_ ?_<;>intro hc87
  ·
   have hk3:p.kind=3:=by simpa using hc87
   obtain ⟨A,Lt,B,rfl,hOt,hset⟩:=hAll.at p.sign
   have hq:=zn9 hmr hOt
   have hq2:=List.length_take_le k ps
   have hD:=zyv I3
   refine Jn ?_
   refine Z8 I3 [(b_13,.cells (Yw p).toArray 57 (0,0))] mixed ?_
   refine zT 0 rfl (Qi rfl) hD ?_
   refine zT 1 rfl (Qf rfl Ya) hD ?_
   refine zT 2 rfl (Qd rfl Qt (fun hg=>by exact QV.h0 rfl)) hD ?_
   refine zT 3 rfl (Qi rfl) hD ?_
   refine zT 4 rfl (Qf rfl Ya) hD ?_
   refine zT 5 rfl (Qd rfl Qt (fun hg=>by exact QV.h0 rfl)) hD ?_
   refine zT 7 rfl (Qf rfl Zu) hD ?_
   refine zT 8 rfl (Qd rfl Qt (fun hg=>by exact QV.h0 rfl)) hD ?_
   refine Zr 6 9 rfl rfl (by kernel_rfl) ?_ ?_
   ·
    refine zV (Vo (m:=mr) (ek:=Value.int .i64) (a:=p.sign) YS ZD rfl rfl (fun _=>.inr (by simp))) ?_
    refine Qb ?_
    refine zD hD ?_
    refine qd 9 rfl ?_
    refine Qq (ps:=[(0,_)]) (m:=[QP p.id]) Zf rfl (.cons rfl (.nil)) rfl (by simp [Qv]) (by decide) (by decide) rfl rfl (fun b_98=>?_)
    refine Qb ?_
    refine zD hD ?_
    refine qd 10 rfl ?_
    refine QW (v:=_) (ys:=[p.id].flatMap QP) (L:=Lt) rfl rfl Zf hOt (by repeat (first | exact .cons .here .nil | exact QD | exact Qw | apply QC | apply QA)) ⟨rfl,fun _=>rfl,zyt⟩ (JG [p.id]) (by omega) rfl rfl ?_
    intro v9 L9 hO9 _
    refine Qb ?_
    refine zD hD ?_
    refine qd 11 rfl ?_
    refine Q4 (m:=mr) (ek:=Value.int .i64) (ev:=WL) (a:=p.sign) (v9,((ZC mr p.sign).getD V8).2.1+1,((ZC mr p.sign).getD V8).2.2++[p.id].flatMap QP) YS ZD rfl rfl rfl rfl (by (repeat (first | exact Upd.here | apply Upd.there | apply QI))) ?_
    refine Qb ?_
    refine zD hD ?_
    refine QF (by kernel_rfl) ?_
    refine QQ ?_
    refine Qh (Qh (Qa (Qg (zB ?_))))
    refine zM (Qb ?_)
    exact Jj _ _ (L9++((r_63,_)::(r_62,_)::(A++B))) ⟨n-(k+1),by omega,k+1,_,_,A++(L9++B),rfl,rfl,rfl,rfl,by omega,hmi.skip hp hk2n,hmr.put hp hk3,hset (v9,_,_) L9 hO9⟩ (.cons rfl (.cons rfl (.cons rfl (.cons rfl (.cons rfl (.cons rfl (.cons rfl .nil))))))) zhk (by repeat (first | exact .refl | exact Zi | refine Yj ?_ | refine .drop ?_ | refine Z6 ?_))
   refine Qq (ps:=[(0,_)]) (m:=[QP p.id]) Zf rfl (.cons rfl (.nil)) rfl (by simp [Qv]) (by decide) (by decide) rfl rfl (fun b_98=>?_)
   refine Qb ?_
   refine zD hD ?_
   refine qd 6 rfl ?_
   refine zV (Vo (m:=mr) (ek:=Value.int .i64) (a:=p.sign) YS ZD rfl rfl (fun _=>.inr (by simp))) ?_
   refine Qb ?_
   refine zD hD ?_
   refine qd 10 rfl ?_
   refine QW (v:=_) (ys:=[p.id].flatMap QP) (L:=Lt) rfl rfl Zf hOt (by repeat (first | exact .cons .here .nil | exact QD | exact Qw | apply QC | apply QA)) ⟨rfl,fun _=>rfl,zyt⟩ (JG [p.id]) (by omega) rfl rfl ?_
   intro v9 L9 hO9 _
   refine Qb ?_
   refine zD hD ?_
   refine qd 11 rfl ?_
   refine Q4 (m:=mr) (ek:=Value.int .i64) (ev:=WL) (a:=p.sign) (v9,((ZC mr p.sign).getD V8).2.1+1,((ZC mr p.sign).getD V8).2.2++[p.id].flatMap QP) YS ZD rfl rfl rfl rfl (by (repeat (first | exact Upd.here | apply Upd.there | apply QI))) ?_
   refine Qb ?_
   refine zD hD ?_
   refine QF (by kernel_rfl) ?_
   refine QQ ?_
   refine Qh (Qh (Qa (Qg (zB ?_))))
   refine zM (Qb ?_)
   exact Jj _ _ (L9++((r_63,_)::(r_62,_)::(A++B))) ⟨n-(k+1),by omega,k+1,_,_,A++(L9++B),rfl,rfl,rfl,rfl,by omega,hmi.skip hp hk2n,hmr.put hp hk3,hset (v9,_,_) L9 hO9⟩ (.cons rfl (.cons rfl (.cons rfl (.cons rfl (.cons rfl (.cons rfl (.cons rfl .nil))))))) zhk (by repeat (first | exact .refl | exact Zi | refine Yj ?_ | refine .drop ?_ | refine Z6 ?_))
  have hk3n:p.kind≠3:=by simpa using hc87
  refine Qo (Qh (Qh (Qa (Qg (zB ?_)))))
  refine zM (Qb ?_)
  exact zm (h:=⟨n-(k+1),by omega,k+1,_,_,_,rfl,rfl,rfl,rfl,by omega,hmi.skip hp hk2n,hmr.skip hp hk3n,hAll⟩)
 have hge_k:n≤k:=by have h:=hc67;simp at h;omega
 rw [ZF hP.len hge_k] at hmi hmr
 refine QH (Qe (Qe (Qk (Qa (Ql (Ql ?_))))))
 refine Vv (fun I5 hI5 hb5=>?_)
 have hP:=hP.mono hI5;have hOn:=hOn.mono hI5;have hIc:=hIc.trans hI5
 have hmiI:I5 r_62=some (ZN (Value.int .i64) (Value.int .i64) mi):=hb5 _ _ (by simp)
 have hmrI:I5 r_63=some (ZN (Value.int .i64) WL mr):=hb5 _ _ (by simp)
 have hrem:=znX hmr hAll (fun b o h=>hb5 b o (by simp [h]))
 obtain ⟨m,hm1,hm2⟩:=hOn
 refine Qg (zM ?_)
 refine zQ Zy ?_
 refine zM (zN (Qm ?_))
 refine zU [(9,_),(10,_),(11,_),(101,_),(102,_)] (fun T L0 mz E I' loc'=>∃ (k:Nat),mz=n-k∧E=(103,.int .i64 k)::T∧I5=I'∧[]=loc'∧k≤n∧(ps.take k).all (tgP ps)=true) ?_ (h:=⟨0,rfl,rfl,rfl,rfl,Nat.zero_le _,rfl⟩)
 rintro mz E I' loc' ⟨k,rfl,rfl,rfl,rfl,hk,htg⟩
 refine zR (zC (zN (Ql ?_)))
 refine zI ?_ ?_<;>intro hc104
 ·
  have hlt_k:k<n:=by have h:=hc104;simp at h;omega
  have hP1:=hP.1
  obtain ⟨p,hp,hN⟩:=hP.at hlt_k
  have hpm:=List.mem_of_getElem? hp
  have hN:Sl I5 1 QP p.a p.n p.c p.needs:=hN
  have hpn:=hnd p hpm
  obtain ⟨ref,hget,sn,hsn,hsq⟩:=hm2.get ⟨p,hpm,rfl⟩
  refine Qo (Qa (Ql (Qm (zR ?_))))
  refine zV (QE rfl rfl Zy (by assumption) (fun hg=>by omega)) ?_
  refine zV (Qp rfl Yr (fun hg=>by exact zyw hP1 hp) rfl) ?_
  refine Qr K5 rfl rfl (fun b_17=>?_)
  refine zh VM ?_
  refine zN (Ql (zR (zM ?_)))
  refine zF Ya ?_
  refine zL Qt ?_
  refine zV (Kt (m:=mi) (ek:=Value.int .i64) (a:=p.sign) Y0 ZD rfl rfl (fun _=>.inl hmiI)) ?_
  refine zM ?_
  refine zE ?_
  refine zE ?_
  refine zA ?_
  refine zA ?_
  refine zN (zR ?_)
  refine zM ?_
  refine zM ?_
  refine QG 1 rfl rfl rfl ?_
  refine zK (Qf rfl Zu) ?_
  refine zK (Qd rfl Qt (fun hg=>by exact QV.h0 rfl)) ?_
  refine zK (Qi rfl) ?_
  refine zK (QJ rfl rfl rfl) ?_
  refine QO rfl rfl rfl rfl rfl ?_
  refine zM ?_
  refine QG 7 rfl rfl rfl ?_
  refine zK (Qi rfl) ?_
  refine zK (Qf rfl Zu) ?_
  refine zK (Qd rfl Qt (fun hg=>by exact QV.h0 rfl)) ?_
  refine zK (YD (m:=m) (ek:=Value.int .i64) (ev:=zca) (a:=p.id) hget KE ZD rfl rfl (fun _=>.inl hm1)) ?_
  refine zK (Qi rfl) ?_
  refine zK (ZY (m:=sn) Vn ZD rfl rfl (fun _=>.inl hsn)) ?_
  refine zK (Vd rfl) ?_
  refine QO rfl rfl rfl rfl rfl ?_
  refine zN ?_
  refine zI ?_ ?_<;>intro hc129
  ·
   have hA:=hc129
   simp only [show ∀ x,(ZC sn x).getD false=onF ps p.id x from fun x=>hsq.mem x] at hA
   have hbad:JB ps=380:=zhc hlen h0 hls (by rw [zhi hL hmi];exact ziW hp (by unfold tgP;rw [←zoo hmi,hA];rfl))
   refine zR (zA (zN (Qs (Qc (Qn (Qc (Qc ?_)))))))
   refine Qn (Qc ?_)
   exact zp hIc rfl rfl (by rw [hbad])
  have hA:=hc129
  simp only [show ∀ x,(ZC sn x).getD false=onF ps p.id x from fun x=>hsq.mem x] at hA
  refine Qo (Qa (Ql ?_))
  obtain ⟨av2,c2,hv2,hS2⟩:=hrem p.sign
  have hk3l:=XK (c:=3) (ps:=ps) (s:=p.sign)
  have hpl:=hP.len
  refine Qg (zM ?_)
  refine zF Ya ?_
  refine zL Qt ?_
  refine zV (Yx (m:=mr) (ek:=Value.int .i64) (a:=p.sign) hv2 YS ZD rfl rfl (fun _=>.inl hmrI)) ?_
  refine zQ Qy ?_
  refine zM (zN (Qm ?_))
  refine zU [(9,_),(10,_),(11,_),(17,_),(101,_),(102,_),(103,_),(133,_),(134,_)] (fun T L0 mz E I' loc'=>∃ (j:Nat),mz=(V2 3 ps p.sign).length-j∧E=(135,.int .i64 j)::T∧I5=I'∧[(b_17,.cells (Yw p).toArray 57 (0,0))]=loc'∧j≤(V2 3 ps p.sign).length∧((V2 3 ps p.sign).take j).any (onF ps p.id)=false) ?_ (h:=⟨0,rfl,rfl,rfl,rfl,Nat.zero_le _,rfl⟩)
  rintro mz E I' loc' ⟨j,rfl,rfl,rfl,rfl,hj,hno⟩
  refine zR (zC (zN (Ql ?_)))
  refine zI ?_ ?_<;>intro hc136
  ·
   have hlt_j:j<(V2 3 ps p.sign).length:=by have h:=hc136;simp at h;omega
   obtain ⟨y,hy⟩:=hS2.at hlt_j
   refine Qo (Qa (Ql (Qm (zR ?_))))
   refine zV (QE rfl rfl Qy (by assumption) (fun hg=>by omega)) ?_
   refine zV (Qd rfl Qt (fun hg=>by exact zyo hS2 hy rfl)) ?_
   refine zA ?_
   refine zN (zR ?_)
   refine zM ?_
   refine zF Zu ?_
   refine zL Qt ?_
   refine zV (YD (m:=m) (ek:=Value.int .i64) (ev:=zca) (a:=p.id) hget KE ZD rfl rfl (fun _=>.inl hm1)) ?_
   refine zM ?_
   refine zV (ZY (m:=sn) Vn ZD rfl rfl (fun _=>.inl hsn)) ?_
   refine zN ?_
   refine zI ?_ ?_<;>intro hc144
   ·
    have hon:=hc144
    simp only [show ∀ x,(ZC sn x).getD false=onF ps p.id x from fun x=>hsq.mem x] at hon
    have hbad:JB ps=380:=zhc hlen h0 hls (by rw [zhi hL hmi];exact ziW hp (by unfold tgP;rw [JU hy hon,Bool.or_true];rfl))
    refine zR (zA (zN (Qs (Qn (Qc (Qc (Qn ?_)))))))
    refine Qn (Qc (Qc (Qn (Qc ?_))))
    exact zp hIc rfl rfl (by rw [hbad])
   have hon:=hc144
   simp only [show ∀ x,(ZC sn x).getD false=onF ps p.id x from fun x=>hsq.mem x] at hon
   refine Qo (Qh (Qa (Qg (zB ?_))))
   refine zM (Qb ?_)
   exact zm (h:=⟨(V2 3 ps p.sign).length-(j+1),by omega,j+1,rfl,rfl,rfl,rfl,by omega,YX hy hno hon⟩)
  have hge_j:(V2 3 ps p.sign).length≤j:=by have h:=hc136;simp at h;omega
  rw [ZF rfl hge_j] at hno
  have htp:tgP ps p=true:=by unfold tgP;rw [←zoo hmi,hA,hno];rfl
  refine QH (Qe (Qe (Qk (Qh (Qa (Qg (zB ?_)))))))
  refine zM (Qb ?_)
  exact zm (h:=⟨n-(k+1),by omega,k+1,rfl,rfl,rfl,rfl,by omega,zjw hp htg htp⟩)
 have hge_k:n≤k:=by have h:=hc104;simp at h;omega
 have htog:zhz ps=true:=by rw [zhi hL hmi];rw [ZF hP.len hge_k] at htg;exact htg
 refine QH (Qe (Qe (Qk (Qa (zR (zA (zN ?_)))))))
 refine Qs ?_
 exact zp hIc rfl rfl (by rw [zsO hlen h0 hls htog])
end
section
open Go Go.Kn Go.Proofs
def zfE (e:Int)(xs:List Int):Value→Qu→Go.Kn.Loc→Prop:=fun v I' L=>L=[]∧∃ av c,v= .tuple #[.slice av xs.length c,.int .i64 e]∧Sl I' 1 QP av xs.length c xs
theorem zfE.empty {e:Int}{xs:List Int}{I:Qu}(h:xs=[]):zfE e xs (.tuple #[.slice none 0 0,.int .i64 e]) I []:=by
 subst h
 exact ⟨rfl,none,0,rfl,.nil⟩
theorem zfE.good {e e':Int}{xs ys:List Int}{I:Qu}{av:Option Addr}{n c:Nat}(h:e=e')(hx:ys=xs)(hS:Sl I 1 QP av n c ys):zfE e' xs (.tuple #[.slice av n c,.int .i64 e]) I []:=by
 subst h;subst hx
 have hn:=hS.len
 subst hn
 exact ⟨rfl,av,c,rfl,hS⟩
def clE (ps:List Pt)(ids:List Int):Int:=if ids.length>512 then 2 else if chB ps ids then 0 else 380
theorem zsF {ps:List Pt}{ids:List Int}(h:ids.length>512):clE ps ids=2:=by unfold clE;rw [if_pos h]
theorem zp2 {ps:List Pt}{ids:List Int}(h:¬ids.length>512)(h2:chB ps ids=false):clE ps ids=380:=by unfold clE;rw [if_neg h,h2];rfl
theorem ztB {ps:List Pt}{ids:List Int}(h:¬ids.length>512)(h2:chB ps ids=true):clE ps ids=0:=by unfold clE;rw [if_neg h,h2];rfl
theorem zuy {ps:List Pt}{ids:List Int}(h:zrs ids=false):chB ps ids=false:=by unfold chB;rw [h];rfl
theorem zsr {ps:List Pt}{ids:List Int}{k:Nat}{x:Int}(hx:ids[k]? =some x)(h:zam ps x=false):chB ps ids=false:=by unfold chB;rw [ziW hx h,Bool.and_false]
theorem zvv {ps:List Pt}{ids:List Int}(h:zrs ids=true)(h2:ids.all (zam ps)=true):chB ps ids=true:=by unfold chB;rw [h,h2];rfl
def zdF (ps:List Pt)(ids:List Int)(k:Nat)(zs:List Int)(S:Int→Bool):Prop:=∀ x,x∈zs↔(x∈ids∨∃ n∈ids.take k,onF ps n x=true)∨S x=true
theorem zdF.start {ps:List Pt}{ids:List Int}:zdF ps ids 0 ids (fun _=>false):=fun x=>by simp
theorem zdF.put {ps:List Pt}{ids zs:List Int}{k:Nat}{S S':Int→Bool}{a:Int}(h:zdF ps ids k zs S)(e:∀ x,S' x=(decide (a=x)||S x)):zdF ps ids k (zs++[a]) S':=fun x=>by
 rw [List.mem_append,h x,e x]
 simp only [List.mem_singleton,Bool.or_eq_true,decide_eq_true_eq]
 constructor
 ·
  rintro (h | h)
  ·
   rcases h with h | h
   ·
    exact .inl h
   ·
    exact .inr (.inr h)
  ·
   exact .inr (.inl h.symm)
 ·
  rintro (h | h | h)
  ·
   exact .inl (.inl h)
  ·
   exact .inr h.symm
  ·
   exact .inl (.inr h)
theorem zdF.next {ps:List Pt}{ids zs:List Int}{k:Nat}{S:Int→Bool}{n:Int}(h:zdF ps ids k zs S)(hn:ids[k]? =some n)(e:∀ x,S x=onF ps n x):zdF ps ids (k+1) zs (fun _=>false):=fun x=>by
 rw [h x,e x,Z2 hn]
 simp only [List.mem_append,List.mem_singleton,Bool.false_eq_true,or_false]
 constructor
 ·
  rintro (h | h)
  ·
   rcases h with h | ⟨m,hm,h⟩
   ·
    exact .inl h
   ·
    exact .inr ⟨m,.inl hm,h⟩
  ·
   exact .inr ⟨n,.inr rfl,h⟩
 ·
  rintro (h | ⟨m,hm | rfl,h⟩)
  ·
   exact .inl (.inl h)
  ·
   exact .inl (.inr ⟨m,hm,h⟩)
  ·
   exact .inr h
theorem zdF.congr {ps:List Pt}{ids zs:List Int}{k:Nat}{S S':Int→Bool}(h:zdF ps ids k zs S)(e:∀ x,S x=S' x):zdF ps ids k zs S':=fun x=>by rw [h x,e x]
theorem zmB {ps:List Pt}{ids zs:List Int}{n:Nat}(hL:Lst ps)(h:zdF ps ids n zs (fun _=>false))(hn:ids.length=n)(hall:ids.all (zam ps)=true):Lib.compact (Yu (zs++[]))=zdx ps ids:=by
 rw [List.append_nil]
 refine WJ (K2 hL ids) fun x=>?_
 rw [h x,Wg,←hn,List.take_length]
 simp only [Bool.false_eq_true,or_false]
 constructor
 ·
  rintro (hx | ⟨m,hm,ho⟩)
  ·
   exact ⟨VP.1 (List.all_eq_true.1 hall x hx),x,hx,.inl rfl⟩
  ·
   exact ⟨(hL.on_lt ho).2,m,hm,.inr ho⟩
 ·
  rintro ⟨_,m,hm,rfl | ho⟩
  ·
   exact .inl hm
  ·
   exact .inr ⟨m,hm,ho⟩
theorem zvB {ps:List Pt}(hL:Lst ps){a:Int}{sn:List (Int×Bool)}(h:XH sn (onF ps a)):sn.length≤ps.length:=by
 have:=List.Nodup.length_le_of_subset h.nodup (l₂:=zpM ps) (fun x hx=>by
  obtain ⟨_,q,hq,e⟩:=hL.on_lt (h.key.2 hx)
  exact List.mem_map.2 ⟨q,hq,e⟩)
 simpa [zpM] using this
theorem OnL.hit {I:Qu}{m:List (Int×Nat)}{ps:List Pt}(h:OnL I m ps){a:Int}{ref:Nat}(hg:ZC m a=some ref):zam ps a=true∧OnS I ref (onF ps a):=by
 have hm:=KZ hg
 refine ⟨?_,h.2 _ hm⟩
 have hk:a∈m.map (·.1):=List.mem_map.2 ⟨_,hm,rfl⟩
 rw [h.1] at hk
 obtain ⟨q,hq,e⟩:=List.mem_map.1 hk
 exact VP.2 ⟨q,hq,e⟩
theorem OnL.miss {I:Qu}{m:List (Int×Nat)}{ps:List Pt}(h:OnL I m ps){a:Int}(hg:ZC m a=none):zam ps a=false:=by
 cases hh:zam ps a with
 | false=>rfl
 | true=>
  obtain ⟨ref,h1,_⟩:=h.get (VP.1 hh)
  rw [hg] at h1;cases h1
def vrE (ps:List Pt)(v:List Int):Int:=if v.length>512 then 2 else if zey ps v then 0 else 380
theorem zsd {ps:List Pt}(hL:Lst ps){v:List Int}{w:Int}(h:w=(zgD (clE ps v) (zdx ps v)).length):(if ((clE ps v==0)&&(w != (v.length:Int)))=true then 380 else clE ps v)=vrE ps v:=by
 unfold vrE
 by_cases h1:v.length>512
 ·
  rw [if_pos h1,zsF h1];rfl
 ·
  rw [if_neg h1]
  cases hc:chB ps v with
  | false=>
   rw [zp2 h1 hc]
   unfold zey
   rw [hc];rfl
  | true=>
   rw [ztB h1 hc,zdn rfl] at*
   have h2:=zrd hL hc
   subst h
   cases hv:zey ps v with
   | true=>
    rw [hv] at h2
    simp at h2
    simp [h2]
   | false=>
    rw [hv] at h2
    simp at h2
    rw [if_pos]
    ·
     rfl
    ·
     simp;omega
def vsK (a b:List Int)(k:Nat):List Int:=if k=0 then a else b
theorem ztG {I:Qu}{h1 h2 x:Hd}{k:Nat}{a b:List Int}(hx:[h1,h2][k]? =some x)(ha:Sl I 1 QP h1.a h1.n h1.c a)(hb:Sl I 1 QP h2.a h2.n h2.c b):Sl I 1 QP x.a x.n x.c (vsK a b k):=by
 rcases k with _ | _ | k
 ·
  cases hx;exact ha
 ·
  cases hx;exact hb
 ·
  simp at hx
theorem zwY {ps:List Pt}{a b:List Int}(h:JB ps≠0):zgs ps a b=JB ps:=by unfold zgs;rw [if_pos h]
theorem zxK {ps:List Pt}{a b:List Int}(h:JB ps=0)(h2:a.length>512∨b.length>512):zgs ps a b=2:=by
 unfold zgs;rw [if_neg (by omega),if_pos (by simpa using h2)]
theorem zvC {ps:List Pt}{v:List Int}(h:¬v.length>512)(h2:vrE ps v≠0):zey ps v=false∧vrE ps v=380:=by
 unfold vrE at*
 rw [if_neg h] at*
 cases hv:zey ps v with
 | true=>rw [hv] at h2;exact absurd rfl h2
 | false=>exact ⟨rfl,rfl⟩
theorem zxq {ps:List Pt}{a b:List Int}(h:JB ps=0)(h2:¬(a.length>512∨b.length>512)){k:Nat}(hk:vrE ps (vsK a b k)≠0):zgs ps a b=vrE ps (vsK a b k):=by
 have hv:=zvC (by unfold vsK;split<;>omega) hk
 rw [hv.2]
 unfold zgs
 rw [if_neg (by omega),if_neg (by simpa using h2)]
 have h3:=hv.1
 unfold vsK at h3
 split at h3
 ·
  rw [h3];rfl
 ·
  rw [h3,Bool.and_false];rfl
theorem zaJ {ps:List Pt}{v:List Int}(h:vrE ps v=0):zey ps v=true:=by
 unfold vrE at h
 split at h
 ·
  cases h
 ·
  split at h
  ·
   assumption
  ·
   cases h
theorem zv9 {ps:List Pt}{a b:List Int}(h:JB ps=0)(h2:¬(a.length>512∨b.length>512))(ha:vrE ps a=0)(hb:vrE ps b=0):zgs ps a b=0:=by
 unfold zgs
 rw [if_neg (by omega),if_neg (by simpa using h2),zaJ ha,zaJ hb];rfl
theorem zkD {ps:List Pt}{a b:List Int}(hL:Lst ps)(ha:vrE ps a=0)(hb:vrE ps b=0):Lib.compact (Yu (a++b))=Ur ps a b:=by
 have va:=(Xo hL).1 (zaJ ha)
 have vb:=(Xo hL).1 (zaJ hb)
 exact WJ (zpF hL va vb).inc fun x=>by rw [List.mem_append,zmk va vb]
theorem znT {n m:Nat}:decide (zlk (n:Int) (m:Int)>512)=true↔n>512∨m>512:=by
 unfold zlk
 split<;>simp<;>omega
theorem zcj (x:Nat×Obj)(L:Go.Kn.Loc):(x::L).Perm (L++[x]):=(List.perm_append_comm (l₁:=L) (l₂:=[x])).symm
theorem zvo {h1 h2 x:Hd}{k:Nat}(hx:[h1,h2][k]? =some x)(ha:h1.n≤100000)(hb:h2.n≤100000):x.n≤100000:=by
 rcases k with _ | _ | k
 ·
  cases hx;exact ha
 ·
  cases hx;exact hb
 ·
  simp at hx
end
section
open Go Go.Kn Go.Proofs
theorem zi3 {I:Qu}{av:Option Addr}{n c:Nat}{ps:List Pt}(hP:SlP I av n c ps)(hn:n≤512)(hL:Lst ps)(hnd:∀ p∈ps,p.n≤100000){bv:Option Addr}{n2 c2:Nat}{ys:List Int}(hT:Sl I 1 QP bv n2 c2 ys)(hn2:n2≤100000):Yc Tryz.prog 90 [.slice av n c,.slice bv n2 c2] I [] (zfE (clE ps ys) (zgD (clE ps ys) (zdx ps ys))):=by
 intro g H w hw
 refine qe Tryz.func90 Tryz.ntmps90 hw ?_
 have hIc:=zyv I
 refine zR (zA ?_)
 refine zA (zN (Ql (zR ?_)))
 refine zM ?_
 refine zQ Qy ?_
 refine zC (zN ?_)
 refine zI ?_ ?_<;>intro hc12
 ·
  have hlen:ys.length>512:=by rw [hT.len];simp at hc12;omega
  refine zR (zA ?_)
  refine zA (zN (Qs (Qc ?_)))
  first
  | exact Zo rfl rfl rfl (fun w hw=>⟨_,I,[],rfl,hIc,hw.drop,by rw [zsF hlen];exact zfE.empty rfl⟩)
 have hlen:¬ys.length>512:=by rw [hT.len];simp at hc12;omega
 refine Qo (Qa (zR (zM ?_)))
 refine Qx (cap:=[]) (vs:=[_]) rfl rfl zjG .nil (zbg hP (by omega) hL hnd) rfl rfl ?_
 rintro vv1 I1 L1 hI1 ⟨rfl,r9,rfl,hOn⟩
 have hP:=hP.mono hI1;have hT:=hT.mono hI1;have hIc:=hIc.trans hI1
 refine zA ?_
 refine zN (zR ?_)
 refine zM ?_
 refine Qx (cap:=[]) (vs:=[_]) rfl rfl zhj .nil (zbW hT (by omega)) rfl rfl ?_
 rintro vv2 I2 L2 hI2 ⟨rfl,hO⟩
 have hP:=hP.mono hI2;have hT:=hT.mono hI2;have hOn:=hOn.mono hI2;have hIc:=hIc.trans hI2
 refine zA (zN (Ql (Ql ?_)))
 refine Xk _ Zi ?_
 refine Qg (zM ?_)
 refine zQ Qy ?_
 refine zM (zN (Qm ?_))
 refine zU [(1,_),(6,_),(17,_),(18,_)] (fun T L0 mz E I' loc'=>∃ (k:Nat) (zs:List Int) (v:Value) (q:Nat) (L:Go.Kn.Loc),mz=n2-k∧E=(4,v)::(19,.int .i64 k)::T∧I2=I'∧L=loc'∧k≤n2∧OwnS 3 1 v q (zs.flatMap QP) L∧q≤n2+512*k∧zdF ps ys k zs (fun _=>false)∧(ys.take k).all (zam ps)=true) ?_ (h:=⟨0,ys,_,n2,_,rfl,rfl,rfl,rfl,Nat.zero_le _,hO,by omega,zdF.start,rfl⟩)
 rintro mz E I' loc' ⟨k,zs,v,q,L,rfl,rfl,rfl,rfl,hk,hO,hq5,hM,hall⟩
 refine zR (zC (zN (Ql ?_)))
 refine zI ?_ ?_<;>intro hc20
 ·
  have hlt_k:k<n2:=by have h:=hc20;simp at h;omega
  obtain ⟨y,hy⟩:=hT.at hlt_k
  refine Qo (Qa (Ql (Qm (zR ?_))))
  refine zV (QE rfl rfl Qy (by assumption) (fun hg=>by omega)) ?_
  refine zV (Qd rfl Qt (fun hg=>by exact zyo hT hy rfl)) ?_
  refine zA (zN (Ql (Ql ?_)))
  obtain ⟨m,hm1,hm2⟩:=hOn
  refine Qg (zM ?_)
  refine zM ?_
  refine zV (zaL (m:=m) (ek:=Value.int .i64) KE ZD rfl rfl (fun _=>.inl hm1)) ?_
  refine zV (ziX rfl rfl zoB) ?_
  refine zN ?_
  refine zI ?_ ?_<;>intro hc26
  ·
   have hmiss:zam ps y=false:=hm2.miss (Option.isNone_iff_eq_none.1 hc26)
   have hbad:clE ps ys=380:=zp2 hlen (zsr hy hmiss)
   refine zR (zA ?_)
   refine zA (zN (Qs (Qc (Qn (Qc (Qc (Qn ?_)))))))
   refine Qc ?_
   first
   | exact Zo rfl rfl rfl (fun w hw=>⟨_,I2,[],rfl,hIc,hw.drop,by rw [hbad];exact zfE.empty rfl⟩)
  obtain ⟨ref,hget⟩:∃ ref,ZC m y=some ref:=by cases hg:ZC m y with | none=>rw [hg] at hc26;cases hc26 | some r=>exact ⟨r,rfl⟩
  obtain ⟨hhas,sn,hsn,hsq⟩:=hm2.hit hget
  have hfew:=zvB hL hsq
  have hpl:=hP.len
  refine Qo (Qa (zR (zM ?_)))
  refine zM ?_
  refine zV (zaL (m:=m) (ek:=Value.int .i64) KE ZD rfl rfl (fun _=>.inl hm1)) ?_
  rw [hget]
  refine Js (ek:=Value.int .i64) (ev:=Value.bool) (m:=sn) rfl Vn rfl rfl (.inl hsn) (fun b_30=>?_)
  refine zN (Qm ?_)
  refine zU [(1,_),(6,_),(17,_),(18,_),(19,_),(30,_)] (fun T L0 mz E I' loc'=>∃ (seen:List Nat) (zs:List Int) (v:Value) (q:Nat) (L:Go.Kn.Loc),mz=sn.length-seen.length∧E=(4,v)::T∧I2=I'∧(b_30,YK ref sn.length seen)::L=loc'∧OwnS 3 1 v q (zs.flatMap QP) L∧q≤n2+512*k+seen.length∧zdF ps ys k zs (zmc sn seen)∧seen.Nodup∧∀ i∈seen,i<sn.length) ?_ (h:=⟨[],zs,v,q,L,rfl,rfl,rfl,rfl,hO,by simpa using hq5,hM.congr (fun x=>(zbJ sn x).symm),.nil,fun i h=>by cases h⟩)
  rintro mz E I' loc' ⟨seen,zs,v,q,L,rfl,rfl,rfl,rfl,hO,hq5,hM,hnd2,hlt⟩
  have hsl:=Jg hnd2 hlt
  refine zR ?_
  refine Jt (ek:=Value.int .i64) (ev:=Value.bool) (m:=sn) (fun s'=>(b_30,YK ref sn.length s')::L) rfl (fun s'=>.here) rfl rfl rfl rfl rfl (.inl hsn) (by simp) ?_
  intro t tv s' hno hyes
  refine zN (Ql ?_)
  refine zI ?_ ?_<;>intro hc32
  ·
   obtain ⟨i,q,hq,hns,rfl⟩:=hyes hc32
   refine Qo (Qa (Qm (zR ?_)))
   refine zV (Jq (ek:=Value.int .i64) (ev:=Value.bool) (m:=sn) (p:=q) (seen:=seen) (i:=i) rfl (.inl hsn) (.inr (by simp)) hq) ?_
   refine zE ?_
   refine zA (zN (Qg ?_))
   refine zM ?_
   refine zM ?_
   refine Qq (ps:=[(0,_)]) (m:=[QP q.1]) Zf rfl (.cons rfl (.nil)) rfl (by simp [Qv]) (by decide) (by decide) rfl rfl (fun b_37=>?_)
   refine QW (v:=_) (ys:=[q.1].flatMap QP) (L:=L) rfl rfl Zf hO (by repeat (first | exact .cons .here .nil | exact QD | exact Qw | apply QC | apply QA)) ⟨rfl,fun _=>rfl,zyt⟩ (JG [q.1]) (by omega) rfl rfl ?_
   intro v9 L9 hO9 _;rw [←List.flatMap_append] at hO9
   refine zA (Qb (Qh ?_))
   have hnd3:(seen++[i]).Nodup:=List.nodup_append.2 ⟨hnd2,by simp,fun a ha b hb e=>hns (by simp at hb;subst hb;subst e;exact ha)⟩
   have hlt3:∀ j∈seen++[i],j<sn.length:=fun j hj=>(List.mem_append.1 hj).elim (hlt j) (fun h=>by simp at h;subst h;exact (List.getElem?_eq_some_iff.1 hq).1)
   have hsl2:=Jg hnd3 hlt3
   rw [List.length_append,List.length_singleton] at hsl2
   exact Jj _ _ (L9++[(b_30,_)]) ⟨sn.length-(seen++[i]).length,by rw [List.length_append,List.length_singleton];omega,seen++[i],zs++[q.1],v9,_,L9,rfl,rfl,rfl,rfl,hO9,by rw [List.length_append,List.length_singleton];omega,hM.put (fun x=>zaa hq x),hnd3,hlt3⟩ (.cons rfl (.cons rfl (.cons rfl (.cons rfl (.cons rfl (.cons rfl (.cons rfl .nil))))))) (zcj _ _) (by repeat (first | exact .refl | exact Zi | refine Yj ?_ | refine .drop ?_ | refine Z6 ?_))
  obtain ⟨rfl,hall2⟩:=hno hc32
  refine QH (Qe (Qe (Qk (Qh (Qa (Qg (zB ?_)))))))
  refine zM (Qb ?_)
  exact zm (h:=⟨n2-(k+1),by omega,k+1,zs,v,q,L,rfl,rfl,rfl,rfl,by omega,hO,by omega,(hM.next hy (fun x=>zbM hsq hall2 x)),zjw hy hall hhas⟩)
 have hge_k:n2≤k:=by have h:=hc20;simp at h;omega
 rw [ZF hT.len hge_k] at hall
 have hk2:n2=k:=by omega
 refine QH (Qe (Qe (Qk (Qa (Ql (zR (zM ?_)))))))
 refine qc (vs:=[_]) rfl zqc (ztX hT hn2) ?_
 refine zO (zN ?_)
 refine zI ?_ ?_<;>intro hc42
 ·
  have hbad:clE ps ys=380:=zp2 hlen (zuy (by simpa using hc42))
  refine zR (zA ?_)
  refine zA (zN (Qs (Qc ?_)))
  first
  | exact Zo rfl rfl rfl (fun w hw=>⟨_,I2,[],rfl,hIc,hw.drop,by rw [hbad];exact zfE.empty rfl⟩)
 have hgood:clE ps ys=0:=ztB hlen (zvv (by simpa using hc42) hall)
 refine Qo (Qa (Ql ?_))
 refine Y4 hO Qv (by decide) (by repeat (first | exact .cons .here .nil | exact QD | exact Qw | apply QC | apply QA)) (fun I5 hI5 af5 cf5 ef5 hZ=>?_)
 subst ef5
 have hT:=hT.mono hI5;have hIc:=hIc.trans hI5
 refine Qg (zM ?_)
 refine Qx (cap:=[]) (vs:=[_,_]) rfl rfl zn4 .nil (zjA hZ (by have:=hT.len;omega) .nil (by omega)) rfl rfl ?_
 rintro vv6 I6 L6 hI6 ⟨rfl,av9,c9,rfl,hR⟩
 have hT:=hT.mono hI6;have hIc:=hIc.trans hI6
 refine zA ?_
 refine zA (zN (Qs ?_))
 first
 | exact Zo rfl rfl rfl (fun w hw=>⟨_,I6,[],rfl,hIc,hw.drop,by rw [hgood];exact zfE.good rfl (by rw [zdn rfl];exact zmB hL hM (by rw [hT.len];omega) hall) hR⟩)
theorem zcs {I:Qu}{av:Option Addr}{n c:Nat}{ps:List Pt}(hP:SlP I av n c ps)(hn:n≤512)(hL:Lst ps)(hnd:∀ p∈ps,p.n≤100000){bv:Option Addr}{n2 c2:Nat}{ys:List Int}(hT:Sl I 1 QP bv n2 c2 ys)(hn2:n2≤100000):Zx Tryz.prog 49 [.slice av n c,.slice bv n2 c2] I (.int .i64 (vrE ps ys)):=by
 intro g H w hw
 refine qe Tryz.func49 Tryz.ntmps49 hw ?_
 have hIc:=zyv I
 refine zR (zA ?_)
 refine zN (zR ?_)
 refine zM ?_
 refine zM ?_
 refine Qx (cap:=[]) (vs:=[_,_]) rfl rfl zvK .nil (zi3 hP hn hL hnd hT hn2) rfl rfl ?_
 rintro vv1 I1 L1 hI1 ⟨rfl,av9,c9,rfl,hR⟩
 have hT:=hT.mono hI1;have hIc:=hIc.trans hI1
 refine zM ?_
 refine zE ?_
 refine zE ?_
 refine zA ?_
 refine zA (zN (Ql (zR ?_)))
 refine zM ?_
 refine zC ?_
 refine zM ?_
 refine QG 2 rfl rfl rfl ?_
 refine zK (Qi rfl) ?_
 refine zK (ZH rfl Qy) ?_
 refine zK (Qi rfl) ?_
 refine zK (ZH rfl Qy) ?_
 refine zK (QJ rfl rfl rfl) ?_
 refine QO rfl rfl rfl rfl rfl ?_
 refine zN ?_
 refine zI ?_ ?_<;>intro hc20
 ·
  have hv:vrE ps ys=380:=by rw [←zsd (v:=ys) hL rfl,hT.len,if_pos hc20]
  refine zR (zA (zN (Qs (Qc ?_))))
  exact zp hIc rfl rfl (by rw [hv]<;>rfl)
 have hv:vrE ps ys=clE ps ys:=by rw [←zsd (v:=ys) hL rfl,hT.len,if_neg (by rw [hc20];exact Bool.false_ne_true)]
 refine Qo (Qa (zR (zM ?_)))
 refine zA (zN (Qs ?_))
 exact zp hIc rfl rfl (by rw [hv]<;>rfl)
theorem zpc {I:Qu}{av:Option Addr}{n c:Nat}{ps:List Pt}(hP:SlP I av n c ps)(hn:n≤100000){bv:Option Addr}{n2 c2:Nat}{ys:List Int}(hT:Sl I 1 QP bv n2 c2 ys)(hn2:n2≤100000){dv:Option Addr}{n3 c3:Nat}{zs:List Int}(hU:Sl I 1 QP dv n3 c3 zs):Yc Tryz.prog 24 [.slice av n c,.slice bv n2 c2,.slice dv n3 c3] I [] (zfE (zgs ps ys zs) (zgD (zgs ps ys zs) (Ur ps ys zs))):=by
 intro g H w hw
 refine qe Tryz.func24 Tryz.ntmps24 hw ?_
 have hIc:=zyv I
 refine zR (zA ?_)
 refine zA (zN (Ql (zR ?_)))
 refine zM ?_
 refine qc (vs:=[_]) rfl znq (zn1 hP hn) ?_
 refine zA ?_
 refine zN (zR ?_)
 refine zM ?_
 refine zC (zN ?_)
 refine zI ?_ ?_<;>intro hc13
 ·
  have hck:JB ps≠0:=by simpa using hc13
  refine zR (zM ?_)
  refine zA ?_
  refine zA (zN (Qs (Qc ?_)))
  first
  | exact Zo rfl rfl rfl (fun w hw=>⟨_,I,[],rfl,hIc,hw.drop,by rw [zwY hck];exact zfE.empty (zbD hck)⟩)
 have hck:JB ps=0:=by simpa using hc13
 have hn5:n≤512:=by have:=(Ky hck).1;rw [hP.len] at this;omega
 have hL:=Xb hck
 have hnd:=zmO hP hck
 refine Qo (Qa (Ql (zR (zM ?_))))
 refine zQ Qy ?_
 refine zM ?_
 refine zQ Qy ?_
 refine zV (YP rfl rfl) ?_
 refine zC (zN ?_)
 refine zI ?_ ?_<;>intro hc20
 ·
  have hlen:ys.length>512∨zs.length>512:=by rw [hT.len,hU.len];exact znT.1 hc20
  refine zR (zA ?_)
  refine zA (zN (Qs (Qc ?_)))
  first
  | exact Zo rfl rfl rfl (fun w hw=>⟨_,I,[],rfl,hIc,hw.drop,by rw [zxK hck hlen];exact zfE.empty rfl⟩)
 have hlen:¬(ys.length>512∨zs.length>512):=by rw [hT.len,hU.len];intro h;rw [znT.2 h] at hc20;cases hc20
 have hn3:n3≤100000:=by have h:=hU.len;omega
 refine Qo (Qa (Ql (zR (zM ?_))))
 refine zM ?_
 refine Qq (ps:=[(0,_),(1,_)]) (m:=[WD ⟨bv,n2,c2⟩,WD ⟨dv,n3,c3⟩]) zag rfl (.cons rfl (.cons rfl (.nil))) rfl (by simp [Q7]) (by decide) (by decide) rfl rfl (fun b_23=>?_)
 refine ZR .here (fun I1 hI1 hb1=>?_)
 have hP:=hP.mono hI1;have hT:=hT.mono hI1;have hU:=hU.mono hI1;have hIc:=hIc.trans hI1
 have hH:=Sl.lit ([⟨bv,n2,c2⟩,⟨dv,n3,c3⟩]:List Hd) rfl Q7 (show _=some (Obj.cells (([⟨bv,n2,c2⟩,⟨dv,n3,c3⟩]:List Hd).flatMap WD).toArray 23 (0,0)) from hb1)
 refine zQ Zn ?_
 refine zM (zN (Qm ?_))
 refine zU [(0,_),(1,_),(2,_),(23,_),(24,_)] (fun T L0 mz E I' loc'=>∃ (k:Nat),mz=2-k∧E=(25,.int .i64 k)::T∧I1=I'∧L0=loc'∧k≤2∧∀ j,j<k→vrE ps (vsK ys zs j)=0) ?_ (h:=⟨0,rfl,rfl,rfl,rfl,Nat.zero_le _,fun j h=>absurd h (by omega)⟩)
 rintro mz E I' loc' ⟨k,rfl,rfl,rfl,rfl,hk,hv⟩
 refine zR (zC (zN (Ql ?_)))
 refine zI ?_ ?_<;>intro hc26
 ·
  have hlt_k:k<2:=by have h:=hc26;simp at h;omega
  obtain ⟨x,hx⟩:=hH.at hlt_k
  have hxn:x.n≤100000:=zvo hx hn2 hn3
  refine Qo (Qa (Ql (Qm (zR ?_))))
  refine zV (QE rfl rfl Zn (by assumption) (fun hg=>by omega)) ?_
  refine zV (Qd rfl QK (fun hg=>by exact zyo hH hx rfl)) ?_
  refine zA ?_
  refine zN (zR ?_)
  refine zM ?_
  refine zM ?_
  refine qc (vs:=[_,_]) rfl zod (zcs hP hn5 hL hnd (ztG hx hT hU) hxn) ?_
  refine zA ?_
  refine zN (zR ?_)
  refine zM ?_
  refine zC (zN ?_)
  refine zI ?_ ?_<;>intro hc33
  ·
   have hv1:vrE ps (vsK ys zs k)≠0:=by simpa using hc33
   refine zR (zM ?_)
   refine zA ?_
   refine zA (zN (Qs (Qn (Qc (Qc (Qn (Qc ?_)))))))
   first
   | exact Zo rfl rfl rfl (fun w hw=>⟨_,I1,[],rfl,hIc,hw.drop,by rw [zxq hck hlen hv1];exact zfE.empty (zbD hv1)⟩)
  have hv1:vrE ps (vsK ys zs k)=0:=by simpa using hc33
  refine Qo (Qh (Qa (Qg (zB ?_))))
  refine zM (Qb ?_)
  exact zm (h:=⟨2-(k+1),by omega,k+1,rfl,rfl,rfl,rfl,by omega,fun j h=>by by_cases e:j=k;(subst e;exact hv1);exact hv j (by omega)⟩)
 have hge_k:2≤k:=by have h:=hc26;simp at h;omega
 refine QH (Qe (Qe (Qk (Qa (zR (zM ?_))))))
 refine zM ?_
 refine Qx (cap:=[]) (vs:=[_,_]) rfl rfl zn4 .nil (zjA hT (by omega) hU hn3) rfl rfl ?_
 rintro vv3 I3 L3 hI3 ⟨rfl,av9,c9,rfl,hR⟩
 have hIc:=hIc.trans hI3
 refine zA ?_
 refine zA (zN (Qs ?_))
 first
 | exact Zo rfl rfl rfl (fun w hw=>⟨_,I3,[],rfl,hIc,hw.drop,by have e0:=hv 0 (by omega);have e1:=hv 1 (by omega);rw [zv9 hck hlen e0 e1];exact zfE.good rfl (by rw [zdn rfl];exact zkD hL e0 e1) hR⟩)
end
section
open Go Go.Kn Go.Proofs
abbrev ziU:=Value×Nat×List Value
theorem zq2 {ps:List Pt}{ws:List Int}{k:Nat}{p:Pt}(hp:ps[k]? =some p)(h:(ws.any fun x=>x==p.id)=false):Yh (ps.take (k+1)) ws=Yh (ps.take k) ws:=by
 unfold Yh
 rw [Z2 hp,List.filter_append,List.filter_cons,h];simp
theorem zlp {ps:List Pt}{ws:List Int}{k:Nat}{p:Pt}(hp:ps[k]? =some p)(h:(ws.any fun x=>x==p.id)=true):Yh (ps.take (k+1)) ws=Yh (ps.take k) ws++[p]:=by
 unfold Yh
 rw [Z2 hp,List.filter_append,List.filter_cons,h];rfl
/-! ### Removes -/
theorem WE.start:WE [] []:=fun _s=>rfl
theorem WE.put' {mr:List (Int×ziU)}{l:List Pt}{n:Nat}{p:Pt}{v:Value}(h:WE mr l)(hk:p.kind=3):WE (Yv mr p.sign (v,n,((ZC mr p.sign).getD V8).2.2++[p.id].flatMap QP)) (l++[p]):=by
 have h1:WE mr ((l++[p]).take l.length):=by simpa using h
 have:=WE.put (v:=v) (n:=n) h1 (show (l++[p])[l.length]? =some p by simp) hk
 rw [show (l++[p]).take (l.length+1)=l++[p] from List.take_of_length_le (by simp)] at this
 exact this
theorem WE.skip' {mr:List (Int×ziU)}{l:List Pt}{p:Pt}(h:WE mr l)(hk:p.kind≠3):WE mr (l++[p]):=by
 have h1:WE mr ((l++[p]).take l.length):=by simpa using h
 have:=WE.skip h1 (show (l++[p])[l.length]? =some p by simp) hk
 rw [show (l++[p]).take (l.length+1)=l++[p] from List.take_of_length_le (by simp)] at this
 exact this
/-! ### Sets -/
def zgA (ms:List ((Int×Int)×ziU))(l:List Pt):Prop:=∀ q:Int×Int,((ZC ms q).getD V8).2.2=(stF l q.1 q.2).flatMap Yw
theorem zgA.start:zgA [] []:=fun _q=>rfl
theorem zfh (l:List Pt)(p:Pt)(s f:Int):stF (l++[p]) s f=stF l s f++(if p.kind=1∧p.sign=s∧p.field=f then [p] else []):=by
 unfold stF
 rw [List.filter_append]
 congr 1
 by_cases h:p.kind=1∧p.sign=s∧p.field=f
 ·
  rw [if_pos h];simp [h.1,h.2.1,h.2.2]
 ·
  rw [if_neg h]
  have:(p.kind==1&&(p.sign==s&&p.field==f))=false:=by
   rw [Bool.eq_false_iff];intro hc;simp at hc;exact h hc
  simp [this]
theorem zgA.put {ms:List ((Int×Int)×ziU)}{l:List Pt}{n:Nat}{p:Pt}{v:Value}(h:zgA ms l)(hk:p.kind=1):zgA (Yv ms (p.sign,p.field) (v,n,((ZC ms (p.sign,p.field)).getD V8).2.2++[p].flatMap Yw)) (l++[p]):=fun q=>by
 rw [zfh,YA]
 by_cases e:(p.sign,p.field)=q
 ·
  subst e;rw [if_pos rfl,if_pos ⟨hk,rfl,rfl⟩,List.flatMap_append,←h];rfl
 ·
  rw [if_neg e,if_neg (fun h2=>e (Prod.ext h2.2.1 h2.2.2)),List.append_nil,h q]
theorem zgA.skip {ms:List ((Int×Int)×ziU)}{l:List Pt}{p:Pt}(h:zgA ms l)(hk:p.kind≠1):zgA ms (l++[p]):=fun q=>by
 rw [zfh,if_neg (fun h2=>hk h2.1),List.append_nil,h q]
theorem Wo {l:List Pt}{s f:Int}:(stF l s f).length≤l.length:=List.length_filter_le _ _
theorem zsq {e:Nat}{ms:List ((Int×Int)×ziU)}{l:List Pt}{q:Int×Int}{L:Go.Kn.Loc}(h:zgA ms l)(hO:OwnS e 19 ((ZC ms q).getD V8).1 ((ZC ms q).getD V8).2.1 ((ZC ms q).getD V8).2.2 L):((ZC ms q).getD V8).2.1≤l.length:=by
 have h1:=hO.1
 rw [h q,ZU QY] at h1
 have h2:=Wo (l:=l) (s:=q.1) (f:=q.2)
 omega
theorem zuE {I:Qu}{e:Nat}{ms:List ((Int×Int)×ziU)}{l:List Pt}{L:Go.Kn.Loc}(h:zgA ms l)(hA:Vm e 19 (ms.map (·.2)) L)(hI:∀ b o,(b,o)∈L→I b=some o)(q:Int×Int):
  ∃ av c,((ZC ms q).getD V8).1= .slice av (stF l q.1 q.2).length c∧Sl I 19 Yw av (stF l q.1 q.2).length c (stF l q.1 q.2):=by
 obtain ⟨A,Lt,B,rfl,hO,_⟩:=hA.at q
 rw [h q] at hO
 obtain ⟨av,c,e1,e2⟩:=hO.sl QY (by decide) (fun b o hb=>hI b o (by simp [hb]))
 have hn:=e2.len
 rw [←hn] at e1 e2
 exact ⟨av,c,e1,e2⟩
/-! ### Signs that are known -/
def zcT (s:List (Int×Bool))(bs:List Sg)(l:List Pt):Prop:=∀ x,za4 s x=(WU bs x||zf0 l x)
theorem zjH {bs:List Sg}{k:Nat}{b:Sg}(hb:bs[k]? =some b)(x:Int):WU (bs.take (k+1)) x=(decide (b.id=x)||WU (bs.take k) x):=by
 unfold WU
 rw [Z2 hb,List.any_append,Bool.eq_iff_iff]
 simp [or_comm]
theorem zck (l:List Pt)(p:Pt)(x:Int):zf0 (l++[p]) x=(zf0 l x||(p.kind==2&&p.sign==x)):=by
 unfold zf0
 rw [List.any_append];simp
theorem zcT.put {s:List (Int×Bool)}{bs:List Sg}{l:List Pt}{p:Pt}(h:zcT s bs l)(hk:p.kind=2):zcT (Yv s p.sign true) bs (l++[p]):=fun x=>by
 rw [KS,h x,zck,hk,Bool.eq_iff_iff]
 simp only [Bool.or_eq_true,decide_eq_true_eq,Bool.and_eq_true,beq_iff_eq,true_and]
 constructor
 ·
  rintro (h | h | h)
  ·
   exact .inr (.inr h)
  ·
   exact .inl h
  ·
   exact .inr (.inl h)
 ·
  rintro (h | h | h)
  ·
   exact .inr (.inl h)
  ·
   exact .inr (.inr h)
  ·
   exact .inl h
theorem zcT.skip {s:List (Int×Bool)}{bs:List Sg}{l:List Pt}{p:Pt}(h:zcT s bs l)(hk:p.kind≠2):zcT s bs (l++[p]):=fun x=>by
 rw [h x,zck,show (p.kind==2)=false by simpa using hk,Bool.false_and,Bool.or_false]
theorem zf9 {s:List (Int×Bool)}{bs:List Sg}{n:Nat}(h:∀ x,za4 s x=WU (bs.take n) x)(hn:bs.length≤n):zcT s bs []:=fun x=>by
 rw [h x,List.take_of_length_le hn];simp [zf0]
theorem zo5 {ps:List Pt}(hL:Lst ps){k:Nat}{p q:Pt}(hp:ps[k]? =some p)(hq:q∈ps)(h:q.id<p.id):q∈ps.take k:=by
 obtain ⟨j,hj⟩:=List.getElem?_of_mem hq
 obtain ⟨hj1,hj2⟩:=List.getElem?_eq_some_iff.1 hj
 obtain ⟨hk1,hk2⟩:=List.getElem?_eq_some_iff.1 hp
 rw [List.mem_take_iff_getElem]
 refine ⟨j,?_,hj2⟩
 have hjk:j<k:=by
  rcases Nat.lt_or_ge j k with h3 | h3
  ·
   exact h3
  ·
   exfalso
   by_cases e:k=j
   ·
    subst e;rw [hp] at hj;cases hj;omega
   ·
    have:=List.pairwise_iff_getElem.1 hL.inc k j hk1 hj1 (by omega)
    rw [hj2,hk2] at this;omega
 omega
theorem zaX {l:List Pt}{s:Int}:zf0 l s=true↔ ∃ q∈l,q.kind=2∧q.sign=s:=by
 unfold zf0
 rw [List.any_eq_true];simp
theorem zfl {ps:List Pt}{ws:List Int}{bs:List Sg}{k:Nat}{p:Pt}{kn:Bool}(hS:Sto ps)(hp:ps[k]? =some p)(_hin:(ws.any fun x=>x==p.id)=true)(hkn:kn=(WU bs p.sign||zf0 (Yh (ps.take k) ws) p.sign)):
  (kn==(p.kind==2))= !zr0 bs (Yh ps ws) p:=by
 subst hkn
 have hpm:=List.mem_of_getElem? hp
 unfold zr0
 by_cases hk:p.kind=2
 ·
  have h1:zf0 (Yh (ps.take k) ws) p.sign=false:=by
   rw [Bool.eq_false_iff]
   intro hc
   obtain ⟨q,hq,hq2,hqs⟩:=zaX.1 hc
   obtain ⟨hq1,_⟩:=Y2.1 hq
   have hlt:=hS.lst.fresh hp q hq1
   rcases hS.ins hpm (List.mem_of_mem_take hq1) hqs.symm hq2 with rfl | ⟨h,_⟩
   ·
    omega
   ·
    exact h hk
  rw [h1,hk];simp
 ·
  have h1:zf0 (Yh (ps.take k) ws) p.sign=zf0 (Yh ps ws) p.sign:=by
   rw [Bool.eq_iff_iff,zaX,zaX]
   constructor
   ·
    rintro ⟨q,hq,h⟩
    obtain ⟨hq1,hq2⟩:=Y2.1 hq
    exact ⟨q,Y2.2 ⟨List.mem_of_mem_take hq1,hq2⟩,h⟩
   ·
    rintro ⟨q,hq,h2,hs⟩
    obtain ⟨hq1,hq2⟩:=Y2.1 hq
    rcases hS.ins hpm hq1 hs.symm h2 with rfl | ⟨_,h⟩
    ·
     exact absurd h2 hk
    ·
     exact ⟨q,Y2.2 ⟨zo5 hS.lst hp hq1 (hS.lst.on_lt h).1,hq2⟩,h2,hs⟩
  rw [h1,show (p.kind==2)=false by simpa using hk]
  have:(p.kind != 2)=true:=by simpa using hk
  rw [this]
  cases WU bs p.sign<;>cases zf0 (Yh ps ws) p.sign<;>rfl
/-! ### Signs that are inserted -/
def zbE (l:List Pt):List Sg:=(l.filter fun p=>p.kind==2).map (·.nw)
theorem zmm {l:List Pt}{p:Pt}(h:p.kind=2):zbE (l++[p])=zbE l++[p.nw]:=by
 unfold zbE;rw [List.filter_append];simp [h]
theorem zbL {l:List Pt}{p:Pt}(h:p.kind≠2):zbE (l++[p])=zbE l:=by
 unfold zbE;rw [List.filter_append];simp [h]
theorem zkC (xs:List Sg)(k:Sg):(zdi xs k).Perm (k::xs):=by
 unfold zdi
 refine List.perm_middle.trans (List.Perm.cons _ ?_)
 rw [List.takeWhile_append_dropWhile]
theorem za0:∀ (l:List Pt) (bs:List Sg),(Uj bs l).Perm (bs++zbE l)
 | [],bs=>by unfold Uj zbE;simp
 | p::l,bs=>by
  have h:=za0 l (if p.kind=2 then zdi bs p.nw else bs)
  have e:Uj bs (p::l)=Uj (if p.kind=2 then zdi bs p.nw else bs) l:=rfl
  rw [e]
  refine h.trans ?_
  by_cases hk:p.kind=2
  ·
   rw [if_pos hk]
   have e2:zbE (p::l)=p.nw::zbE l:=by unfold zbE;simp [hk]
   rw [e2]
   exact ((zkC bs p.nw).append_right _).trans List.perm_middle.symm
  ·
   rw [if_neg hk]
   have e2:zbE (p::l)=zbE l:=by unfold zbE;simp [hk]
   rw [e2]
theorem zil {xs ys:List Sg}(h1:Srt xs)(h2:Srt ys)(hp:∀ a,a∈xs↔a∈ys):xs=ys:=by
 have key:∀ {xs ys:List Sg},Srt ys→(∀ a∈xs,a∈ys)→∀ s x,Z1 xs s=some x→Z1 ys s=some x:=fun h hm s x hx=>by
  have:=zd5 h (hm x (zbu hx))
  rw [zgI hx] at this
  exact this
 refine zpg h1 h2 fun s=>?_
 cases hx:Z1 xs s with
 | some x=>exact (key h2 (fun a ha=>(hp a).1 ha) s x hx).symm
 | none=>
  cases hy:Z1 ys s with
  | none=>rfl
  | some y=>rw [key h1 (fun a ha=>(hp a).2 ha) s y hy] at hx;cases hx
theorem zks {bs zs:List Sg}{l:List Pt}(hb:Srt bs)(hS:Sto l)(hf:zfH bs l=true)(hp:zs.Perm (bs++zbE l))(hs:zs.Pairwise (fun x y=>Go.Proofs.ltOf znQ y x=false)):zs=Uj bs l:=by
 have h1:=(Xf hb hS hf).1
 have hp2:=za0 l bs
 have hnd:((Uj bs l).map (·.id)).Nodup:=by
  rw [List.nodup_iff_pairwise_ne,List.pairwise_map]
  exact List.Pairwise.imp (fun {a b} h=>by omega) h1
 have hnd2:((bs++zbE l).map (·.id)).Nodup:=(hp2.map (·.id)).nodup_iff.1 hnd
 exact zil (zlQ hp hs hnd2) h1 fun a=>(hp.trans hp2.symm).mem_iff
/-! ### The state -/
def zv2 (I:Qu)(r:Nat)(l:List Pt):Prop:=∃ ms:List ((Int×Int)×ziU),I r=some (ZN YC WL ms)∧∀ q:Int×Int,∃ av c,((ZC ms q).getD V8).1= .slice av (stF l q.1 q.2).length c∧Sl I 19 Yw av (stF l q.1 q.2).length c (stF l q.1 q.2)
theorem zv2.mono {I I':Qu}{r:Nat}{l:List Pt}(h:zv2 I r l)(hI:HLe I I'):zv2 I' r l:=by
 obtain ⟨ms,h1,h2⟩:=h
 exact ⟨ms,hI _ _ h1,fun q=>by obtain ⟨av,c,h3,h4⟩:=h2 q;exact ⟨av,c,h3,h4.mono hI⟩⟩
def zv7 (I:Qu)(r:Nat)(l:List Pt):Prop:=∃ mr:List (Int×ziU),I r=some (ZN (Value.int .i64) WL mr)∧∀ s,∃ av c,((ZC mr s).getD V8).1= .slice av (rmF l s).length c∧Sl I 1 QP av (rmF l s).length c (rmF l s)
theorem zv7.mono {I I':Qu}{r:Nat}{l:List Pt}(h:zv7 I r l)(hI:HLe I I'):zv7 I' r l:=by
 obtain ⟨mr,h1,h2⟩:=h
 exact ⟨mr,hI _ _ h1,fun s=>by obtain ⟨av,c,h3,h4⟩:=h2 s;exact ⟨av,c,h3,h4.mono hI⟩⟩
structure StQ (I:Qu)(ps l:List Pt)(xs:List Sg)(r1 r2 r3:Nat)(av:Option Addr)(n c:Nat):Prop where
 on:OnM I r1 ps
 set:zv2 I r2 l
 rem:zv7 I r3 l
 sg:Sl I 14 YZ av n c xs
 sub:∀ p∈l,p∈ps
 nd:∀ p∈ps,Nd I p
 lst:Lst ps
 few:ps.length≤512
 fewl:l.length≤512
theorem StQ.mono {I I':Qu}{ps l:List Pt}{xs:List Sg}{r1 r2 r3:Nat}{av:Option Addr}{n c:Nat}(h:StQ I ps l xs r1 r2 r3 av n c)(hI:HLe I I'):StQ I' ps l xs r1 r2 r3 av n c:=
 ⟨h.on.mono hI,h.set.mono hI,h.rem.mono hI,h.sg.mono hI,h.sub,fun p hp=>(h.nd p hp).mono hI,h.lst,h.few,h.fewl⟩
def stA (r1 r2 r3:Nat)(av:Option Addr)(n c:Nat):Value:=.agg #[.map (some r1),.map (some r2),.map (some r3),.slice av n c]
def RdQ (e:Int)(ps l:List Pt)(xs:List Sg):Value→Qu→Go.Kn.Loc→Prop:=fun v I' L=>L=[]∧∃ m1 m2 m3 av n c,v= .tuple #[.agg #[.map m1,.map m2,.map m3,.slice av n c],.int .i64 e]∧(e=0→∃ r1 r2 r3,m1=some r1∧m2=some r2∧m3=some r3∧StQ I' ps l xs r1 r2 r3 av n c)
theorem zqv {ps:List Pt}{bs:List Sg}{ws:List Int}(h:JB ps≠0):XA ps bs ws=JB ps:=by unfold XA;rw [if_pos h]
theorem zqe {ps:List Pt}{bs:List Sg}{ws:List Int}(h:JB ps=0)(h2:Wz bs≠0):XA ps bs ws=Wz bs:=by unfold XA;rw [if_neg (by omega),if_pos h2]
theorem zty {ps:List Pt}{bs:List Sg}{ws:List Int}(h:JB ps=0)(h2:Wz bs=0)(h3:vrE ps ws≠0):XA ps bs ws=vrE ps ws:=by
 unfold XA;rw [if_neg (by omega),if_neg (by omega)]
 unfold vrE at*
 split
 ·
  rfl
 ·
  rename_i h4
  rw [if_neg h4] at h3
  cases hv:zey ps ws with
  | true=>rw [hv] at h3;exact absurd rfl h3
  | false=>rfl
theorem zn2 {ps:List Pt}{ws:List Int}(h:vrE ps ws=0):¬ws.length>512:=fun h2=>by unfold vrE at h;rw [if_pos h2] at h;cases h
theorem ztz {ps:List Pt}{bs:List Sg}{ws:List Int}(h:JB ps=0)(h2:Wz bs=0)(h3:vrE ps ws=0)(h4:zfH bs (Yh ps ws)=false):XA ps bs ws=380:=by
 unfold XA;rw [if_neg (by omega),if_neg (by omega),if_neg (zn2 h3),h4,Bool.and_false];rfl
theorem zw5 {ps:List Pt}{bs:List Sg}{ws:List Int}(h:JB ps=0)(h2:Wz bs=0)(h3:vrE ps ws=0)(h4:zfH bs (Yh ps ws)=true):XA ps bs ws=0:=by
 unfold XA;rw [if_neg (by omega),if_neg (by omega),if_neg (zn2 h3),h4,zaJ h3];rfl
theorem zo2 {ps:List Pt}{bs:List Sg}{ws:List Int}{p:Pt}(hp:p∈ps)(hin:(ws.any fun x=>x==p.id)=true)(h:zr0 bs (Yh ps ws) p=false):zfH bs (Yh ps ws)=false:=by
 unfold zfH
 exact List.all_eq_false.2 ⟨p,List.mem_filter.2 ⟨hp,hin⟩,by rw [h];exact Bool.false_ne_true⟩
theorem zvq {x a b c:Nat×Obj}{Lg Ls Lr:Go.Kn.Loc}:(x::(Lg++(a::b::c::(Ls++Lr)))).Perm (Lg++(x::a::b::c::(Ls++Lr))):=List.perm_middle.symm
theorem zuW {x a b c:Nat×Obj}{Lg A L B Lr:Go.Kn.Loc}:(x::(Lg++(a::b::c::((A++(L++B))++Lr)))).Perm (L++(x::(Lg++(a::b::c::(A++(B++Lr)))))):=by
 have h1:((A++(L++B))++Lr).Perm (L++(A++(B++Lr))):=by
  rw [List.append_assoc,List.append_assoc];exact List.perm_append_comm_assoc A L _
 have h2:(x::(Lg++(a::b::c::((A++(L++B))++Lr)))).Perm (x::(Lg++(a::b::c::(L++(A++(B++Lr)))))):=((h1.cons c |>.cons b |>.cons a).append_left Lg).cons x
 refine h2.trans ?_
 have h3:(a::b::c::(L++(A++(B++Lr)))).Perm (L++(a::b::c::(A++(B++Lr)))):=List.perm_append_comm_assoc [a,b,c] L _
 refine ((h3.append_left Lg).cons x).trans ?_
 exact List.perm_append_comm_assoc (x::Lg) L _
theorem zmK {x a b c:Nat×Obj}{Lg A L B Ls:Go.Kn.Loc}:(x::(Lg++(a::b::c::(Ls++(A++(L++B)))))).Perm (L++(x::(Lg++(a::b::c::(Ls++(A++B)))))):=by
 have h1:(Ls++(A++(L++B))).Perm (L++(Ls++(A++B))):=by
  refine ((List.perm_append_comm_assoc A L B).append_left Ls).trans (List.perm_append_comm_assoc Ls L _)
 have h2:=((h1.cons c |>.cons b |>.cons a).append_left Lg).cons x
 refine h2.trans ?_
 have h3:(a::b::c::(L++(Ls++(A++B)))).Perm (L++(a::b::c::(Ls++(A++B)))):=List.perm_append_comm_assoc [a,b,c] L _
 refine ((h3.append_left Lg).cons x).trans ?_
 exact List.perm_append_comm_assoc (x::Lg) L _
end
end Go.Proofs.YtodakphagkommaaGreatDoor.R
